/- The abstract values of our logic: data as trees, own objects by number; how they are related to the model's worlds; that the relation is kept when nothing that is frozen turns. Conditions: none (a library of lemmas). -/
/- The operations of our logic: a compact instruction for each operation of the model, what it does to abstract values, and that the model's operation does just that. Conditions: none (a library of lemmas). -/
/- That each operation of the model does what its instruction says: operations that make or change no object. Conditions: none (a library of lemmas). -/
/- That each operation of the model does what its instruction says: strings, slices, fields, loads, new variables and stores. Conditions: none (a library of lemmas). -/
/- That each operation of the model does what its instruction says: new variables, stores, and all instructions together. Conditions: none (a library of lemmas). -/
/- That each operation of the model does what its instruction says: what makes or grows slices, builds structs, turns bytes to text. Conditions: none (a library of lemmas). -/
/- That each operation of the model does what its instruction says: literals, bytes and text. Conditions: none (a library of lemmas). -/
/- That each operation of the model does what its instruction says: maps, structs that are compared, interface values, functions, copies. Conditions: none (a library of lemmas). -/
/- All instructions together; regions, code and calls: the rules of our logic. Conditions: none (a library of lemmas). -/
import Derived.Below
import Derived.Laws.Cells
import Derived.Calls
import Derived.Laws.Entries
import Derived.Laws.Strings
import Derived.Laws.Build
import Derived.Lib.Strings
import Derived.Laws.MakeOwn
import Derived.Lib.ConvBytes
import Derived.Laws.Tables
import Derived.Great.BuildSlice
import Derived.Laws.BytesArg
import Derived.Laws.BytesString
import Derived.Lib.AppendStr
import Derived.Laws.StructEq
set_option linter.unusedSimpArgs false
set_option linter.unusedVariables false
set_option linter.defProp false
section
namespace Go.Ab
inductive T where
 | int (k:IntKind) (n:Int)
 | bool (b:Bool)
 | str (s:List UInt8)
 | lst (sz:Nat) (rows:List (List T))
inductive V where
 | t (x:T)
 | nils
 | nilp
 | nilf
 | nili
 | pv (cells:List T)
 | ptr (id off:Nat)
 | ep (id g i j:Nat)
 | sl (id g off len:Nat)
 | map (id:Nat)
 | bp (id:Nat)
 | bsl (id n:Nat)
 | rows (sz:Nat) (rs:List (List V))
 | agg (cs:List V)
 | tup (cs:List V)
 | fn (f:Fn) (cs:List V)
 | fnb (f:Fn) (cs:List V)
 | nilm
 | any
 | iface (ty:Nat) (u:V)
def V.zero:V→Bool
 | .t _ | .nils | .nilp | .nilf | .nili | .nilm=>true
 | _=>false
structure Pl where
 blk:Option Nat
 cap:Nat
structure ME where
 k:V
 v:V
 b:Nat
inductive Obj where
 | box (cs:List V)
 | slc (sz:Nat) (rows:List (List V))
 | map (c:Nat) (es:List ME)
 | glob (b:Nat) (o:Go.Obj)
 | tbox (t:TypeId) (cs:List V)
 | buf (e:TypeId) (bs:List UInt8)
def Obj.gen:Obj→Nat
 | .box _=>0
 | .slc _ rows=>rows.length
 | .map _ _=>0
 | .glob _ _=>0
 | .tbox _ _=>0
 | .buf _ bs=>bs.length
def Obj.like:Obj→Obj→Prop
 | .box _,.box _=>True
 | .slc a _,.slc b _=>a=b
 | .map _ _,.map _ _=>True
 | .glob b o,.glob b' o'=>b=b'∧o=o'
 | .tbox t _,.tbox t' _=>t=t'
 | .buf e _,.buf e' _=>e=e'
 | _,_=>False
abbrev Store:=List Obj
structure Cx where
 ρ:Nat→Pl
 F:Nat→Prop
 σ:Store
 w:World
mutual
def TRel (F:Nat→Prop) (w:World):T→Value→Prop
 | .int k n,v=>v=.int k n
 | .bool b,v=>v=.bool b
 | .str s,v=>v=.string ⟨s.toArray⟩
 | .lst sz rows,v=>∃ a c,v=.slice a rows.length c∧rows.length≤c∧(rows.length=0∨∃ b off,a=some ⟨b,off,none⟩∧F b∧TRows F w sz rows b off)
def TRows (F:Nat→Prop) (w:World) (sz:Nat):List (List T)→Nat→Nat→Prop
 | [],_,_=>True
 | r::rs,b,off=>r.length=sz∧TCells F w r b off∧TRows F w sz rs b (off+sz)
def TCells (F:Nat→Prop) (w:World):List T→Nat→Nat→Prop
 | [],_,_=>True
 | x::xs,b,off=>(∃ c,w.cell? ⟨b,off,none⟩=some c∧TRel F w x c)∧TCells F w xs b (off+1)
end
def SlOk (p:Pl):Obj→(off len:Nat)→Option Addr→Nat→Prop
 | .slc sz rows,off,len,a,c=>off+len≤rows.length∧(len=0∨∃ b,p.blk=some b∧a=some ⟨b,off * sz,none⟩) ∧
   (off=0→a=p.blk.map (fun b=>⟨b,0,none⟩)∧c=p.cap)
 | _,_,_,_,_=>False
mutual
def VRel (x:Cx):V→Value→Prop
 | .t y,v=>TRel x.F x.w y v
 | .nils,v=>v=.slice none 0 0
 | .nilp,v=>v=.pointer none
 | .nilf,v=>v=.nilFunc
 | .nili,v=>v=.nilIface
 | .pv cs,v=>∃ b off,v=.pointer (some ⟨b,off,none⟩)∧x.F b∧TCells x.F x.w cs b off
 | .ptr id off,v=>∃ cs b,x.σ[id]?=some (.box cs)∧(x.ρ id).blk=some b∧v=.pointer (some ⟨b,off,none⟩)
 | .ep id g i j,v=>∃ o,x.σ[id]?=some o∧g≤o.gen∧∃ a,v=.pointer (some a)∧(g=o.gen→∃ b sz rows,(x.ρ id).blk=some b∧o=.slc sz rows∧a=⟨b,i * sz+j,none⟩)
 | .sl id g off len,v=>∃ o,x.σ[id]?=some o∧g≤o.gen∧∃ a c,v=.slice a len c∧len≤c∧(g=o.gen→SlOk (x.ρ id) o off len a c)
 | .map id,v=>∃ c es b,x.σ[id]?=some (.map c es)∧(x.ρ id).blk=some b∧v=.map (some b)
 | .bp id,v=>∃ t cs b,x.σ[id]?=some (.tbox t cs)∧(x.ρ id).blk=some b∧v=.pointer (some ⟨b,0,none⟩)
 | .bsl id n,v=>∃ e bs,x.σ[id]?=some (.buf e bs)∧n≤bs.length∧(∃ a c,v=.slice a n c)∧(n=bs.length→v=.slice ((x.ρ id).blk.map fun b=>⟨b,0,none⟩) n (x.ρ id).cap)
 | .rows sz rs,v=>∃ a,v=.slice a rs.length rs.length∧(rs.length=0∨∃ b off,a=some ⟨b,off,none⟩∧x.F b∧VRows x sz rs b off)
 | .agg cs,v=>∃ l,v=.agg l.toArray∧VsRel x cs l
 | .tup cs,v=>∃ l,v=.tuple l.toArray∧VsRel x cs l
 | .fn f cs,v=>∃ l,v=.func f #[] l.toArray∧VsRel x cs l
 | .fnb f cs,v=>∃ l,v=.func f l.toArray #[]∧VsRel x cs l
 | .nilm,v=>v=.map none
 | .any,v=>v.oneCell'=true
 | .iface ty u,v=>∃ c,v=.iface ty c∧VRel x u c
def VsRel (x:Cx):List V→List Value→Prop
 | [],l=>l=[]
 | u::us,l=>∃ c cs,l=c::cs∧VRel x u c∧VsRel x us cs
def VRows (x:Cx) (sz:Nat):List (List V)→Nat→Nat→Prop
 | [],_,_=>True
 | r::rs,b,off=>r.length=sz∧VCells x r b off∧VRows x sz rs b (off+sz)
def VCells (x:Cx):List V→Nat→Nat→Prop
 | [],_,_=>True
 | u::us,b,off=>(∃ c,x.w.cell? ⟨b,off,none⟩=some c∧VRel x u c)∧VCells x us b (off+1)
end
def Unfrozen (fr:Nat × Nat) (n:Nat):Prop:=∀ i,i<n→(decide (fr.1≤i) && decide (i<fr.2))=false
def MRel (x:Cx):List ME→List MapEntry→Prop
 | [],l=>l=[]
 | e::es,l=>∃ c cs,l=c::cs∧VRel x e.k c.key∧VRel x e.v c.val∧c.born=e.b∧MRel x es cs
def Bad (sz:Nat) (rows:List (List V)):Prop:=sz≠0∧∃ n,rows=List.replicate n []
def ORel (x:Cx) (id:Nat):Obj→Prop
 | .box cs=>(x.ρ id=⟨none,1⟩∧cs.all V.zero=true)∨∃ b arr ty fr,(x.ρ id).blk=some b∧¬ x.F b∧x.w.heap[b]?=some (.cells arr ty fr)∧Unfrozen fr arr.size∧VsRel x cs arr.toList
 | .slc sz rows=>((rows=[]∨Bad sz rows)∧x.ρ id=⟨none,0⟩)∨∃ b arr ty fr l,(x.ρ id).blk=some b∧¬ x.F b∧x.w.heap[b]?=some (.cells arr ty fr)∧Unfrozen fr arr.size ∧
   rows.length≤(x.ρ id).cap∧(x.ρ id).cap * sz≤arr.size∧(∀ r∈rows,r.length=sz)∧VsRel x rows.flatten l∧l <+: arr.toList∧∀ v∈l,v.oneCell'=true
 | .map c es=>∃ b arr,(x.ρ id).blk=some b∧¬ x.F b∧x.w.heap[b]?=some (.map arr c)∧MRel x es arr.toList
 | .glob b o=>(x.ρ id).blk=none∧x.F b∧x.w.heap[b]?=some o
 | .tbox t cs=>∃ b arr,(x.ρ id).blk=some b∧¬ x.F b∧x.w.heap[b]?=some (.cells arr t (0,0))∧VsRel x cs arr.toList
 | .buf e bs=>(bs=[]∧x.ρ id=⟨none,0⟩)∨∃ b arr fz,(x.ρ id).blk=some b∧¬ x.F b∧x.w.heap[b]?=some (.cells arr e fz)∧bs≠[]∧fz.2≤bs.length∧bs.length≤(x.ρ id).cap∧(x.ρ id).cap≤maxLen∧arr.size=(x.ρ id).cap∧arr.toList.take bs.length=bs.map fun c=>Value.int .u8 c.toNat
structure WRel (x:Cx):Prop where
 objs:∀ id o,x.σ[id]?=some o→ORel x id o
 inj:∀ i j b,i≠j→i<x.σ.length→j<x.σ.length→(x.ρ i).blk=some b→(x.ρ j).blk≠some b
 low:∀ b,x.F b→b<x.w.heap.size
structure Ext (x y:Cx):Prop where
 os:y.w.os=x.w.os
 tape:y.w.tape=x.w.tape
 output:y.w.output=x.w.output
 size:x.w.heap.size≤y.w.heap.size
 F:∀ b,x.F b→y.F b
 block:∀ b,x.F b→y.w.heap[b]?=x.w.heap[b]?
 obj:∀ id o,x.σ[id]?=some o→∃ o',y.σ[id]?=some o'∧o.like o'∧o.gen≤o'.gen∧(o.gen=o'.gen→y.ρ id=x.ρ id)
structure Ext0 (x y:Cx):Prop where
 F:∀ b,x.F b→y.F b
 block:∀ b,x.F b→y.w.heap[b]?=x.w.heap[b]?
 obj:∀ id o,x.σ[id]?=some o→∃ o',y.σ[id]?=some o'∧o.like o'∧o.gen≤o'.gen∧(o.gen=o'.gen→y.ρ id=x.ρ id∨((∃ cs,o=.box cs)∧x.ρ id=⟨none,1⟩))
theorem Ext.to0 {x y:Cx} (e:Ext x y):Ext0 x y:=⟨e.F,e.block,fun id o ho=>by
 obtain ⟨o',h1,h2,h3,h4⟩:=e.obj id o ho
 exact ⟨o',h1,h2,h3,fun eq=>.inl (h4 eq)⟩⟩
theorem Obj.like_refl (o:Obj):o.like o:=by cases o <;> simp [Obj.like]
theorem Obj.like_trans {a b c:Obj} (h:a.like b) (k:b.like c):a.like c:=by
 cases a <;> cases b <;> cases c <;> simp_all [Obj.like]
theorem Ext.refl (x:Cx):Ext x x:=⟨rfl,rfl,rfl,Nat.le_refl _,fun _ h=>h,fun _ _=>rfl,fun _ o h=>⟨o,h,o.like_refl,Nat.le_refl _,fun _=>rfl⟩⟩
theorem Ext.trans {x y z:Cx} (h:Ext x y) (k:Ext y z):Ext x z where
 os:=k.os.trans h.os
 tape:=k.tape.trans h.tape
 output:=k.output.trans h.output
 size:=Nat.le_trans h.size k.size
 F:=fun b hb=>k.F b (h.F b hb)
 block:=fun b hb=>(k.block b (h.F b hb)).trans (h.block b hb)
 obj:=fun id o ho=>by
  obtain ⟨o',h1,h2,h3,h4⟩:=h.obj id o ho
  obtain ⟨o'',k1,k2,k3,k4⟩:=k.obj id o' h1
  refine ⟨o'',k1,Obj.like_trans h2 k2,Nat.le_trans h3 k3,fun e=>?_⟩
  rw [k4 (by omega),h4 (by omega)]
theorem cell_of_block {w w':World} {b:Nat} (h:w'.heap[b]?=w.heap[b]?) (off:Nat):w'.cell? ⟨b,off,none⟩=w.cell? ⟨b,off,none⟩:=by
 simp [World.cell?,h]
mutual
theorem TRel.mono {F F':Nat→Prop} {w w':World} (hF:∀ b,F b→F' b) (hb:∀ b,F b→w'.heap[b]?=w.heap[b]?):∀ (t:T) (v:Value),TRel F w t v→TRel F' w' t v
 | .int _ _,_,h=>by simpa [TRel] using h
 | .bool _,_,h=>by simpa [TRel] using h
 | .str _,_,h=>by simpa [TRel] using h
 | .lst sz rows,v,h=>by
  simp only [TRel] at h ⊢
  obtain ⟨a,c,hv,hc,h⟩:=h
  refine ⟨a,c,hv,hc,h.imp id ?_⟩
  rintro ⟨b,off,ha,hf,hr⟩
  exact ⟨b,off,ha,hF b hf,TRows.mono hF hb sz rows b off hf hr⟩
theorem TRows.mono {F F':Nat→Prop} {w w':World} (hF:∀ b,F b→F' b) (hb:∀ b,F b→w'.heap[b]?=w.heap[b]?) (sz:Nat):∀ (rows:List (List T)) (b off:Nat),F b→TRows F w sz rows b off→TRows F' w' sz rows b off
 | [],_,_,_,_=>by simp [TRows]
 | r::rs,b,off,hf,h=>by
  simp only [TRows] at h ⊢
  exact ⟨h.1,TCells.mono hF hb r b off hf h.2.1,TRows.mono hF hb sz rs b (off+sz) hf h.2.2⟩
theorem TCells.mono {F F':Nat→Prop} {w w':World} (hF:∀ b,F b→F' b) (hb:∀ b,F b→w'.heap[b]?=w.heap[b]?):∀ (cs:List T) (b off:Nat),F b→TCells F w cs b off→TCells F' w' cs b off
 | [],_,_,_,_=>by simp [TCells]
 | x::xs,b,off,hf,h=>by
  simp only [TCells] at h ⊢
  obtain ⟨⟨c,hc,hx⟩,h⟩:=h
  exact ⟨⟨c,(cell_of_block (hb b hf) off).trans hc,TRel.mono hF hb x c hx⟩,TCells.mono hF hb xs b (off+1) hf h⟩
end
theorem SlOk.like {p:Pl} {o o':Obj} (hl:o.like o') (hg:o.gen=o'.gen) {off len:Nat} {a:Option Addr} {c:Nat} (h:SlOk p o off len a c):SlOk p o' off len a c:=by
 cases o <;> cases o' <;> simp_all [SlOk,Obj.like,Obj.gen]
mutual
theorem VRel.mono0 {x y:Cx} (e:Ext0 x y):∀ (u:V) (v:Value),VRel x u v→VRel y u v
 | .t t,v,h=>by simp only [VRel] at h ⊢; exact TRel.mono e.F e.block t v h
 | .nils,_,h=>by simpa [VRel] using h
 | .nilp,_,h=>by simpa [VRel] using h
 | .nilf,_,h=>by simpa [VRel] using h
 | .nilm,_,h=>by simpa [VRel] using h
 | .any,_,h=>by simpa [VRel] using h
 | .nili,_,h=>by simpa [VRel] using h
 | .pv cs,v,h=>by
  simp only [VRel] at h ⊢
  obtain ⟨b,off,hv,hf,hc⟩:=h
  exact ⟨b,off,hv,e.F b hf,TCells.mono e.F e.block cs b off hf hc⟩
 | .ptr id off,v,h=>by
  simp only [VRel] at h ⊢
  obtain ⟨cs,b,ho,hb,hv⟩:=h
  obtain ⟨o',ho',hl,hle,hρ⟩:=e.obj id _ ho
  cases o' with
  | box cs' =>
   refine ⟨cs',b,ho',?_,hv⟩
   rcases hρ rfl with h | ⟨_,h⟩
   ·rw [h]; exact hb
   ·rw [h] at hb; cases hb
  | map _ _=>simp [Obj.like] at hl
  | glob _ _=>simp [Obj.like] at hl
  | tbox _ _=>simp [Obj.like] at hl
  | buf _ _=>simp [Obj.like] at hl
  | slc _ _=>simp [Obj.like] at hl
 | .sl id g off len,v,h=>by
  simp only [VRel] at h ⊢
  obtain ⟨o,ho,hg,a,c,hv,hc,h⟩:=h
  obtain ⟨o',ho',hl,hle,hρ⟩:=e.obj id o ho
  refine ⟨o',ho',by omega,a,c,hv,hc,fun eq=>?_⟩
  rcases hρ (by omega) with h' | ⟨⟨_,rfl⟩,_⟩
  ·rw [h']; exact SlOk.like hl (by omega) (h (by omega))
  ·exact (h (by omega)).elim
 | .map id,v,h=>by
  simp only [VRel] at h ⊢
  obtain ⟨c,es,b,ho,hb,hv⟩:=h
  obtain ⟨o',ho',hl,hle,hρ⟩:=e.obj id _ ho
  cases o' with
  | map c' es' =>
   refine ⟨c',es',b,ho',?_,hv⟩
   rcases hρ rfl with h | ⟨_,h⟩
   ·rw [h]; exact hb
   ·rw [h] at hb; cases hb
  | box _=>simp [Obj.like] at hl
  | glob _ _=>simp [Obj.like] at hl
  | tbox _ _=>simp [Obj.like] at hl
  | buf _ _=>simp [Obj.like] at hl
  | slc _ _=>simp [Obj.like] at hl
 | .bp id,v,h=>by
  simp only [VRel] at h ⊢
  obtain ⟨t,cs,b,ho,hb,hv⟩:=h
  obtain ⟨o',ho',hl,hle,hρ⟩:=e.obj id _ ho
  cases o' with
  | tbox t' cs' =>
   refine ⟨t',cs',b,ho',?_,hv⟩
   rcases hρ rfl with h | ⟨_,h⟩
   ·rw [h]; exact hb
   ·rw [h] at hb; cases hb
  | _=>simp [Obj.like] at hl
 | .bsl id n,v,h=>by
  simp only [VRel] at h ⊢
  obtain ⟨et,bs,ho,hn,ha,h⟩:=h
  obtain ⟨o',ho',hl,hle,hρ⟩:=e.obj id _ ho
  cases o' with
  | buf e' bs' =>
   simp only [Obj.gen] at hle hρ
   refine ⟨e',bs',ho',by omega,ha,fun eq=>?_⟩
   rcases hρ (by omega) with h' | ⟨⟨_,h'⟩,_⟩
   ·rw [h']; exact h (by omega)
   ·cases h'
  | _=>simp [Obj.like] at hl
 | .ep id g i j,v,h=>by
  simp only [VRel] at h ⊢
  obtain ⟨o,ho,hg,a,hv,h⟩:=h
  obtain ⟨o',ho',hl,hle,hρ⟩:=e.obj id o ho
  refine ⟨o',ho',by omega,a,hv,fun eq=>?_⟩
  obtain ⟨b,sz,rows,h1,rfl,h3⟩:=h (by omega)
  cases o' with
  | slc sz' rows' =>
   simp only [Obj.like] at hl
   subst hl
   refine ⟨b,_,rows',?_,rfl,h3⟩
   rcases hρ (by omega) with h' | ⟨⟨_,h'⟩,_⟩
   ·rw [h']; exact h1
   ·cases h'
  | box _=>simp [Obj.like] at hl
  | map _ _=>simp [Obj.like] at hl
  | glob _ _=>simp [Obj.like] at hl
  | tbox _ _=>simp [Obj.like] at hl
  | buf _ _=>simp [Obj.like] at hl
 | .rows sz rs,v,h=>by
  simp only [VRel] at h ⊢
  obtain ⟨a,hv,h⟩:=h
  refine ⟨a,hv,h.imp id ?_⟩
  rintro ⟨b,off,ha,hf,hr⟩
  exact ⟨b,off,ha,e.F b hf,VRows.mono0 e sz rs b off hf hr⟩
 | .agg cs,v,h=>by
  simp only [VRel] at h ⊢
  obtain ⟨l,hv,h⟩:=h
  exact ⟨l,hv,VsRel.mono0 e cs l h⟩
 | .tup cs,v,h=>by
  simp only [VRel] at h ⊢
  obtain ⟨l,hv,h⟩:=h
  exact ⟨l,hv,VsRel.mono0 e cs l h⟩
 | .fn f cs,v,h=>by
  simp only [VRel] at h ⊢
  obtain ⟨l,hv,h⟩:=h
  exact ⟨l,hv,VsRel.mono0 e cs l h⟩
 | .fnb f cs,v,h=>by
  simp only [VRel] at h ⊢
  obtain ⟨l,hv,h⟩:=h
  exact ⟨l,hv,VsRel.mono0 e cs l h⟩
 | .iface ty u,v,h=>by
  simp only [VRel] at h ⊢
  obtain ⟨c,hv,h⟩:=h
  exact ⟨c,hv,VRel.mono0 e u c h⟩
theorem VsRel.mono0 {x y:Cx} (e:Ext0 x y):∀ (us:List V) (l:List Value),VsRel x us l→VsRel y us l
 | [],_,h=>by simpa [VsRel] using h
 | u::us,l,h=>by
  simp only [VsRel] at h ⊢
  obtain ⟨c,cs,hl,hu,h⟩:=h
  exact ⟨c,cs,hl,VRel.mono0 e u c hu,VsRel.mono0 e us cs h⟩
theorem VRows.mono0 {x y:Cx} (e:Ext0 x y) (sz:Nat):∀ (rows:List (List V)) (b off:Nat),x.F b→VRows x sz rows b off→VRows y sz rows b off
 | [],_,_,_,_=>by simp [VRows]
 | r::rs,b,off,hf,h=>by
  simp only [VRows] at h ⊢
  exact ⟨h.1,VCells.mono0 e r b off hf h.2.1,VRows.mono0 e sz rs b (off+sz) hf h.2.2⟩
theorem VCells.mono0 {x y:Cx} (e:Ext0 x y):∀ (cs:List V) (b off:Nat),x.F b→VCells x cs b off→VCells y cs b off
 | [],_,_,_,_=>by simp [VCells]
 | u::us,b,off,hf,h=>by
  simp only [VCells] at h ⊢
  obtain ⟨⟨c,hc,hx⟩,h⟩:=h
  exact ⟨⟨c,(cell_of_block (e.block b hf) off).trans hc,VRel.mono0 e u c hx⟩,VCells.mono0 e us b (off+1) hf h⟩
end
theorem MRel.mono0 {x y:Cx} (e:Ext0 x y):∀ {es:List ME} {l:List MapEntry},MRel x es l→MRel y es l
 | [],_,h=>by simpa [MRel] using h
 | m::es,l,h=>by
  simp only [MRel] at h ⊢
  obtain ⟨c,cs,hl,h1,h2,hb,h3⟩:=h
  exact ⟨c,cs,hl,VRel.mono0 e _ _ h1,VRel.mono0 e _ _ h2,hb,MRel.mono0 e h3⟩
theorem ORel.keep0 {x y:Cx} (e:Ext0 x y) {id:Nat} (hρ:y.ρ id=x.ρ id) (hb:∀ b,(x.ρ id).blk=some b→b<x.w.heap.size→¬ x.F b→y.w.heap[b]?=x.w.heap[b]?∧¬ y.F b) {o:Obj} (h:ORel x id o):ORel y id o:=by
 cases o with
 | box cs =>
  rcases h with ⟨h1,h2⟩ | ⟨b,arr,ty,fr,h1,h2,h3,h4,h5⟩
  ·exact .inl ⟨hρ.trans h1,h2⟩
  obtain ⟨k1,k2⟩:=hb b h1 (Array.getElem?_eq_some_iff.1 h3).1 h2
  exact .inr ⟨b,arr,ty,fr,hρ ▸ h1,k2,k1.trans h3,h4,VsRel.mono0 e _ _ h5⟩
 | slc sz rows =>
  rcases h with ⟨h1,h2⟩ | ⟨b,arr,ty,fr,l,h1,h2,h3,h4,h5,h6,h7,h8,h9⟩
  ·exact .inl ⟨h1,hρ.trans h2⟩
  ·obtain ⟨k1,k2⟩:=hb b h1 (Array.getElem?_eq_some_iff.1 h3).1 h2
   exact .inr ⟨b,arr,ty,fr,l,hρ ▸ h1,k2,k1.trans h3,h4,hρ ▸ h5,hρ ▸ h6,h7,VsRel.mono0 e _ _ h8,h9⟩
 | map c es =>
  obtain ⟨b,arr,h1,h2,h3,h4⟩:=h
  obtain ⟨k1,k2⟩:=hb b h1 (Array.getElem?_eq_some_iff.1 h3).1 h2
  exact ⟨b,arr,hρ ▸ h1,k2,k1.trans h3,MRel.mono0 e h4⟩
 | glob b o=>exact ⟨hρ ▸ h.1,e.F b h.2.1,(e.block b h.2.1).trans h.2.2⟩
 | tbox t cs =>
  obtain ⟨b,arr,h1,h2,h3,h4⟩:=h
  obtain ⟨k1,k2⟩:=hb b h1 (Array.getElem?_eq_some_iff.1 h3).1 h2
  exact ⟨b,arr,hρ ▸ h1,k2,k1.trans h3,VsRel.mono0 e _ _ h4⟩
 | buf et bs =>
  rcases h with ⟨h1,h2⟩ | ⟨b,arr,fz,h1,h2,h3,h4⟩
  ·exact .inl ⟨h1,hρ.trans h2⟩
  ·obtain ⟨k1,k2⟩:=hb b h1 (Array.getElem?_eq_some_iff.1 h3).1 h2
   exact .inr ⟨b,arr,fz,hρ ▸ h1,k2,k1.trans h3,hρ ▸ h4⟩
theorem ORel.blk_lt {x:Cx} {id:Nat} {o:Obj} (h:ORel x id o) {b:Nat} (hb:(x.ρ id).blk=some b):b<x.w.heap.size∧¬ x.F b:=by
 cases o with
 | box cs =>
  rcases h with ⟨h1,_⟩ | ⟨b',arr,ty,fr,h1,h2,h3,h4,h5⟩
  ·rw [h1] at hb; cases hb
  rw [h1] at hb; obtain rfl:=Option.some.inj hb
  exact ⟨(Array.getElem?_eq_some_iff.1 h3).1,h2⟩
 | slc sz rows =>
  rcases h with ⟨h1,h2⟩ | ⟨b',arr,ty,fr,l,h1,h2,h3,h4⟩
  ·rw [h2] at hb; cases hb
  ·rw [h1] at hb; obtain rfl:=Option.some.inj hb
   exact ⟨(Array.getElem?_eq_some_iff.1 h3).1,h2⟩
 | map c es =>
  obtain ⟨b',arr,h1,h2,h3,h4⟩:=h
  rw [h1] at hb; obtain rfl:=Option.some.inj hb
  exact ⟨(Array.getElem?_eq_some_iff.1 h3).1,h2⟩
 | glob b' o=>rw [h.1] at hb; cases hb
 | tbox t cs =>
  obtain ⟨b',arr,h1,h2,h3,h4⟩:=h
  rw [h1] at hb; obtain rfl:=Option.some.inj hb
  exact ⟨(Array.getElem?_eq_some_iff.1 h3).1,h2⟩
 | buf et bs =>
  rcases h with ⟨h1,h2⟩ | ⟨b',arr,fz,h1,h2,h3,h4⟩
  ·rw [h2] at hb; cases hb
  ·rw [h1] at hb; obtain rfl:=Option.some.inj hb
   exact ⟨(Array.getElem?_eq_some_iff.1 h3).1,h2⟩
theorem VRel.mono {x y:Cx} (e:Ext x y) (u:V) (v:Value) (h:VRel x u v):VRel y u v:=VRel.mono0 e.to0 u v h
theorem VsRel.mono {x y:Cx} (e:Ext x y) (us:List V) (l:List Value) (h:VsRel x us l):VsRel y us l:=VsRel.mono0 e.to0 us l h
theorem VRows.mono {x y:Cx} (e:Ext x y) (sz:Nat) (rows:List (List V)) (b off:Nat) (hf:x.F b) (h:VRows x sz rows b off):VRows y sz rows b off:=VRows.mono0 e.to0 sz rows b off hf h
theorem VCells.mono {x y:Cx} (e:Ext x y) (cs:List V) (b off:Nat) (hf:x.F b) (h:VCells x cs b off):VCells y cs b off:=VCells.mono0 e.to0 cs b off hf h
theorem MRel.mono {x y:Cx} (e:Ext x y) {es:List ME} {l:List MapEntry} (h:MRel x es l):MRel y es l:=MRel.mono0 e.to0 h
theorem ORel.keep {x y:Cx} (e:Ext x y) {id:Nat} (hρ:y.ρ id=x.ρ id) (hb:∀ b,(x.ρ id).blk=some b→b<x.w.heap.size→¬ x.F b→y.w.heap[b]?=x.w.heap[b]?∧¬ y.F b) {o:Obj} (h:ORel x id o):ORel y id o:=ORel.keep0 e.to0 hρ hb h
def upd (ρ:Nat→Pl) (n:Nat) (p:Pl):Nat→Pl:=fun i=>if i=n then p else ρ i
@[simp] theorem upd_same (ρ:Nat→Pl) (n:Nat) (p:Pl):upd ρ n p n=p:=by simp [upd]
theorem upd_other (ρ:Nat→Pl) (n:Nat) (p:Pl) {i:Nat} (h:i≠n):upd ρ n p i=ρ i:=by simp [upd,h]
theorem ext_drew (x:Cx):Ext x { x with w:=x.w.drew } :=
 ⟨rfl,rfl,rfl,Nat.le_refl _,fun _ h=>h,fun _ _=>rfl,fun _ o h=>⟨o,h,o.like_refl,Nat.le_refl _,fun _=>rfl⟩⟩
theorem wrel_drew {x:Cx} (h:WRel x):WRel { x with w:=x.w.drew } where
 objs:=fun id o ho=>ORel.keep (ext_drew x) rfl (fun b _ _ hf=>⟨rfl,hf⟩) (h.objs id o ho)
 inj:=h.inj
 low:=h.low
theorem heap_alloc_lt (w:World) (o:Go.Obj) {k:Nat} (h:k<w.heap.size):(w.alloc o).heap[k]?=w.heap[k]?:=by
 show (w.heap.push o)[k]?=_
 rw [Array.getElem?_push,if_neg (by omega)]
theorem heap_alloc_new (w:World) (o:Go.Obj):(w.alloc o).heap[w.heap.size]?=some o:=by
 show (w.heap.push o)[w.heap.size]?=_
 simp
def Cx.frz (x:Cx) (o:Go.Obj):Cx:={ x with F:=fun b=>x.F b∨b=x.w.heap.size,w:=x.w.alloc o }
theorem ext_frz {x:Cx} (h:WRel x) (o:Go.Obj):Ext x (x.frz o) :=
 ⟨rfl,rfl,rfl,by simp [Cx.frz],fun _ h=>.inl h,fun b hb=>heap_alloc_lt _ _ (h.low b hb),fun _ o h=>⟨o,h,o.like_refl,Nat.le_refl _,fun _=>rfl⟩⟩
theorem wrel_frz {x:Cx} (h:WRel x) (o:Go.Obj):WRel (x.frz o) where
 objs:=fun id o' ho=>ORel.keep (ext_frz h o) rfl (fun b _ hlt hf=>⟨heap_alloc_lt _ _ hlt,fun hh=>hh.elim hf (fun e=>by omega)⟩) (h.objs id o' ho)
 inj:=h.inj
 low:=fun b hb=>by
  simp only [Cx.frz,World.size_alloc]
  rcases hb with hb | hb
  ·have:=h.low b hb; omega
  ·omega
def Cx.neu (x:Cx) (ob:Obj) (cap:Nat) (o:Go.Obj):Cx:={ x with ρ:=upd x.ρ x.σ.length ⟨some x.w.heap.size,cap⟩,σ:=x.σ++[ob],w:=x.w.alloc o }
theorem get_app {α:Type} {l:List α} {a:α} {i:Nat} {o:α} (h:l[i]?=some o):(l++[a])[i]?=some o:=by
 rw [List.getElem?_append_left (List.getElem?_eq_some_iff.1 h).1]; exact h
theorem ext_neu {x:Cx} (h:WRel x) (ob:Obj) (cap:Nat) (o:Go.Obj):Ext x (x.neu ob cap o) :=
 ⟨rfl,rfl,rfl,by simp [Cx.neu],fun _ h=>h,fun b hb=>heap_alloc_lt _ _ (h.low b hb),fun id o ho =>
  ⟨o,get_app ho,o.like_refl,Nat.le_refl _,fun _=>upd_other _ _ _ (by have:=(List.getElem?_eq_some_iff.1 ho).1; omega)⟩⟩
theorem wrel_neu {x:Cx} (h:WRel x) {ob:Obj} {cap:Nat} {o:Go.Obj} (hn:ORel (x.neu ob cap o) x.σ.length ob):WRel (x.neu ob cap o) where
 objs:=fun id o' ho=>by
  by_cases e:id<x.σ.length
  ·have ho':x.σ[id]?=some o':=by
    have:(x.σ++[ob])[id]?=some o':=ho
    rwa [List.getElem?_append_left e] at this
   exact ORel.keep (ext_neu h ob cap o) (upd_other _ _ _ (by omega)) (fun b _ hlt hf=>⟨heap_alloc_lt _ _ hlt,hf⟩) (h.objs id o' ho')
  ·have:(x.σ++[ob])[id]?=some o':=ho
   have hid:id=x.σ.length:=by
    have:=(List.getElem?_eq_some_iff.1 this).1
    simp at this; omega
   subst hid
   simp at this
   subst this
   exact hn
 inj:=fun i j b hij hi hj hb=>by
  simp only [Cx.neu,List.length_append,List.length_singleton] at hi hj hb ⊢
  by_cases ei:i=x.σ.length
  ·subst ei
   rw [upd_same] at hb
   rw [upd_other _ _ _ (by omega)]
   intro hb'
   have hj':j<x.σ.length:=by omega
   have:=(ORel.blk_lt (h.objs j x.σ[j] (by simp [hj'])) hb').1
   simp at hb; omega
  ·rw [upd_other _ _ _ ei] at hb
   by_cases ej:j=x.σ.length
   ·subst ej
    rw [upd_same]
    intro hb'
    have hi':i<x.σ.length:=by omega
    have:=(ORel.blk_lt (h.objs i x.σ[i] (by simp [hi'])) hb).1
    simp at hb'; omega
   ·rw [upd_other _ _ _ ej]
    exact h.inj i j b hij (by omega) (by omega) hb
 low:=fun b hb=>by
  have:=h.low b hb
  simp only [Cx.neu,World.size_alloc]; omega
def Cx.put (x:Cx) (id:Nat) (pl:Pl) (ob:Obj) (w':World):Cx:={ x with ρ:=upd x.ρ id pl,σ:=x.σ.set id ob,w:=w' }
theorem ext_put {x:Cx} (h:WRel x) {id:Nat} {o ob:Obj} {pl:Pl} {w':World} (ho:x.σ[id]?=some o) (hl:o.like ob) (hg:o.gen≤ob.gen) (hp:o.gen=ob.gen→pl=x.ρ id)
  (h1:w'.os=x.w.os) (h2:w'.tape=x.w.tape) (h3:w'.output=x.w.output) (hs:x.w.heap.size≤w'.heap.size)
  (hk:∀ k,k<x.w.heap.size→(x.ρ id).blk≠some k→w'.heap[k]?=x.w.heap[k]?):Ext x (x.put id pl ob w') where
 os:=h1
 tape:=h2
 output:=h3
 size:=hs
 F:=fun _ h=>h
 block:=fun b hb=>hk b (h.low b hb) (fun e=>(ORel.blk_lt (h.objs id o ho) e).2 hb)
 obj:=fun i o' hi=>by
  have hid:=(List.getElem?_eq_some_iff.1 ho).1
  by_cases e:i=id
  ·subst e
   rw [ho] at hi; obtain rfl:=Option.some.inj hi
   exact ⟨ob,by simp [Cx.put,hid],hl,hg,fun e=>by simp [Cx.put,hp e]⟩
  ·refine ⟨o',?_,o'.like_refl,Nat.le_refl _,fun _=>upd_other _ _ _ e⟩
   simp only [Cx.put]
   rw [List.getElem?_set_ne (by omega)]
   exact hi
theorem wrel_put {x:Cx} (h:WRel x) {id:Nat} {o ob:Obj} {pl:Pl} {w':World} (ho:x.σ[id]?=some o) (hl:o.like ob) (hg:o.gen≤ob.gen) (hp:o.gen=ob.gen→pl=x.ρ id)
  (h1:w'.os=x.w.os) (h2:w'.tape=x.w.tape) (h3:w'.output=x.w.output) (hs:x.w.heap.size≤w'.heap.size)
  (hk:∀ k,k<x.w.heap.size→(x.ρ id).blk≠some k→w'.heap[k]?=x.w.heap[k]?)
  (hb:∀ b,pl.blk=some b→(x.ρ id).blk=some b∨x.w.heap.size≤b) (hn:ORel (x.put id pl ob w') id ob):WRel (x.put id pl ob w') where
 objs:=fun i o' hi=>by
  have hid:=(List.getElem?_eq_some_iff.1 ho).1
  by_cases e:i=id
  ·subst e
   have:(x.σ.set i ob)[i]?=some o':=hi
   simp [hid] at this
   subst this
   exact hn
  ·have hi':x.σ[i]?=some o':=by
    have:(x.σ.set id ob)[i]?=some o':=hi
    rwa [List.getElem?_set_ne (by omega)] at this
   have hlt:=(List.getElem?_eq_some_iff.1 hi').1
   exact ORel.keep (ext_put h ho hl hg hp h1 h2 h3 hs hk) (upd_other _ _ _ e) (fun b hb' hlt' hf=>⟨hk b hlt' (fun e'=>h.inj id i b (by omega) hid hlt e' hb'),hf⟩) (h.objs i o' hi')
 inj:=fun i j b hij hi hj hbi=>by
  simp only [Cx.put,List.length_set] at hi hj hbi ⊢
  have hid:=(List.getElem?_eq_some_iff.1 ho).1
  by_cases ei:i=id
  ·subst ei
   rw [upd_same] at hbi
   rw [upd_other _ _ _ (by omega)]
   rcases hb b hbi with hh | hh
   ·exact h.inj i j b hij hi hj hh
   ·intro hj'
    have:=(ORel.blk_lt (h.objs j x.σ[j] (by simp [hj])) hj').1
    omega
  ·rw [upd_other _ _ _ ei] at hbi
   by_cases ej:j=id
   ·subst ej
    rw [upd_same]
    intro hj'
    rcases hb b hj' with hh | hh
    ·exact h.inj i j b hij hi hj hbi hh
    ·have:=(ORel.blk_lt (h.objs i x.σ[i] (by simp [hi])) hbi).1
     omega
   ·rw [upd_other _ _ _ ej]
    exact h.inj i j b hij hi hj hbi
 low:=fun b hb'=>Nat.lt_of_lt_of_le (h.low b hb') hs
end Go.Ab
end
section
namespace Go.Ab
abbrev Env:=List (Nat × V)
def eget:Env→Nat→Option V
 | [],_=>none
 | (k,u)::e,n=>if n=k then some u else eget e n
inductive O where
 | t (k:Nat)
 | c (v:V)
 | m (k:Nat) (name:String)
def opv (e:Env):O→Option V
 | .t k=>eget e k
 | .c v=>some v
 | .m _ _=>none
def opvs (e:Env):List O→Option (List V)
 | []=>some []
 | o::os=>match opv e o,opvs e os with
  | some u,some us=>some (u::us)
  | _,_=>none
inductive SK where
 | int (k:IntKind)
 | bool
 | str
inductive KD where
 | one (s:SK)
 | st (ks:List SK)
inductive I where
 | mv (x:O)
 | pick (c a b:O)
 | new (cs:List V)
 | box (x:O)
 | load (n:Option Nat) (a:O)
 | store (n:Nat) (a x:O)
 | nilCheck (x:O)
 | bin (op:BinOp) (x y:O)
 | eqB (neg:Bool) (x y:O)
 | eqP (neg:Bool) (x y:O)
 | eqS (neg:Bool) (x y:O)
 | eqI (neg:Bool) (x y:O)
 | un (op:UnOp) (x:O)
 | convInt (k:IntKind) (x:O)
 | sliceStr (x:O) (lo hi:Option O)
 | sliceSl (n:Nat) (x:O) (lo hi:Option O)
 | fieldAddr (off:Nat) (x:O)
 | field (off:Nat) (n:Option Nat) (x:O)
 | indexAddr (n:Nat) (x i:O)
 | index (x i:O)
 | extract (x:O) (k:Nat)
 | len (str:Bool) (x:O)
 | mkSl (sz bys:Nat) (z:List V) (l c:O)
 | lit (how:Option Bool) (sz n:Nat) (z:List V) (parts:List (Nat × O))
 | append (sz bys:Nat) (x y:O)
 | newB (t et:TypeId)
 | newP (zs:List V)
 | appS (bys:Nat) (x y:O)
 | build (z:List V) (parts:List (Nat × Nat × O))
 | convStr (x:O)
 | strBytes (x:O)
 | bytesStr (x:O)
 | mkMap
 | look (kd:KD) (ok:Bool) (z:V) (m k:O)
 | mapUp (kd:KD) (m k v:O)
 | mapEnt (kd:KD) (z:V) (m k:O)
 | entSt (m s v:O)
 | lenM (x:O)
 | eqA (neg:Bool) (ks:List SK) (x y:O)
 | iface (ty:Nat) (x:O)
 | fn (f:FuncId) (caps:List O)
 | fnb (f:FuncId) (caps:List O)
 | copy (sz:Nat) (x y:O)
 | clr (sz:Nat) (z:List V) (x:O)
 | mm (mx:Bool) (x y:O)
 | call (f:O) (args:List O)
 | callQ (f:O) (args:List O)
def cellsOf:V→Option (List V)
 | .agg cs=>some cs
 | .tup _=>none
 | u=>some [u]
def one:V→Bool
 | .agg _ | .tup _=>false
 | _=>true
inductive Tok where
 | go
def condP (v:Bool) (A B:Tok→Prop):Prop:=(v=true→A .go)∧(v=false→B .go)
theorem condP_true (A B:Tok→Prop):condP true A B=A .go:=by simp [condP]
theorem condP_false (A B:Tok→Prop):condP false A B=B .go:=by simp [condP]
def condV:Option V→(Tok→Prop)→(Tok→Prop)→Prop
 | some (.t (.bool v)),A,B=>condP v A B
 | _,_,_=>False
def onV:Option V→(Tok→V→Prop)→Prop
 | some u,K=>K .go u
 | none,_=>False
def ldT:Option Nat→List T→(Tok→V→Prop)→Prop
 | none,t::_,K=>K .go (.t t)
 | none,[],_=>False
 | some n,cs,K=>n≤cs.length∧K .go (.agg ((cs.take n).map .t))
def ldV:Option Nat→List V→(Tok→V→Prop)→Prop
 | none,u::_,K=>one u=true∧K .go u
 | none,[],_=>False
 | some n,cs,K=>n≤cs.length∧K .go (.agg (cs.take n))
def onBox:Option Obj→(Tok→List V→Prop)→Prop
 | some (.box cs),K=>K .go cs
 | _,_=>False
def onSlc:Option Obj→(Tok→Nat→List (List V)→Prop)→Prop
 | some (.slc sz rows),K=>K .go sz rows
 | _,_=>False
def onRow {α:Type}:Option α→(Tok→α→Prop)→Prop
 | some r,K=>K .go r
 | none,_=>False
def evLoad (n:Option Nat) (σ:Store):V→(Tok→V→Prop)→Prop
 | .pv cs,K=>ldT n cs K
 | .ptr id off,K=>onBox σ[id]? fun t cs=>ldV n (cs.drop off) fun _ u=>K t u
 | .ep id g i j,K=>onSlc σ[id]? fun t _ rows=>g=rows.length∧onRow rows[i]? fun _ r=>ldV n (r.drop j) fun _ u=>K t u
 | _,_=>False
def putAt (cs:List V) (off:Nat) (us:List V):List V:=cs.take off++us++cs.drop (off+us.length)
def evStoreTo (n:Nat) (σ:Store) (us:List V) (K:Tok→Store→Prop):V→Prop
 | .ptr id off=>onBox σ[id]? fun t cs=>off+n≤cs.length∧K t (σ.set id (.box (putAt cs off us)))
 | .ep id g i j=>onSlc σ[id]? fun t sz rows=>g=rows.length∧onRow rows[i]? fun _ r=>j+n≤r.length∧K t (σ.set id (.slc sz (rows.set i (putAt r j us))))
 | _=>False
def evStore (n:Nat) (σ:Store) (a u:V) (K:Tok→Store→Prop):Prop :=
 onRow (cellsOf u) fun t us=>us.length=n∧us.all one=true∧evStoreTo n σ us (fun _ σ'=>K t σ') a
def binInt:BinOp→IntKind→Int→Int→(Tok→V→Prop)→Prop
 | .add,k,x,y,K=>K .go (.t (.int k (k.wrap (x+y))))
 | .sub,k,x,y,K=>K .go (.t (.int k (k.wrap (x - y))))
 | .mul,k,x,y,K=>K .go (.t (.int k (k.wrap (x * y))))
 | .quo,k,x,y,K=>y≠0∧K .go (.t (.int k (k.wrap (x.tdiv y))))
 | .rem,k,x,y,K=>y≠0∧K .go (.t (.int k (x.tmod y)))
 | .and,k,x,y,K=>K .go (.t (.int k (bits .and k x y)))
 | .or,k,x,y,K=>K .go (.t (.int k (bits .or k x y)))
 | .xor,k,x,y,K=>K .go (.t (.int k (bits .xor k x y)))
 | .andNot,k,x,y,K=>K .go (.t (.int k (bits .andNot k x y)))
 | .eql,_,x,y,K=>K .go (.t (.bool (x == y)))
 | .neq,_,x,y,K=>K .go (.t (.bool (x != y)))
 | .lss,_,x,y,K=>K .go (.t (.bool (decide (x<y))))
 | .leq,_,x,y,K=>K .go (.t (.bool (decide (x≤y))))
 | .gtr,_,x,y,K=>K .go (.t (.bool (decide (x > y))))
 | .geq,_,x,y,K=>K .go (.t (.bool (decide (x ≥ y))))
 | .shl,_,_,_,_=>False
 | .shr,_,_,_,_=>False
def shInt:BinOp→IntKind→Int→Int→(Tok→V→Prop)→Prop
 | .shl,k,x,y,K=>0≤y∧K .go (.t (.int k (k.wrap (x * 2 ^ (min y.toNat k.bits)))))
 | .shr,k,x,y,K=>0≤y∧K .go (.t (.int k (x.fdiv (2 ^ (min y.toNat k.bits)))))
 | _,_,_,_,_=>False
def isSh:BinOp→Bool
 | .shl | .shr=>true
 | _=>false
def binStr:BinOp→List UInt8→List UInt8→(Tok→V→Prop)→Prop
 | .add,x,y,K=>((x.length+y.length:Nat):Int)≤9223372036854775807∧K .go (.t (.str (x++y)))
 | .eql,x,y,K=>K .go (.t (.bool (x == y)))
 | .neq,x,y,K=>K .go (.t (.bool (!(x == y))))
 | .lss,x,y,K=>K .go (.t (.bool (Op.bytesLess x y)))
 | .leq,x,y,K=>K .go (.t (.bool (Op.bytesLess x y || x == y)))
 | .gtr,x,y,K=>K .go (.t (.bool (!(Op.bytesLess x y || x == y))))
 | .geq,x,y,K=>K .go (.t (.bool (!Op.bytesLess x y)))
 | _,_,_,_=>False
def evBin (op:BinOp):V→V→(Tok→V→Prop)→Prop
 | .t (.int k x),.t (.int k' y),K=>if isSh op=true then shInt op k x y K else k=k'∧binInt op k x y K
 | .t (.str x),.t (.str y),K=>binStr op x y K
 | _,_,_=>False
def isNilP:V→Option Bool
 | .nilp=>some true
 | .pv _ | .ptr _ _ | .ep _ _ _ _=>some false
 | _=>none
def isNilS:V→Option Bool
 | .nils=>some true
 | .t (.lst _ (_::_))=>some false
 | .rows _ (_::_)=>some false
 | _=>none
def isNilI:V→Option Bool
 | .nili=>some true
 | .iface _ _=>some false
 | _=>none
def nilK:Option Bool→Option Bool→Bool→(Tok→V→Prop)→Prop
 | some true,some r,neg,K=>K .go (.t (.bool (if neg then !r else r)))
 | some r,some true,neg,K=>K .go (.t (.bool (if neg then !r else r)))
 | _,_,_,_=>False
def evNil (f:V→Option Bool) (neg:Bool) (a b:V) (K:Tok→V→Prop):Prop:=nilK (f a) (f b) neg K
def evUn:UnOp→V→(Tok→V→Prop)→Prop
 | .neg,.t (.int k n),K=>K .go (.t (.int k (k.wrap (0 - n))))
 | .xor,.t (.int k n),K=>K .go (.t (.int k (bits .xor k (if k.signed then -1 else k.max) n)))
 | .not,.t (.bool b),K=>K .go (.t (.bool (!b)))
 | _,_,_=>False
def bndV:Option V→(Tok→Nat→Prop)→Prop
 | some (.t (.int _ i)),K=>0≤i∧K .go i.toNat
 | _,_=>False
def bnd (e:Env):Option O→Nat→(Tok→Nat→Prop)→Prop
 | none,d,K=>K .go d
 | some o,_,K=>bndV (opv e o) K
def evSlice (e:Env) (n:Nat) (lo hi:Option O) (K:Tok→Nat→Nat→Prop):Prop :=
 bnd e hi n fun t h=>h≤n∧bnd e lo 0 fun _ l=>l≤h∧K t l h
def evFieldAddr (off:Nat):V→(Tok→V→Prop)→Prop
 | .pv cs,K=>K .go (.pv (cs.drop off))
 | .ptr id o,K=>K .go (.ptr id (o+off))
 | .ep id g i j,K=>K .go (.ep id g i (j+off))
 | _,_=>False
def toTs:List V→Option (List T)
 | []=>some []
 | .t x::us=>(toTs us).map (x::·)
 | _=>none
def evIndexAddr (n:Nat) (σ:Store):V→V→(Tok→V→Prop)→Prop
 | .t (.lst sz rows),.t (.int _ i),K=>sz=n∧0≤i∧onRow rows[i.toNat]? fun t r=>K t (.pv r)
 | .sl id g off len,.t (.int _ i),K=>onSlc σ[id]? fun t sz rows=>sz=n∧g=rows.length∧0≤i∧i<len∧K t (.ep id g (off+i.toNat) 0)
 | .rows sz rs,.t (.int _ i),K=>sz=n∧0≤i∧onRow rs[i.toNat]? fun t r=>onRow (toTs r) fun _ ts=>K t (.pv ts)
 | _,_,_=>False
def evIndex:V→V→(Tok→V→Prop)→Prop
 | .t (.str s),.t (.int _ n),K=>0≤n∧onRow s[n.toNat]? fun t b=>K t (.t (.int .u8 b.toNat))
 | _,_,_=>False
def lenStr:V→Option Nat
 | .t (.str s)=>some s.length
 | _=>none
def lenSl:V→Option Nat
 | .t (.lst _ rows)=>some rows.length
 | .nils=>some 0
 | .sl _ _ _ len=>some len
 | .rows _ rs=>some rs.length
 | _=>none
def nilChk:V→(Tok→V→Prop)→Prop
 | .pv cs,K=>K .go (.pv cs)
 | .ptr id off,K=>K .go (.ptr id off)
 | .ep id g i j,K=>K .go (.ep id g i j)
 | _,_=>False
def evEqB (neg:Bool):V→V→(Tok→V→Prop)→Prop
 | .t (.bool p),.t (.bool q),K=>K .go (.t (.bool (if neg then !(p == q) else (p == q))))
 | _,_,_=>False
def evConv (k:IntKind):V→(Tok→V→Prop)→Prop
 | .t (.int _ n),K=>K .go (.t (.int k (k.wrap n)))
 | _,_=>False
def evConvStr:V→(Tok→V→Prop)→Prop
 | .t (.str s),K=>K .go (.t (.str s))
 | _,_=>False
def evSliceStr (e:Env) (lo hi:Option O):V→(Tok→V→Prop)→Prop
 | .t (.str s),K=>evSlice e s.length lo hi fun t l h=>K t (.t (.str ((s.take h).drop l)))
 | _,_=>False
def evSliceSl (e:Env) (n:Nat) (lo hi:Option O) (σ:Store):V→(Tok→V→Prop)→Prop
 | .t (.lst sz rows),K=>sz=n∧evSlice e rows.length lo hi fun t l h=>K t (.t (.lst sz ((rows.take h).drop l)))
 | .nils,K=>evSlice e 0 lo hi fun t _ _=>K t .nils
 | .rows s [],K=>s=n∧evSlice e 0 lo hi fun t _ _=>K t (.rows s [])
 | .sl id g off len,K=>onSlc σ[id]? fun _ sz rows=>sz=n∧g=rows.length∧evSlice e len lo hi fun t l h=>K t (.sl id g (off+l) (h - l))
 | _,_=>False
def evField (off:Nat) (n:Option Nat):V→(Tok→V→Prop)→Prop
 | .agg cs,K=>ldV n (cs.drop off) K
 | _,_=>False
def evExtract (k:Nat):V→(Tok→V→Prop)→Prop
 | .tup us,K=>onV us[k]? K
 | _,_=>False
def maxBy:Nat:=140737488355328
def evMkSl (sz bys:Nat) (z:List V) (σ:Store):V→V→(Tok→V→Store→Prop)→Prop
 | .t (.int _ n),.t (.int _ m),K=>0≤n∧n≤m∧m≤9223372036854775807∧(bys:Int) * m≤140737488355328∧K .go (.sl σ.length n.toNat 0 n.toNat) (σ++[.slc sz (List.replicate n.toNat z)])
 | _,_,_=>False
def rowsOf (σ:Store) (sz:Nat):V→Option (List (List V))
 | .nils=>some []
 | .t (.lst s rows)=>if s=sz then some (rows.map fun r=>r.map .t) else none
 | .rows s rs=>if s=sz∧(rs.all fun r=>r.all one)=true then some rs else none
 | .sl id g off len=>match σ[id]? with
  | some (.slc s rows)=>if s=sz∧g=rows.length then some ((rows.drop off).take len) else none
  | _=>none
 | _=>none
def evAppend (sz bys:Nat) (σ:Store) (rs:List (List V)):V→(Tok→V→Store→Prop)→Prop
 | .nils,K=>rs.length * bys≤maxBy∧rs.length≤9223372036854775807∧K .go (.sl σ.length rs.length 0 rs.length) (σ++[.slc sz rs])
 | .rows s [],K=>s=sz∧rs.length * bys≤maxBy∧rs.length≤9223372036854775807∧(rs=[]→K .go (.rows sz []) σ)∧(rs≠[]→K .go (.sl σ.length rs.length 0 rs.length) (σ++[.slc sz rs]))
 | .sl id g off len,K=>onSlc σ[id]? fun t s rows=>s=sz∧g=rows.length∧off=0∧len=rows.length∧(rows.length+rs.length) * bys≤maxBy∧rows.length+rs.length≤9223372036854775807 ∧
   K t (.sl id (rows.length+rs.length) 0 (rows.length+rs.length)) (σ.set id (.slc sz (rows++rs)))
 | _,_=>False
def evClr (sz:Nat) (z:List V) (σ:Store):V→(Tok→Store→Prop)→Prop
 | .nils,K=>K .go σ
 | .rows s [],K=>s=sz∧K .go σ
 | .sl id g off len,K=>onSlc σ[id]? fun t s rows=>s=sz∧g=rows.length∧off+len≤rows.length∧K t (σ.set id (.slc s (rows.take off++List.replicate len z++rows.drop (off+len))))
 | _,_=>False
def fillV (e:Env):Tok→List V→List (Nat × Nat × O)→(Tok→List V→Prop)→Prop
 | t,cs,[],K=>K t cs
 | _,cs,(off,sz,o)::ps,K=>onV (opv e o) fun t u=>onRow (cellsOf u) fun _ us=>us.length=sz∧off+sz≤cs.length∧fillV e t (putAt cs off us) ps K
def litRows (e:Env) (sz:Nat):Tok→List (List V)→List (Nat × O)→(Tok→List (List V)→Prop)→Prop
 | t,rs,[],K=>K t rs
 | _,rs,(i,o)::ps,K=>onV (opv e o) fun t u=>onRow (cellsOf u) fun _ us=>us.length=sz∧us.all one=true∧i<rs.length∧litRows e sz t (rs.set i us) ps K
def litK (sz:Nat) (σ:Store) (rs:List (List V)) (K:Tok→V→Store→Prop) (t:Tok):Bool→Prop
 | false=>K t (.rows sz rs) σ
 | true=>K t (.sl σ.length rs.length 0 rs.length) (σ++[.slc sz rs])
def litHow (K:Bool→Prop):Option Bool→Prop
 | none=>∃ b,K b
 | some b=>K b
def bytesOf:List (List V)→Option (List UInt8)
 | []=>some []
 | [.t (.int .u8 n)]::rs=>(bytesOf rs).map (UInt8.ofNat n.toNat::·)
 | _=>none
def byteRows (s:List UInt8):List (List V):=s.map fun b=>[.t (.int .u8 b.toNat)]
def evAppS (bys:Nat) (σ:Store):V→V→(Tok→V→Store→Prop)→Prop
 | .t (.str s),a,K=>evAppend 1 bys σ (byteRows s) a K
 | _,_,_=>False
def evStrBytes (σ:Store):V→(Tok→V→Store→Prop)→Prop
 | .t (.str s),K=>K .go (.sl σ.length s.length 0 s.length) (σ++[.slc 1 (byteRows s)])
 | _,_=>False
def SK.fit:SK→V→Bool
 | .int k,.t (.int k' _)=>decide (k=k')
 | .bool,.t (.bool _)=>true
 | .str,.t (.str _)=>true
 | _,_=>false
def fits:List SK→List V→Bool
 | [],[]=>true
 | k::ks,u::us=>k.fit u && fits ks us
 | _,_=>false
def KD.ok:KD→V→Bool
 | .one s,u=>s.fit u
 | .st ks,.agg us=>fits ks us
 | _,_=>false
def sEq:V→V→Bool
 | .t (.int _ a),.t (.int _ b)=>a == b
 | .t (.bool a),.t (.bool b)=>a == b
 | .t (.str a),.t (.str b)=>a == b
 | _,_=>false
def sEqs:List V→List V→Bool
 | [],[]=>true
 | a::as,b::bs=>sEq a b && sEqs as bs
 | _,_=>false
def kEq:V→V→Bool
 | .agg as,.agg bs=>sEqs as bs
 | a,b=>sEq a b
def findM (k:V):List ME→Option ME
 | []=>none
 | e::es=>if kEq k e.k=true then some e else findM k es
def putM (k v:V) (c:Nat):List ME→List ME
 | []=>[⟨k,v,c⟩]
 | e::es=>if kEq k e.k=true then ⟨k,v,e.b⟩::es else e::putM k v c es
def clkM (k:V) (c:Nat) (es:List ME):Nat:=if (findM k es).isSome=true then c else c+1
def storeM (s:Int) (x:V):List ME→Option (List ME)
 | []=>none
 | e::es=>if ((e.b:Int) == s)=true then some (⟨e.k,x,e.b⟩::es) else (storeM s x es).map (e::·)
def onMap:Option Obj→(Tok→Nat→List ME→Prop)→Prop
 | some (.map c es),K=>K .go c es
 | _,_=>False
def keysOk (kd:KD) (es:List ME):Bool:=es.all fun e=>kd.ok e.k
def valOr (z:V):Option ME→V
 | some e=>e.v
 | none=>z
def bornOr (c:Nat):Option ME→Nat
 | some e=>e.b
 | none=>c
def lookR (ok:Bool) (z:V) (r:Option ME):V:=if ok=true then .tup [valOr z r,.t (.bool r.isSome)] else valOr z r
def evLook (kd:KD) (ok:Bool) (z:V) (σ:Store):V→V→(Tok→V→Prop)→Prop
 | .map id,k,K=>onMap σ[id]? fun t _ es=>kd.ok k=true∧keysOk kd es=true∧K t (lookR ok z (findM k es))
 | _,_,_=>False
def evMapUp (kd:KD) (σ:Store):V→V→V→(Tok→Store→Prop)→Prop
 | .map id,k,v,K=>onMap σ[id]? fun t c es=>kd.ok k=true∧keysOk kd es=true∧K t (σ.set id (.map (clkM k c es) (putM k v c es)))
 | _,_,_,_=>False
def evMapEnt (kd:KD) (z:V) (σ:Store):V→V→(Tok→V→Store→Prop)→Prop
 | .map id,k,K=>onMap σ[id]? fun t c es=>kd.ok k=true∧keysOk kd es=true ∧
   K t (.tup [valOr z (findM k es),.t (.int .i64 (bornOr c (findM k es):Nat))]) (σ.set id (.map (clkM k c es) (putM k (valOr z (findM k es)) c es)))
 | _,_,_=>False
def evEntSt (σ:Store):V→V→V→(Tok→Store→Prop)→Prop
 | .map id,.t (.int _ s),x,K=>onMap σ[id]? fun t c es=>onRow (storeM s x es) fun _ es'=>K t (σ.set id (.map c es'))
 | _,_,_,_=>False
def evLenM (σ:Store):V→(Tok→V→Prop)→Prop
 | .map id,K=>onMap σ[id]? fun t _ es=>K t (.t (.int .i64 (es.length:Nat)))
 | _,_=>False
def evEqA (neg:Bool) (ks:List SK):V→V→(Tok→V→Prop)→Prop
 | .agg as,.agg bs,K=>fits ks as=true∧fits ks bs=true∧K .go (.t (.bool (if neg then !sEqs as bs else sEqs as bs)))
 | _,_,_=>False
def evCopy (sz:Nat) (σ:Store) (rs:List (List V)):V→(Tok→V→Store→Prop)→Prop
 | .sl id g off len,K=>onSlc σ[id]? fun t s rows=>s=sz∧g=rows.length∧0<min rs.length len ∧
   K t (.t (.int .i64 ((min rs.length len:Nat):Int))) (σ.set id (.slc sz (rows.take off++rs.take (min rs.length len)++rows.drop (off+min rs.length len))))
 | _,_=>False
def evMM (mx:Bool):V→V→(Tok→V→Prop)→Prop
 | .t (.int k x),.t (.int _ y),K=>K .go (.t (.int k (if mx then (if y > x then y else x) else (if y<x then y else x))))
 | _,_,_=>False
def onVs:Option (List V)→(Tok→List V→Prop)→Prop
 | some us,K=>K .go us
 | none,_=>False
def ev (e:Env) (σ:Store) (K:Tok→Option V→Store→Prop):I→Prop
 | .mv x=>onV (opv e x) fun t u=>K t (some u) σ
 | .pick c a b=>condV (opv e c) (fun t=>onV (opv e a) fun _ u=>K t (some u) σ) (fun t=>onV (opv e b) fun _ u=>K t (some u) σ)
 | .new cs=>K .go (some (.ptr σ.length 0)) (σ++[.box cs])
 | .newP zs=>∃ N,σ[N]?=some (.box zs)∧K .go (some (.ptr N 0)) σ
 | .newB t et=>K .go (some (.bp (σ.length+1))) (σ++[.buf et [],.tbox t [.nilp,.bsl σ.length 0]])
 | .box x=>onV (opv e x) fun t u=>onRow (cellsOf u) fun _ cs=>K t (some (.ptr σ.length 0)) (σ++[.box cs])
 | .load n a=>onV (opv e a) fun t a=>evLoad n σ a fun _ u=>K t (some u) σ
 | .store n a x=>onV (opv e a) fun t a=>onV (opv e x) fun _ u=>evStore n σ a u fun _ σ'=>K t none σ'
 | .nilCheck x=>onV (opv e x) fun t u=>nilChk u fun _ u=>K t (some u) σ
 | .bin op x y=>onV (opv e x) fun t a=>onV (opv e y) fun _ b=>evBin op a b fun _ u=>K t (some u) σ
 | .eqB neg x y=>onV (opv e x) fun t a=>onV (opv e y) fun _ b=>evEqB neg a b fun _ u=>K t (some u) σ
 | .eqP neg x y=>onV (opv e x) fun t a=>onV (opv e y) fun _ b=>evNil isNilP neg a b fun _ u=>K t (some u) σ
 | .eqS neg x y=>onV (opv e x) fun t a=>onV (opv e y) fun _ b=>evNil isNilS neg a b fun _ u=>K t (some u) σ
 | .eqI neg x y=>onV (opv e x) fun t a=>onV (opv e y) fun _ b=>evNil isNilI neg a b fun _ u=>K t (some u) σ
 | .un op x=>onV (opv e x) fun t a=>evUn op a fun _ u=>K t (some u) σ
 | .convInt k x=>onV (opv e x) fun t a=>evConv k a fun _ u=>K t (some u) σ
 | .sliceStr x lo hi=>onV (opv e x) fun t a=>evSliceStr e lo hi a fun _ u=>K t (some u) σ
 | .sliceSl n x lo hi=>onV (opv e x) fun t a=>evSliceSl e n lo hi σ a fun _ u=>K t (some u) σ
 | .fieldAddr off x=>onV (opv e x) fun t a=>evFieldAddr off a fun _ u=>K t (some u) σ
 | .field off n x=>onV (opv e x) fun t a=>evField off n a fun _ u=>K t (some u) σ
 | .indexAddr n x i=>onV (opv e x) fun t a=>onV (opv e i) fun _ i=>evIndexAddr n σ a i fun _ u=>K t (some u) σ
 | .index x i=>onV (opv e x) fun t a=>onV (opv e i) fun _ i=>evIndex a i fun _ u=>K t (some u) σ
 | .extract x k=>onV (opv e x) fun t a=>evExtract k a fun _ u=>K t (some u) σ
 | .len b x=>onV (opv e x) fun t a=>onRow (if b then lenStr a else lenSl a) fun _ n=>K t (some (.t (.int .i64 n))) σ
 | .mkSl sz bys z l c=>onV (opv e l) fun t a=>onV (opv e c) fun _ b=>evMkSl sz bys z σ a b fun _ u σ'=>K t (some u) σ'
 | .lit how sz n z ps=>litRows e sz .go (List.replicate n z) ps fun t rs=>litHow (litK sz σ rs (fun t u σ'=>K t (some u) σ') t) how
 | .append sz bys x y=>onV (opv e x) fun t a=>onV (opv e y) fun _ b=>onRow (rowsOf σ sz b) fun _ rs=>evAppend sz bys σ rs a fun _ u σ'=>K t (some u) σ'
 | .appS bys x y=>onV (opv e x) fun t a=>onV (opv e y) fun _ b=>evAppS bys σ b a fun _ u σ'=>K t (some u) σ'
 | .build z ps=>fillV e .go z ps fun t cs=>K t (some (.agg cs)) σ
 | .convStr x=>onV (opv e x) fun t a=>evConvStr a fun _ u=>K t (some u) σ
 | .strBytes x=>onV (opv e x) fun t a=>evStrBytes σ a fun _ u σ'=>K t (some u) σ'
 | .bytesStr x=>onV (opv e x) fun t a=>onRow (rowsOf σ 1 a) fun _ rs=>onRow (bytesOf rs) fun _ s=>K t (some (.t (.str s))) σ
 | .mkMap=>K .go (some (.map σ.length)) (σ++[.map 0 []])
 | .look kd ok z m k=>onV (opv e m) fun t a=>onV (opv e k) fun _ b=>evLook kd ok z σ a b fun _ u=>K t (some u) σ
 | .mapUp kd m k v=>onV (opv e m) fun t a=>onV (opv e k) fun _ b=>onV (opv e v) fun _ c=>evMapUp kd σ a b c fun _ σ'=>K t none σ'
 | .mapEnt kd z m k=>onV (opv e m) fun t a=>onV (opv e k) fun _ b=>evMapEnt kd z σ a b fun _ u σ'=>K t (some u) σ'
 | .entSt m s v=>onV (opv e m) fun t a=>onV (opv e s) fun _ b=>onV (opv e v) fun _ c=>evEntSt σ a b c fun _ σ'=>K t none σ'
 | .lenM x=>onV (opv e x) fun t a=>evLenM σ a fun _ u=>K t (some u) σ
 | .eqA neg ks x y=>onV (opv e x) fun t a=>onV (opv e y) fun _ b=>evEqA neg ks a b fun _ u=>K t (some u) σ
 | .iface ty x=>onV (opv e x) fun t a=>K t (some (.iface ty a)) σ
 | .fn f caps=>onVs (opvs e caps) fun t us=>K t (some (.fn (.func f) us)) σ
 | .fnb f caps=>onVs (opvs e caps) fun t us=>K t (some (.fnb (.func f) us)) σ
 | .clr sz z x=>onV (opv e x) fun t a=>evClr sz z σ a fun _ σ'=>K t (some (.tup [])) σ'
 | .copy sz x y=>onV (opv e x) fun t a=>onV (opv e y) fun _ b=>onRow (rowsOf σ sz b) fun _ rs=>evCopy sz σ rs a fun _ u σ'=>K t (some u) σ'
 | .mm mx x y=>onV (opv e x) fun t a=>onV (opv e y) fun _ b=>evMM mx a b fun _ u=>K t (some u) σ
 | .call _ _=>False
 | .callQ _ _=>False
def cV0:Value→Option V
 | .int k n=>some (.t (.int k n))
 | .bool b=>some (.t (.bool b))
 | .string s=>some (.t (.str s.data.toList))
 | .slice none 0 0=>some .nils
 | .pointer none=>some .nilp
 | .nilFunc=>some .nilf
 | .map none=>some .nilm
 | .nilIface=>some .nili
 | _=>none
def cVs:List Value→Option (List V)
 | []=>some []
 | v::vs=>match cV0 v,cVs vs with
  | some u,some us=>some (u::us)
  | _,_=>none
def cV:Value→Option V
 | .agg cs=>(cVs cs.toList).map .agg
 | v=>cV0 v
def cO:Operand→Option O
 | .tmp t=>some (.t t)
 | .const v=>(cV v).map .c
 | .func f=>some (.c (.fn (.func f) []))
 | .global _=>none
def cOs:List Operand→Option (List O)
 | []=>some []
 | o::os=>match cO o,cOs os with
  | some u,some us=>some (u::us)
  | _,_=>none
def isAggD:TypeDesc→Bool
 | .struct _ | .array _ _=>true
 | _=>false
def spanOf (P:Program) (t:TypeId):Option (Option Nat) :=
 match P.underlying t,P.info? t with
 | some d,some i=>some (if isAggD d then some i.size else none)
 | _,_=>none
def fieldOf (P:Program) (s:TypeId) (f:Nat):Option (Nat × TypeId × Nat) :=
 match P.underlying s with
 | some (.struct fs)=>match fs[f]? with
  | some f=>match P.info? f.type with
   | some i=>some (f.offset,f.type,i.size)
   | none=>none
  | none=>none
 | _=>none
def cOo:Option Operand→Option (Option O)
 | none=>some none
 | some o=>(cO o).map some
def partsOf:List (Nat × Operand)→Option (List (Nat × O))
 | []=>some []
 | (i,p)::ps=>match cO p,partsOf ps with
  | some o,some os=>some ((i,o)::os)
  | _,_=>none
def placesOf (places:List (Nat × Nat)):List (Nat × O)→Option (List (Nat × Nat × O))
 | []=>some []
 | (i,o)::ps=>match places[i]?,placesOf places ps with
  | some (off,sz),some os=>some ((off,sz,o)::os)
  | _,_=>none
def fieldPlaces (P:Program) (fs:Array Field):Option (List (Nat × Nat)):=fs.toList.mapM fun f=>(P.info? f.type).map fun i=>(f.offset,i.size)
def zeroOf (i:TypeInfo):Option (List V) :=
 match i.zero with
 | some z=>match cVs z.cells.toList with
  | some cs=>if cs.length=i.size∧0<i.size∧0<i.bytes then some cs else none
  | none=>none
 | none=>none
def skOf (P:Program) (t:TypeId):Option SK :=
 match P.underlying t with
 | some (.int k)=>some (.int k)
 | some .bool=>some .bool
 | some .string=>some .str
 | _=>none
def sksOf (P:Program):Nat→List Field→Option (List SK)
 | _,[]=>some []
 | i,f::fs=>match skOf P f.type,sksOf P (i+1) fs with
  | some k, some ks => if f.offset = i ∧ (f.name != "_") = true then some (k :: ks) else none
  | _,_=>none
def flatOf (P:Program) (t:TypeId):Option (List SK) :=
 match P.underlying t with
 | some (.struct fs)=>if P.stoodInHeld t=false then sksOf P 0 fs.toList else none
 | _=>none
def kdOf (P:Program) (t:TypeId):Option KD :=
 match P.underlying t with
 | some (.int k)=>some (.one (.int k))
 | some .string=>some (.one .str)
 | some (.struct _)=>(flatOf P t).map .st
 | _=>none
def zeroV (P:Program) (t:TypeId):Option V :=
 match P.info? t with
 | some i=>match i.zero with
  | some z=>cV z
  | none=>none
 | none=>none
def isNilO:Operand→Bool
 | .const .nilIface=>true
 | _=>false
def bldOf (P:Program) (t:TypeId):List V→Option TypeId
 | [.nilp,.nils]=>match P.underlying t with
  | some (.struct fs)=>match fs.toList with
   | [f,g]=>match P.underlying f.type,P.underlying g.type with
    | some (.pointer t'),some (.slice et)=>if t'=t then some et else none
    | _,_=>none
   | _=>none
  | _=>none
 | _=>none
def cI (P:Program):Op→Option I
 | .move x | .assign x=>(cO x).map .mv
 | .pick c a b=>match cO c,cO a,cO b with
  | some c,some a,some b=>some (.pick c a b)
  | _,_,_=>none
 | .alloc t=>match P.info? t with
  | some i=>match i.zero with
   | some z=>match cVs z.cells.toList with
    | some cs=>match bldOf P t cs with
     | some et=>some (.newB t et)
     | none=>some (.new cs)
    | none=>none
   | none=>none
  | none=>none
 | .box _ x=>(cO x).map .box
 | .load t a=>match spanOf P t,cO a with
  | some n,some a=>some (.load n a)
  | _,_=>none
 | .store t a x=>match P.info? t,cO a,cO x with
  | some i,some a,some x=>some (.store i.size a x)
  | _,_,_=>none
 | .nilCheck x=>(cO x).map .nilCheck
 | .binOp op t x y _=>match cO x,cO y with
  | some a,some b=>match P.underlying t,op with
   | some (.int _),op=>some (.bin op a b)
   | some .string,op=>some (.bin op a b)
   | some .bool,.eql=>some (.eqB false a b)
   | some .bool,.neq=>some (.eqB true a b)
   | some (.pointer _),.eql=>some (.eqP false a b)
   | some (.pointer _),.neq=>some (.eqP true a b)
   | some (.slice _),.eql=>some (.eqS false a b)
   | some (.slice _),.neq=>some (.eqS true a b)
   | some (.interface _),.eql=>if isNilO y=true then some (.eqI false a b) else none
   | some (.interface _),.neq=>if isNilO y=true then some (.eqI true a b) else none
   | some (.struct _),.eql=>if P.eqGuardType P.depth t=false then (flatOf P t).map fun ks=>.eqA false ks a b else none
   | some (.struct _),.neq=>if P.eqGuardType P.depth t=false then (flatOf P t).map fun ks=>.eqA true ks a b else none
   | _,_=>none
  | _,_=>none
 | .unOp op _ x=>(cO x).map (.un op)
 | .convert src dst x=>match P.underlying src,P.underlying dst,cO x with
  | some (.int _),some (.int k),some x=>some (.convInt k x)
  | some .string,some .string,some x=>some (.convStr x)
  | some .string,some (.slice e),some x=>match P.underlying e with
   | some (.int .u8)=>some (.strBytes x)
   | _=>none
  | some (.slice e),some .string,some x=>match P.underlying e with
   | some (.int .u8)=>some (.bytesStr x)
   | _=>none
  | _,_,_=>none
 | .makeSlice t l c=>match P.underlying t,cO l,cO c with
  | some (.slice e),some l,some c=>match P.info? e with
   | some i=>(zeroOf i).map fun z=>.mkSl i.size i.bytes z l c
   | none=>none
  | _,_,_=>none
 | .buildSlice t n ps=>match P.underlying t,partsOf ps.toList with
  | some (.slice e),some ps=>match P.info? e with
   | some i=>match zeroOf i with
    | some z=>if n * i.size≤16777216 then some (.lit none i.size n z ps) else none
    | none=>none
   | none=>none
  | _,_=>none
 | .build t ps=>match P.underlying t,P.info? t,partsOf ps.toList with
  | some (.struct fs),some i,some ps=>match i.zero,fieldPlaces P fs with
   | some z,some pl=>match cVs z.cells.toList,placesOf pl ps with
    | some z,some qs=>some (.build z qs)
    | _,_=>none
   | _,_=>none
  | _,_,_=>none
 | .slice t x lo hi none=>match P.underlying t,cO x,cOo lo,cOo hi with
  | some .string,some x,some lo,some hi=>some (.sliceStr x lo hi)
  | some (.slice e),some x,some lo,some hi=>match P.info? e with
   | some i=>some (.sliceSl i.size x lo hi)
   | none=>none
  | _,_,_,_=>none
 | .fieldAddr s x f=>match fieldOf P s f,cO x with
  | some (off,_,n),some x=>if n=0 then none else some (.fieldAddr off x)
  | _,_=>none
 | .field s x f=>match fieldOf P s f,cO x with
  | some (off,t,_),some x=>(spanOf P t).map fun n=>.field off n x
  | _,_=>none
 | .indexAddr t x i=>match P.underlying t,cO x,cO i with
  | some (.slice e),some x,some i=>match P.info? e with
   | some j=>some (.indexAddr j.size x i)
   | none=>none
  | _,_,_=>none
 | .index t x i=>match P.underlying t,cO x,cO i with
  | some .string,some x,some i=>some (.index x i)
  | _,_,_=>none
 | .extract x k=>(cO x).map (.extract · k)
 | .makeMap _ none=>some .mkMap
 | .lookup t x k ok=>match P.underlying t,cO x,cO k with
  | some (.map kt et),some x,some k=>match kdOf P kt,zeroV P et with
   | some kd,some z=>some (.look kd ok z x k)
   | _,_=>none
  | _,_,_=>none
 | .mapUpdate t x k v | .insert t x k v=>match P.underlying t,cO x,cO k,cO v with
  | some (.map kt _),some x,some k,some v=>(kdOf P kt).map fun kd=>.mapUp kd x k v
  | _,_,_,_=>none
 | .mapEntry t x k=>match P.underlying t,cO x,cO k with
  | some (.map kt et),some x,some k=>match kdOf P kt,zeroV P et with
   | some kd,some z=>some (.mapEnt kd z x k)
   | _,_=>none
  | _,_,_=>none
 | .entryStore _ x s v=>match cO x,cO s,cO v with
  | some x,some s,some v=>some (.entSt x s v)
  | _,_,_=>none
 | .makeInterface t x=>match P.underlying t,cO x with
  | some (.interface _),_=>none
  | some _,some x=>some (.iface t x)
  | _,_=>none
 | .makeFunc (.func f) first caps=>if first.isEmpty then (cOs caps.toList).map (.fn f) else if caps.isEmpty then (cOs first.toList).map (.fnb f) else none
 | .call c=>match c.callee with
  | .builtin .len=>match c.args.toList,c.argTypes.toList with
   | [x],[t]=>match P.underlying t,cO x with
    | some .string,some x=>some (.len true x)
    | some (.slice _),some x=>some (.len false x)
    | some (.map _ _),some x=>some (.lenM x)
    | _,_=>none
   | _,_=>none
  | .builtin .append=>match c.args.toList,c.argTypes.toList with
   | [x,y],[t,t']=>match P.underlying t,cO x,cO y with
    | some (.slice e),some x,some y=>match P.info? e with
     | some i=>match zeroOf i with
      | some _=>if t=t' then some (.append i.size i.bytes x y) else if i.size=1 then match P.underlying t' with
       | some .string=>some (.appS i.bytes x y)
       | _=>none
       else none
      | none=>none
     | none=>none
    | _,_,_=>none
   | _,_=>none
  | .builtin .clear=>match c.args.toList,c.argTypes.toList with
   | [x],[t]=>match P.underlying t,cO x with
    | some (.slice e),some x=>match P.info? e with
     | some i=>(zeroOf i).map fun z=>.clr i.size z x
     | none=>none
    | _,_=>none
   | _,_=>none
  | .builtin .copy=>match c.args.toList,c.argTypes.toList with
   | [x,y],[t,t']=>match P.underlying t,P.underlying t',cO x,cO y with
    | some (.slice e),some (.slice _),some x,some y=>match P.info? e with
     | some i=>if 0<i.size then some (.copy i.size x y) else none
     | none=>none
    | _,_,_,_=>none
   | _,_=>none
  | .builtin .max=>match c.args.toList with
   | [x,y]=>match cO x,cO y with
    | some x,some y=>some (.mm true x y)
    | _,_=>none
   | _=>none
  | .builtin .min=>match c.args.toList with
   | [x,y]=>match cO x,cO y with
    | some x,some y=>some (.mm false x y)
    | _,_=>none
   | _=>none
  | .invoke (.tmp k) name=>(cOs c.args.toList).map (.call (.m k name))
  | .value f=>match cO f,cOs c.args.toList with
   | some f,some as=>some (.call f as)
   | _,_=>none
  | _=>none
 | _=>none
end Go.Ab
end
section
namespace Go.Ab
def ERel (x:Cx) (e:Env) (tmps:Array Value):Prop:=∀ k u,eget e k=some u→∃ v,tmps[k]?=some v∧VRel x u v
def NRel (y:Cx):Next→Option V→Prop
 | .value v,some u=>VRel y u v
 | .skip,none=>True
 | _,_=>False
def Step (P:Program) (x:Cx) (s:Sem Next) (K:Tok→Option V→Store→Prop):Prop :=
 ∃ nx y r,s.run P x.w=.ok nx y.w∧K .go r y.σ∧NRel y nx r∧WRel y∧Ext x y
theorem Step.pure {P:Program} {x:Cx} {s:Sem Next} {K:Tok→Option V→Store→Prop} (hx:WRel x) {v:Value} {u:V} (hr:s.run P x.w=.ok (.value v) x.w) (hv:VRel x u v) (hk:K .go (some u) x.σ):Step P x s K :=
 ⟨_,x,some u,hr,hk,hv,hx,Ext.refl x⟩
theorem onRow_some {α:Type} {o:Option α} {K:Tok→α→Prop} (h:onRow o K):∃ u,o=some u∧K .go u:=by
 cases o with
 | none=>exact h.elim
 | some u=>exact ⟨u,rfl,h⟩
theorem onBox_some {o:Option Obj} {K:Tok→List V→Prop} (h:onBox o K):∃ cs,o=some (.box cs)∧K .go cs:=by
 unfold onBox at h
 split at h
 ·exact ⟨_,rfl,h⟩
 ·exact h.elim
theorem onSlc_some {o:Option Obj} {K:Tok→Nat→List (List V)→Prop} (h:onSlc o K):∃ sz rows,o=some (.slc sz rows)∧K .go sz rows:=by
 unfold onSlc at h
 split at h
 ·exact ⟨_,_,rfl,h⟩
 ·exact h.elim
theorem condV_some {o:Option V} {A B:Tok→Prop} (h:condV o A B):∃ v,o=some (.t (.bool v))∧(v=true→A .go)∧(v=false→B .go):=by
 unfold condV at h
 split at h
 ·exact ⟨_,rfl,h⟩
 ·exact h.elim
theorem onV_some {o:Option V} {K:Tok→V→Prop} (h:onV o K):∃ u,o=some u∧K .go u:=by
 cases o with
 | none=>exact False.elim h
 | some u=>exact ⟨u,rfl,h⟩
theorem cV0_rel (x:Cx) {v:Value} {u:V} (h:cV0 v=some u):VRel x u v:=by
 unfold cV0 at h
 split at h <;> first | (obtain rfl:=Option.some.inj h; simp [VRel,TRel]) | cases h
theorem cVs_rel (x:Cx):∀ {vs:List Value} {us:List V},cVs vs=some us→VsRel x us vs
 | [],us,h=>by simp [cVs] at h; subst h; simp [VsRel]
 | v::vs,us,h=>by
  simp only [cVs] at h
  split at h
  ·rename_i u us' h1 h2
   obtain rfl:=Option.some.inj h
   exact ⟨v,vs,rfl,cV0_rel x h1,cVs_rel x h2⟩
  ·cases h
theorem cV_rel (x:Cx) {v:Value} {u:V} (h:cV v=some u):VRel x u v:=by
 unfold cV at h
 split at h
 ·rename_i cs
  cases hc:cVs cs.toList with
  | none=>simp [hc] at h
  | some us =>
   simp [hc] at h
   subst h
   exact ⟨cs.toList,by simp,cVs_rel x hc⟩
 ·exact cV0_rel x h
section
variable {P:Program} {x:Cx} {e:Env} {a:Act}
theorem opv_rel (he:ERel x e a.tmps) {p:Operand} {o:O} {u:V} (hc:cO p=some o) (h:opv e o=some u):VRel x u (a.eval p):=by
 cases p with
 | tmp t =>
  simp only [cO,Option.some.injEq] at hc
  subst hc
  obtain ⟨v,hv,hr⟩:=he t u h
  have:a.eval (.tmp t)=v:=by
   simp only [Act.eval,Array.getD_eq_getD_getElem?,hv,Option.getD_some]
  rw [this]; exact hr
 | const v =>
  simp only [cO] at hc
  cases hv:cV v with
  | none=>simp [hv] at hc
  | some u' =>
   simp [hv] at hc
   subst hc
   simp only [opv,Option.some.injEq] at h
   subst h
   exact cV_rel x hv
 | func f =>
  simp only [cO,Option.some.injEq] at hc
  subst hc
  simp only [opv,Option.some.injEq] at h
  subst h
  exact ⟨[],rfl,rfl⟩
 | global g=>simp [cO] at hc
theorem opvs_rel (he:ERel x e a.tmps):∀ {ps:List Operand} {os:List O} {us:List V},cOs ps=some os→opvs e os=some us→VsRel x us (ps.map a.eval)
 | [],os,us,hc,h=>by
  simp [cOs] at hc; subst hc
  simp [opvs] at h; subst h
  simp [VsRel]
 | p::ps,os,us,hc,h=>by
  simp only [cOs] at hc
  split at hc
  ·rename_i o os' h1 h2
   obtain rfl:=Option.some.inj hc
   simp only [opvs] at h
   split at h
   ·rename_i u us' k1 k2
    obtain rfl:=Option.some.inj h
    exact ⟨_,_,rfl,opv_rel he h1 k1,opvs_rel he h2 k2⟩
   ·cases h
  ·cases hc
theorem rel_int {k:IntKind} {n:Int} {v:Value} (h:VRel x (.t (.int k n)) v):v=.int k n:=by simpa [VRel,TRel] using h
theorem rel_bool {b:Bool} {v:Value} (h:VRel x (.t (.bool b)) v):v=.bool b:=by simpa [VRel,TRel] using h
theorem rel_str {s:List UInt8} {v:Value} (h:VRel x (.t (.str s)) v):v=.string ⟨s.toArray⟩:=by simpa [VRel,TRel] using h
theorem mk_int (k:IntKind) (n:Int):VRel x (.t (.int k n)) (.int k n):=by simp [VRel,TRel]
theorem mk_bool (b:Bool):VRel x (.t (.bool b)) (.bool b):=by simp [VRel,TRel]
theorem mk_str (s:List UInt8):VRel x (.t (.str s)) (.string ⟨s.toArray⟩):=by simp [VRel,TRel]
theorem step_mv (hx:WRel x) (he:ERel x e a.tmps) {p:Operand} {o:O} {K:Tok→Option V→Store→Prop} (hc:cO p=some o) (hk:ev e x.σ K (.mv o)) {s:Sem Next} (hs:s=Pure.pure (.value (a.eval p))):Step P x s K:=by
 obtain ⟨u,hu,hk⟩:=onV_some hk
 subst hs
 exact Step.pure hx (v:=a.eval p) rfl (opv_rel he hc hu) hk
theorem step_pick (hx:WRel x) (he:ERel x e a.tmps) {c p q:Operand} {oc o1 o2:O} {K:Tok→Option V→Store→Prop} (hc:cO c=some oc) (h1:cO p=some o1) (h2:cO q=some o2)
  (hk:ev e x.σ K (.pick oc o1 o2)):Step P x (do pure (Next.value (if ← asBool (a.eval c) then a.eval p else a.eval q))) K:=by
 obtain ⟨v,hu,hk⟩:=condV_some hk
 have hr:=opv_rel he hc hu
 rw [rel_bool hr]
 cases v with
 | true =>
  obtain ⟨w,hw,hk⟩:=onV_some (hk.1 rfl)
  exact Step.pure hx (v:=a.eval p) (by simp [asBool]) (opv_rel he h1 hw) hk
 | false =>
  obtain ⟨w,hw,hk⟩:=onV_some (hk.2 rfl)
  exact Step.pure hx (v:=a.eval q) (by simp [asBool]) (opv_rel he h2 hw) hk
theorem evBin_sound {op:BinOp} {u v:V} {p q:Value} {K:Tok→V→Prop} (hp:VRel x u p) (hq:VRel x v q) (h:evBin op u v K) (t:TypeId) (ox oy:Operand) :
  ∃ r z,(do eqGuard op t ox oy p q; binOp op t p q:Sem Value).run P x.w=.ok r x.w∧VRel x z r∧K .go z:=by
 unfold evBin at h
 split at h
 ·rename_i k1 n1 k2 n2
  rw [rel_int hp,rel_int hq]
  split at h
  ·unfold shInt at h
   split at h
   ·obtain ⟨h0,h⟩:=h
    exact ⟨_,_,by simp [eqGuard_at_int,binOp,Op.shift,show ¬ n2<0 from by omega],mk_int _ _,h⟩
   ·obtain ⟨h0,h⟩:=h
    exact ⟨_,_,by simp [eqGuard_at_int,binOp,Op.shift,show ¬ n2<0 from by omega],mk_int _ _,h⟩
   ·exact h.elim
  ·obtain ⟨rfl,h⟩:=h
   unfold binInt at h
   split at h
   case h_5=>exact ⟨_,_,by simp [eqGuard_at_int,binOp_rem,Op.intDiv,h.1],mk_int _ _,h.2⟩
   case h_4=>exact ⟨_,_,by simp [eqGuard_at_int,binOp_quo,Op.intDiv,h.1],mk_int _ _,h.2⟩
   all_goals first
    | (refine ⟨_,_,?_,mk_int _ _,h⟩; simp [eqGuard_at_int,binOp_add,binOp_sub,binOp_mul,binOp_and,binOp_or,binOp_xor,binOp_andNot,Op.intArith,intBits_and,intBits_or,intBits_xor,intBits_andNot]; done)
    | (refine ⟨_,_,?_,mk_bool _,h⟩; simp [eqGuard_at_int,binOp_eql,binOp_neq,binOp_lss,binOp_leq,binOp_gtr,binOp_geq]; done)
    | exact False.elim h
 ·rename_i s1 s2
  rw [rel_str hp,rel_str hq]
  unfold binStr at h
  split at h
  case h_1 =>
   refine ⟨_,_,?_,mk_str _,h.2⟩
   have h1:=h.1
   have:¬ ((((⟨s1.toArray⟩:ByteArray).size+(⟨s2.toArray⟩:ByteArray).size:Nat):Int) > IntKind.i64.max):=by
    simp only [ByteArray.size,List.size_toArray]
    have:IntKind.i64.max=9223372036854775807:=by decide
    omega
   simp only [eqGuard_at_string,binOp,Op.stringOp,Sem.run_bind,Sem.run_pure,Result.andThen_ok,if_neg this]
   congr 2
  all_goals first
   | (refine ⟨_,_,?_,mk_bool _,h⟩; simp [eqGuard_at_string,binOp,Op.stringOp]; done)
   | exact False.elim h
 ·exact False.elim h
theorem eql_run {t:TypeId} {p q:Value} {b:Bool} (hb:∀ op ox oy,op=BinOp.eql∨op=.neq→eqGuard op t ox oy p q=pure ())
  (h1:∀ op,op=BinOp.eql∨op=.neq→binOp op t p q=(if op=.eql then (do pure (.bool (← Op.equal t p q))) else (do pure (.bool (!(← Op.equal t p q)))))) (he:(Op.equal t p q).run P x.w=.ok b x.w) (neg:Bool) (ox oy:Operand) :
  (do eqGuard (if neg then .neq else .eql) t ox oy p q; binOp (if neg then .neq else .eql) t p q:Sem Value).run P x.w=.ok (.bool (if neg then !b else b)) x.w:=by
 cases neg
 ·simp [hb .eql ox oy (.inl rfl),h1 .eql (.inl rfl),he]
 ·simp [hb .neq ox oy (.inr rfl),h1 .neq (.inr rfl),he]
theorem equalIn_ptr (d:Nat) {t e':TypeId} (ht:P.underlying t=some (.pointer e')) (a c:Option Addr) (r:Bool) (h:(a=none∧c.isNone=r)∨(c=none∧a.isNone=r)) :
  (Op.equalIn (d+1) t (.pointer a) (.pointer c)).run P x.w=.ok r x.w:=by
 rcases h with ⟨rfl,h⟩ | ⟨rfl,h⟩
 ·simp [Op.equalIn,run_underlying ht,h]
 ·cases a with
  | none=>simp [Op.equalIn,run_underlying ht] at *; exact h
  | some a=>simp [Op.equalIn,run_underlying ht] at *; exact h
theorem equalIn_slc (d:Nat) {t e':TypeId} (ht:P.underlying t=some (.slice e')) (a c:Option Addr) (n m n' m':Nat) (r:Bool) (h:(a=none∧c.isNone=r)∨(c=none∧a.isNone=r)) :
  (Op.equalIn (d+1) t (.slice a n m) (.slice c n' m')).run P x.w=.ok r x.w:=by
 rcases h with ⟨rfl,h⟩ | ⟨rfl,h⟩
 ·simp [Op.equalIn,run_underlying ht,h]
 ·cases a with
  | none=>simp [Op.equalIn,run_underlying ht] at *; exact h
  | some a=>simp [Op.equalIn,run_underlying ht] at *; exact h
theorem equalIn_bool (d:Nat) {t:TypeId} (ht:P.underlying t=some .bool) (a b:Bool):(Op.equalIn (d+1) t (.bool a) (.bool b)).run P x.w=.ok (a == b) x.w:=by
 simp [Op.equalIn,run_underlying ht]
theorem evNil_some {f:V→Option Bool} {neg:Bool} {a b:V} {K:Tok→V→Prop} (h:evNil f neg a b K) :
  ∃ p q r,f a=some p∧f b=some q∧((p=true∧q=r)∨(q=true∧p=r))∧K .go (.t (.bool (if neg then !r else r))):=by
 unfold evNil nilK at h
 split at h
 ·rename_i r _ _ h1 h2
  exact ⟨_,_,_,h1,h2,.inl ⟨rfl,rfl⟩,h⟩
 ·rename_i r _ _ _ h1 h2
  exact ⟨_,_,_,h1,h2,.inr ⟨rfl,rfl⟩,h⟩
 ·exact h.elim
theorem evNilP_sound {neg:Bool} {u v:V} {p q:Value} {K:Tok→V→Prop} (hp:VRel x u p) (hq:VRel x v q) (h:evNil isNilP neg u v K) {t e':TypeId} (ht:P.underlying t=some (.pointer e')) (ox oy:Operand) :
  ∃ r z,(do eqGuard (if neg then .neq else .eql) t ox oy p q; binOp (if neg then .neq else .eql) t p q:Sem Value).run P x.w=.ok r x.w∧VRel x z r∧K .go z:=by
 have sh:∀ {u:V} {p:Value} {b:Bool},VRel x u p→isNilP u=some b→∃ a,p=.pointer a∧a.isNone=b:=by
  intro u p b hu hb
  unfold isNilP at hb
  split at hb <;> first | (obtain rfl:=Option.some.inj hb) | cases hb
  ·exact ⟨none,by simpa [VRel] using hu,rfl⟩
  ·obtain ⟨b,off,rfl,_⟩:=hu; exact ⟨_,rfl,rfl⟩
  ·obtain ⟨_,b,_,_,rfl⟩:=hu; exact ⟨_,rfl,rfl⟩
  ·obtain ⟨_,_,_,a,rfl,_⟩:=hu; exact ⟨_,rfl,rfl⟩
 have go:∀ (a c:Option Addr) (r:Bool),(a=none∧c.isNone=r)∨(c=none∧a.isNone=r)→(Op.equal t (.pointer a) (.pointer c)).run P x.w=.ok r x.w:=by
  intro a c r h
  exact equalIn_ptr 9999 ht a c r h
 obtain ⟨b1,b2,r,h1,h2,hb,h⟩:=evNil_some h
 obtain ⟨a,rfl,ha⟩:=sh hp h1
 obtain ⟨c,rfl,hc⟩:=sh hq h2
 rcases hb with ⟨rfl,rfl⟩ | ⟨rfl,rfl⟩
 ·refine ⟨_,_,eql_run (fun op ox oy _=>eqGuard_at_pointer ..) ?_ (go a c _ (.inl ⟨by simpa using ha,hc⟩)) neg ox oy,mk_bool _,h⟩
  rintro op (rfl | rfl) <;> simp [binOp]
 ·refine ⟨_,_,eql_run (fun op ox oy _=>eqGuard_at_pointer ..) ?_ (go a c _ (.inr ⟨by simpa using hc,ha⟩)) neg ox oy,mk_bool _,h⟩
  rintro op (rfl | rfl) <;> simp [binOp]
theorem evNilS_sound {neg:Bool} {u v:V} {p q:Value} {K:Tok→V→Prop} (hp:VRel x u p) (hq:VRel x v q) (h:evNil isNilS neg u v K) {t e':TypeId} (ht:P.underlying t=some (.slice e')) (ox oy:Operand) :
  ∃ r z,(do eqGuard (if neg then .neq else .eql) t ox oy p q; binOp (if neg then .neq else .eql) t p q:Sem Value).run P x.w=.ok r x.w∧VRel x z r∧K .go z:=by
 have sh:∀ {u:V} {p:Value} {b:Bool},VRel x u p→isNilS u=some b→∃ a n m,p=.slice a n m∧a.isNone=b:=by
  intro u p b hu hb
  unfold isNilS at hb
  split at hb <;> first | (obtain rfl:=Option.some.inj hb) | cases hb
  ·exact ⟨none,0,0,by simpa [VRel] using hu,rfl⟩
  ·simp only [VRel,TRel] at hu
   obtain ⟨a,c,rfl,_,h | ⟨b,off,rfl,_⟩⟩:=hu
   ·simp at h
   ·exact ⟨_,_,_,rfl,rfl⟩
  ·simp only [VRel] at hu
   obtain ⟨a,rfl,h | ⟨b,off,rfl,_⟩⟩:=hu
   ·simp at h
   ·exact ⟨_,_,_,rfl,rfl⟩
 have go:∀ (a c:Option Addr) (n m n' m':Nat) (r:Bool),(a=none∧c.isNone=r)∨(c=none∧a.isNone=r)→(Op.equal t (.slice a n m) (.slice c n' m')).run P x.w=.ok r x.w :=
  fun a c n m n' m' r h=>equalIn_slc 9999 ht a c n m n' m' r h
 obtain ⟨b1,b2,r,h1,h2,hb,h⟩:=evNil_some h
 obtain ⟨a,n,m,rfl,ha⟩:=sh hp h1
 obtain ⟨c,n',m',rfl,hc⟩:=sh hq h2
 rcases hb with ⟨rfl,rfl⟩ | ⟨rfl,rfl⟩
 ·refine ⟨_,_,eql_run (fun op ox oy _=>eqGuard_at_slice ..) ?_ (go a c _ _ _ _ _ (.inl ⟨by simpa using ha,hc⟩)) neg ox oy,mk_bool _,h⟩
  rintro op (rfl | rfl) <;> simp [binOp]
 ·refine ⟨_,_,eql_run (fun op ox oy _=>eqGuard_at_slice ..) ?_ (go a c _ _ _ _ _ (.inr ⟨by simpa using hc,ha⟩)) neg ox oy,mk_bool _,h⟩
  rintro op (rfl | rfl) <;> simp [binOp]
theorem equalIn_ifn (d:Nat) {t:TypeId} {ms:Array (String × TypeId)} (ht:P.underlying t=some (.interface ms)):(Op.equalIn (d+1) t .nilIface .nilIface).run P x.w=.ok true x.w:=by
 simp [Op.equalIn,run_underlying ht]
theorem equalIn_ifi (d:Nat) {t ty:TypeId} {c:Value} {ms:Array (String × TypeId)} (ht:P.underlying t=some (.interface ms)):(Op.equalIn (d+1) t (.iface ty c) .nilIface).run P x.w=.ok false x.w:=by
 simp [Op.equalIn,run_underlying ht]
theorem eqGuard_nil (op:BinOp) (t:TypeId) (ox:Operand):eqGuard op t ox (.const .nilIface) .nilIface .nilIface=pure ():=by
 cases op <;> simp [eqGuard]
theorem eqGuard_ifi (op:BinOp) (t ty:TypeId) (c:Value) (ox:Operand):eqGuard op t ox (.const .nilIface) (.iface ty c) .nilIface=pure ():=by
 cases op <;> rfl
theorem eql_run2 {t:TypeId} {p q:Value} {b:Bool} {ox oy:Operand} (hb:∀ op,eqGuard op t ox oy p q=pure ())
  (h1:∀ op,op=BinOp.eql∨op=.neq→binOp op t p q=(if op=.eql then (do pure (.bool (← Op.equal t p q))) else (do pure (.bool (!(← Op.equal t p q)))))) (he:(Op.equal t p q).run P x.w=.ok b x.w) (neg:Bool) :
  (do eqGuard (if neg then .neq else .eql) t ox oy p q; binOp (if neg then .neq else .eql) t p q:Sem Value).run P x.w=.ok (.bool (if neg then !b else b)) x.w:=by
 cases neg
 ·simp [hb .eql,h1 .eql (.inl rfl),he]
 ·simp [hb .neq,h1 .neq (.inr rfl),he]
theorem evNilI_sound {neg:Bool} {u v:V} {p:Value} {K:Tok→V→Prop} (hp:VRel x u p) (hq:VRel x v .nilIface) (h:evNil isNilI neg u v K) {t:TypeId} {ms:Array (String × TypeId)} (ht:P.underlying t=some (.interface ms)) (ox:Operand) :
  ∃ r z,(do eqGuard (if neg then .neq else .eql) t ox (.const .nilIface) p .nilIface; binOp (if neg then .neq else .eql) t p .nilIface:Sem Value).run P x.w=.ok r x.w∧VRel x z r∧K .go z:=by
 obtain ⟨b1,b2,r,h1,h2,hb,h⟩:=evNil_some h
 have hb2:b2=true:=by
  unfold isNilI at h2
  split at h2
  ·exact (Option.some.inj h2).symm
  ·simp only [VRel] at hq
   obtain ⟨c,hc,_⟩:=hq
   cases hc
  ·cases h2
 subst hb2
 have hr:b1=r:=by
  rcases hb with ⟨h3,h4⟩ | ⟨_,h4⟩
  ·rw [h3,h4]
  ·exact h4
 subst hr
 unfold isNilI at h1
 split at h1
 ·obtain rfl:=Option.some.inj h1
  simp only [VRel] at hp
  subst hp
  refine ⟨_,_,eql_run2 (fun op=>eqGuard_nil op t ox) ?_ (equalIn_ifn 9999 ht) neg,mk_bool _,h⟩
  rintro op (rfl | rfl) <;> simp [binOp]
 ·obtain rfl:=Option.some.inj h1
  simp only [VRel] at hp
  obtain ⟨c,rfl,_⟩:=hp
  refine ⟨_,_,eql_run2 (fun op=>eqGuard_ifi op t _ c ox) ?_ (equalIn_ifi 9999 ht) neg,mk_bool _,h⟩
  rintro op (rfl | rfl) <;> simp [binOp]
 ·cases h1
theorem evB_sound {neg:Bool} {a b:Bool} {p q:Value} {K:Tok→V→Prop} (hp:VRel x (.t (.bool a)) p) (hq:VRel x (.t (.bool b)) q) (h:K .go (.t (.bool (if neg then !(a == b) else (a == b))))) {t:TypeId} (ht:P.underlying t=some .bool) (ox oy:Operand) :
  ∃ r z,(do eqGuard (if neg then .neq else .eql) t ox oy p q; binOp (if neg then .neq else .eql) t p q:Sem Value).run P x.w=.ok r x.w∧VRel x z r∧K .go z:=by
 rw [rel_bool hp,rel_bool hq]
 refine ⟨_,_,eql_run (fun op ox oy _=>eqGuard_at_bool ..) ?_ (equalIn_bool 9999 ht a b) neg ox oy,mk_bool _,h⟩
 rintro op (rfl | rfl) <;> simp [binOp]
theorem evUn_sound {op:UnOp} {u:V} {p:Value} {K:Tok→V→Prop} (hp:VRel x u p) (h:evUn op u K):∃ r z,(Op.unary op p).run P x.w=.ok r x.w∧VRel x z r∧K .go z:=by
 unfold evUn at h
 split at h
 ·rw [rel_int hp]; exact ⟨_,_,by simp [Op.unary,Op.intArith],mk_int _ _,h⟩
 ·rw [rel_int hp]; exact ⟨_,_,by simp [Op.unary,intBits_xor],mk_int _ _,h⟩
 ·rw [rel_bool hp]; exact ⟨_,_,by simp [Op.unary],mk_bool _,h⟩
 ·exact h.elim
end
end Go.Ab
end
section
namespace Go.Ab
section
variable {P:Program} {x:Cx} {e:Env} {a:Act}
theorem bnd_run (he:ERel x e a.tmps) {lo:Option Operand} {o:Option O} (hc:cOo lo=some o) {d:Nat} {K:Tok→Nat→Prop} (h:bnd e o d K) :
  ∃ l,K .go l∧((lo=none∧l=d)∨∃ p k i,lo=some p∧a.eval p=.int k i∧0≤i∧l=i.toNat):=by
 cases lo with
 | none =>
  simp only [cOo,Option.some.injEq] at hc
  subst hc
  exact ⟨d,h,.inl ⟨rfl,rfl⟩⟩
 | some p =>
  simp only [cOo] at hc
  cases hp:cO p with
  | none=>simp [hp] at hc
  | some o' =>
   simp [hp] at hc
   subst hc
   simp only [bnd] at h
   unfold bndV at h
   split at h
   ·rename_i k i hu
    exact ⟨i.toNat,h.2,.inr ⟨p,k,i,rfl,rel_int (opv_rel he hp hu),h.1,rfl⟩⟩
   ·exact h.elim
theorem slice_run (he:ERel x e a.tmps) {lo hi:Option Operand} {lo' hi':Option O} (hl:cOo lo=some lo') (hh:cOo hi=some hi') (b:Bool) {n cap:Nat} (hcap:n≤cap) (hb:b=true∨cap=n) {K:Tok→Nat→Nat→Prop} (h:evSlice e n lo' hi' K) (w:World) :
  ∃ l m,l≤m∧m≤n∧K .go l m∧(Instr.sliceBounds b n cap (lo.map a.eval) (hi.map a.eval) none).run P w=.ok (l,m,cap) w:=by
 unfold evSlice at h
 obtain ⟨m,⟨hm,h⟩,h2⟩:=bnd_run he hh h
 obtain ⟨l,⟨hlm,hk⟩,h1⟩:=bnd_run he hl h
 refine ⟨l,m,hlm,hm,hk,?_⟩
 have r1:∀ (y:Nat) (c:BoundsCode) (k:IntKind) (i:Int),0≤i→i.toNat≤y→(Instr.sliceBound (.int k i) y c).run P w=.ok i.toNat w:=by
  intro y c k i h0 hy
  simp [Instr.sliceBound,asIntOf,show 0≤i∧i≤(y:Int) from ⟨h0,by omega⟩]
 rcases h2 with ⟨rfl,rfl⟩ | ⟨p,k,i,rfl,hp,hi0,rfl⟩
 ·rcases h1 with ⟨rfl,rfl⟩ | ⟨p,k,i,rfl,hp,hi0,rfl⟩
  ·simp [Instr.sliceBounds]
  ·simp only [Option.map_some,Option.map_none,Instr.sliceBounds,hp,Sem.run_bind,Sem.run_pure,Result.andThen_ok,Option.isSome_none,Bool.false_eq_true,if_false,r1 _ _ k i hi0 hlm]
 ·rcases h1 with ⟨rfl,rfl⟩ | ⟨p',k',i',rfl,hp',hi0',rfl⟩
  ·simp only [Option.map_some,Option.map_none,Instr.sliceBounds,hp,Sem.run_bind,Sem.run_pure,Result.andThen_ok,r1 _ _ k i hi0 (show i.toNat≤cap by omega)]
  ·simp only [Option.map_some,Instr.sliceBounds,hp,hp',Sem.run_bind,Sem.run_pure,Result.andThen_ok,Option.isSome_none,Bool.false_eq_true,if_false,r1 _ _ k i hi0 (show i.toNat≤cap by omega),r1 _ _ k' i' hi0' hlm]
theorem step_sliceStr (hx:WRel x) (he:ERel x e a.tmps) {p:Operand} {o:O} {lo hi:Option Operand} {lo' hi':Option O} (hp:cO p=some o) (hl:cOo lo=some lo') (hh:cOo hi=some hi') {t:TypeId} (ht:P.underlying t=some .string)
  {K:Tok→Option V→Store→Prop} (hk:ev e x.σ K (.sliceStr o lo' hi')):Step P x (do pure (Next.value (← Instr.sliceAt t (a.eval p) (lo.map a.eval) (hi.map a.eval) none))) K:=by
 obtain ⟨u,hu,hk⟩:=onV_some hk
 have hr:=opv_rel he hp hu
 unfold evSliceStr at hk
 split at hk
 ·rename_i s
  rw [rel_str hr]
  obtain ⟨l,m,hlm,hmn,hk,hrun⟩:=slice_run (P:=P) he hl hh false (Nat.le_refl _) (.inr rfl) hk x.w
  refine Step.pure hx (v:=.string ⟨((s.take m).drop l).toArray⟩) ?_ (mk_str _) hk
  have hsz:(⟨s.toArray⟩:ByteArray).size=s.length:=by simp [ByteArray.size]
  simp only [Instr.sliceAt,Instr.slice,Sem.run_bind,run_underlying ht,Result.andThen_ok,hsz,hrun,Sem.run_pure,Option.isSome_none,Bool.false_eq_true,if_false]
  congr 2
  congr 1
  rw [Lib.extract_eq]
  simp [List.drop_take]
 ·exact hk.elim
theorem run_sizeOf' {t:TypeId} {i:TypeInfo} (h:P.info? t=some i) (w:World):(sizeOf t).run P w=.ok i.size w:=by simp [sizeOf,typeInfo,h]
theorem run_typeInfo' {t:TypeId} {i:TypeInfo} (h:P.info? t=some i) (w:World):(typeInfo t).run P w=.ok i w:=by simp [typeInfo,h]
theorem TRows.drop {F:Nat→Prop} {w:World} {sz:Nat}:∀ {rows:List (List T)} {b off:Nat} (l:Nat),TRows F w sz rows b off→TRows F w sz (rows.drop l) b (off+l * sz)
 | [],_,_,l,_=>by simp [TRows]
 | r::rs,b,off,0,h=>by simpa using h
 | r::rs,b,off,l+1,h=>by
  simp only [TRows] at h
  have:=TRows.drop l h.2.2
  rw [show off+(l+1) * sz=off+sz+l * sz by rw [Nat.add_mul]; omega]
  exact this
theorem TRows.take {F:Nat→Prop} {w:World} {sz:Nat}:∀ {rows:List (List T)} {b off:Nat} (l:Nat),TRows F w sz rows b off→TRows F w sz (rows.take l) b off
 | [],_,_,l,_=>by simp [TRows]
 | r::rs,b,off,0,h=>by simp [TRows]
 | r::rs,b,off,l+1,h=>by
  simp only [TRows,List.take_succ_cons] at h ⊢
  exact ⟨h.1,h.2.1,TRows.take l h.2.2⟩
theorem TRows.get {F:Nat→Prop} {w:World} {sz:Nat}:∀ {rows:List (List T)} {b off:Nat} {l:Nat} {r:List T},rows[l]?=some r→TRows F w sz rows b off→r.length=sz∧TCells F w r b (off+l * sz)
 | [],_,_,l,_,hr,_=>by simp at hr
 | r::rs,b,off,0,_,hr,h=>by
  simp at hr; subst hr
  simp only [TRows] at h
  exact ⟨h.1,by simpa using h.2.1⟩
 | r::rs,b,off,l+1,_,hr,h=>by
  simp only [TRows] at h
  have:=TRows.get (l:=l) (by simpa using hr) h.2.2
  rw [show off+(l+1) * sz=off+sz+l * sz by rw [Nat.add_mul]; omega]
  exact this
theorem TCells.drop {F:Nat→Prop} {w:World}:∀ {cs:List T} {b off:Nat} (l:Nat),TCells F w cs b off→TCells F w (cs.drop l) b (off+l)
 | [],_,_,l,_=>by simp [TCells]
 | r::rs,b,off,0,h=>by simpa using h
 | r::rs,b,off,l+1,h=>by
  simp only [TCells] at h
  have:=TCells.drop l h.2
  rw [show off+(l+1)=off+1+l by omega]
  exact this
theorem VsRel.get {x:Cx}:∀ {us:List V} {l:List Value} {k:Nat} {u:V},VsRel x us l→us[k]?=some u→∃ c,l[k]?=some c∧VRel x u c
 | [],_,_,_,_,h=>by simp at h
 | u::us,l,0,v,hl,h=>by
  simp only [VsRel] at hl
  obtain ⟨c,cs,rfl,hc,_⟩:=hl
  simp at h; subst h
  exact ⟨c,rfl,hc⟩
 | u::us,l,k+1,v,hl,h=>by
  simp only [VsRel] at hl
  obtain ⟨c,cs,rfl,_,hcs⟩:=hl
  obtain ⟨d,hd,hr⟩:=VsRel.get hcs (k:=k) (by simpa using h)
  exact ⟨d,by simpa using hd,hr⟩
theorem addr_add (b off n:Nat):Addr.add ⟨b,off,none⟩ n=⟨b,off+n,none⟩:=by
 unfold Addr.add
 split
 ·subst_vars; rfl
 ·rfl
theorem step_sliceSl (hx:WRel x) (he:ERel x e a.tmps) {p:Operand} {o:O} {lo hi:Option Operand} {lo' hi':Option O} (hp:cO p=some o) (hl:cOo lo=some lo') (hh:cOo hi=some hi') {t et:TypeId} {i:TypeInfo} (ht:P.underlying t=some (.slice et)) (hti:P.info? et=some i)
  {K:Tok→Option V→Store→Prop} (hk:ev e x.σ K (.sliceSl i.size o lo' hi')):Step P x (do pure (Next.value (← Instr.sliceAt t (a.eval p) (lo.map a.eval) (hi.map a.eval) none))) K:=by
 obtain ⟨u,hu,hk⟩:=onV_some hk
 have hr:=opv_rel he hp hu
 unfold evSliceSl at hk
 split at hk
 ·rename_i sz rows
  obtain ⟨rfl,hk⟩:=hk
  simp only [VRel,TRel] at hr
  obtain ⟨ad,c,hv,hc,hr⟩:=hr
  rw [hv]
  obtain ⟨l,m,hlm,hmn,hk,hrun⟩:=slice_run (P:=P) he hl hh true hc (.inl rfl) hk x.w
  have hlen:((rows.take m).drop l).length=m - l:=by simp; omega
  refine Step.pure hx (v:=.slice (if c=l then ad else ad.map (·.add (l * i.size))) (m - l) (c - l)) ?_ ?_ hk
  ·simp only [Instr.sliceAt,Instr.slice,Sem.run_bind,run_underlying ht,Result.andThen_ok,hrun,run_sizeOf' hti,Sem.run_pure]
  ·simp only [VRel,TRel,hlen]
   refine ⟨_,c - l,rfl,by omega,?_⟩
   by_cases hz:m - l=0
   ·exact .inl hz
   ·refine .inr ?_
    rcases hr with hr | ⟨b,off,rfl,hF,hrows⟩
    ·omega
    ·rw [if_neg (by omega)]
     exact ⟨b,off+l * i.size,by simp [addr_add],hF,(hrows.take m).drop l⟩
 ·simp only [VRel] at hr
  rw [hr]
  obtain ⟨l,m,hlm,hmn,hk,hrun⟩:=slice_run (P:=P) he hl hh true (Nat.le_refl 0) (.inl rfl) hk x.w
  have hm0:m=0:=by omega
  have hl0:l=0:=by omega
  subst hm0 hl0
  refine Step.pure hx (v:=.slice none 0 0) ?_ (by simp [VRel]) hk
  simp only [Instr.sliceAt,Instr.slice,Sem.run_bind,run_underlying ht,Result.andThen_ok,hrun,run_sizeOf' hti,Sem.run_pure]
  simp
 ·rename_i s
  obtain ⟨rfl,hk⟩:=hk
  simp only [VRel] at hr
  obtain ⟨ba,hv,_⟩:=hr
  simp only [List.length_nil] at hv
  rw [hv]
  obtain ⟨l,m,hlm,hmn,hk,hrun⟩:=slice_run (P:=P) he hl hh true (Nat.le_refl 0) (.inl rfl) hk x.w
  have hm0:m=0:=by omega
  have hl0:l=0:=by omega
  subst hm0 hl0
  refine Step.pure hx (v:=.slice ba 0 0) ?_ (by simp only [VRel]; exact ⟨ba,rfl,.inl rfl⟩) hk
  simp only [Instr.sliceAt,Instr.slice,Sem.run_bind,run_underlying ht,Result.andThen_ok,hrun,run_sizeOf' hti,Sem.run_pure]
  simp
 ·rename_i id g off len
  obtain ⟨sz,rows,ho,hk2⟩:=onSlc_some hk
  obtain ⟨rfl,rfl,hk⟩:=hk2
  simp only [VRel] at hr
  obtain ⟨ob,ho',_,ad,c,hv,hc,hr⟩:=hr
  rw [ho] at ho'
  obtain rfl:=Option.some.inj ho'
  rw [hv]
  obtain ⟨l,m,hlm,hmn,hk,hrun⟩:=slice_run (P:=P) he hl hh true hc (.inl rfl) hk x.w
  refine Step.pure hx (v:=.slice (if c=l then ad else ad.map (·.add (l * i.size))) (m - l) (c - l)) ?_ ?_ hk
  ·simp only [Instr.sliceAt,Instr.slice,Sem.run_bind,run_underlying ht,Result.andThen_ok,hrun,run_sizeOf' hti,Sem.run_pure]
  ·simp only [VRel]
   refine ⟨_,ho,Nat.le_refl _,_,c - l,rfl,by omega,fun _=>?_⟩
   obtain ⟨h1,h2,h3⟩:=hr rfl
   refine ⟨by omega,?_,fun h0=>?_⟩
   ·by_cases hz:m - l=0
    ·exact .inl hz
    ·rcases h2 with h2 | ⟨b,hb,rfl⟩
     ·omega
     ·rw [if_neg (by omega)]
      exact .inr ⟨b,hb,by simp [addr_add,Nat.add_mul]⟩
   ·have hl0:l=0:=by omega
    have ho0:off=0:=by omega
    subst hl0 ho0
    obtain ⟨k1,k2⟩:=h3 rfl
    subst k1 k2
    refine ⟨?_,rfl⟩
    cases (x.ρ id).blk <;> simp [addr_add]
 ·exact hk.elim
theorem step_index (hx:WRel x) (he:ERel x e a.tmps) {p q:Operand} {o1 o2:O} (hp:cO p=some o1) (hq:cO q=some o2) {t:TypeId} (ht:P.underlying t=some .string)
  {K:Tok→Option V→Store→Prop} (hk:ev e x.σ K (.index o1 o2)):Step P x (do pure (Next.value (← Instr.index t (a.eval p) (a.eval q)))) K:=by
 obtain ⟨u,hu,hk1⟩:=onV_some hk
 clear hk
 obtain ⟨v,hv,hk⟩:=onV_some hk1
 clear hk1
 have hr:=opv_rel he hp hu
 have hs:=opv_rel he hq hv
 unfold evIndex at hk
 split at hk
 ·rename_i s k n
  rw [rel_str hr,rel_int hs]
  ·obtain ⟨h0,hk⟩:=hk
   obtain ⟨b,hb,hk⟩:=onRow_some hk
   refine Step.pure hx (v:=.int .u8 b.toNat) ?_ (mk_int _ _) hk
   have hb':(⟨s.toArray⟩:ByteArray)[n.toNat]?=some b:=by
    have h1:=(List.getElem?_eq_some_iff.1 hb)
    obtain ⟨h1,h2⟩:=h1
    rw [getElem?_pos (⟨s.toArray⟩:ByteArray) n.toNat (by simpa [ByteArray.size] using h1)]
    simp only [Option.some.injEq]
    rw [← h2]
    rfl
   simp [Instr.index,asIntOf,run_underlying ht,h0,hb']
 ·exact hk.elim
theorem VRows.get {x:Cx} {sz:Nat}:∀ {rs:List (List V)} {b off i:Nat} {r:List V},VRows x sz rs b off→rs[i]?=some r→r.length=sz∧VCells x r b (off+i * sz)
 | [],_,_,_,_,_,h=>by simp at h
 | r0::rs,b,off,0,r,h,hr=>by
  simp only [VRows] at h
  simp only [List.getElem?_cons_zero,Option.some.injEq] at hr
  subst hr
  simpa using ⟨h.1,h.2.1⟩
 | r0::rs,b,off,i+1,r,h,hr=>by
  simp only [VRows] at h
  have:=VRows.get h.2.2 (show rs[i]?=some r by simpa using hr)
  rw [Nat.add_mul,Nat.one_mul,Nat.add_comm (i * sz) sz,← Nat.add_assoc]
  exact this
theorem VCells.ts {x:Cx}:∀ {r:List V} {ts:List T} {b off:Nat},toTs r=some ts→VCells x r b off→TCells x.F x.w ts b off
 | [],ts,b,off,h,_=>by simp only [toTs,Option.some.injEq] at h; subst h; simp [TCells]
 | u::us,ts,b,off,h,hc=>by
  cases u with
  | t y =>
   simp only [toTs] at h
   cases hu:toTs us with
   | none=>rw [hu] at h; cases h
   | some ts' =>
    rw [hu] at h
    obtain rfl:=Option.some.inj h
    simp only [VCells] at hc
    obtain ⟨⟨c,h1,h2⟩,h3⟩:=hc
    simp only [TCells]
    exact ⟨⟨c,h1,by simpa only [VRel] using h2⟩,VCells.ts hu h3⟩
  | _=>cases h
theorem step_indexAddr (hx:WRel x) (he:ERel x e a.tmps) {p q:Operand} {o1 o2:O} (hp:cO p=some o1) (hq:cO q=some o2) {t et:TypeId} {i:TypeInfo} (ht:P.underlying t=some (.slice et)) (hti:P.info? et=some i)
  {K:Tok→Option V→Store→Prop} (hk:ev e x.σ K (.indexAddr i.size o1 o2)):Step P x (do pure (Next.value (← Instr.indexAt t (a.eval p) (a.eval q)))) K:=by
 obtain ⟨u,hu,hk1⟩:=onV_some hk
 clear hk
 obtain ⟨v,hv,hk⟩:=onV_some hk1
 clear hk1
 have hr:=opv_rel he hp hu
 have hs:=opv_rel he hq hv
 unfold evIndexAddr at hk
 split at hk
 ·rename_i sz rows k n
  rw [rel_int hs]
  obtain ⟨rfl,h0,hk⟩:=hk
  obtain ⟨r,hrow,hk⟩:=onRow_some hk
  simp only [VRel,TRel] at hr
  obtain ⟨ad,c,hv,hc,hr⟩:=hr
  rw [hv]
  have hlt:n.toNat<rows.length:=(List.getElem?_eq_some_iff.1 hrow).1
  rcases hr with hr | ⟨b,off,rfl,hF,hrows⟩
  ·omega
  ·refine Step.pure hx (v:=.pointer (some ⟨b,off+n.toNat * i.size,none⟩)) ?_ (by simp only [VRel]; exact ⟨b,_,rfl,hF,(hrows.get hrow).2⟩) hk
   simp only [Instr.indexAt,asIntOf,Sem.run_bind,Sem.run_pure,Result.andThen_ok,run_underlying ht,run_sizeOf' hti,if_pos (show 0≤n∧n<(rows.length:Int) from ⟨h0,by omega⟩),addr_add]
 ·rename_i id g off len k n
  rw [rel_int hs]
  obtain ⟨sz,rows,hob,rfl,rfl,h0,hlt,hk⟩:=onSlc_some hk
  simp only [VRel] at hr
  obtain ⟨o,ho,hg,ad,c,hv,hc,hr⟩:=hr
  rw [hob] at ho
  obtain rfl:=Option.some.inj ho
  have hr:=hr rfl
  simp only [SlOk] at hr
  rw [hv]
  rcases hr.2.1 with h | ⟨b,hb,rfl⟩
  ·omega
  ·refine Step.pure hx (v:=.pointer (some ⟨b,off * i.size+n.toNat * i.size,none⟩)) ?_ ?_ hk
   ·simp only [Instr.indexAt,asIntOf,Sem.run_bind,Sem.run_pure,Result.andThen_ok,run_underlying ht,run_sizeOf' hti,if_pos (show 0≤n∧n<(len:Int) from ⟨h0,by omega⟩),addr_add]
   ·simp only [VRel]
    exact ⟨_,hob,Nat.le_refl _,_,rfl,fun _=>⟨b,_,rows,hb,rfl,by rw [← Nat.add_mul]; rfl⟩⟩
 ·rename_i sz rs k n
  rw [rel_int hs]
  obtain ⟨rfl,h0,hk⟩:=hk
  obtain ⟨r,hrow,hk⟩:=onRow_some hk
  obtain ⟨ts,hts,hk⟩:=onRow_some hk
  simp only [VRel] at hr
  obtain ⟨ad,hv,hr⟩:=hr
  rw [hv]
  have hlt:n.toNat<rs.length:=(List.getElem?_eq_some_iff.1 hrow).1
  rcases hr with hr | ⟨b,off,rfl,hF,hrows⟩
  ·omega
  ·refine Step.pure hx (v:=.pointer (some ⟨b,off+n.toNat * i.size,none⟩)) ?_ (by simp only [VRel]; exact ⟨b,_,rfl,hF,VCells.ts hts (hrows.get hrow).2⟩) hk
   simp only [Instr.indexAt,asIntOf,Sem.run_bind,Sem.run_pure,Result.andThen_ok,run_underlying ht,run_sizeOf' hti,if_pos (show 0≤n∧n<(rs.length:Int) from ⟨h0,by omega⟩),addr_add]
 ·exact hk.elim
theorem step_lenStr (hx:WRel x) (he:ERel x e a.tmps) {p:Operand} {o:O} (hp:cO p=some o) {t ty:TypeId} (ht:P.underlying t=some .string)
  {K:Tok→Option V→Store→Prop} (hk:ev e x.σ K (.len true o)):Step P x (do pure (Next.value (← Builtin.len_ #[t] ty #[a.eval p]))) K:=by
 obtain ⟨u,hu,hk⟩:=onV_some hk
 have hr:=opv_rel he hp hu
 simp only [if_true] at hk
 obtain ⟨n,hn,hk⟩:=onRow_some hk
 ·unfold lenStr at hn
  split at hn <;> simp at hn
  subst hn
  rw [rel_str hr]
  exact Step.pure hx (v:=goInt _) (by simp [Builtin.len_,run_underlying ht]; rfl) (by simp [goInt,VRel,TRel,ByteArray.size]) hk
theorem step_lenSl (hx:WRel x) (he:ERel x e a.tmps) {p:Operand} {o:O} (hp:cO p=some o) {t ty et:TypeId} (ht:P.underlying t=some (.slice et))
  {K:Tok→Option V→Store→Prop} (hk:ev e x.σ K (.len false o)):Step P x (do pure (Next.value (← Builtin.len_ #[t] ty #[a.eval p]))) K:=by
 obtain ⟨u,hu,hk⟩:=onV_some hk
 have hr:=opv_rel he hp hu
 have key:∀ (n:Nat),(∃ ad c,a.eval p=.slice ad n c)→K .go (some (.t (.int .i64 n))) x.σ→Step P x (do pure (Next.value (← Builtin.len_ #[t] ty #[a.eval p]))) K:=by
  rintro n ⟨ad,c,hv⟩ hk
  rw [hv]
  exact Step.pure hx (v:=goInt n) (by simp [Builtin.len_,run_underlying ht]) (by simp [goInt,VRel,TRel]) hk
 simp only [Bool.false_eq_true,if_false] at hk
 obtain ⟨n,hn,hk⟩:=onRow_some hk
 ·unfold lenSl at hn
  split at hn <;> simp at hn
  all_goals subst hn
  ·simp only [VRel,TRel] at hr
   obtain ⟨ad,c,hv,_⟩:=hr
   exact key _ ⟨_,_,hv⟩ hk
  ·simp only [VRel] at hr
   exact key 0 ⟨_,_,hr⟩ hk
  ·simp only [VRel] at hr
   obtain ⟨_,_,_,ad,c,hv,_⟩:=hr
   exact key _ ⟨_,_,hv⟩ hk
  ·simp only [VRel] at hr
   obtain ⟨ad,hv,_⟩:=hr
   exact key _ ⟨_,_,hv⟩ hk
theorem step_extract (hx:WRel x) (he:ERel x e a.tmps) {p:Operand} {o:O} (hp:cO p=some o) (k:Nat) {K:Tok→Option V→Store→Prop} (hk:ev e x.σ K (.extract o k)):Step P x (do pure (Next.value (← Instr.extract (a.eval p) k))) K:=by
 obtain ⟨u,hu,hk⟩:=onV_some hk
 have hr:=opv_rel he hp hu
 unfold evExtract at hk
 split at hk
 ·rename_i us
  simp only [VRel] at hr
  obtain ⟨l,hv,hl⟩:=hr
  rw [hv]
  obtain ⟨w,hw,hk⟩:=onV_some hk
  obtain ⟨c,hc,hcr⟩:=VsRel.get hl hw
  exact Step.pure hx (v:=c) (by simp [Instr.extract,hc]) hcr hk
 ·exact hk.elim
theorem step_convInt (hx:WRel x) (he:ERel x e a.tmps) {p:Operand} {o:O} (hp:cO p=some o) {s t:TypeId} {k k':IntKind} (hs:P.underlying s=some (.int k')) (ht:P.underlying t=some (.int k)) {K:Tok→Option V→Store→Prop} (hk:ev e x.σ K (.convInt k o)) :
  Step P x (do pure (Next.value (← convert s t (a.eval p)))) K:=by
 obtain ⟨u,hu,hk⟩:=onV_some hk
 have hr:=opv_rel he hp hu
 unfold evConv at hk
 split at hk
 ·rw [rel_int hr]
  exact Step.pure hx (v:=.int k _) (by simp [convert,run_underlying hs,run_underlying ht,Conv.intToInt]) (mk_int _ _) hk
 ·exact hk.elim
theorem fieldOf_some {s:TypeId} {f:Nat} {off n:Nat} {ft:TypeId} (h:fieldOf P s f=some (off,ft,n)):∃ fs fd i,P.underlying s=some (.struct fs)∧fs[f]?=some fd∧P.info? fd.type=some i∧off=fd.offset∧ft=fd.type∧n=i.size:=by
 unfold fieldOf at h
 split at h
 ·rename_i fs hs
  split at h
  ·rename_i fd hf
   split at h
   ·rename_i i hi
    simp only [Option.some.injEq,Prod.mk.injEq] at h
    exact ⟨fs,fd,i,hs,hf,hi,h.1.symm,h.2.1.symm,h.2.2.symm⟩
   ·cases h
  ·cases h
 ·cases h
theorem step_fieldAddr (hx:WRel x) (he:ERel x e a.tmps) {p:Operand} {o:O} (hp:cO p=some o) {s ft:TypeId} {f off n:Nat} (hf:fieldOf P s f=some (off,ft,n)) (hn:n≠0) {K:Tok→Option V→Store→Prop} (hk:ev e x.σ K (.fieldAddr off o)) :
  Step P x (do pure (Next.value (← Instr.fieldAt s (a.eval p) f))) K:=by
 obtain ⟨fs,fd,i,h1,h2,h3,rfl,rfl,rfl⟩:=fieldOf_some hf
 obtain ⟨u,hu,hk⟩:=onV_some hk
 have hr:=opv_rel he hp hu
 have run:∀ b o',a.eval p=.pointer (some ⟨b,o',none⟩)→(do pure (Next.value (← Instr.fieldAt s (a.eval p) f)):Sem Next).run P x.w=.ok (.value (.pointer (some ⟨b,o'+fd.offset,none⟩))) x.w:=by
  intro b o' hv
  rw [hv]
  simp [Instr.fieldAt,run_underlying h1,h2,Instr.sureAddr,fieldPlace,run_sizeOf' h3,hn,addr_add]
 unfold evFieldAddr at hk
 split at hk
 ·simp only [VRel] at hr
  obtain ⟨b,o',hv,hF,hc⟩:=hr
  refine Step.pure hx (run b o' hv) ?_ hk
  simp only [VRel]
  exact ⟨b,_,rfl,hF,hc.drop _⟩
 ·simp only [VRel] at hr
  obtain ⟨cs,b,ho,hb,hv⟩:=hr
  refine Step.pure hx (run b _ hv) ?_ hk
  simp only [VRel]
  exact ⟨cs,b,ho,hb,rfl⟩
 ·rename_i id g i' j
  simp only [VRel] at hr
  obtain ⟨ob,ho,hg,ad,hv,hr⟩:=hr
  refine Step.pure hx (v:=.pointer (some (ad.add fd.offset))) ?_ ?_ hk
  ·rw [hv]
   simp [Instr.fieldAt,run_underlying h1,h2,Instr.sureAddr,fieldPlace,run_sizeOf' h3,hn]
  ·simp only [VRel]
   refine ⟨ob,ho,hg,_,rfl,fun eq=>?_⟩
   obtain ⟨b,sz,rows,hb,rfl,rfl⟩:=hr eq
   exact ⟨b,sz,rows,hb,rfl,by rw [addr_add,Nat.add_assoc]⟩
 ·exact hk.elim
theorem VsRel.length {x:Cx}:∀ {us:List V} {l:List Value},VsRel x us l→us.length=l.length
 | [],l,h=>by simp only [VsRel] at h; subst h; rfl
 | u::us,l,h=>by
  simp only [VsRel] at h
  obtain ⟨c,cs,rfl,_,h⟩:=h
  simp [VsRel.length h]
theorem VsRel.drop {x:Cx}:∀ {us:List V} {l:List Value} (k:Nat),VsRel x us l→VsRel x (us.drop k) (l.drop k)
 | [],l,k,h=>by simp only [VsRel] at h; subst h; simp [VsRel]
 | u::us,l,0,h=>by simpa using h
 | u::us,l,k+1,h=>by
  simp only [VsRel] at h
  obtain ⟨c,cs,rfl,_,h⟩:=h
  simpa using VsRel.drop k h
theorem VsRel.take {x:Cx}:∀ {us:List V} {l:List Value} (k:Nat),VsRel x us l→VsRel x (us.take k) (l.take k)
 | [],l,k,h=>by simp only [VsRel] at h; subst h; simp [VsRel]
 | u::us,l,0,h=>by simp [VsRel]
 | u::us,l,k+1,h=>by
  simp only [VsRel] at h
  obtain ⟨c,cs,rfl,hc,h⟩:=h
  simp only [List.take_succ_cons,VsRel]
  exact ⟨c,_,rfl,hc,VsRel.take k h⟩
theorem VsRel.app {x:Cx}:∀ {us vs:List V} {l m:List Value},VsRel x us l→VsRel x vs m→VsRel x (us++vs) (l++m)
 | [],vs,l,m,h,k=>by simp only [VsRel] at h; subst h; simpa using k
 | u::us,vs,l,m,h,k=>by
  simp only [VsRel] at h
  obtain ⟨c,cs,rfl,hc,h⟩:=h
  simp only [List.cons_append,VsRel]
  exact ⟨c,_,rfl,hc,VsRel.app h k⟩
theorem one_cell {u:V} {v:Value} (h:VRel x u v) (h1:one u=true):v.oneCell'=true:=by
 cases u <;> simp [one] at h1 <;> simp only [VRel] at h
 case t y=>cases y <;> simp only [TRel] at h <;> first | (subst h; rfl) | (obtain ⟨_,_,rfl,_⟩:=h; rfl)
 case nils=>subst h; rfl
 case nilp=>subst h; rfl
 case nilf=>subst h; rfl
 case nilm=>subst h; rfl
 case any=>exact h
 case nili=>subst h; rfl
 case pv=>obtain ⟨_,_,rfl,_⟩:=h; rfl
 case ptr=>obtain ⟨_,_,_,_,rfl⟩:=h; rfl
 case ep=>obtain ⟨_,_,_,_,rfl,_⟩:=h; rfl
 case sl=>obtain ⟨_,_,_,_,_,rfl,_⟩:=h; rfl
 case map=>obtain ⟨_,_,_,_,_,rfl⟩:=h; rfl
 case bp=>obtain ⟨_,_,_,_,_,rfl⟩:=h; rfl
 case bsl=>obtain ⟨_,_,_,_,⟨_,_,rfl⟩,_⟩:=h; rfl
 case rows=>obtain ⟨_,rfl,_⟩:=h; rfl
 case fn=>obtain ⟨_,rfl,_⟩:=h; rfl
 case fnb=>obtain ⟨_,rfl,_⟩:=h; rfl
 case iface=>obtain ⟨_,rfl,_⟩:=h; rfl
theorem cells_one {v:Value} (h:v.oneCell'=true):v.cells=#[v]:=by cases v <;> first | rfl | simp [Value.oneCell'] at h
theorem cellsOf_rel {u:V} {us:List V} {v:Value} (h:VRel x u v) (hc:cellsOf u=some us):VsRel x us v.cells.toList:=by
 unfold cellsOf at hc
 split at hc
 ·obtain rfl:=Option.some.inj hc
  simp only [VRel] at h
  obtain ⟨l,rfl,h⟩:=h
  simpa [Value.cells] using h
 ·cases hc
 ·obtain rfl:=Option.some.inj hc
  rename_i h1 h2
  have:one u=true:=by cases u <;> first | rfl | exact (h1 _ rfl).elim | exact (h2 _ rfl).elim
  rw [cells_one (one_cell h this)]
  simp only [VsRel]
  exact ⟨v,[],rfl,h,rfl⟩
theorem spanOf_some {t:TypeId} {n:Option Nat} (h:spanOf P t=some n):∃ d i,P.underlying t=some d∧P.info? t=some i∧n=(if isAggD d then some i.size else none):=by
 unfold spanOf at h
 split at h
 ·rename_i d i h1 h2
  exact ⟨d,i,h1,h2,(Option.some.inj h).symm⟩
 ·cases h
theorem run_isAgg {t:TypeId} {d:TypeDesc} (h:P.underlying t=some d) (w:World):(isAgg t).run P w=.ok (isAggD d) w:=by
 unfold isAgg
 simp only [Sem.run_bind,run_underlying h,Result.andThen_ok]
 cases d <;> rfl
theorem ldV_none {cs:List V} {K:Tok→V→Prop} (h:ldV none cs K):∃ u us,cs=u::us∧one u=true∧K .go u:=by
 cases cs with
 | nil=>exact h.elim
 | cons u us=>exact ⟨u,us,rfl,h⟩
theorem step_field (hx:WRel x) (he:ERel x e a.tmps) {p:Operand} {o:O} (hp:cO p=some o) {s ft:TypeId} {f off n:Nat} (hf:fieldOf P s f=some (off,ft,n)) {sp:Option Nat} (hs:spanOf P ft=some sp) {K:Tok→Option V→Store→Prop} (hk:ev e x.σ K (.field off sp o)) :
  Step P x (do pure (Next.value (← Instr.field s (a.eval p) f))) K:=by
 obtain ⟨fs,fd,i,h1,h2,h3,rfl,rfl,rfl⟩:=fieldOf_some hf
 obtain ⟨d,i',k1,k2,rfl⟩:=spanOf_some hs
 obtain rfl:i'=i:=by rw [h3] at k2; exact (Option.some.inj k2).symm
 obtain ⟨u,hu,hk⟩:=onV_some hk
 have hr:=opv_rel he hp hu
 unfold evField at hk
 split at hk
 ·rename_i cs
  simp only [VRel] at hr
  obtain ⟨l,hv,hl⟩:=hr
  rw [hv]
  by_cases hd:isAggD d=true
  ·simp only [hd,if_true,ldV] at hk
   refine Step.pure hx (v:=.agg (l.toArray.extract fd.offset (fd.offset+i'.size))) ?_ ?_ hk.2
   ·simp [Instr.field,run_underlying h1,h2,asAgg,part,run_isAgg k1,hd,run_sizeOf' h3]
   ·simp only [VRel]
    refine ⟨(l.drop fd.offset).take i'.size,?_,(hl.drop _).take _⟩
    congr 1
    apply Array.ext'
    simp [List.extract_eq_take_drop]
  ·simp only [hd,Bool.false_eq_true,if_false] at hk
   obtain ⟨u',us',hcs,_,hk⟩:=ldV_none hk
   have hg:cs[fd.offset]?=some u':=by
    have:=congrArg (·[0]?) hcs
    simpa using this
   obtain ⟨c,hc,hcr⟩:=hl.get hg
   refine Step.pure hx (v:=c) ?_ hcr hk
   simp [Instr.field,run_underlying h1,h2,asAgg,part,run_isAgg k1,hd,hc]
 ·exact hk.elim
theorem loadCells_run {w:World} {b off:Nat}:∀ {l:List Value},(∀ j v,l[j]?=some v→w.cell? ⟨b,off+j,none⟩=some v)→(loadCells ⟨b,off,none⟩ l.length).run P w=.ok l.toArray w:=by
 intro l h
 exact run_loadCells_list w ⟨b,off,none⟩ l (fun j v hj=>by rw [addr_add]; exact h j v hj)
theorem loadVar_run {t:TypeId} {d:TypeDesc} {i:TypeInfo} (h1:P.underlying t=some d) (h2:P.info? t=some i) {w:World} {b off:Nat} {v:Value} {l:List Value} (hl:∀ j v,l[j]?=some v→w.cell? ⟨b,off+j,none⟩=some v)
  (hv:(isAggD d=true∧l.length=i.size∧v=.agg l.toArray)∨(isAggD d=false∧l[0]?=some v)):(loadVar t ⟨b,off,none⟩).run P w=.ok v w:=by
 unfold loadVar
 rcases hv with ⟨hd,hn,rfl⟩ | ⟨hd,hv⟩
 ·simp [run_isAgg h1,hd,run_sizeOf' h2,← hn,loadCells_run hl]
 ·have hc:=hl 0 v hv
  rw [Nat.add_zero] at hc
  simp [run_isAgg h1,hd,hc]
theorem TCells.list {F:Nat→Prop} {x:Cx}:∀ {cs:List T} {b off:Nat},TCells x.F x.w cs b off→∃ l:List Value,VsRel x (cs.map .t) l∧∀ j v,l[j]?=some v→x.w.cell? ⟨b,off+j,none⟩=some v
 | [],b,off,_=>⟨[],by simp [VsRel],fun j v h=>by simp at h⟩
 | c::cs,b,off,h=>by
  simp only [TCells] at h
  obtain ⟨⟨v,hv,hr⟩,h⟩:=h
  obtain ⟨l,hl,hcell⟩:=TCells.list (F:=F) h
  refine ⟨v::l,?_,fun j u hj=>?_⟩
  ·simp only [List.map_cons,VsRel]
   exact ⟨v,l,rfl,by simpa [VRel] using hr,hl⟩
  ·cases j with
   | zero=>simp at hj; subst hj; simpa using hv
   | succ j =>
    have:=hcell j u (by simpa using hj)
    rw [show off+(j+1)=off+1+j by omega]
    exact this
theorem rows_get {sz:Nat}:∀ {rows:List (List V)} {l:List Value} {i:Nat} {r:List V},(∀ r∈rows,r.length=sz)→VsRel x rows.flatten l→rows[i]?=some r→VsRel x r ((l.drop (i * sz)).take sz)
 | [],_,_,_,_,_,h=>by simp at h
 | r'::rs,l,0,r,h1,h2,h=>by
  simp at h; subst h
  have hr:r'.length=sz:=h1 r' (by simp)
  have:=(show VsRel x (r'++rs.flatten) l by simpa using h2).take sz
  rw [← hr,List.take_left] at this
  simpa [hr] using this
 | r'::rs,l,i+1,r,h1,h2,h=>by
  have hr:r'.length=sz:=h1 r' (by simp)
  have hd:=(show VsRel x (r'++rs.flatten) l by simpa using h2).drop sz
  rw [← hr,List.drop_left] at hd
  have:=rows_get (i:=i) (fun r hm=>h1 r (by simp [hm])) hd (by simpa using h)
  rw [List.drop_drop,hr] at this
  rw [show (i+1) * sz=sz+i * sz by rw [Nat.add_mul]; omega]
  exact this
theorem ld_sound {t:TypeId} {n:Option Nat} (hs:spanOf P t=some n) {b off:Nat} {cs:List V} {l:List Value} (hl:VsRel x cs l) (hcell:∀ j v,l[j]?=some v→x.w.cell? ⟨b,off+j,none⟩=some v) {K:Tok→V→Prop} (hk:ldV n cs K) :
  ∃ v u,(loadVar t ⟨b,off,none⟩).run P x.w=.ok v x.w∧VRel x u v∧K .go u:=by
 obtain ⟨d,i,h1,h2,rfl⟩:=spanOf_some hs
 by_cases hd:isAggD d=true
 ·simp only [hd,if_true,ldV] at hk
  have hlen:=hl.length
  refine ⟨.agg (l.take i.size).toArray,_,loadVar_run h1 h2 (l:=l.take i.size) (fun j v hj=>?_) (.inl ⟨hd,by simp; omega,rfl⟩),?_,hk.2⟩
  ·rw [List.getElem?_take] at hj
   split at hj
   ·exact hcell j v hj
   ·cases hj
  ·simp only [VRel]
   exact ⟨_,rfl,hl.take _⟩
 ·simp only [hd,Bool.false_eq_true,if_false] at hk
  obtain ⟨u,us,rfl,_,hk⟩:=ldV_none hk
  simp only [VsRel] at hl
  obtain ⟨c,cs',rfl,hc,_⟩:=hl
  exact ⟨c,u,loadVar_run h1 h2 hcell (.inr ⟨by simpa using hd,rfl⟩),hc,hk⟩
theorem ldT_ldV {n:Option Nat} {cs:List T} {K:Tok→V→Prop} (h:ldT n cs K):ldV n (cs.map .t) K:=by
 cases n with
 | none=>cases cs with
  | nil=>exact h
  | cons c cs=>exact ⟨rfl,h⟩
 | some n=>simpa [ldT,ldV,List.map_take] using h
theorem box_cells {id:Nat} {cs:List V} {b:Nat} (hx:WRel x) (ho:x.σ[id]?=some (.box cs)) (hb:(x.ρ id).blk=some b) :
  ∃ arr ty fr,¬ x.F b∧x.w.heap[b]?=some (.cells arr ty fr)∧Unfrozen fr arr.size∧VsRel x cs arr.toList∧∀ j,x.w.cell? ⟨b,j,none⟩=arr[j]?:=by
 rcases hx.objs id _ ho with ⟨h1,_⟩ | ⟨b',arr,ty,fr,h1,h2,h3,h4,h5⟩
 ·rw [h1] at hb; cases hb
 rw [h1] at hb
 obtain rfl:=Option.some.inj hb
 exact ⟨arr,ty,fr,h2,h3,h4,h5,fun j=>by simp [World.cell?,h3]⟩
theorem step_load (hx:WRel x) (he:ERel x e a.tmps) {p:Operand} {o:O} (hp:cO p=some o) {t:TypeId} {n:Option Nat} (hs:spanOf P t=some n) {K:Tok→Option V→Store→Prop} (hk:ev e x.σ K (.load n o)) :
  Step P x (do pure (Next.value (← Instr.loadAt t (a.eval p)))) K:=by
 obtain ⟨u,hu,hk⟩:=onV_some hk
 have hr:=opv_rel he hp hu
 have fin:∀ {b off:Nat} {cs:List V} {l:List Value},a.eval p=.pointer (some ⟨b,off,none⟩)→VsRel x cs l→(∀ j v,l[j]?=some v→x.w.cell? ⟨b,off+j,none⟩=some v)→ldV n cs (fun _ u=>K .go (some u) x.σ) →
   Step P x (do pure (Next.value (← Instr.loadAt t (a.eval p)))) K:=by
  intro b off cs l hv hl hcell hk
  obtain ⟨v,u,hrun,hru,hk⟩:=ld_sound hs hl hcell hk
  rw [hv]
  exact Step.pure hx (v:=v) (by simp [Instr.loadAt,Instr.sureAddr,hrun]) hru hk
 unfold evLoad at hk
 split at hk
 ·rename_i cs
  simp only [VRel] at hr
  obtain ⟨b,off,hv,hF,hc⟩:=hr
  obtain ⟨l,hl,hcell⟩:=TCells.list (F:=x.F) hc
  exact fin hv hl hcell (ldT_ldV hk)
 ·rename_i id off
  obtain ⟨cs,ho,hk⟩:=onBox_some hk
  simp only [VRel] at hr
  obtain ⟨cs',b,ho',hb,hv⟩:=hr
  obtain ⟨arr,ty,fr,h1,h2,h3,h4,h5⟩:=box_cells hx ho hb
  exact fin hv (h4.drop off) (fun j v hj=>by rw [h5]; rw [List.getElem?_drop] at hj; simpa using hj) hk
 ·rename_i id g i j
  obtain ⟨sz,rows,ho,hk2⟩:=onSlc_some hk
  clear hk
  obtain ⟨hg,hk2⟩:=hk2
  subst hg
  ·obtain ⟨r,hrow,hk⟩:=onRow_some hk2
   ·simp only [VRel] at hr
    obtain ⟨ob,ho',_,ad,hv,hr⟩:=hr
    rw [ho] at ho'
    obtain rfl:=Option.some.inj ho'
    obtain ⟨b,sz',rows',hb,heq,rfl⟩:=hr rfl
    cases heq
    obtain ⟨_,h1⟩ | ⟨b',arr,ty,fr,l,h1,h2,h3,h4,h5,h6,h7,h8,h9⟩:=hx.objs id _ ho
    ·rw [h1] at hb; cases hb
    ·rw [h1] at hb
     obtain rfl:=Option.some.inj hb
     obtain ⟨l',rfl,hc⟩:∃ l',l'=(l.drop (i * sz)).take sz∧VsRel x r l':=⟨_,rfl,rows_get h7 h8 hrow⟩
     have hrl:r.length=sz:=h7 r (List.mem_of_getElem? hrow)
     refine fin (l:=((l.drop (i * sz)).take sz).drop j) hv (hc.drop j) (fun k v hk'=>?_) hk
     have hk2:l[i * sz+j+k]?=some v:=by
      rw [List.getElem?_drop,List.getElem?_take] at hk'
      split at hk'
      ·rw [List.getElem?_drop] at hk'
       rw [show i * sz+j+k=i * sz+(j+k) by omega]
       exact hk'
      ·cases hk'
     have:arr.toList[i * sz+j+k]?=some v:=by
      obtain ⟨⟨m,hm⟩,_⟩:=h9
      rw [← hm,List.getElem?_append_left (List.getElem?_eq_some_iff.1 hk2).1]
      exact hk2
     simp only [World.cell?,h3]
     simpa using this
 ·exact hk.elim
end
end Go.Ab
end
section
namespace Go.Ab
section
variable {P:Program} {x:Cx} {e:Env} {a:Act}
theorem unfrozen_new (n:Nat):Unfrozen (0,0) n:=fun i _=>by simp
theorem vsrel_neu {x:Cx} (h:WRel x) {ob:Obj} {cap:Nat} {o:Go.Obj} {us:List V} {l:List Value} (hl:VsRel x us l):VsRel (x.neu ob cap o) us l:=VsRel.mono (ext_neu h ob cap o) us l hl
theorem step_box (hx:WRel x) {t:TypeId} {v:Value} {cs:List V} (hv:VsRel x cs v.cells.toList) {K:Tok→Option V→Store→Prop} (hk:K .go (some (.ptr x.σ.length 0)) (x.σ++[.box cs])) {s:Sem Next}
  (hs:s.run P x.w=.ok (.value (.pointer (some ⟨x.w.heap.size,0,none⟩))) (x.w.alloc (.cells v.cells t))):Step P x s K:=by
 have hw:WRel (x.neu (.box cs) 0 (.cells v.cells t)):=by
  refine wrel_neu hx (.inr ⟨x.w.heap.size,v.cells,t,(0,0),by simp [Cx.neu],fun hF=>?_,heap_alloc_new _ _,unfrozen_new _,vsrel_neu hx hv⟩)
  have:=hx.low _ hF
  omega
 refine ⟨_,x.neu (.box cs) 0 (.cells v.cells t),some (.ptr x.σ.length 0),hs,hk,?_,hw,ext_neu hx _ _ _⟩
 simp only [NRel,VRel]
 exact ⟨cs,x.w.heap.size,by simp [Cx.neu],by simp [Cx.neu],rfl⟩
theorem step_new (hx:WRel x) {t:TypeId} {i:TypeInfo} {z:Value} {cs:List V} (hi:P.info? t=some i) (hz:i.zero=some z) (hc:cVs z.cells.toList=some cs) {K:Tok→Option V→Store→Prop} (hk:ev e x.σ K (.new cs)) :
  Step P x (do pure (Next.value (← Instr.alloc t true (.tuple #[])))) K:=by
 refine step_box hx (v:=z) (t:=t) (cVs_rel x hc) hk ?_
 simp [Instr.alloc,zeroValue,run_typeInfo' hi,hz,newVar,newRow]
theorem step_newB (hx:WRel x) {t et:TypeId} {i:TypeInfo} {z:Value} (hi:P.info? t=some i) (hz:i.zero=some z) (hc:cVs z.cells.toList=some [.nilp,.nils]) {K:Tok→Option V→Store→Prop} (hk:ev e x.σ K (.newB t et)) :
  Step P x (do pure (Next.value (← Instr.alloc t true (.tuple #[])))) K:=by
 have hext:Ext x ({ x with σ:=x.σ++[.buf et []],ρ:=upd x.ρ x.σ.length ⟨none,0⟩ }:Cx) :=
  ⟨rfl,rfl,rfl,Nat.le_refl _,fun _ h=>h,fun _ _=>rfl,fun id o ho=>⟨o,get_app ho,o.like_refl,Nat.le_refl _,fun _=>upd_other _ _ _ (by have:=(List.getElem?_eq_some_iff.1 ho).1; omega)⟩⟩
 have hw:WRel ({ x with σ:=x.σ++[.buf et []],ρ:=upd x.ρ x.σ.length ⟨none,0⟩ }:Cx):=by
  refine ⟨fun id o ho=>?_,fun j k b hjk hj hk' hb=>?_,hx.low⟩
  ·by_cases e':id<x.σ.length
   ·have ho':x.σ[id]?=some o:=by
     have:(x.σ++[.buf et []])[id]?=some o:=ho
     rwa [List.getElem?_append_left e'] at this
    exact ORel.keep hext (upd_other _ _ _ (by omega)) (fun b _ _ hf=>⟨rfl,hf⟩) (hx.objs id o ho')
   ·have:(x.σ++[.buf et []])[id]?=some o:=ho
    have hid:id=x.σ.length:=by
     have:=(List.getElem?_eq_some_iff.1 this).1
     simp at this; omega
    subst hid
    simp at this
    subst this
    exact .inl ⟨rfl,upd_same _ _ _⟩
  ·simp only [List.length_append,List.length_singleton] at hj hk' hb ⊢
   by_cases ej:j=x.σ.length
   ·subst ej; simp at hb
   ·rw [upd_other _ _ _ ej] at hb
    by_cases ek:k=x.σ.length
    ·subst ek; simp
    ·rw [upd_other _ _ _ ek]
     exact hx.inj j k b hjk (by omega) (by omega) hb
 obtain ⟨y,hy⟩:∃ y:Cx,y={ x with σ:=x.σ++[.buf et []],ρ:=upd x.ρ x.σ.length ⟨none,0⟩ }:=⟨_,rfl⟩
 rw [← hy] at hext hw
 have yσ:y.σ=x.σ++[.buf et []]:=by rw [hy]
 have yw:y.w=x.w:=by rw [hy]
 have yρ:y.ρ x.σ.length=⟨none,0⟩:=by rw [hy]; exact upd_same _ _ _
 have hv:VsRel y [.nilp,.bsl x.σ.length 0] z.cells.toList:=by
  have:=cVs_rel y hc
  simp only [VsRel,VRel] at this ⊢
  obtain ⟨c,cs,h1,rfl,c',cs',h2,rfl,h3⟩:=this
  refine ⟨_,_,h1,rfl,_,_,h2,⟨et,[],by simp [yσ],Nat.le_refl _,⟨_,_,rfl⟩,fun _=>by rw [yρ]; rfl⟩,h3⟩
 have hw2:WRel (y.neu (.tbox t [.nilp,.bsl x.σ.length 0]) 0 (.cells z.cells t)):=by
  refine wrel_neu hw ⟨y.w.heap.size,z.cells,by simp [Cx.neu],fun hF=>?_,heap_alloc_new _ _,vsrel_neu hw hv⟩
  have:=hw.low _ hF
  omega
 refine ⟨_,y.neu (.tbox t [.nilp,.bsl x.σ.length 0]) 0 (.cells z.cells t),some (.bp (x.σ.length+1)),by simp [Instr.alloc,zeroValue,run_typeInfo' hi,hz,newVar,newRow,Cx.neu,yw]; rfl,?_,?_,hw2,hext.trans (ext_neu hw _ _ _)⟩
 ·have hk':K .go (some (.bp (x.σ.length+1))) (x.σ++[.buf et [],.tbox t [.nilp,.bsl x.σ.length 0]]):=hk
  simpa [Cx.neu,yσ] using hk'
 ·simp only [NRel,VRel]
  exact ⟨t,[.nilp,.bsl x.σ.length 0],y.w.heap.size,by simp [Cx.neu,yσ],by simp [Cx.neu,yσ],by rw [yw]⟩
theorem step_boxOp (hx:WRel x) (he:ERel x e a.tmps) {p:Operand} {o:O} (hp:cO p=some o) {t:TypeId} {K:Tok→Option V→Store→Prop} (hk:ev e x.σ K (.box o)) :
  Step P x (do pure (Next.value (← Instr.box t (a.eval p)))) K:=by
 obtain ⟨u,hu,hk1⟩:=onV_some hk
 obtain ⟨cs,hcs,hk⟩:=onRow_some hk1
 have hr:=opv_rel he hp hu
 exact step_box hx (v:=a.eval p) (t:=t) (cellsOf_rel hr hcs) hk (by simp [Instr.box,newVar,newRow])
theorem step_nilCheck (hx:WRel x) (he:ERel x e a.tmps) {p:Operand} {o:O} (hp:cO p=some o) {K:Tok→Option V→Store→Prop} (hk:ev e x.σ K (.nilCheck o)) (oper:Oper) (hop:oper.op=.nilCheck p) :
  Step P x (execOp a.eval oper) K:=by
 obtain ⟨u,hu,hk⟩:=onV_some hk
 have hr:=opv_rel he hp hu
 have fin:∀ ad,a.eval p=.pointer (some ad)→K .go (some u) x.σ→Step P x (execOp a.eval oper) K:=by
  intro ad hv hk
  refine Step.pure hx (v:=a.eval p) ?_ hr hk
  simp [execOp,hop,hv]
 unfold nilChk at hk
 split at hk
 ·simp only [VRel] at hr; obtain ⟨b,off,hv,_⟩:=hr; exact fin _ hv hk
 ·simp only [VRel] at hr; obtain ⟨_,b,_,_,hv⟩:=hr; exact fin _ hv hk
 ·simp only [VRel] at hr; obtain ⟨_,_,_,ad,hv,_⟩:=hr; exact fin _ hv hk
 ·exact hk.elim
theorem setCell_heap_ne (w:World) (b j k:Nat) (v:Value) (h:k≠b):(w.setCell ⟨b,j,none⟩ v).heap[k]?=w.heap[k]?:=by
 simp only [World.setCell,Array.getElem?_modify]
 rw [if_neg (by omega)]
theorem setCell_heap_eq {w:World} {b j:Nat} {v:Value} {arr:Array Value} {t:TypeId} {fr:Nat × Nat} (h:w.heap[b]?=some (.cells arr t fr)):(w.setCell ⟨b,j,none⟩ v).heap[b]?=some (.cells (arr.setIfInBounds j v) t fr):=by
 simp [World.setCell,Array.getElem?_modify,h]
theorem storeCells_run {b:Nat} {t:TypeId} {fr:Nat × Nat}:∀ {vs:List Value} {off i:Nat} {w:World} {arr:Array Value},w.heap[b]?=some (.cells arr t fr)→Unfrozen fr arr.size→off+i+vs.length≤arr.size→(∀ v∈vs,v.oneCell'=true) →
  ∃ w' arr',(storeCells ⟨b,off,none⟩ vs i).run P w=.ok () w'∧w'.heap[b]?=some (.cells arr' t fr)∧arr'.toList=arr.toList.take (off+i)++vs++arr.toList.drop (off+i+vs.length) ∧
   w'.heap.size=w.heap.size∧w'.os=w.os∧w'.tape=w.tape∧w'.output=w.output∧∀ k,k≠b→w'.heap[k]?=w.heap[k]?
 | [],off,i,w,arr,h,_,hl,_=>⟨w,arr,by simp [storeCells],h,by simp,rfl,rfl,rfl,rfl,fun _ _=>rfl⟩
 | v::vs,off,i,w,arr,h,hu,hl,h1=>by
  simp only [List.length_cons] at hl
  have hw':=setCell_heap_eq (j:=off+i) (v:=v) h
  obtain ⟨w2,arr2,hrun,hh,hla,hs,ho,ht,hout,hk⟩:=storeCells_run (vs:=vs) (off:=off) (i:=i+1) hw' (by simpa using hu) (by simp; omega) (fun u hu=>h1 u (by simp [hu]))
  refine ⟨w2,arr2,?_,hh,?_,by rw [hs]; simp,ho,ht,hout,fun k hk'=>(hk k hk').trans (setCell_heap_ne w b (off+i) k v hk')⟩
  ·have hcell:w.cell? ⟨b,off+i,none⟩=some arr[off+i]:=by simp [World.cell?,h,show off+i<arr.size by omega]
   have hfr:w.frozen? ⟨b,off+i,none⟩=false:=by
    simp only [World.frozen?,h]
    exact hu (off+i) (by omega)
   simp only [storeCells,addr_add,Sem.run_bind,run_store P w _ v .plain (h1 v (by simp)),hcell,hfr]
   simpa using hrun
  ·rw [hla]
   simp only [Array.toList_setIfInBounds]
   have hn:off+i<arr.toList.length:=by simp; omega
   rw [List.set_eq_take_append_cons_drop,if_pos hn]
   have ht:(arr.toList.take (off+i)).length=off+i:=by simp; omega
   have e1:(arr.toList.take (off+i)++v::arr.toList.drop (off+i+1)).take (off+(i+1))=arr.toList.take (off+i)++[v]:=by
    rw [List.take_append,List.take_of_length_le (by omega),ht,show off+(i+1) - (off+i)=1 by omega]
    simp
   have e2:(arr.toList.take (off+i)++v::arr.toList.drop (off+i+1)).drop (off+(i+1)+vs.length)=arr.toList.drop (off+i+(vs.length+1)):=by
    rw [List.drop_append,List.drop_of_length_le (by omega),ht,show off+(i+1)+vs.length - (off+i)=vs.length+1 by omega]
    simp only [List.nil_append,List.drop_succ_cons,List.drop_drop]
    congr 1
    omega
   rw [e1,e2]
   simp
theorem VsRel.putAt {x:Cx} {cs us:List V} {l m:List Value} {off:Nat} (h:VsRel x cs l) (k:VsRel x us m):VsRel x (putAt cs off us) (l.take off++m++l.drop (off+m.length)):=by
 unfold Ab.putAt
 rw [k.length]
 exact ((h.take off).app k).app (h.drop _)
theorem one_all {us:List V} {l:List Value}:VsRel x us l→us.all one=true→∀ v∈l,v.oneCell'=true:=by
 induction us generalizing l with
 | nil=>intro h _; simp only [VsRel] at h; subst h; simp
 | cons u us ih =>
  intro h h1
  simp only [VsRel] at h
  obtain ⟨c,cs,rfl,hc,h⟩:=h
  simp only [List.all_cons,Bool.and_eq_true] at h1
  intro v hv
  simp only [List.mem_cons] at hv
  rcases hv with rfl | hv
  ·exact one_cell hc h1.1
  ·exact ih h h1.2 v hv
theorem flatten_len {sz:Nat}:∀ {rows:List (List V)},(∀ r∈rows,r.length=sz)→rows.flatten.length=rows.length * sz
 | [],_=>by simp
 | r::rs,h=>by
  have h1:r.length=sz:=h r (by simp)
  have h2:=flatten_len (rows:=rs) (fun r hr=>h r (by simp [hr]))
  simp only [List.flatten_cons,List.length_append,List.length_cons,h1,h2,Nat.add_mul]
  omega
theorem putAt_len {cs us:List V} {off:Nat} (h:off+us.length≤cs.length):(putAt cs off us).length=cs.length:=by
 unfold putAt
 simp
 omega
theorem flatten_set {sz:Nat} {us:List V} {j:Nat}:∀ {rows:List (List V)} {i:Nat} {r:List V},(∀ r∈rows,r.length=sz)→rows[i]?=some r→j+us.length≤r.length →
  (rows.set i (putAt r j us)).flatten=putAt rows.flatten (i * sz+j) us
 | [],_,_,_,h,_=>by simp at h
 | r'::rs,0,r,h1,h,hj=>by
  simp at h; subst h
  have hf:=flatten_len (rows:=rs) (fun r hr=>h1 r (by simp [hr]))
  simp only [List.set_cons_zero,List.flatten_cons,putAt,Nat.zero_mul,Nat.zero_add]
  rw [List.take_append_of_le_length (by omega),List.drop_append_of_le_length (by omega)]
  simp
 | r'::rs,i+1,r,h1,h,hj=>by
  have hr:r'.length=sz:=h1 r' (by simp)
  have:=flatten_set (rows:=rs) (i:=i) (r:=r) (us:=us) (j:=j) (fun r hr=>h1 r (by simp [hr])) (by simpa using h) hj
  simp only [List.set_cons_succ,List.flatten_cons]
  rw [this]
  simp only [putAt]
  rw [show (i+1) * sz+j=r'.length+(i * sz+j) by rw [Nat.add_mul]; omega]
  rw [List.take_length_add_append,show r'.length+(i * sz+j)+us.length=r'.length+(i * sz+j+us.length) by omega,List.drop_length_add_append]
  simp
theorem step_store (hx:WRel x) (he:ERel x e a.tmps) {p q:Operand} {o1 o2:O} (hp:cO p=some o1) (hq:cO q=some o2) {t:TypeId} {i:TypeInfo} (hi:P.info? t=some i) {K:Tok→Option V→Store→Prop} (hk:ev e x.σ K (.store i.size o1 o2)) :
  Step P x (do Instr.storeAt t (a.eval p) (a.eval q); pure Next.skip) K:=by
 obtain ⟨u,hu,hk1⟩:=onV_some hk
 clear hk
 obtain ⟨v,hv,hk⟩:=onV_some hk1
 clear hk1
 have hr:=opv_rel he hp hu
 have hs:=opv_rel he hq hv
 unfold evStore at hk
 obtain ⟨us,hus,hk1⟩:=onRow_some hk
 clear hk
 ·obtain ⟨hn,h1,hk⟩:=hk1
  unfold evStoreTo at hk
  have hc:=cellsOf_rel hs hus
  have hcl:=hc.length
  have hone:=one_all hc h1
  have hsz:((a.eval q).cells.size≠i.size)=False:=by
   simp only [eq_iff_iff,iff_false,Decidable.not_not]
   rw [← hn,hcl]; simp
  have base:∀ {b off:Nat} {arr:Array Value} {ty:TypeId} {fr:Nat × Nat},a.eval p=.pointer (some ⟨b,off,none⟩)→x.w.heap[b]?=some (.cells arr ty fr)→Unfrozen fr arr.size→off+i.size≤arr.size →
    ∃ w' arr',(do Instr.storeAt t (a.eval p) (a.eval q); pure Next.skip:Sem Next).run P x.w=.ok .skip w'∧w'.heap[b]?=some (.cells arr' ty fr)∧arr'.toList=arr.toList.take off++(a.eval q).cells.toList++arr.toList.drop (off+(a.eval q).cells.toList.length) ∧
     w'.heap.size=x.w.heap.size∧w'.os=x.w.os∧w'.tape=x.w.tape∧w'.output=x.w.output∧∀ k,k≠b→w'.heap[k]?=x.w.heap[k]?:=by
   intro b off arr ty fr hv hh hf hle
   obtain ⟨w',arr',hrun,h⟩:=storeCells_run (P:=P) (vs:=(a.eval q).cells.toList) (off:=off) (i:=0) hh hf (by rw [← hcl,hn]; omega) hone
   refine ⟨w',arr',?_,h⟩
   rw [hv]
   simp only [Instr.storeAt,Instr.sureAddr,storeVar,Sem.run_bind,Sem.run_pure,Result.andThen_ok,run_sizeOf' hi,hsz,if_false,hrun]
  split at hk
  ·rename_i id off
   obtain ⟨cs,ho,hk⟩:=onBox_some hk
   ·simp only [VRel] at hr
    obtain ⟨cs',b,ho',hb,hv⟩:=hr
    obtain ⟨arr,ty,fr,h2,h3,h4,h5,_⟩:=box_cells hx ho hb
    obtain ⟨w',arr',hrun,hh,hl,hsize,k1,k2,k3,hkk⟩:=base hv h3 h4 (by have:=h5.length; simp at this; omega)
    have hext:=ext_put hx (ob:=.box (putAt cs off us)) (pl:=x.ρ id) (w':=w') ho trivial (Nat.le_refl _) (fun _=>rfl) k1 k2 k3 (by omega) (fun k _ hne=>hkk k (fun e=>hne (e ▸ hb)))
    have hsame:arr'.size=arr.size:=by
     have:=congrArg List.length hl
     simp at this
     have:=h5.length; simp at this
     have:off+us.length≤cs.length:=by omega
     have:(a.eval q).cells.size=us.length:=by rw [hcl]; simp
     omega
    refine ⟨_,x.put id (x.ρ id) (.box (putAt cs off us)) w',none,hrun,hk.2,trivial,?_,hext⟩
    refine wrel_put hx ho trivial (Nat.le_refl _) (fun _=>rfl) k1 k2 k3 (by omega) (fun k _ hne=>hkk k (fun e=>hne (e ▸ hb))) (fun b' hb'=>.inl hb') ?_
    exact .inr ⟨b,arr',ty,fr,by simp [Cx.put,hb],h2,hh,by rw [hsame]; exact h4,by rw [hl]; exact VsRel.mono hext _ _ (h5.putAt hc)⟩
  ·rename_i id g i' j
   obtain ⟨sz,rows,ho,hk2⟩:=onSlc_some hk
   clear hk
   obtain ⟨hg,hk2⟩:=hk2
   subst hg
   ·obtain ⟨r,hrow,hk⟩:=onRow_some hk2
    ·simp only [VRel] at hr
     obtain ⟨ob,ho',_,ad,hv,hr⟩:=hr
     rw [ho] at ho'
     obtain rfl:=Option.some.inj ho'
     obtain ⟨b,sz',rows',hb,heq,rfl⟩:=hr rfl
     cases heq
     obtain ⟨hlt,hrget⟩:=List.getElem?_eq_some_iff.1 hrow
     obtain ⟨_,h1'⟩ | ⟨b',arr,ty,fr,l,g1,g2,g3,g4,g5,g6,g7,g8,g9⟩:=hx.objs id _ ho
     ·rw [h1'] at hb; cases hb
     ·rw [g1] at hb
      obtain rfl:=Option.some.inj hb
      have hrl:r.length=sz:=g7 r (List.mem_of_getElem? hrow)
      have hfl:=flatten_len g7
      have hll:=g8.length
      obtain ⟨⟨m,hm⟩,g10⟩:=g9
      have hal:arr.toList.length=l.length+m.length:=by rw [← hm]; simp
      have hmul:i' * sz+sz≤rows.length * sz:=by
       rw [← Nat.succ_mul]; exact Nat.mul_le_mul_right _ hlt
      obtain ⟨w',arr',hrun,hh,hl,hsize,k1,k2,k3,hkk⟩:=base hv g3 g4 (by simp at hal; omega)
      have hlike:Obj.like (.slc sz rows) (.slc sz (rows.set i' (putAt r j us))):=rfl
      have hgen:Obj.gen (.slc sz rows)=Obj.gen (.slc sz (rows.set i' (putAt r j us))):=by simp [Obj.gen]
      have hext:=ext_put hx (pl:=x.ρ id) (w':=w') ho hlike (Nat.le_of_eq hgen) (fun _=>rfl) k1 k2 k3 (by omega) (fun k _ hne=>hkk k (fun e=>hne (e ▸ g1)))
      have hvl:(a.eval q).cells.toList.length=us.length:=by rw [hcl]
      have hsame:arr'.size=arr.size:=by
       have:=congrArg List.length hl
       simp at this hvl
       simp at hal
       omega
      refine ⟨_,x.put id (x.ρ id) (.slc sz (rows.set i' (putAt r j us))) w',none,hrun,hk.2,trivial,?_,hext⟩
      refine wrel_put hx ho hlike (Nat.le_of_eq hgen) (fun _=>rfl) k1 k2 k3 (by omega) (fun k _ hne=>hkk k (fun e=>hne (e ▸ g1))) (fun b' hb'=>.inl hb') ?_
      refine .inr ⟨b',arr',ty,fr,l.take (i' * sz+j)++(a.eval q).cells.toList++l.drop (i' * sz+j+(a.eval q).cells.toList.length),by simp [Cx.put,g1],g2,hh,by rw [hsame]; exact g4,by simp [Cx.put]; exact g5,by rw [hsame]; simp [Cx.put]; exact g6,?_,?_,?_,?_⟩
      ·intro r' hr'
       rcases List.mem_or_eq_of_mem_set hr' with h | h
       ·exact g7 r' h
       ·rw [h,putAt_len (by omega)]; exact hrl
      ·rw [flatten_set g7 hrow (by omega)]
       exact VsRel.mono hext _ _ (g8.putAt hc)
      ·refine ⟨m,?_⟩
       rw [hl,← hm,List.take_append_of_le_length (by omega),List.drop_append_of_le_length (by omega)]
       simp
      ·intro v hv
       simp only [List.mem_append] at hv
       rcases hv with (hv | hv) | hv
       ·exact g10 v (List.mem_of_mem_take hv)
       ·exact hone v hv
       ·exact g10 v (List.mem_of_mem_drop hv)
  ·exact hk.elim
end
end Go.Ab
end
section
namespace Go.Ab
section
variable {P:Program} {x:Cx} {e:Env} {a:Act}
theorem cV0_one {v:Value} {u:V} (h:cV0 v=some u):one u=true:=by
 unfold cV0 at h
 split at h <;> first | (obtain rfl:=Option.some.inj h; rfl) | cases h
theorem cVs_one:∀ {vs:List Value} {us:List V},cVs vs=some us→us.all one=true
 | [],us,h=>by simp [cVs] at h; subst h; rfl
 | v::vs,us,h=>by
  simp only [cVs] at h
  split at h
  ·rename_i u us' h1 h2
   obtain rfl:=Option.some.inj h
   simp [cV0_one h1,cVs_one h2]
  ·cases h
theorem step_slc (x1:Cx) (hx1:WRel x1) (hext:Ext x x1) (hσ:x1.σ=x.σ) {sz cap:Nat} {rows:List (List V)} {arr:Array Value} {ty:TypeId} {fr:Nat × Nat} {l:List Value}
  (hfr:Unfrozen fr arr.size) (hcap:rows.length≤cap) (hsz:cap * sz≤arr.size) (hr:∀ r∈rows,r.length=sz) (hl:VsRel x1 rows.flatten l) (hp:l <+: arr.toList) (h1:∀ v∈l,v.oneCell'=true)
  {s:Sem Next} (hs:s.run P x.w=.ok (.value (.slice (some ⟨x1.w.heap.size,0,none⟩) rows.length cap)) (x1.w.alloc (.cells arr ty fr)))
  {K:Tok→Option V→Store→Prop} (hk:K .go (some (.sl x.σ.length rows.length 0 rows.length)) (x.σ++[.slc sz rows])):Step P x s K:=by
 rw [← hσ] at hk
 have hw:WRel (x1.neu (.slc sz rows) cap (.cells arr ty fr)):=by
  refine wrel_neu hx1 (.inr ⟨x1.w.heap.size,arr,ty,fr,l,by simp [Cx.neu],fun hF=>?_,heap_alloc_new _ _,hfr,by simpa [Cx.neu] using hcap,by simpa [Cx.neu] using hsz,hr,vsrel_neu hx1 hl,hp,h1⟩)
  have:=hx1.low _ hF
  omega
 refine ⟨_,x1.neu (.slc sz rows) cap (.cells arr ty fr),_,hs,hk,?_,hw,hext.trans (ext_neu hx1 _ _ _)⟩
 simp only [NRel,VRel]
 refine ⟨.slc sz rows,by simp [Cx.neu],by simp [Obj.gen],_,_,rfl,hcap,fun _=>?_⟩
 simp only [SlOk,Cx.neu,upd_same]
 exact ⟨by omega,.inr ⟨_,rfl,by simp⟩,fun _=>⟨by simp,trivial⟩⟩
theorem zeroOf_some {i:TypeInfo} {cs:List V} (h:zeroOf i=some cs):∃ z,i.zero=some z∧cVs z.cells.toList=some cs∧cs.length=i.size∧0<i.size∧0<i.bytes:=by
 unfold zeroOf at h
 split at h
 ·rename_i z hz
  split at h
  ·rename_i cs' hc
   split at h
   ·rename_i h0
    obtain rfl:=Option.some.inj h
    exact ⟨z,hz,hc,h0⟩
   ·cases h
  ·cases h
 ·cases h
theorem cVs_len:∀ {vs:List Value} {us:List V},cVs vs=some us→us.length=vs.length
 | [],us,h=>by simp [cVs] at h; subst h; rfl
 | v::vs,us,h=>by
  simp only [cVs] at h
  split at h
  ·rename_i u us' h1 h2
   obtain rfl:=Option.some.inj h
   simp [cVs_len h2]
  ·cases h
theorem range_flat (z:List Value):∀ n,(List.range (n * z.length)).map (fun k=>z.toArray[k % z.toArray.size]!)=(List.replicate n z).flatten
 | 0=>by simp
 | n+1=>by
  rw [Nat.succ_mul,List.range_add,List.map_append,range_flat z n,List.replicate_succ',List.flatten_append]
  congr 1
  simp only [List.map_map,List.flatten_cons,List.flatten_nil,List.append_nil]
  apply List.ext_getElem?
  intro k
  by_cases hk:k<z.length
  ·simp [hk,Nat.mod_eq_of_lt hk]
  ·simp [hk]
theorem made_flat (zc:Array Value) (n:Nat):(madeCells zc (n * zc.size)).toList=(List.replicate n zc.toList).flatten:=by
 have:=range_flat zc.toList n
 simpa [madeCells] using this
theorem vsrel_rep {cs:List V} {l:List Value} (h:VsRel x cs l):∀ n,VsRel x (List.replicate n cs).flatten (List.replicate n l).flatten
 | 0=>by simp [VsRel]
 | n+1=>by
  simp only [List.replicate_succ,List.flatten_cons]
  exact h.app (vsrel_rep h n)
theorem one_flat {rows:List (List V)} {l:List Value} (h:VsRel x rows.flatten l) (h1:∀ r∈rows,r.all one=true):∀ v∈l,v.oneCell'=true:=by
 refine one_all h ?_
 simp only [List.all_eq_true,List.mem_flatten] at h1 ⊢
 rintro u ⟨r,hr,hu⟩
 exact h1 r hr u hu
theorem step_mkSl (hx:WRel x) (he:ERel x e a.tmps) {p q:Operand} {o1 o2:O} (hp:cO p=some o1) (hq:cO q=some o2) {t et:TypeId} {i:TypeInfo} {z:List V} (ht:P.underlying t=some (.slice et)) (hti:P.info? et=some i) (hz:zeroOf i=some z)
  {K:Tok→Option V→Store→Prop} (hk:ev e x.σ K (.mkSl i.size i.bytes z o1 o2)):Step P x (do pure (Next.value (← Instr.makeSlice t (a.eval p) (a.eval q)))) K:=by
 obtain ⟨u,hu,hk1⟩:=onV_some hk
 clear hk
 obtain ⟨v,hv,hk⟩:=onV_some hk1
 clear hk1
 have hr:=opv_rel he hp hu
 have hs:=opv_rel he hq hv
 unfold evMkSl at hk
 split at hk
 ·rename_i k n k' m
  rw [rel_int hr,rel_int hs]
  obtain ⟨h0,hnm,h63,hby,hk⟩:=hk
  obtain ⟨zv,hzv,hc,hlen,hpos,_⟩:=zeroOf_some hz
  have hzl:=cVs_len hc
  have hzs:zv.cells.size=i.size:=by simp at hzl; omega
  have hzr:=cVs_rel x hc
  have hrun:=run_make (P:=P) x.w t et i zv ht hti hzv k k' n m h0 hnm (by omega) h63
  have hflat:(madeCells zv.cells (m.toNat * i.size)).toList=(List.replicate m.toNat zv.cells.toList).flatten:=by rw [← hzs]; exact made_flat _ _
  have hm:List.replicate m.toNat zv.cells.toList=List.replicate n.toNat zv.cells.toList++List.replicate (m.toNat - n.toNat) zv.cells.toList:=by
   rw [List.replicate_append_replicate]; congr 1; omega
  have hl:=vsrel_rep hzr n.toNat
  refine step_slc x hx (Ext.refl x) rfl (rows:=List.replicate n.toNat z) (sz:=i.size) (cap:=m.toNat) (ty:=et) (arr:=madeCells zv.cells (m.toNat * i.size)) (fr:=(0,0)) (l:=(List.replicate n.toNat zv.cells.toList).flatten) (unfrozen_new _) (by simp; omega) (by rw [size_madeCells]; exact Nat.le_refl _) ?_ hl ?_ ?_ (by simp only [Sem.run_bind,hrun,Result.andThen_ok,Sem.run_pure,List.length_replicate]) (by simpa using hk)
  ·intro r hr'
   rw [List.eq_of_mem_replicate hr']
   exact hlen
  ·rw [hflat,hm,List.flatten_append]
   exact List.prefix_append _ _
  ·refine one_flat hl fun r hr'=>?_
   rw [List.eq_of_mem_replicate hr']
   exact cVs_one hc
 ·exact hk.elim
theorem TRows.list {F:Nat→Prop} {x:Cx} {sz:Nat}:∀ {rows:List (List T)} {b off:Nat},TRows x.F x.w sz rows b off→(∀ r∈rows,r.length=sz)∧∃ l:List Value,VsRel x (rows.map fun r=>r.map V.t).flatten l∧∀ j v,l[j]?=some v→x.w.cell? ⟨b,off+j,none⟩=some v
 | [],b,off,_=>⟨by simp,[],by simp [VsRel],fun j v h=>by simp at h⟩
 | r::rs,b,off,h=>by
  simp only [TRows] at h
  obtain ⟨h1,h2,h3⟩:=h
  obtain ⟨l1,k1,k2⟩:=TCells.list (F:=F) h2
  obtain ⟨g0,l2,g1,g2⟩:=TRows.list (F:=F) h3
  have hl1:l1.length=sz:=by have:=k1.length; simp at this; omega
  refine ⟨by simpa using ⟨h1,g0⟩,l1++l2,by simpa using k1.app g1,fun j v hj=>?_⟩
  rw [List.getElem?_append] at hj
  split at hj
  ·exact k2 j v hj
  ·rename_i hlt
   have:=g2 _ v hj
   rw [show off+sz+(j - l1.length)=off+j by omega] at this
   exact this
theorem VCells.list {x:Cx}:∀ {cs:List V} {b off:Nat},VCells x cs b off→∃ l:List Value,VsRel x cs l∧∀ j v,l[j]?=some v→x.w.cell? ⟨b,off+j,none⟩=some v
 | [],b,off,_=>⟨[],by simp [VsRel],fun j v h=>by simp at h⟩
 | c::cs,b,off,h=>by
  simp only [VCells] at h
  obtain ⟨⟨v,hv,hr⟩,h⟩:=h
  obtain ⟨l,hl,hcell⟩:=VCells.list h
  refine ⟨v::l,?_,fun j u hj=>?_⟩
  ·simp only [VsRel]
   exact ⟨v,l,rfl,hr,hl⟩
  ·cases j with
   | zero=>simp at hj; subst hj; simpa using hv
   | succ j =>
    have:=hcell j u (by simpa using hj)
    rw [show off+(j+1)=off+1+j by omega]
    exact this
theorem VRows.list {x:Cx} {sz:Nat}:∀ {rows:List (List V)} {b off:Nat},VRows x sz rows b off→(∀ r∈rows,r.length=sz)∧∃ l:List Value,VsRel x rows.flatten l∧∀ j v,l[j]?=some v→x.w.cell? ⟨b,off+j,none⟩=some v
 | [],b,off,_=>⟨by simp,[],by simp [VsRel],fun j v h=>by simp at h⟩
 | r::rs,b,off,h=>by
  simp only [VRows] at h
  obtain ⟨h1,h2,h3⟩:=h
  obtain ⟨l1,k1,k2⟩:=VCells.list h2
  obtain ⟨g0,l2,g1,g2⟩:=VRows.list h3
  have hl1:l1.length=sz:=by have:=k1.length; omega
  refine ⟨by simpa using ⟨h1,g0⟩,l1++l2,by simpa using k1.app g1,fun j v hj=>?_⟩
  rw [List.getElem?_append] at hj
  split at hj
  ·exact k2 j v hj
  ·rename_i hlt
   have:=g2 _ v hj
   rw [show off+sz+(j - l1.length)=off+j by omega] at this
   exact this
theorem flat_drop {sz:Nat}:∀ {rows:List (List V)} (k:Nat),(∀ r∈rows,r.length=sz)→(rows.drop k).flatten=rows.flatten.drop (k * sz)
 | [],k,_=>by simp
 | r::rs,0,_=>by simp
 | r::rs,k+1,h=>by
  have hr:r.length=sz:=h r (by simp)
  simp only [List.drop_succ_cons,List.flatten_cons]
  rw [flat_drop k (fun r hm=>h r (by simp [hm])),Nat.succ_mul,Nat.add_comm (k * sz),← hr,List.drop_length_add_append]
theorem flat_take {sz:Nat}:∀ {rows:List (List V)} (k:Nat),(∀ r∈rows,r.length=sz)→(rows.take k).flatten=rows.flatten.take (k * sz)
 | [],k,_=>by simp
 | r::rs,0,_=>by simp
 | r::rs,k+1,h=>by
  have hr:r.length=sz:=h r (by simp)
  simp only [List.take_succ_cons,List.flatten_cons]
  rw [flat_take k (fun r hm=>h r (by simp [hm])),Nat.succ_mul,Nat.add_comm (k * sz),← hr,List.take_length_add_append]
theorem rowsOf_rel (hx:WRel x) {sz:Nat} {u:V} {v:Value} {rs:List (List V)} (h:rowsOf x.σ sz u=some rs) (hr:VRel x u v) :
  ∃ ad c,v=.slice ad rs.length c∧(rs=[]∨∃ b off l,ad=some ⟨b,off,none⟩∧(∀ r∈rs,r.length=sz)∧VsRel x rs.flatten l∧(∀ j v,l[j]?=some v→x.w.cell? ⟨b,off+j,none⟩=some v)∧(∀ v∈l,v.oneCell'=true)):=by
 unfold rowsOf at h
 split at h
 ·obtain rfl:=Option.some.inj h
  simp only [VRel] at hr
  exact ⟨none,0,hr,.inl rfl⟩
 ·rename_i s rows
  split at h
  ·rename_i hs
   subst hs
   obtain rfl:=Option.some.inj h
   simp only [VRel,TRel] at hr
   obtain ⟨ad,c,hv,hc,hr⟩:=hr
   refine ⟨ad,c,by simpa using hv,?_⟩
   rcases hr with hr | ⟨b,off,rfl,hF,hrows⟩
   ·exact .inl (by simp at hr; simp [hr])
   ·obtain ⟨h1,l,h2,h3⟩:=TRows.list (F:=x.F) hrows
    refine .inr ⟨b,off,l,rfl,?_,h2,h3,one_flat h2 ?_⟩
    ·intro r hr
     obtain ⟨r',hr',rfl⟩:=List.mem_map.1 hr
     simpa using h1 r' hr'
    ·intro r hr
     obtain ⟨r',hr',rfl⟩:=List.mem_map.1 hr
     simp [one]
  ·cases h
 ·rename_i s rs'
  split at h
  ·rename_i hs
   obtain ⟨rfl,hone⟩:=hs
   obtain rfl:=Option.some.inj h
   simp only [VRel] at hr
   obtain ⟨ad,hv,hr⟩:=hr
   refine ⟨ad,_,hv,?_⟩
   rcases hr with hr | ⟨b,off,rfl,hF,hrows⟩
   ·exact .inl (List.eq_nil_of_length_eq_zero hr)
   ·obtain ⟨h1,l,h2,h3⟩:=VRows.list hrows
    exact .inr ⟨b,off,l,rfl,h1,h2,h3,one_flat h2 (by simpa using hone)⟩
  ·cases h
 ·rename_i id g off len
  split at h
  ·rename_i s rows ho
   split at h
   ·rename_i hs
    obtain ⟨rfl,rfl⟩:=hs
    obtain rfl:=Option.some.inj h
    simp only [VRel] at hr
    obtain ⟨ob,ho',_,ad,c,hv,hc,hr⟩:=hr
    rw [ho] at ho'
    obtain rfl:=Option.some.inj ho'
    have hr:=hr rfl
    simp only [SlOk] at hr
    have hlen:((rows.drop off).take len).length=len:=by simp; omega
    refine ⟨ad,c,by rw [hlen]; exact hv,?_⟩
    by_cases h0:len=0
    ·subst h0; exact .inl (by simp)
    ·rcases hr.2.1 with h' | ⟨b,hb,rfl⟩
     ·exact (h0 h').elim
     ·rcases hx.objs id _ ho with ⟨h1,h2⟩ | ⟨b',arr,ty,fr,l,g1,g2,g3,g4,g5,g6,g7,g8,⟨m,hm⟩,g10⟩
      ·rw [h2] at hb; cases hb
      ·rw [g1] at hb
       obtain rfl:=Option.some.inj hb
       have hd:=g7
       refine .inr ⟨b',off * s,(l.drop (off * s)).take (len * s),rfl,fun r hr=>g7 r (List.mem_of_mem_drop (List.mem_of_mem_take hr)),?_,?_,fun v hv=>g10 v (List.mem_of_mem_drop (List.mem_of_mem_take hv))⟩
       ·rw [flat_take (sz:=s) _ (fun r hr=>g7 r (List.mem_of_mem_drop hr)),flat_drop (sz:=s) _ g7]
        exact (g8.drop _).take _
       ·intro j v hj
        rw [List.getElem?_take] at hj
        split at hj
        ·rw [List.getElem?_drop] at hj
         have:arr.toList[off * s+j]?=some v:=by
          rw [← hm,List.getElem?_append_left (List.getElem?_eq_some_iff.1 hj).1]; exact hj
         simp only [World.cell?,g3]
         simpa using this
        ·cases hj
   ·cases h
  ·cases h
 ·cases h
theorem step_moved (hx:WRel x) {id sz cap:Nat} {rows rows':List (List V)} {arr:Array Value} {ty:TypeId} {l:List Value} (ho:x.σ[id]?=some (.slc sz rows)) (hlt:rows.length<rows'.length)
  (hcap:rows'.length≤cap) (hsz:cap * sz≤arr.size) (hr:∀ r∈rows',r.length=sz) (hl:VsRel x rows'.flatten l) (hp:l <+: arr.toList) (h1:∀ v∈l,v.oneCell'=true)
  {s:Sem Next} (hs:s.run P x.w=.ok (.value (.slice (some ⟨x.w.heap.size,0,none⟩) rows'.length cap)) (x.w.drew.alloc (.cells arr ty)))
  {K:Tok→Option V→Store→Prop} (hk:K .go (some (.sl id rows'.length 0 rows'.length)) (x.σ.set id (.slc sz rows'))):Step P x s K:=by
 have hid:=(List.getElem?_eq_some_iff.1 ho).1
 have hlike:Obj.like (.slc sz rows) (.slc sz rows'):=rfl
 have hgen:Obj.gen (.slc sz rows)≤Obj.gen (.slc sz rows'):=by simp [Obj.gen]; omega
 have hne:Obj.gen (.slc sz rows)=Obj.gen (.slc sz rows')→(⟨some x.w.heap.size,cap⟩:Pl)=x.ρ id:=by simp [Obj.gen]; omega
 have hsize:x.w.heap.size≤(x.w.drew.alloc (.cells arr ty)).heap.size:=by rw [World.size_alloc]; exact Nat.le_succ _
 have hkeep:∀ k,k<x.w.heap.size→(x.ρ id).blk≠some k→(x.w.drew.alloc (.cells arr ty)).heap[k]?=x.w.heap[k]?:=fun k hk _=>heap_alloc_lt x.w.drew _ hk
 have hext:=ext_put hx (ob:=.slc sz rows') (pl:=⟨some x.w.heap.size,cap⟩) (w':=x.w.drew.alloc (.cells arr ty)) ho hlike hgen hne rfl rfl rfl hsize hkeep
 have hw:=wrel_put hx (ob:=.slc sz rows') (pl:=⟨some x.w.heap.size,cap⟩) (w':=x.w.drew.alloc (.cells arr ty)) ho hlike hgen hne rfl rfl rfl hsize hkeep (fun b hb=>.inr (by simp at hb; omega)) (.inr ⟨x.w.heap.size,arr,ty,(0,0),l,by simp [Cx.put],fun hF=>by have:=hx.low _ hF; omega,heap_alloc_new x.w.drew _,unfrozen_new _,by simpa [Cx.put] using hcap,by simpa [Cx.put] using hsz,hr,VsRel.mono hext _ _ hl,hp,h1⟩)
 refine ⟨_,_,_,hs,hk,?_,hw,hext⟩
 simp only [NRel,VRel]
 refine ⟨.slc sz rows',by simp [Cx.put,hid],by simp [Obj.gen],_,_,rfl,hcap,fun _=>?_⟩
 simp only [SlOk,Cx.put,upd_same]
 exact ⟨by omega,.inr ⟨_,rfl,by simp⟩,fun _=>⟨by simp,trivial⟩⟩
theorem flat_len' {rs:List (List V)} {sz:Nat} {l:List Value} (h1:∀ r∈rs,r.length=sz) (h2:VsRel x rs.flatten l):l.length=rs.length * sz:=by
 rw [← h2.length]; exact flatten_len h1
theorem run_append_none {t t' et:TypeId} {i:TypeInfo} (ht:P.underlying t=some (.slice et)) (hti:P.info? et=some i) (v:Value) {base:Option Addr} {n c:Nat} {ad:Option Addr} {c':Nat} (hv:v=.slice base n c) (hn:n≤c) (w:World) :
  (Builtin.append_ #[t,t] t' #[v,.slice ad 0 c']).run P w=.ok v w:=by
 subst hv
 cases ad <;> cases base <;> simp [Builtin.append_,run_underlying ht,run_sizeOf' hti,Builtin.lenOf,hn,Builtin.firstCells,loadCells,loadCellsFrom,storeCells]
theorem step_empty (hx:WRel x) (sz:Nat) {s:Sem Next} (hs:s.run P x.w=.ok (.value (.slice none 0 0)) x.w)
  {K:Tok→Option V→Store→Prop} (hk:K .go (some (.sl x.σ.length 0 0 0)) (x.σ++[.slc sz []])):Step P x s K:=by
 have hext:Ext x ({ x with σ:=x.σ++[.slc sz []],ρ:=upd x.ρ x.σ.length ⟨none,0⟩ }:Cx) :=
  ⟨rfl,rfl,rfl,Nat.le_refl _,fun _ h=>h,fun _ _=>rfl,fun id o ho=>⟨o,get_app ho,o.like_refl,Nat.le_refl _,fun _=>upd_other _ _ _ (by have:=(List.getElem?_eq_some_iff.1 ho).1; omega)⟩⟩
 have hw:WRel ({ x with σ:=x.σ++[.slc sz []],ρ:=upd x.ρ x.σ.length ⟨none,0⟩ }:Cx):=by
  refine ⟨fun id o ho=>?_,fun j k b hjk hj hk' hb=>?_,hx.low⟩
  ·by_cases e':id<x.σ.length
   ·have ho':x.σ[id]?=some o:=by
     have:(x.σ++[.slc sz []])[id]?=some o:=ho
     rwa [List.getElem?_append_left e'] at this
    exact ORel.keep hext (upd_other _ _ _ (by omega)) (fun b _ _ hf=>⟨rfl,hf⟩) (hx.objs id o ho')
   ·have:(x.σ++[.slc sz []])[id]?=some o:=ho
    have hid:id=x.σ.length:=by
     have:=(List.getElem?_eq_some_iff.1 this).1
     simp at this; omega
    subst hid
    simp at this
    subst this
    exact .inl ⟨.inl rfl,upd_same _ _ _⟩
  ·simp only [List.length_append,List.length_singleton] at hj hk' hb ⊢
   by_cases ej:j=x.σ.length
   ·subst ej; simp at hb
   ·rw [upd_other _ _ _ ej] at hb
    by_cases ek:k=x.σ.length
    ·subst ek; simp
    ·rw [upd_other _ _ _ ek]
     exact hx.inj j k b hjk (by omega) (by omega) hb
 refine ⟨_,({ x with σ:=x.σ++[.slc sz []],ρ:=upd x.ρ x.σ.length ⟨none,0⟩ }:Cx),_,hs,hk,?_,hw,hext⟩
 simp only [NRel,VRel]
 exact ⟨.slc sz [],by simp,by simp [Obj.gen],_,_,rfl,by simp,fun _=>by simp [SlOk]⟩
theorem step_append (hx:WRel x) (he:ERel x e a.tmps) {p q:Operand} {o1 o2:O} (hp:cO p=some o1) (hq:cO q=some o2) {t ty et:TypeId} {i:TypeInfo} {z:List V} (ht:P.underlying t=some (.slice et)) (hti:P.info? et=some i) (hz:zeroOf i=some z)
  {K:Tok→Option V→Store→Prop} (hk:ev e x.σ K (.append i.size i.bytes o1 o2)):Step P x (do pure (Next.value (← Builtin.append_ #[t,t] ty #[a.eval p,a.eval q]))) K:=by
 obtain ⟨u,hu,hk1⟩:=onV_some hk
 clear hk
 obtain ⟨v,hv,hk⟩:=onV_some hk1
 clear hk1
 obtain ⟨rs,hrs,hk1⟩:=onRow_some hk
 clear hk
 have hr:=opv_rel he hp hu
 have hs:=opv_rel he hq hv
 obtain ⟨zv,hzv,hc,hlen,hpos,_⟩:=zeroOf_some hz
 have hzl:=cVs_len hc
 have hzs:zv.cells.size=i.size:=by simp at hzl; omega
 obtain ⟨ad,c,hqv,hrel⟩:=rowsOf_rel hx hrs hs
 unfold evAppend at hk1
 split at hk1
 ·-- nil
  simp only [VRel] at hr
  obtain ⟨hby,h63,hk⟩:=hk1
  rw [hr,hqv]
  have emp:rs=[]→Step P x (do pure (Next.value (← Builtin.append_ #[t,t] ty #[.slice none 0 0,.slice ad rs.length c]))) K:=by
   rintro rfl
   have hrun:=run_append_none (P:=P) (t':=ty) ht hti (.slice none 0 0) (ad:=ad) (c':=c) rfl (Nat.le_refl _) x.w
   exact step_empty hx i.size (by simp only [List.length_nil,Sem.run_bind,hrun,Result.andThen_ok,Sem.run_pure]) hk
  rcases hrel with h | ⟨b,off,l,rfl,h1,h2,h3,h4⟩
  ·exact emp h
  ·by_cases h0:rs.length=0
   ·exact emp (List.eq_nil_of_length_eq_zero h0)
   ·have hll:=flat_len' h1 h2
    have hrun:=run_append_nil (P:=P) x.w t ty et i zv ht hti hzv ⟨b,off,none⟩ rs.length c l hll (fun j v hj=>by rw [addr_add]; exact h3 j v hj) (by omega) (by omega) (by simp only [maxBy] at hby; omega)
    have hge:=grownCap_ge x.w rs.length 0 et
    refine step_slc { x with w:=x.w.drew } (wrel_drew hx) (ext_drew x) rfl (rows:=rs) (sz:=i.size) (cap:=grownCap x.w rs.length 0 et) (l:=l) (unfrozen_new _) hge ?_ h1 (VsRel.mono (ext_drew x) _ _ h2) ?_ h4 (by simp only [Sem.run_bind,hrun,Result.andThen_ok,Sem.run_pure]; rfl) hk
    ·simp only [Array.size_append,List.size_toArray,size_zeroCells,hzs,hll,← Nat.add_mul]
     exact Nat.mul_le_mul_right _ (by omega)
    ·simp
 ·-- an empty literal
  rename_i s
  obtain ⟨rfl,hby,h63,hk1,hk2⟩:=hk1
  simp only [VRel] at hr
  obtain ⟨ba,hpv,_⟩:=hr
  simp only [List.length_nil] at hpv
  by_cases h0:rs=[]
  ·subst h0
   rw [hpv,hqv]
   have hrun:=run_append_none (P:=P) (t':=ty) ht hti (.slice ba 0 0) (ad:=ad) (c':=c) rfl (Nat.le_refl _) x.w
   refine Step.pure hx (v:=.slice ba 0 0) (by simp only [List.length_nil,Sem.run_bind,hrun,Result.andThen_ok,Sem.run_pure]) ?_ (hk1 rfl)
   simp only [VRel]
   exact ⟨ba,rfl,.inl rfl⟩
  ·have hk:=hk2 h0
   rcases hrel with h | ⟨b,off,l,rfl,h1,h2,h3,h4⟩
   ·exact (h0 h).elim
   ·have hlen:rs.length≠0:=fun e=>h0 (List.eq_nil_of_length_eq_zero e)
    have hll:=flat_len' h1 h2
    rw [hpv,hqv]
    cases ba with
    | none =>
     have hrun:=run_append_nil (P:=P) x.w t ty et i zv ht hti hzv ⟨b,off,none⟩ rs.length c l hll (fun j v hj=>by rw [addr_add]; exact h3 j v hj) (by omega) (by omega) (by simp only [maxBy] at hby; omega)
     have hge:=grownCap_ge x.w rs.length 0 et
     refine step_slc { x with w:=x.w.drew } (wrel_drew hx) (ext_drew x) rfl (rows:=rs) (sz:=i.size) (cap:=grownCap x.w rs.length 0 et) (l:=l) (unfrozen_new _) hge ?_ h1 (VsRel.mono (ext_drew x) _ _ h2) ?_ h4 (by simp only [Sem.run_bind,hrun,Result.andThen_ok,Sem.run_pure]; rfl) hk
     ·simp only [Array.size_append,List.size_toArray,size_zeroCells,hzs,hll,← Nat.add_mul]
      exact Nat.mul_le_mul_right _ (by omega)
     ·simp
    | some ba =>
     have hrun:=run_append_grow (P:=P) x.w t ty et i zv ht hti hzv ba 0 0 [] (by simp) (fun j v hj=>by simp at hj) ⟨b,off,none⟩ rs.length c l hll (fun j v hj=>by rw [addr_add]; exact h3 j v hj) (by omega) (by omega) (growslice_fits (by omega) (by simpa [maxBy] using hby))
     have hge:=grownCap_ge x.w (0+rs.length) 0 et
     refine step_slc { x with w:=x.w.drew } (wrel_drew hx) (ext_drew x) rfl (rows:=rs) (sz:=i.size) (cap:=grownCap x.w (0+rs.length) 0 et) (l:=l) (unfrozen_new _) (by omega) ?_ h1 (VsRel.mono (ext_drew x) _ _ h2) ?_ h4 (by simp only [Sem.run_bind,hrun,Result.andThen_ok,Sem.run_pure,Nat.zero_add]; rfl) hk
     ·simp only [Array.size_append,List.size_toArray,List.length_nil,size_zeroCells,hzs,hll,← Nat.add_mul]
      simp only [Nat.zero_add,← Nat.add_mul]
      exact Nat.mul_le_mul_right _ (by omega)
     ·simp
 ·rename_i id g off len
  obtain ⟨s',rows,ho,hk⟩:=onSlc_some hk1
  obtain ⟨rfl,rfl,rfl,rfl,hby,h63,hk⟩:=hk
  simp only [VRel] at hr
  obtain ⟨ob,ho',_,ad',c',hpv,hc',hr⟩:=hr
  rw [ho] at ho'
  obtain rfl:=Option.some.inj ho'
  have hr:=hr rfl
  simp only [SlOk] at hr
  obtain ⟨_,hblk,hfull⟩:=hr
  obtain ⟨rfl,rfl⟩:=hfull (by trivial)
  rw [hpv,hqv]
  have hid:=(List.getElem?_eq_some_iff.1 ho).1
  have same:rs=[]→Step P x (do pure (Next.value (← Builtin.append_ #[t,t] ty #[.slice ((x.ρ id).blk.map fun b=>⟨b,0,none⟩) rows.length (x.ρ id).cap,.slice ad rs.length c]))) K:=by
   rintro rfl
   have hrun:=run_append_none (P:=P) (t':=ty) ht hti (.slice ((x.ρ id).blk.map fun b=>⟨b,0,none⟩) rows.length (x.ρ id).cap) (ad:=ad) (c':=c) rfl hc' x.w
   have hset:x.σ.set id (.slc i.size (rows++[]))=x.σ:=by
    rw [List.append_nil]
    have:=(List.getElem?_eq_some_iff.1 ho).2
    rw [← this]
    exact List.set_getElem_self _
   rw [hset] at hk
   refine Step.pure hx (v:=.slice ((x.ρ id).blk.map fun b=>⟨b,0,none⟩) rows.length (x.ρ id).cap) (by simp only [List.length_nil,Sem.run_bind,hrun,Result.andThen_ok,Sem.run_pure]) ?_ hk
   rw [← hpv]
   exact opv_rel he hp hu
  rcases hrel with h | ⟨b,off,l,rfl,h1,h2,h3,h4⟩
  ·exact same h
  ·by_cases h0:rs.length=0
   ·exact same (List.eq_nil_of_length_eq_zero h0)
   ·have hll:=flat_len' h1 h2
    rcases hx.objs id _ ho with ⟨g1,g2⟩ | ⟨b',arr,ty',fr,l',g1,g2,g3,g4,g5,g6,g7,g8,g9,g10⟩
    ·-- it has no block yet
     have g1:rows=[]:=by
      rcases hblk with h' | ⟨b',hb',_⟩
      ·exact List.eq_nil_of_length_eq_zero h'
      ·rw [g2] at hb'; cases hb'
     subst g1
     rw [g2]
     simp only [Option.map_none,List.length_nil,Nat.zero_add,List.nil_append] at *
     have hrun:=run_append_nil (P:=P) x.w t ty et i zv ht hti hzv ⟨b,off,none⟩ rs.length c l hll (fun j v hj=>by rw [addr_add]; exact h3 j v hj) (by omega) (by omega) (by simp only [maxBy] at hby; omega)
     have hge:=grownCap_ge x.w rs.length 0 et
     refine step_moved hx (rows':=rs) (sz:=i.size) (cap:=grownCap x.w rs.length 0 et) (l:=l) ho (by simp; omega) hge ?_ h1 h2 ?_ h4 (by simp only [Sem.run_bind,hrun,Result.andThen_ok,Sem.run_pure]; rfl) hk
     ·simp only [Array.size_append,List.size_toArray,size_zeroCells,hzs,hll,← Nat.add_mul]
      exact Nat.mul_le_mul_right _ (by omega)
     ·simp
    ·rw [g1]
     simp only [Option.map_some]
     have hll':=flat_len' g7 g8
     have hrows:∀ r∈rows++rs,r.length=i.size:=by
      intro r hr
      rcases List.mem_append.1 hr with h | h
      ·exact g7 r h
      ·exact h1 r h
     obtain ⟨m,hm⟩:=g9
     have hal:arr.toList.length=l'.length+m.length:=by rw [← hm]; simp
     have hlapp:VsRel x (rows++rs).flatten (l'++l):=by rw [List.flatten_append]; exact g8.app h2
     have hones:∀ v∈l'++l,v.oneCell'=true:=by
      intro v hv
      rcases List.mem_append.1 hv with h | h
      ·exact g10 v h
      ·exact h4 v h
     by_cases hroom:rows.length+rs.length≤(x.ρ id).cap
     ·have hfit:(rows.length+rs.length) * i.size≤arr.size:=Nat.le_trans (Nat.mul_le_mul_right _ hroom) g6
      rw [Nat.add_mul,← hll,← hll'] at hfit
      obtain ⟨w',arr',hrun,hh,hla,hsize,k1,k2,k3,hkk⟩:=storeCells_run (P:=P) (vs:=l) (off:=rows.length * i.size) (i:=0) g3 g4 (by omega) h4
      have hf:=run_firstCells_some (P:=P) x.w i.size rs.length ⟨b,off,none⟩ rs.length c l hll (fun j v hj=>by rw [addr_add]; exact h3 j v hj)
      have hrun2:(Builtin.append_ #[t,t] ty #[.slice (some ⟨b',0,none⟩) rows.length (x.ρ id).cap,.slice (some ⟨b,off,none⟩) rs.length c]).run P x.w=.ok (.slice (some ⟨b',0,none⟩) (rows.length+rs.length) (x.ρ id).cap) w':=by
       simp [Builtin.append_,run_underlying ht,run_sizeOf' hti,Builtin.lenOf,hroom,hf,addr_add,hrun]
      have hlike:Obj.like (.slc i.size rows) (.slc i.size (rows++rs)):=rfl
      have hgen:Obj.gen (.slc i.size rows)≤Obj.gen (.slc i.size (rows++rs)):=by simp [Obj.gen]
      have hext:=ext_put hx (ob:=.slc i.size (rows++rs)) (pl:=x.ρ id) (w':=w') ho hlike hgen (fun _=>rfl) k1 k2 k3 (by omega) (fun k _ hne=>hkk k (fun e=>hne (e ▸ g1)))
      have hla':arr'.toList=l'++l++arr.toList.drop (l'.length+l.length):=by
       rw [hla,Nat.add_zero,← hll',← hm,List.take_left]
      have hsame:arr'.size=arr.size:=by
       have:=congrArg List.length hla'
       simp at this
       simp at hal
       omega
      refine ⟨_,x.put id (x.ρ id) (.slc i.size (rows++rs)) w',_,(by simp only [Sem.run_bind,hrun2,Result.andThen_ok,Sem.run_pure]; rfl),hk,?_,?_,hext⟩
      ·simp only [NRel,VRel]
       refine ⟨.slc i.size (rows++rs),by simp [Cx.put,hid],by simp [Obj.gen],_,_,rfl,hroom,fun _=>?_⟩
       simp only [SlOk,Cx.put,upd_same]
       refine ⟨by simp,.inr ⟨b',g1,by simp⟩,fun _=>⟨by simp [g1],trivial⟩⟩
      ·refine wrel_put hx ho hlike hgen (fun _=>rfl) k1 k2 k3 (by omega) (fun k _ hne=>hkk k (fun e=>hne (e ▸ g1))) (fun b' hb'=>.inl hb') ?_
       refine .inr ⟨b',arr',ty',fr,l'++l,by simp [Cx.put,g1],g2,hh,by rw [hsame]; exact g4,by simp [Cx.put]; exact hroom,by rw [hsame]; simp [Cx.put]; exact g6,hrows,VsRel.mono hext _ _ hlapp,?_,hones⟩
       rw [hla']
       exact List.prefix_append _ _
     ·have hrun:=run_append_grow (P:=P) x.w t ty et i zv ht hti hzv ⟨b',0,none⟩ rows.length (x.ρ id).cap l' hll' (fun j v hj=>by
        rw [addr_add]
        have:arr.toList[j]?=some v:=by rw [← hm,List.getElem?_append_left (List.getElem?_eq_some_iff.1 hj).1]; exact hj
        simp only [World.cell?,g3]
        simpa using this) ⟨b,off,none⟩ rs.length c l hll (fun j v hj=>by rw [addr_add]; exact h3 j v hj) (by omega) (by omega) (growslice_fits (by omega) hby)
      have hge:=grownCap_ge x.w (rows.length+rs.length) (x.ρ id).cap et
      have hl2:(rows++rs).length=rows.length+rs.length:=by simp
      rw [← hl2] at hk
      refine step_moved hx (rows':=rows++rs) (sz:=i.size) (cap:=grownCap x.w (rows.length+rs.length) (x.ρ id).cap et) (l:=l'++l) ho (by simp; omega) (by rw [hl2]; exact hge) ?_ hrows hlapp ?_ hones (by rw [hl2]; simp only [Sem.run_bind,hrun,Result.andThen_ok,Sem.run_pure]; rfl) hk
      ·simp only [Array.size_append,List.size_toArray,size_zeroCells,hzs,hll,hll',← Nat.add_mul]
       exact Nat.mul_le_mul_right _ (by omega)
      ·simp
 ·exact hk1.elim
end
end Go.Ab
end
section
namespace Go.Ab
section
variable {P:Program} {x:Cx} {e:Env} {a:Act}
theorem fold_set (off:Nat):∀ (l:List Value) (s:Nat) (cs:Array Value),off+s+l.length≤cs.size →
  ((l.zipIdx s).foldl (fun cs (y:Value × Nat)=>cs.setIfInBounds (off+y.2) y.1) cs).toList=cs.toList.take (off+s)++l++cs.toList.drop (off+s+l.length)
 | [],s,cs,_=>by simp
 | v::l,s,cs,h=>by
  simp only [List.length_cons] at h
  simp only [List.zipIdx_cons,List.foldl_cons]
  rw [fold_set off l (s+1) _ (by simp; omega)]
  simp only [Array.toList_setIfInBounds]
  have hn:off+s<cs.toList.length:=by simp; omega
  rw [List.set_eq_take_append_cons_drop,if_pos hn]
  have ht:(cs.toList.take (off+s)).length=off+s:=by simp; omega
  have e1:(cs.toList.take (off+s)++v::cs.toList.drop (off+s+1)).take (off+(s+1))=cs.toList.take (off+s)++[v]:=by
   rw [List.take_append,List.take_of_length_le (by omega),ht,show off+(s+1) - (off+s)=1 by omega]
   simp
  have e2:(cs.toList.take (off+s)++v::cs.toList.drop (off+s+1)).drop (off+(s+1)+l.length)=cs.toList.drop (off+s+(l.length+1)):=by
   rw [List.drop_append,List.drop_of_length_le (by omega),ht,show off+(s+1)+l.length - (off+s)=l.length+1 by omega]
   simp only [List.nil_append,List.drop_succ_cons,List.drop_drop]
   congr 1
   omega
  rw [e1,e2]
  simp
def PartsOk (place:Nat→Option (Nat × Nat)):List (Nat × O)→List (Nat × Nat × O)→Prop
 | [],[]=>True
 | p::os,q::qs=>place p.1=some (q.1,q.2.1)∧p.2=q.2.2∧PartsOk place os qs
 | _,_=>False
theorem fillV_sound (he:ERel x e a.tmps) (place:Nat→Option (Nat × Nat)) {K:Tok→List V→Prop}:∀ {ps:List (Nat × Operand)} {os:List (Nat × O)} {qs:List (Nat × Nat × O)} {cs:List V} {arr:Array Value},
  partsOf ps=some os→PartsOk place os qs→VsRel x cs arr.toList→fillV e .go cs qs K →
  ∃ arr' cs',Instr.fill place arr (ps.map fun p=>(p.1,a.eval p.2))=some arr'∧VsRel x cs' arr'.toList∧K .go cs'
 | [],os,qs,cs,arr,h,hq,hr,hk=>by
  simp only [partsOf,Option.some.injEq] at h
  subst h
  cases qs with
  | cons _ _=>exact hq.elim
  | nil=>exact ⟨arr,cs,rfl,hr,hk⟩
 | (i,p)::ps,os,qs,cs,arr,h,hq,hr,hk=>by
  simp only [partsOf] at h
  split at h
  ·rename_i o os' ho hos
   obtain rfl:=Option.some.inj h
   cases qs with
   | nil=>exact hq.elim
   | cons q qs' =>
   obtain ⟨off,sz,o'⟩:=q
   obtain ⟨hpl,rfl,hq⟩:=hq
   simp only at hpl
   simp only [fillV] at hk
   obtain ⟨u,hu,hk1⟩:=onV_some hk
   obtain ⟨us,hus,hk2⟩:=onRow_some hk1
   obtain ⟨hlen,hle,hk3⟩:=hk2
   have hc:=cellsOf_rel (opv_rel he ho hu) hus
   have hcl:=hc.length
   have hcs:=hr.length
   simp only [Array.length_toList] at hcl hcs
   have hset:=fold_set off (a.eval p).cells.toList 0 arr (by simp; omega)
   simp only [Nat.add_zero] at hset
   have hnew:VsRel x (putAt cs off us) ((a.eval p).cells.zipIdx.foldl (fun cs (y:Value × Nat)=>cs.setIfInBounds (off+y.2) y.1) arr).toList:=by
    rw [← Array.foldl_toList,Array.toList_zipIdx,hset]
    exact hr.putAt hc
   obtain ⟨arr',cs',h1,h2,h3⟩:=fillV_sound he place hos hq hnew hk3
   refine ⟨arr',cs',?_,h2,h3⟩
   simp only [List.map_cons,Instr.fill,hpl]
   rw [if_neg (by simp; omega)]
   exact h1
  ·cases h
theorem placesOf_all {places:List (Nat × Nat)}:∀ {os:List (Nat × O)} {qs:List (Nat × Nat × O)},placesOf places os=some qs→PartsOk (fun k=>places[k]?) os qs
 | [],qs,h=>by simp [placesOf] at h; subst h; exact True.intro
 | (i,o)::os,qs,h=>by
  simp only [placesOf] at h
  split at h
  ·rename_i off sz qs' h1 h2
   obtain rfl:=Option.some.inj h
   exact ⟨h1,rfl,placesOf_all h2⟩
  ·cases h
theorem step_build (hx:WRel x) (he:ERel x e a.tmps) {t:TypeId} {fs:Array Field} {i:TypeInfo} {ps:Array (Nat × Operand)} {os:List (Nat × O)} {pl:List (Nat × Nat)} {z:Value} {zs:List V} {qs:List (Nat × Nat × O)}
  (ht:P.underlying t=some (.struct fs)) (hi:P.info? t=some i) (hps:partsOf ps.toList=some os) (hz:i.zero=some z) (hpl:fieldPlaces P fs=some pl) (hzs:cVs z.cells.toList=some zs) (hqs:placesOf pl os=some qs)
  {K:Tok→Option V→Store→Prop} (hk:ev e x.σ K (.build zs qs)):Step P x (do pure (Next.value (← Instr.build t (ps.map fun (i,y)=>(i,a.eval y))))) K:=by
 obtain ⟨arr,cs,h1,h2,h3⟩:=fillV_sound he (fun k=>pl[k]?) hps (placesOf_all hqs) (cVs_rel x hzs) hk
 have hb:P.built t (ps.map fun (i,y)=>(i,a.eval y)).toList=some arr:=by
  unfold Program.built fieldPlaces at *
  simp only [hi,ht,hz,hpl,Array.toList_map]
  simpa using h1
 refine Step.pure hx (v:=.agg arr) ?_ ?_ h3
 ·simp only [Sem.run_bind,run_build x.w t _ arr hb,Result.andThen_ok,Sem.run_pure]
 ·simp only [VRel]
  exact ⟨arr.toList,by simp,h2⟩
theorem litRows_fill {sz:Nat} {K:Tok→List (List V)→Prop}:∀ {os:List (Nat × O)} {rs:List (List V)},(∀ r∈rs,r.length=sz)→(∀ r∈rs,r.all one=true)→litRows e sz .go rs os K →
  fillV e .go rs.flatten (os.map fun p=>(p.1 * sz,sz,p.2)) fun t cs=>∃ rs',cs=rs'.flatten∧(∀ r∈rs',r.length=sz)∧(∀ r∈rs',r.all one=true)∧rs'.length=rs.length∧K t rs'
 | [],rs,h1,h2,h=>⟨rs,rfl,h1,h2,rfl,h⟩
 | (i,o)::os,rs,h1,h2,h=>by
  simp only [litRows] at h
  obtain ⟨u,hu,hk1⟩:=onV_some h
  obtain ⟨us,hus,hk2⟩:=onRow_some hk1
  obtain ⟨hlen,hone,hi,hk⟩:=hk2
  have hset:∀ r∈rs.set i us,r.length=sz:=fun r hr=>by
   rcases List.mem_or_eq_of_mem_set hr with h | h
   ·exact h1 r h
   ·rw [h]; exact hlen
  have hset1:∀ r∈rs.set i us,r.all one=true:=fun r hr=>by
   rcases List.mem_or_eq_of_mem_set hr with h | h
   ·exact h2 r h
   ·rw [h]; exact hone
  have ih:=litRows_fill hset hset1 hk
  have hri:rs[i]?=some rs[i]:=by simp [hi]
  have hrl:rs[i].length=sz:=h1 _ (List.getElem_mem hi)
  have hput:putAt rs[i] 0 us=us:=by simp [putAt,hrl,hlen]
  have hfs:=flatten_set (us:=us) (j:=0) h1 hri (by omega)
  rw [hput,Nat.add_zero] at hfs
  rw [hfs] at ih
  have hfl:=flatten_len h1
  simp only [List.map_cons,fillV,hu,onV,hus,onRow]
  refine ⟨hlen,?_,?_⟩
  ·rw [hfl,← Nat.succ_mul]; exact Nat.mul_le_mul_right _ hi
  ·simpa using ih
theorem parts_all {sz:Nat}:∀ (os:List (Nat × O)),PartsOk (fun k=>some (k * sz,sz)) os (os.map fun p=>(p.1 * sz,sz,p.2))
 | []=>True.intro
 | _::os=>⟨rfl,rfl,parts_all os⟩
theorem run_buildSlice' (w:World) {t et:TypeId} {n:Nat} {parts:Array (Nat × Value)} {cells:Array Value} {i:TypeInfo} {z:Value} (hu:P.underlying t=some (.slice et)) (hie:P.info? et=some i) (hz:i.zero=some z) (hpos:0<i.size) (hsmall:n * i.size≤16777216)
  (h:Instr.fill (fun k=>some (k * i.size,i.size)) (madeCells z.cells (n * i.size)) parts.toList=some cells) (h0:n=0→cells=#[]) :
  (Instr.buildSlice t n parts).run P w=.ok (.slice (some ⟨w.heap.size,0,none⟩) n n) (w.alloc (.cells cells et)):=by
 by_cases hn:n * i.size=0
 ·have:n=0:=by rcases Nat.mul_eq_zero.1 hn with h | h <;> omega
  subst this
  have hc:=h0 rfl
  subst hc
  simp only [Nat.zero_mul,madeCells] at h
  have hm:∀ f:Nat→Value,Array.map f (Array.range 0)=#[]:=fun f=>Array.eq_empty_of_size_eq_zero (by simp)
  rw [hm] at h
  simp [Instr.buildSlice,run_underlying hu,run_sizeOf' hie,hm,h,newRow]
 ·exact run_buildSlice w t et n parts cells i z hu hie hz (by omega) hn h
theorem VRows_of_list {x:Cx} {b sz:Nat}:∀ {rs:List (List V)} {off:Nat} {l:List Value},(∀ r∈rs,r.length=sz)→VsRel x rs.flatten l→(∀ j v,l[j]?=some v→x.w.cell? ⟨b,off+j,none⟩=some v)→VRows x sz rs b off
 | [],_,_,_,_,_=>by simp [VRows]
 | r::rs,off,l,h1,h2,h3=>by
  have hr:r.length=sz:=h1 r (by simp)
  have cells:∀ {cs:List V} {off:Nat} {l:List Value},VsRel x cs l→(∀ j v,l[j]?=some v→x.w.cell? ⟨b,off+j,none⟩=some v)→VCells x cs b off:=by
   intro cs
   induction cs with
   | nil=>intro _ _ _ _; simp [VCells]
   | cons c cs ih =>
    intro off l h k
    simp only [VsRel] at h
    obtain ⟨v,l',rfl,hv,h⟩:=h
    simp only [VCells]
    refine ⟨⟨v,by simpa using k 0 v rfl,hv⟩,ih h fun j u hj=>?_⟩
    have:=k (j+1) u (by simpa using hj)
    rw [show off+1+j=off+(j+1) by omega]
    exact this
  simp only [VRows]
  have ht:=(show VsRel x (r++rs.flatten) l by simpa using h2).take sz
  have hd:=(show VsRel x (r++rs.flatten) l by simpa using h2).drop sz
  rw [← hr,List.take_left] at ht
  rw [← hr,List.drop_left] at hd
  refine ⟨hr,cells ht fun j v hj=>?_,VRows_of_list (fun r hm=>h1 r (by simp [hm])) hd fun j v hj=>?_⟩
  ·rw [List.getElem?_take] at hj
   split at hj
   ·exact h3 j v hj
   ·cases hj
  ·rw [List.getElem?_drop] at hj
   have:=h3 _ v hj
   rw [← hr,show off+r.length+j=off+(r.length+j) by omega]
   exact this
theorem step_lit (hx:WRel x) (he:ERel x e a.tmps) {t et:TypeId} {i:TypeInfo} {z:List V} {n:Nat} {ps:Array (Nat × Operand)} {os:List (Nat × O)} {how:Option Bool}
  (ht:P.underlying t=some (.slice et)) (hti:P.info? et=some i) (hz:zeroOf i=some z) (hps:partsOf ps.toList=some os) (hsmall:n * i.size≤16777216)
  {K:Tok→Option V→Store→Prop} (hk:ev e x.σ K (.lit how i.size n z os)):Step P x (do pure (Next.value (← Instr.buildSlice t n (ps.map fun (i,y)=>(i,a.eval y))))) K:=by
 obtain ⟨zv,hzv,hc,hlen,hpos,_⟩:=zeroOf_some hz
 have hzl:=cVs_len hc
 have hzs:zv.cells.size=i.size:=by simp at hzl; omega
 have hflat:(madeCells zv.cells (n * i.size)).toList=(List.replicate n zv.cells.toList).flatten:=by rw [← hzs]; exact made_flat _ _
 have hr0:VsRel x (List.replicate n z).flatten (madeCells zv.cells (n * i.size)).toList:=by rw [hflat]; exact vsrel_rep (cVs_rel x hc) n
 have hk1:=litRows_fill (K:=fun t rs=>litHow (litK i.size x.σ rs (fun t u σ'=>K t (some u) σ') t) how) (fun r hr=>by rw [List.eq_of_mem_replicate hr]; exact hlen) (fun r hr=>by rw [List.eq_of_mem_replicate hr]; exact cVs_one hc) hk
 obtain ⟨arr,cs,h1,h2,rs,rfl,h3,h4,h5,h6⟩:=fillV_sound he (fun k=>some (k * i.size,i.size)) hps (parts_all os) hr0 hk1
 simp only [List.length_replicate] at h5
 have hal:=h2.length
 rw [flatten_len h3,h5] at hal
 simp only [Array.length_toList] at hal
 have hrun:=run_buildSlice' (P:=P) x.w (parts:=ps.map fun (i,y)=>(i,a.eval y)) ht hti hzv hpos hsmall (cells:=arr) (by simpa using h1) (fun h0=>by subst h0; simp at hal; exact Array.eq_empty_of_size_eq_zero hal.symm)
 have fin:∀ b,litK i.size x.σ rs (fun t u σ'=>K t (some u) σ') .go b→Step P x (do pure (Next.value (← Instr.buildSlice t n (ps.map fun (i,y)=>(i,a.eval y))))) K:=by
  intro b hb
  cases b with
  | true =>
   exact step_slc x hx (Ext.refl x) rfl (rows:=rs) (sz:=i.size) (cap:=n) (arr:=arr) (ty:=et) (fr:=(0,0)) (l:=arr.toList) (unfrozen_new _) (by omega) (by omega) h3 h2 (List.prefix_refl _) (one_flat h2 h4) (by rw [h5]; simp only [Sem.run_bind,hrun,Result.andThen_ok,Sem.run_pure]) hb
  | false =>
   have hext:=ext_frz hx (.cells arr et)
   refine ⟨_,x.frz (.cells arr et),_,(by simp only [Sem.run_bind,hrun,Result.andThen_ok,Sem.run_pure]; rfl),hb,?_,wrel_frz hx _,hext⟩
   simp only [NRel,VRel]
   refine ⟨_,by rw [h5],.inr ⟨x.w.heap.size,0,rfl,.inr rfl,VRows_of_list h3 (VsRel.mono hext _ _ h2) fun j v hj=>?_⟩⟩
   have hn:(x.frz (.cells arr et)).w.heap[x.w.heap.size]?=some (.cells arr et):=heap_alloc_new _ _
   simp only [World.cell?,hn]
   simpa using hj
 cases how with
 | none=>obtain ⟨b,hb⟩:=h6; exact fin b hb
 | some b=>exact fin b h6
theorem bytesOf_vals {x:Cx}:∀ {rs:List (List V)} {s:List UInt8} {l:List Value},bytesOf rs=some s→VsRel x rs.flatten l→∃ ns:List Int,l=ns.map (Value.int .u8)∧ns.map (fun n=>UInt8.ofNat n.toNat)=s
 | [],s,l,h,hl=>by
  simp only [bytesOf,Option.some.injEq] at h
  subst h
  simp only [List.flatten_nil,VsRel] at hl
  subst hl
  exact ⟨[],rfl,rfl⟩
 | r::rs,s,l,h,hl=>by
  unfold bytesOf at h
  split at h
  ·rename_i heq; cases heq
  ·rename_i n rs' heq
   obtain ⟨rfl,rfl⟩:=List.cons.inj heq
   cases hb:bytesOf rs with
   | none=>simp [hb] at h
   | some s' =>
    simp only [hb,Option.map_some,Option.some.injEq] at h
    subst h
    simp only [List.flatten_cons,List.cons_append,List.nil_append,VsRel] at hl
    obtain ⟨c,l',rfl,hc,hl⟩:=hl
    obtain ⟨ns,rfl,hns⟩:=bytesOf_vals hb hl
    exact ⟨n::ns,by simp [rel_int hc],by simp [hns]⟩
  ·cases h
theorem step_bytesStr (hx:WRel x) (he:ERel x e a.tmps) {p:Operand} {o:O} (hp:cO p=some o) {s t et:TypeId} (hs:P.underlying s=some (.slice et)) (het:P.underlying et=some (.int .u8)) (ht:P.underlying t=some .string)
  {K:Tok→Option V→Store→Prop} (hk:ev e x.σ K (.bytesStr o)):Step P x (do pure (Next.value (← convert s t (a.eval p)))) K:=by
 obtain ⟨u,hu,hk1⟩:=onV_some hk
 obtain ⟨rs,hrs,hk2⟩:=onRow_some hk1
 obtain ⟨str,hstr,hk3⟩:=onRow_some hk2
 obtain ⟨ad,c,hv,hrel⟩:=rowsOf_rel hx hrs (opv_rel he hp hu)
 rw [hv]
 have fin:(convert s t (.slice ad rs.length c)).run P x.w=.ok (.string ⟨str.toArray⟩) x.w→Step P x (do pure (Next.value (← convert s t (.slice ad rs.length c)))) K:=fun h =>
  Step.pure hx (v:=.string ⟨str.toArray⟩) (by simp only [Sem.run_bind,h,Result.andThen_ok,Sem.run_pure]) (mk_str _) hk3
 apply fin
 rw [run_convert_bytes_string x.w s t et ad rs.length c hs het ht]
 rcases hrel with rfl | ⟨b,off,l,rfl,h1,h2,h3,h4⟩
 ·simp only [bytesOf,Option.some.injEq] at hstr
  subst hstr
  cases ad with
  | none=>simp [Conv.bytesToString]; rfl
  | some ad =>
   exact run_bytesToString x.w ad 0 c [] (by simp [loadCells,loadCellsFrom])
 ·obtain ⟨ns,rfl,hns⟩:=bytesOf_vals hstr h2
  have hll:=flat_len' h1 h2
  simp only [List.length_map,Nat.mul_one] at hll
  rw [run_bytesToString x.w ⟨b,off,none⟩ rs.length c ns (by rw [← hll]; have:=loadCells_run (P:=P) h3; simpa using this),foldl_push_bytes]
  simp [hns]
theorem byteRows_flat (s:List UInt8):(byteRows s).flatten=s.map fun b=>V.t (.int .u8 b.toNat):=by
 induction s with
 | nil=>rfl
 | cons b s ih=>simp only [byteRows,List.map_cons,List.flatten_cons] at ih ⊢; rw [ih]; rfl
theorem vsrel_bytes (x:Cx):∀ s:List UInt8,VsRel x (s.map fun b=>V.t (.int .u8 b.toNat)) (s.map fun b=>Value.int .u8 b.toNat)
 | []=>by simp [VsRel]
 | b::s=>by
  simp only [List.map_cons,VsRel]
  exact ⟨_,_,rfl,mk_int _ _,vsrel_bytes x s⟩
theorem freeze_new (w:World) (cs:Array Value) (t:TypeId):(w.alloc (.cells cs t)).freeze ⟨w.heap.size,cs.size,none⟩ 1=w.alloc (.cells cs t (cs.size,cs.size+1)):=by
 simp only [World.freeze,World.alloc,show ¬ (1=0) by omega,if_false]
 congr 1
 apply Array.ext_getElem?
 intro k
 rw [Array.getElem?_modify]
 by_cases h:w.heap.size=k
 ·subst h
  simp
 ·rw [if_neg h,Array.getElem?_push,Array.getElem?_push]
  simp [Ne.symm h]
theorem step_appS (hx:WRel x) (he:ERel x e a.tmps) {p q:Operand} {o1 o2:O} (hp:cO p=some o1) (hq:cO q=some o2) {t t' ty et:TypeId} {i:TypeInfo} {z:List V} (ht:P.underlying t=some (.slice et)) (ht':P.underlying t'=some .string) (hti:P.info? et=some i) (hz:zeroOf i=some z) (h1:i.size=1)
  {K:Tok→Option V→Store→Prop} (hk:ev e x.σ K (.appS i.bytes o1 o2)):Step P x (do pure (Next.value (← Builtin.append_ #[t,t'] ty #[a.eval p,a.eval q]))) K:=by
 obtain ⟨u,hu,hk1⟩:=onV_some hk
 clear hk
 obtain ⟨v,hv,hk⟩:=onV_some hk1
 clear hk1
 have hr:=opv_rel he hp hu
 have hs:=opv_rel he hq hv
 obtain ⟨zv,hzv,hc,hlen,hpos,_⟩:=zeroOf_some hz
 have hzl:=cVs_len hc
 have hzs:zv.cells.size=1:=by simp at hzl; omega
 unfold evAppS at hk
 split at hk
 ·rename_i str
  rw [rel_str hs]
  have hbl:(byteRows str).length=str.length:=by simp [byteRows]
  have hsz:(⟨str.toArray⟩:ByteArray).size=str.length:=by simp [ByteArray.size]
  generalize hl:Lib.strCells ⟨str.toArray⟩=l at *
  have hll:l.length=str.length:=by rw [← hl,Lib.strCells_length,hsz]
  have h2:VsRel x (byteRows str).flatten l:=by rw [byteRows_flat,← hl]; exact vsrel_bytes x str
  have h4:∀ v∈l,v.oneCell'=true:=by rw [← hl]; exact Lib.strCells_oneCell _
  have hbr:∀ r∈byteRows str,r.length=1:=by
   intro r hr
   simp only [byteRows,List.mem_map] at hr
   obtain ⟨b,_,rfl⟩:=hr
   rfl
  have hcs:((⟨str.toArray⟩:ByteArray).data.map fun b=>Value.int .u8 b.toNat)=l.toArray:=by
   rw [← hl]; apply Array.ext'; simp [Lib.strCells]
  have hemp:∀ ba:Option Addr,str=[]→(Builtin.append_ #[t,t'] ty #[.slice ba 0 0,.string ⟨str.toArray⟩]).run P x.w=.ok (.slice ba 0 0) x.w:=by
   rintro ba rfl
   cases ba <;> simp [Builtin.append_,run_underlying ht,run_underlying ht',run_sizeOf' hti,Builtin.lenOf,Builtin.firstCells,ByteArray.size,storeCells]
  unfold evAppend at hk
  rw [hbl] at hk
  split at hk
  ·-- nil
   simp only [VRel] at hr
   obtain ⟨hby,h63,hk⟩:=hk
   rw [hr]
   by_cases h0:str=[]
   ·have hrun:=hemp none h0
    subst h0
    exact step_empty hx 1 (by simp only [Sem.run_bind,hrun,Result.andThen_ok,Sem.run_pure]) hk
   ·have hne:str.length≠0:=fun e=>h0 (List.eq_nil_of_length_eq_zero e)
    have hrun:=run_append_nil_string (P:=P) x.w t t' ty et i zv ht ht' hti hzv ⟨str.toArray⟩ (by omega) (by omega) (by simp only [maxBy] at hby; rw [hsz]; omega)
    rw [hsz,hcs] at hrun
    have hge:=grownCap_ge x.w str.length 0 et
    refine step_slc { x with w:=x.w.drew } (wrel_drew hx) (ext_drew x) rfl (rows:=byteRows str) (sz:=1) (cap:=grownCap x.w str.length 0 et) (l:=l) (unfrozen_new _) (by rw [hbl]; exact hge) ?_ hbr (VsRel.mono (ext_drew x) _ _ h2) ?_ h4 (by rw [hbl]; simp only [Sem.run_bind,hrun,Result.andThen_ok,Sem.run_pure]; rfl) (by rw [hbl]; exact hk)
    ·simp only [Array.size_append,List.size_toArray,size_zeroCells,hzs,hll]
     omega
    ·simp
  ·-- an empty literal
   rename_i s
   obtain ⟨rfl,hby,h63,hk1,hk2⟩:=hk
   simp only [VRel] at hr
   obtain ⟨ba,hpv,_⟩:=hr
   simp only [List.length_nil] at hpv
   rw [hpv]
   by_cases h0:str=[]
   ·have hrun:=hemp ba h0
    refine Step.pure hx (v:=.slice ba 0 0) (by simp only [Sem.run_bind,hrun,Result.andThen_ok,Sem.run_pure]) ?_ (hk1 (by rw [h0]; rfl))
    simp only [VRel]
    exact ⟨ba,rfl,.inl rfl⟩
   ·have hne:str.length≠0:=fun e=>h0 (List.eq_nil_of_length_eq_zero e)
    have hk:=hk2 (fun e=>hne (by rw [← hbl,e]; rfl))
    cases ba with
    | none =>
     have hrun:=run_append_nil_string (P:=P) x.w t t' ty et i zv ht ht' hti hzv ⟨str.toArray⟩ (by omega) (by omega) (by simp only [maxBy] at hby; rw [hsz]; omega)
     rw [hsz,hcs] at hrun
     have hge:=grownCap_ge x.w str.length 0 et
     refine step_slc { x with w:=x.w.drew } (wrel_drew hx) (ext_drew x) rfl (rows:=byteRows str) (sz:=1) (cap:=grownCap x.w str.length 0 et) (l:=l) (unfrozen_new _) (by rw [hbl]; exact hge) ?_ hbr (VsRel.mono (ext_drew x) _ _ h2) ?_ h4 (by rw [hbl]; simp only [Sem.run_bind,hrun,Result.andThen_ok,Sem.run_pure]; rfl) (by rw [hbl]; exact hk)
     ·simp only [Array.size_append,List.size_toArray,size_zeroCells,hzs,hll]
      omega
     ·simp
    | some ba =>
     have hrun:=Lib.run_append_grow_string (P:=P) x.w t t' ty et i zv ht ht' hti hzv ba 0 0 [] (by simp) (fun j v hj=>by simp at hj) ⟨str.toArray⟩ (by rw [hsz]; omega) (by rw [hsz]; omega) (growslice_fits (by rw [hsz]; omega) (by rw [hsz]; simpa [maxBy] using hby))
     rw [hsz,hl] at hrun
     have hge:=grownCap_ge x.w (0+str.length) 0 et
     refine step_slc { x with w:=x.w.drew } (wrel_drew hx) (ext_drew x) rfl (rows:=byteRows str) (sz:=1) (cap:=grownCap x.w (0+str.length) 0 et) (l:=l) (unfrozen_new _) (by rw [hbl]; omega) ?_ hbr (VsRel.mono (ext_drew x) _ _ h2) ?_ h4 (by rw [hbl]; simp only [Sem.run_bind,hrun,Result.andThen_ok,Sem.run_pure,Nat.zero_add]; rfl) (by rw [hbl]; exact hk)
     ·simp only [Array.size_append,List.size_toArray,List.length_nil,size_zeroCells,hzs,hll]
      simp only [Nat.zero_add]
      omega
     ·simp
  ·rename_i id g off len
   obtain ⟨s',rows,ho,hk⟩:=onSlc_some hk
   obtain ⟨rfl,rfl,rfl,rfl,hby,h63,hk⟩:=hk
   simp only [VRel] at hr
   obtain ⟨ob,ho',_,ad',c',hpv,hc',hr⟩:=hr
   rw [ho] at ho'
   obtain rfl:=Option.some.inj ho'
   have hr:=hr rfl
   simp only [SlOk] at hr
   obtain ⟨_,hblk,hfull⟩:=hr
   obtain ⟨rfl,rfl⟩:=hfull (by trivial)
   rw [hpv]
   have hid:=(List.getElem?_eq_some_iff.1 ho).1
   rcases hx.objs id _ ho with ⟨g1,g2⟩ | ⟨b',arr,ty',fr,l',g1,g2,g3,g4,g5,g6,g7,g8,g9,g10⟩
   ·-- it has no block yet
    have g1:rows=[]:=by
     rcases hblk with h' | ⟨b',hb',_⟩
     ·exact List.eq_nil_of_length_eq_zero h'
     ·rw [g2] at hb'; cases hb'
    subst g1
    rw [g2]
    simp only [Option.map_none,List.length_nil,Nat.zero_add,List.nil_append] at *
    by_cases h0:str=[]
    ·have hrun:=hemp none h0
     subst h0
     have hset:x.σ.set id (.slc 1 (byteRows []))=x.σ:=by
      have:=(List.getElem?_eq_some_iff.1 ho).2
      simp only [byteRows,List.map_nil]
      rw [← this]
      exact List.set_getElem_self _
     rw [hset] at hk
     refine Step.pure hx (v:=.slice none 0 0) (by simp only [Sem.run_bind,hrun,Result.andThen_ok,Sem.run_pure]) ?_ hk
     rw [g2] at hpv
     simp only [Option.map_none] at hpv
     rw [← hpv]
     exact opv_rel he hp hu
    ·have hne:str.length≠0:=fun e=>h0 (List.eq_nil_of_length_eq_zero e)
     have hrun:=run_append_nil_string (P:=P) x.w t t' ty et i zv ht ht' hti hzv ⟨str.toArray⟩ (by omega) (by omega) (by simp only [maxBy] at hby; rw [hsz]; omega)
     rw [hsz] at hrun
     rw [hcs] at hrun
     have hge:=grownCap_ge x.w str.length 0 et
     rw [← hbl] at hk
     refine step_moved hx (rows':=byteRows str) (sz:=1) (cap:=grownCap x.w str.length 0 et) (l:=l) ho (by simp; omega) (by rw [hbl]; exact hge) ?_ hbr h2 ?_ h4 (by rw [hbl]; simp only [Sem.run_bind,hrun,Result.andThen_ok,Sem.run_pure]; rfl) hk
     ·simp only [Array.size_append,List.size_toArray,size_zeroCells,hzs,hll]
      omega
     ·simp
   ·rw [g1]
    simp only [Option.map_some]
    have hll':l'.length=rows.length * 1:=by rw [← g8.length]; exact flatten_len g7
    have hrows:∀ r∈rows++byteRows str,r.length=1:=by
     intro r hr
     rcases List.mem_append.1 hr with h | h
     ·exact g7 r h
     ·exact hbr r h
    obtain ⟨m,hm⟩:=g9
    have hal:arr.toList.length=l'.length+m.length:=by rw [← hm]; simp
    have hlapp:VsRel x (rows++byteRows str).flatten (l'++l):=by rw [List.flatten_append]; exact g8.app h2
    have hones:∀ v∈l'++l,v.oneCell'=true:=by
     intro v hv
     rcases List.mem_append.1 hv with h | h
     ·exact g10 v h
     ·exact h4 v h
    by_cases hroom:rows.length+str.length≤(x.ρ id).cap
    ·have hfit:(rows.length+str.length) * 1≤arr.size:=Nat.le_trans (Nat.mul_le_mul_right _ hroom) g6
     obtain ⟨w',arr',hrun,hh,hla,hsize,k1,k2,k3,hkk⟩:=storeCells_run (P:=P) (vs:=l) (off:=rows.length) (i:=0) g3 g4 (by omega) h4
     have hf:=Lib.run_firstCells_string (P:=P) x.w 1 ⟨str.toArray⟩
     rw [hl] at hf
     have hrun2:(Builtin.append_ #[t,t'] ty #[.slice (some ⟨b',0,none⟩) rows.length (x.ρ id).cap,.string ⟨str.toArray⟩]).run P x.w=.ok (.slice (some ⟨b',0,none⟩) (rows.length+str.length) (x.ρ id).cap) w':=by
      rw [hsz] at hf
      simp [Builtin.append_,run_underlying ht,run_underlying ht',run_sizeOf' hti,h1,Builtin.lenOf,hsz,hroom,hf,addr_add,hrun]
     have hlike:Obj.like (.slc 1 rows) (.slc 1 (rows++byteRows str)):=rfl
     have hgen:Obj.gen (.slc 1 rows)≤Obj.gen (.slc 1 (rows++byteRows str)):=by simp [Obj.gen]
     have hext:=ext_put hx (ob:=.slc 1 (rows++byteRows str)) (pl:=x.ρ id) (w':=w') ho hlike hgen (fun _=>rfl) k1 k2 k3 (by omega) (fun k _ hne=>hkk k (fun e=>hne (e ▸ g1)))
     have hla':arr'.toList=l'++l++arr.toList.drop (l'.length+l.length):=by
      have:rows.length=l'.length:=by omega
      rw [hla,Nat.add_zero,this,← hm,List.take_left]
     have hsame:arr'.size=arr.size:=by
      have:=congrArg List.length hla'
      simp at this
      simp at hal
      omega
     have hl2:(rows++byteRows str).length=rows.length+str.length:=by simp [hbl]
     refine ⟨_,x.put id (x.ρ id) (.slc 1 (rows++byteRows str)) w',_,(by simp only [Sem.run_bind,hrun2,Result.andThen_ok,Sem.run_pure]; rfl),hk,?_,?_,hext⟩
     ·simp only [NRel,VRel]
      refine ⟨.slc 1 (rows++byteRows str),by simp [Cx.put,hid],by simp [Obj.gen,hbl],_,_,rfl,hroom,fun _=>?_⟩
      simp only [SlOk,Cx.put,upd_same]
      refine ⟨by rw [hl2]; omega,.inr ⟨b',g1,by simp⟩,fun _=>⟨by simp [g1],trivial⟩⟩
     ·refine wrel_put hx ho hlike hgen (fun _=>rfl) k1 k2 k3 (by omega) (fun k _ hne=>hkk k (fun e=>hne (e ▸ g1))) (fun b' hb'=>.inl hb') ?_
      refine .inr ⟨b',arr',ty',fr,l'++l,by simp [Cx.put,g1],g2,hh,by rw [hsame]; exact g4,by simp [Cx.put,hbl]; exact hroom,by rw [hsame]; simp [Cx.put]; simpa using g6,hrows,VsRel.mono hext _ _ hlapp,?_,hones⟩
      rw [hla']
      exact List.prefix_append _ _
    ·have hrun:=Lib.run_append_grow_string (P:=P) x.w t t' ty et i zv ht ht' hti hzv ⟨b',0,none⟩ rows.length (x.ρ id).cap l' (by rw [h1]; exact hll') (fun j v hj=>by
       rw [addr_add]
       have:arr.toList[j]?=some v:=by rw [← hm,List.getElem?_append_left (List.getElem?_eq_some_iff.1 hj).1]; exact hj
       simp only [World.cell?,g3]
       simpa using this) ⟨str.toArray⟩ (by rw [hsz]; omega) (by rw [hsz]; omega) (growslice_fits (by rw [hsz]; omega) (by rw [hsz]; exact hby))
     rw [hsz,hl] at hrun
     have hge:=grownCap_ge x.w (rows.length+str.length) (x.ρ id).cap et
     have hl2:(rows++byteRows str).length=rows.length+str.length:=by simp [hbl]
     rw [← hl2] at hk
     refine step_moved hx (rows':=rows++byteRows str) (sz:=1) (cap:=grownCap x.w (rows.length+str.length) (x.ρ id).cap et) (l:=l'++l) ho (by rw [hl2]; omega) (by rw [hl2]; exact hge) ?_ hrows hlapp ?_ hones (by rw [hl2]; simp only [Sem.run_bind,hrun,Result.andThen_ok,Sem.run_pure]; rfl) hk
     ·simp only [Array.size_append,List.size_toArray,size_zeroCells,hzs,hll,hll']
      omega
     ·simp
  ·exact hk.elim
 ·exact hk.elim
theorem step_strBytes (hx:WRel x) (he:ERel x e a.tmps) {p:Operand} {o:O} (hp:cO p=some o) {s t et:TypeId} (hs:P.underlying s=some .string) (ht:P.underlying t=some (.slice et)) (het:P.underlying et=some (.int .u8))
  {K:Tok→Option V→Store→Prop} (hk:ev e x.σ K (.strBytes o)):Step P x (do pure (Next.value (← convert s t (a.eval p)))) K:=by
 obtain ⟨u,hu,hk1⟩:=onV_some hk
 have hr:=opv_rel he hp hu
 unfold evStrBytes at hk1
 split at hk1
 ·rename_i str
  rw [rel_str hr]
  have hrun:=Lib.run_convert_string_bytes (P:=P) x.w s t et ⟨str.toArray⟩ hs ht het
  have hsz:(⟨str.toArray⟩:ByteArray).size=str.length:=by simp [ByteArray.size]
  rw [hsz] at hrun
  have hge:=grownCap_ge x.w str.length 0 et
  have hcs:(Lib.bytesCells x.w et ⟨str.toArray⟩).size=grownCap x.w str.length 0 et:=by simp [Lib.bytesCells,hsz]; omega
  have hpre:(str.map fun b=>Value.int .u8 b.toNat) <+: (Lib.bytesCells x.w et ⟨str.toArray⟩).toList:=by simp [Lib.bytesCells]
  have hworld:Lib.bytesWorld x.w et ⟨str.toArray⟩=x.w.drew.alloc (.cells (Lib.bytesCells x.w et ⟨str.toArray⟩) et ((Lib.bytesCells x.w et ⟨str.toArray⟩).size,(Lib.bytesCells x.w et ⟨str.toArray⟩).size+1)):=by
   unfold Lib.bytesWorld
   generalize Lib.bytesCells x.w et ⟨str.toArray⟩=cs
   exact freeze_new x.w.drew cs et
  rw [hworld] at hrun
  have hlen:(byteRows str).length=str.length:=by simp [byteRows]
  refine step_slc { x with w:=x.w.drew } (wrel_drew hx) (ext_drew x) rfl (rows:=byteRows str) (sz:=1) (cap:=grownCap x.w str.length 0 et) (l:=str.map fun b=>Value.int .u8 b.toNat) (arr:=Lib.bytesCells x.w et ⟨str.toArray⟩) (ty:=et)
   (fr:=((Lib.bytesCells x.w et ⟨str.toArray⟩).size,(Lib.bytesCells x.w et ⟨str.toArray⟩).size+1)) (fun j hj=>by simp; omega) (by omega) (by omega) (fun r hr=>?_) ?_ hpre ?_ (by rw [hlen]; simp only [Sem.run_bind,hrun,Result.andThen_ok,Sem.run_pure]; rfl) (by rw [hlen]; exact hk1)
  ·simp only [byteRows,List.mem_map] at hr
   obtain ⟨b,_,rfl⟩:=hr
   rfl
  ·rw [byteRows_flat]; exact vsrel_bytes _ _
  ·intro v hv
   obtain ⟨b,_,rfl⟩:=List.mem_map.1 hv
   rfl
 ·exact hk1.elim
end
end Go.Ab
end
section
namespace Go.Ab
section
variable {P:Program} {x:Cx} {e:Env} {a:Act}
theorem fit_val {s:SK} {u:V} {v:Value} (h:s.fit u=true) (hr:VRel x u v):(∃ k n,s=.int k∧u=.t (.int k n)∧v=.int k n)∨(∃ b,s=.bool∧u=.t (.bool b)∧v=.bool b)∨∃ t,s=.str∧u=.t (.str t)∧v=.string ⟨t.toArray⟩:=by
 unfold SK.fit at h
 split at h
 ·simp only [decide_eq_true_eq] at h
  subst h
  exact .inl ⟨_,_,rfl,rfl,by simpa [VRel,TRel] using hr⟩
 ·exact .inr (.inl ⟨_,rfl,rfl,by simpa [VRel,TRel] using hr⟩)
 ·exact .inr (.inr ⟨_,rfl,rfl,by simpa [VRel,TRel] using hr⟩)
 ·cases h
theorem str_beq (s t:List UInt8):((⟨s.toArray⟩:ByteArray) == ⟨t.toArray⟩)=(s == t):=by
 show ((s.toArray:Array UInt8) == t.toArray)=(s == t)
 by_cases h:s=t
 ·subst h; simp
 ·simp [h]
theorem str_beq' (s t:List UInt8):((⟨s.toArray⟩:ByteArray).toList == (⟨t.toArray⟩:ByteArray).toList)=(s == t):=by
 rw [← beq_toListBytes,str_beq]
def SK.desc:SK→TypeDesc
 | .int k=>.int k
 | .bool=>.bool
 | .str=>.string
theorem skOf_under {t:TypeId} {s:SK} (h:skOf P t=some s):P.underlying t=some s.desc:=by
 unfold skOf at h
 split at h <;> first | (obtain rfl:=Option.some.inj h; assumption) | cases h
theorem eq_scalar {t:TypeId} {s:SK} (hs:skOf P t=some s) {u u':V} {v v':Value} (h:s.fit u=true) (h':s.fit u'=true) (hr:VRel x u v) (hr':VRel x u' v') (d:Nat) (w:World) :
  (Op.equalIn (d+1) t v v').run P w=.ok (sEq u u') w:=by
 have hu:=skOf_under hs
 rcases fit_val h hr with ⟨k,n,rfl,rfl,rfl⟩ | ⟨b,rfl,rfl,rfl⟩ | ⟨c,rfl,rfl,rfl⟩
 ·rcases fit_val h' hr' with ⟨k',n',e1,rfl,rfl⟩ | ⟨_,e1,_⟩ | ⟨_,e1,_⟩
  ·cases e1
   exact run_equalIn_int w d t k k n n' hu
  ·cases e1
  ·cases e1
 ·rcases fit_val h' hr' with ⟨k',n',e1,rfl,rfl⟩ | ⟨b',e1,rfl,rfl⟩ | ⟨_,e1,_⟩
  ·cases e1
  ·exact run_equalIn_bool' w d t b b' hu
  ·cases e1
 ·rcases fit_val h' hr' with ⟨k',n',e1,rfl,rfl⟩ | ⟨b',e1,rfl,rfl⟩ | ⟨c',e1,rfl,rfl⟩
  ·cases e1
  ·cases e1
  ·rw [run_equalIn_string w d t _ _ hu,str_beq']; rfl
theorem agg_scalar {t:TypeId} {s:SK} (hs:skOf P t=some s) (w:World):(isAgg t).run P w=.ok false w:=by
 rw [run_isAgg (skOf_under hs)]
 cases s <;> rfl
theorem sks_cons {i : Nat} {f : Field} {fs : List Field} {ks : List SK} (h : sksOf P i (f :: fs) = some ks) : ∃ k ks', ks = k :: ks' ∧ skOf P f.type = some k ∧ sksOf P (i + 1) fs = some ks' ∧ f.offset = i ∧ f.name ≠ "_" := by
 simp only [sksOf] at h
 split at h
 ·split at h
  ·rename_i k ks' h1 h2 h3
   obtain rfl:=Option.some.inj h
   exact ⟨k,ks',rfl,h1,h2,h3.1,by simpa using h3.2⟩
  ·cases h
 ·cases h
theorem fits_cons {k:SK} {ks:List SK} {us:List V} (h:fits (k::ks) us=true):∃ u us',us=u::us'∧k.fit u=true∧fits ks us'=true:=by
 cases us with
 | nil=>simp [fits] at h
 | cons u us=>simp only [fits,Bool.and_eq_true] at h; exact ⟨u,us,rfl,h.1,h.2⟩
theorem fits_nil {us:List V} (h:fits [] us=true):us=[]:=by
 cases us with
 | nil=>rfl
 | cons u us=>simp [fits] at h
theorem run_part_sc {t:TypeId} {s:SK} (hs:skOf P t=some s) {xs:Array Value} {i:Nat} {c:Value} (hc:xs[i]?=some c) (w:World):(part t xs i).run P w=.ok c w:=by
 simp [part,agg_scalar hs,hc]
theorem eq_flat (d:Nat) (w:World) {xs ys:Array Value}:∀ {fs:List Field} {i:Nat} {ks:List SK} {us us':List V} {l l':List Value},sksOf P i fs=some ks→fits ks us=true→fits ks us'=true→VsRel x us l→VsRel x us' l' →
  (∀ j c,l[j]?=some c→xs[i+j]?=some c)→(∀ j c,l'[j]?=some c→ys[i+j]?=some c)→(Op.eqFields (d+1) xs ys fs).run P w=.ok (sEqs us us') w
 | [],i,ks,us,us',l,l',h,h1,h2,_,_,_,_=>by
  simp only [sksOf,Option.some.injEq] at h
  subst h
  obtain rfl:=fits_nil h1
  obtain rfl:=fits_nil h2
  simp [Op.eqFields,sEqs]
 | f::fs,i,ks,us,us',l,l',h,h1,h2,hl,hl',hx,hy=>by
  obtain ⟨k,ks',rfl,e1,e2,e3,e4⟩:=sks_cons h
  obtain ⟨u,us,rfl,f1,g1⟩:=fits_cons h1
  obtain ⟨u',us',rfl,f2,g2⟩:=fits_cons h2
  simp only [VsRel] at hl hl'
  obtain ⟨c,cs,rfl,r1,hl⟩:=hl
  obtain ⟨c',cs',rfl,r2,hl'⟩:=hl'
  have p1:=run_part_sc e1 (hx 0 c rfl) w
  have p2:=run_part_sc e1 (hy 0 c' rfl) w
  simp only [Nat.add_zero] at p1 p2
  have q:=eq_scalar e1 f1 f2 r1 r2 d w
  have ih:=eq_flat d w e2 g1 g2 hl hl' (fun j c hc=>by rw [show i+1+j=i+(j+1) by omega]; exact hx (j+1) c (by simpa using hc)) (fun j c hc=>by rw [show i+1+j=i+(j+1) by omega]; exact hy (j+1) c (by simpa using hc))
  simp only [Op.eqFields,e4,ne_eq,not_false_eq_true,if_true,e3,Sem.run_bind,p1,p2,q,Result.andThen_ok,sEqs]
  cases hq:sEq u u'
  ·simp
  ·simpa using ih
theorem flat_some {t:TypeId} {ks:List SK} (h:flatOf P t=some ks):P.underlying t=some (.struct (P.fieldsOf t))∧P.stoodInHeld t=false∧sksOf P 0 (P.fieldsOf t).toList=some ks:=by
 unfold flatOf at h
 split at h
 ·rename_i fs hu
  split at h
  ·rename_i hst
   refine ⟨?_,hst,?_⟩ <;> simp [Program.fieldsOf,hu,h]
  ·cases h
 ·cases h
theorem eq_struct {t:TypeId} {ks:List SK} (h:flatOf P t=some ks) {us us':List V} {l l':List Value} (h1:fits ks us=true) (h2:fits ks us'=true) (hl:VsRel x us l) (hl':VsRel x us' l') (w:World) :
  (Op.equalIn 10000 t (.agg l.toArray) (.agg l'.toArray)).run P w=.ok (sEqs us us') w:=by
 obtain ⟨e1,e2,e3⟩:=flat_some h
 rw [run_equalIn_struct w 9999 t _ _ e1 e2]
 exact eq_flat 9998 w e3 h1 h2 hl hl' (fun j c hc=>by simpa using hc) (fun j c hc=>by simpa using hc)
theorem step_eqA (hx:WRel x) (he:ERel x e a.tmps) {p q:Operand} {o1 o2:O} (hp:cO p=some o1) (hq:cO q=some o2) {t:TypeId} {ks:List SK} (hks:flatOf P t=some ks) (hg:P.eqGuardType P.depth t=false) {neg:Bool} {ty:TypeId}
  {K:Tok→Option V→Store→Prop} (hk:ev e x.σ K (.eqA neg ks o1 o2)):Step P x (do pure (Next.value (← (do eqGuard (if neg then .neq else .eql) t p q (a.eval p) (a.eval q); binOp (if neg then .neq else .eql) t (a.eval p) (a.eval q))))) K:=by
 obtain ⟨u,hu,hk1⟩:=onV_some hk
 obtain ⟨v,hv,hk2⟩:=onV_some hk1
 have hr:=opv_rel he hp hu
 have hs:=opv_rel he hq hv
 unfold evEqA at hk2
 split at hk2
 ·rename_i as bs
  obtain ⟨f1,f2,hk⟩:=hk2
  simp only [VRel] at hr hs
  obtain ⟨l,e1,hl⟩:=hr
  obtain ⟨l',e2,hl'⟩:=hs
  have hrun:=eq_struct hks f1 f2 hl hl' x.w
  rw [e1,e2]
  refine Step.pure hx (v:=.bool (if neg then !sEqs as bs else sEqs as bs)) ?_ (by simp [VRel,TRel]) hk
  cases neg
  ·simp only [Bool.false_eq_true,if_false,Sem.run_bind,run_eqGuard_agg x.w .eql t p q _ _ hg,Result.andThen_ok,run_eql_struct,hrun,Sem.run_pure]
  ·simp only [if_true,Sem.run_bind,run_eqGuard_agg x.w .neq t p q _ _ hg,Result.andThen_ok,run_neq_struct,hrun,Sem.run_pure]
 ·exact hk2.elim
theorem kd_cases {t:TypeId} {kd:KD} (h:kdOf P t=some kd):(∃ s,kd=.one s∧skOf P t=some s∧s≠.bool)∨∃ ks,kd=.st ks∧flatOf P t=some ks:=by
 unfold kdOf at h
 split at h
 ·rename_i k hu
  obtain rfl:=Option.some.inj h
  exact .inl ⟨_,rfl,by simp [skOf,hu],by simp⟩
 ·rename_i hu
  obtain rfl:=Option.some.inj h
  exact .inl ⟨_,rfl,by simp [skOf,hu],by simp⟩
 ·cases hf:flatOf P t with
  | none=>simp [hf] at h
  | some ks=>simp [hf] at h; exact .inr ⟨ks,h.symm,rfl⟩
 ·cases h
theorem st_ok {ks:List SK} {u:V} (h:(KD.st ks).ok u=true):∃ us,u=.agg us∧fits ks us=true:=by
 cases u <;> simp [KD.ok] at h
 exact ⟨_,rfl,h⟩
theorem run_check {t:TypeId} {kd:KD} (h:kdOf P t=some kd) {u:V} {v:Value} (hu:kd.ok u=true) (hr:VRel x u v) (em:Bool) (w:World):(Instr.checkKey em 10000 t v).run P w=.ok () w:=by
 have sc:∀ {t:TypeId} {s:SK} {u:V} {v:Value} (n:Nat),skOf P t=some s→s.fit u=true→VRel x u v→(Instr.checkKey em (n+1) t v).run P w=.ok () w:=by
  intro t s u v n hs hf hr
  have hut:=skOf_under hs
  rcases fit_val hf hr with ⟨k,n,rfl,rfl,rfl⟩ | ⟨b,rfl,rfl,rfl⟩ | ⟨c,rfl,rfl,rfl⟩ <;> (simp only [SK.desc] at hut; simp [Instr.checkKey,run_underlying hut])
 rcases kd_cases h with ⟨s,rfl,hs,_⟩ | ⟨ks,rfl,hf⟩
 ·exact sc 9999 hs hu hr
 ·obtain ⟨e1,e2,e3⟩:=flat_some hf
  obtain ⟨us,rfl,hu⟩:=st_ok hu
  simp only [VRel] at hr
  obtain ⟨l,rfl,hl⟩:=hr
  rw [show (10000:Nat)=9999+1 from rfl,Instr.checkKey]
  simp only [Sem.run_bind,run_underlying e1,Result.andThen_ok]
  rw [← Array.forIn_toList]
  have key:∀ (fs:List Field) (i:Nat) (ks:List SK) (us:List V) (l':List Value),sksOf P i fs=some ks→fits ks us=true→VsRel x us l'→(∀ j c,l'[j]?=some c→l[i+j]?=some c) →
    (forIn (m := Sem) fs PUnit.unit fun f r => if f.name ≠ "_" then do
     let a ← part f.type l.toArray f.offset
     Instr.checkKey em 9999 f.type a
     pure (ForInStep.yield PUnit.unit)
    else pure (ForInStep.yield PUnit.unit)).run P w=.ok PUnit.unit w:=by
   intro fs
   induction fs with
   | nil=>intro i ks us l' _ _ _ _; simp
   | cons f fs ih =>
    intro i ks us l' h1 h2 h3 h4
    obtain ⟨k,ks',rfl,g1,g2,g3,g4⟩:=sks_cons h1
    obtain ⟨u,us,rfl,f1,f2⟩:=fits_cons h2
    simp only [VsRel] at h3
    obtain ⟨c,cs,rfl,r1,h3⟩:=h3
    have p1:=run_part_sc g1 (xs:=l.toArray) (i:=i) (by simpa using h4 0 c rfl) w
    have p2:=sc 9998 g1 f1 r1
    simp only [List.forIn_cons,Sem.run_bind,g4,ne_eq,not_false_eq_true,if_true,g3,p1,p2,Result.andThen_ok,Sem.run_pure]
    exact ih (i+1) ks' us cs g2 f2 h3 fun j c hc=>by rw [show i+1+j=i+(j+1) by omega]; exact h4 (j+1) c (by simpa using hc)
  refine (congrArg (fun r=>Result.andThen r (fun a w'=>Sem.run P (pure ()) w')) (key _ 0 ks us l e3 hu hl fun j c hc=>by simpa using hc)).trans ?_
  simp
theorem kEq_sc {s:SK} {u u':V} (h:s.fit u=true):kEq u u'=sEq u u':=by
 cases u <;> simp [SK.fit] at h
 cases u' <;> rfl
def at1 (k:V) (es:List ME) (j:Nat) (m:ME):Prop:=es[j]?=some m∧kEq k m.k=true∧findM k es=some m∧∀ v c,putM k v c es=es.set j ⟨k,v,m.b⟩
theorem at1_zero {k:V} {m:ME} {es:List ME} (h:kEq k m.k=true):at1 k (m::es) 0 m:=⟨rfl,h,by simp [findM,h],fun v c=>by simp [putM,h]⟩
theorem at1_succ {k:V} {m m':ME} {es:List ME} {j:Nat} (h:kEq k m'.k=false) (hj:at1 k es j m):at1 k (m'::es) (j+1) m :=
 ⟨by simpa using hj.1,hj.2.1,by simp [findM,h,hj.2.2.1],fun v c=>by simp [putM,h,hj.2.2.2 v c]⟩
def no1 (k:V) (es:List ME):Prop:=findM k es=none∧∀ v c,putM k v c es=es++[⟨k,v,c⟩]
theorem no1_cons {k:V} {m':ME} {es:List ME} (h:kEq k m'.k=false) (hj:no1 k es):no1 k (m'::es) :=
 ⟨by simp [findM,h,hj.1],fun v c=>by simp [putM,h,hj.2 v c]⟩
theorem ask_flat {t:TypeId} {ks:List SK} (hf:flatOf P t=some ks) {u:V} {v:Value} (hu:(KD.st ks).ok u=true) (hr:VRel x u v) (w:World):∀ (es:List ME) (l:List MapEntry) (i:Nat),keysOk (.st ks) es=true→MRel x es l →
  ((Instr.findAsking t v l i).run P w=.ok none w∧no1 u es)∨∃ j m c,(Instr.findAsking t v l i).run P w=.ok (some (i+j,c.val)) w∧l[j]?=some c∧at1 u es j m
 | [],l,i,_,hl=>by
  simp only [MRel] at hl
  subst hl
  exact .inl ⟨by simp [Instr.findAsking],rfl,fun v c=>rfl⟩
 | m::es,l,i,hk,hl=>by
  simp only [MRel] at hl
  obtain ⟨c,cs,rfl,r1,r2,r3,hl⟩:=hl
  simp only [keysOk,List.all_cons,Bool.and_eq_true] at hk
  obtain ⟨us,rfl,f1⟩:=st_ok hu
  obtain ⟨us',e2,f2⟩:=st_ok hk.1
  have hr':=hr
  simp only [VRel] at hr'
  obtain ⟨l1,rfl,hl1⟩:=hr'
  rw [e2] at r1
  simp only [VRel] at r1
  obtain ⟨l2,e3,hl2⟩:=r1
  have hq:=eq_struct hf f1 f2 hl1 hl2 w
  have hq':(Op.equal t (.agg l1.toArray) c.key).run P w=.ok (sEqs us us') w:=by rw [e3]; exact hq
  cases hb:sEqs us us'
  ·rw [hb] at hq'
   have hn:kEq (.agg us) m.k=false:=by rw [e2]; exact hb
   rcases ask_flat hf hu hr w es cs (i+1) hk.2 hl with ⟨h1,h2⟩ | ⟨j,m',c',h1,h2,h3⟩
   ·exact .inl ⟨by simp [Instr.findAsking,hq',h1],no1_cons hn h2⟩
   ·exact .inr ⟨j+1,m',c',by simp [Instr.findAsking,hq',h1,Nat.add_assoc,Nat.add_comm 1 j],by simpa using h2,at1_succ hn h3⟩
  ·rw [hb] at hq'
   exact .inr ⟨0,m,c,by simp [Instr.findAsking,hq'],rfl,at1_zero (by rw [e2]; exact hb)⟩
theorem now_scalar {s:SK} {d:TypeDesc} (hd:d=s.desc) (hs:s≠.bool) {u:V} {v:Value} (hu:s.fit u=true) (hr:VRel x u v):∀ (es:List ME) (l:List MapEntry) (i:Nat),keysOk (.one s) es=true→MRel x es l →
  (Instr.findNow d v l i=some none∧no1 u es)∨∃ j m c,Instr.findNow d v l i=some (some (i+j,c.val))∧l[j]?=some c∧at1 u es j m
 | [],l,i,_,hl=>by
  simp only [MRel] at hl
  subst hl
  exact .inl ⟨by simp [Instr.findNow],rfl,fun v c=>rfl⟩
 | m::es,l,i,hk,hl=>by
  simp only [MRel] at hl
  obtain ⟨c,cs,rfl,r1,r2,r3,hl⟩:=hl
  simp only [keysOk,List.all_cons,Bool.and_eq_true] at hk
  have hk1:s.fit m.k=true:=hk.1
  have hq:Instr.sameNow d v c.key=some (sEq u m.k):=by
   rcases fit_val hu hr with ⟨k,n,rfl,rfl,rfl⟩ | ⟨b,rfl,rfl,rfl⟩ | ⟨t,rfl,rfl,rfl⟩
   ·rcases fit_val hk1 r1 with ⟨k',n',e1,e2,e3⟩ | ⟨_,e1,_⟩ | ⟨_,e1,_⟩
    ·cases e1
     rw [e2,e3,hd]; simp [SK.desc,Instr.sameNow,sEq]
    ·cases e1
    ·cases e1
   ·exact (hs rfl).elim
   ·rcases fit_val hk1 r1 with ⟨k',n',e1,e2,e3⟩ | ⟨_,e1,_⟩ | ⟨t',e1,e2,e3⟩
    ·cases e1
    ·cases e1
    ·rw [e2,e3,hd]; simp [SK.desc,Instr.sameNow,sEq,str_beq]
  cases hb:sEq u m.k
  ·rw [hb] at hq
   have hn:kEq u m.k=false:=by rw [kEq_sc hu]; exact hb
   rcases now_scalar hd hs hu hr es cs (i+1) hk.2 hl with ⟨h1,h2⟩ | ⟨j,m',c',h1,h2,h3⟩
   ·exact .inl ⟨by simp [Instr.findNow,hq,h1],no1_cons hn h2⟩
   ·exact .inr ⟨j+1,m',c',by simp [Instr.findNow,hq,h1,Nat.add_assoc,Nat.add_comm 1 j],by simpa using h2,at1_succ hn h3⟩
  ·rw [hb] at hq
   exact .inr ⟨0,m,c,by simp [Instr.findNow,hq],rfl,at1_zero (by rw [kEq_sc hu]; exact hb)⟩
theorem run_find {t:TypeId} {kd:KD} (h:kdOf P t=some kd) {u:V} {v:Value} (hu:kd.ok u=true) (hr:VRel x u v) (w:World) (es:List ME) (l:List MapEntry) (hk:keysOk kd es=true) (hl:MRel x es l) :
  ((Instr.findKey t v l).run P w=.ok none w∧no1 u es)∨∃ j m c,(Instr.findKey t v l).run P w=.ok (some (j,c.val)) w∧l[j]?=some c∧at1 u es j m:=by
 rcases kd_cases h with ⟨s,rfl,hs,hb⟩ | ⟨ks,rfl,hf⟩
 ·rcases now_scalar (d:=_) rfl hb hu hr es l 0 hk hl with ⟨h1,h2⟩ | ⟨j,m,c,h1,h2,h3⟩
  ·exact .inl ⟨by simp only [Instr.findKey,Sem.run_bind,run_underlying (skOf_under hs),Result.andThen_ok,h1,Sem.run_pure],h2⟩
  ·exact .inr ⟨j,m,c,by simp only [Instr.findKey,Sem.run_bind,run_underlying (skOf_under hs),Result.andThen_ok,h1,Nat.zero_add,Sem.run_pure],h2,h3⟩
 ·have hfk:(Instr.findKey t v l).run P w=(Instr.findAsking t v l).run P w:=by
   have hut:=(flat_some hf).1
   cases l with
   | nil=>simp [Instr.findKey,run_underlying hut,Instr.findNow,Instr.findAsking]
   | cons c cs=>simp [Instr.findKey,run_underlying hut,Instr.findNow,Instr.sameNow]
  rw [hfk]
  rcases ask_flat hf hu hr w es l 0 hk hl with ⟨h1,h2⟩ | ⟨j,m,c,h1,h2,h3⟩
  ·exact .inl ⟨h1,h2⟩
  ·exact .inr ⟨j,m,c,by simpa using h1,h2,h3⟩
theorem MRel.get {x:Cx}:∀ {es:List ME} {l:List MapEntry} {j:Nat} {m:ME} {c:MapEntry},MRel x es l→es[j]?=some m→l[j]?=some c→VRel x m.k c.key∧VRel x m.v c.val∧c.born=m.b
 | [],_,_,_,_,_,h,_=>by simp at h
 | e::es,l,j,m,c,h,h1,h2=>by
  simp only [MRel] at h
  obtain ⟨c',cs,rfl,r1,r2,r3,h⟩:=h
  cases j with
  | zero =>
   simp only [List.getElem?_cons_zero,Option.some.injEq] at h1 h2
   subst h1 h2
   exact ⟨r1,r2,r3⟩
  | succ j=>exact MRel.get h (by simpa using h1) (by simpa using h2)
theorem MRel.len {x:Cx}:∀ {es:List ME} {l:List MapEntry},MRel x es l→es.length=l.length
 | [],_,h=>by simp only [MRel] at h; subst h; rfl
 | e::es,l,h=>by
  simp only [MRel] at h
  obtain ⟨c',cs,rfl,r1,r2,r3,h⟩:=h
  simp [h.len]
theorem MRel.set {x:Cx}:∀ {es:List ME} {l:List MapEntry} {j:Nat} {m:ME} {c:MapEntry},MRel x es l→VRel x m.k c.key→VRel x m.v c.val→c.born=m.b→MRel x (es.set j m) (l.set j c)
 | [],_,_,_,_,h,_,_,_=>by simp only [MRel] at h; subst h; simp [MRel]
 | e::es,l,j,m,c,h,h1,h2,h3=>by
  simp only [MRel] at h
  obtain ⟨c',cs,rfl,r1,r2,r3,h⟩:=h
  cases j with
  | zero=>simp only [List.set_cons_zero,MRel]; exact ⟨c,cs,rfl,h1,h2,h3,h⟩
  | succ j=>simp only [List.set_cons_succ,MRel]; exact ⟨c',_,rfl,r1,r2,r3,h.set h1 h2 h3⟩
theorem MRel.push {x:Cx}:∀ {es:List ME} {l:List MapEntry} {m:ME} {c:MapEntry},MRel x es l→VRel x m.k c.key→VRel x m.v c.val→c.born=m.b→MRel x (es++[m]) (l++[c])
 | [],_,_,_,h,h1,h2,h3=>by
  simp only [MRel] at h
  subst h
  simp only [List.nil_append,MRel]
  exact ⟨_,_,rfl,h1,h2,h3,rfl⟩
 | e::es,l,m,c,h,h1,h2,h3=>by
  simp only [MRel] at h
  obtain ⟨c',cs,rfl,r1,r2,r3,h⟩:=h
  simp only [List.cons_append,MRel]
  exact ⟨_,_,rfl,r1,r2,r3,h.push h1 h2 h3⟩
theorem zeroV_run {t:TypeId} {z:V} (h:zeroV P t=some z) (x:Cx) (w:World):∃ v,(zeroValue t).run P w=.ok v w∧VRel x z v:=by
 unfold zeroV at h
 split at h
 ·rename_i i hi
  split at h
  ·rename_i zv hz
   exact ⟨zv,by simp [zeroValue,run_typeInfo' hi,hz],cV_rel x h⟩
  ·cases h
 ·cases h
theorem onMap_some {o:Option Obj} {K:Tok→Nat→List ME→Prop} (h:onMap o K):∃ c es,o=some (.map c es)∧K .go c es:=by
 unfold onMap at h
 split at h
 ·exact ⟨_,_,rfl,h⟩
 ·exact h.elim
theorem map_obj (hx:WRel x) {id c:Nat} {es:List ME} {v:Value} (ho:x.σ[id]?=some (.map c es)) (hr:VRel x (.map id) v) :
  ∃ b arr,v=.map (some b)∧(x.ρ id).blk=some b∧¬ x.F b∧x.w.heap[b]?=some (.map arr c)∧MRel x es arr.toList:=by
 simp only [VRel] at hr
 obtain ⟨c',es',b,ho',hb,hv⟩:=hr
 obtain ⟨b',arr,h1,h2,h3,h4⟩:=hx.objs id _ ho
 rw [hb] at h1
 obtain rfl:=Option.some.inj h1
 exact ⟨b,arr,hv,hb,h2,h3,h4⟩
theorem run_get {w:World} {b c:Nat} {arr:Array MapEntry} (h:w.heap[b]?=some (.map arr c)):(getObj b).run P w=.ok (.map arr c) w:=by simp [getObj,Sem.run,h]
theorem step_mkMap (hx:WRel x) {t:TypeId} {K:Tok→Option V→Store→Prop} (hk:K .go (some (.map x.σ.length)) (x.σ++[.map 0 []])):Step P x (do pure (Next.value (← Instr.makeMap t none))) K:=by
 have hw:WRel (x.neu (.map 0 []) 0 (.map #[] 0)):=by
  refine wrel_neu hx ⟨x.w.heap.size,#[],by simp [Cx.neu],fun hF=>?_,heap_alloc_new _ _,rfl⟩
  have:=hx.low _ hF
  omega
 refine ⟨.value (.map (some x.w.heap.size)),x.neu (.map 0 []) 0 (.map #[] 0),some (.map x.σ.length),?_,hk,?_,hw,ext_neu hx _ _ _⟩
 ·simp [Instr.makeMap,newObj,Sem.run]; rfl
 ·simp only [NRel,VRel]
  exact ⟨0,[],x.w.heap.size,by simp [Cx.neu],by simp [Cx.neu],rfl⟩
theorem step_look (hx:WRel x) (he:ERel x e a.tmps) {p q:Operand} {o1 o2:O} (hp:cO p=some o1) (hq:cO q=some o2) {t kt et:TypeId} {kd:KD} {z:V} {ok:Bool} (ht:P.underlying t=some (.map kt et)) (hkd:kdOf P kt=some kd) (hz:zeroV P et=some z)
  {K:Tok→Option V→Store→Prop} (hk:ev e x.σ K (.look kd ok z o1 o2)):Step P x (do pure (Next.value (← Instr.lookup t (a.eval p) (a.eval q) ok))) K:=by
 obtain ⟨u,hu,hk1⟩:=onV_some hk
 obtain ⟨v,hv,hk2⟩:=onV_some hk1
 have hr:=opv_rel he hp hu
 have hs:=opv_rel he hq hv
 unfold evLook at hk2
 split at hk2
 ·rename_i id
  obtain ⟨c,es,ho,hk3⟩:=onMap_some hk2
  obtain ⟨k1,k2,hk⟩:=hk3
  obtain ⟨b,arr,e1,hb,hF,hh,hm⟩:=map_obj hx ho hr
  rw [e1]
  obtain ⟨zv,hzv,hzr⟩:=zeroV_run hz x x.w
  have hck:=run_check hkd k1 hs arr.isEmpty x.w
  rcases run_find hkd k1 hs x.w es _ k2 hm with ⟨h1,h2,_⟩ | ⟨j,m,c',h1,h2,h3⟩
  ·rw [h2] at hk
   refine Step.pure hx (v:=if ok then .tuple #[zv,.bool false] else zv) ?_ ?_ hk
   ·simp only [Instr.lookup,Sem.run_bind,run_underlying ht,Result.andThen_ok,run_get hh,Sem.run_pure,hck,h1,hzv]
   ·cases ok
    ·simpa [lookR,valOr] using hzr
    ·simp only [lookR,valOr,if_true,VRel,VsRel,TRel]
     exact ⟨_,rfl,_,_,rfl,hzr,_,_,rfl,rfl,rfl⟩
  ·rw [h3.2.2.1] at hk
   obtain ⟨g1,g2,g3⟩:=hm.get h3.1 h2
   refine Step.pure hx (v:=if ok then .tuple #[c'.val,.bool true] else c'.val) ?_ ?_ hk
   ·simp only [Instr.lookup,Sem.run_bind,run_underlying ht,Result.andThen_ok,run_get hh,Sem.run_pure,hck,h1]
   ·cases ok
    ·simpa [lookR,valOr] using g2
    ·simp only [lookR,valOr,if_true,VRel,VsRel,TRel]
     exact ⟨_,rfl,_,_,rfl,g2,_,_,rfl,rfl,rfl⟩
 ·exact hk2.elim
theorem map_turn (hx:WRel x) {id c b:Nat} {es:List ME} {arr:Array MapEntry} (ho:x.σ[id]?=some (.map c es)) (hb:(x.ρ id).blk=some b) (hF:¬ x.F b) (hh:x.w.heap[b]?=some (.map arr c)) {c':Nat} {es':List ME} {arr':Array MapEntry} (hm:MRel x es' arr'.toList) :
  ∃ w',(setObj b (.map arr' c')).run P x.w=.ok () w'∧WRel (x.put id (x.ρ id) (.map c' es') w')∧Ext x (x.put id (x.ρ id) (.map c' es') w'):=by
 have hb':=(Array.getElem?_eq_some_iff.1 hh).1
 refine ⟨{ x.w with heap:=x.w.heap.setIfInBounds b (.map arr' c') },?_,?_⟩
 ·simp [setObj,Sem.run,hh]
  first | rfl | skip
 ·have hext:=ext_put hx (ob:=.map c' es') (pl:=x.ρ id) (w':={ x.w with heap:=x.w.heap.setIfInBounds b (.map arr' c') }) ho trivial (Nat.le_refl _) (fun _=>rfl) rfl rfl rfl (by simp) (fun k _ hne=>by
   have:b≠k:=fun e=>hne (by rw [← e]; exact hb)
   simp [Array.getElem?_setIfInBounds_ne this])
  refine ⟨wrel_put hx ho trivial (Nat.le_refl _) (fun _=>rfl) rfl rfl rfl (by simp) (fun k _ hne=>by
   have:b≠k:=fun e=>hne (by rw [← e]; exact hb)
   simp [Array.getElem?_setIfInBounds_ne this]) (fun b' hb'=>.inl hb') ?_,hext⟩
  exact ⟨b,arr',by simp [Cx.put,hb],hF,by simp [Cx.put,hb'],MRel.mono hext hm⟩
theorem same_bits_sc {s:SK} {u u':V} {v v':Value} (h:s.fit u=true) (h':s.fit u'=true) (hr:VRel x u v) (hr':VRel x u' v') (hq:sEq u u'=true) (n:Nat):Instr.sameBits (n+1) v' v=true:=by
 rcases fit_val h hr with ⟨k,m,rfl,rfl,rfl⟩ | ⟨b,rfl,rfl,rfl⟩ | ⟨c,rfl,rfl,rfl⟩
 ·rcases fit_val h' hr' with ⟨k',n',e1,rfl,rfl⟩ | ⟨_,e1,_⟩ | ⟨_,e1,_⟩
  ·cases e1
   simp only [sEq,beq_iff_eq] at hq
   subst hq
   simp [Instr.sameBits]
  ·cases e1
  ·cases e1
 ·rcases fit_val h' hr' with ⟨k',n',e1,rfl,rfl⟩ | ⟨b',e1,rfl,rfl⟩ | ⟨_,e1,_⟩
  ·cases e1
  ·simp only [sEq,beq_iff_eq] at hq
   subst hq
   simp [Instr.sameBits]
  ·cases e1
 ·rcases fit_val h' hr' with ⟨k',n',e1,rfl,rfl⟩ | ⟨b',e1,rfl,rfl⟩ | ⟨c',e1,rfl,rfl⟩
  ·cases e1
  ·cases e1
  ·simp only [sEq,beq_iff_eq] at hq
   subst hq
   simp [Instr.sameBits,str_beq]
theorem same_bits_l (n:Nat):∀ {ks:List SK} {us us':List V} {l l':List Value},fits ks us=true→fits ks us'=true→VsRel x us l→VsRel x us' l'→sEqs us us'=true →
  l'.length=l.length∧((l'.zip l).all fun (p:Value × Value)=>Instr.sameBits (n+1) p.1 p.2)=true
 | [],us,us',l,l',h,h',hl,hl',_=>by
  obtain rfl:=fits_nil h
  obtain rfl:=fits_nil h'
  simp only [VsRel] at hl hl'
  subst hl hl'
  simp
 | k::ks,us,us',l,l',h,h',hl,hl',hq=>by
  obtain ⟨u,us,rfl,f1,g1⟩:=fits_cons h
  obtain ⟨u',us',rfl,f2,g2⟩:=fits_cons h'
  simp only [VsRel] at hl hl'
  obtain ⟨c,cs,rfl,r1,hl⟩:=hl
  obtain ⟨c',cs',rfl,r2,hl'⟩:=hl'
  simp only [sEqs,Bool.and_eq_true] at hq
  obtain ⟨i1,i2⟩:=same_bits_l n g1 g2 hl hl' hq.2
  have:=same_bits_sc f1 f2 r1 r2 hq.1 n
  simp only [List.zip_cons_cons,List.all_cons,this,Bool.true_and,List.length_cons]
  exact ⟨by omega,i2⟩
theorem run_stays {t:TypeId} {kd:KD} (h:kdOf P t=some kd) {u u':V} {v v':Value} (hu:kd.ok u=true) (hu':kd.ok u'=true) (hr:VRel x u v) (hr':VRel x u' v') (hq:kEq u u'=true) (w:World):(Instr.keyThatStays v' v).run P w=.ok v w:=by
 have:Instr.sameBits 10000 v' v=true:=by
  rcases kd_cases h with ⟨s,rfl,hs,hb⟩ | ⟨ks,rfl,hf⟩
  ·exact same_bits_sc hu hu' hr hr' (by rw [← kEq_sc hu]; exact hq) 9999
  ·obtain ⟨us,rfl,f1⟩:=st_ok hu
   obtain ⟨us',rfl,f2⟩:=st_ok hu'
   simp only [VRel] at hr hr'
   obtain ⟨l,rfl,hl⟩:=hr
   obtain ⟨l',rfl,hl'⟩:=hr'
   obtain ⟨i1,i2⟩:=same_bits_l (x:=x) 9998 f1 f2 hl hl' hq
   show Instr.sameBits (9999+1) _ _=true
   simp only [Instr.sameBits,Bool.and_eq_true,beq_iff_eq,List.size_toArray]
   exact ⟨i1,i2⟩
 simp [Instr.keyThatStays,this]
theorem modify_set {α:Type} {arr:Array α} {j:Nat} {c:α} (h:arr.toList[j]?=some c) (f:α→α):(arr.modify j f).toList=arr.toList.set j (f c):=by
 have hj:=(List.getElem?_eq_some_iff.1 h).1
 have h':arr[j]?=some c:=by simpa using h
 apply List.ext_getElem?
 intro i
 rw [List.getElem?_set]
 by_cases e:j=i
 ·subst e
  simp [Array.getElem?_modify,h',hj]
  simpa using hj
 ·simp [Array.getElem?_modify,e]
theorem keys_at {kd:KD} {es:List ME} (h:keysOk kd es=true) {j:Nat} {m:ME} (hj:es[j]?=some m):kd.ok m.k=true:=List.all_eq_true.1 h m (List.mem_of_getElem? hj)
theorem step_mapUp (hx:WRel x) (he:ERel x e a.tmps) {p q r:Operand} {o1 o2 o3:O} (hp:cO p=some o1) (hq:cO q=some o2) (hr3:cO r=some o3) {t kt et:TypeId} {kd:KD} (ht:P.underlying t=some (.map kt et)) (hkd:kdOf P kt=some kd)
  {K:Tok→Option V→Store→Prop} (hk:ev e x.σ K (.mapUp kd o1 o2 o3)):Step P x (do Instr.mapUpdate t (a.eval p) (a.eval q) (a.eval r); pure Next.skip) K:=by
 obtain ⟨u,hu,hk1⟩:=onV_some hk
 obtain ⟨v,hv,hk2⟩:=onV_some hk1
 obtain ⟨y,hy,hk3⟩:=onV_some hk2
 have hr:=opv_rel he hp hu
 have hs:=opv_rel he hq hv
 have hyr:=opv_rel he hr3 hy
 obtain ⟨id,rfl⟩:∃ id,u=.map id:=by cases u <;> first | exact ⟨_,rfl⟩ | exact False.elim hk3
 unfold evMapUp at hk3
 ·skip
  obtain ⟨c,es,ho,hk4⟩:=onMap_some hk3
  obtain ⟨k1,k2,hk⟩:=hk4
  obtain ⟨b,arr,e1,hb,hF,hh,hm⟩:=map_obj hx ho hr
  rw [e1]
  have hck:=run_check hkd k1 hs false x.w
  rcases run_find hkd k1 hs x.w es _ k2 hm with ⟨h1,h2,h2'⟩ | ⟨j,m,c',h1,h2,h3⟩
  ·simp only [clkM,h2,Option.isSome_none,Bool.false_eq_true,if_false,h2'] at hk
   obtain ⟨w',g1,g2,g3⟩:=map_turn (P:=P) hx ho hb hF hh (c':=c+1) (es':=es++[⟨v,y,c⟩]) (arr':=arr.push { key:=a.eval q,val:=a.eval r,born:=c }) (by
    rw [Array.toList_push]; exact hm.push hs hyr rfl)
   refine ⟨.skip,_,none,?_,hk,trivial,g2,g3⟩
   simp only [Instr.mapUpdate,Sem.run_bind,run_underlying ht,Result.andThen_ok,run_get hh,hck,h1,g1,Sem.run_pure]
   rfl
  ·simp only [clkM,h3.2.2.1,Option.isSome_some,if_true,h3.2.2.2] at hk
   obtain ⟨n1,n2,n3⟩:=hm.get h3.1 h2
   have hst:=run_stays hkd k1 (keys_at k2 h3.1) hs n1 h3.2.1 x.w
   have hkey:((arr[j]?).map (·.key)).getD (a.eval q)=c'.key:=by
    have:arr[j]?=some c':=by simpa using h2
    simp [this]
   obtain ⟨w',g1,g2,g3⟩:=map_turn (P:=P) hx ho hb hF hh (c':=c) (es':=es.set j ⟨v,y,m.b⟩) (arr':=arr.modify j fun e=>{ e with key:=a.eval q,val:=a.eval r }) (by
    rw [modify_set h2]; exact hm.set hs hyr n3)
   refine ⟨.skip,_,none,?_,hk,trivial,g2,g3⟩
   simp only [Instr.mapUpdate,Sem.run_bind,run_underlying ht,Result.andThen_ok,run_get hh,hck,h1,hkey,hst,g1,Sem.run_pure]
   rfl
theorem step_mapEnt (hx:WRel x) (he:ERel x e a.tmps) {p q:Operand} {o1 o2:O} (hp:cO p=some o1) (hq:cO q=some o2) {t kt et:TypeId} {kd:KD} {z:V} (ht:P.underlying t=some (.map kt et)) (hkd:kdOf P kt=some kd) (hz:zeroV P et=some z)
  {K:Tok→Option V→Store→Prop} (hk:ev e x.σ K (.mapEnt kd z o1 o2)):Step P x (do pure (Next.value (← Instr.mapEntry t (a.eval p) (a.eval q)))) K:=by
 obtain ⟨u,hu,hk1⟩:=onV_some hk
 obtain ⟨v,hv,hk3⟩:=onV_some hk1
 have hr:=opv_rel he hp hu
 have hs:=opv_rel he hq hv
 obtain ⟨id,rfl⟩:∃ id,u=.map id:=by cases u <;> first | exact ⟨_,rfl⟩ | exact False.elim hk3
 unfold evMapEnt at hk3
 ·skip
  obtain ⟨c,es,ho,hk4⟩:=onMap_some hk3
  obtain ⟨k1,k2,hk⟩:=hk4
  obtain ⟨b,arr,e1,hb,hF,hh,hm⟩:=map_obj hx ho hr
  rw [e1]
  obtain ⟨zv,hzv,hzr⟩:=zeroV_run hz x x.w
  have hck:=run_check hkd k1 hs false x.w
  rcases run_find hkd k1 hs x.w es _ k2 hm with ⟨h1,h2,h2'⟩ | ⟨j,m,c',h1,h2,h3⟩
  ·simp only [clkM,h2,Option.isSome_none,Bool.false_eq_true,if_false,h2',valOr,bornOr] at hk
   obtain ⟨w',g1,g2,g3⟩:=map_turn (P:=P) hx ho hb hF hh (c':=c+1) (es':=es++[⟨v,z,c⟩]) (arr':=arr.push { key:=a.eval q,val:=zv,born:=c }) (by
    rw [Array.toList_push]; exact hm.push hs hzr rfl)
   refine ⟨.value (.tuple #[zv,goInt c]),_,_,?_,hk,?_,g2,g3⟩
   ·simp only [Instr.mapEntry,Sem.run_bind,run_underlying ht,Result.andThen_ok,run_get hh,hck,h1,hzv,g1,Sem.run_pure]
    rfl
   ·simp only [NRel,VRel,VsRel,TRel,goInt]
    exact ⟨_,rfl,_,_,rfl,VRel.mono g3 _ _ hzr,_,_,rfl,rfl,rfl⟩
  ·simp only [clkM,h3.2.2.1,Option.isSome_some,if_true,h3.2.2.2,valOr,bornOr] at hk
   obtain ⟨n1,n2,n3⟩:=hm.get h3.1 h2
   have hst:=run_stays hkd k1 (keys_at k2 h3.1) hs n1 h3.2.1 x.w
   have hat:arr[j]?=some c':=by simpa using h2
   have hkey:((arr[j]?).map (·.key)).getD (a.eval q)=c'.key:=by simp [hat]
   have hborn:goInt (((arr[j]?).map fun (x:MapEntry)=>(x.born:Int)).getD 0)=goInt m.b:=by simp [hat,n3]
   obtain ⟨w',g1,g2,g3⟩:=map_turn (P:=P) hx ho hb hF hh (c':=c) (es':=es.set j ⟨v,m.v,m.b⟩) (arr':=arr.modify j fun e=>{ e with key:=a.eval q }) (by
    rw [modify_set h2]; exact hm.set hs n2 n3)
   refine ⟨.value (.tuple #[c'.val,goInt m.b]),_,_,?_,hk,?_,g2,g3⟩
   ·simp only [Instr.mapEntry,Sem.run_bind,run_underlying ht,Result.andThen_ok,run_get hh,hck,h1,hkey,hst,g1,Sem.run_pure]
    rw [hborn]
    rfl
   ·simp only [NRel,VRel,VsRel,TRel,goInt]
    exact ⟨_,rfl,_,_,rfl,VRel.mono g3 _ _ n2,_,_,rfl,rfl,rfl⟩
theorem storeM_at {s:Int} {y:V}:∀ {es es':List ME} {l:List MapEntry},storeM s y es=some es'→MRel x es l→∃ j m c,l.findIdx? (fun e=>(e.born:Int) == s)=some j∧es[j]?=some m∧l[j]?=some c∧es'=es.set j ⟨m.k,y,m.b⟩
 | [],_,_,h,_=>by simp [storeM] at h
 | e::es,es',l,h,hm=>by
  simp only [MRel] at hm
  obtain ⟨c,cs,rfl,r1,r2,r3,hm⟩:=hm
  simp only [storeM] at h
  split at h
  ·rename_i hb
   obtain rfl:=Option.some.inj h
   exact ⟨0,e,c,by simp only [List.findIdx?_cons,r3,hb]; rfl,rfl,rfl,rfl⟩
  ·rename_i hb
   cases hst:storeM s y es with
   | none=>simp [hst] at h
   | some es'' =>
    simp [hst] at h
    subst h
    obtain ⟨j,m,c',h1,h2,h3,rfl⟩:=storeM_at hst hm
    refine ⟨j+1,m,c',?_,by simpa using h2,by simpa using h3,rfl⟩
    rw [List.findIdx?_cons,r3,h1]
    simp [hb]
theorem step_entSt (hx:WRel x) (he:ERel x e a.tmps) {p q r:Operand} {o1 o2 o3:O} (hp:cO p=some o1) (hq:cO q=some o2) (hr3:cO r=some o3) {t:TypeId}
  {K:Tok→Option V→Store→Prop} (hk:ev e x.σ K (.entSt o1 o2 o3)):Step P x (do Instr.entryStore t (a.eval p) (a.eval q) (a.eval r); pure Next.skip) K:=by
 obtain ⟨u,hu,hk1⟩:=onV_some hk
 obtain ⟨v,hv,hk2⟩:=onV_some hk1
 obtain ⟨y,hy,hk3⟩:=onV_some hk2
 have hr:=opv_rel he hp hu
 have hs:=opv_rel he hq hv
 have hyr:=opv_rel he hr3 hy
 obtain ⟨id,rfl⟩:∃ id,u=.map id:=by cases u <;> first | exact ⟨_,rfl⟩ | exact False.elim hk3
 obtain ⟨k,s,rfl⟩:∃ k s,v=.t (.int k s):=by cases v with
  | t c=>cases c <;> first | exact ⟨_,_,rfl⟩ | exact False.elim hk3
  | _=>exact False.elim hk3
 unfold evEntSt at hk3
 ·skip
  obtain ⟨c,es,ho,hk4⟩:=onMap_some hk3
  obtain ⟨es',hes,hk⟩:=onRow_some hk4
  obtain ⟨b,arr,e1,hb,hF,hh,hm⟩:=map_obj hx ho hr
  have e2:a.eval q=.int k s:=by simpa [VRel,TRel] using hs
  rw [e1,e2]
  obtain ⟨j,m,c',h1,h2,h3,rfl⟩:=storeM_at hes hm
  obtain ⟨n1,n2,n3⟩:=hm.get h2 h3
  have hidx:arr.findIdx? (fun e=>(e.born:Int) == s)=some j:=by
   rw [← h1]
   cases arr with
   | mk l=>simp
  obtain ⟨w',g1,g2,g3⟩:=map_turn (P:=P) hx ho hb hF hh (c':=c) (es':=es.set j ⟨m.k,y,m.b⟩) (arr':=arr.modify j fun e=>{ e with val:=a.eval r }) (by
   rw [modify_set h3]; exact hm.set n1 hyr n3)
  refine ⟨.skip,_,none,?_,hk,trivial,g2,g3⟩
  simp only [Instr.entryStore,Sem.run_bind,Result.andThen_ok,run_get hh,asInt,asIntOf,Sem.run_pure,hidx,g1]
  rfl
theorem step_lenM (hx:WRel x) (he:ERel x e a.tmps) {p:Operand} {o:O} (hp:cO p=some o) {t ty kt et:TypeId} (ht:P.underlying t=some (.map kt et))
  {K:Tok→Option V→Store→Prop} (hk:ev e x.σ K (.lenM o)):Step P x (do pure (Next.value (← Builtin.len_ #[t] ty #[a.eval p]))) K:=by
 obtain ⟨u,hu,hk1⟩:=onV_some hk
 have hr:=opv_rel he hp hu
 unfold evLenM at hk1
 split at hk1
 ·rename_i id
  obtain ⟨c,es,ho,hk⟩:=onMap_some hk1
  obtain ⟨b,arr,e1,hb,hF,hh,hm⟩:=map_obj hx ho hr
  rw [e1]
  have hl:=hm.len
  refine Step.pure hx (v:=goInt arr.size) ?_ ?_ hk
  ·simp [Builtin.len_,run_underlying ht,run_get hh]
  ·simp only [goInt,VRel,TRel]
   rw [hl]
   simp
 ·exact hk1.elim
theorem step_iface (hx:WRel x) (he:ERel x e a.tmps) {p:Operand} {o:O} (hp:cO p=some o) {t:TypeId} {d:TypeDesc} (ht:P.underlying t=some d) (hd:∀ m,d≠.interface m)
  {K:Tok→Option V→Store→Prop} (hk:ev e x.σ K (.iface t o)):Step P x (do pure (Next.value (← Instr.makeInterface t (a.eval p)))) K:=by
 obtain ⟨u,hu,hk1⟩:=onV_some hk
 have hr:=opv_rel he hp hu
 refine Step.pure hx (v:=.iface t (a.eval p)) ?_ ?_ hk1
 ·simp only [Instr.makeInterface,Sem.run_bind,run_underlying ht,Result.andThen_ok]
  cases d <;> first | (exact (hd _ rfl).elim) | simp
 ·simp only [VRel]; exact ⟨_,rfl,hr⟩
theorem onVs_some {o:Option (List V)} {K:Tok→List V→Prop} (h:onVs o K):∃ us,o=some us∧K .go us:=by
 cases o with
 | none=>exact h.elim
 | some us=>exact ⟨us,rfl,h⟩
theorem step_fn (hx:WRel x) (he:ERel x e a.tmps) {f:FuncId} {caps:Array Operand} {os:List O} (hc:cOs caps.toList=some os)
  {K:Tok→Option V→Store→Prop} (hk:ev e x.σ K (.fn f os)):Step P x (do pure (Next.value (← Instr.makeFunc (.func f) #[] (caps.map a.eval)))) K:=by
 obtain ⟨us,hu,hk1⟩:=onVs_some hk
 have hr:=opvs_rel he hc hu
 refine Step.pure hx (v:=.func (.func f) #[] (caps.map a.eval)) ?_ ?_ hk1
 ·simp [Instr.makeFunc]
 ·simp only [VRel]
  refine ⟨caps.toList.map a.eval,?_,hr⟩
  congr 1
  apply Array.ext'
  simp
theorem step_fnb (hx:WRel x) (he:ERel x e a.tmps) {f:FuncId} {first:Array Operand} {os:List O} (hc:cOs first.toList=some os)
  {K:Tok→Option V→Store→Prop} (hk:ev e x.σ K (.fnb f os)):Step P x (do pure (Next.value (← Instr.makeFunc (.func f) (first.map a.eval) #[]))) K:=by
 obtain ⟨us,hu,hk1⟩:=onVs_some hk
 have hr:=opvs_rel he hc hu
 refine Step.pure hx (v:=.func (.func f) (first.map a.eval) #[]) ?_ ?_ hk1
 ·simp [Instr.makeFunc]
 ·simp only [VRel]
  refine ⟨first.toList.map a.eval,?_,hr⟩
  congr 1
  apply Array.ext'
  simp
theorem step_mm (hx:WRel x) (he:ERel x e a.tmps) {p q:Operand} {o1 o2:O} (hp:cO p=some o1) (hq:cO q=some o2) {mx:Bool} {ts:Array TypeId} {ty:TypeId}
  {K:Tok→Option V→Store→Prop} (hk:ev e x.σ K (.mm mx o1 o2)):Step P x (do pure (Next.value (← if mx then Builtin.max_ ts ty #[a.eval p,a.eval q] else Builtin.min_ ts ty #[a.eval p,a.eval q]))) K:=by
 obtain ⟨u,hu,hk1⟩:=onV_some hk
 obtain ⟨v,hv,hk2⟩:=onV_some hk1
 have hr:=opv_rel he hp hu
 have hs:=opv_rel he hq hv
 unfold evMM at hk2
 split at hk2
 ·rename_i k n k' m
  have e1:a.eval p=.int k n:=by simpa [VRel,TRel] using hr
  have e2:a.eval q=.int k' m:=by simpa [VRel,TRel] using hs
  rw [e1,e2]
  refine Step.pure hx (v:=.int k (if mx then (if m > n then m else n) else (if m<n then m else n))) ?_ (by simp [VRel,TRel]) hk2
  cases mx <;> simp [Builtin.max_,Builtin.min_,Builtin.max2,Builtin.min2]
 ·exact hk2.elim
theorem copy_flat {sz:Nat} {rows rs:List (List V)} {l m:List Value} (h1:∀ r∈rows,r.length=sz) (h2:VsRel x rows.flatten l) (h3:∀ r∈rs,r.length=sz) (h4:VsRel x rs.flatten m) (off n:Nat) (hn:n≤rs.length) :
  VsRel x (rows.take off++rs.take n++rows.drop (off+n)).flatten (l.take (off * sz)++m.take (n * sz)++l.drop (off * sz+(m.take (n * sz)).length)):=by
 have hm:=flat_len' h3 h4
 have hlen:(m.take (n * sz)).length=n * sz:=by
  rw [List.length_take,hm]
  exact Nat.min_eq_left (Nat.mul_le_mul_right _ hn)
 rw [hlen,← Nat.add_mul,List.flatten_append,List.flatten_append,flat_take off h1,flat_take n h3,flat_drop (off+n) h1]
 exact ((h2.take _).app (h4.take _)).app (h2.drop _)
theorem step_copy (hx:WRel x) (he:ERel x e a.tmps) {p q:Operand} {o1 o2:O} (hp:cO p=some o1) (hq:cO q=some o2) {t t' ty et et':TypeId} {i:TypeInfo} (ht:P.underlying t=some (.slice et)) (hti:P.info? et=some i) (hpos:0<i.size)
  {K:Tok→Option V→Store→Prop} (hk:ev e x.σ K (.copy i.size o1 o2)):Step P x (do pure (Next.value (← Builtin.copy_ #[t,t'] ty #[a.eval p,a.eval q]))) K:=by
 obtain ⟨u,hu,hk1⟩:=onV_some hk
 obtain ⟨v,hv,hk2⟩:=onV_some hk1
 obtain ⟨rs,hrs,hk3⟩:=onRow_some hk2
 have hr:=opv_rel he hp hu
 have hs:=opv_rel he hq hv
 obtain ⟨ad,c,hqv,hrel⟩:=rowsOf_rel hx hrs hs
 have hv':v≠v→False:=fun h=>h rfl
 unfold evCopy at hk3
 split at hk3
 ·rename_i id g off len
  obtain ⟨s',rows,ho,hk4⟩:=onSlc_some hk3
  obtain ⟨rfl,rfl,hn,hk⟩:=hk4
  simp only [VRel] at hr
  obtain ⟨ob,ho',_,ad',c',hpv,hc',hr⟩:=hr
  rw [ho] at ho'
  obtain rfl:=Option.some.inj ho'
  obtain ⟨q1,q2,q3⟩:=hr rfl
  have hn1:min rs.length len≤rs.length:=Nat.min_le_left _ _
  have hn2:min rs.length len≤len:=Nat.min_le_right _ _
  rcases q2 with q2 | ⟨b',hb',rfl⟩
  ·omega
  obtain ⟨_,h1'⟩ | ⟨b,arr,tty,fr,l,g1,g2,g3,g4,g5,g6,g7,g8,g9⟩:=hx.objs id _ ho
  ·rw [h1'] at hb'; cases hb'
  rw [g1] at hb'
  obtain rfl:=Option.some.inj hb'
  rcases hrel with h | ⟨b2,off2,m,rfl,m1,m2,m3,m4⟩
  ·subst h; simp at hn
  have hml:=flat_len' m1 m2
  have hll:=flat_len' g7 g8
  obtain ⟨⟨rest,hrest⟩,g10⟩:=g9
  have hmt:(m.take (min rs.length len * i.size)).length=min rs.length len * i.size:=by
   rw [List.length_take,hml]
   exact Nat.min_eq_left (Nat.mul_le_mul_right _ hn1)
  have hload:=loadCells_run (P:=P) (w:=x.w) (b:=b2) (off:=off2) (l:=m.take (min rs.length len * i.size)) (fun j v hj=>by
   rw [List.getElem?_take] at hj
   split at hj
   ·exact m3 j v hj
   ·cases hj)
  rw [hmt] at hload
  have hle:off * i.size+min rs.length len * i.size≤rows.length * i.size:=by
   rw [← Nat.add_mul]; exact Nat.mul_le_mul_right _ (by omega)
  have hal:arr.toList.length=l.length+rest.length:=by rw [← hrest]; simp
  have hsz:rows.length * i.size≤arr.size:=by simp at hal; omega
  obtain ⟨w',arr',hrun,hh,hl,hsize,k1,k2,k3,hkk⟩:=storeCells_run (P:=P) (vs:=m.take (min rs.length len * i.size)) (off:=off * i.size) (i:=0) g3 g4 (by rw [hmt]; omega) (fun v hv=>m4 v (List.mem_of_mem_take hv))
  have hnew:(rows.take off++rs.take (min rs.length len)++rows.drop (off+min rs.length len)).length=rows.length:=by
   simp only [List.length_append,List.length_take,List.length_drop]
   omega
  have hlike:Obj.like (.slc i.size rows) (.slc i.size (rows.take off++rs.take (min rs.length len)++rows.drop (off+min rs.length len))):=rfl
  have hgen:Obj.gen (.slc i.size rows)=Obj.gen (.slc i.size (rows.take off++rs.take (min rs.length len)++rows.drop (off+min rs.length len))):=by simp only [Obj.gen,hnew]
  have hext:=ext_put hx (pl:=x.ρ id) (w':=w') ho hlike (Nat.le_of_eq hgen) (fun _=>rfl) k1 k2 k3 (by omega) (fun k _ hne=>hkk k (fun e=>hne (e ▸ g1)))
  have hsame:arr'.size=arr.size:=by
   have:=congrArg List.length hl
   simp only [List.length_append,List.length_take,List.length_drop,Array.length_toList,hml] at this
   rw [Nat.min_eq_left (Nat.mul_le_mul_right _ hn1)] at this
   omega
  refine ⟨.value (.int .i64 ((min rs.length len:Nat):Int)),x.put id (x.ρ id) (.slc i.size (rows.take off++rs.take (min rs.length len)++rows.drop (off+min rs.length len))) w',some (.t (.int .i64 ((min rs.length len:Nat):Int))),?_,hk,by simp [NRel,VRel,TRel],?_,hext⟩
  ·have hmin:Nat.min rs.length len=min rs.length len:=rfl
   rw [hpv,hqv]
   simp only [Builtin.copy_,Sem.run_bind,Sem.run_pure,Result.andThen_ok,run_underlying ht,Builtin.lenOf,run_sizeOf' hti,Builtin.firstCells,hmin,hload]
   first | (simp [run_underlying ht,Builtin.lenOf,run_sizeOf' hti,Builtin.firstCells,hmin,hload,hrun,goInt]; done) | (simp [run_underlying ht,Builtin.lenOf,run_sizeOf' hti,Builtin.firstCells,hmin,hload,hrun,goInt]; rfl)
  ·refine wrel_put hx ho hlike (Nat.le_of_eq hgen) (fun _=>rfl) k1 k2 k3 (by omega) (fun k _ hne=>hkk k (fun e=>hne (e ▸ g1))) (fun b' hb'=>.inl hb') ?_
   refine .inr ⟨b,arr',tty,fr,l.take (off * i.size)++m.take (min rs.length len * i.size)++l.drop (off * i.size+(m.take (min rs.length len * i.size)).length),by simp [Cx.put,g1],g2,hh,by rw [hsame]; exact g4,by rw [hnew]; simp [Cx.put]; exact g5,by rw [hsame]; simp [Cx.put]; exact g6,?_,?_,?_,?_⟩
   ·intro r' hr'
    simp only [List.mem_append] at hr'
    rcases hr' with (h | h) | h
    ·exact g7 r' (List.mem_of_mem_take h)
    ·exact m1 r' (List.mem_of_mem_take h)
    ·exact g7 r' (List.mem_of_mem_drop h)
   ·exact VsRel.mono hext _ _ (copy_flat g7 g8 m1 m2 off _ hn1)
   ·refine ⟨rest,?_⟩
    rw [hl,← hrest,hmt,List.take_append_of_le_length (by rw [hll]; omega),List.drop_append_of_le_length (by rw [hll]; omega)]
    simp
   ·intro v hv
    simp only [List.mem_append] at hv
    rcases hv with (hv | hv) | hv
    ·exact g10 v (List.mem_of_mem_take hv)
    ·exact m4 v (List.mem_of_mem_take hv)
    ·exact g10 v (List.mem_of_mem_drop hv)
 ·exact hk3.elim
theorem step_clr (hx:WRel x) (he:ERel x e a.tmps) {p:Operand} {o1:O} (hp:cO p=some o1) {t ty et:TypeId} {i:TypeInfo} {z:List V} (ht:P.underlying t=some (.slice et)) (hti:P.info? et=some i) (hz:zeroOf i=some z)
  {K:Tok→Option V→Store→Prop} (hk:ev e x.σ K (.clr i.size z o1)):Step P x (do pure (Next.value (← Builtin.clear_ #[t] ty #[a.eval p]))) K:=by
 obtain ⟨u,hu,hk1⟩:=onV_some hk
 have hr:=opv_rel he hp hu
 obtain ⟨zv,hzv,hc,hlen,hpos,_⟩:=zeroOf_some hz
 have hzl:=cVs_len hc
 have hzs:zv.cells.size=i.size:=by simp at hzl; omega
 have hzr:=cVs_rel x hc
 unfold evClr at hk1
 split at hk1
 ·simp only [VRel] at hr
  refine Step.pure hx (v:=.tuple #[]) ?_ (by simp [VRel,VsRel]) hk1
  rw [hr]
  simp [Builtin.clear_,run_underlying ht]
 ·obtain ⟨rfl,hk⟩:=hk1
  simp only [VRel,List.length_nil] at hr
  obtain ⟨ba,hpv,_⟩:=hr
  refine Step.pure hx (v:=.tuple #[]) ?_ (by simp [VRel,VsRel]) hk
  rw [hpv]
  cases ba <;> simp [Builtin.clear_,run_underlying ht]
 ·rename_i id g off len
  obtain ⟨s',rows,ho,rfl,rfl,hn,hk⟩:=onSlc_some hk1
  simp only [VRel] at hr
  obtain ⟨ob,ho',_,ad',c',hpv,hc',hr⟩:=hr
  rw [ho] at ho'
  obtain rfl:=Option.some.inj ho'
  obtain ⟨q1,q2,q3⟩:=hr rfl
  rcases Nat.eq_zero_or_pos len with hl0 | hl0
  ·subst hl0
   have hsame:x.σ.set id (.slc i.size (rows.take off++List.replicate 0 z++rows.drop (off+0)))=x.σ:=by
    simp only [List.replicate_zero,List.append_nil,Nat.add_zero,List.take_append_drop]
    apply List.ext_getElem?
    intro j
    by_cases hj:j=id
    ·subst hj
     rw [List.getElem?_set_self (List.getElem?_eq_some_iff.1 ho).1,ho]
    ·rw [List.getElem?_set_ne (fun e=>hj e.symm)]
   rw [hsame] at hk
   refine Step.pure hx (v:=.tuple #[]) ?_ (by simp [VRel,VsRel]) hk
   rw [hpv]
   cases ad' <;> simp [Builtin.clear_,run_underlying ht]
  rcases q2 with q2 | ⟨b',hb',rfl⟩
  ·omega
  obtain ⟨_,h1'⟩ | ⟨b,arr,tty,fr,l,g1,g2,g3,g4,g5,g6,g7,g8,g9⟩:=hx.objs id _ ho
  ·rw [h1'] at hb'; cases hb'
  rw [g1] at hb'
  obtain rfl:=Option.some.inj hb'
  obtain ⟨rs,hrs⟩:∃ rs,rs=List.replicate len z:=⟨_,rfl⟩
  obtain ⟨m,hm⟩:∃ m,m=(List.replicate len zv.cells.toList).flatten:=⟨_,rfl⟩
  rw [← hrs] at hk
  have hrl:rs.length=len:=by rw [hrs]; simp
  have m1:∀ r∈rs,r.length=i.size:=fun r hr'=>by rw [hrs] at hr'; rw [List.eq_of_mem_replicate hr']; exact hlen
  have m2:VsRel x rs.flatten m:=by rw [hrs,hm]; exact vsrel_rep hzr len
  have m4:∀ v∈m,v.oneCell'=true:=one_flat m2 fun r hr'=>by rw [hrs] at hr'; rw [List.eq_of_mem_replicate hr']; exact cVs_one hc
  have hml:=flat_len' m1 m2
  have hll:=flat_len' g7 g8
  rw [hrl] at hml
  obtain ⟨⟨rest,hrest⟩,g10⟩:=g9
  have hzc:(Builtin.zeroCells zv.cells len).toList=m:=by
   have:=range_flat zv.cells.toList len
   rw [hm]
   simpa [Builtin.zeroCells] using this
  have hle:off * i.size+len * i.size≤rows.length * i.size:=by
   rw [← Nat.add_mul]; exact Nat.mul_le_mul_right _ (by omega)
  have hal:arr.toList.length=l.length+rest.length:=by rw [← hrest]; simp
  have hsz:rows.length * i.size≤arr.size:=by simp at hal; omega
  obtain ⟨w',arr',hrun,hh,hl,hsize,k1,k2,k3,hkk⟩:=storeCells_run (P:=P) (vs:=m) (off:=off * i.size) (i:=0) g3 g4 (by rw [hml]; omega) m4
  have hnew:(rows.take off++rs++rows.drop (off+len)).length=rows.length:=by
   simp only [List.length_append,List.length_take,List.length_drop]
   omega
  have hlike:Obj.like (.slc i.size rows) (.slc i.size (rows.take off++rs++rows.drop (off+len))):=rfl
  have hgen:Obj.gen (.slc i.size rows)=Obj.gen (.slc i.size (rows.take off++rs++rows.drop (off+len))):=by simp only [Obj.gen,hnew]
  have hext:=ext_put hx (pl:=x.ρ id) (w':=w') ho hlike (Nat.le_of_eq hgen) (fun _=>rfl) k1 k2 k3 (by omega) (fun k _ hne=>hkk k (fun e=>hne (e ▸ g1)))
  have hsame:arr'.size=arr.size:=by
   have:=congrArg List.length hl
   simp only [List.length_append,List.length_take,List.length_drop,Array.length_toList,hml] at this
   omega
  refine ⟨.value (.tuple #[]),x.put id (x.ρ id) (.slc i.size (rows.take off++rs++rows.drop (off+len))) w',some (.tup []),?_,hk,by simp [NRel,VRel,VsRel],?_,hext⟩
  ·rw [hpv]
   simp only [Builtin.clear_,Sem.run_bind,Sem.run_pure,Result.andThen_ok,run_underlying ht]
   cases len with
   | zero=>omega
   | succ n =>
    first | (simp [run_underlying ht,zeroValue,run_typeInfo' hti,hzv,hzc,hrun]; done) | (simp [run_underlying ht,zeroValue,run_typeInfo' hti,hzv,hzc,hrun]; rfl)
  ·refine wrel_put hx ho hlike (Nat.le_of_eq hgen) (fun _=>rfl) k1 k2 k3 (by omega) (fun k _ hne=>hkk k (fun e=>hne (e ▸ g1))) (fun b' hb'=>.inl hb') ?_
   refine .inr ⟨b,arr',tty,fr,l.take (off * i.size)++m++l.drop (off * i.size+m.length),by simp [Cx.put,g1],g2,hh,by rw [hsame]; exact g4,by rw [hnew]; simp [Cx.put]; exact g5,by rw [hsame]; simp [Cx.put]; exact g6,?_,?_,?_,?_⟩
   ·intro r' hr'
    simp only [List.mem_append] at hr'
    rcases hr' with (h | h) | h
    ·exact g7 r' (List.mem_of_mem_take h)
    ·exact m1 r' h
    ·exact g7 r' (List.mem_of_mem_drop h)
   ·have hcf:=copy_flat g7 g8 m1 m2 off len (by omega)
    rw [List.take_of_length_le (Nat.le_of_eq hrl),List.take_of_length_le (Nat.le_of_eq hml)] at hcf
    exact VsRel.mono hext _ _ hcf
   ·refine ⟨rest,?_⟩
    rw [hl,← hrest,hml,List.take_append_of_le_length (by rw [hll]; omega),List.drop_append_of_le_length (by rw [hll]; omega)]
    simp
   ·intro v hv
    simp only [List.mem_append] at hv
    rcases hv with (hv | hv) | hv
    ·exact g10 v (List.mem_of_mem_take hv)
    ·exact m4 v hv
    ·exact g10 v (List.mem_of_mem_drop hv)
 ·exact hk1.elim
end
end Go.Ab
end
section
namespace Go.Ab
section
variable {P:Program} {x:Cx} {e:Env} {a:Act}
theorem map_some {α β:Type} {f:α→β} {o:Option α} {b:β} (h:o.map f=some b):∃ a,o=some a∧f a=b:=by
 cases o with
 | none=>cases h
 | some a=>exact ⟨a,rfl,by simpa using h⟩
theorem step_strStr (hx:WRel x) (he:ERel x e a.tmps) {p:Operand} {o:O} (hp:cO p=some o) {s t:TypeId} (hs:P.underlying s=some .string) (ht:P.underlying t=some .string)
  {K:Tok→Option V→Store→Prop} (hk:ev e x.σ K (.convStr o)):Step P x (do pure (Next.value (← convert s t (a.eval p)))) K:=by
 obtain ⟨u,hu,hk1⟩:=onV_some hk
 have hr:=opv_rel he hp hu
 unfold evConvStr at hk1
 split at hk1
 ·rename_i str
  rw [rel_str hr]
  exact Step.pure hx (v:=.string ⟨str.toArray⟩) (by simp [convert,run_underlying hs,run_underlying ht]) (mk_str _) hk1
 ·exact hk1.elim
theorem cI_sound (hx:WRel x) (he:ERel x e a.tmps) {o:Oper} {i:I} (hc:cI P o.op=some i) (hi:∀ f as,i≠.call f as) {K:Tok→Option V→Store→Prop} (hk:ev e x.σ K i):Step P x (execOp a.eval o) K:=by
 cases hop:o.op with
 | move p =>
  rw [hop] at hc; obtain ⟨o',h1,rfl⟩:=map_some hc
  exact step_mv hx he h1 hk (by simp [execOp,hop])
 | assign p =>
  rw [hop] at hc; obtain ⟨o',h1,rfl⟩:=map_some hc
  exact step_mv hx he h1 hk (by simp [execOp,hop])
 | pick c p q =>
  rw [hop] at hc; simp only [cI] at hc
  split at hc
  ·rename_i oc o1 o2 h0 h1 h2
   obtain rfl:=Option.some.inj hc
   have:=step_pick hx he h0 h1 h2 hk (P:=P)
   simpa [execOp,hop] using this
  ·cases hc
 | alloc t =>
  rw [hop] at hc; simp only [cI] at hc
  split at hc
  ·rename_i i' hi'
   split at hc
   ·rename_i z hz
    split at hc
    ·rename_i cs h1
     split at hc
     ·rename_i et hb
      obtain rfl:=Option.some.inj hc
      have h1':cVs z.cells.toList=some [.nilp,.nils]:=by
       rw [h1]; congr 1
       unfold bldOf at hb
       split at hb
       ·rfl
       ·cases hb
      have:=step_newB hx hi' hz h1' hk
      simpa [execOp,hop] using this
     ·obtain rfl:=Option.some.inj hc
      have:=step_new hx hi' hz h1 hk
      simpa [execOp,hop] using this
    ·cases hc
   ·cases hc
  ·cases hc
 | box t p =>
  rw [hop] at hc; obtain ⟨o',h1,rfl⟩:=map_some hc
  have:=step_boxOp hx he h1 hk (P:=P) (t:=t)
  simpa [execOp,hop] using this
 | load t p =>
  rw [hop] at hc; simp only [cI] at hc
  split at hc
  ·rename_i n o' h0 h1
   obtain rfl:=Option.some.inj hc
   have:=step_load hx he h1 h0 hk
   simpa [execOp,hop] using this
  ·cases hc
 | store t p q =>
  rw [hop] at hc; simp only [cI] at hc
  split at hc
  ·rename_i i' o1 o2 h0 h1 h2
   obtain rfl:=Option.some.inj hc
   have:=step_store hx he h1 h2 h0 hk
   simpa [execOp,hop] using this
  ·cases hc
 | nilCheck p =>
  rw [hop] at hc; obtain ⟨o',h1,rfl⟩:=map_some hc
  exact step_nilCheck hx he h1 hk o hop
 | binOp op t p q ty =>
  rw [hop] at hc; simp only [cI] at hc
  have fin:∀ {o1 o2:O} {i':I},i'=i→(∀ u v,opv e o1=some u→opv e o2=some v→VRel x u (a.eval p)→VRel x v (a.eval q)→ev e x.σ K i'→∃ r z,(do eqGuard op t p q (a.eval p) (a.eval q); binOp op t (a.eval p) (a.eval q):Sem Value).run P x.w=.ok r x.w∧VRel x z r∧K .go (some z) x.σ) →
    cO p=some o1→cO q=some o2→(∃ u,opv e o1=some u)→(∃ v,opv e o2=some v)→Step P x (execOp a.eval o) K:=by
   rintro o1 o2 i' rfl h h1 h2 ⟨u,hu⟩ ⟨v,hv⟩
   obtain ⟨r,z,hrun,hrel,hkk⟩:=h u v hu hv (opv_rel he h1 hu) (opv_rel he h2 hv) hk
   refine Step.pure hx (v:=r) ?_ hrel hkk
   have hrun':=hrun
   simp only [execOp,hop]
   rw [Sem.run_bind,hrun']
   rfl
  split at hc
  ·rename_i o1 o2 h1 h2
   have open2:∀ {Q:Tok→V→V→Prop},(onV (opv e o1) fun t u=>onV (opv e o2) fun _ v=>Q t u v)→∃ u v,opv e o1=some u∧opv e o2=some v∧Q .go u v:=by
    intro Q hq
    obtain ⟨u,hu,hq⟩:=onV_some hq
    obtain ⟨v,hv,hq⟩:=onV_some hq
    exact ⟨u,v,hu,hv,hq⟩
   split at hc
   case h_1 | h_2 =>
    obtain rfl:=Option.some.inj hc
    obtain ⟨u,v,hu,hv,hk'⟩:=open2 hk
    exact fin rfl (fun u' v' hu' hv' hp hq _=>by
     rw [hu] at hu'; rw [hv] at hv'; obtain rfl:=Option.some.inj hu'; obtain rfl:=Option.some.inj hv'
     exact evBin_sound hp hq hk' t p q) h1 h2 ⟨u,hu⟩ ⟨v,hv⟩
   case h_3 | h_4 =>
    rename_i ht
    obtain rfl:=Option.some.inj hc
    obtain ⟨u,v,hu,hv,hk'⟩:=open2 hk
    exact fin rfl (fun u' v' hu' hv' hp hq _=>by
     rw [hu] at hu'; rw [hv] at hv'; obtain rfl:=Option.some.inj hu'; obtain rfl:=Option.some.inj hv'
     unfold evEqB at hk'
     split at hk'
     ·first | exact evB_sound (K:=fun _ u=>K .go (some u) x.σ) (neg:=false) hp hq hk' ht p q | exact evB_sound (K:=fun _ u=>K .go (some u) x.σ) (neg:=true) hp hq hk' ht p q
     ·exact hk'.elim) h1 h2 ⟨u,hu⟩ ⟨v,hv⟩
   case h_5 | h_6 =>
    rename_i ht
    obtain rfl:=Option.some.inj hc
    obtain ⟨u,v,hu,hv,hk'⟩:=open2 hk
    exact fin rfl (fun u' v' hu' hv' hp hq _=>by
     rw [hu] at hu'; rw [hv] at hv'; obtain rfl:=Option.some.inj hu'; obtain rfl:=Option.some.inj hv'
     first | exact evNilP_sound (neg:=false) hp hq hk' ht p q | exact evNilP_sound (neg:=true) hp hq hk' ht p q) h1 h2 ⟨u,hu⟩ ⟨v,hv⟩
   case h_7 | h_8 =>
    rename_i ht
    obtain rfl:=Option.some.inj hc
    obtain ⟨u,v,hu,hv,hk'⟩:=open2 hk
    exact fin rfl (fun u' v' hu' hv' hp hq _=>by
     rw [hu] at hu'; rw [hv] at hv'; obtain rfl:=Option.some.inj hu'; obtain rfl:=Option.some.inj hv'
     first | exact evNilS_sound (neg:=false) hp hq hk' ht p q | exact evNilS_sound (neg:=true) hp hq hk' ht p q) h1 h2 ⟨u,hu⟩ ⟨v,hv⟩
   case h_9 | h_10 =>
    rename_i ht
    split at hc
    ·rename_i hm
     obtain rfl:=Option.some.inj hc
     have hq0:∀ {y:Operand},isNilO y=true→y=.const .nilIface:=by
      intro y hy
      unfold isNilO at hy
      split at hy
      ·rfl
      ·cases hy
     obtain rfl:=hq0 hm
     obtain ⟨u,v,hu,hv,hk'⟩:=open2 hk
     exact fin rfl (fun u' v' hu' hv' hp hq _=>by
      rw [hu] at hu'; rw [hv] at hv'; obtain rfl:=Option.some.inj hu'; obtain rfl:=Option.some.inj hv'
      first | exact evNilI_sound (neg:=false) hp hq hk' ht p | exact evNilI_sound (neg:=true) hp hq hk' ht p) h1 h2 ⟨u,hu⟩ ⟨v,hv⟩
    ·cases hc
   case h_11 =>
    split at hc
    ·rename_i hg
     obtain ⟨ks,hks,rfl⟩:=map_some hc
     have:=step_eqA hx he h1 h2 hks hg (neg:=false) (ty:=ty) hk
     simpa [execOp,hop] using this
    ·cases hc
   case h_12 =>
    split at hc
    ·rename_i hg
     obtain ⟨ks,hks,rfl⟩:=map_some hc
     have:=step_eqA hx he h1 h2 hks hg (neg:=true) (ty:=ty) hk
     simpa [execOp,hop] using this
    ·cases hc
   case h_13=>cases hc
  ·cases hc
 | unOp op t p =>
  rw [hop] at hc; obtain ⟨o',h1,rfl⟩:=map_some hc
  obtain ⟨u,hu,hk'⟩:=onV_some hk
  obtain ⟨r,z,hrun,hrel,hkk⟩:=evUn_sound (P:=P) (opv_rel he h1 hu) hk'
  exact Step.pure hx (v:=r) (by simp [execOp,hop,hrun]) hrel hkk
 | convert s t p =>
  rw [hop] at hc; simp only [cI] at hc
  split at hc
  ·rename_i k' k o' h0 h1 h2
   obtain rfl:=Option.some.inj hc
   have:=step_convInt hx he h2 h0 h1 hk
   simpa [execOp,hop] using this
  ·rename_i o' h0 h1 h2
   obtain rfl:=Option.some.inj hc
   have:=step_strStr hx he h2 h0 h1 hk
   simpa [execOp,hop] using this
  ·rename_i et o' h0 h1 h2
   split at hc
   ·rename_i h3
    obtain rfl:=Option.some.inj hc
    have:=step_strBytes hx he h2 h0 h1 h3 hk
    simpa [execOp,hop] using this
   ·cases hc
  ·rename_i et o' h0 h1 h2
   split at hc
   ·rename_i h3
    obtain rfl:=Option.some.inj hc
    have:=step_bytesStr hx he h2 h0 h3 h1 hk
    simpa [execOp,hop] using this
   ·cases hc
  ·cases hc
 | makeSlice t p q =>
  rw [hop] at hc; simp only [cI] at hc
  split at hc
  ·rename_i et o1 o2 h0 h1 h2
   split at hc
   ·rename_i i' hi'
    obtain ⟨z,hz,rfl⟩:=map_some hc
    have:=step_mkSl hx he h1 h2 h0 hi' hz hk
    simpa [execOp,hop] using this
   ·cases hc
  ·cases hc
 | buildSlice t n ps =>
  rw [hop] at hc; simp only [cI] at hc
  split at hc
  ·rename_i et os h0 h1
   split at hc
   ·rename_i i' hi'
    split at hc
    ·rename_i z hz
     split at hc
     ·rename_i hsm
      obtain rfl:=Option.some.inj hc
      have:=step_lit hx he h0 hi' hz h1 hsm hk
      simpa [execOp,hop] using this
     ·cases hc
    ·cases hc
   ·cases hc
  ·cases hc
 | build t ps =>
  rw [hop] at hc; simp only [cI] at hc
  split at hc
  ·rename_i fs i' os h0 h1 h2
   split at hc
   ·rename_i z pl hz hpl
    split at hc
    ·rename_i zs qs hzs hqs
     obtain rfl:=Option.some.inj hc
     have:=step_build hx he h0 h1 h2 hz hpl hzs hqs hk
     simpa [execOp,hop] using this
    ·cases hc
   ·cases hc
  ·cases hc
 | slice t p lo hi mx =>
  rw [hop] at hc
  cases mx with
  | some m=>simp [cI] at hc
  | none =>
   simp only [cI] at hc
   split at hc
   ·rename_i o' lo' hi' h0 h1 h2 h3
    obtain rfl:=Option.some.inj hc
    have:=step_sliceStr hx he h1 h2 h3 h0 hk
    simpa [execOp,hop] using this
   ·rename_i et o' lo' hi' h0 h1 h2 h3
    split at hc
    ·rename_i i' hi'
     obtain rfl:=Option.some.inj hc
     have:=step_sliceSl hx he h1 h2 h3 h0 hi' hk
     simpa [execOp,hop] using this
    ·cases hc
   ·cases hc
 | fieldAddr s p f =>
  rw [hop] at hc; simp only [cI] at hc
  split at hc
  ·rename_i off ft n o' h0 h1
   split at hc
   ·cases hc
   ·rename_i hn
    obtain rfl:=Option.some.inj hc
    have:=step_fieldAddr hx he h1 h0 hn hk
    simpa [execOp,hop] using this
  ·cases hc
 | field s p f =>
  rw [hop] at hc; simp only [cI] at hc
  split at hc
  ·rename_i off ft n o' h0 h1
   obtain ⟨sp,h2,rfl⟩:=map_some hc
   have:=step_field hx he h1 h0 h2 hk
   simpa [execOp,hop] using this
  ·cases hc
 | indexAddr t p q =>
  rw [hop] at hc; simp only [cI] at hc
  split at hc
  ·rename_i et o1 o2 h0 h1 h2
   split at hc
   ·rename_i i' hi'
    obtain rfl:=Option.some.inj hc
    have:=step_indexAddr hx he h1 h2 h0 hi' hk
    simpa [execOp,hop] using this
   ·cases hc
  ·cases hc
 | index t p q =>
  rw [hop] at hc; simp only [cI] at hc
  split at hc
  ·rename_i o1 o2 h0 h1 h2
   obtain rfl:=Option.some.inj hc
   have:=step_index hx he h1 h2 h0 hk
   simpa [execOp,hop] using this
  ·cases hc
 | extract p k =>
  rw [hop] at hc; obtain ⟨o',h1,rfl⟩:=map_some hc
  have:=step_extract hx he h1 k hk (P:=P)
  simpa [execOp,hop] using this
 | call c =>
  rw [hop] at hc; simp only [cI] at hc
  split at hc
  ·rename_i hcal
   split at hc
   ·rename_i p t ha ht
    split at hc
    ·rename_i o' h0 h1
     obtain rfl:=Option.some.inj hc
     have:=step_lenStr hx he h1 h0 hk (ty:=o.type)
     have ha':c.args=#[p]:=by rw [← Array.toArray_toList (xs:=c.args),ha]
     have ht':c.argTypes=#[t]:=by rw [← Array.toArray_toList (xs:=c.argTypes),ht]
     simpa [execOp,hop,resolve,hcal,invoke,builtin,ha',ht'] using this
    ·rename_i et o' h0 h1
     obtain rfl:=Option.some.inj hc
     have:=step_lenSl hx he h1 h0 hk (ty:=o.type)
     have ha':c.args=#[p]:=by rw [← Array.toArray_toList (xs:=c.args),ha]
     have ht':c.argTypes=#[t]:=by rw [← Array.toArray_toList (xs:=c.argTypes),ht]
     simpa [execOp,hop,resolve,hcal,invoke,builtin,ha',ht'] using this
    ·rename_i kt et o' h0 h1
     obtain rfl:=Option.some.inj hc
     have:=step_lenM hx he h1 h0 hk (ty:=o.type)
     have ha':c.args=#[p]:=by rw [← Array.toArray_toList (xs:=c.args),ha]
     have ht':c.argTypes=#[t]:=by rw [← Array.toArray_toList (xs:=c.argTypes),ht]
     simpa [execOp,hop,resolve,hcal,invoke,builtin,ha',ht'] using this
    ·cases hc
   ·cases hc
  ·rename_i hcal
   split at hc
   ·rename_i p q t t' ha ht
    split at hc
    ·rename_i et o1 o2 h0 h1 h2
     split at hc
     ·rename_i i' hi'
      split at hc
      ·rename_i z hz
       split at hc
       ·rename_i heq
        subst heq
        obtain rfl:=Option.some.inj hc
        have:=step_append hx he h1 h2 h0 hi' hz hk (ty:=o.type)
        have ha':c.args=#[p,q]:=by rw [← Array.toArray_toList (xs:=c.args),ha]
        have ht':c.argTypes=#[t,t]:=by rw [← Array.toArray_toList (xs:=c.argTypes),ht]
        simpa [execOp,hop,resolve,hcal,invoke,builtin,ha',ht'] using this
       ·split at hc
        ·rename_i heq1
         split at hc
         ·rename_i heq2
          obtain rfl:=Option.some.inj hc
          have:=step_appS hx he h1 h2 h0 heq2 hi' hz heq1 hk (ty:=o.type)
          have ha':c.args=#[p,q]:=by rw [← Array.toArray_toList (xs:=c.args),ha]
          have ht':c.argTypes=#[t,t']:=by rw [← Array.toArray_toList (xs:=c.argTypes),ht]
          simpa [execOp,hop,resolve,hcal,invoke,builtin,ha',ht'] using this
         ·cases hc
        ·cases hc
      ·cases hc
     ·cases hc
    ·cases hc
   ·cases hc
  ·rename_i hcal
   split at hc
   ·rename_i p t ha ht
    split at hc
    ·rename_i et o1 h0 h1
     split at hc
     ·rename_i i' hi'
      obtain ⟨z,hz,rfl⟩:=map_some hc
      have:=step_clr hx he h1 h0 hi' hz hk (ty:=o.type)
      have ha':c.args=#[p]:=by rw [← Array.toArray_toList (xs:=c.args),ha]
      have ht':c.argTypes=#[t]:=by rw [← Array.toArray_toList (xs:=c.argTypes),ht]
      simpa [execOp,hop,resolve,hcal,invoke,builtin,ha',ht'] using this
     ·cases hc
    ·cases hc
   ·cases hc
  ·rename_i hcal
   split at hc
   ·rename_i p q t t' ha ht
    split at hc
    ·rename_i et et' o1 o2 h0 h0' h1 h2
     split at hc
     ·rename_i i' hi'
      split at hc
      ·rename_i hpos
       obtain rfl:=Option.some.inj hc
       have:=step_copy hx he h1 h2 (t':=t') (et':=et') h0 hi' hpos hk (ty:=o.type)
       have ha':c.args=#[p,q]:=by rw [← Array.toArray_toList (xs:=c.args),ha]
       have ht':c.argTypes=#[t,t']:=by rw [← Array.toArray_toList (xs:=c.argTypes),ht]
       simpa [execOp,hop,resolve,hcal,invoke,builtin,ha',ht'] using this
      ·cases hc
     ·cases hc
    ·cases hc
   ·cases hc
  ·rename_i hcal
   split at hc
   ·rename_i p q ha
    split at hc
    ·rename_i o1 o2 h1 h2
     obtain rfl:=Option.some.inj hc
     have:=step_mm hx he h1 h2 hk (ts:=c.argTypes) (ty:=o.type) (P:=P)
     have ha':c.args=#[p,q]:=by rw [← Array.toArray_toList (xs:=c.args),ha]
     simpa [execOp,hop,resolve,hcal,invoke,builtin,ha'] using this
    ·cases hc
   ·cases hc
  ·rename_i hcal
   split at hc
   ·rename_i p q ha
    split at hc
    ·rename_i o1 o2 h1 h2
     obtain rfl:=Option.some.inj hc
     have:=step_mm hx he h1 h2 hk (ts:=c.argTypes) (ty:=o.type) (P:=P)
     have ha':c.args=#[p,q]:=by rw [← Array.toArray_toList (xs:=c.args),ha]
     simpa [execOp,hop,resolve,hcal,invoke,builtin,ha'] using this
    ·cases hc
   ·cases hc
  ·obtain ⟨as,_,rfl⟩:=map_some hc
   exact (hi _ _ rfl).elim
  ·split at hc
   ·obtain rfl:=Option.some.inj hc
    exact (hi _ _ rfl).elim
   ·cases hc
  ·cases hc
 | makeMap t r =>
  rw [hop] at hc
  cases r with
  | none =>
   simp only [cI,Option.some.injEq] at hc
   subst hc
   have:=step_mkMap hx hk (P:=P) (t:=t)
   simpa [execOp,hop] using this
  | some r=>simp [cI] at hc
 | lookup t p q ok =>
  rw [hop] at hc; simp only [cI] at hc
  split at hc
  ·rename_i kt et o1 o2 h0 h1 h2
   split at hc
   ·rename_i kd z hkd hz
    obtain rfl:=Option.some.inj hc
    have:=step_look hx he h1 h2 h0 hkd hz hk
    simpa [execOp,hop] using this
   ·cases hc
  ·cases hc
 | mapUpdate t p q r =>
  rw [hop] at hc; simp only [cI] at hc
  split at hc
  ·rename_i kt et o1 o2 o3 h0 h1 h2 h3
   obtain ⟨kd,hkd,rfl⟩:=map_some hc
   have:=step_mapUp hx he h1 h2 h3 h0 hkd hk
   simpa [execOp,hop] using this
  ·cases hc
 | insert t p q r =>
  rw [hop] at hc; simp only [cI] at hc
  split at hc
  ·rename_i kt et o1 o2 o3 h0 h1 h2 h3
   obtain ⟨kd,hkd,rfl⟩:=map_some hc
   have:=step_mapUp hx he h1 h2 h3 h0 hkd hk
   simpa [execOp,hop] using this
  ·cases hc
 | mapEntry t p q =>
  rw [hop] at hc; simp only [cI] at hc
  split at hc
  ·rename_i kt et o1 o2 h0 h1 h2
   split at hc
   ·rename_i kd z hkd hz
    obtain rfl:=Option.some.inj hc
    have:=step_mapEnt hx he h1 h2 h0 hkd hz hk
    simpa [execOp,hop] using this
   ·cases hc
  ·cases hc
 | entryStore t p q r =>
  rw [hop] at hc; simp only [cI] at hc
  split at hc
  ·rename_i o1 o2 o3 h1 h2 h3
   obtain rfl:=Option.some.inj hc
   have:=step_entSt hx he h1 h2 h3 hk (P:=P) (t:=t)
   simpa [execOp,hop] using this
  ·cases hc
 | makeInterface t p =>
  rw [hop] at hc; simp only [cI] at hc
  split at hc
  ·cases hc
  ·rename_i d o' hne h0 h1
   obtain rfl:=Option.some.inj hc
   have:=step_iface hx he h1 h0 (fun m hm=>by subst hm; first | exact hne _ rfl | exact hne _ _ rfl | exact hne _ h0 | simp_all) hk
   simpa [execOp,hop] using this
  ·cases hc
 | makeFunc f first caps =>
  rw [hop] at hc
  cases f with
  | func f =>
   simp only [cI] at hc
   split at hc
   ·rename_i hfi
    obtain ⟨os,hos,rfl⟩:=map_some hc
    have:=step_fn hx he hos hk (P:=P) (f:=f)
    have hf0:first=#[]:=by simpa using hfi
    simpa [execOp,hop,hf0] using this
   ·split at hc
    ·rename_i hfi hci
     obtain ⟨os,hos,rfl⟩:=map_some hc
     have:=step_fnb hx he hos hk (P:=P) (f:=f)
     have hc0:caps=#[]:=by simpa using hci
     simpa [execOp,hop,hc0] using this
    ·cases hc
  | _=>simp [cI] at hc
 | _=>rw [hop] at hc; simp [cI] at hc
end
end Go.Ab
end
