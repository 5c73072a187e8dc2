/- Functions that draw: a reader among the objects turns, all that they make is frozen where they return. Conditions: none (a library of lemmas). -/
import Derived.Test.YtnnnemgbgilfaaaDoorAb7
set_option linter.unusedSimpArgs false
set_option linter.unusedVariables false
set_option linter.defProp false
namespace Go.Ab
theorem acalls_frzS {P:Program} {f:FuncId} {args:List V} {σ:Store} {Q:V→Store→Prop}
  (h:ACalls P f args σ fun r s=>∃ σ1 τ v,s=σ1++τ∧σ1.length=σ.length∧ltσ σ.length σ1=true∧FzR σ.length s v r∧Q v σ1):ACalls P f args σ Q:=by
 refine ⟨h.1,fun x cargs hσ hx ha=>?_⟩
 refine Calls.mono (h.2 x cargs hσ hx ha) ?_
 subst hσ
 rintro e w' ⟨v,y,r,rfl,rfl,⟨σ1,τ,v0,hτ,hl1,hlt1,hfz,hQ⟩,hv,hy,hxy⟩
 have htake:y.σ.take x.σ.length=σ1:=by rw [hτ,← hl1]; exact List.take_left ..
 have hlen:y.σ.length=x.σ.length+τ.length:=by rw [hτ]; simp [hl1]
 have hlt:ltσ x.σ.length (y.σ.take x.σ.length)=true:=by rw [htake]; exact hlt1
 have hy1:=hy.cut hlt
 have hx1:Ext { y with σ:=y.σ.take x.σ.length } (y.frzAll x.σ.length):=⟨rfl,rfl,rfl,Nat.le_refl _,fun b hb=>.inl hb,fun _ _=>rfl,fun id o ho=>⟨o,ho,o.like_refl,Nat.le_refl _,fun _=>rfl⟩⟩
 have hin:∀ i,i<x.σ.length→i<y.σ.length:=fun i hi=>by omega
 refine ⟨v,y.frzAll x.σ.length,v0,rfl,rfl,by show Q v0 (y.σ.take x.σ.length); rw [htake]; exact hQ,fzR_rel hy hfz hv,⟨fun id o ho=>?_,fun i j b hij hi hj=>?_,fun b hb=>?_⟩,?_⟩
 ·have ho':(y.σ.take x.σ.length)[id]?=some o:=ho
  have hid:id<x.σ.length:=by
   have:=(List.getElem?_eq_some_iff.1 ho').1
   rw [htake] at this; omega
  refine ORel.keep hx1 rfl (fun b hb _ hF=>⟨rfl,?_⟩) (hy1.objs id o ho')
  rintro (h' | ⟨i,h1,h2,h3⟩)
  ·exact hF h'
  ·exact hy.inj id i b (by omega) (hin id hid) h2 hb h3
 ·have hl:((y.frzAll x.σ.length).σ).length=x.σ.length:=by show (y.σ.take x.σ.length).length=_; rw [htake,hl1]
  rw [hl] at hi hj
  exact hy.inj i j b hij (hin i hi) (hin j hj)
 ·rcases hb with hb | ⟨i,h1,h2,h3⟩
  ·exact hy.low b hb
  ·exact (ORel.blk_lt (hy.objs i y.σ[i] (by simp [h2])) h3).1
 ·refine ⟨hxy.os,hxy.tape,hxy.output,hxy.size,fun b hb=>.inl (hxy.F b hb),hxy.block,fun id o ho=>?_⟩
  obtain ⟨o',ho',q1,q2,hρ⟩:=hxy.obj id o ho
  have hid:=(List.getElem?_eq_some_iff.1 ho).1
  refine ⟨o',?_,q1,q2,hρ⟩
  show (y.σ.take x.σ.length)[id]?=_
  rw [List.getElem?_take,if_pos hid]
  exact ho'
abbrev rdW (l:List UInt8) (p:Nat):List V:=[.t (.lst 1 (byteT l)),.t (.int .i64 (p:Nat))]
def DR (A:Store) (l:List UInt8) (p id N:Nat) (Q:V→Prop) (r:V) (s:Store):Prop:=∃ q,p≤q∧q≤p+N∧s=A.set id (.box (rdW l q))∧Q r
def DE (A:Store) (l:List UInt8) (p id N:Nat) (Q:V→Prop) (r:V) (s:Store):Prop:=∃ q L v,p≤q∧q≤p+N∧s=A.set id (.box (rdW l q))++L∧FzR A.length s v r∧Q v
def DrawC (P:Program) (f:FuncId) (us:List V) (l:List UInt8) (id N:Nat) (Q:V→Prop):Prop:=∀ (A:Store) (p:Nat),id<A.length→p+N≤900000000→ACalls P f us (A.set id (.box (rdW l p))) (DR A l p id N Q)
theorem lt_set {n id:Nat} {A:Store} {o o':Obj} (h:ltσ n (A.set id o)=true) (ho:o'.lt n=true):ltσ n (A.set id o')=true:=by
 simp only [ltσ,List.all_eq_true] at h ⊢
 intro y hy
 obtain ⟨i,hi,rfl⟩:=List.getElem_of_mem hy
 have hi':i<A.length:=by simpa using hi
 by_cases e:id=i
 ·subst e
  rw [List.getElem_set_self]; exact ho
 ·rw [List.getElem_set_ne e]
  exact h _ (by
   have:(A.set id o)[i]'(by simpa using hi')=A[i]:=List.getElem_set_ne e _
   rw [← this]; exact List.getElem_mem _)
theorem acalls_clo {P:Program} {f:FuncId} {args:List V} {σ:Store} {R:V→Store→Prop} (he:Enters P f) (h:ltσ σ.length σ=true→ACalls P f args σ R):ACalls P f args σ R :=
 ⟨he,fun x cargs hσ hx ha=>(h (hσ ▸ hx.closed)).2 x cargs hσ hx ha⟩
theorem acalls_draw {P:Program} {f:FuncId} {us:List V} {A:Store} {l:List UInt8} {p id N:Nat} {Q:V→Prop} (h:ACalls P f us (A.set id (.box (rdW l p))) (DE A l p id N Q)) :
  ACalls P f us (A.set id (.box (rdW l p))) (DR A l p id N Q):=by
 refine acalls_clo h.1 fun hc=>?_
 refine acalls_frzS (h.mono ?_)
 rintro r s ⟨q,L,v,h1,h2,rfl,h3,h4⟩
 rw [List.length_set] at hc ⊢
 exact ⟨_,L,v,rfl,by rw [List.length_set],lt_set hc rfl,h3,q,h1,h2,rfl,h4⟩
theorem fin_draw {A L:Store} {l:List UInt8} {p q id N:Nat} {Q:V→Prop} {u v:V} (h1:p≤q) (h2:q≤p+N) (hf:FzR A.length (A.set id (.box (rdW l q))++L) v u) (hQ:Q v):retV A.length (DE A l p id N Q) (A.set id (.box (rdW l q))++L) (some [u]) :=
 fin_keep (by simp) ⟨q,L,v,h1,h2,rfl,hf,hQ⟩
theorem call_draw {P:Program} {f:FuncId} {us:List V} {A L:Store} {l:List UInt8} {p id N:Nat} {Q:V→Prop} {K:Tok→V→Store→Prop} (h:DrawC P f us l id N Q) (hid:id<A.length) (hp:p+N≤900000000)
  (hk:∀ r q,p≤q→q≤p+N→Q r→K .go r (A.set id (.box (rdW l q))++L)):callV P (A.set id (.box (rdW l p))++L) (some (.fn (.func f) [])) (some us) K:=by
 have e:∀ o:Obj,A.set id o++L=(A++L).set id o:=fun o=>(List.set_append_left _ _ hid).symm
 rw [e]
 refine call_by (by rw [List.append_nil]; exact h (A++L) p (by simp; omega) hp) ?_
 rintro r s ⟨q,h1,h2,rfl,hQ⟩
 rw [← e]
 exact hk r q h1 h2 hQ
theorem call_draw0 {P:Program} {f:FuncId} {us:List V} {A:Store} {l:List UInt8} {p id N:Nat} {Q:V→Prop} {K:Tok→V→Store→Prop} (h:DrawC P f us l id N Q) (hid:id<A.length) (hp:p+N≤900000000)
  (hk:∀ r q,p≤q→q≤p+N→Q r→K .go r (A.set id (.box (rdW l q)))):callV P (A.set id (.box (rdW l p))) (some (.fn (.func f) [])) (some us) K:=by
 have:=call_draw (L:=[]) (K:=K) h hid hp (fun r q h1 h2 hQ=>by rw [List.append_nil]; exact hk r q h1 h2 hQ)
 rwa [List.append_nil] at this
theorem set_same {α:Type} {S:List α} {id:Nat} {o:α} (h:S[id]?=some o):S.set id o=S:=by
 apply List.ext_getElem?
 intro i
 have hid:=(List.getElem?_eq_some_iff.1 h).1
 by_cases e:id=i
 ·subst e
  rw [List.getElem?_set_self hid,h]
 ·rw [List.getElem?_set_ne e]
theorem call_draw_at {P:Program} {f:FuncId} {us:List V} {S:Store} {l:List UInt8} {p id N:Nat} {Q:V→Prop} {K:Tok→V→Store→Prop} (h:DrawC P f us l id N Q) (hid:S[id]?=some (.box (rdW l p))) (hp:p+N≤900000000)
  (hk:∀ r q,p≤q→q≤p+N→Q r→K .go r (S.set id (.box (rdW l q)))):callV P S (some (.fn (.func f) [])) (some us) K:=by
 have:=call_draw0 (A:=S) (p:=p) h (List.getElem?_eq_some_iff.1 hid).1 hp hk
 rwa [set_same hid] at this
section
variable {A L:Store} {id:Nat} {o:Obj}
theorem ds_len:(A.set id o++L).length=A.length+L.length:=by simp
theorem ds_get (k:Nat):(A.set id o++L)[A.length+k]?=L[k]?:=by
 rw [List.getElem?_append_right (by simp),List.length_set,Nat.add_sub_cancel_left]
theorem ds_get0:(A.set id o++L)[A.length]?=L[0]?:=by
 rw [List.getElem?_append_right (by simp),List.length_set,Nat.sub_self]
theorem ds_set (k:Nat) (v:Obj):(A.set id o++L).set (A.length+k) v=A.set id o++L.set k v:=by
 rw [List.set_append_right _ _ (by simp),List.length_set,Nat.add_sub_cancel_left]
theorem ds_set0 (v:Obj):(A.set id o++L).set A.length v=A.set id o++L.set 0 v:=by
 rw [List.set_append_right _ _ (by simp),List.length_set,Nat.sub_self]
theorem ds_id (h:id<A.length):(A.set id o++L)[id]?=some o:=by
 rw [List.getElem?_append_left (by simpa using h),List.getElem?_set_self h]
theorem ds_id0 (h:id<A.length):(A.set id o)[id]?=some o:=List.getElem?_set_self h
theorem ds_ids (h:id<A.length) (v:Obj):(A.set id o++L).set id v=A.set id v++L:=by
 rw [List.set_append_left _ _ (by simpa using h),List.set_set]
theorem ds_ids0 (v:Obj):(A.set id o).set id v=A.set id v:=List.set_set ..
end
theorem fz_agg (n:Nat) (σ:Store) (ts:List T):FzR n σ (.agg (ts.map .t)) (.agg (ts.map .t)):=.inl (.inr ⟨ts,_,rfl,rfl,seesFL_t ts⟩)
end Go.Ab
