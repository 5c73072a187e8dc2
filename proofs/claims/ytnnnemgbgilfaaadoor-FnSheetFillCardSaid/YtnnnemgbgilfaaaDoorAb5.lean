/- Loops that put rows of any values behind a list. Conditions: none (a library of lemmas). -/
import Derived.Test.YtnnnemgbgilfaaaDoorAb4
set_option linter.unusedSimpArgs false
set_option linter.unusedVariables false
set_option linter.defProp false
namespace Go.Ab
structure OVl (s0:Store) (n:Nat) (rows:List (List V)) (v:V) (s:Store):Prop where
 le:s0.length≤s.length
 kp:Kp s0 s
 ob:(rows=[]∧(v=.nils∨v=.rows n []))∨∃ id,s0.length≤id∧v=.sl id rows.length 0 rows.length∧s[id]?=some (.slc n rows)
section
variable {s0 s:Store} {n:Nat} {rows:List (List V)} {v:V}
theorem OVl.nils:OVl s0 n [] .nils s0:=⟨Nat.le_refl _,Kp.refl _,.inl ⟨rfl,.inl rfl⟩⟩
theorem OVl.rows0:OVl s0 n [] (.rows n []) s0:=⟨Nat.le_refl _,Kp.refl _,.inl ⟨rfl,.inr rfl⟩⟩
theorem OVl.one (h:OVl s0 n rows v s):Go.Ab.one v=true:=by
 rcases h.ob with ⟨_,rfl | rfl⟩ | ⟨id,_,rfl,_⟩ <;> rfl
theorem OVl.len (h:OVl s0 n rows v s):lenSl v=some rows.length:=by
 rcases h.ob with ⟨rfl,rfl | rfl⟩ | ⟨id,_,rfl,_⟩ <;> rfl
theorem OVl.more (h:OVl s0 n rows v s) (τ:Store):OVl s0 n rows v (s++τ):=by
 refine ⟨by simp; have:=h.le; omega,kp_app2 h.kp,h.ob.imp id ?_⟩
 rintro ⟨id,h1,h2,h3⟩
 exact ⟨id,h1,h2,(Kp.app s τ).box h3⟩
theorem OVl.base {s1:Store} (h:OVl s1 n rows v s) (hk:Kp s0 s1) (hl:s0.length≤s1.length):OVl s0 n rows v s:=by
 refine ⟨Nat.le_trans hl h.le,hk.trans hl h.kp,h.ob.imp id ?_⟩
 rintro ⟨id,h1,h2,h3⟩
 exact ⟨id,by omega,h2,h3⟩
theorem OVl.app {bys:Nat} {rs:List (List V)} {K:Tok→V→Store→Prop} (h:OVl s0 n rows v s) (hb:(rows.length+rs.length) * bys≤maxBy) (hm:rows.length+rs.length≤9223372036854775807)
  (hk:∀ v' s',s.length≤s'.length→(∀ j,j<s.length→(∀ g,v=.sl j g 0 g→False)→s'[j]?=s[j]?)→OVl s0 n (rows++rs) v' s'→K .go v' s'):evAppend n bys s rs v K:=by
 have hle:=h.le
 rcases h.ob with ⟨rfl,rfl | rfl⟩ | ⟨id,h1,rfl,h2⟩
 ·simp only [evAppend]
  simp only [List.length_nil,Nat.zero_add] at hb hm
  refine ⟨hb,by omega,hk _ _ (by simp) (fun j hj _=>List.getElem?_append_left hj) ⟨by simp; omega,kp_app2 h.kp,.inr ⟨s.length,hle,rfl,by simp⟩⟩⟩
 ·simp only [evAppend]
  simp only [List.length_nil,Nat.zero_add] at hb hm
  refine ⟨trivial,hb,by omega,fun e=>?_,fun e=>hk _ _ (by simp) (fun j hj _=>List.getElem?_append_left hj) ⟨by simp; omega,kp_app2 h.kp,.inr ⟨s.length,hle,rfl,by simp⟩⟩⟩
  subst e
  exact hk _ _ (Nat.le_refl _) (fun _ _ _=>rfl) ⟨hle,h.kp,.inl ⟨rfl,.inr rfl⟩⟩
 ·have hid:=(List.getElem?_eq_some_iff.1 h2).1
  simp only [evAppend,h2,onSlc]
  refine ⟨trivial,trivial,trivial,trivial,hb,by omega,hk _ _ (by simp) (fun j hj hne=>?_) ⟨by simp; omega,h.kp.set h1,.inr ⟨id,h1,by rw [List.length_append],by simp [hid]⟩⟩⟩
  exact List.getElem?_set_ne (fun e=>hne _ (by rw [e]))
theorem OVl.rowsOf (h:OVl s0 n rows v s):Go.Ab.rowsOf s n v=some rows:=by
 rcases h.ob with ⟨rfl,rfl | rfl⟩ | ⟨id,_,rfl,h2⟩
 ·simp [Go.Ab.rowsOf]
 ·simp [Go.Ab.rowsOf]
 ·simp [Go.Ab.rowsOf,h2]
theorem OVl.sees {ts:List (List T)} (hp:0<n) (h:OVl s0 n (ts.map fun r=>r.map .t) v s):SeesF s0.length s (.lst n ts) v:=by
 rcases h.ob with ⟨h1,h2⟩ | ⟨id,h1,rfl,h2⟩
 ·obtain rfl:ts=[]:=by simpa using h1
  rcases h2 with rfl | rfl
  ·exact seesF_nils hp
  ·simp only [SeesF]
   exact .inr ⟨hp,(fun _ _ _ _ e=>by cases e),[],by simp [Go.Ab.rowsOf],by simp only [SeesFR]⟩
 ·exact seesF_rows hp h1 h2 (by simp)
theorem OVl.split (h:OVl s0 n rows v s):∃ τ,s=s0++τ:=⟨_,kp_split h.kp h.le⟩
end
end Go.Ab
