/- Marks on values that are one's own, and how they are looked at again: lists, once for all element types. Conditions: none (a library of lemmas). -/
/- A function that makes its result anew may be called with slices of the program's own, whatever else it left behind. Conditions: none (a library of lemmas). -/
/- How far marks count. Conditions: none (a library of lemmas). -/
/- Copies of rows that hold no slices. Conditions: none (a library of lemmas). -/
/- What was made anew may be frozen where a function ends: its callers then hold a tree. Conditions: none (a library of lemmas). -/
/- Loops whose store turns and keeps its length; lists made anew as one object; trees that are seen as they are. Conditions: none (a library of lemmas). -/
/- Calls in a law whose results hold memory: the store behind a call is one we know only by what it keeps. Conditions: none (a library of lemmas). -/
/- Lists of one's own that grow, over stores known only by what they keep. Conditions: none (a library of lemmas). -/
/- Lists of flat rows that are one's own: how they are cut, looked into, and grown. Conditions: none (a library of lemmas). -/
/- A map of one's own as a function from keys. Conditions: none (a library of lemmas). -/
/- Loops that put flat rows behind a list of one's own; sums. Conditions: none (a library of lemmas). -/
/- Functions of Go's library that have no body: what they hand back. Conditions: none (a library of lemmas). -/
import Derived.Test.YtnnnemgbgilfaaaDoorAb3
import Derived.Lib.Bytealg
set_option linter.unusedSimpArgs false
set_option linter.unusedVariables false
set_option linter.defProp false
section
namespace Go.Ab
section
variable (mt:Nat→List UInt8)
mutual
def T.mk:Nat→T→T × Nat
 | k,.int kd _=>(.int kd (k:Nat),k+1)
 | k,.bool _=>(.bool ((k:Int).tmod 3 == 0),k+1)
 | k,.str _=>(.str (mt k),k+1)
 | k,.lst sz rows=>(.lst sz (T.mkR k rows).1,(T.mkR k rows).2)
def T.mkR:Nat→List (List T)→List (List T) × Nat
 | k,[]=>([],k)
 | k,r::rows=>((T.mkL k r).1::(T.mkR (T.mkL k r).2 rows).1,(T.mkR (T.mkL k r).2 rows).2)
def T.mkL:Nat→List T→List T × Nat
 | k,[]=>([],k)
 | k,t::ts=>((T.mk k t).1::(T.mkL (T.mk k t).2 ts).1,(T.mkL (T.mk k t).2 ts).2)
end
end
section
variable {mt:Nat→List UInt8}
theorem mkc_int {k:Nat} {kd:IntKind} {n:Int}:T.mk mt k (.int kd n)=(.int kd (k:Nat),k+1):=by simp only [T.mk]
theorem mkc_bool {k:Nat} {n:Bool}:T.mk mt k (.bool n)=(.bool ((k:Int).tmod 3 == 0),k+1):=by simp only [T.mk]
theorem mkc_str {k:Nat} {n:List UInt8}:T.mk mt k (.str n)=(.str (mt k),k+1):=by simp only [T.mk]
theorem mkc_lst {k sz:Nat} {rows:List (List T)}:T.mk mt k (.lst sz rows)=(.lst sz (T.mkR mt k rows).1,(T.mkR mt k rows).2):=by simp only [T.mk]
theorem mkR_nil {k:Nat}:T.mkR mt k []=([],k):=by simp only [T.mkR]
theorem mkR_cons {k:Nat} {r:List T} {rows:List (List T)}:T.mkR mt k (r::rows)=((T.mkL mt k r).1::(T.mkR mt (T.mkL mt k r).2 rows).1,(T.mkR mt (T.mkL mt k r).2 rows).2):=by simp only [T.mkR]
theorem mkL_nil {k:Nat}:T.mkL mt k []=([],k):=by simp only [T.mkL]
theorem mkL_cons {k:Nat} {t:T} {ts:List T}:T.mkL mt k (t::ts)=((T.mk mt k t).1::(T.mkL mt (T.mk mt k t).2 ts).1,(T.mkL mt (T.mk mt k t).2 ts).2):=by simp only [T.mkL]
attribute [irreducible] T.mk T.mkR T.mkL
mutual
theorem mk_le {k:Nat}:∀ {t:T},k≤(T.mk mt k t).2
 | .int _ _=>by rw [mkc_int]; exact Nat.le_succ _
 | .bool _=>by rw [mkc_bool]; exact Nat.le_succ _
 | .str _=>by rw [mkc_str]; exact Nat.le_succ _
 | .lst _ rows=>by rw [mkc_lst]; exact mkR_le (rows:=rows)
theorem mkR_le {k:Nat}:∀ {rows:List (List T)},k≤(T.mkR mt k rows).2
 | []=>by rw [mkR_nil]; exact Nat.le_refl _
 | r::rows=>by rw [mkR_cons]; exact Nat.le_trans (mkL_le (ts:=r)) (mkR_le (rows:=rows))
theorem mkL_le {k:Nat}:∀ {ts:List T},k≤(T.mkL mt k ts).2
 | []=>by rw [mkL_nil]; exact Nat.le_refl _
 | t::ts=>by rw [mkL_cons]; exact Nat.le_trans (mk_le (t:=t)) (mkL_le (ts:=ts))
end
end
theorem Own.set {σ:Store} {t:T} {u:V} {is:List Nat} {id:Nat} {o:Obj} (h:Own σ t u is) (hid:id∉is):Own (σ.set id o) t u is :=
 h.frame fun i hi=>List.getElem?_set_ne (fun e=>hid (by rw [e]; exact hi))
theorem Own.other {σ σ':Store} {t:T} {u:V} {is js:List Nat} (h:Own σ t u is) (hf:∀ j,j<σ.length→j∉js→σ'[j]?=σ[j]?) (hd:∀ j∈is,j∉js):Own σ' t u is :=
 h.frame fun i hi=>hf i (h.lt i hi) (hd i hi)
theorem OwnL.other {σ σ':Store} {t:List T} {u:List V} {is js:List Nat} (h:OwnL σ t u is) (hf:∀ j,j<σ.length→j∉js→σ'[j]?=σ[j]?) (hd:∀ j∈is,j∉js):OwnL σ' t u is :=
 h.frame fun i hi=>hf i (h.lt i hi) (hd i hi)
theorem OwnR.split {σ:Store}:∀ {a:List (List T)} {r:List T} {b:List (List T)} {rs:List (List V)} {js:List Nat},OwnR σ (a++r::b) rs js→∃ ra u rb ja ji jb,rs=ra++u::rb∧js=ja++(ji++jb)∧ra.length=a.length∧OwnR σ a ra ja∧OwnL σ r u ji∧OwnR σ b rb jb
 | [],r,b,rs,js,h=>by
  simp only [List.nil_append,OwnR] at h
  obtain ⟨u,us,i,j,rfl,rfl,h1,h2⟩:=h
  exact ⟨[],u,us,[],i,j,rfl,rfl,rfl,by simp [OwnR],h1,h2⟩
 | x::a,r,b,rs,js,h=>by
  simp only [List.cons_append,OwnR] at h
  obtain ⟨u,us,i,j,rfl,rfl,h1,h2⟩:=h
  obtain ⟨ra,v,rb,ja,ji,jb,rfl,rfl,hl,k1,k2,k3⟩:=OwnR.split h2
  exact ⟨u::ra,v,rb,i++ja,ji,jb,rfl,by simp,by simp [hl],by simp only [OwnR]; exact ⟨u,ra,i,ja,rfl,rfl,h1,k1⟩,k2,k3⟩
theorem OwnR.cons {σ:Store} {r:List T} {b:List (List T)} {u:List V} {rb:List (List V)} {i j:List Nat} (h:OwnL σ r u i) (k:OwnR σ b rb j):OwnR σ (r::b) (u::rb) (i++j):=by
 simp only [OwnR]; exact ⟨u,rb,i,j,rfl,rfl,h,k⟩
section
variable {P:Program} {mt:Nat→List UInt8} {g n nt z:Nat} {cs:List Sh} {body:C}
theorem keep3 {e:Env} {a b c:Nat} {u v w:V} (h1:eget e a=some u) (h2:eget e b=some v) (h3:eget e c=some w):keep [a,b,c] e=[(a,u),(b,v),(c,w)]:=by simp [keep,h1,h2,h3]
end
end Go.Ab
end
section
namespace Go.Ab
mutual
def V.cl (is:List Nat):V→Bool
 | .t x=>x.free
 | .nils=>true
 | .sl id _ _ _=>is.contains id
 | .rows _ rs=>rs.isEmpty
 | .agg cs=>V.cls is cs
 | .tup cs=>V.cls is cs
 | _=>false
def V.cls (is:List Nat):List V→Bool
 | []=>true
 | u::us=>u.cl is && V.cls is us
end
theorem cls_app {is:List Nat}:∀ {a b:List V},V.cls is a=true→V.cls is b=true→V.cls is (a++b)=true
 | [],_,_,h=>h
 | u::us,b,h,k=>by
  simp only [V.cls,Bool.and_eq_true,List.cons_append] at h ⊢
  exact ⟨h.1,cls_app h.2 k⟩
mutual
theorem V.cl_mono {is js:List Nat} (h:∀ i∈is,i∈js):∀ u:V,u.cl is=true→u.cl js=true
 | .t _,k=>k
 | .nils,_=>rfl
 | .sl id _ _ _,k=>by simp only [V.cl,List.contains_iff_mem] at k ⊢; exact h id k
 | .rows _ _,k=>k
 | .agg cs,k=>by simp only [V.cl] at k ⊢; exact V.cls_mono h cs k
 | .tup cs,k=>by simp only [V.cl] at k ⊢; exact V.cls_mono h cs k
 | .nilp,k=>by simp [V.cl] at k
 | .nilf,k=>by simp [V.cl] at k
 | .nilm,k=>by simp [V.cl] at k
 | .any,k=>by simp [V.cl] at k
 | .nili,k=>by simp [V.cl] at k
 | .pv _,k=>by simp [V.cl] at k
 | .ptr _ _,k=>by simp [V.cl] at k
 | .ep _ _ _ _,k=>by simp [V.cl] at k
 | .map _,k=>by simp [V.cl] at k
 | .fn _ _,k=>by simp [V.cl] at k
 | .fnb _ _,k=>by simp [V.cl] at k
 | .iface _ _,k=>by simp [V.cl] at k
theorem V.cls_mono {is js:List Nat} (h:∀ i∈is,i∈js):∀ us:List V,V.cls is us=true→V.cls js us=true
 | [],_=>rfl
 | u::us,k=>by
  simp only [V.cls,Bool.and_eq_true] at k ⊢
  exact ⟨V.cl_mono h u k.1,V.cls_mono h us k.2⟩
end
structure On (is:List Nat) (y z:Cx):Prop where
 σ:∀ i∈is,z.σ[i]?=y.σ[i]?
 ρ:∀ i∈is,z.ρ i=y.ρ i
 w:z.w=y.w
mutual
theorem VRel.on {is:List Nat} {y z:Cx} (h:On is y z):∀ (u:V) (v:Value),u.cl is=true→VRel y u v→VRel z u v
 | .t x,v,hf,hr=>by cases x <;> simp [V.cl,T.free] at hf <;> simpa [VRel,TRel] using hr
 | .nils,_,_,hr=>by simpa [VRel] using hr
 | .rows _ rs,_,hf,hr=>by
  simp only [V.cl,List.isEmpty_iff] at hf
  subst hf
  simp only [VRel] at hr ⊢
  obtain ⟨a,hv,_⟩:=hr
  exact ⟨a,hv,.inl rfl⟩
 | .sl id g off len,v,hf,hr=>by
  simp only [V.cl,List.contains_iff_mem] at hf
  simp only [VRel,h.σ id hf,h.ρ id hf] at hr ⊢
  exact hr
 | .agg cs,v,hf,hr=>by
  simp only [V.cl] at hf
  simp only [VRel] at hr ⊢
  obtain ⟨l,hv,hl⟩:=hr
  exact ⟨l,hv,VsRel.on h cs l hf hl⟩
 | .tup cs,v,hf,hr=>by
  simp only [V.cl] at hf
  simp only [VRel] at hr ⊢
  obtain ⟨l,hv,hl⟩:=hr
  exact ⟨l,hv,VsRel.on h cs l hf hl⟩
 | .nilp,_,k,_=>by simp [V.cl] at k
 | .nilf,_,k,_=>by simp [V.cl] at k
 | .nilm,_,k,_=>by simp [V.cl] at k
 | .any,_,k,_=>by simp [V.cl] at k
 | .nili,_,k,_=>by simp [V.cl] at k
 | .pv _,_,k,_=>by simp [V.cl] at k
 | .ptr _ _,_,k,_=>by simp [V.cl] at k
 | .ep _ _ _ _,_,k,_=>by simp [V.cl] at k
 | .map _,_,k,_=>by simp [V.cl] at k
 | .fn _ _,_,k,_=>by simp [V.cl] at k
 | .fnb _ _,_,k,_=>by simp [V.cl] at k
 | .iface _ _,_,k,_=>by simp [V.cl] at k
theorem VsRel.on {is:List Nat} {y z:Cx} (h:On is y z):∀ (us:List V) (l:List Value),V.cls is us=true→VsRel y us l→VsRel z us l
 | [],l,_,hr=>by simpa [VsRel] using hr
 | u::us,l,hf,hr=>by
  simp only [V.cls,Bool.and_eq_true] at hf
  simp only [VsRel] at hr ⊢
  obtain ⟨c,cs,hl,hc,hcs⟩:=hr
  exact ⟨c,cs,hl,VRel.on h u c hf.1 hc,VsRel.on h us cs hf.2 hcs⟩
end
def ClS (is:List Nat) (σ:Store):Prop:=∀ i∈is,∃ sz rs,σ[i]?=some (.slc sz rs)∧V.cls is rs.flatten=true
mutual
theorem Own.cl {σ:Store}:∀ {t:T} {v:V} {is:List Nat},Own σ t v is→v.cl is=true∧ClS is σ
 | .int _ _,_,_,h=>by simp only [Own] at h; obtain ⟨rfl,rfl⟩:=h; exact ⟨rfl,fun i hi=>by simp at hi⟩
 | .bool _,_,_,h=>by simp only [Own] at h; obtain ⟨rfl,rfl⟩:=h; exact ⟨rfl,fun i hi=>by simp at hi⟩
 | .str _,_,_,h=>by simp only [Own] at h; obtain ⟨rfl,rfl⟩:=h; exact ⟨rfl,fun i hi=>by simp at hi⟩
 | .lst sz rows,v,is,h=>by
  simp only [Own] at h
  obtain ⟨hp,⟨rfl,rfl,rfl | rfl⟩ | ⟨id,js,rs,rfl,rfl,h1,h2⟩⟩:=h
  ·exact ⟨rfl,fun i hi=>by simp at hi⟩
  ·exact ⟨rfl,fun i hi=>by simp at hi⟩
  ·obtain ⟨k1,k2⟩:=OwnR.cl h2
   refine ⟨by simp [V.cl],fun i hi=>?_⟩
   rcases List.mem_cons.1 hi with rfl | hi
   ·exact ⟨sz,rs,h1,V.cls_mono (fun i hi=>by simp [hi]) _ k1⟩
   ·obtain ⟨sz',rs',e1,e2⟩:=k2 i hi
    exact ⟨sz',rs',e1,V.cls_mono (fun i hi=>by simp [hi]) _ e2⟩
theorem OwnR.cl {σ:Store}:∀ {rows:List (List T)} {rs:List (List V)} {is:List Nat},OwnR σ rows rs is→V.cls is rs.flatten=true∧ClS is σ
 | [],_,_,h=>by simp only [OwnR] at h; obtain ⟨rfl,rfl⟩:=h; exact ⟨rfl,fun i hi=>by simp at hi⟩
 | r::rows,rs,is,h=>by
  simp only [OwnR] at h
  obtain ⟨u,us,i,j,rfl,rfl,h1,h2⟩:=h
  obtain ⟨a1,a2⟩:=OwnL.cl h1
  obtain ⟨b1,b2⟩:=OwnR.cl h2
  refine ⟨by rw [List.flatten_cons]; exact cls_app (V.cls_mono (fun i hi=>by simp [hi]) _ a1) (V.cls_mono (fun i hi=>by simp [hi]) _ b1),fun x hx=>?_⟩
  rcases List.mem_append.1 hx with hx | hx
  ·obtain ⟨sz',rs',e1,e2⟩:=a2 x hx
   exact ⟨sz',rs',e1,V.cls_mono (fun i hi=>by simp [hi]) _ e2⟩
  ·obtain ⟨sz',rs',e1,e2⟩:=b2 x hx
   exact ⟨sz',rs',e1,V.cls_mono (fun i hi=>by simp [hi]) _ e2⟩
theorem OwnL.cl {σ:Store}:∀ {ts:List T} {us:List V} {is:List Nat},OwnL σ ts us is→V.cls is us=true∧ClS is σ
 | [],_,_,h=>by simp only [OwnL] at h; obtain ⟨rfl,rfl⟩:=h; exact ⟨rfl,fun i hi=>by simp at hi⟩
 | t::ts,us,is,h=>by
  simp only [OwnL] at h
  obtain ⟨u,us',i,j,rfl,rfl,h1,h2⟩:=h
  obtain ⟨a1,a2⟩:=Own.cl h1
  obtain ⟨b1,b2⟩:=OwnL.cl h2
  refine ⟨by simp only [V.cls,Bool.and_eq_true]; exact ⟨V.cl_mono (fun i hi=>by simp [hi]) _ a1,V.cls_mono (fun i hi=>by simp [hi]) _ b1⟩,fun x hx=>?_⟩
  rcases List.mem_append.1 hx with hx | hx
  ·obtain ⟨sz',rs',e1,e2⟩:=a2 x hx
   exact ⟨sz',rs',e1,V.cls_mono (fun i hi=>by simp [hi]) _ e2⟩
  ·obtain ⟨sz',rs',e1,e2⟩:=b2 x hx
   exact ⟨sz',rs',e1,V.cls_mono (fun i hi=>by simp [hi]) _ e2⟩
end
def pick (is:List Nat) (n:Nat):Store→Store
 | []=>[]
 | o::τ=>(if is.contains n then o else .slc 0 [])::pick is (n+1) τ
theorem pick_len (is:List Nat):∀ (τ:Store) (n:Nat),(pick is n τ).length=τ.length
 | [],_=>rfl
 | _::τ,n=>by simp [pick,pick_len is τ]
theorem pick_get (is:List Nat):∀ (τ:Store) (n j:Nat),(pick is n τ)[j]?=(τ[j]?).map fun o=>if is.contains (n+j) then o else .slc 0 []
 | [],_,_=>by simp [pick]
 | o::τ,n,0=>by simp [pick]
 | o::τ,n,j+1=>by
  simp only [pick,List.getElem?_cons_succ,pick_get is τ (n+1) j]
  rw [show n+1+j=n+(j+1) by omega]
section
variable {x:Cx}
theorem acalls_own {P:Program} {f:FuncId} {vs us:List V} {σ:Store} {Q:V→Store→List Nat→Prop}
  (hQ:∀ r s s' is,Q r s is→(∀ i∈is,s'[i]?=s[i]?)→Q r s' is) (hcl:∀ r s is,Q r s is→r.cl is=true∧ClS is s)
  (h:ACalls P f vs (dead σ.length) fun r σ'=>∃ τ is,σ'=dead σ.length++τ∧Q r σ' is∧Wi is σ.length σ'.length) (hs:SeesAs σ vs us) :
  ACalls P f us σ fun r σ'=>∃ τ is,σ'=σ++τ∧Q r σ' is∧Wi is σ.length σ'.length:=by
 refine ⟨h.1,fun x cargs hσ hx ha=>?_⟩
 subst hσ
 have:=h.2 (Cx.dead x.σ.length x.w) cargs rfl (wrel_dead _ x.w) (seesAs_rel_dead _ hx hs ha)
 refine Calls.mono this ?_
 rintro e w' ⟨v,y,r,rfl,rfl,⟨τ,is,hτ,hq,hw⟩,hv,hy,hxy⟩
 obtain ⟨hc1,hc2⟩:=hcl r y.σ is hq
 have hdl:(dead x.σ.length).length=x.σ.length:=by simp [dead]
 have hyF:∀ b,b<x.w.heap.size→y.F b:=fun b hb=>hxy.F b hb
 have hblk:∀ b,b<x.w.heap.size→y.w.heap[b]?=x.w.heap[b]?:=fun b hb=>hxy.block b hb
 have hylen:y.σ.length=x.σ.length+τ.length:=by rw [hτ]; simp [hdl]
 have hlo:∀ i∈is,x.σ.length≤i:=fun i hi=>(hw.2 i hi).1
 have hσ2:∀ i,x.σ.length≤i→(x.σ++pick is x.σ.length τ)[i]?=(y.σ[i]?).map fun o=>if is.contains i then o else .slc 0 []:=by
  intro i hi
  rw [List.getElem?_append_right hi,pick_get,hτ,List.getElem?_append_right (by rw [hdl]; exact hi),hdl,show x.σ.length+(i - x.σ.length)=i by omega]
 have hin:∀ i∈is,(x.σ++pick is x.σ.length τ)[i]?=y.σ[i]?:=by
  intro i hi
  rw [hσ2 i (hlo i hi)]
  have:is.contains i=true:=by simpa using hi
  simp only [this,if_true]
  cases y.σ[i]? <;> rfl
 have hon:On is y { ρ:=fun i=>if i<x.σ.length then x.ρ i else if is.contains i then y.ρ i else ⟨none,0⟩,F:=x.F,σ:=x.σ++pick is x.σ.length τ,w:=y.w } :=
  ⟨hin,fun i hi=>by
   have h1:=hlo i hi
   have:is.contains i=true:=by simpa using hi
   simp only [show ¬ i<x.σ.length by omega,if_false,this,if_true],rfl⟩
 have hext:Ext x { ρ:=fun i=>if i<x.σ.length then x.ρ i else if is.contains i then y.ρ i else ⟨none,0⟩,F:=x.F,σ:=x.σ++pick is x.σ.length τ,w:=y.w } :=
  ⟨hxy.os,hxy.tape,hxy.output,hxy.size,fun _ h=>h,fun b hb=>hblk b (hx.low b hb),fun id o ho=>by
   have hid:=(List.getElem?_eq_some_iff.1 ho).1
   exact ⟨o,by show (x.σ++pick is x.σ.length τ)[id]?=_; rw [List.getElem?_append_left hid]; exact ho,o.like_refl,Nat.le_refl _,fun _=>by simp [hid]⟩⟩
 have hnewblk:∀ i b o,y.σ[i]?=some o→(y.ρ i).blk=some b→x.w.heap.size≤b:=by
  intro i b o ho hb
  have:=(ORel.blk_lt (hy.objs i o ho) hb).2
  rcases Nat.lt_or_ge b x.w.heap.size with h' | h'
  ·exact (this (hyF b h')).elim
  ·exact h'
 have hobj:∀ i∈is,∃ o,y.σ[i]?=some o:=fun i hi=>let ⟨sz,rs,e,_⟩:=hc2 i hi; ⟨_,e⟩
 refine ⟨v,{ ρ:=fun i=>if i<x.σ.length then x.ρ i else if is.contains i then y.ρ i else ⟨none,0⟩,F:=x.F,σ:=x.σ++pick is x.σ.length τ,w:=y.w },r,rfl,rfl,
  ⟨pick is x.σ.length τ,is,rfl,hQ r y.σ _ is hq hin,hw.1,fun i hi=>⟨hlo i hi,?_⟩⟩,VRel.on hon r v hc1 hv,⟨fun id o ho=>?_,fun i j b hij hi hj hb=>?_,fun b hb=>Nat.lt_of_lt_of_le (hx.low b hb) hxy.size⟩,hext⟩
 ·have:=(hw.2 i hi).2
  simp only [List.length_append,pick_len]
  omega
 ·by_cases hid:id<x.σ.length
  ·have ho':x.σ[id]?=some o:=by
    have:(x.σ++pick is x.σ.length τ)[id]?=some o:=ho
    rwa [List.getElem?_append_left hid] at this
   exact ORel.keep hext (by simp [hid]) (fun b _ hlt hf=>⟨hblk b hlt,hf⟩) (hx.objs id o ho')
  ·by_cases hm:id∈is
   ·have ho':y.σ[id]?=some o:=by rw [← hin id hm]; exact ho
    obtain ⟨sz,rs,e1,e2⟩:=hc2 id hm
    rw [ho'] at e1
    obtain rfl:=Option.some.inj e1
    have hob:=hy.objs id _ ho'
    have hρ:=hon.ρ id hm
    have nF:∀ b,(y.ρ id).blk=some b→¬ x.F b:=fun b hb hF=>by
     have h1:=hnewblk id b _ ho' hb
     have h2:=hx.low b hF
     omega
    rcases hob with ⟨h1,h2⟩ | ⟨b,arr,ty,fr,l,h1,h2,h3,h4,h5,h6,h7,h8,h9⟩
    ·exact .inl ⟨h1,hρ.trans h2⟩
    ·exact .inr ⟨b,arr,ty,fr,l,hρ ▸ h1,nF b h1,h3,h4,hρ ▸ h5,hρ ▸ h6,h7,VsRel.on hon _ _ e2 h8,h9⟩
   ·have hm':is.contains id=false:=by simpa using hm
    have:(x.σ++pick is x.σ.length τ)[id]?=some o:=ho
    rw [hσ2 id (by omega)] at this
    simp only [hm'] at this
    obtain ⟨o',_,rfl⟩:=Option.map_eq_some_iff.1 this
    exact .inl ⟨.inl rfl,by simp [hid,hm]⟩
 ·simp only at hb ⊢
  by_cases h1:i<x.σ.length
  ·simp only [h1,if_true] at hb
   by_cases h2:j<x.σ.length
   ·simp only [h2,if_true]; exact hx.inj i j b hij h1 h2 hb
   ·simp only [h2,if_false]
    split
    ·rename_i hj'
     intro hb'
     obtain ⟨o,ho⟩:=hobj j (by simpa using hj')
     have:=hnewblk j b o ho hb'
     have:=(ORel.blk_lt (hx.objs i x.σ[i] (by simp [h1])) hb).1
     omega
    ·intro hb'; cases hb'
  ·simp only [h1,if_false] at hb
   split at hb
   ·rename_i hi'
    obtain ⟨oi,hoi⟩:=hobj i (by simpa using hi')
    by_cases h2:j<x.σ.length
    ·simp only [h2,if_true]
     intro hb'
     have:=hnewblk i b oi hoi hb
     have:=(ORel.blk_lt (hx.objs j x.σ[j] (by simp [h2])) hb').1
     omega
    ·simp only [h2,if_false]
     split
     ·rename_i hj'
      obtain ⟨oj,hoj⟩:=hobj j (by simpa using hj')
      exact hy.inj i j b hij (List.getElem?_eq_some_iff.1 hoi).1 (List.getElem?_eq_some_iff.1 hoj).1 hb
     ·intro hb'; cases hb'
   ·cases hb
end
theorem acalls_to {P:Program} {f:FuncId} {vs us:List V} {σ:Store} {t:T} (h:∀ σ,ACalls P f vs σ (ToR t σ)) (hs:SeesAs σ vs us):ACalls P f us σ (ToR t σ) :=
 acalls_own (Q:=fun r s is=>Own s t r is) (fun _ _ _ _ h k=>h.frame k) (fun _ _ _ h=>h.cl) ((h _).mono fun r σ' ⟨τ,is,h1,h2,h3⟩=>⟨τ,is,h1,h2,by simpa [dead] using h3⟩) hs
end Go.Ab
end
section
namespace Go.Ab
section
variable {mt:Nat→List UInt8}
mutual
def Sh.nar:Sh→Bool
 | .sl _ cs=>decide (cs.length≤256) && Sh.nars cs
 | _=>true
def Sh.nars:List Sh→Bool
 | []=>true
 | c::cs=>c.nar && Sh.nars cs
end
mutual
theorem mk_ub:∀ {t:T} {c:Sh} {k:Nat},c.nar=true→T.is c t→(T.mk mt k t).2≤k+1+256 * t.size
 | .int _ _,_,k,_,_=>by rw [mkc_int]; simp only; omega
 | .bool _,_,k,_,_=>by rw [mkc_bool]; simp only; omega
 | .str _,_,k,_,_=>by rw [mkc_str]; simp only; omega
 | .lst n rows,c,k,hc,ht=>by
  rw [mkc_lst,size_lst]
  simp only
  cases c with
  | sl m cs =>
   simp only [T.is] at ht
   obtain ⟨rows',he,hl,hr⟩:=ht
   cases he
   simp only [Sh.nar,Bool.and_eq_true,decide_eq_true_eq] at hc
   have:=mkR_ub (rows:=rows) (k:=k) hc.2 hc.1 hr
   omega
  | int _=>simp only [T.is] at ht; obtain ⟨_,he,_⟩:=ht; cases he
  | bool=>simp only [T.is] at ht; obtain ⟨_,he⟩:=ht; cases he
  | str=>simp only [T.is] at ht; obtain ⟨_,he,_⟩:=ht; cases he
theorem mkR_ub:∀ {rows:List (List T)} {cs:List Sh} {k:Nat},Sh.nars cs=true→cs.length≤256→(∀ r∈rows,T.isL cs r)→(T.mkR mt k rows).2≤k+256 * (rows.length+T.sizeR rows)
 | [],_,k,_,_,_=>by rw [mkR_nil]; simp
 | r::rows,cs,k,hc,hl,hr=>by
  rw [mkR_cons,sizeR_cons]
  simp only [List.length_cons]
  have h1:=mkL_ub (ts:=r) (k:=k) hc (hr r (by simp))
  have h2:=mkR_ub (rows:=rows) (k:=(T.mkL mt k r).2) hc hl fun r' h=>hr r' (by simp [h])
  have h3:=T.isL_len (hr r (by simp))
  omega
theorem mkL_ub:∀ {ts:List T} {cs:List Sh} {k:Nat},Sh.nars cs=true→T.isL cs ts→(T.mkL mt k ts).2≤k+ts.length+256 * T.sizeL ts
 | [],_,k,_,_=>by rw [mkL_nil]; simp
 | t::ts,cs,k,hc,ht=>by
  cases cs with
  | nil=>simp only [T.isL] at ht; cases ht
  | cons c cs =>
   simp only [T.isL] at ht
   obtain ⟨t',ts',he,h1,h2⟩:=ht
   cases he
   simp only [Sh.nars,Bool.and_eq_true] at hc
   rw [mkL_cons,sizeL_cons]
   simp only [List.length_cons]
   have g1:=mk_ub (t:=t) (k:=k) hc.1 h1
   have g2:=mkL_ub (ts:=ts) (k:=(T.mk mt k t).2) hc.2 h2
   omega
end
end
end Go.Ab
end
section
namespace Go.Ab
theorem ownL_flat {σ:Store}:∀ (r:List T),(∀ t∈r,scalar t=true)→OwnL σ r (r.map .t) []
 | [],_=>by simp only [List.map_nil]; exact .nil0
 | t::r,h=>by
  have h1:=h t (by simp)
  have h2:=ownL_flat (σ:=σ) r fun t ht=>h t (by simp [ht])
  cases t with
  | lst _ _=>simp [scalar] at h1
  | int _ _=>exact .int h2
  | bool _=>exact .bool h2
  | str _=>exact .str h2
theorem ownR_flat {σ:Store}:∀ (rows:List (List T)),(∀ r∈rows,∀ t∈r,scalar t=true)→OwnR σ rows (rows.map fun r=>r.map .t) []
 | [],_=>by simp [OwnR]
 | r::rows,h=>by
  simp only [List.map_cons]
  exact OwnR.cons (i:=[]) (j:=[]) (ownL_flat r (h r (by simp))) (ownR_flat rows fun r' hr=>h r' (by simp [hr]))
theorem own_rows {σ:Store} {id n:Nat} {rows:List (List T)} (hp:0<n) (h:∀ r∈rows,∀ t∈r,scalar t=true) (hs:σ[id]?=some (.slc n (rows.map fun r=>r.map .t))):Own σ (.lst n rows) (.sl id rows.length 0 rows.length) [id]:=by
 simp only [Own]
 exact ⟨hp,.inr ⟨id,[],_,rfl,by simp,hs,ownR_flat rows h⟩⟩
def Wj (is:List Nat) (a id b:Nat):Prop:=is.Nodup∧∀ i∈is,a≤i∧i<b∧i≠id
theorem Wj.cons {is:List Nat} {a id b:Nat} (h:Wj is a id b) (h1:a≤id) (h2:id<b):Wi (id::is) a b:=by
 refine ⟨List.nodup_cons.2 ⟨fun hm=>(h.2 id hm).2.2 rfl,h.1⟩,fun i hi=>?_⟩
 rcases List.mem_cons.1 hi with rfl | hi
 ·exact ⟨h1,h2⟩
 ·exact ⟨(h.2 i hi).1,(h.2 i hi).2.1⟩
end Go.Ab
end
section
namespace Go.Ab
mutual
def SeesF (n:Nat) (σ:Store):T→V→Prop
 | .int k m,v=>v=.t (.int k m)
 | .bool b,v=>v=.t (.bool b)
 | .str s,v=>v=.t (.str s)
 | .lst sz rows,v=>v=.t (.lst sz rows)∨(0<sz∧(∀ id g off len,v=.sl id g off len→n≤id)∧∃ rs,rowsOf σ sz v=some rs∧SeesFR n σ rows rs)
def SeesFR (n:Nat) (σ:Store):List (List T)→List (List V)→Prop
 | [],rs=>rs=[]
 | r::rows,rs=>∃ u us,rs=u::us∧SeesFL n σ r u∧SeesFR n σ rows us
def SeesFL (n:Nat) (σ:Store):List T→List V→Prop
 | [],us=>us=[]
 | t::ts,us=>∃ u us',us=u::us'∧SeesF n σ t u∧SeesFL n σ ts us'
end
theorem SeesFR.len {n:Nat} {σ:Store}:∀ {rows:List (List T)} {rs:List (List V)},SeesFR n σ rows rs→rows.length=rs.length
 | [],rs,h=>by simp only [SeesFR] at h; subst h; rfl
 | r::rows,rs,h=>by
  simp only [SeesFR] at h
  obtain ⟨u,us,rfl,_,h⟩:=h
  simp [h.len]
theorem SeesFL.len {n:Nat} {σ:Store}:∀ {ts:List T} {us:List V},SeesFL n σ ts us→ts.length=us.length
 | [],rs,h=>by simp only [SeesFL] at h; subst h; rfl
 | r::rows,rs,h=>by
  simp only [SeesFL] at h
  obtain ⟨u,us,rfl,_,h⟩:=h
  simp [h.len]
theorem seesF_t {n:Nat} {σ:Store} (t:T):SeesF n σ t (.t t):=by
 cases t with
 | lst sz rows=>simp only [SeesF]; exact .inl trivial
 | _=>simp only [SeesF]
theorem seesFL_t {n:Nat} {σ:Store}:∀ r:List T,SeesFL n σ r (r.map .t)
 | []=>by simp [SeesFL]
 | t::r=>by
  simp only [List.map_cons,SeesFL]
  exact ⟨_,_,rfl,seesF_t t,seesFL_t r⟩
theorem seesFR_t {n:Nat} {σ:Store}:∀ rows:List (List T),SeesFR n σ rows (rows.map fun r=>r.map .t)
 | []=>by simp [SeesFR]
 | r::rows=>by
  simp only [List.map_cons,SeesFR]
  exact ⟨_,_,rfl,seesFL_t r,seesFR_t rows⟩
theorem seesF_rows {n id sz:Nat} {σ:Store} {rows:List (List T)} (hp:0<sz) (hn:n≤id) (h:σ[id]?=some (.slc sz (rows.map fun r=>r.map .t))) {m:Nat} (hm:m=rows.length):SeesF n σ (.lst sz rows) (.sl id m 0 m):=by
 subst hm
 simp only [SeesF]
 refine .inr ⟨hp,(fun id' g off len e=>by cases e; exact hn),rows.map fun r=>r.map .t,?_,seesFR_t rows⟩
 simp only [rowsOf,h,List.length_map,and_self,if_true,List.drop_zero]
 rw [List.take_of_length_le (by simp)]
theorem seesF_nils {n sz:Nat} {σ:Store} (hp:0<sz):SeesF n σ (.lst sz []) .nils:=by
 simp only [SeesF]
 exact .inr ⟨hp,(fun _ _ _ _ e=>by cases e),[],by simp only [rowsOf],by simp only [SeesFR]⟩
mutual
theorem Own.seesF {n:Nat} {σ:Store}:∀ {t:T} {v:V} {is:List Nat},Own σ t v is→(∀ i∈is,n≤i)→SeesF n σ t v
 | .int _ _,_,_,h,_=>by simp only [Own] at h; simp only [SeesF]; exact h.1
 | .bool _,_,_,h,_=>by simp only [Own] at h; simp only [SeesF]; exact h.1
 | .str _,_,_,h,_=>by simp only [Own] at h; simp only [SeesF]; exact h.1
 | .lst sz rows,v,is,h,hn=>by
  simp only [Own] at h
  simp only [SeesF]
  obtain ⟨hp,⟨rfl,rfl,rfl | rfl⟩ | ⟨id,js,rs,rfl,rfl,h1,h2⟩⟩:=h
  ·exact .inr ⟨hp,(fun _ _ _ _ e=>by cases e),[],by simp only [rowsOf],by simp only [SeesFR]⟩
  ·exact .inr ⟨hp,(fun _ _ _ _ e=>by cases e),[],by simp [rowsOf],by simp only [SeesFR]⟩
  ·refine .inr ⟨hp,(fun id' g off len e=>by cases e; exact hn _ (by simp)),rs,?_,OwnR.seesF h2 fun i hi=>hn i (by simp [hi])⟩
   simp only [rowsOf,h1,and_self,if_true,List.drop_zero,List.take_length]
theorem OwnR.seesF {n:Nat} {σ:Store}:∀ {rows:List (List T)} {rs:List (List V)} {is:List Nat},OwnR σ rows rs is→(∀ i∈is,n≤i)→SeesFR n σ rows rs
 | [],_,_,h,_=>by simp only [OwnR] at h; simp only [SeesFR]; exact h.1
 | r::rows,rs,is,h,hn=>by
  simp only [OwnR] at h
  obtain ⟨u,us,i,j,rfl,rfl,h1,h2⟩:=h
  simp only [SeesFR]
  exact ⟨u,us,rfl,OwnL.seesF h1 fun x hx=>hn x (by simp [hx]),OwnR.seesF h2 fun x hx=>hn x (by simp [hx])⟩
theorem OwnL.seesF {n:Nat} {σ:Store}:∀ {ts:List T} {us:List V} {is:List Nat},OwnL σ ts us is→(∀ i∈is,n≤i)→SeesFL n σ ts us
 | [],_,_,h,_=>by simp only [OwnL] at h; simp only [SeesFL]; exact h.1
 | t::ts,us,is,h,hn=>by
  simp only [OwnL] at h
  obtain ⟨u,us',i,j,rfl,rfl,h1,h2⟩:=h
  simp only [SeesFL]
  exact ⟨u,us',rfl,Own.seesF h1 fun x hx=>hn x (by simp [hx]),OwnL.seesF h2 fun x hx=>hn x (by simp [hx])⟩
end
section
variable {y:Cx} {n:Nat}
def frzF (n:Nat) (y:Cx):Nat→Prop:=fun b=>y.F b∨∃ i,n≤i∧i<y.σ.length∧(y.ρ i).blk=some b
theorem rows_blk {sz:Nat} {u:V} {v:Value} {rs:List (List V)} (h:rowsOf y.σ sz u=some rs) (hr:VRel y u v) (hn:∀ id g off len,u=.sl id g off len→n≤id) (h0:rs≠[]) {b off m c:Nat} (hv:v=.slice (some ⟨b,off,none⟩) m c):frzF n y b:=by
 subst hv
 unfold rowsOf at h
 split at h
 ·obtain rfl:=Option.some.inj h
  exact (h0 rfl).elim
 ·rename_i s rows
  split at h
  ·obtain rfl:=Option.some.inj h
   simp only [VRel,TRel] at hr
   obtain ⟨a,c',hv,_,hr⟩:=hr
   simp only [Value.slice.injEq] at hv
   obtain ⟨rfl,rfl,rfl⟩:=hv
   rcases hr with hr | ⟨b',off',e,hF,_⟩
   ·exact (h0 (by rw [List.eq_nil_of_length_eq_zero hr]; rfl)).elim
   ·cases e
    exact .inl hF
  ·cases h
 ·rename_i s rows
  split at h
  ·obtain rfl:=Option.some.inj h
   simp only [VRel] at hr
   obtain ⟨a,hv,hr⟩:=hr
   simp only [Value.slice.injEq] at hv
   obtain ⟨rfl,rfl,rfl⟩:=hv
   rcases hr with hr | ⟨b',off',e,hF,_⟩
   ·exact (h0 (List.eq_nil_of_length_eq_zero hr)).elim
   ·cases e
    exact .inl hF
  ·cases h
 ·rename_i id g off' len
  split at h
  ·rename_i s rows ho
   split at h
   ·rename_i hg
    obtain rfl:=Option.some.inj h
    simp only [VRel] at hr
    obtain ⟨o,ho',_,a,c',hv,_,hr⟩:=hr
    rw [ho] at ho'
    obtain rfl:=Option.some.inj ho'
    simp only [Value.slice.injEq] at hv
    obtain ⟨rfl,rfl,rfl⟩:=hv
    obtain ⟨q1,q2,q3⟩:=hr hg.2
    rcases q2 with q2 | ⟨b',hb,e⟩
    ·subst q2; exact (h0 (by simp)).elim
    ·cases e
     exact .inr ⟨id,hn id _ _ _ rfl,(List.getElem?_eq_some_iff.1 ho).1,hb⟩
   ·cases h
  ·cases h
 ·cases h
mutual
theorem seesF_rel (hy:WRel y):∀ (t:T) (u:V) (c:Value),SeesF n y.σ t u→VRel y u c→TRel (frzF n y) y.w t c
 | .int k m,u,c,h,hr=>by simp only [SeesF] at h; subst h; simpa [VRel,TRel] using hr
 | .bool b,u,c,h,hr=>by simp only [SeesF] at h; subst h; simpa [VRel,TRel] using hr
 | .str s,u,c,h,hr=>by simp only [SeesF] at h; subst h; simpa [VRel,TRel] using hr
 | .lst sz rows,u,c,h,hr=>by
  simp only [SeesF] at h
  rcases h with rfl | ⟨hpos,hn,rs,h1,h2⟩
  ·simp only [VRel] at hr
   exact TRel.mono (fun b hb=>.inl hb) (fun b hb=>rfl) _ _ hr
  ·obtain ⟨ad,cp,hv,hrel⟩:=rowsOf_rel hy h1 hr
   obtain ⟨ad',n',c',hv',hle⟩:=rowsOf_cap h1 hr
   rw [hv] at hv'
   simp only [Value.slice.injEq] at hv'
   obtain ⟨rfl,rfl,rfl⟩:=hv'
   have hlen:=h2.len
   simp only [TRel]
   refine ⟨ad,cp,by rw [hlen]; exact hv,by omega,?_⟩
   by_cases h0:rows.length=0
   ·exact .inl h0
   ·rcases hrel with rfl | ⟨b,off,l,rfl,g1,g2,g3,g4⟩
    ·simp at hlen; exact (h0 (by simp [hlen])).elim
    ·refine .inr ⟨b,off,rfl,rows_blk h1 hr hn (fun e=>h0 (by rw [hlen,e]; rfl)) hv,seesF_rows' hy rows rs b off l h2 g1 g2 g3⟩
theorem seesF_rows' (hy:WRel y):∀ (rows:List (List T)) (rs:List (List V)) (b off:Nat) (l:List Value) {sz:Nat},SeesFR n y.σ rows rs→(∀ r∈rs,r.length=sz)→VsRel y rs.flatten l→(∀ j v,l[j]?=some v→y.w.cell? ⟨b,off+j,none⟩=some v)→TRows (frzF n y) y.w sz rows b off
 | [],rs,b,off,l,sz,_,_,_,_=>by simp [TRows]
 | r::rows,rs,b,off,l,sz,h,h1,h2,h3=>by
  simp only [SeesFR] at h
  obtain ⟨u,us,rfl,hr,h⟩:=h
  have hu:u.length=sz:=h1 u (by simp)
  have ht:=(show VsRel y (u++us.flatten) l by simpa using h2).take sz
  have hd:=(show VsRel y (u++us.flatten) l by simpa using h2).drop sz
  rw [← hu,List.take_left] at ht
  rw [← hu,List.drop_left] at hd
  simp only [TRows]
  refine ⟨by rw [hr.len]; exact hu,seesF_cells hy r u b off _ hr ht (fun j v hj=>?_),seesF_rows' hy rows us b (off+sz) _ h (fun r hm=>h1 r (by simp [hm])) hd (fun j v hj=>?_)⟩
  ·rw [List.getElem?_take] at hj
   split at hj
   ·exact h3 j v hj
   ·cases hj
  ·rw [List.getElem?_drop] at hj
   have:=h3 _ v hj
   rw [← hu,show off+u.length+j=off+(u.length+j) by omega]
   exact this
theorem seesF_cells (hy:WRel y):∀ (r:List T) (u:List V) (b off:Nat) (l:List Value),SeesFL n y.σ r u→VsRel y u l→(∀ j v,l[j]?=some v→y.w.cell? ⟨b,off+j,none⟩=some v)→TCells (frzF n y) y.w r b off
 | [],u,b,off,l,_,_,_=>by simp [TCells]
 | t::ts,us,b,off,l,h,h2,h3=>by
  simp only [SeesFL] at h
  obtain ⟨u,us',rfl,hu,h⟩:=h
  simp only [VsRel] at h2
  obtain ⟨c,cs,rfl,hc,h2⟩:=h2
  simp only [TCells]
  refine ⟨⟨c,by simpa using h3 0 c rfl,seesF_rel hy t u c hu hc⟩,seesF_cells hy ts us' b (off+1) cs h h2 fun j v hj=>?_⟩
  rw [show off+1+j=off+(j+1) by omega]
  exact h3 (j+1) v (by simpa using hj)
end
def FzA (n:Nat) (σ:Store) (v u:V):Prop:=(∃ t,v=.t t∧SeesF n σ t u)∨∃ ts us,v=.agg (ts.map .t)∧u=.agg us∧SeesFL n σ ts us
def FzAs (n:Nat) (σ:Store):List V→List V→Prop
 | [],us=>us=[]
 | v::vs,us=>∃ u us',us=u::us'∧FzA n σ v u∧FzAs n σ vs us'
def FzR (n:Nat) (σ:Store) (v u:V):Prop:=FzA n σ v u∨∃ vs us,v=.tup vs∧u=.tup us∧FzAs n σ vs us
def Cx.frzAll (y:Cx) (n:Nat):Cx:={ ρ:=y.ρ,F:=frzF n y,σ:=y.σ.take n,w:=y.w }
theorem seesFL_rel (hy:WRel y):∀ {ts:List T} {us:List V} {l:List Value},SeesFL n y.σ ts us→VsRel y us l→VsRel (y.frzAll n) (ts.map .t) l
 | [],us,l,h,hr=>by simp only [SeesFL] at h; subst h; simpa [VsRel] using hr
 | t::ts,us,l,h,hr=>by
  simp only [SeesFL] at h
  obtain ⟨u,us',rfl,hu,h⟩:=h
  simp only [VsRel] at hr
  obtain ⟨c,cs,rfl,hc,hr⟩:=hr
  simp only [List.map_cons,VsRel]
  exact ⟨c,cs,rfl,(by simp only [VRel]; exact seesF_rel hy t u c hu hc),seesFL_rel hy h hr⟩
theorem fzA_rel (hy:WRel y) {v u:V} {c:Value} (h:FzA n y.σ v u) (hr:VRel y u c):VRel (y.frzAll n) v c:=by
 rcases h with ⟨t,rfl,h⟩ | ⟨ts,us,rfl,rfl,h⟩
 ·simp only [VRel]; exact seesF_rel hy t u c h hr
 ·simp only [VRel] at hr ⊢
  obtain ⟨l,hc,hl⟩:=hr
  exact ⟨l,hc,seesFL_rel hy h hl⟩
theorem fzAs_rel (hy:WRel y):∀ {vs us:List V} {l:List Value},FzAs n y.σ vs us→VsRel y us l→VsRel (y.frzAll n) vs l
 | [],us,l,h,hr=>by simp only [FzAs] at h; subst h; simpa [VsRel] using hr
 | v::vs,us,l,h,hr=>by
  simp only [FzAs] at h
  obtain ⟨u,us',rfl,hu,h⟩:=h
  simp only [VsRel] at hr
  obtain ⟨c,cs,rfl,hc,hr⟩:=hr
  simp only [VsRel]
  exact ⟨c,cs,rfl,fzA_rel hy hu hc,fzAs_rel hy h hr⟩
theorem fzR_rel (hy:WRel y) {v u:V} {c:Value} (h:FzR n y.σ v u) (hr:VRel y u c):VRel (y.frzAll n) v c:=by
 rcases h with h | ⟨vs,us,rfl,rfl,h⟩
 ·exact fzA_rel hy h hr
 ·simp only [VRel] at hr ⊢
  obtain ⟨l,hc,hl⟩:=hr
  exact ⟨l,hc,fzAs_rel hy h hl⟩
theorem acalls_frz {P:Program} {f:FuncId} {args:List V} {σ:Store} {Q:V→Prop} (h:ACalls P f args σ fun r σ'=>∃ τ v,σ'=σ++τ∧FzR σ.length σ' v r∧Q v):ACalls P f args σ fun r σ'=>Q r∧σ'=σ:=by
 refine ⟨h.1,fun x cargs hσ hx ha=>?_⟩
 refine Calls.mono (h.2 x cargs hσ hx ha) ?_
 subst hσ
 rintro e w' ⟨v,y,r,rfl,rfl,⟨τ,v0,hτ,hfz,hQ⟩,hv,hy,hxy⟩
 have htake:y.σ.take x.σ.length=x.σ:=by rw [hτ]; exact List.take_left ..
 have hlen:y.σ.length=x.σ.length+τ.length:=by rw [hτ]; simp
 have hlt:ltσ x.σ.length (y.σ.take x.σ.length)=true:=by rw [htake]; exact hx.closed
 have hy1:=hy.cut hlt
 have hx1:Ext { y with σ:=y.σ.take x.σ.length } (y.frzAll x.σ.length):=⟨rfl,rfl,rfl,Nat.le_refl _,fun b hb=>.inl hb,fun _ _=>rfl,fun id o ho=>⟨o,ho,o.like_refl,Nat.le_refl _,fun _=>rfl⟩⟩
 have hin:∀ i,i<x.σ.length→i<y.σ.length:=fun i hi=>by omega
 refine ⟨v,y.frzAll x.σ.length,v0,rfl,rfl,⟨hQ,htake⟩,fzR_rel hy hfz hv,⟨fun id o ho=>?_,fun i j b hij hi hj=>?_,fun b hb=>?_⟩,?_⟩
 ·have ho':(y.σ.take x.σ.length)[id]?=some o:=ho
  have hid:id<x.σ.length:=by rw [htake] at ho'; exact (List.getElem?_eq_some_iff.1 ho').1
  refine ORel.keep hx1 rfl (fun b hb _ hF=>⟨rfl,?_⟩) (hy1.objs id o ho')
  rintro (h' | ⟨i,h1,h2,h3⟩)
  ·exact hF h'
  ·exact hy.inj id i b (by omega) (hin id hid) h2 hb h3
 ·have hl:((y.frzAll x.σ.length).σ).length=x.σ.length:=by show (y.σ.take x.σ.length).length=_; rw [htake]
  rw [hl] at hi hj
  exact hy.inj i j b hij (hin i hi) (hin j hj)
 ·rcases hb with hb | ⟨i,h1,h2,h3⟩
  ·exact hy.low b hb
  ·exact (ORel.blk_lt (hy.objs i y.σ[i] (by simp [h2])) h3).1
 ·refine ⟨hxy.os,hxy.tape,hxy.output,hxy.size,fun b hb=>.inl (hxy.F b hb),hxy.block,fun id o ho=>⟨o,by show (y.σ.take x.σ.length)[id]?=_; rw [htake]; exact ho,o.like_refl,Nat.le_refl _,fun _=>?_⟩⟩
  obtain ⟨o',ho',_,_,hρ⟩:=hxy.obj id o ho
  have hid:=(List.getElem?_eq_some_iff.1 ho).1
  rw [hτ,List.getElem?_append_left hid,ho] at ho'
  obtain rfl:=Option.some.inj ho'
  exact hρ rfl
end
section
variable {P:Program} {f:FuncId} {args:List V} {σ:Store}
theorem acalls_frz1 {t:T} (h:ACalls P f args σ fun r σ'=>∃ τ,σ'=σ++τ∧SeesF σ.length σ' t r):ACalls P f args σ fun r σ'=>r=.t t∧σ'=σ :=
 acalls_frz (Q:=fun r=>r=.t t) (h.mono fun r σ' ⟨τ,h1,h2⟩=>⟨τ,_,h1,.inl (.inl ⟨t,rfl,h2⟩),rfl⟩)
theorem acalls_frzL {ts:List T} (h:ACalls P f args σ fun r σ'=>∃ τ us,σ'=σ++τ∧r=.agg us∧SeesFL σ.length σ' ts us):ACalls P f args σ fun r σ'=>r=.agg (ts.map .t)∧σ'=σ :=
 acalls_frz (Q:=fun r=>r=.agg (ts.map .t)) (h.mono fun r σ' ⟨τ,us,h1,h2,h3⟩=>⟨τ,_,h1,.inl (.inr ⟨ts,us,rfl,h2,h3⟩),rfl⟩)
theorem acalls_frzT {t:T} (h:ACalls P f args σ (ToR t σ)):ACalls P f args σ fun r σ'=>r=.t t∧σ'=σ :=
 acalls_frz1 (h.mono fun r σ' ⟨τ,is,h1,h2,h3⟩=>⟨τ,h1,h2.seesF fun i hi=>(h3.2 i hi).1⟩)
theorem acalls_frzTL {ts:List T} (h:ACalls P f args σ (ToLR ts σ)):ACalls P f args σ fun r σ'=>r=.agg (ts.map .t)∧σ'=σ :=
 acalls_frzL (h.mono fun r σ' ⟨us,τ,is,h0,h1,h2,h3⟩=>⟨τ,us,h1,h0,h2.seesF fun i hi=>(h3.2 i hi).1⟩)
end
end Go.Ab
end
section
namespace Go.Ab
section
variable {X:Type} {b:Nat} {body:(Ex→St→Prop)→St→Prop} {Q:Ex→St→Prop} {e e':Env} {σ σ' τ:Store} {ks ks':List Nat} {vs:X→Env} {st:X→Store} {I:X→Prop} {ms:X→Nat} {x:X}
theorem loop_s (ks' ks:List Nat) (vs:X→Env) (st:X→Store) (I:X→Prop) (ms:X→Nat) (x0:X) (L:Nat) (hL:∀ x,(st x).length=L) (hb:b≤L) (hI:I x0) (hs:σ=st x0) (h1:keep ks' e=vs x0++keep ks e)
  (h3:∀ x,I x→body (thenK (LK b ks' ks vs st I ms e (fun _=>L) x) Q) ⟨.go,vs x++keep ks e,st x⟩):LoopV b body Q ⟨.go,e,σ⟩:=by
 subst hs
 refine ⟨ks',fun _=>L,LJ ks vs st I ms e,ms x0,?_,⟨x0,hI,rfl,?_⟩,?_⟩
 ·have:=cut_all (e:=e) (ks:=ks') (σ:=st x0) (b:=b) (by rw [hL]; exact hb)
  rw [hL] at this; exact this
 ·simp only [St.cut,h1]
  rw [List.take_of_length_le (by rw [hL]; exact Nat.le_refl _)]
 ·rintro n s' ⟨x,hx,rfl,rfl⟩
  exact h3 x hx
theorem lk_s {L:Nat} (x':X) (hL:(st x').length=L) (hb:b≤L) (hs:σ'=st x'++τ) (hm:ms x'<ms x) (hI:I x') (hσ:ltσ L (st x')=true) (hl:ltE L (keep ks' e')=true) (he:keep ks' e'=vs x'++keep ks e):LK b ks' ks vs st I ms e (fun _=>L) x ⟨.go,e',σ'⟩:=by
 subst hs
 have ht:(st x'++τ).take L=st x':=by rw [← hL]; exact List.take_left ..
 refine ⟨⟨hb,.inr ⟨hl,?_⟩⟩,_,hm,x',hI,rfl,?_⟩
 ·show ltσ L ((st x'++τ).take L)=true
  rw [ht]; exact hσ
 ·simp only [St.cut,he,ht]
theorem lk_s0 {L:Nat} (x':X) (hL:(st x').length=L) (hb:b≤L) (hs:σ'=st x') (hm:ms x'<ms x) (hI:I x') (he:keep ks' e'=vs x'++keep ks e):LK b ks' ks vs st I ms e (fun _=>L) x ⟨.go,e',σ'⟩:=by
 subst hs
 refine ⟨?_,_,hm,x',hI,rfl,?_⟩
 ·have:=cut_all (e:=e') (ks:=ks') (σ:=st x') (b:=b) (by rw [hL]; exact hb)
  rw [hL] at this; exact this
 ·simp only [St.cut,he]
  rw [List.take_of_length_le (by rw [hL]; exact Nat.le_refl _)]
end
abbrev tObj (n:Nat) (rows:List (List T)):Go.Ab.Obj:=.slc n (rows.map fun r=>r.map .t)
def Anew (n:Nat) (rows:List (List T)) (σ:Store) (r:V) (σ':Store):Prop:=r=.sl σ.length rows.length 0 rows.length∧σ'=σ++[tObj n rows]
theorem Anew.toR {n:Nat} {rows:List (List T)} {σ σ':Store} {r:V} (h:Anew n rows σ r σ') (hp:0<n) (hs:∀ r∈rows,∀ t∈r,scalar t=true):ToR (.lst n rows) σ r σ':=by
 obtain ⟨rfl,rfl⟩:=h
 refine ⟨_,[σ.length],rfl,?_,Wi.cons (Wi.nil (a:=σ.length+1)) (by omega) (by omega) (by simp)⟩
 exact own_rows (σ:=σ++[tObj n rows]) (id:=σ.length) (n:=n) hp hs (by simp)
theorem Anew.sees {n:Nat} {rows:List (List T)} {σ σ':Store} {r:V} (h:Anew n rows σ r σ') (hp:0<n):∃ τ,σ'=σ++τ∧SeesF σ.length σ' (.lst n rows) r:=by
 obtain ⟨rfl,rfl⟩:=h
 exact ⟨_,rfl,seesF_rows hp (Nat.le_refl _) (by simp) rfl⟩
mutual
def Sh.pos:Sh→Bool
 | .sl n cs=>decide (0<n) && Sh.poss cs
 | _=>true
def Sh.poss:List Sh→Bool
 | []=>true
 | c::cs=>c.pos && Sh.poss cs
end
mutual
theorem sees_is {σ:Store}:∀ {t:T} {c:Sh},c.pos=true→T.is c t→Sees σ t (.t t)
 | .int _ _,_,_,_=>by simp only [Sees]
 | .bool _,_,_,_=>by simp only [Sees]
 | .str _,_,_,_=>by simp only [Sees]
 | .lst n rows,c,hc,ht=>by
  cases c with
  | sl m cs =>
   simp only [T.is] at ht
   obtain ⟨rows',he,hl,hr⟩:=ht
   cases he
   simp only [Sh.pos,Bool.and_eq_true,decide_eq_true_eq] at hc
   simp only [Sees]
   exact ⟨rows.map fun r=>r.map .t,by simp only [rowsOf,if_true],seesR_is hc.2 hr,hc.1⟩
  | int _=>simp only [T.is] at ht; obtain ⟨_,he,_⟩:=ht; cases he
  | bool=>simp only [T.is] at ht; obtain ⟨_,he⟩:=ht; cases he
  | str=>simp only [T.is] at ht; obtain ⟨_,he,_⟩:=ht; cases he
theorem seesR_is {σ:Store}:∀ {rows:List (List T)} {cs:List Sh},Sh.poss cs=true→(∀ r∈rows,T.isL cs r)→SeesRows σ rows (rows.map fun r=>r.map .t)
 | [],_,_,_=>by simp [SeesRows]
 | r::rows,cs,hc,hr=>by
  simp only [List.map_cons,SeesRows]
  exact ⟨_,_,rfl,seesL_is hc (hr r (by simp)),seesR_is hc fun r' h=>hr r' (by simp [h])⟩
theorem seesL_is {σ:Store}:∀ {ts:List T} {cs:List Sh},Sh.poss cs=true→T.isL cs ts→SeesL σ ts (ts.map .t)
 | [],_,_,_=>by simp [SeesL]
 | t::ts,cs,hc,ht=>by
  cases cs with
  | nil=>simp only [T.isL] at ht; cases ht
  | cons c cs =>
   simp only [T.isL] at ht
   obtain ⟨t',ts',he,h1,h2⟩:=ht
   cases he
   simp only [Sh.poss,Bool.and_eq_true] at hc
   simp only [List.map_cons,SeesL]
   exact ⟨_,_,rfl,sees_is hc.1 h1,seesL_is hc.2 h2⟩
end
end Go.Ab
end
section
namespace Go.Ab
def Kp (s s':Store):Prop:=∀ j,j<s.length→s'[j]?=s[j]?
theorem Kp.app (s τ:Store):Kp s (s++τ):=fun j hj=>List.getElem?_append_left hj
theorem Kp.box {s s':Store} {p:Nat} {o:Go.Ab.Obj} (k:Kp s s') (e:s[p]?=some o):s'[p]?=some o:=(k p (List.getElem?_eq_some_iff.1 e).1).trans e
theorem Kp.own {s s':Store} (k:Kp s s') {t:T} {u:V} {is:List Nat} (h:Own s t u is):Own s' t u is:=h.frame fun i hi=>k i (h.lt i hi)
def Kb (js:List Nat) (s s':Store):Prop:=∀ j,j<s.length→j∉js→s'[j]?=s[j]?
theorem Kb.box {js:List Nat} {s s':Store} {p:Nat} {o:Go.Ab.Obj} (k:Kb js s s') (e:s[p]?=some o) (hp:p∉js):s'[p]?=some o:=(k p (List.getElem?_eq_some_iff.1 e).1 hp).trans e
theorem Kb.own {js:List Nat} {s s':Store} (k:Kb js s s') {t:T} {u:V} {is:List Nat} (h:Own s t u is) (hd:∀ i∈is,i∉js):Own s' t u is:=h.frame fun i hi=>k i (h.lt i hi) (hd i hi)
section
variable {P:Program} {f:FuncId} {us vs:List V} {s:Store} {K:Tok→V→Store→Prop}
theorem call_new {t:T} (h:ACalls P f us s (ToR t s)) (hk:∀ u s' is,s.length≤s'.length→Kp s s'→Own s' t u is→Wi is s.length s'.length→K .go u s'):callV P s (some (.fn (.func f) [])) (some us) K:=by
 refine call_by (by rw [List.append_nil]; exact h) ?_
 rintro r σ' ⟨τ,is,rfl,h1,h2⟩
 exact hk _ _ is (by simp) (Kp.app _ _) h1 h2
theorem call_newL {ts:List T} (h:ACalls P f us s (ToLR ts s)) (hk:∀ u s' is,s.length≤s'.length→Kp s s'→OwnL s' ts u is→Wi is s.length s'.length→K .go (.agg u) s'):callV P s (some (.fn (.func f) [])) (some us) K:=by
 refine call_by (by rw [List.append_nil]; exact h) ?_
 rintro r σ' ⟨us,τ,is,rfl,rfl,h1,h2⟩
 exact hk _ _ is (by simp) (Kp.app _ _) h1 h2
end
theorem take_all {us:List V} {n:Nat} (h:us.length=n):us.take n=us:=List.take_of_length_le (by omega)
end Go.Ab
end
section
namespace Go.Ab
def noRows (v:V):Prop:=∀ m x,v≠.rows m x
theorem noRows_nils:noRows .nils:=fun _ _ h=>by cases h
theorem noRows_sl {i g o l:Nat}:noRows (.sl i g o l):=fun _ _ h=>by cases h
theorem Wi.nodup {is:List Nat} {a b:Nat} (w:Wi is a b):is.Nodup:=w.1
theorem Kb.le {js:List Nat} {s s':Store} (h:Kp s s'):Kb js s s':=fun j hj _=>h j hj
theorem kp_app2 {s s' τ:Store} (h:Kp s s'):Kp s (s'++τ):=fun j hj=>by
 have:=h j hj
 have hl:j<s'.length:=by
  rcases Nat.lt_or_ge j s'.length with h' | h'
  ·exact h'
  ·rw [List.getElem?_eq_none h',List.getElem?_eq_getElem hj] at this; cases this
 rw [List.getElem?_append_left hl]; exact this
theorem app_own' {n bys a:Nat} {s:Store} {rows:List (List T)} {r:List T} {v:V} {us:List V} {is js:List Nat} {K:Tok→V→Store→Prop}
  (ho:Own s (.lst n rows) v is) (hw:Wi is a s.length) (hr:OwnL s r us js) (hj:Wi js a s.length) (hd:∀ i∈is,i∉js) (ha:a≤s.length) (hb:(rows.length+1) * bys≤maxBy) (hm:rows.length+1≤9223372036854775807)
  (hk:∀ v' s' is',s.length≤s'.length→Kb is s s'→Own s' (.lst n (rows++[r])) v' is'→noRows v'→Wi is' a s'.length→K .go v' s'):evAppend n bys s [us] v K:=by
 simp only [Own] at ho
 obtain ⟨hp,⟨rfl,rfl,rfl | rfl⟩ | ⟨id,js0,rs,rfl,rfl,h1,h2⟩⟩:=ho
 ·simp only [evAppend,List.length_cons,List.length_nil]
  refine ⟨by simpa using hb,by omega,hk _ _ (s.length::js) (by simp) (Kb.le (Kp.app _ _)) ?_ noRows_sl ?_⟩
  ·simp only [Own,List.nil_append]
   refine ⟨hp,.inr ⟨s.length,js,[us],rfl,by simp,by simp,OwnR.one (hr.frame fun i hi=>?_)⟩⟩
   exact List.getElem?_append_left (hj.2 i hi).2
  ·refine ⟨List.nodup_cons.2 ⟨fun h=>by have:=hj.2 _ h; omega,hj.1⟩,fun i hi=>?_⟩
   simp only [List.length_append,List.length_cons,List.length_nil]
   rcases List.mem_cons.1 hi with rfl | hi
   ·omega
   ·have:=hj.2 i hi; omega
 ·simp only [evAppend,List.length_cons,List.length_nil]
  refine ⟨trivial,by simpa using hb,by omega,fun h=>by simp at h,fun _=>hk _ _ (s.length::js) (by simp) (Kb.le (Kp.app _ _)) ?_ noRows_sl ?_⟩
  ·simp only [Own,List.nil_append]
   refine ⟨hp,.inr ⟨s.length,js,[us],rfl,by simp,by simp,OwnR.one (hr.frame fun i hi=>?_)⟩⟩
   exact List.getElem?_append_left (hj.2 i hi).2
  ·refine ⟨List.nodup_cons.2 ⟨fun h=>by have:=hj.2 _ h; omega,hj.1⟩,fun i hi=>?_⟩
   simp only [List.length_append,List.length_cons,List.length_nil]
   rcases List.mem_cons.1 hi with rfl | hi
   ·omega
   ·have:=hj.2 i hi; omega
 ·have hlen:=h2.len
  have hid:=hw.2 id (by simp)
  simp only [evAppend,h1,onSlc,List.length_cons,List.length_nil]
  refine ⟨trivial,trivial,trivial,trivial,by rw [hlen]; exact hb,by omega,hk _ _ (id::(js0++js)) (by simp) ?_ ?_ noRows_sl ?_⟩
  ·intro j hj1 hj2
   exact List.getElem?_set_ne (fun e=>hj2 (by rw [← e]; simp))
  ·simp only [Own]
   refine ⟨hp,.inr ⟨id,js0++js,rs++[us],rfl,by simp,by simp [hid.2],OwnR.app (h2.frame fun i hi=>?_) (OwnR.one (hr.frame fun i hi=>?_))⟩⟩
   ·refine List.getElem?_set_ne (fun e=>?_)
    subst e
    exact (List.nodup_cons.1 hw.1).1 hi
   ·refine List.getElem?_set_ne (fun e=>?_)
    subst e
    exact hd id (by simp) hi
  ·have hn:=List.nodup_cons.1 hw.1
   refine ⟨List.nodup_cons.2 ⟨fun h=>?_,List.nodup_append.2 ⟨hn.2,hj.1,fun x hx y hy he=>hd x (by simp [hx]) (he ▸ hy)⟩⟩,fun i hi=>?_⟩
   ·rcases List.mem_append.1 h with h | h
    ·exact hn.1 h
    ·exact hd id (by simp) h
   ·simp only [List.length_set]
    rcases List.mem_cons.1 hi with rfl | hi
    ·exact hid
    ·rcases List.mem_append.1 hi with hi | hi
     ·exact hw.2 i (by simp [hi])
     ·exact hj.2 i hi
theorem app_own {n bys a:Nat} {s:Store} {rows:List (List T)} {r:List T} {v:V} {us:List V} {is js:List Nat} {K:Tok→V→Store→Prop}
  (ho:Own s (.lst n rows) v is) (hv:noRows v) (hw:Wi is a s.length) (hr:OwnL s r us js) (hj:Wi js a s.length) (hd:∀ i∈is,i∉js) (ha:a≤s.length) (hb:(rows.length+1) * bys≤maxBy) (hm:rows.length+1≤9223372036854775807)
  (hk:∀ v' s' is',s.length≤s'.length→Kb is s s'→Own s' (.lst n (rows++[r])) v' is'→noRows v'→Wi is' a s'.length→K .go v' s'):evAppend n bys s [us] v K :=
 app_own' ho hw hr hj hd ha hb hm hk
theorem ownL_flat_inv {s:Store}:∀ {r:List T} {us:List V} {is:List Nat},(∀ t∈r,scalar t=true)→OwnL s r us is→us=r.map .t∧is=[]
 | [],us,is,_,h=>by simp only [OwnL] at h; exact h
 | t::r,us,is,hf,h=>by
  simp only [OwnL] at h
  obtain ⟨u,us',i,j,rfl,rfl,h1,h2⟩:=h
  obtain ⟨rfl,rfl⟩:=ownL_flat_inv (fun t ht=>hf t (by simp [ht])) h2
  have:=hf t (by simp)
  cases t with
  | lst _ _=>simp [scalar] at this
  | _=>simp only [Own] at h1; obtain ⟨rfl,rfl⟩:=h1; exact ⟨rfl,rfl⟩
theorem ownR_flat_inv {s:Store}:∀ {rows:List (List T)} {rs:List (List V)} {is:List Nat},(∀ r∈rows,∀ t∈r,scalar t=true)→OwnR s rows rs is→rs=rows.map (fun r=>r.map .t)∧is=[]
 | [],rs,is,_,h=>by simp only [OwnR] at h; exact h
 | r::rows,rs,is,hf,h=>by
  simp only [OwnR] at h
  obtain ⟨u,us',i,j,rfl,rfl,h1,h2⟩:=h
  obtain ⟨rfl,rfl⟩:=ownL_flat_inv (hf r (by simp)) h1
  obtain ⟨rfl,rfl⟩:=ownR_flat_inv (fun r hr=>hf r (by simp [hr])) h2
  exact ⟨rfl,rfl⟩
theorem own_obj {s:Store} {n:Nat} {rows:List (List T)} {u:V} {is:List Nat} (h:Own s (.lst n rows) u is) (hf:∀ r∈rows,∀ t∈r,scalar t=true) :
  (rows=[]∧is=[]∧(u=.nils∨u=.rows n []))∨∃ id,is=[id]∧u=.sl id rows.length 0 rows.length∧s[id]?=some (tObj n rows):=by
 simp only [Own] at h
 obtain ⟨_,h | ⟨id,js,rs,rfl,rfl,h1,h2⟩⟩:=h
 ·exact .inl h
 ·obtain ⟨rfl,rfl⟩:=ownR_flat_inv hf h2
  exact .inr ⟨id,rfl,by simp,h1⟩
theorem own_flat {s:Store} {n:Nat} {rows:List (List T)} (hp:0<n) (h:∀ r∈rows,∀ t∈r,scalar t=true) {m:Nat} (hm:m=rows.length):Own (s++[tObj n rows]) (.lst n rows) (.sl s.length m 0 m) [s.length]:=by
 subst hm
 exact own_rows hp h (by simp)
theorem wi_one (a:Nat):Wi [a] a (a+1):=⟨by simp,fun i hi=>by simp at hi; omega⟩
structure Ga where
 k:Nat
 v:V
 s:Store
 is:List Nat
def OI (s0:Store) (n:Nat) (rows:List (List T)) (g:Ga):Prop:=g.k≤rows.length∧s0.length≤g.s.length∧Kp s0 g.s∧Own g.s (.lst n (rows.take g.k)) g.v g.is∧noRows g.v∧Wi g.is s0.length g.s.length
theorem Kp.refl (s:Store):Kp s s:=fun _ _=>rfl
theorem Kp.trans {s s' s'':Store} (h:Kp s s') (hl:s.length≤s'.length) (k:Kp s' s''):Kp s s'':=fun j hj=>(k j (by omega)).trans (h j hj)
theorem OI.nil {s:Store} {n:Nat} {rows:List (List T)} (hp:0<n):OI s n rows ⟨0,.nils,s,[]⟩ :=
 ⟨Nat.zero_le _,Nat.le_refl _,Kp.refl s,by simp [Own,hp],noRows_nils,Wi.nil⟩
theorem OI.lit {s:Store} {n:Nat} {rows:List (List T)} (hp:0<n):OI s n rows ⟨0,.sl s.length 0 0 0,s++[.slc n []],[s.length]⟩:=by
 refine ⟨Nat.zero_le _,by simp,Kp.app _ _,?_,noRows_sl,Wi.cons (Wi.nil (a:=s.length+1)) (by omega) (by omega) (by simp)⟩
 simp only [List.take_zero,Own]
 exact ⟨hp,.inr ⟨s.length,[],[],rfl,rfl,by simp,by simp [OwnR]⟩⟩
theorem OI.lit' {s0 s:Store} {n id:Nat} {rows:List (List T)} (hp:0<n) (hs:s=s0++[.slc n []]) (hid:id=s0.length):OI s0 n rows ⟨0,.sl id 0 0 0,s,[id]⟩:=by
 subst hs hid
 exact OI.lit hp
theorem kp_split {s s':Store} (h:Kp s s') (hl:s.length≤s'.length):s'=s++s'.drop s.length:=by
 apply List.ext_getElem?
 intro i
 rcases Nat.lt_or_ge i s.length with hi | hi
 ·rw [List.getElem?_append_left hi,h i hi]
 ·rw [List.getElem?_append_right hi,List.getElem?_drop,show s.length+(i - s.length)=i by omega]
theorem Kp.set {s s':Store} (h:Kp s s') {p:Nat} {o:Go.Ab.Obj} (hp:s.length≤p):Kp s (s'.set p o):=fun j hj=>by
 rw [List.getElem?_set_ne (by omega)]; exact h j hj
theorem Kp.kb {s0 s1 s2:Store} {is:List Nat} {b:Nat} (h:Kp s0 s1) (hl:s0.length≤s1.length) (k:Kb is s1 s2) (w:Wi is s0.length b):Kp s0 s2:=fun j hj =>
 (k j (by omega) (fun hm=>by have:=w.2 j hm; omega)).trans (h j hj)
theorem OI.next {s0 s1 s2:Store} {n k:Nat} {rows:List (List T)} {r:List T} {v':V} {is is':List Nat} (hk:Kp s0 s1) (hl:s0.length≤s1.length) (hx:rows[k]?=some r) (kb:Kb is s1 s2) {b:Nat} (w:Wi is s0.length b) (h12:s1.length≤s2.length)
  (ho:Own s2 (.lst n (rows.take k++[r])) v' is') (hv:noRows v') (hw:Wi is' s0.length s2.length):OI s0 n rows ⟨k+1,v',s2,is'⟩:=by
 have:=(List.getElem?_eq_some_iff.1 hx).1
 refine ⟨this,?_,hk.kb hl kb w,by rw [take_of hx]; exact ho,hv,hw⟩
 show s0.length≤s2.length
 omega
theorem set_own {s:Store} {p:Nat} {o:Go.Ab.Obj} {t:T} {u:V} {is:List Nat} (h:Own s t u is) (hp:p∉is):Own (s.set p o) t u is :=
 h.frame fun i hi=>List.getElem?_set_ne (fun e=>hp (by rw [e]; exact hi))
theorem OwnL.get {σ:Store}:∀ {ts:List T} {us:List V} {is:List Nat} {k:Nat} {t:T},OwnL σ ts us is→ts[k]?=some t→∃ u js,us[k]?=some u∧Own σ t u js∧js.Nodup=js.Nodup∧(∀ j∈js,j∈is)∧(is.Nodup→js.Nodup)
 | [],_,_,_,_,_,h=>by simp at h
 | t::ts,us,is,k,t',h,hk=>by
  simp only [OwnL] at h
  obtain ⟨u,us',i,j,rfl,rfl,h1,h2⟩:=h
  cases k with
  | zero =>
   simp only [List.getElem?_cons_zero,Option.some.injEq] at hk
   subst hk
   exact ⟨u,i,rfl,h1,rfl,fun x hx=>by simp [hx],fun hn=>(List.nodup_append.1 hn).1⟩
  | succ k =>
   obtain ⟨v,js,g1,g2,g3,g4,g5⟩:=h2.get (k:=k) (by simpa using hk)
   exact ⟨v,js,by simpa using g1,g2,g3,fun x hx=>by simp [g4 x hx],fun hn=>g5 (List.nodup_append.1 hn).2.1⟩
end Go.Ab
end
section
namespace Go.Ab
def flat (rows:List (List T)):Prop:=∀ r∈rows,∀ t∈r,scalar t=true
theorem flat.take {rows:List (List T)} (h:flat rows) (k:Nat):flat (rows.take k):=fun r hr=>h r (List.mem_of_mem_take hr)
def Fl (s:Store) (n:Nat) (rows:List (List T)) (v:V):Prop :=
 (rows=[]∧(v=.nils∨v=.rows n []))∨∃ id g off rs,v=.sl id g off rows.length∧s[id]?=some (.slc n rs)∧g=rs.length∧off+rows.length≤rs.length∧(rs.drop off).take rows.length=rows.map fun r=>r.map .t
theorem Fl.len {s:Store} {n:Nat} {rows:List (List T)} {v:V} (h:Fl s n rows v):lenSl v=some rows.length:=by
 rcases h with ⟨rfl,rfl | rfl⟩ | ⟨id,g,off,rs,rfl,_⟩ <;> rfl
theorem Fl.one {s:Store} {n:Nat} {rows:List (List T)} {v:V} (h:Fl s n rows v):Go.Ab.one v=true:=by
 rcases h with ⟨rfl,rfl | rfl⟩ | ⟨id,g,off,rs,rfl,_⟩ <;> rfl
theorem sees_sc {σ:Store} {t:T} (h:scalar t=true):Sees σ t (.t t):=by
 cases t <;> simp [scalar] at h <;> simp only [Sees]
theorem seesL_sc {σ:Store}:∀ {r:List T},(∀ t∈r,scalar t=true)→SeesL σ r (r.map .t)
 | [],_=>by simp [SeesL]
 | t::r,h=>by
  simp only [List.map_cons,SeesL]
  exact ⟨_,_,rfl,sees_sc (h t (by simp)),seesL_sc fun t ht=>h t (by simp [ht])⟩
theorem seesR_sc {σ:Store}:∀ {rows:List (List T)},flat rows→SeesRows σ rows (rows.map fun r=>r.map .t)
 | [],_=>by simp [SeesRows]
 | r::rows,h=>by
  simp only [List.map_cons,SeesRows]
  exact ⟨_,_,rfl,seesL_sc (h r (by simp)),seesR_sc fun r' hr=>h r' (by simp [hr])⟩
theorem Fl.sees {s:Store} {n:Nat} {rows:List (List T)} {v:V} (h:Fl s n rows v) (hf:flat rows) (hp:0<n):Sees s (.lst n rows) v:=by
 simp only [Sees]
 rcases h with ⟨rfl,rfl | rfl⟩ | ⟨id,g,off,rs,rfl,h1,h2,h3,h4⟩
 ·exact ⟨[],by simp only [rowsOf],by simp [SeesRows],hp⟩
 ·exact ⟨[],by simp [rowsOf],by simp [SeesRows],hp⟩
 ·refine ⟨rows.map fun r=>r.map .t,?_,seesR_sc hf,hp⟩
  simp only [rowsOf,h1,h2,and_self,if_true,h4]
theorem Fl.kp {s s':Store} {n:Nat} {rows:List (List T)} {v:V} (h:Fl s n rows v) (k:Kp s s'):Fl s' n rows v:=by
 rcases h with h | ⟨id,g,off,rs,h0,h1,h2⟩
 ·exact .inl h
 ·exact .inr ⟨id,g,off,rs,h0,k.box h1,h2⟩
theorem app_flat {n bys:Nat} {s:Store} {rows:List (List T)} {r:List T} {v:V} {is:List Nat} {K:Tok→V→Store→Prop}
  (ho:Own s (.lst n rows) v is) (hn:is.Nodup) (hr:∀ t∈r,scalar t=true) (hb:(rows.length+1) * bys≤maxBy) (hm:rows.length+1≤9223372036854775807)
  (hk:∀ v' s' is',s.length≤s'.length→s'.length≤s.length+1→Kb is s s'→Own s' (.lst n (rows++[r])) v' is'→((is'=is∧s'.length=s.length)∨(is=[]∧is'=[s.length]∧s'.length=s.length+1))→K .go v' s'):evAppend n bys s [r.map .t] v K:=by
 simp only [Own] at ho
 obtain ⟨hp,⟨rfl,rfl,rfl | rfl⟩ | ⟨id,js0,rs,rfl,rfl,h1,h2⟩⟩:=ho
 ·simp only [evAppend,List.length_cons,List.length_nil]
  refine ⟨by simpa using hb,by omega,hk _ _ [s.length] (by simp) (by simp) (Kb.le (Kp.app _ _)) ?_ (.inr ⟨rfl,rfl,by simp⟩)⟩
  simp only [Own,List.nil_append]
  exact ⟨hp,.inr ⟨s.length,[],[r.map .t],rfl,by simp,by simp,OwnR.one (ownL_flat r hr)⟩⟩
 ·simp only [evAppend,List.length_cons,List.length_nil]
  refine ⟨trivial,by simpa using hb,by omega,fun h=>by simp at h,fun _=>hk _ _ [s.length] (by simp) (by simp) (Kb.le (Kp.app _ _)) ?_ (.inr ⟨rfl,rfl,by simp⟩)⟩
  simp only [Own,List.nil_append]
  exact ⟨hp,.inr ⟨s.length,[],[r.map .t],rfl,by simp,by simp,OwnR.one (ownL_flat r hr)⟩⟩
 ·have hlen:=h2.len
  have hid:=(List.getElem?_eq_some_iff.1 h1).1
  simp only [evAppend,h1,onSlc,List.length_cons,List.length_nil]
  refine ⟨trivial,trivial,trivial,trivial,by rw [hlen]; exact hb,by omega,hk _ _ (id::js0) (by simp) (by simp) ?_ ?_ (.inl ⟨rfl,by simp⟩)⟩
  ·intro j hj1 hj2
   exact List.getElem?_set_ne (fun e=>hj2 (by rw [← e]; simp))
  ·simp only [Own]
   refine ⟨hp,.inr ⟨id,js0,rs++[r.map .t],rfl,by simp,by simp [hid],?_⟩⟩
   have h3:=OwnR.app (h2.frame (σ':=s.set id (.slc n (rs++[r.map .t]))) fun i hi=>?_) (OwnR.one (ownL_flat r hr))
   ·rw [List.append_nil] at h3; exact h3
   ·refine List.getElem?_set_ne (fun e=>?_)
    subst e
    exact (List.nodup_cons.1 hn).1 hi
end Go.Ab
end
section
namespace Go.Ab
def KeyOf {α:Type} [DecidableEq α] (κ:α→V):Prop:=∀ a b,kEq (κ a) (κ b)=decide (a=b)
structure MapIs {α:Type} [DecidableEq α] (κ:α→V) (c:Nat) (es:List ME) (f:α→Option V):Prop where
 nd:(es.map ME.b).Nodup
 lt:∀ e∈es,e.b<c
 ks:∀ e∈es,∃ a,e.k=κ a
 vs:∀ a,(findM (κ a) es).map ME.v=f a
def updF {α:Type} [DecidableEq α] (f:α→Option V) (a:α) (x:V):α→Option V:=fun b=>if b=a then some x else f b
section
variable {α:Type} [DecidableEq α] {κ:α→V} {c:Nat} {es:List ME} {f:α→Option V}
theorem MapIs.nil:MapIs κ c [] (fun _=>none):=⟨by simp,by simp,by simp,fun a=>rfl⟩
theorem valOr_map {z:V} {r:Option ME}:valOr z r=(r.map ME.v).getD z:=by cases r <;> rfl
theorem MapIs.val (h:MapIs κ c es f) (z:V) (a:α):valOr z (findM (κ a) es)=(f a).getD z:=by rw [valOr_map,h.vs]
theorem MapIs.look (h:MapIs κ c es f) (z:V) (a:α):lookR false z (findM (κ a) es)=(f a).getD z:=by
 rw [← h.val z a]; rfl
theorem MapIs.keys (h:MapIs κ c es f) {kd:KD} (hk:∀ a,kd.ok (κ a)=true):keysOk kd es=true:=by
 rw [keysOk,List.all_eq_true]
 intro e he
 obtain ⟨a,ha⟩:=h.ks e he
 rw [ha]; exact hk a
theorem find_put (hκ:KeyOf κ) (a b:α) (x:V):∀ {es:List ME},(∀ e∈es,∃ a,e.k=κ a)→(findM (κ b) (putM (κ a) x c es)).map ME.v=if b=a then some x else (findM (κ b) es).map ME.v
 | [],_=>by
  simp only [putM,findM,hκ b a]
  by_cases h:b=a <;> simp [h]
 | e::es,h=>by
  obtain ⟨a',ha⟩:=h e (by simp)
  have ih:=find_put hκ a b x (es:=es) fun e' he=>h e' (by simp [he])
  simp only [putM,ha,hκ a a']
  by_cases h1:a=a'
  ·subst h1
   simp only [decide_true,if_true,findM,hκ b a,ha]
   by_cases h2:b=a <;> simp [h2]
  ·simp only [h1,decide_false,Bool.false_eq_true,if_false,findM,ha,hκ b a']
   by_cases h2:b=a'
   ·subst h2
    have:¬ b=a:=fun e=>h1 e.symm
    simp [this]
   ·simp only [h2,decide_false,Bool.false_eq_true,if_false]
    exact ih
theorem put_b (k x:V):∀ {es:List ME} {b:Nat},b∈(putM k x c es).map ME.b→b∈es.map ME.b∨(b=c∧findM k es=none)
 | [],b,h=>by simp only [putM,List.map_cons,List.map_nil,List.mem_singleton] at h; exact .inr ⟨h,rfl⟩
 | e::es,b,h=>by
  simp only [putM] at h
  by_cases hk:kEq k e.k=true
  ·rw [if_pos hk] at h
   exact .inl (by simpa using h)
  ·rw [if_neg hk] at h
   simp only [List.map_cons,List.mem_cons] at h
   rcases h with h | h
   ·exact .inl (by simp [h])
   ·rcases put_b k x h with h | ⟨h,h'⟩
    ·exact .inl (by simp only [List.map_cons,List.mem_cons]; exact .inr h)
    ·exact .inr ⟨h,by simp only [findM,if_neg hk,h']⟩
theorem put_nd (k x:V):∀ {es:List ME},(es.map ME.b).Nodup→(∀ e∈es,e.b<c)→((putM k x c es).map ME.b).Nodup
 | [],_,_=>by simp [putM]
 | e::es,h,hl=>by
  simp only [putM]
  by_cases hk:kEq k e.k=true
  ·rw [if_pos hk]; exact h
  ·rw [if_neg hk]
   rw [List.map_cons,List.nodup_cons] at h ⊢
   refine ⟨fun hm=>?_,put_nd k x h.2 fun e' he=>hl e' (by simp [he])⟩
   rcases put_b k x hm with hm | ⟨hm,_⟩
   ·exact h.1 hm
   ·have:=hl e (by simp); omega
theorem put_mem (k x:V):∀ {es:List ME} {e:ME},e∈putM k x c es→e∈es∨e.k=k∨∃ e'∈es,e.k=e'.k
 | [],e,h=>by simp only [putM,List.mem_singleton] at h; exact .inr (.inl (by rw [h]))
 | e'::es,e,h=>by
  simp only [putM] at h
  by_cases hk:kEq k e'.k=true
  ·rw [if_pos hk] at h
   rcases List.mem_cons.1 h with rfl | h
   ·exact .inr (.inl rfl)
   ·exact .inl (by simp [h])
  ·rw [if_neg hk] at h
   rcases List.mem_cons.1 h with rfl | h
   ·exact .inl (by simp)
   ·rcases put_mem k x h with h | h | ⟨d,hd,h⟩
    ·exact .inl (by simp [h])
    ·exact .inr (.inl h)
    ·exact .inr (.inr ⟨d,by simp [hd],h⟩)
theorem MapIs.put (hκ:KeyOf κ) (h:MapIs κ c es f) (a:α) (x:V):MapIs κ (clkM (κ a) c es) (putM (κ a) x c es) (updF f a x):=by
 refine ⟨put_nd _ _ h.nd h.lt,fun e he=>?_,fun e he=>?_,fun b=>?_⟩
 ·rcases put_b (κ a) x (c:=c) (es:=es) (b:=e.b) (List.mem_map.2 ⟨e,he,rfl⟩) with hb | ⟨hb,hn⟩
  ·obtain ⟨d,hd,hd'⟩:=List.mem_map.1 hb
   have:=h.lt d hd
   unfold clkM
   split <;> omega
  ·rw [clkM,hn]
   simp
   omega
 ·rcases put_mem (κ a) x he with h1 | h1 | ⟨d,hd,h1⟩
  ·exact h.ks e h1
  ·exact ⟨a,h1⟩
  ·obtain ⟨b,hb⟩:=h.ks d hd
   exact ⟨b,by rw [h1,hb]⟩
 ·rw [find_put hκ a b x h.ks,h.vs b]; rfl
theorem store_put (k x v:V):∀ {es:List ME},(es.map ME.b).Nodup→(∀ e∈es,e.b<c)→storeM ((bornOr c (findM k es):Nat):Int) x (putM k v c es)=some (putM k x c es)
 | [],_,_=>by simp [putM,findM,bornOr,storeM]
 | e::es,h,hl=>by
  simp only [putM,findM]
  by_cases hk:kEq k e.k=true
  ·simp only [if_pos hk,bornOr,storeM]
   simp
  ·simp only [if_neg hk,storeM]
   rw [List.map_cons,List.nodup_cons] at h
   have ih:=store_put k x v h.2 fun e' he=>hl e' (by simp [he])
   rw [ih]
   have hne:¬ ((e.b:Int) == ((bornOr c (findM k es):Nat):Int))=true:=by
    have h1:=hl e (by simp)
    cases hf:findM k es with
    | none=>simp only [bornOr,beq_iff_eq]; omega
    | some d =>
     have:∀ {es:List ME} {d:ME},findM k es=some d→d∈es:=by
      intro es
      induction es with
      | nil=>intro d h; simp [findM] at h
      | cons e es ih =>
       intro d h
       simp only [findM] at h
       split at h
       ·cases h; simp
       ·simp [ih h]
     have hd:=this hf
     simp only [bornOr,beq_iff_eq]
     intro he
     exact h.1 (List.mem_map.2 ⟨d,hd,by omega⟩)
   rw [if_neg hne]
   rfl
theorem MapIs.store (h:MapIs κ c es f) (k x v:V):storeM ((bornOr c (findM k es):Nat):Int) x (putM k v c es)=some (putM k x c es):=store_put k x v h.nd h.lt
end
def MLt (es:List ME):Prop:=∀ e∈es,e.k.lt 0=true∧e.v.lt 0=true
theorem MLt.nil:MLt []:=fun e h=>by simp at h
theorem put_from (k x:V) (c:Nat):∀ {es:List ME} {e:ME},e∈putM k x c es→e∈es∨(e.k=k∧e.v=x)
 | [],e,h=>by simp only [putM,List.mem_singleton] at h; exact .inr (by rw [h]; exact ⟨rfl,rfl⟩)
 | e'::es,e,h=>by
  simp only [putM] at h
  by_cases hk:kEq k e'.k=true
  ·rw [if_pos hk] at h
   rcases List.mem_cons.1 h with rfl | h
   ·exact .inr ⟨rfl,rfl⟩
   ·exact .inl (by simp [h])
  ·rw [if_neg hk] at h
   rcases List.mem_cons.1 h with rfl | h
   ·exact .inl (by simp)
   ·rcases put_from k x c h with h | h
    ·exact .inl (by simp [h])
    ·exact .inr h
theorem MLt.put {es:List ME} (h:MLt es) {k x:V} (c:Nat) (hk:k.lt 0=true) (hx:x.lt 0=true):MLt (putM k x c es):=fun e he=>by
 rcases put_from k x c he with h1 | ⟨h1,h2⟩
 ·exact h e h1
 ·rw [h1,h2]; exact ⟨hk,hx⟩
theorem MLt.lt {es:List ME} (h:MLt es) (m c:Nat):Go.Ab.Obj.lt m (.map c es)=true:=by
 simp only [Obj.lt,List.all_eq_true]
 intro e he
 rw [V.lt_mono (Nat.zero_le m) _ (h e he).1,V.lt_mono (Nat.zero_le m) _ (h e he).2]; rfl
theorem MLt.store {es:List ME} (h:MLt es) {σ:Store} (c:Nat) (hσ:ltσ σ.length σ=true):ltσ (σ.length+1) (σ++[.map c es])=true:=by
 rw [q_ltσ_app,ltσ_mono (Nat.le_succ _) hσ]
 simp only [ltσ,List.all_cons,List.all_nil,h.lt,Bool.and_self]
theorem keyOf_str:KeyOf (fun s:List UInt8=>V.t (.str s)):=fun a b=>by
 simp only [kEq,sEq]
 by_cases h:a=b <;> simp [h]
end Go.Ab
end
section
namespace Go.Ab
structure OFl (s0:Store) (n:Nat) (rows:List (List T)) (v:V) (s:Store) (is:List Nat):Prop where
 le:s0.length≤s.length
 kp:Kp s0 s
 own:Own s (.lst n rows) v is
 wi:Wi is s0.length s.length
theorem OFl.rows {s0:Store} {n:Nat} (hp:0<n):OFl s0 n [] (.rows n []) s0 []:=⟨Nat.le_refl _,Kp.refl _,by simp [Own,hp],Wi.nil⟩
theorem OFl.nils {s0:Store} {n:Nat} (hp:0<n):OFl s0 n [] .nils s0 []:=⟨Nat.le_refl _,Kp.refl _,by simp [Own,hp],Wi.nil⟩
theorem OFl.obj {s0:Store} {n:Nat} (hp:0<n):OFl s0 n [] (.sl s0.length 0 0 0) (s0++[.slc n []]) [s0.length]:=by
 refine ⟨by simp,Kp.app _ _,?_,Wi.cons (Wi.nil (a:=s0.length+1)) (by omega) (by omega) (by simp)⟩
 simp only [Own]
 exact ⟨hp,.inr ⟨s0.length,[],[],rfl,rfl,by simp,by simp [OwnR]⟩⟩
theorem OFl.more {s0 s:Store} {n:Nat} {rows:List (List T)} {v:V} {is:List Nat} (h:OFl s0 n rows v s is) (τ:Store):OFl s0 n rows v (s++τ) is :=
 ⟨by simp; have:=h.le; omega,kp_app2 h.kp,(Kp.app s τ).own h.own,h.wi.mono (Nat.le_refl _) (by simp)⟩
theorem OFl.one {s0 s:Store} {n:Nat} {rows:List (List T)} {v:V} {is:List Nat} (h:OFl s0 n rows v s is):Go.Ab.one v=true:=h.own.one
theorem OFl.box {s0 s:Store} {n:Nat} {rows:List (List T)} {v:V} {is:List Nat} (h:OFl s0 n rows v s is) {p:Nat} {o:Go.Ab.Obj} (e:s0[p]?=some o):s[p]?=some o:=h.kp.box e
theorem OFl.app {s0 s:Store} {n bys:Nat} {rows:List (List T)} {r:List T} {v:V} {is:List Nat} {K:Tok→V→Store→Prop} (h:OFl s0 n rows v s is) (hr:∀ t∈r,scalar t=true)
  (hb:(rows.length+1) * bys≤maxBy) (hm:rows.length+1≤9223372036854775807) (hk:∀ v' s' is',s.length≤s'.length→OFl s0 n (rows++[r]) v' s' is'→K .go v' s'):evAppend n bys s [r.map .t] v K:=by
 refine app_flat h.own h.wi.1 hr hb hm fun v' s' is' h1 h2 h3 h4 h5=>hk v' s' is' h1 ⟨?_,h.kp.kb h.le h3 h.wi,h4,?_⟩
 ·have:=h.le; omega
 ·rcases h5 with ⟨rfl,hl⟩ | ⟨rfl,rfl,hl⟩
  ·exact h.wi.mono (Nat.le_refl _) (by omega)
  ·exact (Wi.cons (Wi.nil (a:=s.length+1) (b:=s.length+1)) (by omega) (by omega) (by omega)).mono h.le (by omega)
theorem OFl.toR {σ B s:Store} {n:Nat} {rows:List (List T)} {v:V} {is:List Nat} (h:OFl (σ++B) n rows v s is):ToR (.lst n rows) σ v s:=by
 have hk:Kp σ s:=fun j hj=>by
  rw [h.kp j (by simp; omega),List.getElem?_append_left hj]
 have hl:σ.length≤s.length:=by have:=h.le; simp at this; omega
 refine ⟨s.drop σ.length,is,kp_split hk hl,h.own,h.wi.mono (by simp) (Nat.le_refl _)⟩
def byteT (l:List UInt8):List (List T):=l.map fun b=>[T.int .u8 (b.toNat:Int)]
theorem byteT_flat (l:List UInt8):flat (byteT l):=by
 intro r hr t ht
 obtain ⟨b,_,rfl⟩:=List.mem_map.1 hr
 simp only [List.mem_singleton] at ht
 subst ht
 rfl
theorem byteT_map (l:List UInt8):(byteT l).map (fun r=>r.map V.t)=byteRows l:=by simp [byteT,byteRows]
theorem byteT_len (a:List UInt8):(byteT a).length=a.length:=by simp [byteT]
theorem OFl.rowsOf {s0 s:Store} {n:Nat} {rows:List (List T)} {v:V} {is:List Nat} (h:OFl s0 n rows v s is) (hf:flat rows):Go.Ab.rowsOf s n v=some (rows.map fun r=>r.map .t):=by
 have hown:=h.own
 rcases own_obj hown hf with ⟨rfl,_,rfl | rfl⟩ | ⟨id,_,rfl,h1⟩
 ·rfl
 ·simp [Go.Ab.rowsOf]
 ·exact q_rows_whole _ _ _ _ _ h1 (by simp) (by simp)
theorem OFl.bytes {s0 s:Store} {l:List UInt8} {v:V} {is:List Nat} (h:OFl s0 1 (byteT l) v s is):Go.Ab.rowsOf s 1 v=some (byteRows l):=by
 rw [h.rowsOf (byteT_flat l),byteT_map]
theorem OFl.same {σ B s:Store} {n:Nat} {rows:List (List T)} {v:V} {is:List Nat} (h:OFl (σ++B) n rows v s is):∃ τ,s=σ++τ:=by
 obtain ⟨τ,_,h,_⟩:=h.toR
 exact ⟨τ,h⟩
end Go.Ab
end
section
namespace Go.Ab
section
variable {P:Program} {f:FuncId} {fn:Func}
theorem ext_calls {e : Array Value → Sem Value} {us : List V} {u : V} (hf : P.funcs[f]? = some fn) (hname : (fn.name == "runtime.NumGoroutine") = false) (hb : fn.body.isNone = true) (hn : Extern.findNext fn = none) (he : Extern.find fn = some e)
  (h:∀ (x:Cx) (cargs:List Value),VsRel x us cargs→∃ v,(e cargs.toArray).run P x.w=.ok v x.w∧VRel x u v):XCalls P f us u:=by
 intro x cargs ha
 obtain ⟨v,h1,h2⟩:=h x cargs ha
 exact ⟨v,by rw [run_callFunc_extern hf hname hb hn he,h1]; rfl,h2⟩
theorem u8_back (c:UInt8):((c.toNat:Int)).toNat.toUInt8=c:=by simp
theorem x_indexByte (hf : P.funcs[f]? = some fn) (hname : (fn.name == "runtime.NumGoroutine") = false) (hb : fn.body.isNone = true) (hn : Extern.findNext fn = none) (he : Extern.find fn = some Extern.BytealgIndexByte.indexByte) (s : List UInt8) (c : UInt8) :
  XCalls P f [.t (.str s),.t (.int .u8 (c.toNat:Int))] (.t (.int .i64 (Lib.indexByte s c))):=by
 refine ext_calls hf hname hb hn he fun x cargs ha=>?_
 simp only [VsRel,VRel,TRel] at ha
 obtain ⟨_,_,rfl,rfl,_,_,rfl,rfl,rfl⟩:=ha
 exact ⟨_,Lib.run_indexByteString _ _ _,by simp only [VRel,TRel,u8_back]⟩
theorem x_countString (hf : P.funcs[f]? = some fn) (hname : (fn.name == "runtime.NumGoroutine") = false) (hb : fn.body.isNone = true) (hn : Extern.findNext fn = none) (he : Extern.find fn = some Extern.BytealgCount.count) (s : List UInt8) (c : UInt8) :
  XCalls P f [.t (.str s),.t (.int .u8 (c.toNat:Int))] (.t (.int .i64 ((s.count c:Nat):Int))):=by
 refine ext_calls hf hname hb hn he fun x cargs ha=>?_
 simp only [VsRel,VRel,TRel] at ha
 obtain ⟨_,_,rfl,rfl,_,_,rfl,rfl,rfl⟩:=ha
 exact ⟨_,Lib.run_countString _ _ _,by simp only [VRel,TRel,u8_back,Lib.countByte]⟩
end
theorem i64_xor_nat (a b:Nat) (ha:a<9223372036854775808) (hb:b<9223372036854775808):bits .xor .i64 (a:Int) (b:Int)=((a ^^^ b:Nat):Int):=by
 have hx:a ^^^ b<2 ^ 63:=Nat.xor_lt_two_pow (by omega) (by omega)
 have h1:(BitVec.ofInt 64 (a:Int)).toNat=a:=by
  rw [BitVec.ofInt_natCast,BitVec.toNat_ofNat]; exact Nat.mod_eq_of_lt (by omega)
 have h2:(BitVec.ofInt 64 (b:Int)).toNat=b:=by
  rw [BitVec.ofInt_natCast,BitVec.toNat_ofNat]; exact Nat.mod_eq_of_lt (by omega)
 show IntKind.i64.wrap ((BitVec.ofInt 64 (a:Int) ^^^ BitVec.ofInt 64 (b:Int)).toNat:Int)=_
 rw [BitVec.toNat_xor,h1,h2]
 exact IntWalk.i64_in _ (by omega)
theorem tmod_nat (a b:Nat):(a:Int).tmod (b:Int)=((a % b:Nat):Int):=rfl
theorem of_bytes {t:T} (h:T.is (.sl 1 [.int .u8]) t):∃ l:List UInt8,t=.lst 1 (byteT l):=by
 simp only [T.is] at h
 obtain ⟨rows,rfl,_,hr⟩:=h
 have key:∀ rows:List (List T),(∀ r∈rows,T.isL [.int .u8] r)→∃ l:List UInt8,rows=byteT l:=by
  intro rows
  induction rows with
  | nil=>intro _; exact ⟨[],rfl⟩
  | cons r rows ih =>
   intro h
   obtain ⟨l,rfl⟩:=ih fun r hr=>h r (by simp [hr])
   have h1:=h r (by simp)
   simp only [isL_cons,isL_nil,is_int] at h1
   obtain ⟨_,_,rfl,⟨n,rfl,hn⟩,rfl⟩:=h1
   have e1:IntKind.u8.min=0:=by decide
   have e2:IntKind.u8.max=255:=by decide
   simp only [Lit.wf,Bool.and_eq_true,decide_eq_true_eq,e1,e2] at hn
   refine ⟨UInt8.ofNat n.toNat::l,?_⟩
   have:((UInt8.ofNat n.toNat).toNat:Int)=n:=by
    rw [UInt8.toNat_ofNat_of_lt' (by have:n.toNat<256:=(by omega); exact this)]
    omega
   simp only [byteT,List.map_cons,this]
 obtain ⟨l,rfl⟩:=key rows hr
 exact ⟨l,rfl⟩
theorem byteT_at {l:List UInt8} {k:Nat} (h:k<l.length):(byteT l)[k]?=some [T.int .u8 (l[k].toNat:Int)]:=by
 simp [byteT,h]
end Go.Ab
end
