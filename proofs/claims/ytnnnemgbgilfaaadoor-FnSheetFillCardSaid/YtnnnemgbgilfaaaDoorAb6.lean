/- A function whose result is its own, but whose slices' objects go on behind the slices: what is behind may be forgotten. Conditions: none (a library of lemmas). -/
import Derived.Test.YtnnnemgbgilfaaaDoorAb5
set_option linter.unusedSimpArgs false
set_option linter.unusedVariables false
set_option linter.defProp false
namespace Go.Ab
mutual
def OwnC (σ:Store):T→V→List (Nat × Nat)→Prop
 | .int k n,v,ps=>v=.t (.int k n)∧ps=[]
 | .bool b,v,ps=>v=.t (.bool b)∧ps=[]
 | .str s,v,ps=>v=.t (.str s)∧ps=[]
 | .lst sz rows,v,ps=>0<sz∧((rows=[]∧ps=[]∧(v=.nils∨v=.rows sz []))∨∃ id qs rs zs,ps=(id,rs.length)::qs∧v=.sl id (rs.length+zs.length) 0 rs.length∧σ[id]?=some (.slc sz (rs++zs))∧OwnCR σ rows rs qs)
def OwnCR (σ:Store):List (List T)→List (List V)→List (Nat × Nat)→Prop
 | [],rs,ps=>rs=[]∧ps=[]
 | r::rows,rs,ps=>∃ u us i j,rs=u::us∧ps=i++j∧OwnCL σ r u i∧OwnCR σ rows us j
def OwnCL (σ:Store):List T→List V→List (Nat × Nat)→Prop
 | [],us,ps=>us=[]∧ps=[]
 | t::ts,us,ps=>∃ u us' i j,us=u::us'∧ps=i++j∧OwnC σ t u i∧OwnCL σ ts us' j
end
mutual
theorem Own.c {σ:Store}:∀ {t:T} {v:V} {is:List Nat},Own σ t v is→∃ ps,ps.map Prod.fst=is∧OwnC σ t v ps
 | .int _ _,_,_,h=>by simp only [Own] at h; exact ⟨[],h.2.symm,by simp only [OwnC]; exact ⟨h.1,trivial⟩⟩
 | .bool _,_,_,h=>by simp only [Own] at h; exact ⟨[],h.2.symm,by simp only [OwnC]; exact ⟨h.1,trivial⟩⟩
 | .str _,_,_,h=>by simp only [Own] at h; exact ⟨[],h.2.symm,by simp only [OwnC]; exact ⟨h.1,trivial⟩⟩
 | .lst sz rows,v,is,h=>by
  simp only [Own] at h
  obtain ⟨hp,⟨h1,h2,h3⟩ | ⟨id,js,rs,rfl,rfl,h1,h2⟩⟩:=h
  ·exact ⟨[],h2.symm,by simp only [OwnC]; exact ⟨hp,.inl ⟨h1,trivial,h3⟩⟩⟩
  ·obtain ⟨qs,rfl,h3⟩:=OwnR.c h2
   exact ⟨(id,rs.length)::qs,rfl,by simp only [OwnC]; exact ⟨hp,.inr ⟨id,qs,rs,[],rfl,by simp,by simpa using h1,h3⟩⟩⟩
theorem OwnR.c {σ:Store}:∀ {rows:List (List T)} {rs:List (List V)} {is:List Nat},OwnR σ rows rs is→∃ ps,ps.map Prod.fst=is∧OwnCR σ rows rs ps
 | [],_,_,h=>by simp only [OwnR] at h; exact ⟨[],h.2.symm,by simp only [OwnCR]; exact ⟨h.1,trivial⟩⟩
 | r::rows,_,_,h=>by
  simp only [OwnR] at h
  obtain ⟨u,us,i,j,rfl,rfl,h1,h2⟩:=h
  obtain ⟨p,rfl,g1⟩:=OwnL.c h1
  obtain ⟨q,rfl,g2⟩:=OwnR.c h2
  exact ⟨p++q,by simp,by simp only [OwnCR]; exact ⟨u,us,p,q,rfl,rfl,g1,g2⟩⟩
theorem OwnL.c {σ:Store}:∀ {ts:List T} {us:List V} {is:List Nat},OwnL σ ts us is→∃ ps,ps.map Prod.fst=is∧OwnCL σ ts us ps
 | [],_,_,h=>by simp only [OwnL] at h; exact ⟨[],h.2.symm,by simp only [OwnCL]; exact ⟨h.1,trivial⟩⟩
 | t::ts,_,_,h=>by
  simp only [OwnL] at h
  obtain ⟨u,us,i,j,rfl,rfl,h1,h2⟩:=h
  obtain ⟨p,rfl,g1⟩:=Own.c h1
  obtain ⟨q,rfl,g2⟩:=OwnL.c h2
  exact ⟨p++q,by simp,by simp only [OwnCL]; exact ⟨u,us,p,q,rfl,rfl,g1,g2⟩⟩
end
mutual
theorem OwnC.frame {σ σ':Store}:∀ {t:T} {v:V} {ps:List (Nat × Nat)},OwnC σ t v ps→(∀ p∈ps,σ'[p.1]?=σ[p.1]?)→OwnC σ' t v ps
 | .int _ _,_,_,h,_=>by simpa only [OwnC] using h
 | .bool _,_,_,h,_=>by simpa only [OwnC] using h
 | .str _,_,_,h,_=>by simpa only [OwnC] using h
 | .lst sz rows,v,ps,h,k=>by
  simp only [OwnC] at h ⊢
  refine ⟨h.1,h.2.imp id ?_⟩
  rintro ⟨id,qs,rs,zs,rfl,rfl,h1,h2⟩
  exact ⟨id,qs,rs,zs,rfl,rfl,by rw [k (id,rs.length) (by simp)]; exact h1,OwnCR.frame h2 fun i hi=>k i (by simp [hi])⟩
theorem OwnCR.frame {σ σ':Store}:∀ {rows:List (List T)} {rs:List (List V)} {ps:List (Nat × Nat)},OwnCR σ rows rs ps→(∀ p∈ps,σ'[p.1]?=σ[p.1]?)→OwnCR σ' rows rs ps
 | [],_,_,h,_=>by simpa only [OwnCR] using h
 | r::rows,rs,is,h,k=>by
  simp only [OwnCR] at h ⊢
  obtain ⟨u,us,i,j,rfl,rfl,h1,h2⟩:=h
  exact ⟨u,us,i,j,rfl,rfl,OwnCL.frame h1 fun x hx=>k x (by simp [hx]),OwnCR.frame h2 fun x hx=>k x (by simp [hx])⟩
theorem OwnCL.frame {σ σ':Store}:∀ {ts:List T} {us:List V} {ps:List (Nat × Nat)},OwnCL σ ts us ps→(∀ p∈ps,σ'[p.1]?=σ[p.1]?)→OwnCL σ' ts us ps
 | [],_,_,h,_=>by simpa only [OwnCL] using h
 | t::ts,us,is,h,k=>by
  simp only [OwnCL] at h ⊢
  obtain ⟨u,us',i,j,rfl,rfl,h1,h2⟩:=h
  exact ⟨u,us',i,j,rfl,rfl,OwnC.frame h1 fun x hx=>k x (by simp [hx]),OwnCL.frame h2 fun x hx=>k x (by simp [hx])⟩
end
mutual
theorem OwnC.lt {σ:Store}:∀ {t:T} {v:V} {ps:List (Nat × Nat)},OwnC σ t v ps→∀ p∈ps,∃ sz rows,σ[p.1]?=some (.slc sz rows)
 | .int _ _,_,_,h=>by simp only [OwnC] at h; obtain ⟨_,rfl⟩:=h; simp
 | .bool _,_,_,h=>by simp only [OwnC] at h; obtain ⟨_,rfl⟩:=h; simp
 | .str _,_,_,h=>by simp only [OwnC] at h; obtain ⟨_,rfl⟩:=h; simp
 | .lst sz rows,v,ps,h=>by
  simp only [OwnC] at h
  obtain ⟨hp,⟨_,rfl,_⟩ | ⟨id,qs,rs,zs,rfl,rfl,h1,h2⟩⟩:=h
  ·simp
  ·intro p hp
   rcases List.mem_cons.1 hp with rfl | hp
   ·exact ⟨_,_,h1⟩
   ·exact OwnCR.lt h2 p hp
theorem OwnCR.lt {σ:Store}:∀ {rows:List (List T)} {rs:List (List V)} {ps:List (Nat × Nat)},OwnCR σ rows rs ps→∀ p∈ps,∃ sz rows,σ[p.1]?=some (.slc sz rows)
 | [],_,_,h=>by simp only [OwnCR] at h; obtain ⟨_,rfl⟩:=h; simp
 | r::rows,rs,is,h=>by
  simp only [OwnCR] at h
  obtain ⟨u,us,i,j,rfl,rfl,h1,h2⟩:=h
  intro p hp
  rcases List.mem_append.1 hp with hp | hp
  ·exact OwnCL.lt h1 p hp
  ·exact OwnCR.lt h2 p hp
theorem OwnCL.lt {σ:Store}:∀ {ts:List T} {us:List V} {ps:List (Nat × Nat)},OwnCL σ ts us ps→∀ p∈ps,∃ sz rows,σ[p.1]?=some (.slc sz rows)
 | [],_,_,h=>by simp only [OwnCL] at h; obtain ⟨_,rfl⟩:=h; simp
 | t::ts,us,is,h=>by
  simp only [OwnCL] at h
  obtain ⟨u,us',i,j,rfl,rfl,h1,h2⟩:=h
  intro p hp
  rcases List.mem_append.1 hp with hp | hp
  ·exact OwnC.lt h1 p hp
  ·exact OwnCL.lt h2 p hp
end
theorem OwnCR.len {σ:Store}:∀ {a:List (List T)} {us:List (List V)} {is:List (Nat × Nat)},OwnCR σ a us is→us.length=a.length
 | [],_,_,h=>by simp only [OwnCR] at h; obtain ⟨rfl,rfl⟩:=h; rfl
 | r::a,_,_,h=>by
  simp only [OwnCR] at h
  obtain ⟨u,us,i,j,rfl,rfl,h1,h2⟩:=h
  simp [OwnCR.len h2]
def V.ct (m:Nat→Nat):V→V
 | .sl id _ off len=>.sl id (m id) off len
 | u=>u
def Obj.ct (m:Nat→Nat) (id:Nat):Obj→Obj
 | .slc sz rows=>.slc sz ((rows.take (m id)).map fun r=>r.map (V.ct m))
 | o=>o
mutual
theorem OwnC.cut {m:Nat→Nat} {σ σ':Store}:∀ {t:T} {v:V} {ps:List (Nat × Nat)},OwnC σ t v ps→(∀ p∈ps,m p.1=p.2∧σ'[p.1]?=(σ[p.1]?).map (Obj.ct m p.1))→Own σ' t (v.ct m) (ps.map Prod.fst)
 | .int _ _,_,_,h,_=>by simp only [OwnC] at h; obtain ⟨rfl,rfl⟩:=h; simp only [Own]; exact ⟨rfl,rfl⟩
 | .bool _,_,_,h,_=>by simp only [OwnC] at h; obtain ⟨rfl,rfl⟩:=h; simp only [Own]; exact ⟨rfl,rfl⟩
 | .str _,_,_,h,_=>by simp only [OwnC] at h; obtain ⟨rfl,rfl⟩:=h; simp only [Own]; exact ⟨rfl,rfl⟩
 | .lst sz rows,v,ps,h,k=>by
  simp only [OwnC] at h
  simp only [Own]
  obtain ⟨hp,⟨h1,rfl,h2⟩ | ⟨id,qs,rs,zs,rfl,rfl,h1,h2⟩⟩:=h
  ·exact ⟨hp,.inl ⟨h1,rfl,by rcases h2 with rfl | rfl <;> simp [V.ct]⟩⟩
  ·obtain ⟨k1,k2⟩:=k (id,rs.length) (by simp)
   simp only at k1 k2
   refine ⟨hp,.inr ⟨id,qs.map Prod.fst,rs.map fun r=>r.map (V.ct m),rfl,by simp [V.ct,k1],?_,OwnCR.cut h2 fun p hp=>k p (by simp [hp])⟩⟩
   rw [k2,h1]
   simp [Obj.ct,k1]
theorem OwnCR.cut {m:Nat→Nat} {σ σ':Store}:∀ {rows:List (List T)} {rs:List (List V)} {ps:List (Nat × Nat)},OwnCR σ rows rs ps→(∀ p∈ps,m p.1=p.2∧σ'[p.1]?=(σ[p.1]?).map (Obj.ct m p.1))→OwnR σ' rows (rs.map fun r=>r.map (V.ct m)) (ps.map Prod.fst)
 | [],_,_,h,_=>by simp only [OwnCR] at h; obtain ⟨rfl,rfl⟩:=h; simp [OwnR]
 | r::rows,rs,ps,h,k=>by
  simp only [OwnCR] at h
  obtain ⟨u,us,i,j,rfl,rfl,h1,h2⟩:=h
  simp only [OwnR]
  exact ⟨u.map (V.ct m),us.map fun r=>r.map (V.ct m),i.map Prod.fst,j.map Prod.fst,rfl,by simp,OwnCL.cut h1 fun p hp=>k p (by simp [hp]),OwnCR.cut h2 fun p hp=>k p (by simp [hp])⟩
theorem OwnCL.cut {m:Nat→Nat} {σ σ':Store}:∀ {ts:List T} {us:List V} {ps:List (Nat × Nat)},OwnCL σ ts us ps→(∀ p∈ps,m p.1=p.2∧σ'[p.1]?=(σ[p.1]?).map (Obj.ct m p.1))→OwnL σ' ts (us.map (V.ct m)) (ps.map Prod.fst)
 | [],_,_,h,_=>by simp only [OwnCL] at h; obtain ⟨rfl,rfl⟩:=h; simp [OwnL]
 | t::ts,us,ps,h,k=>by
  simp only [OwnCL] at h
  obtain ⟨u,us',i,j,rfl,rfl,h1,h2⟩:=h
  simp only [OwnL]
  exact ⟨u.ct m,us'.map (V.ct m),i.map Prod.fst,j.map Prod.fst,rfl,by simp,OwnC.cut h1 fun p hp=>k p (by simp [hp]),OwnCL.cut h2 fun p hp=>k p (by simp [hp])⟩
end
structure Ct (m:Nat→Nat) (ps:List (Nat × Nat)) (y z:Cx):Prop where
 k:∀ p∈ps,m p.1=p.2
 σ:∀ p∈ps,z.σ[p.1]?=(y.σ[p.1]?).map (Obj.ct m p.1)
 ρ:∀ p∈ps,z.ρ p.1=y.ρ p.1
mutual
theorem OwnC.rel {m:Nat→Nat} {ps:List (Nat × Nat)} {y z:Cx} (hc:Ct m ps y z):∀ {t:T} {u:V} {qs:List (Nat × Nat)} {v:Value},OwnC y.σ t u qs→(∀ q∈qs,q∈ps)→VRel y u v→VRel z (u.ct m) v
 | .int _ _,_,_,_,h,_,hr=>by simp only [OwnC] at h; obtain ⟨rfl,rfl⟩:=h; simpa only [V.ct,VRel,TRel] using hr
 | .bool _,_,_,_,h,_,hr=>by simp only [OwnC] at h; obtain ⟨rfl,rfl⟩:=h; simpa only [V.ct,VRel,TRel] using hr
 | .str _,_,_,_,h,_,hr=>by simp only [OwnC] at h; obtain ⟨rfl,rfl⟩:=h; simpa only [V.ct,VRel,TRel] using hr
 | .lst sz rows,u,qs,v,h,hq,hr=>by
  simp only [OwnC] at h
  obtain ⟨hp,⟨h1,rfl,rfl | rfl⟩ | ⟨id,qs,rs,zs,rfl,rfl,h1,h2⟩⟩:=h
  ·simpa only [V.ct,VRel] using hr
  ·simp only [V.ct,VRel] at hr ⊢
   obtain ⟨a,hv,_⟩:=hr
   exact ⟨a,hv,.inl rfl⟩
  ·have hm:=hc.k _ (hq (id,rs.length) (by simp))
   have hσ:=hc.σ _ (hq (id,rs.length) (by simp))
   have hρ:=hc.ρ _ (hq (id,rs.length) (by simp))
   simp only at hm hσ hρ
   simp only [V.ct,VRel] at hr ⊢
   obtain ⟨o,ho,hg,a,c,hv,hl,hs⟩:=hr
   rw [h1] at ho
   obtain rfl:=Option.some.inj ho
   rw [h1] at hσ
   simp only [Option.map_some,Obj.ct,hm,List.take_left] at hσ
   refine ⟨_,hσ,by simp [Obj.gen,hm],a,c,hv,hl,fun _=>?_⟩
   have hs:=hs (by simp [Obj.gen])
   simp only [SlOk,hρ,List.length_map] at hs ⊢
   exact ⟨by omega,hs.2.1,hs.2.2⟩
theorem OwnCR.rel {m:Nat→Nat} {ps:List (Nat × Nat)} {y z:Cx} (hc:Ct m ps y z):∀ {rows:List (List T)} {rs:List (List V)} {qs:List (Nat × Nat)} {l:List Value},OwnCR y.σ rows rs qs→(∀ q∈qs,q∈ps)→VsRel y rs.flatten l→VsRel z (rs.map fun r=>r.map (V.ct m)).flatten l
 | [],rs,qs,l,h,_,hr=>by simp only [OwnCR] at h; obtain ⟨rfl,rfl⟩:=h; simpa [VsRel] using hr
 | r::rows,rs,qs,l,h,hq,hr=>by
  simp only [OwnCR] at h
  obtain ⟨u,us,i,j,rfl,rfl,h1,h2⟩:=h
  rw [List.flatten_cons] at hr
  rw [List.map_cons,List.flatten_cons]
  have e1:=VsRel.take u.length hr
  have e2:=VsRel.drop u.length hr
  rw [List.take_left] at e1
  rw [List.drop_left] at e2
  have g1:=OwnCL.rel hc h1 (fun q hq'=>hq q (by simp [hq'])) e1
  have g2:=OwnCR.rel hc h2 (fun q hq'=>hq q (by simp [hq'])) e2
  have:=VsRel.app g1 g2
  rwa [List.take_append_drop] at this
theorem OwnCL.rel {m:Nat→Nat} {ps:List (Nat × Nat)} {y z:Cx} (hc:Ct m ps y z):∀ {ts:List T} {us:List V} {qs:List (Nat × Nat)} {l:List Value},OwnCL y.σ ts us qs→(∀ q∈qs,q∈ps)→VsRel y us l→VsRel z (us.map (V.ct m)) l
 | [],us,qs,l,h,_,hr=>by simp only [OwnCL] at h; obtain ⟨rfl,rfl⟩:=h; simpa [VsRel] using hr
 | t::ts,us,qs,l,h,hq,hr=>by
  simp only [OwnCL] at h
  obtain ⟨u,us',i,j,rfl,rfl,h1,h2⟩:=h
  simp only [VsRel,List.map_cons] at hr ⊢
  obtain ⟨c,cs,rfl,hr1,hr2⟩:=hr
  exact ⟨c,cs,rfl,OwnC.rel hc h1 (fun q hq'=>hq q (by simp [hq'])) hr1,OwnCL.rel hc h2 (fun q hq'=>hq q (by simp [hq'])) hr2⟩
end
mutual
theorem OwnC.objs {σ:Store}:∀ {t:T} {v:V} {ps:List (Nat × Nat)},OwnC σ t v ps→∀ p∈ps,∃ sz rows rs zs qs,p.2=rs.length∧σ[p.1]?=some (.slc sz (rs++zs))∧OwnCR σ rows rs qs∧∀ q∈qs,q∈ps
 | .int _ _,_,_,h=>by simp only [OwnC] at h; obtain ⟨_,rfl⟩:=h; simp
 | .bool _,_,_,h=>by simp only [OwnC] at h; obtain ⟨_,rfl⟩:=h; simp
 | .str _,_,_,h=>by simp only [OwnC] at h; obtain ⟨_,rfl⟩:=h; simp
 | .lst sz rows,v,ps,h=>by
  simp only [OwnC] at h
  obtain ⟨hp,⟨_,rfl,_⟩ | ⟨id,qs,rs,zs,rfl,rfl,h1,h2⟩⟩:=h
  ·simp
  ·intro p hp
   rcases List.mem_cons.1 hp with rfl | hp
   ·exact ⟨sz,rows,rs,zs,qs,rfl,h1,h2,fun q hq=>by simp [hq]⟩
   ·obtain ⟨sz',rows',rs',zs',qs',g1,g2,g3,g4⟩:=OwnCR.objs h2 p hp
    exact ⟨sz',rows',rs',zs',qs',g1,g2,g3,fun q hq=>by simp [g4 q hq]⟩
theorem OwnCR.objs {σ:Store}:∀ {rows:List (List T)} {rs:List (List V)} {ps:List (Nat × Nat)},OwnCR σ rows rs ps→∀ p∈ps,∃ sz rows rs zs qs,p.2=rs.length∧σ[p.1]?=some (.slc sz (rs++zs))∧OwnCR σ rows rs qs∧∀ q∈qs,q∈ps
 | [],_,_,h=>by simp only [OwnCR] at h; obtain ⟨_,rfl⟩:=h; simp
 | r::rows,rs,is,h=>by
  simp only [OwnCR] at h
  obtain ⟨u,us,i,j,rfl,rfl,h1,h2⟩:=h
  intro p hp
  rcases List.mem_append.1 hp with hp | hp
  ·obtain ⟨sz',rows',rs',zs',qs',g1,g2,g3,g4⟩:=OwnCL.objs h1 p hp
   exact ⟨sz',rows',rs',zs',qs',g1,g2,g3,fun q hq=>by simp [g4 q hq]⟩
  ·obtain ⟨sz',rows',rs',zs',qs',g1,g2,g3,g4⟩:=OwnCR.objs h2 p hp
   exact ⟨sz',rows',rs',zs',qs',g1,g2,g3,fun q hq=>by simp [g4 q hq]⟩
theorem OwnCL.objs {σ:Store}:∀ {ts:List T} {us:List V} {ps:List (Nat × Nat)},OwnCL σ ts us ps→∀ p∈ps,∃ sz rows rs zs qs,p.2=rs.length∧σ[p.1]?=some (.slc sz (rs++zs))∧OwnCR σ rows rs qs∧∀ q∈qs,q∈ps
 | [],_,_,h=>by simp only [OwnCL] at h; obtain ⟨_,rfl⟩:=h; simp
 | t::ts,us,is,h=>by
  simp only [OwnCL] at h
  obtain ⟨u,us',i,j,rfl,rfl,h1,h2⟩:=h
  intro p hp
  rcases List.mem_append.1 hp with hp | hp
  ·obtain ⟨sz',rows',rs',zs',qs',g1,g2,g3,g4⟩:=OwnC.objs h1 p hp
   exact ⟨sz',rows',rs',zs',qs',g1,g2,g3,fun q hq=>by simp [g4 q hq]⟩
  ·obtain ⟨sz',rows',rs',zs',qs',g1,g2,g3,g4⟩:=OwnCL.objs h2 p hp
   exact ⟨sz',rows',rs',zs',qs',g1,g2,g3,fun q hq=>by simp [g4 q hq]⟩
end
def pickC (m:Nat→Nat) (is:List Nat) (n:Nat):Store→Store
 | []=>[]
 | o::τ=>(if is.contains n then o.ct m n else .slc 0 [])::pickC m is (n+1) τ
theorem pickC_len (m:Nat→Nat) (is:List Nat):∀ (τ:Store) (n:Nat),(pickC m is n τ).length=τ.length
 | [],_=>rfl
 | _::τ,n=>by simp [pickC,pickC_len m is τ]
theorem pickC_get (m:Nat→Nat) (is:List Nat):∀ (τ:Store) (n j:Nat),(pickC m is n τ)[j]?=(τ[j]?).map fun o=>if is.contains (n+j) then o.ct m (n+j) else .slc 0 []
 | [],_,_=>by simp [pickC]
 | o::τ,n,0=>by simp [pickC]
 | o::τ,n,j+1=>by
  simp only [pickC,List.getElem?_cons_succ,pickC_get m is τ (n+1) j]
  rw [show n+1+j=n+(j+1) by omega]
theorem look_of {ps:List (Nat × Nat)} (h:(ps.map Prod.fst).Nodup):∀ p∈ps,(ps.lookup p.1).getD 0=p.2:=by
 induction ps with
 | nil=>simp
 | cons q ps ih =>
  intro p hp
  simp only [List.map_cons,List.nodup_cons,List.mem_map,not_exists,not_and] at h
  rcases List.mem_cons.1 hp with rfl | hp
  ·simp [List.lookup]
  ·have hne:(p.1 == q.1)=false:=by simp; exact fun e=>h.1 p hp e
   simp only [List.lookup,hne]
   exact ih h.2 p hp
def ToLC (ts:List T) (σ:Store) (r:V) (σ':Store):Prop:=∃ us τ ps,r=.agg us∧σ'=σ++τ∧OwnCL σ' ts us ps∧Wi (ps.map Prod.fst) σ.length σ'.length
theorem acalls_cut {P:Program} {f:FuncId} {vs:List V} {σ:Store} {ts:List T} (h:ACalls P f vs σ (ToLC ts σ)):ACalls P f vs σ (ToLR ts σ):=by
 refine ⟨h.1,fun x cargs hσ hx ha=>?_⟩
 refine Calls.mono (h.2 x cargs hσ hx ha) ?_
 subst hσ
 rintro e w' ⟨v,y,r,rfl,rfl,⟨us,τ,ps,rfl,hτ,ho,hw⟩,hv,hy,hxy⟩
 obtain ⟨m,hm⟩:∃ m:Nat→Nat,m=fun i=>(ps.lookup i).getD 0:=⟨_,rfl⟩
 have hmp:∀ p∈ps,m p.1=p.2:=fun p hp=>by rw [hm]; exact look_of hw.1 p hp
 obtain ⟨is,his⟩:∃ is,is=ps.map Prod.fst:=⟨_,rfl⟩
 rw [← his] at hw
 have hylen:y.σ.length=x.σ.length+τ.length:=by rw [hτ]; simp
 have htake:y.σ.take x.σ.length=x.σ:=by rw [hτ,List.take_left]
 have hmem:∀ i,i∈is↔∃ p∈ps,p.1=i:=fun i=>by rw [his]; simp
 have hlo:∀ p∈ps,x.σ.length≤p.1:=fun p hp=>(hw.2 p.1 ((hmem _).2 ⟨p,hp,rfl⟩)).1
 have hy0:WRel { y with σ:=y.σ.take x.σ.length }:=hy.cut (by rw [htake]; exact hx.closed)
 rw [htake] at hy0
 obtain ⟨z,hz⟩:∃ z:Cx,z={ ρ:=fun i=>if i<x.σ.length then y.ρ i else if is.contains i then y.ρ i else ⟨none,0⟩,F:=y.F,σ:=x.σ++pickC m is x.σ.length τ,w:=y.w }:=⟨_,rfl⟩
 have zσ:z.σ=x.σ++pickC m is x.σ.length τ:=by rw [hz]
 have zρ1:∀ i,i<x.σ.length→z.ρ i=y.ρ i:=fun i hi=>by rw [hz]; simp [hi]
 have zρ2:∀ p∈ps,z.ρ p.1=y.ρ p.1:=fun p hp=>by
  have:is.contains p.1=true:=by simpa using (hmem p.1).2 ⟨p,hp,rfl⟩
  rw [hz]; simp only [this,if_true]; split <;> rfl
 have hσ2:∀ i,x.σ.length≤i→z.σ[i]?=(y.σ[i]?).map fun o=>if is.contains i then o.ct m i else .slc 0 []:=by
  intro i hi
  rw [zσ,List.getElem?_append_right hi,pickC_get,hτ,List.getElem?_append_right hi,show x.σ.length+(i - x.σ.length)=i by omega]
 have hin:∀ p∈ps,z.σ[p.1]?=(y.σ[p.1]?).map (Obj.ct m p.1):=fun p hp=>by
  have:is.contains p.1=true:=by simpa using (hmem p.1).2 ⟨p,hp,rfl⟩
  rw [hσ2 _ (hlo p hp)]
  simp only [this,if_true]
 have hct:Ct m ps y z:=⟨hmp,hin,zρ2⟩
 have hext0:Ext { y with σ:=x.σ } z :=
  ⟨by rw [hz],by rw [hz],by rw [hz],by rw [hz]; exact Nat.le_refl _,fun b hb=>by rw [hz]; exact hb,fun b hb=>by rw [hz],fun id o ho=>by
   have hid:=(List.getElem?_eq_some_iff.1 ho).1
   exact ⟨o,by rw [zσ,List.getElem?_append_left hid]; exact ho,o.like_refl,Nat.le_refl _,fun _=>zρ1 id hid⟩⟩
 have hext1:Ext x { y with σ:=x.σ } :=
  ⟨hxy.os,hxy.tape,hxy.output,hxy.size,hxy.F,hxy.block,fun id o ho=>⟨o,ho,o.like_refl,Nat.le_refl _,fun _=>by
   obtain ⟨o',g1,_,_,g4⟩:=hxy.obj id o ho
   have hid:=(List.getElem?_eq_some_iff.1 ho).1
   have:y.σ[id]?=some o:=by rw [hτ,List.getElem?_append_left hid]; exact ho
   rw [this] at g1
   obtain rfl:=Option.some.inj g1
   exact g4 rfl⟩⟩
 have zF:∀ b,z.F b↔y.F b:=fun b=>by rw [hz]
 have zw:z.w=y.w:=by rw [hz]
 have hobjs:=ho.objs
 refine ⟨v,z,.agg (us.map (V.ct m)),rfl,zw,⟨us.map (V.ct m),pickC m is x.σ.length τ,is,rfl,zσ,?_,?_⟩,?_,⟨fun id o ho'=>?_,fun i j b hij hi hj hb=>?_,fun b hb=>?_⟩,hext1.trans hext0⟩
 ·rw [his]
  exact ho.cut fun p hp=>⟨hmp p hp,hin p hp⟩
 ·refine ⟨hw.1,fun i hi=>⟨(hw.2 i hi).1,?_⟩⟩
  have:=(hw.2 i hi).2
  rw [zσ,List.length_append,pickC_len]
  omega
 ·simp only [VRel] at hv ⊢
  obtain ⟨l,hl,hv⟩:=hv
  exact ⟨l,hl,OwnCL.rel hct ho (fun _ h=>h) hv⟩
 ·by_cases hid:id<x.σ.length
  ·have ho2:x.σ[id]?=some o:=by
    rw [zσ,List.getElem?_append_left hid] at ho'; exact ho'
   exact ORel.keep hext0 (zρ1 id hid) (fun b _ _ hf=>⟨by rw [zw],by rw [zF]; exact hf⟩) (hy0.objs id o ho2)
  ·by_cases hmi:id∈is
   ·obtain ⟨p,hp,rfl⟩:=(hmem id).1 hmi
    obtain ⟨sz,rows,rs,zs,qs,e1,e2,e3,e4⟩:=hobjs p hp
    have hob:=hy.objs p.1 _ e2
    rw [hin p hp,e2] at ho'
    simp only [Option.map_some,Obj.ct,hmp p hp,e1,List.take_left,Option.some.injEq] at ho'
    subst ho'
    rcases hob with ⟨h1,h2⟩ | ⟨b,arr,ty,fr,l,h1,h2,h3,h4,h5,h6,h7,h8,h9,h10⟩
    ·rcases h1 with h1 | ⟨hsz,n,h1⟩
     ·obtain ⟨rfl,rfl⟩:=List.append_eq_nil_iff.1 h1
      exact .inl ⟨.inl rfl,(zρ2 p hp).trans h2⟩
     ·have hr:rs=List.replicate rs.length []:=List.eq_replicate_iff.2 ⟨rfl,fun r hr=>(List.eq_replicate_iff.1 h1).2 r (by simp [hr])⟩
      exact .inl ⟨.inr ⟨hsz,rs.length,by rw [hr]; simp⟩,(zρ2 p hp).trans h2⟩
    ·have hρ:=zρ2 p hp
     have hlen:(rs++zs).flatten=rs.flatten++zs.flatten:=by simp
     rw [hlen] at h8
     have t1:=VsRel.take rs.flatten.length h8
     rw [List.take_left] at t1
     refine .inr ⟨b,arr,ty,fr,l.take rs.flatten.length,hρ ▸ h1,by rw [zF]; exact h2,by rw [zw]; exact h3,h4,?_,hρ ▸ h6,fun r hr=>?_,OwnCR.rel hct e3 e4 t1,List.IsPrefix.trans (List.take_prefix _ _) h9,fun v hv=>h10 v (List.mem_of_mem_take hv)⟩
     ·rw [hρ,List.length_map]
      rw [List.length_append] at h5
      omega
     ·obtain ⟨r',hr',rfl⟩:=List.mem_map.1 hr
      rw [List.length_map]
      exact h7 r' (by simp [hr'])
   ·have hm':is.contains id=false:=by simpa using hmi
    rw [hσ2 id (by omega)] at ho'
    simp only [hm'] at ho'
    obtain ⟨o',_,rfl⟩:=Option.map_eq_some_iff.1 ho'
    exact .inl ⟨.inl rfl,by rw [hz]; simp [hid,hmi]⟩
 ·have zi:∀ i b,i<z.σ.length→(z.ρ i).blk=some b→(y.ρ i).blk=some b∧i<y.σ.length:=fun i b hi hb=>by
   refine ⟨?_,by rw [zσ,List.length_append,pickC_len] at hi; omega⟩
   rw [hz] at hb
   simp only at hb
   split at hb
   ·exact hb
   ·split at hb
    ·exact hb
    ·cases hb
  obtain ⟨g1,g2⟩:=zi i b hi hb
  intro hb'
  obtain ⟨g3,g4⟩:=zi j b hj hb'
  exact hy.inj i j b hij g2 g4 g1 g3
 ·rw [zF] at hb
  rw [zw]
  exact hy.low b hb
end Go.Ab
