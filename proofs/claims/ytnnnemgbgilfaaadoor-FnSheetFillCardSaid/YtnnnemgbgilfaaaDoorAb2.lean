/- Regions, code and calls: the rules of our logic, and that they hold of the model's code. Conditions: none (a library of lemmas). -/
/- What an instruction looks at; that the light ones give one value and leave the store. Conditions: none (a library of lemmas). -/
/- Regions whose order is drawn: one walk, the light instructions first, serves every order. Conditions: none (a library of lemmas). -/
/- Regions whose order is drawn: the theorem. Conditions: none (a library of lemmas). -/
/- The order in which a drawn region is walked, and its check. Conditions: none (a library of lemmas). -/
/- Code, loops and whole functions in our logic. Conditions: none (a library of lemmas). -/
/- Whole functions in our logic: a contract out of the conditions that its code gives. Conditions: none (a library of lemmas). -/
import Derived.Test.YtnnnemgbgilfaaaDoorAb1
import Derived.Orders
import Derived.Scope
import Derived.Deep.LoopGhost
set_option linter.unusedSimpArgs false
set_option linter.unusedVariables false
set_option linter.defProp false
section
namespace Go.Ab
structure In where
 dst:Option Nat
 g:Option (Nat × Bool)
 i:I
def dstOk (n:Nat):Option Nat→Bool
 | none=>true
 | some d=>decide (d<n)
def cIn (P:Program) (ops:Array Oper) (n:Nat) (o:Oper):Option In :=
 match cI P o.op with
 | none=>none
 | some i =>
  if dstOk n o.dst=true then
   match o.guard with
   | none=>some ⟨o.dst,none,i⟩
   | some (j,b)=>match (ops[j]?).bind (·.dst) with
    | some s=>some ⟨o.dst,some (s,b),i⟩
    | none=>none
  else none
def cOps (P:Program) (ops:Array Oper) (n:Nat):List Oper→Option (List In)
 | []=>some []
 | o::os=>match cIn P ops n o,cOps P ops n os with
  | some i,some is=>some (i::is)
  | _,_=>none
def Enters (P : Program) (f : FuncId) : Prop := ∃ fn, P.funcs[f]? = some fn ∧ (fn.name == "runtime.NumGoroutine") = false ∧ fn.body.isNone = false
def ACalls (P:Program) (f:FuncId) (args:List V) (σ:Store) (R:V→Store→Prop):Prop :=
 Enters P f∧∀ (x:Cx) (cargs:List Value),x.σ=σ→WRel x→VsRel x args cargs →
  Calls P f cargs.toArray x.w fun e w'=>∃ v y r,e=.returned v∧y.w=w'∧R r y.σ∧VRel y r v∧WRel y∧Ext x y
theorem ACalls.mono {P:Program} {f:FuncId} {args:List V} {σ:Store} {R R':V→Store→Prop} (h:ACalls P f args σ R) (hr:∀ r σ',R r σ'→R' r σ'):ACalls P f args σ R' :=
 ⟨h.1,fun x cargs hσ hx ha=>(h.2 x cargs hσ hx ha).mono fun _ _ ⟨v,y,r,h1,h2,h3,h4⟩=>⟨v,y,r,h1,h2,hr _ _ h3,h4⟩⟩
structure St where
 t:Tok
 e:Env
 σ:Store
def setD (e:Env) (d:Option Nat) (u:V):Env :=
 match d with
 | none=>e
 | some k=>(k,u)::e
def wantV:Option V→Bool→(Tok→Bool→Prop)→Prop
 | some (.t (.bool v)),b,K=>condP v (fun t=>K t b) (fun t=>K t (!b))
 | some (.tup []),_,K=>K .go false
 | _,_,_=>False
def wantK:Option (Nat × Bool)→Env→(Tok→Bool→Prop)→Prop
 | none,_,K=>K .go true
 | some (s,b),e,K=>wantV (eget e s) b K
def XCalls (P:Program) (g:FuncId) (us:List V) (u:V):Prop:=∀ (x:Cx) (cargs:List Value),VsRel x us cargs→∃ v,(callFunc g cargs.toArray).run P x.w=.ok (.value v) x.w∧VRel x u v
def callV (P:Program) (σ:Store):Option V→Option (List V)→(Tok→V→Store→Prop)→Prop
 | some (.fn (.func f) caps),some us,K=>(∃ R,ACalls P f (us++caps) σ R∧∀ r σ',R r σ'→K .go r σ')∨∃ u,XCalls P f (us++caps) u∧K .go u σ
 | some (.fnb (.func f) fs),some us,K=>(∃ R,ACalls P f (fs++us) σ R∧∀ r σ',R r σ'→K .go r σ')∨∃ u,XCalls P f (fs++us) u∧K .go u σ
 | _,_,_=>False
def methodOf (P:Program) (ty:Nat) (name:String):Option FuncId :=
 match P.info? ty,P.underlying ty with
 | some i,some d=>match i.methods.find? (·.name == name) with
  | some m=>if m.path.isEmpty then match m.func with
    | some (f,pr)=>match d,pr with
     | .pointer _,true=>some f
     | .pointer _,false=>none
     | _,false=>some f
     | _,true=>none
    | none=>none
   else none
  | none=>none
 | _,_=>none
def callM (P:Program) (σ:Store) (name:String):Option V→Option (List V)→(Tok→V→Store→Prop)→Prop
 | some (.iface ty u),some us,K=>onRow (methodOf P ty name) fun t g=>∃ R,ACalls P g (u::us) σ R∧∀ r σ',R r σ'→K t r σ'
 | _,_,_=>False
def callO (P:Program) (e:Env) (σ:Store) (f:O) (us:Option (List V)) (K:Tok→V→Store→Prop):Prop :=
 match f with
 | .t k=>callV P σ (eget e k) us K
 | .c v=>callV P σ (some v) us K
 | .m k name=>callM P σ name (eget e k) us K
def iK (e:Env) (d:Option Nat) (K:St→Prop) (t:Tok) (r:Option V) (σ':Store):Prop:=K ⟨t,setD e d (r.getD (.tup [])),σ'⟩
def callQ (P:Program) (e:Env) (σ:Store) (f:O) (us:Option (List V)) (K:Tok→V→Prop):Prop:=∃ u,(∀ τ,callO P e (σ++τ) f us fun _ r σ'=>r=u∧σ'=σ++τ)∧K .go u
def callQV (P:Program) (σ:Store) (f:Option V) (us:Option (List V)) (K:Tok→V→Prop):Prop:=∃ u,(∀ τ,callV P (σ++τ) f us fun _ r σ'=>r=u∧σ'=σ++τ)∧K .go u
def runI (P:Program) (d:Option Nat) (K:St→Prop) (e:Env) (σ:Store):I→Prop
 | .call f as=>callO P e σ f (opvs e as) fun t r σ'=>K ⟨t,setD e d r,σ'⟩
 | .callQ f as=>callQ P e σ f (opvs e as) fun t r=>K ⟨t,setD e d r,σ⟩
 | j=>ev e σ (iK e d K) j
def runIn (P:Program) (i:In) (K:St→Prop) (s:St):Prop:=runI P i.dst K s.e s.σ i.i
def bothK (d:Option Nat) (e:Env) (σ:Store) (A K:St→Prop) (t:Tok):Bool→Prop
 | true=>A ⟨t,e,σ⟩
 | false=>K ⟨t,setD e d (.tup []),σ⟩
def vcOps (P:Program):List In→(St→Prop)→St→Prop
 | [],K,s=>K s
 | i::is,K,s=>wantK i.g s.e (bothK i.dst s.e s.σ (runIn P i (vcOps P is K)) (vcOps P is K))
section
variable {P:Program}
theorem ERel.mono {x y:Cx} {e:Env} {tmps:Array Value} (h:ERel x e tmps) (k:Ext x y):ERel y e tmps:=fun i u hu =>
 let ⟨v,hv,hr⟩:=h i u hu
 ⟨v,hv,VRel.mono k u v hr⟩
theorem ERel.put {x:Cx} {e:Env} {a:Act} {d:Option Nat} {u:V} {v:Value} (h:ERel x e a.tmps) (hv:VRel x u v) (hd:∀ k,d=some k→k<a.tmps.size):ERel x (setD e d u) (a.put d v).tmps:=by
 cases d with
 | none=>exact h
 | some k =>
  intro i u' hu
  have hk:=hd k rfl
  simp only [setD,eget] at hu
  simp only [Act.put]
  split at hu
  ·rename_i hik
   obtain rfl:=Option.some.inj hu
   subst hik
   exact ⟨v,by simp [hk],hv⟩
  ·rename_i hik
   obtain ⟨v',hv',hr'⟩:=h i u' hu
   exact ⟨v',by rw [Array.getElem?_setIfInBounds_ne (by omega)]; exact hv',hr'⟩
theorem put_size (a:Act) (d:Option Nat) (v:Value):(a.put d v).tmps.size=a.tmps.size:=by cases d <;> simp [Act.put]
theorem put_defers (a:Act) (d:Option Nat) (v:Value):(a.put d v).defers=a.defers:=by cases d <;> simp [Act.put]
def Post (x0:Cx) (n:Nat) (K:St→Prop) (a:Act) (w:World):Prop :=
 ∃ y e,K ⟨.go,e,y.σ⟩∧ERel y e a.tmps∧WRel y∧Ext x0 y∧y.w=w∧a.tmps.size=n∧a.defers=[]
theorem rel_undef (x:Cx):VRel x (.tup []) undef:=⟨[],rfl,rfl⟩
theorem cIn_some {ops:Array Oper} {n:Nat} {o:Oper} {i:In} (h:cIn P ops n o=some i):cI P o.op=some i.i∧o.dst=i.dst∧(∀ k,i.dst=some k→k<n) ∧
  ((o.guard=none∧i.g=none)∨∃ j b s,o.guard=some (j,b)∧(ops[j]?).bind (·.dst)=some s∧i.g=some (s,b)):=by
 unfold cIn at h
 split at h
 ·cases h
 ·rename_i j hj
  split at h
  ·rename_i hd
   have hd':∀ k,o.dst=some k→k<n:=by
    intro k hk
    rw [hk] at hd
    simpa [dstOk] using hd
   split at h
   ·rename_i hg
    obtain rfl:=Option.some.inj h
    exact ⟨hj,rfl,hd',.inl ⟨hg,rfl⟩⟩
   ·rename_i jj b hg
    split at h
    ·rename_i s hs
     obtain rfl:=Option.some.inj h
     exact ⟨hj,rfl,hd',.inr ⟨jj,b,s,hg,hs,rfl⟩⟩
    ·cases h
  ·cases h
theorem callFunc_enter {f:FuncId} (h:Enters P f) (args:Array Value) (w:World):(callFunc f args).run P w=.ok (.enter f args) w:=by
 obtain ⟨fn,hf,hn,hb⟩:=h
 have hn' : ¬ fn.name = "runtime.NumGoroutine" := by simpa using hn
 have hb':¬ fn.body=none:=by cases h:fn.body <;> simp_all
 simp [callFunc,hf,hn',hb']
theorem cI_call {op:Op} {f:O} {as:List O} (h:cI P op=some (.call f as)):∃ cl,op=.call cl∧cOs cl.args.toList=some as∧((∃ pf,cl.callee=.value pf∧cO pf=some f)∨∃ k name,cl.callee=.invoke (.tmp k) name∧f=.m k name):=by
 cases op with
 | call cl =>
  simp only [cI] at h
  split at h
  ·(repeat' split at h) <;> simp at h
  ·(repeat' split at h) <;> simp at h
  ·(repeat' split at h) <;> simp at h
  ·(repeat' split at h) <;> simp at h
  ·(repeat' split at h) <;> simp at h
  ·(repeat' split at h) <;> simp at h
  ·rename_i k name hcal
   obtain ⟨as',h1,h2⟩:=map_some h
   simp only [I.call.injEq] at h2
   obtain ⟨rfl,rfl⟩:=h2
   exact ⟨cl,rfl,h1,.inr ⟨k,name,hcal,rfl⟩⟩
  ·rename_i pf hcal
   split at h
   ·rename_i f' as' hf' has'
    simp only [Option.some.injEq,I.call.injEq] at h
    obtain ⟨rfl,rfl⟩:=h
    exact ⟨cl,rfl,has',.inl ⟨pf,hcal,hf'⟩⟩
   ·cases h
  ·cases h
 | slice t p lo hi mx =>
  cases mx <;> simp only [cI] at h
  ·(repeat' split at h) <;> simp_all
  ·cases h
 | makeMap t r=>cases r <;> simp [cI] at h
 | makeFunc f a b=>cases f <;> simp only [cI] at h <;> first | (cases h; done) | ((repeat' split at h) <;> first | (cases h; done) | (obtain ⟨_,_,h⟩:=map_some h; cases h; done))
 | _ =>
  simp only [cI] at h
  first
   | (cases h; done)
   | (obtain ⟨_,_,h⟩:=map_some h; cases h; done)
   | ((repeat' split at h) <;> first | (cases h; done) | (obtain ⟨_,_,h⟩:=map_some h; cases h; done) | (simp_all; done))
theorem cI_noQ {op:Op} {f:O} {as:List O} (h:cI P op=some (.callQ f as)):False:=by
 cases op with
 | call cl =>
  simp only [cI] at h
  split at h
  ·(repeat' split at h) <;> simp at h
  ·(repeat' split at h) <;> simp at h
  ·(repeat' split at h) <;> simp at h
  ·(repeat' split at h) <;> simp at h
  ·(repeat' split at h) <;> simp at h
  ·(repeat' split at h) <;> simp at h
  ·obtain ⟨as',h1,h2⟩:=map_some h
   simp at h2
  ·split at h
   ·simp at h
   ·cases h
  ·cases h
 | slice t p lo hi mx =>
  cases mx <;> simp only [cI] at h
  ·(repeat' split at h) <;> simp_all
  ·cases h
 | makeMap t r=>cases r <;> simp [cI] at h
 | makeFunc f a b=>cases f <;> simp only [cI] at h <;> first | (cases h; done) | ((repeat' split at h) <;> first | (cases h; done) | (obtain ⟨_,_,h⟩:=map_some h; cases h; done))
 | _ =>
  simp only [cI] at h
  first
   | (cases h; done)
   | (obtain ⟨_,_,h⟩:=map_some h; cases h; done)
   | ((repeat' split at h) <;> first | (cases h; done) | (obtain ⟨_,_,h⟩:=map_some h; cases h; done) | (simp_all; done))
theorem wantV_some {o:Option V} {b:Bool} {K:Tok→Bool→Prop} (h:wantV o b K):(∃ v,o=some (.t (.bool v))∧(v=true→K .go b)∧(v=false→K .go (!b)))∨(o=some (.tup [])∧K .go false):=by
 unfold wantV at h
 split at h
 ·exact .inl ⟨_,rfl,h⟩
 ·exact .inr ⟨rfl,h⟩
 ·exact h.elim
theorem callV_some {σ:Store} {f:Option V} {us:Option (List V)} {K:Tok→V→Store→Prop} (h:callV P σ f us K) :
  ∃ g as us',us=some us'∧((∃ caps,f=some (.fn (.func g) caps)∧as=us'++caps)∨∃ fs,f=some (.fnb (.func g) fs)∧as=fs++us')∧((∃ R,ACalls P g as σ R∧∀ r σ',R r σ'→K .go r σ')∨∃ u,XCalls P g as u∧K .go u σ):=by
 unfold callV at h
 split at h
 ·exact ⟨_,_,_,rfl,.inl ⟨_,rfl,rfl⟩,h⟩
 ·exact ⟨_,_,_,rfl,.inr ⟨_,rfl,rfl⟩,h⟩
 ·exact h.elim
theorem methodOf_some {ty:Nat} {name:String} {f:FuncId} (h:methodOf P ty name=some f):∃ i d m pr,P.info? ty=some i∧P.underlying ty=some d∧i.methods.find? (·.name == name)=some m∧m.path=#[]∧m.func=some (f,pr) ∧
  ((∃ el,d=.pointer el∧pr=true)∨((∀ el,d≠.pointer el)∧pr=false)):=by
 unfold methodOf at h
 split at h
 ·rename_i i d hi hd
  split at h
  ·rename_i m hm
   split at h
   ·rename_i hp
    split at h
    ·rename_i f' pr hf
     have hp':m.path=#[]:=by simpa using hp
     split at h
     ·obtain rfl:=Option.some.inj h
      exact ⟨i,_,m,_,hi,hd,hm,hp',hf,.inl ⟨_,rfl,rfl⟩⟩
     ·cases h
     ·rename_i hne _
      obtain rfl:=Option.some.inj h
      exact ⟨i,_,m,_,hi,hd,hm,hp',hf,.inr ⟨fun el he=>by subst he; first | exact hne _ rfl | simp_all,rfl⟩⟩
     ·cases h
    ·cases h
   ·cases h
  ·cases h
 ·cases h
theorem method_run {ty:Nat} {name:String} {f:FuncId} (h:methodOf P ty name=some f) (n:Nat) (v:Value) (w:World):(method (n+1) ty v name).run P w=.ok (f,v) w:=by
 obtain ⟨i,d,m,pr,hi,hd,hm,hp,hf,hk⟩:=methodOf_some h
 simp only [method,Sem.run_bind,run_typeInfo' hi,Result.andThen_ok,hm,hp,follow,Sem.run_pure,hf]
 rcases hk with ⟨el,rfl,rfl⟩ | ⟨hne,rfl⟩
 ·simp [receiverAt,run_underlying hd,Place.get]
 ·simp only [receiverAt,Sem.run_bind,run_underlying hd,Result.andThen_ok]
  cases d <;> first | (exact (hne _ rfl).elim) | simp [Place.get]
theorem behind_first {α:Type} (a:α) (l:Array α):(#[a]++l).extract 1 (#[a]++l).size=l:=by
 cases l with
 | mk l=>simp
theorem call_enter {x:Cx} {ek:Env} {a:Act} {o:Oper} {f:O} {as:List O} (h1:cI P o.op=some (.call f as)) (hx:WRel x) (he:ERel x ek a.tmps) {KK:Tok→V→Store→Prop} (hk:callO P ek x.σ f (opvs ek as) KK) :
  (∃ g cargs,(execOp a.eval o).run P x.w=.ok (.enter g cargs) x.w∧Calls P g cargs x.w fun e w'=>∃ v y r,e=.returned v∧y.w=w'∧KK .go r y.σ∧VRel y r v∧WRel y∧Ext x y) ∨
  ∃ v u,(execOp a.eval o).run P x.w=.ok (.value v) x.w∧KK .go u x.σ∧VRel x u v:=by
 obtain ⟨cl,hop,hargs,⟨pf,hcal,hpf⟩ | ⟨k,name,hcal,rfl⟩⟩:=cI_call h1
 ·have hk':callV P x.σ (opv ek f) (opvs ek as) KK:=by
   cases f with
   | t k=>exact hk
   | c v=>exact hk
   | m k n=>cases pf <;> simp [cO] at hpf
  obtain ⟨g,as,us,has,hff,hk⟩:=callV_some hk'
  have har:=opvs_rel he hargs has
  obtain ⟨lf,lc,hfv,hall⟩:∃ lf lc,a.eval pf=.func (.func g) lf.toArray lc.toArray∧VsRel x as (lf++(cl.args.toList.map a.eval++lc)):=by
   rcases hff with ⟨caps,hf,rfl⟩ | ⟨fs,hf,rfl⟩
   ·have hfr:=opv_rel he hpf hf
    simp only [VRel] at hfr
    obtain ⟨lc,hfv,hlc⟩:=hfr
    exact ⟨[],lc,hfv,har.app hlc⟩
   ·have hfr:=opv_rel he hpf hf
    simp only [VRel] at hfr
    obtain ⟨lf,hfv,hlf⟩:=hfr
    refine ⟨lf,[],hfv,?_⟩
    rw [List.append_nil]
    exact hlf.app har
  have hargsEq:(lf++(cl.args.toList.map a.eval++lc)).toArray=lf.toArray++(cl.args.map a.eval++lc.toArray):=by
   apply Array.ext'
   simp
  rcases hk with ⟨R,hR,hk⟩ | ⟨u,hX,hk⟩
  rotate_left
  ·obtain ⟨v,hrun,hv⟩:=hX x _ hall
   rw [hargsEq] at hrun
   refine .inr ⟨v,u,?_,hk,hv⟩
   simp only [execOp,hop,resolve,hcal,hfv,Deferred.ofValue,Sem.run_bind,Sem.run_pure,Result.andThen_ok,invoke]
   simpa using hrun
  have hcalls:=hR.2 x _ rfl hx hall
  have hrun:(execOp a.eval o).run P x.w=.ok (.enter g (lf.toArray++(cl.args.map a.eval++lc.toArray))) x.w:=by
   simp only [execOp,hop,resolve,hcal,hfv,Deferred.ofValue,Sem.run_bind,Sem.run_pure,Result.andThen_ok,invoke]
   simpa using callFunc_enter hR.1 _ _
  rw [hargsEq] at hcalls
  refine .inl ⟨g,_,hrun,hcalls.mono ?_⟩
  rintro ex w' ⟨v,y,r,rfl,rfl,hRr,hrv,hy,hxy⟩
  exact ⟨v,y,r,rfl,rfl,hk r y.σ hRr,hrv,hy,hxy⟩
 ·simp only [callO] at hk
  unfold callM at hk
  split at hk
  ·rename_i ty u us hg has
   obtain ⟨g,hm,R,hR,hk⟩:=onRow_some hk
   obtain ⟨c,hc,hr⟩:=he k _ hg
   simp only [VRel] at hr
   obtain ⟨cv,rfl,hcv⟩:=hr
   have har:=opvs_rel he hargs has
   have hall:VsRel x (u::us) (cv::cl.args.toList.map a.eval):=by simp only [VsRel]; exact ⟨_,_,rfl,hcv,har⟩
   have hcalls:=hR.2 x _ rfl hx hall
   have hev:a.eval (.tmp k)=.iface ty cv:=by simp only [Act.eval,Array.getD_eq_getD_getElem?,hc,Option.getD_some]
   have hsz:∃ n,P.types.size+Made.depth=n+1:=⟨P.types.size+99,rfl⟩
   obtain ⟨n,hn⟩:=hsz
   have hrun:(execOp a.eval o).run P x.w=.ok (.enter g (#[cv]++cl.args.map a.eval)) x.w:=by
    simp only [execOp,hop,resolve,hcal,hev,Sem.run_bind,Sem.run_pure,Result.andThen_ok,invoke]
    have h0:(#[Value.iface ty cv]++cl.args.map a.eval)[0]?=some (Value.iface ty cv):=by rw [Array.getElem?_append_left (by simp)]; rfl
    have hex:(#[Value.iface ty cv]++cl.args.map a.eval).extract 1 (#[Value.iface ty cv]++cl.args.map a.eval).size=cl.args.map a.eval:=by
     exact behind_first _ _
    simp only [h0,hex,callMethod,Sem.run_bind,run_program,Result.andThen_ok,hn,method_run hm]
    exact callFunc_enter hR.1 _ _
   have hargsEq:(cv::cl.args.toList.map a.eval).toArray=#[cv]++cl.args.map a.eval:=by
    apply Array.ext'
    simp
   rw [hargsEq] at hcalls
   refine .inl ⟨g,_,hrun,hcalls.mono ?_⟩
   rintro ex w' ⟨v,y,r,rfl,rfl,hRr,hrv,hy,hxy⟩
   exact ⟨v,y,r,rfl,rfl,hk r y.σ hRr,hrv,hy,hxy⟩
  ·exact hk.elim
theorem runI_ev {d:Option Nat} {K:St→Prop} {e:Env} {σ:Store} {i:I} (hn:∀ f as,i≠.call f as) (hq:∀ f as,i≠.callQ f as) (h:runI P d K e σ i):ev e σ (iK e d K) i:=by
 unfold runI at h
 split at h
 ·exact (hn _ _ rfl).elim
 ·exact (hq _ _ rfl).elim
 ·exact h
theorem vcOps_sound {ops:Array Oper} {n:Nat} {Q:Exit→Act→World→Prop} {x0:Cx} {K:St→Prop} (hQ:∀ a w,Post x0 n K a w→Q .normal a w) :
  ∀ (l:List Nat) (ins:List In),l.length=ins.length→(∀ (k i:Nat) (c:In),l[k]?=some i→ins[k]?=some c→∃ o,ops[i]?=some o∧cIn P ops n o=some c) →
  ∀ (x:Cx) (e:Env) (a:Act),Ext x0 x→WRel x→ERel x e a.tmps→a.tmps.size=n→a.defers=[]→vcOps P ins K ⟨.go,e,x.σ⟩→wpOps P ops Q l a x.w:=by
 intro l
 induction l with
 | nil =>
  intro ins hlen hl x e a h0 hx he hn hd hk
  cases ins with
  | cons _ _=>simp at hlen
  | nil =>
  simp only [vcOps] at hk
  exact hQ _ _ ⟨x,e,hk,he,hx,h0,rfl,hn,hd⟩
 | cons i l ihl =>
  intro ins hlen hl x e a h0 hx he hn hd hk
  cases ins with
  | nil=>simp at hlen
  | cons c ins =>
  obtain ⟨o,ho,hc⟩:=hl 0 i c rfl rfl
  obtain ⟨h1,h2,h3,h4⟩:=cIn_some hc
  have ih:=ihl ins (by simpa using hlen) (fun k i' c' hi hc=>hl (k+1) i' c' (by simpa using hi) (by simpa using hc))
  have go_true:runIn P c (vcOps P ins K) ⟨.go,e,x.σ⟩→o.wp P a x.w (wpOps P ops Q l) Q:=by
   intro hk
   by_cases hcall:∃ f as,c.i=.call f as
   ·obtain ⟨f,as,hcall⟩:=hcall
    simp only [runIn,runI,hcall] at hk
    rw [hcall] at h1
    rcases call_enter h1 hx he hk with ⟨g,cargs,hrun,hcalls⟩ | ⟨v,u,hrun,hkk,hrv⟩
    rotate_left
    ·simp only [Oper.wp,hrun,Oper.upon]
     rw [h2]
     exact ih x _ _ h0 hx (he.put hrv (fun k hk=>by rw [hn]; exact h3 k hk)) (by rw [put_size]; exact hn) (by rw [put_defers]; exact hd) hkk
    simp only [Oper.wp,hrun,Oper.upon]
    refine hcalls.mono ?_
    rintro ex w' ⟨v,y,r,rfl,rfl,hRr,hrv,hy,hxy⟩
    rw [h2]
    exact ih y _ _ (h0.trans hxy) hy ((he.mono hxy).put hrv (fun k hk=>by rw [hn]; exact h3 k hk)) (by rw [put_size]; exact hn) (by rw [put_defers]; exact hd) hRr
   ·have hk':ev e x.σ (iK e c.dst (vcOps P ins K)) c.i:=runI_ev (fun f as hh=>hcall ⟨f,as,hh⟩) (fun f as hh=>cI_noQ (f:=f) (as:=as) (by rw [h1,hh])) hk
    obtain ⟨nx,y,r,hrun,hkk,hnr,hy,hxy⟩:=cI_sound hx he h1 (fun f as hh=>hcall ⟨f,as,hh⟩) hk'
    simp only [Oper.wp,hrun]
    cases nx <;> first | (simp only [NRel] at hnr; done) | skip
    case value v =>
     cases r with
     | none=>simp [NRel] at hnr
     | some u =>
      simp only [Oper.upon]
      rw [h2]
      exact ih y _ _ (h0.trans hxy) hy ((he.mono hxy).put hnr (fun k hk=>by rw [hn]; exact h3 k hk)) (by rw [put_size]; exact hn) (by rw [put_defers]; exact hd) hkk
    case skip =>
     cases r with
     | some u=>simp [NRel] at hnr
     | none =>
      simp only [Oper.upon]
      rw [h2]
      exact ih y _ _ (h0.trans hxy) hy ((he.mono hxy).put (rel_undef y) (fun k hk=>by rw [hn]; exact h3 k hk)) (by rw [put_size]; exact hn) (by rw [put_defers]; exact hd) hkk
  have go_false:vcOps P ins K ⟨.go,setD e c.dst (.tup []),x.σ⟩→wpOps P ops Q l (a.put o.dst undef) x.w:=by
   intro hk
   rw [h2]
   exact ih x _ _ h0 hx (he.put (rel_undef x) (fun k hk=>by rw [hn]; exact h3 k hk)) (by rw [put_size]; exact hn) (by rw [put_defers]; exact hd) hk
  simp only [vcOps] at hk
  simp only [wpOps,ho]
  rcases h4 with ⟨hg,hcg⟩ | ⟨j,b,s,hg,hs,hcg⟩
  ·rw [hcg] at hk
   simp only [wantK] at hk
   rw [if_pos (by simp [Region.wanted,hg])]
   exact .inl (go_true hk)
  ·rw [hcg] at hk
   simp only [wantK] at hk
   rcases wantV_some hk with ⟨v,hv,hkt,hkf⟩ | ⟨hv,hk⟩
   ·obtain ⟨c',hc',hr'⟩:=he s _ hv
    have hb:=rel_bool hr'
    subst hb
    have hy:yielded ops a.tmps j=some v:=by
     simp [yielded,hs,hc']
    cases v <;> cases b
    ·rw [if_pos (by simp [Region.wanted,hg,hy])]
     exact .inl (go_true (hkf rfl))
    ·rw [if_neg (by simp [Region.wanted,hg,hy])]
     exact go_false (hkf rfl)
    ·rw [if_neg (by simp [Region.wanted,hg,hy])]
     exact go_false (hkt rfl)
    ·rw [if_pos (by simp [Region.wanted,hg,hy])]
     exact .inl (go_true (hkt rfl))
   ·obtain ⟨c',hc',hr'⟩:=he s _ hv
    simp only [VRel] at hr'
    obtain ⟨l',rfl,hl'⟩:=hr'
    have hy:yielded ops a.tmps j=none:=by
     simp [yielded,hs,hc']
    rw [if_neg (by simp [Region.wanted,hg,hy])]
    exact go_false hk
end
end Go.Ab
end
section
namespace Go.Ab
def oSlots:O→List Nat
 | .t k=>[k]
 | .c _=>[]
 | .m k _=>[k]
def ooSlots:Option O→List Nat
 | some o=>oSlots o
 | none=>[]
def I.slots:I→List Nat
 | .mv x=>oSlots x
 | .pick c a b=>oSlots c++oSlots a++oSlots b
 | .new _=>[]
 | .newB _ _=>[]
 | .newP _=>[]
 | .box x=>oSlots x
 | .load _ a=>oSlots a
 | .store _ a x=>oSlots a++oSlots x
 | .nilCheck x=>oSlots x
 | .bin _ x y=>oSlots x++oSlots y
 | .eqB _ x y=>oSlots x++oSlots y
 | .eqP _ x y=>oSlots x++oSlots y
 | .eqS _ x y=>oSlots x++oSlots y
 | .eqI _ x y=>oSlots x++oSlots y
 | .un _ x=>oSlots x
 | .convInt _ x=>oSlots x
 | .sliceStr x lo hi=>oSlots x++ooSlots lo++ooSlots hi
 | .sliceSl _ x lo hi=>oSlots x++ooSlots lo++ooSlots hi
 | .fieldAddr _ x=>oSlots x
 | .field _ _ x=>oSlots x
 | .indexAddr _ x i=>oSlots x++oSlots i
 | .index x i=>oSlots x++oSlots i
 | .extract x _=>oSlots x
 | .len _ x=>oSlots x
 | .mkSl _ _ _ l c=>oSlots l++oSlots c
 | .lit _ _ _ _ ps=>ps.flatMap fun p=>oSlots p.2
 | .append _ _ x y=>oSlots x++oSlots y
 | .appS _ x y=>oSlots x++oSlots y
 | .build _ ps=>ps.flatMap fun p=>oSlots p.2.2
 | .convStr x=>oSlots x
 | .strBytes x=>oSlots x
 | .bytesStr x=>oSlots x
 | .mkMap=>[]
 | .look _ _ _ m k=>oSlots m++oSlots k
 | .mapUp _ m k v=>oSlots m++oSlots k++oSlots v
 | .mapEnt _ _ m k=>oSlots m++oSlots k
 | .entSt m s v=>oSlots m++oSlots s++oSlots v
 | .lenM x=>oSlots x
 | .eqA _ _ x y=>oSlots x++oSlots y
 | .iface _ x=>oSlots x
 | .fn _ caps=>caps.flatMap oSlots
 | .fnb _ caps=>caps.flatMap oSlots
 | .copy _ x y=>oSlots x++oSlots y
 | .clr _ _ x=>oSlots x
 | .mm _ x y=>oSlots x++oSlots y
 | .call f as=>oSlots f++as.flatMap oSlots
 | .callQ f as=>oSlots f++as.flatMap oSlots
def In.looks (c:In):List Nat:=c.i.slots++(match c.g with | some (s,_)=>[s] | none=>[])
def light:I→Option Bool
 | .new _ | .newB _ _ | .box _ | .store _ _ _ | .mkSl _ _ _ _ _ | .append _ _ _ _ | .appS _ _ _ | .strBytes _ | .call _ _ | .mkMap | .mapUp _ _ _ _ | .mapEnt _ _ _ _ | .entSt _ _ _ | .copy _ _ _ | .clr _ _ _=>none
 | .lit (some false) _ _ _ _=>some false
 | .lit _ _ _ _ _=>none
 | .load _ _ | .indexAddr _ _ _ | .bytesStr _ | .look _ _ _ _ _ | .lenM _ | .sliceSl _ _ _ _ | .callQ _ _ | .newP _=>some true
 | _=>some false
theorem opv_congr {e e':Env} {o:O} (h:∀ k∈oSlots o,eget e k=eget e' k):opv e o=opv e' o:=by
 cases o with
 | t k=>exact h k (by simp [oSlots])
 | c v=>rfl
 | m k n=>rfl
theorem opvs_congr {e e':Env}:∀ {os:List O},(∀ k∈os.flatMap oSlots,eget e k=eget e' k)→opvs e os=opvs e' os
 | [],_=>rfl
 | o::os,h=>by
  simp only [List.flatMap_cons,List.mem_append] at h
  simp only [opvs,opv_congr (fun k hk=>h k (.inl hk)),opvs_congr (fun k hk=>h k (.inr hk))]
theorem callO_congr {P:Program} {e e':Env} {σ:Store} {f:O} {us us':Option (List V)} {K:Tok→V→Store→Prop} (h:∀ k∈oSlots f,eget e k=eget e' k) (hu:us=us'):callO P e σ f us K=callO P e' σ f us' K:=by
 subst hu
 cases f with
 | t k=>simp only [callO,h k (by simp [oSlots])]
 | c v=>rfl
 | m k n=>simp only [callO,h k (by simp [oSlots])]
theorem bnd_congr {e e':Env} {o:Option O} {n:Nat} {K:Tok→Nat→Prop} (h:∀ k∈ooSlots o,eget e k=eget e' k):bnd e o n K=bnd e' o n K:=by
 cases o with
 | none=>rfl
 | some o=>simp only [bnd,opv_congr (o:=o) h]
theorem litRows_congr {e e':Env} {sz:Nat} {K:Tok→List (List V)→Prop}:∀ {ps:List (Nat × O)} {t:Tok} {rs:List (List V)},(∀ k∈ps.flatMap (fun p=>oSlots p.2),eget e k=eget e' k)→litRows e sz t rs ps K=litRows e' sz t rs ps K
 | [],_,_,_=>rfl
 | (i,o)::ps,t,rs,h=>by
  simp only [List.flatMap_cons,List.mem_append] at h
  simp only [litRows,opv_congr (fun k hk=>h k (.inl hk))]
  congr 1
  funext t u
  congr 1
  funext t' us
  rw [litRows_congr (fun k hk=>h k (.inr hk))]
theorem fillV_congr {e e':Env} {K:Tok→List V→Prop}:∀ {ps:List (Nat × Nat × O)} {t:Tok} {cs:List V},(∀ k∈ps.flatMap (fun p=>oSlots p.2.2),eget e k=eget e' k)→fillV e t cs ps K=fillV e' t cs ps K
 | [],_,_,_=>rfl
 | (i,s,o)::ps,t,rs,h=>by
  simp only [List.flatMap_cons,List.mem_append] at h
  simp only [fillV,opv_congr (fun k hk=>h k (.inl hk))]
  congr 1
  funext t u
  congr 1
  funext t' us
  rw [fillV_congr (fun k hk=>h k (.inr hk))]
theorem ev_congr {e e':Env} {σ:Store} {K:Tok→Option V→Store→Prop} {i:I} (h:∀ k∈i.slots,eget e k=eget e' k):ev e σ K i=ev e' σ K i:=by
 have h1:∀ {o:O},(∀ k∈oSlots o,k∈i.slots)→opv e o=opv e' o:=fun hs=>opv_congr fun k hk=>h k (hs k hk)
 have h2:∀ {o:Option O} {n:Nat} {K:Tok→Nat→Prop},(∀ k∈ooSlots o,k∈i.slots)→bnd e o n K=bnd e' o n K:=fun hs=>bnd_congr fun k hk=>h k (hs k hk)
 cases i with
 | lit how sz n z ps=>simp only [ev]; exact litRows_congr h
 | build z ps=>simp only [ev]; exact fillV_congr h
 | new cs=>rfl
 | newB _ _=>rfl
 | newP _=>rfl
 | mkMap=>rfl
 | call f as=>rfl
 | callQ f as=>rfl
 | fn f caps=>simp only [ev]; rw [opvs_congr h]
 | fnb f caps=>simp only [ev]; rw [opvs_congr h]
 | sliceStr x lo hi =>
  simp only [ev]
  rw [h1 (fun k hk=>by simp [I.slots,hk])]
  congr 1
  funext t u
  cases u <;> try rfl
  rename_i y
  cases y <;> try rfl
  simp only [evSliceStr,evSlice]
  rw [h2 (fun k hk=>by simp [I.slots,hk])]
  congr 1
  funext t' m
  rw [h2 (fun k hk=>by simp [I.slots,hk])]
 | sliceSl n x lo hi =>
  simp only [ev]
  rw [h1 (fun k hk=>by simp [I.slots,hk])]
  congr 1
  funext t u
  have h3:∀ {n:Nat} {K:Tok→Nat→Nat→Prop},evSlice e n lo hi K=evSlice e' n lo hi K:=by
   intro n K
   simp only [evSlice]
   rw [h2 (fun k hk=>by simp [I.slots,hk])]
   congr 1
   funext t' m
   rw [h2 (fun k hk=>by simp [I.slots,hk])]
  cases u with
  | t y=>cases y <;> simp only [evSliceSl,h3]
  | nils=>simp only [evSliceSl,h3]
  | rows s rs=>cases rs <;> simp only [evSliceSl,h3]
  | sl id g off len=>simp only [evSliceSl,h3]
  | _=>rfl
 | pick c a b=>simp only [ev,h1 (o:=c) (fun k hk=>by simp [I.slots,hk]),h1 (o:=a) (fun k hk=>by simp [I.slots,hk]),h1 (o:=b) (fun k hk=>by simp [I.slots,hk])]
 | mv x | box x | load _ x | nilCheck x | un _ x | convInt _ x | fieldAddr _ x | field _ _ x | extract x _ | len _ x | convStr x | strBytes x | bytesStr x | lenM x | iface _ x | clr _ _ x=>simp only [ev,h1 (o:=x) (fun k hk=>by simp [I.slots,hk])]
 | mapUp _ x y z | entSt x y z=>simp only [ev,h1 (o:=x) (fun k hk=>by simp [I.slots,hk]),h1 (o:=y) (fun k hk=>by simp [I.slots,hk]),h1 (o:=z) (fun k hk=>by simp [I.slots,hk])]
 | look _ _ _ x y | mapEnt _ _ x y | eqA _ _ x y | copy _ x y | mm _ x y | store _ x y | bin _ x y | eqB _ x y | eqP _ x y | eqS _ x y | eqI _ x y | indexAddr _ x y | index x y | mkSl _ _ _ x y | append _ _ x y | appS _ x y=>simp only [ev,h1 (o:=x) (fun k hk=>by simp [I.slots,hk]),h1 (o:=y) (fun k hk=>by simp [I.slots,hk])]
def Once {α:Type} (F:(Tok→α→Prop)→Prop):Prop:=∀ K,F K→∃ u,K .go u∧∀ K':Tok→α→Prop,K' .go u→F K'
theorem Once.go {α:Type} (v:α):Once fun K:Tok→α→Prop=>K .go v:=fun _ h=>⟨v,h,fun _ h=>h⟩
theorem Once.no {α:Type}:Once fun _:Tok→α→Prop=>False:=fun _ h=>h.elim
theorem Once.and {α:Type} {p:Prop} {F:(Tok→α→Prop)→Prop} (h:Once F):Once fun K=>p∧F K:=fun K hk =>
 let ⟨u,h1,h2⟩:=h K hk.2
 ⟨u,h1,fun K' hk'=>⟨hk.1,h2 K' hk'⟩⟩
theorem Once.via {α β:Type} {F:(Tok→α→Prop)→Prop} {G:Tok→α→(Tok→β→Prop)→Prop} (h:Once F) (g:∀ u,Once (G .go u)):Once fun K=>F fun t u=>G t u K:=fun K hk =>
 let ⟨u,h1,h2⟩:=h _ hk
 let ⟨v,g1,g2⟩:=g u K h1
 ⟨v,g1,fun K' hk'=>h2 _ (g2 K' hk')⟩
theorem once_onV (o:Option V):Once (onV o):=by cases o; exact .no; exact .go _
theorem once_onRow {α:Type} (o:Option α):Once (onRow o):=by cases o; exact .no; exact .go _
theorem once_onSlc {β:Type} (o:Option Obj) (G:Tok→Nat→List (List V)→(Tok→β→Prop)→Prop) (g:∀ sz rows,Once (G .go sz rows)):Once fun K=>onSlc o fun t sz rows=>G t sz rows K:=by
 intro K h; obtain ⟨sz,rows,rfl,h⟩:=onSlc_some h
 obtain ⟨v,g1,g2⟩:=g sz rows K h
 exact ⟨v,g1,fun K' hk'=>g2 K' hk'⟩
theorem once_ldV (n:Option Nat) (cs:List V):Once (ldV n cs):=by
 cases n with
 | none=>cases cs with
  | nil=>exact .no
  | cons c cs=>exact (Once.go c).and
 | some n=>exact (Once.go _).and
theorem once_ldT (n:Option Nat) (cs:List T):Once (ldT n cs):=by
 cases n with
 | none=>cases cs with
  | nil=>exact .no
  | cons c cs=>exact Once.go _
 | some n=>exact (Once.go _).and
theorem once_load (n:Option Nat) (σ:Store) (a:V):Once (evLoad n σ a):=by
 intro K h
 unfold evLoad at h
 split at h
 ·exact once_ldT n _ K h
 ·rename_i id off
  obtain ⟨cs,ho,hk⟩:=onBox_some h
  obtain ⟨u,h1,h2⟩:=once_ldV n _ _ hk
  exact ⟨u,h1,fun K' hk'=>by simp only [evLoad,ho,onBox]; exact h2 _ hk'⟩
 ·rename_i id g i j
  obtain ⟨sz,rows,ho,hg,hk⟩:=onSlc_some h
  obtain ⟨r,hr,hk⟩:=onRow_some hk
  obtain ⟨u,h1,h2⟩:=once_ldV n _ _ hk
  exact ⟨u,h1,fun K' hk'=>by simp only [evLoad,ho,onSlc,hr,onRow]; exact ⟨hg,h2 _ hk'⟩⟩
 ·exact h.elim
theorem once_index (n:Nat) (σ:Store) (a i:V):Once (evIndexAddr n σ a i):=by
 intro K h
 unfold evIndexAddr at h
 split at h
 ·obtain ⟨h1,h2,h3⟩:=h
  obtain ⟨r,hr,hk⟩:=onRow_some h3
  exact ⟨_,hk,fun K' hk'=>by simp only [evIndexAddr,hr,onRow]; exact ⟨h1,h2,hk'⟩⟩
 ·obtain ⟨sz,rows,ho,h1,h2,h3,h4,hk⟩:=onSlc_some h
  exact ⟨_,hk,fun K' hk'=>by simp only [evIndexAddr,ho,onSlc]; exact ⟨h1,h2,h3,h4,hk'⟩⟩
 ·obtain ⟨h1,h2,h3⟩:=h
  obtain ⟨r,hr,hk⟩:=onRow_some h3
  obtain ⟨ts,hts,hk⟩:=onRow_some hk
  exact ⟨_,hk,fun K' hk'=>by simp only [evIndexAddr,hr,hts,onRow]; exact ⟨h1,h2,hk'⟩⟩
 ·exact h.elim
theorem once_bin (op:BinOp) (a b:V):Once (evBin op a b):=by
 cases a <;> try exact .no
 rename_i y; cases y <;> try exact .no
 ·cases b <;> try exact .no
  rename_i y; cases y <;> try exact .no
  intro K h
  simp only [evBin] at h
  simp only [evBin]
  split
  ·rename_i hs
   rw [if_pos hs] at h
   cases op <;> first | exact h.elim | exact ⟨_,h.2,fun K' hk'=>⟨h.1,hk'⟩⟩ | (simp [isSh] at hs; done)
  ·rename_i hs
   rw [if_neg hs] at h
   cases op <;> first | exact ⟨_,h.2,fun K' hk'=>⟨h.1,hk'⟩⟩ | exact ⟨_,h.2.2,fun K' hk'=>⟨h.1,h.2.1,hk'⟩⟩ | exact h.2.elim
 ·cases b <;> try exact .no
  rename_i y; cases y <;> try exact .no
  intro K h
  cases op <;> first | exact ⟨_,h.2,fun K' hk'=>⟨h.1,hk'⟩⟩ | exact ⟨_,h,fun K' hk'=>hk'⟩ | exact h.elim
theorem once_nil (f:V→Option Bool) (neg:Bool) (a b:V):Once (evNil f neg a b):=by
 intro K h
 unfold evNil at *
 generalize f a=p at h ⊢
 generalize f b=q at h ⊢
 cases p with
 | none=>exact h.elim
 | some p=>cases q with
  | none=>cases p <;> exact h.elim
  | some q=>cases p <;> cases q <;> first | exact ⟨_,h,fun _ h=>h⟩ | exact h.elim
theorem once_bnd (e:Env) (o:Option O) (n:Nat):Once (bnd e o n):=by
 cases o with
 | none=>exact .go _
 | some o =>
  intro K h
  simp only [bnd] at h ⊢
  generalize opv e o=q at h ⊢
  unfold bndV at h
  split at h
  ·exact ⟨_,h.2,fun _ hk=>⟨h.1,hk⟩⟩
  ·exact h.elim
theorem once_slice {β:Type} (e:Env) (n:Nat) (lo hi:Option O) (G:Nat→Nat→β):Once fun K:Tok→β→Prop=>evSlice e n lo hi fun t l h=>K t (G l h):=by
 intro K h
 unfold evSlice at h
 obtain ⟨m,⟨h1,h2⟩,h3⟩:=once_bnd e hi n _ h
 obtain ⟨l,⟨g1,g2⟩,g3⟩:=once_bnd e lo 0 _ h2
 exact ⟨_,g2,fun K' hk'=>h3 _ ⟨h1,g3 _ ⟨g1,hk'⟩⟩⟩
theorem once_fill (e:Env):∀ (ps:List (Nat × Nat × O)) (cs:List V),Once (fillV e .go cs ps)
 | [],_=>.go _
 | (_,_,_)::ps,cs=>(once_onV _).via (G:=fun t u K=>onRow (cellsOf u) fun _ us=>us.length=_∧_+_≤cs.length∧fillV e t (putAt cs _ us) ps K) fun u =>
   (once_onRow _).via (G:=fun _ us K=>us.length=_∧_+_≤cs.length∧fillV e .go (putAt cs _ us) ps K) fun us=>(once_fill e ps _).and.and
theorem once_litRows (e:Env) (sz:Nat):∀ (ps:List (Nat × O)) (rs:List (List V)),Once (litRows e sz .go rs ps)
 | [],_=>.go _
 | (_,_)::ps,rs=>(once_onV _).via (G:=fun t u K=>onRow (cellsOf u) fun _ us=>us.length=sz∧us.all one=true∧_<rs.length∧litRows e sz t (rs.set _ us) ps K) fun u =>
   (once_onRow _).via (G:=fun _ us K=>us.length=sz∧us.all one=true∧_<rs.length∧litRows e sz .go (rs.set _ us) ps K) fun us=>(once_litRows e sz ps _).and.and.and
theorem once_cond (o:Option V) (p q:Option V):Once fun K:Tok→V→Prop=>condV o (fun t=>onV p fun _ u=>K t u) (fun t=>onV q fun _ u=>K t u):=by
 intro K h
 obtain ⟨v,rfl,h1,h2⟩:=condV_some h
 cases v with
 | true =>
  obtain ⟨u,hu,hk⟩:=onV_some (h1 rfl)
  exact ⟨u,hk,fun K' hk'=>⟨fun _=>(by simp only [hu,onV]; exact hk'),fun h=>(by cases h)⟩⟩
 | false =>
  obtain ⟨u,hu,hk⟩:=onV_some (h2 rfl)
  exact ⟨u,hk,fun K' hk'=>⟨fun h=>(by cases h),fun _=>(by simp only [hu,onV]; exact hk')⟩⟩
def eqK (σ:Store) (u:V):Tok→Option V→Store→Prop:=fun _ r σ'=>r=some u∧σ'=σ
theorem via1 {o:Option V} {F:V→(Tok→V→Prop)→Prop} (h:∀ a,Once (F a)):Once fun K:Tok→V→Prop=>onV o fun t a=>F a fun _ u=>K t u:=by
 intro K hk
 obtain ⟨a,rfl,hk⟩:=onV_some hk
 obtain ⟨u,h1,h2⟩:=h a _ hk
 exact ⟨u,h1,fun K' hk'=>h2 _ hk'⟩
theorem via2 {o o':Option V} {F:V→V→(Tok→V→Prop)→Prop} (h:∀ a b,Once (F a b)):Once fun K:Tok→V→Prop=>onV o fun t a=>onV o' fun _ b=>F a b fun _ u=>K t u:=by
 intro K hk
 obtain ⟨a,ha,hk1⟩:=onV_some hk
 obtain ⟨b,hb,hk2⟩:=onV_some hk1
 obtain ⟨u,h1,h2⟩:=h a b _ hk2
 exact ⟨u,h1,fun K' hk'=>(by simp only [ha,hb,onV]; exact h2 _ hk')⟩
theorem once_sliceSl (e:Env) (n:Nat) (lo hi:Option O) (σ:Store) (a:V):Once fun K:Tok→V→Prop=>evSliceSl e n lo hi σ a fun t u=>K t u:=by
 cases a with
 | t p =>
  cases p with
  | lst _ _=>exact (once_slice e _ lo hi _).and
  | _=>exact .no
 | nils=>exact once_slice e _ lo hi _
 | rows s rs =>
  cases rs with
  | nil=>exact (once_slice e _ lo hi _).and
  | cons _ _=>exact .no
 | sl id g off len=>exact once_onSlc _ (fun _ sz rows (K:Tok→V→Prop)=>sz=n∧g=rows.length∧evSlice e len lo hi fun t l h=>K t (V.sl id g (off+l) (h - l))) fun sz rows=>(once_slice e _ lo hi _).and.and
 | _=>exact .no
theorem of_once {F:(Tok→V→Prop)→Prop} (h:Once F) {σ:Store} {K:Tok→Option V→Store→Prop} (hk:F fun t u=>K t (some u) σ):∃ u,K .go (some u) σ∧F fun t u'=>eqK σ u t (some u') σ:=by
 obtain ⟨u,h1,h2⟩:=h _ hk
 exact ⟨u,h1,h2 _ ⟨rfl,rfl⟩⟩
theorem light_once {e:Env} {σ:Store} {i:I} {r:Bool} (hl:light i=some r) {K:Tok→Option V→Store→Prop} (hk:ev e σ K i):∃ u,K .go (some u) σ∧ev e σ (eqK σ u) i:=by
 cases i with
 | new _ | newB _ _ | box _ | store _ _ _ | mkSl _ _ _ _ _ | append _ _ _ _ | appS _ _ _ | strBytes _ | call _ _ | mkMap | mapUp _ _ _ _ | mapEnt _ _ _ _ | entSt _ _ _ | copy _ _ _ | clr _ _ _=>cases hl
 | callQ f as=>exact hk.elim
 | newP zs =>
  obtain ⟨N,h1,h2⟩:=hk
  exact ⟨_,h2,N,h1,rfl,rfl⟩
 | mv x=>exact of_once (F:=fun K=>onV (opv e x) fun t u=>K t u) (once_onV _) hk
 | pick c a b=>exact of_once (F:=fun K=>condV (opv e c) (fun t=>onV (opv e a) fun _ u=>K t u) (fun t=>onV (opv e b) fun _ u=>K t u)) (once_cond _ _ _) hk
 | load n a=>exact of_once (F:=fun K=>onV (opv e a) fun t a=>evLoad n σ a fun _ u=>K t u) (via1 fun a=>once_load n σ a) hk
 | nilCheck x=>exact of_once (F:=fun K=>onV (opv e x) fun t a=>nilChk a fun _ u=>K t u) (via1 fun a=>by cases a <;> first | exact .go _ | exact .no) hk
 | bin op x y=>exact of_once (F:=fun K=>onV (opv e x) fun t a=>onV (opv e y) fun _ b=>evBin op a b fun _ u=>K t u) (via2 fun a b=>once_bin op a b) hk
 | eqB neg x y=>exact of_once (F:=fun K=>onV (opv e x) fun t a=>onV (opv e y) fun _ b=>evEqB neg a b fun _ u=>K t u) (via2 fun a b=>by
   cases a <;> try exact .no
   rename_i p; cases p <;> try exact .no
   cases b <;> try exact .no
   rename_i p; cases p <;> first | exact .no | exact .go _) hk
 | eqP neg x y=>exact of_once (F:=fun K=>onV (opv e x) fun t a=>onV (opv e y) fun _ b=>evNil isNilP neg a b fun _ u=>K t u) (via2 fun a b=>once_nil _ neg a b) hk
 | eqS neg x y=>exact of_once (F:=fun K=>onV (opv e x) fun t a=>onV (opv e y) fun _ b=>evNil isNilS neg a b fun _ u=>K t u) (via2 fun a b=>once_nil _ neg a b) hk
 | eqI neg x y=>exact of_once (F:=fun K=>onV (opv e x) fun t a=>onV (opv e y) fun _ b=>evNil isNilI neg a b fun _ u=>K t u) (via2 fun a b=>once_nil _ neg a b) hk
 | un op x=>exact of_once (F:=fun K=>onV (opv e x) fun t a=>evUn op a fun _ u=>K t u) (via1 fun a=>by
   cases op <;> cases a <;> try exact .no
   all_goals (rename_i p; cases p <;> first | exact .no | exact .go _)) hk
 | convInt k x=>exact of_once (F:=fun K=>onV (opv e x) fun t a=>evConv k a fun _ u=>K t u) (via1 fun a=>by
   cases a <;> try exact .no
   rename_i p; cases p <;> first | exact .no | exact .go _) hk
 | sliceStr x lo hi=>exact of_once (F:=fun K=>onV (opv e x) fun t a=>evSliceStr e lo hi a fun _ u=>K t u) (via1 fun a=>by
   cases a <;> try exact .no
   rename_i p; cases p <;> try exact .no
   exact once_slice e _ lo hi _) hk
 | sliceSl n x lo hi=>exact of_once (F:=fun K=>onV (opv e x) fun t a=>evSliceSl e n lo hi σ a fun _ u=>K t u) (via1 fun a=>once_sliceSl e n lo hi σ a) hk
 | fieldAddr off x=>exact of_once (F:=fun K=>onV (opv e x) fun t a=>evFieldAddr off a fun _ u=>K t u) (via1 fun a=>by cases a <;> first | exact .go _ | exact .no) hk
 | field off n x=>exact of_once (F:=fun K=>onV (opv e x) fun t a=>evField off n a fun _ u=>K t u) (via1 fun a=>by cases a <;> first | exact .no | exact once_ldV n _) hk
 | indexAddr n x i=>exact of_once (F:=fun K=>onV (opv e x) fun t a=>onV (opv e i) fun _ b=>evIndexAddr n σ a b fun _ u=>K t u) (via2 fun a b=>once_index n σ a b) hk
 | index x i=>exact of_once (F:=fun K=>onV (opv e x) fun t a=>onV (opv e i) fun _ b=>evIndex a b fun _ u=>K t u) (via2 fun a b=>by
   cases a <;> try exact .no
   rename_i p; cases p <;> try exact .no
   cases b <;> try exact .no
   rename_i p; cases p <;> try exact .no
   intro K h
   obtain ⟨h1,h⟩:=h
   obtain ⟨b,hb,hk⟩:=onRow_some h
   exact ⟨_,hk,fun K' hk'=>⟨h1,by simp only [hb,onRow]; exact hk'⟩⟩) hk
 | extract x k=>exact of_once (F:=fun K=>onV (opv e x) fun t a=>evExtract k a fun _ u=>K t u) (via1 fun a=>by cases a <;> first | exact .no | exact once_onV _) hk
 | len s x =>
  obtain ⟨a,ha,hk⟩:=onV_some hk
  obtain ⟨n,hn,hk⟩:=onRow_some hk
  exact ⟨_,hk,by simp only [ev,ha,onV,hn,onRow]; exact ⟨rfl,rfl⟩⟩
 | lit how sz n z ps =>
  cases how with
  | none=>cases hl
  | some b =>
   cases b with
   | true=>cases hl
   | false =>
    simp only [ev] at hk
    obtain ⟨rs,h1,h2⟩:=once_litRows e sz ps _ _ hk
    exact ⟨_,h1,h2 _ ⟨rfl,rfl⟩⟩
 | build z ps =>
  simp only [ev] at hk
  obtain ⟨cs,h1,h2⟩:=once_fill e ps _ _ hk
  exact ⟨_,h1,h2 _ ⟨rfl,rfl⟩⟩
 | convStr x=>exact of_once (F:=fun K=>onV (opv e x) fun t a=>evConvStr a fun _ u=>K t u) (via1 fun a=>by
   cases a <;> try exact .no
   rename_i p; cases p <;> first | exact .no | exact .go _) hk
 | bytesStr x =>
  obtain ⟨a,ha,hk⟩:=onV_some hk
  obtain ⟨rs,hn,hk⟩:=onRow_some hk
  obtain ⟨s,hs,hk⟩:=onRow_some hk
  exact ⟨_,hk,by simp only [ev,ha,onV,hn,onRow,hs]; exact ⟨rfl,rfl⟩⟩
 | look kd ok z m k=>exact of_once (F:=fun K=>onV (opv e m) fun t a=>onV (opv e k) fun _ b=>evLook kd ok z σ a b fun _ u=>K t u) (via2 fun a b=>by
   cases a <;> try exact .no
   intro K h
   obtain ⟨c,es,h1,h2,h3,h4⟩:=onMap_some h
   exact ⟨_,h4,fun K' hk'=>by simp only [evLook,h1,onMap]; exact ⟨h2,h3,hk'⟩⟩) hk
 | lenM x=>exact of_once (F:=fun K=>onV (opv e x) fun t a=>evLenM σ a fun _ u=>K t u) (via1 fun a=>by
   cases a <;> try exact .no
   intro K h
   obtain ⟨c,es,h1,h4⟩:=onMap_some h
   exact ⟨_,h4,fun K' hk'=>by simp only [evLenM,h1,onMap]; exact hk'⟩) hk
 | eqA neg ks x y=>exact of_once (F:=fun K=>onV (opv e x) fun t a=>onV (opv e y) fun _ b=>evEqA neg ks a b fun _ u=>K t u) (via2 fun a b=>by
   cases a <;> try exact .no
   cases b <;> try exact .no
   exact (Once.go _).and.and) hk
 | iface ty x=>exact of_once (F:=fun K=>onV (opv e x) fun t u=>K t (.iface ty u)) (via1 fun a=>.go _) hk
 | fn f caps =>
  obtain ⟨us,ha,hk⟩:=onVs_some hk
  exact ⟨_,hk,by simp only [ev,ha,onVs]; exact ⟨rfl,rfl⟩⟩
 | fnb f caps =>
  obtain ⟨us,ha,hk⟩:=onVs_some hk
  exact ⟨_,hk,by simp only [ev,ha,onVs]; exact ⟨rfl,rfl⟩⟩
 | mm mx x y=>exact of_once (F:=fun K=>onV (opv e x) fun t a=>onV (opv e y) fun _ b=>evMM mx a b fun _ u=>K t u) (via2 fun a b=>by
   cases a <;> try exact .no
   rename_i p; cases p <;> try exact .no
   cases b <;> try exact .no
   rename_i p; cases p <;> first | exact .no | exact .go _) hk
def preσ (σ σ':Store):Prop:=∃ τ,σ'=σ++τ
theorem preσ.get {σ σ':Store} (h:preσ σ σ') {id:Nat} {o:Obj} (ho:σ[id]?=some o):σ'[id]?=some o:=by
 obtain ⟨τ,rfl⟩:=h
 rw [List.getElem?_append_left (List.getElem?_eq_some_iff.1 ho).1]; exact ho
theorem load_pre {σ σ':Store} (h:preσ σ σ') {n:Option Nat} {a:V} {K:Tok→V→Prop} (hk:evLoad n σ a K):evLoad n σ' a K:=by
 unfold evLoad at hk
 split at hk
 ·exact hk
 ·obtain ⟨cs,ho,hk⟩:=onBox_some hk
  simp only [evLoad,h.get ho,onBox]; exact hk
 ·obtain ⟨sz,rows,ho,hk⟩:=onSlc_some hk
  simp only [evLoad,h.get ho,onSlc]; exact hk
 ·exact hk.elim
theorem index_pre {σ σ':Store} (h:preσ σ σ') {n:Nat} {a b:V} {K:Tok→V→Prop} (hk:evIndexAddr n σ a b K):evIndexAddr n σ' a b K:=by
 unfold evIndexAddr at hk
 split at hk
 ·exact hk
 ·obtain ⟨sz,rows,ho,hk⟩:=onSlc_some hk
  simp only [evIndexAddr,h.get ho,onSlc]; exact hk
 ·exact hk
 ·exact hk.elim
theorem rows_pre {σ σ':Store} (h:preσ σ σ') {sz:Nat} {a:V} {rs:List (List V)} (hk:rowsOf σ sz a=some rs):rowsOf σ' sz a=some rs:=by
 unfold rowsOf at hk
 split at hk
 ·exact hk
 ·exact hk
 ·exact hk
 ·split at hk
  ·rename_i ho
   simp only [rowsOf,h.get ho]; exact hk
  ·cases hk
 ·cases hk
theorem slice_pre {e:Env} {σ σ':Store} (h:preσ σ σ') {n:Nat} {lo hi:Option O} {a:V} {K:Tok→V→Prop} (hk:evSliceSl e n lo hi σ a K):evSliceSl e n lo hi σ' a K:=by
 cases a with
 | t p=>cases p <;> exact hk
 | nils=>exact hk
 | rows s rs=>cases rs <;> exact hk
 | sl id g off len =>
  obtain ⟨sz,rows,ho,hk⟩:=onSlc_some hk
  simp only [evSliceSl,h.get ho,onSlc]; exact hk
 | _=>exact hk.elim
theorem look_pre {σ σ':Store} (h:preσ σ σ') {kd:KD} {ok:Bool} {z:V} {a b:V} {K:Tok→V→Prop} (hk:evLook kd ok z σ a b K):evLook kd ok z σ' a b K:=by
 cases a with
 | map id =>
  obtain ⟨c,es,ho,hk⟩:=onMap_some hk
  simp only [evLook,h.get ho,onMap]; exact hk
 | _=>exact hk.elim
theorem lenM_pre {σ σ':Store} (h:preσ σ σ') {a:V} {K:Tok→V→Prop} (hk:evLenM σ a K):evLenM σ' a K:=by
 cases a with
 | map id =>
  obtain ⟨c,es,ho,hk⟩:=onMap_some hk
  simp only [evLenM,h.get ho,onMap]; exact hk
 | _=>exact hk.elim
theorem onV_mono {o:Option V} {K K':Tok→V→Prop} (h:∀ u,K .go u→K' .go u) (hk:onV o K):onV o K':=by
 obtain ⟨u,rfl,hk⟩:=onV_some hk; exact h u hk
theorem light_pre {e:Env} {σ σ':Store} {i:I} {r:Bool} {u:V} (hl:light i=some r) (h:r=true→preσ σ σ') (hk:ev e σ (eqK σ u) i):ev e σ' (eqK σ' u) i:=by
 cases i with
 | new _ | newB _ _ | box _ | store _ _ _ | mkSl _ _ _ _ _ | append _ _ _ _ | appS _ _ _ | strBytes _ | call _ _ | mkMap | mapUp _ _ _ _ | mapEnt _ _ _ _ | entSt _ _ _ | copy _ _ _ | clr _ _ _=>cases hl
 | load n a =>
  obtain rfl:=Option.some.inj hl
  simp only [ev,eqK,and_true] at hk ⊢
  exact onV_mono (fun _ hk=>load_pre (h rfl) hk) hk
 | indexAddr n a b =>
  obtain rfl:=Option.some.inj hl
  simp only [ev,eqK,and_true] at hk ⊢
  exact onV_mono (fun _ hk=>onV_mono (fun _ hk=>index_pre (h rfl) hk) hk) hk
 | sliceSl n x lo hi =>
  obtain rfl:=Option.some.inj hl
  simp only [ev,eqK,and_true] at hk ⊢
  exact onV_mono (fun _ hk=>slice_pre (h rfl) hk) hk
 | lenM x =>
  obtain rfl:=Option.some.inj hl
  simp only [ev,eqK,and_true] at hk ⊢
  exact onV_mono (fun _ hk=>lenM_pre (h rfl) hk) hk
 | look kd ok z a b =>
  obtain rfl:=Option.some.inj hl
  simp only [ev,eqK,and_true] at hk ⊢
  exact onV_mono (fun _ hk=>onV_mono (fun _ hk=>look_pre (h rfl) hk) hk) hk
 | bytesStr x =>
  obtain rfl:=Option.some.inj hl
  simp only [ev,eqK,and_true] at hk ⊢
  refine onV_mono (fun _ hk=>?_) hk
  obtain ⟨rs,hr,hk⟩:=onRow_some hk
  simp only [rows_pre (h rfl) hr,onRow]; exact hk
 | lit how sz n z ps =>
  cases how with
  | none=>cases hl
  | some b =>
   cases b with
   | true=>cases hl
   | false=>simpa only [ev,eqK,litHow,litK,and_true] using hk
 | callQ f as=>exact (show False from hk).elim
 | newP zs =>
  obtain rfl:=Option.some.inj hl
  obtain ⟨N,h1,h2,_⟩:=hk
  exact ⟨N,(h rfl).get h1,h2,rfl⟩
 | _=>simpa only [ev,eqK,and_true] using hk
deriving instance DecidableEq for SK
deriving instance DecidableEq for KD
theorem fit_eq {s:SK} {a b:V} (ha:s.fit a=true) (hb:s.fit b=true):sEq a b=true↔a=b:=by
 unfold SK.fit at ha hb
 split at ha <;> split at hb <;> simp_all [sEq]
theorem fits_eq:∀ {ks:List SK} {as bs:List V},fits ks as=true→fits ks bs=true→(sEqs as bs=true↔as=bs):=by
 intro ks
 induction ks with
 | nil=>intro as bs ha hb; cases as <;> cases bs <;> simp_all [fits,sEqs]
 | cons k ks ih =>
  intro as bs ha hb
  cases as with
  | nil=>simp [fits] at ha
  | cons a as =>
   cases bs with
   | nil=>simp [fits] at hb
   | cons b bs =>
    simp only [fits,Bool.and_eq_true] at ha hb
    simp only [sEqs,Bool.and_eq_true,fit_eq ha.1 hb.1,ih ha.2 hb.2,List.cons.injEq]
theorem kd_eq {kd:KD} {a b:V} (ha:kd.ok a=true) (hb:kd.ok b=true):kEq a b=true↔a=b:=by
 cases kd with
 | one s =>
  simp only [KD.ok] at ha hb
  have:kEq a b=sEq a b:=by
   unfold kEq
   split
   ·simp [SK.fit] at ha
   ·rfl
  rw [this]; exact fit_eq ha hb
 | st ks =>
  cases a <;> simp [KD.ok] at ha
  cases b <;> simp [KD.ok] at hb
  simp only [kEq,V.agg.injEq]
  exact fits_eq ha hb
theorem keys_put {kd:KD} {k v:V} {c:Nat} (hk:kd.ok k=true):∀ {es:List ME},keysOk kd es=true→keysOk kd (putM k v c es)=true
 | [],_=>by simp [putM,keysOk,hk]
 | e::es,h=>by
  simp only [keysOk,List.all_cons,Bool.and_eq_true] at h
  simp only [putM]
  split
  ·simp only [keysOk,List.all_cons,Bool.and_eq_true]; exact ⟨hk,h.2⟩
  ·simp only [keysOk,List.all_cons,Bool.and_eq_true]; exact ⟨h.1,keys_put hk h.2⟩
theorem val_put {kd:KD} {k k' z:V} {c:Nat} (hk:kd.ok k=true) (hk':kd.ok k'=true):∀ {es:List ME},keysOk kd es=true→valOr z (findM k' (putM k (valOr z (findM k es)) c es))=valOr z (findM k' es)
 | [],_=>by
  simp only [putM,findM]
  by_cases h:kEq k' k=true
  ·rw [if_pos h]; rfl
  ·rw [if_neg h]
 | e::es,h=>by
  simp only [keysOk,List.all_cons,Bool.and_eq_true] at h
  have ih:=val_put (c:=c) (z:=z) hk hk' h.2
  by_cases h1:kEq k e.k=true
  ·have he:=(kd_eq hk h.1).1 h1
   have e1:findM k (e::es)=some e:=by simp only [findM,if_pos h1]
   have e2:putM k (valOr z (some e)) c (e::es)=⟨k,e.v,e.b⟩::es:=by simp only [putM,if_pos h1]; rfl
   rw [e1,e2]
   simp only [findM]
   by_cases h2:kEq k' k=true
   ·rw [if_pos h2,if_pos (by rw [← he]; exact h2)]; rfl
   ·rw [if_neg h2,if_neg (by rw [← he]; exact h2)]
  ·have e1:findM k (e::es)=findM k es:=by simp only [findM,if_neg h1]
   have e2:∀ v,putM k v c (e::es)=e::putM k v c es:=fun v=>by simp only [putM,if_neg h1]
   rw [e1,e2]
   simp only [findM]
   by_cases h2:kEq k' e.k=true
   ·rw [if_pos h2,if_pos h2]
   ·rw [if_neg h2,if_neg h2]; exact ih
def preM (kd:KD) (z:V) (σ σ':Store):Prop:=∀ (id:Nat) (o:Obj),σ[id]?=some o→σ'[id]?=some o ∨
 ∃ c es c' k,o=Obj.map c es∧kd.ok k=true∧keysOk kd es=true∧σ'[id]?=some (Obj.map c' (putM k (valOr z (findM k es)) c es))
theorem preM.refl {kd:KD} {z:V} {σ:Store}:preM kd z σ σ:=fun _ _ h=>.inl h
theorem preM.box {kd:KD} {z:V} {σ σ':Store} (h:preM kd z σ σ') {id:Nat} {cs:List V} (ho:σ[id]?=some (.box cs)):σ'[id]?=some (.box cs):=by
 rcases h id _ ho with h | ⟨_,_,_,_,h,_⟩
 ·exact h
 ·cases h
theorem preM.slc {kd:KD} {z:V} {σ σ':Store} (h:preM kd z σ σ') {id n:Nat} {cs:List (List V)} (ho:σ[id]?=some (.slc n cs)):σ'[id]?=some (.slc n cs):=by
 rcases h id _ ho with h | ⟨_,_,_,_,h,_⟩
 ·exact h
 ·cases h
def sameZ:V→V→Bool
 | .t (.int k n),.t (.int k' m)=>decide (k=k'∧n=m)
 | .t (.bool a),.t (.bool b)=>a == b
 | .t (.str a),.t (.str b)=>a == b
 | .nils,.nils=>true
 | _,_=>false
theorem sameZ_eq {a b:V} (h:sameZ a b=true):a=b:=by
 unfold sameZ at h
 split at h <;> simp_all
def tame:I→I→Bool
 | .mapEnt kd z _ _,.look kd' false z' _ _=>decide (kd=kd') && sameZ z z'
 | .mapEnt _ _ _ _,.load _ _=>true
 | .mapEnt _ _ _ _,.indexAddr _ _ _=>true
 | .mapEnt _ _ _ _,.sliceSl _ _ _ _=>true
 | .mapEnt _ _ _ _,.bytesStr _=>true
 | _,_=>false
theorem ev_ent {e:Env} {σ:Store} {K:Tok→Option V→Store→Prop} {i:I} (h:ev e σ K i):ev e σ (fun t u σ'=>K t u σ'∧∀ kd z m k,i=.mapEnt kd z m k→preM kd z σ σ') i:=by
 by_cases hi:∃ kd z m k,i=.mapEnt kd z m k
 ·obtain ⟨kd,z,m,k,rfl⟩:=hi
  simp only [ev] at h ⊢
  refine onV_mono (fun a ha=>?_) h
  clear h
  refine onV_mono (fun b hb=>?_) ha
  clear ha
  cases a <;> first | exact hb.elim | skip
  rename_i id
  obtain ⟨c,es,h1,h2,h3,h4⟩:=onMap_some hb
  simp only [evMapEnt,h1,onMap]
  refine ⟨h2,h3,h4,?_⟩
  rintro kd' z' m' k' he
  simp only [I.mapEnt.injEq] at he
  obtain ⟨rfl,rfl,rfl,rfl⟩:=he
  intro j o hj
  by_cases hji:j=id
  ·subst hji
   rw [h1] at hj
   cases hj
   refine .inr ⟨c,es,clkM b c es,b,rfl,h2,h3,?_⟩
   rw [List.getElem?_set_self (List.getElem?_eq_some_iff.1 h1).1]
  ·exact .inl (by rw [List.getElem?_set_ne (fun e=>hji e.symm)]; exact hj)
 ·have:(fun t u σ'=>K t u σ'∧∀ kd z m k,i=.mapEnt kd z m k→preM kd z σ σ')=K:=by
   funext t u σ'
   exact propext ⟨fun h=>h.1,fun h=>⟨h,fun kd z m k he=>absurd ⟨kd,z,m,k,he⟩ hi⟩⟩
  rw [this]; exact h
theorem light_tame {e:Env} {σ σ':Store} {i y:I} {r:Bool} {u:V} (ht:tame y i=true) (hl:light i=some r) (hp:∀ kd z m k,y=.mapEnt kd z m k→preM kd z σ σ') (hk:ev e σ (eqK σ u) i):ev e σ' (eqK σ' u) i:=by
 cases y <;> try (simp [tame] at ht; done)
 rename_i kd z m k
 have h:=hp kd z m k rfl
 clear hp
 cases i <;> try (simp [tame] at ht; done)
 case load n a =>
  simp only [ev,eqK,and_true] at hk ⊢
  refine onV_mono (fun a hk=>?_) hk
  unfold evLoad at hk
  split at hk
  ·exact hk
  ·obtain ⟨cs,ho,hk⟩:=onBox_some hk
   simp only [evLoad,h.box ho,onBox]; exact hk
  ·obtain ⟨sz,rows,ho,hk⟩:=onSlc_some hk
   simp only [evLoad,h.slc ho,onSlc]; exact hk
  ·exact hk.elim
 case indexAddr n a b =>
  simp only [ev,eqK,and_true] at hk ⊢
  refine onV_mono (fun a hk=>onV_mono (fun b hk=>?_) hk) hk
  unfold evIndexAddr at hk
  split at hk
  ·exact hk
  ·obtain ⟨sz,rows,ho,hk⟩:=onSlc_some hk
   simp only [evIndexAddr,h.slc ho,onSlc]; exact hk
  ·exact hk
  ·exact hk.elim
 case sliceSl n x lo hi =>
  simp only [ev,eqK,and_true] at hk ⊢
  refine onV_mono (fun a hk=>?_) hk
  cases a with
  | t p=>cases p <;> exact hk
  | nils=>exact hk
  | rows s rs=>cases rs <;> exact hk
  | sl id g off len =>
   obtain ⟨sz,rows,ho,hk⟩:=onSlc_some hk
   simp only [evSliceSl,h.slc ho,onSlc]; exact hk
  | _=>exact hk.elim
 case bytesStr x =>
  simp only [ev,eqK,and_true] at hk ⊢
  refine onV_mono (fun a hk=>?_) hk
  obtain ⟨rs,hr,hk⟩:=onRow_some hk
  have:rowsOf σ' 1 a=some rs:=by
   unfold rowsOf at hr
   split at hr
   ·exact hr
   ·exact hr
   ·exact hr
   ·split at hr
    ·rename_i ho
     simp only [rowsOf,h.slc ho]; exact hr
    ·cases hr
   ·cases hr
  simp only [this,onRow]; exact hk
 case look kd' ok z' a b =>
  cases ok with
  | true=>simp [tame] at ht
  | false =>
   simp only [tame,Bool.and_eq_true,decide_eq_true_eq] at ht
   obtain ⟨rfl,hz⟩:=ht
   obtain rfl:=sameZ_eq hz
   simp only [ev,eqK,and_true] at hk ⊢
   refine onV_mono (fun a ha=>?_) hk
   clear hk
   refine onV_mono (fun b hb=>?_) ha
   clear ha
   cases a <;> first | exact hb.elim | skip
   rename_i id
   obtain ⟨c,es,h1,h2,h3,h4⟩:=onMap_some hb
   rcases h id _ h1 with h5 | ⟨c0,es0,c',k',he,h6,h7,h5⟩
   ·simp only [evLook,h5,onMap]; exact ⟨h2,h3,h4⟩
   ·cases he
    simp only [evLook,h5,onMap]
    refine ⟨h2,keys_put h6 h7,?_⟩
    have:lookR false z (findM b (putM k' (valOr z (findM k' es)) c es))=lookR false z (findM b es):=val_put h6 h2 h7
    rw [this]; exact h4
def I.fix (q:Nat):I→I
 | .lit none a b c d=>.lit (some false) a b c d
 | .call f as=>if q=1 then .callQ f as else .call f as
 | .new zs=>if q=2 then .newP zs else .new zs
 | i=>i
theorem fix_call (q:Nat) (f:O) (as:List O):(I.call f as).fix q=.callQ f as∧q=1∨(I.call f as).fix q=.call f as:=by
 by_cases h:q=1
 ·subst h; exact .inl ⟨rfl,rfl⟩
 ·exact .inr (if_neg h)
theorem fix_new (q:Nat) (zs:List V):(I.new zs).fix q=.newP zs∨(I.new zs).fix q=.new zs:=by
 by_cases h:q=2
 ·subst h; exact .inl rfl
 ·exact .inr (if_neg h)
theorem fix_newP {q:Nat} {i:I} {zs:List V} (h:i.fix q=.newP zs) (hn:i≠.newP zs):i=.new zs:=by
 cases i with
 | lit how a b d e=>cases how <;> simp [I.fix] at h
 | call g bs=>rcases fix_call q g bs with ⟨h',_⟩ | h' <;> rw [h'] at h <;> cases h
 | new ys=>rcases fix_new q ys with h' | h' <;> rw [h'] at h <;> cases h; rfl
 | newP ys=>exact (hn h).elim
 | _=>simp [I.fix] at h
theorem ev_fix {q:Nat} {e:Env} {σ:Store} {K:Tok→Option V→Store→Prop} {i:I} (hn:∀ zs,i.fix q≠.newP zs) (h:ev e σ K (i.fix q)):ev e σ K i:=by
 cases i with
 | lit how sz n z ps =>
  cases how with
  | some b=>exact h
  | none =>
   simp only [I.fix,ev,litHow] at h ⊢
   obtain ⟨rs,h1,h2⟩:=once_litRows e sz ps _ _ h
   exact h2 _ ⟨false,h1⟩
 | call f as =>
  rcases fix_call q f as with ⟨h',_⟩ | h' <;> rw [h'] at h <;> exact h
 | new zs =>
  rcases fix_new q zs with h' | h'
  ·exact (hn zs h').elim
  ·rw [h'] at h; exact h
 | _=>exact h
end Go.Ab
end
section
namespace Go.Ab
def keepE:List Nat→Env→Env
 | [],_=>[]
 | k::ks,e=>match eget e k with
  | some u=>(k,u)::keepE ks e
  | none=>keepE ks e
structure Ent where
 j:Nat
 b:Bool
 c:In
 r:List In
def preds (ops:Array Oper) (j:Nat):List Nat :=
 match ops[j]? with
 | some o=>(o.after.toList.filter (Region.binds .any)).map (·.on)
 | none=>[]
def ancS (ops:Array Oper):Nat→List Nat→List Nat
 | 0,s=>s
 | f+1,s=>match ((s.flatMap (preds ops)).filter fun k=>!s.contains k).eraseDups with
  | []=>s
  | k::ks=>ancS ops f (s++k::ks)
def gOk:Option (Nat × Bool)→Env→Option Bool
 | none,_=>some true
 | some (s,b),e=>match eget e s with
  | some (.t (.bool v))=>some (v == b)
  | some (.tup [])=>some false
  | _=>none
def reread (e:Env) (σ:Store):List In→Prop
 | []=>True
 | c::cs=>(gOk c.g e=some true→∃ d u,c.dst=some d∧eget e d=some u∧ev e σ (eqK σ u) c.i)∧reread e σ cs
theorem reread_mem {e:Env} {σ:Store}:∀ {l:List In},reread e σ l→∀ c∈l,gOk c.g e=some true→∃ d u,c.dst=some d∧eget e d=some u∧ev e σ (eqK σ u) c.i
 | [],_,_,hc=>by cases hc
 | c'::l,h,c,hc=>by
  rcases List.mem_cons.1 hc with rfl | hc
  ·exact h.1
  ·exact reread_mem h.2 c hc
def drK (b:Bool) (r:List In) (e0:Env) (σ:Store) (K:St→Prop) (s:St):Prop:=(b=true→preσ σ s.σ∨reread e0 s.σ r)∧K s
def vcDr (P:Program):List Ent→(St→Prop)→St→Prop
 | [],K,s=>K s
 | y::is,K,s=>wantK y.c.g s.e (bothK y.c.dst s.e s.σ (runIn P y.c (drK y.b y.r s.e s.σ (vcDr P is K))) (vcDr P is K))
def lightE (y:Ent):Option Bool:=if y.b=true then none else light y.c.i
theorem lightE_some {y:Ent} {r:Bool} (h:lightE y=some r):light y.c.i=some r:=by
 unfold lightE at h
 split at h
 ·cases h
 ·exact h
structure EntOk (ops:Array Oper) (all done:List Ent) (x:Ent) (rest:List Ent):Prop where
 pre:∀ p∈preds ops x.j,∃ m∈done,m.j=p
 look:∀ m∈all,∀ d,m.c.dst=some d→d∈x.c.looks→(m.j∈preds ops x.j∧m.j≠x.j)∨(lightE m=none∧x.j∈preds ops m.j)
 dst:∀ m∈rest,∀ d,m.c.dst=some d→x.c.dst≠some d
 heavy:lightE x=none→(∀ q∈rest,∃ p∈preds ops q.j,p=x.j∨∃ m∈rest,m.j=p)∧(∀ q∈done,light q.c.i=some true→q.j∈ancS ops ops.size (preds ops x.j)∨tame x.c.i q.c.i=true∨(x.b=true∧q.c∈x.r))
structure AllOk (P:Program) (ops:Array Oper) (n:Nat) (all:List Ent):Prop where
 nodup:(all.map (·.j)).Nodup
 whole:∀ k,k<ops.size→∃ m∈all,m.j=k
 ins:∀ m∈all,∃ o c q,ops[m.j]?=some o∧cIn P ops n o=some c∧m.c=⟨c.dst,c.g,c.i.fix q⟩
 ents:∀ A x B,all=A++x::B→EntOk ops all A x B
 ph:∀ A x B zs,all=A++x::B→x.c.i=.newP zs→A=[]
structure Pd where
 x:Ent
 e:Env
 u:V
def quiet (P:Program) (e:Env) (σ:Store) (u:V) (f:O) (as:List O):Prop:=∀ τ,callO P e (σ++τ) f (opvs e as) fun _ r σ'=>r=u∧σ'=σ++τ
def evQ (P:Program) (e:Env) (σ:Store) (u:V) (i:I):Prop:=ev e σ (eqK σ u) i∨∃ f as,i=.callQ f as∧quiet P e σ u f as
def PendOk (P:Program) (x:Cx) (p:Pd):Prop :=
 (gOk p.x.c.g p.e=some true∧(∀ zs,p.x.c.i≠.newP zs)∧evQ P p.e x.σ p.u p.x.c.i)∨(gOk p.x.c.g p.e=some false∧p.u=.tup []) ∨
  (∃ zs N,p.x.c.i=.newP zs∧p.x.c.g=none∧p.u=.ptr N 0∧x.σ[N]?=some (.box zs)∧x.ρ N=⟨none,1⟩)
structure Inv (P:Program) (ops:Array Oper) (n:Nat) (K:St→Prop) (x0:Cx) (all A L:List Ent) (pend:List Pd) (listed:Array Bool) (x:Cx) (e:Env) (a:Act):Prop where
 split:all=A++L
 size:listed.size=ops.size
 un:∀ j,listed.getD j true=false↔(∃ m∈L,m.j=j)∨∃ p∈pend,p.x.j=j
 closed:∀ j,listed.getD j false=true→∀ p∈preds ops j,listed.getD p false=true
 pnd:∀ p∈pend,p.x∈A∧(∃ r,lightE p.x=some r)∧PendOk P x p∧(∀ k∈p.x.c.looks,eget p.e k=eget e k)∧(∀ d,p.x.c.dst=some d→eget e d=some p.u) ∧
  (∀ m∈L,∀ d,m.c.dst=some d→d∈p.x.c.looks→lightE m=none∧p.x.j∈preds ops m.j)∧(∀ m∈L,∀ d,m.c.dst=some d→p.x.c.dst≠some d)
 pdup:(pend.map (·.x.j)).Nodup
 env:∀ k u,eget e k=some u→(∃ p∈pend,p.x.c.dst=some k)∨∃ v,a.tmps[k]?=some v∧VRel x u v
 ext:Ext x0 x
 wrel:WRel x
 tn:a.tmps.size=n
 df:a.defers=[]
 vc:vcDr P L K ⟨.go,e,x.σ⟩
 nph:∀ m∈L,∀ zs,m.c.i≠.newP zs
 phx:∀ p∈pend,∀ zs N,p.x.c.i=.newP zs→p.u=.ptr N 0→x0.σ.length≤N
section
variable {P:Program} {ops:Array Oper} {n:Nat} {K:St→Prop} {x0:Cx} {all A L:List Ent} {pend:List Pd} {listed:Array Bool} {x:Cx} {e:Env} {a:Act}
theorem eget_setD {e:Env} {d:Option Nat} {u:V} {k:Nat} (h:d≠some k):eget (setD e d u) k=eget e k:=by
 cases d with
 | none=>rfl
 | some d =>
  simp only [setD,eget]
  rw [if_neg (fun hk=>h (by rw [hk]))]
theorem eget_setD_same {e:Env} {u:V} {k:Nat}:eget (setD e (some k) u) k=some u:=by simp [setD,eget]
theorem wantK_gOk {g:Option (Nat × Bool)} {e:Env} {K:Tok→Bool→Prop} (h:wantK g e K):∃ w,gOk g e=some w∧K .go w:=by
 cases g with
 | none=>exact ⟨true,rfl,h⟩
 | some g =>
  obtain ⟨s,b⟩:=g
  simp only [wantK] at h
  rcases wantV_some h with ⟨v,hv,h1,h2⟩ | ⟨hv,h1⟩
  ·refine ⟨v == b,by simp [gOk,hv],?_⟩
   cases v <;> cases b
   ·exact h2 rfl
   ·exact h2 rfl
   ·exact h1 rfl
   ·exact h1 rfl
  ·exact ⟨false,by simp [gOk,hv],h1⟩
theorem light_not_call {i:I} {r:Bool} (h:light i=some r):∀ f as,i≠.call f as:=by
 intro f as hi; subst hi; cases h
theorem ne_j (h:AllOk P ops n all) (hs:all=A++L) {m m':Ent} (h1:m∈A) (h2:m'∈L):m.j≠m'.j:=by
 have hn:=h.nodup
 rw [hs,List.map_append,List.nodup_append] at hn
 exact hn.2.2 _ (List.mem_map.2 ⟨m,h1,rfl⟩) _ (List.mem_map.2 ⟨m',h2,rfl⟩)
theorem pop {y:Ent} (hok:AllOk P ops n all) (h:Inv P ops n K x0 all A (y::L) pend listed x e a) {r:Bool} (hlE:lightE y=some r) :
  ∃ u e',Inv P ops n K x0 all (A++[y]) L (⟨y,e,u⟩::pend) listed x e' a:=by
 have hl:=lightE_some hlE
 have hvc:=h.vc
 simp only [vcDr] at hvc
 obtain ⟨w,hw,hk⟩:=wantK_gOk hvc
 have hent:=hok.ents A y L h.split
 have hyall:y∈all:=by rw [h.split]; simp
 have hny:=h.nph y (by simp)
 have key:∃ u,PendOk P x ⟨y,e,u⟩∧vcDr P L K ⟨.go,setD e y.c.dst u,x.σ⟩:=by
  cases w with
  | true =>
   have hk0:runI P y.c.dst (drK y.b y.r e x.σ (vcDr P L K)) e x.σ y.c.i:=hk
   by_cases hq:∃ f as,y.c.i=.callQ f as
   ·obtain ⟨f,as,hq⟩:=hq
    rw [hq] at hk0
    obtain ⟨u,h1,h2⟩:=hk0
    exact ⟨u,.inl ⟨hw,hny,.inr ⟨f,as,hq,h1⟩⟩,h2.2⟩
   have hk':=runI_ev (light_not_call hl) (fun f as hi=>hq ⟨f,as,hi⟩) hk0
   obtain ⟨u,h1,h2⟩:=light_once hl hk'
   exact ⟨u,.inl ⟨hw,hny,.inl h2⟩,h1.2⟩
  | false=>exact ⟨.tup [],.inr (.inl ⟨hw,rfl⟩),hk⟩
 obtain ⟨u,hp,hv⟩:=key
 have hlook:∀ d,y.c.dst=some d→d∉y.c.looks:=fun d hd hm=>(hent.look y hyall d hd hm).elim (fun h=>h.2 rfl) (fun h=>by rw [hlE] at h; cases h.1)
 refine ⟨u,setD e y.c.dst u,?_⟩
 constructor
 ·rw [h.split]; simp
 ·exact h.size
 ·intro j
  rw [h.un j]
  simp only [List.mem_cons,exists_eq_or_imp]
  constructor
  ·rintro ((h1 | h1) | h1)
   ·exact .inr (.inl h1)
   ·exact .inl h1
   ·exact .inr (.inr h1)
  ·rintro (h1 | h1 | h1)
   ·exact .inl (.inr h1)
   ·exact .inl (.inl h1)
   ·exact .inr h1
 ·exact h.closed
 ·intro p hpm
  simp only [List.mem_cons] at hpm
  rcases hpm with rfl | hpm
  ·refine ⟨by simp,⟨r,hlE⟩,hp,fun k hk=>(eget_setD fun hd=>hlook k hd hk).symm,fun d hd=>?_,fun m hm d hd hdl=>?_,fun m hm d hd=>hent.dst m hm d hd⟩
   ·simp only at hd
    rw [hd]
    exact eget_setD_same
   ·have hmall:m∈all:=by rw [h.split]; simp [hm]
    rcases hent.look m hmall d hd hdl with ⟨h1,_⟩ | h1
    ·obtain ⟨m',hm',hj⟩:=hent.pre _ h1
     exact (ne_j hok h.split hm' (List.mem_cons_of_mem _ hm) hj).elim
    ·exact h1
  ·obtain ⟨h1,h2,h3,h4,h5,h6,h7⟩:=h.pnd p hpm
   refine ⟨by simp [h1],h2,h3,fun k hk=>?_,fun d hd=>?_,fun m hm=>h6 m (List.mem_cons_of_mem _ hm),fun m hm=>h7 m (List.mem_cons_of_mem _ hm)⟩
   ·rw [h4 k hk]
    exact (eget_setD fun hd=>by have:=(h6 y (by simp) k hd hk).1; rw [hlE] at this; cases this).symm
   ·rw [eget_setD fun hd'=>h7 y (by simp) d hd' hd]
    exact h5 d hd
 ·simp only [List.map_cons,List.nodup_cons,List.mem_map,not_exists,not_and]
  refine ⟨fun p hpm hj=>?_,h.pdup⟩
  exact ne_j hok h.split (h.pnd p hpm).1 (show y∈y::L by simp) hj
 ·intro k u' hk
  by_cases hd:y.c.dst=some k
  ·exact .inl ⟨_,List.mem_cons_self,hd⟩
  ·rw [eget_setD hd] at hk
   rcases h.env k u' hk with ⟨p,hp1,hp2⟩ | h1
   ·exact .inl ⟨p,List.mem_cons_of_mem _ hp1,hp2⟩
   ·exact .inr h1
 ·exact h.ext
 ·exact h.wrel
 ·exact h.tn
 ·exact h.df
 ·exact hv
 ·exact fun m hm=>h.nph m (List.mem_cons_of_mem _ hm)
 ·intro p hpm zs N h1 h2
  simp only [List.mem_cons] at hpm
  rcases hpm with rfl | hpm
  ·exact (hny zs h1).elim
  ·exact h.phx p hpm zs N h1 h2
theorem exec_ev {ek:Env} {o:Oper} {i:I} (h1:cI P o.op=some i) (hn:∀ f as,i≠.call f as) (hx:WRel x) (he:ERel x ek a.tmps) {KK:Tok→Option V→Store→Prop} (hk:ev ek x.σ KK i) {G:Act→World→Prop} {Q:Exit→Act→World→Prop}
  (hG:∀ y r v,Ext x y→WRel y→KK .go r y.σ→VRel y (r.getD (.tup [])) v→G (a.put o.dst v) y.w):o.wp P a x.w G Q:=by
 obtain ⟨nx,y,r,hrun,hkk,hnr,hy,hxy⟩:=cI_sound hx he h1 hn hk
 simp only [Oper.wp,hrun]
 cases nx <;> first | (simp only [NRel] at hnr; done) | skip
 case value v =>
  cases r with
  | none=>simp [NRel] at hnr
  | some u =>
   simp only [Oper.upon]
   exact hG y _ v hxy hy hkk hnr
 case skip =>
  cases r with
  | some u=>simp [NRel] at hnr
  | none =>
   simp only [Oper.upon]
   exact hG y none _ hxy hy hkk (rel_undef y)
theorem exec_call {ek:Env} {o:Oper} {f:O} {as:List O} (h1:cI P o.op=some (.call f as)) (hx:WRel x) (he:ERel x ek a.tmps) {KK:Tok→V→Store→Prop} (hk:callO P ek x.σ f (opvs ek as) KK) {G:Act→World→Prop} {Q:Exit→Act→World→Prop}
  (hG:∀ y r v,Ext x y→WRel y→KK .go r y.σ→VRel y r v→G (a.put o.dst v) y.w):o.wp P a x.w G Q:=by
 rcases call_enter h1 hx he hk with ⟨g,cargs,hrun,hcalls⟩ | ⟨v,u,hrun,hkk,hrv⟩
 rotate_left
 ·simp only [Oper.wp,hrun,Oper.upon]
  exact hG x u v (Ext.refl x) hx hkk hrv
 simp only [Oper.wp,hrun,Oper.upon]
 refine hcalls.mono ?_
 rintro ex w' ⟨v,y,r,rfl,rfl,hRr,hrv,hy,hxy⟩
 exact hG y r v hxy hy hRr hrv
def Cx.real (x:Cx) (N:Nat) (o:Go.Obj):Cx:={ x with ρ:=upd x.ρ N ⟨some x.w.heap.size,0⟩,w:=x.w.alloc o }
theorem cI_noP {op:Op} {zs:List V} (h:cI P op=some (.newP zs)):False:=by
 cases op with
 | call cl =>
  simp only [cI] at h
  split at h
  ·(repeat' split at h) <;> simp at h
  ·(repeat' split at h) <;> simp at h
  ·(repeat' split at h) <;> simp at h
  ·(repeat' split at h) <;> simp at h
  ·(repeat' split at h) <;> simp at h
  ·(repeat' split at h) <;> simp at h
  ·obtain ⟨as',h1,h2⟩:=map_some h
   simp at h2
  ·split at h
   ·simp at h
   ·cases h
  ·cases h
 | slice t p lo hi mx =>
  cases mx <;> simp only [cI] at h
  ·(repeat' split at h) <;> simp_all
  ·cases h
 | makeMap t r=>cases r <;> simp [cI] at h
 | makeFunc f a b=>cases f <;> simp only [cI] at h <;> first | (cases h; done) | ((repeat' split at h) <;> first | (cases h; done) | (obtain ⟨_,_,h⟩:=map_some h; cases h; done))
 | _ =>
  simp only [cI] at h
  first
   | (cases h; done)
   | (obtain ⟨_,_,h⟩:=map_some h; cases h; done)
   | ((repeat' split at h) <;> first | (cases h; done) | (obtain ⟨_,_,h⟩:=map_some h; cases h; done) | (simp_all; done))
theorem cI_new {op:Op} {zs:List V} (h:cI P op=some (.new zs)):∃ t i z,op=.alloc t∧P.info? t=some i∧i.zero=some z∧cVs z.cells.toList=some zs:=by
 cases op with
 | alloc t =>
  simp only [cI] at h
  split at h
  ·rename_i i hi
   split at h
   ·rename_i z hz
    split at h
    ·rename_i cs hc
     split at h
     ·cases h
     ·obtain rfl:cs=zs:=by simpa using h
      exact ⟨t,i,z,rfl,hi,hz,hc⟩
    ·cases h
   ·cases h
  ·cases h
 | call cl =>
  simp only [cI] at h
  split at h
  ·(repeat' split at h) <;> simp at h
  ·(repeat' split at h) <;> simp at h
  ·(repeat' split at h) <;> simp at h
  ·(repeat' split at h) <;> simp at h
  ·(repeat' split at h) <;> simp at h
  ·(repeat' split at h) <;> simp at h
  ·obtain ⟨as',h1,h2⟩:=map_some h
   simp at h2
  ·split at h
   ·simp at h
   ·cases h
  ·cases h
 | slice t p lo hi mx =>
  cases mx <;> simp only [cI] at h
  ·(repeat' split at h) <;> simp_all
  ·cases h
 | makeMap t r=>cases r <;> simp [cI] at h
 | makeFunc f a b=>cases f <;> simp only [cI] at h <;> first | (cases h; done) | ((repeat' split at h) <;> first | (cases h; done) | (obtain ⟨_,_,h⟩:=map_some h; cases h; done))
 | _ =>
  simp only [cI] at h
  first
   | (cases h; done)
   | (obtain ⟨_,_,h⟩:=map_some h; cases h; done)
   | ((repeat' split at h) <;> first | (cases h; done) | (obtain ⟨_,_,h⟩:=map_some h; cases h; done) | (simp_all; done))
theorem exec_new {o:Oper} {zs:List V} (h1:cI P o.op=some (.new zs)):∃ (z:Value) (t:TypeId),cVs z.cells.toList=some zs∧∀ (a:Act) (w:World),(execOp a.eval o).run P w=.ok (.value (.pointer (some ⟨w.heap.size,0,none⟩))) (w.alloc (.cells z.cells t)):=by
 obtain ⟨t,i,z,hop,hi,hz,hc⟩:=cI_new h1
 refine ⟨z,t,hc,fun a w=>?_⟩
 have:(do pure (Next.value (← Instr.alloc t true (.tuple #[]))):Sem Next).run P w=.ok (.value (.pointer (some ⟨w.heap.size,0,none⟩))) (w.alloc (.cells z.cells t)):=by
  simp [Instr.alloc,zeroValue,run_typeInfo' hi,hz,newVar,newRow]
 simpa [execOp,hop] using this
theorem real_ok {x:Cx} (hx:WRel x) {N:Nat} {zs:List V} {z:Value} {t:TypeId} (hN:x.σ[N]?=some (.box zs)) (hp:x.ρ N=⟨none,1⟩) (hc:cVs z.cells.toList=some zs) :
  WRel (x.real N (.cells z.cells t))∧Ext0 x (x.real N (.cells z.cells t))∧VRel (x.real N (.cells z.cells t)) (.ptr N 0) (.pointer (some ⟨x.w.heap.size,0,none⟩)):=by
 have hlt:=(List.getElem?_eq_some_iff.1 hN).1
 have hext:Ext0 x (x.real N (.cells z.cells t)):=⟨fun _ h=>h,fun b hb=>heap_alloc_lt _ _ (hx.low b hb),fun id o ho=>⟨o,ho,o.like_refl,Nat.le_refl _,fun _=>by
  by_cases e:id=N
  ·subst e
   rw [hN] at ho
   obtain rfl:=Option.some.inj ho
   exact .inr ⟨⟨_,rfl⟩,hp⟩
  ·exact .inl (upd_other _ _ _ e)⟩⟩
 refine ⟨⟨fun id o ho=>?_,fun i j b hij hi hj hb=>?_,fun b hb=>?_⟩,hext,?_⟩
 ·by_cases e:id=N
  ·subst e
   have ho':x.σ[id]?=some o:=ho
   rw [hN] at ho'
   obtain rfl:=Option.some.inj ho'
   refine .inr ⟨x.w.heap.size,z.cells,t,(0,0),by simp [Cx.real],fun hF=>?_,heap_alloc_new _ _,unfrozen_new _,cVs_rel _ hc⟩
   have:=hx.low _ hF
   omega
  ·exact ORel.keep0 hext (upd_other _ _ _ e) (fun b _ hlt hf=>⟨heap_alloc_lt _ _ hlt,hf⟩) (hx.objs id o ho)
 ·simp only [Cx.real] at hi hj hb ⊢
  by_cases ei:i=N
  ·subst ei
   rw [upd_same] at hb
   rw [upd_other _ _ _ (by omega)]
   intro hb'
   have:=(ORel.blk_lt (hx.objs j x.σ[j] (by simp [hj])) hb').1
   simp at hb; omega
  ·rw [upd_other _ _ _ ei] at hb
   by_cases ej:j=N
   ·subst ej
    rw [upd_same]
    intro hb'
    have:=(ORel.blk_lt (hx.objs i x.σ[i] (by simp [hi])) hb).1
    simp at hb'; omega
   ·rw [upd_other _ _ _ ej]
    exact hx.inj i j b hij hi hj hb
 ·have:=hx.low b hb
  simp only [Cx.real,World.size_alloc]
  omega
 ·simp only [VRel]
  exact ⟨zs,x.w.heap.size,hN,by simp [Cx.real],rfl⟩
theorem wanted_of {ek:Env} {o:Oper} {c:In} (hc:cIn P ops n o=some c) (he:ERel x ek a.tmps) {w:Bool} (hg:gOk c.g ek=some w):Region.wanted o (yielded ops a.tmps)=w:=by
 obtain ⟨_,_,_,h4⟩:=cIn_some hc
 rcases h4 with ⟨hg0,hcg⟩ | ⟨j,b,s,hg0,hs,hcg⟩
 ·rw [hcg] at hg
  simp only [gOk,Option.some.injEq] at hg
  simp [Region.wanted,hg0,← hg]
 ·rw [hcg] at hg
  simp only [gOk] at hg
  split at hg
  ·rename_i v hv
   simp only [Option.some.injEq] at hg
   obtain ⟨c',hc',hr'⟩:=he s _ hv
   have hb:=rel_bool hr'
   subst hb
   have hy:yielded ops a.tmps j=some v:=by simp [yielded,hs,hc']
   simp only [Region.wanted,hg0,hy,← hg]
   cases v <;> cases b <;> rfl
  ·rename_i hv
   simp only [Option.some.injEq] at hg
   obtain ⟨c',hc',hr'⟩:=he s _ hv
   simp only [VRel] at hr'
   obtain ⟨l',rfl,hl'⟩:=hr'
   have hy:yielded ops a.tmps j=none:=by simp [yielded,hs,hc']
   simp [Region.wanted,hg0,hy,← hg]
  ·cases hg
theorem eget_keep:∀ {ks:List Nat} {e:Env} {k:Nat},k∈ks→eget (keepE ks e) k=eget e k
 | [],_,_,h=>by cases h
 | k'::ks,e,k,h=>by
  simp only [keepE]
  by_cases hk:k=k'
  ·subst hk
   split
   ·rename_i u hu; simp [eget,hu]
   ·rename_i hu
    have:∀ ks,eget (keepE ks e) k=none:=by
     intro ks
     induction ks with
     | nil=>rfl
     | cons k'' ks ih =>
      simp only [keepE]
      split
      ·rename_i u hu'
       simp only [eget]
       split
       ·rename_i heq; subst heq; rw [hu] at hu'; cases hu'
       ·exact ih
      ·exact ih
    rw [this,hu]
  ·have hm:k∈ks:=by simpa [hk] using h
   split
   ·simp only [eget,if_neg hk]; exact eget_keep hm
   ·exact eget_keep hm
theorem eget_keep_some:∀ {ks:List Nat} {e:Env} {k:Nat} {u:V},eget (keepE ks e) k=some u→k∈ks∧eget e k=some u
 | [],_,_,_,h=>by simp [keepE,eget] at h
 | k'::ks,e,k,u,h=>by
  simp only [keepE] at h
  split at h
  ·rename_i u' hu'
   simp only [eget] at h
   split at h
   ·rename_i heq; subst heq; exact ⟨by simp,by rw [← h]; exact hu'⟩
   ·obtain ⟨h1,h2⟩:=eget_keep_some h
    exact ⟨by simp [h1],h2⟩
  ·obtain ⟨h1,h2⟩:=eget_keep_some h
   exact ⟨by simp [h1],h2⟩
end
end Go.Ab
end
section
namespace Go.Ab
section
variable {P:Program} {ops:Array Oper} {n:Nat} {K:St→Prop} {x0:Cx} {all A L:List Ent} {pend:List Pd} {listed:Array Bool} {x:Cx} {e:Env} {a:Act}
theorem fix_callQ {q:Nat} {i:I} {f:O} {as:List O} (h:i.fix q=.callQ f as) (hn:i≠.callQ f as):i=.call f as:=by
 cases i with
 | lit how a b d e=>cases how <;> simp [I.fix] at h
 | call g bs =>
  rcases fix_call q g bs with ⟨h',_⟩ | h' <;> rw [h'] at h <;> cases h; rfl
 | callQ g bs=>simp only [I.fix,I.callQ.injEq] at h; exact (hn (by rw [h.1,h.2])).elim
 | new zs=>rcases fix_new q zs with h' | h' <;> rw [h'] at h <;> cases h
 | _=>simp [I.fix] at h
theorem callO_mono {P:Program} {e:Env} {σ:Store} {f:O} {us:Option (List V)} {K K':Tok→V→Store→Prop} (h:callO P e σ f us K) (hk:∀ r σ',K .go r σ'→K' .go r σ'):callO P e σ f us K':=by
 have hv:∀ {o:Option V},callV P σ o us K→callV P σ o us K':=by
  intro o h
  obtain ⟨g,as,us',rfl,⟨caps,rfl,rfl⟩ | ⟨fs,rfl,rfl⟩,⟨R,h1,h2⟩ | ⟨u,h1,h2⟩⟩:=callV_some h
  ·exact .inl ⟨R,h1,fun r σ' hr=>hk r σ' (h2 r σ' hr)⟩
  ·exact .inr ⟨u,h1,hk _ _ h2⟩
  ·exact .inl ⟨R,h1,fun r σ' hr=>hk r σ' (h2 r σ' hr)⟩
  ·exact .inr ⟨u,h1,hk _ _ h2⟩
 cases f with
 | t k=>exact hv h
 | c v=>exact hv h
 | m k nm =>
  simp only [callO] at h ⊢
  generalize eget e k=w at h ⊢
  cases us with
  | none=>cases w with
   | none=>exact h.elim
   | some w=>cases w <;> exact h.elim
  | some us=>cases w with
   | none=>exact h.elim
   | some w =>
    cases w with
    | iface ty u =>
     obtain ⟨g,hg,R,h1,h2⟩:=onRow_some h
     simp only [callM,hg,onRow]
     exact ⟨R,h1,fun r σ' hr=>hk r σ' (h2 r σ' hr)⟩
    | _=>exact h.elim
theorem preds_listed {j:Nat} (hr:j∈Region.ready .any ops listed):∀ p∈preds ops j,listed.getD p false=true:=by
 obtain ⟨_,o,ho,h⟩:=mem_ready.1 hr
 intro p hp
 simp only [preds,ho,List.mem_map,List.mem_filter] at hp
 obtain ⟨e,⟨h1,h2⟩,rfl⟩:=hp
 exact h e (by simpa using h1) h2
theorem un_of (h:Inv P ops n K x0 all A L pend listed x e a) {j:Nat} (hj:(∃ m∈L,m.j=j)∨∃ p∈pend,p.x.j=j):listed.getD j false=false:=by
 have h1:=(h.un j).2 hj
 rw [Array.getD_eq_getD_getElem?] at h1 ⊢
 cases hc:listed[j]? with
 | none=>rfl
 | some b=>rw [hc] at h1; simpa using h1
theorem anc_listed (h:Inv P ops n K x0 all A L pend listed x e a):∀ (f:Nat) (s:List Nat),(∀ k∈s,listed.getD k false=true)→∀ k∈ancS ops f s,listed.getD k false=true
 | 0,s,hs=>hs
 | f+1,s,hs=>by
  simp only [ancS]
  split
  ·exact hs
  rename_i k0 ks0 heq
  refine anc_listed h f _ fun k hk=>?_
  rcases List.mem_append.1 hk with hk | hk
  ·exact hs k hk
  ·rw [← heq] at hk
   have:=List.mem_eraseDups.1 hk
   obtain ⟨h1,_⟩:=List.mem_filter.1 this
   obtain ⟨q,hq,hk⟩:=List.mem_flatMap.1 h1
   exact h.closed q (hs q hq) k hk
theorem closed_set (h:Inv P ops n K x0 all A L pend listed x e a) {j:Nat} (hr:j∈Region.ready .any ops listed):∀ i,(listed.setIfInBounds j true).getD i false=true→∀ p∈preds ops i,(listed.setIfInBounds j true).getD p false=true:=by
 intro i hi p hp
 by_cases hij:j=i
 ·subst hij
  exact getD_set_true (preds_listed hr p hp)
 ·rw [getD_set_ne false hij] at hi
  exact getD_set_true (h.closed i hi p hp)
theorem getD_set_self {l:Array Bool} {i:Nat}:(l.setIfInBounds i true).getD i true=true:=by
 by_cases h:i<l.size
 ·simp [h]
 ·rw [Array.getD_eq_getD_getElem?,Array.getElem?_eq_none (by simpa using h)]
  rfl
theorem keep_rel (hok:AllOk P ops n all) (h:Inv P ops n K x0 all A L pend listed x e a) {y:Ent} (hy:y∈all) (hr:y.j∈Region.ready .any ops listed) {e1:Env} (he:∀ k∈y.c.looks,eget e1 k=eget e k):ERel x (keepE y.c.looks e1) a.tmps:=by
 intro k u hu
 obtain ⟨hk,hu⟩:=eget_keep_some hu
 rw [he k hk] at hu
 rcases h.env k u hu with ⟨p,hp,hd⟩ | h1
 ·exfalso
  obtain ⟨Ay,By,hs⟩:=List.append_of_mem hy
  have hent:=hok.ents Ay y By hs
  have hpall:p.x∈all:=by rw [h.split]; exact List.mem_append_left _ (h.pnd p hp).1
  rcases hent.look p.x hpall k hd hk with ⟨h1,_⟩ | ⟨h1,_⟩
  ·have:=preds_listed hr _ h1
   rw [un_of h (.inr ⟨p,hp,rfl⟩)] at this
   cases this
  ·obtain ⟨_,⟨r,h2⟩,_⟩:=h.pnd p hp
   rw [h1] at h2
   cases h2
 ·exact h1
theorem gOk_keep {y:Ent}:gOk y.c.g (keepE y.c.looks e)=gOk y.c.g e:=by
 cases hg:y.c.g with
 | none=>rfl
 | some g =>
  obtain ⟨s,b⟩:=g
  have:s∈y.c.looks:=by simp [In.looks,hg]
  simp only [gOk,eget_keep this]
theorem gOk_agree {e e':Env} {c:In} (h:∀ k∈c.looks,eget e k=eget e' k):gOk c.g e=gOk c.g e':=by
 cases hg:c.g with
 | none=>rfl
 | some g =>
  obtain ⟨s,b⟩:=g
  have:=h s (by simp [In.looks,hg])
  simp only [gOk,this]
theorem ev_keep {y:Ent} {σ:Store} {KK:Tok→Option V→Store→Prop}:ev (keepE y.c.looks e) σ KK y.c.i=ev e σ KK y.c.i :=
 ev_congr fun k hk=>eget_keep (by simp [In.looks,hk])
theorem pend_keep {x y:Cx} {q:Pd} (hxy:Ext x y) (hσ:y.σ=x.σ) (h:PendOk P x q):PendOk P y q:=by
 rcases h with ⟨h1,h2,h3⟩ | h | ⟨zs,N,h1,h2,h3,h4,h5⟩
 ·exact .inl ⟨h1,h2,by rw [hσ]; exact h3⟩
 ·exact .inr (.inl h)
 ·obtain ⟨o',k1,k2,k3,k4⟩:=hxy.obj N _ h4
  rw [hσ,h4] at k1
  obtain rfl:=Option.some.inj k1
  exact .inr (.inr ⟨zs,N,h1,h2,h3,by rw [hσ]; exact h4,(k4 rfl).trans h5⟩)
theorem newP_one (hok:AllOk P ops n all) {p q:Ent} (hp:p∈all) (hq:q∈all) {zs zs':List V} (h1:p.c.i=.newP zs) (h2:q.c.i=.newP zs'):p=q:=by
 obtain ⟨A1,B1,e1⟩:=List.append_of_mem hp
 obtain ⟨A2,B2,e2⟩:=List.append_of_mem hq
 have k1:=hok.ph A1 p B1 zs e1 h1
 have k2:=hok.ph A2 q B2 zs' e2 h2
 subst k1 k2
 rw [e1] at e2
 simpa using (List.cons.inj e2).1
theorem exec_pend {P1 P2:List Pd} {p:Pd} (hok:AllOk P ops n all) (h:Inv P ops n K x0 all A L (P1++p::P2) listed x e a) (hr:p.x.j∈Region.ready .any ops listed) {Q:Exit→Act→World→Prop} {G:Act→World→Prop}
  (hG:∀ y a',Inv P ops n K x0 all A L (P1++P2) (listed.setIfInBounds p.x.j true) y e a'→G a' y.w):wpOp P ops Q p.x.j G a x.w:=by
 have hpm:p∈P1++p::P2:=by simp
 obtain ⟨h1,⟨r,h2E⟩,h3,h4,h5,h6,h7⟩:=h.pnd p hpm
 have h2:=lightE_some h2E
 have hall:p.x∈all:=by rw [h.split]; exact List.mem_append_left _ h1
 obtain ⟨o,c,q,ho,hc,hcc⟩:=hok.ins p.x hall
 have hek:=keep_rel hok h hall hr h4
 have hdst:o.dst=p.x.c.dst:=by rw [hcc]; exact (cIn_some hc).2.1
 have hlt:∀ k,p.x.c.dst=some k→k<n:=by rw [hcc]; exact (cIn_some hc).2.2.1
 have hdup:=h.pdup
 rw [List.map_append,List.map_cons,List.nodup_append] at hdup
 obtain ⟨d1,d2,d3⟩:=hdup
 rw [List.nodup_cons] at d2
 have hne:∀ q∈P1++P2,q.x.j≠p.x.j:=by
  intro q hq
  rcases List.mem_append.1 hq with hq | hq
  ·exact d3 _ (List.mem_map.2 ⟨q,hq,rfl⟩) _ List.mem_cons_self
  ·intro heq
   exact d2.1 (List.mem_map.2 ⟨q,hq,heq⟩)
 have fin0:∀ y v,Ext0 x y→Ext x0 y→WRel y→y.σ=x.σ→(∀ q∈P1++P2,PendOk P x q→PendOk P y q)→VRel y p.u v→G (a.put o.dst v) y.w:=by
  intro y v hxy hx0 hy hσ hpk hv
  refine hG y _ ⟨h.split,by simpa using h.size,?_,closed_set h hr,?_,?_,?_,hx0,hy,by rw [put_size]; exact h.tn,by rw [put_defers]; exact h.df,by rw [hσ]; exact h.vc,h.nph,fun q hq=>h.phx q (by rcases List.mem_append.1 hq with hq | hq <;> simp [hq])⟩
  ·intro j
   by_cases hj:p.x.j=j
   ·subst hj
    simp only [getD_set_self,Bool.true_eq_false,false_iff,not_or,not_exists,not_and]
    refine ⟨fun m hm heq=>ne_j hok h.split h1 hm heq.symm,fun q hq=>hne q hq⟩
   ·rw [getD_set_ne true hj,h.un j]
    constructor
    ·rintro (h' | ⟨q,hq,rfl⟩)
     ·exact .inl h'
     ·simp only [List.mem_append,List.mem_cons] at hq
      rcases hq with hq | rfl | hq
      ·exact .inr ⟨q,by simp [hq],rfl⟩
      ·exact (hj rfl).elim
      ·exact .inr ⟨q,by simp [hq],rfl⟩
    ·rintro (h' | ⟨q,hq,rfl⟩)
     ·exact .inl h'
     ·refine .inr ⟨q,?_,rfl⟩
      rcases List.mem_append.1 hq with hq | hq <;> simp [hq]
  ·intro q hq
   have hq':q∈P1++p::P2:=by rcases List.mem_append.1 hq with hq | hq <;> simp [hq]
   obtain ⟨m1,m2,m3,m4⟩:=h.pnd q hq'
   exact ⟨m1,m2,hpk q hq m3,m4⟩
  ·rw [List.map_append,List.nodup_append]
   exact ⟨d1,d2.2,fun u hu v hv=>d3 u hu v (List.mem_cons_of_mem _ hv)⟩
  ·intro k u hk
   by_cases hd:p.x.c.dst=some k
   ·refine .inr ⟨v,?_,?_⟩
    ·rw [hdst,hd]
     have:=hlt k hd
     simp [Act.put,h.tn,this]
    ·rw [h5 k hd] at hk
     obtain rfl:=Option.some.inj hk
     exact hv
   ·rcases h.env k u hk with ⟨q,hq,hqd⟩ | ⟨v',hv',hr'⟩
    ·simp only [List.mem_append,List.mem_cons] at hq
     rcases hq with hq | rfl | hq
     ·exact .inl ⟨q,by simp [hq],hqd⟩
     ·exact (hd hqd).elim
     ·exact .inl ⟨q,by simp [hq],hqd⟩
    ·refine .inr ⟨v',?_,VRel.mono0 hxy _ _ hr'⟩
     rw [hdst]
     cases hdd:p.x.c.dst with
     | none=>exact hv'
     | some d =>
      simp only [Act.put]
      rw [Array.getElem?_setIfInBounds_ne (fun hdk=>hd (by rw [hdd,hdk]))]
      exact hv'
 have fin:∀ y v,Ext x y→WRel y→y.σ=x.σ→VRel y p.u v→G (a.put o.dst v) y.w:=fun y v hxy hy hσ hv=>fin0 y v hxy.to0 (h.ext.trans hxy) hy hσ (fun q _ hq=>pend_keep hxy hσ hq) hv
 have hgc:c.g=p.x.c.g:=by rw [hcc]
 unfold wpOp
 simp only [ho]
 rcases h3 with ⟨hg,hnp,hev⟩ | ⟨hg,hu⟩ | ⟨zs,N,hi,hg,hu,hN,hρ⟩
 rotate_left 2
 ·have hgo:gOk p.x.c.g p.e=some true:=by rw [hg]; rfl
  rw [if_pos (wanted_of hc hek (by rw [hgc,gOk_keep]; exact hgo))]
  left
  have hci:c.i=.new zs:=fix_newP (by rw [← hi,hcc]) (fun hn=>by
   have:=(cIn_some hc).1
   rw [hn] at this
   exact cI_noP this)
  obtain ⟨z,t,hz,hrun⟩:=exec_new (by rw [(cIn_some hc).1,hci]:cI P o.op=some (.new zs))
  obtain ⟨r1,r2,r3⟩:=real_ok (t:=t) h.wrel hN hρ hz
  have hNx:=h.phx p hpm zs N hi hu
  simp only [Oper.wp,hrun,Oper.upon]
  refine fin0 (x.real N (.cells z.cells t)) _ r2 ⟨h.ext.os,h.ext.tape,h.ext.output,?_,h.ext.F,fun b hb=>(r2.block b (h.ext.F b hb)).trans (h.ext.block b hb),fun id o' ho'=>?_⟩ r1 rfl (fun q hq hqk=>?_) (by rw [hu]; exact r3)
  ·simp only [Cx.real,World.size_alloc]; exact Nat.le_succ_of_le h.ext.size
  ·obtain ⟨o2,m1,m2,m3,m4⟩:=h.ext.obj id o' ho'
   refine ⟨o2,m1,m2,m3,fun eq=>?_⟩
   have hid:=(List.getElem?_eq_some_iff.1 ho').1
   rw [← m4 eq]
   exact upd_other _ _ _ (by omega)
  ·rcases hqk with hqk | hqk | ⟨zs',N',k1,k2,k3,k4,k5⟩
   ·exact .inl hqk
   ·exact .inr (.inl hqk)
   ·exfalso
    have hq':q∈P1++p::P2:=by rcases List.mem_append.1 hq with hq | hq <;> simp [hq]
    have hqa:q.x∈all:=by rw [h.split]; exact List.mem_append_left _ (h.pnd q hq').1
    exact hne q hq (by rw [newP_one hok hqa hall k1 hi])
 ·rw [if_pos (wanted_of hc hek (by rw [hgc,gOk_keep]; exact hg))]
  left
  rcases hev with hev | ⟨f,as,hq,hev⟩
  ·have hev':ev (keepE p.x.c.looks p.e) x.σ (eqK x.σ p.u) c.i:=by
    have:=hev
    rw [← ev_keep] at this
    rw [hcc] at this
    have h':=ev_fix (fun zs hz=>hnp zs (by rw [hcc]; exact hz)) this
    rw [hcc]
    exact h'
   refine exec_ev (cIn_some hc).1 (fun f as hi=>?_) h.wrel hek hev' ?_
   ·rw [hcc,hi] at hev
    rcases fix_call q f as with ⟨h',_⟩ | h' <;> simp only [h'] at hev <;> exact hev.elim
   ·rintro y r' v hxy hy ⟨rfl,hσ⟩ hv
    exact fin y v hxy hy hσ hv
  ·have hci:=fix_callQ (by rw [← hq,hcc]) (fun hi=>cI_noQ (by rw [(cIn_some hc).1,hi]))
   have hsl:∀ k∈oSlots f++as.flatMap oSlots,eget (keepE p.x.c.looks p.e) k=eget p.e k:=fun k hk=>eget_keep (by simp only [In.looks,hq,I.slots,List.mem_append]; exact .inl (List.mem_append.1 hk))
   have hev0:=hev []
   rw [List.append_nil,← callO_congr (e:=keepE p.x.c.looks p.e) (fun k hk=>hsl k (List.mem_append_left _ hk)) (opvs_congr (e:=keepE p.x.c.looks p.e) (fun k hk=>hsl k (List.mem_append_right _ hk)))] at hev0
   refine exec_call (by rw [(cIn_some hc).1,hci]) h.wrel hek hev0 fun y r v hxy hy hkk hv=>?_
   obtain ⟨rfl,hσ⟩:=hkk
   exact fin y v hxy hy hσ hv
 ·rw [if_neg (by rw [wanted_of hc hek (by rw [hgc,gOk_keep]; exact hg)]; simp)]
  refine fin x undef (Ext.refl x) h.wrel rfl ?_
  rw [hu]
  exact rel_undef x
theorem exec_heavy {y:Ent} (hok:AllOk P ops n all) (h:Inv P ops n K x0 all A (y::L) pend listed x e a) (hl:lightE y=none) (hr:y.j∈Region.ready .any ops listed) {Q:Exit→Act→World→Prop} {G:Act→World→Prop}
  (hG:∀ z e' a',Inv P ops n K x0 all (A++[y]) L pend (listed.setIfInBounds y.j true) z e' a'→G a' z.w):wpOp P ops Q y.j G a x.w:=by
 have hyall:y∈all:=by rw [h.split]; simp
 obtain ⟨o,c,q,ho,hc,hcc⟩:=hok.ins y hyall
 have hek:=keep_rel hok h hyall hr (e1:=e) (fun _ _=>rfl)
 have hdst:o.dst=y.c.dst:=by rw [hcc]; exact (cIn_some hc).2.1
 have hlt:∀ k,y.c.dst=some k→k<n:=by rw [hcc]; exact (cIn_some hc).2.2.1
 have hgc:c.g=y.c.g:=by rw [hcc]
 have hent:=hok.ents A y L h.split
 have fin:∀ z u v,Ext x z→WRel z→VRel z u v→(y.b=true→preσ x.σ z.σ∨reread e z.σ y.r)→(∀ kd z' m k,y.c.i=.mapEnt kd z' m k→preM kd z' x.σ z.σ)→vcDr P L K ⟨.go,setD e y.c.dst u,z.σ⟩→G (a.put o.dst v) z.w:=by
  intro z u v hxz hz hv hpre hpm hvc
  refine hG z (setD e y.c.dst u) _ ⟨by rw [h.split]; simp,by simpa using h.size,?_,closed_set h hr,?_,h.pdup,?_,h.ext.trans hxz,hz,by rw [put_size]; exact h.tn,by rw [put_defers]; exact h.df,hvc,fun m hm=>h.nph m (List.mem_cons_of_mem _ hm),h.phx⟩
  ·intro j
   by_cases hj:y.j=j
   ·subst hj
    simp only [getD_set_self,Bool.true_eq_false,false_iff,not_or,not_exists,not_and]
    refine ⟨fun m hm=>?_,fun q hq=>?_⟩
    ·have hn:=hok.nodup
     rw [h.split,List.map_append,List.map_cons,List.nodup_append] at hn
     have:=(List.nodup_cons.1 hn.2.1).1
     intro heq
     exact this (List.mem_map.2 ⟨m,hm,heq⟩)
    ·exact ne_j hok h.split (h.pnd q hq).1 (show y∈y::L by simp)
   ·rw [getD_set_ne true hj,h.un j]
    simp only [List.mem_cons,exists_eq_or_imp]
    constructor
    ·rintro ((h' | h') | h')
     ·exact (hj h').elim
     ·exact .inl h'
     ·exact .inr h'
    ·rintro (h' | h')
     ·exact .inl (.inr h')
     ·exact .inr h'
  ·intro p hp
   obtain ⟨h1,⟨r,h2E⟩,h3,h4,h5,h6,h7⟩:=h.pnd p hp
   have h2:=lightE_some h2E
   refine ⟨by simp [h1],⟨r,h2E⟩,?_,fun k hk=>?_,fun d hd=>?_,fun m hm=>h6 m (List.mem_cons_of_mem _ hm),fun m hm=>h7 m (List.mem_cons_of_mem _ hm)⟩
   ·rcases h3 with ⟨hg,hnp,hev⟩ | h3 | ⟨zs,N,i1,i2,i3,i4,i5⟩
    rotate_left
    ·exact .inr (.inl h3)
    ·obtain ⟨o',m1,m2,m3,m4⟩:=hxz.obj N _ i4
     refine .inr (.inr ⟨zs,N,i1,i2,i3,?_,?_⟩)
     ·rcases (hent.heavy hl).2 p.x h1 (by rw [i1]; rfl) with hin | ht | ⟨hb,hmem⟩
      ·exfalso
       have:=anc_listed h _ _ (preds_listed hr) _ hin
       rw [un_of h (.inr ⟨p,hp,rfl⟩)] at this
       cases this
      ·rw [i1] at ht
       exfalso
       revert ht
       cases y.c.i <;> simp [tame]
      ·rcases hpre hb with h8 | h8
       ·exact h8.get i4
       ·obtain ⟨d,u',hd,hu,h9⟩:=reread_mem h8 p.x.c hmem (by rw [i2]; rfl)
        rw [h5 d hd] at hu
        obtain rfl:=Option.some.inj hu
        rw [i1] at h9
        obtain ⟨N',g1,g2,_⟩:=h9
        rw [i3] at g2
        simp only [Option.some.injEq,V.ptr.injEq,and_true] at g2
        rw [← g2]; exact g1
     ·have hg:(Obj.box zs).gen=o'.gen:=by
       cases o' <;> first | rfl | (simp [Obj.like] at m2)
      rw [m4 hg]; exact i5
    ·refine .inl ⟨hg,hnp,?_⟩
     refine hev.elim (fun hev=>?_) (fun hev=>?_)
     rotate_left
     ·obtain ⟨f,as,hqi,hev⟩:=hev
      refine .inr ⟨f,as,hqi,?_⟩
      have hpre':preσ x.σ z.σ:=by
       rcases (hent.heavy hl).2 p.x h1 (by rw [hqi]; rfl) with hin | ht | ⟨hb,hmem⟩
       ·exfalso
        have:=anc_listed h _ _ (preds_listed hr) _ hin
        rw [un_of h (.inr ⟨p,hp,rfl⟩)] at this
        cases this
       ·rw [hqi] at ht
        exfalso
        revert ht
        cases y.c.i <;> simp [tame]
       ·rcases hpre hb with h8 | h8
        ·exact h8
        ·obtain ⟨d,u',_,_,h9⟩:=reread_mem h8 p.x.c hmem (by rw [← gOk_agree h4]; exact hg)
         rw [hqi] at h9
         exact (show False from h9).elim
      obtain ⟨τ0,hτ⟩:=hpre'
      intro τ
      have:=hev (τ0++τ)
      rw [hτ]
      simpa using this
     refine .inl ?_
     cases r with
     | false=>exact light_pre h2 (fun hrt=>by cases hrt) hev
     | true =>
      rcases (hent.heavy hl).2 p.x h1 h2 with hin | ht | ⟨hb,hmem⟩
      ·exfalso
       have:=anc_listed h _ _ (preds_listed hr) _ hin
       rw [un_of h (.inr ⟨p,hp,rfl⟩)] at this
       cases this
      ·exact light_tame ht h2 hpm hev
      ·rcases hpre hb with h8 | h8
       ·exact light_pre h2 (fun _=>h8) hev
       ·obtain ⟨d,u',hd,hu,h9⟩:=reread_mem h8 p.x.c hmem (by rw [← gOk_agree h4]; exact hg)
        rw [h5 d hd] at hu
        obtain rfl:=Option.some.inj hu
        rw [ev_congr (fun k hk=>h4 k (by simp [In.looks,hk]))]
        exact h9
   ·rw [h4 k hk]
    exact (eget_setD fun hd=>by
     have:=preds_listed hr _ (h6 y (by simp) k hd hk).2
     rw [un_of h (.inr ⟨p,hp,rfl⟩)] at this
     cases this).symm
   ·rw [eget_setD fun hd'=>h7 y (by simp) d hd' hd]
    exact h5 d hd
  ·intro k u' hk
   by_cases hd:y.c.dst=some k
   ·refine .inr ⟨v,?_,?_⟩
    ·rw [hdst,hd]
     have:=hlt k hd
     simp [Act.put,h.tn,this]
    ·rw [hd,eget_setD_same] at hk
     obtain rfl:=Option.some.inj hk
     exact hv
   ·rw [eget_setD hd] at hk
    rcases h.env k u' hk with h' | ⟨v',hv',hr'⟩
    ·exact .inl h'
    ·refine .inr ⟨v',?_,VRel.mono hxz _ _ hr'⟩
     rw [hdst]
     cases hdd:y.c.dst with
     | none=>exact hv'
     | some d =>
      simp only [Act.put]
      rw [Array.getElem?_setIfInBounds_ne (fun hdk=>hd (by rw [hdd,hdk]))]
      exact hv'
 have hvc:=h.vc
 simp only [vcDr] at hvc
 obtain ⟨w,hw,hk⟩:=wantK_gOk hvc
 unfold wpOp
 simp only [ho]
 cases w with
 | false =>
  rw [if_neg (by rw [wanted_of hc hek (by rw [hgc,gOk_keep]; exact hw)]; simp)]
  exact fin x (.tup []) undef (Ext.refl x) h.wrel (rel_undef x) (fun _=>.inl ⟨[],by simp⟩) (fun _ _ _ _ _=>preM.refl) hk
 | true =>
  rw [if_pos (wanted_of hc hek (by rw [hgc,gOk_keep]; exact hw))]
  left
  have hk':runI P y.c.dst (drK y.b y.r e x.σ (vcDr P L K)) e x.σ y.c.i:=hk
  by_cases hcall:∃ f as,c.i=.call f as
  ·obtain ⟨f,as,hcall⟩:=hcall
   have hys:y.c.i.slots=oSlots f++as.flatMap oSlots:=by rw [hcc,hcall]; rcases fix_call q f as with ⟨h',_⟩ | h' <;> simp only [h'] <;> rfl
   have hyi:∀ kd z m k,y.c.i≠.mapEnt kd z m k:=by rw [hcc,hcall]; rcases fix_call q f as with ⟨h',_⟩ | h' <;> simp only [h'] <;> (intro kd z m k h; cases h)
   replace hk':callO P e x.σ f (opvs e as) fun t r σ'=>drK y.b y.r e x.σ (vcDr P L K) ⟨t,setD e y.c.dst r,σ'⟩:=by
    have hyc:y.c.i=(c.i).fix q:=by rw [hcc]
    rw [hyc,hcall] at hk'
    rcases fix_call q f as with ⟨h',_⟩ | h'
    rotate_left
    ·rw [h'] at hk'; exact hk'
    ·rw [h'] at hk'
     obtain ⟨u,h1,h2⟩:=hk'
     have h3:=h1 []
     rw [List.append_nil] at h3
     refine callO_mono h3 ?_
     rintro r σ' ⟨rfl,rfl⟩
     exact h2
   have hsl:∀ k∈oSlots f++as.flatMap oSlots,eget (keepE y.c.looks e) k=eget e k:=fun k hk=>eget_keep (by simp only [In.looks,hys,List.mem_append]; exact .inl (List.mem_append.1 hk))
   rw [← callO_congr (e:=keepE y.c.looks e) (fun k hk=>hsl k (List.mem_append_left _ hk)) (opvs_congr (e:=keepE y.c.looks e) (fun k hk=>hsl k (List.mem_append_right _ hk)))] at hk'
   refine exec_call (by rw [(cIn_some hc).1,hcall]) h.wrel hek hk' fun z r v hxz hz hkk hv=>fin z r v hxz hz hv hkk.1 (fun kd z m k he=>(hyi kd z m k he).elim) hkk.2
  ·have hn:∀ f as,c.i≠.call f as:=fun f as hi=>hcall ⟨f,as,hi⟩
   have hny:∀ f as,y.c.i≠.call f as:=by
    rw [hcc]
    intro f as hi
    cases hci:c.i with
    | lit how a b d e=>cases how <;> simp [hci,I.fix] at hi
    | call f as=>exact hn f as hci
    | new zs=>rcases fix_new q zs with h' | h' <;> simp [hci,h'] at hi
    | _=>simp [hci,I.fix] at hi
   have hnq:∀ f as,y.c.i≠.callQ f as:=by
    rw [hcc]
    intro f as hi
    cases hci:c.i with
    | lit how a b d e=>cases how <;> simp [hci,I.fix] at hi
    | call f as=>exact hn f as hci
    | callQ f as=>exact cI_noQ (f:=f) (as:=as) (by rw [(cIn_some hc).1,hci])
    | new zs=>rcases fix_new q zs with h' | h' <;> simp [hci,h'] at hi
    | _=>simp [hci,I.fix] at hi
   have hev:=runI_ev hny hnq hk'
   rw [← ev_keep] at hev
   have hev2:ev (keepE y.c.looks e) x.σ (iK e y.c.dst (drK y.b y.r e x.σ (vcDr P L K))) c.i:=by
    apply ev_fix (q:=q) (fun zs hz=>h.nph y (by simp) zs (by rw [hcc]; exact hz))
    have:y.c.i=c.i.fix q:=by rw [hcc]
    rw [← this]
    exact hev
   refine exec_ev (cIn_some hc).1 hn h.wrel hek (ev_ent hev2) fun z r v hxz hz hkk hv=>fin z _ v hxz hz hv hkk.1.1 (fun kd z' m k he=>hkk.2 kd z' m k (by
    rw [hcc] at he
    cases hci:c.i with
    | lit how a b d e=>cases how <;> simp [hci,I.fix] at he
    | mapEnt kd2 z2 m2 k2=>simpa [hci,I.fix] using he
    | new zs=>rcases fix_new q zs with h' | h' <;> simp [hci,h'] at he
    | call f as=>exact (hn f as hci).elim
    | _=>simp [hci,I.fix] at he)) hkk.1.2
theorem advance (hok:AllOk P ops n all) {i:Nat} (hr:i∈Region.ready .any ops listed):∀ (L A:List Ent) (pend:List Pd) (e:Env),Inv P ops n K x0 all A L pend listed x e a →
  ∃ L' A' pend' e',Inv P ops n K x0 all A' L' pend' listed x e' a∧L'.length+pend'.length=L.length+pend.length∧((∃ p∈pend',p.x.j=i)∨∃ y L'',L'=y::L''∧y.j=i∧lightE y=none)
 | [],A,pend,e,h=>by
  refine ⟨[],A,pend,e,h,rfl,.inl ?_⟩
  rcases (h.un i).1 (mem_ready.1 hr).1 with ⟨m,hm,_⟩ | h'
  ·cases hm
  ·exact h'
 | y::L,A,pend,e,h=>by
  cases hl:lightE y with
  | some r =>
   obtain ⟨u,e',h'⟩:=pop hok h hl
   obtain ⟨L',A',pend',e'',g1,g2,g3⟩:=advance hok hr L (A++[y]) _ e' h'
   exact ⟨L',A',pend',e'',g1,by rw [g2]; simp; omega,g3⟩
  | none =>
   refine ⟨y::L,A,pend,e,h,rfl,?_⟩
   rcases (h.un i).1 (mem_ready.1 hr).1 with ⟨m,hm,rfl⟩ | h'
   ·simp only [List.mem_cons] at hm
    rcases hm with rfl | hm
    ·exact .inr ⟨m,L,rfl,rfl,hl⟩
    ·exfalso
     obtain ⟨p,hp,hh⟩:=((hok.ents A y L h.split).heavy hl).1 m hm
     have h1:=preds_listed hr p hp
     rw [un_of h (.inl ?_)] at h1
     ·cases h1
     ·rcases hh with rfl | ⟨m',hm',rfl⟩
      ·exact ⟨y,by simp,rfl⟩
      ·exact ⟨m',by simp [hm'],rfl⟩
   ·exact .inl h'
theorem progress (hok:AllOk P ops n all) (h:Inv P ops n K x0 all A L pend listed x e a) (h0:Region.ready .any ops listed=[]):L=[]∧pend=[]:=by
 -- the first in the list that has not come up yet
 have key:∀ (B C:List Ent),all=B++C→(∀ m∈B,listed.getD m.j false=true)→∀ m∈C,listed.getD m.j false=true:=by
  intro B C
  induction C generalizing B with
  | nil=>intro _ _ m hm; cases hm
  | cons y C ih =>
   intro hs hB
   have hy:listed.getD y.j false=true:=by
    obtain ⟨o,c,_,ho,_,_⟩:=hok.ins y (by rw [hs]; simp)
    have hlt:y.j<listed.size:=by rw [h.size]; exact (Array.getElem?_eq_some_iff.1 ho).1
    cases hd:listed.getD y.j false with
    | true=>rfl
    | false =>
     have hd':listed.getD y.j true=false:=by
      rw [Array.getD_eq_getD_getElem?] at hd ⊢
      simpa [hlt] using hd
     have:y.j∈Region.ready .any ops listed:=by
      rw [mem_ready]
      refine ⟨hd',o,ho,fun e' he hb=>?_⟩
      have hp:e'.on∈preds ops y.j:=by
       simp only [preds,ho,List.mem_map,List.mem_filter]
       exact ⟨e',⟨by simpa using he,hb⟩,rfl⟩
      obtain ⟨m,hm,hj⟩:=(hok.ents B y C hs).pre _ hp
      rw [← hj]
      exact hB m hm
     rw [h0] at this
     cases this
   intro m hm
   simp only [List.mem_cons] at hm
   rcases hm with rfl | hm
   ·exact hy
   ·refine ih (B++[y]) (by rw [hs]; simp) (fun m' hm'=>?_) m hm
    rcases List.mem_append.1 hm' with h' | h'
    ·exact hB m' h'
    ·simp only [List.mem_singleton] at h'; subst h'; exact hy
 have hall:=key [] all (by simp) (fun m hm=>by cases hm)
 constructor
 ·cases L with
  | nil=>rfl
  | cons y L =>
   have:=hall y (by rw [h.split]; simp)
   rw [un_of h (.inl ⟨y,by simp,rfl⟩)] at this
   cases this
 ·cases pend with
  | nil=>rfl
  | cons p pend =>
   have:=hall p.x (by rw [h.split]; exact List.mem_append_left _ (h.pnd p (by simp)).1)
   rw [un_of h (.inr ⟨p,by simp,rfl⟩)] at this
   cases this
theorem any_sound (hok:AllOk P ops n all) {Q:Exit→Act→World→Prop} (hQ:∀ a w,Post x0 n K a w→Q .normal a w):∀ (fuel:Nat) (listed:Array Bool) (L A:List Ent) (pend:List Pd) (x:Cx) (e:Env) (a:Act),
  fuel=L.length+pend.length→Inv P ops n K x0 all A L pend listed x e a→wpAny P .any ops Q fuel listed a x.w:=by
 have done:∀ {listed:Array Bool} {A:List Ent} {x:Cx} {e:Env} {a:Act},Inv P ops n K x0 all A [] [] listed x e a→Q .normal a x.w:=by
  intro listed A x e a h
  refine hQ _ _ ⟨x,e,h.vc,fun k u hk=>?_,h.wrel,h.ext,rfl,h.tn,h.df⟩
  rcases h.env k u hk with ⟨p,hp,_⟩ | h1
  ·cases hp
  ·exact h1
 intro fuel
 induction fuel with
 | zero =>
  intro listed L A pend x e a hf h
  have hL:L=[]:=List.eq_nil_of_length_eq_zero (by omega)
  have hp:pend=[]:=List.eq_nil_of_length_eq_zero (by omega)
  subst hL hp
  refine ⟨?_,done h⟩
  apply List.eq_nil_iff_forall_not_mem.2
  intro i hi
  rcases (h.un i).1 (mem_ready.1 hi).1 with ⟨m,hm,_⟩ | ⟨m,hm,_⟩ <;> cases hm
 | succ fuel ih =>
  intro listed L A pend x e a hf h
  refine ⟨fun h0=>?_,fun i hi=>?_⟩
  ·obtain ⟨rfl,rfl⟩:=progress hok h h0
   exact done h
  ·obtain ⟨L',A',pend',e',h',hlen,hcase⟩:=advance hok hi L A pend e h
   rcases hcase with ⟨p,hp,rfl⟩ | ⟨y,L'',rfl,rfl,hl⟩
   ·obtain ⟨P1,P2,rfl⟩:=List.append_of_mem hp
    refine exec_pend hok h' hi fun y a' hy=>ih _ L' A' (P1++P2) y e' a' ?_ hy
    simp only [List.length_append,List.length_cons] at hlen ⊢
    omega
   ·refine exec_heavy hok h' hl hi fun z e'' a' hz=>ih _ L'' (A'++[y]) pend' z e'' a' ?_ hz
    simp only [List.length_cons] at hlen
    omega
theorem drawn_sound (hok:AllOk P ops n all) (hnp:∀ m∈all,∀ zs,m.c.i≠.newP zs) (hm:P.follows .mixedOrders=true) {Q:Exit→Act→World→Prop} (hQ:∀ a w,Post x0 n K a w→Q .normal a w) {id:Nat} (h0:Ext x0 x) (hx:WRel x) (he:ERel x e a.tmps) (hn:a.tmps.size=n) (hd:a.defers=[]) (hk:vcDr P all K ⟨.go,e,x.σ⟩) :
  (Code.region id ops true).wp P Q a x.w:=by
 refine wp_region_any hm ?_
 have hlen:ops.size=all.length:=by
  have h1:∀ k,k∈all.map (·.j)↔k∈List.range ops.size:=by
   intro k
   simp only [List.mem_map,List.mem_range]
   constructor
   ·rintro ⟨m,hm,rfl⟩
    obtain ⟨o,c,_,ho,_⟩:=hok.ins m hm
    exact (Array.getElem?_eq_some_iff.1 ho).1
   ·intro hk
    exact hok.whole k hk
  have:=((List.perm_ext_iff_of_nodup hok.nodup List.nodup_range).2 h1).length_eq
  simpa using this.symm
 have hun:∀ j,(Array.replicate ops.size false).getD j true=false↔j<ops.size:=by
  intro j
  rw [Array.getD_eq_getD_getElem?,Array.getElem?_replicate]
  split <;> simp_all
 have hfal:∀ j,(Array.replicate ops.size false).getD j false=false:=by
  intro j
  rw [Array.getD_eq_getD_getElem?,Array.getElem?_replicate]
  split <;> simp
 refine any_sound (x0:=x0) hok hQ ops.size _ all [] [] { x with w:=x.w.drew } e a (by simp [hlen]) ?_
 refine ⟨by simp,by simp,?_,?_,by simp,by simp,?_,h0.trans (ext_drew x),wrel_drew hx,hn,hd,hk,hnp,by simp⟩
 ·intro j
  rw [hun]
  constructor
  ·intro hj; exact .inl (hok.whole j hj)
  ·rintro (⟨m,hm,rfl⟩ | ⟨m,hm,_⟩)
   ·obtain ⟨o,c,_,ho,_⟩:=hok.ins m hm
    exact (Array.getElem?_eq_some_iff.1 ho).1
   ·cases hm
 ·intro j hj; rw [hfal] at hj; cases hj
 ·intro k u hk'
  obtain ⟨v,h1,h2⟩:=he k u hk'
  exact .inr ⟨v,h1,VRel.mono (ext_drew x) _ _ h2⟩
theorem ext_len {x y:Cx} (h:Ext x y):x.σ.length≤y.σ.length:=by
 by_cases hl:x.σ.length≤y.σ.length
 ·exact hl
 ·exfalso
  obtain ⟨o',h1,_⟩:=h.obj y.σ.length (x.σ[y.σ.length]'(by omega)) (by simp)
  have:=(List.getElem?_eq_some_iff.1 h1).1
  omega
theorem drawnP_sound {y0:Ent} {es:List Ent} {d:Nat} {zs:List V} (hok:AllOk P ops n (y0::es)) (hy:y0.c=⟨some d,none,.newP zs⟩) (hyb:y0.b=false) (hz:zs.all V.zero=true) (hnp:∀ m∈es,∀ zs,m.c.i≠.newP zs) (hm:P.follows .mixedOrders=true) {Q:Exit→Act→World→Prop} (hQ:∀ a w,Post x0 n K a w→Q .normal a w) {id:Nat} (h0:Ext x0 x) (hx:WRel x) (he:ERel x e a.tmps) (hn:a.tmps.size=n) (hd:a.defers=[])
  (hk:vcDr P es K ⟨.go,setD e (some d) (.ptr x.σ.length 0),x.σ++[.box zs]⟩) :
  (Code.region id ops true).wp P Q a x.w:=by
 refine wp_region_any hm ?_
 have hlen:ops.size=(y0::es).length:=by
  have h1:∀ k,k∈(y0::es).map (·.j)↔k∈List.range ops.size:=by
   intro k
   simp only [List.mem_map,List.mem_range]
   constructor
   ·rintro ⟨m,hm,rfl⟩
    obtain ⟨o,c,_,ho,_⟩:=hok.ins m hm
    exact (Array.getElem?_eq_some_iff.1 ho).1
   ·intro hk
    exact hok.whole k hk
  have:=((List.perm_ext_iff_of_nodup hok.nodup List.nodup_range).2 h1).length_eq
  simpa using this.symm
 have hun:∀ j,(Array.replicate ops.size false).getD j true=false↔j<ops.size:=by
  intro j
  rw [Array.getD_eq_getD_getElem?,Array.getElem?_replicate]
  split <;> simp_all
 have hfal:∀ j,(Array.replicate ops.size false).getD j false=false:=by
  intro j
  rw [Array.getD_eq_getD_getElem?,Array.getElem?_replicate]
  split <;> simp
 have hdr:=wrel_drew hx
 have hext:Ext x ({ x with w:=x.w.drew,σ:=x.σ++[.box zs],ρ:=upd x.ρ x.σ.length ⟨none,1⟩ }:Cx) :=
  ⟨rfl,rfl,rfl,Nat.le_refl _,fun _ h=>h,fun _ _=>rfl,fun id o ho=>⟨o,get_app ho,o.like_refl,Nat.le_refl _,fun _=>upd_other _ _ _ (by have:=(List.getElem?_eq_some_iff.1 ho).1; omega)⟩⟩
 have hw:WRel ({ x with w:=x.w.drew,σ:=x.σ++[.box zs],ρ:=upd x.ρ x.σ.length ⟨none,1⟩ }:Cx):=by
  refine ⟨fun id o ho=>?_,fun j k b hjk hj hk' hb=>?_,hx.low⟩
  ·by_cases e':id<x.σ.length
   ·have ho':x.σ[id]?=some o:=by
     have:(x.σ++[.box zs])[id]?=some o:=ho
     rwa [List.getElem?_append_left e'] at this
    exact ORel.keep hext (upd_other _ _ _ (by omega)) (fun b _ _ hf=>⟨rfl,hf⟩) (hx.objs id o ho')
   ·have:(x.σ++[.box zs])[id]?=some o:=ho
    have hid:id=x.σ.length:=by
     have:=(List.getElem?_eq_some_iff.1 this).1
     simp at this; omega
    subst hid
    simp at this
    subst this
    exact .inl ⟨upd_same _ _ _,hz⟩
  ·simp only [List.length_append,List.length_singleton] at hj hk' hb ⊢
   by_cases ej:j=x.σ.length
   ·subst ej; simp at hb
   ·rw [upd_other _ _ _ ej] at hb
    by_cases ek:k=x.σ.length
    ·subst ek; simp
    ·rw [upd_other _ _ _ ek]
     exact hx.inj j k b hjk (by omega) (by omega) hb
 have hyi:y0.c.i=.newP zs:=by rw [hy]
 have hyg:y0.c.g=none:=by rw [hy]
 have hyd:y0.c.dst=some d:=by rw [hy]
 have hyl:y0.c.looks=[]:=by rw [hy]; rfl
 have hel:=hok.ents [] y0 es rfl
 refine any_sound (x0:=x0) hok hQ ops.size _ es [y0] [⟨y0,setD e (some d) (.ptr x.σ.length 0),.ptr x.σ.length 0⟩] { x with w:=x.w.drew,σ:=x.σ++[.box zs],ρ:=upd x.ρ x.σ.length ⟨none,1⟩ } (setD e (some d) (.ptr x.σ.length 0)) a (by simp [hlen]) ?_
 refine ⟨by simp,by simp,?_,?_,?_,by simp,?_,h0.trans hext,hw,hn,hd,hk,hnp,?_⟩
 ·intro j
  rw [hun]
  constructor
  ·intro hj
   obtain ⟨m,hm,rfl⟩:=hok.whole j hj
   simp only [List.mem_cons] at hm
   rcases hm with rfl | hm
   ·exact .inr ⟨_,List.mem_singleton_self _,rfl⟩
   ·exact .inl ⟨m,hm,rfl⟩
  ·rintro (⟨m,hm,rfl⟩ | ⟨m,hm,rfl⟩)
   ·obtain ⟨o,c,_,ho,_⟩:=hok.ins m (by simp [hm])
    exact (Array.getElem?_eq_some_iff.1 ho).1
   ·simp only [List.mem_singleton] at hm
    subst hm
    obtain ⟨o,c,_,ho,_⟩:=hok.ins y0 (by simp)
    exact (Array.getElem?_eq_some_iff.1 ho).1
 ·intro j hj; rw [hfal] at hj; cases hj
 ·intro p hp
  simp only [List.mem_singleton] at hp
  subst hp
  refine ⟨by simp,⟨true,by simp [lightE,hyb,hyi,light]⟩,.inr (.inr ⟨zs,x.σ.length,hyi,hyg,rfl,by simp,upd_same _ _ _⟩),?_,fun d' hd'=>?_,fun m hm d' _ hl=>?_,fun m hm d' hd'=>hel.dst m hm d' hd'⟩
  ·intro k hk
   simp only [hyl] at hk; cases hk
  rotate_left
  ·simp only [hyl] at hl; cases hl
  simp only at hd'
  rw [hyd] at hd'
  obtain rfl:=Option.some.inj hd'
  exact eget_setD_same
 ·intro k u hk'
  by_cases hkd:d=k
  ·subst hkd
   exact .inl ⟨_,List.mem_singleton_self _,hyd⟩
  ·rw [eget_setD (fun h=>hkd (Option.some.inj h))] at hk'
   obtain ⟨v,h1,h2⟩:=he k u hk'
   exact .inr ⟨v,h1,VRel.mono hext _ _ h2⟩
 ·intro p hp zs' N h1 h2
  simp only [List.mem_singleton] at hp
  subst hp
  simp only [V.ptr.injEq,and_true] at h2
  rw [← h2]
  exact ext_len h0
end
end Go.Ab
end
section
namespace Go.Ab
def fixIn (q:Nat) (c:In):In:=⟨c.dst,c.g,c.i.fix q⟩
def insL (P:Program) (ops:Array Oper) (n:Nat) (q:Nat→Nat):List Nat→Option (List (Nat × In))
 | []=>some []
 | j::js=>match ops[j]? with
  | some o=>match cIn P ops n o,insL P ops n q js with
   | some c,some cs=>some ((j,fixIn (q j) c)::cs)
   | _,_=>none
  | none=>none
def waits (ops:Array Oper) (ins:List (Nat × In)) (p:Nat × In):Bool:=match p.2.dst with
 | some d=>ins.any fun q=>q.1 != p.1 && q.2.looks.contains d && !(preds ops q.1).contains p.1
 | none=>false
def ready1 (ops:Array Oper) (done:List Nat) (j:Nat):Bool:=(preds ops j).all done.contains
def ordr (ops:Array Oper) (ins:List (Nat × In)):Nat→List Nat→List (Nat × In)→List (Nat × In)
 | 0,_,_=>[]
 | f+1,done,todo=>match todo.find? fun p=>(light p.2.i).isSome && !waits ops ins p && ready1 ops done p.1 with
  | some p=>p::ordr ops ins f (p.1::done) (todo.filter fun q=>q.1 != p.1)
  | none=>match todo.find? fun p=>ready1 ops done p.1 with
   | some p=>p::ordr ops ins f (p.1::done) (todo.filter fun q=>q.1 != p.1)
   | none=>[]
def reads (i:I):Bool:=match light i with
 | some true=>true
 | _=>false
def heavyB (i:I):Bool:=match light i with
 | none=>true
 | some _=>false
def heavyE (x:Ent):Bool:=x.b || heavyB x.c.i
def flagOf (ops:Array Oper) (ins:List (Nat × In)) (done:List Ent) (p:Nat × In):Bool :=
 if heavyB p.2.i=true then
  match done.filter fun q=>reads q.c.i && !tame p.2.i q.c.i with
  | []=>false
  | qs=>(fun a=>qs.any fun q=>!a.contains q.j) (ancS ops ops.size (preds ops p.1))
 else waits ops ins p
def againOf (ops:Array Oper) (done:List Ent) (p:Nat × In):List In :=
 match done.filter fun q=>reads q.c.i && !tame p.2.i q.c.i with
 | []=>[]
 | qs=>(fun a=>(qs.filter fun q=>!a.contains q.j).map (·.c)) (ancS ops ops.size (preds ops p.1))
def entOf (ops:Array Oper) (ins:List (Nat × In)) (done:List Ent) (p:Nat × In):Ent :=
 if flagOf ops ins done p=true then ⟨p.1,true,p.2,againOf ops done p⟩ else ⟨p.1,false,p.2,[]⟩
def entsOf (ops:Array Oper) (ins:List (Nat × In)):List Ent→List (Nat × In)→List Ent
 | _,[]=>[]
 | done,p::ps=>entOf ops ins done p::entsOf ops ins (done++[entOf ops ins done p]) ps
def nodupB:List Nat→Bool
 | []=>true
 | x::xs=>!xs.contains x && nodupB xs
def sameD:Option Nat→Option Nat→Bool
 | some a,some b=>a == b
 | _,_=>false
def lookB (ops:Array Oper) (all:List Ent) (x:Ent):Bool :=
 (fun ps ls=>all.all fun m=>match m.c.dst with
  | some d=>!ls.contains d || (ps.contains m.j && m.j != x.j) || (heavyE m && (preds ops m.j).contains x.j)
  | none=>true) (preds ops x.j) x.c.looks
def entB (ops:Array Oper) (all done:List Ent) (x:Ent) (rest:List Ent):Bool :=
 ((preds ops x.j).all fun p=>done.any fun m=>m.j == p) && lookB ops all x && (rest.all fun m=>!sameD m.c.dst x.c.dst) &&
 (!heavyE x || ((rest.all fun q=>(preds ops q.j).any fun p=>p == x.j || rest.any fun m=>m.j == p) &&
  (x.b || match done.filter fun q=>reads q.c.i && !tame x.c.i q.c.i with
   | []=>true
   | qs=>(fun a=>qs.all fun q=>a.contains q.j) (ancS ops ops.size (preds ops x.j)))))
def chkB (ops:Array Oper) (all:List Ent):List Ent→List Ent→Bool
 | _,[]=>true
 | done,x::rest=>entB ops all done x rest && chkB ops all (done++[x]) rest
def wholeB (ops:Array Oper) (all:List Ent):Bool:=(List.range ops.size).all fun k=>all.any fun m=>m.j == k
def isNewP:I→Bool
 | .newP _=>true
 | _=>false
def compD (P:Program) (n:Nat) (ops:Array Oper) (q:Nat):Option (List Ent) :=
 match insL P ops n (fun _=>q) (List.range ops.size) with
 | some ins=>(fun es=>if (nodupB (es.map (·.j)) && wholeB ops es && chkB ops es [] es && es.all fun m=>!isNewP m.c.i)=true then some es else none) (entsOf ops ins [] (ordr ops ins ops.size [] ins))
 | none=>none
structure DP where
 d:Nat
 zs:List V
 y:Ent
 es:List Ent
def compP (P:Program) (n:Nat) (ops:Array Oper) (j:Nat):Option DP :=
 match insL P ops n (fun k=>if k=j then 2 else 0) (List.range ops.size) with
 | some ins=>match ins.find? fun p=>p.1 == j with
  | some p=>match p.2 with
   | ⟨some d,none,.newP zs⟩=>match entsOf ops ins [] (p::ordr ops ins ops.size [j] (ins.filter fun r=>r.1 != j)) with
    | y::es=>match y.c with
     | ⟨some d',none,.newP zs'⟩=>if (nodupB ((y::es).map (·.j)) && wholeB ops (y::es) && chkB ops (y::es) [] (y::es) && (es.all fun m=>!isNewP m.c.i) && !y.b && zs'.all V.zero)=true then some ⟨d',zs',y,es⟩ else none
     | _=>none
    | []=>none
   | _=>none
  | none=>none
 | none=>none
def isAlloc (ops:Array Oper) (j:Nat):Bool:=match ops[j]? with
 | some o=>match o.op with
  | .alloc _=>true
  | _=>false
 | none=>false
def firstP (P:Program) (n:Nat) (ops:Array Oper):List Nat→Option DP
 | []=>none
 | j::js=>match isAlloc ops j with
  | true=>match compP P n ops j with
   | some r=>some r
   | none=>firstP P n ops js
  | false=>firstP P n ops js
section
variable {P:Program} {ops:Array Oper} {n:Nat}
theorem insL_mem {q:Nat→Nat}:∀ {js:List Nat} {ins:List (Nat × In)},insL P ops n q js=some ins→∀ p∈ins,∃ o c q',ops[p.1]?=some o∧cIn P ops n o=some c∧p.2=fixIn q' c
 | [],ins,h=>by simp [insL] at h; subst h; simp
 | j::js,ins,h=>by
  simp only [insL] at h
  split at h
  ·rename_i o ho
   split at h
   ·rename_i c cs hc hcs
    obtain rfl:=Option.some.inj h
    intro p hp
    simp only [List.mem_cons] at hp
    rcases hp with rfl | hp
    ·exact ⟨o,c,_,ho,hc,rfl⟩
    ·exact insL_mem hcs p hp
   ·cases h
  ·cases h
theorem ordr_mem {ins:List (Nat × In)}:∀ {f:Nat} {done:List Nat} {todo:List (Nat × In)},∀ p∈ordr ops ins f done todo,p∈todo
 | 0,_,_=>by simp [ordr]
 | f+1,done,todo=>by
  intro p hp
  simp only [ordr] at hp
  have step:∀ {q:Nat × In},q∈todo→p∈q::ordr ops ins f (q.1::done) (todo.filter fun r=>r.1 != q.1)→p∈todo:=by
   intro q hq hp
   simp only [List.mem_cons] at hp
   rcases hp with rfl | hp
   ·exact hq
   ·exact (List.mem_filter.1 (ordr_mem p hp)).1
  split at hp
  ·rename_i q hq
   exact step (List.mem_of_find?_eq_some hq) hp
  ·split at hp
   ·rename_i q hq
    exact step (List.mem_of_find?_eq_some hq) hp
   ·cases hp
theorem entOf_r {ins:List (Nat × In)} {done:List Ent} {p:Nat × In}:(entOf ops ins done p).j=p.1∧(entOf ops ins done p).c=p.2∧((entOf ops ins done p).b=true→(entOf ops ins done p).r=againOf ops done p):=by
 unfold entOf
 split
 ·exact ⟨rfl,rfl,fun _=>rfl⟩
 ·exact ⟨rfl,rfl,fun h=>by cases h⟩
theorem entsOf_mem {ins:List (Nat × In)}:∀ {ps:List (Nat × In)} {done:List Ent},∀ m∈entsOf ops ins done ps,(m.j,m.c)∈ps
 | [],_=>by simp [entsOf]
 | p::ps,done=>by
  intro m hm
  simp only [entsOf,List.mem_cons] at hm
  rcases hm with rfl | hm
  ·obtain ⟨h1,h2,_⟩:=entOf_r (ops:=ops) (ins:=ins) (done:=done) (p:=p)
   rw [h1,h2]; simp
  ·exact List.mem_cons_of_mem _ (entsOf_mem m hm)
theorem nodupB_ok:∀ {l:List Nat},nodupB l=true→l.Nodup
 | [],_=>.nil
 | x::xs,h=>by
  simp only [nodupB,Bool.and_eq_true,Bool.not_eq_true',List.contains_eq_mem,decide_eq_false_iff_not] at h
  exact List.nodup_cons.2 ⟨h.1,nodupB_ok h.2⟩
theorem reads_iff {i:I}:reads i=true↔light i=some true:=by
 unfold reads
 split <;> simp_all
theorem heavyB_iff {i:I}:heavyB i=true↔light i=none:=by
 unfold heavyB
 split <;> simp_all
theorem heavyE_iff {x:Ent}:heavyE x=true↔lightE x=none:=by
 unfold heavyE lightE
 cases hb:x.b
 ·simp [heavyB_iff]
 ·simp
theorem again_ok {done:List Ent} {p:Nat × In} {q:Ent} (hq:q∈done) (hr:light q.c.i=some true):q.j∈ancS ops ops.size (preds ops p.1)∨tame p.2.i q.c.i=true∨q.c∈againOf ops done p:=by
 by_cases ht:tame p.2.i q.c.i=true
 ·exact .inr (.inl ht)
 by_cases ha:q.j∈ancS ops ops.size (preds ops p.1)
 ·exact .inl ha
 refine .inr (.inr ?_)
 have hmem:q∈done.filter fun q=>reads q.c.i && !tame p.2.i q.c.i:=List.mem_filter.2 ⟨hq,by rw [reads_iff.2 hr,Bool.eq_false_iff.2 ht]; rfl⟩
 unfold againOf
 split
 ·rename_i heq; rw [heq] at hmem; cases hmem
 ·exact List.mem_map.2 ⟨q,List.mem_filter.2 ⟨hmem,by simpa using ha⟩,rfl⟩
theorem entsOf_r {ins:List (Nat × In)}:∀ {ps:List (Nat × In)} {done A B:List Ent} {x:Ent},entsOf ops ins done ps=A++x::B→x.b=true→x.r=againOf ops (done++A) (x.j,x.c)
 | [],_,A,B,x,h,_=>by simp [entsOf] at h
 | p::ps,done,A,B,x,h,hb=>by
  simp only [entsOf] at h
  cases A with
  | nil =>
   simp only [List.nil_append,List.cons.injEq] at h
   obtain ⟨rfl,_⟩:=h
   obtain ⟨h1,h2,h3⟩:=entOf_r (ops:=ops) (ins:=ins) (done:=done) (p:=p)
   rw [h1,h2,List.append_nil]
   exact h3 hb
  | cons a A =>
   simp only [List.cons_append,List.cons.injEq] at h
   obtain ⟨rfl,h⟩:=h
   have:=entsOf_r h hb
   rwa [List.append_assoc] at this
theorem entB_ok {all done rest:List Ent} {x:Ent} (h:entB ops all done x rest=true) (hxr:x.b=true→x.r=againOf ops done (x.j,x.c)):EntOk ops all done x rest:=by
 simp only [entB,Bool.and_eq_true] at h
 obtain ⟨⟨⟨h1,h2⟩,h3⟩,h4⟩:=h
 refine ⟨fun p hp=>?_,fun m hm d hd hl=>?_,fun m hm d hd hx=>?_,fun hl=>?_⟩
 ·have:=(List.all_eq_true.1 h1) p hp
  obtain ⟨m,hm,hj⟩:=List.any_eq_true.1 this
  exact ⟨m,hm,by simpa using hj⟩
 ·have:=(List.all_eq_true.1 h2) m hm
  simp only [hd] at this
  simp only [List.contains_eq_mem,hl,decide_true,Bool.not_true,Bool.false_or,Bool.or_eq_true,Bool.and_eq_true,bne_iff_ne,decide_eq_true_eq,heavyE_iff] at this
  exact this
 ·have:=(List.all_eq_true.1 h3) m hm
  simp [hd,hx,sameD] at this
 ·have hh:=heavyE_iff.2 hl
  simp only [hh,Bool.not_true,Bool.false_or,Bool.and_eq_true] at h4
  obtain ⟨h4,h5⟩:=h4
  refine ⟨fun q hq=>?_,fun q hq hr=>?_⟩
  ·have:=(List.all_eq_true.1 h4) q hq
   obtain ⟨p,hp,hpp⟩:=List.any_eq_true.1 this
   refine ⟨p,hp,?_⟩
   simp only [Bool.or_eq_true,beq_iff_eq,List.any_eq_true] at hpp
   exact hpp
  ·cases hb:x.b with
   | true =>
    rw [hxr hb]
    exact (again_ok (p:=(x.j,x.c)) hq hr).imp id (Or.imp id fun h=>⟨rfl,h⟩)
   | false =>
   rw [hb,Bool.false_or] at h5
   by_cases ht:tame x.c.i q.c.i=true
   ·exact .inr (.inl ht)
   left
   have hmem:q∈done.filter fun q=>reads q.c.i && !tame x.c.i q.c.i:=List.mem_filter.2 ⟨hq,by rw [reads_iff.2 hr,Bool.eq_false_iff.2 ht]; rfl⟩
   split at h5
   ·rename_i heq; rw [heq] at hmem; cases hmem
   ·have:=(List.all_eq_true.1 h5) q hmem
    simpa using this
theorem chkB_ok {all:List Ent}:∀ {rest done:List Ent},chkB ops all done rest=true→∀ A x B,rest=A++x::B→(x.b=true→x.r=againOf ops (done++A) (x.j,x.c))→EntOk ops all (done++A) x B
 | [],_,_,A,x,B,h,_=>by simp at h
 | y::rest,done,h,A,x,B,hs,hr=>by
  simp only [chkB,Bool.and_eq_true] at h
  cases A with
  | nil =>
   simp only [List.nil_append,List.cons.injEq] at hs
   obtain ⟨rfl,rfl⟩:=hs
   rw [List.append_nil] at hr ⊢
   exact entB_ok h.1 hr
  | cons a A =>
   simp only [List.cons_append,List.cons.injEq] at hs
   obtain ⟨rfl,rfl⟩:=hs
   have:=chkB_ok h.2 A x B rfl (by rw [List.append_assoc]; exact hr)
   rwa [List.append_assoc] at this
theorem noNewP {es:List Ent} (h:(es.all fun m=>!isNewP m.c.i)=true):∀ m∈es,∀ zs,m.c.i≠.newP zs:=by
 intro m hm zs he
 have:=List.all_eq_true.1 h m hm
 rw [he] at this
 cases this
theorem compD_ok {q:Nat} {es:List Ent} (h:compD P n ops q=some es):AllOk P ops n es∧∀ m∈es,∀ zs,m.c.i≠.newP zs:=by
 unfold compD at h
 split at h
 ·rename_i ins hins
  simp only at h
  split at h
  ·rename_i hb
   obtain rfl:=Option.some.inj h
   simp only [Bool.and_eq_true] at hb
   obtain ⟨⟨⟨h1,h2⟩,h3⟩,h4⟩:=hb
   refine ⟨⟨nodupB_ok h1,fun k hk=>?_,fun m hm=>?_,fun A x B hs=>?_,fun A x B zs hs hx=>(noNewP h4 x (by rw [hs]; simp) zs hx).elim⟩,noNewP h4⟩
   ·have:=(List.all_eq_true.1 h2) k (List.mem_range.2 hk)
    obtain ⟨m,hm,hj⟩:=List.any_eq_true.1 this
    exact ⟨m,hm,by simpa using hj⟩
   ·obtain ⟨o,c,q',ho,hc,hcc⟩:=insL_mem hins _ (ordr_mem _ (entsOf_mem m hm))
    exact ⟨o,c,q',ho,hc,hcc⟩
   ·have:=chkB_ok h3 A x B hs (fun hb=>by have:=entsOf_r hs hb; simpa using this)
    simpa using this
  ·cases h
 ·cases h
theorem compP_ok {j:Nat} {r:DP} (h:compP P n ops j=some r):AllOk P ops n (r.y::r.es)∧r.y.c=⟨some r.d,none,.newP r.zs⟩∧r.y.b=false∧r.zs.all V.zero=true∧∀ m∈r.es,∀ zs,m.c.i≠.newP zs:=by
 unfold compP at h
 split at h
 ·rename_i ins hins
  split at h
  ·rename_i p hp
   split at h
   ·rename_i d zs hpc
    split at h
    ·rename_i y es hes
     split at h
     ·rename_i d' zs' hyc
      split at h
      ·rename_i hb
       obtain rfl:=Option.some.inj h
       simp only [Bool.and_eq_true,Bool.not_eq_true'] at hb
       obtain ⟨⟨⟨⟨⟨h1,h2⟩,h3⟩,h4⟩,h5⟩,h6⟩:=hb
       refine ⟨⟨nodupB_ok h1,fun k hk=>?_,fun m hm=>?_,fun A x B hs=>?_,fun A x B zs hs hx=>?_⟩,hyc,h5,h6,noNewP h4⟩
       ·have:=(List.all_eq_true.1 h2) k (List.mem_range.2 hk)
        obtain ⟨m,hm,hj⟩:=List.any_eq_true.1 this
        exact ⟨m,hm,by simpa using hj⟩
       ·have hm':=entsOf_mem (ops:=ops) (ins:=ins) (done:=[]) (ps:=p::ordr ops ins ops.size [j] (ins.filter fun r=>r.1 != j)) m (by rw [hes]; exact hm)
        have hin:(m.j,m.c)∈ins:=by
         simp only [List.mem_cons] at hm'
         rcases hm' with h' | h'
         ·rw [h']; exact List.mem_of_find?_eq_some hp
         ·exact (List.mem_filter.1 (ordr_mem _ h')).1
        obtain ⟨o,c,q',ho,hc,hcc⟩:=insL_mem hins _ hin
        exact ⟨o,c,q',ho,hc,hcc⟩
       ·have:=chkB_ok h3 A x B hs (fun hb=>by have:=entsOf_r (hes.trans hs) hb; simpa using this)
        simpa using this
       ·cases A with
        | nil=>rfl
        | cons a A =>
         simp only [List.cons_append,List.cons.injEq] at hs
         exact (noNewP h4 x (by rw [hs.2]; simp) zs hx).elim
      ·cases h
     ·cases h
    ·cases h
   ·cases h
  ·cases h
 ·cases h
theorem firstP_ok:∀ {js:List Nat} {r:DP},firstP P n ops js=some r→AllOk P ops n (r.y::r.es)∧r.y.c=⟨some r.d,none,.newP r.zs⟩∧r.y.b=false∧r.zs.all V.zero=true∧∀ m∈r.es,∀ zs,m.c.i≠.newP zs
 | [],_,h=>by cases h
 | j::js,r,h=>by
  simp only [firstP] at h
  split at h
  ·split at h
   ·rename_i r' hr
    obtain rfl:=Option.some.inj h
    exact compP_ok hr
   ·exact firstP_ok h
  ·exact firstP_ok h
end
end Go.Ab
end
section
namespace Go.Ab
inductive C where
 | skip
 | ops (l:List In)
 | drawn (l:List Ent)
 | drawnP (d:Nat) (zs:List V) (l:List Ent)
 | seq (a b:C)
 | cond (o:O) (a b:C)
 | block (id:Nat) (c:C)
 | loop (c:C)
 | exit (id:Nat)
 | ret
 | bad
def regD (P:Program) (n:Nat) (ops:Array Oper):Option C:=match compD P n ops 0 with
 | some es=>some (.drawn es)
 | none=>match firstP P n ops (List.range ops.size) with
  | some r=>some (.drawnP r.d r.zs r.es)
  | none=>(compD P n ops 1).map .drawn
def comp (P:Program) (n:Nat):Code→Option C
 | .skip=>some .skip
 | .label _=>some .skip
 | .region _ ops draw=>some ((if draw then (if P.follows .mixedOrders=true then regD P n ops else none) else (cOps P ops n ops.toList).map .ops).getD .bad)
 | .seq a b=>match comp P n a,comp P n b with
  | some a,some b=>some (.seq a b)
  | _,_=>none
 | .cond c a b=>match cO c,comp P n a,comp P n b with
  | some c,some a,some b=>some (.cond c a b)
  | _,_,_=>none
 | .block id c=>(comp P n c).map (.block id)
 | .loop c=>(comp P n c).map .loop
 | .exit id=>some (.exit id)
 | .ret=>some .ret
 | .scope c=>comp P n c
 | _=>some .bad
mutual
def V.lt (m:Nat):V→Bool
 | .ptr id _=>decide (id<m)
 | .ep id _ _ _=>decide (id<m)
 | .sl id _ _ _=>decide (id<m)
 | .map id=>decide (id<m)
 | .bp id=>decide (id<m)
 | .bsl id _=>decide (id<m)
 | .rows _ rs=>V.ltss m rs
 | .agg cs=>V.lts m cs
 | .tup cs=>V.lts m cs
 | .fn _ cs=>V.lts m cs
 | .fnb _ cs=>V.lts m cs
 | .iface _ u=>u.lt m
 | _=>true
def V.lts (m:Nat):List V→Bool
 | []=>true
 | u::us=>u.lt m && V.lts m us
def V.ltss (m:Nat):List (List V)→Bool
 | []=>true
 | u::us=>V.lts m u && V.ltss m us
end
def Obj.lt (m:Nat):Obj→Bool
 | .box cs=>V.lts m cs
 | .slc _ rows=>V.ltss m rows
 | .map _ es=>es.all fun p=>p.k.lt m && p.v.lt m
 | .glob _ _=>true
 | .tbox _ cs=>V.lts m cs
 | .buf _ _=>true
def ltσ (m:Nat) (σ:Store):Bool:=σ.all (Obj.lt m)
def keep:List Nat→Env→Env
 | [],_=>[]
 | k::ks,e=>match eget e k with
  | some u=>(k,u)::keep ks e
  | none=>keep ks e
def ltE (m:Nat) (e:Env):Bool:=e.all fun p=>p.2.lt m
def St.cut (s:St) (ks:List Nat) (m:Nat):St:=⟨.go,keep ks s.e,s.σ.take m⟩
def CutOk (b:Nat) (s:St) (ks:List Nat) (m:Nat):Prop:=b≤m∧(s.σ.length≤m∨(ltE m (keep ks s.e)=true∧ltσ m (s.σ.take m)=true))
inductive Ex where
 | n
 | x (id:Nat)
 | r
def thenK (A:St→Prop) (Q:Ex→St→Prop):Ex→St→Prop
 | .n,s=>A s
 | .x i,s=>Q (.x i) s
 | .r,s=>Q .r s
def blockK (id:Nat) (Q:Ex→St→Prop):Ex→St→Prop
 | .n,s=>Q .n s
 | .x i,s=>if i=id then Q .n s else Q (.x i) s
 | .r,s=>Q .r s
def LoopV (b:Nat) (body:(Ex→St→Prop)→St→Prop) (Q:Ex→St→Prop) (s:St):Prop :=
 ∃ (ks:List Nat) (M:Store→Nat) (J:Nat→St→Prop) (n:Nat),CutOk b s ks (M s.σ)∧J n (s.cut ks (M s.σ))∧∀ n s',J n s'→body (thenK (fun s''=>CutOk b s'' ks (M s''.σ)∧∃ n',n'<n∧J n' (s''.cut ks (M s''.σ))) Q) s'
def vc (P:Program) (b:Nat):C→(Ex→St→Prop)→St→Prop
 | .skip,Q,s=>Q .n s
 | .ops l,Q,s=>vcOps P l (Q .n) s
 | .drawn l,Q,s=>vcDr P l (Q .n) s
 | .drawnP d zs l,Q,s=>vcDr P l (Q .n) ⟨s.t,setD s.e (some d) (.ptr s.σ.length 0),s.σ++[.box zs]⟩
 | .seq c d,Q,s=>vc P b c (thenK (vc P b d Q) Q) s
 | .cond o c d,Q,s=>condV (opv s.e o) (fun t=>vc P b c Q ⟨t,s.e,s.σ⟩) (fun t=>vc P b d Q ⟨t,s.e,s.σ⟩)
 | .block id c,Q,s=>vc P b c (blockK id Q) s
 | .loop c,Q,s=>LoopV b (vc P b c) Q s
 | .exit id,Q,s=>Q (.x id) s
 | .ret,Q,s=>Q .r s
 | .bad,_,_=>False
mutual
theorem VRel.cut {x:Cx} {m:Nat}:∀ (u:V) (v:Value),u.lt m=true→VRel x u v→VRel { x with σ:=x.σ.take m } u v
 | .t t,v,_,h=>by simpa only [VRel] using h
 | .nils,_,_,h=>by simpa [VRel] using h
 | .nilp,_,_,h=>by simpa [VRel] using h
 | .nilf,_,_,h=>by simpa [VRel] using h
 | .nilm,_,_,h=>by simpa [VRel] using h
 | .any,_,_,h=>by simpa [VRel] using h
 | .nili,_,_,h=>by simpa [VRel] using h
 | .pv cs,v,_,h=>by simpa only [VRel] using h
 | .ptr id off,v,hm,h=>by
  simp only [VRel,V.lt,decide_eq_true_eq] at h hm ⊢
  obtain ⟨cs,b,ho,h⟩:=h
  exact ⟨cs,b,by rw [List.getElem?_take,if_pos hm]; exact ho,h⟩
 | .ep id g i j,v,hm,h=>by
  simp only [VRel,V.lt,decide_eq_true_eq] at h hm ⊢
  obtain ⟨o,ho,h⟩:=h
  exact ⟨o,by rw [List.getElem?_take,if_pos hm]; exact ho,h⟩
 | .sl id g off len,v,hm,h=>by
  simp only [VRel,V.lt,decide_eq_true_eq] at h hm ⊢
  obtain ⟨o,ho,h⟩:=h
  exact ⟨o,by rw [List.getElem?_take,if_pos hm]; exact ho,h⟩
 | .map id,v,hm,h=>by
  simp only [VRel,V.lt,decide_eq_true_eq] at h hm ⊢
  obtain ⟨c,es,b,ho,h⟩:=h
  exact ⟨c,es,b,by rw [List.getElem?_take,if_pos hm]; exact ho,h⟩
 | .bp id,v,hm,h=>by
  simp only [VRel,V.lt,decide_eq_true_eq] at h hm ⊢
  obtain ⟨t,cs,b,ho,h⟩:=h
  exact ⟨t,cs,b,by rw [List.getElem?_take,if_pos hm]; exact ho,h⟩
 | .bsl id n,v,hm,h=>by
  simp only [VRel,V.lt,decide_eq_true_eq] at h hm ⊢
  obtain ⟨t,cs,ho,h⟩:=h
  exact ⟨t,cs,by rw [List.getElem?_take,if_pos hm]; exact ho,h⟩
 | .rows sz rs,v,hm,h=>by
  simp only [VRel,V.lt] at h hm ⊢
  obtain ⟨a,hv,h⟩:=h
  refine ⟨a,hv,h.imp id ?_⟩
  rintro ⟨b,off,ha,hf,hr⟩
  exact ⟨b,off,ha,hf,VRows.cut rs b off hm hr⟩
 | .agg cs,v,hm,h=>by
  simp only [VRel,V.lt] at h hm ⊢
  obtain ⟨l,hv,h⟩:=h
  exact ⟨l,hv,VsRel.cut cs l hm h⟩
 | .tup cs,v,hm,h=>by
  simp only [VRel,V.lt] at h hm ⊢
  obtain ⟨l,hv,h⟩:=h
  exact ⟨l,hv,VsRel.cut cs l hm h⟩
 | .fn f cs,v,hm,h=>by
  simp only [VRel,V.lt] at h hm ⊢
  obtain ⟨l,hv,h⟩:=h
  exact ⟨l,hv,VsRel.cut cs l hm h⟩
 | .fnb f cs,v,hm,h=>by
  simp only [VRel,V.lt] at h hm ⊢
  obtain ⟨l,hv,h⟩:=h
  exact ⟨l,hv,VsRel.cut cs l hm h⟩
 | .iface ty u,v,hm,h=>by
  simp only [VRel,V.lt] at h hm ⊢
  obtain ⟨c,hv,h⟩:=h
  exact ⟨c,hv,VRel.cut u c hm h⟩
theorem VsRel.cut {x:Cx} {m:Nat}:∀ (us:List V) (l:List Value),V.lts m us=true→VsRel x us l→VsRel { x with σ:=x.σ.take m } us l
 | [],_,_,h=>by simpa [VsRel] using h
 | u::us,l,hm,h=>by
  simp only [VsRel,V.lts,Bool.and_eq_true] at h hm ⊢
  obtain ⟨c,cs,hl,hu,h⟩:=h
  exact ⟨c,cs,hl,VRel.cut u c hm.1 hu,VsRel.cut us cs hm.2 h⟩
theorem VRows.cut {x:Cx} {m sz:Nat}:∀ (rows:List (List V)) (b off:Nat),V.ltss m rows=true→VRows x sz rows b off→VRows { x with σ:=x.σ.take m } sz rows b off
 | [],_,_,_,_=>by simp [VRows]
 | r::rs,b,off,hm,h=>by
  simp only [VRows,V.ltss,Bool.and_eq_true] at h hm ⊢
  exact ⟨h.1,VCells.cut r b off hm.1 h.2.1,VRows.cut rs b (off+sz) hm.2 h.2.2⟩
theorem VCells.cut {x:Cx} {m:Nat}:∀ (cs:List V) (b off:Nat),V.lts m cs=true→VCells x cs b off→VCells { x with σ:=x.σ.take m } cs b off
 | [],_,_,_,_=>by simp [VCells]
 | u::us,b,off,hm,h=>by
  simp only [VCells,V.lts,Bool.and_eq_true] at h hm ⊢
  obtain ⟨⟨c,hc,hx⟩,h⟩:=h
  exact ⟨⟨c,hc,VRel.cut u c hm.1 hx⟩,VCells.cut us b (off+1) hm.2 h⟩
end
theorem lts_flatten {m:Nat}:∀ {rows:List (List V)},V.ltss m rows=true→V.lts m rows.flatten=true
 | [],_=>by simp [V.lts]
 | r::rs,h=>by
  simp only [V.ltss,Bool.and_eq_true] at h
  have:=lts_flatten h.2
  have app:∀ {a b:List V},V.lts m a=true→V.lts m b=true→V.lts m (a++b)=true:=by
   intro a b ha hb
   induction a with
   | nil=>simpa using hb
   | cons u us ih =>
    simp only [V.lts,Bool.and_eq_true,List.cons_append] at ha ⊢
    exact ⟨ha.1,ih ha.2⟩
  simpa using app h.1 this
theorem MRel.cut {x:Cx} {m:Nat}:∀ {es:List ME} {l:List MapEntry},(es.all fun p=>p.k.lt m && p.v.lt m)=true→MRel x es l→MRel { x with σ:=x.σ.take m } es l
 | [],_,_,h=>by simpa [MRel] using h
 | m::es,l,hm,h=>by
  simp only [List.all_cons,Bool.and_eq_true] at hm
  simp only [MRel] at h ⊢
  obtain ⟨c,cs,hl,h1,h2,hb,h3⟩:=h
  exact ⟨c,cs,hl,VRel.cut _ _ hm.1.1 h1,VRel.cut _ _ hm.1.2 h2,hb,MRel.cut (by simpa using hm.2) h3⟩
theorem ORel.cut {x:Cx} {m id:Nat} {o:Obj} (hm:o.lt m=true) (h:ORel x id o):ORel { x with σ:=x.σ.take m } id o:=by
 cases o with
 | box cs =>
  rcases h with h | ⟨b,arr,ty,fr,h1,h2,h3,h4,h5⟩
  ·exact .inl h
  ·exact .inr ⟨b,arr,ty,fr,h1,h2,h3,h4,VsRel.cut _ _ hm h5⟩
 | slc sz rows =>
  rcases h with h | ⟨b,arr,ty,fr,l,h1,h2,h3,h4,h5,h6,h7,h8,h9⟩
  ·exact .inl h
  ·exact .inr ⟨b,arr,ty,fr,l,h1,h2,h3,h4,h5,h6,h7,VsRel.cut _ _ (lts_flatten hm) h8,h9⟩
 | map c es =>
  obtain ⟨b,arr,h1,h2,h3,h4⟩:=h
  exact ⟨b,arr,h1,h2,h3,MRel.cut hm h4⟩
 | glob b o=>exact h
 | tbox t cs =>
  obtain ⟨b,arr,h1,h2,h3,h4⟩:=h
  exact ⟨b,arr,h1,h2,h3,VsRel.cut _ _ hm h4⟩
 | buf et bs =>
  rcases h with h | ⟨b,arr,fz,h⟩
  ·exact .inl h
  ·exact .inr ⟨b,arr,fz,h⟩
theorem WRel.cut {x:Cx} {m:Nat} (hx:WRel x) (hm:ltσ m (x.σ.take m)=true):WRel { x with σ:=x.σ.take m } where
 objs:=fun id o ho=>by
  have ho':(x.σ.take m)[id]?=some o:=ho
  have hlt:o.lt m=true:=(List.all_eq_true.1 hm) o (List.mem_of_getElem? ho')
  rw [List.getElem?_take] at ho'
  split at ho'
  ·exact ORel.cut hlt (hx.objs id o ho')
  ·cases ho'
 inj:=fun i j b hij hi hj=>hx.inj i j b hij (by simp at hi; omega) (by simp at hj; omega)
 low:=hx.low
theorem Ext.cut {x0 x:Cx} {m:Nat} (h:Ext x0 x) (hm:x0.σ.length≤m):Ext x0 { x with σ:=x.σ.take m } :=
 ⟨h.os,h.tape,h.output,h.size,h.F,h.block,fun id o ho=>by
  obtain ⟨o',h1,h2⟩:=h.obj id o ho
  have:=(List.getElem?_eq_some_iff.1 ho).1
  exact ⟨o',by show (x.σ.take m)[id]?=some o'; rw [List.getElem?_take,if_pos (by omega)]; exact h1,h2⟩⟩
theorem get_keep {e:Env} {u:V} {k:Nat}:∀ {ks:List Nat},eget (keep ks e) k=some u→eget e k=some u
 | [],h=>by simp [keep,eget] at h
 | i::ks,h=>by
  simp only [keep] at h
  split at h
  ·rename_i w hw
   simp only [eget] at h
   split at h
   ·rename_i hk; subst hk; rw [hw]; exact h
   ·exact get_keep h
  ·exact get_keep h
theorem get_lt {m:Nat} {k:Nat} {u:V}:∀ {e:Env},ltE m e=true→eget e k=some u→u.lt m=true
 | [],_,h=>by simp [eget] at h
 | (i,w)::e,hm,h=>by
  simp only [ltE,List.all_cons,Bool.and_eq_true] at hm
  simp only [eget] at h
  split at h
  ·obtain rfl:=Option.some.inj h; exact hm.1
  ·exact get_lt (e:=e) hm.2 h
theorem cut_sound {x0 x:Cx} {e:Env} {tmps:Array Value} {ks:List Nat} {m:Nat} (h0:Ext x0 x) (hx:WRel x) (he:ERel x e tmps) (hc:CutOk x0.σ.length ⟨.go,e,x.σ⟩ ks m) :
  ∃ y,y.σ=x.σ.take m∧y.w=x.w∧Ext x0 y∧WRel y∧ERel y (keep ks e) tmps:=by
 obtain ⟨hb,hc | ⟨h1,h2⟩⟩:=hc
 ·refine ⟨x,(List.take_of_length_le hc).symm,rfl,h0,hx,fun k u hu=>he k u (get_keep hu)⟩
 ·refine ⟨{ x with σ:=x.σ.take m },rfl,rfl,h0.cut hb,hx.cut h2,fun k u hu=>?_⟩
  obtain ⟨v,hv,hr⟩:=he k u (get_keep hu)
  exact ⟨v,hv,VRel.cut u v (get_lt h1 hu) hr⟩
def exIs:Exit→Ex→Prop
 | .normal,.n=>True
 | .exit i,.x j=>i=j
 | .ret,.r=>True
 | _,_=>False
def AW (P:Program) (n:Nat) (c:Code) (x0:Cx) (Q:Ex→St→Prop) (s:St):Prop :=
 ∀ (x:Cx) (a:Act),x.σ=s.σ→Ext x0 x→WRel x→ERel x s.e a.tmps→a.tmps.size=n→a.defers=[]→c.wp P (fun ex a' w'=>∃ k,exIs ex k∧Post x0 n (Q k) a' w') a x.w
section
variable {P:Program} {n:Nat} {x0:Cx}
theorem cOps_some {ops:Array Oper}:∀ {os:List Oper} {ins:List In},cOps P ops n os=some ins→os.length=ins.length∧∀ (k:Nat) (o:Oper) (c:In),os[k]?=some o→ins[k]?=some c→cIn P ops n o=some c
 | [],ins,h=>by simp [cOps] at h; subst h; simp
 | o::os,ins,h=>by
  simp only [cOps] at h
  split at h
  ·rename_i i is h1 h2
   obtain rfl:=Option.some.inj h
   obtain ⟨k1,k2⟩:=cOps_some h2
   refine ⟨by simp [k1],fun k o' c ho hc=>?_⟩
   cases k with
   | zero=>simp at ho hc; subst ho; subst hc; exact h1
   | succ k=>exact k2 k o' c (by simpa using ho) (by simpa using hc)
  ·cases h
theorem vc_sound:∀ {code:Code} {c:C},comp P n code=some c→∀ {Q:Ex→St→Prop} {s:St},vc P x0.σ.length c Q s→AW P n code x0 Q s
 | .skip,c,hc,Q,s,hv=>by
  simp only [comp,Option.some.injEq] at hc; subst hc
  intro x a hσ h0 hx he hn hd
  exact wp_skip ⟨.n,trivial,x,s.e,by rw [hσ]; exact hv,he,hx,h0,rfl,hn,hd⟩
 | .label l,c,hc,Q,s,hv=>by
  simp only [comp,Option.some.injEq] at hc; subst hc
  intro x a hσ h0 hx he hn hd
  exact wp_label ⟨.n,trivial,x,s.e,by rw [hσ]; exact hv,he,hx,h0,rfl,hn,hd⟩
 | .ret,c,hc,Q,s,hv=>by
  simp only [comp,Option.some.injEq] at hc; subst hc
  intro x a hσ h0 hx he hn hd
  exact wp_ret ⟨.r,trivial,x,s.e,by rw [hσ]; exact hv,he,hx,h0,rfl,hn,hd⟩
 | .exit id,c,hc,Q,s,hv=>by
  simp only [comp,Option.some.injEq] at hc; subst hc
  intro x a hσ h0 hx he hn hd
  exact wp_exit ⟨.x id,rfl,x,s.e,by rw [hσ]; exact hv,he,hx,h0,rfl,hn,hd⟩
 | .region id ops draw,c,hc,Q,s,hv=>by
  simp only [comp,Option.some.injEq] at hc
  cases hg:(if draw then (if P.follows .mixedOrders=true then regD P n ops else none) else (cOps P ops n ops.toList).map C.ops) with
  | none=>rw [hg] at hc; subst hc; exact hv.elim
  | some c' =>
  rw [hg] at hc
  obtain rfl:c'=c:=hc
  split at hg
  ·rename_i hdraw
   split at hg
   ·rename_i hm
    intro x a hσ h0 hx he hn hd
    obtain rfl:draw=true:=by simpa using hdraw
    unfold regD at hg
    split at hg
    ·rename_i es hes
     obtain rfl:=Option.some.inj hg
     obtain ⟨k1,k2⟩:=compD_ok hes
     exact drawn_sound (K:=Q .n) k1 k2 hm (fun a w h=>⟨.n,trivial,h⟩) h0 hx he hn hd (by rw [hσ]; exact hv)
    split at hg
    ·rename_i r hr
     obtain rfl:=Option.some.inj hg
     obtain ⟨k1,k2,k3,k4,k5⟩:=firstP_ok hr
     exact drawnP_sound (K:=Q .n) k1 k2 k3 k4 k5 hm (fun a w h=>⟨.n,trivial,h⟩) h0 hx he hn hd (by rw [hσ]; exact hv)
    ·obtain ⟨es,hes,rfl⟩:=map_some hg
     obtain ⟨k1,k2⟩:=compD_ok hes
     exact drawn_sound (K:=Q .n) k1 k2 hm (fun a w h=>⟨.n,trivial,h⟩) h0 hx he hn hd (by rw [hσ]; exact hv)
   ·cases hg
  ·rename_i hdraw
   obtain ⟨ins,hins,rfl⟩:=map_some hg
   intro x a hσ h0 hx he hn hd
   obtain rfl:draw=false:=by simpa using hdraw
   obtain ⟨hlen,hget⟩:=cOps_some hins
   refine wp_region (vcOps_sound (K:=Q .n) (fun a w h=>⟨.n,trivial,h⟩) (List.range ops.size) ins (by simpa using hlen) ?_ x s.e a h0 hx he hn hd (by rw [hσ]; exact hv))
   intro k i c' hi hc'
   have hk:k<ops.size:=by
    have:=(List.getElem?_eq_some_iff.1 hi).1
    simpa using this
   have:i=k:=by
    rw [List.getElem?_range hk] at hi
    exact (Option.some.inj hi).symm
   subst this
   exact ⟨ops[i],by simp [hk],hget i ops[i] c' (by simp [hk]) hc'⟩
 | .seq p q,c,hc,Q,s,hv=>by
  simp only [comp] at hc
  split at hc
  ·rename_i c1 c2 h1 h2
   obtain rfl:=Option.some.inj hc
   intro x a hσ h0 hx he hn hd
   refine wp_seq (wp_mono (vc_sound h1 hv x a hσ h0 hx he hn hd) ?_)
   rintro ex a' w' ⟨k,hk,y,e',hq,he',hy,h0',rfl,hn',hd'⟩
   cases ex <;> cases k <;> simp only [exIs] at hk
   ·exact vc_sound h2 hq y a' rfl h0' hy he' hn' hd'
   ·exact ⟨.x _,hk,y,e',hq,he',hy,h0',rfl,hn',hd'⟩
   ·exact ⟨.r,trivial,y,e',hq,he',hy,h0',rfl,hn',hd'⟩
  ·cases hc
 | .cond o p q,c,hc,Q,s,hv=>by
  simp only [comp] at hc
  split at hc
  ·rename_i o' c1 c2 h0' h1 h2
   obtain rfl:=Option.some.inj hc
   intro x a hσ h0 hx he hn hd
   simp only [vc] at hv
   obtain ⟨v,hov,hv1,hv2⟩:=condV_some hv
   have hb:=rel_bool (opv_rel he h0' hov)
   refine wp_cond_split hb (fun ht=>?_) (fun hf=>?_)
   ·exact vc_sound h1 (hv1 ht) x a hσ h0 hx he hn hd
   ·exact vc_sound h2 (hv2 hf) x a hσ h0 hx he hn hd
  ·cases hc
 | .scope p,c,hc,Q,s,hv=>by
  simp only [comp] at hc
  intro x a hσ h0 hx he hn hd
  refine wp_scope_straight (wp_mono (vc_sound hc hv x a hσ h0 hx he hn hd) ?_)
  rintro ex a' w' ⟨k,hk,h⟩
  cases ex <;> cases k <;> simp only [exIs] at hk
  ·exact ⟨.n,trivial,h⟩
  ·exact ⟨.x _,hk,h⟩
  ·exact ⟨.r,trivial,h⟩
 | .block id p,c,hc,Q,s,hv=>by
  simp only [comp] at hc
  obtain ⟨c1,h1,rfl⟩:=map_some hc
  intro x a hσ h0 hx he hn hd
  refine wp_block (wp_mono (vc_sound h1 hv x a hσ h0 hx he hn hd) ?_)
  rintro ex a' w' ⟨k,hk,y,e',hq,he',hy,h0',rfl,hn',hd'⟩
  cases ex <;> cases k <;> simp only [exIs] at hk
  ·exact ⟨.n,trivial,y,e',hq,he',hy,h0',rfl,hn',hd'⟩
  ·subst hk
   simp only [Exit.inBlock]
   simp only [blockK] at hq
   split
   ·rename_i hid
    simp only [hid,if_true] at hq
    exact ⟨.n,trivial,y,e',hq,he',hy,h0',rfl,hn',hd'⟩
   ·rename_i hid
    simp only [hid,if_false] at hq
    exact ⟨.x _,rfl,y,e',hq,he',hy,h0',rfl,hn',hd'⟩
  ·exact ⟨.r,trivial,y,e',hq,he',hy,h0',rfl,hn',hd'⟩
 | .loop p,c,hc,Q,s,hv=>by
  simp only [comp] at hc
  obtain ⟨c1,h1,rfl⟩:=map_some hc
  intro x a hσ h0 hx he hn hd
  simp only [vc] at hv
  obtain ⟨ks,m,J,n0,hcut,hJ,hround⟩:=hv
  obtain ⟨y,hyσ,hyw,h0y,hy,hey⟩:=cut_sound h0 hx he (by rw [hσ]; exact hcut)
  rw [← hyw]
  refine wp_loop_ghost (fun k a w=>∃ (s:St) (x:Cx),J k s∧x.w=w∧x.σ=s.σ∧Ext x0 x∧WRel x∧ERel x s.e a.tmps∧a.tmps.size=n∧a.defers=[]) n0
   ⟨s.cut ks (m s.σ),y,hJ,rfl,by rw [hyσ,hσ]; rfl,h0y,hy,hey,hn,hd⟩ ?_
  rintro k a w ⟨s',x,hJ',rfl,hσ',h0',hx',he',hn',hd'⟩
  refine wp_mono (vc_sound h1 (hround k s' hJ') x a hσ' h0' hx' he' hn' hd') ?_
  rintro ex a' w' ⟨k,hk,y,e',hq,he',hy,h0',rfl,hn',hd'⟩
  cases ex <;> cases k <;> simp only [exIs] at hk
  ·obtain ⟨hc1,n',hlt,hJ1⟩:=hq
   obtain ⟨z,hzσ,hzw,h0z,hz,hez⟩:=cut_sound h0' hy he' hc1
   exact ⟨n',hlt,_,z,hJ1,hzw,hzσ,h0z,hz,hez,hn',hd'⟩
  ·exact ⟨.x _,hk,y,e',hq,he',hy,h0',rfl,hn',hd'⟩
  ·exact ⟨.r,trivial,y,e',hq,he',hy,h0',rfl,hn',hd'⟩
 | .rangeFunc _ _ _ _,c,hc,_,_,hv=>by
  simp only [comp,Option.some.injEq] at hc; subst hc
  exact hv.elim
 | .goto _,c,hc,_,_,hv=>by
  simp only [comp,Option.some.injEq] at hc; subst hc
  exact hv.elim
 | .refuse _,c,hc,_,_,hv=>by
  simp only [comp,Option.some.injEq] at hc; subst hc
  exact hv.elim
end
end Go.Ab
end
section
namespace Go.Ab
inductive RS where
 | tmp (k:Nat)
 | cell (k:Nat) (n:Option Nat)
def resSlots (P:Program):List ResultVar→Option (List RS)
 | []=>some []
 | .tmp t::rs=>(resSlots P rs).map (.tmp t::·)
 | .cell a t::rs=>match spanOf P t,resSlots P rs with
  | some n,some rs=>some (.cell a n::rs)
  | _,_=>none
def getsK (e:Env) (σ:Store):Tok→List RS→(Tok→List V→Prop)→Prop
 | t,[],K=>K t []
 | _,.tmp k::rs,K=>onV (eget e k) fun t u=>getsK e σ t rs fun t us=>K t (u::us)
 | _,.cell k n::rs,K=>onV (eget e k) fun t a=>evLoad n σ a fun _ u=>getsK e σ t rs fun t us=>K t (u::us)
def mkRes:List V→V
 | [u]=>u
 | us=>.tup us
def retV (b:Nat) (R:V→Store→Prop) (σ:Store):Option (List V)→Prop
 | none=>False
 | some us=>∃ m,(b≤m∧(σ.length≤m∨((mkRes us).lt m=true∧ltσ m (σ.take m)=true)))∧R (mkRes us) (σ.take m)
def retK (rs:List RS) (b:Nat) (R:V→Store→Prop):Ex→St→Prop
 | .n,s=>getsK s.e s.σ .go rs fun _ us=>retV b R s.σ (some us)
 | .r,s=>getsK s.e s.σ .go rs fun _ us=>retV b R s.σ (some us)
 | .x _,_=>False
def env0:Nat→List V→Env
 | _,[]=>[]
 | k,u::us=>(k,u)::env0 (k+1) us
mutual
theorem VRel.ltσ {x:Cx}:∀ (u:V) (v:Value),VRel x u v→u.lt x.σ.length=true
 | .t t,v,h=>rfl
 | .nils,_,h=>rfl
 | .nilp,_,h=>rfl
 | .nilf,_,h=>rfl
 | .nilm,_,h=>rfl
 | .any,_,h=>rfl
 | .nili,_,h=>rfl
 | .pv cs,v,h=>rfl
 | .ptr id off,v,h=>by
  simp only [VRel,V.lt,decide_eq_true_eq] at h ⊢
  obtain ⟨cs,b,ho,h⟩:=h
  exact (List.getElem?_eq_some_iff.1 ho).1
 | .ep id g i j,v,h=>by
  simp only [VRel,V.lt,decide_eq_true_eq] at h ⊢
  obtain ⟨o,ho,h⟩:=h
  exact (List.getElem?_eq_some_iff.1 ho).1
 | .sl id g off len,v,h=>by
  simp only [VRel,V.lt,decide_eq_true_eq] at h ⊢
  obtain ⟨o,ho,h⟩:=h
  exact (List.getElem?_eq_some_iff.1 ho).1
 | .map id,v,h=>by
  simp only [VRel,V.lt,decide_eq_true_eq] at h ⊢
  obtain ⟨c,es,b,ho,h⟩:=h
  exact (List.getElem?_eq_some_iff.1 ho).1
 | .bp id,v,h=>by
  simp only [VRel,V.lt,decide_eq_true_eq] at h ⊢
  obtain ⟨t,cs,b,ho,h⟩:=h
  exact (List.getElem?_eq_some_iff.1 ho).1
 | .bsl id n,v,h=>by
  simp only [VRel,V.lt,decide_eq_true_eq] at h ⊢
  obtain ⟨t,cs,ho,h⟩:=h
  exact (List.getElem?_eq_some_iff.1 ho).1
 | .rows sz rs,v,h=>by
  simp only [VRel,V.lt] at h ⊢
  obtain ⟨a,hv,h | ⟨b,off,ha,hf,hr⟩⟩:=h
  ·have:rs=[]:=by simpa using h
   subst this
   rfl
  ·exact VRows.ltσ rs b off hr
 | .agg cs,v,h=>by
  simp only [VRel,V.lt] at h ⊢
  obtain ⟨l,hv,h⟩:=h
  exact VsRel.ltσ cs l h
 | .tup cs,v,h=>by
  simp only [VRel,V.lt] at h ⊢
  obtain ⟨l,hv,h⟩:=h
  exact VsRel.ltσ cs l h
 | .fn f cs,v,h=>by
  simp only [VRel,V.lt] at h ⊢
  obtain ⟨l,hv,h⟩:=h
  exact VsRel.ltσ cs l h
 | .fnb f cs,v,h=>by
  simp only [VRel,V.lt] at h ⊢
  obtain ⟨l,hv,h⟩:=h
  exact VsRel.ltσ cs l h
 | .iface ty u,v,h=>by
  simp only [VRel,V.lt] at h ⊢
  obtain ⟨c,hv,h⟩:=h
  exact VRel.ltσ u c h
theorem VsRel.ltσ {x:Cx}:∀ (us:List V) (l:List Value),VsRel x us l→V.lts x.σ.length us=true
 | [],_,h=>by simp [V.lts]
 | u::us,l,h=>by
  simp only [VsRel,V.lts,Bool.and_eq_true] at h ⊢
  obtain ⟨c,cs,hl,hu,h⟩:=h
  exact ⟨VRel.ltσ u c hu,VsRel.ltσ us cs h⟩
theorem VRows.ltσ {x:Cx} {sz:Nat}:∀ (rows:List (List V)) (b off:Nat),VRows x sz rows b off→V.ltss x.σ.length rows=true
 | [],_,_,_=>by simp [V.ltss]
 | r::rs,b,off,h=>by
  simp only [VRows,V.ltss,Bool.and_eq_true] at h ⊢
  exact ⟨VCells.ltσ r b off h.2.1,VRows.ltσ rs b (off+sz) h.2.2⟩
theorem VCells.ltσ {x:Cx}:∀ (cs:List V) (b off:Nat),VCells x cs b off→V.lts x.σ.length cs=true
 | [],_,_,_=>by simp [V.lts]
 | u::us,b,off,h=>by
  simp only [VCells,V.lts,Bool.and_eq_true] at h ⊢
  obtain ⟨⟨c,hc,hx⟩,h⟩:=h
  exact ⟨VRel.ltσ u c hx,VCells.ltσ us b (off+1) h⟩
end
theorem flatten_lts {m:Nat}:∀ {rows:List (List V)},V.lts m rows.flatten=true→V.ltss m rows=true
 | [],_=>by simp [V.ltss]
 | r::rs,h=>by
  have app:∀ {a b:List V},V.lts m (a++b)=true→V.lts m a=true∧V.lts m b=true:=by
   intro a b
   induction a with
   | nil=>intro h; exact ⟨rfl,h⟩
   | cons u us ih =>
    intro h
    simp only [V.lts,Bool.and_eq_true,List.cons_append] at h ⊢
    exact ⟨⟨h.1,(ih h.2).1⟩,(ih h.2).2⟩
  have h':=app (show V.lts m (r++rs.flatten)=true by simpa using h)
  simp only [V.ltss,Bool.and_eq_true]
  exact ⟨h'.1,flatten_lts h'.2⟩
theorem MRel.ltσ {x:Cx}:∀ {es:List ME} {l:List MapEntry},MRel x es l→(es.all fun p=>p.k.lt x.σ.length && p.v.lt x.σ.length)=true
 | [],_,_=>rfl
 | m::es,l,h=>by
  simp only [MRel] at h
  obtain ⟨c,cs,hl,h1,h2,hb,h3⟩:=h
  simp only [List.all_cons,Bool.and_eq_true]
  exact ⟨⟨VRel.ltσ _ _ h1,VRel.ltσ _ _ h2⟩,by simpa using MRel.ltσ h3⟩
theorem zero_lts {m:Nat}:∀ {cs:List V},cs.all V.zero=true→V.lts m cs=true
 | [],_=>rfl
 | c::cs,h=>by
  simp only [List.all_cons,Bool.and_eq_true] at h
  have hc:c.lt m=true:=by
   have:=h.1
   cases c <;> first | rfl | (simp [V.zero] at this)
  simp only [V.lts,hc,zero_lts h.2,Bool.and_true]
theorem WRel.closed {x:Cx} (hx:WRel x):ltσ x.σ.length x.σ=true:=by
 refine List.all_eq_true.2 fun o ho=>?_
 obtain ⟨id,hid,rfl⟩:=List.getElem_of_mem ho
 have h:=hx.objs id x.σ[id] (by simp [hid])
 cases hob:x.σ[id] with
 | box cs =>
  rw [hob] at h
  rcases h with ⟨_,h⟩ | ⟨b,arr,ty,fr,h1,h2,h3,h4,h5⟩
  ·exact zero_lts h
  ·exact VsRel.ltσ _ _ h5
 | slc sz rows =>
  rw [hob] at h
  rcases h with ⟨h,_⟩ | ⟨b,arr,ty,fr,l,h1,h2,h3,h4,h5,h6,h7,h8,h9⟩
  ·rcases h with rfl | ⟨_,n,rfl⟩
   ·rfl
   ·have h:∀ n m,V.ltss m (List.replicate n [])=true:=fun n m=>by
     induction n with
     | zero=>rfl
     | succ n ih=>simp only [List.replicate_succ,V.ltss,V.lts,ih]; rfl
    exact h n _
  ·exact flatten_lts (VsRel.ltσ _ _ h8)
 | map c es =>
  rw [hob] at h
  obtain ⟨b,arr,h1,h2,h3,h4⟩:=h
  exact MRel.ltσ h4
 | glob b o=>rfl
 | tbox t cs =>
  rw [hob] at h
  obtain ⟨b,arr,h1,h2,h3,h4⟩:=h
  exact VsRel.ltσ _ _ h4
 | buf et bs=>rfl
section
variable {P:Program}
theorem env0_get {x:Cx}:∀ {us:List V} {l:List Value} {j:Nat} {tmps:List Value},VsRel x us l→(∀ k v,l[k]?=some v→tmps[j+k]?=some v)→∀ k u,eget (env0 j us) k=some u→∃ v,tmps[k]?=some v∧VRel x u v
 | [],_,_,_,_,_,k,u,h=>by simp [env0,eget] at h
 | w::us,l,j,tmps,hl,ht,k,u,h=>by
  simp only [VsRel] at hl
  obtain ⟨c,cs,rfl,hc,hcs⟩:=hl
  simp only [env0,eget] at h
  split at h
  ·rename_i hk; subst hk
   obtain rfl:=Option.some.inj h
   exact ⟨c,by simpa using ht 0 c rfl,hc⟩
  ·exact env0_get (j:=j+1) hcs (fun i v hi=>by rw [show j+1+i=j+(i+1) by omega]; exact ht (i+1) v (by simpa using hi)) k u h
def resVal:List Value→Value
 | [v]=>v
 | vs=>.tuple vs.toArray
theorem load_run {x:Cx} (hx:WRel x) {v:Value} {u:V} (hr:VRel x u v) {t:TypeId} {n:Option Nat} (hs:spanOf P t=some n) {K:Tok→V→Prop} (hk:evLoad n x.σ u K) :
  ∃ ad v' u',v=.pointer (some ad)∧(loadVar t ad).run P x.w=.ok v' x.w∧VRel x u' v'∧K .go u':=by
 have fin:∀ {b off:Nat} {cs:List V} {l:List Value},v=.pointer (some ⟨b,off,none⟩)→VsRel x cs l→(∀ j v,l[j]?=some v→x.w.cell? ⟨b,off+j,none⟩=some v)→ldV n cs K →
   ∃ ad v' u',v=.pointer (some ad)∧(loadVar t ad).run P x.w=.ok v' x.w∧VRel x u' v'∧K .go u':=by
  intro b off cs l hv hl hcell hk
  obtain ⟨v,u,hrun,hru,hk⟩:=ld_sound hs hl hcell hk
  exact ⟨_,v,u,hv,hrun,hru,hk⟩
 unfold evLoad at hk
 split at hk
 ·rename_i cs
  simp only [VRel] at hr
  obtain ⟨b,off,hv,hF,hc⟩:=hr
  obtain ⟨l,hl,hcell⟩:=TCells.list (F:=x.F) hc
  exact fin hv hl hcell (ldT_ldV hk)
 ·rename_i id off
  obtain ⟨cs,ho,hk⟩:=onBox_some hk
  simp only [VRel] at hr
  obtain ⟨cs',b,ho',hb,hv⟩:=hr
  obtain ⟨arr,ty,fr,h1,h2,h3,h4,h5⟩:=box_cells hx ho hb
  exact fin hv (h4.drop off) (fun j v hj=>by rw [h5]; rw [List.getElem?_drop] at hj; simpa using hj) hk
 ·rename_i id g i j
  obtain ⟨sz,rows,ho,hk2⟩:=onSlc_some hk
  clear hk
  obtain ⟨hg,hk2⟩:=hk2
  subst hg
  obtain ⟨r,hrow,hk⟩:=onRow_some hk2
  simp only [VRel] at hr
  obtain ⟨ob,ho',_,ad,hv,hr⟩:=hr
  rw [ho] at ho'
  obtain rfl:=Option.some.inj ho'
  obtain ⟨b,sz',rows',hb,heq,rfl⟩:=hr rfl
  cases heq
  obtain ⟨_,h1⟩ | ⟨b',arr,ty,fr,l,h1,h2,h3,h4,h5,h6,h7,h8,h9⟩:=hx.objs id _ ho
  ·rw [h1] at hb; cases hb
  ·rw [h1] at hb
   obtain rfl:=Option.some.inj hb
   have hc:=rows_get h7 h8 hrow
   refine fin (l:=((l.drop (i * sz)).take sz).drop j) hv (hc.drop j) (fun k v hk'=>?_) hk
   have hk2:l[i * sz+j+k]?=some v:=by
    rw [List.getElem?_drop,List.getElem?_take] at hk'
    split at hk'
    ·rw [List.getElem?_drop] at hk'
     rw [show i * sz+j+k=i * sz+(j+k) by omega]
     exact hk'
    ·cases hk'
   have:arr.toList[i * sz+j+k]?=some v:=by
    obtain ⟨⟨m,hm⟩,_⟩:=h9
    rw [← hm,List.getElem?_append_left (List.getElem?_eq_some_iff.1 hk2).1]
    exact hk2
   simp only [World.cell?,h3]
   simpa using this
 ·exact hk.elim
def resOne (tmps:Array Value):ResultVar→Sem Value
 | .tmp t=>pure (tmps.getD t undef)
 | .cell a t=>do loadVar t (← asAddr (tmps.getD a undef))
theorem results_eq (fn:Func) (tmps:Array Value):results fn tmps=(do
  let vs ← fn.results.mapM (resOne tmps)
  pure (if h:vs.size=1 then vs[0] else Value.tuple vs)):=by
 have:resOne tmps=(fun x=>match x with
   | ResultVar.tmp t=>pure (tmps.getD t undef)
   | ResultVar.cell a t=>do loadVar t (← asAddr (tmps.getD a undef))):=by
  funext r; cases r <;> rfl
 rw [this]
 rfl
theorem results_run {x:Cx} (hx:WRel x) {e:Env} {tmps:Array Value} (he:ERel x e tmps) {fn:Func} {rs:List RS} (h:resSlots P fn.results.toList=some rs) {K:Tok→List V→Prop} (hk:getsK e x.σ .go rs K) :
  ∃ us l,K .go us∧VsRel x us l∧(results fn tmps).run P x.w=.ok (resVal l) x.w:=by
 have key:∀ (g:ResultVar→Sem Value),(∀ t,g (.tmp t)=pure (tmps.getD t undef))→(∀ a t,g (.cell a t)=(do loadVar t (← asAddr (tmps.getD a undef))))→∀ (l:List ResultVar) (rs:List RS),resSlots P l=some rs→∀ K:Tok→List V→Prop,getsK e x.σ .go rs K →
   ∃ us vs,K .go us∧VsRel x us vs∧(l.mapM g).run P x.w=.ok vs x.w:=by
  intro g hg hg2 l
  induction l with
  | nil=>intro rs h K hk; simp [resSlots] at h; subst h; exact ⟨[],[],hk,by simp [VsRel],by simp⟩
  | cons r l ih =>
   intro rs h K hk
   cases r with
   | cell a t =>
    simp only [resSlots] at h
    split at h
    ·rename_i n rs' hs h'
     obtain rfl:=Option.some.inj h
     simp only [getsK] at hk
     obtain ⟨u,hu,hk1⟩:=onV_some hk
     obtain ⟨v,hv,hr⟩:=he a u hu
     obtain ⟨ad,v',u',rfl,hrun,hru,hk2⟩:=load_run hx hr hs hk1
     obtain ⟨us,vs,h1,h2,h3⟩:=ih rs' h' _ hk2
     refine ⟨u'::us,v'::vs,h1,by simp only [VsRel]; exact ⟨_,_,rfl,hru,h2⟩,?_⟩
     have hd:tmps.getD a undef=.pointer (some ad):=by simp only [Array.getD_eq_getD_getElem?,hv,Option.getD_some]
     simp only [List.mapM_cons,hg2,hd,asAddr,Sem.run_bind,Sem.run_pure,Result.andThen_ok,hrun,h3]
    ·cases h
   | tmp t =>
    simp only [resSlots] at h
    obtain ⟨rs',h',rfl⟩:=map_some h
    simp only [getsK] at hk
    obtain ⟨u,hu,hk1⟩:=onV_some hk
    obtain ⟨v,hv,hr⟩:=he t u hu
    obtain ⟨us,vs,h1,h2,h3⟩:=ih rs' h' _ hk1
    refine ⟨u::us,v::vs,h1,by simp only [VsRel]; exact ⟨_,_,rfl,hr,h2⟩,?_⟩
    have hd:tmps.getD t undef=v:=by simp only [Array.getD_eq_getD_getElem?,hv,Option.getD_some]
    simp only [List.mapM_cons,hg,hd,Sem.run_bind,Sem.run_pure,Result.andThen_ok,h3]
 obtain ⟨us,vs,h1,h2,h3⟩:=key (resOne tmps) (fun t=>rfl) (fun a t=>rfl) _ _ h K hk
 refine ⟨us,vs,h1,h2,?_⟩
 rw [results_eq]
 rw [Array.mapM_eq_mapM_toList,Sem.run_bind,Sem.run_map,h3]
 simp only [Result.andThen_ok]
 match vs with
 | []=>simp [resVal]
 | [r]=>simp [resVal]
 | r::r'::rs=>simp [resVal]
theorem mkRes_rel {x:Cx} {us:List V} {l:List Value} (h:VsRel x us l):VRel x (mkRes us) (resVal l):=by
 match us,l,h with
 | [],l,h=>simp only [VsRel] at h; subst h; simp only [mkRes,VRel]; exact ⟨[],rfl,rfl⟩
 | [u],l,h =>
  simp only [VsRel] at h
  obtain ⟨c,cs,rfl,hc,rfl⟩:=h
  exact hc
 | u::u'::us,l,h =>
  have h':=h
  simp only [VsRel] at h
  obtain ⟨c,cs,rfl,hc,d,ds,rfl,_⟩:=h
  simp only [mkRes,VRel]
  exact ⟨_,rfl,h'⟩
theorem acalls_of {f : FuncId} {fn : Func} {code : Code} {c : C} {n : Nat} {rs : List RS} {args : List V} {σ : Store} {R : V → Store → Prop} (hf : P.funcs[f]? = some fn) (hname : (fn.name == "runtime.NumGoroutine") = false) (hb : fn.body = some code)
  (hn:fn.ntmps=n) (hc:comp P n code=some c) (hrs:resSlots P fn.results.toList=some rs) (hargs:args.length≤n) (h:ltσ σ.length σ=true→vc P σ.length c (retK rs σ.length R) ⟨.go,env0 0 args,σ⟩):ACalls P f args σ R:=by
 refine ⟨⟨fn,hf,hname,by rw [hb]; rfl⟩,fun x cargs hσ hx ha=>?_⟩
 subst hσ
 have hlen:=ha.length
 refine calls_of_wp hf hb ?_
 rw [hn]
 refine wp_mono (vc_sound (x0:=x) hc (h hx.closed) x _ rfl (Ext.refl x) hx ?_ (by simp; omega) rfl) ?_
 ·intro k u hu
  obtain ⟨v,hv,hr⟩:=env0_get (tmps:=cargs) (j:=0) ha (fun k v h=>by simpa using h) k u hu
  refine ⟨v,?_,hr⟩
  have hk:=(List.getElem?_eq_some_iff.1 hv).1
  rw [Array.getElem?_append_left (by simpa using hk)]
  simpa using hv
 ·rintro ex a' w' ⟨k,hk,y,e',hq,he',hy,h0',rfl,hn',hd'⟩
  have fin:(getsK e' y.σ .go rs fun _ us=>retV x.σ.length R y.σ (some us))→a'.defers=[]∧∃ v,(results fn a'.tmps).run P y.w=.ok v y.w∧∃ v' y' r,Ending.returned v=.returned v'∧y'.w=y.w∧R r y'.σ∧VRel y' r v'∧WRel y'∧Ext x y':=by
   intro hq
   obtain ⟨us,l,⟨m,⟨hbm,hm⟩,hR⟩,hl,hrun⟩:=results_run hy he' hrs hq
   have hrel:=mkRes_rel hl
   rcases hm with hm | ⟨hm1,hm2⟩
   ·rw [List.take_of_length_le hm] at hR
    exact ⟨hd',_,hrun,_,y,mkRes us,rfl,rfl,hR,hrel,hy,h0'⟩
   ·exact ⟨hd',_,hrun,_,{ y with σ:=y.σ.take m },mkRes us,rfl,rfl,hR,VRel.cut _ _ hm1 hrel,hy.cut hm2,h0'.cut hbm⟩
  cases ex <;> cases k <;> simp only [exIs] at hk
  ·exact fin hq
  ·exact hq.elim
  ·exact fin hq
end
end Go.Ab
end
