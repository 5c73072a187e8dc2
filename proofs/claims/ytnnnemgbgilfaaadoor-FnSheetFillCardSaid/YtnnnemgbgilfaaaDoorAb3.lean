/- Rewriting rules by which the conditions of a function's code are worked out, one open place at a time. Conditions: none (a library of lemmas). -/
/- How a law's arguments are opened into trees. Conditions: none (a library of lemmas). -/
/- From a law's contract to what its row asks. Conditions: none (a library of lemmas). -/
/- A function that only reads, proved over frozen trees, may be called with slices of the program's own. Conditions: none (a library of lemmas). -/
/- The same for functions whose result is made anew: proved over frozen trees, called with slices of the program's own. Conditions: none (a library of lemmas). -/
/- Small laws for loops that make objects. Conditions: none (a library of lemmas). -/
/- Loops with a ghost state; a tree's size; values that are all one's own. Conditions: none (a library of lemmas). -/
/- The rewriting rules of our logic as one. Conditions: none (a library of lemmas). -/
/- The laws' own helpers (sizes, copies, comparing) for lists, proved once for all element types. Conditions: none (a library of lemmas). -/
/- Small rules for what laws.py prints. Conditions: none (a library of lemmas). -/
/- Lists of strings and of numbers as trees; when a list's tree is that of a list of structs. Conditions: none (a library of lemmas). -/
/- A cut's head, told from its words, so that no kernel walks the text twice. Conditions: none (a library of lemmas). -/
import Derived.Test.YtnnnemgbgilfaaaDoorAb2
import Derived.Deep.Slices
import Derived.ProofKit
import Derived.WalkKit
import Derived.OpenShut
import Derived.ChangeOld
import Derived.SizedLaws
import Derived.Carry
import Derived.IntWalk
import Derived.JoinedOf
set_option linter.unusedSimpArgs false
set_option linter.unusedVariables false
set_option linter.defProp false
section
namespace Go.Ab
section
variable {P:Program} {b:Nat} {Q:Ex→St→Prop} {K A:St→Prop} {e:Env} {σ:Store} {d:Option Nat} {g:Option (Nat × Bool)}
theorem q_vc_skip:vc P b .skip Q ⟨.go,e,σ⟩=Q .n ⟨.go,e,σ⟩:=propext Iff.rfl
theorem q_vc_ops (l:List In):vc P b (.ops l) Q ⟨.go,e,σ⟩=vcOps P l (Q .n) ⟨.go,e,σ⟩:=propext Iff.rfl
theorem q_vc_bad {s:St}:vc P b .bad Q s=False:=rfl
theorem q_vc_seq (c d:C):vc P b (.seq c d) Q ⟨.go,e,σ⟩=vc P b c (thenK (vc P b d Q) Q) ⟨.go,e,σ⟩:=propext Iff.rfl
theorem q_vc_cond (o:O) (c d:C):vc P b (.cond o c d) Q ⟨.go,e,σ⟩=condV (opv e o) (fun t=>vc P b c Q ⟨t,e,σ⟩) (fun t=>vc P b d Q ⟨t,e,σ⟩):=propext Iff.rfl
theorem q_vc_block (i:Nat) (c:C):vc P b (.block i c) Q ⟨.go,e,σ⟩=vc P b c (blockK i Q) ⟨.go,e,σ⟩:=propext Iff.rfl
theorem q_vc_loop (c:C):vc P b (.loop c) Q ⟨.go,e,σ⟩=LoopV b (vc P b c) Q ⟨.go,e,σ⟩:=propext Iff.rfl
theorem q_vc_exit (i:Nat):vc P b (.exit i) Q ⟨.go,e,σ⟩=Q (.x i) ⟨.go,e,σ⟩:=propext Iff.rfl
theorem q_vc_ret:vc P b .ret Q ⟨.go,e,σ⟩=Q .r ⟨.go,e,σ⟩:=propext Iff.rfl
theorem q_vcOps_nil:vcOps P [] K ⟨.go,e,σ⟩=K ⟨.go,e,σ⟩:=propext Iff.rfl
theorem q_vcOps_cons (s:Nat) (w:Bool) (i:I) (is:List In):vcOps P (⟨d,some ⟨s,w⟩,i⟩::is) K ⟨.go,e,σ⟩=wantV (eget e s) w (bothK d e σ (runIn P ⟨d,some ⟨s,w⟩,i⟩ (vcOps P is K)) (vcOps P is K)):=propext Iff.rfl
theorem q_vcOps_step (i:I) (is:List In):vcOps P (⟨d,none,i⟩::is) K ⟨.go,e,σ⟩=runIn P ⟨d,none,i⟩ (vcOps P is K) ⟨.go,e,σ⟩:=propext Iff.rfl
theorem q_vc_drawn (l:List Ent):vc P b (.drawn l) Q ⟨.go,e,σ⟩=vcDr P l (Q .n) ⟨.go,e,σ⟩:=propext Iff.rfl
theorem q_vc_drawnP (d:Nat) (zs:List V) (l:List Ent):vc P b (.drawnP d zs l) Q ⟨.go,e,σ⟩=vcDr P l (Q .n) ⟨.go,setD e (some d) (.ptr σ.length 0),σ++[.box zs]⟩:=propext Iff.rfl
theorem q_vcDr_nil:vcDr P [] K ⟨.go,e,σ⟩=K ⟨.go,e,σ⟩:=propext Iff.rfl
theorem q_vcDr_cons (j:Nat) (f:Bool) (s:Nat) (w:Bool) (i:I) (rr:List In) (is:List Ent):vcDr P (⟨j,f,⟨d,some ⟨s,w⟩,i⟩,rr⟩::is) K ⟨.go,e,σ⟩=wantV (eget e s) w (bothK d e σ (runIn P ⟨d,some ⟨s,w⟩,i⟩ (drK f rr e σ (vcDr P is K))) (vcDr P is K)):=propext Iff.rfl
theorem q_vcDr_step (j:Nat) (f:Bool) (i:I) (rr:List In) (is:List Ent):vcDr P (⟨j,f,⟨d,none,i⟩,rr⟩::is) K ⟨.go,e,σ⟩=runIn P ⟨d,none,i⟩ (drK f rr e σ (vcDr P is K)) ⟨.go,e,σ⟩:=propext Iff.rfl
theorem q_drK_f (rr:List In) (e0:Env) (τ:Store) (s:St):drK false rr e0 τ K s=K s:=propext ⟨fun h=>h.2,fun h=>⟨fun hh=>(by cases hh),h⟩⟩
theorem q_drK_t (rr:List In) (e0:Env) (τ:Store):drK true rr e0 τ K ⟨.go,e,σ⟩=((preσ τ σ∨reread e0 σ rr)∧K ⟨.go,e,σ⟩):=propext ⟨fun h=>⟨h.1 rfl,h.2⟩,fun h=>⟨fun _=>h.1,h.2⟩⟩
theorem q_pre_same:preσ σ σ=True:=eq_true ⟨[],by simp⟩
theorem q_pre_app (τ:Store):preσ σ (σ++τ)=True:=eq_true ⟨τ,rfl⟩
theorem q_pre_nil:preσ [] σ=True:=eq_true ⟨σ,rfl⟩
theorem q_pre_apps (τ τ':Store):preσ (σ++τ) (σ++τ')=preσ τ τ':=propext ⟨fun ⟨x,h⟩=>⟨x,by rw [List.append_assoc] at h; exact List.append_cancel_left h⟩,fun ⟨x,h⟩=>⟨x,by rw [h,List.append_assoc]⟩⟩
theorem q_pre_cons (o:Obj) (τ τ':Store):preσ (o::τ) (o::τ')=preσ τ τ':=propext ⟨fun ⟨x,h⟩=>⟨x,(List.cons.inj h).2⟩,fun ⟨x,h⟩=>⟨x,by rw [h]; rfl⟩⟩
theorem q_wantK_some (s:Nat) (w:Bool) (KK:Tok→Bool→Prop):wantK (some ⟨s,w⟩) e KK=wantV (eget e s) w KK:=propext Iff.rfl
theorem q_wantV_bool (v w:Bool) (KK:Tok→Bool→Prop):wantV (some (.t (.bool v))) w KK=condP v (fun t=>KK t w) (fun t=>KK t (!w)):=propext Iff.rfl
theorem q_wantV_undef (w:Bool) (KK:Tok→Bool→Prop):wantV (some (.tup [])) w KK=KK .go false:=propext Iff.rfl
theorem q_bothK_t:bothK d e σ A K .go true=A ⟨.go,e,σ⟩:=propext Iff.rfl
theorem q_bothK_nf:bothK d e σ A K .go (!false)=A ⟨.go,e,σ⟩:=propext Iff.rfl
theorem q_bothK_f (k:Nat):bothK (some k) e σ A K .go false=K ⟨.go,(k,.tup [])::e,σ⟩:=propext Iff.rfl
theorem q_bothK_nt (k:Nat):bothK (some k) e σ A K .go (!true)=K ⟨.go,(k,.tup [])::e,σ⟩:=propext Iff.rfl
theorem q_bothK_fn:bothK none e σ A K .go false=K ⟨.go,e,σ⟩:=propext Iff.rfl
theorem q_bothK_ntn:bothK none e σ A K .go (!true)=K ⟨.go,e,σ⟩:=propext Iff.rfl
theorem q_iK_some (k:Nat) (u:V) (τ:Store):iK e (some k) K .go (some u) τ=K ⟨.go,(k,u)::e,τ⟩:=propext Iff.rfl
theorem q_iK_none (r:Option V) (τ:Store):iK e none K .go r τ=K ⟨.go,e,τ⟩:=propext Iff.rfl
theorem q_iK_undef (k:Nat) (τ:Store):iK e (some k) K .go none τ=K ⟨.go,(k,.tup [])::e,τ⟩:=propext Iff.rfl
theorem q_thenK_n (s:St):thenK A Q .n s=A s:=propext Iff.rfl
theorem q_thenK_x (i:Nat) (s:St):thenK A Q (.x i) s=Q (.x i) s:=propext Iff.rfl
theorem q_thenK_r (s:St):thenK A Q .r s=Q .r s:=propext Iff.rfl
theorem q_blockK_n (i:Nat) (s:St):blockK i Q .n s=Q .n s:=propext Iff.rfl
theorem q_blockK_r (i:Nat) (s:St):blockK i Q .r s=Q .r s:=propext Iff.rfl
theorem q_blockK_x (i j:Nat) (s:St):blockK i Q (.x j) s=if j=i then Q .n s else Q (.x j) s:=propext Iff.rfl
theorem q_retK_n (rs:List RS) (R:V→Store→Prop):retK rs b R .n ⟨.go,e,σ⟩=(getsK e σ .go rs fun _ us=>retV b R σ (some us)):=propext Iff.rfl
theorem q_retK_r (rs:List RS) (R:V→Store→Prop):retK rs b R .r ⟨.go,e,σ⟩=(getsK e σ .go rs fun _ us=>retV b R σ (some us)):=propext Iff.rfl
theorem q_gets_nil (K:Tok→List V→Prop):getsK e σ .go [] K=K .go []:=propext Iff.rfl
theorem q_gets_tmp (k:Nat) (rs:List RS) (K:Tok→List V→Prop):getsK e σ .go (.tmp k::rs) K=(onV (eget e k) fun t u=>getsK e σ t rs fun t us=>K t (u::us)):=propext Iff.rfl
theorem q_gets_cell (k:Nat) (n:Option Nat) (rs:List RS) (K:Tok→List V→Prop):getsK e σ .go (.cell k n::rs) K=(onV (eget e k) fun t a=>evLoad n σ a fun _ u=>getsK e σ t rs fun t us=>K t (u::us)):=propext Iff.rfl
theorem q_run_mv (x:O):runIn P ⟨d,g,.mv x⟩ K ⟨.go,e,σ⟩=(onV (opv e x) fun t u=>iK e d K t (some u) σ):=propext Iff.rfl
theorem q_run_pick (c p q:O):runIn P ⟨d,g,.pick c p q⟩ K ⟨.go,e,σ⟩=(condV (opv e c) (fun t=>onV (opv e p) fun _ u=>iK e d K t (some u) σ) (fun t=>onV (opv e q) fun _ u=>iK e d K t (some u) σ)):=propext Iff.rfl
theorem q_run_newB (t et:TypeId):runIn P ⟨d,g,.newB t et⟩ K ⟨.go,e,σ⟩=(iK e d K .go (some (.bp (σ.length+1))) (σ++[.buf et [],.tbox t [.nilp,.bsl σ.length 0]])):=propext Iff.rfl
theorem q_run_new (cs:List V):runIn P ⟨d,g,.new cs⟩ K ⟨.go,e,σ⟩=(iK e d K .go (some (.ptr σ.length 0)) (σ++[.box cs])):=propext Iff.rfl
theorem q_run_box (x:O):runIn P ⟨d,g,.box x⟩ K ⟨.go,e,σ⟩=(onV (opv e x) fun t u=>onRow (cellsOf u) fun _ cs=>iK e d K t (some (.ptr σ.length 0)) (σ++[.box cs])):=propext Iff.rfl
theorem q_run_load (n:Option Nat) (x:O):runIn P ⟨d,g,.load n x⟩ K ⟨.go,e,σ⟩=(onV (opv e x) fun t a=>evLoad n σ a fun _ u=>iK e d K t (some u) σ):=propext Iff.rfl
theorem q_run_store (n:Nat) (x y:O):runIn P ⟨d,g,.store n x y⟩ K ⟨.go,e,σ⟩=(onV (opv e x) fun t a=>onV (opv e y) fun _ u=>evStore n σ a u fun _ σ'=>iK e d K t none σ'):=propext Iff.rfl
theorem q_run_nilCheck (x:O):runIn P ⟨d,g,.nilCheck x⟩ K ⟨.go,e,σ⟩=(onV (opv e x) fun t u=>nilChk u fun _ u=>iK e d K t (some u) σ):=propext Iff.rfl
theorem q_run_bin (op:BinOp) (x y:O):runIn P ⟨d,g,.bin op x y⟩ K ⟨.go,e,σ⟩=(onV (opv e x) fun t a=>onV (opv e y) fun _ b=>evBin op a b fun _ u=>iK e d K t (some u) σ):=propext Iff.rfl
theorem q_run_eqB (neg:Bool) (x y:O):runIn P ⟨d,g,.eqB neg x y⟩ K ⟨.go,e,σ⟩=(onV (opv e x) fun t a=>onV (opv e y) fun _ b=>evEqB neg a b fun _ u=>iK e d K t (some u) σ):=propext Iff.rfl
theorem q_run_eqP (neg:Bool) (x y:O):runIn P ⟨d,g,.eqP neg x y⟩ K ⟨.go,e,σ⟩=(onV (opv e x) fun t a=>onV (opv e y) fun _ b=>evNil isNilP neg a b fun _ u=>iK e d K t (some u) σ):=propext Iff.rfl
theorem q_run_eqS (neg:Bool) (x y:O):runIn P ⟨d,g,.eqS neg x y⟩ K ⟨.go,e,σ⟩=(onV (opv e x) fun t a=>onV (opv e y) fun _ b=>evNil isNilS neg a b fun _ u=>iK e d K t (some u) σ):=propext Iff.rfl
theorem q_run_eqI (neg:Bool) (x y:O):runIn P ⟨d,g,.eqI neg x y⟩ K ⟨.go,e,σ⟩=(onV (opv e x) fun t a=>onV (opv e y) fun _ b=>evNil isNilI neg a b fun _ u=>iK e d K t (some u) σ):=propext Iff.rfl
theorem q_run_un (op:UnOp) (x:O):runIn P ⟨d,g,.un op x⟩ K ⟨.go,e,σ⟩=(onV (opv e x) fun t a=>evUn op a fun _ u=>iK e d K t (some u) σ):=propext Iff.rfl
theorem q_run_convInt (k:IntKind) (x:O):runIn P ⟨d,g,.convInt k x⟩ K ⟨.go,e,σ⟩=(onV (opv e x) fun t a=>evConv k a fun _ u=>iK e d K t (some u) σ):=propext Iff.rfl
theorem q_run_sliceStr (x:O) (lo hi:Option O):runIn P ⟨d,g,.sliceStr x lo hi⟩ K ⟨.go,e,σ⟩=(onV (opv e x) fun t a=>evSliceStr e lo hi a fun _ u=>iK e d K t (some u) σ):=propext Iff.rfl
theorem q_run_sliceSl (n:Nat) (x:O) (lo hi:Option O):runIn P ⟨d,g,.sliceSl n x lo hi⟩ K ⟨.go,e,σ⟩=(onV (opv e x) fun t a=>evSliceSl e n lo hi σ a fun _ u=>iK e d K t (some u) σ):=propext Iff.rfl
theorem q_run_fieldAddr (off:Nat) (x:O):runIn P ⟨d,g,.fieldAddr off x⟩ K ⟨.go,e,σ⟩=(onV (opv e x) fun t a=>evFieldAddr off a fun _ u=>iK e d K t (some u) σ):=propext Iff.rfl
theorem q_run_field (off:Nat) (n:Option Nat) (x:O):runIn P ⟨d,g,.field off n x⟩ K ⟨.go,e,σ⟩=(onV (opv e x) fun t a=>evField off n a fun _ u=>iK e d K t (some u) σ):=propext Iff.rfl
theorem q_run_indexAddr (n:Nat) (x i:O):runIn P ⟨d,g,.indexAddr n x i⟩ K ⟨.go,e,σ⟩=(onV (opv e x) fun t a=>onV (opv e i) fun _ i=>evIndexAddr n σ a i fun _ u=>iK e d K t (some u) σ):=propext Iff.rfl
theorem q_run_index (x i:O):runIn P ⟨d,g,.index x i⟩ K ⟨.go,e,σ⟩=(onV (opv e x) fun t a=>onV (opv e i) fun _ i=>evIndex a i fun _ u=>iK e d K t (some u) σ):=propext Iff.rfl
theorem q_run_extract (x:O) (k:Nat):runIn P ⟨d,g,.extract x k⟩ K ⟨.go,e,σ⟩=(onV (opv e x) fun t a=>evExtract k a fun _ u=>iK e d K t (some u) σ):=propext Iff.rfl
theorem q_run_lenStr (x:O):runIn P ⟨d,g,.len true x⟩ K ⟨.go,e,σ⟩=(onV (opv e x) fun t a=>onRow (lenStr a) fun _ n=>iK e d K t (some (.t (.int .i64 n))) σ):=propext Iff.rfl
theorem q_run_lenSl (x:O):runIn P ⟨d,g,.len false x⟩ K ⟨.go,e,σ⟩=(onV (opv e x) fun t a=>onRow (lenSl a) fun _ n=>iK e d K t (some (.t (.int .i64 n))) σ):=propext Iff.rfl
theorem q_run_mkSl (sz bys:Nat) (z:List V) (l c:O):runIn P ⟨d,g,.mkSl sz bys z l c⟩ K ⟨.go,e,σ⟩=(onV (opv e l) fun t a=>onV (opv e c) fun _ b=>evMkSl sz bys z σ a b fun _ u σ'=>iK e d K t (some u) σ'):=propext Iff.rfl
theorem q_run_lit (how:Option Bool) (sz n:Nat) (z:List V) (ps:List (Nat × O)):runIn P ⟨d,g,.lit how sz n z ps⟩ K ⟨.go,e,σ⟩=(litRows e sz .go (List.replicate n z) ps fun t rs=>litHow (litK sz σ rs (fun t u σ'=>iK e d K t (some u) σ') t) how):=propext Iff.rfl
theorem q_run_append (sz bys:Nat) (x y:O):runIn P ⟨d,g,.append sz bys x y⟩ K ⟨.go,e,σ⟩=(onV (opv e x) fun t a=>onV (opv e y) fun _ b=>onRow (rowsOf σ sz b) fun _ rs=>evAppend sz bys σ rs a fun _ u σ'=>iK e d K t (some u) σ'):=propext Iff.rfl
theorem q_run_appS (bys:Nat) (x y:O):runIn P ⟨d,g,.appS bys x y⟩ K ⟨.go,e,σ⟩=(onV (opv e x) fun t a=>onV (opv e y) fun _ b=>evAppS bys σ b a fun _ u σ'=>iK e d K t (some u) σ'):=propext Iff.rfl
theorem q_run_build (z:List V) (ps:List (Nat × Nat × O)):runIn P ⟨d,g,.build z ps⟩ K ⟨.go,e,σ⟩=(fillV e .go z ps fun t cs=>iK e d K t (some (.agg cs)) σ):=propext Iff.rfl
theorem q_run_convStr (x:O):runIn P ⟨d,g,.convStr x⟩ K ⟨.go,e,σ⟩=(onV (opv e x) fun t a=>evConvStr a fun _ u=>iK e d K t (some u) σ):=propext Iff.rfl
theorem q_run_strBytes (x:O):runIn P ⟨d,g,.strBytes x⟩ K ⟨.go,e,σ⟩=(onV (opv e x) fun t a=>evStrBytes σ a fun _ u σ'=>iK e d K t (some u) σ'):=propext Iff.rfl
theorem q_run_bytesStr (x:O):runIn P ⟨d,g,.bytesStr x⟩ K ⟨.go,e,σ⟩=(onV (opv e x) fun t a=>onRow (rowsOf σ 1 a) fun _ rs=>onRow (bytesOf rs) fun _ s=>iK e d K t (some (.t (.str s))) σ):=propext Iff.rfl
theorem q_run_call (k:Nat) (as:List O):runIn P ⟨d,g,.call (.t k) as⟩ K ⟨.go,e,σ⟩=callV P σ (eget e k) (opvs e as) (fun t r σ'=>K ⟨t,setD e d r,σ'⟩):=propext Iff.rfl
theorem q_run_callc (v:V) (as:List O):runIn P ⟨d,g,.call (.c v) as⟩ K ⟨.go,e,σ⟩=callV P σ (some v) (opvs e as) (fun t r σ'=>K ⟨t,setD e d r,σ'⟩):=propext Iff.rfl
theorem q_run_callm (k:Nat) (nm:String) (as:List O):runIn P ⟨d,g,.call (.m k nm) as⟩ K ⟨.go,e,σ⟩=callM P σ nm (eget e k) (opvs e as) (fun t r σ'=>K ⟨t,setD e d r,σ'⟩):=propext Iff.rfl
theorem q_run_callQc (v:V) (as:List O):runIn P ⟨d,g,.callQ (.c v) as⟩ K ⟨.go,e,σ⟩=callQV P σ (some v) (opvs e as) (fun t r=>K ⟨t,setD e d r,σ⟩):=propext Iff.rfl
theorem q_run_callQt (k:Nat) (as:List O):runIn P ⟨d,g,.callQ (.t k) as⟩ K ⟨.go,e,σ⟩=callQV P σ (eget e k) (opvs e as) (fun t r=>K ⟨t,setD e d r,σ⟩):=propext Iff.rfl
theorem q_run_mkMap:runIn P ⟨d,g,.mkMap⟩ K ⟨.go,e,σ⟩=(iK e d K .go (some (.map σ.length)) (σ++[.map 0 []])):=propext Iff.rfl
theorem q_run_look (kd:KD) (ok:Bool) (z:V) (m k:O):runIn P ⟨d,g,.look kd ok z m k⟩ K ⟨.go,e,σ⟩=(onV (opv e m) fun t a=>onV (opv e k) fun _ b=>evLook kd ok z σ a b fun _ u=>iK e d K t (some u) σ):=propext Iff.rfl
theorem q_run_mapUp (kd:KD) (m k v:O):runIn P ⟨d,g,.mapUp kd m k v⟩ K ⟨.go,e,σ⟩=(onV (opv e m) fun t a=>onV (opv e k) fun _ b=>onV (opv e v) fun _ c=>evMapUp kd σ a b c fun _ σ'=>iK e d K t none σ'):=propext Iff.rfl
theorem q_run_mapEnt (kd:KD) (z:V) (m k:O):runIn P ⟨d,g,.mapEnt kd z m k⟩ K ⟨.go,e,σ⟩=(onV (opv e m) fun t a=>onV (opv e k) fun _ b=>evMapEnt kd z σ a b fun _ u σ'=>iK e d K t (some u) σ'):=propext Iff.rfl
theorem q_run_entSt (m s v:O):runIn P ⟨d,g,.entSt m s v⟩ K ⟨.go,e,σ⟩=(onV (opv e m) fun t a=>onV (opv e s) fun _ b=>onV (opv e v) fun _ c=>evEntSt σ a b c fun _ σ'=>iK e d K t none σ'):=propext Iff.rfl
theorem q_run_lenM (x:O):runIn P ⟨d,g,.lenM x⟩ K ⟨.go,e,σ⟩=(onV (opv e x) fun t a=>evLenM σ a fun _ u=>iK e d K t (some u) σ):=propext Iff.rfl
theorem q_run_eqA (neg:Bool) (ks:List SK) (x y:O):runIn P ⟨d,g,.eqA neg ks x y⟩ K ⟨.go,e,σ⟩=(onV (opv e x) fun t a=>onV (opv e y) fun _ b=>evEqA neg ks a b fun _ u=>iK e d K t (some u) σ):=propext Iff.rfl
theorem q_run_iface (ty:Nat) (x:O):runIn P ⟨d,g,.iface ty x⟩ K ⟨.go,e,σ⟩=(onV (opv e x) fun t a=>iK e d K t (some (.iface ty a)) σ):=propext Iff.rfl
theorem q_run_fnb (f:FuncId) (caps:List O):runIn P ⟨d,g,.fnb f caps⟩ K ⟨.go,e,σ⟩=(onVs (opvs e caps) fun t us=>iK e d K t (some (.fnb (.func f) us)) σ):=propext Iff.rfl
theorem q_callV_b {P:Program} (f:FuncId) (fs us:List V) (KV:Tok→V→Store→Prop):callV P σ (some (.fnb (.func f) fs)) (some us) KV=callV P σ (some (.fn (.func f) [])) (some (fs++us)) KV:=by simp only [callV,List.append_nil]
theorem q_run_fn (f:FuncId) (caps:List O):runIn P ⟨d,g,.fn f caps⟩ K ⟨.go,e,σ⟩=(onVs (opvs e caps) fun t us=>iK e d K t (some (.fn (.func f) us)) σ):=propext Iff.rfl
theorem q_run_clr (sz:Nat) (z:List V) (x:O):runIn P ⟨d,g,.clr sz z x⟩ K ⟨.go,e,σ⟩=(onV (opv e x) fun t a=>evClr sz z σ a fun _ σ'=>iK e d K t (some (.tup [])) σ'):=propext Iff.rfl
theorem q_clr_n (sz:Nat) (z:List V) (KK:Tok→Store→Prop):evClr sz z σ .nils KK=KK .go σ:=propext Iff.rfl
theorem q_clr_s (sz:Nat) (z:List V) (id g off len:Nat) (KK:Tok→Store→Prop):evClr sz z σ (.sl id g off len) KK=(onSlc σ[id]? fun t s rows=>s=sz∧g=rows.length∧off+len≤rows.length∧KK t (σ.set id (.slc s (rows.take off++List.replicate len z++rows.drop (off+len))))):=propext Iff.rfl
theorem q_run_copy (sz:Nat) (x y:O):runIn P ⟨d,g,.copy sz x y⟩ K ⟨.go,e,σ⟩=(onV (opv e x) fun t a=>onV (opv e y) fun _ b=>onRow (rowsOf σ sz b) fun _ rs=>evCopy sz σ rs a fun _ u σ'=>iK e d K t (some u) σ'):=propext Iff.rfl
theorem q_run_mm (mx:Bool) (x y:O):runIn P ⟨d,g,.mm mx x y⟩ K ⟨.go,e,σ⟩=(onV (opv e x) fun t a=>onV (opv e y) fun _ b=>evMM mx a b fun _ u=>iK e d K t (some u) σ):=propext Iff.rfl
end
section
variable {K:Tok→V→Prop} {KS:Tok→Store→Prop} {e:Env} {σ:Store}
theorem q_app_rows (sz bys s:Nat) (rs:List (List V)) (KV:Tok→V→Store→Prop):evAppend sz bys σ rs (.rows s []) KV=(s=sz∧rs.length * bys≤maxBy∧rs.length≤9223372036854775807∧(rs=[]→KV .go (.rows sz []) σ)∧(rs≠[]→KV .go (.sl σ.length rs.length 0 rs.length) (σ++[.slc sz rs]))):=propext Iff.rfl
theorem q_sliceSl_r (n s:Nat) (lo hi:Option O):evSliceSl e n lo hi σ (.rows s []) K=(s=n∧evSlice e 0 lo hi fun t _ _=>K t (.rows s [])):=propext Iff.rfl
theorem q_onMap_u (c:Nat) (es:List ME) (K:Tok→Nat→List ME→Prop):onMap (some (.map c es)) K=K .go c es:=propext Iff.rfl
theorem q_look_m (kd:KD) (ok:Bool) (z:V) (id:Nat) (k:V):evLook kd ok z σ (.map id) k K=(onMap σ[id]? fun t _ es=>kd.ok k=true∧keysOk kd es=true∧K t (lookR ok z (findM k es))):=propext Iff.rfl
theorem q_mapUp_m (kd:KD) (id:Nat) (k v:V):evMapUp kd σ (.map id) k v KS=(onMap σ[id]? fun t c es=>kd.ok k=true∧keysOk kd es=true∧KS t (σ.set id (.map (clkM k c es) (putM k v c es)))):=propext Iff.rfl
theorem q_mapEnt_m (kd:KD) (z:V) (id:Nat) (k:V) (KV:Tok→V→Store→Prop):evMapEnt kd z σ (.map id) k KV=(onMap σ[id]? fun t c es=>kd.ok k=true∧keysOk kd es=true∧KV t (.tup [valOr z (findM k es),.t (.int .i64 (bornOr c (findM k es):Nat))]) (σ.set id (.map (clkM k c es) (putM k (valOr z (findM k es)) c es)))):=propext Iff.rfl
theorem q_entSt_m (id:Nat) (k:IntKind) (s:Int) (x:V):evEntSt σ (.map id) (.t (.int k s)) x KS=(onMap σ[id]? fun t c es=>onRow (storeM s x es) fun _ es'=>KS t (σ.set id (.map c es'))):=propext Iff.rfl
theorem q_lenM_m (id:Nat):evLenM σ (.map id) K=(onMap σ[id]? fun t _ es=>K t (.t (.int .i64 (es.length:Nat)))):=propext Iff.rfl
theorem q_eqA_f (ks:List SK) (as bs:List V):evEqA false ks (.agg as) (.agg bs) K=(fits ks as=true∧fits ks bs=true∧K .go (.t (.bool (sEqs as bs)))):=by simp [evEqA]
theorem q_eqA_t (ks:List SK) (as bs:List V):evEqA true ks (.agg as) (.agg bs) K=(fits ks as=true∧fits ks bs=true∧K .go (.t (.bool (!sEqs as bs)))):=by simp [evEqA]
theorem q_onVs_u (us:List V) (K:Tok→List V→Prop):onVs (some us) K=K .go us:=propext Iff.rfl
theorem q_copy_sl (sz:Nat) (rs:List (List V)) (id g off len:Nat) (KV:Tok→V→Store→Prop):evCopy sz σ rs (.sl id g off len) KV=(onSlc σ[id]? fun t s rows=>s=sz∧g=rows.length∧0<min rs.length len ∧
   KV t (.t (.int .i64 ((min rs.length len:Nat):Int))) (σ.set id (.slc sz (rows.take off++rs.take (min rs.length len)++rows.drop (off+min rs.length len))))):=propext Iff.rfl
theorem q_mm_max (k k':IntKind) (x y:Int):evMM true (.t (.int k x)) (.t (.int k' y)) K=K .go (.t (.int k (if y > x then y else x))):=by simp [evMM]
theorem q_mm_min (k k':IntKind) (x y:Int):evMM false (.t (.int k x)) (.t (.int k' y)) K=K .go (.t (.int k (if y<x then y else x))):=by simp [evMM]
theorem q_sliceSl_n (n:Nat) (lo hi:Option O):evSliceSl e n lo hi σ .nils K=(evSlice e 0 lo hi fun t _ _=>K t .nils):=propext Iff.rfl
theorem q_sliceSl_o (n:Nat) (lo hi:Option O) (id g off len:Nat):evSliceSl e n lo hi σ (.sl id g off len) K=(onSlc σ[id]? fun _ sz rows=>sz=n∧g=rows.length∧evSlice e len lo hi fun t l h=>K t (.sl id g (off+l) (h - l))):=propext Iff.rfl
theorem q_callM_i {P:Program} (nm:String) (ty:Nat) (u:V) (us:List V) (KV:Tok→V→Store→Prop):callM P σ nm (some (.iface ty u)) (some us) KV=(onRow (methodOf P ty nm) fun t g=>∃ R,ACalls P g (u::us) σ R∧∀ r σ',R r σ'→KV t r σ'):=propext Iff.rfl
theorem q_ok_int (k:IntKind) (n:Int):KD.ok (.one (.int k)) (.t (.int k n))=true:=by simp [KD.ok,SK.fit]
theorem q_ok_str (s:List UInt8):KD.ok (.one .str) (.t (.str s))=true:=rfl
theorem q_ok_st (ks:List SK) (us:List V):KD.ok (.st ks) (.agg us)=fits ks us:=rfl
theorem q_fits_nil:fits [] []=true:=rfl
theorem q_fits_int (k:IntKind) (n:Int) (ks:List SK) (us:List V):fits (.int k::ks) (.t (.int k n)::us)=fits ks us:=by simp [fits,SK.fit]
theorem q_fits_bool (b:Bool) (ks:List SK) (us:List V):fits (.bool::ks) (.t (.bool b)::us)=fits ks us:=by simp [fits,SK.fit]
theorem q_fits_str (s:List UInt8) (ks:List SK) (us:List V):fits (.str::ks) (.t (.str s)::us)=fits ks us:=by simp [fits,SK.fit]
theorem q_sEqs_nil:sEqs [] []=true:=rfl
theorem q_sEqs_int (k k':IntKind) (n m:Int) (us vs:List V):sEqs (.t (.int k n)::us) (.t (.int k' m)::vs)=((n == m) && sEqs us vs):=rfl
theorem q_sEqs_bool (n m:Bool) (us vs:List V):sEqs (.t (.bool n)::us) (.t (.bool m)::vs)=((n == m) && sEqs us vs):=rfl
theorem q_sEqs_str (n m:List UInt8) (us vs:List V):sEqs (.t (.str n)::us) (.t (.str m)::vs)=((n == m) && sEqs us vs):=rfl
theorem q_keys_nil (kd:KD):keysOk kd []=true:=rfl
theorem q_keys_cons (kd:KD) (k v:V) (b:Nat) (es:List ME):keysOk kd (⟨k,v,b⟩::es)=(kd.ok k && keysOk kd es):=rfl
theorem q_lookR_ts (z k v:V) (b:Nat):lookR true z (some ⟨k,v,b⟩)=.tup [v,.t (.bool true)]:=rfl
theorem q_lookR_tn (z:V):lookR true z none=.tup [z,.t (.bool false)]:=rfl
theorem q_lookR_fs (z k v:V) (b:Nat):lookR false z (some ⟨k,v,b⟩)=v:=rfl
theorem q_lookR_fn (z:V):lookR false z none=z:=rfl
theorem q_findM_nil (k:V):findM k []=none:=rfl
theorem q_putM_nil (k v:V) (c:Nat):putM k v c []=[⟨k,v,c⟩]:=rfl
theorem q_clkM_nil (k:V) (c:Nat):clkM k c []=c+1:=rfl
theorem q_valOr_s (z k v:V) (b:Nat):valOr z (some ⟨k,v,b⟩)=v:=rfl
theorem q_valOr_n (z:V):valOr z none=z:=rfl
theorem q_bornOr_s (c:Nat) (k v:V) (b:Nat):bornOr c (some ⟨k,v,b⟩)=b:=rfl
theorem q_bornOr_n (c:Nat):bornOr c none=c:=rfl
theorem q_condV_bool (v:Bool) (A B:Tok→Prop):condV (some (.t (.bool v))) A B=condP v A B:=propext Iff.rfl
theorem q_condP_t (A B:Tok→Prop):condP true A B=A .go:=condP_true A B
theorem q_condP_f (A B:Tok→Prop):condP false A B=B .go:=condP_false A B
theorem q_onV_u (u:V):onV (some u) K=K .go u:=propext Iff.rfl
theorem q_onRow_u {α:Type} (u:α) (K:Tok→α→Prop):onRow (some u) K=K .go u:=propext Iff.rfl
theorem q_onBox_u (cs:List V) (K:Tok→List V→Prop):onBox (some (.box cs)) K=K .go cs:=propext Iff.rfl
theorem q_onSlc_u (sz:Nat) (rows:List (List V)) (K:Tok→Nat→List (List V)→Prop):onSlc (some (.slc sz rows)) K=K .go sz rows:=propext Iff.rfl
theorem q_ldT_c (x:T) (xs:List T):ldT none (x::xs) K=K .go (.t x):=propext Iff.rfl
theorem q_ldT_n (n:Nat) (cs:List T):ldT (some n) cs K=(n≤cs.length∧K .go (.agg ((cs.take n).map .t))):=propext Iff.rfl
theorem q_ldV_c (x:V) (xs:List V):ldV none (x::xs) K=(one x=true∧K .go x):=propext Iff.rfl
theorem q_ldV_t (x:T) (xs:List V):ldV none (.t x::xs) K=K .go (.t x):=propext ⟨fun h=>h.2,fun h=>⟨rfl,h⟩⟩
theorem q_ldV_n (n:Nat) (cs:List V):ldV (some n) cs K=(n≤cs.length∧K .go (.agg (cs.take n))):=propext Iff.rfl
theorem q_load_pv (n:Option Nat) (cs:List T):evLoad n σ (.pv cs) K=ldT n cs K:=propext Iff.rfl
theorem q_load_ptr (n:Option Nat) (id off:Nat):evLoad n σ (.ptr id off) K=(onBox σ[id]? fun t cs=>ldV n (cs.drop off) fun _ u=>K t u):=propext Iff.rfl
theorem q_load_ep (n:Option Nat) (id g i j:Nat):evLoad n σ (.ep id g i j) K=(onSlc σ[id]? fun t _ rows=>g=rows.length∧onRow rows[i]? fun _ r=>ldV n (r.drop j) fun _ u=>K t u):=propext Iff.rfl
theorem q_store_u (n:Nat) (a u:V):evStore n σ a u KS=(onRow (cellsOf u) fun t us=>us.length=n∧us.all one=true∧evStoreTo n σ us (fun _ σ'=>KS t σ') a):=propext Iff.rfl
theorem q_storeTo_ptr (n:Nat) (us:List V) (id off:Nat):evStoreTo n σ us KS (.ptr id off)=(onBox σ[id]? fun t cs=>off+n≤cs.length∧KS t (σ.set id (.box (putAt cs off us)))):=propext Iff.rfl
theorem q_storeTo_ep (n:Nat) (us:List V) (id g i j:Nat):evStoreTo n σ us KS (.ep id g i j)=(onSlc σ[id]? fun t sz rows=>g=rows.length∧onRow rows[i]? fun _ r=>j+n≤r.length∧KS t (σ.set id (.slc sz (rows.set i (putAt r j us))))):=propext Iff.rfl
theorem q_bin_add (k:IntKind) (x y:Int):evBin .add (.t (.int k x)) (.t (.int k y)) K=K .go (.t (.int k (k.wrap (x+y)))):=by simp [evBin,isSh,binInt]
theorem q_bin_sub (k:IntKind) (x y:Int):evBin .sub (.t (.int k x)) (.t (.int k y)) K=K .go (.t (.int k (k.wrap (x - y)))):=by simp [evBin,isSh,binInt]
theorem q_bin_mul (k:IntKind) (x y:Int):evBin .mul (.t (.int k x)) (.t (.int k y)) K=K .go (.t (.int k (k.wrap (x * y)))):=by simp [evBin,isSh,binInt]
theorem q_bin_quo (k:IntKind) (x y:Int):evBin .quo (.t (.int k x)) (.t (.int k y)) K=(y≠0∧K .go (.t (.int k (k.wrap (x.tdiv y))))):=by simp [evBin,isSh,binInt]
theorem q_bin_rem (k:IntKind) (x y:Int):evBin .rem (.t (.int k x)) (.t (.int k y)) K=(y≠0∧K .go (.t (.int k (x.tmod y)))):=by simp [evBin,isSh,binInt]
theorem q_bin_and (k:IntKind) (x y:Int):evBin .and (.t (.int k x)) (.t (.int k y)) K=K .go (.t (.int k (bits .and k x y))):=by simp [evBin,isSh,binInt]
theorem q_bin_or (k:IntKind) (x y:Int):evBin .or (.t (.int k x)) (.t (.int k y)) K=K .go (.t (.int k (bits .or k x y))):=by simp [evBin,isSh,binInt]
theorem q_bin_xor (k:IntKind) (x y:Int):evBin .xor (.t (.int k x)) (.t (.int k y)) K=K .go (.t (.int k (bits .xor k x y))):=by simp [evBin,isSh,binInt]
theorem q_bin_eql (k:IntKind) (x y:Int):evBin .eql (.t (.int k x)) (.t (.int k y)) K=K .go (.t (.bool (x == y))):=by simp [evBin,isSh,binInt]
theorem q_bin_neq (k:IntKind) (x y:Int):evBin .neq (.t (.int k x)) (.t (.int k y)) K=K .go (.t (.bool (x != y))):=by simp [evBin,isSh,binInt]
theorem q_bin_lss (k:IntKind) (x y:Int):evBin .lss (.t (.int k x)) (.t (.int k y)) K=K .go (.t (.bool (decide (x<y)))):=by simp [evBin,isSh,binInt]
theorem q_bin_leq (k:IntKind) (x y:Int):evBin .leq (.t (.int k x)) (.t (.int k y)) K=K .go (.t (.bool (decide (x≤y)))):=by simp [evBin,isSh,binInt]
theorem q_bin_gtr (k:IntKind) (x y:Int):evBin .gtr (.t (.int k x)) (.t (.int k y)) K=K .go (.t (.bool (decide (x > y)))):=by simp [evBin,isSh,binInt]
theorem q_bin_geq (k:IntKind) (x y:Int):evBin .geq (.t (.int k x)) (.t (.int k y)) K=K .go (.t (.bool (decide (x ≥ y)))):=by simp [evBin,isSh,binInt]
theorem q_bin_shl (k k':IntKind) (x y:Int):evBin .shl (.t (.int k x)) (.t (.int k' y)) K=(0≤y∧K .go (.t (.int k (k.wrap (x * 2 ^ (min y.toNat k.bits)))))):=by simp [evBin,isSh,shInt]
theorem q_bin_shr (k k':IntKind) (x y:Int):evBin .shr (.t (.int k x)) (.t (.int k' y)) K=(0≤y∧K .go (.t (.int k (x.fdiv (2 ^ (min y.toNat k.bits)))))):=by simp [evBin,isSh,shInt]
theorem q_str_add (x y:List UInt8):evBin .add (.t (.str x)) (.t (.str y)) K=(((x.length+y.length:Nat):Int)≤9223372036854775807∧K .go (.t (.str (x++y)))):=propext Iff.rfl
theorem q_str_eql (x y:List UInt8):evBin .eql (.t (.str x)) (.t (.str y)) K=K .go (.t (.bool (x == y))):=propext Iff.rfl
theorem q_str_neq (x y:List UInt8):evBin .neq (.t (.str x)) (.t (.str y)) K=K .go (.t (.bool (!(x == y)))):=propext Iff.rfl
theorem q_str_lss (x y:List UInt8):evBin .lss (.t (.str x)) (.t (.str y)) K=K .go (.t (.bool (Op.bytesLess x y))):=propext Iff.rfl
theorem q_str_leq (x y:List UInt8):evBin .leq (.t (.str x)) (.t (.str y)) K=K .go (.t (.bool (Op.bytesLess x y || x == y))):=propext Iff.rfl
theorem q_str_gtr (x y:List UInt8):evBin .gtr (.t (.str x)) (.t (.str y)) K=K .go (.t (.bool (!(Op.bytesLess x y || x == y)))):=propext Iff.rfl
theorem q_str_geq (x y:List UInt8):evBin .geq (.t (.str x)) (.t (.str y)) K=K .go (.t (.bool (!Op.bytesLess x y))):=propext Iff.rfl
theorem q_eqB_b (neg p q:Bool):evEqB neg (.t (.bool p)) (.t (.bool q)) K=K .go (.t (.bool (if neg then !(p == q) else (p == q)))):=propext Iff.rfl
theorem q_evNil_t (f:V→Option Bool) (neg:Bool) (x y:V):evNil f neg x y K=nilK (f x) (f y) neg K:=rfl
theorem q_isNilI_n:isNilI .nili=some true:=rfl
theorem q_isNilI_i (t:Nat) (u:V):isNilI (.iface t u)=some false:=rfl
theorem q_nilK_l (r neg:Bool):nilK (some true) (some r) neg K=K .go (.t (.bool (if neg then !r else r))):=propext Iff.rfl
theorem q_nilK_r (r neg:Bool):nilK (some r) (some true) neg K=K .go (.t (.bool (if neg then !r else r))):=by cases r <;> rfl
theorem q_un_neg (k:IntKind) (n:Int):evUn .neg (.t (.int k n)) K=K .go (.t (.int k (k.wrap (0 - n)))):=propext Iff.rfl
theorem q_un_not (v:Bool):evUn .not (.t (.bool v)) K=K .go (.t (.bool (!v))):=propext Iff.rfl
theorem q_conv_i (k k':IntKind) (n:Int):evConv k (.t (.int k' n)) K=K .go (.t (.int k (k.wrap n))):=propext Iff.rfl
theorem q_bndV_i (k:IntKind) (i:Int) (KN:Tok→Nat→Prop):bndV (some (.t (.int k i))) KN=(0≤i∧KN .go i.toNat):=propext Iff.rfl
theorem q_bnd_n (n:Nat) (KN:Tok→Nat→Prop):bnd e none n KN=KN .go n:=propext Iff.rfl
theorem q_bnd_o (o:O) (n:Nat) (KN:Tok→Nat→Prop):bnd e (some o) n KN=bndV (opv e o) KN:=propext Iff.rfl
theorem q_evSlice_u (n:Nat) (lo hi:Option O) (KK:Tok→Nat→Nat→Prop):evSlice e n lo hi KK=(bnd e hi n fun t h=>h≤n∧bnd e lo 0 fun _ l=>l≤h∧KK t l h):=propext Iff.rfl
theorem q_sliceStr_s (lo hi:Option O) (s:List UInt8):evSliceStr e lo hi (.t (.str s)) K=(evSlice e s.length lo hi fun t l h=>K t (.t (.str ((s.take h).drop l)))):=propext Iff.rfl
theorem q_sliceSl_l (n sz:Nat) (lo hi:Option O) (rows:List (List T)):evSliceSl e n lo hi σ (.t (.lst sz rows)) K=(sz=n∧evSlice e rows.length lo hi fun t l h=>K t (.t (.lst sz ((rows.take h).drop l)))):=propext Iff.rfl
theorem q_fa_pv (off:Nat) (cs:List T):evFieldAddr off (.pv cs) K=K .go (.pv (cs.drop off)):=propext Iff.rfl
theorem q_fa_ptr (off id o:Nat):evFieldAddr off (.ptr id o) K=K .go (.ptr id (o+off)):=propext Iff.rfl
theorem q_fa_ep (off id g i j:Nat):evFieldAddr off (.ep id g i j) K=K .go (.ep id g i (j+off)):=propext Iff.rfl
theorem q_field_a (off:Nat) (n:Option Nat) (cs:List V):evField off n (.agg cs) K=ldV n (cs.drop off) K:=propext Iff.rfl
theorem q_ix_lst (n sz:Nat) (rows:List (List T)) (k:IntKind) (i:Int):evIndexAddr n σ (.t (.lst sz rows)) (.t (.int k i)) K=(sz=n∧0≤i∧onRow rows[i.toNat]? fun t r=>K t (.pv r)):=propext Iff.rfl
theorem q_ix_sl (n id g off len:Nat) (k:IntKind) (i:Int):evIndexAddr n σ (.sl id g off len) (.t (.int k i)) K=(onSlc σ[id]? fun t sz rows=>sz=n∧g=rows.length∧0≤i∧i<len∧K t (.ep id g (off+i.toNat) 0)):=propext Iff.rfl
theorem q_ix_rows (n sz:Nat) (rs:List (List V)) (k:IntKind) (i:Int):evIndexAddr n σ (.rows sz rs) (.t (.int k i)) K=(sz=n∧0≤i∧onRow rs[i.toNat]? fun t r=>onRow (toTs r) fun _ ts=>K t (.pv ts)):=propext Iff.rfl
theorem q_toTs_nil:toTs []=some []:=by simp only [toTs]
theorem q_toTs_cons (x:T) (us:List V):toTs (.t x::us)=(toTs us).map (x::·):=by simp only [toTs]
theorem q_ix_str (s:List UInt8) (k:IntKind) (n:Int):evIndex (.t (.str s)) (.t (.int k n)) K=(0≤n∧onRow s[n.toNat]? fun t b=>K t (.t (.int .u8 b.toNat))):=propext Iff.rfl
theorem q_nc_pv (cs:List T):nilChk (.pv cs) K=K .go (.pv cs):=propext Iff.rfl
theorem q_nc_ptr (id off:Nat):nilChk (.ptr id off) K=K .go (.ptr id off):=propext Iff.rfl
theorem q_nc_ep (id g i j:Nat):nilChk (.ep id g i j) K=K .go (.ep id g i j):=propext Iff.rfl
theorem q_mkSl (sz bys:Nat) (z:List V) (k k':IntKind) (n m:Int) (K:Tok→V→Store→Prop):evMkSl sz bys z σ (.t (.int k n)) (.t (.int k' m)) K=(0≤n∧n≤m∧m≤9223372036854775807∧(bys:Int) * m≤140737488355328∧K .go (.sl σ.length n.toNat 0 n.toNat) (σ++[.slc sz (List.replicate n.toNat z)])):=propext Iff.rfl
theorem q_appS_s (bys:Nat) (s:List UInt8) (a:V) (K:Tok→V→Store→Prop):evAppS bys σ (.t (.str s)) a K=evAppend 1 bys σ (byteRows s) a K:=propext Iff.rfl
theorem q_app_nil (sz bys:Nat) (rs:List (List V)) (K:Tok→V→Store→Prop):evAppend sz bys σ rs .nils K=(rs.length * bys≤maxBy∧rs.length≤9223372036854775807∧K .go (.sl σ.length rs.length 0 rs.length) (σ++[.slc sz rs])):=propext Iff.rfl
theorem q_app_sl (sz bys:Nat) (rs:List (List V)) (id g off len:Nat) (K:Tok→V→Store→Prop):evAppend sz bys σ rs (.sl id g off len) K=(onSlc σ[id]? fun t s rows=>s=sz∧g=rows.length∧off=0∧len=rows.length∧(rows.length+rs.length) * bys≤maxBy∧rows.length+rs.length≤9223372036854775807 ∧
   K t (.sl id (rows.length+rs.length) 0 (rows.length+rs.length)) (σ.set id (.slc sz (rows++rs)))):=propext Iff.rfl
theorem q_rows_nil (sz:Nat):rowsOf σ sz .nils=some []:=by simp only [rowsOf]
theorem q_rows_t (sz:Nat) (rows:List (List T)):rowsOf σ sz (.t (.lst sz rows))=some (rows.map fun r=>r.map .t):=by simp [rowsOf]
theorem q_rows_r (sz:Nat) (rs:List (List V)) (h:(rs.all fun r=>r.all one)=true):rowsOf σ sz (.rows sz rs)=some rs:=by simp only [rowsOf,h,and_self,if_true]
theorem q_rows_whole (sz id g len:Nat) (rows:List (List V)) (h:σ[id]?=some (.slc sz rows)) (hg:g=rows.length) (hl:len=rows.length):rowsOf σ sz (.sl id g 0 len)=some rows:=by simp only [rowsOf,h,hg,hl,and_self,if_true,List.drop_zero,List.take_length]
theorem q_litRows_nil (sz:Nat) (rs:List (List V)) (K:Tok→List (List V)→Prop):litRows e sz .go rs [] K=K .go rs:=propext Iff.rfl
theorem q_litRows_cons (sz:Nat) (rs:List (List V)) (i:Nat) (o:O) (ps:List (Nat × O)) (K:Tok→List (List V)→Prop):litRows e sz .go rs ((i,o)::ps) K=(onV (opv e o) fun t u=>onRow (cellsOf u) fun _ us=>us.length=sz∧us.all one=true∧i<rs.length∧litRows e sz t (rs.set i us) ps K):=propext Iff.rfl
theorem q_fill_nil (cs:List V) (K:Tok→List V→Prop):fillV e .go cs [] K=K .go cs:=propext Iff.rfl
theorem q_fill_cons (cs:List V) (off sz:Nat) (o:O) (ps:List (Nat × Nat × O)) (K:Tok→List V→Prop):fillV e .go cs ((off,sz,o)::ps) K=(onV (opv e o) fun t u=>onRow (cellsOf u) fun _ us=>us.length=sz∧off+sz≤cs.length∧fillV e t (putAt cs off us) ps K):=propext Iff.rfl
theorem q_litK_f (sz:Nat) (rs:List (List V)) (K:Tok→V→Store→Prop):litK sz σ rs K .go false=K .go (.rows sz rs) σ:=propext Iff.rfl
theorem q_litK_t (sz:Nat) (rs:List (List V)) (K:Tok→V→Store→Prop):litK sz σ rs K .go true=K .go (.sl σ.length rs.length 0 rs.length) (σ++[.slc sz rs]):=propext Iff.rfl
theorem q_litHow_s (b:Bool) (K:Bool→Prop):litHow K (some b)=K b:=propext Iff.rfl
theorem lit_own {K:Bool→Prop} (h:K true):litHow K none:=⟨true,h⟩
theorem lit_rows {K:Bool→Prop} (h:K false):litHow K none:=⟨false,h⟩
theorem q_convStr_s (s:List UInt8):evConvStr (.t (.str s)) K=K .go (.t (.str s)):=propext Iff.rfl
theorem q_strBytes_s (s:List UInt8) (K:Tok→V→Store→Prop):evStrBytes σ (.t (.str s)) K=K .go (.sl σ.length s.length 0 s.length) (σ++[.slc 1 (byteRows s)]):=propext Iff.rfl
theorem q_bytesOf_nil:bytesOf []=some []:=by simp only [bytesOf]
theorem q_bytesOf_cons (n:Int) (rs:List (List V)):bytesOf ([.t (.int .u8 n)]::rs)=(bytesOf rs).map (UInt8.ofNat n.toNat::·):=by simp only [bytesOf]
theorem q_bytesOf_rows (s:List UInt8):bytesOf (byteRows s)=some s:=by
 induction s with
 | nil=>simp [byteRows,bytesOf]
 | cons b s ih =>
  have:byteRows (b::s)=[.t (.int .u8 b.toNat)]::byteRows s:=rfl
  rw [this,q_bytesOf_cons,ih]
  simp
theorem q_extract_t (k:Nat) (us:List V):evExtract k (.tup us) K=onV us[k]? K:=propext Iff.rfl
end
theorem cond_split {v:Bool} {A B:Tok→Prop} (h1:v=true→A .go) (h2:v=false→B .go):condP v A B:=⟨h1,h2⟩
theorem call_by {P:Program} {f:FuncId} {caps us:List V} {σ:Store} {R:V→Store→Prop} {K:Tok→V→Store→Prop} (h:ACalls P f (us++caps) σ R) (hk:∀ r σ',R r σ'→K .go r σ'):callV P σ (some (.fn (.func f) caps)) (some us) K:=.inl ⟨R,h,hk⟩
theorem call_pure {P:Program} {f:FuncId} {us:List V} {σ:Store} {u:V} {K:Tok→V→Store→Prop} (h:ACalls P f us σ fun r σ'=>r=u∧σ'=σ) (hk:K .go u σ):callV P σ (some (.fn (.func f) [])) (some us) K :=
 .inl ⟨_,by rw [List.append_nil]; exact h,by rintro r σ' ⟨rfl,rfl⟩; exact hk⟩
theorem call_pureQ {P:Program} {f:FuncId} {us:List V} {σ:Store} {u:V} {K:Tok→V→Prop} (h:∀ τ:Store,ACalls P f us (σ++τ) fun r σ'=>r=u∧σ'=σ++τ) (hk:K .go u):callQV P σ (some (.fn (.func f) [])) (some us) K :=
 ⟨u,fun τ=>.inl ⟨_,by rw [List.append_nil]; exact h τ,fun _ _ h=>h⟩,hk⟩
theorem call_ext {P:Program} {f:FuncId} {us:List V} {σ:Store} {u:V} {K:Tok→V→Store→Prop} (h:XCalls P f us u) (hk:K .go u σ):callV P σ (some (.fn (.func f) [])) (some us) K :=
 .inr ⟨u,by rw [List.append_nil]; exact h,hk⟩
theorem ret_same {b:Nat} {R:V→Store→Prop} {σ τ:Store} {us:List V} (hb:σ.length=b) (hσ:ltσ b σ=true) (hu:(mkRes us).lt b=true) (h:R (mkRes us) σ):retV b R (σ++τ) (some us):=by
 subst hb
 exact ⟨σ.length,⟨Nat.le_refl _,.inr ⟨hu,by simpa using hσ⟩⟩,by simpa using h⟩
theorem ret_same0 {b:Nat} {R:V→Store→Prop} {σ:Store} {us:List V} (hb:σ.length=b) (h:R (mkRes us) σ):retV b R σ (some us) :=
 ⟨b,⟨Nat.le_refl _,.inl (by omega)⟩,by rw [List.take_of_length_le (by omega)]; exact h⟩
theorem loop_all {b:Nat} {body:(Ex→St→Prop)→St→Prop} {Q:Ex→St→Prop} {s:St} (ks:List Nat) (J:Nat→St→Prop) (n:Nat) (hb:b≤s.σ.length) (h2:J n (s.cut ks s.σ.length))
  (h3:∀ n s',J n s'→body (thenK (fun s''=>CutOk b s'' ks s''.σ.length∧∃ n',n'<n∧J n' (s''.cut ks s''.σ.length)) Q) s'):LoopV b body Q s:=⟨ks,List.length,J,n,⟨hb,.inl (Nat.le_refl _)⟩,h2,h3⟩
theorem cut_all {b:Nat} {e:Env} {σ:Store} {ks:List Nat} (h:b≤σ.length):CutOk b ⟨.go,e,σ⟩ ks σ.length:=⟨h,.inl (Nat.le_refl _)⟩
theorem cut_to {b:Nat} {e:Env} {σ τ:Store} {ks:List Nat} {m:Nat} (hm:σ.length=m) (h:b≤m) (he:ltE m (keep ks e)=true) (hσ:ltσ m σ=true):CutOk b ⟨.go,e,σ++τ⟩ ks m:=by
 subst hm
 exact ⟨h,.inr ⟨he,by simpa using hσ⟩⟩
theorem q_app_get0 (σ τ:Store):(σ++τ)[σ.length]?=τ[0]?:=by rw [List.getElem?_append_right (Nat.le_refl _),Nat.sub_self]
theorem q_app_get (σ τ:Store) (i:Nat):(σ++τ)[σ.length+i]?=τ[i]?:=by rw [List.getElem?_append_right (Nat.le_add_right _ _),Nat.add_sub_cancel_left]
theorem q_app_set0 (σ τ:Store) (o:Obj):(σ++τ).set σ.length o=σ++τ.set 0 o:=by rw [List.set_append_right _ _ (Nat.le_refl _),Nat.sub_self]
theorem q_app_set (σ τ:Store) (i:Nat) (o:Obj):(σ++τ).set (σ.length+i) o=σ++τ.set i o:=by rw [List.set_append_right _ _ (Nat.le_add_right _ _),Nat.add_sub_cancel_left]
theorem q_app_take0 (σ τ:Store):(σ++τ).take σ.length=σ:=List.take_left ..
theorem q_app_take (σ τ:Store) (i:Nat):(σ++τ).take (σ.length+i)=σ++τ.take i:=List.take_length_add_append ..
theorem q_ltσ_app {m:Nat} {σ τ:Store}:ltσ m (σ++τ)=(ltσ m σ && ltσ m τ):=by simp [ltσ]
end Go.Ab
end
section
namespace Go.Ab
open Go.Deep
inductive Sh where
 | bool
 | int (k:IntKind)
 | str
 | sl (n:Nat) (cells:List Sh)
def shFields (g:TypeId→Option (List Sh)) (P:Program):Nat→List Field→Option (List Sh)
 | _,[]=>some []
 | off,f::fs=>match g f.type,shFields g P (off+P.cellsOf f.type) fs with
  | some cs,some rest=>if f.offset=off∧cs.length=P.cellsOf f.type then some (cs++rest) else none
  | _,_=>none
def shOf (P:Program):Nat→TypeId→Option (List Sh)
 | 0,_=>none
 | m+1,t=>match P.underlying t with
  | some .bool=>some [.bool]
  | some (.int k)=>some [.int k]
  | some .string=>some [.str]
  | some (.slice e)=>match shOf P m e with
   | some cs=>if cs.length=P.cellsOf e∧0<P.cellsOf e then some [.sl cs.length cs] else none
   | none=>none
  | some (.struct fs)=>match shFields (shOf P m) P 0 fs.toList with
   | some cs=>if cs.length=P.cellsOf t then some cs else none
   | none=>none
  | _=>none
mutual
def T.is:Sh→T→Prop
 | .bool,t=>∃ b,t=.bool b
 | .int k,t=>∃ n,t=.int k n∧(Lit.int k n).wf=true
 | .str,t=>∃ s,t=.str s∧s.length≤maxLen
 | .sl n cs,t=>∃ rows,t=.lst n rows∧rows.length≤maxLen∧∀ r∈rows,T.isL cs r
def T.isL:List Sh→List T→Prop
 | [],r=>r=[]
 | c::cs,r=>∃ t ts,r=t::ts∧T.is c t∧T.isL cs ts
end
theorem T.isL_len:∀ {cs:List Sh} {r:List T},T.isL cs r→r.length=cs.length
 | [],r,h=>by simp only [T.isL] at h; subst h; rfl
 | c::cs,r,h=>by
  simp only [T.isL] at h
  obtain ⟨t,ts,rfl,_,h⟩:=h
  simp [T.isL_len h]
theorem T.isL_app:∀ {cs ds:List Sh} {r s:List T},T.isL cs r→T.isL ds s→T.isL (cs++ds) (r++s)
 | [],ds,r,s,h,k=>by simp only [T.isL] at h; subst h; simpa using k
 | c::cs,ds,r,s,h,k=>by
  simp only [T.isL] at h
  obtain ⟨t,ts,rfl,h1,h⟩:=h
  simp only [List.cons_append,T.isL]
  exact ⟨t,_,rfl,h1,T.isL_app h k⟩
def TsRel (F:Nat→Prop) (w:World):List T→List Value→Prop
 | [],l=>l=[]
 | t::ts,l=>∃ c cs,l=c::cs∧TRel F w t c∧TsRel F w ts cs
theorem TsRel.app {F:Nat→Prop} {w:World}:∀ {us vs:List T} {l m:List Value},TsRel F w us l→TsRel F w vs m→TsRel F w (us++vs) (l++m)
 | [],vs,l,m,h,k=>by simp only [TsRel] at h; subst h; simpa using k
 | u::us,vs,l,m,h,k=>by
  simp only [TsRel] at h
  obtain ⟨c,cs,rfl,hc,h⟩:=h
  simp only [List.cons_append,TsRel]
  exact ⟨c,_,rfl,hc,TsRel.app h k⟩
theorem TsRel.cells {F:Nat→Prop} {w:World} {b:Nat}:∀ {us:List T} {l:List Value} {off:Nat},TsRel F w us l→(∀ j v,l[j]?=some v→w.cell? ⟨b,off+j,none⟩=some v)→TCells F w us b off
 | [],_,_,_,_=>by simp [TCells]
 | u::us,l,off,h,k=>by
  simp only [TsRel] at h
  obtain ⟨c,cs,rfl,hc,h⟩:=h
  simp only [TCells]
  refine ⟨⟨c,by simpa using k 0 c rfl,hc⟩,TsRel.cells h fun j v hj=>?_⟩
  rw [show off+1+j=off+(j+1) by omega]
  exact k (j+1) v (by simpa using hj)
theorem TsRel.vs {x:Cx}:∀ {us:List T} {l:List Value},TsRel x.F x.w us l→VsRel x (us.map .t) l
 | [],l,h=>by simpa [TsRel,VsRel] using h
 | u::us,l,h=>by
  simp only [TsRel] at h
  obtain ⟨c,cs,rfl,hc,h⟩:=h
  simp only [List.map_cons,VsRel]
  exact ⟨c,cs,rfl,by simpa [VRel] using hc,TsRel.vs h⟩
section
variable {H:Type} {enc:TypeId × Value→H} {P:Program} {w:World} {base:Nat} {spare:Nat→Bool} {held:Bool}
theorem rows_open {F:Nat→Prop} {n:Nat} {cs:List Sh} {b:Nat}:∀ (len off:Nat),(∀ i,i<len→∃ ts,T.isL cs ts∧ts.length=n∧TCells F w ts b (off+i * n)) →
  ∃ rows:List (List T),rows.length=len∧(∀ r∈rows,T.isL cs r)∧TRows F w n rows b off
 | 0,off,_=>⟨[],rfl,by simp,by simp [TRows]⟩
 | len+1,off,h=>by
  obtain ⟨ts,h1,h2,h3⟩:=h 0 (by omega)
  obtain ⟨rows,g1,g2,g3⟩:=rows_open (F:=F) (cs:=cs) len (off+n) fun i hi=>by
   obtain ⟨ts,k1,k2,k3⟩:=h (i+1) (by omega)
   refine ⟨ts,k1,k2,?_⟩
   rw [show off+n+i * n=off+(i+1) * n by rw [Nat.add_mul]; omega]
   exact k3
  refine ⟨ts::rows,by simp [g1],by simpa using ⟨h1,g2⟩,?_⟩
  simp only [TRows]
  exact ⟨h2,by simpa using h3,g3⟩
theorem fields_open {g:TypeId→Option (List Sh)} {F:Nat→Prop} (ih:∀ t shs cs fuel x,g t=some shs→DataW.trod enc P w base spare held fuel t cs=some x→∃ ts,T.isL shs ts∧TsRel F w ts cs) {cs:List Value}:∀ (fs:List Field) (off:Nat) (shs:List Sh),
  shFields g P off fs=some shs→(∀ f∈fs,∃ n x,DataW.trod enc P w base spare held n f.type ((cs.drop f.offset).take (P.cellsOf f.type))=some x)→cs.length=off+shs.length→∃ ts,T.isL shs ts∧TsRel F w ts (cs.drop off)
 | [],off,shs,h,_,hl=>by
  simp only [shFields,Option.some.injEq] at h
  subst h
  refine ⟨[],by simp [T.isL],?_⟩
  simp only [TsRel]
  exact List.drop_of_length_le (by simp at hl; omega)
 | f::fs,off,shs,h,hf,hl=>by
  simp only [shFields] at h
  split at h
  ·rename_i a b ha hb
   split at h
   ·rename_i hc
    obtain ⟨ho,hlen⟩:=hc
    obtain rfl:=Option.some.inj h
    obtain ⟨n,x,hx⟩:=hf f (by simp)
    obtain ⟨ts,h1,h2⟩:=ih _ _ _ _ _ ha hx
    simp only [List.length_append] at hl
    obtain ⟨us,k1,k2⟩:=fields_open ih fs (off+P.cellsOf f.type) b hb (fun f' hf'=>hf f' (by simp [hf'])) (by omega)
    refine ⟨ts++us,T.isL_app h1 k1,?_⟩
    have:=h2.app k2
    rw [ho,take_drop_step] at this
    exact this
   ·cases h
  ·cases h
theorem trod_open:∀ (m:Nat) (t:TypeId) (shs:List Sh) (cs:List Value) (fuel:Nat) (x:DataW H × List MemPlace),shOf P m t=some shs→DataW.trod enc P w base spare held fuel t cs=some x→∃ ts,T.isL shs ts∧TsRel (·<w.heap.size) w ts cs
 | 0,_,_,_,_,_,h,_=>by simp [shOf] at h
 | m+1,t,shs,cs,fuel,x,h,hd=>by
  simp only [shOf] at h
  split at h
  ·rename_i ht
   obtain rfl:=Option.some.inj h
   obtain ⟨b,rfl,_⟩:=DataW.trod_bool ht hd
   exact ⟨[.bool b],by simp [T.isL,T.is],by simp [TsRel,TRel]⟩
  ·rename_i k ht
   obtain rfl:=Option.some.inj h
   obtain ⟨n,rfl,_,hw⟩:=DataW.trod_int ht hd
   exact ⟨[.int k n],by simp [T.isL,T.is,hw],by simp [TsRel,TRel]⟩
  ·rename_i ht
   obtain rfl:=Option.some.inj h
   obtain ⟨s,rfl,_,hw⟩:=DataW.trod_string ht hd
   have hs:(⟨s.data.toList.toArray⟩:ByteArray)=s:=by cases s; simp
   refine ⟨[.str s.data.toList],?_,?_⟩
   rotate_left
   ·simp only [TsRel,TRel]
    exact ⟨_,_,rfl,by rw [hs],rfl⟩
   simp only [T.isL,T.is]
   exact ⟨_,_,rfl,⟨_,rfl,by rw [Array.length_toList]; exact hw⟩,rfl⟩
  ·rename_i e ht
   split at h
   ·rename_i ecs he
    split at h
    ·rename_i hc
     obtain ⟨hlen,hpos⟩:=hc
     obtain rfl:=Option.some.inj h
     rcases open_slice ht hd with ⟨rfl,_⟩ | ⟨ad,len,cap,mm,n,D,Pl,rfl,hb,hl,hm,hmm,_,hel⟩
     ·refine ⟨[.lst ecs.length []],?_,?_⟩
      ·simp only [T.isL,T.is]
       exact ⟨_,_,rfl,⟨[],rfl,by simp,by simp⟩,rfl⟩
      ·simp only [TsRel,TRel]
       exact ⟨_,_,rfl,⟨none,0,rfl,by simp,.inl rfl⟩,rfl⟩
     ·have hlm:len≤mm:=by rw [hmm]; split <;> omega
      by_cases h0:len=0
      ·subst h0
       refine ⟨[.lst ecs.length []],?_,?_⟩
       ·simp only [T.isL,T.is]
        exact ⟨_,_,rfl,⟨[],rfl,by simp,by simp⟩,rfl⟩
       ·simp only [TsRel,TRel]
        exact ⟨_,_,rfl,⟨some ad,cap,rfl,by simp,.inl rfl⟩,rfl⟩
      ·have hspot:ad.spot=none:=by
        obtain ⟨cs',hcs,_⟩:=hel 0 (by omega)
        obtain ⟨_,hl',hcell⟩:=World.cells?_some hcs
        have:=hcell 0 hpos
        simp only [Nat.zero_mul] at this
        have h1:cs'[0]?=some cs'[0]:=by simp
        rw [h1] at this
        have hsp:=World.cell?_spot this
        rw [Addr.add_zero',Addr.add_zero'] at hsp
        exact hsp
       obtain ⟨b,off,sp⟩:=ad
       simp only at hspot
       subst hspot
       have hrow:∀ i,i<len→∃ ts,T.isL ecs ts∧ts.length=ecs.length∧TCells (·<w.heap.size) w ts b (off+i * ecs.length):=by
        intro i hi
        obtain ⟨cs',hcs,htr⟩:=hel i (by omega)
        obtain ⟨ts,k1,k2⟩:=trod_open m e ecs cs' n _ he htr
        obtain ⟨_,hl',hcell⟩:=World.cells?_some hcs
        refine ⟨ts,k1,T.isL_len k1,k2.cells fun j v hj=>?_⟩
        have hj':=(List.getElem?_eq_some_iff.1 hj).1
        have:=hcell j (by omega)
        rw [addr_add,addr_add,hj] at this
        rw [hlen]
        exact this
       obtain ⟨rows,g1,g2,g3⟩:=rows_open len off hrow
       have hbl:b<w.heap.size:=by
        obtain ⟨cs',hcs,_⟩:=hel 0 (by omega)
        obtain ⟨_,hl',hcell⟩:=World.cells?_some hcs
        have:=hcell 0 hpos
        have h1:cs'[0]?=some cs'[0]:=by simp
        rw [h1,addr_add,addr_add] at this
        exact World.block_lt_of_cell? w _ this
       refine ⟨[.lst ecs.length rows],?_,?_⟩
       ·simp only [T.isL,T.is]
        exact ⟨_,_,rfl,⟨rows,rfl,by omega,g2⟩,rfl⟩
       ·simp only [TsRel,TRel]
        exact ⟨_,_,rfl,⟨some ⟨b,off,none⟩,cap,by rw [g1],by omega,.inr ⟨b,off,rfl,hbl,g3⟩⟩,rfl⟩
    ·cases h
   ·cases h
  ·rename_i fs ht
   split at h
   ·rename_i fcs hfs
    split at h
    ·rename_i hlen
     obtain rfl:=Option.some.inj h
     obtain ⟨xs,n,rfl,_,hcl,hxl,hall⟩:=DataW.trod_struct ht hd
     have:=fields_open (F:=(·<w.heap.size)) (fun t shs cs fuel x h1 h2=>trod_open m t shs cs fuel x h1 h2) fs.toList 0 fcs hfs (fun f hf=>by
      obtain ⟨i,hi,rfl⟩:=List.getElem_of_mem hf
      have hi':i<fs.size:=by simpa using hi
      have:=hall i fs[i] (by simp [hi'])
      have hx:xs[i]?=some xs[i]:=by simp [hxl,hi']
      rw [hx] at this
      exact ⟨n,xs[i],by simpa using this⟩) (by omega)
     simpa using this
    ·cases h
   ·cases h
  ·cases h
def Cx.start (w:World):Cx:=⟨fun _=>⟨none,0⟩,(·<w.heap.size),[],w⟩
theorem wrel_start (w:World):WRel (Cx.start w) :=
 ⟨fun id o h=>by simp [Cx.start] at h,fun i j b _ h _ _=>by simp [Cx.start] at h,fun b h=>h⟩
theorem open_one {m:Nat} {t:TypeId} {sh:Sh} {v:Value} {d:DataW H} {p:List MemPlace} (hc:v.cells=#[v]) (hs:shOf P m t=some [sh]) (hd:DataW.Trod enc P w base spare held t v d p) :
  ∃ y,T.is sh y∧VRel (Cx.start w) (.t y) v:=by
 obtain ⟨fuel,hd⟩:=hd
 obtain ⟨ts,h1,h2⟩:=trod_open m t [sh] _ fuel _ hs hd
 simp only [T.isL] at h1
 obtain ⟨y,_,rfl,h1,rfl⟩:=h1
 rw [hc] at h2
 simp only [TsRel] at h2
 obtain ⟨c,cs,hcc,h2,_⟩:=h2
 obtain ⟨rfl,_⟩:=List.cons.inj hcc
 exact ⟨y,h1,by simp only [VRel]; exact h2⟩
end
end Go.Ab
end
section
namespace Go.Ab
open Go.RowKit
theorem Ext.below {x y:Cx} {W:World} (h:Ext x y) (hF:x.F=(·<W.heap.size)) (hw:x.w=W):Below W.heap.size W y.w:=by
 subst hw
 exact ⟨h.os,h.tape,h.output,h.size,fun k hk=>h.block k (by rw [hF]; exact hk)⟩
theorem calls_law {P:Program} {f:FuncId} {us:List V} (h:ACalls P f us [] fun r _=>r=.t (.bool true)) {W:World} {args:Array Value} (ha:VsRel (Cx.start W) us args.toList) :
  Calls P f args W fun e W'=>e=.returned (.bool true)∧Below W.heap.size W W':=by
 have:=h.2 (Cx.start W) args.toList rfl (wrel_start W) ha
 simp only [Array.toArray_toList] at this
 refine Calls.mono this ?_
 rintro e w' ⟨v,y,r,rfl,rfl,rfl,hv,_,hxy⟩
 simp only [VRel,TRel] at hv
 exact ⟨by rw [hv],hxy.below rfl rfl⟩
theorem trodAll_below {H:Type} {enc:TypeId × Value→H} {P:Program} (hl:laidOutB P=true) {W W':World} (hb:Below W.heap.size W W'):∀ {ts:List TypeId} {vs:List Value} {ds:List (DataW H)} {ps:List MemPlace},
  (ts.all fun t=>P.readableRec t && decide (t<P.types.size))=true→DataW.TrodAll enc P W 0 (fun _=>true) true ts vs ds ps→(∀ x∈ps,x.block<W.heap.size)→DataW.TrodAll enc P W' 0 (fun b=>decide (b<W.heap.size)) true ts vs ds ps
 | [],[],[],ps,_,h,_=>h
 | t::ts,v::vs,d::ds,ps,hr,h,hlt=>by
  obtain ⟨p,q,h1,h2,rfl⟩:=h
  simp only [List.all_cons,Bool.and_eq_true,decide_eq_true_eq] at hr
  exact ⟨p,q,Below.trod hl hr.1.1 hr.1.2 h1 hb (fun x hx=>hlt x (List.mem_append_left _ hx)),trodAll_below hl hb (by simpa using hr.2) h2 (fun x hx=>hlt x (List.mem_append_right _ hx)),rfl⟩
 | [],_::_,_,_,_,h,_=>h.elim
 | [],[],_::_,_,_,h,_=>h.elim
 | _::_,[],_,_,_,h,_=>h.elim
 | _::_,_::_,[],_,_,h,_=>h.elim
end Go.Ab
end
section
namespace Go.Ab
mutual
def Sees (σ:Store):T→V→Prop
 | .int k n,v=>v=.t (.int k n)
 | .bool b,v=>v=.t (.bool b)
 | .str s,v=>v=.t (.str s)
 | .lst sz rows,v=>∃ rs,rowsOf σ sz v=some rs∧SeesRows σ rows rs∧0<sz
def SeesRows (σ:Store):List (List T)→List (List V)→Prop
 | [],rs=>rs=[]
 | r::rows,rs=>∃ u us,rs=u::us∧SeesL σ r u∧SeesRows σ rows us
def SeesL (σ:Store):List T→List V→Prop
 | [],us=>us=[]
 | t::ts,us=>∃ u us',us=u::us'∧Sees σ t u∧SeesL σ ts us'
end
def SeesA (σ:Store) (v u:V):Prop:=(∃ t,v=.t t∧Sees σ t u)∨∃ ts us,v=.agg (ts.map .t)∧u=.agg us∧SeesL σ ts us
def SeesAs (σ:Store):List V→List V→Prop
 | [],us=>us=[]
 | v::vs,us=>∃ u us',us=u::us'∧SeesA σ v u∧SeesAs σ vs us'
theorem rowsOf_cap {x:Cx} {sz:Nat} {u:V} {v:Value} {rs:List (List V)} (h:rowsOf x.σ sz u=some rs) (hr:VRel x u v):∃ ad n c,v=.slice ad n c∧n≤c:=by
 unfold rowsOf at h
 split at h
 ·simp only [VRel] at hr; exact ⟨_,_,_,hr,Nat.le_refl _⟩
 ·simp only [VRel,TRel] at hr
  obtain ⟨a,c,hv,hc,_⟩:=hr
  exact ⟨_,_,_,hv,hc⟩
 ·simp only [VRel] at hr
  obtain ⟨a,hv,_⟩:=hr
  exact ⟨_,_,_,hv,Nat.le_refl _⟩
 ·simp only [VRel] at hr
  obtain ⟨_,_,_,a,c,hv,hc,_⟩:=hr
  exact ⟨_,_,_,hv,hc⟩
 ·cases h
section
variable {x:Cx}
theorem SeesRows.len {σ:Store}:∀ {rows:List (List T)} {rs:List (List V)},SeesRows σ rows rs→rows.length=rs.length
 | [],rs,h=>by simp only [SeesRows] at h; subst h; rfl
 | r::rows,rs,h=>by
  simp only [SeesRows] at h
  obtain ⟨u,us,rfl,_,h⟩:=h
  simp [SeesRows.len h]
theorem SeesL.len {σ:Store}:∀ {ts:List T} {us:List V},SeesL σ ts us→ts.length=us.length
 | [],rs,h=>by simp only [SeesL] at h; subst h; rfl
 | r::rows,rs,h=>by
  simp only [SeesL] at h
  obtain ⟨u,us,rfl,_,h⟩:=h
  simp [SeesL.len h]
mutual
theorem sees_rel (hx:WRel x):∀ (t:T) (u:V) (c:Value),Sees x.σ t u→VRel x u c→TRel (·<x.w.heap.size) x.w t c
 | .int k n,u,c,h,hr=>by simp only [Sees] at h; subst h; simpa [VRel,TRel] using hr
 | .bool b,u,c,h,hr=>by simp only [Sees] at h; subst h; simpa [VRel,TRel] using hr
 | .str s,u,c,h,hr=>by simp only [Sees] at h; subst h; simpa [VRel,TRel] using hr
 | .lst sz rows,u,c,h,hr=>by
  simp only [Sees] at h
  obtain ⟨rs,h1,h2,hpos⟩:=h
  obtain ⟨ad,cp,hv,hrel⟩:=rowsOf_rel hx h1 hr
  obtain ⟨ad',n',c',hv',hle⟩:=rowsOf_cap h1 hr
  rw [hv] at hv'
  simp only [Value.slice.injEq] at hv'
  obtain ⟨rfl,rfl,rfl⟩:=hv'
  have hlen:=h2.len
  simp only [TRel]
  refine ⟨ad,cp,by rw [hlen]; exact hv,by omega,?_⟩
  by_cases h0:rows.length=0
  ·exact .inl h0
  ·rcases hrel with rfl | ⟨b,off,l,rfl,g1,g2,g3,g4⟩
   ·simp at hlen; exact (h0 (by simp [hlen])).elim
   ·refine .inr ⟨b,off,rfl,?_,sees_rows hx rows rs b off l h2 g1 g2 g3⟩
    have hll:=flat_len' g1 g2
    have:l[0]?=some (l[0]'(by rw [hll]; exact Nat.mul_pos (by omega) hpos)):=by simp
    have hc:=g3 0 _ this
    exact World.block_lt_of_cell? x.w _ hc
theorem sees_rows (hx:WRel x):∀ (rows:List (List T)) (rs:List (List V)) (b off:Nat) (l:List Value) {sz:Nat},SeesRows x.σ rows rs→(∀ r∈rs,r.length=sz)→VsRel x rs.flatten l→(∀ j v,l[j]?=some v→x.w.cell? ⟨b,off+j,none⟩=some v)→TRows (·<x.w.heap.size) x.w sz rows b off
 | [],rs,b,off,l,sz,_,_,_,_=>by simp [TRows]
 | r::rows,rs,b,off,l,sz,h,h1,h2,h3=>by
  simp only [SeesRows] at h
  obtain ⟨u,us,rfl,hr,h⟩:=h
  have hu:u.length=sz:=h1 u (by simp)
  have ht:=(show VsRel x (u++us.flatten) l by simpa using h2).take sz
  have hd:=(show VsRel x (u++us.flatten) l by simpa using h2).drop sz
  rw [← hu,List.take_left] at ht
  rw [← hu,List.drop_left] at hd
  simp only [TRows]
  refine ⟨by rw [hr.len]; exact hu,sees_cells hx r u b off _ hr ht (fun j v hj=>?_),sees_rows hx rows us b (off+sz) _ h (fun r hm=>h1 r (by simp [hm])) hd (fun j v hj=>?_)⟩
  ·rw [List.getElem?_take] at hj
   split at hj
   ·exact h3 j v hj
   ·cases hj
  ·rw [List.getElem?_drop] at hj
   have:=h3 _ v hj
   rw [← hu,show off+u.length+j=off+(u.length+j) by omega]
   exact this
theorem sees_cells (hx:WRel x):∀ (r:List T) (u:List V) (b off:Nat) (l:List Value),SeesL x.σ r u→VsRel x u l→(∀ j v,l[j]?=some v→x.w.cell? ⟨b,off+j,none⟩=some v)→TCells (·<x.w.heap.size) x.w r b off
 | [],u,b,off,l,_,_,_=>by simp [TCells]
 | t::ts,us,b,off,l,h,h2,h3=>by
  simp only [SeesL] at h
  obtain ⟨u,us',rfl,hu,h⟩:=h
  simp only [VsRel] at h2
  obtain ⟨c,cs,rfl,hc,h2⟩:=h2
  simp only [TCells]
  refine ⟨⟨c,by simpa using h3 0 c rfl,sees_rel hx t u c hu hc⟩,sees_cells hx ts us' b (off+1) cs h h2 fun j v hj=>?_⟩
  rw [show off+1+j=off+(j+1) by omega]
  exact h3 (j+1) v (by simpa using hj)
end
theorem seesL_rel (hx:WRel x):∀ {ts:List T} {us:List V} {l:List Value},SeesL x.σ ts us→VsRel x us l→VsRel (Cx.start x.w) (ts.map .t) l
 | [],us,l,h,hr=>by simp only [SeesL] at h; subst h; simpa [VsRel] using hr
 | t::ts,us,l,h,hr=>by
  simp only [SeesL] at h
  obtain ⟨u,us',rfl,hu,h⟩:=h
  simp only [VsRel] at hr
  obtain ⟨c,cs,rfl,hc,hr⟩:=hr
  simp only [List.map_cons,VsRel]
  exact ⟨c,cs,rfl,(by simp only [VRel]; exact sees_rel hx t u c hu hc),seesL_rel hx h hr⟩
theorem seesA_rel (hx:WRel x) {v u:V} {c:Value} (h:SeesA x.σ v u) (hr:VRel x u c):VRel (Cx.start x.w) v c:=by
 rcases h with ⟨t,rfl,h⟩ | ⟨ts,us,rfl,rfl,h⟩
 ·simp only [VRel]; exact sees_rel hx t u c h hr
 ·simp only [VRel] at hr ⊢
  obtain ⟨l,hc,hl⟩:=hr
  exact ⟨l,hc,seesL_rel hx h hl⟩
def scalar:T→Bool
 | .lst _ _=>false
 | _=>true
end
end Go.Ab
end
section
namespace Go.Ab
def T.free:T→Bool
 | .lst _ _=>false
 | _=>true
mutual
def V.free (n:Nat):V→Bool
 | .t x=>x.free
 | .nils=>true
 | .nilp=>true
 | .nilf=>true
 | .nilm=>true
 | .any=>true
 | .nili=>true
 | .pv _=>false
 | .ptr id _=>decide (n≤id)
 | .ep id _ _ _=>decide (n≤id)
 | .sl id _ _ _=>decide (n≤id)
 | .map id=>decide (n≤id)
 | .bp _=>false
 | .bsl _ _=>false
 | .rows _ _=>false
 | .agg cs=>V.frees n cs
 | .tup cs=>V.frees n cs
 | .fn _ cs=>V.frees n cs
 | .fnb _ cs=>V.frees n cs
 | .iface _ u=>u.free n
def V.frees (n:Nat):List V→Bool
 | []=>true
 | u::us=>u.free n && V.frees n us
end
def V.freess (n:Nat) (rs:List (List V)):Bool:=rs.all (V.frees n)
def Obj.free (n:Nat):Obj→Bool
 | .box cs=>V.frees n cs
 | .slc _ rows=>V.freess n rows
 | .map _ es=>es.all fun p=>p.k.free n && p.v.free n
 | .glob _ _=>false
 | .tbox _ _=>false
 | .buf _ _=>false
structure Agree (n:Nat) (y z:Cx):Prop where
 σ:∀ i,n≤i→z.σ[i]?=y.σ[i]?
 ρ:∀ i,n≤i→z.ρ i=y.ρ i
 w:z.w=y.w
mutual
theorem VRel.free {n:Nat} {y z:Cx} (h:Agree n y z):∀ (u:V) (v:Value),u.free n=true→VRel y u v→VRel z u v
 | .t x,v,hf,hr=>by cases x <;> simp [V.free,T.free] at hf <;> simpa [VRel,TRel] using hr
 | .nils,_,_,hr=>by simpa [VRel] using hr
 | .nilp,_,_,hr=>by simpa [VRel] using hr
 | .nilf,_,_,hr=>by simpa [VRel] using hr
 | .nilm,_,_,hr=>by simpa [VRel] using hr
 | .any,_,_,hr=>by simpa [VRel] using hr
 | .nili,_,_,hr=>by simpa [VRel] using hr
 | .pv _,_,hf,_=>by simp [V.free] at hf
 | .rows _ _,_,hf,_=>by simp [V.free] at hf
 | .ptr id off,v,hf,hr=>by
  simp only [V.free,decide_eq_true_eq] at hf
  simp only [VRel,h.σ id hf,h.ρ id hf] at hr ⊢
  exact hr
 | .ep id g i j,v,hf,hr=>by
  simp only [V.free,decide_eq_true_eq] at hf
  simp only [VRel,h.σ id hf,h.ρ id hf] at hr ⊢
  exact hr
 | .sl id g off len,v,hf,hr=>by
  simp only [V.free,decide_eq_true_eq] at hf
  simp only [VRel,h.σ id hf,h.ρ id hf] at hr ⊢
  exact hr
 | .map id,v,hf,hr=>by
  simp only [V.free,decide_eq_true_eq] at hf
  simp only [VRel,h.σ id hf,h.ρ id hf] at hr ⊢
  exact hr
 | .bp _,_,hf,_=>by simp [V.free] at hf
 | .bsl _ _,_,hf,_=>by simp [V.free] at hf
 | .agg cs,v,hf,hr=>by
  simp only [V.free] at hf
  simp only [VRel] at hr ⊢
  obtain ⟨l,hv,hl⟩:=hr
  exact ⟨l,hv,VsRel.free h cs l hf hl⟩
 | .tup cs,v,hf,hr=>by
  simp only [V.free] at hf
  simp only [VRel] at hr ⊢
  obtain ⟨l,hv,hl⟩:=hr
  exact ⟨l,hv,VsRel.free h cs l hf hl⟩
 | .fn f cs,v,hf,hr=>by
  simp only [V.free] at hf
  simp only [VRel] at hr ⊢
  obtain ⟨l,hv,hl⟩:=hr
  exact ⟨l,hv,VsRel.free h cs l hf hl⟩
 | .fnb f cs,v,hf,hr=>by
  simp only [V.free] at hf
  simp only [VRel] at hr ⊢
  obtain ⟨l,hv,hl⟩:=hr
  exact ⟨l,hv,VsRel.free h cs l hf hl⟩
 | .iface ty u,v,hf,hr=>by
  simp only [V.free] at hf
  simp only [VRel] at hr ⊢
  obtain ⟨c,hv,hc⟩:=hr
  exact ⟨c,hv,VRel.free h u c hf hc⟩
theorem VsRel.free {n:Nat} {y z:Cx} (h:Agree n y z):∀ (us:List V) (l:List Value),V.frees n us=true→VsRel y us l→VsRel z us l
 | [],l,_,hr=>by simpa [VsRel] using hr
 | u::us,l,hf,hr=>by
  simp only [V.frees,Bool.and_eq_true] at hf
  simp only [VsRel] at hr ⊢
  obtain ⟨c,cs,hl,hc,hcs⟩:=hr
  exact ⟨c,cs,hl,VRel.free h u c hf.1 hc,VsRel.free h us cs hf.2 hcs⟩
end
theorem frees_app {n:Nat}:∀ {a b:List V},V.frees n a=true→V.frees n b=true→V.frees n (a++b)=true
 | [],_,_,h=>h
 | u::us,b,h,k=>by
  simp only [V.frees,Bool.and_eq_true,List.cons_append] at h ⊢
  exact ⟨h.1,frees_app h.2 k⟩
theorem frees_flat {n:Nat}:∀ {rs:List (List V)},V.freess n rs=true→V.frees n rs.flatten=true
 | [],_=>rfl
 | r::rs,h=>by
  simp only [V.freess,List.all_cons,Bool.and_eq_true] at h
  simp only [List.flatten_cons]
  exact frees_app h.1 (frees_flat h.2)
def dead (n:Nat):Store:=List.replicate n (.slc 0 [])
def Cx.dead (n:Nat) (w:World):Cx:=⟨fun _=>⟨none,0⟩,(·<w.heap.size),Ab.dead n,w⟩
def Cx.on (ς:Store) (w:World):Cx:=⟨fun _=>⟨none,0⟩,(·<w.heap.size),ς,w⟩
theorem wrel_dead (n:Nat) (w:World):WRel (Cx.dead n w):=by
 refine ⟨fun id o h=>?_,fun i j b _ _ _ h=>by simp [Cx.dead] at h,fun b h=>h⟩
 have:o=.slc 0 []:=by
  have:=List.mem_of_getElem? h
  exact List.eq_of_mem_replicate this
 subst this
 exact .inl ⟨.inl rfl,rfl⟩
section
variable {x:Cx}
theorem sees_rel_dead (ς:Store) {v:V} {c:Value} (h:VRel (Cx.start x.w) v c) (hs:(∃ t,v=.t t)∨∃ ts:List T,v=.agg (ts.map .t)):VRel (Cx.on ς x.w) v c:=by
 rcases hs with ⟨t,rfl⟩ | ⟨ts,rfl⟩
 ·simp only [VRel] at h ⊢; exact h
 ·simp only [VRel] at h ⊢
  obtain ⟨l,hc,hl⟩:=h
  refine ⟨l,hc,?_⟩
  clear hc
  induction ts generalizing l with
  | nil=>simpa [VsRel] using hl
  | cons t ts ih =>
   simp only [List.map_cons,VsRel] at hl ⊢
   obtain ⟨c,cs,rfl,h1,h2⟩:=hl
   exact ⟨c,cs,rfl,(by simp only [VRel] at h1 ⊢; exact h1),ih _ h2⟩
theorem seesAs_rel_dead (ς:Store) (hx:WRel x):∀ {vs us:List V} {l:List Value},SeesAs x.σ vs us→VsRel x us l→VsRel (Cx.on ς x.w) vs l
 | [],us,l,h,hr=>by simp only [SeesAs] at h; subst h; simpa [VsRel] using hr
 | v::vs,us,l,h,hr=>by
  simp only [SeesAs] at h
  obtain ⟨u,us',rfl,hu,h⟩:=h
  simp only [VsRel] at hr
  obtain ⟨c,cs,rfl,hc,hr⟩:=hr
  simp only [VsRel]
  refine ⟨c,cs,rfl,sees_rel_dead ς (seesA_rel hx hu hc) ?_,seesAs_rel_dead ς hx h hr⟩
  rcases hu with ⟨t,rfl,_⟩ | ⟨ts,us,rfl,_⟩
  ·exact .inl ⟨t,rfl⟩
  ·exact .inr ⟨ts,rfl⟩
theorem acalls_anew_on {P:Program} {f:FuncId} {vs us:List V} {σ ς:Store} {R:V→Store→Prop} (hdl:ς.length=σ.length) (hw:∀ x:Cx,x.σ=σ→WRel x→WRel (Cx.on ς x.w))
  (h:ACalls P f vs ς fun r σ'=>∃ τ,σ'=ς++τ∧r.free σ.length=true∧(τ.all (Obj.free σ.length))=true∧R r τ) (hs:SeesAs σ vs us) :
  ACalls P f us σ fun r σ'=>∃ τ,σ'=σ++τ∧R r τ:=by
 refine ⟨h.1,fun x cargs hσ hx ha=>?_⟩
 subst hσ
 have:=h.2 (Cx.on ς x.w) cargs rfl (hw x rfl hx) (seesAs_rel_dead _ hx hs ha)
 refine Calls.mono this ?_
 rintro e w' ⟨v,y,r,rfl,rfl,⟨τ,hτ,hfr,hfo,hR⟩,hv,hy,hxy⟩
 have hyF:∀ b,b<x.w.heap.size→y.F b:=fun b hb=>hxy.F b hb
 have hblk:∀ b,b<x.w.heap.size→y.w.heap[b]?=x.w.heap[b]?:=fun b hb=>hxy.block b hb
 have hylen:y.σ.length=x.σ.length+τ.length:=by rw [hτ]; simp [hdl]
 -- the context behind the call
 have hag:Agree x.σ.length y { ρ:=fun i=>if i<x.σ.length then x.ρ i else y.ρ i,F:=x.F,σ:=x.σ++τ,w:=y.w }:=by
  refine ⟨fun i hi=>?_,fun i hi=>by simp [show ¬ i<x.σ.length by omega],rfl⟩
  rw [hτ]
  show (x.σ++τ)[i]?=_
  rw [List.getElem?_append_right hi,List.getElem?_append_right (by rw [hdl]; exact hi),hdl]
 have hext:Ext x { ρ:=fun i=>if i<x.σ.length then x.ρ i else y.ρ i,F:=x.F,σ:=x.σ++τ,w:=y.w } :=
  ⟨hxy.os,hxy.tape,hxy.output,hxy.size,fun _ h=>h,fun b hb=>hblk b (hx.low b hb),fun id o ho=>by
   have hid:=(List.getElem?_eq_some_iff.1 ho).1
   exact ⟨o,by show (x.σ++τ)[id]?=_; rw [List.getElem?_append_left hid]; exact ho,o.like_refl,Nat.le_refl _,fun _=>by simp [hid]⟩⟩
 have hnewblk:∀ i b o,x.σ.length≤i→y.σ[i]?=some o→(y.ρ i).blk=some b→x.w.heap.size≤b:=by
  intro i b o hi ho hb
  have:=(ORel.blk_lt (hy.objs i o ho) hb).2
  rcases Nat.lt_or_ge b x.w.heap.size with h' | h'
  ·exact (this (hyF b h')).elim
  ·exact h'
 have hget:∀ i,i<(x.σ++τ).length→x.σ.length≤i→∃ o,y.σ[i]?=some o:=by
  intro i hi h'
  simp only [List.length_append] at hi
  exact ⟨y.σ[i]'(by omega),by simp⟩
 refine ⟨v,{ ρ:=fun i=>if i<x.σ.length then x.ρ i else y.ρ i,F:=x.F,σ:=x.σ++τ,w:=y.w },r,rfl,rfl,⟨τ,rfl,hR⟩,VRel.free hag r v hfr hv,⟨fun id o ho=>?_,fun i j b hij hi hj hb=>?_,fun b hb=>Nat.lt_of_lt_of_le (hx.low b hb) hxy.size⟩,hext⟩
 ·by_cases hid:id<x.σ.length
  ·have ho':x.σ[id]?=some o:=by
    have:(x.σ++τ)[id]?=some o:=ho
    rwa [List.getElem?_append_left hid] at this
   exact ORel.keep hext (by simp [hid]) (fun b _ hlt hf=>⟨hblk b hlt,hf⟩) (hx.objs id o ho')
  ·have hid':x.σ.length≤id:=by omega
   have ho':y.σ[id]?=some o:=by rw [← hag.σ id hid']; exact ho
   have hof:o.free x.σ.length=true:=by
    have hm:(x.σ++τ)[id]?=some o:=ho
    rw [List.getElem?_append_right hid'] at hm
    exact List.all_eq_true.1 hfo o (List.mem_of_getElem? hm)
   have hob:=hy.objs id o ho'
   have hρ:=hag.ρ id hid'
   have nF:∀ b,(y.ρ id).blk=some b→¬ x.F b:=fun b hb hF=>by
    have h1:=hnewblk id b o hid' ho' hb
    have h2:=hx.low b hF
    omega
   cases o with
   | box cs =>
    rcases hob with ⟨h1,h2⟩ | ⟨b,arr,ty,fr,h1,h2,h3,h4,h5⟩
    ·exact .inl ⟨hρ.trans h1,h2⟩
    ·exact .inr ⟨b,arr,ty,fr,hρ ▸ h1,nF b h1,h3,h4,VsRel.free hag _ _ hof h5⟩
   | slc sz rows =>
    rcases hob with ⟨h1,h2⟩ | ⟨b,arr,ty,fr,l,h1,h2,h3,h4,h5,h6,h7,h8,h9⟩
    ·exact .inl ⟨h1,hρ.trans h2⟩
    ·exact .inr ⟨b,arr,ty,fr,l,hρ ▸ h1,nF b h1,h3,h4,hρ ▸ h5,hρ ▸ h6,h7,VsRel.free hag _ _ (frees_flat hof) h8,h9⟩
   | map c es =>
    obtain ⟨b,arr,h1,h2,h3,h4⟩:=hob
    refine ⟨b,arr,hρ ▸ h1,nF b h1,h3,?_⟩
    have mfree:∀ {es:List ME} {l:List MapEntry},(es.all fun p=>p.k.free x.σ.length && p.v.free x.σ.length)=true→MRel y es l→MRel { ρ:=fun i=>if i<x.σ.length then x.ρ i else y.ρ i,F:=x.F,σ:=x.σ++τ,w:=y.w } es l:=by
     intro es
     induction es with
     | nil=>intro l _ h; simpa [MRel] using h
     | cons p es ih =>
      intro l hf h
      simp only [List.all_cons,Bool.and_eq_true] at hf
      simp only [MRel] at h ⊢
      obtain ⟨c,cs,hl,h1,h2,hb,h3⟩:=h
      exact ⟨c,cs,hl,VRel.free hag _ _ hf.1.1 h1,VRel.free hag _ _ hf.1.2 h2,hb,ih hf.2 h3⟩
    exact mfree hof h4
   | glob b o=>simp [Obj.free] at hof
   | tbox _ _=>simp [Obj.free] at hof
   | buf _ _=>simp [Obj.free] at hof
 ·simp only at hb ⊢
  by_cases h1:i<x.σ.length
  ·simp only [h1,if_true] at hb
   by_cases h2:j<x.σ.length
   ·simp only [h2,if_true]; exact hx.inj i j b hij h1 h2 hb
   ·simp only [h2,if_false]
    intro hb'
    obtain ⟨o,ho⟩:=hget j hj (by omega)
    have:=hnewblk j b o (by omega) ho hb'
    have:=(ORel.blk_lt (hx.objs i x.σ[i] (by simp [h1])) hb).1
    omega
  ·simp only [h1,if_false] at hb
   obtain ⟨oi,hoi⟩:=hget i hi (by omega)
   by_cases h2:j<x.σ.length
   ·simp only [h2,if_true]
    intro hb'
    have:=hnewblk i b oi (by omega) hoi hb
    have:=(ORel.blk_lt (hx.objs j x.σ[j] (by simp [h2])) hb').1
    omega
   ·simp only [h2,if_false]
    obtain ⟨oj,hoj⟩:=hget j hj (by omega)
    exact hy.inj i j b hij (List.getElem?_eq_some_iff.1 hoi).1 (List.getElem?_eq_some_iff.1 hoj).1 hb
theorem acalls_anew {P:Program} {f:FuncId} {vs us:List V} {σ:Store} {R:V→Store→Prop}
  (h:ACalls P f vs (dead σ.length) fun r σ'=>∃ τ,σ'=dead σ.length++τ∧r.free σ.length=true∧(τ.all (Obj.free σ.length))=true∧R r τ) (hs:SeesAs σ vs us) :
  ACalls P f us σ fun r σ'=>∃ τ,σ'=σ++τ∧R r τ :=
 acalls_anew_on (by simp [dead]) (fun x _ _=>wrel_dead _ x.w) h hs
end
end Go.Ab
end
section
namespace Go.Ab
mutual
theorem V.lt_mono {m n:Nat} (h:m≤n):∀ u:V,u.lt m=true→u.lt n=true
 | .t _,_=>rfl
 | .nils,_=>rfl
 | .nilp,_=>rfl
 | .nilf,_=>rfl
 | .nilm,_=>rfl
 | .any,_=>rfl
 | .nili,_=>rfl
 | .pv _,_=>rfl
 | .ptr id _,k=>by simp only [V.lt,decide_eq_true_eq] at k ⊢; omega
 | .ep id _ _ _,k=>by simp only [V.lt,decide_eq_true_eq] at k ⊢; omega
 | .sl id _ _ _,k=>by simp only [V.lt,decide_eq_true_eq] at k ⊢; omega
 | .map id,k=>by simp only [V.lt,decide_eq_true_eq] at k ⊢; omega
 | .bp id,k=>by simp only [V.lt,decide_eq_true_eq] at k ⊢; omega
 | .bsl id _,k=>by simp only [V.lt,decide_eq_true_eq] at k ⊢; omega
 | .rows _ rs,k=>by simp only [V.lt] at k ⊢; exact V.ltss_mono h rs k
 | .agg cs,k=>by simp only [V.lt] at k ⊢; exact V.lts_mono h cs k
 | .tup cs,k=>by simp only [V.lt] at k ⊢; exact V.lts_mono h cs k
 | .fn _ cs,k=>by simp only [V.lt] at k ⊢; exact V.lts_mono h cs k
 | .fnb _ cs,k=>by simp only [V.lt] at k ⊢; exact V.lts_mono h cs k
 | .iface _ u,k=>by simp only [V.lt] at k ⊢; exact V.lt_mono h u k
theorem V.lts_mono {m n:Nat} (h:m≤n):∀ us:List V,V.lts m us=true→V.lts n us=true
 | [],_=>rfl
 | u::us,k=>by
  simp only [V.lts,Bool.and_eq_true] at k ⊢
  exact ⟨V.lt_mono h u k.1,V.lts_mono h us k.2⟩
theorem V.ltss_mono {m n:Nat} (h:m≤n):∀ rs:List (List V),V.ltss m rs=true→V.ltss n rs=true
 | [],_=>rfl
 | r::rs,k=>by
  simp only [V.ltss,Bool.and_eq_true] at k ⊢
  exact ⟨V.lts_mono h r k.1,V.ltss_mono h rs k.2⟩
end
theorem Obj.lt_mono {m n:Nat} (h:m≤n):∀ o:Obj,o.lt m=true→o.lt n=true
 | .box cs,k=>V.lts_mono h cs k
 | .slc _ rows,k=>V.ltss_mono h rows k
 | .map _ es,k=>by
  simp only [Obj.lt,List.all_eq_true,Bool.and_eq_true] at k ⊢
  exact fun p hp=>⟨V.lt_mono h _ (k p hp).1,V.lt_mono h _ (k p hp).2⟩
 | .glob _ _,_=>rfl
 | .tbox _ cs,k=>V.lts_mono h cs k
 | .buf _ _,_=>rfl
theorem ltσ_mono {m n:Nat} (h:m≤n) {σ:Store} (k:ltσ m σ=true):ltσ n σ=true:=by
 simp only [ltσ,List.all_eq_true] at k ⊢
 exact fun o ho=>Obj.lt_mono h o (k o ho)
end Go.Ab
end
section
namespace Go.Ab
def LJ {X:Type} (ks:List Nat) (vs:X→Env) (st:X→Store) (I:X→Prop) (ms:X→Nat) (e:Env) (n:Nat) (s:St):Prop:=∃ x,I x∧n=ms x∧s=⟨.go,vs x++keep ks e,st x⟩
def LK {X:Type} (b:Nat) (ks' ks:List Nat) (vs:X→Env) (st:X→Store) (I:X→Prop) (ms:X→Nat) (e:Env) (m:Store→Nat) (x:X) (s:St):Prop :=
 CutOk b s ks' (m s.σ)∧∃ n',n'<ms x∧LJ ks vs st I ms e n' (s.cut ks' (m s.σ))
section
variable {X:Type} {b:Nat} {body:(Ex→St→Prop)→St→Prop} {Q:Ex→St→Prop} {e e':Env} {σ σ' τ:Store} {ks ks':List Nat} {vs:X→Env} {st:X→Store} {I:X→Prop} {ms:X→Nat} {x:X}
theorem loop_p (ks' ks:List Nat) (vs:X→Env) (I:X→Prop) (ms:X→Nat) (x0:X) (hb:b≤σ.length) (hI:I x0) (h1:keep ks' e=vs x0++keep ks e)
  (h3:∀ x,I x→body (thenK (LK b ks' ks vs (fun _=>σ) I ms e (fun _=>σ.length) x) Q) ⟨.go,vs x++keep ks e,σ⟩):LoopV b body Q ⟨.go,e,σ⟩:=by
 refine ⟨ks',fun _=>σ.length,LJ ks vs (fun _=>σ) I ms e,ms x0,cut_all hb,⟨x0,hI,rfl,by simp only [St.cut,h1,List.take_length]⟩,?_⟩
 rintro n s' ⟨x,hx,rfl,rfl⟩
 exact h3 x hx
theorem lk_p {m:Nat} (x':X) (hb:b≤σ.length) (hmm:m=σ.length) (hσ:ltσ σ.length σ=true) (hs:σ'=σ++τ) (hm:ms x'<ms x) (hI:I x') (hl:ltE σ.length (keep ks' e')=true) (he:keep ks' e'=vs x'++keep ks e):LK b ks' ks vs (fun _=>σ) I ms e (fun _=>m) x ⟨.go,e',σ'⟩:=by
 subst hmm hs
 exact ⟨cut_to rfl hb hl hσ,_,hm,x',hI,rfl,by simp only [St.cut,he,List.take_left]⟩
theorem lk_p0 {m:Nat} (x':X) (hb:b≤σ.length) (hmm:m=σ.length) (hm:ms x'<ms x) (hI:I x') (he:keep ks' e'=vs x'++keep ks e):LK b ks' ks vs (fun _=>σ) I ms e (fun _=>m) x ⟨.go,e',σ⟩:=by
 subst hmm
 exact ⟨cut_all hb,_,hm,x',hI,rfl,by simp only [St.cut,he,List.take_length]⟩
theorem loop_g (ks' ks:List Nat) (vs:X→Env) (st:X→Store) (I:X→Prop) (ms:X→Nat) (x0:X) (hb:b≤σ.length) (hI:I x0) (hs:σ=st x0) (h1:keep ks' e=vs x0++keep ks e)
  (h3:∀ x,I x→body (thenK (LK b ks' ks vs st I ms e List.length x) Q) ⟨.go,vs x++keep ks e,st x⟩):LoopV b body Q ⟨.go,e,σ⟩:=by
 refine loop_all ks' (LJ ks vs st I ms e) (ms x0) hb ⟨x0,hI,rfl,by simp only [St.cut,h1,List.take_length,← hs]⟩ ?_
 rintro n s' ⟨x,hx,rfl,rfl⟩
 exact h3 x hx
theorem lk_g (x':X) (hm:ms x'<ms x) (hI:I x') (hb:b≤σ'.length) (hs:σ'=st x') (he:keep ks' e'=vs x'++keep ks e):LK b ks' ks vs st I ms e List.length x ⟨.go,e',σ'⟩ :=
 ⟨cut_all hb,_,hm,x',hI,rfl,by simp only [St.cut,he,List.take_length,hs]⟩
end
theorem at_of {α:Type} {l:List α} {k:Nat} (h:decide ((k:Int)<(l.length:Int))=true):∃ x,l[k]?=some x∧k<l.length:=by
 have hk:k<l.length:=by simpa using h
 exact ⟨l[k],by simp [hk],hk⟩
theorem end_of {n k:Nat} (h:decide ((k:Int)<(n:Int))=false) (hk:k≤n):k=n:=by
 have:¬ (k:Int)<n:=by simpa using h
 omega
theorem drop_of {α:Type} {l:List α} {k:Nat} {x:α} (h:l[k]?=some x):l.drop k=x::l.drop (k+1):=by
 obtain ⟨hk,rfl⟩:=List.getElem?_eq_some_iff.1 h
 exact (List.getElem_cons_drop hk).symm
theorem take_of {α:Type} {l:List α} {k:Nat} {x:α} (h:l[k]?=some x):l.take (k+1)=l.take k++[x]:=by
 obtain ⟨hk,rfl⟩:=List.getElem?_eq_some_iff.1 h
 exact (List.take_append_getElem hk).symm
theorem all_step {α:Type} {l:List α} {p:α→Bool} {k:Nat} {x:α} (h:l[k]?=some x) (hp:(l.take k).all p=true) (hx:p x=true):(l.take (k+1)).all p=true:=by
 rw [take_of h,List.all_append,hp]
 simp [hx]
theorem all_not {α:Type} {l:List α} {p:α→Bool} {k:Nat} {x:α} (h:l[k]?=some x) (hx:p x=false):l.all p=false:=by
 obtain ⟨hk,rfl⟩:=List.getElem?_eq_some_iff.1 h
 rw [List.all_eq_false]
 exact ⟨_,List.getElem_mem hk,by simp [hx]⟩
theorem i64_succ {k:Nat} (h:k<4611686018427387904):IntKind.i64.wrap ((k:Int)+1)=((k+1:Nat):Int) :=
 IntWalk.i64_in _ (by omega)
theorem lt_head {σ ρ:Store} (hσ:ltσ σ.length σ=true) (hρ:ltσ (σ.length+ρ.length) ρ=true):ltσ (σ++ρ).length (σ++ρ)=true:=by
 rw [List.length_append,q_ltσ_app,ltσ_mono (Nat.le_add_right _ _) hσ,hρ]
 rfl
theorem lk_pm {X:Type} {b m:Nat} {e e':Env} {σ ρ σ' τ:Store} {ks ks':List Nat} {vs:X→Env} {I:X→Prop} {ms:X→Nat} {x:X} (x':X) (hb:b≤σ.length) (hmm:m=(σ++ρ).length) (hσ:ltσ σ.length σ=true) (hρ:ltσ (σ.length+ρ.length) ρ=true) (hs:σ'=ρ++τ) (hm:ms x'<ms x) (hI:I x') (hl:ltE (σ.length+ρ.length) (keep ks' e')=true) (he:keep ks' e'=vs x'++keep ks e):LK b ks' ks vs (fun _=>σ++ρ) I ms e (fun _=>m) x ⟨.go,e',σ++σ'⟩ :=
 lk_p x' (by simp; omega) hmm (lt_head hσ hρ) (by rw [hs,List.append_assoc]) hm hI (by simpa using hl) he
theorem q_cons_get3 (a:Obj) (l:Store) (i0 i1:Nat):(a::l)[i0+(i1+1)]?=l[i0+i1]?:=by
 rw [show i0+(i1+1)=(i0+i1)+1 by omega]; rfl
theorem q_cons_set3 (a o:Obj) (l:Store) (i0 i1:Nat):(a::l).set (i0+(i1+1)) o=a::l.set (i0+i1) o:=by
 rw [show i0+(i1+1)=(i0+i1)+1 by omega]; rfl
theorem q_cons_get4 (a:Obj) (l:Store) (i0 i1 i2:Nat):(a::l)[i0+(i1+(i2+1))]?=l[i0+(i1+i2)]?:=by
 rw [show i0+(i1+(i2+1))=(i0+(i1+i2))+1 by omega]; rfl
theorem q_cons_set4 (a o:Obj) (l:Store) (i0 i1 i2:Nat):(a::l).set (i0+(i1+(i2+1))) o=a::l.set (i0+(i1+i2)) o:=by
 rw [show i0+(i1+(i2+1))=(i0+(i1+i2))+1 by omega]; rfl
theorem q_cons_get5 (a:Obj) (l:Store) (i0 i1 i2 i3:Nat):(a::l)[i0+(i1+(i2+(i3+1)))]?=l[i0+(i1+(i2+i3))]?:=by
 rw [show i0+(i1+(i2+(i3+1)))=(i0+(i1+(i2+i3)))+1 by omega]; rfl
theorem q_cons_set5 (a o:Obj) (l:Store) (i0 i1 i2 i3:Nat):(a::l).set (i0+(i1+(i2+(i3+1)))) o=a::l.set (i0+(i1+(i2+i3))) o:=by
 rw [show i0+(i1+(i2+(i3+1)))=(i0+(i1+(i2+i3)))+1 by omega]; rfl
theorem q_cons_get6 (a:Obj) (l:Store) (i0 i1 i2 i3 i4:Nat):(a::l)[i0+(i1+(i2+(i3+(i4+1))))]?=l[i0+(i1+(i2+(i3+i4)))]?:=by
 rw [show i0+(i1+(i2+(i3+(i4+1))))=(i0+(i1+(i2+(i3+i4))))+1 by omega]; rfl
theorem q_cons_set6 (a o:Obj) (l:Store) (i0 i1 i2 i3 i4:Nat):(a::l).set (i0+(i1+(i2+(i3+(i4+1))))) o=a::l.set (i0+(i1+(i2+(i3+i4)))) o:=by
 rw [show i0+(i1+(i2+(i3+(i4+1))))=(i0+(i1+(i2+(i3+i4))))+1 by omega]; rfl
theorem q_cons_get7 (a:Obj) (l:Store) (i0 i1 i2 i3 i4 i5:Nat):(a::l)[i0+(i1+(i2+(i3+(i4+(i5+1)))))]?=l[i0+(i1+(i2+(i3+(i4+i5))))]?:=by
 rw [show i0+(i1+(i2+(i3+(i4+(i5+1)))))=(i0+(i1+(i2+(i3+(i4+i5)))))+1 by omega]; rfl
theorem q_cons_set7 (a o:Obj) (l:Store) (i0 i1 i2 i3 i4 i5:Nat):(a::l).set (i0+(i1+(i2+(i3+(i4+(i5+1)))))) o=a::l.set (i0+(i1+(i2+(i3+(i4+i5))))) o:=by
 rw [show i0+(i1+(i2+(i3+(i4+(i5+1)))))=(i0+(i1+(i2+(i3+(i4+i5)))))+1 by omega]; rfl
theorem q_cons_get8 (a:Obj) (l:Store) (i0 i1 i2 i3 i4 i5 i6:Nat):(a::l)[i0+(i1+(i2+(i3+(i4+(i5+(i6+1))))))]?=l[i0+(i1+(i2+(i3+(i4+(i5+i6)))))]?:=by
 rw [show i0+(i1+(i2+(i3+(i4+(i5+(i6+1))))))=(i0+(i1+(i2+(i3+(i4+(i5+i6))))))+1 by omega]; rfl
theorem q_cons_set8 (a o:Obj) (l:Store) (i0 i1 i2 i3 i4 i5 i6:Nat):(a::l).set (i0+(i1+(i2+(i3+(i4+(i5+(i6+1))))))) o=a::l.set (i0+(i1+(i2+(i3+(i4+(i5+i6)))))) o:=by
 rw [show i0+(i1+(i2+(i3+(i4+(i5+(i6+1))))))=(i0+(i1+(i2+(i3+(i4+(i5+i6))))))+1 by omega]; rfl
theorem q_cons_get9 (a:Obj) (l:Store) (i0 i1 i2 i3 i4 i5 i6 i7:Nat):(a::l)[i0+(i1+(i2+(i3+(i4+(i5+(i6+(i7+1)))))))]?=l[i0+(i1+(i2+(i3+(i4+(i5+(i6+i7))))))]?:=by
 rw [show i0+(i1+(i2+(i3+(i4+(i5+(i6+(i7+1)))))))=(i0+(i1+(i2+(i3+(i4+(i5+(i6+i7)))))))+1 by omega]; rfl
theorem q_cons_set9 (a o:Obj) (l:Store) (i0 i1 i2 i3 i4 i5 i6 i7:Nat):(a::l).set (i0+(i1+(i2+(i3+(i4+(i5+(i6+(i7+1)))))))) o=a::l.set (i0+(i1+(i2+(i3+(i4+(i5+(i6+i7))))))) o:=by
 rw [show i0+(i1+(i2+(i3+(i4+(i5+(i6+(i7+1)))))))=(i0+(i1+(i2+(i3+(i4+(i5+(i6+i7)))))))+1 by omega]; rfl
theorem q_cons_get10 (a:Obj) (l:Store) (i0 i1 i2 i3 i4 i5 i6 i7 i8:Nat):(a::l)[i0+(i1+(i2+(i3+(i4+(i5+(i6+(i7+(i8+1))))))))]?=l[i0+(i1+(i2+(i3+(i4+(i5+(i6+(i7+i8)))))))]?:=by
 rw [show i0+(i1+(i2+(i3+(i4+(i5+(i6+(i7+(i8+1))))))))=(i0+(i1+(i2+(i3+(i4+(i5+(i6+(i7+i8))))))))+1 by omega]; rfl
theorem q_cons_set10 (a o:Obj) (l:Store) (i0 i1 i2 i3 i4 i5 i6 i7 i8:Nat):(a::l).set (i0+(i1+(i2+(i3+(i4+(i5+(i6+(i7+(i8+1))))))))) o=a::l.set (i0+(i1+(i2+(i3+(i4+(i5+(i6+(i7+i8)))))))) o:=by
 rw [show i0+(i1+(i2+(i3+(i4+(i5+(i6+(i7+(i8+1))))))))=(i0+(i1+(i2+(i3+(i4+(i5+(i6+(i7+i8))))))))+1 by omega]; rfl
theorem q_cons_get11 (a:Obj) (l:Store) (i0 i1 i2 i3 i4 i5 i6 i7 i8 i9:Nat):(a::l)[i0+(i1+(i2+(i3+(i4+(i5+(i6+(i7+(i8+(i9+1)))))))))]?=l[i0+(i1+(i2+(i3+(i4+(i5+(i6+(i7+(i8+i9))))))))]?:=by
 rw [show i0+(i1+(i2+(i3+(i4+(i5+(i6+(i7+(i8+(i9+1)))))))))=(i0+(i1+(i2+(i3+(i4+(i5+(i6+(i7+(i8+i9)))))))))+1 by omega]; rfl
theorem q_cons_set11 (a o:Obj) (l:Store) (i0 i1 i2 i3 i4 i5 i6 i7 i8 i9:Nat):(a::l).set (i0+(i1+(i2+(i3+(i4+(i5+(i6+(i7+(i8+(i9+1)))))))))) o=a::l.set (i0+(i1+(i2+(i3+(i4+(i5+(i6+(i7+(i8+i9))))))))) o:=by
 rw [show i0+(i1+(i2+(i3+(i4+(i5+(i6+(i7+(i8+(i9+1)))))))))=(i0+(i1+(i2+(i3+(i4+(i5+(i6+(i7+(i8+i9)))))))))+1 by omega]; rfl
theorem q_cons_get12 (a:Obj) (l:Store) (i0 i1 i2 i3 i4 i5 i6 i7 i8 i9 i10:Nat):(a::l)[i0+(i1+(i2+(i3+(i4+(i5+(i6+(i7+(i8+(i9+(i10+1))))))))))]?=l[i0+(i1+(i2+(i3+(i4+(i5+(i6+(i7+(i8+(i9+i10)))))))))]?:=by
 rw [show i0+(i1+(i2+(i3+(i4+(i5+(i6+(i7+(i8+(i9+(i10+1))))))))))=(i0+(i1+(i2+(i3+(i4+(i5+(i6+(i7+(i8+(i9+i10))))))))))+1 by omega]; rfl
theorem q_cons_set12 (a o:Obj) (l:Store) (i0 i1 i2 i3 i4 i5 i6 i7 i8 i9 i10:Nat):(a::l).set (i0+(i1+(i2+(i3+(i4+(i5+(i6+(i7+(i8+(i9+(i10+1))))))))))) o=a::l.set (i0+(i1+(i2+(i3+(i4+(i5+(i6+(i7+(i8+(i9+i10)))))))))) o:=by
 rw [show i0+(i1+(i2+(i3+(i4+(i5+(i6+(i7+(i8+(i9+(i10+1))))))))))=(i0+(i1+(i2+(i3+(i4+(i5+(i6+(i7+(i8+(i9+i10))))))))))+1 by omega]; rfl
theorem q_cells_t (x:T):cellsOf (.t x)=some [.t x]:=by simp only [cellsOf]
theorem q_one_t (x:T):one (.t x)=true:=by simp only [one]
theorem q_cells_nils:cellsOf (.nils)=some [.nils]:=by simp only [cellsOf]
theorem q_one_nils:one (.nils)=true:=by simp only [one]
theorem q_cells_nilp:cellsOf (.nilp)=some [.nilp]:=by simp only [cellsOf]
theorem q_one_nilp:one (.nilp)=true:=by simp only [one]
theorem q_cells_nilf:cellsOf (.nilf)=some [.nilf]:=by simp only [cellsOf]
theorem q_one_nilf:one (.nilf)=true:=by simp only [one]
theorem q_cells_nili:cellsOf (.nili)=some [.nili]:=by simp only [cellsOf]
theorem q_one_nili:one (.nili)=true:=by simp only [one]
theorem q_cells_pv (c:List T):cellsOf (.pv c)=some [.pv c]:=by simp only [cellsOf]
theorem q_one_pv (c:List T):one (.pv c)=true:=by simp only [one]
theorem q_cells_ptr (i o:Nat):cellsOf (.ptr i o)=some [.ptr i o]:=by simp only [cellsOf]
theorem q_one_ptr (i o:Nat):one (.ptr i o)=true:=by simp only [one]
theorem q_cells_ep (i g a b:Nat):cellsOf (.ep i g a b)=some [.ep i g a b]:=by simp only [cellsOf]
theorem q_one_ep (i g a b:Nat):one (.ep i g a b)=true:=by simp only [one]
theorem q_cells_sl (i g o l:Nat):cellsOf (.sl i g o l)=some [.sl i g o l]:=by simp only [cellsOf]
theorem q_one_sl (i g o l:Nat):one (.sl i g o l)=true:=by simp only [one]
theorem q_cells_bp (i:Nat):cellsOf (.bp i)=some [.bp i]:=by simp only [cellsOf]
theorem q_one_bp (i:Nat):one (.bp i)=true:=by simp only [one]
theorem q_cells_map (i:Nat):cellsOf (.map i)=some [.map i]:=by simp only [cellsOf]
theorem q_one_map (i:Nat):one (.map i)=true:=by simp only [one]
theorem q_cells_rows (n:Nat) (r:List (List V)):cellsOf (.rows n r)=some [.rows n r]:=by simp only [cellsOf]
theorem q_one_rows (n:Nat) (r:List (List V)):one (.rows n r)=true:=by simp only [one]
theorem q_cells_fnb (f:Fn) (c:List V):cellsOf (.fnb f c)=some [.fnb f c]:=by simp only [cellsOf]
theorem q_one_fnb (f:Fn) (c:List V):one (.fnb f c)=true:=by simp only [one]
theorem q_cells_nilm:cellsOf (.nilm)=some [.nilm]:=by simp only [cellsOf]
theorem q_cells_any:cellsOf (.any)=some [.any]:=by simp only [cellsOf]
theorem q_one_any:one (.any)=true:=by simp only [one]
theorem q_one_nilm:one (.nilm)=true:=by simp only [one]
theorem q_cells_fn (f:Fn) (c:List V):cellsOf (.fn f c)=some [.fn f c]:=by simp only [cellsOf]
theorem q_one_fn (f:Fn) (c:List V):one (.fn f c)=true:=by simp only [one]
theorem q_cells_iface (n:Nat) (u:V):cellsOf (.iface n u)=some [.iface n u]:=by simp only [cellsOf]
theorem q_one_iface (n:Nat) (u:V):one (.iface n u)=true:=by simp only [one]
theorem q_cells_agg (c:List V):cellsOf (.agg c)=some c:=by simp only [cellsOf]
theorem q_one_agg (c:List V):one (.agg c)=false:=by simp only [one]
mutual
def T.size:T→Nat
 | .int _ _=>0
 | .bool _=>0
 | .str s=>s.length
 | .lst _ rows=>rows.length+T.sizeR rows
def T.sizeR:List (List T)→Nat
 | []=>0
 | r::rows=>T.sizeL r+T.sizeR rows
def T.sizeL:List T→Nat
 | []=>0
 | t::ts=>t.size+T.sizeL ts
end
theorem sizeL_cons {t:T} {ts:List T}:T.sizeL (t::ts)=t.size+T.sizeL ts:=by simp only [T.sizeL]
theorem sizeL_nil:T.sizeL []=0:=by simp only [T.sizeL]
theorem sizeR_cons {t:List T} {ts:List (List T)}:T.sizeR (t::ts)=T.sizeL t+T.sizeR ts:=by simp only [T.sizeR]
theorem sizeR_nil:T.sizeR []=0:=by simp only [T.sizeR]
theorem size_int {k:IntKind} {n:Int}:(T.int k n).size=0:=by simp only [T.size]
theorem size_bool {b:Bool}:(T.bool b).size=0:=by simp only [T.size]
theorem size_str {s:List UInt8}:(T.str s).size=s.length:=by simp only [T.size]
theorem size_lst {n:Nat} {rows:List (List T)}:(T.lst n rows).size=rows.length+T.sizeR rows:=by simp only [T.size]
attribute [irreducible] T.size T.sizeR T.sizeL
theorem sizeR_app:∀ (a b:List (List T)),T.sizeR (a++b)=T.sizeR a+T.sizeR b
 | [],_=>by simp [sizeR_nil]
 | r::a,b=>by simp only [List.cons_append,sizeR_cons,sizeR_app a b]; omega
mutual
def Own (σ:Store):T→V→List Nat→Prop
 | .int k n,v,is=>v=.t (.int k n)∧is=[]
 | .bool b,v,is=>v=.t (.bool b)∧is=[]
 | .str s,v,is=>v=.t (.str s)∧is=[]
 | .lst sz rows,v,is=>0<sz∧((rows=[]∧is=[]∧(v=.nils∨v=.rows sz []))∨∃ id js rs,is=id::js∧v=.sl id rs.length 0 rs.length∧σ[id]?=some (.slc sz rs)∧OwnR σ rows rs js)
def OwnR (σ:Store):List (List T)→List (List V)→List Nat→Prop
 | [],rs,is=>rs=[]∧is=[]
 | r::rows,rs,is=>∃ u us i j,rs=u::us∧is=i++j∧OwnL σ r u i∧OwnR σ rows us j
def OwnL (σ:Store):List T→List V→List Nat→Prop
 | [],us,is=>us=[]∧is=[]
 | t::ts,us,is=>∃ u us' i j,us=u::us'∧is=i++j∧Own σ t u i∧OwnL σ ts us' j
end
mutual
theorem Own.frame {σ σ':Store}:∀ {t:T} {v:V} {is:List Nat},Own σ t v is→(∀ i∈is,σ'[i]?=σ[i]?)→Own σ' t v is
 | .int _ _,_,_,h,_=>by simpa only [Own] using h
 | .bool _,_,_,h,_=>by simpa only [Own] using h
 | .str _,_,_,h,_=>by simpa only [Own] using h
 | .lst sz rows,v,is,h,k=>by
  simp only [Own] at h ⊢
  refine ⟨h.1,h.2.imp id ?_⟩
  rintro ⟨id,js,rs,rfl,rfl,h1,h2⟩
  exact ⟨id,js,rs,rfl,rfl,by rw [k id (by simp)]; exact h1,OwnR.frame h2 fun i hi=>k i (by simp [hi])⟩
theorem OwnR.frame {σ σ':Store}:∀ {rows:List (List T)} {rs:List (List V)} {is:List Nat},OwnR σ rows rs is→(∀ i∈is,σ'[i]?=σ[i]?)→OwnR σ' rows rs is
 | [],_,_,h,_=>by simpa only [OwnR] using h
 | r::rows,rs,is,h,k=>by
  simp only [OwnR] at h ⊢
  obtain ⟨u,us,i,j,rfl,rfl,h1,h2⟩:=h
  exact ⟨u,us,i,j,rfl,rfl,OwnL.frame h1 fun x hx=>k x (by simp [hx]),OwnR.frame h2 fun x hx=>k x (by simp [hx])⟩
theorem OwnL.frame {σ σ':Store}:∀ {ts:List T} {us:List V} {is:List Nat},OwnL σ ts us is→(∀ i∈is,σ'[i]?=σ[i]?)→OwnL σ' ts us is
 | [],_,_,h,_=>by simpa only [OwnL] using h
 | t::ts,us,is,h,k=>by
  simp only [OwnL] at h ⊢
  obtain ⟨u,us',i,j,rfl,rfl,h1,h2⟩:=h
  exact ⟨u,us',i,j,rfl,rfl,Own.frame h1 fun x hx=>k x (by simp [hx]),OwnL.frame h2 fun x hx=>k x (by simp [hx])⟩
end
mutual
theorem Own.sees {σ:Store}:∀ {t:T} {v:V} {is:List Nat},Own σ t v is→Sees σ t v
 | .int _ _,_,_,h=>by simp only [Own] at h; simpa only [Sees] using h.1
 | .bool _,_,_,h=>by simp only [Own] at h; simpa only [Sees] using h.1
 | .str _,_,_,h=>by simp only [Own] at h; simpa only [Sees] using h.1
 | .lst sz rows,v,is,h=>by
  simp only [Own] at h
  simp only [Sees]
  obtain ⟨hp,⟨rfl,rfl,rfl | rfl⟩ | ⟨id,js,rs,rfl,rfl,h1,h2⟩⟩:=h
  ·exact ⟨[],by simp only [rowsOf],by simp [SeesRows],hp⟩
  ·exact ⟨[],by simp [rowsOf],by simp [SeesRows],hp⟩
  ·exact ⟨rs,q_rows_whole sz id _ _ _ h1 rfl rfl,OwnR.sees h2,hp⟩
theorem OwnR.sees {σ:Store}:∀ {rows:List (List T)} {rs:List (List V)} {is:List Nat},OwnR σ rows rs is→SeesRows σ rows rs
 | [],_,_,h=>by simp only [OwnR] at h; simpa only [SeesRows] using h.1
 | r::rows,rs,is,h=>by
  simp only [OwnR] at h
  simp only [SeesRows]
  obtain ⟨u,us,i,j,rfl,rfl,h1,h2⟩:=h
  exact ⟨u,us,rfl,OwnL.sees h1,OwnR.sees h2⟩
theorem OwnL.sees {σ:Store}:∀ {ts:List T} {us:List V} {is:List Nat},OwnL σ ts us is→SeesL σ ts us
 | [],_,_,h=>by simp only [OwnL] at h; simpa only [SeesL] using h.1
 | t::ts,us,is,h=>by
  simp only [OwnL] at h
  simp only [SeesL]
  obtain ⟨u,us',i,j,rfl,rfl,h1,h2⟩:=h
  exact ⟨u,us',rfl,Own.sees h1,OwnL.sees h2⟩
end
mutual
theorem Own.lt {σ:Store}:∀ {t:T} {v:V} {is:List Nat},Own σ t v is→∀ i∈is,i<σ.length
 | .int _ _,_,_,h=>by simp only [Own] at h; obtain ⟨_,rfl⟩:=h; simp
 | .bool _,_,_,h=>by simp only [Own] at h; obtain ⟨_,rfl⟩:=h; simp
 | .str _,_,_,h=>by simp only [Own] at h; obtain ⟨_,rfl⟩:=h; simp
 | .lst sz rows,v,is,h=>by
  simp only [Own] at h
  obtain ⟨hp,⟨rfl,rfl,_⟩ | ⟨id,js,rs,rfl,rfl,h1,h2⟩⟩:=h
  ·simp
  ·intro i hi
   rcases List.mem_cons.1 hi with rfl | hi
   ·exact (List.getElem?_eq_some_iff.1 h1).1
   ·exact OwnR.lt h2 i hi
theorem OwnR.lt {σ:Store}:∀ {rows:List (List T)} {rs:List (List V)} {is:List Nat},OwnR σ rows rs is→∀ i∈is,i<σ.length
 | [],_,_,h=>by simp only [OwnR] at h; obtain ⟨_,rfl⟩:=h; simp
 | r::rows,rs,is,h=>by
  simp only [OwnR] at h
  obtain ⟨u,us,i,j,rfl,rfl,h1,h2⟩:=h
  intro x hx
  rcases List.mem_append.1 hx with hx | hx
  ·exact OwnL.lt h1 x hx
  ·exact OwnR.lt h2 x hx
theorem OwnL.lt {σ:Store}:∀ {ts:List T} {us:List V} {is:List Nat},OwnL σ ts us is→∀ i∈is,i<σ.length
 | [],_,_,h=>by simp only [OwnL] at h; obtain ⟨_,rfl⟩:=h; simp
 | t::ts,us,is,h=>by
  simp only [OwnL] at h
  obtain ⟨u,us',i,j,rfl,rfl,h1,h2⟩:=h
  intro x hx
  rcases List.mem_append.1 hx with hx | hx
  ·exact Own.lt h1 x hx
  ·exact OwnL.lt h2 x hx
end
theorem OwnR.app {σ:Store}:∀ {a:List (List T)} {us:List (List V)} {is:List Nat} {b:List (List T)} {vs:List (List V)} {js:List Nat},OwnR σ a us is→OwnR σ b vs js→OwnR σ (a++b) (us++vs) (is++js)
 | [],_,_,_,_,_,h,k=>by simp only [OwnR] at h; obtain ⟨rfl,rfl⟩:=h; exact k
 | r::a,us,is,b,vs,js,h,k=>by
  simp only [OwnR] at h
  obtain ⟨u,us',i,j,rfl,rfl,h1,h2⟩:=h
  simp only [List.cons_append,OwnR]
  exact ⟨u,_,i,j++js,rfl,by simp,h1,OwnR.app h2 k⟩
theorem OwnR.one {σ:Store} {r:List T} {u:List V} {is:List Nat} (h:OwnL σ r u is):OwnR σ [r] [u] is:=by
 simp only [OwnR]
 exact ⟨u,[],is,[],rfl,by simp,h,rfl,rfl⟩
theorem OwnR.len {σ:Store}:∀ {a:List (List T)} {us:List (List V)} {is:List Nat},OwnR σ a us is→us.length=a.length
 | [],_,_,h=>by simp only [OwnR] at h; obtain ⟨rfl,rfl⟩:=h; rfl
 | r::a,us,is,h=>by
  simp only [OwnR] at h
  obtain ⟨u,us',i,j,rfl,rfl,h1,h2⟩:=h
  simp [OwnR.len h2]
theorem OwnL.app {σ:Store}:∀ {a:List T} {us:List V} {is:List Nat} {b:List T} {vs:List V} {js:List Nat},OwnL σ a us is→OwnL σ b vs js→OwnL σ (a++b) (us++vs) (is++js)
 | [],_,_,_,_,_,h,k=>by simp only [OwnL] at h; obtain ⟨rfl,rfl⟩:=h; exact k
 | r::a,us,is,b,vs,js,h,k=>by
  simp only [OwnL] at h
  obtain ⟨u,us',i,j,rfl,rfl,h1,h2⟩:=h
  simp only [List.cons_append,OwnL]
  exact ⟨u,_,i,j++js,rfl,by simp,h1,OwnL.app h2 k⟩
end Go.Ab
end
section
namespace Go.Ab
def S0:=(And.intro (And.intro (And.intro (And.intro @q_vc_skip @q_vc_ops) (And.intro @q_vc_seq (And.intro @q_vc_cond @q_vc_block))) (And.intro (And.intro @q_vc_loop @q_vc_exit) (And.intro @q_vc_ret (And.intro @q_vcOps_nil @q_vcOps_cons)))) (And.intro (And.intro (And.intro @q_vcOps_step @q_vc_drawn) (And.intro @q_vcDr_nil (And.intro @q_vcDr_cons @q_vcDr_step))) (And.intro (And.intro @q_drK_f @q_drK_t) (And.intro @q_pre_same (And.intro @q_pre_app @q_pre_nil)))))
def S1:=(And.intro (And.intro (And.intro (And.intro @q_pre_apps @q_pre_cons) (And.intro @q_wantK_some (And.intro @q_wantV_bool @q_wantV_undef))) (And.intro (And.intro @q_bothK_t @q_bothK_nf) (And.intro @q_bothK_f (And.intro @q_bothK_nt @q_bothK_fn)))) (And.intro (And.intro (And.intro @q_bothK_ntn @q_iK_some) (And.intro @q_iK_none (And.intro @q_iK_undef @q_thenK_n))) (And.intro (And.intro @q_thenK_x @q_thenK_r) (And.intro @q_blockK_n (And.intro @q_blockK_r @q_blockK_x)))))
def S2:=(And.intro (And.intro (And.intro (And.intro @q_retK_n @q_retK_r) (And.intro @q_run_mv (And.intro @q_run_pick @q_run_new))) (And.intro (And.intro @q_run_box @q_run_load) (And.intro @q_run_store (And.intro @q_run_nilCheck @q_run_bin)))) (And.intro (And.intro (And.intro @q_run_eqB @q_run_eqP) (And.intro @q_run_eqS (And.intro @q_run_un @q_run_convInt))) (And.intro (And.intro @q_run_sliceStr @q_run_sliceSl) (And.intro @q_run_fieldAddr (And.intro @q_run_field @q_run_indexAddr)))))
def S3:=(And.intro (And.intro (And.intro (And.intro @q_run_index @q_run_extract) (And.intro @q_run_lenStr (And.intro @q_run_lenSl @q_run_mkSl))) (And.intro (And.intro @q_run_lit @q_run_append) (And.intro @q_run_build (And.intro @q_run_convStr @q_run_strBytes)))) (And.intro (And.intro (And.intro @q_run_bytesStr @q_run_call) (And.intro @q_condV_bool (And.intro @q_condP_t @q_condP_f))) (And.intro (And.intro @q_onV_u @q_onRow_u) (And.intro @q_onBox_u (And.intro @q_onSlc_u @q_ldT_c)))))
def S4:=(And.intro (And.intro (And.intro (And.intro @q_ldT_n @q_ldV_c) (And.intro @q_ldV_t (And.intro @q_ldV_n @q_load_pv))) (And.intro (And.intro @q_load_ptr @q_load_ep) (And.intro @q_store_u (And.intro @q_storeTo_ptr @q_storeTo_ep)))) (And.intro (And.intro (And.intro @q_bin_add @q_bin_sub) (And.intro @q_bin_mul (And.intro @q_bin_quo @q_bin_rem))) (And.intro (And.intro @q_bin_and @q_bin_or) (And.intro @q_bin_xor (And.intro @q_bin_eql @q_bin_neq)))))
def S5:=(And.intro (And.intro (And.intro (And.intro @q_bin_lss @q_bin_leq) (And.intro @q_bin_gtr (And.intro @q_bin_geq @q_bin_shl))) (And.intro (And.intro @q_bin_shr @q_str_add) (And.intro @q_str_eql (And.intro @q_str_neq @q_str_lss)))) (And.intro (And.intro (And.intro @q_str_leq @q_str_gtr) (And.intro @q_str_geq (And.intro @q_eqB_b @q_evNil_t))) (And.intro (And.intro @q_nilK_l @q_nilK_r) (And.intro @q_un_neg (And.intro @q_un_not @q_conv_i)))))
def S6:=(And.intro (And.intro (And.intro (And.intro @q_bndV_i @q_bnd_n) (And.intro @q_bnd_o (And.intro @q_evSlice_u @q_sliceStr_s))) (And.intro (And.intro @q_sliceSl_l @q_fa_pv) (And.intro @q_fa_ptr (And.intro @q_fa_ep @q_field_a)))) (And.intro (And.intro (And.intro @q_ix_lst @q_ix_sl) (And.intro @q_ix_str (And.intro @q_nc_pv @q_nc_ptr))) (And.intro (And.intro @q_nc_ep @q_mkSl) (And.intro @q_app_nil (And.intro @q_app_sl @q_rows_nil)))))
def S7:=(And.intro (And.intro (And.intro (And.intro @q_rows_t @q_litRows_nil) (And.intro @q_litRows_cons (And.intro @q_fill_nil @q_fill_cons))) (And.intro (And.intro @q_litK_f @q_litK_t) (And.intro @q_litHow_s (And.intro @q_convStr_s @q_strBytes_s)))) (And.intro (And.intro (And.intro @q_bytesOf_nil @q_bytesOf_cons) (And.intro @q_bytesOf_rows (And.intro @q_extract_t @q_app_get0))) (And.intro (And.intro @q_app_get @q_app_set0) (And.intro @q_app_set (And.intro @q_app_take0 @q_app_take)))))
def S8:=(And.intro (And.intro (And.intro (And.intro @q_ltσ_app @q_gets_nil) (And.intro @q_gets_tmp (And.intro @q_gets_cell @q_cells_t))) (And.intro (And.intro @q_one_t @q_cells_nils) (And.intro @q_one_nils (And.intro @q_cells_nilp @q_one_nilp)))) (And.intro (And.intro (And.intro @q_cells_nilf @q_one_nilf) (And.intro @q_cells_nili (And.intro @q_one_nili @q_cells_pv))) (And.intro (And.intro @q_one_pv @q_cells_ptr) (And.intro @q_one_ptr (And.intro @q_cells_ep @q_one_ep)))))
def S9:=(And.intro (And.intro (And.intro (And.intro @q_cells_sl @q_one_sl) (And.intro @q_cells_map (And.intro @q_one_map @q_cells_rows))) (And.intro (And.intro @q_one_rows @q_cells_fn) (And.intro @q_one_fn (And.intro @q_cells_iface @q_one_iface)))) (And.intro (And.intro (And.intro @q_cells_agg @q_one_agg) (And.intro @List.replicate_succ.{0} (And.intro @List.replicate_zero.{0} @true_and))) (And.intro (And.intro @and_true @Option.some.injEq.{0}) (And.intro @List.length_cons.{0} (And.intro @List.length_nil.{0} @List.take_succ_cons.{0})))))
def S10:=(And.intro (And.intro (And.intro (And.intro @List.take_zero.{0} @List.take_nil.{0}) (And.intro @List.drop_succ_cons.{0} (And.intro @List.drop_zero.{0} @List.map_cons.{0,0}))) (And.intro (And.intro @List.map_nil.{0,0} @List.cons_append.{0}) (And.intro @List.nil_append.{0} (And.intro @List.append_assoc.{0} @List.getElem?_cons_zero.{0})))) (And.intro (And.intro (And.intro @List.getElem?_cons_succ.{0} @List.set_cons_zero.{0}) (And.intro @List.set_cons_succ.{0} (And.intro @List.set_set.{0} @List.length_set.{0}))) (And.intro (And.intro @List.all_cons.{0} @List.all_nil.{0}) (And.intro @Bool.and_true (And.intro @Bool.true_and @List.length_append.{0})))))
def S11:=(And.intro (And.intro (And.intro @Int.toNat_natCast @Nat.le_refl) (And.intro @Nat.zero_add @Nat.add_zero)) (And.intro (And.intro @Nat.add_assoc @Bool.not_true) (And.intro @Bool.not_false @Bool.false_eq_true)))
def S12:=(And.intro (And.intro (And.intro (And.intro @q_cons_get3 @q_cons_set3) (And.intro @q_cons_get4 (And.intro @q_cons_set4 @q_cons_get5))) (And.intro (And.intro @q_cons_set5 @q_cons_get6) (And.intro @q_cons_set6 (And.intro @q_cons_get7 @q_cons_set7)))) (And.intro (And.intro (And.intro @q_cons_get8 @q_cons_set8) (And.intro @q_cons_get9 (And.intro @q_cons_set9 @q_cons_get10))) (And.intro (And.intro @q_cons_set10 @q_cons_get11) (And.intro @q_cons_set11 (And.intro @q_cons_get12 @q_cons_set12)))))
def S13:=And.intro (And.intro @q_app_rows @q_sliceSl_r) (And.intro (And.intro (And.intro (And.intro @q_onMap_u @q_look_m) (And.intro @q_mapUp_m @q_mapEnt_m)) (And.intro (And.intro @q_entSt_m @q_lenM_m) (And.intro @q_eqA_f (And.intro @q_eqA_t @q_onVs_u)))) (And.intro (And.intro (And.intro @q_copy_sl @q_mm_max) (And.intro @q_mm_min @q_sliceSl_n)) (And.intro (And.intro @q_sliceSl_o @q_callM_i) (And.intro @q_ok_int (And.intro @q_ok_str @q_ok_st)))))
def S14:=(And.intro (And.intro (And.intro (And.intro @q_fits_nil @q_fits_int) (And.intro @q_fits_bool @q_fits_str)) (And.intro (And.intro @q_sEqs_nil @q_sEqs_int) (And.intro @q_sEqs_bool (And.intro @q_sEqs_str @q_keys_nil)))) (And.intro (And.intro (And.intro @q_keys_cons @q_lookR_ts) (And.intro @q_lookR_tn @q_lookR_fs)) (And.intro (And.intro @q_lookR_fn @q_findM_nil) (And.intro @q_putM_nil (And.intro @q_clkM_nil @q_valOr_s)))))
def S15:=(And.intro (And.intro (And.intro (And.intro @q_valOr_n @q_bornOr_s) (And.intro @q_bornOr_n @q_run_callc)) (And.intro (And.intro @q_run_callm @q_run_mkMap) (And.intro @q_run_look @q_run_mapUp))) (And.intro (And.intro (And.intro @q_run_mapEnt @q_run_entSt) (And.intro @q_run_lenM @q_run_eqA)) (And.intro (And.intro @q_run_iface @q_run_fn) (And.intro @q_run_copy @q_run_mm))))
def S16:=(And.intro @q_run_callQc @q_run_callQt)
def S17:=And.intro (And.intro (And.intro @q_vc_drawnP (And.intro @q_run_appS @q_appS_s)) (And.intro @q_run_newB (And.intro @q_cells_bp @q_one_bp))) <| And.intro (And.intro @q_run_eqI (And.intro @q_isNilI_n @q_isNilI_i)) <| And.intro (And.intro (And.intro @q_cells_fnb @q_one_fnb) (And.intro (And.intro @q_cells_any @q_one_any) <| And.intro @q_cells_nilm (And.intro @q_one_nilm (And.intro (And.intro @q_run_clr (And.intro @q_clr_n @q_clr_s)) (And.intro @q_run_fnb @q_callV_b))))) <| And.intro @true_or (And.intro (And.intro @q_ix_rows @q_vc_bad) (And.intro @q_toTs_nil (And.intro @q_toTs_cons @Option.map_some.{0,0})))
def zZ:=And.intro S0 (And.intro S1 (And.intro S2 (And.intro S3 (And.intro S4 (And.intro S5 (And.intro S6 (And.intro S7 (And.intro S8 (And.intro S9 (And.intro S10 (And.intro S11 (And.intro S12 (And.intro S13 (And.intro S14 (And.intro S15 (And.intro S16 S17))))))))))))))))
end Go.Ab
end
section
namespace Go.Ab
def Wi (is:List Nat) (a b:Nat):Prop:=is.Nodup∧∀ i∈is,a≤i∧i<b
theorem Wi.nil {a b:Nat}:Wi [] a b:=⟨List.nodup_nil,by simp⟩
theorem Wi.app {i j:List Nat} {a b b' c:Nat} (h:Wi i a b) (k:Wi j b' c) (hb:b≤b') (hab:a≤b') (hbc:b≤c):Wi (i++j) a c:=by
 refine ⟨List.nodup_append.2 ⟨h.1,k.1,fun x hx y hy he=>?_⟩,fun x hx=>?_⟩
 ·have:=h.2 x hx; have:=k.2 y hy; omega
 ·rcases List.mem_append.1 hx with hx | hx
  ·have:=h.2 x hx; omega
  ·have:=k.2 x hx; omega
theorem Wi.cons {j:List Nat} {i a b c:Nat} (k:Wi j b c) (h1:i<b) (h2:a≤i) (h3:i<c):Wi (i::j) a c:=by
 refine ⟨List.nodup_cons.2 ⟨fun h=>?_,k.1⟩,fun x hx=>?_⟩
 ·have:=k.2 i h; omega
 ·rcases List.mem_cons.1 hx with rfl | hx
  ·omega
  ·have:=k.2 x hx; omega
theorem Wi.mono {is:List Nat} {a b a' b':Nat} (h:Wi is a b) (h1:a'≤a) (h2:b≤b'):Wi is a' b':=⟨h.1,fun i hi=>by have:=h.2 i hi; omega⟩
def ToR (t:T) (σ:Store) (r:V) (σ':Store):Prop:=∃ τ is,σ'=σ++τ∧Own σ' t r is∧Wi is σ.length σ'.length
def ToLR (ts:List T) (σ:Store) (r:V) (σ':Store):Prop:=∃ us τ is,r=.agg us∧σ'=σ++τ∧OwnL σ' ts us is∧Wi is σ.length σ'.length
theorem mem_at {α:Type} {l:List α} {k:Nat} {x:α} (h:l[k]?=some x):x∈l:=List.mem_of_getElem? h
theorem nat_nn (k:Nat):(0≤(k:Int))=True:=eq_true (by omega)
theorem ne_self {α:Type} [BEq α] [LawfulBEq α] (a:α):(a != a)=false:=bne_self_eq_false a
theorem fin_keep {b:Nat} {R:V→Store→Prop} {σ:Store} {us:List V} (hb:b≤σ.length) (h:R (mkRes us) σ):retV b R σ (some us) :=
 ⟨σ.length,⟨hb,.inl (Nat.le_refl _)⟩,by simpa using h⟩
/- 27 [(.tmp 4)] -/
/- 28 [(.tmp 4)] -/
/- 12 [(.tmp 4)] -/
/- 23 [(.tmp 2)] -/
/- 22 [(.tmp 2)] -/
/- 27 [(.tmp 4)] -/
/- 26 [(.tmp 4)] -/
section
variable {P:Program} {f g n:Nat} {cs:List Sh}
theorem OwnL.len {σ:Store}:∀ {ts:List T} {us:List V} {is:List Nat},OwnL σ ts us is→us.length=ts.length
 | [],_,_,h=>by simp only [OwnL] at h; obtain ⟨rfl,rfl⟩:=h; rfl
 | r::a,us,is,h=>by
  simp only [OwnL] at h
  obtain ⟨u,us',i,j,rfl,rfl,h1,h2⟩:=h
  simp [OwnL.len h2]
theorem Own.one {σ:Store} {t:T} {v:V} {is:List Nat} (h:Own σ t v is):one v=true:=by
 cases t <;> simp only [Own] at h
 ·obtain ⟨rfl,_⟩:=h; rfl
 ·obtain ⟨rfl,_⟩:=h; rfl
 ·obtain ⟨rfl,_⟩:=h; rfl
 ·obtain ⟨_,⟨_,_,rfl | rfl⟩ | ⟨_,_,_,_,rfl,_⟩⟩:=h <;> rfl
theorem OwnL.ones {σ:Store}:∀ {ts:List T} {us:List V} {is:List Nat},OwnL σ ts us is→us.all Go.Ab.one=true
 | [],_,_,h=>by simp only [OwnL] at h; obtain ⟨rfl,rfl⟩:=h; rfl
 | r::a,us,is,h=>by
  simp only [OwnL] at h
  obtain ⟨u,us',i,j,rfl,rfl,h1,h2⟩:=h
  simp only [List.all_cons,h1.one,OwnL.ones h2,Bool.and_self]
end
end Go.Ab
end
section
namespace Go.Ab
theorem isL_cons {c:Sh} {cs:List Sh} {r:List T}:T.isL (c::cs) r=∃ t ts,r=t::ts∧T.is c t∧T.isL cs ts:=by simp only [T.isL]
theorem isL_nil {r:List T}:T.isL [] r=(r=[]):=by simp only [T.isL]
theorem is_int {k:IntKind} {t:T}:T.is (.int k) t=∃ n,t=.int k n∧(Lit.int k n).wf=true:=by simp only [T.is]
section
variable {σ:Store} {ts:List T} {us:List V} {is j:List Nat}
theorem OwnL.nil0:OwnL σ [] [] []:=by simp only [OwnL,and_self]
theorem OwnL.int {k:IntKind} {n:Int} (h:OwnL σ ts us is):OwnL σ (.int k n::ts) (.t (.int k n)::us) is:=by
 simp only [OwnL,Own]; exact ⟨_,_,[],is,rfl,rfl,⟨rfl,rfl⟩,h⟩
theorem OwnL.bool {n:Bool} (h:OwnL σ ts us is):OwnL σ (.bool n::ts) (.t (.bool n)::us) is:=by
 simp only [OwnL,Own]; exact ⟨_,_,[],is,rfl,rfl,⟨rfl,rfl⟩,h⟩
theorem OwnL.str {n:List UInt8} (h:OwnL σ ts us is):OwnL σ (.str n::ts) (.t (.str n)::us) is:=by
 simp only [OwnL,Own]; exact ⟨_,_,[],is,rfl,rfl,⟨rfl,rfl⟩,h⟩
theorem OwnL.lst {t:T} {u:V} (h:Own σ t u is) (k:OwnL σ ts us j):OwnL σ (t::ts) (u::us) (is++j):=by
 simp only [OwnL]; exact ⟨_,_,is,j,rfl,rfl,h,k⟩
end
theorem Own.cells {σ:Store} {t:T} {v:V} {is:List Nat} (h:Own σ t v is):cellsOf v=some [v]:=by
 have:=h.one
 cases v <;> simp_all [Go.Ab.one,cellsOf]
theorem one_cells {v:V} (h:one v=true):cellsOf v=some [v]:=by
 cases v <;> simp_all [Go.Ab.one,cellsOf]
end Go.Ab
end
section
namespace Go.Ab
def i64r (n:Int):Prop:=-9223372036854775808≤n∧n≤9223372036854775807
def tStr (s:List UInt8):List T:=[.str s]
def tInt (n:Int):List T:=[.int .i64 n]
abbrev tStrs (l:List (List UInt8)):T:=.lst 1 (l.map tStr)
abbrev tInts (l:List Int):T:=.lst 1 (l.map tInt)
abbrev StrsOk (l:List (List UInt8)):Prop:=l.length≤1048576∧∀ s∈l,s.length≤1048576
abbrev IntsOk (l:List Int):Prop:=l.length≤1048576∧∀ n∈l,i64r n
theorem tb {a b:Bool} (h:a=b):V.t (T.bool a)=V.t (T.bool b):=by rw [h]
theorem ti {k:IntKind} {a b:Int} (h:a=b):V.t (T.int k a)=V.t (T.int k b):=by rw [h]
theorem ts {a b:List UInt8} (h:a=b):V.t (T.str a)=V.t (T.str b):=by rw [h]
theorem all_len {α:Type} {l:List α} {p:α→Bool} {k:Nat} (h:(l.take k).all p=true) (hk:k=l.length):l.all p=true:=by
 rw [hk,List.take_length] at h; exact h
theorem zip_at {α:Type} {l:List α} {k:Nat} {x:α} (h:l[k]?=some x):l.zipIdx[k]?=some (x,k):=by
 rw [List.getElem?_zipIdx,h]; simp
def Known (v b:Bool):Prop:=v=b
theorem cond_t {v:Bool} {A B:Tok→Prop} (h:Known v true):condP v A B=A .go:=by cases h; exact condP_true A B
theorem cond_f {v:Bool} {A B:Tok→Prop} (h:Known v false):condP v A B=B .go:=by cases h; exact condP_false A B
theorem cond_known {v:Bool} {A B:Tok→Prop} (h1:Known v true→A .go) (h2:Known v false→B .go):condP v A B:=cond_split h1 h2
theorem prev_of {α:Type} {l:List α} {k:Nat} {x:α} (hx:l[k]?=some x) (h:decide ((k:Int) > 0)=true) (hk:l.length≤1048576):∃ y,l[k - 1]?=some y∧IntKind.i64.wrap ((k:Int) - 1)=((k - 1:Nat):Int):=by
 have hk':=(List.getElem?_eq_some_iff.1 hx).1
 have h0:0<k:=by simpa using h
 refine ⟨l[k - 1],by simp [show k - 1<l.length by omega],?_⟩
 rw [show ((k - 1:Nat):Int)=(k:Int) - 1 by omega]
 exact IntWalk.i64_in _ (by omega)
theorem Own.pre {σ τ:Store} {t:T} {v:V} {is:List Nat} (h:Own σ t v is) (hp:σ <+: τ):Own τ t v is:=by
 obtain ⟨ρ,rfl⟩:=hp
 exact h.frame fun i hi=>List.getElem?_append_left (h.lt i hi)
theorem OwnL.pre {σ τ:Store} {t:List T} {v:List V} {is:List Nat} (h:OwnL σ t v is) (hp:σ <+: τ):OwnL τ t v is:=by
 obtain ⟨ρ,rfl⟩:=hp
 exact h.frame fun i hi=>List.getElem?_append_left (h.lt i hi)
theorem call_bor {P:Program} {f:FuncId} {us vs:List V} {σ:Store} {y:V} {K:Tok→V→Store→Prop} (h:∀ σ,ACalls P f vs σ fun r σ'=>r=y∧σ'=σ) (hy:y.free σ.length=true) (hs:SeesAs σ vs us) (hk:K .go y σ):callV P σ (some (.fn (.func f) [])) (some us) K:=by
 refine call_by (R:=fun r σ'=>∃ τ,σ'=σ++τ∧(r=y∧τ=[])) (by rw [List.append_nil]; exact acalls_anew ((h _).mono fun r σ' hr=>⟨[],by simp [hr.2],by rw [hr.1]; exact hy,rfl,hr.1,rfl⟩) hs) ?_
 rintro r σ' ⟨τ,rfl,rfl,rfl⟩
 simpa using hk
end Go.Ab
end
section
namespace Go.Ab
variable {P:Program} {l:List Char}
theorem head_of (h : P.initOrder.toList = l) (hw : behindMainWord (wordsSigns l) = "cut".toList :: (behindMainWord (wordsSigns l)).tail)
  (hs : stripLifts liftWords ("cut".toList :: (behindMainWord (wordsSigns l)).tail) = ([], "cut".toList :: (behindMainWord (wordsSigns l)).tail)) (h2 : P.laysLater = false) (h3 : P.bearsReflect = false) (h4 : P.doorFits [] = true) :
  P.mayEnter=true∧P.liftsFinal=false∧P.make=some .cut:=by
 generalize (behindMainWord (wordsSigns l)).tail=t at hw hs
 have e1 : ("cut".toList == "gc".toList) = false := by decide
 have e2 : ("cut".toList == "spec".toList) = false := by decide
 have e3 : ("cut".toList == "carried".toList) = false := by decide
 refine ⟨?_,?_,?_⟩
 ·unfold Program.mayEnter
  rw [h,hw]
  simp only [hs,h2,h3,h4,e1,e2,e3]
  simp
 ·unfold Program.liftsFinal Program.headLifts
  rw [h,hw]
  simp only [hs]
  simp
 ·unfold Program.make
  rw [h,hw]
  simp [e1,e2,e3]
end Go.Ab
end
