/- Rewriting rules by which the conditions of a function's code are worked out, one open place at a time. Conditions: none (a library of lemmas). -/
import Derived.Test.YtleilaipdhmgeaaAbI
set_option linter.unusedSimpArgs false
set_option linter.unusedVariables false
set_option linter.defProp false
namespace Go.Ab
section
variable {P : Program} {b : Nat} {Q : Ex → St → Prop} {K A : St → Prop} {e : Env} {σ : Store} {d : Option Nat} {g : Option (Nat × Bool)}
theorem q_vc_skip : vc P b .skip Q ⟨.go, e, σ⟩ = Q .n ⟨.go, e, σ⟩ := propext Iff.rfl
theorem q_vc_ops (l : List In) : vc P b (.ops l) Q ⟨.go, e, σ⟩ = vcOps P l (Q .n) ⟨.go, e, σ⟩ := propext Iff.rfl
theorem q_vc_seq (c d : C) : vc P b (.seq c d) Q ⟨.go, e, σ⟩ = vc P b c (thenK (vc P b d Q) Q) ⟨.go, e, σ⟩ := propext Iff.rfl
theorem q_vc_cond (o : O) (c d : C) : vc P b (.cond o c d) Q ⟨.go, e, σ⟩ = condV (opv e o) (fun t => vc P b c Q ⟨t, e, σ⟩) (fun t => vc P b d Q ⟨t, e, σ⟩) := propext Iff.rfl
theorem q_vc_block (i : Nat) (c : C) : vc P b (.block i c) Q ⟨.go, e, σ⟩ = vc P b c (blockK i Q) ⟨.go, e, σ⟩ := propext Iff.rfl
theorem q_vc_loop (c : C) : vc P b (.loop c) Q ⟨.go, e, σ⟩ = LoopV b (vc P b c) Q ⟨.go, e, σ⟩ := propext Iff.rfl
theorem q_vc_exit (i : Nat) : vc P b (.exit i) Q ⟨.go, e, σ⟩ = Q (.x i) ⟨.go, e, σ⟩ := propext Iff.rfl
theorem q_vc_ret : vc P b .ret Q ⟨.go, e, σ⟩ = Q .r ⟨.go, e, σ⟩ := propext Iff.rfl
theorem q_vcOps_nil : vcOps P [] K ⟨.go, e, σ⟩ = K ⟨.go, e, σ⟩ := propext Iff.rfl
theorem q_vcOps_cons (s : Nat) (w : Bool) (i : I) (is : List In) : vcOps P (⟨d, some ⟨s, w⟩, i⟩ :: is) K ⟨.go, e, σ⟩ = wantV (eget e s) w (bothK d e σ (runIn P ⟨d, some ⟨s, w⟩, i⟩ (vcOps P is K)) (vcOps P is K)) := propext Iff.rfl
theorem q_vcOps_step (i : I) (is : List In) : vcOps P (⟨d, none, i⟩ :: is) K ⟨.go, e, σ⟩ = runIn P ⟨d, none, i⟩ (vcOps P is K) ⟨.go, e, σ⟩ := propext Iff.rfl
theorem q_vc_drawn (l : List Ent) : vc P b (.drawn l) Q ⟨.go, e, σ⟩ = vcDr P l (Q .n) ⟨.go, e, σ⟩ := propext Iff.rfl
theorem q_vcDr_nil : vcDr P [] K ⟨.go, e, σ⟩ = K ⟨.go, e, σ⟩ := propext Iff.rfl
theorem q_vcDr_cons (j : Nat) (f : Bool) (s : Nat) (w : Bool) (i : I) (is : List Ent) : vcDr P (⟨j, f, ⟨d, some ⟨s, w⟩, i⟩⟩ :: is) K ⟨.go, e, σ⟩ = wantV (eget e s) w (bothK d e σ (runIn P ⟨d, some ⟨s, w⟩, i⟩ (drK f σ (vcDr P is K))) (vcDr P is K)) := propext Iff.rfl
theorem q_vcDr_step (j : Nat) (f : Bool) (i : I) (is : List Ent) : vcDr P (⟨j, f, ⟨d, none, i⟩⟩ :: is) K ⟨.go, e, σ⟩ = runIn P ⟨d, none, i⟩ (drK f σ (vcDr P is K)) ⟨.go, e, σ⟩ := propext Iff.rfl
theorem q_drK_f (τ : Store) (s : St) : drK false τ K s = K s := propext ⟨fun h => h.2, fun h => ⟨fun hh => (by cases hh), h⟩⟩
theorem q_drK_t (τ : Store) : drK true τ K ⟨.go, e, σ⟩ = (preσ τ σ ∧ K ⟨.go, e, σ⟩) := propext ⟨fun h => ⟨h.1 rfl, h.2⟩, fun h => ⟨fun _ => h.1, h.2⟩⟩
theorem q_pre_same : preσ σ σ = True := eq_true ⟨[], by simp⟩
theorem q_pre_app (τ : Store) : preσ σ (σ ++ τ) = True := eq_true ⟨τ, rfl⟩
theorem q_pre_nil : preσ [] σ = True := eq_true ⟨σ, rfl⟩
theorem q_pre_apps (τ τ' : Store) : preσ (σ ++ τ) (σ ++ τ') = preσ τ τ' := propext ⟨fun ⟨x, h⟩ => ⟨x, by rw [List.append_assoc] at h; exact List.append_cancel_left h⟩, fun ⟨x, h⟩ => ⟨x, by rw [h, List.append_assoc]⟩⟩
theorem q_pre_cons (o : Obj) (τ τ' : Store) : preσ (o :: τ) (o :: τ') = preσ τ τ' := propext ⟨fun ⟨x, h⟩ => ⟨x, (List.cons.inj h).2⟩, fun ⟨x, h⟩ => ⟨x, by rw [h]; rfl⟩⟩
theorem q_wantK_some (s : Nat) (w : Bool) (KK : Tok → Bool → Prop) : wantK (some ⟨s, w⟩) e KK = wantV (eget e s) w KK := propext Iff.rfl
theorem q_wantV_bool (v w : Bool) (KK : Tok → Bool → Prop) : wantV (some (.t (.bool v))) w KK = condP v (fun t => KK t w) (fun t => KK t (!w)) := propext Iff.rfl
theorem q_wantV_undef (w : Bool) (KK : Tok → Bool → Prop) : wantV (some (.tup [])) w KK = KK .go false := propext Iff.rfl
theorem q_bothK_t : bothK d e σ A K .go true = A ⟨.go, e, σ⟩ := propext Iff.rfl
theorem q_bothK_nf : bothK d e σ A K .go (!false) = A ⟨.go, e, σ⟩ := propext Iff.rfl
theorem q_bothK_f (k : Nat) : bothK (some k) e σ A K .go false = K ⟨.go, (k, .tup []) :: e, σ⟩ := propext Iff.rfl
theorem q_bothK_nt (k : Nat) : bothK (some k) e σ A K .go (!true) = K ⟨.go, (k, .tup []) :: e, σ⟩ := propext Iff.rfl
theorem q_bothK_fn : bothK none e σ A K .go false = K ⟨.go, e, σ⟩ := propext Iff.rfl
theorem q_bothK_ntn : bothK none e σ A K .go (!true) = K ⟨.go, e, σ⟩ := propext Iff.rfl
theorem q_iK_some (k : Nat) (u : V) (τ : Store) : iK e (some k) K .go (some u) τ = K ⟨.go, (k, u) :: e, τ⟩ := propext Iff.rfl
theorem q_iK_none (r : Option V) (τ : Store) : iK e none K .go r τ = K ⟨.go, e, τ⟩ := propext Iff.rfl
theorem q_iK_undef (k : Nat) (τ : Store) : iK e (some k) K .go none τ = K ⟨.go, (k, .tup []) :: e, τ⟩ := propext Iff.rfl
theorem q_thenK_n (s : St) : thenK A Q .n s = A s := propext Iff.rfl
theorem q_thenK_x (i : Nat) (s : St) : thenK A Q (.x i) s = Q (.x i) s := propext Iff.rfl
theorem q_thenK_r (s : St) : thenK A Q .r s = Q .r s := propext Iff.rfl
theorem q_blockK_n (i : Nat) (s : St) : blockK i Q .n s = Q .n s := propext Iff.rfl
theorem q_blockK_r (i : Nat) (s : St) : blockK i Q .r s = Q .r s := propext Iff.rfl
theorem q_blockK_x (i j : Nat) (s : St) : blockK i Q (.x j) s = if j = i then Q .n s else Q (.x j) s := propext Iff.rfl
theorem q_retK_n (rs : List RS) (R : V → Store → Prop) : retK rs b R .n ⟨.go, e, σ⟩ = (getsK e σ .go rs fun _ us => retV b R σ (some us)) := propext Iff.rfl
theorem q_retK_r (rs : List RS) (R : V → Store → Prop) : retK rs b R .r ⟨.go, e, σ⟩ = (getsK e σ .go rs fun _ us => retV b R σ (some us)) := propext Iff.rfl
theorem q_gets_nil (K : Tok → List V → Prop) : getsK e σ .go [] K = K .go [] := propext Iff.rfl
theorem q_gets_tmp (k : Nat) (rs : List RS) (K : Tok → List V → Prop) : getsK e σ .go (.tmp k :: rs) K = (onV (eget e k) fun t u => getsK e σ t rs fun t us => K t (u :: us)) := propext Iff.rfl
theorem q_gets_cell (k : Nat) (n : Option Nat) (rs : List RS) (K : Tok → List V → Prop) : getsK e σ .go (.cell k n :: rs) K = (onV (eget e k) fun t a => evLoad n σ a fun _ u => getsK e σ t rs fun t us => K t (u :: us)) := propext Iff.rfl
theorem q_run_mv (x : O) : runIn P ⟨d, g, .mv x⟩ K ⟨.go, e, σ⟩ = (onV (opv e x) fun t u => iK e d K t (some u) σ) := propext Iff.rfl
theorem q_run_pick (c p q : O) : runIn P ⟨d, g, .pick c p q⟩ K ⟨.go, e, σ⟩ = (condV (opv e c) (fun t => onV (opv e p) fun _ u => iK e d K t (some u) σ) (fun t => onV (opv e q) fun _ u => iK e d K t (some u) σ)) := propext Iff.rfl
theorem q_run_new (cs : List V) : runIn P ⟨d, g, .new cs⟩ K ⟨.go, e, σ⟩ = (iK e d K .go (some (.ptr σ.length 0)) (σ ++ [.box cs])) := propext Iff.rfl
theorem q_run_box (x : O) : runIn P ⟨d, g, .box x⟩ K ⟨.go, e, σ⟩ = (onV (opv e x) fun t u => onRow (cellsOf u) fun _ cs => iK e d K t (some (.ptr σ.length 0)) (σ ++ [.box cs])) := propext Iff.rfl
theorem q_run_load (n : Option Nat) (x : O) : runIn P ⟨d, g, .load n x⟩ K ⟨.go, e, σ⟩ = (onV (opv e x) fun t a => evLoad n σ a fun _ u => iK e d K t (some u) σ) := propext Iff.rfl
theorem q_run_store (n : Nat) (x y : O) : runIn P ⟨d, g, .store n x y⟩ K ⟨.go, e, σ⟩ = (onV (opv e x) fun t a => onV (opv e y) fun _ u => evStore n σ a u fun _ σ' => iK e d K t none σ') := propext Iff.rfl
theorem q_run_nilCheck (x : O) : runIn P ⟨d, g, .nilCheck x⟩ K ⟨.go, e, σ⟩ = (onV (opv e x) fun t u => nilChk u fun _ u => iK e d K t (some u) σ) := propext Iff.rfl
theorem q_run_bin (op : BinOp) (x y : O) : runIn P ⟨d, g, .bin op x y⟩ K ⟨.go, e, σ⟩ = (onV (opv e x) fun t a => onV (opv e y) fun _ b => evBin op a b fun _ u => iK e d K t (some u) σ) := propext Iff.rfl
theorem q_run_eqB (neg : Bool) (x y : O) : runIn P ⟨d, g, .eqB neg x y⟩ K ⟨.go, e, σ⟩ = (onV (opv e x) fun t a => onV (opv e y) fun _ b => evEqB neg a b fun _ u => iK e d K t (some u) σ) := propext Iff.rfl
theorem q_run_eqP (neg : Bool) (x y : O) : runIn P ⟨d, g, .eqP neg x y⟩ K ⟨.go, e, σ⟩ = (onV (opv e x) fun t a => onV (opv e y) fun _ b => evNil isNilP neg a b fun _ u => iK e d K t (some u) σ) := propext Iff.rfl
theorem q_run_eqS (neg : Bool) (x y : O) : runIn P ⟨d, g, .eqS neg x y⟩ K ⟨.go, e, σ⟩ = (onV (opv e x) fun t a => onV (opv e y) fun _ b => evNil isNilS neg a b fun _ u => iK e d K t (some u) σ) := propext Iff.rfl
theorem q_run_un (op : UnOp) (x : O) : runIn P ⟨d, g, .un op x⟩ K ⟨.go, e, σ⟩ = (onV (opv e x) fun t a => evUn op a fun _ u => iK e d K t (some u) σ) := propext Iff.rfl
theorem q_run_convInt (k : IntKind) (x : O) : runIn P ⟨d, g, .convInt k x⟩ K ⟨.go, e, σ⟩ = (onV (opv e x) fun t a => evConv k a fun _ u => iK e d K t (some u) σ) := propext Iff.rfl
theorem q_run_sliceStr (x : O) (lo hi : Option O) : runIn P ⟨d, g, .sliceStr x lo hi⟩ K ⟨.go, e, σ⟩ = (onV (opv e x) fun t a => evSliceStr e lo hi a fun _ u => iK e d K t (some u) σ) := propext Iff.rfl
theorem q_run_sliceSl (n : Nat) (x : O) (lo hi : Option O) : runIn P ⟨d, g, .sliceSl n x lo hi⟩ K ⟨.go, e, σ⟩ = (onV (opv e x) fun t a => evSliceSl e n lo hi σ a fun _ u => iK e d K t (some u) σ) := propext Iff.rfl
theorem q_run_fieldAddr (off : Nat) (x : O) : runIn P ⟨d, g, .fieldAddr off x⟩ K ⟨.go, e, σ⟩ = (onV (opv e x) fun t a => evFieldAddr off a fun _ u => iK e d K t (some u) σ) := propext Iff.rfl
theorem q_run_field (off : Nat) (n : Option Nat) (x : O) : runIn P ⟨d, g, .field off n x⟩ K ⟨.go, e, σ⟩ = (onV (opv e x) fun t a => evField off n a fun _ u => iK e d K t (some u) σ) := propext Iff.rfl
theorem q_run_indexAddr (n : Nat) (x i : O) : runIn P ⟨d, g, .indexAddr n x i⟩ K ⟨.go, e, σ⟩ = (onV (opv e x) fun t a => onV (opv e i) fun _ i => evIndexAddr n σ a i fun _ u => iK e d K t (some u) σ) := propext Iff.rfl
theorem q_run_index (x i : O) : runIn P ⟨d, g, .index x i⟩ K ⟨.go, e, σ⟩ = (onV (opv e x) fun t a => onV (opv e i) fun _ i => evIndex a i fun _ u => iK e d K t (some u) σ) := propext Iff.rfl
theorem q_run_extract (x : O) (k : Nat) : runIn P ⟨d, g, .extract x k⟩ K ⟨.go, e, σ⟩ = (onV (opv e x) fun t a => evExtract k a fun _ u => iK e d K t (some u) σ) := propext Iff.rfl
theorem q_run_lenStr (x : O) : runIn P ⟨d, g, .len true x⟩ K ⟨.go, e, σ⟩ = (onV (opv e x) fun t a => onRow (lenStr a) fun _ n => iK e d K t (some (.t (.int .i64 n))) σ) := propext Iff.rfl
theorem q_run_lenSl (x : O) : runIn P ⟨d, g, .len false x⟩ K ⟨.go, e, σ⟩ = (onV (opv e x) fun t a => onRow (lenSl a) fun _ n => iK e d K t (some (.t (.int .i64 n))) σ) := propext Iff.rfl
theorem q_run_mkSl (sz bys : Nat) (z : List V) (l c : O) : runIn P ⟨d, g, .mkSl sz bys z l c⟩ K ⟨.go, e, σ⟩ = (onV (opv e l) fun t a => onV (opv e c) fun _ b => evMkSl sz bys z σ a b fun _ u σ' => iK e d K t (some u) σ') := propext Iff.rfl
theorem q_run_lit (how : Option Bool) (sz n : Nat) (z : List V) (ps : List (Nat × O)) : runIn P ⟨d, g, .lit how sz n z ps⟩ K ⟨.go, e, σ⟩ = (litRows e sz .go (List.replicate n z) ps fun t rs => litHow (litK sz σ rs (fun t u σ' => iK e d K t (some u) σ') t) how) := propext Iff.rfl
theorem q_run_append (sz bys : Nat) (x y : O) : runIn P ⟨d, g, .append sz bys x y⟩ K ⟨.go, e, σ⟩ = (onV (opv e x) fun t a => onV (opv e y) fun _ b => onRow (rowsOf σ sz b) fun _ rs => evAppend sz bys σ rs a fun _ u σ' => iK e d K t (some u) σ') := propext Iff.rfl
theorem q_run_build (z : List V) (ps : List (Nat × Nat × O)) : runIn P ⟨d, g, .build z ps⟩ K ⟨.go, e, σ⟩ = (fillV e .go z ps fun t cs => iK e d K t (some (.agg cs)) σ) := propext Iff.rfl
theorem q_run_convStr (x : O) : runIn P ⟨d, g, .convStr x⟩ K ⟨.go, e, σ⟩ = (onV (opv e x) fun t a => evConvStr a fun _ u => iK e d K t (some u) σ) := propext Iff.rfl
theorem q_run_strBytes (x : O) : runIn P ⟨d, g, .strBytes x⟩ K ⟨.go, e, σ⟩ = (onV (opv e x) fun t a => evStrBytes σ a fun _ u σ' => iK e d K t (some u) σ') := propext Iff.rfl
theorem q_run_bytesStr (x : O) : runIn P ⟨d, g, .bytesStr x⟩ K ⟨.go, e, σ⟩ = (onV (opv e x) fun t a => onRow (rowsOf σ 1 a) fun _ rs => onRow (bytesOf rs) fun _ s => iK e d K t (some (.t (.str s))) σ) := propext Iff.rfl
theorem q_run_call (k : Nat) (as : List O) : runIn P ⟨d, g, .call (.t k) as⟩ K ⟨.go, e, σ⟩ = callV P σ (eget e k) (opvs e as) (fun t r σ' => K ⟨t, setD e d r, σ'⟩) := propext Iff.rfl
theorem q_run_callc (v : V) (as : List O) : runIn P ⟨d, g, .call (.c v) as⟩ K ⟨.go, e, σ⟩ = callV P σ (some v) (opvs e as) (fun t r σ' => K ⟨t, setD e d r, σ'⟩) := propext Iff.rfl
theorem q_run_callm (k : Nat) (nm : String) (as : List O) : runIn P ⟨d, g, .call (.m k nm) as⟩ K ⟨.go, e, σ⟩ = callM P σ nm (eget e k) (opvs e as) (fun t r σ' => K ⟨t, setD e d r, σ'⟩) := propext Iff.rfl
theorem q_run_mkMap : runIn P ⟨d, g, .mkMap⟩ K ⟨.go, e, σ⟩ = (iK e d K .go (some (.map σ.length)) (σ ++ [.map 0 []])) := propext Iff.rfl
theorem q_run_look (kd : KD) (ok : Bool) (z : V) (m k : O) : runIn P ⟨d, g, .look kd ok z m k⟩ K ⟨.go, e, σ⟩ = (onV (opv e m) fun t a => onV (opv e k) fun _ b => evLook kd ok z σ a b fun _ u => iK e d K t (some u) σ) := propext Iff.rfl
theorem q_run_mapUp (kd : KD) (m k v : O) : runIn P ⟨d, g, .mapUp kd m k v⟩ K ⟨.go, e, σ⟩ = (onV (opv e m) fun t a => onV (opv e k) fun _ b => onV (opv e v) fun _ c => evMapUp kd σ a b c fun _ σ' => iK e d K t none σ') := propext Iff.rfl
theorem q_run_mapEnt (kd : KD) (z : V) (m k : O) : runIn P ⟨d, g, .mapEnt kd z m k⟩ K ⟨.go, e, σ⟩ = (onV (opv e m) fun t a => onV (opv e k) fun _ b => evMapEnt kd z σ a b fun _ u σ' => iK e d K t (some u) σ') := propext Iff.rfl
theorem q_run_entSt (m s v : O) : runIn P ⟨d, g, .entSt m s v⟩ K ⟨.go, e, σ⟩ = (onV (opv e m) fun t a => onV (opv e s) fun _ b => onV (opv e v) fun _ c => evEntSt σ a b c fun _ σ' => iK e d K t none σ') := propext Iff.rfl
theorem q_run_lenM (x : O) : runIn P ⟨d, g, .lenM x⟩ K ⟨.go, e, σ⟩ = (onV (opv e x) fun t a => evLenM σ a fun _ u => iK e d K t (some u) σ) := propext Iff.rfl
theorem q_run_eqA (neg : Bool) (ks : List SK) (x y : O) : runIn P ⟨d, g, .eqA neg ks x y⟩ K ⟨.go, e, σ⟩ = (onV (opv e x) fun t a => onV (opv e y) fun _ b => evEqA neg ks a b fun _ u => iK e d K t (some u) σ) := propext Iff.rfl
theorem q_run_iface (ty : Nat) (x : O) : runIn P ⟨d, g, .iface ty x⟩ K ⟨.go, e, σ⟩ = (onV (opv e x) fun t a => iK e d K t (some (.iface ty a)) σ) := propext Iff.rfl
theorem q_run_fn (f : FuncId) (caps : List O) : runIn P ⟨d, g, .fn f caps⟩ K ⟨.go, e, σ⟩ = (onVs (opvs e caps) fun t us => iK e d K t (some (.fn (.func f) us)) σ) := propext Iff.rfl
theorem q_run_copy (sz : Nat) (x y : O) : runIn P ⟨d, g, .copy sz x y⟩ K ⟨.go, e, σ⟩ = (onV (opv e x) fun t a => onV (opv e y) fun _ b => onRow (rowsOf σ sz b) fun _ rs => evCopy sz σ rs a fun _ u σ' => iK e d K t (some u) σ') := propext Iff.rfl
theorem q_run_mm (mx : Bool) (x y : O) : runIn P ⟨d, g, .mm mx x y⟩ K ⟨.go, e, σ⟩ = (onV (opv e x) fun t a => onV (opv e y) fun _ b => evMM mx a b fun _ u => iK e d K t (some u) σ) := propext Iff.rfl
end

section
variable {K : Tok → V → Prop} {KS : Tok → Store → Prop} {e : Env} {σ : Store}
theorem q_onMap_u (c : Nat) (es : List ME) (K : Tok → Nat → List ME → Prop) : onMap (some (.map c es)) K = K .go c es := propext Iff.rfl
theorem q_look_m (kd : KD) (ok : Bool) (z : V) (id : Nat) (k : V) : evLook kd ok z σ (.map id) k K = (onMap σ[id]? fun t _ es => kd.ok k = true ∧ keysOk kd es = true ∧ K t (lookR ok z (findM k es))) := propext Iff.rfl
theorem q_mapUp_m (kd : KD) (id : Nat) (k v : V) : evMapUp kd σ (.map id) k v KS = (onMap σ[id]? fun t c es => kd.ok k = true ∧ keysOk kd es = true ∧ KS t (σ.set id (.map (clkM k c es) (putM k v c es)))) := propext Iff.rfl
theorem q_mapEnt_m (kd : KD) (z : V) (id : Nat) (k : V) (KV : Tok → V → Store → Prop) : evMapEnt kd z σ (.map id) k KV = (onMap σ[id]? fun t c es => kd.ok k = true ∧ keysOk kd es = true ∧ KV t (.tup [valOr z (findM k es), .t (.int .i64 (bornOr c (findM k es) : Nat))]) (σ.set id (.map (clkM k c es) (putM k (valOr z (findM k es)) c es)))) := propext Iff.rfl
theorem q_entSt_m (id : Nat) (k : IntKind) (s : Int) (x : V) : evEntSt σ (.map id) (.t (.int k s)) x KS = (onMap σ[id]? fun t c es => onRow (storeM s x es) fun _ es' => KS t (σ.set id (.map c es'))) := propext Iff.rfl
theorem q_lenM_m (id : Nat) : evLenM σ (.map id) K = (onMap σ[id]? fun t _ es => K t (.t (.int .i64 (es.length : Nat)))) := propext Iff.rfl
theorem q_eqA_f (ks : List SK) (as bs : List V) : evEqA false ks (.agg as) (.agg bs) K = (fits ks as = true ∧ fits ks bs = true ∧ K .go (.t (.bool (sEqs as bs)))) := by simp [evEqA]
theorem q_eqA_t (ks : List SK) (as bs : List V) : evEqA true ks (.agg as) (.agg bs) K = (fits ks as = true ∧ fits ks bs = true ∧ K .go (.t (.bool (!sEqs as bs)))) := by simp [evEqA]
theorem q_onVs_u (us : List V) (K : Tok → List V → Prop) : onVs (some us) K = K .go us := propext Iff.rfl
theorem q_copy_sl (sz : Nat) (rs : List (List V)) (id g off len : Nat) (KV : Tok → V → Store → Prop) : evCopy sz σ rs (.sl id g off len) KV = (onSlc σ[id]? fun t s rows => s = sz ∧ g = rows.length ∧ 0 < min rs.length len ∧
      KV t (.t (.int .i64 ((min rs.length len : Nat) : Int))) (σ.set id (.slc sz (rows.take off ++ rs.take (min rs.length len) ++ rows.drop (off + min rs.length len))))) := propext Iff.rfl
theorem q_mm_max (k k' : IntKind) (x y : Int) : evMM true (.t (.int k x)) (.t (.int k' y)) K = K .go (.t (.int k (if y > x then y else x))) := by simp [evMM]
theorem q_mm_min (k k' : IntKind) (x y : Int) : evMM false (.t (.int k x)) (.t (.int k' y)) K = K .go (.t (.int k (if y < x then y else x))) := by simp [evMM]
theorem q_sliceSl_n (n : Nat) (lo hi : Option O) : evSliceSl e n lo hi σ .nils K = (evSlice e 0 lo hi fun t _ _ => K t .nils) := propext Iff.rfl
theorem q_sliceSl_o (n : Nat) (lo hi : Option O) (id g off len : Nat) : evSliceSl e n lo hi σ (.sl id g off len) K = (onSlc σ[id]? fun _ sz rows => sz = n ∧ g = rows.length ∧ evSlice e len lo hi fun t l h => K t (.sl id g (off + l) (h - l))) := propext Iff.rfl
theorem q_callM_i {P : Program} (nm : String) (ty : Nat) (u : V) (us : List V) (KV : Tok → V → Store → Prop) : callM P σ nm (some (.iface ty u)) (some us) KV = (onRow (methodOf P ty nm) fun t g => ∃ R, ACalls P g (u :: us) σ R ∧ ∀ r σ', R r σ' → KV t r σ') := propext Iff.rfl
theorem q_ok_int (k : IntKind) (n : Int) : KD.ok (.one (.int k)) (.t (.int k n)) = true := by simp [KD.ok, SK.fit]
theorem q_ok_str (s : List UInt8) : KD.ok (.one .str) (.t (.str s)) = true := rfl
theorem q_ok_st (ks : List SK) (us : List V) : KD.ok (.st ks) (.agg us) = fits ks us := rfl
theorem q_fits_nil : fits [] [] = true := rfl
theorem q_fits_int (k : IntKind) (n : Int) (ks : List SK) (us : List V) : fits (.int k :: ks) (.t (.int k n) :: us) = fits ks us := by simp [fits, SK.fit]
theorem q_fits_bool (b : Bool) (ks : List SK) (us : List V) : fits (.bool :: ks) (.t (.bool b) :: us) = fits ks us := by simp [fits, SK.fit]
theorem q_fits_str (s : List UInt8) (ks : List SK) (us : List V) : fits (.str :: ks) (.t (.str s) :: us) = fits ks us := by simp [fits, SK.fit]
theorem q_sEqs_nil : sEqs [] [] = true := rfl
theorem q_sEqs_int (k k' : IntKind) (n m : Int) (us vs : List V) : sEqs (.t (.int k n) :: us) (.t (.int k' m) :: vs) = ((n == m) && sEqs us vs) := rfl
theorem q_sEqs_bool (n m : Bool) (us vs : List V) : sEqs (.t (.bool n) :: us) (.t (.bool m) :: vs) = ((n == m) && sEqs us vs) := rfl
theorem q_sEqs_str (n m : List UInt8) (us vs : List V) : sEqs (.t (.str n) :: us) (.t (.str m) :: vs) = ((n == m) && sEqs us vs) := rfl
theorem q_keys_nil (kd : KD) : keysOk kd [] = true := rfl
theorem q_keys_cons (kd : KD) (k v : V) (b : Nat) (es : List ME) : keysOk kd (⟨k, v, b⟩ :: es) = (kd.ok k && keysOk kd es) := rfl
theorem q_lookR_ts (z k v : V) (b : Nat) : lookR true z (some ⟨k, v, b⟩) = .tup [v, .t (.bool true)] := rfl
theorem q_lookR_tn (z : V) : lookR true z none = .tup [z, .t (.bool false)] := rfl
theorem q_lookR_fs (z k v : V) (b : Nat) : lookR false z (some ⟨k, v, b⟩) = v := rfl
theorem q_lookR_fn (z : V) : lookR false z none = z := rfl
theorem q_findM_nil (k : V) : findM k [] = none := rfl
theorem q_putM_nil (k v : V) (c : Nat) : putM k v c [] = [⟨k, v, c⟩] := rfl
theorem q_clkM_nil (k : V) (c : Nat) : clkM k c [] = c + 1 := rfl
theorem q_valOr_s (z k v : V) (b : Nat) : valOr z (some ⟨k, v, b⟩) = v := rfl
theorem q_valOr_n (z : V) : valOr z none = z := rfl
theorem q_bornOr_s (c : Nat) (k v : V) (b : Nat) : bornOr c (some ⟨k, v, b⟩) = b := rfl
theorem q_bornOr_n (c : Nat) : bornOr c none = c := rfl
theorem q_condV_bool (v : Bool) (A B : Tok → Prop) : condV (some (.t (.bool v))) A B = condP v A B := propext Iff.rfl
theorem q_condP_t (A B : Tok → Prop) : condP true A B = A .go := condP_true A B
theorem q_condP_f (A B : Tok → Prop) : condP false A B = B .go := condP_false A B
theorem q_onV_u (u : V) : onV (some u) K = K .go u := propext Iff.rfl
theorem q_onRow_u {α : Type} (u : α) (K : Tok → α → Prop) : onRow (some u) K = K .go u := propext Iff.rfl
theorem q_onBox_u (cs : List V) (K : Tok → List V → Prop) : onBox (some (.box cs)) K = K .go cs := propext Iff.rfl
theorem q_onSlc_u (sz : Nat) (rows : List (List V)) (K : Tok → Nat → List (List V) → Prop) : onSlc (some (.slc sz rows)) K = K .go sz rows := propext Iff.rfl
theorem q_ldT_c (x : T) (xs : List T) : ldT none (x :: xs) K = K .go (.t x) := propext Iff.rfl
theorem q_ldT_n (n : Nat) (cs : List T) : ldT (some n) cs K = (n ≤ cs.length ∧ K .go (.agg ((cs.take n).map .t))) := propext Iff.rfl
theorem q_ldV_c (x : V) (xs : List V) : ldV none (x :: xs) K = (one x = true ∧ K .go x) := propext Iff.rfl
theorem q_ldV_t (x : T) (xs : List V) : ldV none (.t x :: xs) K = K .go (.t x) := propext ⟨fun h => h.2, fun h => ⟨rfl, h⟩⟩
theorem q_ldV_n (n : Nat) (cs : List V) : ldV (some n) cs K = (n ≤ cs.length ∧ K .go (.agg (cs.take n))) := propext Iff.rfl
theorem q_load_pv (n : Option Nat) (cs : List T) : evLoad n σ (.pv cs) K = ldT n cs K := propext Iff.rfl
theorem q_load_ptr (n : Option Nat) (id off : Nat) : evLoad n σ (.ptr id off) K = (onBox σ[id]? fun t cs => ldV n (cs.drop off) fun _ u => K t u) := propext Iff.rfl
theorem q_load_ep (n : Option Nat) (id g i j : Nat) : evLoad n σ (.ep id g i j) K = (onSlc σ[id]? fun t _ rows => g = rows.length ∧ onRow rows[i]? fun _ r => ldV n (r.drop j) fun _ u => K t u) := propext Iff.rfl
theorem q_store_u (n : Nat) (a u : V) : evStore n σ a u KS = (onRow (cellsOf u) fun t us => us.length = n ∧ us.all one = true ∧ evStoreTo n σ us (fun _ σ' => KS t σ') a) := propext Iff.rfl
theorem q_storeTo_ptr (n : Nat) (us : List V) (id off : Nat) : evStoreTo n σ us KS (.ptr id off) = (onBox σ[id]? fun t cs => off + n ≤ cs.length ∧ KS t (σ.set id (.box (putAt cs off us)))) := propext Iff.rfl
theorem q_storeTo_ep (n : Nat) (us : List V) (id g i j : Nat) : evStoreTo n σ us KS (.ep id g i j) = (onSlc σ[id]? fun t sz rows => g = rows.length ∧ onRow rows[i]? fun _ r => j + n ≤ r.length ∧ KS t (σ.set id (.slc sz (rows.set i (putAt r j us))))) := propext Iff.rfl
theorem q_bin_add (k : IntKind) (x y : Int) : evBin .add (.t (.int k x)) (.t (.int k y)) K = K .go (.t (.int k (k.wrap (x + y)))) := by simp [evBin, isSh, binInt]
theorem q_bin_sub (k : IntKind) (x y : Int) : evBin .sub (.t (.int k x)) (.t (.int k y)) K = K .go (.t (.int k (k.wrap (x - y)))) := by simp [evBin, isSh, binInt]
theorem q_bin_mul (k : IntKind) (x y : Int) : evBin .mul (.t (.int k x)) (.t (.int k y)) K = K .go (.t (.int k (k.wrap (x * y)))) := by simp [evBin, isSh, binInt]
theorem q_bin_quo (k : IntKind) (x y : Int) : evBin .quo (.t (.int k x)) (.t (.int k y)) K = (y ≠ 0 ∧ K .go (.t (.int k (k.wrap (x.tdiv y))))) := by simp [evBin, isSh, binInt]
theorem q_bin_rem (k : IntKind) (x y : Int) : evBin .rem (.t (.int k x)) (.t (.int k y)) K = (y ≠ 0 ∧ K .go (.t (.int k (x.tmod y)))) := by simp [evBin, isSh, binInt]
theorem q_bin_and (k : IntKind) (x y : Int) : evBin .and (.t (.int k x)) (.t (.int k y)) K = K .go (.t (.int k (bits .and k x y))) := by simp [evBin, isSh, binInt]
theorem q_bin_or (k : IntKind) (x y : Int) : evBin .or (.t (.int k x)) (.t (.int k y)) K = K .go (.t (.int k (bits .or k x y))) := by simp [evBin, isSh, binInt]
theorem q_bin_xor (k : IntKind) (x y : Int) : evBin .xor (.t (.int k x)) (.t (.int k y)) K = K .go (.t (.int k (bits .xor k x y))) := by simp [evBin, isSh, binInt]
theorem q_bin_eql (k : IntKind) (x y : Int) : evBin .eql (.t (.int k x)) (.t (.int k y)) K = K .go (.t (.bool (x == y))) := by simp [evBin, isSh, binInt]
theorem q_bin_neq (k : IntKind) (x y : Int) : evBin .neq (.t (.int k x)) (.t (.int k y)) K = K .go (.t (.bool (x != y))) := by simp [evBin, isSh, binInt]
theorem q_bin_lss (k : IntKind) (x y : Int) : evBin .lss (.t (.int k x)) (.t (.int k y)) K = K .go (.t (.bool (decide (x < y)))) := by simp [evBin, isSh, binInt]
theorem q_bin_leq (k : IntKind) (x y : Int) : evBin .leq (.t (.int k x)) (.t (.int k y)) K = K .go (.t (.bool (decide (x ≤ y)))) := by simp [evBin, isSh, binInt]
theorem q_bin_gtr (k : IntKind) (x y : Int) : evBin .gtr (.t (.int k x)) (.t (.int k y)) K = K .go (.t (.bool (decide (x > y)))) := by simp [evBin, isSh, binInt]
theorem q_bin_geq (k : IntKind) (x y : Int) : evBin .geq (.t (.int k x)) (.t (.int k y)) K = K .go (.t (.bool (decide (x ≥ y)))) := by simp [evBin, isSh, binInt]
theorem q_bin_shl (k k' : IntKind) (x y : Int) : evBin .shl (.t (.int k x)) (.t (.int k' y)) K = (0 ≤ y ∧ K .go (.t (.int k (k.wrap (x * 2 ^ (min y.toNat k.bits)))))) := by simp [evBin, isSh, shInt]
theorem q_bin_shr (k k' : IntKind) (x y : Int) : evBin .shr (.t (.int k x)) (.t (.int k' y)) K = (0 ≤ y ∧ K .go (.t (.int k (x.fdiv (2 ^ (min y.toNat k.bits)))))) := by simp [evBin, isSh, shInt]
theorem q_str_add (x y : List UInt8) : evBin .add (.t (.str x)) (.t (.str y)) K = (((x.length + y.length : Nat) : Int) ≤ 9223372036854775807 ∧ K .go (.t (.str (x ++ y)))) := propext Iff.rfl
theorem q_str_eql (x y : List UInt8) : evBin .eql (.t (.str x)) (.t (.str y)) K = K .go (.t (.bool (x == y))) := propext Iff.rfl
theorem q_str_neq (x y : List UInt8) : evBin .neq (.t (.str x)) (.t (.str y)) K = K .go (.t (.bool (!(x == y)))) := propext Iff.rfl
theorem q_str_lss (x y : List UInt8) : evBin .lss (.t (.str x)) (.t (.str y)) K = K .go (.t (.bool (Op.bytesLess x y))) := propext Iff.rfl
theorem q_str_leq (x y : List UInt8) : evBin .leq (.t (.str x)) (.t (.str y)) K = K .go (.t (.bool (Op.bytesLess x y || x == y))) := propext Iff.rfl
theorem q_str_gtr (x y : List UInt8) : evBin .gtr (.t (.str x)) (.t (.str y)) K = K .go (.t (.bool (!(Op.bytesLess x y || x == y)))) := propext Iff.rfl
theorem q_str_geq (x y : List UInt8) : evBin .geq (.t (.str x)) (.t (.str y)) K = K .go (.t (.bool (!Op.bytesLess x y))) := propext Iff.rfl
theorem q_eqB_b (neg p q : Bool) : evEqB neg (.t (.bool p)) (.t (.bool q)) K = K .go (.t (.bool (if neg then !(p == q) else (p == q)))) := propext Iff.rfl
theorem q_evNil_t (f : V → Option Bool) (neg : Bool) (x y : V) : evNil f neg x y K = nilK (f x) (f y) neg K := rfl
theorem q_nilK_l (r neg : Bool) : nilK (some true) (some r) neg K = K .go (.t (.bool (if neg then !r else r))) := propext Iff.rfl
theorem q_nilK_r (r neg : Bool) : nilK (some r) (some true) neg K = K .go (.t (.bool (if neg then !r else r))) := by cases r <;> rfl
theorem q_un_neg (k : IntKind) (n : Int) : evUn .neg (.t (.int k n)) K = K .go (.t (.int k (k.wrap (0 - n)))) := propext Iff.rfl
theorem q_un_not (v : Bool) : evUn .not (.t (.bool v)) K = K .go (.t (.bool (!v))) := propext Iff.rfl
theorem q_conv_i (k k' : IntKind) (n : Int) : evConv k (.t (.int k' n)) K = K .go (.t (.int k (k.wrap n))) := propext Iff.rfl
theorem q_bndV_i (k : IntKind) (i : Int) (KN : Tok → Nat → Prop) : bndV (some (.t (.int k i))) KN = (0 ≤ i ∧ KN .go i.toNat) := propext Iff.rfl
theorem q_bnd_n (n : Nat) (KN : Tok → Nat → Prop) : bnd e none n KN = KN .go n := propext Iff.rfl
theorem q_bnd_o (o : O) (n : Nat) (KN : Tok → Nat → Prop) : bnd e (some o) n KN = bndV (opv e o) KN := propext Iff.rfl
theorem q_evSlice_u (n : Nat) (lo hi : Option O) (KK : Tok → Nat → Nat → Prop) : evSlice e n lo hi KK = (bnd e hi n fun t h => h ≤ n ∧ bnd e lo 0 fun _ l => l ≤ h ∧ KK t l h) := propext Iff.rfl
theorem q_sliceStr_s (lo hi : Option O) (s : List UInt8) : evSliceStr e lo hi (.t (.str s)) K = (evSlice e s.length lo hi fun t l h => K t (.t (.str ((s.take h).drop l)))) := propext Iff.rfl
theorem q_sliceSl_l (n sz : Nat) (lo hi : Option O) (rows : List (List T)) : evSliceSl e n lo hi σ (.t (.lst sz rows)) K = (sz = n ∧ evSlice e rows.length lo hi fun t l h => K t (.t (.lst sz ((rows.take h).drop l)))) := propext Iff.rfl
theorem q_fa_pv (off : Nat) (cs : List T) : evFieldAddr off (.pv cs) K = K .go (.pv (cs.drop off)) := propext Iff.rfl
theorem q_fa_ptr (off id o : Nat) : evFieldAddr off (.ptr id o) K = K .go (.ptr id (o + off)) := propext Iff.rfl
theorem q_fa_ep (off id g i j : Nat) : evFieldAddr off (.ep id g i j) K = K .go (.ep id g i (j + off)) := propext Iff.rfl
theorem q_field_a (off : Nat) (n : Option Nat) (cs : List V) : evField off n (.agg cs) K = ldV n (cs.drop off) K := propext Iff.rfl
theorem q_ix_lst (n sz : Nat) (rows : List (List T)) (k : IntKind) (i : Int) : evIndexAddr n σ (.t (.lst sz rows)) (.t (.int k i)) K = (sz = n ∧ 0 ≤ i ∧ onRow rows[i.toNat]? fun t r => K t (.pv r)) := propext Iff.rfl
theorem q_ix_sl (n id g off len : Nat) (k : IntKind) (i : Int) : evIndexAddr n σ (.sl id g off len) (.t (.int k i)) K = (onSlc σ[id]? fun t sz rows => sz = n ∧ g = rows.length ∧ 0 ≤ i ∧ i < len ∧ K t (.ep id g (off + i.toNat) 0)) := propext Iff.rfl
theorem q_ix_str (s : List UInt8) (k : IntKind) (n : Int) : evIndex (.t (.str s)) (.t (.int k n)) K = (0 ≤ n ∧ onRow s[n.toNat]? fun t b => K t (.t (.int .u8 b.toNat))) := propext Iff.rfl
theorem q_nc_pv (cs : List T) : nilChk (.pv cs) K = K .go (.pv cs) := propext Iff.rfl
theorem q_nc_ptr (id off : Nat) : nilChk (.ptr id off) K = K .go (.ptr id off) := propext Iff.rfl
theorem q_nc_ep (id g i j : Nat) : nilChk (.ep id g i j) K = K .go (.ep id g i j) := propext Iff.rfl
theorem q_mkSl (sz bys : Nat) (z : List V) (k k' : IntKind) (n m : Int) (K : Tok → V → Store → Prop) : evMkSl sz bys z σ (.t (.int k n)) (.t (.int k' m)) K = (0 ≤ n ∧ n ≤ m ∧ m ≤ 9223372036854775807 ∧ (bys : Int) * m ≤ 140737488355328 ∧ K .go (.sl σ.length n.toNat 0 n.toNat) (σ ++ [.slc sz (List.replicate n.toNat z)])) := propext Iff.rfl
theorem q_app_nil (sz bys : Nat) (rs : List (List V)) (K : Tok → V → Store → Prop) : evAppend sz bys σ rs .nils K = (rs.length * bys ≤ maxBy ∧ rs.length ≤ 9223372036854775807 ∧ K .go (.sl σ.length rs.length 0 rs.length) (σ ++ [.slc sz rs])) := propext Iff.rfl
theorem q_app_sl (sz bys : Nat) (rs : List (List V)) (id g off len : Nat) (K : Tok → V → Store → Prop) : evAppend sz bys σ rs (.sl id g off len) K = (onSlc σ[id]? fun t s rows => s = sz ∧ g = rows.length ∧ off = 0 ∧ len = rows.length ∧ (rows.length + rs.length) * bys ≤ maxBy ∧ rows.length + rs.length ≤ 9223372036854775807 ∧
      K t (.sl id (rows.length + rs.length) 0 (rows.length + rs.length)) (σ.set id (.slc sz (rows ++ rs)))) := propext Iff.rfl
theorem q_rows_nil (sz : Nat) : rowsOf σ sz .nils = some [] := by simp only [rowsOf]
theorem q_rows_t (sz : Nat) (rows : List (List T)) : rowsOf σ sz (.t (.lst sz rows)) = some (rows.map fun r => r.map .t) := by simp [rowsOf]
theorem q_rows_r (sz : Nat) (rs : List (List V)) (h : (rs.all fun r => r.all one) = true) : rowsOf σ sz (.rows sz rs) = some rs := by simp only [rowsOf, h, and_self, if_true]
theorem q_rows_s (sz id g off len : Nat) (rows : List (List V)) (h : σ[id]? = some (.slc sz rows)) (hg : g = rows.length) : rowsOf σ sz (.sl id g off len) = some ((rows.drop off).take len) := by simp only [rowsOf, h, hg, and_self, if_true]
theorem q_rows_whole (sz id g len : Nat) (rows : List (List V)) (h : σ[id]? = some (.slc sz rows)) (hg : g = rows.length) (hl : len = rows.length) : rowsOf σ sz (.sl id g 0 len) = some rows := by simp only [rowsOf, h, hg, hl, and_self, if_true, List.drop_zero, List.take_length]
theorem q_litRows_nil (sz : Nat) (rs : List (List V)) (K : Tok → List (List V) → Prop) : litRows e sz .go rs [] K = K .go rs := propext Iff.rfl
theorem q_litRows_cons (sz : Nat) (rs : List (List V)) (i : Nat) (o : O) (ps : List (Nat × O)) (K : Tok → List (List V) → Prop) : litRows e sz .go rs ((i, o) :: ps) K = (onV (opv e o) fun t u => onRow (cellsOf u) fun _ us => us.length = sz ∧ us.all one = true ∧ i < rs.length ∧ litRows e sz t (rs.set i us) ps K) := propext Iff.rfl
theorem q_fill_nil (cs : List V) (K : Tok → List V → Prop) : fillV e .go cs [] K = K .go cs := propext Iff.rfl
theorem q_fill_cons (cs : List V) (off sz : Nat) (o : O) (ps : List (Nat × Nat × O)) (K : Tok → List V → Prop) : fillV e .go cs ((off, sz, o) :: ps) K = (onV (opv e o) fun t u => onRow (cellsOf u) fun _ us => us.length = sz ∧ off + sz ≤ cs.length ∧ fillV e t (putAt cs off us) ps K) := propext Iff.rfl
theorem q_litK_f (sz : Nat) (rs : List (List V)) (K : Tok → V → Store → Prop) : litK sz σ rs K .go false = K .go (.rows sz rs) σ := propext Iff.rfl
theorem q_litK_t (sz : Nat) (rs : List (List V)) (K : Tok → V → Store → Prop) : litK sz σ rs K .go true = K .go (.sl σ.length rs.length 0 rs.length) (σ ++ [.slc sz rs]) := propext Iff.rfl
theorem q_litHow_s (b : Bool) (K : Bool → Prop) : litHow K (some b) = K b := propext Iff.rfl
theorem lit_own {K : Bool → Prop} (h : K true) : litHow K none := ⟨true, h⟩
theorem lit_rows {K : Bool → Prop} (h : K false) : litHow K none := ⟨false, h⟩
theorem q_convStr_s (s : List UInt8) : evConvStr (.t (.str s)) K = K .go (.t (.str s)) := propext Iff.rfl
theorem q_strBytes_s (s : List UInt8) (K : Tok → V → Store → Prop) : evStrBytes σ (.t (.str s)) K = K .go (.sl σ.length s.length 0 s.length) (σ ++ [.slc 1 (byteRows s)]) := propext Iff.rfl
theorem q_bytesOf_nil : bytesOf [] = some [] := by simp only [bytesOf]
theorem q_bytesOf_cons (n : Int) (rs : List (List V)) : bytesOf ([.t (.int .u8 n)] :: rs) = (bytesOf rs).map (UInt8.ofNat n.toNat :: ·) := by simp only [bytesOf]
theorem q_bytesOf_rows (s : List UInt8) : bytesOf (byteRows s) = some s := by
  induction s with
  | nil => simp [byteRows, bytesOf]
  | cons b s ih =>
    have : byteRows (b :: s) = [.t (.int .u8 b.toNat)] :: byteRows s := rfl
    rw [this, q_bytesOf_cons, ih]
    simp
theorem q_extract_t (k : Nat) (us : List V) : evExtract k (.tup us) K = onV us[k]? K := propext Iff.rfl
end

theorem cond_split {v : Bool} {A B : Tok → Prop} (h1 : v = true → A .go) (h2 : v = false → B .go) : condP v A B := ⟨h1, h2⟩
theorem call_by {P : Program} {f : FuncId} {caps us : List V} {σ : Store} {R : V → Store → Prop} {K : Tok → V → Store → Prop} (h : ACalls P f (us ++ caps) σ R) (hk : ∀ r σ', R r σ' → K .go r σ') : callV P σ (some (.fn (.func f) caps)) (some us) K := ⟨R, h, hk⟩
/-- A call that gives one value and leaves the store. -/
theorem call_pure {P : Program} {f : FuncId} {us : List V} {σ : Store} {u : V} {K : Tok → V → Store → Prop} (h : ACalls P f us σ fun r σ' => r = u ∧ σ' = σ) (hk : K .go u σ) : callV P σ (some (.fn (.func f) [])) (some us) K :=
  ⟨_, by rw [List.append_nil]; exact h, by rintro r σ' ⟨rfl, rfl⟩; exact hk⟩
/-- The function ends here with some of its own left over, which goes. -/
theorem ret_same {b : Nat} {R : V → Store → Prop} {σ τ : Store} {us : List V} (hb : σ.length = b) (hσ : ltσ b σ = true) (hu : (mkRes us).lt b = true) (h : R (mkRes us) σ) : retV b R (σ ++ τ) (some us) := by
  subst hb
  exact ⟨σ.length, ⟨Nat.le_refl _, .inr ⟨hu, by simpa using hσ⟩⟩, by simpa using h⟩
theorem ret_same0 {b : Nat} {R : V → Store → Prop} {σ : Store} {us : List V} (hb : σ.length = b) (h : R (mkRes us) σ) : retV b R σ (some us) :=
  ⟨b, ⟨Nat.le_refl _, .inl (by omega)⟩, by rw [List.take_of_length_le (by omega)]; exact h⟩

/-- A loop: ks are the slots that are kept at its head, m how many objects; J what holds there. -/
theorem loop_by {b : Nat} {body : (Ex → St → Prop) → St → Prop} {Q : Ex → St → Prop} {s : St} (ks : List Nat) (m : Nat) (J : Nat → St → Prop) (n : Nat) (h1 : CutOk b s ks m) (h2 : J n (s.cut ks m))
    (h3 : ∀ n s', J n s' → body (thenK (fun s'' => CutOk b s'' ks m ∧ ∃ n', n' < n ∧ J n' (s''.cut ks m)) Q) s') : LoopV b body Q s := ⟨ks, fun _ => m, J, n, h1, h2, h3⟩
/-- A loop that makes objects and drops none. -/
theorem loop_all {b : Nat} {body : (Ex → St → Prop) → St → Prop} {Q : Ex → St → Prop} {s : St} (ks : List Nat) (J : Nat → St → Prop) (n : Nat) (hb : b ≤ s.σ.length) (h2 : J n (s.cut ks s.σ.length))
    (h3 : ∀ n s', J n s' → body (thenK (fun s'' => CutOk b s'' ks s''.σ.length ∧ ∃ n', n' < n ∧ J n' (s''.cut ks s''.σ.length)) Q) s') : LoopV b body Q s := ⟨ks, List.length, J, n, ⟨hb, .inl (Nat.le_refl _)⟩, h2, h3⟩
theorem cut_all {b : Nat} {e : Env} {σ : Store} {ks : List Nat} (h : b ≤ σ.length) : CutOk b ⟨.go, e, σ⟩ ks σ.length := ⟨h, .inl (Nat.le_refl _)⟩
theorem cut_to {b : Nat} {e : Env} {σ τ : Store} {ks : List Nat} {m : Nat} (hm : σ.length = m) (h : b ≤ m) (he : ltE m (keep ks e) = true) (hσ : ltσ m σ = true) : CutOk b ⟨.go, e, σ ++ τ⟩ ks m := by
  subst hm
  exact ⟨h, .inr ⟨he, by simpa using hσ⟩⟩

theorem q_app_get0 (σ τ : Store) : (σ ++ τ)[σ.length]? = τ[0]? := by rw [List.getElem?_append_right (Nat.le_refl _), Nat.sub_self]
theorem q_app_get (σ τ : Store) (i : Nat) : (σ ++ τ)[σ.length + i]? = τ[i]? := by rw [List.getElem?_append_right (Nat.le_add_right _ _), Nat.add_sub_cancel_left]
theorem q_app_set0 (σ τ : Store) (o : Obj) : (σ ++ τ).set σ.length o = σ ++ τ.set 0 o := by rw [List.set_append_right _ _ (Nat.le_refl _), Nat.sub_self]
theorem q_app_set (σ τ : Store) (i : Nat) (o : Obj) : (σ ++ τ).set (σ.length + i) o = σ ++ τ.set i o := by rw [List.set_append_right _ _ (Nat.le_add_right _ _), Nat.add_sub_cancel_left]
theorem q_app_take0 (σ τ : Store) : (σ ++ τ).take σ.length = σ := List.take_left ..
theorem q_app_take (σ τ : Store) (i : Nat) : (σ ++ τ).take (σ.length + i) = σ ++ τ.take i := List.take_length_add_append ..
theorem q_ltσ_app {m : Nat} {σ τ : Store} : ltσ m (σ ++ τ) = (ltσ m σ && ltσ m τ) := by simp [ltσ]
end Go.Ab
