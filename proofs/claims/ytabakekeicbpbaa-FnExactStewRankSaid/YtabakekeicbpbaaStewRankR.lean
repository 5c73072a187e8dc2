/- Ranks: counted service by service, and copy by copy. Conditions: none. -/
/- StewRank of the reference. Conditions: none. -/
/- StewRank of the program. Conditions: none. -/
/- StewRank's result: its shape and size. Conditions: none. -/
import Derived.Test.YtabakekeicbpbaaStewLive
set_option linter.unusedSimpArgs false
set_option linter.unusedVariables false
set_option linter.defProp false

section
open Go Go.Ab
set_option maxHeartbeats 2000000
namespace Go.Proofs.Ytabakekeicbpbaa.W
theorem less_trans : ∀ {a b c : List UInt8}, Op.bytesLess a b = true → Op.bytesLess b c = true → Op.bytesLess a c = true
  | [], [], c, h, _ => by simp [Op.bytesLess] at h
  | [], y :: b, [], _, h => by simp [Op.bytesLess] at h
  | [], y :: b, z :: c, _, _ => by simp [Op.bytesLess]
  | x :: a, [], c, h, _ => by simp [Op.bytesLess] at h
  | x :: a, y :: b, [], _, h => by simp [Op.bytesLess] at h
  | x :: a, y :: b, z :: c, h, g => by
    simp only [Op.bytesLess, Bool.or_eq_true, Bool.and_eq_true, decide_eq_true_eq, beq_iff_eq] at h g ⊢
    rcases h with h | ⟨rfl, h⟩
    · rcases g with g | ⟨rfl, g⟩
      · exact .inl (UInt8.lt_trans h g)
      · exact .inl h
    · rcases g with g | ⟨rfl, g⟩
      · exact .inl g
      · exact .inr ⟨rfl, less_trans h g⟩
/-- Neighbours ascend: all ascend. -/
theorem asc_all {α : Type} (nm : α → List UInt8) (l : List α) (h : ∀ i x y, l[i]? = some x → l[i + 1]? = some y → Op.bytesLess (nm x) (nm y) = true) : ∀ (d i : Nat) (x y : α), l[i]? = some x → l[i + d + 1]? = some y → Op.bytesLess (nm x) (nm y) = true
  | 0, i, x, y, hx, hy => h i x y hx hy
  | d + 1, i, x, y, hx, hy => by
    have hlt := (List.getElem?_eq_some_iff.1 hy).1
    have hz : l[i + d + 1]? = some (l[i + d + 1]'(by omega)) := List.getElem?_eq_getElem _
    exact less_trans (asc_all nm l h d i x _ hx hz) (h (i + d + 1) _ y hz hy)
theorem asc_inj {α : Type} (nm : α → List UInt8) (l : List α) (h : ∀ i x y, l[i]? = some x → l[i + 1]? = some y → Op.bytesLess (nm x) (nm y) = true) {i j : Nat} {x y : α} (hx : l[i]? = some x) (hy : l[j]? = some y) (he : nm x = nm y) : i = j := by
  rcases Nat.lt_trichotomy i j with g | g | g
  · have := asc_all nm l h (j - i - 1) i x y hx (by rw [show i + (j - i - 1) + 1 = j by omega]; exact hy)
    rw [he, less_irr] at this; cases this
  · exact g
  · have := asc_all nm l h (i - j - 1) j y x hy (by rw [show j + (i - j - 1) + 1 = i by omega]; exact hx)
    rw [he, less_irr] at this; cases this
theorem asc_same {α : Type} (nm : α → List UInt8) (l : List α) (h : ∀ i x y, l[i]? = some x → l[i + 1]? = some y → Op.bytesLess (nm x) (nm y) = true) {x y : α} (hx : x ∈ l) (hy : y ∈ l) (he : nm x = nm y) : x = y := by
  obtain ⟨i, hi⟩ := List.getElem?_of_mem hx
  obtain ⟨j, hj⟩ := List.getElem?_of_mem hy
  have := asc_inj nm l h hi hj he
  subst this
  rw [hi] at hj
  exact Option.some.inj hj
theorem asc_nodup {α : Type} (nm : α → List UInt8) (l : List α) (h : ∀ i x y, l[i]? = some x → l[i + 1]? = some y → Op.bytesLess (nm x) (nm y) = true) : l.Nodup := by
  refine List.pairwise_iff_getElem.2 fun i j hi hj hij heq => ?_
  have := asc_inj nm l h (List.getElem?_eq_getElem hi) (List.getElem?_eq_getElem hj) (by rw [heq])
  omega
theorem valid_asc {b : StewBook} (hv : stewValid b = true) : ∀ i x y, b.Services[i]? = some x → b.Services[i + 1]? = some y → Op.bytesLess (StewService.Name x) (StewService.Name y) = true := by
  intro i x y hx hy
  unfold stewValid at hv
  simp only [Bool.and_eq_true] at hv
  have h1 := List.all_eq_true.1 hv.1.1.2 (y, i + 1) (by rw [List.mem_zipIdx_iff_getElem?]; simpa using hy)
  simp only [servP, Bool.and_eq_true, prevN, Nat.add_sub_cancel, hx, Option.map_some, Option.getD_some] at h1
  have := h1.2
  simpa using this
theorem valid_svc {b : StewBook} (hv : stewValid b = true) {s : StewService} (hs : s ∈ b.Services) : serviceOk s b.Now = true := by
  obtain ⟨i, hi⟩ := List.getElem?_of_mem hs
  unfold stewValid at hv
  simp only [Bool.and_eq_true] at hv
  have h1 := List.all_eq_true.1 hv.1.1.2 (s, i) (by rw [List.mem_zipIdx_iff_getElem?]; simpa using hi)
  simp only [servP, Bool.and_eq_true] at h1
  exact h1.1
theorem valid_len {b : StewBook} (hv : stewValid b = true) : b.Services.length ≤ 8 ∧ b.Copies.length ≤ 200 := by
  unfold stewValid at hv
  simp only [Bool.and_eq_true, decide_eq_true_eq] at hv
  exact ⟨hv.1.1.1.1.1.2, hv.1.1.1.1.2⟩

def absI (d : Int) : Int := if d < 0 then 0 - d else d
def c3 (b : StewBook) (s : StewService) (c : StewCopy) : Bool := cLive s.Name c && (!(c.Image == s.Image) || drn b c)
def c4 (s : StewService) (c : StewCopy) : Bool := cLive s.Name c && !(c.State == 3)
def e0 (s : StewService) : Int := if s.Gone = true then 1 else 0
def e1 (b : StewBook) (s : StewService) : Int := cntI (cEnd s.Name) b.Copies + if s.Gone = true then cntI (cLive s.Name) b.Copies else 0
def e2 (b : StewBook) (s : StewService) : Int := if s.Gone = true then 0 else absI (cntI (cLive s.Name) b.Copies - s.Want)
def e3 (b : StewBook) (s : StewService) : Int := if s.Gone = true then 0 else cntI (c3 b s) b.Copies
def e4 (b : StewBook) (s : StewService) : Int := if s.Gone = true then 0 else cntI (c4 s) b.Copies
def svcO (b : StewBook) (c : StewCopy) : Option StewService := b.Services.find? (namedS c.Service)
def g1 (b : StewBook) (c : StewCopy) : Bool := match svcO b c with
  | some s => c.Ending || s.Gone
  | none => false
def g3 (b : StewBook) (c : StewCopy) : Bool := match svcO b c with
  | some s => !(c.Ending || s.Gone) && (!(c.Image == s.Image) || drn b c)
  | none => false
def g4 (b : StewBook) (c : StewCopy) : Bool := match svcO b c with
  | some s => !(c.Ending || s.Gone) && !(c.State == 3)
  | none => false
theorem svc_spec {b : StewBook} (hv : stewValid b = true) (c : StewCopy) : (∀ s ∈ b.Services, (c.Service == s.Name) = true → svcO b c = some s) ∧ (∀ s, svcO b c = some s → s ∈ b.Services ∧ (c.Service == s.Name) = true) := by
  refine ⟨fun s hs hk => ?_, fun s h => ?_⟩
  · rcases hf : svcO b c with _ | s'
    · have := List.find?_eq_none.1 hf s hs
      simp only [namedS, beq_iff_eq] at this
      exact (this (by simpa using (beq_iff_eq.1 hk).symm)).elim
    · have h1 := List.mem_of_find?_eq_some hf
      have h2 := List.find?_some hf
      simp only [namedS, beq_iff_eq] at h2 hk
      rw [asc_same StewService.Name b.Services (valid_asc hv) h1 hs (by rw [h2, hk])]
  · have h1 := List.mem_of_find?_eq_some h
    have h2 := List.find?_some h
    simp only [namedS, beq_iff_eq] at h2
    exact ⟨h1, by simp [h2]⟩
theorem swap_svc {b : StewBook} (hv : stewValid b = true) (p : StewService → StewCopy → Bool) : sumI (fun s => cntI (fun c => c.Service == s.Name && p s c) b.Copies) b.Services = cntI (fun c => match svcO b c with | some s => p s c | none => false) b.Copies := by
  have h := count_swap (fun (s : StewService) (c : StewCopy) => c.Service == s.Name) p (svcO b) b.Services (svc_spec hv) (asc_nodup StewService.Name b.Services (valid_asc hv)) (fun a a' c ha ha' h h' => asc_same StewService.Name b.Services (valid_asc hv) ha ha' (by
    simp only [beq_iff_eq] at h h'
    rw [← h, ← h'])) b.Copies
  unfold cntI
  rw [h]
  congr 1
  exact List.countP_congr fun c _ => by cases svcO b c <;> rfl
theorem cnt_congr {p q : StewCopy → Bool} {l : List StewCopy} (h : ∀ c ∈ l, p c = q c) : cntI p l = cntI q l := by
  unfold cntI
  rw [List.countP_congr fun c hc => by rw [h c hc]]
theorem cnt_add {p q r : StewCopy → Bool} : ∀ {l : List StewCopy}, (∀ c ∈ l, (if r c = true then (1 : Int) else 0) = (if p c = true then 1 else 0) + if q c = true then 1 else 0) → cntI r l = cntI p l + cntI q l
  | [], _ => rfl
  | a :: l, h => by
    have step : ∀ q : StewCopy → Bool, cntI q (a :: l) = (if q a = true then 1 else 0) + cntI q l := by
      intro q
      unfold cntI
      rw [List.countP_cons]
      split <;> simp <;> omega
    rw [step, step, step, cnt_add fun c hc => h c (by simp [hc]), h a (by simp)]
    omega
theorem cnt_none {p : StewCopy → Bool} : ∀ {l : List StewCopy}, (∀ c ∈ l, p c = false) → cntI p l = 0
  | [], _ => rfl
  | a :: l, h => by
    have := cnt_none (l := l) fun c hc => h c (by simp [hc])
    unfold cntI at this ⊢
    rw [List.countP_cons, h a (by simp)]
    simpa using this
theorem sum_e1 {b : StewBook} (hv : stewValid b = true) : sumI (e1 b) b.Services = cntI (g1 b) b.Copies := by
  rw [show cntI (g1 b) b.Copies = cntI (fun c => match svcO b c with | some s => c.Ending || s.Gone | none => false) b.Copies from rfl, ← swap_svc hv (fun s c => c.Ending || s.Gone)]
  refine sumI_congr fun s _ => ?_
  unfold e1
  cases hg : s.Gone with
  | true =>
    simp only [if_true]
    exact (cnt_add fun c _ => by cases h1 : c.Service == s.Name <;> cases h2 : c.Ending <;> simp [cEnd, cLive, h1, h2]).symm
  | false =>
    simp only [Bool.false_eq_true, if_false, Int.add_zero]
    exact cnt_congr fun c _ => by cases h1 : c.Service == s.Name <;> cases h2 : c.Ending <;> simp [cEnd, h1, h2]
theorem sum_e3 {b : StewBook} (hv : stewValid b = true) : sumI (e3 b) b.Services = cntI (g3 b) b.Copies := by
  rw [show cntI (g3 b) b.Copies = cntI (fun c => match svcO b c with | some s => !(c.Ending || s.Gone) && (!(c.Image == s.Image) || drn b c) | none => false) b.Copies from rfl, ← swap_svc hv (fun s c => !(c.Ending || s.Gone) && (!(c.Image == s.Image) || drn b c))]
  refine sumI_congr fun s _ => ?_
  unfold e3
  cases hg : s.Gone with
  | true =>
    simp only [if_true]
    exact (cnt_none fun c _ => by cases h1 : c.Service == s.Name <;> cases h2 : c.Ending <;> simp [h1, h2]).symm
  | false =>
    simp only [Bool.false_eq_true, if_false]
    exact cnt_congr fun c _ => by cases h1 : c.Service == s.Name <;> cases h2 : c.Ending <;> simp [c3, cLive, h1, h2]
theorem sum_e4 {b : StewBook} (hv : stewValid b = true) : sumI (e4 b) b.Services = cntI (g4 b) b.Copies := by
  rw [show cntI (g4 b) b.Copies = cntI (fun c => match svcO b c with | some s => !(c.Ending || s.Gone) && !(c.State == 3) | none => false) b.Copies from rfl, ← swap_svc hv (fun s c => !(c.Ending || s.Gone) && !(c.State == 3))]
  refine sumI_congr fun s _ => ?_
  unfold e4
  cases hg : s.Gone with
  | true =>
    simp only [if_true]
    exact (cnt_none fun c _ => by cases h1 : c.Service == s.Name <;> cases h2 : c.Ending <;> simp [h1, h2]).symm
  | false =>
    simp only [Bool.false_eq_true, if_false]
    exact cnt_congr fun c _ => by cases h1 : c.Service == s.Name <;> cases h2 : c.Ending <;> simp [c4, cLive, h1, h2]
theorem cntI_bnd (p : StewCopy → Bool) (l : List StewCopy) : 0 ≤ cntI p l ∧ cntI p l ≤ l.length := by
  have := List.countP_le_length (p := p) (l := l)
  unfold cntI
  omega
/-- Five numbers as a list. -/
def rk5 (a0 a1 a2 a3 a4 : Int) : List (List T) := [[.int .i64 a0], [.int .i64 a1], [.int .i64 a2], [.int .i64 a3], [.int .i64 a4]]
def rankR (b : StewBook) : List (List T) := if stewValid b = true then rk5 (sumI e0 b.Services) (sumI (e1 b) b.Services) (sumI (e2 b) b.Services) (sumI (e3 b) b.Services) (sumI (e4 b) b.Services) else rk5 0 0 0 0 0
theorem e_bnd {b : StewBook} (hv : stewValid b = true) {s : StewService} (hs : s ∈ b.Services) : (0 ≤ e0 s ∧ e0 s ≤ 1000) ∧ (0 ≤ e1 b s ∧ e1 b s ≤ 1000) ∧ (0 ≤ e2 b s ∧ e2 b s ≤ 1000) ∧ (0 ≤ e3 b s ∧ e3 b s ≤ 1000) ∧ (0 ≤ e4 b s ∧ e4 b s ≤ 1000) := by
  have hl := (valid_len hv).2
  have h1 := cntI_bnd (cEnd s.Name) b.Copies
  have h2 := cntI_bnd (cLive s.Name) b.Copies
  have h3 := cntI_bnd (c3 b s) b.Copies
  have h4 := cntI_bnd (c4 s) b.Copies
  have hw := valid_svc hv hs
  simp only [serviceOk, Bool.and_eq_true, wi, decide_eq_true_eq] at hw
  have hw2 := hw.1.1.1.1.2
  unfold e0 e1 e2 e3 e4 absI
  cases s.Gone <;> simp only [if_true, Bool.false_eq_true, if_false] <;> refine ⟨?_, ?_, ?_, ?_, ?_⟩ <;> (try split) <;> omega
end Go.Proofs.Ytabakekeicbpbaa.W

end


section
open Go Go.Ab
set_option maxHeartbeats 2000000
namespace Go.Proofs.Ytabakekeicbpbaa.W
def rkV (a0 a1 a2 a3 a4 : Int) : List (List V) := [[.t (.int .i64 a0)], [.t (.int .i64 a1)], [.t (.int .i64 a2)], [.t (.int .i64 a3)], [.t (.int .i64 a4)]]
theorem rkV_eq (a0 a1 a2 a3 a4 : Int) : rkV a0 a1 a2 a3 a4 = (rk5 a0 a1 a2 a3 a4).map fun r => r.map .t := rfl
theorem rk_toR {σ B : Store} {a0 a1 a2 a3 a4 : Int} {o : Go.Ab.Obj} (τ : Store) : ToR (.lst 1 (rk5 a0 a1 a2 a3 a4)) σ (.sl (σ.length + 1) 5 0 5) (σ ++ (o :: .slc 1 (rkV a0 a1 a2 a3 a4) :: τ)) := by
  refine ⟨_, [σ.length + 1], rfl, ?_, ⟨by simp, fun i hi => by simp at hi; subst hi; simp⟩⟩
  have h := own_rows (σ := σ ++ (o :: .slc 1 (rkV a0 a1 a2 a3 a4) :: τ)) (id := σ.length + 1) (n := 1) (rows := rk5 a0 a1 a2 a3 a4) (by omega) (by simp [rk5, scalar]) (by simp [rkV_eq])
  exact h
theorem ix5 : ((0 : Int) ≤ 0 ∧ (0 : Int) ≤ 1 ∧ (0 : Int) ≤ 2 ∧ (0 : Int) ≤ 3 ∧ (0 : Int) ≤ 4) ∧ ((0 : Int) < ((5 : Nat) : Int) ∧ (1 : Int) < ((5 : Nat) : Int) ∧ (2 : Int) < ((5 : Nat) : Int) ∧ (3 : Int) < ((5 : Nat) : Int) ∧ (4 : Int) < ((5 : Nat) : Int)) ∧ Int.toNat 0 = 0 ∧ Int.toNat 1 = 1 ∧ Int.toNat 2 = 2 ∧ Int.toNat 3 = 3 ∧ Int.toNat 4 = 4 := by decide
def cv5 (e : Int) (l : Int) (r o f : Int) : List V := [.t (.int .i64 l), .t (.int .i64 r), .t (.int .i64 o), .t (.int .i64 f), .t (.int .i64 e)]
theorem wr (x : Int) (h : -1000000000 ≤ x ∧ x ≤ 1000000000) : IntKind.i64.wrap x = x := IntWalk.i64_in _ (by omega)
theorem live_cnt (b : StewBook) (name : List UInt8) (p : StewCopy → Bool) : (((liveP name b.Copies.zipIdx).countP fun x => p x.1 : Nat) : Int) = cntI (fun c => cLive name c && p c) b.Copies := by
  unfold cntI liveP
  rw [List.countP_filter]
  congr 1
  have h : b.Copies = b.Copies.zipIdx.map Prod.fst := by simp
  conv => rhs; rw [h, List.countP_map]
  exact List.countP_congr fun x _ => by simp [Bool.and_comm]
theorem live_at {b : StewBook} {name : List UInt8} {j : Nat} {x : StewCopy × Nat} (h : (liveP name b.Copies.zipIdx)[j]? = some x) : b.Copies[x.2]? = some x.1 ∧ x.1 ∈ b.Copies := by
  have h1 := List.mem_of_getElem? h
  have h2 := (List.mem_filter.1 h1).1
  obtain ⟨c, i⟩ := x
  have := List.mem_zipIdx_iff_getElem?.1 h2
  simp at this
  exact ⟨this, List.mem_of_getElem? this⟩
theorem take_cnt {α : Type} {p : α → Bool} {l : List α} {k : Nat} {x : α} (hx : l[k]? = some x) : (((l.take (k + 1)).countP p : Nat) : Int) = ((l.take k).countP p : Nat) + (if p x = true then 1 else 0) := by
  rw [take_of hx, List.countP_append, List.countP_cons, List.countP_nil]
  split <;> simp
theorem take_cnt_le {α : Type} (p : α → Bool) (l : List α) (k : Nat) : (((l.take k).countP p : Nat) : Int) ≤ l.length := by
  have := Nat.le_trans (List.countP_le_length (p := p) (l := l.take k)) (List.length_take_le' k l)
  omega

def c_spec_StewRank : C := (.seq (.ops [⟨(some 1), none, (.box (.t 0))⟩, ⟨(some 2), none, (.mv (.c .nils))⟩]) (.seq (.ops [⟨(some 11), none, (.lit none 1 5 [(.t (.int .i64 0))] [⟨0, (.c (.t (.int .i64 0)))⟩, ⟨1, (.c (.t (.int .i64 0)))⟩, ⟨2, (.c (.t (.int .i64 0)))⟩, ⟨3, (.c (.t (.int .i64 0)))⟩, ⟨4, (.c (.t (.int .i64 0)))⟩])⟩, ⟨(some 3), none, (.mv (.t 11))⟩]) (.seq (.seq (.ops [⟨(some 12), none, (.load (some 4) (.t 1))⟩, ⟨(some 13), none, (.call (.c (.fn (.func 11) [])) [(.t 12)])⟩, ⟨(some 14), none, (.un .not (.t 13))⟩]) (.cond (.t 14) (.seq (.ops [⟨(some 15), none, (.mv (.t 3))⟩, ⟨(some 2), none, (.mv (.t 15))⟩]) .ret) .skip)) (.seq (.seq (.ops [⟨(some 4), none, (.mv (.c (.t (.int .i64 0))))⟩]) (.block 0 (.loop (.seq (.seq (.ops [⟨(some 16), none, (.mv (.t 4))⟩, ⟨(some 17), none, (.fieldAddr 1 (.t 1))⟩, ⟨(some 18), none, (.load none (.t 17))⟩, ⟨(some 19), none, (.len false (.t 18))⟩, ⟨(some 20), none, (.bin .lss (.t 16) (.t 19))⟩]) (.cond (.t 20) .skip (.exit 0))) (.seq (.block 1 (.seq (.ops [⟨(some 23), none, (.fieldAddr 1 (.t 1))⟩, ⟨(some 24), none, (.load none (.t 23))⟩, ⟨(some 25), none, (.mv (.t 4))⟩, ⟨(some 26), none, (.indexAddr 13 (.t 24) (.t 25))⟩, ⟨(some 27), none, (.load (some 13) (.t 26))⟩, ⟨(some 5), none, (.new [(.t (.str [])), (.t (.int .i64 0)), (.t (.bool false)), (.t (.int .i64 0)), (.t (.int .i64 0)), (.t (.int .i64 0)), (.t (.int .i64 0)), (.t (.int .i64 0)), (.t (.int .i64 0)), (.t (.int .i64 0)), (.t (.int .i64 0)), (.t (.int .i64 0)), (.t (.int .i64 0))])⟩, ⟨none, none, (.store 13 (.t 5) (.t 27))⟩]) (.seq (.ops [⟨(some 28), none, (.load (some 4) (.t 1))⟩, ⟨(some 29), none, (.fieldAddr 0 (.t 5))⟩, ⟨(some 30), none, (.load none (.t 29))⟩, ⟨(some 31), none, (.call (.c (.fn (.func 57) [])) [(.t 28), (.t 30)])⟩, ⟨(some 6), none, (.new [(.t (.int .i64 0)), (.t (.int .i64 0)), (.t (.int .i64 0)), (.t (.int .i64 0)), (.t (.int .i64 0))])⟩, ⟨none, none, (.store 5 (.t 6) (.t 31))⟩]) (.seq (.drawn [(.mk 0 false ⟨(some 32), none, (.mv (.t 3))⟩), (.mk 1 false ⟨(some 33), none, (.mv (.t 3))⟩), (.mk 2 false ⟨(some 34), none, (.indexAddr 1 (.t 33) (.c (.t (.int .i64 1))))⟩), (.mk 3 false ⟨(some 35), none, (.load none (.t 34))⟩), (.mk 4 false ⟨(some 36), none, (.fieldAddr 4 (.t 6))⟩), (.mk 5 false ⟨(some 37), none, (.load none (.t 36))⟩), (.mk 6 false ⟨(some 38), none, (.bin .add (.t 35) (.t 37))⟩), (.mk 7 false ⟨(some 39), none, (.indexAddr 1 (.t 32) (.c (.t (.int .i64 1))))⟩), (.mk 8 false ⟨none, none, (.store 1 (.t 39) (.t 38))⟩)]) (.seq (.seq (.ops [⟨(some 40), none, (.fieldAddr 2 (.t 5))⟩, ⟨(some 41), none, (.load none (.t 40))⟩]) (.cond (.t 41) (.seq (.ops [⟨(some 42), none, (.mv (.t 3))⟩, ⟨(some 43), none, (.indexAddr 1 (.t 42) (.c (.t (.int .i64 0))))⟩, ⟨(some 44), none, (.load none (.t 43))⟩, ⟨(some 45), none, (.bin .add (.t 44) (.c (.t (.int .i64 1))))⟩, ⟨(some 46), none, (.indexAddr 1 (.t 42) (.c (.t (.int .i64 0))))⟩, ⟨none, none, (.store 1 (.t 46) (.t 45))⟩]) (.seq (.drawn [(.mk 0 false ⟨(some 47), none, (.mv (.t 3))⟩), (.mk 1 false ⟨(some 48), none, (.mv (.t 3))⟩), (.mk 2 false ⟨(some 49), none, (.indexAddr 1 (.t 48) (.c (.t (.int .i64 1))))⟩), (.mk 3 false ⟨(some 50), none, (.load none (.t 49))⟩), (.mk 4 false ⟨(some 51), none, (.fieldAddr 0 (.t 6))⟩), (.mk 5 false ⟨(some 52), none, (.load none (.t 51))⟩), (.mk 6 false ⟨(some 53), none, (.bin .add (.t 50) (.t 52))⟩), (.mk 7 false ⟨(some 54), none, (.indexAddr 1 (.t 47) (.c (.t (.int .i64 1))))⟩), (.mk 8 false ⟨none, none, (.store 1 (.t 54) (.t 53))⟩)]) (.exit 1))) .skip)) (.seq (.ops [⟨(some 55), none, (.fieldAddr 0 (.t 6))⟩, ⟨(some 56), none, (.load none (.t 55))⟩, ⟨(some 57), none, (.fieldAddr 4 (.t 5))⟩, ⟨(some 58), none, (.load none (.t 57))⟩, ⟨(some 59), none, (.bin .sub (.t 56) (.t 58))⟩, ⟨(some 7), none, (.mv (.t 59))⟩]) (.seq (.seq (.ops [⟨(some 60), none, (.mv (.t 7))⟩, ⟨(some 61), none, (.bin .lss (.t 60) (.c (.t (.int .i64 0))))⟩]) (.cond (.t 61) (.ops [⟨(some 62), none, (.mv (.t 7))⟩, ⟨(some 63), none, (.un .neg (.t 62))⟩, ⟨(some 7), none, (.mv (.t 63))⟩]) .skip)) (.seq (.ops [⟨(some 64), none, (.mv (.t 3))⟩, ⟨(some 65), none, (.mv (.t 3))⟩, ⟨(some 66), none, (.indexAddr 1 (.t 65) (.c (.t (.int .i64 2))))⟩, ⟨(some 67), none, (.load none (.t 66))⟩, ⟨(some 68), none, (.mv (.t 7))⟩, ⟨(some 69), none, (.bin .add (.t 67) (.t 68))⟩, ⟨(some 70), none, (.indexAddr 1 (.t 64) (.c (.t (.int .i64 2))))⟩, ⟨none, none, (.store 1 (.t 70) (.t 69))⟩]) (.seq (.ops [⟨(some 71), none, (.load (some 4) (.t 1))⟩, ⟨(some 72), none, (.fieldAddr 0 (.t 5))⟩, ⟨(some 73), none, (.load none (.t 72))⟩, ⟨(some 74), none, (.call (.c (.fn (.func 64) [])) [(.t 71), (.t 73)])⟩, ⟨(some 8), none, (.mv (.t 74))⟩]) (.seq (.ops [⟨(some 9), none, (.mv (.c (.t (.int .i64 0))))⟩]) (.block 2 (.loop (.seq (.seq (.ops [⟨(some 75), none, (.mv (.t 9))⟩, ⟨(some 76), none, (.mv (.t 8))⟩, ⟨(some 77), none, (.len false (.t 76))⟩, ⟨(some 78), none, (.bin .lss (.t 75) (.t 77))⟩]) (.cond (.t 78) .skip (.exit 2))) (.seq (.block 3 (.seq (.drawn [(.mk 0 false ⟨(some 81), none, (.fieldAddr 2 (.t 1))⟩), (.mk 1 false ⟨(some 82), none, (.load none (.t 81))⟩), (.mk 2 false ⟨(some 83), none, (.mv (.t 8))⟩), (.mk 3 false ⟨(some 84), none, (.mv (.t 9))⟩), (.mk 4 false ⟨(some 85), none, (.indexAddr 1 (.t 83) (.t 84))⟩), (.mk 5 false ⟨(some 86), none, (.load none (.t 85))⟩), (.mk 6 false ⟨(some 87), none, (.indexAddr 7 (.t 82) (.t 86))⟩), (.mk 7 false ⟨(some 88), none, (.load (some 7) (.t 87))⟩), (.mk 8 true ⟨(some 10), none, (.new [(.t (.str [])), (.t (.int .i64 0)), (.t (.int .i64 0)), (.t (.int .i64 0)), (.t (.int .i64 0)), (.t (.bool false)), (.t (.str []))])⟩), (.mk 9 false ⟨none, none, (.store 7 (.t 10) (.t 88))⟩)]) (.seq (.seq (.ops [⟨(some 89), none, (.fieldAddr 3 (.t 10))⟩, ⟨(some 90), none, (.load none (.t 89))⟩, ⟨(some 91), none, (.fieldAddr 3 (.t 5))⟩, ⟨(some 92), none, (.load none (.t 91))⟩, ⟨(some 93), none, (.bin .neq (.t 90) (.t 92))⟩, ⟨(some 94), none, (.mv (.t 93))⟩, ⟨(some 95), (some ⟨94, false⟩), (.load (some 4) (.t 1))⟩, ⟨(some 96), (some ⟨94, false⟩), (.load (some 7) (.t 10))⟩, ⟨(some 97), (some ⟨94, false⟩), (.call (.c (.fn (.func 65) [])) [(.t 95), (.t 96)])⟩, ⟨(some 98), none, (.pick (.t 94) (.c (.t (.bool true))) (.t 97))⟩]) (.cond (.t 98) (.ops [⟨(some 99), none, (.mv (.t 3))⟩, ⟨(some 100), none, (.indexAddr 1 (.t 99) (.c (.t (.int .i64 3))))⟩, ⟨(some 101), none, (.load none (.t 100))⟩, ⟨(some 102), none, (.bin .add (.t 101) (.c (.t (.int .i64 1))))⟩, ⟨(some 103), none, (.indexAddr 1 (.t 99) (.c (.t (.int .i64 3))))⟩, ⟨none, none, (.store 1 (.t 103) (.t 102))⟩]) .skip)) (.seq (.ops [⟨(some 104), none, (.fieldAddr 4 (.t 10))⟩, ⟨(some 105), none, (.load none (.t 104))⟩, ⟨(some 106), none, (.bin .neq (.t 105) (.c (.t (.int .i64 3))))⟩]) (.cond (.t 106) (.ops [⟨(some 107), none, (.mv (.t 3))⟩, ⟨(some 108), none, (.indexAddr 1 (.t 107) (.c (.t (.int .i64 4))))⟩, ⟨(some 109), none, (.load none (.t 108))⟩, ⟨(some 110), none, (.bin .add (.t 109) (.c (.t (.int .i64 1))))⟩, ⟨(some 111), none, (.indexAddr 1 (.t 107) (.c (.t (.int .i64 4))))⟩, ⟨none, none, (.store 1 (.t 111) (.t 110))⟩]) .skip))))) (.ops [⟨(some 79), none, (.mv (.t 9))⟩, ⟨(some 80), none, (.bin .add (.t 79) (.c (.t (.int .i64 1))))⟩, ⟨(some 9), none, (.mv (.t 80))⟩]))))))))))))))) (.ops [⟨(some 21), none, (.mv (.t 4))⟩, ⟨(some 22), none, (.bin .add (.t 21) (.c (.t (.int .i64 1))))⟩, ⟨(some 4), none, (.mv (.t 22))⟩])))))) (.seq (.ops [⟨(some 112), none, (.mv (.t 3))⟩, ⟨(some 2), none, (.mv (.t 112))⟩]) .ret)))))
theorem k_spec_StewRank : comp Try.prog 113 (Try.f27.body.getD .skip) = some c_spec_StewRank := by kernel_rfl

set_option maxHeartbeats 8000000 in
theorem spec_StewRank0 (b : StewBook) (hb : b.Ok) (σ : Store) : ACalls Try.prog 27 [.agg b.vs] σ (ToR (.lst 1 (rankR b)) σ) := by
  refine acalls_of Try.func27 (by decide +kernel) (code := Try.f27.body.getD .skip) (n := 113) (c := c_spec_StewRank) (rs := [(.tmp 2)]) rfl rfl k_spec_StewRank (by kernel_rfl) (by simp) (fun hσ => ?_)
  have y1 := hb.Copies.1
  have y2 := hb.Services.1
  have c1 : 0 < 1 := by omega
  have c5 : (0 < 5 ∧ 1 < 5 ∧ 2 < 5 ∧ 3 < 5 ∧ 4 < 5) := by omega
  simp -implicitDefEqProofs only [c_spec_StewRank, StewBook.vs, List.length_map, c1, c5, List.replicate, S0, S1, S2, S3, S4, S5, S6, S7, S8, S9, S10, S11, S12, S13, S14, S15, S16, opv, opvs, eget, env0, setD, lenStr, lenSl, isNilP, isNilS, putAt, if_true, if_false, reduceCtorEq, Nat.reduceLeDiff, Nat.reduceEqDiff, Nat.reduceSub, Nat.reduceMul, Nat.reduceAdd]
  refine lit_own ?_
  simp -implicitDefEqProofs only [List.length_map, S0, S1, S2, S3, S4, S5, S6, S7, S8, S9, S10, S11, S12, S13, S14, S15, S16, opv, opvs, eget, env0, setD, lenStr, lenSl, isNilP, isNilS, putAt, if_true, if_false, reduceCtorEq, Nat.reduceLeDiff, Nat.reduceEqDiff, Nat.reduceSub, Nat.reduceMul, Nat.reduceAdd]
  refine call_pure (spec_StewValid b hb _) ?_
  rcases hv : stewValid b with _ | _
  · simp -implicitDefEqProofs only [cond_t, cond_f, Bool.not_false, S0, S1, S2, S3, S4, S5, S6, S7, S8, S9, S10, S11, S12, S13, S14, S15, S16, opv, opvs, eget, env0, setD, lenStr, lenSl, isNilP, isNilS, putAt, if_true, if_false, reduceCtorEq, Nat.reduceLeDiff, Nat.reduceEqDiff, Nat.reduceSub, Nat.reduceMul, Nat.reduceAdd]
    refine fin_keep (by simp) ?_
    rw [rankR, hv]
    exact rk_toR (B := []) []
  simp -implicitDefEqProofs only [cond_t, cond_f, Bool.not_true, S0, S1, S2, S3, S4, S5, S6, S7, S8, S9, S10, S11, S12, S13, S14, S15, S16, opv, opvs, eget, env0, setD, lenStr, lenSl, isNilP, isNilS, putAt, if_true, if_false, reduceCtorEq, Nat.reduceLeDiff, Nat.reduceEqDiff, Nat.reduceSub, Nat.reduceMul, Nat.reduceAdd]
  refine loop_s [4, 1, 3] [1, 3] (fun k : Nat => [(4, .t (.int .i64 (k : Nat)))]) (fun k => σ ++ [.box b.vs, .slc 1 (rkV (sumI e0 (b.Services.take k)) (sumI (e1 b) (b.Services.take k)) (sumI (e2 b) (b.Services.take k)) (sumI (e3 b) (b.Services.take k)) (sumI (e4 b) (b.Services.take k)))]) (fun k => k ≤ b.Services.length) (fun k => b.Services.length - k) 0 (σ.length + 2) (fun k => by simp) (Nat.le_add_right _ _) (Nat.zero_le _) (by simp [rkV, sumI, StewBook.vs]) rfl ?_
  rintro k hk
  simp -implicitDefEqProofs only [keep, StewBook.vs, List.length_map, S0, S1, S2, S3, S4, S5, S6, S7, S8, S9, S10, S11, S12, S13, S14, S15, S16, opv, opvs, eget, env0, setD, lenStr, lenSl, isNilP, isNilS, putAt, if_true, if_false, reduceCtorEq, Nat.reduceLeDiff, Nat.reduceEqDiff, Nat.reduceSub, Nat.reduceMul, Nat.reduceAdd]
  refine cond_split (fun h1 => ?_) (fun h1 => ?_)
  · obtain ⟨x, hx, hlt⟩ := at_of h1
    have more := i64_succ (show k < 4611686018427387904 by omega)
    have hm := mem_at hx
    have hfs : b.Services.find? (namedS x.Name) = some x := by
      have := svc_spec hv (c := ⟨x.Name, 0, 0, 0, 0, false, []⟩)
      exact this.1 x hm (by simp)
    have hcn : cntO b x.Name = cntV x.Name x.Image b.Copies := by simp only [cntO, hfs]
    have f2 : ∀ τ : Store, ACalls Try.prog 57 [.agg b.vs, .t (.str x.Name)] τ fun rr σ' => rr = .agg (cntV x.Name x.Image b.Copies) ∧ σ' = τ := fun τ => by rw [← hcn]; exact spec_l13Count b hb x.Name τ
    obtain ⟨q0, q1, q2, q3, q4⟩ := e_bnd hv hm
    have p0 := sumI_take (a := 1000) (by omega) (fun y hy => (e_bnd hv hy).1) k
    have p1 := sumI_take (a := 1000) (by omega) (fun y hy => (e_bnd hv hy).2.1) k
    have p2 := sumI_take (a := 1000) (by omega) (fun y hy => (e_bnd hv hy).2.2.1) k
    have p3 := sumI_take (a := 1000) (by omega) (fun y hy => (e_bnd hv hy).2.2.2.1) k
    have p4 := sumI_take (a := 1000) (by omega) (fun y hy => (e_bnd hv hy).2.2.2.2) k
    have t0 := sumI_step (f := e0) hx
    have t1 := sumI_step (f := e1 b) hx
    have t2 := sumI_step (f := e2 b) hx
    have t3 := sumI_step (f := e3 b) hx
    have t4 := sumI_step (f := e4 b) hx
    have hl8 := (valid_len hv).1
    have hl200 := (valid_len hv).2
    have n1 := cntI_bnd (cEnd x.Name) b.Copies
    have n2 := cntI_bnd (cLive x.Name) b.Copies
    have hw0 := valid_svc hv hm
    simp only [serviceOk, Bool.and_eq_true, wi, decide_eq_true_eq] at hw0
    have hw := hw0.1.1.1.1.2
    clear hw0
    have stt : ∀ (a0 a1 a2 a3 a4 : Int) (τ : Store), sumI e0 (b.Services.take (k + 1)) = a0 → sumI (e1 b) (b.Services.take (k + 1)) = a1 → sumI (e2 b) (b.Services.take (k + 1)) = a2 → sumI (e3 b) (b.Services.take (k + 1)) = a3 → sumI (e4 b) (b.Services.take (k + 1)) = a4 →
        σ ++ (.box b.vs :: .slc 1 (rkV a0 a1 a2 a3 a4) :: τ) = (σ ++ [.box b.vs, .slc 1 (rkV (sumI e0 (b.Services.take (k + 1))) (sumI (e1 b) (b.Services.take (k + 1))) (sumI (e2 b) (b.Services.take (k + 1))) (sumI (e3 b) (b.Services.take (k + 1))) (sumI (e4 b) (b.Services.take (k + 1))))]) ++ τ := by
      rintro a0 a1 a2 a3 a4 τ rfl rfl rfl rfl rfl
      simp
    generalize hS0 : sumI e0 (b.Services.take k) = s0 at *
    generalize hS1 : sumI (e1 b) (b.Services.take k) = s1 at *
    generalize hS2 : sumI (e2 b) (b.Services.take k) = s2 at *
    generalize hS3 : sumI (e3 b) (b.Services.take k) = s3 at *
    generalize hS4 : sumI (e4 b) (b.Services.take k) = s4 at *
    have w1 : IntKind.i64.wrap (s1 + cntI (cEnd x.Name) b.Copies) = s1 + cntI (cEnd x.Name) b.Copies := wr _ (by omega)
    have w2 : IntKind.i64.wrap (s1 + cntI (cEnd x.Name) b.Copies + cntI (cLive x.Name) b.Copies) = s1 + cntI (cEnd x.Name) b.Copies + cntI (cLive x.Name) b.Copies := wr _ (by omega)
    have w3 : IntKind.i64.wrap (s0 + 1) = s0 + 1 := wr _ (by omega)
    have w4 : IntKind.i64.wrap (cntI (cLive x.Name) b.Copies - x.Want) = cntI (cLive x.Name) b.Copies - x.Want := wr _ (by omega)
    have w5 : IntKind.i64.wrap (0 - (cntI (cLive x.Name) b.Copies - x.Want)) = 0 - (cntI (cLive x.Name) b.Copies - x.Want) := wr _ (by omega)
    have w6 : IntKind.i64.wrap (s2 + (cntI (cLive x.Name) b.Copies - x.Want)) = s2 + (cntI (cLive x.Name) b.Copies - x.Want) := wr _ (by omega)
    have w7 : IntKind.i64.wrap (s2 + (0 - (cntI (cLive x.Name) b.Copies - x.Want))) = s2 + (0 - (cntI (cLive x.Name) b.Copies - x.Want)) := wr _ (by omega)
    simp -implicitDefEqProofs only [hx, nat_nn, Nat.zero_le, List.getElem?_map, Option.map_some, List.length_map, StewCopy.ts, StewService.ts, rkV, more, ix5, S0, S1, S2, S3, S4, S5, S6, S7, S8, S9, S10, S11, S12, S13, S14, S15, S16, opv, opvs, eget, env0, setD, lenStr, lenSl, isNilP, isNilS, putAt, if_true, if_false, reduceCtorEq, Nat.reduceLeDiff, Nat.reduceEqDiff, Nat.reduceSub, Nat.reduceMul, Nat.reduceAdd]
    refine call_pure (f2 _) ?_
    simp -implicitDefEqProofs only [hx, nat_nn, Nat.zero_le, List.getElem?_map, Option.map_some, List.length_map, StewCopy.ts, StewService.ts, rkV, more, ix5, cntV, w1, S0, S1, S2, S3, S4, S5, S6, S7, S8, S9, S10, S11, S12, S13, S14, S15, S16, opv, opvs, eget, env0, setD, lenStr, lenSl, isNilP, isNilS, putAt, if_true, if_false, reduceCtorEq, Nat.reduceLeDiff, Nat.reduceEqDiff, Nat.reduceSub, Nat.reduceMul, Nat.reduceAdd]
    refine cond_split (fun h2 => ?_) (fun h2 => ?_)
    · simp -implicitDefEqProofs only [hx, nat_nn, Nat.zero_le, List.getElem?_map, Option.map_some, List.length_map, StewCopy.ts, StewService.ts, rkV, more, ix5, w1, w2, w3, S0, S1, S2, S3, S4, S5, S6, S7, S8, S9, S10, S11, S12, S13, S14, S15, S16, opv, opvs, eget, env0, setD, lenStr, lenSl, isNilP, isNilS, putAt, if_true, if_false, reduceCtorEq, Nat.reduceLeDiff, Nat.reduceEqDiff, Nat.reduceSub, Nat.reduceMul, Nat.reduceAdd]
      refine lk_s (k + 1) (by simp) (Nat.le_add_right _ _) (stt _ _ _ _ _ [_, _] ?_ ?_ ?_ ?_ ?_) (by omega) (by omega) ?_ (by simp [ltE, keep, eget, V.lt] <;> omega) rfl
      all_goals first
        | (rw [q_ltσ_app, ltσ_mono (Nat.le_add_right _ _) hσ]; rfl)
        | (simp only [t0, t1, t2, t3, t4, e0, e1, e2, e3, e4, h2, if_true] <;> omega)
    have hco2 : e2 b x = absI (cntI (cLive x.Name) b.Copies - x.Want) := by simp only [e2, h2, Bool.false_eq_true, if_false]
    have rest : ∀ (d : Int) (e : Env), d = e2 b x → (eget e 1 = some (.ptr σ.length 0)) → True := fun _ _ _ _ => trivial
    simp -implicitDefEqProofs only [hx, nat_nn, Nat.zero_le, List.getElem?_map, Option.map_some, List.length_map, StewCopy.ts, StewService.ts, rkV, more, ix5, w4, w5, S0, S1, S2, S3, S4, S5, S6, S7, S8, S9, S10, S11, S12, S13, S14, S15, S16, opv, opvs, eget, env0, setD, lenStr, lenSl, isNilP, isNilS, putAt, if_true, if_false, reduceCtorEq, Nat.reduceLeDiff, Nat.reduceEqDiff, Nat.reduceSub, Nat.reduceMul, Nat.reduceAdd]
    refine cond_split (fun h3 => ?_) (fun h3 => ?_) <;> (
      have hab : absI (cntI (cLive x.Name) b.Copies - x.Want) = e2 b x := hco2.symm
      simp only [decide_eq_true_eq, decide_eq_false_iff_not] at h3
      simp only [absI, h3, if_true, if_false] at hab
      simp -implicitDefEqProofs only [hx, nat_nn, Nat.zero_le, List.getElem?_map, Option.map_some, List.length_map, StewCopy.ts, StewService.ts, rkV, more, ix5, w4, w5, w6, w7, S0, S1, S2, S3, S4, S5, S6, S7, S8, S9, S10, S11, S12, S13, S14, S15, S16, opv, opvs, eget, env0, setD, lenStr, lenSl, isNilP, isNilS, putAt, if_true, if_false, reduceCtorEq, Nat.reduceLeDiff, Nat.reduceEqDiff, Nat.reduceSub, Nat.reduceMul, Nat.reduceAdd]
      refine call_pure (spec_l16Live b hb x.Name _) ?_
      simp -implicitDefEqProofs only [hx, nat_nn, Nat.zero_le, List.getElem?_map, Option.map_some, List.length_map, StewCopy.ts, StewService.ts, rkV, more, ix5, liveR, S0, S1, S2, S3, S4, S5, S6, S7, S8, S9, S10, S11, S12, S13, S14, S15, S16, opv, opvs, eget, env0, setD, lenStr, lenSl, isNilP, isNilS, putAt, if_true, if_false, reduceCtorEq, Nat.reduceLeDiff, Nat.reduceEqDiff, Nat.reduceSub, Nat.reduceMul, Nat.reduceAdd]
      refine loop_s [9, 1, 3, 4, 5, 8] [1, 3, 4, 5, 8] (fun j : Nat => [(9, .t (.int .i64 (j : Nat)))]) (fun j => σ ++ [.box b.vs, .slc 1 (rkV s0 (s1 + cntI (cEnd x.Name) b.Copies) (s2 + e2 b x) (s3 + (((liveP x.Name b.Copies.zipIdx).take j).countP fun y => !(y.1.Image == x.Image) || drn b y.1 : Nat)) (s4 + (((liveP x.Name b.Copies.zipIdx).take j).countP fun y => !(y.1.State == 3) : Nat))), .box x.vs, .box (cntV x.Name x.Image b.Copies)]) (fun j => j ≤ (liveP x.Name b.Copies.zipIdx).length) (fun j => (liveP x.Name b.Copies.zipIdx).length - j) 0 (σ.length + 4) (fun j => by simp) (by omega) (Nat.zero_le _) (by rw [← hab]; simp [rkV, StewBook.vs, StewService.vs, cntV]) rfl ?_
      rintro j hj
      simp -implicitDefEqProofs only [keep, StewBook.vs, StewService.vs, cntV, List.length_map, S0, S1, S2, S3, S4, S5, S6, S7, S8, S9, S10, S11, S12, S13, S14, S15, S16, opv, opvs, eget, env0, setD, lenStr, lenSl, isNilP, isNilS, putAt, if_true, if_false, reduceCtorEq, Nat.reduceLeDiff, Nat.reduceEqDiff, Nat.reduceSub, Nat.reduceMul, Nat.reduceAdd]
      refine cond_split (fun g1 => ?_) (fun g1 => ?_)
      · obtain ⟨y, hy, hjlt⟩ := at_of g1
        obtain ⟨ly1, ly2⟩ := live_at hy
        have hnl : (liveP x.Name b.Copies.zipIdx).length ≤ 200 := by
          have h := List.length_filter_le (fun p : StewCopy × Nat => cLive x.Name p.1) b.Copies.zipIdx
          rw [List.length_zipIdx] at h
          exact Nat.le_trans h hl200
        have morej := i64_succ (show j < 4611686018427387904 by omega)
        have u3 := take_cnt (p := fun y => !(y.1.Image == x.Image) || drn b y.1) hy
        have u4 := take_cnt (p := fun y => !(y.1.State == 3)) hy
        have v3 := take_cnt_le (fun y => !(y.1.Image == x.Image) || drn b y.1) (liveP x.Name b.Copies.zipIdx) j
        have v4 := take_cnt_le (fun y => !(y.1.State == 3)) (liveP x.Name b.Copies.zipIdx) j
        have stj : ∀ (a0 a1 a2 a3 a4 : Int) (τ : Store), s0 = a0 → s1 + cntI (cEnd x.Name) b.Copies = a1 → s2 + e2 b x = a2 → s3 + (((liveP x.Name b.Copies.zipIdx).take (j + 1)).countP fun y => !(y.1.Image == x.Image) || drn b y.1 : Nat) = a3 → s4 + (((liveP x.Name b.Copies.zipIdx).take (j + 1)).countP fun y => !(y.1.State == 3) : Nat) = a4 →
            σ ++ (.box b.vs :: .slc 1 (rkV a0 a1 a2 a3 a4) :: .box x.vs :: .box (cntV x.Name x.Image b.Copies) :: τ) = (σ ++ [.box b.vs, .slc 1 (rkV s0 (s1 + cntI (cEnd x.Name) b.Copies) (s2 + e2 b x) (s3 + (((liveP x.Name b.Copies.zipIdx).take (j + 1)).countP fun y => !(y.1.Image == x.Image) || drn b y.1 : Nat)) (s4 + (((liveP x.Name b.Copies.zipIdx).take (j + 1)).countP fun y => !(y.1.State == 3) : Nat))), .box x.vs, .box (cntV x.Name x.Image b.Copies)]) ++ τ := by
          rintro a0 a1 a2 a3 a4 τ rfl rfl rfl rfl rfl
          simp
        generalize hC3 : ((((liveP x.Name b.Copies.zipIdx).take j).countP fun y => !(y.1.Image == x.Image) || drn b y.1 : Nat) : Int) = k3 at *
        generalize hC4 : ((((liveP x.Name b.Copies.zipIdx).take j).countP fun y => !(y.1.State == 3) : Nat) : Int) = k4 at *
        have x3 : IntKind.i64.wrap (s3 + k3 + 1) = s3 + k3 + 1 := wr _ (by omega)
        have x4 : IntKind.i64.wrap (s4 + k4 + 1) = s4 + k4 + 1 := wr _ (by omega)
        have hh : True := trivial
        simp -implicitDefEqProofs only [hy, ly1, liveT, Option.map_some, nat_nn, Nat.zero_le, List.getElem?_map, Option.map_some, List.length_map, StewCopy.ts, rkV, ix5, morej, S0, S1, S2, S3, S4, S5, S6, S7, S8, S9, S10, S11, S12, S13, S14, S15, S16, opv, opvs, eget, env0, setD, lenStr, lenSl, isNilP, isNilS, putAt, if_true, if_false, reduceCtorEq, Nat.reduceLeDiff, Nat.reduceEqDiff, Nat.reduceSub, Nat.reduceMul, Nat.reduceAdd]
        repeat' (first
          | ((with_reducible refine cond_known (fun h => ?_) (fun h => ?_)) <;> (replace hh := And.intro h hh; clear h; simp -implicitDefEqProofs only [hh, cond_t, cond_f, hy, ly1, liveT, nat_nn, Nat.zero_le, List.getElem?_map, Option.map_some, List.length_map, StewCopy.ts, rkV, ix5, morej, x3, x4, S0, S1, S2, S3, S4, S5, S6, S7, S8, S9, S10, S11, S12, S13, S14, S15, S16, opv, opvs, eget, env0, setD, lenStr, lenSl, isNilP, isNilS, putAt, if_true, if_false, reduceCtorEq, Nat.reduceLeDiff, Nat.reduceEqDiff, Nat.reduceSub, Nat.reduceMul, Nat.reduceAdd]))
          | ((with_reducible refine call_pure (spec_l16Drains b hb y.1 _) ?_); simp -implicitDefEqProofs only [hh, cond_t, cond_f, hy, ly1, liveT, nat_nn, Nat.zero_le, List.getElem?_map, Option.map_some, List.length_map, StewCopy.ts, rkV, ix5, morej, x3, x4, S0, S1, S2, S3, S4, S5, S6, S7, S8, S9, S10, S11, S12, S13, S14, S15, S16, opv, opvs, eget, env0, setD, lenStr, lenSl, isNilP, isNilS, putAt, if_true, if_false, reduceCtorEq, Nat.reduceLeDiff, Nat.reduceEqDiff, Nat.reduceSub, Nat.reduceMul, Nat.reduceAdd])
          | (refine lk_s (j + 1) (by simp) (by omega) (stj _ _ _ _ _ [_] ?_ ?_ ?_ ?_ ?_) (by omega) (by omega) ?_ (by simp [ltE, keep, eget, V.lt] <;> omega) rfl))
        all_goals first
          | (rw [q_ltσ_app, ltσ_mono (Nat.le_add_right _ _) hσ]; rfl)
          | ((try simp only [Known] at hh); grind)
      · have hjj := end_of g1 hj
        subst hjj
        have lc3 : (((liveP x.Name b.Copies.zipIdx).countP fun y => !(y.1.Image == x.Image) || drn b y.1 : Nat) : Int) = cntI (c3 b x) b.Copies := live_cnt b x.Name (fun y => !(y.Image == x.Image) || drn b y)
        have lc4 : (((liveP x.Name b.Copies.zipIdx).countP fun y => !(y.1.State == 3) : Nat) : Int) = cntI (c4 x) b.Copies := live_cnt b x.Name (fun y => !(y.State == 3))
        simp -implicitDefEqProofs only [List.take_length, more, S0, S1, S2, S3, S4, S5, S6, S7, S8, S9, S10, S11, S12, S13, S14, S15, S16, opv, opvs, eget, env0, setD, lenStr, lenSl, isNilP, isNilS, putAt, if_true, if_false, reduceCtorEq, Nat.reduceLeDiff, Nat.reduceEqDiff, Nat.reduceSub, Nat.reduceMul, Nat.reduceAdd]
        refine lk_s (k + 1) (by simp) (Nat.le_add_right _ _) (stt _ _ _ _ _ [_, _] ?_ ?_ ?_ ?_ ?_) (by omega) (by omega) ?_ (by simp [ltE, keep, eget, V.lt] <;> omega) rfl
        all_goals first
          | (rw [q_ltσ_app, ltσ_mono (Nat.le_add_right _ _) hσ]; rfl)
          | (simp only [t0, t1, t2, t3, t4, e0, e1, e3, e4, h2, Bool.false_eq_true, if_false, lc3, lc4] <;> omega))
  · have hkk := end_of h1 hk
    subst hkk
    simp -implicitDefEqProofs only [List.take_length, S0, S1, S2, S3, S4, S5, S6, S7, S8, S9, S10, S11, S12, S13, S14, S15, S16, opv, opvs, eget, env0, setD, lenStr, lenSl, isNilP, isNilS, putAt, if_true, if_false, reduceCtorEq, Nat.reduceLeDiff, Nat.reduceEqDiff, Nat.reduceSub, Nat.reduceMul, Nat.reduceAdd]
    refine fin_keep (by simp) ?_
    rw [rankR, hv]
    exact rk_toR (B := []) []

end Go.Proofs.Ytabakekeicbpbaa.W

end


section
open Go Go.Ab
set_option maxHeartbeats 2000000
namespace Go.Proofs.Ytabakekeicbpbaa.W
def c_impl_StewRank : C := (.seq (.ops [⟨(some 1), none, (.box (.t 0))⟩, ⟨(some 2), none, (.mv (.c .nils))⟩]) (.seq (.ops [⟨(some 10), none, (.mkSl 1 8 [(.t (.int .i64 0))] (.c (.t (.int .i64 5))) (.c (.t (.int .i64 5))))⟩, ⟨(some 3), none, (.mv (.t 10))⟩]) (.seq (.seq (.ops [⟨(some 11), none, (.load (some 4) (.t 1))⟩, ⟨(some 12), none, (.call (.c (.fn (.func 13) [])) [(.t 11)])⟩, ⟨(some 13), none, (.un .not (.t 12))⟩]) (.cond (.t 13) (.seq (.ops [⟨(some 14), none, (.mv (.t 3))⟩, ⟨(some 2), none, (.mv (.t 14))⟩]) .ret) .skip)) (.seq (.seq (.ops [⟨(some 15), none, (.fieldAddr 1 (.t 1))⟩, ⟨(some 16), none, (.load none (.t 15))⟩, ⟨(some 17), none, (.len false (.t 16))⟩, ⟨(some 18), none, (.mv (.c (.t (.int .i64 0))))⟩]) (.block 0 (.loop (.seq (.ops [⟨(some 19), none, (.bin .lss (.t 18) (.t 17))⟩]) (.seq (.cond (.t 19) .skip (.exit 0)) (.seq (.block 1 (.seq (.ops [⟨(some 20), none, (.mv (.t 18))⟩, ⟨(some 4), none, (.mv (.t 20))⟩]) (.seq (.ops [⟨(some 21), none, (.fieldAddr 1 (.t 1))⟩, ⟨(some 22), none, (.load none (.t 21))⟩, ⟨(some 23), none, (.mv (.t 4))⟩, ⟨(some 24), none, (.indexAddr 13 (.t 22) (.t 23))⟩, ⟨(some 5), none, (.mv (.t 24))⟩]) (.seq (.seq (.ops [⟨(some 25), none, (.mv (.t 5))⟩, ⟨(some 26), none, (.nilCheck (.t 25))⟩, ⟨(some 27), none, (.fieldAddr 2 (.t 26))⟩, ⟨(some 28), none, (.load none (.t 27))⟩]) (.cond (.t 28) (.seq (.ops [⟨(some 29), none, (.mv (.t 3))⟩, ⟨(some 30), none, (.indexAddr 1 (.t 29) (.c (.t (.int .i64 0))))⟩, ⟨(some 31), none, (.load none (.t 30))⟩, ⟨(some 32), none, (.bin .add (.t 31) (.c (.t (.int .i64 1))))⟩, ⟨(some 33), none, (.indexAddr 1 (.t 29) (.c (.t (.int .i64 0))))⟩, ⟨none, none, (.store 1 (.t 33) (.t 32))⟩]) (.exit 1)) .skip)) (.seq (.ops [⟨(some 34), none, (.mv (.t 5))⟩, ⟨(some 35), none, (.call (.c (.fn (.func 58) [])) [(.t 1), (.t 34)])⟩, ⟨(some 6), none, (.new [(.t (.int .i64 0)), (.t (.int .i64 0)), (.t (.int .i64 0)), (.t (.int .i64 0)), (.t (.int .i64 0))])⟩, ⟨none, none, (.store 5 (.t 6) (.t 35))⟩]) (.drawn [(.mk 0 false ⟨(some 36), none, (.mv (.t 3))⟩), (.mk 1 false ⟨(some 37), none, (.indexAddr 1 (.t 36) (.c (.t (.int .i64 2))))⟩), (.mk 2 false ⟨(some 38), none, (.load none (.t 37))⟩), (.mk 3 false ⟨(some 39), none, (.fieldAddr 0 (.t 6))⟩), (.mk 4 false ⟨(some 40), none, (.load none (.t 39))⟩), (.mk 5 false ⟨(some 41), none, (.mv (.t 5))⟩), (.mk 6 false ⟨(some 42), none, (.nilCheck (.t 41))⟩), (.mk 7 false ⟨(some 43), none, (.fieldAddr 4 (.t 42))⟩), (.mk 8 false ⟨(some 44), none, (.load none (.t 43))⟩), (.mk 9 false ⟨(some 45), none, (.bin .sub (.t 40) (.t 44))⟩), (.mk 10 false ⟨(some 46), none, (.mv (.t 5))⟩), (.mk 11 false ⟨(some 47), none, (.nilCheck (.t 46))⟩), (.mk 12 false ⟨(some 48), none, (.fieldAddr 4 (.t 47))⟩), (.mk 13 false ⟨(some 49), none, (.load none (.t 48))⟩), (.mk 14 false ⟨(some 50), none, (.fieldAddr 0 (.t 6))⟩), (.mk 15 false ⟨(some 51), none, (.load none (.t 50))⟩), (.mk 16 false ⟨(some 52), none, (.bin .sub (.t 49) (.t 51))⟩), (.mk 17 false ⟨(some 53), none, (.mm true (.t 45) (.t 52))⟩), (.mk 18 false ⟨(some 54), none, (.bin .add (.t 38) (.t 53))⟩), (.mk 19 false ⟨(some 55), none, (.indexAddr 1 (.t 36) (.c (.t (.int .i64 2))))⟩), (.mk 20 false ⟨none, none, (.store 1 (.t 55) (.t 54))⟩)])))))) (.ops [⟨(some 56), none, (.bin .add (.t 18) (.c (.t (.int .i64 1))))⟩, ⟨(some 18), none, (.mv (.t 56))⟩]))))))) (.seq (.seq (.ops [⟨(some 57), none, (.fieldAddr 2 (.t 1))⟩, ⟨(some 58), none, (.load none (.t 57))⟩, ⟨(some 59), none, (.len false (.t 58))⟩, ⟨(some 60), none, (.mv (.c (.t (.int .i64 0))))⟩]) (.block 2 (.loop (.seq (.ops [⟨(some 61), none, (.bin .lss (.t 60) (.t 59))⟩]) (.seq (.cond (.t 61) .skip (.exit 2)) (.seq (.block 3 (.seq (.ops [⟨(some 62), none, (.indexAddr 7 (.t 58) (.t 60))⟩, ⟨(some 63), none, (.load (some 7) (.t 62))⟩, ⟨(some 8), none, (.new [(.t (.str [])), (.t (.int .i64 0)), (.t (.int .i64 0)), (.t (.int .i64 0)), (.t (.int .i64 0)), (.t (.bool false)), (.t (.str []))])⟩, ⟨none, none, (.store 7 (.t 8) (.t 63))⟩]) (.seq (.ops [⟨(some 64), none, (.fieldAddr 0 (.t 8))⟩, ⟨(some 65), none, (.load none (.t 64))⟩, ⟨(some 66), none, (.call (.c (.fn (.func 49) [])) [(.t 1), (.t 65)])⟩, ⟨(some 9), none, (.mv (.t 66))⟩]) (.seq (.seq (.ops [⟨(some 67), none, (.fieldAddr 5 (.t 8))⟩, ⟨(some 68), none, (.load none (.t 67))⟩, ⟨(some 69), none, (.mv (.t 68))⟩, ⟨(some 70), (some ⟨69, false⟩), (.mv (.t 9))⟩, ⟨(some 71), (some ⟨69, false⟩), (.nilCheck (.t 70))⟩, ⟨(some 72), (some ⟨69, false⟩), (.fieldAddr 2 (.t 71))⟩, ⟨(some 73), (some ⟨69, false⟩), (.load none (.t 72))⟩, ⟨(some 74), none, (.pick (.t 69) (.c (.t (.bool true))) (.t 73))⟩]) (.cond (.t 74) (.seq (.ops [⟨(some 75), none, (.mv (.t 3))⟩, ⟨(some 76), none, (.indexAddr 1 (.t 75) (.c (.t (.int .i64 1))))⟩, ⟨(some 77), none, (.load none (.t 76))⟩, ⟨(some 78), none, (.bin .add (.t 77) (.c (.t (.int .i64 1))))⟩, ⟨(some 79), none, (.indexAddr 1 (.t 75) (.c (.t (.int .i64 1))))⟩, ⟨none, none, (.store 1 (.t 79) (.t 78))⟩]) (.exit 3)) .skip)) (.seq (.drawn [(.mk 0 false ⟨(some 80), none, (.mv (.t 3))⟩), (.mk 1 false ⟨(some 81), none, (.indexAddr 1 (.t 80) (.c (.t (.int .i64 3))))⟩), (.mk 2 false ⟨(some 82), none, (.load none (.t 81))⟩), (.mk 3 false ⟨(some 83), none, (.fieldAddr 3 (.t 8))⟩), (.mk 4 false ⟨(some 84), none, (.load none (.t 83))⟩), (.mk 5 false ⟨(some 85), none, (.mv (.t 9))⟩), (.mk 6 false ⟨(some 86), none, (.nilCheck (.t 85))⟩), (.mk 7 false ⟨(some 87), none, (.fieldAddr 3 (.t 86))⟩), (.mk 8 false ⟨(some 88), none, (.load none (.t 87))⟩), (.mk 9 false ⟨(some 89), none, (.bin .neq (.t 84) (.t 88))⟩), (.mk 10 false ⟨(some 90), none, (.mv (.t 89))⟩), (.mk 11 false ⟨(some 91), (some ⟨90, false⟩), (.load (some 7) (.t 8))⟩), (.mk 12 true ⟨(some 92), (some ⟨90, false⟩), (.call (.c (.fn (.func 67) [])) [(.t 1), (.t 91)])⟩), (.mk 13 false ⟨(some 93), none, (.pick (.t 90) (.c (.t (.bool true))) (.t 92))⟩), (.mk 14 true ⟨(some 94), none, (.call (.c (.fn (.func 66) [])) [(.t 93)])⟩), (.mk 15 false ⟨(some 95), none, (.bin .add (.t 82) (.t 94))⟩), (.mk 16 false ⟨(some 96), none, (.indexAddr 1 (.t 80) (.c (.t (.int .i64 3))))⟩), (.mk 17 false ⟨none, none, (.store 1 (.t 96) (.t 95))⟩)]) (.drawn [(.mk 0 false ⟨(some 97), none, (.mv (.t 3))⟩), (.mk 1 false ⟨(some 98), none, (.indexAddr 1 (.t 97) (.c (.t (.int .i64 4))))⟩), (.mk 2 false ⟨(some 99), none, (.load none (.t 98))⟩), (.mk 3 false ⟨(some 100), none, (.fieldAddr 4 (.t 8))⟩), (.mk 4 false ⟨(some 101), none, (.load none (.t 100))⟩), (.mk 5 false ⟨(some 102), none, (.bin .neq (.t 101) (.c (.t (.int .i64 3))))⟩), (.mk 6 true ⟨(some 103), none, (.call (.c (.fn (.func 66) [])) [(.t 102)])⟩), (.mk 7 false ⟨(some 104), none, (.bin .add (.t 99) (.t 103))⟩), (.mk 8 false ⟨(some 105), none, (.indexAddr 1 (.t 97) (.c (.t (.int .i64 4))))⟩), (.mk 9 false ⟨none, none, (.store 1 (.t 105) (.t 104))⟩)])))))) (.ops [⟨(some 106), none, (.bin .add (.t 60) (.c (.t (.int .i64 1))))⟩, ⟨(some 60), none, (.mv (.t 106))⟩]))))))) (.seq (.ops [⟨(some 107), none, (.mv (.t 3))⟩, ⟨(some 2), none, (.mv (.t 107))⟩]) .ret))))))
theorem k_impl_StewRank : comp Try.prog 108 (Try.f28.body.getD .skip) = some c_impl_StewRank := by kernel_rfl

theorem abs_max (d : Int) (h : -1000 ≤ d ∧ d ≤ 1000) : (if IntKind.i64.wrap (0 - d) > IntKind.i64.wrap d then IntKind.i64.wrap (0 - d) else IntKind.i64.wrap d) = absI d := by
  rw [wr d (by omega), wr (0 - d) (by omega)]
  unfold absI
  split <;> split <;> omega
theorem abs_max2 (l w : Int) (h : 0 ≤ l ∧ l ≤ 200 ∧ 0 ≤ w ∧ w ≤ 10) : (if IntKind.i64.wrap (w - l) > IntKind.i64.wrap (l - w) then IntKind.i64.wrap (w - l) else IntKind.i64.wrap (l - w)) = absI (l - w) := by
  rw [wr (w - l) (by omega), wr (l - w) (by omega)]
  unfold absI
  split <;> split <;> omega
set_option maxHeartbeats 8000000 in
theorem impl_StewRank0 (b : StewBook) (hb : b.Ok) (σ : Store) : ACalls Try.prog 28 [.agg b.vs] σ (ToR (.lst 1 (rankR b)) σ) := by
  refine acalls_of Try.func28 (by decide +kernel) (code := Try.f28.body.getD .skip) (n := 108) (c := c_impl_StewRank) (rs := [(.tmp 2)]) rfl rfl k_impl_StewRank (by kernel_rfl) (by simp) (fun hσ => ?_)
  have y1 := hb.Copies.1
  have y2 := hb.Services.1
  have m1 : ((0 : Int) ≤ 5 ∧ (5 : Int) ≤ 5 ∧ (5 : Int) ≤ 9223372036854775807 ∧ ((8 : Nat) : Int) * 5 ≤ 140737488355328) := by decide
  have m2 : Int.toNat 5 = 5 := rfl
  simp -implicitDefEqProofs only [c_impl_StewRank, StewBook.vs, List.length_map, m1, m2, List.replicate, S0, S1, S2, S3, S4, S5, S6, S7, S8, S9, S10, S11, S12, S13, S14, S15, S16, opv, opvs, eget, env0, setD, lenStr, lenSl, isNilP, isNilS, putAt, if_true, if_false, reduceCtorEq, Nat.reduceLeDiff, Nat.reduceEqDiff, Nat.reduceSub, Nat.reduceMul, Nat.reduceAdd]
  refine call_pure (impl_StewValid b hb _) ?_
  rcases hv : stewValid b with _ | _
  · simp -implicitDefEqProofs only [cond_t, cond_f, Bool.not_false, S0, S1, S2, S3, S4, S5, S6, S7, S8, S9, S10, S11, S12, S13, S14, S15, S16, opv, opvs, eget, env0, setD, lenStr, lenSl, isNilP, isNilS, putAt, if_true, if_false, reduceCtorEq, Nat.reduceLeDiff, Nat.reduceEqDiff, Nat.reduceSub, Nat.reduceMul, Nat.reduceAdd]
    refine fin_keep (by simp) ?_
    rw [rankR, hv]
    exact rk_toR (B := []) []
  simp -implicitDefEqProofs only [cond_t, cond_f, Bool.not_true, S0, S1, S2, S3, S4, S5, S6, S7, S8, S9, S10, S11, S12, S13, S14, S15, S16, opv, opvs, eget, env0, setD, lenStr, lenSl, isNilP, isNilS, putAt, if_true, if_false, reduceCtorEq, Nat.reduceLeDiff, Nat.reduceEqDiff, Nat.reduceSub, Nat.reduceMul, Nat.reduceAdd]
  refine loop_s [18, 1, 3, 17] [1, 3, 17] (fun k : Nat => [(18, .t (.int .i64 (k : Nat)))]) (fun k => σ ++ [.box b.vs, .slc 1 (rkV (sumI e0 (b.Services.take k)) 0 (sumI (e2 b) (b.Services.take k)) 0 0)]) (fun k => k ≤ b.Services.length) (fun k => b.Services.length - k) 0 (σ.length + 2) (fun k => by simp) (Nat.le_add_right _ _) (Nat.zero_le _) (by simp [rkV, sumI, StewBook.vs]) rfl ?_
  rintro k hk
  simp -implicitDefEqProofs only [keep, StewBook.vs, List.length_map, S0, S1, S2, S3, S4, S5, S6, S7, S8, S9, S10, S11, S12, S13, S14, S15, S16, opv, opvs, eget, env0, setD, lenStr, lenSl, isNilP, isNilS, putAt, if_true, if_false, reduceCtorEq, Nat.reduceLeDiff, Nat.reduceEqDiff, Nat.reduceSub, Nat.reduceMul, Nat.reduceAdd]
  have hl8 := (valid_len hv).1
  have hl200 := (valid_len hv).2
  refine cond_split (fun h1 => ?_) (fun h1 => ?_)
  · obtain ⟨x, hx, hlt⟩ := at_of h1
    have more := i64_succ (show k < 4611686018427387904 by omega)
    have hm := mem_at hx
    obtain ⟨q0, q1, q2, q3, q4⟩ := e_bnd hv hm
    have p0 := sumI_take (a := 1000) (by omega) (fun y hy => (e_bnd hv hy).1) k
    have p2 := sumI_take (a := 1000) (by omega) (fun y hy => (e_bnd hv hy).2.2.1) k
    have t0 := sumI_step (f := e0) hx
    have t2 := sumI_step (f := e2 b) hx
    have n2 := cntI_bnd (cLive x.Name) b.Copies
    have hw0 := valid_svc hv hm
    simp only [serviceOk, Bool.and_eq_true, wi, decide_eq_true_eq] at hw0
    have hw := hw0.1.1.1.1.2
    clear hw0
    have ha := abs_max2 (cntI (cLive x.Name) b.Copies) x.Want (by omega)
    have stt : ∀ (a0 a2 : Int) (τ : Store), sumI e0 (b.Services.take (k + 1)) = a0 → sumI (e2 b) (b.Services.take (k + 1)) = a2 →
        σ ++ (.box b.vs :: .slc 1 (rkV a0 0 a2 0 0) :: τ) = (σ ++ [.box b.vs, .slc 1 (rkV (sumI e0 (b.Services.take (k + 1))) 0 (sumI (e2 b) (b.Services.take (k + 1))) 0 0)]) ++ τ := by
      rintro a0 a2 τ rfl rfl
      simp
    have st0 : ∀ (a0 a2 : Int), sumI e0 (b.Services.take (k + 1)) = a0 → sumI (e2 b) (b.Services.take (k + 1)) = a2 →
        σ ++ [.box b.vs, .slc 1 (rkV a0 0 a2 0 0)] = (σ ++ [.box b.vs, .slc 1 (rkV (sumI e0 (b.Services.take (k + 1))) 0 (sumI (e2 b) (b.Services.take (k + 1))) 0 0)]) := by
      rintro a0 a2 rfl rfl
      rfl
    generalize hS0 : sumI e0 (b.Services.take k) = s0 at *
    generalize hS2 : sumI (e2 b) (b.Services.take k) = s2 at *
    have w3 : IntKind.i64.wrap (s0 + 1) = s0 + 1 := wr _ (by omega)
    have w4 : IntKind.i64.wrap (s2 + e2 b x) = s2 + e2 b x := wr _ (by omega)
    simp -implicitDefEqProofs only [hx, nat_nn, Nat.zero_le, List.getElem?_map, Option.map_some, List.length_map, StewCopy.ts, StewService.ts, rkV, more, ix5, S0, S1, S2, S3, S4, S5, S6, S7, S8, S9, S10, S11, S12, S13, S14, S15, S16, opv, opvs, eget, env0, setD, lenStr, lenSl, isNilP, isNilS, putAt, if_true, if_false, reduceCtorEq, Nat.reduceLeDiff, Nat.reduceEqDiff, Nat.reduceSub, Nat.reduceMul, Nat.reduceAdd]
    refine cond_split (fun h2 => ?_) (fun h2 => ?_)
    · simp -implicitDefEqProofs only [hx, nat_nn, Nat.zero_le, List.getElem?_map, Option.map_some, List.length_map, StewCopy.ts, StewService.ts, rkV, more, ix5, w3, S0, S1, S2, S3, S4, S5, S6, S7, S8, S9, S10, S11, S12, S13, S14, S15, S16, opv, opvs, eget, env0, setD, lenStr, lenSl, isNilP, isNilS, putAt, if_true, if_false, reduceCtorEq, Nat.reduceLeDiff, Nat.reduceEqDiff, Nat.reduceSub, Nat.reduceMul, Nat.reduceAdd]
      refine lk_s0 (k + 1) (by simp) (Nat.le_add_right _ _) (st0 _ _ ?_ ?_) (by omega) (by omega) rfl
      all_goals (simp only [t0, t2, e0, e2, h2, if_true] <;> omega)
    have hco2 : e2 b x = absI (cntI (cLive x.Name) b.Copies - x.Want) := by simp only [e2, h2, Bool.false_eq_true, if_false]
    simp -implicitDefEqProofs only [hx, nat_nn, Nat.zero_le, List.getElem?_map, Option.map_some, List.length_map, StewCopy.ts, StewService.ts, rkV, more, ix5, S0, S1, S2, S3, S4, S5, S6, S7, S8, S9, S10, S11, S12, S13, S14, S15, S16, opv, opvs, eget, env0, setD, lenStr, lenSl, isNilP, isNilS, putAt, if_true, if_false, reduceCtorEq, Nat.reduceLeDiff, Nat.reduceEqDiff, Nat.reduceSub, Nat.reduceMul, Nat.reduceAdd]
    refine call_pure (impl_count b hb x _ σ.length (by simp [StewBook.vs])) ?_
    simp -implicitDefEqProofs only [hx, nat_nn, Nat.zero_le, List.getElem?_map, Option.map_some, List.length_map, StewCopy.ts, StewService.ts, rkV, more, ix5, cntV, if_true, ha, S0, S1, S2, S3, S4, S5, S6, S7, S8, S9, S10, S11, S12, S13, S14, S15, S16, opv, opvs, eget, env0, setD, lenStr, lenSl, isNilP, isNilS, putAt, if_true, if_false, reduceCtorEq, Nat.reduceLeDiff, Nat.reduceEqDiff, Nat.reduceSub, Nat.reduceMul, Nat.reduceAdd]
    rw [← hco2]
    simp -implicitDefEqProofs only [hx, nat_nn, Nat.zero_le, List.getElem?_map, Option.map_some, List.length_map, StewCopy.ts, StewService.ts, rkV, more, ix5, cntV, w4, S0, S1, S2, S3, S4, S5, S6, S7, S8, S9, S10, S11, S12, S13, S14, S15, S16, opv, opvs, eget, env0, setD, lenStr, lenSl, isNilP, isNilS, putAt, if_true, if_false, reduceCtorEq, Nat.reduceLeDiff, Nat.reduceEqDiff, Nat.reduceSub, Nat.reduceMul, Nat.reduceAdd]
    refine lk_s (k + 1) (by simp) (Nat.le_add_right _ _) (stt _ _ [_] ?_ ?_) (by omega) (by omega) ?_ (by simp [ltE, keep, eget, V.lt] <;> omega) rfl
    all_goals first
      | (rw [q_ltσ_app, ltσ_mono (Nat.le_add_right _ _) hσ]; rfl)
      | (simp only [t0, t2, e0, h2, Bool.false_eq_true, if_false] <;> omega)
  have hkk := end_of h1 hk
  subst hkk
  simp -implicitDefEqProofs only [List.take_length, S0, S1, S2, S3, S4, S5, S6, S7, S8, S9, S10, S11, S12, S13, S14, S15, S16, opv, opvs, eget, env0, setD, lenStr, lenSl, isNilP, isNilS, putAt, if_true, if_false, reduceCtorEq, Nat.reduceLeDiff, Nat.reduceEqDiff, Nat.reduceSub, Nat.reduceMul, Nat.reduceAdd]
  refine loop_s [60, 1, 3, 58, 59] [1, 3, 58, 59] (fun k : Nat => [(60, .t (.int .i64 (k : Nat)))]) (fun k => σ ++ [.box b.vs, .slc 1 (rkV (sumI e0 b.Services) (cntI (g1 b) (b.Copies.take k)) (sumI (e2 b) b.Services) (cntI (g3 b) (b.Copies.take k)) (cntI (g4 b) (b.Copies.take k)))]) (fun k => k ≤ b.Copies.length) (fun k => b.Copies.length - k) 0 (σ.length + 2) (fun k => by simp) (Nat.le_add_right _ _) (Nat.zero_le _) (by simp [rkV, cntI, StewBook.vs]) rfl ?_
  clear h1 hk
  rintro k hk
  simp -implicitDefEqProofs only [keep, StewBook.vs, List.length_map, S0, S1, S2, S3, S4, S5, S6, S7, S8, S9, S10, S11, S12, S13, S14, S15, S16, opv, opvs, eget, env0, setD, lenStr, lenSl, isNilP, isNilS, putAt, if_true, if_false, reduceCtorEq, Nat.reduceLeDiff, Nat.reduceEqDiff, Nat.reduceSub, Nat.reduceMul, Nat.reduceAdd]
  refine cond_split (fun h1 => ?_) (fun h1 => ?_)
  · obtain ⟨x, hx, hlt⟩ := at_of h1
    have more := i64_succ (show k < 4611686018427387904 by omega)
    have hm := mem_at hx
    obtain ⟨s, hs⟩ := valid_copy hv hm
    have hso : svcO b x = some s := hs
    have t1 := cnt_step (p := g1 b) hx
    have t3 := cnt_step (p := g3 b) hx
    have t4 := cnt_step (p := g4 b) hx
    have p1 := cnt_le (p := g1 b) (l := b.Copies) (k := k)
    have p3 := cnt_le (p := g3 b) (l := b.Copies) (k := k)
    have p4 := cnt_le (p := g4 b) (l := b.Copies) (k := k)
    have v1 : g1 b x = (x.Ending || s.Gone) := by simp only [g1, hso]
    have v3 : g3 b x = (!(x.Ending || s.Gone) && (!(x.Image == s.Image) || drn b x)) := by simp only [g3, hso]
    have v4 : g4 b x = (!(x.Ending || s.Gone) && !(x.State == 3)) := by simp only [g4, hso]
    have stt : ∀ (a1 a3 a4 : Int) (τ : Store), cntI (g1 b) (b.Copies.take (k + 1)) = a1 → cntI (g3 b) (b.Copies.take (k + 1)) = a3 → cntI (g4 b) (b.Copies.take (k + 1)) = a4 →
        σ ++ (.box b.vs :: .slc 1 (rkV (sumI e0 b.Services) a1 (sumI (e2 b) b.Services) a3 a4) :: τ) = (σ ++ [.box b.vs, .slc 1 (rkV (sumI e0 b.Services) (cntI (g1 b) (b.Copies.take (k + 1))) (sumI (e2 b) b.Services) (cntI (g3 b) (b.Copies.take (k + 1))) (cntI (g4 b) (b.Copies.take (k + 1))))]) ++ τ := by
      rintro a1 a3 a4 τ rfl rfl rfl
      simp
    generalize hS1 : cntI (g1 b) (b.Copies.take k) = s1 at *
    generalize hS3 : cntI (g3 b) (b.Copies.take k) = s3 at *
    generalize hS4 : cntI (g4 b) (b.Copies.take k) = s4 at *
    have w1 : IntKind.i64.wrap (s1 + 1) = s1 + 1 := wr _ (by omega)
    have w3 : ∀ q : Bool, IntKind.i64.wrap (s3 + if q = true then 1 else 0) = s3 + if q = true then 1 else 0 := fun q => wr _ (by split <;> omega)
    have w5 : IntKind.i64.wrap (s3 + 1) = s3 + 1 ∧ IntKind.i64.wrap (s3 + 0) = s3 + 0 ∧ IntKind.i64.wrap (s4 + 1) = s4 + 1 ∧ IntKind.i64.wrap (s4 + 0) = s4 + 0 := ⟨wr _ (by omega), wr _ (by omega), wr _ (by omega), wr _ (by omega)⟩
    have w4 : ∀ q : Bool, IntKind.i64.wrap (s4 + if q = true then 1 else 0) = s4 + if q = true then 1 else 0 := fun q => wr _ (by split <;> omega)
    simp -implicitDefEqProofs only [hx, nat_nn, Nat.zero_le, List.getElem?_map, Option.map_some, List.length_map, StewCopy.ts, StewService.ts, rkV, more, ix5, S0, S1, S2, S3, S4, S5, S6, S7, S8, S9, S10, S11, S12, S13, S14, S15, S16, opv, opvs, eget, env0, setD, lenStr, lenSl, isNilP, isNilS, putAt, if_true, if_false, reduceCtorEq, Nat.reduceLeDiff, Nat.reduceEqDiff, Nat.reduceSub, Nat.reduceMul, Nat.reduceAdd]
    refine call_pure (__impl_StewBook__service b hb x.Service σ.length _ (by simp [StewBook.vs])) ?_
    rw [hs]
    simp -implicitDefEqProofs only [hx, nat_nn, Nat.zero_le, List.getElem?_map, Option.map_some, List.length_map, StewCopy.ts, StewService.ts, rkV, more, ix5, svV, S0, S1, S2, S3, S4, S5, S6, S7, S8, S9, S10, S11, S12, S13, S14, S15, S16, opv, opvs, eget, env0, setD, lenStr, lenSl, isNilP, isNilS, putAt, if_true, if_false, reduceCtorEq, Nat.reduceLeDiff, Nat.reduceEqDiff, Nat.reduceSub, Nat.reduceMul, Nat.reduceAdd]
    have hh : True := trivial
    repeat' (first
      | ((with_reducible refine cond_known (fun h => ?_) (fun h => ?_)) <;> (replace hh := And.intro h hh; clear h; simp -implicitDefEqProofs only [hh, cond_t, cond_f, hx, nat_nn, Nat.zero_le, List.getElem?_map, Option.map_some, List.length_map, StewCopy.ts, StewService.ts, rkV, more, ix5, w1, w3, w4, w5, S0, S1, S2, S3, S4, S5, S6, S7, S8, S9, S10, S11, S12, S13, S14, S15, S16, opv, opvs, eget, env0, setD, lenStr, lenSl, isNilP, isNilS, putAt, if_true, if_false, reduceCtorEq, Nat.reduceLeDiff, Nat.reduceEqDiff, Nat.reduceSub, Nat.reduceMul, Nat.reduceAdd]))
      | ((with_reducible refine call_pure (impl_drained b hb x σ.length _ (by simp [StewBook.vs])) ?_); simp -implicitDefEqProofs only [hh, cond_t, cond_f, hx, nat_nn, Nat.zero_le, List.getElem?_map, Option.map_some, List.length_map, StewCopy.ts, StewService.ts, rkV, more, ix5, w1, w3, w4, w5, S0, S1, S2, S3, S4, S5, S6, S7, S8, S9, S10, S11, S12, S13, S14, S15, S16, opv, opvs, eget, env0, setD, lenStr, lenSl, isNilP, isNilS, putAt, if_true, if_false, reduceCtorEq, Nat.reduceLeDiff, Nat.reduceEqDiff, Nat.reduceSub, Nat.reduceMul, Nat.reduceAdd])
      | ((with_reducible refine call_pure (impl_one _ _) ?_); simp -implicitDefEqProofs only [hh, cond_t, cond_f, hx, nat_nn, Nat.zero_le, List.getElem?_map, Option.map_some, List.length_map, StewCopy.ts, StewService.ts, rkV, more, ix5, w1, w3, w4, w5, S0, S1, S2, S3, S4, S5, S6, S7, S8, S9, S10, S11, S12, S13, S14, S15, S16, opv, opvs, eget, env0, setD, lenStr, lenSl, isNilP, isNilS, putAt, if_true, if_false, reduceCtorEq, Nat.reduceLeDiff, Nat.reduceEqDiff, Nat.reduceSub, Nat.reduceMul, Nat.reduceAdd])
      | (refine lk_s (k + 1) (by simp) (Nat.le_add_right _ _) (stt _ _ _ [_] ?_ ?_ ?_) (by omega) (by omega) ?_ (by simp [ltE, keep, eget, V.lt] <;> omega) rfl))
    all_goals first
      | (rw [q_ltσ_app, ltσ_mono (Nat.le_add_right _ _) hσ]; rfl)
      | ((try simp only [Known] at hh); grind)
  · have hkk := end_of h1 hk
    subst hkk
    simp -implicitDefEqProofs only [List.take_length, S0, S1, S2, S3, S4, S5, S6, S7, S8, S9, S10, S11, S12, S13, S14, S15, S16, opv, opvs, eget, env0, setD, lenStr, lenSl, isNilP, isNilS, putAt, if_true, if_false, reduceCtorEq, Nat.reduceLeDiff, Nat.reduceEqDiff, Nat.reduceSub, Nat.reduceMul, Nat.reduceAdd]
    refine fin_keep (by simp) ?_
    rw [rankR, hv, if_pos rfl, sum_e1 hv, sum_e3 hv, sum_e4 hv]
    exact rk_toR (B := []) []
def resT_StewRank (b : StewBook) : T := .lst 1 (rankR b)
theorem implO_StewRank (b : StewBook) (hb : b.Ok) (σ : Store) : ACalls Try.prog 28 [.agg b.vs] σ (ToR (resT_StewRank b) σ) := impl_StewRank0 b hb σ
theorem specF_StewRank (b : StewBook) (hb : b.Ok) (σ : Store) : ACalls Try.prog 27 [.agg b.vs] σ fun r σ' => r = .t (resT_StewRank b) ∧ σ' = σ := acalls_frzT (spec_StewRank0 b hb σ)
theorem implF_StewRank (b : StewBook) (hb : b.Ok) (σ : Store) : ACalls Try.prog 28 [.agg b.vs] σ fun r σ' => r = .t (resT_StewRank b) ∧ σ' = σ := acalls_frzT (implO_StewRank b hb σ)

end Go.Proofs.Ytabakekeicbpbaa.W

end


section
open Go Go.Ab
set_option maxHeartbeats 2000000
namespace Go.Proofs.Ytabakekeicbpbaa.W
theorem wf_of_i64 {n : Int} (h : i64r n) : (Lit.int .i64 n).wf = true := by
  have e1 : IntKind.i64.min = -9223372036854775808 := by decide
  have e2 : IntKind.i64.max = 9223372036854775807 := by decide
  unfold i64r at h
  simp only [Lit.wf, e1, e2, Bool.and_eq_true, decide_eq_true_eq]
  omega
theorem is_ints {l : List Int} (hl : l.length ≤ 1048576) (h : ∀ n ∈ l, i64r n) : T.is (.sl 1 [.int .i64]) (.lst 1 (l.map fun n => [T.int .i64 n])) := by
  simp only [T.is]
  refine ⟨_, rfl, by rw [List.length_map]; simp only [maxLen]; omega, fun r hr => ?_⟩
  obtain ⟨n, hn, rfl⟩ := List.mem_map.1 hr
  simp only [isL_cons, isL_nil, is_int]
  exact ⟨_, _, rfl, ⟨n, rfl, wf_of_i64 (h n hn)⟩, rfl⟩
theorem size_ints : ∀ l : List Int, (T.lst 1 (l.map fun n => [T.int .i64 n])).size = l.length := by
  intro l
  rw [size_lst, List.length_map]
  suffices h : T.sizeR (l.map fun n => [T.int .i64 n]) = 0 by omega
  induction l with
  | nil => simp only [List.map_nil, sizeR_nil]
  | cons n l ih => simp only [List.map_cons, sizeR_cons, sizeL_cons, sizeL_nil, size_int, ih]
theorem res_StewRank (b : StewBook) (h : T.isL shStewBook b.ts) (z : T.sizeL b.ts ≤ 1048576) (o : b.Ok) : T.is (.sl 1 [.int .i64]) (resT_StewRank b) ∧ (resT_StewRank b).size ≤ 8388608 := by
  have key : ∃ l : List Int, rankR b = l.map (fun n => [T.int .i64 n]) ∧ l.length ≤ 5 ∧ ∀ n ∈ l, i64r n := by
    unfold rankR
    rcases hv : stewValid b with _ | _
    · refine ⟨[0, 0, 0, 0, 0], rfl, by simp, fun n hn => ?_⟩
      simp only [List.mem_cons, List.not_mem_nil, or_false] at hn
      unfold i64r
      omega
    · have hl := (valid_len hv).1
      have p0 := sumI_bnd (a := 1000) (l := b.Services) (by omega) (fun y hy => (e_bnd hv hy).1)
      have p1 := sumI_bnd (a := 1000) (l := b.Services) (by omega) (fun y hy => (e_bnd hv hy).2.1)
      have p2 := sumI_bnd (a := 1000) (l := b.Services) (by omega) (fun y hy => (e_bnd hv hy).2.2.1)
      have p3 := sumI_bnd (a := 1000) (l := b.Services) (by omega) (fun y hy => (e_bnd hv hy).2.2.2.1)
      have p4 := sumI_bnd (a := 1000) (l := b.Services) (by omega) (fun y hy => (e_bnd hv hy).2.2.2.2)
      refine ⟨[sumI e0 b.Services, sumI (e1 b) b.Services, sumI (e2 b) b.Services, sumI (e3 b) b.Services, sumI (e4 b) b.Services], rfl, by simp, fun n hn => ?_⟩
      simp only [List.mem_cons, List.not_mem_nil, or_false] at hn
      unfold i64r
      omega
  obtain ⟨l, he, hl, hr⟩ := key
  rw [resT_StewRank, he]
  exact ⟨is_ints (by omega) hr, by rw [size_ints]; omega⟩
end Go.Proofs.Ytabakekeicbpbaa.W

end
