/- The order in which a drawn region is walked, and its check. Conditions: none (a library of lemmas). -/
import Derived.Test.YtleilaipdhmgeaaAbGc
set_option linter.unusedSimpArgs false
set_option linter.unusedVariables false
set_option linter.defProp false
namespace Go.Ab

def fixIn (c : In) : In := ⟨c.dst, c.g, c.i.fix⟩
def insL (P : Program) (ops : Array Oper) (n : Nat) : List Nat → Option (List (Nat × In))
  | [] => some []
  | j :: js => match ops[j]? with
    | some o => match cIn P ops n o, insL P ops n js with
      | some c, some cs => some ((j, fixIn c) :: cs)
      | _, _ => none
    | none => none
/-- It writes what another looks at, which goes ahead of it. -/
def waits (ops : Array Oper) (ins : List (Nat × In)) (p : Nat × In) : Bool := match p.2.dst with
  | some d => ins.any fun q => q.1 != p.1 && q.2.looks.contains d && !(preds ops q.1).contains p.1
  | none => false
def ready1 (ops : Array Oper) (done : List Nat) (j : Nat) : Bool := (preds ops j).all done.contains
def ordr (ops : Array Oper) (ins : List (Nat × In)) : Nat → List Nat → List (Nat × In) → List (Nat × In)
  | 0, _, _ => []
  | f + 1, done, todo => match todo.find? fun p => (light p.2.i).isSome && !waits ops ins p && ready1 ops done p.1 with
    | some p => p :: ordr ops ins f (p.1 :: done) (todo.filter fun q => q.1 != p.1)
    | none => match todo.find? fun p => ready1 ops done p.1 with
      | some p => p :: ordr ops ins f (p.1 :: done) (todo.filter fun q => q.1 != p.1)
      | none => []
def reads (i : I) : Bool := match light i with
  | some true => true
  | _ => false
def heavyB (i : I) : Bool := match light i with
  | none => true
  | some _ => false
def heavyE (x : Ent) : Bool := x.b || heavyB x.c.i
def flagOf (ops : Array Oper) (ins : List (Nat × In)) (done : List Ent) (p : Nat × In) : Bool :=
  if heavyB p.2.i = true then
    match done.filter fun q => reads q.c.i with
    | [] => false
    | qs => (fun a => qs.any fun q => !a.contains q.j) (ancS ops ops.size (preds ops p.1))
  else waits ops ins p
def entsOf (ops : Array Oper) (ins : List (Nat × In)) : List Ent → List (Nat × In) → List Ent
  | _, [] => []
  | done, p :: ps => ⟨p.1, flagOf ops ins done p, p.2⟩ :: entsOf ops ins (done ++ [⟨p.1, flagOf ops ins done p, p.2⟩]) ps

def nodupB : List Nat → Bool
  | [] => true
  | x :: xs => !xs.contains x && nodupB xs
def sameD : Option Nat → Option Nat → Bool
  | some a, some b => a == b
  | _, _ => false
def lookB (ops : Array Oper) (all : List Ent) (x : Ent) : Bool :=
  (fun ps ls => all.all fun m => match m.c.dst with
    | some d => !ls.contains d || (ps.contains m.j && m.j != x.j) || (heavyE m && (preds ops m.j).contains x.j)
    | none => true) (preds ops x.j) x.c.looks
def entB (ops : Array Oper) (all done : List Ent) (x : Ent) (rest : List Ent) : Bool :=
  ((preds ops x.j).all fun p => done.any fun m => m.j == p) && lookB ops all x && (rest.all fun m => !sameD m.c.dst x.c.dst) &&
  (!heavyE x || ((rest.all fun q => (preds ops q.j).any fun p => p == x.j || rest.any fun m => m.j == p) &&
    (x.b || match done.filter fun q => reads q.c.i with
      | [] => true
      | qs => (fun a => qs.all fun q => a.contains q.j) (ancS ops ops.size (preds ops x.j)))))
def chkB (ops : Array Oper) (all : List Ent) : List Ent → List Ent → Bool
  | _, [] => true
  | done, x :: rest => entB ops all done x rest && chkB ops all (done ++ [x]) rest
def wholeB (ops : Array Oper) (all : List Ent) : Bool := (List.range ops.size).all fun k => all.any fun m => m.j == k

def compDr (P : Program) (n : Nat) (ops : Array Oper) : Option (List Ent) :=
  match insL P ops n (List.range ops.size) with
  | some ins => (fun es => if (nodupB (es.map (·.j)) && wholeB ops es && chkB ops es [] es) = true then some es else none) (entsOf ops ins [] (ordr ops ins ops.size [] ins))
  | none => none

section
variable {P : Program} {ops : Array Oper} {n : Nat}
theorem insL_mem : ∀ {js : List Nat} {ins : List (Nat × In)}, insL P ops n js = some ins → ∀ p ∈ ins, ∃ o c, ops[p.1]? = some o ∧ cIn P ops n o = some c ∧ p.2 = fixIn c
  | [], ins, h => by simp [insL] at h; subst h; simp
  | j :: js, ins, h => by
    simp only [insL] at h
    split at h
    · rename_i o ho
      split at h
      · rename_i c cs hc hcs
        obtain rfl := Option.some.inj h
        intro p hp
        simp only [List.mem_cons] at hp
        rcases hp with rfl | hp
        · exact ⟨o, c, ho, hc, rfl⟩
        · exact insL_mem hcs p hp
      · cases h
    · cases h
theorem ordr_mem {ins : List (Nat × In)} : ∀ {f : Nat} {done : List Nat} {todo : List (Nat × In)}, ∀ p ∈ ordr ops ins f done todo, p ∈ todo
  | 0, _, _ => by simp [ordr]
  | f + 1, done, todo => by
    intro p hp
    simp only [ordr] at hp
    have step : ∀ {q : Nat × In}, q ∈ todo → p ∈ q :: ordr ops ins f (q.1 :: done) (todo.filter fun r => r.1 != q.1) → p ∈ todo := by
      intro q hq hp
      simp only [List.mem_cons] at hp
      rcases hp with rfl | hp
      · exact hq
      · exact (List.mem_filter.1 (ordr_mem p hp)).1
    split at hp
    · rename_i q hq
      exact step (List.mem_of_find?_eq_some hq) hp
    · split at hp
      · rename_i q hq
        exact step (List.mem_of_find?_eq_some hq) hp
      · cases hp
theorem entsOf_mem {ins : List (Nat × In)} : ∀ {ps : List (Nat × In)} {done : List Ent}, ∀ m ∈ entsOf ops ins done ps, (m.j, m.c) ∈ ps
  | [], _ => by simp [entsOf]
  | p :: ps, done => by
    intro m hm
    simp only [entsOf, List.mem_cons] at hm
    rcases hm with rfl | hm
    · simp
    · exact List.mem_cons_of_mem _ (entsOf_mem m hm)
theorem nodupB_ok : ∀ {l : List Nat}, nodupB l = true → l.Nodup
  | [], _ => .nil
  | x :: xs, h => by
    simp only [nodupB, Bool.and_eq_true, Bool.not_eq_true', List.contains_eq_mem, decide_eq_false_iff_not] at h
    exact List.nodup_cons.2 ⟨h.1, nodupB_ok h.2⟩
theorem reads_iff {i : I} : reads i = true ↔ light i = some true := by
  unfold reads
  split <;> simp_all
theorem heavyB_iff {i : I} : heavyB i = true ↔ light i = none := by
  unfold heavyB
  split <;> simp_all

theorem heavyE_iff {x : Ent} : heavyE x = true ↔ lightE x = none := by
  unfold heavyE lightE
  cases hb : x.b
  · simp [heavyB_iff]
  · simp

theorem entB_ok {all done rest : List Ent} {x : Ent} (h : entB ops all done x rest = true) : EntOk ops all done x rest := by
  simp only [entB, Bool.and_eq_true] at h
  obtain ⟨⟨⟨h1, h2⟩, h3⟩, h4⟩ := h
  refine ⟨fun p hp => ?_, fun m hm d hd hl => ?_, fun m hm d hd hx => ?_, fun hl => ?_⟩
  · have := (List.all_eq_true.1 h1) p hp
    obtain ⟨m, hm, hj⟩ := List.any_eq_true.1 this
    exact ⟨m, hm, by simpa using hj⟩
  · have := (List.all_eq_true.1 h2) m hm
    simp only [hd] at this
    simp only [List.contains_eq_mem, hl, decide_true, Bool.not_true, Bool.false_or, Bool.or_eq_true, Bool.and_eq_true, bne_iff_ne, decide_eq_true_eq, heavyE_iff] at this
    exact this
  · have := (List.all_eq_true.1 h3) m hm
    simp [hd, hx, sameD] at this
  · have hh := heavyE_iff.2 hl
    simp only [hh, Bool.not_true, Bool.false_or, Bool.and_eq_true] at h4
    obtain ⟨h4, h5⟩ := h4
    refine ⟨fun q hq => ?_, fun hb q hq hr => ?_⟩
    · have := (List.all_eq_true.1 h4) q hq
      obtain ⟨p, hp, hpp⟩ := List.any_eq_true.1 this
      refine ⟨p, hp, ?_⟩
      simp only [Bool.or_eq_true, beq_iff_eq, List.any_eq_true] at hpp
      exact hpp
    · rw [hb, Bool.false_or] at h5
      have hmem : q ∈ done.filter fun q => reads q.c.i := List.mem_filter.2 ⟨hq, reads_iff.2 hr⟩
      split at h5
      · rename_i heq; rw [heq] at hmem; cases hmem
      · have := (List.all_eq_true.1 h5) q hmem
        simpa using this

theorem chkB_ok {all : List Ent} : ∀ {rest done : List Ent}, chkB ops all done rest = true → ∀ A x B, rest = A ++ x :: B → EntOk ops all (done ++ A) x B
  | [], _, _, A, x, B, h => by simp at h
  | y :: rest, done, h, A, x, B, hs => by
    simp only [chkB, Bool.and_eq_true] at h
    cases A with
    | nil =>
      simp only [List.nil_append, List.cons.injEq] at hs
      obtain ⟨rfl, rfl⟩ := hs
      rw [List.append_nil]
      exact entB_ok h.1
    | cons a A =>
      simp only [List.cons_append, List.cons.injEq] at hs
      obtain ⟨rfl, rfl⟩ := hs
      have := chkB_ok h.2 A x B rfl
      rwa [List.append_assoc] at this

theorem compDr_ok {es : List Ent} (h : compDr P n ops = some es) : AllOk P ops n es := by
  unfold compDr at h
  split at h
  · rename_i ins hins
    simp only at h
    split at h
    · rename_i hb
      obtain rfl := Option.some.inj h
      simp only [Bool.and_eq_true] at hb
      obtain ⟨⟨h1, h2⟩, h3⟩ := hb
      refine ⟨nodupB_ok h1, fun k hk => ?_, fun m hm => ?_, fun A x B hs => ?_⟩
      · have := (List.all_eq_true.1 h2) k (List.mem_range.2 hk)
        obtain ⟨m, hm, hj⟩ := List.any_eq_true.1 this
        exact ⟨m, hm, by simpa using hj⟩
      · obtain ⟨o, c, ho, hc, hcc⟩ := insL_mem hins _ (ordr_mem _ (entsOf_mem m hm))
        exact ⟨o, c, ho, hc, hcc⟩
      · have := chkB_ok h3 A x B hs
        simpa using this
    · cases h
  · cases h
end
end Go.Ab
