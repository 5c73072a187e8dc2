/- The operations of our logic: a compact instruction for each operation of the model, what it does to abstract values, and that the model's operation does just that. Conditions: none (a library of lemmas). -/
import Derived.Test.YtleilaipdhmgeaaAbA
import Derived.Laws.Entries
import Derived.Laws.Strings
import Derived.Laws.Build
set_option linter.unusedSimpArgs false
set_option linter.unusedVariables false
set_option linter.defProp false
namespace Go.Ab

abbrev Env := List (Nat × V)
def eget : Env → Nat → Option V
  | [], _ => none
  | (k, u) :: e, n => if n = k then some u else eget e n
inductive O where
  | t (k : Nat)
  | c (v : V)
  | m (k : Nat) (name : String)
def opv (e : Env) : O → Option V
  | .t k => eget e k
  | .c v => some v
  | .m _ _ => none
def opvs (e : Env) : List O → Option (List V)
  | [] => some []
  | o :: os => match opv e o, opvs e os with
    | some u, some us => some (u :: us)
    | _, _ => none

/-- The kinds of a flat struct's fields; of a map's keys. -/
inductive SK where
  | int (k : IntKind)
  | bool
  | str
inductive KD where
  | one (s : SK)
  | st (ks : List SK)
inductive I where
  | mv (x : O)
  | pick (c a b : O)
  | new (cs : List V)
  | box (x : O)
  | load (n : Option Nat) (a : O)
  | store (n : Nat) (a x : O)
  | nilCheck (x : O)
  | bin (op : BinOp) (x y : O)
  | eqB (neg : Bool) (x y : O)
  | eqP (neg : Bool) (x y : O)
  | eqS (neg : Bool) (x y : O)
  | un (op : UnOp) (x : O)
  | convInt (k : IntKind) (x : O)
  | sliceStr (x : O) (lo hi : Option O)
  | sliceSl (n : Nat) (x : O) (lo hi : Option O)
  | fieldAddr (off : Nat) (x : O)
  | field (off : Nat) (n : Option Nat) (x : O)
  | indexAddr (n : Nat) (x i : O)
  | index (x i : O)
  | extract (x : O) (k : Nat)
  | len (str : Bool) (x : O)
  | mkSl (sz bys : Nat) (z : List V) (l c : O)
  | lit (how : Option Bool) (sz n : Nat) (z : List V) (parts : List (Nat × O))
  | append (sz bys : Nat) (x y : O)
  | build (z : List V) (parts : List (Nat × Nat × O))
  | convStr (x : O)
  | strBytes (x : O)
  | bytesStr (x : O)
  | mkMap
  | look (kd : KD) (ok : Bool) (z : V) (m k : O)
  | mapUp (kd : KD) (m k v : O)
  | mapEnt (kd : KD) (z : V) (m k : O)
  | entSt (m s v : O)
  | lenM (x : O)
  | eqA (neg : Bool) (ks : List SK) (x y : O)
  | iface (ty : Nat) (x : O)
  | fn (f : FuncId) (caps : List O)
  | copy (sz : Nat) (x y : O)
  | mm (mx : Bool) (x y : O)
  | call (f : O) (args : List O)

/-! ### what the instructions do -/
def cellsOf : V → Option (List V)
  | .agg cs => some cs
  | .tup _ => none
  | u => some [u]
def one : V → Bool
  | .agg _ | .tup _ => false
  | _ => true
/-- A mark that the condition stands open: under a binder it is a variable, and no rule of rewriting fires. -/
inductive Tok where
  | go

/-- A branch. -/
def condP (v : Bool) (A B : Tok → Prop) : Prop := (v = true → A .go) ∧ (v = false → B .go)
theorem condP_true (A B : Tok → Prop) : condP true A B = A .go := by simp [condP]
theorem condP_false (A B : Tok → Prop) : condP false A B = B .go := by simp [condP]
def condV : Option V → (Tok → Prop) → (Tok → Prop) → Prop
  | some (.t (.bool v)), A, B => condP v A B
  | _, _, _ => False
def onV : Option V → (Tok → V → Prop) → Prop
  | some u, K => K .go u
  | none, _ => False

def ldT : Option Nat → List T → (Tok → V → Prop) → Prop
  | none, t :: _, K => K .go (.t t)
  | none, [], _ => False
  | some n, cs, K => n ≤ cs.length ∧ K .go (.agg ((cs.take n).map .t))
def ldV : Option Nat → List V → (Tok → V → Prop) → Prop
  | none, u :: _, K => one u = true ∧ K .go u
  | none, [], _ => False
  | some n, cs, K => n ≤ cs.length ∧ K .go (.agg (cs.take n))
def onBox : Option Obj → (Tok → List V → Prop) → Prop
  | some (.box cs), K => K .go cs
  | _, _ => False
def onSlc : Option Obj → (Tok → Nat → List (List V) → Prop) → Prop
  | some (.slc sz rows), K => K .go sz rows
  | _, _ => False
def onRow {α : Type} : Option α → (Tok → α → Prop) → Prop
  | some r, K => K .go r
  | none, _ => False
def evLoad (n : Option Nat) (σ : Store) : V → (Tok → V → Prop) → Prop
  | .pv cs, K => ldT n cs K
  | .ptr id off, K => onBox σ[id]? fun t cs => ldV n (cs.drop off) fun _ u => K t u
  | .ep id g i j, K => onSlc σ[id]? fun t _ rows => g = rows.length ∧ onRow rows[i]? fun _ r => ldV n (r.drop j) fun _ u => K t u
  | _, _ => False
def putAt (cs : List V) (off : Nat) (us : List V) : List V := cs.take off ++ us ++ cs.drop (off + us.length)
def evStoreTo (n : Nat) (σ : Store) (us : List V) (K : Tok → Store → Prop) : V → Prop
  | .ptr id off => onBox σ[id]? fun t cs => off + n ≤ cs.length ∧ K t (σ.set id (.box (putAt cs off us)))
  | .ep id g i j => onSlc σ[id]? fun t sz rows => g = rows.length ∧ onRow rows[i]? fun _ r => j + n ≤ r.length ∧ K t (σ.set id (.slc sz (rows.set i (putAt r j us))))
  | _ => False
def evStore (n : Nat) (σ : Store) (a u : V) (K : Tok → Store → Prop) : Prop :=
  onRow (cellsOf u) fun t us => us.length = n ∧ us.all one = true ∧ evStoreTo n σ us (fun _ σ' => K t σ') a
def binInt : BinOp → IntKind → Int → Int → (Tok → V → Prop) → Prop
  | .add, k, x, y, K => K .go (.t (.int k (k.wrap (x + y))))
  | .sub, k, x, y, K => K .go (.t (.int k (k.wrap (x - y))))
  | .mul, k, x, y, K => K .go (.t (.int k (k.wrap (x * y))))
  | .quo, k, x, y, K => y ≠ 0 ∧ K .go (.t (.int k (k.wrap (x.tdiv y))))
  | .rem, k, x, y, K => y ≠ 0 ∧ K .go (.t (.int k (x.tmod y)))
  | .and, k, x, y, K => K .go (.t (.int k (bits .and k x y)))
  | .or, k, x, y, K => K .go (.t (.int k (bits .or k x y)))
  | .xor, k, x, y, K => K .go (.t (.int k (bits .xor k x y)))
  | .andNot, k, x, y, K => K .go (.t (.int k (bits .andNot k x y)))
  | .eql, _, x, y, K => K .go (.t (.bool (x == y)))
  | .neq, _, x, y, K => K .go (.t (.bool (x != y)))
  | .lss, _, x, y, K => K .go (.t (.bool (decide (x < y))))
  | .leq, _, x, y, K => K .go (.t (.bool (decide (x ≤ y))))
  | .gtr, _, x, y, K => K .go (.t (.bool (decide (x > y))))
  | .geq, _, x, y, K => K .go (.t (.bool (decide (x ≥ y))))
  | .shl, _, _, _, _ => False
  | .shr, _, _, _, _ => False
def shInt : BinOp → IntKind → Int → Int → (Tok → V → Prop) → Prop
  | .shl, k, x, y, K => 0 ≤ y ∧ K .go (.t (.int k (k.wrap (x * 2 ^ (min y.toNat k.bits)))))
  | .shr, k, x, y, K => 0 ≤ y ∧ K .go (.t (.int k (x.fdiv (2 ^ (min y.toNat k.bits)))))
  | _, _, _, _, _ => False
def isSh : BinOp → Bool
  | .shl | .shr => true
  | _ => false
def binStr : BinOp → List UInt8 → List UInt8 → (Tok → V → Prop) → Prop
  | .add, x, y, K => ((x.length + y.length : Nat) : Int) ≤ 9223372036854775807 ∧ K .go (.t (.str (x ++ y)))
  | .eql, x, y, K => K .go (.t (.bool (x == y)))
  | .neq, x, y, K => K .go (.t (.bool (!(x == y))))
  | .lss, x, y, K => K .go (.t (.bool (Op.bytesLess x y)))
  | .leq, x, y, K => K .go (.t (.bool (Op.bytesLess x y || x == y)))
  | .gtr, x, y, K => K .go (.t (.bool (!(Op.bytesLess x y || x == y))))
  | .geq, x, y, K => K .go (.t (.bool (!Op.bytesLess x y)))
  | _, _, _, _ => False
def evBin (op : BinOp) : V → V → (Tok → V → Prop) → Prop
  | .t (.int k x), .t (.int k' y), K => if isSh op = true then shInt op k x y K else k = k' ∧ binInt op k x y K
  | .t (.str x), .t (.str y), K => binStr op x y K
  | _, _, _ => False
def isNilP : V → Option Bool
  | .nilp => some true
  | .pv _ | .ptr _ _ | .ep _ _ _ _ => some false
  | _ => none
def isNilS : V → Option Bool
  | .nils => some true
  | .t (.lst _ (_ :: _)) => some false
  | .rows _ (_ :: _) => some false
  | _ => none
def nilK : Option Bool → Option Bool → Bool → (Tok → V → Prop) → Prop
  | some true, some r, neg, K => K .go (.t (.bool (if neg then !r else r)))
  | some r, some true, neg, K => K .go (.t (.bool (if neg then !r else r)))
  | _, _, _, _ => False
def evNil (f : V → Option Bool) (neg : Bool) (a b : V) (K : Tok → V → Prop) : Prop := nilK (f a) (f b) neg K
def evUn : UnOp → V → (Tok → V → Prop) → Prop
  | .neg, .t (.int k n), K => K .go (.t (.int k (k.wrap (0 - n))))
  | .xor, .t (.int k n), K => K .go (.t (.int k (bits .xor k (if k.signed then -1 else k.max) n)))
  | .not, .t (.bool b), K => K .go (.t (.bool (!b)))
  | _, _, _ => False
def bndV : Option V → (Tok → Nat → Prop) → Prop
  | some (.t (.int _ i)), K => 0 ≤ i ∧ K .go i.toNat
  | _, _ => False
/-- The bounds of a slice expression: l, h with 0 ≤ l ≤ h ≤ n. -/
def bnd (e : Env) : Option O → Nat → (Tok → Nat → Prop) → Prop
  | none, d, K => K .go d
  | some o, _, K => bndV (opv e o) K
def evSlice (e : Env) (n : Nat) (lo hi : Option O) (K : Tok → Nat → Nat → Prop) : Prop :=
  bnd e hi n fun t h => h ≤ n ∧ bnd e lo 0 fun _ l => l ≤ h ∧ K t l h
def evFieldAddr (off : Nat) : V → (Tok → V → Prop) → Prop
  | .pv cs, K => K .go (.pv (cs.drop off))
  | .ptr id o, K => K .go (.ptr id (o + off))
  | .ep id g i j, K => K .go (.ep id g i (j + off))
  | _, _ => False
def evIndexAddr (n : Nat) (σ : Store) : V → V → (Tok → V → Prop) → Prop
  | .t (.lst sz rows), .t (.int _ i), K => sz = n ∧ 0 ≤ i ∧ onRow rows[i.toNat]? fun t r => K t (.pv r)
  | .sl id g off len, .t (.int _ i), K => onSlc σ[id]? fun t sz rows => sz = n ∧ g = rows.length ∧ 0 ≤ i ∧ i < len ∧ K t (.ep id g (off + i.toNat) 0)
  | _, _, _ => False
def evIndex : V → V → (Tok → V → Prop) → Prop
  | .t (.str s), .t (.int _ n), K => 0 ≤ n ∧ onRow s[n.toNat]? fun t b => K t (.t (.int .u8 b.toNat))
  | _, _, _ => False
def lenStr : V → Option Nat
  | .t (.str s) => some s.length
  | _ => none
def lenSl : V → Option Nat
  | .t (.lst _ rows) => some rows.length
  | .nils => some 0
  | .sl _ _ _ len => some len
  | .rows _ rs => some rs.length
  | _ => none
def nilChk : V → (Tok → V → Prop) → Prop
  | .pv cs, K => K .go (.pv cs)
  | .ptr id off, K => K .go (.ptr id off)
  | .ep id g i j, K => K .go (.ep id g i j)
  | _, _ => False
def evEqB (neg : Bool) : V → V → (Tok → V → Prop) → Prop
  | .t (.bool p), .t (.bool q), K => K .go (.t (.bool (if neg then !(p == q) else (p == q))))
  | _, _, _ => False
def evConv (k : IntKind) : V → (Tok → V → Prop) → Prop
  | .t (.int _ n), K => K .go (.t (.int k (k.wrap n)))
  | _, _ => False
def evConvStr : V → (Tok → V → Prop) → Prop
  | .t (.str s), K => K .go (.t (.str s))
  | _, _ => False
def evSliceStr (e : Env) (lo hi : Option O) : V → (Tok → V → Prop) → Prop
  | .t (.str s), K => evSlice e s.length lo hi fun t l h => K t (.t (.str ((s.take h).drop l)))
  | _, _ => False
def evSliceSl (e : Env) (n : Nat) (lo hi : Option O) (σ : Store) : V → (Tok → V → Prop) → Prop
  | .t (.lst sz rows), K => sz = n ∧ evSlice e rows.length lo hi fun t l h => K t (.t (.lst sz ((rows.take h).drop l)))
  | .nils, K => evSlice e 0 lo hi fun t _ _ => K t .nils
  | .sl id g off len, K => onSlc σ[id]? fun _ sz rows => sz = n ∧ g = rows.length ∧ evSlice e len lo hi fun t l h => K t (.sl id g (off + l) (h - l))
  | _, _ => False
def evField (off : Nat) (n : Option Nat) : V → (Tok → V → Prop) → Prop
  | .agg cs, K => ldV n (cs.drop off) K
  | _, _ => False
def evExtract (k : Nat) : V → (Tok → V → Prop) → Prop
  | .tup us, K => onV us[k]? K
  | _, _ => False

def maxBy : Nat := 140737488355328
def evMkSl (sz bys : Nat) (z : List V) (σ : Store) : V → V → (Tok → V → Store → Prop) → Prop
  | .t (.int _ n), .t (.int _ m), K => 0 ≤ n ∧ n ≤ m ∧ m ≤ 9223372036854775807 ∧ (bys : Int) * m ≤ 140737488355328 ∧ K .go (.sl σ.length n.toNat 0 n.toNat) (σ ++ [.slc sz (List.replicate n.toNat z)])
  | _, _, _ => False
/-- The elements of a slice. -/
def rowsOf (σ : Store) (sz : Nat) : V → Option (List (List V))
  | .nils => some []
  | .t (.lst s rows) => if s = sz then some (rows.map fun r => r.map .t) else none
  | .rows s rs => if s = sz ∧ (rs.all fun r => r.all one) = true then some rs else none
  | .sl id g off len => match σ[id]? with
    | some (.slc s rows) => if s = sz ∧ g = rows.length then some ((rows.drop off).take len) else none
    | _ => none
  | _ => none
def evAppend (sz bys : Nat) (σ : Store) (rs : List (List V)) : V → (Tok → V → Store → Prop) → Prop
  | .nils, K => rs.length * bys ≤ maxBy ∧ rs.length ≤ 9223372036854775807 ∧ K .go (.sl σ.length rs.length 0 rs.length) (σ ++ [.slc sz rs])
  | .sl id g off len, K => onSlc σ[id]? fun t s rows => s = sz ∧ g = rows.length ∧ off = 0 ∧ len = rows.length ∧ (rows.length + rs.length) * bys ≤ maxBy ∧ rows.length + rs.length ≤ 9223372036854775807 ∧
      K t (.sl id (rows.length + rs.length) 0 (rows.length + rs.length)) (σ.set id (.slc sz (rows ++ rs)))
  | _, _ => False
def fillV (e : Env) : Tok → List V → List (Nat × Nat × O) → (Tok → List V → Prop) → Prop
  | t, cs, [], K => K t cs
  | _, cs, (off, sz, o) :: ps, K => onV (opv e o) fun t u => onRow (cellsOf u) fun _ us => us.length = sz ∧ off + sz ≤ cs.length ∧ fillV e t (putAt cs off us) ps K
def litRows (e : Env) (sz : Nat) : Tok → List (List V) → List (Nat × O) → (Tok → List (List V) → Prop) → Prop
  | t, rs, [], K => K t rs
  | _, rs, (i, o) :: ps, K => onV (opv e o) fun t u => onRow (cellsOf u) fun _ us => us.length = sz ∧ us.all one = true ∧ i < rs.length ∧ litRows e sz t (rs.set i us) ps K
def litK (sz : Nat) (σ : Store) (rs : List (List V)) (K : Tok → V → Store → Prop) (t : Tok) : Bool → Prop
  | false => K t (.rows sz rs) σ
  | true => K t (.sl σ.length rs.length 0 rs.length) (σ ++ [.slc sz rs])
def litHow (K : Bool → Prop) : Option Bool → Prop
  | none => ∃ b, K b
  | some b => K b
def bytesOf : List (List V) → Option (List UInt8)
  | [] => some []
  | [.t (.int .u8 n)] :: rs => (bytesOf rs).map (UInt8.ofNat n.toNat :: ·)
  | _ => none
def byteRows (s : List UInt8) : List (List V) := s.map fun b => [.t (.int .u8 b.toNat)]
def evStrBytes (σ : Store) : V → (Tok → V → Store → Prop) → Prop
  | .t (.str s), K => K .go (.sl σ.length s.length 0 s.length) (σ ++ [.slc 1 (byteRows s)])
  | _, _ => False

/-! ### maps, structs that are compared, interface values, functions -/
def SK.fit : SK → V → Bool
  | .int k, .t (.int k' _) => decide (k = k')
  | .bool, .t (.bool _) => true
  | .str, .t (.str _) => true
  | _, _ => false
def fits : List SK → List V → Bool
  | [], [] => true
  | k :: ks, u :: us => k.fit u && fits ks us
  | _, _ => false
def KD.ok : KD → V → Bool
  | .one s, u => s.fit u
  | .st ks, .agg us => fits ks us
  | _, _ => false
def sEq : V → V → Bool
  | .t (.int _ a), .t (.int _ b) => a == b
  | .t (.bool a), .t (.bool b) => a == b
  | .t (.str a), .t (.str b) => a == b
  | _, _ => false
def sEqs : List V → List V → Bool
  | [], [] => true
  | a :: as, b :: bs => sEq a b && sEqs as bs
  | _, _ => false
def kEq : V → V → Bool
  | .agg as, .agg bs => sEqs as bs
  | a, b => sEq a b
def findM (k : V) : List ME → Option ME
  | [] => none
  | e :: es => if kEq k e.k = true then some e else findM k es
def putM (k v : V) (c : Nat) : List ME → List ME
  | [] => [⟨k, v, c⟩]
  | e :: es => if kEq k e.k = true then ⟨k, v, e.b⟩ :: es else e :: putM k v c es
def clkM (k : V) (c : Nat) (es : List ME) : Nat := if (findM k es).isSome = true then c else c + 1
def storeM (s : Int) (x : V) : List ME → Option (List ME)
  | [] => none
  | e :: es => if ((e.b : Int) == s) = true then some (⟨e.k, x, e.b⟩ :: es) else (storeM s x es).map (e :: ·)
def onMap : Option Obj → (Tok → Nat → List ME → Prop) → Prop
  | some (.map c es), K => K .go c es
  | _, _ => False
def keysOk (kd : KD) (es : List ME) : Bool := es.all fun e => kd.ok e.k
def valOr (z : V) : Option ME → V
  | some e => e.v
  | none => z
def bornOr (c : Nat) : Option ME → Nat
  | some e => e.b
  | none => c
def lookR (ok : Bool) (z : V) (r : Option ME) : V := if ok = true then .tup [valOr z r, .t (.bool r.isSome)] else valOr z r
def evLook (kd : KD) (ok : Bool) (z : V) (σ : Store) : V → V → (Tok → V → Prop) → Prop
  | .map id, k, K => onMap σ[id]? fun t _ es => kd.ok k = true ∧ keysOk kd es = true ∧ K t (lookR ok z (findM k es))
  | _, _, _ => False
def evMapUp (kd : KD) (σ : Store) : V → V → V → (Tok → Store → Prop) → Prop
  | .map id, k, v, K => onMap σ[id]? fun t c es => kd.ok k = true ∧ keysOk kd es = true ∧ K t (σ.set id (.map (clkM k c es) (putM k v c es)))
  | _, _, _, _ => False
def evMapEnt (kd : KD) (z : V) (σ : Store) : V → V → (Tok → V → Store → Prop) → Prop
  | .map id, k, K => onMap σ[id]? fun t c es => kd.ok k = true ∧ keysOk kd es = true ∧
      K t (.tup [valOr z (findM k es), .t (.int .i64 (bornOr c (findM k es) : Nat))]) (σ.set id (.map (clkM k c es) (putM k (valOr z (findM k es)) c es)))
  | _, _, _ => False
def evEntSt (σ : Store) : V → V → V → (Tok → Store → Prop) → Prop
  | .map id, .t (.int _ s), x, K => onMap σ[id]? fun t c es => onRow (storeM s x es) fun _ es' => K t (σ.set id (.map c es'))
  | _, _, _, _ => False
def evLenM (σ : Store) : V → (Tok → V → Prop) → Prop
  | .map id, K => onMap σ[id]? fun t _ es => K t (.t (.int .i64 (es.length : Nat)))
  | _, _ => False
def evEqA (neg : Bool) (ks : List SK) : V → V → (Tok → V → Prop) → Prop
  | .agg as, .agg bs, K => fits ks as = true ∧ fits ks bs = true ∧ K .go (.t (.bool (if neg then !sEqs as bs else sEqs as bs)))
  | _, _, _ => False
def evCopy (sz : Nat) (σ : Store) (rs : List (List V)) : V → (Tok → V → Store → Prop) → Prop
  | .sl id g off len, K => onSlc σ[id]? fun t s rows => s = sz ∧ g = rows.length ∧ 0 < min rs.length len ∧
      K t (.t (.int .i64 ((min rs.length len : Nat) : Int))) (σ.set id (.slc sz (rows.take off ++ rs.take (min rs.length len) ++ rows.drop (off + min rs.length len))))
  | _, _ => False
def evMM (mx : Bool) : V → V → (Tok → V → Prop) → Prop
  | .t (.int k x), .t (.int _ y), K => K .go (.t (.int k (if mx then (if y > x then y else x) else (if y < x then y else x))))
  | _, _, _ => False
def onVs : Option (List V) → (Tok → List V → Prop) → Prop
  | some us, K => K .go us
  | none, _ => False

/-- What an instruction other than a call does. -/
def ev (e : Env) (σ : Store) (K : Tok → Option V → Store → Prop) : I → Prop
  | .mv x => onV (opv e x) fun t u => K t (some u) σ
  | .pick c a b => condV (opv e c) (fun t => onV (opv e a) fun _ u => K t (some u) σ) (fun t => onV (opv e b) fun _ u => K t (some u) σ)
  | .new cs => K .go (some (.ptr σ.length 0)) (σ ++ [.box cs])
  | .box x => onV (opv e x) fun t u => onRow (cellsOf u) fun _ cs => K t (some (.ptr σ.length 0)) (σ ++ [.box cs])
  | .load n a => onV (opv e a) fun t a => evLoad n σ a fun _ u => K t (some u) σ
  | .store n a x => onV (opv e a) fun t a => onV (opv e x) fun _ u => evStore n σ a u fun _ σ' => K t none σ'
  | .nilCheck x => onV (opv e x) fun t u => nilChk u fun _ u => K t (some u) σ
  | .bin op x y => onV (opv e x) fun t a => onV (opv e y) fun _ b => evBin op a b fun _ u => K t (some u) σ
  | .eqB neg x y => onV (opv e x) fun t a => onV (opv e y) fun _ b => evEqB neg a b fun _ u => K t (some u) σ
  | .eqP neg x y => onV (opv e x) fun t a => onV (opv e y) fun _ b => evNil isNilP neg a b fun _ u => K t (some u) σ
  | .eqS neg x y => onV (opv e x) fun t a => onV (opv e y) fun _ b => evNil isNilS neg a b fun _ u => K t (some u) σ
  | .un op x => onV (opv e x) fun t a => evUn op a fun _ u => K t (some u) σ
  | .convInt k x => onV (opv e x) fun t a => evConv k a fun _ u => K t (some u) σ
  | .sliceStr x lo hi => onV (opv e x) fun t a => evSliceStr e lo hi a fun _ u => K t (some u) σ
  | .sliceSl n x lo hi => onV (opv e x) fun t a => evSliceSl e n lo hi σ a fun _ u => K t (some u) σ
  | .fieldAddr off x => onV (opv e x) fun t a => evFieldAddr off a fun _ u => K t (some u) σ
  | .field off n x => onV (opv e x) fun t a => evField off n a fun _ u => K t (some u) σ
  | .indexAddr n x i => onV (opv e x) fun t a => onV (opv e i) fun _ i => evIndexAddr n σ a i fun _ u => K t (some u) σ
  | .index x i => onV (opv e x) fun t a => onV (opv e i) fun _ i => evIndex a i fun _ u => K t (some u) σ
  | .extract x k => onV (opv e x) fun t a => evExtract k a fun _ u => K t (some u) σ
  | .len b x => onV (opv e x) fun t a => onRow (if b then lenStr a else lenSl a) fun _ n => K t (some (.t (.int .i64 n))) σ
  | .mkSl sz bys z l c => onV (opv e l) fun t a => onV (opv e c) fun _ b => evMkSl sz bys z σ a b fun _ u σ' => K t (some u) σ'
  | .lit how sz n z ps => litRows e sz .go (List.replicate n z) ps fun t rs => litHow (litK sz σ rs (fun t u σ' => K t (some u) σ') t) how
  | .append sz bys x y => onV (opv e x) fun t a => onV (opv e y) fun _ b => onRow (rowsOf σ sz b) fun _ rs => evAppend sz bys σ rs a fun _ u σ' => K t (some u) σ'
  | .build z ps => fillV e .go z ps fun t cs => K t (some (.agg cs)) σ
  | .convStr x => onV (opv e x) fun t a => evConvStr a fun _ u => K t (some u) σ
  | .strBytes x => onV (opv e x) fun t a => evStrBytes σ a fun _ u σ' => K t (some u) σ'
  | .bytesStr x => onV (opv e x) fun t a => onRow (rowsOf σ 1 a) fun _ rs => onRow (bytesOf rs) fun _ s => K t (some (.t (.str s))) σ
  | .mkMap => K .go (some (.map σ.length)) (σ ++ [.map 0 []])
  | .look kd ok z m k => onV (opv e m) fun t a => onV (opv e k) fun _ b => evLook kd ok z σ a b fun _ u => K t (some u) σ
  | .mapUp kd m k v => onV (opv e m) fun t a => onV (opv e k) fun _ b => onV (opv e v) fun _ c => evMapUp kd σ a b c fun _ σ' => K t none σ'
  | .mapEnt kd z m k => onV (opv e m) fun t a => onV (opv e k) fun _ b => evMapEnt kd z σ a b fun _ u σ' => K t (some u) σ'
  | .entSt m s v => onV (opv e m) fun t a => onV (opv e s) fun _ b => onV (opv e v) fun _ c => evEntSt σ a b c fun _ σ' => K t none σ'
  | .lenM x => onV (opv e x) fun t a => evLenM σ a fun _ u => K t (some u) σ
  | .eqA neg ks x y => onV (opv e x) fun t a => onV (opv e y) fun _ b => evEqA neg ks a b fun _ u => K t (some u) σ
  | .iface ty x => onV (opv e x) fun t a => K t (some (.iface ty a)) σ
  | .fn f caps => onVs (opvs e caps) fun t us => K t (some (.fn (.func f) us)) σ
  | .copy sz x y => onV (opv e x) fun t a => onV (opv e y) fun _ b => onRow (rowsOf σ sz b) fun _ rs => evCopy sz σ rs a fun _ u σ' => K t (some u) σ'
  | .mm mx x y => onV (opv e x) fun t a => onV (opv e y) fun _ b => evMM mx a b fun _ u => K t (some u) σ
  | .call _ _ => False

/-! ### from the model's operations -/
def cV0 : Value → Option V
  | .int k n => some (.t (.int k n))
  | .bool b => some (.t (.bool b))
  | .string s => some (.t (.str s.data.toList))
  | .slice none 0 0 => some .nils
  | .pointer none => some .nilp
  | .nilFunc => some .nilf
  | .nilIface => some .nili
  | _ => none
def cVs : List Value → Option (List V)
  | [] => some []
  | v :: vs => match cV0 v, cVs vs with
    | some u, some us => some (u :: us)
    | _, _ => none
def cV : Value → Option V
  | .agg cs => (cVs cs.toList).map .agg
  | v => cV0 v
def cO : Operand → Option O
  | .tmp t => some (.t t)
  | .const v => (cV v).map .c
  | .func f => some (.c (.fn (.func f) []))
  | .global _ => none
def cOs : List Operand → Option (List O)
  | [] => some []
  | o :: os => match cO o, cOs os with
    | some u, some us => some (u :: us)
    | _, _ => none
def isAggD : TypeDesc → Bool
  | .struct _ | .array _ _ => true
  | _ => false
/-- How many cells a load or a part takes: none is one cell that is no struct or array. -/
def spanOf (P : Program) (t : TypeId) : Option (Option Nat) :=
  match P.underlying t, P.info? t with
  | some d, some i => some (if isAggD d then some i.size else none)
  | _, _ => none
def fieldOf (P : Program) (s : TypeId) (f : Nat) : Option (Nat × TypeId × Nat) :=
  match P.underlying s with
  | some (.struct fs) => match fs[f]? with
    | some f => match P.info? f.type with
      | some i => some (f.offset, f.type, i.size)
      | none => none
    | none => none
  | _ => none
def cOo : Option Operand → Option (Option O)
  | none => some none
  | some o => (cO o).map some

def partsOf : List (Nat × Operand) → Option (List (Nat × O))
  | [] => some []
  | (i, p) :: ps => match cO p, partsOf ps with
    | some o, some os => some ((i, o) :: os)
    | _, _ => none
def placesOf (places : List (Nat × Nat)) : List (Nat × O) → Option (List (Nat × Nat × O))
  | [] => some []
  | (i, o) :: ps => match places[i]?, placesOf places ps with
    | some (off, sz), some os => some ((off, sz, o) :: os)
    | _, _ => none
def fieldPlaces (P : Program) (fs : Array Field) : Option (List (Nat × Nat)) := fs.toList.mapM fun f => (P.info? f.type).map fun i => (f.offset, i.size)
/-- The zero cells of an element. -/
def zeroOf (i : TypeInfo) : Option (List V) :=
  match i.zero with
  | some z => match cVs z.cells.toList with
    | some cs => if cs.length = i.size ∧ 0 < i.size ∧ 0 < i.bytes then some cs else none
    | none => none
  | none => none
def skOf (P : Program) (t : TypeId) : Option SK :=
  match P.underlying t with
  | some (.int k) => some (.int k)
  | some .bool => some .bool
  | some .string => some .str
  | _ => none
/-- A struct of scalars alone, a cell each. -/
def sksOf (P : Program) : Nat → List Field → Option (List SK)
  | _, [] => some []
  | i, f :: fs => match skOf P f.type, sksOf P (i + 1) fs with
    | some k, some ks => if f.offset = i ∧ (f.name != "_") = true then some (k :: ks) else none
    | _, _ => none
def flatOf (P : Program) (t : TypeId) : Option (List SK) :=
  match P.underlying t with
  | some (.struct fs) => if P.stoodInHeld t = false then sksOf P 0 fs.toList else none
  | _ => none
def kdOf (P : Program) (t : TypeId) : Option KD :=
  match P.underlying t with
  | some (.int k) => some (.one (.int k))
  | some .string => some (.one .str)
  | some (.struct _) => (flatOf P t).map .st
  | _ => none
def zeroV (P : Program) (t : TypeId) : Option V :=
  match P.info? t with
  | some i => match i.zero with
    | some z => cV z
    | none => none
  | none => none
def cI (P : Program) : Op → Option I
  | .move x | .assign x => (cO x).map .mv
  | .pick c a b => match cO c, cO a, cO b with
    | some c, some a, some b => some (.pick c a b)
    | _, _, _ => none
  | .alloc t => match P.info? t with
    | some i => match i.zero with
      | some z => (cVs z.cells.toList).map .new
      | none => none
    | none => none
  | .box _ x => (cO x).map .box
  | .load t a => match spanOf P t, cO a with
    | some n, some a => some (.load n a)
    | _, _ => none
  | .store t a x => match P.info? t, cO a, cO x with
    | some i, some a, some x => some (.store i.size a x)
    | _, _, _ => none
  | .nilCheck x => (cO x).map .nilCheck
  | .binOp op t x y _ => match cO x, cO y with
    | some a, some b => match P.underlying t, op with
      | some (.int _), op => some (.bin op a b)
      | some .string, op => some (.bin op a b)
      | some .bool, .eql => some (.eqB false a b)
      | some .bool, .neq => some (.eqB true a b)
      | some (.pointer _), .eql => some (.eqP false a b)
      | some (.pointer _), .neq => some (.eqP true a b)
      | some (.slice _), .eql => some (.eqS false a b)
      | some (.slice _), .neq => some (.eqS true a b)
      | some (.struct _), .eql => if P.eqGuardType P.depth t = false then (flatOf P t).map fun ks => .eqA false ks a b else none
      | some (.struct _), .neq => if P.eqGuardType P.depth t = false then (flatOf P t).map fun ks => .eqA true ks a b else none
      | _, _ => none
    | _, _ => none
  | .unOp op _ x => (cO x).map (.un op)
  | .convert src dst x => match P.underlying src, P.underlying dst, cO x with
    | some (.int _), some (.int k), some x => some (.convInt k x)
    | some .string, some .string, some x => some (.convStr x)
    | some .string, some (.slice e), some x => match P.underlying e with
      | some (.int .u8) => some (.strBytes x)
      | _ => none
    | some (.slice e), some .string, some x => match P.underlying e with
      | some (.int .u8) => some (.bytesStr x)
      | _ => none
    | _, _, _ => none
  | .makeSlice t l c => match P.underlying t, cO l, cO c with
    | some (.slice e), some l, some c => match P.info? e with
      | some i => (zeroOf i).map fun z => .mkSl i.size i.bytes z l c
      | none => none
    | _, _, _ => none
  | .buildSlice t n ps => match P.underlying t, partsOf ps.toList with
    | some (.slice e), some ps => match P.info? e with
      | some i => match zeroOf i with
        | some z => if n * i.size ≤ 16777216 then some (.lit none i.size n z ps) else none
        | none => none
      | none => none
    | _, _ => none
  | .build t ps => match P.underlying t, P.info? t, partsOf ps.toList with
    | some (.struct fs), some i, some ps => match i.zero, fieldPlaces P fs with
      | some z, some pl => match cVs z.cells.toList, placesOf pl ps with
        | some z, some qs => some (.build z qs)
        | _, _ => none
      | _, _ => none
    | _, _, _ => none
  | .slice t x lo hi none => match P.underlying t, cO x, cOo lo, cOo hi with
    | some .string, some x, some lo, some hi => some (.sliceStr x lo hi)
    | some (.slice e), some x, some lo, some hi => match P.info? e with
      | some i => some (.sliceSl i.size x lo hi)
      | none => none
    | _, _, _, _ => none
  | .fieldAddr s x f => match fieldOf P s f, cO x with
    | some (off, _, n), some x => if n = 0 then none else some (.fieldAddr off x)
    | _, _ => none
  | .field s x f => match fieldOf P s f, cO x with
    | some (off, t, _), some x => (spanOf P t).map fun n => .field off n x
    | _, _ => none
  | .indexAddr t x i => match P.underlying t, cO x, cO i with
    | some (.slice e), some x, some i => match P.info? e with
      | some j => some (.indexAddr j.size x i)
      | none => none
    | _, _, _ => none
  | .index t x i => match P.underlying t, cO x, cO i with
    | some .string, some x, some i => some (.index x i)
    | _, _, _ => none
  | .extract x k => (cO x).map (.extract · k)
  | .makeMap _ none => some .mkMap
  | .lookup t x k ok => match P.underlying t, cO x, cO k with
    | some (.map kt et), some x, some k => match kdOf P kt, zeroV P et with
      | some kd, some z => some (.look kd ok z x k)
      | _, _ => none
    | _, _, _ => none
  | .mapUpdate t x k v | .insert t x k v => match P.underlying t, cO x, cO k, cO v with
    | some (.map kt _), some x, some k, some v => (kdOf P kt).map fun kd => .mapUp kd x k v
    | _, _, _, _ => none
  | .mapEntry t x k => match P.underlying t, cO x, cO k with
    | some (.map kt et), some x, some k => match kdOf P kt, zeroV P et with
      | some kd, some z => some (.mapEnt kd z x k)
      | _, _ => none
    | _, _, _ => none
  | .entryStore _ x s v => match cO x, cO s, cO v with
    | some x, some s, some v => some (.entSt x s v)
    | _, _, _ => none
  | .makeInterface t x => match P.underlying t, cO x with
    | some (.interface _), _ => none
    | some _, some x => some (.iface t x)
    | _, _ => none
  | .makeFunc (.func f) first caps => if first.isEmpty then (cOs caps.toList).map (.fn f) else none
  | .call c => match c.callee with
    | .builtin .len => match c.args.toList, c.argTypes.toList with
      | [x], [t] => match P.underlying t, cO x with
        | some .string, some x => some (.len true x)
        | some (.slice _), some x => some (.len false x)
        | some (.map _ _), some x => some (.lenM x)
        | _, _ => none
      | _, _ => none
    | .builtin .append => match c.args.toList, c.argTypes.toList with
      | [x, y], [t, t'] => match P.underlying t, cO x, cO y with
        | some (.slice e), some x, some y => match P.info? e with
          | some i => match zeroOf i with
            | some _ => if t = t' then some (.append i.size i.bytes x y) else none
            | none => none
          | none => none
        | _, _, _ => none
      | _, _ => none
    | .builtin .copy => match c.args.toList, c.argTypes.toList with
      | [x, y], [t, t'] => match P.underlying t, P.underlying t', cO x, cO y with
        | some (.slice e), some (.slice _), some x, some y => match P.info? e with
          | some i => if 0 < i.size then some (.copy i.size x y) else none
          | none => none
        | _, _, _, _ => none
      | _, _ => none
    | .builtin .max => match c.args.toList with
      | [x, y] => match cO x, cO y with
        | some x, some y => some (.mm true x y)
        | _, _ => none
      | _ => none
    | .builtin .min => match c.args.toList with
      | [x, y] => match cO x, cO y with
        | some x, some y => some (.mm false x y)
        | _, _ => none
      | _ => none
    | .invoke (.tmp k) name => (cOs c.args.toList).map (.call (.m k name))
    | .value f => match cO f, cOs c.args.toList with
      | some f, some as => some (.call f as)
      | _, _ => none
    | _ => none
  | _ => none

end Go.Ab
