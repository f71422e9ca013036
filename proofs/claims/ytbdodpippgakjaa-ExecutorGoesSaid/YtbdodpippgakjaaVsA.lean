/- This text proves a part of what the claim needs: the data of a small logic of abstract states, and what each operation does to them. No condition. -/
import Derived.Calls
import Derived.Orders
import Derived.Laws.AppendOwn
import Derived.Laws.Cells
import Derived.IntWalk
set_option linter.unusedSimpArgs false
set_option linter.unusedVariables false

/- The data of a small logic of abstract states: read-only data (D), cells (C), slot values (V), blocks, operation programs, and their reading. -/
namespace Go.Vs

/-- Data that nobody writes any more: numbers, strings, slices by their elements (each a list of cells), pointers by what stands from there on. -/
inductive D where
  | bool (b : Bool)
  | int (k : IntKind) (n : Int)
  | str (s : ByteArray)
  | nilSl | nilMap | nilFn | nilPtr
  | sl (esz : Nat) (elems : List (List D))
  /-- an empty slice that is not nil -/
  | slE (esz : Nat)
  | fp (cells : List D)
  | fn (f : Nat) (cap : List D)
  | mp (es : List (D × D))
  deriving Inhabited

/-- A cell: data, or a road to a block of the call's own. -/
inductive C where
  | d (x : D)
  | ref (b g off n : Nat)
  | bref (b off n esz : Nat)
  | ptr (b off : Nat)
  | eptr (b g i off : Nat)
  | mref (b : Nat)
  | fn (f : Nat) (cap : List C)
  /-- data that is lent: it is read, but not kept (true: it lies in blocks of the caller's) -/
  | cd (k : Bool) (x : D)
  | junk
  deriving Inhabited

/-- What a slot holds. -/
inductive V where
  | c (x : C)
  | agg (cells : List C)
  | tup (vs : List V)
  | junk
  deriving Inhabited

/-- A pure argument or result. -/
inductive PV where
  | c (x : D)
  | agg (cells : List D)
  deriving Inhabited

def PV.toV : PV → V
  | .c x => .c (.d x)
  | .agg cs => .agg (cs.map .d)

/-- A block of the call's own. -/
inductive Blk where
  | box (cells : List C)
  | sl (esz : Nat) (elems : List (List D)) (fz : Bool)
  | mp (es : List (D × D))
  deriving Inhabited

/-- May it still be written? -/
def Blk.mu : Blk → Bool
  | .sl _ _ fz => !fz
  | _ => true

def look {α : Type} : List (Nat × α) → Nat → Option α
  | [], _ => none
  | (k, v) :: s, j => if k = j then some v else look s j

def setL {α : Type} : List (Nat × α) → Nat → α → List (Nat × α)
  | [], j, v => [(j, v)]
  | (k, u) :: s, j, v => if k = j then (k, v) :: s else (k, u) :: setL s j v

abbrev Tm := List (Nat × V)
abbrev Hp := List (Nat × Blk)

def getV (tm : Tm) (t : Nat) : V := (look tm t).getD .junk

structure St where
  tm : Tm
  hp : Hp
  nx : Nat

/-! ### Types, as the operations ask of them -/

inductive Sh where
  | int (k : IntKind)
  | bool
  | str
  /-- fields: where each begins, how many cells, is it a struct or an array -/
  | strct (fs : List (Nat × Nat × Bool))
  | arr (n esz : Nat) (eagg : Bool)
  | slc (esz ebytes : Nat) (ezero : List D)
  | map (kk : IntKind) (zero : D)
  | unit
  | other
  deriving Inhabited

structure Ty where
  size : Nat
  agg : Bool
  zero : List D
  /-- may its values be compared cell by cell? -/
  eqf : Bool
  sh : Sh
  deriving Inhabited

abbrev Tv := List (Nat × Ty)

/-! ### Programs over the call's own blocks -/

inductive Prog where
  | ret (v : V)
  | get (b : Nat) (k : Blk → Prog)
  | put (b : Nat) (x : Blk) (k : Prog)
  | req (p : Prop) (k : Prog)
  | call (f : Nat) (args : List PV) (br : Bool) (base : Nat)
  | fail

/-- Reads and writes. -/
structure Fp where
  rd : List Nat
  wr : List Nat
  deriving Inhabited

def Fp.nil : Fp := ⟨[], []⟩

/-! ### Constants -/

def D.ofConst : Value → Option D
  | .bool b => some (.bool b)
  | .int k n => some (.int k n)
  | .string s => some (.str s)
  | .slice none 0 0 => some .nilSl
  | .map none => some .nilMap
  | .nilFunc => some .nilFn
  | .pointer none => some .nilPtr
  | _ => none

def V.ofConst (v : Value) : V :=
  match v with
  | .agg cs => match cs.toList.mapM D.ofConst with
    | some ds => .agg (ds.map .d)
    | none => .junk
  | v => match D.ofConst v with
    | some x => .c (.d x)
    | none => .junk

def operV (f : Nat → V) : Operand → V
  | .tmp t => f t
  | .const v => V.ofConst v
  | .global _ => .junk
  | .func f => .c (.d (.fn f []))

/-! ### The pieces of operations -/

def V.cells? : V → Option (List C)
  | .c x => some [x]
  | .agg cs => some cs
  | _ => none

def ofCells (agg : Bool) (cs : List C) : Option V :=
  if agg then some (.agg cs) else match cs with
    | [x] => some (.c x)
    | _ => none

def retO : Option V → Prog
  | some v => .ret v
  | none => .fail

def isFlat : D → Bool
  | .bool _ | .int .. | .str _ | .nilSl | .nilMap | .nilFn | .nilPtr => true
  | _ => false
/-- A cell of what is lent. -/
def lentC (b : Bool) (x : D) : C := if isFlat x then .d x else .cd b x

/-- n cells, read through a pointer. -/
def rd (v : V) (n : Nat) (k : List C → Prog) : Prog :=
  match v with
  | .c (.d (.fp cells)) => .req (n ≤ cells.length) (k ((cells.take n).map .d))
  | .c (.cd b (.fp cells)) => .req (n ≤ cells.length) (k ((cells.take n).map (lentC b)))
  | .c (.ptr b off) => .get b fun
    | .box cs => .req (off + n ≤ cs.length) (k ((cs.drop off).take n))
    | _ => .fail
  | .c (.eptr b g i off) => .get b fun
    | .sl _ es _ => .req (es.length = g) (match es[i]? with
      | some cs => .req (off + n ≤ cs.length) (k (((cs.drop off).take n).map .d))
      | none => .fail)
    | _ => .fail
  | _ => .fail

/-- A pointer or a slice that still leads where it led. -/
def live (v : V) (k : Prog) : Prog :=
  match v with
  | .c (.ptr b _) => .get b fun
    | .box _ => k
    | _ => .fail
  | .c (.bref b _ _ _) => .get b fun
    | .box _ => k
    | _ => .fail
  | .c (.eptr b g _ _) => .get b fun
    | .sl _ es _ => .req (es.length = g) k
    | _ => .fail
  | .c (.d (.fp _)) => k
  | .c (.cd _ (.fp _)) => k
  | _ => .fail

def splice {α : Type} (cs : List α) (off : Nat) (xs : List α) : List α := cs.take off ++ xs ++ cs.drop (off + xs.length)

/-- A cell made into data: a slice of the call's own is never written again. -/
def settle1 (c : C) (k : D → Prog) : Prog :=
  match c with
  | .d x => k x
  | .ref b g off n => .get b fun
    | .sl esz es _ => .req (es.length = g ∧ off + n ≤ g) (.put b (.sl esz es true) (k (.sl esz ((es.drop off).take n))))
    | _ => .fail
  | _ => .fail

def settle : List C → (List D → Prog) → Prog
  | [], k => k []
  | c :: cs, k => settle1 c fun x => settle cs fun xs => k (x :: xs)

def wr (v : V) (xs : List C) : Prog :=
  match v with
  | .c (.ptr b off) => .get b fun
    | .box cs => .req (off + xs.length ≤ cs.length) (.put b (.box (splice cs off xs)) (.ret .junk))
    | _ => .fail
  | .c (.eptr b g i off) => settle xs fun ds => .get b fun
    | .sl esz es false => .req (es.length = g) (match es[i]? with
      | some cs => .req (off + xs.length ≤ cs.length) (.put b (.sl esz (es.set i (splice cs off ds)) false) (.ret .junk))
      | none => .fail)
    | _ => .fail
  | _ => .fail

/-- Cells lent to a call: what is the call's own is read-only for it. The Bool: was anything lent that may be written later? -/
def borL (f : C → (D → Bool → Prog) → Prog) : List C → (List D → Bool → Prog) → Prog
  | [], k => k [] false
  | c :: cs, k => f c fun x b1 => borL f cs fun xs b2 => k (x :: xs) (b1 || b2)

def chunks (esz : Nat) : Nat → List D → List (List D)
  | 0, _ => []
  | n + 1, ds => ds.take esz :: chunks esz n (ds.drop esz)

def borC : Nat → C → (D → Bool → Prog) → Prog
  | 0, _, _ => .fail
  | m + 1, c, k => match c with
    | .d x => k x false
    | .cd _ x => k x true
    | .ref b g off n => .get b fun
      | .sl esz es fz => .req (es.length = g ∧ off + n ≤ g) (k (.sl esz ((es.drop off).take n)) (!fz))
      | _ => .fail
    | .bref b off n esz => .get b fun
      | .box cs => .req (off + n * esz ≤ cs.length) (borL (borC m) ((cs.drop off).take (n * esz)) fun ds _ => k (.sl esz (chunks esz n ds)) true)
      | _ => .fail
    | .ptr b off => .get b fun
      | .box cs => borL (borC m) (cs.drop off) fun ds _ => k (.fp ds) true
      | _ => .fail
    | .mref b => .get b fun
      | .mp es => k (.mp es) true
      | _ => .fail
    | .fn f cap => borL (borC m) cap fun ds br => k (.fn f ds) br
    | _ => .fail

def borV (v : V) (k : PV → Bool → Prog) : Prog :=
  match v with
  | .c x => borC 4 x fun d br => k (.c d) br
  | .agg cs => borL (borC 4) cs fun ds br => k (.agg ds) br
  | _ => .fail

def borVs : List V → (List PV → Bool → Prog) → Prog
  | [], k => k [] false
  | v :: vs, k => borV v fun x b1 => borVs vs fun xs b2 => k (x :: xs) (b1 || b2)

/-- The function and what it captured. -/
def V.fn? : V → Option (Nat × List C)
  | .c (.d (.fn f cap)) => some (f, cap.map .d)
  | .c (.fn f cap) => some (f, cap)
  | _ => none

def fillC (place : Nat → Option (Nat × Nat)) (cells : List C) : List (Nat × V) → Option (List C)
  | [] => some cells
  | (i, v) :: rest => match place i, v.cells? with
    | some (off, size), some xs =>
      if xs.length = size ∧ off + xs.length ≤ cells.length then fillC place (splice cells off xs) rest else none
    | _, _ => none

def strctPlace (fs : List (Nat × Nat × Bool)) (i : Nat) : Option (Nat × Nat) := (fs[i]?).map fun f => (f.1, f.2.1)

/-! ### Comparisons and sums -/

def intOp (op : BinOp) (k : IntKind) (a b : Int) : Option D :=
  match op with
  | .add => some (.int k (k.wrap (a + b)))
  | .sub => some (.int k (k.wrap (a - b)))
  | .mul => some (.int k (k.wrap (a * b)))
  | .eql => some (.bool (decide (a = b)))
  | .neq => some (.bool (!decide (a = b)))
  | .lss => some (.bool (decide (a < b)))
  | .leq => some (.bool (decide (a ≤ b)))
  | .gtr => some (.bool (decide (b < a)))
  | .geq => some (.bool (decide (b ≤ a)))
  | _ => none

/-- Two lists of plain cells (numbers, bools): are they alike? -/
def eqCells : List C → List C → Option Bool
  | [], [] => some true
  | .d (.int k a) :: xs, .d (.int k' b) :: ys => if k = k' then (eqCells xs ys).map fun r => decide (a = b) && r else none
  | .d (.bool a) :: xs, .d (.bool b) :: ys => (eqCells xs ys).map fun r => (a == b) && r
  | _, _ => none

/-- Are the cells of the kinds that a type has? -/
def kindsB : List D → List C → Bool
  | [], [] => true
  | .int k _ :: zs, .d (.int k' _) :: xs => decide (k = k') && kindsB zs xs
  | .bool _ :: zs, .d (.bool _) :: xs => kindsB zs xs
  | _, _ => false

def binV (op : BinOp) (ty : Ty) (x y : V) : Prog :=
  match x, y with
  | .c (.d (.int k a)), .c (.d (.int k' b)) =>
    if k = k' then
      match op with
      | .quo => .req (b ≠ 0) (.ret (.c (.d (.int k (k.wrap (a.tdiv b))))))
      | .rem => .req (b ≠ 0) (.ret (.c (.d (.int k (a.tmod b)))))
      | _ => match intOp op k a b with
        | some r => .ret (.c (.d r))
        | none => .fail
    else .fail
  | .c (.d (.bool a)), .c (.d (.bool b)) => match ty.sh, op with
    | .bool, .eql => .ret (.c (.d (.bool (a == b))))
    | .bool, .neq => .ret (.c (.d (.bool (!(a == b)))))
    | _, _ => .fail
  | .c (.d (.str a)), .c (.d (.str b)) => match op with
    | .add => .req (((a.size + b.size : Nat) : Int) ≤ IntKind.i64.max) (.ret (.c (.d (.str (a ++ b)))))
    | .eql => .ret (.c (.d (.bool (a.toList == b.toList))))
    | .neq => .ret (.c (.d (.bool (!(a.toList == b.toList)))))
    | _ => .fail
  | .c (.d (.sl _ (_ :: _))), .c (.d .nilSl) => match ty.sh, op with
    | .slc .., .eql => .ret (.c (.d (.bool false)))
    | .slc .., .neq => .ret (.c (.d (.bool true)))
    | _, _ => .fail
  | .c (.d (.slE _)), .c (.d .nilSl) => match ty.sh, op with
    | .slc .., .eql => .ret (.c (.d (.bool false)))
    | .slc .., .neq => .ret (.c (.d (.bool true)))
    | _, _ => .fail
  | .c (.d .nilSl), .c (.d .nilSl) => match ty.sh, op with
    | .slc .., .eql => .ret (.c (.d (.bool true)))
    | .slc .., .neq => .ret (.c (.d (.bool false)))
    | _, _ => .fail
  | .agg xs, .agg ys => if xs.length = ty.size ∧ kindsB ty.zero xs = true then (match ty.eqf, op, eqCells xs ys with
    | true, .eql, some r => .ret (.c (.d (.bool r)))
    | true, .neq, some r => .ret (.c (.d (.bool (!r))))
    | _, _, _ => .fail) else .fail
  | _, _ => .fail

/-- Where a key stands in a map. -/
def mpLook (k : D) : List (D × D) → Option (Option D)
  | [] => some none
  | (.int k' b, v) :: es => match k with
    | .int k a => if k = k' then (if a = b then some (some v) else mpLook (.int k a) es) else none
    | _ => none
  | _ => none

def mpSet (k : Int) (v : D) : List (D × D) → List (D × D)
  | [] => []
  | (.int k' b, x) :: es => if k = b then (.int k' b, v) :: es else (.int k' b, x) :: mpSet k v es
  | e :: es => e :: mpSet k v es

def mpDel (k : Int) : List (D × D) → List (D × D)
  | [] => []
  | (.int k' b, x) :: es => if k = b then es else (.int k' b, x) :: mpDel k es
  | e :: es => e :: mpDel k es

/-- The entries of a map value. -/
def mpOf (v : V) (k : List (D × D) → Prog) : Prog :=
  match v with
  | .c (.d .nilMap) => k []
  | .c (.d (.mp es)) => k es
  | .c (.mref b) => .get b fun
    | .mp es => k es
    | _ => .fail
  | _ => .fail

def lookupV (kk : IntKind) (zero : D) (v key : V) (ok : Bool) : Prog :=
  match key with
  | .c (.d (.int k a)) => if k = kk then mpOf v fun es => match mpLook (.int k a) es with
      | some (some x) => .ret (if ok then .tup [.c (.d x), .c (.d (.bool true))] else .c (.d x))
      | some none => .ret (if ok then .tup [.c (.d zero), .c (.d (.bool false))] else .c (.d zero))
      | none => .fail
    else .fail
  | _ => .fail

def updateV (kk : IntKind) (m key v : V) : Prog :=
  match m, key, v with
  | .c (.mref b), .c (.d (.int k a)), .c x => if k = kk then settle1 x fun d => .get b fun
      | .mp es => (match mpLook (.int k a) es with
        | some (some _) => .put b (.mp (mpSet a d es)) (.ret .junk)
        | some none => .put b (.mp (es ++ [(.int k a, d)])) (.ret .junk)
        | none => .fail)
      | _ => .fail
    else .fail
  | _, _, _ => .fail

def updV (sh : Sh) (m key v : V) : Prog :=
  match sh with
  | .map kk _ => updateV kk m key v
  | _ => .fail

def deleteV (kk : IntKind) (m key : V) : Prog :=
  match m, key with
  | .c (.mref b), .c (.d (.int k a)) => if k = kk then .get b fun
      | .mp es => (match mpLook (.int k a) es with
        | some _ => .put b (.mp (mpDel a es)) (.ret (.tup []))
        | none => .fail)
      | _ => .fail
    else .fail
  | _, _ => .fail

/-- The most bytes that a slice of the call's own may take. -/
def mostBytes : Nat := 70368744177664

/-- The elements of what is appended. -/
def elemsOf (esz : Nat) (v : V) (k : List (List D) → Prog) : Prog :=
  match v with
  | .c (.d .nilSl) => k []
  | .c (.d (.slE _)) => k []
  | .c (.d (.sl e es)) => .req (e = esz) (k es)
  | .c (.ref b g off n) => .get b fun
    | .sl e es _ => .req (e = esz ∧ es.length = g ∧ off + n ≤ g) (k ((es.drop off).take n))
    | _ => .fail
  | _ => .fail

def appendV (base : Nat) (esz ebytes : Nat) (s x : V) : Prog :=
  match s with
  | .c (.d .nilSl) => elemsOf esz x fun ys =>
      if ys = [] then .ret (.c (.d .nilSl))
      else .req (ys.length * ebytes ≤ mostBytes) (.put base (.sl esz ys false) (.ret (.c (.ref base ys.length 0 ys.length))))
  | .c (.ref b g off n) => elemsOf esz x fun ys => .get b fun
    | .sl e es false => .req (e = esz ∧ es.length = g ∧ off = 0 ∧ n = g ∧ (g + ys.length) * ebytes ≤ mostBytes)
        (.put b (.sl esz (es ++ ys) false) (.ret (.c (.ref b (g + ys.length) 0 (g + ys.length)))))
    | _ => .fail
  | _ => .fail

def lenV (sh : Sh) (v : V) : Prog :=
  match sh, v with
  | .slc .., .c (.d .nilSl) => .ret (.c (.d (.int .i64 0)))
  | .slc .., .c (.d (.sl _ es)) => .ret (.c (.d (.int .i64 es.length)))
  | .slc .., .c (.cd _ (.sl _ es)) => .ret (.c (.d (.int .i64 es.length)))
  | .slc .., .c (.ref b g off n) => .get b fun
    | .sl _ es _ => .req (es.length = g ∧ off + n ≤ g) (.ret (.c (.d (.int .i64 n))))
    | _ => .fail
  | .slc .., .c (.bref b off n esz) => .get b fun
    | .box cs => .req (off + n * esz ≤ cs.length) (.ret (.c (.d (.int .i64 n))))
    | _ => .fail
  | .map .., .c (.d .nilMap) => .ret (.c (.d (.int .i64 0)))
  | .map .., .c (.d (.mp es)) => .ret (.c (.d (.int .i64 es.length)))
  | .map .., .c (.mref b) => .get b fun
    | .mp es => .ret (.c (.d (.int .i64 es.length)))
    | _ => .fail
  | _, _ => .fail

/-- The address of an element. -/
def indexV (ty : Ty) (v i : V) : Prog :=
  match i with
  | .c (.d (.int _ n)) => match ty.sh, v with
    | .arr len esz _, .c (.ptr b off) => .req (0 ≤ n ∧ n < len) (live v (.ret (.c (.ptr b (off + n.toNat * esz)))))
    | .arr len esz _, .c (.d (.fp cells)) => .req (0 ≤ n ∧ n < len) (.req (n.toNat * esz ≤ cells.length) (.ret (.c (.d (.fp (cells.drop (n.toNat * esz)))))))
    | .slc esz _ _, .c (.d (.sl e es)) => .req (e = esz ∧ 0 ≤ n) (match es[n.toNat]? with
      | some cs => .ret (.c (.d (.fp cs)))
      | none => .fail)
    | .slc esz _ _, .c (.cd b (.sl e es)) => .req (e = esz ∧ 0 ≤ n) (match es[n.toNat]? with
      | some cs => .ret (.c (.cd b (.fp cs)))
      | none => .fail)
    | .slc esz _ _, .c (.ref b g off m) => .req (0 ≤ n ∧ n < m) (.get b fun
      | .sl e es _ => .req (e = esz ∧ es.length = g ∧ off + m ≤ g) (.ret (.c (.eptr b g (off + n.toNat) 0)))
      | _ => .fail)
    | .slc esz _ _, .c (.bref b off m e) => .req (e = esz ∧ 0 ≤ n ∧ n < m) (live v (.ret (.c (.ptr b (off + n.toNat * esz)))))
    | _, _ => .fail
  | _ => .fail

def fieldAddrV (ty : Ty) (v : V) (f : Nat) : Prog :=
  match ty.sh with
  | .strct fs => match fs[f]? with
    | some (off, size, _) => if size = 0 then .fail else match v with
      | .c (.ptr b o) => live v (.ret (.c (.ptr b (o + off))))
      | .c (.eptr b g i o) => live v (.ret (.c (.eptr b g i (o + off))))
      | .c (.d (.fp cells)) => .req (off ≤ cells.length) (.ret (.c (.d (.fp (cells.drop off)))))
      | .c (.cd b (.fp cells)) => .req (off ≤ cells.length) (.ret (.c (.cd b (.fp (cells.drop off)))))
      | _ => .fail
    | none => .fail
  | _ => .fail

def fieldV (ty : Ty) (v : V) (f : Nat) : Prog :=
  match ty.sh, v with
  | .strct fs, .agg cs => match fs[f]? with
    | some (off, size, ag) => .req (off + size ≤ cs.length) (retO (ofCells ag ((cs.drop off).take size)))
    | none => .fail
  | _, _ => .fail

/-- A bound of a slice expression: where it stands, else the default. -/
def boundV (x : Option V) (dflt : Nat) (k : Int → Prog) : Prog :=
  match x with
  | none => k dflt
  | some (.c (.d (.int _ n))) => k n
  | some _ => .fail

def sliceV (ty : Ty) (v : V) (lo hi : Option V) : Prog :=
  match ty.sh, v with
  | .slc esz _ _, .c (.d (.sl e es)) => boundV hi es.length fun h => boundV lo 0 fun l =>
      .req (e = esz ∧ 0 ≤ l ∧ l ≤ h ∧ h ≤ es.length) (.ret (.c (.d (.sl esz ((es.drop l.toNat).take (h - l).toNat)))))
  | .slc _ _ _, .c (.d .nilSl) => boundV hi 0 fun h => boundV lo 0 fun l => .req (l = 0 ∧ h = 0) (.ret (.c (.d .nilSl)))
  | .slc esz _ _, .c (.ref b g off n) => boundV hi n fun h => boundV lo 0 fun l =>
      .req (0 ≤ l ∧ l ≤ h ∧ h ≤ n ∧ (l < h ∨ l = 0)) (.get b fun
        | .sl e es _ => .req (e = esz ∧ es.length = g ∧ off + n ≤ g) (.ret (.c (.ref b g (off + l.toNat) (h - l).toNat)))
        | _ => .fail)
  | .arr n esz _, .c (.ptr b off) => match lo, hi with
    | none, none => .get b fun
      | .box cs => .req (off + n * esz ≤ cs.length) (.ret (.c (.bref b off n esz)))
      | _ => .fail
    | _, _ => .fail
  | _, _ => .fail

def minV : List V → Option V
  | [.c (.d (.int k a)), .c (.d (.int k' b))] => if k = k' then some (.c (.d (.int k (if b < a then b else a)))) else none
  | _ => none

def tyOf (tv : Tv) (t : Nat) : Ty := (look tv t).getD ⟨0, false, [], false, .other⟩

def withTy (tv : Tv) (t : Nat) (k : Ty → Prog) : Prog :=
  match look tv t with
  | some ty => k ty
  | none => .fail

def callV (base : Nat) (target : V) (args : List V) : Prog :=
  match target.fn? with
  | some (f, cap) => borVs (args ++ cap.map .c) fun ps br => .call f ps br base
  | none => .fail

def builtinV (tv : Tv) (base : Nat) (b : Builtin) (ts : List Nat) (args : List V) : Prog :=
  match b, ts, args with
  | .len, [t], [x] => lenV (tyOf tv t).sh x
  | .min, _, xs => retO (minV xs)
  | .append, [t, t2], [s, x] => if t2 = t then (match (tyOf tv t).sh with
    | .slc esz eb _ => appendV base esz eb s x
    | _ => .fail) else .fail
  | .delete, [t, _], [m, k] => match (tyOf tv t).sh with
    | .map kk _ => deleteV kk m k
    | _ => .fail
  | _, _, _ => .fail

/-- What an operation does. -/
def semOp (tv : Tv) (base : Nat) (ρ : Operand → V) (op : Op) : Prog :=
  match op with
  | .move x | .assign x => .ret (ρ x)
  | .pick c a b => match ρ c with
    | .c (.d (.bool t)) => .ret (if t then ρ a else ρ b)
    | _ => .fail
  | .alloc t => withTy tv t fun ty => .put base (.box (ty.zero.map .d)) (.ret (.c (.ptr base 0)))
  | .box _ x => match (ρ x).cells? with
    | some cs => .put base (.box cs) (.ret (.c (.ptr base 0)))
    | none => .fail
  | .build t parts => match (tyOf tv t).sh with
    | .strct fs => retO ((fillC (strctPlace fs) ((tyOf tv t).zero.map .d) (parts.toList.map fun p => (p.1, ρ p.2))).map .agg)
    | .arr _ esz _ => retO ((fillC (fun i => some (i * esz, esz)) ((tyOf tv t).zero.map .d) (parts.toList.map fun p => (p.1, ρ p.2))).map .agg)
    | _ => .fail
  | .buildSlice t n parts => match (tyOf tv t).sh with
    | .slc esz _ ez =>
      if n * esz ≤ 2 ^ 24 then
        match fillC (fun i => some (i * esz, esz)) ((List.replicate n (ez.map C.d)).flatten) (parts.toList.map fun p => (p.1, ρ p.2)) with
        | some cs => .req (ez.length = esz) (settle cs fun ds => .put base (.sl esz (chunks esz n ds) (decide (0 < n))) (.ret (.c (.ref base n 0 n))))
        | none => .fail
      else .fail
    | _ => .fail
  | .load t a => withTy tv t fun ty => rd (ρ a) ty.size fun cs => retO (ofCells ty.agg cs)
  | .store t a x => withTy tv t fun ty => match (ρ x).cells? with
    | some cs => .req (cs.length = ty.size) (wr (ρ a) cs)
    | none => .fail
  | .nilCheck x => match ρ x with
    | .c (.bref ..) => .fail
    | v => live v (.ret v)
  | .binOp op t x y _ => binV op (tyOf tv t) (ρ x) (ρ y)
  | .unOp .not _ x => match ρ x with
    | .c (.d (.bool b)) => .ret (.c (.d (.bool (!b))))
    | _ => .fail
  | .convert s t x => match (tyOf tv s).sh, (tyOf tv t).sh, ρ x with
    | .int _, .int k, .c (.d (.int _ n)) => .ret (.c (.d (.int k (k.wrap n))))
    | _, _, _ => .fail
  | .makeFunc (.func f) first cap => if first.size = 0 then
      match (cap.toList.map ρ).mapM fun | .c x => some x | _ => none with
      | some cs => .ret (.c (.fn f cs))
      | none => .fail
    else .fail
  | .makeMap t none => match (tyOf tv t).sh with
    | .map .. => .put base (.mp []) (.ret (.c (.mref base)))
    | _ => .fail
  | .makeSlice t l c => match (tyOf tv t).sh, ρ l, ρ c with
    | .slc esz eb ez, .c (.d (.int _ n)), .c (.d (.int _ m)) =>
      .req (m = n ∧ 0 ≤ n ∧ n.toNat * eb ≤ mostBytes ∧ n ≤ 70368744177664 ∧ ez.length = esz) (.put base (.sl esz (List.replicate n.toNat ez) false) (.ret (.c (.ref base n.toNat 0 n.toNat))))
    | _, _, _ => .fail
  | .slice t x lo hi none => sliceV (tyOf tv t) (ρ x) (lo.map ρ) (hi.map ρ)
  | .fieldAddr t x f => fieldAddrV (tyOf tv t) (ρ x) f
  | .field t x f => fieldV (tyOf tv t) (ρ x) f
  | .indexAddr t x i => indexV (tyOf tv t) (ρ x) (ρ i)
  | .lookup t m k ok => match (tyOf tv t).sh with
    | .map kk z => lookupV kk z (ρ m) (ρ k) ok
    | _ => .fail
  | .mapUpdate t m k x | .insert t m k x => updV (tyOf tv t).sh (ρ m) (ρ k) (ρ x)
  | .extract t i => match ρ t with
    | .tup vs => retO vs[i]?
    | _ => .fail
  | .call { callee := .builtin b, args, argTypes } => builtinV tv base b argTypes.toList (args.toList.map ρ)
  | .call { callee := .value f, args, .. } => callV base (ρ f) (args.toList.map ρ)
  | _ => .fail

def sem (tv : Tv) (base : Nat) (ρ : Operand → V) (o : Oper) : Prog := semOp tv base ρ o.op

end Go.Vs

/- How abstract states stand for worlds: relations on data, cells, values, blocks and states; what carries them from one world to the next. -/
namespace Go.Vs

/-- A value that fills one cell. -/
def One (v : Value) : Prop := (∀ cs, v ≠ .agg cs) ∧ ∀ cs, v ≠ .tuple cs

theorem One.cells {v : Value} (h : One v) : v.cells = #[v] := by
  cases v <;> first | rfl | exact absurd rfl (h.1 _)

inductive DRel (w : World) (ok : Nat → Prop) : Value → D → Prop
  | bool (b : Bool) : DRel w ok (.bool b) (.bool b)
  | int (k : IntKind) (n : Int) : DRel w ok (.int k n) (.int k n)
  | str (s : ByteArray) : DRel w ok (.string s) (.str s)
  | nilSl : DRel w ok (.slice none 0 0) .nilSl
  | nilMap : DRel w ok (.map none) .nilMap
  | nilFn : DRel w ok .nilFunc .nilFn
  | nilPtr : DRel w ok (.pointer none) .nilPtr
  | slNil (esz : Nat) : DRel w ok (.slice none 0 0) (.sl esz [])
  | slNone (a : Addr) (cap esz : Nat) : DRel w ok (.slice (some a) 0 cap) (.sl esz [])
  | slE (a : Addr) (cap esz : Nat) : DRel w ok (.slice (some a) 0 cap) (.slE esz)
  | sl (c off cap esz : Nat) (elems : List (List D)) (arr : Array Value) (e : TypeId) (fr : Nat × Nat)
      (hcap : elems.length ≤ cap) (hok : ok c) (hw : w.heap[c]? = some (.cells arr e fr)) (hsz : off + elems.length * esz ≤ arr.size)
      (hlen : ∀ cs ∈ elems, cs.length = esz)
      (hr : ∀ i cs j x, elems[i]? = some cs → cs[j]? = some x → DRel w ok (arr.getD (off + (i * esz + j)) undef) x) :
      DRel w ok (.slice (some ⟨c, off, none⟩) elems.length cap) (.sl esz elems)
  | fpNone (a : Addr) (hs : a.spot = none) : DRel w ok (.pointer (some a)) (.fp [])
  | fp (c off : Nat) (cells : List D) (arr : Array Value) (e : TypeId) (fr : Nat × Nat) (hok : ok c)
      (hw : w.heap[c]? = some (.cells arr e fr)) (hsz : off + cells.length ≤ arr.size)
      (hr : ∀ j x, cells[j]? = some x → DRel w ok (arr.getD (off + j) undef) x) :
      DRel w ok (.pointer (some ⟨c, off, none⟩)) (.fp cells)
  | fn (f : Nat) (caps : Array Value) (cap : List D) (hsz : caps.size = cap.length)
      (hr : ∀ j x, cap[j]? = some x → DRel w ok (caps.getD j undef) x) : DRel w ok (.func (.func f) #[] caps) (.fn f cap)
  | mp (c : Nat) (ents : Array MapEntry) (clk : Nat) (es : List (D × D)) (hok : ok c) (hw : w.heap[c]? = some (.map ents clk))
      (hsz : ents.size = es.length) (hk : ∀ i p, es[i]? = some p → DRel w ok (ents.getD i default).key p.1)
      (hv : ∀ i p, es[i]? = some p → DRel w ok (ents.getD i default).val p.2) : DRel w ok (.map (some c)) (.mp es)

theorem DRel.one {w : World} {ok : Nat → Prop} {v : Value} {x : D} (h : DRel w ok v x) : One v := by
  cases h <;> exact ⟨fun _ => by simp, fun _ => by simp⟩

theorem DRel.mono {w w' : World} {ok ok' : Nat → Prop} (h : ∀ c o, ok c → w.heap[c]? = some o → ok' c ∧ w'.heap[c]? = some o)
    {v : Value} {x : D} (hr : DRel w ok v x) : DRel w' ok' v x := by
  induction hr with
  | bool b => exact .bool b
  | int k n => exact .int k n
  | str s => exact .str s
  | nilSl => exact .nilSl
  | nilMap => exact .nilMap
  | nilFn => exact .nilFn
  | nilPtr => exact .nilPtr
  | slNil esz => exact .slNil esz
  | slNone a cap esz => exact .slNone a cap esz
  | slE a cap esz => exact .slE a cap esz
  | sl c off cap esz elems arr e fr hcap hok hw hsz hlen _ ih =>
    obtain ⟨h1, h2⟩ := h c _ hok hw
    exact .sl c off cap esz elems arr e fr hcap h1 h2 hsz hlen ih
  | fpNone a hs => exact .fpNone a hs
  | fp c off cells arr e fr hok hw hsz _ ih =>
    obtain ⟨h1, h2⟩ := h c _ hok hw
    exact .fp c off cells arr e fr h1 h2 hsz ih
  | fn f caps cap hsz _ ih => exact .fn f caps cap hsz ih
  | mp c ents clk es hok hw hsz _ _ ihk ihv =>
    obtain ⟨h1, h2⟩ := h c _ hok hw
    exact .mp c ents clk es h1 h2 hsz ihk ihv

abbrev HpF := Nat → Option Blk
abbrev Gam := Nat → Option Nat

/-- Blocks of the world that the call may still write. -/
def Mut (γ : Gam) (hp : HpF) (c : Nat) : Prop := ∃ b blk, hp b = some blk ∧ blk.mu = true ∧ γ b = some c

structure Cx where
  w : World
  γ : Gam
  hp : HpF
  CM : Nat → Prop
  U : Nat → Prop

def Cx.ok (x : Cx) (c : Nat) : Prop := ¬ x.CM c ∧ ¬ Mut x.γ x.hp c
/-- Blocks of what is lent. -/
def Cx.okc (x : Cx) (k : Bool) (c : Nat) : Prop := (k = true → x.CM c) ∧ ¬ Mut x.γ x.hp c

inductive CRel (x : Cx) : Value → C → Prop
  | d (v : Value) (e : D) : DRel x.w x.ok v e → CRel x v (.d e)
  | cd (v : Value) (k : Bool) (e : D) : DRel x.w (x.okc k) v e → CRel x v (.cd k e)
  | junk (v : Value) : One v → CRel x v .junk
  | refNil (b esz : Nat) (fz : Bool) : x.hp b = some (.sl esz [] fz) → x.U b → CRel x (.slice none 0 0) (.ref b 0 0 0)
  | ref (b c off n cap esz : Nat) (es : List (List D)) (fz : Bool) (arr : Array Value) (e : TypeId) (fr : Nat × Nat) :
      x.hp b = some (.sl esz es fz) → x.γ b = some c → x.w.heap[c]? = some (.cells arr e fr) → off + n ≤ es.length → n ≤ cap →
      (off + cap) * esz ≤ arr.size → x.U b → CRel x (.slice (some ⟨c, off * esz, none⟩) n cap) (.ref b es.length off n)
  | refOld (b g off n : Nat) (v : Value) : One v → x.U b → (x.hp b = none ∨ ∃ esz es fz, x.hp b = some (.sl esz es fz) ∧ g < es.length) →
      CRel x v (.ref b g off n)
  | bref (b c off n cap esz : Nat) (cs : List C) : x.hp b = some (.box cs) → x.γ b = some c → n ≤ cap → off + n * esz ≤ cs.length → x.U b →
      CRel x (.slice (some ⟨c, off, none⟩) n cap) (.bref b off n esz)
  | brefOld (b off n esz : Nat) (v : Value) : One v → x.U b → x.hp b = none → CRel x v (.bref b off n esz)
  | ptr (b c off : Nat) (cs : List C) : x.hp b = some (.box cs) → x.γ b = some c → x.U b → CRel x (.pointer (some ⟨c, off, none⟩)) (.ptr b off)
  | ptrOld (b off : Nat) (v : Value) : One v → x.U b → x.hp b = none → CRel x v (.ptr b off)
  | eptr (b c i off esz : Nat) (es : List (List D)) (fz : Bool) : x.hp b = some (.sl esz es fz) → x.γ b = some c → i < es.length → x.U b →
      CRel x (.pointer (some ⟨c, i * esz + off, none⟩)) (.eptr b es.length i off)
  | eptrOld (b g i off : Nat) (v : Value) : One v → x.U b → (x.hp b = none ∨ ∃ esz es fz, x.hp b = some (.sl esz es fz) ∧ g < es.length) →
      CRel x v (.eptr b g i off)
  | mref (b c : Nat) (es : List (D × D)) : x.hp b = some (.mp es) → x.γ b = some c → x.U b → CRel x (.map (some c)) (.mref b)
  | mrefOld (b : Nat) (v : Value) : One v → x.U b → x.hp b = none → CRel x v (.mref b)
  | fn (f : Nat) (caps : Array Value) (cap : List C) (hsz : caps.size = cap.length)
      (hr : ∀ j y, cap[j]? = some y → CRel x (caps.getD j undef) y) : CRel x (.func (.func f) #[] caps) (.fn f cap)

theorem CRel.one {x : Cx} {v : Value} {y : C} (h : CRel x v y) : One v := by
  cases h with
  | d _ _ h => exact h.one
  | cd _ _ _ h => exact h.one
  | junk _ h => exact h
  | refOld _ _ _ _ _ h => exact h
  | brefOld _ _ _ _ _ h => exact h
  | ptrOld _ _ _ h => exact h
  | eptrOld _ _ _ _ _ h => exact h
  | mrefOld _ _ h => exact h
  | _ => exact ⟨fun _ => by simp, fun _ => by simp⟩

theorem CRel.cd_inv {x : Cx} {v : Value} {k : Bool} {e : D} (h : CRel x v (.cd k e)) : DRel x.w (x.okc k) v e := by
  cases h with | cd _ _ _ h => exact h

theorem CRel.d_inv {x : Cx} {v : Value} {e : D} (h : CRel x v (.d e)) : DRel x.w x.ok v e := by
  cases h with | d _ _ h => exact h

inductive VRel (x : Cx) : Value → V → Prop
  | c (v : Value) (y : C) : CRel x v y → VRel x v (.c y)
  | agg (arr : Array Value) (cs : List C) (hsz : arr.size = cs.length) (hr : ∀ j y, cs[j]? = some y → CRel x (arr.getD j undef) y) :
      VRel x (.agg arr) (.agg cs)
  | tup (arr : Array Value) (vs : List V) (hsz : arr.size = vs.length) (hr : ∀ j y, vs[j]? = some y → VRel x (arr.getD j undef) y) :
      VRel x (.tuple arr) (.tup vs)
  | junk (v : Value) : VRel x v .junk

theorem VRel.c_inv {x : Cx} {v : Value} {y : C} (h : VRel x v (.c y)) : CRel x v y := by
  cases h with | c _ _ h => exact h

def BRel (x : Cx) (b : Nat) : Blk → Prop
  | .box cs => ∃ c arr e, x.γ b = some c ∧ x.w.heap[c]? = some (.cells arr e (0, 0)) ∧ arr.size = cs.length ∧
      ∀ j y, cs[j]? = some y → CRel x (arr.getD j undef) y
  | .sl esz es _ => (∀ cs ∈ es, cs.length = esz) ∧ ((x.γ b = none ∧ es = []) ∨
      ∃ c arr e, x.γ b = some c ∧ x.w.heap[c]? = some (.cells arr e (0, 0)) ∧ es.length * esz ≤ arr.size ∧
        ∀ i cs j y, es[i]? = some cs → cs[j]? = some y → DRel x.w x.ok (arr.getD (i * esz + j) undef) y)
  | .mp es => ∃ c ents clk, x.γ b = some c ∧ x.w.heap[c]? = some (.map ents clk) ∧ ents.size = es.length ∧
      (∀ i p, es[i]? = some p → DRel x.w x.ok (ents.getD i default).key p.1) ∧ ∀ i p, es[i]? = some p → DRel x.w x.ok (ents.getD i default).val p.2

structure HRel (x : Cx) : Prop where
  hp : ∀ b blk, x.hp b = some blk → x.U b ∧ BRel x b blk
  inj : ∀ b b' c, x.γ b = some c → x.γ b' = some c → b = b'
  lt : ∀ b c, x.γ b = some c → c < x.w.heap.size ∧ ¬ x.CM c
  cm : ∀ c, x.CM c → c < x.w.heap.size

structure SRel (x : Cx) (tm : Nat → V) (a : Act) : Prop extends HRel x where
  tm : ∀ t, VRel x (a.tmps.getD t undef) (tm t)
  defers : a.defers = []

/-! ### What carries the relations on -/

/-- The world went on: only what may be written was written. -/
structure Fr (x x' : Cx) : Prop where
  os : x'.w.os = x.w.os
  tape : x'.w.tape = x.w.tape
  output : x'.w.output = x.w.output
  size : x.w.heap.size ≤ x'.w.heap.size
  same : ∀ c : Nat, c < x.w.heap.size → ¬ Mut x.γ x.hp c → x'.w.heap[c]? = x.w.heap[c]?
  muts : ∀ c : Nat, c < x.w.heap.size → Mut x'.γ x'.hp c → Mut x.γ x.hp c
  sz : ∀ (c : Nat) (arr : Array Value) (e : TypeId) (fr : Nat × Nat), x.w.heap[c]? = some (Obj.cells arr e fr) → ∃ arr' : Array Value, x'.w.heap[c]? = some (Obj.cells arr' e fr) ∧ arr'.size = arr.size
  cm : x'.CM = x.CM
  orig : ∀ (c : Nat) (arr : Array Value) (e : TypeId) (fr : Nat × Nat), x'.w.heap[c]? = some (Obj.cells arr e fr) → fr = (0, 0) ∨ ∃ arr0 : Array Value, x.w.heap[c]? = some (Obj.cells arr0 e fr)

def EvB (x x' : Cx) (b : Nat) : Prop :=
  match x.hp b with
  | none => x'.hp b = none
  | some (.box cs) => x'.hp b = none ∨ ∃ cs', x'.hp b = some (.box cs') ∧ cs'.length = cs.length ∧ x'.γ b = x.γ b
  | some (.sl esz es _) => x'.hp b = none ∨ ∃ es' fz', x'.hp b = some (.sl esz es' fz') ∧
      ((es'.length = es.length ∧ x'.γ b = x.γ b) ∨ es.length < es'.length)
  | some (.mp _) => x'.hp b = none ∨ ∃ es', x'.hp b = some (.mp es') ∧ x'.γ b = x.γ b

/-- The blocks whose names N knows went on. -/
def Ev (N : Nat → Prop) (x x' : Cx) : Prop := (∀ b, N b → x'.U b) ∧ ∀ b, N b → EvB x x' b

theorem Fr.refl (x : Cx) : Fr x x := ⟨rfl, rfl, rfl, Nat.le_refl _, fun _ _ _ => rfl, fun _ _ h => h, fun _ arr _ _ h => ⟨arr, h, rfl⟩, rfl, fun _ arr _ _ h => .inr ⟨arr, h⟩⟩

theorem Fr.trans {x y z : Cx} (h : Fr x y) (k : Fr y z) : Fr x z where
  os := k.os.trans h.os
  tape := k.tape.trans h.tape
  output := k.output.trans h.output
  size := Nat.le_trans h.size k.size
  same := fun c hc hm => (k.same c (Nat.lt_of_lt_of_le hc h.size) fun hm' => hm (h.muts c hc hm')).trans (h.same c hc hm)
  muts := fun c hc hm => h.muts c hc (k.muts c (Nat.lt_of_lt_of_le hc h.size) hm)
  sz := fun c arr e fr hw => by
    obtain ⟨a1, h1, s1⟩ := h.sz c arr e fr hw
    obtain ⟨a2, h2, s2⟩ := k.sz c a1 e fr h1
    exact ⟨a2, h2, s2.trans s1⟩
  cm := k.cm.trans h.cm
  orig := fun c arr e fr hw => by
    rcases k.orig c arr e fr hw with h1 | ⟨a1, h1⟩
    · exact .inl h1
    · exact h.orig c a1 e fr h1

theorem EvB.refl (x : Cx) (b : Nat) : EvB x x b := by
  unfold EvB
  split
  · assumption
  · rename_i cs h; exact .inr ⟨cs, h, rfl, rfl⟩
  · rename_i esz es fz h; exact .inr ⟨es, fz, h, .inl ⟨rfl, rfl⟩⟩
  · rename_i es h; exact .inr ⟨es, h, rfl⟩

theorem EvB.trans {x y z : Cx} {b : Nat} (h : EvB x y b) (k : EvB y z b) : EvB x z b := by
  unfold EvB at *
  split at h
  · rename_i hx; rw [h] at k; simpa using k
  · rename_i cs hx
    rcases h with h | ⟨cs1, h, l1, g1⟩
    · rw [h] at k; exact .inl (by simpa using k)
    · rw [h] at k
      rcases k with k | ⟨cs2, k, l2, g2⟩
      · exact .inl k
      · exact .inr ⟨cs2, k, l2.trans l1, g2.trans g1⟩
  · rename_i esz es fz hx
    rcases h with h | ⟨es1, fz1, h, l1⟩
    · rw [h] at k; exact .inl (by simpa using k)
    · rw [h] at k
      rcases k with k | ⟨es2, fz2, k, l2⟩
      · exact .inl k
      · refine .inr ⟨es2, fz2, k, ?_⟩
        rcases l1 with ⟨l1, g1⟩ | l1 <;> rcases l2 with ⟨l2, g2⟩ | l2
        · exact .inl ⟨l2.trans l1, g2.trans g1⟩
        · exact .inr (by omega)
        · exact .inr (by omega)
        · exact .inr (by omega)
  · rename_i es hx
    rcases h with h | ⟨es1, h, g1⟩
    · rw [h] at k; exact .inl (by simpa using k)
    · rw [h] at k
      rcases k with k | ⟨es2, k, g2⟩
      · exact .inl k
      · exact .inr ⟨es2, k, g2.trans g1⟩

theorem Ev.refl {N : Nat → Prop} {x : Cx} (h : ∀ b, N b → x.U b) : Ev N x x := ⟨h, fun b _ => EvB.refl x b⟩
theorem Ev.trans {N : Nat → Prop} {x y z : Cx} (h : Ev N x y) (k : Ev N y z) : Ev N x z := ⟨k.1, fun b hb => (h.2 b hb).trans (k.2 b hb)⟩
theorem Ev.sub {N N' : Nat → Prop} {x y : Cx} (h : Ev N x y) (hs : ∀ b, N' b → N b) : Ev N' x y := ⟨fun b hb => h.1 b (hs b hb), fun b hb => h.2 b (hs b hb)⟩

theorem Fr.okk {x x' : Cx} (h : Fr x x') (c : Nat) (o : Obj) (hok : x.ok c) (hw : x.w.heap[c]? = some o) : x'.ok c ∧ x'.w.heap[c]? = some o := by
  have hc : c < x.w.heap.size := by
    rcases Nat.lt_or_ge c x.w.heap.size with h' | h'
    · exact h'
    · simp [Array.getElem?_eq_none h'] at hw
  exact ⟨⟨by rw [h.cm]; exact hok.1, fun hm => hok.2 (h.muts c hc hm)⟩, (h.same c hc hok.2).trans hw⟩

theorem Fr.okkc {x x' : Cx} {k : Bool} (h : Fr x x') (c : Nat) (o : Obj) (hok : x.okc k c) (hw : x.w.heap[c]? = some o) : x'.okc k c ∧ x'.w.heap[c]? = some o := by
  have hc : c < x.w.heap.size := by
    rcases Nat.lt_or_ge c x.w.heap.size with h' | h'
    · exact h'
    · simp [Array.getElem?_eq_none h'] at hw
  exact ⟨⟨by rw [h.cm]; exact hok.1, fun hm => hok.2 (h.muts c hc hm)⟩, (h.same c hc hok.2).trans hw⟩

theorem DRel.on {x x' : Cx} (h : Fr x x') {v : Value} {e : D} (hr : DRel x.w x.ok v e) : DRel x'.w x'.ok v e := hr.mono h.okk

theorem CRel.on {x x' : Cx} (hf : Fr x x') (he : Ev x.U x x') {v : Value} {y : C} (hr : CRel x v y) : CRel x' v y := by
  induction hr with
  | d v e h => exact .d v e (h.on hf)
  | cd v k e h => exact .cd v k e (h.mono hf.okkc)
  | junk v h => exact .junk v h
  | refNil b esz fz h hu =>
    have := he.2 b hu
    simp only [EvB, h] at this
    rcases this with h' | ⟨es', fz', h', l | l⟩
    · exact .refOld b 0 0 0 _ ⟨fun _ => by simp, fun _ => by simp⟩ (he.1 b hu) (.inl h')
    · have : es' = [] := by simpa using l.1
      subst this
      exact .refNil b esz fz' h' (he.1 b hu)
    · exact .refOld b 0 0 0 _ ⟨fun _ => by simp, fun _ => by simp⟩ (he.1 b hu) (.inr ⟨esz, es', fz', h', by simpa using l⟩)
  | ref b c off n cap esz es fz arr e fr h hg hw h1 h2 h3 hu =>
    have := he.2 b hu
    simp only [EvB, h] at this
    rcases this with h' | ⟨es', fz', h', ⟨l, g⟩ | l⟩
    · exact .refOld b _ off n _ ⟨fun _ => by simp, fun _ => by simp⟩ (he.1 b hu) (.inl h')
    · obtain ⟨arr', hw', hs⟩ := hf.sz c arr e fr hw
      rw [← l]
      exact .ref b c off n cap esz es' fz' arr' e fr h' (g.trans hg) hw' (by omega) h2 (by omega) (he.1 b hu)
    · exact .refOld b _ off n _ ⟨fun _ => by simp, fun _ => by simp⟩ (he.1 b hu) (.inr ⟨esz, es', fz', h', l⟩)
  | refOld b g off n v h1 hu h =>
    refine .refOld b g off n v h1 (he.1 b hu) ?_
    have := he.2 b hu
    rcases h with h | ⟨esz, es, fz, h, l⟩
    · simp only [EvB, h] at this; exact .inl this
    · simp only [EvB, h] at this
      rcases this with h' | ⟨es', fz', h', l'⟩
      · exact .inl h'
      · exact .inr ⟨esz, es', fz', h', by omega⟩
  | bref b c off n cap esz cs h hg h1 h2 hu =>
    have := he.2 b hu
    simp only [EvB, h] at this
    rcases this with h' | ⟨cs', h', l, g⟩
    · exact .brefOld b off n esz _ ⟨fun _ => by simp, fun _ => by simp⟩ (he.1 b hu) h'
    · exact .bref b c off n cap esz cs' h' (g.trans hg) h1 (by omega) (he.1 b hu)
  | brefOld b off n esz v h1 hu h =>
    have := he.2 b hu
    simp only [EvB, h] at this
    exact .brefOld b off n esz v h1 (he.1 b hu) this
  | ptr b c off cs h hg hu =>
    have := he.2 b hu
    simp only [EvB, h] at this
    rcases this with h' | ⟨cs', h', l, g⟩
    · exact .ptrOld b off _ ⟨fun _ => by simp, fun _ => by simp⟩ (he.1 b hu) h'
    · exact .ptr b c off cs' h' (g.trans hg) (he.1 b hu)
  | ptrOld b off v h1 hu h =>
    have := he.2 b hu
    simp only [EvB, h] at this
    exact .ptrOld b off v h1 (he.1 b hu) this
  | eptr b c i off esz es fz h hg hi hu =>
    have := he.2 b hu
    simp only [EvB, h] at this
    rcases this with h' | ⟨es', fz', h', ⟨l, g⟩ | l⟩
    · exact .eptrOld b _ i off _ ⟨fun _ => by simp, fun _ => by simp⟩ (he.1 b hu) (.inl h')
    · rw [← l]
      exact .eptr b c i off esz es' fz' h' (g.trans hg) (by omega) (he.1 b hu)
    · exact .eptrOld b _ i off _ ⟨fun _ => by simp, fun _ => by simp⟩ (he.1 b hu) (.inr ⟨esz, es', fz', h', l⟩)
  | eptrOld b g i off v h1 hu h =>
    refine .eptrOld b g i off v h1 (he.1 b hu) ?_
    have := he.2 b hu
    rcases h with h | ⟨esz, es, fz, h, l⟩
    · simp only [EvB, h] at this; exact .inl this
    · simp only [EvB, h] at this
      rcases this with h' | ⟨es', fz', h', l'⟩
      · exact .inl h'
      · exact .inr ⟨esz, es', fz', h', by omega⟩
  | mref b c es h hg hu =>
    have := he.2 b hu
    simp only [EvB, h] at this
    rcases this with h' | ⟨es', h', g⟩
    · exact .mrefOld b _ ⟨fun _ => by simp, fun _ => by simp⟩ (he.1 b hu) h'
    · exact .mref b c es' h' (g.trans hg) (he.1 b hu)
  | mrefOld b v h1 hu h =>
    have := he.2 b hu
    simp only [EvB, h] at this
    exact .mrefOld b v h1 (he.1 b hu) this
  | fn f caps cap hsz _ ih => exact .fn f caps cap hsz ih

theorem VRel.on {x x' : Cx} (hf : Fr x x') (he : Ev x.U x x') {v : Value} {y : V} (hr : VRel x v y) : VRel x' v y := by
  induction hr with
  | c v y h => exact .c v y (h.on hf he)
  | agg arr cs hsz hr => exact .agg arr cs hsz fun j y h => (hr j y h).on hf he
  | tup arr vs hsz _ ih => exact .tup arr vs hsz ih
  | junk v => exact .junk v

/-- A block that was not touched. -/
theorem BRel.on {x x' : Cx} (hf : Fr x x') (he : Ev x.U x x') {b : Nat} {blk : Blk} (hg : x'.γ b = x.γ b)
    (hw : ∀ c, x.γ b = some c → x'.w.heap[c]? = x.w.heap[c]?) (hr : BRel x b blk) : BRel x' b blk := by
  cases blk with
  | box cs =>
    obtain ⟨c, arr, e, h1, h2, h3, h4⟩ := hr
    exact ⟨c, arr, e, hg.trans h1, (hw c h1).trans h2, h3, fun j y h => (h4 j y h).on hf he⟩
  | sl esz es fz =>
    obtain ⟨h0, h⟩ := hr
    refine ⟨h0, ?_⟩
    rcases h with ⟨h1, h2⟩ | ⟨c, arr, e, h1, h2, h3, h4⟩
    · exact .inl ⟨hg.trans h1, h2⟩
    · exact .inr ⟨c, arr, e, hg.trans h1, (hw c h1).trans h2, h3, fun i cs j y hi hj => (h4 i cs j y hi hj).on hf⟩
  | mp es =>
    obtain ⟨c, ents, clk, h1, h2, h3, h4, h5⟩ := hr
    exact ⟨c, ents, clk, hg.trans h1, (hw c h1).trans h2, h3, fun i p h => (h4 i p h).on hf, fun i p h => (h5 i p h).on hf⟩

end Go.Vs

/- What the programs over blocks come to; what a contract of a function says; that an operation's program looks only at what its footprint names. -/
namespace Go.Vs

def upd {α : Type} (H : Nat → Option α) (b : Nat) (x : α) : Nat → Option α := fun j => if j = b then some x else H j

theorem look_cons {α : Type} (s : List (Nat × α)) (b : Nat) (x : α) : look ((b, x) :: s) = upd (look s) b x := by
  funext j
  simp only [look, upd]
  by_cases h : j = b
  · simp [h]
  · have : ¬ b = j := fun e => h e.symm
    simp [h, this]

def updL {α : Type} (H : Nat → Option α) (base : Nat) : List α → Nat → Option α
  | [] => H
  | x :: xs => updL (upd H base x) (base + 1) xs

/-! ### Results: flat, shifted -/

def D.flat : D → Bool
  | .bool _ | .int .. | .str _ | .nilSl | .nilMap | .nilFn | .nilPtr => true
  | _ => false

def C.flat : C → Bool
  | .d x => x.flat
  | _ => false

mutual
def V.flat : V → Bool
  | .c x => x.flat
  | .agg cs => cs.all C.flat
  | .tup vs => V.flatL vs
  | .junk => true
def V.flatL : List V → Bool
  | [] => true
  | v :: vs => v.flat && V.flatL vs
end

mutual
def C.shift (base : Nat) : C → C
  | .ref b g off n => .ref (base + b) g off n
  | .bref b off n esz => .bref (base + b) off n esz
  | .ptr b off => .ptr (base + b) off
  | .eptr b g i off => .eptr (base + b) g i off
  | .mref b => .mref (base + b)
  | .fn f cap => .fn f (C.shiftL base cap)
  | .d x => .d x
  | .cd _ _ => .junk
  | .junk => .junk
def C.shiftL (base : Nat) : List C → List C
  | [] => []
  | c :: cs => c.shift base :: C.shiftL base cs
end

mutual
def V.shift (base : Nat) : V → V
  | .c x => .c (x.shift base)
  | .agg cs => .agg (C.shiftL base cs)
  | .tup vs => .tup (V.shiftL base vs)
  | .junk => .junk
def V.shiftL (base : Nat) : List V → List V
  | [] => []
  | v :: vs => v.shift base :: V.shiftL base vs
end

def Blk.shift (base : Nat) : Blk → Blk
  | .box cs => .box (C.shiftL base cs)
  | b => b

/-! ### Contracts -/

def PRel (w : World) (ok : Nat → Prop) (v : Value) : PV → Prop
  | .c x => DRel w ok v x
  | .agg cs => ∃ arr, v = .agg arr ∧ arr.size = cs.length ∧ ∀ j x, cs[j]? = some x → DRel w ok (arr.getD j undef) x

inductive PRels (w : World) (ok : Nat → Prop) : List Value → List PV → Prop
  | nil : PRels w ok [] []
  | cons {v : Value} {p : PV} {vs : List Value} {ps : List PV} : PRel w ok v p → PRels w ok vs ps → PRels w ok (v :: vs) (p :: ps)

def Cx.start (w : World) (CM : Nat → Prop) : Cx := ⟨w, fun _ => none, fun _ => none, CM, fun _ => False⟩

/-- What stands behind a call that began in w and ended in w': its result, and the blocks that it hands over. -/
structure PostC (CM : Nat → Prop) (w : World) (γ : Gam) (blks : List Blk) (w' : World) (v : Value) (res : V) : Prop where
  h : HRel ⟨w', γ, fun j => blks[j]?, CM, fun b => b < blks.length⟩
  v : VRel ⟨w', γ, fun j => blks[j]?, CM, fun b => b < blks.length⟩ v res
  fr : Fr (Cx.start w CM) ⟨w', γ, fun j => blks[j]?, CM, fun b => b < blks.length⟩
  new : ∀ b c, γ b = some c → w.heap.size ≤ c
  dom : ∀ b c, γ b = some c → b < blks.length

/-- Function f, called with the arguments, returns the result, and hands over the blocks. -/
def Gives (P : Program) (f : Nat) (args : List PV) (res : V) (blks : List Blk) : Prop :=
  ∃ fn, P.funcs[f]? = some fn ∧ (fn.name == "runtime.NumGoroutine") = false ∧ fn.body.isNone = false ∧
    ∀ (CM : Nat → Prop) (w : World) (vs : List Value), (∀ c, CM c → c < w.heap.size) → PRels w (fun c => ¬ CM c) vs args →
      Calls P f vs.toArray w fun e w' => ∃ v γ, e = .returned v ∧ PostC CM w γ blks w' v res

/-- The same, where what it returns leads to nothing that its arguments lead to, wherever these lie. -/
def GivesF (P : Program) (f : Nat) (args : List PV) (res : V) (blks : List Blk) : Prop :=
  ∃ fn, P.funcs[f]? = some fn ∧ (fn.name == "runtime.NumGoroutine") = false ∧ fn.body.isNone = false ∧
    ∀ (CM : Nat → Prop) (w : World) (vs : List Value), (∀ c, CM c → c < w.heap.size) → PRels w (fun _ => True) vs args →
      Calls P f vs.toArray w fun e w' => ∃ v γ, e = .returned v ∧ PostC CM w γ blks w' v res

/-! ### What a program comes to -/

def Prog.exec (P : Program) : Prog → HpF → V → HpF → Fp → Prop
  | .ret u, H, v, H', fp => v = u ∧ H' = H ∧ fp = ⟨[], []⟩
  | .get b k, H, v, H', fp => ∃ blk fp', H b = some blk ∧ (k blk).exec P H v H' fp' ∧ fp = ⟨b :: fp'.rd, fp'.wr⟩
  | .put b x k, H, v, H', fp => ∃ fp', k.exec P (upd H b x) v H' fp' ∧ fp = ⟨fp'.rd, b :: fp'.wr⟩
  | .req p k, H, v, H', fp => p ∧ k.exec P H v H' fp
  | .call f args br base, H, v, H', fp => ∃ res blks, (Gives P f args res blks ∧ (br = true → res.flat = true ∧ blks = []) ∨ GivesF P f args res blks) ∧ blks.length ≤ 4 ∧
      v = res.shift base ∧ H' = updL H base (blks.map (Blk.shift base)) ∧ fp = ⟨[], (List.range blks.length).map (base + ·)⟩
  | .fail, _, _, _, _ => False

theorem look_setL {α : Type} : ∀ (s : List (Nat × α)) (b : Nat) (x : α), look (setL s b x) = upd (look s) b x
  | [], b, x => by
    funext j
    by_cases h : j = b
    · simp [setL, look, upd, h]
    · have : ¬ b = j := fun e => h e.symm
      simp [setL, look, upd, h, this]
  | (k, u) :: s, b, x => by
    funext j
    by_cases h : k = b
    · subst h
      simp only [setL, if_true, look, upd]
      by_cases hj : j = k
      · simp [hj]
      · have : ¬ k = j := fun e => hj e.symm
        simp [hj, this]
    · simp only [setL, if_neg h, look, upd, look_setL s b x]
      by_cases hj : k = j
      · subst hj
        simp [h]
      · simp [hj]

theorem updL_of_lt {α : Type} : ∀ (l : List α) (H : Nat → Option α) (base j : Nat), j < base → updL H base l j = H j
  | [], _, _, _, _ => rfl
  | x :: l, H, base, j, h => by
    rw [updL, updL_of_lt l _ _ _ (by omega)]
    simp only [upd, if_neg (show ¬ j = base by omega)]

theorem updL_ge {α : Type} : ∀ (l : List α) (H : Nat → Option α) (base j : Nat), base + l.length ≤ j → updL H base l j = H j
  | [], _, _, _, _ => rfl
  | x :: l, H, base, j, h => by
    simp only [List.length_cons] at h
    rw [updL, updL_ge l _ _ _ (by omega)]
    simp only [upd, if_neg (show ¬ j = base by omega)]

theorem updL_at {α : Type} : ∀ (l : List α) (H : Nat → Option α) (base i : Nat), i < l.length → updL H base l (base + i) = l[i]?
  | [], _, _, i, h => by simp at h
  | x :: l, H, base, 0, _ => by
    rw [updL, Nat.add_zero, updL_of_lt l _ _ _ (by omega)]
    simp [upd]
  | x :: l, H, base, i + 1, h => by
    rw [updL, show base + (i + 1) = base + 1 + i by omega, updL_at l _ _ _ (by simpa using h)]
    simp

/-- What is not written stays. -/
theorem Prog.exec_keeps {P : Program} : ∀ (p : Prog) {H : HpF} {v : V} {H' : HpF} {fp : Fp}, p.exec P H v H' fp → ∀ b, b ∉ fp.wr → H' b = H b
  | .ret u, H, v, H', fp, h, b, _ => by rw [h.2.1]
  | .get b' k, H, v, H', fp, h, b, hb => by
    obtain ⟨blk, fp', _, h2, rfl⟩ := h
    exact exec_keeps (k blk) h2 b hb
  | .put b' x k, H, v, H', fp, h, b, hb => by
    obtain ⟨fp', h2, rfl⟩ := h
    simp only [List.mem_cons, not_or] at hb
    rw [exec_keeps k h2 b hb.2]
    simp only [upd, if_neg hb.1]
  | .req p k, H, v, H', fp, h, b, hb => exec_keeps k h.2 b hb
  | .call f args br base, H, v, H', fp, h, b, hb => by
    obtain ⟨res, blks, _, _, _, rfl, rfl⟩ := h
    rcases Nat.lt_or_ge b base with h1 | h1
    · exact updL_of_lt _ _ _ _ h1
    · rcases Nat.lt_or_ge b (base + blks.length) with h2 | h2
      · exact absurd (List.mem_map.2 ⟨b - base, List.mem_range.2 (by omega), by omega⟩) hb
      · exact updL_ge _ _ _ _ (by simpa using h2)
  | .fail, _, _, _, _, h, _, _ => h.elim

/-- Only what the footprint names is looked at. -/
theorem Prog.exec_local {P : Program} : ∀ (p : Prog) {H : HpF} {v : V} {H' : HpF} {fp : Fp}, p.exec P H v H' fp → ∀ (G : HpF),
    (∀ b, b ∈ fp.rd → G b = H b) → ∃ G', p.exec P G v G' fp ∧ ∀ b, b ∈ fp.wr → G' b = H' b
  | .ret u, H, v, H', fp, h, G, _ => ⟨G, ⟨h.1, rfl, h.2.2⟩, fun b hb => by rw [h.2.2] at hb; simp at hb⟩
  | .get b' k, H, v, H', fp, h, G, hG => by
    obtain ⟨blk, fp', h1, h2, rfl⟩ := h
    obtain ⟨G', g1, g2⟩ := exec_local (k blk) h2 G (fun b hb => hG b (by simp [hb]))
    exact ⟨G', ⟨blk, fp', (hG b' (by simp)).trans h1, g1, rfl⟩, g2⟩
  | .put b' x k, H, v, H', fp, h, G, hG => by
    obtain ⟨fp', h2, rfl⟩ := h
    obtain ⟨G', g1, g2⟩ := exec_local k h2 (upd G b' x) (fun b hb => by
      simp only [upd]
      split
      · rfl
      · exact hG b hb)
    refine ⟨G', ⟨fp', g1, rfl⟩, fun b hb => ?_⟩
    by_cases hb' : b ∈ fp'.wr
    · exact g2 b hb'
    · have hbb : b = b' := by simpa [hb'] using hb
      rw [exec_keeps k g1 b hb', exec_keeps k h2 b hb']
      simp [upd, hbb]
  | .req p k, H, v, H', fp, h, G, hG => by
    obtain ⟨G', g1, g2⟩ := exec_local k h.2 G hG
    exact ⟨G', ⟨h.1, g1⟩, g2⟩
  | .call f args br base, H, v, H', fp, h, G, hG => by
    obtain ⟨res, blks, h1, h3, h4, rfl, rfl⟩ := h
    refine ⟨_, ⟨res, blks, h1, h3, h4, rfl, rfl⟩, fun b hb => ?_⟩
    obtain ⟨i, hi, rfl⟩ := List.mem_map.1 hb
    have hi := List.mem_range.1 hi
    rw [updL_at _ _ _ _ (by simpa using hi), updL_at _ _ _ _ (by simpa using hi)]
  | .fail, _, _, _, _, h, _, _ => h.elim

/-! ### Verification conditions, and the run of what needs none -/

def pushL (H : Hp) (base : Nat) : List Blk → Hp
  | [] => H
  | x :: xs => pushL (setL H base x) (base + 1) xs

theorem look_pushL (base : Nat) : ∀ (xs : List Blk) (H : Hp), look (pushL H base xs) = updL (look H) base xs := by
  intro xs
  induction xs generalizing base with
  | nil => intro H; rfl
  | cons x xs ih => intro H; rw [pushL, updL, ih, look_setL]

/-- A call, before its contract is known. -/
def CallK (P : Program) (f : Nat) (args : List PV) (br : Bool) (base : Nat) (H : Hp) (K : V → Hp → Fp → Prop) : Prop :=
  ∃ res blks, (Gives P f args res blks ∧ (br = true → res.flat = true ∧ blks = []) ∨ GivesF P f args res blks) ∧ blks.length ≤ 4 ∧
    K (res.shift base) (pushL H base (blks.map (Blk.shift base))) ⟨[], (List.range blks.length).map (base + ·)⟩

def Prog.vc (P : Program) : Prog → Hp → (V → Hp → Fp → Prop) → Prop
  | .ret u, H, K => K u H ⟨[], []⟩
  | .get b k, H, K => match look H b with
    | some blk => (k blk).vc P H fun v H' fp => K v H' ⟨b :: fp.rd, fp.wr⟩
    | none => False
  | .put b x k, H, K => k.vc P (setL H b x) fun v H' fp => K v H' ⟨fp.rd, b :: fp.wr⟩
  | .req p k, H, K => p ∧ k.vc P H K
  | .call f args br base, H, K => CallK P f args br base H K
  | .fail, _, _ => False

theorem Prog.vc_exec {P : Program} : ∀ (p : Prog) {H : Hp} {K : V → Hp → Fp → Prop}, p.vc P H K → ∃ v H' fp, p.exec P (look H) v (look H') fp ∧ K v H' fp
  | .ret u, H, K, h => ⟨u, H, _, ⟨rfl, rfl, rfl⟩, h⟩
  | .get b k, H, K, h => by
    rw [Prog.vc] at h
    split at h
    · rename_i blk h1
      obtain ⟨v, H', fp, g1, g2⟩ := vc_exec (k blk) h
      exact ⟨v, H', _, ⟨blk, fp, h1, g1, rfl⟩, g2⟩
    · exact h.elim
  | .put b x k, H, K, h => by
    obtain ⟨v, H', fp, g1, g2⟩ := vc_exec k h
    rw [look_setL] at g1
    exact ⟨v, H', _, ⟨fp, g1, rfl⟩, g2⟩
  | .req p k, H, K, h => by
    obtain ⟨v, H', fp, g1, g2⟩ := vc_exec k h.2
    exact ⟨v, H', fp, ⟨h.1, g1⟩, g2⟩
  | .call f args br base, H, K, h => by
    obtain ⟨res, blks, h1, h3, h5⟩ := h
    exact ⟨_, _, _, ⟨res, blks, h1, h3, rfl, look_pushL base _ H, rfl⟩, h5⟩
  | .fail, _, _, h => h.elim

end Go.Vs

/- Types as the program has them; what one operation owes; the plain steps of the relations (a larger set of names, a new block, a block that is written). -/
namespace Go.Vs

/-! ### Types -/

def D.toVal : D → Value
  | .bool b => .bool b
  | .int k n => .int k n
  | .str s => .string s
  | .nilSl => .slice none 0 0
  | .nilMap => .map none
  | .nilFn => .nilFunc
  | .nilPtr => .pointer none
  | _ => undef

def isAggD : TypeDesc → Bool
  | .struct _ | .array _ _ => true
  | _ => false

def zeroVal (ty : Ty) : Value := if ty.agg then .agg (ty.zero.map D.toVal).toArray else ((ty.zero.map D.toVal).head?).getD undef

/-- Two lists of numbers and bools, of the same kinds: are they alike? -/
def eqVals : List Value → List Value → Option Bool
  | [], [] => some true
  | .int k a :: xs, .int k' b :: ys => if k = k' then (eqVals xs ys).map fun r => decide (a = b) && r else none
  | .bool a :: xs, .bool b :: ys => (eqVals xs ys).map fun r => (a == b) && r
  | _, _ => none

/-- Are the values of the kinds that a type has? -/
def kindsV : List D → List Value → Bool
  | [], [] => true
  | .int k _ :: zs, .int k' _ :: xs => decide (k = k') && kindsV zs xs
  | .bool _ :: zs, .bool _ :: xs => kindsV zs xs
  | _, _ => false

/-- Values of this type are compared cell by cell. -/
def EqOk (P : Program) (t : Nat) (zs : List D) : Prop :=
  P.eqGuardType P.depth t = false ∧ ∀ (w : World) (xs ys : List Value) (r : Bool), kindsV zs xs = true → eqVals xs ys = some r →
    (Op.equal t (.agg xs.toArray) (.agg ys.toArray)).run P w = .ok r w

def ShOk (P : Program) (d : TypeDesc) : Sh → Prop
  | .int k => d = .int k
  | .bool => d = .bool
  | .str => d = .string
  | .strct fs => ∃ fields, d = .struct fields ∧
      fields.toList.map (fun f => (f.offset, (P.info? f.type).map (·.size), (P.underlying f.type).map isAggD)) = fs.map (fun p => (p.1, some p.2.1, some p.2.2))
  | .arr n esz eagg => ∃ e i, d = .array n e ∧ P.info? e = some i ∧ i.size = esz ∧ (P.underlying e).map isAggD = some eagg
  | .slc esz eb ez => ∃ e i z, d = .slice e ∧ P.info? e = some i ∧ i.size = esz ∧ i.bytes = eb ∧ i.zero = some z ∧ z.cells = (ez.map D.toVal).toArray ∧ 0 < esz ∧
      ez.all D.flat = true ∧ ez.length = esz ∧ 0 < eb
  | .map kk zero => ∃ k e i, d = .map k e ∧ P.underlying k = some (.int kk) ∧ P.info? e = some i ∧ i.zero = some zero.toVal ∧ zero.flat = true
  | .unit => True
  | .other => True

structure TyOk (P : Program) (t : Nat) (ty : Ty) : Prop where
  info : ∃ i, P.info? t = some i ∧ i.size = ty.size ∧ i.zero = some (zeroVal ty)
  und : ∃ d, P.underlying t = some d ∧ isAggD d = ty.agg ∧ ShOk P d ty.sh
  flat : ty.zero.all D.flat = true
  one : ty.agg = false → ty.zero.length = 1 ∧ ty.size = 1
  len : ty.zero.length = ty.size
  eqf : ty.eqf = true → EqOk P t ty.zero

/-- The table holds what the program holds; a type that it lacks is asked of nothing. -/
def TvOk (P : Program) (tv : Tv) : Prop := ∀ t ty, look tv t = some ty → TyOk P t ty

theorem tyOf_sh {P : Program} {tv : Tv} (h : TvOk P tv) {t : Nat} {s : Sh} (hs : (tyOf tv t).sh = s) (hn : s ≠ .other) : TyOk P t (tyOf tv t) := by
  unfold tyOf at *
  cases hl : look tv t with
  | none => rw [hl] at hs; simp at hs; exact absurd hs.symm hn
  | some ty => simpa using h t ty hl

theorem tyOf_pos {P : Program} {tv : Tv} (h : TvOk P tv) {t : Nat} (hs : 0 < (tyOf tv t).size) : TyOk P t (tyOf tv t) := by
  unfold tyOf at *
  cases hl : look tv t with
  | none => rw [hl] at hs; simp at hs
  | some ty => simpa using h t ty hl

section
variable {P : Program} {w : World}
theorem run_und {t : Nat} {d : TypeDesc} (h : P.underlying t = some d) : (underlying t).run P w = .ok d w := by simp [underlying, h]
theorem run_info {t : Nat} {i : TypeInfo} (h : P.info? t = some i) : (typeInfo t).run P w = .ok i w := by simp [typeInfo, h]
theorem run_size {t : Nat} {i : TypeInfo} (h : P.info? t = some i) : (sizeOf t).run P w = .ok i.size w := by simp [sizeOf, run_info h]
theorem run_zero {t : Nat} {i : TypeInfo} {z : Value} (h : P.info? t = some i) (hz : i.zero = some z) : (zeroValue t).run P w = .ok z w := by
  simp [zeroValue, run_info h, hz]
theorem run_isAgg {t : Nat} {d : TypeDesc} (h : P.underlying t = some d) : (isAgg t).run P w = .ok (isAggD d) w := by
  simp only [isAgg, Sem.run_bind, run_und h, Result.andThen_ok]
  cases d <;> rfl
end

theorem Value.oneCell'_of {v : Value} (h : One v) : v.oneCell' = true := by
  cases v <;> first | rfl | exact absurd rfl (h.1 _) | exact absurd rfl (h.2 _)

/-! ### Constants -/

theorem D.ofConst_rel {w : World} {ok : Nat → Prop} {v : Value} {x : D} (h : D.ofConst v = some x) : DRel w ok v x := by
  unfold D.ofConst at h
  split at h <;> first | (cases h; constructor) | (simp at h)

theorem D.toVal_rel {w : World} {ok : Nat → Prop} {x : D} (h : x.flat = true) : DRel w ok x.toVal x := by
  cases x <;> first | constructor | (simp [D.flat] at h)

theorem mapM_get {α β : Type} {f : α → Option β} : ∀ {l : List α} {r : List β}, l.mapM f = some r → r.length = l.length ∧ ∀ (j : Nat) (y : β), r[j]? = some y → ∃ a, l[j]? = some a ∧ f a = some y
  | [], r, h => by simp at h; subst h; simp
  | a :: l, r, h => by
    simp only [List.mapM_cons, Option.bind_eq_bind, Option.bind_eq_some_iff, Option.pure_def, Option.some.injEq] at h
    obtain ⟨b, hb, bs, hbs, rfl⟩ := h
    obtain ⟨h1, h2⟩ := mapM_get hbs
    refine ⟨by simp [h1], fun j y hj => ?_⟩
    cases j with
    | zero => simp at hj; subst hj; exact ⟨a, by simp, hb⟩
    | succ j => simpa using h2 j y (by simpa using hj)

theorem V.ofConst_rel {x : Cx} (v : Value) : VRel x v (V.ofConst v) := by
  unfold V.ofConst
  split
  · rename_i cs
    split
    · rename_i ds hd
      obtain ⟨h1, h2⟩ := mapM_get hd
      refine .agg cs _ (by simp [h1]) fun j y hj => ?_
      rw [List.getElem?_map] at hj
      cases hds : ds[j]? with
      | none => rw [hds] at hj; simp at hj
      | some d =>
        rw [hds] at hj
        simp at hj
        subst hj
        obtain ⟨a, ha, hf⟩ := h2 j d hds
        have : cs.getD j undef = a := by
          have h3 : cs[j]? = some a := by simpa using ha
          simp [Array.getD_eq_getD_getElem?, h3]
        rw [this]
        exact .d _ _ (D.ofConst_rel hf)
    · exact .junk _
  · split
    · rename_i y hy
      exact .c _ _ (.d _ _ (D.ofConst_rel hy))
    · exact .junk _

theorem SRel.oper {x : Cx} {tm : Nat → V} {a : Act} (h : SRel x tm a) (o : Operand) : VRel x (a.eval o) (operV tm o) := by
  cases o with
  | tmp t => exact h.tm t
  | const v => exact V.ofConst_rel v
  | global g => exact .junk _
  | func f => exact .c _ _ (.d _ _ (.fn f #[] [] rfl fun j x hj => by simp at hj))

/-! ### What an operation owes -/

def putF (dst : Option Nat) (v : V) (tm : Nat → V) : Nat → V :=
  match dst with
  | some d => fun t => if t = d then v else tm t
  | none => tm

def Cx.more (x : Cx) (base : Nat) : Cx := { x with U := fun b => x.U b ∨ (base ≤ b ∧ b < base + 4) }

/-- In state a, over x, operation o leaves v in its slot, and blocks hp'. -/
def Sim (P : Program) (o : Oper) (a : Act) (x : Cx) (tm : Nat → V) (base : Nat) (v : V) (hp' : HpF) : Prop :=
  ∀ (K : Act → World → Prop) (Q : Exit → Act → World → Prop),
    (∀ a' w' γ', SRel ⟨w', γ', hp', x.CM, (x.more base).U⟩ (putF o.dst v tm) a' → Fr x ⟨w', γ', hp', x.CM, (x.more base).U⟩ →
      Ev x.U x ⟨w', γ', hp', x.CM, (x.more base).U⟩ → a'.tmps.size = a.tmps.size → K a' w') → o.wp P a x.w K Q

theorem tm_put {x' : Cx} {tm : Nat → V} {a : Act} {dst : Option Nat} {v : V} {v' : Value} (h : ∀ t, VRel x' (a.tmps.getD t undef) (tm t)) (hv : VRel x' v' v)
    (hd : ∀ d, dst = some d → d < a.tmps.size) : ∀ t, VRel x' ((a.put dst v').tmps.getD t undef) (putF dst v tm t) := by
  intro t
  cases dst with
  | none => exact h t
  | some d =>
    have hd := hd d rfl
    simp only [Act.put, putF, Array.getD_eq_getD_getElem?, Array.getElem?_setIfInBounds]
    by_cases ht : t = d
    · subst ht
      simp [hd, hv]
    · have : ¬ d = t := fun e => ht e.symm
      rw [if_neg this, if_neg ht]
      simpa [Array.getD_eq_getD_getElem?] using h t

theorem Act.put_size (a : Act) (dst : Option Nat) (v : Value) : (a.put dst v).tmps.size = a.tmps.size := by cases dst <;> simp [Act.put]
theorem Act.put_defers' (a : Act) (dst : Option Nat) (v : Value) : (a.put dst v).defers = a.defers := by cases dst <;> rfl

theorem Sim.of_value {P : Program} {o : Oper} {a : Act} {x : Cx} {tm : Nat → V} {base : Nat} {v : V} {hp' : HpF} {v' : Value} {w' : World} {γ' : Gam}
    (hs : SRel x tm a) (hd : ∀ d, o.dst = some d → d < a.tmps.size) (hr : (execOp a.eval o).run P x.w = .ok (.value v') w')
    (hh : HRel ⟨w', γ', hp', x.CM, (x.more base).U⟩) (hv : VRel ⟨w', γ', hp', x.CM, (x.more base).U⟩ v' v)
    (hf : Fr x ⟨w', γ', hp', x.CM, (x.more base).U⟩) (he : Ev x.U x ⟨w', γ', hp', x.CM, (x.more base).U⟩) : Sim P o a x tm base v hp' := by
  intro K Q hK
  unfold Oper.wp
  rw [hr, Oper.upon_value]
  exact hK _ _ γ' ⟨hh, tm_put (fun t => (hs.tm t).on hf he) hv hd, (Act.put_defers' _ _ _).trans hs.defers⟩ hf he (Act.put_size _ _ _)

theorem Sim.of_skip {P : Program} {o : Oper} {a : Act} {x : Cx} {tm : Nat → V} {base : Nat} {hp' : HpF} {w' : World} {γ' : Gam}
    (hs : SRel x tm a) (hd : ∀ d, o.dst = some d → d < a.tmps.size) (hr : (execOp a.eval o).run P x.w = .ok .skip w')
    (hh : HRel ⟨w', γ', hp', x.CM, (x.more base).U⟩)
    (hf : Fr x ⟨w', γ', hp', x.CM, (x.more base).U⟩) (he : Ev x.U x ⟨w', γ', hp', x.CM, (x.more base).U⟩) : Sim P o a x tm base .junk hp' := by
  intro K Q hK
  unfold Oper.wp
  rw [hr, Oper.upon_skip]
  exact hK _ _ γ' ⟨hh, tm_put (fun t => (hs.tm t).on hf he) (.junk _) hd, (Act.put_defers' _ _ _).trans hs.defers⟩ hf he (Act.put_size _ _ _)

/-! ### More names -/

theorem Ev.more {x : Cx} (base : Nat) : Ev x.U x (x.more base) := ⟨fun _ h => .inl h, fun b _ => by
  have := EvB.refl x b
  unfold EvB at *
  exact this⟩
theorem Fr.more {x : Cx} (base : Nat) : Fr x (x.more base) := ⟨rfl, rfl, rfl, Nat.le_refl _, fun _ _ _ => rfl, fun _ _ h => h, fun _ arr _ _ h => ⟨arr, h, rfl⟩, rfl, fun _ arr _ _ h => .inr ⟨arr, h⟩⟩
theorem HRel.more {x : Cx} (h : HRel x) (base : Nat) : HRel (x.more base) :=
  ⟨fun b blk hb => ⟨.inl (h.hp b blk hb).1, (h.hp b blk hb).2.on (Fr.more base) (Ev.more base) rfl fun _ _ => rfl⟩, h.inj, h.lt, h.cm⟩

/-- An operation that only reads. -/
theorem Sim.of_read {P : Program} {o : Oper} {a : Act} {x : Cx} {tm : Nat → V} {base : Nat} {v : V} {v' : Value}
    (hs : SRel x tm a) (hd : ∀ d, o.dst = some d → d < a.tmps.size) (hr : (execOp a.eval o).run P x.w = .ok (.value v') x.w) (hv : VRel x v' v) :
    Sim P o a x tm base v x.hp :=
  Sim.of_value (γ' := x.γ) hs hd hr (hs.toHRel.more base) (hv.on (Fr.more base) (Ev.more base)) (Fr.more base) (Ev.more base)

end Go.Vs

/- A new block, a block that is written, a block that is frozen: what becomes of the relations. -/
namespace Go.Vs

/-- Two worlds that differ in memory alone. -/
structure Like (w w' : World) : Prop where
  os : w'.os = w.os
  tape : w'.tape = w.tape
  output : w'.output = w.output

theorem upd_same {α : Type} (H : Nat → Option α) (b : Nat) (x : α) : upd H b x b = some x := by simp [upd]
theorem upd_other {α : Type} (H : Nat → Option α) {b j : Nat} (x : α) (h : j ≠ b) : upd H b x j = H j := by simp [upd, h]

theorem EvB.same {x x' : Cx} {b : Nat} (h : x'.hp b = x.hp b) (hg : x'.γ b = x.γ b) : EvB x x' b := by
  have := EvB.refl x b
  unfold EvB at *
  rw [h, hg]
  exact this

theorem lt_of_heap {w : World} {c : Nat} {o : Obj} (h : w.heap[c]? = some o) : c < w.heap.size := (Array.getElem?_eq_some_iff.1 h).1

section new
variable {x : Cx} {w' : World} {obj : Obj} {b : Nat} {blk : Blk} {U' : Nat → Prop}

theorem new_fr (hl : Like x.w w') (hw : w'.heap = x.w.heap.push obj) (ho : ∀ arr e fr, obj = .cells arr e fr → fr = (0, 0) := by intro _ _ _ h; cases h; try rfl) :
    Fr x ⟨w', upd x.γ b x.w.heap.size, upd x.hp b blk, x.CM, U'⟩ where
  os := hl.os
  tape := hl.tape
  output := hl.output
  size := by simp [hw]
  same := fun c hc _ => by
    show w'.heap[c]? = _
    rw [hw, Array.getElem?_push, if_neg (by omega)]
  muts := fun c hc ⟨b', blk', h1, h2, h3⟩ => by
    by_cases hb : b' = b
    · subst hb
      simp only [upd_same, Option.some.injEq] at h3
      omega
    · exact ⟨b', blk', by simpa [upd, hb] using h1, h2, by simpa [upd, hb] using h3⟩
  sz := fun c arr e fr h => ⟨arr, by
    have := lt_of_heap h
    show w'.heap[c]? = _
    rw [hw, Array.getElem?_push, if_neg (by omega)]
    exact h, rfl⟩
  cm := rfl
  orig := fun c arr e fr h => by
    have h : w'.heap[c]? = _ := h
    rw [hw, Array.getElem?_push] at h
    split at h
    · cases h
      exact .inl (ho _ _ _ rfl)
    · exact .inr ⟨arr, h⟩

theorem new_ev (hU : ∀ j, x.U j → U' j) (hb : x.U b → EvB x ⟨w', upd x.γ b x.w.heap.size, upd x.hp b blk, x.CM, U'⟩ b) :
    Ev x.U x ⟨w', upd x.γ b x.w.heap.size, upd x.hp b blk, x.CM, U'⟩ :=
  ⟨hU, fun j hj => by
    by_cases h : j = b
    · subst h; exact hb hj
    · exact EvB.same (upd_other _ _ h) (upd_other _ _ h)⟩

theorem new_h (h : HRel x) (hl : Like x.w w') (hw : w'.heap = x.w.heap.push obj) (hU : ∀ j, x.U j → U' j) (hUb : U' b)
    (hb : x.U b → EvB x ⟨w', upd x.γ b x.w.heap.size, upd x.hp b blk, x.CM, U'⟩ b)
    (hB : BRel ⟨w', upd x.γ b x.w.heap.size, upd x.hp b blk, x.CM, U'⟩ b blk) (ho : ∀ arr e fr, obj = .cells arr e fr → fr = (0, 0) := by intro _ _ _ h; cases h; try rfl) :
    HRel ⟨w', upd x.γ b x.w.heap.size, upd x.hp b blk, x.CM, U'⟩ where
  hp := fun j blk' hj => by
    by_cases hjb : j = b
    · subst hjb
      simp only [upd_same, Option.some.injEq] at hj
      subst hj
      exact ⟨hUb, hB⟩
    · have hj' : x.hp j = some blk' := by simpa [upd, hjb] using hj
      refine ⟨hU j (h.hp j blk' hj').1, (h.hp j blk' hj').2.on (new_fr hl hw ho) (new_ev hU hb) (upd_other _ _ hjb) fun c hc => ?_⟩
      have := (h.lt j c hc).1
      show w'.heap[c]? = _
      rw [hw, Array.getElem?_push, if_neg (by omega)]
  inj := fun j j' c hj hj' => by
    have hj : upd x.γ b x.w.heap.size j = some c := hj
    have hj' : upd x.γ b x.w.heap.size j' = some c := hj'
    by_cases h1 : j = b <;> by_cases h2 : j' = b
    · rw [h1, h2]
    · subst h1
      simp only [upd_same, Option.some.injEq] at hj
      rw [upd_other _ _ h2] at hj'
      have := (h.lt j' c hj').1
      omega
    · subst h2
      simp only [upd_same, Option.some.injEq] at hj'
      rw [upd_other _ _ h1] at hj
      have := (h.lt j c hj).1
      omega
    · rw [upd_other _ _ h1] at hj
      rw [upd_other _ _ h2] at hj'
      exact h.inj j j' c hj hj'
  lt := fun j c hj => by
    have hj : upd x.γ b x.w.heap.size j = some c := hj
    show c < w'.heap.size ∧ ¬ x.CM c
    by_cases h1 : j = b
    · subst h1
      simp only [upd_same, Option.some.injEq] at hj
      subst hj
      exact ⟨by simp [hw], fun hc => Nat.lt_irrefl _ (h.cm _ hc)⟩
    · rw [upd_other _ _ h1] at hj
      have := h.lt j c hj
      exact ⟨by simp [hw]; omega, this.2⟩
  cm := fun c hc => by
    have := h.cm c hc
    show c < w'.heap.size
    simp [hw]
    omega
end new

/-- One block was written. -/
structure Wrote (w w' : World) (c : Nat) (obj : Obj) : Prop extends Like w w' where
  size : w'.heap.size = w.heap.size
  here : w'.heap[c]? = some obj
  other : ∀ d, d ≠ c → w'.heap[d]? = w.heap[d]?

section set
variable {x : Cx} {w' : World} {obj : Obj} {b c : Nat} {blk blk' : Blk} {U' : Nat → Prop}

theorem set_fr (hw : Wrote x.w w' c obj) (hb : x.hp b = some blk) (hm : blk.mu = true) (hg : x.γ b = some c)
    (hz : ∀ arr e fr, x.w.heap[c]? = some (.cells arr e fr) → ∃ arr', obj = .cells arr' e fr ∧ arr'.size = arr.size)
    (ho : ∀ arr e fr, obj = .cells arr e fr → fr = (0, 0) := by intro _ _ _ h; cases h; try rfl) :
    Fr x ⟨w', x.γ, upd x.hp b blk', x.CM, U'⟩ where
  os := hw.os
  tape := hw.tape
  output := hw.output
  size := Nat.le_of_eq hw.size.symm
  same := fun d hd hn => hw.other d fun e => hn ⟨b, blk, hb, hm, e ▸ hg⟩
  muts := fun d hd ⟨b', blk1, h1, h2, h3⟩ => by
    by_cases hbb : b' = b
    · subst hbb; exact ⟨b', blk, hb, hm, h3⟩
    · exact ⟨b', blk1, by simpa [upd, hbb] using h1, h2, h3⟩
  sz := fun d arr e fr h => by
    show ∃ arr', w'.heap[d]? = _ ∧ _
    by_cases hcd : d = c
    · subst hcd
      obtain ⟨arr', h1, h2⟩ := hz arr e fr h
      exact ⟨arr', by rw [hw.here, h1], h2⟩
    · exact ⟨arr, by rw [hw.other d hcd]; exact h, rfl⟩
  cm := rfl
  orig := fun d arr e fr h => by
    have h : w'.heap[d]? = _ := h
    by_cases hcd : d = c
    · subst hcd
      rw [hw.here] at h
      cases h
      exact .inl (ho _ _ _ rfl)
    · rw [hw.other d hcd] at h
      exact .inr ⟨arr, h⟩

theorem set_ev (hU : ∀ j, x.U j → U' j) (hb : EvB x ⟨w', x.γ, upd x.hp b blk', x.CM, U'⟩ b) : Ev x.U x ⟨w', x.γ, upd x.hp b blk', x.CM, U'⟩ :=
  ⟨hU, fun j hj => by
    by_cases h : j = b
    · subst h; exact hb
    · exact EvB.same (upd_other _ _ h) rfl⟩

theorem set_h (h : HRel x) (hw : Wrote x.w w' c obj) (hb : x.hp b = some blk) (hm : blk.mu = true) (hg : x.γ b = some c)
    (hz : ∀ arr e fr, x.w.heap[c]? = some (.cells arr e fr) → ∃ arr', obj = .cells arr' e fr ∧ arr'.size = arr.size)
    (hU : ∀ j, x.U j → U' j) (he : EvB x ⟨w', x.γ, upd x.hp b blk', x.CM, U'⟩ b)
    (hB : BRel ⟨w', x.γ, upd x.hp b blk', x.CM, U'⟩ b blk') (ho : ∀ arr e fr, obj = .cells arr e fr → fr = (0, 0) := by intro _ _ _ h; cases h; try rfl) : HRel ⟨w', x.γ, upd x.hp b blk', x.CM, U'⟩ where
  hp := fun j blk1 hj => by
    by_cases hjb : j = b
    · subst hjb
      simp only [upd_same, Option.some.injEq] at hj
      subst hj
      exact ⟨hU _ (h.hp _ _ hb).1, hB⟩
    · have hj' : x.hp j = some blk1 := by simpa [upd, hjb] using hj
      exact ⟨hU j (h.hp j blk1 hj').1, (h.hp j blk1 hj').2.on (set_fr hw hb hm hg hz ho) (set_ev hU he) rfl fun d hd =>
        hw.other d fun e => hjb (h.inj j b d hd (e ▸ hg))⟩
  inj := h.inj
  lt := fun j d hj => ⟨by have := (h.lt j d hj).1; show d < w'.heap.size; rw [hw.size]; exact this, (h.lt j d hj).2⟩
  cm := fun d hd => by have := h.cm d hd; show d < w'.heap.size; rw [hw.size]; exact this
end set

section freeze
variable {x : Cx} {b esz : Nat} {es : List (List D)} {fz : Bool}

theorem fz_fr (hb : x.hp b = some (.sl esz es fz)) : Fr x { x with hp := upd x.hp b (.sl esz es true) } where
  os := rfl
  tape := rfl
  output := rfl
  size := Nat.le_refl _
  same := fun _ _ _ => rfl
  muts := fun d hd ⟨b', blk1, h1, h2, h3⟩ => by
    by_cases hbb : b' = b
    · subst hbb
      simp only [upd_same, Option.some.injEq] at h1
      subst h1
      simp [Blk.mu] at h2
    · exact ⟨b', blk1, by simpa [upd, hbb] using h1, h2, h3⟩
  sz := fun _ arr _ _ h => ⟨arr, h, rfl⟩
  cm := rfl
  orig := fun _ arr _ _ h => .inr ⟨arr, h⟩

theorem fz_ev (hb : x.hp b = some (.sl esz es fz)) : Ev x.U x { x with hp := upd x.hp b (.sl esz es true) } :=
  ⟨fun _ h => h, fun j hj => by
    by_cases h : j = b
    · subst h
      unfold EvB
      rw [hb]
      exact .inr ⟨es, true, upd_same _ _ _, .inl ⟨rfl, rfl⟩⟩
    · exact EvB.same (upd_other _ _ h) rfl⟩

theorem fz_h (h : HRel x) (hb : x.hp b = some (.sl esz es fz)) : HRel { x with hp := upd x.hp b (.sl esz es true) } where
  hp := fun j blk1 hj => by
    by_cases hjb : j = b
    · subst hjb
      simp only [upd_same, Option.some.injEq] at hj
      subst hj
      have := h.hp _ _ hb
      exact ⟨this.1, (BRel.on (fz_fr hb) (fz_ev hb) rfl (fun _ _ => rfl) this.2 : BRel { x with hp := upd x.hp j (.sl esz es true) } j (.sl esz es fz))⟩
    · have hj' : x.hp j = some blk1 := by simpa [upd, hjb] using hj
      exact ⟨(h.hp j blk1 hj').1, (h.hp j blk1 hj').2.on (fz_fr hb) (fz_ev hb) rfl fun _ _ => rfl⟩
  inj := h.inj
  lt := h.lt
  cm := h.cm

/-- A frozen block may be read by everyone. -/
theorem fz_ok (h : HRel x) (hb : x.hp b = some (.sl esz es true)) {c : Nat} (hg : x.γ b = some c) : x.ok c :=
  ⟨(h.lt b c hg).2, fun ⟨b', blk, h1, h2, h3⟩ => by
    have := h.inj b b' c hg h3
    subst this
    rw [hb] at h1
    cases h1
    simp [Blk.mu] at h2⟩
end freeze

/-- Elements i to i+n of a block's slice, as data. -/
theorem sl_part {x : Cx} {okk : Nat → Prop} {b c off n cap esz : Nat} {es : List (List D)} {fz : Bool} (hB : BRel x b (.sl esz es fz)) (hg : x.γ b = some c)
    (h1 : off + n ≤ es.length) (h2 : n ≤ cap) (hok : okk c) (hsub : ∀ d, x.ok d → okk d) :
    DRel x.w okk (.slice (some ⟨c, off * esz, none⟩) n cap) (.sl esz ((es.drop off).take n)) := by
  obtain ⟨hlen, h | ⟨c', arr, e, hg', hw, hsz, hr⟩⟩ := hB
  · rw [hg] at h; simp at h
  · rw [hg] at hg'
    cases hg'
    have hl : ((es.drop off).take n).length = n := by simp; omega
    have := DRel.sl (w := x.w) (ok := okk) c (off * esz) cap esz ((es.drop off).take n) arr e (0, 0) (by omega) hok hw
      (by rw [hl, ← Nat.add_mul]; exact Nat.le_trans (Nat.mul_le_mul_right _ h1) hsz)
      (fun cs hcs => hlen cs (List.mem_of_mem_drop (List.mem_of_mem_take hcs)))
      (fun i cs j y hi hj => by
        rw [List.getElem?_take] at hi
        split at hi
        · rw [List.getElem?_drop] at hi
          have := hr (off + i) cs j y hi hj
          rw [show off * esz + (i * esz + j) = (off + i) * esz + j by rw [Nat.add_mul]; omega]
          exact this.mono fun d o hd hdw => ⟨hsub d hd, hdw⟩
        · simp at hi)
    rw [hl] at this
    exact this

end Go.Vs

/- Cells that are read through a pointer; cells that are settled; cells that are lent to a call. -/
namespace Go.Vs

theorem cell_of {w : World} {c : Nat} {arr : Array Value} {e : TypeId} {fr : Nat × Nat} (hw : w.heap[c]? = some (.cells arr e fr)) {j : Nat} (hj : j < arr.size) :
    w.cell? ⟨c, j, none⟩ = some (arr.getD j undef) := by
  simp [World.cell?, hw, hj]

theorem add_none (c off n : Nat) : (⟨c, off, none⟩ : Addr).add n = ⟨c, off + n, none⟩ := by
  unfold Addr.add
  split
  · rename_i h; subst h; rfl
  · rfl

theorem getD_map_d (cells : List D) (j : Nat) (y : C) (h : (cells.map C.d)[j]? = some y) : ∃ d, cells[j]? = some d ∧ y = .d d := by
  rw [List.getElem?_map] at h
  cases hc : cells[j]? with
  | none => simp [hc] at h
  | some d => simp [hc] at h; exact ⟨d, rfl, h.symm⟩

/-- The cells at an address are these values, which read as these cells. -/
structure At (x : Cx) (c off : Nat) (cs : List C) (vals : List Value) : Prop where
  len : vals.length = cs.length
  cell : ∀ j u, vals[j]? = some u → x.w.cell? ⟨c, off + j, none⟩ = some u
  rel : ∀ j y, cs[j]? = some y → CRel x (vals.getD j undef) y

/-- A row of a block, from off on, n cells. -/
theorem At.of_arr {x : Cx} {c off : Nat} {cs : List C} {arr : Array Value} {e : TypeId} {fr : Nat × Nat} (hw : x.w.heap[c]? = some (.cells arr e fr))
    (hsz : off + cs.length ≤ arr.size) (hr : ∀ j y, cs[j]? = some y → CRel x (arr.getD (off + j) undef) y) :
    At x c off cs ((arr.toList.drop off).take cs.length) where
  len := by simp; omega
  cell := fun j u hj => by
    rw [List.getElem?_take] at hj
    split at hj
    · rename_i hjc
      rw [List.getElem?_drop] at hj
      have h1 : off + j < arr.size := by omega
      rw [cell_of hw h1]
      simpa [Array.getD_eq_getD_getElem?, h1] using hj
    · simp at hj
  rel := fun j y hj => by
    have hjc : j < cs.length := (List.getElem?_eq_some_iff.1 hj).1
    have h1 : off + j < arr.size := by omega
    have := hr j y hj
    simpa [List.getD_eq_getElem?_getD, List.getElem?_take, hjc, List.getElem?_drop, Array.getD_eq_getD_getElem?, h1] using this

theorem DRel.lentC {x : Cx} {kb : Bool} {v : Value} {d : D} (h : DRel x.w (x.okc kb) v d) : CRel x v (lentC kb d) := by
  unfold Go.Vs.lentC
  split
  · rename_i hf
    refine .d _ _ ?_
    cases h <;> first | (simp [isFlat] at hf; done) | constructor
  · exact .cd _ _ _ h

theorem rd_sim {P : Program} {x : Cx} {v' : Value} {v : V} {n : Nat} {k : List C → Prog} {u : V} {H' : HpF} {fp : Fp} (hh : HRel x) (hv : VRel x v' v)
    (hx : (rd v n k).exec P x.hp u H' fp) : ∃ cs fp' c off vals, (k cs).exec P x.hp u H' fp' ∧ v' = .pointer (some ⟨c, off, none⟩) ∧ cs.length = n ∧ At x c off cs vals := by
  unfold rd at hx
  split at hx
  · rename_i cells
    obtain ⟨hn, hx⟩ := hx
    cases hv with
    | c _ _ hc => cases hc with
      | d _ _ hd => cases hd with
        | fpNone a hs =>
          have : n = 0 := by simpa using hn
          subst this
          obtain ⟨c, off, spot⟩ := a
          simp at hs
          subst hs
          exact ⟨_, fp, c, off, [], hx, rfl, rfl, ⟨rfl, fun j u h => by simp at h, fun j y h => by simp at h⟩⟩
        | fp c off _ arr e fr hok hw hsz hr =>
          refine ⟨_, fp, c, off, _, hx, rfl, by simp; omega, At.of_arr hw (by simp; omega) fun j y hj => ?_⟩
          obtain ⟨d, hd, rfl⟩ := getD_map_d _ j y hj
          rw [List.getElem?_take] at hd
          split at hd
          · exact .d _ _ (hr j d hd)
          · simp at hd
  · rename_i kb cells
    obtain ⟨hn, hx⟩ := hx
    cases hv with
    | c _ _ hc => cases hc with
      | cd _ _ _ hd => cases hd with
        | fpNone a hs =>
          have : n = 0 := by simpa using hn
          subst this
          obtain ⟨c, off, spot⟩ := a
          simp at hs
          subst hs
          exact ⟨_, fp, c, off, [], hx, rfl, rfl, ⟨rfl, fun j u h => by simp at h, fun j y h => by simp at h⟩⟩
        | fp c off _ arr e fr hok hw hsz hr =>
          refine ⟨_, fp, c, off, _, hx, rfl, by simp; omega, At.of_arr hw (by simp; omega) fun j y hj => ?_⟩
          rw [List.getElem?_map] at hj
          obtain ⟨d, hd, rfl⟩ := Option.map_eq_some_iff.1 hj
          rw [List.getElem?_take] at hd
          split at hd
          · exact (hr j d hd).lentC
          · simp at hd
  · rename_i b off
    obtain ⟨blk, fp', hb, hx, rfl⟩ := hx
    dsimp only at hx
    split at hx
    · rename_i cs
      obtain ⟨hn, hx⟩ := hx
      cases hv with
      | c _ _ hc => cases hc with
        | ptr _ c _ cs' hb' hg hu =>
          rw [hb] at hb'
          cases hb'
          obtain ⟨c', arr, e, hg', hw, hsz, hr⟩ := (hh.hp b _ hb).2
          rw [hg] at hg'
          cases hg'
          refine ⟨_, fp', c, off, _, hx, rfl, by simp; omega, At.of_arr hw (by simp; omega) fun j y hj => ?_⟩
          rw [List.getElem?_take] at hj
          split at hj
          · rw [List.getElem?_drop] at hj
            exact hr (off + j) y hj
          · simp at hj
        | ptrOld _ _ _ _ _ h => rw [hb] at h; simp at h
    · exact hx.elim
  · rename_i b g i off
    obtain ⟨blk, fp', hb, hx, rfl⟩ := hx
    dsimp only at hx
    split at hx
    · rename_i esz es fz
      obtain ⟨hlen, hx⟩ := hx
      split at hx
      · rename_i cs hcs
        obtain ⟨hn, hx⟩ := hx
        cases hv with
        | c _ _ hc => cases hc with
          | eptr _ c _ _ esz' es' fz' hb' hg hi hu =>
            rw [hb] at hb'
            cases hb'
            obtain ⟨hl, h | ⟨c', arr, e, hg', hw, hsz, hr⟩⟩ := (hh.hp b _ hb).2
            · rw [hg] at h; simp at h
            · rw [hg] at hg'
              cases hg'
              have hcl := hl cs (List.mem_of_getElem? hcs)
              have hsz2 : i * esz + esz ≤ arr.size := Nat.le_trans (by rw [← Nat.succ_mul]; exact Nat.mul_le_mul_right _ hi) hsz
              refine ⟨_, fp', c, i * esz + off, _, hx, rfl, by simp; omega, At.of_arr hw (by simp; omega) fun j y hj => ?_⟩
              obtain ⟨d, hd, rfl⟩ := getD_map_d _ j y hj
              rw [List.getElem?_take] at hd
              split at hd
              · rw [List.getElem?_drop] at hd
                have := hr i cs (off + j) d hcs hd
                rw [Nat.add_assoc]
                exact .d _ _ this
              · simp at hd
          | eptrOld _ _ _ _ _ _ _ h =>
            rcases h with h | ⟨_, _, _, h, hl⟩
            · rw [hb] at h; simp at h
            · rw [hb] at h; cases h; omega
      · exact hx.elim
    · exact hx.elim
  · exact hx.elim

/-! ### Settled -/

theorem settle1_sim {P : Program} {x : Cx} {v' : Value} {c : C} {k : D → Prog} {u : V} {H' : HpF} {fp : Fp} (hh : HRel x) (hv : CRel x v' c)
    (hx : (settle1 c k).exec P x.hp u H' fp) : ∃ d hp1 fp', (k d).exec P hp1 u H' fp' ∧ HRel { x with hp := hp1 } ∧ Fr x { x with hp := hp1 } ∧
      Ev x.U x { x with hp := hp1 } ∧ DRel x.w ({ x with hp := hp1 } : Cx).ok v' d := by
  unfold settle1 at hx
  split at hx
  · cases hv with
    | d _ _ h => exact ⟨_, x.hp, fp, hx, hh, Fr.refl x, Ev.refl fun _ h => h, h⟩
  · rename_i b g off n
    obtain ⟨blk, fp', hb, hx, rfl⟩ := hx
    dsimp only at hx
    split at hx
    · rename_i esz es fz
      obtain ⟨⟨hl, hon⟩, fp2, hx, rfl⟩ := hx
      refine ⟨_, _, _, hx, fz_h hh hb, fz_fr hb, fz_ev hb, ?_⟩
      have hh' := fz_h hh hb
      have hb' : ({ x with hp := upd x.hp b (.sl esz es true) } : Cx).hp b = some (.sl esz es true) := upd_same _ _ _
      cases hv with
      | refNil _ _ _ hb2 _ =>
        rw [hb] at hb2
        cases hb2
        simp
        exact .slNil _
      | ref _ c _ _ cap esz' es' fz' arr e fr hb2 hg hw h1 h2 h3 hu =>
        rw [hb] at hb2
        cases hb2
        exact sl_part (x := { x with hp := upd x.hp b (.sl esz es true) }) (hh'.hp b _ hb').2 hg h1 h2 (fz_ok hh' hb' hg) fun _ h => h
      | refOld _ _ _ _ _ _ _ h =>
        rcases h with h | ⟨_, _, _, h, hl2⟩
        · rw [hb] at h; simp at h
        · rw [hb] at h; cases h; omega
    · exact hx.elim
  · exact hx.elim

theorem settle_sim {P : Program} : ∀ (cs : List C) {x : Cx} {vals : List Value} {k : List D → Prog} {u : V} {H' : HpF} {fp : Fp}, HRel x → vals.length = cs.length →
    (∀ j y, cs[j]? = some y → CRel x (vals.getD j undef) y) → (settle cs k).exec P x.hp u H' fp →
    ∃ ds hp1 fp', (k ds).exec P hp1 u H' fp' ∧ HRel { x with hp := hp1 } ∧ Fr x { x with hp := hp1 } ∧ Ev x.U x { x with hp := hp1 } ∧ ds.length = cs.length ∧
      ∀ (j : Nat) (d : D), ds[j]? = some d → DRel x.w ({ x with hp := hp1 } : Cx).ok (vals.getD j undef) d
  | [], x, vals, k, u, H', fp, hh, hl, hr, hx => ⟨[], x.hp, fp, hx, hh, Fr.refl x, Ev.refl fun _ h => h, rfl, fun j d h => by simp at h⟩
  | c :: cs, x, vals, k, u, H', fp, hh, hl, hr, hx => by
    obtain ⟨v0, vals, rfl⟩ : ∃ a l, vals = a :: l := by
      cases vals with
      | nil => simp at hl
      | cons a l => exact ⟨a, l, rfl⟩
    obtain ⟨d, hp1, fp1, hx1, hh1, hf1, he1, hd⟩ := settle1_sim hh (hr 0 c rfl) hx
    obtain ⟨ds, hp2, fp2, hx2, hh2, hf2, he2, hl2, hds⟩ := settle_sim cs (x := { x with hp := hp1 }) hh1 (by simpa using hl)
      (fun j y hj => (hr (j + 1) y (by simpa using hj)).on hf1 he1) hx1
    refine ⟨d :: ds, hp2, fp2, hx2, hh2, hf1.trans hf2, he1.trans he2, by simp [hl2], fun j e hj => ?_⟩
    cases j with
    | zero =>
      simp at hj
      subst hj
      exact DRel.on (x := { x with hp := hp1 }) (x' := { x with hp := hp2 }) hf2 hd
    | succ j => exact hds j e (by simpa using hj)

/-! ### Lent -/

theorem chunks_len (esz : Nat) : ∀ (n : Nat) (ds : List D), (chunks esz n ds).length = n
  | 0, _ => rfl
  | n + 1, ds => by simp [chunks, chunks_len esz n]

theorem chunks_get (esz : Nat) : ∀ (n : Nat) (ds : List D), ds.length = n * esz → ∀ i cs, (chunks esz n ds)[i]? = some cs →
    cs.length = esz ∧ ∀ j y, cs[j]? = some y → ds[i * esz + j]? = some y
  | 0, _, _, i, cs, h => by simp [chunks] at h
  | n + 1, ds, hl, i, cs, h => by
    rw [Nat.succ_mul] at hl
    cases i with
    | zero =>
      simp [chunks] at h
      subst h
      refine ⟨by simp; omega, fun j y hj => ?_⟩
      rw [List.getElem?_take] at hj
      split at hj
      · simpa using hj
      · simp at hj
    | succ i =>
      simp [chunks] at h
      obtain ⟨h1, h2⟩ := chunks_get esz n (ds.drop esz) (by simp; omega) i cs h
      refine ⟨h1, fun j y hj => ?_⟩
      have := h2 j y hj
      rw [List.getElem?_drop] at this
      rw [show (i + 1) * esz + j = esz + (i * esz + j) by rw [Nat.succ_mul]; omega]
      exact this

/-- What is lent: the reading is kept where writing is left aside. -/
structure Lent (x : Cx) (v : Value) (d : D) (br : Bool) : Prop where
  any : DRel x.w (fun _ => True) v d
  own : br = false → DRel x.w x.ok v d

theorem borL_sim {P : Program} {x : Cx} {f : C → (D → Bool → Prog) → Prog}
    (hf : ∀ {c : C} {v : Value} {k : D → Bool → Prog} {u : V} {H' : HpF} {fp : Fp}, CRel x v c → (f c k).exec P x.hp u H' fp →
      ∃ d br fp', (k d br).exec P x.hp u H' fp' ∧ Lent x v d br) :
    ∀ (cs : List C) {vals : List Value} {k : List D → Bool → Prog} {u : V} {H' : HpF} {fp : Fp}, vals.length = cs.length →
      (∀ j y, cs[j]? = some y → CRel x (vals.getD j undef) y) → (borL f cs k).exec P x.hp u H' fp →
      ∃ ds br fp', (k ds br).exec P x.hp u H' fp' ∧ ds.length = cs.length ∧ ∀ j d, ds[j]? = some d → Lent x (vals.getD j undef) d br
  | [], vals, k, u, H', fp, hl, hr, hx => ⟨[], false, fp, hx, rfl, fun j d h => by simp at h⟩
  | c :: cs, vals, k, u, H', fp, hl, hr, hx => by
    obtain ⟨v0, vals, rfl⟩ : ∃ a l, vals = a :: l := by
      cases vals with
      | nil => simp at hl
      | cons a l => exact ⟨a, l, rfl⟩
    obtain ⟨d, b1, fp1, hx1, hd⟩ := hf (hr 0 c rfl) hx
    obtain ⟨ds, b2, fp2, hx2, hl2, hds⟩ := borL_sim hf cs (vals := vals) (by simpa using hl) (fun j y hj => hr (j + 1) y (by simpa using hj)) hx1
    refine ⟨d :: ds, b1 || b2, fp2, hx2, by simp [hl2], fun j e hj => ?_⟩
    cases j with
    | zero =>
      simp at hj
      subst hj
      exact ⟨hd.any, fun h => hd.own (by simp at h; exact h.1)⟩
    | succ j =>
      have := hds j e (by simpa using hj)
      exact ⟨this.any, fun h => this.own (by simp at h; exact h.2)⟩

theorem ok_sub {x : Cx} (c : Nat) (h : x.ok c) : ¬ x.CM c := h.1

theorem borC_sim {P : Program} {x : Cx} (hh : HRel x) : ∀ (m : Nat) {c : C} {v : Value} {k : D → Bool → Prog} {u : V} {H' : HpF} {fp : Fp}, CRel x v c →
    (borC m c k).exec P x.hp u H' fp → ∃ d br fp', (k d br).exec P x.hp u H' fp' ∧ Lent x v d br
  | 0, c, v, k, u, H', fp, hv, hx => hx.elim
  | m + 1, c, v, k, u, H', fp, hv, hx => by
    have ih := fun {c : C} {v : Value} {k : D → Bool → Prog} {u : V} {H' : HpF} {fp : Fp} => borC_sim (P := P) (x := x) hh m (c := c) (v := v) (k := k) (u := u) (H' := H') (fp := fp)
    unfold borC at hx
    split at hx
    · cases hv with
      | d _ _ h => exact ⟨_, _, fp, hx, ⟨h.mono fun c o hc ho => ⟨trivial, ho⟩, fun _ => h⟩⟩
    · cases hv with
      | cd _ _ _ h => exact ⟨_, _, fp, hx, ⟨h.mono fun c o hc ho => ⟨trivial, ho⟩, fun h => by simp at h⟩⟩
    · rename_i b g off n
      obtain ⟨blk, fp', hb, hx, rfl⟩ := hx
      dsimp only at hx
      split at hx
      · rename_i esz es fz
        obtain ⟨⟨hl, hon⟩, hx⟩ := hx
        refine ⟨_, _, _, hx, ?_⟩
        have hB := (hh.hp b _ hb).2
        cases hv with
        | refNil _ _ _ hb2 _ =>
          rw [hb] at hb2
          cases hb2
          simp
          exact ⟨.slNil _, fun _ => .slNil _⟩
        | ref _ c _ _ cap esz' es' fz' arr e fr hb2 hg hw h1 h2 h3 hu =>
          rw [hb] at hb2
          cases hb2
          refine ⟨sl_part hB hg h1 h2 trivial fun _ _ => trivial, fun hfz => ?_⟩
          have hfz : fz = true := by simpa using hfz
          subst hfz
          exact sl_part hB hg h1 h2 (fz_ok hh hb hg) fun _ h => h
        | refOld _ _ _ _ _ _ _ h =>
          rcases h with h | ⟨_, _, _, h, hl2⟩
          · rw [hb] at h; simp at h
          · rw [hb] at h; cases h; omega
      · exact hx.elim
    · rename_i b off n esz
      obtain ⟨blk, fp', hb, hx, rfl⟩ := hx
      dsimp only at hx
      split at hx
      · rename_i cs
        obtain ⟨hon, hx⟩ := hx
        cases hv with
        | bref _ c _ _ cap _ cs' hb2 hg h1 h2 hu =>
          rw [hb] at hb2
          cases hb2
          obtain ⟨c', arr, e, hg', hw, hsz, hr⟩ := (hh.hp b _ hb).2
          rw [hg] at hg'
          cases hg'
          have hat := At.of_arr (x := x) (c := c) (off := off) (cs := (cs.drop off).take (n * esz)) hw (by simp; omega) fun j y hj => by
            rw [List.getElem?_take] at hj
            split at hj
            · rw [List.getElem?_drop] at hj
              exact hr (off + j) y hj
            · simp at hj
          obtain ⟨ds, br, fp2, hx2, hl2, hds⟩ := borL_sim (P := P) ih _ hat.len hat.rel hx
          have hl2' : ds.length = n * esz := by rw [hl2]; simp; omega
          refine ⟨_, _, _, hx2, ⟨?_, fun h => by simp at h⟩⟩
          have := DRel.sl (w := x.w) (ok := fun _ => True) c off cap esz (chunks esz n ds) arr e (0, 0) (by rw [chunks_len]; exact h1) trivial hw
            (by rw [chunks_len]; omega) (fun cs hcs => by
              obtain ⟨i, hi⟩ := List.getElem?_of_mem hcs
              exact (chunks_get esz n ds hl2' i cs hi).1)
            (fun i ccs j y hi hj => by
              obtain ⟨g1, g2⟩ := chunks_get esz n ds hl2' i ccs hi
              have g3 := g2 j y hj
              have hlt : i * esz + j < n * esz := by
                have := (List.getElem?_eq_some_iff.1 g3).1
                omega
              have := (hds _ y g3).any
              have e1 : ((arr.toList.drop off).take ((cs.drop off).take (n * esz)).length).getD (i * esz + j) undef = arr.getD (off + (i * esz + j)) undef := by
                have : i * esz + j < ((cs.drop off).take (n * esz)).length := by simp; omega
                have h5 : off + (i * esz + j) < arr.size := by omega
                simp only [List.getD_eq_getElem?_getD, List.getElem?_take, if_pos this, List.getElem?_drop, Array.getD_eq_getD_getElem?, Array.getElem?_toList]
              rw [e1] at this
              exact this)
          rw [chunks_len] at this
          exact this
        | brefOld _ _ _ _ _ _ _ h => rw [hb] at h; simp at h
      · exact hx.elim
    · rename_i b off
      obtain ⟨blk, fp', hb, hx, rfl⟩ := hx
      dsimp only at hx
      split at hx
      · rename_i cs
        cases hv with
        | ptr _ c _ cs' hb2 hg hu =>
          rw [hb] at hb2
          cases hb2
          obtain ⟨c', arr, e, hg', hw, hsz, hr⟩ := (hh.hp b _ hb).2
          rw [hg] at hg'
          cases hg'
          by_cases hoff : off ≤ cs.length
          · have hat := At.of_arr (x := x) (c := c) (off := off) (cs := cs.drop off) hw (by simp; omega) fun j y hj => by
              rw [List.getElem?_drop] at hj
              exact hr (off + j) y hj
            obtain ⟨ds, br, fp2, hx2, hl2, hds⟩ := borL_sim (P := P) ih _ hat.len hat.rel hx
            have hl2' : ds.length = cs.length - off := by rw [hl2]; simp
            refine ⟨_, _, _, hx2, ⟨.fp c off ds arr e (0, 0) trivial hw (by omega) fun j y hj => ?_, fun h => by simp at h⟩⟩
            have hj2 : j < cs.length - off := by have := (List.getElem?_eq_some_iff.1 hj).1; omega
            have := (hds j y hj).any
            have e1 : ((arr.toList.drop off).take (cs.drop off).length).getD j undef = arr.getD (off + j) undef := by
              have h5 : off + j < arr.size := by omega
              simp only [List.getD_eq_getElem?_getD, List.getElem?_take, List.length_drop, if_pos hj2, List.getElem?_drop, Array.getD_eq_getD_getElem?, Array.getElem?_toList]
            rw [e1] at this
            exact this
          · have hnil : cs.drop off = [] := List.drop_eq_nil_of_le (by omega)
            rw [hnil] at hx
            exact ⟨_, _, _, hx, ⟨.fpNone _ rfl, fun h => by simp at h⟩⟩
        | ptrOld _ _ _ _ _ h => rw [hb] at h; simp at h
      · exact hx.elim
    · rename_i b
      obtain ⟨blk, fp', hb, hx, rfl⟩ := hx
      dsimp only at hx
      split at hx
      · rename_i es
        refine ⟨_, _, _, hx, ?_⟩
        cases hv with
        | mref _ c es' hb2 hg hu =>
          rw [hb] at hb2
          cases hb2
          obtain ⟨c', ents, clk, hg', hw, hsz, hk, hv⟩ := (hh.hp b _ hb).2
          rw [hg] at hg'
          cases hg'
          exact ⟨.mp c ents clk es trivial hw hsz (fun i p hi => (hk i p hi).mono fun c o hc ho => ⟨trivial, ho⟩)
            (fun i p hi => (hv i p hi).mono fun c o hc ho => ⟨trivial, ho⟩), fun h => by simp at h⟩
        | mrefOld _ _ _ _ h => rw [hb] at h; simp at h
      · exact hx.elim
    · rename_i f cap
      cases hv with
      | fn _ caps _ hsz hr =>
        obtain ⟨ds, br, fp2, hx2, hl2, hds⟩ := borL_sim (P := P) ih cap (vals := caps.toList) (by simpa using hsz)
          (fun j y hj => by simpa [List.getD_eq_getElem?_getD, Array.getD_eq_getD_getElem?] using hr j y hj) hx
        refine ⟨_, _, _, hx2, ⟨.fn f caps ds (by omega) fun j y hj => ?_, fun h => .fn f caps ds (by omega) fun j y hj => ?_⟩⟩
        · simpa [List.getD_eq_getElem?_getD, Array.getD_eq_getD_getElem?] using (hds j y hj).any
        · simpa [List.getD_eq_getElem?_getD, Array.getD_eq_getD_getElem?] using (hds j y hj).own h
    · exact hx.elim

end Go.Vs

/- Operations that read: copies, loads, addresses, comparisons. -/
namespace Go.Vs

theorem VRel.cells {x : Cx} {v : Value} {y : V} {cs : List C} (h : VRel x v y) (hc : y.cells? = some cs) :
    v.cells.size = cs.length ∧ ∀ j z, cs[j]? = some z → CRel x (v.cells.getD j undef) z := by
  cases h with
  | c _ y h =>
    simp [V.cells?] at hc
    subst hc
    rw [h.one.cells]
    refine ⟨rfl, fun j z hj => ?_⟩
    cases j with
    | zero => simp at hj; subst hj; simpa using h
    | succ j => simp at hj
  | agg arr cs' hsz hr =>
    simp [V.cells?] at hc
    subst hc
    exact ⟨hsz, hr⟩
  | tup => simp [V.cells?] at hc
  | junk => simp [V.cells?] at hc

section
variable {P : Program} {tv : Tv} {o : Oper} {a : Act} {x : Cx} {tm : Nat → V} {base : Nat} {v : V} {hp' : HpF} {fp : Fp}

theorem sim_ret {u : V} {v' : Value} (hs : SRel x tm a) (hd : ∀ d, o.dst = some d → d < a.tmps.size) (hx : (Prog.ret u).exec P x.hp v hp' fp)
    (hr : (execOp a.eval o).run P x.w = .ok (.value v') x.w) (hv : VRel x v' u) : Sim P o a x tm base v hp' := by
  obtain ⟨rfl, rfl, _⟩ := hx
  exact .of_read hs hd hr hv

theorem sim_move {y : Operand} (ho : o.op = .move y ∨ o.op = .assign y) (hs : SRel x tm a) (hd : ∀ d, o.dst = some d → d < a.tmps.size)
    (hx : (Prog.ret (operV tm y)).exec P x.hp v hp' fp) : Sim P o a x tm base v hp' :=
  sim_ret hs hd hx (by rcases ho with ho | ho <;> simp [execOp, ho]) (hs.oper y)

theorem VRel.bool_inv {v : Value} {b : Bool} (h : VRel x v (.c (.d (.bool b)))) : v = .bool b := by
  cases h with | c _ _ h => cases h with | d _ _ h => cases h; rfl

theorem VRel.int_inv {v : Value} {k : IntKind} {n : Int} (h : VRel x v (.c (.d (.int k n)))) : v = .int k n := by
  cases h with | c _ _ h => cases h with | d _ _ h => cases h; rfl

theorem VRel.str_inv {v : Value} {s : ByteArray} (h : VRel x v (.c (.d (.str s)))) : v = .string s := by
  cases h with | c _ _ h => cases h with | d _ _ h => cases h; rfl

theorem VRel.nilSl_inv {v : Value} (h : VRel x v (.c (.d .nilSl))) : v = .slice none 0 0 := by
  cases h with | c _ _ h => cases h with | d _ _ h => cases h; rfl

theorem VRel.int_mk (x : Cx) (k : IntKind) (n : Int) : VRel x (.int k n) (.c (.d (.int k n))) := .c _ _ (.d _ _ (.int k n))
theorem VRel.bool_mk (x : Cx) (b : Bool) : VRel x (.bool b) (.c (.d (.bool b))) := .c _ _ (.d _ _ (.bool b))

theorem sim_pick {c y z : Operand} (ho : o.op = .pick c y z) (hs : SRel x tm a) (hd : ∀ d, o.dst = some d → d < a.tmps.size)
    (hx : (sem tv base (operV tm) o).exec P x.hp v hp' fp) : Sim P o a x tm base v hp' := by
  simp only [sem, semOp, ho] at hx
  split at hx
  · rename_i t ht
    have hc := hs.oper c
    rw [ht] at hc
    have hc := hc.bool_inv
    refine sim_ret (v' := if t then a.eval y else a.eval z) hs hd hx (by simp [execOp, ho, hc, asBool]) ?_
    cases t
    · exact hs.oper z
    · exact hs.oper y
  · exact hx.elim

theorem sim_not {t : Nat} {y : Operand} (ho : o.op = .unOp .not t y) (hs : SRel x tm a) (hd : ∀ d, o.dst = some d → d < a.tmps.size)
    (hx : (sem tv base (operV tm) o).exec P x.hp v hp' fp) : Sim P o a x tm base v hp' := by
  simp only [sem, semOp, ho] at hx
  split at hx
  · rename_i b hb
    have hc := hs.oper y
    rw [hb] at hc
    have hc := hc.bool_inv
    exact sim_ret (v' := .bool (!b)) hs hd hx (by simp [execOp, ho, hc, Op.unary]) (VRel.bool_mk x _)
  · exact hx.elim

theorem ShOk.int {P : Program} {t : Nat} {ty : Ty} {k : IntKind} (h : TyOk P t ty) (hs : ty.sh = .int k) : P.underlying t = some (.int k) := by
  obtain ⟨d, h1, _, h3⟩ := h.und
  rw [hs] at h3
  rw [h1, show d = .int k from h3]

theorem sim_convert {s t : Nat} {y : Operand} (htv : TvOk P tv) (ho : o.op = .convert s t y) (hs : SRel x tm a) (hd : ∀ d, o.dst = some d → d < a.tmps.size)
    (hx : (sem tv base (operV tm) o).exec P x.hp v hp' fp) : Sim P o a x tm base v hp' := by
  simp only [sem, semOp, ho] at hx
  split at hx
  · rename_i k1 k k2 n h1 h2 h3
    have hc := hs.oper y
    rw [h3] at hc
    have hc := hc.int_inv
    have u1 := ShOk.int (tyOf_sh htv h1 (by simp)) h1
    have u2 := ShOk.int (tyOf_sh htv h2 (by simp)) h2
    exact sim_ret (v' := .int k (k.wrap n)) hs hd hx (by simp [execOp, ho, hc, convert, run_und u1, run_und u2, Conv.intToInt]) (VRel.int_mk x _ _)
  · exact hx.elim

/-- What is alive is a pointer (or a slice over a variable). -/
theorem live_sim {v' : Value} {y : V} {k : Prog} (hv : VRel x v' y) (hx : (live y k).exec P x.hp v hp' fp) :
    ∃ fp', k.exec P x.hp v hp' fp' ∧ ((∃ p, v' = .pointer (some p) ∧ p.spot = none) ∨ (∃ b off n esz, y = .c (.bref b off n esz))) := by
  unfold live at hx
  split at hx
  · obtain ⟨blk, fp', hb, hx, rfl⟩ := hx
    dsimp only at hx
    split at hx
    · cases hv with | c _ _ hc => cases hc with
        | ptr _ c _ cs hb' hg hu => exact ⟨_, hx, .inl ⟨_, rfl, rfl⟩⟩
        | ptrOld _ _ _ _ hu h => rw [hb] at h; simp at h
    · exact hx.elim
  · obtain ⟨blk, fp', hb, hx, rfl⟩ := hx
    dsimp only at hx
    split at hx
    · exact ⟨_, hx, .inr ⟨_, _, _, _, rfl⟩⟩
    · exact hx.elim
  · obtain ⟨blk, fp', hb, hx, rfl⟩ := hx
    dsimp only at hx
    split at hx
    · obtain ⟨hl, hx⟩ := hx
      cases hv with | c _ _ hc => cases hc with
        | eptr _ c _ _ esz es fz hb' hg hi hu => exact ⟨_, hx, .inl ⟨_, rfl, rfl⟩⟩
        | eptrOld _ _ _ _ _ _ hu h =>
          rcases h with h | ⟨_, _, _, h, hl2⟩
          · rw [hb] at h; simp at h
          · rw [hb] at h; cases h; omega
    · exact hx.elim
  · cases hv with | c _ _ hc => cases hc with
      | d _ _ hd => cases hd with
        | fpNone p hs => exact ⟨_, hx, .inl ⟨_, rfl, hs⟩⟩
        | fp => exact ⟨_, hx, .inl ⟨_, rfl, rfl⟩⟩
  · cases hv with | c _ _ hc => cases hc with
      | cd _ _ _ hd => cases hd with
        | fpNone p hs => exact ⟨_, hx, .inl ⟨_, rfl, hs⟩⟩
        | fp => exact ⟨_, hx, .inl ⟨_, rfl, rfl⟩⟩
  · exact hx.elim

theorem sim_nilCheck {y : Operand} (ho : o.op = .nilCheck y) (hs : SRel x tm a) (hd : ∀ d, o.dst = some d → d < a.tmps.size)
    (hx : (sem tv base (operV tm) o).exec P x.hp v hp' fp) : Sim P o a x tm base v hp' := by
  have hc := hs.oper y
  simp only [sem, semOp, ho] at hx
  split at hx
  · exact hx.elim
  · rename_i hn
    obtain ⟨fp', hx, ⟨p, hp, _⟩ | ⟨b, off, n, esz, h⟩⟩ := live_sim hc hx
    · exact sim_ret (v' := a.eval y) hs hd hx (by simp [execOp, ho, hp]) hc
    · exact absurd h (hn b off n esz)
end
end Go.Vs

/- Operations that read: loads, addresses of fields and elements, lengths, slices of slices. -/
namespace Go.Vs

theorem strct_get {P : Program} {d : TypeDesc} {fs : List (Nat × Nat × Bool)} (h : ShOk P d (.strct fs)) {j off size : Nat} {ag : Bool} (hj : fs[j]? = some (off, size, ag)) :
    ∃ fields f i d', d = .struct fields ∧ fields[j]? = some f ∧ f.offset = off ∧ P.info? f.type = some i ∧ i.size = size ∧ P.underlying f.type = some d' ∧ isAggD d' = ag := by
  obtain ⟨fields, hd, hm⟩ := h
  have h1 := congrArg (fun l => l[j]?) hm
  simp only [List.getElem?_map, hj, Option.map_some] at h1
  cases hf : fields.toList[j]? with
  | none => rw [hf] at h1; simp at h1
  | some f =>
    rw [hf] at h1
    simp only [Option.map_some, Option.some.injEq, Prod.mk.injEq, Option.map_eq_some_iff] at h1
    obtain ⟨h1, ⟨i, hi, hs⟩, ⟨d', hd', ha⟩⟩ := h1
    exact ⟨fields, f, i, d', hd, by simpa using hf, h1, hi, hs, hd', ha⟩

theorem sh_of {P : Program} {tv : Tv} (h : TvOk P tv) {t : Nat} {s : Sh} (hs : (tyOf tv t).sh = s) (hn : s ≠ .other) : ∃ d, P.underlying t = some d ∧ ShOk P d s := by
  obtain ⟨d, h1, _, h3⟩ := (tyOf_sh h hs hn).und
  exact ⟨d, h1, hs ▸ h3⟩

section
variable {P : Program} {tv : Tv} {o : Oper} {a : Act} {x : Cx} {tm : Nat → V} {base : Nat} {v : V} {hp' : HpF} {fp : Fp}

theorem retO_exec {u : Option V} (hx : (retO u).exec P x.hp v hp' fp) : u = some v ∧ hp' = x.hp := by
  unfold retO at hx
  split at hx
  · exact ⟨by rw [hx.1], hx.2.1⟩
  · exact hx.elim

theorem sim_load {t : Nat} {y : Operand} (htv : TvOk P tv) (ho : o.op = .load t y) (hs : SRel x tm a) (hd : ∀ d, o.dst = some d → d < a.tmps.size)
    (hx : (sem tv base (operV tm) o).exec P x.hp v hp' fp) : Sim P o a x tm base v hp' := by
  simp only [sem, semOp, ho, withTy] at hx
  split at hx
  · rename_i ty hty
    have ok := htv t ty hty
    obtain ⟨i, hi, hisz, hz⟩ := ok.info
    obtain ⟨d, hu, hag, _⟩ := ok.und
    obtain ⟨cs, fp', c, off, vals, hx, hpt, hl, hat⟩ := rd_sim hs.toHRel (hs.oper y) hx
    obtain ⟨hx2, hhp⟩ := retO_exec hx
    subst hhp
    have hrun : ∀ u, (loadVar t ⟨c, off, none⟩).run P x.w = .ok u x.w → (execOp a.eval o).run P x.w = .ok (.value u) x.w := by
      intro u h
      simp [execOp, ho, hpt, Instr.loadAt, Instr.sureAddr, h]
    unfold ofCells at hx2
    split at hx2
    · rename_i hag'
      cases hx2
      refine .of_read hs hd (hrun (.agg vals.toArray) ?_) (.agg _ _ (by simp [hat.len]) fun j z hj => ?_)
      · have h := run_loadCells_list (P := P) x.w ⟨c, off, none⟩ vals fun j u hj => by rw [add_none]; exact hat.cell j u hj
        simp [loadVar, run_isAgg hu, hag, hag', run_size hi, hisz, ← hl, ← hat.len, h]
      · simpa [Array.getD_eq_getD_getElem?, List.getD_eq_getElem?_getD] using hat.rel j z hj
    · rename_i hag'
      split at hx2
      · rename_i c1
        cases hx2
        have hv0 := hat.rel 0 c1 rfl
        obtain ⟨u0, hu0⟩ : ∃ u0, vals = [u0] := by
          have := hat.len
          simp at this
          match vals, this with
          | [u0], _ => exact ⟨u0, rfl⟩
        subst hu0
        refine .of_read hs hd (hrun u0 ?_) (.c _ _ (by simpa using hv0))
        have hc0 := hat.cell 0 u0 rfl
        rw [Nat.add_zero] at hc0
        have : isAggD d = false := by rw [hag]; simpa using hag'
        simp [loadVar, run_isAgg hu, this, hc0]
      · simp at hx2
  · exact hx.elim

theorem fieldPlace_run {f : Field} {i : TypeInfo} (hi : P.info? f.type = some i) (hn : ¬ i.size = 0) (c off : Nat) (w : World) :
    (fieldPlace ⟨c, off, none⟩ f).run P w = .ok ⟨c, off + f.offset, none⟩ w := by
  simp [fieldPlace, run_size hi, hn, add_none]

theorem sim_fieldAddr {t f : Nat} {y : Operand} (htv : TvOk P tv) (ho : o.op = .fieldAddr t y f) (hs : SRel x tm a) (hd : ∀ d, o.dst = some d → d < a.tmps.size)
    (hx : (sem tv base (operV tm) o).exec P x.hp v hp' fp) : Sim P o a x tm base v hp' := by
  simp only [sem, semOp, ho, fieldAddrV] at hx
  split at hx
  · rename_i fs hfs
    obtain ⟨d, hu, hsh⟩ := sh_of htv hfs (by simp)
    split at hx
    · rename_i off size ag hf
      obtain ⟨fields, fl, i, d', hdd, hfl, hoff, hi, hisz, _, _⟩ := strct_get hsh hf
      split at hx
      · exact hx.elim
      · rename_i hsz
        obtain ⟨ev, hev, hc⟩ : ∃ ev, a.eval y = ev ∧ VRel x ev (operV tm y) := ⟨_, rfl, hs.oper y⟩
        have hrun : ∀ c o', a.eval y = .pointer (some ⟨c, o', none⟩) → (execOp a.eval o).run P x.w = .ok (.value (.pointer (some ⟨c, o' + off, none⟩))) x.w := by
          intro c o' h
          simp [execOp, ho, h, Instr.fieldAt, run_und hu, hdd, hfl, Instr.sureAddr, fieldPlace_run hi (by rw [hisz]; exact hsz), hoff]
        split at hx
        · rename_i b o' hv
          rw [hv] at hc hx
          obtain ⟨blk, fp', hb, hx, rfl⟩ := hx
          dsimp only at hx
          split at hx
          · cases hc with | c _ _ hc => 
              cases hc with
              | ptr _ c _ cs hb' hg hu' => exact sim_ret hs hd hx (hrun c o' hev) (.c _ _ (.ptr b c _ cs hb' hg hu'))
              | ptrOld _ _ _ _ _ h => rw [hb] at h; simp at h
          · exact hx.elim
        · rename_i b g j o' hv
          rw [hv] at hc hx
          obtain ⟨blk, fp', hb, hx, rfl⟩ := hx
          dsimp only at hx
          split at hx
          · obtain ⟨hl, hx⟩ := hx
            cases hc with | c _ _ hc => 
              cases hc with
              | eptr _ c _ _ esz es fz hb' hg hj hu' =>
                refine sim_ret hs hd hx (hrun c _ hev) (.c _ _ ?_)
                rw [Nat.add_assoc]
                exact .eptr b c j (o' + off) esz es fz hb' hg hj hu'
              | eptrOld _ _ _ _ _ _ _ h =>
                rcases h with h | ⟨_, _, _, h, hl2⟩
                · rw [hb] at h; simp at h
                · rw [hb] at h; cases h; omega
          · exact hx.elim
        · rename_i cells hv
          rw [hv] at hc
          obtain ⟨hl, hx⟩ := hx
          cases hc with | c _ _ hc => cases hc with | d _ _ hc =>
            cases hc with
            | fpNone p hps =>
              have : off = 0 := by simpa using hl
              subst this
              obtain ⟨c, o', spot⟩ := p
              simp at hps
              subst hps
              exact sim_ret hs hd hx (hrun c o' hev) (.c _ _ (.d _ _ (.fpNone _ rfl)))
            | fp c o' _ arr e fr hok hw hsz2 hr =>
              refine sim_ret hs hd hx (hrun c o' hev) (.c _ _ (.d _ _ (.fp c (o' + off) _ arr e fr hok hw (by simp; omega) fun j z hj => ?_)))
              rw [List.getElem?_drop] at hj
              rw [Nat.add_assoc]
              exact hr _ _ hj
        · rename_i kb cells hv
          rw [hv] at hc
          obtain ⟨hl, hx⟩ := hx
          cases hc with | c _ _ hc => cases hc with | cd _ _ _ hc =>
            cases hc with
            | fpNone p hps =>
              have : off = 0 := by simpa using hl
              subst this
              obtain ⟨c, o', spot⟩ := p
              simp at hps
              subst hps
              exact sim_ret hs hd hx (hrun c o' hev) (.c _ _ (.cd _ _ _ (.fpNone _ rfl)))
            | fp c o' _ arr e fr hok hw hsz2 hr =>
              refine sim_ret hs hd hx (hrun c o' hev) (.c _ _ (.cd _ _ _ (.fp c (o' + off) _ arr e fr hok hw (by simp; omega) fun j z hj => ?_)))
              rw [List.getElem?_drop] at hj
              rw [Nat.add_assoc]
              exact hr _ _ hj
        · exact hx.elim
    · exact hx.elim
  · exact hx.elim

theorem sim_field {t f : Nat} {y : Operand} (htv : TvOk P tv) (ho : o.op = .field t y f) (hs : SRel x tm a) (hd : ∀ d, o.dst = some d → d < a.tmps.size)
    (hx : (sem tv base (operV tm) o).exec P x.hp v hp' fp) : Sim P o a x tm base v hp' := by
  simp only [sem, semOp, ho, fieldV] at hx
  split at hx
  · rename_i fs cs hfs hcs
    obtain ⟨d, hu, hsh⟩ := sh_of htv hfs (by simp)
    split at hx
    · rename_i off size ag hf
      obtain ⟨fields, fl, i, d', hdd, hfl, hoff, hi, hisz, hu', hag⟩ := strct_get hsh hf
      obtain ⟨hle, hx⟩ := hx
      obtain ⟨hx2, hhp⟩ := retO_exec hx
      subst hhp
      obtain ⟨ev, hev, hc⟩ : ∃ ev, a.eval y = ev ∧ VRel x ev (operV tm y) := ⟨_, rfl, hs.oper y⟩
      rw [hcs] at hc
      cases hc with
      | agg arr _ hsz hr =>
        have hrun : ∀ u, (part fl.type arr off).run P x.w = .ok u x.w → (execOp a.eval o).run P x.w = .ok (.value u) x.w := by
          intro u h
          rw [← hoff] at h
          simp [execOp, ho, hev, Instr.field, run_und hu, hdd, hfl, asAgg, h]
        unfold ofCells at hx2
        split at hx2
        · rename_i hag'
          cases hx2
          refine .of_read hs hd (hrun (.agg (arr.extract off (off + size))) ?_) (.agg _ _ (by simp; omega) fun j z hj => ?_)
          · simp [part, run_isAgg hu', hag, hag', run_size hi, hisz]
          · rw [List.getElem?_take] at hj
            split at hj
            · rename_i hjs
              rw [List.getElem?_drop] at hj
              have := hr _ _ hj
              have h2 : (arr.extract off (off + size)).getD j undef = arr.getD (off + j) undef := by
                have : j < min (off + size) arr.size - off := by omega
                have h4 : off + j < arr.size := by omega
                simp [Array.getD_eq_getD_getElem?, this, h4]
              rw [h2]
              exact this
            · simp at hj
        · rename_i hag'
          split at hx2
          · rename_i c1 hc1
            cases hx2
            have hoffl : cs[off]? = some c1 := by
              have := congrArg (fun l => l[0]?) hc1
              simp only [List.getElem?_take, List.getElem?_drop, List.getElem?_cons_zero, Nat.add_zero] at this
              split at this
              · exact this
              · simp at this
            have h1 : off < arr.size := by rw [hsz]; exact (List.getElem?_eq_some_iff.1 hoffl).1
            refine .of_read hs hd (hrun (arr.getD off undef) ?_) (.c _ _ (hr _ _ hoffl))
            have : isAggD d' = false := by rw [hag]; simpa using hag'
            simp [part, run_isAgg hu', this, h1]
          · simp at hx2
    · exact hx.elim
  · exact hx.elim

theorem sim_extract {i : Nat} {y : Operand} (ho : o.op = .extract y i) (hs : SRel x tm a) (hd : ∀ d, o.dst = some d → d < a.tmps.size)
    (hx : (sem tv base (operV tm) o).exec P x.hp v hp' fp) : Sim P o a x tm base v hp' := by
  simp only [sem, semOp, ho] at hx
  split at hx
  · rename_i vs hvs
    obtain ⟨ev, hev, hc⟩ : ∃ ev, a.eval y = ev ∧ VRel x ev (operV tm y) := ⟨_, rfl, hs.oper y⟩
    rw [hvs] at hc
    obtain ⟨hx2, hhp⟩ := retO_exec hx
    subst hhp
    cases hc with
    | tup arr _ hsz hr =>
      have h1 : i < arr.size := by rw [hsz]; exact (List.getElem?_eq_some_iff.1 hx2).1
      refine .of_read hs hd (v' := arr.getD i undef) ?_ (hr _ _ hx2)
      simp [execOp, ho, hev, Instr.extract, h1]
  · exact hx.elim

/-- A list of operands. -/
theorem opers_c {ys : List Operand} {cs : List C} (hs : SRel x tm a) (h : (ys.map (operV tm)).mapM (fun | V.c x => some x | _ => none) = some cs) :
    (ys.map a.eval).length = cs.length ∧ ∀ j y, cs[j]? = some y → CRel x ((ys.map a.eval).getD j undef) y := by
  obtain ⟨h1, h2⟩ := mapM_get h
  refine ⟨by simpa using h1.symm, fun j y hj => ?_⟩
  obtain ⟨u, hu, hf⟩ := h2 j y hj
  rw [List.getElem?_map] at hu
  cases hy : ys[j]? with
  | none => rw [hy] at hu; simp at hu
  | some q =>
    rw [hy] at hu
    simp at hu
    obtain ⟨ev, hev, hc⟩ : ∃ ev, a.eval q = ev ∧ VRel x ev (operV tm q) := ⟨_, rfl, hs.oper q⟩
    rw [hu] at hc
    cases u with
    | c z =>
      simp at hf
      subst hf
      cases hc with | c _ _ hc =>
        simpa [List.getD_eq_getElem?_getD, hy, hev] using hc
    | _ => simp at hf

theorem sim_makeFunc {f : Nat} {first cap : Array Operand} (ho : o.op = .makeFunc (.func f) first cap) (hs : SRel x tm a) (hd : ∀ d, o.dst = some d → d < a.tmps.size)
    (hx : (sem tv base (operV tm) o).exec P x.hp v hp' fp) : Sim P o a x tm base v hp' := by
  simp only [sem, semOp, ho] at hx
  split at hx
  · rename_i h0
    split at hx
    · rename_i cs hcs
      obtain ⟨h1, h2⟩ := opers_c hs hcs
      have hf : first = #[] := by simpa using h0
      refine sim_ret hs hd (v' := .func (.func f) #[] (cap.map a.eval)) hx ?_ (.c _ _ (.fn f _ cs (by simpa using h1) fun j y hj => ?_))
      · simp [execOp, ho, hf, Instr.makeFunc]
      · simpa [List.getD_eq_getElem?_getD, Array.getD_eq_getD_getElem?] using h2 j y hj
    · exact hx.elim
  · exact hx.elim

/-- The elements of an array, of a slice: where they begin, and how they are read. -/
theorem sim_indexAddr {t : Nat} {y i : Operand} (htv : TvOk P tv) (ho : o.op = .indexAddr t y i) (hs : SRel x tm a) (hd : ∀ d, o.dst = some d → d < a.tmps.size)
    (hx : (sem tv base (operV tm) o).exec P x.hp v hp' fp) : Sim P o a x tm base v hp' := by
  simp only [sem, semOp, ho, indexV] at hx
  split at hx
  · rename_i ik n hin
    have hi := hs.oper i
    rw [hin] at hi
    have hi := hi.int_inv
    obtain ⟨ev, hev, hc⟩ : ∃ ev, a.eval y = ev ∧ VRel x ev (operV tm y) := ⟨_, rfl, hs.oper y⟩
    -- an array, a slice: how the model goes on
    have arrRun : ∀ {len esz : Nat} {eagg : Bool}, (tyOf tv t).sh = .arr len esz eagg → 0 ≤ n → n < len → ∀ c off, a.eval y = .pointer (some ⟨c, off, none⟩) →
        (execOp a.eval o).run P x.w = .ok (.value (.pointer (some ⟨c, off + n.toNat * esz, none⟩))) x.w := by
      intro len esz eagg hsh h0 h1 c off hev
      obtain ⟨d, hu, e, ti, hdd, hti, hsz, _⟩ := sh_of htv hsh (by simp)
      simp [execOp, ho, hi, hev, Instr.indexAt, asIntOf, run_und hu, hdd, Instr.sureAddr, h0, h1, run_size hti, hsz, add_none]
    have slRun : ∀ {esz eb : Nat} {ez : List D}, (tyOf tv t).sh = .slc esz eb ez → ∀ m, 0 ≤ n → n < (m : Nat) → ∀ c off cap, a.eval y = .slice (some ⟨c, off, none⟩) m cap →
        (execOp a.eval o).run P x.w = .ok (.value (.pointer (some ⟨c, off + n.toNat * esz, none⟩))) x.w := by
      intro esz eb ez hsh m h0 h1 c off cap hev
      obtain ⟨d, hu, e, ti, z, hdd, hti, hsz, _⟩ := sh_of htv hsh (by simp)
      simp [execOp, ho, hi, hev, Instr.indexAt, asIntOf, run_und hu, hdd, h0, h1, run_size hti, hsz, add_none]
    split at hx
    · -- an array's variable
      rename_i len esz eagg b off hsh hv
      rw [hv] at hc hx
      obtain ⟨⟨h0, h1⟩, hx⟩ := hx
      obtain ⟨blk, fp', hb, hx, rfl⟩ := hx
      dsimp only at hx
      split at hx
      · cases hc with | c _ _ hc =>
          cases hc with
          | ptr _ c _ cs hb' hg hu' => exact sim_ret hs hd hx (arrRun hsh h0 h1 c off hev) (.c _ _ (.ptr b c _ cs hb' hg hu'))
          | ptrOld _ _ _ _ _ h => rw [hb] at h; simp at h
      · exact hx.elim
    · rename_i len esz eagg cells hsh hv
      rw [hv] at hc
      obtain ⟨⟨h0, h1⟩, hle, hx⟩ := hx
      cases hc with | c _ _ hc => cases hc with | d _ _ hc =>
        cases hc with
        | fpNone p hps =>
          obtain ⟨c, o', spot⟩ := p
          simp at hps
          subst hps
          have hnil : ([] : List D).drop (n.toNat * esz) = [] := by simp
          rw [hnil] at hx
          exact sim_ret hs hd hx (arrRun hsh h0 h1 c o' hev) (.c _ _ (.d _ _ (.fpNone _ rfl)))
        | fp c o' _ arr e fr hok hw hsz2 hr =>
          refine sim_ret hs hd hx (arrRun hsh h0 h1 c o' hev) (.c _ _ (.d _ _ (.fp c (o' + n.toNat * esz) _ arr e fr hok hw (by simp; omega) fun j z hj => ?_)))
          rw [List.getElem?_drop] at hj
          rw [Nat.add_assoc]
          exact hr _ _ hj
    · -- a slice that is only read
      rename_i esz eb ez e es hsh hv
      rw [hv] at hc
      obtain ⟨⟨he, h0⟩, hx⟩ := hx
      subst he
      split at hx
      · rename_i cs hcs
        have hlt : n.toNat < es.length := (List.getElem?_eq_some_iff.1 hcs).1
        cases hc with | c _ _ hc => cases hc with | d _ _ hc =>
          cases hc with
          | slNil => simp at hcs
          | slNone => simp at hcs
          | sl c off cap _ _ arr et fr hcap hok hw hsz hlen hr =>
            have hcl := hlen cs (List.mem_of_getElem? hcs)
            refine sim_ret hs hd hx (slRun hsh es.length h0 (by omega) c off cap hev) (.c _ _ (.d _ _ (.fp c _ cs arr et fr hok hw ?_ fun j z hj => ?_)))
            · rw [hcl]
              have : n.toNat * e + e ≤ es.length * e := by rw [← Nat.succ_mul]; exact Nat.mul_le_mul_right _ hlt
              omega
            · rw [Nat.add_assoc]
              exact hr _ _ _ _ hcs hj
      · exact hx.elim
    · -- a slice that is lent
      rename_i esz eb ez kb e es hsh hv
      rw [hv] at hc
      obtain ⟨⟨he, h0⟩, hx⟩ := hx
      subst he
      split at hx
      · rename_i cs hcs
        have hlt : n.toNat < es.length := (List.getElem?_eq_some_iff.1 hcs).1
        cases hc with | c _ _ hc => cases hc with | cd _ _ _ hc =>
          cases hc with
          | slNil => simp at hcs
          | slNone => simp at hcs
          | sl c off cap _ _ arr et fr hcap hok hw hsz hlen hr =>
            have hcl := hlen cs (List.mem_of_getElem? hcs)
            refine sim_ret hs hd hx (slRun hsh es.length h0 (by omega) c off cap hev) (.c _ _ (.cd _ _ _ (.fp c _ cs arr et fr hok hw ?_ fun j z hj => ?_)))
            · rw [hcl]
              have : n.toNat * e + e ≤ es.length * e := by rw [← Nat.succ_mul]; exact Nat.mul_le_mul_right _ hlt
              omega
            · rw [Nat.add_assoc]
              exact hr _ _ _ _ hcs hj
      · exact hx.elim
    · rename_i esz eb ez b g off m hsh hv
      rw [hv] at hc
      obtain ⟨⟨h0, h1⟩, blk, fp', hb, hx, rfl⟩ := hx
      dsimp only at hx
      split at hx
      · rename_i e es fz
        obtain ⟨⟨he, hl, hom⟩, hx⟩ := hx
        subst he
        cases hc with | c _ _ hc =>
          cases hc with
          | refNil _ _ _ hb2 hu2 => simp at h1; omega
          | ref _ c _ _ cap esz' es' fz' arr et fr hb2 hg hw h2 h3 h4 hu2 =>
            rw [hb] at hb2
            cases hb2
            refine sim_ret hs hd hx (slRun hsh m h0 h1 c (off * e) cap hev) (.c _ _ ?_)
            rw [← Nat.add_mul]
            exact .eptr b c (off + n.toNat) 0 e es fz hb hg (by omega) hu2
          | refOld _ _ _ _ _ _ _ h =>
            rcases h with h | ⟨_, _, _, h, hl2⟩
            · rw [hb] at h; simp at h
            · rw [hb] at h; cases h; omega
      · exact hx.elim
    · rename_i esz eb ez b off m e hsh hv
      rw [hv] at hc hx
      obtain ⟨⟨he, h0, h1⟩, blk, fp', hb, hx, rfl⟩ := hx
      subst he
      dsimp only at hx
      split at hx
      · cases hc with | c _ _ hc =>
          cases hc with
          | bref _ c _ _ cap _ cs hb2 hg h2 h3 hu2 => exact sim_ret hs hd hx (slRun hsh m h0 h1 c off cap hev) (.c _ _ (.ptr b c _ cs hb2 hg hu2))
          | brefOld _ _ _ _ _ _ _ h => rw [hb] at h; simp at h
      · exact hx.elim
    · exact hx.elim
  · exact hx.elim

end
end Go.Vs

/- Lengths, slices of slices, look-ups, comparisons. -/
namespace Go.Vs

section
variable {P : Program} {tv : Tv} {o : Oper} {a : Act} {x : Cx} {tm : Nat → V} {base : Nat} {v : V} {hp' : HpF} {fp : Fp}

/-- A builtin without other effects. -/
theorem run_builtin {b : Builtin} {args : Array Operand} {ts : Array Nat} (ho : o.op = .call { callee := .builtin b, args := args, argTypes := ts }) {u : Value} {w w' : World}
    (h : ∀ cs, (builtin b ts o.type cs (args.map a.eval)).run P w = .ok (.value u) w') :
    (execOp a.eval o).run P w = .ok (.value u) w' := by
  simp only [execOp, ho, resolve, invoke, Sem.run_bind, Sem.run_pure, Result.andThen_ok, h]

theorem args_list {args : Array Operand} {ys : List V} (hs : SRel x tm a) (h : args.toList.map (operV tm) = ys) :
    (args.map a.eval).size = ys.length ∧ ∀ (j : Nat) (y : V), ys[j]? = some y → ∃ u, (args.map a.eval)[j]? = some u ∧ VRel x u y := by
  subst h
  refine ⟨by simp, fun j y hj => ?_⟩
  rw [List.getElem?_map] at hj
  cases hq : args.toList[j]? with
  | none => rw [hq] at hj; simp at hj
  | some q =>
    rw [hq] at hj
    simp at hj
    subst hj
    exact ⟨a.eval q, by simp at hq; simp [hq], hs.oper q⟩

theorem arr1 {args : Array Value} (h : args.size = 1) {u : Value} (h0 : args[0]? = some u) : args = #[u] := by
  apply Array.ext'
  match args, h, h0 with
  | ⟨[w]⟩, _, h0 => simp at h0; simp [h0]

theorem arr2 {args : Array Value} (h : args.size = 2) {u w : Value} (h0 : args[0]? = some u) (h1 : args[1]? = some w) : args = #[u, w] := by
  apply Array.ext'
  match args, h, h0, h1 with
  | ⟨[p, q]⟩, _, h0, h1 => simp at h0 h1; simp [h0, h1]

theorem sim_len {args : Array Operand} {ts : Array Nat} {y : V} {t : Nat} (htv : TvOk P tv)
    (ho : o.op = .call { callee := .builtin .len, args := args, argTypes := ts }) (ht : ts.toList = [t]) (hy : args.toList.map (operV tm) = [y])
    (hs : SRel x tm a) (hd : ∀ d, o.dst = some d → d < a.tmps.size)
    (hx : (lenV (tyOf tv t).sh y).exec P x.hp v hp' fp) : Sim P o a x tm base v hp' := by
  obtain ⟨h1, h2⟩ := args_list hs hy
  obtain ⟨ev, hev, hc⟩ := h2 0 y rfl
  have hargs := arr1 h1 hev
  have hts : ts = #[t] := by apply Array.ext'; simpa using ht
  have key : ∀ {d : TypeDesc} {n : Nat}, P.underlying t = some d → (Builtin.len_ #[t] o.type #[ev]).run P x.w = .ok (goInt n) x.w →
      (execOp a.eval o).run P x.w = .ok (.value (.int .i64 n)) x.w := by
    intro d n hu hr
    exact run_builtin ho fun cs => by simp [hargs, hts, builtin, hr, goInt]
  unfold lenV at hx
  split at hx
  · rename_i sh e1 e2 e3 hsh
    obtain ⟨d, hu, e, ti, z, hdd, _⟩ := sh_of htv hsh (by simp)
    have := hc.nilSl_inv
    subst this
    exact sim_ret hs hd hx (key (n := 0) hu (by simp [Builtin.len_, run_und hu, hdd])) (VRel.int_mk x _ _)
  · rename_i sh e1 e2 e3 e4 es hsh
    obtain ⟨d, hu, e, ti, z, hdd, _⟩ := sh_of htv hsh (by simp)
    refine sim_ret hs hd hx (key hu ?_) (VRel.int_mk x _ _)
    cases hc with | c _ _ hc => cases hc with | d _ _ hc => cases hc <;> simp [Builtin.len_, run_und hu, hdd]
  · rename_i sh e1 e2 e3 kb e4 es hsh
    obtain ⟨d, hu, e, ti, z, hdd, _⟩ := sh_of htv hsh (by simp)
    refine sim_ret hs hd hx (key hu ?_) (VRel.int_mk x _ _)
    cases hc with | c _ _ hc => cases hc with | cd _ _ _ hc => cases hc <;> simp [Builtin.len_, run_und hu, hdd]
  · rename_i sh e1 e2 e3 b g off n hsh
    obtain ⟨d, hu, e, ti, z, hdd, _⟩ := sh_of htv hsh (by simp)
    obtain ⟨blk, fp', hb, hx, rfl⟩ := hx
    dsimp only at hx
    split at hx
    · obtain ⟨⟨hl, hon⟩, hx⟩ := hx
      refine sim_ret hs hd hx (key hu ?_) (VRel.int_mk x _ _)
      cases hc with | c _ _ hc => cases hc with
        | refNil => simp [Builtin.len_, run_und hu, hdd]
        | ref => simp [Builtin.len_, run_und hu, hdd]
        | refOld _ _ _ _ _ _ _ h =>
          rcases h with h | ⟨_, _, _, h, hl2⟩
          · rw [hb] at h; simp at h
          · rw [hb] at h; cases h; omega
    · exact hx.elim
  · rename_i sh e1 e2 e3 b off n esz hsh
    obtain ⟨d, hu, e, ti, z, hdd, _⟩ := sh_of htv hsh (by simp)
    obtain ⟨blk, fp', hb, hx, rfl⟩ := hx
    dsimp only at hx
    split at hx
    · obtain ⟨_, hx⟩ := hx
      refine sim_ret hs hd hx (key hu ?_) (VRel.int_mk x _ _)
      cases hc with | c _ _ hc => cases hc with
        | bref => simp [Builtin.len_, run_und hu, hdd]
        | brefOld _ _ _ _ _ _ _ h => rw [hb] at h; simp at h
    · exact hx.elim
  · rename_i sh kk z0 hsh
    obtain ⟨d, hu, k, e, ti, hdd, _⟩ := sh_of htv hsh (by simp)
    refine sim_ret hs hd hx (key (n := 0) hu ?_) (VRel.int_mk x _ _)
    cases hc with | c _ _ hc => cases hc with | d _ _ hc => cases hc; simp [Builtin.len_, run_und hu, hdd]
  · rename_i sh kk z0 es hsh
    obtain ⟨d, hu, k, e, ti, hdd, _⟩ := sh_of htv hsh (by simp)
    refine sim_ret hs hd hx (key hu ?_) (VRel.int_mk x _ _)
    cases hc with | c _ _ hc => cases hc with | d _ _ hc => cases hc with
      | mp c ents clk _ hok hw hsz =>
        simp [Builtin.len_, run_und hu, hdd, getObj, Sem.run, hw, hsz]
  · rename_i sh kk z0 b hsh
    obtain ⟨d, hu, k, e, ti, hdd, _⟩ := sh_of htv hsh (by simp)
    obtain ⟨blk, fp', hb, hx, rfl⟩ := hx
    dsimp only at hx
    split at hx
    · refine sim_ret hs hd hx (key hu ?_) (VRel.int_mk x _ _)
      cases hc with | c _ _ hc => cases hc with
        | mref _ c es hb2 hg hu2 =>
          rw [hb] at hb2
          cases hb2
          obtain ⟨c', ents, clk, hg', hw, hsz, _⟩ := (hs.hp b _ hb).2
          rw [hg] at hg'
          cases hg'
          simp [Builtin.len_, run_und hu, hdd, getObj, Sem.run, hw, hsz]
        | mrefOld _ _ _ _ h => rw [hb] at h; simp at h
    · exact hx.elim
  · exact hx.elim

theorem sim_min {args : Array Operand} {ts : Array Nat} (ho : o.op = .call { callee := .builtin .min, args := args, argTypes := ts })
    (hs : SRel x tm a) (hd : ∀ d, o.dst = some d → d < a.tmps.size)
    (hx : (retO (minV (args.toList.map (operV tm)))).exec P x.hp v hp' fp) : Sim P o a x tm base v hp' := by
  obtain ⟨hx2, hhp⟩ := retO_exec hx
  subst hhp
  unfold minV at hx2
  split at hx2
  · rename_i k a1 k' b1 hy
    split at hx2
    · rename_i hk
      subst hk
      obtain ⟨h1, h2⟩ := args_list hs hy
      obtain ⟨u1, hu1, hc1⟩ := h2 0 _ rfl
      obtain ⟨u2, hu2, hc2⟩ := h2 1 _ rfl
      have hargs := arr2 h1 hu1 hu2
      have e1 := hc1.int_inv
      have e2 := hc2.int_inv
      subst e1
      subst e2
      cases hx2
      exact .of_read hs hd (run_builtin ho fun cs => by simp [hargs, builtin, Builtin.min_, Builtin.min2]) (VRel.int_mk x _ _)
    · simp at hx2
  · simp at hx2

/-- The bounds of a slice expression. -/
theorem bound_sim {q : Option Operand} {dflt : Nat} {k : Int → Prog} (hs : SRel x tm a) (hx : (boundV (q.map (operV tm)) dflt k).exec P x.hp v hp' fp) :
    ∃ n : Int, (k n).exec P x.hp v hp' fp ∧ ((q = none ∧ n = dflt) ∨ ∃ q' kk, q = some q' ∧ a.eval q' = .int kk n) := by
  unfold boundV at hx
  split at hx
  · rename_i h
    have : q = none := by simpa using h
    exact ⟨_, hx, .inl ⟨this, rfl⟩⟩
  · rename_i kk n h
    obtain ⟨q', hq, hv⟩ := Option.map_eq_some_iff.1 h
    have := hs.oper q'
    rw [hv] at this
    exact ⟨_, hx, .inr ⟨q', kk, hq, this.int_inv⟩⟩
  · exact hx.elim

theorem bounds_run {w : World} {len cap : Nat} {lo hi : Option Operand} {l h : Int} (hhi : (hi = none ∧ h = len) ∨ ∃ q kk, hi = some q ∧ a.eval q = .int kk h)
    (hlo : (lo = none ∧ l = (0 : Nat)) ∨ ∃ q kk, lo = some q ∧ a.eval q = .int kk l) (h0 : 0 ≤ l) (h1 : l ≤ h) (h2 : h ≤ cap) :
    (Instr.sliceBounds true len cap (lo.map a.eval) (hi.map a.eval) none).run P w = .ok (l.toNat, h.toNat, cap) w := by
  unfold Instr.sliceBounds
  have hh : 0 ≤ h := by omega
  have e1 : ((h.toNat : Nat) : Int) = h := by omega
  rcases hhi with ⟨rfl, rfl⟩ | ⟨q, kk, rfl, hq⟩ <;> rcases hlo with ⟨rfl, rfl⟩ | ⟨q2, kk2, rfl, hq2⟩
  · simp
  · simp [hq2, Instr.sliceBound, asIntOf, h0, h1]
  · simp [hq, Instr.sliceBound, asIntOf, hh, h2]
  · simp [hq, hq2, Instr.sliceBound, asIntOf, hh, h2, h0, e1, h1]

theorem sim_slice {t : Nat} {y : Operand} {lo hi : Option Operand} (htv : TvOk P tv) (ho : o.op = .slice t y lo hi none) (hs : SRel x tm a) (hd : ∀ d, o.dst = some d → d < a.tmps.size)
    (hx : (sem tv base (operV tm) o).exec P x.hp v hp' fp) : Sim P o a x tm base v hp' := by
  simp only [sem, semOp, ho, sliceV] at hx
  obtain ⟨ev, hev, hc⟩ : ∃ ev, a.eval y = ev ∧ VRel x ev (operV tm y) := ⟨_, rfl, hs.oper y⟩
  have slRun : ∀ {esz eb : Nat} {ez : List D}, (tyOf tv t).sh = .slc esz eb ez → ∀ ad len cap u, ev = .slice ad len cap → ∀ l h : Nat,
      (Instr.sliceBounds true len cap (lo.map a.eval) (hi.map a.eval) none).run P x.w = .ok (l, h, cap) x.w →
      u = .slice (if cap = l then ad else ad.map (·.add (l * esz))) (h - l) (cap - l) → (execOp a.eval o).run P x.w = .ok (.value u) x.w := by
    intro esz eb ez hsh ad len cap u he l h hb hu
    obtain ⟨d, hun, e, ti, z, hdd, hti, hsz, _⟩ := sh_of htv hsh (by simp)
    subst hu
    simp [execOp, ho, hev, he, Instr.sliceAt, Instr.slice, run_und hun, hdd, hb, run_size hti, hsz]
  split at hx
  · rename_i esz eb ez e es hsh hv
    rw [hv] at hc
    obtain ⟨h, hx, hhi⟩ := bound_sim hs hx
    obtain ⟨l, hx, hlo⟩ := bound_sim hs hx
    obtain ⟨⟨he, h0, h1, h2⟩, hx⟩ := hx
    subst he
    cases hc with | c _ _ hc => cases hc with | d _ _ hc => cases hc with
      | slNil =>
        simp at h2
        obtain rfl : h = 0 := by omega
        obtain rfl : l = 0 := by omega
        refine sim_ret hs hd hx (slRun hsh none 0 0 _ rfl 0 0 (bounds_run hhi hlo (by omega) (by omega) (by simp)) rfl) ?_
        simp
        exact .c _ _ (.d _ _ (.slNil _))
      | slNone ad cap =>
        simp at h2
        obtain rfl : h = 0 := by omega
        obtain rfl : l = 0 := by omega
        refine sim_ret hs hd hx (slRun hsh (some ad) 0 cap _ rfl 0 0 (bounds_run hhi hlo (by omega) (by omega) (by simp)) rfl) ?_
        simp
        split
        · exact .c _ _ (.d _ _ (.slNone _ _ _))
        · exact .c _ _ (.d _ _ (.slNone _ _ _))
      | sl c off cap _ _ arr et fr hcap hok hw hsz hlen hr =>
        refine sim_ret hs hd hx (slRun hsh (some ⟨c, off, none⟩) es.length cap _ rfl l.toNat h.toNat (bounds_run hhi hlo h0 h1 (by omega)) rfl) ?_
        have hll : ((es.drop l.toNat).take (h - l).toNat).length = (h - l).toNat := by simp; omega
        by_cases hcl : cap = l.toNat
        · rw [if_pos hcl]
          have e0 : (h - l).toNat = 0 := by omega
          have e1 : h.toNat - l.toNat = 0 := by omega
          rw [e0, e1]
          exact .c _ _ (.d _ _ (.slNone _ _ _))
        · rw [if_neg hcl, Option.map_some, add_none]
          have e1 : h.toNat - l.toNat = (h - l).toNat := by omega
          have := DRel.sl (w := x.w) (ok := x.ok) c (off + l.toNat * e) (cap - l.toNat) e ((es.drop l.toNat).take (h - l).toNat) arr et fr (by omega) hok hw
            (by
              rw [hll]
              have : (l.toNat + (h - l).toNat) * e ≤ es.length * e := Nat.mul_le_mul_right _ (by omega)
              rw [Nat.add_mul] at this
              omega)
            (fun cs hcs => hlen cs (List.mem_of_mem_drop (List.mem_of_mem_take hcs)))
            (fun i cs j z hi hj => by
              rw [List.getElem?_take] at hi
              split at hi
              · rw [List.getElem?_drop] at hi
                have := hr _ cs j z hi hj
                rw [Nat.add_mul] at this
                rw [show off + l.toNat * e + (i * e + j) = off + (l.toNat * e + i * e + j) by omega]
                exact this
              · simp at hi)
          rw [hll, ← e1] at this
          rw [← e1]
          exact .c _ _ (.d _ _ this)
  · rename_i esz eb ez hsh hv
    rw [hv] at hc
    have := hc.nilSl_inv
    subst this
    obtain ⟨h, hx, hhi⟩ := bound_sim hs hx
    obtain ⟨l, hx, hlo⟩ := bound_sim hs hx
    obtain ⟨⟨h0, h1⟩, hx'⟩ := hx
    subst h0
    subst h1
    refine sim_ret hs hd hx' (slRun hsh none 0 0 _ rfl 0 0 (bounds_run hhi hlo (by omega) (by omega) (by simp)) rfl) ?_
    simp
    exact .c _ _ (.d _ _ .nilSl)
  · rename_i esz eb ez b g off n hsh hv
    rw [hv] at hc
    obtain ⟨h, hx, hhi⟩ := bound_sim hs hx
    obtain ⟨l, hx, hlo⟩ := bound_sim hs hx
    obtain ⟨⟨h0, h1, h2, h3⟩, blk, fp', hb, hx', hfp⟩ := hx
    clear hx
    rename_i hx; clear hx
    have hx := hx'
    clear hx'
    dsimp only at hx
    split at hx
    · rename_i e es fz
      obtain ⟨⟨he, hl, hon⟩, hx⟩ := hx
      subst he
      cases hc with | c _ _ hc => cases hc with
        | refNil _ _ _ hb2 hu2 =>
          simp at h2
          obtain rfl : h = 0 := by omega
          obtain rfl : l = 0 := by omega
          refine sim_ret hs hd hx (slRun hsh none 0 0 _ rfl 0 0 (bounds_run hhi hlo (by omega) (by omega) (by simp)) rfl) ?_
          simp
          exact .c _ _ (.refNil b _ _ hb2 hu2)
        | ref _ c _ _ cap esz' es' fz' arr et fr hb2 hg hw h4 h5 h6 hu2 =>
          rw [hb] at hb2
          cases hb2
          refine sim_ret hs hd hx (slRun hsh (some ⟨c, off * e, none⟩) n cap _ rfl l.toNat h.toNat (bounds_run hhi hlo h0 h1 (by omega)) rfl) ?_
          have e1 : h.toNat - l.toNat = (h - l).toNat := by omega
          have e2 : (if cap = l.toNat then (some ⟨c, off * e, none⟩ : Option Addr) else (some ⟨c, off * e, none⟩ : Option Addr).map (·.add (l.toNat * e))) = some ⟨c, (off + l.toNat) * e, none⟩ := by
            split
            · rename_i hcl
              rcases h3 with h3 | h3
              · omega
              · subst h3; simp
            · simp [add_none, Nat.add_mul]
          rw [e1, e2]
          refine .c _ _ (.ref b c _ _ _ e es fz arr et fr hb hg hw (by omega) (by omega) ?_ hu2)
          have : off + l.toNat + (cap - l.toNat) ≤ off + cap := by omega
          exact Nat.le_trans (Nat.mul_le_mul_right _ this) h6
        | refOld _ _ _ _ _ _ _ h =>
          rcases h with h | ⟨_, _, _, h, hl2⟩
          · rw [hb] at h; simp at h
          · rw [hb] at h; cases h; omega
    · exact hx.elim
  · rename_i n esz eagg b off hsh hv
    rw [hv] at hc
    split at hx
    · rename_i hlo hhi
      obtain ⟨blk, fp', hb, hx, rfl⟩ := hx
      dsimp only at hx
      split at hx
      · rename_i cs
        obtain ⟨hle, hx⟩ := hx
        have hlo' : lo = none := by simpa using hlo
        have hhi' : hi = none := by simpa using hhi
        obtain ⟨d, hun, e, ti, hdd, hti, hsz, _⟩ := sh_of htv hsh (by simp)
        cases hc with | c _ _ hc => cases hc with
          | ptr _ c _ cs' hb' hg hu' =>
            refine sim_ret hs hd (v' := .slice (some ⟨c, off, none⟩) n n) hx ?_ (.c _ _ (.bref b c off n n esz _ hb hg (Nat.le_refl _) hle hu'))
            simp [execOp, ho, hev, Instr.sliceAt, run_und hun, hdd, Instr.sureAddr, hlo', hhi', Instr.sliceBounds, run_size hti, add_none]
          | ptrOld _ _ _ _ _ h => rw [hb] at h; simp at h
      · exact hx.elim
    · exact hx.elim
  · exact hx.elim

end
end Go.Vs

/- Maps with whole numbers for keys; comparisons and sums. -/
namespace Go.Vs

section
variable {P : Program} {tv : Tv} {o : Oper} {a : Act} {x : Cx} {tm : Nat → V} {base : Nat} {v : V} {hp' : HpF} {fp : Fp}

/-! ### Maps -/

/-- The entries of a map read as these pairs. -/
structure Ents (w : World) (ok : Nat → Prop) (ents : List MapEntry) (es : List (D × D)) : Prop where
  len : ents.length = es.length
  key : ∀ (i : Nat) (p : D × D), es[i]? = some p → DRel w ok (ents.getD i default).key p.1
  val : ∀ (i : Nat) (p : D × D), es[i]? = some p → DRel w ok (ents.getD i default).val p.2

theorem Ents.of_arr {w : World} {ok : Nat → Prop} {ents : Array MapEntry} {es : List (D × D)} (h : ents.size = es.length)
    (hk : ∀ i p, es[i]? = some p → DRel w ok (ents.getD i default).key p.1) (hv : ∀ i p, es[i]? = some p → DRel w ok (ents.getD i default).val p.2) :
    Ents w ok ents.toList es :=
  ⟨by simpa using h, fun i p hi => by simpa [List.getD_eq_getElem?_getD, Array.getD_eq_getD_getElem?] using hk i p hi,
    fun i p hi => by simpa [List.getD_eq_getElem?_getD, Array.getD_eq_getD_getElem?] using hv i p hi⟩

theorem Ents.tail {w : World} {ok : Nat → Prop} {e : MapEntry} {ents : List MapEntry} {p : D × D} {es : List (D × D)} (h : Ents w ok (e :: ents) (p :: es)) :
    DRel w ok e.key p.1 ∧ DRel w ok e.val p.2 ∧ Ents w ok ents es :=
  ⟨by simpa using h.key 0 p rfl, by simpa using h.val 0 p rfl, by simpa using h.len, fun i q hi => by simpa using h.key (i + 1) q (by simpa using hi),
    fun i q hi => by simpa using h.val (i + 1) q (by simpa using hi)⟩

/-- A look-up in the entries finds what the look-up in the pairs finds. -/
theorem findNow_sim {w : World} {ok : Nat → Prop} {kk k : IntKind} {n : Int} : ∀ {es : List (D × D)} {ents : List MapEntry} {r : Option D} (i0 : Nat), Ents w ok ents es →
    mpLook (.int k n) es = some r →
    (r = none ∧ Instr.findNow (.int kk) (.int k n) ents i0 = some none ∧ ∀ (i : Nat) (p : D × D), es[i]? = some p → ∃ b, p.1 = .int k b ∧ n ≠ b) ∨
    ∃ d i e, r = some d ∧ Instr.findNow (.int kk) (.int k n) ents i0 = some (some (i0 + i, e.val)) ∧ ents[i]? = some e ∧ DRel w ok e.val d ∧ e.key = .int k n ∧ es[i]? = some (.int k n, d) ∧
      ∀ (j : Nat) (p : D × D), j < i → es[j]? = some p → ∃ b, p.1 = .int k b ∧ n ≠ b
  | [], ents, r, i0, he, h => by
    have : ents = [] := List.eq_nil_of_length_eq_zero (by simpa using he.len)
    subst this
    simp [mpLook] at h
    exact .inl ⟨h.symm, rfl, fun i p hi => by simp at hi⟩
  | (kd, d) :: es, ents, r, i0, he, h => by
    obtain ⟨e, ents, rfl⟩ : ∃ e l, ents = e :: l := by
      cases ents with
      | nil => have := he.len; simp at this
      | cons e l => exact ⟨e, l, rfl⟩
    obtain ⟨h1, h2, h3⟩ := he.tail
    cases kd with
    | int k' b =>
      simp only [mpLook] at h
      split at h
      · rename_i hk
        subst hk
        simp only at h1
        generalize hek : e.key = ek at h1
        cases h1
        split at h
        · rename_i hnb
          subst hnb
          cases h
          refine .inr ⟨d, 0, e, rfl, ?_, rfl, h2, hek, rfl, fun j p hj => by omega⟩
          simp [Instr.findNow, hek, Instr.sameNow]
        · rename_i hnb
          have hf : Instr.findNow (.int kk) (.int k n) (e :: ents) i0 = Instr.findNow (.int kk) (.int k n) ents (i0 + 1) := by
            have : (n == b) = false := by simp [hnb]
            simp [Instr.findNow, hek, Instr.sameNow, this]
          rcases findNow_sim (i0 + 1) h3 h with ⟨hr, g1, g2⟩ | ⟨d', i, e', hr, g1, g2, g3, g4, g5, g6⟩
          · refine .inl ⟨hr, hf.trans g1, fun i p hi => ?_⟩
            cases i with
            | zero => simp at hi; subst hi; exact ⟨b, rfl, hnb⟩
            | succ i => exact g2 i p (by simpa using hi)
          · refine .inr ⟨d', i + 1, e', hr, ?_, by simpa using g2, g3, g4, by simpa using g5, fun j p hj hi => ?_⟩
            · rw [hf, g1]
              congr 3
              omega
            · cases j with
              | zero => simp at hi; subst hi; exact ⟨b, rfl, hnb⟩
              | succ j => exact g6 j p (by omega) (by simpa using hi)
      · simp at h
    | _ => simp [mpLook] at h

/-- A map value, and its entries. -/
theorem mpOf_sim {ev : Value} {y : V} {k : List (D × D) → Prog} (hs : HRel x) (hc : VRel x ev y) (hx : (mpOf y k).exec P x.hp v hp' fp) :
    ∃ es fp', (k es).exec P x.hp v hp' fp' ∧ ((ev = .map none ∧ es = []) ∨ ∃ c ents clk, ev = .map (some c) ∧ x.w.heap[c]? = some (.map ents clk) ∧ Ents x.w x.ok ents.toList es) := by
  unfold mpOf at hx
  split at hx
  · cases hc with | c _ _ hc => cases hc with | d _ _ hc => cases hc
                                                            exact ⟨[], fp, hx, .inl ⟨rfl, rfl⟩⟩
  · cases hc with | c _ _ hc => cases hc with | d _ _ hc => cases hc with
      | mp c ents clk es hok hw hsz hk hv => exact ⟨_, fp, hx, .inr ⟨c, ents, clk, rfl, hw, .of_arr hsz hk hv⟩⟩
  · obtain ⟨blk, fp', hb, hx, rfl⟩ := hx
    dsimp only at hx
    split at hx
    · cases hc with | c _ _ hc => cases hc with
        | mref _ c es hb2 hg hu2 =>
          rw [hb] at hb2
          cases hb2
          obtain ⟨c', ents, clk, hg', hw, hsz, hk, hv⟩ := (hs.hp _ _ hb).2
          rw [hg] at hg'
          cases hg'
          exact ⟨_, _, hx, .inr ⟨c, ents, clk, rfl, hw, .of_arr hsz hk hv⟩⟩
        | mrefOld _ _ _ _ h => rw [hb] at h; simp at h
    · exact hx.elim
  · exact hx.elim

theorem run_getObj_map {w : World} {c : Nat} {ents : Array MapEntry} {clk : Nat} (hw : w.heap[c]? = some (.map ents clk)) : (getObj c).run P w = .ok (.map ents clk) w := by
  simp [getObj, Sem.run, hw]

theorem run_checkKey_int {w : World} {kt : TypeId} {kk k : IntKind} {n : Int} (hk : P.underlying kt = some (.int kk)) (e : Bool) :
    ∀ m, (Instr.checkKey e (m + 1) kt (.int k n)).run P w = .ok () w := by
  intro m
  simp [Instr.checkKey, run_und hk]

theorem run_findKey_int {w : World} {kt : TypeId} {kk k : IntKind} {n : Int} {ents : List MapEntry} {r : Option (Nat × Value)} (hk : P.underlying kt = some (.int kk))
    (h : Instr.findNow (.int kk) (.int k n) ents 0 = some r) : (Instr.findKey kt (.int k n) ents).run P w = .ok r w := by
  simp [Instr.findKey, run_und hk, h]

theorem sim_lookup {t : Nat} {y i : Operand} {ok : Bool} (htv : TvOk P tv) (ho : o.op = .lookup t y i ok) (hs : SRel x tm a) (hd : ∀ d, o.dst = some d → d < a.tmps.size)
    (hx : (sem tv base (operV tm) o).exec P x.hp v hp' fp) : Sim P o a x tm base v hp' := by
  simp only [sem, semOp, ho] at hx
  split at hx
  · rename_i sh kk z hsh
    obtain ⟨d, hun, kt, et, ti, hdd, hkt, hti, hz, hzf⟩ := sh_of htv hsh (by simp)
    unfold lookupV at hx
    split at hx
    · rename_i k n hi
      have hiv := hs.oper i
      rw [hi] at hiv
      have hiv := hiv.int_inv
      split at hx
      · rename_i hkk
        obtain ⟨es, fp', hx, hm⟩ := mpOf_sim hs.toHRel (hs.oper y) hx
        have run : ∀ r, mpLook (.int k n) es = some r → ∃ vv, (execOp a.eval o).run P x.w = .ok (.value (if ok then .tuple #[vv, .bool r.isSome] else vv)) x.w ∧ DRel x.w x.ok vv (r.getD z) := by
          intro r h
          have zrun : (zeroValue et).run P x.w = .ok z.toVal x.w := run_zero hti hz
          rcases hm with ⟨hev, hes⟩ | ⟨c, ents, clk, hev, hw, he⟩
          · subst hes
            simp [mpLook] at h
            subst h
            refine ⟨z.toVal, ?_, D.toVal_rel hzf⟩
            have hfk : (Instr.findKey kt (.int k n) []).run P x.w = .ok none x.w := run_findKey_int hkt rfl
            simp [execOp, ho, hiv, hev, Instr.lookup, run_und hun, hdd, run_checkKey_int hkt, hfk, zrun]
          · rcases findNow_sim (kk := kk) 0 he h with ⟨hr, g1, _⟩ | ⟨d', j, e', hr, g1, g2, g3, _⟩
            · subst hr
              refine ⟨z.toVal, ?_, D.toVal_rel hzf⟩
              simp [execOp, ho, hiv, hev, Instr.lookup, run_und hun, hdd, run_getObj_map hw, run_checkKey_int hkt, run_findKey_int hkt g1, zrun]
            · subst hr
              refine ⟨e'.val, ?_, g3⟩
              simp [execOp, ho, hiv, hev, Instr.lookup, run_und hun, hdd, run_getObj_map hw, run_checkKey_int hkt, run_findKey_int hkt g1]
        split at hx
        · rename_i d' h
          obtain ⟨vv, hr, hv⟩ := run _ h
          refine sim_ret hs hd hx hr ?_
          cases ok
          · exact .c _ _ (.d _ _ hv)
          · refine .tup _ _ rfl fun j z hj => ?_
            match j with
            | 0 => simp at hj; subst hj; exact .c _ _ (.d _ _ hv)
            | 1 => simp at hj; subst hj; exact .c _ _ (.d _ _ (.bool true))
            | j + 2 => simp at hj
        · rename_i h
          obtain ⟨vv, hr, hv⟩ := run _ h
          refine sim_ret hs hd hx hr ?_
          cases ok
          · exact .c _ _ (.d _ _ hv)
          · refine .tup _ _ rfl fun j z hj => ?_
            match j with
            | 0 => simp at hj; subst hj; exact .c _ _ (.d _ _ hv)
            | 1 => simp at hj; subst hj; exact .c _ _ (.d _ _ (.bool false))
            | j + 2 => simp at hj
        · exact hx.elim
      · exact hx.elim
    · exact hx.elim
  · exact hx.elim

/-! ### Comparisons and sums -/

theorem run_bin {op : BinOp} {t yt : Nat} {y z : Operand} (ho : o.op = .binOp op t y z yt) {u : Value} {w w' : World}
    (hg : (eqGuard op t y z (a.eval y) (a.eval z)).run P w = .ok () w) (h : (binOp op t (a.eval y) (a.eval z)).run P w = .ok u w') :
    (execOp a.eval o).run P w = .ok (.value u) w' := by
  simp [execOp, ho, hg, h]

theorem guard_int {op : BinOp} {t : Nat} {y z : Operand} {k k' : IntKind} {p q : Int} {w : World} : (eqGuard op t y z (.int k p) (.int k' q)).run P w = .ok () w := by
  unfold eqGuard; split <;> rfl
theorem guard_bool {op : BinOp} {t : Nat} {y z : Operand} {p q : Bool} {w : World} : (eqGuard op t y z (.bool p) (.bool q)).run P w = .ok () w := by
  unfold eqGuard; split <;> rfl
theorem guard_str {op : BinOp} {t : Nat} {y z : Operand} {p q : ByteArray} {w : World} : (eqGuard op t y z (.string p) (.string q)).run P w = .ok () w := by
  unfold eqGuard; split <;> rfl
theorem guard_sl {op : BinOp} {t : Nat} {y z : Operand} {p q : Option Addr} {l m l' m' : Nat} {w : World} : (eqGuard op t y z (.slice p l m) (.slice q l' m')).run P w = .ok () w := by
  unfold eqGuard; split <;> rfl

theorem intOp_run {op : BinOp} {t : Nat} {k : IntKind} {p q : Int} {r : D} {w : World} (h : intOp op k p q = some r) :
    ∃ u, (binOp op t (.int k p) (.int k q)).run P w = .ok u w ∧ ∀ (w' : World) ok, DRel w' ok u r := by
  unfold intOp at h
  split at h <;> first | (cases h) | (simp at h)
  · exact ⟨_, by simp [binOp, Op.intArith], fun _ _ => .int _ _⟩
  · exact ⟨_, by simp [binOp, Op.intArith], fun _ _ => .int _ _⟩
  · exact ⟨_, by simp [binOp, Op.intArith], fun _ _ => .int _ _⟩
  · exact ⟨.bool (p == q), by simp [binOp, Op.intCmp], fun _ _ => by
      have : (p == q) = decide (p = q) := by by_cases h : p = q <;> simp [h]
      rw [this]; exact .bool _⟩
  · exact ⟨.bool (p != q), by simp [binOp, Op.intCmp], fun _ _ => by
      have : (p != q) = !decide (p = q) := by by_cases h : p = q <;> simp [h]
      rw [this]; exact .bool _⟩
  · exact ⟨.bool (decide (p < q)), by simp [binOp, Op.intCmp], fun _ _ => .bool _⟩
  · exact ⟨.bool (decide (p ≤ q)), by simp [binOp, Op.intCmp], fun _ _ => .bool _⟩
  · exact ⟨.bool (decide (q < p)), by simp [binOp, Op.intCmp], fun _ _ => .bool _⟩
  · exact ⟨.bool (decide (q ≤ p)), by simp [binOp, Op.intCmp], fun _ _ => .bool _⟩

theorem eqVals_of {w : World} {ok : Nat → Prop} : ∀ {cs ds : List C} {xs ys : List Value} {r : Bool}, eqCells cs ds = some r → xs.length = cs.length → ys.length = ds.length →
    (∀ j y, cs[j]? = some y → CRel x (xs.getD j undef) y) → (∀ j y, ds[j]? = some y → CRel x (ys.getD j undef) y) → eqVals xs ys = some r
  | [], [], xs, ys, r, h, h1, h2, _, _ => by
    have : xs = [] := List.eq_nil_of_length_eq_zero h1
    have : ys = [] := List.eq_nil_of_length_eq_zero h2
    subst_vars
    simpa [eqCells, eqVals] using h
  | c :: cs, [], xs, ys, r, h, _, _, _, _ => by
    cases c with
    | d e => cases e <;> simp [eqCells] at h
    | _ => simp [eqCells] at h
  | [], d :: ds, xs, ys, r, h, _, _, _, _ => by simp [eqCells] at h
  | c :: cs, d :: ds, xs, ys, r, h, h1, h2, h3, h4 => by
    obtain ⟨u, xs, rfl⟩ : ∃ u l, xs = u :: l := by
      cases xs with
      | nil => simp at h1
      | cons u l => exact ⟨u, l, rfl⟩
    obtain ⟨u', ys, rfl⟩ : ∃ u l, ys = u :: l := by
      cases ys with
      | nil => simp at h2
      | cons u l => exact ⟨u, l, rfl⟩
    have c1 := h3 0 c rfl
    have c2 := h4 0 d rfl
    simp at c1 c2
    have ih := fun r h => eqVals_of (w := w) (ok := ok) (cs := cs) (ds := ds) (xs := xs) (ys := ys) (r := r) h (by simpa using h1) (by simpa using h2)
      (fun j y hj => h3 (j + 1) y (by simpa using hj)) (fun j y hj => h4 (j + 1) y (by simpa using hj))
    unfold eqCells at h
    split at h
    · rename_i heq1 heq2; simp at heq1
    · rename_i k p cs' k' q ds' e1 e2
      simp only [List.cons.injEq] at e1 e2
      obtain ⟨rfl, rfl⟩ := e1
      obtain ⟨rfl, rfl⟩ := e2
      split at h
      · rename_i hk
        subst hk
        obtain ⟨r', hr', rfl⟩ := Option.map_eq_some_iff.1 h
        cases c1 with | d _ _ c1 => cases c1; cases c2 with | d _ _ c2 => cases c2
                                                                          simp [eqVals, ih r' hr']
      · simp at h
    · rename_i p cs' q ds' e1 e2
      simp only [List.cons.injEq] at e1 e2
      obtain ⟨rfl, rfl⟩ := e1
      obtain ⟨rfl, rfl⟩ := e2
      obtain ⟨r', hr', rfl⟩ := Option.map_eq_some_iff.1 h
      cases c1 with | d _ _ c1 => cases c1; cases c2 with | d _ _ c2 => cases c2
                                                                        simp [eqVals, ih r' hr']
    · simp at h

theorem kinds_of : ∀ {zs : List D} {cs : List C} {xs : List Value}, kindsB zs cs = true → xs.length = cs.length → (∀ j y, cs[j]? = some y → CRel x (xs.getD j undef) y) → kindsV zs xs = true
  | [], [], xs, _, h1, _ => by
    have : xs = [] := List.eq_nil_of_length_eq_zero h1
    subst this
    rfl
  | [], c :: cs, xs, h, _, _ => by simp [kindsB] at h
  | z :: zs, [], xs, h, _, _ => by cases z <;> simp [kindsB] at h
  | z :: zs, c :: cs, xs, h, h1, h2 => by
    obtain ⟨u, xs, rfl⟩ : ∃ u l, xs = u :: l := by
      cases xs with
      | nil => simp at h1
      | cons u l => exact ⟨u, l, rfl⟩
    have c1 := h2 0 c rfl
    simp at c1
    have ih := fun h => kinds_of (zs := zs) (cs := cs) (xs := xs) h (by simpa using h1) (fun j y hj => h2 (j + 1) y (by simpa using hj))
    unfold kindsB at h
    split at h
    · rename_i heq; simp at heq
    · rename_i k n zs' k' m cs' e1 e2
      simp only [List.cons.injEq] at e1 e2
      obtain ⟨rfl, rfl⟩ := e1
      obtain ⟨rfl, rfl⟩ := e2
      simp only [Bool.and_eq_true, decide_eq_true_eq] at h
      obtain ⟨rfl, h⟩ := h
      cases c1 with | d _ _ c1 => cases c1; simp [kindsV, ih h]
    · rename_i b zs' b' cs' e1 e2
      simp only [List.cons.injEq] at e1 e2
      obtain ⟨rfl, rfl⟩ := e1
      obtain ⟨rfl, rfl⟩ := e2
      cases c1 with | d _ _ c1 => cases c1; simp [kindsV, ih h]
    · simp at h

theorem guard_agg {op : BinOp} {t : Nat} {y z : Operand} {p q : Array Value} {w : World} (h : P.eqGuardType P.depth t = false) : (eqGuard op t y z (.agg p) (.agg q)).run P w = .ok () w := by
  cases op <;> simp [eqGuard, h]

theorem equal_boolIn {t : Nat} {p q : Bool} {w : World} (h : P.underlying t = some .bool) (d : Nat) : (Op.equalIn (d + 1) t (.bool p) (.bool q)).run P w = .ok (p == q) w := by
  simp [Op.equalIn, run_und h]

theorem equal_bool {t : Nat} {p q : Bool} {w : World} (h : P.underlying t = some .bool) : (Op.equal t (.bool p) (.bool q)).run P w = .ok (p == q) w := equal_boolIn h 9999

theorem equal_nil1In {t e l m : Nat} {ad : Addr} {w : World} (h : P.underlying t = some (.slice e)) (d : Nat) : (Op.equalIn (d + 1) t (.slice (some ad) l m) (.slice none 0 0)).run P w = .ok false w := by
  simp [Op.equalIn, run_und h]

theorem equal_nil1 {t e l m : Nat} {ad : Addr} {w : World} (h : P.underlying t = some (.slice e)) : (Op.equal t (.slice (some ad) l m) (.slice none 0 0)).run P w = .ok false w := equal_nil1In h 9999

theorem equal_nil0In {t e : Nat} {w : World} (h : P.underlying t = some (.slice e)) (d : Nat) : (Op.equalIn (d + 1) t (.slice none 0 0) (.slice none 0 0)).run P w = .ok true w := by
  simp [Op.equalIn, run_und h]

theorem equal_nil0 {t e : Nat} {w : World} (h : P.underlying t = some (.slice e)) : (Op.equal t (.slice none 0 0) (.slice none 0 0)).run P w = .ok true w := equal_nil0In h 9999

theorem bin_eql {t : Nat} {p q : Value} {r : Bool} {w : World} (hb : binOp .eql t p q = (do pure (.bool (← Op.equal t p q)))) (h : (Op.equal t p q).run P w = .ok r w) :
    (binOp .eql t p q).run P w = .ok (.bool r) w := by
  rw [hb]; simp [h]

theorem bin_neq {t : Nat} {p q : Value} {r : Bool} {w : World} (hb : binOp .neq t p q = (do pure (.bool (!(← Op.equal t p q))))) (h : (Op.equal t p q).run P w = .ok r w) :
    (binOp .neq t p q).run P w = .ok (.bool (!r)) w := by
  rw [hb]; simp [h]

theorem sim_bin {op : BinOp} {t yt : Nat} {y z : Operand} (htv : TvOk P tv) (ho : o.op = .binOp op t y z yt) (hs : SRel x tm a) (hd : ∀ d, o.dst = some d → d < a.tmps.size)
    (hx : (sem tv base (operV tm) o).exec P x.hp v hp' fp) : Sim P o a x tm base v hp' := by
  simp only [sem, semOp, ho] at hx
  obtain ⟨ev, hev, hc⟩ : ∃ ev, a.eval y = ev ∧ VRel x ev (operV tm y) := ⟨_, rfl, hs.oper y⟩
  obtain ⟨ew, hew, hc2⟩ : ∃ ev, a.eval z = ev ∧ VRel x ev (operV tm z) := ⟨_, rfl, hs.oper z⟩
  unfold binV at hx
  split at hx
  · rename_i k p k' q h1 h2
    rw [h1] at hc
    rw [h2] at hc2
    have e1 := hc.int_inv
    have e2 := hc2.int_inv
    subst e1
    subst e2
    split at hx
    · rename_i hk
      subst hk
      split at hx
      · obtain ⟨hq, hx⟩ := hx
        exact sim_ret (v' := .int k (k.wrap (p.tdiv q))) hs hd hx (run_bin ho (by rw [hev, hew]; exact guard_int) (by rw [hev, hew]; simp [binOp, Op.intDiv, hq])) (VRel.int_mk x _ _)
      · obtain ⟨hq, hx⟩ := hx
        exact sim_ret (v' := .int k (p.tmod q)) hs hd hx (run_bin ho (by rw [hev, hew]; exact guard_int) (by rw [hev, hew]; simp [binOp, Op.intDiv, hq])) (VRel.int_mk x _ _)
      · split at hx
        · rename_i r hr
          obtain ⟨u, hu, hd'⟩ := intOp_run (P := P) (t := t) (w := x.w) hr
          exact sim_ret hs hd hx (run_bin ho (by rw [hev, hew]; exact guard_int) (by rw [hev, hew]; exact hu)) (.c _ _ (.d _ _ (hd' _ _)))
        · exact hx.elim
    · exact hx.elim
  · rename_i p q h1 h2
    rw [h1] at hc
    rw [h2] at hc2
    have e1 := hc.bool_inv
    have e2 := hc2.bool_inv
    subst e1
    subst e2
    split at hx
    · rename_i hsh
      obtain ⟨d, hun, hdd⟩ := sh_of htv hsh (by simp)
      have hdd : d = .bool := hdd
      subst hdd
      exact sim_ret (v' := .bool (p == q)) hs hd hx (run_bin ho (by rw [hev, hew]; exact guard_bool) (by rw [hev, hew]; exact bin_eql rfl (equal_bool hun))) (VRel.bool_mk x _)
    · rename_i hsh
      obtain ⟨d, hun, hdd⟩ := sh_of htv hsh (by simp)
      have hdd : d = .bool := hdd
      subst hdd
      exact sim_ret (v' := .bool (!(p == q))) hs hd hx (run_bin ho (by rw [hev, hew]; exact guard_bool) (by rw [hev, hew]; exact bin_neq rfl (equal_bool hun))) (VRel.bool_mk x _)
    · exact hx.elim
  · rename_i p q h1 h2
    rw [h1] at hc
    rw [h2] at hc2
    have e1 := hc.str_inv
    have e2 := hc2.str_inv
    subst e1
    subst e2
    split at hx
    · obtain ⟨hq, hx⟩ := hx
      have hq' : ¬ ((p.size + q.size : Nat) : Int) > IntKind.i64.max := by omega
      exact sim_ret (v' := .string (p ++ q)) hs hd hx (run_bin ho (by rw [hev, hew]; exact guard_str) (by rw [hev, hew]; simp only [binOp, Op.stringOp, if_neg hq']; rfl)) (.c _ _ (.d _ _ (.str _)))
    · exact sim_ret (v' := .bool (p.toList == q.toList)) hs hd hx (run_bin ho (by rw [hev, hew]; exact guard_str) (by rw [hev, hew]; simp [binOp, Op.stringOp])) (VRel.bool_mk x _)
    · exact sim_ret (v' := .bool (!(p.toList == q.toList))) hs hd hx (run_bin ho (by rw [hev, hew]; exact guard_str) (by rw [hev, hew]; simp [binOp, Op.stringOp])) (VRel.bool_mk x _)
    · exact hx.elim
  · rename_i esz e0 es h1 h2
    rw [h1] at hc
    rw [h2] at hc2
    have e2 := hc2.nilSl_inv
    subst e2
    obtain ⟨ad, l, m, hev2⟩ : ∃ ad l m, ev = .slice (some ad) l m := by
      cases hc with | c _ _ hc => cases hc with | d _ _ hc => cases hc with
        | sl c off cap => exact ⟨_, _, _, rfl⟩
    subst hev2
    split at hx
    · rename_i e1 e2 e3 hsh
      obtain ⟨d, hun, e, ti, zz, hdd, _⟩ := sh_of htv hsh (by simp)
      subst hdd
      exact sim_ret (v' := .bool false) hs hd hx (run_bin ho (by rw [hev, hew]; exact guard_sl) (by rw [hev, hew]; exact bin_eql rfl (equal_nil1 hun))) (VRel.bool_mk x _)
    · rename_i e1 e2 e3 hsh
      obtain ⟨d, hun, e, ti, zz, hdd, _⟩ := sh_of htv hsh (by simp)
      subst hdd
      exact sim_ret (v' := .bool true) hs hd hx (run_bin ho (by rw [hev, hew]; exact guard_sl) (by rw [hev, hew]; exact bin_neq rfl (equal_nil1 hun))) (VRel.bool_mk x _)
    · exact hx.elim
  · rename_i esz h1 h2
    rw [h1] at hc
    rw [h2] at hc2
    have e2 := hc2.nilSl_inv
    subst e2
    obtain ⟨ad, l, m, hev2⟩ : ∃ ad l m, ev = .slice (some ad) l m := by
      cases hc with | c _ _ hc => cases hc with | d _ _ hc => cases hc with
        | slE => exact ⟨_, _, _, rfl⟩
    subst hev2
    split at hx
    · rename_i e1 e2 e3 hsh
      obtain ⟨d, hun, e, ti, zz, hdd, _⟩ := sh_of htv hsh (by simp)
      subst hdd
      exact sim_ret (v' := .bool false) hs hd hx (run_bin ho (by rw [hev, hew]; exact guard_sl) (by rw [hev, hew]; exact bin_eql rfl (equal_nil1 hun))) (VRel.bool_mk x _)
    · rename_i e1 e2 e3 hsh
      obtain ⟨d, hun, e, ti, zz, hdd, _⟩ := sh_of htv hsh (by simp)
      subst hdd
      exact sim_ret (v' := .bool true) hs hd hx (run_bin ho (by rw [hev, hew]; exact guard_sl) (by rw [hev, hew]; exact bin_neq rfl (equal_nil1 hun))) (VRel.bool_mk x _)
    · exact hx.elim
  · rename_i h1 h2
    rw [h1] at hc
    rw [h2] at hc2
    have e1 := hc.nilSl_inv
    have e2 := hc2.nilSl_inv
    subst e1
    subst e2
    split at hx
    · rename_i e1 e2 e3 hsh
      obtain ⟨d, hun, e, ti, zz, hdd, _⟩ := sh_of htv hsh (by simp)
      subst hdd
      exact sim_ret (v' := .bool true) hs hd hx (run_bin ho (by rw [hev, hew]; exact guard_sl) (by rw [hev, hew]; exact bin_eql rfl (equal_nil0 hun))) (VRel.bool_mk x _)
    · rename_i e1 e2 e3 hsh
      obtain ⟨d, hun, e, ti, zz, hdd, _⟩ := sh_of htv hsh (by simp)
      subst hdd
      exact sim_ret (v' := .bool false) hs hd hx (run_bin ho (by rw [hev, hew]; exact guard_sl) (by rw [hev, hew]; exact bin_neq rfl (equal_nil0 hun))) (VRel.bool_mk x _)
    · exact hx.elim
  · rename_i cs ds h1 h2
    rw [h1] at hc
    rw [h2] at hc2
    split at hx
    · rename_i hlen
      have key : ∀ r, (tyOf tv t).eqf = true → eqCells cs ds = some r → EqOk P t (tyOf tv t).zero := by
        intro r hq _
        have : ∃ ty, look tv t = some ty := by
          cases hl : look tv t with
          | none => unfold tyOf at hq; rw [hl] at hq; simp at hq
          | some ty => exact ⟨ty, rfl⟩
        obtain ⟨ty, hty⟩ := this
        have e : tyOf tv t = ty := by unfold tyOf; rw [hty]; rfl
        rw [e] at hq ⊢
        exact (htv t ty hty).eqf hq
      have run : ∀ r, EqOk P t (tyOf tv t).zero → eqCells cs ds = some r → ∃ p q, ev = .agg p ∧ ew = .agg q ∧ (Op.equal t (.agg p) (.agg q)).run P x.w = .ok r x.w ∧ P.eqGuardType P.depth t = false := by
        intro r hk hr
        cases hc with
        | agg p _ hp1 hp2 => cases hc2 with
          | agg q _ hq1 hq2 =>
            refine ⟨p, q, rfl, rfl, ?_, hk.1⟩
            have := hk.2 x.w p.toList q.toList r (kinds_of (x := x) hlen.2 (by simpa using hp1) fun j y hj => by simpa [List.getD_eq_getElem?_getD, Array.getD_eq_getD_getElem?] using hp2 j y hj) (eqVals_of (x := x) (w := x.w) (ok := x.ok) hr (by simpa using hp1) (by simpa using hq1)
              (fun j y hj => by simpa [List.getD_eq_getElem?_getD, Array.getD_eq_getD_getElem?] using hp2 j y hj)
              (fun j y hj => by simpa [List.getD_eq_getElem?_getD, Array.getD_eq_getD_getElem?] using hq2 j y hj))
            simpa using this
      split at hx
      · rename_i r hq hr
        obtain ⟨p, q, rfl, rfl, hrun, hg⟩ := run r (key r hq hr) hr
        exact sim_ret (v' := .bool r) hs hd hx (run_bin ho (by rw [hev, hew]; exact guard_agg hg) (by rw [hev, hew]; exact bin_eql rfl hrun)) (VRel.bool_mk x _)
      · rename_i r hq hr
        obtain ⟨p, q, rfl, rfl, hrun, hg⟩ := run r (key r hq hr) hr
        exact sim_ret (v' := .bool (!r)) hs hd hx (run_bin ho (by rw [hev, hew]; exact guard_agg hg) (by rw [hev, hew]; exact bin_neq rfl hrun)) (VRel.bool_mk x _)
      · exact hx.elim
    · exact hx.elim
  · exact hx.elim

end
end Go.Vs

/- Operations that make blocks, or write them. -/
namespace Go.Vs

/-- An array of values reads as these cells. -/
structure Arr (x : Cx) (arr : Array Value) (cs : List C) : Prop where
  len : arr.size = cs.length
  rel : ∀ (j : Nat) (y : C), cs[j]? = some y → CRel x (arr.getD j undef) y

theorem splice_length {α : Type} (cs : List α) (off : Nat) (xs : List α) (h : off + xs.length ≤ cs.length) : (splice cs off xs).length = cs.length := by
  simp [splice]; omega

theorem splice_get {α : Type} (cs : List α) (off : Nat) (xs : List α) (h : off + xs.length ≤ cs.length) (k : Nat) :
    (splice cs off xs)[k]? = if k < off then cs[k]? else if k < off + xs.length then xs[k - off]? else cs[k]? := by
  unfold splice
  by_cases h1 : k < off
  · rw [if_pos h1, List.append_assoc, List.getElem?_append_left (by simp; omega), List.getElem?_take, if_pos h1]
  · rw [if_neg h1]
    by_cases h2 : k < off + xs.length
    · rw [if_pos h2, List.append_assoc, List.getElem?_append_right (by simp; omega), List.getElem?_append_left (by simp; omega)]
      congr 1
      simp
      omega
    · rw [if_neg h2, List.getElem?_append_right (by simp; omega), List.getElem?_drop]
      congr 1
      simp
      omega

theorem Arr.splice {x : Cx} {arr : Array Value} {cs : List C} (h : Arr x arr cs) {off : Nat} {vals : List Value} {xs : List C} (hl : vals.length = xs.length)
    (hle : off + xs.length ≤ cs.length) (hr : ∀ (j : Nat) (y : C), xs[j]? = some y → CRel x (vals.getD j undef) y) : Arr x (Vs.splice arr.toList off vals).toArray (Vs.splice cs off xs) where
  len := by
    have h1 := h.len
    rw [splice_length cs off xs hle]
    simp [splice_length arr.toList off vals (by simp; omega), h1]
  rel := fun j y hj => by
    have h1 := h.len
    rw [splice_get cs off xs hle] at hj
    have e : (Vs.splice arr.toList off vals).toArray.getD j undef = ((Vs.splice arr.toList off vals)[j]?).getD undef := by simp [Array.getD_eq_getD_getElem?]
    rw [e, splice_get _ _ _ (by simp; omega), hl]
    split
    · rename_i hk
      rw [if_pos hk] at hj
      simpa [Array.getD_eq_getD_getElem?] using h.rel j y hj
    · rename_i hk
      rw [if_neg hk] at hj
      split
      · rename_i hk2
        rw [if_pos hk2] at hj
        simpa [List.getD_eq_getElem?_getD] using hr _ y hj
      · rename_i hk2
        rw [if_neg hk2] at hj
        simpa [Array.getD_eq_getD_getElem?] using h.rel j y hj

/-- The model's fold over a part's cells is a splice. -/
theorem fold_splice : ∀ (vs : List Value) (n off : Nat) (arr : Array Value), off + n + vs.length ≤ arr.size →
    ((vs.zipIdx n).foldl (fun cs p => cs.setIfInBounds (off + p.2) p.1) arr).toList = splice arr.toList (off + n) vs
  | [], n, off, arr, h => by simp [splice]
  | v :: vs, n, off, arr, h => by
    simp only [List.length_cons] at h
    rw [List.zipIdx_cons, List.foldl_cons, fold_splice vs (n + 1) off (arr.setIfInBounds (off + n) v) (by simp; omega)]
    apply List.ext_getElem?
    intro k
    rw [splice_get _ _ _ (by simp; omega), splice_get _ _ _ (by simp; omega)]
    simp only [Array.toList_setIfInBounds, List.getElem?_set, List.length_cons, Array.length_toList]
    by_cases h1 : k < off + n
    · have e1 : ¬ off + n = k := by omega
      simp [h1, show k < off + (n + 1) by omega, e1]
    · by_cases h2 : k = off + n
      · subst h2
        simp [show off + n < off + (n + 1) by omega, show off + n < arr.size by omega]
      · have e1 : ¬ off + n = k := by omega
        rw [if_neg (show ¬ k < off + (n + 1) by omega), if_neg h1, if_neg e1]
        by_cases h3 : k < off + n + (vs.length + 1)
        · rw [if_pos (by omega), if_pos h3]
          rw [show k - (off + n) = (k - (off + (n + 1))) + 1 by omega]
          simp
        · rw [if_neg (by omega), if_neg h3]

theorem fill_sim {x : Cx} {place : Nat → Option (Nat × Nat)} : ∀ {parts : List (Nat × V)} {vals : List (Nat × Value)} {arr : Array Value} {cs r : List C}, Arr x arr cs →
    vals.length = parts.length → (∀ (j : Nat) (p : Nat × V), parts[j]? = some p → ∃ u, vals[j]? = some (p.1, u) ∧ VRel x u p.2) → fillC place cs parts = some r →
    ∃ arr', Instr.fill place arr vals = some arr' ∧ Arr x arr' r
  | [], vals, arr, cs, r, ha, hl, _, h => by
    have : vals = [] := List.eq_nil_of_length_eq_zero hl
    subst this
    simp [fillC] at h
    subst h
    exact ⟨arr, rfl, ha⟩
  | (i, y) :: parts, vals, arr, cs, r, ha, hl, hv, h => by
    obtain ⟨u, hu, hc⟩ := hv 0 (i, y) rfl
    obtain ⟨p, vals, rfl⟩ : ∃ p l, vals = p :: l := by
      cases vals with
      | nil => simp at hl
      | cons p l => exact ⟨p, l, rfl⟩
    simp at hu
    subst hu
    unfold fillC at h
    split at h
    · rename_i off size xs hp hxs
      split at h
      · rename_i hcond
        obtain ⟨h1, h2⟩ := hc.cells hxs
        have hsz := ha.len
        have hfold : (u.cells.zipIdx.foldl (fun cs p => cs.setIfInBounds (off + p.2) p.1) arr).toList = splice arr.toList off u.cells.toList := by
          have := fold_splice u.cells.toList 0 off arr (by simp; omega)
          rw [← Array.foldl_toList]
          simpa [Array.toList_zipIdx] using this
        have harr : Arr x (u.cells.zipIdx.foldl (fun cs p => cs.setIfInBounds (off + p.2) p.1) arr) (splice cs off xs) := by
          have := ha.splice (off := off) (vals := u.cells.toList) (xs := xs) (by simpa using h1) hcond.2
            (fun j y hj => by simpa [List.getD_eq_getElem?_getD, Array.getD_eq_getD_getElem?] using h2 j y hj)
          have e : (u.cells.zipIdx.foldl (fun cs p => cs.setIfInBounds (off + p.2) p.1) arr) = (splice arr.toList off u.cells.toList).toArray := by
            apply Array.ext'; simpa using hfold
          rw [e]
          exact this
        obtain ⟨arr', g1, g2⟩ := fill_sim (parts := parts) (vals := vals) harr (by simpa using hl) (fun j p hj => by simpa using hv (j + 1) p (by simpa using hj)) h
        refine ⟨arr', ?_, g2⟩
        have hcc : ¬ (u.cells.size ≠ size ∨ off + u.cells.size > arr.size) := by
          rw [h1, hsz]
          omega
        simp only [Instr.fill, hp]
        rw [if_neg (by simpa using hcc)]
        exact g1
      · simp at h
    · simp at h

section
variable {P : Program} {tv : Tv} {o : Oper} {a : Act} {x : Cx} {tm : Nat → V} {base : Nat} {v : V} {hp' : HpF} {fp : Fp}

theorem toVal_one {e : D} (h : e.flat = true) : One e.toVal := by
  cases e <;> first | (simp [D.flat] at h; done) | exact ⟨fun _ => by simp [D.toVal], fun _ => by simp [D.toVal]⟩

theorem zero_cells {t : Nat} {ty : Ty} (h : TyOk P t ty) : (zeroVal ty).cells = (ty.zero.map D.toVal).toArray := by
  unfold zeroVal
  split
  · rfl
  · rename_i hag
    obtain ⟨hl, _⟩ := h.one (by simpa using hag)
    match hz : ty.zero, hl with
    | [e], _ =>
      have hf := h.flat
      rw [hz] at hf
      simp at hf
      simp [(toVal_one hf).cells]

theorem zero_arr {x : Cx} {zs : List D} (h : zs.all D.flat = true) : Arr x (zs.map D.toVal).toArray (zs.map C.d) where
  len := by simp
  rel := fun j y hj => by
    obtain ⟨e, he, rfl⟩ := getD_map_d zs j y hj
    have : e.flat = true := List.all_eq_true.1 h e (List.mem_of_getElem? he)
    have e2 : (zs.map D.toVal).toArray.getD j undef = e.toVal := by simp [Array.getD_eq_getD_getElem?, he]
    rw [e2]
    exact .d _ _ (D.toVal_rel this)

theorem more_U (x : Cx) (base : Nat) : ∀ j, x.U j → (x.more base).U j := fun _ h => .inl h
theorem more_base (x : Cx) (base : Nat) : (x.more base).U base := .inr ⟨Nat.le_refl _, by omega⟩

/-- A new variable. -/
theorem sim_newBox {arr : Array Value} {cs : List C} {t : Nat} (hs : SRel x tm a) (hd : ∀ d, o.dst = some d → d < a.tmps.size) (hfr : ¬ x.U base)
    (hr : (execOp a.eval o).run P x.w = .ok (.value (.pointer (some ⟨x.w.heap.size, 0, none⟩))) (x.w.alloc (.cells arr t))) (ha : Arr x arr cs)
    (hx : (Prog.put base (.box cs) (.ret (.c (.ptr base 0)))).exec P x.hp v hp' fp) : Sim P o a x tm base v hp' := by
  obtain ⟨fp', ⟨rfl, rfl, _⟩, rfl⟩ := hx
  have hfre : Fr x ⟨x.w.alloc (.cells arr t), upd x.γ base x.w.heap.size, upd x.hp base (.box cs), x.CM, (x.more base).U⟩ := new_fr ⟨rfl, rfl, rfl⟩ rfl
  have hev : Ev x.U x ⟨x.w.alloc (.cells arr t), upd x.γ base x.w.heap.size, upd x.hp base (.box cs), x.CM, (x.more base).U⟩ :=
    new_ev (more_U x base) fun h => absurd h hfr
  refine Sim.of_value hs hd hr (new_h hs.toHRel ⟨rfl, rfl, rfl⟩ rfl (more_U x base) (more_base x base) (fun h => absurd h hfr) ?_) ?_ hfre hev
  · refine ⟨x.w.heap.size, arr, t, upd_same _ _ _, ?_, ha.len, fun j y hj => (ha.rel j y hj).on hfre hev⟩
    show (x.w.heap.push _)[_]? = _
    simp
  · exact .c _ _ (.ptr base x.w.heap.size 0 cs (upd_same _ _ _) (upd_same _ _ _) (more_base x base))

theorem sim_alloc {t : Nat} (htv : TvOk P tv) (ho : o.op = .alloc t) (hs : SRel x tm a) (hd : ∀ d, o.dst = some d → d < a.tmps.size) (hfr : ¬ x.U base)
    (hx : (sem tv base (operV tm) o).exec P x.hp v hp' fp) : Sim P o a x tm base v hp' := by
  simp only [sem, semOp, ho, withTy] at hx
  split at hx
  · rename_i ty hty
    have ok := htv t ty hty
    obtain ⟨i, hi, hisz, hz⟩ := ok.info
    refine sim_newBox (arr := (zeroVal ty).cells) (t := t) hs hd hfr ?_ ?_ hx
    · simp [execOp, ho, Instr.alloc, run_zero hi hz, newVar, newRow]
    · rw [zero_cells ok]
      exact zero_arr ok.flat
  · exact hx.elim

theorem sim_box {t : Nat} {y : Operand} (ho : o.op = .box t y) (hs : SRel x tm a) (hd : ∀ d, o.dst = some d → d < a.tmps.size) (hfr : ¬ x.U base)
    (hx : (sem tv base (operV tm) o).exec P x.hp v hp' fp) : Sim P o a x tm base v hp' := by
  simp only [sem, semOp, ho] at hx
  split at hx
  · rename_i cs hcs
    obtain ⟨h1, h2⟩ := (hs.oper y).cells hcs
    refine sim_newBox (arr := (a.eval y).cells) (t := t) hs hd hfr ?_ ⟨h1, h2⟩ hx
    simp [execOp, ho, Instr.box, newVar, newRow]
  · exact hx.elim

/-! ### Composites -/

theorem parts_rel {parts : Array (Nat × Operand)} (hs : SRel x tm a) :
    ((parts.map fun (i, q) => (i, a.eval q)).toList).length = (parts.toList.map fun p => (p.1, operV tm p.2)).length ∧
    ∀ (j : Nat) (p : Nat × V), (parts.toList.map fun p => (p.1, operV tm p.2))[j]? = some p → ∃ u, ((parts.map fun (i, q) => (i, a.eval q)).toList)[j]? = some (p.1, u) ∧ VRel x u p.2 := by
  refine ⟨by simp, fun j p hj => ?_⟩
  rw [List.getElem?_map] at hj
  cases hq : parts.toList[j]? with
  | none => rw [hq] at hj; simp at hj
  | some q =>
    rw [hq] at hj
    simp at hj
    subst hj
    refine ⟨a.eval q.2, ?_, hs.oper q.2⟩
    rw [Array.toList_map, List.getElem?_map, hq]
    rfl

theorem run_places {fields : Array Field} {fs : List (Nat × Nat × Bool)} {w : World}
    (h : fields.toList.map (fun f => (f.offset, (P.info? f.type).map (·.size), (P.underlying f.type).map isAggD)) = fs.map (fun p => (p.1, some p.2.1, some p.2.2))) :
    (fields.mapM (m := Sem) fun f => do pure (f.offset, ← sizeOf f.type)).run P w = .ok (fs.map fun p => (p.1, p.2.1)).toArray w := by
  have key : ∀ (g : Field → Sem (Nat × Nat)), (∀ f i, P.info? f.type = some i → (g f).run P w = .ok (f.offset, i.size) w) → ∀ (l : List Field) (gs : List (Nat × Nat × Bool)),
      l.map (fun f => (f.offset, (P.info? f.type).map (·.size), (P.underlying f.type).map isAggD)) = gs.map (fun p => (p.1, some p.2.1, some p.2.2)) →
      (l.mapM g).run P w = .ok (gs.map fun p => (p.1, p.2.1)) w := by
    intro g hg l
    induction l with
    | nil =>
      intro gs h
      cases gs with
      | nil => rfl
      | cons g gs => simp at h
    | cons f l ih =>
      intro gs h
      cases gs with
      | nil => simp at h
      | cons g gs =>
        simp only [List.map_cons, List.cons.injEq, Prod.mk.injEq, Option.map_eq_some_iff] at h
        obtain ⟨⟨h1, ⟨i, hi, hs⟩, _⟩, h2⟩ := h
        simp [List.mapM_cons, hg f i hi, ih gs h2, h1, hs]
  rw [Array.mapM_eq_mapM_toList, Sem.run_map, key _ (fun f i hi => by simp [run_size hi]) _ _ h]
  rfl

theorem sim_build {t : Nat} {parts : Array (Nat × Operand)} (htv : TvOk P tv) (ho : o.op = .build t parts) (hs : SRel x tm a) (hd : ∀ d, o.dst = some d → d < a.tmps.size)
    (hx : (sem tv base (operV tm) o).exec P x.hp v hp' fp) : Sim P o a x tm base v hp' := by
  simp only [sem, semOp, ho] at hx
  obtain ⟨p1, p2⟩ := parts_rel (parts := parts) hs
  have fin : ∀ (place : Nat → Option (Nat × Nat)) (d : TypeDesc) (i : TypeInfo), P.underlying t = some d → P.info? t = some i → i.zero = some (zeroVal (tyOf tv t)) → TyOk P t (tyOf tv t) →
      (∀ arr', Instr.fill place (zeroVal (tyOf tv t)).cells ((parts.map fun (i, q) => (i, a.eval q)).toList) = some arr' → (execOp a.eval o).run P x.w = .ok (.value (.agg arr')) x.w) →
      (retO ((fillC place ((tyOf tv t).zero.map .d) (parts.toList.map fun p => (p.1, operV tm p.2))).map .agg)).exec P x.hp v hp' fp → Sim P o a x tm base v hp' := by
    intro place d i hu hi hz ok hrun hx
    obtain ⟨hx2, hhp⟩ := retO_exec hx
    subst hhp
    obtain ⟨r, hr, rfl⟩ := Option.map_eq_some_iff.1 hx2
    have hza : Arr x (zeroVal (tyOf tv t)).cells ((tyOf tv t).zero.map C.d) := by rw [zero_cells ok]; exact zero_arr ok.flat
    obtain ⟨arr', g1, g2⟩ := fill_sim hza p1 p2 hr
    exact .of_read hs hd (hrun arr' g1) (.agg _ _ g2.len g2.rel)
  split at hx
  · rename_i fs hsh
    have ok := tyOf_sh htv hsh (by simp)
    obtain ⟨i, hi, hisz, hz⟩ := ok.info
    obtain ⟨d, hu, _, hdd⟩ := ok.und
    rw [hsh] at hdd
    obtain ⟨fields, rfl, hm⟩ := hdd
    refine fin (strctPlace fs) _ i hu hi hz ok (fun arr' h => ?_) hx
    have hpl : (fun j => (fs.map fun p => (p.1, p.2.1)).toArray[j]?) = strctPlace fs := by
      funext j
      simp [strctPlace]
    simp only [execOp, ho, Instr.build, Sem.run_bind, run_zero hi hz, Result.andThen_ok, run_und hu, run_places hm, hpl, h, Sem.run_pure]
  · rename_i n esz eagg hsh
    have ok := tyOf_sh htv hsh (by simp)
    obtain ⟨i, hi, hisz, hz⟩ := ok.info
    obtain ⟨d, hu, _, hdd⟩ := ok.und
    rw [hsh] at hdd
    obtain ⟨e, ti, rfl, hti, hsz, _⟩ := hdd
    refine fin (fun i => some (i * esz, esz)) _ i hu hi hz ok (fun arr' h => ?_) hx
    simp only [execOp, ho, Instr.build, Sem.run_bind, run_zero hi hz, Result.andThen_ok, run_und hu, run_size hti, hsz, h, Sem.run_pure]
  · exact hx.elim

end
end Go.Vs

/- Stores; new slices and maps; entries of maps. -/
namespace Go.Vs

section
variable {P : Program} {tv : Tv} {o : Oper} {a : Act} {x : Cx} {tm : Nat → V} {base : Nat} {v : V} {hp' : HpF} {fp : Fp}

theorem wrote_setRow {w : World} {c : Nat} {arr arr' : Array Value} {e : TypeId} {fr : Nat × Nat} (hw : w.heap[c]? = some (.cells arr e fr)) :
    Wrote w (w.setRow c arr') c (.cells arr' e fr) :=
  { os := rfl, tape := rfl, output := rfl, size := by simp, here := setRow_heap w c arr arr' e fr hw, other := fun d hd => setRow_other w c d arr' hd }

theorem run_storeVar {t : Nat} {ty : Ty} {w : World} (ok : TyOk P t ty) {c off : Nat} {arr : Array Value} {e : TypeId} {u : Value} (hw : w.heap[c]? = some (.cells arr e (0, 0)))
    (hsz : u.cells.size = ty.size) (hle : off + u.cells.size ≤ arr.size) (h1 : ∀ z ∈ u.cells.toList, One z) :
    (storeVar t ⟨c, off, none⟩ u).run P w = .ok () (w.setRow c (splice arr.toList off u.cells.toList).toArray) := by
  obtain ⟨i, hi, hisz, hz⟩ := ok.info
  have := run_storeCells_at P c off e u.cells.toList 0 arr w hw (by simpa using hle) fun z hz => Value.oneCell'_of (h1 z hz)
  have this : (storeCells ⟨c, off, none⟩ u.cells.toList).run P w = .ok () (w.setRow c (splice arr.toList off u.cells.toList).toArray) := by
    simpa [splice] using this
  simp [storeVar, run_size hi, hisz, hsz, this]

theorem one_of_rel {x : Cx} {u : Value} {cs : List C} (hl : u.cells.size = cs.length) (hr : ∀ j z, cs[j]? = some z → CRel x (u.cells.getD j undef) z) : ∀ z ∈ u.cells.toList, One z := by
  intro z hz
  obtain ⟨j, hj⟩ := List.getElem?_of_mem hz
  have hlt : j < cs.length := by
    have := (List.getElem?_eq_some_iff.1 hj).1
    simp at this
    omega
  have := (hr j cs[j] (by simp [hlt])).one
  have e : u.cells.getD j undef = z := by
    have hj' : u.cells[j]? = some z := by simpa using hj
    simp [Array.getD_eq_getD_getElem?, hj']
  rwa [e] at this

theorem sim_store {t : Nat} {y z : Operand} (htv : TvOk P tv) (ho : o.op = .store t y z) (hs : SRel x tm a) (hd : ∀ d, o.dst = some d → d < a.tmps.size)
    (hx : (sem tv base (operV tm) o).exec P x.hp v hp' fp) : Sim P o a x tm base v hp' := by
  simp only [sem, semOp, ho, withTy] at hx
  split at hx
  · rename_i ty hty
    have ok := htv t ty hty
    split at hx
    · rename_i xs hxs
      obtain ⟨hsz, hx⟩ := hx
      obtain ⟨hl, hr⟩ := (hs.oper z).cells hxs
      have hone := one_of_rel hl hr
      obtain ⟨ev, hev, hc⟩ : ∃ ev, a.eval y = ev ∧ VRel x ev (operV tm y) := ⟨_, rfl, hs.oper y⟩
      have hrun : ∀ c off (arr : Array Value) e, ev = .pointer (some ⟨c, off, none⟩) → x.w.heap[c]? = some (.cells arr e (0, 0)) → off + xs.length ≤ arr.size →
          (execOp a.eval o).run P x.w = .ok .skip (x.w.setRow c (splice arr.toList off (a.eval z).cells.toList).toArray) := by
        intro c off arr e he hw hle
        have := run_storeVar (P := P) ok (off := off) (u := a.eval z) hw (by rw [hl, hsz]) (by rw [hl]; exact hle) hone
        simp [execOp, ho, hev, he, Instr.storeAt, Instr.sureAddr, this]
      unfold wr at hx
      split at hx
      · rename_i b off hv
        rw [hv] at hc
        obtain ⟨blk, fp', hb, hx, rfl⟩ := hx
        dsimp only at hx
        split at hx
        · rename_i cs
          obtain ⟨hle, fp2, ⟨rfl, rfl, _⟩, rfl⟩ := hx
          cases hc with | c _ _ hc => cases hc with
            | ptrOld _ _ _ _ _ h => rw [hb] at h; simp at h
            | ptr _ c _ cs' hb' hg hu =>
              obtain ⟨c', arr, e, hg', hw, hasz, har⟩ := (hs.hp b _ hb).2
              rw [hg] at hg'
              cases hg'
              have hwr := wrote_setRow (arr' := (splice arr.toList off (a.eval z).cells.toList).toArray) hw
              have hz : ∀ arr0 e0 fr0, x.w.heap[c]? = some (.cells arr0 e0 fr0) → ∃ arr', Obj.cells (splice arr.toList off (a.eval z).cells.toList).toArray e (0, 0) = .cells arr' e0 fr0 ∧ arr'.size = arr0.size := by
                intro arr0 e0 fr0 h0
                rw [hw] at h0
                cases h0
                exact ⟨_, rfl, by simp [splice_length arr.toList off (a.eval z).cells.toList (by simp; omega)]⟩
              have hevb : EvB x ⟨x.w.setRow c (splice arr.toList off (a.eval z).cells.toList).toArray, x.γ, upd x.hp b (.box (splice cs off xs)), x.CM, (x.more base).U⟩ b := by
                unfold EvB
                rw [hb]
                exact .inr ⟨_, upd_same _ _ _, splice_length cs off xs hle, rfl⟩
              have hfr := set_fr (U' := (x.more base).U) (blk' := .box (splice cs off xs)) hwr hb rfl hg hz
              have hevo := set_ev (more_U x base) hevb
              refine Sim.of_skip hs hd (hrun c off arr e rfl hw (by omega)) (set_h hs.toHRel hwr hb rfl hg hz (more_U x base) hevb ?_) hfr hevo
              have ha : Arr ⟨x.w.setRow c (splice arr.toList off (a.eval z).cells.toList).toArray, x.γ, upd x.hp b (.box (splice cs off xs)), x.CM, (x.more base).U⟩
                  (splice arr.toList off (a.eval z).cells.toList).toArray (splice cs off xs) :=
                Arr.splice ⟨hasz, fun j y hj => (har j y hj).on hfr hevo⟩ (by simpa using hl) hle
                  fun j y hj => by
                    have := (hr j y hj).on hfr hevo
                    simpa [List.getD_eq_getElem?_getD, Array.getD_eq_getD_getElem?] using this
              exact ⟨c, _, e, hg, hwr.here, ha.len, ha.rel⟩
        · exact hx.elim
      · rename_i b g i off hv
        rw [hv] at hc
        obtain ⟨ds, hp1, fp1, hx, hh1, hf1, he1, hdl, hds⟩ := settle_sim (P := P) xs (vals := (a.eval z).cells.toList) hs.toHRel (by simpa using hl)
          (fun j y hj => by simpa [List.getD_eq_getElem?_getD, Array.getD_eq_getD_getElem?] using hr j y hj) hx
        obtain ⟨blk, fp', hb, hx, rfl⟩ := hx
        dsimp only at hx
        split at hx
        · rename_i esz es
          obtain ⟨hlen, hx⟩ := hx
          split at hx
          · rename_i cs hcs
            obtain ⟨hle, fp2, ⟨rfl, rfl, _⟩, rfl⟩ := hx
            have hc := hc.on hf1 he1
            cases hc with | c _ _ hc => cases hc with
              | eptrOld _ _ _ _ _ _ _ h =>
                rcases h with h | ⟨_, _, _, h, hl2⟩
                · rw [show ({ x with hp := hp1 } : Cx).hp b = hp1 b from rfl, hb] at h; simp at h
                · rw [show ({ x with hp := hp1 } : Cx).hp b = hp1 b from rfl, hb] at h; cases h; omega
              | eptr _ c _ _ esz' es' fz' hb' hg hi hu =>
                have hb1 : ({ x with hp := hp1 } : Cx).hp b = some (.sl esz es false) := hb
                rw [hb1] at hb'
                cases hb'
                obtain ⟨hll, h0 | ⟨c', arr, e, hg', hw, hasz, har⟩⟩ := (hh1.hp b _ hb1).2
                · rw [hg] at h0; simp at h0
                rw [hg] at hg'
                cases hg'
                have hcl := hll cs (List.mem_of_getElem? hcs)
                have hilt : i < es.length := hi
                have hbnd : i * esz + esz ≤ arr.size := Nat.le_trans (by rw [← Nat.succ_mul]; exact Nat.mul_le_mul_right _ hilt) hasz
                have hple : i * esz + off + xs.length ≤ arr.size := by omega
                have hwr := wrote_setRow (arr' := (splice arr.toList (i * esz + off) (a.eval z).cells.toList).toArray) hw
                have hz : ∀ arr0 e0 fr0, ({ x with hp := hp1 } : Cx).w.heap[c]? = some (.cells arr0 e0 fr0) → ∃ arr', Obj.cells (splice arr.toList (i * esz + off) (a.eval z).cells.toList).toArray e (0, 0) = .cells arr' e0 fr0 ∧ arr'.size = arr0.size := by
                  intro arr0 e0 fr0 h0
                  rw [hw] at h0
                  cases h0
                  exact ⟨_, rfl, by simp [splice_length arr.toList (i * esz + off) (a.eval z).cells.toList (by simp; omega)]⟩
                have hevb : EvB { x with hp := hp1 } ⟨x.w.setRow c (splice arr.toList (i * esz + off) (a.eval z).cells.toList).toArray, x.γ, upd hp1 b (.sl esz (es.set i (splice cs off ds)) false), x.CM, (x.more base).U⟩ b := by
                  unfold EvB
                  rw [hb1]
                  exact .inr ⟨_, _, upd_same _ _ _, .inl ⟨by simp, rfl⟩⟩
                have hfr := set_fr (x := { x with hp := hp1 }) (U' := (x.more base).U) (blk' := .sl esz (es.set i (splice cs off ds)) false) hwr hb1 rfl hg hz
                have hevo := set_ev (x := { x with hp := hp1 }) (more_U x base) hevb
                refine Sim.of_skip hs hd (hrun c (i * esz + off) arr e rfl hw hple) (set_h hh1 hwr hb1 rfl hg hz (more_U x base) hevb ?_) (hf1.trans hfr) (he1.trans hevo)
                have hdl' : ds.length = xs.length := hdl
                refine ⟨fun cs' hcs' => ?_, .inr ⟨c, _, e, hg, hwr.here, ?_, fun i' cs' j y hi' hj => ?_⟩⟩
                · rcases List.mem_or_eq_of_mem_set hcs' with h | h
                  · exact hll cs' h
                  · rw [h, splice_length cs off ds (by omega), hcl]
                · simp [splice_length arr.toList (i * esz + off) (a.eval z).cells.toList (by simp; omega)]
                  exact hasz
                · have eD : ∀ k, (splice arr.toList (i * esz + off) (a.eval z).cells.toList).toArray.getD k undef =
                      if k < i * esz + off then arr.getD k undef else if k < i * esz + off + xs.length then (a.eval z).cells.toList.getD (k - (i * esz + off)) undef else arr.getD k undef := by
                    intro k
                    have e0 : (splice arr.toList (i * esz + off) (a.eval z).cells.toList).toArray.getD k undef = ((splice arr.toList (i * esz + off) (a.eval z).cells.toList)[k]?).getD undef := by
                      simp [Array.getD_eq_getD_getElem?]
                    rw [e0, splice_get _ _ _ (by simp; omega)]
                    simp only [Array.length_toList, hl]
                    split
                    · simp [Array.getD_eq_getD_getElem?]
                    · split
                      · simp [List.getD_eq_getElem?_getD]
                      · simp [Array.getD_eq_getD_getElem?]
                  rw [eD]
                  rw [List.getElem?_set] at hi'
                  by_cases hii : i = i'
                  · subst hii
                    rw [if_pos rfl, if_pos hilt] at hi'
                    cases hi'
                    rw [splice_get cs off ds (by omega)] at hj
                    by_cases h1 : j < off
                    · rw [if_pos h1] at hj
                      rw [if_pos (by omega)]
                      exact (har i cs j y hcs hj).on hfr
                    · rw [if_neg h1] at hj
                      rw [if_neg (by omega)]
                      by_cases h2 : j < off + ds.length
                      · rw [if_pos h2] at hj
                        rw [if_pos (by omega), show i * esz + j - (i * esz + off) = j - off by omega]
                        exact (hds _ y hj).mono hfr.okk
                      · rw [if_neg h2] at hj
                        rw [if_neg (by omega)]
                        exact (har i cs j y hcs hj).on hfr
                  · rw [if_neg hii] at hi'
                    have hcl' := hll cs' (List.mem_of_getElem? hi')
                    have hjl : j < esz := by rw [← hcl']; exact (List.getElem?_eq_some_iff.1 hj).1
                    have old := (har i' cs' j y hi' hj).on hfr
                    rcases Nat.lt_or_gt_of_ne hii with h | h
                    · have : (i + 1) * esz ≤ i' * esz := Nat.mul_le_mul_right _ h
                      rw [Nat.succ_mul] at this
                      rw [if_neg (by omega), if_neg (by omega)]
                      exact old
                    · have : (i' + 1) * esz ≤ i * esz := Nat.mul_le_mul_right _ h
                      rw [Nat.succ_mul] at this
                      rw [if_pos (by omega)]
                      exact old
          · exact hx.elim
        · exact hx.elim
      · exact hx.elim
    · exact hx.elim
  · exact hx.elim

end
end Go.Vs

/- New slices and maps; entries of maps. -/
namespace Go.Vs

section
variable {P : Program} {tv : Tv} {o : Oper} {a : Act} {x : Cx} {tm : Nat → V} {base : Nat} {v : V} {hp' : HpF} {fp : Fp}

theorem range0 {β : Type} (f : Nat → β) : (Array.range 0).map f = #[] := by
  apply Array.ext'
  simp

/-- A new slice block. -/
theorem sim_newSl {x1 : Cx} {arr : Array Value} {esz n : Nat} {es : List (List D)} {t cap : Nat} {fz : Bool} (hs : SRel x tm a) (hd : ∀ d, o.dst = some d → d < a.tmps.size) (hfr : ¬ x.U base)
    (h1 : HRel x1) (hf1 : Fr x x1) (he1 : Ev x.U x x1) (hx1 : x1.U = x.U ∧ x1.CM = x.CM) (w2 : World) (hl : Like x1.w w2) (hh2 : w2.heap = x1.w.heap.push (.cells arr t))
    (hr : (execOp a.eval o).run P x.w = .ok (.value (.slice (some ⟨x1.w.heap.size, 0, none⟩) n cap)) w2)
    (hn : es.length = n) (hcap : n ≤ cap) (hsz : cap * esz ≤ arr.size) (hlen : ∀ cs ∈ es, cs.length = esz)
    (hr2 : ∀ i cs j y, es[i]? = some cs → cs[j]? = some y → DRel x1.w x1.ok (arr.getD (i * esz + j) undef) y)
    (hx : (Prog.put base (.sl esz es fz) (.ret (.c (.ref base n 0 n)))).exec P x1.hp v hp' fp) : Sim P o a x tm base v hp' := by
  obtain ⟨fp', ⟨rfl, rfl, _⟩, rfl⟩ := hx
  obtain ⟨hU, hCM⟩ := hx1
  have hfr1 : ¬ x1.U base := by rw [hU]; exact hfr
  have hUU : ∀ j, x1.U j → (x.more base).U j := fun j h => .inl (hU ▸ h)
  have hfre : Fr x1 ⟨w2, upd x1.γ base x1.w.heap.size, upd x1.hp base (.sl esz es fz), x1.CM, (x.more base).U⟩ := new_fr hl hh2
  have hev : Ev x1.U x1 ⟨w2, upd x1.γ base x1.w.heap.size, upd x1.hp base (.sl esz es fz), x1.CM, (x.more base).U⟩ :=
    new_ev hUU fun h => absurd h hfr1
  have hnew : w2.heap[x1.w.heap.size]? = some (.cells arr t) := by rw [hh2]; simp
  have hH := new_h h1 hl hh2 hUU (more_base x base) (fun h => absurd h hfr1)
    (show BRel ⟨w2, upd x1.γ base x1.w.heap.size, upd x1.hp base (.sl esz es fz), x1.CM, (x.more base).U⟩ base (.sl esz es fz) from
      ⟨hlen, .inr ⟨x1.w.heap.size, arr, t, upd_same _ _ _, hnew, Nat.le_trans (Nat.mul_le_mul_right _ (by omega)) hsz, fun i cs j y hi hj => (hr2 i cs j y hi hj).on hfre⟩⟩)
  rw [hCM] at hfre hev hH
  rw [hU] at hev
  refine Sim.of_value hs hd hr hH ?_ (hf1.trans hfre) (he1.trans hev)
  have := CRel.ref (x := ⟨w2, upd x1.γ base x1.w.heap.size, upd x1.hp base (.sl esz es fz), x.CM, (x.more base).U⟩) base x1.w.heap.size 0 n cap esz es fz arr t (0, 0)
    (upd_same _ _ _) (upd_same _ _ _) hnew (by omega) hcap (by simpa using hsz) (more_base x base)
  rw [Nat.zero_mul, hn] at this
  exact .c _ _ this

theorem flatten_get : ∀ (n : Nat) (z : List C) (k : Nat), k < n * z.length → ((List.replicate n z).flatten)[k]? = z[k % z.length]?
  | 0, z, k, h => by simp at h
  | n + 1, z, k, h => by
    rw [List.replicate_succ, List.flatten_cons]
    by_cases hk : k < z.length
    · rw [List.getElem?_append_left hk, Nat.mod_eq_of_lt hk]
    · rw [List.getElem?_append_right (by omega), flatten_get n z (k - z.length) (by rw [Nat.succ_mul] at h; omega)]
      rw [Nat.mod_eq_sub_mod (a := k) (by omega)]

theorem zeros_arr {x : Cx} {ez : List D} {n : Nat} {z : Array Value} (hz : z = (ez.map D.toVal).toArray) (hf : ez.all D.flat = true) :
    Arr x ((Array.range (n * ez.length)).map (z[· % z.size]!)) ((List.replicate n (ez.map C.d)).flatten) where
  len := by simp
  rel := fun k y hk => by
    have hlt : k < n * ez.length := by
      have := (List.getElem?_eq_some_iff.1 hk).1
      simpa using this
    have hpos : 0 < ez.length := by
      rcases Nat.eq_zero_or_pos ez.length with h | h
      · rw [h] at hlt; simp at hlt
      · exact h
    rw [flatten_get n _ k (by simpa using hlt)] at hk
    simp only [List.length_map] at hk
    have := (zero_arr (x := x) hf).rel (k % ez.length) y hk
    have hm : k % ez.length < ez.length := Nat.mod_lt _ hpos
    have e : ((Array.range (n * ez.length)).map (z[· % z.size]!)).getD k undef = (ez.map D.toVal).toArray.getD (k % ez.length) undef := by
      subst hz
      simp [Array.getD_eq_getD_getElem?, hlt, hm]
    rw [e]
    exact this

theorem slc_of (htv : TvOk P tv) {t esz eb : Nat} {ez : List D} (hsh : (tyOf tv t).sh = .slc esz eb ez) : ∃ e i z, P.underlying t = some (.slice e) ∧ P.info? e = some i ∧ i.size = esz ∧ i.bytes = eb ∧
    i.zero = some z ∧ z.cells = (ez.map D.toVal).toArray ∧ 0 < esz ∧ ez.all D.flat = true ∧ ez.length = esz ∧ 0 < eb := by
  obtain ⟨d, hu, e, ti, z, rfl, h⟩ := sh_of htv hsh (by simp)
  exact ⟨e, ti, z, hu, h⟩

theorem chunks_all {esz n : Nat} {ds : List D} (hl : ds.length = n * esz) : ∀ cs ∈ chunks esz n ds, cs.length = esz := by
  intro cs hcs
  obtain ⟨i, hi⟩ := List.getElem?_of_mem hcs
  exact (chunks_get esz n ds hl i cs hi).1

theorem fillC_length {place : Nat → Option (Nat × Nat)} : ∀ {parts : List (Nat × V)} {cs r : List C}, fillC place cs parts = some r → r.length = cs.length
  | [], cs, r, h => by simp [fillC] at h; rw [h]
  | (i, y) :: parts, cs, r, h => by
    unfold fillC at h
    split at h
    · split at h
      · rename_i hc
        rw [fillC_length h, splice_length _ _ _ hc.2]
      · simp at h
    · simp at h

theorem sim_buildSlice {t n : Nat} {parts : Array (Nat × Operand)} (htv : TvOk P tv) (ho : o.op = .buildSlice t n parts) (hs : SRel x tm a) (hd : ∀ d, o.dst = some d → d < a.tmps.size)
    (hfr : ¬ x.U base) (hx : (sem tv base (operV tm) o).exec P x.hp v hp' fp) : Sim P o a x tm base v hp' := by
  simp only [sem, semOp, ho] at hx
  split at hx
  · rename_i esz eb ez hsh
    obtain ⟨e, ti, z, hu, hti, hsz, hby, hz, hzc, hpos, hflat, hezl, _⟩ := slc_of htv hsh
    split at hx
    · rename_i hbig
      split at hx
      · rename_i cs hcs
        obtain ⟨_, hx⟩ := hx
        obtain ⟨p1, p2⟩ := parts_rel (parts := parts) hs
        have hza := zeros_arr (x := x) (n := n) hzc hflat
        obtain ⟨arr', g1, g2⟩ := fill_sim hza p1 p2 hcs
        have hcl : cs.length = n * esz := by rw [fillC_length hcs]; simp [hezl]
        obtain ⟨ds, hp1, fp1, hx, hh1, hf1, he1, hdl, hds⟩ := settle_sim (P := P) cs (vals := arr'.toList) hs.toHRel (by simpa using g2.len)
          (fun j y hj => by simpa [List.getD_eq_getElem?_getD, Array.getD_eq_getD_getElem?] using g2.rel j y hj) hx
        have hdl' : ds.length = n * esz := by rw [hdl, hcl]
        refine sim_newSl (x1 := { x with hp := hp1 }) (arr := arr') (t := e) (cap := n) hs hd hfr hh1 hf1 he1 ⟨rfl, rfl⟩ (x.w.alloc (.cells arr' e)) ⟨rfl, rfl, rfl⟩ rfl ?_ (chunks_len _ _ _) (Nat.le_refl _)
          (by rw [g2.len, hcl]; exact Nat.le_refl _) (chunks_all hdl') (fun i ccs j y hi hj => ?_) hx
        · have hb : ¬ (2 ^ 24 < n * esz) := by omega
          rw [hezl] at g1
          by_cases h0 : n * esz = 0
          · rw [h0] at g1
            rw [range0] at g1
            simp [execOp, ho, Instr.buildSlice, run_und hu, run_size hti, hsz, h0, newRow, range0]
            simp at g1
            simp [g1]
          · simp [execOp, ho, Instr.buildSlice, run_und hu, run_size hti, hsz, h0, newRow, hb, run_zero hti hz]
            simp at g1
            simp [g1]
        · obtain ⟨q1, q2⟩ := chunks_get esz n ds hdl' i ccs hi
          have := hds _ y (q2 j y hj)
          simpa [List.getD_eq_getElem?_getD, Array.getD_eq_getD_getElem?] using this
      · exact hx.elim
    · exact hx.elim
  · exact hx.elim

theorem sim_makeSlice {t : Nat} {l c : Operand} (htv : TvOk P tv) (ho : o.op = .makeSlice t l c) (hs : SRel x tm a) (hd : ∀ d, o.dst = some d → d < a.tmps.size)
    (hfr : ¬ x.U base) (hx : (sem tv base (operV tm) o).exec P x.hp v hp' fp) : Sim P o a x tm base v hp' := by
  simp only [sem, semOp, ho] at hx
  split at hx
  · rename_i esz eb ez k1 n k2 m hsh hl hc
    obtain ⟨⟨hmn, h0, hby2, hn46, hezl⟩, hx⟩ := hx
    obtain ⟨e, ti, z, hu, hti, hsz, hby, hz, hzc, hpos, hflat, _, hebpos⟩ := slc_of htv hsh
    have e1 := hs.oper l
    rw [hl] at e1
    have e1 := e1.int_inv
    have e2 := hs.oper c
    rw [hc] at e2
    have e2 := e2.int_inv
    subst hmn
    have hwrap : IntKind.i64.wrap m = m := IntWalk.i64_in _ (by omega)
    have hza := zeros_arr (x := x) (n := m.toNat) hzc hflat
    have hfl : ∀ i cs j y, (List.replicate m.toNat ez)[i]? = some cs → cs[j]? = some y → i < m.toNat ∧ j < esz ∧ ez[j]? = some y := by
      intro i cs j y hi hj
      rw [List.getElem?_replicate] at hi
      split at hi
      · cases hi
        exact ⟨by assumption, by rw [← hezl]; exact (List.getElem?_eq_some_iff.1 hj).1, hj⟩
      · simp at hi
    have harr : Arr x ((Array.range (m.toNat * esz)).map (z.cells[· % z.cells.size]!)) ((List.replicate m.toNat (ez.map C.d)).flatten) := by rw [← hezl]; exact hza
    refine sim_newSl (x1 := x) (arr := (Array.range (m.toNat * esz)).map (z.cells[· % z.cells.size]!)) (t := e) (cap := m.toNat) hs hd hfr hs.toHRel (Fr.refl x) (Ev.refl fun _ h => h) ⟨rfl, rfl⟩
      (x.w.alloc (.cells ((Array.range (m.toNat * esz)).map (z.cells[· % z.cells.size]!)) e)) ⟨rfl, rfl, rfl⟩ rfl ?_ (by simp) (Nat.le_refl _) (by simp) (fun cs hcs => by rw [List.eq_of_mem_replicate hcs]; exact hezl) (fun i cs j y hi hj => ?_) hx
    · have hbb : ((m.toNat * eb : Nat) : Int) = eb * m := by
        rw [Int.natCast_mul, Int.toNat_of_nonneg h0, Int.mul_comm]
      have hle : (eb : Int) * m ≤ 70368744177664 := by
        rw [← hbb]
        unfold mostBytes at hby2
        omega
      have t1 : ¬ (281474976710656 < (eb : Int) * m) := by omega
      have t2 : ¬ (m < 0) := by omega
      by_cases hz0 : m.toNat * esz = 0
      · simp [execOp, ho, e1, e2, Instr.makeSlice, run_und hu, asInt, asIntOf, run_info hti, hby, hwrap, run_size hti, hsz, newRow, hz0, t2, t1, range0]
      · simp [execOp, ho, e1, e2, Instr.makeSlice, run_und hu, asInt, asIntOf, run_info hti, hby, hwrap, run_size hti, hsz, newRow, hz0, t2, t1, run_zero hti hz]
    · obtain ⟨h1, h2, h3⟩ := hfl i cs j y hi hj
      have hlt : i * esz + j < m.toNat * esz := by
        have : (i + 1) * esz ≤ m.toNat * esz := Nat.mul_le_mul_right _ h1
        rw [Nat.succ_mul] at this
        omega
      have hmod : (i * esz + j) % esz = j := by rw [Nat.mul_comm, Nat.mul_add_mod, Nat.mod_eq_of_lt h2]
      have := harr.rel (i * esz + j) (.d y) (by
        rw [flatten_get _ _ _ (by simpa [hezl] using hlt)]
        simp [hezl, hmod, h3])
      exact this.d_inv
  · exact hx.elim

end
end Go.Vs
