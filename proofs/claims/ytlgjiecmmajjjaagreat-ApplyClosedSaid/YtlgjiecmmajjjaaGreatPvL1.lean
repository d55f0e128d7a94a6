/- The evaluator of Go code and its soundness, a part of four. Conditions: as each lemma says. -/
import Derived.Calls
import Derived.LoopN
import Derived.Orders
import Derived.Below
import Derived.Tactics
import Derived.LaidEql
import Derived.Laws.StructEq
import Derived.ChangeKeysEq
/- A heap-light evaluator for Go code of the model: values are trees, own cells and slices lie in a small abstract memory; fuel, no tape. Conditions: none, these are definitions. -/
namespace Go.Pv

/-- Trees: values that nobody writes any more. -/
inductive T where
  | bool (b : Bool) | int (k : IntKind) (n : Int) | str (s : ByteArray)
  | vec (es : List T) | agg (cs : List T) | tup (cs : List T)
  | fn (f : Fn) (fi : List T) | iface (t : TypeId) (v : T)
  | nilptr | nilfn | nilif
  deriving Inhabited

/-- Values of a running call: trees, pointers and slices into its own memory (a name, a number), and what holds such. -/
inductive V where
  | t (x : T)
  | ref (p : List Nat) (g i o : Nat) | vref (v : V) (o : Nat)
  | own (p : List Nat) (g o n s : Nat) | cap0 | vec (es : List V)
  | agg (cs : List V) | tup (cs : List V)
  | fn (f : Fn) (fi ca : List V)
  | mp (p : List Nat) (g : Nat) | it (p : List Nat) (g : Nat)
  | undef | junk
  deriving Inhabited

inductive Oc where
  | row (es : List V) | mp (k : IntKind) (es : List (Int × V)) | it (s : ByteArray) (pos : Nat)

structure Ob where
  fz : Bool
  o : Oc

abbrev Key := List Nat × Nat
abbrev Heap := List Nat → Nat → Option Ob
def Heap.emp : Heap := fun _ _ => none
def Heap.upd (h : Heap) (p : List Nat) (g : Nat) (x : Option Ob) : Heap := fun q k => if k = g ∧ q = p then x else h q k
abbrev Tmps := Nat → V
def Tmps.upd (f : Tmps) (d : Nat) (v : V) : Tmps := fun t => if t = d then v else f t
def Tmps.put (f : Tmps) : Option Nat → V → Tmps
  | some d, v => f.upd d v
  | none, _ => f
def Tmps.ofList (l : List V) : Tmps := fun t => (l[t]?).getD .undef

def T.ncells : T → Nat
  | .agg cs => cs.length
  | _ => 1
def T.cells : T → List T
  | .agg cs => cs
  | x => [x]
def T.cell : T → Nat → Option T
  | .agg cs, o => cs[o]?
  | x, 0 => some x
  | _, _ => none
def T.sub : T → Nat → Nat → Option T
  | .agg cs, o, n => if o + n ≤ cs.length then some (.agg ((cs.drop o).take n)) else none
  | _, _, _ => none
def V.ncells : V → Nat
  | .t x => x.ncells
  | .agg cs => cs.length
  | _ => 1
def V.cells : V → List V
  | .t x => x.cells.map .t
  | .agg cs => cs
  | v => [v]
/-- May a value stand in memory? -/
def T.still : T → Bool
  | .tup _ => false
  | _ => true
def V.still : V → Bool
  | .t x => x.still
  | .tup _ | .undef | .junk => false
  | _ => true
def T.isAgg : T → Bool
  | .agg _ => true
  | _ => false
def V.isAgg : V → Bool
  | .t x => x.isAgg
  | .agg _ => true
  | _ => false
def V.sub : V → Nat → Nat → Option V
  | .t x, o, n => (x.sub o n).map .t
  | .agg cs, o, n => if o + n ≤ cs.length then some (.agg ((cs.drop o).take n)) else none
  | _, _, _ => none
/-- What is read of a value at a place: so many cells, as a whole or as one. -/
def V.part (agg : Bool) (n o : Nat) (v : V) : Option V :=
  if agg then
    if o = 0 ∧ v.ncells = n ∧ v.isAgg then some v
    else v.sub o n
  else if n = 1 then
    match v with
    | .t x => (x.cell o).map .t
    | .agg cs => cs[o]?
    | v => if o = 0 then some v else none
  else none
def splice {α : Type} (cs : List α) (o : Nat) (ns : List α) : List α := cs.take o ++ ns ++ cs.drop (o + ns.length)
def V.setPart (v : V) (o : Nat) (x : V) : Option V :=
  if o = 0 ∧ v.ncells = x.ncells ∧ v.isAgg = x.isAgg then some x
  else if v.isAgg ∧ o + x.ncells ≤ v.ncells then some (.agg (splice v.cells o x.cells)) else none

def ofScalar : Value → V
  | .bool b => .t (.bool b) | .int k n => .t (.int k n) | .string s => .t (.str s)
  | .pointer none => .t .nilptr | .slice none 0 0 => .cap0 | .nilFunc => .t .nilfn | .nilIface => .t .nilif
  | _ => .junk
def scB : Value → Bool
  | .agg _ | .tuple _ => false
  | _ => true
def ofValue : Value → V
  | .agg cs => if cs.toList.all scB then .agg (cs.toList.map ofScalar) else .junk
  | v => ofScalar v
def opd (ts : Tmps) : Operand → V
  | .tmp t => ts t
  | .const v => ofValue v
  | .func f => .t (.fn (.func f) [])
  | .global _ => .junk

section types
variable (P : Program)
def sz (t : TypeId) : Nat := P.cellsOf t
def isAggT (t : TypeId) : Bool := match P.underlying t with
  | some (.struct _) | some (.array _ _) => true
  | _ => false
/-- Is it a struct or an array? None: there is no such type. -/
def kindT (t : TypeId) : Option Bool := match P.underlying t with
  | some (.struct _) | some (.array _ _) => some true
  | some _ => some false
  | none => none
def foff (t f : Nat) : Option Nat := match P.underlying t with
  | some (.struct fs) => match fs[f]? with
    | some x => if P.cellsOf x.type = 0 then none else some x.offset
    | none => none
  | _ => none
def ftype (t f : Nat) : TypeId := match P.underlying t with
  | some (.struct fs) => ((fs[f]?).map (·.type)).getD 0
  | _ => 0
/-- Of a slice's type: its elements'. -/
def elemT (t : TypeId) : Option TypeId := match P.underlying t with
  | some (.slice e) => some e
  | _ => none
def arrT (t : TypeId) : Option (Nat × TypeId) := match P.underlying t with
  | some (.array n e) => some (n, e)
  | _ => none
def intT (t : TypeId) : Option IntKind := match P.underlying t with
  | some (.int k) => some k
  | _ => none
def isStr (t : TypeId) : Bool := match P.underlying t with
  | some .string => true
  | _ => false
def isIface (t : TypeId) : Bool := match P.underlying t with
  | some (.interface _) => true
  | _ => false
def zeroV (t : TypeId) : Option V := ((P.info? t).bind (·.zero)).map ofValue
/-- Of a struct or an array of plain numbers, bools, strings alone, without a blank field: its cells' types. -/
def tysT (t : TypeId) : Option (List TypeId) := match P.underlying t with
  | some (.struct fs) => if !P.stoodInHeld t && fs.toList.all (fun f => f.name != "_") && fs.toList.map (·.offset) == List.range fs.size then some (fs.toList.map (·.type)) else none
  | some (.array n e) => if P.cellsOf e = 1 then some (List.replicate n e) else none
  | _ => none
def guardT (t : TypeId) : Bool := P.eqGuardType P.depth t
/-- The function behind a method of a type, where it is one of its own by value. -/
def methodT (t : TypeId) (name : String) : Option FuncId :=
  match P.info? t with
  | none => none
  | some i => match i.methods.find? (·.name == name) with
    | some m => if m.path.isEmpty then
        match m.func, P.underlying t with
        | some (_, _), some (.pointer _) => none
        | some (f, false), some _ => some f
        | _, _ => none
      else none
    | none => none
end types

mutual
/-- A value as a tree, where it holds nothing of the memory. -/
def V.asT : V → Option T
  | .t x => some x
  | .cap0 => some (.vec [])
  | .vec es => (V.asTs es).map .vec
  | .agg cs => (V.asTs cs).map .agg
  | .tup cs => (V.asTs cs).map .tup
  | .fn f fi [] => (V.asTs fi).map (.fn f)
  | _ => none
def V.asTs : List V → Option (List T)
  | [] => some []
  | v :: vs => match v.asT, V.asTs vs with
    | some x, some xs => some (x :: xs)
    | _, _ => none
end

def rowAt (h : Heap) (p : List Nat) (g : Nat) : Option (List V) := match h p g with
  | some ⟨_, .row es⟩ => some es
  | _ => none
/-- Of a row that may still be written. -/
def rowW (h : Heap) (p : List Nat) (g : Nat) : Option (List V) := match h p g with
  | some ⟨false, .row es⟩ => some es
  | _ => none

/-- A value and what it leads to, as a tree. -/
def snapWith (rec : V → Option T) : List V → Option (List T)
  | [] => some []
  | v :: vs => match rec v, snapWith rec vs with
    | some x, some xs => some (x :: xs)
    | _, _ => none
def snap (h : Heap) : Nat → V → Option T
  | 0, _ => none
  | _ + 1, .t x => some x
  | _ + 1, .cap0 => some (.vec [])
  | n + 1, .own p g o k _ => match rowAt h p g with
    | some es => if o + k ≤ es.length then (snapWith (snap h n) ((es.drop o).take k)).map .vec else none
    | none => none
  | n + 1, .vec es => (snapWith (snap h n) es).map .vec
  | n + 1, .agg cs => (snapWith (snap h n) cs).map .agg
  | n + 1, .tup cs => (snapWith (snap h n) cs).map .tup
  | n + 1, .fn f fi [] => (snapWith (snap h n) fi).map (.fn f)
  | _ + 1, _ => none
/-- The rows that a value leads to. -/
def keysWith (rec : V → List Key) : List V → List Key
  | [] => []
  | v :: vs => rec v ++ keysWith rec vs
def keys (h : Heap) : Nat → V → List Key
  | 0, _ => []
  | n + 1, .own p g o k _ => (p, g) :: match rowAt h p g with
    | some es => keysWith (keys h n) ((es.drop o).take k)
    | none => []
  | n + 1, .vec es => keysWith (keys h n) es
  | n + 1, .agg cs => keysWith (keys h n) cs
  | n + 1, .tup cs => keysWith (keys h n) cs
  | n + 1, .fn _ fi [] => keysWith (keys h n) fi
  | _ + 1, _ => []
/-- How deep values may lead. -/
def deep : Nat := 8
def Heap.freeze (h : Heap) (ks : List Key) : Heap :=
  if ks.isEmpty then h else fun p g => match h p g with
    | some ob => some (if ks.contains (p, g) then { ob with fz := true } else ob)
    | none => none

mutual
/-- Without slices: nothing of the memory can be seen through it. -/
def T.flat : T → Bool
  | .bool _ | .int _ _ | .str _ | .nilptr | .nilfn | .nilif => true
  | .agg cs => T.flats cs
  | .tup cs => T.flats cs
  | .fn _ fi => T.flats fi
  | .iface _ v => v.flat
  | .vec _ => false
def T.flats : List T → Bool
  | [] => true
  | x :: xs => x.flat && T.flats xs
end

/-! Operations on values alone. -/
def ibin (op : BinOp) (k : IntKind) (a b : Int) : Option V :=
  match op with
  | .add => some (.t (.int k (k.wrap (a + b))))
  | .sub => some (.t (.int k (k.wrap (a - b))))
  | .mul => some (.t (.int k (k.wrap (a * b))))
  | .quo => if b = 0 then none else some (.t (.int k (k.wrap (a.tdiv b))))
  | .rem => if b = 0 then none else some (.t (.int k (a.tmod b)))
  | .and => some (.t (.int k (k.wrap (BitVec.ofInt k.bits a &&& BitVec.ofInt k.bits b).toNat)))
  | .or => some (.t (.int k (k.wrap (BitVec.ofInt k.bits a ||| BitVec.ofInt k.bits b).toNat)))
  | .xor => some (.t (.int k (k.wrap (BitVec.ofInt k.bits a ^^^ BitVec.ofInt k.bits b).toNat)))
  | .andNot => some (.t (.int k (k.wrap (BitVec.ofInt k.bits a &&& ~~~(BitVec.ofInt k.bits b)).toNat)))
  | .eql => some (.t (.bool (a == b)))
  | .neq => some (.t (.bool (a != b)))
  | .lss => some (.t (.bool (decide (a < b))))
  | .leq => some (.t (.bool (decide (a ≤ b))))
  | .gtr => some (.t (.bool (decide (a > b))))
  | .geq => some (.t (.bool (decide (a ≥ b))))
  | _ => none
def sbin (op : BinOp) (a b : ByteArray) : Option V :=
  match op with
  | .add => if ((a.size + b.size : Nat) : Int) > IntKind.i64.max then none else some (.t (.str (a ++ b)))
  | .eql => some (.t (.bool (a.toList == b.toList)))
  | .neq => some (.t (.bool !(a.toList == b.toList)))
  | _ => none
def eqScalar (P : Program) (t : TypeId) (x y : T) : Option Bool :=
  match P.underlying t, x, y with
  | some (.int _), .int k a, .int k' b => if k = k' then some (a == b) else none
  | some .bool, .bool a, .bool b => some (a == b)
  | some .string, .str a, .str b => some (a.toList == b.toList)
  | _, _, _ => none
def eqCells (P : Program) : List TypeId → List T → List T → Option Bool
  | [], [], [] => some true
  | t :: ts, x :: xs, y :: ys => match eqScalar P t x y, eqCells P ts xs ys with
    | some a, some b => some (a && b)
    | _, _ => none
  | _, _, _ => none
def eqV (P : Program) (t : TypeId) (x y : V) : Option Bool :=
  match x, y with
  | .t (.bool a), .t (.bool b) => eqScalar P t (.bool a) (.bool b)
  | .t .nilif, .t (.iface _ _) => if isIface P t then some false else none
  | .t (.iface _ _), .t .nilif => if isIface P t then some false else none
  | x, y => match tysT P t, guardT P t, x.asT, y.asT with
    | some ts, false, some (.agg a), some (.agg b) => eqCells P ts a b
    | _, _, _, _ => none
def isNilC : Operand → Bool
  | .const _ => true
  | _ => false
def bin (P : Program) (op : BinOp) (t : TypeId) (xo yo : Operand) (x y : V) : Option V :=
  match op, x, y with
  | .shl, .t (.int k a), .t (.int _ b) => if b < 0 then none else some (.t (.int k (k.wrap (a * 2 ^ (min b.toNat k.bits)))))
  | .shr, .t (.int k a), .t (.int _ b) => if b < 0 then none else some (.t (.int k (a.fdiv (2 ^ (min b.toNat k.bits)))))
  | op, .t (.int k a), .t (.int k' b) => if k = k' then ibin op k a b else none
  | op, .t (.str a), .t (.str b) => sbin op a b
  | .eql, .t .nilif, .t .nilif => if (isNilC xo || isNilC yo) && isIface P t then some (.t (.bool true)) else none
  | .neq, .t .nilif, .t .nilif => if (isNilC xo || isNilC yo) && isIface P t then some (.t (.bool false)) else none
  | .eql, x, y => (eqV P t x y).map fun b => .t (.bool b)
  | .neq, x, y => (eqV P t x y).map fun b => .t (.bool !b)
  | _, _, _ => none
def un (op : UnOp) (x : V) : Option V :=
  match op, x with
  | .neg, .t (.int k n) => some (.t (.int k (k.wrap (0 - n))))
  | .not, .t (.bool b) => some (.t (.bool !b))
  | _, _ => none
def conv (P : Program) (src dst : TypeId) (x : V) : Option V :=
  match x with
  | .t (.int _ n) => if (kindT P src).isNone then none else (intT P dst).map fun k => .t (.int k (k.wrap n))
  | .t (.str s) => if isStr P src && isStr P dst then some (.t (.str s)) else none
  | _ => none
/-- Has each field of a struct a type? -/
def fieldsOk (P : Program) (t : TypeId) : Bool := match P.underlying t with
  | some (.struct fs) => fs.toList.all fun f => (P.info? f.type).isSome
  | _ => false
/-- A struct's or an array's parts. -/
def fillV (place : Nat → Option (Nat × Nat)) : List V → List (Nat × V) → Option (List V)
  | cs, [] => some cs
  | cs, (i, v) :: rest => match place i with
    | some (off, size) => if v.still ∧ v.ncells = size ∧ off + size ≤ cs.length then fillV place (splice cs off v.cells) rest else none
    | none => none
def buildV (P : Program) (t : TypeId) (parts : List (Nat × V)) : Option V :=
  match zeroV P t with
  | some (.agg zs) =>
    match arrT P t with
    | some (_, e) => if 0 < sz P e then (fillV (fun i => some (i * sz P e, sz P e)) zs parts).map .agg else none
    | none => if fieldsOk P t then (fillV (fun f => (foff P t f).map fun o => (o, sz P (ftype P t f))) zs parts).map .agg else none
  | _ => none
def sliceLit (z : V) (size : Nat) : Nat → Nat → List (Nat × V) → Option (List V)
  | _, 0, [] => some []
  | i, n + 1, (j, v) :: rest => if i = j ∧ v.still ∧ v.ncells = size then (sliceLit z size (i + 1) n rest).map (v :: ·) else none
  | _, _, _ => none
def buildSliceV (P : Program) (t : TypeId) (len : Nat) (parts : List (Nat × V)) : Option V :=
  match elemT P t with
  | some e => match zeroV P e with
    | some z => if z.ncells = sz P e ∧ 0 < sz P e ∧ len * sz P e ≤ 4096 then (sliceLit z (sz P e) 0 len parts).map .vec else none
    | none => none
  | none => none
def addOff (v : V) (d : Nat) : Option V :=
  match v with
  | .ref p g i o => some (.ref p g i (o + d))
  | .vref x o => some (.vref x (o + d))
  | _ => none
def indexAddrV (P : Program) (t : TypeId) (x i : V) : Option V :=
  match i with
  | .t (.int _ i) =>
    match arrT P t with
    | some (n, e) => if 0 ≤ i ∧ i < (n : Int) ∧ 0 < sz P e then addOff x (i.toNat * sz P e) else none
    | none => match elemT P t with
      | some e => match x with
        | .own p g o n s => if 0 ≤ i ∧ i < (n : Int) ∧ 0 < sz P e ∧ s = sz P e then some (.ref p g (o + i.toNat) 0) else none
        | .t (.vec l) => if 0 ≤ i ∧ i < (l.length : Int) then
            match l[i.toNat]? with
            | some x => if x.ncells = sz P e ∧ 0 < sz P e then some (.vref (.t x) 0) else none
            | none => none
          else none
        | .vec l => if 0 ≤ i ∧ i < (l.length : Int) then
            match l[i.toNat]? with
            | some x => if x.ncells = sz P e ∧ 0 < sz P e then some (.vref x 0) else none
            | none => none
          else none
        | _ => none
      | none => none
  | _ => none
/-- A part of an aggregate, by its type. -/
def partV (P : Program) (t : TypeId) (x : V) (o : Nat) : Option V :=
  match x.isAgg, kindT P t with
  | true, some true => x.sub o (sz P t)
  | true, some false => match x with
    | .t x => (x.cell o).map .t
    | .agg cs => cs[o]?
    | _ => none
  | _, _ => none
def indexV (P : Program) (t : TypeId) (x i : V) : Option V :=
  match i with
  | .t (.int _ i) =>
    match arrT P t with
    | some (n, e) => if 0 ≤ i ∧ i < (n : Int) ∧ 0 < sz P e then partV P e x (i.toNat * sz P e) else none
    | none => match x with
      | .t (.str s) => if isStr P t ∧ 0 ≤ i then (s[i.toNat]?).map fun b => .t (.int .u8 b.toNat) else none
      | _ => none
  | _ => none
def fieldV (P : Program) (t : TypeId) (x : V) (f : Nat) : Option V :=
  match foff P t f with
  | some o => partV P (ftype P t f) x o
  | none => none
/-- A bound of a slice expression; where there is none: another number. -/
def bnd (d : Nat) : Option V → Option Nat
  | none => some d
  | some (.t (.int _ n)) => if 0 ≤ n then some n.toNat else none
  | _ => none
def slLen : V → Option Nat
  | .own _ _ _ n _ => some n
  | .t (.vec l) => some l.length
  | .vec l => some l.length
  | .cap0 => some 0
  | _ => none
/-- A piece of a slice, from l to h; whether all that lies behind it may be in its capacity. -/
def cutV (size : Nat) (x : V) (l h : Nat) (all : Bool) : Option V :=
  match x with
  | .own p g o _ s => if s = size then some (.own p g (o + l) (h - l) s) else none
  | .t (.vec xs) => if l = 0 ∨ ((xs.head?).map T.ncells).getD size = size then some (.t (.vec ((xs.drop l).take (h - l)))) else none
  | .vec xs => if h = xs.length ∧ all ∧ (l = 0 ∨ ((xs.head?).map V.ncells).getD size = size) then some (.vec (xs.drop l)) else none
  | .cap0 => some .cap0
  | _ => none
def sliceV (P : Program) (t : TypeId) (x : V) (lo hi mx : Option V) : Option V :=
  match x with
  | .t (.str s) =>
    if isStr P t ∧ mx.isNone then
      match bnd 0 lo, bnd s.size hi with
      | some l, some h => if l ≤ h ∧ h ≤ s.size then some (.t (.str (s.extract l h))) else none
      | _, _ => none
    else none
  | _ => match elemT P t, slLen x with
    | some e, some n => match bnd 0 lo, bnd n hi, bnd n mx with
      | some l, some h, some m => if l ≤ h ∧ h ≤ m ∧ m ≤ n ∧ (mx.isNone ∨ hi.isSome) ∧ 0 < sz P e then
          (if mx.isSome ∧ m = l then some .cap0 else cutV (sz P e) x l h mx.isNone) else none
      | _, _, _ => none
    | _, _ => none
def extractV (x : V) (i : Nat) : Option V :=
  match x with
  | .tup vs => vs[i]?
  | .t (.tup vs) => (vs[i]?).map .t
  | _ => none
def makeFuncV (f : Fn) (fi ca : List V) : V :=
  match ca, V.asTs fi with
  | [], some ts => .t (.fn f ts)
  | _, _ => .fn f fi ca
def assertV (P : Program) (x : V) (t : TypeId) (commaOk : Bool) : Option V :=
  if isIface P t then none else
  match P.underlying t with
  | none => none
  | some _ => match x with
    | .t (.iface u v) => if u = t then some (if commaOk then .tup [.t v, .t (.bool true)] else .t v)
        else if commaOk then (zeroV P t).map fun z => .tup [z, .t (.bool false)] else none
    | .t .nilif => if commaOk then (zeroV P t).map fun z => .tup [z, .t (.bool false)] else none
    | _ => none
def lenV (P : Program) (t : TypeId) (x : V) : Option V :=
  match P.underlying t, x with
  | some .string, .t (.str s) => some (.t (.int .i64 s.size))
  | some (.array n _), _ => some (.t (.int .i64 n))
  | some (.slice _), .own _ _ _ n _ => some (.t (.int .i64 n))
  | some (.slice _), .t (.vec l) => some (.t (.int .i64 l.length))
  | some (.slice _), .vec l => some (.t (.int .i64 l.length))
  | some (.slice _), .cap0 => some (.t (.int .i64 0))
  | _, _ => none
def foldMax : IntKind → Int → List V → Option Int
  | _, n, [] => some n
  | k, n, .t (.int k' m) :: vs => if k = k' then foldMax k (if m > n then m else n) vs else none
  | _, _, _ => none
def foldMin : IntKind → Int → List V → Option Int
  | _, n, [] => some n
  | k, n, .t (.int k' m) :: vs => if k = k' then foldMin k (if m < n then m else n) vs else none
  | _, _, _ => none
def intMax : List V → Option V
  | .t (.int k n) :: vs => (foldMax k n vs).map fun m => .t (.int k m)
  | _ => none
def intMin : List V → Option V
  | .t (.int k n) :: vs => (foldMin k n vs).map fun m => .t (.int k m)
  | _ => none
end Go.Pv
/- The evaluator: one operation, a region, a function's code, calls by fuel. Conditions: none, these are definitions. -/
namespace Go.Pv

/-- What is told of a program: of each function how it is called, of each region that draws its order what is kept from what. -/
structure Cfg where
  P : Program
  md : FuncId → Nat
  hide : FuncId → Nat → Nat → List Nat
  rt : FuncId → Nat → Nat → Option (Option Nat)
  own : FuncId → Nat → Nat → Option Nat
  prim : FuncId → List T → Option T
  iter : FuncId → Heap → List V → Option (List T)

structure Env where
  callT : FuncId → List T → Option T
  callH : FuncId → List V → List Nat → Heap → Nat → Option (V × Heap × Nat)

structure St where
  tmps : Tmps
  heap : Heap
  c : Nat

/-- Classes of operations: 0 values alone, 1 makes a block, 2 reads, 3 calls by value, 4 calls within this memory, appends, 5 writes, 9 none of these. -/
def cls (C : Cfg) : Op → Nat
  | .move _ | .pick .. | .build .. | .buildSlice .. | .fieldAddr .. | .field .. | .unOp .. | .makeInterface .. | .makeFunc .. | .extract .. | .nilCheck _ | .binOp .. | .indexAddr .. | .index .. | .slice .. | .typeAssert .. => 0
  | .assign (.const (.slice none 0 0)) => 1
  | .assign _ => 0
  | .alloc _ | .box .. | .makeSlice .. | .makeMap _ none | .range .. => 1
  | .convert src dst _ => if (elemT C.P dst).isSome then 1 else if (elemT C.P src).isSome then 2 else 0
  | .load .. | .lookup .. => 2
  | .call { callee := .builtin b, .. } => match b with
    | .len | .min | .max => 0
    | .append | .clear => 4
    | _ => 9
  | .call { callee := .value (.func f), .. } => if C.md f ≤ 1 ∨ C.md f = 4 then 3 else 4
  | .call { callee := .value _, .. } => 4
  | .call { callee := .invoke .., .. } => 3
  | .next .. => 4
  | .store .. | .insert .. => 5
  | _ => 9

def pureOp (P : Program) (ρ : Operand → V) : Op → Option V
  | .move x | .assign x => some (ρ x)
  | .pick c a b => match ρ c with
    | .t (.bool c) => some (if c then ρ a else ρ b)
    | _ => none
  | .build t ps => buildV P t (ps.toList.map fun x => (x.1, ρ x.2))
  | .buildSlice t n ps => buildSliceV P t n (ps.toList.map fun x => (x.1, ρ x.2))
  | .fieldAddr t x f => match foff P t f with
    | some d => addOff (ρ x) d
    | none => none
  | .field t x f => fieldV P t (ρ x) f
  | .unOp op _ x => un op (ρ x)
  | .makeInterface t x => if isIface P t then none else match P.underlying t, (ρ x).asT with
    | some _, some v => some (.t (.iface t v))
    | _, _ => none
  | .makeFunc f fi ca => some (makeFuncV f (fi.toList.map ρ) (ca.toList.map ρ))
  | .extract x i => extractV (ρ x) i
  | .nilCheck x => match ρ x with
    | .ref p g i o => some (.ref p g i o)
    | .vref v o => some (.vref v o)
    | _ => none
  | .binOp op t x y _ => bin P op t x y (ρ x) (ρ y)
  | .indexAddr t x i => indexAddrV P t (ρ x) (ρ i)
  | .index t x i => indexV P t (ρ x) (ρ i)
  | .slice t x lo hi mx => sliceV P t (ρ x) (lo.map ρ) (hi.map ρ) (mx.map ρ)
  | .typeAssert x _ t ok => assertV P (ρ x) t ok
  | .convert src dst x => conv P src dst (ρ x)
  | .call { callee := .builtin b, args, argTypes } => match b with
    | .len => match argTypes[0]?, args[0]? with
      | some t, some x => lenV P t (ρ x)
      | _, _ => none
    | .max => intMax (args.toList.map ρ)
    | .min => intMin (args.toList.map ρ)
    | _ => none
  | _ => none

def allocOp (P : Program) (ρ : Operand → V) (type : TypeId) : Op → Option (Oc × (List Nat → Nat → V))
  | .assign _ => match elemT P type with
    | some e => some (.row [], fun p g => .own p g 0 0 (sz P e))
    | none => none
  | .alloc t => match zeroV P t with
    | some z => if z.ncells = sz P t ∧ z.still then some (.row [z], fun p g => .ref p g 0 0) else none
    | none => none
  | .box t x => if (ρ x).still ∧ (ρ x).ncells = sz P t then some (.row [ρ x], fun p g => .ref p g 0 0) else none
  | .makeSlice t l c => match elemT P t, ρ l, ρ c with
    | some e, .t (.int _ n), .t (.int _ m) => match zeroV P e with
      | some z => if n = m ∧ 0 ≤ n ∧ n ≤ 1048576 ∧ P.bytesOf e ≤ 1024 ∧ z.ncells = sz P e ∧ 0 < sz P e ∧ z.still then some (.row (List.replicate n.toNat z), fun p g => .own p g 0 n.toNat (sz P e)) else none
      | none => none
    | _, _, _ => none
  | .makeMap t none => match P.underlying t with
    | some (.map k _) => match intT P k with
      | some k => some (.mp k [], fun p g => .mp p g)
      | none => none
    | _ => none
  | .range t x => match ρ x with
    | .t (.str s) => if isStr P t then some (.it s 0, fun p g => .it p g) else none
    | _ => none
  | _ => none

/-- A new entry in its place. -/
def insI (k : Int) (x : V) : List (Int × V) → List (Int × V)
  | [] => [(k, x)]
  | (j, v) :: es => if k < j then (k, x) :: (j, v) :: es else (j, v) :: insI k x es
def findI (k : Int) : List (Int × V) → Option V
  | [] => none
  | (j, v) :: es => if k = j then some v else findI k es
/-- The elements of a slice. -/
def elems (h : Heap) : V → Option (List V)
  | .cap0 => some []
  | .own p g o n _ => match rowAt h p g with
    | some es => if o + n ≤ es.length then some ((es.drop o).take n) else none
    | none => none
  | .t (.vec l) => some (l.map .t)
  | .vec l => some l
  | _ => none
def readV (P : Program) (h : Heap) (t : TypeId) (x : V) : Option V :=
  match kindT P t with
  | some agg => match x with
    | .ref p g i o => match rowAt h p g with
      | some es => match es[i]? with
        | some e => e.part agg (sz P t) o
        | none => none
      | none => none
    | .vref v o => if v.still then v.part agg (sz P t) o else none
    | _ => none
  | none => none
def loadOp (P : Program) (h : Heap) (ρ : Operand → V) : Op → Option V
  | .load t x => readV P h t (ρ x)
  | .lookup t x i ok => match P.underlying t with
    | some (.map k e) => match ρ x, ρ i, intT P k, zeroV P e with
      | .mp p g, .t (.int j n), some j', some z => match h p g with
        | some ⟨_, .mp k' es⟩ => if j = j' ∧ k' = j then
            match findI n es with
            | some v => some (if ok then .tup [v, .t (.bool true)] else v)
            | none => some (if ok then .tup [z, .t (.bool false)] else z)
          else none
        | _ => none
      | _, _, _, _ => none
    | _ => none
  | _ => none

/-- A call's function and its arguments, where it is one of the program's. -/
def target (P : Program) (ρ : Operand → V) (c : Call) : Option (FuncId × List V) :=
  match c.callee with
  | .value x => match ρ x with
    | .t (.fn (.func f) fi) => some (f, fi.map .t ++ c.args.toList.map ρ)
    | .fn (.func f) fi ca => some (f, fi ++ c.args.toList.map ρ ++ ca)
    | _ => none
  | .invoke r name => match ρ r with
    | .t (.iface t v) => match methodT P t name with
      | some f => some (f, .t v :: c.args.toList.map ρ)
      | none => none
    | _ => none
  | .builtin _ => none
/-- A call by value: its answer, and what it leads to that nobody writes any more. -/
def valueCall (C : Cfg) (E : Env) (h : Heap) (f : FuncId) (vs : List V) : Option (V × List Key) :=
  match snapWith (snap h deep) vs with
  | some ts => match E.callT f ts with
    | some r => if C.md f = 0 then (if r.flat then some (.t r, []) else none)
        else if C.md f = 1 ∨ C.md f = 4 then some (.t r, keysWith (keys h deep) vs) else none
    | none => none
  | none => none
def isUnder (p q : List Nat) : Bool := p.length < q.length && p.isSuffixOf q
def Heap.erase (h : Heap) (p : List Nat) : Heap := fun q k => if isUnder p q then none else h q k
def appendV (P : Program) (h : Heap) (p : List Nat) (c : Nat) (t : TypeId) (s x : V) (xt : TypeId) : Option (V × Heap × Nat) :=
  match elemT P t with
  | none => none
  | some e =>
    if P.bytesOf e ≤ 1024 ∧ 0 < sz P e ∧ (zeroV P e).any (fun z => z.ncells == sz P e && z.still) then
      let add : Option (List V) := match x with
        | .t (.str s) => if isStr P xt ∧ sz P e = 1 then some (s.data.toList.map fun b => .t (.int .u8 b.toNat)) else none
        | x => if (elemT P xt).isSome then elems h x else none
      match add with
      | none => none
      | some new =>
        if new.all (fun v => v.ncells == sz P e && v.still) then
          match s with
          | .cap0 => if new.length ≤ 1048576 then some (.own p c 0 new.length (sz P e), h.upd p c (some ⟨false, .row new⟩), c + 1) else none
          | .own q g o n s => match rowW h q g with
            | some es => if o + n ≤ es.length ∧ n + new.length ≤ 1048576 ∧ s = sz P e then
                some (.own q c 0 (n + new.length) s, (h.upd q g none).upd q c (some ⟨false, .row ((es.drop o).take n ++ new)⟩), c + 1) else none
            | none => none
          | .vec es => if new.isEmpty then some (.vec es, h, c)
              else if es.length + new.length ≤ 1048576 ∧ es.all (fun v => v.ncells == sz P e && v.still) then some (.own p c 0 (es.length + new.length) (sz P e), h.upd p c (some ⟨false, .row (es ++ new)⟩), c + 1) else none
          | _ => none
        else none
    else none
def effOp (C : Cfg) (E : Env) (p : List Nat) (h : Heap) (c : Nat) (ρ : Operand → V) : Op → Option (V × Heap × Nat)
  | .call { callee := .builtin b, args, argTypes } => match b with
    | .append => match argTypes.toList, args.toList with
      | [t, xt], [s, x] => appendV C.P h p c t (ρ s) (ρ x) xt
      | _, _ => none
    | .clear => match argTypes.toList, args.toList with
      | [t], [x] => match elemT C.P t, ρ x with
        | some e, .own q g o n s => match rowW h q g, zeroV C.P e with
          | some es, some z => if o + n ≤ es.length ∧ s = sz C.P e ∧ z.ncells = sz C.P e ∧ 0 < sz C.P e ∧ z.still ∧ es.all (fun v => v.ncells == sz C.P e) then
              some (.tup [], h.upd q g (some ⟨false, .row (es.take o ++ List.replicate n z ++ es.drop (o + n))⟩), c) else none
          | _, _ => none
        | _, _ => none
      | _, _ => none
    | _ => none
  | .call cl => match target C.P ρ cl with
    | some (f, vs) =>
      if C.md f ≤ 1 ∨ C.md f = 4 then
        match valueCall C E h f vs with
        | some (v, ks) => some (v, h.freeze ks, c)
        | none => none
      else if C.md f = 3 then E.callH f vs p h c
      else if C.md f = 2 then
        match E.callH f vs p h c with
        | some (v, h', c') => some (v, h'.erase p, c')
        | none => none
      else if C.md f = 5 then
        match vs, (C.P.funcs[f]?).bind (fun fn => fn.params[0]?) with
        | [x], some t => appendV C.P h p c t .cap0 x t
        | _, _ => none
      else none
    | none => none
  | .next x str => match ρ x, str with
    | .it q g, true => match h q g with
      | some ⟨_, .it s pos⟩ => if pos < s.size then
          some (.tup [.t (.bool true), .t (.int .i64 pos), .t (.int .i32 (Utf8.decode s pos).1)], h.upd q g (some ⟨false, .it s (pos + (Utf8.decode s pos).2)⟩), c)
        else some (.tup [.t (.bool false)], h, c)
      | _ => none
    | _, _ => none
  | _ => none
def storeOp (P : Program) (h : Heap) (ρ : Operand → V) : Op → Option Heap
  | .store t x v => match ρ x with
    | .ref p g i o => match rowW h p g with
      | some es => match es[i]? with
        | some e => if (ρ v).still ∧ (ρ v).ncells = sz P t ∧ (kindT P t).isSome then
            match e.setPart o (ρ v) with
            | some e' => some (h.upd p g (some ⟨false, .row (es.set i e')⟩))
            | none => none
          else none
        | none => none
      | none => none
    | _ => none
  | .insert t m k v => match P.underlying t with
    | some (.map kt e) => match ρ m, ρ k, intT P kt with
      | .mp p g, .t (.int j n), some j' => match h p g with
        | some ⟨false, .mp k' es⟩ => if j = j' ∧ k' = j ∧ (findI n es).isNone ∧ (ρ v).still ∧ (ρ v).ncells = sz P e then some (h.upd p g (some ⟨false, .mp k' (insI n (ρ v) es)⟩)) else none
        | _ => none
      | _, _, _ => none
    | _ => none
  | _ => none

/-- Where a region stands: its function, its number, the first of its own numbers, how many operations, whether it draws, the names' end. -/
structure At where
  F : FuncId
  rid : Nat
  base : Nat
  n : Nat
  dr : Bool
  pre : List Nat

def keyOf : V → Option Key
  | .ref p g _ _ => some (p, g)
  | .own p g _ _ _ => some (p, g)
  | .mp p g => some (p, g)
  | .it p g => some (p, g)
  | _ => none
def Heap.view (h : Heap) (A : At) : Heap := if A.dr then (fun q k => if A.base ≤ k ∧ k < A.base + A.n then none else h q k) else h
/-- All of the memory, told as one. -/
def allKey : Key := ([1000000], 0)
def covers (ks : List Key) (x : Key) : Bool := ks.contains x || ks.contains allKey
def hidden (ts : Tmps) : List Nat → List Key
  | [] => []
  | t :: l => if t = 1000000 then allKey :: hidden ts l else match keyOf (ts t) with
    | some k => k :: hidden ts l
    | none => hidden ts l
def Heap.hide (h : Heap) (ks : List Key) : Heap := if ks.isEmpty then h else fun q k => if covers ks (q, k) then none else h q k
def Heap.unhide (h : Heap) (ks : List Key) (h' : Heap) : Heap := if ks.isEmpty then h' else fun q k => if covers ks (q, k) then h q k else h' q k
def Heap.merge (h : Heap) (A : At) (h' : Heap) : Heap := if A.dr then (fun q k => if A.base ≤ k ∧ k < A.base + A.n then h q k else h' q k) else h'
def hideKs (C : Cfg) (A : At) (i : Nat) (ts : Tmps) : List Key := if A.dr then hidden ts (C.hide A.F A.rid i) else []
def addrOf : Op → Option Operand
  | .load _ x => some x
  | .lookup _ x _ _ => some x
  | .store _ x _ => some x
  | .insert _ x _ _ => some x
  | _ => none
/-- Does what a load reads lie where it was said to lie? -/
def rootOk (C : Cfg) (A : At) (i : Nat) (ts : Tmps) (o : Op) : Bool :=
  if A.dr then
    match C.rt A.F A.rid i, addrOf o with
    | none, _ => true
    | some none, some x => (keyOf (opd ts x)).isNone
    | some (some t), some x => match keyOf (opd ts x), keyOf (ts t) with
      | none, _ => true
      | some k, some k' => k == k'
      | some _, none => false
    | _, none => false
  else true
/-- Within a region that draws, what an operation reads or writes is no block of this region's own, or that of one operation that is told. -/
def ownOk (C : Cfg) (A : At) (i : Nat) (k : Option Key) : Bool :=
  if A.dr then
    match k with
    | some (_, g) => if A.base ≤ g ∧ g < A.base + A.n then C.own A.F A.rid i == some (g - A.base) else true
    | none => true
  else true
def keyAt (ts : Tmps) (o : Op) : Option Key := (addrOf o).bind fun x => keyOf (opd ts x)
def nameOf (A : At) (d : Option Nat) : List Nat := d.getD 0 :: A.pre

def exec (C : Cfg) (E : Env) (A : At) (i : Nat) (o : Oper) (s : St) : Option St :=
  let ρ := opd s.tmps
  match cls C o.op with
  | 0 => match pureOp C.P ρ o.op with
    | some v => some { s with tmps := s.tmps.put o.dst v }
    | none => none
  | 1 => match allocOp C.P ρ o.type o.op with
    | some (ob, mk) => some { s with tmps := s.tmps.put o.dst (mk (nameOf A o.dst) (A.base + i)), heap := s.heap.upd (nameOf A o.dst) (A.base + i) (some ⟨false, ob⟩) }
    | none => none
  | 2 => if rootOk C A i s.tmps o.op && ownOk C A i (keyAt s.tmps o.op) then
      match loadOp C.P s.heap ρ o.op with
      | some v => some { s with tmps := s.tmps.put o.dst v }
      | none => none
    else none
  | 3 => match o.op with
    | .call cl => match target C.P ρ cl with
      | some (f, vs) => match valueCall C E (s.heap.view A) f vs with
        | some (v, ks) => some { s with tmps := s.tmps.put o.dst v, heap := s.heap.merge A ((s.heap.view A).freeze ks) }
        | none => none
      | none => none
    | _ => none
  | 4 => let ks := hideKs C A i s.tmps
    match effOp C E (nameOf A o.dst) ((s.heap.view A).hide ks) s.c ρ o.op with
    | some (v, h', c') => some { tmps := s.tmps.put o.dst v, heap := s.heap.merge A ((s.heap.view A).unhide ks h'), c := c' }
    | none => none
  | 5 => let ks := hideKs C A i s.tmps
    if ownOk C A i (keyAt s.tmps o.op) then
      match storeOp C.P (s.heap.hide ks) ρ o.op with
      | some h' => some { s with tmps := s.tmps.put o.dst .undef, heap := s.heap.unhide ks h' }
      | none => none
    else none
  | _ => none

/-- Is an operation wanted? None: it can't be told. -/
def wants (ops : Array Oper) (o : Oper) (ts : Tmps) : Option Bool :=
  match o.guard with
  | none => some true
  | some (j, b) => match (ops[j]?).bind (·.dst) with
    | some d => match ts d with
      | .t (.bool x) => some (x == b)
      | .undef => some false
      | _ => none
    | none => none
def stepI (C : Cfg) (E : Env) (A : At) (ops : Array Oper) (i : Nat) (o : Oper) (s : St) : Option St :=
  match wants ops o s.tmps with
  | some true => exec C E A i o s
  | some false => some { s with tmps := s.tmps.put o.dst .undef }
  | none => none
def opsRun (C : Cfg) (E : Env) (A : At) (ops : Array Oper) : Nat → List Oper → St → Option St
  | _, [], s => some s
  | i, o :: os, s => match stepI C E A ops i o s with
    | some s => opsRun C E A ops (i + 1) os s
    | none => none

inductive Ex where
  | normal | ret | exit (id : Nat)

def loopN (body : St → Option (Ex × St)) : Nat → St → Option (Ex × St)
  | 0, _ => none
  | n + 1, s => match body s with
    | some (.normal, s) => loopN body n s
    | r => r
def code (C : Cfg) (E : Env) (F : FuncId) (pre : List Nat) (m : Nat) : Code → St → Option (Ex × St)
  | .skip, s => some (.normal, s)
  | .region id ops dr, s => match opsRun C E ⟨F, id, s.c, ops.size, dr, pre⟩ ops 0 ops.toList { s with c := s.c + ops.size } with
    | some s => some (.normal, s)
    | none => none
  | .seq a b, s => match code C E F pre m a s with
    | some (.normal, s) => code C E F pre m b s
    | r => r
  | .cond x a b, s => match opd s.tmps x with
    | .t (.bool true) => code C E F pre m a s
    | .t (.bool false) => code C E F pre m b s
    | _ => none
  | .block id b, s => match code C E F pre m b s with
    | some (.exit i, s) => if i = id then some (.normal, s) else some (.exit i, s)
    | r => r
  | .loop b, s => loopN (code C E F pre m b) m s
  | .exit id, s => some (.exit id, s)
  | .ret, s => some (.ret, s)
  | .label _, s => some (.normal, s)
  | .scope b, s => code C E F pre m b s
  | _, _ => none
/-- Memory in a round of a loop over a function: rows alone, not to be written. -/
def Heap.ro (h : Heap) : Heap := fun p g => match h p g with
  | some ⟨_, .row es⟩ => some ⟨true, .row es⟩
  | _ => none
def Heap.rows (h : Heap) : Heap := fun p g => match h p g with
  | some ⟨fz, .row es⟩ => some ⟨fz, .row es⟩
  | _ => none
def putAll : Tmps → List Nat → List V → Option Tmps
  | ts, [], [] => some ts
  | ts, p :: ps, v :: vs => putAll (ts.upd p v) ps vs
  | _, _, _ => none
def psOk (C : Cfg) (F : FuncId) (ps : Array Nat) : Bool := match C.P.funcs[F]? with
  | some fn => ps.toList.all fun p => Nat.blt p fn.ntmps
  | none => false
/-- A function's own code: loops over functions that come to one round, whose body writes nothing that was there. -/
def codeT (C : Cfg) (E : Env) (F : FuncId) (pre : List Nat) (m : Nat) : Code → St → Option (Ex × St)
  | .seq a b, s => match codeT C E F pre m a s with
    | some (.normal, s) => codeT C E F pre m b s
    | r => r
  | .cond x a b, s => match opd s.tmps x with
    | .t (.bool true) => codeT C E F pre m a s
    | .t (.bool false) => codeT C E F pre m b s
    | _ => none
  | .block id b, s => match codeT C E F pre m b s with
    | some (.exit i, s) => if i = id then some (.normal, s) else some (.exit i, s)
    | r => r
  | .loop b, s => loopN (codeT C E F pre m b) m s
  | .scope b, s => codeT C E F pre m b s
  | .rangeFunc f ps a b, s => match opd s.tmps f with
    | .fn (.func k) [] ca => match C.iter k s.heap ca with
      | some x => if psOk C F ps then match putAll s.tmps ps.toList (x.map .t) with
        | some ts => match code C E F pre m a ⟨ts, s.heap.ro, s.c⟩ with
          | some (.normal, s1) => match code C E F pre m b ⟨s1.tmps, s1.heap.rows, s1.c⟩ with
            | some (.normal, s2) => some (.normal, { s with c := s2.c })
            | _ => none
          | _ => none
        | none => none
        else none
      | none => none
    | _ => none
  | .skip, s => some (.normal, s)
  | .region id ops dr, s => code C E F pre m (.region id ops dr) s
  | .exit id, s => some (.exit id, s)
  | .ret, s => some (.ret, s)
  | .label _, s => some (.normal, s)
  | _, _ => none
def resOne (P : Program) (s : St) : ResultVar → Option V
  | .tmp t => some (s.tmps t)
  | .cell a t => readV P s.heap t (s.tmps a)
def resAll (P : Program) (s : St) : List ResultVar → Option (List V)
  | [] => some []
  | r :: rs => match resOne P s r, resAll P s rs with
    | some v, some vs => some (v :: vs)
    | _, _ => none
def resV (P : Program) (fn : Func) (s : St) : Option V :=
  match resAll P s fn.results.toList with
  | some [v] => some v
  | some vs => some (.tup vs)
  | none => none
def runF (C : Cfg) (E : Env) (m : Nat) (f : FuncId) (vs : List V) (pre : List Nat) (h : Heap) (c : Nat) : Option (V × Heap × Nat) :=
  match C.P.funcs[f]? with
  | some fn => match fn.body with
    | some b => if vs.length ≤ fn.ntmps then
        match codeT C E f pre m b ⟨Tmps.ofList vs, h, c⟩ with
        | some (.normal, s) => (resV C.P fn s).map fun v => (v, s.heap, s.c)
        | some (.ret, s) => (resV C.P fn s).map fun v => (v, s.heap, s.c)
        | _ => none
      else none
    | none => none
  | none => none
/-- Calls, by how deep they may go and how often they may go round. -/
def lev (C : Cfg) : Nat → Env
  | 0 => ⟨fun _ _ => none, fun _ _ _ _ _ => none⟩
  | n + 1 => {
      callT := fun f ts => if C.md f = 4 then C.prim f ts else if C.md f ≤ 1 then
          match runF C (lev C n) n f (ts.map .t) [] Heap.emp 0 with
          | some (v, h, _) => snap h deep v
          | none => none
        else none
      callH := fun f vs pre h c => if C.md f = 2 ∨ C.md f = 3 then runF C (lev C n) n f vs pre h c else none }
end Go.Pv
/- What the evaluator's values stand for in the model's memory; that this stays while memory grows. Conditions: none, definitions and lemmas. -/
namespace Go.Pv

def Sc : Value → Prop
  | .agg _ | .tuple _ => False
  | _ => True
/-- From a place of a block on: these cells. -/
def AtB (w : World) (b o : Nat) (vs : List Value) : Prop :=
  ∃ cs el fz, w.heap[b]? = some (.cells cs el fz) ∧ ∀ j v, vs[j]? = some v → cs[o + j]? = some v
def room (w : World) (b n : Nat) : Prop := ∃ cs el fz, w.heap[b]? = some (.cells cs el fz) ∧ n ≤ cs.size

mutual
def RelT (Φ : Nat → Prop) (w : World) : T → Value → Prop
  | .bool b, v => v = .bool b
  | .int k n, v => v = .int k n
  | .str s, v => v = .string s
  | .vec es, v => ∃ a cap, v = .slice a es.length cap ∧ es.length ≤ cap ∧ (es = [] ∨ ∃ b o sz, a = some ⟨b, o, none⟩ ∧ Φ b ∧ RelRow Φ w b sz es o)
  | .agg cs, v => ∃ vs, v = .agg vs ∧ RelCs Φ w cs vs.toList
  | .tup cs, v => ∃ vs, v = .tuple vs ∧ RelTs Φ w cs vs.toList
  | .fn f fi, v => ∃ vs, v = .func f vs #[] ∧ RelTs Φ w fi vs.toList
  | .iface t x, v => ∃ y, v = .iface t y ∧ RelT Φ w x y
  | .nilptr, v => v = .pointer none
  | .nilfn, v => v = .nilFunc
  | .nilif, v => v = .nilIface
def RelTs (Φ : Nat → Prop) (w : World) : List T → List Value → Prop
  | [], vs => vs = []
  | c :: cs, vs => ∃ v vs', vs = v :: vs' ∧ RelT Φ w c v ∧ RelTs Φ w cs vs'
def RelCs (Φ : Nat → Prop) (w : World) : List T → List Value → Prop
  | [], vs => vs = []
  | c :: cs, vs => ∃ v vs', vs = v :: vs' ∧ RelT Φ w c v ∧ Sc v ∧ RelCs Φ w cs vs'
def RelRow (Φ : Nat → Prop) (w : World) (b sz : Nat) : List T → Nat → Prop
  | [], _ => True
  | e :: es, o => (∃ x, RelT Φ w e x ∧ x.cells.size = sz ∧ (∀ y ∈ x.cells.toList, Sc y) ∧ AtB w b o x.cells.toList) ∧ RelRow Φ w b sz es (o + sz)
end

inductive Loc where
  | virt | blk (b o sz : Nat)
abbrev Mu := List Nat → Nat → Option Loc
structure Ctx where
  Φ : Nat → Prop
  μ : Mu
  u : Nat → Prop
  w : World

mutual
def RelV (X : Ctx) : V → Value → Prop
  | .t x, v => RelT X.Φ X.w x v
  | .ref p g i o, v => X.u g ∧ ∃ a, v = .pointer (some a) ∧ ∀ b o' sz, X.μ p g = some (.blk b o' sz) → a = ⟨b, o' + i * sz + o, none⟩
  | .vref y o, v => ∃ b o', v = .pointer (some ⟨b, o' + o, none⟩) ∧ X.Φ b ∧ ∃ x, RelV X y x ∧ (∀ z ∈ x.cells.toList, Sc z) ∧ AtB X.w b o' x.cells.toList
  | .own p g o n s, v => X.u g ∧ ∃ a cap, v = .slice a n cap ∧ n ≤ cap ∧ (0 < n → ∃ ad, a = some ad) ∧
      (X.μ p g = some .virt → cap = 0) ∧ ∀ b o' sz, X.μ p g = some (.blk b o' sz) → sz = s ∧ (cap = 0 ∨ (a = some ⟨b, o' + o * sz, none⟩ ∧ room X.w b (o' + (o + cap) * sz)))
  | .cap0, v => ∃ a, v = .slice a 0 0
  | .vec es, v => ∃ a, v = .slice a es.length es.length ∧ (es = [] ∨ ∃ b o sz, a = some ⟨b, o, none⟩ ∧ X.Φ b ∧ RowV X b sz es o)
  | .agg cs, v => ∃ vs, v = .agg vs ∧ RelCsV X cs vs.toList
  | .tup cs, v => ∃ vs, v = .tuple vs ∧ RelVs X cs vs.toList
  | .fn f fi ca, v => ∃ a b, v = .func f a b ∧ RelVs X fi a.toList ∧ RelVs X ca b.toList
  | .mp p g, v => X.u g ∧ ∃ r, v = .map (some r) ∧ ∀ b o sz, X.μ p g = some (.blk b o sz) → r = b
  | .it p g, v => X.u g ∧ ∃ r sp, v = .pointer (some ⟨r, 0, sp⟩) ∧ ∀ b o sz, X.μ p g = some (.blk b o sz) → r = b
  | .undef, v => v = Go.undef
  | .junk, _ => True
def RelVs (X : Ctx) : List V → List Value → Prop
  | [], vs => vs = []
  | c :: cs, vs => ∃ v vs', vs = v :: vs' ∧ RelV X c v ∧ RelVs X cs vs'
def RelCsV (X : Ctx) : List V → List Value → Prop
  | [], vs => vs = []
  | c :: cs, vs => ∃ v vs', vs = v :: vs' ∧ RelV X c v ∧ Sc v ∧ RelCsV X cs vs'
def RowV (X : Ctx) (b sz : Nat) : List V → Nat → Prop
  | [], _ => True
  | e :: es, o => (∃ x, RelV X e x ∧ e.still = true ∧ x.cells.size = sz ∧ (∀ y ∈ x.cells.toList, Sc y) ∧ AtB X.w b o x.cells.toList) ∧ RowV X b sz es (o + sz)
end

/-- A map's entries. -/
def MapRel (X : Ctx) (es : List (Int × V)) (k : IntKind) (l : List MapEntry) : Prop :=
  (∀ e : MapEntry, e ∈ l → ∃ n, e.key = .int k n) ∧
  ∀ n, match findI n es with
    | some v => ∃ (e : MapEntry) (i : Nat), l[i]? = some e ∧ e.key = .int k n ∧ (∀ j, j < i → ∀ e' : MapEntry, l[j]? = some e' → e'.key ≠ .int k n) ∧ RelV X v e.val
    | none => ∀ e : MapEntry, e ∈ l → e.key ≠ .int k n

def ObRel (X : Ctx) (B : Nat) (l : Option Loc) (ob : Ob) : Prop :=
  match ob.o, l with
  | .row es, some .virt => es = []
  | .row es, some (.blk b o sz) => room X.w b (o + es.length * sz) ∧ B ≤ b ∧ (X.Φ b → ob.fz = true) ∧ RowV X b sz es o ∧
      ∃ cs el f, X.w.heap[b]? = some (.cells cs el f) ∧ (ob.fz = false → ∀ j, j < cs.size → ¬ (f.1 ≤ j ∧ j < f.2))
  | .mp k es, some (.blk b _ _) => B ≤ b ∧ ¬ X.Φ b ∧ ∃ l clock, X.w.heap[b]? = some (.map l clock) ∧ MapRel X es k l.toList
  | .it s pos, some (.blk b _ _) => B ≤ b ∧ ¬ X.Φ b ∧ X.w.heap[b]? = some (.stringIter s pos)
  | _, _ => False

structure HRel (X : Ctx) (B : Nat) (h : Heap) : Prop where
  ob : ∀ p g x, h p g = some x → X.u g ∧ ObRel X B (X.μ p g) x
  inj : ∀ p g x p' g' x' b o s o' s', h p g = some x → h p' g' = some x' → X.μ p g = some (.blk b o s) → X.μ p' g' = some (.blk b o' s') → p = p' ∧ g = g'
  old : ∀ b, X.Φ b → b < X.w.heap.size
  base : B ≤ X.w.heap.size

/-- Memory has grown, and what was frozen stays. -/
structure Ext (X Y : Ctx) : Prop where
  Φ : ∀ b, X.Φ b → Y.Φ b
  u : ∀ g, X.u g → Y.u g
  μ : ∀ p g, X.u g → Y.μ p g = X.μ p g
  same : ∀ b, X.Φ b → Y.w.heap[b]? = X.w.heap[b]?
  room : ∀ b n, room X.w b n → room Y.w b n

theorem Ext.refl (X : Ctx) : Ext X X := ⟨fun _ h => h, fun _ h => h, fun _ _ _ => rfl, fun _ _ => rfl, fun _ _ h => h⟩
theorem Ext.trans {X Y Z : Ctx} (h : Ext X Y) (k : Ext Y Z) : Ext X Z :=
  ⟨fun b hb => k.Φ b (h.Φ b hb), fun g hg => k.u g (h.u g hg), fun p g hg => (k.μ p g (h.u g hg)).trans (h.μ p g hg),
    fun b hb => (k.same b (h.Φ b hb)).trans (h.same b hb), fun b n hr => k.room b n (h.room b n hr)⟩

theorem AtB.of_same {w w' : World} {b o : Nat} {vs : List Value} (h : AtB w b o vs) (hs : w'.heap[b]? = w.heap[b]?) : AtB w' b o vs := by
  obtain ⟨cs, el, fz, h1, h2⟩ := h
  exact ⟨cs, el, fz, hs.trans h1, h2⟩

section
variable {Φ Ψ : Nat → Prop} {w w' : World} (hΦ : ∀ b, Φ b → Ψ b) (hw : ∀ b, Φ b → w'.heap[b]? = w.heap[b]?)
include hΦ hw
mutual
theorem RelT.mono : ∀ (t : T) (v : Value), RelT Φ w t v → RelT Ψ w' t v
  | .bool _, _, h => (fun _ => h) hw
  | .int _ _, _, h => h
  | .str _, _, h => h
  | .vec es, v, h => by
    simp only [RelT] at h ⊢
    obtain ⟨a, cap, hv, hc, h⟩ := h
    refine ⟨a, cap, hv, hc, h.imp id ?_⟩
    rintro ⟨b, o, sz, ha, hb, hr⟩
    exact ⟨b, o, sz, ha, hΦ b hb, RelRow.mono b sz hb es o hr⟩
  | .agg cs, v, h => by
    simp only [RelT] at h ⊢
    obtain ⟨vs, hv, h⟩ := h
    exact ⟨vs, hv, RelCs.mono cs _ h⟩
  | .tup cs, v, h => by
    simp only [RelT] at h ⊢
    obtain ⟨vs, hv, h⟩ := h
    exact ⟨vs, hv, RelTs.mono cs _ h⟩
  | .fn f fi, v, h => by
    simp only [RelT] at h ⊢
    obtain ⟨vs, hv, h⟩ := h
    exact ⟨vs, hv, RelTs.mono fi _ h⟩
  | .iface t x, v, h => by
    simp only [RelT] at h ⊢
    obtain ⟨y, hv, h⟩ := h
    exact ⟨y, hv, RelT.mono x y h⟩
  | .nilptr, _, h => h
  | .nilfn, _, h => h
  | .nilif, _, h => h
theorem RelTs.mono : ∀ (ts : List T) (vs : List Value), RelTs Φ w ts vs → RelTs Ψ w' ts vs
  | [], _, h => (fun _ _ => h) hΦ hw
  | t :: ts, vs, h => by
    simp only [RelTs] at h ⊢
    obtain ⟨v, vs', hv, h1, h2⟩ := h
    exact ⟨v, vs', hv, RelT.mono t v h1, RelTs.mono ts vs' h2⟩
theorem RelCs.mono : ∀ (ts : List T) (vs : List Value), RelCs Φ w ts vs → RelCs Ψ w' ts vs
  | [], _, h => (fun _ _ => h) hΦ hw
  | t :: ts, vs, h => by
    simp only [RelCs] at h ⊢
    obtain ⟨v, vs', hv, h1, h2, h3⟩ := h
    exact ⟨v, vs', hv, RelT.mono t v h1, h2, RelCs.mono ts vs' h3⟩
theorem RelRow.mono (b sz : Nat) (hb : Φ b) : ∀ (ts : List T) (o : Nat), RelRow Φ w b sz ts o → RelRow Ψ w' b sz ts o
  | [], _, h => (fun _ => h) hΦ
  | t :: ts, o, h => by
    simp only [RelRow] at h ⊢
    obtain ⟨⟨x, h1, h2, h3, h4⟩, h5⟩ := h
    exact ⟨⟨x, RelT.mono t x h1, h2, h3, h4.of_same (hw b hb)⟩, RelRow.mono b sz hb ts _ h5⟩
end
end

section
variable {X Y : Ctx} (hX : Ext X Y)
include hX
mutual
theorem RelV.mono : ∀ (t : V) (v : Value), RelV X t v → RelV Y t v
  | .t x, v, h => by simp only [RelV] at h ⊢; exact RelT.mono hX.Φ hX.same x v h
  | .ref p g i o, v, h => by
    simp only [RelV] at h ⊢
    obtain ⟨hg, a, hv, h⟩ := h
    exact ⟨hX.u g hg, a, hv, fun b o' sz hm => h b o' sz ((hX.μ p g hg).symm.trans hm)⟩
  | .vref y o, v, h => by
    simp only [RelV] at h ⊢
    obtain ⟨b, o', hv, hb, x, h1, h2, h3⟩ := h
    exact ⟨b, o', hv, hX.Φ b hb, x, RelV.mono y x h1, h2, h3.of_same (hX.same b hb)⟩
  | .own p g o n s, v, h => by
    simp only [RelV] at h ⊢
    obtain ⟨hg, a, cap, hv, hn, h0, h1, h2⟩ := h
    refine ⟨hX.u g hg, a, cap, hv, hn, h0, fun hm => h1 ((hX.μ p g hg).symm.trans hm), fun b o' sz hm => ?_⟩
    obtain ⟨q0, h2⟩ := h2 b o' sz ((hX.μ p g hg).symm.trans hm)
    exact ⟨q0, h2.imp id fun ⟨q, r⟩ => ⟨q, hX.room _ _ r⟩⟩
  | .cap0, _, h => by simp only [RelV] at h ⊢; exact h
  | .vec es, v, h => by
    simp only [RelV] at h ⊢
    obtain ⟨a, hv, h⟩ := h
    refine ⟨a, hv, h.imp id ?_⟩
    rintro ⟨b, o, sz, ha, hb, hr⟩
    exact ⟨b, o, sz, ha, hX.Φ b hb, RowV.mono b sz (hX.same b hb) es o hr⟩
  | .agg cs, v, h => by
    simp only [RelV] at h ⊢
    obtain ⟨vs, hv, h⟩ := h
    exact ⟨vs, hv, RelCsV.mono cs _ h⟩
  | .tup cs, v, h => by
    simp only [RelV] at h ⊢
    obtain ⟨vs, hv, h⟩ := h
    exact ⟨vs, hv, RelVs.mono cs _ h⟩
  | .fn f fi ca, v, h => by
    simp only [RelV] at h ⊢
    obtain ⟨a, b, hv, h1, h2⟩ := h
    exact ⟨a, b, hv, RelVs.mono fi _ h1, RelVs.mono ca _ h2⟩
  | .mp p g, v, h => by
    simp only [RelV] at h ⊢
    obtain ⟨hg, r, hv, h⟩ := h
    exact ⟨hX.u g hg, r, hv, fun b o sz hm => h b o sz ((hX.μ p g hg).symm.trans hm)⟩
  | .it p g, v, h => by
    simp only [RelV] at h ⊢
    obtain ⟨hg, r, sp, hv, h⟩ := h
    exact ⟨hX.u g hg, r, sp, hv, fun b o sz hm => h b o sz ((hX.μ p g hg).symm.trans hm)⟩
  | .undef, _, h => by simp only [RelV] at h ⊢; exact h
  | .junk, _, _ => by simp only [RelV]
theorem RelVs.mono : ∀ (ts : List V) (vs : List Value), RelVs X ts vs → RelVs Y ts vs
  | [], _, h => (fun _ => h) hX
  | t :: ts, vs, h => by
    simp only [RelVs] at h ⊢
    obtain ⟨v, vs', hv, h1, h2⟩ := h
    exact ⟨v, vs', hv, RelV.mono t v h1, RelVs.mono ts vs' h2⟩
theorem RelCsV.mono : ∀ (ts : List V) (vs : List Value), RelCsV X ts vs → RelCsV Y ts vs
  | [], _, h => (fun _ => h) hX
  | t :: ts, vs, h => by
    simp only [RelCsV] at h ⊢
    obtain ⟨v, vs', hv, h1, h2, h3⟩ := h
    exact ⟨v, vs', hv, RelV.mono t v h1, h2, RelCsV.mono ts vs' h3⟩
theorem RowV.mono (b sz : Nat) (hb : Y.w.heap[b]? = X.w.heap[b]?) : ∀ (ts : List V) (o : Nat), RowV X b sz ts o → RowV Y b sz ts o
  | [], _, h => (fun _ => h) hX
  | t :: ts, o, h => by
    simp only [RowV] at h ⊢
    obtain ⟨⟨x, h1, h0, h2, h3, h4⟩, h5⟩ := h
    exact ⟨⟨x, RelV.mono t x h1, h0, h2, h3, h4.of_same hb⟩, RowV.mono b sz hb ts _ h5⟩
end
end
end Go.Pv
/- Reading and writing cells of the model's memory, and what it does to the values' meaning. Conditions: as each lemma says. -/
namespace Go.Pv

theorem add_eq (b o n : Nat) : (⟨b, o, none⟩ : Addr).add n = ⟨b, o + n, none⟩ := by
  unfold Addr.add
  split
  · next h => subst h; rfl
  · rfl

theorem cell_of {w : World} {b o : Nat} {cs : Array Value} {el : TypeId} {f : Nat × Nat} (h : w.heap[b]? = some (.cells cs el f)) :
    w.cell? ⟨b, o, none⟩ = cs[o]? := by simp [World.cell?, h]

theorem run_bind {α β : Type} (P : Program) : ∀ (s : Sem α) (k : α → Sem β) (w : World), (s >>= k).run P w = match s.run P w with
    | .ok a w' => (k a).run P w'
    | .halt x w' => .halt x w' := by
  intro s k
  show ∀ w, (s.bind k).run P w = _
  induction s with
  | pure a => intro w; rfl
  | load m a k' ih =>
    intro w; simp only [Sem.bind, Sem.run]
    split
    · exact ih _ _
    · split
      · exact ih _ _
      · rfl
  | store m a v k' ih =>
    intro w; simp only [Sem.bind]
    cases v <;> simp only [Sem.run] <;> first
      | rfl
      | (split
         · split
           · rfl
           · exact ih _
         · split
           · exact ih _
           · rfl)
  | new o k' ih => intro w; simp only [Sem.bind, Sem.run]; exact ih _ _
  | shape r k' ih => intro w; simp only [Sem.bind, Sem.run]; exact ih _ _
  | freeze a n k' ih => intro w; simp only [Sem.bind, Sem.run]; exact ih _
  | frozen a k' ih => intro w; simp only [Sem.bind, Sem.run]; exact ih _ _
  | getObj r k' ih =>
    intro w; simp only [Sem.bind, Sem.run]
    split
    · rfl
    · exact ih _ _
    · rfl
  | setObj r o k' ih =>
    intro w; simp only [Sem.bind, Sem.run]
    split
    · rfl
    · exact ih _
    · rfl
  | choose q k' ih =>
    intro w; simp only [Sem.bind, Sem.run]
    split <;> exact ih _ _
  | sys c k' ih => intro w; simp only [Sem.bind, Sem.run]; exact ih _ _
  | program k' ih => intro w; simp only [Sem.bind, Sem.run]; exact ih _ _
  | mark m k' ih => intro w; simp only [Sem.bind, Sem.run]; exact ih _
  | halt x => intro w; rfl
theorem run_pure {α : Type} (P : Program) (a : α) (w : World) : (pure a : Sem α).run P w = .ok a w := rfl

theorem run_loadCellsFrom (P : Program) (w : World) (b o : Nat) : ∀ (vs : List Value) (i : Nat) (acc : Array Value),
    AtB w b (o + i) vs → (loadCellsFrom ⟨b, o, none⟩ i vs.length acc).run P w = .ok (acc ++ vs.toArray) w := by
  intro vs
  induction vs with
  | nil => intro i acc _; simp [loadCellsFrom, run_pure]
  | cons v vs ih =>
    intro i acc h
    obtain ⟨cs, el, f, hb, hc⟩ := h
    have h0 : cs[o + i]? = some v := by have := hc 0 v rfl; simpa using this
    have hl : (load ((⟨b, o, none⟩ : Addr).add i)).run P w = .ok v w := by
      simp [load, Sem.run, add_eq, cell_of hb, h0]
    simp only [List.length_cons, loadCellsFrom, run_bind, hl]
    rw [ih (i + 1) (acc.push v) ⟨cs, el, f, hb, fun j x hj => by have := hc (j + 1) x (by simpa using hj); rw [show o + (i + 1) + j = o + i + (j + 1) from by omega]; exact this⟩]
    simp
theorem run_loadCells (P : Program) (w : World) (b o : Nat) (vs : List Value) (h : AtB w b o vs) :
    (loadCells ⟨b, o, none⟩ vs.length).run P w = .ok vs.toArray w := by
  have := run_loadCellsFrom P w b o vs 0 #[] (by simpa using h)
  simpa [loadCells] using this

theorem run_underlying {P : Program} {w : World} {t : TypeId} {d : TypeDesc} (h : P.underlying t = some d) : (underlying t).run P w = .ok d w := by
  simp [underlying, run_bind, program, Sem.run, h, run_pure]
theorem info_of {P : Program} {t : TypeId} {d : TypeDesc} (h : P.underlying t = some d) : ∃ i, P.info? t = some i := by
  unfold Program.underlying at h
  cases hi : P.info? t with
  | none => simp [hi] at h
  | some i => exact ⟨i, rfl⟩
theorem run_sizeOf {P : Program} {w : World} {t : TypeId} {i : TypeInfo} (h : P.info? t = some i) : (sizeOf t).run P w = .ok (sz P t) w := by
  simp [sizeOf, typeInfo, run_bind, program, Sem.run, h, run_pure, sz, Program.cellsOf]
theorem kind_info {P : Program} {t : TypeId} {b : Bool} (h : kindT P t = some b) : (∃ d, P.underlying t = some d) ∧ ∃ i, P.info? t = some i := by
  unfold kindT at h
  cases hu : P.underlying t with
  | none => rw [hu] at h; cases h
  | some d => exact ⟨⟨d, rfl⟩, info_of hu⟩
theorem run_isAgg {P : Program} {w : World} {t : TypeId} {b : Bool} (h : kindT P t = some b) : (isAgg t).run P w = .ok b w := by
  unfold kindT at h
  cases hu : P.underlying t with
  | none => rw [hu] at h; cases h
  | some d =>
    rw [hu] at h
    simp only [isAgg, run_bind, run_underlying hu]
    cases d <;> simp_all [run_pure]

theorem run_loadVar_agg {P : Program} {w : World} {t : TypeId} {b o : Nat} {vs : List Value} (hk : kindT P t = some true) (hn : vs.length = sz P t) (h : AtB w b o vs) :
    (loadVar t ⟨b, o, none⟩).run P w = .ok (.agg vs.toArray) w := by
  obtain ⟨_, i, hi⟩ := kind_info hk
  simp only [loadVar, run_bind, run_isAgg hk, if_true, run_sizeOf hi, ← hn, run_loadCells P w b o vs h, run_pure]
theorem run_loadVar_one {P : Program} {w : World} {t : TypeId} {b o : Nat} {v : Value} (hk : kindT P t = some false) (h : AtB w b o [v]) :
    (loadVar t ⟨b, o, none⟩).run P w = .ok v w := by
  obtain ⟨cs, el, f, hb, hc⟩ := h
  have h0 : cs[o]? = some v := by have := hc 0 v rfl; simpa using this
  simp [loadVar, run_bind, run_isAgg hk, load, Sem.run, cell_of hb, h0]

/-! What a value's cells are. -/
theorem relCs_len {Φ : Nat → Prop} {w : World} : ∀ {ts : List T} {vs : List Value}, RelCs Φ w ts vs → vs.length = ts.length
  | [], _, h => by simp only [RelCs] at h; subst h; rfl
  | t :: ts, vs, h => by
    simp only [RelCs] at h
    obtain ⟨v, vs', rfl, _, _, h⟩ := h
    simp [relCs_len h]
theorem relCs_sc {Φ : Nat → Prop} {w : World} : ∀ {ts : List T} {vs : List Value}, RelCs Φ w ts vs → ∀ v ∈ vs, Sc v
  | [], _, h => by simp only [RelCs] at h; subst h; simp
  | t :: ts, vs, h => by
    simp only [RelCs] at h
    obtain ⟨v, vs', rfl, _, hs, h⟩ := h
    intro x hx
    rcases List.mem_cons.1 hx with rfl | hx
    · exact hs
    · exact relCs_sc h x hx
theorem relCsV_len {X : Ctx} : ∀ {ts : List V} {vs : List Value}, RelCsV X ts vs → vs.length = ts.length
  | [], _, h => by simp only [RelCsV] at h; subst h; rfl
  | t :: ts, vs, h => by
    simp only [RelCsV] at h
    obtain ⟨v, vs', rfl, _, _, h⟩ := h
    simp [relCsV_len h]
theorem relCsV_sc {X : Ctx} : ∀ {ts : List V} {vs : List Value}, RelCsV X ts vs → ∀ v ∈ vs, Sc v
  | [], _, h => by simp only [RelCsV] at h; subst h; simp
  | t :: ts, vs, h => by
    simp only [RelCsV] at h
    obtain ⟨v, vs', rfl, _, hs, h⟩ := h
    intro x hx
    rcases List.mem_cons.1 hx with rfl | hx
    · exact hs
    · exact relCsV_sc h x hx
theorem relCs_map {X : Ctx} : ∀ {ts : List T} {vs : List Value}, RelCs X.Φ X.w ts vs → RelCsV X (ts.map .t) vs
  | [], _, h => by simp only [RelCs] at h; subst h; simp [RelCsV]
  | t :: ts, vs, h => by
    simp only [RelCs] at h
    obtain ⟨v, vs', rfl, h1, hs, h⟩ := h
    exact ⟨v, vs', rfl, by simpa [RelV] using h1, hs, relCs_map h⟩
theorem relCsV_get {X : Ctx} : ∀ {ts : List V} {vs : List Value} {i : Nat} {t : V}, RelCsV X ts vs → ts[i]? = some t → ∃ v, vs[i]? = some v ∧ RelV X t v ∧ Sc v
  | [], _, _, _, _, hi => by simp at hi
  | t :: ts, vs, i, t', h, hi => by
    simp only [RelCsV] at h
    obtain ⟨v, vs', rfl, h1, hs, h⟩ := h
    cases i with
    | zero => simp at hi; subst hi; exact ⟨v, rfl, h1, hs⟩
    | succ i => exact relCsV_get (ts := ts) (i := i) h (by simpa using hi)
theorem relCsV_append {X : Ctx} : ∀ {ts us : List V} {vs ws : List Value}, RelCsV X ts vs → RelCsV X us ws → RelCsV X (ts ++ us) (vs ++ ws)
  | [], _, _, _, h, k => by simp only [RelCsV] at h; subst h; simpa using k
  | t :: ts, us, vs, ws, h, k => by
    simp only [RelCsV] at h
    obtain ⟨v, vs', rfl, h1, hs, h⟩ := h
    exact ⟨v, vs' ++ ws, rfl, h1, hs, relCsV_append h k⟩
theorem relCsV_drop {X : Ctx} : ∀ (n : Nat) {ts : List V} {vs : List Value}, RelCsV X ts vs → RelCsV X (ts.drop n) (vs.drop n)
  | 0, _, _, h => h
  | n + 1, [], _, h => by simp only [RelCsV] at h; subst h; simp [RelCsV]
  | n + 1, t :: ts, vs, h => by
    simp only [RelCsV] at h
    obtain ⟨v, vs', rfl, h1, hs, h⟩ := h
    simpa using relCsV_drop n h
theorem relCsV_take {X : Ctx} : ∀ (n : Nat) {ts : List V} {vs : List Value}, RelCsV X ts vs → RelCsV X (ts.take n) (vs.take n)
  | 0, _, _, _ => by simp [RelCsV]
  | n + 1, [], _, h => by simp only [RelCsV] at h; subst h; simp [RelCsV]
  | n + 1, t :: ts, vs, h => by
    simp only [RelCsV] at h
    obtain ⟨v, vs', rfl, h1, hs, h⟩ := h
    exact ⟨v, vs'.take n, rfl, h1, hs, relCsV_take n h⟩
theorem relCs_drop {Φ : Nat → Prop} {w : World} : ∀ (n : Nat) {ts : List T} {vs : List Value}, RelCs Φ w ts vs → RelCs Φ w (ts.drop n) (vs.drop n)
  | 0, _, _, h => h
  | n + 1, [], _, h => by simp only [RelCs] at h; subst h; simp [RelCs]
  | n + 1, t :: ts, vs, h => by
    simp only [RelCs] at h
    obtain ⟨v, vs', rfl, h1, hs, h⟩ := h
    simpa using relCs_drop n h
theorem relCs_take {Φ : Nat → Prop} {w : World} : ∀ (n : Nat) {ts : List T} {vs : List Value}, RelCs Φ w ts vs → RelCs Φ w (ts.take n) (vs.take n)
  | 0, _, _, _ => by simp [RelCs]
  | n + 1, [], _, h => by simp only [RelCs] at h; subst h; simp [RelCs]
  | n + 1, t :: ts, vs, h => by
    simp only [RelCs] at h
    obtain ⟨v, vs', rfl, h1, hs, h⟩ := h
    exact ⟨v, vs'.take n, rfl, h1, hs, relCs_take n h⟩
theorem relCs_get {Φ : Nat → Prop} {w : World} : ∀ {ts : List T} {vs : List Value} {i : Nat} {t : T}, RelCs Φ w ts vs → ts[i]? = some t → ∃ v, vs[i]? = some v ∧ RelT Φ w t v ∧ Sc v
  | [], _, _, _, _, hi => by simp at hi
  | t :: ts, vs, i, t', h, hi => by
    simp only [RelCs] at h
    obtain ⟨v, vs', rfl, h1, hs, h⟩ := h
    cases i with
    | zero => simp at hi; subst hi; exact ⟨v, rfl, h1, hs⟩
    | succ i => exact relCs_get (ts := ts) (i := i) h (by simpa using hi)

/-- A still value's cells: so many, each of one cell, each as the value says. -/
theorem cells_rel {X : Ctx} {v : V} {x : Value} (h : RelV X v x) (hs : v.still = true) : RelCsV X v.cells x.cells.toList := by
  cases v with
  | t y =>
    simp only [RelV] at h
    cases y <;> simp only [RelT, V.still, T.still] at h hs <;> first
      | (obtain ⟨vs, rfl, h⟩ := h; exact relCs_map h)
      | (subst h; exact ⟨_, [], rfl, by simp [RelV, RelT], trivial, rfl⟩)
      | skip
    case vec es =>
      obtain ⟨a, cap, rfl, h⟩ := h
      exact ⟨_, [], rfl, by simp only [RelV, RelT]; exact ⟨a, cap, rfl, h⟩, trivial, rfl⟩
    case tup => cases hs
    case fn f fi =>
      obtain ⟨vs, rfl, h⟩ := h
      exact ⟨_, [], rfl, by simp only [RelV, RelT]; exact ⟨vs, rfl, h⟩, trivial, rfl⟩
    case iface t y =>
      obtain ⟨z, rfl, h⟩ := h
      exact ⟨_, [], rfl, by simp only [RelV, RelT]; exact ⟨z, rfl, h⟩, trivial, rfl⟩
  | agg cs => simp only [RelV] at h; obtain ⟨vs, rfl, h⟩ := h; exact h
  | tup cs => cases hs
  | undef => cases hs
  | junk => cases hs
  | ref p g i o =>
    have h' := h
    simp only [RelV] at h
    obtain ⟨_, a, rfl, _⟩ := h
    exact ⟨_, [], rfl, h', trivial, rfl⟩
  | vref y o =>
    have h' := h
    simp only [RelV] at h
    obtain ⟨b, o', rfl, _⟩ := h
    exact ⟨_, [], rfl, h', trivial, rfl⟩
  | own p g o n s =>
    have h' := h
    simp only [RelV] at h
    obtain ⟨_, a, cap, rfl, _⟩ := h
    exact ⟨_, [], rfl, h', trivial, rfl⟩
  | cap0 =>
    have h' := h
    simp only [RelV] at h
    obtain ⟨a, rfl⟩ := h
    exact ⟨_, [], rfl, h', trivial, rfl⟩
  | vec es =>
    have h' := h
    simp only [RelV] at h
    obtain ⟨a, rfl, _⟩ := h
    exact ⟨_, [], rfl, h', trivial, rfl⟩
  | fn f fi ca =>
    have h' := h
    simp only [RelV] at h
    obtain ⟨a, b, rfl, _⟩ := h
    exact ⟨_, [], rfl, h', trivial, rfl⟩
  | mp p g =>
    have h' := h
    simp only [RelV] at h
    obtain ⟨_, r, rfl, _⟩ := h
    exact ⟨_, [], rfl, h', trivial, rfl⟩
  | it p g =>
    have h' := h
    simp only [RelV] at h
    obtain ⟨_, r, sp, rfl, _⟩ := h
    exact ⟨_, [], rfl, h', trivial, rfl⟩
theorem cells_len (v : V) : v.cells.length = v.ncells := by
  cases v with
  | t y => cases y <;> simp [V.cells, V.ncells, T.cells, T.ncells]
  | _ => simp [V.cells, V.ncells]
theorem size_rel {X : Ctx} {v : V} {x : Value} (h : RelV X v x) (hs : v.still = true) : x.cells.size = v.ncells := by
  have := relCsV_len (cells_rel h hs)
  rw [cells_len] at this
  simpa using this
end Go.Pv
/- Rows of elements, parts of a value, stores into a block. Conditions: as each lemma says. -/
namespace Go.Pv

theorem rowV_get {X : Ctx} {b sz : Nat} : ∀ {es : List V} {o i : Nat} {e : V}, RowV X b sz es o → es[i]? = some e →
    ∃ x, RelV X e x ∧ e.still = true ∧ x.cells.size = sz ∧ (∀ y ∈ x.cells.toList, Sc y) ∧ AtB X.w b (o + i * sz) x.cells.toList
  | [], _, _, _, _, hi => by simp at hi
  | e :: es, o, i, e', h, hi => by
    simp only [RowV] at h
    obtain ⟨⟨x, h1, h2, h3, h4, h5⟩, h⟩ := h
    cases i with
    | zero => simp at hi; subst hi; exact ⟨x, h1, h2, h3, h4, by simpa using h5⟩
    | succ i =>
      have := rowV_get (es := es) (i := i) h (by simpa using hi)
      rw [show o + (i + 1) * sz = o + sz + i * sz from by rw [Nat.succ_mul]; omega]
      exact this
theorem relRow_get {Φ : Nat → Prop} {w : World} {b sz : Nat} : ∀ {es : List T} {o i : Nat} {e : T}, RelRow Φ w b sz es o → es[i]? = some e →
    ∃ x, RelT Φ w e x ∧ x.cells.size = sz ∧ (∀ y ∈ x.cells.toList, Sc y) ∧ AtB w b (o + i * sz) x.cells.toList
  | [], _, _, _, _, hi => by simp at hi
  | e :: es, o, i, e', h, hi => by
    simp only [RelRow] at h
    obtain ⟨⟨x, h1, h3, h4, h5⟩, h⟩ := h
    cases i with
    | zero => simp at hi; subst hi; exact ⟨x, h1, h3, h4, by simpa using h5⟩
    | succ i =>
      have := relRow_get (es := es) (i := i) h (by simpa using hi)
      rw [show o + (i + 1) * sz = o + sz + i * sz from by rw [Nat.succ_mul]; omega]
      exact this
theorem AtB.sub {w : World} {b o : Nat} {vs : List Value} (h : AtB w b o vs) (k n : Nat) : AtB w b (o + k) ((vs.drop k).take n) := by
  obtain ⟨cs, el, f, hb, hc⟩ := h
  refine ⟨cs, el, f, hb, fun j v hj => ?_⟩
  rw [List.getElem?_take] at hj
  split at hj
  · rw [List.getElem?_drop] at hj
    have := hc _ v hj
    rw [show o + k + j = o + (k + j) from by omega]; exact this
  · cases hj
theorem AtB.one {w : World} {b o : Nat} {vs : List Value} (h : AtB w b o vs) {k : Nat} {v : Value} (hk : vs[k]? = some v) : AtB w b (o + k) [v] := by
  obtain ⟨cs, el, f, hb, hc⟩ := h
  refine ⟨cs, el, f, hb, fun j x hj => ?_⟩
  cases j with
  | zero => simp at hj; subst hj; have := hc _ v hk; simpa using this
  | succ j => simp at hj

theorem T.cell_rel {Φ : Nat → Prop} {w : World} {y r : T} {x : Value} (h : RelT Φ w y x) {o : Nat} (hr : y.cell o = some r) : ∃ z, x.cells.toList[o]? = some z ∧ RelT Φ w r z := by
  cases y with
  | agg cs =>
    simp only [RelT] at h
    obtain ⟨vs, rfl, h⟩ := h
    obtain ⟨v, h1, h2, _⟩ := relCs_get h (show cs[o]? = some r from hr)
    exact ⟨v, h1, h2⟩
  | _ =>
    cases o with
    | succ o => simp [T.cell] at hr
    | zero =>
      simp only [T.cell, Option.some.injEq] at hr
      subst hr
      first
        | (have h' := h; simp only [RelT] at h; subst h; exact ⟨_, rfl, h'⟩)
        | (have h' := h; simp only [RelT] at h; obtain ⟨a, cap, rfl, _⟩ := h; exact ⟨_, rfl, h'⟩)
        | (have h' := h; simp only [RelT] at h; obtain ⟨a, rfl, _⟩ := h; exact ⟨_, rfl, h'⟩)
theorem V.cell_scalar {X : Ctx} {v : V} {x : Value} (h : RelV X v x) (hs : v.still = true) (hn : v.isAgg = false) : x.cells.toList = [x] := by
  cases v with
  | t y =>
    simp only [RelV] at h
    cases y <;> simp only [RelT] at h <;> first
      | (subst h; rfl)
      | (obtain ⟨a, cap, rfl, _⟩ := h; rfl)
      | (cases hn; done)
      | (cases hs; done)
      | (obtain ⟨a, rfl, _⟩ := h; rfl)
  | agg cs => cases hn
  | tup cs => cases hs
  | undef => cases hs
  | junk => cases hs
  | ref p g i o => simp only [RelV] at h; obtain ⟨_, a, rfl, _⟩ := h; rfl
  | vref y o => simp only [RelV] at h; obtain ⟨b, o', rfl, _⟩ := h; rfl
  | own p g o n s => simp only [RelV] at h; obtain ⟨_, a, cap, rfl, _⟩ := h; rfl
  | cap0 => simp only [RelV] at h; obtain ⟨a, rfl⟩ := h; rfl
  | vec es => simp only [RelV] at h; obtain ⟨a, rfl, _⟩ := h; rfl
  | fn f fi ca => simp only [RelV] at h; obtain ⟨a, b, rfl, _⟩ := h; rfl
  | mp p g => simp only [RelV] at h; obtain ⟨_, r, rfl, _⟩ := h; rfl
  | it p g => simp only [RelV] at h; obtain ⟨_, r, sp, rfl, _⟩ := h; rfl

/-- A part of an aggregate: what the model's 'part' would give. -/
theorem sub_rel {X : Ctx} {e r : V} {x : Value} {o n : Nat} (h : RelV X e x)
    (hr : e.sub o n = some r) :
    o + n ≤ x.cells.toList.length ∧ RelV X r (.agg ((x.cells.toList.drop o).take n).toArray) := by
  cases e with
  | t y =>
    cases y with
    | agg cs =>
      simp only [V.sub, T.sub] at hr
      split at hr
      · simp only [Option.map_some, Option.some.injEq] at hr
        subst hr
        simp only [RelV, RelT] at h ⊢
        obtain ⟨vs, rfl, h⟩ := h
        have := relCs_len h
        exact ⟨by simp only [Value.cells]; omega, _, rfl, relCs_take n (relCs_drop o h)⟩
      · cases hr
    | _ => simp [V.sub, T.sub] at hr
  | agg cs =>
    simp only [V.sub] at hr
    split at hr
    · simp only [Option.some.injEq] at hr
      subst hr
      simp only [RelV] at h ⊢
      obtain ⟨vs, rfl, h⟩ := h
      have := relCsV_len h
      exact ⟨by simp only [Value.cells]; omega, _, rfl, relCsV_take n (relCsV_drop o h)⟩
    · cases hr
  | _ => cases hr

theorem part_rel {P : Program} {X : Ctx} {e r : V} {x : Value} {agg : Bool} {t : TypeId} {b o' o : Nat} (h : RelV X e x) (hs : e.still = true)
    (ha : AtB X.w b o' x.cells.toList) (hk : kindT P t = some agg) (hr : e.part agg (sz P t) o = some r) :
    ∃ y, (loadVar t ⟨b, o' + o, none⟩).run P X.w = .ok y X.w ∧ RelV X r y := by
  cases agg with
  | true =>
    simp only [V.part, if_true] at hr
    split at hr
    · next hw =>
      obtain ⟨rfl, hn, hg⟩ := hw
      simp only [Option.some.injEq] at hr
      subst hr
      have hsz := size_rel h hs
      obtain ⟨vs, rfl⟩ : ∃ vs, x = .agg vs := by
        cases e with
        | t y =>
          cases y <;> simp [V.isAgg, T.isAgg] at hg
          simp only [RelV, RelT] at h; obtain ⟨vs, rfl, _⟩ := h; exact ⟨vs, rfl⟩
        | agg cs => simp only [RelV] at h; obtain ⟨vs, rfl, _⟩ := h; exact ⟨vs, rfl⟩
        | _ => cases hg
      refine ⟨.agg vs, ?_, h⟩
      have := run_loadVar_agg (vs := vs.toList) (b := b) (o := o') hk (by simp only [Value.cells] at hsz; rw [← hn, ← hsz]; simp) ha
      simpa using this
    · obtain ⟨hl, hrel⟩ := sub_rel h hr
      refine ⟨_, ?_, hrel⟩
      exact run_loadVar_agg hk (by rw [List.length_take, List.length_drop]; omega) (ha.sub o _)
  | false =>
    simp only [V.part] at hr
    simp only [Bool.false_eq_true, if_false] at hr
    split at hr
    · cases e with
      | t y =>
        simp only at hr
        cases hc : y.cell o with
        | none => rw [hc] at hr; cases hr
        | some z =>
          rw [hc] at hr
          simp only [Option.map_some, Option.some.injEq] at hr
          subst hr
          simp only [RelV] at h
          obtain ⟨v, h1, h2⟩ := T.cell_rel h hc
          exact ⟨v, run_loadVar_one hk (ha.one h1), by simpa only [RelV] using h2⟩
      | agg cs =>
        simp only at hr
        have h' := h
        simp only [RelV] at h'
        obtain ⟨vs, rfl, h'⟩ := h'
        obtain ⟨v, h1, h2, _⟩ := relCsV_get h' hr
        exact ⟨v, run_loadVar_one hk (ha.one h1), h2⟩
      | _ =>
        simp only at hr
        split at hr
        · next h0 =>
          subst h0
          simp only [Option.some.injEq] at hr
          subst hr
          have hc := V.cell_scalar h hs rfl
          rw [hc] at ha
          exact ⟨x, by simpa using run_loadVar_one hk ha, h⟩
        · cases hr
    · cases hr

/-! Stores. -/
def spl (cs : Array Value) : Nat → List Value → Array Value
  | _, [] => cs
  | k, v :: vs => spl (cs.setIfInBounds k v) (k + 1) vs
@[simp] theorem spl_size : ∀ (vs : List Value) (cs : Array Value) (k : Nat), (spl cs k vs).size = cs.size
  | [], _, _ => rfl
  | v :: vs, cs, k => by simp [spl, spl_size vs]
theorem spl_get : ∀ (vs : List Value) (cs : Array Value) (k j : Nat), k + vs.length ≤ cs.size → (spl cs k vs)[j]? = if k ≤ j ∧ j < k + vs.length then vs[j - k]? else cs[j]?
  | [], cs, k, j, _ => by simp [spl]; intro h; omega
  | v :: vs, cs, k, j, h => by
    simp only [List.length_cons] at h ⊢
    simp only [spl]
    rw [spl_get vs _ (k + 1) j (by simp; omega)]
    by_cases hjk : j = k
    · subst hjk
      rw [if_neg (by omega), if_pos (by omega), Array.getElem?_setIfInBounds, if_pos rfl, if_pos (by omega)]
      simp
    · by_cases h1 : k + 1 ≤ j ∧ j < k + 1 + vs.length
      · rw [if_pos h1, if_pos (by omega)]
        rw [show j - k = (j - (k + 1)) + 1 from by omega]; simp
      · rw [if_neg h1, if_neg (by omega)]
        rw [Array.getElem?_setIfInBounds, if_neg (by omega)]
def setB (w : World) (b : Nat) (o : Obj) : World := { w with heap := w.heap.setIfInBounds b o }
theorem setB_heap (w : World) (b : Nat) (o : Obj) (k : Nat) : (setB w b o).heap[k]? = if k = b ∧ b < w.heap.size then some o else w.heap[k]? := by
  simp only [setB, Array.getElem?_setIfInBounds]
  by_cases h : b = k
  · subst h
    by_cases hb : b < w.heap.size
    · simp [hb]
    · simp [hb]
  · simp [h, Ne.symm h]
@[simp] theorem setB_size (w : World) (b : Nat) (o : Obj) : (setB w b o).heap.size = w.heap.size := by simp [setB]
theorem setCell_eq {w : World} {b o : Nat} {cs : Array Value} {el : TypeId} {f : Nat × Nat} (h : w.heap[b]? = some (.cells cs el f)) (v : Value) :
    w.setCell ⟨b, o, none⟩ v = setB w b (.cells (cs.setIfInBounds o v) el f) := by
  unfold World.setCell setB
  congr 1
  apply Array.ext_getElem?
  intro i
  simp only [Array.getElem?_modify, Array.getElem?_setIfInBounds]
  by_cases hi : b = i
  · subst hi
    have : b < w.heap.size := by
      rcases Nat.lt_or_ge b w.heap.size with hh | hh
      · exact hh
      · rw [Array.getElem?_eq_none hh] at h; cases h
    simp only [if_true, h, Option.map_some, this]
    simp
  · simp [hi]
theorem setB_setB (w : World) (b : Nat) (o o' : Obj) : setB (setB w b o) b o' = setB w b o' := by
  unfold setB
  congr 1
  apply Array.ext_getElem?
  intro i
  simp only [Array.getElem?_setIfInBounds, Array.size_setIfInBounds]
  by_cases hi : b = i
  · subst hi; by_cases hb : b < w.heap.size <;> simp [hb]
  · simp [hi]
theorem lt_of_heap {w : World} {b : Nat} {o : Obj} (h : w.heap[b]? = some o) : b < w.heap.size := by
  rcases Nat.lt_or_ge b w.heap.size with hh | hh
  · exact hh
  · rw [Array.getElem?_eq_none hh] at h; cases h
theorem run_store1 {P : Program} {w : World} {b o : Nat} {cs : Array Value} {el : TypeId} {f : Nat × Nat} {v : Value} (h : w.heap[b]? = some (.cells cs el f)) (ho : o < cs.size)
    (hf : ¬ (f.1 ≤ o ∧ o < f.2)) (hs : Sc v) : (store ⟨b, o, none⟩ v).run P w = .ok () (setB w b (.cells (cs.setIfInBounds o v) el f)) := by
  have hc : w.cell? ⟨b, o, none⟩ = some cs[o] := by rw [cell_of h]; simp [ho]
  have hz : w.frozen? ⟨b, o, none⟩ = false := by simp only [World.frozen?, h]; obtain ⟨lo, hi⟩ := f; simpa using hf
  cases v with
  | agg => exact hs.elim
  | tuple => exact hs.elim
  | _ =>
    simp only [store, Sem.run, hc, hz, Bool.false_eq_true, if_false]
    rw [setCell_eq h]
theorem run_storeCells {P : Program} {b o : Nat} {el : TypeId} {f : Nat × Nat} : ∀ (vs : List Value) (i : Nat) (cs : Array Value) (w : World),
    w.heap[b]? = some (.cells cs el f) → o + i + vs.length ≤ cs.size → (∀ v ∈ vs, Sc v) → (∀ j, o + i ≤ j → j < o + i + vs.length → ¬ (f.1 ≤ j ∧ j < f.2)) →
    (storeCells ⟨b, o, none⟩ vs i).run P w = .ok () (setB w b (.cells (spl cs (o + i) vs) el f)) := by
  intro vs
  induction vs with
  | nil =>
    intro i cs w h _ _ _
    have : setB w b (.cells cs el f) = w := by
      unfold setB
      congr 1
      apply Array.ext_getElem?
      intro k
      simp only [Array.getElem?_setIfInBounds]
      by_cases hk : b = k
      · subst hk; simp only [if_true, lt_of_heap h, h]
      · simp [hk]
    simp [storeCells, run_pure, spl, this]
  | cons v vs ih =>
    intro i cs w h hl hs hf
    simp only [List.length_cons] at hl hf
    simp only [storeCells, run_bind, add_eq]
    rw [run_store1 h (by omega) (hf _ (by omega) (by omega)) (hs v (by simp))]
    simp only
    have hlt := lt_of_heap h
    rw [ih (i + 1) (cs.setIfInBounds (o + i) v) _ (by rw [setB_heap]; simp [hlt]) (by simp; omega) (fun x hx => hs x (by simp [hx])) (fun j h1 h2 => hf j (by omega) (by omega))]
    rw [setB_setB]
    rfl
end Go.Pv
/- Operations on values alone: what the model answers is what the evaluator says. Conditions: as each lemma says. -/
namespace Go.Pv

def TRel (X : Ctx) (ts : Tmps) (a : Act) : Prop := ∀ t, RelV X (ts t) (a.tmps.getD t Go.undef)

theorem ofScalar_rel (X : Ctx) (v : Value) : RelV X (ofScalar v) v := by
  unfold ofScalar
  split <;> simp [RelV, RelT]
theorem sc_of (v : Value) (h : scB v = true) : Sc v := by cases v <;> simp_all [scB, Sc]
theorem ofScalars_rel (X : Ctx) : ∀ (l : List Value), l.all scB = true → RelCsV X (l.map ofScalar) l
  | [], _ => rfl
  | v :: l, h => by
    simp only [List.all_cons, Bool.and_eq_true] at h
    exact ⟨v, l, rfl, ofScalar_rel X v, sc_of v h.1, ofScalars_rel X l h.2⟩
theorem ofValue_rel (X : Ctx) (v : Value) : RelV X (ofValue v) v := by
  unfold ofValue
  split
  · split
    · next h => simp only [RelV]; exact ⟨_, rfl, ofScalars_rel X _ h⟩
    · simp only [RelV]
  · exact ofScalar_rel X v
theorem opd_rel {X : Ctx} {ts : Tmps} {a : Act} (h : TRel X ts a) (x : Operand) : RelV X (opd ts x) (a.eval x) := by
  cases x with
  | tmp t => exact h t
  | const v => exact ofValue_rel X v
  | global g => simp only [opd, RelV]
  | func f => simp only [opd, RelV, RelT, Act.eval]; exact ⟨#[], rfl, rfl⟩

theorem rel_bool {X : Ctx} {b : Bool} {x : Value} (h : RelV X (.t (.bool b)) x) : x = .bool b := by simpa only [RelV, RelT] using h
theorem rel_int {X : Ctx} {k : IntKind} {n : Int} {x : Value} (h : RelV X (.t (.int k n)) x) : x = .int k n := by simpa only [RelV, RelT] using h
theorem rel_str {X : Ctx} {s : ByteArray} {x : Value} (h : RelV X (.t (.str s)) x) : x = .string s := by simpa only [RelV, RelT] using h
theorem int_rel (X : Ctx) (k : IntKind) (n : Int) : RelV X (.t (.int k n)) (.int k n) := by simp only [RelV, RelT]
theorem bool_rel (X : Ctx) (b : Bool) : RelV X (.t (.bool b)) (.bool b) := by simp only [RelV, RelT]
theorem str_rel (X : Ctx) (s : ByteArray) : RelV X (.t (.str s)) (.string s) := by simp only [RelV, RelT]

theorem relVs_map {X : Ctx} {ts : Tmps} {a : Act} (h : TRel X ts a) : ∀ (l : List Operand), RelVs X (l.map (opd ts)) (l.map a.eval)
  | [] => rfl
  | x :: l => ⟨_, _, rfl, opd_rel h x, relVs_map h l⟩
theorem relVs_t {X : Ctx} : ∀ {ts : List T} {vs : List Value}, RelTs X.Φ X.w ts vs → RelVs X (ts.map .t) vs
  | [], _, h => h
  | t :: ts, vs, h => by
    simp only [RelTs] at h
    obtain ⟨v, vs', rfl, h1, h2⟩ := h
    exact ⟨v, vs', rfl, by simpa only [RelV] using h1, relVs_t h2⟩
theorem relVs_append {X : Ctx} : ∀ {ts us : List V} {vs ws : List Value}, RelVs X ts vs → RelVs X us ws → RelVs X (ts ++ us) (vs ++ ws)
  | [], _, _, _, h, k => by simp only [RelVs] at h; subst h; simpa using k
  | t :: ts, us, vs, ws, h, k => by
    simp only [RelVs] at h
    obtain ⟨v, vs', rfl, h1, h⟩ := h
    exact ⟨v, vs' ++ ws, rfl, h1, relVs_append h k⟩
theorem relVs_get {X : Ctx} : ∀ {ts : List V} {vs : List Value} {i : Nat} {t : V}, RelVs X ts vs → ts[i]? = some t → ∃ v, vs[i]? = some v ∧ RelV X t v
  | [], _, _, _, _, hi => by simp at hi
  | t :: ts, vs, i, t', h, hi => by
    simp only [RelVs] at h
    obtain ⟨v, vs', rfl, h1, h⟩ := h
    cases i with
    | zero => simp at hi; subst hi; exact ⟨v, rfl, h1⟩
    | succ i => exact relVs_get (ts := ts) (i := i) h (by simpa using hi)
theorem relTs_get {Φ : Nat → Prop} {w : World} : ∀ {ts : List T} {vs : List Value} {i : Nat} {t : T}, RelTs Φ w ts vs → ts[i]? = some t → ∃ v, vs[i]? = some v ∧ RelT Φ w t v
  | [], _, _, _, _, hi => by simp at hi
  | t :: ts, vs, i, t', h, hi => by
    simp only [RelTs] at h
    obtain ⟨v, vs', rfl, h1, h⟩ := h
    cases i with
    | zero => simp at hi; subst hi; exact ⟨v, rfl, h1⟩
    | succ i => exact relTs_get (ts := ts) (i := i) h (by simpa using hi)

/-! A value as a tree. -/
mutual
theorem asT_rel {X : Ctx} : ∀ (v : V) (t : T) (x : Value), v.asT = some t → RelV X v x → RelT X.Φ X.w t x
  | .t y, t, x, h, r => by simp only [V.asT, Option.some.injEq] at h; subst h; simpa only [RelV] using r
  | .cap0, t, x, h, r => by
    simp only [V.asT, Option.some.injEq] at h; subst h
    simp only [RelV] at r; obtain ⟨a, rfl⟩ := r
    simp only [RelT]; exact ⟨a, 0, rfl, by simp, by simp⟩
  | .vec es, t, x, h, r => by
    simp only [V.asT] at h
    cases he : V.asTs es with
    | none => rw [he] at h; cases h
    | some l =>
      rw [he] at h; simp only [Option.map_some, Option.some.injEq] at h; subst h
      simp only [RelV] at r; obtain ⟨a, rfl, r⟩ := r
      have hl := asTs_len es l he
      simp only [RelT, hl]
      refine ⟨a, es.length, rfl, Nat.le_refl _, ?_⟩
      rcases r with rfl | ⟨b, o, sz, ha, hb, hr⟩
      · left; simpa [V.asTs] using he.symm
      · right; exact ⟨b, o, sz, ha, hb, asT_row b sz es l o he hr⟩
  | .agg cs, t, x, h, r => by
    simp only [V.asT] at h
    cases he : V.asTs cs with
    | none => rw [he] at h; cases h
    | some l =>
      rw [he] at h; simp only [Option.map_some, Option.some.injEq] at h; subst h
      simp only [RelV] at r; obtain ⟨vs, rfl, r⟩ := r
      simp only [RelT]; exact ⟨vs, rfl, asT_cs cs l _ he r⟩
  | .tup cs, t, x, h, r => by
    simp only [V.asT] at h
    cases he : V.asTs cs with
    | none => rw [he] at h; cases h
    | some l =>
      rw [he] at h; simp only [Option.map_some, Option.some.injEq] at h; subst h
      simp only [RelV] at r; obtain ⟨vs, rfl, r⟩ := r
      simp only [RelT]; exact ⟨vs, rfl, asT_ts cs l _ he r⟩
  | .fn f fi [], t, x, h, r => by
    simp only [V.asT] at h
    cases he : V.asTs fi with
    | none => rw [he] at h; cases h
    | some l =>
      rw [he] at h; simp only [Option.map_some, Option.some.injEq] at h; subst h
      simp only [RelV, RelVs] at r; obtain ⟨a, b, rfl, r, hb⟩ := r
      simp only [RelT]; exact ⟨a, by simp_all, asT_ts fi l _ he r⟩
  | .fn f fi (_ :: _), t, x, h, r => by simp [V.asT] at h
  | .ref _ _ _ _, t, x, h, r => by simp [V.asT] at h
  | .vref _ _, t, x, h, r => by simp [V.asT] at h
  | .own _ _ _ _ _, t, x, h, r => by simp [V.asT] at h
  | .mp _ _, t, x, h, r => by simp [V.asT] at h
  | .it _ _, t, x, h, r => by simp [V.asT] at h
  | .undef, t, x, h, r => by simp [V.asT] at h
  | .junk, t, x, h, r => by simp [V.asT] at h
theorem asTs_len : ∀ (vs : List V) (l : List T), V.asTs vs = some l → l.length = vs.length
  | [], l, h => by simp only [V.asTs, Option.some.injEq] at h; subst h; rfl
  | v :: vs, l, h => by
    simp only [V.asTs] at h
    split at h
    · next x xs h1 h2 => simp only [Option.some.injEq] at h; subst h; simp [asTs_len vs xs h2]
    · cases h
theorem asT_ts {X : Ctx} : ∀ (vs : List V) (l : List T) (xs : List Value), V.asTs vs = some l → RelVs X vs xs → RelTs X.Φ X.w l xs
  | [], l, xs, h, r => by simp only [V.asTs, Option.some.injEq] at h; subst h; exact r
  | v :: vs, l, xs, h, r => by
    simp only [V.asTs] at h
    split at h
    · next x ys h1 h2 =>
      simp only [Option.some.injEq] at h; subst h
      simp only [RelVs] at r; obtain ⟨y, zs, rfl, r1, r2⟩ := r
      exact ⟨y, zs, rfl, asT_rel v x y h1 r1, asT_ts vs ys zs h2 r2⟩
    · cases h
theorem asT_cs {X : Ctx} : ∀ (vs : List V) (l : List T) (xs : List Value), V.asTs vs = some l → RelCsV X vs xs → RelCs X.Φ X.w l xs
  | [], l, xs, h, r => by simp only [V.asTs, Option.some.injEq] at h; subst h; exact r
  | v :: vs, l, xs, h, r => by
    simp only [V.asTs] at h
    split at h
    · next x ys h1 h2 =>
      simp only [Option.some.injEq] at h; subst h
      simp only [RelCsV] at r; obtain ⟨y, zs, rfl, r1, hs, r2⟩ := r
      exact ⟨y, zs, rfl, asT_rel v x y h1 r1, hs, asT_cs vs ys zs h2 r2⟩
    · cases h
theorem asT_row {X : Ctx} (b sz : Nat) : ∀ (vs : List V) (l : List T) (o : Nat), V.asTs vs = some l → RowV X b sz vs o → RelRow X.Φ X.w b sz l o
  | [], l, o, h, r => by simp only [V.asTs, Option.some.injEq] at h; subst h; trivial
  | v :: vs, l, o, h, r => by
    simp only [V.asTs] at h
    split at h
    · next x ys h1 h2 =>
      simp only [Option.some.injEq] at h; subst h
      simp only [RowV] at r; obtain ⟨⟨y, r1, _, r3, r4, r5⟩, r6⟩ := r
      exact ⟨⟨y, asT_rel v x y h1 r1, r3, r4, r5⟩, asT_row b sz vs ys _ h2 r6⟩
    · cases h
end
end Go.Pv
/- Operations on values alone, one by one: what the model answers is what the evaluator says. Conditions: as each lemma says. -/
namespace Go.Pv
variable {P : Program} {X : Ctx}

theorem ibin_sim {op : BinOp} {k : IntKind} {a b : Int} {v : V} (w : World) (ht : op ≠ .shl) (ht' : op ≠ .shr) (t : TypeId) (h : ibin op k a b = some v) :
    ∃ r, (binOp op t (.int k a) (.int k b)).run P w = .ok r w ∧ RelV X v r := by
  unfold ibin at h
  split at h <;> first
    | cases h; done
    | (simp only [Option.some.injEq] at h; subst h
       simp [binOp, Op.intArith, Op.intBits, Op.intCmp, run_pure, RelV, RelT]; done)
    | (split at h
       · cases h
       · next hb =>
         simp only [Option.some.injEq] at h; subst h
         simp [binOp, Op.intDiv, hb, run_pure, RelV, RelT])
theorem sbin_sim {op : BinOp} {a b : ByteArray} {v : V} (w : World) (t : TypeId) (h : sbin op a b = some v) :
    ∃ r, (binOp op t (.string a) (.string b)).run P w = .ok r w ∧ RelV X v r := by
  unfold sbin at h
  split at h
  · split at h
    · cases h
    · next hb =>
      simp only [Option.some.injEq] at h; subst h
      refine ⟨.string (a ++ b), ?_, by simp only [RelV, RelT]⟩
      simp only [binOp, Op.stringOp]
      rw [if_neg hb]; rfl
  · simp only [Option.some.injEq] at h; subst h
    exact ⟨_, rfl, by simp only [RelV, RelT]⟩
  · simp only [Option.some.injEq] at h; subst h
    exact ⟨_, rfl, by simp only [RelV, RelT]⟩
  · cases h
theorem guard_other {op : BinOp} {t : TypeId} {xo yo : Operand} {a b : Value} (w : World) (h1 : ∀ y, a ≠ .agg y) (h2 : a ≠ .nilIface) : (eqGuard op t xo yo a b).run P w = .ok () w := by
  unfold eqGuard
  cases op <;> simp only [run_bind] <;> first
    | rfl
    | (cases a <;> first | rfl | exact absurd rfl h2 | exact absurd rfl (h1 _))
theorem guard_right {op : BinOp} {t : TypeId} {xo yo : Operand} {a b : Value} (w : World) (h1 : ∀ y, b ≠ .agg y) (h2 : b ≠ .nilIface) : (eqGuard op t xo yo a b).run P w = .ok () w := by
  unfold eqGuard
  cases op <;> simp only [run_bind] <;> first
    | rfl
    | (cases a <;> first
        | rfl
        | (cases b <;> first | rfl | exact absurd rfl h2 | exact absurd rfl (h1 _)))

theorem run_part {t : TypeId} {cs : Array Value} {o : Nat} {w : World} : ∀ {agg : Bool}, kindT P t = some agg →
    (part t cs o).run P w = if agg then .ok (.agg (cs.extract o (o + sz P t))) w else match cs[o]? with | some v => .ok v w | none => .halt (.stuck "part: no such cell") w := by
  intro agg hk
  obtain ⟨_, i, hi⟩ := kind_info hk
  cases agg with
  | true => simp only [part, run_bind, run_isAgg hk, if_true, run_sizeOf hi, run_pure]
  | false =>
    simp only [part, run_bind, run_isAgg hk, Bool.false_eq_true, if_false]
    cases cs[o]? <;> rfl
theorem extract_eq (cs : Array Value) (o n : Nat) : cs.extract o (o + n) = ((cs.toList.drop o).take n).toArray := by
  apply Array.ext'
  simp [List.drop_take, Array.toList_extract]
theorem partV_sim {t : TypeId} {x v : V} {y : Value} {o : Nat} (h : RelV X x y) (hv : partV P t x o = some v) :
    ∃ cs, y = .agg cs ∧ ∀ w, ∃ r, (part t cs o).run P w = .ok r w ∧ RelV X v r := by
  unfold partV at hv
  split at hv
  · next hg hk =>
    obtain ⟨hl, hrel⟩ := sub_rel h hv
    obtain ⟨cs, rfl⟩ : ∃ cs, y = .agg cs := by
      cases x with
      | t z => cases z <;> simp [V.isAgg, T.isAgg] at hg; simp only [RelV, RelT] at h; obtain ⟨vs, rfl, _⟩ := h; exact ⟨vs, rfl⟩
      | agg cs => simp only [RelV] at h; obtain ⟨vs, rfl, _⟩ := h; exact ⟨vs, rfl⟩
      | _ => simp [V.isAgg] at hg
    refine ⟨cs, rfl, fun w => ⟨_, by rw [run_part hk, if_pos rfl], ?_⟩⟩
    rw [extract_eq]; exact hrel
  · next hg hk =>
    cases x with
    | t z =>
      simp only at hv
      cases z <;> simp [V.isAgg, T.isAgg] at hg
      next cs =>
      simp only [RelV, RelT] at h; obtain ⟨vs, rfl, h⟩ := h
      simp only [T.cell] at hv
      cases hc : cs[o]? with
      | none => rw [hc] at hv; cases hv
      | some c =>
        rw [hc] at hv; simp only [Option.map_some, Option.some.injEq] at hv; subst hv
        obtain ⟨r, h1, h2, _⟩ := relCs_get h hc
        refine ⟨vs, rfl, fun w => ⟨r, ?_, by simpa only [RelV] using h2⟩⟩
        rw [run_part hk]
        rw [Array.getElem?_toList] at h1
        simp [h1]
    | agg cs =>
      simp only at hv
      simp only [RelV] at h; obtain ⟨vs, rfl, h⟩ := h
      obtain ⟨r, h1, h2, _⟩ := relCsV_get h hv
      refine ⟨vs, rfl, fun w => ⟨r, ?_, h2⟩⟩
      rw [run_part hk]
      rw [Array.getElem?_toList] at h1
      simp [h1]
    | _ => simp [V.isAgg] at hg
  · cases hv

theorem addOff_sim {x v : V} {y : Value} {d : Nat} (h : RelV X x y) (hv : addOff x d = some v) : ∃ a, y = .pointer (some a) ∧ RelV X v (.pointer (some (a.add d))) := by
  unfold addOff at hv
  split at hv
  · next p g i o =>
    simp only [Option.some.injEq] at hv; subst hv
    simp only [RelV] at h ⊢
    obtain ⟨hg, a, rfl, h⟩ := h
    refine ⟨a, rfl, hg, _, rfl, fun b o' sz hm => ?_⟩
    rw [h b o' sz hm, add_eq]
    rw [show o' + i * sz + o + d = o' + i * sz + (o + d) from by omega]
  · next u o =>
    simp only [Option.some.injEq] at hv; subst hv
    simp only [RelV] at h ⊢
    obtain ⟨b, o', rfl, hb, h⟩ := h
    refine ⟨_, rfl, b, o', ?_, hb, h⟩
    rw [add_eq, Nat.add_assoc]
  · cases hv
theorem fieldAddr_sim {t f d : Nat} {x v : V} {y : Value} (h : RelV X x y) (hf : foff P t f = some d) (hv : addOff x d = some v) (w : World) :
    ∃ r, (Instr.fieldAt t y f).run P w = .ok r w ∧ RelV X v r := by
  obtain ⟨a, rfl, hr⟩ := addOff_sim h hv
  refine ⟨_, ?_, hr⟩
  unfold foff at hf
  split at hf
  · next fs hu =>
    split at hf
    · next fl hfl =>
      split at hf
      · cases hf
      · next hz =>
        simp only [Option.some.injEq] at hf; subst hf
        have hi : ∃ i, P.info? fl.type = some i := by
          cases hh : P.info? fl.type with
          | none => simp [Program.cellsOf, hh] at hz
          | some i => exact ⟨i, rfl⟩
        obtain ⟨i, hi⟩ := hi
        simp only [Instr.fieldAt, run_bind, run_underlying hu, hfl, Instr.sureAddr, run_pure, fieldPlace, run_sizeOf hi]
        rw [if_neg (by simpa [sz] using hz)]
        rfl
    · cases hf
  · cases hf
theorem field_sim {t f : Nat} {x v : V} {y : Value} (h : RelV X x y) (hv : fieldV P t x f = some v) (w : World) :
    ∃ r, (Instr.field t y f).run P w = .ok r w ∧ RelV X v r := by
  unfold fieldV at hv
  split at hv
  · next d hf =>
    obtain ⟨cs, rfl, hr⟩ := partV_sim h hv
    obtain ⟨r, h1, h2⟩ := hr w
    refine ⟨r, ?_, h2⟩
    unfold foff at hf
    split at hf
    · next fs hu =>
      split at hf
      · next fl hfl =>
        split at hf
        · cases hf
        · simp only [Option.some.injEq] at hf; subst hf
          have : ftype P t f = fl.type := by unfold ftype; simp [hu, hfl]
          rw [this] at h1
          simp only [Instr.field, run_bind, run_underlying hu, hfl, asAgg, run_pure, h1]
      · cases hf
    · cases hf
  · cases hv
theorem pick_sim {c : Bool} {a b x : Value} {ca : Value} (h : RelV X (.t (.bool c)) ca) (w : World) : ((do pure (.value (if ← asBool ca then a else b))) : Sem Next).run P w = .ok (.value (if c then a else b)) w := by
  have := rel_bool h; subst this; rfl
theorem extract_sim {x v : V} {y : Value} {i : Nat} (h : RelV X x y) (hv : extractV x i = some v) (w : World) : ∃ r, (Instr.extract y i).run P w = .ok r w ∧ RelV X v r := by
  unfold extractV at hv
  split at hv
  · next vs =>
    simp only [RelV] at h; obtain ⟨ws, rfl, h⟩ := h
    obtain ⟨r, h1, h2⟩ := relVs_get h hv
    rw [Array.getElem?_toList] at h1
    exact ⟨r, by simp [Instr.extract, h1, run_pure], h2⟩
  · next vs =>
    simp only [RelV, RelT] at h; obtain ⟨ws, rfl, h⟩ := h
    cases hc : vs[i]? with
    | none => rw [hc] at hv; cases hv
    | some c =>
      rw [hc] at hv; simp only [Option.map_some, Option.some.injEq] at hv; subst hv
      obtain ⟨r, h1, h2⟩ := relTs_get h hc
      rw [Array.getElem?_toList] at h1
      exact ⟨r, by simp [Instr.extract, h1, run_pure], by simpa only [RelV] using h2⟩
  · cases hv
theorem makeFunc_sim {f : Fn} {fi ca : List V} {a b : Array Value} (h1 : RelVs X fi a.toList) (h2 : RelVs X ca b.toList) : RelV X (makeFuncV f fi ca) (.func f a b) := by
  unfold makeFuncV
  split
  · next ts ht =>
    simp only [RelVs] at h2
    simp only [RelV, RelT]
    exact ⟨a, by simp_all, asT_ts fi ts _ ht h1⟩
  · simp only [RelV]; exact ⟨a, b, rfl, h1, h2⟩
theorem un_sim {op : UnOp} {x v : V} {y : Value} (h : RelV X x y) (hv : un op x = some v) (w : World) : ∃ r, (Op.unary op y).run P w = .ok r w ∧ RelV X v r := by
  unfold un at hv
  split at hv
  · simp only [Option.some.injEq] at hv; subst hv
    have := rel_int h; subst this
    exact ⟨_, rfl, int_rel _ _ _⟩
  · simp only [Option.some.injEq] at hv; subst hv
    have := rel_bool h; subst this
    exact ⟨_, rfl, bool_rel _ _⟩
  · cases hv
theorem intT_spec {t : TypeId} {k : IntKind} (h : intT P t = some k) : P.underlying t = some (.int k) := by
  unfold intT at h; split at h <;> simp_all
theorem isStr_spec {t : TypeId} (h : isStr P t = true) : P.underlying t = some .string := by
  unfold isStr at h; split at h <;> simp_all
theorem elemT_spec {t e : TypeId} (h : elemT P t = some e) : P.underlying t = some (.slice e) := by
  unfold elemT at h; split at h <;> simp_all
theorem arrT_spec {t n e : Nat} (h : arrT P t = some (n, e)) : P.underlying t = some (.array n e) := by
  unfold arrT at h; split at h <;> simp_all
theorem zeroV_spec {t : TypeId} {z : V} (h : zeroV P t = some z) : ∃ i v, P.info? t = some i ∧ i.zero = some v ∧ z = ofValue v := by
  unfold zeroV at h
  cases hi : P.info? t with
  | none => rw [hi] at h; cases h
  | some i =>
    rw [hi] at h
    simp only [Option.bind_some, Option.map_eq_some_iff] at h
    obtain ⟨v, h1, h2⟩ := h
    exact ⟨i, v, rfl, h1, h2.symm⟩
theorem run_zero {t : TypeId} {z : V} (h : zeroV P t = some z) (w : World) : ∃ v, (zeroValue t).run P w = .ok v w ∧ RelV X z v := by
  obtain ⟨i, v, h1, h2, rfl⟩ := zeroV_spec h
  refine ⟨v, ?_, ofValue_rel X v⟩
  simp [zeroValue, typeInfo, program, Sem.run, h1, h2]
end Go.Pv
/- Operations on values alone, the others. Conditions: as each lemma says. -/
namespace Go.Pv
variable {P : Program} {X : Ctx}

theorem conv_sim {src dst : TypeId} {x v : V} {y : Value} (h : RelV X x y) (hv : conv P src dst x = some v) (w : World) :
    ∃ r, (convert src dst y).run P w = .ok r w ∧ RelV X v r := by
  unfold conv at hv
  split at hv
  · next k n =>
    have := rel_int h; subst this
    split at hv
    · cases hv
    next hki =>
    obtain ⟨kb, hkb⟩ : ∃ b, kindT P src = some b := by
      cases hh : kindT P src with
      | none => simp [hh] at hki
      | some b => exact ⟨b, rfl⟩
    obtain ⟨⟨d, hs⟩, _⟩ := kind_info hkb
    cases hk : intT P dst with
    | none => rw [hk] at hv; cases hv
    | some k' =>
      rw [hk] at hv; simp only [Option.map_some, Option.some.injEq] at hv; subst hv
      have hd := intT_spec hk
      refine ⟨_, ?_, int_rel _ _ _⟩
      simp only [convert, run_bind, run_underlying hs, run_underlying hd]
      cases d <;> rfl
  · next s =>
    split at hv
    · next hh =>
      simp only [Bool.and_eq_true] at hh
      simp only [Option.some.injEq] at hv; subst hv
      have := rel_str h; subst this
      have h1 := isStr_spec hh.1
      have h2 := isStr_spec hh.2
      refine ⟨_, ?_, str_rel _ _⟩
      simp only [convert, run_bind, run_underlying h1, run_underlying h2]
      rfl
    · cases hv
  · cases hv

theorem rel_own_slice {p : List Nat} {g o n s : Nat} {y : Value} (h : RelV X (.own p g o n s) y) : ∃ a cap, y = .slice a n cap := by
  simp only [RelV] at h; obtain ⟨_, a, cap, rfl, _⟩ := h; exact ⟨a, cap, rfl⟩
theorem len_sim {t : TypeId} {x v : V} {y : Value} {at_ : Array TypeId} {args : Array Value} {ty : TypeId} (ht : at_[0]? = some t) (ha : args[0]? = some y) (h : RelV X x y) (hv : lenV P t x = some v) (w : World) :
    ∃ r, (Builtin.len_ at_ ty args).run P w = .ok r w ∧ RelV X v r := by
  unfold lenV at hv
  split at hv
  · next s hu =>
    simp only [Option.some.injEq] at hv; subst hv
    have := rel_str h; subst this
    exact ⟨_, by simp only [Builtin.len_, ht, ha, run_bind, run_underlying hu]; rfl, int_rel _ _ _⟩
  · next n e hu =>
    simp only [Option.some.injEq] at hv; subst hv
    exact ⟨_, by simp only [Builtin.len_, ht, ha, run_bind, run_underlying hu]; rfl, int_rel _ _ _⟩
  · next e p g o n s hu =>
    simp only [Option.some.injEq] at hv; subst hv
    obtain ⟨a, cap, rfl⟩ := rel_own_slice h
    exact ⟨_, by simp only [Builtin.len_, ht, ha, run_bind, run_underlying hu]; rfl, int_rel _ _ _⟩
  · next e l hu =>
    simp only [Option.some.injEq] at hv; subst hv
    simp only [RelV, RelT] at h; obtain ⟨a, cap, rfl, _⟩ := h
    exact ⟨_, by simp only [Builtin.len_, ht, ha, run_bind, run_underlying hu]; rfl, int_rel _ _ _⟩
  · next e l hu =>
    simp only [Option.some.injEq] at hv; subst hv
    simp only [RelV] at h; obtain ⟨a, rfl, _⟩ := h
    exact ⟨_, by simp only [Builtin.len_, ht, ha, run_bind, run_underlying hu]; rfl, int_rel _ _ _⟩
  · next e hu =>
    simp only [Option.some.injEq] at hv; subst hv
    simp only [RelV] at h; obtain ⟨a, rfl⟩ := h
    exact ⟨_, by simp only [Builtin.len_, ht, ha, run_bind, run_underlying hu]; rfl, int_rel _ _ _⟩
  · cases hv

theorem foldMax_sim (w : World) : ∀ (vs : List V) (xs : List Value) (k : IntKind) (n m : Int), RelVs X vs xs → foldMax k n vs = some m →
    (xs.foldlM Builtin.max2 (Value.int k n)).run P w = .ok (.int k m) w
  | [], xs, k, n, m, h, hv => by
    simp only [RelVs] at h; subst h
    simp only [foldMax, Option.some.injEq] at hv; subst hv; rfl
  | v :: vs, xs, k, n, m, h, hv => by
    simp only [RelVs] at h; obtain ⟨y, ys, rfl, h1, h2⟩ := h
    unfold foldMax at hv
    split at hv
    · next heq => cases heq
    · next k' m' vs' heq =>
      obtain ⟨rfl, rfl⟩ := List.cons.inj heq
      split at hv
      · next hk =>
        have := rel_int h1; subst this
        simp only [List.foldlM_cons, Builtin.max2, run_bind, run_pure]
        exact foldMax_sim w _ ys _ _ m h2 hv
      · cases hv
    · cases hv
theorem foldMin_sim (w : World) : ∀ (vs : List V) (xs : List Value) (k : IntKind) (n m : Int), RelVs X vs xs → foldMin k n vs = some m →
    (xs.foldlM Builtin.min2 (Value.int k n)).run P w = .ok (.int k m) w
  | [], xs, k, n, m, h, hv => by
    simp only [RelVs] at h; subst h
    simp only [foldMin, Option.some.injEq] at hv; subst hv; rfl
  | v :: vs, xs, k, n, m, h, hv => by
    simp only [RelVs] at h; obtain ⟨y, ys, rfl, h1, h2⟩ := h
    unfold foldMin at hv
    split at hv
    · next heq => cases heq
    · next k' m' vs' heq =>
      obtain ⟨rfl, rfl⟩ := List.cons.inj heq
      split at hv
      · next hk =>
        have := rel_int h1; subst this
        simp only [List.foldlM_cons, Builtin.min2, run_bind, run_pure]
        exact foldMin_sim w _ ys _ _ m h2 hv
      · cases hv
    · cases hv
theorem max_sim {vs : List V} {args at_ : Array Value} {att : Array TypeId} {ty : TypeId} {v : V} (h : RelVs X vs args.toList) (hv : intMax vs = some v) (w : World) :
    ∃ r, (Builtin.max_ att ty args).run P w = .ok r w ∧ RelV X v r := by
  unfold intMax at hv
  split at hv
  · next k n vs =>
    cases hm : foldMax k n vs with
    | none => rw [hm] at hv; cases hv
    | some m =>
      rw [hm] at hv; simp only [Option.map_some, Option.some.injEq] at hv; subst hv
      simp only [RelVs] at h; obtain ⟨y, ys, he, h1, h2⟩ := h
      have := rel_int h1; subst this
      exact ⟨_, by simp only [Builtin.max_, he]; exact foldMax_sim w vs ys k n m h2 hm, int_rel _ _ _⟩
  · cases hv
theorem min_sim {vs : List V} {args at_ : Array Value} {att : Array TypeId} {ty : TypeId} {v : V} (h : RelVs X vs args.toList) (hv : intMin vs = some v) (w : World) :
    ∃ r, (Builtin.min_ att ty args).run P w = .ok r w ∧ RelV X v r := by
  unfold intMin at hv
  split at hv
  · next k n vs =>
    cases hm : foldMin k n vs with
    | none => rw [hm] at hv; cases hv
    | some m =>
      rw [hm] at hv; simp only [Option.map_some, Option.some.injEq] at hv; subst hv
      simp only [RelVs] at h; obtain ⟨y, ys, he, h1, h2⟩ := h
      have := rel_int h1; subst this
      exact ⟨_, by simp only [Builtin.min_, he]; exact foldMin_sim w vs ys k n m h2 hm, int_rel _ _ _⟩
  · cases hv

/-! Places of elements. -/
theorem ncells_t {x : T} {y : Value} (h : RelT X.Φ X.w x y) : y.cells.size = x.ncells := by
  cases x <;> simp only [RelT] at h <;> first
    | (subst h; rfl)
    | (obtain ⟨a, cap, rfl, _⟩ := h; rfl)
    | (obtain ⟨vs, rfl, h⟩ := h; have := relCs_len h; simpa [Value.cells, T.ncells] using this)
    | (obtain ⟨vs, rfl, h⟩ := h; rfl)
theorem info_of_sz {e : TypeId} (h : 0 < sz P e) : ∃ i, P.info? e = some i := by
  cases hh : P.info? e with
  | none => simp [sz, Program.cellsOf, hh] at h
  | some i => exact ⟨i, rfl⟩
theorem own_ref {p : List Nat} {g o n i s : Nat} {a : Option Addr} {m cap : Nat} (hi : i < n) (h : RelV X (.own p g o n s) (.slice a m cap)) :
    ∃ ad, a = some ad ∧ RelV X (.ref p g (o + i) 0) (.pointer (some (ad.add (i * s)))) := by
  simp only [RelV] at h ⊢
  obtain ⟨hg, a', cap', he, hn, h0, h1, h2⟩ := h
  simp only [Value.slice.injEq] at he
  obtain ⟨rfl, rfl, rfl⟩ := he
  obtain ⟨ad, rfl⟩ := h0 (by omega)
  refine ⟨ad, rfl, hg, _, rfl, fun b o' sz hm => ?_⟩
  obtain ⟨hs', h3⟩ := h2 b o' sz hm
  subst hs'
  rcases h3 with h3 | ⟨h3, _⟩
  · omega
  · simp only [Option.some.injEq] at h3
    rw [h3, add_eq, Nat.add_mul]
    congr 1; omega
theorem indexAddr_sim {t : TypeId} {x i v : V} {y j : Value} (h : RelV X x y) (hi : RelV X i j) (hv : indexAddrV P t x i = some v) (w : World) :
    ∃ r, (Instr.indexAt t y j).run P w = .ok r w ∧ RelV X v r := by
  unfold indexAddrV at hv
  split at hv
  · next k i =>
    have := rel_int hi; subst this
    split at hv
    · next n e ha =>
      have hu := arrT_spec ha
      split at hv
      · next hb =>
        obtain ⟨a, rfl, hr⟩ := addOff_sim h hv
        refine ⟨_, ?_, hr⟩
        obtain ⟨ie, hie⟩ := info_of_sz hb.2.2
        simp only [Instr.indexAt, run_bind, asIntOf, run_pure, run_underlying hu, Instr.sureAddr]
        rw [if_pos ⟨hb.1, hb.2.1⟩]
        simp [run_sizeOf hie]
      · cases hv
    · split at hv
      · next e he =>
        have hu := elemT_spec he
        split at hv
        · next p g o n s =>
          split at hv
          · next hb =>
            simp only [Option.some.injEq] at hv; subst hv
            obtain ⟨a, cap, rfl⟩ := rel_own_slice h
            obtain ⟨ad, rfl, hr⟩ := own_ref (i := i.toNat) (by omega) h
            refine ⟨_, ?_, hr⟩
            obtain ⟨ie, hie⟩ := info_of_sz hb.2.2.1
            simp only [Instr.indexAt, run_bind, asIntOf, run_pure, run_underlying hu]
            rw [if_pos ⟨hb.1, hb.2.1⟩]
            simp [run_sizeOf hie, hb.2.2.2]
          · cases hv
        · next l =>
          split at hv
          · next hb =>
            split at hv
            · next c hc =>
              split at hv
              · next hz =>
                simp only [Option.some.injEq] at hv; subst hv
                simp only [RelV, RelT] at h
                obtain ⟨a, cap, rfl, hcap, h⟩ := h
                rcases h with rfl | ⟨b, o, sz', rfl, hΦ, hrow⟩
                · simp at hc
                · obtain ⟨z, h1, h2, h3, h4⟩ := relRow_get hrow hc
                  have hsz := ncells_t h1
                  obtain ⟨ie, hie⟩ := info_of_sz hz.2
                  refine ⟨.pointer (some ⟨b, o + i.toNat * sz', none⟩), ?_, ?_⟩
                  · simp only [Instr.indexAt, run_bind, asIntOf, run_pure, run_underlying hu]
                    rw [if_pos hb]
                    simp only [run_bind, run_sizeOf hie, run_pure, add_eq]
                    rw [show sz' = sz P e from by omega]
                  · simp only [RelV]
                    exact ⟨b, o + i.toNat * sz', rfl, hΦ, z, h1, h3, h4⟩
              · cases hv
            · cases hv
          · cases hv
        · next l =>
          split at hv
          · next hb =>
            split at hv
            · next c hc =>
              split at hv
              · next hz =>
                simp only [Option.some.injEq] at hv; subst hv
                simp only [RelV] at h
                obtain ⟨a, rfl, h⟩ := h
                rcases h with rfl | ⟨b, o, sz', rfl, hΦ, hrow⟩
                · simp at hc
                · obtain ⟨z, h1, h0, h2, h3, h4⟩ := rowV_get hrow hc
                  have hsz := size_rel h1 h0
                  obtain ⟨ie, hie⟩ := info_of_sz hz.2
                  refine ⟨.pointer (some ⟨b, o + i.toNat * sz', none⟩), ?_, ?_⟩
                  · simp only [Instr.indexAt, run_bind, asIntOf, run_pure, run_underlying hu]
                    rw [if_pos hb]
                    simp only [run_bind, run_sizeOf hie, run_pure, add_eq]
                    rw [show sz' = sz P e from by omega]
                  · simp only [RelV]
                    exact ⟨b, o + i.toNat * sz', rfl, hΦ, z, h1, h3, h4⟩
              · cases hv
            · cases hv
          · cases hv
        · cases hv
      · cases hv
  · cases hv
theorem index_sim {t : TypeId} {x i v : V} {y j : Value} (h : RelV X x y) (hi : RelV X i j) (hv : indexV P t x i = some v) (w : World) :
    ∃ r, (Instr.index t y j).run P w = .ok r w ∧ RelV X v r := by
  unfold indexV at hv
  split at hv
  · next k i =>
    have := rel_int hi; subst this
    split at hv
    · next n e ha =>
      have hu := arrT_spec ha
      split at hv
      · next hb =>
        obtain ⟨ie, hie⟩ := info_of_sz hb.2.2
        obtain ⟨cs, rfl, hr⟩ := partV_sim h hv
        obtain ⟨r, h1, h2⟩ := hr w
        refine ⟨r, ?_, h2⟩
        simp only [Instr.index, run_bind, asIntOf, run_pure, run_underlying hu]
        rw [if_pos ⟨hb.1, hb.2.1⟩]
        simp only [run_bind, run_sizeOf hie, h1]
      · cases hv
    · split at hv
      · next s =>
        split at hv
        · next hb =>
          have hu := isStr_spec hb.1
          have := rel_str h; subst this
          cases hs : s[i.toNat]? with
          | none => rw [hs] at hv; cases hv
          | some c =>
            rw [hs] at hv; simp only [Option.map_some, Option.some.injEq] at hv; subst hv
            refine ⟨_, ?_, int_rel _ _ _⟩
            simp only [Instr.index, run_bind, asIntOf, run_pure, run_underlying hu]
            rw [if_pos hb.2]
            simp only [hs, run_pure]
        · cases hv
      · cases hv
  · cases hv
end Go.Pv
/- Comparisons, slices of slices, interface values, composite values. Conditions: as each lemma says. -/
namespace Go.Pv
variable {P : Program} {X : Ctx}

theorem eqScalar_sim {t : TypeId} {x y : T} {r : Bool} {a b : Value} {Φ : Nat → Prop} {u : World} (hx : RelT Φ u x a) (hy : RelT Φ u y b) (h : eqScalar P t x y = some r) (d : Nat) (w : World) :
    kindT P t = some false ∧ (Op.equalIn (d + 1) t a b).run P w = .ok r w := by
  unfold eqScalar at h
  split at h
  · next k0 k m k' m' hu =>
    split at h
    · next hk =>
      subst hk
      simp only [Option.some.injEq] at h; subst h
      simp only [RelT] at hx hy; subst hx; subst hy
      exact ⟨by simp [kindT, hu], by simp [Op.equalIn, run_bind, run_underlying hu, run_pure]⟩
    · cases h
  · next hu =>
    simp only [Option.some.injEq] at h; subst h
    simp only [RelT] at hx hy; subst hx; subst hy
    exact ⟨by simp [kindT, hu], by simp [Op.equalIn, run_bind, run_underlying hu, run_pure]⟩
  · next hu =>
    simp only [Option.some.injEq] at h; subst h
    simp only [RelT] at hx hy; subst hx; subst hy
    exact ⟨by simp [kindT, hu], run_equalIn_string w d t _ _ hu⟩
  · cases h

theorem eqFields_sim {Φ : Nat → Prop} {u : World} {xs ys : Array Value} (d : Nat) (w : World) : ∀ (fs : List Field) (k : Nat) (a b : List T) (r : Bool),
    RelCs Φ u a (xs.toList.drop k) → RelCs Φ u b (ys.toList.drop k) → fs.map (·.offset) = List.range' k fs.length → (∀ f ∈ fs, f.name ≠ "_") → eqCells P (fs.map (·.type)) a b = some r →
    (Op.eqFields (d + 1) xs ys fs).run P w = .ok r w
  | [], k, a, b, r, ha, hb, ho, hn, h => by
    cases a with
    | cons _ _ => simp [eqCells] at h
    | nil => cases b with
      | cons _ _ => simp [eqCells] at h
      | nil => simp only [List.map_nil, eqCells, Option.some.injEq] at h; subst h; rfl
  | f :: fs, k, a, b, r, ha, hb, ho, hn, h => by
    simp only [List.map_cons] at h
    cases a with
    | nil => simp [eqCells] at h
    | cons x a' => cases b with
      | nil => simp [eqCells] at h
      | cons y b' =>
      simp only [eqCells] at h
      split at h
      · next r1 r2 h1 h2 =>
        simp only [Option.some.injEq] at h; subst h
        simp only [RelCs] at ha hb
        obtain ⟨va, wa, ea, ra, sa, ha⟩ := ha
        obtain ⟨vb, wb, eb, rb, sb, hb⟩ := hb
        simp only [List.map_cons, List.length_cons, List.range'_succ, List.cons.injEq] at ho
        obtain ⟨ho1, ho2⟩ := ho
        have hname := hn f (by simp)
        obtain ⟨hk, hrun⟩ := eqScalar_sim ra rb h1 d w
        have ga : xs[f.offset]? = some va := by
          have : (xs.toList.drop k)[0]? = some va := by rw [ea]; rfl
          rw [ho1, ← Array.getElem?_toList]; simpa using this
        have gb : ys[f.offset]? = some vb := by
          have : (ys.toList.drop k)[0]? = some vb := by rw [eb]; rfl
          rw [ho1, ← Array.getElem?_toList]; simpa using this
        have da : wa = xs.toList.drop (k + 1) := by
          have := congrArg List.tail ea; simpa [List.tail_drop] using this.symm
        have db : wb = ys.toList.drop (k + 1) := by
          have := congrArg List.tail eb; simpa [List.tail_drop] using this.symm
        subst da; subst db
        have ih := eqFields_sim d w fs (k + 1) a' b' r2 ha hb ho2 (fun g hg => hn g (by simp [hg])) h2
        simp only [Op.eqFields]
        rw [if_pos hname]
        simp only [run_bind, run_part hk, ga, gb, hrun, Bool.false_eq_true, if_false]
        cases r1
        · simp [run_pure]
        · simpa using ih
      · cases h

theorem eqItems_sim {Φ : Nat → Prop} {u : World} {xs ys : Array Value} {e : TypeId} (he : P.cellsOf e = 1) (d : Nat) (w : World) : ∀ (n k : Nat) (a b : List T) (r : Bool),
    RelCs Φ u a (xs.toList.drop k) → RelCs Φ u b (ys.toList.drop k) → eqCells P (List.replicate n e) a b = some r →
    (Op.eqItems (d + 1) e (P.cellsOf e) xs ys (List.range' k n)).run P w = .ok r w
  | 0, k, a, b, r, ha, hb, h => by
    cases a with
    | cons _ _ => simp [eqCells] at h
    | nil => cases b with
      | cons _ _ => simp [eqCells] at h
      | nil => simp only [List.replicate_zero, eqCells, Option.some.injEq] at h; subst h; rfl
  | n + 1, k, a, b, r, ha, hb, h => by
    simp only [List.replicate_succ] at h
    cases a with
    | nil => simp [eqCells] at h
    | cons x a' => cases b with
      | nil => simp [eqCells] at h
      | cons y b' =>
      simp only [eqCells] at h
      split at h
      · next r1 r2 h1 h2 =>
        simp only [Option.some.injEq] at h; subst h
        simp only [RelCs] at ha hb
        obtain ⟨va, wa, ea, ra, sa, ha⟩ := ha
        obtain ⟨vb, wb, eb, rb, sb, hb⟩ := hb
        obtain ⟨hk, hrun⟩ := eqScalar_sim ra rb h1 d w
        have ga : xs[k * P.cellsOf e]? = some va := by
          have : (xs.toList.drop k)[0]? = some va := by rw [ea]; rfl
          rw [he, Nat.mul_one, ← Array.getElem?_toList]; simpa using this
        have gb : ys[k * P.cellsOf e]? = some vb := by
          have : (ys.toList.drop k)[0]? = some vb := by rw [eb]; rfl
          rw [he, Nat.mul_one, ← Array.getElem?_toList]; simpa using this
        have da : wa = xs.toList.drop (k + 1) := by
          have := congrArg List.tail ea; simpa [List.tail_drop] using this.symm
        have db : wb = ys.toList.drop (k + 1) := by
          have := congrArg List.tail eb; simpa [List.tail_drop] using this.symm
        subst da; subst db
        have ih := eqItems_sim he d w n (k + 1) a' b' r2 ha hb h2
        simp only [List.range'_succ, Op.eqItems]
        simp only [run_bind, run_part hk, ga, gb, hrun, Bool.false_eq_true, if_false]
        cases r1
        · simp [run_pure]
        · simpa using ih
      · cases h
theorem agg_of {Φ : Nat → Prop} {u : World} {cs : List T} {x : Value} (h : RelT Φ u (.agg cs) x) : ∃ vs, x = .agg vs ∧ RelCs Φ u cs vs.toList := by
  simpa only [RelT] using h
theorem eqAgg_sim {t : TypeId} {ts : List TypeId} {a b : List T} {x y : Value} {r : Bool} {Φ : Nat → Prop} {u : World} (ht : tysT P t = some ts) (hx : RelT Φ u (.agg a) x) (hy : RelT Φ u (.agg b) y)
    (h : eqCells P ts a b = some r) (w : World) : (Op.equal t x y).run P w = .ok r w := by
  obtain ⟨xs, rfl, hx'⟩ := agg_of hx
  obtain ⟨ys, rfl, hy'⟩ := agg_of hy
  unfold tysT at ht
  split at ht
  · next fs hu =>
    split at ht
    · next hc =>
      simp only [Bool.and_eq_true, Bool.not_eq_true', List.all_eq_true, bne_iff_ne, beq_iff_eq] at hc
      simp only [Option.some.injEq] at ht; subst ht
      have hf : P.fieldsOf t = fs := by simp [Program.fieldsOf, hu]
      have := run_equalIn_struct (P := P) w 9999 t xs ys (by rw [hf]; exact hu) hc.1.1
      rw [Op.equal, show Op.maxDepth = 9999 + 1 from rfl, this, hf]
      exact eqFields_sim 9998 w fs.toList 0 a b r (by simpa using hx') (by simpa using hy') (by rw [hc.2]; simp [List.range_eq_range']) (fun f hf => hc.1.2 f hf) h
    · cases ht
  · next n e hu =>
    split at ht
    · next he =>
      simp only [Option.some.injEq] at ht; subst ht
      obtain ⟨ie, hie⟩ := info_of_sz (P := P) (e := e) (by simp [sz, he])
      have := run_equalIn_array (P := P) w 9999 xs ys hu hie
      rw [Op.equal, show Op.maxDepth = 9999 + 1 from rfl, this, List.range_eq_range']
      exact eqItems_sim he 9998 w n 0 a b r (by simpa using hx') (by simpa using hy') h
    · cases ht
  · cases ht
theorem guard_agg {op : BinOp} {t : TypeId} {xo yo : Operand} {a b : Array Value} (w : World) (hg : guardT P t = false) : (eqGuard op t xo yo (.agg a) (.agg b)).run P w = .ok () w := by
  unfold guardT at hg
  unfold eqGuard
  cases op <;> simp only [run_bind] <;> first
    | rfl
    | (simp [program, Sem.run, hg, run_bind, run_pure])
theorem equalIn_nil0 (d : Nat) {t : TypeId} {ms : Array (String × TypeId)} (w : World) (hu : P.underlying t = some (.interface ms)) : (Op.equalIn (d + 1) t .nilIface .nilIface).run P w = .ok true w := by
  simp [Op.equalIn, run_bind, run_underlying hu, run_pure]
theorem equalIn_nil1 (d : Nat) {t u : TypeId} {v : Value} {ms : Array (String × TypeId)} (w : World) (hu : P.underlying t = some (.interface ms)) : (Op.equalIn (d + 1) t .nilIface (.iface u v)).run P w = .ok false w := by
  simp [Op.equalIn, run_bind, run_underlying hu, run_pure]
theorem equalIn_nil2 (d : Nat) {t u : TypeId} {v : Value} {ms : Array (String × TypeId)} (w : World) (hu : P.underlying t = some (.interface ms)) : (Op.equalIn (d + 1) t (.iface u v) .nilIface).run P w = .ok false w := by
  simp [Op.equalIn, run_bind, run_underlying hu, run_pure]
theorem eqV_sim {t : TypeId} {x y : V} {a b : Value} {r : Bool} {op : BinOp} {xo yo : Operand} (hx : RelV X x a) (hy : RelV X y b) (h : eqV P t x y = some r) (w : World) :
    (eqGuard op t xo yo a b).run P w = .ok () w ∧ (Op.equal t a b).run P w = .ok r w ∧ (∀ k n, a ≠ .int k n) ∧ (∀ k n m, a ≠ .complex k n m) ∧ (∀ k n, a ≠ .float k n) ∧ (∀ s, a ≠ .string s) ∧ (∀ q, a ≠ .pointer q) ∧ (∀ q, b ≠ .pointer q) := by
  unfold eqV at h
  split at h
  · next p q =>
    have ha := rel_bool hx; subst ha
    have hb := rel_bool hy; subst hb
    have := eqScalar_sim (Φ := fun _ => False) (u := w) (a := .bool p) (b := .bool q) (by simp [RelT]) (by simp [RelT]) h 9999 w
    refine ⟨guard_other w (by simp) (by simp), this.2, ?_⟩
    simp
  · next t' v =>
    split at h
    · next hi =>
      simp only [Option.some.injEq] at h; subst h
      simp only [RelV, RelT] at hx hy
      obtain ⟨z, rfl, _⟩ := hy
      subst hx
      obtain ⟨ms, hu⟩ : ∃ ms, P.underlying t = some (.interface ms) := by unfold isIface at hi; split at hi <;> simp_all
      refine ⟨guard_right w (by simp) (by simp), ?_, by simp⟩
      exact equalIn_nil1 9999 w hu
    · cases h
  · next t' v =>
    split at h
    · next hi =>
      simp only [Option.some.injEq] at h; subst h
      simp only [RelV, RelT] at hx hy
      obtain ⟨z, rfl, _⟩ := hx
      subst hy
      obtain ⟨ms, hu⟩ : ∃ ms, P.underlying t = some (.interface ms) := by unfold isIface at hi; split at hi <;> simp_all
      refine ⟨guard_other w (by simp) (by simp), ?_, by simp⟩
      exact equalIn_nil2 9999 w hu
    · cases h
  · split at h
    · next ts p q ht hg ha hb =>
      have h1 := asT_rel _ _ _ ha hx
      have h2 := asT_rel _ _ _ hb hy
      have := eqAgg_sim ht h1 h2 h w
      obtain ⟨xs, rfl, _⟩ := agg_of h1
      obtain ⟨ys, rfl, _⟩ := agg_of h2
      exact ⟨guard_agg w hg, this, by simp⟩
    · cases h
theorem bin_sim {op : BinOp} {t : TypeId} {xo yo : Operand} {x y v : V} {a b : Value} (hx : RelV X x a) (hy : RelV X y b)
    (hxo : isNilC xo = true → True) (h : bin P op t xo yo x y = some v) (w : World) :
    ∃ r, ((do eqGuard op t xo yo a b; binOp op t a b) : Sem Value).run P w = .ok r w ∧ RelV X v r := by
  unfold bin at h
  split at h
  · next k m k' n =>
    have ha := rel_int hx; subst ha
    have hb := rel_int hy; subst hb
    split at h
    · cases h
    · next hn =>
      simp only [Option.some.injEq] at h; subst h
      refine ⟨_, ?_, int_rel _ _ _⟩
      simp only [run_bind, guard_other w (a := .int k m) (by simp) (by simp)]
      simp only [binOp, Op.shift]
      rw [if_neg hn]; rfl
  · next k m k' n =>
    have ha := rel_int hx; subst ha
    have hb := rel_int hy; subst hb
    split at h
    · cases h
    · next hn =>
      simp only [Option.some.injEq] at h; subst h
      refine ⟨_, ?_, int_rel _ _ _⟩
      simp only [run_bind, guard_other w (a := .int k m) (by simp) (by simp)]
      simp only [binOp, Op.shift]
      rw [if_neg hn]; rfl
  · next k m k' n h1 h2 =>
    have ha := rel_int hx; subst ha
    have hb := rel_int hy; subst hb
    split at h
    · next hk =>
      subst hk
      obtain ⟨r, hr, hv⟩ := ibin_sim (P := P) (X := X) w h1 h2 t h
      refine ⟨r, ?_, hv⟩
      simp only [run_bind, guard_other w (a := .int k m) (by simp) (by simp), hr]
    · cases h
  · next s s' =>
    have ha := rel_str hx; subst ha
    have hb := rel_str hy; subst hb
    obtain ⟨r, hr, hv⟩ := sbin_sim (P := P) (X := X) w t h
    refine ⟨r, ?_, hv⟩
    simp only [run_bind, guard_other w (a := .string s) (by simp) (by simp), hr]
  · split at h
    · next hc =>
      simp only [Bool.and_eq_true, Bool.or_eq_true] at hc
      simp only [Option.some.injEq] at h; subst h
      simp only [RelV, RelT] at hx hy; subst hx; subst hy
      obtain ⟨ms, hu⟩ : ∃ ms, P.underlying t = some (.interface ms) := by have hi := hc.2; unfold isIface at hi; split at hi <;> simp_all
      refine ⟨_, ?_, bool_rel _ _⟩
      have hq : (eqGuard .eql t xo yo .nilIface .nilIface).run P w = .ok () w := by
        unfold eqGuard
        simp only [run_bind]
        cases xo <;> cases yo <;> simp_all [isNilC, run_pure]
      have he : (Op.equal t .nilIface .nilIface).run P w = .ok true w := equalIn_nil0 9999 w hu
      simp only [run_bind, hq, binOp, he, run_pure]
    · cases h
  · split at h
    · next hc =>
      simp only [Bool.and_eq_true, Bool.or_eq_true] at hc
      simp only [Option.some.injEq] at h; subst h
      simp only [RelV, RelT] at hx hy; subst hx; subst hy
      obtain ⟨ms, hu⟩ : ∃ ms, P.underlying t = some (.interface ms) := by have hi := hc.2; unfold isIface at hi; split at hi <;> simp_all
      refine ⟨_, ?_, bool_rel _ _⟩
      have hq : (eqGuard .neq t xo yo .nilIface .nilIface).run P w = .ok () w := by
        unfold eqGuard
        simp only [run_bind]
        cases xo <;> cases yo <;> simp_all [isNilC, run_pure]
      have he : (Op.equal t .nilIface .nilIface).run P w = .ok true w := equalIn_nil0 9999 w hu
      simp only [run_bind, hq, binOp, he, run_pure]
      rfl
    · cases h
  · cases he : eqV P t x y with
    | none => rw [he] at h; cases h
    | some r =>
      rw [he] at h; simp only [Option.map_some, Option.some.injEq] at h; subst h
      obtain ⟨h1, h2, n1, n2, n3, n4, n5, n6⟩ := eqV_sim (op := .eql) (xo := xo) (yo := yo) hx hy he w
      refine ⟨.bool r, ?_, bool_rel _ _⟩
      simp only [run_bind, h1]
      cases a <;> first
        | exact absurd rfl (n1 _ _)
        | exact absurd rfl (n2 _ _ _)
        | exact absurd rfl (n3 _ _)
        | exact absurd rfl (n4 _)
        | exact absurd rfl (n5 _)
        | (simp only [binOp, run_bind, h2, run_pure])
  · cases he : eqV P t x y with
    | none => rw [he] at h; cases h
    | some r =>
      rw [he] at h; simp only [Option.map_some, Option.some.injEq] at h; subst h
      obtain ⟨h1, h2, n1, n2, n3, n4, n5, n6⟩ := eqV_sim (op := .neq) (xo := xo) (yo := yo) hx hy he w
      refine ⟨.bool !r, ?_, bool_rel _ _⟩
      simp only [run_bind, h1]
      cases a <;> first
        | exact absurd rfl (n1 _ _)
        | exact absurd rfl (n2 _ _ _)
        | exact absurd rfl (n3 _ _)
        | exact absurd rfl (n4 _)
        | exact absurd rfl (n5 _)
        | (simp only [binOp, run_bind, h2, run_pure])
  · cases h
end Go.Pv
/- Slices of slices, interface values, composite values. Conditions: as each lemma says. -/
namespace Go.Pv
variable {P : Program} {X : Ctx}

/-! Slice expressions. -/
def BndRel (X : Ctx) (v : Option V) (x : Option Value) : Prop :=
  match v, x with
  | none, none => True
  | some v, some x => RelV X v x
  | _, _ => False
theorem bnd_sim {d m : Nat} {v : Option V} {x : Option Value} (h : BndRel X v x) (hb : bnd d v = some m) : match x with | none => m = d | some y => ∃ k n, y = .int k n ∧ 0 ≤ n ∧ m = n.toNat := by
  unfold bnd at hb
  split at hb
  · simp only [Option.some.injEq] at hb
    cases x with
    | none => exact hb.symm
    | some y => exact h.elim
  · next k n =>
    split at hb
    · next hn =>
      simp only [Option.some.injEq] at hb
      cases x with
      | none => exact h.elim
      | some y => exact ⟨k, n, rel_int h, hn, hb.symm⟩
    · cases hb
  · cases hb
theorem run_sliceBound {k : IntKind} {n : Int} {y : Nat} {c : BoundsCode} (w : World) (h0 : 0 ≤ n) (h : n.toNat ≤ y) : (Instr.sliceBound (.int k n) y c).run P w = .ok n.toNat w := by
  simp only [Instr.sliceBound, run_bind, asIntOf, run_pure]
  rw [if_pos ⟨h0, by omega⟩]; rfl
theorem run_sliceBounds {sl : Bool} {len cap l h m : Nat} {lo hi mx : Option V} {xl xh xm : Option Value} (w : World) (rl : BndRel X lo xl) (rh : BndRel X hi xh) (rm : BndRel X mx xm)
    (bl : bnd 0 lo = some l) (bh : bnd len hi = some h) (bm : bnd len mx = some m) (h1 : l ≤ h) (h2 : h ≤ m) (h3 : m ≤ len) (h4 : len ≤ cap) (hm : mx = none ∨ hi ≠ none) :
    (Instr.sliceBounds sl len cap xl xh xm).run P w = .ok (l, h, if mx.isSome then m else cap) w := by
  have el := bnd_sim rl bl
  have eh := bnd_sim rh bh
  have em := bnd_sim rm bm
  unfold Instr.sliceBounds
  cases mx with
  | none =>
    cases xm with
    | some _ => exact rm.elim
    | none =>
    cases xh with
    | none =>
      simp only at eh; subst eh
      cases xl with
      | none => simp only at el; subst el; simp [run_bind, run_pure]
      | some y =>
        obtain ⟨k, n, rfl, hn, rfl⟩ := el
        simp [run_bind, run_pure, run_sliceBound w hn h1]
    | some y =>
      obtain ⟨k, n, rfl, hn, rfl⟩ := eh
      cases xl with
      | none => simp only at el; subst el; simp [run_bind, run_pure, run_sliceBound w hn (show n.toNat ≤ cap by omega)]
      | some y =>
        obtain ⟨k', n', rfl, hn', rfl⟩ := el
        simp [run_bind, run_pure, run_sliceBound w hn (show n.toNat ≤ cap by omega), run_sliceBound w hn' h1]
  | some mv =>
    cases xm with
    | none => exact rm.elim
    | some ym =>
    obtain ⟨k, n, rfl, hn, rfl⟩ := em
    cases xh with
    | none => cases hi with
      | none => simp at hm
      | some _ => exact rh.elim
    | some y =>
      obtain ⟨k', n', rfl, hn', rfl⟩ := eh
      cases xl with
      | none => simp only at el; subst el; simp [run_bind, run_pure, run_sliceBound w hn (show n.toNat ≤ cap by omega), run_sliceBound w hn' h2]
      | some y =>
        obtain ⟨k2, n2, rfl, hn2, rfl⟩ := el
        simp [run_bind, run_pure, run_sliceBound w hn (show n.toNat ≤ cap by omega), run_sliceBound w hn' h2, run_sliceBound w hn2 h1]
theorem relRow_drop {Φ : Nat → Prop} {w : World} {b sz' : Nat} : ∀ (k : Nat) {es : List T} {o : Nat}, RelRow Φ w b sz' es o → RelRow Φ w b sz' (es.drop k) (o + k * sz')
  | 0, _, _, h => by simpa using h
  | k + 1, [], _, _ => by simp [RelRow]
  | k + 1, e :: es, o, h => by
    simp only [RelRow] at h
    have := relRow_drop k h.2
    rw [show o + (k + 1) * sz' = o + sz' + k * sz' from by rw [Nat.succ_mul]; omega]
    simpa using this
theorem relRow_take {Φ : Nat → Prop} {w : World} {b sz' : Nat} : ∀ (k : Nat) {es : List T} {o : Nat}, RelRow Φ w b sz' es o → RelRow Φ w b sz' (es.take k) o
  | 0, _, _, _ => by simp [RelRow]
  | k + 1, [], _, _ => by simp [RelRow]
  | k + 1, e :: es, o, h => by
    simp only [RelRow] at h
    simp only [List.take_succ_cons, RelRow]
    exact ⟨h.1, relRow_take k h.2⟩
theorem rowV_drop {b sz' : Nat} : ∀ (k : Nat) {es : List V} {o : Nat}, RowV X b sz' es o → RowV X b sz' (es.drop k) (o + k * sz')
  | 0, _, _, h => by simpa using h
  | k + 1, [], _, _ => by simp [RowV]
  | k + 1, e :: es, o, h => by
    simp only [RowV] at h
    have := rowV_drop k h.2
    rw [show o + (k + 1) * sz' = o + sz' + k * sz' from by rw [Nat.succ_mul]; omega]
    simpa using this
theorem rowV_take {b sz' : Nat} : ∀ (k : Nat) {es : List V} {o : Nat}, RowV X b sz' es o → RowV X b sz' (es.take k) o
  | 0, _, _, _ => by simp [RowV]
  | k + 1, [], _, _ => by simp [RowV]
  | k + 1, e :: es, o, h => by
    simp only [RowV] at h
    simp only [List.take_succ_cons, RowV]
    exact ⟨h.1, rowV_take k h.2⟩
theorem rowV_append {b sz' : Nat} : ∀ {es fs : List V} {o : Nat}, RowV X b sz' es o → RowV X b sz' fs (o + es.length * sz') → RowV X b sz' (es ++ fs) o
  | [], _, _, _, k => by simpa using k
  | e :: es, fs, o, h, k => by
    simp only [RowV] at h
    simp only [List.cons_append, RowV]
    refine ⟨h.1, rowV_append h.2 ?_⟩
    rw [show o + sz' + es.length * sz' = o + (e :: es).length * sz' from by simp [Nat.succ_mul]; omega]
    exact k

theorem slLen_rel {x : V} {y : Value} {n : Nat} (h : RelV X x y) (hn : slLen x = some n) : ∃ a cap, y = .slice a n cap ∧ n ≤ cap := by
  unfold slLen at hn
  split at hn
  · simp only [Option.some.injEq] at hn; subst hn
    simp only [RelV] at h
    obtain ⟨_, a, cap, rfl, h1, _⟩ := h; exact ⟨a, cap, rfl, h1⟩
  · simp only [Option.some.injEq] at hn; subst hn
    simp only [RelV, RelT] at h
    obtain ⟨a, cap, rfl, h1, _⟩ := h; exact ⟨a, cap, rfl, h1⟩
  · simp only [Option.some.injEq] at hn; subst hn
    simp only [RelV] at h
    obtain ⟨a, rfl, _⟩ := h; exact ⟨a, _, rfl, Nat.le_refl _⟩
  · simp only [Option.some.injEq] at hn; subst hn
    simp only [RelV] at h
    obtain ⟨a, rfl⟩ := h; exact ⟨a, _, rfl, Nat.le_refl _⟩
  · cases hn
theorem head_size {Φ : Nat → Prop} {w : World} {b s' o size : Nat} {xs : List T} (hrow : RelRow Φ w b s' xs o) (hne : xs ≠ []) (hs : ((xs.head?).map T.ncells).getD size = size) : s' = size := by
  cases xs with
  | nil => exact absurd rfl hne
  | cons x xs =>
    simp only [RelRow] at hrow
    obtain ⟨⟨z, h1, h2, _⟩, _⟩ := hrow
    have := ncells_t (X := ⟨Φ, fun _ _ => none, fun _ => True, w⟩) h1
    simp at hs
    omega
theorem head_sizeV {b s' o size : Nat} {xs : List V} (hrow : RowV X b s' xs o) (hne : xs ≠ []) (hs : ((xs.head?).map V.ncells).getD size = size) : s' = size := by
  cases xs with
  | nil => exact absurd rfl hne
  | cons x xs =>
    simp only [RowV] at hrow
    obtain ⟨⟨z, h1, h0, h2, _⟩, _⟩ := hrow
    have := size_rel h1 h0
    simp at hs
    omega
theorem cut_sim {x v : V} {a : Option Addr} {n cap l m M size : Nat} {all : Bool} (h : RelV X x (.slice a n cap)) (hn : slLen x = some n) (b1 : l ≤ m) (b2 : m ≤ n) (hm : m ≤ M) (hM : M ≤ cap) (hall : all = true → M = cap)
    (hv : cutV size x l m all = some v) : RelV X v (.slice (if M = l then a else a.map (·.add (l * size))) (m - l) (M - l)) := by
  unfold cutV at hv
  split at hv
  · next p g o n' s =>
    split at hv
    · next hs =>
      simp only [Option.some.injEq] at hv; subst hv
      simp only [slLen, Option.some.injEq] at hn; subst hn
      simp only [RelV] at h ⊢
      obtain ⟨hg, a', cap', he, hcap, h0, h1, h2⟩ := h
      simp only [Value.slice.injEq] at he
      obtain ⟨rfl, _, rfl⟩ := he
      refine ⟨hg, _, _, rfl, by omega, fun hp => ?_, fun hm => ?_, fun b o' s' hm => ?_⟩
      · obtain ⟨ad, rfl⟩ := h0 (by omega)
        split
        · exact ⟨ad, rfl⟩
        · exact ⟨_, rfl⟩
      · have := h1 hm; omega
      · obtain ⟨e1, e2⟩ := h2 b o' s' hm
        refine ⟨e1, ?_⟩
        by_cases hMl : M = l
        · left; omega
        · rcases e2 with e2 | ⟨e2, e3⟩
          · left; omega
          · right
            rw [if_neg hMl, e2]
            subst e1
            refine ⟨?_, ?_⟩
            · simp only [Option.map_some, add_eq, ← hs]
              congr 2
              rw [Nat.add_mul]; omega
            · obtain ⟨cs, el, f, g1, g2⟩ := e3
              refine ⟨cs, el, f, g1, Nat.le_trans ?_ g2⟩
              have : o + l + (M - l) ≤ o + cap := by omega
              exact Nat.add_le_add_left (Nat.mul_le_mul_right _ this) _
    · cases hv
  · next xs =>
    split at hv
    · next hs =>
      simp only [Option.some.injEq] at hv; subst hv
      simp only [slLen, Option.some.injEq] at hn; subst hn
      simp only [RelV, RelT] at h ⊢
      obtain ⟨a', cap', he, hcap, h⟩ := h
      simp only [Value.slice.injEq] at he
      obtain ⟨rfl, _, rfl⟩ := he
      have hlen : ((xs.drop l).take (m - l)).length = m - l := by rw [List.length_take, List.length_drop]; omega
      rw [hlen]
      refine ⟨_, _, rfl, by omega, ?_⟩
      rcases h with rfl | ⟨b, o, s', rfl, hΦ, hrow⟩
      · left; simp
      · by_cases hml : m - l = 0
        · left; simp [hml]
        · right
          have hne : xs ≠ [] := by
            intro hh
            have h0 : xs.length = 0 := by rw [hh]; rfl
            omega
          refine ⟨b, o + l * s', s', ?_, hΦ, relRow_take _ (relRow_drop l hrow)⟩
          rw [if_neg (by omega), Option.map_some, add_eq]
          rcases hs with rfl | hs
          · simp
          · rw [head_size hrow hne hs]
    · cases hv
  · next xs =>
    split at hv
    · next hs =>
      obtain ⟨rfl, ha, hs⟩ := hs
      simp only [Option.some.injEq] at hv; subst hv
      simp only [RelV] at h ⊢
      obtain ⟨a', he, h⟩ := h
      simp only [Value.slice.injEq] at he
      obtain ⟨rfl, rfl, rfl⟩ := he
      have hMc := hall ha
      subst hMc
      rw [List.length_drop]
      refine ⟨_, rfl, ?_⟩
      rcases h with rfl | ⟨b, o, s', rfl, hΦ, hrow⟩
      · left; simp
      · by_cases hml : xs.length = l
        · left; rw [← hml]; simp
        · right
          have hne : xs ≠ [] := by
            intro hh
            have h0 : xs.length = 0 := by rw [hh]; rfl
            omega
          refine ⟨b, o + l * s', s', ?_, hΦ, rowV_drop l hrow⟩
          rw [if_neg hml, Option.map_some, add_eq]
          rcases hs with rfl | hs
          · simp
          · rw [head_sizeV hrow hne hs]
    · cases hv
  · simp only [Option.some.injEq] at hv; subst hv
    simp only [slLen, Option.some.injEq] at hn; subst hn
    simp only [RelV] at h ⊢
    obtain ⟨a', he⟩ := h
    simp only [Value.slice.injEq] at he
    obtain ⟨rfl, _, rfl⟩ := he
    have e1 : m = 0 := by omega
    have e2 : M = 0 := by omega
    have e3 : l = 0 := by omega
    subst e1; subst e2; subst e3
    exact ⟨_, rfl⟩
  · cases hv
theorem slice_sim {t : TypeId} {x v : V} {y : Value} {lo hi mx : Option V} {xl xh xm : Option Value} (h : RelV X x y) (rl : BndRel X lo xl) (rh : BndRel X hi xh) (rm : BndRel X mx xm)
    (hv : sliceV P t x lo hi mx = some v) (w : World) : ∃ r, (Instr.sliceAt t y xl xh xm).run P w = .ok r w ∧ RelV X v r := by
  unfold sliceV at hv
  split at hv
  · next s =>
    split at hv
    · next hc =>
      have hu := isStr_spec hc.1
      have := rel_str h; subst this
      split at hv
      · next l m hl hh =>
        split at hv
        · next hb =>
          simp only [Option.some.injEq] at hv; subst hv
          refine ⟨_, ?_, str_rel _ _⟩
          have hmx : mx = none := by simpa using hc.2
          subst hmx
          cases xm with
          | some _ => exact rm.elim
          | none =>
          have := run_sliceBounds (P := P) (X := X) (sl := false) (len := s.size) (cap := s.size) (mx := none) (xm := none) w rl rh trivial hl hh (show bnd s.size none = some s.size from rfl) hb.1 hb.2 (Nat.le_refl _) (Nat.le_refl _) (Or.inl rfl)
          simp only [Instr.sliceAt, run_bind, run_underlying hu, Instr.slice, Option.isSome_none, Bool.false_eq_true, if_false, this]
          rfl
        · cases hv
      · cases hv
    · cases hv
  · split at hv
    · next e n he hn =>
      have hu := elemT_spec he
      split at hv
      · next l m k hl hh hk =>
        split at hv
        · next hb =>
          obtain ⟨b1, b2, b3, b4, b5⟩ := hb
          obtain ⟨ie, hie⟩ := info_of_sz b5
          have hm4 : mx = none ∨ hi ≠ none := by
            rcases b4 with b4 | b4
            · left; simpa using b4
            · right; intro hh'; rw [hh'] at b4; cases b4
          obtain ⟨a, cap, rfl, hcap⟩ := slLen_rel h hn
          have key : (Instr.sliceAt t (.slice a n cap) xl xh xm).run P w =
              .ok (.slice (if (if mx.isSome then k else cap) = l then a else a.map (·.add (l * sz P e))) (m - l) ((if mx.isSome then k else cap) - l)) w := by
            have := run_sliceBounds (P := P) (sl := true) w rl rh rm hl hh hk b1 b2 b3 hcap hm4
            simp only [Instr.sliceAt, run_bind, run_underlying hu, Instr.slice, this, run_sizeOf hie, run_pure]
          refine ⟨_, key, ?_⟩
          split at hv
          · next hc =>
            simp only [Option.some.injEq] at hv; subst hv
            rw [if_pos hc.1, if_pos hc.2]
            simp only [RelV]
            exact ⟨a, by congr 1 <;> omega⟩
          · next hc =>
            refine cut_sim h hn b1 (by omega) ?_ ?_ ?_ hv
            · split
              · exact b2
              · omega
            · split <;> omega
            · intro hx
              have : mx.isSome = false := by cases mx <;> simp_all
              rw [this]; rfl
        · cases hv
      · cases hv
    · cases hv
end Go.Pv
/- Interface values, composite values; then all operations on values alone. Conditions: as each lemma says. -/
namespace Go.Pv
variable {P : Program} {X : Ctx}

theorem run_mapM_list {α β : Type} (f : α → Sem β) (g : α → β) (w : World) : ∀ (l : List α), (∀ a ∈ l, (f a).run P w = .ok (g a) w) → (l.mapM f).run P w = .ok (l.map g) w
  | [], _ => by simp [run_pure]
  | a :: l, h => by
    simp only [List.mapM_cons, run_bind, h a (by simp), run_mapM_list f g w l (fun x hx => h x (by simp [hx])), run_pure, List.map_cons]
theorem run_mapM_array {α β : Type} (f : α → Sem β) (g : α → β) (w : World) (l : Array α) (h : ∀ a ∈ l.toList, (f a).run P w = .ok (g a) w) : (l.mapM f).run P w = .ok (l.map g) w := by
  rw [Array.mapM_eq_mapM_toList]
  show ((List.toArray <$> List.mapM f l.toList) : Sem _).run P w = _
  have : ((List.toArray <$> List.mapM f l.toList) : Sem (Array β)) = (List.mapM f l.toList >>= fun x => pure x.toArray) := rfl
  rw [this, run_bind, run_mapM_list f g w l.toList h]
  simp only [run_pure]
  congr 1
  apply Array.ext'
  simp

def PartsRel (X : Ctx) : List (Nat × V) → List (Nat × Value) → Prop
  | [], vs => vs = []
  | (i, v) :: ps, vs => ∃ x vs', vs = (i, x) :: vs' ∧ RelV X v x ∧ PartsRel X ps vs'
theorem partsRel_map {ts : Tmps} {a : Act} (h : TRel X ts a) : ∀ (l : List (Nat × Operand)), PartsRel X (l.map fun x => (x.1, opd ts x.2)) (l.map fun x => (x.1, a.eval x.2))
  | [] => rfl
  | (_, x) :: l => ⟨_, _, rfl, opd_rel h x, partsRel_map h l⟩
theorem foldl_set (cs : Array Value) (off : Nat) : ∀ (vs : List Value) (j : Nat) , (vs.zipIdx j).foldl (fun cs (c, k) => cs.setIfInBounds (off + k) c) cs = spl cs (off + j) vs
  | [], _ => rfl
  | v :: vs, j => by
    simp only [List.zipIdx_cons, List.foldl_cons, spl]
    exact foldl_set _ off vs (j + 1)
theorem spl_list (cs : Array Value) (k : Nat) (vs : List Value) (h : k + vs.length ≤ cs.size) : (spl cs k vs).toList = splice cs.toList k vs := by
  apply List.ext_getElem?
  intro i
  rw [Array.getElem?_toList, spl_get vs cs k i h]
  unfold splice
  simp only [List.append_assoc, List.getElem?_append, List.length_take, Array.length_toList]
  have h1 : min k cs.size = k := by omega
  rw [h1]
  by_cases hk : i < k
  · rw [if_neg (by omega), if_pos hk, List.getElem?_take, if_pos hk, Array.getElem?_toList]
  · rw [if_neg hk]
    by_cases h2 : i < k + vs.length
    · rw [if_pos ⟨by omega, h2⟩, if_pos (by omega)]
    · rw [if_neg (by omega), if_neg (by omega), List.getElem?_drop, Array.getElem?_toList]
      congr 1; omega
theorem relCsV_splice {ts us : List V} {vs ws : List Value} {k : Nat} (h : RelCsV X ts vs) (h' : RelCsV X us ws) : RelCsV X (splice ts k us) (splice vs k ws) := by
  unfold splice
  rw [relCsV_len h']
  exact relCsV_append (relCsV_append (relCsV_take k h) h') (relCsV_drop _ h)
theorem splice_len {α : Type} {cs vs : List α} {k : Nat} (h : k + vs.length ≤ cs.length) : (splice cs k vs).length = cs.length := by
  unfold splice; simp; omega
theorem fill_sim {place : Nat → Option (Nat × Nat)} {place' : Nat → Option (Nat × Nat)} (hp : ∀ i r, place i = some r → place' i = some r) : ∀ (ps : List (Nat × V)) (xs : List (Nat × Value)) (cs : List V) (vs : Array Value) (r : List V),
    PartsRel X ps xs → RelCsV X cs vs.toList → fillV place cs ps = some r → ∃ r', Instr.fill place' vs xs = some r' ∧ RelCsV X r r'.toList
  | [], xs, cs, vs, r, h, hc, hr => by
    simp only [PartsRel] at h; subst h
    simp only [fillV, Option.some.injEq] at hr; subst hr
    exact ⟨vs, rfl, hc⟩
  | (i, v) :: ps, xs, cs, vs, r, h, hc, hr => by
    simp only [PartsRel] at h; obtain ⟨x, xs', rfl, hx, h⟩ := h
    simp only [fillV] at hr
    split at hr
    · next off size hpl =>
      split at hr
      · next hb =>
        obtain ⟨hs, hn, hl⟩ := hb
        have hsz := size_rel hx hs
        have hcl := relCsV_len hc
        simp only [Instr.fill, hp i _ hpl]
        have : ¬ ((decide (x.cells.size ≠ size) || decide (off + x.cells.size > vs.size)) = true) := by
          simp at hcl
          simp; omega
        rw [if_neg this]
        have hz : x.cells.zipIdx.foldl (fun cs (c, j) => cs.setIfInBounds (off + j) c) vs = spl vs off x.cells.toList := by
          rw [← Array.foldl_toList]
          simpa using foldl_set vs off x.cells.toList 0
        have hb2 : off + x.cells.toList.length ≤ vs.size := by simp at hcl ⊢; omega
        refine fill_sim hp ps xs' _ _ r h ?_ hr
        rw [hz, spl_list _ _ _ hb2]
        exact relCsV_splice hc (cells_rel hx hs)
      · cases hr
    · cases hr
theorem build_sim {t : TypeId} {parts : List (Nat × V)} {xs : Array (Nat × Value)} {v : V} (h : PartsRel X parts xs.toList) (hv : buildV P t parts = some v) (w : World) :
    ∃ r, (Instr.build t xs).run P w = .ok r w ∧ RelV X v r := by
  unfold buildV at hv
  split at hv
  · next zs hz =>
    obtain ⟨z, hzr, hzrel⟩ := run_zero (X := X) hz w
    simp only [RelV] at hzrel
    obtain ⟨zv, rfl, hzc⟩ := hzrel
    split at hv
    · next n e ha =>
      have hu := arrT_spec ha
      split at hv
      · next hpos =>
        obtain ⟨ie, hie⟩ := info_of_sz hpos
        cases hf : fillV (fun i => some (i * sz P e, sz P e)) zs parts with
        | none => rw [hf] at hv; cases hv
        | some r =>
          rw [hf] at hv; simp only [Option.map_some, Option.some.injEq] at hv; subst hv
          obtain ⟨r', h1, h2⟩ := fill_sim (place' := fun i => some (i * sz P e, sz P e)) (fun _ _ hh => hh) parts xs.toList zs zv r h hzc hf
          refine ⟨.agg r', ?_, by simp only [RelV]; exact ⟨r', rfl, h2⟩⟩
          simp only [Instr.build, run_bind, hzr, run_underlying hu, run_sizeOf hie, Value.cells, h1, run_pure]
      · cases hv
    · next ha =>
      split at hv
      · next hok =>
        unfold fieldsOk at hok
        split at hok
        · next fs hu =>
          simp only [List.all_eq_true] at hok
          cases hf : fillV (fun f => (foff P t f).map fun o => (o, sz P (ftype P t f))) zs parts with
          | none => rw [hf] at hv; cases hv
          | some r =>
            rw [hf] at hv; simp only [Option.map_some, Option.some.injEq] at hv; subst hv
            have hpl : ∀ i r, (foff P t i).map (fun o => (o, sz P (ftype P t i))) = some r → (fs.map fun f => (f.offset, sz P f.type))[i]? = some r := by
              intro i r hr
              simp only [foff, hu] at hr
              cases hfi : fs[i]? with
              | none => simp [hfi] at hr
              | some f =>
                simp only [hfi] at hr
                split at hr
                · simp at hr
                · simp only [Option.map_some, Option.some.injEq] at hr; subst hr
                  simp [ftype, hu, hfi]
            obtain ⟨r', h1, h2⟩ := fill_sim (place' := ((fs.map fun f => (f.offset, sz P f.type))[·]?)) hpl parts xs.toList zs zv r h hzc hf
            refine ⟨.agg r', ?_, by simp only [RelV]; exact ⟨r', rfl, h2⟩⟩
            have hm := run_mapM_array (P := P) (fun f : Field => (do pure (f.offset, ← sizeOf f.type) : Sem (Nat × Nat))) (fun f => (f.offset, sz P f.type)) w fs (fun f hfm => by
              have := hok f hfm
              obtain ⟨i, hi⟩ := Option.isSome_iff_exists.1 this
              simp only [run_bind, run_sizeOf hi, run_pure])
            simp only [Instr.build, run_bind, hzr, run_underlying hu, hm, Value.cells, h1, run_pure]
        · cases hok
      · cases hv
  · cases hv
theorem iface_sim {t : TypeId} {x : V} {y : Value} {z : T} (h : RelV X x y) (hi : isIface P t = false) (hu : ∃ d, P.underlying t = some d) (hz : x.asT = some z) (w : World) :
    ∃ r, (Instr.makeInterface t y).run P w = .ok r w ∧ RelV X (.t (.iface t z)) r := by
  obtain ⟨d, hu⟩ := hu
  refine ⟨.iface t y, ?_, by simp only [RelV, RelT]; exact ⟨y, rfl, asT_rel _ _ _ hz h⟩⟩
  unfold isIface at hi
  rw [hu] at hi
  simp only [Instr.makeInterface, run_bind, run_underlying hu]
  cases d <;> first | rfl | cases hi
theorem assert_sim {x v : V} {y : Value} {xt t : TypeId} {ok : Bool} (h : RelV X x y) (hv : assertV P x t ok = some v) (w : World) : ∃ r, (Instr.typeAssert y xt t ok).run P w = .ok r w ∧ RelV X v r := by
  unfold assertV at hv
  split at hv
  · cases hv
  · next hi =>
    split at hv
    · cases hv
    · next d hu =>
      have hd : ∀ ms, d ≠ .interface ms := by
        intro ms he; subst he; simp [isIface, hu] at hi
      split at hv
      · next u z =>
        simp only [RelV, RelT] at h
        obtain ⟨q, rfl, h⟩ := h
        split at hv
        · next hut =>
          subst hut
          simp only [Option.some.injEq] at hv; subst hv
          cases ok with
          | true =>
            refine ⟨.tuple #[q, .bool true], ?_, ?_⟩
            · simp only [Instr.typeAssert, run_bind, run_underlying hu]
              cases d <;> first | exact absurd rfl (hd _) | simp [run_pure]
            · simp only [if_true, RelV]; exact ⟨_, rfl, q, [.bool true], rfl, by simpa only [RelV] using h, _, [], rfl, bool_rel _ _, rfl⟩
          | false =>
            refine ⟨q, ?_, ?_⟩
            · simp only [Instr.typeAssert, run_bind, run_underlying hu]
              cases d <;> first | exact absurd rfl (hd _) | simp [run_pure]
            · simpa only [Bool.false_eq_true, if_false, RelV] using h
        · next hut =>
          split at hv
          · next hok =>
            subst hok
            cases hzz : zeroV P t with
            | none => rw [hzz] at hv; cases hv
            | some zz =>
              rw [hzz] at hv; simp only [Option.map_some, Option.some.injEq] at hv; subst hv
              obtain ⟨zv, h1, h2⟩ := run_zero (X := X) hzz w
              refine ⟨.tuple #[zv, .bool false], ?_, ?_⟩
              · simp only [Instr.typeAssert, run_bind, run_underlying hu]
                cases d <;> first | exact absurd rfl (hd _) | simp [h1, hut]
              · simp only [RelV]; exact ⟨_, rfl, zv, [.bool false], rfl, h2, _, [], rfl, bool_rel _ _, rfl⟩
          · cases hv
      · next =>
        simp only [RelV, RelT] at h; subst h
        split at hv
        · next hok =>
          subst hok
          cases hzz : zeroV P t with
          | none => rw [hzz] at hv; cases hv
          | some zz =>
            rw [hzz] at hv; simp only [Option.map_some, Option.some.injEq] at hv; subst hv
            obtain ⟨zv, h1, h2⟩ := run_zero (X := X) hzz w
            refine ⟨.tuple #[zv, .bool false], ?_, ?_⟩
            · simp only [Instr.typeAssert, run_bind, run_underlying hu]
              cases d <;> first | exact absurd rfl (hd _) | simp [h1]
            · simp only [RelV]; exact ⟨_, rfl, zv, [.bool false], rfl, h2, _, [], rfl, bool_rel _ _, rfl⟩
        · cases hv
      · cases hv
end Go.Pv
/- All operations on values alone. Conditions: as each lemma says. -/
namespace Go.Pv
variable {X : Ctx}

theorem run_v {P : Program} {s : Sem Value} {r : Value} {w w' : World} (h : s.run P w = .ok r w') : ((do pure (.value (← s))) : Sem Next).run P w = .ok (.value r) w' := by
  simp only [run_bind, h, run_pure]
theorem optRel {X : Ctx} {ts : Tmps} {a : Act} (h : TRel X ts a) : ∀ (x : Option Operand), BndRel X (x.map (opd ts)) (x.map a.eval)
  | none => trivial
  | some x => opd_rel h x
theorem relVs_arr {X : Ctx} {ts : Tmps} {a : Act} (h : TRel X ts a) (l : Array Operand) : RelVs X (l.toList.map (opd ts)) (l.map a.eval).toList := by
  simpa using relVs_map h l.toList
theorem pure_sim (C : Cfg) {o : Oper} {ts : Tmps} {a : Act} {v : V} (hT : TRel X ts a) (hc : cls C o.op = 0) (hb : ∀ t n ps, o.op ≠ .buildSlice t n ps) (h : pureOp C.P (opd ts) o.op = some v) :
    ∃ x, (execOp a.eval o).run C.P X.w = .ok (.value x) X.w ∧ RelV X v x := by
  obtain ⟨dst, op, type, pos, after, guard⟩ := o
  simp only at hc hb h ⊢
  cases op with
  | move x =>
    simp only [pureOp, Option.some.injEq] at h; subst h
    exact ⟨_, rfl, opd_rel hT x⟩
  | assign x =>
    simp only [pureOp, Option.some.injEq] at h; subst h
    exact ⟨_, rfl, opd_rel hT x⟩
  | pick c x y =>
    simp only [pureOp] at h
    split at h
    · next b hcb =>
      simp only [Option.some.injEq] at h; subst h
      have hr := opd_rel hT c
      rw [hcb] at hr
      have := rel_bool hr
      refine ⟨if b then a.eval x else a.eval y, ?_, ?_⟩
      · simp only [execOp, this]; rfl
      · cases b
        · exact opd_rel hT y
        · exact opd_rel hT x
    · cases h
  | buildSlice t n ps => exact absurd rfl (hb t n ps)
  | build t ps =>
    simp only [pureOp] at h
    obtain ⟨r, h1, h2⟩ := build_sim (xs := ps.map fun x => (x.1, a.eval x.2)) (by simpa using partsRel_map hT ps.toList) h X.w
    exact ⟨r, run_v h1, h2⟩
  | fieldAddr t x f =>
    simp only [pureOp] at h
    split at h
    · next d hf =>
      obtain ⟨r, h1, h2⟩ := fieldAddr_sim (opd_rel hT x) hf h X.w
      exact ⟨r, run_v h1, h2⟩
    · cases h
  | field t x f =>
    simp only [pureOp] at h
    obtain ⟨r, h1, h2⟩ := field_sim (opd_rel hT x) h X.w
    exact ⟨r, run_v h1, h2⟩
  | unOp op t x =>
    simp only [pureOp] at h
    obtain ⟨r, h1, h2⟩ := un_sim (P := C.P) (opd_rel hT x) h X.w
    exact ⟨r, run_v h1, h2⟩
  | makeInterface t x =>
    simp only [pureOp] at h
    split at h
    · cases h
    · next hi =>
      split at h
      · next d z hu hz =>
        simp only [Option.some.injEq] at h; subst h
        obtain ⟨r, h1, h2⟩ := iface_sim (opd_rel hT x) (by simpa using hi) ⟨d, hu⟩ hz X.w
        exact ⟨r, run_v h1, h2⟩
      · cases h
  | makeFunc f fi ca =>
    simp only [pureOp, Option.some.injEq] at h; subst h
    exact ⟨_, rfl, makeFunc_sim (relVs_arr hT fi) (relVs_arr hT ca)⟩
  | extract x i =>
    simp only [pureOp] at h
    obtain ⟨r, h1, h2⟩ := extract_sim (P := C.P) (opd_rel hT x) h X.w
    exact ⟨r, run_v h1, h2⟩
  | nilCheck x =>
    simp only [pureOp] at h
    have hr := opd_rel hT x
    split at h
    · next p g i o' hx =>
      simp only [Option.some.injEq] at h; subst h
      rw [hx] at hr
      refine ⟨a.eval x, ?_, hr⟩
      simp only [RelV] at hr
      obtain ⟨_, ad, he, _⟩ := hr
      simp only [execOp, he]; rfl
    · next v' o' hx =>
      simp only [Option.some.injEq] at h; subst h
      rw [hx] at hr
      refine ⟨a.eval x, ?_, hr⟩
      simp only [RelV] at hr
      obtain ⟨b, o2, he, _⟩ := hr
      simp only [execOp, he]; rfl
    · cases h
  | binOp op t x y yt =>
    simp only [pureOp] at h
    obtain ⟨r, h1, h2⟩ := bin_sim (opd_rel hT x) (opd_rel hT y) (fun _ => trivial) h X.w
    exact ⟨r, run_v h1, h2⟩
  | indexAddr t x i =>
    simp only [pureOp] at h
    obtain ⟨r, h1, h2⟩ := indexAddr_sim (opd_rel hT x) (opd_rel hT i) h X.w
    exact ⟨r, run_v h1, h2⟩
  | index t x i =>
    simp only [pureOp] at h
    obtain ⟨r, h1, h2⟩ := index_sim (opd_rel hT x) (opd_rel hT i) h X.w
    exact ⟨r, run_v h1, h2⟩
  | slice t x lo hi mx =>
    simp only [pureOp] at h
    obtain ⟨r, h1, h2⟩ := slice_sim (opd_rel hT x) (optRel hT lo) (optRel hT hi) (optRel hT mx) h X.w
    exact ⟨r, run_v h1, h2⟩
  | typeAssert x xt t ok =>
    simp only [pureOp] at h
    obtain ⟨r, h1, h2⟩ := assert_sim (xt := xt) (opd_rel hT x) h X.w
    exact ⟨r, run_v h1, h2⟩
  | convert src dst x =>
    simp only [pureOp] at h
    obtain ⟨r, h1, h2⟩ := conv_sim (opd_rel hT x) h X.w
    exact ⟨r, run_v h1, h2⟩
  | call c =>
    obtain ⟨callee, args, argTypes⟩ := c
    cases callee with
    | value f =>
      exfalso
      cases f <;> simp [cls] at hc
      split at hc <;> cases hc
    | invoke r n => simp [cls] at hc
    | builtin b =>
      have hr := relVs_arr hT args
      cases b <;> simp only [pureOp] at h <;> try cases h; done
      case len =>
        split at h
        · next t x ht hx =>
          have hx' : (args.map a.eval)[0]? = some (a.eval x) := by simp [hx]
          obtain ⟨r, h1, h2⟩ := len_sim (ty := type) (args := args.map a.eval) ht hx' (opd_rel hT x) h X.w
          exact ⟨r, by simp only [execOp, resolve, run_bind, run_pure, invoke, builtin, h1], h2⟩
        · cases h
      case max =>
        obtain ⟨r, h1, h2⟩ := max_sim (P := C.P) (at_ := #[]) (att := argTypes) (ty := type) (args := args.map a.eval) hr h X.w
        exact ⟨r, by simp only [execOp, resolve, run_bind, run_pure, invoke, builtin, h1], h2⟩
      case min =>
        obtain ⟨r, h1, h2⟩ := min_sim (P := C.P) (at_ := #[]) (att := argTypes) (ty := type) (args := args.map a.eval) hr h X.w
        exact ⟨r, by simp only [execOp, resolve, run_bind, run_pure, invoke, builtin, h1], h2⟩
  | _ => simp [pureOp] at h
end Go.Pv
