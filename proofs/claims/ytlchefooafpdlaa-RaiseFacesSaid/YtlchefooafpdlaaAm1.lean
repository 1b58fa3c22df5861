/- THE ABSTRACT MACHINE, ITS VALUES AND ITS OPERATIONS: definitions only; nothing is proved of the program here. -/
import Derived.RangeFuncLeaves
import Derived.KernelRfl
namespace Go.Am

/-- Frozen data. -/
inductive DV where
  | int (k : IntKind) (n : Int)
  | bool (b : Bool)
  | str (s : ByteArray)
  | agg (cs : List DV)
  | nilsl
  | sl (es : Nat) (xs : List (List DV))
  | nilp
  | nilf
  | fn (f : FuncId) (caps : List DV)
  | box (cs : List DV)
  | tup (vs : List DV)

/-- Values of the abstract machine: data, or what points into its own blocks. -/
inductive V where
  | d (x : DV)
  | agg (cs : List V)
  | ref (n es i j : Nat)
  | dref (cs : List DV) (j : Nat)
  | hs (n es off len : Nat)
  | fn (f : FuncId) (caps : List V)
  | tup (vs : List V)
  | yld (n : Nat)
  | dead

inductive Blk where
  | dead
  | dat (es : Nat) (xs : List (List DV))
  | cel (es : Nat) (xs : List (List V))
  | loop (slots : List (Nat × V)) (ps : List Tmp) (assign body : Code) (s : LoopState) (pending : Option Code)

structure AS where
  sl : List (Nat × V)
  hp : List (Nat × Blk)
  nx : Nat

def find {α : Type} : List (Nat × α) → Nat → Option α
  | [], _ => none
  | (k, v) :: r, t => match Nat.beq k t with
    | true => some v
    | false => find r t

def repl {α : Type} : List (Nat × α) → Nat → α → List (Nat × α)
  | [], _, _ => []
  | (k, v) :: r, t, x => match Nat.beq k t with
    | true => (k, x) :: r
    | false => (k, v) :: repl r t x

def AS.get (st : AS) (t : Tmp) : Option V := find st.sl t
def AS.put (st : AS) (t : Tmp) (v : V) : AS := { st with sl := (t, v) :: st.sl }
def AS.putD (st : AS) (t : Option Tmp) (v : V) : AS := match t with
  | some t => st.put t v
  | none => st
def AS.blk (st : AS) (n : Nat) : Option Blk := find st.hp n
def AS.setBlk (st : AS) (n : Nat) (b : Blk) : AS := { st with hp := repl st.hp n b }
def AS.new (st : AS) (b : Blk) : AS := { st with hp := (st.nx, b) :: st.hp, nx := st.nx + 1 }

/-- A constant of the text, or a zero cell. -/
def constC : Value → Option DV
  | .int k n => some (.int k n)
  | .bool b => some (.bool b)
  | .string s => some (.str s)
  | .pointer none => some .nilp
  | .slice none 0 0 => some .nilsl
  | .nilFunc => some .nilf
  | _ => none

def constV : Value → Option DV
  | .agg cs => (cs.toList.mapM constC).map .agg
  | v => constC v

def AS.ev (st : AS) : Operand → Option V
  | .tmp t => st.get t
  | .const v => (constV v).map .d
  | .func f => some (.d (.fn f []))
  | .global _ => none

inductive TK where
  | bool | int (k : IntKind) | str | ptr | func | slice | array | struct
  deriving DecidableEq

structure TI where
  kind : TK
  size : Nat
  zero : List DV
  flds : List (Nat × Nat × Bool) := []
  len : Nat := 0
  esize : Nat := 0
  eagg : Bool := false
  ebytes : Nat := 0
  ezero : List DV := []
  eqs : Option (List (Option IntKind)) := none

def TI.agg (i : TI) : Bool := match i.kind with
  | .array | .struct => true
  | _ => false

def aggDesc : TypeDesc → Bool
  | .struct _ | .array .. => true
  | _ => false

/-- The fields lie one behind the other: the kinds of their cells. -/
def tile (P : Program) (pk : TypeId → Option (List (Option IntKind))) : Nat → List Field → Option (List (Option IntKind))
  | _, [] => some []
  | o, f :: r => match pk f.type with
    | some a => if f.offset = o ∧ f.name ≠ "_" ∧ P.cellsOf f.type = a.length then
        match tile P pk (o + a.length) r with
        | some b => some (a ++ b)
        | none => none
      else none
    | none => none

/-- The type's values are rows of integers and bools (none: a bool), with no gap: '==' goes cell by cell. -/
def plainEq (P : Program) : Nat → TypeId → Option (List (Option IntKind))
  | 0, _ => none
  | d + 1, t => match P.underlying t with
    | some .bool => some [none]
    | some (.int k) => some [some k]
    | some (.struct fs) => if P.stoodInHeld t then none else tile P (plainEq P d) 0 fs.toList
    | some (.array n e) => match plainEq P d e with
      | some a => if P.cellsOf e = a.length then some (List.replicate n a).flatten else none
      | none => none
    | _ => none

/-- What the program's tables say of a type that the machine knows. -/
def tiOf (P : Program) (t : TypeId) : Option TI := do
  let info ← P.info? t
  let d ← P.underlying t
  let z ← info.zero
  let zc ← z.cells.toList.mapM constC
  if zc.length ≠ info.size ∨ info.size = 0 then none else
  match d with
  | .bool => if info.size = 1 then some { kind := .bool, size := info.size, zero := zc } else none
  | .int k => if info.size = 1 then some { kind := .int k, size := info.size, zero := zc } else none
  | .string => if info.size = 1 then some { kind := .str, size := info.size, zero := zc } else none
  | .pointer _ => if info.size = 1 then some { kind := .ptr, size := info.size, zero := zc } else none
  | .func .. => if info.size = 1 then some { kind := .func, size := info.size, zero := zc } else none
  | .slice e => do
    let ie ← P.info? e
    let de ← P.underlying e
    let ze ← ie.zero
    let ezc ← ze.cells.toList.mapM constC
    if ezc.length ≠ ie.size ∨ ie.size = 0 ∨ ie.bytes = 0 ∨ info.size ≠ 1 then none else
    some { kind := .slice, size := info.size, zero := zc, esize := ie.size, eagg := aggDesc de, ebytes := ie.bytes, ezero := ezc }
  | .array n e => do
    let ie ← P.info? e
    let de ← P.underlying e
    if ie.size = 0 then none else
    some { kind := .array, size := info.size, zero := zc, len := n, esize := ie.size, eagg := aggDesc de, eqs := plainEq P 8 t }
  | .struct fs => do
    let fl ← fs.toList.mapM fun f => do
      let jf ← P.info? f.type
      let df ← P.underlying f.type
      if jf.size = 0 then none else some (f.offset, jf.size, aggDesc df)
    some { kind := .struct, size := info.size, zero := zc, flds := fl, eqs := plainEq P 8 t }
  | _ => none

abbrev Tab := TypeId → Option TI
def TabOk (P : Program) (T : Tab) : Prop := ∀ t i, T t = some i → tiOf P t = some i

/-- A table as a list. -/
def tabOf (l : List (Nat × TI)) : Tab := find l

def isCell : DV → Bool
  | .agg _ | .tup _ => false
  | _ => true

def vCell : V → Bool
  | .agg _ | .tup _ | .dead => false
  | .d x => isCell x
  | _ => true

def allD : List V → Option (List DV)
  | [] => some []
  | .d x :: r => match allD r with
    | some l => some (x :: l)
    | none => none
  | _ :: _ => none

def V.isD : V → Bool
  | .d _ => true
  | _ => false

def cellsOf : V → List V
  | .agg cs => cs
  | .d (.agg cs) => cs.map .d
  | v => [v]

def mkAgg (cs : List V) : V := match allD cs with
  | some ds => .d (.agg ds)
  | none => .agg cs

/-- A variable of one type out of cells: the whole, or the one cell. -/
def pack (agg : Bool) (cs : List V) : Option V := match agg, cs with
  | true, cs => some (mkAgg cs)
  | false, [c] => some c
  | false, _ => none

def packD (agg : Bool) (cs : List DV) : Option DV := match agg, cs with
  | true, cs => some (.agg cs)
  | false, [c] => some c
  | false, _ => none

/-- The cells j .. j + s of an element. -/
def sub {α : Type} (cs : List α) (j s : Nat) : Option (List α) :=
  if j + s ≤ cs.length then some ((cs.drop j).take s) else none

def mkBlk (es : Nat) (xs : List (List V)) : Blk := match xs.mapM allD with
  | some ys => .dat es ys
  | none => .cel es xs

def loadP (st : AS) (i : TI) : V → Option V
  | .ref n es a j => match st.blk n with
    | some (.dat k xs) => match Nat.beq k es, xs[a]? with
      | true, some cs => match sub cs j i.size with
        | some r => (packD i.agg r).map .d
        | none => none
      | _, _ => none
    | some (.cel k xs) => match Nat.beq k es, xs[a]? with
      | true, some cs => match sub cs j i.size with
        | some r => pack i.agg r
        | none => none
      | _, _ => none
    | _ => none
  | .dref cs j => match sub cs j i.size with
    | some r => (packD i.agg r).map .d
    | none => none
  | .d (.box cs) => match sub cs 0 i.size with
    | some r => (packD i.agg r).map .d
    | none => none
  | _ => none

/-- Cells j .. of an element replaced. -/
def splice {α : Type} (cs : List α) (j : Nat) (ys : List α) : List α := cs.take j ++ ys ++ cs.drop (j + ys.length)

def storeP (st : AS) (i : TI) (p v : V) : Option AS := match p with
  | .ref n k a j =>
    if (cellsOf v).length ≠ i.size ∨ (cellsOf v).all vCell = false then none else
    match st.blk n with
    | some (.dat es xs) => match Nat.beq k es, xs[a]? with
      | true, some cs => if j + i.size ≤ cs.length then
          match allD (cellsOf v) with
          | some ds => some (st.setBlk n (.dat es (xs.set a (splice cs j ds))))
          | none => some (st.setBlk n (.cel es ((xs.map (·.map V.d)).set a (splice (cs.map V.d) j (cellsOf v)))))
        else none
      | _, _ => none
    | some (.cel es xs) => match Nat.beq k es, xs[a]? with
      | true, some cs => if j + i.size ≤ cs.length then some (st.setBlk n (.cel es (xs.set a (splice cs j (cellsOf v))))) else none
      | _, _ => none
    | _ => none
  | _ => none

def mapM' {α β : Type} (f : α → Option β) : List α → Option (List β)
  | [] => some []
  | x :: r => match f x with
    | some y => match mapM' f r with
      | some l => some (y :: l)
      | none => none
    | none => none

/-- Deep freezing, to a depth. -/
def toD (hp : List (Nat × Blk)) : Nat → V → Option DV
  | 0, .d x => some x
  | 0, _ => none
  | _ + 1, .d x => some x
  | k + 1, .agg cs => (mapM' (toD hp k) cs).map .agg
  | k + 1, .tup cs => (mapM' (toD hp k) cs).map .tup
  | k + 1, .fn f cs => (mapM' (toD hp k) cs).map (.fn f)
  | k + 1, .hs n es off len => match find hp n with
    | some (.dat m xs) => if off + len ≤ xs.length ∧ m = es then some (.sl es ((xs.drop off).take len)) else none
    | some (.cel m xs) => if off + len ≤ xs.length ∧ m = es then (mapM' (mapM' (toD hp k)) ((xs.drop off).take len)).map (.sl es) else none
    | _ => none
  | k + 1, .ref n _ i j => match find hp n with
    | some (.dat _ xs) => match i, j, xs with
      | 0, 0, [cs] => some (.box cs)
      | _, _, _ => none
    | some (.cel _ xs) => match i, j, xs with
      | 0, 0, [cs] => (mapM' (toD hp k) cs).map .box
      | _, _, _ => none
    | _ => none
  | _ + 1, _ => none

def DV.scalar : DV → Bool
  | .int .. | .bool _ | .str _ | .nilsl | .nilp | .nilf => true
  | .tup vs => go vs
  | .agg vs => go vs
  | _ => false
where go : List DV → Bool
  | [] => true
  | .int .. :: r | .bool _ :: r | .str _ :: r | .nilsl :: r | .nilp :: r | .nilf :: r => go r
  | _ :: _ => false

/-- Equality of plain cells. -/
def cellEq : Option IntKind → DV → DV → Option Bool
  | some k, .int j a, .int j' b => if k = j ∧ k = j' then some (a == b) else none
  | none, .bool a, .bool b => some (a == b)
  | _, _, _ => none

def cellsEq : List (Option IntKind) → List DV → List DV → Option Bool
  | [], [], [] => some true
  | k :: ks, a :: r, b :: s => match cellEq k a b, cellsEq ks r s with
    | some x, some y => some (x && y)
    | _, _ => none
  | _, _, _ => none

def eqK : TK → DV → DV → Option Bool
  | .bool, .bool a, .bool b => some (a == b)
  | .str, .str a, .str b => some (a.toList == b.toList)
  | .slice, .nilsl, .nilsl => some true
  | .slice, .nilsl, .sl _ (_ :: _) => some false
  | .slice, .sl _ (_ :: _), .nilsl => some false
  | .func, .nilf, .nilf => some true
  | .func, .nilf, .fn .. => some false
  | .func, .fn .., .nilf => some false
  | _, _, _ => none

def binI (op : BinOp) (k : IntKind) (x y : Int) : Option DV := match op with
  | .add => some (.int k (k.wrap (x + y)))
  | .sub => some (.int k (k.wrap (x - y)))
  | .mul => some (.int k (k.wrap (x * y)))
  | .quo => if y = 0 then none else some (.int k (k.wrap (x.tdiv y)))
  | .rem => if y = 0 then none else some (.int k (x.tmod y))
  | .and => some (.int k (k.wrap (BitVec.ofInt k.bits x &&& BitVec.ofInt k.bits y).toNat))
  | .or => some (.int k (k.wrap (BitVec.ofInt k.bits x ||| BitVec.ofInt k.bits y).toNat))
  | .xor => some (.int k (k.wrap (BitVec.ofInt k.bits x ^^^ BitVec.ofInt k.bits y).toNat))
  | .eql => some (.bool (x == y))
  | .neq => some (.bool (x != y))
  | .lss => some (.bool (decide (x < y)))
  | .leq => some (.bool (decide (x ≤ y)))
  | .gtr => some (.bool (decide (x > y)))
  | .geq => some (.bool (decide (x ≥ y)))
  | _ => none

def shiftI (op : BinOp) (k : IntKind) (x y : Int) : Option DV :=
  if y < 0 then none else match op with
    | .shl => some (.int k (k.wrap (x * 2 ^ (min y.toNat k.bits))))
    | .shr => some (.int k (x.fdiv (2 ^ (min y.toNat k.bits))))
    | _ => none

def binD (op : BinOp) (x y : DV) : Option DV := match op, x, y with
  | .shl, .int k a, .int _ b => shiftI .shl k a b
  | .shr, .int k a, .int _ b => shiftI .shr k a b
  | op, .int k a, .int k' b => if k = k' then binI op k a b else none
  | _, _, _ => none

def binE (op : BinOp) (k : TK) (x y : DV) : Option DV := match op with
  | .eql => (eqK k x y).map .bool
  | .neq => (eqK k x y).map fun b => .bool (!b)
  | _ => none

def unD (op : UnOp) (x : DV) : Option DV := match op, x with
  | .neg, .int k n => some (.int k (k.wrap (0 - n)))
  | .not, .bool b => some (.bool !b)
  | .xor, .int k n => binI .xor k (if k.signed then -1 else k.max) n
  | _, _ => none

/-- The most cells that the machine lets a slice have. -/
def room : Nat := 4294967296

def fillL {α : Type} : List α → List (Nat × α) → Option (List α)
  | xs, [] => some xs
  | xs, (i, x) :: r => if i < xs.length then fillL (xs.set i x) r else none

def fillC {α : Type} : List α → List (Nat × List α) → Option (List α)
  | cs, [] => some cs
  | cs, (o, ys) :: r => if o + ys.length ≤ cs.length then fillC (splice cs o ys) r else none

/-- The parts of a struct or an array, with their places. -/
def placed (ti : TI) : List (Nat × V) → Option (List (Nat × List V))
  | [] => some []
  | (i, v) :: r =>
    let pl : Option (Nat × Nat) := match ti.kind with
      | .struct => (ti.flds[i]?).map fun f => (f.1, f.2.1)
      | .array => some (i * ti.esize, ti.esize)
      | _ => none
    match pl, placed ti r with
    | some (o, s), some l => if (cellsOf v).length = s ∧ (cellsOf v).all vCell = true then some ((o, cellsOf v) :: l) else none
    | _, _ => none

def elems (esize : Nat) : List (Nat × V) → Option (List (Nat × List V))
  | [] => some []
  | (i, v) :: r => match elems esize r with
    | some l => if (cellsOf v).length = esize ∧ (cellsOf v).all vCell = true then some ((i, cellsOf v) :: l) else none
    | none => none

def evParts (ev : Operand → Option V) : List (Nat × Operand) → Option (List (Nat × V))
  | [] => some []
  | (i, o) :: r => match ev o, evParts ev r with
    | some v, some l => some ((i, v) :: l)
    | _, _ => none

def evL (ev : Operand → Option V) : List Operand → Option (List V)
  | [] => some []
  | o :: r => match ev o, evL ev r with
    | some v, some l => some (v :: l)
    | _, _ => none

def asInt : V → Option (IntKind × Int)
  | .d (.int k n) => some (k, n)
  | _ => none

def lenV : V → Option Nat
  | .d .nilsl => some 0
  | .d (.sl _ xs) => some xs.length
  | .hs _ _ _ len => some len
  | .d (.str s) => some s.size
  | _ => none

/-- What a slice holds now. -/
def conts (st : AS) : V → Option (List (List V))
  | .d .nilsl => some []
  | .d (.sl _ xs) => some (xs.map (·.map .d))
  | .hs n es off len => match st.blk n with
    | some (.dat k xs) => if off + len ≤ xs.length ∧ k = es then some (((xs.drop off).take len).map (·.map .d)) else none
    | some (.cel k xs) => if off + len ≤ xs.length ∧ k = es then some ((xs.drop off).take len) else none
    | _ => none
  | _ => none

def contsD (st : AS) : V → Option (List (List DV))
  | .d .nilsl => some []
  | .d (.sl _ xs) => some xs
  | .hs n es off len => match st.blk n with
    | some (.dat k xs) => if off + len ≤ xs.length ∧ k = es then some ((xs.drop off).take len) else none
    | _ => none
  | _ => none

/-- A slice's element size fits. -/
def esFit (esize : Nat) : V → Bool
  | .d .nilsl => true
  | .d (.sl es _) => Nat.beq es esize
  | .hs _ es _ _ => Nat.beq es esize
  | _ => false

/-- append: onto nil, or onto a slice of the machine's own, whose old block is given up. -/
def appendV (st : AS) (ti : TI) (s x : V) : Option (V × AS) :=
  match s with
  | .d .nilsl => match contsD st x with
    | some ys => if ys.length * (ti.ebytes * 4) ≤ room then
        (if ys.length = 0 then some (.d .nilsl, st) else some (.hs st.nx ti.esize 0 ys.length, st.new (.dat ti.esize ys))) else none
    | none => match conts st x with
      | some ys => if ys.length * (ti.ebytes * 4) ≤ room then
          (if ys.length = 0 then some (.d .nilsl, st) else some (.hs st.nx ti.esize 0 ys.length, st.new (.cel ti.esize ys))) else none
      | none => none
  | .hs n es off len => match st.blk n, contsD st x with
    | some (.dat k xs), some ys =>
      if off + len ≤ xs.length ∧ k = es ∧ (len + ys.length) * (ti.ebytes * 4) ≤ room ∧ es = ti.esize then
        some (.hs st.nx es 0 (len + ys.length), (st.setBlk n .dead).new (.dat es ((xs.drop off).take len ++ ys)))
      else none
    | some (.dat k xs), none => match conts st x with
      | some ys => if off + len ≤ xs.length ∧ k = es ∧ (len + ys.length) * (ti.ebytes * 4) ≤ room ∧ es = ti.esize then
          some (.hs st.nx es 0 (len + ys.length), (st.setBlk n .dead).new (.cel es (((xs.drop off).take len).map (·.map .d) ++ ys)))
        else none
      | none => none
    | some (.cel k xs), _ => match conts st x with
      | some ys => if off + len ≤ xs.length ∧ k = es ∧ (len + ys.length) * (ti.ebytes * 4) ≤ room ∧ es = ti.esize then
          some (.hs st.nx es 0 (len + ys.length), (st.setBlk n .dead).new (.cel es ((xs.drop off).take len ++ ys)))
        else none
      | none => none
    | _, _ => none
  | _ => none

/-- copy, where nothing but plain data moves. -/
def copyV (st : AS) (d x : V) : Option (V × AS) := match d with
  | .hs n es off len => match st.blk n, contsD st x with
    | some (.dat k xs), some ys =>
      if off + len ≤ xs.length ∧ k = es then
        some (.d (.int .i64 (min ys.length len : Nat)), st.setBlk n (.dat es (splice xs off (ys.take (min ys.length len)))))
      else none
    | _, _ => none
  | _ => none

def minI (mx : Bool) : V → List V → Option V
  | v, [] => some v
  | .d (.int k a), .d (.int _ b) :: r => minI mx (.d (.int k (bif mx then (if b > a then b else a) else (if b < a then b else a)))) r
  | _, _ => none

def builtinV (T : Tab) (st : AS) (b : Builtin) (argTypes : Array TypeId) (vs : List V) : Option (V × AS) := match b, vs with
  | .len, [x] => match argTypes[0]? with
    | some t => match T t with
      | some i => match i.kind with
        | .array => some (.d (.int .i64 i.len), st)
        | .slice => match x with
          | .d .nilsl => some (.d (.int .i64 0), st)
          | .d (.sl _ xs) => some (.d (.int .i64 xs.length), st)
          | .hs _ _ _ len => some (.d (.int .i64 len), st)
          | _ => none
        | .str => match x with
          | .d (.str s) => some (.d (.int .i64 s.size), st)
          | _ => none
        | _ => none
      | none => none
    | none => none
  | .append, [s, x] => match argTypes[0]?, argTypes[1]? with
    | some t, some u => match T t, T u with
      | some i, some j => if i.kind = .slice ∧ j.kind = .slice ∧ esFit i.esize x = true then appendV st i s x else none
      | _, _ => none
    | _, _ => none
  | .copy, [s, x] => match argTypes[0]?, argTypes[1]? with
    | some t, some u => match T t, T u with
      | some i, some j => if i.kind = .slice ∧ j.kind = .slice ∧ esFit i.esize s = true ∧ esFit i.esize x = true then copyV st s x else none
      | _, _ => none
    | _, _ => none
  | .min, v :: r => (minI false v r).map (·, st)
  | .max, v :: r => (minI true v r).map (·, st)
  | _, _ => none

def fieldP (off : Nat) : V → Option V
  | .ref n es i j => some (.ref n es i (j + off))
  | .dref cs j => some (.dref cs (j + off))
  | .d (.box cs) => some (.dref cs off)
  | _ => none

def indexP (ti : TI) (x : V) (i : Int) : Option V := match ti.kind, x with
  | .slice, .d (.sl es xs) => if 0 ≤ i ∧ es = ti.esize then (xs[i.toNat]?).map fun cs => .dref cs 0 else none
  | .slice, .hs n es off len => if 0 ≤ i ∧ i < len ∧ es = ti.esize then some (.ref n es (off + i.toNat) 0) else none
  | .array, .ref n es a j => if 0 ≤ i ∧ i < ti.len then some (.ref n es a (j + i.toNat * ti.esize)) else none
  | .array, .dref cs j => if 0 ≤ i ∧ i < ti.len then some (.dref cs (j + i.toNat * ti.esize)) else none
  | .array, .d (.box cs) => if 0 ≤ i ∧ i < ti.len then some (.dref cs (i.toNat * ti.esize)) else none
  | _, _ => none

def sliceV (esize : Nat) (x : V) (lo hi : Nat) : Option V := match x with
  | .d .nilsl => if lo = 0 ∧ hi = 0 then some (.d .nilsl) else none
  | .d (.sl es xs) => if lo ≤ hi ∧ hi ≤ xs.length ∧ es = esize then some (.d (.sl es ((xs.drop lo).take (hi - lo)))) else none
  | .hs n es off len => if lo ≤ hi ∧ hi ≤ len ∧ es = esize then some (.hs n es (off + lo) (hi - lo)) else none
  | _ => none

def bound (st : AS) (dflt : Nat) : Option Operand → Option Nat
  | none => some dflt
  | some o => match st.ev o with
    | some (.d (.int _ n)) => if 0 ≤ n then some n.toNat else none
    | _ => none

def agD : V → Option (List V)
  | .d (.agg cs) => some (cs.map .d)
  | .agg cs => some cs
  | _ => none

/-- One operation that is no call of a function: its value, and the state behind it. -/
def opFn (T : Tab) (st : AS) (op : Op) : Option (V × AS) := match op with
  | .move x | .assign x => (st.ev x).map (·, st)
  | .pick c a b => match st.ev c with
    | some (.d (.bool true)) => (st.ev a).map (·, st)
    | some (.d (.bool false)) => (st.ev b).map (·, st)
    | _ => none
  | .alloc t => (T t).map fun i => (.ref st.nx i.size 0 0, st.new (.dat i.size [i.zero]))
  | .box t x => match T t, st.ev x with
    | some i, some v => if (cellsOf v).length = i.size ∧ (cellsOf v).all vCell = true then some (.ref st.nx i.size 0 0, st.new (mkBlk i.size [cellsOf v])) else none
    | _, _ => none
  | .build t ps => match T t, evParts st.ev ps.toList with
    | some i, some vs => if i.agg = true then match placed i vs with
        | some l => (fillC (i.zero.map .d) l).map fun cs => (mkAgg cs, st)
        | none => none
      else none
    | _, _ => none
  | .buildSlice t len ps => match T t, evParts st.ev ps.toList with
    | some i, some vs => match elems i.esize vs with
      | some l => if i.kind = .slice ∧ len * i.esize ≤ 16777216 then
          (fillL (List.replicate len (i.ezero.map .d)) l).map fun xs => (.hs st.nx i.esize 0 len, st.new (mkBlk i.esize xs)) else none
      | none => none
    | _, _ => none
  | .load t p => match T t, st.ev p with
    | some i, some v => (loadP st i v).map (·, st)
    | _, _ => none
  | .store t p x => match T t, st.ev p, st.ev x with
    | some i, some v, some y => (storeP st i v y).map (.dead, ·)
    | _, _, _ => none
  | .binOp op t x y _ => match st.ev x, st.ev y with
    | some (.d (.agg a)), some (.d (.agg b)) => match T t with
      | some i => match i.eqs with
        | some ks => match op, cellsEq ks a b with
          | .eql, some r => some (.d (.bool r), st)
          | .neq, some r => some (.d (.bool (!r)), st)
          | _, _ => none
        | none => none
      | none => none
    | some (.d (.int k a)), some (.d (.int k' b)) => (binD op (.int k a) (.int k' b)).map fun r => (.d r, st)
    | some (.d a), some (.d b) => match T t with
      | some i => (binE op i.kind a b).map fun r => (.d r, st)
      | none => none
    | _, _ => none
  | .unOp op _ x => match st.ev x with
    | some (.d a) => (unD op a).map fun r => (.d r, st)
    | _ => none
  | .convert src dst x => match T src, T dst, st.ev x with
    | some i, some j, some (.d (.int _ n)) => match i.kind, j.kind with
      | .int _, .int k => some (.d (.int k (k.wrap n)), st)
      | _, _ => none
    | _, _, _ => none
  | .makeFunc (.func f) first caps => if first.size = 0 then
      (evL st.ev caps.toList).map fun vs => ((match allD vs with | some ds => .d (.fn f ds) | none => .fn f vs), st) else none
  | .makeSlice t l c => match T t, st.ev l, st.ev c with
    | some i, some (.d (.int _ n)), some (.d (.int _ m)) =>
      if i.kind = .slice ∧ 0 ≤ n ∧ n ≤ m ∧ m * (i.ebytes * 4) ≤ room then
        some (.hs st.nx i.esize 0 n.toNat, st.new (.dat i.esize (List.replicate n.toNat i.ezero))) else none
    | _, _, _ => none
  | .slice t x lo hi mx => match T t, st.ev x with
    | some i, some v => if i.kind = .slice ∧ mx.isNone then match lenV v with
        | some n => match bound st 0 lo, bound st n hi with
          | some a, some b => (sliceV i.esize v a b).map (·, st)
          | _, _ => none
        | none => none
      else none
    | _, _ => none
  | .fieldAddr s p f => match T s, st.ev p with
    | some i, some v => match i.kind, i.flds[f]? with
      | .struct, some (off, _, _) => (fieldP off v).map (·, st)
      | _, _ => none
    | _, _ => none
  | .field s x f => match T s, st.ev x with
    | some i, some v => match i.kind, i.flds[f]?, agD v with
      | .struct, some (off, size, ag), some cs => match sub cs off size with
        | some r => (pack ag r).map (·, st)
        | none => none
      | _, _, _ => none
    | _, _ => none
  | .indexAddr t x ix => match T t, st.ev x, st.ev ix with
    | some i, some v, some (.d (.int _ n)) => (indexP i v n).map (·, st)
    | _, _, _ => none
  | .index t x ix => match T t, st.ev x, st.ev ix with
    | some i, some v, some (.d (.int _ n)) => match i.kind, agD v with
      | .array, some cs => if 0 ≤ n ∧ n < i.len then match sub cs (n.toNat * i.esize) i.esize with
          | some r => (pack i.eagg r).map (·, st)
          | none => none
        else none
      | .str, _ => match v with
        | .d (.str s) => (if 0 ≤ n then s[n.toNat]? else none).map fun b => (.d (.int .u8 b.toNat), st)
        | _ => none
      | _, _ => none
    | _, _, _ => none
  | .extract x k => match st.ev x with
    | some (.d (.tup vs)) => (vs[k]?).map fun v => (.d v, st)
    | some (.tup vs) => (vs[k]?).map (·, st)
    | _ => none
  | .nilCheck x => match st.ev x with
    | some (.ref n es i j) => some (.ref n es i j, st)
    | some (.dref cs j) => some (.dref cs j, st)
    | some (.d (.box cs)) => some (.d (.box cs), st)
    | some (.fn f cs) => some (.fn f cs, st)
    | some (.yld n) => some (.yld n, st)
    | some (.d (.fn f cs)) => some (.d (.fn f cs), st)
    | _ => none
  | .call { callee := .builtin b, args, argTypes } => match evL st.ev args.toList with
    | some vs => builtinV T st b argTypes vs
    | none => none
  | _ => none
end Go.Am
