/- THE ABSTRACT MACHINE: its runs, as a relation. -/
import Derived.Test.YtlchefooafpdlaaAm1
namespace Go.Am

inductive Ex where
  | nor
  | exit (id : Nat)
  | ret
  deriving DecidableEq

def Ex.block (id : Nat) : Ex → Ex
  | .exit id' => if id' = id then .nor else .exit id'
  | e => e

def Ex.code : Ex → Option Code
  | .nor => none
  | .exit id => some (.exit id)
  | .ret => some .ret

/-- The same datum, where 'nil' is forgotten. -/
inductive DLe : DV → DV → Prop
  | refl (x : DV) : DLe x x
  | nil (es : Nat) : DLe .nilsl (.sl es [])
  | tup {xs ys : List DV} : xs.length = ys.length → (∀ (i : Nat) (x y : DV), xs[i]? = some x → ys[i]? = some y → DLe x y) → DLe (.tup xs) (.tup ys)
  | agg {xs ys : List DV} : xs.length = ys.length → (∀ (i : Nat) (x y : DV), xs[i]? = some x → ys[i]? = some y → DLe x y) → DLe (.agg xs) (.agg ys)

/-- What is known of a value may be forgotten, its blocks be called by other names, its own row be frozen, a nil slice be taken for an empty row. (st: the state before.) -/
inductive Wv (st : AS) (ρ : Nat → Nat) (fz ph : List Nat) (nx : Nat) : V → V → Prop
  | dead (v : V) : Wv st ρ fz ph nx v .dead
  | d {x y : DV} : DLe x y → Wv st ρ fz ph nx (.d x) (.d y)
  | nil {m es : Nat} : m ∈ ph → m < nx → Wv st ρ fz ph nx (.d .nilsl) (.hs m es 0 0)
  | dref (cs : List DV) (j : Nat) : Wv st ρ fz ph nx (.dref cs j) (.dref cs j)
  | ref {n m es i j : Nat} : ρ m = n → m ∉ ph → m < nx → Wv st ρ fz ph nx (.ref n es i j) (.ref m es i j)
  | hs {n m es o l : Nat} : ρ m = n → m ∉ ph → m < nx → Wv st ρ fz ph nx (.hs n es o l) (.hs m es o l)
  | yld {n m : Nat} : ρ m = n → m ∉ ph → m < nx → Wv st ρ fz ph nx (.yld n) (.yld m)
  | fn {f : FuncId} {cs ds : List V} : cs.length = ds.length → (∀ (i : Nat) (c d : V), cs[i]? = some c → ds[i]? = some d → Wv st ρ fz ph nx c d) → Wv st ρ fz ph nx (.fn f cs) (.fn f ds)
  | agg {cs ds : List V} : cs.length = ds.length → (∀ (i : Nat) (c d : V), cs[i]? = some c → ds[i]? = some d → Wv st ρ fz ph nx c d) → Wv st ρ fz ph nx (.agg cs) (.agg ds)
  | tup {cs ds : List V} : cs.length = ds.length → (∀ (i : Nat) (c d : V), cs[i]? = some c → ds[i]? = some d → Wv st ρ fz ph nx c d) → Wv st ρ fz ph nx (.tup cs) (.tup ds)
  | frz {n es o l : Nat} {xs ys : List (List DV)} {k : Nat} : st.blk n = some (.dat k xs) → n ∈ fz → o + l ≤ xs.length → ys = (xs.drop o).take l → k = es → Wv st ρ fz ph nx (.hs n es o l) (.d (.sl es ys))
  | frzB {n es : Nat} {cs : List DV} {k : Nat} : st.blk n = some (.dat k [cs]) → n ∈ fz → k = es → Wv st ρ fz ph nx (.ref n es 0 0) (.d (.box cs))

inductive Wb (st : AS) (ρ : Nat → Nat) (fz ph : List Nat) (nx : Nat) : Blk → Blk → Prop
  | dead (b : Blk) : Wb st ρ fz ph nx b .dead
  | dat (es : Nat) (xs : List (List DV)) : Wb st ρ fz ph nx (.dat es xs) (.dat es xs)
  | cel {es : Nat} {xs ys : List (List V)} : xs.length = ys.length →
      (∀ (i : Nat) (x y : List V), xs[i]? = some x → ys[i]? = some y → x.length = y.length ∧ ∀ (j : Nat) (c d : V), x[j]? = some c → y[j]? = some d → Wv st ρ fz ph nx c d ∧ vCell d = true) → Wb st ρ fz ph nx (.cel es xs) (.cel es ys)
  | datcel {es : Nat} {xs : List (List DV)} {ys : List (List V)} : xs.length = ys.length →
      (∀ (i : Nat) (x : List DV) (y : List V), xs[i]? = some x → ys[i]? = some y → x.length = y.length ∧ ∀ (j : Nat) (c : DV) (d : V), x[j]? = some c → y[j]? = some d → Wv st ρ fz ph nx (.d c) d ∧ vCell d = true) → Wb st ρ fz ph nx (.dat es xs) (.cel es ys)
  | loop {s s' : List (Nat × V)} {ps : List Tmp} {as bo : Code} {dn : LoopState} {pe : Option Code} :
      (∀ t v', find s' t = some v' → ∃ v, find s t = some v ∧ Wv st ρ fz ph nx v v') → Wb st ρ fz ph nx (.loop s ps as bo dn pe) (.loop s' ps as bo dn pe)

structure Wk (base : Nat) (ρ : Nat → Nat) (fz ph : List Nat) (st st' : AS) : Prop where
  slots : ∀ t v', st'.get t = some v' → ∃ v, st.get t = some v ∧ Wv st ρ fz ph st'.nx v v'
  blocks : ∀ n b', st'.blk n = some b' → n < st'.nx ∧ ((n ∈ ph ∧ ∃ es, es ≠ 0 ∧ b' = .dat es []) ∨ (n ∉ ph ∧ ∃ b, st.blk (ρ n) = some b ∧ Wb st ρ fz ph st'.nx b b'))
  inj : ∀ n m b c, st'.blk n = some b → st'.blk m = some c → n ∉ ph → m ∉ ph → ρ n = ρ m → n = m
  free : ∀ n b, st'.blk n = some b → n ∉ ph → ρ n ∉ fz
  small : ∀ n, n < base → ρ n = n
  bs : base ≤ st'.nx
  frozen : ∀ n ∈ fz, base ≤ n
  phantom : ∀ n ∈ ph, base ≤ n

def setAll : List (Nat × V) → List Tmp → List V → List (Nat × V)
  | s, p :: ps, v :: vs => setAll ((p, v) :: s) ps vs
  | s, _, _ => s

def argSlots : Nat → List V → List (Nat × V)
  | _, [] => []
  | k, v :: r => (k, v) :: argSlots (k + 1) r

/-- A function's results, as its frame holds them. -/
def resOne (T : Tab) (st : AS) : ResultVar → Option V
  | .tmp t => st.get t
  | .cell t ty => match st.get t, T ty with
    | some p, some i => loadP st i p
    | _, _ => none

def resL (T : Tab) (st : AS) : List ResultVar → Option (List V)
  | [] => some []
  | r :: l => match resOne T st r, resL T st l with
    | some v, some vs => some (v :: vs)
    | _, _ => none

def mkTup (vs : List V) : V := match allD vs with
  | some ds => .d (.tup ds)
  | none => .tup vs

def resV (T : Tab) (st : AS) (rs : List ResultVar) : Option V := match resL T st rs with
  | some [v] => some v
  | some vs => some (mkTup vs)
  | none => none

def guardOk (ops : Array Oper) (st : AS) (o : Oper) : Option Bool := match o.guard with
  | none => some true
  | some (j, want) => match (ops[j]?).bind (·.dst) with
    | some t => match st.get t with
      | some (.d (.bool b)) => some (b == want)
      | some (.d (.tup [])) => some false
      | _ => none
    | none => none

/-- What a call's operation calls: a function with its arguments. -/
def callee (st : AS) (c : Call) : Option (FuncId × List V) := match c.callee with
  | .value f => match st.ev f, evL st.ev c.args.toList with
    | some (.d (.fn f caps)), some vs => some (f, vs ++ caps.map .d)
    | some (.fn f caps), some vs => some (f, vs ++ caps)
    | _, _ => none
  | _ => none

def allFrozen (hp : List (Nat × Blk)) : List V → Option (List DV)
  | [] => some []
  | v :: r => match toD hp 8 v, allFrozen hp r with
    | some x, some l => some (x :: l)
    | _, _ => none

/-- Does an operation touch the machine's blocks? 0: no · 1: it reads · 2: it writes, or makes a block -/
def touch : Op → Nat
  | .move _ | .assign _ | .pick .. | .build .. | .binOp .. | .unOp .. | .convert .. | .makeFunc .. | .fieldAddr .. | .field .. | .indexAddr .. | .index .. | .extract .. | .nilCheck _ | .slice .. => 0
  | .load .. => 1
  | .call { callee := .builtin .len, .. } | .call { callee := .builtin .min, .. } | .call { callee := .builtin .max, .. } => 0
  | .call { callee := .value _, .. } => 1
  | _ => 2

def slotsOf (o : Oper) : List Tmp := o.op.operands.toList.filterMap fun | .tmp u => some u | _ => none

/-- The slots that an operation reads: its operands, and its guard's. -/
def reads (ops : Array Oper) (o : Oper) : List Tmp :=
  slotsOf o ++ (match o.guard with
    | none => []
    | some (j, _) => match (ops[j]?).bind (·.dst) with
      | some t => [t]
      | none => [])

/-- What an operation comes after, as the bits of a number. -/
def maskOf (acc : List Nat) (o : Oper) : Nat := o.after.toList.foldl (fun s e => if Region.binds .any e then s ||| 2 ^ e.on ||| acc.getD e.on 0 else s) 0
def masks : List Nat → List Oper → List Nat
  | acc, [] => acc
  | acc, o :: r => masks (acc ++ [maskOf acc o]) r
/-- Whatever an operation comes after stands before it in the text. -/
def edgesOk : Nat → List Oper → Bool
  | _, [] => true
  | j, o :: r => o.after.toList.all (fun e => !Region.binds .any e || Nat.blt e.on j) && edgesOk (j + 1) r
def dstIs (o : Oper) (t : Tmp) : Bool := match o.dst with
  | some d => Nat.beq d t
  | none => false
/-- What an operation reads of the blocks (none: whatever there is), and which it writes. -/
abbrev Fp := Option (List Nat) × List Nat
/-- How a region runs. none: in the text's order. some F: in any order; F: what its operations read and write at most, the last one first. -/
abbrev Dr := Option (List Fp)
def hasN : List Nat → Nat → Bool
  | [], _ => false
  | a :: r, n => Nat.beq a n || hasN r n
def subN (a b : List Nat) : Bool := a.all (hasN b)
def apartN (a b : List Nat) : Bool := a.all fun n => !hasN b n
def fpAt (F : List Fp) (k : Nat) : Fp := match F[k]? with
  | some x => x
  | none => (some [], [])
def fpLe (x y : Fp) : Bool := subN x.2 y.2 && (match y.1 with
  | none => true
  | some r => match x.1 with
    | none => false
    | some q => subN q r)
def okF (dr : Dr) (k : Nat) (x : Fp) : Bool := match dr with
  | none => true
  | some F => fpLe x (fpAt F k)
def blkOf : V → List Nat
  | .hs n _ _ _ => [n]
  | .ref n _ _ _ => [n]
  | _ => []
/-- The blocks that an operation reads and writes. -/
def fp (st : AS) (op : Op) : Fp := match op with
  | .load _ p => match st.ev p with
    | some v => (some (blkOf v), [])
    | none => (some [], [])
  | .alloc _ | .box .. | .buildSlice .. | .makeSlice .. => (some [], [st.nx])
  | .store _ p _ => match st.ev p with
    | some v => (some (blkOf v), blkOf v)
    | none => (some [], [])
  | .call { callee := .builtin .append, args, .. } => match evL st.ev args.toList with
    | some [s, x] => (some (blkOf s ++ blkOf x), st.nx :: blkOf s)
    | _ => (some [], [])
  | .call { callee := .builtin .copy, args, .. } => match evL st.ev args.toList with
    | some [s, x] => (some (blkOf s ++ blkOf x), blkOf s)
    | _ => (some [], [])
  | _ => (some [], [])
/-- A new block holds data alone. -/
def datNew (st : AS) (op : Op) (st1 : AS) : Bool := match touch op with
  | 2 => match st1.hp with
    | (_, .dat ..) :: _ => true
    | (n, _) :: _ => !Nat.beq n st.nx
    | [] => true
  | _ => true
def okO (dr : Dr) (k : Nat) (st : AS) (op : Op) (st1 : AS) : Bool := match dr with
  | none => true
  | some F => fpLe (fp st op) (fpAt F k) && datNew st op st1
def fpC (vs : List V) : Fp := bif vs.all V.isD then (some [], []) else (none, [])
def apartF (x y : Fp) : Bool := apartN x.2 y.2 && (match x.1 with
  | none => y.2.isEmpty
  | some r => apartN r y.2) && (match y.1 with
  | none => x.2.isEmpty
  | some r => apartN r x.2)
/-- Two operations that may change places. -/
def apartB (ops : Array Oper) (a b : Oper) : Bool :=
  (reads ops a).all (fun t => !dstIs b t) && (reads ops b).all (fun t => !dstIs a t) && (match a.dst with | some t => !dstIs b t | none => true)
/-- A region for which any order is as good as the text's: what is not ordered may change places. -/
def drawOk (F : List Fp) (ops : Array Oper) : Bool :=
  let l := ops.toList
  let ms := masks [] l
  let h := l.zipIdx
  edgesOk 0 l && h.all fun y => h.all fun x => !Nat.blt x.2 y.2 || (ms.getD y.2 0).testBit x.2 || (apartB ops x.1 y.1 && apartF (fpAt F (ops.size - (x.2 + 1))) (fpAt F (ops.size - (y.2 + 1))))

/-- How a callee's blocks come back under the caller's names: ρ: the callee's first blocks by the caller's names; ρ3 the other way; k, k': the callee's blocks before and behind; nx: the caller's. -/
structure Back (ρ ρ3 : Nat → Nat) (ph3 : List Nat) (k k' nx nxN : Nat) (hp hpR hpN : List (Nat × Blk)) : Prop where
  fst : ∀ i, i < k → ρ i < nx ∧ ρ3 (ρ i) = i
  snd : ∀ m, m < nx → (ρ3 m < k ∧ ρ (ρ3 m) = m) ∨ k' ≤ ρ3 m
  phn : ∀ m, m ∈ ph3 → nx ≤ m
  old : ∀ m b, find hpN m = some b → find hpR m = some b ∨ (find hp m = some b ∧ ∀ i, i < k → ρ i ≠ m)
  nxs : nx ≤ nxN

def dstOk (n : Nat) : Option Tmp → Bool
  | some t => Nat.blt t n
  | none => true
/-- Every slot that the code writes lies in the frame. -/
def codeOk (n : Nat) : Code → Bool
  | .region _ ops _ => ops.toList.all fun o => dstOk n o.dst
  | .seq a b => codeOk n a && codeOk n b
  | .cond _ a b => codeOk n a && codeOk n b
  | .block _ c => codeOk n c
  | .loop c => codeOk n c
  | .scope c => codeOk n c
  | .rangeFunc _ ps a b => ps.toList.all (fun p => Nat.blt p n) && codeOk n a && codeOk n b
  | _ => true

mutual
inductive EvCode (P : Program) (T : Tab) : Nat → Code → AS → Ex → AS → Prop
  | skip {base : Nat} {st : AS} : EvCode P T base .skip st .nor st
  | seqN {base : Nat} {a b : Code} {st st1 st2 : AS} {ex : Ex} : EvCode P T base a st .nor st1 → EvCode P T base b st1 ex st2 → EvCode P T base (.seq a b) st ex st2
  | seqX {base : Nat} {a b : Code} {st st1 : AS} {ex : Ex} : EvCode P T base a st ex st1 → ex ≠ .nor → EvCode P T base (.seq a b) st ex st1
  | condT {base : Nat} {c : Operand} {a b : Code} {st st1 : AS} {ex : Ex} : st.ev c = some (.d (.bool true)) → EvCode P T base a st ex st1 → EvCode P T base (.cond c a b) st ex st1
  | condF {base : Nat} {c : Operand} {a b : Code} {st st1 : AS} {ex : Ex} : st.ev c = some (.d (.bool false)) → EvCode P T base b st ex st1 → EvCode P T base (.cond c a b) st ex st1
  | block {base id : Nat} {a : Code} {st st1 : AS} {ex : Ex} : EvCode P T base a st ex st1 → EvCode P T base (.block id a) st (ex.block id) st1
  | exit {base id : Nat} {st : AS} : EvCode P T base (.exit id) st (.exit id) st
  | ret {base : Nat} {st : AS} : EvCode P T base .ret st .ret st
  | loopN {base : Nat} {a : Code} {st st1 st2 : AS} {ex : Ex} : EvCode P T base a st .nor st1 → EvCode P T base (.loop a) st1 ex st2 → EvCode P T base (.loop a) st ex st2
  | loopX {base : Nat} {a : Code} {st st1 : AS} {ex : Ex} : EvCode P T base a st ex st1 → ex ≠ .nor → EvCode P T base (.loop a) st ex st1
  | region {base id : Nat} {ops : Array Oper} {st st1 : AS} : EvOps P T base ops none ops.toList st st1 → EvCode P T base (.region id ops false) st .nor st1
  | regionD {base id : Nat} {ops : Array Oper} {F : List Fp} {st st1 : AS} : EvOps P T base ops (some F) ops.toList st st1 → drawOk F ops = true → EvCode P T base (.region id ops true) st .nor st1
  | wk {base : Nat} {ρ : Nat → Nat} {fz ph : List Nat} {c : Code} {st st1 st2 : AS} {ex : Ex} : Wk base ρ fz ph st st1 → EvCode P T base c st1 ex st2 → EvCode P T base c st ex st2
  | rangeF {base : Nat} {g : Operand} {ps : Array Tmp} {assign body : Code} {st : AS} {f : FuncId} {caps : List V} {v : V} {hp : List (Nat × Blk)} {nx : Nat} {pe : Option Code} {ex : Ex} {s : List (Nat × V)} {ls : LoopState} :
      (st.ev g = some (.fn f caps) ∨ ∃ ds, st.ev g = some (.d (.fn f ds)) ∧ caps = ds.map .d) →
      EvCall P T f (.yld st.nx :: caps) ((st.nx, .loop st.sl ps.toList assign body .ready none) :: st.hp) (st.nx + 1) v hp nx →
      find hp st.nx = some (.loop s ps.toList assign body ls pe) → ls ≠ .busy → pe = ex.code → EvCode P T base (.rangeFunc g ps assign body) st ex { sl := st.sl, hp := repl hp st.nx .dead, nx := nx }
inductive EvOps (P : Program) (T : Tab) : Nat → Array Oper → Dr → List Oper → AS → AS → Prop
  | nil {base : Nat} {ops : Array Oper} {dr : Dr} {st : AS} : EvOps P T base ops dr [] st st
  | skip {base : Nat} {ops : Array Oper} {dr : Dr} {o : Oper} {l : List Oper} {st st1 : AS} : guardOk ops st o = some false → EvOps P T base ops dr l (st.putD o.dst (.d (.tup []))) st1 → EvOps P T base ops dr (o :: l) st st1
  | op {base : Nat} {ops : Array Oper} {dr : Dr} {o : Oper} {l : List Oper} {st st1 st2 : AS} {v : V} : guardOk ops st o = some true → opFn T st o.op = some (v, st1) → okO dr l.length st o.op st1 = true → EvOps P T base ops dr l (st1.putD o.dst v) st2 → EvOps P T base ops dr (o :: l) st st2
  | opF {base : Nat} {ops : Array Oper} {dr : Dr} {o : Oper} {l : List Oper} {st st1 st2 : AS} {n es : Nat} {xs : List (List DV)} {hp2 : List (Nat × Blk)} : guardOk ops st o = some true → opFn T st o.op = some (.hs n es 0 xs.length, st1) → touch o.op = 2 → (n = st.nx ∧ st1.nx = n + 1) → st1.hp = (n, .dat es xs) :: hp2 → find hp2 n = none → okF dr l.length (fp st o.op) = true →
      EvOps P T base ops dr l (({ sl := st1.sl, hp := hp2, nx := st1.nx } : AS).putD o.dst (.d (.sl es xs))) st2 → EvOps P T base ops dr (o :: l) st st2
  | callP {base : Nat} {ops : Array Oper} {dr : Dr} {o : Oper} {l : List Oper} {st st2 : AS} {c : Call} {f : FuncId} {vs : List V} {ds : List DV} {v : V} {hp : List (Nat × Blk)} {nx : Nat} {r' r : DV} :
      guardOk ops st o = some true → o.op = .call c → callee st c = some (f, vs) → allFrozen st.hp vs = some ds →
      EvCall P T f (ds.map .d) [] 0 v hp nx → toD hp 8 v = some r' → DLe r' r → (vs.all V.isD = true ∨ r.scalar = true) → okF dr l.length (fpC vs) = true →
      EvOps P T base ops dr l (st.putD o.dst (.d r)) st2 → EvOps P T base ops dr (o :: l) st st2
  | callS {base : Nat} {ops : Array Oper} {o : Oper} {l : List Oper} {st st2 : AS} {c : Call} {f : FuncId} {vs : List V} {v : V} {hp : List (Nat × Blk)} {nx : Nat} :
      guardOk ops st o = some true → o.op = .call c → callee st c = some (f, vs) →
      EvCall P T f vs st.hp st.nx v hp nx → EvOps P T base ops none l ({ sl := st.sl, hp := hp, nx := nx : AS }.putD o.dst v) st2 → EvOps P T base ops none (o :: l) st st2
  | callF {base : Nat} {ops : Array Oper} {o : Oper} {l : List Oper} {st st2 : AS} {c : Call} {f : FuncId} {vs vs' : List V} {hp0 hp' hpR hpN : List (Nat × Blk)} {k k' nxN : Nat} {v' vN : V} {ρ ρ3 : Nat → Nat} {fz3 ph3 : List Nat} :
      guardOk ops st o = some true → o.op = .call c → callee st c = some (f, vs) → vs.length = vs'.length → Wk 0 ρ [] [] { sl := argSlots 0 vs, hp := st.hp, nx := st.nx } { sl := argSlots 0 vs', hp := hp0, nx := k } →
      EvCall P T f vs' hp0 k v' hp' k' → Wk 0 ρ3 fz3 ph3 { sl := [(0, v')], hp := hp', nx := k' } { sl := [(0, vN)], hp := hpR, nx := nxN } → Back ρ ρ3 ph3 k k' st.nx nxN st.hp hpR hpN →
      EvOps P T base ops none l ({ sl := st.sl, hp := hpN, nx := nxN : AS }.putD o.dst vN) st2 → EvOps P T base ops none (o :: l) st st2
  | callY {base : Nat} {ops : Array Oper} {o : Oper} {l : List Oper} {st st1 st2 st3 : AS} {c : Call} {g : Operand} {n : Nat} {vs : List V} {s s1 s2 : List (Nat × V)} {ps : List Tmp} {assign body : Code} {ex : Ex} :
      guardOk ops st o = some true → o.op = .call c → c.callee = .value g → st.ev g = some (.yld n) → evL st.ev c.args.toList = some vs →
      st.blk n = some (.loop s ps assign body .ready none) → ps.length = vs.length →
      EvCode P T st.nx assign { sl := setAll s ps vs, hp := st.hp, nx := st.nx } .nor st1 → st1.blk n = some (.loop s1 ps assign body .ready none) →
      EvCode P T st.nx body (st1.setBlk n (.loop s1 ps assign body .busy none)) ex st2 → st2.blk n = some (.loop s2 ps assign body .busy none) →
      EvOps P T base ops none l ({ sl := st.sl, hp := repl st2.hp n (.loop s2 ps assign body (if ex = .nor then .ready else .done) ex.code), nx := st2.nx : AS }.putD o.dst (.d (.bool (decide (ex = .nor))))) st3 →
      EvOps P T base ops none (o :: l) st st3
  | wk {base : Nat} {ops : Array Oper} {ρ : Nat → Nat} {fz ph : List Nat} {l : List Oper} {st st1 st2 : AS} : Wk base ρ fz ph st st1 → EvOps P T base ops none l st1 st2 → EvOps P T base ops none l st st2
inductive EvCall (P : Program) (T : Tab) : FuncId → List V → List (Nat × Blk) → Nat → V → List (Nat × Blk) → Nat → Prop
  | mk {f : FuncId} {fn : Func} {c : Code} {vs : List V} {hp : List (Nat × Blk)} {nx : Nat} {st : AS} {ex : Ex} {v : V} :
      P.funcs[f]? = some fn → fn.body = some c → (fn.name == "runtime.NumGoroutine") = false → codeOk fn.ntmps c = true → vs.length ≤ fn.ntmps → EvCode P T nx c { sl := argSlots 0 vs, hp := hp, nx := nx } ex st → (ex = .nor ∨ ex = .ret) →
      resV T st fn.results.toList = some v → EvCall P T f vs hp nx v st.hp st.nx
  | wk {f : FuncId} {vs : List V} {hp hp' hp1 : List (Nat × Blk)} {nx nx' nx1 : Nat} {v v1 : V} {ρ : Nat → Nat} {fz ph : List Nat} : EvCall P T f vs hp nx v hp' nx' →
      Wk nx ρ fz ph { sl := [(0, v)], hp := hp', nx := nx' } { sl := [(0, v1)], hp := hp1, nx := nx1 } → EvCall P T f vs hp nx v1 hp1 nx1
end

/-- THE CONTRACT OF A PURE CALL: on data, with no block of its own at the start, the function hands back this datum. -/
def Pure (P : Program) (T : Tab) (f : FuncId) (ds : List DV) (r : DV) : Prop :=
  ∃ v hp nx r', EvCall P T f (ds.map .d) [] 0 v hp nx ∧ toD hp 8 v = some r' ∧ DLe r' r
end Go.Am
