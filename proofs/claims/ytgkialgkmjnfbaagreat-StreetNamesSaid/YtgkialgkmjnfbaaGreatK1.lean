/- Am1 Am2 Am3 Am4 -/
import Derived.RangeFuncLeaves
import Derived.KernelRfl
import Derived.ProofKit
namespace Go.Am
theorem qr {α β : Type _} (a : α) (f : α→Option β) : (some a).bind f = f a:=rfl
theorem Zl {α : Type _} {a b : α} (h : some a = some b) : a = b:=Option.some.inj h
theorem Qa {p : Prop} [Decidable p] (h : ¬ p) : decide p = false:=decide_eq_false h
theorem Q9 {p : Prop} [Decidable p] (h : p) : decide p = true:=decide_eq_true h
theorem Q6 {α : Sort _} (a b : α) : cond false a b = b:=rfl
theorem Qb {α : Sort _} (a b : α) : cond true a b = a:=rfl
theorem Yi {α : Type _} {l : List α} {n : Nat} (h : n < l.length) : l[n]∈l:=List.getElem_mem h
theorem Y0 {α β : Type _} {b : β} {x : Option α} {f : α→β} : x.map f = some b↔∃ a,x = some a∧f a = b:=Option.map_eq_some_iff
theorem qw {c : Prop} {h : Decidable c} (a : ¬ c) {α : Sort _} {t e : α} : ite c t e = e:=if_neg a
theorem qu {c : Prop} {h : Decidable c} (a : c) {α : Sort _} {t e : α} : ite c t e = t:=if_pos a
theorem qz {α : Type _} {a b : α} (h : some a = some b) : b = a:=(Option.some.inj h).symm
theorem q140 {α : Type _} {a b : α} {P : α→Prop} (h : some a = some b) (k : P a) : P b:=Option.some.inj h ▸ k
theorem q9 {α β : Type} {o : Option α} {f : α→Option β} {x : β} {G : Prop} (h : o.bind f = some x) (k : ∀ v,o = some v→f v = some x→G) : G:=by
  cases o with
  | none=>cases h
  | some v=>exact k v rfl h
theorem q8 {p : Prop} (h : p:=by omega) : p:=h
theorem qd {p : Prop} (h : p:=by simp) : p:=h
theorem qq {p : Prop} (h : p:=by decide) : p:=h
theorem qm {p : Prop} (h : p:=by kernel_rfl) : p:=h
theorem Qm {p : Prop} (h : p:=by repeat' first | with_reducible rfl | (refine funext fun (m : Sum _ _)=>?_;cases m <;> (first | with_reducible rfl | rfl)) | (congr 1) | funext _) : p:=h
inductive DV where
  | int (k : IntKind) (n : Int)
  | bool (b : Bool)
  | str (s : ByteArray)
  | agg (cs : List DV)
  | nilsl
  | sl (es : Nat) (xs : List (List DV))
  | nilp
  | nilf
  | nilm
  | fn (f : FuncId) (caps : List DV)
  | bfn (f : FuncId) (first : List DV)
  | box (cs : List DV)
  | tup (vs : List DV)
  | mp (es : List (DV × DV))
inductive V where
  | d (x : DV)
  | agg (cs : List V)
  | ref (n es i j : Nat)
  | dref (cs : List DV) (j : Nat)
  | hs (n es off len : Nat)
  | fn (f : FuncId) (caps : List V)
  | tup (vs : List V)
  | yld (n : Nat)
  | mp (n : Nat)
  | it (n : Nat)
  | dead
inductive Blk where
  | dead
  | dat (es : Nat) (xs : List (List DV))
  | cel (es : Nat) (xs : List (List V))
  | mp (o : Bool) (es : List (DV × V))
  | itF (cur : Option (DV × DV)) (rest : List (DV × DV))
  | itO (m sz : Nat) (cur : Option Nat) (rest : List Nat)
  | loop (slots : List (Nat × V)) (ps : List Tmp) (assign body : Code) (s : LoopState) (pending : Option Code)
structure AS where
  sl : List (Nat × V)
  hp : List (Nat × Blk)
  nx : Nat
def find {α : Type} : List (Nat × α)→Nat→Option α
  | [],_=>none
  | (k,v)::r,t=>match Nat.beq k t with
    | true=>some v
    | false=>find r t
def repl {α : Type} : List (Nat × α)→Nat→α→List (Nat × α)
  | [],_,_=>[]
  | (k,v)::r,t,x=>match Nat.beq k t with
    | true=>(k,x)::r
    | false=>(k,v)::repl r t x
def AS.get (st : AS) (t : Tmp) : Option V:=find st.sl t
def AS.put (st : AS) (t : Tmp) (v : V) : AS:={st with sl:=(t,v)::st.sl}
def AS.putD (st : AS) (t : Option Tmp) (v : V) : AS:=match t with
  | some t=>st.put t v
  | none=>st
def AS.blk (st : AS) (n : Nat) : Option Blk:=find st.hp n
def AS.setBlk (st : AS) (n : Nat) (b : Blk) : AS:={st with hp:=repl st.hp n b}
def AS.new (st : AS) (b : Blk) : AS:={st with hp:=(st.nx,b)::st.hp,nx:=st.nx + 1}
def Zx : Value→Option DV
  | .int k n=>some (.int k n)
  | .bool b=>some (.bool b)
  | .string s=>some (.str s)
  | .pointer none=>some .nilp
  | .slice none 0 0=>some .nilsl
  | .nilFunc=>some .nilf
  | .map none=>some .nilm
  | _=>none
def qc7 : Value→Option DV
  | .agg cs=>(cs.toList.mapM Zx).map .agg
  | v=>Zx v
def AS.ev (st : AS) : Operand→Option V
  | .tmp t=>st.get t
  | .const v=>(qc7 v).map .d
  | .func f=>some (.d (.fn f []))
  | .global _=>none
inductive TK where
  | bool | int (k : IntKind) | str | ptr | func | slice | array | struct | map
  deriving DecidableEq
structure TI where
  kind : TK
  size : Nat
  zero : List DV
  flds : List (Nat × Nat × Bool):=[]
  len : Nat:=0
  esize : Nat:=0
  eagg : Bool:=false
  ebytes : Nat:=0
  ezero : List DV:=[]
  eqs : Option (List (Option IntKind)):=none
  keys : Option (List (Option IntKind)):=none
def TI.agg (i : TI) : Bool:=match i.kind with
  | .array | .struct=>true
  | _=>false
def Kn : TypeDesc→Bool
  | .struct _ | .array ..=>true
  | _=>false
def tile (P : Program) (pk : TypeId→Option (List (Option IntKind))) : Nat→List Field→Option (List (Option IntKind))
  | _,[]=>some []
  | o,f::r=>match pk f.type with
    | some a => if f.offset = o ∧ f.name ≠ "_" ∧ P.cellsOf f.type = a.length then
        match tile P pk (o + a.length) r with
        | some b=>some (a ++ b)
        | none=>none
      else none
    | none=>none
def Kz (P : Program) : Nat→TypeId→Option (List (Option IntKind))
  | 0,_=>none
  | d + 1,t=>match P.underlying t with
    | some .bool=>some [none]
    | some (.int k)=>some [some k]
    | some (.struct fs)=>if P.stoodInHeld t then none else tile P (Kz P d) 0 fs.toList
    | some (.array n e)=>match Kz P d e with
      | some a=>if P.cellsOf e = a.length then some (List.replicate n a).flatten else none
      | none=>none
    | _=>none
def tiOf (P : Program) (t : TypeId) : Option TI:=do
  let info ← P.info? t
  let d ← P.underlying t
  let z ← info.zero
  let zc ← z.cells.toList.mapM Zx
  if zc.length≠info.size∨info.size = 0 then none else
  match d with
  | .bool=>if info.size = 1 then some {kind:=.bool,size:=info.size,zero:=zc} else none
  | .int k=>if info.size = 1 then some {kind:=.int k,size:=info.size,zero:=zc} else none
  | .string=>if info.size = 1 then some {kind:=.str,size:=info.size,zero:=zc} else none
  | .pointer _=>if info.size = 1 then some {kind:=.ptr,size:=info.size,zero:=zc} else none
  | .func ..=>if info.size = 1 then some {kind:=.func,size:=info.size,zero:=zc} else none
  | .slice e=>do
    let ie ← P.info? e
    let de ← P.underlying e
    let ze ← ie.zero
    let ezc ← ze.cells.toList.mapM Zx
    if ezc.length≠ie.size∨ie.size = 0∨ie.bytes = 0∨info.size≠1 then none else
    some {kind:=.slice,size:=info.size,zero:=zc,esize:=ie.size,eagg:=Kn de,ebytes:=ie.bytes,ezero:=ezc}
  | .map kt e=>do
    let ie ← P.info? e
    let ze ← ie.zero
    let zd ← Zx ze
    let ks ← Kz P 8 kt
    let dk ← P.underlying kt
    let q:=match P.underlying e with
      | some (.slice s)=>match P.info? s with
        | some j=>j.size
        | none=>0
      | _=>0
    if info.size = 1 then some {kind:=.map,size:=info.size,zero:=zc,esize:=q,eagg:=Kn dk,ezero:=[zd],keys:=some ks} else none
  | .array n e=>do
    let ie ← P.info? e
    let de ← P.underlying e
    if ie.size = 0 then none else
    some {kind:=.array,size:=info.size,zero:=zc,len:=n,esize:=ie.size,eagg:=Kn de,eqs:=Kz P 8 t}
  | .struct fs=>do
    let fl ← fs.toList.mapM fun f=>do
      let jf ← P.info? f.type
      let df ← P.underlying f.type
      if jf.size = 0 then none else some (f.offset,jf.size,Kn df)
    some {kind:=.struct,size:=info.size,zero:=zc,flds:=fl,eqs:=Kz P 8 t}
  | _=>none
abbrev Tab:=TypeId→Option TI
def Z8 (P : Program) (T : Tab) : Prop:=∀ t i,T t = some i→tiOf P t = some i
def qo7 (l : List (Nat × TI)) : Tab:=find l
def Zk : DV→Bool
  | .agg _ | .tup _=>false
  | _=>true
def Kh : V→Bool
  | .agg _ | .tup _ | .dead=>false
  | .d x=>Zk x
  | _=>true
def allD : List V→Option (List DV)
  | []=>some []
  | .d x::r=>match allD r with
    | some l=>some (x::l)
    | none=>none
  | _::_=>none
def V.isD : V→Bool
  | .d _=>true
  | _=>false
def cellsOf : V→List V
  | .agg cs=>cs
  | .d (.agg cs)=>cs.map .d
  | v=>[v]
def q5w (cs : List V) : V:=match allD cs with
  | some ds=>.d (.agg ds)
  | none=>.agg cs
def pack (agg : Bool) (cs : List V) : Option V:=match agg,cs with
  | true,cs=>some (q5w cs)
  | false,[c]=>some c
  | false,_=>none
def q21 (agg : Bool) (cs : List DV) : Option DV:=match agg,cs with
  | true,cs=>some (.agg cs)
  | false,[c]=>some c
  | false,_=>none
def sub {α : Type} (cs : List α) (j s : Nat) : Option (List α):=
  if j + s≤cs.length then some ((cs.drop j).take s) else none
def q5x (es : Nat) (xs : List (List V)) : Blk:=match xs.mapM allD with
  | some ys=>.dat es ys
  | none=>.cel es xs
def Ug (st : AS) (i : TI) : V→Option V
  | .ref n es a j=>match st.blk n with
    | some (.dat k xs)=>match Nat.beq k es,xs[a]? with
      | true,some cs=>match sub cs j i.size with
        | some r=>(q21 i.agg r).map .d
        | none=>none
      | _,_=>none
    | some (.cel k xs)=>match Nat.beq k es,xs[a]? with
      | true,some cs=>match sub cs j i.size with
        | some r=>pack i.agg r
        | none=>none
      | _,_=>none
    | _=>none
  | .dref cs j=>match sub cs j i.size with
    | some r=>(q21 i.agg r).map .d
    | none=>none
  | .d (.box cs)=>match sub cs 0 i.size with
    | some r=>(q21 i.agg r).map .d
    | none=>none
  | _=>none
def splice {α : Type} (cs : List α) (j : Nat) (ys : List α) : List α:=cs.take j ++ ys ++ cs.drop (j + ys.length)
def Jk (st : AS) (i : TI) (p v : V) : Option AS:=match p with
  | .ref n k a j=>
    if (cellsOf v).length≠i.size∨(cellsOf v).all Kh = false then none else
    match st.blk n with
    | some (.dat es xs)=>match Nat.beq k es,xs[a]? with
      | true,some cs=>if j + i.size≤cs.length then
          match allD (cellsOf v) with
          | some ds=>some (st.setBlk n (.dat es (xs.set a (splice cs j ds))))
          | none=>some (st.setBlk n (.cel es ((xs.map (·.map V.d)).set a (splice (cs.map V.d) j (cellsOf v)))))
        else none
      | _,_=>none
    | some (.cel es xs)=>match Nat.beq k es,xs[a]? with
      | true,some cs=>if j + i.size≤cs.length then some (st.setBlk n (.cel es (xs.set a (splice cs j (cellsOf v))))) else none
      | _,_=>none
    | _=>none
  | _=>none
def Zp {α β : Type} (f : α→Option β) : List α→Option (List β)
  | []=>some []
  | x::r=>match f x with
    | some y=>match Zp f r with
      | some l=>some (y::l)
      | none=>none
    | none=>none
def toD (hp : List (Nat × Blk)) : Nat→V→Option DV
  | 0,.d x=>some x
  | 0,_=>none
  | _ + 1,.d x=>some x
  | k + 1,.agg cs=>(Zp (toD hp k) cs).map .agg
  | k + 1,.tup cs=>(Zp (toD hp k) cs).map .tup
  | k + 1,.fn f cs=>(Zp (toD hp k) cs).map (.fn f)
  | k + 1,.hs n es off len=>match find hp n with
    | some (.dat m xs)=>if off + len≤xs.length∧m = es then some (.sl es ((xs.drop off).take len)) else none
    | some (.cel m xs)=>if off + len≤xs.length∧m = es then (Zp (Zp (toD hp k)) ((xs.drop off).take len)).map (.sl es) else none
    | _=>none
  | k + 1,.ref n _ i j=>match find hp n with
    | some (.dat _ xs)=>match i,j,xs with
      | 0,0,[cs]=>some (.box cs)
      | _,_,_=>none
    | some (.cel _ xs)=>match i,j,xs with
      | 0,0,[cs]=>(Zp (toD hp k) cs).map .box
      | _,_,_=>none
    | _=>none
  | _ + 1,_=>none
def DV.scalar : DV→Bool
  | .int .. | .bool _ | .str _ | .nilsl | .nilp | .nilf=>true
  | .tup vs=>go vs
  | .agg vs=>go vs
  | _=>false
where go : List DV→Bool
  | []=>true
  | .int ..::r | .bool _::r | .str _::r | .nilsl::r | .nilp::r | .nilf::r=>go r
  | _::_=>false
def Jr : Option IntKind→DV→DV→Option Bool
  | some k,.int j a,.int j' b=>if k = j∧k = j' then some (a == b) else none
  | none,.bool a,.bool b=>some (a == b)
  | _,_,_=>none
def Ke : List (Option IntKind)→List DV→List DV→Option Bool
  | [],[],[]=>some true
  | k::ks,a::r,b::s=>match Jr k a b,Ke ks r s with
    | some x,some y=>some (x && y)
    | _,_=>none
  | _,_,_=>none
def cellsD : DV→List DV
  | .agg cs=>cs
  | v=>[v]
def Ys : DV→Bool
  | .agg _=>true
  | _=>false
def Yt : List DV→Option (List (Option IntKind))
  | []=>some []
  | .int k _::r=>match Yt r with
    | some l=>some (some k::l)
    | none=>none
  | .bool _::r=>match Yt r with
    | some l=>some (none::l)
    | none=>none
  | _::_=>none
def Yk (ag : Bool) (ks : List (Option IntKind)) (kd : DV) : Bool:=(Ys kd == ag) && (match Yt (cellsD kd) with
  | some l=>decide (l = ks)
  | none=>false)
def Za {α : Type} (ag : Bool) (ks : List (Option IntKind)) (k : DV) : List (DV × α)→Option (Option Nat)
  | []=>some none
  | (a,_)::r=>if Ys k = ag∧Ys a = ag then match Ke ks (cellsD k) (cellsD a) with
      | some true=>some (some 0)
      | some false=>match Za ag ks k r with
        | some (some i)=>some (some (i + 1))
        | some none=>some none
        | none=>none
      | none=>none
    else none
def mget {α : Type} (ag : Bool) (ks : List (Option IntKind)) (z : α) (k : DV) (es : List (DV × α)) : Option (α × Bool):=match Za ag ks k es with
  | some (some j)=>(es[j]?).map fun e=>(e.2,true)
  | some none=>some (z,false)
  | none=>none
def mput {α : Type} (ag : Bool) (ks : List (Option IntKind)) (k : DV) (v : α) (es : List (DV × α)) : Option (List (DV × α)):=match Za ag ks k es with
  | some (some j)=>some (es.set j (k,v))
  | some none=>some (es ++ [(k,v)])
  | none=>none
def zNil (es : Nat) : DV→DV
  | .nilsl=>.sl es []
  | z=>z
def okV : V × Bool→V
  | (.d x,b)=>.d (.tup [x,.bool b])
  | (v,b)=>.tup [v,.d (.bool b)]
def eqK : TK→DV→DV→Option Bool
  | .bool,.bool a,.bool b=>some (a == b)
  | .str,.str a,.str b=>some (a.toList == b.toList)
  | .slice,.nilsl,.nilsl=>some true
  | .slice,.nilsl,.sl _ (_::_)=>some false
  | .slice,.sl _ (_::_),.nilsl=>some false
  | .func,.nilf,.nilf=>some true
  | .func,.nilf,.fn ..=>some false
  | .func,.fn ..,.nilf=>some false
  | _,_,_=>none
def binI (op : BinOp) (k : IntKind) (x y : Int) : Option DV:=match op with
  | .add=>some (.int k (k.wrap (x + y)))
  | .sub=>some (.int k (k.wrap (x - y)))
  | .mul=>some (.int k (k.wrap (x * y)))
  | .quo=>if y = 0 then none else some (.int k (k.wrap (x.tdiv y)))
  | .rem=>if y = 0 then none else some (.int k (x.tmod y))
  | .and=>some (.int k (k.wrap (BitVec.ofInt k.bits x &&& BitVec.ofInt k.bits y).toNat))
  | .or=>some (.int k (k.wrap (BitVec.ofInt k.bits x ||| BitVec.ofInt k.bits y).toNat))
  | .xor=>some (.int k (k.wrap (BitVec.ofInt k.bits x ^^^ BitVec.ofInt k.bits y).toNat))
  | .eql=>some (.bool (x == y))
  | .neq=>some (.bool (x != y))
  | .lss=>some (.bool (decide (x < y)))
  | .leq=>some (.bool (decide (x≤y)))
  | .gtr=>some (.bool (decide (x > y)))
  | .geq=>some (.bool (decide (x ≥ y)))
  | _=>none
def q91 (op : BinOp) (k : IntKind) (x y : Int) : Option DV:=
  if y < 0 then none else match op with
    | .shl=>some (.int k (k.wrap (x * 2 ^ (min y.toNat k.bits))))
    | .shr=>some (.int k (x.fdiv (2 ^ (min y.toNat k.bits))))
    | _=>none
def binD (op : BinOp) (x y : DV) : Option DV:=match op,x,y with
  | .shl,.int k a,.int _ b=>q91 .shl k a b
  | .shr,.int k a,.int _ b=>q91 .shr k a b
  | op,.int k a,.int k' b=>if k = k' then binI op k a b else none
  | _,_,_=>none
def binE (op : BinOp) (k : TK) (x y : DV) : Option DV:=match op with
  | .eql=>(eqK k x y).map .bool
  | .neq=>(eqK k x y).map fun b=>.bool (!b)
  | _=>none
def unD (op : UnOp) (x : DV) : Option DV:=match op,x with
  | .neg,.int k n=>some (.int k (k.wrap (0 - n)))
  | .not,.bool b=>some (.bool !b)
  | .xor,.int k n=>binI .xor k (if k.signed then -1 else k.max) n
  | _,_=>none
def room : Nat:=4294967296
def q4g {α : Type} : List α→List (Nat × α)→Option (List α)
  | xs,[]=>some xs
  | xs,(i,x)::r=>if i < xs.length then q4g (xs.set i x) r else none
def q5j {α : Type} : List α→List (Nat × List α)→Option (List α)
  | cs,[]=>some cs
  | cs,(o,ys)::r=>if o + ys.length≤cs.length then q5j (splice cs o ys) r else none
def placed (ti : TI) : List (Nat × V)→Option (List (Nat × List V))
  | []=>some []
  | (i,v)::r=>
    let pl : Option (Nat × Nat):=match ti.kind with
      | .struct=>(ti.flds[i]?).map fun f=>(f.1,f.2.1)
      | .array=>some (i * ti.esize,ti.esize)
      | _=>none
    match pl,placed ti r with
    | some (o,s),some l=>if (cellsOf v).length = s∧(cellsOf v).all Kh = true then some ((o,cellsOf v)::l) else none
    | _,_=>none
def elems (esize : Nat) : List (Nat × V)→Option (List (Nat × List V))
  | []=>some []
  | (i,v)::r=>match elems esize r with
    | some l=>if (cellsOf v).length = esize∧(cellsOf v).all Kh = true then some ((i,cellsOf v)::l) else none
    | none=>none
def Js (ev : Operand→Option V) : List (Nat × Operand)→Option (List (Nat × V))
  | []=>some []
  | (i,o)::r=>match ev o,Js ev r with
    | some v,some l=>some ((i,v)::l)
    | _,_=>none
def evL (ev : Operand→Option V) : List Operand→Option (List V)
  | []=>some []
  | o::r=>match ev o,evL ev r with
    | some v,some l=>some (v::l)
    | _,_=>none
def lenV : V→Option Nat
  | .d .nilsl=>some 0
  | .d (.sl _ xs)=>some xs.length
  | .hs _ _ _ len=>some len
  | .d (.str s)=>some s.size
  | _=>none
def Zn (st : AS) : V→Option (List (List V))
  | .d .nilsl=>some []
  | .d (.sl _ xs)=>some (xs.map (·.map .d))
  | .hs n es off len=>match st.blk n with
    | some (.dat k xs)=>if off + len≤xs.length∧k = es then some (((xs.drop off).take len).map (·.map .d)) else none
    | some (.cel k xs)=>if off + len≤xs.length∧k = es then some ((xs.drop off).take len) else none
    | _=>none
  | _=>none
def Yv (st : AS) : V→Option (List (List DV))
  | .d .nilsl=>some []
  | .d (.sl _ xs)=>some xs
  | .hs n es off len=>match st.blk n with
    | some (.dat k xs)=>if off + len≤xs.length∧k = es then some ((xs.drop off).take len) else none
    | _=>none
  | _=>none
def U9 (esize : Nat) : V→Bool
  | .d .nilsl=>true
  | .d (.sl es _)=>Nat.beq es esize
  | .hs _ es _ _=>Nat.beq es esize
  | _=>false
def Zd (st : AS) (ti : TI) (s x : V) : Option (V × AS):=
  match s with
  | .d .nilsl=>match Yv st x with
    | some ys=>if ys.length * (ti.ebytes * 4)≤room then
        (if ys.length = 0 then some (.d .nilsl,st) else some (.hs st.nx ti.esize 0 ys.length,st.new (.dat ti.esize ys))) else none
    | none=>match Zn st x with
      | some ys=>if ys.length * (ti.ebytes * 4)≤room then
          (if ys.length = 0 then some (.d .nilsl,st) else some (.hs st.nx ti.esize 0 ys.length,st.new (.cel ti.esize ys))) else none
      | none=>none
  | .hs n es off len=>match st.blk n,Yv st x with
    | some (.dat k xs),some ys=>
      if off + len≤xs.length∧k = es∧(len + ys.length) * (ti.ebytes * 4)≤room∧es = ti.esize then
        some (.hs st.nx es 0 (len + ys.length),(st.setBlk n .dead).new (.dat es ((xs.drop off).take len ++ ys)))
      else none
    | some (.dat k xs),none=>match Zn st x with
      | some ys=>if off + len≤xs.length∧k = es∧(len + ys.length) * (ti.ebytes * 4)≤room∧es = ti.esize then
          some (.hs st.nx es 0 (len + ys.length),(st.setBlk n .dead).new (.cel es (((xs.drop off).take len).map (·.map .d) ++ ys)))
        else none
      | none=>none
    | some (.cel k xs),_=>match Zn st x with
      | some ys=>if off + len≤xs.length∧k = es∧(len + ys.length) * (ti.ebytes * 4)≤room∧es = ti.esize then
          some (.hs st.nx es 0 (len + ys.length),(st.setBlk n .dead).new (.cel es ((xs.drop off).take len ++ ys)))
        else none
      | none=>none
    | _,_=>none
  | _=>none
def copyV (st : AS) (d x : V) : Option (V × AS):=match d with
  | .hs n es off len=>match st.blk n,Yv st x with
    | some (.dat k xs),some ys=>
      if off + len≤xs.length∧k = es then
        some (.d (.int .i64 (min ys.length len : Nat)),st.setBlk n (.dat es (splice xs off (ys.take (min ys.length len)))))
      else none
    | _,_=>none
  | _=>none
def Us (st : AS) (ti : TI) (x : V) : Option (V × AS):=match x with
  | .d .nilsl=>some (.d (.tup []),st)
  | .hs n es off len=>match st.blk n with
    | some (.dat k xs)=>if off + len≤xs.length∧k = es then some (.d (.tup []),st.setBlk n (.dat es (splice xs off (List.replicate len ti.ezero)))) else none
    | _=>none
  | _=>none
def minI (mx : Bool) : V→List V→Option V
  | v,[]=>some v
  | .d (.int k a),.d (.int _ b)::r=>minI mx (.d (.int k (bif mx then (if b > a then b else a) else (if b < a then b else a)))) r
  | _,_=>none
def Yn (T : Tab) (st : AS) (b : Builtin) (argTypes : Array TypeId) (vs : List V) : Option (V × AS):=match b,vs with
  | .len,[x]=>match argTypes[0]? with
    | some t=>match T t with
      | some i=>match i.kind with
        | .array=>some (.d (.int .i64 i.len),st)
        | .slice=>match x with
          | .d .nilsl=>some (.d (.int .i64 0),st)
          | .d (.sl _ xs)=>some (.d (.int .i64 xs.length),st)
          | .hs _ _ _ len=>some (.d (.int .i64 len),st)
          | _=>none
        | .str=>match x with
          | .d (.str s)=>some (.d (.int .i64 s.size),st)
          | _=>none
        | _=>none
      | none=>none
    | none=>none
  | .append,[s,x]=>match argTypes[0]?,argTypes[1]? with
    | some t,some u=>match T t,T u with
      | some i,some j=>if i.kind = .slice∧j.kind = .slice∧U9 i.esize x = true then Zd st i s x else none
      | _,_=>none
    | _,_=>none
  | .copy,[s,x]=>match argTypes[0]?,argTypes[1]? with
    | some t,some u=>match T t,T u with
      | some i,some j=>if i.kind = .slice∧j.kind = .slice∧U9 i.esize s = true∧U9 i.esize x = true then copyV st s x else none
      | _,_=>none
    | _,_=>none
  | .clear,[x]=>match argTypes[0]? with
    | some t=>match T t with
      | some i=>if i.kind = .slice∧U9 i.esize x = true then Us st i x else none
      | none=>none
    | none=>none
  | .min,v::r=>(minI false v r).map (·,st)
  | .max,v::r=>(minI true v r).map (·,st)
  | _,_=>none
def qey (off : Nat) : V→Option V
  | .ref n es i j=>some (.ref n es i (j + off))
  | .dref cs j=>some (.dref cs (j + off))
  | .d (.box cs)=>some (.dref cs off)
  | _=>none
def q5m (ti : TI) (x : V) (i : Int) : Option V:=match ti.kind,x with
  | .slice,.d (.sl es xs)=>if 0≤i∧es = ti.esize then (xs[i.toNat]?).map fun cs=>.dref cs 0 else none
  | .slice,.hs n es off len=>if 0≤i∧i < len∧es = ti.esize then some (.ref n es (off + i.toNat) 0) else none
  | .array,.ref n es a j=>if 0≤i∧i < ti.len then some (.ref n es a (j + i.toNat * ti.esize)) else none
  | .array,.dref cs j=>if 0≤i∧i < ti.len then some (.dref cs (j + i.toNat * ti.esize)) else none
  | .array,.d (.box cs)=>if 0≤i∧i < ti.len then some (.dref cs (i.toNat * ti.esize)) else none
  | _,_=>none
def qgs (esize : Nat) (x : V) (lo hi : Nat) : Option V:=match x with
  | .d .nilsl=>if lo = 0∧hi = 0 then some (.d .nilsl) else none
  | .d (.sl es xs)=>if lo≤hi∧hi≤xs.length∧es = esize then some (.d (.sl es ((xs.drop lo).take (hi - lo)))) else none
  | .hs n es off len=>if lo≤hi∧hi≤len∧es = esize then some (.hs n es (off + lo) (hi - lo)) else none
  | _=>none
def bound (st : AS) (dflt : Nat) : Option Operand→Option Nat
  | none=>some dflt
  | some o=>match st.ev o with
    | some (.d (.int _ n))=>if 0≤n then some n.toNat else none
    | _=>none
def agD : V→Option (List V)
  | .d (.agg cs)=>some (cs.map .d)
  | .agg cs=>some cs
  | _=>none
def q8p : DV × V→V
  | (k,.d x)=>.d (.tup [k,x])
  | (k,v)=>.tup [.d k,v]
def opFn (T : Tab) (st : AS) (op : Op) : Option (V × AS):=match op with
  | .move x | .assign x=>(st.ev x).map (·,st)
  | .pick c a b=>match st.ev c with
    | some (.d (.bool true))=>(st.ev a).map (·,st)
    | some (.d (.bool false))=>(st.ev b).map (·,st)
    | _=>none
  | .alloc t=>(T t).map fun i=>(.ref st.nx i.size 0 0,st.new (.dat i.size [i.zero]))
  | .box t x=>match T t,st.ev x with
    | some i,some v=>if (cellsOf v).length = i.size∧(cellsOf v).all Kh = true then some (.ref st.nx i.size 0 0,st.new (q5x i.size [cellsOf v])) else none
    | _,_=>none
  | .build t ps=>match T t,Js st.ev ps.toList with
    | some i,some vs=>if i.agg = true then match placed i vs with
        | some l=>(q5j (i.zero.map .d) l).map fun cs=>(q5w cs,st)
        | none=>none
      else none
    | _,_=>none
  | .buildSlice t len ps=>match T t,Js st.ev ps.toList with
    | some i,some vs=>match elems i.esize vs with
      | some l=>if i.kind = .slice∧len * i.esize≤16777216 then
          (q4g (List.replicate len (i.ezero.map .d)) l).map fun xs=>(.hs st.nx i.esize 0 len,st.new (q5x i.esize xs)) else none
      | none=>none
    | _,_=>none
  | .load t p=>match T t,st.ev p with
    | some i,some v=>(Ug st i v).map (·,st)
    | _,_=>none
  | .store t p x=>match T t,st.ev p,st.ev x with
    | some i,some v,some y=>(Jk st i v y).map (.dead,·)
    | _,_,_=>none
  | .binOp op t x y _=>match st.ev x,st.ev y with
    | some (.d (.agg a)),some (.d (.agg b))=>match T t with
      | some i=>match i.eqs with
        | some ks=>match op,Ke ks a b with
          | .eql,some r=>some (.d (.bool r),st)
          | .neq,some r=>some (.d (.bool (!r)),st)
          | _,_=>none
        | none=>none
      | none=>none
    | some (.d (.int k a)),some (.d (.int k' b))=>(binD op (.int k a) (.int k' b)).map fun r=>(.d r,st)
    | some (.d a),some (.d b)=>match T t with
      | some i=>(binE op i.kind a b).map fun r=>(.d r,st)
      | none=>none
    | _,_=>none
  | .unOp op _ x=>match st.ev x with
    | some (.d a)=>(unD op a).map fun r=>(.d r,st)
    | _=>none
  | .convert src dst x=>match T src,T dst,st.ev x with
    | some i,some j,some (.d (.int _ n))=>match i.kind,j.kind with
      | .int _,.int k=>some (.d (.int k (k.wrap n)),st)
      | _,_=>none
    | _,_,_=>none
  | .makeFunc (.func f) first caps=>if first.size = 0 then
      (evL st.ev caps.toList).map fun vs=>((match allD vs with | some ds=>.d (.fn f ds) | none=>.fn f vs),st) else
    if caps.size = 0 then ((evL st.ev first.toList).bind allD).map fun ds=>(.d (.bfn f ds),st) else none
  | .makeSlice t l c=>match T t,st.ev l,st.ev c with
    | some i,some (.d (.int _ n)),some (.d (.int _ m))=>
      if i.kind = .slice∧0≤n∧n≤m∧m * (i.ebytes * 4)≤room then
        some (.hs st.nx i.esize 0 n.toNat,st.new (.dat i.esize (List.replicate n.toNat i.ezero))) else none
    | _,_,_=>none
  | .slice t x lo hi mx=>match T t,st.ev x with
    | some i,some v=>if i.kind = .slice∧mx.isNone then match lenV v with
        | some n=>match bound st 0 lo,bound st n hi with
          | some a,some b=>(qgs i.esize v a b).map (·,st)
          | _,_=>none
        | none=>none
      else none
    | _,_=>none
  | .fieldAddr s p f=>match T s,st.ev p with
    | some i,some v=>match i.kind,i.flds[f]? with
      | .struct,some (off,_,_)=>(qey off v).map (·,st)
      | _,_=>none
    | _,_=>none
  | .field s x f=>match T s,st.ev x with
    | some i,some v=>match i.kind,i.flds[f]?,agD v with
      | .struct,some (off,size,ag),some cs=>match sub cs off size with
        | some r=>(pack ag r).map (·,st)
        | none=>none
      | _,_,_=>none
    | _,_=>none
  | .indexAddr t x ix=>match T t,st.ev x,st.ev ix with
    | some i,some v,some (.d (.int _ n))=>(q5m i v n).map (·,st)
    | _,_,_=>none
  | .index t x ix=>match T t,st.ev x,st.ev ix with
    | some i,some v,some (.d (.int _ n))=>match i.kind,agD v with
      | .array,some cs=>if 0≤n∧n < i.len then match sub cs (n.toNat * i.esize) i.esize with
          | some r=>(pack i.eagg r).map (·,st)
          | none=>none
        else none
      | .str,_=>match v with
        | .d (.str s)=>(if 0≤n then s[n.toNat]? else none).map fun b=>(.d (.int .u8 b.toNat),st)
        | _=>none
      | _,_=>none
    | _,_,_=>none
  | .extract x k=>match st.ev x with
    | some (.d (.tup vs))=>(vs[k]?).map fun v=>(.d v,st)
    | some (.tup vs)=>(vs[k]?).map (·,st)
    | _=>none
  | .nilCheck x=>match st.ev x with
    | some (.ref n es i j)=>some (.ref n es i j,st)
    | some (.dref cs j)=>some (.dref cs j,st)
    | some (.d (.box cs))=>some (.d (.box cs),st)
    | some (.fn f cs)=>some (.fn f cs,st)
    | some (.yld n)=>some (.yld n,st)
    | some (.d (.fn f cs))=>some (.d (.fn f cs),st)
    | _=>none
  | .makeMap t r=>match T t,r with
    | some i,none=>if i.kind = .map then some (.mp st.nx,st.new (.mp true [])) else none
    | _,_=>none
  | .lookup t x k ok=>match T t,st.ev x,st.ev k with
    | some i,some (.mp n),some (.d kd)=>match i.keys,st.blk n,i.ezero with
      | some ks,some (.mp _ es),[z]=>if Yk i.eagg ks kd = true then (mget i.eagg ks (.d z) kd es).map fun e=>(bif ok then okV e else e.1,st) else none
      | _,_,_=>none
    | some i,some (.d (.mp es)),some (.d kd)=>match i.keys,i.ezero with
      | some ks,[z]=>if Yk i.eagg ks kd = true then (mget i.eagg ks (zNil i.esize z) kd es).map fun e=>(.d (bif ok then .tup [e.1,.bool e.2] else e.1),st) else none
      | _,_=>none
    | _,_,_=>none
  | .mapUpdate t m k v=>match T t,st.ev m,st.ev k,st.ev v with
    | some i,some (.mp n),some (.d kd),some vv=>match i.keys,st.blk n with
      | some ks,some (.mp o es)=>if Yk i.eagg ks kd = true∧Kh vv = true then (mput i.eagg ks kd vv es).map fun es'=>(.dead,st.setBlk n (.mp o es')) else none
      | _,_=>none
    | _,_,_,_=>none
  | .call {callee:=.builtin b,args,argTypes}=>match evL st.ev args.toList with
    | some vs=>Yn T st b argTypes vs
    | none=>none
  | _=>none
def opM (T : Tab) (st : AS) (op : Op) : Option (V × AS):=match op with
  | .range t x=>match T t,st.ev x with
    | some i,some (.mp n)=>match i.kind,st.blk n with
      | .map,some (.mp true es)=>some (.it st.nx,st.new (.itO n es.length none (List.range es.length)))
      | _,_=>none
    | some i,some (.d (.mp es))=>match i.kind with
      | .map=>some (.it st.nx,st.new (.itF none es))
      | _=>none
    | _,_=>none
  | .entry x=>match st.ev x with
    | some (.it n)=>match st.blk n with
      | some (.itF (some e) _)=>some (.d (.tup [e.1,e.2]),st)
      | some (.itO m sz (some i) _)=>match st.blk m with
        | some (.mp true es)=>if es.length = sz then (es[i]?).map fun e=>(q8p e,st) else none
        | _=>none
      | _=>none
    | _=>none
  | .call {callee:=.builtin .len,args,argTypes}=>match evL st.ev args.toList,argTypes[0]? with
    | some [.mp n],some t=>match T t,st.blk n with
      | some i,some (.mp _ es)=>if i.kind = .map then some (.d (.int .i64 es.length),st) else none
      | _,_=>none
    | _,_=>none
  | _=>none
def q2g (st : AS) (n : Nat) : Option (Nat × (Nat→Option AS)):=match st.blk n with
  | some (.itF _ rest)=>some (rest.length,fun i=>(rest[i]?).map fun e=>st.setBlk n (.itF (some e) (rest.eraseIdx i)))
  | some (.itO m sz _ rest)=>match st.blk m with
    | some (.mp true es)=>if es.length = sz then some (rest.length,fun i=>(rest[i]?).map fun j=>st.setBlk n (.itO m sz (some j) (rest.eraseIdx i))) else none
    | _=>none
  | _=>none
end Go.Am
namespace Go.Am
inductive Ex where
  | nor
  | exit (id : Nat)
  | ret
  deriving DecidableEq
def Ex.block (id : Nat) : Ex→Ex
  | .exit id'=>if id' = id then .nor else .exit id'
  | e=>e
def Ex.code : Ex→Option Code
  | .nor=>none
  | .exit id=>some (.exit id)
  | .ret=>some .ret
inductive DLe : DV→DV→Prop
  | refl (x : DV) : DLe x x
  | nil (es : Nat) : DLe .nilsl (.sl es [])
  | tup {xs ys : List DV} : xs.length = ys.length→(∀ (i : Nat) (x y : DV),xs[i]? = some x→ys[i]? = some y→DLe x y)→DLe (.tup xs) (.tup ys)
  | agg {xs ys : List DV} : xs.length = ys.length→(∀ (i : Nat) (x y : DV),xs[i]? = some x→ys[i]? = some y→DLe x y)→DLe (.agg xs) (.agg ys)
  | sl {es : Nat} {xs ys : List (List DV)} : xs.length = ys.length→(∀ (i : Nat) (x y : List DV),xs[i]? = some x→ys[i]? = some y→x.length = y.length)→
      (∀ (i : Nat) (x y : List DV) (j : Nat) (c d : DV),xs[i]? = some x→ys[i]? = some y→x[j]? = some c→y[j]? = some d→DLe c d)→DLe (.sl es xs) (.sl es ys)
def dV (e : DV × DV) : DV × V:=(e.1,.d e.2)
inductive Wv (st : AS) (ρ : Nat→Nat) (fz ph : List Nat) (nx : Nat) : V→V→Prop
  | dead (v : V) : Wv st ρ fz ph nx v .dead
  | d {x y : DV} : DLe x y→Wv st ρ fz ph nx (.d x) (.d y)
  | nil {m es : Nat} : m∈ph→m < nx→Wv st ρ fz ph nx (.d .nilsl) (.hs m es 0 0)
  | dref (cs : List DV) (j : Nat) : Wv st ρ fz ph nx (.dref cs j) (.dref cs j)
  | ref {n m es i j : Nat} : ρ m = n→m ∉ ph→m < nx→Wv st ρ fz ph nx (.ref n es i j) (.ref m es i j)
  | hs {n m es o l : Nat} : ρ m = n→m ∉ ph→m < nx→Wv st ρ fz ph nx (.hs n es o l) (.hs m es o l)
  | yld {n m : Nat} : ρ m = n→m ∉ ph→m < nx→Wv st ρ fz ph nx (.yld n) (.yld m)
  | mp {n m : Nat} : ρ m = n→m ∉ ph→m < nx→Wv st ρ fz ph nx (.mp n) (.mp m)
  | it {n m : Nat} : ρ m = n→m ∉ ph→m < nx→Wv st ρ fz ph nx (.it n) (.it m)
  | fn {f : FuncId} {cs ds : List V} : cs.length = ds.length→(∀ (i : Nat) (c d : V),cs[i]? = some c→ds[i]? = some d→Wv st ρ fz ph nx c d)→Wv st ρ fz ph nx (.fn f cs) (.fn f ds)
  | agg {cs ds : List V} : cs.length = ds.length→(∀ (i : Nat) (c d : V),cs[i]? = some c→ds[i]? = some d→Wv st ρ fz ph nx c d)→Wv st ρ fz ph nx (.agg cs) (.agg ds)
  | tup {cs ds : List V} : cs.length = ds.length→(∀ (i : Nat) (c d : V),cs[i]? = some c→ds[i]? = some d→Wv st ρ fz ph nx c d)→Wv st ρ fz ph nx (.tup cs) (.tup ds)
  | dtup {cs : List DV} {ds : List V} : cs.length = ds.length→(∀ (i : Nat) (c : DV) (d : V),cs[i]? = some c→ds[i]? = some d→Wv st ρ fz ph nx (.d c) d)→Wv st ρ fz ph nx (.d (.tup cs)) (.tup ds)
  | dagg {cs : List DV} {ds : List V} : cs.length = ds.length→(∀ (i : Nat) (c : DV) (d : V),cs[i]? = some c→ds[i]? = some d→Wv st ρ fz ph nx (.d c) d)→Wv st ρ fz ph nx (.d (.agg cs)) (.agg ds)
  | frz {n es o l : Nat} {xs ys : List (List DV)} {k : Nat} : st.blk n = some (.dat k xs)→n∈fz→o + l≤xs.length→ys = (xs.drop o).take l→k = es→Wv st ρ fz ph nx (.hs n es o l) (.d (.sl es ys))
  | frzB {n es : Nat} {cs : List DV} {k : Nat} : st.blk n = some (.dat k [cs])→n∈fz→k = es→Wv st ρ fz ph nx (.ref n es 0 0) (.d (.box cs))
  | frzM {n : Nat} {o : Bool} {es : List (DV × V)} {ds : List (DV × DV)} : st.blk n = some (.mp o es)→n∈fz→es.Perm (ds.map dV)→Wv st ρ fz ph nx (.mp n) (.d (.mp ds))
inductive Wb (st : AS) (ρ : Nat→Nat) (fz ph : List Nat) (nx : Nat) : Blk→Blk→Prop
  | dead (b : Blk) : Wb st ρ fz ph nx b .dead
  | dat (es : Nat) (xs : List (List DV)) : Wb st ρ fz ph nx (.dat es xs) (.dat es xs)
  | mp (o : Bool) {es es' : List (DV × V)} : es.length = es'.length→(∀ (i : Nat) (e e' : DV × V),es[i]? = some e→es'[i]? = some e'→e.1 = e'.1∧Wv st ρ fz ph nx e.2 e'.2∧Kh e'.2 = true)→Wb st ρ fz ph nx (.mp o es) (.mp o es')
  | mpP {o : Bool} {ds ds' : List (DV × DV)} : ds.Perm ds'→Wb st ρ fz ph nx (.mp o (ds.map dV)) (.mp false (ds'.map dV))
  | itF (cur : Option (DV × DV)) (rest : List (DV × DV)) : Wb st ρ fz ph nx (.itF cur rest) (.itF cur rest)
  | itFn (cur : Option (DV × DV)) (rest : List (DV × DV)) : Wb st ρ fz ph nx (.itF cur rest) (.itF none rest)
  | itO {m m' : Nat} (sz : Nat) (cur : Option Nat) (rest : List Nat) : ρ m' = m→m' ∉ ph→m' < nx→Wb st ρ fz ph nx (.itO m sz cur rest) (.itO m' sz cur rest)
  | itOn {m m' : Nat} (sz : Nat) (cur : Option Nat) (rest : List Nat) : ρ m' = m→m' ∉ ph→m' < nx→Wb st ρ fz ph nx (.itO m sz cur rest) (.itO m' sz none rest)
  | cel {es : Nat} {xs ys : List (List V)} : xs.length = ys.length→
      (∀ (i : Nat) (x y : List V),xs[i]? = some x→ys[i]? = some y→x.length = y.length∧∀ (j : Nat) (c d : V),x[j]? = some c→y[j]? = some d→Wv st ρ fz ph nx c d∧Kh d = true)→Wb st ρ fz ph nx (.cel es xs) (.cel es ys)
  | datcel {es : Nat} {xs : List (List DV)} {ys : List (List V)} : xs.length = ys.length→
      (∀ (i : Nat) (x : List DV) (y : List V),xs[i]? = some x→ys[i]? = some y→x.length = y.length∧∀ (j : Nat) (c : DV) (d : V),x[j]? = some c→y[j]? = some d→Wv st ρ fz ph nx (.d c) d∧Kh d = true)→Wb st ρ fz ph nx (.dat es xs) (.cel es ys)
  | loop {s s' : List (Nat × V)} {ps : List Tmp} {as bo : Code} {dn : LoopState} {pe : Option Code} :
      (∀ t v',find s' t = some v'→∃ v,find s t = some v∧Wv st ρ fz ph nx v v')→Wb st ρ fz ph nx (.loop s ps as bo dn pe) (.loop s' ps as bo dn pe)
structure Wk (base : Nat) (ρ : Nat→Nat) (fz ph : List Nat) (st st' : AS) : Prop where
  slots : ∀ t v',st'.get t = some v'→∃ v,st.get t = some v∧Wv st ρ fz ph st'.nx v v'
  blocks : ∀ n b',st'.blk n = some b'→n < st'.nx∧((n∈ph∧∃ es,es≠0∧b' = .dat es [])∨(n ∉ ph∧∃ b,st.blk (ρ n) = some b∧Wb st ρ fz ph st'.nx b b'))
  inj : ∀ n m b c,st'.blk n = some b→st'.blk m = some c→n ∉ ph→m ∉ ph→ρ n = ρ m→n = m
  free : ∀ n b,st'.blk n = some b→n ∉ ph→ρ n ∉ fz
  small : ∀ n,n < base→ρ n = n
  bs : base≤st'.nx
  frozen : ∀ n∈fz,base≤n
  phantom : ∀ n∈ph,base≤n
def WkE (base : Nat) (st st' : AS) : Prop:=∃ ρ fz ph,Wk base ρ fz ph st st'
def q32 : List (Nat × V)→List Tmp→List V→List (Nat × V)
  | s,p::ps,v::vs=>q32 ((p,v)::s) ps vs
  | s,_,_=>s
def Yb : Nat→List V→List (Nat × V)
  | _,[]=>[]
  | k,v::r=>(k,v)::Yb (k + 1) r
def qgj (T : Tab) (st : AS) : ResultVar→Option V
  | .tmp t=>st.get t
  | .cell t ty=>match st.get t,T ty with
    | some p,some i=>Ug st i p
    | _,_=>none
def resL (T : Tab) (st : AS) : List ResultVar→Option (List V)
  | []=>some []
  | r::l=>match qgj T st r,resL T st l with
    | some v,some vs=>some (v::vs)
    | _,_=>none
def qfs (vs : List V) : V:=match allD vs with
  | some ds=>.d (.tup ds)
  | none=>.tup vs
def resV (T : Tab) (st : AS) (rs : List ResultVar) : Option V:=match resL T st rs with
  | some [v]=>some v
  | some vs=>some (qfs vs)
  | none=>none
def Qs (ops : Array Oper) (st : AS) (o : Oper) : Option Bool:=match o.guard with
  | none=>some true
  | some (j,want)=>match (ops[j]?).bind (·.dst) with
    | some t=>match st.get t with
      | some (.d (.bool b))=>some (b == want)
      | some (.d (.tup []))=>some false
      | _=>none
    | none=>none
def callee (st : AS) (c : Call) : Option (FuncId × List V):=match c.callee with
  | .value f=>match st.ev f,evL st.ev c.args.toList with
    | some (.d (.fn f caps)),some vs=>some (f,vs ++ caps.map .d)
    | some (.fn f caps),some vs=>some (f,vs ++ caps)
    | some (.d (.bfn f ds)),some vs=>some (f,ds.map .d ++ vs)
    | _,_=>none
  | _=>none
def Y8 (hp : List (Nat × Blk)) : List V→Option (List DV)
  | []=>some []
  | v::r=>match toD hp 8 v,Y8 hp r with
    | some x,some l=>some (x::l)
    | _,_=>none
def touch : Op→Nat
  | .move _ | .assign _ | .pick .. | .build .. | .binOp .. | .unOp .. | .convert .. | .makeFunc .. | .fieldAddr .. | .field .. | .indexAddr .. | .index .. | .extract .. | .nilCheck _ | .slice ..=>0
  | .load .. | .lookup ..=>1
  | .call {callee:=.builtin .len,..} | .call {callee:=.builtin .min,..} | .call {callee:=.builtin .max,..}=>0
  | .call {callee:=.value _,..}=>1
  | _=>2
def slotsOf (o : Oper) : List Tmp:=o.op.operands.toList.filterMap fun | .tmp u=>some u | _=>none
def reads (ops : Array Oper) (o : Oper) : List Tmp:=
  slotsOf o ++ (match o.guard with
    | none=>[]
    | some (j,_)=>match (ops[j]?).bind (·.dst) with
      | some t=>[t]
      | none=>[])
def qkz (acc : List Nat) (o : Oper) : Nat:=o.after.toList.foldl (fun s e=>if Region.binds .any e then s ||| 2 ^ e.on ||| acc.getD e.on 0 else s) 0
def masks : List Nat→List Oper→List Nat
  | acc,[]=>acc
  | acc,o::r=>masks (acc ++ [qkz acc o]) r
def qcd : Nat→List Oper→Bool
  | _,[]=>true
  | j,o::r=>o.after.toList.all (fun e=>!Region.binds .any e || Nat.blt e.on j) && qcd (j + 1) r
def q7v (o : Oper) (t : Tmp) : Bool:=match o.dst with
  | some d=>Nat.beq d t
  | none=>false
abbrev Fp:=Option (List Nat) × List Nat
abbrev Dr:=Option (List Fp)
def hasN : List Nat→Nat→Bool
  | [],_=>false
  | a::r,n=>Nat.beq a n || hasN r n
def subN (a b : List Nat) : Bool:=a.all (hasN b)
def q3e (a b : List Nat) : Bool:=a.all fun n=>!hasN b n
def fpAt (F : List Fp) (k : Nat) : Fp:=match F[k]? with
  | some x=>x
  | none=>(some [],[])
def fpLe (x y : Fp) : Bool:=subN x.2 y.2 && (match y.1 with
  | none=>true
  | some r=>match x.1 with
    | none=>false
    | some q=>subN q r)
def okF (dr : Dr) (k : Nat) (x : Fp) : Bool:=match dr with
  | none=>true
  | some F=>fpLe x (fpAt F k)
def Kg : V→List Nat
  | .hs n _ _ _=>[n]
  | .ref n _ _ _=>[n]
  | .mp n=>[n]
  | _=>[]
def fp (st : AS) (op : Op) : Fp:=match op with
  | .load _ p=>match st.ev p with
    | some v=>(some (Kg v),[])
    | none=>(some [],[])
  | .lookup _ p _ _=>match st.ev p with
    | some v=>(some (Kg v),[])
    | none=>(some [],[])
  | .mapUpdate _ p _ _=>match st.ev p with
    | some v=>(some (Kg v),Kg v)
    | none=>(some [],[])
  | .alloc _ | .box .. | .buildSlice .. | .makeSlice .. | .makeMap ..=>(some [],[st.nx])
  | .store _ p _=>match st.ev p with
    | some v=>(some (Kg v),Kg v)
    | none=>(some [],[])
  | .call {callee:=.builtin .append,args,..}=>match evL st.ev args.toList with
    | some [s,x]=>(some (Kg s ++ Kg x),st.nx::Kg s)
    | _=>(some [],[])
  | .call {callee:=.builtin .copy,args,..}=>match evL st.ev args.toList with
    | some [s,x]=>(some (Kg s ++ Kg x),Kg s)
    | _=>(some [],[])
  | .call {callee:=.builtin .clear,args,..}=>match evL st.ev args.toList with
    | some [x]=>(some (Kg x),Kg x)
    | _=>(some [],[])
  | _=>(some [],[])
def q4d (st : AS) (op : Op) (st1 : AS) : Bool:=match touch op with
  | 2=>match st1.hp with
    | (_,.dat ..)::_=>true
    | (n,_)::_=>!Nat.beq n st.nx
    | []=>true
  | _=>true
def okO (dr : Dr) (k : Nat) (st : AS) (op : Op) (st1 : AS) : Bool:=match dr with
  | none=>true
  | some F=>fpLe (fp st op) (fpAt F k) && q4d st op st1
def fpC (vs : List V) : Fp:=bif vs.all V.isD then (some [],[]) else (none,[])
def Uq (x y : Fp) : Bool:=q3e x.2 y.2 && (match x.1 with
  | none=>y.2.isEmpty
  | some r=>q3e r y.2) && (match y.1 with
  | none=>x.2.isEmpty
  | some r=>q3e r x.2)
def qhz (ops : Array Oper) (a b : Oper) : Bool:=
  (reads ops a).all (fun t=>!q7v b t) && (reads ops b).all (fun t=>!q7v a t) && (match a.dst with | some t=>!q7v b t | none=>true)
def Jx (x : Fp) : Bool:=match x.1 with
  | none=>!x.2.isEmpty
  | some _=>false
def q3g (F : List Fp) (ops : Array Oper) : Bool:=
  let l:=ops.toList
  let ms:=masks [] l
  let h:=l.zipIdx
  qcd 0 l && h.all fun y=>h.all fun x=>!Nat.blt x.2 y.2 || (ms.getD y.2 0).testBit x.2 || (!Jx (fpAt F (ops.size - (x.2 + 1))) && !Jx (fpAt F (ops.size - (y.2 + 1))) && qhz ops x.1 y.1 && Uq (fpAt F (ops.size - (x.2 + 1))) (fpAt F (ops.size - (y.2 + 1))))
structure Back (ρ ρ3 : Nat→Nat) (ph3 : List Nat) (k k' nx nxN : Nat) (hp hpR hpN : List (Nat × Blk)) : Prop where
  fst : ∀ i,i < k→ρ i < nx∧ρ3 (ρ i) = i
  snd : ∀ m,m < nx→(ρ3 m < k∧ρ (ρ3 m) = m)∨k'≤ρ3 m
  phn : ∀ m,m∈ph3→nx≤m
  old : ∀ m b,find hpN m = some b→find hpR m = some b∨(find hp m = some b∧∀ i,i < k→ρ i≠m)
  nxs : nx≤nxN
def q4e (n : Nat) (hp : List (Nat × Blk)) : List (Nat × Blk):=hp.filter fun x=>!Nat.beq x.1 n
def vW (n : Nat) : V→V
  | .hs m es o l=>bif Nat.beq m n then .hs 0 es o l else .dead
  | .d x=>.d x
  | _=>.dead
def rhoW (n k m : Nat) : Nat:=bif Nat.beq m n then 0 else k + m
def J5 (n : Nat) : Option Tmp→Bool
  | some t=>Nat.blt t n
  | none=>true
def codeOk (n : Nat) : Code→Bool
  | .region _ ops _=>ops.toList.all fun o=>J5 n o.dst
  | .seq a b=>codeOk n a && codeOk n b
  | .cond _ a b=>codeOk n a && codeOk n b
  | .block _ c=>codeOk n c
  | .loop c=>codeOk n c
  | .scope c=>codeOk n c
  | .rangeFunc _ ps a b=>ps.toList.all (fun p=>Nat.blt p n) && codeOk n a && codeOk n b
  | _=>true
def q2z (o1 o2 : Oper) : Option (Operand × Tmp × Tmp):=match o1.op,o1.dst,o1.guard,o2.op,o2.dst,o2.guard with
  | .next x false,some t1,none,.extract (.tmp u) 0,some t2,none=>if u = t1 then some (x,t1,t2) else none
  | _,_,_,_,_,_=>none
mutual
inductive Ki (P : Program) (T : Tab) : Nat→Code→AS→Ex→AS→Prop
  | skip {base : Nat} {st : AS} : Ki P T base .skip st .nor st
  | seqN {base : Nat} {a b : Code} {st st1 st2 : AS} {ex : Ex} : Ki P T base a st .nor st1→Ki P T base b st1 ex st2→Ki P T base (.seq a b) st ex st2
  | seqX {base : Nat} {a b : Code} {st st1 : AS} {ex : Ex} : Ki P T base a st ex st1→ex≠.nor→Ki P T base (.seq a b) st ex st1
  | condT {base : Nat} {c : Operand} {a b : Code} {st st1 : AS} {ex : Ex} : st.ev c = some (.d (.bool true))→Ki P T base a st ex st1→Ki P T base (.cond c a b) st ex st1
  | condF {base : Nat} {c : Operand} {a b : Code} {st st1 : AS} {ex : Ex} : st.ev c = some (.d (.bool false))→Ki P T base b st ex st1→Ki P T base (.cond c a b) st ex st1
  | block {base id : Nat} {a : Code} {st st1 : AS} {ex : Ex} : Ki P T base a st ex st1→Ki P T base (.block id a) st (ex.block id) st1
  | exit {base id : Nat} {st : AS} : Ki P T base (.exit id) st (.exit id) st
  | ret {base : Nat} {st : AS} : Ki P T base .ret st .ret st
  | loopN {base : Nat} {a : Code} {st st1 st2 : AS} {ex : Ex} : Ki P T base a st .nor st1→Ki P T base (.loop a) st1 ex st2→Ki P T base (.loop a) st ex st2
  | loopX {base : Nat} {a : Code} {st st1 : AS} {ex : Ex} : Ki P T base a st ex st1→ex≠.nor→Ki P T base (.loop a) st ex st1
  | region {base id : Nat} {ops : Array Oper} {st st1 : AS} : Km P T base ops none ops.toList st st1→Ki P T base (.region id ops false) st .nor st1
  | regionD {base id : Nat} {ops : Array Oper} {F : List Fp} {st st1 : AS} : Km P T base ops (some F) ops.toList st st1→q3g F ops = true→Ki P T base (.region id ops true) st .nor st1
  | wk {base : Nat} {ρ : Nat→Nat} {fz ph : List Nat} {c : Code} {st st1 st2 : AS} {ex : Ex} : Wk base ρ fz ph st st1→Ki P T base c st1 ex st2→Ki P T base c st ex st2
  | rangeF {base : Nat} {g : Operand} {ps : Array Tmp} {assign body : Code} {st : AS} {f : FuncId} {caps : List V} {v : V} {hp : List (Nat × Blk)} {nx : Nat} {pe : Option Code} {ex : Ex} {s : List (Nat × V)} {ls : LoopState} :
      (st.ev g = some (.fn f caps)∨∃ ds,st.ev g = some (.d (.fn f ds))∧caps = ds.map .d)→
      K3 P T f (.yld st.nx::caps) ((st.nx,.loop st.sl ps.toList assign body .ready none)::st.hp) (st.nx + 1) v hp nx→
      find hp st.nx = some (.loop s ps.toList assign body ls pe)→ls≠.busy→pe = ex.code→Ki P T base (.rangeFunc g ps assign body) st ex {sl:=st.sl,hp:=repl hp st.nx .dead,nx:=nx}
  | label {base l : Nat} {st : AS} : Ki P T base (.label l) st .nor st
  | scope {base : Nat} {a : Code} {st st1 : AS} {ex : Ex} : Ki P T base a st ex st1→Ki P T base (.scope a) st ex st1
  | blockS {base id : Nat} {a : Code} {st st' : AS} {ex : Ex} {R : Ex→AS→Prop} : q1j P T base a st R→(∀ ex1 st1,R ex1 st1→ex1.block id = ex∧∃ st2,WkE base st1 st2∧WkE base st2 st')→Ki P T base (.block id (.loop a)) st ex st'
  | seqS {base id : Nat} {p a b : Code} {st st0 st' : AS} {ex : Ex} {R : Ex→AS→Prop} : Ki P T base p st .nor st0→q1j P T base a st0 R→(∀ st1,R (.exit id) st1→Ki P T base b st1 ex st')→(∀ ex1 st1,R ex1 st1→ex1≠.exit id→ex1 = ex∧ex≠.nor∧WkE base st1 st')→
      Ki P T base (.seq (.seq p (.block id (.loop a))) b) st ex st'
inductive q1j (P : Program) (T : Tab) : Nat→Code→AS→(Ex→AS→Prop)→Prop
  | mk {base id : Nat} {o1 o2 : Oper} {t1 t2 : Tmp} {x : Operand} {c : Code} {st s0 : AS} {e0 : Ex} {n N : Nat} {S : Nat→Option AS} {e1 : Nat→Ex} {s1 : Nat→AS} {R : Ex→AS→Prop} :
      q2z o1 o2 = some (x,t1,t2)→st.ev x = some (.it n)→q2g st n = some (N,S)→
      (N = 0→Ki P T base c ((st.put t1 .dead).put t2 (.d (.bool false))) e0 s0)→(N = 0→e0≠.nor∧R e0 s0)→
      (∀ i u,S i = some u→Ki P T base c ((u.put t1 .dead).put t2 (.d (.bool true))) (e1 i) (s1 i))→
      (∀ i u,S i = some u→e1 i = .nor→q1j P T base (.seq (.region id #[o1,o2] false) c) (s1 i) R)→
      (∀ i u,S i = some u→e1 i≠.nor→R (e1 i) (s1 i))→q1j P T base (.seq (.region id #[o1,o2] false) c) st R
  | wk {base : Nat} {ρ : Nat→Nat} {fz ph : List Nat} {c : Code} {st st1 : AS} {R : Ex→AS→Prop} : Wk base ρ fz ph st st1→q1j P T base c st1 R→q1j P T base c st R
inductive Km (P : Program) (T : Tab) : Nat→Array Oper→Dr→List Oper→AS→AS→Prop
  | nil {base : Nat} {ops : Array Oper} {dr : Dr} {st : AS} : Km P T base ops dr [] st st
  | skip {base : Nat} {ops : Array Oper} {dr : Dr} {o : Oper} {l : List Oper} {st st1 : AS} : Qs ops st o = some false→Km P T base ops dr l (st.putD o.dst (.d (.tup []))) st1→Km P T base ops dr (o::l) st st1
  | op {base : Nat} {ops : Array Oper} {dr : Dr} {o : Oper} {l : List Oper} {st st1 st2 : AS} {v : V} : Qs ops st o = some true→opFn T st o.op = some (v,st1)→okO dr l.length st o.op st1 = true→Km P T base ops dr l (st1.putD o.dst v) st2→Km P T base ops dr (o::l) st st2
  | opF {base : Nat} {ops : Array Oper} {dr : Dr} {o : Oper} {l : List Oper} {st st1 st2 : AS} {n es : Nat} {xs : List (List DV)} {hp2 : List (Nat × Blk)} : Qs ops st o = some true→opFn T st o.op = some (.hs n es 0 xs.length,st1)→touch o.op = 2→(n = st.nx∧st1.nx = n + 1)→st1.hp = (n,.dat es xs)::hp2→find hp2 n = none→okF dr l.length (fp st o.op) = true→
      Km P T base ops dr l (({sl:=st1.sl,hp:=hp2,nx:=st1.nx} : AS).putD o.dst (.d (.sl es xs))) st2→Km P T base ops dr (o::l) st st2
  | callP {base : Nat} {ops : Array Oper} {dr : Dr} {o : Oper} {l : List Oper} {st st2 : AS} {c : Call} {f : FuncId} {vs : List V} {ds : List DV} {v : V} {hp : List (Nat × Blk)} {nx : Nat} {r' r : DV} :
      Qs ops st o = some true→o.op = .call c→callee st c = some (f,vs)→Y8 st.hp vs = some ds→
      K3 P T f (ds.map .d) [] 0 v hp nx→toD hp 8 v = some r'→DLe r' r→(vs.all V.isD = true∨r.scalar = true)→okF dr l.length (fpC vs) = true→
      Km P T base ops dr l (st.putD o.dst (.d r)) st2→Km P T base ops dr (o::l) st st2
  | callS {base : Nat} {ops : Array Oper} {o : Oper} {l : List Oper} {st st2 : AS} {c : Call} {f : FuncId} {vs : List V} {v : V} {hp : List (Nat × Blk)} {nx : Nat} :
      Qs ops st o = some true→o.op = .call c→callee st c = some (f,vs)→
      K3 P T f vs st.hp st.nx v hp nx→Km P T base ops none l ({sl:=st.sl,hp:=hp,nx:=nx : AS}.putD o.dst v) st2→Km P T base ops none (o::l) st st2
  | callF {base : Nat} {ops : Array Oper} {o : Oper} {l : List Oper} {st st2 : AS} {c : Call} {f : FuncId} {vs vs' : List V} {hp0 hp' hpR hpN : List (Nat × Blk)} {k k' nxN : Nat} {v' vN : V} {ρ ρ3 : Nat→Nat} {fz3 ph3 : List Nat} :
      Qs ops st o = some true→o.op = .call c→callee st c = some (f,vs)→vs.length = vs'.length→Wk 0 ρ [] [] {sl:=Yb 0 vs,hp:=st.hp,nx:=st.nx} {sl:=Yb 0 vs',hp:=hp0,nx:=k}→
      K3 P T f vs' hp0 k v' hp' k'→Wk 0 ρ3 fz3 ph3 {sl:=[(0,v')],hp:=hp',nx:=k'} {sl:=[(0,vN)],hp:=hpR,nx:=nxN}→Back ρ ρ3 ph3 k k' st.nx nxN st.hp hpR hpN→
      Km P T base ops none l ({sl:=st.sl,hp:=hpN,nx:=nxN : AS}.putD o.dst vN) st2→Km P T base ops none (o::l) st st2
  | callW {base : Nat} {ops : Array Oper} {dr : Dr} {o : Oper} {l : List Oper} {st st2 : AS} {c : Call} {f : FuncId} {vs vs' : List V} {n es k' : Nat} {xs : List (List DV)} {hp' : List (Nat × Blk)} {v' : V} {r : DV} {fz : List Nat} :
      Qs ops st o = some true→o.op = .call c→callee st c = some (f,vs)→vs.map (vW n) = vs'→find st.hp n = some (.dat es xs)→n < st.nx→
      K3 P T f vs' [(0,.dat es xs)] 1 v' hp' k'→(∀ N,Wk 0 (rhoW n k') fz [] {sl:=[(0,v')],hp:=hp',nx:=k'} {sl:=[(0,.d r)],hp:=[],nx:=N})→okF dr l.length (some [n],[n]) = true→
      Km P T base ops dr l ({sl:=st.sl,hp:=q4e n st.hp,nx:=st.nx : AS}.putD o.dst (.d r)) st2→Km P T base ops dr (o::l) st st2
  | callY {base : Nat} {ops : Array Oper} {o : Oper} {l : List Oper} {st st1 st2 st3 : AS} {c : Call} {g : Operand} {n : Nat} {vs : List V} {s s1 s2 : List (Nat × V)} {ps : List Tmp} {assign body : Code} {ex : Ex} :
      Qs ops st o = some true→o.op = .call c→c.callee = .value g→st.ev g = some (.yld n)→evL st.ev c.args.toList = some vs→
      st.blk n = some (.loop s ps assign body .ready none)→ps.length = vs.length→
      Ki P T st.nx assign {sl:=q32 s ps vs,hp:=st.hp,nx:=st.nx} .nor st1→st1.blk n = some (.loop s1 ps assign body .ready none)→
      Ki P T st.nx body (st1.setBlk n (.loop s1 ps assign body .busy none)) ex st2→st2.blk n = some (.loop s2 ps assign body .busy none)→
      Km P T base ops none l ({sl:=st.sl,hp:=repl st2.hp n (.loop s2 ps assign body (if ex = .nor then .ready else .done) ex.code),nx:=st2.nx : AS}.putD o.dst (.d (.bool (decide (ex = .nor))))) st3→
      Km P T base ops none (o::l) st st3
  | opM {base : Nat} {ops : Array Oper} {o : Oper} {l : List Oper} {st st1 st2 : AS} {v : V} : Qs ops st o = some true→Go.Am.opM T st o.op = some (v,st1)→Km P T base ops none l (st1.putD o.dst v) st2→Km P T base ops none (o::l) st st2
  | wk {base : Nat} {ops : Array Oper} {ρ : Nat→Nat} {fz ph : List Nat} {l : List Oper} {st st1 st2 : AS} : Wk base ρ fz ph st st1→Km P T base ops none l st1 st2→Km P T base ops none l st st2
  | piv {base : Nat} {ops : Array Oper} {F : List Fp} {o : Oper} {l : List Oper} {st st1 st2 : AS} : Jx (fpAt F l.length) = true→Km P T base ops none [o] st st1→Km P T base ops (some F) l st1 st2→Km P T base ops (some F) (o::l) st st2
inductive K3 (P : Program) (T : Tab) : FuncId→List V→List (Nat × Blk)→Nat→V→List (Nat × Blk)→Nat→Prop
  | mk {f : FuncId} {fn : Func} {c : Code} {vs : List V} {hp : List (Nat × Blk)} {nx : Nat} {st : AS} {ex : Ex} {v : V} :
      P.funcs[f]? = some fn → fn.body = some c → (fn.name == "runtime.NumGoroutine") = false → codeOk fn.ntmps c = true → vs.length ≤ fn.ntmps → Ki P T nx c { sl := Yb 0 vs, hp := hp, nx := nx } ex st → (ex = .nor ∨ ex = .ret) →
      resV T st fn.results.toList = some v→K3 P T f vs hp nx v st.hp st.nx
  | wk {f : FuncId} {vs : List V} {hp hp' hp1 : List (Nat × Blk)} {nx nx' nx1 : Nat} {v v1 : V} {ρ : Nat→Nat} {fz ph : List Nat} : K3 P T f vs hp nx v hp' nx'→
      Wk nx ρ fz ph {sl:=[(0,v)],hp:=hp',nx:=nx'} {sl:=[(0,v1)],hp:=hp1,nx:=nx1}→K3 P T f vs hp nx v1 hp1 nx1
end
def Pure (P : Program) (T : Tab) (f : FuncId) (ds : List DV) (r : DV) : Prop:=
  ∃ v hp nx r',K3 P T f (ds.map .d) [] 0 v hp nx∧toD hp 8 v = some r'∧DLe r' r
end Go.Am
namespace Go.Am
variable {P : Program} {T : Tab}
def q2a (P : Program) (T : Tab) (base : Nat) (c : Code) (st : AS) (K : Ex→AS→Prop) : Prop:=∃ ex st',Ki P T base c st ex st'∧K ex st'
def OpsK (P : Program) (T : Tab) (base : Nat) (ops : Array Oper) (dr : Dr) (l : List Oper) (st : AS) (K : AS→Prop) : Prop:=∃ st',Km P T base ops dr l st st'∧K st'
def qbm (N : AS→Prop) (K : Ex→AS→Prop) : Ex→AS→Prop
  | .nor,st=>N st
  | .exit i,st=>K (.exit i) st
  | .ret,st=>K .ret st
def q4a (id : Nat) (N : AS→Prop) (K : Ex→AS→Prop) : Ex→AS→Prop
  | .nor,st=>N st
  | .exit i,st=>if i = id then N st else K (.exit i) st
  | .ret,st=>K .ret st
def RunK (P : Program) (T : Tab) (base : Nat) : List Code→AS→(Ex→AS→Prop)→Prop
  | [],st,K=>K .nor st
  | c::cs,st,K=>q2a P T base c st (qbm (fun st'=>RunK P T base cs st' K) K)
theorem q2a.mono {base : Nat} {c : Code} {st : AS} {K a : Ex→AS→Prop} (h : q2a P T base c st K) (hk : ∀ ex st,K ex st→a ex st) : q2a P T base c st a:=
  let ⟨ex,st',e,k⟩:=h;⟨ex,st',e,hk _ _ k⟩
theorem q136 {N : AS→Prop} {K : Ex→AS→Prop} {ex : Ex} {st : AS} (a : ex≠.nor) (h : K ex st) : qbm N K ex st:=by
  cases ex <;> first | exact absurd rfl a | exact h
theorem Jd {base : Nat} {c : Code} {st : AS} {K : Ex→AS→Prop} (h : RunK P T base [c] st K) : q2a P T base c st K:=
  q2a.mono h fun ex st h=>by cases ex <;> exact h
section
variable {base : Nat} {cs : List Code} {st : AS} {K : Ex→AS→Prop}
theorem Qg (h : K .nor st) : RunK P T base [] st K:=h
theorem qi {a b : Code} (h : RunK P T base (a::b::cs) st K) : RunK P T base (.seq a b::cs) st K:=by
  obtain ⟨ex,st1,e1,c⟩:=h
  cases ex with
  | nor=>
    obtain ⟨d,st2,g,f⟩:=c;exact ⟨d,st2,.seqN e1 g,f⟩
  | exit i=>exact ⟨_,_,.seqX e1 qd,c⟩
  | ret=>exact ⟨_,_,.seqX e1 qd,c⟩
theorem Q0 (h : RunK P T base cs st K) : RunK P T base (.skip::cs) st K:=⟨.nor,st,.skip,h⟩
theorem q24 (h : K .ret st) : RunK P T base (.ret::cs) st K:=⟨.ret,st,.ret,h⟩
theorem Qo {i : Nat} (h : K (.exit i) st) : RunK P T base (.exit i::cs) st K:=⟨.exit i,st,.exit,h⟩
theorem q23 {c : Operand} {a b : Code} (g : st.ev c = some (.d (.bool true))) (h : RunK P T base (a::cs) st K) : RunK P T base (.cond c a b::cs) st K:=by
  obtain ⟨ex,st1,e1,f⟩:=h;exact ⟨ex,st1,.condT g e1,f⟩
theorem Uk {c : Operand} {a b : Code} (g : st.ev c = some (.d (.bool false))) (h : RunK P T base (b::cs) st K) : RunK P T base (.cond c a b::cs) st K:=by
  obtain ⟨ex,st1,e1,f⟩:=h;exact ⟨ex,st1,.condF g e1,f⟩
theorem qmz {c : Operand} {a b : Code} {t : Bool} (f : st.ev c = some (.d (.bool t))) (g : t = true→RunK P T base (a::cs) st K) (h : t = false→RunK P T base (b::cs) st K) :
    RunK P T base (.cond c a b::cs) st K:=by
  cases t with
  | true=>exact q23 f (g rfl)
  | false=>exact Uk f (h rfl)
theorem Qf {id : Nat} {a : Code} (h : RunK P T base [a] st (q4a id (fun st'=>RunK P T base cs st' K) K)) : RunK P T base (.block id a::cs) st K:=by
  obtain ⟨ex,st1,e1,b⟩:=Jd h;refine ⟨ex.block id,st1,.block e1,?_⟩
  cases ex with
  | nor=>exact b
  | ret=>exact b
  | exit i=>
    simp only [q4a] at b;by_cases hi : i = id
    · simp only [Ex.block,hi,if_true] at b ⊢;exact b
    · simp only [Ex.block,hi,if_false] at b ⊢;exact b
theorem Q7 {id : Nat} {ops : Array Oper} (h : OpsK P T base ops none ops.toList st (fun st'=>RunK P T base cs st' K)) : RunK P T base (.region id ops false::cs) st K:=by
  obtain ⟨st1,e1,a⟩:=h;exact ⟨.nor,st1,.region e1,a⟩
theorem Qi {id : Nat} {ops : Array Oper} (F : List Fp) (b : q3g F ops = true) (h : OpsK P T base ops (some F) ops.toList st (fun st'=>RunK P T base cs st' K)) : RunK P T base (.region id ops true::cs) st K:=by
  obtain ⟨st1,e1,a⟩:=h;exact ⟨.nor,st1,.regionD e1 b,a⟩
theorem qvv {ops : Array Oper} {F : List Fp} {o : Oper} {l : List Oper} {st : AS} {K : AS→Prop} (hp : Jx (fpAt F l.length) = true) (h : OpsK P T base ops none [o] st (fun st1=>OpsK P T base ops (some F) l st1 K)) : OpsK P T base ops (some F) (o::l) st K:=by
  obtain ⟨st1,e1,st2,a,k⟩:=h;exact ⟨st2,.piv hp e1 a,k⟩
theorem Zv {st' : AS} (d : WkE base st st') (h : RunK P T base cs st' K) (a : cs≠[]) : RunK P T base cs st K:=by
  cases cs with
  | nil=>exact absurd rfl a
  | cons c cs=>
    obtain ⟨ρ,fz,ph,w⟩:=d;obtain ⟨ex,st1,e1,b⟩:=h;exact ⟨ex,st1,.wk w e1,b⟩
theorem qn1 {α : Type} (S : α→AS) (C : α→Prop) (μ : α→Nat) (j : α) {body : Code} (l : WkE base st (S j)) (c0 : C j)
    (round : ∀ a,C a→RunK P T base [body] (S a) (fun ex st'=>match ex with
      | .nor=>∃ a',C a'∧μ a' < μ a∧WkE base st' (S a')
      | ex=>K ex st')) : RunK P T base (.loop body::cs) st K:=by
  have key : ∀ n a,μ a = n→C a→∃ ex st',Ki P T base (.loop body) (S a) ex st'∧ex≠.nor∧K ex st':=by
    intro n
    induction n using Nat.strongRecOn with
    | _ n ih=>
      intro a m o;obtain ⟨ex,st1,e1,b⟩:=Jd (round a o)
      cases ex with
      | nor=>
        obtain ⟨a',k,c,ρ,fz,ph,w⟩:=b;obtain ⟨f,st2,d,g,h⟩:=ih (μ a') (m ▸ c) a' rfl k;exact ⟨f,st2,.loopN e1 (.wk w d),g,h⟩
      | exit i=>exact ⟨_,_,.loopX e1 qd,qd,b⟩
      | ret=>exact ⟨_,_,.loopX e1 qd,qd,b⟩
  obtain ⟨ρ,fz,ph,w⟩:=l;obtain ⟨ex,st2,d,g,h⟩:=key _ j rfl c0;exact ⟨ex,st2,.wk w d,q136 g h⟩
end
section
variable {base : Nat} {ops : Array Oper} {dr : Dr} {l : List Oper} {st : AS} {K : AS→Prop}
theorem qc (h : K st) : OpsK P T base ops dr [] st K:=⟨st,.nil,h⟩
theorem Ye {o : Oper} {v : V} {st1 : AS} (c : Qs ops st o = some true) (b : opFn T st o.op = some (v,st1)) (h : OpsK P T base ops dr l (st1.putD o.dst v) K) (a : okO dr l.length st o.op st1 = true) : OpsK P T base ops dr (o::l) st K:=by
  obtain ⟨st2,d,k⟩:=h;exact ⟨st2,.op c b a d,k⟩
theorem qvu {o : Oper} {st1 : AS} {n es : Nat} {xs : List (List DV)} {hp2 : List (Nat × Blk)} (j : Qs ops st o = some true) (b : opFn T st o.op = some (.hs n es 0 xs.length,st1)) (g : touch o.op = 2) (f : n = st.nx∧st1.nx = n + 1) (c : st1.hp = (n,.dat es xs)::hp2) (a : find hp2 n = none)
    (h : OpsK P T base ops dr l (({sl:=st1.sl,hp:=hp2,nx:=st1.nx} : AS).putD o.dst (.d (.sl es xs))) K) (p : okF dr l.length (fp st o.op) = true) : OpsK P T base ops dr (o::l) st K:=by
  obtain ⟨st2,m,k⟩:=h;exact ⟨st2,.opF j b g f c a p m,k⟩
theorem qvx {o : Oper} (a : Qs ops st o = some false) (h : OpsK P T base ops dr l (st.putD o.dst (.d (.tup []))) K) : OpsK P T base ops dr (o::l) st K:=by
  obtain ⟨st2,b,k⟩:=h;exact ⟨st2,.skip a b,k⟩
theorem qlt {o : Oper} {c : Call} {f : FuncId} {a : List V} {ds : List DV} {r : DV} (m : Qs ops st o = some true) (g : o.op = .call c) (n : callee st c = some (f,a)) (hd : Y8 st.hp a = some ds)
    (hs : (a.all V.isD = true∨r.scalar = true)) (hp : Pure P T f ds r) (h : OpsK P T base ops dr l (st.putD o.dst (.d r)) K) (q : okF dr l.length (fpC a) = true) : OpsK P T base ops dr (o::l) st K:=by
  obtain ⟨v,hp',nx,s,e1,j,b⟩:=hp;obtain ⟨st2,p,k⟩:=h;exact ⟨st2,.callP m g n hd e1 j b hs q p,k⟩
end
theorem q5d : ∀ (l : List V) (k t : Nat),find (Yb k l) t = if k≤t then l[t - k]? else none
  | [],k,t=>by simp [Yb,find]
  | v::r,k,t=>by
    simp only [Yb,find]
    by_cases h : k = t
    · subst h;simp
    · have hb : Nat.beq k t = false:=by
        cases hb : Nat.beq k t with
        | true=>exact absurd (Nat.eq_of_beq_eq_true hb) h
        | false=>rfl
      rw [hb]
      simp only
      rw [q5d r (k + 1) t]
      by_cases a : k≤t
      · rw [qu a,qu q8,show t - k = (t - (k + 1)) + 1 by omega,List.getElem?_cons_succ]
      · rw [qw a,qw q8]
theorem Kd {f : FuncId} {fn : Func} {c : Code} {ds : List DV} {r : DV} (k : P.funcs[f]? = some fn) (hb : fn.body = some c) (a : (fn.name == "runtime.NumGoroutine") = false) (g : codeOk fn.ntmps c = true) (l : Nat.ble ds.length fn.ntmps = true)
    (h : RunK P T 0 [c] {sl:=Yb 0 (ds.map .d),hp:=[],nx:=0} (fun ex st=>(ex = .nor∨ex = .ret)∧∃ v b,resV T st fn.results.toList = some v∧toD st.hp 8 v = some b∧DLe b r)) : Pure P T f ds r:=by
  obtain ⟨ex,st',e,n,v,b,o,m,j⟩:=Jd h;exact ⟨v,st'.hp,st'.nx,b,.mk k hb a g (by simpa using l) e n o,m,j⟩
def WkL (st : AS) (ρ : Nat→Nat) (fz ph : List Nat) (nx : Nat) : List (Nat × V)→Prop
  | []=>True
  | (t,v')::r=>(∃ v,st.get t = some v∧Wv st ρ fz ph nx v v')∧WkL st ρ fz ph nx r
def WkH (st : AS) (ρ : Nat→Nat) (fz ph : List Nat) (nx : Nat) : List (Nat × Blk)→Prop
  | []=>True
  | (n,b')::r=>(n < nx∧((n∈ph∧∃ es,es≠0∧b' = .dat es [])∨(n ∉ ph∧∃ b,st.blk (ρ n) = some b∧Wb st ρ fz ph nx b b')))∧WkH st ρ fz ph nx r
theorem Jf {α : Type} {l : List (Nat × α)} {t : Nat} {v : α} (h : find l t = some v) : (t,v)∈l:=by
  induction l with
  | nil=>simp [find] at h
  | cons x r ih=>
    obtain ⟨k,y⟩:=x;simp only [find] at h
    cases hk : Nat.beq k t with
    | true=>rw [hk] at h;simp at h;subst h;rw [Nat.eq_of_beq_eq_true hk];exact List.mem_cons_self
    | false=>rw [hk] at h;exact List.mem_cons_of_mem _ (ih h)
theorem WkL.get {st : AS} {ρ : Nat→Nat} {fz ph : List Nat} {nx : Nat} {l : List (Nat × V)} (h : WkL st ρ fz ph nx l) {t : Nat} {b : V} (a : (t,b)∈l) : ∃ v,st.get t = some v∧Wv st ρ fz ph nx v b:=by
  induction l with
  | nil=>cases a
  | cons x r ih=>
    obtain ⟨k,y⟩:=x
    cases a with
    | head=>exact h.1
    | tail _ a=>exact ih h.2 a
theorem WkH.get {st : AS} {ρ : Nat→Nat} {fz ph : List Nat} {nx : Nat} {l : List (Nat × Blk)} (h : WkH st ρ fz ph nx l) {n : Nat} {c : Blk} (a : (n,c)∈l) :
    n < nx∧((n∈ph∧∃ es,es≠0∧c = .dat es [])∨(n ∉ ph∧∃ b,st.blk (ρ n) = some b∧Wb st ρ fz ph nx b c)):=by
  induction l with
  | nil=>cases a
  | cons x r ih=>
    obtain ⟨k,y⟩:=x
    cases a with
    | head=>exact h.1
    | tail _ a=>exact ih h.2 a
def rho (l : List (Nat × Nat)) (n : Nat) : Nat:=match find l n with
  | some m=>m
  | none=>n
def memN (l : List Nat) (n : Nat) : Bool:=match l with
  | []=>false
  | k::r=>Nat.beq k n || memN r n
theorem q5s {l : List Nat} {n : Nat} : memN l n = true↔n∈l:=by
  induction l with
  | nil=>simp [memN]
  | cons k r ih=>
    simp only [memN,Bool.or_eq_true,ih,List.mem_cons];constructor
    · rintro (h | h)
      · exact .inl (Nat.eq_of_beq_eq_true h).symm
      · exact .inr h
    · rintro (h | h)
      · exact .inl (by rw [h];exact Nat.beq_refl k)
      · exact .inr h
def wkOk (base : Nat) (l : List (Nat × Nat)) (fz ph : List Nat) (hp : List (Nat × Blk)) (nx : Nat) : Bool:=
  Nat.ble base nx && l.all (fun x=>Nat.ble base x.1) && fz.all (fun n=>Nat.ble base n) && ph.all (fun n=>Nat.ble base n) &&
  hp.all (fun x=>memN ph x.1 || (!memN fz (rho l x.1) && hp.all fun y=>memN ph y.1 || !(Nat.beq (rho l x.1) (rho l y.1)) || Nat.beq x.1 y.1))
theorem wkE {base : Nat} {st st' : AS} (l : List (Nat × Nat)) (fz ph : List Nat) (g : wkOk base l fz ph st'.hp st'.nx = true) (hs : WkL st (rho l) fz ph st'.nx st'.sl) (q : WkH st (rho l) fz ph st'.nx st'.hp) : WkE base st st':=by
  simp only [wkOk,Bool.and_eq_true,Nat.ble_eq,List.all_eq_true] at g;obtain ⟨⟨⟨⟨u,p⟩,r⟩,v⟩,o⟩:=g;refine ⟨rho l,fz,ph,?_,?_,?_,?_,?_,u,?_,?_⟩
  · exact fun t x h=>hs.get (Jf h)
  · exact fun n y h=>q.get (Jf h)
  · intro n m b c a k d j s;have:=o _ (Jf a);simp only [Bool.or_eq_true,Bool.and_eq_true,q5s,List.all_eq_true,Bool.not_eq_true'] at this;rcases this with h | h
    · exact absurd h d
    · have:=h.2 _ (Jf k);rcases this with (f | f) | f
      · exact absurd f j
      · rw [s] at f;simp at f
      · exact Nat.eq_of_beq_eq_true f
  · intro n b a d w;have:=o _ (Jf a);simp only [Bool.or_eq_true,Bool.and_eq_true,q5s,Bool.not_eq_true'] at this;rcases this with h | h
    · exact absurd h d
    · rw [q5s.2 w] at h;exact absurd h.1 qd
  · intro n a;unfold rho;split
    · rename_i m k;have:=p _ (Jf k);simp at this;omega
    · rfl
  · exact fun n a=>r n a
  · exact fun n a=>v n a
end Go.Am
namespace Go.Am
open Go
def live : Blk→Bool
  | .dead=>false
  | _=>true
def q46 (ents : Array MapEntry) (cl : Nat) : Prop:=ents.size = cl∧∀ (i : Nat) (x : MapEntry),ents[i]? = some x→x.born = i
def Jm {α : Type} (es : List (DV × α)) : Prop:=(es.map (·.1)).Nodup∧∃ ag ks,∀ e∈es,Yk ag ks e.1 = true
def qcs : Obj→Bool
  | .map .. | .mapIter ..=>true
  | _=>false
inductive RelD (w : World) (Z : Nat→Prop) : DV→Value→Prop
  | int (k : IntKind) (n : Int) : RelD w Z (.int k n) (.int k n)
  | bool (b : Bool) : RelD w Z (.bool b) (.bool b)
  | str (s : ByteArray) : RelD w Z (.str s) (.string s)
  | agg {ds : List DV} {cs : Array Value} : ds.length = cs.size→(∀ (i : Nat) (d : DV) (c : Value),ds[i]? = some d→cs[i]? = some c→RelD w Z d c)→RelD w Z (.agg ds) (.agg cs)
  | tup {ds : List DV} {cs : Array Value} : ds.length = cs.size→(∀ (i : Nat) (d : DV) (c : Value),ds[i]? = some d→cs[i]? = some c→RelD w Z d c)→RelD w Z (.tup ds) (.tuple cs)
  | fn {f : FuncId} {ds : List DV} {cs : Array Value} : ds.length = cs.size→(∀ (i : Nat) (d : DV) (c : Value),ds[i]? = some d→cs[i]? = some c→RelD w Z d c)→RelD w Z (.fn f ds) (.func (.func f) #[] cs)
  | bfn {f : FuncId} {ds : List DV} {cs : Array Value} : ds.length = cs.size→(∀ (i : Nat) (d : DV) (c : Value),ds[i]? = some d→cs[i]? = some c→RelD w Z d c)→RelD w Z (.bfn f ds) (.func (.func f) cs #[])
  | nilsl : RelD w Z .nilsl (.slice none 0 0)
  | slnil (es : Nat) : RelD w Z (.sl es []) (.slice none 0 0)
  | slemp (es : Nat) (a : Addr) : RelD w Z (.sl es []) (.slice (some a) 0 0)
  | sl {es : Nat} {xs : List (List DV)} {b o cap : Nat} : xs.length≤cap→(xs≠[]→Z b)→(∀ (i : Nat) (x : List DV),xs[i]? = some x→x.length = es)→
      (∀ (i : Nat) (x : List DV) (j : Nat) (d : DV),xs[i]? = some x→x[j]? = some d→Zk d = true∧∃ c,w.cell? ⟨b,o + (i * es + j),none⟩ = some c)→
      (∀ (i : Nat) (x : List DV) (j : Nat) (d : DV) (c : Value),xs[i]? = some x→x[j]? = some d→w.cell? ⟨b,o + (i * es + j),none⟩ = some c→RelD w Z d c)→
      RelD w Z (.sl es xs) (.slice (some ⟨b,o,none⟩) xs.length cap)
  | nilp : RelD w Z .nilp (.pointer none)
  | nilf : RelD w Z .nilf .nilFunc
  | nilm : RelD w Z .nilm (.map none)
  | box {cs : List DV} {b o : Nat} : Z b→(∀ (j : Nat) (d : DV),cs[j]? = some d→∃ c,w.cell? ⟨b,o + j,none⟩ = some c)→
      (∀ (j : Nat) (d : DV) (c : Value),cs[j]? = some d→w.cell? ⟨b,o + j,none⟩ = some c→RelD w Z d c)→RelD w Z (.box cs) (.pointer (some ⟨b,o,none⟩))
  | mp {es es2 : List (DV × DV)} {b : Nat} {ents : Array MapEntry} {cl : Nat} : Z b→w.heap[b]? = some (.map ents cl)→es2.Perm es→Jm es2→q46 ents cl→ents.size = es2.length→
      (∀ (i : Nat) (e : DV × DV),es2[i]? = some e→Zk e.2 = true)→(∀ (i : Nat) (e : DV × DV) (x : MapEntry),es2[i]? = some e→ents[i]? = some x→RelD w Z e.1 x.key)→
      (∀ (i : Nat) (e : DV × DV) (x : MapEntry),es2[i]? = some e→ents[i]? = some x→RelD w Z e.2 x.val)→RelD w Z (.mp es) (.map (some b))
abbrev Inj:=Nat→Option (Nat × Nat)
def Big (w : World) (b m : Nat) : Prop:=∃ c e f,w.heap[b]? = some (.cells c e f)∧m≤c.size
def J3 (w w' : World) : Prop:=∀ (b : Nat) (c : Array Value) (e : TypeId) (f : Nat × Nat),w.heap[b]? = some (Obj.cells c e f)→∃ (c' : Array Value) (e' : TypeId) (f' : Nat × Nat),w'.heap[b]? = some (Obj.cells c' e' f')∧c'.size = c.size
def qbt (w w' : World) : Prop:=∀ (b : Nat) (r : Loop),w.heap[b]? = some (Obj.loop r)→∃ r' : Loop,w'.heap[b]? = some (Obj.loop r')∧r'.defers = r.defers
inductive RelV (w : World) (Z : Nat→Prop) (inj : Inj) (nx : Nat) : V→Value→Prop
  | d {x : DV} {v : Value} : RelD w Z x v→RelV w Z inj nx (.d x) v
  | agg {ds : List V} {cs : Array Value} : ds.length = cs.size→(∀ (i : Nat) (d : V) (c : Value),ds[i]? = some d→cs[i]? = some c→RelV w Z inj nx d c)→RelV w Z inj nx (.agg ds) (.agg cs)
  | tup {ds : List V} {cs : Array Value} : ds.length = cs.size→(∀ (i : Nat) (d : V) (c : Value),ds[i]? = some d→cs[i]? = some c→RelV w Z inj nx d c)→RelV w Z inj nx (.tup ds) (.tuple cs)
  | fn {f : FuncId} {ds : List V} {cs : Array Value} : ds.length = cs.size→(∀ (i : Nat) (d : V) (c : Value),ds[i]? = some d→cs[i]? = some c→RelV w Z inj nx d c)→RelV w Z inj nx (.fn f ds) (.func (.func f) #[] cs)
  | ref {n es i j b o : Nat} : n < nx→inj n = some (b,o)→RelV w Z inj nx (.ref n es i j) (.pointer (some ⟨b,o + (i * es + j),none⟩))
  | dref {cs : List DV} {j b o : Nat} : Z b→(∀ (k : Nat) (d : DV),cs[k]? = some d→∃ c,w.cell? ⟨b,o + k,none⟩ = some c)→
      (∀ (k : Nat) (d : DV) (c : Value),cs[k]? = some d→w.cell? ⟨b,o + k,none⟩ = some c→RelD w Z d c)→RelV w Z inj nx (.dref cs j) (.pointer (some ⟨b,o + j,none⟩))
  | hsnil {n es off : Nat} : n < nx→RelV w Z inj nx (.hs n es off 0) (.slice none 0 0)
  | hs {n es off len cap : Nat} {a : Addr} : n < nx→len≤cap→a.spot = none→(cap≠0→∃ b o,inj n = some (b,o)∧a = ⟨b,o + off * es,none⟩∧Big w b (o + (off + cap) * es))→RelV w Z inj nx (.hs n es off len) (.slice (some a) len cap)
  | yld {n b o : Nat} : n < nx→inj n = some (b,o)→RelV w Z inj nx (.yld n) (.func (.yield b) #[] #[])
  | mp {n b : Nat} : n < nx→inj n = some (b,0)→RelV w Z inj nx (.mp n) (.map (some b))
  | it {n b : Nat} : n < nx→inj n = some (b,0)→RelV w Z inj nx (.it n) (.pointer (some ⟨b,0,none⟩))
  | dead (v : Value) : RelV w Z inj nx .dead v
def Z7 (w : World) (Z : Nat→Prop) (inj : Inj) (nx : Nat) (s : List (Nat × V)) (tmps : Array Value) : Prop:=
  ∀ t v,find s t = some v→∃ x,tmps[t]? = some x∧RelV w Z inj nx v x
def RelB (w : World) (Z : Nat→Prop) (inj : Inj) (nx n : Nat) : Blk→Prop
  | .dead=>True
  | .dat es xs=>es≠0∧(∀ (i : Nat) (x : List DV),xs[i]? = some x→x.length = es)∧((xs = []∧inj n = none)∨∃ b o arr ty,inj n = some (b,o)∧w.heap[b]? = some (.cells arr ty (0,0))∧
      ∀ (i : Nat) (x : List DV) (j : Nat) (d : DV),xs[i]? = some x→x[j]? = some d→Zk d = true∧∃ c,arr[o + (i * es + j)]? = some c∧RelD w Z d c)
  | .cel es xs=>es≠0∧(∀ (i : Nat) (x : List V),xs[i]? = some x→x.length = es)∧((xs = []∧inj n = none)∨∃ b o arr ty,inj n = some (b,o)∧w.heap[b]? = some (.cells arr ty (0,0))∧
      ∀ (i : Nat) (x : List V) (j : Nat) (d : V),xs[i]? = some x→x[j]? = some d→Kh d = true∧∃ c,arr[o + (i * es + j)]? = some c∧RelV w Z inj nx d c)
  | .mp o es=>∃ (b : Nat) (ents : Array MapEntry) (cl : Nat) (es2 : List (DV × V)),inj n = some (b,0)∧w.heap[b]? = some (.map ents cl)∧es2.Perm es∧(o = true→es2 = es)∧Jm es2∧q46 ents cl∧ents.size = es2.length∧
      ∀ (i : Nat) (e : DV × V) (x : MapEntry),es2[i]? = some e→ents[i]? = some x→RelD w Z e.1 x.key∧RelV w Z inj nx e.2 x.val∧Kh e.2 = true
  | .itF cur rest=>∃ (r b : Nat) (ents : Array MapEntry) (cl : Nat) (seen : Array Nat) (es2 : List (DV × DV)) (js : List Nat),inj n = some (r,0)∧w.heap[r]? = some (.mapIter (some b) cl seen cl)∧Z b∧w.heap[b]? = some (.map ents cl)∧q46 ents cl∧ents.size = es2.length∧
      (∀ (i : Nat) (e : DV × DV) (x : MapEntry),es2[i]? = some e→ents[i]? = some x→RelD w Z e.1 x.key∧RelD w Z e.2 x.val)∧
      List.Nodup js∧(∀ j,j∈js↔j < es2.length∧j ∉ seen)∧rest.Perm (js.filterMap fun j=>es2[j]?)∧∀ e,cur = some e→∃ j,seen.back? = some j∧es2[j]? = some e
  | .itO m sz cur rest=>∃ (r b : Nat) (seen : Array Nat),inj n = some (r,0)∧m < nx∧inj m = some (b,0)∧w.heap[r]? = some (.mapIter (some b) sz seen sz)∧rest.Nodup∧(∀ j,j∈rest↔j < sz∧j ∉ seen)∧
      ∀ j,cur = some j→seen.back? = some j∧j < sz
  | .loop s ps assign body ls pe=>∃ b tmps D fn,inj n = some (b,0)∧w.heap[b]? = some (.loop {state:=ls,pending:=pe,fn:=fn,tmps:=tmps,params:=ps.toArray,assign:=assign,body:=body,defers:=D})∧
      (codeOk tmps.size assign = true∧codeOk tmps.size body = true∧∀ p∈ps,p < tmps.size)∧Z7 w Z inj nx s tmps
def im (hp : List (Nat × Blk)) (inj : Inj) (b : Nat) : Prop:=∃ n blk o,find hp n = some blk∧live blk = true∧inj n = some (b,o)
structure RelH (w : World) (Z : Nat→Prop) (inj : Inj) (hp : List (Nat × Blk)) (nx : Nat) : Prop where
  blk : ∀ n b,find hp n = some b→n < nx∧RelB w Z inj nx n b
  sep : ∀ n m b c p q,find hp n = some b→find hp m = some c→live b = true→live c = true→inj n = some p→inj m = some q→n≠m→p.1≠q.1
  out : ∀ n b p,find hp n = some b→live b = true→inj n = some p→¬ Z p.1
  zs : ∀ b,Z b→b < w.heap.size
  zc : ∀ b,Z b→(∃ c e f,w.heap[b]? = some (.cells c e f))∨∃ c e,w.heap[b]? = some (.map c e)
structure RelS (w : World) (Z : Nat→Prop) (inj : Inj) (st : AS) (a : Act) (Ds : List Nat) : Prop where
  slots : Z7 w Z inj st.nx st.sl a.tmps
  heap : RelH w Z inj st.hp st.nx
  defs : a.defers = Ds.map fun D=>{target:=.collected D,args:=#[]}
  nodup : Ds.Nodup
  marks : ∀ D∈Ds,w.heap[D]? = some (.deferred (some []))
structure Ext (w : World) (Z : Nat→Prop) (inj : Inj) (hp : List (Nat × Blk)) (w' : World) (Z' : Nat→Prop) (inj' : Inj) (hp' : List (Nat × Blk)) (pin : Nat) : Prop where
  size : w.heap.size≤w'.heap.size
  keep : ∀ b,b < w.heap.size→¬ im hp inj b→w'.heap[b]? = w.heap[b]?
  imm : ∀ b,im hp' inj' b→im hp inj b∨w.heap.size≤b
  big : J3 w w'
  loops : qbt w w'
  zin : ∀ b,Z b→Z' b
  zout : ∀ b,Z' b→Z b∨im hp inj b∨w.heap.size≤b
  pinj : ∀ n,n < pin→inj' n = inj n
  tape : w'.tape = w.tape
  os : w'.os = w.os
  output : w'.output = w.output
  frz : ∀ a,w'.frozen? a = w.frozen? a
def Unfr : Obj→Prop
  | .cells _ _ f=>f = (0,0)
  | _=>True
theorem qjy (w : World) {o : Obj} (b : Unfr o) (a : Addr) : (w.alloc o).frozen? a = w.frozen? a:=by
  by_cases h : a.block = w.heap.size
  · have e1 : (w.alloc o).heap[a.block]? = some o:=by rw [h];show (w.heap.push o)[w.heap.size]? = some o;simp
    have c : w.heap[a.block]? = none:=by rw [h];simp
    simp only [World.frozen?,e1,c];cases o <;> try rfl
    simp only [Unfr] at b;subst b;simp
  · have : (w.alloc o).heap[a.block]? = w.heap[a.block]?:=by
      show (w.heap.push o)[a.block]? = _;grind
    simp only [World.frozen?,this]
theorem cell?_congr {w w' : World} {a : Addr} (h : w'.heap[a.block]? = w.heap[a.block]?) : w'.cell? a = w.cell? a:=by
  simp only [World.cell?,h]
theorem RelD.mono {w w' : World} {Z Z' : Nat→Prop} {d : DV} {v : Value} (h : RelD w Z d v) (l : ∀ b,Z b→w'.heap[b]? = w.heap[b]?) (p : ∀ b,Z b→Z' b) : RelD w' Z' d v:=by
  induction h with
  | int k n=>exact .int k n
  | bool b=>exact .bool b
  | str s=>exact .str s
  | agg hl _ ih=>exact .agg hl ih
  | tup hl _ ih=>exact .tup hl ih
  | fn hl _ ih=>exact .fn hl ih
  | bfn hl _ ih=>exact .bfn hl ih
  | nilsl=>exact .nilsl
  | slnil es=>exact .slnil es
  | slemp es a=>exact .slemp es a
  | @sl es xs b o cap hc hb hl hs _ ih=>
    have m : ∀ (i : Nat) (x : List DV),xs[i]? = some x→Z b:=fun i x g=>hb (by rintro rfl;simp at g);refine .sl hc (fun h=>p _ (hb h)) hl ?_ ?_
    · intro i x j d g hd;rw [cell?_congr (w:=w) (l b (m i x g))];exact hs i x j d g hd
    · intro i x j d c g hd f;rw [cell?_congr (w:=w) (l b (m i x g))] at f;grind
  | nilp=>exact .nilp
  | nilf=>exact .nilf
  | nilm=>exact .nilm
  | @box cs b o hb hs _ ih=>
    refine .box (p _ hb) ?_ ?_
    · intro j d hd;rw [cell?_congr (w:=w) (l b hb)];exact hs j d hd
    · intro j d c hd f;rw [cell?_congr (w:=w) (l b hb)] at f;grind
  | mp h1 h2 h3 h4 h5 h6 h7 _ _ ih1 ih2=>exact .mp (p _ h1) ((l _ h1).trans h2) h3 h4 h5 h6 h7 ih1 ih2
theorem Big.mono {w w' : World} {b m : Nat} (h : Big w b m) (hb : J3 w w') : Big w' b m:=by
  obtain ⟨c,e,f,d,l⟩:=h;obtain ⟨a,k,g,j,n⟩:=hb _ _ _ _ d;exact ⟨a,k,g,j,q8⟩
theorem RelV.mono {w w' : World} {Z Z' : Nat→Prop} {inj inj' : Inj} {nx nx' : Nat} {x : V} {v : Value} (h : RelV w Z inj nx x v) (f : ∀ b,Z b→w'.heap[b]? = w.heap[b]?) (g : ∀ b,Z b→Z' b)
    (hb : J3 w w') (hi : ∀ n,n < nx→inj' n = inj n) (q : nx≤nx') : RelV w' Z' inj' nx' x v:=by
  induction h with
  | d h=>exact .d (h.mono f g)
  | agg hl _ ih=>exact .agg hl ih
  | tup hl _ ih=>exact .tup hl ih
  | fn hl _ ih=>exact .fn hl ih
  | ref h1 h2=>exact .ref q8 ((hi _ h1).trans h2)
  | @dref cs j b o h1 h2 h3=>
    refine .dref (g _ h1) ?_ ?_
    · intro k d hd;rw [cell?_congr (w:=w) (f b h1)];exact h2 k d hd
    · intro k d c hd a;rw [cell?_congr (w:=w) (f b h1)] at a;exact (h3 k d c hd a).mono f g
  | hsnil h1=>exact .hsnil q8
  | hs h1 h2 hsp h3=>
    refine .hs q8 h2 hsp fun m=>?_;obtain ⟨b,o,e1,p,l⟩:=h3 m;exact ⟨b,o,(hi _ h1).trans e1,p,l.mono hb⟩
  | yld h1 h2=>exact .yld q8 ((hi _ h1).trans h2)
  | mp h1 h2=>exact .mp q8 ((hi _ h1).trans h2)
  | it h1 h2=>exact .it q8 ((hi _ h1).trans h2)
  | dead v=>exact .dead v
theorem Z7.mono {w w' : World} {Z Z' : Nat→Prop} {inj inj' : Inj} {nx nx' : Nat} {s : List (Nat × V)} {tmps : Array Value} (h : Z7 w Z inj nx s tmps) (a : ∀ b,Z b→w'.heap[b]? = w.heap[b]?) (f : ∀ b,Z b→Z' b)
    (hb : J3 w w') (hi : ∀ n,n < nx→inj' n = inj n) (d : nx≤nx') : Z7 w' Z' inj' nx' s tmps:=
  fun t v c=>let ⟨x,hx,hr⟩:=h t v c;⟨x,hx,hr.mono a f hb hi d⟩
theorem RelB.mono {w w' : World} {Z Z' : Nat→Prop} {inj inj' : Inj} {nx nx' n : Nat} {b : Blk} (h : RelB w Z inj nx n b) (hw : ∀ b,Z b→w'.heap[b]? = w.heap[b]?) (z : ∀ b,Z b→Z' b)
    (hb : J3 w w') (hi : ∀ n,n < nx→inj' n = inj n) (hn : nx≤nx') (k : n < nx)
    (hs : ∀ p,inj n = some p→live b = true→w'.heap[p.1]? = w.heap[p.1]?) : RelB w' Z' inj' nx' n b:=by
  cases b with
  | dead=>trivial
  | dat es xs=>
    obtain ⟨f,l,a⟩:=h;refine ⟨f,l,?_⟩;rcases a with ⟨a,g⟩ | ⟨b,o,arr,ty,a,g,u⟩
    · grind
    · refine .inr ⟨b,o,arr,ty,(hi _ k).trans a,(hs _ a rfl).trans g,?_⟩;intro i x j d t hd;obtain ⟨h6,c,y,v⟩:=u i x j d t hd;exact ⟨h6,c,y,v.mono hw z⟩
  | cel es xs=>
    obtain ⟨f,l,a⟩:=h;refine ⟨f,l,?_⟩;rcases a with ⟨a,g⟩ | ⟨b,o,arr,ty,a,g,u⟩
    · grind
    · refine .inr ⟨b,o,arr,ty,(hi _ k).trans a,(hs _ a rfl).trans g,?_⟩;intro i x j d t hd;obtain ⟨h6,c,y,v⟩:=u i x j d t hd;exact ⟨h6,c,y,v.mono hw z hb hi hn⟩
  | mp o es=>
    obtain ⟨b,q,cl,es2,f,l,a,g,u,h6,y,v⟩:=h;exact ⟨b,q,cl,es2,(hi _ k).trans f,(hs _ f rfl).trans l,a,g,u,h6,y,fun i e x he t=>⟨(v i e x he t).1.mono hw z,(v i e x he t).2.1.mono hw z hb hi hn,(v i e x he t).2.2⟩⟩
  | itF cur rest=>
    obtain ⟨r,b,q,cl,seen,es2,js,f,l,a,g,u,h6,y,v⟩:=h;exact ⟨r,b,q,cl,seen,es2,js,(hi _ k).trans f,(hs _ f rfl).trans l,z _ a,(hw _ a).trans g,u,h6,fun i e x he t=>⟨(y i e x he t).1.mono hw z,(y i e x he t).2.mono hw z⟩,v⟩
  | itO m sz cur rest=>
    obtain ⟨r,b,seen,f,l,a,g,u⟩:=h;exact ⟨r,b,seen,(hi _ k).trans f,q8,(hi _ l).trans a,(hs _ f rfl).trans g,u⟩
  | loop s ps assign body dn pe=>
    obtain ⟨b,tmps,D,fn,f,l,a,g⟩:=h;exact ⟨b,tmps,D,fn,(hi _ k).trans f,(hs _ f rfl).trans l,a,g.mono hw z hb hi hn⟩
theorem RelB.lt {w : World} {Z : Nat→Prop} {inj : Inj} {nx n : Nat} {b : Blk} (h : RelB w Z inj nx n b) (g : live b = true) {p : Nat × Nat} (hp : inj n = some p) :
    (∃ arr ty,w.heap[p.1]? = some (.cells arr ty (0,0)))∨(∃ r,w.heap[p.1]? = some (.loop r))∨∃ (f : Obj) (_ : qcs f = true),w.heap[p.1]? = some f:=by
  cases b with
  | dead=>simp [live] at g
  | dat es xs=>
    obtain ⟨_,_,j⟩:=h;grind
  | cel es xs=>
    obtain ⟨_,_,j⟩:=h;grind
  | loop s ps assign body dn pe=>
    obtain ⟨b,tmps,D,fn,c,a,_,_⟩:=h;grind
  | mp o es=>
    obtain ⟨b,d,cl,es2,c,a,_⟩:=h;rw [c] at hp;cases hp;exact .inr (.inr ⟨_,rfl,a⟩)
  | itF cur rest=>
    obtain ⟨r,b,d,cl,seen,es2,k,c,a,_⟩:=h;rw [c] at hp;cases hp;exact .inr (.inr ⟨_,rfl,a⟩)
  | itO m sz cur rest=>
    obtain ⟨r,b,seen,c,_,_,a,_⟩:=h;rw [c] at hp;cases hp;exact .inr (.inr ⟨_,rfl,a⟩)
theorem J1 {w : World} {b : Nat} {o : Obj} (h : w.heap[b]? = some o) : b < w.heap.size:=(Array.getElem?_eq_some_iff.1 h).1
theorem RelH.im_obj {w : World} {Z : Nat→Prop} {inj : Inj} {hp : List (Nat × Blk)} {nx : Nat} (h : RelH w Z inj hp nx) {b : Nat} (hi : im hp inj b) :
    (∃ arr ty,w.heap[b]? = some (.cells arr ty (0,0)))∨(∃ r,w.heap[b]? = some (.loop r))∨∃ (a : Obj) (_ : qcs a = true),w.heap[b]? = some a:=by
  obtain ⟨n,blk,o,f,c,d⟩:=hi;exact (h.blk n blk f).2.lt c d
theorem RelH.im_lt {w : World} {Z : Nat→Prop} {inj : Inj} {hp : List (Nat × Blk)} {nx : Nat} (h : RelH w Z inj hp nx) {b : Nat} (hi : im hp inj b) : b < w.heap.size:=by
  rcases h.im_obj hi with ⟨arr,ty,e⟩ | ⟨r,e⟩ | ⟨es,cl,e⟩ <;> exact J1 e
theorem RelH.z_im {w : World} {Z : Nat→Prop} {inj : Inj} {hp : List (Nat × Blk)} {nx : Nat} (h : RelH w Z inj hp nx) {b : Nat} (f : Z b) : ¬ im hp inj b:=by
  rintro ⟨n,blk,o,c,a,d⟩;exact h.out n blk _ c a d f
theorem Ext.zkeep {w w' : World} {Z Z' : Nat→Prop} {inj inj' : Inj} {hp hp' : List (Nat × Blk)} {nx pin : Nat} (e : Ext w Z inj hp w' Z' inj' hp' pin) (h : RelH w Z inj hp nx) : ∀ b,Z b→w'.heap[b]? = w.heap[b]?:=
  fun b a=>e.keep b (h.zs b a) (h.z_im a)
theorem Ext.refl {w : World} {Z : Nat→Prop} {inj : Inj} {hp : List (Nat × Blk)} {pin : Nat} : Ext w Z inj hp w Z inj hp pin:=
  ⟨Nat.le_refl _,fun _ _ _=>rfl,fun _ h=>.inl h,fun _ c e f h=>⟨c,e,f,h,rfl⟩,fun _ r h=>⟨r,h,rfl⟩,fun _ h=>h,fun _ h=>.inl h,fun _ _=>rfl,rfl,rfl,rfl,fun _=>rfl⟩
theorem Ext.trans {w0 w1 w2 : World} {Z0 u m : Nat→Prop} {l t o : Inj} {s j d : List (Nat × Blk)} {p q : Nat} (a : Ext w0 Z0 l s w1 u t j p) (b : Ext w1 u t j w2 m o d q) (v : p≤q) : Ext w0 Z0 l s w2 m o d p:=by
  refine ⟨Nat.le_trans a.size b.size,?_,?_,?_,?_,fun x h=>b.zin x (a.zin x h),?_,?_,b.tape.trans a.tape,b.os.trans a.os,b.output.trans a.output,fun x=>(b.frz x).trans (a.frz x)⟩
  · intro x g hi;rw [b.keep x (Nat.lt_of_lt_of_le g a.size) (fun h=>(a.imm x h).elim hi (fun h=>q8)),a.keep x g hi]
  · intro x g;rcases b.imm x g with h | h
    · exact a.imm x h
    · exact .inr (Nat.le_trans a.size h)
  · intro x c e f h;obtain ⟨c1,e1,f1,j,s1⟩:=a.big x c e f h;obtain ⟨c2,e2,z,d,k⟩:=b.big x c1 e1 f1 j;exact ⟨c2,e2,z,d,k.trans s1⟩
  · intro x r h;obtain ⟨w,j,s1⟩:=a.loops x r h;obtain ⟨r2,d,k⟩:=b.loops x w j;exact ⟨r2,d,k.trans s1⟩
  · intro x g;rcases b.zout x g with h | h | h
    · exact a.zout x h
    · rcases a.imm x h with h | h
      · exact .inr (.inl h)
      · exact .inr (.inr h)
    · exact .inr (.inr (Nat.le_trans a.size h))
  · intro n y;rw [b.pinj n q8,a.pinj n y]
theorem Ext.pin_le {w w' : World} {Z Z' : Nat→Prop} {i b : Inj} {h a : List (Nat × Blk)} {p q : Nat} (e : Ext w Z i h w' Z' b a p) (c : q≤p) : Ext w Z i h w' Z' b a q:=
  {e with pinj:=fun n d=>e.pinj n q8}
theorem Ext.marks {w w' : World} {Z Z' : Nat→Prop} {inj inj' : Inj} {hp hp' : List (Nat × Blk)} {nx pin : Nat} (e : Ext w Z inj hp w' Z' inj' hp' pin) (h : RelH w Z inj hp nx) {D : Nat} (b : w.heap[D]? = some (.deferred (some []))) :
    w'.heap[D]? = some (.deferred (some [])):=by
  rw [e.keep D (J1 b) ?_];exact b;intro hi;rcases h.im_obj hi with ⟨arr,ty,a⟩ | ⟨r,a⟩ | ⟨es,cl,a⟩ <;> rw [b] at a <;> cases a <;> cases cl
end Go.Am
