/- Am1 Am2 Am3 Am4 Am5 -/
import Derived.RangeFuncLeaves
import Derived.KernelRfl
import Derived.ProofKit
import Derived.Laws.CopyRow
namespace Go.Am
theorem q6 {p : Prop} (h : p:=by omega) : p:=h
theorem qd {p : Prop} (h : p:=by simp) : p:=h
theorem qy {p : Prop} (h : p:=by decide) : p:=h
theorem qi {p : Prop} (h : p:=by kernel_rfl) : p:=h
theorem Qr {p : Prop} (h : p:=by repeat' first | with_reducible rfl | (refine funext fun (m : Sum _ _)=>?_;cases m <;> (first | with_reducible rfl | rfl)) | (congr 1) | funext _) : p:=h
inductive DV where
  | int (k : IntKind) (n : Int)
  | bool (b : Bool)
  | str (s : ByteArray)
  | agg (cs : List DV)
  | nilsl
  | sl (es : Nat) (xs : List (List DV))
  | nilp
  | nilf
  | nilm
  | fn (f : FuncId) (caps : List DV)
  | box (cs : List DV)
  | tup (vs : List DV)
inductive V where
  | d (x : DV)
  | agg (cs : List V)
  | ref (n es i j : Nat)
  | dref (cs : List DV) (j : Nat)
  | hs (n es off len : Nat)
  | fn (f : FuncId) (caps : List V)
  | tup (vs : List V)
  | yld (n : Nat)
  | mp (n : Nat)
  | dead
inductive Blk where
  | dead
  | dat (es : Nat) (xs : List (List DV))
  | cel (es : Nat) (xs : List (List V))
  | mp (es : List (DV × DV))
  | loop (slots : List (Nat × V)) (ps : List Tmp) (assign body : Code) (s : LoopState) (pending : Option Code)
structure AS where
  sl : List (Nat × V)
  hp : List (Nat × Blk)
  nx : Nat
def find {α : Type} : List (Nat × α)→Nat→Option α
  | [],_=>none
  | (k,v)::r,t=>match Nat.beq k t with
    | true=>some v
    | false=>find r t
def repl {α : Type} : List (Nat × α)→Nat→α→List (Nat × α)
  | [],_,_=>[]
  | (k,v)::r,t,x=>match Nat.beq k t with
    | true=>(k,x)::r
    | false=>(k,v)::repl r t x
def AS.get (st : AS) (t : Tmp) : Option V:=find st.sl t
def AS.put (st : AS) (t : Tmp) (v : V) : AS:={st with sl:=(t,v)::st.sl}
def AS.putD (st : AS) (t : Option Tmp) (v : V) : AS:=match t with
  | some t=>st.put t v
  | none=>st
def AS.blk (st : AS) (n : Nat) : Option Blk:=find st.hp n
def AS.setBlk (st : AS) (n : Nat) (b : Blk) : AS:={st with hp:=repl st.hp n b}
def AS.new (st : AS) (b : Blk) : AS:={st with hp:=(st.nx,b)::st.hp,nx:=st.nx + 1}
def Yx : Value→Option DV
  | .int k n=>some (.int k n)
  | .bool b=>some (.bool b)
  | .string s=>some (.str s)
  | .pointer none=>some .nilp
  | .slice none 0 0=>some .nilsl
  | .nilFunc=>some .nilf
  | .map none=>some .nilm
  | _=>none
def qa6 : Value→Option DV
  | .agg cs=>(cs.toList.mapM Yx).map .agg
  | v=>Yx v
def AS.ev (st : AS) : Operand→Option V
  | .tmp t=>st.get t
  | .const v=>(qa6 v).map .d
  | .func f=>some (.d (.fn f []))
  | .global _=>none
inductive TK where
  | bool | int (k : IntKind) | str | ptr | func | slice | array | struct | map
  deriving DecidableEq
structure TI where
  kind : TK
  size : Nat
  zero : List DV
  flds : List (Nat × Nat × Bool):=[]
  len : Nat:=0
  esize : Nat:=0
  eagg : Bool:=false
  ebytes : Nat:=0
  ezero : List DV:=[]
  eqs : Option (List (Option IntKind)):=none
  keys : Option (List (Option IntKind)):=none
def TI.agg (i : TI) : Bool:=match i.kind with
  | .array | .struct=>true
  | _=>false
def K5 : TypeDesc→Bool
  | .struct _ | .array ..=>true
  | _=>false
def tile (P : Program) (pk : TypeId→Option (List (Option IntKind))) : Nat→List Field→Option (List (Option IntKind))
  | _,[]=>some []
  | o,f::r=>match pk f.type with
    | some a => if f.offset = o ∧ f.name ≠ "_" ∧ P.cellsOf f.type = a.length then
        match tile P pk (o + a.length) r with
        | some b=>some (a ++ b)
        | none=>none
      else none
    | none=>none
def K8 (P : Program) : Nat→TypeId→Option (List (Option IntKind))
  | 0,_=>none
  | d + 1,t=>match P.underlying t with
    | some .bool=>some [none]
    | some (.int k)=>some [some k]
    | some (.struct fs)=>if P.stoodInHeld t then none else tile P (K8 P d) 0 fs.toList
    | some (.array n e)=>match K8 P d e with
      | some a=>if P.cellsOf e = a.length then some (List.replicate n a).flatten else none
      | none=>none
    | _=>none
def tiOf (P : Program) (t : TypeId) : Option TI:=do
  let info ← P.info? t
  let d ← P.underlying t
  let z ← info.zero
  let zc ← z.cells.toList.mapM Yx
  if zc.length≠info.size∨info.size = 0 then none else
  match d with
  | .bool=>if info.size = 1 then some {kind:=.bool,size:=info.size,zero:=zc} else none
  | .int k=>if info.size = 1 then some {kind:=.int k,size:=info.size,zero:=zc} else none
  | .string=>if info.size = 1 then some {kind:=.str,size:=info.size,zero:=zc} else none
  | .pointer _=>if info.size = 1 then some {kind:=.ptr,size:=info.size,zero:=zc} else none
  | .func ..=>if info.size = 1 then some {kind:=.func,size:=info.size,zero:=zc} else none
  | .slice e=>do
    let ie ← P.info? e
    let de ← P.underlying e
    let ze ← ie.zero
    let ezc ← ze.cells.toList.mapM Yx
    if ezc.length≠ie.size∨ie.size = 0∨ie.bytes = 0∨info.size≠1 then none else
    some {kind:=.slice,size:=info.size,zero:=zc,esize:=ie.size,eagg:=K5 de,ebytes:=ie.bytes,ezero:=ezc}
  | .map kt e=>do
    let ie ← P.info? e
    let ze ← ie.zero
    let zd ← Yx ze
    let ks ← K8 P 8 kt
    let dk ← P.underlying kt
    if info.size = 1 then some {kind:=.map,size:=info.size,zero:=zc,eagg:=K5 dk,ezero:=[zd],keys:=some ks} else none
  | .array n e=>do
    let ie ← P.info? e
    let de ← P.underlying e
    if ie.size = 0 then none else
    some {kind:=.array,size:=info.size,zero:=zc,len:=n,esize:=ie.size,eagg:=K5 de,eqs:=K8 P 8 t}
  | .struct fs=>do
    let fl ← fs.toList.mapM fun f=>do
      let jf ← P.info? f.type
      let df ← P.underlying f.type
      if jf.size = 0 then none else some (f.offset,jf.size,K5 df)
    some {kind:=.struct,size:=info.size,zero:=zc,flds:=fl,eqs:=K8 P 8 t}
  | _=>none
abbrev Tab:=TypeId→Option TI
def Yj (P : Program) (T : Tab) : Prop:=∀ t i,T t = some i→tiOf P t = some i
def ql4 (l : List (Nat × TI)) : Tab:=find l
def Y5 : DV→Bool
  | .agg _ | .tup _=>false
  | _=>true
def Kb : V→Bool
  | .agg _ | .tup _ | .dead=>false
  | .d x=>Y5 x
  | _=>true
def allD : List V→Option (List DV)
  | []=>some []
  | .d x::r=>match allD r with
    | some l=>some (x::l)
    | none=>none
  | _::_=>none
def V.isD : V→Bool
  | .d _=>true
  | _=>false
def cellsOf : V→List V
  | .agg cs=>cs
  | .d (.agg cs)=>cs.map .d
  | v=>[v]
def q4h (cs : List V) : V:=match allD cs with
  | some ds=>.d (.agg ds)
  | none=>.agg cs
def pack (agg : Bool) (cs : List V) : Option V:=match agg,cs with
  | true,cs=>some (q4h cs)
  | false,[c]=>some c
  | false,_=>none
def Uz (agg : Bool) (cs : List DV) : Option DV:=match agg,cs with
  | true,cs=>some (.agg cs)
  | false,[c]=>some c
  | false,_=>none
def sub {α : Type} (cs : List α) (j s : Nat) : Option (List α):=
  if j + s≤cs.length then some ((cs.drop j).take s) else none
def q4i (es : Nat) (xs : List (List V)) : Blk:=match xs.mapM allD with
  | some ys=>.dat es ys
  | none=>.cel es xs
def J8 (st : AS) (i : TI) : V→Option V
  | .ref n es a j=>match st.blk n with
    | some (.dat k xs)=>match Nat.beq k es,xs[a]? with
      | true,some cs=>match sub cs j i.size with
        | some r=>(Uz i.agg r).map .d
        | none=>none
      | _,_=>none
    | some (.cel k xs)=>match Nat.beq k es,xs[a]? with
      | true,some cs=>match sub cs j i.size with
        | some r=>pack i.agg r
        | none=>none
      | _,_=>none
    | _=>none
  | .dref cs j=>match sub cs j i.size with
    | some r=>(Uz i.agg r).map .d
    | none=>none
  | .d (.box cs)=>match sub cs 0 i.size with
    | some r=>(Uz i.agg r).map .d
    | none=>none
  | _=>none
def splice {α : Type} (cs : List α) (j : Nat) (ys : List α) : List α:=cs.take j ++ ys ++ cs.drop (j + ys.length)
def Zw (st : AS) (i : TI) (p v : V) : Option AS:=match p with
  | .ref n k a j=>
    if (cellsOf v).length≠i.size∨(cellsOf v).all Kb = false then none else
    match st.blk n with
    | some (.dat es xs)=>match Nat.beq k es,xs[a]? with
      | true,some cs=>if j + i.size≤cs.length then
          match allD (cellsOf v) with
          | some ds=>some (st.setBlk n (.dat es (xs.set a (splice cs j ds))))
          | none=>some (st.setBlk n (.cel es ((xs.map (·.map V.d)).set a (splice (cs.map V.d) j (cellsOf v)))))
        else none
      | _,_=>none
    | some (.cel es xs)=>match Nat.beq k es,xs[a]? with
      | true,some cs=>if j + i.size≤cs.length then some (st.setBlk n (.cel es (xs.set a (splice cs j (cellsOf v))))) else none
      | _,_=>none
    | _=>none
  | _=>none
def Yv {α β : Type} (f : α→Option β) : List α→Option (List β)
  | []=>some []
  | x::r=>match f x with
    | some y=>match Yv f r with
      | some l=>some (y::l)
      | none=>none
    | none=>none
def toD (hp : List (Nat × Blk)) : Nat→V→Option DV
  | 0,.d x=>some x
  | 0,_=>none
  | _ + 1,.d x=>some x
  | k + 1,.agg cs=>(Yv (toD hp k) cs).map .agg
  | k + 1,.tup cs=>(Yv (toD hp k) cs).map .tup
  | k + 1,.fn f cs=>(Yv (toD hp k) cs).map (.fn f)
  | k + 1,.hs n es off len=>match find hp n with
    | some (.dat m xs)=>if off + len≤xs.length∧m = es then some (.sl es ((xs.drop off).take len)) else none
    | some (.cel m xs)=>if off + len≤xs.length∧m = es then (Yv (Yv (toD hp k)) ((xs.drop off).take len)).map (.sl es) else none
    | _=>none
  | k + 1,.ref n _ i j=>match find hp n with
    | some (.dat _ xs)=>match i,j,xs with
      | 0,0,[cs]=>some (.box cs)
      | _,_,_=>none
    | some (.cel _ xs)=>match i,j,xs with
      | 0,0,[cs]=>(Yv (toD hp k) cs).map .box
      | _,_,_=>none
    | _=>none
  | _ + 1,_=>none
def DV.scalar : DV→Bool
  | .int .. | .bool _ | .str _ | .nilsl | .nilp | .nilf=>true
  | .tup vs=>go vs
  | .agg vs=>go vs
  | _=>false
where go : List DV→Bool
  | []=>true
  | .int ..::r | .bool _::r | .str _::r | .nilsl::r | .nilp::r | .nilf::r=>go r
  | _::_=>false
def q2i : Option IntKind→DV→DV→Option Bool
  | some k,.int j a,.int j' b=>if k = j∧k = j' then some (a == b) else none
  | none,.bool a,.bool b=>some (a == b)
  | _,_,_=>none
def K7 : List (Option IntKind)→List DV→List DV→Option Bool
  | [],[],[]=>some true
  | k::ks,a::r,b::s=>match q2i k a b,K7 ks r s with
    | some x,some y=>some (x && y)
    | _,_=>none
  | _,_,_=>none
def cellsD : DV→List DV
  | .agg cs=>cs
  | v=>[v]
def Z4 : DV→Bool
  | .agg _=>true
  | _=>false
def Uu (ag : Bool) (ks : List (Option IntKind)) (kd : DV) : Bool:=(Z4 kd == ag) && Nat.beq (cellsD kd).length ks.length
def Z9 (ag : Bool) (ks : List (Option IntKind)) (k : DV) : List (DV × DV)→Option (Option Nat)
  | []=>some none
  | (a,_)::r=>if Z4 k = ag∧Z4 a = ag then match K7 ks (cellsD k) (cellsD a) with
      | some true=>some (some 0)
      | some false=>match Z9 ag ks k r with
        | some (some i)=>some (some (i + 1))
        | some none=>some none
        | none=>none
      | none=>none
    else none
def mget (ag : Bool) (ks : List (Option IntKind)) (z k : DV) (es : List (DV × DV)) : Option (DV × Bool):=match Z9 ag ks k es with
  | some (some j)=>(es[j]?).map fun e=>(e.2,true)
  | some none=>some (z,false)
  | none=>none
def mput (ag : Bool) (ks : List (Option IntKind)) (k v : DV) (es : List (DV × DV)) : Option (List (DV × DV)):=match Z9 ag ks k es with
  | some (some j)=>some (es.set j (k,v))
  | some none=>some (es ++ [(k,v)])
  | none=>none
def mdel (ag : Bool) (ks : List (Option IntKind)) (k : DV) (es : List (DV × DV)) : Option (List (DV × DV)):=match Z9 ag ks k es with
  | some (some j)=>some (es.eraseIdx j)
  | some none=>some es
  | none=>none
def eqK : TK→DV→DV→Option Bool
  | .bool,.bool a,.bool b=>some (a == b)
  | .str,.str a,.str b=>some (a.toList == b.toList)
  | .slice,.nilsl,.nilsl=>some true
  | .slice,.nilsl,.sl _ (_::_)=>some false
  | .slice,.sl _ (_::_),.nilsl=>some false
  | .func,.nilf,.nilf=>some true
  | .func,.nilf,.fn ..=>some false
  | .func,.fn ..,.nilf=>some false
  | _,_,_=>none
def binI (op : BinOp) (k : IntKind) (x y : Int) : Option DV:=match op with
  | .add=>some (.int k (k.wrap (x + y)))
  | .sub=>some (.int k (k.wrap (x - y)))
  | .mul=>some (.int k (k.wrap (x * y)))
  | .quo=>if y = 0 then none else some (.int k (k.wrap (x.tdiv y)))
  | .rem=>if y = 0 then none else some (.int k (x.tmod y))
  | .and=>some (.int k (k.wrap (BitVec.ofInt k.bits x &&& BitVec.ofInt k.bits y).toNat))
  | .or=>some (.int k (k.wrap (BitVec.ofInt k.bits x ||| BitVec.ofInt k.bits y).toNat))
  | .xor=>some (.int k (k.wrap (BitVec.ofInt k.bits x ^^^ BitVec.ofInt k.bits y).toNat))
  | .eql=>some (.bool (x == y))
  | .neq=>some (.bool (x != y))
  | .lss=>some (.bool (decide (x < y)))
  | .leq=>some (.bool (decide (x≤y)))
  | .gtr=>some (.bool (decide (x > y)))
  | .geq=>some (.bool (decide (x ≥ y)))
  | _=>none
def q88 (op : BinOp) (k : IntKind) (x y : Int) : Option DV:=
  if y < 0 then none else match op with
    | .shl=>some (.int k (k.wrap (x * 2 ^ (min y.toNat k.bits))))
    | .shr=>some (.int k (x.fdiv (2 ^ (min y.toNat k.bits))))
    | _=>none
def binD (op : BinOp) (x y : DV) : Option DV:=match op,x,y with
  | .shl,.int k a,.int _ b=>q88 .shl k a b
  | .shr,.int k a,.int _ b=>q88 .shr k a b
  | op,.int k a,.int k' b=>if k = k' then binI op k a b else none
  | _,_,_=>none
def binE (op : BinOp) (k : TK) (x y : DV) : Option DV:=match op with
  | .eql=>(eqK k x y).map .bool
  | .neq=>(eqK k x y).map fun b=>.bool (!b)
  | _=>none
def unD (op : UnOp) (x : DV) : Option DV:=match op,x with
  | .neg,.int k n=>some (.int k (k.wrap (0 - n)))
  | .not,.bool b=>some (.bool !b)
  | .xor,.int k n=>binI .xor k (if k.signed then -1 else k.max) n
  | _,_=>none
def room : Nat:=4294967296
def q2m {α : Type} : List α→List (Nat × α)→Option (List α)
  | xs,[]=>some xs
  | xs,(i,x)::r=>if i < xs.length then q2m (xs.set i x) r else none
def q45 {α : Type} : List α→List (Nat × List α)→Option (List α)
  | cs,[]=>some cs
  | cs,(o,ys)::r=>if o + ys.length≤cs.length then q45 (splice cs o ys) r else none
def placed (ti : TI) : List (Nat × V)→Option (List (Nat × List V))
  | []=>some []
  | (i,v)::r=>
    let pl : Option (Nat × Nat):=match ti.kind with
      | .struct=>(ti.flds[i]?).map fun f=>(f.1,f.2.1)
      | .array=>some (i * ti.esize,ti.esize)
      | _=>none
    match pl,placed ti r with
    | some (o,s),some l=>if (cellsOf v).length = s∧(cellsOf v).all Kb = true then some ((o,cellsOf v)::l) else none
    | _,_=>none
def elems (esize : Nat) : List (Nat × V)→Option (List (Nat × List V))
  | []=>some []
  | (i,v)::r=>match elems esize r with
    | some l=>if (cellsOf v).length = esize∧(cellsOf v).all Kb = true then some ((i,cellsOf v)::l) else none
    | none=>none
def Zm (ev : Operand→Option V) : List (Nat × Operand)→Option (List (Nat × V))
  | []=>some []
  | (i,o)::r=>match ev o,Zm ev r with
    | some v,some l=>some ((i,v)::l)
    | _,_=>none
def evL (ev : Operand→Option V) : List Operand→Option (List V)
  | []=>some []
  | o::r=>match ev o,evL ev r with
    | some v,some l=>some (v::l)
    | _,_=>none
def lenV : V→Option Nat
  | .d .nilsl=>some 0
  | .d (.sl _ xs)=>some xs.length
  | .hs _ _ _ len=>some len
  | .d (.str s)=>some s.size
  | _=>none
def Yp (st : AS) : V→Option (List (List V))
  | .d .nilsl=>some []
  | .d (.sl _ xs)=>some (xs.map (·.map .d))
  | .hs n es off len=>match st.blk n with
    | some (.dat k xs)=>if off + len≤xs.length∧k = es then some (((xs.drop off).take len).map (·.map .d)) else none
    | some (.cel k xs)=>if off + len≤xs.length∧k = es then some ((xs.drop off).take len) else none
    | _=>none
  | _=>none
def Yf (st : AS) : V→Option (List (List DV))
  | .d .nilsl=>some []
  | .d (.sl _ xs)=>some xs
  | .hs n es off len=>match st.blk n with
    | some (.dat k xs)=>if off + len≤xs.length∧k = es then some ((xs.drop off).take len) else none
    | _=>none
  | _=>none
def Zg (esize : Nat) : V→Bool
  | .d .nilsl=>true
  | .d (.sl es _)=>Nat.beq es esize
  | .hs _ es _ _=>Nat.beq es esize
  | _=>false
def Yk (st : AS) (ti : TI) (s x : V) : Option (V × AS):=
  match s with
  | .d .nilsl=>match Yf st x with
    | some ys=>if ys.length * (ti.ebytes * 4)≤room then
        (if ys.length = 0 then some (.d .nilsl,st) else some (.hs st.nx ti.esize 0 ys.length,st.new (.dat ti.esize ys))) else none
    | none=>match Yp st x with
      | some ys=>if ys.length * (ti.ebytes * 4)≤room then
          (if ys.length = 0 then some (.d .nilsl,st) else some (.hs st.nx ti.esize 0 ys.length,st.new (.cel ti.esize ys))) else none
      | none=>none
  | .hs n es off len=>match st.blk n,Yf st x with
    | some (.dat k xs),some ys=>
      if off + len≤xs.length∧k = es∧(len + ys.length) * (ti.ebytes * 4)≤room∧es = ti.esize then
        some (.hs st.nx es 0 (len + ys.length),(st.setBlk n .dead).new (.dat es ((xs.drop off).take len ++ ys)))
      else none
    | some (.dat k xs),none=>match Yp st x with
      | some ys=>if off + len≤xs.length∧k = es∧(len + ys.length) * (ti.ebytes * 4)≤room∧es = ti.esize then
          some (.hs st.nx es 0 (len + ys.length),(st.setBlk n .dead).new (.cel es (((xs.drop off).take len).map (·.map .d) ++ ys)))
        else none
      | none=>none
    | some (.cel k xs),_=>match Yp st x with
      | some ys=>if off + len≤xs.length∧k = es∧(len + ys.length) * (ti.ebytes * 4)≤room∧es = ti.esize then
          some (.hs st.nx es 0 (len + ys.length),(st.setBlk n .dead).new (.cel es ((xs.drop off).take len ++ ys)))
        else none
      | none=>none
    | _,_=>none
  | _=>none
def copyV (st : AS) (d x : V) : Option (V × AS):=match d with
  | .hs n es off len=>match st.blk n,Yf st x with
    | some (.dat k xs),some ys=>
      if off + len≤xs.length∧k = es then
        some (.d (.int .i64 (min ys.length len : Nat)),st.setBlk n (.dat es (splice xs off (ys.take (min ys.length len)))))
      else none
    | _,_=>none
  | _=>none
def J5 (st : AS) (ti : TI) (x : V) : Option (V × AS):=match x with
  | .d .nilsl=>some (.d (.tup []),st)
  | .hs n es off len=>match st.blk n with
    | some (.dat k xs)=>if off + len≤xs.length∧k = es then some (.d (.tup []),st.setBlk n (.dat es (splice xs off (List.replicate len ti.ezero)))) else none
    | _=>none
  | _=>none
def minI (mx : Bool) : V→List V→Option V
  | v,[]=>some v
  | .d (.int k a),.d (.int _ b)::r=>minI mx (.d (.int k (bif mx then (if b > a then b else a) else (if b < a then b else a)))) r
  | _,_=>none
def Kt (T : Tab) (st : AS) (b : Builtin) (argTypes : Array TypeId) (vs : List V) : Option (V × AS):=match b,vs with
  | .len,[x]=>match argTypes[0]? with
    | some t=>match T t with
      | some i=>match i.kind with
        | .array=>some (.d (.int .i64 i.len),st)
        | .slice=>match x with
          | .d .nilsl=>some (.d (.int .i64 0),st)
          | .d (.sl _ xs)=>some (.d (.int .i64 xs.length),st)
          | .hs _ _ _ len=>some (.d (.int .i64 len),st)
          | _=>none
        | .str=>match x with
          | .d (.str s)=>some (.d (.int .i64 s.size),st)
          | _=>none
        | _=>none
      | none=>none
    | none=>none
  | .append,[s,x]=>match argTypes[0]?,argTypes[1]? with
    | some t,some u=>match T t,T u with
      | some i,some j=>if i.kind = .slice∧j.kind = .slice∧Zg i.esize x = true then Yk st i s x else none
      | _,_=>none
    | _,_=>none
  | .copy,[s,x]=>match argTypes[0]?,argTypes[1]? with
    | some t,some u=>match T t,T u with
      | some i,some j=>if i.kind = .slice∧j.kind = .slice∧Zg i.esize s = true∧Zg i.esize x = true then copyV st s x else none
      | _,_=>none
    | _,_=>none
  | .clear,[x]=>match argTypes[0]? with
    | some t=>match T t with
      | some i=>if i.kind = .slice∧Zg i.esize x = true then J5 st i x else none
      | none=>none
    | none=>none
  | .delete,[m,k]=>match argTypes[0]?,m,k with
    | some t,.mp n,.d kd=>match T t,st.blk n with
      | some i,some (.mp es)=>match i.keys with
        | some ks=>if Uu i.eagg ks kd = true then (mdel i.eagg ks kd es).map fun es'=>(.d (.tup []),st.setBlk n (.mp es')) else none
        | none=>none
      | _,_=>none
    | _,_,_=>none
  | .min,v::r=>(minI false v r).map (·,st)
  | .max,v::r=>(minI true v r).map (·,st)
  | _,_=>none
def qd0 (off : Nat) : V→Option V
  | .ref n es i j=>some (.ref n es i (j + off))
  | .dref cs j=>some (.dref cs (j + off))
  | .d (.box cs)=>some (.dref cs off)
  | _=>none
def q2p (ti : TI) (x : V) (i : Int) : Option V:=match ti.kind,x with
  | .slice,.d (.sl es xs)=>if 0≤i∧es = ti.esize then (xs[i.toNat]?).map fun cs=>.dref cs 0 else none
  | .slice,.hs n es off len=>if 0≤i∧i < len∧es = ti.esize then some (.ref n es (off + i.toNat) 0) else none
  | .array,.ref n es a j=>if 0≤i∧i < ti.len then some (.ref n es a (j + i.toNat * ti.esize)) else none
  | .array,.dref cs j=>if 0≤i∧i < ti.len then some (.dref cs (j + i.toNat * ti.esize)) else none
  | .array,.d (.box cs)=>if 0≤i∧i < ti.len then some (.dref cs (i.toNat * ti.esize)) else none
  | _,_=>none
def qbe (esize : Nat) (x : V) (lo hi : Nat) : Option V:=match x with
  | .d .nilsl=>if lo = 0∧hi = 0 then some (.d .nilsl) else none
  | .d (.sl es xs)=>if lo≤hi∧hi≤xs.length∧es = esize then some (.d (.sl es ((xs.drop lo).take (hi - lo)))) else none
  | .hs n es off len=>if lo≤hi∧hi≤len∧es = esize then some (.hs n es (off + lo) (hi - lo)) else none
  | _=>none
def bound (st : AS) (dflt : Nat) : Option Operand→Option Nat
  | none=>some dflt
  | some o=>match st.ev o with
    | some (.d (.int _ n))=>if 0≤n then some n.toNat else none
    | _=>none
def agD : V→Option (List V)
  | .d (.agg cs)=>some (cs.map .d)
  | .agg cs=>some cs
  | _=>none
def opFn (T : Tab) (st : AS) (op : Op) : Option (V × AS):=match op with
  | .move x | .assign x=>(st.ev x).map (·,st)
  | .pick c a b=>match st.ev c with
    | some (.d (.bool true))=>(st.ev a).map (·,st)
    | some (.d (.bool false))=>(st.ev b).map (·,st)
    | _=>none
  | .alloc t=>(T t).map fun i=>(.ref st.nx i.size 0 0,st.new (.dat i.size [i.zero]))
  | .box t x=>match T t,st.ev x with
    | some i,some v=>if (cellsOf v).length = i.size∧(cellsOf v).all Kb = true then some (.ref st.nx i.size 0 0,st.new (q4i i.size [cellsOf v])) else none
    | _,_=>none
  | .build t ps=>match T t,Zm st.ev ps.toList with
    | some i,some vs=>if i.agg = true then match placed i vs with
        | some l=>(q45 (i.zero.map .d) l).map fun cs=>(q4h cs,st)
        | none=>none
      else none
    | _,_=>none
  | .buildSlice t len ps=>match T t,Zm st.ev ps.toList with
    | some i,some vs=>match elems i.esize vs with
      | some l=>if i.kind = .slice∧len * i.esize≤16777216 then
          (q2m (List.replicate len (i.ezero.map .d)) l).map fun xs=>(.hs st.nx i.esize 0 len,st.new (q4i i.esize xs)) else none
      | none=>none
    | _,_=>none
  | .load t p=>match T t,st.ev p with
    | some i,some v=>(J8 st i v).map (·,st)
    | _,_=>none
  | .store t p x=>match T t,st.ev p,st.ev x with
    | some i,some v,some y=>(Zw st i v y).map (.dead,·)
    | _,_,_=>none
  | .binOp op t x y _=>match st.ev x,st.ev y with
    | some (.d (.agg a)),some (.d (.agg b))=>match T t with
      | some i=>match i.eqs with
        | some ks=>match op,K7 ks a b with
          | .eql,some r=>some (.d (.bool r),st)
          | .neq,some r=>some (.d (.bool (!r)),st)
          | _,_=>none
        | none=>none
      | none=>none
    | some (.d (.int k a)),some (.d (.int k' b))=>(binD op (.int k a) (.int k' b)).map fun r=>(.d r,st)
    | some (.d a),some (.d b)=>match T t with
      | some i=>(binE op i.kind a b).map fun r=>(.d r,st)
      | none=>none
    | _,_=>none
  | .unOp op _ x=>match st.ev x with
    | some (.d a)=>(unD op a).map fun r=>(.d r,st)
    | _=>none
  | .convert src dst x=>match T src,T dst,st.ev x with
    | some i,some j,some (.d (.int _ n))=>match i.kind,j.kind with
      | .int _,.int k=>some (.d (.int k (k.wrap n)),st)
      | _,_=>none
    | _,_,_=>none
  | .makeFunc (.func f) first caps=>if first.size = 0 then
      (evL st.ev caps.toList).map fun vs=>((match allD vs with | some ds=>.d (.fn f ds) | none=>.fn f vs),st) else none
  | .makeSlice t l c=>match T t,st.ev l,st.ev c with
    | some i,some (.d (.int _ n)),some (.d (.int _ m))=>
      if i.kind = .slice∧0≤n∧n≤m∧m * (i.ebytes * 4)≤room then
        some (.hs st.nx i.esize 0 n.toNat,st.new (.dat i.esize (List.replicate n.toNat i.ezero))) else none
    | _,_,_=>none
  | .slice t x lo hi mx=>match T t,st.ev x with
    | some i,some v=>if i.kind = .slice∧mx.isNone then match lenV v with
        | some n=>match bound st 0 lo,bound st n hi with
          | some a,some b=>(qbe i.esize v a b).map (·,st)
          | _,_=>none
        | none=>none
      else none
    | _,_=>none
  | .fieldAddr s p f=>match T s,st.ev p with
    | some i,some v=>match i.kind,i.flds[f]? with
      | .struct,some (off,_,_)=>(qd0 off v).map (·,st)
      | _,_=>none
    | _,_=>none
  | .field s x f=>match T s,st.ev x with
    | some i,some v=>match i.kind,i.flds[f]?,agD v with
      | .struct,some (off,size,ag),some cs=>match sub cs off size with
        | some r=>(pack ag r).map (·,st)
        | none=>none
      | _,_,_=>none
    | _,_=>none
  | .indexAddr t x ix=>match T t,st.ev x,st.ev ix with
    | some i,some v,some (.d (.int _ n))=>(q2p i v n).map (·,st)
    | _,_,_=>none
  | .index t x ix=>match T t,st.ev x,st.ev ix with
    | some i,some v,some (.d (.int _ n))=>match i.kind,agD v with
      | .array,some cs=>if 0≤n∧n < i.len then match sub cs (n.toNat * i.esize) i.esize with
          | some r=>(pack i.eagg r).map (·,st)
          | none=>none
        else none
      | .str,_=>match v with
        | .d (.str s)=>(if 0≤n then s[n.toNat]? else none).map fun b=>(.d (.int .u8 b.toNat),st)
        | _=>none
      | _,_=>none
    | _,_,_=>none
  | .extract x k=>match st.ev x with
    | some (.d (.tup vs))=>(vs[k]?).map fun v=>(.d v,st)
    | some (.tup vs)=>(vs[k]?).map (·,st)
    | _=>none
  | .nilCheck x=>match st.ev x with
    | some (.ref n es i j)=>some (.ref n es i j,st)
    | some (.dref cs j)=>some (.dref cs j,st)
    | some (.d (.box cs))=>some (.d (.box cs),st)
    | some (.fn f cs)=>some (.fn f cs,st)
    | some (.yld n)=>some (.yld n,st)
    | some (.d (.fn f cs))=>some (.d (.fn f cs),st)
    | _=>none
  | .makeMap t r=>match T t,r with
    | some i,none=>if i.kind = .map then some (.mp st.nx,st.new (.mp [])) else none
    | _,_=>none
  | .lookup t x k ok=>match T t,st.ev x,st.ev k with
    | some i,some (.mp n),some (.d kd)=>match i.keys,st.blk n,i.ezero with
      | some ks,some (.mp es),[z]=>if Uu i.eagg ks kd = true then (mget i.eagg ks z kd es).map fun e=>(.d (bif ok then .tup [e.1,.bool e.2] else e.1),st) else none
      | _,_,_=>none
    | _,_,_=>none
  | .mapUpdate t m k v=>match T t,st.ev m,st.ev k,st.ev v with
    | some i,some (.mp n),some (.d kd),some (.d vd)=>match i.keys,st.blk n with
      | some ks,some (.mp es)=>if Uu i.eagg ks kd = true∧Y5 vd = true then (mput i.eagg ks kd vd es).map fun es'=>(.dead,st.setBlk n (.mp es')) else none
      | _,_=>none
    | _,_,_,_=>none
  | .call {callee:=.builtin b,args,argTypes}=>match evL st.ev args.toList with
    | some vs=>Kt T st b argTypes vs
    | none=>none
  | _=>none
end Go.Am
namespace Go.Am
inductive Ex where
  | nor
  | exit (id : Nat)
  | ret
  deriving DecidableEq
def Ex.block (id : Nat) : Ex→Ex
  | .exit id'=>if id' = id then .nor else .exit id'
  | e=>e
def Ex.code : Ex→Option Code
  | .nor=>none
  | .exit id=>some (.exit id)
  | .ret=>some .ret
inductive DLe : DV→DV→Prop
  | refl (x : DV) : DLe x x
  | nil (es : Nat) : DLe .nilsl (.sl es [])
  | tup {xs ys : List DV} : xs.length = ys.length→(∀ (i : Nat) (x y : DV),xs[i]? = some x→ys[i]? = some y→DLe x y)→DLe (.tup xs) (.tup ys)
  | agg {xs ys : List DV} : xs.length = ys.length→(∀ (i : Nat) (x y : DV),xs[i]? = some x→ys[i]? = some y→DLe x y)→DLe (.agg xs) (.agg ys)
  | sl {es : Nat} {xs ys : List (List DV)} : xs.length = ys.length→(∀ (i : Nat) (x y : List DV),xs[i]? = some x→ys[i]? = some y→x.length = y.length)→
      (∀ (i : Nat) (x y : List DV) (j : Nat) (c d : DV),xs[i]? = some x→ys[i]? = some y→x[j]? = some c→y[j]? = some d→DLe c d)→DLe (.sl es xs) (.sl es ys)
inductive Wv (st : AS) (ρ : Nat→Nat) (fz ph : List Nat) (nx : Nat) : V→V→Prop
  | dead (v : V) : Wv st ρ fz ph nx v .dead
  | d {x y : DV} : DLe x y→Wv st ρ fz ph nx (.d x) (.d y)
  | nil {m es : Nat} : m∈ph→m < nx→Wv st ρ fz ph nx (.d .nilsl) (.hs m es 0 0)
  | dref (cs : List DV) (j : Nat) : Wv st ρ fz ph nx (.dref cs j) (.dref cs j)
  | ref {n m es i j : Nat} : ρ m = n→m ∉ ph→m < nx→Wv st ρ fz ph nx (.ref n es i j) (.ref m es i j)
  | hs {n m es o l : Nat} : ρ m = n→m ∉ ph→m < nx→Wv st ρ fz ph nx (.hs n es o l) (.hs m es o l)
  | yld {n m : Nat} : ρ m = n→m ∉ ph→m < nx→Wv st ρ fz ph nx (.yld n) (.yld m)
  | mp {n m : Nat} : ρ m = n→m ∉ ph→m < nx→Wv st ρ fz ph nx (.mp n) (.mp m)
  | fn {f : FuncId} {cs ds : List V} : cs.length = ds.length→(∀ (i : Nat) (c d : V),cs[i]? = some c→ds[i]? = some d→Wv st ρ fz ph nx c d)→Wv st ρ fz ph nx (.fn f cs) (.fn f ds)
  | agg {cs ds : List V} : cs.length = ds.length→(∀ (i : Nat) (c d : V),cs[i]? = some c→ds[i]? = some d→Wv st ρ fz ph nx c d)→Wv st ρ fz ph nx (.agg cs) (.agg ds)
  | tup {cs ds : List V} : cs.length = ds.length→(∀ (i : Nat) (c d : V),cs[i]? = some c→ds[i]? = some d→Wv st ρ fz ph nx c d)→Wv st ρ fz ph nx (.tup cs) (.tup ds)
  | dtup {cs : List DV} {ds : List V} : cs.length = ds.length→(∀ (i : Nat) (c : DV) (d : V),cs[i]? = some c→ds[i]? = some d→Wv st ρ fz ph nx (.d c) d)→Wv st ρ fz ph nx (.d (.tup cs)) (.tup ds)
  | dagg {cs : List DV} {ds : List V} : cs.length = ds.length→(∀ (i : Nat) (c : DV) (d : V),cs[i]? = some c→ds[i]? = some d→Wv st ρ fz ph nx (.d c) d)→Wv st ρ fz ph nx (.d (.agg cs)) (.agg ds)
  | frz {n es o l : Nat} {xs ys : List (List DV)} {k : Nat} : st.blk n = some (.dat k xs)→n∈fz→o + l≤xs.length→ys = (xs.drop o).take l→k = es→Wv st ρ fz ph nx (.hs n es o l) (.d (.sl es ys))
  | frzB {n es : Nat} {cs : List DV} {k : Nat} : st.blk n = some (.dat k [cs])→n∈fz→k = es→Wv st ρ fz ph nx (.ref n es 0 0) (.d (.box cs))
inductive Wb (st : AS) (ρ : Nat→Nat) (fz ph : List Nat) (nx : Nat) : Blk→Blk→Prop
  | dead (b : Blk) : Wb st ρ fz ph nx b .dead
  | dat (es : Nat) (xs : List (List DV)) : Wb st ρ fz ph nx (.dat es xs) (.dat es xs)
  | mp (es : List (DV × DV)) : Wb st ρ fz ph nx (.mp es) (.mp es)
  | cel {es : Nat} {xs ys : List (List V)} : xs.length = ys.length→
      (∀ (i : Nat) (x y : List V),xs[i]? = some x→ys[i]? = some y→x.length = y.length∧∀ (j : Nat) (c d : V),x[j]? = some c→y[j]? = some d→Wv st ρ fz ph nx c d∧Kb d = true)→Wb st ρ fz ph nx (.cel es xs) (.cel es ys)
  | datcel {es : Nat} {xs : List (List DV)} {ys : List (List V)} : xs.length = ys.length→
      (∀ (i : Nat) (x : List DV) (y : List V),xs[i]? = some x→ys[i]? = some y→x.length = y.length∧∀ (j : Nat) (c : DV) (d : V),x[j]? = some c→y[j]? = some d→Wv st ρ fz ph nx (.d c) d∧Kb d = true)→Wb st ρ fz ph nx (.dat es xs) (.cel es ys)
  | loop {s s' : List (Nat × V)} {ps : List Tmp} {as bo : Code} {dn : LoopState} {pe : Option Code} :
      (∀ t v',find s' t = some v'→∃ v,find s t = some v∧Wv st ρ fz ph nx v v')→Wb st ρ fz ph nx (.loop s ps as bo dn pe) (.loop s' ps as bo dn pe)
structure Wk (base : Nat) (ρ : Nat→Nat) (fz ph : List Nat) (st st' : AS) : Prop where
  slots : ∀ t v',st'.get t = some v'→∃ v,st.get t = some v∧Wv st ρ fz ph st'.nx v v'
  blocks : ∀ n b',st'.blk n = some b'→n < st'.nx∧((n∈ph∧∃ es,es≠0∧b' = .dat es [])∨(n ∉ ph∧∃ b,st.blk (ρ n) = some b∧Wb st ρ fz ph st'.nx b b'))
  inj : ∀ n m b c,st'.blk n = some b→st'.blk m = some c→n ∉ ph→m ∉ ph→ρ n = ρ m→n = m
  free : ∀ n b,st'.blk n = some b→n ∉ ph→ρ n ∉ fz
  small : ∀ n,n < base→ρ n = n
  bs : base≤st'.nx
  frozen : ∀ n∈fz,base≤n
  phantom : ∀ n∈ph,base≤n
def q11 : List (Nat × V)→List Tmp→List V→List (Nat × V)
  | s,p::ps,v::vs=>q11 ((p,v)::s) ps vs
  | s,_,_=>s
def Ks : Nat→List V→List (Nat × V)
  | _,[]=>[]
  | k,v::r=>(k,v)::Ks (k + 1) r
def qej (T : Tab) (st : AS) : ResultVar→Option V
  | .tmp t=>st.get t
  | .cell t ty=>match st.get t,T ty with
    | some p,some i=>J8 st i p
    | _,_=>none
def resL (T : Tab) (st : AS) : List ResultVar→Option (List V)
  | []=>some []
  | r::l=>match qej T st r,resL T st l with
    | some v,some vs=>some (v::vs)
    | _,_=>none
def qdv (vs : List V) : V:=match allD vs with
  | some ds=>.d (.tup ds)
  | none=>.tup vs
def resV (T : Tab) (st : AS) (rs : List ResultVar) : Option V:=match resL T st rs with
  | some [v]=>some v
  | some vs=>some (qdv vs)
  | none=>none
def Qi (ops : Array Oper) (st : AS) (o : Oper) : Option Bool:=match o.guard with
  | none=>some true
  | some (j,want)=>match (ops[j]?).bind (·.dst) with
    | some t=>match st.get t with
      | some (.d (.bool b))=>some (b == want)
      | some (.d (.tup []))=>some false
      | _=>none
    | none=>none
def callee (st : AS) (c : Call) : Option (FuncId × List V):=match c.callee with
  | .value f=>match st.ev f,evL st.ev c.args.toList with
    | some (.d (.fn f caps)),some vs=>some (f,vs ++ caps.map .d)
    | some (.fn f caps),some vs=>some (f,vs ++ caps)
    | _,_=>none
  | _=>none
def Ke (hp : List (Nat × Blk)) : List V→Option (List DV)
  | []=>some []
  | v::r=>match toD hp 8 v,Ke hp r with
    | some x,some l=>some (x::l)
    | _,_=>none
def touch : Op→Nat
  | .move _ | .assign _ | .pick .. | .build .. | .binOp .. | .unOp .. | .convert .. | .makeFunc .. | .fieldAddr .. | .field .. | .indexAddr .. | .index .. | .extract .. | .nilCheck _ | .slice ..=>0
  | .load .. | .lookup ..=>1
  | .call {callee:=.builtin .len,..} | .call {callee:=.builtin .min,..} | .call {callee:=.builtin .max,..}=>0
  | .call {callee:=.value _,..}=>1
  | _=>2
def slotsOf (o : Oper) : List Tmp:=o.op.operands.toList.filterMap fun | .tmp u=>some u | _=>none
def reads (ops : Array Oper) (o : Oper) : List Tmp:=
  slotsOf o ++ (match o.guard with
    | none=>[]
    | some (j,_)=>match (ops[j]?).bind (·.dst) with
      | some t=>[t]
      | none=>[])
def qi8 (acc : List Nat) (o : Oper) : Nat:=o.after.toList.foldl (fun s e=>if Region.binds .any e then s ||| 2 ^ e.on ||| acc.getD e.on 0 else s) 0
def masks : List Nat→List Oper→List Nat
  | acc,[]=>acc
  | acc,o::r=>masks (acc ++ [qi8 acc o]) r
def qaa : Nat→List Oper→Bool
  | _,[]=>true
  | j,o::r=>o.after.toList.all (fun e=>!Region.binds .any e || Nat.blt e.on j) && qaa (j + 1) r
def q75 (o : Oper) (t : Tmp) : Bool:=match o.dst with
  | some d=>Nat.beq d t
  | none=>false
abbrev Fp:=Option (List Nat) × List Nat
abbrev Dr:=Option (List Fp)
def hasN : List Nat→Nat→Bool
  | [],_=>false
  | a::r,n=>Nat.beq a n || hasN r n
def subN (a b : List Nat) : Bool:=a.all (hasN b)
def q6u (a b : List Nat) : Bool:=a.all fun n=>!hasN b n
def fpAt (F : List Fp) (k : Nat) : Fp:=match F[k]? with
  | some x=>x
  | none=>(some [],[])
def fpLe (x y : Fp) : Bool:=subN x.2 y.2 && (match y.1 with
  | none=>true
  | some r=>match x.1 with
    | none=>false
    | some q=>subN q r)
def okF (dr : Dr) (k : Nat) (x : Fp) : Bool:=match dr with
  | none=>true
  | some F=>fpLe x (fpAt F k)
def Qz : V→List Nat
  | .hs n _ _ _=>[n]
  | .ref n _ _ _=>[n]
  | .mp n=>[n]
  | _=>[]
def fp (st : AS) (op : Op) : Fp:=match op with
  | .load _ p=>match st.ev p with
    | some v=>(some (Qz v),[])
    | none=>(some [],[])
  | .lookup _ p _ _=>match st.ev p with
    | some v=>(some (Qz v),[])
    | none=>(some [],[])
  | .mapUpdate _ p _ _=>match st.ev p with
    | some v=>(some (Qz v),Qz v)
    | none=>(some [],[])
  | .call {callee:=.builtin .delete,args,..}=>match evL st.ev args.toList with
    | some [s,_]=>(some (Qz s),Qz s)
    | _=>(some [],[])
  | .alloc _ | .box .. | .buildSlice .. | .makeSlice .. | .makeMap ..=>(some [],[st.nx])
  | .store _ p _=>match st.ev p with
    | some v=>(some (Qz v),Qz v)
    | none=>(some [],[])
  | .call {callee:=.builtin .append,args,..}=>match evL st.ev args.toList with
    | some [s,x]=>(some (Qz s ++ Qz x),st.nx::Qz s)
    | _=>(some [],[])
  | .call {callee:=.builtin .copy,args,..}=>match evL st.ev args.toList with
    | some [s,x]=>(some (Qz s ++ Qz x),Qz s)
    | _=>(some [],[])
  | .call {callee:=.builtin .clear,args,..}=>match evL st.ev args.toList with
    | some [x]=>(some (Qz x),Qz x)
    | _=>(some [],[])
  | _=>(some [],[])
def q2l (st : AS) (op : Op) (st1 : AS) : Bool:=match touch op with
  | 2=>match st1.hp with
    | (_,.dat ..)::_=>true
    | (n,_)::_=>!Nat.beq n st.nx
    | []=>true
  | _=>true
def okO (dr : Dr) (k : Nat) (st : AS) (op : Op) (st1 : AS) : Bool:=match dr with
  | none=>true
  | some F=>fpLe (fp st op) (fpAt F k) && q2l st op st1
def fpC (vs : List V) : Fp:=bif vs.all V.isD then (some [],[]) else (none,[])
def qc7 (x y : Fp) : Bool:=q6u x.2 y.2 && (match x.1 with
  | none=>y.2.isEmpty
  | some r=>q6u r y.2) && (match y.1 with
  | none=>x.2.isEmpty
  | some r=>q6u r x.2)
def qff (ops : Array Oper) (a b : Oper) : Bool:=
  (reads ops a).all (fun t=>!q75 b t) && (reads ops b).all (fun t=>!q75 a t) && (match a.dst with | some t=>!q75 b t | none=>true)
def Jl (x : Fp) : Bool:=match x.1 with
  | none=>!x.2.isEmpty
  | some _=>false
def q74 (F : List Fp) (ops : Array Oper) : Bool:=
  let l:=ops.toList
  let ms:=masks [] l
  let h:=l.zipIdx
  qaa 0 l && h.all fun y=>h.all fun x=>!Nat.blt x.2 y.2 || (ms.getD y.2 0).testBit x.2 || (!Jl (fpAt F (ops.size - (x.2 + 1))) && !Jl (fpAt F (ops.size - (y.2 + 1))) && qff ops x.1 y.1 && qc7 (fpAt F (ops.size - (x.2 + 1))) (fpAt F (ops.size - (y.2 + 1))))
structure Back (ρ ρ3 : Nat→Nat) (ph3 : List Nat) (k k' nx nxN : Nat) (hp hpR hpN : List (Nat × Blk)) : Prop where
  fst : ∀ i,i < k→ρ i < nx∧ρ3 (ρ i) = i
  snd : ∀ m,m < nx→(ρ3 m < k∧ρ (ρ3 m) = m)∨k'≤ρ3 m
  phn : ∀ m,m∈ph3→nx≤m
  old : ∀ m b,find hpN m = some b→find hpR m = some b∨(find hp m = some b∧∀ i,i < k→ρ i≠m)
  nxs : nx≤nxN
def Zl (n : Nat) : Option Tmp→Bool
  | some t=>Nat.blt t n
  | none=>true
def codeOk (n : Nat) : Code→Bool
  | .region _ ops _=>ops.toList.all fun o=>Zl n o.dst
  | .seq a b=>codeOk n a && codeOk n b
  | .cond _ a b=>codeOk n a && codeOk n b
  | .block _ c=>codeOk n c
  | .loop c=>codeOk n c
  | .scope c=>codeOk n c
  | .rangeFunc _ ps a b=>ps.toList.all (fun p=>Nat.blt p n) && codeOk n a && codeOk n b
  | _=>true
mutual
inductive Km (P : Program) (T : Tab) : Nat→Code→AS→Ex→AS→Prop
  | skip {base : Nat} {st : AS} : Km P T base .skip st .nor st
  | seqN {base : Nat} {a b : Code} {st st1 st2 : AS} {ex : Ex} : Km P T base a st .nor st1→Km P T base b st1 ex st2→Km P T base (.seq a b) st ex st2
  | seqX {base : Nat} {a b : Code} {st st1 : AS} {ex : Ex} : Km P T base a st ex st1→ex≠.nor→Km P T base (.seq a b) st ex st1
  | condT {base : Nat} {c : Operand} {a b : Code} {st st1 : AS} {ex : Ex} : st.ev c = some (.d (.bool true))→Km P T base a st ex st1→Km P T base (.cond c a b) st ex st1
  | condF {base : Nat} {c : Operand} {a b : Code} {st st1 : AS} {ex : Ex} : st.ev c = some (.d (.bool false))→Km P T base b st ex st1→Km P T base (.cond c a b) st ex st1
  | block {base id : Nat} {a : Code} {st st1 : AS} {ex : Ex} : Km P T base a st ex st1→Km P T base (.block id a) st (ex.block id) st1
  | exit {base id : Nat} {st : AS} : Km P T base (.exit id) st (.exit id) st
  | ret {base : Nat} {st : AS} : Km P T base .ret st .ret st
  | loopN {base : Nat} {a : Code} {st st1 st2 : AS} {ex : Ex} : Km P T base a st .nor st1→Km P T base (.loop a) st1 ex st2→Km P T base (.loop a) st ex st2
  | loopX {base : Nat} {a : Code} {st st1 : AS} {ex : Ex} : Km P T base a st ex st1→ex≠.nor→Km P T base (.loop a) st ex st1
  | region {base id : Nat} {ops : Array Oper} {st st1 : AS} : Kd P T base ops none ops.toList st st1→Km P T base (.region id ops false) st .nor st1
  | regionD {base id : Nat} {ops : Array Oper} {F : List Fp} {st st1 : AS} : Kd P T base ops (some F) ops.toList st st1→q74 F ops = true→Km P T base (.region id ops true) st .nor st1
  | wk {base : Nat} {ρ : Nat→Nat} {fz ph : List Nat} {c : Code} {st st1 st2 : AS} {ex : Ex} : Wk base ρ fz ph st st1→Km P T base c st1 ex st2→Km P T base c st ex st2
  | rangeF {base : Nat} {g : Operand} {ps : Array Tmp} {assign body : Code} {st : AS} {f : FuncId} {caps : List V} {v : V} {hp : List (Nat × Blk)} {nx : Nat} {pe : Option Code} {ex : Ex} {s : List (Nat × V)} {ls : LoopState} :
      (st.ev g = some (.fn f caps)∨∃ ds,st.ev g = some (.d (.fn f ds))∧caps = ds.map .d)→
      K0 P T f (.yld st.nx::caps) ((st.nx,.loop st.sl ps.toList assign body .ready none)::st.hp) (st.nx + 1) v hp nx→
      find hp st.nx = some (.loop s ps.toList assign body ls pe)→ls≠.busy→pe = ex.code→Km P T base (.rangeFunc g ps assign body) st ex {sl:=st.sl,hp:=repl hp st.nx .dead,nx:=nx}
inductive Kd (P : Program) (T : Tab) : Nat→Array Oper→Dr→List Oper→AS→AS→Prop
  | nil {base : Nat} {ops : Array Oper} {dr : Dr} {st : AS} : Kd P T base ops dr [] st st
  | skip {base : Nat} {ops : Array Oper} {dr : Dr} {o : Oper} {l : List Oper} {st st1 : AS} : Qi ops st o = some false→Kd P T base ops dr l (st.putD o.dst (.d (.tup []))) st1→Kd P T base ops dr (o::l) st st1
  | op {base : Nat} {ops : Array Oper} {dr : Dr} {o : Oper} {l : List Oper} {st st1 st2 : AS} {v : V} : Qi ops st o = some true→opFn T st o.op = some (v,st1)→okO dr l.length st o.op st1 = true→Kd P T base ops dr l (st1.putD o.dst v) st2→Kd P T base ops dr (o::l) st st2
  | opF {base : Nat} {ops : Array Oper} {dr : Dr} {o : Oper} {l : List Oper} {st st1 st2 : AS} {n es : Nat} {xs : List (List DV)} {hp2 : List (Nat × Blk)} : Qi ops st o = some true→opFn T st o.op = some (.hs n es 0 xs.length,st1)→touch o.op = 2→(n = st.nx∧st1.nx = n + 1)→st1.hp = (n,.dat es xs)::hp2→find hp2 n = none→okF dr l.length (fp st o.op) = true→
      Kd P T base ops dr l (({sl:=st1.sl,hp:=hp2,nx:=st1.nx} : AS).putD o.dst (.d (.sl es xs))) st2→Kd P T base ops dr (o::l) st st2
  | callP {base : Nat} {ops : Array Oper} {dr : Dr} {o : Oper} {l : List Oper} {st st2 : AS} {c : Call} {f : FuncId} {vs : List V} {ds : List DV} {v : V} {hp : List (Nat × Blk)} {nx : Nat} {r' r : DV} :
      Qi ops st o = some true→o.op = .call c→callee st c = some (f,vs)→Ke st.hp vs = some ds→
      K0 P T f (ds.map .d) [] 0 v hp nx→toD hp 8 v = some r'→DLe r' r→(vs.all V.isD = true∨r.scalar = true)→okF dr l.length (fpC vs) = true→
      Kd P T base ops dr l (st.putD o.dst (.d r)) st2→Kd P T base ops dr (o::l) st st2
  | callS {base : Nat} {ops : Array Oper} {o : Oper} {l : List Oper} {st st2 : AS} {c : Call} {f : FuncId} {vs : List V} {v : V} {hp : List (Nat × Blk)} {nx : Nat} :
      Qi ops st o = some true→o.op = .call c→callee st c = some (f,vs)→
      K0 P T f vs st.hp st.nx v hp nx→Kd P T base ops none l ({sl:=st.sl,hp:=hp,nx:=nx : AS}.putD o.dst v) st2→Kd P T base ops none (o::l) st st2
  | callF {base : Nat} {ops : Array Oper} {o : Oper} {l : List Oper} {st st2 : AS} {c : Call} {f : FuncId} {vs vs' : List V} {hp0 hp' hpR hpN : List (Nat × Blk)} {k k' nxN : Nat} {v' vN : V} {ρ ρ3 : Nat→Nat} {fz3 ph3 : List Nat} :
      Qi ops st o = some true→o.op = .call c→callee st c = some (f,vs)→vs.length = vs'.length→Wk 0 ρ [] [] {sl:=Ks 0 vs,hp:=st.hp,nx:=st.nx} {sl:=Ks 0 vs',hp:=hp0,nx:=k}→
      K0 P T f vs' hp0 k v' hp' k'→Wk 0 ρ3 fz3 ph3 {sl:=[(0,v')],hp:=hp',nx:=k'} {sl:=[(0,vN)],hp:=hpR,nx:=nxN}→Back ρ ρ3 ph3 k k' st.nx nxN st.hp hpR hpN→
      Kd P T base ops none l ({sl:=st.sl,hp:=hpN,nx:=nxN : AS}.putD o.dst vN) st2→Kd P T base ops none (o::l) st st2
  | callY {base : Nat} {ops : Array Oper} {o : Oper} {l : List Oper} {st st1 st2 st3 : AS} {c : Call} {g : Operand} {n : Nat} {vs : List V} {s s1 s2 : List (Nat × V)} {ps : List Tmp} {assign body : Code} {ex : Ex} :
      Qi ops st o = some true→o.op = .call c→c.callee = .value g→st.ev g = some (.yld n)→evL st.ev c.args.toList = some vs→
      st.blk n = some (.loop s ps assign body .ready none)→ps.length = vs.length→
      Km P T st.nx assign {sl:=q11 s ps vs,hp:=st.hp,nx:=st.nx} .nor st1→st1.blk n = some (.loop s1 ps assign body .ready none)→
      Km P T st.nx body (st1.setBlk n (.loop s1 ps assign body .busy none)) ex st2→st2.blk n = some (.loop s2 ps assign body .busy none)→
      Kd P T base ops none l ({sl:=st.sl,hp:=repl st2.hp n (.loop s2 ps assign body (if ex = .nor then .ready else .done) ex.code),nx:=st2.nx : AS}.putD o.dst (.d (.bool (decide (ex = .nor))))) st3→
      Kd P T base ops none (o::l) st st3
  | wk {base : Nat} {ops : Array Oper} {ρ : Nat→Nat} {fz ph : List Nat} {l : List Oper} {st st1 st2 : AS} : Wk base ρ fz ph st st1→Kd P T base ops none l st1 st2→Kd P T base ops none l st st2
  | piv {base : Nat} {ops : Array Oper} {F : List Fp} {o : Oper} {l : List Oper} {st st1 st2 : AS} : Jl (fpAt F l.length) = true→Kd P T base ops none [o] st st1→Kd P T base ops (some F) l st1 st2→Kd P T base ops (some F) (o::l) st st2
inductive K0 (P : Program) (T : Tab) : FuncId→List V→List (Nat × Blk)→Nat→V→List (Nat × Blk)→Nat→Prop
  | mk {f : FuncId} {fn : Func} {c : Code} {vs : List V} {hp : List (Nat × Blk)} {nx : Nat} {st : AS} {ex : Ex} {v : V} :
      P.funcs[f]? = some fn → fn.body = some c → (fn.name == "runtime.NumGoroutine") = false → codeOk fn.ntmps c = true → vs.length ≤ fn.ntmps → Km P T nx c { sl := Ks 0 vs, hp := hp, nx := nx } ex st → (ex = .nor ∨ ex = .ret) →
      resV T st fn.results.toList = some v→K0 P T f vs hp nx v st.hp st.nx
  | wk {f : FuncId} {vs : List V} {hp hp' hp1 : List (Nat × Blk)} {nx nx' nx1 : Nat} {v v1 : V} {ρ : Nat→Nat} {fz ph : List Nat} : K0 P T f vs hp nx v hp' nx'→
      Wk nx ρ fz ph {sl:=[(0,v)],hp:=hp',nx:=nx'} {sl:=[(0,v1)],hp:=hp1,nx:=nx1}→K0 P T f vs hp nx v1 hp1 nx1
end
def Pure (P : Program) (T : Tab) (f : FuncId) (ds : List DV) (r : DV) : Prop:=
  ∃ v hp nx r',K0 P T f (ds.map .d) [] 0 v hp nx∧toD hp 8 v = some r'∧DLe r' r
end Go.Am
namespace Go.Am
variable {P : Program} {T : Tab}
def q2d (P : Program) (T : Tab) (base : Nat) (c : Code) (st : AS) (K : Ex→AS→Prop) : Prop:=∃ ex st',Km P T base c st ex st'∧K ex st'
def OpsK (P : Program) (T : Tab) (base : Nat) (ops : Array Oper) (dr : Dr) (l : List Oper) (st : AS) (K : AS→Prop) : Prop:=∃ st',Kd P T base ops dr l st st'∧K st'
def q9p (N : AS→Prop) (K : Ex→AS→Prop) : Ex→AS→Prop
  | .nor,st=>N st
  | .exit i,st=>K (.exit i) st
  | .ret,st=>K .ret st
def q2g (id : Nat) (N : AS→Prop) (K : Ex→AS→Prop) : Ex→AS→Prop
  | .nor,st=>N st
  | .exit i,st=>if i = id then N st else K (.exit i) st
  | .ret,st=>K .ret st
def RunK (P : Program) (T : Tab) (base : Nat) : List Code→AS→(Ex→AS→Prop)→Prop
  | [],st,K=>K .nor st
  | c::cs,st,K=>q2d P T base c st (q9p (fun st'=>RunK P T base cs st' K) K)
theorem q2d.mono {base : Nat} {c : Code} {st : AS} {K K' : Ex→AS→Prop} (h : q2d P T base c st K) (hk : ∀ ex st,K ex st→K' ex st) : q2d P T base c st K':=
  let ⟨ex,st',e,k⟩:=h;⟨ex,st',e,hk _ _ k⟩
theorem qyq {N : AS→Prop} {K : Ex→AS→Prop} {ex : Ex} {st : AS} (hx : ex≠.nor) (h : K ex st) : q9p N K ex st:=by
  cases ex <;> first | exact absurd rfl hx | exact h
theorem q43 {base : Nat} {c : Code} {st : AS} {K : Ex→AS→Prop} (h : RunK P T base [c] st K) : q2d P T base c st K:=
  q2d.mono h fun ex st h=>by cases ex <;> exact h
section
variable {base : Nat} {cs : List Code} {st : AS} {K : Ex→AS→Prop}
theorem Q9 (h : K .nor st) : RunK P T base [] st K:=h
theorem qf {a b : Code} (h : RunK P T base (a::b::cs) st K) : RunK P T base (.seq a b::cs) st K:=by
  obtain ⟨ex,st1,e1,k1⟩:=h
  cases ex with
  | nor=>
    obtain ⟨ex2,st2,e2,k2⟩:=k1
    exact ⟨ex2,st2,.seqN e1 e2,k2⟩
  | exit i=>exact ⟨_,_,.seqX e1 qd,k1⟩
  | ret=>exact ⟨_,_,.seqX e1 qd,k1⟩
theorem qn (h : RunK P T base cs st K) : RunK P T base (.skip::cs) st K:=⟨.nor,st,.skip,h⟩
theorem q20 (h : K .ret st) : RunK P T base (.ret::cs) st K:=⟨.ret,st,.ret,h⟩
theorem Q3 {i : Nat} (h : K (.exit i) st) : RunK P T base (.exit i::cs) st K:=⟨.exit i,st,.exit,h⟩
theorem q3d {c : Operand} {a b : Code} (hc : st.ev c = some (.d (.bool true))) (h : RunK P T base (a::cs) st K) : RunK P T base (.cond c a b::cs) st K:=by
  obtain ⟨ex,st1,e1,k1⟩:=h
  exact ⟨ex,st1,.condT hc e1,k1⟩
theorem Jo {c : Operand} {a b : Code} (hc : st.ev c = some (.d (.bool false))) (h : RunK P T base (b::cs) st K) : RunK P T base (.cond c a b::cs) st K:=by
  obtain ⟨ex,st1,e1,k1⟩:=h
  exact ⟨ex,st1,.condF hc e1,k1⟩
theorem Q0 {id : Nat} {a : Code} (h : RunK P T base [a] st (q2g id (fun st'=>RunK P T base cs st' K) K)) : RunK P T base (.block id a::cs) st K:=by
  obtain ⟨ex,st1,e1,k1⟩:=q43 h
  refine ⟨ex.block id,st1,.block e1,?_⟩
  cases ex with
  | nor=>exact k1
  | ret=>exact k1
  | exit i=>
    simp only [q2g] at k1
    by_cases hi : i = id
    · simp only [Ex.block,hi,if_true] at k1 ⊢;exact k1
    · simp only [Ex.block,hi,if_false] at k1 ⊢;exact k1
theorem qu {id : Nat} {ops : Array Oper} (h : OpsK P T base ops none ops.toList st (fun st'=>RunK P T base cs st' K)) : RunK P T base (.region id ops false::cs) st K:=by
  obtain ⟨st1,e1,k1⟩:=h
  exact ⟨.nor,st1,.region e1,k1⟩
theorem Q7 {id : Nat} {ops : Array Oper} (F : List Fp) (hc : q74 F ops = true) (h : OpsK P T base ops (some F) ops.toList st (fun st'=>RunK P T base cs st' K)) : RunK P T base (.region id ops true::cs) st K:=by
  obtain ⟨st1,e1,k1⟩:=h
  exact ⟨.nor,st1,.regionD e1 hc,k1⟩
theorem qqb {ops : Array Oper} {F : List Fp} {o : Oper} {l : List Oper} {st : AS} {K : AS→Prop} (hp : Jl (fpAt F l.length) = true) (h : OpsK P T base ops none [o] st (fun st1=>OpsK P T base ops (some F) l st1 K)) : OpsK P T base ops (some F) (o::l) st K:=by
  obtain ⟨st1,e1,st2,e2,k⟩:=h
  exact ⟨st2,.piv hp e1 e2,k⟩
def WkE (base : Nat) (st st' : AS) : Prop:=∃ ρ fz ph,Wk base ρ fz ph st st'
theorem Yn {st' : AS} (hw : WkE base st st') (h : RunK P T base cs st' K) (hne : cs≠[]) : RunK P T base cs st K:=by
  cases cs with
  | nil=>exact absurd rfl hne
  | cons c cs=>
    obtain ⟨ρ,fz,ph,w⟩:=hw
    obtain ⟨ex,st1,e1,k1⟩:=h
    exact ⟨ex,st1,.wk w e1,k1⟩
theorem qt0 {α : Type} (S : α→AS) (C : α→Prop) (μ : α→Nat) (a0 : α) {body : Code} (h0 : WkE base st (S a0)) (c0 : C a0)
    (round : ∀ a,C a→RunK P T base [body] (S a) (fun ex st'=>match ex with
      | .nor=>∃ a',C a'∧μ a' < μ a∧WkE base st' (S a')
      | ex=>K ex st')) : RunK P T base (.loop body::cs) st K:=by
  have key : ∀ n a,μ a = n→C a→∃ ex st',Km P T base (.loop body) (S a) ex st'∧ex≠.nor∧K ex st':=by
    intro n
    induction n using Nat.strongRecOn with
    | _ n ih=>
      intro a hn hc
      obtain ⟨ex,st1,e1,k1⟩:=q43 (round a hc)
      cases ex with
      | nor=>
        obtain ⟨a',hc',hlt,ρ,fz,ph,w⟩:=k1
        obtain ⟨ex2,st2,e2,hx,k2⟩:=ih (μ a') (hn ▸ hlt) a' rfl hc'
        exact ⟨ex2,st2,.loopN e1 (.wk w e2),hx,k2⟩
      | exit i=>exact ⟨_,_,.loopX e1 qd,qd,k1⟩
      | ret=>exact ⟨_,_,.loopX e1 qd,qd,k1⟩
  obtain ⟨ρ,fz,ph,w⟩:=h0
  obtain ⟨ex,st2,e2,hx,k2⟩:=key _ a0 rfl c0
  exact ⟨ex,st2,.wk w e2,qyq hx k2⟩
end
section
variable {base : Nat} {ops : Array Oper} {dr : Dr} {l : List Oper} {st : AS} {K : AS→Prop}
theorem q9 (h : K st) : OpsK P T base ops dr [] st K:=⟨st,.nil,h⟩
theorem Y6 {o : Oper} {v : V} {st1 : AS} (hg : Qi ops st o = some true) (ho : opFn T st o.op = some (v,st1)) (h : OpsK P T base ops dr l (st1.putD o.dst v) K) (hf : okO dr l.length st o.op st1 = true) : OpsK P T base ops dr (o::l) st K:=by
  obtain ⟨st2,e2,k⟩:=h
  exact ⟨st2,.op hg ho hf e2,k⟩
theorem qqa {o : Oper} {st1 : AS} {n es : Nat} {xs : List (List DV)} {hp2 : List (Nat × Blk)} (hg : Qi ops st o = some true) (ho : opFn T st o.op = some (.hs n es 0 xs.length,st1)) (ht : touch o.op = 2) (hn : n = st.nx∧st1.nx = n + 1) (hh : st1.hp = (n,.dat es xs)::hp2) (hf : find hp2 n = none)
    (h : OpsK P T base ops dr l (({sl:=st1.sl,hp:=hp2,nx:=st1.nx} : AS).putD o.dst (.d (.sl es xs))) K) (hF : okF dr l.length (fp st o.op) = true) : OpsK P T base ops dr (o::l) st K:=by
  obtain ⟨st2,e2,k⟩:=h
  exact ⟨st2,.opF hg ho ht hn hh hf hF e2,k⟩
theorem qqd {o : Oper} (hg : Qi ops st o = some false) (h : OpsK P T base ops dr l (st.putD o.dst (.d (.tup []))) K) : OpsK P T base ops dr (o::l) st K:=by
  obtain ⟨st2,e2,k⟩:=h
  exact ⟨st2,.skip hg e2,k⟩
theorem qin {o : Oper} {c : Call} {f : FuncId} {vs : List V} {ds : List DV} {r : DV} (hg : Qi ops st o = some true) (ho : o.op = .call c) (hc : callee st c = some (f,vs)) (hd : Ke st.hp vs = some ds)
    (hs : (vs.all V.isD = true∨r.scalar = true)) (hp : Pure P T f ds r) (h : OpsK P T base ops dr l (st.putD o.dst (.d r)) K) (hF : okF dr l.length (fpC vs) = true) : OpsK P T base ops dr (o::l) st K:=by
  obtain ⟨v,hp',nx,r',e1,hr,hle⟩:=hp
  obtain ⟨st2,e2,k⟩:=h
  exact ⟨st2,.callP hg ho hc hd e1 hr hle hs hF e2,k⟩
end
theorem qa2 : ∀ (l : List V) (k t : Nat),find (Ks k l) t = if k≤t then l[t - k]? else none
  | [],k,t=>by simp [Ks,find]
  | v::r,k,t=>by
    simp only [Ks,find]
    by_cases h : k = t
    · subst h;simp
    · have hb : Nat.beq k t = false:=by
        cases hb : Nat.beq k t with
        | true=>exact absurd (Nat.eq_of_beq_eq_true hb) h
        | false=>rfl
      rw [hb]
      simp only
      rw [qa2 r (k + 1) t]
      by_cases h2 : k≤t
      · rw [if_pos h2,if_pos q6,show t - k = (t - (k + 1)) + 1 by omega,List.getElem?_cons_succ]
      · rw [if_neg h2,if_neg q6]
theorem Qg {f : FuncId} {fn : Func} {c : Code} {ds : List DV} {r : DV} (hf : P.funcs[f]? = some fn) (hb : fn.body = some c) (hname : (fn.name == "runtime.NumGoroutine") = false) (hok : codeOk fn.ntmps c = true) (hl : Nat.ble ds.length fn.ntmps = true)
    (h : RunK P T 0 [c] {sl:=Ks 0 (ds.map .d),hp:=[],nx:=0} (fun ex st=>(ex = .nor∨ex = .ret)∧∃ v r',resV T st fn.results.toList = some v∧toD st.hp 8 v = some r'∧DLe r' r)) : Pure P T f ds r:=by
  obtain ⟨ex,st',e,hx,v,r',hv,hr,hle⟩:=q43 h
  exact ⟨v,st'.hp,st'.nx,r',.mk hf hb hname hok (by simpa using hl) e hx hv,hr,hle⟩
def WkL (st : AS) (ρ : Nat→Nat) (fz ph : List Nat) (nx : Nat) : List (Nat × V)→Prop
  | []=>True
  | (t,v')::r=>(∃ v,st.get t = some v∧Wv st ρ fz ph nx v v')∧WkL st ρ fz ph nx r
def WkH (st : AS) (ρ : Nat→Nat) (fz ph : List Nat) (nx : Nat) : List (Nat × Blk)→Prop
  | []=>True
  | (n,b')::r=>(n < nx∧((n∈ph∧∃ es,es≠0∧b' = .dat es [])∨(n ∉ ph∧∃ b,st.blk (ρ n) = some b∧Wb st ρ fz ph nx b b')))∧WkH st ρ fz ph nx r
theorem Zh {α : Type} {l : List (Nat × α)} {t : Nat} {v : α} (h : find l t = some v) : (t,v)∈l:=by
  induction l with
  | nil=>simp [find] at h
  | cons x r ih=>
    obtain ⟨k,y⟩:=x
    simp only [find] at h
    cases hk : Nat.beq k t with
    | true=>rw [hk] at h;simp at h;subst h;rw [Nat.eq_of_beq_eq_true hk];exact List.mem_cons_self
    | false=>rw [hk] at h;exact List.mem_cons_of_mem _ (ih h)
theorem WkL.get {st : AS} {ρ : Nat→Nat} {fz ph : List Nat} {nx : Nat} {l : List (Nat × V)} (h : WkL st ρ fz ph nx l) {t : Nat} {v' : V} (hm : (t,v')∈l) : ∃ v,st.get t = some v∧Wv st ρ fz ph nx v v':=by
  induction l with
  | nil=>cases hm
  | cons x r ih=>
    obtain ⟨k,y⟩:=x
    cases hm with
    | head=>exact h.1
    | tail _ hm=>exact ih h.2 hm
theorem WkH.get {st : AS} {ρ : Nat→Nat} {fz ph : List Nat} {nx : Nat} {l : List (Nat × Blk)} (h : WkH st ρ fz ph nx l) {n : Nat} {b' : Blk} (hm : (n,b')∈l) :
    n < nx∧((n∈ph∧∃ es,es≠0∧b' = .dat es [])∨(n ∉ ph∧∃ b,st.blk (ρ n) = some b∧Wb st ρ fz ph nx b b')):=by
  induction l with
  | nil=>cases hm
  | cons x r ih=>
    obtain ⟨k,y⟩:=x
    cases hm with
    | head=>exact h.1
    | tail _ hm=>exact ih h.2 hm
def rho (l : List (Nat × Nat)) (n : Nat) : Nat:=match find l n with
  | some m=>m
  | none=>n
def memN (l : List Nat) (n : Nat) : Bool:=match l with
  | []=>false
  | k::r=>Nat.beq k n || memN r n
theorem q4g {l : List Nat} {n : Nat} : memN l n = true↔n∈l:=by
  induction l with
  | nil=>simp [memN]
  | cons k r ih=>
    simp only [memN,Bool.or_eq_true,ih,List.mem_cons]
    constructor
    · rintro (h | h)
      · exact .inl (Nat.eq_of_beq_eq_true h).symm
      · exact .inr h
    · rintro (h | h)
      · exact .inl (by rw [h];exact Nat.beq_refl k)
      · exact .inr h
def wkOk (base : Nat) (l : List (Nat × Nat)) (fz ph : List Nat) (hp : List (Nat × Blk)) (nx : Nat) : Bool:=
  Nat.ble base nx && l.all (fun x=>Nat.ble base x.1) && fz.all (fun n=>Nat.ble base n) && ph.all (fun n=>Nat.ble base n) &&
  hp.all (fun x=>memN ph x.1 || (!memN fz (rho l x.1) && hp.all fun y=>memN ph y.1 || !(Nat.beq (rho l x.1) (rho l y.1)) || Nat.beq x.1 y.1))
theorem wkE {base : Nat} {st st' : AS} (l : List (Nat × Nat)) (fz ph : List Nat) (hok : wkOk base l fz ph st'.hp st'.nx = true) (hs : WkL st (rho l) fz ph st'.nx st'.sl) (hh : WkH st (rho l) fz ph st'.nx st'.hp) : WkE base st st':=by
  simp only [wkOk,Bool.and_eq_true,Nat.ble_eq,List.all_eq_true] at hok
  obtain ⟨⟨⟨⟨h1,h2⟩,h3⟩,h5⟩,h4⟩:=hok
  refine ⟨rho l,fz,ph,?_,?_,?_,?_,?_,h1,?_,?_⟩
  · exact fun t v' h=>hs.get (Zh h)
  · exact fun n b' h=>hh.get (Zh h)
  · intro n m b c hn hm hpn hpm he
    have:=h4 _ (Zh hn)
    simp only [Bool.or_eq_true,Bool.and_eq_true,q4g,List.all_eq_true,Bool.not_eq_true'] at this
    rcases this with h | h
    · exact absurd h hpn
    · have:=h.2 _ (Zh hm)
      rcases this with (h' | h') | h'
      · exact absurd h' hpm
      · rw [he] at h';simp at h'
      · exact Nat.eq_of_beq_eq_true h'
  · intro n b hn hpn hc
    have:=h4 _ (Zh hn)
    simp only [Bool.or_eq_true,Bool.and_eq_true,q4g,Bool.not_eq_true'] at this
    rcases this with h | h
    · exact absurd h hpn
    · rw [q4g.2 hc] at h;exact absurd h.1 qd
  · intro n hn
    unfold rho
    split
    · rename_i m hm
      have:=h2 _ (Zh hm)
      simp at this;omega
    · rfl
  · exact fun n hn=>h3 n hn
  · exact fun n hn=>h5 n hn
end Go.Am
namespace Go.Am
open Go
def live : Blk→Bool
  | .dead=>false
  | _=>true
inductive RelD (w : World) (Z : Nat→Prop) : DV→Value→Prop
  | int (k : IntKind) (n : Int) : RelD w Z (.int k n) (.int k n)
  | bool (b : Bool) : RelD w Z (.bool b) (.bool b)
  | str (s : ByteArray) : RelD w Z (.str s) (.string s)
  | agg {ds : List DV} {cs : Array Value} : ds.length = cs.size→(∀ (i : Nat) (d : DV) (c : Value),ds[i]? = some d→cs[i]? = some c→RelD w Z d c)→RelD w Z (.agg ds) (.agg cs)
  | tup {ds : List DV} {cs : Array Value} : ds.length = cs.size→(∀ (i : Nat) (d : DV) (c : Value),ds[i]? = some d→cs[i]? = some c→RelD w Z d c)→RelD w Z (.tup ds) (.tuple cs)
  | fn {f : FuncId} {ds : List DV} {cs : Array Value} : ds.length = cs.size→(∀ (i : Nat) (d : DV) (c : Value),ds[i]? = some d→cs[i]? = some c→RelD w Z d c)→RelD w Z (.fn f ds) (.func (.func f) #[] cs)
  | nilsl : RelD w Z .nilsl (.slice none 0 0)
  | slnil (es : Nat) : RelD w Z (.sl es []) (.slice none 0 0)
  | slemp (es : Nat) (a : Addr) : RelD w Z (.sl es []) (.slice (some a) 0 0)
  | sl {es : Nat} {xs : List (List DV)} {b o cap : Nat} : xs.length≤cap→(xs≠[]→Z b)→(∀ (i : Nat) (x : List DV),xs[i]? = some x→x.length = es)→
      (∀ (i : Nat) (x : List DV) (j : Nat) (d : DV),xs[i]? = some x→x[j]? = some d→Y5 d = true∧∃ c,w.cell? ⟨b,o + (i * es + j),none⟩ = some c)→
      (∀ (i : Nat) (x : List DV) (j : Nat) (d : DV) (c : Value),xs[i]? = some x→x[j]? = some d→w.cell? ⟨b,o + (i * es + j),none⟩ = some c→RelD w Z d c)→
      RelD w Z (.sl es xs) (.slice (some ⟨b,o,none⟩) xs.length cap)
  | nilp : RelD w Z .nilp (.pointer none)
  | nilf : RelD w Z .nilf .nilFunc
  | nilm : RelD w Z .nilm (.map none)
  | box {cs : List DV} {b o : Nat} : Z b→(∀ (j : Nat) (d : DV),cs[j]? = some d→∃ c,w.cell? ⟨b,o + j,none⟩ = some c)→
      (∀ (j : Nat) (d : DV) (c : Value),cs[j]? = some d→w.cell? ⟨b,o + j,none⟩ = some c→RelD w Z d c)→RelD w Z (.box cs) (.pointer (some ⟨b,o,none⟩))
abbrev Inj:=Nat→Option (Nat × Nat)
def Big (w : World) (b m : Nat) : Prop:=∃ c e f,w.heap[b]? = some (.cells c e f)∧m≤c.size
def Zb (w w' : World) : Prop:=∀ (b : Nat) (c : Array Value) (e : TypeId) (f : Nat × Nat),w.heap[b]? = some (Obj.cells c e f)→∃ (c' : Array Value) (e' : TypeId) (f' : Nat × Nat),w'.heap[b]? = some (Obj.cells c' e' f')∧c'.size = c.size
def q9v (w w' : World) : Prop:=∀ (b : Nat) (r : Loop),w.heap[b]? = some (Obj.loop r)→∃ r' : Loop,w'.heap[b]? = some (Obj.loop r')∧r'.defers = r.defers
inductive RelV (w : World) (Z : Nat→Prop) (inj : Inj) (nx : Nat) : V→Value→Prop
  | d {x : DV} {v : Value} : RelD w Z x v→RelV w Z inj nx (.d x) v
  | agg {ds : List V} {cs : Array Value} : ds.length = cs.size→(∀ (i : Nat) (d : V) (c : Value),ds[i]? = some d→cs[i]? = some c→RelV w Z inj nx d c)→RelV w Z inj nx (.agg ds) (.agg cs)
  | tup {ds : List V} {cs : Array Value} : ds.length = cs.size→(∀ (i : Nat) (d : V) (c : Value),ds[i]? = some d→cs[i]? = some c→RelV w Z inj nx d c)→RelV w Z inj nx (.tup ds) (.tuple cs)
  | fn {f : FuncId} {ds : List V} {cs : Array Value} : ds.length = cs.size→(∀ (i : Nat) (d : V) (c : Value),ds[i]? = some d→cs[i]? = some c→RelV w Z inj nx d c)→RelV w Z inj nx (.fn f ds) (.func (.func f) #[] cs)
  | ref {n es i j b o : Nat} : n < nx→inj n = some (b,o)→RelV w Z inj nx (.ref n es i j) (.pointer (some ⟨b,o + (i * es + j),none⟩))
  | dref {cs : List DV} {j b o : Nat} : Z b→(∀ (k : Nat) (d : DV),cs[k]? = some d→∃ c,w.cell? ⟨b,o + k,none⟩ = some c)→
      (∀ (k : Nat) (d : DV) (c : Value),cs[k]? = some d→w.cell? ⟨b,o + k,none⟩ = some c→RelD w Z d c)→RelV w Z inj nx (.dref cs j) (.pointer (some ⟨b,o + j,none⟩))
  | hsnil {n es off : Nat} : n < nx→RelV w Z inj nx (.hs n es off 0) (.slice none 0 0)
  | hs {n es off len cap : Nat} {a : Addr} : n < nx→len≤cap→a.spot = none→(cap≠0→∃ b o,inj n = some (b,o)∧a = ⟨b,o + off * es,none⟩∧Big w b (o + (off + cap) * es))→RelV w Z inj nx (.hs n es off len) (.slice (some a) len cap)
  | yld {n b o : Nat} : n < nx→inj n = some (b,o)→RelV w Z inj nx (.yld n) (.func (.yield b) #[] #[])
  | mp {n b : Nat} : n < nx→inj n = some (b,0)→RelV w Z inj nx (.mp n) (.map (some b))
  | dead (v : Value) : RelV w Z inj nx .dead v
def Yc (w : World) (Z : Nat→Prop) (inj : Inj) (nx : Nat) (s : List (Nat × V)) (tmps : Array Value) : Prop:=
  ∀ t v,find s t = some v→∃ x,tmps[t]? = some x∧RelV w Z inj nx v x
def RelB (w : World) (Z : Nat→Prop) (inj : Inj) (nx n : Nat) : Blk→Prop
  | .dead=>True
  | .dat es xs=>es≠0∧(∀ (i : Nat) (x : List DV),xs[i]? = some x→x.length = es)∧((xs = []∧inj n = none)∨∃ b o arr ty,inj n = some (b,o)∧w.heap[b]? = some (.cells arr ty (0,0))∧
      ∀ (i : Nat) (x : List DV) (j : Nat) (d : DV),xs[i]? = some x→x[j]? = some d→Y5 d = true∧∃ c,arr[o + (i * es + j)]? = some c∧RelD w Z d c)
  | .cel es xs=>es≠0∧(∀ (i : Nat) (x : List V),xs[i]? = some x→x.length = es)∧((xs = []∧inj n = none)∨∃ b o arr ty,inj n = some (b,o)∧w.heap[b]? = some (.cells arr ty (0,0))∧
      ∀ (i : Nat) (x : List V) (j : Nat) (d : V),xs[i]? = some x→x[j]? = some d→Kb d = true∧∃ c,arr[o + (i * es + j)]? = some c∧RelV w Z inj nx d c)
  | .mp es=>∃ b ents cl,inj n = some (b,0)∧w.heap[b]? = some (.map ents cl)∧ents.size = es.length∧∀ (i : Nat) (e : DV × DV) (x : MapEntry),es[i]? = some e→ents[i]? = some x→RelD w Z e.1 x.key∧RelD w Z e.2 x.val∧Y5 e.2 = true
  | .loop s ps assign body ls pe=>∃ b tmps D fn,inj n = some (b,0)∧w.heap[b]? = some (.loop {state:=ls,pending:=pe,fn:=fn,tmps:=tmps,params:=ps.toArray,assign:=assign,body:=body,defers:=D})∧
      (codeOk tmps.size assign = true∧codeOk tmps.size body = true∧∀ p∈ps,p < tmps.size)∧Yc w Z inj nx s tmps
def im (hp : List (Nat × Blk)) (inj : Inj) (b : Nat) : Prop:=∃ n blk o,find hp n = some blk∧live blk = true∧inj n = some (b,o)
structure RelH (w : World) (Z : Nat→Prop) (inj : Inj) (hp : List (Nat × Blk)) (nx : Nat) : Prop where
  blk : ∀ n b,find hp n = some b→n < nx∧RelB w Z inj nx n b
  sep : ∀ n m b c p q,find hp n = some b→find hp m = some c→live b = true→live c = true→inj n = some p→inj m = some q→n≠m→p.1≠q.1
  out : ∀ n b p,find hp n = some b→live b = true→inj n = some p→¬ Z p.1
  zs : ∀ b,Z b→b < w.heap.size
  zc : ∀ b,Z b→∃ c e f,w.heap[b]? = some (.cells c e f)
structure RelS (w : World) (Z : Nat→Prop) (inj : Inj) (st : AS) (a : Act) (Ds : List Nat) : Prop where
  slots : Yc w Z inj st.nx st.sl a.tmps
  heap : RelH w Z inj st.hp st.nx
  defs : a.defers = Ds.map fun D=>{target:=.collected D,args:=#[]}
  nodup : Ds.Nodup
  marks : ∀ D∈Ds,w.heap[D]? = some (.deferred (some []))
structure Ext (w : World) (Z : Nat→Prop) (inj : Inj) (hp : List (Nat × Blk)) (w' : World) (Z' : Nat→Prop) (inj' : Inj) (hp' : List (Nat × Blk)) (pin : Nat) : Prop where
  size : w.heap.size≤w'.heap.size
  keep : ∀ b,b < w.heap.size→¬ im hp inj b→w'.heap[b]? = w.heap[b]?
  imm : ∀ b,im hp' inj' b→im hp inj b∨w.heap.size≤b
  big : Zb w w'
  loops : q9v w w'
  zin : ∀ b,Z b→Z' b
  zout : ∀ b,Z' b→Z b∨im hp inj b∨w.heap.size≤b
  pinj : ∀ n,n < pin→inj' n = inj n
  tape : w'.tape = w.tape
  os : w'.os = w.os
  output : w'.output = w.output
  frz : ∀ a,w'.frozen? a = w.frozen? a
def Unfr : Obj→Prop
  | .cells _ _ f=>f = (0,0)
  | _=>True
theorem qha (w : World) {o : Obj} (ho : Unfr o) (a : Addr) : (w.alloc o).frozen? a = w.frozen? a:=by
  by_cases h : a.block = w.heap.size
  · have e1 : (w.alloc o).heap[a.block]? = some o:=by rw [h];show (w.heap.push o)[w.heap.size]? = some o;simp
    have e2 : w.heap[a.block]? = none:=by rw [h];simp
    simp only [World.frozen?,e1,e2]
    cases o <;> try rfl
    simp only [Unfr] at ho;subst ho;simp
  · have : (w.alloc o).heap[a.block]? = w.heap[a.block]?:=by
      show (w.heap.push o)[a.block]? = _
      rw [Array.getElem?_push];simp [h]
    simp only [World.frozen?,this]
theorem cell?_congr {w w' : World} {a : Addr} (h : w'.heap[a.block]? = w.heap[a.block]?) : w'.cell? a = w.cell? a:=by
  simp only [World.cell?,h]
theorem RelD.mono {w w' : World} {Z Z' : Nat→Prop} {d : DV} {v : Value} (h : RelD w Z d v) (hw : ∀ b,Z b→w'.heap[b]? = w.heap[b]?) (hz : ∀ b,Z b→Z' b) : RelD w' Z' d v:=by
  induction h with
  | int k n=>exact .int k n
  | bool b=>exact .bool b
  | str s=>exact .str s
  | agg hl _ ih=>exact .agg hl ih
  | tup hl _ ih=>exact .tup hl ih
  | fn hl _ ih=>exact .fn hl ih
  | nilsl=>exact .nilsl
  | slnil es=>exact .slnil es
  | slemp es a=>exact .slemp es a
  | @sl es xs b o cap hc hb hl hs _ ih=>
    have hne : ∀ (i : Nat) (x : List DV),xs[i]? = some x→Z b:=fun i x hx=>hb (by rintro rfl;simp at hx)
    refine .sl hc (fun h=>hz _ (hb h)) hl ?_ ?_
    · intro i x j d hx hd
      rw [cell?_congr (w:=w) (hw b (hne i x hx))];exact hs i x j d hx hd
    · intro i x j d c hx hd hcell
      rw [cell?_congr (w:=w) (hw b (hne i x hx))] at hcell
      exact ih i x j d c hx hd hcell
  | nilp=>exact .nilp
  | nilf=>exact .nilf
  | nilm=>exact .nilm
  | @box cs b o hb hs _ ih=>
    refine .box (hz _ hb) ?_ ?_
    · intro j d hd;rw [cell?_congr (w:=w) (hw b hb)];exact hs j d hd
    · intro j d c hd hcell
      rw [cell?_congr (w:=w) (hw b hb)] at hcell
      exact ih j d c hd hcell
theorem Big.mono {w w' : World} {b m : Nat} (h : Big w b m) (hb : Zb w w') : Big w' b m:=by
  obtain ⟨c,e,f,h1,h2⟩:=h
  obtain ⟨c',e',f',h3,h4⟩:=hb _ _ _ _ h1
  exact ⟨c',e',f',h3,q6⟩
theorem RelV.mono {w w' : World} {Z Z' : Nat→Prop} {inj inj' : Inj} {nx nx' : Nat} {x : V} {v : Value} (h : RelV w Z inj nx x v) (hw : ∀ b,Z b→w'.heap[b]? = w.heap[b]?) (hz : ∀ b,Z b→Z' b)
    (hb : Zb w w') (hi : ∀ n,n < nx→inj' n = inj n) (hn : nx≤nx') : RelV w' Z' inj' nx' x v:=by
  induction h with
  | d h=>exact .d (h.mono hw hz)
  | agg hl _ ih=>exact .agg hl ih
  | tup hl _ ih=>exact .tup hl ih
  | fn hl _ ih=>exact .fn hl ih
  | ref h1 h2=>exact .ref q6 ((hi _ h1).trans h2)
  | @dref cs j b o h1 h2 h3=>
    refine .dref (hz _ h1) ?_ ?_
    · intro k d hd;rw [cell?_congr (w:=w) (hw b h1)];exact h2 k d hd
    · intro k d c hd hcell
      rw [cell?_congr (w:=w) (hw b h1)] at hcell
      exact (h3 k d c hd hcell).mono hw hz
  | hsnil h1=>exact .hsnil q6
  | hs h1 h2 hsp h3=>
    refine .hs q6 h2 hsp fun hc=>?_
    obtain ⟨b,o,e1,e2,e3⟩:=h3 hc
    exact ⟨b,o,(hi _ h1).trans e1,e2,e3.mono hb⟩
  | yld h1 h2=>exact .yld q6 ((hi _ h1).trans h2)
  | mp h1 h2=>exact .mp q6 ((hi _ h1).trans h2)
  | dead v=>exact .dead v
theorem Yc.mono {w w' : World} {Z Z' : Nat→Prop} {inj inj' : Inj} {nx nx' : Nat} {s : List (Nat × V)} {tmps : Array Value} (h : Yc w Z inj nx s tmps) (hw : ∀ b,Z b→w'.heap[b]? = w.heap[b]?) (hz : ∀ b,Z b→Z' b)
    (hb : Zb w w') (hi : ∀ n,n < nx→inj' n = inj n) (hn : nx≤nx') : Yc w' Z' inj' nx' s tmps:=
  fun t v ht=>let ⟨x,hx,hr⟩:=h t v ht;⟨x,hx,hr.mono hw hz hb hi hn⟩
theorem RelB.mono {w w' : World} {Z Z' : Nat→Prop} {inj inj' : Inj} {nx nx' n : Nat} {b : Blk} (h : RelB w Z inj nx n b) (hw : ∀ b,Z b→w'.heap[b]? = w.heap[b]?) (hz : ∀ b,Z b→Z' b)
    (hb : Zb w w') (hi : ∀ n,n < nx→inj' n = inj n) (hn : nx≤nx') (hnn : n < nx)
    (hs : ∀ p,inj n = some p→live b = true→w'.heap[p.1]? = w.heap[p.1]?) : RelB w' Z' inj' nx' n b:=by
  cases b with
  | dead=>trivial
  | dat es xs=>
    obtain ⟨h1,h2,h3⟩:=h
    refine ⟨h1,h2,?_⟩
    rcases h3 with ⟨h3,h4⟩ | ⟨b,o,arr,ty,h3,h4,h5⟩
    · exact .inl ⟨h3,(hi _ hnn).trans h4⟩
    · refine .inr ⟨b,o,arr,ty,(hi _ hnn).trans h3,(hs _ h3 rfl).trans h4,?_⟩
      intro i x j d hx hd
      obtain ⟨h6,c,h7,h8⟩:=h5 i x j d hx hd
      exact ⟨h6,c,h7,h8.mono hw hz⟩
  | cel es xs=>
    obtain ⟨h1,h2,h3⟩:=h
    refine ⟨h1,h2,?_⟩
    rcases h3 with ⟨h3,h4⟩ | ⟨b,o,arr,ty,h3,h4,h5⟩
    · exact .inl ⟨h3,(hi _ hnn).trans h4⟩
    · refine .inr ⟨b,o,arr,ty,(hi _ hnn).trans h3,(hs _ h3 rfl).trans h4,?_⟩
      intro i x j d hx hd
      obtain ⟨h6,c,h7,h8⟩:=h5 i x j d hx hd
      exact ⟨h6,c,h7,h8.mono hw hz hb hi hn⟩
  | mp es=>
    obtain ⟨b,ents,cl,h1,h2,h3,h4⟩:=h
    exact ⟨b,ents,cl,(hi _ hnn).trans h1,(hs _ h1 rfl).trans h2,h3,fun i e x he hx=>⟨(h4 i e x he hx).1.mono hw hz,(h4 i e x he hx).2.1.mono hw hz,(h4 i e x he hx).2.2⟩⟩
  | loop s ps assign body dn pe=>
    obtain ⟨b,tmps,D,fn,h1,h2,h3,h4⟩:=h
    exact ⟨b,tmps,D,fn,(hi _ hnn).trans h1,(hs _ h1 rfl).trans h2,h3,h4.mono hw hz hb hi hn⟩
theorem RelB.lt {w : World} {Z : Nat→Prop} {inj : Inj} {nx n : Nat} {b : Blk} (h : RelB w Z inj nx n b) (hl : live b = true) {p : Nat × Nat} (hp : inj n = some p) :
    (∃ arr ty,w.heap[p.1]? = some (.cells arr ty (0,0)))∨(∃ r,w.heap[p.1]? = some (.loop r))∨∃ es cl,w.heap[p.1]? = some (.map es cl):=by
  cases b with
  | dead=>simp [live] at hl
  | dat es xs=>
    obtain ⟨_,_,h3⟩:=h
    rcases h3 with ⟨_,h4⟩ | ⟨b,o,arr,ty,h3,h4,_⟩
    · rw [h4] at hp;cases hp
    · rw [h3] at hp;cases hp;exact .inl ⟨_,_,h4⟩
  | cel es xs=>
    obtain ⟨_,_,h3⟩:=h
    rcases h3 with ⟨_,h4⟩ | ⟨b,o,arr,ty,h3,h4,_⟩
    · rw [h4] at hp;cases hp
    · rw [h3] at hp;cases hp;exact .inl ⟨_,_,h4⟩
  | loop s ps assign body dn pe=>
    obtain ⟨b,tmps,D,fn,h1,h2,_,_⟩:=h
    rw [h1] at hp;cases hp;exact .inr (.inl ⟨_,h2⟩)
  | mp es=>
    obtain ⟨b,ents,cl,h1,h2,_⟩:=h
    rw [h1] at hp;cases hp;exact .inr (.inr ⟨_,_,h2⟩)
theorem Zk {w : World} {b : Nat} {o : Obj} (h : w.heap[b]? = some o) : b < w.heap.size:=(Array.getElem?_eq_some_iff.1 h).1
theorem RelH.im_obj {w : World} {Z : Nat→Prop} {inj : Inj} {hp : List (Nat × Blk)} {nx : Nat} (h : RelH w Z inj hp nx) {b : Nat} (hi : im hp inj b) :
    (∃ arr ty,w.heap[b]? = some (.cells arr ty (0,0)))∨(∃ r,w.heap[b]? = some (.loop r))∨∃ es cl,w.heap[b]? = some (.map es cl):=by
  obtain ⟨n,blk,o,h1,h2,h3⟩:=hi
  exact (h.blk n blk h1).2.lt h2 h3
theorem RelH.im_lt {w : World} {Z : Nat→Prop} {inj : Inj} {hp : List (Nat × Blk)} {nx : Nat} (h : RelH w Z inj hp nx) {b : Nat} (hi : im hp inj b) : b < w.heap.size:=by
  rcases h.im_obj hi with ⟨arr,ty,e⟩ | ⟨r,e⟩ | ⟨es,cl,e⟩ <;> exact Zk e
theorem RelH.z_im {w : World} {Z : Nat→Prop} {inj : Inj} {hp : List (Nat × Blk)} {nx : Nat} (h : RelH w Z inj hp nx) {b : Nat} (hz : Z b) : ¬ im hp inj b:=by
  rintro ⟨n,blk,o,h1,h2,h3⟩
  exact h.out n blk _ h1 h2 h3 hz
theorem Ext.zkeep {w w' : World} {Z Z' : Nat→Prop} {inj inj' : Inj} {hp hp' : List (Nat × Blk)} {nx pin : Nat} (e : Ext w Z inj hp w' Z' inj' hp' pin) (h : RelH w Z inj hp nx) : ∀ b,Z b→w'.heap[b]? = w.heap[b]?:=
  fun b hz=>e.keep b (h.zs b hz) (h.z_im hz)
theorem Ext.refl {w : World} {Z : Nat→Prop} {inj : Inj} {hp : List (Nat × Blk)} {pin : Nat} : Ext w Z inj hp w Z inj hp pin:=
  ⟨Nat.le_refl _,fun _ _ _=>rfl,fun _ h=>.inl h,fun _ c e f h=>⟨c,e,f,h,rfl⟩,fun _ r h=>⟨r,h,rfl⟩,fun _ h=>h,fun _ h=>.inl h,fun _ _=>rfl,rfl,rfl,rfl,fun _=>rfl⟩
theorem Ext.trans {w0 w1 w2 : World} {Z0 Z1 Z2 : Nat→Prop} {i0 i1 i2 : Inj} {h0 h1 h2 : List (Nat × Blk)} {p q : Nat} (a : Ext w0 Z0 i0 h0 w1 Z1 i1 h1 p) (b : Ext w1 Z1 i1 h1 w2 Z2 i2 h2 q) (hpq : p≤q) : Ext w0 Z0 i0 h0 w2 Z2 i2 h2 p:=by
  refine ⟨Nat.le_trans a.size b.size,?_,?_,?_,?_,fun x h=>b.zin x (a.zin x h),?_,?_,b.tape.trans a.tape,b.os.trans a.os,b.output.trans a.output,fun x=>(b.frz x).trans (a.frz x)⟩
  · intro x hx hi
    rw [b.keep x (Nat.lt_of_lt_of_le hx a.size) (fun h=>(a.imm x h).elim hi (fun h=>q6)),a.keep x hx hi]
  · intro x hx
    rcases b.imm x hx with h | h
    · exact a.imm x h
    · exact .inr (Nat.le_trans a.size h)
  · intro x c e f h
    obtain ⟨c1,e1,f1,h1,s1⟩:=a.big x c e f h
    obtain ⟨c2,e2,f2,h2,s2⟩:=b.big x c1 e1 f1 h1
    exact ⟨c2,e2,f2,h2,s2.trans s1⟩
  · intro x r h
    obtain ⟨r1,h1,s1⟩:=a.loops x r h
    obtain ⟨r2,h2,s2⟩:=b.loops x r1 h1
    exact ⟨r2,h2,s2.trans s1⟩
  · intro x hx
    rcases b.zout x hx with h | h | h
    · exact a.zout x h
    · rcases a.imm x h with h | h
      · exact .inr (.inl h)
      · exact .inr (.inr h)
    · exact .inr (.inr (Nat.le_trans a.size h))
  · intro n hn
    rw [b.pinj n q6,a.pinj n hn]
theorem Ext.pin_le {w w' : World} {Z Z' : Nat→Prop} {i i' : Inj} {h h' : List (Nat × Blk)} {p q : Nat} (e : Ext w Z i h w' Z' i' h' p) (hq : q≤p) : Ext w Z i h w' Z' i' h' q:=
  {e with pinj:=fun n hn=>e.pinj n q6}
theorem Ext.marks {w w' : World} {Z Z' : Nat→Prop} {inj inj' : Inj} {hp hp' : List (Nat × Blk)} {nx pin : Nat} (e : Ext w Z inj hp w' Z' inj' hp' pin) (h : RelH w Z inj hp nx) {D : Nat} (hD : w.heap[D]? = some (.deferred (some []))) :
    w'.heap[D]? = some (.deferred (some [])):=by
  rw [e.keep D (Zk hD) ?_];exact hD
  intro hi
  rcases h.im_obj hi with ⟨arr,ty,e'⟩ | ⟨r,e'⟩ | ⟨es,cl,e'⟩ <;> rw [hD] at e' <;> cases e'
end Go.Am
namespace Go.Am
open Go
variable {P : Program} {T : Tab}
theorem K4 {α : Type} {xs : List α} {i : Nat} {x : α} (h : xs[i]? = some x) : i < xs.length:=(List.getElem?_eq_some_iff.1 h).1
theorem Yt {α : Type} {xs : List α} {i : Nat} (h : i < xs.length) : ∃ x,xs[i]? = some x:=⟨xs[i],List.getElem?_eq_getElem h⟩
theorem Kp {α : Type} {xs : Array α} {i : Nat} (h : i < xs.size) : ∃ x,xs[i]? = some x:=⟨xs[i],Array.getElem?_eq_getElem h⟩
theorem Yg {α : Type} {xs : Array α} {i : Nat} {x : α} (h : xs[i]? = some x) : i < xs.size:=(Array.getElem?_eq_some_iff.1 h).1
theorem Kh {α : Type} (k : Nat) (v : α) (r : List (Nat × α)) (t : Nat) : find ((k,v)::r) t = if k = t then some v else find r t:=by
  simp only [find]
  by_cases h : k = t
  · subst h;simp
  · have : Nat.beq k t = false:=by cases hb : Nat.beq k t with
      | false=>rfl
      | true=>exact absurd (Nat.eq_of_beq_eq_true hb) h
    rw [this];simp [h]
theorem Yl {α : Type} (l : List (Nat × α)) (k t : Nat) (x : α) : find (repl l k x) t = if k = t then (find l k).map (fun _=>x) else find l t:=by
  induction l with
  | nil=>simp [repl,find]
  | cons a r ih=>
    obtain ⟨m,v⟩:=a
    simp only [repl]
    by_cases hm : m = k
    · subst hm
      simp only [Nat.beq_refl,Kh]
      by_cases ht : m = t
      · simp [ht]
      · simp [ht]
    · have hb : Nat.beq m k = false:=by cases hb : Nat.beq m k with
        | false=>rfl
        | true=>exact absurd (Nat.eq_of_beq_eq_true hb) hm
      rw [hb]
      simp only [Kh,ih]
      by_cases ht : k = t
      · subst ht;simp [hm]
      · simp only [ht,if_false]
def upd (inj : Inj) (n : Nat) (p : Option (Nat × Nat)) : Inj:=fun m=>if m = n then p else inj m
theorem Kn (inj : Inj) (n : Nat) (p : Option (Nat × Nat)) : upd inj n p n = p:=by simp [upd]
theorem Ky (inj : Inj) {n m : Nat} (p : Option (Nat × Nat)) (h : m < n) : upd inj n p m = inj m:=by simp [upd];omega
section
variable {w w' : World} {Z : Nat→Prop} {inj : Inj} {st : AS} {a : Act} {Ds : List Nat}
theorem Sem.keepBig_of_same (h : w'.heap = w.heap) : Zb w w':=fun b c e f hb=>⟨c,e,f,by rw [h];exact hb,rfl⟩
theorem Ext.same {hp : List (Nat × Blk)} {pin : Nat} (h : w'.heap = w.heap) (ht : w'.tape = w.tape) (ho : w'.os = w.os) (hu : w'.output = w.output) : Ext w Z inj hp w' Z inj hp pin:=
  ⟨by rw [h];exact Nat.le_refl _,fun _ _ _=>by rw [h],fun _ h=>.inl h,Sem.keepBig_of_same h,fun b r hb=>⟨r,by rw [h];exact hb,rfl⟩,fun _ h=>h,fun _ h=>.inl h,fun _ _=>rfl,ht,ho,hu,fun a=>by simp only [World.frozen?,h]⟩
theorem RelH.same {hp : List (Nat × Blk)} {nx : Nat} (hr : RelH w Z inj hp nx) (h : w'.heap = w.heap) : RelH w' Z inj hp nx:=
  ⟨fun n b hb=>⟨(hr.blk n b hb).1,(hr.blk n b hb).2.mono (fun _ _=>by rw [h]) (fun _ h=>h) (Sem.keepBig_of_same h) (fun _ _=>rfl) (Nat.le_refl _) (hr.blk n b hb).1 (fun _ _ _=>by rw [h])⟩,hr.sep,hr.out,fun b hb=>by rw [h];exact hr.zs b hb,fun b hb=>by rw [h];exact hr.zc b hb⟩
theorem Zc (w : World) (o : Obj) {b : Nat} (h : b < w.heap.size) : (w.alloc o).heap[b]? = w.heap[b]?:=by
  show (w.heap.push o)[b]? = _
  rw [Array.getElem?_push,if_neg q6]
theorem J4 (w : World) (o : Obj) : (w.alloc o).heap[w.heap.size]? = some o:=by
  show (w.heap.push o)[w.heap.size]? = _
  rw [Array.getElem?_push,if_pos rfl]
theorem q1p (w : World) (o : Obj) : Zb w (w.alloc o):=fun _b c e f h=>⟨c,e,f,(Zc w o (Zk h)).trans h,rfl⟩
theorem qhx (w : World) (o : Obj) : q9v w (w.alloc o):=fun _b r h=>⟨r,(Zc w o (Zk h)).trans h,rfl⟩
theorem RelH.new {hp : List (Nat × Blk)} {nx : Nat} (hr : RelH w Z inj hp nx) (o : Obj) (blk : Blk) (off : Nat)
    (hb : RelB (w.alloc o) Z (upd inj nx (some (w.heap.size,off))) (nx + 1) nx blk) :
    RelH (w.alloc o) Z (upd inj nx (some (w.heap.size,off))) ((nx,blk)::hp) (nx + 1):=by
  refine ⟨?_,?_,?_,?_,fun b hz=>by rw [Zc w o (hr.zs b hz)];exact hr.zc b hz⟩
  · intro n b h
    rw [Kh] at h
    by_cases hn : nx = n
    · subst hn;simp at h;subst h;exact ⟨q6,hb⟩
    · simp only [hn,if_false] at h
      obtain ⟨h1,h2⟩:=hr.blk n b h
      refine ⟨q6,h2.mono (fun b hz=>Zc w o (hr.zs b hz)) (fun _ h=>h) (q1p w o) (fun m hm=>Ky _ _ hm) q6 h1 ?_⟩
      intro p hp hl
      exact Zc w o (by rcases h2.lt hl hp with ⟨_,_,e⟩ | ⟨_,e⟩ | ⟨_,_,e⟩ <;> exact Zk e)
  · intro n m b c p q hn hm hlb hlc hp hq hne
    rw [Kh] at hn hm
    by_cases h1 : nx = n
    · by_cases h2 : nx = m
      · omega
      · subst h1
        simp only [h2,if_false] at hm
        rw [Kn] at hp;cases hp
        have hmlt:=(hr.blk m c hm).1
        rw [Ky _ _ hmlt] at hq
        have:=hr.im_lt ⟨m,c,q.2,hm,hlc,hq⟩
        intro e;simp at e;omega
    · simp only [h1,if_false] at hn
      have hnlt:=(hr.blk n b hn).1
      rw [Ky _ _ hnlt] at hp
      by_cases h2 : nx = m
      · subst h2
        rw [Kn] at hq;cases hq
        have:=hr.im_lt ⟨n,b,p.2,hn,hlb,hp⟩
        intro e;simp at e;omega
      · simp only [h2,if_false] at hm
        have hmlt:=(hr.blk m c hm).1
        rw [Ky _ _ hmlt] at hq
        exact hr.sep n m b c p q hn hm hlb hlc hp hq hne
  · intro n b p h hl hp hz
    rw [Kh] at h
    by_cases hn : nx = n
    · subst hn
      rw [Kn] at hp;cases hp
      have:=hr.zs _ hz;simp at this
    · simp only [hn,if_false] at h
      rw [Ky _ _ (hr.blk n b h).1] at hp
      exact hr.out n b p h hl hp hz
  · intro b hz
    have:=hr.zs b hz;simp;omega
theorem Ext.new {hp : List (Nat × Blk)} {nx : Nat} (hr : RelH w Z inj hp nx) (o : Obj) (blk : Blk) (off : Nat) (ho : Unfr o:=by first | exact rfl | exact trivial) : Ext w Z inj hp (w.alloc o) Z (upd inj nx (some (w.heap.size,off))) ((nx,blk)::hp) nx:=by
  refine ⟨qd,fun b hb _=>Zc w o hb,?_,q1p w o,qhx w o,fun _ h=>h,fun _ h=>.inl h,fun n hn=>Ky _ _ hn,rfl,rfl,rfl,qha w ho⟩
  rintro b ⟨n,blk',off',h1,h2,h3⟩
  rw [Kh] at h1
  by_cases hn : nx = n
  · subst hn;rw [Kn] at h3;cases h3;exact .inr (Nat.le_refl _)
  · simp only [hn,if_false] at h1
    rw [Ky _ _ (hr.blk n blk' h1).1] at h3
    exact .inl ⟨n,blk',off',h1,h2,h3⟩
theorem q1q (w : World) (g : Nat) (old cs : Array Value) (t : TypeId) (fr : Nat × Nat) (hg : w.heap[g]? = some (.cells old t fr)) (hs : cs.size = old.size) : Zb w (w.setRow g cs):=by
  intro b c e f h
  by_cases hb : b = g
  · subst hb
    rw [hg] at h;cases h
    exact ⟨cs,_,_,setRow_heap w b _ cs _ _ hg,hs⟩
  · exact ⟨c,e,f,(setRow_other w g b cs hb).trans h,rfl⟩
theorem qhy (w : World) (g : Nat) (old cs : Array Value) (t : TypeId) (fr : Nat × Nat) (hg : w.heap[g]? = some (.cells old t fr)) : q9v w (w.setRow g cs):=by
  intro b r h
  by_cases hb : b = g
  · subst hb;rw [hg] at h;cases h
  · exact ⟨r,(setRow_other w g b cs hb).trans h,rfl⟩
theorem qhc (w : World) (g : Nat) (old cs : Array Value) (t : TypeId) (fr : Nat × Nat) (hg : w.heap[g]? = some (.cells old t fr)) (a : Addr) : (w.setRow g cs).frozen? a = w.frozen? a:=by
  by_cases h : a.block = g
  · have e1:=setRow_heap w g old cs t fr hg
    subst h
    simp only [World.frozen?,e1,hg]
  · have : (w.setRow g cs).heap[a.block]? = w.heap[a.block]?:=by
      simp only [World.setRow,Array.getElem?_modify]
      rw [if_neg (fun e=>h e.symm)]
    simp only [World.frozen?,this]
theorem RelH.set {hp : List (Nat × Blk)} {nx n : Nat} (hr : RelH w Z inj hp nx) {b0 blk : Blk} (hn : find hp n = some b0) (hl0 : live b0 = true) {g off : Nat} (hi : inj n = some (g,off)) {old cs : Array Value} {t : TypeId} {fr : Nat × Nat}
    (hg : w.heap[g]? = some (.cells old t fr)) (hs : cs.size = old.size) (hb : RelB (w.setRow g cs) Z inj nx n blk) :
    RelH (w.setRow g cs) Z inj (repl hp n blk) nx:=by
  have hzg : ∀ b,Z b→b≠g:=fun b hz e=>hr.out n b0 _ hn hl0 hi (by rw [← e];exact hz)
  refine ⟨?_,?_,?_,fun b hz=>by simpa using hr.zs b hz,fun b hz=>by rw [setRow_other w g b cs (hzg b hz)];exact hr.zc b hz⟩
  · intro m b h
    rw [Yl] at h
    by_cases hm : n = m
    · subst hm;simp [hn] at h;subst h;exact ⟨(hr.blk n b0 hn).1,hb⟩
    · simp only [hm,if_false] at h
      obtain ⟨h1,h2⟩:=hr.blk m b h
      refine ⟨h1,h2.mono (fun b hz=>setRow_other w g b cs (hzg b hz)) (fun _ h=>h) (q1q w g old cs t fr hg hs) (fun _ _=>rfl) (Nat.le_refl _) h1 ?_⟩
      intro p hp hl
      exact setRow_other w g p.1 cs (fun e=>hr.sep n m b0 b _ _ hn h hl0 hl hi hp hm e.symm)
  · intro m k b c p q h1 h2 hlb hlc hpp hqq hne
    rw [Yl] at h1 h2
    have key : ∀ m b,(if n = m then (find hp n).map (fun _=>blk) else find hp m) = some b→live b = true→∃ b',find hp m = some b'∧(live b' = true∨n = m):=by
      intro m b h hl
      by_cases hm : n = m
      · subst hm;exact ⟨b0,hn,.inr rfl⟩
      · simp only [hm,if_false] at h;exact ⟨b,h,.inl hl⟩
    obtain ⟨b',hb',hl1⟩:=key m b h1 hlb
    obtain ⟨c',hc',hl2⟩:=key k c h2 hlc
    have l1 : live b' = true:=by rcases hl1 with h | h;exact h;subst h;rw [hn] at hb';cases hb';exact hl0
    have l2 : live c' = true:=by rcases hl2 with h | h;exact h;subst h;rw [hn] at hc';cases hc';exact hl0
    exact hr.sep m k b' c' p q hb' hc' l1 l2 hpp hqq hne
  · intro m b p h hl hp hz
    rw [Yl] at h
    by_cases hm : n = m
    · subst hm;rw [hi] at hp;cases hp;exact hr.out n b0 _ hn hl0 hi hz
    · simp only [hm,if_false] at h;exact hr.out m b p h hl hp hz
theorem Ext.set {hp : List (Nat × Blk)} {nx n pin : Nat} (_hr : RelH w Z inj hp nx) {b0 blk : Blk} (hn : find hp n = some b0) (hl0 : live b0 = true) {g off : Nat} (hi : inj n = some (g,off)) {old cs : Array Value} {t : TypeId} {fr : Nat × Nat}
    (hg : w.heap[g]? = some (.cells old t fr)) (hs : cs.size = old.size) : Ext w Z inj hp (w.setRow g cs) Z inj (repl hp n blk) pin:=by
  refine ⟨qd,?_,?_,q1q w g old cs t fr hg hs,qhy w g old cs t fr hg,fun _ h=>h,fun _ h=>.inl h,fun _ _=>rfl,rfl,rfl,rfl,qhc w g old cs t fr hg⟩
  · intro b _ hb
    exact setRow_other w g b cs (fun e=>hb (by rw [e];exact ⟨n,b0,off,hn,hl0,hi⟩))
  · rintro b ⟨m,blk',off',h1,h2,h3⟩
    rw [Yl] at h1
    by_cases hm : n = m
    · subst hm;exact .inl ⟨n,b0,off',hn,hl0,h3⟩
    · simp only [hm,if_false] at h1;exact .inl ⟨m,blk',off',h1,h2,h3⟩
theorem RelH.drop {hp : List (Nat × Blk)} {nx n : Nat} (hr : RelH w Z inj hp nx) : RelH w Z inj (repl hp n .dead) nx:=by
  have key : ∀ m b,find (repl hp n .dead) m = some b→live b = true→find hp m = some b:=by
    intro m b h hl
    rw [Yl] at h
    by_cases hm : n = m
    · subst hm
      cases hf : find hp n with
      | none=>simp [hf] at h
      | some x=>simp [hf] at h;subst h;simp [live] at hl
    · simp only [hm,if_false] at h;exact h
  refine ⟨?_,?_,?_,hr.zs,hr.zc⟩
  · intro m b h
    by_cases hl : live b = true
    · exact hr.blk m b (key m b h hl)
    · have : b = .dead:=by cases b <;> simp_all [live]
      subst this
      refine ⟨?_,trivial⟩
      rw [Yl] at h
      by_cases hm : n = m
      · subst hm
        cases hf : find hp n with
        | none=>simp [hf] at h
        | some x=>exact (hr.blk n x hf).1
      · simp only [hm,if_false] at h;exact (hr.blk m _ h).1
  · intro m k b c p q h1 h2 hlb hlc hp hq hne
    exact hr.sep m k b c p q (key m b h1 hlb) (key k c h2 hlc) hlb hlc hp hq hne
  · intro m b p h hl hp
    exact hr.out m b p (key m b h hl) hl hp
theorem Ext.drop {hp : List (Nat × Blk)} {n pin : Nat} : Ext w Z inj hp w Z inj (repl hp n .dead) pin:=by
  refine ⟨Nat.le_refl _,fun _ _ _=>rfl,?_,fun _ c e f h=>⟨c,e,f,h,rfl⟩,fun _ r h=>⟨r,h,rfl⟩,fun _ h=>h,fun _ h=>.inl h,fun _ _=>rfl,rfl,rfl,rfl,fun _=>rfl⟩
  rintro b ⟨m,blk',off',h1,h2,h3⟩
  rw [Yl] at h1
  by_cases hm : n = m
  · subst hm
    cases hf : find hp n with
    | none=>simp [hf] at h1
    | some x=>simp [hf] at h1;subst h1;simp [live] at h2
  · simp only [hm,if_false] at h1;exact .inl ⟨m,blk',off',h1,h2,h3⟩
end
end Go.Am
