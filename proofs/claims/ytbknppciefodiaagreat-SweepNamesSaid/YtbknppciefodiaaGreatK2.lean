/- Am6 Am7 Am8 Am9 Am10 Am11 Am12 -/
import Derived.Test.YtbknppciefodiaaGreatK1
import Derived.Laws.MakeOwn
namespace Go.Am
open Go
variable {P : Program} {T : Tab}
theorem q7r {α β : Type} {f : α→Option β} : ∀ {l : List α} {r : List β},l.mapM f = some r→r.length = l.length∧∀ (i : Nat) (x : α),l[i]? = some x→∃ y,r[i]? = some y∧f x = some y
  | [],r,h=>by simp at h;subst h;simp
  | a::l,r,h=>by
    rw [List.mapM_cons] at h
    cases c : f a with
    | none=>simp [c] at h
    | some b=>
      cases g : l.mapM f with
      | none=>simp [c,g] at h
      | some s=>
        simp [c,g] at h
        subst h
        obtain ⟨k,j⟩:=q7r g
        refine ⟨by simp [k],?_⟩
        intro i x d
        cases i with
        | zero=>simp at d;subst d;exact ⟨b,qe,c⟩
        | succ i=>simp at d;obtain ⟨y,m⟩:=j i x d;exact ⟨y,by simpa using m⟩
theorem Yj {α β : Type} {l : List α} {r : List β} (a : r.length = l.length) {i : Nat} {y : β} (h : r[i]? = some y) : ∃ x,l[i]? = some x:=
  Zp (by have:=Ke h;omega)
def Ze (P : Program) (_t : TypeId) (i : TI) (d : TypeDesc) : Prop:=match i.kind with
  | .bool=>d = .bool∧i.size = 1
  | .int k=>d = .int k∧i.size = 1
  | .str=>d = .string∧i.size = 1
  | .ptr=>(∃ e,d = .pointer e)∧i.size = 1
  | .func=>(∃ a b c,d = .func a b c)∧i.size = 1
  | .slice=>∃ e ie de ze,d = .slice e∧P.info? e = some ie∧P.underlying e = some de∧ie.zero = some ze∧ze.cells.toList.mapM Zo = some i.ezero∧i.ezero.length = i.esize∧ie.size = i.esize∧i.esize≠0∧
      ie.bytes = i.ebytes∧i.ebytes≠0∧Kc de = i.eagg∧i.size = 1
  | .array=>∃ e ie de,d = .array i.len e∧P.info? e = some ie∧P.underlying e = some de∧ie.size = i.esize∧i.esize≠0∧Kc de = i.eagg
  | .map=>∃ kt e ie ze zd ks dk,d = .map kt e∧P.info? e = some ie∧ie.zero = some ze∧Zo ze = some zd∧Ki P 8 kt = some ks∧P.underlying kt = some dk∧i.keys = some ks∧i.ezero = [zd]∧i.eagg = Kc dk∧i.size = 1
  | .struct=>∃ fs,d = .struct fs∧(fs.toList.mapM fun f=>do
      let jf ← P.info? f.type
      let df ← P.underlying f.type
      if jf.size = 0 then none else some (f.offset,jf.size,Kc df)) = some i.flds
structure TiOk (P : Program) (t : TypeId) (i : TI) (info : TypeInfo) (d : TypeDesc) (z : Value) : Prop where
  inf : P.info? t = some info
  und : P.underlying t = some d
  zero : info.zero = some z
  size : info.size = i.size
  pos : i.size≠0
  cells : z.cells.toList.mapM Zo = some i.zero
  len : i.zero.length = i.size
  agg : i.agg = Kc d
  kind : Ze P t i d
  eqs : ∀ ks,i.eqs = some ks→Ki P 8 t = some ks∧Kc d = true
  keys : ∀ ks,i.keys = some ks→i.kind = .map
theorem Yn {t : TypeId} {i : TI} (h : tiOf P t = some i) : ∃ g d z,TiOk P t i g d z:=by
  unfold tiOf at h
  cases l : P.info? t with
  | none=>simp [l] at h
  | some g=>
  cases m : P.underlying t with
  | none=>simp [l,m] at h
  | some d=>
  cases o : g.zero with
  | none=>simp [l,m,o] at h
  | some z=>
  cases q : z.cells.toList.mapM Zo with
  | none=>simp [l,m,o,q] at h
  | some zc=>
  simp only [l,m,o,q,Option.bind_eq_bind,qn] at h;by_cases h5 : zc.length≠g.size∨g.size = 0
  · grind
  · rw [ql h5] at h;have u : zc.length = g.size:=by omega
    have s : g.size≠0:=by omega
    refine ⟨g,d,z,?_⟩;cases d <;> simp only [reduceCtorEq] at h
    case bool=>split at h <;> simp at h;subst h;rename_i hs;exact ⟨l,m,o,rfl,s,q,u,rfl,⟨rfl,hs⟩,qe,qe⟩
    case int k=>split at h <;> simp at h;subst h;rename_i hs;exact ⟨l,m,o,rfl,s,q,u,rfl,⟨rfl,hs⟩,qe,qe⟩
    case string=>split at h <;> simp at h;subst h;rename_i hs;exact ⟨l,m,o,rfl,s,q,u,rfl,⟨rfl,hs⟩,qe,qe⟩
    case pointer e=>split at h <;> simp at h;subst h;rename_i hs;exact ⟨l,m,o,rfl,s,q,u,rfl,⟨⟨_,rfl⟩,hs⟩,qe,qe⟩
    case func a b c=>split at h <;> simp at h;subst h;rename_i hs;exact ⟨l,m,o,rfl,s,q,u,rfl,⟨⟨_,_,_,rfl⟩,hs⟩,qe,qe⟩
    case slice e=>
      cases j : P.info? e with
      | none=>simp [j] at h
      | some ie=>
      cases r : P.underlying e with
      | none=>simp [j,r] at h
      | some de=>
      cases p : ie.zero with
      | none=>simp [j,r,p] at h
      | some ze=>
      cases v : ze.cells.toList.mapM Zo with
      | none=>simp [j,r,p,v] at h
      | some ezc=>
      simp only [j,r,p,v,qn] at h;split at h
      · simp at h
      · rename_i hs;simp at h;subst h;exact ⟨l,m,o,rfl,s,q,u,rfl,⟨e,ie,de,ze,rfl,j,r,p,v,by show ezc.length = ie.size;omega,rfl,by show ie.size≠0;omega,rfl,by show ie.bytes≠0;omega,rfl,by show g.size = 1;omega⟩,by simp,by simp⟩
    case map kt e=>
      cases j : P.info? e with
      | none=>simp [j] at h
      | some ie=>
      cases p : ie.zero with
      | none=>simp [j,p] at h
      | some ze=>
      cases v : Zo ze with
      | none=>simp [j,p,v] at h
      | some zd=>
      cases w : Ki P 8 kt with
      | none=>simp [j,p,w] at h
      | some ks=>
      cases y : P.underlying kt with
      | none=>simp [j,p,w,y] at h
      | some dk=>
      simp only [j,p,v,w,y,qn] at h;split at h
      · rename_i hs;simp at h;subst h;exact ⟨l,m,o,rfl,s,q,u,rfl,⟨kt,e,ie,ze,zd,ks,dk,rfl,j,p,v,w,y,rfl,rfl,rfl,hs⟩,qe,fun _ _=>rfl⟩
      · simp at h
    case array n e=>
      cases j : P.info? e with
      | none=>simp [j] at h
      | some ie=>
      cases r : P.underlying e with
      | none=>simp [j,r] at h
      | some de=>
      simp only [j,r,qn] at h;split at h
      · simp at h
      · rename_i hs;simp at h;subst h;exact ⟨l,m,o,rfl,s,q,u,rfl,⟨e,ie,de,rfl,j,r,rfl,hs,rfl⟩,fun ks h=>⟨h,rfl⟩,qe⟩
    case struct fs=>
      cases j : (fs.toList.mapM fun f=>do
          let jf ← P.info? f.type
          let df ← P.underlying f.type
          if jf.size = 0 then none else some (f.offset,jf.size,Kc df)) with
      | none=>simp only [Option.bind_eq_bind] at j;simp only [j,Option.bind_none] at h;simp at h
      | some fl=>
        have x:=j;simp only [Option.bind_eq_bind] at j;simp only [j,qn] at h;simp at h;subst h;exact ⟨l,m,o,rfl,s,q,u,rfl,⟨fs,rfl,x⟩,fun ks h=>⟨h,rfl⟩,qe⟩
section
variable {w : World} {Z : Nat→Prop} {inj : Inj} {nx : Nat}
theorem qd4 {v : Value} {d : DV} (h : Zo v = some d) : RelD w Z d v∧Yd d = true∧v.oneCell' = true:=by
  unfold Zo at h;split at h <;> simp at h <;> subst h
  · exact ⟨.int _ _,rfl,rfl⟩
  · exact ⟨.bool _,rfl,rfl⟩
  · exact ⟨.str _,rfl,rfl⟩
  · exact ⟨.nilp,rfl,rfl⟩
  · exact ⟨.nilsl,rfl,rfl⟩
  · exact ⟨.nilf,rfl,rfl⟩
  · exact ⟨.nilm,rfl,rfl⟩
theorem q7b {cs : Array Value} {ds : List DV} (h : cs.toList.mapM Zo = some ds) : ds.length = cs.size∧∀ (i : Nat) (d : DV),ds[i]? = some d→∃ c,cs[i]? = some c∧RelD w Z d c∧Yd d = true∧c.oneCell' = true:=by
  obtain ⟨b,g⟩:=q7r h;refine ⟨by simpa using b,fun i d hd=>?_⟩;obtain ⟨c,a⟩:=Yj b hd;obtain ⟨y,f,j⟩:=g i c a;rw [hd] at f;cases f;exact ⟨c,by simpa using a,qd4 j⟩
theorem qoq {v : Value} {d : DV} (h : qac v = some d) : RelD w Z d v:=by
  unfold qac at h;split at h
  · rename_i cs
    cases a : cs.toList.mapM Zo with
    | none=>simp [a] at h
    | some ds=>
      simp [a] at h;subst h;obtain ⟨b,f⟩:=q7b (w:=w) (Z:=Z) a;refine .agg b fun i d c hd g=>?_;grind
  · exact (qd4 h).1
theorem Kb {st : AS} {a : Act} {Ds : List Nat} (h : RelS w Z inj st a Ds) {o : Operand} {v : V} (b : st.ev o = some v) : RelV w Z inj st.nx v (a.eval o):=by
  cases o with
  | tmp t=>
    obtain ⟨x,l,k⟩:=h.slots t v b;simp only [Act.eval,Array.getD_eq_getD_getElem?,l,Option.getD_some];exact k
  | const c=>
    simp only [AS.ev] at b
    cases j : qac c with
    | none=>simp [j] at b
    | some d=>simp [j] at b;subst b;exact .d (qoq j)
  | func f=>
    simp only [AS.ev] at b;cases b;exact .d (.fn qe qe)
  | global g=>simp [AS.ev] at b
theorem q4c {a : List V} {ds : List DV} (h : allD a = some ds) : a = ds.map .d:=by
  induction a generalizing ds with
  | nil=>simp [allD] at h;subst h;rfl
  | cons v r ih=>
    cases v <;> simp only [allD,reduceCtorEq] at h
    grind
theorem qce (ds : List DV) : allD (ds.map .d) = some ds:=by
  induction ds with
  | nil=>rfl
  | cons d r ih=>simp [allD,ih]
theorem qek {d : V} {c : Value} (h : RelV w Z inj nx d c) (a : Km d = true) : c.oneCell' = true:=by
  cases h with
  | d h=>cases h <;> simp_all [Km,Yd,Value.oneCell']
  | _=>simp_all [Km,Value.oneCell']
theorem qnv {c : Value} (h : c.oneCell' = true) : c.cells = #[c]:=by cases c <;> simp_all [Value.oneCell',Value.cells]
theorem qaa {v : V} {x : Value} (h : RelV w Z inj nx v x) (f : (cellsOf v).all Km = true) :
    (cellsOf v).length = x.cells.size∧(∀ (i : Nat) (d : V) (c : Value),(cellsOf v)[i]? = some d→x.cells[i]? = some c→RelV w Z inj nx d c)∧∀ c∈x.cells.toList,c.oneCell' = true:=by
  have fin : ∀ (l : List V) (cs : Array Value),l.length = cs.size→(∀ (i : Nat) (d : V) (c : Value),l[i]? = some d→cs[i]? = some c→RelV w Z inj nx d c)→l.all Km = true→∀ c∈cs.toList,c.oneCell' = true:=by
    intro l cs k g j c q;obtain ⟨i,hi,rfl⟩:=List.mem_iff_getElem.1 q;simp at hi;have n : l[i]? = some l[i]:=List.getElem?_eq_getElem q0;have m : cs[i]? = some cs[i]:=Array.getElem?_eq_getElem hi;have:=qek (g i _ _ n m) (List.all_eq_true.1 j _ (Y6 _));grind
  have one : ∀ {v : V} {x : Value},RelV w Z inj nx v x→cellsOf v = [v]→(cellsOf v).all Km = true→(cellsOf v).length = x.cells.size∧(∀ (i : Nat) (d : V) (c : Value),(cellsOf v)[i]? = some d→x.cells[i]? = some c→RelV w Z inj nx d c)∧∀ c∈x.cells.toList,c.oneCell' = true:=by
    intro v x h r j;rw [r] at j ⊢;have n : Km v = true:=by simpa using j
    have m:=qek h n;rw [qnv m];grind
  cases h with
  | agg k g=>exact ⟨k,g,fin _ _ k g f⟩
  | d h=>
    cases h with
    | agg k g=>
      have n : (cellsOf (V.d (.agg ‹List DV›))).length = (Value.agg ‹Array Value›).cells.size:=by simpa [cellsOf,Value.cells] using k
      have m : ∀ (i : Nat) (d : V) (c : Value),(cellsOf (V.d (.agg ‹List DV›)))[i]? = some d→(Value.agg ‹Array Value›).cells[i]? = some c→RelV w Z inj nx d c:=by
        intro i d c hd f;simp only [cellsOf,List.getElem?_map,Y4] at hd;obtain ⟨p,o,rfl⟩:=hd;exact .d (g i p c o f)
      grind
    | int=>exact one (.d (.int _ _)) rfl f
    | bool=>exact one (.d (.bool _)) rfl f
    | str=>exact one (.d (.str _)) rfl f
    | tup k g=>exact one (.d (.tup k g)) rfl f
    | fn k g=>exact one (.d (.fn k g)) rfl f
    | nilsl=>exact one (.d .nilsl) rfl f
    | slnil=>exact one (.d (.slnil _)) rfl f
    | slemp=>exact one (.d (.slemp _ _)) rfl f
    | sl a b c d e=>exact one (.d (.sl a b c d e)) rfl f
    | nilp=>exact one (.d .nilp) rfl f
    | nilf=>exact one (.d .nilf) rfl f
    | nilm=>exact one (.d .nilm) rfl f
    | box a b c=>exact one (.d (.box a b c)) rfl f
  | tup k g=>exact one (.tup k g) rfl f
  | fn k g=>exact one (.fn k g) rfl f
  | ref a b=>exact one (.ref a b) rfl f
  | dref a b c=>exact one (.dref a b c) rfl f
  | hsnil a=>exact one (.hsnil a) rfl f
  | hs a b c d=>exact one (.hs a b c d) rfl f
  | yld a b=>exact one (.yld a b) rfl f
  | mp a b=>exact one (.mp a b) rfl f
  | dead v=>simp [cellsOf,Km] at f
theorem qec {cs : List V} {xs : Array Value} (a : cs.length = xs.size) (h : ∀ (i : Nat) (d : V) (c : Value),cs[i]? = some d→xs[i]? = some c→RelV w Z inj nx d c) : RelV w Z inj nx (q4u cs) (.agg xs):=by
  unfold q4u;split
  · rename_i ds hd;have:=q4c hd;subst this;refine .d (.agg (by simpa using a) fun i d c f b=>?_);have:=h i (.d d) c (by simp [f]) b
    cases this with | d h=>exact h
  · exact .agg a h
def qmx (w : World) (Z : Nat→Prop) (inj : Inj) (nx : Nat) (v : V) : Bool→List Value→Prop
  | true,xs=>RelV w Z inj nx v (.agg xs.toArray)
  | false,[x]=>RelV w Z inj nx v x
  | false,_=>False
theorem qjv {ag : Bool} {cs : List V} {v : V} {xs : List Value} (hp : pack ag cs = some v) (a : cs.length = xs.length) (h : ∀ (i : Nat) (d : V) (c : Value),cs[i]? = some d→xs[i]? = some c→RelV w Z inj nx d c) :
    qmx w Z inj nx v ag xs:=by
  cases ag with
  | true=>
    simp only [pack,Option.some.injEq] at hp;subst hp;exact qec (by simpa using a) (fun i d c f b=>h i d c f (by simpa using b))
  | false=>
    match cs,xs,hp,a with
    | [c],[x],hp,_=>simp only [pack,Option.some.injEq] at hp;subst hp;exact h 0 _ _ rfl rfl
    | [c],[],_,a=>simp at a
    | [c],_::_::_,_,a=>simp at a
theorem qen (ag : Bool) (cs : List DV) : (q1n ag cs).map V.d = pack ag (cs.map .d):=by
  cases ag with
  | true=>simp [q1n,pack,q4u,qce]
  | false=>match cs with
    | []=>rfl
    | [c]=>rfl
    | _::_::_=>rfl
theorem qlx {α : Type} {cs r : List α} {j s : Nat} (h : sub cs j s = some r) : j + s≤cs.length∧r = (cs.drop j).take s:=by
  unfold sub at h;split at h <;> simp at h;exact ⟨‹_›,h.symm⟩
theorem q9k {α : Type} {cs r : List α} {j s : Nat} (h : sub cs j s = some r) : r.length = s∧∀ (i : Nat) (x : α),r[i]? = some x→cs[j + i]? = some x∧i < s:=by
  obtain ⟨a,rfl⟩:=qlx h;grind
theorem Jo (b o j : Nat) : (⟨b,o,none⟩ : Addr).add j = ⟨b,o + j,none⟩:=by
  unfold Addr.add;split <;> simp_all
theorem qqq {t : TypeId} {i : TI} {l : TypeInfo} {d : TypeDesc} {z : Value} (m : TiOk P t i l d z) {b o : Nat} {r : List V} {v : V} (hp : pack i.agg r = some v) (hr : r.length = i.size)
    (hc : ∀ (k : Nat) (x : V),r[k]? = some x→∃ c,w.cell? ⟨b,o + k,none⟩ = some c∧RelV w Z inj nx x c) :
    ∃ x,(Instr.loadAt t (.pointer (some ⟨b,o,none⟩))).run P w = .ok x w∧RelV w Z inj nx v x:=by
  have n : ∃ cs : List Value,cs.length = i.size∧∀ (k : Nat) (c : Value),cs[k]? = some c→w.cell? ⟨b,o + k,none⟩ = some c:=by
    refine ⟨(List.range i.size).map fun k=>(w.cell? ⟨b,o + k,none⟩).getD undef,qe,?_⟩;intro k c q;have s : k < i.size:=by have:=Ke q;simpa using this
    obtain ⟨x,hx⟩:=Zp (xs:=r) (i:=k) q0;grind
  obtain ⟨cs,p,a⟩:=n;have g : ∀ (i : Nat) (d : V) (c : Value),r[i]? = some d→cs[i]? = some c→RelV w Z inj nx d c:=by grind
  have f:=qjv hp (by omega : r.length = cs.length) g
  have h : (isAgg t).run P w = .ok i.agg w:=by
    rw [m.agg];simp only [isAgg,Sem.run_bind,run_underlying m.und,Result.andThen_ok];cases d <;> rfl
  cases hb : i.agg with
  | true=>
    rw [hb] at f;refine ⟨.agg cs.toArray,?_,f⟩;have y:=run_loadCells_list (P:=P) w ⟨b,o,none⟩ cs (fun j v u=>by rw [Jo];exact a j v u);simp [Instr.loadAt,Instr.sureAddr,loadVar,h,hb,sizeOf,typeInfo,m.inf,m.size,← p,y]
  | false=>
    rw [hb] at f
    match cs,p,a,f with
    | [x],_,a,f=>
      refine ⟨x,?_,f⟩;have:=a 0 x rfl;simp only [Nat.add_zero] at this;simp [Instr.loadAt,Instr.sureAddr,loadVar,h,hb,this]
end
end Go.Am
namespace Go.Am
open Go
variable {P : Program} {T : Tab}
def Kk (st st1 : AS) (v : V) (w : World) (Z : Nat→Prop) (inj : Inj) (r : Result Next) : Prop:=
  ∃ x w' inj',(r = .ok (.value x) w'∨(r = .ok .skip w'∧x = undef))∧RelV w' Z inj' st1.nx v x∧RelH w' Z inj' st1.hp st1.nx∧Ext w Z inj st.hp w' Z inj' st1.hp st.nx∧st1.sl = st.sl∧st.nx≤st1.nx
section
variable {w : World} {Z : Nat→Prop} {inj : Inj} {st : AS} {a : Act} {Ds : List Nat}
theorem Kk.quiet {v : V} {x : Value} {r : Result Next} (h : RelS w Z inj st a Ds) (b : r = .ok (.value x) w) (c : RelV w Z inj st.nx v x) : Kk st st v w Z inj r:=
  ⟨x,w,inj,.inl b,c,h.heap,.refl,rfl,Nat.le_refl _⟩
theorem Kj {s : Sem Value} {x : Value} {w' : World} (h : s.run P w = .ok x w') : (do pure (Next.value (← s)) : Sem Next).run P w = .ok (.value x) w':=by
  simp [h]
theorem Kk.new {v : V} {x : Value} {r : Result Next} {o : Obj} {blk : Blk} (h : RelS w Z inj st a Ds) (c : r = .ok (.value x) (w.alloc o))
    (hb : RelB (w.alloc o) Z (upd inj st.nx (some (w.heap.size,0))) (st.nx + 1) st.nx blk)
    (d : RelV (w.alloc o) Z (upd inj st.nx (some (w.heap.size,0))) (st.nx + 1) v x) (b : Unfr o:=by first | exact rfl | exact trivial) : Kk st (st.new blk) v w Z inj r:=
  ⟨x,_,_,.inl c,d,h.heap.new o blk 0 hb,Ext.new h.heap o blk 0 b,rfl,by simp [AS.new]⟩
theorem qkl {v : V} {x : Value} (h : RelS w Z inj st a Ds) (o : Obj) (c : RelV w Z inj st.nx v x) : RelV (w.alloc o) Z (upd inj st.nx (some (w.heap.size,0))) (st.nx + 1) v x:=
  c.mono (fun _ d=>Zv w o (h.heap.zs _ d)) (fun _ h=>h) (q2m w o) (fun _ b=>Yb _ _ b) q0
theorem qkh {w : World} {nx n es : Nat} {xs : List (List V)} {arr : Array Value} {ty : TypeId} {b : Nat} (t : es≠0) (hi : inj n = some (b,0)) (hb : w.heap[b]? = some (.cells arr ty (0,0)))
    (q : ∀ (i : Nat) (x : List V),xs[i]? = some x→x.length = es)
    (h : ∀ (i : Nat) (x : List V) (j : Nat) (d : V),xs[i]? = some x→x[j]? = some d→Km d = true∧∃ c,arr[i * es + j]? = some c∧RelV w Z inj nx d c) : RelB w Z inj nx n (q4v es xs):=by
  unfold q4v;split
  · rename_i ys v;obtain ⟨s,r⟩:=q7r v;refine ⟨t,?_,.inr ⟨b,0,arr,ty,hi,hb,?_⟩⟩
    · intro i y f;obtain ⟨x,g⟩:=Yj s f;obtain ⟨u,a,hd⟩:=r i x g;rw [f] at a;cases a;have:=q i x g;rw [q4c hd] at this;simpa using this
    · intro i y j d f p;obtain ⟨x,g⟩:=Yj s f;obtain ⟨u,a,hd⟩:=r i x g;rw [f] at a;cases a;have m:=q4c hd;obtain ⟨o,c,k,l⟩:=h i x j (.d d) g (by rw [m];simp [p]);refine ⟨o,c,by simpa using k,?_⟩
      cases l with | d h=>exact h
  · refine ⟨t,q,.inr ⟨b,0,arr,ty,hi,hb,?_⟩⟩;intro i x j d g hd;obtain ⟨o,c,k,l⟩:=h i x j d g hd;exact ⟨o,c,by simpa using k,l⟩
theorem qjr {o : Operand} {v : V} (h : RelS w Z inj st a Ds) (c : st.ev o = some v) {r : Result Next} (b : r = .ok (.value (a.eval o)) w) : Kk st st v w Z inj r:=
  .quiet h b (Kb h c)
theorem qs0 {t : TypeId} {i : TI} (h : RelS w Z inj st a Ds) (q : tiOf P t = some i) :
    Kk st (st.new (.dat i.size [i.zero])) (.ref st.nx i.size 0 0) w Z inj ((do pure (Next.value (← Instr.alloc t true (.tuple #[]))) : Sem Next).run P w):=by
  obtain ⟨m,d,z,k⟩:=Yn q
  have g : (Instr.alloc t true (.tuple #[])).run P w = .ok (.pointer (some ⟨w.heap.size,0,none⟩)) (w.alloc (.cells z.cells t)):=by
    simp [Instr.alloc,zeroValue,typeInfo,k.inf,k.zero,newVar,newRow]
  obtain ⟨s,o⟩:=q7b (w:=w.alloc (.cells z.cells t)) (Z:=Z) k.cells;refine .new h (Kj g) ?_ ?_
  · refine ⟨k.pos,?_,.inr ⟨w.heap.size,0,z.cells,t,Ky _ _ _,Jp _ _,?_⟩⟩
    · intro l x f
      cases l with
      | zero=>simp at f;subst f;exact k.len
      | succ n=>simp at f
    · intro l x j d f hd
      cases l with
      | zero=>
        simp at f;subst f;obtain ⟨c,r,p,b,_⟩:=o j d hd;exact ⟨b,c,by simpa using r,p⟩
      | succ n=>simp at f
  · have:=RelV.ref (w:=w.alloc (.cells z.cells t)) (Z:=Z) (inj:=upd inj st.nx (some (w.heap.size,0))) (nx:=st.nx + 1) (n:=st.nx) (es:=i.size) (i:=0) (j:=0) q0 (Ky _ _ _);simpa using this
theorem qs4 {t : TypeId} {i : TI} {o : Operand} {v : V} (h : RelS w Z inj st a Ds) (y : tiOf P t = some i) (hv : st.ev o = some v) (s : (cellsOf v).length = i.size) (r : (cellsOf v).all Km = true) :
    Kk st (st.new (q4v i.size [cellsOf v])) (.ref st.nx i.size 0 0) w Z inj ((do pure (Next.value (← Instr.box t (a.eval o))) : Sem Next).run P w):=by
  obtain ⟨q,d,z,k⟩:=Yn y;have f:=Kb h hv
  have l : (Instr.box t (a.eval o)).run P w = .ok (.pointer (some ⟨w.heap.size,0,none⟩)) (w.alloc (.cells (a.eval o).cells t)):=by
    simp [Instr.box,newVar,newRow]
  have p:=qkl h (.cells (a.eval o).cells t) f;obtain ⟨h1,u,_⟩:=qaa p r;refine .new h (Kj l) ?_ ?_
  · refine qkh (b:=w.heap.size) (arr:=(a.eval o).cells) (ty:=t) k.pos (Ky _ _ _) (Jp _ _) ?_ ?_
    · intro m x f
      cases m with
      | zero=>simp at f;subst f;exact s
      | succ n=>simp at f
    · intro m x j d f hd
      cases m with
      | zero=>
        simp at f;subst f;obtain ⟨c,g⟩:=Ya (xs:=(a.eval o).cells) (i:=j) (by have:=Ke hd;omega);exact ⟨List.all_eq_true.1 r _ (List.mem_of_getElem? hd),c,by simpa using g,u j d c hd g⟩
      | succ n=>simp at f
  · have:=RelV.ref (w:=w.alloc (.cells (a.eval o).cells t)) (Z:=Z) (inj:=upd inj st.nx (some (w.heap.size,0))) (nx:=st.nx + 1) (n:=st.nx) (es:=i.size) (i:=0) (j:=0) q0 (Ky _ _ _);simpa using this
theorem q1y {α : Type} (cs ys : List α) (o : Nat) (h : o + ys.length≤cs.length) : (splice cs o ys).length = cs.length:=by simp [splice];omega
theorem U1 {α : Type} (cs ys : List α) (o j : Nat) (h : o + ys.length≤cs.length) : (splice cs o ys)[j]? = if o≤j∧j < o + ys.length then ys[j - o]? else cs[j]?:=by
  have e : (cs.take o).length = o:=by simp;omega
  by_cases a : j < o
  · rw [ql q0,splice,List.append_assoc,List.getElem?_append_left q0,List.getElem?_take,qm a]
  · by_cases b : j < o + ys.length
    · rw [qm q0,splice,List.append_assoc,List.getElem?_append_right q0,e,List.getElem?_append_left q0]
    · rw [ql q0,splice,List.getElem?_append_right (by simp;omega),List.getElem?_drop];congr 1;rw [List.length_append,e];omega
theorem qhs (off : Nat) : ∀ (l : List Value) (s : Nat) (cs : Array Value),off + s + l.length≤cs.size→
    ((l.zipIdx s).foldl (fun (cs : Array Value) (x : Value × Nat)=>cs.setIfInBounds (off + x.2) x.1) cs).size = cs.size∧
    ∀ j : Nat,((l.zipIdx s).foldl (fun (cs : Array Value) (x : Value × Nat)=>cs.setIfInBounds (off + x.2) x.1) cs)[j]? = if off + s≤j∧j < off + s + l.length then l[j - (off + s)]? else cs[j]?
  | [],s,cs,_=>by
    refine ⟨rfl,fun j=>?_⟩
    have : ¬ (off + s≤j∧j < off + s + ([] : List Value).length):=by simp
    rw [ql this];rfl
  | v::r,s,cs,h=>by
    obtain ⟨f,d⟩:=qhs off r (s + 1) (cs.setIfInBounds (off + s) v) (by simp at h ⊢;omega)
    simp only [List.zipIdx_cons,List.foldl_cons]
    refine ⟨by rw [f];simp,fun j=>?_⟩
    rw [d j]
    simp only [List.length_cons] at h ⊢
    by_cases b : off + (s + 1)≤j∧j < off + (s + 1) + r.length
    · have a : off + s≤j∧j < off + s + (r.length + 1):=by omega
      rw [qm b,qm a,show j - (off + s) = (j - (off + (s + 1))) + 1 by omega,List.getElem?_cons_succ]
    · rw [ql b,Array.getElem?_setIfInBounds]
      by_cases c : off + s = j
      · have a : off + s≤j∧j < off + s + (r.length + 1):=by omega
        have g : j < cs.size:=by omega
        rw [qm c,qm a,qm q0,show j - (off + s) = 0 by omega]
        rfl
      · have a : ¬ (off + s≤j∧j < off + s + (r.length + 1)):=by omega
        rw [ql c,ql a]
theorem qht (a cs : Array Value) (off : Nat) (h : off + a.size≤cs.size) :
    a.zipIdx.foldl (fun (cs : Array Value) (x : Value × Nat)=>cs.setIfInBounds (off + x.2) x.1) cs = (splice cs.toList off a.toList).toArray:=by
  rw [← Array.foldl_toList,Array.toList_zipIdx];obtain ⟨c,b⟩:=qhs off a.toList 0 cs (by simpa using h);have hs:=q1y cs.toList a.toList off (by simpa using h);apply Array.ext';apply List.ext_getElem?;intro j;rw [Array.getElem?_toList,b j,U1 _ _ _ _ (by simpa using h)];simp
def LRel (w : World) (Z : Nat→Prop) (inj : Inj) (nx : Nat) (cs : List V) (xs : Array Value) : Prop:=
  cs.length = xs.size∧∀ (i : Nat) (d : V) (c : Value),cs[i]? = some d→xs[i]? = some c→RelV w Z inj nx d c
theorem LRel.splice {w : World} {nx : Nat} {cs ys : List V} {xs g : Array Value} {o : Nat} (h : LRel w Z inj nx cs xs) (k : LRel w Z inj nx ys g) (j : o + ys.length≤cs.length) :
    LRel w Z inj nx (Am.splice cs o ys) (Am.splice xs.toList o g.toList).toArray:=by
  have l:=h.1;have m:=k.1;have f : o + g.toList.length≤xs.toList.length:=by simp;omega
  refine ⟨by simp [q1y _ _ _ j,q1y _ _ _ f,h.1],fun i d c hd b=>?_⟩;rw [U1 _ _ _ _ j] at hd;rw [List.getElem?_toArray,U1 _ _ _ _ f] at b;have e : g.toList.length = ys.length:=by simp;omega
  rw [e] at b;split at hd
  · rename_i a;rw [qm a] at b;exact k.2 _ _ _ hd (by simpa using b)
  · rename_i a;rw [ql a] at b;exact h.2 _ _ _ hd (by simpa using b)
theorem qhi {c : List (Nat × Operand)} {d : List (Nat × V)} (h : RelS w Z inj st a Ds) (hp : J8 st.ev c = some d) :
    d.length = c.length∧∀ (k : Nat) (i : Nat) (v : V),d[k]? = some (i,v)→∃ o,c[k]? = some (i,o)∧RelV w Z inj st.nx v (a.eval o):=by
  induction c generalizing d with
  | nil=>simp [J8] at hp;subst hp;simp
  | cons x r ih=>
    obtain ⟨i,o⟩:=x;simp only [J8] at hp
    cases f : st.ev o with
    | none=>simp [f] at hp
    | some v=>
      cases g : J8 st.ev r with
      | none=>simp [f,g] at hp
      | some l=>
        simp [f,g] at hp;subst hp;obtain ⟨q,n⟩:=ih g;refine ⟨by simp [q],fun k s t b=>?_⟩
        cases k with
        | zero=>simp at b;obtain ⟨rfl,rfl⟩:=b;exact ⟨o,qe,Kb h f⟩
        | succ k=>simp at b;obtain ⟨m,j,p⟩:=n k s t b;exact ⟨m,by simpa using j,p⟩
theorem q7i {os : List Operand} {j : List V} (h : RelS w Z inj st a Ds) (hp : evL st.ev os = some j) : LRel w Z inj st.nx j (os.map a.eval).toArray:=by
  induction os generalizing j with
  | nil=>simp [evL] at hp;subst hp;exact ⟨qe,qe⟩
  | cons o r ih=>
    simp only [evL] at hp
    cases f : st.ev o with
    | none=>simp [f] at hp
    | some v=>
      cases g : evL st.ev r with
      | none=>simp [f,g] at hp
      | some l=>
        simp [f,g] at hp;subst hp;obtain ⟨n,m⟩:=ih g;refine ⟨by simpa using n,fun k d c hd b=>?_⟩
        cases k with
        | zero=>simp at hd b;subst hd b;exact Kb h f
        | succ k=>simp at hd b;exact m k d c hd (by simpa using b)
theorem qde {w : World} {nx : Nat} (place : Nat→Option (Nat × Nat)) : ∀ (b : List (Nat × V)) (xs : List (Nat × Value)) (l : List (Nat × List V)) (cs a : List V) (C : Array Value),
    b.length = xs.length→(∀ (k : Nat) (i : Nat) (v : V),b[k]? = some (i,v)→∃ x,xs[k]? = some (i,x)∧RelV w Z inj nx v x)→
    l.length = b.length→(∀ (k : Nat) (i : Nat) (v : V),b[k]? = some (i,v)→∃ o s,place i = some (o,s)∧(cellsOf v).length = s∧(cellsOf v).all Km = true∧l[k]? = some (o,cellsOf v))→
    LRel w Z inj nx cs C→q4h cs l = some a→∃ h,Instr.fill place C xs = some h∧LRel w Z inj nx a h
  | [],xs,l,cs,a,C,h1,_,h3,_,h5,h6=>by
    have : xs = []:=by cases xs <;> simp_all
    have : l = []:=by cases l <;> simp_all
    subst_vars
    simp [q4h] at h6;subst h6
    exact ⟨C,by simp [Instr.fill],h5⟩
  | (i,v)::b,xs,l,cs,a,C,h1,h2,h3,h4,h5,h6=>by
    match xs,l,h1,h3 with
    | (i',x)::xs,(o',ys)::l,h1,h3=>
      obtain ⟨x',g,u⟩:=h2 0 i v rfl
      simp at g;obtain ⟨rfl,rfl⟩:=g
      obtain ⟨o,s,hp,z,y,f⟩:=h4 0 i' v rfl
      simp at f;obtain ⟨rfl,rfl⟩:=f
      obtain ⟨r,t,q3⟩:=qaa u y
      simp only [q4h] at h6
      split at h6
      · rename_i d
        have n : x.cells.size = s:=by omega
        have q : ¬ (o' + x.cells.size > C.size):=by have:=h5.1;omega
        obtain ⟨h,p,c⟩:=qde place b xs l (splice cs o' (cellsOf v)) a (splice C.toList o' x.cells.toList).toArray (by simpa using h1)
          (fun k i v j=>by obtain ⟨x,m⟩:=h2 (k + 1) i v (by simpa using j);exact ⟨x,by simpa using m⟩) (by simpa using h3)
          (fun k i v j=>by obtain ⟨o,s,m⟩:=h4 (k + 1) i v (by simpa using j);exact ⟨o,s,by simpa using m⟩)
          (h5.splice ⟨r,t⟩ d) h6
        refine ⟨h,?_,c⟩
        simp only [Instr.fill,hp,n]
        have : ¬ ((decide (s≠s) || decide (o' + s > C.size)) = true):=by simp;omega
        rw [ql (by simpa using this)]
        rw [qht x.cells C o' q0]
        exact p
      · simp at h6
end
end Go.Am
namespace Go.Am
open Go
variable {P : Program} {T : Tab}
section
variable {w : World} {Z : Nat→Prop} {inj : Inj} {nx : Nat}
theorem qkr {α β : Type} {f : α→Sem β} {g : α→β} : ∀ {l : List α},(∀ x∈l,(f x).run P w = .ok (g x) w)→(l.mapM f).run P w = .ok (l.map g) w
  | [],_=>by simp
  | x::r,h=>by
    have b:=h x qe
    have a:=qkr (l:=r) (fun y c=>h y (by simp [c]))
    simp [List.mapM_cons,b,a]
theorem qu4 {α β : Type} {f : α→Sem β} {g : α→β} {l : Array α} (h : ∀ x∈l.toList,(f x).run P w = .ok (g x) w) : (l.mapM f).run P w = .ok (l.toList.map g).toArray w:=by
  rw [Array.mapM_eq_mapM_toList,Sem.run_map,qkr h];rfl
theorem qhp {g : Array Field} {j : List (Nat × Nat × Bool)} (h : (g.toList.mapM fun f => do
      let a ← P.info? f.type
      let c ← P.underlying f.type
      if a.size = 0 then none else some (f.offset,a.size,Kc c)) = some j) :
    j.length = g.size∧∀ (i : Nat) (f : Field),g[i]? = some f→∃ a c,P.info? f.type = some a∧P.underlying f.type = some c∧a.size≠0∧j[i]? = some (f.offset,a.size,Kc c):=by
  obtain ⟨o,m⟩:=q7r h;refine ⟨by simpa using o,fun i f n=>?_⟩;obtain ⟨y,p,b⟩:=m i f (by simpa using n)
  cases d : P.info? f.type with
  | none=>simp [d] at b
  | some a=>
    cases l : P.underlying f.type with
    | none=>simp [d,l] at b
    | some c=>
      simp only [d,l,Option.bind_eq_bind,qn] at b;split at b
      · simp at b
      · rename_i k;simp at b;subst b;exact ⟨a,c,rfl,rfl,k,p⟩
theorem qdh {c : Array Field} {g : List (Nat × Nat × Bool)} (h : (c.toList.mapM fun f => do
      let a ← P.info? f.type
      let b ← P.underlying f.type
      if a.size = 0 then none else some (f.offset,a.size,Kc b)) = some g) {i off s : Nat} {ag : Bool} (hi : g[i]? = some (off,s,ag)) :
    ∃ f a b,c[i]? = some f∧P.info? f.type = some a∧P.underlying f.type = some b∧a.size = s∧s≠0∧f.offset = off∧Kc b = ag:=by
  obtain ⟨o,k⟩:=qhp h;obtain ⟨f,j⟩:=Ya (xs:=c) (i:=i) (by have:=Ke hi;omega);obtain ⟨a,b,n,l,m,d⟩:=k i f j;rw [hi] at d;simp at d;obtain ⟨rfl,rfl,rfl⟩:=d;exact ⟨f,a,b,j,n,l,rfl,m,rfl,rfl⟩
theorem qk3 {a : TI} : ∀ {c : List (Nat × V)} {l : List (Nat × List V)},placed a c = some l→l.length = c.length∧∀ (k i : Nat) (v : V),c[k]? = some (i,v)→∃ o s,
    (match a.kind with | .struct=>(a.flds[i]?).map fun f=>(f.1,f.2.1) | .array=>some (i * a.esize,a.esize) | _=>none) = some (o,s)∧(cellsOf v).length = s∧(cellsOf v).all Km = true∧l[k]? = some (o,cellsOf v)
  | [],l,h=>by simp [placed] at h;subst h;simp
  | (i,v)::r,l,h=>by
    simp only [placed] at h
    split at h
    · rename_i o s l' w g
      split at h
      · rename_i d
        simp at h;subst h
        obtain ⟨q,m⟩:=qk3 g
        refine ⟨by simp [q],fun k t u b=>?_⟩
        cases k with
        | zero=>simp at b;obtain ⟨rfl,rfl⟩:=b;exact ⟨o,s,w,d.1,d.2,qe⟩
        | succ k=>simp at b;obtain ⟨j,n,p⟩:=m k t u b;exact ⟨j,n,by simpa using p⟩
      · simp at h
    · simp at h
theorem q10s {t : TypeId} {i : TI} {a : TypeInfo} {d : TypeDesc} {z : Value} (k : TiOk P t i a d z) : LRel w Z inj nx (i.zero.map .d) z.cells:=by
  obtain ⟨n,g⟩:=q7b (w:=w) (Z:=Z) k.cells;refine ⟨by simpa using n,fun j d c hd m=>?_⟩;simp only [List.getElem?_map,Y4] at hd;obtain ⟨l,f,rfl⟩:=hd;obtain ⟨o,b,h,_⟩:=g j l f;rw [m] at b;cases b;exact .d h
theorem Zd {t : TypeId} {a : TypeInfo} (h : P.info? t = some a) : (sizeOf t).run P w = .ok a.size w:=by simp [sizeOf,typeInfo,h]
theorem q2l {t : TypeId} {d : TypeDesc} (h : P.underlying t = some d) : (isAgg t).run P w = .ok (Kc d) w:=by
  simp only [isAgg,Sem.run_bind,run_underlying h,Result.andThen_ok];cases d <;> rfl
theorem qjz {t : TypeId} {a : TypeInfo} {d : TypeDesc} (s : P.info? t = some a) (m : P.underlying t = some d) {cs r : List V} {xs : Array Value} {off : Nat} {v : V} (k : LRel w Z inj nx cs xs)
    (hs : sub cs off a.size = some r) (hp : pack (Kc d) r = some v) : ∃ x,(part t xs off).run P w = .ok x w∧RelV w Z inj nx v x:=by
  obtain ⟨p,h⟩:=q9k hs;have y:=(qlx hs).1;have o:=k.1
  have f : ∀ (i : Nat) (d : V) (c : Value),r[i]? = some d→(xs.extract off (off + a.size)).toList[i]? = some c→RelV w Z inj nx d c:=by
    intro i d c hd j;obtain ⟨g,u⟩:=h i d hd;refine k.2 _ _ _ g ?_;rw [Array.getElem?_toList,Array.getElem?_extract] at j;split at j <;> first | exact j | simp at j
  have l : r.length = (xs.extract off (off + a.size)).toList.length:=by simp;omega
  have b:=qjv hp l f
  cases hb : Kc d with
  | true=>
    rw [hb] at b
    refine ⟨.agg (xs.extract off (off + a.size)),?_,by
      have q : RelV w Z inj nx v (.agg (xs.extract off (off + a.size)).toList.toArray):=b
      rwa [Array.toArray_toList] at q⟩
    simp [part,q2l m,hb,Zd s]
  | false=>
    rw [hb] at b hp
    match r,hp,p,h with
    | [c],hp,p,h=>
      simp only [pack,Option.some.injEq] at hp;subst hp;have g:=(h 0 c rfl).1;simp only [Nat.add_zero] at g;obtain ⟨x,n⟩:=Ya (xs:=xs) (i:=off) (by have:=Ke g;omega);exact ⟨x,by simp [part,q2l m,hb,n],k.2 _ _ _ g n⟩
end
section
variable {w : World} {Z : Nat→Prop} {inj : Inj} {st : AS} {a : Act} {Ds : List Nat}
theorem qs5 {t : TypeId} {i : TI} {n : Array (Nat × Operand)} {vs : List (Nat × V)} {l : List (Nat × List V)} {cs : List V} (h : RelS w Z inj st a Ds) (ht : tiOf P t = some i) (hv : J8 st.ev n.toList = some vs)
    (ha : i.agg = true) (hl : placed i vs = some l) (hf : q4h (i.zero.map .d) l = some cs) :
    Kk st st (q4u cs) w Z inj ((do pure (Next.value (← Instr.build t (n.map fun (i,x)=>(i,a.eval x)))) : Sem Next).run P w):=by
  obtain ⟨aw,d,z,k⟩:=Yn ht;obtain ⟨p1,p2⟩:=qhi h hv;obtain ⟨q1,q2⟩:=qk3 hl;have hz:=q10s (w:=w) (Z:=Z) (inj:=inj) (nx:=st.nx) k
  have y : ∀ (k i : Nat) (v : V),vs[k]? = some (i,v)→∃ x,(n.toList.map fun (x : Nat × Operand)=>(x.1,a.eval x.2))[k]? = some (i,x)∧RelV w Z inj st.nx v x:=by
    intro k i v u;obtain ⟨o,ho,m⟩:=p2 k i v u;exact ⟨a.eval o,by simp only [List.getElem?_map,ho];rfl,m⟩
  have aa : (zeroValue t).run P w = .ok z w:=by simp [zeroValue,typeInfo,k.inf,k.zero]
  have b:=k.kind;unfold Ze at b;cases u : i.kind <;> simp only [u,TI.agg] at b ha
  case struct=>
    obtain ⟨fs,rfl,r⟩:=b;obtain ⟨_,ah⟩:=qhp r
    obtain ⟨q,hC,m⟩:=qde (fun i=>((fs.toList.map fun (f : Field)=>(f.offset,((P.info? f.type).map (·.size)).getD 0)).toArray)[i]?) vs (n.toList.map fun (x : Nat × Operand)=>(x.1,a.eval x.2)) l _ cs z.cells (by simp [p1]) y q1
      (fun k i' v c=>by
        obtain ⟨o,s,h1,h2,h3,h4⟩:=q2 k i' v c;simp only [u,Y4] at h1;obtain ⟨⟨o',s',ag⟩,h5,h6⟩:=h1;simp at h6;obtain ⟨rfl,rfl⟩:=h6;obtain ⟨f,jf,df,p,g2,_,g4,_,g6,_⟩:=qdh r h5
        exact ⟨o',s',by simp [p,g2,g4,g6],h2,h3,h4⟩) hz hf
    refine .quiet h (Kj (x:=.agg q) ?_) (qec m.1 m.2)
    have hm : (fs.mapM fun f=>do pure (f.offset,← sizeOf f.type) : Sem (Array (Nat × Nat))).run P w = .ok (fs.toList.map fun (f : Field)=>(f.offset,((P.info? f.type).map (·.size)).getD 0)).toArray w:=by
      refine qu4 fun f hf=>?_;obtain ⟨j,hj⟩:=List.mem_iff_getElem?.1 hf;obtain ⟨jf,df,p,_⟩:=ah j f (by simpa using hj);simp [Zd p,p]
    simp only [Instr.build,Sem.run_bind,aa,Result.andThen_ok,run_underlying k.und,hm];have g : Instr.fill (fun x=>((fs.toList.map fun (f : Field)=>(f.offset,((P.info? f.type).map (·.size)).getD 0)).toArray)[x]?) z.cells (n.map fun (x : Nat × Operand)=>(x.1,a.eval x.2)).toList = some q:=by simpa using hC
    simp only [g];rfl
  case array=>
    obtain ⟨e,ie,de,rfl,p,g2,g3,g4,_⟩:=b
    obtain ⟨q,hC,m⟩:=qde (fun j=>some (j * i.esize,i.esize)) vs (n.toList.map fun (x : Nat × Operand)=>(x.1,a.eval x.2)) l _ cs z.cells (by simp [p1]) y q1
      (fun k i' v c=>by
        obtain ⟨o,s,h1,h2,h3,h4⟩:=q2 k i' v c;simp only [u] at h1
        exact ⟨o,s,h1,h2,h3,h4⟩) hz hf
    refine .quiet h (Kj (x:=.agg q) ?_) (qec m.1 m.2);have g : Instr.fill (fun j=>some (j * i.esize,i.esize)) z.cells (n.map fun (x : Nat × Operand)=>(x.1,a.eval x.2)).toList = some q:=by simpa using hC
    simp only [Instr.build,Sem.run_bind,aa,Result.andThen_ok,run_underlying k.und,Zd p,g3,g];rfl
  all_goals simp at ha
theorem qj0 {t : TypeId} {i : TI} {pv v : V} {vp : Value} (h : RelH w Z inj st.hp st.nx) (ht : tiOf P t = some i) (hx : RelV w Z inj st.nx pv vp) (a : Jx st i pv = some v) :
    ∃ b o x,vp = .pointer (some ⟨b,o,none⟩)∧(Instr.loadAt t vp).run P w = .ok x w∧RelV w Z inj st.nx v x:=by
  obtain ⟨ao,d,z,k⟩:=Yn ht
  have fin : ∀ {b o : Nat} {r : List V} {pp : Value},pp = .pointer (some ⟨b,o,none⟩)→pack i.agg r = some v→r.length = i.size→
      (∀ (k : Nat) (x : V),r[k]? = some x→∃ c,w.cell? ⟨b,o + k,none⟩ = some c∧RelV w Z inj st.nx x c)→∃ b o x,pp = .pointer (some ⟨b,o,none⟩)∧(Instr.loadAt t pp).run P w = .ok x w∧RelV w Z inj st.nx v x:=by
    intro b o r pp q aj ac hc
    obtain ⟨x,ad,aa⟩:=qqq (P:=P) k aj ac hc
    exact ⟨b,o,x,q,by rw [q];exact ad,aa⟩
  cases pv <;> simp only [Jx,reduceCtorEq] at a
  case ref n es e j=>
    cases hx with
    | @ref _ _ _ _ b o hn hi=>
    cases hb : st.blk n with
    | none=>simp [hb] at a
    | some blk=>
      have hB:=(h.blk n blk hb).2
      cases blk with
      | dead=>simp [hb] at a
      | loop=>simp [hb] at a
      | mp=>simp [hb] at a
      | dat es' xs=>
        simp only [hb] at a;split at a <;> try simp at a
        rename_i cs q g;have q:=Nat.eq_of_beq_eq_true q;subst q
        cases hs : sub cs j i.size with
        | none=>simp [hs] at a
        | some r=>
          simp only [hs] at a;rw [qen] at a;obtain ⟨u,s⟩:=q9k hs;obtain ⟨b1,b2,f⟩:=hB;rcases f with ⟨f,_⟩ | ⟨b',o',arr,ty,f,b4,b5⟩
          · subst f;simp at g
          · rw [hi] at f;cases f;refine fin rfl a (by simpa using u) ?_;intro k x m;simp only [List.getElem?_map,Y4] at m;obtain ⟨y,hy,rfl⟩:=m;obtain ⟨p,_⟩:=s k y hy;obtain ⟨_,c,h4,h5⟩:=b5 e cs (j + k) y g p;exact ⟨c,by simp only [World.cell?,b4];rw [← h4];simp [Nat.add_assoc],.d h5⟩
      | cel es' xs=>
        simp only [hb] at a;split at a <;> try simp at a
        rename_i cs q g;have q:=Nat.eq_of_beq_eq_true q;subst q
        cases hs : sub cs j i.size with
        | none=>simp [hs] at a
        | some r=>
          simp only [hs] at a;obtain ⟨u,s⟩:=q9k hs;obtain ⟨b1,b2,f⟩:=hB;rcases f with ⟨f,_⟩ | ⟨b',o',arr,ty,f,b4,b5⟩
          · subst f;simp at g
          · rw [hi] at f;cases f;refine fin rfl a u ?_;intro k x m;obtain ⟨p,_⟩:=s k x m;obtain ⟨_,c,h4,h5⟩:=b5 e cs (j + k) x g p;exact ⟨c,by simp only [World.cell?,b4];rw [← h4];simp [Nat.add_assoc],h5⟩
  case dref cs j=>
    cases hx with
    | @dref _ _ b o hz hc hr=>
    cases hs : sub cs j i.size with
    | none=>simp [hs] at a
    | some r=>
      simp only [hs] at a;rw [qen] at a;obtain ⟨u,s⟩:=q9k hs;refine fin rfl a (by simpa using u) ?_;intro k x m;simp only [List.getElem?_map,Y4] at m;obtain ⟨y,hy,rfl⟩:=m;obtain ⟨p,_⟩:=s k y hy;obtain ⟨c,l⟩:=hc _ _ p;exact ⟨c,by rw [← l,Nat.add_assoc],.d (hr _ _ _ p l)⟩
  case d x=>
    cases x <;> simp only [reduceCtorEq] at a
    rename_i cs
    cases hx with
    | d hx=>
    cases hx with
    | @box _ b o hz hc hr=>
    cases hs : sub cs 0 i.size with
    | none=>simp [hs] at a
    | some r=>
      simp only [hs] at a;rw [qen] at a;obtain ⟨u,s⟩:=q9k hs;refine fin rfl a (by simpa using u) ?_;intro k x m;simp only [List.getElem?_map,Y4] at m;obtain ⟨y,hy,rfl⟩:=m;obtain ⟨p,_⟩:=s k y hy;rw [Nat.zero_add] at p;obtain ⟨c,l⟩:=hc _ _ p;exact ⟨c,l,.d (hr _ _ _ p l)⟩
theorem qsg {t : TypeId} {i : TI} {p : Operand} {pv v : V} (h : RelS w Z inj st a Ds) (g : tiOf P t = some i) (hp : st.ev p = some pv) (d : Jx st i pv = some v) :
    Kk st st v w Z inj ((do pure (Next.value (← Instr.loadAt t (a.eval p))) : Sem Next).run P w):=by
  obtain ⟨b,o,x,_,c,f⟩:=qj0 (P:=P) h.heap g (Kb h hp) d;exact .quiet h (Kj c) f
end
end Go.Am
namespace Go.Am
open Go
variable {P : Program} {T : Tab}
theorem qcu : ∀ {c d : List (Option IntKind)} {a b : List DV} {r : Bool},Kf (c ++ d) a b = some r→
    ∃ p q,Kf c (a.take c.length) (b.take c.length) = some p∧Kf d (a.drop c.length) (b.drop c.length) = some q∧r = (p && q)
  | [],d,a,b,r,h=>⟨true,r,by simp [Kf],by simpa using h,qe⟩
  | k::c,d,a,b,r,h=>by
    match a,b,h with
    | x::a,y::b,h=>
      simp only [List.cons_append,Kf] at h
      split at h <;> simp at h
      rename_i u v l g
      obtain ⟨p,q,f,j,m⟩:=qcu g
      refine ⟨u && p,q,by simp [Kf,l,f],by simpa using j,?_⟩
      rw [← h,m,Bool.and_assoc]
    | [],_,h=>simp [Kf] at h
    | _::_,[],h=>simp [Kf] at h
theorem qa9 : ∀ {ks : List (Option IntKind)} {a b : List DV} {r : Bool},Kf ks a b = some r→a.length = ks.length∧b.length = ks.length
  | [],[],[],_,_=>⟨rfl,rfl⟩
  | k::ks,x::a,y::b,r,h=>by
    simp only [Kf] at h
    split at h <;> simp at h
    rename_i d c
    have:=qa9 c
    simp;omega
  | [],_::_,_,_,h=>by simp [Kf] at h
  | [],[],_::_,_,h=>by simp [Kf] at h
  | _::_,[],_,_,h=>by simp [Kf] at h
  | _::_,_::_,[],_,h=>by simp [Kf] at h
section
variable {w : World} {Z : Nat→Prop}
def DRel (w : World) (Z : Nat→Prop) (ds : List DV) (cs : Array Value) : Prop:=ds.length = cs.size∧∀ (i : Nat) (d : DV) (c : Value),ds[i]? = some d→cs[i]? = some c→RelD w Z d c
theorem DRel.extract {ds : List DV} {cs : Array Value} (h : DRel w Z ds cs) (o s : Nat) (hs : o + s≤ds.length) : DRel w Z ((ds.drop o).take s) (cs.extract o (o + s)):=by
  have b:=h.1;refine ⟨by simp;omega,fun i d c hd a=>?_⟩;rw [List.getElem?_take] at hd;split at hd
  · rw [List.getElem?_drop] at hd;rw [Array.getElem?_extract] at a;split at a
    · exact h.2 _ _ _ hd a
    · simp at a
  · simp at hd
theorem qc2 {t : TypeId} {d : TypeDesc} (h : P.underlying t = some d) : ∃ a,P.info? t = some a∧P.cellsOf t = a.size:=by
  cases hi : P.info? t with
  | none=>simp [Program.underlying,hi] at h
  | some a=>exact ⟨a,rfl,by simp [Program.cellsOf,hi]⟩
def EqOk (P : Program) (w : World) (Z : Nat→Prop) (k : Nat) (t : TypeId) (desc : TypeDesc) (ks : List (Option IntKind)) : Prop:=
  ∀ (xs ys : List DV) (X Y : Array Value) (r : Bool),DRel w Z xs X→DRel w Z ys Y→Kf ks xs ys = some r→
    (Kc desc = true→(Op.equalIn k t (.agg X) (.agg Y)).run P w = .ok r w)∧(Kc desc = false→ks.length = 1∧∀ x y,X[0]? = some x→Y[0]? = some y→(Op.equalIn k t x y).run P w = .ok r w)
def q7f (k : Nat) (X Y : Array Value) (f : Field) (_s : Option Bool × Unit) : Sem (ForInStep (Option Bool × Unit)):=
  if f.name ≠ "_" then do
    let __do_lift ← part f.type X f.offset
    let __do_lift_1 ← part f.type Y f.offset
    let __do_lift ← Op.equalIn k f.type __do_lift __do_lift_1
    if (!__do_lift) = true then pure (ForInStep.done (some false,())) else pure (ForInStep.yield (none,()))
  else pure (ForInStep.yield (none,()))
theorem qhh {k : Nat} {t : TypeId} {desc : TypeDesc} {b : TypeInfo} {ks : List (Option IntKind)} (h : EqOk P w Z k t desc ks) (f : P.underlying t = some desc) (hi : P.info? t = some b) (hs : b.size = ks.length)
    {xs ys : List DV} {X Y : Array Value} (r : DRel w Z xs X) (m : DRel w Z ys Y) {o : Nat} (g : o + ks.length≤xs.length) (l : o + ks.length≤ys.length) {p : Bool}
    (hp : Kf ks ((xs.drop o).take ks.length) ((ys.drop o).take ks.length) = some p) :
    ∃ q n,(part t X o).run P w = .ok q w∧(part t Y o).run P w = .ok n w∧(Op.equalIn k t q n).run P w = .ok p w:=by
  obtain ⟨u,j⟩:=h _ _ _ _ p (r.extract o ks.length g) (m.extract o ks.length l) hp
  cases a : Kc desc with
  | true=>
    exact ⟨.agg (X.extract o (o + ks.length)),.agg (Y.extract o (o + ks.length)),by simp [part,q2l f,a,Zd hi,hs],by simp [part,q2l f,a,Zd hi,hs],u a⟩
  | false=>
    obtain ⟨s,j⟩:=j a;have v:=r.1;have z:=m.1;obtain ⟨x,c⟩:=Ya (xs:=X) (i:=o) q0;obtain ⟨y,d⟩:=Ya (xs:=Y) (i:=o) q0;refine ⟨x,y,by simp [part,q2l f,a,c],by simp [part,q2l f,a,d],j x y ?_ ?_⟩
    · rw [Array.getElem?_extract,s,qm (by have:=Zj c;omega)];exact c
    · rw [Array.getElem?_extract,s,qm (by have:=Zj d;omega)];exact d
theorem qhe (d : Nat) (k : Nat) (x : ∀ t desc ks,P.underlying t = some desc→Ki P d t = some ks→EqOk P w Z k t desc ks)
    (xs ys : List DV) (X Y : Array Value) (s : DRel w Z xs X) (n : DRel w Z ys Y) : ∀ (l : List Field) (o : Nat) (r : Bool) (ks : List (Option IntKind)),tile P (Ki P d) o l = some ks→o + ks.length≤xs.length→o + ks.length≤ys.length→
    Kf ks (xs.drop o) (ys.drop o) = some r→(forIn l ((none : Option Bool),()) (q7f k X Y) : Sem (Option Bool × Unit)).run P w = .ok (if r then (none,()) else (some false,())) w
  | [],o,r,ks,ht,_,_,hc=>by
    simp only [tile,Option.some.injEq] at ht;subst ht
    obtain ⟨h1,z⟩:=qa9 hc
    rw [List.eq_nil_of_length_eq_zero h1,List.eq_nil_of_length_eq_zero z] at hc
    simp [Kf] at hc;subst hc
    simp
  | f::l,o,r,ks,ht,hlx,hly,hc=>by
    simp only [tile] at ht
    cases a : Ki P d f.type with
    | none=>simp [a] at ht
    | some ka=>
      simp only [a] at ht
      split at ht <;> try simp at ht
      rename_i c
      obtain ⟨rfl,hn,aa⟩:=c
      cases g : tile P (Ki P d) (f.offset + ka.length) l with
      | none=>simp [g] at ht
      | some kb=>
        simp only [g,Option.some.injEq] at ht;subst ht
        simp only [List.length_append] at hlx hly
        obtain ⟨p,q,hp,v,m⟩:=qcu hc
        rw [List.drop_drop,List.drop_drop] at v
        obtain ⟨h,b⟩ : ∃ h,P.underlying f.type = some h:=by
          cases y : P.underlying f.type with
          | none=>cases d <;> simp [Ki,y] at a
          | some h=>exact ⟨h,rfl⟩
        obtain ⟨jf,j,u⟩:=qc2 b
        obtain ⟨vx,vy,g1,g2,g3⟩:=qhh (x f.type h ka b a) b j q0 s n (o:=f.offset) q0 q0 hp
        rw [List.forIn_cons]
        simp only [q7f,qm hn,Sem.run_bind,g1,g2,g3,Result.andThen_ok]
        cases p with
        | false=>simp [m]
        | true=>
          have:=qhe d k x xs ys X Y s n l (f.offset + ka.length) q kb g q0 q0 v;simp only [Bool.true_and] at m;subst m;simpa using this
def q7g (k : Nat) (e : TypeId) (n : Nat) (X Y : Array Value) (i : Nat) (_s : Option Bool × Unit) : Sem (ForInStep (Option Bool × Unit)):=do
  let __do_lift ← part e X (i * n)
  let __do_lift_1 ← part e Y (i * n)
  let __do_lift ← Op.equalIn k e __do_lift __do_lift_1
  if (!__do_lift) = true then pure (ForInStep.done (some false,())) else pure (ForInStep.yield (none,()))
theorem qhf {k : Nat} {e : TypeId} {desc : TypeDesc} {b : TypeInfo} {a : List (Option IntKind)} (f : EqOk P w Z k e desc a) (g : P.underlying e = some desc) (hi : P.info? e = some b) (hs : b.size = a.length)
    {xs ys : List DV} {X Y : Array Value} (j : DRel w Z xs X) (h : DRel w Z ys Y) : ∀ (m s : Nat) (r : Bool),(s + m) * a.length≤xs.length→(s + m) * a.length≤ys.length→
    Kf (List.replicate m a).flatten (xs.drop (s * a.length)) (ys.drop (s * a.length)) = some r→(forIn (List.range' s m) ((none : Option Bool),()) (q7g k e b.size X Y) : Sem (Option Bool × Unit)).run P w = .ok (if r then (none,()) else (some false,())) w
  | 0,s,r,_,_,hc=>by
    simp only [List.replicate_zero,List.flatten_nil] at hc
    obtain ⟨v,n⟩:=qa9 hc
    rw [List.eq_nil_of_length_eq_zero v,List.eq_nil_of_length_eq_zero n] at hc
    simp [Kf] at hc;subst hc
    simp
  | m + 1,s,r,hlx,hly,hc=>by
    rw [List.replicate_succ,List.flatten_cons] at hc
    obtain ⟨p,q,hp,d,c⟩:=qcu hc
    rw [List.drop_drop,List.drop_drop] at d
    have l : s * a.length + a.length = (s + 1) * a.length:=by rw [Nat.add_mul];simp
    have y : (s + 1) * a.length + m * a.length = (s + (m + 1)) * a.length:=by rw [← Nat.add_mul];congr 1;omega
    obtain ⟨vx,z,x,t,u⟩:=qhh f g hi hs j h (o:=s * a.length) q0 q0 hp
    rw [List.range'_succ,List.forIn_cons]
    simp only [q7g,hs,Sem.run_bind,x,t,u,Result.andThen_ok]
    cases p with
    | false=>simp [c]
    | true=>
      rw [l] at d
      have:=qhf f g hi hs j h m (s + 1) q (by rw [Nat.add_mul];omega) (by rw [Nat.add_mul];omega) d
      simp only [Bool.true_and] at c
      subst c
      rw [hs] at this
      simpa using this
theorem qai : ∀ (d : Nat) (t : TypeId) (desc : TypeDesc) (ks : List (Option IntKind)),P.underlying t = some desc→Ki P d t = some ks→∀ k,d≤k→EqOk P w Z k t desc ks
  | 0,t,desc,ks,hu,hp,k,hk=>by simp [Ki] at hp
  | d + 1,t,desc,ks,hu,hp,k,hk=>by
    obtain ⟨k,rfl⟩ : ∃ k',k = k' + 1:=⟨k - 1,q0⟩
    intro xs ys X Y r z u c
    obtain ⟨m,q⟩:=qa9 c
    simp only [Ki,hu] at hp
    cases desc <;> simp only [reduceCtorEq,Option.some.injEq] at hp
    case bool=>
      subst hp
      refine ⟨by simp [Kc],fun _=>⟨rfl,fun x y h l=>?_⟩⟩
      match xs,ys,m,q,c with
      | [a],[b],_,_,c=>
        have ra:=z.2 0 a x rfl h
        have rb:=u.2 0 b y rfl l
        simp only [Kf] at c
        cases a <;> cases b <;> simp only [q27,reduceCtorEq] at c
        simp at c;subst c
        cases ra;cases rb;simp [Op.equalIn,run_underlying hu]
    case int k0=>
      subst hp
      refine ⟨by simp [Kc],fun _=>⟨rfl,fun x y h l=>?_⟩⟩
      match xs,ys,m,q,c with
      | [a],[b],_,_,c=>
        have ra:=z.2 0 a x rfl h
        have rb:=u.2 0 b y rfl l
        simp only [Kf] at c
        cases a <;> cases b <;> simp only [q27,reduceCtorEq] at c
        split at c <;> simp at c
        rename_i s v
        split at s <;> simp at s
        rename_i ab
        obtain ⟨rfl,rfl⟩:=ab
        subst s c
        simp at v;subst v
        cases ra;cases rb;simp [Op.equalIn,run_underlying hu]
    case struct fs=>
      refine ⟨fun _=>?_,by simp [Kc]⟩
      split at hp
      · simp at hp
      · rename_i aa
        simp only [Op.equalIn,Sem.run_bind,run_underlying hu,Result.andThen_ok,run_program,aa,Bool.false_eq_true,if_false]
        have:=qhe (P:=P) (w:=w) (Z:=Z) d k (fun t desc ks s v=>qai d t desc ks s v k q0) xs ys X Y z u fs.toList 0 r ks hp q0 q0 (by simpa using c)
        rw [Array.forIn_toList] at this
        have e : (fun (f : Field) (_s : Option Bool × Unit)=>q7f k X Y f _s) = q7f k X Y:=rfl
        unfold q7f at this
        rw [this]
        cases r <;> simp
    case array n e=>
      refine ⟨fun _=>?_,by simp [Kc]⟩
      cases g : Ki P d e with
      | none=>simp [g] at hp
      | some a=>
        simp only [g] at hp
        split at hp
        · rename_i aj
          simp only [Option.some.injEq] at hp;subst hp
          obtain ⟨p,j⟩ : ∃ p,P.underlying e = some p:=by
            cases ac : P.underlying e with
            | none=>cases d <;> simp [Ki,ac] at g
            | some p=>exact ⟨p,rfl⟩
          obtain ⟨je,o,af⟩:=qc2 j
          have ag : (List.replicate n a).flatten.length = n * a.length:=by simp
          have:=qhf (qai d e p a j g k q0) j o q0 z u n 0 r (by rw [Nat.zero_add];omega) (by rw [Nat.zero_add];omega) (by simpa using c)
          simp only [Op.equalIn,Sem.run_bind,run_underlying hu,Result.andThen_ok,Zd o,Std.Legacy.Range.forIn_eq_forIn_range']
          have e : (fun (i : Nat) (_s : Option Bool × Unit)=>q7g k e je.size X Y i _s) = q7g k e je.size X Y:=rfl
          unfold q7g at this
          simp only [Std.Legacy.Range.size,Nat.sub_zero,Nat.add_sub_cancel,Nat.div_one]
          rw [this]
          cases r <;> simp
        · simp at hp
end
section
variable {w : World} {Z : Nat→Prop} {inj : Inj} {st : AS} {a : Act} {Ds : List Nat}
theorem qne {op : BinOp} {k : IntKind} {x y : Int} {r : DV} (h : binI op k x y = some r) (hs : op≠.shl∧op≠.shr) : ∃ v,(∀ t,(binOp op t (.int k x) (.int k y)).run P w = .ok v w)∧RelD w Z r v:=by
  cases op <;> simp only [binI,reduceCtorEq,Option.some.injEq] at h <;> try (simp at hs;done)
  case add=>subst h;exact ⟨_,fun t=>by simp [binOp,Op.intArith],.int _ _⟩
  case sub=>subst h;exact ⟨_,fun t=>by simp [binOp,Op.intArith],.int _ _⟩
  case mul=>subst h;exact ⟨_,fun t=>by simp [binOp,Op.intArith],.int _ _⟩
  case quo=>split at h <;> simp at h;subst h;rename_i a;exact ⟨_,fun t=>by simp [binOp,Op.intDiv,a],.int _ _⟩
  case rem=>split at h <;> simp at h;subst h;rename_i a;exact ⟨_,fun t=>by simp [binOp,Op.intDiv,a],.int _ _⟩
  case and=>subst h;exact ⟨_,fun t=>by simp [binOp,Op.intBits],.int _ _⟩
  case or=>subst h;exact ⟨_,fun t=>by simp [binOp,Op.intBits],.int _ _⟩
  case xor=>subst h;exact ⟨_,fun t=>by simp [binOp,Op.intBits],.int _ _⟩
  case eql=>subst h;exact ⟨_,fun t=>by simp [binOp,Op.intCmp],.bool _⟩
  case neq=>subst h;exact ⟨_,fun t=>by simp [binOp,Op.intCmp],.bool _⟩
  case lss=>subst h;exact ⟨_,fun t=>by simp [binOp,Op.intCmp],.bool _⟩
  case leq=>subst h;exact ⟨_,fun t=>by simp [binOp,Op.intCmp],.bool _⟩
  case gtr=>subst h;exact ⟨_,fun t=>by simp [binOp,Op.intCmp],.bool _⟩
  case geq=>subst h;exact ⟨_,fun t=>by simp [binOp,Op.intCmp],.bool _⟩
theorem ql1 {op : BinOp} {k b : IntKind} {x y : Int} {r : DV} (h : q87 op k x y = some r) : ∃ v,(∀ t,(binOp op t (.int k x) (.int b y)).run P w = .ok v w)∧RelD w Z r v:=by
  unfold q87 at h;split at h <;> try simp at h
  rename_i a;cases op <;> simp only [reduceCtorEq,Option.some.injEq] at h
  case shl=>subst h;exact ⟨_,fun t=>by simp [binOp,Op.shift,a],.int _ _⟩
  case shr=>subst h;exact ⟨_,fun t=>by simp [binOp,Op.shift,a],.int _ _⟩
theorem q16 {op : BinOp} {t : TypeId} {x y : Operand} {u v : Value} (a : ∀ c,u≠.agg c) (b : u≠.nilIface) : (eqGuard op t x y u v).run P w = .ok () w:=by
  unfold eqGuard;cases op <;> simp <;> cases u <;> simp_all
theorem qhc {op : BinOp} {t : TypeId} {x y : Operand} {u v : Array Value} (h : P.eqGuardType P.depth t = false) : (eqGuard op t x y (.agg u) (.agg v)).run P w = .ok () w:=by
  unfold eqGuard;cases op <;> simp [h]
end
end Go.Am
namespace Go.Am
open Go
variable {P : Program} {T : Tab}
section
variable {w : World} {Z : Nat→Prop} {inj : Inj} {st : AS} {a : Act} {Ds : List Nat}
theorem qme {a : TypeId → Option (List (Option IntKind))} {k : Nat} (c : ∀ t ks, a t = some ks → P.eqGuardType k t = false) : ∀ {l : List Field} {o : Nat} {ks}, tile P a o l = some ks → l.any (fun f => f.name != "_" && P.eqGuardType k f.type) = false
  | [],_,_,_=>rfl
  | f::r,o,ks,h=>by
    simp only [tile] at h
    cases hp : a f.type with
    | none=>simp [hp] at h
    | some ka=>
      simp only [hp] at h
      split at h <;> try simp at h
      cases b : tile P a (o + ka.length) r with
      | none=>simp [b] at h
      | some kb=>
        have:=qme c b
        simp only [List.any_cons,this,c _ _ hp,Bool.and_false,Bool.or_false]
theorem qef : ∀ (d : Nat) (t : TypeId) (ks : List (Option IntKind)),Ki P d t = some ks→∀ k,d≤k→P.eqGuardType k t = false
  | 0,t,ks,h,k,hk=>by simp [Ki] at h
  | d + 1,t,ks,h,k,hk=>by
    obtain ⟨k,rfl⟩ : ∃ b,k = b + 1:=⟨k - 1,q0⟩
    simp only [Ki] at h
    simp only [Program.eqGuardType]
    cases c : P.underlying t with
    | none=>rfl
    | some desc=>
      cases desc <;> simp only [c,reduceCtorEq] at h <;> try rfl
      case array n e=>
        cases hp : Ki P d e with
        | none=>simp [hp] at h
        | some a=>exact qef d e a hp k q0
      case struct fs=>
        split at h <;> try simp at h
        have:=qme (fun t ks hp=>qef d t ks hp k q0) h
        simp only []
        rw [← Array.any_toList];exact this
theorem qjp {op : BinOp} {t : TypeId} {i : TI} {x y : Operand} {p q : List DV} {ks : List (Option IntKind)} {r : Bool} {b : DV} (h : RelS w Z inj st a Ds) (v : tiOf P t = some i) (u : st.ev x = some (.d (.agg p))) (s : st.ev y = some (.d (.agg q)))
    (he : i.eqs = some ks) (hc : Kf ks p q = some r) (m : (op = .eql∧b = .bool r)∨(op = .neq∧b = .bool (!r))) :
    Kk st st (.d b) w Z inj ((do pure (Next.value (← (do eqGuard op t x y (a.eval x) (a.eval y);binOp op t (a.eval x) (a.eval y) : Sem Value)) ) : Sem Next).run P w):=by
  obtain ⟨o,d,z,k⟩:=Yn v;have j:=Kb h u;have g:=Kb h s;generalize a.eval x = vx at j ⊢;generalize a.eval y = vy at g ⊢
  cases j with | d j=>cases j with | @agg _ X hl1 hr1=>
  cases g with | d g=>cases g with | @agg _ Y hl2 hr2=>
  obtain ⟨f,l⟩:=k.eqs ks he;have n : P.eqGuardType P.depth t = false:=qef 8 t ks f _ (by unfold Program.depth Made.depth;omega);have c:=(qai (w:=w) (Z:=Z) 8 t d ks k.und f Op.maxDepth (by unfold Op.maxDepth;omega) p q X Y r ⟨hl1,hr1⟩ ⟨hl2,hr2⟩ hc).1 l;rcases m with ⟨rfl,rfl⟩ | ⟨rfl,rfl⟩
  · exact .quiet h (Kj (x:=.bool r) (by simp [qhc n,binOp,Op.equal,c])) (.d (.bool _))
  · exact .quiet h (Kj (x:=.bool (!r)) (by simp [qhc n,binOp,Op.equal,c])) (.d (.bool _))
theorem qs3 {op : BinOp} {t : TypeId} {x y : Operand} {k j : IntKind} {p q : Int} {b : DV} (h : RelS w Z inj st a Ds) (s : st.ev x = some (.d (.int k p))) (n : st.ev y = some (.d (.int j q)))
    (c : binD op (.int k p) (.int j q) = some b) :
    Kk st st (.d b) w Z inj ((do pure (Next.value (← (do eqGuard op t x y (a.eval x) (a.eval y);binOp op t (a.eval x) (a.eval y) : Sem Value)) ) : Sem Next).run P w):=by
  have m:=Kb h s;have l:=Kb h n;generalize a.eval x = vx at m ⊢;generalize a.eval y = vy at l ⊢
  cases m with | d m=>
  cases m
  cases l with | d l=>
  cases l;have z:=q16 (P:=P) (w:=w) (op:=op) (t:=t) (x:=x) (y:=y) (u:=.int k p) (v:=.int j q) qe qe
  have key : ∃ v,(∀ t,(binOp op t (.int k p) (.int j q)).run P w = .ok v w)∧RelD w Z b v:=by
    unfold binD at c;split at c
    · rename_i f g;cases f;cases g;exact ql1 c
    · rename_i f g;cases f;cases g;exact ql1 c
    · rename_i n1 n2 f g;cases f;cases g;split at c <;> try simp at c
      rename_i r;subst r;exact qne c ⟨fun e=>n1 e,fun e=>n2 e⟩
    · simp at c
  obtain ⟨v,hv,o⟩:=key;exact .quiet h (Kj (x:=v) (by simp [z,hv])) (.d o)
theorem maxD : Op.maxDepth = 9999 + 1:=rfl
theorem qp8 {t : TypeId} (h : P.underlying t = some .bool) (p q : Bool) : (Op.equal t (.bool p) (.bool q)).run P w = .ok (p == q) w:=by
  rw [Op.equal,maxD,Op.equalIn];simp only [Sem.run_bind,run_underlying h,Result.andThen_ok];rfl
theorem qhg {t e : TypeId} (h : P.underlying t = some (.slice e)) (a : Option Addr) (n c : Nat) : (Op.equal t (.slice none 0 0) (.slice a n c)).run P w = .ok a.isNone w:=by
  rw [Op.equal,maxD,Op.equalIn];simp only [Sem.run_bind,run_underlying h,Result.andThen_ok];rfl
theorem qpc {t e : TypeId} (h : P.underlying t = some (.slice e)) (a : Addr) (n c : Nat) : (Op.equal t (.slice (some a) n c) (.slice none 0 0)).run P w = .ok false w:=by
  rw [Op.equal,maxD,Op.equalIn];simp only [Sem.run_bind,run_underlying h,Result.andThen_ok];rfl
theorem qp9 {t : TypeId} {x y z} (h : P.underlying t = some (.func x y z)) : (Op.equal t .nilFunc .nilFunc).run P w = .ok true w:=by
  rw [Op.equal,maxD,Op.equalIn];simp only [Sem.run_bind,run_underlying h,Result.andThen_ok];rfl
theorem qpa {t : TypeId} {x y z} (h : P.underlying t = some (.func x y z)) (f g c) : (Op.equal t .nilFunc (.func f g c)).run P w = .ok false w:=by
  rw [Op.equal,maxD,Op.equalIn];simp only [Sem.run_bind,run_underlying h,Result.andThen_ok];rfl
theorem qpb {t : TypeId} {x y z} (h : P.underlying t = some (.func x y z)) (f g c) : (Op.equal t (.func f g c) .nilFunc).run P w = .ok false w:=by
  rw [Op.equal,maxD,Op.equalIn];simp only [Sem.run_bind,run_underlying h,Result.andThen_ok];rfl
theorem q3b {t : TypeId} {u v : Value} {r : Bool} (f : (Op.equal t u v).run P w = .ok r w) (d : ∀ k n,u≠.int k n) (b : ∀ k n,u≠.float k n) (a : ∀ k n m,u≠.complex k n m) (c : ∀ s,u≠.string s) :
    (binOp .eql t u v).run P w = .ok (.bool r) w∧(binOp .neq t u v).run P w = .ok (.bool (!r)) w:=by
  cases u <;> first | (exfalso;exact d _ _ rfl) | (exfalso;exact b _ _ rfl) | (exfalso;exact a _ _ _ rfl) | (exfalso;exact c _ rfl) | (constructor <;> (simp only [binOp];simp [f]))
theorem qs2 {op : BinOp} {t : TypeId} {i : TI} {x y : Operand} {p q : DV} {b : DV} (h : RelS w Z inj st a Ds) (ht : tiOf P t = some i) (hx : st.ev x = some (.d p)) (hy : st.ev y = some (.d q))
    (n : binE op i.kind p q = some b) :
    Kk st st (.d b) w Z inj ((do pure (Next.value (← (do eqGuard op t x y (a.eval x) (a.eval y);binOp op t (a.eval x) (a.eval y) : Sem Value)) ) : Sem Next).run P w):=by
  obtain ⟨ac,d,z,k⟩:=Yn ht;have l:=Kb h hx;have j:=Kb h hy;generalize a.eval x = vx at l ⊢;generalize a.eval y = vy at j ⊢
  cases l with | d l=>
  cases j with | d j=>
  have key : ∀ r,eqK i.kind p q = some r→(eqGuard op t x y vx vy).run P w = .ok () w∧(binOp .eql t vx vy).run P w = .ok (.bool r) w∧(binOp .neq t vx vy).run P w = .ok (.bool (!r)) w:=by
    intro r c;have m:=k.kind;unfold Ze at m;unfold eqK at c;split at c <;> simp at c <;> (rename_i s;simp only [s] at m)
    · subst c;obtain ⟨rfl,_⟩:=m;cases l;cases j;exact ⟨q16 qe qe,q3b (qp8 k.und _ _) qe qe qe qe⟩
    · subst c;cases l;cases j;exact ⟨q16 qe qe,by simp only [binOp,Op.stringOp];rfl,by simp only [binOp,Op.stringOp];rfl⟩
    · subst c;obtain ⟨e,ie,v,ze,rfl,_⟩:=m;cases l;cases j;exact ⟨q16 qe qe,q3b (qhg k.und _ _ _) qe qe qe qe⟩
    · subst c;obtain ⟨e,ie,v,ze,rfl,_⟩:=m;cases l;cases j;exact ⟨q16 qe qe,q3b (qhg k.und _ _ _) qe qe qe qe⟩
    · subst c;obtain ⟨e,ie,v,ze,rfl,_⟩:=m;cases l;cases j;exact ⟨q16 qe qe,q3b (qpc k.und _ _ _) qe qe qe qe⟩
    · subst c;obtain ⟨⟨e,f,g,rfl⟩,_⟩:=m;cases l;cases j;exact ⟨q16 qe qe,q3b (qp9 k.und) qe qe qe qe⟩
    · subst c;obtain ⟨⟨e,f,g,rfl⟩,_⟩:=m;cases l;cases j;exact ⟨q16 qe qe,q3b (qpa k.und _ _ _) qe qe qe qe⟩
    · subst c;obtain ⟨⟨e,f,g,rfl⟩,_⟩:=m;cases l;cases j;exact ⟨q16 qe qe,q3b (qpb k.und _ _ _) qe qe qe qe⟩
  unfold binE at n;split at n
  · cases c : eqK i.kind p q with
    | none=>simp [c] at n
    | some r=>
      simp [c] at n;subst n;obtain ⟨u,o,_⟩:=key r c;exact .quiet h (Kj (x:=.bool r) (by simp [u,o])) (.d (.bool _))
  · cases c : eqK i.kind p q with
    | none=>simp [c] at n
    | some r=>
      simp [c] at n;subst n;obtain ⟨u,_,o⟩:=key r c;exact .quiet h (Kj (x:=.bool (!r)) (by simp [u,o])) (.d (.bool _))
  · simp at n
end
end Go.Am
namespace Go.Am
open Go
variable {P : Program} {T : Tab}
section
variable {w : World} {Z : Nat→Prop} {inj : Inj} {st : AS} {a : Act} {Ds : List Nat}
theorem qso {op : UnOp} {x : Operand} {p b : DV} (h : RelS w Z inj st a Ds) (g : st.ev x = some (.d p)) (c : unD op p = some b) :
    Kk st st (.d b) w Z inj ((do pure (Next.value (← Op.unary op (a.eval x))) : Sem Next).run P w):=by
  have f:=Kb h g;generalize a.eval x = vx at f ⊢
  cases f with | d f=>
  unfold unD at c;split at c
  · simp at c;subst c;cases f;exact .quiet h (Kj (by simp [Op.unary,Op.intArith])) (.d (.int _ _))
  · simp at c;subst c;cases f;exact .quiet h (Kj (by simp [Op.unary])) (.d (.bool _))
  · cases f;simp only [binI,Option.some.injEq] at c;subst c;exact .quiet h (Kj (by simp [Op.unary,Op.intBits])) (.d (.int _ _))
  · simp at c
theorem qs8 {src dst : TypeId} {i j : TI} {x : Operand} {k0 r k : IntKind} {n : Int} (h : RelS w Z inj st a Ds) (hi : tiOf P src = some i) (t : tiOf P dst = some j) (l : i.kind = .int k0) (f : j.kind = .int k) (s : st.ev x = some (.d (.int r n))) :
    Kk st st (.d (.int k (k.wrap n))) w Z inj ((do pure (Next.value (← convert src dst (a.eval x))) : Sem Next).run P w):=by
  obtain ⟨q,d,z,p⟩:=Yn hi;obtain ⟨g,v,u,o⟩:=Yn t;have m:=p.kind;have c:=o.kind;unfold Ze at m c;simp only [l,f] at m c;obtain ⟨rfl,_⟩:=m;obtain ⟨rfl,_⟩:=c;have b:=Kb h s;generalize a.eval x = vx at b ⊢
  cases b with | d b=>
  cases b;refine .quiet h (Kj (x:=.int k (k.wrap n)) ?_) (.d (.int _ _));simp only [convert,Sem.run_bind,run_underlying p.und,run_underlying o.und,Result.andThen_ok];simp [Conv.intToInt]
theorem qsi {f : FuncId} {first b : Array Operand} {j : List V} (h : RelS w Z inj st a Ds) (n : first.size = 0) (o : evL st.ev b.toList = some j) :
    Kk st st (match allD j with | some ds=>.d (.fn f ds) | none=>.fn f j) w Z inj ((do pure (Next.value (← Instr.makeFunc (.func f) (first.map a.eval) (b.map a.eval))) : Sem Next).run P w):=by
  have g:=q7i h o;have k : first.map a.eval = #[]:=by apply Array.eq_empty_of_size_eq_zero;simpa using n
  have l : (b.toList.map a.eval).toArray = b.map a.eval:=by apply Array.ext';simp
  rw [l] at g;refine .quiet h (Kj (x:=.func (.func f) #[] (b.map a.eval)) (by simp [Instr.makeFunc,k])) ?_;split
  · rename_i ds hd;have:=q4c hd;subst this;refine .d (.fn (by simpa using g.1) fun i d c hd m=>?_);have:=g.2 i (.d d) c (by simp [hd]) m
    cases this with | d h=>exact h
  · exact .fn g.1 g.2
theorem qjq {x : Operand} {k : Nat} {v : V} (h : RelS w Z inj st a Ds) (l : (∃ b d,st.ev x = some (.d (.tup b))∧b[k]? = some d∧v = .d d)∨∃ b,st.ev x = some (.tup b)∧b[k]? = some v) :
    Kk st st v w Z inj ((do pure (Next.value (← Instr.extract (a.eval x) k)) : Sem Next).run P w):=by
  rcases l with ⟨b,d,l,j,rfl⟩ | ⟨b,l,j⟩
  · have f:=Kb h l;generalize a.eval x = vx at f ⊢
    cases f with | d f=>
    cases f with | @tup _ cs hl hr=>
    obtain ⟨c,g⟩:=Ya (xs:=cs) (i:=k) (by have:=Ke j;omega);exact .quiet h (Kj (x:=c) (by simp [Instr.extract,g])) (.d (hr _ _ _ j g))
  · have f:=Kb h l;generalize a.eval x = vx at f ⊢
    cases f with | @tup _ cs hl hr=>
    obtain ⟨c,g⟩:=Ya (xs:=cs) (i:=k) (by have:=Ke j;omega);exact .quiet h (Kj (x:=c) (by simp [Instr.extract,g])) (hr _ _ _ j g)
theorem qfx {nx : Nat} {v : V} {x : Value} {cs : List V} (h : RelV w Z inj nx v x) (a : agD v = some cs) : ∃ xs,x = .agg xs∧LRel w Z inj nx cs xs:=by
  unfold agD at a;split at a <;> simp at a
  · subst a
    cases h with | d h=>
    cases h with | @agg _ X hl hr=>
    refine ⟨X,rfl,by simpa using hl,fun i d c hd f=>?_⟩;simp only [List.getElem?_map,Y4] at hd;obtain ⟨g,b,rfl⟩:=hd;exact .d (hr i g c b f)
  · subst a
    cases h with | @agg _ X hl hr=>exact ⟨X,rfl,hl,hr⟩
theorem qsb {s : TypeId} {i : TI} {x : Operand} {g v : V} {f off size : Nat} {ag : Bool} {cs r : List V} (h : RelS w Z inj st a Ds) (hi : tiOf P s = some i) (n : st.ev x = some g) (m : i.kind = .struct) (t : i.flds[f]? = some (off,size,ag))
    (ha : agD g = some cs) (hs : sub cs off size = some r) (hp : pack ag r = some v) :
    Kk st st v w Z inj ((do pure (Next.value (← Instr.field s (a.eval x) f)) : Sem Next).run P w):=by
  obtain ⟨j,d,z,k⟩:=Yn hi;have b:=k.kind;unfold Ze at b;simp only [m] at b;obtain ⟨fs,rfl,c⟩:=b;obtain ⟨fd,jf,df,g1,o,p,u,g5,q,g7⟩:=qdh c t;obtain ⟨xs,he,l⟩:=qfx (Kb h n) ha;subst u q g7;obtain ⟨y,hy,hr⟩:=qjz (P:=P) o p l hs hp;refine .quiet h (Kj (x:=y) ?_) hr;simp only [Instr.field,Sem.run_bind,run_underlying k.und,Result.andThen_ok,g1,he,asAgg,Sem.run_pure,hy]
theorem qsd {t : TypeId} {i : TI} {x g : Operand} {j v : V} {k0 : IntKind} {n : Int} {cs r : List V} (h : RelS w Z inj st a Ds) (hi : tiOf P t = some i) (s : st.ev x = some j) (hn : st.ev g = some (.d (.int k0 n))) (q : i.kind = .array)
    (ha : agD j = some cs) (h0 : 0≤n∧n < i.len) (hs : sub cs (n.toNat * i.esize) i.esize = some r) (hp : pack i.eagg r = some v) :
    Kk st st v w Z inj ((do pure (Next.value (← Instr.index t (a.eval x) (a.eval g))) : Sem Next).run P w):=by
  obtain ⟨l,d,z,k⟩:=Yn hi;have b:=k.kind;unfold Ze at b;simp only [q] at b;obtain ⟨e,ie,de,rfl,m,u,f,g4,g5⟩:=b;obtain ⟨xs,he,p⟩:=qfx (Kb h s) ha;have c:=Kb h hn;generalize a.eval g = vx at c ⊢
  cases c with | d c=>
  cases c;rw [← f] at hs;rw [← g5] at hp;obtain ⟨y,o,hr⟩:=qjz (P:=P) m u p hs hp;refine .quiet h (Kj (x:=y) ?_) hr;simp only [Instr.index,asIntOf,Sem.run_bind,Sem.run_pure,run_underlying k.und,Result.andThen_ok,he];rw [Sem.run_ite,qm h0];simp only [Sem.run_bind,Zd m,Result.andThen_ok,f];rw [f] at o;exact o
theorem qsf {t : TypeId} {i : TI} {x j : Operand} {k0 : IntKind} {n : Int} {s : ByteArray} {b : UInt8} (h : RelS w Z inj st a Ds) (hi : tiOf P t = some i) (o : st.ev x = some (.d (.str s))) (p : st.ev j = some (.d (.int k0 n))) (m : i.kind = .str)
    (hb : (if 0≤n then s[n.toNat]? else none) = some b) :
    Kk st st (.d (.int .u8 b.toNat)) w Z inj ((do pure (Next.value (← Instr.index t (a.eval x) (a.eval j))) : Sem Next).run P w):=by
  obtain ⟨l,d,z,k⟩:=Yn hi;have c:=k.kind;unfold Ze at c;simp only [m] at c;obtain ⟨rfl,_⟩:=c;have f:=Kb h o;have g:=Kb h p;generalize a.eval x = vy at f ⊢;generalize a.eval j = vx at g ⊢
  cases f with | d f=>
  cases f
  cases g with | d g=>
  cases g;refine .quiet h (Kj (x:=.int .u8 b.toNat) ?_) (.d (.int _ _));simp only [Instr.index,asIntOf,Sem.run_bind,Sem.run_pure,run_underlying k.und,Result.andThen_ok,hb]
theorem qsc {s : TypeId} {i : TI} {p : Operand} {pv v : V} {f off size : Nat} {ag : Bool} (h : RelS w Z inj st a Ds) (hi : tiOf P s = some i) (u : st.ev p = some pv) (t : i.kind = .struct) (hf : i.flds[f]? = some (off,size,ag))
    (hp : qdd off pv = some v) :
    Kk st st v w Z inj ((do pure (Next.value (← Instr.fieldAt s (a.eval p) f)) : Sem Next).run P w):=by
  obtain ⟨q,d,z,k⟩:=Yn hi;have l:=k.kind;unfold Ze at l;simp only [t] at l;obtain ⟨fs,rfl,m⟩:=l;obtain ⟨fd,jf,df,g1,y,g3,r,g5,g6,g7⟩:=qdh m hf;have g:=Kb h u;generalize a.eval p = vx at g ⊢
  have c : ∀ b o,(Instr.fieldAt s (.pointer (some ⟨b,o,none⟩)) f).run P w = .ok (.pointer (some ⟨b,o + off,none⟩)) w:=by
    intro b o;simp only [Instr.fieldAt,Instr.sureAddr,fieldPlace,Sem.run_bind,run_underlying k.und,Result.andThen_ok,g1,Sem.run_pure,Zd y,Sem.run_ite,r,ql g5,Jo,g6]
  cases pv <;> simp only [qdd,reduceCtorEq,Option.some.injEq] at hp
  case ref n es ii j=>
    subst hp
    cases g with | @ref _ _ _ _ b o h1 h2=>
    refine .quiet h (Kj (c _ _)) ?_;have:=RelV.ref (w:=w) (Z:=Z) (nx:=st.nx) (es:=es) (i:=ii) (j:=j + off) h1 h2
    rwa [show o + (ii * es + (j + off)) = o + (ii * es + j) + off by omega] at this
  case dref cs j=>
    subst hp
    cases g with | @dref _ _ b o h1 h2 g=>
    refine .quiet h (Kj (c _ _)) ?_;have:=RelV.dref (inj:=inj) (nx:=st.nx) (j:=j + off) h1 h2 g
    rwa [← Nat.add_assoc] at this
  case d x=>
    cases x <;> simp only [reduceCtorEq,Option.some.injEq] at hp
    subst hp
    cases g with | d g=>
    cases g with | box h1 h2 g=>
    exact .quiet h (Kj (c _ _)) (RelV.dref (inj:=inj) (nx:=st.nx) (j:=off) h1 h2 g)
theorem qse {t : TypeId} {i : TI} {x ix : Operand} {xv v : V} {k0 : IntKind} {n : Int} (h : RelS w Z inj st a Ds) (hi : tiOf P t = some i) (hx : st.ev x = some xv) (hn : st.ev ix = some (.d (.int k0 n)))
    (hp : q3k i xv n = some v) :
    Kk st st v w Z inj ((do pure (Next.value (← Instr.indexAt t (a.eval x) (a.eval ix))) : Sem Next).run P w):=by
  obtain ⟨ah,d,z,k⟩:=Yn hi;have p:=k.kind;unfold Ze at p;have u:=Kb h hn;generalize a.eval ix = vx at u ⊢
  cases u with | d u=>
  cases u;have l:=Kb h hx;generalize a.eval x = vx at l ⊢
  have q : i.kind = .slice→∀ b o len cap,0≤n→n < (len : Nat)→(Instr.indexAt t (.slice (some ⟨b,o,none⟩) len cap) (.int k0 n)).run P w = .ok (.pointer (some ⟨b,o + n.toNat * i.esize,none⟩)) w:=by
    intro s b o len cap f r;simp only [s] at p;obtain ⟨e,ie,de,ze,rfl,g1,g2,g3,g4,g5,g6,_⟩:=p;simp only [Instr.indexAt,asIntOf,Sem.run_bind,Sem.run_pure,run_underlying k.und,Result.andThen_ok];rw [Sem.run_ite,qm ⟨f,r⟩];simp only [Sem.run_bind,Zd g1,Result.andThen_ok,Sem.run_pure,Jo,g6]
  have g : i.kind = .array→∀ b o,0≤n→n < i.len→(Instr.indexAt t (.pointer (some ⟨b,o,none⟩)) (.int k0 n)).run P w = .ok (.pointer (some ⟨b,o + n.toNat * i.esize,none⟩)) w:=by
    intro s b o f r;simp only [s] at p;obtain ⟨e,ie,de,rfl,g1,g2,g3,g4,_⟩:=p;simp only [Instr.indexAt,asIntOf,Instr.sureAddr,Sem.run_bind,Sem.run_pure,run_underlying k.und,Result.andThen_ok];rw [Sem.run_ite,qm ⟨f,r⟩];simp only [Sem.run_bind,Zd g1,Result.andThen_ok,Sem.run_pure,Jo,g3]
  cases s : i.kind <;> simp only [q3k,s,reduceCtorEq] at hp
  case slice=>
    cases xv <;> (try simp only [reduceCtorEq] at hp)
    case d x=>
      cases x <;> (try simp only [reduceCtorEq] at hp)
      rename_i es xs;split at hp <;> simp at hp
      rename_i f;obtain ⟨f,he⟩:=f;obtain ⟨cs,y,rfl⟩:=hp;have aa:=Ke y
      cases l with | d l=>
      cases l with
      | slnil=>simp at aa
      | slemp=>simp at aa
      | @sl _ _ b o cap r h2 h4 h5 h6=>
        refine .quiet h (Kj (q s _ _ _ _ f q0)) ?_
        have:=RelV.dref (w:=w) (Z:=Z) (inj:=inj) (nx:=st.nx) (cs:=cs) (j:=0) (b:=b) (o:=o + n.toNat * i.esize) (h2 (by rintro rfl;simp at aa))
          (fun k d hd=>by have:=(h5 n.toNat cs k d y hd).2;rwa [he,← Nat.add_assoc] at this)
          (fun k d c hd hc=>h6 n.toNat cs k d c y hd (by rwa [he,← Nat.add_assoc]))
        simpa using this
    case hs m es off len=>
      split at hp <;> simp at hp
      rename_i f;obtain ⟨f,r,he⟩:=f;subst hp
      cases l with
      | hsnil=>omega
      | @hs _ _ _ _ cap ad hn hle _ hcap=>
        obtain ⟨b,o,hi,rfl,_⟩:=hcap q0;refine .quiet h (Kj (q s _ _ _ _ f q0)) ?_;have:=RelV.ref (w:=w) (Z:=Z) (nx:=st.nx) (es:=es) (i:=off + n.toNat) (j:=0) hn hi;rw [show o + off * es + n.toNat * i.esize = o + ((off + n.toNat) * es + 0) by rw [← he,Nat.add_mul];omega];exact this
  case array=>
    cases xv <;> (try simp only [reduceCtorEq] at hp)
    case ref m es e j=>
      split at hp <;> simp at hp
      rename_i f;subst hp
      cases l with | @ref _ _ _ _ b o r h2=>
      refine .quiet h (Kj (g s _ _ f.1 f.2)) ?_;have:=RelV.ref (w:=w) (Z:=Z) (nx:=st.nx) (es:=es) (i:=e) (j:=j + n.toNat * i.esize) r h2
      rwa [← Nat.add_assoc,← Nat.add_assoc,Nat.add_assoc o] at this
    case dref cs j=>
      split at hp <;> simp at hp
      rename_i f;subst hp
      cases l with | @dref _ _ b o r h2 l=>
      refine .quiet h (Kj (g s _ _ f.1 f.2)) ?_;have:=RelV.dref (inj:=inj) (nx:=st.nx) (j:=j + n.toNat * i.esize) r h2 l
      rwa [← Nat.add_assoc] at this
    case d x=>
      cases x <;> (try simp only [reduceCtorEq] at hp)
      split at hp <;> simp at hp
      rename_i f;subst hp
      cases l with | d l=>
      cases l with | box r h2 l=>
      exact .quiet h (Kj (g s _ _ f.1 f.2)) (RelV.dref (inj:=inj) (nx:=st.nx) (j:=n.toNat * i.esize) r h2 l)
end
end Go.Am
namespace Go.Am
open Go
variable {P : Program} {T : Tab}
theorem qfn {n : Int} (h : -9223372036854775808≤n∧n≤9223372036854775807) : IntKind.i64.wrap n = n:=by rw [IntKind.wrap_i64];omega
theorem qgh {es i a j : Nat} (b : j < es) : (i * es≤a * es + j∧a * es + j < i * es + es)↔a = i:=by
  constructor
  · intro ⟨c,d⟩;rcases Nat.lt_trichotomy a i with h | h | h
    · have:=Nat.mul_le_mul_right es (show a + 1≤i from h);rw [Nat.add_mul] at this;omega
    · exact h
    · have:=Nat.mul_le_mul_right es (show i + 1≤a from h);rw [Nat.add_mul] at this;omega
  grind
theorem q3d {es n i j : Nat} (hi : i < n) (a : j < es) : i * es + j < n * es:=by
  have:=Nat.mul_le_mul_right es (show i + 1≤n from hi);rw [Nat.add_mul] at this;omega
section
variable {w : World} {Z : Nat→Prop} {inj : Inj} {st : AS} {a : Act} {Ds : List Nat}
theorem qge {b y : Nat} {o : Option Operand} {n : Nat} {code : BoundsCode} (h : RelS w Z inj st a Ds) (hb : bound st b o = some n) (j : n≤y) :
    (∀ op,o = some op→(Instr.sliceBound (a.eval op) y code).run P w = .ok n w)∧(o = none→n = b):=by
  cases o with
  | none=>simp [bound] at hb;exact ⟨qe,fun _=>hb.symm⟩
  | some op=>
    refine ⟨fun f e=>?_,qe⟩;cases e;simp only [bound] at hb;split at hb <;> try simp at hb
    rename_i k m g;have c:=Kb h g;generalize a.eval op = vx at c ⊢
    cases c with | d c=>
    cases c;obtain ⟨l,rfl⟩:=hb;simp only [Instr.sliceBound,asIntOf,Sem.run_bind,Sem.run_pure,Result.andThen_ok];simp_all
theorem qsm {t : TypeId} {i : TI} {x : Operand} {xv v : V} {lo hi : Option Operand} {n p q : Nat} (h : RelS w Z inj st a Ds) (ht : tiOf P t = some i) (hk : i.kind = .slice) (f : st.ev x = some xv) (s : lenV xv = some n)
    (ai : bound st 0 lo = some p) (aj : bound st n hi = some q) (hs : qbc i.esize xv p q = some v) :
    Kk st st v w Z inj ((do pure (Next.value (← Instr.sliceAt t (a.eval x) (lo.map a.eval) (hi.map a.eval) none)) : Sem Next).run P w):=by
  obtain ⟨aq,d,z,k⟩:=Yn ht;have ab:=k.kind;unfold Ze at ab;simp only [hk] at ab;obtain ⟨e,ie,de,ze,rfl,g1,g2,g3,g4,g5,g6,g7,_⟩:=ab;have h3:=Kb h f;generalize a.eval x = vx at h3 ⊢
  have run : ∀ ad len cap,len = n→q≤cap→p≤q→(Instr.sliceAt t (.slice ad len cap) (lo.map a.eval) (hi.map a.eval) none).run P w = .ok (.slice (if cap = p then ad else ad.map (·.add (p * i.esize))) (q - p) (cap - p)) w:=by
    intro ad len cap hl hq hp;obtain ⟨l1,l2⟩:=qge (P:=P) (y:=q) (code:=.sliceB) h ai hp;obtain ⟨r1,r2⟩:=qge (P:=P) (y:=cap) (code:=.sliceAcap) h aj hq;simp only [Instr.sliceAt,Sem.run_bind,run_underlying k.und,Result.andThen_ok,Instr.slice,Instr.sliceBounds,Zd g1,g6]
    cases hi with
    | none=>
      have:=r2 rfl;subst this
      cases lo with
      | none=>have:=l2 rfl;subst this;simp [hl]
      | some o=>simp [hl,l1 o rfl]
    | some o'=>
      cases lo with
      | none=>have:=l2 rfl;subst this;simp [r1 o' rfl]
      | some o=>simp [r1 o' rfl,l1 o rfl]
  cases xv <;> simp only [qbc,reduceCtorEq] at hs
  case d x=>
    cases x <;> simp only [reduceCtorEq] at hs
    case nilsl=>
      split at hs <;> simp at hs
      rename_i u;obtain ⟨rfl,rfl⟩:=u;subst hs;simp [lenV] at s
      cases h3 with | d h3=>
      cases h3;exact .quiet h (Kj (run _ _ _ s q0 q0)) (by simpa using RelV.d .nilsl)
    case sl es xs=>
      split at hs <;> simp at hs
      rename_i u;obtain ⟨u,h1,he⟩:=u;subst hs;simp [lenV] at s
      cases h3 with | d h3=>
      cases h3 with
      | slnil=>
        simp at h1 s;obtain ⟨rfl,rfl⟩ : q = 0∧p = 0:=by omega
        exact .quiet h (Kj (run _ _ _ s q0 q0)) (by simpa using RelV.d (.slnil _))
      | slemp=>
        simp at h1 s;obtain ⟨rfl,rfl⟩ : q = 0∧p = 0:=by omega
        exact .quiet h (Kj (run _ _ _ s q0 q0)) (by simpa using RelV.d (.slemp _ _))
      | @sl _ _ b o cap hc hz hl hcell hrel=>
        refine .quiet h (Kj (run _ _ _ s q0 u)) ?_;have g : ((xs.drop p).take (q - p)).length = q - p:=by simp;omega
        have r : ∀ (i : Nat) (x : List DV),((xs.drop p).take (q - p))[i]? = some x→xs[p + i]? = some x:=by
          intro i x f;rw [List.getElem?_take] at f;split at f
          · rwa [List.getElem?_drop] at f
          · simp at f
        by_cases l : cap = p
        · rw [qm l];have h9 : (xs.drop p).take (q - p) = []:=List.eq_nil_of_length_eq_zero (by rw [g];omega);have h8 : q - p = 0:=by omega
          rw [h9,h8];exact .d (RelD.sl (es:=es) (xs:=[]) qe qe qe qe qe)
        · rw [ql l,Option.map_some,Jo]
          have e2 : ∀ k j,o + p * i.esize + (k * es + j) = o + ((p + k) * es + j):=by
            intro k j;rw [← he,Nat.add_mul];omega
          have:=RelD.sl (w:=w) (Z:=Z) (es:=es) (xs:=(xs.drop p).take (q - p)) (b:=b) (o:=o + p * i.esize) (cap:=cap - p) (by rw [g];omega) (fun ac=>hz (by rintro rfl;simp at ac)) (fun i x f=>hl _ _ (r i x f))
            (fun k x j d f hd=>by rw [e2];exact hcell _ _ j d (r k x f) hd)
            (fun k x j d c f hd hc=>hrel _ _ j d c (r k x f) hd (by rw [e2] at hc;exact hc))
          rw [g] at this;exact .d this
  case hs m es off len=>
    split at hs <;> simp at hs
    rename_i u;obtain ⟨u,h1,he⟩:=u;subst hs;simp [lenV] at s
    cases h3 with
    | hsnil hm=>
      obtain ⟨rfl,rfl⟩ : q = 0∧p = 0:=by omega
      exact .quiet h (Kj (run _ _ _ s q0 q0)) (by simpa using RelV.hsnil (es:=es) (off:=off) hm)
    | @hs _ _ _ _ cap ad hm hc hsp hcap=>
      refine .quiet h (Kj (run _ _ _ s q0 u)) ?_;by_cases l : cap = p
      · rw [qm l];exact .hs hm q0 hsp (fun ac=>q0)
      · rw [ql l,Option.map_some];obtain ⟨b,o,hi,rfl,ap⟩:=hcap q0;rw [Jo];refine .hs hm q0 rfl fun _=>⟨b,o,hi,?_,?_⟩
        · rw [he,Nat.add_mul,← Nat.add_assoc]
        · rwa [show off + p + (cap - p) = off + cap by omega]
theorem qfq {b : Value} {es n i j : Nat} {ds : List DV} (o : b.cells.toList.mapM Zo = some ds) (k : ds.length = es) (hi : i < n) {d : DV} (hd : ds[j]? = some d) :
    ∃ c,((Array.range (n * es)).map (b.cells[· % b.cells.size]!))[i * es + j]? = some c∧RelD w Z d c∧Yd d = true:=by
  obtain ⟨p,l⟩:=q7b (w:=w) (Z:=Z) o;obtain ⟨c,h,m,a,_⟩:=l j d hd;have g : j < es:=by have:=Ke hd;omega
  refine ⟨c,?_,m,a⟩;have f:=q3d hi g;rw [Array.getElem?_map,Array.getElem?_range];simp only [f,if_true,Option.map_some];have : (i * es + j) % b.cells.size = j:=by rw [← p,k,Nat.mul_comm,Nat.mul_add_mod,Nat.mod_eq_of_lt g]
  grind
theorem qsk {t : TypeId} {i : TI} {l c : Operand} {v k2 : IntKind} {n m : Int} (h : RelS w Z inj st a Ds) (ht : tiOf P t = some i) (hk : i.kind = .slice) (hl : st.ev l = some (.d (.int v n))) (s : st.ev c = some (.d (.int k2 m)))
    (h0 : 0≤n) (h1 : n≤m) (q : m * (i.ebytes * 4)≤room) :
    Kk st (st.new (.dat i.esize (List.replicate n.toNat i.ezero))) (.hs st.nx i.esize 0 n.toNat) w Z inj ((do pure (Next.value (← Instr.makeSlice t (a.eval l) (a.eval c))) : Sem Next).run P w):=by
  obtain ⟨aa,d,z,k⟩:=Yn ht;have f:=k.kind;unfold Ze at f;simp only [hk] at f;obtain ⟨e,ie,de,y,rfl,g1,g2,g3,g4,g5,g6,g7,g8,g9,_⟩:=f;have r:=Kb h hl;have o:=Kb h s;generalize a.eval l = vl at r ⊢;generalize a.eval c = vc at o ⊢
  cases r with | d r=>
  cases r
  cases o with | d o=>
  cases o
  have hm : m≤4294967296:=by
    have e1 : (1 : Int)≤(i.ebytes : Int) * 4:=by omega
    have:=Int.mul_le_mul_of_nonneg_left e1 (show (0:Int)≤m by omega);unfold room at q;omega
  have hb : (i.ebytes : Int) * m≤281474976710656:=by
    unfold room at q;grind
  have w1 : IntKind.i64.wrap n = n:=qfn q0;have w2 : IntKind.i64.wrap m = m:=qfn q0;obtain ⟨N,rfl⟩:=Int.eq_ofNat_of_zero_le h0;obtain ⟨M,rfl⟩:=Int.eq_ofNat_of_zero_le (show 0≤m by omega);simp only [Int.toNat_natCast];have b:=run_make (P:=P) w t e ie y k.und g1 g3 v k2 (N : Int) (M : Int) h0 h1 (by rw [g8];exact hb) q0;simp only [Int.toNat_natCast,g6] at b;have u : N≤M:=by omega
  refine .new h (Kj b) ?_ ?_
  · refine ⟨g7,?_,.inr ⟨w.heap.size,0,_,e,Ky _ _ _,Jp _ _,?_⟩⟩
    · grind
    · intro j x j' d p hd;rw [List.getElem?_replicate] at p;split at p <;> simp at p
      rename_i hj;subst p;obtain ⟨c,s,q,g⟩:=qfq (w:=w.alloc (.cells (madeCells y.cells (M * i.esize)) e)) (Z:=Z) g4 g5 (show j < M by omega) hd;exact ⟨g,c,by rw [Nat.zero_add];exact s,q⟩
  · refine .hs q0 u rfl fun _=>⟨w.heap.size,0,Ky _ _ _,qe,?_⟩
    exact ⟨_,_,_,Jp _ _,by rw [size_madeCells];simp⟩
def ERel (w : World) (Z : Nat→Prop) (inj : Inj) (nx es : Nat) (xs : List (List V)) (C : Array Value) : Prop:=
  C.size = xs.length * es∧(∀ (i : Nat) (x : List V),xs[i]? = some x→x.length = es)∧
    ∀ (i : Nat) (x : List V) (j : Nat) (d : V),xs[i]? = some x→x[j]? = some d→Km d = true∧∃ c,C[i * es + j]? = some c∧RelV w Z inj nx d c
theorem qh9 {es : Nat} : ∀ {f : List (Nat × V)} {l : List (Nat × List V)},elems es f = some l→l.length = f.length∧∀ (k i : Nat) (v : V),f[k]? = some (i,v)→(cellsOf v).length = es∧(cellsOf v).all Km = true∧l[k]? = some (i,cellsOf v)
  | [],l,h=>by simp [elems] at h;subst h;simp
  | (i,v)::r,l,h=>by
    simp only [elems] at h
    split at h
    · rename_i l' j
      split at h
      · rename_i g
        simp at h;subst h
        obtain ⟨n,m⟩:=qh9 j
        refine ⟨by simp [n],fun k o p d=>?_⟩
        cases k with
        | zero=>simp at d;obtain ⟨rfl,rfl⟩:=d;exact ⟨g.1,g.2,qe⟩
        | succ k=>simp at d;obtain ⟨a,b,c⟩:=m k o p d;exact ⟨a,b,by simpa using c⟩
      · simp at h
    · simp at h
theorem ERel.set {w : World} {nx es : Nat} {xs : List (List V)} {C k : Array Value} {ys : List V} {i : Nat} (h : ERel w Z inj nx es xs C) (o : LRel w Z inj nx ys k) (t : ys.length = es) (n : ys.all Km = true) (hi : i < xs.length) :
    ERel w Z inj nx es (xs.set i ys) (Am.splice C.toList (i * es) k.toList).toArray:=by
  obtain ⟨p,r,v⟩:=h;have g : k.toList.length = es:=by have:=o.1;simp;omega
  have a : i * es + k.toList.length≤C.toList.length:=by
    rw [g,Array.length_toList,p];have:=Nat.mul_le_mul_right es (show i + 1≤xs.length from hi);rw [Nat.add_mul] at this;omega
  refine ⟨by simp [q1y _ _ _ a,p],?_,?_⟩
  · grind
  · intro j x l d f hd;rw [List.getElem?_set] at f;by_cases b : i = j
    · subst b;rw [qm rfl,qm hi] at f;simp at f;subst f;have q:=Ke hd;obtain ⟨c,m⟩:=Ya (xs:=k) (i:=l) (by have:=o.1;omega);refine ⟨List.all_eq_true.1 n _ (List.mem_of_getElem? hd),c,?_,o.2 _ _ _ hd m⟩;rw [List.getElem?_toArray,U1 _ _ _ _ a,qm (by rw [g];omega),show i * es + l - i * es = l by omega];grind
    · rw [ql b] at f;obtain ⟨s,c,y,u⟩:=v j x l d f hd;refine ⟨s,c,?_,u⟩;rw [List.getElem?_toArray,U1 _ _ _ _ a,ql ?_]
      · grind
      · rw [g];intro m;exact b ((qgh (by have:=Ke hd;have:=r j x f;omega)).1 m).symm
theorem qhl {w : World} {nx es : Nat} : ∀ (f : List (Nat × V)) (xs : List (Nat × Value)) (l : List (Nat × List V)) (cs c : List (List V)) (C : Array Value),
    f.length = xs.length→(∀ (k : Nat) (i : Nat) (v : V),f[k]? = some (i,v)→∃ x,xs[k]? = some (i,x)∧RelV w Z inj nx v x)→
    l.length = f.length→(∀ (k : Nat) (i : Nat) (v : V),f[k]? = some (i,v)→(cellsOf v).length = es∧(cellsOf v).all Km = true∧l[k]? = some (i,cellsOf v))→
    ERel w Z inj nx es cs C→q3g cs l = some c→∃ n,Instr.fill (fun i=>some (i * es,es)) C xs = some n∧ERel w Z inj nx es c n∧c.length = cs.length
  | [],xs,l,cs,c,C,h1,_,h3,_,h5,h6=>by
    have : xs = []:=by cases xs <;> simp_all
    have : l = []:=by cases l <;> simp_all
    subst_vars
    simp [q3g] at h6;subst h6
    exact ⟨C,by simp [Instr.fill],h5,rfl⟩
  | (i,v)::f,xs,l,cs,c,C,h1,h2,h3,h4,h5,h6=>by
    match xs,l,h1,h3 with
    | (i',x)::xs,(o',ys)::l,h1,h3=>
      obtain ⟨x',m,hr⟩:=h2 0 i v rfl
      simp at m;obtain ⟨rfl,rfl⟩:=m
      obtain ⟨t,s,j⟩:=h4 0 i' v rfl
      simp at j;obtain ⟨rfl,rfl⟩:=j
      obtain ⟨u,z,q3⟩:=qaa hr s
      simp only [q3g] at h6
      split at h6
      · rename_i d
        obtain ⟨n,q,g,h⟩:=qhl f xs l (cs.set o' (cellsOf v)) c (splice C.toList (o' * es) x.cells.toList).toArray (by simpa using h1)
          (fun k i v o=>by obtain ⟨x,p⟩:=h2 (k + 1) i v (by simpa using o);exact ⟨x,by simpa using p⟩) (by simpa using h3)
          (fun k i v o=>by obtain ⟨a,b,p⟩:=h4 (k + 1) i v (by simpa using o);exact ⟨a,b,by simpa using p⟩)
          (h5.set ⟨u,z⟩ t s d) h6
        refine ⟨n,?_,g,by simpa using h⟩
        have y : o' * es + es≤C.size:=by
          rw [h5.1];have:=Nat.mul_le_mul_right es (show o' + 1≤cs.length from d);rw [Nat.add_mul] at this;omega
        have r : x.cells.size = es:=by omega
        simp only [Instr.fill,r]
        have : ¬ ((decide (es≠es) || decide (o' * es + es > C.size)) = true):=by simp;omega
        rw [ql (by simpa using this)]
        rw [qht x.cells C (o' * es) q0]
        exact q
      · simp at h6
theorem qs6 {t : TypeId} {i : TI} {len : Nat} {m : Array (Nat × Operand)} {s : List (Nat × V)} {l : List (Nat × List V)} {xs : List (List V)} (h : RelS w Z inj st a Ds) (ht : tiOf P t = some i) (hv : J8 st.ev m.toList = some s)
    (hl : elems i.esize s = some l) (hk : i.kind = .slice) (aa : len * i.esize≤16777216) (hf : q3g (List.replicate len (i.ezero.map .d)) l = some xs) :
    Kk st (st.new (q4v i.esize xs)) (.hs st.nx i.esize 0 len) w Z inj ((do pure (Next.value (← Instr.buildSlice t len (m.map fun (i,x)=>(i,a.eval x)))) : Sem Next).run P w):=by
  obtain ⟨ah,d,z,k⟩:=Yn ht;have f:=k.kind;unfold Ze at f;simp only [hk] at f;obtain ⟨e,ie,de,o,rfl,g1,g2,g3,g4,g5,g6,g7,g8,g9,_⟩:=f;obtain ⟨p1,p2⟩:=qhi h hv;obtain ⟨q1,q2⟩:=qh9 hl;have ab : ∀ (k i : Nat) (v : V),s[k]? = some (i,v)→∃ x,(m.toList.map fun (x : Nat × Operand)=>(x.1,a.eval x.2))[k]? = some (i,x)∧RelV w Z inj st.nx v x:=by grind
  have ac : ERel w Z inj st.nx i.esize (List.replicate len (i.ezero.map .d)) ((Array.range (len * i.esize)).map (o.cells[· % o.cells.size]!)):=by
    refine ⟨qe,?_,?_⟩
    · grind
    · intro j x j' d g hd;rw [List.getElem?_replicate] at g;split at g <;> simp at g
      rename_i hj;subst g;simp only [List.getElem?_map,Y4] at hd;obtain ⟨d',y,rfl⟩:=hd;obtain ⟨c,hc,p,b⟩:=qfq (w:=w) (Z:=Z) g4 g5 hj y;exact ⟨b,c,hc,.d p⟩
  obtain ⟨r,hC,p,n⟩:=qhl s (m.toList.map fun (x : Nat × Operand)=>(x.1,a.eval x.2)) l _ xs _ (by simp [p1]) ab q1 q2 ac hf;have au : Instr.fill (fun j=>some (j * i.esize,i.esize)) ((Array.range (len * i.esize)).map (o.cells[· % o.cells.size]!)) (m.map fun (x : Nat × Operand)=>(x.1,a.eval x.2)).toList = some r:=by simpa using hC
  have q : (Instr.buildSlice t len (m.map fun (i,x)=>(i,a.eval x))).run P w = .ok (.slice (some ⟨w.heap.size,0,none⟩) len len) (w.alloc (.cells r e)):=by
    have hn : ¬ (len * i.esize > 2 ^ 24):=by omega
    have af : (do let x ← newRow e r;pure (Value.slice (some x) len len) : Sem Value).run P w = .ok (.slice (some ⟨w.heap.size,0,none⟩) len len) (w.alloc (.cells r e)):=by simp [newRow]
    by_cases hz : len * i.esize = 0
    · simp only [Instr.buildSlice,Sem.run_bind,run_underlying k.und,Result.andThen_ok,Zd g1,g6];grind
    · simp only [Instr.buildSlice,Sem.run_bind,run_underlying k.und,Result.andThen_ok,Zd g1,g6];rw [ql hn,ql hz];have ax : (zeroValue e).run P w = .ok o w:=by simp [zeroValue,typeInfo,g1,g3]
      simp_all
  have u : xs.length = len:=by simpa using n
  refine .new h (Kj q) ?_ ?_
  · refine qkh g7 (Ky _ _ _) (Jp _ _) p.2.1 ?_;intro j x j' d g hd;obtain ⟨h1,c,h2,h3⟩:=p.2.2 j x j' d g hd;exact ⟨h1,c,h2,qkl h _ h3⟩
  · refine .hs q0 (Nat.le_refl _) rfl fun _=>⟨w.heap.size,0,Ky _ _ _,qe,?_⟩
    exact ⟨_,_,_,Jp _ _,by rw [p.1,u];simp⟩
end
end Go.Am
