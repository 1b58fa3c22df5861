/- Am6 Am7 Am8 Am9 Am10 Am11 Am12 -/
import Derived.Test.YtbknppciefodiaaGreatK1
import Derived.Laws.MakeOwn
namespace Go.Am
open Go
variable {P : Program} {T : Tab}
theorem qa3 {α β : Type} {f : α→Option β} : ∀ {l : List α} {r : List β},l.mapM f = some r→r.length = l.length∧∀ (i : Nat) (x : α),l[i]? = some x→∃ y,r[i]? = some y∧f x = some y
  | [],r,h=>by simp at h;subst h;simp
  | a::l,r,h=>by
    rw [List.mapM_cons] at h
    cases d : f a with
    | none=>simp [d] at h
    | some b=>
      cases g : l.mapM f with
      | none=>simp [d,g] at h
      | some s=>
        simp [d,g] at h
        subst h
        obtain ⟨m,j⟩:=qa3 g
        refine ⟨by simp [m],?_⟩
        intro i x c
        cases i with
        | zero=>simp at c;subst c;exact ⟨b,qg,d⟩
        | succ i=>simp at c;obtain ⟨y,k⟩:=j i x c;exact ⟨y,by simpa using k⟩
theorem Yr {α β : Type} {l : List α} {r : List β} (a : r.length = l.length) {i : Nat} {y : β} (h : r[i]? = some y) : ∃ x,l[i]? = some x:=
  Zw (by have:=Kh h;omega)
def Zm (P : Program) (_t : TypeId) (i : TI) (d : TypeDesc) : Prop:=match i.kind with
  | .bool=>d = .bool∧i.size = 1
  | .int k=>d = .int k∧i.size = 1
  | .str=>d = .string∧i.size = 1
  | .ptr=>(∃ e,d = .pointer e)∧i.size = 1
  | .func=>(∃ a b c,d = .func a b c)∧i.size = 1
  | .slice=>∃ e ie de ze,d = .slice e∧P.info? e = some ie∧P.underlying e = some de∧ie.zero = some ze∧ze.cells.toList.mapM Zv = some i.ezero∧i.ezero.length = i.esize∧ie.size = i.esize∧i.esize≠0∧
      ie.bytes = i.ebytes∧i.ebytes≠0∧Ke de = i.eagg∧i.size = 1
  | .array=>∃ e ie de,d = .array i.len e∧P.info? e = some ie∧P.underlying e = some de∧ie.size = i.esize∧i.esize≠0∧Ke de = i.eagg
  | .map=>∃ kt e ie ze zd ks dk,d = .map kt e∧P.info? e = some ie∧ie.zero = some ze∧Zv ze = some zd∧Kk P 8 kt = some ks∧P.underlying kt = some dk∧i.keys = some ks∧i.ezero = [zd]∧i.eagg = Ke dk∧i.size = 1
  | .struct=>∃ fs,d = .struct fs∧(fs.toList.mapM fun f=>do
      let jf ← P.info? f.type
      let df ← P.underlying f.type
      if jf.size = 0 then none else some (f.offset,jf.size,Ke df)) = some i.flds
structure TiOk (P : Program) (t : TypeId) (i : TI) (info : TypeInfo) (d : TypeDesc) (z : Value) : Prop where
  inf : P.info? t = some info
  und : P.underlying t = some d
  zero : info.zero = some z
  size : info.size = i.size
  pos : i.size≠0
  cells : z.cells.toList.mapM Zv = some i.zero
  len : i.zero.length = i.size
  agg : i.agg = Ke d
  kind : Zm P t i d
  eqs : ∀ ks,i.eqs = some ks→Kk P 8 t = some ks∧Ke d = true
  keys : ∀ ks,i.keys = some ks→i.kind = .map
theorem Yw {t : TypeId} {i : TI} (h : tiOf P t = some i) : ∃ g d z,TiOk P t i g d z:=by
  unfold tiOf at h
  cases l : P.info? t with
  | none=>simp [l] at h
  | some g=>
  cases m : P.underlying t with
  | none=>simp [l,m] at h
  | some d=>
  cases o : g.zero with
  | none=>simp [l,m,o] at h
  | some z=>
  cases p : z.cells.toList.mapM Zv with
  | none=>simp [l,m,o,p] at h
  | some zc=>
  simp only [l,m,o,p,Option.bind_eq_bind,qk] at h;by_cases h5 : zc.length≠g.size∨g.size = 0
  · grind
  · rw [qp h5] at h;have s : zc.length = g.size:=by omega
    have u : g.size≠0:=by omega
    refine ⟨g,d,z,?_⟩;cases d <;> simp only [reduceCtorEq] at h
    case bool=>split at h <;> simp at h;subst h;rename_i hs;exact ⟨l,m,o,rfl,u,p,s,rfl,⟨rfl,hs⟩,qg,qg⟩
    case int k=>split at h <;> simp at h;subst h;rename_i hs;exact ⟨l,m,o,rfl,u,p,s,rfl,⟨rfl,hs⟩,qg,qg⟩
    case string=>split at h <;> simp at h;subst h;rename_i hs;exact ⟨l,m,o,rfl,u,p,s,rfl,⟨rfl,hs⟩,qg,qg⟩
    case pointer e=>split at h <;> simp at h;subst h;rename_i hs;exact ⟨l,m,o,rfl,u,p,s,rfl,⟨⟨_,rfl⟩,hs⟩,qg,qg⟩
    case func a b c=>split at h <;> simp at h;subst h;rename_i hs;exact ⟨l,m,o,rfl,u,p,s,rfl,⟨⟨_,_,_,rfl⟩,hs⟩,qg,qg⟩
    case slice e=>
      cases j : P.info? e with
      | none=>simp [j] at h
      | some ie=>
      cases r : P.underlying e with
      | none=>simp [j,r] at h
      | some de=>
      cases q : ie.zero with
      | none=>simp [j,r,q] at h
      | some ze=>
      cases v : ze.cells.toList.mapM Zv with
      | none=>simp [j,r,q,v] at h
      | some ezc=>
      simp only [j,r,q,v,qk] at h;split at h
      · simp at h
      · rename_i hs;simp at h;subst h;exact ⟨l,m,o,rfl,u,p,s,rfl,⟨e,ie,de,ze,rfl,j,r,q,v,by show ezc.length = ie.size;omega,rfl,by show ie.size≠0;omega,rfl,by show ie.bytes≠0;omega,rfl,by show g.size = 1;omega⟩,by simp,by simp⟩
    case map kt e=>
      cases j : P.info? e with
      | none=>simp [j] at h
      | some ie=>
      cases q : ie.zero with
      | none=>simp [j,q] at h
      | some ze=>
      cases v : Zv ze with
      | none=>simp [j,q,v] at h
      | some zd=>
      cases w : Kk P 8 kt with
      | none=>simp [j,q,w] at h
      | some ks=>
      cases x : P.underlying kt with
      | none=>simp [j,q,w,x] at h
      | some dk=>
      simp only [j,q,v,w,x,qk] at h;split at h
      · rename_i hs;simp at h;subst h;exact ⟨l,m,o,rfl,u,p,s,rfl,⟨kt,e,ie,ze,zd,ks,dk,rfl,j,q,v,w,x,rfl,rfl,rfl,hs⟩,qg,fun _ _=>rfl⟩
      · simp at h
    case array n e=>
      cases j : P.info? e with
      | none=>simp [j] at h
      | some ie=>
      cases r : P.underlying e with
      | none=>simp [j,r] at h
      | some de=>
      simp only [j,r,qk] at h;split at h
      · simp at h
      · rename_i hs;simp at h;subst h;exact ⟨l,m,o,rfl,u,p,s,rfl,⟨e,ie,de,rfl,j,r,rfl,hs,rfl⟩,fun ks h=>⟨h,rfl⟩,qg⟩
    case struct fs=>
      cases j : (fs.toList.mapM fun f=>do
          let jf ← P.info? f.type
          let df ← P.underlying f.type
          if jf.size = 0 then none else some (f.offset,jf.size,Ke df)) with
      | none=>simp only [Option.bind_eq_bind] at j;simp only [j,Option.bind_none] at h;simp at h
      | some fl=>
        have y:=j;simp only [Option.bind_eq_bind] at j;simp only [j,qk] at h;simp at h;subst h;exact ⟨l,m,o,rfl,u,p,s,rfl,⟨fs,rfl,y⟩,fun ks h=>⟨h,rfl⟩,qg⟩
section
variable {w : World} {Z : Nat→Prop} {inj : Inj} {nx : Nat}
theorem qg3 {v : Value} {d : DV} (h : Zv v = some d) : RelD w Z d v∧Ym d = true∧v.oneCell' = true:=by
  unfold Zv at h;split at h <;> simp at h <;> subst h
  · exact ⟨.int _ _,rfl,rfl⟩
  · exact ⟨.bool _,rfl,rfl⟩
  · exact ⟨.str _,rfl,rfl⟩
  · exact ⟨.nilp,rfl,rfl⟩
  · exact ⟨.nilsl,rfl,rfl⟩
  · exact ⟨.nilf,rfl,rfl⟩
  · exact ⟨.nilm,rfl,rfl⟩
theorem q9m {cs : Array Value} {ds : List DV} (h : cs.toList.mapM Zv = some ds) : ds.length = cs.size∧∀ (i : Nat) (d : DV),ds[i]? = some d→∃ c,cs[i]? = some c∧RelD w Z d c∧Ym d = true∧c.oneCell' = true:=by
  obtain ⟨f,g⟩:=qa3 h;refine ⟨by simpa using f,fun i d hd=>?_⟩;obtain ⟨c,b⟩:=Yr f hd;obtain ⟨y,a,j⟩:=g i c b;rw [hd] at a;cases a;exact ⟨c,by simpa using b,qg3 j⟩
theorem qtf {v : Value} {d : DV} (h : qcr v = some d) : RelD w Z d v:=by
  unfold qcr at h;split at h
  · rename_i cs
    cases a : cs.toList.mapM Zv with
    | none=>simp [a] at h
    | some ds=>
      simp [a] at h;subst h;obtain ⟨b,f⟩:=q9m (w:=w) (Z:=Z) a;refine .agg b fun i d c hd g=>?_;grind
  · exact (qg3 h).1
theorem Kd {st : AS} {a : Act} {Ds : List Nat} (h : RelS w Z inj st a Ds) {o : Operand} {v : V} (b : st.ev o = some v) : RelV w Z inj st.nx v (a.eval o):=by
  cases o with
  | tmp t=>
    obtain ⟨x,l,k⟩:=h.slots t v b;simp only [Act.eval,Array.getD_eq_getD_getElem?,l,Option.getD_some];exact k
  | const c=>
    simp only [AS.ev] at b
    cases j : qcr c with
    | none=>simp [j] at b
    | some d=>simp [j] at b;subst b;exact .d (qtf j)
  | func f=>
    simp only [AS.ev] at b;cases b;exact .d (.fn qg qg)
  | global g=>simp [AS.ev] at b
theorem q5n {a : List V} {ds : List DV} (h : allD a = some ds) : a = ds.map .d:=by
  induction a generalizing ds with
  | nil=>simp [allD] at h;subst h;rfl
  | cons v r ih=>
    cases v <;> simp only [allD,reduceCtorEq] at h
    grind
theorem qfd (ds : List DV) : allD (ds.map .d) = some ds:=by
  induction ds with
  | nil=>rfl
  | cons d r ih=>simp [allD,ih]
theorem qhn {d : V} {c : Value} (h : RelV w Z inj nx d c) (a : Ko d = true) : c.oneCell' = true:=by
  cases h with
  | d h=>cases h <;> simp_all [Ko,Ym,Value.oneCell']
  | _=>simp_all [Ko,Value.oneCell']
theorem qse {c : Value} (h : c.oneCell' = true) : c.cells = #[c]:=by cases c <;> simp_all [Value.oneCell',Value.cells]
theorem qcp {v : V} {x : Value} (h : RelV w Z inj nx v x) (f : (cellsOf v).all Ko = true) :
    (cellsOf v).length = x.cells.size∧(∀ (i : Nat) (d : V) (c : Value),(cellsOf v)[i]? = some d→x.cells[i]? = some c→RelV w Z inj nx d c)∧∀ c∈x.cells.toList,c.oneCell' = true:=by
  have fin : ∀ (l : List V) (cs : Array Value),l.length = cs.size→(∀ (i : Nat) (d : V) (c : Value),l[i]? = some d→cs[i]? = some c→RelV w Z inj nx d c)→l.all Ko = true→∀ c∈cs.toList,c.oneCell' = true:=by
    intro l cs k g j c r;obtain ⟨i,hi,rfl⟩:=List.mem_iff_getElem.1 r;simp at hi;have n : l[i]? = some l[i]:=List.getElem?_eq_getElem q6;have m : cs[i]? = some cs[i]:=Array.getElem?_eq_getElem hi;have:=qhn (g i _ _ n m) (List.all_eq_true.1 j _ (Kp _));grind
  have one : ∀ {v : V} {x : Value},RelV w Z inj nx v x→cellsOf v = [v]→(cellsOf v).all Ko = true→(cellsOf v).length = x.cells.size∧(∀ (i : Nat) (d : V) (c : Value),(cellsOf v)[i]? = some d→x.cells[i]? = some c→RelV w Z inj nx d c)∧∀ c∈x.cells.toList,c.oneCell' = true:=by
    intro v x h q j;rw [q] at j ⊢;have n : Ko v = true:=by simpa using j
    have m:=qhn h n;rw [qse m];grind
  cases h with
  | agg k g=>exact ⟨k,g,fin _ _ k g f⟩
  | d h=>
    cases h with
    | agg k g=>
      have n : (cellsOf (V.d (.agg ‹List DV›))).length = (Value.agg ‹Array Value›).cells.size:=by simpa [cellsOf,Value.cells] using k
      have m : ∀ (i : Nat) (d : V) (c : Value),(cellsOf (V.d (.agg ‹List DV›)))[i]? = some d→(Value.agg ‹Array Value›).cells[i]? = some c→RelV w Z inj nx d c:=by
        intro i d c hd f;simp only [cellsOf,List.getElem?_map,Yc] at hd;obtain ⟨p,o,rfl⟩:=hd;exact .d (g i p c o f)
      grind
    | int=>exact one (.d (.int _ _)) rfl f
    | bool=>exact one (.d (.bool _)) rfl f
    | str=>exact one (.d (.str _)) rfl f
    | tup k g=>exact one (.d (.tup k g)) rfl f
    | fn k g=>exact one (.d (.fn k g)) rfl f
    | nilsl=>exact one (.d .nilsl) rfl f
    | slnil=>exact one (.d (.slnil _)) rfl f
    | slemp=>exact one (.d (.slemp _ _)) rfl f
    | sl a b c d e=>exact one (.d (.sl a b c d e)) rfl f
    | nilp=>exact one (.d .nilp) rfl f
    | nilf=>exact one (.d .nilf) rfl f
    | nilm=>exact one (.d .nilm) rfl f
    | box a b c=>exact one (.d (.box a b c)) rfl f
  | tup k g=>exact one (.tup k g) rfl f
  | fn k g=>exact one (.fn k g) rfl f
  | ref a b=>exact one (.ref a b) rfl f
  | dref a b c=>exact one (.dref a b c) rfl f
  | hsnil a=>exact one (.hsnil a) rfl f
  | hs a b c d=>exact one (.hs a b c d) rfl f
  | yld a b=>exact one (.yld a b) rfl f
  | mp a b=>exact one (.mp a b) rfl f
  | dead v=>simp [cellsOf,Ko] at f
theorem qhf {cs : List V} {xs : Array Value} (a : cs.length = xs.size) (h : ∀ (i : Nat) (d : V) (c : Value),cs[i]? = some d→xs[i]? = some c→RelV w Z inj nx d c) : RelV w Z inj nx (q6h cs) (.agg xs):=by
  unfold q6h;split
  · rename_i ds hd;have:=q5n hd;subst this;refine .d (.agg (by simpa using a) fun i d c f b=>?_);have:=h i (.d d) c (by simp [f]) b
    cases this with | d h=>exact h
  · exact .agg a h
def qr9 (w : World) (Z : Nat→Prop) (inj : Inj) (nx : Nat) (v : V) : Bool→List Value→Prop
  | true,xs=>RelV w Z inj nx v (.agg xs.toArray)
  | false,[x]=>RelV w Z inj nx v x
  | false,_=>False
theorem qnn {ag : Bool} {cs : List V} {v : V} {xs : List Value} (hp : pack ag cs = some v) (a : cs.length = xs.length) (h : ∀ (i : Nat) (d : V) (c : Value),cs[i]? = some d→xs[i]? = some c→RelV w Z inj nx d c) :
    qr9 w Z inj nx v ag xs:=by
  cases ag with
  | true=>
    simp only [pack,Option.some.injEq] at hp;subst hp;exact qhf (by simpa using a) (fun i d c f b=>h i d c f (by simpa using b))
  | false=>
    match cs,xs,hp,a with
    | [c],[x],hp,_=>simp only [pack,Option.some.injEq] at hp;subst hp;exact h 0 _ _ rfl rfl
    | [c],[],_,a=>simp at a
    | [c],_::_::_,_,a=>simp at a
theorem qhq (ag : Bool) (cs : List DV) : (q1e ag cs).map V.d = pack ag (cs.map .d):=by
  cases ag with
  | true=>simp [q1e,pack,q6h,qfd]
  | false=>match cs with
    | []=>rfl
    | [c]=>rfl
    | _::_::_=>rfl
theorem qpz {α : Type} {cs r : List α} {j s : Nat} (h : sub cs j s = some r) : j + s≤cs.length∧r = (cs.drop j).take s:=by
  unfold sub at h;split at h <;> simp at h;exact ⟨‹_›,h.symm⟩
theorem qbz {α : Type} {cs r : List α} {j s : Nat} (h : sub cs j s = some r) : r.length = s∧∀ (i : Nat) (x : α),r[i]? = some x→cs[j + i]? = some x∧i < s:=by
  obtain ⟨a,rfl⟩:=qpz h;grind
theorem U1 (b o j : Nat) : (⟨b,o,none⟩ : Addr).add j = ⟨b,o + j,none⟩:=by
  unfold Addr.add;split <;> simp_all
theorem qvt {t : TypeId} {i : TI} {g : TypeInfo} {d : TypeDesc} {z : Value} (m : TiOk P t i g d z) {b o : Nat} {r : List V} {v : V} (hp : pack i.agg r = some v) (hr : r.length = i.size)
    (hc : ∀ (k : Nat) (x : V),r[k]? = some x→∃ c,w.cell? ⟨b,o + k,none⟩ = some c∧RelV w Z inj nx x c) :
    ∃ x,(Instr.loadAt t (.pointer (some ⟨b,o,none⟩))).run P w = .ok x w∧RelV w Z inj nx v x:=by
  have n : ∃ cs : List Value,cs.length = i.size∧∀ (k : Nat) (c : Value),cs[k]? = some c→w.cell? ⟨b,o + k,none⟩ = some c:=by
    refine ⟨(List.range i.size).map fun k=>(w.cell? ⟨b,o + k,none⟩).getD undef,qg,?_⟩;intro k c s;have q : k < i.size:=by have:=Kh s;simpa using this
    obtain ⟨x,hx⟩:=Zw (xs:=r) (i:=k) q6;grind
  obtain ⟨cs,p,a⟩:=n;have h : ∀ (i : Nat) (d : V) (c : Value),r[i]? = some d→cs[i]? = some c→RelV w Z inj nx d c:=by grind
  have f:=qnn hp (by omega : r.length = cs.length) h
  have l : (isAgg t).run P w = .ok i.agg w:=by
    rw [m.agg];simp only [isAgg,Sem.run_bind,run_underlying m.und,Result.andThen_ok];cases d <;> rfl
  cases hb : i.agg with
  | true=>
    rw [hb] at f;refine ⟨.agg cs.toArray,?_,f⟩;have y:=run_loadCells_list (P:=P) w ⟨b,o,none⟩ cs (fun j v u=>by rw [U1];exact a j v u);simp [Instr.loadAt,Instr.sureAddr,loadVar,l,hb,sizeOf,typeInfo,m.inf,m.size,← p,y]
  | false=>
    rw [hb] at f
    match cs,p,a,f with
    | [x],_,a,f=>
      refine ⟨x,?_,f⟩;have:=a 0 x rfl;simp only [Nat.add_zero] at this;simp [Instr.loadAt,Instr.sureAddr,loadVar,l,hb,this]
end
end Go.Am
namespace Go.Am
open Go
variable {P : Program} {T : Tab}
def Km (st st1 : AS) (v : V) (w : World) (Z : Nat→Prop) (inj : Inj) (r : Result Next) : Prop:=
  ∃ x w' inj',(r = .ok (.value x) w'∨(r = .ok .skip w'∧x = undef))∧RelV w' Z inj' st1.nx v x∧RelH w' Z inj' st1.hp st1.nx∧Ext w Z inj st.hp w' Z inj' st1.hp st.nx∧st1.sl = st.sl∧st.nx≤st1.nx
section
variable {w : World} {Z : Nat→Prop} {inj : Inj} {st : AS} {a : Act} {Ds : List Nat}
theorem Km.quiet {v : V} {x : Value} {r : Result Next} (h : RelS w Z inj st a Ds) (c : r = .ok (.value x) w) (b : RelV w Z inj st.nx v x) : Km st st v w Z inj r:=
  ⟨x,w,inj,.inl c,b,h.heap,.refl,rfl,Nat.le_refl _⟩
theorem Kl {s : Sem Value} {x : Value} {w' : World} (h : s.run P w = .ok x w') : (do pure (Next.value (← s)) : Sem Next).run P w = .ok (.value x) w':=by
  simp [h]
theorem Km.new {v : V} {x : Value} {r : Result Next} {o : Obj} {blk : Blk} (h : RelS w Z inj st a Ds) (c : r = .ok (.value x) (w.alloc o))
    (hb : RelB (w.alloc o) Z (upd inj st.nx (some (w.heap.size,0))) (st.nx + 1) st.nx blk)
    (d : RelV (w.alloc o) Z (upd inj st.nx (some (w.heap.size,0))) (st.nx + 1) v x) (b : Unfr o:=by first | exact rfl | exact trivial) : Km st (st.new blk) v w Z inj r:=
  ⟨x,_,_,.inl c,d,h.heap.new o blk 0 hb,Ext.new h.heap o blk 0 b,rfl,by simp [AS.new]⟩
theorem qoi {v : V} {x : Value} (h : RelS w Z inj st a Ds) (o : Obj) (b : RelV w Z inj st.nx v x) : RelV (w.alloc o) Z (upd inj st.nx (some (w.heap.size,0))) (st.nx + 1) v x:=
  b.mono (fun _ c=>J5 w o (h.heap.zs _ c)) (fun _ h=>h) (q39 w o) (fun _ d=>Yl _ _ d) q6
theorem qoe {w : World} {nx n es : Nat} {xs : List (List V)} {arr : Array Value} {ty : TypeId} {b : Nat} (q : es≠0) (hi : inj n = some (b,0)) (hb : w.heap[b]? = some (.cells arr ty (0,0)))
    (s : ∀ (i : Nat) (x : List V),xs[i]? = some x→x.length = es)
    (h : ∀ (i : Nat) (x : List V) (j : Nat) (d : V),xs[i]? = some x→x[j]? = some d→Ko d = true∧∃ c,arr[i * es + j]? = some c∧RelV w Z inj nx d c) : RelB w Z inj nx n (q6i es xs):=by
  unfold q6i;split
  · rename_i ys u;obtain ⟨t,r⟩:=qa3 u;refine ⟨q,?_,.inr ⟨b,0,arr,ty,hi,hb,?_⟩⟩
    · intro i y f;obtain ⟨x,g⟩:=Yr t f;obtain ⟨v,a,hd⟩:=r i x g;rw [f] at a;cases a;have:=s i x g;rw [q5n hd] at this;simpa using this
    · intro i y j d f p;obtain ⟨x,g⟩:=Yr t f;obtain ⟨v,a,hd⟩:=r i x g;rw [f] at a;cases a;have k:=q5n hd;obtain ⟨l,c,m,o⟩:=h i x j (.d d) g (by rw [k];simp [p]);refine ⟨l,c,by simpa using m,?_⟩
      cases o with | d h=>exact h
  · refine ⟨q,s,.inr ⟨b,0,arr,ty,hi,hb,?_⟩⟩;intro i x j d g hd;obtain ⟨l,c,m,o⟩:=h i x j d g hd;exact ⟨l,c,by simpa using m,o⟩
theorem qnj {o : Operand} {v : V} (h : RelS w Z inj st a Ds) (b : st.ev o = some v) {r : Result Next} (c : r = .ok (.value (a.eval o)) w) : Km st st v w Z inj r:=
  .quiet h c (Kd h b)
theorem qx5 {t : TypeId} {i : TI} (h : RelS w Z inj st a Ds) (p : tiOf P t = some i) :
    Km st (st.new (.dat i.size [i.zero])) (.ref st.nx i.size 0 0) w Z inj ((do pure (Next.value (← Instr.alloc t true (.tuple #[]))) : Sem Next).run P w):=by
  obtain ⟨m,d,z,k⟩:=Yw p
  have g : (Instr.alloc t true (.tuple #[])).run P w = .ok (.pointer (some ⟨w.heap.size,0,none⟩)) (w.alloc (.cells z.cells t)):=by
    simp [Instr.alloc,zeroValue,typeInfo,k.inf,k.zero,newVar,newRow]
  obtain ⟨s,q⟩:=q9m (w:=w.alloc (.cells z.cells t)) (Z:=Z) k.cells;refine .new h (Kl g) ?_ ?_
  · refine ⟨k.pos,?_,.inr ⟨w.heap.size,0,z.cells,t,Ya _ _ _,U2 _ _,?_⟩⟩
    · intro l x f
      cases l with
      | zero=>simp at f;subst f;exact k.len
      | succ n=>simp at f
    · intro l x j d f hd
      cases l with
      | zero=>
        simp at f;subst f;obtain ⟨c,r,o,b,_⟩:=q j d hd;exact ⟨b,c,by simpa using r,o⟩
      | succ n=>simp at f
  · have:=RelV.ref (w:=w.alloc (.cells z.cells t)) (Z:=Z) (inj:=upd inj st.nx (some (w.heap.size,0))) (nx:=st.nx + 1) (n:=st.nx) (es:=i.size) (i:=0) (j:=0) q6 (Ya _ _ _);simpa using this
theorem qx9 {t : TypeId} {i : TI} {o : Operand} {v : V} (h : RelS w Z inj st a Ds) (s : tiOf P t = some i) (y : st.ev o = some v) (hl : (cellsOf v).length = i.size) (r : (cellsOf v).all Ko = true) :
    Km st (st.new (q6i i.size [cellsOf v])) (.ref st.nx i.size 0 0) w Z inj ((do pure (Next.value (← Instr.box t (a.eval o))) : Sem Next).run P w):=by
  obtain ⟨q,d,z,k⟩:=Yw s;have f:=Kd h y
  have l : (Instr.box t (a.eval o)).run P w = .ok (.pointer (some ⟨w.heap.size,0,none⟩)) (w.alloc (.cells (a.eval o).cells t)):=by
    simp [Instr.box,newVar,newRow]
  have p:=qoi h (.cells (a.eval o).cells t) f;obtain ⟨h1,u,_⟩:=qcp p r;refine .new h (Kl l) ?_ ?_
  · refine qoe (b:=w.heap.size) (arr:=(a.eval o).cells) (ty:=t) k.pos (Ya _ _ _) (U2 _ _) ?_ ?_
    · intro m x f
      cases m with
      | zero=>simp at f;subst f;exact hl
      | succ n=>simp at f
    · intro m x j d f hd
      cases m with
      | zero=>
        simp at f;subst f;obtain ⟨c,g⟩:=Yj (xs:=(a.eval o).cells) (i:=j) (by have:=Kh hd;omega);exact ⟨List.all_eq_true.1 r _ (List.mem_of_getElem? hd),c,by simpa using g,u j d c hd g⟩
      | succ n=>simp at f
  · have:=RelV.ref (w:=w.alloc (.cells (a.eval o).cells t)) (Z:=Z) (inj:=upd inj st.nx (some (w.heap.size,0))) (nx:=st.nx + 1) (n:=st.nx) (es:=i.size) (i:=0) (j:=0) q6 (Ya _ _ _);simpa using this
theorem q2g {α : Type} (cs ys : List α) (o : Nat) (h : o + ys.length≤cs.length) : (splice cs o ys).length = cs.length:=by simp [splice];omega
theorem Ue {α : Type} (cs ys : List α) (o j : Nat) (h : o + ys.length≤cs.length) : (splice cs o ys)[j]? = if o≤j∧j < o + ys.length then ys[j - o]? else cs[j]?:=by
  have e : (cs.take o).length = o:=by simp;omega
  by_cases a : j < o
  · rw [qp q6,splice,List.append_assoc,List.getElem?_append_left q6,List.getElem?_take,qr a]
  · by_cases b : j < o + ys.length
    · rw [qr q6,splice,List.append_assoc,List.getElem?_append_right q6,e,List.getElem?_append_left q6]
    · rw [qp q6,splice,List.getElem?_append_right (by simp;omega),List.getElem?_drop];congr 1;rw [List.length_append,e];omega
theorem qlj (off : Nat) : ∀ (l : List Value) (s : Nat) (cs : Array Value),off + s + l.length≤cs.size→
    ((l.zipIdx s).foldl (fun (cs : Array Value) (x : Value × Nat)=>cs.setIfInBounds (off + x.2) x.1) cs).size = cs.size∧
    ∀ j : Nat,((l.zipIdx s).foldl (fun (cs : Array Value) (x : Value × Nat)=>cs.setIfInBounds (off + x.2) x.1) cs)[j]? = if off + s≤j∧j < off + s + l.length then l[j - (off + s)]? else cs[j]?
  | [],s,cs,_=>by
    refine ⟨rfl,fun j=>?_⟩
    have : ¬ (off + s≤j∧j < off + s + ([] : List Value).length):=by simp
    rw [qp this];rfl
  | v::r,s,cs,h=>by
    obtain ⟨g,d⟩:=qlj off r (s + 1) (cs.setIfInBounds (off + s) v) (by simp at h ⊢;omega)
    simp only [List.zipIdx_cons,List.foldl_cons]
    refine ⟨by rw [g];simp,fun j=>?_⟩
    rw [d j]
    simp only [List.length_cons] at h ⊢
    by_cases c : off + (s + 1)≤j∧j < off + (s + 1) + r.length
    · have a : off + s≤j∧j < off + s + (r.length + 1):=by omega
      rw [qr c,qr a,show j - (off + s) = (j - (off + (s + 1))) + 1 by omega,List.getElem?_cons_succ]
    · rw [qp c,Array.getElem?_setIfInBounds]
      by_cases b : off + s = j
      · have a : off + s≤j∧j < off + s + (r.length + 1):=by omega
        have f : j < cs.size:=by omega
        rw [qr b,qr a,qr q6,show j - (off + s) = 0 by omega]
        rfl
      · have a : ¬ (off + s≤j∧j < off + s + (r.length + 1)):=by omega
        rw [qp b,qp a]
theorem qlk (a cs : Array Value) (off : Nat) (h : off + a.size≤cs.size) :
    a.zipIdx.foldl (fun (cs : Array Value) (x : Value × Nat)=>cs.setIfInBounds (off + x.2) x.1) cs = (splice cs.toList off a.toList).toArray:=by
  rw [← Array.foldl_toList,Array.toList_zipIdx];obtain ⟨c,b⟩:=qlj off a.toList 0 cs (by simpa using h);have hs:=q2g cs.toList a.toList off (by simpa using h);apply Array.ext';apply List.ext_getElem?;intro j;rw [Array.getElem?_toList,b j,Ue _ _ _ _ (by simpa using h)];simp
def LRel (w : World) (Z : Nat→Prop) (inj : Inj) (nx : Nat) (cs : List V) (xs : Array Value) : Prop:=
  cs.length = xs.size∧∀ (i : Nat) (d : V) (c : Value),cs[i]? = some d→xs[i]? = some c→RelV w Z inj nx d c
theorem LRel.splice {w : World} {nx : Nat} {cs ys : List V} {xs g : Array Value} {o : Nat} (h : LRel w Z inj nx cs xs) (k : LRel w Z inj nx ys g) (j : o + ys.length≤cs.length) :
    LRel w Z inj nx (Am.splice cs o ys) (Am.splice xs.toList o g.toList).toArray:=by
  have m:=h.1;have l:=k.1;have f : o + g.toList.length≤xs.toList.length:=by simp;omega
  refine ⟨by simp [q2g _ _ _ j,q2g _ _ _ f,h.1],fun i d c hd b=>?_⟩;rw [Ue _ _ _ _ j] at hd;rw [List.getElem?_toArray,Ue _ _ _ _ f] at b;have e : g.toList.length = ys.length:=by simp;omega
  rw [e] at b;split at hd
  · rename_i a;rw [qr a] at b;exact k.2 _ _ _ hd (by simpa using b)
  · rename_i a;rw [qp a] at b;exact h.2 _ _ _ hd (by simpa using b)
theorem qla {d : List (Nat × Operand)} {c : List (Nat × V)} (h : RelS w Z inj st a Ds) (hp : Ji st.ev d = some c) :
    c.length = d.length∧∀ (k : Nat) (i : Nat) (v : V),c[k]? = some (i,v)→∃ o,d[k]? = some (i,o)∧RelV w Z inj st.nx v (a.eval o):=by
  induction d generalizing c with
  | nil=>simp [Ji] at hp;subst hp;simp
  | cons x r ih=>
    obtain ⟨i,o⟩:=x;simp only [Ji] at hp
    cases f : st.ev o with
    | none=>simp [f] at hp
    | some v=>
      cases g : Ji st.ev r with
      | none=>simp [f,g] at hp
      | some l=>
        simp [f,g] at hp;subst hp;obtain ⟨p,t⟩:=ih g;refine ⟨by simp [p],fun k s q b=>?_⟩
        cases k with
        | zero=>simp at b;obtain ⟨rfl,rfl⟩:=b;exact ⟨o,qg,Kd h f⟩
        | succ k=>simp at b;obtain ⟨m,j,n⟩:=t k s q b;exact ⟨m,by simpa using j,n⟩
theorem q9v {os : List Operand} {g : List V} (h : RelS w Z inj st a Ds) (hp : evL st.ev os = some g) : LRel w Z inj st.nx g (os.map a.eval).toArray:=by
  induction os generalizing g with
  | nil=>simp [evL] at hp;subst hp;exact ⟨qg,qg⟩
  | cons o r ih=>
    simp only [evL] at hp
    cases f : st.ev o with
    | none=>simp [f] at hp
    | some v=>
      cases j : evL st.ev r with
      | none=>simp [f,j] at hp
      | some l=>
        simp [f,j] at hp;subst hp;obtain ⟨m,n⟩:=ih j;refine ⟨by simpa using m,fun k d c hd b=>?_⟩
        cases k with
        | zero=>simp at hd b;subst hd b;exact Kd h f
        | succ k=>simp at hd b;exact n k d c hd (by simpa using b)
theorem qgc {w : World} {nx : Nat} (place : Nat→Option (Nat × Nat)) : ∀ (b : List (Nat × V)) (xs : List (Nat × Value)) (l : List (Nat × List V)) (cs a : List V) (C : Array Value),
    b.length = xs.length→(∀ (k : Nat) (i : Nat) (v : V),b[k]? = some (i,v)→∃ x,xs[k]? = some (i,x)∧RelV w Z inj nx v x)→
    l.length = b.length→(∀ (k : Nat) (i : Nat) (v : V),b[k]? = some (i,v)→∃ o s,place i = some (o,s)∧(cellsOf v).length = s∧(cellsOf v).all Ko = true∧l[k]? = some (o,cellsOf v))→
    LRel w Z inj nx cs C→q5v cs l = some a→∃ h,Instr.fill place C xs = some h∧LRel w Z inj nx a h
  | [],xs,l,cs,a,C,h1,_,h3,_,h5,h6=>by
    have : xs = []:=by cases xs <;> simp_all
    have : l = []:=by cases l <;> simp_all
    subst_vars
    simp [q5v] at h6;subst h6
    exact ⟨C,by simp [Instr.fill],h5⟩
  | (i,v)::b,xs,l,cs,a,C,h1,h2,h3,h4,h5,h6=>by
    match xs,l,h1,h3 with
    | (i',x)::xs,(o',ys)::l,h1,h3=>
      obtain ⟨x',f,r⟩:=h2 0 i v rfl
      simp at f;obtain ⟨rfl,rfl⟩:=f
      obtain ⟨o,s,hp,z,t,d⟩:=h4 0 i' v rfl
      simp at d;obtain ⟨rfl,rfl⟩:=d
      obtain ⟨y,u,q3⟩:=qcp r t
      simp only [q5v] at h6
      split at h6
      · rename_i c
        have m : x.cells.size = s:=by omega
        have n : ¬ (o' + x.cells.size > C.size):=by have:=h5.1;omega
        obtain ⟨h,p,g⟩:=qgc place b xs l (splice cs o' (cellsOf v)) a (splice C.toList o' x.cells.toList).toArray (by simpa using h1)
          (fun k i v j=>by obtain ⟨x,q⟩:=h2 (k + 1) i v (by simpa using j);exact ⟨x,by simpa using q⟩) (by simpa using h3)
          (fun k i v j=>by obtain ⟨o,s,q⟩:=h4 (k + 1) i v (by simpa using j);exact ⟨o,s,by simpa using q⟩)
          (h5.splice ⟨y,u⟩ c) h6
        refine ⟨h,?_,g⟩
        simp only [Instr.fill,hp,m]
        have : ¬ ((decide (s≠s) || decide (o' + s > C.size)) = true):=by simp;omega
        rw [qp (by simpa using this)]
        rw [qlk x.cells C o' q6]
        exact p
      · simp at h6
end
end Go.Am
namespace Go.Am
open Go
variable {P : Program} {T : Tab}
section
variable {w : World} {Z : Nat→Prop} {inj : Inj} {nx : Nat}
theorem qoo {α β : Type} {f : α→Sem β} {g : α→β} : ∀ {l : List α},(∀ x∈l,(f x).run P w = .ok (g x) w)→(l.mapM f).run P w = .ok (l.map g) w
  | [],_=>by simp
  | x::r,h=>by
    have c:=h x qg
    have b:=qoo (l:=r) (fun y a=>h y (by simp [a]))
    simp [List.mapM_cons,c,b]
theorem qzv {α β : Type} {f : α→Sem β} {g : α→β} {l : Array α} (h : ∀ x∈l.toList,(f x).run P w = .ok (g x) w) : (l.mapM f).run P w = .ok (l.toList.map g).toArray w:=by
  rw [Array.mapM_eq_mapM_toList,Sem.run_map,qoo h];rfl
theorem qlg {g : Array Field} {j : List (Nat × Nat × Bool)} (h : (g.toList.mapM fun f => do
      let a ← P.info? f.type
      let c ← P.underlying f.type
      if a.size = 0 then none else some (f.offset,a.size,Ke c)) = some j) :
    j.length = g.size∧∀ (i : Nat) (f : Field),g[i]? = some f→∃ a c,P.info? f.type = some a∧P.underlying f.type = some c∧a.size≠0∧j[i]? = some (f.offset,a.size,Ke c):=by
  obtain ⟨o,m⟩:=qa3 h;refine ⟨by simpa using o,fun i f p=>?_⟩;obtain ⟨y,n,b⟩:=m i f (by simpa using p)
  cases k : P.info? f.type with
  | none=>simp [k] at b
  | some a=>
    cases l : P.underlying f.type with
    | none=>simp [k,l] at b
    | some c=>
      simp only [k,l,Option.bind_eq_bind,qk] at b;split at b
      · simp at b
      · rename_i d;simp at b;subst b;exact ⟨a,c,rfl,rfl,d,n⟩
theorem qgf {d : Array Field} {g : List (Nat × Nat × Bool)} (h : (d.toList.mapM fun f => do
      let a ← P.info? f.type
      let b ← P.underlying f.type
      if a.size = 0 then none else some (f.offset,a.size,Ke b)) = some g) {i off s : Nat} {ag : Bool} (hi : g[i]? = some (off,s,ag)) :
    ∃ f a b,d[i]? = some f∧P.info? f.type = some a∧P.underlying f.type = some b∧a.size = s∧s≠0∧f.offset = off∧Ke b = ag:=by
  obtain ⟨o,m⟩:=qlg h;obtain ⟨f,j⟩:=Yj (xs:=d) (i:=i) (by have:=Kh hi;omega);obtain ⟨a,b,l,n,k,c⟩:=m i f j;rw [hi] at c;simp at c;obtain ⟨rfl,rfl,rfl⟩:=c;exact ⟨f,a,b,j,l,n,rfl,k,rfl,rfl⟩
theorem qnz {a : TI} : ∀ {c : List (Nat × V)} {l : List (Nat × List V)},placed a c = some l→l.length = c.length∧∀ (k i : Nat) (v : V),c[k]? = some (i,v)→∃ o s,
    (match a.kind with | .struct=>(a.flds[i]?).map fun f=>(f.1,f.2.1) | .array=>some (i * a.esize,a.esize) | _=>none) = some (o,s)∧(cellsOf v).length = s∧(cellsOf v).all Ko = true∧l[k]? = some (o,cellsOf v)
  | [],l,h=>by simp [placed] at h;subst h;simp
  | (i,v)::r,l,h=>by
    simp only [placed] at h
    split at h
    · rename_i o s l' w p
      split at h
      · rename_i d
        simp at h;subst h
        obtain ⟨j,t⟩:=qnz p
        refine ⟨by simp [j],fun k n m b=>?_⟩
        cases k with
        | zero=>simp at b;obtain ⟨rfl,rfl⟩:=b;exact ⟨o,s,w,d.1,d.2,qg⟩
        | succ k=>simp at b;obtain ⟨g,u,q⟩:=t k n m b;exact ⟨g,u,by simpa using q⟩
      · simp at h
    · simp at h
theorem q16p {t : TypeId} {i : TI} {b : TypeInfo} {d : TypeDesc} {z : Value} (k : TiOk P t i b d z) : LRel w Z inj nx (i.zero.map .d) z.cells:=by
  obtain ⟨n,l⟩:=q9m (w:=w) (Z:=Z) k.cells;refine ⟨by simpa using n,fun j d c hd m=>?_⟩;simp only [List.getElem?_map,Yc] at hd;obtain ⟨h,f,rfl⟩:=hd;obtain ⟨o,a,g,_⟩:=l j h f;rw [m] at a;cases a;exact .d g
theorem Zl {t : TypeId} {a : TypeInfo} (h : P.info? t = some a) : (sizeOf t).run P w = .ok a.size w:=by simp [sizeOf,typeInfo,h]
theorem q38 {t : TypeId} {d : TypeDesc} (h : P.underlying t = some d) : (isAgg t).run P w = .ok (Ke d) w:=by
  simp only [isAgg,Sem.run_bind,run_underlying h,Result.andThen_ok];cases d <;> rfl
theorem qnt {t : TypeId} {a : TypeInfo} {d : TypeDesc} (s : P.info? t = some a) (o : P.underlying t = some d) {cs r : List V} {xs : Array Value} {off : Nat} {v : V} (l : LRel w Z inj nx cs xs)
    (hs : sub cs off a.size = some r) (hp : pack (Ke d) r = some v) : ∃ x,(part t xs off).run P w = .ok x w∧RelV w Z inj nx v x:=by
  obtain ⟨m,j⟩:=qbz hs;have y:=(qpz hs).1;have n:=l.1
  have f : ∀ (i : Nat) (d : V) (c : Value),r[i]? = some d→(xs.extract off (off + a.size)).toList[i]? = some c→RelV w Z inj nx d c:=by
    intro i d c hd h;obtain ⟨g,u⟩:=j i d hd;refine l.2 _ _ _ g ?_;rw [Array.getElem?_toList,Array.getElem?_extract] at h;split at h <;> first | exact h | simp at h
  have k : r.length = (xs.extract off (off + a.size)).toList.length:=by simp;omega
  have b:=qnn hp k f
  cases hb : Ke d with
  | true=>
    rw [hb] at b
    refine ⟨.agg (xs.extract off (off + a.size)),?_,by
      have q : RelV w Z inj nx v (.agg (xs.extract off (off + a.size)).toList.toArray):=b
      rwa [Array.toArray_toList] at q⟩
    simp [part,q38 o,hb,Zl s]
  | false=>
    rw [hb] at b hp
    match r,hp,m,j with
    | [c],hp,m,j=>
      simp only [pack,Option.some.injEq] at hp;subst hp;have g:=(j 0 c rfl).1;simp only [Nat.add_zero] at g;obtain ⟨x,p⟩:=Yj (xs:=xs) (i:=off) (by have:=Kh g;omega);exact ⟨x,by simp [part,q38 o,hb,p],l.2 _ _ _ g p⟩
end
section
variable {w : World} {Z : Nat→Prop} {inj : Inj} {st : AS} {a : Act} {Ds : List Nat}
theorem qxa {t : TypeId} {i : TI} {g : Array (Nat × Operand)} {vs : List (Nat × V)} {l : List (Nat × List V)} {cs : List V} (h : RelS w Z inj st a Ds) (ht : tiOf P t = some i) (hv : Ji st.ev g.toList = some vs)
    (ha : i.agg = true) (hl : placed i vs = some l) (hf : q5v (i.zero.map .d) l = some cs) :
    Km st st (q6h cs) w Z inj ((do pure (Next.value (← Instr.build t (g.map fun (i,x)=>(i,a.eval x)))) : Sem Next).run P w):=by
  obtain ⟨ap,d,z,k⟩:=Yw ht;obtain ⟨p1,p2⟩:=qla h hv;obtain ⟨q1,q2⟩:=qnz hl;have hz:=q16p (w:=w) (Z:=Z) (inj:=inj) (nx:=st.nx) k
  have r : ∀ (k i : Nat) (v : V),vs[k]? = some (i,v)→∃ x,(g.toList.map fun (x : Nat × Operand)=>(x.1,a.eval x.2))[k]? = some (i,x)∧RelV w Z inj st.nx v x:=by
    intro k i v q;obtain ⟨o,ho,c⟩:=p2 k i v q;exact ⟨a.eval o,by simp only [List.getElem?_map,ho];rfl,c⟩
  have aa : (zeroValue t).run P w = .ok z w:=by simp [zeroValue,typeInfo,k.inf,k.zero]
  have b:=k.kind;unfold Zm at b;cases q : i.kind <;> simp only [q,TI.agg] at b ha
  case struct=>
    obtain ⟨fs,rfl,u⟩:=b;obtain ⟨_,al⟩:=qlg u
    obtain ⟨C',hC,c⟩:=qgc (fun i=>((fs.toList.map fun (f : Field)=>(f.offset,((P.info? f.type).map (·.size)).getD 0)).toArray)[i]?) vs (g.toList.map fun (x : Nat × Operand)=>(x.1,a.eval x.2)) l _ cs z.cells (by simp [p1]) r q1
      (fun k i' v m=>by
        obtain ⟨o,s,y,h2,h3,h4⟩:=q2 k i' v m;simp only [q,Yc] at y;obtain ⟨⟨o',s',ag⟩,h5,h6⟩:=y;simp at h6;obtain ⟨rfl,rfl⟩:=h6;obtain ⟨f,jf,df,p,g2,_,g4,_,g6,_⟩:=qgf u h5
        exact ⟨o',s',by simp [p,g2,g4,g6],h2,h3,h4⟩) hz hf
    refine .quiet h (Kl (x:=.agg C') ?_) (qhf c.1 c.2)
    have hm : (fs.mapM fun f=>do pure (f.offset,← sizeOf f.type) : Sem (Array (Nat × Nat))).run P w = .ok (fs.toList.map fun (f : Field)=>(f.offset,((P.info? f.type).map (·.size)).getD 0)).toArray w:=by
      refine qzv fun f hf=>?_;obtain ⟨j,hj⟩:=List.mem_iff_getElem?.1 hf;obtain ⟨jf,df,p,_⟩:=al j f (by simpa using hj);simp [Zl p,p]
    simp only [Instr.build,Sem.run_bind,aa,Result.andThen_ok,run_underlying k.und,hm];have n : Instr.fill (fun x=>((fs.toList.map fun (f : Field)=>(f.offset,((P.info? f.type).map (·.size)).getD 0)).toArray)[x]?) z.cells (g.map fun (x : Nat × Operand)=>(x.1,a.eval x.2)).toList = some C':=by simpa using hC
    simp only [n];rfl
  case array=>
    obtain ⟨e,ie,de,rfl,p,g2,g3,g4,_⟩:=b
    obtain ⟨C',hC,c⟩:=qgc (fun j=>some (j * i.esize,i.esize)) vs (g.toList.map fun (x : Nat × Operand)=>(x.1,a.eval x.2)) l _ cs z.cells (by simp [p1]) r q1
      (fun k i' v m=>by
        obtain ⟨o,s,y,h2,h3,h4⟩:=q2 k i' v m;simp only [q] at y
        exact ⟨o,s,y,h2,h3,h4⟩) hz hf
    refine .quiet h (Kl (x:=.agg C') ?_) (qhf c.1 c.2);have n : Instr.fill (fun j=>some (j * i.esize,i.esize)) z.cells (g.map fun (x : Nat × Operand)=>(x.1,a.eval x.2)).toList = some C':=by simpa using hC
    simp only [Instr.build,Sem.run_bind,aa,Result.andThen_ok,run_underlying k.und,Zl p,g3,n];rfl
  all_goals simp at ha
theorem qmr {t : TypeId} {i : TI} {pv v : V} {vp : Value} (h : RelH w Z inj st.hp st.nx) (ht : tiOf P t = some i) (hx : RelV w Z inj st.nx pv vp) (a : U9 st i pv = some v) :
    ∃ b o x,vp = .pointer (some ⟨b,o,none⟩)∧(Instr.loadAt t vp).run P w = .ok x w∧RelV w Z inj st.nx v x:=by
  obtain ⟨an,d,z,k⟩:=Yw ht
  have fin : ∀ {b o : Nat} {r : List V} {pp : Value},pp = .pointer (some ⟨b,o,none⟩)→pack i.agg r = some v→r.length = i.size→
      (∀ (k : Nat) (x : V),r[k]? = some x→∃ c,w.cell? ⟨b,o + k,none⟩ = some c∧RelV w Z inj st.nx x c)→∃ b o x,pp = .pointer (some ⟨b,o,none⟩)∧(Instr.loadAt t pp).run P w = .ok x w∧RelV w Z inj st.nx v x:=by
    intro b o r pp q ai ad hc
    obtain ⟨x,ab,ac⟩:=qvt (P:=P) k ai ad hc
    exact ⟨b,o,x,q,by rw [q];exact ab,ac⟩
  cases pv <;> simp only [U9,reduceCtorEq] at a
  case ref n es e j=>
    cases hx with
    | @ref _ _ _ _ b o hn hi=>
    cases hb : st.blk n with
    | none=>simp [hb] at a
    | some blk=>
      have hB:=(h.blk n blk hb).2
      cases blk with
      | dead=>simp [hb] at a
      | loop=>simp [hb] at a
      | mp=>simp [hb] at a
      | dat es' xs=>
        simp only [hb] at a;split at a <;> try simp at a
        rename_i cs q l;have q:=Nat.eq_of_beq_eq_true q;subst q
        cases hs : sub cs j i.size with
        | none=>simp [hs] at a
        | some r=>
          simp only [hs] at a;rw [qhq] at a;obtain ⟨u,s⟩:=qbz hs;obtain ⟨b1,b2,f⟩:=hB;rcases f with ⟨f,_⟩ | ⟨b',o',arr,ty,f,b4,b5⟩
          · subst f;simp at l
          · rw [hi] at f;cases f;refine fin rfl a (by simpa using u) ?_;intro k x m;simp only [List.getElem?_map,Yc] at m;obtain ⟨y,hy,rfl⟩:=m;obtain ⟨p,_⟩:=s k y hy;obtain ⟨_,c,h4,h5⟩:=b5 e cs (j + k) y l p;exact ⟨c,by simp only [World.cell?,b4];rw [← h4];simp [Nat.add_assoc],.d h5⟩
      | cel es' xs=>
        simp only [hb] at a;split at a <;> try simp at a
        rename_i cs q l;have q:=Nat.eq_of_beq_eq_true q;subst q
        cases hs : sub cs j i.size with
        | none=>simp [hs] at a
        | some r=>
          simp only [hs] at a;obtain ⟨u,s⟩:=qbz hs;obtain ⟨b1,b2,f⟩:=hB;rcases f with ⟨f,_⟩ | ⟨b',o',arr,ty,f,b4,b5⟩
          · subst f;simp at l
          · rw [hi] at f;cases f;refine fin rfl a u ?_;intro k x m;obtain ⟨p,_⟩:=s k x m;obtain ⟨_,c,h4,h5⟩:=b5 e cs (j + k) x l p;exact ⟨c,by simp only [World.cell?,b4];rw [← h4];simp [Nat.add_assoc],h5⟩
  case dref cs j=>
    cases hx with
    | @dref _ _ b o hz hc hr=>
    cases hs : sub cs j i.size with
    | none=>simp [hs] at a
    | some r=>
      simp only [hs] at a;rw [qhq] at a;obtain ⟨u,s⟩:=qbz hs;refine fin rfl a (by simpa using u) ?_;intro k x m;simp only [List.getElem?_map,Yc] at m;obtain ⟨y,hy,rfl⟩:=m;obtain ⟨p,_⟩:=s k y hy;obtain ⟨c,g⟩:=hc _ _ p;exact ⟨c,by rw [← g,Nat.add_assoc],.d (hr _ _ _ p g)⟩
  case d x=>
    cases x <;> simp only [reduceCtorEq] at a
    rename_i cs
    cases hx with
    | d hx=>
    cases hx with
    | @box _ b o hz hc hr=>
    cases hs : sub cs 0 i.size with
    | none=>simp [hs] at a
    | some r=>
      simp only [hs] at a;rw [qhq] at a;obtain ⟨u,s⟩:=qbz hs;refine fin rfl a (by simpa using u) ?_;intro k x m;simp only [List.getElem?_map,Yc] at m;obtain ⟨y,hy,rfl⟩:=m;obtain ⟨p,_⟩:=s k y hy;rw [Nat.zero_add] at p;obtain ⟨c,g⟩:=hc _ _ p;exact ⟨c,g,.d (hr _ _ _ p g)⟩
theorem qxl {t : TypeId} {i : TI} {p : Operand} {pv v : V} (h : RelS w Z inj st a Ds) (g : tiOf P t = some i) (hp : st.ev p = some pv) (f : U9 st i pv = some v) :
    Km st st v w Z inj ((do pure (Next.value (← Instr.loadAt t (a.eval p))) : Sem Next).run P w):=by
  obtain ⟨b,o,x,_,c,d⟩:=qmr (P:=P) h.heap g (Kd h hp) f;exact .quiet h (Kl c) d
end
end Go.Am
namespace Go.Am
open Go
variable {P : Program} {T : Tab}
theorem qfu : ∀ {c d : List (Option IntKind)} {a b : List DV} {r : Bool},Ki (c ++ d) a b = some r→
    ∃ p q,Ki c (a.take c.length) (b.take c.length) = some p∧Ki d (a.drop c.length) (b.drop c.length) = some q∧r = (p && q)
  | [],d,a,b,r,h=>⟨true,r,by simp [Ki],by simpa using h,qg⟩
  | k::c,d,a,b,r,h=>by
    match a,b,h with
    | x::a,y::b,h=>
      simp only [List.cons_append,Ki] at h
      split at h <;> simp at h
      rename_i u v m f
      obtain ⟨p,q,g,l,j⟩:=qfu f
      refine ⟨u && p,q,by simp [Ki,m,g],by simpa using l,?_⟩
      rw [← h,j,Bool.and_assoc]
    | [],_,h=>simp [Ki] at h
    | _::_,[],h=>simp [Ki] at h
theorem qco : ∀ {ks : List (Option IntKind)} {a b : List DV} {r : Bool},Ki ks a b = some r→a.length = ks.length∧b.length = ks.length
  | [],[],[],_,_=>⟨rfl,rfl⟩
  | k::ks,x::a,y::b,r,h=>by
    simp only [Ki] at h
    split at h <;> simp at h
    rename_i d c
    have:=qco c
    simp;omega
  | [],_::_,_,_,h=>by simp [Ki] at h
  | [],[],_::_,_,h=>by simp [Ki] at h
  | _::_,[],_,_,h=>by simp [Ki] at h
  | _::_,_::_,[],_,h=>by simp [Ki] at h
section
variable {w : World} {Z : Nat→Prop}
def DRel (w : World) (Z : Nat→Prop) (ds : List DV) (cs : Array Value) : Prop:=ds.length = cs.size∧∀ (i : Nat) (d : DV) (c : Value),ds[i]? = some d→cs[i]? = some c→RelD w Z d c
theorem DRel.extract {ds : List DV} {cs : Array Value} (h : DRel w Z ds cs) (o s : Nat) (hs : o + s≤ds.length) : DRel w Z ((ds.drop o).take s) (cs.extract o (o + s)):=by
  have b:=h.1;refine ⟨by simp;omega,fun i d c hd a=>?_⟩;rw [List.getElem?_take] at hd;split at hd
  · rw [List.getElem?_drop] at hd;rw [Array.getElem?_extract] at a;split at a
    · exact h.2 _ _ _ hd a
    · simp at a
  · simp at hd
theorem qf0 {t : TypeId} {d : TypeDesc} (h : P.underlying t = some d) : ∃ a,P.info? t = some a∧P.cellsOf t = a.size:=by
  cases hi : P.info? t with
  | none=>simp [Program.underlying,hi] at h
  | some a=>exact ⟨a,rfl,by simp [Program.cellsOf,hi]⟩
def EqOk (P : Program) (w : World) (Z : Nat→Prop) (k : Nat) (t : TypeId) (desc : TypeDesc) (ks : List (Option IntKind)) : Prop:=
  ∀ (xs ys : List DV) (X Y : Array Value) (r : Bool),DRel w Z xs X→DRel w Z ys Y→Ki ks xs ys = some r→
    (Ke desc = true→(Op.equalIn k t (.agg X) (.agg Y)).run P w = .ok r w)∧(Ke desc = false→ks.length = 1∧∀ x y,X[0]? = some x→Y[0]? = some y→(Op.equalIn k t x y).run P w = .ok r w)
def q9r (k : Nat) (X Y : Array Value) (f : Field) (_s : Option Bool × Unit) : Sem (ForInStep (Option Bool × Unit)):=
  if f.name ≠ "_" then do
    let __do_lift ← part f.type X f.offset
    let __do_lift_1 ← part f.type Y f.offset
    let __do_lift ← Op.equalIn k f.type __do_lift __do_lift_1
    if (!__do_lift) = true then pure (ForInStep.done (some false,())) else pure (ForInStep.yield (none,()))
  else pure (ForInStep.yield (none,()))
theorem ql9 {k : Nat} {t : TypeId} {desc : TypeDesc} {b : TypeInfo} {ks : List (Option IntKind)} (h : EqOk P w Z k t desc ks) (f : P.underlying t = some desc) (hi : P.info? t = some b) (hs : b.size = ks.length)
    {xs ys : List DV} {X Y : Array Value} (r : DRel w Z xs X) (q : DRel w Z ys Y) {o : Nat} (g : o + ks.length≤xs.length) (l : o + ks.length≤ys.length) {p : Bool}
    (hp : Ki ks ((xs.drop o).take ks.length) ((ys.drop o).take ks.length) = some p) :
    ∃ n m,(part t X o).run P w = .ok n w∧(part t Y o).run P w = .ok m w∧(Op.equalIn k t n m).run P w = .ok p w:=by
  obtain ⟨v,j⟩:=h _ _ _ _ p (r.extract o ks.length g) (q.extract o ks.length l) hp
  cases a : Ke desc with
  | true=>
    exact ⟨.agg (X.extract o (o + ks.length)),.agg (Y.extract o (o + ks.length)),by simp [part,q38 f,a,Zl hi,hs],by simp [part,q38 f,a,Zl hi,hs],v a⟩
  | false=>
    obtain ⟨s,j⟩:=j a;have u:=r.1;have z:=q.1;obtain ⟨x,d⟩:=Yj (xs:=X) (i:=o) q6;obtain ⟨y,c⟩:=Yj (xs:=Y) (i:=o) q6;refine ⟨x,y,by simp [part,q38 f,a,d],by simp [part,q38 f,a,c],j x y ?_ ?_⟩
    · rw [Array.getElem?_extract,s,qr (by have:=Zq d;omega)];exact d
    · rw [Array.getElem?_extract,s,qr (by have:=Zq c;omega)];exact c
theorem ql6 (d : Nat) (k : Nat) (s : ∀ t desc ks,P.underlying t = some desc→Kk P d t = some ks→EqOk P w Z k t desc ks)
    (xs ys : List DV) (X Y : Array Value) (x : DRel w Z xs X) (v : DRel w Z ys Y) : ∀ (l : List Field) (o : Nat) (r : Bool) (ks : List (Option IntKind)),tile P (Kk P d) o l = some ks→o + ks.length≤xs.length→o + ks.length≤ys.length→
    Ki ks (xs.drop o) (ys.drop o) = some r→(forIn l ((none : Option Bool),()) (q9r k X Y) : Sem (Option Bool × Unit)).run P w = .ok (if r then (none,()) else (some false,())) w
  | [],o,r,ks,ht,_,_,hc=>by
    simp only [tile,Option.some.injEq] at ht;subst ht
    obtain ⟨h1,h2⟩:=qco hc
    rw [List.eq_nil_of_length_eq_zero h1,List.eq_nil_of_length_eq_zero h2] at hc
    simp [Ki] at hc;subst hc
    simp
  | f::l,o,r,ks,ht,hlx,hly,hc=>by
    simp only [tile] at ht
    cases a : Kk P d f.type with
    | none=>simp [a] at ht
    | some ka=>
      simp only [a] at ht
      split at ht <;> try simp at ht
      rename_i c
      obtain ⟨rfl,hn,ab⟩:=c
      cases g : tile P (Kk P d) (f.offset + ka.length) l with
      | none=>simp [g] at ht
      | some kb=>
        simp only [g,Option.some.injEq] at ht;subst ht
        simp only [List.length_append] at hlx hly
        obtain ⟨p,q,hp,u,j⟩:=qfu hc
        rw [List.drop_drop,List.drop_drop] at u
        obtain ⟨h,b⟩ : ∃ h,P.underlying f.type = some h:=by
          cases hu : P.underlying f.type with
          | none=>cases d <;> simp [Kk,hu] at a
          | some h=>exact ⟨h,rfl⟩
        obtain ⟨jf,m,n⟩:=qf0 b
        obtain ⟨vx,vy,y,z,g3⟩:=ql9 (s f.type h ka b a) b m q6 x v (o:=f.offset) q6 q6 hp
        rw [List.forIn_cons]
        simp only [q9r,qr hn,Sem.run_bind,y,z,g3,Result.andThen_ok]
        cases p with
        | false=>simp [j]
        | true=>
          have:=ql6 d k s xs ys X Y x v l (f.offset + ka.length) q kb g q6 q6 u;simp only [Bool.true_and] at j;subst j;simpa using this
def q9s (k : Nat) (e : TypeId) (n : Nat) (X Y : Array Value) (i : Nat) (_s : Option Bool × Unit) : Sem (ForInStep (Option Bool × Unit)):=do
  let __do_lift ← part e X (i * n)
  let __do_lift_1 ← part e Y (i * n)
  let __do_lift ← Op.equalIn k e __do_lift __do_lift_1
  if (!__do_lift) = true then pure (ForInStep.done (some false,())) else pure (ForInStep.yield (none,()))
theorem ql7 {k : Nat} {e : TypeId} {desc : TypeDesc} {b : TypeInfo} {a : List (Option IntKind)} (j : EqOk P w Z k e desc a) (g : P.underlying e = some desc) (hi : P.info? e = some b) (hs : b.size = a.length)
    {xs ys : List DV} {X Y : Array Value} (h : DRel w Z xs X) (f : DRel w Z ys Y) : ∀ (m s : Nat) (r : Bool),(s + m) * a.length≤xs.length→(s + m) * a.length≤ys.length→
    Ki (List.replicate m a).flatten (xs.drop (s * a.length)) (ys.drop (s * a.length)) = some r→(forIn (List.range' s m) ((none : Option Bool),()) (q9s k e b.size X Y) : Sem (Option Bool × Unit)).run P w = .ok (if r then (none,()) else (some false,())) w
  | 0,s,r,_,_,hc=>by
    simp only [List.replicate_zero,List.flatten_nil] at hc
    obtain ⟨v,u⟩:=qco hc
    rw [List.eq_nil_of_length_eq_zero v,List.eq_nil_of_length_eq_zero u] at hc
    simp [Ki] at hc;subst hc
    simp
  | m + 1,s,r,hlx,hly,hc=>by
    rw [List.replicate_succ,List.flatten_cons] at hc
    obtain ⟨p,q,hp,d,c⟩:=qfu hc
    rw [List.drop_drop,List.drop_drop] at d
    have n : s * a.length + a.length = (s + 1) * a.length:=by rw [Nat.add_mul];simp
    have y : (s + 1) * a.length + m * a.length = (s + (m + 1)) * a.length:=by rw [← Nat.add_mul];congr 1;omega
    obtain ⟨vx,z,l,t,x⟩:=ql9 j g hi hs h f (o:=s * a.length) q6 q6 hp
    rw [List.range'_succ,List.forIn_cons]
    simp only [q9s,hs,Sem.run_bind,l,t,x,Result.andThen_ok]
    cases p with
    | false=>simp [c]
    | true=>
      rw [n] at d
      have:=ql7 j g hi hs h f m (s + 1) q (by rw [Nat.add_mul];omega) (by rw [Nat.add_mul];omega) d
      simp only [Bool.true_and] at c
      subst c
      rw [hs] at this
      simpa using this
theorem qcy : ∀ (d : Nat) (t : TypeId) (desc : TypeDesc) (ks : List (Option IntKind)),P.underlying t = some desc→Kk P d t = some ks→∀ k,d≤k→EqOk P w Z k t desc ks
  | 0,t,desc,ks,hu,hp,k,hk=>by simp [Kk] at hp
  | d + 1,t,desc,ks,hu,hp,k,hk=>by
    obtain ⟨k,rfl⟩ : ∃ k',k = k' + 1:=⟨k - 1,q6⟩
    intro xs ys X Y r z v c
    obtain ⟨q,p⟩:=qco c
    simp only [Kk,hu] at hp
    cases desc <;> simp only [reduceCtorEq,Option.some.injEq] at hp
    case bool=>
      subst hp
      refine ⟨by simp [Ke],fun _=>⟨rfl,fun x y l j=>?_⟩⟩
      match xs,ys,q,p,c with
      | [a],[b],_,_,c=>
        have ra:=z.2 0 a x rfl l
        have rb:=v.2 0 b y rfl j
        simp only [Ki] at c
        cases a <;> cases b <;> simp only [q2o,reduceCtorEq] at c
        simp at c;subst c
        cases ra;cases rb;simp [Op.equalIn,run_underlying hu]
    case int k0=>
      subst hp
      refine ⟨by simp [Ke],fun _=>⟨rfl,fun x y l j=>?_⟩⟩
      match xs,ys,q,p,c with
      | [a],[b],_,_,c=>
        have ra:=z.2 0 a x rfl l
        have rb:=v.2 0 b y rfl j
        simp only [Ki] at c
        cases a <;> cases b <;> simp only [q2o,reduceCtorEq] at c
        split at c <;> simp at c
        rename_i m u
        split at m <;> simp at m
        rename_i ae
        obtain ⟨rfl,rfl⟩:=ae
        subst m c
        simp at u;subst u
        cases ra;cases rb;simp [Op.equalIn,run_underlying hu]
    case struct fs=>
      refine ⟨fun _=>?_,by simp [Ke]⟩
      split at hp
      · simp at hp
      · rename_i ac
        simp only [Op.equalIn,Sem.run_bind,run_underlying hu,Result.andThen_ok,run_program,ac,Bool.false_eq_true,if_false]
        have:=ql6 (P:=P) (w:=w) (Z:=Z) d k (fun t desc ks m u=>qcy d t desc ks m u k q6) xs ys X Y z v fs.toList 0 r ks hp q6 q6 (by simpa using c)
        rw [Array.forIn_toList] at this
        have e : (fun (f : Field) (_s : Option Bool × Unit)=>q9r k X Y f _s) = q9r k X Y:=rfl
        unfold q9r at this
        rw [this]
        cases r <;> simp
    case array n e=>
      refine ⟨fun _=>?_,by simp [Ke]⟩
      cases g : Kk P d e with
      | none=>simp [g] at hp
      | some a=>
        simp only [g] at hp
        split at hp
        · rename_i aj
          simp only [Option.some.injEq] at hp;subst hp
          obtain ⟨o,h⟩ : ∃ o,P.underlying e = some o:=by
            cases ab : P.underlying e with
            | none=>cases d <;> simp [Kk,ab] at g
            | some o=>exact ⟨o,rfl⟩
          obtain ⟨je,s,af⟩:=qf0 h
          have ag : (List.replicate n a).flatten.length = n * a.length:=by simp
          have:=ql7 (qcy d e o a h g k q6) h s q6 z v n 0 r (by rw [Nat.zero_add];omega) (by rw [Nat.zero_add];omega) (by simpa using c)
          simp only [Op.equalIn,Sem.run_bind,run_underlying hu,Result.andThen_ok,Zl s,Std.Legacy.Range.forIn_eq_forIn_range']
          have e : (fun (i : Nat) (_s : Option Bool × Unit)=>q9s k e je.size X Y i _s) = q9s k e je.size X Y:=rfl
          unfold q9s at this
          simp only [Std.Legacy.Range.size,Nat.sub_zero,Nat.add_sub_cancel,Nat.div_one]
          rw [this]
          cases r <;> simp
        · simp at hp
end
section
variable {w : World} {Z : Nat→Prop} {inj : Inj} {st : AS} {a : Act} {Ds : List Nat}
theorem qrz {op : BinOp} {k : IntKind} {x y : Int} {r : DV} (h : binI op k x y = some r) (hs : op≠.shl∧op≠.shr) : ∃ v,(∀ t,(binOp op t (.int k x) (.int k y)).run P w = .ok v w)∧RelD w Z r v:=by
  cases op <;> simp only [binI,reduceCtorEq,Option.some.injEq] at h <;> try (simp at hs;done)
  case add=>subst h;exact ⟨_,fun t=>by simp [binOp,Op.intArith],.int _ _⟩
  case sub=>subst h;exact ⟨_,fun t=>by simp [binOp,Op.intArith],.int _ _⟩
  case mul=>subst h;exact ⟨_,fun t=>by simp [binOp,Op.intArith],.int _ _⟩
  case quo=>split at h <;> simp at h;subst h;rename_i a;exact ⟨_,fun t=>by simp [binOp,Op.intDiv,a],.int _ _⟩
  case rem=>split at h <;> simp at h;subst h;rename_i a;exact ⟨_,fun t=>by simp [binOp,Op.intDiv,a],.int _ _⟩
  case and=>subst h;exact ⟨_,fun t=>by simp [binOp,Op.intBits],.int _ _⟩
  case or=>subst h;exact ⟨_,fun t=>by simp [binOp,Op.intBits],.int _ _⟩
  case xor=>subst h;exact ⟨_,fun t=>by simp [binOp,Op.intBits],.int _ _⟩
  case eql=>subst h;exact ⟨_,fun t=>by simp [binOp,Op.intCmp],.bool _⟩
  case neq=>subst h;exact ⟨_,fun t=>by simp [binOp,Op.intCmp],.bool _⟩
  case lss=>subst h;exact ⟨_,fun t=>by simp [binOp,Op.intCmp],.bool _⟩
  case leq=>subst h;exact ⟨_,fun t=>by simp [binOp,Op.intCmp],.bool _⟩
  case gtr=>subst h;exact ⟨_,fun t=>by simp [binOp,Op.intCmp],.bool _⟩
  case geq=>subst h;exact ⟨_,fun t=>by simp [binOp,Op.intCmp],.bool _⟩
theorem qoz {op : BinOp} {k b : IntKind} {x y : Int} {r : DV} (h : qam op k x y = some r) : ∃ v,(∀ t,(binOp op t (.int k x) (.int b y)).run P w = .ok v w)∧RelD w Z r v:=by
  unfold qam at h;split at h <;> try simp at h
  rename_i a;cases op <;> simp only [reduceCtorEq,Option.some.injEq] at h
  case shl=>subst h;exact ⟨_,fun t=>by simp [binOp,Op.shift,a],.int _ _⟩
  case shr=>subst h;exact ⟨_,fun t=>by simp [binOp,Op.shift,a],.int _ _⟩
theorem q1q {op : BinOp} {t : TypeId} {x y : Operand} {u v : Value} (a : ∀ c,u≠.agg c) (b : u≠.nilIface) : (eqGuard op t x y u v).run P w = .ok () w:=by
  unfold eqGuard;cases op <;> simp <;> cases u <;> simp_all
theorem ql4 {op : BinOp} {t : TypeId} {x y : Operand} {u v : Array Value} (h : P.eqGuardType P.depth t = false) : (eqGuard op t x y (.agg u) (.agg v)).run P w = .ok () w:=by
  unfold eqGuard;cases op <;> simp [h]
end
end Go.Am
namespace Go.Am
open Go
variable {P : Program} {T : Tab}
section
variable {w : World} {Z : Nat→Prop} {inj : Inj} {st : AS} {a : Act} {Ds : List Nat}
theorem qqm {a : TypeId → Option (List (Option IntKind))} {k : Nat} (b : ∀ t ks, a t = some ks → P.eqGuardType k t = false) : ∀ {l : List Field} {o : Nat} {ks}, tile P a o l = some ks → l.any (fun f => f.name != "_" && P.eqGuardType k f.type) = false
  | [],_,_,_=>rfl
  | f::r,o,ks,h=>by
    simp only [tile] at h
    cases hp : a f.type with
    | none=>simp [hp] at h
    | some ka=>
      simp only [hp] at h
      split at h <;> try simp at h
      cases c : tile P a (o + ka.length) r with
      | none=>simp [c] at h
      | some kb=>
        have:=qqm b c
        simp only [List.any_cons,this,b _ _ hp,Bool.and_false,Bool.or_false]
theorem qhj : ∀ (d : Nat) (t : TypeId) (ks : List (Option IntKind)),Kk P d t = some ks→∀ k,d≤k→P.eqGuardType k t = false
  | 0,t,ks,h,k,hk=>by simp [Kk] at h
  | d + 1,t,ks,h,k,hk=>by
    obtain ⟨k,rfl⟩ : ∃ c,k = c + 1:=⟨k - 1,q6⟩
    simp only [Kk] at h
    simp only [Program.eqGuardType]
    cases b : P.underlying t with
    | none=>rfl
    | some desc=>
      cases desc <;> simp only [b,reduceCtorEq] at h <;> try rfl
      case array n e=>
        cases hp : Kk P d e with
        | none=>simp [hp] at h
        | some a=>exact qhj d e a hp k q6
      case struct fs=>
        split at h <;> try simp at h
        have:=qqm (fun t ks hp=>qhj d t ks hp k q6) h
        simp only []
        rw [← Array.any_toList];exact this
theorem qnh {op : BinOp} {t : TypeId} {i : TI} {x y : Operand} {p q : List DV} {ks : List (Option IntKind)} {r : Bool} {b : DV} (h : RelS w Z inj st a Ds) (s : tiOf P t = some i) (hx : st.ev x = some (.d (.agg p))) (v : st.ev y = some (.d (.agg q)))
    (u : i.eqs = some ks) (hc : Ki ks p q = some r) (m : (op = .eql∧b = .bool r)∨(op = .neq∧b = .bool (!r))) :
    Km st st (.d b) w Z inj ((do pure (Next.value (← (do eqGuard op t x y (a.eval x) (a.eval y);binOp op t (a.eval x) (a.eval y) : Sem Value)) ) : Sem Next).run P w):=by
  obtain ⟨o,d,z,k⟩:=Yw s;have j:=Kd h hx;have g:=Kd h v;generalize a.eval x = vx at j ⊢;generalize a.eval y = vy at g ⊢
  cases j with | d j=>cases j with | @agg _ X hl1 hr1=>
  cases g with | d g=>cases g with | @agg _ Y hl2 hr2=>
  obtain ⟨f,l⟩:=k.eqs ks u;have n : P.eqGuardType P.depth t = false:=qhj 8 t ks f _ (by unfold Program.depth Made.depth;omega);have c:=(qcy (w:=w) (Z:=Z) 8 t d ks k.und f Op.maxDepth (by unfold Op.maxDepth;omega) p q X Y r ⟨hl1,hr1⟩ ⟨hl2,hr2⟩ hc).1 l;rcases m with ⟨rfl,rfl⟩ | ⟨rfl,rfl⟩
  · exact .quiet h (Kl (x:=.bool r) (by simp [ql4 n,binOp,Op.equal,c])) (.d (.bool _))
  · exact .quiet h (Kl (x:=.bool (!r)) (by simp [ql4 n,binOp,Op.equal,c])) (.d (.bool _))
theorem qx8 {op : BinOp} {t : TypeId} {x y : Operand} {k j : IntKind} {p q : Int} {b : DV} (h : RelS w Z inj st a Ds) (hx : st.ev x = some (.d (.int k p))) (z : st.ev y = some (.d (.int j q)))
    (c : binD op (.int k p) (.int j q) = some b) :
    Km st st (.d b) w Z inj ((do pure (Next.value (← (do eqGuard op t x y (a.eval x) (a.eval y);binOp op t (a.eval x) (a.eval y) : Sem Value)) ) : Sem Next).run P w):=by
  have m:=Kd h hx;have l:=Kd h z;generalize a.eval x = vx at m ⊢;generalize a.eval y = vy at l ⊢
  cases m with | d m=>
  cases m
  cases l with | d l=>
  cases l;have s:=q1q (P:=P) (w:=w) (op:=op) (t:=t) (x:=x) (y:=y) (u:=.int k p) (v:=.int j q) qg qg
  have key : ∃ v,(∀ t,(binOp op t (.int k p) (.int j q)).run P w = .ok v w)∧RelD w Z b v:=by
    unfold binD at c;split at c
    · rename_i f g;cases f;cases g;exact qoz c
    · rename_i f g;cases f;cases g;exact qoz c
    · rename_i n1 o f g;cases f;cases g;split at c <;> try simp at c
      rename_i r;subst r;exact qrz c ⟨fun e=>n1 e,fun e=>o e⟩
    · simp at c
  obtain ⟨v,hv,n⟩:=key;exact .quiet h (Kl (x:=v) (by simp [s,hv])) (.d n)
theorem maxD : Op.maxDepth = 9999 + 1:=rfl
theorem qtz {t : TypeId} (h : P.underlying t = some .bool) (p q : Bool) : (Op.equal t (.bool p) (.bool q)).run P w = .ok (p == q) w:=by
  rw [Op.equal,maxD,Op.equalIn];simp only [Sem.run_bind,run_underlying h,Result.andThen_ok];rfl
theorem ql8 {t e : TypeId} (h : P.underlying t = some (.slice e)) (a : Option Addr) (n c : Nat) : (Op.equal t (.slice none 0 0) (.slice a n c)).run P w = .ok a.isNone w:=by
  rw [Op.equal,maxD,Op.equalIn];simp only [Sem.run_bind,run_underlying h,Result.andThen_ok];rfl
theorem qu3 {t e : TypeId} (h : P.underlying t = some (.slice e)) (a : Addr) (n c : Nat) : (Op.equal t (.slice (some a) n c) (.slice none 0 0)).run P w = .ok false w:=by
  rw [Op.equal,maxD,Op.equalIn];simp only [Sem.run_bind,run_underlying h,Result.andThen_ok];rfl
theorem qu0 {t : TypeId} {x y z} (h : P.underlying t = some (.func x y z)) : (Op.equal t .nilFunc .nilFunc).run P w = .ok true w:=by
  rw [Op.equal,maxD,Op.equalIn];simp only [Sem.run_bind,run_underlying h,Result.andThen_ok];rfl
theorem qu1 {t : TypeId} {x y z} (h : P.underlying t = some (.func x y z)) (f g c) : (Op.equal t .nilFunc (.func f g c)).run P w = .ok false w:=by
  rw [Op.equal,maxD,Op.equalIn];simp only [Sem.run_bind,run_underlying h,Result.andThen_ok];rfl
theorem qu2 {t : TypeId} {x y z} (h : P.underlying t = some (.func x y z)) (f g c) : (Op.equal t (.func f g c) .nilFunc).run P w = .ok false w:=by
  rw [Op.equal,maxD,Op.equalIn];simp only [Sem.run_bind,run_underlying h,Result.andThen_ok];rfl
theorem q41 {t : TypeId} {u v : Value} {r : Bool} (a : (Op.equal t u v).run P w = .ok r w) (f : ∀ k n,u≠.int k n) (b : ∀ k n,u≠.float k n) (d : ∀ k n m,u≠.complex k n m) (c : ∀ s,u≠.string s) :
    (binOp .eql t u v).run P w = .ok (.bool r) w∧(binOp .neq t u v).run P w = .ok (.bool (!r)) w:=by
  cases u <;> first | (exfalso;exact f _ _ rfl) | (exfalso;exact b _ _ rfl) | (exfalso;exact d _ _ _ rfl) | (exfalso;exact c _ rfl) | (constructor <;> (simp only [binOp];simp [a]))
theorem qx7 {op : BinOp} {t : TypeId} {i : TI} {x y : Operand} {p q : DV} {b : DV} (h : RelS w Z inj st a Ds) (ht : tiOf P t = some i) (hx : st.ev x = some (.d p)) (hy : st.ev y = some (.d q))
    (n : binE op i.kind p q = some b) :
    Km st st (.d b) w Z inj ((do pure (Next.value (← (do eqGuard op t x y (a.eval x) (a.eval y);binOp op t (a.eval x) (a.eval y) : Sem Value)) ) : Sem Next).run P w):=by
  obtain ⟨ab,d,z,k⟩:=Yw ht;have l:=Kd h hx;have j:=Kd h hy;generalize a.eval x = vx at l ⊢;generalize a.eval y = vy at j ⊢
  cases l with | d l=>
  cases j with | d j=>
  have key : ∀ r,eqK i.kind p q = some r→(eqGuard op t x y vx vy).run P w = .ok () w∧(binOp .eql t vx vy).run P w = .ok (.bool r) w∧(binOp .neq t vx vy).run P w = .ok (.bool (!r)) w:=by
    intro r c;have m:=k.kind;unfold Zm at m;unfold eqK at c;split at c <;> simp at c <;> (rename_i u;simp only [u] at m)
    · subst c;obtain ⟨rfl,_⟩:=m;cases l;cases j;exact ⟨q1q qg qg,q41 (qtz k.und _ _) qg qg qg qg⟩
    · subst c;cases l;cases j;exact ⟨q1q qg qg,by simp only [binOp,Op.stringOp];rfl,by simp only [binOp,Op.stringOp];rfl⟩
    · subst c;obtain ⟨e,ie,v,ze,rfl,_⟩:=m;cases l;cases j;exact ⟨q1q qg qg,q41 (ql8 k.und _ _ _) qg qg qg qg⟩
    · subst c;obtain ⟨e,ie,v,ze,rfl,_⟩:=m;cases l;cases j;exact ⟨q1q qg qg,q41 (ql8 k.und _ _ _) qg qg qg qg⟩
    · subst c;obtain ⟨e,ie,v,ze,rfl,_⟩:=m;cases l;cases j;exact ⟨q1q qg qg,q41 (qu3 k.und _ _ _) qg qg qg qg⟩
    · subst c;obtain ⟨⟨e,f,g,rfl⟩,_⟩:=m;cases l;cases j;exact ⟨q1q qg qg,q41 (qu0 k.und) qg qg qg qg⟩
    · subst c;obtain ⟨⟨e,f,g,rfl⟩,_⟩:=m;cases l;cases j;exact ⟨q1q qg qg,q41 (qu1 k.und _ _ _) qg qg qg qg⟩
    · subst c;obtain ⟨⟨e,f,g,rfl⟩,_⟩:=m;cases l;cases j;exact ⟨q1q qg qg,q41 (qu2 k.und _ _ _) qg qg qg qg⟩
  unfold binE at n;split at n
  · cases c : eqK i.kind p q with
    | none=>simp [c] at n
    | some r=>
      simp [c] at n;subst n;obtain ⟨o,s,_⟩:=key r c;exact .quiet h (Kl (x:=.bool r) (by simp [o,s])) (.d (.bool _))
  · cases c : eqK i.kind p q with
    | none=>simp [c] at n
    | some r=>
      simp [c] at n;subst n;obtain ⟨o,_,s⟩:=key r c;exact .quiet h (Kl (x:=.bool (!r)) (by simp [o,s])) (.d (.bool _))
  · simp at n
end
end Go.Am
namespace Go.Am
open Go
variable {P : Program} {T : Tab}
section
variable {w : World} {Z : Nat→Prop} {inj : Inj} {st : AS} {a : Act} {Ds : List Nat}
theorem qxt {op : UnOp} {x : Operand} {p b : DV} (h : RelS w Z inj st a Ds) (g : st.ev x = some (.d p)) (c : unD op p = some b) :
    Km st st (.d b) w Z inj ((do pure (Next.value (← Op.unary op (a.eval x))) : Sem Next).run P w):=by
  have f:=Kd h g;generalize a.eval x = vx at f ⊢
  cases f with | d f=>
  unfold unD at c;split at c
  · simp at c;subst c;cases f;exact .quiet h (Kl (by simp [Op.unary,Op.intArith])) (.d (.int _ _))
  · simp at c;subst c;cases f;exact .quiet h (Kl (by simp [Op.unary])) (.d (.bool _))
  · cases f;simp only [binI,Option.some.injEq] at c;subst c;exact .quiet h (Kl (by simp [Op.unary,Op.intBits])) (.d (.int _ _))
  · simp at c
theorem qxd {src dst : TypeId} {i j : TI} {x : Operand} {k0 s k : IntKind} {n : Int} (h : RelS w Z inj st a Ds) (hi : tiOf P src = some i) (t : tiOf P dst = some j) (c : i.kind = .int k0) (f : j.kind = .int k) (r : st.ev x = some (.d (.int s n))) :
    Km st st (.d (.int k (k.wrap n))) w Z inj ((do pure (Next.value (← convert src dst (a.eval x))) : Sem Next).run P w):=by
  obtain ⟨o,d,z,p⟩:=Yw hi;obtain ⟨g,v,u,q⟩:=Yw t;have m:=p.kind;have l:=q.kind;unfold Zm at m l;simp only [c,f] at m l;obtain ⟨rfl,_⟩:=m;obtain ⟨rfl,_⟩:=l;have b:=Kd h r;generalize a.eval x = vx at b ⊢
  cases b with | d b=>
  cases b;refine .quiet h (Kl (x:=.int k (k.wrap n)) ?_) (.d (.int _ _));simp only [convert,Sem.run_bind,run_underlying p.und,run_underlying q.und,Result.andThen_ok];simp [Conv.intToInt]
theorem qxn {f : FuncId} {first b : Array Operand} {j : List V} (h : RelS w Z inj st a Ds) (m : first.size = 0) (n : evL st.ev b.toList = some j) :
    Km st st (match allD j with | some ds=>.d (.fn f ds) | none=>.fn f j) w Z inj ((do pure (Next.value (← Instr.makeFunc (.func f) (first.map a.eval) (b.map a.eval))) : Sem Next).run P w):=by
  have g:=q9v h n;have k : first.map a.eval = #[]:=by apply Array.eq_empty_of_size_eq_zero;simpa using m
  have l : (b.toList.map a.eval).toArray = b.map a.eval:=by apply Array.ext';simp
  rw [l] at g;refine .quiet h (Kl (x:=.func (.func f) #[] (b.map a.eval)) (by simp [Instr.makeFunc,k])) ?_;split
  · rename_i ds hd;have:=q5n hd;subst this;refine .d (.fn (by simpa using g.1) fun i d c hd o=>?_);have:=g.2 i (.d d) c (by simp [hd]) o
    cases this with | d h=>exact h
  · exact .fn g.1 g.2
theorem qni {x : Operand} {k : Nat} {v : V} (h : RelS w Z inj st a Ds) (j : (∃ b d,st.ev x = some (.d (.tup b))∧b[k]? = some d∧v = .d d)∨∃ b,st.ev x = some (.tup b)∧b[k]? = some v) :
    Km st st v w Z inj ((do pure (Next.value (← Instr.extract (a.eval x) k)) : Sem Next).run P w):=by
  rcases j with ⟨b,d,j,g,rfl⟩ | ⟨b,j,g⟩
  · have f:=Kd h j;generalize a.eval x = vx at f ⊢
    cases f with | d f=>
    cases f with | @tup _ cs hl hr=>
    obtain ⟨c,l⟩:=Yj (xs:=cs) (i:=k) (by have:=Kh g;omega);exact .quiet h (Kl (x:=c) (by simp [Instr.extract,l])) (.d (hr _ _ _ g l))
  · have f:=Kd h j;generalize a.eval x = vx at f ⊢
    cases f with | @tup _ cs hl hr=>
    obtain ⟨c,l⟩:=Yj (xs:=cs) (i:=k) (by have:=Kh g;omega);exact .quiet h (Kl (x:=c) (by simp [Instr.extract,l])) (hr _ _ _ g l)
theorem qjk {nx : Nat} {v : V} {x : Value} {cs : List V} (h : RelV w Z inj nx v x) (a : agD v = some cs) : ∃ xs,x = .agg xs∧LRel w Z inj nx cs xs:=by
  unfold agD at a;split at a <;> simp at a
  · subst a
    cases h with | d h=>
    cases h with | @agg _ X hl hr=>
    refine ⟨X,rfl,by simpa using hl,fun i d c hd g=>?_⟩;simp only [List.getElem?_map,Yc] at hd;obtain ⟨f,b,rfl⟩:=hd;exact .d (hr i f c b g)
  · subst a
    cases h with | @agg _ X hl hr=>exact ⟨X,rfl,hl,hr⟩
theorem qxg {s : TypeId} {i : TI} {x : Operand} {g v : V} {f off size : Nat} {ag : Bool} {cs r : List V} (h : RelS w Z inj st a Ds) (hi : tiOf P s = some i) (hx : st.ev x = some g) (p : i.kind = .struct) (hf : i.flds[f]? = some (off,size,ag))
    (u : agD g = some cs) (hs : sub cs off size = some r) (hp : pack ag r = some v) :
    Km st st v w Z inj ((do pure (Next.value (← Instr.field s (a.eval x) f)) : Sem Next).run P w):=by
  obtain ⟨j,d,z,k⟩:=Yw hi;have b:=k.kind;unfold Zm at b;simp only [p] at b;obtain ⟨fs,rfl,c⟩:=b;obtain ⟨fd,jf,df,m,o,g3,l,g5,q,g7⟩:=qgf c hf;obtain ⟨xs,he,t⟩:=qjk (Kd h hx) u;subst l q g7;obtain ⟨y,hy,n⟩:=qnt (P:=P) o g3 t hs hp;refine .quiet h (Kl (x:=y) ?_) n;simp only [Instr.field,Sem.run_bind,run_underlying k.und,Result.andThen_ok,m,he,asAgg,Sem.run_pure,hy]
theorem qxi {t : TypeId} {i : TI} {x f : Operand} {j v : V} {k0 : IntKind} {n : Int} {cs r : List V} (h : RelS w Z inj st a Ds) (hi : tiOf P t = some i) (hx : st.ev x = some j) (hn : st.ev f = some (.d (.int k0 n))) (s : i.kind = .array)
    (ha : agD j = some cs) (h0 : 0≤n∧n < i.len) (hs : sub cs (n.toNat * i.esize) i.esize = some r) (hp : pack i.eagg r = some v) :
    Km st st v w Z inj ((do pure (Next.value (← Instr.index t (a.eval x) (a.eval f))) : Sem Next).run P w):=by
  obtain ⟨m,d,z,k⟩:=Yw hi;have b:=k.kind;unfold Zm at b;simp only [s] at b;obtain ⟨e,ie,de,rfl,l,q,g,g4,u⟩:=b;obtain ⟨xs,he,hl⟩:=qjk (Kd h hx) ha;have c:=Kd h hn;generalize a.eval f = vx at c ⊢
  cases c with | d c=>
  cases c;rw [← g] at hs;rw [← u] at hp;obtain ⟨y,o,p⟩:=qnt (P:=P) l q hl hs hp;refine .quiet h (Kl (x:=y) ?_) p;simp only [Instr.index,asIntOf,Sem.run_bind,Sem.run_pure,run_underlying k.und,Result.andThen_ok,he];rw [Sem.run_ite,qr h0];simp only [Sem.run_bind,Zl l,Result.andThen_ok,g];rw [g] at o;exact o
theorem qxk {t : TypeId} {i : TI} {x j : Operand} {k0 : IntKind} {n : Int} {s : ByteArray} {b : UInt8} (h : RelS w Z inj st a Ds) (hi : tiOf P t = some i) (p : st.ev x = some (.d (.str s))) (o : st.ev j = some (.d (.int k0 n))) (m : i.kind = .str)
    (hb : (if 0≤n then s[n.toNat]? else none) = some b) :
    Km st st (.d (.int .u8 b.toNat)) w Z inj ((do pure (Next.value (← Instr.index t (a.eval x) (a.eval j))) : Sem Next).run P w):=by
  obtain ⟨l,d,z,k⟩:=Yw hi;have c:=k.kind;unfold Zm at c;simp only [m] at c;obtain ⟨rfl,_⟩:=c;have g:=Kd h p;have f:=Kd h o;generalize a.eval x = vy at g ⊢;generalize a.eval j = vx at f ⊢
  cases g with | d g=>
  cases g
  cases f with | d f=>
  cases f;refine .quiet h (Kl (x:=.int .u8 b.toNat) ?_) (.d (.int _ _));simp only [Instr.index,asIntOf,Sem.run_bind,Sem.run_pure,run_underlying k.und,Result.andThen_ok,hb]
theorem qxh {s : TypeId} {i : TI} {p : Operand} {pv v : V} {f off size : Nat} {ag : Bool} (h : RelS w Z inj st a Ds) (hi : tiOf P s = some i) (hx : st.ev p = some pv) (hk : i.kind = .struct) (hf : i.flds[f]? = some (off,size,ag))
    (hp : qgb off pv = some v) :
    Km st st v w Z inj ((do pure (Next.value (← Instr.fieldAt s (a.eval p) f)) : Sem Next).run P w):=by
  obtain ⟨q,d,z,k⟩:=Yw hi;have l:=k.kind;unfold Zm at l;simp only [hk] at l;obtain ⟨fs,rfl,m⟩:=l;obtain ⟨fd,jf,df,t,u,g3,r,g5,y,g7⟩:=qgf m hf;have g:=Kd h hx;generalize a.eval p = vx at g ⊢
  have c : ∀ b o,(Instr.fieldAt s (.pointer (some ⟨b,o,none⟩)) f).run P w = .ok (.pointer (some ⟨b,o + off,none⟩)) w:=by
    intro b o;simp only [Instr.fieldAt,Instr.sureAddr,fieldPlace,Sem.run_bind,run_underlying k.und,Result.andThen_ok,t,Sem.run_pure,Zl u,Sem.run_ite,r,qp g5,U1,y]
  cases pv <;> simp only [qgb,reduceCtorEq,Option.some.injEq] at hp
  case ref n es ii j=>
    subst hp
    cases g with | @ref _ _ _ _ b o h1 h2=>
    refine .quiet h (Kl (c _ _)) ?_;have:=RelV.ref (w:=w) (Z:=Z) (nx:=st.nx) (es:=es) (i:=ii) (j:=j + off) h1 h2
    rwa [show o + (ii * es + (j + off)) = o + (ii * es + j) + off by omega] at this
  case dref cs j=>
    subst hp
    cases g with | @dref _ _ b o h1 h2 g=>
    refine .quiet h (Kl (c _ _)) ?_;have:=RelV.dref (inj:=inj) (nx:=st.nx) (j:=j + off) h1 h2 g
    rwa [← Nat.add_assoc] at this
  case d x=>
    cases x <;> simp only [reduceCtorEq,Option.some.injEq] at hp
    subst hp
    cases g with | d g=>
    cases g with | box h1 h2 g=>
    exact .quiet h (Kl (c _ _)) (RelV.dref (inj:=inj) (nx:=st.nx) (j:=off) h1 h2 g)
theorem qxj {t : TypeId} {i : TI} {x ix : Operand} {xv v : V} {k0 : IntKind} {n : Int} (h : RelS w Z inj st a Ds) (hi : tiOf P t = some i) (hx : st.ev x = some xv) (hn : st.ev ix = some (.d (.int k0 n)))
    (hp : q4d i xv n = some v) :
    Km st st v w Z inj ((do pure (Next.value (← Instr.indexAt t (a.eval x) (a.eval ix))) : Sem Next).run P w):=by
  obtain ⟨ah,d,z,k⟩:=Yw hi;have r:=k.kind;unfold Zm at r;have u:=Kd h hn;generalize a.eval ix = vx at u ⊢
  cases u with | d u=>
  cases u;have l:=Kd h hx;generalize a.eval x = vx at l ⊢
  have p : i.kind = .slice→∀ b o len cap,0≤n→n < (len : Nat)→(Instr.indexAt t (.slice (some ⟨b,o,none⟩) len cap) (.int k0 n)).run P w = .ok (.pointer (some ⟨b,o + n.toNat * i.esize,none⟩)) w:=by
    intro s b o len cap f q;simp only [s] at r;obtain ⟨e,ie,de,ze,rfl,g1,g2,g3,g4,g5,g6,_⟩:=r;simp only [Instr.indexAt,asIntOf,Sem.run_bind,Sem.run_pure,run_underlying k.und,Result.andThen_ok];rw [Sem.run_ite,qr ⟨f,q⟩];simp only [Sem.run_bind,Zl g1,Result.andThen_ok,Sem.run_pure,U1,g6]
  have g : i.kind = .array→∀ b o,0≤n→n < i.len→(Instr.indexAt t (.pointer (some ⟨b,o,none⟩)) (.int k0 n)).run P w = .ok (.pointer (some ⟨b,o + n.toNat * i.esize,none⟩)) w:=by
    intro s b o f q;simp only [s] at r;obtain ⟨e,ie,de,rfl,g1,g2,g3,g4,_⟩:=r;simp only [Instr.indexAt,asIntOf,Instr.sureAddr,Sem.run_bind,Sem.run_pure,run_underlying k.und,Result.andThen_ok];rw [Sem.run_ite,qr ⟨f,q⟩];simp only [Sem.run_bind,Zl g1,Result.andThen_ok,Sem.run_pure,U1,g3]
  cases s : i.kind <;> simp only [q4d,s,reduceCtorEq] at hp
  case slice=>
    cases xv <;> (try simp only [reduceCtorEq] at hp)
    case d x=>
      cases x <;> (try simp only [reduceCtorEq] at hp)
      rename_i es xs;split at hp <;> simp at hp
      rename_i f;obtain ⟨f,he⟩:=f;obtain ⟨cs,aa,rfl⟩:=hp;have y:=Kh aa
      cases l with | d l=>
      cases l with
      | slnil=>simp at y
      | slemp=>simp at y
      | @sl _ _ b o cap q h2 h4 h5 h6=>
        refine .quiet h (Kl (p s _ _ _ _ f q6)) ?_
        have:=RelV.dref (w:=w) (Z:=Z) (inj:=inj) (nx:=st.nx) (cs:=cs) (j:=0) (b:=b) (o:=o + n.toNat * i.esize) (h2 (by rintro rfl;simp at y))
          (fun k d hd=>by have:=(h5 n.toNat cs k d aa hd).2;rwa [he,← Nat.add_assoc] at this)
          (fun k d c hd hc=>h6 n.toNat cs k d c aa hd (by rwa [he,← Nat.add_assoc]))
        simpa using this
    case hs m es off len=>
      split at hp <;> simp at hp
      rename_i f;obtain ⟨f,q,he⟩:=f;subst hp
      cases l with
      | hsnil=>omega
      | @hs _ _ _ _ cap ad hn hle _ hcap=>
        obtain ⟨b,o,hi,rfl,_⟩:=hcap q6;refine .quiet h (Kl (p s _ _ _ _ f q6)) ?_;have:=RelV.ref (w:=w) (Z:=Z) (nx:=st.nx) (es:=es) (i:=off + n.toNat) (j:=0) hn hi;rw [show o + off * es + n.toNat * i.esize = o + ((off + n.toNat) * es + 0) by rw [← he,Nat.add_mul];omega];exact this
  case array=>
    cases xv <;> (try simp only [reduceCtorEq] at hp)
    case ref m es e j=>
      split at hp <;> simp at hp
      rename_i f;subst hp
      cases l with | @ref _ _ _ _ b o q h2=>
      refine .quiet h (Kl (g s _ _ f.1 f.2)) ?_;have:=RelV.ref (w:=w) (Z:=Z) (nx:=st.nx) (es:=es) (i:=e) (j:=j + n.toNat * i.esize) q h2
      rwa [← Nat.add_assoc,← Nat.add_assoc,Nat.add_assoc o] at this
    case dref cs j=>
      split at hp <;> simp at hp
      rename_i f;subst hp
      cases l with | @dref _ _ b o q h2 l=>
      refine .quiet h (Kl (g s _ _ f.1 f.2)) ?_;have:=RelV.dref (inj:=inj) (nx:=st.nx) (j:=j + n.toNat * i.esize) q h2 l
      rwa [← Nat.add_assoc] at this
    case d x=>
      cases x <;> (try simp only [reduceCtorEq] at hp)
      split at hp <;> simp at hp
      rename_i f;subst hp
      cases l with | d l=>
      cases l with | box q h2 l=>
      exact .quiet h (Kl (g s _ _ f.1 f.2)) (RelV.dref (inj:=inj) (nx:=st.nx) (j:=n.toNat * i.esize) q h2 l)
end
end Go.Am
namespace Go.Am
open Go
variable {P : Program} {T : Tab}
theorem qj8 {n : Int} (h : -9223372036854775808≤n∧n≤9223372036854775807) : IntKind.i64.wrap n = n:=by rw [IntKind.wrap_i64];omega
theorem qk6 {es i a j : Nat} (c : j < es) : (i * es≤a * es + j∧a * es + j < i * es + es)↔a = i:=by
  constructor
  · intro ⟨d,b⟩;rcases Nat.lt_trichotomy a i with h | h | h
    · have:=Nat.mul_le_mul_right es (show a + 1≤i from h);rw [Nat.add_mul] at this;omega
    · exact h
    · have:=Nat.mul_le_mul_right es (show i + 1≤a from h);rw [Nat.add_mul] at this;omega
  grind
theorem q43 {es n i j : Nat} (hi : i < n) (a : j < es) : i * es + j < n * es:=by
  have:=Nat.mul_le_mul_right es (show i + 1≤n from hi);rw [Nat.add_mul] at this;omega
section
variable {w : World} {Z : Nat→Prop} {inj : Inj} {st : AS} {a : Act} {Ds : List Nat}
theorem qk4 {b y : Nat} {o : Option Operand} {n : Nat} {code : BoundsCode} (h : RelS w Z inj st a Ds) (hb : bound st b o = some n) (j : n≤y) :
    (∀ op,o = some op→(Instr.sliceBound (a.eval op) y code).run P w = .ok n w)∧(o = none→n = b):=by
  cases o with
  | none=>simp [bound] at hb;exact ⟨qg,fun _=>hb.symm⟩
  | some op=>
    refine ⟨fun g e=>?_,qg⟩;cases e;simp only [bound] at hb;split at hb <;> try simp at hb
    rename_i k m f;have c:=Kd h f;generalize a.eval op = vx at c ⊢
    cases c with | d c=>
    cases c;obtain ⟨l,rfl⟩:=hb;simp only [Instr.sliceBound,asIntOf,Sem.run_bind,Sem.run_pure,Result.andThen_ok];simp_all
theorem qxr {t : TypeId} {i : TI} {x : Operand} {xv v : V} {lo hi : Option Operand} {n p q : Nat} (h : RelS w Z inj st a Ds) (ht : tiOf P t = some i) (hk : i.kind = .slice) (f : st.ev x = some xv) (g : lenV xv = some n)
    (ai : bound st 0 lo = some p) (ak : bound st n hi = some q) (hs : qe8 i.esize xv p q = some v) :
    Km st st v w Z inj ((do pure (Next.value (← Instr.sliceAt t (a.eval x) (lo.map a.eval) (hi.map a.eval) none)) : Sem Next).run P w):=by
  obtain ⟨ao,d,z,k⟩:=Yw ht;have ab:=k.kind;unfold Zm at ab;simp only [hk] at ab;obtain ⟨e,ie,de,ze,rfl,g1,g2,g3,g4,g5,g6,g7,_⟩:=ab;have h3:=Kd h f;generalize a.eval x = vx at h3 ⊢
  have run : ∀ ad len cap,len = n→q≤cap→p≤q→(Instr.sliceAt t (.slice ad len cap) (lo.map a.eval) (hi.map a.eval) none).run P w = .ok (.slice (if cap = p then ad else ad.map (·.add (p * i.esize))) (q - p) (cap - p)) w:=by
    intro ad len cap hl hq hp;obtain ⟨l1,l2⟩:=qk4 (P:=P) (y:=q) (code:=.sliceB) h ai hp;obtain ⟨r1,r2⟩:=qk4 (P:=P) (y:=cap) (code:=.sliceAcap) h ak hq;simp only [Instr.sliceAt,Sem.run_bind,run_underlying k.und,Result.andThen_ok,Instr.slice,Instr.sliceBounds,Zl g1,g6]
    cases hi with
    | none=>
      have:=r2 rfl;subst this
      cases lo with
      | none=>have:=l2 rfl;subst this;simp [hl]
      | some o=>simp [hl,l1 o rfl]
    | some o'=>
      cases lo with
      | none=>have:=l2 rfl;subst this;simp [r1 o' rfl]
      | some o=>simp [r1 o' rfl,l1 o rfl]
  cases xv <;> simp only [qe8,reduceCtorEq] at hs
  case d x=>
    cases x <;> simp only [reduceCtorEq] at hs
    case nilsl=>
      split at hs <;> simp at hs
      rename_i u;obtain ⟨rfl,rfl⟩:=u;subst hs;simp [lenV] at g
      cases h3 with | d h3=>
      cases h3;exact .quiet h (Kl (run _ _ _ g q6 q6)) (by simpa using RelV.d .nilsl)
    case sl es xs=>
      split at hs <;> simp at hs
      rename_i u;obtain ⟨u,h1,he⟩:=u;subst hs;simp [lenV] at g
      cases h3 with | d h3=>
      cases h3 with
      | slnil=>
        simp at h1 g;obtain ⟨rfl,rfl⟩ : q = 0∧p = 0:=by omega
        exact .quiet h (Kl (run _ _ _ g q6 q6)) (by simpa using RelV.d (.slnil _))
      | slemp=>
        simp at h1 g;obtain ⟨rfl,rfl⟩ : q = 0∧p = 0:=by omega
        exact .quiet h (Kl (run _ _ _ g q6 q6)) (by simpa using RelV.d (.slemp _ _))
      | @sl _ _ b o cap hc hz hl hcell hrel=>
        refine .quiet h (Kl (run _ _ _ g q6 u)) ?_;have r : ((xs.drop p).take (q - p)).length = q - p:=by simp;omega
        have l : ∀ (i : Nat) (x : List DV),((xs.drop p).take (q - p))[i]? = some x→xs[p + i]? = some x:=by
          intro i x f;rw [List.getElem?_take] at f;split at f
          · rwa [List.getElem?_drop] at f
          · simp at f
        by_cases s : cap = p
        · rw [qr s];have h9 : (xs.drop p).take (q - p) = []:=List.eq_nil_of_length_eq_zero (by rw [r];omega);have h8 : q - p = 0:=by omega
          rw [h9,h8];exact .d (RelD.sl (es:=es) (xs:=[]) qg qg qg qg qg)
        · rw [qp s,Option.map_some,U1]
          have e2 : ∀ k j,o + p * i.esize + (k * es + j) = o + ((p + k) * es + j):=by
            intro k j;rw [← he,Nat.add_mul];omega
          have:=RelD.sl (w:=w) (Z:=Z) (es:=es) (xs:=(xs.drop p).take (q - p)) (b:=b) (o:=o + p * i.esize) (cap:=cap - p) (by rw [r];omega) (fun ae=>hz (by rintro rfl;simp at ae)) (fun i x f=>hl _ _ (l i x f))
            (fun k x j d f hd=>by rw [e2];exact hcell _ _ j d (l k x f) hd)
            (fun k x j d c f hd hc=>hrel _ _ j d c (l k x f) hd (by rw [e2] at hc;exact hc))
          rw [r] at this;exact .d this
  case hs m es off len=>
    split at hs <;> simp at hs
    rename_i u;obtain ⟨u,h1,he⟩:=u;subst hs;simp [lenV] at g
    cases h3 with
    | hsnil hm=>
      obtain ⟨rfl,rfl⟩ : q = 0∧p = 0:=by omega
      exact .quiet h (Kl (run _ _ _ g q6 q6)) (by simpa using RelV.hsnil (es:=es) (off:=off) hm)
    | @hs _ _ _ _ cap ad hm hc hsp hcap=>
      refine .quiet h (Kl (run _ _ _ g q6 u)) ?_;by_cases s : cap = p
      · rw [qr s];exact .hs hm q6 hsp (fun ae=>q6)
      · rw [qp s,Option.map_some];obtain ⟨b,o,hi,rfl,am⟩:=hcap q6;rw [U1];refine .hs hm q6 rfl fun _=>⟨b,o,hi,?_,?_⟩
        · rw [he,Nat.add_mul,← Nat.add_assoc]
        · rwa [show off + p + (cap - p) = off + cap by omega]
theorem qjc {b : Value} {es n i j : Nat} {ds : List DV} (m : b.cells.toList.mapM Zv = some ds) (o : ds.length = es) (hi : i < n) {d : DV} (hd : ds[j]? = some d) :
    ∃ c,((Array.range (n * es)).map (b.cells[· % b.cells.size]!))[i * es + j]? = some c∧RelD w Z d c∧Ym d = true:=by
  obtain ⟨p,l⟩:=q9m (w:=w) (Z:=Z) m;obtain ⟨c,k,h,a,_⟩:=l j d hd;have g : j < es:=by have:=Kh hd;omega
  refine ⟨c,?_,h,a⟩;have f:=q43 hi g;rw [Array.getElem?_map,Array.getElem?_range];simp only [f,if_true,Option.map_some];have : (i * es + j) % b.cells.size = j:=by rw [← p,o,Nat.mul_comm,Nat.mul_add_mod,Nat.mod_eq_of_lt g]
  grind
theorem qxp {t : TypeId} {i : TI} {l c : Operand} {k1 k2 : IntKind} {n m : Int} (h : RelS w Z inj st a Ds) (ht : tiOf P t = some i) (hk : i.kind = .slice) (hl : st.ev l = some (.d (.int k1 n))) (u : st.ev c = some (.d (.int k2 m)))
    (y : 0≤n) (h1 : n≤m) (p : m * (i.ebytes * 4)≤room) :
    Km st (st.new (.dat i.esize (List.replicate n.toNat i.ezero))) (.hs st.nx i.esize 0 n.toNat) w Z inj ((do pure (Next.value (← Instr.makeSlice t (a.eval l) (a.eval c))) : Sem Next).run P w):=by
  obtain ⟨v,d,z,k⟩:=Yw ht;have g:=k.kind;unfold Zm at g;simp only [hk] at g;obtain ⟨e,ie,de,ze,rfl,g1,g2,g3,g4,g5,g6,g7,g8,g9,_⟩:=g;have q:=Kd h hl;have o:=Kd h u;generalize a.eval l = vl at q ⊢;generalize a.eval c = vc at o ⊢
  cases q with | d q=>
  cases q
  cases o with | d o=>
  cases o
  have hm : m≤4294967296:=by
    have e1 : (1 : Int)≤(i.ebytes : Int) * 4:=by omega
    have:=Int.mul_le_mul_of_nonneg_left e1 (show (0:Int)≤m by omega);unfold room at p;omega
  have hb : (i.ebytes : Int) * m≤281474976710656:=by
    unfold room at p;grind
  have w1 : IntKind.i64.wrap n = n:=qj8 q6;have w2 : IntKind.i64.wrap m = m:=qj8 q6;obtain ⟨N,rfl⟩:=Int.eq_ofNat_of_zero_le y;obtain ⟨M,rfl⟩:=Int.eq_ofNat_of_zero_le (show 0≤m by omega);simp only [Int.toNat_natCast];have b:=run_make (P:=P) w t e ie ze k.und g1 g3 k1 k2 (N : Int) (M : Int) y h1 (by rw [g8];exact hb) q6;simp only [Int.toNat_natCast,g6] at b;have s : N≤M:=by omega
  refine .new h (Kl b) ?_ ?_
  · refine ⟨g7,?_,.inr ⟨w.heap.size,0,_,e,Ya _ _ _,U2 _ _,?_⟩⟩
    · grind
    · intro j x j' d r hd;rw [List.getElem?_replicate] at r;split at r <;> simp at r
      rename_i hj;subst r;obtain ⟨c,u,p,f⟩:=qjc (w:=w.alloc (.cells (madeCells ze.cells (M * i.esize)) e)) (Z:=Z) g4 g5 (show j < M by omega) hd;exact ⟨f,c,by rw [Nat.zero_add];exact u,p⟩
  · refine .hs q6 s rfl fun _=>⟨w.heap.size,0,Ya _ _ _,qg,?_⟩
    exact ⟨_,_,_,U2 _ _,by rw [size_madeCells];simp⟩
def ERel (w : World) (Z : Nat→Prop) (inj : Inj) (nx es : Nat) (xs : List (List V)) (C : Array Value) : Prop:=
  C.size = xs.length * es∧(∀ (i : Nat) (x : List V),xs[i]? = some x→x.length = es)∧
    ∀ (i : Nat) (x : List V) (j : Nat) (d : V),xs[i]? = some x→x[j]? = some d→Ko d = true∧∃ c,C[i * es + j]? = some c∧RelV w Z inj nx d c
theorem ql0 {es : Nat} : ∀ {f : List (Nat × V)} {l : List (Nat × List V)},elems es f = some l→l.length = f.length∧∀ (k i : Nat) (v : V),f[k]? = some (i,v)→(cellsOf v).length = es∧(cellsOf v).all Ko = true∧l[k]? = some (i,cellsOf v)
  | [],l,h=>by simp [elems] at h;subst h;simp
  | (i,v)::r,l,h=>by
    simp only [elems] at h
    split at h
    · rename_i l' o
      split at h
      · rename_i g
        simp at h;subst h
        obtain ⟨j,p⟩:=ql0 o
        refine ⟨by simp [j],fun k n m d=>?_⟩
        cases k with
        | zero=>simp at d;obtain ⟨rfl,rfl⟩:=d;exact ⟨g.1,g.2,qg⟩
        | succ k=>simp at d;obtain ⟨a,b,c⟩:=p k n m d;exact ⟨a,b,by simpa using c⟩
      · simp at h
    · simp at h
theorem ERel.set {w : World} {nx es : Nat} {xs : List (List V)} {C k : Array Value} {ys : List V} {i : Nat} (h : ERel w Z inj nx es xs C) (m : LRel w Z inj nx ys k) (u : ys.length = es) (n : ys.all Ko = true) (hi : i < xs.length) :
    ERel w Z inj nx es (xs.set i ys) (Am.splice C.toList (i * es) k.toList).toArray:=by
  obtain ⟨p,t,q⟩:=h;have f : k.toList.length = es:=by have:=m.1;simp;omega
  have a : i * es + k.toList.length≤C.toList.length:=by
    rw [f,Array.length_toList,p];have:=Nat.mul_le_mul_right es (show i + 1≤xs.length from hi);rw [Nat.add_mul] at this;omega
  refine ⟨by simp [q2g _ _ _ a,p],?_,?_⟩
  · grind
  · intro j x l d g hd;rw [List.getElem?_set] at g;by_cases b : i = j
    · subst b;rw [qr rfl,qr hi] at g;simp at g;subst g;have s:=Kh hd;obtain ⟨c,o⟩:=Yj (xs:=k) (i:=l) (by have:=m.1;omega);refine ⟨List.all_eq_true.1 n _ (List.mem_of_getElem? hd),c,?_,m.2 _ _ _ hd o⟩;rw [List.getElem?_toArray,Ue _ _ _ _ a,qr (by rw [f];omega),show i * es + l - i * es = l by omega];grind
    · rw [qp b] at g;obtain ⟨v,c,y,r⟩:=q j x l d g hd;refine ⟨v,c,?_,r⟩;rw [List.getElem?_toArray,Ue _ _ _ _ a,qp ?_]
      · grind
      · rw [f];intro o;exact b ((qk6 (by have:=Kh hd;have:=t j x g;omega)).1 o).symm
theorem qlc {w : World} {nx es : Nat} : ∀ (f : List (Nat × V)) (xs : List (Nat × Value)) (l : List (Nat × List V)) (cs c : List (List V)) (C : Array Value),
    f.length = xs.length→(∀ (k : Nat) (i : Nat) (v : V),f[k]? = some (i,v)→∃ x,xs[k]? = some (i,x)∧RelV w Z inj nx v x)→
    l.length = f.length→(∀ (k : Nat) (i : Nat) (v : V),f[k]? = some (i,v)→(cellsOf v).length = es∧(cellsOf v).all Ko = true∧l[k]? = some (i,cellsOf v))→
    ERel w Z inj nx es cs C→q46 cs l = some c→∃ n,Instr.fill (fun i=>some (i * es,es)) C xs = some n∧ERel w Z inj nx es c n∧c.length = cs.length
  | [],xs,l,cs,c,C,h1,_,h3,_,h5,h6=>by
    have : xs = []:=by cases xs <;> simp_all
    have : l = []:=by cases l <;> simp_all
    subst_vars
    simp [q46] at h6;subst h6
    exact ⟨C,by simp [Instr.fill],h5,rfl⟩
  | (i,v)::f,xs,l,cs,c,C,h1,h2,h3,h4,h5,h6=>by
    match xs,l,h1,h3 with
    | (i',x)::xs,(o',ys)::l,h1,h3=>
      obtain ⟨x',h,t⟩:=h2 0 i v rfl
      simp at h;obtain ⟨rfl,rfl⟩:=h
      obtain ⟨y,s,g⟩:=h4 0 i' v rfl
      simp at g;obtain ⟨rfl,rfl⟩:=g
      obtain ⟨q1,z,q3⟩:=qcp t s
      simp only [q46] at h6
      split at h6
      · rename_i d
        obtain ⟨n,q,j,m⟩:=qlc f xs l (cs.set o' (cellsOf v)) c (splice C.toList (o' * es) x.cells.toList).toArray (by simpa using h1)
          (fun k i v o=>by obtain ⟨x,r⟩:=h2 (k + 1) i v (by simpa using o);exact ⟨x,by simpa using r⟩) (by simpa using h3)
          (fun k i v o=>by obtain ⟨a,b,r⟩:=h4 (k + 1) i v (by simpa using o);exact ⟨a,b,by simpa using r⟩)
          (h5.set ⟨q1,z⟩ y s d) h6
        refine ⟨n,?_,j,by simpa using m⟩
        have u : o' * es + es≤C.size:=by
          rw [h5.1];have:=Nat.mul_le_mul_right es (show o' + 1≤cs.length from d);rw [Nat.add_mul] at this;omega
        have p : x.cells.size = es:=by omega
        simp only [Instr.fill,p]
        have : ¬ ((decide (es≠es) || decide (o' * es + es > C.size)) = true):=by simp;omega
        rw [qp (by simpa using this)]
        rw [qlk x.cells C (o' * es) q6]
        exact q
      · simp at h6
theorem qxb {t : TypeId} {i : TI} {len : Nat} {g : Array (Nat × Operand)} {s : List (Nat × V)} {l : List (Nat × List V)} {xs : List (List V)} (h : RelS w Z inj st a Ds) (ht : tiOf P t = some i) (hv : Ji st.ev g.toList = some s)
    (hl : elems i.esize s = some l) (hk : i.kind = .slice) (aa : len * i.esize≤16777216) (hf : q46 (List.replicate len (i.ezero.map .d)) l = some xs) :
    Km st (st.new (q6i i.esize xs)) (.hs st.nx i.esize 0 len) w Z inj ((do pure (Next.value (← Instr.buildSlice t len (g.map fun (i,x)=>(i,a.eval x)))) : Sem Next).run P w):=by
  obtain ⟨ag,d,z,k⟩:=Yw ht;have b:=k.kind;unfold Zm at b;simp only [hk] at b;obtain ⟨e,ie,de,q,rfl,u,g2,g3,g4,g5,g6,g7,g8,g9,_⟩:=b;obtain ⟨p1,p2⟩:=qla h hv;obtain ⟨q1,q2⟩:=ql0 hl;have y : ∀ (k i : Nat) (v : V),s[k]? = some (i,v)→∃ x,(g.toList.map fun (x : Nat × Operand)=>(x.1,a.eval x.2))[k]? = some (i,x)∧RelV w Z inj st.nx v x:=by grind
  have ac : ERel w Z inj st.nx i.esize (List.replicate len (i.ezero.map .d)) ((Array.range (len * i.esize)).map (q.cells[· % q.cells.size]!)):=by
    refine ⟨qg,?_,?_⟩
    · grind
    · intro j x j' d m hd;rw [List.getElem?_replicate] at m;split at m <;> simp at m
      rename_i hj;subst m;simp only [List.getElem?_map,Yc] at hd;obtain ⟨d',ad,rfl⟩:=hd;obtain ⟨c,hc,n,f⟩:=qjc (w:=w) (Z:=Z) g4 g5 hj ad;exact ⟨f,c,hc,.d n⟩
  obtain ⟨r,hC,n,p⟩:=qlc s (g.toList.map fun (x : Nat × Operand)=>(x.1,a.eval x.2)) l _ xs _ (by simp [p1]) y q1 q2 ac hf;have bc : Instr.fill (fun j=>some (j * i.esize,i.esize)) ((Array.range (len * i.esize)).map (q.cells[· % q.cells.size]!)) (g.map fun (x : Nat × Operand)=>(x.1,a.eval x.2)).toList = some r:=by simpa using hC
  have o : (Instr.buildSlice t len (g.map fun (i,x)=>(i,a.eval x))).run P w = .ok (.slice (some ⟨w.heap.size,0,none⟩) len len) (w.alloc (.cells r e)):=by
    have hn : ¬ (len * i.esize > 2 ^ 24):=by omega
    have af : (do let x ← newRow e r;pure (Value.slice (some x) len len) : Sem Value).run P w = .ok (.slice (some ⟨w.heap.size,0,none⟩) len len) (w.alloc (.cells r e)):=by simp [newRow]
    by_cases hz : len * i.esize = 0
    · simp only [Instr.buildSlice,Sem.run_bind,run_underlying k.und,Result.andThen_ok,Zl u,g6];grind
    · simp only [Instr.buildSlice,Sem.run_bind,run_underlying k.und,Result.andThen_ok,Zl u,g6];rw [qp hn,qp hz];have av : (zeroValue e).run P w = .ok q w:=by simp [zeroValue,typeInfo,u,g3]
      simp_all
  have ab : xs.length = len:=by simpa using p
  refine .new h (Kl o) ?_ ?_
  · refine qoe g7 (Ya _ _ _) (U2 _ _) n.2.1 ?_;intro j x j' d m hd;obtain ⟨h1,c,h2,h3⟩:=n.2.2 j x j' d m hd;exact ⟨h1,c,h2,qoi h _ h3⟩
  · refine .hs q6 (Nat.le_refl _) rfl fun _=>⟨w.heap.size,0,Ya _ _ _,qg,?_⟩
    exact ⟨_,_,_,U2 _ _,by rw [n.1,ab];simp⟩
end
end Go.Am
