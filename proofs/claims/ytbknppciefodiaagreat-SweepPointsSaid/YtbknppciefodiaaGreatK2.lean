/- Am6 Am7 Am8 Am9 Am10 Am11 Am12 -/
import Derived.Test.YtbknppciefodiaaGreatK1
import Derived.Laws.MakeOwn
namespace Go.Am
open Go
variable {P : Program} {T : Tab}
theorem q94 {α β : Type} {f : α→Option β} : ∀ {l : List α} {r : List β},l.mapM f = some r→r.length = l.length∧∀ (i : Nat) (x : α),l[i]? = some x→∃ y,r[i]? = some y∧f x = some y
  | [],r,h=>by simp at h;subst h;simp
  | a::l,r,h=>by
    rw [List.mapM_cons] at h
    cases d : f a with
    | none=>simp [d] at h
    | some b=>
      cases g : l.mapM f with
      | none=>simp [d,g] at h
      | some s=>
        simp [d,g] at h
        subst h
        obtain ⟨j,m⟩:=q94 g
        refine ⟨by simp [j],?_⟩
        intro i x c
        cases i with
        | zero=>simp at c;subst c;exact ⟨b,qe,d⟩
        | succ i=>simp at c;obtain ⟨y,k⟩:=m i x c;exact ⟨y,by simpa using k⟩
theorem Yo {α β : Type} {l : List α} {r : List β} (a : r.length = l.length) {i : Nat} {y : β} (h : r[i]? = some y) : ∃ x,l[i]? = some x:=
  Zq (by have:=Kd h;omega)
def Zj (P : Program) (_t : TypeId) (i : TI) (d : TypeDesc) : Prop:=match i.kind with
  | .bool=>d = .bool∧i.size = 1
  | .int k=>d = .int k∧i.size = 1
  | .str=>d = .string∧i.size = 1
  | .ptr=>(∃ e,d = .pointer e)∧i.size = 1
  | .func=>(∃ a b c,d = .func a b c)∧i.size = 1
  | .slice=>∃ e ie de ze,d = .slice e∧P.info? e = some ie∧P.underlying e = some de∧ie.zero = some ze∧ze.cells.toList.mapM Zp = some i.ezero∧i.ezero.length = i.esize∧ie.size = i.esize∧i.esize≠0∧
      ie.bytes = i.ebytes∧i.ebytes≠0∧Kc de = i.eagg∧i.size = 1
  | .array=>∃ e ie de,d = .array i.len e∧P.info? e = some ie∧P.underlying e = some de∧ie.size = i.esize∧i.esize≠0∧Kc de = i.eagg
  | .map=>∃ kt e ie ze zd ks dk,d = .map kt e∧P.info? e = some ie∧ie.zero = some ze∧Zp ze = some zd∧Ki P 8 kt = some ks∧P.underlying kt = some dk∧i.keys = some ks∧i.ezero = [zd]∧i.eagg = Kc dk∧i.size = 1
  | .struct=>∃ fs,d = .struct fs∧(fs.toList.mapM fun f=>do
      let jf ← P.info? f.type
      let df ← P.underlying f.type
      if jf.size = 0 then none else some (f.offset,jf.size,Kc df)) = some i.flds
structure TiOk (P : Program) (t : TypeId) (i : TI) (info : TypeInfo) (d : TypeDesc) (z : Value) : Prop where
  inf : P.info? t = some info
  und : P.underlying t = some d
  zero : info.zero = some z
  size : info.size = i.size
  pos : i.size≠0
  cells : z.cells.toList.mapM Zp = some i.zero
  len : i.zero.length = i.size
  agg : i.agg = Kc d
  kind : Zj P t i d
  eqs : ∀ ks,i.eqs = some ks→Ki P 8 t = some ks∧Kc d = true
  keys : ∀ ks,i.keys = some ks→i.kind = .map
theorem Ys {t : TypeId} {i : TI} (h : tiOf P t = some i) : ∃ g d z,TiOk P t i g d z:=by
  unfold tiOf at h
  cases l : P.info? t with
  | none=>simp [l] at h
  | some g=>
  cases m : P.underlying t with
  | none=>simp [l,m] at h
  | some d=>
  cases o : g.zero with
  | none=>simp [l,m,o] at h
  | some z=>
  cases q : z.cells.toList.mapM Zp with
  | none=>simp [l,m,o,q] at h
  | some zc=>
  simp only [l,m,o,q,Option.bind_eq_bind,qj] at h;by_cases h5 : zc.length≠g.size∨g.size = 0
  · grind
  · rw [qp h5] at h;have u : zc.length = g.size:=by omega
    have r : g.size≠0:=by omega
    refine ⟨g,d,z,?_⟩;cases d <;> simp only [reduceCtorEq] at h
    case bool=>split at h <;> simp at h;subst h;rename_i hs;exact ⟨l,m,o,rfl,r,q,u,rfl,⟨rfl,hs⟩,qe,qe⟩
    case int k=>split at h <;> simp at h;subst h;rename_i hs;exact ⟨l,m,o,rfl,r,q,u,rfl,⟨rfl,hs⟩,qe,qe⟩
    case string=>split at h <;> simp at h;subst h;rename_i hs;exact ⟨l,m,o,rfl,r,q,u,rfl,⟨rfl,hs⟩,qe,qe⟩
    case pointer e=>split at h <;> simp at h;subst h;rename_i hs;exact ⟨l,m,o,rfl,r,q,u,rfl,⟨⟨_,rfl⟩,hs⟩,qe,qe⟩
    case func a b c=>split at h <;> simp at h;subst h;rename_i hs;exact ⟨l,m,o,rfl,r,q,u,rfl,⟨⟨_,_,_,rfl⟩,hs⟩,qe,qe⟩
    case slice e=>
      cases j : P.info? e with
      | none=>simp [j] at h
      | some ie=>
      cases s : P.underlying e with
      | none=>simp [j,s] at h
      | some de=>
      cases p : ie.zero with
      | none=>simp [j,s,p] at h
      | some ze=>
      cases v : ze.cells.toList.mapM Zp with
      | none=>simp [j,s,p,v] at h
      | some ezc=>
      simp only [j,s,p,v,qj] at h;split at h
      · simp at h
      · rename_i hs;simp at h;subst h;exact ⟨l,m,o,rfl,r,q,u,rfl,⟨e,ie,de,ze,rfl,j,s,p,v,by show ezc.length = ie.size;omega,rfl,by show ie.size≠0;omega,rfl,by show ie.bytes≠0;omega,rfl,by show g.size = 1;omega⟩,by simp,by simp⟩
    case map kt e=>
      cases j : P.info? e with
      | none=>simp [j] at h
      | some ie=>
      cases p : ie.zero with
      | none=>simp [j,p] at h
      | some ze=>
      cases v : Zp ze with
      | none=>simp [j,p,v] at h
      | some zd=>
      cases w : Ki P 8 kt with
      | none=>simp [j,p,w] at h
      | some ks=>
      cases y : P.underlying kt with
      | none=>simp [j,p,w,y] at h
      | some dk=>
      simp only [j,p,v,w,y,qj] at h;split at h
      · rename_i hs;simp at h;subst h;exact ⟨l,m,o,rfl,r,q,u,rfl,⟨kt,e,ie,ze,zd,ks,dk,rfl,j,p,v,w,y,rfl,rfl,rfl,hs⟩,qe,fun _ _=>rfl⟩
      · simp at h
    case array n e=>
      cases j : P.info? e with
      | none=>simp [j] at h
      | some ie=>
      cases s : P.underlying e with
      | none=>simp [j,s] at h
      | some de=>
      simp only [j,s,qj] at h;split at h
      · simp at h
      · rename_i hs;simp at h;subst h;exact ⟨l,m,o,rfl,r,q,u,rfl,⟨e,ie,de,rfl,j,s,rfl,hs,rfl⟩,fun ks h=>⟨h,rfl⟩,qe⟩
    case struct fs=>
      cases j : (fs.toList.mapM fun f=>do
          let jf ← P.info? f.type
          let df ← P.underlying f.type
          if jf.size = 0 then none else some (f.offset,jf.size,Kc df)) with
      | none=>simp only [Option.bind_eq_bind] at j;simp only [j,Option.bind_none] at h;simp at h
      | some fl=>
        have x:=j;simp only [Option.bind_eq_bind] at j;simp only [j,qj] at h;simp at h;subst h;exact ⟨l,m,o,rfl,r,q,u,rfl,⟨fs,rfl,x⟩,fun ks h=>⟨h,rfl⟩,qe⟩
section
variable {w : World} {Z : Nat→Prop} {inj : Inj} {nx : Nat}
theorem qf3 {v : Value} {d : DV} (h : Zp v = some d) : RelD w Z d v∧Yi d = true∧v.oneCell' = true:=by
  unfold Zp at h;split at h <;> simp at h <;> subst h
  · exact ⟨.int _ _,rfl,rfl⟩
  · exact ⟨.bool _,rfl,rfl⟩
  · exact ⟨.str _,rfl,rfl⟩
  · exact ⟨.nilp,rfl,rfl⟩
  · exact ⟨.nilsl,rfl,rfl⟩
  · exact ⟨.nilf,rfl,rfl⟩
  · exact ⟨.nilm,rfl,rfl⟩
theorem q8p {cs : Array Value} {ds : List DV} (h : cs.toList.mapM Zp = some ds) : ds.length = cs.size∧∀ (i : Nat) (d : DV),ds[i]? = some d→∃ c,cs[i]? = some c∧RelD w Z d c∧Yi d = true∧c.oneCell' = true:=by
  obtain ⟨a,j⟩:=q94 h;refine ⟨by simpa using a,fun i d hd=>?_⟩;obtain ⟨c,f⟩:=Yo a hd;obtain ⟨y,b,g⟩:=j i c f;rw [hd] at b;cases b;exact ⟨c,by simpa using f,qf3 g⟩
theorem qr4 {v : Value} {d : DV} (h : qc2 v = some d) : RelD w Z d v:=by
  unfold qc2 at h;split at h
  · rename_i cs
    cases a : cs.toList.mapM Zp with
    | none=>simp [a] at h
    | some ds=>
      simp [a] at h;subst h;obtain ⟨b,g⟩:=q8p (w:=w) (Z:=Z) a;refine .agg b fun i d c hd f=>?_;grind
  · exact (qf3 h).1
theorem Kb {st : AS} {a : Act} {Ds : List Nat} (h : RelS w Z inj st a Ds) {o : Operand} {v : V} (b : st.ev o = some v) : RelV w Z inj st.nx v (a.eval o):=by
  cases o with
  | tmp t=>
    obtain ⟨x,k,l⟩:=h.slots t v b;simp only [Act.eval,Array.getD_eq_getD_getElem?,k,Option.getD_some];exact l
  | const c=>
    simp only [AS.ev] at b
    cases j : qc2 c with
    | none=>simp [j] at b
    | some d=>simp [j] at b;subst b;exact .d (qr4 j)
  | func f=>
    simp only [AS.ev] at b;cases b;exact .d (.fn qe qe)
  | global g=>simp [AS.ev] at b
theorem q50 {a : List V} {ds : List DV} (h : allD a = some ds) : a = ds.map .d:=by
  induction a generalizing ds with
  | nil=>simp [allD] at h;subst h;rfl
  | cons v r ih=>
    cases v <;> simp only [allD,reduceCtorEq] at h
    grind
theorem qef (ds : List DV) : allD (ds.map .d) = some ds:=by
  induction ds with
  | nil=>rfl
  | cons d r ih=>simp [allD,ih]
theorem qgk {d : V} {c : Value} (h : RelV w Z inj nx d c) (a : Kl d = true) : c.oneCell' = true:=by
  cases h with
  | d h=>cases h <;> simp_all [Kl,Yi,Value.oneCell']
  | _=>simp_all [Kl,Value.oneCell']
theorem qq9 {c : Value} (h : c.oneCell' = true) : c.cells = #[c]:=by cases c <;> simp_all [Value.oneCell',Value.cells]
theorem qc0 {v : V} {x : Value} (h : RelV w Z inj nx v x) (f : (cellsOf v).all Kl = true) :
    (cellsOf v).length = x.cells.size∧(∀ (i : Nat) (d : V) (c : Value),(cellsOf v)[i]? = some d→x.cells[i]? = some c→RelV w Z inj nx d c)∧∀ c∈x.cells.toList,c.oneCell' = true:=by
  have fin : ∀ (l : List V) (cs : Array Value),l.length = cs.size→(∀ (i : Nat) (d : V) (c : Value),l[i]? = some d→cs[i]? = some c→RelV w Z inj nx d c)→l.all Kl = true→∀ c∈cs.toList,c.oneCell' = true:=by
    intro l cs k j g c r;obtain ⟨i,hi,rfl⟩:=List.mem_iff_getElem.1 r;simp at hi;have m : l[i]? = some l[i]:=List.getElem?_eq_getElem q6;have n : cs[i]? = some cs[i]:=Array.getElem?_eq_getElem hi;have:=qgk (j i _ _ m n) (List.all_eq_true.1 g _ (Kq _));grind
  have one : ∀ {v : V} {x : Value},RelV w Z inj nx v x→cellsOf v = [v]→(cellsOf v).all Kl = true→(cellsOf v).length = x.cells.size∧(∀ (i : Nat) (d : V) (c : Value),(cellsOf v)[i]? = some d→x.cells[i]? = some c→RelV w Z inj nx d c)∧∀ c∈x.cells.toList,c.oneCell' = true:=by
    intro v x h p g;rw [p] at g ⊢;have m : Kl v = true:=by simpa using g
    have n:=qgk h m;rw [qq9 n];grind
  cases h with
  | agg k j=>exact ⟨k,j,fin _ _ k j f⟩
  | d h=>
    cases h with
    | agg k j=>
      have m : (cellsOf (V.d (.agg ‹List DV›))).length = (Value.agg ‹Array Value›).cells.size:=by simpa [cellsOf,Value.cells] using k
      have n : ∀ (i : Nat) (d : V) (c : Value),(cellsOf (V.d (.agg ‹List DV›)))[i]? = some d→(Value.agg ‹Array Value›).cells[i]? = some c→RelV w Z inj nx d c:=by
        intro i d c hd f;simp only [cellsOf,List.getElem?_map,Y5] at hd;obtain ⟨q,o,rfl⟩:=hd;exact .d (j i q c o f)
      grind
    | int=>exact one (.d (.int _ _)) rfl f
    | bool=>exact one (.d (.bool _)) rfl f
    | str=>exact one (.d (.str _)) rfl f
    | tup k j=>exact one (.d (.tup k j)) rfl f
    | fn k j=>exact one (.d (.fn k j)) rfl f
    | nilsl=>exact one (.d .nilsl) rfl f
    | slnil=>exact one (.d (.slnil _)) rfl f
    | slemp=>exact one (.d (.slemp _ _)) rfl f
    | sl a b c d e=>exact one (.d (.sl a b c d e)) rfl f
    | nilp=>exact one (.d .nilp) rfl f
    | nilf=>exact one (.d .nilf) rfl f
    | nilm=>exact one (.d .nilm) rfl f
    | box a b c=>exact one (.d (.box a b c)) rfl f
  | tup k j=>exact one (.tup k j) rfl f
  | fn k j=>exact one (.fn k j) rfl f
  | ref a b=>exact one (.ref a b) rfl f
  | dref a b c=>exact one (.dref a b c) rfl f
  | hsnil a=>exact one (.hsnil a) rfl f
  | hs a b c d=>exact one (.hs a b c d) rfl f
  | yld a b=>exact one (.yld a b) rfl f
  | mp a b=>exact one (.mp a b) rfl f
  | dead v=>simp [cellsOf,Kl] at f
theorem qgb {cs : List V} {xs : Array Value} (a : cs.length = xs.size) (h : ∀ (i : Nat) (d : V) (c : Value),cs[i]? = some d→xs[i]? = some c→RelV w Z inj nx d c) : RelV w Z inj nx (q5o cs) (.agg xs):=by
  unfold q5o;split
  · rename_i ds hd;have:=q50 hd;subst this;refine .d (.agg (by simpa using a) fun i d c b f=>?_);have:=h i (.d d) c (by simp [b]) f
    cases this with | d h=>exact h
  · exact .agg a h
def qp9 (w : World) (Z : Nat→Prop) (inj : Inj) (nx : Nat) (v : V) : Bool→List Value→Prop
  | true,xs=>RelV w Z inj nx v (.agg xs.toArray)
  | false,[x]=>RelV w Z inj nx v x
  | false,_=>False
theorem qm1 {ag : Bool} {cs : List V} {v : V} {xs : List Value} (hp : pack ag cs = some v) (a : cs.length = xs.length) (h : ∀ (i : Nat) (d : V) (c : Value),cs[i]? = some d→xs[i]? = some c→RelV w Z inj nx d c) :
    qp9 w Z inj nx v ag xs:=by
  cases ag with
  | true=>
    simp only [pack,Option.some.injEq] at hp;subst hp;exact qgb (by simpa using a) (fun i d c b f=>h i d c b (by simpa using f))
  | false=>
    match cs,xs,hp,a with
    | [c],[x],hp,_=>simp only [pack,Option.some.injEq] at hp;subst hp;exact h 0 _ _ rfl rfl
    | [c],[],_,a=>simp at a
    | [c],_::_::_,_,a=>simp at a
theorem qgo (ag : Bool) (cs : List DV) : (q1u ag cs).map V.d = pack ag (cs.map .d):=by
  cases ag with
  | true=>simp [q1u,pack,q5o,qef]
  | false=>match cs with
    | []=>rfl
    | [c]=>rfl
    | _::_::_=>rfl
theorem qoc {α : Type} {cs r : List α} {j s : Nat} (h : sub cs j s = some r) : j + s≤cs.length∧r = (cs.drop j).take s:=by
  unfold sub at h;split at h <;> simp at h;exact ⟨‹_›,h.symm⟩
theorem qb9 {α : Type} {cs r : List α} {j s : Nat} (h : sub cs j s = some r) : r.length = s∧∀ (i : Nat) (x : α),r[i]? = some x→cs[j + i]? = some x∧i < s:=by
  obtain ⟨a,rfl⟩:=qoc h;grind
theorem Ju (b o j : Nat) : (⟨b,o,none⟩ : Addr).add j = ⟨b,o + j,none⟩:=by
  unfold Addr.add;split <;> simp_all
theorem qtc {t : TypeId} {i : TI} {l : TypeInfo} {d : TypeDesc} {z : Value} (m : TiOk P t i l d z) {b o : Nat} {r : List V} {v : V} (hp : pack i.agg r = some v) (hr : r.length = i.size)
    (hc : ∀ (k : Nat) (x : V),r[k]? = some x→∃ c,w.cell? ⟨b,o + k,none⟩ = some c∧RelV w Z inj nx x c) :
    ∃ x,(Instr.loadAt t (.pointer (some ⟨b,o,none⟩))).run P w = .ok x w∧RelV w Z inj nx v x:=by
  have n : ∃ cs : List Value,cs.length = i.size∧∀ (k : Nat) (c : Value),cs[k]? = some c→w.cell? ⟨b,o + k,none⟩ = some c:=by
    refine ⟨(List.range i.size).map fun k=>(w.cell? ⟨b,o + k,none⟩).getD undef,qe,?_⟩;intro k c y;have q : k < i.size:=by have:=Kd y;simpa using this
    obtain ⟨x,hx⟩:=Zq (xs:=r) (i:=k) q6;grind
  obtain ⟨cs,p,a⟩:=n;have h : ∀ (i : Nat) (d : V) (c : Value),r[i]? = some d→cs[i]? = some c→RelV w Z inj nx d c:=by grind
  have f:=qm1 hp (by omega : r.length = cs.length) h
  have g : (isAgg t).run P w = .ok i.agg w:=by
    rw [m.agg];simp only [isAgg,Sem.run_bind,run_underlying m.und,Result.andThen_ok];cases d <;> rfl
  cases hb : i.agg with
  | true=>
    rw [hb] at f;refine ⟨.agg cs.toArray,?_,f⟩;have s:=run_loadCells_list (P:=P) w ⟨b,o,none⟩ cs (fun j v u=>by rw [Ju];exact a j v u);simp [Instr.loadAt,Instr.sureAddr,loadVar,g,hb,sizeOf,typeInfo,m.inf,m.size,← p,s]
  | false=>
    rw [hb] at f
    match cs,p,a,f with
    | [x],_,a,f=>
      refine ⟨x,?_,f⟩;have:=a 0 x rfl;simp only [Nat.add_zero] at this;simp [Instr.loadAt,Instr.sureAddr,loadVar,g,hb,this]
end
end Go.Am
namespace Go.Am
open Go
variable {P : Program} {T : Tab}
def Kk (st st1 : AS) (v : V) (w : World) (Z : Nat→Prop) (inj : Inj) (r : Result Next) : Prop:=
  ∃ x w' inj',(r = .ok (.value x) w'∨(r = .ok .skip w'∧x = undef))∧RelV w' Z inj' st1.nx v x∧RelH w' Z inj' st1.hp st1.nx∧Ext w Z inj st.hp w' Z inj' st1.hp st.nx∧st1.sl = st.sl∧st.nx≤st1.nx
section
variable {w : World} {Z : Nat→Prop} {inj : Inj} {st : AS} {a : Act} {Ds : List Nat}
theorem Kk.quiet {v : V} {x : Value} {r : Result Next} (h : RelS w Z inj st a Ds) (c : r = .ok (.value x) w) (b : RelV w Z inj st.nx v x) : Kk st st v w Z inj r:=
  ⟨x,w,inj,.inl c,b,h.heap,.refl,rfl,Nat.le_refl _⟩
theorem Kj {s : Sem Value} {x : Value} {w' : World} (h : s.run P w = .ok x w') : (do pure (Next.value (← s)) : Sem Next).run P w = .ok (.value x) w':=by
  simp [h]
theorem Kk.new {v : V} {x : Value} {r : Result Next} {o : Obj} {blk : Blk} (h : RelS w Z inj st a Ds) (c : r = .ok (.value x) (w.alloc o))
    (hb : RelB (w.alloc o) Z (upd inj st.nx (some (w.heap.size,0))) (st.nx + 1) st.nx blk)
    (b : RelV (w.alloc o) Z (upd inj st.nx (some (w.heap.size,0))) (st.nx + 1) v x) (d : Unfr o:=by first | exact rfl | exact trivial) : Kk st (st.new blk) v w Z inj r:=
  ⟨x,_,_,.inl c,b,h.heap.new o blk 0 hb,Ext.new h.heap o blk 0 d,rfl,by simp [AS.new]⟩
theorem qmz {v : V} {x : Value} (h : RelS w Z inj st a Ds) (o : Obj) (b : RelV w Z inj st.nx v x) : RelV (w.alloc o) Z (upd inj st.nx (some (w.heap.size,0))) (st.nx + 1) v x:=
  b.mono (fun _ c=>Zy w o (h.heap.zs _ c)) (fun _ h=>h) (q2r w o) (fun _ d=>Yf _ _ d) q6
theorem qmv {w : World} {nx n es : Nat} {xs : List (List V)} {arr : Array Value} {ty : TypeId} {b : Nat} (q : es≠0) (hi : inj n = some (b,0)) (hb : w.heap[b]? = some (.cells arr ty (0,0)))
    (s : ∀ (i : Nat) (x : List V),xs[i]? = some x→x.length = es)
    (h : ∀ (i : Nat) (x : List V) (j : Nat) (d : V),xs[i]? = some x→x[j]? = some d→Kl d = true∧∃ c,arr[i * es + j]? = some c∧RelV w Z inj nx d c) : RelB w Z inj nx n (q5p es xs):=by
  unfold q5p;split
  · rename_i ys v;obtain ⟨r,t⟩:=q94 v;refine ⟨q,?_,.inr ⟨b,0,arr,ty,hi,hb,?_⟩⟩
    · intro i y f;obtain ⟨x,g⟩:=Yo r f;obtain ⟨u,a,hd⟩:=t i x g;rw [f] at a;cases a;have:=s i x g;rw [q50 hd] at this;simpa using this
    · intro i y j d f k;obtain ⟨x,g⟩:=Yo r f;obtain ⟨u,a,hd⟩:=t i x g;rw [f] at a;cases a;have m:=q50 hd;obtain ⟨p,c,l,o⟩:=h i x j (.d d) g (by rw [m];simp [k]);refine ⟨p,c,by simpa using l,?_⟩
      cases o with | d h=>exact h
  · refine ⟨q,s,.inr ⟨b,0,arr,ty,hi,hb,?_⟩⟩;intro i x j d g hd;obtain ⟨p,c,l,o⟩:=h i x j d g hd;exact ⟨p,c,by simpa using l,o⟩
theorem qlx {o : Operand} {v : V} (h : RelS w Z inj st a Ds) (b : st.ev o = some v) {r : Result Next} (c : r = .ok (.value (a.eval o)) w) : Kk st st v w Z inj r:=
  .quiet h c (Kb h b)
theorem qum {t : TypeId} {i : TI} (h : RelS w Z inj st a Ds) (r : tiOf P t = some i) :
    Kk st (st.new (.dat i.size [i.zero])) (.ref st.nx i.size 0 0) w Z inj ((do pure (Next.value (← Instr.alloc t true (.tuple #[]))) : Sem Next).run P w):=by
  obtain ⟨m,d,z,k⟩:=Ys r
  have g : (Instr.alloc t true (.tuple #[])).run P w = .ok (.pointer (some ⟨w.heap.size,0,none⟩)) (w.alloc (.cells z.cells t)):=by
    simp [Instr.alloc,zeroValue,typeInfo,k.inf,k.zero,newVar,newRow]
  obtain ⟨s,o⟩:=q8p (w:=w.alloc (.cells z.cells t)) (Z:=Z) k.cells;refine .new h (Kj g) ?_ ?_
  · refine ⟨k.pos,?_,.inr ⟨w.heap.size,0,z.cells,t,Y4 _ _ _,Jv _ _,?_⟩⟩
    · intro l x f
      cases l with
      | zero=>simp at f;subst f;exact k.len
      | succ n=>simp at f
    · intro l x j d f hd
      cases l with
      | zero=>
        simp at f;subst f;obtain ⟨c,q,p,b,_⟩:=o j d hd;exact ⟨b,c,by simpa using q,p⟩
      | succ n=>simp at f
  · have:=RelV.ref (w:=w.alloc (.cells z.cells t)) (Z:=Z) (inj:=upd inj st.nx (some (w.heap.size,0))) (nx:=st.nx + 1) (n:=st.nx) (es:=i.size) (i:=0) (j:=0) q6 (Y4 _ _ _);simpa using this
theorem qur {t : TypeId} {i : TI} {o : Operand} {v : V} (h : RelS w Z inj st a Ds) (ht : tiOf P t = some i) (y : st.ev o = some v) (s : (cellsOf v).length = i.size) (q : (cellsOf v).all Kl = true) :
    Kk st (st.new (q5p i.size [cellsOf v])) (.ref st.nx i.size 0 0) w Z inj ((do pure (Next.value (← Instr.box t (a.eval o))) : Sem Next).run P w):=by
  obtain ⟨r,d,z,k⟩:=Ys ht;have f:=Kb h y
  have g : (Instr.box t (a.eval o)).run P w = .ok (.pointer (some ⟨w.heap.size,0,none⟩)) (w.alloc (.cells (a.eval o).cells t)):=by
    simp [Instr.box,newVar,newRow]
  have p:=qmz h (.cells (a.eval o).cells t) f;obtain ⟨h1,u,_⟩:=qc0 p q;refine .new h (Kj g) ?_ ?_
  · refine qmv (b:=w.heap.size) (arr:=(a.eval o).cells) (ty:=t) k.pos (Y4 _ _ _) (Jv _ _) ?_ ?_
    · intro m x f
      cases m with
      | zero=>simp at f;subst f;exact s
      | succ n=>simp at f
    · intro m x j d f hd
      cases m with
      | zero=>
        simp at f;subst f;obtain ⟨c,l⟩:=Yd (xs:=(a.eval o).cells) (i:=j) (by have:=Kd hd;omega);exact ⟨List.all_eq_true.1 q _ (List.mem_of_getElem? hd),c,by simpa using l,u j d c hd l⟩
      | succ n=>simp at f
  · have:=RelV.ref (w:=w.alloc (.cells (a.eval o).cells t)) (Z:=Z) (inj:=upd inj st.nx (some (w.heap.size,0))) (nx:=st.nx + 1) (n:=st.nx) (es:=i.size) (i:=0) (j:=0) q6 (Y4 _ _ _);simpa using this
theorem q26 {α : Type} (cs ys : List α) (o : Nat) (h : o + ys.length≤cs.length) : (splice cs o ys).length = cs.length:=by simp [splice];omega
theorem U8 {α : Type} (cs ys : List α) (o j : Nat) (h : o + ys.length≤cs.length) : (splice cs o ys)[j]? = if o≤j∧j < o + ys.length then ys[j - o]? else cs[j]?:=by
  have e : (cs.take o).length = o:=by simp;omega
  by_cases a : j < o
  · rw [qp q6,splice,List.append_assoc,List.getElem?_append_left q6,List.getElem?_take,qr a]
  · by_cases b : j < o + ys.length
    · rw [qr q6,splice,List.append_assoc,List.getElem?_append_right q6,e,List.getElem?_append_left q6]
    · rw [qp q6,splice,List.getElem?_append_right (by simp;omega),List.getElem?_drop];congr 1;rw [List.length_append,e];omega
theorem qjz (off : Nat) : ∀ (l : List Value) (s : Nat) (cs : Array Value),off + s + l.length≤cs.size→
    ((l.zipIdx s).foldl (fun (cs : Array Value) (x : Value × Nat)=>cs.setIfInBounds (off + x.2) x.1) cs).size = cs.size∧
    ∀ j : Nat,((l.zipIdx s).foldl (fun (cs : Array Value) (x : Value × Nat)=>cs.setIfInBounds (off + x.2) x.1) cs)[j]? = if off + s≤j∧j < off + s + l.length then l[j - (off + s)]? else cs[j]?
  | [],s,cs,_=>by
    refine ⟨rfl,fun j=>?_⟩
    have : ¬ (off + s≤j∧j < off + s + ([] : List Value).length):=by simp
    rw [qp this];rfl
  | v::r,s,cs,h=>by
    obtain ⟨f,g⟩:=qjz off r (s + 1) (cs.setIfInBounds (off + s) v) (by simp at h ⊢;omega)
    simp only [List.zipIdx_cons,List.foldl_cons]
    refine ⟨by rw [f];simp,fun j=>?_⟩
    rw [g j]
    simp only [List.length_cons] at h ⊢
    by_cases c : off + (s + 1)≤j∧j < off + (s + 1) + r.length
    · have a : off + s≤j∧j < off + s + (r.length + 1):=by omega
      rw [qr c,qr a,show j - (off + s) = (j - (off + (s + 1))) + 1 by omega,List.getElem?_cons_succ]
    · rw [qp c,Array.getElem?_setIfInBounds]
      by_cases b : off + s = j
      · have a : off + s≤j∧j < off + s + (r.length + 1):=by omega
        have d : j < cs.size:=by omega
        rw [qr b,qr a,qr q6,show j - (off + s) = 0 by omega]
        rfl
      · have a : ¬ (off + s≤j∧j < off + s + (r.length + 1)):=by omega
        rw [qp b,qp a]
theorem qk0 (a cs : Array Value) (off : Nat) (h : off + a.size≤cs.size) :
    a.zipIdx.foldl (fun (cs : Array Value) (x : Value × Nat)=>cs.setIfInBounds (off + x.2) x.1) cs = (splice cs.toList off a.toList).toArray:=by
  rw [← Array.foldl_toList,Array.toList_zipIdx];obtain ⟨c,b⟩:=qjz off a.toList 0 cs (by simpa using h);have hs:=q26 cs.toList a.toList off (by simpa using h);apply Array.ext';apply List.ext_getElem?;intro j;rw [Array.getElem?_toList,b j,U8 _ _ _ _ (by simpa using h)];simp
def LRel (w : World) (Z : Nat→Prop) (inj : Inj) (nx : Nat) (cs : List V) (xs : Array Value) : Prop:=
  cs.length = xs.size∧∀ (i : Nat) (d : V) (c : Value),cs[i]? = some d→xs[i]? = some c→RelV w Z inj nx d c
theorem LRel.splice {w : World} {nx : Nat} {cs ys : List V} {xs g : Array Value} {o : Nat} (h : LRel w Z inj nx cs xs) (k : LRel w Z inj nx ys g) (j : o + ys.length≤cs.length) :
    LRel w Z inj nx (Am.splice cs o ys) (Am.splice xs.toList o g.toList).toArray:=by
  have l:=h.1;have m:=k.1;have f : o + g.toList.length≤xs.toList.length:=by simp;omega
  refine ⟨by simp [q26 _ _ _ j,q26 _ _ _ f,h.1],fun i d c hd b=>?_⟩;rw [U8 _ _ _ _ j] at hd;rw [List.getElem?_toArray,U8 _ _ _ _ f] at b;have e : g.toList.length = ys.length:=by simp;omega
  rw [e] at b;split at hd
  · rename_i a;rw [qr a] at b;exact k.2 _ _ _ hd (by simpa using b)
  · rename_i a;rw [qp a] at b;exact h.2 _ _ _ hd (by simpa using b)
theorem qjr {f : List (Nat × Operand)} {c : List (Nat × V)} (h : RelS w Z inj st a Ds) (hp : Ja st.ev f = some c) :
    c.length = f.length∧∀ (k : Nat) (i : Nat) (v : V),c[k]? = some (i,v)→∃ o,f[k]? = some (i,o)∧RelV w Z inj st.nx v (a.eval o):=by
  induction f generalizing c with
  | nil=>simp [Ja] at hp;subst hp;simp
  | cons x r ih=>
    obtain ⟨i,o⟩:=x;simp only [Ja] at hp
    cases b : st.ev o with
    | none=>simp [b] at hp
    | some v=>
      cases g : Ja st.ev r with
      | none=>simp [b,g] at hp
      | some l=>
        simp [b,g] at hp;subst hp;obtain ⟨t,n⟩:=ih g;refine ⟨by simp [t],fun k j q d=>?_⟩
        cases k with
        | zero=>simp at d;obtain ⟨rfl,rfl⟩:=d;exact ⟨o,qe,Kb h b⟩
        | succ k=>simp at d;obtain ⟨m,p,s⟩:=n k j q d;exact ⟨m,by simpa using p,s⟩
theorem q8x {os : List Operand} {g : List V} (h : RelS w Z inj st a Ds) (hp : evL st.ev os = some g) : LRel w Z inj st.nx g (os.map a.eval).toArray:=by
  induction os generalizing g with
  | nil=>simp [evL] at hp;subst hp;exact ⟨qe,qe⟩
  | cons o r ih=>
    simp only [evL] at hp
    cases b : st.ev o with
    | none=>simp [b] at hp
    | some v=>
      cases j : evL st.ev r with
      | none=>simp [b,j] at hp
      | some l=>
        simp [b,j] at hp;subst hp;obtain ⟨n,m⟩:=ih j;refine ⟨by simpa using n,fun k d c hd f=>?_⟩
        cases k with
        | zero=>simp at hd f;subst hd f;exact Kb h b
        | succ k=>simp at hd f;exact m k d c hd (by simpa using f)
theorem qfe {w : World} {nx : Nat} (place : Nat→Option (Nat × Nat)) : ∀ (b : List (Nat × V)) (xs : List (Nat × Value)) (l : List (Nat × List V)) (cs a : List V) (C : Array Value),
    b.length = xs.length→(∀ (k : Nat) (i : Nat) (v : V),b[k]? = some (i,v)→∃ x,xs[k]? = some (i,x)∧RelV w Z inj nx v x)→
    l.length = b.length→(∀ (k : Nat) (i : Nat) (v : V),b[k]? = some (i,v)→∃ o s,place i = some (o,s)∧(cellsOf v).length = s∧(cellsOf v).all Kl = true∧l[k]? = some (o,cellsOf v))→
    LRel w Z inj nx cs C→q55 cs l = some a→∃ h,Instr.fill place C xs = some h∧LRel w Z inj nx a h
  | [],xs,l,cs,a,C,h1,_,h3,_,h5,h6=>by
    have : xs = []:=by cases xs <;> simp_all
    have : l = []:=by cases l <;> simp_all
    subst_vars
    simp [q55] at h6;subst h6
    exact ⟨C,by simp [Instr.fill],h5⟩
  | (i,v)::b,xs,l,cs,a,C,h1,h2,h3,h4,h5,h6=>by
    match xs,l,h1,h3 with
    | (i',x)::xs,(o',ys)::l,h1,h3=>
      obtain ⟨x',f,r⟩:=h2 0 i v rfl
      simp at f;obtain ⟨rfl,rfl⟩:=f
      obtain ⟨o,s,hp,z,t,c⟩:=h4 0 i' v rfl
      simp at c;obtain ⟨rfl,rfl⟩:=c
      obtain ⟨u,y,q3⟩:=qc0 r t
      simp only [q55] at h6
      split at h6
      · rename_i g
        have m : x.cells.size = s:=by omega
        have p : ¬ (o' + x.cells.size > C.size):=by have:=h5.1;omega
        obtain ⟨h,n,d⟩:=qfe place b xs l (splice cs o' (cellsOf v)) a (splice C.toList o' x.cells.toList).toArray (by simpa using h1)
          (fun k i v q=>by obtain ⟨x,j⟩:=h2 (k + 1) i v (by simpa using q);exact ⟨x,by simpa using j⟩) (by simpa using h3)
          (fun k i v q=>by obtain ⟨o,s,j⟩:=h4 (k + 1) i v (by simpa using q);exact ⟨o,s,by simpa using j⟩)
          (h5.splice ⟨u,y⟩ g) h6
        refine ⟨h,?_,d⟩
        simp only [Instr.fill,hp,m]
        have : ¬ ((decide (s≠s) || decide (o' + s > C.size)) = true):=by simp;omega
        rw [qp (by simpa using this)]
        rw [qk0 x.cells C o' q6]
        exact n
      · simp at h6
end
end Go.Am
namespace Go.Am
open Go
variable {P : Program} {T : Tab}
section
variable {w : World} {Z : Nat→Prop} {inj : Inj} {nx : Nat}
theorem qn5 {α β : Type} {f : α→Sem β} {g : α→β} : ∀ {l : List α},(∀ x∈l,(f x).run P w = .ok (g x) w)→(l.mapM f).run P w = .ok (l.map g) w
  | [],_=>by simp
  | x::r,h=>by
    have a:=h x qe
    have c:=qn5 (l:=r) (fun y b=>h y (by simp [b]))
    simp [List.mapM_cons,a,c]
theorem qxj {α β : Type} {f : α→Sem β} {g : α→β} {l : Array α} (h : ∀ x∈l.toList,(f x).run P w = .ok (g x) w) : (l.mapM f).run P w = .ok (l.toList.map g).toArray w:=by
  rw [Array.mapM_eq_mapM_toList,Sem.run_map,qn5 h];rfl
theorem qjx {d : Array Field} {j : List (Nat × Nat × Bool)} (h : (d.toList.mapM fun f => do
      let a ← P.info? f.type
      let c ← P.underlying f.type
      if a.size = 0 then none else some (f.offset,a.size,Kc c)) = some j) :
    j.length = d.size∧∀ (i : Nat) (f : Field),d[i]? = some f→∃ a c,P.info? f.type = some a∧P.underlying f.type = some c∧a.size≠0∧j[i]? = some (f.offset,a.size,Kc c):=by
  obtain ⟨m,o⟩:=q94 h;refine ⟨by simpa using m,fun i f p=>?_⟩;obtain ⟨y,n,b⟩:=o i f (by simpa using p)
  cases k : P.info? f.type with
  | none=>simp [k] at b
  | some a=>
    cases l : P.underlying f.type with
    | none=>simp [k,l] at b
    | some c=>
      simp only [k,l,Option.bind_eq_bind,qj] at b;split at b
      · simp at b
      · rename_i g;simp at b;subst b;exact ⟨a,c,rfl,rfl,g,n⟩
theorem qfh {c : Array Field} {g : List (Nat × Nat × Bool)} (h : (c.toList.mapM fun f => do
      let a ← P.info? f.type
      let b ← P.underlying f.type
      if a.size = 0 then none else some (f.offset,a.size,Kc b)) = some g) {i off s : Nat} {ag : Bool} (hi : g[i]? = some (off,s,ag)) :
    ∃ f a b,c[i]? = some f∧P.info? f.type = some a∧P.underlying f.type = some b∧a.size = s∧s≠0∧f.offset = off∧Kc b = ag:=by
  obtain ⟨o,l⟩:=qjx h;obtain ⟨f,j⟩:=Yd (xs:=c) (i:=i) (by have:=Kd hi;omega);obtain ⟨a,b,n,k,m,d⟩:=l i f j;rw [hi] at d;simp at d;obtain ⟨rfl,rfl,rfl⟩:=d;exact ⟨f,a,b,j,n,k,rfl,m,rfl,rfl⟩
theorem qm9 {a : TI} : ∀ {c : List (Nat × V)} {l : List (Nat × List V)},placed a c = some l→l.length = c.length∧∀ (k i : Nat) (v : V),c[k]? = some (i,v)→∃ o s,
    (match a.kind with | .struct=>(a.flds[i]?).map fun f=>(f.1,f.2.1) | .array=>some (i * a.esize,a.esize) | _=>none) = some (o,s)∧(cellsOf v).length = s∧(cellsOf v).all Kl = true∧l[k]? = some (o,cellsOf v)
  | [],l,h=>by simp [placed] at h;subst h;simp
  | (i,v)::r,l,h=>by
    simp only [placed] at h
    split at h
    · rename_i o s l' m q
      split at h
      · rename_i d
        simp at h;subst h
        obtain ⟨w,n⟩:=qm9 q
        refine ⟨by simp [w],fun k j u b=>?_⟩
        cases k with
        | zero=>simp at b;obtain ⟨rfl,rfl⟩:=b;exact ⟨o,s,m,d.1,d.2,qe⟩
        | succ k=>simp at b;obtain ⟨p,g,t⟩:=n k j u b;exact ⟨p,g,by simpa using t⟩
      · simp at h
    · simp at h
theorem q14m {t : TypeId} {i : TI} {b : TypeInfo} {d : TypeDesc} {z : Value} (k : TiOk P t i b d z) : LRel w Z inj nx (i.zero.map .d) z.cells:=by
  obtain ⟨g,h⟩:=q8p (w:=w) (Z:=Z) k.cells;refine ⟨by simpa using g,fun j d c hd n=>?_⟩;simp only [List.getElem?_map,Y5] at hd;obtain ⟨l,f,rfl⟩:=hd;obtain ⟨o,a,m,_⟩:=h j l f;rw [n] at a;cases a;exact .d m
theorem Zh {t : TypeId} {a : TypeInfo} (h : P.info? t = some a) : (sizeOf t).run P w = .ok a.size w:=by simp [sizeOf,typeInfo,h]
theorem q2q {t : TypeId} {d : TypeDesc} (h : P.underlying t = some d) : (isAgg t).run P w = .ok (Kc d) w:=by
  simp only [isAgg,Sem.run_bind,run_underlying h,Result.andThen_ok];cases d <;> rfl
theorem qm5 {t : TypeId} {a : TypeInfo} {d : TypeDesc} (s : P.info? t = some a) (m : P.underlying t = some d) {cs r : List V} {xs : Array Value} {off : Nat} {v : V} (k : LRel w Z inj nx cs xs)
    (hs : sub cs off a.size = some r) (hp : pack (Kc d) r = some v) : ∃ x,(part t xs off).run P w = .ok x w∧RelV w Z inj nx v x:=by
  obtain ⟨p,h⟩:=qb9 hs;have y:=(qoc hs).1;have n:=k.1
  have f : ∀ (i : Nat) (d : V) (c : Value),r[i]? = some d→(xs.extract off (off + a.size)).toList[i]? = some c→RelV w Z inj nx d c:=by
    intro i d c hd j;obtain ⟨g,u⟩:=h i d hd;refine k.2 _ _ _ g ?_;rw [Array.getElem?_toList,Array.getElem?_extract] at j;split at j <;> first | exact j | simp at j
  have l : r.length = (xs.extract off (off + a.size)).toList.length:=by simp;omega
  have b:=qm1 hp l f
  cases hb : Kc d with
  | true=>
    rw [hb] at b
    refine ⟨.agg (xs.extract off (off + a.size)),?_,by
      have q : RelV w Z inj nx v (.agg (xs.extract off (off + a.size)).toList.toArray):=b
      rwa [Array.toArray_toList] at q⟩
    simp [part,q2q m,hb,Zh s]
  | false=>
    rw [hb] at b hp
    match r,hp,p,h with
    | [c],hp,p,h=>
      simp only [pack,Option.some.injEq] at hp;subst hp;have g:=(h 0 c rfl).1;simp only [Nat.add_zero] at g;obtain ⟨x,o⟩:=Yd (xs:=xs) (i:=off) (by have:=Kd g;omega);exact ⟨x,by simp [part,q2q m,hb,o],k.2 _ _ _ g o⟩
end
section
variable {w : World} {Z : Nat→Prop} {inj : Inj} {st : AS} {a : Act} {Ds : List Nat}
theorem qus {t : TypeId} {i : TI} {g : Array (Nat × Operand)} {y : List (Nat × V)} {l : List (Nat × List V)} {cs : List V} (h : RelS w Z inj st a Ds) (ht : tiOf P t = some i) (hv : Ja st.ev g.toList = some y)
    (ha : i.agg = true) (hl : placed i y = some l) (hf : q55 (i.zero.map .d) l = some cs) :
    Kk st st (q5o cs) w Z inj ((do pure (Next.value (← Instr.build t (g.map fun (i,x)=>(i,a.eval x)))) : Sem Next).run P w):=by
  obtain ⟨au,d,z,k⟩:=Ys ht;obtain ⟨p1,p2⟩:=qjr h hv;obtain ⟨q1,q2⟩:=qm9 hl;have hz:=q14m (w:=w) (Z:=Z) (inj:=inj) (nx:=st.nx) k
  have q : ∀ (k i : Nat) (v : V),y[k]? = some (i,v)→∃ x,(g.toList.map fun (x : Nat × Operand)=>(x.1,a.eval x.2))[k]? = some (i,x)∧RelV w Z inj st.nx v x:=by
    intro k i v hk;obtain ⟨o,ho,c⟩:=p2 k i v hk;exact ⟨a.eval o,by simp only [List.getElem?_map,ho];rfl,c⟩
  have ab : (zeroValue t).run P w = .ok z w:=by simp [zeroValue,typeInfo,k.inf,k.zero]
  have b:=k.kind;unfold Zj at b;cases hk : i.kind <;> simp only [hk,TI.agg] at b ha
  case struct=>
    obtain ⟨fs,rfl,aa⟩:=b;obtain ⟨_,al⟩:=qjx aa
    obtain ⟨r,hC,c⟩:=qfe (fun i=>((fs.toList.map fun (f : Field)=>(f.offset,((P.info? f.type).map (·.size)).getD 0)).toArray)[i]?) y (g.toList.map fun (x : Nat × Operand)=>(x.1,a.eval x.2)) l _ cs z.cells (by simp [p1]) q q1
      (fun k i' v m=>by
        obtain ⟨o,s,u,h2,h3,h4⟩:=q2 k i' v m;simp only [hk,Y5] at u;obtain ⟨⟨o',s',ag⟩,h5,h6⟩:=u;simp at h6;obtain ⟨rfl,rfl⟩:=h6;obtain ⟨f,jf,df,p,g2,_,g4,_,g6,_⟩:=qfh aa h5
        exact ⟨o',s',by simp [p,g2,g4,g6],h2,h3,h4⟩) hz hf
    refine .quiet h (Kj (x:=.agg r) ?_) (qgb c.1 c.2)
    have hm : (fs.mapM fun f=>do pure (f.offset,← sizeOf f.type) : Sem (Array (Nat × Nat))).run P w = .ok (fs.toList.map fun (f : Field)=>(f.offset,((P.info? f.type).map (·.size)).getD 0)).toArray w:=by
      refine qxj fun f hf=>?_;obtain ⟨j,hj⟩:=List.mem_iff_getElem?.1 hf;obtain ⟨jf,df,p,_⟩:=al j f (by simpa using hj);simp [Zh p,p]
    simp only [Instr.build,Sem.run_bind,ab,Result.andThen_ok,run_underlying k.und,hm];have n : Instr.fill (fun x=>((fs.toList.map fun (f : Field)=>(f.offset,((P.info? f.type).map (·.size)).getD 0)).toArray)[x]?) z.cells (g.map fun (x : Nat × Operand)=>(x.1,a.eval x.2)).toList = some r:=by simpa using hC
    simp only [n];rfl
  case array=>
    obtain ⟨e,ie,de,rfl,p,g2,g3,g4,_⟩:=b
    obtain ⟨r,hC,c⟩:=qfe (fun j=>some (j * i.esize,i.esize)) y (g.toList.map fun (x : Nat × Operand)=>(x.1,a.eval x.2)) l _ cs z.cells (by simp [p1]) q q1
      (fun k i' v m=>by
        obtain ⟨o,s,u,h2,h3,h4⟩:=q2 k i' v m;simp only [hk] at u
        exact ⟨o,s,u,h2,h3,h4⟩) hz hf
    refine .quiet h (Kj (x:=.agg r) ?_) (qgb c.1 c.2);have n : Instr.fill (fun j=>some (j * i.esize,i.esize)) z.cells (g.map fun (x : Nat × Operand)=>(x.1,a.eval x.2)).toList = some r:=by simpa using hC
    simp only [Instr.build,Sem.run_bind,ab,Result.andThen_ok,run_underlying k.und,Zh p,g3,n];rfl
  all_goals simp at ha
theorem ql7 {t : TypeId} {i : TI} {pv v : V} {vp : Value} (h : RelH w Z inj st.hp st.nx) (ht : tiOf P t = some i) (hx : RelV w Z inj st.nx pv vp) (a : U1 st i pv = some v) :
    ∃ b o x,vp = .pointer (some ⟨b,o,none⟩)∧(Instr.loadAt t vp).run P w = .ok x w∧RelV w Z inj st.nx v x:=by
  obtain ⟨ao,d,z,k⟩:=Ys ht
  have fin : ∀ {b o : Nat} {r : List V} {pp : Value},pp = .pointer (some ⟨b,o,none⟩)→pack i.agg r = some v→r.length = i.size→
      (∀ (k : Nat) (x : V),r[k]? = some x→∃ c,w.cell? ⟨b,o + k,none⟩ = some c∧RelV w Z inj st.nx x c)→∃ b o x,pp = .pointer (some ⟨b,o,none⟩)∧(Instr.loadAt t pp).run P w = .ok x w∧RelV w Z inj st.nx v x:=by
    intro b o r pp m aj af hc
    obtain ⟨x,aa,ae⟩:=qtc (P:=P) k aj af hc
    exact ⟨b,o,x,m,by rw [m];exact aa,ae⟩
  cases pv <;> simp only [U1,reduceCtorEq] at a
  case ref n es e j=>
    cases hx with
    | @ref _ _ _ _ b o hn hi=>
    cases hb : st.blk n with
    | none=>simp [hb] at a
    | some blk=>
      have hB:=(h.blk n blk hb).2
      cases blk with
      | dead=>simp [hb] at a
      | loop=>simp [hb] at a
      | mp=>simp [hb] at a
      | dat es' xs=>
        simp only [hb] at a;split at a <;> try simp at a
        rename_i cs m l;have m:=Nat.eq_of_beq_eq_true m;subst m
        cases hs : sub cs j i.size with
        | none=>simp [hs] at a
        | some r=>
          simp only [hs] at a;rw [qgo] at a;obtain ⟨s,u⟩:=qb9 hs;obtain ⟨b1,b2,f⟩:=hB;rcases f with ⟨f,_⟩ | ⟨b',o',arr,ty,f,b4,b5⟩
          · subst f;simp at l
          · rw [hi] at f;cases f;refine fin rfl a (by simpa using s) ?_;intro k x p;simp only [List.getElem?_map,Y5] at p;obtain ⟨y,hy,rfl⟩:=p;obtain ⟨q,_⟩:=u k y hy;obtain ⟨_,c,h4,h5⟩:=b5 e cs (j + k) y l q;exact ⟨c,by simp only [World.cell?,b4];rw [← h4];simp [Nat.add_assoc],.d h5⟩
      | cel es' xs=>
        simp only [hb] at a;split at a <;> try simp at a
        rename_i cs m l;have m:=Nat.eq_of_beq_eq_true m;subst m
        cases hs : sub cs j i.size with
        | none=>simp [hs] at a
        | some r=>
          simp only [hs] at a;obtain ⟨s,u⟩:=qb9 hs;obtain ⟨b1,b2,f⟩:=hB;rcases f with ⟨f,_⟩ | ⟨b',o',arr,ty,f,b4,b5⟩
          · subst f;simp at l
          · rw [hi] at f;cases f;refine fin rfl a s ?_;intro k x p;obtain ⟨q,_⟩:=u k x p;obtain ⟨_,c,h4,h5⟩:=b5 e cs (j + k) x l q;exact ⟨c,by simp only [World.cell?,b4];rw [← h4];simp [Nat.add_assoc],h5⟩
  case dref cs j=>
    cases hx with
    | @dref _ _ b o hz hc hr=>
    cases hs : sub cs j i.size with
    | none=>simp [hs] at a
    | some r=>
      simp only [hs] at a;rw [qgo] at a;obtain ⟨s,u⟩:=qb9 hs;refine fin rfl a (by simpa using s) ?_;intro k x p;simp only [List.getElem?_map,Y5] at p;obtain ⟨y,hy,rfl⟩:=p;obtain ⟨q,_⟩:=u k y hy;obtain ⟨c,g⟩:=hc _ _ q;exact ⟨c,by rw [← g,Nat.add_assoc],.d (hr _ _ _ q g)⟩
  case d x=>
    cases x <;> simp only [reduceCtorEq] at a
    rename_i cs
    cases hx with
    | d hx=>
    cases hx with
    | @box _ b o hz hc hr=>
    cases hs : sub cs 0 i.size with
    | none=>simp [hs] at a
    | some r=>
      simp only [hs] at a;rw [qgo] at a;obtain ⟨s,u⟩:=qb9 hs;refine fin rfl a (by simpa using s) ?_;intro k x p;simp only [List.getElem?_map,Y5] at p;obtain ⟨y,hy,rfl⟩:=p;obtain ⟨q,_⟩:=u k y hy;rw [Nat.zero_add] at q;obtain ⟨c,g⟩:=hc _ _ q;exact ⟨c,g,.d (hr _ _ _ q g)⟩
theorem qv3 {t : TypeId} {i : TI} {p : Operand} {pv v : V} (h : RelS w Z inj st a Ds) (g : tiOf P t = some i) (hp : st.ev p = some pv) (f : U1 st i pv = some v) :
    Kk st st v w Z inj ((do pure (Next.value (← Instr.loadAt t (a.eval p))) : Sem Next).run P w):=by
  obtain ⟨b,o,x,_,c,d⟩:=ql7 (P:=P) h.heap g (Kb h hp) f;exact .quiet h (Kj c) d
end
end Go.Am
namespace Go.Am
open Go
variable {P : Program} {T : Tab}
theorem qeu : ∀ {c d : List (Option IntKind)} {a b : List DV} {r : Bool},Ke (c ++ d) a b = some r→
    ∃ p q,Ke c (a.take c.length) (b.take c.length) = some p∧Ke d (a.drop c.length) (b.drop c.length) = some q∧r = (p && q)
  | [],d,a,b,r,h=>⟨true,r,by simp [Ke],by simpa using h,qe⟩
  | k::c,d,a,b,r,h=>by
    match a,b,h with
    | x::a,y::b,h=>
      simp only [List.cons_append,Ke] at h
      split at h <;> simp at h
      rename_i u v f m
      obtain ⟨p,q,l,g,j⟩:=qeu m
      refine ⟨u && p,q,by simp [Ke,f,l],by simpa using g,?_⟩
      rw [← h,j,Bool.and_assoc]
    | [],_,h=>simp [Ke] at h
    | _::_,[],h=>simp [Ke] at h
theorem qbz : ∀ {ks : List (Option IntKind)} {a b : List DV} {r : Bool},Ke ks a b = some r→a.length = ks.length∧b.length = ks.length
  | [],[],[],_,_=>⟨rfl,rfl⟩
  | k::ks,x::a,y::b,r,h=>by
    simp only [Ke] at h
    split at h <;> simp at h
    rename_i d c
    have:=qbz c
    simp;omega
  | [],_::_,_,_,h=>by simp [Ke] at h
  | [],[],_::_,_,h=>by simp [Ke] at h
  | _::_,[],_,_,h=>by simp [Ke] at h
  | _::_,_::_,[],_,h=>by simp [Ke] at h
section
variable {w : World} {Z : Nat→Prop}
def DRel (w : World) (Z : Nat→Prop) (ds : List DV) (cs : Array Value) : Prop:=ds.length = cs.size∧∀ (i : Nat) (d : DV) (c : Value),ds[i]? = some d→cs[i]? = some c→RelD w Z d c
theorem DRel.extract {ds : List DV} {cs : Array Value} (h : DRel w Z ds cs) (o s : Nat) (hs : o + s≤ds.length) : DRel w Z ((ds.drop o).take s) (cs.extract o (o + s)):=by
  have b:=h.1;refine ⟨by simp;omega,fun i d c hd a=>?_⟩;rw [List.getElem?_take] at hd;split at hd
  · rw [List.getElem?_drop] at hd;rw [Array.getElem?_extract] at a;split at a
    · exact h.2 _ _ _ hd a
    · simp at a
  · simp at hd
theorem qe4 {t : TypeId} {d : TypeDesc} (h : P.underlying t = some d) : ∃ a,P.info? t = some a∧P.cellsOf t = a.size:=by
  cases hi : P.info? t with
  | none=>simp [Program.underlying,hi] at h
  | some a=>exact ⟨a,rfl,by simp [Program.cellsOf,hi]⟩
def EqOk (P : Program) (w : World) (Z : Nat→Prop) (k : Nat) (t : TypeId) (desc : TypeDesc) (ks : List (Option IntKind)) : Prop:=
  ∀ (xs ys : List DV) (X Y : Array Value) (r : Bool),DRel w Z xs X→DRel w Z ys Y→Ke ks xs ys = some r→
    (Kc desc = true→(Op.equalIn k t (.agg X) (.agg Y)).run P w = .ok r w)∧(Kc desc = false→ks.length = 1∧∀ x y,X[0]? = some x→Y[0]? = some y→(Op.equalIn k t x y).run P w = .ok r w)
def q8t (k : Nat) (X Y : Array Value) (f : Field) (_s : Option Bool × Unit) : Sem (ForInStep (Option Bool × Unit)):=
  if f.name ≠ "_" then do
    let __do_lift ← part f.type X f.offset
    let __do_lift_1 ← part f.type Y f.offset
    let __do_lift ← Op.equalIn k f.type __do_lift __do_lift_1
    if (!__do_lift) = true then pure (ForInStep.done (some false,())) else pure (ForInStep.yield (none,()))
  else pure (ForInStep.yield (none,()))
theorem qjq {k : Nat} {t : TypeId} {desc : TypeDesc} {b : TypeInfo} {ks : List (Option IntKind)} (h : EqOk P w Z k t desc ks) (f : P.underlying t = some desc) (hi : P.info? t = some b) (hs : b.size = ks.length)
    {xs ys : List DV} {X Y : Array Value} (r : DRel w Z xs X) (s : DRel w Z ys Y) {o : Nat} (j : o + ks.length≤xs.length) (l : o + ks.length≤ys.length) {p : Bool}
    (hp : Ke ks ((xs.drop o).take ks.length) ((ys.drop o).take ks.length) = some p) :
    ∃ q n,(part t X o).run P w = .ok q w∧(part t Y o).run P w = .ok n w∧(Op.equalIn k t q n).run P w = .ok p w:=by
  obtain ⟨v,g⟩:=h _ _ _ _ p (r.extract o ks.length j) (s.extract o ks.length l) hp
  cases a : Kc desc with
  | true=>
    exact ⟨.agg (X.extract o (o + ks.length)),.agg (Y.extract o (o + ks.length)),by simp [part,q2q f,a,Zh hi,hs],by simp [part,q2q f,a,Zh hi,hs],v a⟩
  | false=>
    obtain ⟨m,g⟩:=g a;have u:=r.1;have z:=s.1;obtain ⟨x,d⟩:=Yd (xs:=X) (i:=o) q6;obtain ⟨y,c⟩:=Yd (xs:=Y) (i:=o) q6;refine ⟨x,y,by simp [part,q2q f,a,d],by simp [part,q2q f,a,c],g x y ?_ ?_⟩
    · rw [Array.getElem?_extract,m,qr (by have:=Zl d;omega)];exact d
    · rw [Array.getElem?_extract,m,qr (by have:=Zl c;omega)];exact c
theorem qjn (d : Nat) (k : Nat) (s : ∀ t desc ks,P.underlying t = some desc→Ki P d t = some ks→EqOk P w Z k t desc ks)
    (xs ys : List DV) (X Y : Array Value) (v : DRel w Z xs X) (x : DRel w Z ys Y) : ∀ (l : List Field) (o : Nat) (r : Bool) (ks : List (Option IntKind)),tile P (Ki P d) o l = some ks→o + ks.length≤xs.length→o + ks.length≤ys.length→
    Ke ks (xs.drop o) (ys.drop o) = some r→(forIn l ((none : Option Bool),()) (q8t k X Y) : Sem (Option Bool × Unit)).run P w = .ok (if r then (none,()) else (some false,())) w
  | [],o,r,ks,ht,_,_,hc=>by
    simp only [tile,Option.some.injEq] at ht;subst ht
    obtain ⟨h1,h2⟩:=qbz hc
    rw [List.eq_nil_of_length_eq_zero h1,List.eq_nil_of_length_eq_zero h2] at hc
    simp [Ke] at hc;subst hc
    simp
  | f::l,o,r,ks,ht,hlx,hly,hc=>by
    simp only [tile] at ht
    cases a : Ki P d f.type with
    | none=>simp [a] at ht
    | some ka=>
      simp only [a] at ht
      split at ht <;> try simp at ht
      rename_i g
      obtain ⟨rfl,z,aa⟩:=g
      cases b : tile P (Ki P d) (f.offset + ka.length) l with
      | none=>simp [b] at ht
      | some kb=>
        simp only [b,Option.some.injEq] at ht;subst ht
        simp only [List.length_append] at hlx hly
        obtain ⟨p,q,hp,u,m⟩:=qeu hc
        rw [List.drop_drop,List.drop_drop] at u
        obtain ⟨h,c⟩ : ∃ h,P.underlying f.type = some h:=by
          cases hu : P.underlying f.type with
          | none=>cases d <;> simp [Ki,hu] at a
          | some h=>exact ⟨h,rfl⟩
        obtain ⟨jf,j,n⟩:=qe4 c
        obtain ⟨vx,vy,g1,g2,y⟩:=qjq (s f.type h ka c a) c j q6 v x (o:=f.offset) q6 q6 hp
        rw [List.forIn_cons]
        simp only [q8t,qr z,Sem.run_bind,g1,g2,y,Result.andThen_ok]
        cases p with
        | false=>simp [m]
        | true=>
          have:=qjn d k s xs ys X Y v x l (f.offset + ka.length) q kb b q6 q6 u;simp only [Bool.true_and] at m;subst m;simpa using this
def q8u (k : Nat) (e : TypeId) (n : Nat) (X Y : Array Value) (i : Nat) (_s : Option Bool × Unit) : Sem (ForInStep (Option Bool × Unit)):=do
  let __do_lift ← part e X (i * n)
  let __do_lift_1 ← part e Y (i * n)
  let __do_lift ← Op.equalIn k e __do_lift __do_lift_1
  if (!__do_lift) = true then pure (ForInStep.done (some false,())) else pure (ForInStep.yield (none,()))
theorem qjo {k : Nat} {e : TypeId} {desc : TypeDesc} {b : TypeInfo} {a : List (Option IntKind)} (j : EqOk P w Z k e desc a) (f : P.underlying e = some desc) (hi : P.info? e = some b) (hs : b.size = a.length)
    {xs ys : List DV} {X Y : Array Value} (g : DRel w Z xs X) (h : DRel w Z ys Y) : ∀ (m s : Nat) (r : Bool),(s + m) * a.length≤xs.length→(s + m) * a.length≤ys.length→
    Ke (List.replicate m a).flatten (xs.drop (s * a.length)) (ys.drop (s * a.length)) = some r→(forIn (List.range' s m) ((none : Option Bool),()) (q8u k e b.size X Y) : Sem (Option Bool × Unit)).run P w = .ok (if r then (none,()) else (some false,())) w
  | 0,s,r,_,_,hc=>by
    simp only [List.replicate_zero,List.flatten_nil] at hc
    obtain ⟨n,u⟩:=qbz hc
    rw [List.eq_nil_of_length_eq_zero n,List.eq_nil_of_length_eq_zero u] at hc
    simp [Ke] at hc;subst hc
    simp
  | m + 1,s,r,hlx,hly,hc=>by
    rw [List.replicate_succ,List.flatten_cons] at hc
    obtain ⟨p,q,hp,c,d⟩:=qeu hc
    rw [List.drop_drop,List.drop_drop] at c
    have t : s * a.length + a.length = (s + 1) * a.length:=by rw [Nat.add_mul];simp
    have e2 : (s + 1) * a.length + m * a.length = (s + (m + 1)) * a.length:=by rw [← Nat.add_mul];congr 1;omega
    obtain ⟨z,y,x,v,l⟩:=qjq j f hi hs g h (o:=s * a.length) q6 q6 hp
    rw [List.range'_succ,List.forIn_cons]
    simp only [q8u,hs,Sem.run_bind,x,v,l,Result.andThen_ok]
    cases p with
    | false=>simp [d]
    | true=>
      rw [t] at c
      have:=qjo j f hi hs g h m (s + 1) q (by rw [Nat.add_mul];omega) (by rw [Nat.add_mul];omega) c
      simp only [Bool.true_and] at d
      subst d
      rw [hs] at this
      simpa using this
theorem qca : ∀ (d : Nat) (t : TypeId) (desc : TypeDesc) (ks : List (Option IntKind)),P.underlying t = some desc→Ki P d t = some ks→∀ k,d≤k→EqOk P w Z k t desc ks
  | 0,t,desc,ks,hu,hp,k,hk=>by simp [Ki] at hp
  | d + 1,t,desc,ks,hu,hp,k,hk=>by
    obtain ⟨k,rfl⟩ : ∃ k',k = k' + 1:=⟨k - 1,q6⟩
    intro xs ys X Y r u v c
    obtain ⟨q,m⟩:=qbz c
    simp only [Ki,hu] at hp
    cases desc <;> simp only [reduceCtorEq,Option.some.injEq] at hp
    case bool=>
      subst hp
      refine ⟨by simp [Kc],fun _=>⟨rfl,fun x y l h=>?_⟩⟩
      match xs,ys,q,m,c with
      | [a],[b],_,_,c=>
        have ra:=u.2 0 a x rfl l
        have rb:=v.2 0 b y rfl h
        simp only [Ke] at c
        cases a <;> cases b <;> simp only [q2c,reduceCtorEq] at c
        simp at c;subst c
        cases ra;cases rb;simp [Op.equalIn,run_underlying hu]
    case int k0=>
      subst hp
      refine ⟨by simp [Kc],fun _=>⟨rfl,fun x y l h=>?_⟩⟩
      match xs,ys,q,m,c with
      | [a],[b],_,_,c=>
        have ra:=u.2 0 a x rfl l
        have rb:=v.2 0 b y rfl h
        simp only [Ke] at c
        cases a <;> cases b <;> simp only [q2c,reduceCtorEq] at c
        split at c <;> simp at c
        rename_i s z
        split at s <;> simp at s
        rename_i aa
        obtain ⟨rfl,rfl⟩:=aa
        subst s c
        simp at z;subst z
        cases ra;cases rb;simp [Op.equalIn,run_underlying hu]
    case struct fs=>
      refine ⟨fun _=>?_,by simp [Kc]⟩
      split at hp
      · simp at hp
      · rename_i ab
        simp only [Op.equalIn,Sem.run_bind,run_underlying hu,Result.andThen_ok,run_program,ab,Bool.false_eq_true,if_false]
        have:=qjn (P:=P) (w:=w) (Z:=Z) d k (fun t desc ks s z=>qca d t desc ks s z k q6) xs ys X Y u v fs.toList 0 r ks hp q6 q6 (by simpa using c)
        rw [Array.forIn_toList] at this
        have e : (fun (f : Field) (_s : Option Bool × Unit)=>q8t k X Y f _s) = q8t k X Y:=rfl
        unfold q8t at this
        rw [this]
        cases r <;> simp
    case array n e=>
      refine ⟨fun _=>?_,by simp [Kc]⟩
      cases g : Ki P d e with
      | none=>simp [g] at hp
      | some a=>
        simp only [g] at hp
        split at hp
        · rename_i ai
          simp only [Option.some.injEq] at hp;subst hp
          obtain ⟨o,j⟩ : ∃ o,P.underlying e = some o:=by
            cases ac : P.underlying e with
            | none=>cases d <;> simp [Ki,ac] at g
            | some o=>exact ⟨o,rfl⟩
          obtain ⟨je,p,af⟩:=qe4 j
          have ag : (List.replicate n a).flatten.length = n * a.length:=by simp
          have:=qjo (qca d e o a j g k q6) j p q6 u v n 0 r (by rw [Nat.zero_add];omega) (by rw [Nat.zero_add];omega) (by simpa using c)
          simp only [Op.equalIn,Sem.run_bind,run_underlying hu,Result.andThen_ok,Zh p,Std.Legacy.Range.forIn_eq_forIn_range']
          have e : (fun (i : Nat) (_s : Option Bool × Unit)=>q8u k e je.size X Y i _s) = q8u k e je.size X Y:=rfl
          unfold q8u at this
          simp only [Std.Legacy.Range.size,Nat.sub_zero,Nat.add_sub_cancel,Nat.div_one]
          rw [this]
          cases r <;> simp
        · simp at hp
end
section
variable {w : World} {Z : Nat→Prop} {inj : Inj} {st : AS} {a : Act} {Ds : List Nat}
theorem qpu {op : BinOp} {k : IntKind} {x y : Int} {r : DV} (h : binI op k x y = some r) (hs : op≠.shl∧op≠.shr) : ∃ v,(∀ t,(binOp op t (.int k x) (.int k y)).run P w = .ok v w)∧RelD w Z r v:=by
  cases op <;> simp only [binI,reduceCtorEq,Option.some.injEq] at h <;> try (simp at hs;done)
  case add=>subst h;exact ⟨_,fun t=>by simp [binOp,Op.intArith],.int _ _⟩
  case sub=>subst h;exact ⟨_,fun t=>by simp [binOp,Op.intArith],.int _ _⟩
  case mul=>subst h;exact ⟨_,fun t=>by simp [binOp,Op.intArith],.int _ _⟩
  case quo=>split at h <;> simp at h;subst h;rename_i a;exact ⟨_,fun t=>by simp [binOp,Op.intDiv,a],.int _ _⟩
  case rem=>split at h <;> simp at h;subst h;rename_i a;exact ⟨_,fun t=>by simp [binOp,Op.intDiv,a],.int _ _⟩
  case and=>subst h;exact ⟨_,fun t=>by simp [binOp,Op.intBits],.int _ _⟩
  case or=>subst h;exact ⟨_,fun t=>by simp [binOp,Op.intBits],.int _ _⟩
  case xor=>subst h;exact ⟨_,fun t=>by simp [binOp,Op.intBits],.int _ _⟩
  case eql=>subst h;exact ⟨_,fun t=>by simp [binOp,Op.intCmp],.bool _⟩
  case neq=>subst h;exact ⟨_,fun t=>by simp [binOp,Op.intCmp],.bool _⟩
  case lss=>subst h;exact ⟨_,fun t=>by simp [binOp,Op.intCmp],.bool _⟩
  case leq=>subst h;exact ⟨_,fun t=>by simp [binOp,Op.intCmp],.bool _⟩
  case gtr=>subst h;exact ⟨_,fun t=>by simp [binOp,Op.intCmp],.bool _⟩
  case geq=>subst h;exact ⟨_,fun t=>by simp [binOp,Op.intCmp],.bool _⟩
theorem qng {op : BinOp} {k b : IntKind} {x y : Int} {r : DV} (h : q9t op k x y = some r) : ∃ v,(∀ t,(binOp op t (.int k x) (.int b y)).run P w = .ok v w)∧RelD w Z r v:=by
  unfold q9t at h;split at h <;> try simp at h
  rename_i a;cases op <;> simp only [reduceCtorEq,Option.some.injEq] at h
  case shl=>subst h;exact ⟨_,fun t=>by simp [binOp,Op.shift,a],.int _ _⟩
  case shr=>subst h;exact ⟨_,fun t=>by simp [binOp,Op.shift,a],.int _ _⟩
theorem q1b {op : BinOp} {t : TypeId} {x y : Operand} {u v : Value} (b : ∀ c,u≠.agg c) (a : u≠.nilIface) : (eqGuard op t x y u v).run P w = .ok () w:=by
  unfold eqGuard;cases op <;> simp <;> cases u <;> simp_all
theorem qjl {op : BinOp} {t : TypeId} {x y : Operand} {u v : Array Value} (h : P.eqGuardType P.depth t = false) : (eqGuard op t x y (.agg u) (.agg v)).run P w = .ok () w:=by
  unfold eqGuard;cases op <;> simp [h]
end
end Go.Am
namespace Go.Am
open Go
variable {P : Program} {T : Tab}
section
variable {w : World} {Z : Nat→Prop} {inj : Inj} {st : AS} {a : Act} {Ds : List Nat}
theorem qos {a : TypeId → Option (List (Option IntKind))} {k : Nat} (b : ∀ t ks, a t = some ks → P.eqGuardType k t = false) : ∀ {l : List Field} {o : Nat} {ks}, tile P a o l = some ks → l.any (fun f => f.name != "_" && P.eqGuardType k f.type) = false
  | [],_,_,_=>rfl
  | f::r,o,ks,h=>by
    simp only [tile] at h
    cases hp : a f.type with
    | none=>simp [hp] at h
    | some ka=>
      simp only [hp] at h
      split at h <;> try simp at h
      cases c : tile P a (o + ka.length) r with
      | none=>simp [c] at h
      | some kb=>
        have:=qos b c
        simp only [List.any_cons,this,b _ _ hp,Bool.and_false,Bool.or_false]
theorem qgf : ∀ (d : Nat) (t : TypeId) (ks : List (Option IntKind)),Ki P d t = some ks→∀ k,d≤k→P.eqGuardType k t = false
  | 0,t,ks,h,k,hk=>by simp [Ki] at h
  | d + 1,t,ks,h,k,hk=>by
    obtain ⟨k,rfl⟩ : ∃ b,k = b + 1:=⟨k - 1,q6⟩
    simp only [Ki] at h
    simp only [Program.eqGuardType]
    cases c : P.underlying t with
    | none=>rfl
    | some desc=>
      cases desc <;> simp only [c,reduceCtorEq] at h <;> try rfl
      case array n e=>
        cases hp : Ki P d e with
        | none=>simp [hp] at h
        | some a=>exact qgf d e a hp k q6
      case struct fs=>
        split at h <;> try simp at h
        have:=qos (fun t ks hp=>qgf d t ks hp k q6) h
        simp only []
        rw [← Array.any_toList];exact this
theorem qlv {op : BinOp} {t : TypeId} {i : TI} {x y : Operand} {p q : List DV} {ks : List (Option IntKind)} {r : Bool} {b : DV} (h : RelS w Z inj st a Ds) (ht : tiOf P t = some i) (u : st.ev x = some (.d (.agg p))) (v : st.ev y = some (.d (.agg q)))
    (s : i.eqs = some ks) (hc : Ke ks p q = some r) (m : (op = .eql∧b = .bool r)∨(op = .neq∧b = .bool (!r))) :
    Kk st st (.d b) w Z inj ((do pure (Next.value (← (do eqGuard op t x y (a.eval x) (a.eval y);binOp op t (a.eval x) (a.eval y) : Sem Value)) ) : Sem Next).run P w):=by
  obtain ⟨o,d,z,k⟩:=Ys ht;have g:=Kb h u;have j:=Kb h v;generalize a.eval x = vx at g ⊢;generalize a.eval y = vy at j ⊢
  cases g with | d g=>cases g with | @agg _ X hl1 hr1=>
  cases j with | d j=>cases j with | @agg _ Y hl2 hr2=>
  obtain ⟨f,l⟩:=k.eqs ks s;have n : P.eqGuardType P.depth t = false:=qgf 8 t ks f _ (by unfold Program.depth Made.depth;omega);have c:=(qca (w:=w) (Z:=Z) 8 t d ks k.und f Op.maxDepth (by unfold Op.maxDepth;omega) p q X Y r ⟨hl1,hr1⟩ ⟨hl2,hr2⟩ hc).1 l;rcases m with ⟨rfl,rfl⟩ | ⟨rfl,rfl⟩
  · exact .quiet h (Kj (x:=.bool r) (by simp [qjl n,binOp,Op.equal,c])) (.d (.bool _))
  · exact .quiet h (Kj (x:=.bool (!r)) (by simp [qjl n,binOp,Op.equal,c])) (.d (.bool _))
theorem quq {op : BinOp} {t : TypeId} {x y : Operand} {k l : IntKind} {p q : Int} {b : DV} (h : RelS w Z inj st a Ds) (o : st.ev x = some (.d (.int k p))) (hy : st.ev y = some (.d (.int l q)))
    (c : binD op (.int k p) (.int l q) = some b) :
    Kk st st (.d b) w Z inj ((do pure (Next.value (← (do eqGuard op t x y (a.eval x) (a.eval y);binOp op t (a.eval x) (a.eval y) : Sem Value)) ) : Sem Next).run P w):=by
  have j:=Kb h o;have m:=Kb h hy;generalize a.eval x = vx at j ⊢;generalize a.eval y = vy at m ⊢
  cases j with | d j=>
  cases j
  cases m with | d m=>
  cases m;have s:=q1b (P:=P) (w:=w) (op:=op) (t:=t) (x:=x) (y:=y) (u:=.int k p) (v:=.int l q) qe qe
  have key : ∃ v,(∀ t,(binOp op t (.int k p) (.int l q)).run P w = .ok v w)∧RelD w Z b v:=by
    unfold binD at c;split at c
    · rename_i f g;cases f;cases g;exact qng c
    · rename_i f g;cases f;cases g;exact qng c
    · rename_i n1 n f g;cases f;cases g;split at c <;> try simp at c
      rename_i hk;subst hk;exact qpu c ⟨fun e=>n1 e,fun e=>n e⟩
    · simp at c
  obtain ⟨v,r,z⟩:=key;exact .quiet h (Kj (x:=v) (by simp [s,r])) (.d z)
theorem maxD : Op.maxDepth = 9999 + 1:=rfl
theorem qrm {t : TypeId} (h : P.underlying t = some .bool) (p q : Bool) : (Op.equal t (.bool p) (.bool q)).run P w = .ok (p == q) w:=by
  rw [Op.equal,maxD,Op.equalIn];simp only [Sem.run_bind,run_underlying h,Result.andThen_ok];rfl
theorem qjp {t e : TypeId} (h : P.underlying t = some (.slice e)) (a : Option Addr) (n c : Nat) : (Op.equal t (.slice none 0 0) (.slice a n c)).run P w = .ok a.isNone w:=by
  rw [Op.equal,maxD,Op.equalIn];simp only [Sem.run_bind,run_underlying h,Result.andThen_ok];rfl
theorem qrq {t e : TypeId} (h : P.underlying t = some (.slice e)) (a : Addr) (n c : Nat) : (Op.equal t (.slice (some a) n c) (.slice none 0 0)).run P w = .ok false w:=by
  rw [Op.equal,maxD,Op.equalIn];simp only [Sem.run_bind,run_underlying h,Result.andThen_ok];rfl
theorem qrn {t : TypeId} {x y z} (h : P.underlying t = some (.func x y z)) : (Op.equal t .nilFunc .nilFunc).run P w = .ok true w:=by
  rw [Op.equal,maxD,Op.equalIn];simp only [Sem.run_bind,run_underlying h,Result.andThen_ok];rfl
theorem qro {t : TypeId} {x y z} (h : P.underlying t = some (.func x y z)) (f g c) : (Op.equal t .nilFunc (.func f g c)).run P w = .ok false w:=by
  rw [Op.equal,maxD,Op.equalIn];simp only [Sem.run_bind,run_underlying h,Result.andThen_ok];rfl
theorem qrp {t : TypeId} {x y z} (h : P.underlying t = some (.func x y z)) (f g c) : (Op.equal t (.func f g c) .nilFunc).run P w = .ok false w:=by
  rw [Op.equal,maxD,Op.equalIn];simp only [Sem.run_bind,run_underlying h,Result.andThen_ok];rfl
theorem q3e {t : TypeId} {u v : Value} {r : Bool} (a : (Op.equal t u v).run P w = .ok r w) (b : ∀ k n,u≠.int k n) (f : ∀ k n,u≠.float k n) (d : ∀ k n m,u≠.complex k n m) (c : ∀ s,u≠.string s) :
    (binOp .eql t u v).run P w = .ok (.bool r) w∧(binOp .neq t u v).run P w = .ok (.bool (!r)) w:=by
  cases u <;> first | (exfalso;exact b _ _ rfl) | (exfalso;exact f _ _ rfl) | (exfalso;exact d _ _ _ rfl) | (exfalso;exact c _ rfl) | (constructor <;> (simp only [binOp];simp [a]))
theorem qup {op : BinOp} {t : TypeId} {i : TI} {x y : Operand} {p q : DV} {b : DV} (h : RelS w Z inj st a Ds) (ht : tiOf P t = some i) (hx : st.ev x = some (.d p)) (hy : st.ev y = some (.d q))
    (n : binE op i.kind p q = some b) :
    Kk st st (.d b) w Z inj ((do pure (Next.value (← (do eqGuard op t x y (a.eval x) (a.eval y);binOp op t (a.eval x) (a.eval y) : Sem Value)) ) : Sem Next).run P w):=by
  obtain ⟨ab,d,z,k⟩:=Ys ht;have j:=Kb h hx;have l:=Kb h hy;generalize a.eval x = vx at j ⊢;generalize a.eval y = vy at l ⊢
  cases j with | d j=>
  cases l with | d l=>
  have key : ∀ r,eqK i.kind p q = some r→(eqGuard op t x y vx vy).run P w = .ok () w∧(binOp .eql t vx vy).run P w = .ok (.bool r) w∧(binOp .neq t vx vy).run P w = .ok (.bool (!r)) w:=by
    intro r c;have m:=k.kind;unfold Zj at m;unfold eqK at c;split at c <;> simp at c <;> (rename_i o;simp only [o] at m)
    · subst c;obtain ⟨rfl,_⟩:=m;cases j;cases l;exact ⟨q1b qe qe,q3e (qrm k.und _ _) qe qe qe qe⟩
    · subst c;cases j;cases l;exact ⟨q1b qe qe,by simp only [binOp,Op.stringOp];rfl,by simp only [binOp,Op.stringOp];rfl⟩
    · subst c;obtain ⟨e,v,de,ze,rfl,_⟩:=m;cases j;cases l;exact ⟨q1b qe qe,q3e (qjp k.und _ _ _) qe qe qe qe⟩
    · subst c;obtain ⟨e,v,de,ze,rfl,_⟩:=m;cases j;cases l;exact ⟨q1b qe qe,q3e (qjp k.und _ _ _) qe qe qe qe⟩
    · subst c;obtain ⟨e,v,de,ze,rfl,_⟩:=m;cases j;cases l;exact ⟨q1b qe qe,q3e (qrq k.und _ _ _) qe qe qe qe⟩
    · subst c;obtain ⟨⟨e,f,g,rfl⟩,_⟩:=m;cases j;cases l;exact ⟨q1b qe qe,q3e (qrn k.und) qe qe qe qe⟩
    · subst c;obtain ⟨⟨e,f,g,rfl⟩,_⟩:=m;cases j;cases l;exact ⟨q1b qe qe,q3e (qro k.und _ _ _) qe qe qe qe⟩
    · subst c;obtain ⟨⟨e,f,g,rfl⟩,_⟩:=m;cases j;cases l;exact ⟨q1b qe qe,q3e (qrp k.und _ _ _) qe qe qe qe⟩
  unfold binE at n;split at n
  · cases c : eqK i.kind p q with
    | none=>simp [c] at n
    | some r=>
      simp [c] at n;subst n;obtain ⟨u,s,_⟩:=key r c;exact .quiet h (Kj (x:=.bool r) (by simp [u,s])) (.d (.bool _))
  · cases c : eqK i.kind p q with
    | none=>simp [c] at n
    | some r=>
      simp [c] at n;subst n;obtain ⟨u,_,s⟩:=key r c;exact .quiet h (Kj (x:=.bool (!r)) (by simp [u,s])) (.d (.bool _))
  · simp at n
end
end Go.Am
namespace Go.Am
open Go
variable {P : Program} {T : Tab}
section
variable {w : World} {Z : Nat→Prop} {inj : Inj} {st : AS} {a : Act} {Ds : List Nat}
theorem qvb {op : UnOp} {x : Operand} {p b : DV} (h : RelS w Z inj st a Ds) (g : st.ev x = some (.d p)) (c : unD op p = some b) :
    Kk st st (.d b) w Z inj ((do pure (Next.value (← Op.unary op (a.eval x))) : Sem Next).run P w):=by
  have f:=Kb h g;generalize a.eval x = vx at f ⊢
  cases f with | d f=>
  unfold unD at c;split at c
  · simp at c;subst c;cases f;exact .quiet h (Kj (by simp [Op.unary,Op.intArith])) (.d (.int _ _))
  · simp at c;subst c;cases f;exact .quiet h (Kj (by simp [Op.unary])) (.d (.bool _))
  · cases f;simp only [binI,Option.some.injEq] at c;subst c;exact .quiet h (Kj (by simp [Op.unary,Op.intBits])) (.d (.int _ _))
  · simp at c
theorem quv {src dst : TypeId} {i j : TI} {x : Operand} {k0 r k : IntKind} {n : Int} (h : RelS w Z inj st a Ds) (hi : tiOf P src = some i) (t : tiOf P dst = some j) (m : i.kind = .int k0) (l : j.kind = .int k) (s : st.ev x = some (.d (.int r n))) :
    Kk st st (.d (.int k (k.wrap n))) w Z inj ((do pure (Next.value (← convert src dst (a.eval x))) : Sem Next).run P w):=by
  obtain ⟨q,d,z,o⟩:=Ys hi;obtain ⟨g,u,v,p⟩:=Ys t;have c:=o.kind;have f:=p.kind;unfold Zj at c f;simp only [m,l] at c f;obtain ⟨rfl,_⟩:=c;obtain ⟨rfl,_⟩:=f;have b:=Kb h s;generalize a.eval x = vx at b ⊢
  cases b with | d b=>
  cases b;refine .quiet h (Kj (x:=.int k (k.wrap n)) ?_) (.d (.int _ _));simp only [convert,Sem.run_bind,run_underlying o.und,run_underlying p.und,Result.andThen_ok];simp [Conv.intToInt]
theorem qv5 {f : FuncId} {first b : Array Operand} {j : List V} (h : RelS w Z inj st a Ds) (m : first.size = 0) (n : evL st.ev b.toList = some j) :
    Kk st st (match allD j with | some ds=>.d (.fn f ds) | none=>.fn f j) w Z inj ((do pure (Next.value (← Instr.makeFunc (.func f) (first.map a.eval) (b.map a.eval))) : Sem Next).run P w):=by
  have g:=q8x h n;have k : first.map a.eval = #[]:=by apply Array.eq_empty_of_size_eq_zero;simpa using m
  have l : (b.toList.map a.eval).toArray = b.map a.eval:=by apply Array.ext';simp
  rw [l] at g;refine .quiet h (Kj (x:=.func (.func f) #[] (b.map a.eval)) (by simp [Instr.makeFunc,k])) ?_;split
  · rename_i ds hd;have:=q50 hd;subst this;refine .d (.fn (by simpa using g.1) fun i d c hd o=>?_);have:=g.2 i (.d d) c (by simp [hd]) o
    cases this with | d h=>exact h
  · exact .fn g.1 g.2
theorem qlw {x : Operand} {k : Nat} {v : V} (h : RelS w Z inj st a Ds) (g : (∃ f d,st.ev x = some (.d (.tup f))∧f[k]? = some d∧v = .d d)∨∃ f,st.ev x = some (.tup f)∧f[k]? = some v) :
    Kk st st v w Z inj ((do pure (Next.value (← Instr.extract (a.eval x) k)) : Sem Next).run P w):=by
  rcases g with ⟨f,d,g,j,rfl⟩ | ⟨f,g,j⟩
  · have b:=Kb h g;generalize a.eval x = vx at b ⊢
    cases b with | d b=>
    cases b with | @tup _ cs hl hr=>
    obtain ⟨c,l⟩:=Yd (xs:=cs) (i:=k) (by have:=Kd j;omega);exact .quiet h (Kj (x:=c) (by simp [Instr.extract,l])) (.d (hr _ _ _ j l))
  · have b:=Kb h g;generalize a.eval x = vx at b ⊢
    cases b with | @tup _ cs hl hr=>
    obtain ⟨c,l⟩:=Yd (xs:=cs) (i:=k) (by have:=Kd j;omega);exact .quiet h (Kj (x:=c) (by simp [Instr.extract,l])) (hr _ _ _ j l)
theorem qi2 {nx : Nat} {v : V} {x : Value} {cs : List V} (h : RelV w Z inj nx v x) (a : agD v = some cs) : ∃ xs,x = .agg xs∧LRel w Z inj nx cs xs:=by
  unfold agD at a;split at a <;> simp at a
  · subst a
    cases h with | d h=>
    cases h with | @agg _ X hl hr=>
    refine ⟨X,rfl,by simpa using hl,fun i d c hd g=>?_⟩;simp only [List.getElem?_map,Y5] at hd;obtain ⟨f,b,rfl⟩:=hd;exact .d (hr i f c b g)
  · subst a
    cases h with | @agg _ X hl hr=>exact ⟨X,rfl,hl,hr⟩
theorem quy {s : TypeId} {i : TI} {x : Operand} {g v : V} {f off size : Nat} {ag : Bool} {cs r : List V} (h : RelS w Z inj st a Ds) (hi : tiOf P s = some i) (n : st.ev x = some g) (hk : i.kind = .struct) (hf : i.flds[f]? = some (off,size,ag))
    (ha : agD g = some cs) (hs : sub cs off size = some r) (hp : pack ag r = some v) :
    Kk st st v w Z inj ((do pure (Next.value (← Instr.field s (a.eval x) f)) : Sem Next).run P w):=by
  obtain ⟨j,d,z,k⟩:=Ys hi;have b:=k.kind;unfold Zj at b;simp only [hk] at b;obtain ⟨fs,rfl,c⟩:=b;obtain ⟨fd,jf,df,g1,u,l,t,g5,g6,g7⟩:=qfh c hf;obtain ⟨xs,q,m⟩:=qi2 (Kb h n) ha;subst t g6 g7;obtain ⟨y,p,o⟩:=qm5 (P:=P) u l m hs hp;refine .quiet h (Kj (x:=y) ?_) o;simp only [Instr.field,Sem.run_bind,run_underlying k.und,Result.andThen_ok,g1,q,asAgg,Sem.run_pure,p]
theorem qv0 {t : TypeId} {i : TI} {x g : Operand} {m v : V} {k0 : IntKind} {n : Int} {cs r : List V} (h : RelS w Z inj st a Ds) (hi : tiOf P t = some i) (q : st.ev x = some m) (u : st.ev g = some (.d (.int k0 n))) (hk : i.kind = .array)
    (ha : agD m = some cs) (h0 : 0≤n∧n < i.len) (hs : sub cs (n.toNat * i.esize) i.esize = some r) (hp : pack i.eagg r = some v) :
    Kk st st v w Z inj ((do pure (Next.value (← Instr.index t (a.eval x) (a.eval g))) : Sem Next).run P w):=by
  obtain ⟨o,d,z,k⟩:=Ys hi;have b:=k.kind;unfold Zj at b;simp only [hk] at b;obtain ⟨e,ie,de,rfl,l,g2,f,g4,g5⟩:=b;obtain ⟨xs,he,p⟩:=qi2 (Kb h q) ha;have c:=Kb h u;generalize a.eval g = vx at c ⊢
  cases c with | d c=>
  cases c;rw [← f] at hs;rw [← g5] at hp;obtain ⟨y,j,s⟩:=qm5 (P:=P) l g2 p hs hp;refine .quiet h (Kj (x:=y) ?_) s;simp only [Instr.index,asIntOf,Sem.run_bind,Sem.run_pure,run_underlying k.und,Result.andThen_ok,he];rw [Sem.run_ite,qr h0];simp only [Sem.run_bind,Zh l,Result.andThen_ok,f];rw [f] at j;exact j
theorem qv2 {t : TypeId} {i : TI} {x j : Operand} {k0 : IntKind} {n : Int} {s : ByteArray} {b : UInt8} (h : RelS w Z inj st a Ds) (hi : tiOf P t = some i) (m : st.ev x = some (.d (.str s))) (o : st.ev j = some (.d (.int k0 n))) (p : i.kind = .str)
    (hb : (if 0≤n then s[n.toNat]? else none) = some b) :
    Kk st st (.d (.int .u8 b.toNat)) w Z inj ((do pure (Next.value (← Instr.index t (a.eval x) (a.eval j))) : Sem Next).run P w):=by
  obtain ⟨l,d,z,k⟩:=Ys hi;have c:=k.kind;unfold Zj at c;simp only [p] at c;obtain ⟨rfl,_⟩:=c;have f:=Kb h m;have g:=Kb h o;generalize a.eval x = vy at f ⊢;generalize a.eval j = vx at g ⊢
  cases f with | d f=>
  cases f
  cases g with | d g=>
  cases g;refine .quiet h (Kj (x:=.int .u8 b.toNat) ?_) (.d (.int _ _));simp only [Instr.index,asIntOf,Sem.run_bind,Sem.run_pure,run_underlying k.und,Result.andThen_ok,hb]
theorem quz {s : TypeId} {i : TI} {p : Operand} {pv v : V} {f off size : Nat} {ag : Bool} (h : RelS w Z inj st a Ds) (hi : tiOf P s = some i) (hx : st.ev p = some pv) (hk : i.kind = .struct) (y : i.flds[f]? = some (off,size,ag))
    (hp : qfd off pv = some v) :
    Kk st st v w Z inj ((do pure (Next.value (← Instr.fieldAt s (a.eval p) f)) : Sem Next).run P w):=by
  obtain ⟨q,d,z,k⟩:=Ys hi;have l:=k.kind;unfold Zj at l;simp only [hk] at l;obtain ⟨fs,rfl,m⟩:=l;obtain ⟨fd,jf,df,u,t,g3,r,g5,g6,g7⟩:=qfh m y;have g:=Kb h hx;generalize a.eval p = vx at g ⊢
  have c : ∀ b o,(Instr.fieldAt s (.pointer (some ⟨b,o,none⟩)) f).run P w = .ok (.pointer (some ⟨b,o + off,none⟩)) w:=by
    intro b o;simp only [Instr.fieldAt,Instr.sureAddr,fieldPlace,Sem.run_bind,run_underlying k.und,Result.andThen_ok,u,Sem.run_pure,Zh t,Sem.run_ite,r,qp g5,Ju,g6]
  cases pv <;> simp only [qfd,reduceCtorEq,Option.some.injEq] at hp
  case ref n es ii j=>
    subst hp
    cases g with | @ref _ _ _ _ b o h1 h2=>
    refine .quiet h (Kj (c _ _)) ?_;have:=RelV.ref (w:=w) (Z:=Z) (nx:=st.nx) (es:=es) (i:=ii) (j:=j + off) h1 h2
    rwa [show o + (ii * es + (j + off)) = o + (ii * es + j) + off by omega] at this
  case dref cs j=>
    subst hp
    cases g with | @dref _ _ b o h1 h2 g=>
    refine .quiet h (Kj (c _ _)) ?_;have:=RelV.dref (inj:=inj) (nx:=st.nx) (j:=j + off) h1 h2 g
    rwa [← Nat.add_assoc] at this
  case d x=>
    cases x <;> simp only [reduceCtorEq,Option.some.injEq] at hp
    subst hp
    cases g with | d g=>
    cases g with | box h1 h2 g=>
    exact .quiet h (Kj (c _ _)) (RelV.dref (inj:=inj) (nx:=st.nx) (j:=off) h1 h2 g)
theorem qv1 {t : TypeId} {i : TI} {x ix : Operand} {xv v : V} {k0 : IntKind} {n : Int} (h : RelS w Z inj st a Ds) (hi : tiOf P t = some i) (hx : st.ev x = some xv) (hn : st.ev ix = some (.d (.int k0 n)))
    (hp : q3o i xv n = some v) :
    Kk st st v w Z inj ((do pure (Next.value (← Instr.indexAt t (a.eval x) (a.eval ix))) : Sem Next).run P w):=by
  obtain ⟨ai,d,z,k⟩:=Ys hi;have q:=k.kind;unfold Zj at q;have u:=Kb h hn;generalize a.eval ix = vx at u ⊢
  cases u with | d u=>
  cases u;have l:=Kb h hx;generalize a.eval x = vx at l ⊢
  have r : i.kind = .slice→∀ b o len cap,0≤n→n < (len : Nat)→(Instr.indexAt t (.slice (some ⟨b,o,none⟩) len cap) (.int k0 n)).run P w = .ok (.pointer (some ⟨b,o + n.toNat * i.esize,none⟩)) w:=by
    intro s b o len cap f p;simp only [s] at q;obtain ⟨e,ie,de,ze,rfl,g1,g2,g3,g4,g5,g6,_⟩:=q;simp only [Instr.indexAt,asIntOf,Sem.run_bind,Sem.run_pure,run_underlying k.und,Result.andThen_ok];rw [Sem.run_ite,qr ⟨f,p⟩];simp only [Sem.run_bind,Zh g1,Result.andThen_ok,Sem.run_pure,Ju,g6]
  have g : i.kind = .array→∀ b o,0≤n→n < i.len→(Instr.indexAt t (.pointer (some ⟨b,o,none⟩)) (.int k0 n)).run P w = .ok (.pointer (some ⟨b,o + n.toNat * i.esize,none⟩)) w:=by
    intro s b o f p;simp only [s] at q;obtain ⟨e,ie,de,rfl,g1,g2,g3,g4,_⟩:=q;simp only [Instr.indexAt,asIntOf,Instr.sureAddr,Sem.run_bind,Sem.run_pure,run_underlying k.und,Result.andThen_ok];rw [Sem.run_ite,qr ⟨f,p⟩];simp only [Sem.run_bind,Zh g1,Result.andThen_ok,Sem.run_pure,Ju,g3]
  cases s : i.kind <;> simp only [q3o,s,reduceCtorEq] at hp
  case slice=>
    cases xv <;> (try simp only [reduceCtorEq] at hp)
    case d x=>
      cases x <;> (try simp only [reduceCtorEq] at hp)
      rename_i es xs;split at hp <;> simp at hp
      rename_i f;obtain ⟨f,he⟩:=f;obtain ⟨cs,aa,rfl⟩:=hp;have y:=Kd aa
      cases l with | d l=>
      cases l with
      | slnil=>simp at y
      | slemp=>simp at y
      | @sl _ _ b o cap p h2 h4 h5 h6=>
        refine .quiet h (Kj (r s _ _ _ _ f q6)) ?_
        have:=RelV.dref (w:=w) (Z:=Z) (inj:=inj) (nx:=st.nx) (cs:=cs) (j:=0) (b:=b) (o:=o + n.toNat * i.esize) (h2 (by rintro rfl;simp at y))
          (fun k d hd=>by have:=(h5 n.toNat cs k d aa hd).2;rwa [he,← Nat.add_assoc] at this)
          (fun k d c hd hc=>h6 n.toNat cs k d c aa hd (by rwa [he,← Nat.add_assoc]))
        simpa using this
    case hs m es off len=>
      split at hp <;> simp at hp
      rename_i f;obtain ⟨f,p,he⟩:=f;subst hp
      cases l with
      | hsnil=>omega
      | @hs _ _ _ _ cap ad hn hle _ hcap=>
        obtain ⟨b,o,hi,rfl,_⟩:=hcap q6;refine .quiet h (Kj (r s _ _ _ _ f q6)) ?_;have:=RelV.ref (w:=w) (Z:=Z) (nx:=st.nx) (es:=es) (i:=off + n.toNat) (j:=0) hn hi;rw [show o + off * es + n.toNat * i.esize = o + ((off + n.toNat) * es + 0) by rw [← he,Nat.add_mul];omega];exact this
  case array=>
    cases xv <;> (try simp only [reduceCtorEq] at hp)
    case ref m es e j=>
      split at hp <;> simp at hp
      rename_i f;subst hp
      cases l with | @ref _ _ _ _ b o p h2=>
      refine .quiet h (Kj (g s _ _ f.1 f.2)) ?_;have:=RelV.ref (w:=w) (Z:=Z) (nx:=st.nx) (es:=es) (i:=e) (j:=j + n.toNat * i.esize) p h2
      rwa [← Nat.add_assoc,← Nat.add_assoc,Nat.add_assoc o] at this
    case dref cs j=>
      split at hp <;> simp at hp
      rename_i f;subst hp
      cases l with | @dref _ _ b o p h2 l=>
      refine .quiet h (Kj (g s _ _ f.1 f.2)) ?_;have:=RelV.dref (inj:=inj) (nx:=st.nx) (j:=j + n.toNat * i.esize) p h2 l
      rwa [← Nat.add_assoc] at this
    case d x=>
      cases x <;> (try simp only [reduceCtorEq] at hp)
      split at hp <;> simp at hp
      rename_i f;subst hp
      cases l with | d l=>
      cases l with | box p h2 l=>
      exact .quiet h (Kj (g s _ _ f.1 f.2)) (RelV.dref (inj:=inj) (nx:=st.nx) (j:=n.toNat * i.esize) p h2 l)
end
end Go.Am
namespace Go.Am
open Go
variable {P : Program} {T : Tab}
theorem qhq {n : Int} (h : -9223372036854775808≤n∧n≤9223372036854775807) : IntKind.i64.wrap n = n:=by rw [IntKind.wrap_i64];omega
theorem qip {es i a j : Nat} (c : j < es) : (i * es≤a * es + j∧a * es + j < i * es + es)↔a = i:=by
  constructor
  · intro ⟨d,b⟩;rcases Nat.lt_trichotomy a i with h | h | h
    · have:=Nat.mul_le_mul_right es (show a + 1≤i from h);rw [Nat.add_mul] at this;omega
    · exact h
    · have:=Nat.mul_le_mul_right es (show i + 1≤a from h);rw [Nat.add_mul] at this;omega
  grind
theorem q3g {es n i j : Nat} (hi : i < n) (a : j < es) : i * es + j < n * es:=by
  have:=Nat.mul_le_mul_right es (show i + 1≤n from hi);rw [Nat.add_mul] at this;omega
section
variable {w : World} {Z : Nat→Prop} {inj : Inj} {st : AS} {a : Act} {Ds : List Nat}
theorem qim {b y : Nat} {o : Option Operand} {n : Nat} {code : BoundsCode} (h : RelS w Z inj st a Ds) (hb : bound st b o = some n) (j : n≤y) :
    (∀ op,o = some op→(Instr.sliceBound (a.eval op) y code).run P w = .ok n w)∧(o = none→n = b):=by
  cases o with
  | none=>simp [bound] at hb;exact ⟨qe,fun _=>hb.symm⟩
  | some op=>
    refine ⟨fun f e=>?_,qe⟩;cases e;simp only [bound] at hb;split at hb <;> try simp at hb
    rename_i k m g;have c:=Kb h g;generalize a.eval op = vx at c ⊢
    cases c with | d c=>
    cases c;obtain ⟨l,rfl⟩:=hb;simp only [Instr.sliceBound,asIntOf,Sem.run_bind,Sem.run_pure,Result.andThen_ok];simp_all
theorem qv9 {t : TypeId} {i : TI} {x : Operand} {xv v : V} {lo hi : Option Operand} {n p q : Nat} (h : RelS w Z inj st a Ds) (ht : tiOf P t = some i) (hk : i.kind = .slice) (f : st.ev x = some xv) (g : lenV xv = some n)
    (ai : bound st 0 lo = some p) (al : bound st n hi = some q) (hs : qdf i.esize xv p q = some v) :
    Kk st st v w Z inj ((do pure (Next.value (← Instr.sliceAt t (a.eval x) (lo.map a.eval) (hi.map a.eval) none)) : Sem Next).run P w):=by
  obtain ⟨ar,d,z,k⟩:=Ys ht;have ab:=k.kind;unfold Zj at ab;simp only [hk] at ab;obtain ⟨e,ie,de,ze,rfl,g1,g2,g3,g4,g5,g6,g7,_⟩:=ab;have h3:=Kb h f;generalize a.eval x = vx at h3 ⊢
  have run : ∀ ad len cap,len = n→q≤cap→p≤q→(Instr.sliceAt t (.slice ad len cap) (lo.map a.eval) (hi.map a.eval) none).run P w = .ok (.slice (if cap = p then ad else ad.map (·.add (p * i.esize))) (q - p) (cap - p)) w:=by
    intro ad len cap hl hq hp;obtain ⟨l1,l2⟩:=qim (P:=P) (y:=q) (code:=.sliceB) h ai hp;obtain ⟨r1,r2⟩:=qim (P:=P) (y:=cap) (code:=.sliceAcap) h al hq;simp only [Instr.sliceAt,Sem.run_bind,run_underlying k.und,Result.andThen_ok,Instr.slice,Instr.sliceBounds,Zh g1,g6]
    cases hi with
    | none=>
      have:=r2 rfl;subst this
      cases lo with
      | none=>have:=l2 rfl;subst this;simp [hl]
      | some o=>simp [hl,l1 o rfl]
    | some o'=>
      cases lo with
      | none=>have:=l2 rfl;subst this;simp [r1 o' rfl]
      | some o=>simp [r1 o' rfl,l1 o rfl]
  cases xv <;> simp only [qdf,reduceCtorEq] at hs
  case d x=>
    cases x <;> simp only [reduceCtorEq] at hs
    case nilsl=>
      split at hs <;> simp at hs
      rename_i u;obtain ⟨rfl,rfl⟩:=u;subst hs;simp [lenV] at g
      cases h3 with | d h3=>
      cases h3;exact .quiet h (Kj (run _ _ _ g q6 q6)) (by simpa using RelV.d .nilsl)
    case sl es xs=>
      split at hs <;> simp at hs
      rename_i u;obtain ⟨u,h1,he⟩:=u;subst hs;simp [lenV] at g
      cases h3 with | d h3=>
      cases h3 with
      | slnil=>
        simp at h1 g;obtain ⟨rfl,rfl⟩ : q = 0∧p = 0:=by omega
        exact .quiet h (Kj (run _ _ _ g q6 q6)) (by simpa using RelV.d (.slnil _))
      | slemp=>
        simp at h1 g;obtain ⟨rfl,rfl⟩ : q = 0∧p = 0:=by omega
        exact .quiet h (Kj (run _ _ _ g q6 q6)) (by simpa using RelV.d (.slemp _ _))
      | @sl _ _ b o cap hc hz hl hcell hrel=>
        refine .quiet h (Kj (run _ _ _ g q6 u)) ?_;have r : ((xs.drop p).take (q - p)).length = q - p:=by simp;omega
        have l : ∀ (i : Nat) (x : List DV),((xs.drop p).take (q - p))[i]? = some x→xs[p + i]? = some x:=by
          intro i x f;rw [List.getElem?_take] at f;split at f
          · rwa [List.getElem?_drop] at f
          · simp at f
        by_cases s : cap = p
        · rw [qr s];have h9 : (xs.drop p).take (q - p) = []:=List.eq_nil_of_length_eq_zero (by rw [r];omega);have h8 : q - p = 0:=by omega
          rw [h9,h8];exact .d (RelD.sl (es:=es) (xs:=[]) qe qe qe qe qe)
        · rw [qp s,Option.map_some,Ju]
          have e2 : ∀ k j,o + p * i.esize + (k * es + j) = o + ((p + k) * es + j):=by
            intro k j;rw [← he,Nat.add_mul];omega
          have:=RelD.sl (w:=w) (Z:=Z) (es:=es) (xs:=(xs.drop p).take (q - p)) (b:=b) (o:=o + p * i.esize) (cap:=cap - p) (by rw [r];omega) (fun ac=>hz (by rintro rfl;simp at ac)) (fun i x f=>hl _ _ (l i x f))
            (fun k x j d f hd=>by rw [e2];exact hcell _ _ j d (l k x f) hd)
            (fun k x j d c f hd hc=>hrel _ _ j d c (l k x f) hd (by rw [e2] at hc;exact hc))
          rw [r] at this;exact .d this
  case hs m es off len=>
    split at hs <;> simp at hs
    rename_i u;obtain ⟨u,h1,he⟩:=u;subst hs;simp [lenV] at g
    cases h3 with
    | hsnil hm=>
      obtain ⟨rfl,rfl⟩ : q = 0∧p = 0:=by omega
      exact .quiet h (Kj (run _ _ _ g q6 q6)) (by simpa using RelV.hsnil (es:=es) (off:=off) hm)
    | @hs _ _ _ _ cap ad hm hc hsp hcap=>
      refine .quiet h (Kj (run _ _ _ g q6 u)) ?_;by_cases s : cap = p
      · rw [qr s];exact .hs hm q6 hsp (fun ac=>q6)
      · rw [qp s,Option.map_some];obtain ⟨b,o,hi,rfl,ao⟩:=hcap q6;rw [Ju];refine .hs hm q6 rfl fun _=>⟨b,o,hi,?_,?_⟩
        · rw [he,Nat.add_mul,← Nat.add_assoc]
        · rwa [show off + p + (cap - p) = off + cap by omega]
theorem qht {b : Value} {es n i j : Nat} {ds : List DV} (p : b.cells.toList.mapM Zp = some ds) (k : ds.length = es) (hi : i < n) {d : DV} (hd : ds[j]? = some d) :
    ∃ c,((Array.range (n * es)).map (b.cells[· % b.cells.size]!))[i * es + j]? = some c∧RelD w Z d c∧Yi d = true:=by
  obtain ⟨h,l⟩:=q8p (w:=w) (Z:=Z) p;obtain ⟨c,m,o,a,_⟩:=l j d hd;have g : j < es:=by have:=Kd hd;omega
  refine ⟨c,?_,o,a⟩;have f:=q3g hi g;rw [Array.getElem?_map,Array.getElem?_range];simp only [f,if_true,Option.map_some];have : (i * es + j) % b.cells.size = j:=by rw [← h,k,Nat.mul_comm,Nat.mul_add_mod,Nat.mod_eq_of_lt g]
  grind
theorem qv7 {t : TypeId} {i : TI} {l c : Operand} {k1 k2 : IntKind} {n m : Int} (h : RelS w Z inj st a Ds) (ht : tiOf P t = some i) (hk : i.kind = .slice) (hl : st.ev l = some (.d (.int k1 n))) (s : st.ev c = some (.d (.int k2 m)))
    (v : 0≤n) (h1 : n≤m) (r : m * (i.ebytes * 4)≤room) :
    Kk st (st.new (.dat i.esize (List.replicate n.toNat i.ezero))) (.hs st.nx i.esize 0 n.toNat) w Z inj ((do pure (Next.value (← Instr.makeSlice t (a.eval l) (a.eval c))) : Sem Next).run P w):=by
  obtain ⟨y,d,z,k⟩:=Ys ht;have f:=k.kind;unfold Zj at f;simp only [hk] at f;obtain ⟨e,ie,de,ze,rfl,g1,g2,g3,g4,g5,g6,g7,g8,g9,_⟩:=f;have q:=Kb h hl;have p:=Kb h s;generalize a.eval l = vl at q ⊢;generalize a.eval c = vc at p ⊢
  cases q with | d q=>
  cases q
  cases p with | d p=>
  cases p
  have hm : m≤4294967296:=by
    have e1 : (1 : Int)≤(i.ebytes : Int) * 4:=by omega
    have:=Int.mul_le_mul_of_nonneg_left e1 (show (0:Int)≤m by omega);unfold room at r;omega
  have hb : (i.ebytes : Int) * m≤281474976710656:=by
    unfold room at r;grind
  have w1 : IntKind.i64.wrap n = n:=qhq q6;have w2 : IntKind.i64.wrap m = m:=qhq q6;obtain ⟨N,rfl⟩:=Int.eq_ofNat_of_zero_le v;obtain ⟨M,rfl⟩:=Int.eq_ofNat_of_zero_le (show 0≤m by omega);simp only [Int.toNat_natCast];have b:=run_make (P:=P) w t e ie ze k.und g1 g3 k1 k2 (N : Int) (M : Int) v h1 (by rw [g8];exact hb) q6;simp only [Int.toNat_natCast,g6] at b;have u : N≤M:=by omega
  refine .new h (Kj b) ?_ ?_
  · refine ⟨g7,?_,.inr ⟨w.heap.size,0,_,e,Y4 _ _ _,Jv _ _,?_⟩⟩
    · grind
    · intro j x j' d o hd;rw [List.getElem?_replicate] at o;split at o <;> simp at o
      rename_i hj;subst o;obtain ⟨c,s,r,g⟩:=qht (w:=w.alloc (.cells (madeCells ze.cells (M * i.esize)) e)) (Z:=Z) g4 g5 (show j < M by omega) hd;exact ⟨g,c,by rw [Nat.zero_add];exact s,r⟩
  · refine .hs q6 u rfl fun _=>⟨w.heap.size,0,Y4 _ _ _,qe,?_⟩
    exact ⟨_,_,_,Jv _ _,by rw [size_madeCells];simp⟩
def ERel (w : World) (Z : Nat→Prop) (inj : Inj) (nx es : Nat) (xs : List (List V)) (C : Array Value) : Prop:=
  C.size = xs.length * es∧(∀ (i : Nat) (x : List V),xs[i]? = some x→x.length = es)∧
    ∀ (i : Nat) (x : List V) (j : Nat) (d : V),xs[i]? = some x→x[j]? = some d→Kl d = true∧∃ c,C[i * es + j]? = some c∧RelV w Z inj nx d c
theorem qjh {es : Nat} : ∀ {f : List (Nat × V)} {l : List (Nat × List V)},elems es f = some l→l.length = f.length∧∀ (k i : Nat) (v : V),f[k]? = some (i,v)→(cellsOf v).length = es∧(cellsOf v).all Kl = true∧l[k]? = some (i,cellsOf v)
  | [],l,h=>by simp [elems] at h;subst h;simp
  | (i,v)::r,l,h=>by
    simp only [elems] at h
    split at h
    · rename_i l' n
      split at h
      · rename_i g
        simp at h;subst h
        obtain ⟨p,m⟩:=qjh n
        refine ⟨by simp [p],fun k j o d=>?_⟩
        cases k with
        | zero=>simp at d;obtain ⟨rfl,rfl⟩:=d;exact ⟨g.1,g.2,qe⟩
        | succ k=>simp at d;obtain ⟨a,b,c⟩:=m k j o d;exact ⟨a,b,by simpa using c⟩
      · simp at h
    · simp at h
theorem ERel.set {w : World} {nx es : Nat} {xs : List (List V)} {C k : Array Value} {ys : List V} {i : Nat} (h : ERel w Z inj nx es xs C) (n : LRel w Z inj nx ys k) (u : ys.length = es) (m : ys.all Kl = true) (hi : i < xs.length) :
    ERel w Z inj nx es (xs.set i ys) (Am.splice C.toList (i * es) k.toList).toArray:=by
  obtain ⟨p,r,v⟩:=h;have b : k.toList.length = es:=by have:=n.1;simp;omega
  have a : i * es + k.toList.length≤C.toList.length:=by
    rw [b,Array.length_toList,p];have:=Nat.mul_le_mul_right es (show i + 1≤xs.length from hi);rw [Nat.add_mul] at this;omega
  refine ⟨by simp [q26 _ _ _ a,p],?_,?_⟩
  · grind
  · intro j x l d f hd;rw [List.getElem?_set] at f;by_cases g : i = j
    · subst g;rw [qr rfl,qr hi] at f;simp at f;subst f;have s:=Kd hd;obtain ⟨c,o⟩:=Yd (xs:=k) (i:=l) (by have:=n.1;omega);refine ⟨List.all_eq_true.1 m _ (List.mem_of_getElem? hd),c,?_,n.2 _ _ _ hd o⟩;rw [List.getElem?_toArray,U8 _ _ _ _ a,qr (by rw [b];omega),show i * es + l - i * es = l by omega];grind
    · rw [qp g] at f;obtain ⟨q,c,y,t⟩:=v j x l d f hd;refine ⟨q,c,?_,t⟩;rw [List.getElem?_toArray,U8 _ _ _ _ a,qp ?_]
      · grind
      · rw [b];intro o;exact g ((qip (by have:=Kd hd;have:=r j x f;omega)).1 o).symm
theorem qjt {w : World} {nx es : Nat} : ∀ (f : List (Nat × V)) (xs : List (Nat × Value)) (l : List (Nat × List V)) (cs c : List (List V)) (C : Array Value),
    f.length = xs.length→(∀ (k : Nat) (i : Nat) (v : V),f[k]? = some (i,v)→∃ x,xs[k]? = some (i,x)∧RelV w Z inj nx v x)→
    l.length = f.length→(∀ (k : Nat) (i : Nat) (v : V),f[k]? = some (i,v)→(cellsOf v).length = es∧(cellsOf v).all Kl = true∧l[k]? = some (i,cellsOf v))→
    ERel w Z inj nx es cs C→q3i cs l = some c→∃ n,Instr.fill (fun i=>some (i * es,es)) C xs = some n∧ERel w Z inj nx es c n∧c.length = cs.length
  | [],xs,l,cs,c,C,h1,_,h3,_,h5,h6=>by
    have : xs = []:=by cases xs <;> simp_all
    have : l = []:=by cases l <;> simp_all
    subst_vars
    simp [q3i] at h6;subst h6
    exact ⟨C,by simp [Instr.fill],h5,rfl⟩
  | (i,v)::f,xs,l,cs,c,C,h1,h2,h3,h4,h5,h6=>by
    match xs,l,h1,h3 with
    | (i',x)::xs,(o',ys)::l,h1,h3=>
      obtain ⟨x',j,u⟩:=h2 0 i v rfl
      simp at j;obtain ⟨rfl,rfl⟩:=j
      obtain ⟨t,s,g⟩:=h4 0 i' v rfl
      simp at g;obtain ⟨rfl,rfl⟩:=g
      obtain ⟨z,q2,q3⟩:=qc0 u s
      simp only [q3i] at h6
      split at h6
      · rename_i d
        obtain ⟨n,q,h,m⟩:=qjt f xs l (cs.set o' (cellsOf v)) c (splice C.toList (o' * es) x.cells.toList).toArray (by simpa using h1)
          (fun k i v r=>by obtain ⟨x,o⟩:=h2 (k + 1) i v (by simpa using r);exact ⟨x,by simpa using o⟩) (by simpa using h3)
          (fun k i v r=>by obtain ⟨a,b,o⟩:=h4 (k + 1) i v (by simpa using r);exact ⟨a,b,by simpa using o⟩)
          (h5.set ⟨z,q2⟩ t s d) h6
        refine ⟨n,?_,h,by simpa using m⟩
        have y : o' * es + es≤C.size:=by
          rw [h5.1];have:=Nat.mul_le_mul_right es (show o' + 1≤cs.length from d);rw [Nat.add_mul] at this;omega
        have p : x.cells.size = es:=by omega
        simp only [Instr.fill,p]
        have : ¬ ((decide (es≠es) || decide (o' * es + es > C.size)) = true):=by simp;omega
        rw [qp (by simpa using this)]
        rw [qk0 x.cells C (o' * es) q6]
        exact q
      · simp at h6
theorem qut {t : TypeId} {i : TI} {len : Nat} {m : Array (Nat × Operand)} {s : List (Nat × V)} {l : List (Nat × List V)} {xs : List (List V)} (h : RelS w Z inj st a Ds) (ht : tiOf P t = some i) (hv : Ja st.ev m.toList = some s)
    (hl : elems i.esize s = some l) (hk : i.kind = .slice) (aa : len * i.esize≤16777216) (hf : q3i (List.replicate len (i.ezero.map .d)) l = some xs) :
    Kk st (st.new (q5p i.esize xs)) (.hs st.nx i.esize 0 len) w Z inj ((do pure (Next.value (← Instr.buildSlice t len (m.map fun (i,x)=>(i,a.eval x)))) : Sem Next).run P w):=by
  obtain ⟨ah,d,z,k⟩:=Ys ht;have b:=k.kind;unfold Zj at b;simp only [hk] at b;obtain ⟨e,ie,de,q,rfl,g1,g2,g3,g4,g5,g6,g7,g8,g9,_⟩:=b;obtain ⟨p1,p2⟩:=qjr h hv;obtain ⟨q1,q2⟩:=qjh hl;have u : ∀ (k i : Nat) (v : V),s[k]? = some (i,v)→∃ x,(m.toList.map fun (x : Nat × Operand)=>(x.1,a.eval x.2))[k]? = some (i,x)∧RelV w Z inj st.nx v x:=by grind
  have y : ERel w Z inj st.nx i.esize (List.replicate len (i.ezero.map .d)) ((Array.range (len * i.esize)).map (q.cells[· % q.cells.size]!)):=by
    refine ⟨qe,?_,?_⟩
    · grind
    · intro j x j' d g hd;rw [List.getElem?_replicate] at g;split at g <;> simp at g
      rename_i hj;subst g;simp only [List.getElem?_map,Y5] at hd;obtain ⟨d',ad,rfl⟩:=hd;obtain ⟨c,hc,o,f⟩:=qht (w:=w) (Z:=Z) g4 g5 hj ad;exact ⟨f,c,hc,.d o⟩
  obtain ⟨r,hC,o,p⟩:=qjt s (m.toList.map fun (x : Nat × Operand)=>(x.1,a.eval x.2)) l _ xs _ (by simp [p1]) u q1 q2 y hf;have au : Instr.fill (fun j=>some (j * i.esize,i.esize)) ((Array.range (len * i.esize)).map (q.cells[· % q.cells.size]!)) (m.map fun (x : Nat × Operand)=>(x.1,a.eval x.2)).toList = some r:=by simpa using hC
  have n : (Instr.buildSlice t len (m.map fun (i,x)=>(i,a.eval x))).run P w = .ok (.slice (some ⟨w.heap.size,0,none⟩) len len) (w.alloc (.cells r e)):=by
    have hn : ¬ (len * i.esize > 2 ^ 24):=by omega
    have af : (do let x ← newRow e r;pure (Value.slice (some x) len len) : Sem Value).run P w = .ok (.slice (some ⟨w.heap.size,0,none⟩) len len) (w.alloc (.cells r e)):=by simp [newRow]
    by_cases hz : len * i.esize = 0
    · simp only [Instr.buildSlice,Sem.run_bind,run_underlying k.und,Result.andThen_ok,Zh g1,g6];grind
    · simp only [Instr.buildSlice,Sem.run_bind,run_underlying k.und,Result.andThen_ok,Zh g1,g6];rw [qp hn,qp hz];have az : (zeroValue e).run P w = .ok q w:=by simp [zeroValue,typeInfo,g1,g3]
      simp_all
  have ab : xs.length = len:=by simpa using p
  refine .new h (Kj n) ?_ ?_
  · refine qmv g7 (Y4 _ _ _) (Jv _ _) o.2.1 ?_;intro j x j' d g hd;obtain ⟨h1,c,h2,h3⟩:=o.2.2 j x j' d g hd;exact ⟨h1,c,h2,qmz h _ h3⟩
  · refine .hs q6 (Nat.le_refl _) rfl fun _=>⟨w.heap.size,0,Y4 _ _ _,qe,?_⟩
    exact ⟨_,_,_,Jv _ _,by rw [o.1,ab];simp⟩
end
end Go.Am
