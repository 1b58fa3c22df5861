/- Am6 Am7 Am8 Am9 Am10 Am11 Am12 -/
import Derived.Test.YtmekakoiicomaaaGreatK1
import Derived.Laws.MakeOwn
namespace Go.Am
open Go
variable {P : Program} {T : Tab}
theorem q9x {α β : Type} {f : α→Option β} : ∀ {l : List α} {r : List β},l.mapM f = some r→r.length = l.length∧∀ (i : Nat) (x : α),l[i]? = some x→∃ y,r[i]? = some y∧f x = some y
  | [],r,h=>by simp at h;subst h;simp
  | a::l,r,h=>by
    rw [List.mapM_cons] at h
    cases c : f a with
    | none=>simp [c] at h
    | some b=>
      cases g : l.mapM f with
      | none=>simp [c,g] at h
      | some s=>
        simp [c,g] at h
        subst h
        obtain ⟨m,j⟩:=q9x g
        refine ⟨by simp [m],?_⟩
        intro i x d
        cases i with
        | zero=>simp at d;subst d;exact ⟨b,qg,c⟩
        | succ i=>simp at d;obtain ⟨y,k⟩:=j i x d;exact ⟨y,by simpa using k⟩
theorem Yp {α β : Type} {l : List α} {r : List β} (a : r.length = l.length) {i : Nat} {y : β} (h : r[i]? = some y) : ∃ x,l[i]? = some x:=
  J2 (by have:=Kj h;omega)
def Zr (P : Program) (_t : TypeId) (i : TI) (d : TypeDesc) : Prop:=match i.kind with
  | .bool=>d = .bool∧i.size = 1
  | .int k=>d = .int k∧i.size = 1
  | .str=>d = .string∧i.size = 1
  | .ptr=>(∃ e,d = .pointer e)∧i.size = 1
  | .func=>(∃ a b c,d = .func a b c)∧i.size = 1
  | .slice=>∃ e ie de ze,d = .slice e∧P.info? e = some ie∧P.underlying e = some de∧ie.zero = some ze∧ze.cells.toList.mapM Js = some i.ezero∧i.ezero.length = i.esize∧ie.size = i.esize∧i.esize≠0∧
      ie.bytes = i.ebytes∧i.ebytes≠0∧Yo de = i.eagg∧i.size = 1
  | .array=>∃ e ie de,d = .array i.len e∧P.info? e = some ie∧P.underlying e = some de∧ie.size = i.esize∧i.esize≠0∧Yo de = i.eagg
  | .struct=>∃ fs,d = .struct fs∧(fs.toList.mapM fun f=>do
      let jf ← P.info? f.type
      let df ← P.underlying f.type
      if jf.size = 0 then none else some (f.offset,jf.size,Yo df)) = some i.flds
structure TiOk (P : Program) (t : TypeId) (i : TI) (info : TypeInfo) (d : TypeDesc) (z : Value) : Prop where
  inf : P.info? t = some info
  und : P.underlying t = some d
  zero : info.zero = some z
  size : info.size = i.size
  pos : i.size≠0
  cells : z.cells.toList.mapM Js = some i.zero
  len : i.zero.length = i.size
  agg : i.agg = Yo d
  kind : Zr P t i d
  eqs : ∀ ks,i.eqs = some ks→Zf P 8 t = some ks∧Yo d = true
theorem Yx {t : TypeId} {i : TI} (h : tiOf P t = some i) : ∃ g d z,TiOk P t i g d z:=by
  unfold tiOf at h
  cases l : P.info? t with
  | none=>simp [l] at h
  | some g=>
  cases m : P.underlying t with
  | none=>simp [l,m] at h
  | some d=>
  cases o : g.zero with
  | none=>simp [l,m,o] at h
  | some z=>
  cases p : z.cells.toList.mapM Js with
  | none=>simp [l,m,o,p] at h
  | some zc=>
  simp only [l,m,o,p,Option.bind_eq_bind,qn] at h;by_cases x : zc.length≠g.size∨g.size = 0
  · simp [x] at h
  · rw [Q2 x] at h;have s : zc.length = g.size:=by omega
    have r : g.size≠0:=by omega
    refine ⟨g,d,z,?_⟩;cases d <;> simp only [reduceCtorEq] at h
    case bool=>split at h <;> simp at h;subst h;rename_i hs;exact ⟨l,m,o,rfl,r,p,s,rfl,⟨rfl,hs⟩,qg⟩
    case int k=>split at h <;> simp at h;subst h;rename_i hs;exact ⟨l,m,o,rfl,r,p,s,rfl,⟨rfl,hs⟩,qg⟩
    case string=>split at h <;> simp at h;subst h;rename_i hs;exact ⟨l,m,o,rfl,r,p,s,rfl,⟨rfl,hs⟩,qg⟩
    case pointer e=>split at h <;> simp at h;subst h;rename_i hs;exact ⟨l,m,o,rfl,r,p,s,rfl,⟨⟨_,rfl⟩,hs⟩,qg⟩
    case func a b c=>split at h <;> simp at h;subst h;rename_i hs;exact ⟨l,m,o,rfl,r,p,s,rfl,⟨⟨_,_,_,rfl⟩,hs⟩,qg⟩
    case slice e=>
      cases j : P.info? e with
      | none=>simp [j] at h
      | some ie=>
      cases q : P.underlying e with
      | none=>simp [j,q] at h
      | some de=>
      cases u : ie.zero with
      | none=>simp [j,q,u] at h
      | some ze=>
      cases w : ze.cells.toList.mapM Js with
      | none=>simp [j,q,u,w] at h
      | some ezc=>
      simp only [j,q,u,w,qn] at h;split at h
      · simp at h
      · rename_i hs;simp at h;subst h;exact ⟨l,m,o,rfl,r,p,s,rfl,⟨e,ie,de,ze,rfl,j,q,u,w,by show ezc.length = ie.size;omega,rfl,by show ie.size≠0;omega,rfl,by show ie.bytes≠0;omega,rfl,by show g.size = 1;omega⟩,by simp⟩
    case array n e=>
      cases j : P.info? e with
      | none=>simp [j] at h
      | some ie=>
      cases q : P.underlying e with
      | none=>simp [j,q] at h
      | some de=>
      simp only [j,q,qn] at h;split at h
      · simp at h
      · rename_i hs;simp at h;subst h;exact ⟨l,m,o,rfl,r,p,s,rfl,⟨e,ie,de,rfl,j,q,rfl,hs,rfl⟩,fun ks h=>⟨h,rfl⟩⟩
    case struct fs=>
      cases j : (fs.toList.mapM fun f=>do
          let y ← P.info? f.type
          let df ← P.underlying f.type
          if y.size = 0 then none else some (f.offset,y.size,Yo df)) with
      | none=>simp only [Option.bind_eq_bind] at j;simp only [j,Option.bind_none] at h;simp at h
      | some fl=>
        have v:=j;simp only [Option.bind_eq_bind] at j;simp only [j,qn] at h;simp at h;subst h;exact ⟨l,m,o,rfl,r,p,s,rfl,⟨fs,rfl,v⟩,fun ks h=>⟨h,rfl⟩⟩
section
variable {w : World} {Z : Nat→Prop} {inj : Inj} {nx : Nat}
theorem qkg {v : Value} {d : DV} (h : Js v = some d) : RelD w Z d v∧Zv d = true∧v.oneCell' = true:=by
  unfold Js at h;split at h <;> simp at h <;> subst h
  · exact ⟨.int _ _,rfl,rfl⟩
  · exact ⟨.bool _,rfl,rfl⟩
  · exact ⟨.str _,rfl,rfl⟩
  · exact ⟨.nilp,rfl,rfl⟩
  · exact ⟨.nilsl,rfl,rfl⟩
  · exact ⟨.nilf,rfl,rfl⟩
theorem q9b {cs : Array Value} {ds : List DV} (h : cs.toList.mapM Js = some ds) : ds.length = cs.size∧∀ (i : Nat) (d : DV),ds[i]? = some d→∃ c,cs[i]? = some c∧RelD w Z d c∧Zv d = true∧c.oneCell' = true:=by
  obtain ⟨b,j⟩:=q9x h;refine ⟨by simpa using b,fun i d hd=>?_⟩;obtain ⟨c,f⟩:=Yp b hd;obtain ⟨y,a,g⟩:=j i c f;rw [hd] at a;cases a;exact ⟨c,by simpa using f,qkg g⟩
theorem qsr {v : Value} {d : DV} (h : qdj v = some d) : RelD w Z d v:=by
  unfold qdj at h;split at h
  · rename_i cs
    cases a : cs.toList.mapM Js with
    | none=>simp [a] at h
    | some ds=>
      simp [a] at h;subst h;obtain ⟨b,f⟩:=q9b (w:=w) (Z:=Z) a;refine .agg b fun i d c hd g=>?_;grind
  · exact (qkg h).1
theorem Ki {st : AS} {a : Act} {Ds : List Nat} (h : RelS w Z inj st a Ds) {o : Operand} {v : V} (b : st.ev o = some v) : RelV w Z inj st.nx v (a.eval o):=by
  cases o with
  | tmp t=>
    obtain ⟨x,l,k⟩:=h.slots t v b;simp only [Act.eval,Array.getD_eq_getD_getElem?,l,Option.getD_some];exact k
  | const c=>
    simp only [AS.ev] at b
    cases j : qdj c with
    | none=>simp [j] at b
    | some d=>simp [j] at b;subst b;exact .d (qsr j)
  | func f=>
    simp only [AS.ev] at b;cases b;exact .d (.fn qg qg)
  | global g=>simp [AS.ev] at b
theorem q42 {a : List V} {ds : List DV} (h : allD a = some ds) : a = ds.map .d:=by
  induction a generalizing ds with
  | nil=>simp [allD] at h;subst h;rfl
  | cons v r ih=>
    cases v <;> simp only [allD,reduceCtorEq] at h
    grind
theorem qft (ds : List DV) : allD (ds.map .d) = some ds:=by
  induction ds with
  | nil=>rfl
  | cons d r ih=>simp [allD,ih]
theorem qht {d : V} {c : Value} (h : RelV w Z inj nx d c) (a : Kt d = true) : c.oneCell' = true:=by
  cases h with
  | d h=>cases h <;> simp_all [Kt,Zv,Value.oneCell']
  | _=>simp_all [Kt,Value.oneCell']
theorem qrr {c : Value} (h : c.oneCell' = true) : c.cells = #[c]:=by cases c <;> simp_all [Value.oneCell',Value.cells]
theorem qdh {v : V} {x : Value} (h : RelV w Z inj nx v x) (f : (cellsOf v).all Kt = true) :
    (cellsOf v).length = x.cells.size∧(∀ (i : Nat) (d : V) (c : Value),(cellsOf v)[i]? = some d→x.cells[i]? = some c→RelV w Z inj nx d c)∧∀ c∈x.cells.toList,c.oneCell' = true:=by
  have fin : ∀ (l : List V) (cs : Array Value),l.length = cs.size→(∀ (i : Nat) (d : V) (c : Value),l[i]? = some d→cs[i]? = some c→RelV w Z inj nx d c)→l.all Kt = true→∀ c∈cs.toList,c.oneCell' = true:=by
    intro l cs j g k c q;obtain ⟨i,hi,rfl⟩:=List.mem_iff_getElem.1 q;simp at hi;have n : l[i]? = some l[i]:=List.getElem?_eq_getElem q6;have m : cs[i]? = some cs[i]:=Array.getElem?_eq_getElem hi;have:=qht (g i _ _ n m) (List.all_eq_true.1 k _ (Kf _));simpa using this
  have one : ∀ {v : V} {x : Value},RelV w Z inj nx v x→cellsOf v = [v]→(cellsOf v).all Kt = true→(cellsOf v).length = x.cells.size∧(∀ (i : Nat) (d : V) (c : Value),(cellsOf v)[i]? = some d→x.cells[i]? = some c→RelV w Z inj nx d c)∧∀ c∈x.cells.toList,c.oneCell' = true:=by
    intro v x h r k;rw [r] at k ⊢;have n : Kt v = true:=by simpa using k
    have m:=qht h n;rw [qrr m];refine ⟨rfl,?_,by simpa using m⟩;intro i d c hd f
    cases i with
    | zero=>simp at hd f;subst hd f;exact h
    | succ i=>simp at hd
  cases h with
  | agg j g=>exact ⟨j,g,fin _ _ j g f⟩
  | d h=>
    cases h with
    | agg j g=>
      have n : (cellsOf (V.d (.agg ‹List DV›))).length = (Value.agg ‹Array Value›).cells.size:=by simpa [cellsOf,Value.cells] using j
      have m : ∀ (i : Nat) (d : V) (c : Value),(cellsOf (V.d (.agg ‹List DV›)))[i]? = some d→(Value.agg ‹Array Value›).cells[i]? = some c→RelV w Z inj nx d c:=by
        intro i d c hd f;simp only [cellsOf,List.getElem?_map,Yc] at hd;obtain ⟨p,o,rfl⟩:=hd;exact .d (g i p c o f)
      exact ⟨n,m,fin _ _ n m f⟩
    | int=>exact one (.d (.int _ _)) rfl f
    | bool=>exact one (.d (.bool _)) rfl f
    | str=>exact one (.d (.str _)) rfl f
    | tup j g=>exact one (.d (.tup j g)) rfl f
    | fn j g=>exact one (.d (.fn j g)) rfl f
    | bfn j g=>exact one (.d (.bfn j g)) rfl f
    | nilsl=>exact one (.d .nilsl) rfl f
    | slnil=>exact one (.d (.slnil _)) rfl f
    | slemp=>exact one (.d (.slemp _ _)) rfl f
    | sl a b c d e=>exact one (.d (.sl a b c d e)) rfl f
    | nilp=>exact one (.d .nilp) rfl f
    | nilf=>exact one (.d .nilf) rfl f
    | box a b c=>exact one (.d (.box a b c)) rfl f
  | tup j g=>exact one (.tup j g) rfl f
  | fn j g=>exact one (.fn j g) rfl f
  | ref a b=>exact one (.ref a b) rfl f
  | dref a b c=>exact one (.dref a b c) rfl f
  | hsnil a=>exact one (.hsnil a) rfl f
  | hs a b c d=>exact one (.hs a b c d) rfl f
  | yld a b=>exact one (.yld a b) rfl f
  | dead v=>simp [cellsOf,Kt] at f
theorem qhi {cs : List V} {xs : Array Value} (a : cs.length = xs.size) (h : ∀ (i : Nat) (d : V) (c : Value),cs[i]? = some d→xs[i]? = some c→RelV w Z inj nx d c) : RelV w Z inj nx (q6q cs) (.agg xs):=by
  unfold q6q;split
  · rename_i ds hd;have:=q42 hd;subst this;refine .d (.agg (by simpa using a) fun i d c f b=>?_);have:=h i (.d d) c (by simp [f]) b
    cases this with | d h=>exact h
  · exact .agg a h
def qqk (w : World) (Z : Nat→Prop) (inj : Inj) (nx : Nat) (v : V) : Bool→List Value→Prop
  | true,xs=>RelV w Z inj nx v (.agg xs.toArray)
  | false,[x]=>RelV w Z inj nx v x
  | false,_=>False
theorem qns {b : Bool} {cs : List V} {v : V} {xs : List Value} (hp : pack b cs = some v) (a : cs.length = xs.length) (h : ∀ (i : Nat) (d : V) (c : Value),cs[i]? = some d→xs[i]? = some c→RelV w Z inj nx d c) :
    qqk w Z inj nx v b xs:=by
  cases b with
  | true=>
    simp only [pack,Option.some.injEq] at hp;subst hp;exact qhi (by simpa using a) (fun i d c g f=>h i d c g (by simpa using f))
  | false=>
    match cs,xs,hp,a with
    | [c],[x],hp,_=>simp only [pack,Option.some.injEq] at hp;subst hp;exact h 0 _ _ rfl rfl
    | [c],[],_,a=>simp at a
    | [c],_::_::_,_,a=>simp at a
theorem qhw (a : Bool) (cs : List DV) : (q1n a cs).map V.d = pack a (cs.map .d):=by
  cases a with
  | true=>simp [q1n,pack,q6q,qft]
  | false=>match cs with
    | []=>rfl
    | [c]=>rfl
    | _::_::_=>rfl
theorem qpx {α : Type} {cs r : List α} {j s : Nat} (h : sub cs j s = some r) : j + s≤cs.length∧r = (cs.drop j).take s:=by
  unfold sub at h;split at h <;> simp at h;exact ⟨‹_›,h.symm⟩
theorem qd3 {α : Type} {cs r : List α} {j s : Nat} (h : sub cs j s = some r) : r.length = s∧∀ (i : Nat) (x : α),r[i]? = some x→cs[j + i]? = some x∧i < s:=by
  obtain ⟨a,rfl⟩:=qpx h;grind
theorem Uf (b o j : Nat) : (⟨b,o,none⟩ : Addr).add j = ⟨b,o + j,none⟩:=by
  unfold Addr.add;split <;> simp_all
theorem qv3 {t : TypeId} {i : TI} {l : TypeInfo} {d : TypeDesc} {z : Value} (m : TiOk P t i l d z) {b o : Nat} {r : List V} {v : V} (hp : pack i.agg r = some v) (hr : r.length = i.size)
    (hc : ∀ (k : Nat) (x : V),r[k]? = some x→∃ c,w.cell? ⟨b,o + k,none⟩ = some c∧RelV w Z inj nx x c) :
    ∃ x,(Instr.loadAt t (.pointer (some ⟨b,o,none⟩))).run P w = .ok x w∧RelV w Z inj nx v x:=by
  have n : ∃ cs : List Value,cs.length = i.size∧∀ (k : Nat) (c : Value),cs[k]? = some c→w.cell? ⟨b,o + k,none⟩ = some c:=by
    refine ⟨(List.range i.size).map fun k=>(w.cell? ⟨b,o + k,none⟩).getD undef,qg,?_⟩;intro k c s;have q : k < i.size:=by have:=Kj s;simpa using this
    obtain ⟨x,hx⟩:=J2 (xs:=r) (i:=k) q6;grind
  obtain ⟨cs,p,a⟩:=n;have h : ∀ (i : Nat) (d : V) (c : Value),r[i]? = some d→cs[i]? = some c→RelV w Z inj nx d c:=by grind
  have f:=qns hp (by omega : r.length = cs.length) h
  have g : (isAgg t).run P w = .ok i.agg w:=by
    rw [m.agg];simp only [isAgg,Sem.run_bind,run_underlying m.und,Result.andThen_ok];cases d <;> rfl
  cases hb : i.agg with
  | true=>
    rw [hb] at f;refine ⟨.agg cs.toArray,?_,f⟩;have u:=run_loadCells_list (P:=P) w ⟨b,o,none⟩ cs (fun j v y=>by rw [Uf];exact a j v y);simp [Instr.loadAt,Instr.sureAddr,loadVar,g,hb,sizeOf,typeInfo,m.inf,m.size,← p,u]
  | false=>
    rw [hb] at f
    match cs,p,a,f with
    | [x],_,a,f=>
      refine ⟨x,?_,f⟩;have:=a 0 x rfl;simp only [Nat.add_zero] at this;simp [Instr.loadAt,Instr.sureAddr,loadVar,g,hb,this]
end
end Go.Am
namespace Go.Am
open Go
variable {P : Program} {T : Tab}
def Y6 (st st1 : AS) (v : V) (w : World) (Z : Nat→Prop) (inj : Inj) (r : Result Next) : Prop:=
  ∃ x w' inj',(r = .ok (.value x) w'∨(r = .ok .skip w'∧x = undef))∧RelV w' Z inj' st1.nx v x∧RelH w' Z inj' st1.hp st1.nx∧Ext w Z inj st.hp w' Z inj' st1.hp st.nx∧st1.sl = st.sl∧st.nx≤st1.nx
section
variable {w : World} {Z : Nat→Prop} {inj : Inj} {st : AS} {a : Act} {Ds : List Nat}
theorem Y6.quiet {v : V} {x : Value} {r : Result Next} (h : RelS w Z inj st a Ds) (c : r = .ok (.value x) w) (b : RelV w Z inj st.nx v x) : Y6 st st v w Z inj r:=
  ⟨x,w,inj,.inl c,b,h.heap,.refl,rfl,Nat.le_refl _⟩
theorem Ks {s : Sem Value} {x : Value} {w' : World} (h : s.run P w = .ok x w') : (do pure (Next.value (← s)) : Sem Next).run P w = .ok (.value x) w':=by
  simp [h]
theorem Y6.new {v : V} {x : Value} {r : Result Next} {o : Obj} {blk : Blk} (h : RelS w Z inj st a Ds) (d : r = .ok (.value x) (w.alloc o))
    (hb : RelB (w.alloc o) Z (upd inj st.nx (some (w.heap.size,0))) (st.nx + 1) st.nx blk)
    (c : RelV (w.alloc o) Z (upd inj st.nx (some (w.heap.size,0))) (st.nx + 1) v x) (b : Unfr o:=by first | exact rfl | exact trivial) : Y6 st (st.new blk) v w Z inj r:=
  ⟨x,_,_,.inl d,c,h.heap.new o blk 0 hb,Ext.new h.heap o blk 0 b,rfl,by simp [AS.new]⟩
theorem qol {v : V} {x : Value} (h : RelS w Z inj st a Ds) (o : Obj) (c : RelV w Z inj st.nx v x) : RelV (w.alloc o) Z (upd inj st.nx (some (w.heap.size,0))) (st.nx + 1) v x:=
  c.mono (fun _ d=>Ja w o (h.heap.zs _ d)) (fun _ h=>h) (q3c w o) (fun _ b=>Yl _ _ b) q6
theorem qoi {w : World} {nx n es : Nat} {xs : List (List V)} {arr : Array Value} {ty : TypeId} {b : Nat} (s : es≠0) (hi : inj n = some (b,0)) (hb : w.heap[b]? = some (.cells arr ty (0,0)))
    (q : ∀ (i : Nat) (x : List V),xs[i]? = some x→x.length = es)
    (h : ∀ (i : Nat) (x : List V) (j : Nat) (d : V),xs[i]? = some x→x[j]? = some d→Kt d = true∧∃ c,arr[i * es + j]? = some c∧RelV w Z inj nx d c) : RelB w Z inj nx n (q6r es xs):=by
  unfold q6r;split
  · rename_i ys u;obtain ⟨t,r⟩:=q9x u;refine ⟨s,?_,.inr ⟨b,0,arr,ty,hi,hb,?_⟩⟩
    · intro i y f;obtain ⟨x,g⟩:=Yp t f;obtain ⟨v,a,hd⟩:=r i x g;rw [f] at a;cases a;have:=q i x g;rw [q42 hd] at this;simpa using this
    · intro i y j d f k;obtain ⟨x,g⟩:=Yp t f;obtain ⟨v,a,hd⟩:=r i x g;rw [f] at a;cases a;have l:=q42 hd;obtain ⟨m,c,o,p⟩:=h i x j (.d d) g (by rw [l];simp [k]);refine ⟨m,c,by simpa using o,?_⟩
      cases p with | d h=>exact h
  · refine ⟨s,q,.inr ⟨b,0,arr,ty,hi,hb,?_⟩⟩;intro i x j d g hd;obtain ⟨m,c,o,p⟩:=h i x j d g hd;exact ⟨m,c,by simpa using o,p⟩
theorem qnp {o : Operand} {v : V} (h : RelS w Z inj st a Ds) (b : st.ev o = some v) {r : Result Next} (c : r = .ok (.value (a.eval o)) w) : Y6 st st v w Z inj r:=
  .quiet h c (Ki h b)
theorem qxl {t : TypeId} {i : TI} (h : RelS w Z inj st a Ds) (q : tiOf P t = some i) :
    Y6 st (st.new (.dat i.size [i.zero])) (.ref st.nx i.size 0 0) w Z inj ((do pure (Next.value (← Instr.alloc t true (.tuple #[]))) : Sem Next).run P w):=by
  obtain ⟨m,d,z,k⟩:=Yx q
  have g : (Instr.alloc t true (.tuple #[])).run P w = .ok (.pointer (some ⟨w.heap.size,0,none⟩)) (w.alloc (.cells z.cells t)):=by
    simp [Instr.alloc,zeroValue,typeInfo,k.inf,k.zero,newVar,newRow]
  obtain ⟨s,o⟩:=q9b (w:=w.alloc (.cells z.cells t)) (Z:=Z) k.cells;refine .new h (Ks g) ?_ ?_
  · refine ⟨k.pos,?_,.inr ⟨w.heap.size,0,z.cells,t,Yf _ _ _,q16 _ _,?_⟩⟩
    · intro l x b
      cases l with
      | zero=>simp at b;subst b;exact k.len
      | succ n=>simp at b
    · intro l x j d b hd
      cases l with
      | zero=>
        simp at b;subst b;obtain ⟨c,r,p,f,_⟩:=o j d hd;exact ⟨f,c,by simpa using r,p⟩
      | succ n=>simp at b
  · have:=RelV.ref (w:=w.alloc (.cells z.cells t)) (Z:=Z) (inj:=upd inj st.nx (some (w.heap.size,0))) (nx:=st.nx + 1) (n:=st.nx) (es:=i.size) (i:=0) (j:=0) q6 (Yf _ _ _);simpa using this
theorem qxp {t : TypeId} {i : TI} {o : Operand} {v : V} (h : RelS w Z inj st a Ds) (y : tiOf P t = some i) (hv : st.ev o = some v) (s : (cellsOf v).length = i.size) (q : (cellsOf v).all Kt = true) :
    Y6 st (st.new (q6r i.size [cellsOf v])) (.ref st.nx i.size 0 0) w Z inj ((do pure (Next.value (← Instr.box t (a.eval o))) : Sem Next).run P w):=by
  obtain ⟨r,d,z,k⟩:=Yx y;have f:=Ki h hv
  have g : (Instr.box t (a.eval o)).run P w = .ok (.pointer (some ⟨w.heap.size,0,none⟩)) (w.alloc (.cells (a.eval o).cells t)):=by
    simp [Instr.box,newVar,newRow]
  have m:=qol h (.cells (a.eval o).cells t) f;obtain ⟨h1,u,_⟩:=qdh m q;refine .new h (Ks g) ?_ ?_
  · refine qoi (b:=w.heap.size) (arr:=(a.eval o).cells) (ty:=t) k.pos (Yf _ _ _) (q16 _ _) ?_ ?_
    · intro p x f
      cases p with
      | zero=>simp at f;subst f;exact s
      | succ n=>simp at f
    · intro p x j d f hd
      cases p with
      | zero=>
        simp at f;subst f;obtain ⟨c,l⟩:=Yg (xs:=(a.eval o).cells) (i:=j) (by have:=Kj hd;omega);exact ⟨List.all_eq_true.1 q _ (List.mem_of_getElem? hd),c,by simpa using l,u j d c hd l⟩
      | succ n=>simp at f
  · have:=RelV.ref (w:=w.alloc (.cells (a.eval o).cells t)) (Z:=Z) (inj:=upd inj st.nx (some (w.heap.size,0))) (nx:=st.nx + 1) (n:=st.nx) (es:=i.size) (i:=0) (j:=0) q6 (Yf _ _ _);simpa using this
theorem q32 {α : Type} (cs ys : List α) (o : Nat) (h : o + ys.length≤cs.length) : (splice cs o ys).length = cs.length:=by simp [splice];omega
theorem q12 {α : Type} (cs ys : List α) (o j : Nat) (h : o + ys.length≤cs.length) : (splice cs o ys)[j]? = if o≤j∧j < o + ys.length then ys[j - o]? else cs[j]?:=by
  have e : (cs.take o).length = o:=by simp;omega
  by_cases a : j < o
  · rw [Q2 q6,splice,List.append_assoc,List.getElem?_append_left q6,List.getElem?_take,Q1 a]
  · by_cases b : j < o + ys.length
    · rw [Q1 q6,splice,List.append_assoc,List.getElem?_append_right q6,e,List.getElem?_append_left q6]
    · rw [Q2 q6,splice,List.getElem?_append_right (by simp;omega),List.getElem?_drop];congr 1;rw [List.length_append,e];omega
theorem qlb (off : Nat) : ∀ (l : List Value) (s : Nat) (cs : Array Value),off + s + l.length≤cs.size→
    ((l.zipIdx s).foldl (fun (cs : Array Value) (x : Value × Nat)=>cs.setIfInBounds (off + x.2) x.1) cs).size = cs.size∧
    ∀ j : Nat,((l.zipIdx s).foldl (fun (cs : Array Value) (x : Value × Nat)=>cs.setIfInBounds (off + x.2) x.1) cs)[j]? = if off + s≤j∧j < off + s + l.length then l[j - (off + s)]? else cs[j]?
  | [],s,cs,_=>by
    refine ⟨rfl,fun j=>?_⟩
    have : ¬ (off + s≤j∧j < off + s + ([] : List Value).length):=by simp
    rw [Q2 this];rfl
  | v::r,s,cs,h=>by
    obtain ⟨g,f⟩:=qlb off r (s + 1) (cs.setIfInBounds (off + s) v) (by simp at h ⊢;omega)
    simp only [List.zipIdx_cons,List.foldl_cons]
    refine ⟨by rw [g];simp,fun j=>?_⟩
    rw [f j]
    simp only [List.length_cons] at h ⊢
    by_cases b : off + (s + 1)≤j∧j < off + (s + 1) + r.length
    · have a : off + s≤j∧j < off + s + (r.length + 1):=by omega
      rw [Q1 b,Q1 a,show j - (off + s) = (j - (off + (s + 1))) + 1 by omega,List.getElem?_cons_succ]
    · rw [Q2 b,Array.getElem?_setIfInBounds]
      by_cases c : off + s = j
      · have a : off + s≤j∧j < off + s + (r.length + 1):=by omega
        have d : j < cs.size:=by omega
        rw [Q1 c,Q1 a,Q1 q6,show j - (off + s) = 0 by omega]
        rfl
      · have a : ¬ (off + s≤j∧j < off + s + (r.length + 1)):=by omega
        rw [Q2 c,Q2 a]
theorem qlc (a cs : Array Value) (off : Nat) (h : off + a.size≤cs.size) :
    a.zipIdx.foldl (fun (cs : Array Value) (x : Value × Nat)=>cs.setIfInBounds (off + x.2) x.1) cs = (splice cs.toList off a.toList).toArray:=by
  rw [← Array.foldl_toList,Array.toList_zipIdx];obtain ⟨c,b⟩:=qlb off a.toList 0 cs (by simpa using h);have hs:=q32 cs.toList a.toList off (by simpa using h);apply Array.ext';apply List.ext_getElem?;intro j;rw [Array.getElem?_toList,b j,q12 _ _ _ _ (by simpa using h)];simp
def LRel (w : World) (Z : Nat→Prop) (inj : Inj) (nx : Nat) (cs : List V) (xs : Array Value) : Prop:=
  cs.length = xs.size∧∀ (i : Nat) (d : V) (c : Value),cs[i]? = some d→xs[i]? = some c→RelV w Z inj nx d c
theorem LRel.splice {w : World} {nx : Nat} {cs ys : List V} {xs g : Array Value} {o : Nat} (h : LRel w Z inj nx cs xs) (k : LRel w Z inj nx ys g) (j : o + ys.length≤cs.length) :
    LRel w Z inj nx (Am.splice cs o ys) (Am.splice xs.toList o g.toList).toArray:=by
  have l:=h.1;have m:=k.1;have f : o + g.toList.length≤xs.toList.length:=by simp;omega
  refine ⟨by simp [q32 _ _ _ j,q32 _ _ _ f,h.1],fun i d c hd b=>?_⟩;rw [q12 _ _ _ _ j] at hd;rw [List.getElem?_toArray,q12 _ _ _ _ f] at b;have e : g.toList.length = ys.length:=by simp;omega
  rw [e] at b;split at hd
  · rename_i a;rw [Q1 a] at b;exact k.2 _ _ _ hd (by simpa using b)
  · rename_i a;rw [Q2 a] at b;exact h.2 _ _ _ hd (by simpa using b)
theorem ql0 {c : List (Nat × Operand)} {d : List (Nat × V)} (h : RelS w Z inj st a Ds) (hp : Jw st.ev c = some d) :
    d.length = c.length∧∀ (k : Nat) (i : Nat) (v : V),d[k]? = some (i,v)→∃ o,c[k]? = some (i,o)∧RelV w Z inj st.nx v (a.eval o):=by
  induction c generalizing d with
  | nil=>simp [Jw] at hp;subst hp;simp
  | cons x r ih=>
    obtain ⟨i,o⟩:=x;simp only [Jw] at hp
    cases f : st.ev o with
    | none=>simp [f] at hp
    | some v=>
      cases g : Jw st.ev r with
      | none=>simp [f,g] at hp
      | some l=>
        simp [f,g] at hp;subst hp;obtain ⟨p,s⟩:=ih g;refine ⟨by simp [p],fun k t m b=>?_⟩
        cases k with
        | zero=>simp at b;obtain ⟨rfl,rfl⟩:=b;exact ⟨o,qg,Ki h f⟩
        | succ k=>simp at b;obtain ⟨q,j,n⟩:=s k t m b;exact ⟨q,by simpa using j,n⟩
theorem q4a {os : List Operand} {j : List V} (h : RelS w Z inj st a Ds) (hp : evL st.ev os = some j) : LRel w Z inj st.nx j (os.map a.eval).toArray:=by
  induction os generalizing j with
  | nil=>simp [evL] at hp;subst hp;exact ⟨qg,qg⟩
  | cons o r ih=>
    simp only [evL] at hp
    cases b : st.ev o with
    | none=>simp [b] at hp
    | some v=>
      cases g : evL st.ev r with
      | none=>simp [b,g] at hp
      | some l=>
        simp [b,g] at hp;subst hp;obtain ⟨m,n⟩:=ih g;refine ⟨by simpa using m,fun k d c hd f=>?_⟩
        cases k with
        | zero=>simp at hd f;subst hd f;exact Ki h b
        | succ k=>simp at hd f;exact n k d c hd (by simpa using f)
theorem qgn {w : World} {nx : Nat} (place : Nat→Option (Nat × Nat)) : ∀ (b : List (Nat × V)) (xs : List (Nat × Value)) (l : List (Nat × List V)) (cs a : List V) (C : Array Value),
    b.length = xs.length→(∀ (k : Nat) (i : Nat) (v : V),b[k]? = some (i,v)→∃ x,xs[k]? = some (i,x)∧RelV w Z inj nx v x)→
    l.length = b.length→(∀ (k : Nat) (i : Nat) (v : V),b[k]? = some (i,v)→∃ o s,place i = some (o,s)∧(cellsOf v).length = s∧(cellsOf v).all Kt = true∧l[k]? = some (o,cellsOf v))→
    LRel w Z inj nx cs C→q6h cs l = some a→∃ h,Instr.fill place C xs = some h∧LRel w Z inj nx a h
  | [],xs,l,cs,a,C,h1,_,h3,_,h5,h6=>by
    have : xs = []:=by cases xs <;> simp_all
    have : l = []:=by cases l <;> simp_all
    subst_vars
    simp [q6h] at h6;subst h6
    exact ⟨C,by simp [Instr.fill],h5⟩
  | (i,v)::b,xs,l,cs,a,C,h1,h2,h3,h4,h5,h6=>by
    match xs,l,h1,h3 with
    | (i',x)::xs,(o',ys)::l,h1,h3=>
      obtain ⟨x',c,t⟩:=h2 0 i v rfl
      simp at c;obtain ⟨rfl,rfl⟩:=c
      obtain ⟨o,s,hp,hl,u,d⟩:=h4 0 i' v rfl
      simp at d;obtain ⟨rfl,rfl⟩:=d
      obtain ⟨r,y,z⟩:=qdh t u
      simp only [q6h] at h6
      split at h6
      · rename_i g
        have m : x.cells.size = s:=by omega
        have n : ¬ (o' + x.cells.size > C.size):=by have:=h5.1;omega
        obtain ⟨h,q,f⟩:=qgn place b xs l (splice cs o' (cellsOf v)) a (splice C.toList o' x.cells.toList).toArray (by simpa using h1)
          (fun k i v j=>by obtain ⟨x,p⟩:=h2 (k + 1) i v (by simpa using j);exact ⟨x,by simpa using p⟩) (by simpa using h3)
          (fun k i v j=>by obtain ⟨o,s,p⟩:=h4 (k + 1) i v (by simpa using j);exact ⟨o,s,by simpa using p⟩)
          (h5.splice ⟨r,y⟩ g) h6
        refine ⟨h,?_,f⟩
        simp only [Instr.fill,hp,m]
        have : ¬ ((decide (s≠s) || decide (o' + s > C.size)) = true):=by simp;omega
        rw [Q2 (by simpa using this)]
        rw [qlc x.cells C o' q6]
        exact q
      · simp at h6
end
end Go.Am
namespace Go.Am
open Go
variable {P : Program} {T : Tab}
section
variable {w : World} {Z : Nat→Prop} {inj : Inj} {nx : Nat}
theorem qop {α β : Type} {f : α→Sem β} {g : α→β} : ∀ {l : List α},(∀ x∈l,(f x).run P w = .ok (g x) w)→(l.mapM f).run P w = .ok (l.map g) w
  | [],_=>by simp
  | x::r,h=>by
    have c:=h x qg
    have b:=qop (l:=r) (fun y a=>h y (by simp [a]))
    simp [List.mapM_cons,c,b]
theorem q10j {α β : Type} {f : α→Sem β} {g : α→β} {l : Array α} (h : ∀ x∈l.toList,(f x).run P w = .ok (g x) w) : (l.mapM f).run P w = .ok (l.toList.map g).toArray w:=by
  rw [Array.mapM_eq_mapM_toList,Sem.run_map,qop h];rfl
theorem ql8 {g : Array Field} {k : List (Nat × Nat × Bool)} (h : (g.toList.mapM fun f => do
      let a ← P.info? f.type
      let c ← P.underlying f.type
      if a.size = 0 then none else some (f.offset,a.size,Yo c)) = some k) :
    k.length = g.size∧∀ (i : Nat) (f : Field),g[i]? = some f→∃ a c,P.info? f.type = some a∧P.underlying f.type = some c∧a.size≠0∧k[i]? = some (f.offset,a.size,Yo c):=by
  obtain ⟨p,n⟩:=q9x h;refine ⟨by simpa using p,fun i f m=>?_⟩;obtain ⟨y,o,b⟩:=n i f (by simpa using m)
  cases j : P.info? f.type with
  | none=>simp [j] at b
  | some a=>
    cases l : P.underlying f.type with
    | none=>simp [j,l] at b
    | some c=>
      simp only [j,l,Option.bind_eq_bind,qn] at b;split at b
      · simp at b
      · rename_i d;simp at b;subst b;exact ⟨a,c,rfl,rfl,d,o⟩
theorem qgp {c : Array Field} {j : List (Nat × Nat × Bool)} (h : (c.toList.mapM fun f => do
      let a ← P.info? f.type
      let b ← P.underlying f.type
      if a.size = 0 then none else some (f.offset,a.size,Yo b)) = some j) {i off s : Nat} {k : Bool} (hi : j[i]? = some (off,s,k)) :
    ∃ f a b,c[i]? = some f∧P.info? f.type = some a∧P.underlying f.type = some b∧a.size = s∧s≠0∧f.offset = off∧Yo b = k:=by
  obtain ⟨p,l⟩:=ql8 h;obtain ⟨f,g⟩:=Yg (xs:=c) (i:=i) (by have:=Kj hi;omega);obtain ⟨a,b,m,n,o,d⟩:=l i f g;rw [hi] at d;simp at d;obtain ⟨rfl,rfl,rfl⟩:=d;exact ⟨f,a,b,g,m,n,rfl,o,rfl,rfl⟩
theorem qnz {a : TI} : ∀ {c : List (Nat × V)} {l : List (Nat × List V)},placed a c = some l→l.length = c.length∧∀ (k i : Nat) (v : V),c[k]? = some (i,v)→∃ o s,
    (match a.kind with | .struct=>(a.flds[i]?).map fun f=>(f.1,f.2.1) | .array=>some (i * a.esize,a.esize) | _=>none) = some (o,s)∧(cellsOf v).length = s∧(cellsOf v).all Kt = true∧l[k]? = some (o,cellsOf v)
  | [],l,h=>by simp [placed] at h;subst h;simp
  | (i,v)::r,l,h=>by
    simp only [placed] at h
    split at h
    · rename_i o s l' u m
      split at h
      · rename_i d
        simp at h;subst h
        obtain ⟨n,t⟩:=qnz m
        refine ⟨by simp [n],fun k w j b=>?_⟩
        cases k with
        | zero=>simp at b;obtain ⟨rfl,rfl⟩:=b;exact ⟨o,s,u,d.1,d.2,qg⟩
        | succ k=>simp at b;obtain ⟨p,g,q⟩:=t k w j b;exact ⟨p,g,by simpa using q⟩
      · simp at h
    · simp at h
theorem q17f {t : TypeId} {i : TI} {b : TypeInfo} {d : TypeDesc} {z : Value} (k : TiOk P t i b d z) : LRel w Z inj nx (i.zero.map .d) z.cells:=by
  obtain ⟨m,g⟩:=q9b (w:=w) (Z:=Z) k.cells;refine ⟨by simpa using m,fun j d c hd n=>?_⟩;simp only [List.getElem?_map,Yc] at hd;obtain ⟨h,f,rfl⟩:=hd;obtain ⟨o,a,l,_⟩:=g j h f;rw [n] at a;cases a;exact .d l
theorem Zy {t : TypeId} {a : TypeInfo} (h : P.info? t = some a) : (sizeOf t).run P w = .ok a.size w:=by simp [sizeOf,typeInfo,h]
theorem q6n {t : TypeId} {d : TypeDesc} (h : P.underlying t = some d) : (isAgg t).run P w = .ok (Yo d) w:=by
  simp only [isAgg,Sem.run_bind,run_underlying h,Result.andThen_ok];cases d <;> rfl
theorem qnv {t : TypeId} {a : TypeInfo} {d : TypeDesc} (s : P.info? t = some a) (m : P.underlying t = some d) {cs r : List V} {xs : Array Value} {off : Nat} {v : V} (k : LRel w Z inj nx cs xs)
    (hs : sub cs off a.size = some r) (hp : pack (Yo d) r = some v) : ∃ x,(part t xs off).run P w = .ok x w∧RelV w Z inj nx v x:=by
  obtain ⟨n,h⟩:=qd3 hs;have y:=(qpx hs).1;have p:=k.1
  have g : ∀ (i : Nat) (d : V) (c : Value),r[i]? = some d→(xs.extract off (off + a.size)).toList[i]? = some c→RelV w Z inj nx d c:=by
    intro i d c hd j;obtain ⟨f,u⟩:=h i d hd;refine k.2 _ _ _ f ?_;rw [Array.getElem?_toList,Array.getElem?_extract] at j;split at j <;> first | exact j | simp at j
  have l : r.length = (xs.extract off (off + a.size)).toList.length:=by simp;omega
  have b:=qns hp l g
  cases hb : Yo d with
  | true=>
    rw [hb] at b
    refine ⟨.agg (xs.extract off (off + a.size)),?_,by
      have q : RelV w Z inj nx v (.agg (xs.extract off (off + a.size)).toList.toArray):=b
      rwa [Array.toArray_toList] at q⟩
    simp [part,q6n m,hb,Zy s]
  | false=>
    rw [hb] at b hp
    match r,hp,n,h with
    | [c],hp,n,h=>
      simp only [pack,Option.some.injEq] at hp;subst hp;have f:=(h 0 c rfl).1;simp only [Nat.add_zero] at f;obtain ⟨x,o⟩:=Yg (xs:=xs) (i:=off) (by have:=Kj f;omega);exact ⟨x,by simp [part,q6n m,hb,o],k.2 _ _ _ f o⟩
end
section
variable {w : World} {Z : Nat→Prop} {inj : Inj} {st : AS} {a : Act} {Ds : List Nat}
theorem qxq {t : TypeId} {i : TI} {g : Array (Nat × Operand)} {y : List (Nat × V)} {l : List (Nat × List V)} {cs : List V} (h : RelS w Z inj st a Ds) (ht : tiOf P t = some i) (hv : Jw st.ev g.toList = some y)
    (ha : i.agg = true) (hl : placed i y = some l) (hf : q6h (i.zero.map .d) l = some cs) :
    Y6 st st (q6q cs) w Z inj ((do pure (Next.value (← Instr.build t (g.map fun (i,x)=>(i,a.eval x)))) : Sem Next).run P w):=by
  obtain ⟨aw,d,z,k⟩:=Yx ht;obtain ⟨p1,p2⟩:=ql0 h hv;obtain ⟨q1,q2⟩:=qnz hl;have hz:=q17f (w:=w) (Z:=Z) (inj:=inj) (nx:=st.nx) k
  have r : ∀ (k i : Nat) (v : V),y[k]? = some (i,v)→∃ x,(g.toList.map fun (x : Nat × Operand)=>(x.1,a.eval x.2))[k]? = some (i,x)∧RelV w Z inj st.nx v x:=by
    intro k i v u;obtain ⟨o,ho,m⟩:=p2 k i v u;exact ⟨a.eval o,by simp only [List.getElem?_map,ho];rfl,m⟩
  have ab : (zeroValue t).run P w = .ok z w:=by simp [zeroValue,typeInfo,k.inf,k.zero]
  have b:=k.kind;unfold Zr at b;cases u : i.kind <;> simp only [u,TI.agg] at b ha
  case struct=>
    obtain ⟨fs,rfl,ac⟩:=b;obtain ⟨_,ak⟩:=ql8 ac
    obtain ⟨q,hC,m⟩:=qgn (fun i=>((fs.toList.map fun (f : Field)=>(f.offset,((P.info? f.type).map (·.size)).getD 0)).toArray)[i]?) y (g.toList.map fun (x : Nat × Operand)=>(x.1,a.eval x.2)) l _ cs z.cells (by simp [p1]) r q1
      (fun k i' v c=>by
        obtain ⟨o,s,h1,h2,h3,h4⟩:=q2 k i' v c;simp only [u,Yc] at h1;obtain ⟨⟨o',s',ag⟩,h5,h6⟩:=h1;simp at h6;obtain ⟨rfl,rfl⟩:=h6;obtain ⟨f,jf,df,p,g2,_,g4,_,g6,_⟩:=qgp ac h5
        exact ⟨o',s',by simp [p,g2,g4,g6],h2,h3,h4⟩) hz hf
    refine .quiet h (Ks (x:=.agg q) ?_) (qhi m.1 m.2)
    have hm : (fs.mapM fun f=>do pure (f.offset,← sizeOf f.type) : Sem (Array (Nat × Nat))).run P w = .ok (fs.toList.map fun (f : Field)=>(f.offset,((P.info? f.type).map (·.size)).getD 0)).toArray w:=by
      refine q10j fun f hf=>?_;obtain ⟨j,hj⟩:=List.mem_iff_getElem?.1 hf;obtain ⟨jf,df,p,_⟩:=ak j f (by simpa using hj);simp [Zy p,p]
    simp only [Instr.build,Sem.run_bind,ab,Result.andThen_ok,run_underlying k.und,hm];have n : Instr.fill (fun x=>((fs.toList.map fun (f : Field)=>(f.offset,((P.info? f.type).map (·.size)).getD 0)).toArray)[x]?) z.cells (g.map fun (x : Nat × Operand)=>(x.1,a.eval x.2)).toList = some q:=by simpa using hC
    simp only [n];rfl
  case array=>
    obtain ⟨e,ie,de,rfl,p,g2,g3,g4,_⟩:=b
    obtain ⟨q,hC,m⟩:=qgn (fun j=>some (j * i.esize,i.esize)) y (g.toList.map fun (x : Nat × Operand)=>(x.1,a.eval x.2)) l _ cs z.cells (by simp [p1]) r q1
      (fun k i' v c=>by
        obtain ⟨o,s,h1,h2,h3,h4⟩:=q2 k i' v c;simp only [u] at h1
        exact ⟨o,s,h1,h2,h3,h4⟩) hz hf
    refine .quiet h (Ks (x:=.agg q) ?_) (qhi m.1 m.2);have n : Instr.fill (fun j=>some (j * i.esize,i.esize)) z.cells (g.map fun (x : Nat × Operand)=>(x.1,a.eval x.2)).toList = some q:=by simpa using hC
    simp only [Instr.build,Sem.run_bind,ab,Result.andThen_ok,run_underlying k.und,Zy p,g3,n];rfl
  all_goals simp at ha
theorem qmo {t : TypeId} {i : TI} {pv v : V} {vp : Value} (h : RelH w Z inj st.hp st.nx) (ht : tiOf P t = some i) (hx : RelV w Z inj st.nx pv vp) (a : Us st i pv = some v) :
    ∃ b o x,vp = .pointer (some ⟨b,o,none⟩)∧(Instr.loadAt t vp).run P w = .ok x w∧RelV w Z inj st.nx v x:=by
  obtain ⟨ao,d,z,k⟩:=Yx ht
  have fin : ∀ {b o : Nat} {r : List V} {pp : Value},pp = .pointer (some ⟨b,o,none⟩)→pack i.agg r = some v→r.length = i.size→
      (∀ (k : Nat) (x : V),r[k]? = some x→∃ c,w.cell? ⟨b,o + k,none⟩ = some c∧RelV w Z inj st.nx x c)→∃ b o x,pp = .pointer (some ⟨b,o,none⟩)∧(Instr.loadAt t pp).run P w = .ok x w∧RelV w Z inj st.nx v x:=by
    intro b o r pp q ak aa hc
    obtain ⟨x,ac,ab⟩:=qv3 (P:=P) k ak aa hc
    exact ⟨b,o,x,q,by rw [q];exact ac,ab⟩
  cases pv <;> simp only [Us,reduceCtorEq] at a
  case ref n es e j=>
    cases hx with
    | @ref _ _ _ _ b o hn hi=>
    cases hb : st.blk n with
    | none=>simp [hb] at a
    | some blk=>
      have hB:=(h.blk n blk hb).2
      cases blk with
      | dead=>simp [hb] at a
      | loop=>simp [hb] at a
      | dat es' xs=>
        simp only [hb] at a;split at a <;> try simp at a
        rename_i cs q l;have q:=Nat.eq_of_beq_eq_true q;subst q
        cases hs : sub cs j i.size with
        | none=>simp [hs] at a
        | some r=>
          simp only [hs] at a;rw [qhw] at a;obtain ⟨u,s⟩:=qd3 hs;obtain ⟨b1,b2,f⟩:=hB;rcases f with ⟨f,_⟩ | ⟨b',o',arr,ty,f,b4,b5⟩
          · subst f;simp at l
          · rw [hi] at f;cases f;refine fin rfl a (by simpa using u) ?_;intro k x m;simp only [List.getElem?_map,Yc] at m;obtain ⟨y,hy,rfl⟩:=m;obtain ⟨p,_⟩:=s k y hy;obtain ⟨_,c,h4,h5⟩:=b5 e cs (j + k) y l p;exact ⟨c,by simp only [World.cell?,b4];rw [← h4];simp [Nat.add_assoc],.d h5⟩
      | cel es' xs=>
        simp only [hb] at a;split at a <;> try simp at a
        rename_i cs q l;have q:=Nat.eq_of_beq_eq_true q;subst q
        cases hs : sub cs j i.size with
        | none=>simp [hs] at a
        | some r=>
          simp only [hs] at a;obtain ⟨u,s⟩:=qd3 hs;obtain ⟨b1,b2,f⟩:=hB;rcases f with ⟨f,_⟩ | ⟨b',o',arr,ty,f,b4,b5⟩
          · subst f;simp at l
          · rw [hi] at f;cases f;refine fin rfl a u ?_;intro k x m;obtain ⟨p,_⟩:=s k x m;obtain ⟨_,c,h4,h5⟩:=b5 e cs (j + k) x l p;exact ⟨c,by simp only [World.cell?,b4];rw [← h4];simp [Nat.add_assoc],h5⟩
  case dref cs j=>
    cases hx with
    | @dref _ _ b o hz hc hr=>
    cases hs : sub cs j i.size with
    | none=>simp [hs] at a
    | some r=>
      simp only [hs] at a;rw [qhw] at a;obtain ⟨u,s⟩:=qd3 hs;refine fin rfl a (by simpa using u) ?_;intro k x m;simp only [List.getElem?_map,Yc] at m;obtain ⟨y,hy,rfl⟩:=m;obtain ⟨p,_⟩:=s k y hy;obtain ⟨c,g⟩:=hc _ _ p;exact ⟨c,by rw [← g,Nat.add_assoc],.d (hr _ _ _ p g)⟩
  case d x=>
    cases x <;> simp only [reduceCtorEq] at a
    rename_i cs
    cases hx with
    | d hx=>
    cases hx with
    | @box _ b o hz hc hr=>
    cases hs : sub cs 0 i.size with
    | none=>simp [hs] at a
    | some r=>
      simp only [hs] at a;rw [qhw] at a;obtain ⟨u,s⟩:=qd3 hs;refine fin rfl a (by simpa using u) ?_;intro k x m;simp only [List.getElem?_map,Yc] at m;obtain ⟨y,hy,rfl⟩:=m;obtain ⟨p,_⟩:=s k y hy;rw [Nat.zero_add] at p;obtain ⟨c,g⟩:=hc _ _ p;exact ⟨c,g,.d (hr _ _ _ p g)⟩
theorem qy0 {t : TypeId} {i : TI} {p : Operand} {pv v : V} (h : RelS w Z inj st a Ds) (g : tiOf P t = some i) (hp : st.ev p = some pv) (d : Us st i pv = some v) :
    Y6 st st v w Z inj ((do pure (Next.value (← Instr.loadAt t (a.eval p))) : Sem Next).run P w):=by
  obtain ⟨b,o,x,_,c,f⟩:=qmo (P:=P) h.heap g (Ki h hp) d;exact .quiet h (Ks c) f
end
end Go.Am
namespace Go.Am
open Go
variable {P : Program} {T : Tab}
theorem qg6 : ∀ {c d : List (Option IntKind)} {a b : List DV} {r : Bool},Yk (c ++ d) a b = some r→
    ∃ p q,Yk c (a.take c.length) (b.take c.length) = some p∧Yk d (a.drop c.length) (b.drop c.length) = some q∧r = (p && q)
  | [],d,a,b,r,h=>⟨true,r,by simp [Yk],by simpa using h,qg⟩
  | k::c,d,a,b,r,h=>by
    match a,b,h with
    | x::a,y::b,h=>
      simp only [List.cons_append,Yk] at h
      split at h <;> simp at h
      rename_i u v j f
      obtain ⟨p,q,m,g,l⟩:=qg6 f
      refine ⟨u && p,q,by simp [Yk,j,m],by simpa using g,?_⟩
      rw [← h,l,Bool.and_assoc]
    | [],_,h=>simp [Yk] at h
    | _::_,[],h=>simp [Yk] at h
theorem qdg : ∀ {c : List (Option IntKind)} {a b : List DV} {r : Bool},Yk c a b = some r→a.length = c.length∧b.length = c.length
  | [],[],[],_,_=>⟨rfl,rfl⟩
  | k::c,x::a,y::b,r,h=>by
    simp only [Yk] at h
    split at h <;> simp at h
    rename_i f d
    have:=qdg d
    simp;omega
  | [],_::_,_,_,h=>by simp [Yk] at h
  | [],[],_::_,_,h=>by simp [Yk] at h
  | _::_,[],_,_,h=>by simp [Yk] at h
  | _::_,_::_,[],_,h=>by simp [Yk] at h
section
variable {w : World} {Z : Nat→Prop}
def DRel (w : World) (Z : Nat→Prop) (ds : List DV) (cs : Array Value) : Prop:=ds.length = cs.size∧∀ (i : Nat) (d : DV) (c : Value),ds[i]? = some d→cs[i]? = some c→RelD w Z d c
theorem DRel.extract {ds : List DV} {cs : Array Value} (h : DRel w Z ds cs) (o s : Nat) (hs : o + s≤ds.length) : DRel w Z ((ds.drop o).take s) (cs.extract o (o + s)):=by
  have b:=h.1;refine ⟨by simp;omega,fun i d c hd a=>?_⟩;rw [List.getElem?_take] at hd;split at hd
  · rw [List.getElem?_drop] at hd;rw [Array.getElem?_extract] at a;split at a
    · exact h.2 _ _ _ hd a
    · simp at a
  · simp at hd
theorem qq9 {t : TypeId} {d : TypeDesc} (h : P.underlying t = some d) : ∃ a,P.info? t = some a∧P.cellsOf t = a.size:=by
  cases hi : P.info? t with
  | none=>simp [Program.underlying,hi] at h
  | some a=>exact ⟨a,rfl,by simp [Program.cellsOf,hi]⟩
def EqOk (P : Program) (w : World) (Z : Nat→Prop) (k : Nat) (t : TypeId) (desc : TypeDesc) (ks : List (Option IntKind)) : Prop:=
  ∀ (xs ys : List DV) (X Y : Array Value) (r : Bool),DRel w Z xs X→DRel w Z ys Y→Yk ks xs ys = some r→
    (Yo desc = true→(Op.equalIn k t (.agg X) (.agg Y)).run P w = .ok r w)∧(Yo desc = false→ks.length = 1∧∀ x y,X[0]? = some x→Y[0]? = some y→(Op.equalIn k t x y).run P w = .ok r w)
def q9g (k : Nat) (X Y : Array Value) (f : Field) (_s : Option Bool × Unit) : Sem (ForInStep (Option Bool × Unit)):=
  if f.name ≠ "_" then do
    let __do_lift ← part f.type X f.offset
    let __do_lift_1 ← part f.type Y f.offset
    let __do_lift ← Op.equalIn k f.type __do_lift __do_lift_1
    if (!__do_lift) = true then pure (ForInStep.done (some false,())) else pure (ForInStep.yield (none,()))
  else pure (ForInStep.yield (none,()))
theorem qkz {k : Nat} {t : TypeId} {desc : TypeDesc} {c : TypeInfo} {b : List (Option IntKind)} (h : EqOk P w Z k t desc b) (g : P.underlying t = some desc) (hi : P.info? t = some c) (hs : c.size = b.length)
    {xs ys : List DV} {X Y : Array Value} (s : DRel w Z xs X) (n : DRel w Z ys Y) {o : Nat} (j : o + b.length≤xs.length) (l : o + b.length≤ys.length) {p : Bool}
    (hp : Yk b ((xs.drop o).take b.length) ((ys.drop o).take b.length) = some p) :
    ∃ r q,(part t X o).run P w = .ok r w∧(part t Y o).run P w = .ok q w∧(Op.equalIn k t r q).run P w = .ok p w:=by
  obtain ⟨z,m⟩:=h _ _ _ _ p (s.extract o b.length j) (n.extract o b.length l) hp
  cases a : Yo desc with
  | true=>
    exact ⟨.agg (X.extract o (o + b.length)),.agg (Y.extract o (o + b.length)),by simp [part,q6n g,a,Zy hi,hs],by simp [part,q6n g,a,Zy hi,hs],z a⟩
  | false=>
    obtain ⟨u,m⟩:=m a;have aa:=s.1;have v:=n.1;obtain ⟨x,d⟩:=Yg (xs:=X) (i:=o) q6;obtain ⟨y,f⟩:=Yg (xs:=Y) (i:=o) q6;refine ⟨x,y,by simp [part,q6n g,a,d],by simp [part,q6n g,a,f],m x y ?_ ?_⟩
    · rw [Array.getElem?_extract,u,Q1 (by have:=Zn d;omega)];exact d
    · rw [Array.getElem?_extract,u,Q1 (by have:=Zn f;omega)];exact f
theorem qkw (d : Nat) (k : Nat) (y : ∀ t desc a,P.underlying t = some desc→Zf P d t = some a→EqOk P w Z k t desc a)
    (xs ys : List DV) (X Y : Array Value) (x : DRel w Z xs X) (v : DRel w Z ys Y) : ∀ (l : List Field) (o : Nat) (r : Bool) (a : List (Option IntKind)),tile P (Zf P d) o l = some a→o + a.length≤xs.length→o + a.length≤ys.length→
    Yk a (xs.drop o) (ys.drop o) = some r→(forIn l ((none : Option Bool),()) (q9g k X Y) : Sem (Option Bool × Unit)).run P w = .ok (if r then (none,()) else (some false,())) w
  | [],o,r,a,ht,_,_,hc=>by
    simp only [tile,Option.some.injEq] at ht;subst ht
    obtain ⟨h1,z⟩:=qdg hc
    rw [List.eq_nil_of_length_eq_zero h1,List.eq_nil_of_length_eq_zero z] at hc
    simp [Yk] at hc;subst hc
    simp
  | f::l,o,r,a,ht,hlx,hly,hc=>by
    simp only [tile] at ht
    cases b : Zf P d f.type with
    | none=>simp [b] at ht
    | some ka=>
      simp only [b] at ht
      split at ht <;> try simp at ht
      rename_i c
      obtain ⟨rfl,hn,ac⟩:=c
      cases g : tile P (Zf P d) (f.offset + ka.length) l with
      | none=>simp [g] at ht
      | some kb=>
        simp only [g,Option.some.injEq] at ht;subst ht
        simp only [List.length_append] at hlx hly
        obtain ⟨p,q,hp,u,m⟩:=qg6 hc
        rw [List.drop_drop,List.drop_drop] at u
        obtain ⟨j,h⟩ : ∃ j,P.underlying f.type = some j:=by
          cases hu : P.underlying f.type with
          | none=>cases d <;> simp [Zf,hu] at b
          | some j=>exact ⟨j,rfl⟩
        obtain ⟨jf,n,s⟩:=qq9 h
        obtain ⟨vx,vy,g1,g2,g3⟩:=qkz (y f.type j ka h b) h n q6 x v (o:=f.offset) q6 q6 hp
        rw [List.forIn_cons]
        simp only [q9g,Q1 hn,Sem.run_bind,g1,g2,g3,Result.andThen_ok]
        cases p with
        | false=>simp [m]
        | true=>
          have:=qkw d k y xs ys X Y x v l (f.offset + ka.length) q kb g q6 q6 u;simp only [Bool.true_and] at m;subst m;simpa using this
def q9h (k : Nat) (e : TypeId) (n : Nat) (X Y : Array Value) (i : Nat) (_s : Option Bool × Unit) : Sem (ForInStep (Option Bool × Unit)):=do
  let __do_lift ← part e X (i * n)
  let __do_lift_1 ← part e Y (i * n)
  let __do_lift ← Op.equalIn k e __do_lift __do_lift_1
  if (!__do_lift) = true then pure (ForInStep.done (some false,())) else pure (ForInStep.yield (none,()))
theorem qkx {k : Nat} {e : TypeId} {desc : TypeDesc} {b : TypeInfo} {a : List (Option IntKind)} (f : EqOk P w Z k e desc a) (h : P.underlying e = some desc) (hi : P.info? e = some b) (hs : b.size = a.length)
    {xs ys : List DV} {X Y : Array Value} (j : DRel w Z xs X) (g : DRel w Z ys Y) : ∀ (m s : Nat) (r : Bool),(s + m) * a.length≤xs.length→(s + m) * a.length≤ys.length→
    Yk (List.replicate m a).flatten (xs.drop (s * a.length)) (ys.drop (s * a.length)) = some r→(forIn (List.range' s m) ((none : Option Bool),()) (q9h k e b.size X Y) : Sem (Option Bool × Unit)).run P w = .ok (if r then (none,()) else (some false,())) w
  | 0,s,r,_,_,hc=>by
    simp only [List.replicate_zero,List.flatten_nil] at hc
    obtain ⟨v,n⟩:=qdg hc
    rw [List.eq_nil_of_length_eq_zero v,List.eq_nil_of_length_eq_zero n] at hc
    simp [Yk] at hc;subst hc
    simp
  | m + 1,s,r,hlx,hly,hc=>by
    rw [List.replicate_succ,List.flatten_cons] at hc
    obtain ⟨p,q,hp,d,c⟩:=qg6 hc
    rw [List.drop_drop,List.drop_drop] at d
    have u : s * a.length + a.length = (s + 1) * a.length:=by rw [Nat.add_mul];simp
    have e2 : (s + 1) * a.length + m * a.length = (s + (m + 1)) * a.length:=by rw [← Nat.add_mul];congr 1;omega
    obtain ⟨z,y,l,t,x⟩:=qkz f h hi hs j g (o:=s * a.length) q6 q6 hp
    rw [List.range'_succ,List.forIn_cons]
    simp only [q9h,hs,Sem.run_bind,l,t,x,Result.andThen_ok]
    cases p with
    | false=>simp [c]
    | true=>
      rw [u] at d
      have:=qkx f h hi hs j g m (s + 1) q (by rw [Nat.add_mul];omega) (by rw [Nat.add_mul];omega) d
      simp only [Bool.true_and] at c
      subst c
      rw [hs] at this
      simpa using this
theorem qgj : ∀ (d : Nat) (t : TypeId) (desc : TypeDesc) (h : List (Option IntKind)),P.underlying t = some desc→Zf P d t = some h→∀ k,d≤k→EqOk P w Z k t desc h
  | 0,t,desc,h,hu,hp,k,hk=>by simp [Zf] at hp
  | d + 1,t,desc,h,hu,hp,k,hk=>by
    obtain ⟨k,rfl⟩ : ∃ k',k = k' + 1:=⟨k - 1,q6⟩
    intro xs ys X Y r hx z c
    obtain ⟨u,o⟩:=qdg c
    simp only [Zf,hu] at hp
    cases desc <;> simp only [reduceCtorEq,Option.some.injEq] at hp
    case bool=>
      subst hp
      refine ⟨by simp [Yo],fun _=>⟨rfl,fun x y m l=>?_⟩⟩
      match xs,ys,u,o,c with
      | [a],[b],_,_,c=>
        have ra:=hx.2 0 a x rfl m
        have rb:=z.2 0 b y rfl l
        simp only [Yk] at c
        cases a <;> cases b <;> simp only [qg5,reduceCtorEq] at c
        simp at c;subst c
        cases ra;cases rb;simp [Op.equalIn,run_underlying hu]
    case int k0=>
      subst hp
      refine ⟨by simp [Yo],fun _=>⟨rfl,fun x y m l=>?_⟩⟩
      match xs,ys,u,o,c with
      | [a],[b],_,_,c=>
        have ra:=hx.2 0 a x rfl m
        have rb:=z.2 0 b y rfl l
        simp only [Yk] at c
        cases a <;> cases b <;> simp only [qg5,reduceCtorEq] at c
        split at c <;> simp at c
        rename_i p v
        split at p <;> simp at p
        rename_i ac
        obtain ⟨rfl,rfl⟩:=ac
        subst p c
        simp at v;subst v
        cases ra;cases rb;simp [Op.equalIn,run_underlying hu]
    case struct fs=>
      refine ⟨fun _=>?_,by simp [Yo]⟩
      split at hp
      · simp at hp
      · rename_i ad
        simp only [Op.equalIn,Sem.run_bind,run_underlying hu,Result.andThen_ok,run_program,ad,Bool.false_eq_true,if_false]
        have:=qkw (P:=P) (w:=w) (Z:=Z) d k (fun t desc h p v=>qgj d t desc h p v k q6) xs ys X Y hx z fs.toList 0 r h hp q6 q6 (by simpa using c)
        rw [Array.forIn_toList] at this
        have e : (fun (f : Field) (_s : Option Bool × Unit)=>q9g k X Y f _s) = q9g k X Y:=rfl
        unfold q9g at this
        rw [this]
        cases r <;> simp
    case array n e=>
      refine ⟨fun _=>?_,by simp [Yo]⟩
      cases g : Zf P d e with
      | none=>simp [g] at hp
      | some a=>
        simp only [g] at hp
        split at hp
        · rename_i ak
          simp only [Option.some.injEq] at hp;subst hp
          obtain ⟨s,j⟩ : ∃ s,P.underlying e = some s:=by
            cases ae : P.underlying e with
            | none=>cases d <;> simp [Zf,ae] at g
            | some s=>exact ⟨s,rfl⟩
          obtain ⟨je,q,ag⟩:=qq9 j
          have ai : (List.replicate n a).flatten.length = n * a.length:=by simp
          have:=qkx (qgj d e s a j g k q6) j q q6 hx z n 0 r (by rw [Nat.zero_add];omega) (by rw [Nat.zero_add];omega) (by simpa using c)
          simp only [Op.equalIn,Sem.run_bind,run_underlying hu,Result.andThen_ok,Zy q,Std.Legacy.Range.forIn_eq_forIn_range']
          have e : (fun (i : Nat) (_s : Option Bool × Unit)=>q9h k e je.size X Y i _s) = q9h k e je.size X Y:=rfl
          unfold q9h at this
          simp only [Std.Legacy.Range.size,Nat.sub_zero,Nat.add_sub_cancel,Nat.div_one]
          rw [this]
          cases r <;> simp
        · simp at hp
end
section
variable {w : World} {Z : Nat→Prop} {inj : Inj} {st : AS} {a : Act} {Ds : List Nat}
theorem qr5 {op : BinOp} {k : IntKind} {x y : Int} {r : DV} (h : binI op k x y = some r) (hs : op≠.shl∧op≠.shr) : ∃ v,(∀ t,(binOp op t (.int k x) (.int k y)).run P w = .ok v w)∧RelD w Z r v:=by
  cases op <;> simp only [binI,reduceCtorEq,Option.some.injEq] at h <;> try (simp at hs;done)
  case add=>subst h;exact ⟨_,fun t=>by simp [binOp,Op.intArith],.int _ _⟩
  case sub=>subst h;exact ⟨_,fun t=>by simp [binOp,Op.intArith],.int _ _⟩
  case mul=>subst h;exact ⟨_,fun t=>by simp [binOp,Op.intArith],.int _ _⟩
  case quo=>split at h <;> simp at h;subst h;rename_i a;exact ⟨_,fun t=>by simp [binOp,Op.intDiv,a],.int _ _⟩
  case rem=>split at h <;> simp at h;subst h;rename_i a;exact ⟨_,fun t=>by simp [binOp,Op.intDiv,a],.int _ _⟩
  case and=>subst h;exact ⟨_,fun t=>by simp [binOp,Op.intBits],.int _ _⟩
  case or=>subst h;exact ⟨_,fun t=>by simp [binOp,Op.intBits],.int _ _⟩
  case xor=>subst h;exact ⟨_,fun t=>by simp [binOp,Op.intBits],.int _ _⟩
  case eql=>subst h;exact ⟨_,fun t=>by simp [binOp,Op.intCmp],.bool _⟩
  case neq=>subst h;exact ⟨_,fun t=>by simp [binOp,Op.intCmp],.bool _⟩
  case lss=>subst h;exact ⟨_,fun t=>by simp [binOp,Op.intCmp],.bool _⟩
  case leq=>subst h;exact ⟨_,fun t=>by simp [binOp,Op.intCmp],.bool _⟩
  case gtr=>subst h;exact ⟨_,fun t=>by simp [binOp,Op.intCmp],.bool _⟩
  case geq=>subst h;exact ⟨_,fun t=>by simp [binOp,Op.intCmp],.bool _⟩
theorem qp0 {op : BinOp} {k b : IntKind} {x y : Int} {r : DV} (h : qaw op k x y = some r) : ∃ v,(∀ t,(binOp op t (.int k x) (.int b y)).run P w = .ok v w)∧RelD w Z r v:=by
  unfold qaw at h;split at h <;> try simp at h
  rename_i a;cases op <;> simp only [reduceCtorEq,Option.some.injEq] at h
  case shl=>subst h;exact ⟨_,fun t=>by simp [binOp,Op.shift,a],.int _ _⟩
  case shr=>subst h;exact ⟨_,fun t=>by simp [binOp,Op.shift,a],.int _ _⟩
theorem q2l {op : BinOp} {t : TypeId} {x y : Operand} {u v : Value} (a : ∀ c,u≠.agg c) (b : u≠.nilIface) : (eqGuard op t x y u v).run P w = .ok () w:=by
  unfold eqGuard;cases op <;> simp <;> cases u <;> simp_all
theorem qkv {op : BinOp} {t : TypeId} {x y : Operand} {u v : Array Value} (h : P.eqGuardType P.depth t = false) : (eqGuard op t x y (.agg u) (.agg v)).run P w = .ok () w:=by
  unfold eqGuard;cases op <;> simp [h]
end
end Go.Am
namespace Go.Am
open Go
variable {P : Program} {T : Tab}
section
variable {w : World} {Z : Nat→Prop} {inj : Inj} {st : AS} {a : Act} {Ds : List Nat}
theorem qq7 {a : TypeId → Option (List (Option IntKind))} {k : Nat} (c : ∀ t b, a t = some b → P.eqGuardType k t = false) : ∀ {l : List Field} {o : Nat} {b}, tile P a o l = some b → l.any (fun f => f.name != "_" && P.eqGuardType k f.type) = false
  | [],_,_,_=>rfl
  | f::r,o,b,h=>by
    simp only [tile] at h
    cases hp : a f.type with
    | none=>simp [hp] at h
    | some ka=>
      simp only [hp] at h
      split at h <;> try simp at h
      cases d : tile P a (o + ka.length) r with
      | none=>simp [d] at h
      | some kb=>
        have:=qq7 c d
        simp only [List.any_cons,this,c _ _ hp,Bool.and_false,Bool.or_false]
theorem qhn : ∀ (d : Nat) (t : TypeId) (b : List (Option IntKind)),Zf P d t = some b→∀ k,d≤k→P.eqGuardType k t = false
  | 0,t,b,h,k,hk=>by simp [Zf] at h
  | d + 1,t,b,h,k,hk=>by
    obtain ⟨k,rfl⟩ : ∃ f,k = f + 1:=⟨k - 1,q6⟩
    simp only [Zf] at h
    simp only [Program.eqGuardType]
    cases c : P.underlying t with
    | none=>rfl
    | some desc=>
      cases desc <;> simp only [c,reduceCtorEq] at h <;> try rfl
      case array n e=>
        cases hp : Zf P d e with
        | none=>simp [hp] at h
        | some a=>exact qhn d e a hp k q6
      case struct fs=>
        split at h <;> try simp at h
        have:=qq7 (fun t b hp=>qhn d t b hp k q6) h
        simp only []
        rw [← Array.any_toList];exact this
theorem qnn {op : BinOp} {t : TypeId} {i : TI} {x y : Operand} {p q : List DV} {g : List (Option IntKind)} {r : Bool} {b : DV} (h : RelS w Z inj st a Ds) (v : tiOf P t = some i) (hx : st.ev x = some (.d (.agg p))) (u : st.ev y = some (.d (.agg q)))
    (he : i.eqs = some g) (hc : Yk g p q = some r) (n : (op = .eql∧b = .bool r)∨(op = .neq∧b = .bool (!r))) :
    Y6 st st (.d b) w Z inj ((do pure (Next.value (← (do eqGuard op t x y (a.eval x) (a.eval y);binOp op t (a.eval x) (a.eval y) : Sem Value)) ) : Sem Next).run P w):=by
  obtain ⟨s,d,z,k⟩:=Yx v;have l:=Ki h hx;have j:=Ki h u;generalize a.eval x = vx at l ⊢;generalize a.eval y = vy at j ⊢
  cases l with | d l=>cases l with | @agg _ X hl1 hr1=>
  cases j with | d j=>cases j with | @agg _ Y hl2 hr2=>
  obtain ⟨f,m⟩:=k.eqs g he;have o : P.eqGuardType P.depth t = false:=qhn 8 t g f _ (by unfold Program.depth Made.depth;omega);have c:=(qgj (w:=w) (Z:=Z) 8 t d g k.und f Op.maxDepth (by unfold Op.maxDepth;omega) p q X Y r ⟨hl1,hr1⟩ ⟨hl2,hr2⟩ hc).1 m;rcases n with ⟨rfl,rfl⟩ | ⟨rfl,rfl⟩
  · exact .quiet h (Ks (x:=.bool r) (by simp [qkv o,binOp,Op.equal,c])) (.d (.bool _))
  · exact .quiet h (Ks (x:=.bool (!r)) (by simp [qkv o,binOp,Op.equal,c])) (.d (.bool _))
theorem qxo {op : BinOp} {t : TypeId} {x y : Operand} {k m : IntKind} {p q : Int} {b : DV} (h : RelS w Z inj st a Ds) (s : st.ev x = some (.d (.int k p))) (n : st.ev y = some (.d (.int m q)))
    (c : binD op (.int k p) (.int m q) = some b) :
    Y6 st st (.d b) w Z inj ((do pure (Next.value (← (do eqGuard op t x y (a.eval x) (a.eval y);binOp op t (a.eval x) (a.eval y) : Sem Value)) ) : Sem Next).run P w):=by
  have l:=Ki h s;have j:=Ki h n;generalize a.eval x = vx at l ⊢;generalize a.eval y = vy at j ⊢
  cases l with | d l=>
  cases l
  cases j with | d j=>
  cases j;have r:=q2l (P:=P) (w:=w) (op:=op) (t:=t) (x:=x) (y:=y) (u:=.int k p) (v:=.int m q) qg qg
  have key : ∃ v,(∀ t,(binOp op t (.int k p) (.int m q)).run P w = .ok v w)∧RelD w Z b v:=by
    unfold binD at c;split at c
    · rename_i f g;cases f;cases g;exact qp0 c
    · rename_i f g;cases f;cases g;exact qp0 c
    · rename_i n1 n2 f g;cases f;cases g;split at c <;> try simp at c
      rename_i z;subst z;exact qr5 c ⟨fun e=>n1 e,fun e=>n2 e⟩
    · simp at c
  obtain ⟨v,hv,o⟩:=key;exact .quiet h (Ks (x:=v) (by simp [r,hv])) (.d o)
theorem maxD : Op.maxDepth = 9999 + 1:=rfl
theorem qt8 {t : TypeId} (h : P.underlying t = some .bool) (p q : Bool) : (Op.equal t (.bool p) (.bool q)).run P w = .ok (p == q) w:=by
  rw [Op.equal,maxD,Op.equalIn];simp only [Sem.run_bind,run_underlying h,Result.andThen_ok];rfl
theorem qky {t e : TypeId} (h : P.underlying t = some (.slice e)) (a : Option Addr) (n c : Nat) : (Op.equal t (.slice none 0 0) (.slice a n c)).run P w = .ok a.isNone w:=by
  rw [Op.equal,maxD,Op.equalIn];simp only [Sem.run_bind,run_underlying h,Result.andThen_ok];rfl
theorem qtc {t e : TypeId} (h : P.underlying t = some (.slice e)) (a : Addr) (n c : Nat) : (Op.equal t (.slice (some a) n c) (.slice none 0 0)).run P w = .ok false w:=by
  rw [Op.equal,maxD,Op.equalIn];simp only [Sem.run_bind,run_underlying h,Result.andThen_ok];rfl
theorem qt9 {t : TypeId} {x y z} (h : P.underlying t = some (.func x y z)) : (Op.equal t .nilFunc .nilFunc).run P w = .ok true w:=by
  rw [Op.equal,maxD,Op.equalIn];simp only [Sem.run_bind,run_underlying h,Result.andThen_ok];rfl
theorem qta {t : TypeId} {x y z} (h : P.underlying t = some (.func x y z)) (f g c) : (Op.equal t .nilFunc (.func f g c)).run P w = .ok false w:=by
  rw [Op.equal,maxD,Op.equalIn];simp only [Sem.run_bind,run_underlying h,Result.andThen_ok];rfl
theorem qtb {t : TypeId} {x y z} (h : P.underlying t = some (.func x y z)) (f g c) : (Op.equal t (.func f g c) .nilFunc).run P w = .ok false w:=by
  rw [Op.equal,maxD,Op.equalIn];simp only [Sem.run_bind,run_underlying h,Result.andThen_ok];rfl
theorem q45 {t : TypeId} {u v : Value} {r : Bool} (a : (Op.equal t u v).run P w = .ok r w) (d : ∀ k n,u≠.int k n) (b : ∀ k n,u≠.float k n) (f : ∀ k n m,u≠.complex k n m) (c : ∀ s,u≠.string s) :
    (binOp .eql t u v).run P w = .ok (.bool r) w∧(binOp .neq t u v).run P w = .ok (.bool (!r)) w:=by
  cases u <;> first | (exfalso;exact d _ _ rfl) | (exfalso;exact b _ _ rfl) | (exfalso;exact f _ _ _ rfl) | (exfalso;exact c _ rfl) | (constructor <;> (simp only [binOp];simp [a]))
theorem qxn {op : BinOp} {t : TypeId} {i : TI} {x y : Operand} {p q : DV} {b : DV} (h : RelS w Z inj st a Ds) (ht : tiOf P t = some i) (hx : st.ev x = some (.d p)) (hy : st.ev y = some (.d q))
    (n : binE op i.kind p q = some b) :
    Y6 st st (.d b) w Z inj ((do pure (Next.value (← (do eqGuard op t x y (a.eval x) (a.eval y);binOp op t (a.eval x) (a.eval y) : Sem Value)) ) : Sem Next).run P w):=by
  obtain ⟨ac,d,z,k⟩:=Yx ht;have l:=Ki h hx;have j:=Ki h hy;generalize a.eval x = vx at l ⊢;generalize a.eval y = vy at j ⊢
  cases l with | d l=>
  cases j with | d j=>
  have key : ∀ r,eqK i.kind p q = some r→(eqGuard op t x y vx vy).run P w = .ok () w∧(binOp .eql t vx vy).run P w = .ok (.bool r) w∧(binOp .neq t vx vy).run P w = .ok (.bool (!r)) w:=by
    intro r c;have m:=k.kind;unfold Zr at m;unfold eqK at c;split at c <;> simp at c <;> (rename_i s;simp only [s] at m)
    · subst c;obtain ⟨rfl,_⟩:=m;cases l;cases j;exact ⟨q2l qg qg,q45 (qt8 k.und _ _) qg qg qg qg⟩
    · subst c;cases l;cases j;exact ⟨q2l qg qg,by simp only [binOp,Op.stringOp];rfl,by simp only [binOp,Op.stringOp];rfl⟩
    · subst c;obtain ⟨e,v,de,ze,rfl,_⟩:=m;cases l;cases j;exact ⟨q2l qg qg,q45 (qky k.und _ _ _) qg qg qg qg⟩
    · subst c;obtain ⟨e,v,de,ze,rfl,_⟩:=m;cases l;cases j;exact ⟨q2l qg qg,q45 (qky k.und _ _ _) qg qg qg qg⟩
    · subst c;obtain ⟨e,v,de,ze,rfl,_⟩:=m;cases l;cases j;exact ⟨q2l qg qg,q45 (qtc k.und _ _ _) qg qg qg qg⟩
    · subst c;obtain ⟨⟨e,f,g,rfl⟩,_⟩:=m;cases l;cases j;exact ⟨q2l qg qg,q45 (qt9 k.und) qg qg qg qg⟩
    · subst c;obtain ⟨⟨e,f,g,rfl⟩,_⟩:=m;cases l;cases j;exact ⟨q2l qg qg,q45 (qta k.und _ _ _) qg qg qg qg⟩
    · subst c;obtain ⟨⟨e,f,g,rfl⟩,_⟩:=m;cases l;cases j;exact ⟨q2l qg qg,q45 (qtb k.und _ _ _) qg qg qg qg⟩
  unfold binE at n;split at n
  · cases c : eqK i.kind p q with
    | none=>simp [c] at n
    | some r=>
      simp [c] at n;subst n;obtain ⟨o,u,_⟩:=key r c;exact .quiet h (Ks (x:=.bool r) (by simp [o,u])) (.d (.bool _))
  · cases c : eqK i.kind p q with
    | none=>simp [c] at n
    | some r=>
      simp [c] at n;subst n;obtain ⟨o,_,u⟩:=key r c;exact .quiet h (Ks (x:=.bool (!r)) (by simp [o,u])) (.d (.bool _))
  · simp at n
end
end Go.Am
namespace Go.Am
open Go
variable {P : Program} {T : Tab}
section
variable {w : World} {Z : Nat→Prop} {inj : Inj} {st : AS} {a : Act} {Ds : List Nat}
theorem qy6 {op : UnOp} {x : Operand} {p b : DV} (h : RelS w Z inj st a Ds) (g : st.ev x = some (.d p)) (c : unD op p = some b) :
    Y6 st st (.d b) w Z inj ((do pure (Next.value (← Op.unary op (a.eval x))) : Sem Next).run P w):=by
  have f:=Ki h g;generalize a.eval x = vx at f ⊢
  cases f with | d f=>
  unfold unD at c;split at c
  · simp at c;subst c;cases f;exact .quiet h (Ks (by simp [Op.unary,Op.intArith])) (.d (.int _ _))
  · simp at c;subst c;cases f;exact .quiet h (Ks (by simp [Op.unary])) (.d (.bool _))
  · cases f;simp only [binI,Option.some.injEq] at c;subst c;exact .quiet h (Ks (by simp [Op.unary,Op.intBits])) (.d (.int _ _))
  · simp at c
theorem qxt {src dst : TypeId} {i j : TI} {x : Operand} {k0 r k : IntKind} {n : Int} (h : RelS w Z inj st a Ds) (hi : tiOf P src = some i) (t : tiOf P dst = some j) (l : i.kind = .int k0) (f : j.kind = .int k) (s : st.ev x = some (.d (.int r n))) :
    Y6 st st (.d (.int k (k.wrap n))) w Z inj ((do pure (Next.value (← convert src dst (a.eval x))) : Sem Next).run P w):=by
  obtain ⟨q,d,z,p⟩:=Yx hi;obtain ⟨g,u,v,o⟩:=Yx t;have m:=p.kind;have c:=o.kind;unfold Zr at m c;simp only [l,f] at m c;obtain ⟨rfl,_⟩:=m;obtain ⟨rfl,_⟩:=c;have b:=Ki h s;generalize a.eval x = vx at b ⊢
  cases b with | d b=>
  cases b;refine .quiet h (Ks (x:=.int k (k.wrap n)) ?_) (.d (.int _ _));simp only [convert,Sem.run_bind,run_underlying p.und,run_underlying o.und,Result.andThen_ok];simp [Conv.intToInt]
theorem qy2 {f : FuncId} {first b : Array Operand} {j : List V} (h : RelS w Z inj st a Ds) (k : first.size = 0) (m : evL st.ev b.toList = some j) :
    Y6 st st (match allD j with | some ds=>.d (.fn f ds) | none=>.fn f j) w Z inj ((do pure (Next.value (← Instr.makeFunc (.func f) (first.map a.eval) (b.map a.eval))) : Sem Next).run P w):=by
  have g:=q4a h m;have l : first.map a.eval = #[]:=by apply Array.eq_empty_of_size_eq_zero;simpa using k
  have o : (b.toList.map a.eval).toArray = b.map a.eval:=by apply Array.ext';simp
  rw [o] at g;refine .quiet h (Ks (x:=.func (.func f) #[] (b.map a.eval)) (by simp [Instr.makeFunc,l])) ?_;split
  · rename_i ds hd;have:=q42 hd;subst this;refine .d (.fn (by simpa using g.1) fun i d c hd n=>?_);have:=g.2 i (.d d) c (by simp [hd]) n
    cases this with | d h=>exact h
  · exact .fn g.1 g.2
theorem qy1 {f : FuncId} {first b : Array Operand} {j : List V} {ds : List DV} (h : RelS w Z inj st a Ds) (k : b.size = 0) (m : evL st.ev first.toList = some j) (hd : allD j = some ds) :
    Y6 st st (.d (.bfn f ds)) w Z inj ((do pure (Next.value (← Instr.makeFunc (.func f) (first.map a.eval) (b.map a.eval))) : Sem Next).run P w):=by
  have g:=q4a h m;have l : b.map a.eval = #[]:=by apply Array.eq_empty_of_size_eq_zero;simpa using k
  have o : (first.toList.map a.eval).toArray = first.map a.eval:=by apply Array.ext';simp
  rw [o] at g;refine .quiet h (Ks (x:=.func (.func f) (first.map a.eval) #[]) (by simp [Instr.makeFunc,l])) ?_;have:=q42 hd;subst this;refine .d (.bfn (by simpa using g.1) fun i d c hd n=>?_);have:=g.2 i (.d d) c (by simp [hd]) n
  cases this with | d h=>exact h
theorem qno {x : Operand} {k : Nat} {v : V} (h : RelS w Z inj st a Ds) (l : (∃ b d,st.ev x = some (.d (.tup b))∧b[k]? = some d∧v = .d d)∨∃ b,st.ev x = some (.tup b)∧b[k]? = some v) :
    Y6 st st v w Z inj ((do pure (Next.value (← Instr.extract (a.eval x) k)) : Sem Next).run P w):=by
  rcases l with ⟨b,d,l,g,rfl⟩ | ⟨b,l,g⟩
  · have f:=Ki h l;generalize a.eval x = vx at f ⊢
    cases f with | d f=>
    cases f with | @tup _ cs hl hr=>
    obtain ⟨c,j⟩:=Yg (xs:=cs) (i:=k) (by have:=Kj g;omega);exact .quiet h (Ks (x:=c) (by simp [Instr.extract,j])) (.d (hr _ _ _ g j))
  · have f:=Ki h l;generalize a.eval x = vx at f ⊢
    cases f with | @tup _ cs hl hr=>
    obtain ⟨c,j⟩:=Yg (xs:=cs) (i:=k) (by have:=Kj g;omega);exact .quiet h (Ks (x:=c) (by simp [Instr.extract,j])) (hr _ _ _ g j)
theorem qjf {nx : Nat} {v : V} {x : Value} {cs : List V} (h : RelV w Z inj nx v x) (a : agD v = some cs) : ∃ xs,x = .agg xs∧LRel w Z inj nx cs xs:=by
  unfold agD at a;split at a <;> simp at a
  · subst a
    cases h with | d h=>
    cases h with | @agg _ X hl hr=>
    refine ⟨X,rfl,by simpa using hl,fun i d c hd g=>?_⟩;simp only [List.getElem?_map,Yc] at hd;obtain ⟨f,b,rfl⟩:=hd;exact .d (hr i f c b g)
  · subst a
    cases h with | @agg _ X hl hr=>exact ⟨X,rfl,hl,hr⟩
theorem qxv {s : TypeId} {i : TI} {x : Operand} {g v : V} {f off size : Nat} {j : Bool} {cs r : List V} (h : RelS w Z inj st a Ds) (hi : tiOf P s = some i) (hx : st.ev x = some g) (o : i.kind = .struct) (t : i.flds[f]? = some (off,size,j))
    (ha : agD g = some cs) (hs : sub cs off size = some r) (hp : pack j r = some v) :
    Y6 st st v w Z inj ((do pure (Next.value (← Instr.field s (a.eval x) f)) : Sem Next).run P w):=by
  obtain ⟨l,d,z,k⟩:=Yx hi;have b:=k.kind;unfold Zr at b;simp only [o] at b;obtain ⟨fs,rfl,c⟩:=b;obtain ⟨fd,jf,df,u,n,g3,q,g5,m,p⟩:=qgp c t;obtain ⟨xs,he,hl⟩:=qjf (Ki h hx) ha;subst q m p;obtain ⟨y,hy,hr⟩:=qnv (P:=P) n g3 hl hs hp;refine .quiet h (Ks (x:=y) ?_) hr;simp only [Instr.field,Sem.run_bind,run_underlying k.und,Result.andThen_ok,u,he,asAgg,Sem.run_pure,hy]
theorem qxx {t : TypeId} {i : TI} {x f : Operand} {j v : V} {k0 : IntKind} {n : Int} {cs r : List V} (h : RelS w Z inj st a Ds) (hi : tiOf P t = some i) (hx : st.ev x = some j) (hn : st.ev f = some (.d (.int k0 n))) (s : i.kind = .array)
    (ha : agD j = some cs) (p : 0≤n∧n < i.len) (hs : sub cs (n.toNat * i.esize) i.esize = some r) (hp : pack i.eagg r = some v) :
    Y6 st st v w Z inj ((do pure (Next.value (← Instr.index t (a.eval x) (a.eval f))) : Sem Next).run P w):=by
  obtain ⟨o,d,z,k⟩:=Yx hi;have b:=k.kind;unfold Zr at b;simp only [s] at b;obtain ⟨e,ie,de,rfl,l,q,g,g4,g5⟩:=b;obtain ⟨xs,he,u⟩:=qjf (Ki h hx) ha;have c:=Ki h hn;generalize a.eval f = vx at c ⊢
  cases c with | d c=>
  cases c;rw [← g] at hs;rw [← g5] at hp;obtain ⟨y,m,hr⟩:=qnv (P:=P) l q u hs hp;refine .quiet h (Ks (x:=y) ?_) hr;simp only [Instr.index,asIntOf,Sem.run_bind,Sem.run_pure,run_underlying k.und,Result.andThen_ok,he];rw [Sem.run_ite,Q1 p];simp only [Sem.run_bind,Zy l,Result.andThen_ok,g];rw [g] at m;exact m
theorem qxz {t : TypeId} {i : TI} {x j : Operand} {k0 : IntKind} {n : Int} {s : ByteArray} {b : UInt8} (h : RelS w Z inj st a Ds) (hi : tiOf P t = some i) (m : st.ev x = some (.d (.str s))) (o : st.ev j = some (.d (.int k0 n))) (p : i.kind = .str)
    (hb : (if 0≤n then s[n.toNat]? else none) = some b) :
    Y6 st st (.d (.int .u8 b.toNat)) w Z inj ((do pure (Next.value (← Instr.index t (a.eval x) (a.eval j))) : Sem Next).run P w):=by
  obtain ⟨l,d,z,k⟩:=Yx hi;have c:=k.kind;unfold Zr at c;simp only [p] at c;obtain ⟨rfl,_⟩:=c;have f:=Ki h m;have g:=Ki h o;generalize a.eval x = vy at f ⊢;generalize a.eval j = vx at g ⊢
  cases f with | d f=>
  cases f
  cases g with | d g=>
  cases g;refine .quiet h (Ks (x:=.int .u8 b.toNat) ?_) (.d (.int _ _));simp only [Instr.index,asIntOf,Sem.run_bind,Sem.run_pure,run_underlying k.und,Result.andThen_ok,hb]
theorem qxw {s : TypeId} {i : TI} {p : Operand} {pv v : V} {f off size : Nat} {ag : Bool} (h : RelS w Z inj st a Ds) (hi : tiOf P s = some i) (hx : st.ev p = some pv) (hk : i.kind = .struct) (y : i.flds[f]? = some (off,size,ag))
    (hp : qgm off pv = some v) :
    Y6 st st v w Z inj ((do pure (Next.value (← Instr.fieldAt s (a.eval p) f)) : Sem Next).run P w):=by
  obtain ⟨q,d,z,k⟩:=Yx hi;have l:=k.kind;unfold Zr at l;simp only [hk] at l;obtain ⟨fs,rfl,m⟩:=l;obtain ⟨fd,jf,df,u,g2,g3,r,g5,t,g7⟩:=qgp m y;have g:=Ki h hx;generalize a.eval p = vx at g ⊢
  have c : ∀ b o,(Instr.fieldAt s (.pointer (some ⟨b,o,none⟩)) f).run P w = .ok (.pointer (some ⟨b,o + off,none⟩)) w:=by
    intro b o;simp only [Instr.fieldAt,Instr.sureAddr,fieldPlace,Sem.run_bind,run_underlying k.und,Result.andThen_ok,u,Sem.run_pure,Zy g2,Sem.run_ite,r,Q2 g5,Uf,t]
  cases pv <;> simp only [qgm,reduceCtorEq,Option.some.injEq] at hp
  case ref n es ii j=>
    subst hp
    cases g with | @ref _ _ _ _ b o h1 h2=>
    refine .quiet h (Ks (c _ _)) ?_;have:=RelV.ref (w:=w) (Z:=Z) (nx:=st.nx) (es:=es) (i:=ii) (j:=j + off) h1 h2
    rwa [show o + (ii * es + (j + off)) = o + (ii * es + j) + off by omega] at this
  case dref cs j=>
    subst hp
    cases g with | @dref _ _ b o h1 h2 g=>
    refine .quiet h (Ks (c _ _)) ?_;have:=RelV.dref (inj:=inj) (nx:=st.nx) (j:=j + off) h1 h2 g
    rwa [← Nat.add_assoc] at this
  case d x=>
    cases x <;> simp only [reduceCtorEq,Option.some.injEq] at hp
    subst hp
    cases g with | d g=>
    cases g with | box h1 h2 g=>
    exact .quiet h (Ks (c _ _)) (RelV.dref (inj:=inj) (nx:=st.nx) (j:=off) h1 h2 g)
theorem qxy {t : TypeId} {i : TI} {x ix : Operand} {xv v : V} {k0 : IntKind} {n : Int} (h : RelS w Z inj st a Ds) (hi : tiOf P t = some i) (hx : st.ev x = some xv) (hn : st.ev ix = some (.d (.int k0 n)))
    (hp : q4g i xv n = some v) :
    Y6 st st v w Z inj ((do pure (Next.value (← Instr.indexAt t (a.eval x) (a.eval ix))) : Sem Next).run P w):=by
  obtain ⟨ai,d,z,k⟩:=Yx hi;have p:=k.kind;unfold Zr at p;have u:=Ki h hn;generalize a.eval ix = vx at u ⊢
  cases u with | d u=>
  cases u;have l:=Ki h hx;generalize a.eval x = vx at l ⊢
  have r : i.kind = .slice→∀ b o len cap,0≤n→n < (len : Nat)→(Instr.indexAt t (.slice (some ⟨b,o,none⟩) len cap) (.int k0 n)).run P w = .ok (.pointer (some ⟨b,o + n.toNat * i.esize,none⟩)) w:=by
    intro s b o len cap f q;simp only [s] at p;obtain ⟨e,ie,de,ze,rfl,g1,g2,g3,g4,g5,g6,_⟩:=p;simp only [Instr.indexAt,asIntOf,Sem.run_bind,Sem.run_pure,run_underlying k.und,Result.andThen_ok];rw [Sem.run_ite,Q1 ⟨f,q⟩];simp only [Sem.run_bind,Zy g1,Result.andThen_ok,Sem.run_pure,Uf,g6]
  have g : i.kind = .array→∀ b o,0≤n→n < i.len→(Instr.indexAt t (.pointer (some ⟨b,o,none⟩)) (.int k0 n)).run P w = .ok (.pointer (some ⟨b,o + n.toNat * i.esize,none⟩)) w:=by
    intro s b o f q;simp only [s] at p;obtain ⟨e,ie,de,rfl,g1,g2,g3,g4,_⟩:=p;simp only [Instr.indexAt,asIntOf,Instr.sureAddr,Sem.run_bind,Sem.run_pure,run_underlying k.und,Result.andThen_ok];rw [Sem.run_ite,Q1 ⟨f,q⟩];simp only [Sem.run_bind,Zy g1,Result.andThen_ok,Sem.run_pure,Uf,g3]
  cases s : i.kind <;> simp only [q4g,s,reduceCtorEq] at hp
  case slice=>
    cases xv <;> (try simp only [reduceCtorEq] at hp)
    case d x=>
      cases x <;> (try simp only [reduceCtorEq] at hp)
      rename_i es xs;split at hp <;> simp at hp
      rename_i f;obtain ⟨f,he⟩:=f;obtain ⟨cs,aa,rfl⟩:=hp;have y:=Kj aa
      cases l with | d l=>
      cases l with
      | slnil=>simp at y
      | slemp=>simp at y
      | @sl _ _ b o cap q h2 h4 h5 h6=>
        refine .quiet h (Ks (r s _ _ _ _ f q6)) ?_
        have:=RelV.dref (w:=w) (Z:=Z) (inj:=inj) (nx:=st.nx) (cs:=cs) (j:=0) (b:=b) (o:=o + n.toNat * i.esize) (h2 (by rintro rfl;simp at y))
          (fun k d hd=>by have:=(h5 n.toNat cs k d aa hd).2;rwa [he,← Nat.add_assoc] at this)
          (fun k d c hd hc=>h6 n.toNat cs k d c aa hd (by rwa [he,← Nat.add_assoc]))
        simpa using this
    case hs m es off len=>
      split at hp <;> simp at hp
      rename_i f;obtain ⟨f,q,he⟩:=f;subst hp
      cases l with
      | hsnil=>omega
      | @hs _ _ _ _ cap ad hn hle _ hcap=>
        obtain ⟨b,o,hi,rfl,_⟩:=hcap q6;refine .quiet h (Ks (r s _ _ _ _ f q6)) ?_;have:=RelV.ref (w:=w) (Z:=Z) (nx:=st.nx) (es:=es) (i:=off + n.toNat) (j:=0) hn hi;rw [show o + off * es + n.toNat * i.esize = o + ((off + n.toNat) * es + 0) by rw [← he,Nat.add_mul];omega];exact this
  case array=>
    cases xv <;> (try simp only [reduceCtorEq] at hp)
    case ref m es e j=>
      split at hp <;> simp at hp
      rename_i f;subst hp
      cases l with | @ref _ _ _ _ b o q h2=>
      refine .quiet h (Ks (g s _ _ f.1 f.2)) ?_;have:=RelV.ref (w:=w) (Z:=Z) (nx:=st.nx) (es:=es) (i:=e) (j:=j + n.toNat * i.esize) q h2
      rwa [← Nat.add_assoc,← Nat.add_assoc,Nat.add_assoc o] at this
    case dref cs j=>
      split at hp <;> simp at hp
      rename_i f;subst hp
      cases l with | @dref _ _ b o q h2 l=>
      refine .quiet h (Ks (g s _ _ f.1 f.2)) ?_;have:=RelV.dref (inj:=inj) (nx:=st.nx) (j:=j + n.toNat * i.esize) q h2 l
      rwa [← Nat.add_assoc] at this
    case d x=>
      cases x <;> (try simp only [reduceCtorEq] at hp)
      split at hp <;> simp at hp
      rename_i f;subst hp
      cases l with | d l=>
      cases l with | box q h2 l=>
      exact .quiet h (Ks (g s _ _ f.1 f.2)) (RelV.dref (inj:=inj) (nx:=st.nx) (j:=n.toNat * i.esize) q h2 l)
end
end Go.Am
namespace Go.Am
open Go
variable {P : Program} {T : Tab}
theorem qj1 {n : Int} (h : -9223372036854775808≤n∧n≤9223372036854775807) : IntKind.i64.wrap n = n:=by rw [IntKind.wrap_i64];omega
theorem qjv {es i a j : Nat} (c : j < es) : (i * es≤a * es + j∧a * es + j < i * es + es)↔a = i:=by
  constructor
  · intro ⟨b,d⟩;rcases Nat.lt_trichotomy a i with h | h | h
    · have:=Nat.mul_le_mul_right es (show a + 1≤i from h);rw [Nat.add_mul] at this;omega
    · exact h
    · have:=Nat.mul_le_mul_right es (show i + 1≤a from h);rw [Nat.add_mul] at this;omega
  grind
theorem q48 {es n i j : Nat} (hi : i < n) (a : j < es) : i * es + j < n * es:=by
  have:=Nat.mul_le_mul_right es (show i + 1≤n from hi);rw [Nat.add_mul] at this;omega
section
variable {w : World} {Z : Nat→Prop} {inj : Inj} {st : AS} {a : Act} {Ds : List Nat}
theorem qjr {b y : Nat} {o : Option Operand} {n : Nat} {code : BoundsCode} (h : RelS w Z inj st a Ds) (hb : bound st b o = some n) (j : n≤y) :
    (∀ op,o = some op→(Instr.sliceBound (a.eval op) y code).run P w = .ok n w)∧(o = none→n = b):=by
  cases o with
  | none=>simp [bound] at hb;exact ⟨qg,fun _=>hb.symm⟩
  | some op=>
    refine ⟨fun g e=>?_,qg⟩;cases e;simp only [bound] at hb;split at hb <;> try simp at hb
    rename_i k m f;have c:=Ki h f;generalize a.eval op = vx at c ⊢
    cases c with | d c=>
    cases c;obtain ⟨l,rfl⟩:=hb;simp only [Instr.sliceBound,asIntOf,Sem.run_bind,Sem.run_pure,Result.andThen_ok];simp_all
theorem qy4 {t : TypeId} {i : TI} {x : Operand} {xv v : V} {lo hi : Option Operand} {n p q : Nat} (h : RelS w Z inj st a Ds) (ht : tiOf P t = some i) (hk : i.kind = .slice) (f : st.ev x = some xv) (s : lenV xv = some n)
    (al : bound st 0 lo = some p) (aj : bound st n hi = some q) (hs : qf0 i.esize xv p q = some v) :
    Y6 st st v w Z inj ((do pure (Next.value (← Instr.sliceAt t (a.eval x) (lo.map a.eval) (hi.map a.eval) none)) : Sem Next).run P w):=by
  obtain ⟨ar,d,z,k⟩:=Yx ht;have ab:=k.kind;unfold Zr at ab;simp only [hk] at ab;obtain ⟨e,ie,de,ze,rfl,g1,g2,g3,g4,g5,g6,g7,_⟩:=ab;have h3:=Ki h f;generalize a.eval x = vx at h3 ⊢
  have run : ∀ ad len cap,len = n→q≤cap→p≤q→(Instr.sliceAt t (.slice ad len cap) (lo.map a.eval) (hi.map a.eval) none).run P w = .ok (.slice (if cap = p then ad else ad.map (·.add (p * i.esize))) (q - p) (cap - p)) w:=by
    intro ad len cap hl hq hp;obtain ⟨l1,l2⟩:=qjr (P:=P) (y:=q) (code:=.sliceB) h al hp;obtain ⟨r1,r2⟩:=qjr (P:=P) (y:=cap) (code:=.sliceAcap) h aj hq;simp only [Instr.sliceAt,Sem.run_bind,run_underlying k.und,Result.andThen_ok,Instr.slice,Instr.sliceBounds,Zy g1,g6]
    cases hi with
    | none=>
      have:=r2 rfl;subst this
      cases lo with
      | none=>have:=l2 rfl;subst this;simp [hl]
      | some o=>simp [hl,l1 o rfl]
    | some o'=>
      cases lo with
      | none=>have:=l2 rfl;subst this;simp [r1 o' rfl]
      | some o=>simp [r1 o' rfl,l1 o rfl]
  cases xv <;> simp only [qf0,reduceCtorEq] at hs
  case d x=>
    cases x <;> simp only [reduceCtorEq] at hs
    case nilsl=>
      split at hs <;> simp at hs
      rename_i u;obtain ⟨rfl,rfl⟩:=u;subst hs;simp [lenV] at s
      cases h3 with | d h3=>
      cases h3;exact .quiet h (Ks (run _ _ _ s q6 q6)) (by simpa using RelV.d .nilsl)
    case sl es xs=>
      split at hs <;> simp at hs
      rename_i u;obtain ⟨u,h1,he⟩:=u;subst hs;simp [lenV] at s
      cases h3 with | d h3=>
      cases h3 with
      | slnil=>
        simp at h1 s;obtain ⟨rfl,rfl⟩ : q = 0∧p = 0:=by omega
        exact .quiet h (Ks (run _ _ _ s q6 q6)) (by simpa using RelV.d (.slnil _))
      | slemp=>
        simp at h1 s;obtain ⟨rfl,rfl⟩ : q = 0∧p = 0:=by omega
        exact .quiet h (Ks (run _ _ _ s q6 q6)) (by simpa using RelV.d (.slemp _ _))
      | @sl _ _ b o cap hc hz hl hcell hrel=>
        refine .quiet h (Ks (run _ _ _ s q6 u)) ?_;have l : ((xs.drop p).take (q - p)).length = q - p:=by simp;omega
        have r : ∀ (i : Nat) (x : List DV),((xs.drop p).take (q - p))[i]? = some x→xs[p + i]? = some x:=by
          intro i x f;rw [List.getElem?_take] at f;split at f
          · rwa [List.getElem?_drop] at f
          · simp at f
        by_cases g : cap = p
        · rw [Q1 g];have h9 : (xs.drop p).take (q - p) = []:=List.eq_nil_of_length_eq_zero (by rw [l];omega);have h8 : q - p = 0:=by omega
          rw [h9,h8];exact .d (RelD.sl (es:=es) (xs:=[]) qg qg qg qg qg)
        · rw [Q2 g,Option.map_some,Uf]
          have e2 : ∀ k j,o + p * i.esize + (k * es + j) = o + ((p + k) * es + j):=by
            intro k j;rw [← he,Nat.add_mul];omega
          have:=RelD.sl (w:=w) (Z:=Z) (es:=es) (xs:=(xs.drop p).take (q - p)) (b:=b) (o:=o + p * i.esize) (cap:=cap - p) (by rw [l];omega) (fun ac=>hz (by rintro rfl;simp at ac)) (fun i x f=>hl _ _ (r i x f))
            (fun k x j d f hd=>by rw [e2];exact hcell _ _ j d (r k x f) hd)
            (fun k x j d c f hd hc=>hrel _ _ j d c (r k x f) hd (by rw [e2] at hc;exact hc))
          rw [l] at this;exact .d this
  case hs m es off len=>
    split at hs <;> simp at hs
    rename_i u;obtain ⟨u,h1,he⟩:=u;subst hs;simp [lenV] at s
    cases h3 with
    | hsnil hm=>
      obtain ⟨rfl,rfl⟩ : q = 0∧p = 0:=by omega
      exact .quiet h (Ks (run _ _ _ s q6 q6)) (by simpa using RelV.hsnil (es:=es) (off:=off) hm)
    | @hs _ _ _ _ cap ad hm hc hsp hcap=>
      refine .quiet h (Ks (run _ _ _ s q6 u)) ?_;by_cases g : cap = p
      · rw [Q1 g];exact .hs hm q6 hsp (fun ac=>q6)
      · rw [Q2 g,Option.map_some];obtain ⟨b,o,hi,rfl,ao⟩:=hcap q6;rw [Uf];refine .hs hm q6 rfl fun _=>⟨b,o,hi,?_,?_⟩
        · rw [he,Nat.add_mul,← Nat.add_assoc]
        · rwa [show off + p + (cap - p) = off + cap by omega]
theorem qj6 {b : Value} {es n i j : Nat} {ds : List DV} (p : b.cells.toList.mapM Js = some ds) (h : ds.length = es) (hi : i < n) {d : DV} (hd : ds[j]? = some d) :
    ∃ c,((Array.range (n * es)).map (b.cells[· % b.cells.size]!))[i * es + j]? = some c∧RelD w Z d c∧Zv d = true:=by
  obtain ⟨o,k⟩:=q9b (w:=w) (Z:=Z) p;obtain ⟨c,m,l,a,_⟩:=k j d hd;have g : j < es:=by have:=Kj hd;omega
  refine ⟨c,?_,l,a⟩;have f:=q48 hi g;rw [Array.getElem?_map,Array.getElem?_range];simp only [f,if_true,Option.map_some];have : (i * es + j) % b.cells.size = j:=by rw [← o,h,Nat.mul_comm,Nat.mul_add_mod,Nat.mod_eq_of_lt g]
  grind
theorem qy3 {t : TypeId} {i : TI} {l c : Operand} {k1 y : IntKind} {n m : Int} (h : RelS w Z inj st a Ds) (ht : tiOf P t = some i) (hk : i.kind = .slice) (hl : st.ev l = some (.d (.int k1 n))) (s : st.ev c = some (.d (.int y m)))
    (h0 : 0≤n) (h1 : n≤m) (r : m * (i.ebytes * 4)≤room) :
    Y6 st (st.new (.dat i.esize (List.replicate n.toNat i.ezero))) (.hs st.nx i.esize 0 n.toNat) w Z inj ((do pure (Next.value (← Instr.makeSlice t (a.eval l) (a.eval c))) : Sem Next).run P w):=by
  obtain ⟨ac,d,z,k⟩:=Yx ht;have f:=k.kind;unfold Zr at f;simp only [hk] at f;obtain ⟨e,ie,de,v,rfl,g1,g2,g3,g4,g5,g6,g7,g8,g9,_⟩:=f;have p:=Ki h hl;have o:=Ki h s;generalize a.eval l = vl at p ⊢;generalize a.eval c = vc at o ⊢
  cases p with | d p=>
  cases p
  cases o with | d o=>
  cases o
  have hm : m≤4294967296:=by
    have e1 : (1 : Int)≤(i.ebytes : Int) * 4:=by omega
    have:=Int.mul_le_mul_of_nonneg_left e1 (show (0:Int)≤m by omega);unfold room at r;omega
  have hb : (i.ebytes : Int) * m≤281474976710656:=by
    unfold room at r;grind
  have w1 : IntKind.i64.wrap n = n:=qj1 q6;have w2 : IntKind.i64.wrap m = m:=qj1 q6;obtain ⟨N,rfl⟩:=Int.eq_ofNat_of_zero_le h0;obtain ⟨M,rfl⟩:=Int.eq_ofNat_of_zero_le (show 0≤m by omega);simp only [Int.toNat_natCast];have b:=run_make (P:=P) w t e ie v k.und g1 g3 k1 y (N : Int) (M : Int) h0 h1 (by rw [g8];exact hb) q6;simp only [Int.toNat_natCast,g6] at b;have u : N≤M:=by omega
  refine .new h (Ks b) ?_ ?_
  · refine ⟨g7,?_,.inr ⟨w.heap.size,0,_,e,Yf _ _ _,q16 _ _,?_⟩⟩
    · grind
    · intro j x j' d q hd;rw [List.getElem?_replicate] at q;split at q <;> simp at q
      rename_i hj;subst q;obtain ⟨c,s,r,g⟩:=qj6 (w:=w.alloc (.cells (madeCells v.cells (M * i.esize)) e)) (Z:=Z) g4 g5 (show j < M by omega) hd;exact ⟨g,c,by rw [Nat.zero_add];exact s,r⟩
  · refine .hs q6 u rfl fun _=>⟨w.heap.size,0,Yf _ _ _,qg,?_⟩
    exact ⟨_,_,_,q16 _ _,by rw [size_madeCells];simp⟩
def ERel (w : World) (Z : Nat→Prop) (inj : Inj) (nx es : Nat) (xs : List (List V)) (C : Array Value) : Prop:=
  C.size = xs.length * es∧(∀ (i : Nat) (x : List V),xs[i]? = some x→x.length = es)∧
    ∀ (i : Nat) (x : List V) (j : Nat) (d : V),xs[i]? = some x→x[j]? = some d→Kt d = true∧∃ c,C[i * es + j]? = some c∧RelV w Z inj nx d c
theorem qkr {es : Nat} : ∀ {f : List (Nat × V)} {l : List (Nat × List V)},elems es f = some l→l.length = f.length∧∀ (k i : Nat) (v : V),f[k]? = some (i,v)→(cellsOf v).length = es∧(cellsOf v).all Kt = true∧l[k]? = some (i,cellsOf v)
  | [],l,h=>by simp [elems] at h;subst h;simp
  | (i,v)::r,l,h=>by
    simp only [elems] at h
    split at h
    · rename_i l' m
      split at h
      · rename_i g
        simp at h;subst h
        obtain ⟨n,o⟩:=qkr m
        refine ⟨by simp [n],fun k p j d=>?_⟩
        cases k with
        | zero=>simp at d;obtain ⟨rfl,rfl⟩:=d;exact ⟨g.1,g.2,qg⟩
        | succ k=>simp at d;obtain ⟨a,b,c⟩:=o k p j d;exact ⟨a,b,by simpa using c⟩
      · simp at h
    · simp at h
theorem ERel.set {w : World} {nx es : Nat} {xs : List (List V)} {C k : Array Value} {ys : List V} {i : Nat} (h : ERel w Z inj nx es xs C) (m : LRel w Z inj nx ys k) (t : ys.length = es) (n : ys.all Kt = true) (hi : i < xs.length) :
    ERel w Z inj nx es (xs.set i ys) (Am.splice C.toList (i * es) k.toList).toArray:=by
  obtain ⟨p,r,s⟩:=h;have g : k.toList.length = es:=by have:=m.1;simp;omega
  have a : i * es + k.toList.length≤C.toList.length:=by
    rw [g,Array.length_toList,p];have:=Nat.mul_le_mul_right es (show i + 1≤xs.length from hi);rw [Nat.add_mul] at this;omega
  refine ⟨by simp [q32 _ _ _ a,p],?_,?_⟩
  · grind
  · intro j x l d f hd;rw [List.getElem?_set] at f;by_cases b : i = j
    · subst b;rw [Q1 rfl,Q1 hi] at f;simp at f;subst f;have q:=Kj hd;obtain ⟨c,o⟩:=Yg (xs:=k) (i:=l) (by have:=m.1;omega);refine ⟨List.all_eq_true.1 n _ (List.mem_of_getElem? hd),c,?_,m.2 _ _ _ hd o⟩;rw [List.getElem?_toArray,q12 _ _ _ _ a,Q1 (by rw [g];omega),show i * es + l - i * es = l by omega];grind
    · rw [Q2 b] at f;obtain ⟨v,c,y,u⟩:=s j x l d f hd;refine ⟨v,c,?_,u⟩;rw [List.getElem?_toArray,q12 _ _ _ _ a,Q2 ?_]
      · grind
      · rw [g];intro o;exact b ((qjv (by have:=Kj hd;have:=r j x f;omega)).1 o).symm
theorem ql4 {w : World} {nx es : Nat} : ∀ (f : List (Nat × V)) (xs : List (Nat × Value)) (l : List (Nat × List V)) (cs c : List (List V)) (C : Array Value),
    f.length = xs.length→(∀ (k : Nat) (i : Nat) (v : V),f[k]? = some (i,v)→∃ x,xs[k]? = some (i,x)∧RelV w Z inj nx v x)→
    l.length = f.length→(∀ (k : Nat) (i : Nat) (v : V),f[k]? = some (i,v)→(cellsOf v).length = es∧(cellsOf v).all Kt = true∧l[k]? = some (i,cellsOf v))→
    ERel w Z inj nx es cs C→q4b cs l = some c→∃ n,Instr.fill (fun i=>some (i * es,es)) C xs = some n∧ERel w Z inj nx es c n∧c.length = cs.length
  | [],xs,l,cs,c,C,h1,_,h3,_,h5,h6=>by
    have : xs = []:=by cases xs <;> simp_all
    have : l = []:=by cases l <;> simp_all
    subst_vars
    simp [q4b] at h6;subst h6
    exact ⟨C,by simp [Instr.fill],h5,rfl⟩
  | (i,v)::f,xs,l,cs,c,C,h1,h2,h3,h4,h5,h6=>by
    match xs,l,h1,h3 with
    | (i',x)::xs,(o',ys)::l,h1,h3=>
      obtain ⟨x',g,z⟩:=h2 0 i v rfl
      simp at g;obtain ⟨rfl,rfl⟩:=g
      obtain ⟨y,s,h⟩:=h4 0 i' v rfl
      simp at h;obtain ⟨rfl,rfl⟩:=h
      obtain ⟨t,q2,q3⟩:=qdh z s
      simp only [q4b] at h6
      split at h6
      · rename_i d
        obtain ⟨n,r,m,j⟩:=ql4 f xs l (cs.set o' (cellsOf v)) c (splice C.toList (o' * es) x.cells.toList).toArray (by simpa using h1)
          (fun k i v p=>by obtain ⟨x,q⟩:=h2 (k + 1) i v (by simpa using p);exact ⟨x,by simpa using q⟩) (by simpa using h3)
          (fun k i v p=>by obtain ⟨a,b,q⟩:=h4 (k + 1) i v (by simpa using p);exact ⟨a,b,by simpa using q⟩)
          (h5.set ⟨t,q2⟩ y s d) h6
        refine ⟨n,?_,m,by simpa using j⟩
        have u : o' * es + es≤C.size:=by
          rw [h5.1];have:=Nat.mul_le_mul_right es (show o' + 1≤cs.length from d);rw [Nat.add_mul] at this;omega
        have o : x.cells.size = es:=by omega
        simp only [Instr.fill,o]
        have : ¬ ((decide (es≠es) || decide (o' * es + es > C.size)) = true):=by simp;omega
        rw [Q2 (by simpa using this)]
        rw [qlc x.cells C (o' * es) q6]
        exact r
      · simp at h6
theorem qxr {t : TypeId} {i : TI} {len : Nat} {g : Array (Nat × Operand)} {s : List (Nat × V)} {l : List (Nat × List V)} {xs : List (List V)} (h : RelS w Z inj st a Ds) (ht : tiOf P t = some i) (hv : Jw st.ev g.toList = some s)
    (hl : elems i.esize s = some l) (hk : i.kind = .slice) (ab : len * i.esize≤16777216) (hf : q4b (List.replicate len (i.ezero.map .d)) l = some xs) :
    Y6 st (st.new (q6r i.esize xs)) (.hs st.nx i.esize 0 len) w Z inj ((do pure (Next.value (← Instr.buildSlice t len (g.map fun (i,x)=>(i,a.eval x)))) : Sem Next).run P w):=by
  obtain ⟨ah,d,z,k⟩:=Yx ht;have b:=k.kind;unfold Zr at b;simp only [hk] at b;obtain ⟨e,ie,de,q,rfl,g1,g2,g3,g4,g5,g6,g7,g8,g9,_⟩:=b;obtain ⟨p1,p2⟩:=ql0 h hv;obtain ⟨q1,q2⟩:=qkr hl;have aa : ∀ (k i : Nat) (v : V),s[k]? = some (i,v)→∃ x,(g.toList.map fun (x : Nat × Operand)=>(x.1,a.eval x.2))[k]? = some (i,x)∧RelV w Z inj st.nx v x:=by grind
  have y : ERel w Z inj st.nx i.esize (List.replicate len (i.ezero.map .d)) ((Array.range (len * i.esize)).map (q.cells[· % q.cells.size]!)):=by
    refine ⟨qg,?_,?_⟩
    · grind
    · intro j x j' d m hd;rw [List.getElem?_replicate] at m;split at m <;> simp at m
      rename_i hj;subst m;simp only [List.getElem?_map,Yc] at hd;obtain ⟨d',ad,rfl⟩:=hd;obtain ⟨c,hc,p,f⟩:=qj6 (w:=w) (Z:=Z) g4 g5 hj ad;exact ⟨f,c,hc,.d p⟩
  obtain ⟨r,hC,p,n⟩:=ql4 s (g.toList.map fun (x : Nat × Operand)=>(x.1,a.eval x.2)) l _ xs _ (by simp [p1]) aa q1 q2 y hf;have bd : Instr.fill (fun j=>some (j * i.esize,i.esize)) ((Array.range (len * i.esize)).map (q.cells[· % q.cells.size]!)) (g.map fun (x : Nat × Operand)=>(x.1,a.eval x.2)).toList = some r:=by simpa using hC
  have o : (Instr.buildSlice t len (g.map fun (i,x)=>(i,a.eval x))).run P w = .ok (.slice (some ⟨w.heap.size,0,none⟩) len len) (w.alloc (.cells r e)):=by
    have hn : ¬ (len * i.esize > 2 ^ 24):=by omega
    have ag : (do let x ← newRow e r;pure (Value.slice (some x) len len) : Sem Value).run P w = .ok (.slice (some ⟨w.heap.size,0,none⟩) len len) (w.alloc (.cells r e)):=by simp [newRow]
    by_cases hz : len * i.esize = 0
    · simp only [Instr.buildSlice,Sem.run_bind,run_underlying k.und,Result.andThen_ok,Zy g1,g6];grind
    · simp only [Instr.buildSlice,Sem.run_bind,run_underlying k.und,Result.andThen_ok,Zy g1,g6];rw [Q2 hn,Q2 hz];have aq : (zeroValue e).run P w = .ok q w:=by simp [zeroValue,typeInfo,g1,g3]
      simp_all
  have u : xs.length = len:=by simpa using n
  refine .new h (Ks o) ?_ ?_
  · refine qoi g7 (Yf _ _ _) (q16 _ _) p.2.1 ?_;intro j x j' d m hd;obtain ⟨h1,c,h2,h3⟩:=p.2.2 j x j' d m hd;exact ⟨h1,c,h2,qol h _ h3⟩
  · refine .hs q6 (Nat.le_refl _) rfl fun _=>⟨w.heap.size,0,Yf _ _ _,qg,?_⟩
    exact ⟨_,_,_,q16 _ _,by rw [p.1,u];simp⟩
end
end Go.Am
