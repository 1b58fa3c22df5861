/- Am6 Am7 Am8 Am9 Am10 Am11 Am12 -/
import Derived.Test.YtiejlbckgihckaaK1
import Derived.Laws.MakeOwn
namespace Go.Am
open Go
variable {P : Program} {T : Tab}
theorem q6z {α β : Type} {f : α→Option β} : ∀ {l : List α} {r : List β},l.mapM f = some r→r.length = l.length∧∀ (i : Nat) (x : α),l[i]? = some x→∃ y,r[i]? = some y∧f x = some y
  | [],r,h=>by simp at h;subst h;simp
  | a::l,r,h=>by
    rw [List.mapM_cons] at h
    cases c : f a with
    | none=>simp [c] at h
    | some b=>
      cases g : l.mapM f with
      | none=>simp [c,g] at h
      | some s=>
        simp [c,g] at h
        subst h
        obtain ⟨k,m⟩:=q6z g
        refine ⟨by simp [k],?_⟩
        intro i x d
        cases i with
        | zero=>simp at d;subst d;exact ⟨b,qb,c⟩
        | succ i=>simp at d;obtain ⟨y,j⟩:=m i x d;exact ⟨y,by simpa using j⟩
theorem Y8 {α β : Type} {l : List α} {r : List β} (a : r.length = l.length) {i : Nat} {y : β} (h : r[i]? = some y) : ∃ x,l[i]? = some x:=
  Z5 (by have:=K9 h;omega)
def Yt (P : Program) (_t : TypeId) (i : TI) (d : TypeDesc) : Prop:=match i.kind with
  | .bool=>d = .bool∧i.size = 1
  | .int k=>d = .int k∧i.size = 1
  | .str=>d = .string∧i.size = 1
  | .ptr=>(∃ e,d = .pointer e)∧i.size = 1
  | .func=>(∃ a b c,d = .func a b c)∧i.size = 1
  | .slice=>∃ e ie de ze,d = .slice e∧P.info? e = some ie∧P.underlying e = some de∧ie.zero = some ze∧ze.cells.toList.mapM Z4 = some i.ezero∧i.ezero.length = i.esize∧ie.size = i.esize∧i.esize≠0∧
      ie.bytes = i.ebytes∧i.ebytes≠0∧K6 de = i.eagg∧i.size = 1
  | .array=>∃ e ie de,d = .array i.len e∧P.info? e = some ie∧P.underlying e = some de∧ie.size = i.esize∧i.esize≠0∧K6 de = i.eagg
  | .map=>∃ kt e ie ze zd ks dk,d = .map kt e∧P.info? e = some ie∧ie.zero = some ze∧Z4 ze = some zd∧Kc P 8 kt = some ks∧P.underlying kt = some dk∧i.keys = some ks∧i.ezero = [zd]∧i.eagg = K6 dk∧i.size = 1
  | .struct=>∃ fs,d = .struct fs∧(fs.toList.mapM fun f=>do
      let jf ← P.info? f.type
      let df ← P.underlying f.type
      if jf.size = 0 then none else some (f.offset,jf.size,K6 df)) = some i.flds
structure TiOk (P : Program) (t : TypeId) (i : TI) (info : TypeInfo) (d : TypeDesc) (z : Value) : Prop where
  inf : P.info? t = some info
  und : P.underlying t = some d
  zero : info.zero = some z
  size : info.size = i.size
  pos : i.size≠0
  cells : z.cells.toList.mapM Z4 = some i.zero
  len : i.zero.length = i.size
  agg : i.agg = K6 d
  kind : Yt P t i d
  eqs : ∀ ks,i.eqs = some ks→Kc P 8 t = some ks∧K6 d = true
  keys : ∀ ks,i.keys = some ks→i.kind = .map
theorem Yb {t : TypeId} {i : TI} (h : tiOf P t = some i) : ∃ g d z,TiOk P t i g d z:=by
  unfold tiOf at h
  cases l : P.info? t with
  | none=>simp [l] at h
  | some g=>
  cases m : P.underlying t with
  | none=>simp [l,m] at h
  | some d=>
  cases o : g.zero with
  | none=>simp [l,m,o] at h
  | some z=>
  cases p : z.cells.toList.mapM Z4 with
  | none=>simp [l,m,o,p] at h
  | some zc=>
  simp only [l,m,o,p,Option.bind_eq_bind,qj] at h;by_cases h5 : zc.length≠g.size∨g.size = 0
  · grind
  · rw [qs h5] at h;have r : zc.length = g.size:=by omega
    have s : g.size≠0:=by omega
    refine ⟨g,d,z,?_⟩;cases d <;> simp only [reduceCtorEq] at h
    case bool=>split at h <;> simp at h;subst h;rename_i hs;exact ⟨l,m,o,rfl,s,p,r,rfl,⟨rfl,hs⟩,qb,qb⟩
    case int k=>split at h <;> simp at h;subst h;rename_i hs;exact ⟨l,m,o,rfl,s,p,r,rfl,⟨rfl,hs⟩,qb,qb⟩
    case string=>split at h <;> simp at h;subst h;rename_i hs;exact ⟨l,m,o,rfl,s,p,r,rfl,⟨rfl,hs⟩,qb,qb⟩
    case pointer e=>split at h <;> simp at h;subst h;rename_i hs;exact ⟨l,m,o,rfl,s,p,r,rfl,⟨⟨_,rfl⟩,hs⟩,qb,qb⟩
    case func a b c=>split at h <;> simp at h;subst h;rename_i hs;exact ⟨l,m,o,rfl,s,p,r,rfl,⟨⟨_,_,_,rfl⟩,hs⟩,qb,qb⟩
    case slice e=>
      cases j : P.info? e with
      | none=>simp [j] at h
      | some ie=>
      cases u : P.underlying e with
      | none=>simp [j,u] at h
      | some de=>
      cases q : ie.zero with
      | none=>simp [j,u,q] at h
      | some ze=>
      cases v : ze.cells.toList.mapM Z4 with
      | none=>simp [j,u,q,v] at h
      | some ezc=>
      simp only [j,u,q,v,qj] at h;split at h
      · simp at h
      · rename_i hs;simp at h;subst h;exact ⟨l,m,o,rfl,s,p,r,rfl,⟨e,ie,de,ze,rfl,j,u,q,v,by show ezc.length = ie.size;omega,rfl,by show ie.size≠0;omega,rfl,by show ie.bytes≠0;omega,rfl,by show g.size = 1;omega⟩,by simp,by simp⟩
    case map kt e=>
      cases j : P.info? e with
      | none=>simp [j] at h
      | some ie=>
      cases q : ie.zero with
      | none=>simp [j,q] at h
      | some ze=>
      cases v : Z4 ze with
      | none=>simp [j,q,v] at h
      | some zd=>
      cases w : Kc P 8 kt with
      | none=>simp [j,q,w] at h
      | some ks=>
      cases y : P.underlying kt with
      | none=>simp [j,q,w,y] at h
      | some dk=>
      simp only [j,q,v,w,y,qj] at h;split at h
      · rename_i hs;simp at h;subst h;exact ⟨l,m,o,rfl,s,p,r,rfl,⟨kt,e,ie,ze,zd,ks,dk,rfl,j,q,v,w,y,rfl,rfl,rfl,hs⟩,qb,fun _ _=>rfl⟩
      · simp at h
    case array n e=>
      cases j : P.info? e with
      | none=>simp [j] at h
      | some ie=>
      cases u : P.underlying e with
      | none=>simp [j,u] at h
      | some de=>
      simp only [j,u,qj] at h;split at h
      · simp at h
      · rename_i hs;simp at h;subst h;exact ⟨l,m,o,rfl,s,p,r,rfl,⟨e,ie,de,rfl,j,u,rfl,hs,rfl⟩,fun ks h=>⟨h,rfl⟩,qb⟩
    case struct fs=>
      cases j : (fs.toList.mapM fun f=>do
          let jf ← P.info? f.type
          let df ← P.underlying f.type
          if jf.size = 0 then none else some (f.offset,jf.size,K6 df)) with
      | none=>simp only [Option.bind_eq_bind] at j;simp only [j,Option.bind_none] at h;simp at h
      | some fl=>
        have x:=j;simp only [Option.bind_eq_bind] at j;simp only [j,qj] at h;simp at h;subst h;exact ⟨l,m,o,rfl,s,p,r,rfl,⟨fs,rfl,x⟩,fun ks h=>⟨h,rfl⟩,qb⟩
section
variable {w : World} {Z : Nat→Prop} {inj : Inj} {nx : Nat}
theorem qbj {v : Value} {d : DV} (h : Z4 v = some d) : RelD w Z d v∧Y6 d = true∧v.oneCell' = true:=by
  unfold Z4 at h;split at h <;> simp at h <;> subst h
  · exact ⟨.int _ _,rfl,rfl⟩
  · exact ⟨.bool _,rfl,rfl⟩
  · exact ⟨.str _,rfl,rfl⟩
  · exact ⟨.nilp,rfl,rfl⟩
  · exact ⟨.nilsl,rfl,rfl⟩
  · exact ⟨.nilf,rfl,rfl⟩
  · exact ⟨.nilm,rfl,rfl⟩
theorem q6k {cs : Array Value} {ds : List DV} (h : cs.toList.mapM Z4 = some ds) : ds.length = cs.size∧∀ (i : Nat) (d : DV),ds[i]? = some d→∃ c,cs[i]? = some c∧RelD w Z d c∧Y6 d = true∧c.oneCell' = true:=by
  obtain ⟨b,g⟩:=q6z h;refine ⟨by simpa using b,fun i d hd=>?_⟩;obtain ⟨c,f⟩:=Y8 b hd;obtain ⟨y,a,j⟩:=g i c f;rw [hd] at a;cases a;exact ⟨c,by simpa using f,qbj j⟩
theorem qm2 {v : Value} {d : DV} (h : q9g v = some d) : RelD w Z d v:=by
  unfold q9g at h;split at h
  · rename_i cs
    cases a : cs.toList.mapM Z4 with
    | none=>simp [a] at h
    | some ds=>
      simp [a] at h;subst h;obtain ⟨b,f⟩:=q6k (w:=w) (Z:=Z) a;refine .agg b fun i d c hd g=>?_;grind
  · exact (qbj h).1
theorem K5 {st : AS} {a : Act} {Ds : List Nat} (h : RelS w Z inj st a Ds) {o : Operand} {v : V} (b : st.ev o = some v) : RelV w Z inj st.nx v (a.eval o):=by
  cases o with
  | tmp t=>
    obtain ⟨x,l,k⟩:=h.slots t v b;simp only [Act.eval,Array.getD_eq_getD_getElem?,l,Option.getD_some];exact k
  | const c=>
    simp only [AS.ev] at b
    cases j : q9g c with
    | none=>simp [j] at b
    | some d=>simp [j] at b;subst b;exact .d (qm2 j)
  | func f=>
    simp only [AS.ev] at b;cases b;exact .d (.fn qb qb)
  | global g=>simp [AS.ev] at b
theorem q44 {a : List V} {ds : List DV} (h : allD a = some ds) : a = ds.map .d:=by
  induction a generalizing ds with
  | nil=>simp [allD] at h;subst h;rfl
  | cons v r ih=>
    cases v <;> simp only [allD,reduceCtorEq] at h
    grind
theorem qb1 (ds : List DV) : allD (ds.map .d) = some ds:=by
  induction ds with
  | nil=>rfl
  | cons d r ih=>simp [allD,ih]
theorem qd0 {d : V} {c : Value} (h : RelV w Z inj nx d c) (a : Kf d = true) : c.oneCell' = true:=by
  cases h with
  | d h=>cases h <;> simp_all [Kf,Y6,Value.oneCell']
  | _=>simp_all [Kf,Value.oneCell']
theorem ql9 {c : Value} (h : c.oneCell' = true) : c.cells = #[c]:=by cases c <;> simp_all [Value.oneCell',Value.cells]
theorem q9f {v : V} {x : Value} (h : RelV w Z inj nx v x) (f : (cellsOf v).all Kf = true) :
    (cellsOf v).length = x.cells.size∧(∀ (i : Nat) (d : V) (c : Value),(cellsOf v)[i]? = some d→x.cells[i]? = some c→RelV w Z inj nx d c)∧∀ c∈x.cells.toList,c.oneCell' = true:=by
  have fin : ∀ (l : List V) (cs : Array Value),l.length = cs.size→(∀ (i : Nat) (d : V) (c : Value),l[i]? = some d→cs[i]? = some c→RelV w Z inj nx d c)→l.all Kf = true→∀ c∈cs.toList,c.oneCell' = true:=by
    intro l cs k j g c r;obtain ⟨i,hi,rfl⟩:=List.mem_iff_getElem.1 r;simp at hi;have m : l[i]? = some l[i]:=List.getElem?_eq_getElem q6;have n : cs[i]? = some cs[i]:=Array.getElem?_eq_getElem hi;have:=qd0 (j i _ _ m n) (List.all_eq_true.1 g _ (Kw _));grind
  have one : ∀ {v : V} {x : Value},RelV w Z inj nx v x→cellsOf v = [v]→(cellsOf v).all Kf = true→(cellsOf v).length = x.cells.size∧(∀ (i : Nat) (d : V) (c : Value),(cellsOf v)[i]? = some d→x.cells[i]? = some c→RelV w Z inj nx d c)∧∀ c∈x.cells.toList,c.oneCell' = true:=by
    intro v x h q g;rw [q] at g ⊢;have m : Kf v = true:=by simpa using g
    have n:=qd0 h m;rw [ql9 n];grind
  cases h with
  | agg k j=>exact ⟨k,j,fin _ _ k j f⟩
  | d h=>
    cases h with
    | agg k j=>
      have m : (cellsOf (V.d (.agg ‹List DV›))).length = (Value.agg ‹Array Value›).cells.size:=by simpa [cellsOf,Value.cells] using k
      have n : ∀ (i : Nat) (d : V) (c : Value),(cellsOf (V.d (.agg ‹List DV›)))[i]? = some d→(Value.agg ‹Array Value›).cells[i]? = some c→RelV w Z inj nx d c:=by
        intro i d c hd f;simp only [cellsOf,List.getElem?_map,Kt] at hd;obtain ⟨p,o,rfl⟩:=hd;exact .d (j i p c o f)
      grind
    | int=>exact one (.d (.int _ _)) rfl f
    | bool=>exact one (.d (.bool _)) rfl f
    | str=>exact one (.d (.str _)) rfl f
    | tup k j=>exact one (.d (.tup k j)) rfl f
    | fn k j=>exact one (.d (.fn k j)) rfl f
    | nilsl=>exact one (.d .nilsl) rfl f
    | slnil=>exact one (.d (.slnil _)) rfl f
    | slemp=>exact one (.d (.slemp _ _)) rfl f
    | sl a b c d e=>exact one (.d (.sl a b c d e)) rfl f
    | nilp=>exact one (.d .nilp) rfl f
    | nilf=>exact one (.d .nilf) rfl f
    | nilm=>exact one (.d .nilm) rfl f
    | box a b c=>exact one (.d (.box a b c)) rfl f
  | tup k j=>exact one (.tup k j) rfl f
  | fn k j=>exact one (.fn k j) rfl f
  | ref a b=>exact one (.ref a b) rfl f
  | dref a b c=>exact one (.dref a b c) rfl f
  | hsnil a=>exact one (.hsnil a) rfl f
  | hs a b c d=>exact one (.hs a b c d) rfl f
  | yld a b=>exact one (.yld a b) rfl f
  | mp a b=>exact one (.mp a b) rfl f
  | dead v=>simp [cellsOf,Kf] at f
theorem qco {cs : List V} {xs : Array Value} (a : cs.length = xs.size) (h : ∀ (i : Nat) (d : V) (c : Value),cs[i]? = some d→xs[i]? = some c→RelV w Z inj nx d c) : RelV w Z inj nx (q4l cs) (.agg xs):=by
  unfold q4l;split
  · rename_i ds hd;have:=q44 hd;subst this;refine .d (.agg (by simpa using a) fun i d c b f=>?_);have:=h i (.d d) c (by simp [b]) f
    cases this with | d h=>exact h
  · exact .agg a h
def qkd (w : World) (Z : Nat→Prop) (inj : Inj) (nx : Nat) (v : V) : Bool→List Value→Prop
  | true,xs=>RelV w Z inj nx v (.agg xs.toArray)
  | false,[x]=>RelV w Z inj nx v x
  | false,_=>False
theorem qi0 {ag : Bool} {cs : List V} {v : V} {xs : List Value} (hp : pack ag cs = some v) (a : cs.length = xs.length) (h : ∀ (i : Nat) (d : V) (c : Value),cs[i]? = some d→xs[i]? = some c→RelV w Z inj nx d c) :
    qkd w Z inj nx v ag xs:=by
  cases ag with
  | true=>
    simp only [pack,Option.some.injEq] at hp;subst hp;exact qco (by simpa using a) (fun i d c b f=>h i d c b (by simpa using f))
  | false=>
    match cs,xs,hp,a with
    | [c],[x],hp,_=>simp only [pack,Option.some.injEq] at hp;subst hp;exact h 0 _ _ rfl rfl
    | [c],[],_,a=>simp at a
    | [c],_::_::_,_,a=>simp at a
theorem qd3 (ag : Bool) (cs : List DV) : (Uz ag cs).map V.d = pack ag (cs.map .d):=by
  cases ag with
  | true=>simp [Uz,pack,q4l,qb1]
  | false=>match cs with
    | []=>rfl
    | [c]=>rfl
    | _::_::_=>rfl
theorem qjw {α : Type} {cs r : List α} {j s : Nat} (h : sub cs j s = some r) : j + s≤cs.length∧r = (cs.drop j).take s:=by
  unfold sub at h;split at h <;> simp at h;exact ⟨‹_›,h.symm⟩
theorem q8y {α : Type} {cs r : List α} {j s : Nat} (h : sub cs j s = some r) : r.length = s∧∀ (i : Nat) (x : α),r[i]? = some x→cs[j + i]? = some x∧i < s:=by
  obtain ⟨a,rfl⟩:=qjw h;grind
theorem J2 (b o j : Nat) : (⟨b,o,none⟩ : Addr).add j = ⟨b,o + j,none⟩:=by
  unfold Addr.add;split <;> simp_all
theorem qny {t : TypeId} {i : TI} {l : TypeInfo} {d : TypeDesc} {z : Value} (m : TiOk P t i l d z) {b o : Nat} {r : List V} {v : V} (hp : pack i.agg r = some v) (hr : r.length = i.size)
    (hc : ∀ (k : Nat) (x : V),r[k]? = some x→∃ c,w.cell? ⟨b,o + k,none⟩ = some c∧RelV w Z inj nx x c) :
    ∃ x,(Instr.loadAt t (.pointer (some ⟨b,o,none⟩))).run P w = .ok x w∧RelV w Z inj nx v x:=by
  have n : ∃ cs : List Value,cs.length = i.size∧∀ (k : Nat) (c : Value),cs[k]? = some c→w.cell? ⟨b,o + k,none⟩ = some c:=by
    refine ⟨(List.range i.size).map fun k=>(w.cell? ⟨b,o + k,none⟩).getD undef,qb,?_⟩;intro k c s;have y : k < i.size:=by have:=K9 s;simpa using this
    obtain ⟨x,hx⟩:=Z5 (xs:=r) (i:=k) q6;grind
  obtain ⟨cs,p,a⟩:=n;have h : ∀ (i : Nat) (d : V) (c : Value),r[i]? = some d→cs[i]? = some c→RelV w Z inj nx d c:=by grind
  have f:=qi0 hp (by omega : r.length = cs.length) h
  have g : (isAgg t).run P w = .ok i.agg w:=by
    rw [m.agg];simp only [isAgg,Sem.run_bind,run_underlying m.und,Result.andThen_ok];cases d <;> rfl
  cases hb : i.agg with
  | true=>
    rw [hb] at f;refine ⟨.agg cs.toArray,?_,f⟩;have q:=run_loadCells_list (P:=P) w ⟨b,o,none⟩ cs (fun j v u=>by rw [J2];exact a j v u);simp [Instr.loadAt,Instr.sureAddr,loadVar,g,hb,sizeOf,typeInfo,m.inf,m.size,← p,q]
  | false=>
    rw [hb] at f
    match cs,p,a,f with
    | [x],_,a,f=>
      refine ⟨x,?_,f⟩;have:=a 0 x rfl;simp only [Nat.add_zero] at this;simp [Instr.loadAt,Instr.sureAddr,loadVar,g,hb,this]
end
end Go.Am
namespace Go.Am
open Go
variable {P : Program} {T : Tab}
def Ke (st st1 : AS) (v : V) (w : World) (Z : Nat→Prop) (inj : Inj) (r : Result Next) : Prop:=
  ∃ x w' inj',(r = .ok (.value x) w'∨(r = .ok .skip w'∧x = undef))∧RelV w' Z inj' st1.nx v x∧RelH w' Z inj' st1.hp st1.nx∧Ext w Z inj st.hp w' Z inj' st1.hp st.nx∧st1.sl = st.sl∧st.nx≤st1.nx
section
variable {w : World} {Z : Nat→Prop} {inj : Inj} {st : AS} {a : Act} {Ds : List Nat}
theorem Ke.quiet {v : V} {x : Value} {r : Result Next} (h : RelS w Z inj st a Ds) (b : r = .ok (.value x) w) (c : RelV w Z inj st.nx v x) : Ke st st v w Z inj r:=
  ⟨x,w,inj,.inl b,c,h.heap,.refl,rfl,Nat.le_refl _⟩
theorem Kd {s : Sem Value} {x : Value} {w' : World} (h : s.run P w = .ok x w') : (do pure (Next.value (← s)) : Sem Next).run P w = .ok (.value x) w':=by
  simp [h]
theorem Ke.new {v : V} {x : Value} {r : Result Next} {o : Obj} {blk : Blk} (h : RelS w Z inj st a Ds) (c : r = .ok (.value x) (w.alloc o))
    (hb : RelB (w.alloc o) Z (upd inj st.nx (some (w.heap.size,0))) (st.nx + 1) st.nx blk)
    (d : RelV (w.alloc o) Z (upd inj st.nx (some (w.heap.size,0))) (st.nx + 1) v x) (b : Unfr o:=by first | exact rfl | exact trivial) : Ke st (st.new blk) v w Z inj r:=
  ⟨x,_,_,.inl c,d,h.heap.new o blk 0 hb,Ext.new h.heap o blk 0 b,rfl,by simp [AS.new]⟩
theorem qis {v : V} {x : Value} (h : RelS w Z inj st a Ds) (o : Obj) (c : RelV w Z inj st.nx v x) : RelV (w.alloc o) Z (upd inj st.nx (some (w.heap.size,0))) (st.nx + 1) v x:=
  c.mono (fun _ d=>Zb w o (h.heap.zs _ d)) (fun _ h=>h) (q1s w o) (fun _ b=>Y5 _ _ b) q6
theorem qio {w : World} {nx n es : Nat} {xs : List (List V)} {arr : Array Value} {ty : TypeId} {b : Nat} (s : es≠0) (hi : inj n = some (b,0)) (hb : w.heap[b]? = some (.cells arr ty (0,0)))
    (r : ∀ (i : Nat) (x : List V),xs[i]? = some x→x.length = es)
    (h : ∀ (i : Nat) (x : List V) (j : Nat) (d : V),xs[i]? = some x→x[j]? = some d→Kf d = true∧∃ c,arr[i * es + j]? = some c∧RelV w Z inj nx d c) : RelB w Z inj nx n (q4m es xs):=by
  unfold q4m;split
  · rename_i ys u;obtain ⟨q,t⟩:=q6z u;refine ⟨s,?_,.inr ⟨b,0,arr,ty,hi,hb,?_⟩⟩
    · intro i y a;obtain ⟨x,g⟩:=Y8 q a;obtain ⟨v,f,hd⟩:=t i x g;rw [a] at f;cases f;have:=r i x g;rw [q44 hd] at this;simpa using this
    · intro i y j d a p;obtain ⟨x,g⟩:=Y8 q a;obtain ⟨v,f,hd⟩:=t i x g;rw [a] at f;cases f;have l:=q44 hd;obtain ⟨m,c,k,o⟩:=h i x j (.d d) g (by rw [l];simp [p]);refine ⟨m,c,by simpa using k,?_⟩
      cases o with | d h=>exact h
  · refine ⟨s,r,.inr ⟨b,0,arr,ty,hi,hb,?_⟩⟩;intro i x j d g hd;obtain ⟨m,c,k,o⟩:=h i x j d g hd;exact ⟨m,c,by simpa using k,o⟩
theorem qhx {o : Operand} {v : V} (h : RelS w Z inj st a Ds) (c : st.ev o = some v) {r : Result Next} (b : r = .ok (.value (a.eval o)) w) : Ke st st v w Z inj r:=
  .quiet h b (K5 h c)
theorem qp3 {t : TypeId} {i : TI} (h : RelS w Z inj st a Ds) (o : tiOf P t = some i) :
    Ke st (st.new (.dat i.size [i.zero])) (.ref st.nx i.size 0 0) w Z inj ((do pure (Next.value (← Instr.alloc t true (.tuple #[]))) : Sem Next).run P w):=by
  obtain ⟨m,d,z,k⟩:=Yb o
  have g : (Instr.alloc t true (.tuple #[])).run P w = .ok (.pointer (some ⟨w.heap.size,0,none⟩)) (w.alloc (.cells z.cells t)):=by
    simp [Instr.alloc,zeroValue,typeInfo,k.inf,k.zero,newVar,newRow]
  obtain ⟨s,q⟩:=q6k (w:=w.alloc (.cells z.cells t)) (Z:=Z) k.cells;refine .new h (Kd g) ?_ ?_
  · refine ⟨k.pos,?_,.inr ⟨w.heap.size,0,z.cells,t,Kr _ _ _,J3 _ _,?_⟩⟩
    · intro l x f
      cases l with
      | zero=>simp at f;subst f;exact k.len
      | succ n=>simp at f
    · intro l x j d f hd
      cases l with
      | zero=>
        simp at f;subst f;obtain ⟨c,r,p,b,_⟩:=q j d hd;exact ⟨b,c,by simpa using r,p⟩
      | succ n=>simp at f
  · have:=RelV.ref (w:=w.alloc (.cells z.cells t)) (Z:=Z) (inj:=upd inj st.nx (some (w.heap.size,0))) (nx:=st.nx + 1) (n:=st.nx) (es:=i.size) (i:=0) (j:=0) q6 (Kr _ _ _);simpa using this
theorem qp7 {t : TypeId} {i : TI} {o : Operand} {v : V} (h : RelS w Z inj st a Ds) (u : tiOf P t = some i) (hv : st.ev o = some v) (s : (cellsOf v).length = i.size) (r : (cellsOf v).all Kf = true) :
    Ke st (st.new (q4m i.size [cellsOf v])) (.ref st.nx i.size 0 0) w Z inj ((do pure (Next.value (← Instr.box t (a.eval o))) : Sem Next).run P w):=by
  obtain ⟨q,d,z,k⟩:=Yb u;have f:=K5 h hv
  have l : (Instr.box t (a.eval o)).run P w = .ok (.pointer (some ⟨w.heap.size,0,none⟩)) (w.alloc (.cells (a.eval o).cells t)):=by
    simp [Instr.box,newVar,newRow]
  have m:=qis h (.cells (a.eval o).cells t) f;obtain ⟨h1,y,_⟩:=q9f m r;refine .new h (Kd l) ?_ ?_
  · refine qio (b:=w.heap.size) (arr:=(a.eval o).cells) (ty:=t) k.pos (Kr _ _ _) (J3 _ _) ?_ ?_
    · intro p x f
      cases p with
      | zero=>simp at f;subst f;exact s
      | succ n=>simp at f
    · intro p x j d f hd
      cases p with
      | zero=>
        simp at f;subst f;obtain ⟨c,g⟩:=Ky (xs:=(a.eval o).cells) (i:=j) (by have:=K9 hd;omega);exact ⟨List.all_eq_true.1 r _ (List.mem_of_getElem? hd),c,by simpa using g,y j d c hd g⟩
      | succ n=>simp at f
  · have:=RelV.ref (w:=w.alloc (.cells (a.eval o).cells t)) (Z:=Z) (inj:=upd inj st.nx (some (w.heap.size,0))) (nx:=st.nx + 1) (n:=st.nx) (es:=i.size) (i:=0) (j:=0) q6 (Kr _ _ _);simpa using this
theorem q1a {α : Type} (cs ys : List α) (o : Nat) (h : o + ys.length≤cs.length) : (splice cs o ys).length = cs.length:=by simp [splice];omega
theorem Jb {α : Type} (cs ys : List α) (o j : Nat) (h : o + ys.length≤cs.length) : (splice cs o ys)[j]? = if o≤j∧j < o + ys.length then ys[j - o]? else cs[j]?:=by
  have e : (cs.take o).length = o:=by simp;omega
  by_cases a : j < o
  · rw [qs q6,splice,List.append_assoc,List.getElem?_append_left q6,List.getElem?_take,qp a]
  · by_cases b : j < o + ys.length
    · rw [qp q6,splice,List.append_assoc,List.getElem?_append_right q6,e,List.getElem?_append_left q6]
    · rw [qs q6,splice,List.getElem?_append_right (by simp;omega),List.getElem?_drop];congr 1;rw [List.length_append,e];omega
theorem qg4 (off : Nat) : ∀ (l : List Value) (s : Nat) (cs : Array Value),off + s + l.length≤cs.size→
    ((l.zipIdx s).foldl (fun (cs : Array Value) (x : Value × Nat)=>cs.setIfInBounds (off + x.2) x.1) cs).size = cs.size∧
    ∀ j : Nat,((l.zipIdx s).foldl (fun (cs : Array Value) (x : Value × Nat)=>cs.setIfInBounds (off + x.2) x.1) cs)[j]? = if off + s≤j∧j < off + s + l.length then l[j - (off + s)]? else cs[j]?
  | [],s,cs,_=>by
    refine ⟨rfl,fun j=>?_⟩
    have : ¬ (off + s≤j∧j < off + s + ([] : List Value).length):=by simp
    rw [qs this];rfl
  | v::r,s,cs,h=>by
    obtain ⟨d,g⟩:=qg4 off r (s + 1) (cs.setIfInBounds (off + s) v) (by simp at h ⊢;omega)
    simp only [List.zipIdx_cons,List.foldl_cons]
    refine ⟨by rw [d];simp,fun j=>?_⟩
    rw [g j]
    simp only [List.length_cons] at h ⊢
    by_cases b : off + (s + 1)≤j∧j < off + (s + 1) + r.length
    · have a : off + s≤j∧j < off + s + (r.length + 1):=by omega
      rw [qp b,qp a,show j - (off + s) = (j - (off + (s + 1))) + 1 by omega,List.getElem?_cons_succ]
    · rw [qs b,Array.getElem?_setIfInBounds]
      by_cases c : off + s = j
      · have a : off + s≤j∧j < off + s + (r.length + 1):=by omega
        have f : j < cs.size:=by omega
        rw [qp c,qp a,qp q6,show j - (off + s) = 0 by omega]
        rfl
      · have a : ¬ (off + s≤j∧j < off + s + (r.length + 1)):=by omega
        rw [qs c,qs a]
theorem qg5 (a cs : Array Value) (off : Nat) (h : off + a.size≤cs.size) :
    a.zipIdx.foldl (fun (cs : Array Value) (x : Value × Nat)=>cs.setIfInBounds (off + x.2) x.1) cs = (splice cs.toList off a.toList).toArray:=by
  rw [← Array.foldl_toList,Array.toList_zipIdx];obtain ⟨c,b⟩:=qg4 off a.toList 0 cs (by simpa using h);have hs:=q1a cs.toList a.toList off (by simpa using h);apply Array.ext';apply List.ext_getElem?;intro j;rw [Array.getElem?_toList,b j,Jb _ _ _ _ (by simpa using h)];simp
def LRel (w : World) (Z : Nat→Prop) (inj : Inj) (nx : Nat) (cs : List V) (xs : Array Value) : Prop:=
  cs.length = xs.size∧∀ (i : Nat) (d : V) (c : Value),cs[i]? = some d→xs[i]? = some c→RelV w Z inj nx d c
theorem LRel.splice {w : World} {nx : Nat} {cs ys : List V} {xs g : Array Value} {o : Nat} (h : LRel w Z inj nx cs xs) (j : LRel w Z inj nx ys g) (k : o + ys.length≤cs.length) :
    LRel w Z inj nx (Am.splice cs o ys) (Am.splice xs.toList o g.toList).toArray:=by
  have l:=h.1;have m:=j.1;have f : o + g.toList.length≤xs.toList.length:=by simp;omega
  refine ⟨by simp [q1a _ _ _ k,q1a _ _ _ f,h.1],fun i d c hd b=>?_⟩;rw [Jb _ _ _ _ k] at hd;rw [List.getElem?_toArray,Jb _ _ _ _ f] at b;have e : g.toList.length = ys.length:=by simp;omega
  rw [e] at b;split at hd
  · rename_i a;rw [qp a] at b;exact j.2 _ _ _ hd (by simpa using b)
  · rename_i a;rw [qs a] at b;exact h.2 _ _ _ hd (by simpa using b)
theorem qfw {f : List (Nat × Operand)} {d : List (Nat × V)} (h : RelS w Z inj st a Ds) (hp : Zm st.ev f = some d) :
    d.length = f.length∧∀ (k : Nat) (i : Nat) (v : V),d[k]? = some (i,v)→∃ o,f[k]? = some (i,o)∧RelV w Z inj st.nx v (a.eval o):=by
  induction f generalizing d with
  | nil=>simp [Zm] at hp;subst hp;simp
  | cons x r ih=>
    obtain ⟨i,o⟩:=x;simp only [Zm] at hp
    cases b : st.ev o with
    | none=>simp [b] at hp
    | some v=>
      cases g : Zm st.ev r with
      | none=>simp [b,g] at hp
      | some l=>
        simp [b,g] at hp;subst hp;obtain ⟨n,m⟩:=ih g;refine ⟨by simp [n],fun k t p c=>?_⟩
        cases k with
        | zero=>simp at c;obtain ⟨rfl,rfl⟩:=c;exact ⟨o,qb,K5 h b⟩
        | succ k=>simp at c;obtain ⟨j,q,s⟩:=m k t p c;exact ⟨j,by simpa using q,s⟩
theorem q6r {os : List Operand} {g : List V} (h : RelS w Z inj st a Ds) (hp : evL st.ev os = some g) : LRel w Z inj st.nx g (os.map a.eval).toArray:=by
  induction os generalizing g with
  | nil=>simp [evL] at hp;subst hp;exact ⟨qb,qb⟩
  | cons o r ih=>
    simp only [evL] at hp
    cases b : st.ev o with
    | none=>simp [b] at hp
    | some v=>
      cases j : evL st.ev r with
      | none=>simp [b,j] at hp
      | some l=>
        simp [b,j] at hp;subst hp;obtain ⟨n,m⟩:=ih j;refine ⟨by simpa using n,fun k d c hd f=>?_⟩
        cases k with
        | zero=>simp at hd f;subst hd f;exact K5 h b
        | succ k=>simp at hd f;exact m k d c hd (by simpa using f)
theorem qbr {w : World} {nx : Nat} (place : Nat→Option (Nat × Nat)) : ∀ (b : List (Nat × V)) (xs : List (Nat × Value)) (l : List (Nat × List V)) (cs a : List V) (C : Array Value),
    b.length = xs.length→(∀ (k : Nat) (i : Nat) (v : V),b[k]? = some (i,v)→∃ x,xs[k]? = some (i,x)∧RelV w Z inj nx v x)→
    l.length = b.length→(∀ (k : Nat) (i : Nat) (v : V),b[k]? = some (i,v)→∃ o s,place i = some (o,s)∧(cellsOf v).length = s∧(cellsOf v).all Kf = true∧l[k]? = some (o,cellsOf v))→
    LRel w Z inj nx cs C→q4a cs l = some a→∃ h,Instr.fill place C xs = some h∧LRel w Z inj nx a h
  | [],xs,l,cs,a,C,h1,_,h3,_,h5,h6=>by
    have : xs = []:=by cases xs <;> simp_all
    have : l = []:=by cases l <;> simp_all
    subst_vars
    simp [q4a] at h6;subst h6
    exact ⟨C,by simp [Instr.fill],h5⟩
  | (i,v)::b,xs,l,cs,a,C,h1,h2,h3,h4,h5,h6=>by
    match xs,l,h1,h3 with
    | (i',x)::xs,(o',ys)::l,h1,h3=>
      obtain ⟨x',c,r⟩:=h2 0 i v rfl
      simp at c;obtain ⟨rfl,rfl⟩:=c
      obtain ⟨o,s,hp,z,t,f⟩:=h4 0 i' v rfl
      simp at f;obtain ⟨rfl,rfl⟩:=f
      obtain ⟨u,y,q3⟩:=q9f r t
      simp only [q4a] at h6
      split at h6
      · rename_i g
        have n : x.cells.size = s:=by omega
        have q : ¬ (o' + x.cells.size > C.size):=by have:=h5.1;omega
        obtain ⟨h,j,d⟩:=qbr place b xs l (splice cs o' (cellsOf v)) a (splice C.toList o' x.cells.toList).toArray (by simpa using h1)
          (fun k i v m=>by obtain ⟨x,p⟩:=h2 (k + 1) i v (by simpa using m);exact ⟨x,by simpa using p⟩) (by simpa using h3)
          (fun k i v m=>by obtain ⟨o,s,p⟩:=h4 (k + 1) i v (by simpa using m);exact ⟨o,s,by simpa using p⟩)
          (h5.splice ⟨u,y⟩ g) h6
        refine ⟨h,?_,d⟩
        simp only [Instr.fill,hp,n]
        have : ¬ ((decide (s≠s) || decide (o' + s > C.size)) = true):=by simp;omega
        rw [qs (by simpa using this)]
        rw [qg5 x.cells C o' q6]
        exact j
      · simp at h6
end
end Go.Am
namespace Go.Am
open Go
variable {P : Program} {T : Tab}
section
variable {w : World} {Z : Nat→Prop} {inj : Inj} {nx : Nat}
theorem qiy {α β : Type} {f : α→Sem β} {g : α→β} : ∀ {l : List α},(∀ x∈l,(f x).run P w = .ok (g x) w)→(l.mapM f).run P w = .ok (l.map g) w
  | [],_=>by simp
  | x::r,h=>by
    have b:=h x qb
    have c:=qiy (l:=r) (fun y a=>h y (by simp [a]))
    simp [List.mapM_cons,b,c]
theorem qrs {α β : Type} {f : α→Sem β} {g : α→β} {l : Array α} (h : ∀ x∈l.toList,(f x).run P w = .ok (g x) w) : (l.mapM f).run P w = .ok (l.toList.map g).toArray w:=by
  rw [Array.mapM_eq_mapM_toList,Sem.run_map,qiy h];rfl
theorem qg2 {d : Array Field} {k : List (Nat × Nat × Bool)} (h : (d.toList.mapM fun f => do
      let a ← P.info? f.type
      let c ← P.underlying f.type
      if a.size = 0 then none else some (f.offset,a.size,K6 c)) = some k) :
    k.length = d.size∧∀ (i : Nat) (f : Field),d[i]? = some f→∃ a c,P.info? f.type = some a∧P.underlying f.type = some c∧a.size≠0∧k[i]? = some (f.offset,a.size,K6 c):=by
  obtain ⟨n,o⟩:=q6z h;refine ⟨by simpa using n,fun i f p=>?_⟩;obtain ⟨y,m,b⟩:=o i f (by simpa using p)
  cases g : P.info? f.type with
  | none=>simp [g] at b
  | some a=>
    cases l : P.underlying f.type with
    | none=>simp [g,l] at b
    | some c=>
      simp only [g,l,Option.bind_eq_bind,qj] at b;split at b
      · simp at b
      · rename_i j;simp at b;subst b;exact ⟨a,c,rfl,rfl,j,m⟩
theorem qbu {c : Array Field} {g : List (Nat × Nat × Bool)} (h : (c.toList.mapM fun f => do
      let a ← P.info? f.type
      let b ← P.underlying f.type
      if a.size = 0 then none else some (f.offset,a.size,K6 b)) = some g) {i off s : Nat} {ag : Bool} (hi : g[i]? = some (off,s,ag)) :
    ∃ f a b,c[i]? = some f∧P.info? f.type = some a∧P.underlying f.type = some b∧a.size = s∧s≠0∧f.offset = off∧K6 b = ag:=by
  obtain ⟨o,n⟩:=qg2 h;obtain ⟨f,j⟩:=Ky (xs:=c) (i:=i) (by have:=K9 hi;omega);obtain ⟨a,b,l,k,m,d⟩:=n i f j;rw [hi] at d;simp at d;obtain ⟨rfl,rfl,rfl⟩:=d;exact ⟨f,a,b,j,l,k,rfl,m,rfl,rfl⟩
theorem qi8 {a : TI} : ∀ {c : List (Nat × V)} {l : List (Nat × List V)},placed a c = some l→l.length = c.length∧∀ (k i : Nat) (v : V),c[k]? = some (i,v)→∃ o s,
    (match a.kind with | .struct=>(a.flds[i]?).map fun f=>(f.1,f.2.1) | .array=>some (i * a.esize,a.esize) | _=>none) = some (o,s)∧(cellsOf v).length = s∧(cellsOf v).all Kf = true∧l[k]? = some (o,cellsOf v)
  | [],l,h=>by simp [placed] at h;subst h;simp
  | (i,v)::r,l,h=>by
    simp only [placed] at h
    split at h
    · rename_i o s l' g t
      split at h
      · rename_i d
        simp at h;subst h
        obtain ⟨n,m⟩:=qi8 t
        refine ⟨by simp [n],fun k u q b=>?_⟩
        cases k with
        | zero=>simp at b;obtain ⟨rfl,rfl⟩:=b;exact ⟨o,s,g,d.1,d.2,qb⟩
        | succ k=>simp at b;obtain ⟨j,p,w⟩:=m k u q b;exact ⟨j,p,by simpa using w⟩
      · simp at h
    · simp at h
theorem qxn {t : TypeId} {i : TI} {b : TypeInfo} {d : TypeDesc} {z : Value} (k : TiOk P t i b d z) : LRel w Z inj nx (i.zero.map .d) z.cells:=by
  obtain ⟨g,m⟩:=q6k (w:=w) (Z:=Z) k.cells;refine ⟨by simpa using g,fun j d c hd n=>?_⟩;simp only [List.getElem?_map,Kt] at hd;obtain ⟨h,f,rfl⟩:=hd;obtain ⟨o,a,l,_⟩:=m j h f;rw [n] at a;cases a;exact .d l
theorem Ys {t : TypeId} {a : TypeInfo} (h : P.info? t = some a) : (sizeOf t).run P w = .ok a.size w:=by simp [sizeOf,typeInfo,h]
theorem q1r {t : TypeId} {d : TypeDesc} (h : P.underlying t = some d) : (isAgg t).run P w = .ok (K6 d) w:=by
  simp only [isAgg,Sem.run_bind,run_underlying h,Result.andThen_ok];cases d <;> rfl
theorem qi3 {t : TypeId} {a : TypeInfo} {d : TypeDesc} (s : P.info? t = some a) (n : P.underlying t = some d) {cs r : List V} {xs : Array Value} {off : Nat} {v : V} (k : LRel w Z inj nx cs xs)
    (hs : sub cs off a.size = some r) (hp : pack (K6 d) r = some v) : ∃ x,(part t xs off).run P w = .ok x w∧RelV w Z inj nx v x:=by
  obtain ⟨m,h⟩:=q8y hs;have u:=(qjw hs).1;have p:=k.1
  have g : ∀ (i : Nat) (d : V) (c : Value),r[i]? = some d→(xs.extract off (off + a.size)).toList[i]? = some c→RelV w Z inj nx d c:=by
    intro i d c hd j;obtain ⟨f,y⟩:=h i d hd;refine k.2 _ _ _ f ?_;rw [Array.getElem?_toList,Array.getElem?_extract] at j;split at j <;> first | exact j | simp at j
  have l : r.length = (xs.extract off (off + a.size)).toList.length:=by simp;omega
  have b:=qi0 hp l g
  cases hb : K6 d with
  | true=>
    rw [hb] at b
    refine ⟨.agg (xs.extract off (off + a.size)),?_,by
      have q : RelV w Z inj nx v (.agg (xs.extract off (off + a.size)).toList.toArray):=b
      rwa [Array.toArray_toList] at q⟩
    simp [part,q1r n,hb,Ys s]
  | false=>
    rw [hb] at b hp
    match r,hp,m,h with
    | [c],hp,m,h=>
      simp only [pack,Option.some.injEq] at hp;subst hp;have f:=(h 0 c rfl).1;simp only [Nat.add_zero] at f;obtain ⟨x,o⟩:=Ky (xs:=xs) (i:=off) (by have:=K9 f;omega);exact ⟨x,by simp [part,q1r n,hb,o],k.2 _ _ _ f o⟩
end
section
variable {w : World} {Z : Nat→Prop} {inj : Inj} {st : AS} {a : Act} {Ds : List Nat}
theorem qp8 {t : TypeId} {i : TI} {m : Array (Nat × Operand)} {u : List (Nat × V)} {l : List (Nat × List V)} {cs : List V} (h : RelS w Z inj st a Ds) (ht : tiOf P t = some i) (hv : Zm st.ev m.toList = some u)
    (ha : i.agg = true) (hl : placed i u = some l) (hf : q4a (i.zero.map .d) l = some cs) :
    Ke st st (q4l cs) w Z inj ((do pure (Next.value (← Instr.build t (m.map fun (i,x)=>(i,a.eval x)))) : Sem Next).run P w):=by
  obtain ⟨an,d,z,k⟩:=Yb ht;obtain ⟨p1,p2⟩:=qfw h hv;obtain ⟨q1,q2⟩:=qi8 hl;have hz:=qxn (w:=w) (Z:=Z) (inj:=inj) (nx:=st.nx) k
  have y : ∀ (k i : Nat) (v : V),u[k]? = some (i,v)→∃ x,(m.toList.map fun (x : Nat × Operand)=>(x.1,a.eval x.2))[k]? = some (i,x)∧RelV w Z inj st.nx v x:=by
    intro k i v r;obtain ⟨o,ho,n⟩:=p2 k i v r;exact ⟨a.eval o,by simp only [List.getElem?_map,ho];rfl,n⟩
  have aa : (zeroValue t).run P w = .ok z w:=by simp [zeroValue,typeInfo,k.inf,k.zero]
  have b:=k.kind;unfold Yt at b;cases r : i.kind <;> simp only [r,TI.agg] at b ha
  case struct=>
    obtain ⟨fs,rfl,ab⟩:=b;obtain ⟨_,al⟩:=qg2 ab
    obtain ⟨C',hC,n⟩:=qbr (fun i=>((fs.toList.map fun (f : Field)=>(f.offset,((P.info? f.type).map (·.size)).getD 0)).toArray)[i]?) u (m.toList.map fun (x : Nat × Operand)=>(x.1,a.eval x.2)) l _ cs z.cells (by simp [p1]) y q1
      (fun k i' v c=>by
        obtain ⟨o,s,q,h2,h3,h4⟩:=q2 k i' v c;simp only [r,Kt] at q;obtain ⟨⟨o',s',ag⟩,h5,h6⟩:=q;simp at h6;obtain ⟨rfl,rfl⟩:=h6;obtain ⟨f,jf,df,p,g2,_,g4,_,g6,_⟩:=qbu ab h5
        exact ⟨o',s',by simp [p,g2,g4,g6],h2,h3,h4⟩) hz hf
    refine .quiet h (Kd (x:=.agg C') ?_) (qco n.1 n.2)
    have hm : (fs.mapM fun f=>do pure (f.offset,← sizeOf f.type) : Sem (Array (Nat × Nat))).run P w = .ok (fs.toList.map fun (f : Field)=>(f.offset,((P.info? f.type).map (·.size)).getD 0)).toArray w:=by
      refine qrs fun f hf=>?_;obtain ⟨j,hj⟩:=List.mem_iff_getElem?.1 hf;obtain ⟨jf,df,p,_⟩:=al j f (by simpa using hj);simp [Ys p,p]
    simp only [Instr.build,Sem.run_bind,aa,Result.andThen_ok,run_underlying k.und,hm];have g : Instr.fill (fun x=>((fs.toList.map fun (f : Field)=>(f.offset,((P.info? f.type).map (·.size)).getD 0)).toArray)[x]?) z.cells (m.map fun (x : Nat × Operand)=>(x.1,a.eval x.2)).toList = some C':=by simpa using hC
    simp only [g];rfl
  case array=>
    obtain ⟨e,ie,de,rfl,p,g2,g3,g4,_⟩:=b
    obtain ⟨C',hC,n⟩:=qbr (fun j=>some (j * i.esize,i.esize)) u (m.toList.map fun (x : Nat × Operand)=>(x.1,a.eval x.2)) l _ cs z.cells (by simp [p1]) y q1
      (fun k i' v c=>by
        obtain ⟨o,s,q,h2,h3,h4⟩:=q2 k i' v c;simp only [r] at q
        exact ⟨o,s,q,h2,h3,h4⟩) hz hf
    refine .quiet h (Kd (x:=.agg C') ?_) (qco n.1 n.2);have g : Instr.fill (fun j=>some (j * i.esize,i.esize)) z.cells (m.map fun (x : Nat × Operand)=>(x.1,a.eval x.2)).toList = some C':=by simpa using hC
    simp only [Instr.build,Sem.run_bind,aa,Result.andThen_ok,run_underlying k.und,Ys p,g3,g];rfl
  all_goals simp at ha
theorem qh2 {t : TypeId} {i : TI} {pv v : V} {vp : Value} (h : RelH w Z inj st.hp st.nx) (ht : tiOf P t = some i) (hx : RelV w Z inj st.nx pv vp) (a : J7 st i pv = some v) :
    ∃ b o x,vp = .pointer (some ⟨b,o,none⟩)∧(Instr.loadAt t vp).run P w = .ok x w∧RelV w Z inj st.nx v x:=by
  obtain ⟨an,d,z,k⟩:=Yb ht
  have fin : ∀ {b o : Nat} {r : List V} {pp : Value},pp = .pointer (some ⟨b,o,none⟩)→pack i.agg r = some v→r.length = i.size→
      (∀ (k : Nat) (x : V),r[k]? = some x→∃ c,w.cell? ⟨b,o + k,none⟩ = some c∧RelV w Z inj st.nx x c)→∃ b o x,pp = .pointer (some ⟨b,o,none⟩)∧(Instr.loadAt t pp).run P w = .ok x w∧RelV w Z inj st.nx v x:=by
    intro b o r pp q aj ae hc
    obtain ⟨x,ad,ab⟩:=qny (P:=P) k aj ae hc
    exact ⟨b,o,x,q,by rw [q];exact ad,ab⟩
  cases pv <;> simp only [J7,reduceCtorEq] at a
  case ref n es e j=>
    cases hx with
    | @ref _ _ _ _ b o hn hi=>
    cases hb : st.blk n with
    | none=>simp [hb] at a
    | some blk=>
      have hB:=(h.blk n blk hb).2
      cases blk with
      | dead=>simp [hb] at a
      | loop=>simp [hb] at a
      | mp=>simp [hb] at a
      | dat es' xs=>
        simp only [hb] at a;split at a <;> try simp at a
        rename_i cs q g;have q:=Nat.eq_of_beq_eq_true q;subst q
        cases hs : sub cs j i.size with
        | none=>simp [hs] at a
        | some r=>
          simp only [hs] at a;rw [qd3] at a;obtain ⟨s,u⟩:=q8y hs;obtain ⟨b1,b2,f⟩:=hB;rcases f with ⟨f,_⟩ | ⟨b',o',arr,ty,f,b4,b5⟩
          · subst f;simp at g
          · rw [hi] at f;cases f;refine fin rfl a (by simpa using s) ?_;intro k x p;simp only [List.getElem?_map,Kt] at p;obtain ⟨y,hy,rfl⟩:=p;obtain ⟨m,_⟩:=u k y hy;obtain ⟨_,c,h4,h5⟩:=b5 e cs (j + k) y g m;exact ⟨c,by simp only [World.cell?,b4];rw [← h4];simp [Nat.add_assoc],.d h5⟩
      | cel es' xs=>
        simp only [hb] at a;split at a <;> try simp at a
        rename_i cs q g;have q:=Nat.eq_of_beq_eq_true q;subst q
        cases hs : sub cs j i.size with
        | none=>simp [hs] at a
        | some r=>
          simp only [hs] at a;obtain ⟨s,u⟩:=q8y hs;obtain ⟨b1,b2,f⟩:=hB;rcases f with ⟨f,_⟩ | ⟨b',o',arr,ty,f,b4,b5⟩
          · subst f;simp at g
          · rw [hi] at f;cases f;refine fin rfl a s ?_;intro k x p;obtain ⟨m,_⟩:=u k x p;obtain ⟨_,c,h4,h5⟩:=b5 e cs (j + k) x g m;exact ⟨c,by simp only [World.cell?,b4];rw [← h4];simp [Nat.add_assoc],h5⟩
  case dref cs j=>
    cases hx with
    | @dref _ _ b o hz hc hr=>
    cases hs : sub cs j i.size with
    | none=>simp [hs] at a
    | some r=>
      simp only [hs] at a;rw [qd3] at a;obtain ⟨s,u⟩:=q8y hs;refine fin rfl a (by simpa using s) ?_;intro k x p;simp only [List.getElem?_map,Kt] at p;obtain ⟨y,hy,rfl⟩:=p;obtain ⟨m,_⟩:=u k y hy;obtain ⟨c,l⟩:=hc _ _ m;exact ⟨c,by rw [← l,Nat.add_assoc],.d (hr _ _ _ m l)⟩
  case d x=>
    cases x <;> simp only [reduceCtorEq] at a
    rename_i cs
    cases hx with
    | d hx=>
    cases hx with
    | @box _ b o hz hc hr=>
    cases hs : sub cs 0 i.size with
    | none=>simp [hs] at a
    | some r=>
      simp only [hs] at a;rw [qd3] at a;obtain ⟨s,u⟩:=q8y hs;refine fin rfl a (by simpa using s) ?_;intro k x p;simp only [List.getElem?_map,Kt] at p;obtain ⟨y,hy,rfl⟩:=p;obtain ⟨m,_⟩:=u k y hy;rw [Nat.zero_add] at m;obtain ⟨c,l⟩:=hc _ _ m;exact ⟨c,l,.d (hr _ _ _ m l)⟩
theorem qpj {t : TypeId} {i : TI} {p : Operand} {pv v : V} (h : RelS w Z inj st a Ds) (g : tiOf P t = some i) (hp : st.ev p = some pv) (d : J7 st i pv = some v) :
    Ke st st v w Z inj ((do pure (Next.value (← Instr.loadAt t (a.eval p))) : Sem Next).run P w):=by
  obtain ⟨b,o,x,_,c,f⟩:=qh2 (P:=P) h.heap g (K5 h hp) d;exact .quiet h (Kd c) f
end
end Go.Am
namespace Go.Am
open Go
variable {P : Program} {T : Tab}
theorem qbc : ∀ {c d : List (Option IntKind)} {a b : List DV} {r : Bool},Ka (c ++ d) a b = some r→
    ∃ p q,Ka c (a.take c.length) (b.take c.length) = some p∧Ka d (a.drop c.length) (b.drop c.length) = some q∧r = (p && q)
  | [],d,a,b,r,h=>⟨true,r,by simp [Ka],by simpa using h,qb⟩
  | k::c,d,a,b,r,h=>by
    match a,b,h with
    | x::a,y::b,h=>
      simp only [List.cons_append,Ka] at h
      split at h <;> simp at h
      rename_i u v f j
      obtain ⟨p,q,l,g,m⟩:=qbc j
      refine ⟨u && p,q,by simp [Ka,f,l],by simpa using g,?_⟩
      rw [← h,m,Bool.and_assoc]
    | [],_,h=>simp [Ka] at h
    | _::_,[],h=>simp [Ka] at h
theorem q9e : ∀ {ks : List (Option IntKind)} {a b : List DV} {r : Bool},Ka ks a b = some r→a.length = ks.length∧b.length = ks.length
  | [],[],[],_,_=>⟨rfl,rfl⟩
  | k::ks,x::a,y::b,r,h=>by
    simp only [Ka] at h
    split at h <;> simp at h
    rename_i d c
    have:=q9e c
    simp;omega
  | [],_::_,_,_,h=>by simp [Ka] at h
  | [],[],_::_,_,h=>by simp [Ka] at h
  | _::_,[],_,_,h=>by simp [Ka] at h
  | _::_,_::_,[],_,h=>by simp [Ka] at h
section
variable {w : World} {Z : Nat→Prop}
def DRel (w : World) (Z : Nat→Prop) (ds : List DV) (cs : Array Value) : Prop:=ds.length = cs.size∧∀ (i : Nat) (d : DV) (c : Value),ds[i]? = some d→cs[i]? = some c→RelD w Z d c
theorem DRel.extract {ds : List DV} {cs : Array Value} (h : DRel w Z ds cs) (o s : Nat) (hs : o + s≤ds.length) : DRel w Z ((ds.drop o).take s) (cs.extract o (o + s)):=by
  have b:=h.1;refine ⟨by simp;omega,fun i d c hd a=>?_⟩;rw [List.getElem?_take] at hd;split at hd
  · rw [List.getElem?_drop] at hd;rw [Array.getElem?_extract] at a;split at a
    · exact h.2 _ _ _ hd a
    · simp at a
  · simp at hd
theorem qar {t : TypeId} {d : TypeDesc} (h : P.underlying t = some d) : ∃ a,P.info? t = some a∧P.cellsOf t = a.size:=by
  cases hi : P.info? t with
  | none=>simp [Program.underlying,hi] at h
  | some a=>exact ⟨a,rfl,by simp [Program.cellsOf,hi]⟩
def EqOk (P : Program) (w : World) (Z : Nat→Prop) (k : Nat) (t : TypeId) (desc : TypeDesc) (ks : List (Option IntKind)) : Prop:=
  ∀ (xs ys : List DV) (X Y : Array Value) (r : Bool),DRel w Z xs X→DRel w Z ys Y→Ka ks xs ys = some r→
    (K6 desc = true→(Op.equalIn k t (.agg X) (.agg Y)).run P w = .ok r w)∧(K6 desc = false→ks.length = 1∧∀ x y,X[0]? = some x→Y[0]? = some y→(Op.equalIn k t x y).run P w = .ok r w)
def q6n (k : Nat) (X Y : Array Value) (f : Field) (_s : Option Bool × Unit) : Sem (ForInStep (Option Bool × Unit)):=
  if f.name ≠ "_" then do
    let __do_lift ← part f.type X f.offset
    let __do_lift_1 ← part f.type Y f.offset
    let __do_lift ← Op.equalIn k f.type __do_lift __do_lift_1
    if (!__do_lift) = true then pure (ForInStep.done (some false,())) else pure (ForInStep.yield (none,()))
  else pure (ForInStep.yield (none,()))
theorem qfv {k : Nat} {t : TypeId} {desc : TypeDesc} {b : TypeInfo} {ks : List (Option IntKind)} (h : EqOk P w Z k t desc ks) (f : P.underlying t = some desc) (hi : P.info? t = some b) (hs : b.size = ks.length)
    {xs ys : List DV} {X Y : Array Value} (r : DRel w Z xs X) (m : DRel w Z ys Y) {o : Nat} (g : o + ks.length≤xs.length) (j : o + ks.length≤ys.length) {p : Bool}
    (hp : Ka ks ((xs.drop o).take ks.length) ((ys.drop o).take ks.length) = some p) :
    ∃ s q,(part t X o).run P w = .ok s w∧(part t Y o).run P w = .ok q w∧(Op.equalIn k t s q).run P w = .ok p w:=by
  obtain ⟨u,l⟩:=h _ _ _ _ p (r.extract o ks.length g) (m.extract o ks.length j) hp
  cases a : K6 desc with
  | true=>
    exact ⟨.agg (X.extract o (o + ks.length)),.agg (Y.extract o (o + ks.length)),by simp [part,q1r f,a,Ys hi,hs],by simp [part,q1r f,a,Ys hi,hs],u a⟩
  | false=>
    obtain ⟨n,l⟩:=l a;have v:=r.1;have z:=m.1;obtain ⟨x,c⟩:=Ky (xs:=X) (i:=o) q6;obtain ⟨y,d⟩:=Ky (xs:=Y) (i:=o) q6;refine ⟨x,y,by simp [part,q1r f,a,c],by simp [part,q1r f,a,d],l x y ?_ ?_⟩
    · rw [Array.getElem?_extract,n,qp (by have:=Yw c;omega)];exact c
    · rw [Array.getElem?_extract,n,qp (by have:=Yw d;omega)];exact d
theorem qfs (d : Nat) (k : Nat) (u : ∀ t desc ks,P.underlying t = some desc→Kc P d t = some ks→EqOk P w Z k t desc ks)
    (xs ys : List DV) (X Y : Array Value) (v : DRel w Z xs X) (n : DRel w Z ys Y) : ∀ (l : List Field) (o : Nat) (r : Bool) (ks : List (Option IntKind)),tile P (Kc P d) o l = some ks→o + ks.length≤xs.length→o + ks.length≤ys.length→
    Ka ks (xs.drop o) (ys.drop o) = some r→(forIn l ((none : Option Bool),()) (q6n k X Y) : Sem (Option Bool × Unit)).run P w = .ok (if r then (none,()) else (some false,())) w
  | [],o,r,ks,ht,_,_,hc=>by
    simp only [tile,Option.some.injEq] at ht;subst ht
    obtain ⟨y,h2⟩:=q9e hc
    rw [List.eq_nil_of_length_eq_zero y,List.eq_nil_of_length_eq_zero h2] at hc
    simp [Ka] at hc;subst hc
    simp
  | f::l,o,r,ks,ht,hlx,hly,hc=>by
    simp only [tile] at ht
    cases a : Kc P d f.type with
    | none=>simp [a] at ht
    | some ka=>
      simp only [a] at ht
      split at ht <;> try simp at ht
      rename_i b
      obtain ⟨rfl,hn,aa⟩:=b
      cases c : tile P (Kc P d) (f.offset + ka.length) l with
      | none=>simp [c] at ht
      | some kb=>
        simp only [c,Option.some.injEq] at ht;subst ht
        simp only [List.length_append] at hlx hly
        obtain ⟨p,q,hp,s,j⟩:=qbc hc
        rw [List.drop_drop,List.drop_drop] at s
        obtain ⟨h,g⟩ : ∃ h,P.underlying f.type = some h:=by
          cases hu : P.underlying f.type with
          | none=>cases d <;> simp [Kc,hu] at a
          | some h=>exact ⟨h,rfl⟩
        obtain ⟨jf,m,x⟩:=qar g
        obtain ⟨vx,vy,g1,g2,z⟩:=qfv (u f.type h ka g a) g m q6 v n (o:=f.offset) q6 q6 hp
        rw [List.forIn_cons]
        simp only [q6n,qp hn,Sem.run_bind,g1,g2,z,Result.andThen_ok]
        cases p with
        | false=>simp [j]
        | true=>
          have:=qfs d k u xs ys X Y v n l (f.offset + ka.length) q kb c q6 q6 s;simp only [Bool.true_and] at j;subst j;simpa using this
def q6o (k : Nat) (e : TypeId) (n : Nat) (X Y : Array Value) (i : Nat) (_s : Option Bool × Unit) : Sem (ForInStep (Option Bool × Unit)):=do
  let __do_lift ← part e X (i * n)
  let __do_lift_1 ← part e Y (i * n)
  let __do_lift ← Op.equalIn k e __do_lift __do_lift_1
  if (!__do_lift) = true then pure (ForInStep.done (some false,())) else pure (ForInStep.yield (none,()))
theorem qft {k : Nat} {e : TypeId} {desc : TypeDesc} {b : TypeInfo} {a : List (Option IntKind)} (h : EqOk P w Z k e desc a) (g : P.underlying e = some desc) (hi : P.info? e = some b) (hs : b.size = a.length)
    {xs ys : List DV} {X Y : Array Value} (j : DRel w Z xs X) (f : DRel w Z ys Y) : ∀ (m s : Nat) (r : Bool),(s + m) * a.length≤xs.length→(s + m) * a.length≤ys.length→
    Ka (List.replicate m a).flatten (xs.drop (s * a.length)) (ys.drop (s * a.length)) = some r→(forIn (List.range' s m) ((none : Option Bool),()) (q6o k e b.size X Y) : Sem (Option Bool × Unit)).run P w = .ok (if r then (none,()) else (some false,())) w
  | 0,s,r,_,_,hc=>by
    simp only [List.replicate_zero,List.flatten_nil] at hc
    obtain ⟨n,x⟩:=q9e hc
    rw [List.eq_nil_of_length_eq_zero n,List.eq_nil_of_length_eq_zero x] at hc
    simp [Ka] at hc;subst hc
    simp
  | m + 1,s,r,hlx,hly,hc=>by
    rw [List.replicate_succ,List.flatten_cons] at hc
    obtain ⟨p,q,hp,c,d⟩:=qbc hc
    rw [List.drop_drop,List.drop_drop] at c
    have l : s * a.length + a.length = (s + 1) * a.length:=by rw [Nat.add_mul];simp
    have e2 : (s + 1) * a.length + m * a.length = (s + (m + 1)) * a.length:=by rw [← Nat.add_mul];congr 1;omega
    obtain ⟨y,z,v,u,t⟩:=qfv h g hi hs j f (o:=s * a.length) q6 q6 hp
    rw [List.range'_succ,List.forIn_cons]
    simp only [q6o,hs,Sem.run_bind,v,u,t,Result.andThen_ok]
    cases p with
    | false=>simp [d]
    | true=>
      rw [l] at c
      have:=qft h g hi hs j f m (s + 1) q (by rw [Nat.add_mul];omega) (by rw [Nat.add_mul];omega) c
      simp only [Bool.true_and] at d
      subst d
      rw [hs] at this
      simpa using this
theorem q9n : ∀ (d : Nat) (t : TypeId) (desc : TypeDesc) (ks : List (Option IntKind)),P.underlying t = some desc→Kc P d t = some ks→∀ k,d≤k→EqOk P w Z k t desc ks
  | 0,t,desc,ks,hu,hp,k,hk=>by simp [Kc] at hp
  | d + 1,t,desc,ks,hu,hp,k,hk=>by
    obtain ⟨k,rfl⟩ : ∃ k',k = k' + 1:=⟨k - 1,q6⟩
    intro xs ys X Y r v u c
    obtain ⟨s,o⟩:=q9e c
    simp only [Kc,hu] at hp
    cases desc <;> simp only [reduceCtorEq,Option.some.injEq] at hp
    case bool=>
      subst hp
      refine ⟨by simp [K6],fun _=>⟨rfl,fun x y h j=>?_⟩⟩
      match xs,ys,s,o,c with
      | [a],[b],_,_,c=>
        have ra:=v.2 0 a x rfl h
        have rb:=u.2 0 b y rfl j
        simp only [Ka] at c
        cases a <;> cases b <;> simp only [q1e,reduceCtorEq] at c
        simp at c;subst c
        cases ra;cases rb;simp [Op.equalIn,run_underlying hu]
    case int k0=>
      subst hp
      refine ⟨by simp [K6],fun _=>⟨rfl,fun x y h j=>?_⟩⟩
      match xs,ys,s,o,c with
      | [a],[b],_,_,c=>
        have ra:=v.2 0 a x rfl h
        have rb:=u.2 0 b y rfl j
        simp only [Ka] at c
        cases a <;> cases b <;> simp only [q1e,reduceCtorEq] at c
        split at c <;> simp at c
        rename_i m z
        split at m <;> simp at m
        rename_i aa
        obtain ⟨rfl,rfl⟩:=aa
        subst m c
        simp at z;subst z
        cases ra;cases rb;simp [Op.equalIn,run_underlying hu]
    case struct fs=>
      refine ⟨fun _=>?_,by simp [K6]⟩
      split at hp
      · simp at hp
      · rename_i ac
        simp only [Op.equalIn,Sem.run_bind,run_underlying hu,Result.andThen_ok,run_program,ac,Bool.false_eq_true,if_false]
        have:=qfs (P:=P) (w:=w) (Z:=Z) d k (fun t desc ks m z=>q9n d t desc ks m z k q6) xs ys X Y v u fs.toList 0 r ks hp q6 q6 (by simpa using c)
        rw [Array.forIn_toList] at this
        have e : (fun (f : Field) (_s : Option Bool × Unit)=>q6n k X Y f _s) = q6n k X Y:=rfl
        unfold q6n at this
        rw [this]
        cases r <;> simp
    case array n e=>
      refine ⟨fun _=>?_,by simp [K6]⟩
      cases g : Kc P d e with
      | none=>simp [g] at hp
      | some a=>
        simp only [g] at hp
        split at hp
        · rename_i ai
          simp only [Option.some.injEq] at hp;subst hp
          obtain ⟨q,l⟩ : ∃ q,P.underlying e = some q:=by
            cases ad : P.underlying e with
            | none=>cases d <;> simp [Kc,ad] at g
            | some q=>exact ⟨q,rfl⟩
          obtain ⟨je,p,ah⟩:=qar l
          have ag : (List.replicate n a).flatten.length = n * a.length:=by simp
          have:=qft (q9n d e q a l g k q6) l p q6 v u n 0 r (by rw [Nat.zero_add];omega) (by rw [Nat.zero_add];omega) (by simpa using c)
          simp only [Op.equalIn,Sem.run_bind,run_underlying hu,Result.andThen_ok,Ys p,Std.Legacy.Range.forIn_eq_forIn_range']
          have e : (fun (i : Nat) (_s : Option Bool × Unit)=>q6o k e je.size X Y i _s) = q6o k e je.size X Y:=rfl
          unfold q6o at this
          simp only [Std.Legacy.Range.size,Nat.sub_zero,Nat.add_sub_cancel,Nat.div_one]
          rw [this]
          cases r <;> simp
        · simp at hp
end
section
variable {w : World} {Z : Nat→Prop} {inj : Inj} {st : AS} {a : Act} {Ds : List Nat}
theorem qks {op : BinOp} {k : IntKind} {x y : Int} {r : DV} (h : binI op k x y = some r) (hs : op≠.shl∧op≠.shr) : ∃ v,(∀ t,(binOp op t (.int k x) (.int k y)).run P w = .ok v w)∧RelD w Z r v:=by
  cases op <;> simp only [binI,reduceCtorEq,Option.some.injEq] at h <;> try (simp at hs;done)
  case add=>subst h;exact ⟨_,fun t=>by simp [binOp,Op.intArith],.int _ _⟩
  case sub=>subst h;exact ⟨_,fun t=>by simp [binOp,Op.intArith],.int _ _⟩
  case mul=>subst h;exact ⟨_,fun t=>by simp [binOp,Op.intArith],.int _ _⟩
  case quo=>split at h <;> simp at h;subst h;rename_i a;exact ⟨_,fun t=>by simp [binOp,Op.intDiv,a],.int _ _⟩
  case rem=>split at h <;> simp at h;subst h;rename_i a;exact ⟨_,fun t=>by simp [binOp,Op.intDiv,a],.int _ _⟩
  case and=>subst h;exact ⟨_,fun t=>by simp [binOp,Op.intBits],.int _ _⟩
  case or=>subst h;exact ⟨_,fun t=>by simp [binOp,Op.intBits],.int _ _⟩
  case xor=>subst h;exact ⟨_,fun t=>by simp [binOp,Op.intBits],.int _ _⟩
  case eql=>subst h;exact ⟨_,fun t=>by simp [binOp,Op.intCmp],.bool _⟩
  case neq=>subst h;exact ⟨_,fun t=>by simp [binOp,Op.intCmp],.bool _⟩
  case lss=>subst h;exact ⟨_,fun t=>by simp [binOp,Op.intCmp],.bool _⟩
  case leq=>subst h;exact ⟨_,fun t=>by simp [binOp,Op.intCmp],.bool _⟩
  case gtr=>subst h;exact ⟨_,fun t=>by simp [binOp,Op.intCmp],.bool _⟩
  case geq=>subst h;exact ⟨_,fun t=>by simp [binOp,Op.intCmp],.bool _⟩
theorem qj8 {op : BinOp} {k k' : IntKind} {x y : Int} {r : DV} (h : q7m op k x y = some r) : ∃ v,(∀ t,(binOp op t (.int k x) (.int k' y)).run P w = .ok v w)∧RelD w Z r v:=by
  unfold q7m at h;split at h <;> try simp at h
  rename_i a;cases op <;> simp only [reduceCtorEq,Option.some.injEq] at h
  case shl=>subst h;exact ⟨_,fun t=>by simp [binOp,Op.shift,a],.int _ _⟩
  case shr=>subst h;exact ⟨_,fun t=>by simp [binOp,Op.shift,a],.int _ _⟩
theorem Uj {op : BinOp} {t : TypeId} {x y : Operand} {u v : Value} (b : ∀ c,u≠.agg c) (a : u≠.nilIface) : (eqGuard op t x y u v).run P w = .ok () w:=by
  unfold eqGuard;cases op <;> simp <;> cases u <;> simp_all
theorem qfp {op : BinOp} {t : TypeId} {x y : Operand} {u v : Array Value} (h : P.eqGuardType P.depth t = false) : (eqGuard op t x y (.agg u) (.agg v)).run P w = .ok () w:=by
  unfold eqGuard;cases op <;> simp [h]
end
end Go.Am
namespace Go.Am
open Go
variable {P : Program} {T : Tab}
section
variable {w : World} {Z : Nat→Prop} {inj : Inj} {st : AS} {a : Act} {Ds : List Nat}
theorem qk1 {a : TypeId → Option (List (Option IntKind))} {k : Nat} (b : ∀ t ks, a t = some ks → P.eqGuardType k t = false) : ∀ {l : List Field} {o : Nat} {ks}, tile P a o l = some ks → l.any (fun f => f.name != "_" && P.eqGuardType k f.type) = false
  | [],_,_,_=>rfl
  | f::r,o,ks,h=>by
    simp only [tile] at h
    cases hp : a f.type with
    | none=>simp [hp] at h
    | some ka=>
      simp only [hp] at h
      split at h <;> try simp at h
      cases c : tile P a (o + ka.length) r with
      | none=>simp [c] at h
      | some kb=>
        have:=qk1 b c
        simp only [List.any_cons,this,b _ _ hp,Bool.and_false,Bool.or_false]
theorem qcs : ∀ (d : Nat) (t : TypeId) (ks : List (Option IntKind)),Kc P d t = some ks→∀ k,d≤k→P.eqGuardType k t = false
  | 0,t,ks,h,k,hk=>by simp [Kc] at h
  | d + 1,t,ks,h,k,hk=>by
    obtain ⟨k,rfl⟩ : ∃ k',k = k' + 1:=⟨k - 1,q6⟩
    simp only [Kc] at h
    simp only [Program.eqGuardType]
    cases b : P.underlying t with
    | none=>rfl
    | some desc=>
      cases desc <;> simp only [b,reduceCtorEq] at h <;> try rfl
      case array n e=>
        cases hp : Kc P d e with
        | none=>simp [hp] at h
        | some a=>exact qcs d e a hp k q6
      case struct fs=>
        split at h <;> try simp at h
        have:=qk1 (fun t ks hp=>qcs d t ks hp k q6) h
        simp only []
        rw [← Array.any_toList];exact this
theorem qhv {op : BinOp} {t : TypeId} {i : TI} {x y : Operand} {p q : List DV} {ks : List (Option IntKind)} {r : Bool} {b : DV} (h : RelS w Z inj st a Ds) (u : tiOf P t = some i) (hx : st.ev x = some (.d (.agg p))) (s : st.ev y = some (.d (.agg q)))
    (v : i.eqs = some ks) (hc : Ka ks p q = some r) (l : (op = .eql∧b = .bool r)∨(op = .neq∧b = .bool (!r))) :
    Ke st st (.d b) w Z inj ((do pure (Next.value (← (do eqGuard op t x y (a.eval x) (a.eval y);binOp op t (a.eval x) (a.eval y) : Sem Value)) ) : Sem Next).run P w):=by
  obtain ⟨o,d,z,k⟩:=Yb u;have g:=K5 h hx;have j:=K5 h s;generalize a.eval x = vx at g ⊢;generalize a.eval y = vy at j ⊢
  cases g with | d g=>cases g with | @agg _ X hl1 hr1=>
  cases j with | d j=>cases j with | @agg _ Y hl2 hr2=>
  obtain ⟨f,m⟩:=k.eqs ks v;have n : P.eqGuardType P.depth t = false:=qcs 8 t ks f _ (by unfold Program.depth Made.depth;omega);have c:=(q9n (w:=w) (Z:=Z) 8 t d ks k.und f Op.maxDepth (by unfold Op.maxDepth;omega) p q X Y r ⟨hl1,hr1⟩ ⟨hl2,hr2⟩ hc).1 m;rcases l with ⟨rfl,rfl⟩ | ⟨rfl,rfl⟩
  · exact .quiet h (Kd (x:=.bool r) (by simp [qfp n,binOp,Op.equal,c])) (.d (.bool _))
  · exact .quiet h (Kd (x:=.bool (!r)) (by simp [qfp n,binOp,Op.equal,c])) (.d (.bool _))
theorem qp6 {op : BinOp} {t : TypeId} {x y : Operand} {k k' : IntKind} {p q : Int} {b : DV} (h : RelS w Z inj st a Ds) (hx : st.ev x = some (.d (.int k p))) (n : st.ev y = some (.d (.int k' q)))
    (c : binD op (.int k p) (.int k' q) = some b) :
    Ke st st (.d b) w Z inj ((do pure (Next.value (← (do eqGuard op t x y (a.eval x) (a.eval y);binOp op t (a.eval x) (a.eval y) : Sem Value)) ) : Sem Next).run P w):=by
  have j:=K5 h hx;have l:=K5 h n;generalize a.eval x = vx at j ⊢;generalize a.eval y = vy at l ⊢
  cases j with | d j=>
  cases j
  cases l with | d l=>
  cases l;have m:=Uj (P:=P) (w:=w) (op:=op) (t:=t) (x:=x) (y:=y) (u:=.int k p) (v:=.int k' q) qb qb
  have key : ∃ v,(∀ t,(binOp op t (.int k p) (.int k' q)).run P w = .ok v w)∧RelD w Z b v:=by
    unfold binD at c;split at c
    · rename_i f g;cases f;cases g;exact qj8 c
    · rename_i f g;cases f;cases g;exact qj8 c
    · rename_i z o f g;cases f;cases g;split at c <;> try simp at c
      rename_i r;subst r;exact qks c ⟨fun e=>z e,fun e=>o e⟩
    · simp at c
  obtain ⟨v,hv,s⟩:=key;exact .quiet h (Kd (x:=v) (by simp [m,hv])) (.d s)
theorem maxD : Op.maxDepth = 9999 + 1:=rfl
theorem qmm {t : TypeId} (h : P.underlying t = some .bool) (p q : Bool) : (Op.equal t (.bool p) (.bool q)).run P w = .ok (p == q) w:=by
  rw [Op.equal,maxD,Op.equalIn];simp only [Sem.run_bind,run_underlying h,Result.andThen_ok];rfl
theorem qfu {t e : TypeId} (h : P.underlying t = some (.slice e)) (a : Option Addr) (n c : Nat) : (Op.equal t (.slice none 0 0) (.slice a n c)).run P w = .ok a.isNone w:=by
  rw [Op.equal,maxD,Op.equalIn];simp only [Sem.run_bind,run_underlying h,Result.andThen_ok];rfl
theorem qmq {t e : TypeId} (h : P.underlying t = some (.slice e)) (a : Addr) (n c : Nat) : (Op.equal t (.slice (some a) n c) (.slice none 0 0)).run P w = .ok false w:=by
  rw [Op.equal,maxD,Op.equalIn];simp only [Sem.run_bind,run_underlying h,Result.andThen_ok];rfl
theorem qmn {t : TypeId} {x y z} (h : P.underlying t = some (.func x y z)) : (Op.equal t .nilFunc .nilFunc).run P w = .ok true w:=by
  rw [Op.equal,maxD,Op.equalIn];simp only [Sem.run_bind,run_underlying h,Result.andThen_ok];rfl
theorem qmo {t : TypeId} {x y z} (h : P.underlying t = some (.func x y z)) (f g c) : (Op.equal t .nilFunc (.func f g c)).run P w = .ok false w:=by
  rw [Op.equal,maxD,Op.equalIn];simp only [Sem.run_bind,run_underlying h,Result.andThen_ok];rfl
theorem qmp {t : TypeId} {x y z} (h : P.underlying t = some (.func x y z)) (f g c) : (Op.equal t (.func f g c) .nilFunc).run P w = .ok false w:=by
  rw [Op.equal,maxD,Op.equalIn];simp only [Sem.run_bind,run_underlying h,Result.andThen_ok];rfl
theorem q2i {t : TypeId} {u v : Value} {r : Bool} (f : (Op.equal t u v).run P w = .ok r w) (a : ∀ k n,u≠.int k n) (c : ∀ k n,u≠.float k n) (d : ∀ k n m,u≠.complex k n m) (b : ∀ s,u≠.string s) :
    (binOp .eql t u v).run P w = .ok (.bool r) w∧(binOp .neq t u v).run P w = .ok (.bool (!r)) w:=by
  cases u <;> first | (exfalso;exact a _ _ rfl) | (exfalso;exact c _ _ rfl) | (exfalso;exact d _ _ _ rfl) | (exfalso;exact b _ rfl) | (constructor <;> (simp only [binOp];simp [f]))
theorem qp5 {op : BinOp} {t : TypeId} {i : TI} {x y : Operand} {p q : DV} {b : DV} (h : RelS w Z inj st a Ds) (ht : tiOf P t = some i) (hx : st.ev x = some (.d p)) (hy : st.ev y = some (.d q))
    (n : binE op i.kind p q = some b) :
    Ke st st (.d b) w Z inj ((do pure (Next.value (← (do eqGuard op t x y (a.eval x) (a.eval y);binOp op t (a.eval x) (a.eval y) : Sem Value)) ) : Sem Next).run P w):=by
  obtain ⟨ab,d,z,k⟩:=Yb ht;have j:=K5 h hx;have l:=K5 h hy;generalize a.eval x = vx at j ⊢;generalize a.eval y = vy at l ⊢
  cases j with | d j=>
  cases l with | d l=>
  have key : ∀ r,eqK i.kind p q = some r→(eqGuard op t x y vx vy).run P w = .ok () w∧(binOp .eql t vx vy).run P w = .ok (.bool r) w∧(binOp .neq t vx vy).run P w = .ok (.bool (!r)) w:=by
    intro r c;have m:=k.kind;unfold Yt at m;unfold eqK at c;split at c <;> simp at c <;> (rename_i o;simp only [o] at m)
    · subst c;obtain ⟨rfl,_⟩:=m;cases j;cases l;exact ⟨Uj qb qb,q2i (qmm k.und _ _) qb qb qb qb⟩
    · subst c;cases j;cases l;exact ⟨Uj qb qb,by simp only [binOp,Op.stringOp];rfl,by simp only [binOp,Op.stringOp];rfl⟩
    · subst c;obtain ⟨e,v,de,ze,rfl,_⟩:=m;cases j;cases l;exact ⟨Uj qb qb,q2i (qfu k.und _ _ _) qb qb qb qb⟩
    · subst c;obtain ⟨e,v,de,ze,rfl,_⟩:=m;cases j;cases l;exact ⟨Uj qb qb,q2i (qfu k.und _ _ _) qb qb qb qb⟩
    · subst c;obtain ⟨e,v,de,ze,rfl,_⟩:=m;cases j;cases l;exact ⟨Uj qb qb,q2i (qmq k.und _ _ _) qb qb qb qb⟩
    · subst c;obtain ⟨⟨e,f,g,rfl⟩,_⟩:=m;cases j;cases l;exact ⟨Uj qb qb,q2i (qmn k.und) qb qb qb qb⟩
    · subst c;obtain ⟨⟨e,f,g,rfl⟩,_⟩:=m;cases j;cases l;exact ⟨Uj qb qb,q2i (qmo k.und _ _ _) qb qb qb qb⟩
    · subst c;obtain ⟨⟨e,f,g,rfl⟩,_⟩:=m;cases j;cases l;exact ⟨Uj qb qb,q2i (qmp k.und _ _ _) qb qb qb qb⟩
  unfold binE at n;split at n
  · cases c : eqK i.kind p q with
    | none=>simp [c] at n
    | some r=>
      simp [c] at n;subst n;obtain ⟨u,s,_⟩:=key r c;exact .quiet h (Kd (x:=.bool r) (by simp [u,s])) (.d (.bool _))
  · cases c : eqK i.kind p q with
    | none=>simp [c] at n
    | some r=>
      simp [c] at n;subst n;obtain ⟨u,_,s⟩:=key r c;exact .quiet h (Kd (x:=.bool (!r)) (by simp [u,s])) (.d (.bool _))
  · simp at n
end
end Go.Am
namespace Go.Am
open Go
variable {P : Program} {T : Tab}
section
variable {w : World} {Z : Nat→Prop} {inj : Inj} {st : AS} {a : Act} {Ds : List Nat}
theorem qpr {op : UnOp} {x : Operand} {p b : DV} (h : RelS w Z inj st a Ds) (g : st.ev x = some (.d p)) (c : unD op p = some b) :
    Ke st st (.d b) w Z inj ((do pure (Next.value (← Op.unary op (a.eval x))) : Sem Next).run P w):=by
  have f:=K5 h g;generalize a.eval x = vx at f ⊢
  cases f with | d f=>
  unfold unD at c;split at c
  · simp at c;subst c;cases f;exact .quiet h (Kd (by simp [Op.unary,Op.intArith])) (.d (.int _ _))
  · simp at c;subst c;cases f;exact .quiet h (Kd (by simp [Op.unary])) (.d (.bool _))
  · cases f;simp only [binI,Option.some.injEq] at c;subst c;exact .quiet h (Kd (by simp [Op.unary,Op.intBits])) (.d (.int _ _))
  · simp at c
theorem qpb {src dst : TypeId} {i j : TI} {x : Operand} {k0 r k : IntKind} {n : Int} (h : RelS w Z inj st a Ds) (hi : tiOf P src = some i) (s : tiOf P dst = some j) (l : i.kind = .int k0) (g : j.kind = .int k) (t : st.ev x = some (.d (.int r n))) :
    Ke st st (.d (.int k (k.wrap n))) w Z inj ((do pure (Next.value (← convert src dst (a.eval x))) : Sem Next).run P w):=by
  obtain ⟨q,d,z,p⟩:=Yb hi;obtain ⟨f,u,v,o⟩:=Yb s;have c:=p.kind;have m:=o.kind;unfold Yt at c m;simp only [l,g] at c m;obtain ⟨rfl,_⟩:=c;obtain ⟨rfl,_⟩:=m;have b:=K5 h t;generalize a.eval x = vx at b ⊢
  cases b with | d b=>
  cases b;refine .quiet h (Kd (x:=.int k (k.wrap n)) ?_) (.d (.int _ _));simp only [convert,Sem.run_bind,run_underlying p.und,run_underlying o.und,Result.andThen_ok];simp [Conv.intToInt]
theorem qpl {f : FuncId} {first b : Array Operand} {j : List V} (h : RelS w Z inj st a Ds) (l : first.size = 0) (o : evL st.ev b.toList = some j) :
    Ke st st (match allD j with | some ds=>.d (.fn f ds) | none=>.fn f j) w Z inj ((do pure (Next.value (← Instr.makeFunc (.func f) (first.map a.eval) (b.map a.eval))) : Sem Next).run P w):=by
  have g:=q6r h o;have k : first.map a.eval = #[]:=by apply Array.eq_empty_of_size_eq_zero;simpa using l
  have n : (b.toList.map a.eval).toArray = b.map a.eval:=by apply Array.ext';simp
  rw [n] at g;refine .quiet h (Kd (x:=.func (.func f) #[] (b.map a.eval)) (by simp [Instr.makeFunc,k])) ?_;split
  · rename_i ds hd;have:=q44 hd;subst this;refine .d (.fn (by simpa using g.1) fun i d c hd m=>?_);have:=g.2 i (.d d) c (by simp [hd]) m
    cases this with | d h=>exact h
  · exact .fn g.1 g.2
theorem qhw {x : Operand} {k : Nat} {v : V} (h : RelS w Z inj st a Ds) (g : (∃ b d,st.ev x = some (.d (.tup b))∧b[k]? = some d∧v = .d d)∨∃ b,st.ev x = some (.tup b)∧b[k]? = some v) :
    Ke st st v w Z inj ((do pure (Next.value (← Instr.extract (a.eval x) k)) : Sem Next).run P w):=by
  rcases g with ⟨b,d,g,l,rfl⟩ | ⟨b,g,l⟩
  · have f:=K5 h g;generalize a.eval x = vx at f ⊢
    cases f with | d f=>
    cases f with | @tup _ cs hl hr=>
    obtain ⟨c,j⟩:=Ky (xs:=cs) (i:=k) (by have:=K9 l;omega);exact .quiet h (Kd (x:=c) (by simp [Instr.extract,j])) (.d (hr _ _ _ l j))
  · have f:=K5 h g;generalize a.eval x = vx at f ⊢
    cases f with | @tup _ cs hl hr=>
    obtain ⟨c,j⟩:=Ky (xs:=cs) (i:=k) (by have:=K9 l;omega);exact .quiet h (Kd (x:=c) (by simp [Instr.extract,j])) (hr _ _ _ l j)
theorem qe9 {nx : Nat} {v : V} {x : Value} {cs : List V} (h : RelV w Z inj nx v x) (a : agD v = some cs) : ∃ xs,x = .agg xs∧LRel w Z inj nx cs xs:=by
  unfold agD at a;split at a <;> simp at a
  · subst a
    cases h with | d h=>
    cases h with | @agg _ X hl hr=>
    refine ⟨X,rfl,by simpa using hl,fun i d c hd g=>?_⟩;simp only [List.getElem?_map,Kt] at hd;obtain ⟨f,b,rfl⟩:=hd;exact .d (hr i f c b g)
  · subst a
    cases h with | @agg _ X hl hr=>exact ⟨X,rfl,hl,hr⟩
theorem qpe {s : TypeId} {i : TI} {x : Operand} {j v : V} {f off size : Nat} {ag : Bool} {cs r : List V} (h : RelS w Z inj st a Ds) (hi : tiOf P s = some i) (u : st.ev x = some j) (o : i.kind = .struct) (hf : i.flds[f]? = some (off,size,ag))
    (ha : agD j = some cs) (hs : sub cs off size = some r) (hp : pack ag r = some v) :
    Ke st st v w Z inj ((do pure (Next.value (← Instr.field s (a.eval x) f)) : Sem Next).run P w):=by
  obtain ⟨g,d,z,k⟩:=Yb hi;have b:=k.kind;unfold Yt at b;simp only [o] at b;obtain ⟨fs,rfl,c⟩:=b;obtain ⟨fd,jf,df,g1,g2,n,g4,g5,g6,t⟩:=qbu c hf;obtain ⟨xs,p,l⟩:=qe9 (K5 h u) ha;subst g4 g6 t;obtain ⟨y,m,q⟩:=qi3 (P:=P) g2 n l hs hp;refine .quiet h (Kd (x:=y) ?_) q;simp only [Instr.field,Sem.run_bind,run_underlying k.und,Result.andThen_ok,g1,p,asAgg,Sem.run_pure,m]
theorem qpg {t : TypeId} {i : TI} {x g : Operand} {m v : V} {k0 : IntKind} {n : Int} {cs r : List V} (h : RelS w Z inj st a Ds) (hi : tiOf P t = some i) (hx : st.ev x = some m) (hn : st.ev g = some (.d (.int k0 n))) (q : i.kind = .array)
    (ha : agD m = some cs) (h0 : 0≤n∧n < i.len) (hs : sub cs (n.toNat * i.esize) i.esize = some r) (hp : pack i.eagg r = some v) :
    Ke st st v w Z inj ((do pure (Next.value (← Instr.index t (a.eval x) (a.eval g))) : Sem Next).run P w):=by
  obtain ⟨l,d,z,k⟩:=Yb hi;have b:=k.kind;unfold Yt at b;simp only [q] at b;obtain ⟨e,ie,de,rfl,o,g2,f,g4,g5⟩:=b;obtain ⟨xs,s,p⟩:=qe9 (K5 h hx) ha;have c:=K5 h hn;generalize a.eval g = vx at c ⊢
  cases c with | d c=>
  cases c;rw [← f] at hs;rw [← g5] at hp;obtain ⟨y,j,u⟩:=qi3 (P:=P) o g2 p hs hp;refine .quiet h (Kd (x:=y) ?_) u;simp only [Instr.index,asIntOf,Sem.run_bind,Sem.run_pure,run_underlying k.und,Result.andThen_ok,s];rw [Sem.run_ite,qp h0];simp only [Sem.run_bind,Ys o,Result.andThen_ok,f];rw [f] at j;exact j
theorem qpi {t : TypeId} {i : TI} {x j : Operand} {k0 : IntKind} {n : Int} {s : ByteArray} {b : UInt8} (h : RelS w Z inj st a Ds) (hi : tiOf P t = some i) (p : st.ev x = some (.d (.str s))) (m : st.ev j = some (.d (.int k0 n))) (o : i.kind = .str)
    (hb : (if 0≤n then s[n.toNat]? else none) = some b) :
    Ke st st (.d (.int .u8 b.toNat)) w Z inj ((do pure (Next.value (← Instr.index t (a.eval x) (a.eval j))) : Sem Next).run P w):=by
  obtain ⟨l,d,z,k⟩:=Yb hi;have c:=k.kind;unfold Yt at c;simp only [o] at c;obtain ⟨rfl,_⟩:=c;have g:=K5 h p;have f:=K5 h m;generalize a.eval x = vy at g ⊢;generalize a.eval j = vx at f ⊢
  cases g with | d g=>
  cases g
  cases f with | d f=>
  cases f;refine .quiet h (Kd (x:=.int .u8 b.toNat) ?_) (.d (.int _ _));simp only [Instr.index,asIntOf,Sem.run_bind,Sem.run_pure,run_underlying k.und,Result.andThen_ok,hb]
theorem qpf {s : TypeId} {i : TI} {p : Operand} {pv v : V} {f off size : Nat} {ag : Bool} (h : RelS w Z inj st a Ds) (hi : tiOf P s = some i) (hx : st.ev p = some pv) (r : i.kind = .struct) (hf : i.flds[f]? = some (off,size,ag))
    (hp : qbq off pv = some v) :
    Ke st st v w Z inj ((do pure (Next.value (← Instr.fieldAt s (a.eval p) f)) : Sem Next).run P w):=by
  obtain ⟨q,d,z,k⟩:=Yb hi;have l:=k.kind;unfold Yt at l;simp only [r] at l;obtain ⟨fs,rfl,m⟩:=l;obtain ⟨fd,jf,df,u,t,g3,g4,g5,y,g7⟩:=qbu m hf;have g:=K5 h hx;generalize a.eval p = vx at g ⊢
  have c : ∀ b o,(Instr.fieldAt s (.pointer (some ⟨b,o,none⟩)) f).run P w = .ok (.pointer (some ⟨b,o + off,none⟩)) w:=by
    intro b o;simp only [Instr.fieldAt,Instr.sureAddr,fieldPlace,Sem.run_bind,run_underlying k.und,Result.andThen_ok,u,Sem.run_pure,Ys t,Sem.run_ite,g4,qs g5,J2,y]
  cases pv <;> simp only [qbq,reduceCtorEq,Option.some.injEq] at hp
  case ref n es ii j=>
    subst hp
    cases g with | @ref _ _ _ _ b o h1 h2=>
    refine .quiet h (Kd (c _ _)) ?_;have:=RelV.ref (w:=w) (Z:=Z) (nx:=st.nx) (es:=es) (i:=ii) (j:=j + off) h1 h2
    rwa [show o + (ii * es + (j + off)) = o + (ii * es + j) + off by omega] at this
  case dref cs j=>
    subst hp
    cases g with | @dref _ _ b o h1 h2 g=>
    refine .quiet h (Kd (c _ _)) ?_;have:=RelV.dref (inj:=inj) (nx:=st.nx) (j:=j + off) h1 h2 g
    rwa [← Nat.add_assoc] at this
  case d x=>
    cases x <;> simp only [reduceCtorEq,Option.some.injEq] at hp
    subst hp
    cases g with | d g=>
    cases g with | box h1 h2 g=>
    exact .quiet h (Kd (c _ _)) (RelV.dref (inj:=inj) (nx:=st.nx) (j:=off) h1 h2 g)
theorem qph {t : TypeId} {i : TI} {x ix : Operand} {xv v : V} {k0 : IntKind} {n : Int} (h : RelS w Z inj st a Ds) (hi : tiOf P t = some i) (hx : st.ev x = some xv) (hn : st.ev ix = some (.d (.int k0 n)))
    (hp : q2r i xv n = some v) :
    Ke st st v w Z inj ((do pure (Next.value (← Instr.indexAt t (a.eval x) (a.eval ix))) : Sem Next).run P w):=by
  obtain ⟨ah,d,z,k⟩:=Yb hi;have p:=k.kind;unfold Yt at p;have u:=K5 h hn;generalize a.eval ix = vx at u ⊢
  cases u with | d u=>
  cases u;have l:=K5 h hx;generalize a.eval x = vx at l ⊢
  have q : i.kind = .slice→∀ b o len cap,0≤n→n < (len : Nat)→(Instr.indexAt t (.slice (some ⟨b,o,none⟩) len cap) (.int k0 n)).run P w = .ok (.pointer (some ⟨b,o + n.toNat * i.esize,none⟩)) w:=by
    intro s b o len cap f r;simp only [s] at p;obtain ⟨e,ie,de,ze,rfl,g1,g2,g3,g4,g5,g6,_⟩:=p;simp only [Instr.indexAt,asIntOf,Sem.run_bind,Sem.run_pure,run_underlying k.und,Result.andThen_ok];rw [Sem.run_ite,qp ⟨f,r⟩];simp only [Sem.run_bind,Ys g1,Result.andThen_ok,Sem.run_pure,J2,g6]
  have g : i.kind = .array→∀ b o,0≤n→n < i.len→(Instr.indexAt t (.pointer (some ⟨b,o,none⟩)) (.int k0 n)).run P w = .ok (.pointer (some ⟨b,o + n.toNat * i.esize,none⟩)) w:=by
    intro s b o f r;simp only [s] at p;obtain ⟨e,ie,de,rfl,g1,g2,g3,g4,_⟩:=p;simp only [Instr.indexAt,asIntOf,Instr.sureAddr,Sem.run_bind,Sem.run_pure,run_underlying k.und,Result.andThen_ok];rw [Sem.run_ite,qp ⟨f,r⟩];simp only [Sem.run_bind,Ys g1,Result.andThen_ok,Sem.run_pure,J2,g3]
  cases s : i.kind <;> simp only [q2r,s,reduceCtorEq] at hp
  case slice=>
    cases xv <;> (try simp only [reduceCtorEq] at hp)
    case d x=>
      cases x <;> (try simp only [reduceCtorEq] at hp)
      rename_i es xs;split at hp <;> simp at hp
      rename_i f;obtain ⟨f,he⟩:=f;obtain ⟨cs,y,rfl⟩:=hp;have aa:=K9 y
      cases l with | d l=>
      cases l with
      | slnil=>simp at aa
      | slemp=>simp at aa
      | @sl _ _ b o cap r h2 h4 h5 h6=>
        refine .quiet h (Kd (q s _ _ _ _ f q6)) ?_
        have:=RelV.dref (w:=w) (Z:=Z) (inj:=inj) (nx:=st.nx) (cs:=cs) (j:=0) (b:=b) (o:=o + n.toNat * i.esize) (h2 (by rintro rfl;simp at aa))
          (fun k d hd=>by have:=(h5 n.toNat cs k d y hd).2;rwa [he,← Nat.add_assoc] at this)
          (fun k d c hd hc=>h6 n.toNat cs k d c y hd (by rwa [he,← Nat.add_assoc]))
        simpa using this
    case hs m es off len=>
      split at hp <;> simp at hp
      rename_i f;obtain ⟨f,r,he⟩:=f;subst hp
      cases l with
      | hsnil=>omega
      | @hs _ _ _ _ cap ad hn hle _ hcap=>
        obtain ⟨b,o,hi,rfl,_⟩:=hcap q6;refine .quiet h (Kd (q s _ _ _ _ f q6)) ?_;have:=RelV.ref (w:=w) (Z:=Z) (nx:=st.nx) (es:=es) (i:=off + n.toNat) (j:=0) hn hi;rw [show o + off * es + n.toNat * i.esize = o + ((off + n.toNat) * es + 0) by rw [← he,Nat.add_mul];omega];exact this
  case array=>
    cases xv <;> (try simp only [reduceCtorEq] at hp)
    case ref m es e j=>
      split at hp <;> simp at hp
      rename_i f;subst hp
      cases l with | @ref _ _ _ _ b o r h2=>
      refine .quiet h (Kd (g s _ _ f.1 f.2)) ?_;have:=RelV.ref (w:=w) (Z:=Z) (nx:=st.nx) (es:=es) (i:=e) (j:=j + n.toNat * i.esize) r h2
      rwa [← Nat.add_assoc,← Nat.add_assoc,Nat.add_assoc o] at this
    case dref cs j=>
      split at hp <;> simp at hp
      rename_i f;subst hp
      cases l with | @dref _ _ b o r h2 l=>
      refine .quiet h (Kd (g s _ _ f.1 f.2)) ?_;have:=RelV.dref (inj:=inj) (nx:=st.nx) (j:=j + n.toNat * i.esize) r h2 l
      rwa [← Nat.add_assoc] at this
    case d x=>
      cases x <;> (try simp only [reduceCtorEq] at hp)
      split at hp <;> simp at hp
      rename_i f;subst hp
      cases l with | d l=>
      cases l with | box r h2 l=>
      exact .quiet h (Kd (g s _ _ f.1 f.2)) (RelV.dref (inj:=inj) (nx:=st.nx) (j:=n.toNat * i.esize) r h2 l)
end
end Go.Am
namespace Go.Am
open Go
variable {P : Program} {T : Tab}
theorem qdx {n : Int} (h : -9223372036854775808≤n∧n≤9223372036854775807) : IntKind.i64.wrap n = n:=by rw [IntKind.wrap_i64];omega
theorem qet {es i a j : Nat} (b : j < es) : (i * es≤a * es + j∧a * es + j < i * es + es)↔a = i:=by
  constructor
  · intro ⟨c,d⟩;rcases Nat.lt_trichotomy a i with h | h | h
    · have:=Nat.mul_le_mul_right es (show a + 1≤i from h);rw [Nat.add_mul] at this;omega
    · exact h
    · have:=Nat.mul_le_mul_right es (show i + 1≤a from h);rw [Nat.add_mul] at this;omega
  grind
theorem q2l {es n i j : Nat} (hi : i < n) (a : j < es) : i * es + j < n * es:=by
  have:=Nat.mul_le_mul_right es (show i + 1≤n from hi);rw [Nat.add_mul] at this;omega
section
variable {w : World} {Z : Nat→Prop} {inj : Inj} {st : AS} {a : Act} {Ds : List Nat}
theorem qeq {b y : Nat} {o : Option Operand} {n : Nat} {code : BoundsCode} (h : RelS w Z inj st a Ds) (hb : bound st b o = some n) (j : n≤y) :
    (∀ op,o = some op→(Instr.sliceBound (a.eval op) y code).run P w = .ok n w)∧(o = none→n = b):=by
  cases o with
  | none=>simp [bound] at hb;exact ⟨qb,fun _=>hb.symm⟩
  | some op=>
    refine ⟨fun g e=>?_,qb⟩;cases e;simp only [bound] at hb;split at hb <;> try simp at hb
    rename_i k m f;have c:=K5 h f;generalize a.eval op = vx at c ⊢
    cases c with | d c=>
    cases c;obtain ⟨l,rfl⟩:=hb;simp only [Instr.sliceBound,asIntOf,Sem.run_bind,Sem.run_pure,Result.andThen_ok];simp_all
theorem qpp {t : TypeId} {i : TI} {x : Operand} {xv v : V} {lo hi : Option Operand} {n p q : Nat} (h : RelS w Z inj st a Ds) (ht : tiOf P t = some i) (hk : i.kind = .slice) (f : st.ev x = some xv) (l : lenV xv = some n)
    (ak : bound st 0 lo = some p) (al : bound st n hi = some q) (hs : qae i.esize xv p q = some v) :
    Ke st st v w Z inj ((do pure (Next.value (← Instr.sliceAt t (a.eval x) (lo.map a.eval) (hi.map a.eval) none)) : Sem Next).run P w):=by
  obtain ⟨an,d,z,k⟩:=Yb ht;have ab:=k.kind;unfold Yt at ab;simp only [hk] at ab;obtain ⟨e,ie,de,ze,rfl,g1,g2,g3,g4,g5,g6,g7,_⟩:=ab;have h3:=K5 h f;generalize a.eval x = vx at h3 ⊢
  have run : ∀ ad len cap,len = n→q≤cap→p≤q→(Instr.sliceAt t (.slice ad len cap) (lo.map a.eval) (hi.map a.eval) none).run P w = .ok (.slice (if cap = p then ad else ad.map (·.add (p * i.esize))) (q - p) (cap - p)) w:=by
    intro ad len cap hl hq hp;obtain ⟨l1,l2⟩:=qeq (P:=P) (y:=q) (code:=.sliceB) h ak hp;obtain ⟨r1,r2⟩:=qeq (P:=P) (y:=cap) (code:=.sliceAcap) h al hq;simp only [Instr.sliceAt,Sem.run_bind,run_underlying k.und,Result.andThen_ok,Instr.slice,Instr.sliceBounds,Ys g1,g6]
    cases hi with
    | none=>
      have:=r2 rfl;subst this
      cases lo with
      | none=>have:=l2 rfl;subst this;simp [hl]
      | some o=>simp [hl,l1 o rfl]
    | some o'=>
      cases lo with
      | none=>have:=l2 rfl;subst this;simp [r1 o' rfl]
      | some o=>simp [r1 o' rfl,l1 o rfl]
  cases xv <;> simp only [qae,reduceCtorEq] at hs
  case d x=>
    cases x <;> simp only [reduceCtorEq] at hs
    case nilsl=>
      split at hs <;> simp at hs
      rename_i u;obtain ⟨rfl,rfl⟩:=u;subst hs;simp [lenV] at l
      cases h3 with | d h3=>
      cases h3;exact .quiet h (Kd (run _ _ _ l q6 q6)) (by simpa using RelV.d .nilsl)
    case sl es xs=>
      split at hs <;> simp at hs
      rename_i u;obtain ⟨u,h1,he⟩:=u;subst hs;simp [lenV] at l
      cases h3 with | d h3=>
      cases h3 with
      | slnil=>
        simp at h1 l;obtain ⟨rfl,rfl⟩ : q = 0∧p = 0:=by omega
        exact .quiet h (Kd (run _ _ _ l q6 q6)) (by simpa using RelV.d (.slnil _))
      | slemp=>
        simp at h1 l;obtain ⟨rfl,rfl⟩ : q = 0∧p = 0:=by omega
        exact .quiet h (Kd (run _ _ _ l q6 q6)) (by simpa using RelV.d (.slemp _ _))
      | @sl _ _ b o cap hc hz hl hcell hrel=>
        refine .quiet h (Kd (run _ _ _ l q6 u)) ?_;have g : ((xs.drop p).take (q - p)).length = q - p:=by simp;omega
        have s : ∀ (i : Nat) (x : List DV),((xs.drop p).take (q - p))[i]? = some x→xs[p + i]? = some x:=by
          intro i x f;rw [List.getElem?_take] at f;split at f
          · rwa [List.getElem?_drop] at f
          · simp at f
        by_cases r : cap = p
        · rw [qp r];have h9 : (xs.drop p).take (q - p) = []:=List.eq_nil_of_length_eq_zero (by rw [g];omega);have h8 : q - p = 0:=by omega
          rw [h9,h8];exact .d (RelD.sl (es:=es) (xs:=[]) qb qb qb qb qb)
        · rw [qs r,Option.map_some,J2]
          have e2 : ∀ k j,o + p * i.esize + (k * es + j) = o + ((p + k) * es + j):=by
            intro k j;rw [← he,Nat.add_mul];omega
          have:=RelD.sl (w:=w) (Z:=Z) (es:=es) (xs:=(xs.drop p).take (q - p)) (b:=b) (o:=o + p * i.esize) (cap:=cap - p) (by rw [g];omega) (fun ae=>hz (by rintro rfl;simp at ae)) (fun i x f=>hl _ _ (s i x f))
            (fun k x j d f hd=>by rw [e2];exact hcell _ _ j d (s k x f) hd)
            (fun k x j d c f hd hc=>hrel _ _ j d c (s k x f) hd (by rw [e2] at hc;exact hc))
          rw [g] at this;exact .d this
  case hs m es off len=>
    split at hs <;> simp at hs
    rename_i u;obtain ⟨u,h1,he⟩:=u;subst hs;simp [lenV] at l
    cases h3 with
    | hsnil hm=>
      obtain ⟨rfl,rfl⟩ : q = 0∧p = 0:=by omega
      exact .quiet h (Kd (run _ _ _ l q6 q6)) (by simpa using RelV.hsnil (es:=es) (off:=off) hm)
    | @hs _ _ _ _ cap ad hm hc hsp hcap=>
      refine .quiet h (Kd (run _ _ _ l q6 u)) ?_;by_cases r : cap = p
      · rw [qp r];exact .hs hm q6 hsp (fun ae=>q6)
      · rw [qs r,Option.map_some];obtain ⟨b,o,hi,rfl,aq⟩:=hcap q6;rw [J2];refine .hs hm q6 rfl fun _=>⟨b,o,hi,?_,?_⟩
        · rw [he,Nat.add_mul,← Nat.add_assoc]
        · rwa [show off + p + (cap - p) = off + cap by omega]
theorem qe0 {b : Value} {es n i j : Nat} {ds : List DV} (p : b.cells.toList.mapM Z4 = some ds) (h : ds.length = es) (hi : i < n) {d : DV} (hd : ds[j]? = some d) :
    ∃ c,((Array.range (n * es)).map (b.cells[· % b.cells.size]!))[i * es + j]? = some c∧RelD w Z d c∧Y6 d = true:=by
  obtain ⟨k,o⟩:=q6k (w:=w) (Z:=Z) p;obtain ⟨c,m,l,a,_⟩:=o j d hd;have g : j < es:=by have:=K9 hd;omega
  refine ⟨c,?_,l,a⟩;have f:=q2l hi g;rw [Array.getElem?_map,Array.getElem?_range];simp only [f,if_true,Option.map_some];have : (i * es + j) % b.cells.size = j:=by rw [← k,h,Nat.mul_comm,Nat.mul_add_mod,Nat.mod_eq_of_lt g]
  grind
theorem qpn {t : TypeId} {i : TI} {l c : Operand} {k1 k2 : IntKind} {n m : Int} (h : RelS w Z inj st a Ds) (ht : tiOf P t = some i) (hk : i.kind = .slice) (hl : st.ev l = some (.d (.int k1 n))) (u : st.ev c = some (.d (.int k2 m)))
    (y : 0≤n) (h1 : n≤m) (o : m * (i.ebytes * 4)≤room) :
    Ke st (st.new (.dat i.esize (List.replicate n.toNat i.ezero))) (.hs st.nx i.esize 0 n.toNat) w Z inj ((do pure (Next.value (← Instr.makeSlice t (a.eval l) (a.eval c))) : Sem Next).run P w):=by
  obtain ⟨v,d,z,k⟩:=Yb ht;have f:=k.kind;unfold Yt at f;simp only [hk] at f;obtain ⟨e,ie,de,ze,rfl,g1,g2,g3,g4,g5,g6,g7,g8,g9,_⟩:=f;have r:=K5 h hl;have q:=K5 h u;generalize a.eval l = vl at r ⊢;generalize a.eval c = vc at q ⊢
  cases r with | d r=>
  cases r
  cases q with | d q=>
  cases q
  have hm : m≤4294967296:=by
    have e1 : (1 : Int)≤(i.ebytes : Int) * 4:=by omega
    have:=Int.mul_le_mul_of_nonneg_left e1 (show (0:Int)≤m by omega);unfold room at o;omega
  have hb : (i.ebytes : Int) * m≤281474976710656:=by
    unfold room at o;grind
  have w1 : IntKind.i64.wrap n = n:=qdx q6;have w2 : IntKind.i64.wrap m = m:=qdx q6;obtain ⟨N,rfl⟩:=Int.eq_ofNat_of_zero_le y;obtain ⟨M,rfl⟩:=Int.eq_ofNat_of_zero_le (show 0≤m by omega);simp only [Int.toNat_natCast];have b:=run_make (P:=P) w t e ie ze k.und g1 g3 k1 k2 (N : Int) (M : Int) y h1 (by rw [g8];exact hb) q6;simp only [Int.toNat_natCast,g6] at b;have s : N≤M:=by omega
  refine .new h (Kd b) ?_ ?_
  · refine ⟨g7,?_,.inr ⟨w.heap.size,0,_,e,Kr _ _ _,J3 _ _,?_⟩⟩
    · grind
    · intro j x j' d p hd;rw [List.getElem?_replicate] at p;split at p <;> simp at p
      rename_i hj;subst p;obtain ⟨c,u,o,g⟩:=qe0 (w:=w.alloc (.cells (madeCells ze.cells (M * i.esize)) e)) (Z:=Z) g4 g5 (show j < M by omega) hd;exact ⟨g,c,by rw [Nat.zero_add];exact u,o⟩
  · refine .hs q6 s rfl fun _=>⟨w.heap.size,0,Kr _ _ _,qb,?_⟩
    exact ⟨_,_,_,J3 _ _,by rw [size_madeCells];simp⟩
def ERel (w : World) (Z : Nat→Prop) (inj : Inj) (nx es : Nat) (xs : List (List V)) (C : Array Value) : Prop:=
  C.size = xs.length * es∧(∀ (i : Nat) (x : List V),xs[i]? = some x→x.length = es)∧
    ∀ (i : Nat) (x : List V) (j : Nat) (d : V),xs[i]? = some x→x[j]? = some d→Kf d = true∧∃ c,C[i * es + j]? = some c∧RelV w Z inj nx d c
theorem qfk {es : Nat} : ∀ {f : List (Nat × V)} {l : List (Nat × List V)},elems es f = some l→l.length = f.length∧∀ (k i : Nat) (v : V),f[k]? = some (i,v)→(cellsOf v).length = es∧(cellsOf v).all Kf = true∧l[k]? = some (i,cellsOf v)
  | [],l,h=>by simp [elems] at h;subst h;simp
  | (i,v)::r,l,h=>by
    simp only [elems] at h
    split at h
    · rename_i l' o
      split at h
      · rename_i g
        simp at h;subst h
        obtain ⟨m,j⟩:=qfk o
        refine ⟨by simp [m],fun k p n d=>?_⟩
        cases k with
        | zero=>simp at d;obtain ⟨rfl,rfl⟩:=d;exact ⟨g.1,g.2,qb⟩
        | succ k=>simp at d;obtain ⟨a,b,c⟩:=j k p n d;exact ⟨a,b,by simpa using c⟩
      · simp at h
    · simp at h
theorem ERel.set {w : World} {nx es : Nat} {xs : List (List V)} {C k : Array Value} {ys : List V} {i : Nat} (h : ERel w Z inj nx es xs C) (m : LRel w Z inj nx ys k) (u : ys.length = es) (o : ys.all Kf = true) (hi : i < xs.length) :
    ERel w Z inj nx es (xs.set i ys) (Am.splice C.toList (i * es) k.toList).toArray:=by
  obtain ⟨p,t,s⟩:=h;have b : k.toList.length = es:=by have:=m.1;simp;omega
  have a : i * es + k.toList.length≤C.toList.length:=by
    rw [b,Array.length_toList,p];have:=Nat.mul_le_mul_right es (show i + 1≤xs.length from hi);rw [Nat.add_mul] at this;omega
  refine ⟨by simp [q1a _ _ _ a,p],?_,?_⟩
  · grind
  · intro j x l d g hd;rw [List.getElem?_set] at g;by_cases f : i = j
    · subst f;rw [qp rfl,qp hi] at g;simp at g;subst g;have q:=K9 hd;obtain ⟨c,n⟩:=Ky (xs:=k) (i:=l) (by have:=m.1;omega);refine ⟨List.all_eq_true.1 o _ (List.mem_of_getElem? hd),c,?_,m.2 _ _ _ hd n⟩;rw [List.getElem?_toArray,Jb _ _ _ _ a,qp (by rw [b];omega),show i * es + l - i * es = l by omega];grind
    · rw [qs f] at g;obtain ⟨r,c,y,v⟩:=s j x l d g hd;refine ⟨r,c,?_,v⟩;rw [List.getElem?_toArray,Jb _ _ _ _ a,qs ?_]
      · grind
      · rw [b];intro n;exact f ((qet (by have:=K9 hd;have:=t j x g;omega)).1 n).symm
theorem qfy {w : World} {nx es : Nat} : ∀ (f : List (Nat × V)) (xs : List (Nat × Value)) (l : List (Nat × List V)) (cs c : List (List V)) (C : Array Value),
    f.length = xs.length→(∀ (k : Nat) (i : Nat) (v : V),f[k]? = some (i,v)→∃ x,xs[k]? = some (i,x)∧RelV w Z inj nx v x)→
    l.length = f.length→(∀ (k : Nat) (i : Nat) (v : V),f[k]? = some (i,v)→(cellsOf v).length = es∧(cellsOf v).all Kf = true∧l[k]? = some (i,cellsOf v))→
    ERel w Z inj nx es cs C→q2n cs l = some c→∃ n,Instr.fill (fun i=>some (i * es,es)) C xs = some n∧ERel w Z inj nx es c n∧c.length = cs.length
  | [],xs,l,cs,c,C,h1,_,h3,_,h5,h6=>by
    have : xs = []:=by cases xs <;> simp_all
    have : l = []:=by cases l <;> simp_all
    subst_vars
    simp [q2n] at h6;subst h6
    exact ⟨C,by simp [Instr.fill],h5,rfl⟩
  | (i,v)::f,xs,l,cs,c,C,h1,h2,h3,h4,h5,h6=>by
    match xs,l,h1,h3 with
    | (i',x)::xs,(o',ys)::l,h1,h3=>
      obtain ⟨x',g,u⟩:=h2 0 i v rfl
      simp at g;obtain ⟨rfl,rfl⟩:=g
      obtain ⟨t,s,m⟩:=h4 0 i' v rfl
      simp at m;obtain ⟨rfl,rfl⟩:=m
      obtain ⟨z,q2,q3⟩:=q9f u s
      simp only [q2n] at h6
      split at h6
      · rename_i d
        obtain ⟨n,o,h,j⟩:=qfy f xs l (cs.set o' (cellsOf v)) c (splice C.toList (o' * es) x.cells.toList).toArray (by simpa using h1)
          (fun k i v p=>by obtain ⟨x,q⟩:=h2 (k + 1) i v (by simpa using p);exact ⟨x,by simpa using q⟩) (by simpa using h3)
          (fun k i v p=>by obtain ⟨a,b,q⟩:=h4 (k + 1) i v (by simpa using p);exact ⟨a,b,by simpa using q⟩)
          (h5.set ⟨z,q2⟩ t s d) h6
        refine ⟨n,?_,h,by simpa using j⟩
        have y : o' * es + es≤C.size:=by
          rw [h5.1];have:=Nat.mul_le_mul_right es (show o' + 1≤cs.length from d);rw [Nat.add_mul] at this;omega
        have r : x.cells.size = es:=by omega
        simp only [Instr.fill,r]
        have : ¬ ((decide (es≠es) || decide (o' * es + es > C.size)) = true):=by simp;omega
        rw [qs (by simpa using this)]
        rw [qg5 x.cells C (o' * es) q6]
        exact o
      · simp at h6
theorem qp9 {t : TypeId} {i : TI} {len : Nat} {g : Array (Nat × Operand)} {r : List (Nat × V)} {l : List (Nat × List V)} {xs : List (List V)} (h : RelS w Z inj st a Ds) (ht : tiOf P t = some i) (hv : Zm st.ev g.toList = some r)
    (hl : elems i.esize r = some l) (hk : i.kind = .slice) (u : len * i.esize≤16777216) (hf : q2n (List.replicate len (i.ezero.map .d)) l = some xs) :
    Ke st (st.new (q4m i.esize xs)) (.hs st.nx i.esize 0 len) w Z inj ((do pure (Next.value (← Instr.buildSlice t len (g.map fun (i,x)=>(i,a.eval x)))) : Sem Next).run P w):=by
  obtain ⟨af,d,z,k⟩:=Yb ht;have b:=k.kind;unfold Yt at b;simp only [hk] at b;obtain ⟨e,ie,de,q,rfl,g1,g2,g3,g4,g5,g6,g7,g8,g9,_⟩:=b;obtain ⟨p1,p2⟩:=qfw h hv;obtain ⟨q1,q2⟩:=qfk hl;have aa : ∀ (k i : Nat) (v : V),r[k]? = some (i,v)→∃ x,(g.toList.map fun (x : Nat × Operand)=>(x.1,a.eval x.2))[k]? = some (i,x)∧RelV w Z inj st.nx v x:=by grind
  have ad : ERel w Z inj st.nx i.esize (List.replicate len (i.ezero.map .d)) ((Array.range (len * i.esize)).map (q.cells[· % q.cells.size]!)):=by
    refine ⟨qb,?_,?_⟩
    · grind
    · intro j x j' d m hd;rw [List.getElem?_replicate] at m;split at m <;> simp at m
      rename_i hj;subst m;simp only [List.getElem?_map,Kt] at hd;obtain ⟨d',y,rfl⟩:=hd;obtain ⟨c,hc,n,f⟩:=qe0 (w:=w) (Z:=Z) g4 g5 hj y;exact ⟨f,c,hc,.d n⟩
  obtain ⟨s,hC,n,o⟩:=qfy r (g.toList.map fun (x : Nat × Operand)=>(x.1,a.eval x.2)) l _ xs _ (by simp [p1]) aa q1 q2 ad hf;have al : Instr.fill (fun j=>some (j * i.esize,i.esize)) ((Array.range (len * i.esize)).map (q.cells[· % q.cells.size]!)) (g.map fun (x : Nat × Operand)=>(x.1,a.eval x.2)).toList = some s:=by simpa using hC
  have p : (Instr.buildSlice t len (g.map fun (i,x)=>(i,a.eval x))).run P w = .ok (.slice (some ⟨w.heap.size,0,none⟩) len len) (w.alloc (.cells s e)):=by
    have hn : ¬ (len * i.esize > 2 ^ 24):=by omega
    have ae : (do let x ← newRow e s;pure (Value.slice (some x) len len) : Sem Value).run P w = .ok (.slice (some ⟨w.heap.size,0,none⟩) len len) (w.alloc (.cells s e)):=by simp [newRow]
    by_cases hz : len * i.esize = 0
    · simp only [Instr.buildSlice,Sem.run_bind,run_underlying k.und,Result.andThen_ok,Ys g1,g6];grind
    · simp only [Instr.buildSlice,Sem.run_bind,run_underlying k.und,Result.andThen_ok,Ys g1,g6];rw [qs hn,qs hz];have ba : (zeroValue e).run P w = .ok q w:=by simp [zeroValue,typeInfo,g1,g3]
      simp_all
  have ab : xs.length = len:=by simpa using o
  refine .new h (Kd p) ?_ ?_
  · refine qio g7 (Kr _ _ _) (J3 _ _) n.2.1 ?_;intro j x j' d m hd;obtain ⟨h1,c,h2,h3⟩:=n.2.2 j x j' d m hd;exact ⟨h1,c,h2,qis h _ h3⟩
  · refine .hs q6 (Nat.le_refl _) rfl fun _=>⟨w.heap.size,0,Kr _ _ _,qb,?_⟩
    exact ⟨_,_,_,J3 _ _,by rw [n.1,ab];simp⟩
end
end Go.Am
