/- Am6 Am7 Am8 Am9 Am10 Am11 Am12 -/
import Derived.Test.YtiejlbckgihckaaGreatK1
import Derived.Laws.MakeOwn
namespace Go.Am
open Go
variable {P : Program} {T : Tab}
theorem q9f {α β : Type} {f : α→Option β} : ∀ {l : List α} {r : List β},l.mapM f = some r→r.length = l.length∧∀ (i : Nat) (x : α),l[i]? = some x→∃ y,r[i]? = some y∧f x = some y
  | [],r,h=>by simp at h;subst h;simp
  | a::l,r,h=>by
    rw [List.mapM_cons] at h
    cases c : f a with
    | none=>simp [c] at h
    | some b=>
      cases g : l.mapM f with
      | none=>simp [c,g] at h
      | some s=>
        simp [c,g] at h
        subst h
        obtain ⟨m,j⟩:=q9f g
        refine ⟨by simp [m],?_⟩
        intro i x d
        cases i with
        | zero=>simp at d;subst d;exact ⟨b,qd,c⟩
        | succ i=>simp at d;obtain ⟨y,k⟩:=j i x d;exact ⟨y,by simpa using k⟩
theorem Yk {α β : Type} {l : List α} {r : List β} (a : r.length = l.length) {i : Nat} {y : β} (h : r[i]? = some y) : ∃ x,l[i]? = some x:=
  Zr (by have:=Kc h;omega)
def Zf (P : Program) (_t : TypeId) (i : TI) (d : TypeDesc) : Prop:=match i.kind with
  | .bool=>d = .bool∧i.size = 1
  | .int k=>d = .int k∧i.size = 1
  | .str=>d = .string∧i.size = 1
  | .ptr=>(∃ e,d = .pointer e)∧i.size = 1
  | .func=>(∃ a b c,d = .func a b c)∧i.size = 1
  | .slice=>∃ e ie de ze,d = .slice e∧P.info? e = some ie∧P.underlying e = some de∧ie.zero = some ze∧ze.cells.toList.mapM Zp = some i.ezero∧i.ezero.length = i.esize∧ie.size = i.esize∧i.esize≠0∧
      ie.bytes = i.ebytes∧i.ebytes≠0∧Kb de = i.eagg∧i.size = 1
  | .array=>∃ e ie de,d = .array i.len e∧P.info? e = some ie∧P.underlying e = some de∧ie.size = i.esize∧i.esize≠0∧Kb de = i.eagg
  | .map=>∃ kt e ie ze zd ks dk,d = .map kt e∧P.info? e = some ie∧ie.zero = some ze∧Zp ze = some zd∧Ke P 8 kt = some ks∧P.underlying kt = some dk∧i.keys = some ks∧i.ezero = [zd]∧i.eagg = Kb dk∧i.size = 1
  | .struct=>∃ fs,d = .struct fs∧(fs.toList.mapM fun f=>do
      let jf ← P.info? f.type
      let df ← P.underlying f.type
      if jf.size = 0 then none else some (f.offset,jf.size,Kb df)) = some i.flds
structure TiOk (P : Program) (t : TypeId) (i : TI) (info : TypeInfo) (d : TypeDesc) (z : Value) : Prop where
  inf : P.info? t = some info
  und : P.underlying t = some d
  zero : info.zero = some z
  size : info.size = i.size
  pos : i.size≠0
  cells : z.cells.toList.mapM Zp = some i.zero
  len : i.zero.length = i.size
  agg : i.agg = Kb d
  kind : Zf P t i d
  eqs : ∀ ks,i.eqs = some ks→Ke P 8 t = some ks∧Kb d = true
  keys : ∀ ks,i.keys = some ks→i.kind = .map
theorem Yo {t : TypeId} {i : TI} (h : tiOf P t = some i) : ∃ g d z,TiOk P t i g d z:=by
  unfold tiOf at h
  cases l : P.info? t with
  | none=>simp [l] at h
  | some g=>
  cases m : P.underlying t with
  | none=>simp [l,m] at h
  | some d=>
  cases o : g.zero with
  | none=>simp [l,m,o] at h
  | some z=>
  cases p : z.cells.toList.mapM Zp with
  | none=>simp [l,m,o,p] at h
  | some zc=>
  simp only [l,m,o,p,Option.bind_eq_bind,qk] at h;by_cases h5 : zc.length≠g.size∨g.size = 0
  · grind
  · rw [qq h5] at h;have s : zc.length = g.size:=by omega
    have r : g.size≠0:=by omega
    refine ⟨g,d,z,?_⟩;cases d <;> simp only [reduceCtorEq] at h
    case bool=>split at h <;> simp at h;subst h;rename_i hs;exact ⟨l,m,o,rfl,r,p,s,rfl,⟨rfl,hs⟩,qd,qd⟩
    case int k=>split at h <;> simp at h;subst h;rename_i hs;exact ⟨l,m,o,rfl,r,p,s,rfl,⟨rfl,hs⟩,qd,qd⟩
    case string=>split at h <;> simp at h;subst h;rename_i hs;exact ⟨l,m,o,rfl,r,p,s,rfl,⟨rfl,hs⟩,qd,qd⟩
    case pointer e=>split at h <;> simp at h;subst h;rename_i hs;exact ⟨l,m,o,rfl,r,p,s,rfl,⟨⟨_,rfl⟩,hs⟩,qd,qd⟩
    case func a b c=>split at h <;> simp at h;subst h;rename_i hs;exact ⟨l,m,o,rfl,r,p,s,rfl,⟨⟨_,_,_,rfl⟩,hs⟩,qd,qd⟩
    case slice e=>
      cases j : P.info? e with
      | none=>simp [j] at h
      | some ie=>
      cases u : P.underlying e with
      | none=>simp [j,u] at h
      | some de=>
      cases q : ie.zero with
      | none=>simp [j,u,q] at h
      | some ze=>
      cases v : ze.cells.toList.mapM Zp with
      | none=>simp [j,u,q,v] at h
      | some ezc=>
      simp only [j,u,q,v,qk] at h;split at h
      · simp at h
      · rename_i hs;simp at h;subst h;exact ⟨l,m,o,rfl,r,p,s,rfl,⟨e,ie,de,ze,rfl,j,u,q,v,by show ezc.length = ie.size;omega,rfl,by show ie.size≠0;omega,rfl,by show ie.bytes≠0;omega,rfl,by show g.size = 1;omega⟩,by simp,by simp⟩
    case map kt e=>
      cases j : P.info? e with
      | none=>simp [j] at h
      | some ie=>
      cases q : ie.zero with
      | none=>simp [j,q] at h
      | some ze=>
      cases v : Zp ze with
      | none=>simp [j,q,v] at h
      | some zd=>
      cases w : Ke P 8 kt with
      | none=>simp [j,q,w] at h
      | some ks=>
      cases y : P.underlying kt with
      | none=>simp [j,q,w,y] at h
      | some dk=>
      simp only [j,q,v,w,y,qk] at h;split at h
      · rename_i hs;simp at h;subst h;exact ⟨l,m,o,rfl,r,p,s,rfl,⟨kt,e,ie,ze,zd,ks,dk,rfl,j,q,v,w,y,rfl,rfl,rfl,hs⟩,qd,fun _ _=>rfl⟩
      · simp at h
    case array n e=>
      cases j : P.info? e with
      | none=>simp [j] at h
      | some ie=>
      cases u : P.underlying e with
      | none=>simp [j,u] at h
      | some de=>
      simp only [j,u,qk] at h;split at h
      · simp at h
      · rename_i hs;simp at h;subst h;exact ⟨l,m,o,rfl,r,p,s,rfl,⟨e,ie,de,rfl,j,u,rfl,hs,rfl⟩,fun ks h=>⟨h,rfl⟩,qd⟩
    case struct fs=>
      cases j : (fs.toList.mapM fun f=>do
          let jf ← P.info? f.type
          let df ← P.underlying f.type
          if jf.size = 0 then none else some (f.offset,jf.size,Kb df)) with
      | none=>simp only [Option.bind_eq_bind] at j;simp only [j,Option.bind_none] at h;simp at h
      | some fl=>
        have x:=j;simp only [Option.bind_eq_bind] at j;simp only [j,qk] at h;simp at h;subst h;exact ⟨l,m,o,rfl,r,p,s,rfl,⟨fs,rfl,x⟩,fun ks h=>⟨h,rfl⟩,qd⟩
section
variable {w : World} {Z : Nat→Prop} {inj : Inj} {nx : Nat}
theorem qf0 {v : Value} {d : DV} (h : Zp v = some d) : RelD w Z d v∧Yg d = true∧v.oneCell' = true:=by
  unfold Zp at h;split at h <;> simp at h <;> subst h
  · exact ⟨.int _ _,rfl,rfl⟩
  · exact ⟨.bool _,rfl,rfl⟩
  · exact ⟨.str _,rfl,rfl⟩
  · exact ⟨.nilp,rfl,rfl⟩
  · exact ⟨.nilsl,rfl,rfl⟩
  · exact ⟨.nilf,rfl,rfl⟩
  · exact ⟨.nilm,rfl,rfl⟩
theorem q8y {cs : Array Value} {ds : List DV} (h : cs.toList.mapM Zp = some ds) : ds.length = cs.size∧∀ (i : Nat) (d : DV),ds[i]? = some d→∃ c,cs[i]? = some c∧RelD w Z d c∧Yg d = true∧c.oneCell' = true:=by
  obtain ⟨b,j⟩:=q9f h;refine ⟨by simpa using b,fun i d hd=>?_⟩;obtain ⟨c,f⟩:=Yk b hd;obtain ⟨y,a,g⟩:=j i c f;rw [hd] at a;cases a;exact ⟨c,by simpa using f,qf0 g⟩
theorem qrt {v : Value} {d : DV} (h : qbs v = some d) : RelD w Z d v:=by
  unfold qbs at h;split at h
  · rename_i cs
    cases a : cs.toList.mapM Zp with
    | none=>simp [a] at h
    | some ds=>
      simp [a] at h;subst h;obtain ⟨b,f⟩:=q8y (w:=w) (Z:=Z) a;refine .agg b fun i d c hd g=>?_;grind
  · exact (qf0 h).1
theorem Ka {st : AS} {a : Act} {Ds : List Nat} (h : RelS w Z inj st a Ds) {o : Operand} {v : V} (b : st.ev o = some v) : RelV w Z inj st.nx v (a.eval o):=by
  cases o with
  | tmp t=>
    obtain ⟨x,l,k⟩:=h.slots t v b;simp only [Act.eval,Array.getD_eq_getD_getElem?,l,Option.getD_some];exact k
  | const c=>
    simp only [AS.ev] at b
    cases j : qbs c with
    | none=>simp [j] at b
    | some d=>simp [j] at b;subst b;exact .d (qrt j)
  | func f=>
    simp only [AS.ev] at b;cases b;exact .d (.fn qd qd)
  | global g=>simp [AS.ev] at b
theorem q5h {a : List V} {ds : List DV} (h : allD a = some ds) : a = ds.map .d:=by
  induction a generalizing ds with
  | nil=>simp [allD] at h;subst h;rfl
  | cons v r ih=>
    cases v <;> simp only [allD,reduceCtorEq] at h
    grind
theorem qeb (ds : List DV) : allD (ds.map .d) = some ds:=by
  induction ds with
  | nil=>rfl
  | cons d r ih=>simp [allD,ih]
theorem qgj {d : V} {c : Value} (h : RelV w Z inj nx d c) (a : Kh d = true) : c.oneCell' = true:=by
  cases h with
  | d h=>cases h <;> simp_all [Kh,Yg,Value.oneCell']
  | _=>simp_all [Kh,Value.oneCell']
theorem qqr {c : Value} (h : c.oneCell' = true) : c.cells = #[c]:=by cases c <;> simp_all [Value.oneCell',Value.cells]
theorem qbr {v : V} {x : Value} (h : RelV w Z inj nx v x) (f : (cellsOf v).all Kh = true) :
    (cellsOf v).length = x.cells.size∧(∀ (i : Nat) (d : V) (c : Value),(cellsOf v)[i]? = some d→x.cells[i]? = some c→RelV w Z inj nx d c)∧∀ c∈x.cells.toList,c.oneCell' = true:=by
  have fin : ∀ (l : List V) (cs : Array Value),l.length = cs.size→(∀ (i : Nat) (d : V) (c : Value),l[i]? = some d→cs[i]? = some c→RelV w Z inj nx d c)→l.all Kh = true→∀ c∈cs.toList,c.oneCell' = true:=by
    intro l cs k g j c p;obtain ⟨i,hi,rfl⟩:=List.mem_iff_getElem.1 p;simp at hi;have n : l[i]? = some l[i]:=List.getElem?_eq_getElem q0;have m : cs[i]? = some cs[i]:=Array.getElem?_eq_getElem hi;have:=qgj (g i _ _ n m) (List.all_eq_true.1 j _ (Ki _));grind
  have one : ∀ {v : V} {x : Value},RelV w Z inj nx v x→cellsOf v = [v]→(cellsOf v).all Kh = true→(cellsOf v).length = x.cells.size∧(∀ (i : Nat) (d : V) (c : Value),(cellsOf v)[i]? = some d→x.cells[i]? = some c→RelV w Z inj nx d c)∧∀ c∈x.cells.toList,c.oneCell' = true:=by
    intro v x h q j;rw [q] at j ⊢;have n : Kh v = true:=by simpa using j
    have m:=qgj h n;rw [qqr m];grind
  cases h with
  | agg k g=>exact ⟨k,g,fin _ _ k g f⟩
  | d h=>
    cases h with
    | agg k g=>
      have n : (cellsOf (V.d (.agg ‹List DV›))).length = (Value.agg ‹Array Value›).cells.size:=by simpa [cellsOf,Value.cells] using k
      have m : ∀ (i : Nat) (d : V) (c : Value),(cellsOf (V.d (.agg ‹List DV›)))[i]? = some d→(Value.agg ‹Array Value›).cells[i]? = some c→RelV w Z inj nx d c:=by
        intro i d c hd f;simp only [cellsOf,List.getElem?_map,Y6] at hd;obtain ⟨r,o,rfl⟩:=hd;exact .d (g i r c o f)
      grind
    | int=>exact one (.d (.int _ _)) rfl f
    | bool=>exact one (.d (.bool _)) rfl f
    | str=>exact one (.d (.str _)) rfl f
    | tup k g=>exact one (.d (.tup k g)) rfl f
    | fn k g=>exact one (.d (.fn k g)) rfl f
    | nilsl=>exact one (.d .nilsl) rfl f
    | slnil=>exact one (.d (.slnil _)) rfl f
    | slemp=>exact one (.d (.slemp _ _)) rfl f
    | sl a b c d e=>exact one (.d (.sl a b c d e)) rfl f
    | nilp=>exact one (.d .nilp) rfl f
    | nilf=>exact one (.d .nilf) rfl f
    | nilm=>exact one (.d .nilm) rfl f
    | box a b c=>exact one (.d (.box a b c)) rfl f
  | tup k g=>exact one (.tup k g) rfl f
  | fn k g=>exact one (.fn k g) rfl f
  | ref a b=>exact one (.ref a b) rfl f
  | dref a b c=>exact one (.dref a b c) rfl f
  | hsnil a=>exact one (.hsnil a) rfl f
  | hs a b c d=>exact one (.hs a b c d) rfl f
  | yld a b=>exact one (.yld a b) rfl f
  | mp a b=>exact one (.mp a b) rfl f
  | dead v=>simp [cellsOf,Kh] at f
theorem qgb {cs : List V} {xs : Array Value} (a : cs.length = xs.size) (h : ∀ (i : Nat) (d : V) (c : Value),cs[i]? = some d→xs[i]? = some c→RelV w Z inj nx d c) : RelV w Z inj nx (q6b cs) (.agg xs):=by
  unfold q6b;split
  · rename_i ds hd;have:=q5h hd;subst this;refine .d (.agg (by simpa using a) fun i d c f b=>?_);have:=h i (.d d) c (by simp [f]) b
    cases this with | d h=>exact h
  · exact .agg a h
def qpp (w : World) (Z : Nat→Prop) (inj : Inj) (nx : Nat) (v : V) : Bool→List Value→Prop
  | true,xs=>RelV w Z inj nx v (.agg xs.toArray)
  | false,[x]=>RelV w Z inj nx v x
  | false,_=>False
theorem qme {ag : Bool} {cs : List V} {v : V} {xs : List Value} (hp : pack ag cs = some v) (a : cs.length = xs.length) (h : ∀ (i : Nat) (d : V) (c : Value),cs[i]? = some d→xs[i]? = some c→RelV w Z inj nx d c) :
    qpp w Z inj nx v ag xs:=by
  cases ag with
  | true=>
    simp only [pack,Option.some.injEq] at hp;subst hp;exact qgb (by simpa using a) (fun i d c f b=>h i d c f (by simpa using b))
  | false=>
    match cs,xs,hp,a with
    | [c],[x],hp,_=>simp only [pack,Option.some.injEq] at hp;subst hp;exact h 0 _ _ rfl rfl
    | [c],[],_,a=>simp at a
    | [c],_::_::_,_,a=>simp at a
theorem qgm (ag : Bool) (cs : List DV) : (q26 ag cs).map V.d = pack ag (cs.map .d):=by
  cases ag with
  | true=>simp [q26,pack,q6b,qeb]
  | false=>match cs with
    | []=>rfl
    | [c]=>rfl
    | _::_::_=>rfl
theorem qou {α : Type} {cs r : List α} {j s : Nat} (h : sub cs j s = some r) : j + s≤cs.length∧r = (cs.drop j).take s:=by
  unfold sub at h;split at h <;> simp at h;exact ⟨‹_›,h.symm⟩
theorem qb9 {α : Type} {cs r : List α} {j s : Nat} (h : sub cs j s = some r) : r.length = s∧∀ (i : Nat) (x : α),r[i]? = some x→cs[j + i]? = some x∧i < s:=by
  obtain ⟨a,rfl⟩:=qou h;grind
theorem U2 (b o j : Nat) : (⟨b,o,none⟩ : Addr).add j = ⟨b,o + j,none⟩:=by
  unfold Addr.add;split <;> simp_all
theorem qu0 {t : TypeId} {i : TI} {h : TypeInfo} {d : TypeDesc} {z : Value} (m : TiOk P t i h d z) {b o : Nat} {r : List V} {v : V} (hp : pack i.agg r = some v) (hr : r.length = i.size)
    (hc : ∀ (k : Nat) (x : V),r[k]? = some x→∃ c,w.cell? ⟨b,o + k,none⟩ = some c∧RelV w Z inj nx x c) :
    ∃ x,(Instr.loadAt t (.pointer (some ⟨b,o,none⟩))).run P w = .ok x w∧RelV w Z inj nx v x:=by
  have n : ∃ cs : List Value,cs.length = i.size∧∀ (k : Nat) (c : Value),cs[k]? = some c→w.cell? ⟨b,o + k,none⟩ = some c:=by
    refine ⟨(List.range i.size).map fun k=>(w.cell? ⟨b,o + k,none⟩).getD undef,qd,?_⟩;intro k c y;have q : k < i.size:=by have:=Kc y;simpa using this
    obtain ⟨x,hx⟩:=Zr (xs:=r) (i:=k) q0;grind
  obtain ⟨cs,p,a⟩:=n;have l : ∀ (i : Nat) (d : V) (c : Value),r[i]? = some d→cs[i]? = some c→RelV w Z inj nx d c:=by grind
  have f:=qme hp (by omega : r.length = cs.length) l
  have g : (isAgg t).run P w = .ok i.agg w:=by
    rw [m.agg];simp only [isAgg,Sem.run_bind,run_underlying m.und,Result.andThen_ok];cases d <;> rfl
  cases hb : i.agg with
  | true=>
    rw [hb] at f;refine ⟨.agg cs.toArray,?_,f⟩;have s:=run_loadCells_list (P:=P) w ⟨b,o,none⟩ cs (fun j v u=>by rw [U2];exact a j v u);simp [Instr.loadAt,Instr.sureAddr,loadVar,g,hb,sizeOf,typeInfo,m.inf,m.size,← p,s]
  | false=>
    rw [hb] at f
    match cs,p,a,f with
    | [x],_,a,f=>
      refine ⟨x,?_,f⟩;have:=a 0 x rfl;simp only [Nat.add_zero] at this;simp [Instr.loadAt,Instr.sureAddr,loadVar,g,hb,this]
end
end Go.Am
namespace Go.Am
open Go
variable {P : Program} {T : Tab}
def Kg (st st1 : AS) (v : V) (w : World) (Z : Nat→Prop) (inj : Inj) (r : Result Next) : Prop:=
  ∃ x w' inj',(r = .ok (.value x) w'∨(r = .ok .skip w'∧x = undef))∧RelV w' Z inj' st1.nx v x∧RelH w' Z inj' st1.hp st1.nx∧Ext w Z inj st.hp w' Z inj' st1.hp st.nx∧st1.sl = st.sl∧st.nx≤st1.nx
section
variable {w : World} {Z : Nat→Prop} {inj : Inj} {st : AS} {a : Act} {Ds : List Nat}
theorem Kg.quiet {v : V} {x : Value} {r : Result Next} (h : RelS w Z inj st a Ds) (b : r = .ok (.value x) w) (c : RelV w Z inj st.nx v x) : Kg st st v w Z inj r:=
  ⟨x,w,inj,.inl b,c,h.heap,.refl,rfl,Nat.le_refl _⟩
theorem Kf {s : Sem Value} {x : Value} {w' : World} (h : s.run P w = .ok x w') : (do pure (Next.value (← s)) : Sem Next).run P w = .ok (.value x) w':=by
  simp [h]
theorem Kg.new {v : V} {x : Value} {r : Result Next} {o : Obj} {blk : Blk} (h : RelS w Z inj st a Ds) (b : r = .ok (.value x) (w.alloc o))
    (hb : RelB (w.alloc o) Z (upd inj st.nx (some (w.heap.size,0))) (st.nx + 1) st.nx blk)
    (c : RelV (w.alloc o) Z (upd inj st.nx (some (w.heap.size,0))) (st.nx + 1) v x) (d : Unfr o:=by first | exact rfl | exact trivial) : Kg st (st.new blk) v w Z inj r:=
  ⟨x,_,_,.inl b,c,h.heap.new o blk 0 hb,Ext.new h.heap o blk 0 d,rfl,by simp [AS.new]⟩
theorem qn7 {v : V} {x : Value} (h : RelS w Z inj st a Ds) (o : Obj) (d : RelV w Z inj st.nx v x) : RelV (w.alloc o) Z (upd inj st.nx (some (w.heap.size,0))) (st.nx + 1) v x:=
  d.mono (fun _ c=>J3 w o (h.heap.zs _ c)) (fun _ h=>h) (q35 w o) (fun _ b=>Yf _ _ b) q0
theorem qn3 {w : World} {nx n es : Nat} {xs : List (List V)} {arr : Array Value} {ty : TypeId} {b : Nat} (s : es≠0) (hi : inj n = some (b,0)) (hb : w.heap[b]? = some (.cells arr ty (0,0)))
    (t : ∀ (i : Nat) (x : List V),xs[i]? = some x→x.length = es)
    (h : ∀ (i : Nat) (x : List V) (j : Nat) (d : V),xs[i]? = some x→x[j]? = some d→Kh d = true∧∃ c,arr[i * es + j]? = some c∧RelV w Z inj nx d c) : RelB w Z inj nx n (q6c es xs):=by
  unfold q6c;split
  · rename_i ys u;obtain ⟨r,q⟩:=q9f u;refine ⟨s,?_,.inr ⟨b,0,arr,ty,hi,hb,?_⟩⟩
    · intro i y f;obtain ⟨x,g⟩:=Yk r f;obtain ⟨v,a,hd⟩:=q i x g;rw [f] at a;cases a;have:=t i x g;rw [q5h hd] at this;simpa using this
    · intro i y j d f l;obtain ⟨x,g⟩:=Yk r f;obtain ⟨v,a,hd⟩:=q i x g;rw [f] at a;cases a;have m:=q5h hd;obtain ⟨k,c,o,p⟩:=h i x j (.d d) g (by rw [m];simp [l]);refine ⟨k,c,by simpa using o,?_⟩
      cases p with | d h=>exact h
  · refine ⟨s,t,.inr ⟨b,0,arr,ty,hi,hb,?_⟩⟩;intro i x j d g hd;obtain ⟨k,c,o,p⟩:=h i x j d g hd;exact ⟨k,c,by simpa using o,p⟩
theorem qmb {o : Operand} {v : V} (h : RelS w Z inj st a Ds) (c : st.ev o = some v) {r : Result Next} (b : r = .ok (.value (a.eval o)) w) : Kg st st v w Z inj r:=
  .quiet h b (Ka h c)
theorem qv8 {t : TypeId} {i : TI} (h : RelS w Z inj st a Ds) (r : tiOf P t = some i) :
    Kg st (st.new (.dat i.size [i.zero])) (.ref st.nx i.size 0 0) w Z inj ((do pure (Next.value (← Instr.alloc t true (.tuple #[]))) : Sem Next).run P w):=by
  obtain ⟨m,d,z,k⟩:=Yo r
  have g : (Instr.alloc t true (.tuple #[])).run P w = .ok (.pointer (some ⟨w.heap.size,0,none⟩)) (w.alloc (.cells z.cells t)):=by
    simp [Instr.alloc,zeroValue,typeInfo,k.inf,k.zero,newVar,newRow]
  obtain ⟨s,p⟩:=q8y (w:=w.alloc (.cells z.cells t)) (Z:=Z) k.cells;refine .new h (Kf g) ?_ ?_
  · refine ⟨k.pos,?_,.inr ⟨w.heap.size,0,z.cells,t,Kz _ _ _,U3 _ _,?_⟩⟩
    · intro l x f
      cases l with
      | zero=>simp at f;subst f;exact k.len
      | succ n=>simp at f
    · intro l x j d f hd
      cases l with
      | zero=>
        simp at f;subst f;obtain ⟨c,q,o,b,_⟩:=p j d hd;exact ⟨b,c,by simpa using q,o⟩
      | succ n=>simp at f
  · have:=RelV.ref (w:=w.alloc (.cells z.cells t)) (Z:=Z) (inj:=upd inj st.nx (some (w.heap.size,0))) (nx:=st.nx + 1) (n:=st.nx) (es:=i.size) (i:=0) (j:=0) q0 (Kz _ _ _);simpa using this
theorem qvc {t : TypeId} {i : TI} {o : Operand} {v : V} (h : RelS w Z inj st a Ds) (ht : tiOf P t = some i) (y : st.ev o = some v) (u : (cellsOf v).length = i.size) (r : (cellsOf v).all Kh = true) :
    Kg st (st.new (q6c i.size [cellsOf v])) (.ref st.nx i.size 0 0) w Z inj ((do pure (Next.value (← Instr.box t (a.eval o))) : Sem Next).run P w):=by
  obtain ⟨q,d,z,k⟩:=Yo ht;have f:=Ka h y
  have l : (Instr.box t (a.eval o)).run P w = .ok (.pointer (some ⟨w.heap.size,0,none⟩)) (w.alloc (.cells (a.eval o).cells t)):=by
    simp [Instr.box,newVar,newRow]
  have p:=qn7 h (.cells (a.eval o).cells t) f;obtain ⟨h1,s,_⟩:=qbr p r;refine .new h (Kf l) ?_ ?_
  · refine qn3 (b:=w.heap.size) (arr:=(a.eval o).cells) (ty:=t) k.pos (Kz _ _ _) (U3 _ _) ?_ ?_
    · intro m x f
      cases m with
      | zero=>simp at f;subst f;exact u
      | succ n=>simp at f
    · intro m x j d f hd
      cases m with
      | zero=>
        simp at f;subst f;obtain ⟨c,g⟩:=Yb (xs:=(a.eval o).cells) (i:=j) (by have:=Kc hd;omega);exact ⟨List.all_eq_true.1 r _ (List.mem_of_getElem? hd),c,by simpa using g,s j d c hd g⟩
      | succ n=>simp at f
  · have:=RelV.ref (w:=w.alloc (.cells (a.eval o).cells t)) (Z:=Z) (inj:=upd inj st.nx (some (w.heap.size,0))) (nx:=st.nx + 1) (n:=st.nx) (es:=i.size) (i:=0) (j:=0) q0 (Kz _ _ _);simpa using this
theorem q2j {α : Type} (cs ys : List α) (o : Nat) (h : o + ys.length≤cs.length) : (splice cs o ys).length = cs.length:=by simp [splice];omega
theorem Ue {α : Type} (cs ys : List α) (o j : Nat) (h : o + ys.length≤cs.length) : (splice cs o ys)[j]? = if o≤j∧j < o + ys.length then ys[j - o]? else cs[j]?:=by
  have e : (cs.take o).length = o:=by simp;omega
  by_cases a : j < o
  · rw [qq q0,splice,List.append_assoc,List.getElem?_append_left q0,List.getElem?_take,qr a]
  · by_cases b : j < o + ys.length
    · rw [qr q0,splice,List.append_assoc,List.getElem?_append_right q0,e,List.getElem?_append_left q0]
    · rw [qq q0,splice,List.getElem?_append_right (by simp;omega),List.getElem?_drop];congr 1;rw [List.length_append,e];omega
theorem qk8 (off : Nat) : ∀ (l : List Value) (s : Nat) (cs : Array Value),off + s + l.length≤cs.size→
    ((l.zipIdx s).foldl (fun (cs : Array Value) (x : Value × Nat)=>cs.setIfInBounds (off + x.2) x.1) cs).size = cs.size∧
    ∀ j : Nat,((l.zipIdx s).foldl (fun (cs : Array Value) (x : Value × Nat)=>cs.setIfInBounds (off + x.2) x.1) cs)[j]? = if off + s≤j∧j < off + s + l.length then l[j - (off + s)]? else cs[j]?
  | [],s,cs,_=>by
    refine ⟨rfl,fun j=>?_⟩
    have : ¬ (off + s≤j∧j < off + s + ([] : List Value).length):=by simp
    rw [qq this];rfl
  | v::r,s,cs,h=>by
    obtain ⟨f,d⟩:=qk8 off r (s + 1) (cs.setIfInBounds (off + s) v) (by simp at h ⊢;omega)
    simp only [List.zipIdx_cons,List.foldl_cons]
    refine ⟨by rw [f];simp,fun j=>?_⟩
    rw [d j]
    simp only [List.length_cons] at h ⊢
    by_cases b : off + (s + 1)≤j∧j < off + (s + 1) + r.length
    · have a : off + s≤j∧j < off + s + (r.length + 1):=by omega
      rw [qr b,qr a,show j - (off + s) = (j - (off + (s + 1))) + 1 by omega,List.getElem?_cons_succ]
    · rw [qq b,Array.getElem?_setIfInBounds]
      by_cases c : off + s = j
      · have a : off + s≤j∧j < off + s + (r.length + 1):=by omega
        have g : j < cs.size:=by omega
        rw [qr c,qr a,qr q0,show j - (off + s) = 0 by omega]
        rfl
      · have a : ¬ (off + s≤j∧j < off + s + (r.length + 1)):=by omega
        rw [qq c,qq a]
theorem qk9 (a cs : Array Value) (off : Nat) (h : off + a.size≤cs.size) :
    a.zipIdx.foldl (fun (cs : Array Value) (x : Value × Nat)=>cs.setIfInBounds (off + x.2) x.1) cs = (splice cs.toList off a.toList).toArray:=by
  rw [← Array.foldl_toList,Array.toList_zipIdx];obtain ⟨c,b⟩:=qk8 off a.toList 0 cs (by simpa using h);have hs:=q2j cs.toList a.toList off (by simpa using h);apply Array.ext';apply List.ext_getElem?;intro j;rw [Array.getElem?_toList,b j,Ue _ _ _ _ (by simpa using h)];simp
def LRel (w : World) (Z : Nat→Prop) (inj : Inj) (nx : Nat) (cs : List V) (xs : Array Value) : Prop:=
  cs.length = xs.size∧∀ (i : Nat) (d : V) (c : Value),cs[i]? = some d→xs[i]? = some c→RelV w Z inj nx d c
theorem LRel.splice {w : World} {nx : Nat} {cs ys : List V} {xs g : Array Value} {o : Nat} (h : LRel w Z inj nx cs xs) (j : LRel w Z inj nx ys g) (k : o + ys.length≤cs.length) :
    LRel w Z inj nx (Am.splice cs o ys) (Am.splice xs.toList o g.toList).toArray:=by
  have m:=h.1;have l:=j.1;have f : o + g.toList.length≤xs.toList.length:=by simp;omega
  refine ⟨by simp [q2j _ _ _ k,q2j _ _ _ f,h.1],fun i d c hd b=>?_⟩;rw [Ue _ _ _ _ k] at hd;rw [List.getElem?_toArray,Ue _ _ _ _ f] at b;have e : g.toList.length = ys.length:=by simp;omega
  rw [e] at b;split at hd
  · rename_i a;rw [qr a] at b;exact j.2 _ _ _ hd (by simpa using b)
  · rename_i a;rw [qq a] at b;exact h.2 _ _ _ hd (by simpa using b)
theorem qjy {f : List (Nat × Operand)} {c : List (Nat × V)} (h : RelS w Z inj st a Ds) (hp : Je st.ev f = some c) :
    c.length = f.length∧∀ (k : Nat) (i : Nat) (v : V),c[k]? = some (i,v)→∃ o,f[k]? = some (i,o)∧RelV w Z inj st.nx v (a.eval o):=by
  induction f generalizing c with
  | nil=>simp [Je] at hp;subst hp;simp
  | cons x r ih=>
    obtain ⟨i,o⟩:=x;simp only [Je] at hp
    cases b : st.ev o with
    | none=>simp [b] at hp
    | some v=>
      cases g : Je st.ev r with
      | none=>simp [b,g] at hp
      | some l=>
        simp [b,g] at hp;subst hp;obtain ⟨j,t⟩:=ih g;refine ⟨by simp [j],fun k n s d=>?_⟩
        cases k with
        | zero=>simp at d;obtain ⟨rfl,rfl⟩:=d;exact ⟨o,qd,Ka h b⟩
        | succ k=>simp at d;obtain ⟨q,p,m⟩:=t k n s d;exact ⟨q,by simpa using p,m⟩
theorem q95 {os : List Operand} {j : List V} (h : RelS w Z inj st a Ds) (hp : evL st.ev os = some j) : LRel w Z inj st.nx j (os.map a.eval).toArray:=by
  induction os generalizing j with
  | nil=>simp [evL] at hp;subst hp;exact ⟨qd,qd⟩
  | cons o r ih=>
    simp only [evL] at hp
    cases b : st.ev o with
    | none=>simp [b] at hp
    | some v=>
      cases g : evL st.ev r with
      | none=>simp [b,g] at hp
      | some l=>
        simp [b,g] at hp;subst hp;obtain ⟨m,n⟩:=ih g;refine ⟨by simpa using m,fun k d c hd f=>?_⟩
        cases k with
        | zero=>simp at hd f;subst hd f;exact Ka h b
        | succ k=>simp at hd f;exact n k d c hd (by simpa using f)
theorem qfa {w : World} {nx : Nat} (place : Nat→Option (Nat × Nat)) : ∀ (b : List (Nat × V)) (xs : List (Nat × Value)) (l : List (Nat × List V)) (cs a : List V) (C : Array Value),
    b.length = xs.length→(∀ (k : Nat) (i : Nat) (v : V),b[k]? = some (i,v)→∃ x,xs[k]? = some (i,x)∧RelV w Z inj nx v x)→
    l.length = b.length→(∀ (k : Nat) (i : Nat) (v : V),b[k]? = some (i,v)→∃ o s,place i = some (o,s)∧(cellsOf v).length = s∧(cellsOf v).all Kh = true∧l[k]? = some (o,cellsOf v))→
    LRel w Z inj nx cs C→q5t cs l = some a→∃ h,Instr.fill place C xs = some h∧LRel w Z inj nx a h
  | [],xs,l,cs,a,C,h1,_,h3,_,h5,h6=>by
    have : xs = []:=by cases xs <;> simp_all
    have : l = []:=by cases l <;> simp_all
    subst_vars
    simp [q5t] at h6;subst h6
    exact ⟨C,by simp [Instr.fill],h5⟩
  | (i,v)::b,xs,l,cs,a,C,h1,h2,h3,h4,h5,h6=>by
    match xs,l,h1,h3 with
    | (i',x)::xs,(o',ys)::l,h1,h3=>
      obtain ⟨x',d,u⟩:=h2 0 i v rfl
      simp at d;obtain ⟨rfl,rfl⟩:=d
      obtain ⟨o,s,hp,z,y,c⟩:=h4 0 i' v rfl
      simp at c;obtain ⟨rfl,rfl⟩:=c
      obtain ⟨t,r,q3⟩:=qbr u y
      simp only [q5t] at h6
      split at h6
      · rename_i g
        have n : x.cells.size = s:=by omega
        have j : ¬ (o' + x.cells.size > C.size):=by have:=h5.1;omega
        obtain ⟨h,m,f⟩:=qfa place b xs l (splice cs o' (cellsOf v)) a (splice C.toList o' x.cells.toList).toArray (by simpa using h1)
          (fun k i v q=>by obtain ⟨x,p⟩:=h2 (k + 1) i v (by simpa using q);exact ⟨x,by simpa using p⟩) (by simpa using h3)
          (fun k i v q=>by obtain ⟨o,s,p⟩:=h4 (k + 1) i v (by simpa using q);exact ⟨o,s,by simpa using p⟩)
          (h5.splice ⟨t,r⟩ g) h6
        refine ⟨h,?_,f⟩
        simp only [Instr.fill,hp,n]
        have : ¬ ((decide (s≠s) || decide (o' + s > C.size)) = true):=by simp;omega
        rw [qq (by simpa using this)]
        rw [qk9 x.cells C o' q0]
        exact m
      · simp at h6
end
end Go.Am
namespace Go.Am
open Go
variable {P : Program} {T : Tab}
section
variable {w : World} {Z : Nat→Prop} {inj : Inj} {nx : Nat}
theorem qnc {α β : Type} {f : α→Sem β} {g : α→β} : ∀ {l : List α},(∀ x∈l,(f x).run P w = .ok (g x) w)→(l.mapM f).run P w = .ok (l.map g) w
  | [],_=>by simp
  | x::r,h=>by
    have b:=h x qd
    have a:=qnc (l:=r) (fun y c=>h y (by simp [c]))
    simp [List.mapM_cons,b,a]
theorem qxz {α β : Type} {f : α→Sem β} {g : α→β} {l : Array α} (h : ∀ x∈l.toList,(f x).run P w = .ok (g x) w) : (l.mapM f).run P w = .ok (l.toList.map g).toArray w:=by
  rw [Array.mapM_eq_mapM_toList,Sem.run_map,qnc h];rfl
theorem qk5 {d : Array Field} {k : List (Nat × Nat × Bool)} (h : (d.toList.mapM fun f => do
      let a ← P.info? f.type
      let c ← P.underlying f.type
      if a.size = 0 then none else some (f.offset,a.size,Kb c)) = some k) :
    k.length = d.size∧∀ (i : Nat) (f : Field),d[i]? = some f→∃ a c,P.info? f.type = some a∧P.underlying f.type = some c∧a.size≠0∧k[i]? = some (f.offset,a.size,Kb c):=by
  obtain ⟨p,n⟩:=q9f h;refine ⟨by simpa using p,fun i f m=>?_⟩;obtain ⟨y,o,b⟩:=n i f (by simpa using m)
  cases g : P.info? f.type with
  | none=>simp [g] at b
  | some a=>
    cases l : P.underlying f.type with
    | none=>simp [g,l] at b
    | some c=>
      simp only [g,l,Option.bind_eq_bind,qk] at b;split at b
      · simp at b
      · rename_i j;simp at b;subst b;exact ⟨a,c,rfl,rfl,j,o⟩
theorem qfd {c : Array Field} {j : List (Nat × Nat × Bool)} (h : (c.toList.mapM fun f => do
      let a ← P.info? f.type
      let b ← P.underlying f.type
      if a.size = 0 then none else some (f.offset,a.size,Kb b)) = some j) {i off s : Nat} {ag : Bool} (hi : j[i]? = some (off,s,ag)) :
    ∃ f a b,c[i]? = some f∧P.info? f.type = some a∧P.underlying f.type = some b∧a.size = s∧s≠0∧f.offset = off∧Kb b = ag:=by
  obtain ⟨o,l⟩:=qk5 h;obtain ⟨f,g⟩:=Yb (xs:=c) (i:=i) (by have:=Kc hi;omega);obtain ⟨a,b,k,m,n,d⟩:=l i f g;rw [hi] at d;simp at d;obtain ⟨rfl,rfl,rfl⟩:=d;exact ⟨f,a,b,g,k,m,rfl,n,rfl,rfl⟩
theorem qml {a : TI} : ∀ {c : List (Nat × V)} {l : List (Nat × List V)},placed a c = some l→l.length = c.length∧∀ (k i : Nat) (v : V),c[k]? = some (i,v)→∃ o s,
    (match a.kind with | .struct=>(a.flds[i]?).map fun f=>(f.1,f.2.1) | .array=>some (i * a.esize,a.esize) | _=>none) = some (o,s)∧(cellsOf v).length = s∧(cellsOf v).all Kh = true∧l[k]? = some (o,cellsOf v)
  | [],l,h=>by simp [placed] at h;subst h;simp
  | (i,v)::r,l,h=>by
    simp only [placed] at h
    split at h
    · rename_i o s l' m j
      split at h
      · rename_i d
        simp at h;subst h
        obtain ⟨g,w⟩:=qml j
        refine ⟨by simp [g],fun k n u b=>?_⟩
        cases k with
        | zero=>simp at b;obtain ⟨rfl,rfl⟩:=b;exact ⟨o,s,m,d.1,d.2,qd⟩
        | succ k=>simp at b;obtain ⟨q,p,t⟩:=w k n u b;exact ⟨q,p,by simpa using t⟩
      · simp at h
    · simp at h
theorem q148 {t : TypeId} {i : TI} {b : TypeInfo} {d : TypeDesc} {z : Value} (k : TiOk P t i b d z) : LRel w Z inj nx (i.zero.map .d) z.cells:=by
  obtain ⟨l,h⟩:=q8y (w:=w) (Z:=Z) k.cells;refine ⟨by simpa using l,fun j d c hd m=>?_⟩;simp only [List.getElem?_map,Y6] at hd;obtain ⟨n,f,rfl⟩:=hd;obtain ⟨o,a,g,_⟩:=h j n f;rw [m] at a;cases a;exact .d g
theorem Ze {t : TypeId} {a : TypeInfo} (h : P.info? t = some a) : (sizeOf t).run P w = .ok a.size w:=by simp [sizeOf,typeInfo,h]
theorem q34 {t : TypeId} {d : TypeDesc} (h : P.underlying t = some d) : (isAgg t).run P w = .ok (Kb d) w:=by
  simp only [isAgg,Sem.run_bind,run_underlying h,Result.andThen_ok];cases d <;> rfl
theorem qmi {t : TypeId} {a : TypeInfo} {d : TypeDesc} (s : P.info? t = some a) (n : P.underlying t = some d) {cs r : List V} {xs : Array Value} {off : Nat} {v : V} (l : LRel w Z inj nx cs xs)
    (hs : sub cs off a.size = some r) (hp : pack (Kb d) r = some v) : ∃ x,(part t xs off).run P w = .ok x w∧RelV w Z inj nx v x:=by
  obtain ⟨m,h⟩:=qb9 hs;have y:=(qou hs).1;have o:=l.1
  have g : ∀ (i : Nat) (d : V) (c : Value),r[i]? = some d→(xs.extract off (off + a.size)).toList[i]? = some c→RelV w Z inj nx d c:=by
    intro i d c hd j;obtain ⟨f,u⟩:=h i d hd;refine l.2 _ _ _ f ?_;rw [Array.getElem?_toList,Array.getElem?_extract] at j;split at j <;> first | exact j | simp at j
  have k : r.length = (xs.extract off (off + a.size)).toList.length:=by simp;omega
  have b:=qme hp k g
  cases hb : Kb d with
  | true=>
    rw [hb] at b
    refine ⟨.agg (xs.extract off (off + a.size)),?_,by
      have q : RelV w Z inj nx v (.agg (xs.extract off (off + a.size)).toList.toArray):=b
      rwa [Array.toArray_toList] at q⟩
    simp [part,q34 n,hb,Ze s]
  | false=>
    rw [hb] at b hp
    match r,hp,m,h with
    | [c],hp,m,h=>
      simp only [pack,Option.some.injEq] at hp;subst hp;have f:=(h 0 c rfl).1;simp only [Nat.add_zero] at f;obtain ⟨x,p⟩:=Yb (xs:=xs) (i:=off) (by have:=Kc f;omega);exact ⟨x,by simp [part,q34 n,hb,p],l.2 _ _ _ f p⟩
end
section
variable {w : World} {Z : Nat→Prop} {inj : Inj} {st : AS} {a : Act} {Ds : List Nat}
theorem qvd {t : TypeId} {i : TI} {c : Array (Nat × Operand)} {vs : List (Nat × V)} {l : List (Nat × List V)} {cs : List V} (h : RelS w Z inj st a Ds) (ht : tiOf P t = some i) (hv : Je st.ev c.toList = some vs)
    (ha : i.agg = true) (hl : placed i vs = some l) (hf : q5t (i.zero.map .d) l = some cs) :
    Kg st st (q6b cs) w Z inj ((do pure (Next.value (← Instr.build t (c.map fun (i,x)=>(i,a.eval x)))) : Sem Next).run P w):=by
  obtain ⟨ap,d,z,k⟩:=Yo ht;obtain ⟨p1,p2⟩:=qjy h hv;obtain ⟨q1,q2⟩:=qml hl;have hz:=q148 (w:=w) (Z:=Z) (inj:=inj) (nx:=st.nx) k
  have u : ∀ (k i : Nat) (v : V),vs[k]? = some (i,v)→∃ x,(c.toList.map fun (x : Nat × Operand)=>(x.1,a.eval x.2))[k]? = some (i,x)∧RelV w Z inj st.nx v x:=by
    intro k i v hk;obtain ⟨o,ho,m⟩:=p2 k i v hk;exact ⟨a.eval o,by simp only [List.getElem?_map,ho];rfl,m⟩
  have q : (zeroValue t).run P w = .ok z w:=by simp [zeroValue,typeInfo,k.inf,k.zero]
  have b:=k.kind;unfold Zf at b;cases hk : i.kind <;> simp only [hk,TI.agg] at b ha
  case struct=>
    obtain ⟨fs,rfl,r⟩:=b;obtain ⟨_,al⟩:=qk5 r
    obtain ⟨C',hC,m⟩:=qfa (fun i=>((fs.toList.map fun (f : Field)=>(f.offset,((P.info? f.type).map (·.size)).getD 0)).toArray)[i]?) vs (c.toList.map fun (x : Nat × Operand)=>(x.1,a.eval x.2)) l _ cs z.cells (by simp [p1]) u q1
      (fun k i' v n=>by
        obtain ⟨o,s,y,h2,h3,h4⟩:=q2 k i' v n;simp only [hk,Y6] at y;obtain ⟨⟨o',s',ag⟩,h5,h6⟩:=y;simp at h6;obtain ⟨rfl,rfl⟩:=h6;obtain ⟨f,jf,df,p,g2,_,g4,_,g6,_⟩:=qfd r h5
        exact ⟨o',s',by simp [p,g2,g4,g6],h2,h3,h4⟩) hz hf
    refine .quiet h (Kf (x:=.agg C') ?_) (qgb m.1 m.2)
    have hm : (fs.mapM fun f=>do pure (f.offset,← sizeOf f.type) : Sem (Array (Nat × Nat))).run P w = .ok (fs.toList.map fun (f : Field)=>(f.offset,((P.info? f.type).map (·.size)).getD 0)).toArray w:=by
      refine qxz fun f hf=>?_;obtain ⟨j,hj⟩:=List.mem_iff_getElem?.1 hf;obtain ⟨jf,df,p,_⟩:=al j f (by simpa using hj);simp [Ze p,p]
    simp only [Instr.build,Sem.run_bind,q,Result.andThen_ok,run_underlying k.und,hm];have g : Instr.fill (fun x=>((fs.toList.map fun (f : Field)=>(f.offset,((P.info? f.type).map (·.size)).getD 0)).toArray)[x]?) z.cells (c.map fun (x : Nat × Operand)=>(x.1,a.eval x.2)).toList = some C':=by simpa using hC
    simp only [g];rfl
  case array=>
    obtain ⟨e,ie,de,rfl,p,g2,g3,g4,_⟩:=b
    obtain ⟨C',hC,m⟩:=qfa (fun j=>some (j * i.esize,i.esize)) vs (c.toList.map fun (x : Nat × Operand)=>(x.1,a.eval x.2)) l _ cs z.cells (by simp [p1]) u q1
      (fun k i' v n=>by
        obtain ⟨o,s,y,h2,h3,h4⟩:=q2 k i' v n;simp only [hk] at y
        exact ⟨o,s,y,h2,h3,h4⟩) hz hf
    refine .quiet h (Kf (x:=.agg C') ?_) (qgb m.1 m.2);have g : Instr.fill (fun j=>some (j * i.esize,i.esize)) z.cells (c.map fun (x : Nat × Operand)=>(x.1,a.eval x.2)).toList = some C':=by simpa using hC
    simp only [Instr.build,Sem.run_bind,q,Result.andThen_ok,run_underlying k.und,Ze p,g3,g];rfl
  all_goals simp at ha
theorem qle {t : TypeId} {i : TI} {pv v : V} {vp : Value} (h : RelH w Z inj st.hp st.nx) (ht : tiOf P t = some i) (hx : RelV w Z inj st.nx pv vp) (a : U9 st i pv = some v) :
    ∃ b o x,vp = .pointer (some ⟨b,o,none⟩)∧(Instr.loadAt t vp).run P w = .ok x w∧RelV w Z inj st.nx v x:=by
  obtain ⟨an,d,z,k⟩:=Yo ht
  have fin : ∀ {b o : Nat} {r : List V} {pp : Value},pp = .pointer (some ⟨b,o,none⟩)→pack i.agg r = some v→r.length = i.size→
      (∀ (k : Nat) (x : V),r[k]? = some x→∃ c,w.cell? ⟨b,o + k,none⟩ = some c∧RelV w Z inj st.nx x c)→∃ b o x,pp = .pointer (some ⟨b,o,none⟩)∧(Instr.loadAt t pp).run P w = .ok x w∧RelV w Z inj st.nx v x:=by
    intro b o r pp m ah aa hc
    obtain ⟨x,ab,ad⟩:=qu0 (P:=P) k ah aa hc
    exact ⟨b,o,x,m,by rw [m];exact ab,ad⟩
  cases pv <;> simp only [U9,reduceCtorEq] at a
  case ref n es e j=>
    cases hx with
    | @ref _ _ _ _ b o hn hi=>
    cases hb : st.blk n with
    | none=>simp [hb] at a
    | some blk=>
      have hB:=(h.blk n blk hb).2
      cases blk with
      | dead=>simp [hb] at a
      | loop=>simp [hb] at a
      | mp=>simp [hb] at a
      | dat es' xs=>
        simp only [hb] at a;split at a <;> try simp at a
        rename_i cs m g;have m:=Nat.eq_of_beq_eq_true m;subst m
        cases hs : sub cs j i.size with
        | none=>simp [hs] at a
        | some r=>
          simp only [hs] at a;rw [qgm] at a;obtain ⟨u,s⟩:=qb9 hs;obtain ⟨b1,b2,f⟩:=hB;rcases f with ⟨f,_⟩ | ⟨b',o',arr,ty,f,b4,b5⟩
          · subst f;simp at g
          · rw [hi] at f;cases f;refine fin rfl a (by simpa using u) ?_;intro k x q;simp only [List.getElem?_map,Y6] at q;obtain ⟨y,hy,rfl⟩:=q;obtain ⟨p,_⟩:=s k y hy;obtain ⟨_,c,h4,h5⟩:=b5 e cs (j + k) y g p;exact ⟨c,by simp only [World.cell?,b4];rw [← h4];simp [Nat.add_assoc],.d h5⟩
      | cel es' xs=>
        simp only [hb] at a;split at a <;> try simp at a
        rename_i cs m g;have m:=Nat.eq_of_beq_eq_true m;subst m
        cases hs : sub cs j i.size with
        | none=>simp [hs] at a
        | some r=>
          simp only [hs] at a;obtain ⟨u,s⟩:=qb9 hs;obtain ⟨b1,b2,f⟩:=hB;rcases f with ⟨f,_⟩ | ⟨b',o',arr,ty,f,b4,b5⟩
          · subst f;simp at g
          · rw [hi] at f;cases f;refine fin rfl a u ?_;intro k x q;obtain ⟨p,_⟩:=s k x q;obtain ⟨_,c,h4,h5⟩:=b5 e cs (j + k) x g p;exact ⟨c,by simp only [World.cell?,b4];rw [← h4];simp [Nat.add_assoc],h5⟩
  case dref cs j=>
    cases hx with
    | @dref _ _ b o hz hc hr=>
    cases hs : sub cs j i.size with
    | none=>simp [hs] at a
    | some r=>
      simp only [hs] at a;rw [qgm] at a;obtain ⟨u,s⟩:=qb9 hs;refine fin rfl a (by simpa using u) ?_;intro k x q;simp only [List.getElem?_map,Y6] at q;obtain ⟨y,hy,rfl⟩:=q;obtain ⟨p,_⟩:=s k y hy;obtain ⟨c,l⟩:=hc _ _ p;exact ⟨c,by rw [← l,Nat.add_assoc],.d (hr _ _ _ p l)⟩
  case d x=>
    cases x <;> simp only [reduceCtorEq] at a
    rename_i cs
    cases hx with
    | d hx=>
    cases hx with
    | @box _ b o hz hc hr=>
    cases hs : sub cs 0 i.size with
    | none=>simp [hs] at a
    | some r=>
      simp only [hs] at a;rw [qgm] at a;obtain ⟨u,s⟩:=qb9 hs;refine fin rfl a (by simpa using u) ?_;intro k x q;simp only [List.getElem?_map,Y6] at q;obtain ⟨y,hy,rfl⟩:=q;obtain ⟨p,_⟩:=s k y hy;rw [Nat.zero_add] at p;obtain ⟨c,l⟩:=hc _ _ p;exact ⟨c,l,.d (hr _ _ _ p l)⟩
theorem qvo {t : TypeId} {i : TI} {p : Operand} {pv v : V} (h : RelS w Z inj st a Ds) (g : tiOf P t = some i) (hp : st.ev p = some pv) (d : U9 st i pv = some v) :
    Kg st st v w Z inj ((do pure (Next.value (← Instr.loadAt t (a.eval p))) : Sem Next).run P w):=by
  obtain ⟨b,o,x,_,c,f⟩:=qle (P:=P) h.heap g (Ka h hp) d;exact .quiet h (Kf c) f
end
end Go.Am
namespace Go.Am
open Go
variable {P : Program} {T : Tab}
theorem qeq : ∀ {c d : List (Option IntKind)} {a b : List DV} {r : Bool},Kd (c ++ d) a b = some r→
    ∃ p q,Kd c (a.take c.length) (b.take c.length) = some p∧Kd d (a.drop c.length) (b.drop c.length) = some q∧r = (p && q)
  | [],d,a,b,r,h=>⟨true,r,by simp [Kd],by simpa using h,qd⟩
  | k::c,d,a,b,r,h=>by
    match a,b,h with
    | x::a,y::b,h=>
      simp only [List.cons_append,Kd] at h
      split at h <;> simp at h
      rename_i u v l g
      obtain ⟨p,q,f,j,m⟩:=qeq g
      refine ⟨u && p,q,by simp [Kd,l,f],by simpa using j,?_⟩
      rw [← h,m,Bool.and_assoc]
    | [],_,h=>simp [Kd] at h
    | _::_,[],h=>simp [Kd] at h
theorem qbq : ∀ {ks : List (Option IntKind)} {a b : List DV} {r : Bool},Kd ks a b = some r→a.length = ks.length∧b.length = ks.length
  | [],[],[],_,_=>⟨rfl,rfl⟩
  | k::ks,x::a,y::b,r,h=>by
    simp only [Kd] at h
    split at h <;> simp at h
    rename_i d c
    have:=qbq c
    simp;omega
  | [],_::_,_,_,h=>by simp [Kd] at h
  | [],[],_::_,_,h=>by simp [Kd] at h
  | _::_,[],_,_,h=>by simp [Kd] at h
  | _::_,_::_,[],_,h=>by simp [Kd] at h
section
variable {w : World} {Z : Nat→Prop}
def DRel (w : World) (Z : Nat→Prop) (ds : List DV) (cs : Array Value) : Prop:=ds.length = cs.size∧∀ (i : Nat) (d : DV) (c : Value),ds[i]? = some d→cs[i]? = some c→RelD w Z d c
theorem DRel.extract {ds : List DV} {cs : Array Value} (h : DRel w Z ds cs) (o s : Nat) (hs : o + s≤ds.length) : DRel w Z ((ds.drop o).take s) (cs.extract o (o + s)):=by
  have b:=h.1;refine ⟨by simp;omega,fun i d c hd a=>?_⟩;rw [List.getElem?_take] at hd;split at hd
  · rw [List.getElem?_drop] at hd;rw [Array.getElem?_extract] at a;split at a
    · exact h.2 _ _ _ hd a
    · simp at a
  · simp at hd
theorem qdy {t : TypeId} {d : TypeDesc} (h : P.underlying t = some d) : ∃ a,P.info? t = some a∧P.cellsOf t = a.size:=by
  cases hi : P.info? t with
  | none=>simp [Program.underlying,hi] at h
  | some a=>exact ⟨a,rfl,by simp [Program.cellsOf,hi]⟩
def EqOk (P : Program) (w : World) (Z : Nat→Prop) (k : Nat) (t : TypeId) (desc : TypeDesc) (ks : List (Option IntKind)) : Prop:=
  ∀ (xs ys : List DV) (X Y : Array Value) (r : Bool),DRel w Z xs X→DRel w Z ys Y→Kd ks xs ys = some r→
    (Kb desc = true→(Op.equalIn k t (.agg X) (.agg Y)).run P w = .ok r w)∧(Kb desc = false→ks.length = 1∧∀ x y,X[0]? = some x→Y[0]? = some y→(Op.equalIn k t x y).run P w = .ok r w)
def q91 (k : Nat) (X Y : Array Value) (f : Field) (_s : Option Bool × Unit) : Sem (ForInStep (Option Bool × Unit)):=
  if f.name ≠ "_" then do
    let __do_lift ← part f.type X f.offset
    let __do_lift_1 ← part f.type Y f.offset
    let __do_lift ← Op.equalIn k f.type __do_lift __do_lift_1
    if (!__do_lift) = true then pure (ForInStep.done (some false,())) else pure (ForInStep.yield (none,()))
  else pure (ForInStep.yield (none,()))
theorem qjx {k : Nat} {t : TypeId} {desc : TypeDesc} {b : TypeInfo} {ks : List (Option IntKind)} (h : EqOk P w Z k t desc ks) (f : P.underlying t = some desc) (hi : P.info? t = some b) (hs : b.size = ks.length)
    {xs ys : List DV} {X Y : Array Value} (r : DRel w Z xs X) (q : DRel w Z ys Y) {o : Nat} (g : o + ks.length≤xs.length) (j : o + ks.length≤ys.length) {p : Bool}
    (hp : Kd ks ((xs.drop o).take ks.length) ((ys.drop o).take ks.length) = some p) :
    ∃ s n,(part t X o).run P w = .ok s w∧(part t Y o).run P w = .ok n w∧(Op.equalIn k t s n).run P w = .ok p w:=by
  obtain ⟨z,l⟩:=h _ _ _ _ p (r.extract o ks.length g) (q.extract o ks.length j) hp
  cases a : Kb desc with
  | true=>
    exact ⟨.agg (X.extract o (o + ks.length)),.agg (Y.extract o (o + ks.length)),by simp [part,q34 f,a,Ze hi,hs],by simp [part,q34 f,a,Ze hi,hs],z a⟩
  | false=>
    obtain ⟨m,l⟩:=l a;have u:=r.1;have v:=q.1;obtain ⟨x,d⟩:=Yb (xs:=X) (i:=o) q0;obtain ⟨y,c⟩:=Yb (xs:=Y) (i:=o) q0;refine ⟨x,y,by simp [part,q34 f,a,d],by simp [part,q34 f,a,c],l x y ?_ ?_⟩
    · rw [Array.getElem?_extract,m,qr (by have:=Zh d;omega)];exact d
    · rw [Array.getElem?_extract,m,qr (by have:=Zh c;omega)];exact c
theorem qju (d : Nat) (k : Nat) (n : ∀ t desc ks,P.underlying t = some desc→Ke P d t = some ks→EqOk P w Z k t desc ks)
    (xs ys : List DV) (X Y : Array Value) (x : DRel w Z xs X) (u : DRel w Z ys Y) : ∀ (l : List Field) (o : Nat) (r : Bool) (ks : List (Option IntKind)),tile P (Ke P d) o l = some ks→o + ks.length≤xs.length→o + ks.length≤ys.length→
    Kd ks (xs.drop o) (ys.drop o) = some r→(forIn l ((none : Option Bool),()) (q91 k X Y) : Sem (Option Bool × Unit)).run P w = .ok (if r then (none,()) else (some false,())) w
  | [],o,r,ks,ht,_,_,hc=>by
    simp only [tile,Option.some.injEq] at ht;subst ht
    obtain ⟨h1,h2⟩:=qbq hc
    rw [List.eq_nil_of_length_eq_zero h1,List.eq_nil_of_length_eq_zero h2] at hc
    simp [Kd] at hc;subst hc
    simp
  | f::l,o,r,ks,ht,hlx,hly,hc=>by
    simp only [tile] at ht
    cases a : Ke P d f.type with
    | none=>simp [a] at ht
    | some ka=>
      simp only [a] at ht
      split at ht <;> try simp at ht
      rename_i c
      obtain ⟨rfl,y,z⟩:=c
      cases g : tile P (Ke P d) (f.offset + ka.length) l with
      | none=>simp [g] at ht
      | some kb=>
        simp only [g,Option.some.injEq] at ht;subst ht
        simp only [List.length_append] at hlx hly
        obtain ⟨p,q,hp,v,m⟩:=qeq hc
        rw [List.drop_drop,List.drop_drop] at v
        obtain ⟨h,b⟩ : ∃ h,P.underlying f.type = some h:=by
          cases hu : P.underlying f.type with
          | none=>cases d <;> simp [Ke,hu] at a
          | some h=>exact ⟨h,rfl⟩
        obtain ⟨jf,j,s⟩:=qdy b
        obtain ⟨vx,vy,g1,g2,g3⟩:=qjx (n f.type h ka b a) b j q0 x u (o:=f.offset) q0 q0 hp
        rw [List.forIn_cons]
        simp only [q91,qr y,Sem.run_bind,g1,g2,g3,Result.andThen_ok]
        cases p with
        | false=>simp [m]
        | true=>
          have:=qju d k n xs ys X Y x u l (f.offset + ka.length) q kb g q0 q0 v;simp only [Bool.true_and] at m;subst m;simpa using this
def q92 (k : Nat) (e : TypeId) (n : Nat) (X Y : Array Value) (i : Nat) (_s : Option Bool × Unit) : Sem (ForInStep (Option Bool × Unit)):=do
  let __do_lift ← part e X (i * n)
  let __do_lift_1 ← part e Y (i * n)
  let __do_lift ← Op.equalIn k e __do_lift __do_lift_1
  if (!__do_lift) = true then pure (ForInStep.done (some false,())) else pure (ForInStep.yield (none,()))
theorem qjv {k : Nat} {e : TypeId} {desc : TypeDesc} {b : TypeInfo} {a : List (Option IntKind)} (j : EqOk P w Z k e desc a) (f : P.underlying e = some desc) (hi : P.info? e = some b) (hs : b.size = a.length)
    {xs ys : List DV} {X Y : Array Value} (h : DRel w Z xs X) (g : DRel w Z ys Y) : ∀ (m s : Nat) (r : Bool),(s + m) * a.length≤xs.length→(s + m) * a.length≤ys.length→
    Kd (List.replicate m a).flatten (xs.drop (s * a.length)) (ys.drop (s * a.length)) = some r→(forIn (List.range' s m) ((none : Option Bool),()) (q92 k e b.size X Y) : Sem (Option Bool × Unit)).run P w = .ok (if r then (none,()) else (some false,())) w
  | 0,s,r,_,_,hc=>by
    simp only [List.replicate_zero,List.flatten_nil] at hc
    obtain ⟨n,l⟩:=qbq hc
    rw [List.eq_nil_of_length_eq_zero n,List.eq_nil_of_length_eq_zero l] at hc
    simp [Kd] at hc;subst hc
    simp
  | m + 1,s,r,hlx,hly,hc=>by
    rw [List.replicate_succ,List.flatten_cons] at hc
    obtain ⟨p,q,hp,d,c⟩:=qeq hc
    rw [List.drop_drop,List.drop_drop] at d
    have x : s * a.length + a.length = (s + 1) * a.length:=by rw [Nat.add_mul];simp
    have e2 : (s + 1) * a.length + m * a.length = (s + (m + 1)) * a.length:=by rw [← Nat.add_mul];congr 1;omega
    obtain ⟨z,y,t,u,v⟩:=qjx j f hi hs h g (o:=s * a.length) q0 q0 hp
    rw [List.range'_succ,List.forIn_cons]
    simp only [q92,hs,Sem.run_bind,t,u,v,Result.andThen_ok]
    cases p with
    | false=>simp [c]
    | true=>
      rw [x] at d
      have:=qjv j f hi hs h g m (s + 1) q (by rw [Nat.add_mul];omega) (by rw [Nat.add_mul];omega) d
      simp only [Bool.true_and] at c
      subst c
      rw [hs] at this
      simpa using this
theorem qbz : ∀ (d : Nat) (t : TypeId) (desc : TypeDesc) (ks : List (Option IntKind)),P.underlying t = some desc→Ke P d t = some ks→∀ k,d≤k→EqOk P w Z k t desc ks
  | 0,t,desc,ks,hu,hp,k,hk=>by simp [Ke] at hp
  | d + 1,t,desc,ks,hu,hp,k,hk=>by
    obtain ⟨k,rfl⟩ : ∃ k',k = k' + 1:=⟨k - 1,q0⟩
    intro xs ys X Y r z v c
    obtain ⟨o,p⟩:=qbq c
    simp only [Ke,hu] at hp
    cases desc <;> simp only [reduceCtorEq,Option.some.injEq] at hp
    case bool=>
      subst hp
      refine ⟨by simp [Kb],fun _=>⟨rfl,fun x y l j=>?_⟩⟩
      match xs,ys,o,p,c with
      | [a],[b],_,_,c=>
        have ra:=z.2 0 a x rfl l
        have rb:=v.2 0 b y rfl j
        simp only [Kd] at c
        cases a <;> cases b <;> simp only [q2r,reduceCtorEq] at c
        simp at c;subst c
        cases ra;cases rb;simp [Op.equalIn,run_underlying hu]
    case int k0=>
      subst hp
      refine ⟨by simp [Kb],fun _=>⟨rfl,fun x y l j=>?_⟩⟩
      match xs,ys,o,p,c with
      | [a],[b],_,_,c=>
        have ra:=z.2 0 a x rfl l
        have rb:=v.2 0 b y rfl j
        simp only [Kd] at c
        cases a <;> cases b <;> simp only [q2r,reduceCtorEq] at c
        split at c <;> simp at c
        rename_i q u
        split at q <;> simp at q
        rename_i ab
        obtain ⟨rfl,rfl⟩:=ab
        subst q c
        simp at u;subst u
        cases ra;cases rb;simp [Op.equalIn,run_underlying hu]
    case struct fs=>
      refine ⟨fun _=>?_,by simp [Kb]⟩
      split at hp
      · simp at hp
      · rename_i aa
        simp only [Op.equalIn,Sem.run_bind,run_underlying hu,Result.andThen_ok,run_program,aa,Bool.false_eq_true,if_false]
        have:=qju (P:=P) (w:=w) (Z:=Z) d k (fun t desc ks q u=>qbz d t desc ks q u k q0) xs ys X Y z v fs.toList 0 r ks hp q0 q0 (by simpa using c)
        rw [Array.forIn_toList] at this
        have e : (fun (f : Field) (_s : Option Bool × Unit)=>q91 k X Y f _s) = q91 k X Y:=rfl
        unfold q91 at this
        rw [this]
        cases r <;> simp
    case array n e=>
      refine ⟨fun _=>?_,by simp [Kb]⟩
      cases g : Ke P d e with
      | none=>simp [g] at hp
      | some a=>
        simp only [g] at hp
        split at hp
        · rename_i ai
          simp only [Option.some.injEq] at hp;subst hp
          obtain ⟨s,h⟩ : ∃ s,P.underlying e = some s:=by
            cases ad : P.underlying e with
            | none=>cases d <;> simp [Ke,ad] at g
            | some s=>exact ⟨s,rfl⟩
          obtain ⟨je,m,ag⟩:=qdy h
          have af : (List.replicate n a).flatten.length = n * a.length:=by simp
          have:=qjv (qbz d e s a h g k q0) h m q0 z v n 0 r (by rw [Nat.zero_add];omega) (by rw [Nat.zero_add];omega) (by simpa using c)
          simp only [Op.equalIn,Sem.run_bind,run_underlying hu,Result.andThen_ok,Ze m,Std.Legacy.Range.forIn_eq_forIn_range']
          have e : (fun (i : Nat) (_s : Option Bool × Unit)=>q92 k e je.size X Y i _s) = q92 k e je.size X Y:=rfl
          unfold q92 at this
          simp only [Std.Legacy.Range.size,Nat.sub_zero,Nat.add_sub_cancel,Nat.div_one]
          rw [this]
          cases r <;> simp
        · simp at hp
end
section
variable {w : World} {Z : Nat→Prop} {inj : Inj} {st : AS} {a : Act} {Ds : List Nat}
theorem qq7 {op : BinOp} {k : IntKind} {x y : Int} {r : DV} (h : binI op k x y = some r) (hs : op≠.shl∧op≠.shr) : ∃ v,(∀ t,(binOp op t (.int k x) (.int k y)).run P w = .ok v w)∧RelD w Z r v:=by
  cases op <;> simp only [binI,reduceCtorEq,Option.some.injEq] at h <;> try (simp at hs;done)
  case add=>subst h;exact ⟨_,fun t=>by simp [binOp,Op.intArith],.int _ _⟩
  case sub=>subst h;exact ⟨_,fun t=>by simp [binOp,Op.intArith],.int _ _⟩
  case mul=>subst h;exact ⟨_,fun t=>by simp [binOp,Op.intArith],.int _ _⟩
  case quo=>split at h <;> simp at h;subst h;rename_i a;exact ⟨_,fun t=>by simp [binOp,Op.intDiv,a],.int _ _⟩
  case rem=>split at h <;> simp at h;subst h;rename_i a;exact ⟨_,fun t=>by simp [binOp,Op.intDiv,a],.int _ _⟩
  case and=>subst h;exact ⟨_,fun t=>by simp [binOp,Op.intBits],.int _ _⟩
  case or=>subst h;exact ⟨_,fun t=>by simp [binOp,Op.intBits],.int _ _⟩
  case xor=>subst h;exact ⟨_,fun t=>by simp [binOp,Op.intBits],.int _ _⟩
  case eql=>subst h;exact ⟨_,fun t=>by simp [binOp,Op.intCmp],.bool _⟩
  case neq=>subst h;exact ⟨_,fun t=>by simp [binOp,Op.intCmp],.bool _⟩
  case lss=>subst h;exact ⟨_,fun t=>by simp [binOp,Op.intCmp],.bool _⟩
  case leq=>subst h;exact ⟨_,fun t=>by simp [binOp,Op.intCmp],.bool _⟩
  case gtr=>subst h;exact ⟨_,fun t=>by simp [binOp,Op.intCmp],.bool _⟩
  case geq=>subst h;exact ⟨_,fun t=>by simp [binOp,Op.intCmp],.bool _⟩
theorem qnm {op : BinOp} {k k' : IntKind} {x y : Int} {r : DV} (h : qa0 op k x y = some r) : ∃ v,(∀ t,(binOp op t (.int k x) (.int k' y)).run P w = .ok v w)∧RelD w Z r v:=by
  unfold qa0 at h;split at h <;> try simp at h
  rename_i a;cases op <;> simp only [reduceCtorEq,Option.some.injEq] at h
  case shl=>subst h;exact ⟨_,fun t=>by simp [binOp,Op.shift,a],.int _ _⟩
  case shr=>subst h;exact ⟨_,fun t=>by simp [binOp,Op.shift,a],.int _ _⟩
theorem q1o {op : BinOp} {t : TypeId} {x y : Operand} {u v : Value} (a : ∀ c,u≠.agg c) (b : u≠.nilIface) : (eqGuard op t x y u v).run P w = .ok () w:=by
  unfold eqGuard;cases op <;> simp <;> cases u <;> simp_all
theorem qjs {op : BinOp} {t : TypeId} {x y : Operand} {u v : Array Value} (h : P.eqGuardType P.depth t = false) : (eqGuard op t x y (.agg u) (.agg v)).run P w = .ok () w:=by
  unfold eqGuard;cases op <;> simp [h]
end
end Go.Am
namespace Go.Am
open Go
variable {P : Program} {T : Tab}
section
variable {w : World} {Z : Nat→Prop} {inj : Inj} {st : AS} {a : Act} {Ds : List Nat}
theorem qp7 {a : TypeId → Option (List (Option IntKind))} {k : Nat} (b : ∀ t ks, a t = some ks → P.eqGuardType k t = false) : ∀ {l : List Field} {o : Nat} {ks}, tile P a o l = some ks → l.any (fun f => f.name != "_" && P.eqGuardType k f.type) = false
  | [],_,_,_=>rfl
  | f::r,o,ks,h=>by
    simp only [tile] at h
    cases hp : a f.type with
    | none=>simp [hp] at h
    | some ka=>
      simp only [hp] at h
      split at h <;> try simp at h
      cases c : tile P a (o + ka.length) r with
      | none=>simp [c] at h
      | some kb=>
        have:=qp7 b c
        simp only [List.any_cons,this,b _ _ hp,Bool.and_false,Bool.or_false]
theorem qgf : ∀ (d : Nat) (t : TypeId) (ks : List (Option IntKind)),Ke P d t = some ks→∀ k,d≤k→P.eqGuardType k t = false
  | 0,t,ks,h,k,hk=>by simp [Ke] at h
  | d + 1,t,ks,h,k,hk=>by
    obtain ⟨k,rfl⟩ : ∃ k',k = k' + 1:=⟨k - 1,q0⟩
    simp only [Ke] at h
    simp only [Program.eqGuardType]
    cases b : P.underlying t with
    | none=>rfl
    | some desc=>
      cases desc <;> simp only [b,reduceCtorEq] at h <;> try rfl
      case array n e=>
        cases hp : Ke P d e with
        | none=>simp [hp] at h
        | some a=>exact qgf d e a hp k q0
      case struct fs=>
        split at h <;> try simp at h
        have:=qp7 (fun t ks hp=>qgf d t ks hp k q0) h
        simp only []
        rw [← Array.any_toList];exact this
theorem qm9 {op : BinOp} {t : TypeId} {i : TI} {x y : Operand} {p q : List DV} {ks : List (Option IntKind)} {r : Bool} {b : DV} (h : RelS w Z inj st a Ds) (ht : tiOf P t = some i) (v : st.ev x = some (.d (.agg p))) (s : st.ev y = some (.d (.agg q)))
    (u : i.eqs = some ks) (hc : Kd ks p q = some r) (m : (op = .eql∧b = .bool r)∨(op = .neq∧b = .bool (!r))) :
    Kg st st (.d b) w Z inj ((do pure (Next.value (← (do eqGuard op t x y (a.eval x) (a.eval y);binOp op t (a.eval x) (a.eval y) : Sem Value)) ) : Sem Next).run P w):=by
  obtain ⟨n,d,z,k⟩:=Yo ht;have j:=Ka h v;have g:=Ka h s;generalize a.eval x = vx at j ⊢;generalize a.eval y = vy at g ⊢
  cases j with | d j=>cases j with | @agg _ X hl1 hr1=>
  cases g with | d g=>cases g with | @agg _ Y hl2 hr2=>
  obtain ⟨f,l⟩:=k.eqs ks u;have o : P.eqGuardType P.depth t = false:=qgf 8 t ks f _ (by unfold Program.depth Made.depth;omega);have c:=(qbz (w:=w) (Z:=Z) 8 t d ks k.und f Op.maxDepth (by unfold Op.maxDepth;omega) p q X Y r ⟨hl1,hr1⟩ ⟨hl2,hr2⟩ hc).1 l;rcases m with ⟨rfl,rfl⟩ | ⟨rfl,rfl⟩
  · exact .quiet h (Kf (x:=.bool r) (by simp [qjs o,binOp,Op.equal,c])) (.d (.bool _))
  · exact .quiet h (Kf (x:=.bool (!r)) (by simp [qjs o,binOp,Op.equal,c])) (.d (.bool _))
theorem qvb {op : BinOp} {t : TypeId} {x y : Operand} {k k' : IntKind} {p q : Int} {b : DV} (h : RelS w Z inj st a Ds) (o : st.ev x = some (.d (.int k p))) (n : st.ev y = some (.d (.int k' q)))
    (c : binD op (.int k p) (.int k' q) = some b) :
    Kg st st (.d b) w Z inj ((do pure (Next.value (← (do eqGuard op t x y (a.eval x) (a.eval y);binOp op t (a.eval x) (a.eval y) : Sem Value)) ) : Sem Next).run P w):=by
  have l:=Ka h o;have j:=Ka h n;generalize a.eval x = vx at l ⊢;generalize a.eval y = vy at j ⊢
  cases l with | d l=>
  cases l
  cases j with | d j=>
  cases j;have hg:=q1o (P:=P) (w:=w) (op:=op) (t:=t) (x:=x) (y:=y) (u:=.int k p) (v:=.int k' q) qd qd
  have key : ∃ v,(∀ t,(binOp op t (.int k p) (.int k' q)).run P w = .ok v w)∧RelD w Z b v:=by
    unfold binD at c;split at c
    · rename_i g f;cases g;cases f;exact qnm c
    · rename_i g f;cases g;cases f;exact qnm c
    · rename_i n1 z g f;cases g;cases f;split at c <;> try simp at c
      rename_i s;subst s;exact qq7 c ⟨fun e=>n1 e,fun e=>z e⟩
    · simp at c
  obtain ⟨v,r,m⟩:=key;exact .quiet h (Kf (x:=v) (by simp [hg,r])) (.d m)
theorem maxD : Op.maxDepth = 9999 + 1:=rfl
theorem qsa {t : TypeId} (h : P.underlying t = some .bool) (p q : Bool) : (Op.equal t (.bool p) (.bool q)).run P w = .ok (p == q) w:=by
  rw [Op.equal,maxD,Op.equalIn];simp only [Sem.run_bind,run_underlying h,Result.andThen_ok];rfl
theorem qjw {t e : TypeId} (h : P.underlying t = some (.slice e)) (a : Option Addr) (n c : Nat) : (Op.equal t (.slice none 0 0) (.slice a n c)).run P w = .ok a.isNone w:=by
  rw [Op.equal,maxD,Op.equalIn];simp only [Sem.run_bind,run_underlying h,Result.andThen_ok];rfl
theorem qse {t e : TypeId} (h : P.underlying t = some (.slice e)) (a : Addr) (n c : Nat) : (Op.equal t (.slice (some a) n c) (.slice none 0 0)).run P w = .ok false w:=by
  rw [Op.equal,maxD,Op.equalIn];simp only [Sem.run_bind,run_underlying h,Result.andThen_ok];rfl
theorem qsb {t : TypeId} {x y z} (h : P.underlying t = some (.func x y z)) : (Op.equal t .nilFunc .nilFunc).run P w = .ok true w:=by
  rw [Op.equal,maxD,Op.equalIn];simp only [Sem.run_bind,run_underlying h,Result.andThen_ok];rfl
theorem qsc {t : TypeId} {x y z} (h : P.underlying t = some (.func x y z)) (f g c) : (Op.equal t .nilFunc (.func f g c)).run P w = .ok false w:=by
  rw [Op.equal,maxD,Op.equalIn];simp only [Sem.run_bind,run_underlying h,Result.andThen_ok];rfl
theorem qsd {t : TypeId} {x y z} (h : P.underlying t = some (.func x y z)) (f g c) : (Op.equal t (.func f g c) .nilFunc).run P w = .ok false w:=by
  rw [Op.equal,maxD,Op.equalIn];simp only [Sem.run_bind,run_underlying h,Result.andThen_ok];rfl
theorem q3t {t : TypeId} {u v : Value} {r : Bool} (f : (Op.equal t u v).run P w = .ok r w) (d : ∀ k n,u≠.int k n) (b : ∀ k n,u≠.float k n) (a : ∀ k n m,u≠.complex k n m) (c : ∀ s,u≠.string s) :
    (binOp .eql t u v).run P w = .ok (.bool r) w∧(binOp .neq t u v).run P w = .ok (.bool (!r)) w:=by
  cases u <;> first | (exfalso;exact d _ _ rfl) | (exfalso;exact b _ _ rfl) | (exfalso;exact a _ _ _ rfl) | (exfalso;exact c _ rfl) | (constructor <;> (simp only [binOp];simp [f]))
theorem qva {op : BinOp} {t : TypeId} {i : TI} {x y : Operand} {p q : DV} {b : DV} (h : RelS w Z inj st a Ds) (ht : tiOf P t = some i) (hx : st.ev x = some (.d p)) (hy : st.ev y = some (.d q))
    (n : binE op i.kind p q = some b) :
    Kg st st (.d b) w Z inj ((do pure (Next.value (← (do eqGuard op t x y (a.eval x) (a.eval y);binOp op t (a.eval x) (a.eval y) : Sem Value)) ) : Sem Next).run P w):=by
  obtain ⟨ac,d,z,k⟩:=Yo ht;have l:=Ka h hx;have j:=Ka h hy;generalize a.eval x = vx at l ⊢;generalize a.eval y = vy at j ⊢
  cases l with | d l=>
  cases j with | d j=>
  have key : ∀ r,eqK i.kind p q = some r→(eqGuard op t x y vx vy).run P w = .ok () w∧(binOp .eql t vx vy).run P w = .ok (.bool r) w∧(binOp .neq t vx vy).run P w = .ok (.bool (!r)) w:=by
    intro r c;have m:=k.kind;unfold Zf at m;unfold eqK at c;split at c <;> simp at c <;> (rename_i s;simp only [s] at m)
    · subst c;obtain ⟨rfl,_⟩:=m;cases l;cases j;exact ⟨q1o qd qd,q3t (qsa k.und _ _) qd qd qd qd⟩
    · subst c;cases l;cases j;exact ⟨q1o qd qd,by simp only [binOp,Op.stringOp];rfl,by simp only [binOp,Op.stringOp];rfl⟩
    · subst c;obtain ⟨e,v,de,ze,rfl,_⟩:=m;cases l;cases j;exact ⟨q1o qd qd,q3t (qjw k.und _ _ _) qd qd qd qd⟩
    · subst c;obtain ⟨e,v,de,ze,rfl,_⟩:=m;cases l;cases j;exact ⟨q1o qd qd,q3t (qjw k.und _ _ _) qd qd qd qd⟩
    · subst c;obtain ⟨e,v,de,ze,rfl,_⟩:=m;cases l;cases j;exact ⟨q1o qd qd,q3t (qse k.und _ _ _) qd qd qd qd⟩
    · subst c;obtain ⟨⟨e,f,g,rfl⟩,_⟩:=m;cases l;cases j;exact ⟨q1o qd qd,q3t (qsb k.und) qd qd qd qd⟩
    · subst c;obtain ⟨⟨e,f,g,rfl⟩,_⟩:=m;cases l;cases j;exact ⟨q1o qd qd,q3t (qsc k.und _ _ _) qd qd qd qd⟩
    · subst c;obtain ⟨⟨e,f,g,rfl⟩,_⟩:=m;cases l;cases j;exact ⟨q1o qd qd,q3t (qsd k.und _ _ _) qd qd qd qd⟩
  unfold binE at n;split at n
  · cases c : eqK i.kind p q with
    | none=>simp [c] at n
    | some r=>
      simp [c] at n;subst n;obtain ⟨o,u,_⟩:=key r c;exact .quiet h (Kf (x:=.bool r) (by simp [o,u])) (.d (.bool _))
  · cases c : eqK i.kind p q with
    | none=>simp [c] at n
    | some r=>
      simp [c] at n;subst n;obtain ⟨o,_,u⟩:=key r c;exact .quiet h (Kf (x:=.bool (!r)) (by simp [o,u])) (.d (.bool _))
  · simp at n
end
end Go.Am
namespace Go.Am
open Go
variable {P : Program} {T : Tab}
section
variable {w : World} {Z : Nat→Prop} {inj : Inj} {st : AS} {a : Act} {Ds : List Nat}
theorem qvw {op : UnOp} {x : Operand} {p b : DV} (h : RelS w Z inj st a Ds) (g : st.ev x = some (.d p)) (c : unD op p = some b) :
    Kg st st (.d b) w Z inj ((do pure (Next.value (← Op.unary op (a.eval x))) : Sem Next).run P w):=by
  have f:=Ka h g;generalize a.eval x = vx at f ⊢
  cases f with | d f=>
  unfold unD at c;split at c
  · simp at c;subst c;cases f;exact .quiet h (Kf (by simp [Op.unary,Op.intArith])) (.d (.int _ _))
  · simp at c;subst c;cases f;exact .quiet h (Kf (by simp [Op.unary])) (.d (.bool _))
  · cases f;simp only [binI,Option.some.injEq] at c;subst c;exact .quiet h (Kf (by simp [Op.unary,Op.intBits])) (.d (.int _ _))
  · simp at c
theorem qvg {src dst : TypeId} {i j : TI} {x : Operand} {k0 t k : IntKind} {n : Int} (h : RelS w Z inj st a Ds) (hi : tiOf P src = some i) (r : tiOf P dst = some j) (g : i.kind = .int k0) (m : j.kind = .int k) (s : st.ev x = some (.d (.int t n))) :
    Kg st st (.d (.int k (k.wrap n))) w Z inj ((do pure (Next.value (← convert src dst (a.eval x))) : Sem Next).run P w):=by
  obtain ⟨p,d,z,q⟩:=Yo hi;obtain ⟨c,v,u,o⟩:=Yo r;have l:=q.kind;have f:=o.kind;unfold Zf at l f;simp only [g,m] at l f;obtain ⟨rfl,_⟩:=l;obtain ⟨rfl,_⟩:=f;have b:=Ka h s;generalize a.eval x = vx at b ⊢
  cases b with | d b=>
  cases b;refine .quiet h (Kf (x:=.int k (k.wrap n)) ?_) (.d (.int _ _));simp only [convert,Sem.run_bind,run_underlying q.und,run_underlying o.und,Result.andThen_ok];simp [Conv.intToInt]
theorem qvq {f : FuncId} {first b : Array Operand} {j : List V} (h : RelS w Z inj st a Ds) (k : first.size = 0) (l : evL st.ev b.toList = some j) :
    Kg st st (match allD j with | some ds=>.d (.fn f ds) | none=>.fn f j) w Z inj ((do pure (Next.value (← Instr.makeFunc (.func f) (first.map a.eval) (b.map a.eval))) : Sem Next).run P w):=by
  have g:=q95 h l;have o : first.map a.eval = #[]:=by apply Array.eq_empty_of_size_eq_zero;simpa using k
  have n : (b.toList.map a.eval).toArray = b.map a.eval:=by apply Array.ext';simp
  rw [n] at g;refine .quiet h (Kf (x:=.func (.func f) #[] (b.map a.eval)) (by simp [Instr.makeFunc,o])) ?_;split
  · rename_i ds hd;have:=q5h hd;subst this;refine .d (.fn (by simpa using g.1) fun i d c hd m=>?_);have:=g.2 i (.d d) c (by simp [hd]) m
    cases this with | d h=>exact h
  · exact .fn g.1 g.2
theorem qma {x : Operand} {k : Nat} {v : V} (h : RelS w Z inj st a Ds) (l : (∃ b d,st.ev x = some (.d (.tup b))∧b[k]? = some d∧v = .d d)∨∃ b,st.ev x = some (.tup b)∧b[k]? = some v) :
    Kg st st v w Z inj ((do pure (Next.value (← Instr.extract (a.eval x) k)) : Sem Next).run P w):=by
  rcases l with ⟨b,d,l,g,rfl⟩ | ⟨b,l,g⟩
  · have f:=Ka h l;generalize a.eval x = vx at f ⊢
    cases f with | d f=>
    cases f with | @tup _ cs hl hr=>
    obtain ⟨c,j⟩:=Yb (xs:=cs) (i:=k) (by have:=Kc g;omega);exact .quiet h (Kf (x:=c) (by simp [Instr.extract,j])) (.d (hr _ _ _ g j))
  · have f:=Ka h l;generalize a.eval x = vx at f ⊢
    cases f with | @tup _ cs hl hr=>
    obtain ⟨c,j⟩:=Yb (xs:=cs) (i:=k) (by have:=Kc g;omega);exact .quiet h (Kf (x:=c) (by simp [Instr.extract,j])) (hr _ _ _ g j)
theorem qi4 {nx : Nat} {v : V} {x : Value} {cs : List V} (h : RelV w Z inj nx v x) (a : agD v = some cs) : ∃ xs,x = .agg xs∧LRel w Z inj nx cs xs:=by
  unfold agD at a;split at a <;> simp at a
  · subst a
    cases h with | d h=>
    cases h with | @agg _ X hl hr=>
    refine ⟨X,rfl,by simpa using hl,fun i d c hd f=>?_⟩;simp only [List.getElem?_map,Y6] at hd;obtain ⟨g,b,rfl⟩:=hd;exact .d (hr i g c b f)
  · subst a
    cases h with | @agg _ X hl hr=>exact ⟨X,rfl,hl,hr⟩
theorem qvj {s : TypeId} {i : TI} {x : Operand} {j v : V} {f off size : Nat} {ag : Bool} {cs r : List V} (h : RelS w Z inj st a Ds) (hi : tiOf P s = some i) (hx : st.ev x = some j) (hk : i.kind = .struct) (p : i.flds[f]? = some (off,size,ag))
    (m : agD j = some cs) (hs : sub cs off size = some r) (hp : pack ag r = some v) :
    Kg st st v w Z inj ((do pure (Next.value (← Instr.field s (a.eval x) f)) : Sem Next).run P w):=by
  obtain ⟨g,d,z,k⟩:=Yo hi;have b:=k.kind;unfold Zf at b;simp only [hk] at b;obtain ⟨fs,rfl,c⟩:=b;obtain ⟨fd,jf,df,u,g2,g3,l,g5,g6,g7⟩:=qfd c p;obtain ⟨xs,o,n⟩:=qi4 (Ka h hx) m;subst l g6 g7;obtain ⟨y,t,q⟩:=qmi (P:=P) g2 g3 n hs hp;refine .quiet h (Kf (x:=y) ?_) q;simp only [Instr.field,Sem.run_bind,run_underlying k.und,Result.andThen_ok,u,o,asAgg,Sem.run_pure,t]
theorem qvl {t : TypeId} {i : TI} {x f : Operand} {o v : V} {k0 : IntKind} {n : Int} {cs r : List V} (h : RelS w Z inj st a Ds) (hi : tiOf P t = some i) (hx : st.ev x = some o) (s : st.ev f = some (.d (.int k0 n))) (hk : i.kind = .array)
    (p : agD o = some cs) (h0 : 0≤n∧n < i.len) (hs : sub cs (n.toNat * i.esize) i.esize = some r) (hp : pack i.eagg r = some v) :
    Kg st st v w Z inj ((do pure (Next.value (← Instr.index t (a.eval x) (a.eval f))) : Sem Next).run P w):=by
  obtain ⟨j,d,z,k⟩:=Yo hi;have b:=k.kind;unfold Zf at b;simp only [hk] at b;obtain ⟨e,ie,de,rfl,m,g2,g,g4,g5⟩:=b;obtain ⟨xs,u,q⟩:=qi4 (Ka h hx) p;have c:=Ka h s;generalize a.eval f = vx at c ⊢
  cases c with | d c=>
  cases c;rw [← g] at hs;rw [← g5] at hp;obtain ⟨y,l,hr⟩:=qmi (P:=P) m g2 q hs hp;refine .quiet h (Kf (x:=y) ?_) hr;simp only [Instr.index,asIntOf,Sem.run_bind,Sem.run_pure,run_underlying k.und,Result.andThen_ok,u];rw [Sem.run_ite,qr h0];simp only [Sem.run_bind,Ze m,Result.andThen_ok,g];rw [g] at l;exact l
theorem qvn {t : TypeId} {i : TI} {x j : Operand} {k0 : IntKind} {n : Int} {s : ByteArray} {b : UInt8} (h : RelS w Z inj st a Ds) (hi : tiOf P t = some i) (o : st.ev x = some (.d (.str s))) (m : st.ev j = some (.d (.int k0 n))) (p : i.kind = .str)
    (hb : (if 0≤n then s[n.toNat]? else none) = some b) :
    Kg st st (.d (.int .u8 b.toNat)) w Z inj ((do pure (Next.value (← Instr.index t (a.eval x) (a.eval j))) : Sem Next).run P w):=by
  obtain ⟨l,d,z,k⟩:=Yo hi;have c:=k.kind;unfold Zf at c;simp only [p] at c;obtain ⟨rfl,_⟩:=c;have g:=Ka h o;have f:=Ka h m;generalize a.eval x = vy at g ⊢;generalize a.eval j = vx at f ⊢
  cases g with | d g=>
  cases g
  cases f with | d f=>
  cases f;refine .quiet h (Kf (x:=.int .u8 b.toNat) ?_) (.d (.int _ _));simp only [Instr.index,asIntOf,Sem.run_bind,Sem.run_pure,run_underlying k.und,Result.andThen_ok,hb]
theorem qvk {s : TypeId} {i : TI} {p : Operand} {pv v : V} {f off size : Nat} {ag : Bool} (h : RelS w Z inj st a Ds) (hi : tiOf P s = some i) (hx : st.ev p = some pv) (hk : i.kind = .struct) (r : i.flds[f]? = some (off,size,ag))
    (hp : qf9 off pv = some v) :
    Kg st st v w Z inj ((do pure (Next.value (← Instr.fieldAt s (a.eval p) f)) : Sem Next).run P w):=by
  obtain ⟨q,d,z,k⟩:=Yo hi;have l:=k.kind;unfold Zf at l;simp only [hk] at l;obtain ⟨fs,rfl,m⟩:=l;obtain ⟨fd,jf,df,u,g2,g3,t,y,g6,g7⟩:=qfd m r;have g:=Ka h hx;generalize a.eval p = vx at g ⊢
  have c : ∀ b o,(Instr.fieldAt s (.pointer (some ⟨b,o,none⟩)) f).run P w = .ok (.pointer (some ⟨b,o + off,none⟩)) w:=by
    intro b o;simp only [Instr.fieldAt,Instr.sureAddr,fieldPlace,Sem.run_bind,run_underlying k.und,Result.andThen_ok,u,Sem.run_pure,Ze g2,Sem.run_ite,t,qq y,U2,g6]
  cases pv <;> simp only [qf9,reduceCtorEq,Option.some.injEq] at hp
  case ref n es ii j=>
    subst hp
    cases g with | @ref _ _ _ _ b o h1 h2=>
    refine .quiet h (Kf (c _ _)) ?_;have:=RelV.ref (w:=w) (Z:=Z) (nx:=st.nx) (es:=es) (i:=ii) (j:=j + off) h1 h2
    rwa [show o + (ii * es + (j + off)) = o + (ii * es + j) + off by omega] at this
  case dref cs j=>
    subst hp
    cases g with | @dref _ _ b o h1 h2 g=>
    refine .quiet h (Kf (c _ _)) ?_;have:=RelV.dref (inj:=inj) (nx:=st.nx) (j:=j + off) h1 h2 g
    rwa [← Nat.add_assoc] at this
  case d x=>
    cases x <;> simp only [reduceCtorEq,Option.some.injEq] at hp
    subst hp
    cases g with | d g=>
    cases g with | box h1 h2 g=>
    exact .quiet h (Kf (c _ _)) (RelV.dref (inj:=inj) (nx:=st.nx) (j:=off) h1 h2 g)
theorem qvm {t : TypeId} {i : TI} {x ix : Operand} {xv v : V} {k0 : IntKind} {n : Int} (h : RelS w Z inj st a Ds) (hi : tiOf P t = some i) (hx : st.ev x = some xv) (hn : st.ev ix = some (.d (.int k0 n)))
    (hp : q42 i xv n = some v) :
    Kg st st v w Z inj ((do pure (Next.value (← Instr.indexAt t (a.eval x) (a.eval ix))) : Sem Next).run P w):=by
  obtain ⟨ah,d,z,k⟩:=Yo hi;have q:=k.kind;unfold Zf at q;have u:=Ka h hn;generalize a.eval ix = vx at u ⊢
  cases u with | d u=>
  cases u;have l:=Ka h hx;generalize a.eval x = vx at l ⊢
  have p : i.kind = .slice→∀ b o len cap,0≤n→n < (len : Nat)→(Instr.indexAt t (.slice (some ⟨b,o,none⟩) len cap) (.int k0 n)).run P w = .ok (.pointer (some ⟨b,o + n.toNat * i.esize,none⟩)) w:=by
    intro s b o len cap f r;simp only [s] at q;obtain ⟨e,ie,de,ze,rfl,g1,g2,g3,g4,g5,g6,_⟩:=q;simp only [Instr.indexAt,asIntOf,Sem.run_bind,Sem.run_pure,run_underlying k.und,Result.andThen_ok];rw [Sem.run_ite,qr ⟨f,r⟩];simp only [Sem.run_bind,Ze g1,Result.andThen_ok,Sem.run_pure,U2,g6]
  have g : i.kind = .array→∀ b o,0≤n→n < i.len→(Instr.indexAt t (.pointer (some ⟨b,o,none⟩)) (.int k0 n)).run P w = .ok (.pointer (some ⟨b,o + n.toNat * i.esize,none⟩)) w:=by
    intro s b o f r;simp only [s] at q;obtain ⟨e,ie,de,rfl,g1,g2,g3,g4,_⟩:=q;simp only [Instr.indexAt,asIntOf,Instr.sureAddr,Sem.run_bind,Sem.run_pure,run_underlying k.und,Result.andThen_ok];rw [Sem.run_ite,qr ⟨f,r⟩];simp only [Sem.run_bind,Ze g1,Result.andThen_ok,Sem.run_pure,U2,g3]
  cases s : i.kind <;> simp only [q42,s,reduceCtorEq] at hp
  case slice=>
    cases xv <;> (try simp only [reduceCtorEq] at hp)
    case d x=>
      cases x <;> (try simp only [reduceCtorEq] at hp)
      rename_i es xs;split at hp <;> simp at hp
      rename_i f;obtain ⟨f,he⟩:=f;obtain ⟨cs,aa,rfl⟩:=hp;have y:=Kc aa
      cases l with | d l=>
      cases l with
      | slnil=>simp at y
      | slemp=>simp at y
      | @sl _ _ b o cap r h2 h4 h5 h6=>
        refine .quiet h (Kf (p s _ _ _ _ f q0)) ?_
        have:=RelV.dref (w:=w) (Z:=Z) (inj:=inj) (nx:=st.nx) (cs:=cs) (j:=0) (b:=b) (o:=o + n.toNat * i.esize) (h2 (by rintro rfl;simp at y))
          (fun k d hd=>by have:=(h5 n.toNat cs k d aa hd).2;rwa [he,← Nat.add_assoc] at this)
          (fun k d c hd hc=>h6 n.toNat cs k d c aa hd (by rwa [he,← Nat.add_assoc]))
        simpa using this
    case hs m es off len=>
      split at hp <;> simp at hp
      rename_i f;obtain ⟨f,r,he⟩:=f;subst hp
      cases l with
      | hsnil=>omega
      | @hs _ _ _ _ cap ad hn hle _ hcap=>
        obtain ⟨b,o,hi,rfl,_⟩:=hcap q0;refine .quiet h (Kf (p s _ _ _ _ f q0)) ?_;have:=RelV.ref (w:=w) (Z:=Z) (nx:=st.nx) (es:=es) (i:=off + n.toNat) (j:=0) hn hi;rw [show o + off * es + n.toNat * i.esize = o + ((off + n.toNat) * es + 0) by rw [← he,Nat.add_mul];omega];exact this
  case array=>
    cases xv <;> (try simp only [reduceCtorEq] at hp)
    case ref m es e j=>
      split at hp <;> simp at hp
      rename_i f;subst hp
      cases l with | @ref _ _ _ _ b o r h2=>
      refine .quiet h (Kf (g s _ _ f.1 f.2)) ?_;have:=RelV.ref (w:=w) (Z:=Z) (nx:=st.nx) (es:=es) (i:=e) (j:=j + n.toNat * i.esize) r h2
      rwa [← Nat.add_assoc,← Nat.add_assoc,Nat.add_assoc o] at this
    case dref cs j=>
      split at hp <;> simp at hp
      rename_i f;subst hp
      cases l with | @dref _ _ b o r h2 l=>
      refine .quiet h (Kf (g s _ _ f.1 f.2)) ?_;have:=RelV.dref (inj:=inj) (nx:=st.nx) (j:=j + n.toNat * i.esize) r h2 l
      rwa [← Nat.add_assoc] at this
    case d x=>
      cases x <;> (try simp only [reduceCtorEq] at hp)
      split at hp <;> simp at hp
      rename_i f;subst hp
      cases l with | d l=>
      cases l with | box r h2 l=>
      exact .quiet h (Kf (g s _ _ f.1 f.2)) (RelV.dref (inj:=inj) (nx:=st.nx) (j:=n.toNat * i.esize) r h2 l)
end
end Go.Am
namespace Go.Am
open Go
variable {P : Program} {T : Tab}
theorem qhs {n : Int} (h : -9223372036854775808≤n∧n≤9223372036854775807) : IntKind.i64.wrap n = n:=by rw [IntKind.wrap_i64];omega
theorem qip {es i a j : Nat} (b : j < es) : (i * es≤a * es + j∧a * es + j < i * es + es)↔a = i:=by
  constructor
  · intro ⟨d,c⟩;rcases Nat.lt_trichotomy a i with h | h | h
    · have:=Nat.mul_le_mul_right es (show a + 1≤i from h);rw [Nat.add_mul] at this;omega
    · exact h
    · have:=Nat.mul_le_mul_right es (show i + 1≤a from h);rw [Nat.add_mul] at this;omega
  grind
theorem q3v {es n i j : Nat} (hi : i < n) (a : j < es) : i * es + j < n * es:=by
  have:=Nat.mul_le_mul_right es (show i + 1≤n from hi);rw [Nat.add_mul] at this;omega
section
variable {w : World} {Z : Nat→Prop} {inj : Inj} {st : AS} {a : Act} {Ds : List Nat}
theorem qil {b y : Nat} {o : Option Operand} {n : Nat} {code : BoundsCode} (h : RelS w Z inj st a Ds) (hb : bound st b o = some n) (j : n≤y) :
    (∀ op,o = some op→(Instr.sliceBound (a.eval op) y code).run P w = .ok n w)∧(o = none→n = b):=by
  cases o with
  | none=>simp [bound] at hb;exact ⟨qd,fun _=>hb.symm⟩
  | some op=>
    refine ⟨fun g e=>?_,qd⟩;cases e;simp only [bound] at hb;split at hb <;> try simp at hb
    rename_i k m f;have c:=Ka h f;generalize a.eval op = vx at c ⊢
    cases c with | d c=>
    cases c;obtain ⟨l,rfl⟩:=hb;simp only [Instr.sliceBound,asIntOf,Sem.run_bind,Sem.run_pure,Result.andThen_ok];simp_all
theorem qvu {t : TypeId} {i : TI} {x : Operand} {xv v : V} {lo hi : Option Operand} {n p q : Nat} (h : RelS w Z inj st a Ds) (ht : tiOf P t = some i) (hk : i.kind = .slice) (f : st.ev x = some xv) (g : lenV xv = some n)
    (aj : bound st 0 lo = some p) (al : bound st n hi = some q) (hs : qa1 i.esize xv p q = some v) :
    Kg st st v w Z inj ((do pure (Next.value (← Instr.sliceAt t (a.eval x) (lo.map a.eval) (hi.map a.eval) none)) : Sem Next).run P w):=by
  obtain ⟨an,d,z,k⟩:=Yo ht;have ab:=k.kind;unfold Zf at ab;simp only [hk] at ab;obtain ⟨e,ie,de,ze,rfl,g1,g2,g3,g4,g5,g6,g7,_⟩:=ab;have h3:=Ka h f;generalize a.eval x = vx at h3 ⊢
  have run : ∀ ad len cap,len = n→q≤cap→p≤q→(Instr.sliceAt t (.slice ad len cap) (lo.map a.eval) (hi.map a.eval) none).run P w = .ok (.slice (if cap = p then ad else ad.map (·.add (p * i.esize))) (q - p) (cap - p)) w:=by
    intro ad len cap hl hq hp;obtain ⟨l1,l2⟩:=qil (P:=P) (y:=q) (code:=.sliceB) h aj hp;obtain ⟨r1,r2⟩:=qil (P:=P) (y:=cap) (code:=.sliceAcap) h al hq;simp only [Instr.sliceAt,Sem.run_bind,run_underlying k.und,Result.andThen_ok,Instr.slice,Instr.sliceBounds,Ze g1,g6]
    cases hi with
    | none=>
      have:=r2 rfl;subst this
      cases lo with
      | none=>have:=l2 rfl;subst this;simp [hl]
      | some o=>simp [hl,l1 o rfl]
    | some o'=>
      cases lo with
      | none=>have:=l2 rfl;subst this;simp [r1 o' rfl]
      | some o=>simp [r1 o' rfl,l1 o rfl]
  cases xv <;> simp only [qa1,reduceCtorEq] at hs
  case d x=>
    cases x <;> simp only [reduceCtorEq] at hs
    case nilsl=>
      split at hs <;> simp at hs
      rename_i u;obtain ⟨rfl,rfl⟩:=u;subst hs;simp [lenV] at g
      cases h3 with | d h3=>
      cases h3;exact .quiet h (Kf (run _ _ _ g q0 q0)) (by simpa using RelV.d .nilsl)
    case sl es xs=>
      split at hs <;> simp at hs
      rename_i u;obtain ⟨u,h1,he⟩:=u;subst hs;simp [lenV] at g
      cases h3 with | d h3=>
      cases h3 with
      | slnil=>
        simp at h1 g;obtain ⟨rfl,rfl⟩ : q = 0∧p = 0:=by omega
        exact .quiet h (Kf (run _ _ _ g q0 q0)) (by simpa using RelV.d (.slnil _))
      | slemp=>
        simp at h1 g;obtain ⟨rfl,rfl⟩ : q = 0∧p = 0:=by omega
        exact .quiet h (Kf (run _ _ _ g q0 q0)) (by simpa using RelV.d (.slemp _ _))
      | @sl _ _ b o cap hc hz hl hcell hrel=>
        refine .quiet h (Kf (run _ _ _ g q0 u)) ?_;have l : ((xs.drop p).take (q - p)).length = q - p:=by simp;omega
        have r : ∀ (i : Nat) (x : List DV),((xs.drop p).take (q - p))[i]? = some x→xs[p + i]? = some x:=by
          intro i x f;rw [List.getElem?_take] at f;split at f
          · rwa [List.getElem?_drop] at f
          · simp at f
        by_cases s : cap = p
        · rw [qr s];have h9 : (xs.drop p).take (q - p) = []:=List.eq_nil_of_length_eq_zero (by rw [l];omega);have h8 : q - p = 0:=by omega
          rw [h9,h8];exact .d (RelD.sl (es:=es) (xs:=[]) qd qd qd qd qd)
        · rw [qq s,Option.map_some,U2]
          have e2 : ∀ k j,o + p * i.esize + (k * es + j) = o + ((p + k) * es + j):=by
            intro k j;rw [← he,Nat.add_mul];omega
          have:=RelD.sl (w:=w) (Z:=Z) (es:=es) (xs:=(xs.drop p).take (q - p)) (b:=b) (o:=o + p * i.esize) (cap:=cap - p) (by rw [l];omega) (fun ac=>hz (by rintro rfl;simp at ac)) (fun i x f=>hl _ _ (r i x f))
            (fun k x j d f hd=>by rw [e2];exact hcell _ _ j d (r k x f) hd)
            (fun k x j d c f hd hc=>hrel _ _ j d c (r k x f) hd (by rw [e2] at hc;exact hc))
          rw [l] at this;exact .d this
  case hs m es off len=>
    split at hs <;> simp at hs
    rename_i u;obtain ⟨u,h1,he⟩:=u;subst hs;simp [lenV] at g
    cases h3 with
    | hsnil hm=>
      obtain ⟨rfl,rfl⟩ : q = 0∧p = 0:=by omega
      exact .quiet h (Kf (run _ _ _ g q0 q0)) (by simpa using RelV.hsnil (es:=es) (off:=off) hm)
    | @hs _ _ _ _ cap ad hm hc hsp hcap=>
      refine .quiet h (Kf (run _ _ _ g q0 u)) ?_;by_cases s : cap = p
      · rw [qr s];exact .hs hm q0 hsp (fun ac=>q0)
      · rw [qq s,Option.map_some];obtain ⟨b,o,hi,rfl,aq⟩:=hcap q0;rw [U2];refine .hs hm q0 rfl fun _=>⟨b,o,hi,?_,?_⟩
        · rw [he,Nat.add_mul,← Nat.add_assoc]
        · rwa [show off + p + (cap - p) = off + cap by omega]
theorem qhv {b : Value} {es n i j : Nat} {ds : List DV} (p : b.cells.toList.mapM Zp = some ds) (m : ds.length = es) (hi : i < n) {d : DV} (hd : ds[j]? = some d) :
    ∃ c,((Array.range (n * es)).map (b.cells[· % b.cells.size]!))[i * es + j]? = some c∧RelD w Z d c∧Yg d = true:=by
  obtain ⟨l,k⟩:=q8y (w:=w) (Z:=Z) p;obtain ⟨c,o,h,a,_⟩:=k j d hd;have g : j < es:=by have:=Kc hd;omega
  refine ⟨c,?_,h,a⟩;have f:=q3v hi g;rw [Array.getElem?_map,Array.getElem?_range];simp only [f,if_true,Option.map_some];have : (i * es + j) % b.cells.size = j:=by rw [← l,m,Nat.mul_comm,Nat.mul_add_mod,Nat.mod_eq_of_lt g]
  grind
theorem qvs {t : TypeId} {i : TI} {l c : Operand} {k1 v : IntKind} {n m : Int} (h : RelS w Z inj st a Ds) (ht : tiOf P t = some i) (hk : i.kind = .slice) (hl : st.ev l = some (.d (.int k1 n))) (s : st.ev c = some (.d (.int v m)))
    (h0 : 0≤n) (h1 : n≤m) (o : m * (i.ebytes * 4)≤room) :
    Kg st (st.new (.dat i.esize (List.replicate n.toNat i.ezero))) (.hs st.nx i.esize 0 n.toNat) w Z inj ((do pure (Next.value (← Instr.makeSlice t (a.eval l) (a.eval c))) : Sem Next).run P w):=by
  obtain ⟨ab,d,z,k⟩:=Yo ht;have f:=k.kind;unfold Zf at f;simp only [hk] at f;obtain ⟨e,ie,de,y,rfl,g1,g2,g3,g4,g5,g6,g7,g8,g9,_⟩:=f;have q:=Ka h hl;have p:=Ka h s;generalize a.eval l = vl at q ⊢;generalize a.eval c = vc at p ⊢
  cases q with | d q=>
  cases q
  cases p with | d p=>
  cases p
  have hm : m≤4294967296:=by
    have e1 : (1 : Int)≤(i.ebytes : Int) * 4:=by omega
    have:=Int.mul_le_mul_of_nonneg_left e1 (show (0:Int)≤m by omega);unfold room at o;omega
  have hb : (i.ebytes : Int) * m≤281474976710656:=by
    unfold room at o;grind
  have w1 : IntKind.i64.wrap n = n:=qhs q0;have w2 : IntKind.i64.wrap m = m:=qhs q0;obtain ⟨N,rfl⟩:=Int.eq_ofNat_of_zero_le h0;obtain ⟨M,rfl⟩:=Int.eq_ofNat_of_zero_le (show 0≤m by omega);simp only [Int.toNat_natCast];have b:=run_make (P:=P) w t e ie y k.und g1 g3 k1 v (N : Int) (M : Int) h0 h1 (by rw [g8];exact hb) q0;simp only [Int.toNat_natCast,g6] at b;have u : N≤M:=by omega
  refine .new h (Kf b) ?_ ?_
  · refine ⟨g7,?_,.inr ⟨w.heap.size,0,_,e,Kz _ _ _,U3 _ _,?_⟩⟩
    · grind
    · intro j x j' d r hd;rw [List.getElem?_replicate] at r;split at r <;> simp at r
      rename_i hj;subst r;obtain ⟨c,s,o,g⟩:=qhv (w:=w.alloc (.cells (madeCells y.cells (M * i.esize)) e)) (Z:=Z) g4 g5 (show j < M by omega) hd;exact ⟨g,c,by rw [Nat.zero_add];exact s,o⟩
  · refine .hs q0 u rfl fun _=>⟨w.heap.size,0,Kz _ _ _,qd,?_⟩
    exact ⟨_,_,_,U3 _ _,by rw [size_madeCells];simp⟩
def ERel (w : World) (Z : Nat→Prop) (inj : Inj) (nx es : Nat) (xs : List (List V)) (C : Array Value) : Prop:=
  C.size = xs.length * es∧(∀ (i : Nat) (x : List V),xs[i]? = some x→x.length = es)∧
    ∀ (i : Nat) (x : List V) (j : Nat) (d : V),xs[i]? = some x→x[j]? = some d→Kh d = true∧∃ c,C[i * es + j]? = some c∧RelV w Z inj nx d c
theorem qjo {es : Nat} : ∀ {f : List (Nat × V)} {l : List (Nat × List V)},elems es f = some l→l.length = f.length∧∀ (k i : Nat) (v : V),f[k]? = some (i,v)→(cellsOf v).length = es∧(cellsOf v).all Kh = true∧l[k]? = some (i,cellsOf v)
  | [],l,h=>by simp [elems] at h;subst h;simp
  | (i,v)::r,l,h=>by
    simp only [elems] at h
    split at h
    · rename_i l' m
      split at h
      · rename_i g
        simp at h;subst h
        obtain ⟨j,p⟩:=qjo m
        refine ⟨by simp [j],fun k n o d=>?_⟩
        cases k with
        | zero=>simp at d;obtain ⟨rfl,rfl⟩:=d;exact ⟨g.1,g.2,qd⟩
        | succ k=>simp at d;obtain ⟨a,b,c⟩:=p k n o d;exact ⟨a,b,by simpa using c⟩
      · simp at h
    · simp at h
theorem ERel.set {w : World} {nx es : Nat} {xs : List (List V)} {C k : Array Value} {ys : List V} {i : Nat} (h : ERel w Z inj nx es xs C) (m : LRel w Z inj nx ys k) (s : ys.length = es) (n : ys.all Kh = true) (hi : i < xs.length) :
    ERel w Z inj nx es (xs.set i ys) (Am.splice C.toList (i * es) k.toList).toArray:=by
  obtain ⟨p,r,q⟩:=h;have g : k.toList.length = es:=by have:=m.1;simp;omega
  have a : i * es + k.toList.length≤C.toList.length:=by
    rw [g,Array.length_toList,p];have:=Nat.mul_le_mul_right es (show i + 1≤xs.length from hi);rw [Nat.add_mul] at this;omega
  refine ⟨by simp [q2j _ _ _ a,p],?_,?_⟩
  · grind
  · intro j x l d f hd;rw [List.getElem?_set] at f;by_cases b : i = j
    · subst b;rw [qr rfl,qr hi] at f;simp at f;subst f;have v:=Kc hd;obtain ⟨c,o⟩:=Yb (xs:=k) (i:=l) (by have:=m.1;omega);refine ⟨List.all_eq_true.1 n _ (List.mem_of_getElem? hd),c,?_,m.2 _ _ _ hd o⟩;rw [List.getElem?_toArray,Ue _ _ _ _ a,qr (by rw [g];omega),show i * es + l - i * es = l by omega];grind
    · rw [qq b] at f;obtain ⟨u,c,y,t⟩:=q j x l d f hd;refine ⟨u,c,?_,t⟩;rw [List.getElem?_toArray,Ue _ _ _ _ a,qq ?_]
      · grind
      · rw [g];intro o;exact b ((qip (by have:=Kc hd;have:=r j x f;omega)).1 o).symm
theorem qk1 {w : World} {nx es : Nat} : ∀ (f : List (Nat × V)) (xs : List (Nat × Value)) (l : List (Nat × List V)) (cs c : List (List V)) (C : Array Value),
    f.length = xs.length→(∀ (k : Nat) (i : Nat) (v : V),f[k]? = some (i,v)→∃ x,xs[k]? = some (i,x)∧RelV w Z inj nx v x)→
    l.length = f.length→(∀ (k : Nat) (i : Nat) (v : V),f[k]? = some (i,v)→(cellsOf v).length = es∧(cellsOf v).all Kh = true∧l[k]? = some (i,cellsOf v))→
    ERel w Z inj nx es cs C→q3x cs l = some c→∃ n,Instr.fill (fun i=>some (i * es,es)) C xs = some n∧ERel w Z inj nx es c n∧c.length = cs.length
  | [],xs,l,cs,c,C,h1,_,h3,_,h5,h6=>by
    have : xs = []:=by cases xs <;> simp_all
    have : l = []:=by cases l <;> simp_all
    subst_vars
    simp [q3x] at h6;subst h6
    exact ⟨C,by simp [Instr.fill],h5,rfl⟩
  | (i,v)::f,xs,l,cs,c,C,h1,h2,h3,h4,h5,h6=>by
    match xs,l,h1,h3 with
    | (i',x)::xs,(o',ys)::l,h1,h3=>
      obtain ⟨x',j,hr⟩:=h2 0 i v rfl
      simp at j;obtain ⟨rfl,rfl⟩:=j
      obtain ⟨u,s,g⟩:=h4 0 i' v rfl
      simp at g;obtain ⟨rfl,rfl⟩:=g
      obtain ⟨z,t,q3⟩:=qbr hr s
      simp only [q3x] at h6
      split at h6
      · rename_i d
        obtain ⟨n,p,m,h⟩:=qk1 f xs l (cs.set o' (cellsOf v)) c (splice C.toList (o' * es) x.cells.toList).toArray (by simpa using h1)
          (fun k i v r=>by obtain ⟨x,q⟩:=h2 (k + 1) i v (by simpa using r);exact ⟨x,by simpa using q⟩) (by simpa using h3)
          (fun k i v r=>by obtain ⟨a,b,q⟩:=h4 (k + 1) i v (by simpa using r);exact ⟨a,b,by simpa using q⟩)
          (h5.set ⟨z,t⟩ u s d) h6
        refine ⟨n,?_,m,by simpa using h⟩
        have y : o' * es + es≤C.size:=by
          rw [h5.1];have:=Nat.mul_le_mul_right es (show o' + 1≤cs.length from d);rw [Nat.add_mul] at this;omega
        have o : x.cells.size = es:=by omega
        simp only [Instr.fill,o]
        have : ¬ ((decide (es≠es) || decide (o' * es + es > C.size)) = true):=by simp;omega
        rw [qq (by simpa using this)]
        rw [qk9 x.cells C (o' * es) q0]
        exact p
      · simp at h6
theorem qve {t : TypeId} {i : TI} {len : Nat} {g : Array (Nat × Operand)} {s : List (Nat × V)} {l : List (Nat × List V)} {xs : List (List V)} (h : RelS w Z inj st a Ds) (ht : tiOf P t = some i) (hv : Je st.ev g.toList = some s)
    (hl : elems i.esize s = some l) (hk : i.kind = .slice) (ad : len * i.esize≤16777216) (hf : q3x (List.replicate len (i.ezero.map .d)) l = some xs) :
    Kg st (st.new (q6c i.esize xs)) (.hs st.nx i.esize 0 len) w Z inj ((do pure (Next.value (← Instr.buildSlice t len (g.map fun (i,x)=>(i,a.eval x)))) : Sem Next).run P w):=by
  obtain ⟨af,d,z,k⟩:=Yo ht;have b:=k.kind;unfold Zf at b;simp only [hk] at b;obtain ⟨e,ie,de,n,rfl,g1,g2,g3,g4,g5,g6,g7,g8,g9,_⟩:=b;obtain ⟨p1,p2⟩:=qjy h hv;obtain ⟨q1,q2⟩:=qjo hl;have ab : ∀ (k i : Nat) (v : V),s[k]? = some (i,v)→∃ x,(g.toList.map fun (x : Nat × Operand)=>(x.1,a.eval x.2))[k]? = some (i,x)∧RelV w Z inj st.nx v x:=by grind
  have aa : ERel w Z inj st.nx i.esize (List.replicate len (i.ezero.map .d)) ((Array.range (len * i.esize)).map (n.cells[· % n.cells.size]!)):=by
    refine ⟨qd,?_,?_⟩
    · grind
    · intro j x j' d m hd;rw [List.getElem?_replicate] at m;split at m <;> simp at m
      rename_i hj;subst m;simp only [List.getElem?_map,Y6] at hd;obtain ⟨d',y,rfl⟩:=hd;obtain ⟨c,hc,q,f⟩:=qhv (w:=w) (Z:=Z) g4 g5 hj y;exact ⟨f,c,hc,.d q⟩
  obtain ⟨r,hC,q,o⟩:=qk1 s (g.toList.map fun (x : Nat × Operand)=>(x.1,a.eval x.2)) l _ xs _ (by simp [p1]) ab q1 q2 aa hf;have ap : Instr.fill (fun j=>some (j * i.esize,i.esize)) ((Array.range (len * i.esize)).map (n.cells[· % n.cells.size]!)) (g.map fun (x : Nat × Operand)=>(x.1,a.eval x.2)).toList = some r:=by simpa using hC
  have p : (Instr.buildSlice t len (g.map fun (i,x)=>(i,a.eval x))).run P w = .ok (.slice (some ⟨w.heap.size,0,none⟩) len len) (w.alloc (.cells r e)):=by
    have hn : ¬ (len * i.esize > 2 ^ 24):=by omega
    have ae : (do let x ← newRow e r;pure (Value.slice (some x) len len) : Sem Value).run P w = .ok (.slice (some ⟨w.heap.size,0,none⟩) len len) (w.alloc (.cells r e)):=by simp [newRow]
    by_cases hz : len * i.esize = 0
    · simp only [Instr.buildSlice,Sem.run_bind,run_underlying k.und,Result.andThen_ok,Ze g1,g6];grind
    · simp only [Instr.buildSlice,Sem.run_bind,run_underlying k.und,Result.andThen_ok,Ze g1,g6];rw [qq hn,qq hz];have ak : (zeroValue e).run P w = .ok n w:=by simp [zeroValue,typeInfo,g1,g3]
      simp_all
  have u : xs.length = len:=by simpa using o
  refine .new h (Kf p) ?_ ?_
  · refine qn3 g7 (Kz _ _ _) (U3 _ _) q.2.1 ?_;intro j x j' d m hd;obtain ⟨h1,c,h2,h3⟩:=q.2.2 j x j' d m hd;exact ⟨h1,c,h2,qn7 h _ h3⟩
  · refine .hs q0 (Nat.le_refl _) rfl fun _=>⟨w.heap.size,0,Kz _ _ _,qd,?_⟩
    exact ⟨_,_,_,U3 _ _,by rw [q.1,u];simp⟩
end
end Go.Am
