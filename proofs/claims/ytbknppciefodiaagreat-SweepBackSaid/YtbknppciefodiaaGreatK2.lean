/- Am6 Am7 Am8 Am9 Am10 Am11 Am12 -/
import Derived.Test.YtbknppciefodiaaGreatK1
import Derived.Laws.MakeOwn
namespace Go.Am
open Go
variable {P : Program} {T : Tab}
theorem q93 {α β : Type} {f : α→Option β} : ∀ {l : List α} {r : List β},l.mapM f = some r→r.length = l.length∧∀ (i : Nat) (x : α),l[i]? = some x→∃ y,r[i]? = some y∧f x = some y
  | [],r,h=>by simp at h;subst h;simp
  | a::l,r,h=>by
    rw [List.mapM_cons] at h
    cases c : f a with
    | none=>simp [c] at h
    | some b=>
      cases g : l.mapM f with
      | none=>simp [c,g] at h
      | some s=>
        simp [c,g] at h
        subst h
        obtain ⟨j,m⟩:=q93 g
        refine ⟨by simp [j],?_⟩
        intro i x d
        cases i with
        | zero=>simp at d;subst d;exact ⟨b,qe,c⟩
        | succ i=>simp at d;obtain ⟨y,k⟩:=m i x d;exact ⟨y,by simpa using k⟩
theorem Yo {α β : Type} {l : List α} {r : List β} (a : r.length = l.length) {i : Nat} {y : β} (h : r[i]? = some y) : ∃ x,l[i]? = some x:=
  Zr (by have:=Ke h;omega)
def Zj (P : Program) (_t : TypeId) (i : TI) (d : TypeDesc) : Prop:=match i.kind with
  | .bool=>d = .bool∧i.size = 1
  | .int k=>d = .int k∧i.size = 1
  | .str=>d = .string∧i.size = 1
  | .ptr=>(∃ e,d = .pointer e)∧i.size = 1
  | .func=>(∃ a b c,d = .func a b c)∧i.size = 1
  | .slice=>∃ e ie de ze,d = .slice e∧P.info? e = some ie∧P.underlying e = some de∧ie.zero = some ze∧ze.cells.toList.mapM Zq = some i.ezero∧i.ezero.length = i.esize∧ie.size = i.esize∧i.esize≠0∧
      ie.bytes = i.ebytes∧i.ebytes≠0∧Kc de = i.eagg∧i.size = 1
  | .array=>∃ e ie de,d = .array i.len e∧P.info? e = some ie∧P.underlying e = some de∧ie.size = i.esize∧i.esize≠0∧Kc de = i.eagg
  | .map=>∃ kt e ie ze zd ks dk,d = .map kt e∧P.info? e = some ie∧ie.zero = some ze∧Zq ze = some zd∧Kh P 8 kt = some ks∧P.underlying kt = some dk∧i.keys = some ks∧i.ezero = [zd]∧i.eagg = Kc dk∧i.size = 1
  | .struct=>∃ fs,d = .struct fs∧(fs.toList.mapM fun f=>do
      let jf ← P.info? f.type
      let df ← P.underlying f.type
      if jf.size = 0 then none else some (f.offset,jf.size,Kc df)) = some i.flds
structure TiOk (P : Program) (t : TypeId) (i : TI) (info : TypeInfo) (d : TypeDesc) (z : Value) : Prop where
  inf : P.info? t = some info
  und : P.underlying t = some d
  zero : info.zero = some z
  size : info.size = i.size
  pos : i.size≠0
  cells : z.cells.toList.mapM Zq = some i.zero
  len : i.zero.length = i.size
  agg : i.agg = Kc d
  kind : Zj P t i d
  eqs : ∀ ks,i.eqs = some ks→Kh P 8 t = some ks∧Kc d = true
  keys : ∀ ks,i.keys = some ks→i.kind = .map
theorem Yt {t : TypeId} {i : TI} (h : tiOf P t = some i) : ∃ g d z,TiOk P t i g d z:=by
  unfold tiOf at h
  cases l : P.info? t with
  | none=>simp [l] at h
  | some g=>
  cases m : P.underlying t with
  | none=>simp [l,m] at h
  | some d=>
  cases o : g.zero with
  | none=>simp [l,m,o] at h
  | some z=>
  cases q : z.cells.toList.mapM Zq with
  | none=>simp [l,m,o,q] at h
  | some zc=>
  simp only [l,m,o,q,Option.bind_eq_bind,qj] at h
  by_cases h5 : zc.length≠g.size∨g.size = 0
  · grind
  · rw [qp h5] at h
    have u : zc.length = g.size:=by omega
    have s : g.size≠0:=by omega
    refine ⟨g,d,z,?_⟩
    cases d <;> simp only [reduceCtorEq] at h
    case bool=>split at h <;> simp at h;subst h;rename_i hs;exact ⟨l,m,o,rfl,s,q,u,rfl,⟨rfl,hs⟩,qe,qe⟩
    case int k=>split at h <;> simp at h;subst h;rename_i hs;exact ⟨l,m,o,rfl,s,q,u,rfl,⟨rfl,hs⟩,qe,qe⟩
    case string=>split at h <;> simp at h;subst h;rename_i hs;exact ⟨l,m,o,rfl,s,q,u,rfl,⟨rfl,hs⟩,qe,qe⟩
    case pointer e=>split at h <;> simp at h;subst h;rename_i hs;exact ⟨l,m,o,rfl,s,q,u,rfl,⟨⟨_,rfl⟩,hs⟩,qe,qe⟩
    case func a b c=>split at h <;> simp at h;subst h;rename_i hs;exact ⟨l,m,o,rfl,s,q,u,rfl,⟨⟨_,_,_,rfl⟩,hs⟩,qe,qe⟩
    case slice e=>
      cases j : P.info? e with
      | none=>simp [j] at h
      | some ie=>
      cases r : P.underlying e with
      | none=>simp [j,r] at h
      | some de=>
      cases p : ie.zero with
      | none=>simp [j,r,p] at h
      | some ze=>
      cases v : ze.cells.toList.mapM Zq with
      | none=>simp [j,r,p,v] at h
      | some ezc=>
      simp only [j,r,p,v,qj] at h
      split at h
      · simp at h
      · rename_i hs
        simp at h;subst h
        exact ⟨l,m,o,rfl,s,q,u,rfl,⟨e,ie,de,ze,rfl,j,r,p,v,by show ezc.length = ie.size;omega,rfl,by show ie.size≠0;omega,rfl,by show ie.bytes≠0;omega,rfl,by show g.size = 1;omega⟩,by simp,by simp⟩
    case map kt e=>
      cases j : P.info? e with
      | none=>simp [j] at h
      | some ie=>
      cases p : ie.zero with
      | none=>simp [j,p] at h
      | some ze=>
      cases v : Zq ze with
      | none=>simp [j,p,v] at h
      | some zd=>
      cases w : Kh P 8 kt with
      | none=>simp [j,p,w] at h
      | some ks=>
      cases x : P.underlying kt with
      | none=>simp [j,p,w,x] at h
      | some dk=>
      simp only [j,p,v,w,x,qj] at h
      split at h
      · rename_i hs
        simp at h;subst h
        exact ⟨l,m,o,rfl,s,q,u,rfl,⟨kt,e,ie,ze,zd,ks,dk,rfl,j,p,v,w,x,rfl,rfl,rfl,hs⟩,qe,fun _ _=>rfl⟩
      · simp at h
    case array n e=>
      cases j : P.info? e with
      | none=>simp [j] at h
      | some ie=>
      cases r : P.underlying e with
      | none=>simp [j,r] at h
      | some de=>
      simp only [j,r,qj] at h
      split at h
      · simp at h
      · rename_i hs
        simp at h;subst h
        exact ⟨l,m,o,rfl,s,q,u,rfl,⟨e,ie,de,rfl,j,r,rfl,hs,rfl⟩,fun ks h=>⟨h,rfl⟩,qe⟩
    case struct fs=>
      cases j : (fs.toList.mapM fun f=>do
          let jf ← P.info? f.type
          let df ← P.underlying f.type
          if jf.size = 0 then none else some (f.offset,jf.size,Kc df)) with
      | none=>simp only [Option.bind_eq_bind] at j;simp only [j,Option.bind_none] at h;simp at h
      | some fl=>
        have y:=j
        simp only [Option.bind_eq_bind] at j
        simp only [j,qj] at h
        simp at h;subst h
        exact ⟨l,m,o,rfl,s,q,u,rfl,⟨fs,rfl,y⟩,fun ks h=>⟨h,rfl⟩,qe⟩
section
variable {w : World} {Z : Nat→Prop} {inj : Inj} {nx : Nat}
theorem qet {v : Value} {d : DV} (h : Zq v = some d) : RelD w Z d v∧Yj d = true∧v.oneCell' = true:=by
  unfold Zq at h
  split at h <;> simp at h <;> subst h
  · exact ⟨.int _ _,rfl,rfl⟩
  · exact ⟨.bool _,rfl,rfl⟩
  · exact ⟨.str _,rfl,rfl⟩
  · exact ⟨.nilp,rfl,rfl⟩
  · exact ⟨.nilsl,rfl,rfl⟩
  · exact ⟨.nilf,rfl,rfl⟩
  · exact ⟨.nilm,rfl,rfl⟩
theorem q8o {cs : Array Value} {ds : List DV} (h : cs.toList.mapM Zq = some ds) : ds.length = cs.size∧∀ (i : Nat) (d : DV),ds[i]? = some d→∃ c,cs[i]? = some c∧RelD w Z d c∧Yj d = true∧c.oneCell' = true:=by
  obtain ⟨b,g⟩:=q93 h
  refine ⟨by simpa using b,fun i d hd=>?_⟩
  obtain ⟨c,a⟩:=Yo b hd
  obtain ⟨y,f,j⟩:=g i c a
  rw [hd] at f;cases f
  exact ⟨c,by simpa using a,qet j⟩
theorem qqy {v : Value} {d : DV} (h : qbt v = some d) : RelD w Z d v:=by
  unfold qbt at h
  split at h
  · rename_i cs
    cases a : cs.toList.mapM Zq with
    | none=>simp [a] at h
    | some ds=>
      simp [a] at h;subst h
      obtain ⟨b,g⟩:=q8o (w:=w) (Z:=Z) a
      refine .agg b fun i d c hd f=>?_
      grind
  · exact (qet h).1
theorem Ka {st : AS} {a : Act} {Ds : List Nat} (h : RelS w Z inj st a Ds) {o : Operand} {v : V} (b : st.ev o = some v) : RelV w Z inj st.nx v (a.eval o):=by
  cases o with
  | tmp t=>
    obtain ⟨x,k,l⟩:=h.slots t v b
    simp only [Act.eval,Array.getD_eq_getD_getElem?,k,Option.getD_some];exact l
  | const c=>
    simp only [AS.ev] at b
    cases j : qbt c with
    | none=>simp [j] at b
    | some d=>simp [j] at b;subst b;exact .d (qqy j)
  | func f=>
    simp only [AS.ev] at b;cases b
    exact .d (.fn qe qe)
  | global g=>simp [AS.ev] at b
theorem q57 {a : List V} {ds : List DV} (h : allD a = some ds) : a = ds.map .d:=by
  induction a generalizing ds with
  | nil=>simp [allD] at h;subst h;rfl
  | cons v r ih=>
    cases v <;> simp only [allD,reduceCtorEq] at h
    grind
theorem qe4 (ds : List DV) : allD (ds.map .d) = some ds:=by
  induction ds with
  | nil=>rfl
  | cons d r ih=>simp [allD,ih]
theorem qg9 {d : V} {c : Value} (h : RelV w Z inj nx d c) (a : Kk d = true) : c.oneCell' = true:=by
  cases h with
  | d h=>cases h <;> simp_all [Kk,Yj,Value.oneCell']
  | _=>simp_all [Kk,Value.oneCell']
theorem qq1 {c : Value} (h : c.oneCell' = true) : c.cells = #[c]:=by cases c <;> simp_all [Value.oneCell',Value.cells]
theorem qbs {v : V} {x : Value} (h : RelV w Z inj nx v x) (f : (cellsOf v).all Kk = true) :
    (cellsOf v).length = x.cells.size∧(∀ (i : Nat) (d : V) (c : Value),(cellsOf v)[i]? = some d→x.cells[i]? = some c→RelV w Z inj nx d c)∧∀ c∈x.cells.toList,c.oneCell' = true:=by
  have fin : ∀ (l : List V) (cs : Array Value),l.length = cs.size→(∀ (i : Nat) (d : V) (c : Value),l[i]? = some d→cs[i]? = some c→RelV w Z inj nx d c)→l.all Kk = true→∀ c∈cs.toList,c.oneCell' = true:=by
    intro l cs k j g c r
    obtain ⟨i,hi,rfl⟩:=List.mem_iff_getElem.1 r
    simp at hi
    have m : l[i]? = some l[i]:=List.getElem?_eq_getElem q0
    have n : cs[i]? = some cs[i]:=Array.getElem?_eq_getElem hi
    have:=qg9 (j i _ _ m n) (List.all_eq_true.1 g _ (Kv _))
    grind
  have one : ∀ {v : V} {x : Value},RelV w Z inj nx v x→cellsOf v = [v]→(cellsOf v).all Kk = true→(cellsOf v).length = x.cells.size∧(∀ (i : Nat) (d : V) (c : Value),(cellsOf v)[i]? = some d→x.cells[i]? = some c→RelV w Z inj nx d c)∧∀ c∈x.cells.toList,c.oneCell' = true:=by
    intro v x h q g
    rw [q] at g ⊢
    have m : Kk v = true:=by simpa using g
    have n:=qg9 h m
    rw [qq1 n]
    grind
  cases h with
  | agg k j=>exact ⟨k,j,fin _ _ k j f⟩
  | d h=>
    cases h with
    | agg k j=>
      have m : (cellsOf (V.d (.agg ‹List DV›))).length = (Value.agg ‹Array Value›).cells.size:=by simpa [cellsOf,Value.cells] using k
      have n : ∀ (i : Nat) (d : V) (c : Value),(cellsOf (V.d (.agg ‹List DV›)))[i]? = some d→(Value.agg ‹Array Value›).cells[i]? = some c→RelV w Z inj nx d c:=by
        intro i d c hd f
        simp only [cellsOf,List.getElem?_map,Y5] at hd
        obtain ⟨p,o,rfl⟩:=hd
        exact .d (j i p c o f)
      grind
    | int=>exact one (.d (.int _ _)) rfl f
    | bool=>exact one (.d (.bool _)) rfl f
    | str=>exact one (.d (.str _)) rfl f
    | tup k j=>exact one (.d (.tup k j)) rfl f
    | fn k j=>exact one (.d (.fn k j)) rfl f
    | nilsl=>exact one (.d .nilsl) rfl f
    | slnil=>exact one (.d (.slnil _)) rfl f
    | slemp=>exact one (.d (.slemp _ _)) rfl f
    | sl a b c d e=>exact one (.d (.sl a b c d e)) rfl f
    | nilp=>exact one (.d .nilp) rfl f
    | nilf=>exact one (.d .nilf) rfl f
    | nilm=>exact one (.d .nilm) rfl f
    | box a b c=>exact one (.d (.box a b c)) rfl f
  | tup k j=>exact one (.tup k j) rfl f
  | fn k j=>exact one (.fn k j) rfl f
  | ref a b=>exact one (.ref a b) rfl f
  | dref a b c=>exact one (.dref a b c) rfl f
  | hsnil a=>exact one (.hsnil a) rfl f
  | hs a b c d=>exact one (.hs a b c d) rfl f
  | yld a b=>exact one (.yld a b) rfl f
  | mp a b=>exact one (.mp a b) rfl f
  | dead v=>simp [cellsOf,Kk] at f
theorem qg1 {cs : List V} {xs : Array Value} (a : cs.length = xs.size) (h : ∀ (i : Nat) (d : V) (c : Value),cs[i]? = some d→xs[i]? = some c→RelV w Z inj nx d c) : RelV w Z inj nx (q5t cs) (.agg xs):=by
  unfold q5t
  split
  · rename_i ds hd
    have:=q57 hd;subst this
    refine .d (.agg (by simpa using a) fun i d c b f=>?_)
    have:=h i (.d d) c (by simp [b]) f
    cases this with | d h=>exact h
  · exact .agg a h
def qoz (w : World) (Z : Nat→Prop) (inj : Inj) (nx : Nat) (v : V) : Bool→List Value→Prop
  | true,xs=>RelV w Z inj nx v (.agg xs.toArray)
  | false,[x]=>RelV w Z inj nx v x
  | false,_=>False
theorem qlx {ag : Bool} {cs : List V} {v : V} {xs : List Value} (hp : pack ag cs = some v) (a : cs.length = xs.length) (h : ∀ (i : Nat) (d : V) (c : Value),cs[i]? = some d→xs[i]? = some c→RelV w Z inj nx d c) :
    qoz w Z inj nx v ag xs:=by
  cases ag with
  | true=>
    simp only [pack,Option.some.injEq] at hp;subst hp
    exact qg1 (by simpa using a) (fun i d c b f=>h i d c b (by simpa using f))
  | false=>
    match cs,xs,hp,a with
    | [c],[x],hp,_=>simp only [pack,Option.some.injEq] at hp;subst hp;exact h 0 _ _ rfl rfl
    | [c],[],_,a=>simp at a
    | [c],_::_::_,_,a=>simp at a
theorem qgc (ag : Bool) (cs : List DV) : (q1v ag cs).map V.d = pack ag (cs.map .d):=by
  cases ag with
  | true=>simp [q1v,pack,q5t,qe4]
  | false=>match cs with
    | []=>rfl
    | [c]=>rfl
    | _::_::_=>rfl
theorem qo5 {α : Type} {cs r : List α} {j s : Nat} (h : sub cs j s = some r) : j + s≤cs.length∧r = (cs.drop j).take s:=by
  unfold sub at h;split at h <;> simp at h;exact ⟨‹_›,h.symm⟩
theorem qb1 {α : Type} {cs r : List α} {j s : Nat} (h : sub cs j s = some r) : r.length = s∧∀ (i : Nat) (x : α),r[i]? = some x→cs[j + i]? = some x∧i < s:=by
  obtain ⟨a,rfl⟩:=qo5 h
  grind
theorem Ju (b o j : Nat) : (⟨b,o,none⟩ : Addr).add j = ⟨b,o + j,none⟩:=by
  unfold Addr.add;split <;> simp_all
theorem qt5 {t : TypeId} {i : TI} {l : TypeInfo} {d : TypeDesc} {z : Value} (m : TiOk P t i l d z) {b o : Nat} {r : List V} {v : V} (hp : pack i.agg r = some v) (hr : r.length = i.size)
    (hc : ∀ (k : Nat) (x : V),r[k]? = some x→∃ c,w.cell? ⟨b,o + k,none⟩ = some c∧RelV w Z inj nx x c) :
    ∃ x,(Instr.loadAt t (.pointer (some ⟨b,o,none⟩))).run P w = .ok x w∧RelV w Z inj nx v x:=by
  have n : ∃ cs : List Value,cs.length = i.size∧∀ (k : Nat) (c : Value),cs[k]? = some c→w.cell? ⟨b,o + k,none⟩ = some c:=by
    refine ⟨(List.range i.size).map fun k=>(w.cell? ⟨b,o + k,none⟩).getD undef,qe,?_⟩
    intro k c y
    have u : k < i.size:=by have:=Ke y;simpa using this
    obtain ⟨x,hx⟩:=Zr (xs:=r) (i:=k) q0
    grind
  obtain ⟨cs,p,a⟩:=n
  have h : ∀ (i : Nat) (d : V) (c : Value),r[i]? = some d→cs[i]? = some c→RelV w Z inj nx d c:=by grind
  have f:=qlx hp (by omega : r.length = cs.length) h
  have g : (isAgg t).run P w = .ok i.agg w:=by
    rw [m.agg]
    simp only [isAgg,Sem.run_bind,run_underlying m.und,Result.andThen_ok]
    cases d <;> rfl
  cases hb : i.agg with
  | true=>
    rw [hb] at f
    refine ⟨.agg cs.toArray,?_,f⟩
    have s:=run_loadCells_list (P:=P) w ⟨b,o,none⟩ cs (fun j v q=>by rw [Ju];exact a j v q)
    simp [Instr.loadAt,Instr.sureAddr,loadVar,g,hb,sizeOf,typeInfo,m.inf,m.size,← p,s]
  | false=>
    rw [hb] at f
    match cs,p,a,f with
    | [x],_,a,f=>
      refine ⟨x,?_,f⟩
      have:=a 0 x rfl
      simp only [Nat.add_zero] at this
      simp [Instr.loadAt,Instr.sureAddr,loadVar,g,hb,this]
end
end Go.Am
namespace Go.Am
open Go
variable {P : Program} {T : Tab}
def Kj (st st1 : AS) (v : V) (w : World) (Z : Nat→Prop) (inj : Inj) (r : Result Next) : Prop:=
  ∃ x w' inj',(r = .ok (.value x) w'∨(r = .ok .skip w'∧x = undef))∧RelV w' Z inj' st1.nx v x∧RelH w' Z inj' st1.hp st1.nx∧Ext w Z inj st.hp w' Z inj' st1.hp st.nx∧st1.sl = st.sl∧st.nx≤st1.nx
section
variable {w : World} {Z : Nat→Prop} {inj : Inj} {st : AS} {a : Act} {Ds : List Nat}
theorem Kj.quiet {v : V} {x : Value} {r : Result Next} (h : RelS w Z inj st a Ds) (c : r = .ok (.value x) w) (b : RelV w Z inj st.nx v x) : Kj st st v w Z inj r:=
  ⟨x,w,inj,.inl c,b,h.heap,.refl,rfl,Nat.le_refl _⟩
theorem Ki {s : Sem Value} {x : Value} {w' : World} (h : s.run P w = .ok x w') : (do pure (Next.value (← s)) : Sem Next).run P w = .ok (.value x) w':=by
  simp [h]
theorem Kj.new {v : V} {x : Value} {r : Result Next} {o : Obj} {blk : Blk} (h : RelS w Z inj st a Ds) (c : r = .ok (.value x) (w.alloc o))
    (hb : RelB (w.alloc o) Z (upd inj st.nx (some (w.heap.size,0))) (st.nx + 1) st.nx blk)
    (d : RelV (w.alloc o) Z (upd inj st.nx (some (w.heap.size,0))) (st.nx + 1) v x) (b : Unfr o:=by first | exact rfl | exact trivial) : Kj st (st.new blk) v w Z inj r:=
  ⟨x,_,_,.inl c,d,h.heap.new o blk 0 hb,Ext.new h.heap o blk 0 b,rfl,by simp [AS.new]⟩
theorem qmq {v : V} {x : Value} (h : RelS w Z inj st a Ds) (o : Obj) (b : RelV w Z inj st.nx v x) : RelV (w.alloc o) Z (upd inj st.nx (some (w.heap.size,0))) (st.nx + 1) v x:=
  b.mono (fun _ c=>Zz w o (h.heap.zs _ c)) (fun _ h=>h) (q2t w o) (fun _ d=>Yh _ _ d) q0
theorem qmm {w : World} {nx n es : Nat} {xs : List (List V)} {arr : Array Value} {ty : TypeId} {b : Nat} (q : es≠0) (hi : inj n = some (b,0)) (hb : w.heap[b]? = some (.cells arr ty (0,0)))
    (t : ∀ (i : Nat) (x : List V),xs[i]? = some x→x.length = es)
    (h : ∀ (i : Nat) (x : List V) (j : Nat) (d : V),xs[i]? = some x→x[j]? = some d→Kk d = true∧∃ c,arr[i * es + j]? = some c∧RelV w Z inj nx d c) : RelB w Z inj nx n (q5u es xs):=by
  unfold q5u
  split
  · rename_i ys u
    obtain ⟨r,s⟩:=q93 u
    refine ⟨q,?_,.inr ⟨b,0,arr,ty,hi,hb,?_⟩⟩
    · intro i y a
      obtain ⟨x,g⟩:=Yo r a
      obtain ⟨v,f,hd⟩:=s i x g
      rw [a] at f;cases f
      have:=t i x g
      rw [q57 hd] at this;simpa using this
    · intro i y j d a m
      obtain ⟨x,g⟩:=Yo r a
      obtain ⟨v,f,hd⟩:=s i x g
      rw [a] at f;cases f
      have l:=q57 hd
      obtain ⟨k,c,o,p⟩:=h i x j (.d d) g (by rw [l];simp [m])
      refine ⟨k,c,by simpa using o,?_⟩
      cases p with | d h=>exact h
  · refine ⟨q,t,.inr ⟨b,0,arr,ty,hi,hb,?_⟩⟩
    intro i x j d g hd
    obtain ⟨k,c,o,p⟩:=h i x j d g hd
    exact ⟨k,c,by simpa using o,p⟩
theorem qlt {o : Operand} {v : V} (h : RelS w Z inj st a Ds) (b : st.ev o = some v) {r : Result Next} (c : r = .ok (.value (a.eval o)) w) : Kj st st v w Z inj r:=
  .quiet h c (Ka h b)
theorem quf {t : TypeId} {i : TI} (h : RelS w Z inj st a Ds) (o : tiOf P t = some i) :
    Kj st (st.new (.dat i.size [i.zero])) (.ref st.nx i.size 0 0) w Z inj ((do pure (Next.value (← Instr.alloc t true (.tuple #[]))) : Sem Next).run P w):=by
  obtain ⟨m,d,z,k⟩:=Yt o
  have g : (Instr.alloc t true (.tuple #[])).run P w = .ok (.pointer (some ⟨w.heap.size,0,none⟩)) (w.alloc (.cells z.cells t)):=by
    simp [Instr.alloc,zeroValue,typeInfo,k.inf,k.zero,newVar,newRow]
  obtain ⟨s,r⟩:=q8o (w:=w.alloc (.cells z.cells t)) (Z:=Z) k.cells
  refine .new h (Ki g) ?_ ?_
  · refine ⟨k.pos,?_,.inr ⟨w.heap.size,0,z.cells,t,Y4 _ _ _,Jv _ _,?_⟩⟩
    · intro l x f
      cases l with
      | zero=>simp at f;subst f;exact k.len
      | succ n=>simp at f
    · intro l x j d f hd
      cases l with
      | zero=>
        simp at f;subst f
        obtain ⟨c,p,q,b,_⟩:=r j d hd
        exact ⟨b,c,by simpa using p,q⟩
      | succ n=>simp at f
  · have:=RelV.ref (w:=w.alloc (.cells z.cells t)) (Z:=Z) (inj:=upd inj st.nx (some (w.heap.size,0))) (nx:=st.nx + 1) (n:=st.nx) (es:=i.size) (i:=0) (j:=0) q0 (Y4 _ _ _)
    simpa using this
theorem quj {t : TypeId} {i : TI} {o : Operand} {v : V} (h : RelS w Z inj st a Ds) (s : tiOf P t = some i) (u : st.ev o = some v) (hl : (cellsOf v).length = i.size) (q : (cellsOf v).all Kk = true) :
    Kj st (st.new (q5u i.size [cellsOf v])) (.ref st.nx i.size 0 0) w Z inj ((do pure (Next.value (← Instr.box t (a.eval o))) : Sem Next).run P w):=by
  obtain ⟨r,d,z,k⟩:=Yt s
  have f:=Ka h u
  have l : (Instr.box t (a.eval o)).run P w = .ok (.pointer (some ⟨w.heap.size,0,none⟩)) (w.alloc (.cells (a.eval o).cells t)):=by
    simp [Instr.box,newVar,newRow]
  have m:=qmq h (.cells (a.eval o).cells t) f
  obtain ⟨h1,y,_⟩:=qbs m q
  refine .new h (Ki l) ?_ ?_
  · refine qmm (b:=w.heap.size) (arr:=(a.eval o).cells) (ty:=t) k.pos (Y4 _ _ _) (Jv _ _) ?_ ?_
    · intro p x f
      cases p with
      | zero=>simp at f;subst f;exact hl
      | succ n=>simp at f
    · intro p x j d f hd
      cases p with
      | zero=>
        simp at f;subst f
        obtain ⟨c,g⟩:=Yg (xs:=(a.eval o).cells) (i:=j) (by have:=Ke hd;omega)
        exact ⟨List.all_eq_true.1 q _ (List.mem_of_getElem? hd),c,by simpa using g,y j d c hd g⟩
      | succ n=>simp at f
  · have:=RelV.ref (w:=w.alloc (.cells (a.eval o).cells t)) (Z:=Z) (inj:=upd inj st.nx (some (w.heap.size,0))) (nx:=st.nx + 1) (n:=st.nx) (es:=i.size) (i:=0) (j:=0) q0 (Y4 _ _ _)
    simpa using this
theorem q27 {α : Type} (cs ys : List α) (o : Nat) (h : o + ys.length≤cs.length) : (splice cs o ys).length = cs.length:=by simp [splice];omega
theorem U5 {α : Type} (cs ys : List α) (o j : Nat) (h : o + ys.length≤cs.length) : (splice cs o ys)[j]? = if o≤j∧j < o + ys.length then ys[j - o]? else cs[j]?:=by
  have e : (cs.take o).length = o:=by simp;omega
  by_cases a : j < o
  · rw [qp q0,splice,List.append_assoc,List.getElem?_append_left q0,List.getElem?_take,qq a]
  · by_cases b : j < o + ys.length
    · rw [qq q0,splice,List.append_assoc,List.getElem?_append_right q0,e,List.getElem?_append_left q0]
    · rw [qp q0,splice,List.getElem?_append_right (by simp;omega),List.getElem?_drop]
      congr 1
      rw [List.length_append,e];omega
theorem qju (off : Nat) : ∀ (l : List Value) (s : Nat) (cs : Array Value),off + s + l.length≤cs.size→
    ((l.zipIdx s).foldl (fun (cs : Array Value) (x : Value × Nat)=>cs.setIfInBounds (off + x.2) x.1) cs).size = cs.size∧
    ∀ j : Nat,((l.zipIdx s).foldl (fun (cs : Array Value) (x : Value × Nat)=>cs.setIfInBounds (off + x.2) x.1) cs)[j]? = if off + s≤j∧j < off + s + l.length then l[j - (off + s)]? else cs[j]?
  | [],s,cs,_=>by
    refine ⟨rfl,fun j=>?_⟩
    have : ¬ (off + s≤j∧j < off + s + ([] : List Value).length):=by simp
    rw [qp this];rfl
  | v::r,s,cs,h=>by
    obtain ⟨d,g⟩:=qju off r (s + 1) (cs.setIfInBounds (off + s) v) (by simp at h ⊢;omega)
    simp only [List.zipIdx_cons,List.foldl_cons]
    refine ⟨by rw [d];simp,fun j=>?_⟩
    rw [g j]
    simp only [List.length_cons] at h ⊢
    by_cases b : off + (s + 1)≤j∧j < off + (s + 1) + r.length
    · have a : off + s≤j∧j < off + s + (r.length + 1):=by omega
      rw [qq b,qq a,show j - (off + s) = (j - (off + (s + 1))) + 1 by omega,List.getElem?_cons_succ]
    · rw [qp b,Array.getElem?_setIfInBounds]
      by_cases c : off + s = j
      · have a : off + s≤j∧j < off + s + (r.length + 1):=by omega
        have f : j < cs.size:=by omega
        rw [qq c,qq a,qq q0,show j - (off + s) = 0 by omega]
        rfl
      · have a : ¬ (off + s≤j∧j < off + s + (r.length + 1)):=by omega
        rw [qp c,qp a]
theorem qjv (a cs : Array Value) (off : Nat) (h : off + a.size≤cs.size) :
    a.zipIdx.foldl (fun (cs : Array Value) (x : Value × Nat)=>cs.setIfInBounds (off + x.2) x.1) cs = (splice cs.toList off a.toList).toArray:=by
  rw [← Array.foldl_toList,Array.toList_zipIdx]
  obtain ⟨c,b⟩:=qju off a.toList 0 cs (by simpa using h)
  have hs:=q27 cs.toList a.toList off (by simpa using h)
  apply Array.ext'
  apply List.ext_getElem?
  intro j
  rw [Array.getElem?_toList,b j,U5 _ _ _ _ (by simpa using h)]
  simp
def LRel (w : World) (Z : Nat→Prop) (inj : Inj) (nx : Nat) (cs : List V) (xs : Array Value) : Prop:=
  cs.length = xs.size∧∀ (i : Nat) (d : V) (c : Value),cs[i]? = some d→xs[i]? = some c→RelV w Z inj nx d c
theorem LRel.splice {w : World} {nx : Nat} {cs ys : List V} {xs g : Array Value} {o : Nat} (h : LRel w Z inj nx cs xs) (k : LRel w Z inj nx ys g) (j : o + ys.length≤cs.length) :
    LRel w Z inj nx (Am.splice cs o ys) (Am.splice xs.toList o g.toList).toArray:=by
  have m:=h.1
  have l:=k.1
  have f : o + g.toList.length≤xs.toList.length:=by simp;omega
  refine ⟨by simp [q27 _ _ _ j,q27 _ _ _ f,h.1],fun i d c hd b=>?_⟩
  rw [U5 _ _ _ _ j] at hd
  rw [List.getElem?_toArray,U5 _ _ _ _ f] at b
  have e : g.toList.length = ys.length:=by simp;omega
  rw [e] at b
  split at hd
  · rename_i a
    rw [qq a] at b
    exact k.2 _ _ _ hd (by simpa using b)
  · rename_i a
    rw [qp a] at b
    exact h.2 _ _ _ hd (by simpa using b)
theorem qjl {c : List (Nat × Operand)} {b : List (Nat × V)} (h : RelS w Z inj st a Ds) (hp : Jc st.ev c = some b) :
    b.length = c.length∧∀ (k : Nat) (i : Nat) (v : V),b[k]? = some (i,v)→∃ o,c[k]? = some (i,o)∧RelV w Z inj st.nx v (a.eval o):=by
  induction c generalizing b with
  | nil=>simp [Jc] at hp;subst hp;simp
  | cons x r ih=>
    obtain ⟨i,o⟩:=x
    simp only [Jc] at hp
    cases d : st.ev o with
    | none=>simp [d] at hp
    | some v=>
      cases g : Jc st.ev r with
      | none=>simp [d,g] at hp
      | some l=>
        simp [d,g] at hp;subst hp
        obtain ⟨m,t⟩:=ih g
        refine ⟨by simp [m],fun k n q f=>?_⟩
        cases k with
        | zero=>simp at f;obtain ⟨rfl,rfl⟩:=f;exact ⟨o,qe,Ka h d⟩
        | succ k=>simp at f;obtain ⟨p,j,s⟩:=t k n q f;exact ⟨p,by simpa using j,s⟩
theorem q8w {os : List Operand} {g : List V} (h : RelS w Z inj st a Ds) (hp : evL st.ev os = some g) : LRel w Z inj st.nx g (os.map a.eval).toArray:=by
  induction os generalizing g with
  | nil=>simp [evL] at hp;subst hp;exact ⟨qe,qe⟩
  | cons o r ih=>
    simp only [evL] at hp
    cases f : st.ev o with
    | none=>simp [f] at hp
    | some v=>
      cases j : evL st.ev r with
      | none=>simp [f,j] at hp
      | some l=>
        simp [f,j] at hp;subst hp
        obtain ⟨m,n⟩:=ih j
        refine ⟨by simpa using m,fun k d c hd b=>?_⟩
        cases k with
        | zero=>simp at hd b;subst hd b;exact Ka h f
        | succ k=>simp at hd b;exact n k d c hd (by simpa using b)
theorem qf3 {w : World} {nx : Nat} (place : Nat→Option (Nat × Nat)) : ∀ (b : List (Nat × V)) (xs : List (Nat × Value)) (l : List (Nat × List V)) (cs a : List V) (C : Array Value),
    b.length = xs.length→(∀ (k : Nat) (i : Nat) (v : V),b[k]? = some (i,v)→∃ x,xs[k]? = some (i,x)∧RelV w Z inj nx v x)→
    l.length = b.length→(∀ (k : Nat) (i : Nat) (v : V),b[k]? = some (i,v)→∃ o s,place i = some (o,s)∧(cellsOf v).length = s∧(cellsOf v).all Kk = true∧l[k]? = some (o,cellsOf v))→
    LRel w Z inj nx cs C→q5c cs l = some a→∃ h,Instr.fill place C xs = some h∧LRel w Z inj nx a h
  | [],xs,l,cs,a,C,h1,_,h3,_,h5,h6=>by
    have : xs = []:=by cases xs <;> simp_all
    have : l = []:=by cases l <;> simp_all
    subst_vars
    simp [q5c] at h6;subst h6
    exact ⟨C,by simp [Instr.fill],h5⟩
  | (i,v)::b,xs,l,cs,a,C,h1,h2,h3,h4,h5,h6=>by
    match xs,l,h1,h3 with
    | (i',x)::xs,(o',ys)::l,h1,h3=>
      obtain ⟨x',d,r⟩:=h2 0 i v rfl
      simp at d;obtain ⟨rfl,rfl⟩:=d
      obtain ⟨o,s,hp,hl,y,f⟩:=h4 0 i' v rfl
      simp at f;obtain ⟨rfl,rfl⟩:=f
      obtain ⟨u,t,z⟩:=qbs r y
      simp only [q5c] at h6
      split at h6
      · rename_i c
        have j : x.cells.size = s:=by omega
        have n : ¬ (o' + x.cells.size > C.size):=by have:=h5.1;omega
        obtain ⟨h,p,g⟩:=qf3 place b xs l (splice cs o' (cellsOf v)) a (splice C.toList o' x.cells.toList).toArray (by simpa using h1)
          (fun k i v q=>by obtain ⟨x,m⟩:=h2 (k + 1) i v (by simpa using q);exact ⟨x,by simpa using m⟩) (by simpa using h3)
          (fun k i v q=>by obtain ⟨o,s,m⟩:=h4 (k + 1) i v (by simpa using q);exact ⟨o,s,by simpa using m⟩)
          (h5.splice ⟨u,t⟩ c) h6
        refine ⟨h,?_,g⟩
        simp only [Instr.fill,hp,j]
        have : ¬ ((decide (s≠s) || decide (o' + s > C.size)) = true):=by simp;omega
        rw [qp (by simpa using this)]
        rw [qjv x.cells C o' q0]
        exact p
      · simp at h6
end
end Go.Am
namespace Go.Am
open Go
variable {P : Program} {T : Tab}
section
variable {w : World} {Z : Nat→Prop} {inj : Inj} {nx : Nat}
theorem qmw {α β : Type} {f : α→Sem β} {g : α→β} : ∀ {l : List α},(∀ x∈l,(f x).run P w = .ok (g x) w)→(l.mapM f).run P w = .ok (l.map g) w
  | [],_=>by simp
  | x::r,h=>by
    have a:=h x qe
    have c:=qmw (l:=r) (fun y b=>h y (by simp [b]))
    simp [List.mapM_cons,a,c]
theorem qx8 {α β : Type} {f : α→Sem β} {g : α→β} {l : Array α} (h : ∀ x∈l.toList,(f x).run P w = .ok (g x) w) : (l.mapM f).run P w = .ok (l.toList.map g).toArray w:=by
  rw [Array.mapM_eq_mapM_toList,Sem.run_map,qmw h];rfl
theorem qjr {g : Array Field} {d : List (Nat × Nat × Bool)} (h : (g.toList.mapM fun f => do
      let a ← P.info? f.type
      let c ← P.underlying f.type
      if a.size = 0 then none else some (f.offset,a.size,Kc c)) = some d) :
    d.length = g.size∧∀ (i : Nat) (f : Field),g[i]? = some f→∃ a c,P.info? f.type = some a∧P.underlying f.type = some c∧a.size≠0∧d[i]? = some (f.offset,a.size,Kc c):=by
  obtain ⟨m,o⟩:=q93 h
  refine ⟨by simpa using m,fun i f p=>?_⟩
  obtain ⟨y,n,b⟩:=o i f (by simpa using p)
  cases j : P.info? f.type with
  | none=>simp [j] at b
  | some a=>
    cases l : P.underlying f.type with
    | none=>simp [j,l] at b
    | some c=>
      simp only [j,l,Option.bind_eq_bind,qj] at b
      split at b
      · simp at b
      · rename_i k
        simp at b;subst b
        exact ⟨a,c,rfl,rfl,k,n⟩
theorem qf6 {d : Array Field} {g : List (Nat × Nat × Bool)} (h : (d.toList.mapM fun f => do
      let a ← P.info? f.type
      let b ← P.underlying f.type
      if a.size = 0 then none else some (f.offset,a.size,Kc b)) = some g) {i off s : Nat} {ag : Bool} (hi : g[i]? = some (off,s,ag)) :
    ∃ f a b,d[i]? = some f∧P.info? f.type = some a∧P.underlying f.type = some b∧a.size = s∧s≠0∧f.offset = off∧Kc b = ag:=by
  obtain ⟨o,l⟩:=qjr h
  obtain ⟨f,j⟩:=Yg (xs:=d) (i:=i) (by have:=Ke hi;omega)
  obtain ⟨a,b,k,m,n,c⟩:=l i f j
  rw [hi] at c;simp at c
  obtain ⟨rfl,rfl,rfl⟩:=c
  exact ⟨f,a,b,j,k,m,rfl,n,rfl,rfl⟩
theorem qm4 {a : TI} : ∀ {c : List (Nat × V)} {l : List (Nat × List V)},placed a c = some l→l.length = c.length∧∀ (k i : Nat) (v : V),c[k]? = some (i,v)→∃ o s,
    (match a.kind with | .struct=>(a.flds[i]?).map fun f=>(f.1,f.2.1) | .array=>some (i * a.esize,a.esize) | _=>none) = some (o,s)∧(cellsOf v).length = s∧(cellsOf v).all Kk = true∧l[k]? = some (o,cellsOf v)
  | [],l,h=>by simp [placed] at h;subst h;simp
  | (i,v)::r,l,h=>by
    simp only [placed] at h
    split at h
    · rename_i o s l' q u
      split at h
      · rename_i d
        simp at h;subst h
        obtain ⟨g,w⟩:=qm4 u
        refine ⟨by simp [g],fun k m p b=>?_⟩
        cases k with
        | zero=>simp at b;obtain ⟨rfl,rfl⟩:=b;exact ⟨o,s,q,d.1,d.2,qe⟩
        | succ k=>simp at b;obtain ⟨n,j,t⟩:=w k m p b;exact ⟨n,j,by simpa using t⟩
      · simp at h
    · simp at h
theorem q140 {t : TypeId} {i : TI} {b : TypeInfo} {d : TypeDesc} {z : Value} (k : TiOk P t i b d z) : LRel w Z inj nx (i.zero.map .d) z.cells:=by
  obtain ⟨l,n⟩:=q8o (w:=w) (Z:=Z) k.cells
  refine ⟨by simpa using l,fun j d c hd h=>?_⟩
  simp only [List.getElem?_map,Y5] at hd
  obtain ⟨g,f,rfl⟩:=hd
  obtain ⟨o,a,m,_⟩:=n j g f
  rw [h] at a;cases a;exact .d m
theorem Zh {t : TypeId} {a : TypeInfo} (h : P.info? t = some a) : (sizeOf t).run P w = .ok a.size w:=by simp [sizeOf,typeInfo,h]
theorem q2s {t : TypeId} {d : TypeDesc} (h : P.underlying t = some d) : (isAgg t).run P w = .ok (Kc d) w:=by
  simp only [isAgg,Sem.run_bind,run_underlying h,Result.andThen_ok]
  cases d <;> rfl
theorem qm0 {t : TypeId} {a : TypeInfo} {d : TypeDesc} (s : P.info? t = some a) (p : P.underlying t = some d) {cs r : List V} {xs : Array Value} {off : Nat} {v : V} (l : LRel w Z inj nx cs xs)
    (hs : sub cs off a.size = some r) (hp : pack (Kc d) r = some v) : ∃ x,(part t xs off).run P w = .ok x w∧RelV w Z inj nx v x:=by
  obtain ⟨m,j⟩:=qb1 hs
  have y:=(qo5 hs).1
  have n:=l.1
  have g : ∀ (i : Nat) (d : V) (c : Value),r[i]? = some d→(xs.extract off (off + a.size)).toList[i]? = some c→RelV w Z inj nx d c:=by
    intro i d c hd h
    obtain ⟨f,u⟩:=j i d hd
    refine l.2 _ _ _ f ?_
    rw [Array.getElem?_toList,Array.getElem?_extract] at h
    split at h <;> first | exact h | simp at h
  have k : r.length = (xs.extract off (off + a.size)).toList.length:=by simp;omega
  have b:=qlx hp k g
  cases hb : Kc d with
  | true=>
    rw [hb] at b
    refine ⟨.agg (xs.extract off (off + a.size)),?_,by
      have q : RelV w Z inj nx v (.agg (xs.extract off (off + a.size)).toList.toArray):=b
      rwa [Array.toArray_toList] at q⟩
    simp [part,q2s p,hb,Zh s]
  | false=>
    rw [hb] at b hp
    match r,hp,m,j with
    | [c],hp,m,j=>
      simp only [pack,Option.some.injEq] at hp;subst hp
      have f:=(j 0 c rfl).1
      simp only [Nat.add_zero] at f
      obtain ⟨x,o⟩:=Yg (xs:=xs) (i:=off) (by have:=Ke f;omega)
      exact ⟨x,by simp [part,q2s p,hb,o],l.2 _ _ _ f o⟩
end
section
variable {w : World} {Z : Nat→Prop} {inj : Inj} {st : AS} {a : Act} {Ds : List Nat}
theorem quk {t : TypeId} {i : TI} {g : Array (Nat × Operand)} {u : List (Nat × V)} {l : List (Nat × List V)} {cs : List V} (h : RelS w Z inj st a Ds) (ht : tiOf P t = some i) (hv : Jc st.ev g.toList = some u)
    (ha : i.agg = true) (hl : placed i u = some l) (hf : q5c (i.zero.map .d) l = some cs) :
    Kj st st (q5t cs) w Z inj ((do pure (Next.value (← Instr.build t (g.map fun (i,x)=>(i,a.eval x)))) : Sem Next).run P w):=by
  obtain ⟨aw,d,z,k⟩:=Yt ht
  obtain ⟨p1,p2⟩:=qjl h hv
  obtain ⟨q1,q2⟩:=qm4 hl
  have hz:=q140 (w:=w) (Z:=Z) (inj:=inj) (nx:=st.nx) k
  have q : ∀ (k i : Nat) (v : V),u[k]? = some (i,v)→∃ x,(g.toList.map fun (x : Nat × Operand)=>(x.1,a.eval x.2))[k]? = some (i,x)∧RelV w Z inj st.nx v x:=by
    intro k i v hk
    obtain ⟨o,ho,m⟩:=p2 k i v hk
    exact ⟨a.eval o,by simp only [List.getElem?_map,ho];rfl,m⟩
  have aa : (zeroValue t).run P w = .ok z w:=by simp [zeroValue,typeInfo,k.inf,k.zero]
  have b:=k.kind
  unfold Zj at b
  cases hk : i.kind <;> simp only [hk,TI.agg] at b ha
  case struct=>
    obtain ⟨fs,rfl,ab⟩:=b
    obtain ⟨_,aj⟩:=qjr ab
    obtain ⟨y,hC,m⟩:=qf3 (fun i=>((fs.toList.map fun (f : Field)=>(f.offset,((P.info? f.type).map (·.size)).getD 0)).toArray)[i]?) u (g.toList.map fun (x : Nat × Operand)=>(x.1,a.eval x.2)) l _ cs z.cells (by simp [p1]) q q1
      (fun k i' v c=>by
        obtain ⟨o,s,r,h2,h3,h4⟩:=q2 k i' v c
        simp only [hk,Y5] at r
        obtain ⟨⟨o',s',ag⟩,h5,h6⟩:=r
        simp at h6;obtain ⟨rfl,rfl⟩:=h6
        obtain ⟨f,jf,df,p,g2,_,g4,_,g6,_⟩:=qf6 ab h5
        exact ⟨o',s',by simp [p,g2,g4,g6],h2,h3,h4⟩) hz hf
    refine .quiet h (Ki (x:=.agg y) ?_) (qg1 m.1 m.2)
    have hm : (fs.mapM fun f=>do pure (f.offset,← sizeOf f.type) : Sem (Array (Nat × Nat))).run P w = .ok (fs.toList.map fun (f : Field)=>(f.offset,((P.info? f.type).map (·.size)).getD 0)).toArray w:=by
      refine qx8 fun f hf=>?_
      obtain ⟨j,hj⟩:=List.mem_iff_getElem?.1 hf
      obtain ⟨jf,df,p,_⟩:=aj j f (by simpa using hj)
      simp [Zh p,p]
    simp only [Instr.build,Sem.run_bind,aa,Result.andThen_ok,run_underlying k.und,hm]
    have n : Instr.fill (fun x=>((fs.toList.map fun (f : Field)=>(f.offset,((P.info? f.type).map (·.size)).getD 0)).toArray)[x]?) z.cells (g.map fun (x : Nat × Operand)=>(x.1,a.eval x.2)).toList = some y:=by simpa using hC
    simp only [n]
    rfl
  case array=>
    obtain ⟨e,ie,de,rfl,p,g2,g3,g4,_⟩:=b
    obtain ⟨y,hC,m⟩:=qf3 (fun j=>some (j * i.esize,i.esize)) u (g.toList.map fun (x : Nat × Operand)=>(x.1,a.eval x.2)) l _ cs z.cells (by simp [p1]) q q1
      (fun k i' v c=>by
        obtain ⟨o,s,r,h2,h3,h4⟩:=q2 k i' v c
        simp only [hk] at r
        exact ⟨o,s,r,h2,h3,h4⟩) hz hf
    refine .quiet h (Ki (x:=.agg y) ?_) (qg1 m.1 m.2)
    have n : Instr.fill (fun j=>some (j * i.esize,i.esize)) z.cells (g.map fun (x : Nat × Operand)=>(x.1,a.eval x.2)).toList = some y:=by simpa using hC
    simp only [Instr.build,Sem.run_bind,aa,Result.andThen_ok,run_underlying k.und,Zh p,g3,n]
    rfl
  all_goals simp at ha
theorem ql2 {t : TypeId} {i : TI} {pv v : V} {vp : Value} (h : RelH w Z inj st.hp st.nx) (ht : tiOf P t = some i) (hx : RelV w Z inj st.nx pv vp) (a : U0 st i pv = some v) :
    ∃ b o x,vp = .pointer (some ⟨b,o,none⟩)∧(Instr.loadAt t vp).run P w = .ok x w∧RelV w Z inj st.nx v x:=by
  obtain ⟨ao,d,z,k⟩:=Yt ht
  have fin : ∀ {b o : Nat} {r : List V} {pp : Value},pp = .pointer (some ⟨b,o,none⟩)→pack i.agg r = some v→r.length = i.size→
      (∀ (k : Nat) (x : V),r[k]? = some x→∃ c,w.cell? ⟨b,o + k,none⟩ = some c∧RelV w Z inj st.nx x c)→∃ b o x,pp = .pointer (some ⟨b,o,none⟩)∧(Instr.loadAt t pp).run P w = .ok x w∧RelV w Z inj st.nx v x:=by
    intro b o r pp p ah af hc
    obtain ⟨x,aa,ae⟩:=qt5 (P:=P) k ah af hc
    exact ⟨b,o,x,p,by rw [p];exact aa,ae⟩
  cases pv <;> simp only [U0,reduceCtorEq] at a
  case ref n es e j=>
    cases hx with
    | @ref _ _ _ _ b o hn hi=>
    cases hb : st.blk n with
    | none=>simp [hb] at a
    | some blk=>
      have hB:=(h.blk n blk hb).2
      cases blk with
      | dead=>simp [hb] at a
      | loop=>simp [hb] at a
      | mp=>simp [hb] at a
      | dat es' xs=>
        simp only [hb] at a
        split at a <;> try simp at a
        rename_i cs p l
        have p:=Nat.eq_of_beq_eq_true p
        subst p
        cases hs : sub cs j i.size with
        | none=>simp [hs] at a
        | some r=>
          simp only [hs] at a
          rw [qgc] at a
          obtain ⟨s,u⟩:=qb1 hs
          obtain ⟨b1,b2,f⟩:=hB
          rcases f with ⟨f,_⟩ | ⟨b',o',arr,ty,f,b4,b5⟩
          · subst f;simp at l
          · rw [hi] at f;cases f
            refine fin rfl a (by simpa using s) ?_
            intro k x q
            simp only [List.getElem?_map,Y5] at q
            obtain ⟨y,hy,rfl⟩:=q
            obtain ⟨m,_⟩:=u k y hy
            obtain ⟨_,c,h4,h5⟩:=b5 e cs (j + k) y l m
            exact ⟨c,by simp only [World.cell?,b4];rw [← h4];simp [Nat.add_assoc],.d h5⟩
      | cel es' xs=>
        simp only [hb] at a
        split at a <;> try simp at a
        rename_i cs p l
        have p:=Nat.eq_of_beq_eq_true p
        subst p
        cases hs : sub cs j i.size with
        | none=>simp [hs] at a
        | some r=>
          simp only [hs] at a
          obtain ⟨s,u⟩:=qb1 hs
          obtain ⟨b1,b2,f⟩:=hB
          rcases f with ⟨f,_⟩ | ⟨b',o',arr,ty,f,b4,b5⟩
          · subst f;simp at l
          · rw [hi] at f;cases f
            refine fin rfl a s ?_
            intro k x q
            obtain ⟨m,_⟩:=u k x q
            obtain ⟨_,c,h4,h5⟩:=b5 e cs (j + k) x l m
            exact ⟨c,by simp only [World.cell?,b4];rw [← h4];simp [Nat.add_assoc],h5⟩
  case dref cs j=>
    cases hx with
    | @dref _ _ b o hz hc hr=>
    cases hs : sub cs j i.size with
    | none=>simp [hs] at a
    | some r=>
      simp only [hs] at a
      rw [qgc] at a
      obtain ⟨s,u⟩:=qb1 hs
      refine fin rfl a (by simpa using s) ?_
      intro k x q
      simp only [List.getElem?_map,Y5] at q
      obtain ⟨y,hy,rfl⟩:=q
      obtain ⟨m,_⟩:=u k y hy
      obtain ⟨c,g⟩:=hc _ _ m
      exact ⟨c,by rw [← g,Nat.add_assoc],.d (hr _ _ _ m g)⟩
  case d x=>
    cases x <;> simp only [reduceCtorEq] at a
    rename_i cs
    cases hx with
    | d hx=>
    cases hx with
    | @box _ b o hz hc hr=>
    cases hs : sub cs 0 i.size with
    | none=>simp [hs] at a
    | some r=>
      simp only [hs] at a
      rw [qgc] at a
      obtain ⟨s,u⟩:=qb1 hs
      refine fin rfl a (by simpa using s) ?_
      intro k x q
      simp only [List.getElem?_map,Y5] at q
      obtain ⟨y,hy,rfl⟩:=q
      obtain ⟨m,_⟩:=u k y hy
      rw [Nat.zero_add] at m
      obtain ⟨c,g⟩:=hc _ _ m
      exact ⟨c,g,.d (hr _ _ _ m g)⟩
theorem quw {t : TypeId} {i : TI} {p : Operand} {pv v : V} (h : RelS w Z inj st a Ds) (d : tiOf P t = some i) (hp : st.ev p = some pv) (g : U0 st i pv = some v) :
    Kj st st v w Z inj ((do pure (Next.value (← Instr.loadAt t (a.eval p))) : Sem Next).run P w):=by
  obtain ⟨b,o,x,_,c,f⟩:=ql2 (P:=P) h.heap d (Ka h hp) g
  exact .quiet h (Ki c) f
end
end Go.Am
namespace Go.Am
open Go
variable {P : Program} {T : Tab}
theorem qej : ∀ {c d : List (Option IntKind)} {a b : List DV} {r : Bool},Kf (c ++ d) a b = some r→
    ∃ p q,Kf c (a.take c.length) (b.take c.length) = some p∧Kf d (a.drop c.length) (b.drop c.length) = some q∧r = (p && q)
  | [],d,a,b,r,h=>⟨true,r,by simp [Kf],by simpa using h,qe⟩
  | k::c,d,a,b,r,h=>by
    match a,b,h with
    | x::a,y::b,h=>
      simp only [List.cons_append,Kf] at h
      split at h <;> simp at h
      rename_i u v f j
      obtain ⟨p,q,g,l,m⟩:=qej j
      refine ⟨u && p,q,by simp [Kf,f,g],by simpa using l,?_⟩
      rw [← h,m,Bool.and_assoc]
    | [],_,h=>simp [Kf] at h
    | _::_,[],h=>simp [Kf] at h
theorem qbr : ∀ {ks : List (Option IntKind)} {a b : List DV} {r : Bool},Kf ks a b = some r→a.length = ks.length∧b.length = ks.length
  | [],[],[],_,_=>⟨rfl,rfl⟩
  | k::ks,x::a,y::b,r,h=>by
    simp only [Kf] at h
    split at h <;> simp at h
    rename_i d c
    have:=qbr c
    simp;omega
  | [],_::_,_,_,h=>by simp [Kf] at h
  | [],[],_::_,_,h=>by simp [Kf] at h
  | _::_,[],_,_,h=>by simp [Kf] at h
  | _::_,_::_,[],_,h=>by simp [Kf] at h
section
variable {w : World} {Z : Nat→Prop}
def DRel (w : World) (Z : Nat→Prop) (ds : List DV) (cs : Array Value) : Prop:=ds.length = cs.size∧∀ (i : Nat) (d : DV) (c : Value),ds[i]? = some d→cs[i]? = some c→RelD w Z d c
theorem DRel.extract {ds : List DV} {cs : Array Value} (h : DRel w Z ds cs) (o s : Nat) (hs : o + s≤ds.length) : DRel w Z ((ds.drop o).take s) (cs.extract o (o + s)):=by
  have b:=h.1
  refine ⟨by simp;omega,fun i d c hd a=>?_⟩
  rw [List.getElem?_take] at hd
  split at hd
  · rw [List.getElem?_drop] at hd
    rw [Array.getElem?_extract] at a
    split at a
    · exact h.2 _ _ _ hd a
    · simp at a
  · simp at hd
theorem qdt {t : TypeId} {d : TypeDesc} (h : P.underlying t = some d) : ∃ a,P.info? t = some a∧P.cellsOf t = a.size:=by
  cases hi : P.info? t with
  | none=>simp [Program.underlying,hi] at h
  | some a=>exact ⟨a,rfl,by simp [Program.cellsOf,hi]⟩
def EqOk (P : Program) (w : World) (Z : Nat→Prop) (k : Nat) (t : TypeId) (desc : TypeDesc) (ks : List (Option IntKind)) : Prop:=
  ∀ (xs ys : List DV) (X Y : Array Value) (r : Bool),DRel w Z xs X→DRel w Z ys Y→Kf ks xs ys = some r→
    (Kc desc = true→(Op.equalIn k t (.agg X) (.agg Y)).run P w = .ok r w)∧(Kc desc = false→ks.length = 1∧∀ x y,X[0]? = some x→Y[0]? = some y→(Op.equalIn k t x y).run P w = .ok r w)
def q8s (k : Nat) (X Y : Array Value) (f : Field) (_s : Option Bool × Unit) : Sem (ForInStep (Option Bool × Unit)):=
  if f.name ≠ "_" then do
    let __do_lift ← part f.type X f.offset
    let __do_lift_1 ← part f.type Y f.offset
    let __do_lift ← Op.equalIn k f.type __do_lift __do_lift_1
    if (!__do_lift) = true then pure (ForInStep.done (some false,())) else pure (ForInStep.yield (none,()))
  else pure (ForInStep.yield (none,()))
theorem qjk {k : Nat} {t : TypeId} {desc : TypeDesc} {b : TypeInfo} {ks : List (Option IntKind)} (h : EqOk P w Z k t desc ks) (f : P.underlying t = some desc) (hi : P.info? t = some b) (hs : b.size = ks.length)
    {xs ys : List DV} {X Y : Array Value} (q : DRel w Z xs X) (r : DRel w Z ys Y) {o : Nat} (j : o + ks.length≤xs.length) (g : o + ks.length≤ys.length) {p : Bool}
    (hp : Kf ks ((xs.drop o).take ks.length) ((ys.drop o).take ks.length) = some p) :
    ∃ s n,(part t X o).run P w = .ok s w∧(part t Y o).run P w = .ok n w∧(Op.equalIn k t s n).run P w = .ok p w:=by
  obtain ⟨v,l⟩:=h _ _ _ _ p (q.extract o ks.length j) (r.extract o ks.length g) hp
  cases a : Kc desc with
  | true=>
    exact ⟨.agg (X.extract o (o + ks.length)),.agg (Y.extract o (o + ks.length)),by simp [part,q2s f,a,Zh hi,hs],by simp [part,q2s f,a,Zh hi,hs],v a⟩
  | false=>
    obtain ⟨m,l⟩:=l a
    have z:=q.1
    have u:=r.1
    obtain ⟨x,d⟩:=Yg (xs:=X) (i:=o) q0
    obtain ⟨y,c⟩:=Yg (xs:=Y) (i:=o) q0
    refine ⟨x,y,by simp [part,q2s f,a,d],by simp [part,q2s f,a,c],l x y ?_ ?_⟩
    · rw [Array.getElem?_extract,m,qq (by have:=Zm d;omega)];exact d
    · rw [Array.getElem?_extract,m,qq (by have:=Zm c;omega)];exact c
theorem qjh (d : Nat) (k : Nat) (x : ∀ t desc ks,P.underlying t = some desc→Kh P d t = some ks→EqOk P w Z k t desc ks)
    (xs ys : List DV) (X Y : Array Value) (s : DRel w Z xs X) (u : DRel w Z ys Y) : ∀ (l : List Field) (o : Nat) (r : Bool) (ks : List (Option IntKind)),tile P (Kh P d) o l = some ks→o + ks.length≤xs.length→o + ks.length≤ys.length→
    Kf ks (xs.drop o) (ys.drop o) = some r→(forIn l ((none : Option Bool),()) (q8s k X Y) : Sem (Option Bool × Unit)).run P w = .ok (if r then (none,()) else (some false,())) w
  | [],o,r,ks,ht,_,_,hc=>by
    simp only [tile,Option.some.injEq] at ht;subst ht
    obtain ⟨h1,h2⟩:=qbr hc
    rw [List.eq_nil_of_length_eq_zero h1,List.eq_nil_of_length_eq_zero h2] at hc
    simp [Kf] at hc;subst hc
    simp
  | f::l,o,r,ks,ht,hlx,hly,hc=>by
    simp only [tile] at ht
    cases a : Kh P d f.type with
    | none=>simp [a] at ht
    | some ka=>
      simp only [a] at ht
      split at ht <;> try simp at ht
      rename_i c
      obtain ⟨rfl,z,aa⟩:=c
      cases b : tile P (Kh P d) (f.offset + ka.length) l with
      | none=>simp [b] at ht
      | some kb=>
        simp only [b,Option.some.injEq] at ht;subst ht
        simp only [List.length_append] at hlx hly
        obtain ⟨p,q,hp,v,m⟩:=qej hc
        rw [List.drop_drop,List.drop_drop] at v
        obtain ⟨h,g⟩ : ∃ h,P.underlying f.type = some h:=by
          cases hu : P.underlying f.type with
          | none=>cases d <;> simp [Kh,hu] at a
          | some h=>exact ⟨h,rfl⟩
        obtain ⟨jf,j,n⟩:=qdt g
        obtain ⟨vx,vy,g1,y,g3⟩:=qjk (x f.type h ka g a) g j q0 s u (o:=f.offset) q0 q0 hp
        rw [List.forIn_cons]
        simp only [q8s,qq z,Sem.run_bind,g1,y,g3,Result.andThen_ok]
        cases p with
        | false=>simp [m]
        | true=>
          have:=qjh d k x xs ys X Y s u l (f.offset + ka.length) q kb b q0 q0 v
          simp only [Bool.true_and] at m
          subst m
          simpa using this
def q8t (k : Nat) (e : TypeId) (n : Nat) (X Y : Array Value) (i : Nat) (_s : Option Bool × Unit) : Sem (ForInStep (Option Bool × Unit)):=do
  let __do_lift ← part e X (i * n)
  let __do_lift_1 ← part e Y (i * n)
  let __do_lift ← Op.equalIn k e __do_lift __do_lift_1
  if (!__do_lift) = true then pure (ForInStep.done (some false,())) else pure (ForInStep.yield (none,()))
theorem qji {k : Nat} {e : TypeId} {desc : TypeDesc} {b : TypeInfo} {a : List (Option IntKind)} (f : EqOk P w Z k e desc a) (g : P.underlying e = some desc) (hi : P.info? e = some b) (hs : b.size = a.length)
    {xs ys : List DV} {X Y : Array Value} (h : DRel w Z xs X) (j : DRel w Z ys Y) : ∀ (m s : Nat) (r : Bool),(s + m) * a.length≤xs.length→(s + m) * a.length≤ys.length→
    Kf (List.replicate m a).flatten (xs.drop (s * a.length)) (ys.drop (s * a.length)) = some r→(forIn (List.range' s m) ((none : Option Bool),()) (q8t k e b.size X Y) : Sem (Option Bool × Unit)).run P w = .ok (if r then (none,()) else (some false,())) w
  | 0,s,r,_,_,hc=>by
    simp only [List.replicate_zero,List.flatten_nil] at hc
    obtain ⟨t,v⟩:=qbr hc
    rw [List.eq_nil_of_length_eq_zero t,List.eq_nil_of_length_eq_zero v] at hc
    simp [Kf] at hc;subst hc
    simp
  | m + 1,s,r,hlx,hly,hc=>by
    rw [List.replicate_succ,List.flatten_cons] at hc
    obtain ⟨p,q,hp,c,d⟩:=qej hc
    rw [List.drop_drop,List.drop_drop] at c
    have n : s * a.length + a.length = (s + 1) * a.length:=by rw [Nat.add_mul];simp
    have e2 : (s + 1) * a.length + m * a.length = (s + (m + 1)) * a.length:=by rw [← Nat.add_mul];congr 1;omega
    obtain ⟨z,y,u,l,x⟩:=qjk f g hi hs h j (o:=s * a.length) q0 q0 hp
    rw [List.range'_succ,List.forIn_cons]
    simp only [q8t,hs,Sem.run_bind,u,l,x,Result.andThen_ok]
    cases p with
    | false=>simp [d]
    | true=>
      rw [n] at c
      have:=qji f g hi hs h j m (s + 1) q (by rw [Nat.add_mul];omega) (by rw [Nat.add_mul];omega) c
      simp only [Bool.true_and] at d
      subst d
      rw [hs] at this
      simpa using this
theorem qc0 : ∀ (d : Nat) (t : TypeId) (desc : TypeDesc) (ks : List (Option IntKind)),P.underlying t = some desc→Kh P d t = some ks→∀ k,d≤k→EqOk P w Z k t desc ks
  | 0,t,desc,ks,hu,hp,k,hk=>by simp [Kh] at hp
  | d + 1,t,desc,ks,hu,hp,k,hk=>by
    obtain ⟨k,rfl⟩ : ∃ k',k = k' + 1:=⟨k - 1,q0⟩
    intro xs ys X Y r u v c
    obtain ⟨s,p⟩:=qbr c
    simp only [Kh,hu] at hp
    cases desc <;> simp only [reduceCtorEq,Option.some.injEq] at hp
    case bool=>
      subst hp
      refine ⟨by simp [Kc],fun _=>⟨rfl,fun x y l j=>?_⟩⟩
      match xs,ys,s,p,c with
      | [a],[b],_,_,c=>
        have ra:=u.2 0 a x rfl l
        have rb:=v.2 0 b y rfl j
        simp only [Kf] at c
        cases a <;> cases b <;> simp only [q2e,reduceCtorEq] at c
        simp at c;subst c
        cases ra;cases rb;simp [Op.equalIn,run_underlying hu]
    case int k0=>
      subst hp
      refine ⟨by simp [Kc],fun _=>⟨rfl,fun x y l j=>?_⟩⟩
      match xs,ys,s,p,c with
      | [a],[b],_,_,c=>
        have ra:=u.2 0 a x rfl l
        have rb:=v.2 0 b y rfl j
        simp only [Kf] at c
        cases a <;> cases b <;> simp only [q2e,reduceCtorEq] at c
        split at c <;> simp at c
        rename_i m z
        split at m <;> simp at m
        rename_i ac
        obtain ⟨rfl,rfl⟩:=ac
        subst m c
        simp at z;subst z
        cases ra;cases rb;simp [Op.equalIn,run_underlying hu]
    case struct fs=>
      refine ⟨fun _=>?_,by simp [Kc]⟩
      split at hp
      · simp at hp
      · rename_i ad
        simp only [Op.equalIn,Sem.run_bind,run_underlying hu,Result.andThen_ok,run_program,ad,Bool.false_eq_true,if_false]
        have:=qjh (P:=P) (w:=w) (Z:=Z) d k (fun t desc ks m z=>qc0 d t desc ks m z k q0) xs ys X Y u v fs.toList 0 r ks hp q0 q0 (by simpa using c)
        rw [Array.forIn_toList] at this
        have e : (fun (f : Field) (_s : Option Bool × Unit)=>q8s k X Y f _s) = q8s k X Y:=rfl
        unfold q8s at this
        rw [this]
        cases r <;> simp
    case array n e=>
      refine ⟨fun _=>?_,by simp [Kc]⟩
      cases g : Kh P d e with
      | none=>simp [g] at hp
      | some a=>
        simp only [g] at hp
        split at hp
        · rename_i ai
          simp only [Option.some.injEq] at hp;subst hp
          obtain ⟨q,h⟩ : ∃ q,P.underlying e = some q:=by
            cases ae : P.underlying e with
            | none=>cases d <;> simp [Kh,ae] at g
            | some q=>exact ⟨q,rfl⟩
          obtain ⟨je,o,af⟩:=qdt h
          have ah : (List.replicate n a).flatten.length = n * a.length:=by simp
          have:=qji (qc0 d e q a h g k q0) h o q0 u v n 0 r (by rw [Nat.zero_add];omega) (by rw [Nat.zero_add];omega) (by simpa using c)
          simp only [Op.equalIn,Sem.run_bind,run_underlying hu,Result.andThen_ok,Zh o,Std.Legacy.Range.forIn_eq_forIn_range']
          have e : (fun (i : Nat) (_s : Option Bool × Unit)=>q8t k e je.size X Y i _s) = q8t k e je.size X Y:=rfl
          unfold q8t at this
          simp only [Std.Legacy.Range.size,Nat.sub_zero,Nat.add_sub_cancel,Nat.div_one]
          rw [this]
          cases r <;> simp
        · simp at hp
end
section
variable {w : World} {Z : Nat→Prop} {inj : Inj} {st : AS} {a : Act} {Ds : List Nat}
theorem qpm {op : BinOp} {k : IntKind} {x y : Int} {r : DV} (h : binI op k x y = some r) (hs : op≠.shl∧op≠.shr) : ∃ v,(∀ t,(binOp op t (.int k x) (.int k y)).run P w = .ok v w)∧RelD w Z r v:=by
  cases op <;> simp only [binI,reduceCtorEq,Option.some.injEq] at h <;> try (simp at hs;done)
  case add=>subst h;exact ⟨_,fun t=>by simp [binOp,Op.intArith],.int _ _⟩
  case sub=>subst h;exact ⟨_,fun t=>by simp [binOp,Op.intArith],.int _ _⟩
  case mul=>subst h;exact ⟨_,fun t=>by simp [binOp,Op.intArith],.int _ _⟩
  case quo=>split at h <;> simp at h;subst h;rename_i a;exact ⟨_,fun t=>by simp [binOp,Op.intDiv,a],.int _ _⟩
  case rem=>split at h <;> simp at h;subst h;rename_i a;exact ⟨_,fun t=>by simp [binOp,Op.intDiv,a],.int _ _⟩
  case and=>subst h;exact ⟨_,fun t=>by simp [binOp,Op.intBits],.int _ _⟩
  case or=>subst h;exact ⟨_,fun t=>by simp [binOp,Op.intBits],.int _ _⟩
  case xor=>subst h;exact ⟨_,fun t=>by simp [binOp,Op.intBits],.int _ _⟩
  case eql=>subst h;exact ⟨_,fun t=>by simp [binOp,Op.intCmp],.bool _⟩
  case neq=>subst h;exact ⟨_,fun t=>by simp [binOp,Op.intCmp],.bool _⟩
  case lss=>subst h;exact ⟨_,fun t=>by simp [binOp,Op.intCmp],.bool _⟩
  case leq=>subst h;exact ⟨_,fun t=>by simp [binOp,Op.intCmp],.bool _⟩
  case gtr=>subst h;exact ⟨_,fun t=>by simp [binOp,Op.intCmp],.bool _⟩
  case geq=>subst h;exact ⟨_,fun t=>by simp [binOp,Op.intCmp],.bool _⟩
theorem qn8 {op : BinOp} {k b : IntKind} {x y : Int} {r : DV} (h : q9n op k x y = some r) : ∃ v,(∀ t,(binOp op t (.int k x) (.int b y)).run P w = .ok v w)∧RelD w Z r v:=by
  unfold q9n at h
  split at h <;> try simp at h
  rename_i a
  cases op <;> simp only [reduceCtorEq,Option.some.injEq] at h
  case shl=>subst h;exact ⟨_,fun t=>by simp [binOp,Op.shift,a],.int _ _⟩
  case shr=>subst h;exact ⟨_,fun t=>by simp [binOp,Op.shift,a],.int _ _⟩
theorem q1f {op : BinOp} {t : TypeId} {x y : Operand} {u v : Value} (b : ∀ c,u≠.agg c) (a : u≠.nilIface) : (eqGuard op t x y u v).run P w = .ok () w:=by
  unfold eqGuard
  cases op <;> simp <;> cases u <;> simp_all
theorem qjf {op : BinOp} {t : TypeId} {x y : Operand} {u v : Array Value} (h : P.eqGuardType P.depth t = false) : (eqGuard op t x y (.agg u) (.agg v)).run P w = .ok () w:=by
  unfold eqGuard
  cases op <;> simp [h]
end
end Go.Am
namespace Go.Am
open Go
variable {P : Program} {T : Tab}
section
variable {w : World} {Z : Nat→Prop} {inj : Inj} {st : AS} {a : Act} {Ds : List Nat}
theorem qoj {a : TypeId → Option (List (Option IntKind))} {k : Nat} (c : ∀ t ks, a t = some ks → P.eqGuardType k t = false) : ∀ {l : List Field} {o : Nat} {ks}, tile P a o l = some ks → l.any (fun f => f.name != "_" && P.eqGuardType k f.type) = false
  | [],_,_,_=>rfl
  | f::r,o,ks,h=>by
    simp only [tile] at h
    cases hp : a f.type with
    | none=>simp [hp] at h
    | some ka=>
      simp only [hp] at h
      split at h <;> try simp at h
      cases b : tile P a (o + ka.length) r with
      | none=>simp [b] at h
      | some kb=>
        have:=qoj c b
        simp only [List.any_cons,this,c _ _ hp,Bool.and_false,Bool.or_false]
theorem qg5 : ∀ (d : Nat) (t : TypeId) (ks : List (Option IntKind)),Kh P d t = some ks→∀ k,d≤k→P.eqGuardType k t = false
  | 0,t,ks,h,k,hk=>by simp [Kh] at h
  | d + 1,t,ks,h,k,hk=>by
    obtain ⟨k,rfl⟩ : ∃ b,k = b + 1:=⟨k - 1,q0⟩
    simp only [Kh] at h
    simp only [Program.eqGuardType]
    cases c : P.underlying t with
    | none=>rfl
    | some desc=>
      cases desc <;> simp only [c,reduceCtorEq] at h <;> try rfl
      case array n e=>
        cases hp : Kh P d e with
        | none=>simp [hp] at h
        | some a=>exact qg5 d e a hp k q0
      case struct fs=>
        split at h <;> try simp at h
        have:=qoj (fun t ks hp=>qg5 d t ks hp k q0) h
        simp only []
        rw [← Array.any_toList];exact this
theorem qlr {op : BinOp} {t : TypeId} {i : TI} {x y : Operand} {p q : List DV} {ks : List (Option IntKind)} {r : Bool} {b : DV} (h : RelS w Z inj st a Ds) (s : tiOf P t = some i) (hx : st.ev x = some (.d (.agg p))) (hy : st.ev y = some (.d (.agg q)))
    (u : i.eqs = some ks) (v : Kf ks p q = some r) (m : (op = .eql∧b = .bool r)∨(op = .neq∧b = .bool (!r))) :
    Kj st st (.d b) w Z inj ((do pure (Next.value (← (do eqGuard op t x y (a.eval x) (a.eval y);binOp op t (a.eval x) (a.eval y) : Sem Value)) ) : Sem Next).run P w):=by
  obtain ⟨o,d,z,k⟩:=Yt s
  have g:=Ka h hx
  have j:=Ka h hy
  generalize a.eval x = vx at g ⊢
  generalize a.eval y = vy at j ⊢
  cases g with | d g=>cases g with | @agg _ X hl1 hr1=>
  cases j with | d j=>cases j with | @agg _ Y hl2 hr2=>
  obtain ⟨f,l⟩:=k.eqs ks u
  have n : P.eqGuardType P.depth t = false:=qg5 8 t ks f _ (by unfold Program.depth Made.depth;omega)
  have c:=(qc0 (w:=w) (Z:=Z) 8 t d ks k.und f Op.maxDepth (by unfold Op.maxDepth;omega) p q X Y r ⟨hl1,hr1⟩ ⟨hl2,hr2⟩ v).1 l
  rcases m with ⟨rfl,rfl⟩ | ⟨rfl,rfl⟩
  · exact .quiet h (Ki (x:=.bool r) (by simp [qjf n,binOp,Op.equal,c])) (.d (.bool _))
  · exact .quiet h (Ki (x:=.bool (!r)) (by simp [qjf n,binOp,Op.equal,c])) (.d (.bool _))
theorem qui {op : BinOp} {t : TypeId} {x y : Operand} {k l : IntKind} {p q : Int} {b : DV} (h : RelS w Z inj st a Ds) (s : st.ev x = some (.d (.int k p))) (hy : st.ev y = some (.d (.int l q)))
    (c : binD op (.int k p) (.int l q) = some b) :
    Kj st st (.d b) w Z inj ((do pure (Next.value (← (do eqGuard op t x y (a.eval x) (a.eval y);binOp op t (a.eval x) (a.eval y) : Sem Value)) ) : Sem Next).run P w):=by
  have j:=Ka h s
  have m:=Ka h hy
  generalize a.eval x = vx at j ⊢
  generalize a.eval y = vy at m ⊢
  cases j with | d j=>
  cases j
  cases m with | d m=>
  cases m
  have r:=q1f (P:=P) (w:=w) (op:=op) (t:=t) (x:=x) (y:=y) (u:=.int k p) (v:=.int l q) qe qe
  have key : ∃ v,(∀ t,(binOp op t (.int k p) (.int l q)).run P w = .ok v w)∧RelD w Z b v:=by
    unfold binD at c
    split at c
    · rename_i f g;cases f;cases g;exact qn8 c
    · rename_i f g;cases f;cases g;exact qn8 c
    · rename_i n n2 f g
      cases f;cases g
      split at c <;> try simp at c
      rename_i hk;subst hk
      exact qpm c ⟨fun e=>n e,fun e=>n2 e⟩
    · simp at c
  obtain ⟨v,o,z⟩:=key
  exact .quiet h (Ki (x:=v) (by simp [r,o])) (.d z)
theorem maxD : Op.maxDepth = 9999 + 1:=rfl
theorem qrg {t : TypeId} (h : P.underlying t = some .bool) (p q : Bool) : (Op.equal t (.bool p) (.bool q)).run P w = .ok (p == q) w:=by
  rw [Op.equal,maxD,Op.equalIn];simp only [Sem.run_bind,run_underlying h,Result.andThen_ok];rfl
theorem qjj {t e : TypeId} (h : P.underlying t = some (.slice e)) (a : Option Addr) (n c : Nat) : (Op.equal t (.slice none 0 0) (.slice a n c)).run P w = .ok a.isNone w:=by
  rw [Op.equal,maxD,Op.equalIn];simp only [Sem.run_bind,run_underlying h,Result.andThen_ok];rfl
theorem qrk {t e : TypeId} (h : P.underlying t = some (.slice e)) (a : Addr) (n c : Nat) : (Op.equal t (.slice (some a) n c) (.slice none 0 0)).run P w = .ok false w:=by
  rw [Op.equal,maxD,Op.equalIn];simp only [Sem.run_bind,run_underlying h,Result.andThen_ok];rfl
theorem qrh {t : TypeId} {x y z} (h : P.underlying t = some (.func x y z)) : (Op.equal t .nilFunc .nilFunc).run P w = .ok true w:=by
  rw [Op.equal,maxD,Op.equalIn];simp only [Sem.run_bind,run_underlying h,Result.andThen_ok];rfl
theorem qri {t : TypeId} {x y z} (h : P.underlying t = some (.func x y z)) (f g c) : (Op.equal t .nilFunc (.func f g c)).run P w = .ok false w:=by
  rw [Op.equal,maxD,Op.equalIn];simp only [Sem.run_bind,run_underlying h,Result.andThen_ok];rfl
theorem qrj {t : TypeId} {x y z} (h : P.underlying t = some (.func x y z)) (f g c) : (Op.equal t (.func f g c) .nilFunc).run P w = .ok false w:=by
  rw [Op.equal,maxD,Op.equalIn];simp only [Sem.run_bind,run_underlying h,Result.andThen_ok];rfl
theorem q3k {t : TypeId} {u v : Value} {r : Bool} (f : (Op.equal t u v).run P w = .ok r w) (a : ∀ k n,u≠.int k n) (c : ∀ k n,u≠.float k n) (b : ∀ k n m,u≠.complex k n m) (d : ∀ s,u≠.string s) :
    (binOp .eql t u v).run P w = .ok (.bool r) w∧(binOp .neq t u v).run P w = .ok (.bool (!r)) w:=by
  cases u <;> first | (exfalso;exact a _ _ rfl) | (exfalso;exact c _ _ rfl) | (exfalso;exact b _ _ _ rfl) | (exfalso;exact d _ rfl) | (constructor <;> (simp only [binOp];simp [f]))
theorem quh {op : BinOp} {t : TypeId} {i : TI} {x y : Operand} {p q : DV} {b : DV} (h : RelS w Z inj st a Ds) (ht : tiOf P t = some i) (hx : st.ev x = some (.d p)) (hy : st.ev y = some (.d q))
    (m : binE op i.kind p q = some b) :
    Kj st st (.d b) w Z inj ((do pure (Next.value (← (do eqGuard op t x y (a.eval x) (a.eval y);binOp op t (a.eval x) (a.eval y) : Sem Value)) ) : Sem Next).run P w):=by
  obtain ⟨aa,d,z,k⟩:=Yt ht
  have j:=Ka h hx
  have l:=Ka h hy
  generalize a.eval x = vx at j ⊢
  generalize a.eval y = vy at l ⊢
  cases j with | d j=>
  cases l with | d l=>
  have key : ∀ r,eqK i.kind p q = some r→(eqGuard op t x y vx vy).run P w = .ok () w∧(binOp .eql t vx vy).run P w = .ok (.bool r) w∧(binOp .neq t vx vy).run P w = .ok (.bool (!r)) w:=by
    intro r c
    have n:=k.kind
    unfold Zj at n
    unfold eqK at c
    split at c <;> simp at c <;> (rename_i s;simp only [s] at n)
    · subst c;obtain ⟨rfl,_⟩:=n;cases j;cases l
      exact ⟨q1f qe qe,q3k (qrg k.und _ _) qe qe qe qe⟩
    · subst c;cases j;cases l
      exact ⟨q1f qe qe,by simp only [binOp,Op.stringOp];rfl,by simp only [binOp,Op.stringOp];rfl⟩
    · subst c;obtain ⟨e,ie,de,v,rfl,_⟩:=n;cases j;cases l
      exact ⟨q1f qe qe,q3k (qjj k.und _ _ _) qe qe qe qe⟩
    · subst c;obtain ⟨e,ie,de,v,rfl,_⟩:=n;cases j;cases l
      exact ⟨q1f qe qe,q3k (qjj k.und _ _ _) qe qe qe qe⟩
    · subst c;obtain ⟨e,ie,de,v,rfl,_⟩:=n;cases j;cases l
      exact ⟨q1f qe qe,q3k (qrk k.und _ _ _) qe qe qe qe⟩
    · subst c;obtain ⟨⟨e,f,g,rfl⟩,_⟩:=n;cases j;cases l
      exact ⟨q1f qe qe,q3k (qrh k.und) qe qe qe qe⟩
    · subst c;obtain ⟨⟨e,f,g,rfl⟩,_⟩:=n;cases j;cases l
      exact ⟨q1f qe qe,q3k (qri k.und _ _ _) qe qe qe qe⟩
    · subst c;obtain ⟨⟨e,f,g,rfl⟩,_⟩:=n;cases j;cases l
      exact ⟨q1f qe qe,q3k (qrj k.und _ _ _) qe qe qe qe⟩
  unfold binE at m
  split at m
  · cases c : eqK i.kind p q with
    | none=>simp [c] at m
    | some r=>
      simp [c] at m;subst m
      obtain ⟨u,o,_⟩:=key r c
      exact .quiet h (Ki (x:=.bool r) (by simp [u,o])) (.d (.bool _))
  · cases c : eqK i.kind p q with
    | none=>simp [c] at m
    | some r=>
      simp [c] at m;subst m
      obtain ⟨u,_,o⟩:=key r c
      exact .quiet h (Ki (x:=.bool (!r)) (by simp [u,o])) (.d (.bool _))
  · simp at m
end
end Go.Am
namespace Go.Am
open Go
variable {P : Program} {T : Tab}
section
variable {w : World} {Z : Nat→Prop} {inj : Inj} {st : AS} {a : Act} {Ds : List Nat}
theorem qv4 {op : UnOp} {x : Operand} {p b : DV} (h : RelS w Z inj st a Ds) (g : st.ev x = some (.d p)) (c : unD op p = some b) :
    Kj st st (.d b) w Z inj ((do pure (Next.value (← Op.unary op (a.eval x))) : Sem Next).run P w):=by
  have f:=Ka h g
  generalize a.eval x = vx at f ⊢
  cases f with | d f=>
  unfold unD at c
  split at c
  · simp at c;subst c;cases f
    exact .quiet h (Ki (by simp [Op.unary,Op.intArith])) (.d (.int _ _))
  · simp at c;subst c;cases f
    exact .quiet h (Ki (by simp [Op.unary])) (.d (.bool _))
  · cases f
    simp only [binI,Option.some.injEq] at c;subst c
    exact .quiet h (Ki (by simp [Op.unary,Op.intBits])) (.d (.int _ _))
  · simp at c
theorem qun {src dst : TypeId} {i j : TI} {x : Operand} {k0 s k : IntKind} {n : Int} (h : RelS w Z inj st a Ds) (hi : tiOf P src = some i) (r : tiOf P dst = some j) (c : i.kind = .int k0) (g : j.kind = .int k) (t : st.ev x = some (.d (.int s n))) :
    Kj st st (.d (.int k (k.wrap n))) w Z inj ((do pure (Next.value (← convert src dst (a.eval x))) : Sem Next).run P w):=by
  obtain ⟨p,d,z,o⟩:=Yt hi
  obtain ⟨m,v,u,q⟩:=Yt r
  have f:=o.kind
  have l:=q.kind
  unfold Zj at f l
  simp only [c,g] at f l
  obtain ⟨rfl,_⟩:=f
  obtain ⟨rfl,_⟩:=l
  have b:=Ka h t
  generalize a.eval x = vx at b ⊢
  cases b with | d b=>
  cases b
  refine .quiet h (Ki (x:=.int k (k.wrap n)) ?_) (.d (.int _ _))
  simp only [convert,Sem.run_bind,run_underlying o.und,run_underlying q.und,Result.andThen_ok]
  simp [Conv.intToInt]
theorem quy {f : FuncId} {first b : Array Operand} {j : List V} (h : RelS w Z inj st a Ds) (o : first.size = 0) (k : evL st.ev b.toList = some j) :
    Kj st st (match allD j with | some ds=>.d (.fn f ds) | none=>.fn f j) w Z inj ((do pure (Next.value (← Instr.makeFunc (.func f) (first.map a.eval) (b.map a.eval))) : Sem Next).run P w):=by
  have g:=q8w h k
  have l : first.map a.eval = #[]:=by apply Array.eq_empty_of_size_eq_zero;simpa using o
  have n : (b.toList.map a.eval).toArray = b.map a.eval:=by apply Array.ext';simp
  rw [n] at g
  refine .quiet h (Ki (x:=.func (.func f) #[] (b.map a.eval)) (by simp [Instr.makeFunc,l])) ?_
  split
  · rename_i ds hd
    have:=q57 hd;subst this
    refine .d (.fn (by simpa using g.1) fun i d c hd m=>?_)
    have:=g.2 i (.d d) c (by simp [hd]) m
    cases this with | d h=>exact h
  · exact .fn g.1 g.2
theorem qls {x : Operand} {k : Nat} {v : V} (h : RelS w Z inj st a Ds) (j : (∃ f d,st.ev x = some (.d (.tup f))∧f[k]? = some d∧v = .d d)∨∃ f,st.ev x = some (.tup f)∧f[k]? = some v) :
    Kj st st v w Z inj ((do pure (Next.value (← Instr.extract (a.eval x) k)) : Sem Next).run P w):=by
  rcases j with ⟨f,d,j,l,rfl⟩ | ⟨f,j,l⟩
  · have b:=Ka h j
    generalize a.eval x = vx at b ⊢
    cases b with | d b=>
    cases b with | @tup _ cs hl hr=>
    obtain ⟨c,g⟩:=Yg (xs:=cs) (i:=k) (by have:=Ke l;omega)
    exact .quiet h (Ki (x:=c) (by simp [Instr.extract,g])) (.d (hr _ _ _ l g))
  · have b:=Ka h j
    generalize a.eval x = vx at b ⊢
    cases b with | @tup _ cs hl hr=>
    obtain ⟨c,g⟩:=Yg (xs:=cs) (i:=k) (by have:=Ke l;omega)
    exact .quiet h (Ki (x:=c) (by simp [Instr.extract,g])) (hr _ _ _ l g)
theorem qht {nx : Nat} {v : V} {x : Value} {cs : List V} (h : RelV w Z inj nx v x) (a : agD v = some cs) : ∃ xs,x = .agg xs∧LRel w Z inj nx cs xs:=by
  unfold agD at a
  split at a <;> simp at a
  · subst a
    cases h with | d h=>
    cases h with | @agg _ X hl hr=>
    refine ⟨X,rfl,by simpa using hl,fun i d c hd f=>?_⟩
    simp only [List.getElem?_map,Y5] at hd
    obtain ⟨g,b,rfl⟩:=hd
    exact .d (hr i g c b f)
  · subst a
    cases h with | @agg _ X hl hr=>exact ⟨X,rfl,hl,hr⟩
theorem qur {s : TypeId} {i : TI} {x : Operand} {g v : V} {f off size : Nat} {ag : Bool} {cs r : List V} (h : RelS w Z inj st a Ds) (hi : tiOf P s = some i) (p : st.ev x = some g) (hk : i.kind = .struct) (hf : i.flds[f]? = some (off,size,ag))
    (m : agD g = some cs) (hs : sub cs off size = some r) (hp : pack ag r = some v) :
    Kj st st v w Z inj ((do pure (Next.value (← Instr.field s (a.eval x) f)) : Sem Next).run P w):=by
  obtain ⟨j,d,z,k⟩:=Yt hi
  have b:=k.kind
  unfold Zj at b
  simp only [hk] at b
  obtain ⟨fs,rfl,c⟩:=b
  obtain ⟨fd,jf,df,g1,l,u,q,g5,g6,g7⟩:=qf6 c hf
  obtain ⟨xs,he,t⟩:=qht (Ka h p) m
  subst q g6 g7
  obtain ⟨y,n,o⟩:=qm0 (P:=P) l u t hs hp
  refine .quiet h (Ki (x:=y) ?_) o
  simp only [Instr.field,Sem.run_bind,run_underlying k.und,Result.andThen_ok,g1,he,asAgg,Sem.run_pure,n]
theorem qut {t : TypeId} {i : TI} {x f : Operand} {j v : V} {k0 : IntKind} {n : Int} {cs r : List V} (h : RelS w Z inj st a Ds) (hi : tiOf P t = some i) (hx : st.ev x = some j) (q : st.ev f = some (.d (.int k0 n))) (hk : i.kind = .array)
    (s : agD j = some cs) (h0 : 0≤n∧n < i.len) (hs : sub cs (n.toNat * i.esize) i.esize = some r) (hp : pack i.eagg r = some v) :
    Kj st st v w Z inj ((do pure (Next.value (← Instr.index t (a.eval x) (a.eval f))) : Sem Next).run P w):=by
  obtain ⟨o,d,z,k⟩:=Yt hi
  have b:=k.kind
  unfold Zj at b
  simp only [hk] at b
  obtain ⟨e,ie,de,rfl,m,p,g,g4,g5⟩:=b
  obtain ⟨xs,he,hl⟩:=qht (Ka h hx) s
  have c:=Ka h q
  generalize a.eval f = vx at c ⊢
  cases c with | d c=>
  cases c
  rw [← g] at hs
  rw [← g5] at hp
  obtain ⟨y,l,u⟩:=qm0 (P:=P) m p hl hs hp
  refine .quiet h (Ki (x:=y) ?_) u
  simp only [Instr.index,asIntOf,Sem.run_bind,Sem.run_pure,run_underlying k.und,Result.andThen_ok,he]
  rw [Sem.run_ite,qq h0]
  simp only [Sem.run_bind,Zh m,Result.andThen_ok,g]
  rw [g] at l
  exact l
theorem quv {t : TypeId} {i : TI} {x j : Operand} {k0 : IntKind} {n : Int} {s : ByteArray} {b : UInt8} (h : RelS w Z inj st a Ds) (hi : tiOf P t = some i) (o : st.ev x = some (.d (.str s))) (m : st.ev j = some (.d (.int k0 n))) (p : i.kind = .str)
    (hb : (if 0≤n then s[n.toNat]? else none) = some b) :
    Kj st st (.d (.int .u8 b.toNat)) w Z inj ((do pure (Next.value (← Instr.index t (a.eval x) (a.eval j))) : Sem Next).run P w):=by
  obtain ⟨l,d,z,k⟩:=Yt hi
  have c:=k.kind
  unfold Zj at c
  simp only [p] at c
  obtain ⟨rfl,_⟩:=c
  have g:=Ka h o
  have f:=Ka h m
  generalize a.eval x = vy at g ⊢
  generalize a.eval j = vx at f ⊢
  cases g with | d g=>
  cases g
  cases f with | d f=>
  cases f
  refine .quiet h (Ki (x:=.int .u8 b.toNat) ?_) (.d (.int _ _))
  simp only [Instr.index,asIntOf,Sem.run_bind,Sem.run_pure,run_underlying k.und,Result.andThen_ok,hb]
theorem qus {s : TypeId} {i : TI} {p : Operand} {pv v : V} {f off size : Nat} {ag : Bool} (h : RelS w Z inj st a Ds) (hi : tiOf P s = some i) (hx : st.ev p = some pv) (hk : i.kind = .struct) (u : i.flds[f]? = some (off,size,ag))
    (hp : qf2 off pv = some v) :
    Kj st st v w Z inj ((do pure (Next.value (← Instr.fieldAt s (a.eval p) f)) : Sem Next).run P w):=by
  obtain ⟨q,d,z,k⟩:=Yt hi
  have l:=k.kind
  unfold Zj at l
  simp only [hk] at l
  obtain ⟨fs,rfl,m⟩:=l
  obtain ⟨fd,jf,df,g1,r,g3,g4,y,t,g7⟩:=qf6 m u
  have g:=Ka h hx
  generalize a.eval p = vx at g ⊢
  have c : ∀ b o,(Instr.fieldAt s (.pointer (some ⟨b,o,none⟩)) f).run P w = .ok (.pointer (some ⟨b,o + off,none⟩)) w:=by
    intro b o
    simp only [Instr.fieldAt,Instr.sureAddr,fieldPlace,Sem.run_bind,run_underlying k.und,Result.andThen_ok,g1,Sem.run_pure,Zh r,Sem.run_ite,g4,qp y,Ju,t]
  cases pv <;> simp only [qf2,reduceCtorEq,Option.some.injEq] at hp
  case ref n es ii j=>
    subst hp
    cases g with | @ref _ _ _ _ b o h1 h2=>
    refine .quiet h (Ki (c _ _)) ?_
    have:=RelV.ref (w:=w) (Z:=Z) (nx:=st.nx) (es:=es) (i:=ii) (j:=j + off) h1 h2
    rwa [show o + (ii * es + (j + off)) = o + (ii * es + j) + off by omega] at this
  case dref cs j=>
    subst hp
    cases g with | @dref _ _ b o h1 h2 g=>
    refine .quiet h (Ki (c _ _)) ?_
    have:=RelV.dref (inj:=inj) (nx:=st.nx) (j:=j + off) h1 h2 g
    rwa [← Nat.add_assoc] at this
  case d x=>
    cases x <;> simp only [reduceCtorEq,Option.some.injEq] at hp
    subst hp
    cases g with | d g=>
    cases g with | box h1 h2 g=>
    exact .quiet h (Ki (c _ _)) (RelV.dref (inj:=inj) (nx:=st.nx) (j:=off) h1 h2 g)
theorem quu {t : TypeId} {i : TI} {x ix : Operand} {xv v : V} {k0 : IntKind} {n : Int} (h : RelS w Z inj st a Ds) (hi : tiOf P t = some i) (hx : st.ev x = some xv) (hn : st.ev ix = some (.d (.int k0 n)))
    (hp : q3x i xv n = some v) :
    Kj st st v w Z inj ((do pure (Next.value (← Instr.indexAt t (a.eval x) (a.eval ix))) : Sem Next).run P w):=by
  obtain ⟨ai,d,z,k⟩:=Yt hi
  have r:=k.kind
  unfold Zj at r
  have u:=Ka h hn
  generalize a.eval ix = vx at u ⊢
  cases u with | d u=>
  cases u
  have l:=Ka h hx
  generalize a.eval x = vx at l ⊢
  have p : i.kind = .slice→∀ b o len cap,0≤n→n < (len : Nat)→(Instr.indexAt t (.slice (some ⟨b,o,none⟩) len cap) (.int k0 n)).run P w = .ok (.pointer (some ⟨b,o + n.toNat * i.esize,none⟩)) w:=by
    intro s b o len cap f q
    simp only [s] at r
    obtain ⟨e,ie,de,ze,rfl,g1,g2,g3,g4,g5,g6,_⟩:=r
    simp only [Instr.indexAt,asIntOf,Sem.run_bind,Sem.run_pure,run_underlying k.und,Result.andThen_ok]
    rw [Sem.run_ite,qq ⟨f,q⟩]
    simp only [Sem.run_bind,Zh g1,Result.andThen_ok,Sem.run_pure,Ju,g6]
  have g : i.kind = .array→∀ b o,0≤n→n < i.len→(Instr.indexAt t (.pointer (some ⟨b,o,none⟩)) (.int k0 n)).run P w = .ok (.pointer (some ⟨b,o + n.toNat * i.esize,none⟩)) w:=by
    intro s b o f q
    simp only [s] at r
    obtain ⟨e,ie,de,rfl,g1,g2,g3,g4,_⟩:=r
    simp only [Instr.indexAt,asIntOf,Instr.sureAddr,Sem.run_bind,Sem.run_pure,run_underlying k.und,Result.andThen_ok]
    rw [Sem.run_ite,qq ⟨f,q⟩]
    simp only [Sem.run_bind,Zh g1,Result.andThen_ok,Sem.run_pure,Ju,g3]
  cases s : i.kind <;> simp only [q3x,s,reduceCtorEq] at hp
  case slice=>
    cases xv <;> (try simp only [reduceCtorEq] at hp)
    case d x=>
      cases x <;> (try simp only [reduceCtorEq] at hp)
      rename_i es xs
      split at hp <;> simp at hp
      rename_i f
      obtain ⟨f,he⟩:=f
      obtain ⟨cs,y,rfl⟩:=hp
      have aa:=Ke y
      cases l with | d l=>
      cases l with
      | slnil=>simp at aa
      | slemp=>simp at aa
      | @sl _ _ b o cap q h2 h4 h5 h6=>
        refine .quiet h (Ki (p s _ _ _ _ f q0)) ?_
        have:=RelV.dref (w:=w) (Z:=Z) (inj:=inj) (nx:=st.nx) (cs:=cs) (j:=0) (b:=b) (o:=o + n.toNat * i.esize) (h2 (by rintro rfl;simp at aa))
          (fun k d hd=>by have:=(h5 n.toNat cs k d y hd).2;rwa [he,← Nat.add_assoc] at this)
          (fun k d c hd hc=>h6 n.toNat cs k d c y hd (by rwa [he,← Nat.add_assoc]))
        simpa using this
    case hs m es off len=>
      split at hp <;> simp at hp
      rename_i f
      obtain ⟨f,q,he⟩:=f
      subst hp
      cases l with
      | hsnil=>omega
      | @hs _ _ _ _ cap ad hn hle _ hcap=>
        obtain ⟨b,o,hi,rfl,_⟩:=hcap q0
        refine .quiet h (Ki (p s _ _ _ _ f q0)) ?_
        have:=RelV.ref (w:=w) (Z:=Z) (nx:=st.nx) (es:=es) (i:=off + n.toNat) (j:=0) hn hi
        rw [show o + off * es + n.toNat * i.esize = o + ((off + n.toNat) * es + 0) by rw [← he,Nat.add_mul];omega]
        exact this
  case array=>
    cases xv <;> (try simp only [reduceCtorEq] at hp)
    case ref m es e j=>
      split at hp <;> simp at hp
      rename_i f
      subst hp
      cases l with | @ref _ _ _ _ b o q h2=>
      refine .quiet h (Ki (g s _ _ f.1 f.2)) ?_
      have:=RelV.ref (w:=w) (Z:=Z) (nx:=st.nx) (es:=es) (i:=e) (j:=j + n.toNat * i.esize) q h2
      rwa [← Nat.add_assoc,← Nat.add_assoc,Nat.add_assoc o] at this
    case dref cs j=>
      split at hp <;> simp at hp
      rename_i f
      subst hp
      cases l with | @dref _ _ b o q h2 l=>
      refine .quiet h (Ki (g s _ _ f.1 f.2)) ?_
      have:=RelV.dref (inj:=inj) (nx:=st.nx) (j:=j + n.toNat * i.esize) q h2 l
      rwa [← Nat.add_assoc] at this
    case d x=>
      cases x <;> (try simp only [reduceCtorEq] at hp)
      split at hp <;> simp at hp
      rename_i f
      subst hp
      cases l with | d l=>
      cases l with | box q h2 l=>
      exact .quiet h (Ki (g s _ _ f.1 f.2)) (RelV.dref (inj:=inj) (nx:=st.nx) (j:=n.toNat * i.esize) q h2 l)
end
end Go.Am
namespace Go.Am
open Go
variable {P : Program} {T : Tab}
theorem qhg {n : Int} (h : -9223372036854775808≤n∧n≤9223372036854775807) : IntKind.i64.wrap n = n:=by rw [IntKind.wrap_i64];omega
theorem qij {es i a j : Nat} (c : j < es) : (i * es≤a * es + j∧a * es + j < i * es + es)↔a = i:=by
  constructor
  · intro ⟨d,b⟩
    rcases Nat.lt_trichotomy a i with h | h | h
    · have:=Nat.mul_le_mul_right es (show a + 1≤i from h);rw [Nat.add_mul] at this;omega
    · exact h
    · have:=Nat.mul_le_mul_right es (show i + 1≤a from h);rw [Nat.add_mul] at this;omega
  grind
theorem q3n {es n i j : Nat} (hi : i < n) (a : j < es) : i * es + j < n * es:=by
  have:=Nat.mul_le_mul_right es (show i + 1≤n from hi);rw [Nat.add_mul] at this;omega
section
variable {w : World} {Z : Nat→Prop} {inj : Inj} {st : AS} {a : Act} {Ds : List Nat}
theorem qig {b y : Nat} {o : Option Operand} {n : Nat} {code : BoundsCode} (h : RelS w Z inj st a Ds) (hb : bound st b o = some n) (l : n≤y) :
    (∀ op,o = some op→(Instr.sliceBound (a.eval op) y code).run P w = .ok n w)∧(o = none→n = b):=by
  cases o with
  | none=>simp [bound] at hb;exact ⟨qe,fun _=>hb.symm⟩
  | some op=>
    refine ⟨fun f e=>?_,qe⟩
    cases e
    simp only [bound] at hb
    split at hb <;> try simp at hb
    rename_i k m g
    have c:=Ka h g
    generalize a.eval op = vx at c ⊢
    cases c with | d c=>
    cases c
    obtain ⟨j,rfl⟩:=hb
    simp only [Instr.sliceBound,asIntOf,Sem.run_bind,Sem.run_pure,Result.andThen_ok]
    simp_all
theorem qv2 {t : TypeId} {i : TI} {x : Operand} {xv v : V} {lo hi : Option Operand} {n p q : Nat} (h : RelS w Z inj st a Ds) (ht : tiOf P t = some i) (hk : i.kind = .slice) (f : st.ev x = some xv) (g : lenV xv = some n)
    (ai : bound st 0 lo = some p) (ak : bound st n hi = some q) (hs : q9o i.esize xv p q = some v) :
    Kj st st v w Z inj ((do pure (Next.value (← Instr.sliceAt t (a.eval x) (lo.map a.eval) (hi.map a.eval) none)) : Sem Next).run P w):=by
  obtain ⟨ap,d,z,k⟩:=Yt ht
  have ab:=k.kind
  unfold Zj at ab
  simp only [hk] at ab
  obtain ⟨e,ie,de,ze,rfl,g1,g2,g3,g4,g5,g6,g7,_⟩:=ab
  have h3:=Ka h f
  generalize a.eval x = vx at h3 ⊢
  have run : ∀ ad len cap,len = n→q≤cap→p≤q→(Instr.sliceAt t (.slice ad len cap) (lo.map a.eval) (hi.map a.eval) none).run P w = .ok (.slice (if cap = p then ad else ad.map (·.add (p * i.esize))) (q - p) (cap - p)) w:=by
    intro ad len cap hl hq hp
    obtain ⟨l1,l2⟩:=qig (P:=P) (y:=q) (code:=.sliceB) h ai hp
    obtain ⟨r1,r2⟩:=qig (P:=P) (y:=cap) (code:=.sliceAcap) h ak hq
    simp only [Instr.sliceAt,Sem.run_bind,run_underlying k.und,Result.andThen_ok,Instr.slice,Instr.sliceBounds,Zh g1,g6]
    cases hi with
    | none=>
      have:=r2 rfl;subst this
      cases lo with
      | none=>have:=l2 rfl;subst this;simp [hl]
      | some o=>simp [hl,l1 o rfl]
    | some o'=>
      cases lo with
      | none=>have:=l2 rfl;subst this;simp [r1 o' rfl]
      | some o=>simp [r1 o' rfl,l1 o rfl]
  cases xv <;> simp only [q9o,reduceCtorEq] at hs
  case d x=>
    cases x <;> simp only [reduceCtorEq] at hs
    case nilsl=>
      split at hs <;> simp at hs
      rename_i u
      obtain ⟨rfl,rfl⟩:=u
      subst hs
      simp [lenV] at g
      cases h3 with | d h3=>
      cases h3
      exact .quiet h (Ki (run _ _ _ g q0 q0)) (by simpa using RelV.d .nilsl)
    case sl es xs=>
      split at hs <;> simp at hs
      rename_i u
      obtain ⟨u,h1,he⟩:=u
      subst hs
      simp [lenV] at g
      cases h3 with | d h3=>
      cases h3 with
      | slnil=>
        simp at h1 g
        obtain ⟨rfl,rfl⟩ : q = 0∧p = 0:=by omega
        exact .quiet h (Ki (run _ _ _ g q0 q0)) (by simpa using RelV.d (.slnil _))
      | slemp=>
        simp at h1 g
        obtain ⟨rfl,rfl⟩ : q = 0∧p = 0:=by omega
        exact .quiet h (Ki (run _ _ _ g q0 q0)) (by simpa using RelV.d (.slemp _ _))
      | @sl _ _ b o cap hc hz hl hcell hrel=>
        refine .quiet h (Ki (run _ _ _ g q0 u)) ?_
        have r : ((xs.drop p).take (q - p)).length = q - p:=by simp;omega
        have s : ∀ (i : Nat) (x : List DV),((xs.drop p).take (q - p))[i]? = some x→xs[p + i]? = some x:=by
          intro i x f
          rw [List.getElem?_take] at f
          split at f
          · rwa [List.getElem?_drop] at f
          · simp at f
        by_cases l : cap = p
        · rw [qq l]
          have h9 : (xs.drop p).take (q - p) = []:=List.eq_nil_of_length_eq_zero (by rw [r];omega)
          have h8 : q - p = 0:=by omega
          rw [h9,h8]
          exact .d (RelD.sl (es:=es) (xs:=[]) qe qe qe qe qe)
        · rw [qp l,Option.map_some,Ju]
          have e2 : ∀ k j,o + p * i.esize + (k * es + j) = o + ((p + k) * es + j):=by
            intro k j;rw [← he,Nat.add_mul];omega
          have:=RelD.sl (w:=w) (Z:=Z) (es:=es) (xs:=(xs.drop p).take (q - p)) (b:=b) (o:=o + p * i.esize) (cap:=cap - p) (by rw [r];omega) (fun ac=>hz (by rintro rfl;simp at ac)) (fun i x f=>hl _ _ (s i x f))
            (fun k x j d f hd=>by rw [e2];exact hcell _ _ j d (s k x f) hd)
            (fun k x j d c f hd hc=>hrel _ _ j d c (s k x f) hd (by rw [e2] at hc;exact hc))
          rw [r] at this
          exact .d this
  case hs m es off len=>
    split at hs <;> simp at hs
    rename_i u
    obtain ⟨u,h1,he⟩:=u
    subst hs
    simp [lenV] at g
    cases h3 with
    | hsnil hm=>
      obtain ⟨rfl,rfl⟩ : q = 0∧p = 0:=by omega
      exact .quiet h (Ki (run _ _ _ g q0 q0)) (by simpa using RelV.hsnil (es:=es) (off:=off) hm)
    | @hs _ _ _ _ cap ad hm hc hsp hcap=>
      refine .quiet h (Ki (run _ _ _ g q0 u)) ?_
      by_cases l : cap = p
      · rw [qq l]
        exact .hs hm q0 hsp (fun ac=>q0)
      · rw [qp l,Option.map_some]
        obtain ⟨b,o,hi,rfl,ar⟩:=hcap q0
        rw [Ju]
        refine .hs hm q0 rfl fun _=>⟨b,o,hi,?_,?_⟩
        · rw [he,Nat.add_mul,← Nat.add_assoc]
        · rwa [show off + p + (cap - p) = off + cap by omega]
theorem qhk {b : Value} {es n i j : Nat} {ds : List DV} (h : b.cells.toList.mapM Zq = some ds) (p : ds.length = es) (hi : i < n) {d : DV} (hd : ds[j]? = some d) :
    ∃ c,((Array.range (n * es)).map (b.cells[· % b.cells.size]!))[i * es + j]? = some c∧RelD w Z d c∧Yj d = true:=by
  obtain ⟨l,o⟩:=q8o (w:=w) (Z:=Z) h
  obtain ⟨c,k,m,a,_⟩:=o j d hd
  have g : j < es:=by have:=Ke hd;omega
  refine ⟨c,?_,m,a⟩
  have f:=q3n hi g
  rw [Array.getElem?_map,Array.getElem?_range]
  simp only [f,if_true,Option.map_some]
  have : (i * es + j) % b.cells.size = j:=by rw [← l,p,Nat.mul_comm,Nat.mul_add_mod,Nat.mod_eq_of_lt g]
  grind
theorem qv0 {t : TypeId} {i : TI} {l c : Operand} {y v : IntKind} {n m : Int} (h : RelS w Z inj st a Ds) (ht : tiOf P t = some i) (hk : i.kind = .slice) (hl : st.ev l = some (.d (.int y n))) (u : st.ev c = some (.d (.int v m)))
    (h0 : 0≤n) (h1 : n≤m) (q : m * (i.ebytes * 4)≤room) :
    Kj st (st.new (.dat i.esize (List.replicate n.toNat i.ezero))) (.hs st.nx i.esize 0 n.toNat) w Z inj ((do pure (Next.value (← Instr.makeSlice t (a.eval l) (a.eval c))) : Sem Next).run P w):=by
  obtain ⟨ac,d,z,k⟩:=Yt ht
  have f:=k.kind
  unfold Zj at f
  simp only [hk] at f
  obtain ⟨e,ie,de,ze,rfl,g1,g2,g3,g4,g5,g6,g7,g8,g9,_⟩:=f
  have o:=Ka h hl
  have r:=Ka h u
  generalize a.eval l = vl at o ⊢
  generalize a.eval c = vc at r ⊢
  cases o with | d o=>
  cases o
  cases r with | d r=>
  cases r
  have hm : m≤4294967296:=by
    have e1 : (1 : Int)≤(i.ebytes : Int) * 4:=by omega
    have:=Int.mul_le_mul_of_nonneg_left e1 (show (0:Int)≤m by omega)
    unfold room at q;omega
  have hb : (i.ebytes : Int) * m≤281474976710656:=by
    unfold room at q
    grind
  have w1 : IntKind.i64.wrap n = n:=qhg q0
  have w2 : IntKind.i64.wrap m = m:=qhg q0
  obtain ⟨N,rfl⟩:=Int.eq_ofNat_of_zero_le h0
  obtain ⟨M,rfl⟩:=Int.eq_ofNat_of_zero_le (show 0≤m by omega)
  simp only [Int.toNat_natCast]
  have b:=run_make (P:=P) w t e ie ze k.und g1 g3 y v (N : Int) (M : Int) h0 h1 (by rw [g8];exact hb) q0
  simp only [Int.toNat_natCast,g6] at b
  have s : N≤M:=by omega
  refine .new h (Ki b) ?_ ?_
  · refine ⟨g7,?_,.inr ⟨w.heap.size,0,_,e,Y4 _ _ _,Jv _ _,?_⟩⟩
    · grind
    · intro j x j' d p hd
      rw [List.getElem?_replicate] at p
      split at p <;> simp at p
      rename_i hj
      subst p
      obtain ⟨c,u,q,g⟩:=qhk (w:=w.alloc (.cells (madeCells ze.cells (M * i.esize)) e)) (Z:=Z) g4 g5 (show j < M by omega) hd
      exact ⟨g,c,by rw [Nat.zero_add];exact u,q⟩
  · refine .hs q0 s rfl fun _=>⟨w.heap.size,0,Y4 _ _ _,qe,?_⟩
    exact ⟨_,_,_,Jv _ _,by rw [size_madeCells];simp⟩
def ERel (w : World) (Z : Nat→Prop) (inj : Inj) (nx es : Nat) (xs : List (List V)) (C : Array Value) : Prop:=
  C.size = xs.length * es∧(∀ (i : Nat) (x : List V),xs[i]? = some x→x.length = es)∧
    ∀ (i : Nat) (x : List V) (j : Nat) (d : V),xs[i]? = some x→x[j]? = some d→Kk d = true∧∃ c,C[i * es + j]? = some c∧RelV w Z inj nx d c
theorem qjb {es : Nat} : ∀ {f : List (Nat × V)} {l : List (Nat × List V)},elems es f = some l→l.length = f.length∧∀ (k i : Nat) (v : V),f[k]? = some (i,v)→(cellsOf v).length = es∧(cellsOf v).all Kk = true∧l[k]? = some (i,cellsOf v)
  | [],l,h=>by simp [elems] at h;subst h;simp
  | (i,v)::r,l,h=>by
    simp only [elems] at h
    split at h
    · rename_i l' o
      split at h
      · rename_i g
        simp at h;subst h
        obtain ⟨j,p⟩:=qjb o
        refine ⟨by simp [j],fun k m n d=>?_⟩
        cases k with
        | zero=>simp at d;obtain ⟨rfl,rfl⟩:=d;exact ⟨g.1,g.2,qe⟩
        | succ k=>simp at d;obtain ⟨a,b,c⟩:=p k m n d;exact ⟨a,b,by simpa using c⟩
      · simp at h
    · simp at h
theorem ERel.set {w : World} {nx es : Nat} {xs : List (List V)} {C k : Array Value} {ys : List V} {i : Nat} (h : ERel w Z inj nx es xs C) (o : LRel w Z inj nx ys k) (v : ys.length = es) (n : ys.all Kk = true) (hi : i < xs.length) :
    ERel w Z inj nx es (xs.set i ys) (Am.splice C.toList (i * es) k.toList).toArray:=by
  obtain ⟨p,s,q⟩:=h
  have b : k.toList.length = es:=by have:=o.1;simp;omega
  have a : i * es + k.toList.length≤C.toList.length:=by
    rw [b,Array.length_toList,p]
    have:=Nat.mul_le_mul_right es (show i + 1≤xs.length from hi);rw [Nat.add_mul] at this;omega
  refine ⟨by simp [q27 _ _ _ a,p],?_,?_⟩
  · grind
  · intro j x l d g hd
    rw [List.getElem?_set] at g
    by_cases f : i = j
    · subst f
      rw [qq rfl,qq hi] at g
      simp at g;subst g
      have r:=Ke hd
      obtain ⟨c,m⟩:=Yg (xs:=k) (i:=l) (by have:=o.1;omega)
      refine ⟨List.all_eq_true.1 n _ (List.mem_of_getElem? hd),c,?_,o.2 _ _ _ hd m⟩
      rw [List.getElem?_toArray,U5 _ _ _ _ a,qq (by rw [b];omega),show i * es + l - i * es = l by omega]
      grind
    · rw [qp f] at g
      obtain ⟨t,c,y,u⟩:=q j x l d g hd
      refine ⟨t,c,?_,u⟩
      rw [List.getElem?_toArray,U5 _ _ _ _ a,qp ?_]
      · grind
      · rw [b]
        intro m
        exact f ((qij (by have:=Ke hd;have:=s j x g;omega)).1 m).symm
theorem qjn {w : World} {nx es : Nat} : ∀ (f : List (Nat × V)) (xs : List (Nat × Value)) (l : List (Nat × List V)) (cs c : List (List V)) (C : Array Value),
    f.length = xs.length→(∀ (k : Nat) (i : Nat) (v : V),f[k]? = some (i,v)→∃ x,xs[k]? = some (i,x)∧RelV w Z inj nx v x)→
    l.length = f.length→(∀ (k : Nat) (i : Nat) (v : V),f[k]? = some (i,v)→(cellsOf v).length = es∧(cellsOf v).all Kk = true∧l[k]? = some (i,cellsOf v))→
    ERel w Z inj nx es cs C→q3r cs l = some c→∃ n,Instr.fill (fun i=>some (i * es,es)) C xs = some n∧ERel w Z inj nx es c n∧c.length = cs.length
  | [],xs,l,cs,c,C,h1,_,h3,_,h5,h6=>by
    have : xs = []:=by cases xs <;> simp_all
    have : l = []:=by cases l <;> simp_all
    subst_vars
    simp [q3r] at h6;subst h6
    exact ⟨C,by simp [Instr.fill],h5,rfl⟩
  | (i,v)::f,xs,l,cs,c,C,h1,h2,h3,h4,h5,h6=>by
    match xs,l,h1,h3 with
    | (i',x)::xs,(o',ys)::l,h1,h3=>
      obtain ⟨x',g,u⟩:=h2 0 i v rfl
      simp at g;obtain ⟨rfl,rfl⟩:=g
      obtain ⟨y,s,h⟩:=h4 0 i' v rfl
      simp at h;obtain ⟨rfl,rfl⟩:=h
      obtain ⟨q1,z,q3⟩:=qbs u s
      simp only [q3r] at h6
      split at h6
      · rename_i d
        obtain ⟨n,q,j,m⟩:=qjn f xs l (cs.set o' (cellsOf v)) c (splice C.toList (o' * es) x.cells.toList).toArray (by simpa using h1)
          (fun k i v r=>by obtain ⟨x,p⟩:=h2 (k + 1) i v (by simpa using r);exact ⟨x,by simpa using p⟩) (by simpa using h3)
          (fun k i v r=>by obtain ⟨a,b,p⟩:=h4 (k + 1) i v (by simpa using r);exact ⟨a,b,by simpa using p⟩)
          (h5.set ⟨q1,z⟩ y s d) h6
        refine ⟨n,?_,j,by simpa using m⟩
        have t : o' * es + es≤C.size:=by
          rw [h5.1]
          have:=Nat.mul_le_mul_right es (show o' + 1≤cs.length from d);rw [Nat.add_mul] at this;omega
        have o : x.cells.size = es:=by omega
        simp only [Instr.fill,o]
        have : ¬ ((decide (es≠es) || decide (o' * es + es > C.size)) = true):=by simp;omega
        rw [qp (by simpa using this)]
        rw [qjv x.cells C (o' * es) q0]
        exact q
      · simp at h6
theorem qul {t : TypeId} {i : TI} {len : Nat} {g : Array (Nat × Operand)} {r : List (Nat × V)} {l : List (Nat × List V)} {xs : List (List V)} (h : RelS w Z inj st a Ds) (ht : tiOf P t = some i) (hv : Jc st.ev g.toList = some r)
    (hl : elems i.esize r = some l) (hk : i.kind = .slice) (aa : len * i.esize≤16777216) (hf : q3r (List.replicate len (i.ezero.map .d)) l = some xs) :
    Kj st (st.new (q5u i.esize xs)) (.hs st.nx i.esize 0 len) w Z inj ((do pure (Next.value (← Instr.buildSlice t len (g.map fun (i,x)=>(i,a.eval x)))) : Sem Next).run P w):=by
  obtain ⟨ag,d,z,k⟩:=Yt ht
  have f:=k.kind
  unfold Zj at f
  simp only [hk] at f
  obtain ⟨e,ie,de,q,rfl,g1,g2,g3,g4,g5,g6,g7,g8,g9,_⟩:=f
  obtain ⟨p1,p2⟩:=qjl h hv
  obtain ⟨q1,q2⟩:=qjb hl
  have y : ∀ (k i : Nat) (v : V),r[k]? = some (i,v)→∃ x,(g.toList.map fun (x : Nat × Operand)=>(x.1,a.eval x.2))[k]? = some (i,x)∧RelV w Z inj st.nx v x:=by grind
  have u : ERel w Z inj st.nx i.esize (List.replicate len (i.ezero.map .d)) ((Array.range (len * i.esize)).map (q.cells[· % q.cells.size]!)):=by
    refine ⟨qe,?_,?_⟩
    · grind
    · intro j x j' d m hd
      rw [List.getElem?_replicate] at m
      split at m <;> simp at m
      rename_i hj
      subst m
      simp only [List.getElem?_map,Y5] at hd
      obtain ⟨d',ac,rfl⟩:=hd
      obtain ⟨c,hc,o,b⟩:=qhk (w:=w) (Z:=Z) g4 g5 hj ac
      exact ⟨b,c,hc,.d o⟩
  obtain ⟨s,hC,o,p⟩:=qjn r (g.toList.map fun (x : Nat × Operand)=>(x.1,a.eval x.2)) l _ xs _ (by simp [p1]) y q1 q2 u hf
  have av : Instr.fill (fun j=>some (j * i.esize,i.esize)) ((Array.range (len * i.esize)).map (q.cells[· % q.cells.size]!)) (g.map fun (x : Nat × Operand)=>(x.1,a.eval x.2)).toList = some s:=by simpa using hC
  have n : (Instr.buildSlice t len (g.map fun (i,x)=>(i,a.eval x))).run P w = .ok (.slice (some ⟨w.heap.size,0,none⟩) len len) (w.alloc (.cells s e)):=by
    have hn : ¬ (len * i.esize > 2 ^ 24):=by omega
    have ae : (do let x ← newRow e s;pure (Value.slice (some x) len len) : Sem Value).run P w = .ok (.slice (some ⟨w.heap.size,0,none⟩) len len) (w.alloc (.cells s e)):=by simp [newRow]
    by_cases hz : len * i.esize = 0
    · simp only [Instr.buildSlice,Sem.run_bind,run_underlying k.und,Result.andThen_ok,Zh g1,g6]
      grind
    · simp only [Instr.buildSlice,Sem.run_bind,run_underlying k.und,Result.andThen_ok,Zh g1,g6]
      rw [qp hn,qp hz]
      have bb : (zeroValue e).run P w = .ok q w:=by simp [zeroValue,typeInfo,g1,g3]
      simp_all
  have ab : xs.length = len:=by simpa using p
  refine .new h (Ki n) ?_ ?_
  · refine qmm g7 (Y4 _ _ _) (Jv _ _) o.2.1 ?_
    intro j x j' d m hd
    obtain ⟨h1,c,h2,h3⟩:=o.2.2 j x j' d m hd
    exact ⟨h1,c,h2,qmq h _ h3⟩
  · refine .hs q0 (Nat.le_refl _) rfl fun _=>⟨w.heap.size,0,Y4 _ _ _,qe,?_⟩
    exact ⟨_,_,_,Jv _ _,by rw [o.1,ab];simp⟩
end
end Go.Am
