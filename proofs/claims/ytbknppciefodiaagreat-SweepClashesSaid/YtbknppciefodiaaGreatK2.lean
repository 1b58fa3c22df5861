/- Am6 Am7 Am8 Am9 Am10 Am11 -/
import Derived.Test.YtbknppciefodiaaGreatK1
namespace Go.Am
open Go
variable {P : Program} {T : Tab}
theorem q8r {α β : Type} {f : α→Option β} : ∀ {l : List α} {r : List β},l.mapM f = some r→r.length = l.length∧∀ (i : Nat) (x : α),l[i]? = some x→∃ y,r[i]? = some y∧f x = some y
  | [],r,h=>by simp at h;subst h;simp
  | a::l,r,h=>by
    rw [List.mapM_cons] at h
    cases d : f a with
    | none=>simp [d] at h
    | some b=>
      cases g : l.mapM f with
      | none=>simp [d,g] at h
      | some s=>
        simp [d,g] at h
        subst h
        obtain ⟨m,k⟩:=q8r g
        refine ⟨by simp [m],?_⟩
        intro i x c
        cases i with
        | zero=>simp at c;subst c;exact ⟨b,qe,d⟩
        | succ i=>simp at c;obtain ⟨y,j⟩:=k i x c;exact ⟨y,by simpa using j⟩
theorem Yc {α β : Type} {l : List α} {r : List β} (a : r.length = l.length) {i : Nat} {y : β} (h : r[i]? = some y) : ∃ x,l[i]? = some x:=
  Z8 (by have:=K3 h;omega)
def Z7 (P : Program) (_t : TypeId) (i : TI) (d : TypeDesc) : Prop:=match i.kind with
  | .bool=>d = .bool∧i.size = 1
  | .int k=>d = .int k∧i.size = 1
  | .str=>d = .string∧i.size = 1
  | .ptr=>(∃ e,d = .pointer e)∧i.size = 1
  | .func=>(∃ a b c,d = .func a b c)∧i.size = 1
  | .slice=>∃ e ie de ze,d = .slice e∧P.info? e = some ie∧P.underlying e = some de∧ie.zero = some ze∧ze.cells.toList.mapM Zd = some i.ezero∧i.ezero.length = i.esize∧ie.size = i.esize∧i.esize≠0∧
      ie.bytes = i.ebytes∧i.ebytes≠0∧K4 de = i.eagg∧i.size = 1
  | .array=>∃ e ie de,d = .array i.len e∧P.info? e = some ie∧P.underlying e = some de∧ie.size = i.esize∧i.esize≠0∧K4 de = i.eagg
  | .map=>∃ kt e ie ze zd ks dk,d = .map kt e∧P.info? e = some ie∧ie.zero = some ze∧Zd ze = some zd∧K8 P 8 kt = some ks∧P.underlying kt = some dk∧i.keys = some ks∧i.ezero = [zd]∧i.eagg = K4 dk∧i.size = 1
  | .struct=>∃ fs,d = .struct fs∧(fs.toList.mapM fun f=>do
      let jf ← P.info? f.type
      let df ← P.underlying f.type
      if jf.size = 0 then none else some (f.offset,jf.size,K4 df)) = some i.flds
structure TiOk (P : Program) (t : TypeId) (i : TI) (info : TypeInfo) (d : TypeDesc) (z : Value) : Prop where
  inf : P.info? t = some info
  und : P.underlying t = some d
  zero : info.zero = some z
  size : info.size = i.size
  pos : i.size≠0
  cells : z.cells.toList.mapM Zd = some i.zero
  len : i.zero.length = i.size
  agg : i.agg = K4 d
  kind : Z7 P t i d
  eqs : ∀ ks,i.eqs = some ks→K8 P 8 t = some ks∧K4 d = true
  keys : ∀ ks,i.keys = some ks→i.kind = .map
theorem Yh {t : TypeId} {i : TI} (h : tiOf P t = some i) : ∃ g d z,TiOk P t i g d z:=by
  unfold tiOf at h
  cases l : P.info? t with
  | none=>simp [l] at h
  | some g=>
  cases m : P.underlying t with
  | none=>simp [l,m] at h
  | some d=>
  cases o : g.zero with
  | none=>simp [l,m,o] at h
  | some z=>
  cases q : z.cells.toList.mapM Zd with
  | none=>simp [l,m,o,q] at h
  | some zc=>
  simp only [l,m,o,q,Option.bind_eq_bind,Option.bind_some] at h
  by_cases h5 : zc.length≠g.size∨g.size = 0
  · simp [h5] at h
  · rw [if_neg h5] at h
    have u : zc.length = g.size:=by omega
    have r : g.size≠0:=by omega
    refine ⟨g,d,z,?_⟩
    cases d <;> simp only [reduceCtorEq] at h
    case bool=>split at h <;> simp at h;subst h;rename_i hs;exact ⟨l,m,o,rfl,r,q,u,rfl,⟨rfl,hs⟩,qe,qe⟩
    case int k=>split at h <;> simp at h;subst h;rename_i hs;exact ⟨l,m,o,rfl,r,q,u,rfl,⟨rfl,hs⟩,qe,qe⟩
    case string=>split at h <;> simp at h;subst h;rename_i hs;exact ⟨l,m,o,rfl,r,q,u,rfl,⟨rfl,hs⟩,qe,qe⟩
    case pointer e=>split at h <;> simp at h;subst h;rename_i hs;exact ⟨l,m,o,rfl,r,q,u,rfl,⟨⟨_,rfl⟩,hs⟩,qe,qe⟩
    case func a b c=>split at h <;> simp at h;subst h;rename_i hs;exact ⟨l,m,o,rfl,r,q,u,rfl,⟨⟨_,_,_,rfl⟩,hs⟩,qe,qe⟩
    case slice e=>
      cases j : P.info? e with
      | none=>simp [j] at h
      | some ie=>
      cases s : P.underlying e with
      | none=>simp [j,s] at h
      | some de=>
      cases p : ie.zero with
      | none=>simp [j,s,p] at h
      | some ze=>
      cases v : ze.cells.toList.mapM Zd with
      | none=>simp [j,s,p,v] at h
      | some ezc=>
      simp only [j,s,p,v,Option.bind_some] at h
      split at h
      · simp at h
      · rename_i hs
        simp at h;subst h
        exact ⟨l,m,o,rfl,r,q,u,rfl,⟨e,ie,de,ze,rfl,j,s,p,v,by show ezc.length = ie.size;omega,rfl,by show ie.size≠0;omega,rfl,by show ie.bytes≠0;omega,rfl,by show g.size = 1;omega⟩,by simp,by simp⟩
    case map kt e=>
      cases j : P.info? e with
      | none=>simp [j] at h
      | some ie=>
      cases p : ie.zero with
      | none=>simp [j,p] at h
      | some ze=>
      cases v : Zd ze with
      | none=>simp [j,p,v] at h
      | some zd=>
      cases w : K8 P 8 kt with
      | none=>simp [j,p,w] at h
      | some ks=>
      cases y : P.underlying kt with
      | none=>simp [j,p,w,y] at h
      | some dk=>
      simp only [j,p,v,w,y,Option.bind_some] at h
      split at h
      · rename_i hs
        simp at h;subst h
        exact ⟨l,m,o,rfl,r,q,u,rfl,⟨kt,e,ie,ze,zd,ks,dk,rfl,j,p,v,w,y,rfl,rfl,rfl,hs⟩,qe,fun _ _=>rfl⟩
      · simp at h
    case array n e=>
      cases j : P.info? e with
      | none=>simp [j] at h
      | some ie=>
      cases s : P.underlying e with
      | none=>simp [j,s] at h
      | some de=>
      simp only [j,s,Option.bind_some] at h
      split at h
      · simp at h
      · rename_i hs
        simp at h;subst h
        exact ⟨l,m,o,rfl,r,q,u,rfl,⟨e,ie,de,rfl,j,s,rfl,hs,rfl⟩,fun ks h=>⟨h,rfl⟩,qe⟩
    case struct fs=>
      cases j : (fs.toList.mapM fun f=>do
          let jf ← P.info? f.type
          let df ← P.underlying f.type
          if jf.size = 0 then none else some (f.offset,jf.size,K4 df)) with
      | none=>simp only [Option.bind_eq_bind] at j;simp only [j,Option.bind_none] at h;simp at h
      | some fl=>
        have x:=j
        simp only [Option.bind_eq_bind] at j
        simp only [j,Option.bind_some] at h
        simp at h;subst h
        exact ⟨l,m,o,rfl,r,q,u,rfl,⟨fs,rfl,x⟩,fun ks h=>⟨h,rfl⟩,qe⟩
section
variable {w : World} {Z : Nat→Prop} {inj : Inj} {nx : Nat}
theorem qeb {v : Value} {d : DV} (h : Zd v = some d) : RelD w Z d v∧Y6 d = true∧v.oneCell' = true:=by
  unfold Zd at h
  split at h <;> simp at h <;> subst h
  · exact ⟨.int _ _,rfl,rfl⟩
  · exact ⟨.bool _,rfl,rfl⟩
  · exact ⟨.str _,rfl,rfl⟩
  · exact ⟨.nilp,rfl,rfl⟩
  · exact ⟨.nilsl,rfl,rfl⟩
  · exact ⟨.nilf,rfl,rfl⟩
  · exact ⟨.nilm,rfl,rfl⟩
theorem q8b {cs : Array Value} {ds : List DV} (h : cs.toList.mapM Zd = some ds) : ds.length = cs.size∧∀ (i : Nat) (d : DV),ds[i]? = some d→∃ c,cs[i]? = some c∧RelD w Z d c∧Y6 d = true∧c.oneCell' = true:=by
  obtain ⟨f,g⟩:=q8r h
  refine ⟨by simpa using f,fun i d hd=>?_⟩
  obtain ⟨c,a⟩:=Yc f hd
  obtain ⟨y,b,j⟩:=g i c a
  rw [hd] at b;cases b
  exact ⟨c,by simpa using a,qeb j⟩
theorem qqf {v : Value} {d : DV} (h : qbg v = some d) : RelD w Z d v:=by
  unfold qbg at h
  split at h
  · rename_i cs
    cases b : cs.toList.mapM Zd with
    | none=>simp [b] at h
    | some ds=>
      simp [b] at h;subst h
      obtain ⟨k,j⟩:=q8b (w:=w) (Z:=Z) b
      refine .agg k fun i d c hd f=>?_
      obtain ⟨l,a,g,_⟩:=j i d hd
      rw [f] at a;cases a;exact g
  · exact (qeb h).1
theorem K2 {st : AS} {a : Act} {Ds : List Nat} (h : RelS w Z inj st a Ds) {o : Operand} {v : V} (b : st.ev o = some v) : RelV w Z inj st.nx v (a.eval o):=by
  cases o with
  | tmp t=>
    obtain ⟨x,l,k⟩:=h.slots t v b
    simp only [Act.eval,Array.getD_eq_getD_getElem?,l,Option.getD_some];exact k
  | const c=>
    simp only [AS.ev] at b
    cases j : qbg c with
    | none=>simp [j] at b
    | some d=>simp [j] at b;subst b;exact .d (qqf j)
  | func f=>
    simp only [AS.ev] at b;cases b
    exact .d (.fn qe qe)
  | global g=>simp [AS.ev] at b
theorem q4q {b : List V} {ds : List DV} (h : allD b = some ds) : b = ds.map .d:=by
  induction b generalizing ds with
  | nil=>simp [allD] at h;subst h;rfl
  | cons v r ih=>
    cases v <;> simp only [allD,reduceCtorEq] at h
    rename_i x
    cases a : allD r with
    | none=>simp [a] at h
    | some l=>simp [a] at h;subst h;simp [ih a]
theorem qdm (ds : List DV) : allD (ds.map .d) = some ds:=by
  induction ds with
  | nil=>rfl
  | cons d r ih=>simp [allD,ih]
theorem qfr {d : V} {c : Value} (h : RelV w Z inj nx d c) (a : Kc d = true) : c.oneCell' = true:=by
  cases h with
  | d h=>cases h <;> simp_all [Kc,Y6,Value.oneCell']
  | _=>simp_all [Kc,Value.oneCell']
theorem qpj {c : Value} (h : c.oneCell' = true) : c.cells = #[c]:=by cases c <;> simp_all [Value.oneCell',Value.cells]
theorem qbf {v : V} {x : Value} (h : RelV w Z inj nx v x) (f : (cellsOf v).all Kc = true) :
    (cellsOf v).length = x.cells.size∧(∀ (i : Nat) (d : V) (c : Value),(cellsOf v)[i]? = some d→x.cells[i]? = some c→RelV w Z inj nx d c)∧∀ c∈x.cells.toList,c.oneCell' = true:=by
  have fin : ∀ (l : List V) (cs : Array Value),l.length = cs.size→(∀ (i : Nat) (d : V) (c : Value),l[i]? = some d→cs[i]? = some c→RelV w Z inj nx d c)→l.all Kc = true→∀ c∈cs.toList,c.oneCell' = true:=by
    intro l cs k g j c p
    obtain ⟨i,hi,rfl⟩:=List.mem_iff_getElem.1 p
    simp at hi
    have n : l[i]? = some l[i]:=List.getElem?_eq_getElem q0
    have m : cs[i]? = some cs[i]:=Array.getElem?_eq_getElem hi
    have:=qfr (g i _ _ n m) (List.all_eq_true.1 j _ (List.getElem_mem _))
    simpa using this
  have one : ∀ {v : V} {x : Value},RelV w Z inj nx v x→cellsOf v = [v]→(cellsOf v).all Kc = true→(cellsOf v).length = x.cells.size∧(∀ (i : Nat) (d : V) (c : Value),(cellsOf v)[i]? = some d→x.cells[i]? = some c→RelV w Z inj nx d c)∧∀ c∈x.cells.toList,c.oneCell' = true:=by
    intro v x h r j
    rw [r] at j ⊢
    have n : Kc v = true:=by simpa using j
    have m:=qfr h n
    rw [qpj m]
    refine ⟨rfl,?_,by simpa using m⟩
    intro i d c hd f
    cases i with
    | zero=>simp at hd f;subst hd f;exact h
    | succ i=>simp at hd
  cases h with
  | agg k g=>exact ⟨k,g,fin _ _ k g f⟩
  | d h=>
    cases h with
    | agg k g=>
      have n : (cellsOf (V.d (.agg ‹List DV›))).length = (Value.agg ‹Array Value›).cells.size:=by simpa [cellsOf,Value.cells] using k
      have m : ∀ (i : Nat) (d : V) (c : Value),(cellsOf (V.d (.agg ‹List DV›)))[i]? = some d→(Value.agg ‹Array Value›).cells[i]? = some c→RelV w Z inj nx d c:=by
        intro i d c hd f
        simp only [cellsOf,List.getElem?_map,Option.map_eq_some_iff] at hd
        obtain ⟨q,o,rfl⟩:=hd
        exact .d (g i q c o f)
      exact ⟨n,m,fin _ _ n m f⟩
    | int=>exact one (.d (.int _ _)) rfl f
    | bool=>exact one (.d (.bool _)) rfl f
    | str=>exact one (.d (.str _)) rfl f
    | tup k g=>exact one (.d (.tup k g)) rfl f
    | fn k g=>exact one (.d (.fn k g)) rfl f
    | nilsl=>exact one (.d .nilsl) rfl f
    | slnil=>exact one (.d (.slnil _)) rfl f
    | slemp=>exact one (.d (.slemp _ _)) rfl f
    | sl a b c d e=>exact one (.d (.sl a b c d e)) rfl f
    | nilp=>exact one (.d .nilp) rfl f
    | nilf=>exact one (.d .nilf) rfl f
    | nilm=>exact one (.d .nilm) rfl f
    | box a b c=>exact one (.d (.box a b c)) rfl f
  | tup k g=>exact one (.tup k g) rfl f
  | fn k g=>exact one (.fn k g) rfl f
  | ref a b=>exact one (.ref a b) rfl f
  | dref a b c=>exact one (.dref a b c) rfl f
  | hsnil a=>exact one (.hsnil a) rfl f
  | hs a b c d=>exact one (.hs a b c d) rfl f
  | yld a b=>exact one (.yld a b) rfl f
  | mp a b=>exact one (.mp a b) rfl f
  | dead v=>simp [cellsOf,Kc] at f
theorem qfj {cs : List V} {xs : Array Value} (a : cs.length = xs.size) (h : ∀ (i : Nat) (d : V) (c : Value),cs[i]? = some d→xs[i]? = some c→RelV w Z inj nx d c) : RelV w Z inj nx (q5c cs) (.agg xs):=by
  unfold q5c
  split
  · rename_i ds hd
    have:=q4q hd;subst this
    refine .d (.agg (by simpa using a) fun i d c f b=>?_)
    have:=h i (.d d) c (by simp [f]) b
    cases this with | d h=>exact h
  · exact .agg a h
def qoi (w : World) (Z : Nat→Prop) (inj : Inj) (nx : Nat) (v : V) : Bool→List Value→Prop
  | true,xs=>RelV w Z inj nx v (.agg xs.toArray)
  | false,[x]=>RelV w Z inj nx v x
  | false,_=>False
theorem qla {ag : Bool} {cs : List V} {v : V} {xs : List Value} (hp : pack ag cs = some v) (a : cs.length = xs.length) (h : ∀ (i : Nat) (d : V) (c : Value),cs[i]? = some d→xs[i]? = some c→RelV w Z inj nx d c) :
    qoi w Z inj nx v ag xs:=by
  cases ag with
  | true=>
    simp only [pack,Option.some.injEq] at hp;subst hp
    exact qfj (by simpa using a) (fun i d c f b=>h i d c f (by simpa using b))
  | false=>
    match cs,xs,hp,a with
    | [c],[x],hp,_=>simp only [pack,Option.some.injEq] at hp;subst hp;exact h 0 _ _ rfl rfl
    | [c],[],_,a=>simp at a
    | [c],_::_::_,_,a=>simp at a
theorem qfu (ag : Bool) (cs : List DV) : (q1f ag cs).map V.d = pack ag (cs.map .d):=by
  cases ag with
  | true=>simp [q1f,pack,q5c,qdm]
  | false=>match cs with
    | []=>rfl
    | [c]=>rfl
    | _::_::_=>rfl
theorem qnl {α : Type} {cs r : List α} {j s : Nat} (h : sub cs j s = some r) : j + s≤cs.length∧r = (cs.drop j).take s:=by
  unfold sub at h;split at h <;> simp at h;exact ⟨‹_›,h.symm⟩
theorem qao {α : Type} {cs r : List α} {j s : Nat} (h : sub cs j s = some r) : r.length = s∧∀ (i : Nat) (x : α),r[i]? = some x→cs[j + i]? = some x∧i < s:=by
  obtain ⟨b,rfl⟩:=qnl h
  refine ⟨by simp;omega,fun i x a=>?_⟩
  rw [List.getElem?_take] at a
  split at a
  · rw [List.getElem?_drop] at a;exact ⟨a,‹_›⟩
  · simp at a
theorem Jh (b o j : Nat) : (⟨b,o,none⟩ : Addr).add j = ⟨b,o + j,none⟩:=by
  unfold Addr.add;split <;> simp_all
theorem qsi {t : TypeId} {i : TI} {m : TypeInfo} {d : TypeDesc} {z : Value} (n : TiOk P t i m d z) {b o : Nat} {r : List V} {v : V} (hp : pack i.agg r = some v) (hr : r.length = i.size)
    (hc : ∀ (k : Nat) (x : V),r[k]? = some x→∃ c,w.cell? ⟨b,o + k,none⟩ = some c∧RelV w Z inj nx x c) :
    ∃ x,(Instr.loadAt t (.pointer (some ⟨b,o,none⟩))).run P w = .ok x w∧RelV w Z inj nx v x:=by
  have s : ∃ cs : List Value,cs.length = i.size∧∀ (k : Nat) (c : Value),cs[k]? = some c→w.cell? ⟨b,o + k,none⟩ = some c:=by
    refine ⟨(List.range i.size).map fun k=>(w.cell? ⟨b,o + k,none⟩).getD undef,qe,?_⟩
    intro k c u
    have p : k < i.size:=by have:=K3 u;simpa using this
    obtain ⟨x,hx⟩:=Z8 (xs:=r) (i:=k) q0
    obtain ⟨c',l,_⟩:=hc k x hx
    simp [p,l] at u
    rw [l,u]
  obtain ⟨cs,hl,a⟩:=s
  have h : ∀ (i : Nat) (d : V) (c : Value),r[i]? = some d→cs[i]? = some c→RelV w Z inj nx d c:=by
    intro k x c q h2
    obtain ⟨c',y,h4⟩:=hc k x q
    rw [a k c h2] at y;cases y;exact h4
  have f:=qla hp (by omega : r.length = cs.length) h
  have g : (isAgg t).run P w = .ok i.agg w:=by
    rw [n.agg]
    simp only [isAgg,Sem.run_bind,run_underlying n.und,Result.andThen_ok]
    cases d <;> rfl
  cases hb : i.agg with
  | true=>
    rw [hb] at f
    refine ⟨.agg cs.toArray,?_,f⟩
    have q:=run_loadCells_list (P:=P) w ⟨b,o,none⟩ cs (fun j v hj=>by rw [Jh];exact a j v hj)
    simp [Instr.loadAt,Instr.sureAddr,loadVar,g,hb,sizeOf,typeInfo,n.inf,n.size,← hl,q]
  | false=>
    rw [hb] at f
    match cs,hl,a,f with
    | [x],_,a,f=>
      refine ⟨x,?_,f⟩
      have:=a 0 x rfl
      simp only [Nat.add_zero] at this
      simp [Instr.loadAt,Instr.sureAddr,loadVar,g,hb,this]
end
end Go.Am
namespace Go.Am
open Go
variable {P : Program} {T : Tab}
def Ka (st st1 : AS) (v : V) (w : World) (Z : Nat→Prop) (inj : Inj) (r : Result Next) : Prop:=
  ∃ x w' inj',(r = .ok (.value x) w'∨(r = .ok .skip w'∧x = undef))∧RelV w' Z inj' st1.nx v x∧RelH w' Z inj' st1.hp st1.nx∧Ext w Z inj st.hp w' Z inj' st1.hp st.nx∧st1.sl = st.sl∧st.nx≤st1.nx
section
variable {w : World} {Z : Nat→Prop} {inj : Inj} {st : AS} {a : Act} {Ds : List Nat}
theorem Ka.quiet {v : V} {x : Value} {r : Result Next} (h : RelS w Z inj st a Ds) (b : r = .ok (.value x) w) (c : RelV w Z inj st.nx v x) : Ka st st v w Z inj r:=
  ⟨x,w,inj,.inl b,c,h.heap,.refl,rfl,Nat.le_refl _⟩
theorem K9 {s : Sem Value} {x : Value} {w' : World} (h : s.run P w = .ok x w') : (do pure (Next.value (← s)) : Sem Next).run P w = .ok (.value x) w':=by
  simp [h]
theorem Ka.new {v : V} {x : Value} {r : Result Next} {o : Obj} {blk : Blk} (h : RelS w Z inj st a Ds) (b : r = .ok (.value x) (w.alloc o))
    (hb : RelB (w.alloc o) Z (upd inj st.nx (some (w.heap.size,0))) (st.nx + 1) st.nx blk)
    (d : RelV (w.alloc o) Z (upd inj st.nx (some (w.heap.size,0))) (st.nx + 1) v x) (c : Unfr o:=by first | exact rfl | exact trivial) : Ka st (st.new blk) v w Z inj r:=
  ⟨x,_,_,.inl b,d,h.heap.new o blk 0 hb,Ext.new h.heap o blk 0 c,rfl,by simp [AS.new]⟩
theorem qm6 {v : V} {x : Value} (h : RelS w Z inj st a Ds) (o : Obj) (c : RelV w Z inj st.nx v x) : RelV (w.alloc o) Z (upd inj st.nx (some (w.heap.size,0))) (st.nx + 1) v x:=
  c.mono (fun _ d=>Zl w o (h.heap.zs _ d)) (fun _ h=>h) (q2b w o) (fun _ b=>Y4 _ _ b) q0
theorem qm2 {w : World} {nx n es : Nat} {xs : List (List V)} {arr : Array Value} {ty : TypeId} {b : Nat} (t : es≠0) (hi : inj n = some (b,0)) (hb : w.heap[b]? = some (.cells arr ty (0,0)))
    (q : ∀ (i : Nat) (x : List V),xs[i]? = some x→x.length = es)
    (h : ∀ (i : Nat) (x : List V) (j : Nat) (d : V),xs[i]? = some x→x[j]? = some d→Kc d = true∧∃ c,arr[i * es + j]? = some c∧RelV w Z inj nx d c) : RelB w Z inj nx n (q5d es xs):=by
  unfold q5d
  split
  · rename_i ys u
    obtain ⟨s,r⟩:=q8r u
    refine ⟨t,?_,.inr ⟨b,0,arr,ty,hi,hb,?_⟩⟩
    · intro i y f
      obtain ⟨x,g⟩:=Yc s f
      obtain ⟨v,a,hd⟩:=r i x g
      rw [f] at a;cases a
      have:=q i x g
      rw [q4q hd] at this;simpa using this
    · intro i y j d f k
      obtain ⟨x,g⟩:=Yc s f
      obtain ⟨v,a,hd⟩:=r i x g
      rw [f] at a;cases a
      have p:=q4q hd
      obtain ⟨o,c,m,l⟩:=h i x j (.d d) g (by rw [p];simp [k])
      refine ⟨o,c,by simpa using m,?_⟩
      cases l with | d h=>exact h
  · refine ⟨t,q,.inr ⟨b,0,arr,ty,hi,hb,?_⟩⟩
    intro i x j d g hd
    obtain ⟨o,c,m,l⟩:=h i x j d g hd
    exact ⟨o,c,by simpa using m,l⟩
theorem ql6 {o : Operand} {v : V} (h : RelS w Z inj st a Ds) (c : st.ev o = some v) {r : Result Next} (b : r = .ok (.value (a.eval o)) w) : Ka st st v w Z inj r:=
  .quiet h b (K2 h c)
theorem qtt {t : TypeId} {i : TI} (h : RelS w Z inj st a Ds) (r : tiOf P t = some i) :
    Ka st (st.new (.dat i.size [i.zero])) (.ref st.nx i.size 0 0) w Z inj ((do pure (Next.value (← Instr.alloc t true (.tuple #[]))) : Sem Next).run P w):=by
  obtain ⟨m,d,z,k⟩:=Yh r
  have g : (Instr.alloc t true (.tuple #[])).run P w = .ok (.pointer (some ⟨w.heap.size,0,none⟩)) (w.alloc (.cells z.cells t)):=by
    simp [Instr.alloc,zeroValue,typeInfo,k.inf,k.zero,newVar,newRow]
  obtain ⟨s,q⟩:=q8b (w:=w.alloc (.cells z.cells t)) (Z:=Z) k.cells
  refine .new h (K9 g) ?_ ?_
  · refine ⟨k.pos,?_,.inr ⟨w.heap.size,0,z.cells,t,Ks _ _ _,Ji _ _,?_⟩⟩
    · intro l x f
      cases l with
      | zero=>simp at f;subst f;exact k.len
      | succ n=>simp at f
    · intro l x j d f hd
      cases l with
      | zero=>
        simp at f;subst f
        obtain ⟨c,o,p,b,_⟩:=q j d hd
        exact ⟨b,c,by simpa using o,p⟩
      | succ n=>simp at f
  · have:=RelV.ref (w:=w.alloc (.cells z.cells t)) (Z:=Z) (inj:=upd inj st.nx (some (w.heap.size,0))) (nx:=st.nx + 1) (n:=st.nx) (es:=i.size) (i:=0) (j:=0) q0 (Ks _ _ _)
    simpa using this
theorem qtx {t : TypeId} {i : TI} {o : Operand} {v : V} (h : RelS w Z inj st a Ds) (y : tiOf P t = some i) (hv : st.ev o = some v) (s : (cellsOf v).length = i.size) (q : (cellsOf v).all Kc = true) :
    Ka st (st.new (q5d i.size [cellsOf v])) (.ref st.nx i.size 0 0) w Z inj ((do pure (Next.value (← Instr.box t (a.eval o))) : Sem Next).run P w):=by
  obtain ⟨r,d,z,k⟩:=Yh y
  have f:=K2 h hv
  have l : (Instr.box t (a.eval o)).run P w = .ok (.pointer (some ⟨w.heap.size,0,none⟩)) (w.alloc (.cells (a.eval o).cells t)):=by
    simp [Instr.box,newVar,newRow]
  have p:=qm6 h (.cells (a.eval o).cells t) f
  obtain ⟨h1,u,_⟩:=qbf p q
  refine .new h (K9 l) ?_ ?_
  · refine qm2 (b:=w.heap.size) (arr:=(a.eval o).cells) (ty:=t) k.pos (Ks _ _ _) (Ji _ _) ?_ ?_
    · intro m x f
      cases m with
      | zero=>simp at f;subst f;exact s
      | succ n=>simp at f
    · intro m x j d f hd
      cases m with
      | zero=>
        simp at f;subst f
        obtain ⟨c,g⟩:=Kt (xs:=(a.eval o).cells) (i:=j) (by have:=K3 hd;omega)
        exact ⟨List.all_eq_true.1 q _ (List.mem_of_getElem? hd),c,by simpa using g,u j d c hd g⟩
      | succ n=>simp at f
  · have:=RelV.ref (w:=w.alloc (.cells (a.eval o).cells t)) (Z:=Z) (inj:=upd inj st.nx (some (w.heap.size,0))) (nx:=st.nx + 1) (n:=st.nx) (es:=i.size) (i:=0) (j:=0) q0 (Ks _ _ _)
    simpa using this
theorem q1r {α : Type} (cs ys : List α) (o : Nat) (h : o + ys.length≤cs.length) : (splice cs o ys).length = cs.length:=by simp [splice];omega
theorem Ju {α : Type} (cs ys : List α) (o j : Nat) (h : o + ys.length≤cs.length) : (splice cs o ys)[j]? = if o≤j∧j < o + ys.length then ys[j - o]? else cs[j]?:=by
  have e : (cs.take o).length = o:=by simp;omega
  by_cases a : j < o
  · rw [if_neg q0,splice,List.append_assoc,List.getElem?_append_left q0,List.getElem?_take,if_pos a]
  · by_cases b : j < o + ys.length
    · rw [if_pos q0,splice,List.append_assoc,List.getElem?_append_right q0,e,List.getElem?_append_left q0]
    · rw [if_neg q0,splice,List.getElem?_append_right (by simp;omega),List.getElem?_drop]
      congr 1
      rw [List.length_append,e];omega
theorem qj6 (off : Nat) : ∀ (l : List Value) (s : Nat) (cs : Array Value),off + s + l.length≤cs.size→
    ((l.zipIdx s).foldl (fun (cs : Array Value) (x : Value × Nat)=>cs.setIfInBounds (off + x.2) x.1) cs).size = cs.size∧
    ∀ j : Nat,((l.zipIdx s).foldl (fun (cs : Array Value) (x : Value × Nat)=>cs.setIfInBounds (off + x.2) x.1) cs)[j]? = if off + s≤j∧j < off + s + l.length then l[j - (off + s)]? else cs[j]?
  | [],s,cs,_=>by
    refine ⟨rfl,fun j=>?_⟩
    have : ¬ (off + s≤j∧j < off + s + ([] : List Value).length):=by simp
    rw [if_neg this];rfl
  | v::r,s,cs,h=>by
    obtain ⟨g,d⟩:=qj6 off r (s + 1) (cs.setIfInBounds (off + s) v) (by simp at h ⊢;omega)
    simp only [List.zipIdx_cons,List.foldl_cons]
    refine ⟨by rw [g];simp,fun j=>?_⟩
    rw [d j]
    simp only [List.length_cons] at h ⊢
    by_cases b : off + (s + 1)≤j∧j < off + (s + 1) + r.length
    · have a : off + s≤j∧j < off + s + (r.length + 1):=by omega
      rw [if_pos b,if_pos a,show j - (off + s) = (j - (off + (s + 1))) + 1 by omega,List.getElem?_cons_succ]
    · rw [if_neg b,Array.getElem?_setIfInBounds]
      by_cases c : off + s = j
      · have a : off + s≤j∧j < off + s + (r.length + 1):=by omega
        have f : j < cs.size:=by omega
        rw [if_pos c,if_pos a,if_pos q0,show j - (off + s) = 0 by omega]
        rfl
      · have a : ¬ (off + s≤j∧j < off + s + (r.length + 1)):=by omega
        rw [if_neg c,if_neg a]
theorem qj7 (a cs : Array Value) (off : Nat) (h : off + a.size≤cs.size) :
    a.zipIdx.foldl (fun (cs : Array Value) (x : Value × Nat)=>cs.setIfInBounds (off + x.2) x.1) cs = (splice cs.toList off a.toList).toArray:=by
  rw [← Array.foldl_toList,Array.toList_zipIdx]
  obtain ⟨c,b⟩:=qj6 off a.toList 0 cs (by simpa using h)
  have hs:=q1r cs.toList a.toList off (by simpa using h)
  apply Array.ext'
  apply List.ext_getElem?
  intro j
  rw [Array.getElem?_toList,b j,Ju _ _ _ _ (by simpa using h)]
  simp
def LRel (w : World) (Z : Nat→Prop) (inj : Inj) (nx : Nat) (cs : List V) (xs : Array Value) : Prop:=
  cs.length = xs.size∧∀ (i : Nat) (d : V) (c : Value),cs[i]? = some d→xs[i]? = some c→RelV w Z inj nx d c
theorem LRel.splice {w : World} {nx : Nat} {cs ys : List V} {xs g : Array Value} {o : Nat} (h : LRel w Z inj nx cs xs) (j : LRel w Z inj nx ys g) (k : o + ys.length≤cs.length) :
    LRel w Z inj nx (Am.splice cs o ys) (Am.splice xs.toList o g.toList).toArray:=by
  have l:=h.1
  have m:=j.1
  have f : o + g.toList.length≤xs.toList.length:=by simp;omega
  refine ⟨by simp [q1r _ _ _ k,q1r _ _ _ f,h.1],fun i d c hd b=>?_⟩
  rw [Ju _ _ _ _ k] at hd
  rw [List.getElem?_toArray,Ju _ _ _ _ f] at b
  have e : g.toList.length = ys.length:=by simp;omega
  rw [e] at b
  split at hd
  · rename_i a
    rw [if_pos a] at b
    exact j.2 _ _ _ hd (by simpa using b)
  · rename_i a
    rw [if_neg a] at b
    exact h.2 _ _ _ hd (by simpa using b)
theorem qix {b : List (Nat × Operand)} {c : List (Nat × V)} (h : RelS w Z inj st a Ds) (hp : Zy st.ev b = some c) :
    c.length = b.length∧∀ (k : Nat) (i : Nat) (v : V),c[k]? = some (i,v)→∃ o,b[k]? = some (i,o)∧RelV w Z inj st.nx v (a.eval o):=by
  induction b generalizing c with
  | nil=>simp [Zy] at hp;subst hp;simp
  | cons x r ih=>
    obtain ⟨i,o⟩:=x
    simp only [Zy] at hp
    cases f : st.ev o with
    | none=>simp [f] at hp
    | some v=>
      cases g : Zy st.ev r with
      | none=>simp [f,g] at hp
      | some l=>
        simp [f,g] at hp;subst hp
        obtain ⟨s,n⟩:=ih g
        refine ⟨by simp [s],fun k m p d=>?_⟩
        cases k with
        | zero=>simp at d;obtain ⟨rfl,rfl⟩:=d;exact ⟨o,qe,K2 h f⟩
        | succ k=>simp at d;obtain ⟨t,q,j⟩:=n k m p d;exact ⟨t,by simpa using q,j⟩
theorem q8j {os : List Operand} {g : List V} (h : RelS w Z inj st a Ds) (hp : evL st.ev os = some g) : LRel w Z inj st.nx g (os.map a.eval).toArray:=by
  induction os generalizing g with
  | nil=>simp [evL] at hp;subst hp;exact ⟨qe,qe⟩
  | cons o r ih=>
    simp only [evL] at hp
    cases f : st.ev o with
    | none=>simp [f] at hp
    | some v=>
      cases j : evL st.ev r with
      | none=>simp [f,j] at hp
      | some l=>
        simp [f,j] at hp;subst hp
        obtain ⟨n,m⟩:=ih j
        refine ⟨by simpa using n,fun k d c hd b=>?_⟩
        cases k with
        | zero=>simp at hd b;subst hd b;exact K2 h f
        | succ k=>simp at hd b;exact m k d c hd (by simpa using b)
theorem qem {w : World} {nx : Nat} (place : Nat→Option (Nat × Nat)) : ∀ (b : List (Nat × V)) (xs : List (Nat × Value)) (l : List (Nat × List V)) (cs a : List V) (C : Array Value),
    b.length = xs.length→(∀ (k : Nat) (i : Nat) (v : V),b[k]? = some (i,v)→∃ x,xs[k]? = some (i,x)∧RelV w Z inj nx v x)→
    l.length = b.length→(∀ (k : Nat) (i : Nat) (v : V),b[k]? = some (i,v)→∃ o s,place i = some (o,s)∧(cellsOf v).length = s∧(cellsOf v).all Kc = true∧l[k]? = some (o,cellsOf v))→
    LRel w Z inj nx cs C→q4v cs l = some a→∃ h,Instr.fill place C xs = some h∧LRel w Z inj nx a h
  | [],xs,l,cs,a,C,h1,_,h3,_,h5,h6=>by
    have : xs = []:=by cases xs <;> simp_all
    have : l = []:=by cases l <;> simp_all
    subst_vars
    simp [q4v] at h6;subst h6
    exact ⟨C,by simp [Instr.fill],h5⟩
  | (i,v)::b,xs,l,cs,a,C,h1,h2,h3,h4,h5,h6=>by
    match xs,l,h1,h3 with
    | (i',x)::xs,(o',ys)::l,h1,h3=>
      obtain ⟨x',d,u⟩:=h2 0 i v rfl
      simp at d;obtain ⟨rfl,rfl⟩:=d
      obtain ⟨o,s,hp,hl,t,c⟩:=h4 0 i' v rfl
      simp at c;obtain ⟨rfl,rfl⟩:=c
      obtain ⟨y,r,z⟩:=qbf u t
      simp only [q4v] at h6
      split at h6
      · rename_i g
        have j : x.cells.size = s:=by omega
        have m : ¬ (o' + x.cells.size > C.size):=by have:=h5.1;omega
        obtain ⟨h,n,f⟩:=qem place b xs l (splice cs o' (cellsOf v)) a (splice C.toList o' x.cells.toList).toArray (by simpa using h1)
          (fun k i v q=>by obtain ⟨x,p⟩:=h2 (k + 1) i v (by simpa using q);exact ⟨x,by simpa using p⟩) (by simpa using h3)
          (fun k i v q=>by obtain ⟨o,s,p⟩:=h4 (k + 1) i v (by simpa using q);exact ⟨o,s,by simpa using p⟩)
          (h5.splice ⟨y,r⟩ g) h6
        refine ⟨h,?_,f⟩
        simp only [Instr.fill,hp,j]
        have : ¬ ((decide (s≠s) || decide (o' + s > C.size)) = true):=by simp;omega
        rw [if_neg (by simpa using this)]
        rw [qj7 x.cells C o' q0]
        exact n
      · simp at h6
end
end Go.Am
namespace Go.Am
open Go
variable {P : Program} {T : Tab}
section
variable {w : World} {Z : Nat→Prop} {inj : Inj} {nx : Nat}
theorem qmd {α β : Type} {f : α→Sem β} {g : α→β} : ∀ {l : List α},(∀ x∈l,(f x).run P w = .ok (g x) w)→(l.mapM f).run P w = .ok (l.map g) w
  | [],_=>by simp
  | x::r,h=>by
    have c:=h x qe
    have b:=qmd (l:=r) (fun y a=>h y (by simp [a]))
    simp [List.mapM_cons,c,b]
theorem qwm {α β : Type} {f : α→Sem β} {g : α→β} {l : Array α} (h : ∀ x∈l.toList,(f x).run P w = .ok (g x) w) : (l.mapM f).run P w = .ok (l.toList.map g).toArray w:=by
  rw [Array.mapM_eq_mapM_toList,Sem.run_map,qmd h];rfl
theorem qj3 {k : Array Field} {j : List (Nat × Nat × Bool)} (h : (k.toList.mapM fun f => do
      let a ← P.info? f.type
      let c ← P.underlying f.type
      if a.size = 0 then none else some (f.offset,a.size,K4 c)) = some j) :
    j.length = k.size∧∀ (i : Nat) (f : Field),k[i]? = some f→∃ a c,P.info? f.type = some a∧P.underlying f.type = some c∧a.size≠0∧j[i]? = some (f.offset,a.size,K4 c):=by
  obtain ⟨p,n⟩:=q8r h
  refine ⟨by simpa using p,fun i f o=>?_⟩
  obtain ⟨y,m,b⟩:=n i f (by simpa using o)
  cases d : P.info? f.type with
  | none=>simp [d] at b
  | some a=>
    cases l : P.underlying f.type with
    | none=>simp [d,l] at b
    | some c=>
      simp only [d,l,Option.bind_eq_bind,Option.bind_some] at b
      split at b
      · simp at b
      · rename_i g
        simp at b;subst b
        exact ⟨a,c,rfl,rfl,g,m⟩
theorem qep {c : Array Field} {j : List (Nat × Nat × Bool)} (h : (c.toList.mapM fun f => do
      let a ← P.info? f.type
      let b ← P.underlying f.type
      if a.size = 0 then none else some (f.offset,a.size,K4 b)) = some j) {i off s : Nat} {ag : Bool} (hi : j[i]? = some (off,s,ag)) :
    ∃ f a b,c[i]? = some f∧P.info? f.type = some a∧P.underlying f.type = some b∧a.size = s∧s≠0∧f.offset = off∧K4 b = ag:=by
  obtain ⟨o,m⟩:=qj3 h
  obtain ⟨f,g⟩:=Kt (xs:=c) (i:=i) (by have:=K3 hi;omega)
  obtain ⟨a,b,n,l,k,d⟩:=m i f g
  rw [hi] at d;simp at d
  obtain ⟨rfl,rfl,rfl⟩:=d
  exact ⟨f,a,b,g,n,l,rfl,k,rfl,rfl⟩
theorem qli {a : TI} : ∀ {c : List (Nat × V)} {l : List (Nat × List V)},placed a c = some l→l.length = c.length∧∀ (k i : Nat) (v : V),c[k]? = some (i,v)→∃ o s,
    (match a.kind with | .struct=>(a.flds[i]?).map fun f=>(f.1,f.2.1) | .array=>some (i * a.esize,a.esize) | _=>none) = some (o,s)∧(cellsOf v).length = s∧(cellsOf v).all Kc = true∧l[k]? = some (o,cellsOf v)
  | [],l,h=>by simp [placed] at h;subst h;simp
  | (i,v)::r,l,h=>by
    simp only [placed] at h
    split at h
    · rename_i o s l' u n
      split at h
      · rename_i d
        simp at h;subst h
        obtain ⟨t,m⟩:=qli n
        refine ⟨by simp [t],fun k g q b=>?_⟩
        cases k with
        | zero=>simp at b;obtain ⟨rfl,rfl⟩:=b;exact ⟨o,s,u,d.1,d.2,qe⟩
        | succ k=>simp at b;obtain ⟨w,j,p⟩:=m k g q b;exact ⟨w,j,by simpa using p⟩
      · simp at h
    · simp at h
theorem q13g {t : TypeId} {i : TI} {b : TypeInfo} {d : TypeDesc} {z : Value} (k : TiOk P t i b d z) : LRel w Z inj nx (i.zero.map .d) z.cells:=by
  obtain ⟨n,l⟩:=q8b (w:=w) (Z:=Z) k.cells
  refine ⟨by simpa using n,fun j d c hd g=>?_⟩
  simp only [List.getElem?_map,Option.map_eq_some_iff] at hd
  obtain ⟨m,f,rfl⟩:=hd
  obtain ⟨o,a,h,_⟩:=l j m f
  rw [g] at a;cases a;exact .d h
theorem Z5 {t : TypeId} {a : TypeInfo} (h : P.info? t = some a) : (sizeOf t).run P w = .ok a.size w:=by simp [sizeOf,typeInfo,h]
theorem q2a {t : TypeId} {d : TypeDesc} (h : P.underlying t = some d) : (isAgg t).run P w = .ok (K4 d) w:=by
  simp only [isAgg,Sem.run_bind,run_underlying h,Result.andThen_ok]
  cases d <;> rfl
theorem qle {t : TypeId} {a : TypeInfo} {d : TypeDesc} (s : P.info? t = some a) (n : P.underlying t = some d) {cs r : List V} {xs : Array Value} {off : Nat} {v : V} (l : LRel w Z inj nx cs xs)
    (hs : sub cs off a.size = some r) (hp : pack (K4 d) r = some v) : ∃ x,(part t xs off).run P w = .ok x w∧RelV w Z inj nx v x:=by
  obtain ⟨o,j⟩:=qao hs
  have y:=(qnl hs).1
  have p:=l.1
  have f : ∀ (i : Nat) (d : V) (c : Value),r[i]? = some d→(xs.extract off (off + a.size)).toList[i]? = some c→RelV w Z inj nx d c:=by
    intro i d c hd h
    obtain ⟨g,u⟩:=j i d hd
    refine l.2 _ _ _ g ?_
    rw [Array.getElem?_toList,Array.getElem?_extract] at h
    split at h <;> first | exact h | simp at h
  have k : r.length = (xs.extract off (off + a.size)).toList.length:=by simp;omega
  have b:=qla hp k f
  cases hb : K4 d with
  | true=>
    rw [hb] at b
    refine ⟨.agg (xs.extract off (off + a.size)),?_,by
      have q : RelV w Z inj nx v (.agg (xs.extract off (off + a.size)).toList.toArray):=b
      rwa [Array.toArray_toList] at q⟩
    simp [part,q2a n,hb,Z5 s]
  | false=>
    rw [hb] at b hp
    match r,hp,o,j with
    | [c],hp,o,j=>
      simp only [pack,Option.some.injEq] at hp;subst hp
      have g:=(j 0 c rfl).1
      simp only [Nat.add_zero] at g
      obtain ⟨x,m⟩:=Kt (xs:=xs) (i:=off) (by have:=K3 g;omega)
      exact ⟨x,by simp [part,q2a n,hb,m],l.2 _ _ _ g m⟩
end
section
variable {w : World} {Z : Nat→Prop} {inj : Inj} {st : AS} {a : Act} {Ds : List Nat}
theorem qty {t : TypeId} {i : TI} {g : Array (Nat × Operand)} {u : List (Nat × V)} {l : List (Nat × List V)} {cs : List V} (h : RelS w Z inj st a Ds) (ht : tiOf P t = some i) (hv : Zy st.ev g.toList = some u)
    (ha : i.agg = true) (hl : placed i u = some l) (hf : q4v (i.zero.map .d) l = some cs) :
    Ka st st (q5c cs) w Z inj ((do pure (Next.value (← Instr.build t (g.map fun (i,x)=>(i,a.eval x)))) : Sem Next).run P w):=by
  obtain ⟨aw,d,z,k⟩:=Yh ht
  obtain ⟨p1,p2⟩:=qix h hv
  obtain ⟨q1,q2⟩:=qli hl
  have hz:=q13g (w:=w) (Z:=Z) (inj:=inj) (nx:=st.nx) k
  have ab : ∀ (k i : Nat) (v : V),u[k]? = some (i,v)→∃ x,(g.toList.map fun (x : Nat × Operand)=>(x.1,a.eval x.2))[k]? = some (i,x)∧RelV w Z inj st.nx v x:=by
    intro k i v hk
    obtain ⟨o,ho,c⟩:=p2 k i v hk
    exact ⟨a.eval o,by simp only [List.getElem?_map,ho];rfl,c⟩
  have y : (zeroValue t).run P w = .ok z w:=by simp [zeroValue,typeInfo,k.inf,k.zero]
  have b:=k.kind
  unfold Z7 at b
  cases hk : i.kind <;> simp only [hk,TI.agg] at b ha
  case struct=>
    obtain ⟨fs,rfl,q⟩:=b
    obtain ⟨_,af⟩:=qj3 q
    obtain ⟨C',hC,c⟩:=qem (fun i=>((fs.toList.map fun (f : Field)=>(f.offset,((P.info? f.type).map (·.size)).getD 0)).toArray)[i]?) u (g.toList.map fun (x : Nat × Operand)=>(x.1,a.eval x.2)) l _ cs z.cells (by simp [p1]) ab q1
      (fun k i' v m=>by
        obtain ⟨o,s,r,h2,h3,h4⟩:=q2 k i' v m
        simp only [hk,Option.map_eq_some_iff] at r
        obtain ⟨⟨o',s',ag⟩,h5,h6⟩:=r
        simp at h6;obtain ⟨rfl,rfl⟩:=h6
        obtain ⟨f,jf,df,p,g2,_,g4,_,g6,_⟩:=qep q h5
        exact ⟨o',s',by simp [p,g2,g4,g6],h2,h3,h4⟩) hz hf
    refine .quiet h (K9 (x:=.agg C') ?_) (qfj c.1 c.2)
    have hm : (fs.mapM fun f=>do pure (f.offset,← sizeOf f.type) : Sem (Array (Nat × Nat))).run P w = .ok (fs.toList.map fun (f : Field)=>(f.offset,((P.info? f.type).map (·.size)).getD 0)).toArray w:=by
      refine qwm fun f hf=>?_
      obtain ⟨j,hj⟩:=List.mem_iff_getElem?.1 hf
      obtain ⟨jf,df,p,_⟩:=af j f (by simpa using hj)
      simp [Z5 p,p]
    simp only [Instr.build,Sem.run_bind,y,Result.andThen_ok,run_underlying k.und,hm]
    have n : Instr.fill (fun x=>((fs.toList.map fun (f : Field)=>(f.offset,((P.info? f.type).map (·.size)).getD 0)).toArray)[x]?) z.cells (g.map fun (x : Nat × Operand)=>(x.1,a.eval x.2)).toList = some C':=by simpa using hC
    simp only [n]
    rfl
  case array=>
    obtain ⟨e,ie,de,rfl,p,g2,g3,g4,_⟩:=b
    obtain ⟨C',hC,c⟩:=qem (fun j=>some (j * i.esize,i.esize)) u (g.toList.map fun (x : Nat × Operand)=>(x.1,a.eval x.2)) l _ cs z.cells (by simp [p1]) ab q1
      (fun k i' v m=>by
        obtain ⟨o,s,r,h2,h3,h4⟩:=q2 k i' v m
        simp only [hk] at r
        exact ⟨o,s,r,h2,h3,h4⟩) hz hf
    refine .quiet h (K9 (x:=.agg C') ?_) (qfj c.1 c.2)
    have n : Instr.fill (fun j=>some (j * i.esize,i.esize)) z.cells (g.map fun (x : Nat × Operand)=>(x.1,a.eval x.2)).toList = some C':=by simpa using hC
    simp only [Instr.build,Sem.run_bind,y,Result.andThen_ok,run_underlying k.und,Z5 p,g3,n]
    rfl
  all_goals simp at ha
theorem qkg {t : TypeId} {i : TI} {pv v : V} {vp : Value} (h : RelH w Z inj st.hp st.nx) (ht : tiOf P t = some i) (hx : RelV w Z inj st.nx pv vp) (a : Jp st i pv = some v) :
    ∃ b o x,vp = .pointer (some ⟨b,o,none⟩)∧(Instr.loadAt t vp).run P w = .ok x w∧RelV w Z inj st.nx v x:=by
  obtain ⟨ao,d,z,k⟩:=Yh ht
  have fin : ∀ {b o : Nat} {r : List V} {pp : Value},pp = .pointer (some ⟨b,o,none⟩)→pack i.agg r = some v→r.length = i.size→
      (∀ (k : Nat) (x : V),r[k]? = some x→∃ c,w.cell? ⟨b,o + k,none⟩ = some c∧RelV w Z inj st.nx x c)→∃ b o x,pp = .pointer (some ⟨b,o,none⟩)∧(Instr.loadAt t pp).run P w = .ok x w∧RelV w Z inj st.nx v x:=by
    intro b o r pp p aj af hc
    obtain ⟨x,ad,ac⟩:=qsi (P:=P) k aj af hc
    exact ⟨b,o,x,p,by rw [p];exact ad,ac⟩
  cases pv <;> simp only [Jp,reduceCtorEq] at a
  case ref n es e j=>
    cases hx with
    | @ref _ _ _ _ b o hn hi=>
    cases hb : st.blk n with
    | none=>simp [hb] at a
    | some blk=>
      have hB:=(h.blk n blk hb).2
      cases blk with
      | dead=>simp [hb] at a
      | loop=>simp [hb] at a
      | mp=>simp [hb] at a
      | dat es' xs=>
        simp only [hb] at a
        split at a <;> try simp at a
        rename_i cs p g
        have p:=Nat.eq_of_beq_eq_true p
        subst p
        cases hs : sub cs j i.size with
        | none=>simp [hs] at a
        | some r=>
          simp only [hs] at a
          rw [qfu] at a
          obtain ⟨u,s⟩:=qao hs
          obtain ⟨b1,b2,f⟩:=hB
          rcases f with ⟨f,_⟩ | ⟨b',o',arr,ty,f,b4,b5⟩
          · subst f;simp at g
          · rw [hi] at f;cases f
            refine fin rfl a (by simpa using u) ?_
            intro k x q
            simp only [List.getElem?_map,Option.map_eq_some_iff] at q
            obtain ⟨y,hy,rfl⟩:=q
            obtain ⟨m,_⟩:=s k y hy
            obtain ⟨_,c,h4,h5⟩:=b5 e cs (j + k) y g m
            exact ⟨c,by simp only [World.cell?,b4];rw [← h4];simp [Nat.add_assoc],.d h5⟩
      | cel es' xs=>
        simp only [hb] at a
        split at a <;> try simp at a
        rename_i cs p g
        have p:=Nat.eq_of_beq_eq_true p
        subst p
        cases hs : sub cs j i.size with
        | none=>simp [hs] at a
        | some r=>
          simp only [hs] at a
          obtain ⟨u,s⟩:=qao hs
          obtain ⟨b1,b2,f⟩:=hB
          rcases f with ⟨f,_⟩ | ⟨b',o',arr,ty,f,b4,b5⟩
          · subst f;simp at g
          · rw [hi] at f;cases f
            refine fin rfl a u ?_
            intro k x q
            obtain ⟨m,_⟩:=s k x q
            obtain ⟨_,c,h4,h5⟩:=b5 e cs (j + k) x g m
            exact ⟨c,by simp only [World.cell?,b4];rw [← h4];simp [Nat.add_assoc],h5⟩
  case dref cs j=>
    cases hx with
    | @dref _ _ b o hz hc hr=>
    cases hs : sub cs j i.size with
    | none=>simp [hs] at a
    | some r=>
      simp only [hs] at a
      rw [qfu] at a
      obtain ⟨u,s⟩:=qao hs
      refine fin rfl a (by simpa using u) ?_
      intro k x q
      simp only [List.getElem?_map,Option.map_eq_some_iff] at q
      obtain ⟨y,hy,rfl⟩:=q
      obtain ⟨m,_⟩:=s k y hy
      obtain ⟨c,l⟩:=hc _ _ m
      exact ⟨c,by rw [← l,Nat.add_assoc],.d (hr _ _ _ m l)⟩
  case d x=>
    cases x <;> simp only [reduceCtorEq] at a
    rename_i cs
    cases hx with
    | d hx=>
    cases hx with
    | @box _ b o hz hc hr=>
    cases hs : sub cs 0 i.size with
    | none=>simp [hs] at a
    | some r=>
      simp only [hs] at a
      rw [qfu] at a
      obtain ⟨u,s⟩:=qao hs
      refine fin rfl a (by simpa using u) ?_
      intro k x q
      simp only [List.getElem?_map,Option.map_eq_some_iff] at q
      obtain ⟨y,hy,rfl⟩:=q
      obtain ⟨m,_⟩:=s k y hy
      rw [Nat.zero_add] at m
      obtain ⟨c,l⟩:=hc _ _ m
      exact ⟨c,l,.d (hr _ _ _ m l)⟩
theorem qu9 {t : TypeId} {i : TI} {p : Operand} {pv v : V} (h : RelS w Z inj st a Ds) (g : tiOf P t = some i) (hp : st.ev p = some pv) (d : Jp st i pv = some v) :
    Ka st st v w Z inj ((do pure (Next.value (← Instr.loadAt t (a.eval p))) : Sem Next).run P w):=by
  obtain ⟨b,o,x,_,c,f⟩:=qkg (P:=P) h.heap g (K2 h hp) d
  exact .quiet h (K9 c) f
end
end Go.Am
namespace Go.Am
open Go
variable {P : Program} {T : Tab}
theorem qe1 : ∀ {c d : List (Option IntKind)} {a b : List DV} {r : Bool},K6 (c ++ d) a b = some r→
    ∃ p q,K6 c (a.take c.length) (b.take c.length) = some p∧K6 d (a.drop c.length) (b.drop c.length) = some q∧r = (p && q)
  | [],d,a,b,r,h=>⟨true,r,by simp [K6],by simpa using h,qe⟩
  | k::c,d,a,b,r,h=>by
    match a,b,h with
    | x::a,y::b,h=>
      simp only [List.cons_append,K6] at h
      split at h <;> simp at h
      rename_i u v l g
      obtain ⟨p,q,j,f,m⟩:=qe1 g
      refine ⟨u && p,q,by simp [K6,l,j],by simpa using f,?_⟩
      rw [← h,m,Bool.and_assoc]
    | [],_,h=>simp [K6] at h
    | _::_,[],h=>simp [K6] at h
theorem qbe : ∀ {ks : List (Option IntKind)} {a b : List DV} {r : Bool},K6 ks a b = some r→a.length = ks.length∧b.length = ks.length
  | [],[],[],_,_=>⟨rfl,rfl⟩
  | k::ks,x::a,y::b,r,h=>by
    simp only [K6] at h
    split at h <;> simp at h
    rename_i d c
    have:=qbe c
    simp;omega
  | [],_::_,_,_,h=>by simp [K6] at h
  | [],[],_::_,_,h=>by simp [K6] at h
  | _::_,[],_,_,h=>by simp [K6] at h
  | _::_,_::_,[],_,h=>by simp [K6] at h
section
variable {w : World} {Z : Nat→Prop}
def DRel (w : World) (Z : Nat→Prop) (ds : List DV) (cs : Array Value) : Prop:=ds.length = cs.size∧∀ (i : Nat) (d : DV) (c : Value),ds[i]? = some d→cs[i]? = some c→RelD w Z d c
theorem DRel.extract {ds : List DV} {cs : Array Value} (h : DRel w Z ds cs) (o s : Nat) (hs : o + s≤ds.length) : DRel w Z ((ds.drop o).take s) (cs.extract o (o + s)):=by
  have b:=h.1
  refine ⟨by simp;omega,fun i d c hd a=>?_⟩
  rw [List.getElem?_take] at hd
  split at hd
  · rw [List.getElem?_drop] at hd
    rw [Array.getElem?_extract] at a
    split at a
    · exact h.2 _ _ _ hd a
    · simp at a
  · simp at hd
theorem qdc {t : TypeId} {d : TypeDesc} (h : P.underlying t = some d) : ∃ a,P.info? t = some a∧P.cellsOf t = a.size:=by
  cases hi : P.info? t with
  | none=>simp [Program.underlying,hi] at h
  | some a=>exact ⟨a,rfl,by simp [Program.cellsOf,hi]⟩
def EqOk (P : Program) (w : World) (Z : Nat→Prop) (k : Nat) (t : TypeId) (desc : TypeDesc) (ks : List (Option IntKind)) : Prop:=
  ∀ (xs ys : List DV) (X Y : Array Value) (r : Bool),DRel w Z xs X→DRel w Z ys Y→K6 ks xs ys = some r→
    (K4 desc = true→(Op.equalIn k t (.agg X) (.agg Y)).run P w = .ok r w)∧(K4 desc = false→ks.length = 1∧∀ x y,X[0]? = some x→Y[0]? = some y→(Op.equalIn k t x y).run P w = .ok r w)
def q8f (k : Nat) (X Y : Array Value) (f : Field) (_s : Option Bool × Unit) : Sem (ForInStep (Option Bool × Unit)):=
  if f.name ≠ "_" then do
    let __do_lift ← part f.type X f.offset
    let __do_lift_1 ← part f.type Y f.offset
    let __do_lift ← Op.equalIn k f.type __do_lift __do_lift_1
    if (!__do_lift) = true then pure (ForInStep.done (some false,())) else pure (ForInStep.yield (none,()))
  else pure (ForInStep.yield (none,()))
theorem qiw {k : Nat} {t : TypeId} {desc : TypeDesc} {b : TypeInfo} {ks : List (Option IntKind)} (h : EqOk P w Z k t desc ks) (f : P.underlying t = some desc) (hi : P.info? t = some b) (hs : b.size = ks.length)
    {xs ys : List DV} {X Y : Array Value} (q : DRel w Z xs X) (m : DRel w Z ys Y) {o : Nat} (l : o + ks.length≤xs.length) (g : o + ks.length≤ys.length) {p : Bool}
    (hp : K6 ks ((xs.drop o).take ks.length) ((ys.drop o).take ks.length) = some p) :
    ∃ n s,(part t X o).run P w = .ok n w∧(part t Y o).run P w = .ok s w∧(Op.equalIn k t n s).run P w = .ok p w:=by
  obtain ⟨v,j⟩:=h _ _ _ _ p (q.extract o ks.length l) (m.extract o ks.length g) hp
  cases a : K4 desc with
  | true=>
    exact ⟨.agg (X.extract o (o + ks.length)),.agg (Y.extract o (o + ks.length)),by simp [part,q2a f,a,Z5 hi,hs],by simp [part,q2a f,a,Z5 hi,hs],v a⟩
  | false=>
    obtain ⟨r,j⟩:=j a
    have z:=q.1
    have u:=m.1
    obtain ⟨x,d⟩:=Kt (xs:=X) (i:=o) q0
    obtain ⟨y,c⟩:=Kt (xs:=Y) (i:=o) q0
    refine ⟨x,y,by simp [part,q2a f,a,d],by simp [part,q2a f,a,c],j x y ?_ ?_⟩
    · rw [Array.getElem?_extract,r,if_pos (by have:=Yp d;omega)];exact d
    · rw [Array.getElem?_extract,r,if_pos (by have:=Yp c;omega)];exact c
theorem qit (d : Nat) (k : Nat) (s : ∀ t desc ks,P.underlying t = some desc→K8 P d t = some ks→EqOk P w Z k t desc ks)
    (xs ys : List DV) (X Y : Array Value) (v : DRel w Z xs X) (u : DRel w Z ys Y) : ∀ (l : List Field) (o : Nat) (r : Bool) (ks : List (Option IntKind)),tile P (K8 P d) o l = some ks→o + ks.length≤xs.length→o + ks.length≤ys.length→
    K6 ks (xs.drop o) (ys.drop o) = some r→(forIn l ((none : Option Bool),()) (q8f k X Y) : Sem (Option Bool × Unit)).run P w = .ok (if r then (none,()) else (some false,())) w
  | [],o,r,ks,ht,_,_,hc=>by
    simp only [tile,Option.some.injEq] at ht;subst ht
    obtain ⟨z,y⟩:=qbe hc
    rw [List.eq_nil_of_length_eq_zero z,List.eq_nil_of_length_eq_zero y] at hc
    simp [K6] at hc;subst hc
    simp
  | f::l,o,r,ks,ht,hlx,hly,hc=>by
    simp only [tile] at ht
    cases a : K8 P d f.type with
    | none=>simp [a] at ht
    | some ka=>
      simp only [a] at ht
      split at ht <;> try simp at ht
      rename_i b
      obtain ⟨rfl,hn,ac⟩:=b
      cases g : tile P (K8 P d) (f.offset + ka.length) l with
      | none=>simp [g] at ht
      | some kb=>
        simp only [g,Option.some.injEq] at ht;subst ht
        simp only [List.length_append] at hlx hly
        obtain ⟨p,q,hp,n,m⟩:=qe1 hc
        rw [List.drop_drop,List.drop_drop] at n
        obtain ⟨h,c⟩ : ∃ h,P.underlying f.type = some h:=by
          cases hu : P.underlying f.type with
          | none=>cases d <;> simp [K8,hu] at a
          | some h=>exact ⟨h,rfl⟩
        obtain ⟨jf,j,x⟩:=qdc c
        obtain ⟨vx,vy,g1,g2,g3⟩:=qiw (s f.type h ka c a) c j q0 v u (o:=f.offset) q0 q0 hp
        rw [List.forIn_cons]
        simp only [q8f,if_pos hn,Sem.run_bind,g1,g2,g3,Result.andThen_ok]
        cases p with
        | false=>simp [m]
        | true=>
          have:=qit d k s xs ys X Y v u l (f.offset + ka.length) q kb g q0 q0 n
          simp only [Bool.true_and] at m
          subst m
          simpa using this
def q8g (k : Nat) (e : TypeId) (n : Nat) (X Y : Array Value) (i : Nat) (_s : Option Bool × Unit) : Sem (ForInStep (Option Bool × Unit)):=do
  let __do_lift ← part e X (i * n)
  let __do_lift_1 ← part e Y (i * n)
  let __do_lift ← Op.equalIn k e __do_lift __do_lift_1
  if (!__do_lift) = true then pure (ForInStep.done (some false,())) else pure (ForInStep.yield (none,()))
theorem qiu {k : Nat} {e : TypeId} {desc : TypeDesc} {b : TypeInfo} {a : List (Option IntKind)} (j : EqOk P w Z k e desc a) (g : P.underlying e = some desc) (hi : P.info? e = some b) (hs : b.size = a.length)
    {xs ys : List DV} {X Y : Array Value} (h : DRel w Z xs X) (f : DRel w Z ys Y) : ∀ (m s : Nat) (r : Bool),(s + m) * a.length≤xs.length→(s + m) * a.length≤ys.length→
    K6 (List.replicate m a).flatten (xs.drop (s * a.length)) (ys.drop (s * a.length)) = some r→(forIn (List.range' s m) ((none : Option Bool),()) (q8g k e b.size X Y) : Sem (Option Bool × Unit)).run P w = .ok (if r then (none,()) else (some false,())) w
  | 0,s,r,_,_,hc=>by
    simp only [List.replicate_zero,List.flatten_nil] at hc
    obtain ⟨v,u⟩:=qbe hc
    rw [List.eq_nil_of_length_eq_zero v,List.eq_nil_of_length_eq_zero u] at hc
    simp [K6] at hc;subst hc
    simp
  | m + 1,s,r,hlx,hly,hc=>by
    rw [List.replicate_succ,List.flatten_cons] at hc
    obtain ⟨p,q,hp,d,c⟩:=qe1 hc
    rw [List.drop_drop,List.drop_drop] at d
    have l : s * a.length + a.length = (s + 1) * a.length:=by rw [Nat.add_mul];simp
    have e2 : (s + 1) * a.length + m * a.length = (s + (m + 1)) * a.length:=by rw [← Nat.add_mul];congr 1;omega
    obtain ⟨z,y,x,t,n⟩:=qiw j g hi hs h f (o:=s * a.length) q0 q0 hp
    rw [List.range'_succ,List.forIn_cons]
    simp only [q8g,hs,Sem.run_bind,x,t,n,Result.andThen_ok]
    cases p with
    | false=>simp [c]
    | true=>
      rw [l] at d
      have:=qiu j g hi hs h f m (s + 1) q (by rw [Nat.add_mul];omega) (by rw [Nat.add_mul];omega) d
      simp only [Bool.true_and] at c
      subst c
      rw [hs] at this
      simpa using this
theorem qbn : ∀ (d : Nat) (t : TypeId) (desc : TypeDesc) (ks : List (Option IntKind)),P.underlying t = some desc→K8 P d t = some ks→∀ k,d≤k→EqOk P w Z k t desc ks
  | 0,t,desc,ks,hu,hp,k,hk=>by simp [K8] at hp
  | d + 1,t,desc,ks,hu,hp,k,hk=>by
    obtain ⟨k,rfl⟩ : ∃ k',k = k' + 1:=⟨k - 1,q0⟩
    intro xs ys X Y r z v c
    obtain ⟨m,s⟩:=qbe c
    simp only [K8,hu] at hp
    cases desc <;> simp only [reduceCtorEq,Option.some.injEq] at hp
    case bool=>
      subst hp
      refine ⟨by simp [K4],fun _=>⟨rfl,fun x y j l=>?_⟩⟩
      match xs,ys,m,s,c with
      | [a],[b],_,_,c=>
        have ra:=z.2 0 a x rfl j
        have rb:=v.2 0 b y rfl l
        simp only [K6] at c
        cases a <;> cases b <;> simp only [q1x,reduceCtorEq] at c
        simp at c;subst c
        cases ra;cases rb;simp [Op.equalIn,run_underlying hu]
    case int k0=>
      subst hp
      refine ⟨by simp [K4],fun _=>⟨rfl,fun x y j l=>?_⟩⟩
      match xs,ys,m,s,c with
      | [a],[b],_,_,c=>
        have ra:=z.2 0 a x rfl j
        have rb:=v.2 0 b y rfl l
        simp only [K6] at c
        cases a <;> cases b <;> simp only [q1x,reduceCtorEq] at c
        split at c <;> simp at c
        rename_i o u
        split at o <;> simp at o
        rename_i ad
        obtain ⟨rfl,rfl⟩:=ad
        subst o c
        simp at u;subst u
        cases ra;cases rb;simp [Op.equalIn,run_underlying hu]
    case struct fs=>
      refine ⟨fun _=>?_,by simp [K4]⟩
      split at hp
      · simp at hp
      · rename_i aa
        simp only [Op.equalIn,Sem.run_bind,run_underlying hu,Result.andThen_ok,run_program,aa,Bool.false_eq_true,if_false]
        have:=qit (P:=P) (w:=w) (Z:=Z) d k (fun t desc ks o u=>qbn d t desc ks o u k q0) xs ys X Y z v fs.toList 0 r ks hp q0 q0 (by simpa using c)
        rw [Array.forIn_toList] at this
        have e : (fun (f : Field) (_s : Option Bool × Unit)=>q8f k X Y f _s) = q8f k X Y:=rfl
        unfold q8f at this
        rw [this]
        cases r <;> simp
    case array n e=>
      refine ⟨fun _=>?_,by simp [K4]⟩
      cases g : K8 P d e with
      | none=>simp [g] at hp
      | some a=>
        simp only [g] at hp
        split at hp
        · rename_i ai
          simp only [Option.some.injEq] at hp;subst hp
          obtain ⟨p,h⟩ : ∃ p,P.underlying e = some p:=by
            cases ab : P.underlying e with
            | none=>cases d <;> simp [K8,ab] at g
            | some p=>exact ⟨p,rfl⟩
          obtain ⟨je,q,ag⟩:=qdc h
          have ah : (List.replicate n a).flatten.length = n * a.length:=by simp
          have:=qiu (qbn d e p a h g k q0) h q q0 z v n 0 r (by rw [Nat.zero_add];omega) (by rw [Nat.zero_add];omega) (by simpa using c)
          simp only [Op.equalIn,Sem.run_bind,run_underlying hu,Result.andThen_ok,Z5 q,Std.Legacy.Range.forIn_eq_forIn_range']
          have e : (fun (i : Nat) (_s : Option Bool × Unit)=>q8g k e je.size X Y i _s) = q8g k e je.size X Y:=rfl
          unfold q8g at this
          simp only [Std.Legacy.Range.size,Nat.sub_zero,Nat.add_sub_cancel,Nat.div_one]
          rw [this]
          cases r <;> simp
        · simp at hp
end
section
variable {w : World} {Z : Nat→Prop} {inj : Inj} {st : AS} {a : Act} {Ds : List Nat}
theorem qp4 {op : BinOp} {k : IntKind} {x y : Int} {r : DV} (h : binI op k x y = some r) (hs : op≠.shl∧op≠.shr) : ∃ v,(∀ t,(binOp op t (.int k x) (.int k y)).run P w = .ok v w)∧RelD w Z r v:=by
  cases op <;> simp only [binI,reduceCtorEq,Option.some.injEq] at h <;> try (simp at hs;done)
  case add=>subst h;exact ⟨_,fun t=>by simp [binOp,Op.intArith],.int _ _⟩
  case sub=>subst h;exact ⟨_,fun t=>by simp [binOp,Op.intArith],.int _ _⟩
  case mul=>subst h;exact ⟨_,fun t=>by simp [binOp,Op.intArith],.int _ _⟩
  case quo=>split at h <;> simp at h;subst h;rename_i a;exact ⟨_,fun t=>by simp [binOp,Op.intDiv,a],.int _ _⟩
  case rem=>split at h <;> simp at h;subst h;rename_i a;exact ⟨_,fun t=>by simp [binOp,Op.intDiv,a],.int _ _⟩
  case and=>subst h;exact ⟨_,fun t=>by simp [binOp,Op.intBits],.int _ _⟩
  case or=>subst h;exact ⟨_,fun t=>by simp [binOp,Op.intBits],.int _ _⟩
  case xor=>subst h;exact ⟨_,fun t=>by simp [binOp,Op.intBits],.int _ _⟩
  case eql=>subst h;exact ⟨_,fun t=>by simp [binOp,Op.intCmp],.bool _⟩
  case neq=>subst h;exact ⟨_,fun t=>by simp [binOp,Op.intCmp],.bool _⟩
  case lss=>subst h;exact ⟨_,fun t=>by simp [binOp,Op.intCmp],.bool _⟩
  case leq=>subst h;exact ⟨_,fun t=>by simp [binOp,Op.intCmp],.bool _⟩
  case gtr=>subst h;exact ⟨_,fun t=>by simp [binOp,Op.intCmp],.bool _⟩
  case geq=>subst h;exact ⟨_,fun t=>by simp [binOp,Op.intCmp],.bool _⟩
theorem qmo {op : BinOp} {k b : IntKind} {x y : Int} {r : DV} (h : q9b op k x y = some r) : ∃ v,(∀ t,(binOp op t (.int k x) (.int b y)).run P w = .ok v w)∧RelD w Z r v:=by
  unfold q9b at h
  split at h <;> try simp at h
  rename_i a
  cases op <;> simp only [reduceCtorEq,Option.some.injEq] at h
  case shl=>subst h;exact ⟨_,fun t=>by simp [binOp,Op.shift,a],.int _ _⟩
  case shr=>subst h;exact ⟨_,fun t=>by simp [binOp,Op.shift,a],.int _ _⟩
theorem Uz {op : BinOp} {t : TypeId} {x y : Operand} {u v : Value} (a : ∀ c,u≠.agg c) (b : u≠.nilIface) : (eqGuard op t x y u v).run P w = .ok () w:=by
  unfold eqGuard
  cases op <;> simp <;> cases u <;> simp_all
theorem qir {op : BinOp} {t : TypeId} {x y : Operand} {u v : Array Value} (h : P.eqGuardType P.depth t = false) : (eqGuard op t x y (.agg u) (.agg v)).run P w = .ok () w:=by
  unfold eqGuard
  cases op <;> simp [h]
end
end Go.Am
namespace Go.Am
open Go
variable {P : Program} {T : Tab}
section
variable {w : World} {Z : Nat→Prop} {inj : Inj} {st : AS} {a : Act} {Ds : List Nat}
theorem qo0 {a : TypeId → Option (List (Option IntKind))} {k : Nat} (b : ∀ t ks, a t = some ks → P.eqGuardType k t = false) : ∀ {l : List Field} {o : Nat} {ks}, tile P a o l = some ks → l.any (fun f => f.name != "_" && P.eqGuardType k f.type) = false
  | [],_,_,_=>rfl
  | f::r,o,ks,h=>by
    simp only [tile] at h
    cases hp : a f.type with
    | none=>simp [hp] at h
    | some ka=>
      simp only [hp] at h
      split at h <;> try simp at h
      cases c : tile P a (o + ka.length) r with
      | none=>simp [c] at h
      | some kb=>
        have:=qo0 b c
        simp only [List.any_cons,this,b _ _ hp,Bool.and_false,Bool.or_false]
theorem qfn : ∀ (d : Nat) (t : TypeId) (ks : List (Option IntKind)),K8 P d t = some ks→∀ k,d≤k→P.eqGuardType k t = false
  | 0,t,ks,h,k,hk=>by simp [K8] at h
  | d + 1,t,ks,h,k,hk=>by
    obtain ⟨k,rfl⟩ : ∃ b,k = b + 1:=⟨k - 1,q0⟩
    simp only [K8] at h
    simp only [Program.eqGuardType]
    cases c : P.underlying t with
    | none=>rfl
    | some desc=>
      cases desc <;> simp only [c,reduceCtorEq] at h <;> try rfl
      case array n e=>
        cases hp : K8 P d e with
        | none=>simp [hp] at h
        | some a=>exact qfn d e a hp k q0
      case struct fs=>
        split at h <;> try simp at h
        have:=qo0 (fun t ks hp=>qfn d t ks hp k q0) h
        simp only []
        rw [← Array.any_toList];exact this
theorem ql4 {op : BinOp} {t : TypeId} {i : TI} {x y : Operand} {p q : List DV} {ks : List (Option IntKind)} {r : Bool} {b : DV} (h : RelS w Z inj st a Ds) (ht : tiOf P t = some i) (v : st.ev x = some (.d (.agg p))) (u : st.ev y = some (.d (.agg q)))
    (he : i.eqs = some ks) (s : K6 ks p q = some r) (m : (op = .eql∧b = .bool r)∨(op = .neq∧b = .bool (!r))) :
    Ka st st (.d b) w Z inj ((do pure (Next.value (← (do eqGuard op t x y (a.eval x) (a.eval y);binOp op t (a.eval x) (a.eval y) : Sem Value)) ) : Sem Next).run P w):=by
  obtain ⟨o,d,z,k⟩:=Yh ht
  have j:=K2 h v
  have g:=K2 h u
  generalize a.eval x = vx at j ⊢
  generalize a.eval y = vy at g ⊢
  cases j with | d j=>cases j with | @agg _ X hl1 hr1=>
  cases g with | d g=>cases g with | @agg _ Y hl2 hr2=>
  obtain ⟨f,l⟩:=k.eqs ks he
  have n : P.eqGuardType P.depth t = false:=qfn 8 t ks f _ (by unfold Program.depth Made.depth;omega)
  have c:=(qbn (w:=w) (Z:=Z) 8 t d ks k.und f Op.maxDepth (by unfold Op.maxDepth;omega) p q X Y r ⟨hl1,hr1⟩ ⟨hl2,hr2⟩ s).1 l
  rcases m with ⟨rfl,rfl⟩ | ⟨rfl,rfl⟩
  · exact .quiet h (K9 (x:=.bool r) (by simp [qir n,binOp,Op.equal,c])) (.d (.bool _))
  · exact .quiet h (K9 (x:=.bool (!r)) (by simp [qir n,binOp,Op.equal,c])) (.d (.bool _))
theorem qtw {op : BinOp} {t : TypeId} {x y : Operand} {k l : IntKind} {p q : Int} {b : DV} (h : RelS w Z inj st a Ds) (hx : st.ev x = some (.d (.int k p))) (o : st.ev y = some (.d (.int l q)))
    (c : binD op (.int k p) (.int l q) = some b) :
    Ka st st (.d b) w Z inj ((do pure (Next.value (← (do eqGuard op t x y (a.eval x) (a.eval y);binOp op t (a.eval x) (a.eval y) : Sem Value)) ) : Sem Next).run P w):=by
  have m:=K2 h hx
  have j:=K2 h o
  generalize a.eval x = vx at m ⊢
  generalize a.eval y = vy at j ⊢
  cases m with | d m=>
  cases m
  cases j with | d j=>
  cases j
  have s:=Uz (P:=P) (w:=w) (op:=op) (t:=t) (x:=x) (y:=y) (u:=.int k p) (v:=.int l q) qe qe
  have key : ∃ v,(∀ t,(binOp op t (.int k p) (.int l q)).run P w = .ok v w)∧RelD w Z b v:=by
    unfold binD at c
    split at c
    · rename_i f g;cases f;cases g;exact qmo c
    · rename_i f g;cases f;cases g;exact qmo c
    · rename_i r z f g
      cases f;cases g
      split at c <;> try simp at c
      rename_i hk;subst hk
      exact qp4 c ⟨fun e=>r e,fun e=>z e⟩
    · simp at c
  obtain ⟨v,hv,n⟩:=key
  exact .quiet h (K9 (x:=v) (by simp [s,hv])) (.d n)
theorem maxD : Op.maxDepth = 9999 + 1:=rfl
theorem qqx {t : TypeId} (h : P.underlying t = some .bool) (p q : Bool) : (Op.equal t (.bool p) (.bool q)).run P w = .ok (p == q) w:=by
  rw [Op.equal,maxD,Op.equalIn];simp only [Sem.run_bind,run_underlying h,Result.andThen_ok];rfl
theorem qiv {t e : TypeId} (h : P.underlying t = some (.slice e)) (a : Option Addr) (n c : Nat) : (Op.equal t (.slice none 0 0) (.slice a n c)).run P w = .ok a.isNone w:=by
  rw [Op.equal,maxD,Op.equalIn];simp only [Sem.run_bind,run_underlying h,Result.andThen_ok];rfl
theorem qr1 {t e : TypeId} (h : P.underlying t = some (.slice e)) (a : Addr) (n c : Nat) : (Op.equal t (.slice (some a) n c) (.slice none 0 0)).run P w = .ok false w:=by
  rw [Op.equal,maxD,Op.equalIn];simp only [Sem.run_bind,run_underlying h,Result.andThen_ok];rfl
theorem qqy {t : TypeId} {x y z} (h : P.underlying t = some (.func x y z)) : (Op.equal t .nilFunc .nilFunc).run P w = .ok true w:=by
  rw [Op.equal,maxD,Op.equalIn];simp only [Sem.run_bind,run_underlying h,Result.andThen_ok];rfl
theorem qqz {t : TypeId} {x y z} (h : P.underlying t = some (.func x y z)) (f g c) : (Op.equal t .nilFunc (.func f g c)).run P w = .ok false w:=by
  rw [Op.equal,maxD,Op.equalIn];simp only [Sem.run_bind,run_underlying h,Result.andThen_ok];rfl
theorem qr0 {t : TypeId} {x y z} (h : P.underlying t = some (.func x y z)) (f g c) : (Op.equal t (.func f g c) .nilFunc).run P w = .ok false w:=by
  rw [Op.equal,maxD,Op.equalIn];simp only [Sem.run_bind,run_underlying h,Result.andThen_ok];rfl
theorem q32 {t : TypeId} {u v : Value} {r : Bool} (d : (Op.equal t u v).run P w = .ok r w) (f : ∀ k n,u≠.int k n) (b : ∀ k n,u≠.float k n) (c : ∀ k n m,u≠.complex k n m) (a : ∀ s,u≠.string s) :
    (binOp .eql t u v).run P w = .ok (.bool r) w∧(binOp .neq t u v).run P w = .ok (.bool (!r)) w:=by
  cases u <;> first | (exfalso;exact f _ _ rfl) | (exfalso;exact b _ _ rfl) | (exfalso;exact c _ _ _ rfl) | (exfalso;exact a _ rfl) | (constructor <;> (simp only [binOp];simp [d]))
theorem qtv {op : BinOp} {t : TypeId} {i : TI} {x y : Operand} {p q : DV} {b : DV} (h : RelS w Z inj st a Ds) (ht : tiOf P t = some i) (hx : st.ev x = some (.d p)) (hy : st.ev y = some (.d q))
    (m : binE op i.kind p q = some b) :
    Ka st st (.d b) w Z inj ((do pure (Next.value (← (do eqGuard op t x y (a.eval x) (a.eval y);binOp op t (a.eval x) (a.eval y) : Sem Value)) ) : Sem Next).run P w):=by
  obtain ⟨ac,d,z,k⟩:=Yh ht
  have l:=K2 h hx
  have j:=K2 h hy
  generalize a.eval x = vx at l ⊢
  generalize a.eval y = vy at j ⊢
  cases l with | d l=>
  cases j with | d j=>
  have key : ∀ r,eqK i.kind p q = some r→(eqGuard op t x y vx vy).run P w = .ok () w∧(binOp .eql t vx vy).run P w = .ok (.bool r) w∧(binOp .neq t vx vy).run P w = .ok (.bool (!r)) w:=by
    intro r c
    have n:=k.kind
    unfold Z7 at n
    unfold eqK at c
    split at c <;> simp at c <;> (rename_i u;simp only [u] at n)
    · subst c;obtain ⟨rfl,_⟩:=n;cases l;cases j
      exact ⟨Uz qe qe,q32 (qqx k.und _ _) qe qe qe qe⟩
    · subst c;cases l;cases j
      exact ⟨Uz qe qe,by simp only [binOp,Op.stringOp];rfl,by simp only [binOp,Op.stringOp];rfl⟩
    · subst c;obtain ⟨e,v,de,ze,rfl,_⟩:=n;cases l;cases j
      exact ⟨Uz qe qe,q32 (qiv k.und _ _ _) qe qe qe qe⟩
    · subst c;obtain ⟨e,v,de,ze,rfl,_⟩:=n;cases l;cases j
      exact ⟨Uz qe qe,q32 (qiv k.und _ _ _) qe qe qe qe⟩
    · subst c;obtain ⟨e,v,de,ze,rfl,_⟩:=n;cases l;cases j
      exact ⟨Uz qe qe,q32 (qr1 k.und _ _ _) qe qe qe qe⟩
    · subst c;obtain ⟨⟨e,f,g,rfl⟩,_⟩:=n;cases l;cases j
      exact ⟨Uz qe qe,q32 (qqy k.und) qe qe qe qe⟩
    · subst c;obtain ⟨⟨e,f,g,rfl⟩,_⟩:=n;cases l;cases j
      exact ⟨Uz qe qe,q32 (qqz k.und _ _ _) qe qe qe qe⟩
    · subst c;obtain ⟨⟨e,f,g,rfl⟩,_⟩:=n;cases l;cases j
      exact ⟨Uz qe qe,q32 (qr0 k.und _ _ _) qe qe qe qe⟩
  unfold binE at m
  split at m
  · cases c : eqK i.kind p q with
    | none=>simp [c] at m
    | some r=>
      simp [c] at m;subst m
      obtain ⟨o,s,_⟩:=key r c
      exact .quiet h (K9 (x:=.bool r) (by simp [o,s])) (.d (.bool _))
  · cases c : eqK i.kind p q with
    | none=>simp [c] at m
    | some r=>
      simp [c] at m;subst m
      obtain ⟨o,_,s⟩:=key r c
      exact .quiet h (K9 (x:=.bool (!r)) (by simp [o,s])) (.d (.bool _))
  · simp at m
end
end Go.Am
namespace Go.Am
open Go
variable {P : Program} {T : Tab}
section
variable {w : World} {Z : Nat→Prop} {inj : Inj} {st : AS} {a : Act} {Ds : List Nat}
theorem quh {op : UnOp} {x : Operand} {p b : DV} (h : RelS w Z inj st a Ds) (g : st.ev x = some (.d p)) (c : unD op p = some b) :
    Ka st st (.d b) w Z inj ((do pure (Next.value (← Op.unary op (a.eval x))) : Sem Next).run P w):=by
  have f:=K2 h g
  generalize a.eval x = vx at f ⊢
  cases f with | d f=>
  unfold unD at c
  split at c
  · simp at c;subst c;cases f
    exact .quiet h (K9 (by simp [Op.unary,Op.intArith])) (.d (.int _ _))
  · simp at c;subst c;cases f
    exact .quiet h (K9 (by simp [Op.unary])) (.d (.bool _))
  · cases f
    simp only [binI,Option.some.injEq] at c;subst c
    exact .quiet h (K9 (by simp [Op.unary,Op.intBits])) (.d (.int _ _))
  · simp at c
theorem qu1 {src dst : TypeId} {i j : TI} {x : Operand} {k0 r k : IntKind} {n : Int} (h : RelS w Z inj st a Ds) (hi : tiOf P src = some i) (s : tiOf P dst = some j) (g : i.kind = .int k0) (c : j.kind = .int k) (t : st.ev x = some (.d (.int r n))) :
    Ka st st (.d (.int k (k.wrap n))) w Z inj ((do pure (Next.value (← convert src dst (a.eval x))) : Sem Next).run P w):=by
  obtain ⟨q,d,z,o⟩:=Yh hi
  obtain ⟨f,v,u,p⟩:=Yh s
  have m:=o.kind
  have l:=p.kind
  unfold Z7 at m l
  simp only [g,c] at m l
  obtain ⟨rfl,_⟩:=m
  obtain ⟨rfl,_⟩:=l
  have b:=K2 h t
  generalize a.eval x = vx at b ⊢
  cases b with | d b=>
  cases b
  refine .quiet h (K9 (x:=.int k (k.wrap n)) ?_) (.d (.int _ _))
  simp only [convert,Sem.run_bind,run_underlying o.und,run_underlying p.und,Result.andThen_ok]
  simp [Conv.intToInt]
theorem qub {f : FuncId} {first b : Array Operand} {j : List V} (h : RelS w Z inj st a Ds) (m : first.size = 0) (n : evL st.ev b.toList = some j) :
    Ka st st (match allD j with | some ds=>.d (.fn f ds) | none=>.fn f j) w Z inj ((do pure (Next.value (← Instr.makeFunc (.func f) (first.map a.eval) (b.map a.eval))) : Sem Next).run P w):=by
  have g:=q8j h n
  have l : first.map a.eval = #[]:=by apply Array.eq_empty_of_size_eq_zero;simpa using m
  have o : (b.toList.map a.eval).toArray = b.map a.eval:=by apply Array.ext';simp
  rw [o] at g
  refine .quiet h (K9 (x:=.func (.func f) #[] (b.map a.eval)) (by simp [Instr.makeFunc,l])) ?_
  split
  · rename_i ds hd
    have:=q4q hd;subst this
    refine .d (.fn (by simpa using g.1) fun i d c hd k=>?_)
    have:=g.2 i (.d d) c (by simp [hd]) k
    cases this with | d h=>exact h
  · exact .fn g.1 g.2
theorem ql5 {x : Operand} {k : Nat} {v : V} (h : RelS w Z inj st a Ds) (j : (∃ b d,st.ev x = some (.d (.tup b))∧b[k]? = some d∧v = .d d)∨∃ b,st.ev x = some (.tup b)∧b[k]? = some v) :
    Ka st st v w Z inj ((do pure (Next.value (← Instr.extract (a.eval x) k)) : Sem Next).run P w):=by
  rcases j with ⟨b,d,j,l,rfl⟩ | ⟨b,j,l⟩
  · have f:=K2 h j
    generalize a.eval x = vx at f ⊢
    cases f with | d f=>
    cases f with | @tup _ cs hl hr=>
    obtain ⟨c,g⟩:=Kt (xs:=cs) (i:=k) (by have:=K3 l;omega)
    exact .quiet h (K9 (x:=c) (by simp [Instr.extract,g])) (.d (hr _ _ _ l g))
  · have f:=K2 h j
    generalize a.eval x = vx at f ⊢
    cases f with | @tup _ cs hl hr=>
    obtain ⟨c,g⟩:=Kt (xs:=cs) (i:=k) (by have:=K3 l;omega)
    exact .quiet h (K9 (x:=c) (by simp [Instr.extract,g])) (hr _ _ _ l g)
theorem qh7 {nx : Nat} {v : V} {x : Value} {cs : List V} (h : RelV w Z inj nx v x) (a : agD v = some cs) : ∃ xs,x = .agg xs∧LRel w Z inj nx cs xs:=by
  unfold agD at a
  split at a <;> simp at a
  · subst a
    cases h with | d h=>
    cases h with | @agg _ X hl hr=>
    refine ⟨X,rfl,by simpa using hl,fun i d c hd f=>?_⟩
    simp only [List.getElem?_map,Option.map_eq_some_iff] at hd
    obtain ⟨g,b,rfl⟩:=hd
    exact .d (hr i g c b f)
  · subst a
    cases h with | @agg _ X hl hr=>exact ⟨X,rfl,hl,hr⟩
theorem qu4 {s : TypeId} {i : TI} {x : Operand} {g v : V} {f off size : Nat} {ag : Bool} {cs r : List V} (h : RelS w Z inj st a Ds) (hi : tiOf P s = some i) (hx : st.ev x = some g) (hk : i.kind = .struct) (hf : i.flds[f]? = some (off,size,ag))
    (m : agD g = some cs) (hs : sub cs off size = some r) (hp : pack ag r = some v) :
    Ka st st v w Z inj ((do pure (Next.value (← Instr.field s (a.eval x) f)) : Sem Next).run P w):=by
  obtain ⟨j,d,z,k⟩:=Yh hi
  have b:=k.kind
  unfold Z7 at b
  simp only [hk] at b
  obtain ⟨fs,rfl,c⟩:=b
  obtain ⟨fd,jf,df,o,g2,u,n,g5,g6,t⟩:=qep c hf
  obtain ⟨xs,l,hl⟩:=qh7 (K2 h hx) m
  subst n g6 t
  obtain ⟨y,q,p⟩:=qle (P:=P) g2 u hl hs hp
  refine .quiet h (K9 (x:=y) ?_) p
  simp only [Instr.field,Sem.run_bind,run_underlying k.und,Result.andThen_ok,o,l,asAgg,Sem.run_pure,q]
theorem qu6 {t : TypeId} {i : TI} {x f : Operand} {j v : V} {k0 : IntKind} {n : Int} {cs r : List V} (h : RelS w Z inj st a Ds) (hi : tiOf P t = some i) (hx : st.ev x = some j) (hn : st.ev f = some (.d (.int k0 n))) (hk : i.kind = .array)
    (s : agD j = some cs) (p : 0≤n∧n < i.len) (hs : sub cs (n.toNat * i.esize) i.esize = some r) (hp : pack i.eagg r = some v) :
    Ka st st v w Z inj ((do pure (Next.value (← Instr.index t (a.eval x) (a.eval f))) : Sem Next).run P w):=by
  obtain ⟨o,d,z,k⟩:=Yh hi
  have b:=k.kind
  unfold Z7 at b
  simp only [hk] at b
  obtain ⟨e,ie,de,rfl,l,g2,g,g4,u⟩:=b
  obtain ⟨xs,q,hl⟩:=qh7 (K2 h hx) s
  have c:=K2 h hn
  generalize a.eval f = vx at c ⊢
  cases c with | d c=>
  cases c
  rw [← g] at hs
  rw [← u] at hp
  obtain ⟨y,m,hr⟩:=qle (P:=P) l g2 hl hs hp
  refine .quiet h (K9 (x:=y) ?_) hr
  simp only [Instr.index,asIntOf,Sem.run_bind,Sem.run_pure,run_underlying k.und,Result.andThen_ok,q]
  rw [Sem.run_ite,if_pos p]
  simp only [Sem.run_bind,Z5 l,Result.andThen_ok,g]
  rw [g] at m
  exact m
theorem qu8 {t : TypeId} {i : TI} {x j : Operand} {k0 : IntKind} {n : Int} {s : ByteArray} {b : UInt8} (h : RelS w Z inj st a Ds) (hi : tiOf P t = some i) (o : st.ev x = some (.d (.str s))) (m : st.ev j = some (.d (.int k0 n))) (p : i.kind = .str)
    (hb : (if 0≤n then s[n.toNat]? else none) = some b) :
    Ka st st (.d (.int .u8 b.toNat)) w Z inj ((do pure (Next.value (← Instr.index t (a.eval x) (a.eval j))) : Sem Next).run P w):=by
  obtain ⟨l,d,z,k⟩:=Yh hi
  have c:=k.kind
  unfold Z7 at c
  simp only [p] at c
  obtain ⟨rfl,_⟩:=c
  have f:=K2 h o
  have g:=K2 h m
  generalize a.eval x = vy at f ⊢
  generalize a.eval j = vx at g ⊢
  cases f with | d f=>
  cases f
  cases g with | d g=>
  cases g
  refine .quiet h (K9 (x:=.int .u8 b.toNat) ?_) (.d (.int _ _))
  simp only [Instr.index,asIntOf,Sem.run_bind,Sem.run_pure,run_underlying k.und,Result.andThen_ok,hb]
theorem qu5 {s : TypeId} {i : TI} {p : Operand} {pv v : V} {f off size : Nat} {ag : Bool} (h : RelS w Z inj st a Ds) (hi : tiOf P s = some i) (y : st.ev p = some pv) (hk : i.kind = .struct) (hf : i.flds[f]? = some (off,size,ag))
    (hp : qel off pv = some v) :
    Ka st st v w Z inj ((do pure (Next.value (← Instr.fieldAt s (a.eval p) f)) : Sem Next).run P w):=by
  obtain ⟨q,d,z,k⟩:=Yh hi
  have l:=k.kind
  unfold Z7 at l
  simp only [hk] at l
  obtain ⟨fs,rfl,m⟩:=l
  obtain ⟨fd,jf,df,r,u,g3,g4,g5,t,g7⟩:=qep m hf
  have g:=K2 h y
  generalize a.eval p = vx at g ⊢
  have c : ∀ b o,(Instr.fieldAt s (.pointer (some ⟨b,o,none⟩)) f).run P w = .ok (.pointer (some ⟨b,o + off,none⟩)) w:=by
    intro b o
    simp only [Instr.fieldAt,Instr.sureAddr,fieldPlace,Sem.run_bind,run_underlying k.und,Result.andThen_ok,r,Sem.run_pure,Z5 u,Sem.run_ite,g4,if_neg g5,Jh,t]
  cases pv <;> simp only [qel,reduceCtorEq,Option.some.injEq] at hp
  case ref n es ii j=>
    subst hp
    cases g with | @ref _ _ _ _ b o h1 h2=>
    refine .quiet h (K9 (c _ _)) ?_
    have:=RelV.ref (w:=w) (Z:=Z) (nx:=st.nx) (es:=es) (i:=ii) (j:=j + off) h1 h2
    rwa [show o + (ii * es + (j + off)) = o + (ii * es + j) + off by omega] at this
  case dref cs j=>
    subst hp
    cases g with | @dref _ _ b o h1 h2 g=>
    refine .quiet h (K9 (c _ _)) ?_
    have:=RelV.dref (inj:=inj) (nx:=st.nx) (j:=j + off) h1 h2 g
    rwa [← Nat.add_assoc] at this
  case d x=>
    cases x <;> simp only [reduceCtorEq,Option.some.injEq] at hp
    subst hp
    cases g with | d g=>
    cases g with | box h1 h2 g=>
    exact .quiet h (K9 (c _ _)) (RelV.dref (inj:=inj) (nx:=st.nx) (j:=off) h1 h2 g)
theorem qu7 {t : TypeId} {i : TI} {x ix : Operand} {xv v : V} {k0 : IntKind} {n : Int} (h : RelS w Z inj st a Ds) (hi : tiOf P t = some i) (hx : st.ev x = some xv) (hn : st.ev ix = some (.d (.int k0 n)))
    (hp : q3d i xv n = some v) :
    Ka st st v w Z inj ((do pure (Next.value (← Instr.indexAt t (a.eval x) (a.eval ix))) : Sem Next).run P w):=by
  obtain ⟨ah,d,z,k⟩:=Yh hi
  have p:=k.kind
  unfold Z7 at p
  have u:=K2 h hn
  generalize a.eval ix = vx at u ⊢
  cases u with | d u=>
  cases u
  have l:=K2 h hx
  generalize a.eval x = vx at l ⊢
  have r : i.kind = .slice→∀ b o len cap,0≤n→n < (len : Nat)→(Instr.indexAt t (.slice (some ⟨b,o,none⟩) len cap) (.int k0 n)).run P w = .ok (.pointer (some ⟨b,o + n.toNat * i.esize,none⟩)) w:=by
    intro s b o len cap f q
    simp only [s] at p
    obtain ⟨e,ie,de,ze,rfl,g1,g2,g3,g4,g5,g6,_⟩:=p
    simp only [Instr.indexAt,asIntOf,Sem.run_bind,Sem.run_pure,run_underlying k.und,Result.andThen_ok]
    rw [Sem.run_ite,if_pos ⟨f,q⟩]
    simp only [Sem.run_bind,Z5 g1,Result.andThen_ok,Sem.run_pure,Jh,g6]
  have g : i.kind = .array→∀ b o,0≤n→n < i.len→(Instr.indexAt t (.pointer (some ⟨b,o,none⟩)) (.int k0 n)).run P w = .ok (.pointer (some ⟨b,o + n.toNat * i.esize,none⟩)) w:=by
    intro s b o f q
    simp only [s] at p
    obtain ⟨e,ie,de,rfl,g1,g2,g3,g4,_⟩:=p
    simp only [Instr.indexAt,asIntOf,Instr.sureAddr,Sem.run_bind,Sem.run_pure,run_underlying k.und,Result.andThen_ok]
    rw [Sem.run_ite,if_pos ⟨f,q⟩]
    simp only [Sem.run_bind,Z5 g1,Result.andThen_ok,Sem.run_pure,Jh,g3]
  cases s : i.kind <;> simp only [q3d,s,reduceCtorEq] at hp
  case slice=>
    cases xv <;> (try simp only [reduceCtorEq] at hp)
    case d x=>
      cases x <;> (try simp only [reduceCtorEq] at hp)
      rename_i es xs
      split at hp <;> simp at hp
      rename_i f
      obtain ⟨f,he⟩:=f
      obtain ⟨cs,aa,rfl⟩:=hp
      have y:=K3 aa
      cases l with | d l=>
      cases l with
      | slnil=>simp at y
      | slemp=>simp at y
      | @sl _ _ b o cap q h2 h4 h5 h6=>
        refine .quiet h (K9 (r s _ _ _ _ f q0)) ?_
        have:=RelV.dref (w:=w) (Z:=Z) (inj:=inj) (nx:=st.nx) (cs:=cs) (j:=0) (b:=b) (o:=o + n.toNat * i.esize) (h2 (by rintro rfl;simp at y))
          (fun k d hd=>by have:=(h5 n.toNat cs k d aa hd).2;rwa [he,← Nat.add_assoc] at this)
          (fun k d c hd hc=>h6 n.toNat cs k d c aa hd (by rwa [he,← Nat.add_assoc]))
        simpa using this
    case hs m es off len=>
      split at hp <;> simp at hp
      rename_i f
      obtain ⟨f,q,he⟩:=f
      subst hp
      cases l with
      | hsnil=>omega
      | @hs _ _ _ _ cap ad hn hle _ hcap=>
        obtain ⟨b,o,hi,rfl,_⟩:=hcap q0
        refine .quiet h (K9 (r s _ _ _ _ f q0)) ?_
        have:=RelV.ref (w:=w) (Z:=Z) (nx:=st.nx) (es:=es) (i:=off + n.toNat) (j:=0) hn hi
        rw [show o + off * es + n.toNat * i.esize = o + ((off + n.toNat) * es + 0) by rw [← he,Nat.add_mul];omega]
        exact this
  case array=>
    cases xv <;> (try simp only [reduceCtorEq] at hp)
    case ref m es e j=>
      split at hp <;> simp at hp
      rename_i f
      subst hp
      cases l with | @ref _ _ _ _ b o q h2=>
      refine .quiet h (K9 (g s _ _ f.1 f.2)) ?_
      have:=RelV.ref (w:=w) (Z:=Z) (nx:=st.nx) (es:=es) (i:=e) (j:=j + n.toNat * i.esize) q h2
      rwa [← Nat.add_assoc,← Nat.add_assoc,Nat.add_assoc o] at this
    case dref cs j=>
      split at hp <;> simp at hp
      rename_i f
      subst hp
      cases l with | @dref _ _ b o q h2 l=>
      refine .quiet h (K9 (g s _ _ f.1 f.2)) ?_
      have:=RelV.dref (inj:=inj) (nx:=st.nx) (j:=j + n.toNat * i.esize) q h2 l
      rwa [← Nat.add_assoc] at this
    case d x=>
      cases x <;> (try simp only [reduceCtorEq] at hp)
      split at hp <;> simp at hp
      rename_i f
      subst hp
      cases l with | d l=>
      cases l with | box q h2 l=>
      exact .quiet h (K9 (g s _ _ f.1 f.2)) (RelV.dref (inj:=inj) (nx:=st.nx) (j:=n.toNat * i.esize) q h2 l)
end
end Go.Am
