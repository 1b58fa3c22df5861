/- Am6 Am7 Am8 Am9 Am10 Am11 Am12 -/
import Derived.Test.YtbknppciefodiaaGreatK1
import Derived.Laws.MakeOwn
namespace Go.Am
open Go
variable {P : Program} {T : Tab}
theorem q94 {α β : Type} {f : α→Option β} : ∀ {l : List α} {r : List β},l.mapM f = some r→r.length = l.length∧∀ (i : Nat) (x : α),l[i]? = some x→∃ y,r[i]? = some y∧f x = some y
  | [],r,h=>by simp at h;subst h;simp
  | a::l,r,h=>by
    rw [List.mapM_cons] at h
    cases c : f a with
    | none=>simp [c] at h
    | some b=>
      cases g : l.mapM f with
      | none=>simp [c,g] at h
      | some s=>
        simp [c,g] at h
        subst h
        obtain ⟨k,m⟩:=q94 g
        refine ⟨by simp [k],?_⟩
        intro i x d
        cases i with
        | zero=>simp at d;subst d;exact ⟨b,qf,c⟩
        | succ i=>simp at d;obtain ⟨y,j⟩:=m i x d;exact ⟨y,by simpa using j⟩
theorem Ym {α β : Type} {l : List α} {r : List β} (a : r.length = l.length) {i : Nat} {y : β} (h : r[i]? = some y) : ∃ x,l[i]? = some x:=
  Zq (by have:=Kg h;omega)
def Zh (P : Program) (_t : TypeId) (i : TI) (d : TypeDesc) : Prop:=match i.kind with
  | .bool=>d = .bool∧i.size = 1
  | .int k=>d = .int k∧i.size = 1
  | .str=>d = .string∧i.size = 1
  | .ptr=>(∃ e,d = .pointer e)∧i.size = 1
  | .func=>(∃ a b c,d = .func a b c)∧i.size = 1
  | .slice=>∃ e ie de ze,d = .slice e∧P.info? e = some ie∧P.underlying e = some de∧ie.zero = some ze∧ze.cells.toList.mapM Zo = some i.ezero∧i.ezero.length = i.esize∧ie.size = i.esize∧i.esize≠0∧
      ie.bytes = i.ebytes∧i.ebytes≠0∧Kd de = i.eagg∧i.size = 1
  | .array=>∃ e ie de,d = .array i.len e∧P.info? e = some ie∧P.underlying e = some de∧ie.size = i.esize∧i.esize≠0∧Kd de = i.eagg
  | .map=>∃ kt e ie ze zd ks dk,d = .map kt e∧P.info? e = some ie∧ie.zero = some ze∧Zo ze = some zd∧Kk P 8 kt = some ks∧P.underlying kt = some dk∧i.keys = some ks∧i.ezero = [zd]∧i.eagg = Kd dk∧i.size = 1
  | .struct=>∃ fs,d = .struct fs∧(fs.toList.mapM fun f=>do
      let jf ← P.info? f.type
      let df ← P.underlying f.type
      if jf.size = 0 then none else some (f.offset,jf.size,Kd df)) = some i.flds
structure TiOk (P : Program) (t : TypeId) (i : TI) (info : TypeInfo) (d : TypeDesc) (z : Value) : Prop where
  inf : P.info? t = some info
  und : P.underlying t = some d
  zero : info.zero = some z
  size : info.size = i.size
  pos : i.size≠0
  cells : z.cells.toList.mapM Zo = some i.zero
  len : i.zero.length = i.size
  agg : i.agg = Kd d
  kind : Zh P t i d
  eqs : ∀ ks,i.eqs = some ks→Kk P 8 t = some ks∧Kd d = true
  keys : ∀ ks,i.keys = some ks→i.kind = .map
theorem Yq {t : TypeId} {i : TI} (h : tiOf P t = some i) : ∃ g d z,TiOk P t i g d z:=by
  unfold tiOf at h
  cases l : P.info? t with
  | none=>simp [l] at h
  | some g=>
  cases m : P.underlying t with
  | none=>simp [l,m] at h
  | some d=>
  cases o : g.zero with
  | none=>simp [l,m,o] at h
  | some z=>
  cases q : z.cells.toList.mapM Zo with
  | none=>simp [l,m,o,q] at h
  | some zc=>
  simp only [l,m,o,q,Option.bind_eq_bind,qj] at h;by_cases h5 : zc.length≠g.size∨g.size = 0
  · grind
  · rw [qp h5] at h;have s : zc.length = g.size:=by omega
    have r : g.size≠0:=by omega
    refine ⟨g,d,z,?_⟩;cases d <;> simp only [reduceCtorEq] at h
    case bool=>split at h <;> simp at h;subst h;rename_i hs;exact ⟨l,m,o,rfl,r,q,s,rfl,⟨rfl,hs⟩,qf,qf⟩
    case int k=>split at h <;> simp at h;subst h;rename_i hs;exact ⟨l,m,o,rfl,r,q,s,rfl,⟨rfl,hs⟩,qf,qf⟩
    case string=>split at h <;> simp at h;subst h;rename_i hs;exact ⟨l,m,o,rfl,r,q,s,rfl,⟨rfl,hs⟩,qf,qf⟩
    case pointer e=>split at h <;> simp at h;subst h;rename_i hs;exact ⟨l,m,o,rfl,r,q,s,rfl,⟨⟨_,rfl⟩,hs⟩,qf,qf⟩
    case func a b c=>split at h <;> simp at h;subst h;rename_i hs;exact ⟨l,m,o,rfl,r,q,s,rfl,⟨⟨_,_,_,rfl⟩,hs⟩,qf,qf⟩
    case slice e=>
      cases j : P.info? e with
      | none=>simp [j] at h
      | some ie=>
      cases u : P.underlying e with
      | none=>simp [j,u] at h
      | some de=>
      cases p : ie.zero with
      | none=>simp [j,u,p] at h
      | some ze=>
      cases v : ze.cells.toList.mapM Zo with
      | none=>simp [j,u,p,v] at h
      | some ezc=>
      simp only [j,u,p,v,qj] at h;split at h
      · simp at h
      · rename_i hs;simp at h;subst h;exact ⟨l,m,o,rfl,r,q,s,rfl,⟨e,ie,de,ze,rfl,j,u,p,v,by show ezc.length = ie.size;omega,rfl,by show ie.size≠0;omega,rfl,by show ie.bytes≠0;omega,rfl,by show g.size = 1;omega⟩,by simp,by simp⟩
    case map kt e=>
      cases j : P.info? e with
      | none=>simp [j] at h
      | some ie=>
      cases p : ie.zero with
      | none=>simp [j,p] at h
      | some ze=>
      cases v : Zo ze with
      | none=>simp [j,p,v] at h
      | some zd=>
      cases w : Kk P 8 kt with
      | none=>simp [j,p,w] at h
      | some ks=>
      cases y : P.underlying kt with
      | none=>simp [j,p,w,y] at h
      | some dk=>
      simp only [j,p,v,w,y,qj] at h;split at h
      · rename_i hs;simp at h;subst h;exact ⟨l,m,o,rfl,r,q,s,rfl,⟨kt,e,ie,ze,zd,ks,dk,rfl,j,p,v,w,y,rfl,rfl,rfl,hs⟩,qf,fun _ _=>rfl⟩
      · simp at h
    case array n e=>
      cases j : P.info? e with
      | none=>simp [j] at h
      | some ie=>
      cases u : P.underlying e with
      | none=>simp [j,u] at h
      | some de=>
      simp only [j,u,qj] at h;split at h
      · simp at h
      · rename_i hs;simp at h;subst h;exact ⟨l,m,o,rfl,r,q,s,rfl,⟨e,ie,de,rfl,j,u,rfl,hs,rfl⟩,fun ks h=>⟨h,rfl⟩,qf⟩
    case struct fs=>
      cases j : (fs.toList.mapM fun f=>do
          let jf ← P.info? f.type
          let df ← P.underlying f.type
          if jf.size = 0 then none else some (f.offset,jf.size,Kd df)) with
      | none=>simp only [Option.bind_eq_bind] at j;simp only [j,Option.bind_none] at h;simp at h
      | some fl=>
        have x:=j;simp only [Option.bind_eq_bind] at j;simp only [j,qj] at h;simp at h;subst h;exact ⟨l,m,o,rfl,r,q,s,rfl,⟨fs,rfl,x⟩,fun ks h=>⟨h,rfl⟩,qf⟩
section
variable {w : World} {Z : Nat→Prop} {inj : Inj} {nx : Nat}
theorem qf2 {v : Value} {d : DV} (h : Zo v = some d) : RelD w Z d v∧Yg d = true∧v.oneCell' = true:=by
  unfold Zo at h;split at h <;> simp at h <;> subst h
  · exact ⟨.int _ _,rfl,rfl⟩
  · exact ⟨.bool _,rfl,rfl⟩
  · exact ⟨.str _,rfl,rfl⟩
  · exact ⟨.nilp,rfl,rfl⟩
  · exact ⟨.nilsl,rfl,rfl⟩
  · exact ⟨.nilf,rfl,rfl⟩
  · exact ⟨.nilm,rfl,rfl⟩
theorem q8o {cs : Array Value} {ds : List DV} (h : cs.toList.mapM Zo = some ds) : ds.length = cs.size∧∀ (i : Nat) (d : DV),ds[i]? = some d→∃ c,cs[i]? = some c∧RelD w Z d c∧Yg d = true∧c.oneCell' = true:=by
  obtain ⟨f,j⟩:=q94 h;refine ⟨by simpa using f,fun i d hd=>?_⟩;obtain ⟨c,b⟩:=Ym f hd;obtain ⟨y,a,g⟩:=j i c b;rw [hd] at a;cases a;exact ⟨c,by simpa using b,qf2 g⟩
theorem qqh {v : Value} {d : DV} (h : qc2 v = some d) : RelD w Z d v:=by
  unfold qc2 at h;split at h
  · rename_i cs
    cases a : cs.toList.mapM Zo with
    | none=>simp [a] at h
    | some ds=>
      simp [a] at h;subst h;obtain ⟨b,g⟩:=q8o (w:=w) (Z:=Z) a;refine .agg b fun i d c hd f=>?_;grind
  · exact (qf2 h).1
theorem Kb {st : AS} {a : Act} {Ds : List Nat} (h : RelS w Z inj st a Ds) {o : Operand} {v : V} (b : st.ev o = some v) : RelV w Z inj st.nx v (a.eval o):=by
  cases o with
  | tmp t=>
    obtain ⟨x,k,l⟩:=h.slots t v b;simp only [Act.eval,Array.getD_eq_getD_getElem?,k,Option.getD_some];exact l
  | const c=>
    simp only [AS.ev] at b
    cases j : qc2 c with
    | none=>simp [j] at b
    | some d=>simp [j] at b;subst b;exact .d (qqh j)
  | func f=>
    simp only [AS.ev] at b;cases b;exact .d (.fn qf qf)
  | global g=>simp [AS.ev] at b
theorem q52 {a : List V} {ds : List DV} (h : allD a = some ds) : a = ds.map .d:=by
  induction a generalizing ds with
  | nil=>simp [allD] at h;subst h;rfl
  | cons v r ih=>
    cases v <;> simp only [allD,reduceCtorEq] at h
    grind
theorem qee (ds : List DV) : allD (ds.map .d) = some ds:=by
  induction ds with
  | nil=>rfl
  | cons d r ih=>simp [allD,ih]
theorem qgj {d : V} {c : Value} (h : RelV w Z inj nx d c) (a : Ko d = true) : c.oneCell' = true:=by
  cases h with
  | d h=>cases h <;> simp_all [Ko,Yg,Value.oneCell']
  | _=>simp_all [Ko,Value.oneCell']
theorem qpl {c : Value} (h : c.oneCell' = true) : c.cells = #[c]:=by cases c <;> simp_all [Value.oneCell',Value.cells]
theorem qc0 {v : V} {x : Value} (h : RelV w Z inj nx v x) (f : (cellsOf v).all Ko = true) :
    (cellsOf v).length = x.cells.size∧(∀ (i : Nat) (d : V) (c : Value),(cellsOf v)[i]? = some d→x.cells[i]? = some c→RelV w Z inj nx d c)∧∀ c∈x.cells.toList,c.oneCell' = true:=by
  have fin : ∀ (l : List V) (cs : Array Value),l.length = cs.size→(∀ (i : Nat) (d : V) (c : Value),l[i]? = some d→cs[i]? = some c→RelV w Z inj nx d c)→l.all Ko = true→∀ c∈cs.toList,c.oneCell' = true:=by
    intro l cs k g j c q;obtain ⟨i,hi,rfl⟩:=List.mem_iff_getElem.1 q;simp at hi;have m : l[i]? = some l[i]:=List.getElem?_eq_getElem q6;have n : cs[i]? = some cs[i]:=Array.getElem?_eq_getElem hi;have:=qgj (g i _ _ m n) (List.all_eq_true.1 j _ (Ki _));grind
  have one : ∀ {v : V} {x : Value},RelV w Z inj nx v x→cellsOf v = [v]→(cellsOf v).all Ko = true→(cellsOf v).length = x.cells.size∧(∀ (i : Nat) (d : V) (c : Value),(cellsOf v)[i]? = some d→x.cells[i]? = some c→RelV w Z inj nx d c)∧∀ c∈x.cells.toList,c.oneCell' = true:=by
    intro v x h p j;rw [p] at j ⊢;have m : Ko v = true:=by simpa using j
    have n:=qgj h m;rw [qpl n];grind
  cases h with
  | agg k g=>exact ⟨k,g,fin _ _ k g f⟩
  | d h=>
    cases h with
    | agg k g=>
      have m : (cellsOf (V.d (.agg ‹List DV›))).length = (Value.agg ‹Array Value›).cells.size:=by simpa [cellsOf,Value.cells] using k
      have n : ∀ (i : Nat) (d : V) (c : Value),(cellsOf (V.d (.agg ‹List DV›)))[i]? = some d→(Value.agg ‹Array Value›).cells[i]? = some c→RelV w Z inj nx d c:=by
        intro i d c hd f;simp only [cellsOf,List.getElem?_map,Y7] at hd;obtain ⟨r,o,rfl⟩:=hd;exact .d (g i r c o f)
      grind
    | int=>exact one (.d (.int _ _)) rfl f
    | bool=>exact one (.d (.bool _)) rfl f
    | str=>exact one (.d (.str _)) rfl f
    | tup k g=>exact one (.d (.tup k g)) rfl f
    | fn k g=>exact one (.d (.fn k g)) rfl f
    | nilsl=>exact one (.d .nilsl) rfl f
    | slnil=>exact one (.d (.slnil _)) rfl f
    | slemp=>exact one (.d (.slemp _ _)) rfl f
    | sl a b c d e=>exact one (.d (.sl a b c d e)) rfl f
    | nilp=>exact one (.d .nilp) rfl f
    | nilf=>exact one (.d .nilf) rfl f
    | nilm=>exact one (.d .nilm) rfl f
    | box a b c=>exact one (.d (.box a b c)) rfl f
  | tup k g=>exact one (.tup k g) rfl f
  | fn k g=>exact one (.fn k g) rfl f
  | ref a b=>exact one (.ref a b) rfl f
  | dref a b c=>exact one (.dref a b c) rfl f
  | hsnil a=>exact one (.hsnil a) rfl f
  | hs a b c d=>exact one (.hs a b c d) rfl f
  | yld a b=>exact one (.yld a b) rfl f
  | mp a b=>exact one (.mp a b) rfl f
  | dead v=>simp [cellsOf,Ko] at f
theorem qg7 {cs : List V} {xs : Array Value} (a : cs.length = xs.size) (h : ∀ (i : Nat) (d : V) (c : Value),cs[i]? = some d→xs[i]? = some c→RelV w Z inj nx d c) : RelV w Z inj nx (q5m cs) (.agg xs):=by
  unfold q5m;split
  · rename_i ds hd;have:=q52 hd;subst this;refine .d (.agg (by simpa using a) fun i d c b f=>?_);have:=h i (.d d) c (by simp [b]) f
    cases this with | d h=>exact h
  · exact .agg a h
def qoq (w : World) (Z : Nat→Prop) (inj : Inj) (nx : Nat) (v : V) : Bool→List Value→Prop
  | true,xs=>RelV w Z inj nx v (.agg xs.toArray)
  | false,[x]=>RelV w Z inj nx v x
  | false,_=>False
theorem qlq {ag : Bool} {cs : List V} {v : V} {xs : List Value} (hp : pack ag cs = some v) (a : cs.length = xs.length) (h : ∀ (i : Nat) (d : V) (c : Value),cs[i]? = some d→xs[i]? = some c→RelV w Z inj nx d c) :
    qoq w Z inj nx v ag xs:=by
  cases ag with
  | true=>
    simp only [pack,Option.some.injEq] at hp;subst hp;exact qg7 (by simpa using a) (fun i d c b f=>h i d c b (by simpa using f))
  | false=>
    match cs,xs,hp,a with
    | [c],[x],hp,_=>simp only [pack,Option.some.injEq] at hp;subst hp;exact h 0 _ _ rfl rfl
    | [c],[],_,a=>simp at a
    | [c],_::_::_,_,a=>simp at a
theorem qgm (ag : Bool) (cs : List DV) : (q1s ag cs).map V.d = pack ag (cs.map .d):=by
  cases ag with
  | true=>simp [q1s,pack,q5m,qee]
  | false=>match cs with
    | []=>rfl
    | [c]=>rfl
    | _::_::_=>rfl
theorem qo4 {α : Type} {cs r : List α} {j s : Nat} (h : sub cs j s = some r) : j + s≤cs.length∧r = (cs.drop j).take s:=by
  unfold sub at h;split at h <;> simp at h;exact ⟨‹_›,h.symm⟩
theorem qb7 {α : Type} {cs r : List α} {j s : Nat} (h : sub cs j s = some r) : r.length = s∧∀ (i : Nat) (x : α),r[i]? = some x→cs[j + i]? = some x∧i < s:=by
  obtain ⟨a,rfl⟩:=qo4 h;grind
theorem Js (b o j : Nat) : (⟨b,o,none⟩ : Addr).add j = ⟨b,o + j,none⟩:=by
  unfold Addr.add;split <;> simp_all
theorem qsj {t : TypeId} {i : TI} {g : TypeInfo} {d : TypeDesc} {z : Value} (m : TiOk P t i g d z) {b o : Nat} {r : List V} {v : V} (hp : pack i.agg r = some v) (hr : r.length = i.size)
    (hc : ∀ (k : Nat) (x : V),r[k]? = some x→∃ c,w.cell? ⟨b,o + k,none⟩ = some c∧RelV w Z inj nx x c) :
    ∃ x,(Instr.loadAt t (.pointer (some ⟨b,o,none⟩))).run P w = .ok x w∧RelV w Z inj nx v x:=by
  have n : ∃ cs : List Value,cs.length = i.size∧∀ (k : Nat) (c : Value),cs[k]? = some c→w.cell? ⟨b,o + k,none⟩ = some c:=by
    refine ⟨(List.range i.size).map fun k=>(w.cell? ⟨b,o + k,none⟩).getD undef,qf,?_⟩;intro k c s;have y : k < i.size:=by have:=Kg s;simpa using this
    obtain ⟨x,hx⟩:=Zq (xs:=r) (i:=k) q6;grind
  obtain ⟨cs,p,a⟩:=n;have l : ∀ (i : Nat) (d : V) (c : Value),r[i]? = some d→cs[i]? = some c→RelV w Z inj nx d c:=by grind
  have f:=qlq hp (by omega : r.length = cs.length) l
  have h : (isAgg t).run P w = .ok i.agg w:=by
    rw [m.agg];simp only [isAgg,Sem.run_bind,run_underlying m.und,Result.andThen_ok];cases d <;> rfl
  cases hb : i.agg with
  | true=>
    rw [hb] at f;refine ⟨.agg cs.toArray,?_,f⟩;have u:=run_loadCells_list (P:=P) w ⟨b,o,none⟩ cs (fun j v q=>by rw [Js];exact a j v q);simp [Instr.loadAt,Instr.sureAddr,loadVar,h,hb,sizeOf,typeInfo,m.inf,m.size,← p,u]
  | false=>
    rw [hb] at f
    match cs,p,a,f with
    | [x],_,a,f=>
      refine ⟨x,?_,f⟩;have:=a 0 x rfl;simp only [Nat.add_zero] at this;simp [Instr.loadAt,Instr.sureAddr,loadVar,h,hb,this]
end
end Go.Am
namespace Go.Am
open Go
variable {P : Program} {T : Tab}
def Km (st st1 : AS) (v : V) (w : World) (Z : Nat→Prop) (inj : Inj) (r : Result Next) : Prop:=
  ∃ x w' inj',(r = .ok (.value x) w'∨(r = .ok .skip w'∧x = undef))∧RelV w' Z inj' st1.nx v x∧RelH w' Z inj' st1.hp st1.nx∧Ext w Z inj st.hp w' Z inj' st1.hp st.nx∧st1.sl = st.sl∧st.nx≤st1.nx
section
variable {w : World} {Z : Nat→Prop} {inj : Inj} {st : AS} {a : Act} {Ds : List Nat}
theorem Km.quiet {v : V} {x : Value} {r : Result Next} (h : RelS w Z inj st a Ds) (c : r = .ok (.value x) w) (b : RelV w Z inj st.nx v x) : Km st st v w Z inj r:=
  ⟨x,w,inj,.inl c,b,h.heap,.refl,rfl,Nat.le_refl _⟩
theorem Kl {s : Sem Value} {x : Value} {w' : World} (h : s.run P w = .ok x w') : (do pure (Next.value (← s)) : Sem Next).run P w = .ok (.value x) w':=by
  simp [h]
theorem Km.new {v : V} {x : Value} {r : Result Next} {o : Obj} {blk : Blk} (h : RelS w Z inj st a Ds) (c : r = .ok (.value x) (w.alloc o))
    (hb : RelB (w.alloc o) Z (upd inj st.nx (some (w.heap.size,0))) (st.nx + 1) st.nx blk)
    (b : RelV (w.alloc o) Z (upd inj st.nx (some (w.heap.size,0))) (st.nx + 1) v x) (d : Unfr o:=by first | exact rfl | exact trivial) : Km st (st.new blk) v w Z inj r:=
  ⟨x,_,_,.inl c,b,h.heap.new o blk 0 hb,Ext.new h.heap o blk 0 d,rfl,by simp [AS.new]⟩
theorem qms {v : V} {x : Value} (h : RelS w Z inj st a Ds) (o : Obj) (c : RelV w Z inj st.nx v x) : RelV (w.alloc o) Z (upd inj st.nx (some (w.heap.size,0))) (st.nx + 1) v x:=
  c.mono (fun _ d=>Zw w o (h.heap.zs _ d)) (fun _ h=>h) (q2n w o) (fun _ b=>Yf _ _ b) q6
theorem qmo {w : World} {nx n es : Nat} {xs : List (List V)} {arr : Array Value} {ty : TypeId} {b : Nat} (q : es≠0) (hi : inj n = some (b,0)) (hb : w.heap[b]? = some (.cells arr ty (0,0)))
    (t : ∀ (i : Nat) (x : List V),xs[i]? = some x→x.length = es)
    (h : ∀ (i : Nat) (x : List V) (j : Nat) (d : V),xs[i]? = some x→x[j]? = some d→Ko d = true∧∃ c,arr[i * es + j]? = some c∧RelV w Z inj nx d c) : RelB w Z inj nx n (q5n es xs):=by
  unfold q5n;split
  · rename_i ys v;obtain ⟨r,s⟩:=q94 v;refine ⟨q,?_,.inr ⟨b,0,arr,ty,hi,hb,?_⟩⟩
    · intro i y f;obtain ⟨x,g⟩:=Ym r f;obtain ⟨u,a,hd⟩:=s i x g;rw [f] at a;cases a;have:=t i x g;rw [q52 hd] at this;simpa using this
    · intro i y j d f p;obtain ⟨x,g⟩:=Ym r f;obtain ⟨u,a,hd⟩:=s i x g;rw [f] at a;cases a;have k:=q52 hd;obtain ⟨m,c,l,o⟩:=h i x j (.d d) g (by rw [k];simp [p]);refine ⟨m,c,by simpa using l,?_⟩
      cases o with | d h=>exact h
  · refine ⟨q,t,.inr ⟨b,0,arr,ty,hi,hb,?_⟩⟩;intro i x j d g hd;obtain ⟨m,c,l,o⟩:=h i x j d g hd;exact ⟨m,c,by simpa using l,o⟩
theorem qlm {o : Operand} {v : V} (h : RelS w Z inj st a Ds) (b : st.ev o = some v) {r : Result Next} (c : r = .ok (.value (a.eval o)) w) : Km st st v w Z inj r:=
  .quiet h c (Kb h b)
theorem qtt {t : TypeId} {i : TI} (h : RelS w Z inj st a Ds) (p : tiOf P t = some i) :
    Km st (st.new (.dat i.size [i.zero])) (.ref st.nx i.size 0 0) w Z inj ((do pure (Next.value (← Instr.alloc t true (.tuple #[]))) : Sem Next).run P w):=by
  obtain ⟨m,d,z,k⟩:=Yq p
  have g : (Instr.alloc t true (.tuple #[])).run P w = .ok (.pointer (some ⟨w.heap.size,0,none⟩)) (w.alloc (.cells z.cells t)):=by
    simp [Instr.alloc,zeroValue,typeInfo,k.inf,k.zero,newVar,newRow]
  obtain ⟨s,r⟩:=q8o (w:=w.alloc (.cells z.cells t)) (Z:=Z) k.cells;refine .new h (Kl g) ?_ ?_
  · refine ⟨k.pos,?_,.inr ⟨w.heap.size,0,z.cells,t,Y6 _ _ _,Jt _ _,?_⟩⟩
    · intro l x f
      cases l with
      | zero=>simp at f;subst f;exact k.len
      | succ n=>simp at f
    · intro l x j d f hd
      cases l with
      | zero=>
        simp at f;subst f;obtain ⟨c,q,o,b,_⟩:=r j d hd;exact ⟨b,c,by simpa using q,o⟩
      | succ n=>simp at f
  · have:=RelV.ref (w:=w.alloc (.cells z.cells t)) (Z:=Z) (inj:=upd inj st.nx (some (w.heap.size,0))) (nx:=st.nx + 1) (n:=st.nx) (es:=i.size) (i:=0) (j:=0) q6 (Y6 _ _ _);simpa using this
theorem qtx {t : TypeId} {i : TI} {o : Operand} {v : V} (h : RelS w Z inj st a Ds) (s : tiOf P t = some i) (u : st.ev o = some v) (hl : (cellsOf v).length = i.size) (q : (cellsOf v).all Ko = true) :
    Km st (st.new (q5n i.size [cellsOf v])) (.ref st.nx i.size 0 0) w Z inj ((do pure (Next.value (← Instr.box t (a.eval o))) : Sem Next).run P w):=by
  obtain ⟨r,d,z,k⟩:=Yq s;have f:=Kb h u
  have g : (Instr.box t (a.eval o)).run P w = .ok (.pointer (some ⟨w.heap.size,0,none⟩)) (w.alloc (.cells (a.eval o).cells t)):=by
    simp [Instr.box,newVar,newRow]
  have m:=qms h (.cells (a.eval o).cells t) f;obtain ⟨h1,y,_⟩:=qc0 m q;refine .new h (Kl g) ?_ ?_
  · refine qmo (b:=w.heap.size) (arr:=(a.eval o).cells) (ty:=t) k.pos (Y6 _ _ _) (Jt _ _) ?_ ?_
    · intro p x f
      cases p with
      | zero=>simp at f;subst f;exact hl
      | succ n=>simp at f
    · intro p x j d f hd
      cases p with
      | zero=>
        simp at f;subst f;obtain ⟨c,l⟩:=Yd (xs:=(a.eval o).cells) (i:=j) (by have:=Kg hd;omega);exact ⟨List.all_eq_true.1 q _ (List.mem_of_getElem? hd),c,by simpa using l,y j d c hd l⟩
      | succ n=>simp at f
  · have:=RelV.ref (w:=w.alloc (.cells (a.eval o).cells t)) (Z:=Z) (inj:=upd inj st.nx (some (w.heap.size,0))) (nx:=st.nx + 1) (n:=st.nx) (es:=i.size) (i:=0) (j:=0) q6 (Y6 _ _ _);simpa using this
theorem q23 {α : Type} (cs ys : List α) (o : Nat) (h : o + ys.length≤cs.length) : (splice cs o ys).length = cs.length:=by simp [splice];omega
theorem U4 {α : Type} (cs ys : List α) (o j : Nat) (h : o + ys.length≤cs.length) : (splice cs o ys)[j]? = if o≤j∧j < o + ys.length then ys[j - o]? else cs[j]?:=by
  have e : (cs.take o).length = o:=by simp;omega
  by_cases a : j < o
  · rw [qp q6,splice,List.append_assoc,List.getElem?_append_left q6,List.getElem?_take,qq a]
  · by_cases b : j < o + ys.length
    · rw [qq q6,splice,List.append_assoc,List.getElem?_append_right q6,e,List.getElem?_append_left q6]
    · rw [qp q6,splice,List.getElem?_append_right (by simp;omega),List.getElem?_drop];congr 1;rw [List.length_append,e];omega
theorem qjr (off : Nat) : ∀ (l : List Value) (s : Nat) (cs : Array Value),off + s + l.length≤cs.size→
    ((l.zipIdx s).foldl (fun (cs : Array Value) (x : Value × Nat)=>cs.setIfInBounds (off + x.2) x.1) cs).size = cs.size∧
    ∀ j : Nat,((l.zipIdx s).foldl (fun (cs : Array Value) (x : Value × Nat)=>cs.setIfInBounds (off + x.2) x.1) cs)[j]? = if off + s≤j∧j < off + s + l.length then l[j - (off + s)]? else cs[j]?
  | [],s,cs,_=>by
    refine ⟨rfl,fun j=>?_⟩
    have : ¬ (off + s≤j∧j < off + s + ([] : List Value).length):=by simp
    rw [qp this];rfl
  | v::r,s,cs,h=>by
    obtain ⟨f,g⟩:=qjr off r (s + 1) (cs.setIfInBounds (off + s) v) (by simp at h ⊢;omega)
    simp only [List.zipIdx_cons,List.foldl_cons]
    refine ⟨by rw [f];simp,fun j=>?_⟩
    rw [g j]
    simp only [List.length_cons] at h ⊢
    by_cases c : off + (s + 1)≤j∧j < off + (s + 1) + r.length
    · have a : off + s≤j∧j < off + s + (r.length + 1):=by omega
      rw [qq c,qq a,show j - (off + s) = (j - (off + (s + 1))) + 1 by omega,List.getElem?_cons_succ]
    · rw [qp c,Array.getElem?_setIfInBounds]
      by_cases b : off + s = j
      · have a : off + s≤j∧j < off + s + (r.length + 1):=by omega
        have d : j < cs.size:=by omega
        rw [qq b,qq a,qq q6,show j - (off + s) = 0 by omega]
        rfl
      · have a : ¬ (off + s≤j∧j < off + s + (r.length + 1)):=by omega
        rw [qp b,qp a]
theorem qjs (a cs : Array Value) (off : Nat) (h : off + a.size≤cs.size) :
    a.zipIdx.foldl (fun (cs : Array Value) (x : Value × Nat)=>cs.setIfInBounds (off + x.2) x.1) cs = (splice cs.toList off a.toList).toArray:=by
  rw [← Array.foldl_toList,Array.toList_zipIdx];obtain ⟨c,b⟩:=qjr off a.toList 0 cs (by simpa using h);have hs:=q23 cs.toList a.toList off (by simpa using h);apply Array.ext';apply List.ext_getElem?;intro j;rw [Array.getElem?_toList,b j,U4 _ _ _ _ (by simpa using h)];simp
def LRel (w : World) (Z : Nat→Prop) (inj : Inj) (nx : Nat) (cs : List V) (xs : Array Value) : Prop:=
  cs.length = xs.size∧∀ (i : Nat) (d : V) (c : Value),cs[i]? = some d→xs[i]? = some c→RelV w Z inj nx d c
theorem LRel.splice {w : World} {nx : Nat} {cs ys : List V} {xs g : Array Value} {o : Nat} (h : LRel w Z inj nx cs xs) (j : LRel w Z inj nx ys g) (k : o + ys.length≤cs.length) :
    LRel w Z inj nx (Am.splice cs o ys) (Am.splice xs.toList o g.toList).toArray:=by
  have l:=h.1;have m:=j.1;have f : o + g.toList.length≤xs.toList.length:=by simp;omega
  refine ⟨by simp [q23 _ _ _ k,q23 _ _ _ f,h.1],fun i d c hd b=>?_⟩;rw [U4 _ _ _ _ k] at hd;rw [List.getElem?_toArray,U4 _ _ _ _ f] at b;have e : g.toList.length = ys.length:=by simp;omega
  rw [e] at b;split at hd
  · rename_i a;rw [qq a] at b;exact j.2 _ _ _ hd (by simpa using b)
  · rename_i a;rw [qp a] at b;exact h.2 _ _ _ hd (by simpa using b)
theorem qjj {c : List (Nat × Operand)} {f : List (Nat × V)} (h : RelS w Z inj st a Ds) (hp : J8 st.ev c = some f) :
    f.length = c.length∧∀ (k : Nat) (i : Nat) (v : V),f[k]? = some (i,v)→∃ o,c[k]? = some (i,o)∧RelV w Z inj st.nx v (a.eval o):=by
  induction c generalizing f with
  | nil=>simp [J8] at hp;subst hp;simp
  | cons x r ih=>
    obtain ⟨i,o⟩:=x;simp only [J8] at hp
    cases b : st.ev o with
    | none=>simp [b] at hp
    | some v=>
      cases g : J8 st.ev r with
      | none=>simp [b,g] at hp
      | some l=>
        simp [b,g] at hp;subst hp;obtain ⟨p,m⟩:=ih g;refine ⟨by simp [p],fun k s n d=>?_⟩
        cases k with
        | zero=>simp at d;obtain ⟨rfl,rfl⟩:=d;exact ⟨o,qf,Kb h b⟩
        | succ k=>simp at d;obtain ⟨q,t,j⟩:=m k s n d;exact ⟨q,by simpa using t,j⟩
theorem q8x {os : List Operand} {g : List V} (h : RelS w Z inj st a Ds) (hp : evL st.ev os = some g) : LRel w Z inj st.nx g (os.map a.eval).toArray:=by
  induction os generalizing g with
  | nil=>simp [evL] at hp;subst hp;exact ⟨qf,qf⟩
  | cons o r ih=>
    simp only [evL] at hp
    cases f : st.ev o with
    | none=>simp [f] at hp
    | some v=>
      cases j : evL st.ev r with
      | none=>simp [f,j] at hp
      | some l=>
        simp [f,j] at hp;subst hp;obtain ⟨n,m⟩:=ih j;refine ⟨by simpa using n,fun k d c hd b=>?_⟩
        cases k with
        | zero=>simp at hd b;subst hd b;exact Kb h f
        | succ k=>simp at hd b;exact m k d c hd (by simpa using b)
theorem qfc {w : World} {nx : Nat} (place : Nat→Option (Nat × Nat)) : ∀ (b : List (Nat × V)) (xs : List (Nat × Value)) (l : List (Nat × List V)) (cs a : List V) (C : Array Value),
    b.length = xs.length→(∀ (k : Nat) (i : Nat) (v : V),b[k]? = some (i,v)→∃ x,xs[k]? = some (i,x)∧RelV w Z inj nx v x)→
    l.length = b.length→(∀ (k : Nat) (i : Nat) (v : V),b[k]? = some (i,v)→∃ o s,place i = some (o,s)∧(cellsOf v).length = s∧(cellsOf v).all Ko = true∧l[k]? = some (o,cellsOf v))→
    LRel w Z inj nx cs C→q58 cs l = some a→∃ h,Instr.fill place C xs = some h∧LRel w Z inj nx a h
  | [],xs,l,cs,a,C,h1,_,h3,_,h5,h6=>by
    have : xs = []:=by cases xs <;> simp_all
    have : l = []:=by cases l <;> simp_all
    subst_vars
    simp [q58] at h6;subst h6
    exact ⟨C,by simp [Instr.fill],h5⟩
  | (i,v)::b,xs,l,cs,a,C,h1,h2,h3,h4,h5,h6=>by
    match xs,l,h1,h3 with
    | (i',x)::xs,(o',ys)::l,h1,h3=>
      obtain ⟨z,f,r⟩:=h2 0 i v rfl
      simp at f;obtain ⟨rfl,rfl⟩:=f
      obtain ⟨o,s,hp,hl,u,d⟩:=h4 0 i' v rfl
      simp at d;obtain ⟨rfl,rfl⟩:=d
      obtain ⟨t,y,q3⟩:=qc0 r u
      simp only [q58] at h6
      split at h6
      · rename_i g
        have j : x.cells.size = s:=by omega
        have q : ¬ (o' + x.cells.size > C.size):=by have:=h5.1;omega
        obtain ⟨h,m,c⟩:=qfc place b xs l (splice cs o' (cellsOf v)) a (splice C.toList o' x.cells.toList).toArray (by simpa using h1)
          (fun k i v p=>by obtain ⟨x,n⟩:=h2 (k + 1) i v (by simpa using p);exact ⟨x,by simpa using n⟩) (by simpa using h3)
          (fun k i v p=>by obtain ⟨o,s,n⟩:=h4 (k + 1) i v (by simpa using p);exact ⟨o,s,by simpa using n⟩)
          (h5.splice ⟨t,y⟩ g) h6
        refine ⟨h,?_,c⟩
        simp only [Instr.fill,hp,j]
        have : ¬ ((decide (s≠s) || decide (o' + s > C.size)) = true):=by simp;omega
        rw [qp (by simpa using this)]
        rw [qjs x.cells C o' q6]
        exact m
      · simp at h6
end
end Go.Am
namespace Go.Am
open Go
variable {P : Program} {T : Tab}
section
variable {w : World} {Z : Nat→Prop} {inj : Inj} {nx : Nat}
theorem qmy {α β : Type} {f : α→Sem β} {g : α→β} : ∀ {l : List α},(∀ x∈l,(f x).run P w = .ok (g x) w)→(l.mapM f).run P w = .ok (l.map g) w
  | [],_=>by simp
  | x::r,h=>by
    have b:=h x qf
    have c:=qmy (l:=r) (fun y a=>h y (by simp [a]))
    simp [List.mapM_cons,b,c]
theorem qwn {α β : Type} {f : α→Sem β} {g : α→β} {l : Array α} (h : ∀ x∈l.toList,(f x).run P w = .ok (g x) w) : (l.mapM f).run P w = .ok (l.toList.map g).toArray w:=by
  rw [Array.mapM_eq_mapM_toList,Sem.run_map,qmy h];rfl
theorem qjp {j : Array Field} {k : List (Nat × Nat × Bool)} (h : (j.toList.mapM fun f => do
      let a ← P.info? f.type
      let c ← P.underlying f.type
      if a.size = 0 then none else some (f.offset,a.size,Kd c)) = some k) :
    k.length = j.size∧∀ (i : Nat) (f : Field),j[i]? = some f→∃ a c,P.info? f.type = some a∧P.underlying f.type = some c∧a.size≠0∧k[i]? = some (f.offset,a.size,Kd c):=by
  obtain ⟨o,p⟩:=q94 h;refine ⟨by simpa using o,fun i f m=>?_⟩;obtain ⟨y,n,b⟩:=p i f (by simpa using m)
  cases g : P.info? f.type with
  | none=>simp [g] at b
  | some a=>
    cases l : P.underlying f.type with
    | none=>simp [g,l] at b
    | some c=>
      simp only [g,l,Option.bind_eq_bind,qj] at b;split at b
      · simp at b
      · rename_i d;simp at b;subst b;exact ⟨a,c,rfl,rfl,d,n⟩
theorem qff {d : Array Field} {j : List (Nat × Nat × Bool)} (h : (d.toList.mapM fun f => do
      let a ← P.info? f.type
      let b ← P.underlying f.type
      if a.size = 0 then none else some (f.offset,a.size,Kd b)) = some j) {i off s : Nat} {ag : Bool} (hi : j[i]? = some (off,s,ag)) :
    ∃ f a b,d[i]? = some f∧P.info? f.type = some a∧P.underlying f.type = some b∧a.size = s∧s≠0∧f.offset = off∧Kd b = ag:=by
  obtain ⟨o,n⟩:=qjp h;obtain ⟨f,g⟩:=Yd (xs:=d) (i:=i) (by have:=Kg hi;omega);obtain ⟨a,b,l,k,m,c⟩:=n i f g;rw [hi] at c;simp at c;obtain ⟨rfl,rfl,rfl⟩:=c;exact ⟨f,a,b,g,l,k,rfl,m,rfl,rfl⟩
theorem qlx {a : TI} : ∀ {c : List (Nat × V)} {l : List (Nat × List V)},placed a c = some l→l.length = c.length∧∀ (k i : Nat) (v : V),c[k]? = some (i,v)→∃ o s,
    (match a.kind with | .struct=>(a.flds[i]?).map fun f=>(f.1,f.2.1) | .array=>some (i * a.esize,a.esize) | _=>none) = some (o,s)∧(cellsOf v).length = s∧(cellsOf v).all Ko = true∧l[k]? = some (o,cellsOf v)
  | [],l,h=>by simp [placed] at h;subst h;simp
  | (i,v)::r,l,h=>by
    simp only [placed] at h
    split at h
    · rename_i o s l' p w
      split at h
      · rename_i d
        simp at h;subst h
        obtain ⟨m,g⟩:=qlx w
        refine ⟨by simp [m],fun k q j b=>?_⟩
        cases k with
        | zero=>simp at b;obtain ⟨rfl,rfl⟩:=b;exact ⟨o,s,p,d.1,d.2,qf⟩
        | succ k=>simp at b;obtain ⟨n,t,u⟩:=g k q j b;exact ⟨n,t,by simpa using u⟩
      · simp at h
    · simp at h
theorem q135 {t : TypeId} {i : TI} {a : TypeInfo} {d : TypeDesc} {z : Value} (k : TiOk P t i a d z) : LRel w Z inj nx (i.zero.map .d) z.cells:=by
  obtain ⟨l,n⟩:=q8o (w:=w) (Z:=Z) k.cells;refine ⟨by simpa using l,fun j d c hd h=>?_⟩;simp only [List.getElem?_map,Y7] at hd;obtain ⟨m,f,rfl⟩:=hd;obtain ⟨o,b,g,_⟩:=n j m f;rw [h] at b;cases b;exact .d g
theorem Zg {t : TypeId} {a : TypeInfo} (h : P.info? t = some a) : (sizeOf t).run P w = .ok a.size w:=by simp [sizeOf,typeInfo,h]
theorem q2m {t : TypeId} {d : TypeDesc} (h : P.underlying t = some d) : (isAgg t).run P w = .ok (Kd d) w:=by
  simp only [isAgg,Sem.run_bind,run_underlying h,Result.andThen_ok];cases d <;> rfl
theorem qlt {t : TypeId} {a : TypeInfo} {d : TypeDesc} (q : P.info? t = some a) (m : P.underlying t = some d) {cs r : List V} {xs : Array Value} {off : Nat} {v : V} (l : LRel w Z inj nx cs xs)
    (hs : sub cs off a.size = some r) (hp : pack (Kd d) r = some v) : ∃ x,(part t xs off).run P w = .ok x w∧RelV w Z inj nx v x:=by
  obtain ⟨n,h⟩:=qb7 hs;have y:=(qo4 hs).1;have p:=l.1
  have g : ∀ (i : Nat) (d : V) (c : Value),r[i]? = some d→(xs.extract off (off + a.size)).toList[i]? = some c→RelV w Z inj nx d c:=by
    intro i d c hd j;obtain ⟨f,u⟩:=h i d hd;refine l.2 _ _ _ f ?_;rw [Array.getElem?_toList,Array.getElem?_extract] at j;split at j <;> first | exact j | simp at j
  have k : r.length = (xs.extract off (off + a.size)).toList.length:=by simp;omega
  have b:=qlq hp k g
  cases hb : Kd d with
  | true=>
    rw [hb] at b
    refine ⟨.agg (xs.extract off (off + a.size)),?_,by
      have s : RelV w Z inj nx v (.agg (xs.extract off (off + a.size)).toList.toArray):=b
      rwa [Array.toArray_toList] at s⟩
    simp [part,q2m m,hb,Zg q]
  | false=>
    rw [hb] at b hp
    match r,hp,n,h with
    | [c],hp,n,h=>
      simp only [pack,Option.some.injEq] at hp;subst hp;have f:=(h 0 c rfl).1;simp only [Nat.add_zero] at f;obtain ⟨x,o⟩:=Yd (xs:=xs) (i:=off) (by have:=Kg f;omega);exact ⟨x,by simp [part,q2m m,hb,o],l.2 _ _ _ f o⟩
end
section
variable {w : World} {Z : Nat→Prop} {inj : Inj} {st : AS} {a : Act} {Ds : List Nat}
theorem qty {t : TypeId} {i : TI} {m : Array (Nat × Operand)} {y : List (Nat × V)} {l : List (Nat × List V)} {cs : List V} (h : RelS w Z inj st a Ds) (ht : tiOf P t = some i) (hv : J8 st.ev m.toList = some y)
    (ha : i.agg = true) (hl : placed i y = some l) (hf : q58 (i.zero.map .d) l = some cs) :
    Km st st (q5m cs) w Z inj ((do pure (Next.value (← Instr.build t (m.map fun (i,x)=>(i,a.eval x)))) : Sem Next).run P w):=by
  obtain ⟨au,d,z,k⟩:=Yq ht;obtain ⟨p1,p2⟩:=qjj h hv;obtain ⟨q1,q2⟩:=qlx hl;have hz:=q135 (w:=w) (Z:=Z) (inj:=inj) (nx:=st.nx) k
  have r : ∀ (k i : Nat) (v : V),y[k]? = some (i,v)→∃ x,(m.toList.map fun (x : Nat × Operand)=>(x.1,a.eval x.2))[k]? = some (i,x)∧RelV w Z inj st.nx v x:=by
    intro k i v u;obtain ⟨o,ho,c⟩:=p2 k i v u;exact ⟨a.eval o,by simp only [List.getElem?_map,ho];rfl,c⟩
  have ac : (zeroValue t).run P w = .ok z w:=by simp [zeroValue,typeInfo,k.inf,k.zero]
  have b:=k.kind;unfold Zh at b;cases u : i.kind <;> simp only [u,TI.agg] at b ha
  case struct=>
    obtain ⟨fs,rfl,q⟩:=b;obtain ⟨_,af⟩:=qjp q
    obtain ⟨C',hC,c⟩:=qfc (fun i=>((fs.toList.map fun (f : Field)=>(f.offset,((P.info? f.type).map (·.size)).getD 0)).toArray)[i]?) y (m.toList.map fun (x : Nat × Operand)=>(x.1,a.eval x.2)) l _ cs z.cells (by simp [p1]) r q1
      (fun k i' v n=>by
        obtain ⟨o,s,h1,h2,h3,h4⟩:=q2 k i' v n;simp only [u,Y7] at h1;obtain ⟨⟨o',s',ag⟩,h5,h6⟩:=h1;simp at h6;obtain ⟨rfl,rfl⟩:=h6;obtain ⟨f,jf,df,p,g2,_,g4,_,g6,_⟩:=qff q h5
        exact ⟨o',s',by simp [p,g2,g4,g6],h2,h3,h4⟩) hz hf
    refine .quiet h (Kl (x:=.agg C') ?_) (qg7 c.1 c.2)
    have hm : (fs.mapM fun f=>do pure (f.offset,← sizeOf f.type) : Sem (Array (Nat × Nat))).run P w = .ok (fs.toList.map fun (f : Field)=>(f.offset,((P.info? f.type).map (·.size)).getD 0)).toArray w:=by
      refine qwn fun f hf=>?_;obtain ⟨j,hj⟩:=List.mem_iff_getElem?.1 hf;obtain ⟨jf,df,p,_⟩:=af j f (by simpa using hj);simp [Zg p,p]
    simp only [Instr.build,Sem.run_bind,ac,Result.andThen_ok,run_underlying k.und,hm];have g : Instr.fill (fun x=>((fs.toList.map fun (f : Field)=>(f.offset,((P.info? f.type).map (·.size)).getD 0)).toArray)[x]?) z.cells (m.map fun (x : Nat × Operand)=>(x.1,a.eval x.2)).toList = some C':=by simpa using hC
    simp only [g];rfl
  case array=>
    obtain ⟨e,ie,de,rfl,p,g2,g3,g4,_⟩:=b
    obtain ⟨C',hC,c⟩:=qfc (fun j=>some (j * i.esize,i.esize)) y (m.toList.map fun (x : Nat × Operand)=>(x.1,a.eval x.2)) l _ cs z.cells (by simp [p1]) r q1
      (fun k i' v n=>by
        obtain ⟨o,s,h1,h2,h3,h4⟩:=q2 k i' v n;simp only [u] at h1
        exact ⟨o,s,h1,h2,h3,h4⟩) hz hf
    refine .quiet h (Kl (x:=.agg C') ?_) (qg7 c.1 c.2);have g : Instr.fill (fun j=>some (j * i.esize,i.esize)) z.cells (m.map fun (x : Nat × Operand)=>(x.1,a.eval x.2)).toList = some C':=by simpa using hC
    simp only [Instr.build,Sem.run_bind,ac,Result.andThen_ok,run_underlying k.und,Zg p,g3,g];rfl
  all_goals simp at ha
theorem qkx {t : TypeId} {i : TI} {pv v : V} {vp : Value} (h : RelH w Z inj st.hp st.nx) (ht : tiOf P t = some i) (hx : RelV w Z inj st.nx pv vp) (a : Jy st i pv = some v) :
    ∃ b o x,vp = .pointer (some ⟨b,o,none⟩)∧(Instr.loadAt t vp).run P w = .ok x w∧RelV w Z inj st.nx v x:=by
  obtain ⟨an,d,z,k⟩:=Yq ht
  have fin : ∀ {b o : Nat} {r : List V} {pp : Value},pp = .pointer (some ⟨b,o,none⟩)→pack i.agg r = some v→r.length = i.size→
      (∀ (k : Nat) (x : V),r[k]? = some x→∃ c,w.cell? ⟨b,o + k,none⟩ = some c∧RelV w Z inj st.nx x c)→∃ b o x,pp = .pointer (some ⟨b,o,none⟩)∧(Instr.loadAt t pp).run P w = .ok x w∧RelV w Z inj st.nx v x:=by
    intro b o r pp m aj ab hc
    obtain ⟨x,af,ae⟩:=qsj (P:=P) k aj ab hc
    exact ⟨b,o,x,m,by rw [m];exact af,ae⟩
  cases pv <;> simp only [Jy,reduceCtorEq] at a
  case ref n es e j=>
    cases hx with
    | @ref _ _ _ _ b o hn hi=>
    cases hb : st.blk n with
    | none=>simp [hb] at a
    | some blk=>
      have hB:=(h.blk n blk hb).2
      cases blk with
      | dead=>simp [hb] at a
      | loop=>simp [hb] at a
      | mp=>simp [hb] at a
      | dat es' xs=>
        simp only [hb] at a;split at a <;> try simp at a
        rename_i cs m g;have m:=Nat.eq_of_beq_eq_true m;subst m
        cases hs : sub cs j i.size with
        | none=>simp [hs] at a
        | some r=>
          simp only [hs] at a;rw [qgm] at a;obtain ⟨s,u⟩:=qb7 hs;obtain ⟨b1,b2,f⟩:=hB;rcases f with ⟨f,_⟩ | ⟨b',o',arr,ty,f,b4,b5⟩
          · subst f;simp at g
          · rw [hi] at f;cases f;refine fin rfl a (by simpa using s) ?_;intro k x p;simp only [List.getElem?_map,Y7] at p;obtain ⟨y,hy,rfl⟩:=p;obtain ⟨q,_⟩:=u k y hy;obtain ⟨_,c,h4,h5⟩:=b5 e cs (j + k) y g q;exact ⟨c,by simp only [World.cell?,b4];rw [← h4];simp [Nat.add_assoc],.d h5⟩
      | cel es' xs=>
        simp only [hb] at a;split at a <;> try simp at a
        rename_i cs m g;have m:=Nat.eq_of_beq_eq_true m;subst m
        cases hs : sub cs j i.size with
        | none=>simp [hs] at a
        | some r=>
          simp only [hs] at a;obtain ⟨s,u⟩:=qb7 hs;obtain ⟨b1,b2,f⟩:=hB;rcases f with ⟨f,_⟩ | ⟨b',o',arr,ty,f,b4,b5⟩
          · subst f;simp at g
          · rw [hi] at f;cases f;refine fin rfl a s ?_;intro k x p;obtain ⟨q,_⟩:=u k x p;obtain ⟨_,c,h4,h5⟩:=b5 e cs (j + k) x g q;exact ⟨c,by simp only [World.cell?,b4];rw [← h4];simp [Nat.add_assoc],h5⟩
  case dref cs j=>
    cases hx with
    | @dref _ _ b o hz hc hr=>
    cases hs : sub cs j i.size with
    | none=>simp [hs] at a
    | some r=>
      simp only [hs] at a;rw [qgm] at a;obtain ⟨s,u⟩:=qb7 hs;refine fin rfl a (by simpa using s) ?_;intro k x p;simp only [List.getElem?_map,Y7] at p;obtain ⟨y,hy,rfl⟩:=p;obtain ⟨q,_⟩:=u k y hy;obtain ⟨c,l⟩:=hc _ _ q;exact ⟨c,by rw [← l,Nat.add_assoc],.d (hr _ _ _ q l)⟩
  case d x=>
    cases x <;> simp only [reduceCtorEq] at a
    rename_i cs
    cases hx with
    | d hx=>
    cases hx with
    | @box _ b o hz hc hr=>
    cases hs : sub cs 0 i.size with
    | none=>simp [hs] at a
    | some r=>
      simp only [hs] at a;rw [qgm] at a;obtain ⟨s,u⟩:=qb7 hs;refine fin rfl a (by simpa using s) ?_;intro k x p;simp only [List.getElem?_map,Y7] at p;obtain ⟨y,hy,rfl⟩:=p;obtain ⟨q,_⟩:=u k y hy;rw [Nat.zero_add] at q;obtain ⟨c,l⟩:=hc _ _ q;exact ⟨c,l,.d (hr _ _ _ q l)⟩
theorem qu9 {t : TypeId} {i : TI} {p : Operand} {pv v : V} (h : RelS w Z inj st a Ds) (f : tiOf P t = some i) (hp : st.ev p = some pv) (g : Jy st i pv = some v) :
    Km st st v w Z inj ((do pure (Next.value (← Instr.loadAt t (a.eval p))) : Sem Next).run P w):=by
  obtain ⟨b,o,x,_,c,d⟩:=qkx (P:=P) h.heap f (Kb h hp) g;exact .quiet h (Kl c) d
end
end Go.Am
namespace Go.Am
open Go
variable {P : Program} {T : Tab}
theorem qes : ∀ {c d : List (Option IntKind)} {a b : List DV} {r : Bool},Kh (c ++ d) a b = some r→
    ∃ p q,Kh c (a.take c.length) (b.take c.length) = some p∧Kh d (a.drop c.length) (b.drop c.length) = some q∧r = (p && q)
  | [],d,a,b,r,h=>⟨true,r,by simp [Kh],by simpa using h,qf⟩
  | k::c,d,a,b,r,h=>by
    match a,b,h with
    | x::a,y::b,h=>
      simp only [List.cons_append,Kh] at h
      split at h <;> simp at h
      rename_i u v l m
      obtain ⟨p,q,g,f,j⟩:=qes m
      refine ⟨u && p,q,by simp [Kh,l,g],by simpa using f,?_⟩
      rw [← h,j,Bool.and_assoc]
    | [],_,h=>simp [Kh] at h
    | _::_,[],h=>simp [Kh] at h
theorem qbz : ∀ {ks : List (Option IntKind)} {a b : List DV} {r : Bool},Kh ks a b = some r→a.length = ks.length∧b.length = ks.length
  | [],[],[],_,_=>⟨rfl,rfl⟩
  | k::ks,x::a,y::b,r,h=>by
    simp only [Kh] at h
    split at h <;> simp at h
    rename_i d c
    have:=qbz c
    simp;omega
  | [],_::_,_,_,h=>by simp [Kh] at h
  | [],[],_::_,_,h=>by simp [Kh] at h
  | _::_,[],_,_,h=>by simp [Kh] at h
  | _::_,_::_,[],_,h=>by simp [Kh] at h
section
variable {w : World} {Z : Nat→Prop}
def DRel (w : World) (Z : Nat→Prop) (ds : List DV) (cs : Array Value) : Prop:=ds.length = cs.size∧∀ (i : Nat) (d : DV) (c : Value),ds[i]? = some d→cs[i]? = some c→RelD w Z d c
theorem DRel.extract {ds : List DV} {cs : Array Value} (h : DRel w Z ds cs) (o s : Nat) (hs : o + s≤ds.length) : DRel w Z ((ds.drop o).take s) (cs.extract o (o + s)):=by
  have b:=h.1;refine ⟨by simp;omega,fun i d c hd a=>?_⟩;rw [List.getElem?_take] at hd;split at hd
  · rw [List.getElem?_drop] at hd;rw [Array.getElem?_extract] at a;split at a
    · exact h.2 _ _ _ hd a
    · simp at a
  · simp at hd
theorem qe1 {t : TypeId} {d : TypeDesc} (h : P.underlying t = some d) : ∃ a,P.info? t = some a∧P.cellsOf t = a.size:=by
  cases hi : P.info? t with
  | none=>simp [Program.underlying,hi] at h
  | some a=>exact ⟨a,rfl,by simp [Program.cellsOf,hi]⟩
def EqOk (P : Program) (w : World) (Z : Nat→Prop) (k : Nat) (t : TypeId) (desc : TypeDesc) (ks : List (Option IntKind)) : Prop:=
  ∀ (xs ys : List DV) (X Y : Array Value) (r : Bool),DRel w Z xs X→DRel w Z ys Y→Kh ks xs ys = some r→
    (Kd desc = true→(Op.equalIn k t (.agg X) (.agg Y)).run P w = .ok r w)∧(Kd desc = false→ks.length = 1∧∀ x y,X[0]? = some x→Y[0]? = some y→(Op.equalIn k t x y).run P w = .ok r w)
def q8t (k : Nat) (X Y : Array Value) (f : Field) (_s : Option Bool × Unit) : Sem (ForInStep (Option Bool × Unit)):=
  if f.name ≠ "_" then do
    let __do_lift ← part f.type X f.offset
    let __do_lift_1 ← part f.type Y f.offset
    let __do_lift ← Op.equalIn k f.type __do_lift __do_lift_1
    if (!__do_lift) = true then pure (ForInStep.done (some false,())) else pure (ForInStep.yield (none,()))
  else pure (ForInStep.yield (none,()))
theorem qji {k : Nat} {t : TypeId} {desc : TypeDesc} {b : TypeInfo} {ks : List (Option IntKind)} (h : EqOk P w Z k t desc ks) (f : P.underlying t = some desc) (hi : P.info? t = some b) (hs : b.size = ks.length)
    {xs ys : List DV} {X Y : Array Value} (n : DRel w Z xs X) (q : DRel w Z ys Y) {o : Nat} (l : o + ks.length≤xs.length) (g : o + ks.length≤ys.length) {p : Bool}
    (hp : Kh ks ((xs.drop o).take ks.length) ((ys.drop o).take ks.length) = some p) :
    ∃ s r,(part t X o).run P w = .ok s w∧(part t Y o).run P w = .ok r w∧(Op.equalIn k t s r).run P w = .ok p w:=by
  obtain ⟨z,j⟩:=h _ _ _ _ p (n.extract o ks.length l) (q.extract o ks.length g) hp
  cases a : Kd desc with
  | true=>
    exact ⟨.agg (X.extract o (o + ks.length)),.agg (Y.extract o (o + ks.length)),by simp [part,q2m f,a,Zg hi,hs],by simp [part,q2m f,a,Zg hi,hs],z a⟩
  | false=>
    obtain ⟨m,j⟩:=j a;have u:=n.1;have v:=q.1;obtain ⟨x,d⟩:=Yd (xs:=X) (i:=o) q6;obtain ⟨y,c⟩:=Yd (xs:=Y) (i:=o) q6;refine ⟨x,y,by simp [part,q2m f,a,d],by simp [part,q2m f,a,c],j x y ?_ ?_⟩
    · rw [Array.getElem?_extract,m,qq (by have:=Zj d;omega)];exact d
    · rw [Array.getElem?_extract,m,qq (by have:=Zj c;omega)];exact c
theorem qjf (d : Nat) (k : Nat) (n : ∀ t desc ks,P.underlying t = some desc→Kk P d t = some ks→EqOk P w Z k t desc ks)
    (xs ys : List DV) (X Y : Array Value) (s : DRel w Z xs X) (u : DRel w Z ys Y) : ∀ (l : List Field) (o : Nat) (r : Bool) (ks : List (Option IntKind)),tile P (Kk P d) o l = some ks→o + ks.length≤xs.length→o + ks.length≤ys.length→
    Kh ks (xs.drop o) (ys.drop o) = some r→(forIn l ((none : Option Bool),()) (q8t k X Y) : Sem (Option Bool × Unit)).run P w = .ok (if r then (none,()) else (some false,())) w
  | [],o,r,ks,ht,_,_,hc=>by
    simp only [tile,Option.some.injEq] at ht;subst ht
    obtain ⟨h1,h2⟩:=qbz hc
    rw [List.eq_nil_of_length_eq_zero h1,List.eq_nil_of_length_eq_zero h2] at hc
    simp [Kh] at hc;subst hc
    simp
  | f::l,o,r,ks,ht,hlx,hly,hc=>by
    simp only [tile] at ht
    cases a : Kk P d f.type with
    | none=>simp [a] at ht
    | some ka=>
      simp only [a] at ht
      split at ht <;> try simp at ht
      rename_i b
      obtain ⟨rfl,z,y⟩:=b
      cases c : tile P (Kk P d) (f.offset + ka.length) l with
      | none=>simp [c] at ht
      | some kb=>
        simp only [c,Option.some.injEq] at ht;subst ht
        simp only [List.length_append] at hlx hly
        obtain ⟨p,q,hp,v,j⟩:=qes hc
        rw [List.drop_drop,List.drop_drop] at v
        obtain ⟨h,g⟩ : ∃ h,P.underlying f.type = some h:=by
          cases hu : P.underlying f.type with
          | none=>cases d <;> simp [Kk,hu] at a
          | some h=>exact ⟨h,rfl⟩
        obtain ⟨jf,m,x⟩:=qe1 g
        obtain ⟨vx,vy,g1,g2,g3⟩:=qji (n f.type h ka g a) g m q6 s u (o:=f.offset) q6 q6 hp
        rw [List.forIn_cons]
        simp only [q8t,qq z,Sem.run_bind,g1,g2,g3,Result.andThen_ok]
        cases p with
        | false=>simp [j]
        | true=>
          have:=qjf d k n xs ys X Y s u l (f.offset + ka.length) q kb c q6 q6 v;simp only [Bool.true_and] at j;subst j;simpa using this
def q8u (k : Nat) (e : TypeId) (n : Nat) (X Y : Array Value) (i : Nat) (_s : Option Bool × Unit) : Sem (ForInStep (Option Bool × Unit)):=do
  let __do_lift ← part e X (i * n)
  let __do_lift_1 ← part e Y (i * n)
  let __do_lift ← Op.equalIn k e __do_lift __do_lift_1
  if (!__do_lift) = true then pure (ForInStep.done (some false,())) else pure (ForInStep.yield (none,()))
theorem qjg {k : Nat} {e : TypeId} {desc : TypeDesc} {b : TypeInfo} {a : List (Option IntKind)} (f : EqOk P w Z k e desc a) (g : P.underlying e = some desc) (hi : P.info? e = some b) (hs : b.size = a.length)
    {xs ys : List DV} {X Y : Array Value} (h : DRel w Z xs X) (j : DRel w Z ys Y) : ∀ (m s : Nat) (r : Bool),(s + m) * a.length≤xs.length→(s + m) * a.length≤ys.length→
    Kh (List.replicate m a).flatten (xs.drop (s * a.length)) (ys.drop (s * a.length)) = some r→(forIn (List.range' s m) ((none : Option Bool),()) (q8u k e b.size X Y) : Sem (Option Bool × Unit)).run P w = .ok (if r then (none,()) else (some false,())) w
  | 0,s,r,_,_,hc=>by
    simp only [List.replicate_zero,List.flatten_nil] at hc
    obtain ⟨n,v⟩:=qbz hc
    rw [List.eq_nil_of_length_eq_zero n,List.eq_nil_of_length_eq_zero v] at hc
    simp [Kh] at hc;subst hc
    simp
  | m + 1,s,r,hlx,hly,hc=>by
    rw [List.replicate_succ,List.flatten_cons] at hc
    obtain ⟨p,q,hp,c,d⟩:=qes hc
    rw [List.drop_drop,List.drop_drop] at c
    have u : s * a.length + a.length = (s + 1) * a.length:=by rw [Nat.add_mul];simp
    have y : (s + 1) * a.length + m * a.length = (s + (m + 1)) * a.length:=by rw [← Nat.add_mul];congr 1;omega
    obtain ⟨vx,z,x,l,t⟩:=qji f g hi hs h j (o:=s * a.length) q6 q6 hp
    rw [List.range'_succ,List.forIn_cons]
    simp only [q8u,hs,Sem.run_bind,x,l,t,Result.andThen_ok]
    cases p with
    | false=>simp [d]
    | true=>
      rw [u] at c
      have:=qjg f g hi hs h j m (s + 1) q (by rw [Nat.add_mul];omega) (by rw [Nat.add_mul];omega) c
      simp only [Bool.true_and] at d
      subst d
      rw [hs] at this
      simpa using this
theorem qc8 : ∀ (d : Nat) (t : TypeId) (desc : TypeDesc) (ks : List (Option IntKind)),P.underlying t = some desc→Kk P d t = some ks→∀ k,d≤k→EqOk P w Z k t desc ks
  | 0,t,desc,ks,hu,hp,k,hk=>by simp [Kk] at hp
  | d + 1,t,desc,ks,hu,hp,k,hk=>by
    obtain ⟨k,rfl⟩ : ∃ k',k = k' + 1:=⟨k - 1,q6⟩
    intro xs ys X Y r u v c
    obtain ⟨m,p⟩:=qbz c
    simp only [Kk,hu] at hp
    cases desc <;> simp only [reduceCtorEq,Option.some.injEq] at hp
    case bool=>
      subst hp
      refine ⟨by simp [Kd],fun _=>⟨rfl,fun x y h l=>?_⟩⟩
      match xs,ys,m,p,c with
      | [a],[b],_,_,c=>
        have ra:=u.2 0 a x rfl h
        have rb:=v.2 0 b y rfl l
        simp only [Kh] at c
        cases a <;> cases b <;> simp only [q2a,reduceCtorEq] at c
        simp at c;subst c
        cases ra;cases rb;simp [Op.equalIn,run_underlying hu]
    case int k0=>
      subst hp
      refine ⟨by simp [Kd],fun _=>⟨rfl,fun x y h l=>?_⟩⟩
      match xs,ys,m,p,c with
      | [a],[b],_,_,c=>
        have ra:=u.2 0 a x rfl h
        have rb:=v.2 0 b y rfl l
        simp only [Kh] at c
        cases a <;> cases b <;> simp only [q2a,reduceCtorEq] at c
        split at c <;> simp at c
        rename_i s z
        split at s <;> simp at s
        rename_i ac
        obtain ⟨rfl,rfl⟩:=ac
        subst s c
        simp at z;subst z
        cases ra;cases rb;simp [Op.equalIn,run_underlying hu]
    case struct fs=>
      refine ⟨fun _=>?_,by simp [Kd]⟩
      split at hp
      · simp at hp
      · rename_i aa
        simp only [Op.equalIn,Sem.run_bind,run_underlying hu,Result.andThen_ok,run_program,aa,Bool.false_eq_true,if_false]
        have:=qjf (P:=P) (w:=w) (Z:=Z) d k (fun t desc ks s z=>qc8 d t desc ks s z k q6) xs ys X Y u v fs.toList 0 r ks hp q6 q6 (by simpa using c)
        rw [Array.forIn_toList] at this
        have e : (fun (f : Field) (_s : Option Bool × Unit)=>q8t k X Y f _s) = q8t k X Y:=rfl
        unfold q8t at this
        rw [this]
        cases r <;> simp
    case array n e=>
      refine ⟨fun _=>?_,by simp [Kd]⟩
      cases g : Kk P d e with
      | none=>simp [g] at hp
      | some a=>
        simp only [g] at hp
        split at hp
        · rename_i ai
          simp only [Option.some.injEq] at hp;subst hp
          obtain ⟨o,j⟩ : ∃ o,P.underlying e = some o:=by
            cases ae : P.underlying e with
            | none=>cases d <;> simp [Kk,ae] at g
            | some o=>exact ⟨o,rfl⟩
          obtain ⟨je,q,ag⟩:=qe1 j
          have af : (List.replicate n a).flatten.length = n * a.length:=by simp
          have:=qjg (qc8 d e o a j g k q6) j q q6 u v n 0 r (by rw [Nat.zero_add];omega) (by rw [Nat.zero_add];omega) (by simpa using c)
          simp only [Op.equalIn,Sem.run_bind,run_underlying hu,Result.andThen_ok,Zg q,Std.Legacy.Range.forIn_eq_forIn_range']
          have e : (fun (i : Nat) (_s : Option Bool × Unit)=>q8u k e je.size X Y i _s) = q8u k e je.size X Y:=rfl
          unfold q8u at this
          simp only [Std.Legacy.Range.size,Nat.sub_zero,Nat.add_sub_cancel,Nat.div_one]
          rw [this]
          cases r <;> simp
        · simp at hp
end
section
variable {w : World} {Z : Nat→Prop} {inj : Inj} {st : AS} {a : Act} {Ds : List Nat}
theorem qp6 {op : BinOp} {k : IntKind} {x y : Int} {r : DV} (h : binI op k x y = some r) (hs : op≠.shl∧op≠.shr) : ∃ v,(∀ t,(binOp op t (.int k x) (.int k y)).run P w = .ok v w)∧RelD w Z r v:=by
  cases op <;> simp only [binI,reduceCtorEq,Option.some.injEq] at h <;> try (simp at hs;done)
  case add=>subst h;exact ⟨_,fun t=>by simp [binOp,Op.intArith],.int _ _⟩
  case sub=>subst h;exact ⟨_,fun t=>by simp [binOp,Op.intArith],.int _ _⟩
  case mul=>subst h;exact ⟨_,fun t=>by simp [binOp,Op.intArith],.int _ _⟩
  case quo=>split at h <;> simp at h;subst h;rename_i a;exact ⟨_,fun t=>by simp [binOp,Op.intDiv,a],.int _ _⟩
  case rem=>split at h <;> simp at h;subst h;rename_i a;exact ⟨_,fun t=>by simp [binOp,Op.intDiv,a],.int _ _⟩
  case and=>subst h;exact ⟨_,fun t=>by simp [binOp,Op.intBits],.int _ _⟩
  case or=>subst h;exact ⟨_,fun t=>by simp [binOp,Op.intBits],.int _ _⟩
  case xor=>subst h;exact ⟨_,fun t=>by simp [binOp,Op.intBits],.int _ _⟩
  case eql=>subst h;exact ⟨_,fun t=>by simp [binOp,Op.intCmp],.bool _⟩
  case neq=>subst h;exact ⟨_,fun t=>by simp [binOp,Op.intCmp],.bool _⟩
  case lss=>subst h;exact ⟨_,fun t=>by simp [binOp,Op.intCmp],.bool _⟩
  case leq=>subst h;exact ⟨_,fun t=>by simp [binOp,Op.intCmp],.bool _⟩
  case gtr=>subst h;exact ⟨_,fun t=>by simp [binOp,Op.intCmp],.bool _⟩
  case geq=>subst h;exact ⟨_,fun t=>by simp [binOp,Op.intCmp],.bool _⟩
theorem qn8 {op : BinOp} {k b : IntKind} {x y : Int} {r : DV} (h : q9u op k x y = some r) : ∃ v,(∀ t,(binOp op t (.int k x) (.int b y)).run P w = .ok v w)∧RelD w Z r v:=by
  unfold q9u at h;split at h <;> try simp at h
  rename_i a;cases op <;> simp only [reduceCtorEq,Option.some.injEq] at h
  case shl=>subst h;exact ⟨_,fun t=>by simp [binOp,Op.shift,a],.int _ _⟩
  case shr=>subst h;exact ⟨_,fun t=>by simp [binOp,Op.shift,a],.int _ _⟩
theorem q1a {op : BinOp} {t : TypeId} {x y : Operand} {u v : Value} (b : ∀ c,u≠.agg c) (a : u≠.nilIface) : (eqGuard op t x y u v).run P w = .ok () w:=by
  unfold eqGuard;cases op <;> simp <;> cases u <;> simp_all
theorem qjd {op : BinOp} {t : TypeId} {x y : Operand} {u v : Array Value} (h : P.eqGuardType P.depth t = false) : (eqGuard op t x y (.agg u) (.agg v)).run P w = .ok () w:=by
  unfold eqGuard;cases op <;> simp [h]
end
end Go.Am
namespace Go.Am
open Go
variable {P : Program} {T : Tab}
section
variable {w : World} {Z : Nat→Prop} {inj : Inj} {st : AS} {a : Act} {Ds : List Nat}
theorem qob {a : TypeId → Option (List (Option IntKind))} {k : Nat} (b : ∀ t ks, a t = some ks → P.eqGuardType k t = false) : ∀ {l : List Field} {o : Nat} {ks}, tile P a o l = some ks → l.any (fun f => f.name != "_" && P.eqGuardType k f.type) = false
  | [],_,_,_=>rfl
  | f::r,o,ks,h=>by
    simp only [tile] at h
    cases hp : a f.type with
    | none=>simp [hp] at h
    | some ka=>
      simp only [hp] at h
      split at h <;> try simp at h
      cases c : tile P a (o + ka.length) r with
      | none=>simp [c] at h
      | some kb=>
        have:=qob b c
        simp only [List.any_cons,this,b _ _ hp,Bool.and_false,Bool.or_false]
theorem qgd : ∀ (d : Nat) (t : TypeId) (ks : List (Option IntKind)),Kk P d t = some ks→∀ k,d≤k→P.eqGuardType k t = false
  | 0,t,ks,h,k,hk=>by simp [Kk] at h
  | d + 1,t,ks,h,k,hk=>by
    obtain ⟨k,rfl⟩ : ∃ c,k = c + 1:=⟨k - 1,q6⟩
    simp only [Kk] at h
    simp only [Program.eqGuardType]
    cases b : P.underlying t with
    | none=>rfl
    | some desc=>
      cases desc <;> simp only [b,reduceCtorEq] at h <;> try rfl
      case array n e=>
        cases hp : Kk P d e with
        | none=>simp [hp] at h
        | some a=>exact qgd d e a hp k q6
      case struct fs=>
        split at h <;> try simp at h
        have:=qob (fun t ks hp=>qgd d t ks hp k q6) h
        simp only []
        rw [← Array.any_toList];exact this
theorem qlk {op : BinOp} {t : TypeId} {i : TI} {x y : Operand} {p q : List DV} {ks : List (Option IntKind)} {r : Bool} {b : DV} (h : RelS w Z inj st a Ds) (u : tiOf P t = some i) (hx : st.ev x = some (.d (.agg p))) (hy : st.ev y = some (.d (.agg q)))
    (s : i.eqs = some ks) (v : Kh ks p q = some r) (m : (op = .eql∧b = .bool r)∨(op = .neq∧b = .bool (!r))) :
    Km st st (.d b) w Z inj ((do pure (Next.value (← (do eqGuard op t x y (a.eval x) (a.eval y);binOp op t (a.eval x) (a.eval y) : Sem Value)) ) : Sem Next).run P w):=by
  obtain ⟨n,d,z,k⟩:=Yq u;have g:=Kb h hx;have j:=Kb h hy;generalize a.eval x = vx at g ⊢;generalize a.eval y = vy at j ⊢
  cases g with | d g=>cases g with | @agg _ X hl1 hr1=>
  cases j with | d j=>cases j with | @agg _ Y hl2 hr2=>
  obtain ⟨f,l⟩:=k.eqs ks s;have o : P.eqGuardType P.depth t = false:=qgd 8 t ks f _ (by unfold Program.depth Made.depth;omega);have c:=(qc8 (w:=w) (Z:=Z) 8 t d ks k.und f Op.maxDepth (by unfold Op.maxDepth;omega) p q X Y r ⟨hl1,hr1⟩ ⟨hl2,hr2⟩ v).1 l;rcases m with ⟨rfl,rfl⟩ | ⟨rfl,rfl⟩
  · exact .quiet h (Kl (x:=.bool r) (by simp [qjd o,binOp,Op.equal,c])) (.d (.bool _))
  · exact .quiet h (Kl (x:=.bool (!r)) (by simp [qjd o,binOp,Op.equal,c])) (.d (.bool _))
theorem qtw {op : BinOp} {t : TypeId} {x y : Operand} {k j : IntKind} {p q : Int} {b : DV} (h : RelS w Z inj st a Ds) (z : st.ev x = some (.d (.int k p))) (hy : st.ev y = some (.d (.int j q)))
    (c : binD op (.int k p) (.int j q) = some b) :
    Km st st (.d b) w Z inj ((do pure (Next.value (← (do eqGuard op t x y (a.eval x) (a.eval y);binOp op t (a.eval x) (a.eval y) : Sem Value)) ) : Sem Next).run P w):=by
  have l:=Kb h z;have m:=Kb h hy;generalize a.eval x = vx at l ⊢;generalize a.eval y = vy at m ⊢
  cases l with | d l=>
  cases l
  cases m with | d m=>
  cases m;have s:=q1a (P:=P) (w:=w) (op:=op) (t:=t) (x:=x) (y:=y) (u:=.int k p) (v:=.int j q) qf qf
  have key : ∃ v,(∀ t,(binOp op t (.int k p) (.int j q)).run P w = .ok v w)∧RelD w Z b v:=by
    unfold binD at c;split at c
    · rename_i g f;cases g;cases f;exact qn8 c
    · rename_i g f;cases g;cases f;exact qn8 c
    · rename_i n1 o g f;cases g;cases f;split at c <;> try simp at c
      rename_i hk;subst hk;exact qp6 c ⟨fun e=>n1 e,fun e=>o e⟩
    · simp at c
  obtain ⟨v,r,n⟩:=key;exact .quiet h (Kl (x:=v) (by simp [s,r])) (.d n)
theorem maxD : Op.maxDepth = 9999 + 1:=rfl
theorem qqz {t : TypeId} (h : P.underlying t = some .bool) (p q : Bool) : (Op.equal t (.bool p) (.bool q)).run P w = .ok (p == q) w:=by
  rw [Op.equal,maxD,Op.equalIn];simp only [Sem.run_bind,run_underlying h,Result.andThen_ok];rfl
theorem qjh {t e : TypeId} (h : P.underlying t = some (.slice e)) (a : Option Addr) (n c : Nat) : (Op.equal t (.slice none 0 0) (.slice a n c)).run P w = .ok a.isNone w:=by
  rw [Op.equal,maxD,Op.equalIn];simp only [Sem.run_bind,run_underlying h,Result.andThen_ok];rfl
theorem qr3 {t e : TypeId} (h : P.underlying t = some (.slice e)) (a : Addr) (n c : Nat) : (Op.equal t (.slice (some a) n c) (.slice none 0 0)).run P w = .ok false w:=by
  rw [Op.equal,maxD,Op.equalIn];simp only [Sem.run_bind,run_underlying h,Result.andThen_ok];rfl
theorem qr0 {t : TypeId} {x y z} (h : P.underlying t = some (.func x y z)) : (Op.equal t .nilFunc .nilFunc).run P w = .ok true w:=by
  rw [Op.equal,maxD,Op.equalIn];simp only [Sem.run_bind,run_underlying h,Result.andThen_ok];rfl
theorem qr1 {t : TypeId} {x y z} (h : P.underlying t = some (.func x y z)) (f g c) : (Op.equal t .nilFunc (.func f g c)).run P w = .ok false w:=by
  rw [Op.equal,maxD,Op.equalIn];simp only [Sem.run_bind,run_underlying h,Result.andThen_ok];rfl
theorem qr2 {t : TypeId} {x y z} (h : P.underlying t = some (.func x y z)) (f g c) : (Op.equal t (.func f g c) .nilFunc).run P w = .ok false w:=by
  rw [Op.equal,maxD,Op.equalIn];simp only [Sem.run_bind,run_underlying h,Result.andThen_ok];rfl
theorem q3c {t : TypeId} {u v : Value} {r : Bool} (a : (Op.equal t u v).run P w = .ok r w) (d : ∀ k n,u≠.int k n) (f : ∀ k n,u≠.float k n) (c : ∀ k n m,u≠.complex k n m) (b : ∀ s,u≠.string s) :
    (binOp .eql t u v).run P w = .ok (.bool r) w∧(binOp .neq t u v).run P w = .ok (.bool (!r)) w:=by
  cases u <;> first | (exfalso;exact d _ _ rfl) | (exfalso;exact f _ _ rfl) | (exfalso;exact c _ _ _ rfl) | (exfalso;exact b _ rfl) | (constructor <;> (simp only [binOp];simp [a]))
theorem qtv {op : BinOp} {t : TypeId} {i : TI} {x y : Operand} {p q : DV} {b : DV} (h : RelS w Z inj st a Ds) (ht : tiOf P t = some i) (hx : st.ev x = some (.d p)) (hy : st.ev y = some (.d q))
    (m : binE op i.kind p q = some b) :
    Km st st (.d b) w Z inj ((do pure (Next.value (← (do eqGuard op t x y (a.eval x) (a.eval y);binOp op t (a.eval x) (a.eval y) : Sem Value)) ) : Sem Next).run P w):=by
  obtain ⟨aa,d,z,k⟩:=Yq ht;have j:=Kb h hx;have l:=Kb h hy;generalize a.eval x = vx at j ⊢;generalize a.eval y = vy at l ⊢
  cases j with | d j=>
  cases l with | d l=>
  have key : ∀ r,eqK i.kind p q = some r→(eqGuard op t x y vx vy).run P w = .ok () w∧(binOp .eql t vx vy).run P w = .ok (.bool r) w∧(binOp .neq t vx vy).run P w = .ok (.bool (!r)) w:=by
    intro r c;have n:=k.kind;unfold Zh at n;unfold eqK at c;split at c <;> simp at c <;> (rename_i s;simp only [s] at n)
    · subst c;obtain ⟨rfl,_⟩:=n;cases j;cases l;exact ⟨q1a qf qf,q3c (qqz k.und _ _) qf qf qf qf⟩
    · subst c;cases j;cases l;exact ⟨q1a qf qf,by simp only [binOp,Op.stringOp];rfl,by simp only [binOp,Op.stringOp];rfl⟩
    · subst c;obtain ⟨e,ie,de,v,rfl,_⟩:=n;cases j;cases l;exact ⟨q1a qf qf,q3c (qjh k.und _ _ _) qf qf qf qf⟩
    · subst c;obtain ⟨e,ie,de,v,rfl,_⟩:=n;cases j;cases l;exact ⟨q1a qf qf,q3c (qjh k.und _ _ _) qf qf qf qf⟩
    · subst c;obtain ⟨e,ie,de,v,rfl,_⟩:=n;cases j;cases l;exact ⟨q1a qf qf,q3c (qr3 k.und _ _ _) qf qf qf qf⟩
    · subst c;obtain ⟨⟨e,f,g,rfl⟩,_⟩:=n;cases j;cases l;exact ⟨q1a qf qf,q3c (qr0 k.und) qf qf qf qf⟩
    · subst c;obtain ⟨⟨e,f,g,rfl⟩,_⟩:=n;cases j;cases l;exact ⟨q1a qf qf,q3c (qr1 k.und _ _ _) qf qf qf qf⟩
    · subst c;obtain ⟨⟨e,f,g,rfl⟩,_⟩:=n;cases j;cases l;exact ⟨q1a qf qf,q3c (qr2 k.und _ _ _) qf qf qf qf⟩
  unfold binE at m;split at m
  · cases c : eqK i.kind p q with
    | none=>simp [c] at m
    | some r=>
      simp [c] at m;subst m;obtain ⟨u,o,_⟩:=key r c;exact .quiet h (Kl (x:=.bool r) (by simp [u,o])) (.d (.bool _))
  · cases c : eqK i.kind p q with
    | none=>simp [c] at m
    | some r=>
      simp [c] at m;subst m;obtain ⟨u,_,o⟩:=key r c;exact .quiet h (Kl (x:=.bool (!r)) (by simp [u,o])) (.d (.bool _))
  · simp at m
end
end Go.Am
namespace Go.Am
open Go
variable {P : Program} {T : Tab}
section
variable {w : World} {Z : Nat→Prop} {inj : Inj} {st : AS} {a : Act} {Ds : List Nat}
theorem quh {op : UnOp} {x : Operand} {p b : DV} (h : RelS w Z inj st a Ds) (g : st.ev x = some (.d p)) (c : unD op p = some b) :
    Km st st (.d b) w Z inj ((do pure (Next.value (← Op.unary op (a.eval x))) : Sem Next).run P w):=by
  have f:=Kb h g;generalize a.eval x = vx at f ⊢
  cases f with | d f=>
  unfold unD at c;split at c
  · simp at c;subst c;cases f;exact .quiet h (Kl (by simp [Op.unary,Op.intArith])) (.d (.int _ _))
  · simp at c;subst c;cases f;exact .quiet h (Kl (by simp [Op.unary])) (.d (.bool _))
  · cases f;simp only [binI,Option.some.injEq] at c;subst c;exact .quiet h (Kl (by simp [Op.unary,Op.intBits])) (.d (.int _ _))
  · simp at c
theorem qu1 {src dst : TypeId} {i j : TI} {x : Operand} {k0 s k : IntKind} {n : Int} (h : RelS w Z inj st a Ds) (hi : tiOf P src = some i) (r : tiOf P dst = some j) (g : i.kind = .int k0) (l : j.kind = .int k) (t : st.ev x = some (.d (.int s n))) :
    Km st st (.d (.int k (k.wrap n))) w Z inj ((do pure (Next.value (← convert src dst (a.eval x))) : Sem Next).run P w):=by
  obtain ⟨q,d,z,p⟩:=Yq hi;obtain ⟨f,v,u,o⟩:=Yq r;have c:=p.kind;have m:=o.kind;unfold Zh at c m;simp only [g,l] at c m;obtain ⟨rfl,_⟩:=c;obtain ⟨rfl,_⟩:=m;have b:=Kb h t;generalize a.eval x = vx at b ⊢
  cases b with | d b=>
  cases b;refine .quiet h (Kl (x:=.int k (k.wrap n)) ?_) (.d (.int _ _));simp only [convert,Sem.run_bind,run_underlying p.und,run_underlying o.und,Result.andThen_ok];simp [Conv.intToInt]
theorem qub {f : FuncId} {first b : Array Operand} {j : List V} (h : RelS w Z inj st a Ds) (n : first.size = 0) (m : evL st.ev b.toList = some j) :
    Km st st (match allD j with | some ds=>.d (.fn f ds) | none=>.fn f j) w Z inj ((do pure (Next.value (← Instr.makeFunc (.func f) (first.map a.eval) (b.map a.eval))) : Sem Next).run P w):=by
  have g:=q8x h m;have o : first.map a.eval = #[]:=by apply Array.eq_empty_of_size_eq_zero;simpa using n
  have k : (b.toList.map a.eval).toArray = b.map a.eval:=by apply Array.ext';simp
  rw [k] at g;refine .quiet h (Kl (x:=.func (.func f) #[] (b.map a.eval)) (by simp [Instr.makeFunc,o])) ?_;split
  · rename_i ds hd;have:=q52 hd;subst this;refine .d (.fn (by simpa using g.1) fun i d c hd l=>?_);have:=g.2 i (.d d) c (by simp [hd]) l
    cases this with | d h=>exact h
  · exact .fn g.1 g.2
theorem qll {x : Operand} {k : Nat} {v : V} (h : RelS w Z inj st a Ds) (g : (∃ b d,st.ev x = some (.d (.tup b))∧b[k]? = some d∧v = .d d)∨∃ b,st.ev x = some (.tup b)∧b[k]? = some v) :
    Km st st v w Z inj ((do pure (Next.value (← Instr.extract (a.eval x) k)) : Sem Next).run P w):=by
  rcases g with ⟨b,d,g,j,rfl⟩ | ⟨b,g,j⟩
  · have f:=Kb h g;generalize a.eval x = vx at f ⊢
    cases f with | d f=>
    cases f with | @tup _ cs hl hr=>
    obtain ⟨c,l⟩:=Yd (xs:=cs) (i:=k) (by have:=Kg j;omega);exact .quiet h (Kl (x:=c) (by simp [Instr.extract,l])) (.d (hr _ _ _ j l))
  · have f:=Kb h g;generalize a.eval x = vx at f ⊢
    cases f with | @tup _ cs hl hr=>
    obtain ⟨c,l⟩:=Yd (xs:=cs) (i:=k) (by have:=Kg j;omega);exact .quiet h (Kl (x:=c) (by simp [Instr.extract,l])) (hr _ _ _ j l)
theorem qhx {nx : Nat} {v : V} {x : Value} {cs : List V} (h : RelV w Z inj nx v x) (a : agD v = some cs) : ∃ xs,x = .agg xs∧LRel w Z inj nx cs xs:=by
  unfold agD at a;split at a <;> simp at a
  · subst a
    cases h with | d h=>
    cases h with | @agg _ X hl hr=>
    refine ⟨X,rfl,by simpa using hl,fun i d c hd g=>?_⟩;simp only [List.getElem?_map,Y7] at hd;obtain ⟨f,b,rfl⟩:=hd;exact .d (hr i f c b g)
  · subst a
    cases h with | @agg _ X hl hr=>exact ⟨X,rfl,hl,hr⟩
theorem qu4 {s : TypeId} {i : TI} {x : Operand} {j v : V} {f off size : Nat} {ag : Bool} {cs r : List V} (h : RelS w Z inj st a Ds) (hi : tiOf P s = some i) (q : st.ev x = some j) (t : i.kind = .struct) (hf : i.flds[f]? = some (off,size,ag))
    (m : agD j = some cs) (hs : sub cs off size = some r) (hp : pack ag r = some v) :
    Km st st v w Z inj ((do pure (Next.value (← Instr.field s (a.eval x) f)) : Sem Next).run P w):=by
  obtain ⟨g,d,z,k⟩:=Yq hi;have b:=k.kind;unfold Zh at b;simp only [t] at b;obtain ⟨fs,rfl,c⟩:=b;obtain ⟨fd,jf,df,g1,g2,g3,l,g5,g6,n⟩:=qff c hf;obtain ⟨xs,o,hl⟩:=qhx (Kb h q) m;subst l g6 n;obtain ⟨y,u,p⟩:=qlt (P:=P) g2 g3 hl hs hp;refine .quiet h (Kl (x:=y) ?_) p;simp only [Instr.field,Sem.run_bind,run_underlying k.und,Result.andThen_ok,g1,o,asAgg,Sem.run_pure,u]
theorem qu6 {t : TypeId} {i : TI} {x g : Operand} {m v : V} {k0 : IntKind} {n : Int} {cs r : List V} (h : RelS w Z inj st a Ds) (hi : tiOf P t = some i) (hx : st.ev x = some m) (s : st.ev g = some (.d (.int k0 n))) (hk : i.kind = .array)
    (p : agD m = some cs) (h0 : 0≤n∧n < i.len) (hs : sub cs (n.toNat * i.esize) i.esize = some r) (hp : pack i.eagg r = some v) :
    Km st st v w Z inj ((do pure (Next.value (← Instr.index t (a.eval x) (a.eval g))) : Sem Next).run P w):=by
  obtain ⟨j,d,z,k⟩:=Yq hi;have b:=k.kind;unfold Zh at b;simp only [hk] at b;obtain ⟨e,ie,de,rfl,o,g2,f,g4,q⟩:=b;obtain ⟨xs,u,hl⟩:=qhx (Kb h hx) p;have c:=Kb h s;generalize a.eval g = vx at c ⊢
  cases c with | d c=>
  cases c;rw [← f] at hs;rw [← q] at hp;obtain ⟨y,l,hr⟩:=qlt (P:=P) o g2 hl hs hp;refine .quiet h (Kl (x:=y) ?_) hr;simp only [Instr.index,asIntOf,Sem.run_bind,Sem.run_pure,run_underlying k.und,Result.andThen_ok,u];rw [Sem.run_ite,qq h0];simp only [Sem.run_bind,Zg o,Result.andThen_ok,f];rw [f] at l;exact l
theorem qu8 {t : TypeId} {i : TI} {x j : Operand} {k0 : IntKind} {n : Int} {s : ByteArray} {b : UInt8} (h : RelS w Z inj st a Ds) (hi : tiOf P t = some i) (o : st.ev x = some (.d (.str s))) (m : st.ev j = some (.d (.int k0 n))) (p : i.kind = .str)
    (hb : (if 0≤n then s[n.toNat]? else none) = some b) :
    Km st st (.d (.int .u8 b.toNat)) w Z inj ((do pure (Next.value (← Instr.index t (a.eval x) (a.eval j))) : Sem Next).run P w):=by
  obtain ⟨l,d,z,k⟩:=Yq hi;have c:=k.kind;unfold Zh at c;simp only [p] at c;obtain ⟨rfl,_⟩:=c;have g:=Kb h o;have f:=Kb h m;generalize a.eval x = vy at g ⊢;generalize a.eval j = vx at f ⊢
  cases g with | d g=>
  cases g
  cases f with | d f=>
  cases f;refine .quiet h (Kl (x:=.int .u8 b.toNat) ?_) (.d (.int _ _));simp only [Instr.index,asIntOf,Sem.run_bind,Sem.run_pure,run_underlying k.und,Result.andThen_ok,hb]
theorem qu5 {s : TypeId} {i : TI} {p : Operand} {pv v : V} {f off size : Nat} {ag : Bool} (h : RelS w Z inj st a Ds) (hi : tiOf P s = some i) (hx : st.ev p = some pv) (hk : i.kind = .struct) (hf : i.flds[f]? = some (off,size,ag))
    (hp : qfb off pv = some v) :
    Km st st v w Z inj ((do pure (Next.value (← Instr.fieldAt s (a.eval p) f)) : Sem Next).run P w):=by
  obtain ⟨q,d,z,k⟩:=Yq hi;have l:=k.kind;unfold Zh at l;simp only [hk] at l;obtain ⟨fs,rfl,m⟩:=l;obtain ⟨fd,jf,df,g1,u,g3,r,t,y,g7⟩:=qff m hf;have g:=Kb h hx;generalize a.eval p = vx at g ⊢
  have c : ∀ b o,(Instr.fieldAt s (.pointer (some ⟨b,o,none⟩)) f).run P w = .ok (.pointer (some ⟨b,o + off,none⟩)) w:=by
    intro b o;simp only [Instr.fieldAt,Instr.sureAddr,fieldPlace,Sem.run_bind,run_underlying k.und,Result.andThen_ok,g1,Sem.run_pure,Zg u,Sem.run_ite,r,qp t,Js,y]
  cases pv <;> simp only [qfb,reduceCtorEq,Option.some.injEq] at hp
  case ref n es ii j=>
    subst hp
    cases g with | @ref _ _ _ _ b o h1 h2=>
    refine .quiet h (Kl (c _ _)) ?_;have:=RelV.ref (w:=w) (Z:=Z) (nx:=st.nx) (es:=es) (i:=ii) (j:=j + off) h1 h2
    rwa [show o + (ii * es + (j + off)) = o + (ii * es + j) + off by omega] at this
  case dref cs j=>
    subst hp
    cases g with | @dref _ _ b o h1 h2 g=>
    refine .quiet h (Kl (c _ _)) ?_;have:=RelV.dref (inj:=inj) (nx:=st.nx) (j:=j + off) h1 h2 g
    rwa [← Nat.add_assoc] at this
  case d x=>
    cases x <;> simp only [reduceCtorEq,Option.some.injEq] at hp
    subst hp
    cases g with | d g=>
    cases g with | box h1 h2 g=>
    exact .quiet h (Kl (c _ _)) (RelV.dref (inj:=inj) (nx:=st.nx) (j:=off) h1 h2 g)
theorem qu7 {t : TypeId} {i : TI} {x ix : Operand} {xv v : V} {k0 : IntKind} {n : Int} (h : RelS w Z inj st a Ds) (hi : tiOf P t = some i) (hx : st.ev x = some xv) (hn : st.ev ix = some (.d (.int k0 n)))
    (hp : q3m i xv n = some v) :
    Km st st v w Z inj ((do pure (Next.value (← Instr.indexAt t (a.eval x) (a.eval ix))) : Sem Next).run P w):=by
  obtain ⟨ah,d,z,k⟩:=Yq hi;have r:=k.kind;unfold Zh at r;have u:=Kb h hn;generalize a.eval ix = vx at u ⊢
  cases u with | d u=>
  cases u;have l:=Kb h hx;generalize a.eval x = vx at l ⊢
  have p : i.kind = .slice→∀ b o len cap,0≤n→n < (len : Nat)→(Instr.indexAt t (.slice (some ⟨b,o,none⟩) len cap) (.int k0 n)).run P w = .ok (.pointer (some ⟨b,o + n.toNat * i.esize,none⟩)) w:=by
    intro s b o len cap f q;simp only [s] at r;obtain ⟨e,ie,de,ze,rfl,g1,g2,g3,g4,g5,g6,_⟩:=r;simp only [Instr.indexAt,asIntOf,Sem.run_bind,Sem.run_pure,run_underlying k.und,Result.andThen_ok];rw [Sem.run_ite,qq ⟨f,q⟩];simp only [Sem.run_bind,Zg g1,Result.andThen_ok,Sem.run_pure,Js,g6]
  have g : i.kind = .array→∀ b o,0≤n→n < i.len→(Instr.indexAt t (.pointer (some ⟨b,o,none⟩)) (.int k0 n)).run P w = .ok (.pointer (some ⟨b,o + n.toNat * i.esize,none⟩)) w:=by
    intro s b o f q;simp only [s] at r;obtain ⟨e,ie,de,rfl,g1,g2,g3,g4,_⟩:=r;simp only [Instr.indexAt,asIntOf,Instr.sureAddr,Sem.run_bind,Sem.run_pure,run_underlying k.und,Result.andThen_ok];rw [Sem.run_ite,qq ⟨f,q⟩];simp only [Sem.run_bind,Zg g1,Result.andThen_ok,Sem.run_pure,Js,g3]
  cases s : i.kind <;> simp only [q3m,s,reduceCtorEq] at hp
  case slice=>
    cases xv <;> (try simp only [reduceCtorEq] at hp)
    case d x=>
      cases x <;> (try simp only [reduceCtorEq] at hp)
      rename_i es xs;split at hp <;> simp at hp
      rename_i f;obtain ⟨f,he⟩:=f;obtain ⟨cs,y,rfl⟩:=hp;have aa:=Kg y
      cases l with | d l=>
      cases l with
      | slnil=>simp at aa
      | slemp=>simp at aa
      | @sl _ _ b o cap q h2 h4 h5 h6=>
        refine .quiet h (Kl (p s _ _ _ _ f q6)) ?_
        have:=RelV.dref (w:=w) (Z:=Z) (inj:=inj) (nx:=st.nx) (cs:=cs) (j:=0) (b:=b) (o:=o + n.toNat * i.esize) (h2 (by rintro rfl;simp at aa))
          (fun k d hd=>by have:=(h5 n.toNat cs k d y hd).2;rwa [he,← Nat.add_assoc] at this)
          (fun k d c hd hc=>h6 n.toNat cs k d c y hd (by rwa [he,← Nat.add_assoc]))
        simpa using this
    case hs m es off len=>
      split at hp <;> simp at hp
      rename_i f;obtain ⟨f,q,he⟩:=f;subst hp
      cases l with
      | hsnil=>omega
      | @hs _ _ _ _ cap ad hn hle _ hcap=>
        obtain ⟨b,o,hi,rfl,_⟩:=hcap q6;refine .quiet h (Kl (p s _ _ _ _ f q6)) ?_;have:=RelV.ref (w:=w) (Z:=Z) (nx:=st.nx) (es:=es) (i:=off + n.toNat) (j:=0) hn hi;rw [show o + off * es + n.toNat * i.esize = o + ((off + n.toNat) * es + 0) by rw [← he,Nat.add_mul];omega];exact this
  case array=>
    cases xv <;> (try simp only [reduceCtorEq] at hp)
    case ref m es e j=>
      split at hp <;> simp at hp
      rename_i f;subst hp
      cases l with | @ref _ _ _ _ b o q h2=>
      refine .quiet h (Kl (g s _ _ f.1 f.2)) ?_;have:=RelV.ref (w:=w) (Z:=Z) (nx:=st.nx) (es:=es) (i:=e) (j:=j + n.toNat * i.esize) q h2
      rwa [← Nat.add_assoc,← Nat.add_assoc,Nat.add_assoc o] at this
    case dref cs j=>
      split at hp <;> simp at hp
      rename_i f;subst hp
      cases l with | @dref _ _ b o q h2 l=>
      refine .quiet h (Kl (g s _ _ f.1 f.2)) ?_;have:=RelV.dref (inj:=inj) (nx:=st.nx) (j:=j + n.toNat * i.esize) q h2 l
      rwa [← Nat.add_assoc] at this
    case d x=>
      cases x <;> (try simp only [reduceCtorEq] at hp)
      split at hp <;> simp at hp
      rename_i f;subst hp
      cases l with | d l=>
      cases l with | box q h2 l=>
      exact .quiet h (Kl (g s _ _ f.1 f.2)) (RelV.dref (inj:=inj) (nx:=st.nx) (j:=n.toNat * i.esize) q h2 l)
end
end Go.Am
namespace Go.Am
open Go
variable {P : Program} {T : Tab}
theorem qhn {n : Int} (h : -9223372036854775808≤n∧n≤9223372036854775807) : IntKind.i64.wrap n = n:=by rw [IntKind.wrap_i64];omega
theorem qii {es i a j : Nat} (b : j < es) : (i * es≤a * es + j∧a * es + j < i * es + es)↔a = i:=by
  constructor
  · intro ⟨c,d⟩;rcases Nat.lt_trichotomy a i with h | h | h
    · have:=Nat.mul_le_mul_right es (show a + 1≤i from h);rw [Nat.add_mul] at this;omega
    · exact h
    · have:=Nat.mul_le_mul_right es (show i + 1≤a from h);rw [Nat.add_mul] at this;omega
  grind
theorem q3f {es n i j : Nat} (hi : i < n) (a : j < es) : i * es + j < n * es:=by
  have:=Nat.mul_le_mul_right es (show i + 1≤n from hi);rw [Nat.add_mul] at this;omega
section
variable {w : World} {Z : Nat→Prop} {inj : Inj} {st : AS} {a : Act} {Ds : List Nat}
theorem qie {b y : Nat} {o : Option Operand} {n : Nat} {code : BoundsCode} (h : RelS w Z inj st a Ds) (hb : bound st b o = some n) (l : n≤y) :
    (∀ op,o = some op→(Instr.sliceBound (a.eval op) y code).run P w = .ok n w)∧(o = none→n = b):=by
  cases o with
  | none=>simp [bound] at hb;exact ⟨qf,fun _=>hb.symm⟩
  | some op=>
    refine ⟨fun g e=>?_,qf⟩;cases e;simp only [bound] at hb;split at hb <;> try simp at hb
    rename_i k m f;have c:=Kb h f;generalize a.eval op = vx at c ⊢
    cases c with | d c=>
    cases c;obtain ⟨j,rfl⟩:=hb;simp only [Instr.sliceBound,asIntOf,Sem.run_bind,Sem.run_pure,Result.andThen_ok];simp_all
theorem quf {t : TypeId} {i : TI} {x : Operand} {xv v : V} {lo hi : Option Operand} {n p q : Nat} (h : RelS w Z inj st a Ds) (ht : tiOf P t = some i) (hk : i.kind = .slice) (f : st.ev x = some xv) (g : lenV xv = some n)
    (ak : bound st 0 lo = some p) (aj : bound st n hi = some q) (hs : qdf i.esize xv p q = some v) :
    Km st st v w Z inj ((do pure (Next.value (← Instr.sliceAt t (a.eval x) (lo.map a.eval) (hi.map a.eval) none)) : Sem Next).run P w):=by
  obtain ⟨am,d,z,k⟩:=Yq ht;have ab:=k.kind;unfold Zh at ab;simp only [hk] at ab;obtain ⟨e,ie,de,ze,rfl,g1,g2,g3,g4,g5,g6,g7,_⟩:=ab;have h3:=Kb h f;generalize a.eval x = vx at h3 ⊢
  have run : ∀ ad len cap,len = n→q≤cap→p≤q→(Instr.sliceAt t (.slice ad len cap) (lo.map a.eval) (hi.map a.eval) none).run P w = .ok (.slice (if cap = p then ad else ad.map (·.add (p * i.esize))) (q - p) (cap - p)) w:=by
    intro ad len cap hl hq hp;obtain ⟨l1,l2⟩:=qie (P:=P) (y:=q) (code:=.sliceB) h ak hp;obtain ⟨r1,r2⟩:=qie (P:=P) (y:=cap) (code:=.sliceAcap) h aj hq;simp only [Instr.sliceAt,Sem.run_bind,run_underlying k.und,Result.andThen_ok,Instr.slice,Instr.sliceBounds,Zg g1,g6]
    cases hi with
    | none=>
      have:=r2 rfl;subst this
      cases lo with
      | none=>have:=l2 rfl;subst this;simp [hl]
      | some o=>simp [hl,l1 o rfl]
    | some o'=>
      cases lo with
      | none=>have:=l2 rfl;subst this;simp [r1 o' rfl]
      | some o=>simp [r1 o' rfl,l1 o rfl]
  cases xv <;> simp only [qdf,reduceCtorEq] at hs
  case d x=>
    cases x <;> simp only [reduceCtorEq] at hs
    case nilsl=>
      split at hs <;> simp at hs
      rename_i u;obtain ⟨rfl,rfl⟩:=u;subst hs;simp [lenV] at g
      cases h3 with | d h3=>
      cases h3;exact .quiet h (Kl (run _ _ _ g q6 q6)) (by simpa using RelV.d .nilsl)
    case sl es xs=>
      split at hs <;> simp at hs
      rename_i u;obtain ⟨u,h1,he⟩:=u;subst hs;simp [lenV] at g
      cases h3 with | d h3=>
      cases h3 with
      | slnil=>
        simp at h1 g;obtain ⟨rfl,rfl⟩ : q = 0∧p = 0:=by omega
        exact .quiet h (Kl (run _ _ _ g q6 q6)) (by simpa using RelV.d (.slnil _))
      | slemp=>
        simp at h1 g;obtain ⟨rfl,rfl⟩ : q = 0∧p = 0:=by omega
        exact .quiet h (Kl (run _ _ _ g q6 q6)) (by simpa using RelV.d (.slemp _ _))
      | @sl _ _ b o cap hc hz hl hcell hrel=>
        refine .quiet h (Kl (run _ _ _ g q6 u)) ?_;have s : ((xs.drop p).take (q - p)).length = q - p:=by simp;omega
        have l : ∀ (i : Nat) (x : List DV),((xs.drop p).take (q - p))[i]? = some x→xs[p + i]? = some x:=by
          intro i x f;rw [List.getElem?_take] at f;split at f
          · rwa [List.getElem?_drop] at f
          · simp at f
        by_cases r : cap = p
        · rw [qq r];have h9 : (xs.drop p).take (q - p) = []:=List.eq_nil_of_length_eq_zero (by rw [s];omega);have h8 : q - p = 0:=by omega
          rw [h9,h8];exact .d (RelD.sl (es:=es) (xs:=[]) qf qf qf qf qf)
        · rw [qp r,Option.map_some,Js]
          have e2 : ∀ k j,o + p * i.esize + (k * es + j) = o + ((p + k) * es + j):=by
            intro k j;rw [← he,Nat.add_mul];omega
          have:=RelD.sl (w:=w) (Z:=Z) (es:=es) (xs:=(xs.drop p).take (q - p)) (b:=b) (o:=o + p * i.esize) (cap:=cap - p) (by rw [s];omega) (fun ae=>hz (by rintro rfl;simp at ae)) (fun i x f=>hl _ _ (l i x f))
            (fun k x j d f hd=>by rw [e2];exact hcell _ _ j d (l k x f) hd)
            (fun k x j d c f hd hc=>hrel _ _ j d c (l k x f) hd (by rw [e2] at hc;exact hc))
          rw [s] at this;exact .d this
  case hs m es off len=>
    split at hs <;> simp at hs
    rename_i u;obtain ⟨u,h1,he⟩:=u;subst hs;simp [lenV] at g
    cases h3 with
    | hsnil hm=>
      obtain ⟨rfl,rfl⟩ : q = 0∧p = 0:=by omega
      exact .quiet h (Kl (run _ _ _ g q6 q6)) (by simpa using RelV.hsnil (es:=es) (off:=off) hm)
    | @hs _ _ _ _ cap ad hm hc hsp hcap=>
      refine .quiet h (Kl (run _ _ _ g q6 u)) ?_;by_cases r : cap = p
      · rw [qq r];exact .hs hm q6 hsp (fun ae=>q6)
      · rw [qp r,Option.map_some];obtain ⟨b,o,hi,rfl,ao⟩:=hcap q6;rw [Js];refine .hs hm q6 rfl fun _=>⟨b,o,hi,?_,?_⟩
        · rw [he,Nat.add_mul,← Nat.add_assoc]
        · rwa [show off + p + (cap - p) = off + cap by omega]
theorem qhq {b : Value} {es n i j : Nat} {ds : List DV} (k : b.cells.toList.mapM Zo = some ds) (p : ds.length = es) (hi : i < n) {d : DV} (hd : ds[j]? = some d) :
    ∃ c,((Array.range (n * es)).map (b.cells[· % b.cells.size]!))[i * es + j]? = some c∧RelD w Z d c∧Yg d = true:=by
  obtain ⟨l,o⟩:=q8o (w:=w) (Z:=Z) k;obtain ⟨c,m,h,a,_⟩:=o j d hd;have g : j < es:=by have:=Kg hd;omega
  refine ⟨c,?_,h,a⟩;have f:=q3f hi g;rw [Array.getElem?_map,Array.getElem?_range];simp only [f,if_true,Option.map_some];have : (i * es + j) % b.cells.size = j:=by rw [← l,p,Nat.mul_comm,Nat.mul_add_mod,Nat.mod_eq_of_lt g]
  grind
theorem qud {t : TypeId} {i : TI} {l c : Operand} {k1 y : IntKind} {n m : Int} (h : RelS w Z inj st a Ds) (ht : tiOf P t = some i) (hk : i.kind = .slice) (hl : st.ev l = some (.d (.int k1 n))) (s : st.ev c = some (.d (.int y m)))
    (h0 : 0≤n) (h1 : n≤m) (p : m * (i.ebytes * 4)≤room) :
    Km st (st.new (.dat i.esize (List.replicate n.toNat i.ezero))) (.hs st.nx i.esize 0 n.toNat) w Z inj ((do pure (Next.value (← Instr.makeSlice t (a.eval l) (a.eval c))) : Sem Next).run P w):=by
  obtain ⟨v,d,z,k⟩:=Yq ht;have g:=k.kind;unfold Zh at g;simp only [hk] at g;obtain ⟨e,ie,de,ze,rfl,g1,g2,g3,g4,g5,g6,g7,g8,g9,_⟩:=g;have o:=Kb h hl;have r:=Kb h s;generalize a.eval l = vl at o ⊢;generalize a.eval c = vc at r ⊢
  cases o with | d o=>
  cases o
  cases r with | d r=>
  cases r
  have hm : m≤4294967296:=by
    have e1 : (1 : Int)≤(i.ebytes : Int) * 4:=by omega
    have:=Int.mul_le_mul_of_nonneg_left e1 (show (0:Int)≤m by omega);unfold room at p;omega
  have hb : (i.ebytes : Int) * m≤281474976710656:=by
    unfold room at p;grind
  have w1 : IntKind.i64.wrap n = n:=qhn q6;have w2 : IntKind.i64.wrap m = m:=qhn q6;obtain ⟨N,rfl⟩:=Int.eq_ofNat_of_zero_le h0;obtain ⟨M,rfl⟩:=Int.eq_ofNat_of_zero_le (show 0≤m by omega);simp only [Int.toNat_natCast];have b:=run_make (P:=P) w t e ie ze k.und g1 g3 k1 y (N : Int) (M : Int) h0 h1 (by rw [g8];exact hb) q6;simp only [Int.toNat_natCast,g6] at b;have u : N≤M:=by omega
  refine .new h (Kl b) ?_ ?_
  · refine ⟨g7,?_,.inr ⟨w.heap.size,0,_,e,Y6 _ _ _,Jt _ _,?_⟩⟩
    · grind
    · intro j x j' d q hd;rw [List.getElem?_replicate] at q;split at q <;> simp at q
      rename_i hj;subst q;obtain ⟨c,s,p,f⟩:=qhq (w:=w.alloc (.cells (madeCells ze.cells (M * i.esize)) e)) (Z:=Z) g4 g5 (show j < M by omega) hd;exact ⟨f,c,by rw [Nat.zero_add];exact s,p⟩
  · refine .hs q6 u rfl fun _=>⟨w.heap.size,0,Y6 _ _ _,qf,?_⟩
    exact ⟨_,_,_,Jt _ _,by rw [size_madeCells];simp⟩
def ERel (w : World) (Z : Nat→Prop) (inj : Inj) (nx es : Nat) (xs : List (List V)) (C : Array Value) : Prop:=
  C.size = xs.length * es∧(∀ (i : Nat) (x : List V),xs[i]? = some x→x.length = es)∧
    ∀ (i : Nat) (x : List V) (j : Nat) (d : V),xs[i]? = some x→x[j]? = some d→Ko d = true∧∃ c,C[i * es + j]? = some c∧RelV w Z inj nx d c
theorem qj9 {es : Nat} : ∀ {f : List (Nat × V)} {l : List (Nat × List V)},elems es f = some l→l.length = f.length∧∀ (k i : Nat) (v : V),f[k]? = some (i,v)→(cellsOf v).length = es∧(cellsOf v).all Ko = true∧l[k]? = some (i,cellsOf v)
  | [],l,h=>by simp [elems] at h;subst h;simp
  | (i,v)::r,l,h=>by
    simp only [elems] at h
    split at h
    · rename_i l' p
      split at h
      · rename_i g
        simp at h;subst h
        obtain ⟨n,j⟩:=qj9 p
        refine ⟨by simp [n],fun k o m d=>?_⟩
        cases k with
        | zero=>simp at d;obtain ⟨rfl,rfl⟩:=d;exact ⟨g.1,g.2,qf⟩
        | succ k=>simp at d;obtain ⟨a,b,c⟩:=j k o m d;exact ⟨a,b,by simpa using c⟩
      · simp at h
    · simp at h
theorem ERel.set {w : World} {nx es : Nat} {xs : List (List V)} {C k : Array Value} {ys : List V} {i : Nat} (h : ERel w Z inj nx es xs C) (n : LRel w Z inj nx ys k) (u : ys.length = es) (o : ys.all Ko = true) (hi : i < xs.length) :
    ERel w Z inj nx es (xs.set i ys) (Am.splice C.toList (i * es) k.toList).toArray:=by
  obtain ⟨p,v,t⟩:=h;have b : k.toList.length = es:=by have:=n.1;simp;omega
  have a : i * es + k.toList.length≤C.toList.length:=by
    rw [b,Array.length_toList,p];have:=Nat.mul_le_mul_right es (show i + 1≤xs.length from hi);rw [Nat.add_mul] at this;omega
  refine ⟨by simp [q23 _ _ _ a,p],?_,?_⟩
  · grind
  · intro j x l d g hd;rw [List.getElem?_set] at g;by_cases f : i = j
    · subst f;rw [qq rfl,qq hi] at g;simp at g;subst g;have q:=Kg hd;obtain ⟨c,m⟩:=Yd (xs:=k) (i:=l) (by have:=n.1;omega);refine ⟨List.all_eq_true.1 o _ (List.mem_of_getElem? hd),c,?_,n.2 _ _ _ hd m⟩;rw [List.getElem?_toArray,U4 _ _ _ _ a,qq (by rw [b];omega),show i * es + l - i * es = l by omega];grind
    · rw [qp f] at g;obtain ⟨s,c,y,r⟩:=t j x l d g hd;refine ⟨s,c,?_,r⟩;rw [List.getElem?_toArray,U4 _ _ _ _ a,qp ?_]
      · grind
      · rw [b];intro m;exact f ((qii (by have:=Kg hd;have:=v j x g;omega)).1 m).symm
theorem qjl {w : World} {nx es : Nat} : ∀ (f : List (Nat × V)) (xs : List (Nat × Value)) (l : List (Nat × List V)) (cs c : List (List V)) (C : Array Value),
    f.length = xs.length→(∀ (k : Nat) (i : Nat) (v : V),f[k]? = some (i,v)→∃ x,xs[k]? = some (i,x)∧RelV w Z inj nx v x)→
    l.length = f.length→(∀ (k : Nat) (i : Nat) (v : V),f[k]? = some (i,v)→(cellsOf v).length = es∧(cellsOf v).all Ko = true∧l[k]? = some (i,cellsOf v))→
    ERel w Z inj nx es cs C→q3i cs l = some c→∃ n,Instr.fill (fun i=>some (i * es,es)) C xs = some n∧ERel w Z inj nx es c n∧c.length = cs.length
  | [],xs,l,cs,c,C,h1,_,h3,_,h5,h6=>by
    have : xs = []:=by cases xs <;> simp_all
    have : l = []:=by cases l <;> simp_all
    subst_vars
    simp [q3i] at h6;subst h6
    exact ⟨C,by simp [Instr.fill],h5,rfl⟩
  | (i,v)::f,xs,l,cs,c,C,h1,h2,h3,h4,h5,h6=>by
    match xs,l,h1,h3 with
    | (i',x)::xs,(o',ys)::l,h1,h3=>
      obtain ⟨x',j,u⟩:=h2 0 i v rfl
      simp at j;obtain ⟨rfl,rfl⟩:=j
      obtain ⟨hl,s,h⟩:=h4 0 i' v rfl
      simp at h;obtain ⟨rfl,rfl⟩:=h
      obtain ⟨y,z,q3⟩:=qc0 u s
      simp only [q3i] at h6
      split at h6
      · rename_i d
        obtain ⟨n,o,g,m⟩:=qjl f xs l (cs.set o' (cellsOf v)) c (splice C.toList (o' * es) x.cells.toList).toArray (by simpa using h1)
          (fun k i v r=>by obtain ⟨x,q⟩:=h2 (k + 1) i v (by simpa using r);exact ⟨x,by simpa using q⟩) (by simpa using h3)
          (fun k i v r=>by obtain ⟨a,b,q⟩:=h4 (k + 1) i v (by simpa using r);exact ⟨a,b,by simpa using q⟩)
          (h5.set ⟨y,z⟩ hl s d) h6
        refine ⟨n,?_,g,by simpa using m⟩
        have t : o' * es + es≤C.size:=by
          rw [h5.1];have:=Nat.mul_le_mul_right es (show o' + 1≤cs.length from d);rw [Nat.add_mul] at this;omega
        have p : x.cells.size = es:=by omega
        simp only [Instr.fill,p]
        have : ¬ ((decide (es≠es) || decide (o' * es + es > C.size)) = true):=by simp;omega
        rw [qp (by simpa using this)]
        rw [qjs x.cells C (o' * es) q6]
        exact o
      · simp at h6
theorem qtz {t : TypeId} {i : TI} {len : Nat} {g : Array (Nat × Operand)} {r : List (Nat × V)} {l : List (Nat × List V)} {xs : List (List V)} (h : RelS w Z inj st a Ds) (ht : tiOf P t = some i) (hv : J8 st.ev g.toList = some r)
    (hl : elems i.esize r = some l) (hk : i.kind = .slice) (ac : len * i.esize≤16777216) (hf : q3i (List.replicate len (i.ezero.map .d)) l = some xs) :
    Km st (st.new (q5n i.esize xs)) (.hs st.nx i.esize 0 len) w Z inj ((do pure (Next.value (← Instr.buildSlice t len (g.map fun (i,x)=>(i,a.eval x)))) : Sem Next).run P w):=by
  obtain ⟨ae,d,z,k⟩:=Yq ht;have f:=k.kind;unfold Zh at f;simp only [hk] at f;obtain ⟨e,ie,de,n,rfl,g1,g2,g3,g4,g5,g6,g7,g8,g9,_⟩:=f;obtain ⟨p1,p2⟩:=qjj h hv;obtain ⟨q1,q2⟩:=qj9 hl;have y : ∀ (k i : Nat) (v : V),r[k]? = some (i,v)→∃ x,(g.toList.map fun (x : Nat × Operand)=>(x.1,a.eval x.2))[k]? = some (i,x)∧RelV w Z inj st.nx v x:=by grind
  have ab : ERel w Z inj st.nx i.esize (List.replicate len (i.ezero.map .d)) ((Array.range (len * i.esize)).map (n.cells[· % n.cells.size]!)):=by
    refine ⟨qf,?_,?_⟩
    · grind
    · intro j x j' d m hd;rw [List.getElem?_replicate] at m;split at m <;> simp at m
      rename_i hj;subst m;simp only [List.getElem?_map,Y7] at hd;obtain ⟨d',u,rfl⟩:=hd;obtain ⟨c,hc,o,b⟩:=qhq (w:=w) (Z:=Z) g4 g5 hj u;exact ⟨b,c,hc,.d o⟩
  obtain ⟨s,hC,o,q⟩:=qjl r (g.toList.map fun (x : Nat × Operand)=>(x.1,a.eval x.2)) l _ xs _ (by simp [p1]) y q1 q2 ab hf;have am : Instr.fill (fun j=>some (j * i.esize,i.esize)) ((Array.range (len * i.esize)).map (n.cells[· % n.cells.size]!)) (g.map fun (x : Nat × Operand)=>(x.1,a.eval x.2)).toList = some s:=by simpa using hC
  have p : (Instr.buildSlice t len (g.map fun (i,x)=>(i,a.eval x))).run P w = .ok (.slice (some ⟨w.heap.size,0,none⟩) len len) (w.alloc (.cells s e)):=by
    have hn : ¬ (len * i.esize > 2 ^ 24):=by omega
    have ah : (do let x ← newRow e s;pure (Value.slice (some x) len len) : Sem Value).run P w = .ok (.slice (some ⟨w.heap.size,0,none⟩) len len) (w.alloc (.cells s e)):=by simp [newRow]
    by_cases hz : len * i.esize = 0
    · simp only [Instr.buildSlice,Sem.run_bind,run_underlying k.und,Result.andThen_ok,Zg g1,g6];grind
    · simp only [Instr.buildSlice,Sem.run_bind,run_underlying k.und,Result.andThen_ok,Zg g1,g6];rw [qp hn,qp hz];have bb : (zeroValue e).run P w = .ok n w:=by simp [zeroValue,typeInfo,g1,g3]
      simp_all
  have ad : xs.length = len:=by simpa using q
  refine .new h (Kl p) ?_ ?_
  · refine qmo g7 (Y6 _ _ _) (Jt _ _) o.2.1 ?_;intro j x j' d m hd;obtain ⟨h1,c,h2,h3⟩:=o.2.2 j x j' d m hd;exact ⟨h1,c,h2,qms h _ h3⟩
  · refine .hs q6 (Nat.le_refl _) rfl fun _=>⟨w.heap.size,0,Y6 _ _ _,qf,?_⟩
    exact ⟨_,_,_,Jt _ _,by rw [o.1,ad];simp⟩
end
end Go.Am
