/- Am6 Am7 Am8 Am9 Am10 Am11 Am12 -/
import Derived.Test.YtiejlbckgihckaaGreatK1
import Derived.Laws.MakeOwn
namespace Go.Am
open Go
variable {P : Program} {T : Tab}
theorem q7w {α β : Type} {f : α→Option β} : ∀ {l : List α} {r : List β},l.mapM f = some r→r.length = l.length∧∀ (i : Nat) (x : α),l[i]? = some x→∃ y,r[i]? = some y∧f x = some y
  | [],r,h=>by simp at h;subst h;simp
  | a::l,r,h=>by
    rw [List.mapM_cons] at h
    cases d : f a with
    | none=>simp [d] at h
    | some b=>
      cases g : l.mapM f with
      | none=>simp [d,g] at h
      | some s=>
        simp [d,g] at h
        subst h
        obtain ⟨m,k⟩:=q7w g
        refine ⟨by simp [m],?_⟩
        intro i x c
        cases i with
        | zero=>simp at c;subst c;exact ⟨b,qc,d⟩
        | succ i=>simp at c;obtain ⟨y,j⟩:=k i x c;exact ⟨y,by simpa using j⟩
theorem Ye {α β : Type} {l : List α} {r : List β} (a : r.length = l.length) {i : Nat} {y : β} (h : r[i]? = some y) : ∃ x,l[i]? = some x:=
  Zm (by have:=Kc h;omega)
def Za (P : Program) (_t : TypeId) (i : TI) (d : TypeDesc) : Prop:=match i.kind with
  | .bool=>d = .bool∧i.size = 1
  | .int k=>d = .int k∧i.size = 1
  | .str=>d = .string∧i.size = 1
  | .ptr=>(∃ e,d = .pointer e)∧i.size = 1
  | .func=>(∃ a b c,d = .func a b c)∧i.size = 1
  | .slice=>∃ e ie de ze,d = .slice e∧P.info? e = some ie∧P.underlying e = some de∧ie.zero = some ze∧ze.cells.toList.mapM Zl = some i.ezero∧i.ezero.length = i.esize∧ie.size = i.esize∧i.esize≠0∧
      ie.bytes = i.ebytes∧i.ebytes≠0∧Kb de = i.eagg∧i.size = 1
  | .array=>∃ e ie de,d = .array i.len e∧P.info? e = some ie∧P.underlying e = some de∧ie.size = i.esize∧i.esize≠0∧Kb de = i.eagg
  | .map=>∃ kt e ie ze zd ks dk,d = .map kt e∧P.info? e = some ie∧ie.zero = some ze∧Zl ze = some zd∧Kg P 8 kt = some ks∧P.underlying kt = some dk∧i.keys = some ks∧i.ezero = [zd]∧i.eagg = Kb dk∧i.size = 1
  | .struct=>∃ fs,d = .struct fs∧(fs.toList.mapM fun f=>do
      let jf ← P.info? f.type
      let df ← P.underlying f.type
      if jf.size = 0 then none else some (f.offset,jf.size,Kb df)) = some i.flds
structure TiOk (P : Program) (t : TypeId) (i : TI) (info : TypeInfo) (d : TypeDesc) (z : Value) : Prop where
  inf : P.info? t = some info
  und : P.underlying t = some d
  zero : info.zero = some z
  size : info.size = i.size
  pos : i.size≠0
  cells : z.cells.toList.mapM Zl = some i.zero
  len : i.zero.length = i.size
  agg : i.agg = Kb d
  kind : Za P t i d
  eqs : ∀ ks,i.eqs = some ks→Kg P 8 t = some ks∧Kb d = true
  keys : ∀ ks,i.keys = some ks→i.kind = .map
theorem Yj {t : TypeId} {i : TI} (h : tiOf P t = some i) : ∃ g d z,TiOk P t i g d z:=by
  unfold tiOf at h
  cases l : P.info? t with
  | none=>simp [l] at h
  | some g=>
  cases m : P.underlying t with
  | none=>simp [l,m] at h
  | some d=>
  cases o : g.zero with
  | none=>simp [l,m,o] at h
  | some z=>
  cases p : z.cells.toList.mapM Zl with
  | none=>simp [l,m,o,p] at h
  | some zc=>
  simp only [l,m,o,p,Option.bind_eq_bind,qm] at h;by_cases h5 : zc.length≠g.size∨g.size = 0
  · grind
  · rw [qn h5] at h;have s : zc.length = g.size:=by omega
    have r : g.size≠0:=by omega
    refine ⟨g,d,z,?_⟩;cases d <;> simp only [reduceCtorEq] at h
    case bool=>split at h <;> simp at h;subst h;rename_i hs;exact ⟨l,m,o,rfl,r,p,s,rfl,⟨rfl,hs⟩,qc,qc⟩
    case int k=>split at h <;> simp at h;subst h;rename_i hs;exact ⟨l,m,o,rfl,r,p,s,rfl,⟨rfl,hs⟩,qc,qc⟩
    case string=>split at h <;> simp at h;subst h;rename_i hs;exact ⟨l,m,o,rfl,r,p,s,rfl,⟨rfl,hs⟩,qc,qc⟩
    case pointer e=>split at h <;> simp at h;subst h;rename_i hs;exact ⟨l,m,o,rfl,r,p,s,rfl,⟨⟨_,rfl⟩,hs⟩,qc,qc⟩
    case func a b c=>split at h <;> simp at h;subst h;rename_i hs;exact ⟨l,m,o,rfl,r,p,s,rfl,⟨⟨_,_,_,rfl⟩,hs⟩,qc,qc⟩
    case slice e=>
      cases j : P.info? e with
      | none=>simp [j] at h
      | some ie=>
      cases u : P.underlying e with
      | none=>simp [j,u] at h
      | some de=>
      cases q : ie.zero with
      | none=>simp [j,u,q] at h
      | some ze=>
      cases v : ze.cells.toList.mapM Zl with
      | none=>simp [j,u,q,v] at h
      | some ezc=>
      simp only [j,u,q,v,qm] at h;split at h
      · simp at h
      · rename_i hs;simp at h;subst h;exact ⟨l,m,o,rfl,r,p,s,rfl,⟨e,ie,de,ze,rfl,j,u,q,v,by show ezc.length = ie.size;omega,rfl,by show ie.size≠0;omega,rfl,by show ie.bytes≠0;omega,rfl,by show g.size = 1;omega⟩,by simp,by simp⟩
    case map kt e=>
      cases j : P.info? e with
      | none=>simp [j] at h
      | some ie=>
      cases q : ie.zero with
      | none=>simp [j,q] at h
      | some ze=>
      cases v : Zl ze with
      | none=>simp [j,q,v] at h
      | some zd=>
      cases w : Kg P 8 kt with
      | none=>simp [j,q,w] at h
      | some ks=>
      cases x : P.underlying kt with
      | none=>simp [j,q,w,x] at h
      | some dk=>
      simp only [j,q,v,w,x,qm] at h;split at h
      · rename_i hs;simp at h;subst h;exact ⟨l,m,o,rfl,r,p,s,rfl,⟨kt,e,ie,ze,zd,ks,dk,rfl,j,q,v,w,x,rfl,rfl,rfl,hs⟩,qc,fun _ _=>rfl⟩
      · simp at h
    case array n e=>
      cases j : P.info? e with
      | none=>simp [j] at h
      | some ie=>
      cases u : P.underlying e with
      | none=>simp [j,u] at h
      | some de=>
      simp only [j,u,qm] at h;split at h
      · simp at h
      · rename_i hs;simp at h;subst h;exact ⟨l,m,o,rfl,r,p,s,rfl,⟨e,ie,de,rfl,j,u,rfl,hs,rfl⟩,fun ks h=>⟨h,rfl⟩,qc⟩
    case struct fs=>
      cases j : (fs.toList.mapM fun f=>do
          let jf ← P.info? f.type
          let df ← P.underlying f.type
          if jf.size = 0 then none else some (f.offset,jf.size,Kb df)) with
      | none=>simp only [Option.bind_eq_bind] at j;simp only [j,Option.bind_none] at h;simp at h
      | some fl=>
        have y:=j;simp only [Option.bind_eq_bind] at j;simp only [j,qm] at h;simp at h;subst h;exact ⟨l,m,o,rfl,r,p,s,rfl,⟨fs,rfl,y⟩,fun ks h=>⟨h,rfl⟩,qc⟩
section
variable {w : World} {Z : Nat→Prop} {inj : Inj} {nx : Nat}
theorem qcx {v : Value} {d : DV} (h : Zl v = some d) : RelD w Z d v∧Ya d = true∧v.oneCell' = true:=by
  unfold Zl at h;split at h <;> simp at h <;> subst h
  · exact ⟨.int _ _,rfl,rfl⟩
  · exact ⟨.bool _,rfl,rfl⟩
  · exact ⟨.str _,rfl,rfl⟩
  · exact ⟨.nilp,rfl,rfl⟩
  · exact ⟨.nilsl,rfl,rfl⟩
  · exact ⟨.nilf,rfl,rfl⟩
  · exact ⟨.nilm,rfl,rfl⟩
theorem q7h {cs : Array Value} {ds : List DV} (h : cs.toList.mapM Zl = some ds) : ds.length = cs.size∧∀ (i : Nat) (d : DV),ds[i]? = some d→∃ c,cs[i]? = some c∧RelD w Z d c∧Ya d = true∧c.oneCell' = true:=by
  obtain ⟨f,g⟩:=q7w h;refine ⟨by simpa using f,fun i d hd=>?_⟩;obtain ⟨c,b⟩:=Ye f hd;obtain ⟨y,a,j⟩:=g i c b;rw [hd] at a;cases a;exact ⟨c,by simpa using b,qcx j⟩
theorem qp1 {v : Value} {d : DV} (h : qa7 v = some d) : RelD w Z d v:=by
  unfold qa7 at h;split at h
  · rename_i cs
    cases a : cs.toList.mapM Zl with
    | none=>simp [a] at h
    | some ds=>
      simp [a] at h;subst h;obtain ⟨b,g⟩:=q7h (w:=w) (Z:=Z) a;refine .agg b fun i d c hd f=>?_;grind
  · exact (qcx h).1
theorem K9 {st : AS} {a : Act} {Ds : List Nat} (h : RelS w Z inj st a Ds) {o : Operand} {v : V} (b : st.ev o = some v) : RelV w Z inj st.nx v (a.eval o):=by
  cases o with
  | tmp t=>
    obtain ⟨x,k,l⟩:=h.slots t v b;simp only [Act.eval,Array.getD_eq_getD_getElem?,k,Option.getD_some];exact l
  | const c=>
    simp only [AS.ev] at b
    cases j : qa7 c with
    | none=>simp [j] at b
    | some d=>simp [j] at b;subst b;exact .d (qp1 j)
  | func f=>
    simp only [AS.ev] at b;cases b;exact .d (.fn qc qc)
  | global g=>simp [AS.ev] at b
theorem q3c {a : List V} {ds : List DV} (h : allD a = some ds) : a = ds.map .d:=by
  induction a generalizing ds with
  | nil=>simp [allD] at h;subst h;rfl
  | cons v r ih=>
    cases v <;> simp only [allD,reduceCtorEq] at h
    grind
theorem qc9 (ds : List DV) : allD (ds.map .d) = some ds:=by
  induction ds with
  | nil=>rfl
  | cons d r ih=>simp [allD,ih]
theorem qei {d : V} {c : Value} (h : RelV w Z inj nx d c) (a : Kh d = true) : c.oneCell' = true:=by
  cases h with
  | d h=>cases h <;> simp_all [Kh,Ya,Value.oneCell']
  | _=>simp_all [Kh,Value.oneCell']
theorem qo4 {c : Value} (h : c.oneCell' = true) : c.cells = #[c]:=by cases c <;> simp_all [Value.oneCell',Value.cells]
theorem qa6 {v : V} {x : Value} (h : RelV w Z inj nx v x) (f : (cellsOf v).all Kh = true) :
    (cellsOf v).length = x.cells.size∧(∀ (i : Nat) (d : V) (c : Value),(cellsOf v)[i]? = some d→x.cells[i]? = some c→RelV w Z inj nx d c)∧∀ c∈x.cells.toList,c.oneCell' = true:=by
  have fin : ∀ (l : List V) (cs : Array Value),l.length = cs.size→(∀ (i : Nat) (d : V) (c : Value),l[i]? = some d→cs[i]? = some c→RelV w Z inj nx d c)→l.all Kh = true→∀ c∈cs.toList,c.oneCell' = true:=by
    intro l cs j g k c q;obtain ⟨i,hi,rfl⟩:=List.mem_iff_getElem.1 q;simp at hi;have n : l[i]? = some l[i]:=List.getElem?_eq_getElem q0;have m : cs[i]? = some cs[i]:=Array.getElem?_eq_getElem hi;have:=qei (g i _ _ n m) (List.all_eq_true.1 k _ (Y3 _));grind
  have one : ∀ {v : V} {x : Value},RelV w Z inj nx v x→cellsOf v = [v]→(cellsOf v).all Kh = true→(cellsOf v).length = x.cells.size∧(∀ (i : Nat) (d : V) (c : Value),(cellsOf v)[i]? = some d→x.cells[i]? = some c→RelV w Z inj nx d c)∧∀ c∈x.cells.toList,c.oneCell' = true:=by
    intro v x h p k;rw [p] at k ⊢;have n : Kh v = true:=by simpa using k
    have m:=qei h n;rw [qo4 m];grind
  cases h with
  | agg j g=>exact ⟨j,g,fin _ _ j g f⟩
  | d h=>
    cases h with
    | agg j g=>
      have n : (cellsOf (V.d (.agg ‹List DV›))).length = (Value.agg ‹Array Value›).cells.size:=by simpa [cellsOf,Value.cells] using j
      have m : ∀ (i : Nat) (d : V) (c : Value),(cellsOf (V.d (.agg ‹List DV›)))[i]? = some d→(Value.agg ‹Array Value›).cells[i]? = some c→RelV w Z inj nx d c:=by
        intro i d c hd f;simp only [cellsOf,List.getElem?_map,Kv] at hd;obtain ⟨r,o,rfl⟩:=hd;exact .d (g i r c o f)
      grind
    | int=>exact one (.d (.int _ _)) rfl f
    | bool=>exact one (.d (.bool _)) rfl f
    | str=>exact one (.d (.str _)) rfl f
    | tup j g=>exact one (.d (.tup j g)) rfl f
    | fn j g=>exact one (.d (.fn j g)) rfl f
    | bfn j g=>exact one (.d (.bfn j g)) rfl f
    | nilsl=>exact one (.d .nilsl) rfl f
    | slnil=>exact one (.d (.slnil _)) rfl f
    | slemp=>exact one (.d (.slemp _ _)) rfl f
    | sl a b c d e=>exact one (.d (.sl a b c d e)) rfl f
    | nilp=>exact one (.d .nilp) rfl f
    | nilf=>exact one (.d .nilf) rfl f
    | nilm=>exact one (.d .nilm) rfl f
    | box a b c=>exact one (.d (.box a b c)) rfl f
  | tup j g=>exact one (.tup j g) rfl f
  | fn j g=>exact one (.fn j g) rfl f
  | ref a b=>exact one (.ref a b) rfl f
  | dref a b c=>exact one (.dref a b c) rfl f
  | hsnil a=>exact one (.hsnil a) rfl f
  | hs a b c d=>exact one (.hs a b c d) rfl f
  | yld a b=>exact one (.yld a b) rfl f
  | mp a b=>exact one (.mp a b) rfl f
  | dead v=>simp [cellsOf,Kh] at f
theorem qea {cs : List V} {xs : Array Value} (a : cs.length = xs.size) (h : ∀ (i : Nat) (d : V) (c : Value),cs[i]? = some d→xs[i]? = some c→RelV w Z inj nx d c) : RelV w Z inj nx (q57 cs) (.agg xs):=by
  unfold q57;split
  · rename_i ds hd;have:=q3c hd;subst this;refine .d (.agg (by simpa using a) fun i d c f b=>?_);have:=h i (.d d) c (by simp [f]) b
    cases this with | d h=>exact h
  · exact .agg a h
def qn3 (w : World) (Z : Nat→Prop) (inj : Inj) (nx : Nat) (v : V) : Bool→List Value→Prop
  | true,xs=>RelV w Z inj nx v (.agg xs.toArray)
  | false,[x]=>RelV w Z inj nx v x
  | false,_=>False
theorem qjx {ag : Bool} {cs : List V} {v : V} {xs : List Value} (hp : pack ag cs = some v) (a : cs.length = xs.length) (h : ∀ (i : Nat) (d : V) (c : Value),cs[i]? = some d→xs[i]? = some c→RelV w Z inj nx d c) :
    qn3 w Z inj nx v ag xs:=by
  cases ag with
  | true=>
    simp only [pack,Option.some.injEq] at hp;subst hp;exact qea (by simpa using a) (fun i d c f b=>h i d c f (by simpa using b))
  | false=>
    match cs,xs,hp,a with
    | [c],[x],hp,_=>simp only [pack,Option.some.injEq] at hp;subst hp;exact h 0 _ _ rfl rfl
    | [c],[],_,a=>simp at a
    | [c],_::_::_,_,a=>simp at a
theorem qel (ag : Bool) (cs : List DV) : (q1q ag cs).map V.d = pack ag (cs.map .d):=by
  cases ag with
  | true=>simp [q1q,pack,q57,qc9]
  | false=>match cs with
    | []=>rfl
    | [c]=>rfl
    | _::_::_=>rfl
theorem qm9 {α : Type} {cs r : List α} {j s : Nat} (h : sub cs j s = some r) : j + s≤cs.length∧r = (cs.drop j).take s:=by
  unfold sub at h;split at h <;> simp at h;exact ⟨‹_›,h.symm⟩
theorem q9n {α : Type} {cs r : List α} {j s : Nat} (h : sub cs j s = some r) : r.length = s∧∀ (i : Nat) (x : α),r[i]? = some x→cs[j + i]? = some x∧i < s:=by
  obtain ⟨a,rfl⟩:=qm9 h;grind
theorem Jt (b o j : Nat) : (⟨b,o,none⟩ : Addr).add j = ⟨b,o + j,none⟩:=by
  unfold Addr.add;split <;> simp_all
theorem qr6 {t : TypeId} {i : TI} {h : TypeInfo} {d : TypeDesc} {z : Value} (m : TiOk P t i h d z) {b o : Nat} {r : List V} {v : V} (hp : pack i.agg r = some v) (hr : r.length = i.size)
    (hc : ∀ (k : Nat) (x : V),r[k]? = some x→∃ c,w.cell? ⟨b,o + k,none⟩ = some c∧RelV w Z inj nx x c) :
    ∃ x,(Instr.loadAt t (.pointer (some ⟨b,o,none⟩))).run P w = .ok x w∧RelV w Z inj nx v x:=by
  have n : ∃ cs : List Value,cs.length = i.size∧∀ (k : Nat) (c : Value),cs[k]? = some c→w.cell? ⟨b,o + k,none⟩ = some c:=by
    refine ⟨(List.range i.size).map fun k=>(w.cell? ⟨b,o + k,none⟩).getD undef,qc,?_⟩;intro k c u;have s : k < i.size:=by have:=Kc u;simpa using this
    obtain ⟨x,hx⟩:=Zm (xs:=r) (i:=k) q0;grind
  obtain ⟨cs,p,a⟩:=n;have l : ∀ (i : Nat) (d : V) (c : Value),r[i]? = some d→cs[i]? = some c→RelV w Z inj nx d c:=by grind
  have f:=qjx hp (by omega : r.length = cs.length) l
  have g : (isAgg t).run P w = .ok i.agg w:=by
    rw [m.agg];simp only [isAgg,Sem.run_bind,run_underlying m.und,Result.andThen_ok];cases d <;> rfl
  cases hb : i.agg with
  | true=>
    rw [hb] at f;refine ⟨.agg cs.toArray,?_,f⟩;have q:=run_loadCells_list (P:=P) w ⟨b,o,none⟩ cs (fun j v y=>by rw [Jt];exact a j v y);simp [Instr.loadAt,Instr.sureAddr,loadVar,g,hb,sizeOf,typeInfo,m.inf,m.size,← p,q]
  | false=>
    rw [hb] at f
    match cs,p,a,f with
    | [x],_,a,f=>
      refine ⟨x,?_,f⟩;have:=a 0 x rfl;simp only [Nat.add_zero] at this;simp [Instr.loadAt,Instr.sureAddr,loadVar,g,hb,this]
end
end Go.Am
namespace Go.Am
open Go
variable {P : Program} {T : Tab}
def Kf (st st1 : AS) (v : V) (w : World) (Z : Nat→Prop) (inj : Inj) (r : Result Next) : Prop:=
  ∃ x w' inj',(r = .ok (.value x) w'∨(r = .ok .skip w'∧x = undef))∧RelV w' Z inj' st1.nx v x∧RelH w' Z inj' st1.hp st1.nx∧Ext w Z inj st.hp w' Z inj' st1.hp st.nx∧st1.sl = st.sl∧st.nx≤st1.nx
section
variable {w : World} {Z : Nat→Prop} {inj : Inj} {st : AS} {a : Act} {Ds : List Nat}
theorem Kf.quiet {v : V} {x : Value} {r : Result Next} (h : RelS w Z inj st a Ds) (b : r = .ok (.value x) w) (c : RelV w Z inj st.nx v x) : Kf st st v w Z inj r:=
  ⟨x,w,inj,.inl b,c,h.heap,.refl,rfl,Nat.le_refl _⟩
theorem Ke {s : Sem Value} {x : Value} {w' : World} (h : s.run P w = .ok x w') : (do pure (Next.value (← s)) : Sem Next).run P w = .ok (.value x) w':=by
  simp [h]
theorem Kf.new {v : V} {x : Value} {r : Result Next} {o : Obj} {blk : Blk} (h : RelS w Z inj st a Ds) (c : r = .ok (.value x) (w.alloc o))
    (hb : RelB (w.alloc o) Z (upd inj st.nx (some (w.heap.size,0))) (st.nx + 1) st.nx blk)
    (d : RelV (w.alloc o) Z (upd inj st.nx (some (w.heap.size,0))) (st.nx + 1) v x) (b : Unfr o:=by first | exact rfl | exact trivial) : Kf st (st.new blk) v w Z inj r:=
  ⟨x,_,_,.inl c,d,h.heap.new o blk 0 hb,Ext.new h.heap o blk 0 b,rfl,by simp [AS.new]⟩
theorem qkq {v : V} {x : Value} (h : RelS w Z inj st a Ds) (o : Obj) (d : RelV w Z inj st.nx v x) : RelV (w.alloc o) Z (upd inj st.nx (some (w.heap.size,0))) (st.nx + 1) v x:=
  d.mono (fun _ c=>Zx w o (h.heap.zs _ c)) (fun _ h=>h) (q2s w o) (fun _ b=>Y9 _ _ b) q0
theorem qkm {w : World} {nx n es : Nat} {xs : List (List V)} {arr : Array Value} {ty : TypeId} {b : Nat} (s : es≠0) (hi : inj n = some (b,0)) (hb : w.heap[b]? = some (.cells arr ty (0,0)))
    (t : ∀ (i : Nat) (x : List V),xs[i]? = some x→x.length = es)
    (h : ∀ (i : Nat) (x : List V) (j : Nat) (d : V),xs[i]? = some x→x[j]? = some d→Kh d = true∧∃ c,arr[i * es + j]? = some c∧RelV w Z inj nx d c) : RelB w Z inj nx n (q58 es xs):=by
  unfold q58;split
  · rename_i ys u;obtain ⟨r,q⟩:=q7w u;refine ⟨s,?_,.inr ⟨b,0,arr,ty,hi,hb,?_⟩⟩
    · intro i y f;obtain ⟨x,g⟩:=Ye r f;obtain ⟨v,a,hd⟩:=q i x g;rw [f] at a;cases a;have:=t i x g;rw [q3c hd] at this;simpa using this
    · intro i y j d f k;obtain ⟨x,g⟩:=Ye r f;obtain ⟨v,a,hd⟩:=q i x g;rw [f] at a;cases a;have p:=q3c hd;obtain ⟨l,c,o,m⟩:=h i x j (.d d) g (by rw [p];simp [k]);refine ⟨l,c,by simpa using o,?_⟩
      cases m with | d h=>exact h
  · refine ⟨s,t,.inr ⟨b,0,arr,ty,hi,hb,?_⟩⟩;intro i x j d g hd;obtain ⟨l,c,o,m⟩:=h i x j d g hd;exact ⟨l,c,by simpa using o,m⟩
theorem qju {o : Operand} {v : V} (h : RelS w Z inj st a Ds) (c : st.ev o = some v) {r : Result Next} (b : r = .ok (.value (a.eval o)) w) : Kf st st v w Z inj r:=
  .quiet h b (K9 h c)
theorem qse {t : TypeId} {i : TI} (h : RelS w Z inj st a Ds) (r : tiOf P t = some i) :
    Kf st (st.new (.dat i.size [i.zero])) (.ref st.nx i.size 0 0) w Z inj ((do pure (Next.value (← Instr.alloc t true (.tuple #[]))) : Sem Next).run P w):=by
  obtain ⟨m,d,z,k⟩:=Yj r
  have g : (Instr.alloc t true (.tuple #[])).run P w = .ok (.pointer (some ⟨w.heap.size,0,none⟩)) (w.alloc (.cells z.cells t)):=by
    simp [Instr.alloc,zeroValue,typeInfo,k.inf,k.zero,newVar,newRow]
  obtain ⟨s,o⟩:=q7h (w:=w.alloc (.cells z.cells t)) (Z:=Z) k.cells;refine .new h (Ke g) ?_ ?_
  · refine ⟨k.pos,?_,.inr ⟨w.heap.size,0,z.cells,t,Ku _ _ _,Ju _ _,?_⟩⟩
    · intro l x b
      cases l with
      | zero=>simp at b;subst b;exact k.len
      | succ n=>simp at b
    · intro l x j d b hd
      cases l with
      | zero=>
        simp at b;subst b;obtain ⟨c,p,q,f,_⟩:=o j d hd;exact ⟨f,c,by simpa using p,q⟩
      | succ n=>simp at b
  · have:=RelV.ref (w:=w.alloc (.cells z.cells t)) (Z:=Z) (inj:=upd inj st.nx (some (w.heap.size,0))) (nx:=st.nx + 1) (n:=st.nx) (es:=i.size) (i:=0) (j:=0) q0 (Ku _ _ _);simpa using this
theorem qsi {t : TypeId} {i : TI} {o : Operand} {v : V} (h : RelS w Z inj st a Ds) (ht : tiOf P t = some i) (u : st.ev o = some v) (y : (cellsOf v).length = i.size) (r : (cellsOf v).all Kh = true) :
    Kf st (st.new (q58 i.size [cellsOf v])) (.ref st.nx i.size 0 0) w Z inj ((do pure (Next.value (← Instr.box t (a.eval o))) : Sem Next).run P w):=by
  obtain ⟨q,d,z,k⟩:=Yj ht;have f:=K9 h u
  have l : (Instr.box t (a.eval o)).run P w = .ok (.pointer (some ⟨w.heap.size,0,none⟩)) (w.alloc (.cells (a.eval o).cells t)):=by
    simp [Instr.box,newVar,newRow]
  have p:=qkq h (.cells (a.eval o).cells t) f;obtain ⟨h1,s,_⟩:=qa6 p r;refine .new h (Ke l) ?_ ?_
  · refine qkm (b:=w.heap.size) (arr:=(a.eval o).cells) (ty:=t) k.pos (Ku _ _ _) (Ju _ _) ?_ ?_
    · intro m x f
      cases m with
      | zero=>simp at f;subst f;exact y
      | succ n=>simp at f
    · intro m x j d f hd
      cases m with
      | zero=>
        simp at f;subst f;obtain ⟨c,g⟩:=Y4 (xs:=(a.eval o).cells) (i:=j) (by have:=Kc hd;omega);exact ⟨List.all_eq_true.1 r _ (List.mem_of_getElem? hd),c,by simpa using g,s j d c hd g⟩
      | succ n=>simp at f
  · have:=RelV.ref (w:=w.alloc (.cells (a.eval o).cells t)) (Z:=Z) (inj:=upd inj st.nx (some (w.heap.size,0))) (nx:=st.nx + 1) (n:=st.nx) (es:=i.size) (i:=0) (j:=0) q0 (Ku _ _ _);simpa using this
theorem q22 {α : Type} (cs ys : List α) (o : Nat) (h : o + ys.length≤cs.length) : (splice cs o ys).length = cs.length:=by simp [splice];omega
theorem U4 {α : Type} (cs ys : List α) (o j : Nat) (h : o + ys.length≤cs.length) : (splice cs o ys)[j]? = if o≤j∧j < o + ys.length then ys[j - o]? else cs[j]?:=by
  have e : (cs.take o).length = o:=by simp;omega
  by_cases a : j < o
  · rw [qn q0,splice,List.append_assoc,List.getElem?_append_left q0,List.getElem?_take,ql a]
  · by_cases b : j < o + ys.length
    · rw [ql q0,splice,List.append_assoc,List.getElem?_append_right q0,e,List.getElem?_append_left q0]
    · rw [qn q0,splice,List.getElem?_append_right (by simp;omega),List.getElem?_drop];congr 1;rw [List.length_append,e];omega
theorem qhv (off : Nat) : ∀ (l : List Value) (s : Nat) (cs : Array Value),off + s + l.length≤cs.size→
    ((l.zipIdx s).foldl (fun (cs : Array Value) (x : Value × Nat)=>cs.setIfInBounds (off + x.2) x.1) cs).size = cs.size∧
    ∀ j : Nat,((l.zipIdx s).foldl (fun (cs : Array Value) (x : Value × Nat)=>cs.setIfInBounds (off + x.2) x.1) cs)[j]? = if off + s≤j∧j < off + s + l.length then l[j - (off + s)]? else cs[j]?
  | [],s,cs,_=>by
    refine ⟨rfl,fun j=>?_⟩
    have : ¬ (off + s≤j∧j < off + s + ([] : List Value).length):=by simp
    rw [qn this];rfl
  | v::r,s,cs,h=>by
    obtain ⟨f,d⟩:=qhv off r (s + 1) (cs.setIfInBounds (off + s) v) (by simp at h ⊢;omega)
    simp only [List.zipIdx_cons,List.foldl_cons]
    refine ⟨by rw [f];simp,fun j=>?_⟩
    rw [d j]
    simp only [List.length_cons] at h ⊢
    by_cases c : off + (s + 1)≤j∧j < off + (s + 1) + r.length
    · have a : off + s≤j∧j < off + s + (r.length + 1):=by omega
      rw [ql c,ql a,show j - (off + s) = (j - (off + (s + 1))) + 1 by omega,List.getElem?_cons_succ]
    · rw [qn c,Array.getElem?_setIfInBounds]
      by_cases b : off + s = j
      · have a : off + s≤j∧j < off + s + (r.length + 1):=by omega
        have g : j < cs.size:=by omega
        rw [ql b,ql a,ql q0,show j - (off + s) = 0 by omega]
        rfl
      · have a : ¬ (off + s≤j∧j < off + s + (r.length + 1)):=by omega
        rw [qn b,qn a]
theorem qhw (a cs : Array Value) (off : Nat) (h : off + a.size≤cs.size) :
    a.zipIdx.foldl (fun (cs : Array Value) (x : Value × Nat)=>cs.setIfInBounds (off + x.2) x.1) cs = (splice cs.toList off a.toList).toArray:=by
  rw [← Array.foldl_toList,Array.toList_zipIdx];obtain ⟨c,b⟩:=qhv off a.toList 0 cs (by simpa using h);have hs:=q22 cs.toList a.toList off (by simpa using h);apply Array.ext';apply List.ext_getElem?;intro j;rw [Array.getElem?_toList,b j,U4 _ _ _ _ (by simpa using h)];simp
def LRel (w : World) (Z : Nat→Prop) (inj : Inj) (nx : Nat) (cs : List V) (xs : Array Value) : Prop:=
  cs.length = xs.size∧∀ (i : Nat) (d : V) (c : Value),cs[i]? = some d→xs[i]? = some c→RelV w Z inj nx d c
theorem LRel.splice {w : World} {nx : Nat} {cs ys : List V} {xs g : Array Value} {o : Nat} (h : LRel w Z inj nx cs xs) (j : LRel w Z inj nx ys g) (k : o + ys.length≤cs.length) :
    LRel w Z inj nx (Am.splice cs o ys) (Am.splice xs.toList o g.toList).toArray:=by
  have m:=h.1;have l:=j.1;have f : o + g.toList.length≤xs.toList.length:=by simp;omega
  refine ⟨by simp [q22 _ _ _ k,q22 _ _ _ f,h.1],fun i d c hd b=>?_⟩;rw [U4 _ _ _ _ k] at hd;rw [List.getElem?_toArray,U4 _ _ _ _ f] at b;have e : g.toList.length = ys.length:=by simp;omega
  rw [e] at b;split at hd
  · rename_i a;rw [ql a] at b;exact j.2 _ _ _ hd (by simpa using b)
  · rename_i a;rw [qn a] at b;exact h.2 _ _ _ hd (by simpa using b)
theorem qhk {f : List (Nat × Operand)} {d : List (Nat × V)} (h : RelS w Z inj st a Ds) (hp : Ja st.ev f = some d) :
    d.length = f.length∧∀ (k : Nat) (i : Nat) (v : V),d[k]? = some (i,v)→∃ o,f[k]? = some (i,o)∧RelV w Z inj st.nx v (a.eval o):=by
  induction f generalizing d with
  | nil=>simp [Ja] at hp;subst hp;simp
  | cons x r ih=>
    obtain ⟨i,o⟩:=x;simp only [Ja] at hp
    cases c : st.ev o with
    | none=>simp [c] at hp
    | some v=>
      cases g : Ja st.ev r with
      | none=>simp [c,g] at hp
      | some l=>
        simp [c,g] at hp;subst hp;obtain ⟨t,q⟩:=ih g;refine ⟨by simp [t],fun k m j b=>?_⟩
        cases k with
        | zero=>simp at b;obtain ⟨rfl,rfl⟩:=b;exact ⟨o,qc,K9 h c⟩
        | succ k=>simp at b;obtain ⟨n,p,s⟩:=q k m j b;exact ⟨n,by simpa using p,s⟩
theorem q3h {os : List Operand} {j : List V} (h : RelS w Z inj st a Ds) (hp : evL st.ev os = some j) : LRel w Z inj st.nx j (os.map a.eval).toArray:=by
  induction os generalizing j with
  | nil=>simp [evL] at hp;subst hp;exact ⟨qc,qc⟩
  | cons o r ih=>
    simp only [evL] at hp
    cases b : st.ev o with
    | none=>simp [b] at hp
    | some v=>
      cases g : evL st.ev r with
      | none=>simp [b,g] at hp
      | some l=>
        simp [b,g] at hp;subst hp;obtain ⟨m,n⟩:=ih g;refine ⟨by simpa using m,fun k d c hd f=>?_⟩
        cases k with
        | zero=>simp at hd f;subst hd f;exact K9 h b
        | succ k=>simp at hd f;exact n k d c hd (by simpa using f)
theorem qd6 {w : World} {nx : Nat} (place : Nat→Option (Nat × Nat)) : ∀ (b : List (Nat × V)) (xs : List (Nat × Value)) (l : List (Nat × List V)) (cs a : List V) (C : Array Value),
    b.length = xs.length→(∀ (k : Nat) (i : Nat) (v : V),b[k]? = some (i,v)→∃ x,xs[k]? = some (i,x)∧RelV w Z inj nx v x)→
    l.length = b.length→(∀ (k : Nat) (i : Nat) (v : V),b[k]? = some (i,v)→∃ o s,place i = some (o,s)∧(cellsOf v).length = s∧(cellsOf v).all Kh = true∧l[k]? = some (o,cellsOf v))→
    LRel w Z inj nx cs C→q4r cs l = some a→∃ h,Instr.fill place C xs = some h∧LRel w Z inj nx a h
  | [],xs,l,cs,a,C,h1,_,h3,_,h5,h6=>by
    have : xs = []:=by cases xs <;> simp_all
    have : l = []:=by cases l <;> simp_all
    subst_vars
    simp [q4r] at h6;subst h6
    exact ⟨C,by simp [Instr.fill],h5⟩
  | (i,v)::b,xs,l,cs,a,C,h1,h2,h3,h4,h5,h6=>by
    match xs,l,h1,h3 with
    | (i',x)::xs,(o',ys)::l,h1,h3=>
      obtain ⟨x',c,y⟩:=h2 0 i v rfl
      simp at c;obtain ⟨rfl,rfl⟩:=c
      obtain ⟨o,s,hp,z,t,f⟩:=h4 0 i' v rfl
      simp at f;obtain ⟨rfl,rfl⟩:=f
      obtain ⟨u,r,q3⟩:=qa6 y t
      simp only [q4r] at h6
      split at h6
      · rename_i d
        have j : x.cells.size = s:=by omega
        have m : ¬ (o' + x.cells.size > C.size):=by have:=h5.1;omega
        obtain ⟨h,p,g⟩:=qd6 place b xs l (splice cs o' (cellsOf v)) a (splice C.toList o' x.cells.toList).toArray (by simpa using h1)
          (fun k i v q=>by obtain ⟨x,n⟩:=h2 (k + 1) i v (by simpa using q);exact ⟨x,by simpa using n⟩) (by simpa using h3)
          (fun k i v q=>by obtain ⟨o,s,n⟩:=h4 (k + 1) i v (by simpa using q);exact ⟨o,s,by simpa using n⟩)
          (h5.splice ⟨u,r⟩ d) h6
        refine ⟨h,?_,g⟩
        simp only [Instr.fill,hp,j]
        have : ¬ ((decide (s≠s) || decide (o' + s > C.size)) = true):=by simp;omega
        rw [qn (by simpa using this)]
        rw [qhw x.cells C o' q0]
        exact p
      · simp at h6
end
end Go.Am
namespace Go.Am
open Go
variable {P : Program} {T : Tab}
section
variable {w : World} {Z : Nat→Prop} {inj : Inj} {nx : Nat}
theorem qkv {α β : Type} {f : α→Sem β} {g : α→β} : ∀ {l : List α},(∀ x∈l,(f x).run P w = .ok (g x) w)→(l.mapM f).run P w = .ok (l.map g) w
  | [],_=>by simp
  | x::r,h=>by
    have c:=h x qc
    have b:=qkv (l:=r) (fun y a=>h y (by simp [a]))
    simp [List.mapM_cons,c,b]
theorem qun {α β : Type} {f : α→Sem β} {g : α→β} {l : Array α} (h : ∀ x∈l.toList,(f x).run P w = .ok (g x) w) : (l.mapM f).run P w = .ok (l.toList.map g).toArray w:=by
  rw [Array.mapM_eq_mapM_toList,Sem.run_map,qkv h];rfl
theorem qhs {d : Array Field} {g : List (Nat × Nat × Bool)} (h : (d.toList.mapM fun f => do
      let a ← P.info? f.type
      let c ← P.underlying f.type
      if a.size = 0 then none else some (f.offset,a.size,Kb c)) = some g) :
    g.length = d.size∧∀ (i : Nat) (f : Field),d[i]? = some f→∃ a c,P.info? f.type = some a∧P.underlying f.type = some c∧a.size≠0∧g[i]? = some (f.offset,a.size,Kb c):=by
  obtain ⟨o,n⟩:=q7w h;refine ⟨by simpa using o,fun i f p=>?_⟩;obtain ⟨y,m,b⟩:=n i f (by simpa using p)
  cases k : P.info? f.type with
  | none=>simp [k] at b
  | some a=>
    cases l : P.underlying f.type with
    | none=>simp [k,l] at b
    | some c=>
      simp only [k,l,Option.bind_eq_bind,qm] at b;split at b
      · simp at b
      · rename_i j;simp at b;subst b;exact ⟨a,c,rfl,rfl,j,m⟩
theorem qd9 {c : Array Field} {g : List (Nat × Nat × Bool)} (h : (c.toList.mapM fun f => do
      let a ← P.info? f.type
      let b ← P.underlying f.type
      if a.size = 0 then none else some (f.offset,a.size,Kb b)) = some g) {i off s : Nat} {ag : Bool} (hi : g[i]? = some (off,s,ag)) :
    ∃ f a b,c[i]? = some f∧P.info? f.type = some a∧P.underlying f.type = some b∧a.size = s∧s≠0∧f.offset = off∧Kb b = ag:=by
  obtain ⟨o,k⟩:=qhs h;obtain ⟨f,j⟩:=Y4 (xs:=c) (i:=i) (by have:=Kc hi;omega);obtain ⟨a,b,n,m,l,d⟩:=k i f j;rw [hi] at d;simp at d;obtain ⟨rfl,rfl,rfl⟩:=d;exact ⟨f,a,b,j,n,m,rfl,l,rfl,rfl⟩
theorem qk5 {a : TI} : ∀ {c : List (Nat × V)} {l : List (Nat × List V)},placed a c = some l→l.length = c.length∧∀ (k i : Nat) (v : V),c[k]? = some (i,v)→∃ o s,
    (match a.kind with | .struct=>(a.flds[i]?).map fun f=>(f.1,f.2.1) | .array=>some (i * a.esize,a.esize) | _=>none) = some (o,s)∧(cellsOf v).length = s∧(cellsOf v).all Kh = true∧l[k]? = some (o,cellsOf v)
  | [],l,h=>by simp [placed] at h;subst h;simp
  | (i,v)::r,l,h=>by
    simp only [placed] at h
    split at h
    · rename_i o s l' m j
      split at h
      · rename_i d
        simp at h;subst h
        obtain ⟨w,t⟩:=qk5 j
        refine ⟨by simp [w],fun k n g b=>?_⟩
        cases k with
        | zero=>simp at b;obtain ⟨rfl,rfl⟩:=b;exact ⟨o,s,m,d.1,d.2,qc⟩
        | succ k=>simp at b;obtain ⟨p,u,q⟩:=t k n g b;exact ⟨p,u,by simpa using q⟩
      · simp at h
    · simp at h
theorem q110 {t : TypeId} {i : TI} {a : TypeInfo} {d : TypeDesc} {z : Value} (k : TiOk P t i a d z) : LRel w Z inj nx (i.zero.map .d) z.cells:=by
  obtain ⟨h,g⟩:=q7h (w:=w) (Z:=Z) k.cells;refine ⟨by simpa using h,fun j d c hd m=>?_⟩;simp only [List.getElem?_map,Kv] at hd;obtain ⟨l,f,rfl⟩:=hd;obtain ⟨o,b,n,_⟩:=g j l f;rw [m] at b;cases b;exact .d n
theorem Z9 {t : TypeId} {a : TypeInfo} (h : P.info? t = some a) : (sizeOf t).run P w = .ok a.size w:=by simp [sizeOf,typeInfo,h]
theorem q2r {t : TypeId} {d : TypeDesc} (h : P.underlying t = some d) : (isAgg t).run P w = .ok (Kb d) w:=by
  simp only [isAgg,Sem.run_bind,run_underlying h,Result.andThen_ok];cases d <;> rfl
theorem qk1 {t : TypeId} {a : TypeInfo} {d : TypeDesc} (s : P.info? t = some a) (m : P.underlying t = some d) {cs r : List V} {xs : Array Value} {off : Nat} {v : V} (l : LRel w Z inj nx cs xs)
    (hs : sub cs off a.size = some r) (hp : pack (Kb d) r = some v) : ∃ x,(part t xs off).run P w = .ok x w∧RelV w Z inj nx v x:=by
  obtain ⟨n,j⟩:=q9n hs;have y:=(qm9 hs).1;have o:=l.1
  have g : ∀ (i : Nat) (d : V) (c : Value),r[i]? = some d→(xs.extract off (off + a.size)).toList[i]? = some c→RelV w Z inj nx d c:=by
    intro i d c hd h;obtain ⟨f,u⟩:=j i d hd;refine l.2 _ _ _ f ?_;rw [Array.getElem?_toList,Array.getElem?_extract] at h;split at h <;> first | exact h | simp at h
  have k : r.length = (xs.extract off (off + a.size)).toList.length:=by simp;omega
  have b:=qjx hp k g
  cases hb : Kb d with
  | true=>
    rw [hb] at b
    refine ⟨.agg (xs.extract off (off + a.size)),?_,by
      have q : RelV w Z inj nx v (.agg (xs.extract off (off + a.size)).toList.toArray):=b
      rwa [Array.toArray_toList] at q⟩
    simp [part,q2r m,hb,Z9 s]
  | false=>
    rw [hb] at b hp
    match r,hp,n,j with
    | [c],hp,n,j=>
      simp only [pack,Option.some.injEq] at hp;subst hp;have f:=(j 0 c rfl).1;simp only [Nat.add_zero] at f;obtain ⟨x,p⟩:=Y4 (xs:=xs) (i:=off) (by have:=Kc f;omega);exact ⟨x,by simp [part,q2r m,hb,p],l.2 _ _ _ f p⟩
end
section
variable {w : World} {Z : Nat→Prop} {inj : Inj} {st : AS} {a : Act} {Ds : List Nat}
theorem qsj {t : TypeId} {i : TI} {m : Array (Nat × Operand)} {vs : List (Nat × V)} {l : List (Nat × List V)} {cs : List V} (h : RelS w Z inj st a Ds) (ht : tiOf P t = some i) (hv : Ja st.ev m.toList = some vs)
    (ha : i.agg = true) (hl : placed i vs = some l) (hf : q4r (i.zero.map .d) l = some cs) :
    Kf st st (q57 cs) w Z inj ((do pure (Next.value (← Instr.build t (m.map fun (i,x)=>(i,a.eval x)))) : Sem Next).run P w):=by
  obtain ⟨ap,d,z,k⟩:=Yj ht;obtain ⟨p1,p2⟩:=qhk h hv;obtain ⟨q1,q2⟩:=qk5 hl;have hz:=q110 (w:=w) (Z:=Z) (inj:=inj) (nx:=st.nx) k
  have ac : ∀ (k i : Nat) (v : V),vs[k]? = some (i,v)→∃ x,(m.toList.map fun (x : Nat × Operand)=>(x.1,a.eval x.2))[k]? = some (i,x)∧RelV w Z inj st.nx v x:=by
    intro k i v y;obtain ⟨o,ho,n⟩:=p2 k i v y;exact ⟨a.eval o,by simp only [List.getElem?_map,ho];rfl,n⟩
  have u : (zeroValue t).run P w = .ok z w:=by simp [zeroValue,typeInfo,k.inf,k.zero]
  have b:=k.kind;unfold Za at b;cases y : i.kind <;> simp only [y,TI.agg] at b ha
  case struct=>
    obtain ⟨fs,rfl,aa⟩:=b;obtain ⟨_,ah⟩:=qhs aa
    obtain ⟨r,hC,n⟩:=qd6 (fun i=>((fs.toList.map fun (f : Field)=>(f.offset,((P.info? f.type).map (·.size)).getD 0)).toArray)[i]?) vs (m.toList.map fun (x : Nat × Operand)=>(x.1,a.eval x.2)) l _ cs z.cells (by simp [p1]) ac q1
      (fun k i' v c=>by
        obtain ⟨o,s,q,h2,h3,h4⟩:=q2 k i' v c;simp only [y,Kv] at q;obtain ⟨⟨o',s',ag⟩,h5,h6⟩:=q;simp at h6;obtain ⟨rfl,rfl⟩:=h6;obtain ⟨f,jf,df,p,g2,_,g4,_,g6,_⟩:=qd9 aa h5
        exact ⟨o',s',by simp [p,g2,g4,g6],h2,h3,h4⟩) hz hf
    refine .quiet h (Ke (x:=.agg r) ?_) (qea n.1 n.2)
    have hm : (fs.mapM fun f=>do pure (f.offset,← sizeOf f.type) : Sem (Array (Nat × Nat))).run P w = .ok (fs.toList.map fun (f : Field)=>(f.offset,((P.info? f.type).map (·.size)).getD 0)).toArray w:=by
      refine qun fun f hf=>?_;obtain ⟨j,hj⟩:=List.mem_iff_getElem?.1 hf;obtain ⟨jf,df,p,_⟩:=ah j f (by simpa using hj);simp [Z9 p,p]
    simp only [Instr.build,Sem.run_bind,u,Result.andThen_ok,run_underlying k.und,hm];have g : Instr.fill (fun x=>((fs.toList.map fun (f : Field)=>(f.offset,((P.info? f.type).map (·.size)).getD 0)).toArray)[x]?) z.cells (m.map fun (x : Nat × Operand)=>(x.1,a.eval x.2)).toList = some r:=by simpa using hC
    simp only [g];rfl
  case array=>
    obtain ⟨e,ie,de,rfl,p,g2,g3,g4,_⟩:=b
    obtain ⟨r,hC,n⟩:=qd6 (fun j=>some (j * i.esize,i.esize)) vs (m.toList.map fun (x : Nat × Operand)=>(x.1,a.eval x.2)) l _ cs z.cells (by simp [p1]) ac q1
      (fun k i' v c=>by
        obtain ⟨o,s,q,h2,h3,h4⟩:=q2 k i' v c;simp only [y] at q
        exact ⟨o,s,q,h2,h3,h4⟩) hz hf
    refine .quiet h (Ke (x:=.agg r) ?_) (qea n.1 n.2);have g : Instr.fill (fun j=>some (j * i.esize,i.esize)) z.cells (m.map fun (x : Nat × Operand)=>(x.1,a.eval x.2)).toList = some r:=by simpa using hC
    simp only [Instr.build,Sem.run_bind,u,Result.andThen_ok,run_underlying k.und,Z9 p,g3,g];rfl
  all_goals simp at ha
theorem qix {t : TypeId} {i : TI} {pv v : V} {vp : Value} (h : RelH w Z inj st.hp st.nx) (ht : tiOf P t = some i) (hx : RelV w Z inj st.nx pv vp) (a : U0 st i pv = some v) :
    ∃ b o x,vp = .pointer (some ⟨b,o,none⟩)∧(Instr.loadAt t vp).run P w = .ok x w∧RelV w Z inj st.nx v x:=by
  obtain ⟨an,d,z,k⟩:=Yj ht
  have fin : ∀ {b o : Nat} {r : List V} {pp : Value},pp = .pointer (some ⟨b,o,none⟩)→pack i.agg r = some v→r.length = i.size→
      (∀ (k : Nat) (x : V),r[k]? = some x→∃ c,w.cell? ⟨b,o + k,none⟩ = some c∧RelV w Z inj st.nx x c)→∃ b o x,pp = .pointer (some ⟨b,o,none⟩)∧(Instr.loadAt t pp).run P w = .ok x w∧RelV w Z inj st.nx v x:=by
    intro b o r pp m al ab hc
    obtain ⟨x,aa,ae⟩:=qr6 (P:=P) k al ab hc
    exact ⟨b,o,x,m,by rw [m];exact aa,ae⟩
  cases pv <;> simp only [U0,reduceCtorEq] at a
  case ref n es e j=>
    cases hx with
    | @ref _ _ _ _ b o hn hi=>
    cases hb : st.blk n with
    | none=>simp [hb] at a
    | some blk=>
      have hB:=(h.blk n blk hb).2
      cases blk with
      | dead=>simp [hb] at a
      | loop=>simp [hb] at a
      | mp=>simp [hb] at a
      | dat es' xs=>
        simp only [hb] at a;split at a <;> try simp at a
        rename_i cs m l;have m:=Nat.eq_of_beq_eq_true m;subst m
        cases hs : sub cs j i.size with
        | none=>simp [hs] at a
        | some r=>
          simp only [hs] at a;rw [qel] at a;obtain ⟨s,u⟩:=q9n hs;obtain ⟨b1,b2,f⟩:=hB;rcases f with ⟨f,_⟩ | ⟨b',o',arr,ty,f,b4,b5⟩
          · subst f;simp at l
          · rw [hi] at f;cases f;refine fin rfl a (by simpa using s) ?_;intro k x q;simp only [List.getElem?_map,Kv] at q;obtain ⟨y,hy,rfl⟩:=q;obtain ⟨p,_⟩:=u k y hy;obtain ⟨_,c,h4,h5⟩:=b5 e cs (j + k) y l p;exact ⟨c,by simp only [World.cell?,b4];rw [← h4];simp [Nat.add_assoc],.d h5⟩
      | cel es' xs=>
        simp only [hb] at a;split at a <;> try simp at a
        rename_i cs m l;have m:=Nat.eq_of_beq_eq_true m;subst m
        cases hs : sub cs j i.size with
        | none=>simp [hs] at a
        | some r=>
          simp only [hs] at a;obtain ⟨s,u⟩:=q9n hs;obtain ⟨b1,b2,f⟩:=hB;rcases f with ⟨f,_⟩ | ⟨b',o',arr,ty,f,b4,b5⟩
          · subst f;simp at l
          · rw [hi] at f;cases f;refine fin rfl a s ?_;intro k x q;obtain ⟨p,_⟩:=u k x q;obtain ⟨_,c,h4,h5⟩:=b5 e cs (j + k) x l p;exact ⟨c,by simp only [World.cell?,b4];rw [← h4];simp [Nat.add_assoc],h5⟩
  case dref cs j=>
    cases hx with
    | @dref _ _ b o hz hc hr=>
    cases hs : sub cs j i.size with
    | none=>simp [hs] at a
    | some r=>
      simp only [hs] at a;rw [qel] at a;obtain ⟨s,u⟩:=q9n hs;refine fin rfl a (by simpa using s) ?_;intro k x q;simp only [List.getElem?_map,Kv] at q;obtain ⟨y,hy,rfl⟩:=q;obtain ⟨p,_⟩:=u k y hy;obtain ⟨c,g⟩:=hc _ _ p;exact ⟨c,by rw [← g,Nat.add_assoc],.d (hr _ _ _ p g)⟩
  case d x=>
    cases x <;> simp only [reduceCtorEq] at a
    rename_i cs
    cases hx with
    | d hx=>
    cases hx with
    | @box _ b o hz hc hr=>
    cases hs : sub cs 0 i.size with
    | none=>simp [hs] at a
    | some r=>
      simp only [hs] at a;rw [qel] at a;obtain ⟨s,u⟩:=q9n hs;refine fin rfl a (by simpa using s) ?_;intro k x q;simp only [List.getElem?_map,Kv] at q;obtain ⟨y,hy,rfl⟩:=q;obtain ⟨p,_⟩:=u k y hy;rw [Nat.zero_add] at p;obtain ⟨c,g⟩:=hc _ _ p;exact ⟨c,g,.d (hr _ _ _ p g)⟩
theorem qsu {t : TypeId} {i : TI} {p : Operand} {pv v : V} (h : RelS w Z inj st a Ds) (g : tiOf P t = some i) (hp : st.ev p = some pv) (d : U0 st i pv = some v) :
    Kf st st v w Z inj ((do pure (Next.value (← Instr.loadAt t (a.eval p))) : Sem Next).run P w):=by
  obtain ⟨b,o,x,_,c,f⟩:=qix (P:=P) h.heap g (K9 h hp) d;exact .quiet h (Ke c) f
end
end Go.Am
namespace Go.Am
open Go
variable {P : Program} {T : Tab}
theorem qco : ∀ {c d : List (Option IntKind)} {a b : List DV} {r : Bool},Kd (c ++ d) a b = some r→
    ∃ p q,Kd c (a.take c.length) (b.take c.length) = some p∧Kd d (a.drop c.length) (b.drop c.length) = some q∧r = (p && q)
  | [],d,a,b,r,h=>⟨true,r,by simp [Kd],by simpa using h,qc⟩
  | k::c,d,a,b,r,h=>by
    match a,b,h with
    | x::a,y::b,h=>
      simp only [List.cons_append,Kd] at h
      split at h <;> simp at h
      rename_i u v l f
      obtain ⟨p,q,m,j,g⟩:=qco f
      refine ⟨u && p,q,by simp [Kd,l,m],by simpa using j,?_⟩
      rw [← h,g,Bool.and_assoc]
    | [],_,h=>simp [Kd] at h
    | _::_,[],h=>simp [Kd] at h
theorem qa5 : ∀ {ks : List (Option IntKind)} {a b : List DV} {r : Bool},Kd ks a b = some r→a.length = ks.length∧b.length = ks.length
  | [],[],[],_,_=>⟨rfl,rfl⟩
  | k::ks,x::a,y::b,r,h=>by
    simp only [Kd] at h
    split at h <;> simp at h
    rename_i d c
    have:=qa5 c
    simp;omega
  | [],_::_,_,_,h=>by simp [Kd] at h
  | [],[],_::_,_,h=>by simp [Kd] at h
  | _::_,[],_,_,h=>by simp [Kd] at h
  | _::_,_::_,[],_,h=>by simp [Kd] at h
section
variable {w : World} {Z : Nat→Prop}
def DRel (w : World) (Z : Nat→Prop) (ds : List DV) (cs : Array Value) : Prop:=ds.length = cs.size∧∀ (i : Nat) (d : DV) (c : Value),ds[i]? = some d→cs[i]? = some c→RelD w Z d c
theorem DRel.extract {ds : List DV} {cs : Array Value} (h : DRel w Z ds cs) (o s : Nat) (hs : o + s≤ds.length) : DRel w Z ((ds.drop o).take s) (cs.extract o (o + s)):=by
  have b:=h.1;refine ⟨by simp;omega,fun i d c hd a=>?_⟩;rw [List.getElem?_take] at hd;split at hd
  · rw [List.getElem?_drop] at hd;rw [Array.getElem?_extract] at a;split at a
    · exact h.2 _ _ _ hd a
    · simp at a
  · simp at hd
theorem qbx {t : TypeId} {d : TypeDesc} (h : P.underlying t = some d) : ∃ a,P.info? t = some a∧P.cellsOf t = a.size:=by
  cases hi : P.info? t with
  | none=>simp [Program.underlying,hi] at h
  | some a=>exact ⟨a,rfl,by simp [Program.cellsOf,hi]⟩
def EqOk (P : Program) (w : World) (Z : Nat→Prop) (k : Nat) (t : TypeId) (desc : TypeDesc) (ks : List (Option IntKind)) : Prop:=
  ∀ (xs ys : List DV) (X Y : Array Value) (r : Bool),DRel w Z xs X→DRel w Z ys Y→Kd ks xs ys = some r→
    (Kb desc = true→(Op.equalIn k t (.agg X) (.agg Y)).run P w = .ok r w)∧(Kb desc = false→ks.length = 1∧∀ x y,X[0]? = some x→Y[0]? = some y→(Op.equalIn k t x y).run P w = .ok r w)
def q7k (k : Nat) (X Y : Array Value) (f : Field) (_s : Option Bool × Unit) : Sem (ForInStep (Option Bool × Unit)):=
  if f.name ≠ "_" then do
    let __do_lift ← part f.type X f.offset
    let __do_lift_1 ← part f.type Y f.offset
    let __do_lift ← Op.equalIn k f.type __do_lift __do_lift_1
    if (!__do_lift) = true then pure (ForInStep.done (some false,())) else pure (ForInStep.yield (none,()))
  else pure (ForInStep.yield (none,()))
theorem qhj {k : Nat} {t : TypeId} {desc : TypeDesc} {b : TypeInfo} {ks : List (Option IntKind)} (h : EqOk P w Z k t desc ks) (f : P.underlying t = some desc) (hi : P.info? t = some b) (hs : b.size = ks.length)
    {xs ys : List DV} {X Y : Array Value} (r : DRel w Z xs X) (m : DRel w Z ys Y) {o : Nat} (l : o + ks.length≤xs.length) (j : o + ks.length≤ys.length) {p : Bool}
    (hp : Kd ks ((xs.drop o).take ks.length) ((ys.drop o).take ks.length) = some p) :
    ∃ s q,(part t X o).run P w = .ok s w∧(part t Y o).run P w = .ok q w∧(Op.equalIn k t s q).run P w = .ok p w:=by
  obtain ⟨u,g⟩:=h _ _ _ _ p (r.extract o ks.length l) (m.extract o ks.length j) hp
  cases a : Kb desc with
  | true=>
    exact ⟨.agg (X.extract o (o + ks.length)),.agg (Y.extract o (o + ks.length)),by simp [part,q2r f,a,Z9 hi,hs],by simp [part,q2r f,a,Z9 hi,hs],u a⟩
  | false=>
    obtain ⟨n,g⟩:=g a;have v:=r.1;have z:=m.1;obtain ⟨x,d⟩:=Y4 (xs:=X) (i:=o) q0;obtain ⟨y,c⟩:=Y4 (xs:=Y) (i:=o) q0;refine ⟨x,y,by simp [part,q2r f,a,d],by simp [part,q2r f,a,c],g x y ?_ ?_⟩
    · rw [Array.getElem?_extract,n,ql (by have:=Zd d;omega)];exact d
    · rw [Array.getElem?_extract,n,ql (by have:=Zd c;omega)];exact c
theorem qhg (d : Nat) (k : Nat) (v : ∀ t desc ks,P.underlying t = some desc→Kg P d t = some ks→EqOk P w Z k t desc ks)
    (xs ys : List DV) (X Y : Array Value) (s : DRel w Z xs X) (x : DRel w Z ys Y) : ∀ (l : List Field) (o : Nat) (r : Bool) (ks : List (Option IntKind)),tile P (Kg P d) o l = some ks→o + ks.length≤xs.length→o + ks.length≤ys.length→
    Kd ks (xs.drop o) (ys.drop o) = some r→(forIn l ((none : Option Bool),()) (q7k k X Y) : Sem (Option Bool × Unit)).run P w = .ok (if r then (none,()) else (some false,())) w
  | [],o,r,ks,ht,_,_,hc=>by
    simp only [tile,Option.some.injEq] at ht;subst ht
    obtain ⟨h1,h2⟩:=qa5 hc
    rw [List.eq_nil_of_length_eq_zero h1,List.eq_nil_of_length_eq_zero h2] at hc
    simp [Kd] at hc;subst hc
    simp
  | f::l,o,r,ks,ht,hlx,hly,hc=>by
    simp only [tile] at ht
    cases a : Kg P d f.type with
    | none=>simp [a] at ht
    | some ka=>
      simp only [a] at ht
      split at ht <;> try simp at ht
      rename_i g
      obtain ⟨rfl,y,z⟩:=g
      cases b : tile P (Kg P d) (f.offset + ka.length) l with
      | none=>simp [b] at ht
      | some kb=>
        simp only [b,Option.some.injEq] at ht;subst ht
        simp only [List.length_append] at hlx hly
        obtain ⟨p,q,hp,n,m⟩:=qco hc
        rw [List.drop_drop,List.drop_drop] at n
        obtain ⟨h,c⟩ : ∃ h,P.underlying f.type = some h:=by
          cases hu : P.underlying f.type with
          | none=>cases d <;> simp [Kg,hu] at a
          | some h=>exact ⟨h,rfl⟩
        obtain ⟨jf,j,u⟩:=qbx c
        obtain ⟨vx,vy,g1,g2,g3⟩:=qhj (v f.type h ka c a) c j q0 s x (o:=f.offset) q0 q0 hp
        rw [List.forIn_cons]
        simp only [q7k,ql y,Sem.run_bind,g1,g2,g3,Result.andThen_ok]
        cases p with
        | false=>simp [m]
        | true=>
          have:=qhg d k v xs ys X Y s x l (f.offset + ka.length) q kb b q0 q0 n;simp only [Bool.true_and] at m;subst m;simpa using this
def q7l (k : Nat) (e : TypeId) (n : Nat) (X Y : Array Value) (i : Nat) (_s : Option Bool × Unit) : Sem (ForInStep (Option Bool × Unit)):=do
  let __do_lift ← part e X (i * n)
  let __do_lift_1 ← part e Y (i * n)
  let __do_lift ← Op.equalIn k e __do_lift __do_lift_1
  if (!__do_lift) = true then pure (ForInStep.done (some false,())) else pure (ForInStep.yield (none,()))
theorem qhh {k : Nat} {e : TypeId} {desc : TypeDesc} {b : TypeInfo} {a : List (Option IntKind)} (g : EqOk P w Z k e desc a) (j : P.underlying e = some desc) (hi : P.info? e = some b) (hs : b.size = a.length)
    {xs ys : List DV} {X Y : Array Value} (h : DRel w Z xs X) (f : DRel w Z ys Y) : ∀ (m s : Nat) (r : Bool),(s + m) * a.length≤xs.length→(s + m) * a.length≤ys.length→
    Kd (List.replicate m a).flatten (xs.drop (s * a.length)) (ys.drop (s * a.length)) = some r→(forIn (List.range' s m) ((none : Option Bool),()) (q7l k e b.size X Y) : Sem (Option Bool × Unit)).run P w = .ok (if r then (none,()) else (some false,())) w
  | 0,s,r,_,_,hc=>by
    simp only [List.replicate_zero,List.flatten_nil] at hc
    obtain ⟨t,n⟩:=qa5 hc
    rw [List.eq_nil_of_length_eq_zero t,List.eq_nil_of_length_eq_zero n] at hc
    simp [Kd] at hc;subst hc
    simp
  | m + 1,s,r,hlx,hly,hc=>by
    rw [List.replicate_succ,List.flatten_cons] at hc
    obtain ⟨p,q,hp,c,d⟩:=qco hc
    rw [List.drop_drop,List.drop_drop] at c
    have l : s * a.length + a.length = (s + 1) * a.length:=by rw [Nat.add_mul];simp
    have y : (s + 1) * a.length + m * a.length = (s + (m + 1)) * a.length:=by rw [← Nat.add_mul];congr 1;omega
    obtain ⟨vx,z,x,v,u⟩:=qhj g j hi hs h f (o:=s * a.length) q0 q0 hp
    rw [List.range'_succ,List.forIn_cons]
    simp only [q7l,hs,Sem.run_bind,x,v,u,Result.andThen_ok]
    cases p with
    | false=>simp [d]
    | true=>
      rw [l] at c
      have:=qhh g j hi hs h f m (s + 1) q (by rw [Nat.add_mul];omega) (by rw [Nat.add_mul];omega) c
      simp only [Bool.true_and] at d
      subst d
      rw [hs] at this
      simpa using this
theorem qad : ∀ (d : Nat) (t : TypeId) (desc : TypeDesc) (ks : List (Option IntKind)),P.underlying t = some desc→Kg P d t = some ks→∀ k,d≤k→EqOk P w Z k t desc ks
  | 0,t,desc,ks,hu,hp,k,hk=>by simp [Kg] at hp
  | d + 1,t,desc,ks,hu,hp,k,hk=>by
    obtain ⟨k,rfl⟩ : ∃ k',k = k' + 1:=⟨k - 1,q0⟩
    intro xs ys X Y r u v c
    obtain ⟨s,p⟩:=qa5 c
    simp only [Kg,hu] at hp
    cases desc <;> simp only [reduceCtorEq,Option.some.injEq] at hp
    case bool=>
      subst hp
      refine ⟨by simp [Kb],fun _=>⟨rfl,fun x y j l=>?_⟩⟩
      match xs,ys,s,p,c with
      | [a],[b],_,_,c=>
        have ra:=u.2 0 a x rfl j
        have rb:=v.2 0 b y rfl l
        simp only [Kd] at c
        cases a <;> cases b <;> simp only [q2c,reduceCtorEq] at c
        simp at c;subst c
        cases ra;cases rb;simp [Op.equalIn,run_underlying hu]
    case int k0=>
      subst hp
      refine ⟨by simp [Kb],fun _=>⟨rfl,fun x y j l=>?_⟩⟩
      match xs,ys,s,p,c with
      | [a],[b],_,_,c=>
        have ra:=u.2 0 a x rfl j
        have rb:=v.2 0 b y rfl l
        simp only [Kd] at c
        cases a <;> cases b <;> simp only [q2c,reduceCtorEq] at c
        split at c <;> simp at c
        rename_i m z
        split at m <;> simp at m
        rename_i ab
        obtain ⟨rfl,rfl⟩:=ab
        subst m c
        simp at z;subst z
        cases ra;cases rb;simp [Op.equalIn,run_underlying hu]
    case struct fs=>
      refine ⟨fun _=>?_,by simp [Kb]⟩
      split at hp
      · simp at hp
      · rename_i ae
        simp only [Op.equalIn,Sem.run_bind,run_underlying hu,Result.andThen_ok,run_program,ae,Bool.false_eq_true,if_false]
        have:=qhg (P:=P) (w:=w) (Z:=Z) d k (fun t desc ks m z=>qad d t desc ks m z k q0) xs ys X Y u v fs.toList 0 r ks hp q0 q0 (by simpa using c)
        rw [Array.forIn_toList] at this
        have e : (fun (f : Field) (_s : Option Bool × Unit)=>q7k k X Y f _s) = q7k k X Y:=rfl
        unfold q7k at this
        rw [this]
        cases r <;> simp
    case array n e=>
      refine ⟨fun _=>?_,by simp [Kb]⟩
      cases g : Kg P d e with
      | none=>simp [g] at hp
      | some a=>
        simp only [g] at hp
        split at hp
        · rename_i ai
          simp only [Option.some.injEq] at hp;subst hp
          obtain ⟨q,h⟩ : ∃ q,P.underlying e = some q:=by
            cases aa : P.underlying e with
            | none=>cases d <;> simp [Kg,aa] at g
            | some q=>exact ⟨q,rfl⟩
          obtain ⟨je,o,ah⟩:=qbx h
          have af : (List.replicate n a).flatten.length = n * a.length:=by simp
          have:=qhh (qad d e q a h g k q0) h o q0 u v n 0 r (by rw [Nat.zero_add];omega) (by rw [Nat.zero_add];omega) (by simpa using c)
          simp only [Op.equalIn,Sem.run_bind,run_underlying hu,Result.andThen_ok,Z9 o,Std.Legacy.Range.forIn_eq_forIn_range']
          have e : (fun (i : Nat) (_s : Option Bool × Unit)=>q7l k e je.size X Y i _s) = q7l k e je.size X Y:=rfl
          unfold q7l at this
          simp only [Std.Legacy.Range.size,Nat.sub_zero,Nat.add_sub_cancel,Nat.div_one]
          rw [this]
          cases r <;> simp
        · simp at hp
end
section
variable {w : World} {Z : Nat→Prop} {inj : Inj} {st : AS} {a : Act} {Ds : List Nat}
theorem qnn {op : BinOp} {k : IntKind} {x y : Int} {r : DV} (h : binI op k x y = some r) (hs : op≠.shl∧op≠.shr) : ∃ v,(∀ t,(binOp op t (.int k x) (.int k y)).run P w = .ok v w)∧RelD w Z r v:=by
  cases op <;> simp only [binI,reduceCtorEq,Option.some.injEq] at h <;> try (simp at hs;done)
  case add=>subst h;exact ⟨_,fun t=>by simp [binOp,Op.intArith],.int _ _⟩
  case sub=>subst h;exact ⟨_,fun t=>by simp [binOp,Op.intArith],.int _ _⟩
  case mul=>subst h;exact ⟨_,fun t=>by simp [binOp,Op.intArith],.int _ _⟩
  case quo=>split at h <;> simp at h;subst h;rename_i a;exact ⟨_,fun t=>by simp [binOp,Op.intDiv,a],.int _ _⟩
  case rem=>split at h <;> simp at h;subst h;rename_i a;exact ⟨_,fun t=>by simp [binOp,Op.intDiv,a],.int _ _⟩
  case and=>subst h;exact ⟨_,fun t=>by simp [binOp,Op.intBits],.int _ _⟩
  case or=>subst h;exact ⟨_,fun t=>by simp [binOp,Op.intBits],.int _ _⟩
  case xor=>subst h;exact ⟨_,fun t=>by simp [binOp,Op.intBits],.int _ _⟩
  case eql=>subst h;exact ⟨_,fun t=>by simp [binOp,Op.intCmp],.bool _⟩
  case neq=>subst h;exact ⟨_,fun t=>by simp [binOp,Op.intCmp],.bool _⟩
  case lss=>subst h;exact ⟨_,fun t=>by simp [binOp,Op.intCmp],.bool _⟩
  case leq=>subst h;exact ⟨_,fun t=>by simp [binOp,Op.intCmp],.bool _⟩
  case gtr=>subst h;exact ⟨_,fun t=>by simp [binOp,Op.intCmp],.bool _⟩
  case geq=>subst h;exact ⟨_,fun t=>by simp [binOp,Op.intCmp],.bool _⟩
theorem ql3 {op : BinOp} {k k' : IntKind} {x y : Int} {r : DV} (h : q8c op k x y = some r) : ∃ v,(∀ t,(binOp op t (.int k x) (.int k' y)).run P w = .ok v w)∧RelD w Z r v:=by
  unfold q8c at h;split at h <;> try simp at h
  rename_i a;cases op <;> simp only [reduceCtorEq,Option.some.injEq] at h
  case shl=>subst h;exact ⟨_,fun t=>by simp [binOp,Op.shift,a],.int _ _⟩
  case shr=>subst h;exact ⟨_,fun t=>by simp [binOp,Op.shift,a],.int _ _⟩
theorem q18 {op : BinOp} {t : TypeId} {x y : Operand} {u v : Value} (b : ∀ c,u≠.agg c) (a : u≠.nilIface) : (eqGuard op t x y u v).run P w = .ok () w:=by
  unfold eqGuard;cases op <;> simp <;> cases u <;> simp_all
theorem qhe {op : BinOp} {t : TypeId} {x y : Operand} {u v : Array Value} (h : P.eqGuardType P.depth t = false) : (eqGuard op t x y (.agg u) (.agg v)).run P w = .ok () w:=by
  unfold eqGuard;cases op <;> simp [h]
end
end Go.Am
namespace Go.Am
open Go
variable {P : Program} {T : Tab}
section
variable {w : World} {Z : Nat→Prop} {inj : Inj} {st : AS} {a : Act} {Ds : List Nat}
theorem qml {a : TypeId → Option (List (Option IntKind))} {k : Nat} (b : ∀ t ks, a t = some ks → P.eqGuardType k t = false) : ∀ {l : List Field} {o : Nat} {ks}, tile P a o l = some ks → l.any (fun f => f.name != "_" && P.eqGuardType k f.type) = false
  | [],_,_,_=>rfl
  | f::r,o,ks,h=>by
    simp only [tile] at h
    cases hp : a f.type with
    | none=>simp [hp] at h
    | some ka=>
      simp only [hp] at h
      split at h <;> try simp at h
      cases c : tile P a (o + ka.length) r with
      | none=>simp [c] at h
      | some kb=>
        have:=qml b c
        simp only [List.any_cons,this,b _ _ hp,Bool.and_false,Bool.or_false]
theorem qed : ∀ (d : Nat) (t : TypeId) (ks : List (Option IntKind)),Kg P d t = some ks→∀ k,d≤k→P.eqGuardType k t = false
  | 0,t,ks,h,k,hk=>by simp [Kg] at h
  | d + 1,t,ks,h,k,hk=>by
    obtain ⟨k,rfl⟩ : ∃ k',k = k' + 1:=⟨k - 1,q0⟩
    simp only [Kg] at h
    simp only [Program.eqGuardType]
    cases b : P.underlying t with
    | none=>rfl
    | some desc=>
      cases desc <;> simp only [b,reduceCtorEq] at h <;> try rfl
      case array n e=>
        cases hp : Kg P d e with
        | none=>simp [hp] at h
        | some a=>exact qed d e a hp k q0
      case struct fs=>
        split at h <;> try simp at h
        have:=qml (fun t ks hp=>qed d t ks hp k q0) h
        simp only []
        rw [← Array.any_toList];exact this
theorem qjs {op : BinOp} {t : TypeId} {i : TI} {x y : Operand} {p q : List DV} {ks : List (Option IntKind)} {r : Bool} {b : DV} (h : RelS w Z inj st a Ds) (ht : tiOf P t = some i) (hx : st.ev x = some (.d (.agg p))) (s : st.ev y = some (.d (.agg q)))
    (u : i.eqs = some ks) (v : Kd ks p q = some r) (m : (op = .eql∧b = .bool r)∨(op = .neq∧b = .bool (!r))) :
    Kf st st (.d b) w Z inj ((do pure (Next.value (← (do eqGuard op t x y (a.eval x) (a.eval y);binOp op t (a.eval x) (a.eval y) : Sem Value)) ) : Sem Next).run P w):=by
  obtain ⟨n,d,z,k⟩:=Yj ht;have j:=K9 h hx;have g:=K9 h s;generalize a.eval x = vx at j ⊢;generalize a.eval y = vy at g ⊢
  cases j with | d j=>cases j with | @agg _ X hl1 hr1=>
  cases g with | d g=>cases g with | @agg _ Y hl2 hr2=>
  obtain ⟨f,l⟩:=k.eqs ks u;have o : P.eqGuardType P.depth t = false:=qed 8 t ks f _ (by unfold Program.depth Made.depth;omega);have c:=(qad (w:=w) (Z:=Z) 8 t d ks k.und f Op.maxDepth (by unfold Op.maxDepth;omega) p q X Y r ⟨hl1,hr1⟩ ⟨hl2,hr2⟩ v).1 l;rcases m with ⟨rfl,rfl⟩ | ⟨rfl,rfl⟩
  · exact .quiet h (Ke (x:=.bool r) (by simp [qhe o,binOp,Op.equal,c])) (.d (.bool _))
  · exact .quiet h (Ke (x:=.bool (!r)) (by simp [qhe o,binOp,Op.equal,c])) (.d (.bool _))
theorem qsh {op : BinOp} {t : TypeId} {x y : Operand} {k k' : IntKind} {p q : Int} {b : DV} (h : RelS w Z inj st a Ds) (s : st.ev x = some (.d (.int k p))) (m : st.ev y = some (.d (.int k' q)))
    (c : binD op (.int k p) (.int k' q) = some b) :
    Kf st st (.d b) w Z inj ((do pure (Next.value (← (do eqGuard op t x y (a.eval x) (a.eval y);binOp op t (a.eval x) (a.eval y) : Sem Value)) ) : Sem Next).run P w):=by
  have l:=K9 h s;have j:=K9 h m;generalize a.eval x = vx at l ⊢;generalize a.eval y = vy at j ⊢
  cases l with | d l=>
  cases l
  cases j with | d j=>
  cases j;have o:=q18 (P:=P) (w:=w) (op:=op) (t:=t) (x:=x) (y:=y) (u:=.int k p) (v:=.int k' q) qc qc
  have key : ∃ v,(∀ t,(binOp op t (.int k p) (.int k' q)).run P w = .ok v w)∧RelD w Z b v:=by
    unfold binD at c;split at c
    · rename_i g f;cases g;cases f;exact ql3 c
    · rename_i g f;cases g;cases f;exact ql3 c
    · rename_i n1 n2 g f;cases g;cases f;split at c <;> try simp at c
      rename_i n;subst n;exact qnn c ⟨fun e=>n1 e,fun e=>n2 e⟩
    · simp at c
  obtain ⟨v,r,z⟩:=key;exact .quiet h (Ke (x:=v) (by simp [o,r])) (.d z)
theorem maxD : Op.maxDepth = 9999 + 1:=rfl
theorem qpi {t : TypeId} (h : P.underlying t = some .bool) (p q : Bool) : (Op.equal t (.bool p) (.bool q)).run P w = .ok (p == q) w:=by
  rw [Op.equal,maxD,Op.equalIn];simp only [Sem.run_bind,run_underlying h,Result.andThen_ok];rfl
theorem qhi {t e : TypeId} (h : P.underlying t = some (.slice e)) (a : Option Addr) (n c : Nat) : (Op.equal t (.slice none 0 0) (.slice a n c)).run P w = .ok a.isNone w:=by
  rw [Op.equal,maxD,Op.equalIn];simp only [Sem.run_bind,run_underlying h,Result.andThen_ok];rfl
theorem qpm {t e : TypeId} (h : P.underlying t = some (.slice e)) (a : Addr) (n c : Nat) : (Op.equal t (.slice (some a) n c) (.slice none 0 0)).run P w = .ok false w:=by
  rw [Op.equal,maxD,Op.equalIn];simp only [Sem.run_bind,run_underlying h,Result.andThen_ok];rfl
theorem qpj {t : TypeId} {x y z} (h : P.underlying t = some (.func x y z)) : (Op.equal t .nilFunc .nilFunc).run P w = .ok true w:=by
  rw [Op.equal,maxD,Op.equalIn];simp only [Sem.run_bind,run_underlying h,Result.andThen_ok];rfl
theorem qpk {t : TypeId} {x y z} (h : P.underlying t = some (.func x y z)) (f g c) : (Op.equal t .nilFunc (.func f g c)).run P w = .ok false w:=by
  rw [Op.equal,maxD,Op.equalIn];simp only [Sem.run_bind,run_underlying h,Result.andThen_ok];rfl
theorem qpl {t : TypeId} {x y z} (h : P.underlying t = some (.func x y z)) (f g c) : (Op.equal t (.func f g c) .nilFunc).run P w = .ok false w:=by
  rw [Op.equal,maxD,Op.equalIn];simp only [Sem.run_bind,run_underlying h,Result.andThen_ok];rfl
theorem q3d {t : TypeId} {u v : Value} {r : Bool} (d : (Op.equal t u v).run P w = .ok r w) (c : ∀ k n,u≠.int k n) (a : ∀ k n,u≠.float k n) (f : ∀ k n m,u≠.complex k n m) (b : ∀ s,u≠.string s) :
    (binOp .eql t u v).run P w = .ok (.bool r) w∧(binOp .neq t u v).run P w = .ok (.bool (!r)) w:=by
  cases u <;> first | (exfalso;exact c _ _ rfl) | (exfalso;exact a _ _ rfl) | (exfalso;exact f _ _ _ rfl) | (exfalso;exact b _ rfl) | (constructor <;> (simp only [binOp];simp [d]))
theorem qsg {op : BinOp} {t : TypeId} {i : TI} {x y : Operand} {p q : DV} {b : DV} (h : RelS w Z inj st a Ds) (ht : tiOf P t = some i) (hx : st.ev x = some (.d p)) (hy : st.ev y = some (.d q))
    (n : binE op i.kind p q = some b) :
    Kf st st (.d b) w Z inj ((do pure (Next.value (← (do eqGuard op t x y (a.eval x) (a.eval y);binOp op t (a.eval x) (a.eval y) : Sem Value)) ) : Sem Next).run P w):=by
  obtain ⟨ab,d,z,k⟩:=Yj ht;have l:=K9 h hx;have j:=K9 h hy;generalize a.eval x = vx at l ⊢;generalize a.eval y = vy at j ⊢
  cases l with | d l=>
  cases j with | d j=>
  have key : ∀ r,eqK i.kind p q = some r→(eqGuard op t x y vx vy).run P w = .ok () w∧(binOp .eql t vx vy).run P w = .ok (.bool r) w∧(binOp .neq t vx vy).run P w = .ok (.bool (!r)) w:=by
    intro r c;have m:=k.kind;unfold Za at m;unfold eqK at c;split at c <;> simp at c <;> (rename_i o;simp only [o] at m)
    · subst c;obtain ⟨rfl,_⟩:=m;cases l;cases j;exact ⟨q18 qc qc,q3d (qpi k.und _ _) qc qc qc qc⟩
    · subst c;cases l;cases j;exact ⟨q18 qc qc,by simp only [binOp,Op.stringOp];rfl,by simp only [binOp,Op.stringOp];rfl⟩
    · subst c;obtain ⟨e,ie,v,ze,rfl,_⟩:=m;cases l;cases j;exact ⟨q18 qc qc,q3d (qhi k.und _ _ _) qc qc qc qc⟩
    · subst c;obtain ⟨e,ie,v,ze,rfl,_⟩:=m;cases l;cases j;exact ⟨q18 qc qc,q3d (qhi k.und _ _ _) qc qc qc qc⟩
    · subst c;obtain ⟨e,ie,v,ze,rfl,_⟩:=m;cases l;cases j;exact ⟨q18 qc qc,q3d (qpm k.und _ _ _) qc qc qc qc⟩
    · subst c;obtain ⟨⟨e,f,g,rfl⟩,_⟩:=m;cases l;cases j;exact ⟨q18 qc qc,q3d (qpj k.und) qc qc qc qc⟩
    · subst c;obtain ⟨⟨e,f,g,rfl⟩,_⟩:=m;cases l;cases j;exact ⟨q18 qc qc,q3d (qpk k.und _ _ _) qc qc qc qc⟩
    · subst c;obtain ⟨⟨e,f,g,rfl⟩,_⟩:=m;cases l;cases j;exact ⟨q18 qc qc,q3d (qpl k.und _ _ _) qc qc qc qc⟩
  unfold binE at n;split at n
  · cases c : eqK i.kind p q with
    | none=>simp [c] at n
    | some r=>
      simp [c] at n;subst n;obtain ⟨u,s,_⟩:=key r c;exact .quiet h (Ke (x:=.bool r) (by simp [u,s])) (.d (.bool _))
  · cases c : eqK i.kind p q with
    | none=>simp [c] at n
    | some r=>
      simp [c] at n;subst n;obtain ⟨u,_,s⟩:=key r c;exact .quiet h (Ke (x:=.bool (!r)) (by simp [u,s])) (.d (.bool _))
  · simp at n
end
end Go.Am
namespace Go.Am
open Go
variable {P : Program} {T : Tab}
section
variable {w : World} {Z : Nat→Prop} {inj : Inj} {st : AS} {a : Act} {Ds : List Nat}
theorem qt3 {op : UnOp} {x : Operand} {p b : DV} (h : RelS w Z inj st a Ds) (g : st.ev x = some (.d p)) (c : unD op p = some b) :
    Kf st st (.d b) w Z inj ((do pure (Next.value (← Op.unary op (a.eval x))) : Sem Next).run P w):=by
  have f:=K9 h g;generalize a.eval x = vx at f ⊢
  cases f with | d f=>
  unfold unD at c;split at c
  · simp at c;subst c;cases f;exact .quiet h (Ke (by simp [Op.unary,Op.intArith])) (.d (.int _ _))
  · simp at c;subst c;cases f;exact .quiet h (Ke (by simp [Op.unary])) (.d (.bool _))
  · cases f;simp only [binI,Option.some.injEq] at c;subst c;exact .quiet h (Ke (by simp [Op.unary,Op.intBits])) (.d (.int _ _))
  · simp at c
theorem qsm {src dst : TypeId} {i j : TI} {x : Operand} {k0 t k : IntKind} {n : Int} (h : RelS w Z inj st a Ds) (hi : tiOf P src = some i) (s : tiOf P dst = some j) (c : i.kind = .int k0) (m : j.kind = .int k) (r : st.ev x = some (.d (.int t n))) :
    Kf st st (.d (.int k (k.wrap n))) w Z inj ((do pure (Next.value (← convert src dst (a.eval x))) : Sem Next).run P w):=by
  obtain ⟨o,d,z,p⟩:=Yj hi;obtain ⟨l,v,u,q⟩:=Yj s;have g:=p.kind;have f:=q.kind;unfold Za at g f;simp only [c,m] at g f;obtain ⟨rfl,_⟩:=g;obtain ⟨rfl,_⟩:=f;have b:=K9 h r;generalize a.eval x = vx at b ⊢
  cases b with | d b=>
  cases b;refine .quiet h (Ke (x:=.int k (k.wrap n)) ?_) (.d (.int _ _));simp only [convert,Sem.run_bind,run_underlying p.und,run_underlying q.und,Result.andThen_ok];simp [Conv.intToInt]
theorem qsx {f : FuncId} {first b : Array Operand} {j : List V} (h : RelS w Z inj st a Ds) (k : first.size = 0) (m : evL st.ev b.toList = some j) :
    Kf st st (match allD j with | some ds=>.d (.fn f ds) | none=>.fn f j) w Z inj ((do pure (Next.value (← Instr.makeFunc (.func f) (first.map a.eval) (b.map a.eval))) : Sem Next).run P w):=by
  have g:=q3h h m;have o : first.map a.eval = #[]:=by apply Array.eq_empty_of_size_eq_zero;simpa using k
  have l : (b.toList.map a.eval).toArray = b.map a.eval:=by apply Array.ext';simp
  rw [l] at g;refine .quiet h (Ke (x:=.func (.func f) #[] (b.map a.eval)) (by simp [Instr.makeFunc,o])) ?_;split
  · rename_i ds hd;have:=q3c hd;subst this;refine .d (.fn (by simpa using g.1) fun i d c hd n=>?_);have:=g.2 i (.d d) c (by simp [hd]) n
    cases this with | d h=>exact h
  · exact .fn g.1 g.2
theorem qsw {f : FuncId} {first b : Array Operand} {j : List V} {ds : List DV} (h : RelS w Z inj st a Ds) (k : b.size = 0) (o : evL st.ev first.toList = some j) (hd : allD j = some ds) :
    Kf st st (.d (.bfn f ds)) w Z inj ((do pure (Next.value (← Instr.makeFunc (.func f) (first.map a.eval) (b.map a.eval))) : Sem Next).run P w):=by
  have g:=q3h h o;have n : b.map a.eval = #[]:=by apply Array.eq_empty_of_size_eq_zero;simpa using k
  have m : (first.toList.map a.eval).toArray = first.map a.eval:=by apply Array.ext';simp
  rw [m] at g;refine .quiet h (Ke (x:=.func (.func f) (first.map a.eval) #[]) (by simp [Instr.makeFunc,n])) ?_;have:=q3c hd;subst this;refine .d (.bfn (by simpa using g.1) fun i d c hd l=>?_);have:=g.2 i (.d d) c (by simp [hd]) l
  cases this with | d h=>exact h
theorem qjt {x : Operand} {k : Nat} {v : V} (h : RelS w Z inj st a Ds) (j : (∃ f d,st.ev x = some (.d (.tup f))∧f[k]? = some d∧v = .d d)∨∃ f,st.ev x = some (.tup f)∧f[k]? = some v) :
    Kf st st v w Z inj ((do pure (Next.value (← Instr.extract (a.eval x) k)) : Sem Next).run P w):=by
  rcases j with ⟨f,d,j,l,rfl⟩ | ⟨f,j,l⟩
  · have b:=K9 h j;generalize a.eval x = vx at b ⊢
    cases b with | d b=>
    cases b with | @tup _ cs hl hr=>
    obtain ⟨c,g⟩:=Y4 (xs:=cs) (i:=k) (by have:=Kc l;omega);exact .quiet h (Ke (x:=c) (by simp [Instr.extract,g])) (.d (hr _ _ _ l g))
  · have b:=K9 h j;generalize a.eval x = vx at b ⊢
    cases b with | @tup _ cs hl hr=>
    obtain ⟨c,g⟩:=Y4 (xs:=cs) (i:=k) (by have:=Kc l;omega);exact .quiet h (Ke (x:=c) (by simp [Instr.extract,g])) (hr _ _ _ l g)
theorem qfw {nx : Nat} {v : V} {x : Value} {cs : List V} (h : RelV w Z inj nx v x) (a : agD v = some cs) : ∃ xs,x = .agg xs∧LRel w Z inj nx cs xs:=by
  unfold agD at a;split at a <;> simp at a
  · subst a
    cases h with | d h=>
    cases h with | @agg _ X hl hr=>
    refine ⟨X,rfl,by simpa using hl,fun i d c hd g=>?_⟩;simp only [List.getElem?_map,Kv] at hd;obtain ⟨f,b,rfl⟩:=hd;exact .d (hr i f c b g)
  · subst a
    cases h with | @agg _ X hl hr=>exact ⟨X,rfl,hl,hr⟩
theorem qsp {s : TypeId} {i : TI} {x : Operand} {j v : V} {f off size : Nat} {ag : Bool} {cs r : List V} (h : RelS w Z inj st a Ds) (hi : tiOf P s = some i) (m : st.ev x = some j) (hk : i.kind = .struct) (hf : i.flds[f]? = some (off,size,ag))
    (u : agD j = some cs) (hs : sub cs off size = some r) (hp : pack ag r = some v) :
    Kf st st v w Z inj ((do pure (Next.value (← Instr.field s (a.eval x) f)) : Sem Next).run P w):=by
  obtain ⟨g,d,z,k⟩:=Yj hi;have b:=k.kind;unfold Za at b;simp only [hk] at b;obtain ⟨fs,rfl,c⟩:=b;obtain ⟨fd,jf,df,p,g2,g3,n,g5,g6,t⟩:=qd9 c hf;obtain ⟨xs,l,o⟩:=qfw (K9 h m) u;subst n g6 t;obtain ⟨y,q,hr⟩:=qk1 (P:=P) g2 g3 o hs hp;refine .quiet h (Ke (x:=y) ?_) hr;simp only [Instr.field,Sem.run_bind,run_underlying k.und,Result.andThen_ok,p,l,asAgg,Sem.run_pure,q]
theorem qsr {t : TypeId} {i : TI} {x g : Operand} {o v : V} {k0 : IntKind} {n : Int} {cs r : List V} (h : RelS w Z inj st a Ds) (hi : tiOf P t = some i) (u : st.ev x = some o) (q : st.ev g = some (.d (.int k0 n))) (hk : i.kind = .array)
    (ha : agD o = some cs) (h0 : 0≤n∧n < i.len) (hs : sub cs (n.toNat * i.esize) i.esize = some r) (hp : pack i.eagg r = some v) :
    Kf st st v w Z inj ((do pure (Next.value (← Instr.index t (a.eval x) (a.eval g))) : Sem Next).run P w):=by
  obtain ⟨m,d,z,k⟩:=Yj hi;have b:=k.kind;unfold Za at b;simp only [hk] at b;obtain ⟨e,ie,de,rfl,j,g2,f,g4,p⟩:=b;obtain ⟨xs,s,hl⟩:=qfw (K9 h u) ha;have c:=K9 h q;generalize a.eval g = vx at c ⊢
  cases c with | d c=>
  cases c;rw [← f] at hs;rw [← p] at hp;obtain ⟨y,l,hr⟩:=qk1 (P:=P) j g2 hl hs hp;refine .quiet h (Ke (x:=y) ?_) hr;simp only [Instr.index,asIntOf,Sem.run_bind,Sem.run_pure,run_underlying k.und,Result.andThen_ok,s];rw [Sem.run_ite,ql h0];simp only [Sem.run_bind,Z9 j,Result.andThen_ok,f];rw [f] at l;exact l
theorem qst {t : TypeId} {i : TI} {x j : Operand} {k0 : IntKind} {n : Int} {s : ByteArray} {b : UInt8} (h : RelS w Z inj st a Ds) (hi : tiOf P t = some i) (p : st.ev x = some (.d (.str s))) (m : st.ev j = some (.d (.int k0 n))) (o : i.kind = .str)
    (hb : (if 0≤n then s[n.toNat]? else none) = some b) :
    Kf st st (.d (.int .u8 b.toNat)) w Z inj ((do pure (Next.value (← Instr.index t (a.eval x) (a.eval j))) : Sem Next).run P w):=by
  obtain ⟨l,d,z,k⟩:=Yj hi;have c:=k.kind;unfold Za at c;simp only [o] at c;obtain ⟨rfl,_⟩:=c;have f:=K9 h p;have g:=K9 h m;generalize a.eval x = vy at f ⊢;generalize a.eval j = vx at g ⊢
  cases f with | d f=>
  cases f
  cases g with | d g=>
  cases g;refine .quiet h (Ke (x:=.int .u8 b.toNat) ?_) (.d (.int _ _));simp only [Instr.index,asIntOf,Sem.run_bind,Sem.run_pure,run_underlying k.und,Result.andThen_ok,hb]
theorem qsq {s : TypeId} {i : TI} {p : Operand} {pv v : V} {f off size : Nat} {ag : Bool} (h : RelS w Z inj st a Ds) (hi : tiOf P s = some i) (y : st.ev p = some pv) (u : i.kind = .struct) (hf : i.flds[f]? = some (off,size,ag))
    (hp : qd5 off pv = some v) :
    Kf st st v w Z inj ((do pure (Next.value (← Instr.fieldAt s (a.eval p) f)) : Sem Next).run P w):=by
  obtain ⟨q,d,z,k⟩:=Yj hi;have l:=k.kind;unfold Za at l;simp only [u] at l;obtain ⟨fs,rfl,m⟩:=l;obtain ⟨fd,jf,df,g1,g2,g3,g4,r,t,g7⟩:=qd9 m hf;have g:=K9 h y;generalize a.eval p = vx at g ⊢
  have c : ∀ b o,(Instr.fieldAt s (.pointer (some ⟨b,o,none⟩)) f).run P w = .ok (.pointer (some ⟨b,o + off,none⟩)) w:=by
    intro b o;simp only [Instr.fieldAt,Instr.sureAddr,fieldPlace,Sem.run_bind,run_underlying k.und,Result.andThen_ok,g1,Sem.run_pure,Z9 g2,Sem.run_ite,g4,qn r,Jt,t]
  cases pv <;> simp only [qd5,reduceCtorEq,Option.some.injEq] at hp
  case ref n es ii j=>
    subst hp
    cases g with | @ref _ _ _ _ b o h1 h2=>
    refine .quiet h (Ke (c _ _)) ?_;have:=RelV.ref (w:=w) (Z:=Z) (nx:=st.nx) (es:=es) (i:=ii) (j:=j + off) h1 h2
    rwa [show o + (ii * es + (j + off)) = o + (ii * es + j) + off by omega] at this
  case dref cs j=>
    subst hp
    cases g with | @dref _ _ b o h1 h2 g=>
    refine .quiet h (Ke (c _ _)) ?_;have:=RelV.dref (inj:=inj) (nx:=st.nx) (j:=j + off) h1 h2 g
    rwa [← Nat.add_assoc] at this
  case d x=>
    cases x <;> simp only [reduceCtorEq,Option.some.injEq] at hp
    subst hp
    cases g with | d g=>
    cases g with | box h1 h2 g=>
    exact .quiet h (Ke (c _ _)) (RelV.dref (inj:=inj) (nx:=st.nx) (j:=off) h1 h2 g)
theorem qss {t : TypeId} {i : TI} {x ix : Operand} {xv v : V} {k0 : IntKind} {n : Int} (h : RelS w Z inj st a Ds) (hi : tiOf P t = some i) (hx : st.ev x = some xv) (hn : st.ev ix = some (.d (.int k0 n)))
    (hp : q3m i xv n = some v) :
    Kf st st v w Z inj ((do pure (Next.value (← Instr.indexAt t (a.eval x) (a.eval ix))) : Sem Next).run P w):=by
  obtain ⟨ai,d,z,k⟩:=Yj hi;have q:=k.kind;unfold Za at q;have u:=K9 h hn;generalize a.eval ix = vx at u ⊢
  cases u with | d u=>
  cases u;have l:=K9 h hx;generalize a.eval x = vx at l ⊢
  have r : i.kind = .slice→∀ b o len cap,0≤n→n < (len : Nat)→(Instr.indexAt t (.slice (some ⟨b,o,none⟩) len cap) (.int k0 n)).run P w = .ok (.pointer (some ⟨b,o + n.toNat * i.esize,none⟩)) w:=by
    intro s b o len cap f p;simp only [s] at q;obtain ⟨e,ie,de,ze,rfl,g1,g2,g3,g4,g5,g6,_⟩:=q;simp only [Instr.indexAt,asIntOf,Sem.run_bind,Sem.run_pure,run_underlying k.und,Result.andThen_ok];rw [Sem.run_ite,ql ⟨f,p⟩];simp only [Sem.run_bind,Z9 g1,Result.andThen_ok,Sem.run_pure,Jt,g6]
  have g : i.kind = .array→∀ b o,0≤n→n < i.len→(Instr.indexAt t (.pointer (some ⟨b,o,none⟩)) (.int k0 n)).run P w = .ok (.pointer (some ⟨b,o + n.toNat * i.esize,none⟩)) w:=by
    intro s b o f p;simp only [s] at q;obtain ⟨e,ie,de,rfl,g1,g2,g3,g4,_⟩:=q;simp only [Instr.indexAt,asIntOf,Instr.sureAddr,Sem.run_bind,Sem.run_pure,run_underlying k.und,Result.andThen_ok];rw [Sem.run_ite,ql ⟨f,p⟩];simp only [Sem.run_bind,Z9 g1,Result.andThen_ok,Sem.run_pure,Jt,g3]
  cases s : i.kind <;> simp only [q3m,s,reduceCtorEq] at hp
  case slice=>
    cases xv <;> (try simp only [reduceCtorEq] at hp)
    case d x=>
      cases x <;> (try simp only [reduceCtorEq] at hp)
      rename_i es xs;split at hp <;> simp at hp
      rename_i f;obtain ⟨f,he⟩:=f;obtain ⟨cs,y,rfl⟩:=hp;have aa:=Kc y
      cases l with | d l=>
      cases l with
      | slnil=>simp at aa
      | slemp=>simp at aa
      | @sl _ _ b o cap p h2 h4 h5 h6=>
        refine .quiet h (Ke (r s _ _ _ _ f q0)) ?_
        have:=RelV.dref (w:=w) (Z:=Z) (inj:=inj) (nx:=st.nx) (cs:=cs) (j:=0) (b:=b) (o:=o + n.toNat * i.esize) (h2 (by rintro rfl;simp at aa))
          (fun k d hd=>by have:=(h5 n.toNat cs k d y hd).2;rwa [he,← Nat.add_assoc] at this)
          (fun k d c hd hc=>h6 n.toNat cs k d c y hd (by rwa [he,← Nat.add_assoc]))
        simpa using this
    case hs m es off len=>
      split at hp <;> simp at hp
      rename_i f;obtain ⟨f,p,he⟩:=f;subst hp
      cases l with
      | hsnil=>omega
      | @hs _ _ _ _ cap ad hn hle _ hcap=>
        obtain ⟨b,o,hi,rfl,_⟩:=hcap q0;refine .quiet h (Ke (r s _ _ _ _ f q0)) ?_;have:=RelV.ref (w:=w) (Z:=Z) (nx:=st.nx) (es:=es) (i:=off + n.toNat) (j:=0) hn hi;rw [show o + off * es + n.toNat * i.esize = o + ((off + n.toNat) * es + 0) by rw [← he,Nat.add_mul];omega];exact this
  case array=>
    cases xv <;> (try simp only [reduceCtorEq] at hp)
    case ref m es e j=>
      split at hp <;> simp at hp
      rename_i f;subst hp
      cases l with | @ref _ _ _ _ b o p h2=>
      refine .quiet h (Ke (g s _ _ f.1 f.2)) ?_;have:=RelV.ref (w:=w) (Z:=Z) (nx:=st.nx) (es:=es) (i:=e) (j:=j + n.toNat * i.esize) p h2
      rwa [← Nat.add_assoc,← Nat.add_assoc,Nat.add_assoc o] at this
    case dref cs j=>
      split at hp <;> simp at hp
      rename_i f;subst hp
      cases l with | @dref _ _ b o p h2 l=>
      refine .quiet h (Ke (g s _ _ f.1 f.2)) ?_;have:=RelV.dref (inj:=inj) (nx:=st.nx) (j:=j + n.toNat * i.esize) p h2 l
      rwa [← Nat.add_assoc] at this
    case d x=>
      cases x <;> (try simp only [reduceCtorEq] at hp)
      split at hp <;> simp at hp
      rename_i f;subst hp
      cases l with | d l=>
      cases l with | box p h2 l=>
      exact .quiet h (Ke (g s _ _ f.1 f.2)) (RelV.dref (inj:=inj) (nx:=st.nx) (j:=n.toNat * i.esize) p h2 l)
end
end Go.Am
namespace Go.Am
open Go
variable {P : Program} {T : Tab}
theorem qfm {n : Int} (h : -9223372036854775808≤n∧n≤9223372036854775807) : IntKind.i64.wrap n = n:=by rw [IntKind.wrap_i64];omega
theorem qge {es i a j : Nat} (b : j < es) : (i * es≤a * es + j∧a * es + j < i * es + es)↔a = i:=by
  constructor
  · intro ⟨c,d⟩;rcases Nat.lt_trichotomy a i with h | h | h
    · have:=Nat.mul_le_mul_right es (show a + 1≤i from h);rw [Nat.add_mul] at this;omega
    · exact h
    · have:=Nat.mul_le_mul_right es (show i + 1≤a from h);rw [Nat.add_mul] at this;omega
  grind
theorem q3f {es n i j : Nat} (hi : i < n) (a : j < es) : i * es + j < n * es:=by
  have:=Nat.mul_le_mul_right es (show i + 1≤n from hi);rw [Nat.add_mul] at this;omega
section
variable {w : World} {Z : Nat→Prop} {inj : Inj} {st : AS} {a : Act} {Ds : List Nat}
theorem qgc {b y : Nat} {o : Option Operand} {n : Nat} {code : BoundsCode} (h : RelS w Z inj st a Ds) (hb : bound st b o = some n) (j : n≤y) :
    (∀ op,o = some op→(Instr.sliceBound (a.eval op) y code).run P w = .ok n w)∧(o = none→n = b):=by
  cases o with
  | none=>simp [bound] at hb;exact ⟨qc,fun _=>hb.symm⟩
  | some op=>
    refine ⟨fun g e=>?_,qc⟩;cases e;simp only [bound] at hb;split at hb <;> try simp at hb
    rename_i k m f;have c:=K9 h f;generalize a.eval op = vx at c ⊢
    cases c with | d c=>
    cases c;obtain ⟨l,rfl⟩:=hb;simp only [Instr.sliceBound,asIntOf,Sem.run_bind,Sem.run_pure,Result.andThen_ok];simp_all
theorem qt1 {t : TypeId} {i : TI} {x : Operand} {xv v : V} {lo hi : Option Operand} {n p q : Nat} (h : RelS w Z inj st a Ds) (ht : tiOf P t = some i) (hk : i.kind = .slice) (f : st.ev x = some xv) (g : lenV xv = some n)
    (al : bound st 0 lo = some p) (ai : bound st n hi = some q) (hs : q8d i.esize xv p q = some v) :
    Kf st st v w Z inj ((do pure (Next.value (← Instr.sliceAt t (a.eval x) (lo.map a.eval) (hi.map a.eval) none)) : Sem Next).run P w):=by
  obtain ⟨ap,d,z,k⟩:=Yj ht;have ab:=k.kind;unfold Za at ab;simp only [hk] at ab;obtain ⟨e,ie,de,ze,rfl,g1,g2,g3,g4,g5,g6,g7,_⟩:=ab;have h3:=K9 h f;generalize a.eval x = vx at h3 ⊢
  have run : ∀ ad len cap,len = n→q≤cap→p≤q→(Instr.sliceAt t (.slice ad len cap) (lo.map a.eval) (hi.map a.eval) none).run P w = .ok (.slice (if cap = p then ad else ad.map (·.add (p * i.esize))) (q - p) (cap - p)) w:=by
    intro ad len cap hl hq hp;obtain ⟨l1,l2⟩:=qgc (P:=P) (y:=q) (code:=.sliceB) h al hp;obtain ⟨r1,r2⟩:=qgc (P:=P) (y:=cap) (code:=.sliceAcap) h ai hq;simp only [Instr.sliceAt,Sem.run_bind,run_underlying k.und,Result.andThen_ok,Instr.slice,Instr.sliceBounds,Z9 g1,g6]
    cases hi with
    | none=>
      have:=r2 rfl;subst this
      cases lo with
      | none=>have:=l2 rfl;subst this;simp [hl]
      | some o=>simp [hl,l1 o rfl]
    | some o'=>
      cases lo with
      | none=>have:=l2 rfl;subst this;simp [r1 o' rfl]
      | some o=>simp [r1 o' rfl,l1 o rfl]
  cases xv <;> simp only [q8d,reduceCtorEq] at hs
  case d x=>
    cases x <;> simp only [reduceCtorEq] at hs
    case nilsl=>
      split at hs <;> simp at hs
      rename_i u;obtain ⟨rfl,rfl⟩:=u;subst hs;simp [lenV] at g
      cases h3 with | d h3=>
      cases h3;exact .quiet h (Ke (run _ _ _ g q0 q0)) (by simpa using RelV.d .nilsl)
    case sl es xs=>
      split at hs <;> simp at hs
      rename_i u;obtain ⟨u,h1,he⟩:=u;subst hs;simp [lenV] at g
      cases h3 with | d h3=>
      cases h3 with
      | slnil=>
        simp at h1 g;obtain ⟨rfl,rfl⟩ : q = 0∧p = 0:=by omega
        exact .quiet h (Ke (run _ _ _ g q0 q0)) (by simpa using RelV.d (.slnil _))
      | slemp=>
        simp at h1 g;obtain ⟨rfl,rfl⟩ : q = 0∧p = 0:=by omega
        exact .quiet h (Ke (run _ _ _ g q0 q0)) (by simpa using RelV.d (.slemp _ _))
      | @sl _ _ b o cap hc hz hl hcell hrel=>
        refine .quiet h (Ke (run _ _ _ g q0 u)) ?_;have l : ((xs.drop p).take (q - p)).length = q - p:=by simp;omega
        have s : ∀ (i : Nat) (x : List DV),((xs.drop p).take (q - p))[i]? = some x→xs[p + i]? = some x:=by
          intro i x f;rw [List.getElem?_take] at f;split at f
          · rwa [List.getElem?_drop] at f
          · simp at f
        by_cases r : cap = p
        · rw [ql r];have h9 : (xs.drop p).take (q - p) = []:=List.eq_nil_of_length_eq_zero (by rw [l];omega);have h8 : q - p = 0:=by omega
          rw [h9,h8];exact .d (RelD.sl (es:=es) (xs:=[]) qc qc qc qc qc)
        · rw [qn r,Option.map_some,Jt]
          have e2 : ∀ k j,o + p * i.esize + (k * es + j) = o + ((p + k) * es + j):=by
            intro k j;rw [← he,Nat.add_mul];omega
          have:=RelD.sl (w:=w) (Z:=Z) (es:=es) (xs:=(xs.drop p).take (q - p)) (b:=b) (o:=o + p * i.esize) (cap:=cap - p) (by rw [l];omega) (fun ac=>hz (by rintro rfl;simp at ac)) (fun i x f=>hl _ _ (s i x f))
            (fun k x j d f hd=>by rw [e2];exact hcell _ _ j d (s k x f) hd)
            (fun k x j d c f hd hc=>hrel _ _ j d c (s k x f) hd (by rw [e2] at hc;exact hc))
          rw [l] at this;exact .d this
  case hs m es off len=>
    split at hs <;> simp at hs
    rename_i u;obtain ⟨u,h1,he⟩:=u;subst hs;simp [lenV] at g
    cases h3 with
    | hsnil hm=>
      obtain ⟨rfl,rfl⟩ : q = 0∧p = 0:=by omega
      exact .quiet h (Ke (run _ _ _ g q0 q0)) (by simpa using RelV.hsnil (es:=es) (off:=off) hm)
    | @hs _ _ _ _ cap ad hm hc hsp hcap=>
      refine .quiet h (Ke (run _ _ _ g q0 u)) ?_;by_cases r : cap = p
      · rw [ql r];exact .hs hm q0 hsp (fun ac=>q0)
      · rw [qn r,Option.map_some];obtain ⟨b,o,hi,rfl,ar⟩:=hcap q0;rw [Jt];refine .hs hm q0 rfl fun _=>⟨b,o,hi,?_,?_⟩
        · rw [he,Nat.add_mul,← Nat.add_assoc]
        · rwa [show off + p + (cap - p) = off + cap by omega]
theorem qfp {b : Value} {es n i j : Nat} {ds : List DV} (m : b.cells.toList.mapM Zl = some ds) (p : ds.length = es) (hi : i < n) {d : DV} (hd : ds[j]? = some d) :
    ∃ c,((Array.range (n * es)).map (b.cells[· % b.cells.size]!))[i * es + j]? = some c∧RelD w Z d c∧Ya d = true:=by
  obtain ⟨k,h⟩:=q7h (w:=w) (Z:=Z) m;obtain ⟨c,l,o,a,_⟩:=h j d hd;have g : j < es:=by have:=Kc hd;omega
  refine ⟨c,?_,o,a⟩;have f:=q3f hi g;rw [Array.getElem?_map,Array.getElem?_range];simp only [f,if_true,Option.map_some];have : (i * es + j) % b.cells.size = j:=by rw [← k,p,Nat.mul_comm,Nat.mul_add_mod,Nat.mod_eq_of_lt g]
  grind
theorem qsz {t : TypeId} {i : TI} {l c : Operand} {y k2 : IntKind} {n m : Int} (h : RelS w Z inj st a Ds) (ht : tiOf P t = some i) (hk : i.kind = .slice) (hl : st.ev l = some (.d (.int y n))) (u : st.ev c = some (.d (.int k2 m)))
    (h0 : 0≤n) (h1 : n≤m) (q : m * (i.ebytes * 4)≤room) :
    Kf st (st.new (.dat i.esize (List.replicate n.toNat i.ezero))) (.hs st.nx i.esize 0 n.toNat) w Z inj ((do pure (Next.value (← Instr.makeSlice t (a.eval l) (a.eval c))) : Sem Next).run P w):=by
  obtain ⟨ac,d,z,k⟩:=Yj ht;have g:=k.kind;unfold Za at g;simp only [hk] at g;obtain ⟨e,ie,de,v,rfl,g1,g2,g3,g4,g5,g6,g7,g8,g9,_⟩:=g;have r:=K9 h hl;have p:=K9 h u;generalize a.eval l = vl at r ⊢;generalize a.eval c = vc at p ⊢
  cases r with | d r=>
  cases r
  cases p with | d p=>
  cases p
  have hm : m≤4294967296:=by
    have e1 : (1 : Int)≤(i.ebytes : Int) * 4:=by omega
    have:=Int.mul_le_mul_of_nonneg_left e1 (show (0:Int)≤m by omega);unfold room at q;omega
  have hb : (i.ebytes : Int) * m≤281474976710656:=by
    unfold room at q;grind
  have w1 : IntKind.i64.wrap n = n:=qfm q0;have w2 : IntKind.i64.wrap m = m:=qfm q0;obtain ⟨N,rfl⟩:=Int.eq_ofNat_of_zero_le h0;obtain ⟨M,rfl⟩:=Int.eq_ofNat_of_zero_le (show 0≤m by omega);simp only [Int.toNat_natCast];have b:=run_make (P:=P) w t e ie v k.und g1 g3 y k2 (N : Int) (M : Int) h0 h1 (by rw [g8];exact hb) q0;simp only [Int.toNat_natCast,g6] at b;have s : N≤M:=by omega
  refine .new h (Ke b) ?_ ?_
  · refine ⟨g7,?_,.inr ⟨w.heap.size,0,_,e,Ku _ _ _,Ju _ _,?_⟩⟩
    · grind
    · intro j x j' d o hd;rw [List.getElem?_replicate] at o;split at o <;> simp at o
      rename_i hj;subst o;obtain ⟨c,u,q,f⟩:=qfp (w:=w.alloc (.cells (madeCells v.cells (M * i.esize)) e)) (Z:=Z) g4 g5 (show j < M by omega) hd;exact ⟨f,c,by rw [Nat.zero_add];exact u,q⟩
  · refine .hs q0 s rfl fun _=>⟨w.heap.size,0,Ku _ _ _,qc,?_⟩
    exact ⟨_,_,_,Ju _ _,by rw [size_madeCells];simp⟩
def ERel (w : World) (Z : Nat→Prop) (inj : Inj) (nx es : Nat) (xs : List (List V)) (C : Array Value) : Prop:=
  C.size = xs.length * es∧(∀ (i : Nat) (x : List V),xs[i]? = some x→x.length = es)∧
    ∀ (i : Nat) (x : List V) (j : Nat) (d : V),xs[i]? = some x→x[j]? = some d→Kh d = true∧∃ c,C[i * es + j]? = some c∧RelV w Z inj nx d c
theorem qhb {es : Nat} : ∀ {f : List (Nat × V)} {l : List (Nat × List V)},elems es f = some l→l.length = f.length∧∀ (k i : Nat) (v : V),f[k]? = some (i,v)→(cellsOf v).length = es∧(cellsOf v).all Kh = true∧l[k]? = some (i,cellsOf v)
  | [],l,h=>by simp [elems] at h;subst h;simp
  | (i,v)::r,l,h=>by
    simp only [elems] at h
    split at h
    · rename_i l' m
      split at h
      · rename_i g
        simp at h;subst h
        obtain ⟨p,o⟩:=qhb m
        refine ⟨by simp [p],fun k n j d=>?_⟩
        cases k with
        | zero=>simp at d;obtain ⟨rfl,rfl⟩:=d;exact ⟨g.1,g.2,qc⟩
        | succ k=>simp at d;obtain ⟨a,b,c⟩:=o k n j d;exact ⟨a,b,by simpa using c⟩
      · simp at h
    · simp at h
theorem ERel.set {w : World} {nx es : Nat} {xs : List (List V)} {C k : Array Value} {ys : List V} {i : Nat} (h : ERel w Z inj nx es xs C) (m : LRel w Z inj nx ys k) (u : ys.length = es) (o : ys.all Kh = true) (hi : i < xs.length) :
    ERel w Z inj nx es (xs.set i ys) (Am.splice C.toList (i * es) k.toList).toArray:=by
  obtain ⟨p,q,s⟩:=h;have b : k.toList.length = es:=by have:=m.1;simp;omega
  have a : i * es + k.toList.length≤C.toList.length:=by
    rw [b,Array.length_toList,p];have:=Nat.mul_le_mul_right es (show i + 1≤xs.length from hi);rw [Nat.add_mul] at this;omega
  refine ⟨by simp [q22 _ _ _ a,p],?_,?_⟩
  · grind
  · intro j x l d g hd;rw [List.getElem?_set] at g;by_cases f : i = j
    · subst f;rw [ql rfl,ql hi] at g;simp at g;subst g;have t:=Kc hd;obtain ⟨c,n⟩:=Y4 (xs:=k) (i:=l) (by have:=m.1;omega);refine ⟨List.all_eq_true.1 o _ (List.mem_of_getElem? hd),c,?_,m.2 _ _ _ hd n⟩;rw [List.getElem?_toArray,U4 _ _ _ _ a,ql (by rw [b];omega),show i * es + l - i * es = l by omega];grind
    · rw [qn f] at g;obtain ⟨v,c,y,r⟩:=s j x l d g hd;refine ⟨v,c,?_,r⟩;rw [List.getElem?_toArray,U4 _ _ _ _ a,qn ?_]
      · grind
      · rw [b];intro n;exact f ((qge (by have:=Kc hd;have:=q j x g;omega)).1 n).symm
theorem qho {w : World} {nx es : Nat} : ∀ (f : List (Nat × V)) (xs : List (Nat × Value)) (l : List (Nat × List V)) (cs c : List (List V)) (C : Array Value),
    f.length = xs.length→(∀ (k : Nat) (i : Nat) (v : V),f[k]? = some (i,v)→∃ x,xs[k]? = some (i,x)∧RelV w Z inj nx v x)→
    l.length = f.length→(∀ (k : Nat) (i : Nat) (v : V),f[k]? = some (i,v)→(cellsOf v).length = es∧(cellsOf v).all Kh = true∧l[k]? = some (i,cellsOf v))→
    ERel w Z inj nx es cs C→q3i cs l = some c→∃ n,Instr.fill (fun i=>some (i * es,es)) C xs = some n∧ERel w Z inj nx es c n∧c.length = cs.length
  | [],xs,l,cs,c,C,h1,_,h3,_,h5,h6=>by
    have : xs = []:=by cases xs <;> simp_all
    have : l = []:=by cases l <;> simp_all
    subst_vars
    simp [q3i] at h6;subst h6
    exact ⟨C,by simp [Instr.fill],h5,rfl⟩
  | (i,v)::f,xs,l,cs,c,C,h1,h2,h3,h4,h5,h6=>by
    match xs,l,h1,h3 with
    | (i',x)::xs,(o',ys)::l,h1,h3=>
      obtain ⟨x',h,hr⟩:=h2 0 i v rfl
      simp at h;obtain ⟨rfl,rfl⟩:=h
      obtain ⟨u,s,j⟩:=h4 0 i' v rfl
      simp at j;obtain ⟨rfl,rfl⟩:=j
      obtain ⟨z,y,q3⟩:=qa6 hr s
      simp only [q3i] at h6
      split at h6
      · rename_i d
        obtain ⟨n,p,m,g⟩:=qho f xs l (cs.set o' (cellsOf v)) c (splice C.toList (o' * es) x.cells.toList).toArray (by simpa using h1)
          (fun k i v q=>by obtain ⟨x,o⟩:=h2 (k + 1) i v (by simpa using q);exact ⟨x,by simpa using o⟩) (by simpa using h3)
          (fun k i v q=>by obtain ⟨a,b,o⟩:=h4 (k + 1) i v (by simpa using q);exact ⟨a,b,by simpa using o⟩)
          (h5.set ⟨z,y⟩ u s d) h6
        refine ⟨n,?_,m,by simpa using g⟩
        have t : o' * es + es≤C.size:=by
          rw [h5.1];have:=Nat.mul_le_mul_right es (show o' + 1≤cs.length from d);rw [Nat.add_mul] at this;omega
        have r : x.cells.size = es:=by omega
        simp only [Instr.fill,r]
        have : ¬ ((decide (es≠es) || decide (o' * es + es > C.size)) = true):=by simp;omega
        rw [qn (by simpa using this)]
        rw [qhw x.cells C (o' * es) q0]
        exact p
      · simp at h6
theorem qsk {t : TypeId} {i : TI} {len : Nat} {m : Array (Nat × Operand)} {s : List (Nat × V)} {l : List (Nat × List V)} {xs : List (List V)} (h : RelS w Z inj st a Ds) (ht : tiOf P t = some i) (hv : Ja st.ev m.toList = some s)
    (hl : elems i.esize s = some l) (hk : i.kind = .slice) (ad : len * i.esize≤16777216) (hf : q3i (List.replicate len (i.ezero.map .d)) l = some xs) :
    Kf st (st.new (q58 i.esize xs)) (.hs st.nx i.esize 0 len) w Z inj ((do pure (Next.value (← Instr.buildSlice t len (m.map fun (i,x)=>(i,a.eval x)))) : Sem Next).run P w):=by
  obtain ⟨ae,d,z,k⟩:=Yj ht;have b:=k.kind;unfold Za at b;simp only [hk] at b;obtain ⟨e,ie,de,p,rfl,g1,g2,g3,g4,g5,g6,g7,g8,g9,_⟩:=b;obtain ⟨p1,p2⟩:=qhk h hv;obtain ⟨q1,q2⟩:=qhb hl;have ac : ∀ (k i : Nat) (v : V),s[k]? = some (i,v)→∃ x,(m.toList.map fun (x : Nat × Operand)=>(x.1,a.eval x.2))[k]? = some (i,x)∧RelV w Z inj st.nx v x:=by grind
  have u : ERel w Z inj st.nx i.esize (List.replicate len (i.ezero.map .d)) ((Array.range (len * i.esize)).map (p.cells[· % p.cells.size]!)):=by
    refine ⟨qc,?_,?_⟩
    · grind
    · intro j x j' d g hd;rw [List.getElem?_replicate] at g;split at g <;> simp at g
      rename_i hj;subst g;simp only [List.getElem?_map,Kv] at hd;obtain ⟨d',aa,rfl⟩:=hd;obtain ⟨c,hc,q,f⟩:=qfp (w:=w) (Z:=Z) g4 g5 hj aa;exact ⟨f,c,hc,.d q⟩
  obtain ⟨r,hC,q,o⟩:=qho s (m.toList.map fun (x : Nat × Operand)=>(x.1,a.eval x.2)) l _ xs _ (by simp [p1]) ac q1 q2 u hf;have aw : Instr.fill (fun j=>some (j * i.esize,i.esize)) ((Array.range (len * i.esize)).map (p.cells[· % p.cells.size]!)) (m.map fun (x : Nat × Operand)=>(x.1,a.eval x.2)).toList = some r:=by simpa using hC
  have n : (Instr.buildSlice t len (m.map fun (i,x)=>(i,a.eval x))).run P w = .ok (.slice (some ⟨w.heap.size,0,none⟩) len len) (w.alloc (.cells r e)):=by
    have hn : ¬ (len * i.esize > 2 ^ 24):=by omega
    have ag : (do let x ← newRow e r;pure (Value.slice (some x) len len) : Sem Value).run P w = .ok (.slice (some ⟨w.heap.size,0,none⟩) len len) (w.alloc (.cells r e)):=by simp [newRow]
    by_cases hz : len * i.esize = 0
    · simp only [Instr.buildSlice,Sem.run_bind,run_underlying k.und,Result.andThen_ok,Z9 g1,g6];grind
    · simp only [Instr.buildSlice,Sem.run_bind,run_underlying k.und,Result.andThen_ok,Z9 g1,g6];rw [qn hn,qn hz];have ax : (zeroValue e).run P w = .ok p w:=by simp [zeroValue,typeInfo,g1,g3]
      simp_all
  have y : xs.length = len:=by simpa using o
  refine .new h (Ke n) ?_ ?_
  · refine qkm g7 (Ku _ _ _) (Ju _ _) q.2.1 ?_;intro j x j' d g hd;obtain ⟨h1,c,h2,h3⟩:=q.2.2 j x j' d g hd;exact ⟨h1,c,h2,qkq h _ h3⟩
  · refine .hs q0 (Nat.le_refl _) rfl fun _=>⟨w.heap.size,0,Ku _ _ _,qc,?_⟩
    exact ⟨_,_,_,Ju _ _,by rw [q.1,y];simp⟩
end
end Go.Am
