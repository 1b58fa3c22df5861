/- Am6 Am7 Am8 Am9 Am10 Am11 Am12 -/
import Derived.Test.YtiejlbckgihckaaGreatK1
import Derived.Laws.MakeOwn
namespace Go.Am
open Go
variable {P : Program} {T : Tab}
theorem q84 {α β : Type} {f : α→Option β} : ∀ {l : List α} {r : List β},l.mapM f = some r→r.length = l.length∧∀ (i : Nat) (x : α),l[i]? = some x→∃ y,r[i]? = some y∧f x = some y
  | [],r,h=>by simp at h;subst h;simp
  | a::l,r,h=>by
    rw [List.mapM_cons] at h
    cases d : f a with
    | none=>simp [d] at h
    | some b=>
      cases g : l.mapM f with
      | none=>simp [d,g] at h
      | some s=>
        simp [d,g] at h
        subst h
        obtain ⟨k,m⟩:=q84 g
        refine ⟨by simp [k],?_⟩
        intro i x c
        cases i with
        | zero=>simp at c;subst c;exact ⟨b,qe,d⟩
        | succ i=>simp at c;obtain ⟨y,j⟩:=m i x c;exact ⟨y,by simpa using j⟩
theorem Yk {α β : Type} {l : List α} {r : List β} (a : r.length = l.length) {i : Nat} {y : β} (h : r[i]? = some y) : ∃ x,l[i]? = some x:=
  Zp (by have:=Kh h;omega)
def Zf (P : Program) (_t : TypeId) (i : TI) (d : TypeDesc) : Prop:=match i.kind with
  | .bool=>d = .bool∧i.size = 1
  | .int k=>d = .int k∧i.size = 1
  | .str=>d = .string∧i.size = 1
  | .ptr=>(∃ e,d = .pointer e)∧i.size = 1
  | .func=>(∃ a b c,d = .func a b c)∧i.size = 1
  | .slice=>∃ e ie de ze,d = .slice e∧P.info? e = some ie∧P.underlying e = some de∧ie.zero = some ze∧ze.cells.toList.mapM Zo = some i.ezero∧i.ezero.length = i.esize∧ie.size = i.esize∧i.esize≠0∧
      ie.bytes = i.ebytes∧i.ebytes≠0∧Kf de = i.eagg∧i.size = 1
  | .array=>∃ e ie de,d = .array i.len e∧P.info? e = some ie∧P.underlying e = some de∧ie.size = i.esize∧i.esize≠0∧Kf de = i.eagg
  | .map=>∃ kt e ie ze zd ks dk,d = .map kt e∧P.info? e = some ie∧ie.zero = some ze∧Zo ze = some zd∧Kn P 8 kt = some ks∧P.underlying kt = some dk∧i.keys = some ks∧i.ezero = [zd]∧i.eagg = Kf dk∧i.size = 1
  | .struct=>∃ fs,d = .struct fs∧(fs.toList.mapM fun f=>do
      let jf ← P.info? f.type
      let df ← P.underlying f.type
      if jf.size = 0 then none else some (f.offset,jf.size,Kf df)) = some i.flds
structure TiOk (P : Program) (t : TypeId) (i : TI) (info : TypeInfo) (d : TypeDesc) (z : Value) : Prop where
  inf : P.info? t = some info
  und : P.underlying t = some d
  zero : info.zero = some z
  size : info.size = i.size
  pos : i.size≠0
  cells : z.cells.toList.mapM Zo = some i.zero
  len : i.zero.length = i.size
  agg : i.agg = Kf d
  kind : Zf P t i d
  eqs : ∀ ks,i.eqs = some ks→Kn P 8 t = some ks∧Kf d = true
  keys : ∀ ks,i.keys = some ks→i.kind = .map
theorem Ys {t : TypeId} {i : TI} (h : tiOf P t = some i) : ∃ g d z,TiOk P t i g d z:=by
  unfold tiOf at h
  cases l : P.info? t with
  | none=>simp [l] at h
  | some g=>
  cases m : P.underlying t with
  | none=>simp [l,m] at h
  | some d=>
  cases o : g.zero with
  | none=>simp [l,m,o] at h
  | some z=>
  cases p : z.cells.toList.mapM Zo with
  | none=>simp [l,m,o,p] at h
  | some zc=>
  simp only [l,m,o,p,Option.bind_eq_bind,qh] at h;by_cases h5 : zc.length≠g.size∨g.size = 0
  · grind
  · rw [qx h5] at h;have r : zc.length = g.size:=by omega
    have s : g.size≠0:=by omega
    refine ⟨g,d,z,?_⟩;cases d <;> simp only [reduceCtorEq] at h
    case bool=>split at h <;> simp at h;subst h;rename_i hs;exact ⟨l,m,o,rfl,s,p,r,rfl,⟨rfl,hs⟩,qe,qe⟩
    case int k=>split at h <;> simp at h;subst h;rename_i hs;exact ⟨l,m,o,rfl,s,p,r,rfl,⟨rfl,hs⟩,qe,qe⟩
    case string=>split at h <;> simp at h;subst h;rename_i hs;exact ⟨l,m,o,rfl,s,p,r,rfl,⟨rfl,hs⟩,qe,qe⟩
    case pointer e=>split at h <;> simp at h;subst h;rename_i hs;exact ⟨l,m,o,rfl,s,p,r,rfl,⟨⟨_,rfl⟩,hs⟩,qe,qe⟩
    case func a b c=>split at h <;> simp at h;subst h;rename_i hs;exact ⟨l,m,o,rfl,s,p,r,rfl,⟨⟨_,_,_,rfl⟩,hs⟩,qe,qe⟩
    case slice e=>
      cases j : P.info? e with
      | none=>simp [j] at h
      | some ie=>
      cases u : P.underlying e with
      | none=>simp [j,u] at h
      | some de=>
      cases q : ie.zero with
      | none=>simp [j,u,q] at h
      | some ze=>
      cases v : ze.cells.toList.mapM Zo with
      | none=>simp [j,u,q,v] at h
      | some ezc=>
      simp only [j,u,q,v,qh] at h;split at h
      · simp at h
      · rename_i hs;simp at h;subst h;exact ⟨l,m,o,rfl,s,p,r,rfl,⟨e,ie,de,ze,rfl,j,u,q,v,by show ezc.length = ie.size;omega,rfl,by show ie.size≠0;omega,rfl,by show ie.bytes≠0;omega,rfl,by show g.size = 1;omega⟩,by simp,by simp⟩
    case map kt e=>
      cases j : P.info? e with
      | none=>simp [j] at h
      | some ie=>
      cases q : ie.zero with
      | none=>simp [j,q] at h
      | some ze=>
      cases v : Zo ze with
      | none=>simp [j,q,v] at h
      | some zd=>
      cases w : Kn P 8 kt with
      | none=>simp [j,q,w] at h
      | some ks=>
      cases x : P.underlying kt with
      | none=>simp [j,q,w,x] at h
      | some dk=>
      simp only [j,q,v,w,x,qh] at h;split at h
      · rename_i hs;simp at h;subst h;exact ⟨l,m,o,rfl,s,p,r,rfl,⟨kt,e,ie,ze,zd,ks,dk,rfl,j,q,v,w,x,rfl,rfl,rfl,hs⟩,qe,fun _ _=>rfl⟩
      · simp at h
    case array n e=>
      cases j : P.info? e with
      | none=>simp [j] at h
      | some ie=>
      cases u : P.underlying e with
      | none=>simp [j,u] at h
      | some de=>
      simp only [j,u,qh] at h;split at h
      · simp at h
      · rename_i hs;simp at h;subst h;exact ⟨l,m,o,rfl,s,p,r,rfl,⟨e,ie,de,rfl,j,u,rfl,hs,rfl⟩,fun ks h=>⟨h,rfl⟩,qe⟩
    case struct fs=>
      cases j : (fs.toList.mapM fun f=>do
          let jf ← P.info? f.type
          let df ← P.underlying f.type
          if jf.size = 0 then none else some (f.offset,jf.size,Kf df)) with
      | none=>simp only [Option.bind_eq_bind] at j;simp only [j,Option.bind_none] at h;simp at h
      | some fl=>
        have y:=j;simp only [Option.bind_eq_bind] at j;simp only [j,qh] at h;simp at h;subst h;exact ⟨l,m,o,rfl,s,p,r,rfl,⟨fs,rfl,y⟩,fun ks h=>⟨h,rfl⟩,qe⟩
section
variable {w : World} {Z : Nat→Prop} {inj : Inj} {nx : Nat}
theorem qdl {v : Value} {d : DV} (h : Zo v = some d) : RelD w Z d v∧Yl d = true∧v.oneCell' = true:=by
  unfold Zo at h;split at h <;> simp at h <;> subst h
  · exact ⟨.int _ _,rfl,rfl⟩
  · exact ⟨.bool _,rfl,rfl⟩
  · exact ⟨.str _,rfl,rfl⟩
  · exact ⟨.nilp,rfl,rfl⟩
  · exact ⟨.nilsl,rfl,rfl⟩
  · exact ⟨.nilf,rfl,rfl⟩
  · exact ⟨.nilm,rfl,rfl⟩
theorem q7k {cs : Array Value} {ds : List DV} (h : cs.toList.mapM Zo = some ds) : ds.length = cs.size∧∀ (i : Nat) (d : DV),ds[i]? = some d→∃ c,cs[i]? = some c∧RelD w Z d c∧Yl d = true∧c.oneCell' = true:=by
  obtain ⟨b,j⟩:=q84 h;refine ⟨by simpa using b,fun i d hd=>?_⟩;obtain ⟨c,f⟩:=Yk b hd;obtain ⟨y,a,g⟩:=j i c f;rw [hd] at a;cases a;exact ⟨c,by simpa using f,qdl g⟩
theorem qp7 {v : Value} {d : DV} (h : qal v = some d) : RelD w Z d v:=by
  unfold qal at h;split at h
  · rename_i cs
    cases a : cs.toList.mapM Zo with
    | none=>simp [a] at h
    | some ds=>
      simp [a] at h;subst h;obtain ⟨b,g⟩:=q7k (w:=w) (Z:=Z) a;refine .agg b fun i d c hd f=>?_;grind
  · exact (qdl h).1
theorem Kd {st : AS} {a : Act} {Ds : List Nat} (h : RelS w Z inj st a Ds) {o : Operand} {v : V} (b : st.ev o = some v) : RelV w Z inj st.nx v (a.eval o):=by
  cases o with
  | tmp t=>
    obtain ⟨x,k,l⟩:=h.slots t v b;simp only [Act.eval,Array.getD_eq_getD_getElem?,k,Option.getD_some];exact l
  | const c=>
    simp only [AS.ev] at b
    cases j : qal c with
    | none=>simp [j] at b
    | some d=>simp [j] at b;subst b;exact .d (qp7 j)
  | func f=>
    simp only [AS.ev] at b;cases b;exact .d (.fn qe qe)
  | global g=>simp [AS.ev] at b
theorem q36 {a : List V} {ds : List DV} (h : allD a = some ds) : a = ds.map .d:=by
  induction a generalizing ds with
  | nil=>simp [allD] at h;subst h;rfl
  | cons v r ih=>
    cases v <;> simp only [allD,reduceCtorEq] at h
    grind
theorem qcz (ds : List DV) : allD (ds.map .d) = some ds:=by
  induction ds with
  | nil=>rfl
  | cons d r ih=>simp [allD,ih]
theorem qf7 {d : V} {c : Value} (h : RelV w Z inj nx d c) (a : Kp d = true) : c.oneCell' = true:=by
  cases h with
  | d h=>cases h <;> simp_all [Kp,Yl,Value.oneCell']
  | _=>simp_all [Kp,Value.oneCell']
theorem qoa {c : Value} (h : c.oneCell' = true) : c.cells = #[c]:=by cases c <;> simp_all [Value.oneCell',Value.cells]
theorem qaj {v : V} {x : Value} (h : RelV w Z inj nx v x) (f : (cellsOf v).all Kp = true) :
    (cellsOf v).length = x.cells.size∧(∀ (i : Nat) (d : V) (c : Value),(cellsOf v)[i]? = some d→x.cells[i]? = some c→RelV w Z inj nx d c)∧∀ c∈x.cells.toList,c.oneCell' = true:=by
  have fin : ∀ (l : List V) (cs : Array Value),l.length = cs.size→(∀ (i : Nat) (d : V) (c : Value),l[i]? = some d→cs[i]? = some c→RelV w Z inj nx d c)→l.all Kp = true→∀ c∈cs.toList,c.oneCell' = true:=by
    intro l cs j g k c q;obtain ⟨i,hi,rfl⟩:=List.mem_iff_getElem.1 q;simp at hi;have m : l[i]? = some l[i]:=List.getElem?_eq_getElem q0;have n : cs[i]? = some cs[i]:=Array.getElem?_eq_getElem hi;have:=qf7 (g i _ _ m n) (List.all_eq_true.1 k _ (Y5 _));grind
  have one : ∀ {v : V} {x : Value},RelV w Z inj nx v x→cellsOf v = [v]→(cellsOf v).all Kp = true→(cellsOf v).length = x.cells.size∧(∀ (i : Nat) (d : V) (c : Value),(cellsOf v)[i]? = some d→x.cells[i]? = some c→RelV w Z inj nx d c)∧∀ c∈x.cells.toList,c.oneCell' = true:=by
    intro v x h r k;rw [r] at k ⊢;have m : Kp v = true:=by simpa using k
    have n:=qf7 h m;rw [qoa n];grind
  cases h with
  | agg j g=>exact ⟨j,g,fin _ _ j g f⟩
  | d h=>
    cases h with
    | agg j g=>
      have m : (cellsOf (V.d (.agg ‹List DV›))).length = (Value.agg ‹Array Value›).cells.size:=by simpa [cellsOf,Value.cells] using j
      have n : ∀ (i : Nat) (d : V) (c : Value),(cellsOf (V.d (.agg ‹List DV›)))[i]? = some d→(Value.agg ‹Array Value›).cells[i]? = some c→RelV w Z inj nx d c:=by
        intro i d c hd f;simp only [cellsOf,List.getElem?_map,Y3] at hd;obtain ⟨p,o,rfl⟩:=hd;exact .d (g i p c o f)
      grind
    | int=>exact one (.d (.int _ _)) rfl f
    | bool=>exact one (.d (.bool _)) rfl f
    | str=>exact one (.d (.str _)) rfl f
    | tup j g=>exact one (.d (.tup j g)) rfl f
    | fn j g=>exact one (.d (.fn j g)) rfl f
    | bfn j g=>exact one (.d (.bfn j g)) rfl f
    | nilsl=>exact one (.d .nilsl) rfl f
    | slnil=>exact one (.d (.slnil _)) rfl f
    | slemp=>exact one (.d (.slemp _ _)) rfl f
    | sl a b c d e=>exact one (.d (.sl a b c d e)) rfl f
    | nilp=>exact one (.d .nilp) rfl f
    | nilf=>exact one (.d .nilf) rfl f
    | nilm=>exact one (.d .nilm) rfl f
    | box a b c=>exact one (.d (.box a b c)) rfl f
  | tup j g=>exact one (.tup j g) rfl f
  | fn j g=>exact one (.fn j g) rfl f
  | ref a b=>exact one (.ref a b) rfl f
  | dref a b c=>exact one (.dref a b c) rfl f
  | hsnil a=>exact one (.hsnil a) rfl f
  | hs a b c d=>exact one (.hs a b c d) rfl f
  | yld a b=>exact one (.yld a b) rfl f
  | mp a b=>exact one (.mp a b) rfl f
  | dead v=>simp [cellsOf,Kp] at f
theorem qey {cs : List V} {xs : Array Value} (a : cs.length = xs.size) (h : ∀ (i : Nat) (d : V) (c : Value),cs[i]? = some d→xs[i]? = some c→RelV w Z inj nx d c) : RelV w Z inj nx (q5a cs) (.agg xs):=by
  unfold q5a;split
  · rename_i ds hd;have:=q36 hd;subst this;refine .d (.agg (by simpa using a) fun i d c b f=>?_);have:=h i (.d d) c (by simp [b]) f
    cases this with | d h=>exact h
  · exact .agg a h
def qn9 (w : World) (Z : Nat→Prop) (inj : Inj) (nx : Nat) (v : V) : Bool→List Value→Prop
  | true,xs=>RelV w Z inj nx v (.agg xs.toArray)
  | false,[x]=>RelV w Z inj nx v x
  | false,_=>False
theorem qkk {ag : Bool} {cs : List V} {v : V} {xs : List Value} (hp : pack ag cs = some v) (a : cs.length = xs.length) (h : ∀ (i : Nat) (d : V) (c : Value),cs[i]? = some d→xs[i]? = some c→RelV w Z inj nx d c) :
    qn9 w Z inj nx v ag xs:=by
  cases ag with
  | true=>
    simp only [pack,Option.some.injEq] at hp;subst hp;exact qey (by simpa using a) (fun i d c b f=>h i d c b (by simpa using f))
  | false=>
    match cs,xs,hp,a with
    | [c],[x],hp,_=>simp only [pack,Option.some.injEq] at hp;subst hp;exact h 0 _ _ rfl rfl
    | [c],[],_,a=>simp at a
    | [c],_::_::_,_,a=>simp at a
theorem qfb (ag : Bool) (cs : List DV) : (Uu ag cs).map V.d = pack ag (cs.map .d):=by
  cases ag with
  | true=>simp [Uu,pack,q5a,qcz]
  | false=>match cs with
    | []=>rfl
    | [c]=>rfl
    | _::_::_=>rfl
theorem qmo {α : Type} {cs r : List α} {j s : Nat} (h : sub cs j s = some r) : j + s≤cs.length∧r = (cs.drop j).take s:=by
  unfold sub at h;split at h <;> simp at h;exact ⟨‹_›,h.symm⟩
theorem qa5 {α : Type} {cs r : List α} {j s : Nat} (h : sub cs j s = some r) : r.length = s∧∀ (i : Nat) (x : α),r[i]? = some x→cs[j + i]? = some x∧i < s:=by
  obtain ⟨a,rfl⟩:=qmo h;grind
theorem Jv (b o j : Nat) : (⟨b,o,none⟩ : Addr).add j = ⟨b,o + j,none⟩:=by
  unfold Addr.add;split <;> simp_all
theorem qrh {t : TypeId} {i : TI} {h : TypeInfo} {d : TypeDesc} {z : Value} (m : TiOk P t i h d z) {b o : Nat} {r : List V} {v : V} (hp : pack i.agg r = some v) (hr : r.length = i.size)
    (hc : ∀ (k : Nat) (x : V),r[k]? = some x→∃ c,w.cell? ⟨b,o + k,none⟩ = some c∧RelV w Z inj nx x c) :
    ∃ x,(Instr.loadAt t (.pointer (some ⟨b,o,none⟩))).run P w = .ok x w∧RelV w Z inj nx v x:=by
  have n : ∃ cs : List Value,cs.length = i.size∧∀ (k : Nat) (c : Value),cs[k]? = some c→w.cell? ⟨b,o + k,none⟩ = some c:=by
    refine ⟨(List.range i.size).map fun k=>(w.cell? ⟨b,o + k,none⟩).getD undef,qe,?_⟩;intro k c s;have q : k < i.size:=by have:=Kh s;simpa using this
    obtain ⟨x,hx⟩:=Zp (xs:=r) (i:=k) q0;grind
  obtain ⟨cs,p,a⟩:=n;have l : ∀ (i : Nat) (d : V) (c : Value),r[i]? = some d→cs[i]? = some c→RelV w Z inj nx d c:=by grind
  have f:=qkk hp (by omega : r.length = cs.length) l
  have g : (isAgg t).run P w = .ok i.agg w:=by
    rw [m.agg];simp only [isAgg,Sem.run_bind,run_underlying m.und,Result.andThen_ok];cases d <;> rfl
  cases hb : i.agg with
  | true=>
    rw [hb] at f;refine ⟨.agg cs.toArray,?_,f⟩;have u:=run_loadCells_list (P:=P) w ⟨b,o,none⟩ cs (fun j v y=>by rw [Jv];exact a j v y);simp [Instr.loadAt,Instr.sureAddr,loadVar,g,hb,sizeOf,typeInfo,m.inf,m.size,← p,u]
  | false=>
    rw [hb] at f
    match cs,p,a,f with
    | [x],_,a,f=>
      refine ⟨x,?_,f⟩;have:=a 0 x rfl;simp only [Nat.add_zero] at this;simp [Instr.loadAt,Instr.sureAddr,loadVar,g,hb,this]
end
end Go.Am
namespace Go.Am
open Go
variable {P : Program} {T : Tab}
def Kl (st st1 : AS) (v : V) (w : World) (Z : Nat→Prop) (inj : Inj) (r : Result Next) : Prop:=
  ∃ x w' inj',(r = .ok (.value x) w'∨(r = .ok .skip w'∧x = undef))∧RelV w' Z inj' st1.nx v x∧RelH w' Z inj' st1.hp st1.nx∧Ext w Z inj st.hp w' Z inj' st1.hp st.nx∧st1.sl = st.sl∧st.nx≤st1.nx
section
variable {w : World} {Z : Nat→Prop} {inj : Inj} {st : AS} {a : Act} {Ds : List Nat}
theorem Kl.quiet {v : V} {x : Value} {r : Result Next} (h : RelS w Z inj st a Ds) (b : r = .ok (.value x) w) (c : RelV w Z inj st.nx v x) : Kl st st v w Z inj r:=
  ⟨x,w,inj,.inl b,c,h.heap,.refl,rfl,Nat.le_refl _⟩
theorem Kk {s : Sem Value} {x : Value} {w' : World} (h : s.run P w = .ok x w') : (do pure (Next.value (← s)) : Sem Next).run P w = .ok (.value x) w':=by
  simp [h]
theorem Kl.new {v : V} {x : Value} {r : Result Next} {o : Obj} {blk : Blk} (h : RelS w Z inj st a Ds) (c : r = .ok (.value x) (w.alloc o))
    (hb : RelB (w.alloc o) Z (upd inj st.nx (some (w.heap.size,0))) (st.nx + 1) st.nx blk)
    (b : RelV (w.alloc o) Z (upd inj st.nx (some (w.heap.size,0))) (st.nx + 1) v x) (d : Unfr o:=by first | exact rfl | exact trivial) : Kl st (st.new blk) v w Z inj r:=
  ⟨x,_,_,.inl c,b,h.heap.new o blk 0 hb,Ext.new h.heap o blk 0 d,rfl,by simp [AS.new]⟩
theorem qlb {v : V} {x : Value} (h : RelS w Z inj st a Ds) (o : Obj) (d : RelV w Z inj st.nx v x) : RelV (w.alloc o) Z (upd inj st.nx (some (w.heap.size,0))) (st.nx + 1) v x:=
  d.mono (fun _ b=>J1 w o (h.heap.zs _ b)) (fun _ h=>h) (q2h w o) (fun _ c=>Ye _ _ c) q0
theorem ql7 {w : World} {nx n es : Nat} {xs : List (List V)} {arr : Array Value} {ty : TypeId} {b : Nat} (t : es≠0) (hi : inj n = some (b,0)) (hb : w.heap[b]? = some (.cells arr ty (0,0)))
    (s : ∀ (i : Nat) (x : List V),xs[i]? = some x→x.length = es)
    (h : ∀ (i : Nat) (x : List V) (j : Nat) (d : V),xs[i]? = some x→x[j]? = some d→Kp d = true∧∃ c,arr[i * es + j]? = some c∧RelV w Z inj nx d c) : RelB w Z inj nx n (q5b es xs):=by
  unfold q5b;split
  · rename_i ys v;obtain ⟨q,r⟩:=q84 v;refine ⟨t,?_,.inr ⟨b,0,arr,ty,hi,hb,?_⟩⟩
    · intro i y f;obtain ⟨x,g⟩:=Yk q f;obtain ⟨u,a,hd⟩:=r i x g;rw [f] at a;cases a;have:=s i x g;rw [q36 hd] at this;simpa using this
    · intro i y j d f m;obtain ⟨x,g⟩:=Yk q f;obtain ⟨u,a,hd⟩:=r i x g;rw [f] at a;cases a;have p:=q36 hd;obtain ⟨k,c,o,l⟩:=h i x j (.d d) g (by rw [p];simp [m]);refine ⟨k,c,by simpa using o,?_⟩
      cases l with | d h=>exact h
  · refine ⟨t,s,.inr ⟨b,0,arr,ty,hi,hb,?_⟩⟩;intro i x j d g hd;obtain ⟨k,c,o,l⟩:=h i x j d g hd;exact ⟨k,c,by simpa using o,l⟩
theorem qkh {o : Operand} {v : V} (h : RelS w Z inj st a Ds) (c : st.ev o = some v) {r : Result Next} (b : r = .ok (.value (a.eval o)) w) : Kl st st v w Z inj r:=
  .quiet h b (Kd h c)
theorem qsl {t : TypeId} {i : TI} (h : RelS w Z inj st a Ds) (p : tiOf P t = some i) :
    Kl st (st.new (.dat i.size [i.zero])) (.ref st.nx i.size 0 0) w Z inj ((do pure (Next.value (← Instr.alloc t true (.tuple #[]))) : Sem Next).run P w):=by
  obtain ⟨m,d,z,k⟩:=Ys p
  have g : (Instr.alloc t true (.tuple #[])).run P w = .ok (.pointer (some ⟨w.heap.size,0,none⟩)) (w.alloc (.cells z.cells t)):=by
    simp [Instr.alloc,zeroValue,typeInfo,k.inf,k.zero,newVar,newRow]
  obtain ⟨s,q⟩:=q7k (w:=w.alloc (.cells z.cells t)) (Z:=Z) k.cells;refine .new h (Kk g) ?_ ?_
  · refine ⟨k.pos,?_,.inr ⟨w.heap.size,0,z.cells,t,Y2 _ _ _,Jw _ _,?_⟩⟩
    · intro l x b
      cases l with
      | zero=>simp at b;subst b;exact k.len
      | succ n=>simp at b
    · intro l x j d b hd
      cases l with
      | zero=>
        simp at b;subst b;obtain ⟨c,r,o,f,_⟩:=q j d hd;exact ⟨f,c,by simpa using r,o⟩
      | succ n=>simp at b
  · have:=RelV.ref (w:=w.alloc (.cells z.cells t)) (Z:=Z) (inj:=upd inj st.nx (some (w.heap.size,0))) (nx:=st.nx + 1) (n:=st.nx) (es:=i.size) (i:=0) (j:=0) q0 (Y2 _ _ _);simpa using this
theorem qsp {t : TypeId} {i : TI} {o : Operand} {v : V} (h : RelS w Z inj st a Ds) (s : tiOf P t = some i) (hv : st.ev o = some v) (y : (cellsOf v).length = i.size) (r : (cellsOf v).all Kp = true) :
    Kl st (st.new (q5b i.size [cellsOf v])) (.ref st.nx i.size 0 0) w Z inj ((do pure (Next.value (← Instr.box t (a.eval o))) : Sem Next).run P w):=by
  obtain ⟨q,d,z,k⟩:=Ys s;have f:=Kd h hv
  have g : (Instr.box t (a.eval o)).run P w = .ok (.pointer (some ⟨w.heap.size,0,none⟩)) (w.alloc (.cells (a.eval o).cells t)):=by
    simp [Instr.box,newVar,newRow]
  have p:=qlb h (.cells (a.eval o).cells t) f;obtain ⟨h1,u,_⟩:=qaj p r;refine .new h (Kk g) ?_ ?_
  · refine ql7 (b:=w.heap.size) (arr:=(a.eval o).cells) (ty:=t) k.pos (Y2 _ _ _) (Jw _ _) ?_ ?_
    · intro m x f
      cases m with
      | zero=>simp at f;subst f;exact y
      | succ n=>simp at f
    · intro m x j d f hd
      cases m with
      | zero=>
        simp at f;subst f;obtain ⟨c,l⟩:=Yc (xs:=(a.eval o).cells) (i:=j) (by have:=Kh hd;omega);exact ⟨List.all_eq_true.1 r _ (List.mem_of_getElem? hd),c,by simpa using l,u j d c hd l⟩
      | succ n=>simp at f
  · have:=RelV.ref (w:=w.alloc (.cells (a.eval o).cells t)) (Z:=Z) (inj:=upd inj st.nx (some (w.heap.size,0))) (nx:=st.nx + 1) (n:=st.nx) (es:=i.size) (i:=0) (j:=0) q0 (Y2 _ _ _);simpa using this
theorem q1t {α : Type} (cs ys : List α) (o : Nat) (h : o + ys.length≤cs.length) : (splice cs o ys).length = cs.length:=by simp [splice];omega
theorem U3 {α : Type} (cs ys : List α) (o j : Nat) (h : o + ys.length≤cs.length) : (splice cs o ys)[j]? = if o≤j∧j < o + ys.length then ys[j - o]? else cs[j]?:=by
  have e : (cs.take o).length = o:=by simp;omega
  by_cases a : j < o
  · rw [qx q0,splice,List.append_assoc,List.getElem?_append_left q0,List.getElem?_take,qs a]
  · by_cases b : j < o + ys.length
    · rw [qs q0,splice,List.append_assoc,List.getElem?_append_right q0,e,List.getElem?_append_left q0]
    · rw [qx q0,splice,List.getElem?_append_right (by simp;omega),List.getElem?_drop];congr 1;rw [List.length_append,e];omega
theorem qih (off : Nat) : ∀ (l : List Value) (s : Nat) (cs : Array Value),off + s + l.length≤cs.size→
    ((l.zipIdx s).foldl (fun (cs : Array Value) (x : Value × Nat)=>cs.setIfInBounds (off + x.2) x.1) cs).size = cs.size∧
    ∀ j : Nat,((l.zipIdx s).foldl (fun (cs : Array Value) (x : Value × Nat)=>cs.setIfInBounds (off + x.2) x.1) cs)[j]? = if off + s≤j∧j < off + s + l.length then l[j - (off + s)]? else cs[j]?
  | [],s,cs,_=>by
    refine ⟨rfl,fun j=>?_⟩
    have : ¬ (off + s≤j∧j < off + s + ([] : List Value).length):=by simp
    rw [qx this];rfl
  | v::r,s,cs,h=>by
    obtain ⟨f,g⟩:=qih off r (s + 1) (cs.setIfInBounds (off + s) v) (by simp at h ⊢;omega)
    simp only [List.zipIdx_cons,List.foldl_cons]
    refine ⟨by rw [f];simp,fun j=>?_⟩
    rw [g j]
    simp only [List.length_cons] at h ⊢
    by_cases b : off + (s + 1)≤j∧j < off + (s + 1) + r.length
    · have a : off + s≤j∧j < off + s + (r.length + 1):=by omega
      rw [qs b,qs a,show j - (off + s) = (j - (off + (s + 1))) + 1 by omega,List.getElem?_cons_succ]
    · rw [qx b,Array.getElem?_setIfInBounds]
      by_cases c : off + s = j
      · have a : off + s≤j∧j < off + s + (r.length + 1):=by omega
        have d : j < cs.size:=by omega
        rw [qs c,qs a,qs q0,show j - (off + s) = 0 by omega]
        rfl
      · have a : ¬ (off + s≤j∧j < off + s + (r.length + 1)):=by omega
        rw [qx c,qx a]
theorem qii (a cs : Array Value) (off : Nat) (h : off + a.size≤cs.size) :
    a.zipIdx.foldl (fun (cs : Array Value) (x : Value × Nat)=>cs.setIfInBounds (off + x.2) x.1) cs = (splice cs.toList off a.toList).toArray:=by
  rw [← Array.foldl_toList,Array.toList_zipIdx];obtain ⟨c,b⟩:=qih off a.toList 0 cs (by simpa using h);have hs:=q1t cs.toList a.toList off (by simpa using h);apply Array.ext';apply List.ext_getElem?;intro j;rw [Array.getElem?_toList,b j,U3 _ _ _ _ (by simpa using h)];simp
def LRel (w : World) (Z : Nat→Prop) (inj : Inj) (nx : Nat) (cs : List V) (xs : Array Value) : Prop:=
  cs.length = xs.size∧∀ (i : Nat) (d : V) (c : Value),cs[i]? = some d→xs[i]? = some c→RelV w Z inj nx d c
theorem LRel.splice {w : World} {nx : Nat} {cs ys : List V} {xs g : Array Value} {o : Nat} (h : LRel w Z inj nx cs xs) (k : LRel w Z inj nx ys g) (j : o + ys.length≤cs.length) :
    LRel w Z inj nx (Am.splice cs o ys) (Am.splice xs.toList o g.toList).toArray:=by
  have m:=h.1;have l:=k.1;have f : o + g.toList.length≤xs.toList.length:=by simp;omega
  refine ⟨by simp [q1t _ _ _ j,q1t _ _ _ f,h.1],fun i d c hd b=>?_⟩;rw [U3 _ _ _ _ j] at hd;rw [List.getElem?_toArray,U3 _ _ _ _ f] at b;have e : g.toList.length = ys.length:=by simp;omega
  rw [e] at b;split at hd
  · rename_i a;rw [qs a] at b;exact k.2 _ _ _ hd (by simpa using b)
  · rename_i a;rw [qx a] at b;exact h.2 _ _ _ hd (by simpa using b)
theorem qi5 {f : List (Nat × Operand)} {c : List (Nat × V)} (h : RelS w Z inj st a Ds) (hp : Jd st.ev f = some c) :
    c.length = f.length∧∀ (k : Nat) (i : Nat) (v : V),c[k]? = some (i,v)→∃ o,f[k]? = some (i,o)∧RelV w Z inj st.nx v (a.eval o):=by
  induction f generalizing c with
  | nil=>simp [Jd] at hp;subst hp;simp
  | cons x r ih=>
    obtain ⟨i,o⟩:=x;simp only [Jd] at hp
    cases b : st.ev o with
    | none=>simp [b] at hp
    | some v=>
      cases g : Jd st.ev r with
      | none=>simp [b,g] at hp
      | some l=>
        simp [b,g] at hp;subst hp;obtain ⟨q,t⟩:=ih g;refine ⟨by simp [q],fun k j p d=>?_⟩
        cases k with
        | zero=>simp at d;obtain ⟨rfl,rfl⟩:=d;exact ⟨o,qe,Kd h b⟩
        | succ k=>simp at d;obtain ⟨s,n,m⟩:=t k j p d;exact ⟨s,by simpa using n,m⟩
theorem q3e {os : List Operand} {g : List V} (h : RelS w Z inj st a Ds) (hp : evL st.ev os = some g) : LRel w Z inj st.nx g (os.map a.eval).toArray:=by
  induction os generalizing g with
  | nil=>simp [evL] at hp;subst hp;exact ⟨qe,qe⟩
  | cons o r ih=>
    simp only [evL] at hp
    cases b : st.ev o with
    | none=>simp [b] at hp
    | some v=>
      cases j : evL st.ev r with
      | none=>simp [b,j] at hp
      | some l=>
        simp [b,j] at hp;subst hp;obtain ⟨m,n⟩:=ih j;refine ⟨by simpa using m,fun k d c hd f=>?_⟩
        cases k with
        | zero=>simp at hd f;subst hd f;exact Kd h b
        | succ k=>simp at hd f;exact n k d c hd (by simpa using f)
theorem qdx {w : World} {nx : Nat} (place : Nat→Option (Nat × Nat)) : ∀ (b : List (Nat × V)) (xs : List (Nat × Value)) (l : List (Nat × List V)) (cs a : List V) (C : Array Value),
    b.length = xs.length→(∀ (k : Nat) (i : Nat) (v : V),b[k]? = some (i,v)→∃ x,xs[k]? = some (i,x)∧RelV w Z inj nx v x)→
    l.length = b.length→(∀ (k : Nat) (i : Nat) (v : V),b[k]? = some (i,v)→∃ o s,place i = some (o,s)∧(cellsOf v).length = s∧(cellsOf v).all Kp = true∧l[k]? = some (o,cellsOf v))→
    LRel w Z inj nx cs C→q4w cs l = some a→∃ h,Instr.fill place C xs = some h∧LRel w Z inj nx a h
  | [],xs,l,cs,a,C,h1,_,h3,_,h5,h6=>by
    have : xs = []:=by cases xs <;> simp_all
    have : l = []:=by cases l <;> simp_all
    subst_vars
    simp [q4w] at h6;subst h6
    exact ⟨C,by simp [Instr.fill],h5⟩
  | (i,v)::b,xs,l,cs,a,C,h1,h2,h3,h4,h5,h6=>by
    match xs,l,h1,h3 with
    | (i',x)::xs,(o',ys)::l,h1,h3=>
      obtain ⟨z,g,r⟩:=h2 0 i v rfl
      simp at g;obtain ⟨rfl,rfl⟩:=g
      obtain ⟨o,s,hp,hl,t,c⟩:=h4 0 i' v rfl
      simp at c;obtain ⟨rfl,rfl⟩:=c
      obtain ⟨y,u,q3⟩:=qaj r t
      simp only [q4w] at h6
      split at h6
      · rename_i f
        have q : x.cells.size = s:=by omega
        have n : ¬ (o' + x.cells.size > C.size):=by have:=h5.1;omega
        obtain ⟨h,m,d⟩:=qdx place b xs l (splice cs o' (cellsOf v)) a (splice C.toList o' x.cells.toList).toArray (by simpa using h1)
          (fun k i v p=>by obtain ⟨x,j⟩:=h2 (k + 1) i v (by simpa using p);exact ⟨x,by simpa using j⟩) (by simpa using h3)
          (fun k i v p=>by obtain ⟨o,s,j⟩:=h4 (k + 1) i v (by simpa using p);exact ⟨o,s,by simpa using j⟩)
          (h5.splice ⟨y,u⟩ f) h6
        refine ⟨h,?_,d⟩
        simp only [Instr.fill,hp,q]
        have : ¬ ((decide (s≠s) || decide (o' + s > C.size)) = true):=by simp;omega
        rw [qx (by simpa using this)]
        rw [qii x.cells C o' q0]
        exact m
      · simp at h6
end
end Go.Am
namespace Go.Am
open Go
variable {P : Program} {T : Tab}
section
variable {w : World} {Z : Nat→Prop} {inj : Inj} {nx : Nat}
theorem qlf {α β : Type} {f : α→Sem β} {g : α→β} : ∀ {l : List α},(∀ x∈l,(f x).run P w = .ok (g x) w)→(l.mapM f).run P w = .ok (l.map g) w
  | [],_=>by simp
  | x::r,h=>by
    have b:=h x qe
    have c:=qlf (l:=r) (fun y a=>h y (by simp [a]))
    simp [List.mapM_cons,b,c]
theorem qv0 {α β : Type} {f : α→Sem β} {g : α→β} {l : Array α} (h : ∀ x∈l.toList,(f x).run P w = .ok (g x) w) : (l.mapM f).run P w = .ok (l.toList.map g).toArray w:=by
  rw [Array.mapM_eq_mapM_toList,Sem.run_map,qlf h];rfl
theorem qif {g : Array Field} {j : List (Nat × Nat × Bool)} (h : (g.toList.mapM fun f => do
      let a ← P.info? f.type
      let c ← P.underlying f.type
      if a.size = 0 then none else some (f.offset,a.size,Kf c)) = some j) :
    j.length = g.size∧∀ (i : Nat) (f : Field),g[i]? = some f→∃ a c,P.info? f.type = some a∧P.underlying f.type = some c∧a.size≠0∧j[i]? = some (f.offset,a.size,Kf c):=by
  obtain ⟨n,p⟩:=q84 h;refine ⟨by simpa using n,fun i f o=>?_⟩;obtain ⟨y,m,b⟩:=p i f (by simpa using o)
  cases k : P.info? f.type with
  | none=>simp [k] at b
  | some a=>
    cases l : P.underlying f.type with
    | none=>simp [k,l] at b
    | some c=>
      simp only [k,l,Option.bind_eq_bind,qh] at b;split at b
      · simp at b
      · rename_i d;simp at b;subst b;exact ⟨a,c,rfl,rfl,d,m⟩
theorem qe0 {c : Array Field} {j : List (Nat × Nat × Bool)} (h : (c.toList.mapM fun f => do
      let a ← P.info? f.type
      let b ← P.underlying f.type
      if a.size = 0 then none else some (f.offset,a.size,Kf b)) = some j) {i off s : Nat} {ag : Bool} (hi : j[i]? = some (off,s,ag)) :
    ∃ f a b,c[i]? = some f∧P.info? f.type = some a∧P.underlying f.type = some b∧a.size = s∧s≠0∧f.offset = off∧Kf b = ag:=by
  obtain ⟨o,m⟩:=qif h;obtain ⟨f,g⟩:=Yc (xs:=c) (i:=i) (by have:=Kh hi;omega);obtain ⟨a,b,k,n,l,d⟩:=m i f g;rw [hi] at d;simp at d;obtain ⟨rfl,rfl,rfl⟩:=d;exact ⟨f,a,b,g,k,n,rfl,l,rfl,rfl⟩
theorem qkq {a : TI} : ∀ {c : List (Nat × V)} {l : List (Nat × List V)},placed a c = some l→l.length = c.length∧∀ (k i : Nat) (v : V),c[k]? = some (i,v)→∃ o s,
    (match a.kind with | .struct=>(a.flds[i]?).map fun f=>(f.1,f.2.1) | .array=>some (i * a.esize,a.esize) | _=>none) = some (o,s)∧(cellsOf v).length = s∧(cellsOf v).all Kp = true∧l[k]? = some (o,cellsOf v)
  | [],l,h=>by simp [placed] at h;subst h;simp
  | (i,v)::r,l,h=>by
    simp only [placed] at h
    split at h
    · rename_i o s l' m t
      split at h
      · rename_i d
        simp at h;subst h
        obtain ⟨q,w⟩:=qkq t
        refine ⟨by simp [q],fun k n p b=>?_⟩
        cases k with
        | zero=>simp at b;obtain ⟨rfl,rfl⟩:=b;exact ⟨o,s,m,d.1,d.2,qe⟩
        | succ k=>simp at b;obtain ⟨u,g,j⟩:=w k n p b;exact ⟨u,g,by simpa using j⟩
      · simp at h
    · simp at h
theorem q11s {t : TypeId} {i : TI} {b : TypeInfo} {d : TypeDesc} {z : Value} (k : TiOk P t i b d z) : LRel w Z inj nx (i.zero.map .d) z.cells:=by
  obtain ⟨h,m⟩:=q7k (w:=w) (Z:=Z) k.cells;refine ⟨by simpa using h,fun j d c hd n=>?_⟩;simp only [List.getElem?_map,Y3] at hd;obtain ⟨g,f,rfl⟩:=hd;obtain ⟨o,a,l,_⟩:=m j g f;rw [n] at a;cases a;exact .d l
theorem Ze {t : TypeId} {a : TypeInfo} (h : P.info? t = some a) : (sizeOf t).run P w = .ok a.size w:=by simp [sizeOf,typeInfo,h]
theorem q2g {t : TypeId} {d : TypeDesc} (h : P.underlying t = some d) : (isAgg t).run P w = .ok (Kf d) w:=by
  simp only [isAgg,Sem.run_bind,run_underlying h,Result.andThen_ok];cases d <;> rfl
theorem qkn {t : TypeId} {a : TypeInfo} {d : TypeDesc} (q : P.info? t = some a) (p : P.underlying t = some d) {cs r : List V} {xs : Array Value} {off : Nat} {v : V} (k : LRel w Z inj nx cs xs)
    (hs : sub cs off a.size = some r) (hp : pack (Kf d) r = some v) : ∃ x,(part t xs off).run P w = .ok x w∧RelV w Z inj nx v x:=by
  obtain ⟨o,h⟩:=qa5 hs;have u:=(qmo hs).1;have m:=k.1
  have f : ∀ (i : Nat) (d : V) (c : Value),r[i]? = some d→(xs.extract off (off + a.size)).toList[i]? = some c→RelV w Z inj nx d c:=by
    intro i d c hd j;obtain ⟨g,y⟩:=h i d hd;refine k.2 _ _ _ g ?_;rw [Array.getElem?_toList,Array.getElem?_extract] at j;split at j <;> first | exact j | simp at j
  have l : r.length = (xs.extract off (off + a.size)).toList.length:=by simp;omega
  have b:=qkk hp l f
  cases hb : Kf d with
  | true=>
    rw [hb] at b
    refine ⟨.agg (xs.extract off (off + a.size)),?_,by
      have s : RelV w Z inj nx v (.agg (xs.extract off (off + a.size)).toList.toArray):=b
      rwa [Array.toArray_toList] at s⟩
    simp [part,q2g p,hb,Ze q]
  | false=>
    rw [hb] at b hp
    match r,hp,o,h with
    | [c],hp,o,h=>
      simp only [pack,Option.some.injEq] at hp;subst hp;have g:=(h 0 c rfl).1;simp only [Nat.add_zero] at g;obtain ⟨x,n⟩:=Yc (xs:=xs) (i:=off) (by have:=Kh g;omega);exact ⟨x,by simp [part,q2g p,hb,n],k.2 _ _ _ g n⟩
end
section
variable {w : World} {Z : Nat→Prop} {inj : Inj} {st : AS} {a : Act} {Ds : List Nat}
theorem qsq {t : TypeId} {i : TI} {n : Array (Nat × Operand)} {r : List (Nat × V)} {l : List (Nat × List V)} {cs : List V} (h : RelS w Z inj st a Ds) (ht : tiOf P t = some i) (hv : Jd st.ev n.toList = some r)
    (ha : i.agg = true) (hl : placed i r = some l) (hf : q4w (i.zero.map .d) l = some cs) :
    Kl st st (q5a cs) w Z inj ((do pure (Next.value (← Instr.build t (n.map fun (i,x)=>(i,a.eval x)))) : Sem Next).run P w):=by
  obtain ⟨ar,d,z,k⟩:=Ys ht;obtain ⟨p1,p2⟩:=qi5 h hv;obtain ⟨q1,q2⟩:=qkq hl;have hz:=q11s (w:=w) (Z:=Z) (inj:=inj) (nx:=st.nx) k
  have ac : ∀ (k i : Nat) (v : V),r[k]? = some (i,v)→∃ x,(n.toList.map fun (x : Nat × Operand)=>(x.1,a.eval x.2))[k]? = some (i,x)∧RelV w Z inj st.nx v x:=by
    intro k i v u;obtain ⟨o,ho,g⟩:=p2 k i v u;exact ⟨a.eval o,by simp only [List.getElem?_map,ho];rfl,g⟩
  have q : (zeroValue t).run P w = .ok z w:=by simp [zeroValue,typeInfo,k.inf,k.zero]
  have b:=k.kind;unfold Zf at b;cases u : i.kind <;> simp only [u,TI.agg] at b ha
  case struct=>
    obtain ⟨fs,rfl,y⟩:=b;obtain ⟨_,af⟩:=qif y
    obtain ⟨C',hC,g⟩:=qdx (fun i=>((fs.toList.map fun (f : Field)=>(f.offset,((P.info? f.type).map (·.size)).getD 0)).toArray)[i]?) r (n.toList.map fun (x : Nat × Operand)=>(x.1,a.eval x.2)) l _ cs z.cells (by simp [p1]) ac q1
      (fun k i' v c=>by
        obtain ⟨o,s,h1,h2,h3,h4⟩:=q2 k i' v c;simp only [u,Y3] at h1;obtain ⟨⟨o',s',ag⟩,h5,h6⟩:=h1;simp at h6;obtain ⟨rfl,rfl⟩:=h6;obtain ⟨f,jf,df,p,g2,_,g4,_,g6,_⟩:=qe0 y h5
        exact ⟨o',s',by simp [p,g2,g4,g6],h2,h3,h4⟩) hz hf
    refine .quiet h (Kk (x:=.agg C') ?_) (qey g.1 g.2)
    have hm : (fs.mapM fun f=>do pure (f.offset,← sizeOf f.type) : Sem (Array (Nat × Nat))).run P w = .ok (fs.toList.map fun (f : Field)=>(f.offset,((P.info? f.type).map (·.size)).getD 0)).toArray w:=by
      refine qv0 fun f hf=>?_;obtain ⟨j,hj⟩:=List.mem_iff_getElem?.1 hf;obtain ⟨jf,df,p,_⟩:=af j f (by simpa using hj);simp [Ze p,p]
    simp only [Instr.build,Sem.run_bind,q,Result.andThen_ok,run_underlying k.und,hm];have m : Instr.fill (fun x=>((fs.toList.map fun (f : Field)=>(f.offset,((P.info? f.type).map (·.size)).getD 0)).toArray)[x]?) z.cells (n.map fun (x : Nat × Operand)=>(x.1,a.eval x.2)).toList = some C':=by simpa using hC
    simp only [m];rfl
  case array=>
    obtain ⟨e,ie,de,rfl,p,g2,g3,g4,_⟩:=b
    obtain ⟨C',hC,g⟩:=qdx (fun j=>some (j * i.esize,i.esize)) r (n.toList.map fun (x : Nat × Operand)=>(x.1,a.eval x.2)) l _ cs z.cells (by simp [p1]) ac q1
      (fun k i' v c=>by
        obtain ⟨o,s,h1,h2,h3,h4⟩:=q2 k i' v c;simp only [u] at h1
        exact ⟨o,s,h1,h2,h3,h4⟩) hz hf
    refine .quiet h (Kk (x:=.agg C') ?_) (qey g.1 g.2);have m : Instr.fill (fun j=>some (j * i.esize,i.esize)) z.cells (n.map fun (x : Nat × Operand)=>(x.1,a.eval x.2)).toList = some C':=by simpa using hC
    simp only [Instr.build,Sem.run_bind,q,Result.andThen_ok,run_underlying k.und,Ze p,g3,m];rfl
  all_goals simp at ha
theorem qjm {t : TypeId} {i : TI} {pv v : V} {vp : Value} (h : RelH w Z inj st.hp st.nx) (ht : tiOf P t = some i) (hx : RelV w Z inj st.nx pv vp) (a : U0 st i pv = some v) :
    ∃ b o x,vp = .pointer (some ⟨b,o,none⟩)∧(Instr.loadAt t vp).run P w = .ok x w∧RelV w Z inj st.nx v x:=by
  obtain ⟨an,d,z,k⟩:=Ys ht
  have fin : ∀ {b o : Nat} {r : List V} {pp : Value},pp = .pointer (some ⟨b,o,none⟩)→pack i.agg r = some v→r.length = i.size→
      (∀ (k : Nat) (x : V),r[k]? = some x→∃ c,w.cell? ⟨b,o + k,none⟩ = some c∧RelV w Z inj st.nx x c)→∃ b o x,pp = .pointer (some ⟨b,o,none⟩)∧(Instr.loadAt t pp).run P w = .ok x w∧RelV w Z inj st.nx v x:=by
    intro b o r pp q al ad hc
    obtain ⟨x,ae,af⟩:=qrh (P:=P) k al ad hc
    exact ⟨b,o,x,q,by rw [q];exact ae,af⟩
  cases pv <;> simp only [U0,reduceCtorEq] at a
  case ref n es e j=>
    cases hx with
    | @ref _ _ _ _ b o hn hi=>
    cases hb : st.blk n with
    | none=>simp [hb] at a
    | some blk=>
      have hB:=(h.blk n blk hb).2
      cases blk with
      | dead=>simp [hb] at a
      | loop=>simp [hb] at a
      | mp=>simp [hb] at a
      | dat es' xs=>
        simp only [hb] at a;split at a <;> try simp at a
        rename_i cs q g;have q:=Nat.eq_of_beq_eq_true q;subst q
        cases hs : sub cs j i.size with
        | none=>simp [hs] at a
        | some r=>
          simp only [hs] at a;rw [qfb] at a;obtain ⟨u,s⟩:=qa5 hs;obtain ⟨b1,b2,f⟩:=hB;rcases f with ⟨f,_⟩ | ⟨b',o',arr,ty,f,b4,b5⟩
          · subst f;simp at g
          · rw [hi] at f;cases f;refine fin rfl a (by simpa using u) ?_;intro k x p;simp only [List.getElem?_map,Y3] at p;obtain ⟨y,hy,rfl⟩:=p;obtain ⟨m,_⟩:=s k y hy;obtain ⟨_,c,h4,h5⟩:=b5 e cs (j + k) y g m;exact ⟨c,by simp only [World.cell?,b4];rw [← h4];simp [Nat.add_assoc],.d h5⟩
      | cel es' xs=>
        simp only [hb] at a;split at a <;> try simp at a
        rename_i cs q g;have q:=Nat.eq_of_beq_eq_true q;subst q
        cases hs : sub cs j i.size with
        | none=>simp [hs] at a
        | some r=>
          simp only [hs] at a;obtain ⟨u,s⟩:=qa5 hs;obtain ⟨b1,b2,f⟩:=hB;rcases f with ⟨f,_⟩ | ⟨b',o',arr,ty,f,b4,b5⟩
          · subst f;simp at g
          · rw [hi] at f;cases f;refine fin rfl a u ?_;intro k x p;obtain ⟨m,_⟩:=s k x p;obtain ⟨_,c,h4,h5⟩:=b5 e cs (j + k) x g m;exact ⟨c,by simp only [World.cell?,b4];rw [← h4];simp [Nat.add_assoc],h5⟩
  case dref cs j=>
    cases hx with
    | @dref _ _ b o hz hc hr=>
    cases hs : sub cs j i.size with
    | none=>simp [hs] at a
    | some r=>
      simp only [hs] at a;rw [qfb] at a;obtain ⟨u,s⟩:=qa5 hs;refine fin rfl a (by simpa using u) ?_;intro k x p;simp only [List.getElem?_map,Y3] at p;obtain ⟨y,hy,rfl⟩:=p;obtain ⟨m,_⟩:=s k y hy;obtain ⟨c,l⟩:=hc _ _ m;exact ⟨c,by rw [← l,Nat.add_assoc],.d (hr _ _ _ m l)⟩
  case d x=>
    cases x <;> simp only [reduceCtorEq] at a
    rename_i cs
    cases hx with
    | d hx=>
    cases hx with
    | @box _ b o hz hc hr=>
    cases hs : sub cs 0 i.size with
    | none=>simp [hs] at a
    | some r=>
      simp only [hs] at a;rw [qfb] at a;obtain ⟨u,s⟩:=qa5 hs;refine fin rfl a (by simpa using u) ?_;intro k x p;simp only [List.getElem?_map,Y3] at p;obtain ⟨y,hy,rfl⟩:=p;obtain ⟨m,_⟩:=s k y hy;rw [Nat.zero_add] at m;obtain ⟨c,l⟩:=hc _ _ m;exact ⟨c,l,.d (hr _ _ _ m l)⟩
theorem qt1 {t : TypeId} {i : TI} {p : Operand} {pv v : V} (h : RelS w Z inj st a Ds) (f : tiOf P t = some i) (hp : st.ev p = some pv) (g : U0 st i pv = some v) :
    Kl st st v w Z inj ((do pure (Next.value (← Instr.loadAt t (a.eval p))) : Sem Next).run P w):=by
  obtain ⟨b,o,x,_,c,d⟩:=qjm (P:=P) h.heap f (Kd h hp) g;exact .quiet h (Kk c) d
end
end Go.Am
namespace Go.Am
open Go
variable {P : Program} {T : Tab}
theorem qdb : ∀ {c d : List (Option IntKind)} {a b : List DV} {r : Bool},Kj (c ++ d) a b = some r→
    ∃ p q,Kj c (a.take c.length) (b.take c.length) = some p∧Kj d (a.drop c.length) (b.drop c.length) = some q∧r = (p && q)
  | [],d,a,b,r,h=>⟨true,r,by simp [Kj],by simpa using h,qe⟩
  | k::c,d,a,b,r,h=>by
    match a,b,h with
    | x::a,y::b,h=>
      simp only [List.cons_append,Kj] at h
      split at h <;> simp at h
      rename_i u v f m
      obtain ⟨p,q,j,g,l⟩:=qdb m
      refine ⟨u && p,q,by simp [Kj,f,j],by simpa using g,?_⟩
      rw [← h,l,Bool.and_assoc]
    | [],_,h=>simp [Kj] at h
    | _::_,[],h=>simp [Kj] at h
theorem qai : ∀ {ks : List (Option IntKind)} {a b : List DV} {r : Bool},Kj ks a b = some r→a.length = ks.length∧b.length = ks.length
  | [],[],[],_,_=>⟨rfl,rfl⟩
  | k::ks,x::a,y::b,r,h=>by
    simp only [Kj] at h
    split at h <;> simp at h
    rename_i d c
    have:=qai c
    simp;omega
  | [],_::_,_,_,h=>by simp [Kj] at h
  | [],[],_::_,_,h=>by simp [Kj] at h
  | _::_,[],_,_,h=>by simp [Kj] at h
  | _::_,_::_,[],_,h=>by simp [Kj] at h
section
variable {w : World} {Z : Nat→Prop}
def DRel (w : World) (Z : Nat→Prop) (ds : List DV) (cs : Array Value) : Prop:=ds.length = cs.size∧∀ (i : Nat) (d : DV) (c : Value),ds[i]? = some d→cs[i]? = some c→RelD w Z d c
theorem DRel.extract {ds : List DV} {cs : Array Value} (h : DRel w Z ds cs) (o s : Nat) (hs : o + s≤ds.length) : DRel w Z ((ds.drop o).take s) (cs.extract o (o + s)):=by
  have b:=h.1;refine ⟨by simp;omega,fun i d c hd a=>?_⟩;rw [List.getElem?_take] at hd;split at hd
  · rw [List.getElem?_drop] at hd;rw [Array.getElem?_extract] at a;split at a
    · exact h.2 _ _ _ hd a
    · simp at a
  · simp at hd
theorem qci {t : TypeId} {d : TypeDesc} (h : P.underlying t = some d) : ∃ a,P.info? t = some a∧P.cellsOf t = a.size:=by
  cases hi : P.info? t with
  | none=>simp [Program.underlying,hi] at h
  | some a=>exact ⟨a,rfl,by simp [Program.cellsOf,hi]⟩
def EqOk (P : Program) (w : World) (Z : Nat→Prop) (k : Nat) (t : TypeId) (desc : TypeDesc) (ks : List (Option IntKind)) : Prop:=
  ∀ (xs ys : List DV) (X Y : Array Value) (r : Bool),DRel w Z xs X→DRel w Z ys Y→Kj ks xs ys = some r→
    (Kf desc = true→(Op.equalIn k t (.agg X) (.agg Y)).run P w = .ok r w)∧(Kf desc = false→ks.length = 1∧∀ x y,X[0]? = some x→Y[0]? = some y→(Op.equalIn k t x y).run P w = .ok r w)
def q7p (k : Nat) (X Y : Array Value) (f : Field) (_s : Option Bool × Unit) : Sem (ForInStep (Option Bool × Unit)):=
  if f.name ≠ "_" then do
    let __do_lift ← part f.type X f.offset
    let __do_lift_1 ← part f.type Y f.offset
    let __do_lift ← Op.equalIn k f.type __do_lift __do_lift_1
    if (!__do_lift) = true then pure (ForInStep.done (some false,())) else pure (ForInStep.yield (none,()))
  else pure (ForInStep.yield (none,()))
theorem qi4 {k : Nat} {t : TypeId} {desc : TypeDesc} {b : TypeInfo} {ks : List (Option IntKind)} (h : EqOk P w Z k t desc ks) (f : P.underlying t = some desc) (hi : P.info? t = some b) (hs : b.size = ks.length)
    {xs ys : List DV} {X Y : Array Value} (m : DRel w Z xs X) (s : DRel w Z ys Y) {o : Nat} (l : o + ks.length≤xs.length) (j : o + ks.length≤ys.length) {p : Bool}
    (hp : Kj ks ((xs.drop o).take ks.length) ((ys.drop o).take ks.length) = some p) :
    ∃ r q,(part t X o).run P w = .ok r w∧(part t Y o).run P w = .ok q w∧(Op.equalIn k t r q).run P w = .ok p w:=by
  obtain ⟨z,g⟩:=h _ _ _ _ p (m.extract o ks.length l) (s.extract o ks.length j) hp
  cases a : Kf desc with
  | true=>
    exact ⟨.agg (X.extract o (o + ks.length)),.agg (Y.extract o (o + ks.length)),by simp [part,q2g f,a,Ze hi,hs],by simp [part,q2g f,a,Ze hi,hs],z a⟩
  | false=>
    obtain ⟨n,g⟩:=g a;have v:=m.1;have u:=s.1;obtain ⟨x,d⟩:=Yc (xs:=X) (i:=o) q0;obtain ⟨y,c⟩:=Yc (xs:=Y) (i:=o) q0;refine ⟨x,y,by simp [part,q2g f,a,d],by simp [part,q2g f,a,c],g x y ?_ ?_⟩
    · rw [Array.getElem?_extract,n,qs (by have:=Zi d;omega)];exact d
    · rw [Array.getElem?_extract,n,qs (by have:=Zi c;omega)];exact c
theorem qi1 (d : Nat) (k : Nat) (v : ∀ t desc ks,P.underlying t = some desc→Kn P d t = some ks→EqOk P w Z k t desc ks)
    (xs ys : List DV) (X Y : Array Value) (n : DRel w Z xs X) (s : DRel w Z ys Y) : ∀ (l : List Field) (o : Nat) (r : Bool) (ks : List (Option IntKind)),tile P (Kn P d) o l = some ks→o + ks.length≤xs.length→o + ks.length≤ys.length→
    Kj ks (xs.drop o) (ys.drop o) = some r→(forIn l ((none : Option Bool),()) (q7p k X Y) : Sem (Option Bool × Unit)).run P w = .ok (if r then (none,()) else (some false,())) w
  | [],o,r,ks,ht,_,_,hc=>by
    simp only [tile,Option.some.injEq] at ht;subst ht
    obtain ⟨h1,y⟩:=qai hc
    rw [List.eq_nil_of_length_eq_zero h1,List.eq_nil_of_length_eq_zero y] at hc
    simp [Kj] at hc;subst hc
    simp
  | f::l,o,r,ks,ht,hlx,hly,hc=>by
    simp only [tile] at ht
    cases a : Kn P d f.type with
    | none=>simp [a] at ht
    | some ka=>
      simp only [a] at ht
      split at ht <;> try simp at ht
      rename_i c
      obtain ⟨rfl,hn,ab⟩:=c
      cases g : tile P (Kn P d) (f.offset + ka.length) l with
      | none=>simp [g] at ht
      | some kb=>
        simp only [g,Option.some.injEq] at ht;subst ht
        simp only [List.length_append] at hlx hly
        obtain ⟨p,q,hp,x,j⟩:=qdb hc
        rw [List.drop_drop,List.drop_drop] at x
        obtain ⟨h,b⟩ : ∃ h,P.underlying f.type = some h:=by
          cases z : P.underlying f.type with
          | none=>cases d <;> simp [Kn,z] at a
          | some h=>exact ⟨h,rfl⟩
        obtain ⟨jf,m,u⟩:=qci b
        obtain ⟨vx,vy,g1,g2,g3⟩:=qi4 (v f.type h ka b a) b m q0 n s (o:=f.offset) q0 q0 hp
        rw [List.forIn_cons]
        simp only [q7p,qs hn,Sem.run_bind,g1,g2,g3,Result.andThen_ok]
        cases p with
        | false=>simp [j]
        | true=>
          have:=qi1 d k v xs ys X Y n s l (f.offset + ka.length) q kb g q0 q0 x;simp only [Bool.true_and] at j;subst j;simpa using this
def q7q (k : Nat) (e : TypeId) (n : Nat) (X Y : Array Value) (i : Nat) (_s : Option Bool × Unit) : Sem (ForInStep (Option Bool × Unit)):=do
  let __do_lift ← part e X (i * n)
  let __do_lift_1 ← part e Y (i * n)
  let __do_lift ← Op.equalIn k e __do_lift __do_lift_1
  if (!__do_lift) = true then pure (ForInStep.done (some false,())) else pure (ForInStep.yield (none,()))
theorem qi2 {k : Nat} {e : TypeId} {desc : TypeDesc} {b : TypeInfo} {a : List (Option IntKind)} (j : EqOk P w Z k e desc a) (g : P.underlying e = some desc) (hi : P.info? e = some b) (hs : b.size = a.length)
    {xs ys : List DV} {X Y : Array Value} (f : DRel w Z xs X) (h : DRel w Z ys Y) : ∀ (m s : Nat) (r : Bool),(s + m) * a.length≤xs.length→(s + m) * a.length≤ys.length→
    Kj (List.replicate m a).flatten (xs.drop (s * a.length)) (ys.drop (s * a.length)) = some r→(forIn (List.range' s m) ((none : Option Bool),()) (q7q k e b.size X Y) : Sem (Option Bool × Unit)).run P w = .ok (if r then (none,()) else (some false,())) w
  | 0,s,r,_,_,hc=>by
    simp only [List.replicate_zero,List.flatten_nil] at hc
    obtain ⟨l,t⟩:=qai hc
    rw [List.eq_nil_of_length_eq_zero l,List.eq_nil_of_length_eq_zero t] at hc
    simp [Kj] at hc;subst hc
    simp
  | m + 1,s,r,hlx,hly,hc=>by
    rw [List.replicate_succ,List.flatten_cons] at hc
    obtain ⟨p,q,hp,d,c⟩:=qdb hc
    rw [List.drop_drop,List.drop_drop] at d
    have u : s * a.length + a.length = (s + 1) * a.length:=by rw [Nat.add_mul];simp
    have y : (s + 1) * a.length + m * a.length = (s + (m + 1)) * a.length:=by rw [← Nat.add_mul];congr 1;omega
    obtain ⟨vx,z,x,v,n⟩:=qi4 j g hi hs f h (o:=s * a.length) q0 q0 hp
    rw [List.range'_succ,List.forIn_cons]
    simp only [q7q,hs,Sem.run_bind,x,v,n,Result.andThen_ok]
    cases p with
    | false=>simp [c]
    | true=>
      rw [u] at d
      have:=qi2 j g hi hs f h m (s + 1) q (by rw [Nat.add_mul];omega) (by rw [Nat.add_mul];omega) d
      simp only [Bool.true_and] at c
      subst c
      rw [hs] at this
      simpa using this
theorem qar : ∀ (d : Nat) (t : TypeId) (desc : TypeDesc) (ks : List (Option IntKind)),P.underlying t = some desc→Kn P d t = some ks→∀ k,d≤k→EqOk P w Z k t desc ks
  | 0,t,desc,ks,hu,hp,k,hk=>by simp [Kn] at hp
  | d + 1,t,desc,ks,hu,hp,k,hk=>by
    obtain ⟨k,rfl⟩ : ∃ k',k = k' + 1:=⟨k - 1,q0⟩
    intro xs ys X Y r u z c
    obtain ⟨q,s⟩:=qai c
    simp only [Kn,hu] at hp
    cases desc <;> simp only [reduceCtorEq,Option.some.injEq] at hp
    case bool=>
      subst hp
      refine ⟨by simp [Kf],fun _=>⟨rfl,fun x y l h=>?_⟩⟩
      match xs,ys,q,s,c with
      | [a],[b],_,_,c=>
        have ra:=u.2 0 a x rfl l
        have rb:=z.2 0 b y rfl h
        simp only [Kj] at c
        cases a <;> cases b <;> simp only [q3a,reduceCtorEq] at c
        simp at c;subst c
        cases ra;cases rb;simp [Op.equalIn,run_underlying hu]
    case int k0=>
      subst hp
      refine ⟨by simp [Kf],fun _=>⟨rfl,fun x y l h=>?_⟩⟩
      match xs,ys,q,s,c with
      | [a],[b],_,_,c=>
        have ra:=u.2 0 a x rfl l
        have rb:=z.2 0 b y rfl h
        simp only [Kj] at c
        cases a <;> cases b <;> simp only [q3a,reduceCtorEq] at c
        split at c <;> simp at c
        rename_i p v
        split at p <;> simp at p
        rename_i ad
        obtain ⟨rfl,rfl⟩:=ad
        subst p c
        simp at v;subst v
        cases ra;cases rb;simp [Op.equalIn,run_underlying hu]
    case struct fs=>
      refine ⟨fun _=>?_,by simp [Kf]⟩
      split at hp
      · simp at hp
      · rename_i ab
        simp only [Op.equalIn,Sem.run_bind,run_underlying hu,Result.andThen_ok,run_program,ab,Bool.false_eq_true,if_false]
        have:=qi1 (P:=P) (w:=w) (Z:=Z) d k (fun t desc ks p v=>qar d t desc ks p v k q0) xs ys X Y u z fs.toList 0 r ks hp q0 q0 (by simpa using c)
        rw [Array.forIn_toList] at this
        have e : (fun (f : Field) (_s : Option Bool × Unit)=>q7p k X Y f _s) = q7p k X Y:=rfl
        unfold q7p at this
        rw [this]
        cases r <;> simp
    case array n e=>
      refine ⟨fun _=>?_,by simp [Kf]⟩
      cases g : Kn P d e with
      | none=>simp [g] at hp
      | some a=>
        simp only [g] at hp
        split at hp
        · rename_i aj
          simp only [Option.some.injEq] at hp;subst hp
          obtain ⟨m,j⟩ : ∃ m,P.underlying e = some m:=by
            cases aa : P.underlying e with
            | none=>cases d <;> simp [Kn,aa] at g
            | some m=>exact ⟨m,rfl⟩
          obtain ⟨je,o,af⟩:=qci j
          have ag : (List.replicate n a).flatten.length = n * a.length:=by simp
          have:=qi2 (qar d e m a j g k q0) j o q0 u z n 0 r (by rw [Nat.zero_add];omega) (by rw [Nat.zero_add];omega) (by simpa using c)
          simp only [Op.equalIn,Sem.run_bind,run_underlying hu,Result.andThen_ok,Ze o,Std.Legacy.Range.forIn_eq_forIn_range']
          have e : (fun (i : Nat) (_s : Option Bool × Unit)=>q7q k e je.size X Y i _s) = q7q k e je.size X Y:=rfl
          unfold q7q at this
          simp only [Std.Legacy.Range.size,Nat.sub_zero,Nat.add_sub_cancel,Nat.div_one]
          rw [this]
          cases r <;> simp
        · simp at hp
end
section
variable {w : World} {Z : Nat→Prop} {inj : Inj} {st : AS} {a : Act} {Ds : List Nat}
theorem qnv {op : BinOp} {k : IntKind} {x y : Int} {r : DV} (h : binI op k x y = some r) (hs : op≠.shl∧op≠.shr) : ∃ v,(∀ t,(binOp op t (.int k x) (.int k y)).run P w = .ok v w)∧RelD w Z r v:=by
  cases op <;> simp only [binI,reduceCtorEq,Option.some.injEq] at h <;> try (simp at hs;done)
  case add=>subst h;exact ⟨_,fun t=>by simp [binOp,Op.intArith],.int _ _⟩
  case sub=>subst h;exact ⟨_,fun t=>by simp [binOp,Op.intArith],.int _ _⟩
  case mul=>subst h;exact ⟨_,fun t=>by simp [binOp,Op.intArith],.int _ _⟩
  case quo=>split at h <;> simp at h;subst h;rename_i a;exact ⟨_,fun t=>by simp [binOp,Op.intDiv,a],.int _ _⟩
  case rem=>split at h <;> simp at h;subst h;rename_i a;exact ⟨_,fun t=>by simp [binOp,Op.intDiv,a],.int _ _⟩
  case and=>subst h;exact ⟨_,fun t=>by simp [binOp,Op.intBits],.int _ _⟩
  case or=>subst h;exact ⟨_,fun t=>by simp [binOp,Op.intBits],.int _ _⟩
  case xor=>subst h;exact ⟨_,fun t=>by simp [binOp,Op.intBits],.int _ _⟩
  case eql=>subst h;exact ⟨_,fun t=>by simp [binOp,Op.intCmp],.bool _⟩
  case neq=>subst h;exact ⟨_,fun t=>by simp [binOp,Op.intCmp],.bool _⟩
  case lss=>subst h;exact ⟨_,fun t=>by simp [binOp,Op.intCmp],.bool _⟩
  case leq=>subst h;exact ⟨_,fun t=>by simp [binOp,Op.intCmp],.bool _⟩
  case gtr=>subst h;exact ⟨_,fun t=>by simp [binOp,Op.intCmp],.bool _⟩
  case geq=>subst h;exact ⟨_,fun t=>by simp [binOp,Op.intCmp],.bool _⟩
theorem qlp {op : BinOp} {k b : IntKind} {x y : Int} {r : DV} (h : q8m op k x y = some r) : ∃ v,(∀ t,(binOp op t (.int k x) (.int b y)).run P w = .ok v w)∧RelD w Z r v:=by
  unfold q8m at h;split at h <;> try simp at h
  rename_i a;cases op <;> simp only [reduceCtorEq,Option.some.injEq] at h
  case shl=>subst h;exact ⟨_,fun t=>by simp [binOp,Op.shift,a],.int _ _⟩
  case shr=>subst h;exact ⟨_,fun t=>by simp [binOp,Op.shift,a],.int _ _⟩
theorem q13 {op : BinOp} {t : TypeId} {x y : Operand} {u v : Value} (b : ∀ c,u≠.agg c) (a : u≠.nilIface) : (eqGuard op t x y u v).run P w = .ok () w:=by
  unfold eqGuard;cases op <;> simp <;> cases u <;> simp_all
theorem qhz {op : BinOp} {t : TypeId} {x y : Operand} {u v : Array Value} (h : P.eqGuardType P.depth t = false) : (eqGuard op t x y (.agg u) (.agg v)).run P w = .ok () w:=by
  unfold eqGuard;cases op <;> simp [h]
end
end Go.Am
namespace Go.Am
open Go
variable {P : Program} {T : Tab}
section
variable {w : World} {Z : Nat→Prop} {inj : Inj} {st : AS} {a : Act} {Ds : List Nat}
theorem qmt {a : TypeId → Option (List (Option IntKind))} {k : Nat} (c : ∀ t ks, a t = some ks → P.eqGuardType k t = false) : ∀ {l : List Field} {o : Nat} {ks}, tile P a o l = some ks → l.any (fun f => f.name != "_" && P.eqGuardType k f.type) = false
  | [],_,_,_=>rfl
  | f::r,o,ks,h=>by
    simp only [tile] at h
    cases hp : a f.type with
    | none=>simp [hp] at h
    | some ka=>
      simp only [hp] at h
      split at h <;> try simp at h
      cases b : tile P a (o + ka.length) r with
      | none=>simp [b] at h
      | some kb=>
        have:=qmt c b
        simp only [List.any_cons,this,c _ _ hp,Bool.and_false,Bool.or_false]
theorem qf1 : ∀ (d : Nat) (t : TypeId) (ks : List (Option IntKind)),Kn P d t = some ks→∀ k,d≤k→P.eqGuardType k t = false
  | 0,t,ks,h,k,hk=>by simp [Kn] at h
  | d + 1,t,ks,h,k,hk=>by
    obtain ⟨k,rfl⟩ : ∃ b,k = b + 1:=⟨k - 1,q0⟩
    simp only [Kn] at h
    simp only [Program.eqGuardType]
    cases c : P.underlying t with
    | none=>rfl
    | some desc=>
      cases desc <;> simp only [c,reduceCtorEq] at h <;> try rfl
      case array n e=>
        cases hp : Kn P d e with
        | none=>simp [hp] at h
        | some a=>exact qf1 d e a hp k q0
      case struct fs=>
        split at h <;> try simp at h
        have:=qmt (fun t ks hp=>qf1 d t ks hp k q0) h
        simp only []
        rw [← Array.any_toList];exact this
theorem qkf {op : BinOp} {t : TypeId} {i : TI} {x y : Operand} {p q : List DV} {ks : List (Option IntKind)} {r : Bool} {b : DV} (h : RelS w Z inj st a Ds) (v : tiOf P t = some i) (s : st.ev x = some (.d (.agg p))) (hy : st.ev y = some (.d (.agg q)))
    (u : i.eqs = some ks) (hc : Kj ks p q = some r) (m : (op = .eql∧b = .bool r)∨(op = .neq∧b = .bool (!r))) :
    Kl st st (.d b) w Z inj ((do pure (Next.value (← (do eqGuard op t x y (a.eval x) (a.eval y);binOp op t (a.eval x) (a.eval y) : Sem Value)) ) : Sem Next).run P w):=by
  obtain ⟨o,d,z,k⟩:=Ys v;have g:=Kd h s;have j:=Kd h hy;generalize a.eval x = vx at g ⊢;generalize a.eval y = vy at j ⊢
  cases g with | d g=>cases g with | @agg _ X hl1 hr1=>
  cases j with | d j=>cases j with | @agg _ Y hl2 hr2=>
  obtain ⟨f,l⟩:=k.eqs ks u;have n : P.eqGuardType P.depth t = false:=qf1 8 t ks f _ (by unfold Program.depth Made.depth;omega);have c:=(qar (w:=w) (Z:=Z) 8 t d ks k.und f Op.maxDepth (by unfold Op.maxDepth;omega) p q X Y r ⟨hl1,hr1⟩ ⟨hl2,hr2⟩ hc).1 l;rcases m with ⟨rfl,rfl⟩ | ⟨rfl,rfl⟩
  · exact .quiet h (Kk (x:=.bool r) (by simp [qhz n,binOp,Op.equal,c])) (.d (.bool _))
  · exact .quiet h (Kk (x:=.bool (!r)) (by simp [qhz n,binOp,Op.equal,c])) (.d (.bool _))
theorem qso {op : BinOp} {t : TypeId} {x y : Operand} {k m : IntKind} {p q : Int} {b : DV} (h : RelS w Z inj st a Ds) (o : st.ev x = some (.d (.int k p))) (z : st.ev y = some (.d (.int m q)))
    (c : binD op (.int k p) (.int m q) = some b) :
    Kl st st (.d b) w Z inj ((do pure (Next.value (← (do eqGuard op t x y (a.eval x) (a.eval y);binOp op t (a.eval x) (a.eval y) : Sem Value)) ) : Sem Next).run P w):=by
  have j:=Kd h o;have l:=Kd h z;generalize a.eval x = vx at j ⊢;generalize a.eval y = vy at l ⊢
  cases j with | d j=>
  cases j
  cases l with | d l=>
  cases l;have n:=q13 (P:=P) (w:=w) (op:=op) (t:=t) (x:=x) (y:=y) (u:=.int k p) (v:=.int m q) qe qe
  have key : ∃ v,(∀ t,(binOp op t (.int k p) (.int m q)).run P w = .ok v w)∧RelD w Z b v:=by
    unfold binD at c;split at c
    · rename_i g f;cases g;cases f;exact qlp c
    · rename_i g f;cases g;cases f;exact qlp c
    · rename_i s n2 g f;cases g;cases f;split at c <;> try simp at c
      rename_i hk;subst hk;exact qnv c ⟨fun e=>s e,fun e=>n2 e⟩
    · simp at c
  obtain ⟨v,hv,r⟩:=key;exact .quiet h (Kk (x:=v) (by simp [n,hv])) (.d r)
theorem maxD : Op.maxDepth = 9999 + 1:=rfl
theorem qpt {t : TypeId} (h : P.underlying t = some .bool) (p q : Bool) : (Op.equal t (.bool p) (.bool q)).run P w = .ok (p == q) w:=by
  rw [Op.equal,maxD,Op.equalIn];simp only [Sem.run_bind,run_underlying h,Result.andThen_ok];rfl
theorem qi3 {t e : TypeId} (h : P.underlying t = some (.slice e)) (a : Option Addr) (n c : Nat) : (Op.equal t (.slice none 0 0) (.slice a n c)).run P w = .ok a.isNone w:=by
  rw [Op.equal,maxD,Op.equalIn];simp only [Sem.run_bind,run_underlying h,Result.andThen_ok];rfl
theorem qpx {t e : TypeId} (h : P.underlying t = some (.slice e)) (a : Addr) (n c : Nat) : (Op.equal t (.slice (some a) n c) (.slice none 0 0)).run P w = .ok false w:=by
  rw [Op.equal,maxD,Op.equalIn];simp only [Sem.run_bind,run_underlying h,Result.andThen_ok];rfl
theorem qpu {t : TypeId} {x y z} (h : P.underlying t = some (.func x y z)) : (Op.equal t .nilFunc .nilFunc).run P w = .ok true w:=by
  rw [Op.equal,maxD,Op.equalIn];simp only [Sem.run_bind,run_underlying h,Result.andThen_ok];rfl
theorem qpv {t : TypeId} {x y z} (h : P.underlying t = some (.func x y z)) (f g c) : (Op.equal t .nilFunc (.func f g c)).run P w = .ok false w:=by
  rw [Op.equal,maxD,Op.equalIn];simp only [Sem.run_bind,run_underlying h,Result.andThen_ok];rfl
theorem qpw {t : TypeId} {x y z} (h : P.underlying t = some (.func x y z)) (f g c) : (Op.equal t (.func f g c) .nilFunc).run P w = .ok false w:=by
  rw [Op.equal,maxD,Op.equalIn];simp only [Sem.run_bind,run_underlying h,Result.andThen_ok];rfl
theorem q37 {t : TypeId} {u v : Value} {r : Bool} (d : (Op.equal t u v).run P w = .ok r w) (a : ∀ k n,u≠.int k n) (f : ∀ k n,u≠.float k n) (c : ∀ k n m,u≠.complex k n m) (b : ∀ s,u≠.string s) :
    (binOp .eql t u v).run P w = .ok (.bool r) w∧(binOp .neq t u v).run P w = .ok (.bool (!r)) w:=by
  cases u <;> first | (exfalso;exact a _ _ rfl) | (exfalso;exact f _ _ rfl) | (exfalso;exact c _ _ _ rfl) | (exfalso;exact b _ rfl) | (constructor <;> (simp only [binOp];simp [d]))
theorem qsn {op : BinOp} {t : TypeId} {i : TI} {x y : Operand} {p q : DV} {b : DV} (h : RelS w Z inj st a Ds) (ht : tiOf P t = some i) (hx : st.ev x = some (.d p)) (hy : st.ev y = some (.d q))
    (n : binE op i.kind p q = some b) :
    Kl st st (.d b) w Z inj ((do pure (Next.value (← (do eqGuard op t x y (a.eval x) (a.eval y);binOp op t (a.eval x) (a.eval y) : Sem Value)) ) : Sem Next).run P w):=by
  obtain ⟨ac,d,z,k⟩:=Ys ht;have j:=Kd h hx;have l:=Kd h hy;generalize a.eval x = vx at j ⊢;generalize a.eval y = vy at l ⊢
  cases j with | d j=>
  cases l with | d l=>
  have key : ∀ r,eqK i.kind p q = some r→(eqGuard op t x y vx vy).run P w = .ok () w∧(binOp .eql t vx vy).run P w = .ok (.bool r) w∧(binOp .neq t vx vy).run P w = .ok (.bool (!r)) w:=by
    intro r c;have m:=k.kind;unfold Zf at m;unfold eqK at c;split at c <;> simp at c <;> (rename_i o;simp only [o] at m)
    · subst c;obtain ⟨rfl,_⟩:=m;cases j;cases l;exact ⟨q13 qe qe,q37 (qpt k.und _ _) qe qe qe qe⟩
    · subst c;cases j;cases l;exact ⟨q13 qe qe,by simp only [binOp,Op.stringOp];rfl,by simp only [binOp,Op.stringOp];rfl⟩
    · subst c;obtain ⟨e,ie,v,ze,rfl,_⟩:=m;cases j;cases l;exact ⟨q13 qe qe,q37 (qi3 k.und _ _ _) qe qe qe qe⟩
    · subst c;obtain ⟨e,ie,v,ze,rfl,_⟩:=m;cases j;cases l;exact ⟨q13 qe qe,q37 (qi3 k.und _ _ _) qe qe qe qe⟩
    · subst c;obtain ⟨e,ie,v,ze,rfl,_⟩:=m;cases j;cases l;exact ⟨q13 qe qe,q37 (qpx k.und _ _ _) qe qe qe qe⟩
    · subst c;obtain ⟨⟨e,f,g,rfl⟩,_⟩:=m;cases j;cases l;exact ⟨q13 qe qe,q37 (qpu k.und) qe qe qe qe⟩
    · subst c;obtain ⟨⟨e,f,g,rfl⟩,_⟩:=m;cases j;cases l;exact ⟨q13 qe qe,q37 (qpv k.und _ _ _) qe qe qe qe⟩
    · subst c;obtain ⟨⟨e,f,g,rfl⟩,_⟩:=m;cases j;cases l;exact ⟨q13 qe qe,q37 (qpw k.und _ _ _) qe qe qe qe⟩
  unfold binE at n;split at n
  · cases c : eqK i.kind p q with
    | none=>simp [c] at n
    | some r=>
      simp [c] at n;subst n;obtain ⟨u,s,_⟩:=key r c;exact .quiet h (Kk (x:=.bool r) (by simp [u,s])) (.d (.bool _))
  · cases c : eqK i.kind p q with
    | none=>simp [c] at n
    | some r=>
      simp [c] at n;subst n;obtain ⟨u,_,s⟩:=key r c;exact .quiet h (Kk (x:=.bool (!r)) (by simp [u,s])) (.d (.bool _))
  · simp at n
end
end Go.Am
namespace Go.Am
open Go
variable {P : Program} {T : Tab}
section
variable {w : World} {Z : Nat→Prop} {inj : Inj} {st : AS} {a : Act} {Ds : List Nat}
theorem qta {op : UnOp} {x : Operand} {p b : DV} (h : RelS w Z inj st a Ds) (g : st.ev x = some (.d p)) (c : unD op p = some b) :
    Kl st st (.d b) w Z inj ((do pure (Next.value (← Op.unary op (a.eval x))) : Sem Next).run P w):=by
  have f:=Kd h g;generalize a.eval x = vx at f ⊢
  cases f with | d f=>
  unfold unD at c;split at c
  · simp at c;subst c;cases f;exact .quiet h (Kk (by simp [Op.unary,Op.intArith])) (.d (.int _ _))
  · simp at c;subst c;cases f;exact .quiet h (Kk (by simp [Op.unary])) (.d (.bool _))
  · cases f;simp only [binI,Option.some.injEq] at c;subst c;exact .quiet h (Kk (by simp [Op.unary,Op.intBits])) (.d (.int _ _))
  · simp at c
theorem qst {src dst : TypeId} {i j : TI} {x : Operand} {k0 s k : IntKind} {n : Int} (h : RelS w Z inj st a Ds) (hi : tiOf P src = some i) (t : tiOf P dst = some j) (m : i.kind = .int k0) (l : j.kind = .int k) (r : st.ev x = some (.d (.int s n))) :
    Kl st st (.d (.int k (k.wrap n))) w Z inj ((do pure (Next.value (← convert src dst (a.eval x))) : Sem Next).run P w):=by
  obtain ⟨p,d,z,o⟩:=Ys hi;obtain ⟨f,u,v,q⟩:=Ys t;have c:=o.kind;have g:=q.kind;unfold Zf at c g;simp only [m,l] at c g;obtain ⟨rfl,_⟩:=c;obtain ⟨rfl,_⟩:=g;have b:=Kd h r;generalize a.eval x = vx at b ⊢
  cases b with | d b=>
  cases b;refine .quiet h (Kk (x:=.int k (k.wrap n)) ?_) (.d (.int _ _));simp only [convert,Sem.run_bind,run_underlying o.und,run_underlying q.und,Result.andThen_ok];simp [Conv.intToInt]
theorem qt4 {f : FuncId} {first b : Array Operand} {j : List V} (h : RelS w Z inj st a Ds) (l : first.size = 0) (n : evL st.ev b.toList = some j) :
    Kl st st (match allD j with | some ds=>.d (.fn f ds) | none=>.fn f j) w Z inj ((do pure (Next.value (← Instr.makeFunc (.func f) (first.map a.eval) (b.map a.eval))) : Sem Next).run P w):=by
  have g:=q3e h n;have m : first.map a.eval = #[]:=by apply Array.eq_empty_of_size_eq_zero;simpa using l
  have k : (b.toList.map a.eval).toArray = b.map a.eval:=by apply Array.ext';simp
  rw [k] at g;refine .quiet h (Kk (x:=.func (.func f) #[] (b.map a.eval)) (by simp [Instr.makeFunc,m])) ?_;split
  · rename_i ds hd;have:=q36 hd;subst this;refine .d (.fn (by simpa using g.1) fun i d c hd o=>?_);have:=g.2 i (.d d) c (by simp [hd]) o
    cases this with | d h=>exact h
  · exact .fn g.1 g.2
theorem qt3 {f : FuncId} {first b : Array Operand} {j : List V} {ds : List DV} (h : RelS w Z inj st a Ds) (l : b.size = 0) (n : evL st.ev first.toList = some j) (hd : allD j = some ds) :
    Kl st st (.d (.bfn f ds)) w Z inj ((do pure (Next.value (← Instr.makeFunc (.func f) (first.map a.eval) (b.map a.eval))) : Sem Next).run P w):=by
  have g:=q3e h n;have m : b.map a.eval = #[]:=by apply Array.eq_empty_of_size_eq_zero;simpa using l
  have k : (first.toList.map a.eval).toArray = first.map a.eval:=by apply Array.ext';simp
  rw [k] at g;refine .quiet h (Kk (x:=.func (.func f) (first.map a.eval) #[]) (by simp [Instr.makeFunc,m])) ?_;have:=q36 hd;subst this;refine .d (.bfn (by simpa using g.1) fun i d c hd o=>?_);have:=g.2 i (.d d) c (by simp [hd]) o
  cases this with | d h=>exact h
theorem qkg {x : Operand} {k : Nat} {v : V} (h : RelS w Z inj st a Ds) (g : (∃ f d,st.ev x = some (.d (.tup f))∧f[k]? = some d∧v = .d d)∨∃ f,st.ev x = some (.tup f)∧f[k]? = some v) :
    Kl st st v w Z inj ((do pure (Next.value (← Instr.extract (a.eval x) k)) : Sem Next).run P w):=by
  rcases g with ⟨f,d,g,j,rfl⟩ | ⟨f,g,j⟩
  · have b:=Kd h g;generalize a.eval x = vx at b ⊢
    cases b with | d b=>
    cases b with | @tup _ cs hl hr=>
    obtain ⟨c,l⟩:=Yc (xs:=cs) (i:=k) (by have:=Kh j;omega);exact .quiet h (Kk (x:=c) (by simp [Instr.extract,l])) (.d (hr _ _ _ j l))
  · have b:=Kd h g;generalize a.eval x = vx at b ⊢
    cases b with | @tup _ cs hl hr=>
    obtain ⟨c,l⟩:=Yc (xs:=cs) (i:=k) (by have:=Kh j;omega);exact .quiet h (Kk (x:=c) (by simp [Instr.extract,l])) (hr _ _ _ j l)
theorem qgh {nx : Nat} {v : V} {x : Value} {cs : List V} (h : RelV w Z inj nx v x) (a : agD v = some cs) : ∃ xs,x = .agg xs∧LRel w Z inj nx cs xs:=by
  unfold agD at a;split at a <;> simp at a
  · subst a
    cases h with | d h=>
    cases h with | @agg _ X hl hr=>
    refine ⟨X,rfl,by simpa using hl,fun i d c hd g=>?_⟩;simp only [List.getElem?_map,Y3] at hd;obtain ⟨f,b,rfl⟩:=hd;exact .d (hr i f c b g)
  · subst a
    cases h with | @agg _ X hl hr=>exact ⟨X,rfl,hl,hr⟩
theorem qsw {s : TypeId} {i : TI} {x : Operand} {g v : V} {f off size : Nat} {ag : Bool} {cs r : List V} (h : RelS w Z inj st a Ds) (hi : tiOf P s = some i) (l : st.ev x = some g) (q : i.kind = .struct) (hf : i.flds[f]? = some (off,size,ag))
    (ha : agD g = some cs) (hs : sub cs off size = some r) (hp : pack ag r = some v) :
    Kl st st v w Z inj ((do pure (Next.value (← Instr.field s (a.eval x) f)) : Sem Next).run P w):=by
  obtain ⟨j,d,z,k⟩:=Ys hi;have b:=k.kind;unfold Zf at b;simp only [q] at b;obtain ⟨fs,rfl,c⟩:=b;obtain ⟨fd,jf,df,g1,g2,g3,m,g5,p,t⟩:=qe0 c hf;obtain ⟨xs,u,hl⟩:=qgh (Kd h l) ha;subst m p t;obtain ⟨y,o,n⟩:=qkn (P:=P) g2 g3 hl hs hp;refine .quiet h (Kk (x:=y) ?_) n;simp only [Instr.field,Sem.run_bind,run_underlying k.und,Result.andThen_ok,g1,u,asAgg,Sem.run_pure,o]
theorem qsy {t : TypeId} {i : TI} {x f : Operand} {j v : V} {k0 : IntKind} {n : Int} {cs r : List V} (h : RelS w Z inj st a Ds) (hi : tiOf P t = some i) (p : st.ev x = some j) (hn : st.ev f = some (.d (.int k0 n))) (s : i.kind = .array)
    (ha : agD j = some cs) (h0 : 0≤n∧n < i.len) (hs : sub cs (n.toNat * i.esize) i.esize = some r) (hp : pack i.eagg r = some v) :
    Kl st st v w Z inj ((do pure (Next.value (← Instr.index t (a.eval x) (a.eval f))) : Sem Next).run P w):=by
  obtain ⟨m,d,z,k⟩:=Ys hi;have b:=k.kind;unfold Zf at b;simp only [s] at b;obtain ⟨e,ie,de,rfl,o,g2,g,g4,g5⟩:=b;obtain ⟨xs,u,hl⟩:=qgh (Kd h p) ha;have c:=Kd h hn;generalize a.eval f = vx at c ⊢
  cases c with | d c=>
  cases c;rw [← g] at hs;rw [← g5] at hp;obtain ⟨y,l,q⟩:=qkn (P:=P) o g2 hl hs hp;refine .quiet h (Kk (x:=y) ?_) q;simp only [Instr.index,asIntOf,Sem.run_bind,Sem.run_pure,run_underlying k.und,Result.andThen_ok,u];rw [Sem.run_ite,qs h0];simp only [Sem.run_bind,Ze o,Result.andThen_ok,g];rw [g] at l;exact l
theorem qt0 {t : TypeId} {i : TI} {x j : Operand} {k0 : IntKind} {n : Int} {s : ByteArray} {b : UInt8} (h : RelS w Z inj st a Ds) (hi : tiOf P t = some i) (m : st.ev x = some (.d (.str s))) (p : st.ev j = some (.d (.int k0 n))) (o : i.kind = .str)
    (hb : (if 0≤n then s[n.toNat]? else none) = some b) :
    Kl st st (.d (.int .u8 b.toNat)) w Z inj ((do pure (Next.value (← Instr.index t (a.eval x) (a.eval j))) : Sem Next).run P w):=by
  obtain ⟨l,d,z,k⟩:=Ys hi;have c:=k.kind;unfold Zf at c;simp only [o] at c;obtain ⟨rfl,_⟩:=c;have g:=Kd h m;have f:=Kd h p;generalize a.eval x = vy at g ⊢;generalize a.eval j = vx at f ⊢
  cases g with | d g=>
  cases g
  cases f with | d f=>
  cases f;refine .quiet h (Kk (x:=.int .u8 b.toNat) ?_) (.d (.int _ _));simp only [Instr.index,asIntOf,Sem.run_bind,Sem.run_pure,run_underlying k.und,Result.andThen_ok,hb]
theorem qsx {s : TypeId} {i : TI} {p : Operand} {pv v : V} {f off size : Nat} {ag : Bool} (h : RelS w Z inj st a Ds) (hi : tiOf P s = some i) (u : st.ev p = some pv) (hk : i.kind = .struct) (y : i.flds[f]? = some (off,size,ag))
    (hp : qdw off pv = some v) :
    Kl st st v w Z inj ((do pure (Next.value (← Instr.fieldAt s (a.eval p) f)) : Sem Next).run P w):=by
  obtain ⟨q,d,z,k⟩:=Ys hi;have l:=k.kind;unfold Zf at l;simp only [hk] at l;obtain ⟨fs,rfl,m⟩:=l;obtain ⟨fd,jf,df,g1,g2,g3,t,r,g6,g7⟩:=qe0 m y;have g:=Kd h u;generalize a.eval p = vx at g ⊢
  have c : ∀ b o,(Instr.fieldAt s (.pointer (some ⟨b,o,none⟩)) f).run P w = .ok (.pointer (some ⟨b,o + off,none⟩)) w:=by
    intro b o;simp only [Instr.fieldAt,Instr.sureAddr,fieldPlace,Sem.run_bind,run_underlying k.und,Result.andThen_ok,g1,Sem.run_pure,Ze g2,Sem.run_ite,t,qx r,Jv,g6]
  cases pv <;> simp only [qdw,reduceCtorEq,Option.some.injEq] at hp
  case ref n es ii j=>
    subst hp
    cases g with | @ref _ _ _ _ b o h1 h2=>
    refine .quiet h (Kk (c _ _)) ?_;have:=RelV.ref (w:=w) (Z:=Z) (nx:=st.nx) (es:=es) (i:=ii) (j:=j + off) h1 h2
    rwa [show o + (ii * es + (j + off)) = o + (ii * es + j) + off by omega] at this
  case dref cs j=>
    subst hp
    cases g with | @dref _ _ b o h1 h2 g=>
    refine .quiet h (Kk (c _ _)) ?_;have:=RelV.dref (inj:=inj) (nx:=st.nx) (j:=j + off) h1 h2 g
    rwa [← Nat.add_assoc] at this
  case d x=>
    cases x <;> simp only [reduceCtorEq,Option.some.injEq] at hp
    subst hp
    cases g with | d g=>
    cases g with | box h1 h2 g=>
    exact .quiet h (Kk (c _ _)) (RelV.dref (inj:=inj) (nx:=st.nx) (j:=off) h1 h2 g)
theorem qsz {t : TypeId} {i : TI} {x ix : Operand} {xv v : V} {k0 : IntKind} {n : Int} (h : RelS w Z inj st a Ds) (hi : tiOf P t = some i) (hx : st.ev x = some xv) (hn : st.ev ix = some (.d (.int k0 n)))
    (hp : q3o i xv n = some v) :
    Kl st st v w Z inj ((do pure (Next.value (← Instr.indexAt t (a.eval x) (a.eval ix))) : Sem Next).run P w):=by
  obtain ⟨ah,d,z,k⟩:=Ys hi;have r:=k.kind;unfold Zf at r;have u:=Kd h hn;generalize a.eval ix = vx at u ⊢
  cases u with | d u=>
  cases u;have l:=Kd h hx;generalize a.eval x = vx at l ⊢
  have p : i.kind = .slice→∀ b o len cap,0≤n→n < (len : Nat)→(Instr.indexAt t (.slice (some ⟨b,o,none⟩) len cap) (.int k0 n)).run P w = .ok (.pointer (some ⟨b,o + n.toNat * i.esize,none⟩)) w:=by
    intro s b o len cap f q;simp only [s] at r;obtain ⟨e,ie,de,ze,rfl,g1,g2,g3,g4,g5,g6,_⟩:=r;simp only [Instr.indexAt,asIntOf,Sem.run_bind,Sem.run_pure,run_underlying k.und,Result.andThen_ok];rw [Sem.run_ite,qs ⟨f,q⟩];simp only [Sem.run_bind,Ze g1,Result.andThen_ok,Sem.run_pure,Jv,g6]
  have g : i.kind = .array→∀ b o,0≤n→n < i.len→(Instr.indexAt t (.pointer (some ⟨b,o,none⟩)) (.int k0 n)).run P w = .ok (.pointer (some ⟨b,o + n.toNat * i.esize,none⟩)) w:=by
    intro s b o f q;simp only [s] at r;obtain ⟨e,ie,de,rfl,g1,g2,g3,g4,_⟩:=r;simp only [Instr.indexAt,asIntOf,Instr.sureAddr,Sem.run_bind,Sem.run_pure,run_underlying k.und,Result.andThen_ok];rw [Sem.run_ite,qs ⟨f,q⟩];simp only [Sem.run_bind,Ze g1,Result.andThen_ok,Sem.run_pure,Jv,g3]
  cases s : i.kind <;> simp only [q3o,s,reduceCtorEq] at hp
  case slice=>
    cases xv <;> (try simp only [reduceCtorEq] at hp)
    case d x=>
      cases x <;> (try simp only [reduceCtorEq] at hp)
      rename_i es xs;split at hp <;> simp at hp
      rename_i f;obtain ⟨f,he⟩:=f;obtain ⟨cs,aa,rfl⟩:=hp;have y:=Kh aa
      cases l with | d l=>
      cases l with
      | slnil=>simp at y
      | slemp=>simp at y
      | @sl _ _ b o cap q h2 h4 h5 h6=>
        refine .quiet h (Kk (p s _ _ _ _ f q0)) ?_
        have:=RelV.dref (w:=w) (Z:=Z) (inj:=inj) (nx:=st.nx) (cs:=cs) (j:=0) (b:=b) (o:=o + n.toNat * i.esize) (h2 (by rintro rfl;simp at y))
          (fun k d hd=>by have:=(h5 n.toNat cs k d aa hd).2;rwa [he,← Nat.add_assoc] at this)
          (fun k d c hd hc=>h6 n.toNat cs k d c aa hd (by rwa [he,← Nat.add_assoc]))
        simpa using this
    case hs m es off len=>
      split at hp <;> simp at hp
      rename_i f;obtain ⟨f,q,he⟩:=f;subst hp
      cases l with
      | hsnil=>omega
      | @hs _ _ _ _ cap ad hn hle _ hcap=>
        obtain ⟨b,o,hi,rfl,_⟩:=hcap q0;refine .quiet h (Kk (p s _ _ _ _ f q0)) ?_;have:=RelV.ref (w:=w) (Z:=Z) (nx:=st.nx) (es:=es) (i:=off + n.toNat) (j:=0) hn hi;rw [show o + off * es + n.toNat * i.esize = o + ((off + n.toNat) * es + 0) by rw [← he,Nat.add_mul];omega];exact this
  case array=>
    cases xv <;> (try simp only [reduceCtorEq] at hp)
    case ref m es e j=>
      split at hp <;> simp at hp
      rename_i f;subst hp
      cases l with | @ref _ _ _ _ b o q h2=>
      refine .quiet h (Kk (g s _ _ f.1 f.2)) ?_;have:=RelV.ref (w:=w) (Z:=Z) (nx:=st.nx) (es:=es) (i:=e) (j:=j + n.toNat * i.esize) q h2
      rwa [← Nat.add_assoc,← Nat.add_assoc,Nat.add_assoc o] at this
    case dref cs j=>
      split at hp <;> simp at hp
      rename_i f;subst hp
      cases l with | @dref _ _ b o q h2 l=>
      refine .quiet h (Kk (g s _ _ f.1 f.2)) ?_;have:=RelV.dref (inj:=inj) (nx:=st.nx) (j:=j + n.toNat * i.esize) q h2 l
      rwa [← Nat.add_assoc] at this
    case d x=>
      cases x <;> (try simp only [reduceCtorEq] at hp)
      split at hp <;> simp at hp
      rename_i f;subst hp
      cases l with | d l=>
      cases l with | box q h2 l=>
      exact .quiet h (Kk (g s _ _ f.1 f.2)) (RelV.dref (inj:=inj) (nx:=st.nx) (j:=n.toNat * i.esize) q h2 l)
end
end Go.Am
namespace Go.Am
open Go
variable {P : Program} {T : Tab}
theorem qg5 {n : Int} (h : -9223372036854775808≤n∧n≤9223372036854775807) : IntKind.i64.wrap n = n:=by rw [IntKind.wrap_i64];omega
theorem qgx {es i a j : Nat} (b : j < es) : (i * es≤a * es + j∧a * es + j < i * es + es)↔a = i:=by
  constructor
  · intro ⟨c,d⟩;rcases Nat.lt_trichotomy a i with h | h | h
    · have:=Nat.mul_le_mul_right es (show a + 1≤i from h);rw [Nat.add_mul] at this;omega
    · exact h
    · have:=Nat.mul_le_mul_right es (show i + 1≤a from h);rw [Nat.add_mul] at this;omega
  grind
theorem q3b {es n i j : Nat} (hi : i < n) (a : j < es) : i * es + j < n * es:=by
  have:=Nat.mul_le_mul_right es (show i + 1≤n from hi);rw [Nat.add_mul] at this;omega
section
variable {w : World} {Z : Nat→Prop} {inj : Inj} {st : AS} {a : Act} {Ds : List Nat}
theorem qgv {b y : Nat} {o : Option Operand} {n : Nat} {code : BoundsCode} (h : RelS w Z inj st a Ds) (hb : bound st b o = some n) (l : n≤y) :
    (∀ op,o = some op→(Instr.sliceBound (a.eval op) y code).run P w = .ok n w)∧(o = none→n = b):=by
  cases o with
  | none=>simp [bound] at hb;exact ⟨qe,fun _=>hb.symm⟩
  | some op=>
    refine ⟨fun f e=>?_,qe⟩;cases e;simp only [bound] at hb;split at hb <;> try simp at hb
    rename_i k m g;have c:=Kd h g;generalize a.eval op = vx at c ⊢
    cases c with | d c=>
    cases c;obtain ⟨j,rfl⟩:=hb;simp only [Instr.sliceBound,asIntOf,Sem.run_bind,Sem.run_pure,Result.andThen_ok];simp_all
theorem qt8 {t : TypeId} {i : TI} {x : Operand} {xv v : V} {lo hi : Option Operand} {n p q : Nat} (h : RelS w Z inj st a Ds) (ht : tiOf P t = some i) (hk : i.kind = .slice) (f : st.ev x = some xv) (s : lenV xv = some n)
    (ak : bound st 0 lo = some p) (al : bound st n hi = some q) (hs : q8p i.esize xv p q = some v) :
    Kl st st v w Z inj ((do pure (Next.value (← Instr.sliceAt t (a.eval x) (lo.map a.eval) (hi.map a.eval) none)) : Sem Next).run P w):=by
  obtain ⟨ar,d,z,k⟩:=Ys ht;have ab:=k.kind;unfold Zf at ab;simp only [hk] at ab;obtain ⟨e,ie,de,ze,rfl,g1,g2,g3,g4,g5,g6,g7,_⟩:=ab;have h3:=Kd h f;generalize a.eval x = vx at h3 ⊢
  have run : ∀ ad len cap,len = n→q≤cap→p≤q→(Instr.sliceAt t (.slice ad len cap) (lo.map a.eval) (hi.map a.eval) none).run P w = .ok (.slice (if cap = p then ad else ad.map (·.add (p * i.esize))) (q - p) (cap - p)) w:=by
    intro ad len cap hl hq hp;obtain ⟨l1,l2⟩:=qgv (P:=P) (y:=q) (code:=.sliceB) h ak hp;obtain ⟨r1,r2⟩:=qgv (P:=P) (y:=cap) (code:=.sliceAcap) h al hq;simp only [Instr.sliceAt,Sem.run_bind,run_underlying k.und,Result.andThen_ok,Instr.slice,Instr.sliceBounds,Ze g1,g6]
    cases hi with
    | none=>
      have:=r2 rfl;subst this
      cases lo with
      | none=>have:=l2 rfl;subst this;simp [hl]
      | some o=>simp [hl,l1 o rfl]
    | some o'=>
      cases lo with
      | none=>have:=l2 rfl;subst this;simp [r1 o' rfl]
      | some o=>simp [r1 o' rfl,l1 o rfl]
  cases xv <;> simp only [q8p,reduceCtorEq] at hs
  case d x=>
    cases x <;> simp only [reduceCtorEq] at hs
    case nilsl=>
      split at hs <;> simp at hs
      rename_i u;obtain ⟨rfl,rfl⟩:=u;subst hs;simp [lenV] at s
      cases h3 with | d h3=>
      cases h3;exact .quiet h (Kk (run _ _ _ s q0 q0)) (by simpa using RelV.d .nilsl)
    case sl es xs=>
      split at hs <;> simp at hs
      rename_i u;obtain ⟨u,h1,he⟩:=u;subst hs;simp [lenV] at s
      cases h3 with | d h3=>
      cases h3 with
      | slnil=>
        simp at h1 s;obtain ⟨rfl,rfl⟩ : q = 0∧p = 0:=by omega
        exact .quiet h (Kk (run _ _ _ s q0 q0)) (by simpa using RelV.d (.slnil _))
      | slemp=>
        simp at h1 s;obtain ⟨rfl,rfl⟩ : q = 0∧p = 0:=by omega
        exact .quiet h (Kk (run _ _ _ s q0 q0)) (by simpa using RelV.d (.slemp _ _))
      | @sl _ _ b o cap hc hz hl hcell hrel=>
        refine .quiet h (Kk (run _ _ _ s q0 u)) ?_;have l : ((xs.drop p).take (q - p)).length = q - p:=by simp;omega
        have g : ∀ (i : Nat) (x : List DV),((xs.drop p).take (q - p))[i]? = some x→xs[p + i]? = some x:=by
          intro i x f;rw [List.getElem?_take] at f;split at f
          · rwa [List.getElem?_drop] at f
          · simp at f
        by_cases r : cap = p
        · rw [qs r];have h9 : (xs.drop p).take (q - p) = []:=List.eq_nil_of_length_eq_zero (by rw [l];omega);have h8 : q - p = 0:=by omega
          rw [h9,h8];exact .d (RelD.sl (es:=es) (xs:=[]) qe qe qe qe qe)
        · rw [qx r,Option.map_some,Jv]
          have e2 : ∀ k j,o + p * i.esize + (k * es + j) = o + ((p + k) * es + j):=by
            intro k j;rw [← he,Nat.add_mul];omega
          have:=RelD.sl (w:=w) (Z:=Z) (es:=es) (xs:=(xs.drop p).take (q - p)) (b:=b) (o:=o + p * i.esize) (cap:=cap - p) (by rw [l];omega) (fun ae=>hz (by rintro rfl;simp at ae)) (fun i x f=>hl _ _ (g i x f))
            (fun k x j d f hd=>by rw [e2];exact hcell _ _ j d (g k x f) hd)
            (fun k x j d c f hd hc=>hrel _ _ j d c (g k x f) hd (by rw [e2] at hc;exact hc))
          rw [l] at this;exact .d this
  case hs m es off len=>
    split at hs <;> simp at hs
    rename_i u;obtain ⟨u,h1,he⟩:=u;subst hs;simp [lenV] at s
    cases h3 with
    | hsnil hm=>
      obtain ⟨rfl,rfl⟩ : q = 0∧p = 0:=by omega
      exact .quiet h (Kk (run _ _ _ s q0 q0)) (by simpa using RelV.hsnil (es:=es) (off:=off) hm)
    | @hs _ _ _ _ cap ad hm hc hsp hcap=>
      refine .quiet h (Kk (run _ _ _ s q0 u)) ?_;by_cases r : cap = p
      · rw [qs r];exact .hs hm q0 hsp (fun ae=>q0)
      · rw [qx r,Option.map_some];obtain ⟨b,o,hi,rfl,ap⟩:=hcap q0;rw [Jv];refine .hs hm q0 rfl fun _=>⟨b,o,hi,?_,?_⟩
        · rw [he,Nat.add_mul,← Nat.add_assoc]
        · rwa [show off + p + (cap - p) = off + cap by omega]
theorem qg9 {b : Value} {es n i j : Nat} {ds : List DV} (p : b.cells.toList.mapM Zo = some ds) (m : ds.length = es) (hi : i < n) {d : DV} (hd : ds[j]? = some d) :
    ∃ c,((Array.range (n * es)).map (b.cells[· % b.cells.size]!))[i * es + j]? = some c∧RelD w Z d c∧Yl d = true:=by
  obtain ⟨h,l⟩:=q7k (w:=w) (Z:=Z) p;obtain ⟨c,o,k,a,_⟩:=l j d hd;have g : j < es:=by have:=Kh hd;omega
  refine ⟨c,?_,k,a⟩;have f:=q3b hi g;rw [Array.getElem?_map,Array.getElem?_range];simp only [f,if_true,Option.map_some];have : (i * es + j) % b.cells.size = j:=by rw [← h,m,Nat.mul_comm,Nat.mul_add_mod,Nat.mod_eq_of_lt g]
  grind
theorem qt6 {t : TypeId} {i : TI} {l c : Operand} {k1 k2 : IntKind} {n m : Int} (h : RelS w Z inj st a Ds) (ht : tiOf P t = some i) (hk : i.kind = .slice) (hl : st.ev l = some (.d (.int k1 n))) (u : st.ev c = some (.d (.int k2 m)))
    (v : 0≤n) (h1 : n≤m) (o : m * (i.ebytes * 4)≤room) :
    Kl st (st.new (.dat i.esize (List.replicate n.toNat i.ezero))) (.hs st.nx i.esize 0 n.toNat) w Z inj ((do pure (Next.value (← Instr.makeSlice t (a.eval l) (a.eval c))) : Sem Next).run P w):=by
  obtain ⟨y,d,z,k⟩:=Ys ht;have g:=k.kind;unfold Zf at g;simp only [hk] at g;obtain ⟨e,ie,de,ze,rfl,g1,g2,g3,g4,g5,g6,g7,g8,g9,_⟩:=g;have p:=Kd h hl;have q:=Kd h u;generalize a.eval l = vl at p ⊢;generalize a.eval c = vc at q ⊢
  cases p with | d p=>
  cases p
  cases q with | d q=>
  cases q
  have hm : m≤4294967296:=by
    have e1 : (1 : Int)≤(i.ebytes : Int) * 4:=by omega
    have:=Int.mul_le_mul_of_nonneg_left e1 (show (0:Int)≤m by omega);unfold room at o;omega
  have hb : (i.ebytes : Int) * m≤281474976710656:=by
    unfold room at o;grind
  have w1 : IntKind.i64.wrap n = n:=qg5 q0;have w2 : IntKind.i64.wrap m = m:=qg5 q0;obtain ⟨N,rfl⟩:=Int.eq_ofNat_of_zero_le v;obtain ⟨M,rfl⟩:=Int.eq_ofNat_of_zero_le (show 0≤m by omega);simp only [Int.toNat_natCast];have b:=run_make (P:=P) w t e ie ze k.und g1 g3 k1 k2 (N : Int) (M : Int) v h1 (by rw [g8];exact hb) q0;simp only [Int.toNat_natCast,g6] at b;have s : N≤M:=by omega
  refine .new h (Kk b) ?_ ?_
  · refine ⟨g7,?_,.inr ⟨w.heap.size,0,_,e,Y2 _ _ _,Jw _ _,?_⟩⟩
    · grind
    · intro j x j' d r hd;rw [List.getElem?_replicate] at r;split at r <;> simp at r
      rename_i hj;subst r;obtain ⟨c,u,o,f⟩:=qg9 (w:=w.alloc (.cells (madeCells ze.cells (M * i.esize)) e)) (Z:=Z) g4 g5 (show j < M by omega) hd;exact ⟨f,c,by rw [Nat.zero_add];exact u,o⟩
  · refine .hs q0 s rfl fun _=>⟨w.heap.size,0,Y2 _ _ _,qe,?_⟩
    exact ⟨_,_,_,Jw _ _,by rw [size_madeCells];simp⟩
def ERel (w : World) (Z : Nat→Prop) (inj : Inj) (nx es : Nat) (xs : List (List V)) (C : Array Value) : Prop:=
  C.size = xs.length * es∧(∀ (i : Nat) (x : List V),xs[i]? = some x→x.length = es)∧
    ∀ (i : Nat) (x : List V) (j : Nat) (d : V),xs[i]? = some x→x[j]? = some d→Kp d = true∧∃ c,C[i * es + j]? = some c∧RelV w Z inj nx d c
theorem qhw {es : Nat} : ∀ {f : List (Nat × V)} {l : List (Nat × List V)},elems es f = some l→l.length = f.length∧∀ (k i : Nat) (v : V),f[k]? = some (i,v)→(cellsOf v).length = es∧(cellsOf v).all Kp = true∧l[k]? = some (i,cellsOf v)
  | [],l,h=>by simp [elems] at h;subst h;simp
  | (i,v)::r,l,h=>by
    simp only [elems] at h
    split at h
    · rename_i l' o
      split at h
      · rename_i g
        simp at h;subst h
        obtain ⟨n,p⟩:=qhw o
        refine ⟨by simp [n],fun k j m d=>?_⟩
        cases k with
        | zero=>simp at d;obtain ⟨rfl,rfl⟩:=d;exact ⟨g.1,g.2,qe⟩
        | succ k=>simp at d;obtain ⟨a,b,c⟩:=p k j m d;exact ⟨a,b,by simpa using c⟩
      · simp at h
    · simp at h
theorem ERel.set {w : World} {nx es : Nat} {xs : List (List V)} {C k : Array Value} {ys : List V} {i : Nat} (h : ERel w Z inj nx es xs C) (m : LRel w Z inj nx ys k) (t : ys.length = es) (n : ys.all Kp = true) (hi : i < xs.length) :
    ERel w Z inj nx es (xs.set i ys) (Am.splice C.toList (i * es) k.toList).toArray:=by
  obtain ⟨p,r,q⟩:=h;have b : k.toList.length = es:=by have:=m.1;simp;omega
  have a : i * es + k.toList.length≤C.toList.length:=by
    rw [b,Array.length_toList,p];have:=Nat.mul_le_mul_right es (show i + 1≤xs.length from hi);rw [Nat.add_mul] at this;omega
  refine ⟨by simp [q1t _ _ _ a,p],?_,?_⟩
  · grind
  · intro j x l d f hd;rw [List.getElem?_set] at f;by_cases g : i = j
    · subst g;rw [qs rfl,qs hi] at f;simp at f;subst f;have s:=Kh hd;obtain ⟨c,o⟩:=Yc (xs:=k) (i:=l) (by have:=m.1;omega);refine ⟨List.all_eq_true.1 n _ (List.mem_of_getElem? hd),c,?_,m.2 _ _ _ hd o⟩;rw [List.getElem?_toArray,U3 _ _ _ _ a,qs (by rw [b];omega),show i * es + l - i * es = l by omega];grind
    · rw [qx g] at f;obtain ⟨u,c,y,v⟩:=q j x l d f hd;refine ⟨u,c,?_,v⟩;rw [List.getElem?_toArray,U3 _ _ _ _ a,qx ?_]
      · grind
      · rw [b];intro o;exact g ((qgx (by have:=Kh hd;have:=r j x f;omega)).1 o).symm
theorem qia {w : World} {nx es : Nat} : ∀ (f : List (Nat × V)) (xs : List (Nat × Value)) (l : List (Nat × List V)) (cs c : List (List V)) (C : Array Value),
    f.length = xs.length→(∀ (k : Nat) (i : Nat) (v : V),f[k]? = some (i,v)→∃ x,xs[k]? = some (i,x)∧RelV w Z inj nx v x)→
    l.length = f.length→(∀ (k : Nat) (i : Nat) (v : V),f[k]? = some (i,v)→(cellsOf v).length = es∧(cellsOf v).all Kp = true∧l[k]? = some (i,cellsOf v))→
    ERel w Z inj nx es cs C→q3f cs l = some c→∃ n,Instr.fill (fun i=>some (i * es,es)) C xs = some n∧ERel w Z inj nx es c n∧c.length = cs.length
  | [],xs,l,cs,c,C,h1,_,h3,_,h5,h6=>by
    have : xs = []:=by cases xs <;> simp_all
    have : l = []:=by cases l <;> simp_all
    subst_vars
    simp [q3f] at h6;subst h6
    exact ⟨C,by simp [Instr.fill],h5,rfl⟩
  | (i,v)::f,xs,l,cs,c,C,h1,h2,h3,h4,h5,h6=>by
    match xs,l,h1,h3 with
    | (i',x)::xs,(o',ys)::l,h1,h3=>
      obtain ⟨x',h,t⟩:=h2 0 i v rfl
      simp at h;obtain ⟨rfl,rfl⟩:=h
      obtain ⟨hl,s,g⟩:=h4 0 i' v rfl
      simp at g;obtain ⟨rfl,rfl⟩:=g
      obtain ⟨z,u,q3⟩:=qaj t s
      simp only [q3f] at h6
      split at h6
      · rename_i d
        obtain ⟨n,p,m,j⟩:=qia f xs l (cs.set o' (cellsOf v)) c (splice C.toList (o' * es) x.cells.toList).toArray (by simpa using h1)
          (fun k i v q=>by obtain ⟨x,o⟩:=h2 (k + 1) i v (by simpa using q);exact ⟨x,by simpa using o⟩) (by simpa using h3)
          (fun k i v q=>by obtain ⟨a,b,o⟩:=h4 (k + 1) i v (by simpa using q);exact ⟨a,b,by simpa using o⟩)
          (h5.set ⟨z,u⟩ hl s d) h6
        refine ⟨n,?_,m,by simpa using j⟩
        have y : o' * es + es≤C.size:=by
          rw [h5.1];have:=Nat.mul_le_mul_right es (show o' + 1≤cs.length from d);rw [Nat.add_mul] at this;omega
        have r : x.cells.size = es:=by omega
        simp only [Instr.fill,r]
        have : ¬ ((decide (es≠es) || decide (o' * es + es > C.size)) = true):=by simp;omega
        rw [qx (by simpa using this)]
        rw [qii x.cells C (o' * es) q0]
        exact p
      · simp at h6
theorem qsr {t : TypeId} {i : TI} {len : Nat} {m : Array (Nat × Operand)} {r : List (Nat × V)} {l : List (Nat × List V)} {xs : List (List V)} (h : RelS w Z inj st a Ds) (ht : tiOf P t = some i) (hv : Jd st.ev m.toList = some r)
    (hl : elems i.esize r = some l) (hk : i.kind = .slice) (u : len * i.esize≤16777216) (hf : q3f (List.replicate len (i.ezero.map .d)) l = some xs) :
    Kl st (st.new (q5b i.esize xs)) (.hs st.nx i.esize 0 len) w Z inj ((do pure (Next.value (← Instr.buildSlice t len (m.map fun (i,x)=>(i,a.eval x)))) : Sem Next).run P w):=by
  obtain ⟨af,d,z,k⟩:=Ys ht;have f:=k.kind;unfold Zf at f;simp only [hk] at f;obtain ⟨e,ie,de,o,rfl,g1,g2,g3,g4,g5,g6,g7,g8,g9,_⟩:=f;obtain ⟨p1,p2⟩:=qi5 h hv;obtain ⟨q1,q2⟩:=qhw hl;have ab : ∀ (k i : Nat) (v : V),r[k]? = some (i,v)→∃ x,(m.toList.map fun (x : Nat × Operand)=>(x.1,a.eval x.2))[k]? = some (i,x)∧RelV w Z inj st.nx v x:=by grind
  have aa : ERel w Z inj st.nx i.esize (List.replicate len (i.ezero.map .d)) ((Array.range (len * i.esize)).map (o.cells[· % o.cells.size]!)):=by
    refine ⟨qe,?_,?_⟩
    · grind
    · intro j x j' d g hd;rw [List.getElem?_replicate] at g;split at g <;> simp at g
      rename_i hj;subst g;simp only [List.getElem?_map,Y3] at hd;obtain ⟨d',y,rfl⟩:=hd;obtain ⟨c,hc,n,b⟩:=qg9 (w:=w) (Z:=Z) g4 g5 hj y;exact ⟨b,c,hc,.d n⟩
  obtain ⟨s,hC,n,p⟩:=qia r (m.toList.map fun (x : Nat × Operand)=>(x.1,a.eval x.2)) l _ xs _ (by simp [p1]) ab q1 q2 aa hf;have ak : Instr.fill (fun j=>some (j * i.esize,i.esize)) ((Array.range (len * i.esize)).map (o.cells[· % o.cells.size]!)) (m.map fun (x : Nat × Operand)=>(x.1,a.eval x.2)).toList = some s:=by simpa using hC
  have q : (Instr.buildSlice t len (m.map fun (i,x)=>(i,a.eval x))).run P w = .ok (.slice (some ⟨w.heap.size,0,none⟩) len len) (w.alloc (.cells s e)):=by
    have hn : ¬ (len * i.esize > 2 ^ 24):=by omega
    have ag : (do let x ← newRow e s;pure (Value.slice (some x) len len) : Sem Value).run P w = .ok (.slice (some ⟨w.heap.size,0,none⟩) len len) (w.alloc (.cells s e)):=by simp [newRow]
    by_cases hz : len * i.esize = 0
    · simp only [Instr.buildSlice,Sem.run_bind,run_underlying k.und,Result.andThen_ok,Ze g1,g6];grind
    · simp only [Instr.buildSlice,Sem.run_bind,run_underlying k.und,Result.andThen_ok,Ze g1,g6];rw [qx hn,qx hz];have ai : (zeroValue e).run P w = .ok o w:=by simp [zeroValue,typeInfo,g1,g3]
      simp_all
  have ad : xs.length = len:=by simpa using p
  refine .new h (Kk q) ?_ ?_
  · refine ql7 g7 (Y2 _ _ _) (Jw _ _) n.2.1 ?_;intro j x j' d g hd;obtain ⟨h1,c,h2,h3⟩:=n.2.2 j x j' d g hd;exact ⟨h1,c,h2,qlb h _ h3⟩
  · refine .hs q0 (Nat.le_refl _) rfl fun _=>⟨w.heap.size,0,Y2 _ _ _,qe,?_⟩
    exact ⟨_,_,_,Jw _ _,by rw [n.1,ad];simp⟩
end
end Go.Am
