/- Am6 Am7 Am8 Am9 Am10 Am11 -/
import Derived.Test.YtbknppciefodiaaGreatK1
namespace Go.Am
open Go
variable {P : Program} {T : Tab}
theorem q7j {α β : Type} {f : α→Option β} : ∀ {l : List α} {r : List β},l.mapM f = some r→r.length = l.length∧∀ (i : Nat) (x : α),l[i]? = some x→∃ y,r[i]? = some y∧f x = some y
  | [],r,h=>by simp at h;subst h;simp
  | a::l,r,h=>by
    rw [List.mapM_cons] at h
    cases ha : f a with
    | none=>simp [ha] at h
    | some b=>
      cases hl : l.mapM f with
      | none=>simp [ha,hl] at h
      | some s=>
        simp [ha,hl] at h
        subst h
        obtain ⟨h1,h2⟩:=q7j hl
        refine ⟨by simp [h1],?_⟩
        intro i x hx
        cases i with
        | zero=>simp at hx;subst hx;exact ⟨b,qd,ha⟩
        | succ i=>simp at hx;obtain ⟨y,hy⟩:=h2 i x hx;exact ⟨y,by simpa using hy⟩
theorem Y4 {α β : Type} {l : List α} {r : List β} (hl : r.length = l.length) {i : Nat} {y : β} (h : r[i]? = some y) : ∃ x,l[i]? = some x:=
  Yt (by have:=K4 h;omega)
def Yr (P : Program) (_t : TypeId) (i : TI) (d : TypeDesc) : Prop:=match i.kind with
  | .bool=>d = .bool∧i.size = 1
  | .int k=>d = .int k∧i.size = 1
  | .str=>d = .string∧i.size = 1
  | .ptr=>(∃ e,d = .pointer e)∧i.size = 1
  | .func=>(∃ a b c,d = .func a b c)∧i.size = 1
  | .slice=>∃ e ie de ze,d = .slice e∧P.info? e = some ie∧P.underlying e = some de∧ie.zero = some ze∧ze.cells.toList.mapM Yx = some i.ezero∧i.ezero.length = i.esize∧ie.size = i.esize∧i.esize≠0∧
      ie.bytes = i.ebytes∧i.ebytes≠0∧K5 de = i.eagg∧i.size = 1
  | .array=>∃ e ie de,d = .array i.len e∧P.info? e = some ie∧P.underlying e = some de∧ie.size = i.esize∧i.esize≠0∧K5 de = i.eagg
  | .map=>∃ kt e ie ze zd ks dk,d = .map kt e∧P.info? e = some ie∧ie.zero = some ze∧Yx ze = some zd∧K8 P 8 kt = some ks∧P.underlying kt = some dk∧i.keys = some ks∧i.ezero = [zd]∧i.eagg = K5 dk∧i.size = 1
  | .struct=>∃ fs,d = .struct fs∧(fs.toList.mapM fun f=>do
      let jf ← P.info? f.type
      let df ← P.underlying f.type
      if jf.size = 0 then none else some (f.offset,jf.size,K5 df)) = some i.flds
structure TiOk (P : Program) (t : TypeId) (i : TI) (info : TypeInfo) (d : TypeDesc) (z : Value) : Prop where
  inf : P.info? t = some info
  und : P.underlying t = some d
  zero : info.zero = some z
  size : info.size = i.size
  pos : i.size≠0
  cells : z.cells.toList.mapM Yx = some i.zero
  len : i.zero.length = i.size
  agg : i.agg = K5 d
  kind : Yr P t i d
  eqs : ∀ ks,i.eqs = some ks→K8 P 8 t = some ks∧K5 d = true
  keys : ∀ ks,i.keys = some ks→i.kind = .map
theorem Y9 {t : TypeId} {i : TI} (h : tiOf P t = some i) : ∃ info d z,TiOk P t i info d z:=by
  unfold tiOf at h
  cases h1 : P.info? t with
  | none=>simp [h1] at h
  | some info=>
  cases h2 : P.underlying t with
  | none=>simp [h1,h2] at h
  | some d=>
  cases h3 : info.zero with
  | none=>simp [h1,h2,h3] at h
  | some z=>
  cases h4 : z.cells.toList.mapM Yx with
  | none=>simp [h1,h2,h3,h4] at h
  | some zc=>
  simp only [h1,h2,h3,h4,Option.bind_eq_bind,Option.bind_some] at h
  by_cases h5 : zc.length≠info.size∨info.size = 0
  · simp [h5] at h
  · rw [if_neg h5] at h
    have h6 : zc.length = info.size:=by omega
    have h7 : info.size≠0:=by omega
    refine ⟨info,d,z,?_⟩
    cases d <;> simp only [reduceCtorEq] at h
    case bool=>split at h <;> simp at h;subst h;rename_i hs;exact ⟨h1,h2,h3,rfl,h7,h4,h6,rfl,⟨rfl,hs⟩,qd,qd⟩
    case int k=>split at h <;> simp at h;subst h;rename_i hs;exact ⟨h1,h2,h3,rfl,h7,h4,h6,rfl,⟨rfl,hs⟩,qd,qd⟩
    case string=>split at h <;> simp at h;subst h;rename_i hs;exact ⟨h1,h2,h3,rfl,h7,h4,h6,rfl,⟨rfl,hs⟩,qd,qd⟩
    case pointer e=>split at h <;> simp at h;subst h;rename_i hs;exact ⟨h1,h2,h3,rfl,h7,h4,h6,rfl,⟨⟨_,rfl⟩,hs⟩,qd,qd⟩
    case func a b c=>split at h <;> simp at h;subst h;rename_i hs;exact ⟨h1,h2,h3,rfl,h7,h4,h6,rfl,⟨⟨_,_,_,rfl⟩,hs⟩,qd,qd⟩
    case slice e=>
      cases g1 : P.info? e with
      | none=>simp [g1] at h
      | some ie=>
      cases g2 : P.underlying e with
      | none=>simp [g1,g2] at h
      | some de=>
      cases g3 : ie.zero with
      | none=>simp [g1,g2,g3] at h
      | some ze=>
      cases g4 : ze.cells.toList.mapM Yx with
      | none=>simp [g1,g2,g3,g4] at h
      | some ezc=>
      simp only [g1,g2,g3,g4,Option.bind_some] at h
      split at h
      · simp at h
      · rename_i hs
        simp at h;subst h
        exact ⟨h1,h2,h3,rfl,h7,h4,h6,rfl,⟨e,ie,de,ze,rfl,g1,g2,g3,g4,by show ezc.length = ie.size;omega,rfl,by show ie.size≠0;omega,rfl,by show ie.bytes≠0;omega,rfl,by show info.size = 1;omega⟩,by simp,by simp⟩
    case map kt e=>
      cases g1 : P.info? e with
      | none=>simp [g1] at h
      | some ie=>
      cases g3 : ie.zero with
      | none=>simp [g1,g3] at h
      | some ze=>
      cases g4 : Yx ze with
      | none=>simp [g1,g3,g4] at h
      | some zd=>
      cases g5 : K8 P 8 kt with
      | none=>simp [g1,g3,g5] at h
      | some ks=>
      cases g6 : P.underlying kt with
      | none=>simp [g1,g3,g5,g6] at h
      | some dk=>
      simp only [g1,g3,g4,g5,g6,Option.bind_some] at h
      split at h
      · rename_i hs
        simp at h;subst h
        exact ⟨h1,h2,h3,rfl,h7,h4,h6,rfl,⟨kt,e,ie,ze,zd,ks,dk,rfl,g1,g3,g4,g5,g6,rfl,rfl,rfl,hs⟩,qd,fun _ _=>rfl⟩
      · simp at h
    case array n e=>
      cases g1 : P.info? e with
      | none=>simp [g1] at h
      | some ie=>
      cases g2 : P.underlying e with
      | none=>simp [g1,g2] at h
      | some de=>
      simp only [g1,g2,Option.bind_some] at h
      split at h
      · simp at h
      · rename_i hs
        simp at h;subst h
        exact ⟨h1,h2,h3,rfl,h7,h4,h6,rfl,⟨e,ie,de,rfl,g1,g2,rfl,hs,rfl⟩,fun ks h=>⟨h,rfl⟩,qd⟩
    case struct fs=>
      cases g1 : (fs.toList.mapM fun f=>do
          let jf ← P.info? f.type
          let df ← P.underlying f.type
          if jf.size = 0 then none else some (f.offset,jf.size,K5 df)) with
      | none=>simp only [Option.bind_eq_bind] at g1;simp only [g1,Option.bind_none] at h;simp at h
      | some fl=>
        have g1':=g1
        simp only [Option.bind_eq_bind] at g1
        simp only [g1,Option.bind_some] at h
        simp at h;subst h
        exact ⟨h1,h2,h3,rfl,h7,h4,h6,rfl,⟨fs,rfl,g1'⟩,fun ks h=>⟨h,rfl⟩,qd⟩
section
variable {w : World} {Z : Nat→Prop} {inj : Inj} {nx : Nat}
theorem qcs {v : Value} {d : DV} (h : Yx v = some d) : RelD w Z d v∧Y5 d = true∧v.oneCell' = true:=by
  unfold Yx at h
  split at h <;> simp at h <;> subst h
  · exact ⟨.int _ _,rfl,rfl⟩
  · exact ⟨.bool _,rfl,rfl⟩
  · exact ⟨.str _,rfl,rfl⟩
  · exact ⟨.nilp,rfl,rfl⟩
  · exact ⟨.nilsl,rfl,rfl⟩
  · exact ⟨.nilf,rfl,rfl⟩
  · exact ⟨.nilm,rfl,rfl⟩
theorem q71 {cs : Array Value} {ds : List DV} (h : cs.toList.mapM Yx = some ds) : ds.length = cs.size∧∀ (i : Nat) (d : DV),ds[i]? = some d→∃ c,cs[i]? = some c∧RelD w Z d c∧Y5 d = true∧c.oneCell' = true:=by
  obtain ⟨h1,h2⟩:=q7j h
  refine ⟨by simpa using h1,fun i d hd=>?_⟩
  obtain ⟨c,hc⟩:=Y4 h1 hd
  obtain ⟨y,hy,hf⟩:=h2 i c hc
  rw [hd] at hy;cases hy
  exact ⟨c,by simpa using hc,qcs hf⟩
theorem qnb {v : Value} {d : DV} (h : qa6 v = some d) : RelD w Z d v:=by
  unfold qa6 at h
  split at h
  · rename_i cs
    cases hm : cs.toList.mapM Yx with
    | none=>simp [hm] at h
    | some ds=>
      simp [hm] at h;subst h
      obtain ⟨h1,h2⟩:=q71 (w:=w) (Z:=Z) hm
      refine .agg h1 fun i d c hd hc=>?_
      obtain ⟨c',hc',hr,_⟩:=h2 i d hd
      rw [hc] at hc';cases hc';exact hr
  · exact (qcs h).1
theorem K3 {st : AS} {a : Act} {Ds : List Nat} (h : RelS w Z inj st a Ds) {o : Operand} {v : V} (hv : st.ev o = some v) : RelV w Z inj st.nx v (a.eval o):=by
  cases o with
  | tmp t=>
    obtain ⟨x,hx,hr⟩:=h.slots t v hv
    simp only [Act.eval,Array.getD_eq_getD_getElem?,hx,Option.getD_some];exact hr
  | const c=>
    simp only [AS.ev] at hv
    cases hc : qa6 c with
    | none=>simp [hc] at hv
    | some d=>simp [hc] at hv;subst hv;exact .d (qnb hc)
  | func f=>
    simp only [AS.ev] at hv;cases hv
    exact .d (.fn qd qd)
  | global g=>simp [AS.ev] at hv
theorem q41 {vs : List V} {ds : List DV} (h : allD vs = some ds) : vs = ds.map .d:=by
  induction vs generalizing ds with
  | nil=>simp [allD] at h;subst h;rfl
  | cons v r ih=>
    cases v <;> simp only [allD,reduceCtorEq] at h
    rename_i x
    cases hr : allD r with
    | none=>simp [hr] at h
    | some l=>simp [hr] at h;subst h;simp [ih hr]
theorem qc6 (ds : List DV) : allD (ds.map .d) = some ds:=by
  induction ds with
  | nil=>rfl
  | cons d r ih=>simp [allD,ih]
theorem qe5 {d : V} {c : Value} (h : RelV w Z inj nx d c) (hc : Kb d = true) : c.oneCell' = true:=by
  cases h with
  | d h=>cases h <;> simp_all [Kb,Y5,Value.oneCell']
  | _=>simp_all [Kb,Value.oneCell']
theorem qmk {c : Value} (h : c.oneCell' = true) : c.cells = #[c]:=by cases c <;> simp_all [Value.oneCell',Value.cells]
theorem qa5 {v : V} {x : Value} (h : RelV w Z inj nx v x) (hc : (cellsOf v).all Kb = true) :
    (cellsOf v).length = x.cells.size∧(∀ (i : Nat) (d : V) (c : Value),(cellsOf v)[i]? = some d→x.cells[i]? = some c→RelV w Z inj nx d c)∧∀ c∈x.cells.toList,c.oneCell' = true:=by
  have fin : ∀ (l : List V) (cs : Array Value),l.length = cs.size→(∀ (i : Nat) (d : V) (c : Value),l[i]? = some d→cs[i]? = some c→RelV w Z inj nx d c)→l.all Kb = true→∀ c∈cs.toList,c.oneCell' = true:=by
    intro l cs hl hr hall c hm
    obtain ⟨i,hi,rfl⟩:=List.mem_iff_getElem.1 hm
    simp at hi
    have h1 : l[i]? = some l[i]:=List.getElem?_eq_getElem q6
    have h2 : cs[i]? = some cs[i]:=Array.getElem?_eq_getElem hi
    have:=qe5 (hr i _ _ h1 h2) (List.all_eq_true.1 hall _ (List.getElem_mem _))
    simpa using this
  have one : ∀ {v : V} {x : Value},RelV w Z inj nx v x→cellsOf v = [v]→(cellsOf v).all Kb = true→(cellsOf v).length = x.cells.size∧(∀ (i : Nat) (d : V) (c : Value),(cellsOf v)[i]? = some d→x.cells[i]? = some c→RelV w Z inj nx d c)∧∀ c∈x.cells.toList,c.oneCell' = true:=by
    intro v x h he hall
    rw [he] at hall ⊢
    have h1 : Kb v = true:=by simpa using hall
    have h2:=qe5 h h1
    rw [qmk h2]
    refine ⟨rfl,?_,by simpa using h2⟩
    intro i d c hd hc
    cases i with
    | zero=>simp at hd hc;subst hd hc;exact h
    | succ i=>simp at hd
  cases h with
  | agg hl hr=>exact ⟨hl,hr,fin _ _ hl hr hc⟩
  | d h=>
    cases h with
    | agg hl hr=>
      have h1 : (cellsOf (V.d (.agg ‹List DV›))).length = (Value.agg ‹Array Value›).cells.size:=by simpa [cellsOf,Value.cells] using hl
      have h2 : ∀ (i : Nat) (d : V) (c : Value),(cellsOf (V.d (.agg ‹List DV›)))[i]? = some d→(Value.agg ‹Array Value›).cells[i]? = some c→RelV w Z inj nx d c:=by
        intro i d c hd hc
        simp only [cellsOf,List.getElem?_map,Option.map_eq_some_iff] at hd
        obtain ⟨d',hd',rfl⟩:=hd
        exact .d (hr i d' c hd' hc)
      exact ⟨h1,h2,fin _ _ h1 h2 hc⟩
    | int=>exact one (.d (.int _ _)) rfl hc
    | bool=>exact one (.d (.bool _)) rfl hc
    | str=>exact one (.d (.str _)) rfl hc
    | tup hl hr=>exact one (.d (.tup hl hr)) rfl hc
    | fn hl hr=>exact one (.d (.fn hl hr)) rfl hc
    | nilsl=>exact one (.d .nilsl) rfl hc
    | slnil=>exact one (.d (.slnil _)) rfl hc
    | slemp=>exact one (.d (.slemp _ _)) rfl hc
    | sl a b c d e=>exact one (.d (.sl a b c d e)) rfl hc
    | nilp=>exact one (.d .nilp) rfl hc
    | nilf=>exact one (.d .nilf) rfl hc
    | nilm=>exact one (.d .nilm) rfl hc
    | box a b c=>exact one (.d (.box a b c)) rfl hc
  | tup hl hr=>exact one (.tup hl hr) rfl hc
  | fn hl hr=>exact one (.fn hl hr) rfl hc
  | ref a b=>exact one (.ref a b) rfl hc
  | dref a b c=>exact one (.dref a b c) rfl hc
  | hsnil a=>exact one (.hsnil a) rfl hc
  | hs a b c d=>exact one (.hs a b c d) rfl hc
  | yld a b=>exact one (.yld a b) rfl hc
  | mp a b=>exact one (.mp a b) rfl hc
  | dead v=>simp [cellsOf,Kb] at hc
theorem qdu {cs : List V} {xs : Array Value} (hl : cs.length = xs.size) (h : ∀ (i : Nat) (d : V) (c : Value),cs[i]? = some d→xs[i]? = some c→RelV w Z inj nx d c) : RelV w Z inj nx (q4h cs) (.agg xs):=by
  unfold q4h
  split
  · rename_i ds hd
    have:=q41 hd;subst this
    refine .d (.agg (by simpa using hl) fun i d c h1 h2=>?_)
    have:=h i (.d d) c (by simp [h1]) h2
    cases this with | d h=>exact h
  · exact .agg hl h
def qlm (w : World) (Z : Nat→Prop) (inj : Inj) (nx : Nat) (v : V) : Bool→List Value→Prop
  | true,xs=>RelV w Z inj nx v (.agg xs.toArray)
  | false,[x]=>RelV w Z inj nx v x
  | false,_=>False
theorem qix {ag : Bool} {cs : List V} {v : V} {xs : List Value} (hp : pack ag cs = some v) (hl : cs.length = xs.length) (h : ∀ (i : Nat) (d : V) (c : Value),cs[i]? = some d→xs[i]? = some c→RelV w Z inj nx d c) :
    qlm w Z inj nx v ag xs:=by
  cases ag with
  | true=>
    simp only [pack,Option.some.injEq] at hp;subst hp
    exact qdu (by simpa using hl) (fun i d c h1 h2=>h i d c h1 (by simpa using h2))
  | false=>
    match cs,xs,hp,hl with
    | [c],[x],hp,_=>simp only [pack,Option.some.injEq] at hp;subst hp;exact h 0 _ _ rfl rfl
    | [c],[],_,hl=>simp at hl
    | [c],_::_::_,_,hl=>simp at hl
theorem qe8 (ag : Bool) (cs : List DV) : (Uz ag cs).map V.d = pack ag (cs.map .d):=by
  cases ag with
  | true=>simp [Uz,pack,q4h,qc6]
  | false=>match cs with
    | []=>rfl
    | [c]=>rfl
    | _::_::_=>rfl
theorem qkz {α : Type} {cs r : List α} {j s : Nat} (h : sub cs j s = some r) : j + s≤cs.length∧r = (cs.drop j).take s:=by
  unfold sub at h;split at h <;> simp at h;exact ⟨‹_›,h.symm⟩
theorem q9i {α : Type} {cs r : List α} {j s : Nat} (h : sub cs j s = some r) : r.length = s∧∀ (i : Nat) (x : α),r[i]? = some x→cs[j + i]? = some x∧i < s:=by
  obtain ⟨h1,rfl⟩:=qkz h
  refine ⟨by simp;omega,fun i x hx=>?_⟩
  rw [List.getElem?_take] at hx
  split at hx
  · rw [List.getElem?_drop] at hx;exact ⟨hx,‹_›⟩
  · simp at hx
theorem J3 (b o j : Nat) : (⟨b,o,none⟩ : Addr).add j = ⟨b,o + j,none⟩:=by
  unfold Addr.add;split <;> simp_all
theorem qpb {t : TypeId} {i : TI} {info : TypeInfo} {d : TypeDesc} {z : Value} (ht : TiOk P t i info d z) {b o : Nat} {r : List V} {v : V} (hp : pack i.agg r = some v) (hr : r.length = i.size)
    (hc : ∀ (k : Nat) (x : V),r[k]? = some x→∃ c,w.cell? ⟨b,o + k,none⟩ = some c∧RelV w Z inj nx x c) :
    ∃ x,(Instr.loadAt t (.pointer (some ⟨b,o,none⟩))).run P w = .ok x w∧RelV w Z inj nx v x:=by
  have hcs : ∃ cs : List Value,cs.length = i.size∧∀ (k : Nat) (c : Value),cs[k]? = some c→w.cell? ⟨b,o + k,none⟩ = some c:=by
    refine ⟨(List.range i.size).map fun k=>(w.cell? ⟨b,o + k,none⟩).getD undef,qd,?_⟩
    intro k c hk
    have hlt : k < i.size:=by have:=K4 hk;simpa using this
    obtain ⟨x,hx⟩:=Yt (xs:=r) (i:=k) q6
    obtain ⟨c',hc',_⟩:=hc k x hx
    simp [hlt,hc'] at hk
    rw [hc',hk]
  obtain ⟨cs,hl,hcell⟩:=hcs
  have hrel : ∀ (i : Nat) (d : V) (c : Value),r[i]? = some d→cs[i]? = some c→RelV w Z inj nx d c:=by
    intro k x c h1 h2
    obtain ⟨c',h3,h4⟩:=hc k x h1
    rw [hcell k c h2] at h3;cases h3;exact h4
  have hpk:=qix hp (by omega : r.length = cs.length) hrel
  have hag : (isAgg t).run P w = .ok i.agg w:=by
    rw [ht.agg]
    simp only [isAgg,Sem.run_bind,run_underlying ht.und,Result.andThen_ok]
    cases d <;> rfl
  cases hb : i.agg with
  | true=>
    rw [hb] at hpk
    refine ⟨.agg cs.toArray,?_,hpk⟩
    have h1:=run_loadCells_list (P:=P) w ⟨b,o,none⟩ cs (fun j v hj=>by rw [J3];exact hcell j v hj)
    simp [Instr.loadAt,Instr.sureAddr,loadVar,hag,hb,sizeOf,typeInfo,ht.inf,ht.size,← hl,h1]
  | false=>
    rw [hb] at hpk
    match cs,hl,hcell,hpk with
    | [x],_,hcell,hpk=>
      refine ⟨x,?_,hpk⟩
      have:=hcell 0 x rfl
      simp only [Nat.add_zero] at this
      simp [Instr.loadAt,Instr.sureAddr,loadVar,hag,hb,this]
end
end Go.Am
namespace Go.Am
open Go
variable {P : Program} {T : Tab}
def Ka (st st1 : AS) (v : V) (w : World) (Z : Nat→Prop) (inj : Inj) (r : Result Next) : Prop:=
  ∃ x w' inj',(r = .ok (.value x) w'∨(r = .ok .skip w'∧x = undef))∧RelV w' Z inj' st1.nx v x∧RelH w' Z inj' st1.hp st1.nx∧Ext w Z inj st.hp w' Z inj' st1.hp st.nx∧st1.sl = st.sl∧st.nx≤st1.nx
section
variable {w : World} {Z : Nat→Prop} {inj : Inj} {st : AS} {a : Act} {Ds : List Nat}
theorem Ka.quiet {v : V} {x : Value} {r : Result Next} (h : RelS w Z inj st a Ds) (hr : r = .ok (.value x) w) (hv : RelV w Z inj st.nx v x) : Ka st st v w Z inj r:=
  ⟨x,w,inj,.inl hr,hv,h.heap,.refl,rfl,Nat.le_refl _⟩
theorem K9 {s : Sem Value} {x : Value} {w' : World} (h : s.run P w = .ok x w') : (do pure (Next.value (← s)) : Sem Next).run P w = .ok (.value x) w':=by
  simp [h]
theorem Ka.new {v : V} {x : Value} {r : Result Next} {o : Obj} {blk : Blk} (h : RelS w Z inj st a Ds) (hr : r = .ok (.value x) (w.alloc o))
    (hb : RelB (w.alloc o) Z (upd inj st.nx (some (w.heap.size,0))) (st.nx + 1) st.nx blk)
    (hv : RelV (w.alloc o) Z (upd inj st.nx (some (w.heap.size,0))) (st.nx + 1) v x) (ho : Unfr o:=by first | exact rfl | exact trivial) : Ka st (st.new blk) v w Z inj r:=
  ⟨x,_,_,.inl hr,hv,h.heap.new o blk 0 hb,Ext.new h.heap o blk 0 ho,rfl,by simp [AS.new]⟩
theorem qjs {v : V} {x : Value} (h : RelS w Z inj st a Ds) (o : Obj) (hv : RelV w Z inj st.nx v x) : RelV (w.alloc o) Z (upd inj st.nx (some (w.heap.size,0))) (st.nx + 1) v x:=
  hv.mono (fun _ hz=>Zc w o (h.heap.zs _ hz)) (fun _ h=>h) (q1p w o) (fun _ hm=>Ky _ _ hm) q6
theorem qjo {w : World} {nx n es : Nat} {xs : List (List V)} {arr : Array Value} {ty : TypeId} {b : Nat} (he : es≠0) (hi : inj n = some (b,0)) (hb : w.heap[b]? = some (.cells arr ty (0,0)))
    (hl : ∀ (i : Nat) (x : List V),xs[i]? = some x→x.length = es)
    (h : ∀ (i : Nat) (x : List V) (j : Nat) (d : V),xs[i]? = some x→x[j]? = some d→Kb d = true∧∃ c,arr[i * es + j]? = some c∧RelV w Z inj nx d c) : RelB w Z inj nx n (q4i es xs):=by
  unfold q4i
  split
  · rename_i ys hy
    obtain ⟨h1,h2⟩:=q7j hy
    refine ⟨he,?_,.inr ⟨b,0,arr,ty,hi,hb,?_⟩⟩
    · intro i y hyi
      obtain ⟨x,hx⟩:=Y4 h1 hyi
      obtain ⟨y',hy',hd⟩:=h2 i x hx
      rw [hyi] at hy';cases hy'
      have:=hl i x hx
      rw [q41 hd] at this;simpa using this
    · intro i y j d hyi hyj
      obtain ⟨x,hx⟩:=Y4 h1 hyi
      obtain ⟨y',hy',hd⟩:=h2 i x hx
      rw [hyi] at hy';cases hy'
      have hxe:=q41 hd
      obtain ⟨h3,c,h4,h5⟩:=h i x j (.d d) hx (by rw [hxe];simp [hyj])
      refine ⟨h3,c,by simpa using h4,?_⟩
      cases h5 with | d h=>exact h
  · refine ⟨he,hl,.inr ⟨b,0,arr,ty,hi,hb,?_⟩⟩
    intro i x j d hx hd
    obtain ⟨h3,c,h4,h5⟩:=h i x j d hx hd
    exact ⟨h3,c,by simpa using h4,h5⟩
theorem qiu {o : Operand} {v : V} (h : RelS w Z inj st a Ds) (hv : st.ev o = some v) {r : Result Next} (hr : r = .ok (.value (a.eval o)) w) : Ka st st v w Z inj r:=
  .quiet h hr (K3 h hv)
theorem qqi {t : TypeId} {i : TI} (h : RelS w Z inj st a Ds) (ht : tiOf P t = some i) :
    Ka st (st.new (.dat i.size [i.zero])) (.ref st.nx i.size 0 0) w Z inj ((do pure (Next.value (← Instr.alloc t true (.tuple #[]))) : Sem Next).run P w):=by
  obtain ⟨info,d,z,k⟩:=Y9 ht
  have hrun : (Instr.alloc t true (.tuple #[])).run P w = .ok (.pointer (some ⟨w.heap.size,0,none⟩)) (w.alloc (.cells z.cells t)):=by
    simp [Instr.alloc,zeroValue,typeInfo,k.inf,k.zero,newVar,newRow]
  obtain ⟨h1,h2⟩:=q71 (w:=w.alloc (.cells z.cells t)) (Z:=Z) k.cells
  refine .new h (K9 hrun) ?_ ?_
  · refine ⟨k.pos,?_,.inr ⟨w.heap.size,0,z.cells,t,Kn _ _ _,J4 _ _,?_⟩⟩
    · intro i' x hx
      cases i' with
      | zero=>simp at hx;subst hx;exact k.len
      | succ n=>simp at hx
    · intro i' x j d hx hd
      cases i' with
      | zero=>
        simp at hx;subst hx
        obtain ⟨c,hc,hr,hcell,_⟩:=h2 j d hd
        exact ⟨hcell,c,by simpa using hc,hr⟩
      | succ n=>simp at hx
  · have:=RelV.ref (w:=w.alloc (.cells z.cells t)) (Z:=Z) (inj:=upd inj st.nx (some (w.heap.size,0))) (nx:=st.nx + 1) (n:=st.nx) (es:=i.size) (i:=0) (j:=0) q6 (Kn _ _ _)
    simpa using this
theorem qqm {t : TypeId} {i : TI} {o : Operand} {v : V} (h : RelS w Z inj st a Ds) (ht : tiOf P t = some i) (hv : st.ev o = some v) (hl : (cellsOf v).length = i.size) (hc : (cellsOf v).all Kb = true) :
    Ka st (st.new (q4i i.size [cellsOf v])) (.ref st.nx i.size 0 0) w Z inj ((do pure (Next.value (← Instr.box t (a.eval o))) : Sem Next).run P w):=by
  obtain ⟨info,d,z,k⟩:=Y9 ht
  have hx:=K3 h hv
  have hrun : (Instr.box t (a.eval o)).run P w = .ok (.pointer (some ⟨w.heap.size,0,none⟩)) (w.alloc (.cells (a.eval o).cells t)):=by
    simp [Instr.box,newVar,newRow]
  have hx':=qjs h (.cells (a.eval o).cells t) hx
  obtain ⟨h1,h2,_⟩:=qa5 hx' hc
  refine .new h (K9 hrun) ?_ ?_
  · refine qjo (b:=w.heap.size) (arr:=(a.eval o).cells) (ty:=t) k.pos (Kn _ _ _) (J4 _ _) ?_ ?_
    · intro i' x hx
      cases i' with
      | zero=>simp at hx;subst hx;exact hl
      | succ n=>simp at hx
    · intro i' x j d hx hd
      cases i' with
      | zero=>
        simp at hx;subst hx
        obtain ⟨c,hcj⟩:=Kp (xs:=(a.eval o).cells) (i:=j) (by have:=K4 hd;omega)
        exact ⟨List.all_eq_true.1 hc _ (List.mem_of_getElem? hd),c,by simpa using hcj,h2 j d c hd hcj⟩
      | succ n=>simp at hx
  · have:=RelV.ref (w:=w.alloc (.cells (a.eval o).cells t)) (Z:=Z) (inj:=upd inj st.nx (some (w.heap.size,0))) (nx:=st.nx + 1) (n:=st.nx) (es:=i.size) (i:=0) (j:=0) q6 (Kn _ _ _)
    simpa using this
theorem q15 {α : Type} (cs ys : List α) (o : Nat) (h : o + ys.length≤cs.length) : (splice cs o ys).length = cs.length:=by simp [splice];omega
theorem Jd {α : Type} (cs ys : List α) (o j : Nat) (h : o + ys.length≤cs.length) : (splice cs o ys)[j]? = if o≤j∧j < o + ys.length then ys[j - o]? else cs[j]?:=by
  have e : (cs.take o).length = o:=by simp;omega
  by_cases h1 : j < o
  · rw [if_neg q6,splice,List.append_assoc,List.getElem?_append_left q6,List.getElem?_take,if_pos h1]
  · by_cases h2 : j < o + ys.length
    · rw [if_pos q6,splice,List.append_assoc,List.getElem?_append_right q6,e,List.getElem?_append_left q6]
    · rw [if_neg q6,splice,List.getElem?_append_right (by simp;omega),List.getElem?_drop]
      congr 1
      rw [List.length_append,e];omega
theorem qh3 (off : Nat) : ∀ (l : List Value) (s : Nat) (cs : Array Value),off + s + l.length≤cs.size→
    ((l.zipIdx s).foldl (fun (cs : Array Value) (x : Value × Nat)=>cs.setIfInBounds (off + x.2) x.1) cs).size = cs.size∧
    ∀ j : Nat,((l.zipIdx s).foldl (fun (cs : Array Value) (x : Value × Nat)=>cs.setIfInBounds (off + x.2) x.1) cs)[j]? = if off + s≤j∧j < off + s + l.length then l[j - (off + s)]? else cs[j]?
  | [],s,cs,_=>by
    refine ⟨rfl,fun j=>?_⟩
    have : ¬ (off + s≤j∧j < off + s + ([] : List Value).length):=by simp
    rw [if_neg this];rfl
  | v::r,s,cs,h=>by
    obtain ⟨h1,h2⟩:=qh3 off r (s + 1) (cs.setIfInBounds (off + s) v) (by simp at h ⊢;omega)
    simp only [List.zipIdx_cons,List.foldl_cons]
    refine ⟨by rw [h1];simp,fun j=>?_⟩
    rw [h2 j]
    simp only [List.length_cons] at h ⊢
    by_cases hj : off + (s + 1)≤j∧j < off + (s + 1) + r.length
    · have hj' : off + s≤j∧j < off + s + (r.length + 1):=by omega
      rw [if_pos hj,if_pos hj',show j - (off + s) = (j - (off + (s + 1))) + 1 by omega,List.getElem?_cons_succ]
    · rw [if_neg hj,Array.getElem?_setIfInBounds]
      by_cases he : off + s = j
      · have hj' : off + s≤j∧j < off + s + (r.length + 1):=by omega
        have hlt : j < cs.size:=by omega
        rw [if_pos he,if_pos hj',if_pos q6,show j - (off + s) = 0 by omega]
        rfl
      · have hj' : ¬ (off + s≤j∧j < off + s + (r.length + 1)):=by omega
        rw [if_neg he,if_neg hj']
theorem qh4 (vs cs : Array Value) (off : Nat) (h : off + vs.size≤cs.size) :
    vs.zipIdx.foldl (fun (cs : Array Value) (x : Value × Nat)=>cs.setIfInBounds (off + x.2) x.1) cs = (splice cs.toList off vs.toList).toArray:=by
  rw [← Array.foldl_toList,Array.toList_zipIdx]
  obtain ⟨h1,h2⟩:=qh3 off vs.toList 0 cs (by simpa using h)
  have hs:=q15 cs.toList vs.toList off (by simpa using h)
  apply Array.ext'
  apply List.ext_getElem?
  intro j
  rw [Array.getElem?_toList,h2 j,Jd _ _ _ _ (by simpa using h)]
  simp
def LRel (w : World) (Z : Nat→Prop) (inj : Inj) (nx : Nat) (cs : List V) (xs : Array Value) : Prop:=
  cs.length = xs.size∧∀ (i : Nat) (d : V) (c : Value),cs[i]? = some d→xs[i]? = some c→RelV w Z inj nx d c
theorem LRel.splice {w : World} {nx : Nat} {cs ys : List V} {xs vs : Array Value} {o : Nat} (h : LRel w Z inj nx cs xs) (hy : LRel w Z inj nx ys vs) (ho : o + ys.length≤cs.length) :
    LRel w Z inj nx (Am.splice cs o ys) (Am.splice xs.toList o vs.toList).toArray:=by
  have q1:=h.1
  have q2:=hy.1
  have ho' : o + vs.toList.length≤xs.toList.length:=by simp;omega
  refine ⟨by simp [q15 _ _ _ ho,q15 _ _ _ ho',h.1],fun i d c hd hc=>?_⟩
  rw [Jd _ _ _ _ ho] at hd
  rw [List.getElem?_toArray,Jd _ _ _ _ ho'] at hc
  have e : vs.toList.length = ys.length:=by simp;omega
  rw [e] at hc
  split at hd
  · rename_i hij
    rw [if_pos hij] at hc
    exact hy.2 _ _ _ hd (by simpa using hc)
  · rename_i hij
    rw [if_neg hij] at hc
    exact h.2 _ _ _ hd (by simpa using hc)
theorem qgv {ps : List (Nat × Operand)} {vs : List (Nat × V)} (h : RelS w Z inj st a Ds) (hp : Zm st.ev ps = some vs) :
    vs.length = ps.length∧∀ (k : Nat) (i : Nat) (v : V),vs[k]? = some (i,v)→∃ o,ps[k]? = some (i,o)∧RelV w Z inj st.nx v (a.eval o):=by
  induction ps generalizing vs with
  | nil=>simp [Zm] at hp;subst hp;simp
  | cons x r ih=>
    obtain ⟨i,o⟩:=x
    simp only [Zm] at hp
    cases h1 : st.ev o with
    | none=>simp [h1] at hp
    | some v=>
      cases h2 : Zm st.ev r with
      | none=>simp [h1,h2] at hp
      | some l=>
        simp [h1,h2] at hp;subst hp
        obtain ⟨h3,h4⟩:=ih h2
        refine ⟨by simp [h3],fun k i' v' hk=>?_⟩
        cases k with
        | zero=>simp at hk;obtain ⟨rfl,rfl⟩:=hk;exact ⟨o,qd,K3 h h1⟩
        | succ k=>simp at hk;obtain ⟨o',ho,hr⟩:=h4 k i' v' hk;exact ⟨o',by simpa using ho,hr⟩
theorem q7a {os : List Operand} {vs : List V} (h : RelS w Z inj st a Ds) (hp : evL st.ev os = some vs) : LRel w Z inj st.nx vs (os.map a.eval).toArray:=by
  induction os generalizing vs with
  | nil=>simp [evL] at hp;subst hp;exact ⟨qd,qd⟩
  | cons o r ih=>
    simp only [evL] at hp
    cases h1 : st.ev o with
    | none=>simp [h1] at hp
    | some v=>
      cases h2 : evL st.ev r with
      | none=>simp [h1,h2] at hp
      | some l=>
        simp [h1,h2] at hp;subst hp
        obtain ⟨h3,h4⟩:=ih h2
        refine ⟨by simpa using h3,fun k d c hd hc=>?_⟩
        cases k with
        | zero=>simp at hd hc;subst hd hc;exact K3 h h1
        | succ k=>simp at hd hc;exact h4 k d c hd (by simpa using hc)
theorem qd1 {w : World} {nx : Nat} (place : Nat→Option (Nat × Nat)) : ∀ (vs : List (Nat × V)) (xs : List (Nat × Value)) (l : List (Nat × List V)) (cs cs' : List V) (C : Array Value),
    vs.length = xs.length→(∀ (k : Nat) (i : Nat) (v : V),vs[k]? = some (i,v)→∃ x,xs[k]? = some (i,x)∧RelV w Z inj nx v x)→
    l.length = vs.length→(∀ (k : Nat) (i : Nat) (v : V),vs[k]? = some (i,v)→∃ o s,place i = some (o,s)∧(cellsOf v).length = s∧(cellsOf v).all Kb = true∧l[k]? = some (o,cellsOf v))→
    LRel w Z inj nx cs C→q45 cs l = some cs'→∃ C',Instr.fill place C xs = some C'∧LRel w Z inj nx cs' C'
  | [],xs,l,cs,cs',C,h1,_,h3,_,h5,h6=>by
    have : xs = []:=by cases xs <;> simp_all
    have : l = []:=by cases l <;> simp_all
    subst_vars
    simp [q45] at h6;subst h6
    exact ⟨C,by simp [Instr.fill],h5⟩
  | (i,v)::vs,xs,l,cs,cs',C,h1,h2,h3,h4,h5,h6=>by
    match xs,l,h1,h3 with
    | (i',x)::xs,(o',ys)::l,h1,h3=>
      obtain ⟨x',hx',hr⟩:=h2 0 i v rfl
      simp at hx';obtain ⟨rfl,rfl⟩:=hx'
      obtain ⟨o,s,hp,hl,hc,hl0⟩:=h4 0 i' v rfl
      simp at hl0;obtain ⟨rfl,rfl⟩:=hl0
      obtain ⟨q1,q2,q3⟩:=qa5 hr hc
      simp only [q45] at h6
      split at h6
      · rename_i hfit
        have hsz : x.cells.size = s:=by omega
        have hfit' : ¬ (o' + x.cells.size > C.size):=by have:=h5.1;omega
        obtain ⟨C',hC',hrel⟩:=qd1 place vs xs l (splice cs o' (cellsOf v)) cs' (splice C.toList o' x.cells.toList).toArray (by simpa using h1)
          (fun k i v hk=>by obtain ⟨x,hx⟩:=h2 (k + 1) i v (by simpa using hk);exact ⟨x,by simpa using hx⟩) (by simpa using h3)
          (fun k i v hk=>by obtain ⟨o,s,hx⟩:=h4 (k + 1) i v (by simpa using hk);exact ⟨o,s,by simpa using hx⟩)
          (h5.splice ⟨q1,q2⟩ hfit) h6
        refine ⟨C',?_,hrel⟩
        simp only [Instr.fill,hp,hsz]
        have : ¬ ((decide (s≠s) || decide (o' + s > C.size)) = true):=by simp;omega
        rw [if_neg (by simpa using this)]
        rw [qh4 x.cells C o' q6]
        exact hC'
      · simp at h6
end
end Go.Am
namespace Go.Am
open Go
variable {P : Program} {T : Tab}
section
variable {w : World} {Z : Nat→Prop} {inj : Inj} {nx : Nat}
theorem qjx {α β : Type} {f : α→Sem β} {g : α→β} : ∀ {l : List α},(∀ x∈l,(f x).run P w = .ok (g x) w)→(l.mapM f).run P w = .ok (l.map g) w
  | [],_=>by simp
  | x::r,h=>by
    have h1:=h x qd
    have h2:=qjx (l:=r) (fun y hy=>h y (by simp [hy]))
    simp [List.mapM_cons,h1,h2]
theorem qt1 {α β : Type} {f : α→Sem β} {g : α→β} {l : Array α} (h : ∀ x∈l.toList,(f x).run P w = .ok (g x) w) : (l.mapM f).run P w = .ok (l.toList.map g).toArray w:=by
  rw [Array.mapM_eq_mapM_toList,Sem.run_map,qjx h];rfl
theorem qh1 {fs : Array Field} {fl : List (Nat × Nat × Bool)} (h : (fs.toList.mapM fun f => do
      let jf ← P.info? f.type
      let df ← P.underlying f.type
      if jf.size = 0 then none else some (f.offset,jf.size,K5 df)) = some fl) :
    fl.length = fs.size∧∀ (i : Nat) (f : Field),fs[i]? = some f→∃ jf df,P.info? f.type = some jf∧P.underlying f.type = some df∧jf.size≠0∧fl[i]? = some (f.offset,jf.size,K5 df):=by
  obtain ⟨h1,h2⟩:=q7j h
  refine ⟨by simpa using h1,fun i f hf=>?_⟩
  obtain ⟨y,hy,hx⟩:=h2 i f (by simpa using hf)
  cases h3 : P.info? f.type with
  | none=>simp [h3] at hx
  | some jf=>
    cases h4 : P.underlying f.type with
    | none=>simp [h3,h4] at hx
    | some df=>
      simp only [h3,h4,Option.bind_eq_bind,Option.bind_some] at hx
      split at hx
      · simp at hx
      · rename_i hne
        simp at hx;subst hx
        exact ⟨jf,df,rfl,rfl,hne,hy⟩
theorem qd4 {fs : Array Field} {fl : List (Nat × Nat × Bool)} (h : (fs.toList.mapM fun f => do
      let jf ← P.info? f.type
      let df ← P.underlying f.type
      if jf.size = 0 then none else some (f.offset,jf.size,K5 df)) = some fl) {i off s : Nat} {ag : Bool} (hi : fl[i]? = some (off,s,ag)) :
    ∃ f jf df,fs[i]? = some f∧P.info? f.type = some jf∧P.underlying f.type = some df∧jf.size = s∧s≠0∧f.offset = off∧K5 df = ag:=by
  obtain ⟨h1,h2⟩:=qh1 h
  obtain ⟨f,hf⟩:=Kp (xs:=fs) (i:=i) (by have:=K4 hi;omega)
  obtain ⟨jf,df,h3,h4,h5,h6⟩:=h2 i f hf
  rw [hi] at h6;simp at h6
  obtain ⟨rfl,rfl,rfl⟩:=h6
  exact ⟨f,jf,df,hf,h3,h4,rfl,h5,rfl,rfl⟩
theorem qj4 {ti : TI} : ∀ {vs : List (Nat × V)} {l : List (Nat × List V)},placed ti vs = some l→l.length = vs.length∧∀ (k i : Nat) (v : V),vs[k]? = some (i,v)→∃ o s,
    (match ti.kind with | .struct=>(ti.flds[i]?).map fun f=>(f.1,f.2.1) | .array=>some (i * ti.esize,ti.esize) | _=>none) = some (o,s)∧(cellsOf v).length = s∧(cellsOf v).all Kb = true∧l[k]? = some (o,cellsOf v)
  | [],l,h=>by simp [placed] at h;subst h;simp
  | (i,v)::r,l,h=>by
    simp only [placed] at h
    split at h
    · rename_i o s l' h1 h2
      split at h
      · rename_i hc
        simp at h;subst h
        obtain ⟨h3,h4⟩:=qj4 h2
        refine ⟨by simp [h3],fun k i' v' hk=>?_⟩
        cases k with
        | zero=>simp at hk;obtain ⟨rfl,rfl⟩:=hk;exact ⟨o,s,h1,hc.1,hc.2,qd⟩
        | succ k=>simp at hk;obtain ⟨o',s',hx⟩:=h4 k i' v' hk;exact ⟨o',s',by simpa using hx⟩
      · simp at h
    · simp at h
theorem qzb {t : TypeId} {i : TI} {info : TypeInfo} {d : TypeDesc} {z : Value} (k : TiOk P t i info d z) : LRel w Z inj nx (i.zero.map .d) z.cells:=by
  obtain ⟨h1,h2⟩:=q71 (w:=w) (Z:=Z) k.cells
  refine ⟨by simpa using h1,fun j d c hd hc=>?_⟩
  simp only [List.getElem?_map,Option.map_eq_some_iff] at hd
  obtain ⟨d',hd',rfl⟩:=hd
  obtain ⟨c',hc',hr,_⟩:=h2 j d' hd'
  rw [hc] at hc';cases hc';exact .d hr
theorem Yq {t : TypeId} {info : TypeInfo} (h : P.info? t = some info) : (sizeOf t).run P w = .ok info.size w:=by simp [sizeOf,typeInfo,h]
theorem q1o {t : TypeId} {d : TypeDesc} (h : P.underlying t = some d) : (isAgg t).run P w = .ok (K5 d) w:=by
  simp only [isAgg,Sem.run_bind,run_underlying h,Result.andThen_ok]
  cases d <;> rfl
theorem qj0 {t : TypeId} {info : TypeInfo} {d : TypeDesc} (h1 : P.info? t = some info) (h2 : P.underlying t = some d) {cs r : List V} {xs : Array Value} {off : Nat} {v : V} (hl : LRel w Z inj nx cs xs)
    (hs : sub cs off info.size = some r) (hp : pack (K5 d) r = some v) : ∃ x,(part t xs off).run P w = .ok x w∧RelV w Z inj nx v x:=by
  obtain ⟨h3,h4⟩:=q9i hs
  have h5:=(qkz hs).1
  have hlen:=hl.1
  have hrel : ∀ (i : Nat) (d : V) (c : Value),r[i]? = some d→(xs.extract off (off + info.size)).toList[i]? = some c→RelV w Z inj nx d c:=by
    intro i d c hd hc
    obtain ⟨h6,h7⟩:=h4 i d hd
    refine hl.2 _ _ _ h6 ?_
    rw [Array.getElem?_toList,Array.getElem?_extract] at hc
    split at hc <;> first | exact hc | simp at hc
  have hlr : r.length = (xs.extract off (off + info.size)).toList.length:=by simp;omega
  have hpk:=qix hp hlr hrel
  cases hb : K5 d with
  | true=>
    rw [hb] at hpk
    refine ⟨.agg (xs.extract off (off + info.size)),?_,by
      have h9 : RelV w Z inj nx v (.agg (xs.extract off (off + info.size)).toList.toArray):=hpk
      rwa [Array.toArray_toList] at h9⟩
    simp [part,q1o h2,hb,Yq h1]
  | false=>
    rw [hb] at hpk hp
    match r,hp,h3,h4 with
    | [c],hp,h3,h4=>
      simp only [pack,Option.some.injEq] at hp;subst hp
      have h6:=(h4 0 c rfl).1
      simp only [Nat.add_zero] at h6
      obtain ⟨x,hx⟩:=Kp (xs:=xs) (i:=off) (by have:=K4 h6;omega)
      exact ⟨x,by simp [part,q1o h2,hb,hx],hl.2 _ _ _ h6 hx⟩
end
section
variable {w : World} {Z : Nat→Prop} {inj : Inj} {st : AS} {a : Act} {Ds : List Nat}
theorem qqn {t : TypeId} {i : TI} {ps : Array (Nat × Operand)} {vs : List (Nat × V)} {l : List (Nat × List V)} {cs : List V} (h : RelS w Z inj st a Ds) (ht : tiOf P t = some i) (hv : Zm st.ev ps.toList = some vs)
    (ha : i.agg = true) (hl : placed i vs = some l) (hf : q45 (i.zero.map .d) l = some cs) :
    Ka st st (q4h cs) w Z inj ((do pure (Next.value (← Instr.build t (ps.map fun (i,x)=>(i,a.eval x)))) : Sem Next).run P w):=by
  obtain ⟨info,d,z,k⟩:=Y9 ht
  obtain ⟨p1,p2⟩:=qgv h hv
  obtain ⟨q1,q2⟩:=qj4 hl
  have hz:=qzb (w:=w) (Z:=Z) (inj:=inj) (nx:=st.nx) k
  have hxs : ∀ (k i : Nat) (v : V),vs[k]? = some (i,v)→∃ x,(ps.toList.map fun (x : Nat × Operand)=>(x.1,a.eval x.2))[k]? = some (i,x)∧RelV w Z inj st.nx v x:=by
    intro k i v hk
    obtain ⟨o,ho,hr⟩:=p2 k i v hk
    exact ⟨a.eval o,by simp only [List.getElem?_map,ho];rfl,hr⟩
  have hzv : (zeroValue t).run P w = .ok z w:=by simp [zeroValue,typeInfo,k.inf,k.zero]
  have hkind:=k.kind
  unfold Yr at hkind
  cases hk : i.kind <;> simp only [hk,TI.agg] at hkind ha
  case struct=>
    obtain ⟨fs,rfl,hfl⟩:=hkind
    obtain ⟨_,hff⟩:=qh1 hfl
    obtain ⟨C',hC,hr⟩:=qd1 (fun i=>((fs.toList.map fun (f : Field)=>(f.offset,((P.info? f.type).map (·.size)).getD 0)).toArray)[i]?) vs (ps.toList.map fun (x : Nat × Operand)=>(x.1,a.eval x.2)) l _ cs z.cells (by simp [p1]) hxs q1
      (fun k i' v hk'=>by
        obtain ⟨o,s,h1,h2,h3,h4⟩:=q2 k i' v hk'
        simp only [hk,Option.map_eq_some_iff] at h1
        obtain ⟨⟨o',s',ag⟩,h5,h6⟩:=h1
        simp at h6;obtain ⟨rfl,rfl⟩:=h6
        obtain ⟨f,jf,df,g1,g2,_,g4,_,g6,_⟩:=qd4 hfl h5
        exact ⟨o',s',by simp [g1,g2,g4,g6],h2,h3,h4⟩) hz hf
    refine .quiet h (K9 (x:=.agg C') ?_) (qdu hr.1 hr.2)
    have hm : (fs.mapM fun f=>do pure (f.offset,← sizeOf f.type) : Sem (Array (Nat × Nat))).run P w = .ok (fs.toList.map fun (f : Field)=>(f.offset,((P.info? f.type).map (·.size)).getD 0)).toArray w:=by
      refine qt1 fun f hf=>?_
      obtain ⟨j,hj⟩:=List.mem_iff_getElem?.1 hf
      obtain ⟨jf,df,g1,_⟩:=hff j f (by simpa using hj)
      simp [Yq g1,g1]
    simp only [Instr.build,Sem.run_bind,hzv,Result.andThen_ok,run_underlying k.und,hm]
    have hC' : Instr.fill (fun x=>((fs.toList.map fun (f : Field)=>(f.offset,((P.info? f.type).map (·.size)).getD 0)).toArray)[x]?) z.cells (ps.map fun (x : Nat × Operand)=>(x.1,a.eval x.2)).toList = some C':=by simpa using hC
    simp only [hC']
    rfl
  case array=>
    obtain ⟨e,ie,de,rfl,g1,g2,g3,g4,_⟩:=hkind
    obtain ⟨C',hC,hr⟩:=qd1 (fun j=>some (j * i.esize,i.esize)) vs (ps.toList.map fun (x : Nat × Operand)=>(x.1,a.eval x.2)) l _ cs z.cells (by simp [p1]) hxs q1
      (fun k i' v hk'=>by
        obtain ⟨o,s,h1,h2,h3,h4⟩:=q2 k i' v hk'
        simp only [hk] at h1
        exact ⟨o,s,h1,h2,h3,h4⟩) hz hf
    refine .quiet h (K9 (x:=.agg C') ?_) (qdu hr.1 hr.2)
    have hC' : Instr.fill (fun j=>some (j * i.esize,i.esize)) z.cells (ps.map fun (x : Nat × Operand)=>(x.1,a.eval x.2)).toList = some C':=by simpa using hC
    simp only [Instr.build,Sem.run_bind,hzv,Result.andThen_ok,run_underlying k.und,Yq g1,g3,hC']
    rfl
  all_goals simp at ha
theorem qi6 {t : TypeId} {i : TI} {pv v : V} {vp : Value} (h : RelH w Z inj st.hp st.nx) (ht : tiOf P t = some i) (hx : RelV w Z inj st.nx pv vp) (hl : J8 st i pv = some v) :
    ∃ b o x,vp = .pointer (some ⟨b,o,none⟩)∧(Instr.loadAt t vp).run P w = .ok x w∧RelV w Z inj st.nx v x:=by
  obtain ⟨info,d,z,k⟩:=Y9 ht
  have fin : ∀ {b o : Nat} {r : List V} {pp : Value},pp = .pointer (some ⟨b,o,none⟩)→pack i.agg r = some v→r.length = i.size→
      (∀ (k : Nat) (x : V),r[k]? = some x→∃ c,w.cell? ⟨b,o + k,none⟩ = some c∧RelV w Z inj st.nx x c)→∃ b o x,pp = .pointer (some ⟨b,o,none⟩)∧(Instr.loadAt t pp).run P w = .ok x w∧RelV w Z inj st.nx v x:=by
    intro b o r pp he hpk hlen hc
    obtain ⟨x,hrun,hrel⟩:=qpb (P:=P) k hpk hlen hc
    exact ⟨b,o,x,he,by rw [he];exact hrun,hrel⟩
  cases pv <;> simp only [J8,reduceCtorEq] at hl
  case ref n es e j=>
    cases hx with
    | @ref _ _ _ _ b o hn hi=>
    cases hb : st.blk n with
    | none=>simp [hb] at hl
    | some blk=>
      have hB:=(h.blk n blk hb).2
      cases blk with
      | dead=>simp [hb] at hl
      | loop=>simp [hb] at hl
      | mp=>simp [hb] at hl
      | dat es' xs=>
        simp only [hb] at hl
        split at hl <;> try simp at hl
        rename_i cs he hx1
        have he:=Nat.eq_of_beq_eq_true he
        subst he
        cases hs : sub cs j i.size with
        | none=>simp [hs] at hl
        | some r=>
          simp only [hs] at hl
          rw [qe8] at hl
          obtain ⟨h1,h2⟩:=q9i hs
          obtain ⟨b1,b2,b3⟩:=hB
          rcases b3 with ⟨b3,_⟩ | ⟨b',o',arr,ty,b3,b4,b5⟩
          · subst b3;simp at hx1
          · rw [hi] at b3;cases b3
            refine fin rfl hl (by simpa using h1) ?_
            intro k x hk
            simp only [List.getElem?_map,Option.map_eq_some_iff] at hk
            obtain ⟨y,hy,rfl⟩:=hk
            obtain ⟨h3,_⟩:=h2 k y hy
            obtain ⟨_,c,h4,h5⟩:=b5 e cs (j + k) y hx1 h3
            exact ⟨c,by simp only [World.cell?,b4];rw [← h4];simp [Nat.add_assoc],.d h5⟩
      | cel es' xs=>
        simp only [hb] at hl
        split at hl <;> try simp at hl
        rename_i cs he hx1
        have he:=Nat.eq_of_beq_eq_true he
        subst he
        cases hs : sub cs j i.size with
        | none=>simp [hs] at hl
        | some r=>
          simp only [hs] at hl
          obtain ⟨h1,h2⟩:=q9i hs
          obtain ⟨b1,b2,b3⟩:=hB
          rcases b3 with ⟨b3,_⟩ | ⟨b',o',arr,ty,b3,b4,b5⟩
          · subst b3;simp at hx1
          · rw [hi] at b3;cases b3
            refine fin rfl hl h1 ?_
            intro k x hk
            obtain ⟨h3,_⟩:=h2 k x hk
            obtain ⟨_,c,h4,h5⟩:=b5 e cs (j + k) x hx1 h3
            exact ⟨c,by simp only [World.cell?,b4];rw [← h4];simp [Nat.add_assoc],h5⟩
  case dref cs j=>
    cases hx with
    | @dref _ _ b o hz hc hr=>
    cases hs : sub cs j i.size with
    | none=>simp [hs] at hl
    | some r=>
      simp only [hs] at hl
      rw [qe8] at hl
      obtain ⟨h1,h2⟩:=q9i hs
      refine fin rfl hl (by simpa using h1) ?_
      intro k x hk
      simp only [List.getElem?_map,Option.map_eq_some_iff] at hk
      obtain ⟨y,hy,rfl⟩:=hk
      obtain ⟨h3,_⟩:=h2 k y hy
      obtain ⟨c,hc'⟩:=hc _ _ h3
      exact ⟨c,by rw [← hc',Nat.add_assoc],.d (hr _ _ _ h3 hc')⟩
  case d x=>
    cases x <;> simp only [reduceCtorEq] at hl
    rename_i cs
    cases hx with
    | d hx=>
    cases hx with
    | @box _ b o hz hc hr=>
    cases hs : sub cs 0 i.size with
    | none=>simp [hs] at hl
    | some r=>
      simp only [hs] at hl
      rw [qe8] at hl
      obtain ⟨h1,h2⟩:=q9i hs
      refine fin rfl hl (by simpa using h1) ?_
      intro k x hk
      simp only [List.getElem?_map,Option.map_eq_some_iff] at hk
      obtain ⟨y,hy,rfl⟩:=hk
      obtain ⟨h3,_⟩:=h2 k y hy
      rw [Nat.zero_add] at h3
      obtain ⟨c,hc'⟩:=hc _ _ h3
      exact ⟨c,hc',.d (hr _ _ _ h3 hc')⟩
theorem qqy {t : TypeId} {i : TI} {p : Operand} {pv v : V} (h : RelS w Z inj st a Ds) (ht : tiOf P t = some i) (hp : st.ev p = some pv) (hl : J8 st i pv = some v) :
    Ka st st v w Z inj ((do pure (Next.value (← Instr.loadAt t (a.eval p))) : Sem Next).run P w):=by
  obtain ⟨b,o,x,_,hrun,hr⟩:=qi6 (P:=P) h.heap ht (K3 h hp) hl
  exact .quiet h (K9 hrun) hr
end
end Go.Am
namespace Go.Am
open Go
variable {P : Program} {T : Tab}
theorem qcl : ∀ {k1 k2 : List (Option IntKind)} {a b : List DV} {r : Bool},K7 (k1 ++ k2) a b = some r→
    ∃ p q,K7 k1 (a.take k1.length) (b.take k1.length) = some p∧K7 k2 (a.drop k1.length) (b.drop k1.length) = some q∧r = (p && q)
  | [],k2,a,b,r,h=>⟨true,r,by simp [K7],by simpa using h,qd⟩
  | k::k1,k2,a,b,r,h=>by
    match a,b,h with
    | x::a,y::b,h=>
      simp only [List.cons_append,K7] at h
      split at h <;> simp at h
      rename_i u v h1 h2
      obtain ⟨p,q,h3,h4,h5⟩:=qcl h2
      refine ⟨u && p,q,by simp [K7,h1,h3],by simpa using h4,?_⟩
      rw [← h,h5,Bool.and_assoc]
    | [],_,h=>simp [K7] at h
    | _::_,[],h=>simp [K7] at h
theorem qa4 : ∀ {ks : List (Option IntKind)} {a b : List DV} {r : Bool},K7 ks a b = some r→a.length = ks.length∧b.length = ks.length
  | [],[],[],_,_=>⟨rfl,rfl⟩
  | k::ks,x::a,y::b,r,h=>by
    simp only [K7] at h
    split at h <;> simp at h
    rename_i h1 h2
    have:=qa4 h2
    simp;omega
  | [],_::_,_,_,h=>by simp [K7] at h
  | [],[],_::_,_,h=>by simp [K7] at h
  | _::_,[],_,_,h=>by simp [K7] at h
  | _::_,_::_,[],_,h=>by simp [K7] at h
section
variable {w : World} {Z : Nat→Prop}
def DRel (w : World) (Z : Nat→Prop) (ds : List DV) (cs : Array Value) : Prop:=ds.length = cs.size∧∀ (i : Nat) (d : DV) (c : Value),ds[i]? = some d→cs[i]? = some c→RelD w Z d c
theorem DRel.extract {ds : List DV} {cs : Array Value} (h : DRel w Z ds cs) (o s : Nat) (hs : o + s≤ds.length) : DRel w Z ((ds.drop o).take s) (cs.extract o (o + s)):=by
  have h1:=h.1
  refine ⟨by simp;omega,fun i d c hd hc=>?_⟩
  rw [List.getElem?_take] at hd
  split at hd
  · rw [List.getElem?_drop] at hd
    rw [Array.getElem?_extract] at hc
    split at hc
    · exact h.2 _ _ _ hd hc
    · simp at hc
  · simp at hd
theorem qbv {t : TypeId} {d : TypeDesc} (h : P.underlying t = some d) : ∃ info,P.info? t = some info∧P.cellsOf t = info.size:=by
  cases hi : P.info? t with
  | none=>simp [Program.underlying,hi] at h
  | some info=>exact ⟨info,rfl,by simp [Program.cellsOf,hi]⟩
def EqOk (P : Program) (w : World) (Z : Nat→Prop) (k : Nat) (t : TypeId) (desc : TypeDesc) (ks : List (Option IntKind)) : Prop:=
  ∀ (xs ys : List DV) (X Y : Array Value) (r : Bool),DRel w Z xs X→DRel w Z ys Y→K7 ks xs ys = some r→
    (K5 desc = true→(Op.equalIn k t (.agg X) (.agg Y)).run P w = .ok r w)∧(K5 desc = false→ks.length = 1∧∀ x y,X[0]? = some x→Y[0]? = some y→(Op.equalIn k t x y).run P w = .ok r w)
def q76 (k : Nat) (X Y : Array Value) (f : Field) (_s : Option Bool × Unit) : Sem (ForInStep (Option Bool × Unit)):=
  if f.name ≠ "_" then do
    let __do_lift ← part f.type X f.offset
    let __do_lift_1 ← part f.type Y f.offset
    let __do_lift ← Op.equalIn k f.type __do_lift __do_lift_1
    if (!__do_lift) = true then pure (ForInStep.done (some false,())) else pure (ForInStep.yield (none,()))
  else pure (ForInStep.yield (none,()))
theorem qgu {k : Nat} {t : TypeId} {desc : TypeDesc} {info : TypeInfo} {ks : List (Option IntKind)} (h : EqOk P w Z k t desc ks) (hu : P.underlying t = some desc) (hi : P.info? t = some info) (hs : info.size = ks.length)
    {xs ys : List DV} {X Y : Array Value} (hx : DRel w Z xs X) (hy : DRel w Z ys Y) {o : Nat} (hlx : o + ks.length≤xs.length) (hly : o + ks.length≤ys.length) {p : Bool}
    (hp : K7 ks ((xs.drop o).take ks.length) ((ys.drop o).take ks.length) = some p) :
    ∃ vx vy,(part t X o).run P w = .ok vx w∧(part t Y o).run P w = .ok vy w∧(Op.equalIn k t vx vy).run P w = .ok p w:=by
  obtain ⟨e1,e2⟩:=h _ _ _ _ p (hx.extract o ks.length hlx) (hy.extract o ks.length hly) hp
  cases hag : K5 desc with
  | true=>
    exact ⟨.agg (X.extract o (o + ks.length)),.agg (Y.extract o (o + ks.length)),by simp [part,q1o hu,hag,Yq hi,hs],by simp [part,q1o hu,hag,Yq hi,hs],e1 hag⟩
  | false=>
    obtain ⟨h1,e2⟩:=e2 hag
    have hx1:=hx.1
    have hy1:=hy.1
    obtain ⟨x,hxx⟩:=Kp (xs:=X) (i:=o) q6
    obtain ⟨y,hyy⟩:=Kp (xs:=Y) (i:=o) q6
    refine ⟨x,y,by simp [part,q1o hu,hag,hxx],by simp [part,q1o hu,hag,hyy],e2 x y ?_ ?_⟩
    · rw [Array.getElem?_extract,h1,if_pos (by have:=Yg hxx;omega)];exact hxx
    · rw [Array.getElem?_extract,h1,if_pos (by have:=Yg hyy;omega)];exact hyy
theorem qgr (d : Nat) (k : Nat) (ih : ∀ t desc ks,P.underlying t = some desc→K8 P d t = some ks→EqOk P w Z k t desc ks)
    (xs ys : List DV) (X Y : Array Value) (hx : DRel w Z xs X) (hy : DRel w Z ys Y) : ∀ (l : List Field) (o : Nat) (r : Bool) (ks : List (Option IntKind)),tile P (K8 P d) o l = some ks→o + ks.length≤xs.length→o + ks.length≤ys.length→
    K7 ks (xs.drop o) (ys.drop o) = some r→(forIn l ((none : Option Bool),()) (q76 k X Y) : Sem (Option Bool × Unit)).run P w = .ok (if r then (none,()) else (some false,())) w
  | [],o,r,ks,ht,_,_,hc=>by
    simp only [tile,Option.some.injEq] at ht;subst ht
    obtain ⟨h1,h2⟩:=qa4 hc
    rw [List.eq_nil_of_length_eq_zero h1,List.eq_nil_of_length_eq_zero h2] at hc
    simp [K7] at hc;subst hc
    simp
  | f::l,o,r,ks,ht,hlx,hly,hc=>by
    simp only [tile] at ht
    cases hpe : K8 P d f.type with
    | none=>simp [hpe] at ht
    | some ka=>
      simp only [hpe] at ht
      split at ht <;> try simp at ht
      rename_i hcond
      obtain ⟨rfl,hn,hsz⟩:=hcond
      cases htl : tile P (K8 P d) (f.offset + ka.length) l with
      | none=>simp [htl] at ht
      | some kb=>
        simp only [htl,Option.some.injEq] at ht;subst ht
        simp only [List.length_append] at hlx hly
        obtain ⟨p,q,hp,hq,hr⟩:=qcl hc
        rw [List.drop_drop,List.drop_drop] at hq
        obtain ⟨df,hdf⟩ : ∃ df,P.underlying f.type = some df:=by
          cases hu : P.underlying f.type with
          | none=>cases d <;> simp [K8,hu] at hpe
          | some df=>exact ⟨df,rfl⟩
        obtain ⟨jf,hjf,hsz'⟩:=qbv hdf
        obtain ⟨vx,vy,g1,g2,g3⟩:=qgu (ih f.type df ka hdf hpe) hdf hjf q6 hx hy (o:=f.offset) q6 q6 hp
        rw [List.forIn_cons]
        simp only [q76,if_pos hn,Sem.run_bind,g1,g2,g3,Result.andThen_ok]
        cases p with
        | false=>simp [hr]
        | true=>
          have:=qgr d k ih xs ys X Y hx hy l (f.offset + ka.length) q kb htl q6 q6 hq
          simp only [Bool.true_and] at hr
          subst hr
          simpa using this
def q77 (k : Nat) (e : TypeId) (n : Nat) (X Y : Array Value) (i : Nat) (_s : Option Bool × Unit) : Sem (ForInStep (Option Bool × Unit)):=do
  let __do_lift ← part e X (i * n)
  let __do_lift_1 ← part e Y (i * n)
  let __do_lift ← Op.equalIn k e __do_lift __do_lift_1
  if (!__do_lift) = true then pure (ForInStep.done (some false,())) else pure (ForInStep.yield (none,()))
theorem qgs {k : Nat} {e : TypeId} {desc : TypeDesc} {info : TypeInfo} {a : List (Option IntKind)} (hE : EqOk P w Z k e desc a) (hu : P.underlying e = some desc) (hi : P.info? e = some info) (hs : info.size = a.length)
    {xs ys : List DV} {X Y : Array Value} (hx : DRel w Z xs X) (hy : DRel w Z ys Y) : ∀ (m s : Nat) (r : Bool),(s + m) * a.length≤xs.length→(s + m) * a.length≤ys.length→
    K7 (List.replicate m a).flatten (xs.drop (s * a.length)) (ys.drop (s * a.length)) = some r→(forIn (List.range' s m) ((none : Option Bool),()) (q77 k e info.size X Y) : Sem (Option Bool × Unit)).run P w = .ok (if r then (none,()) else (some false,())) w
  | 0,s,r,_,_,hc=>by
    simp only [List.replicate_zero,List.flatten_nil] at hc
    obtain ⟨h1,h2⟩:=qa4 hc
    rw [List.eq_nil_of_length_eq_zero h1,List.eq_nil_of_length_eq_zero h2] at hc
    simp [K7] at hc;subst hc
    simp
  | m + 1,s,r,hlx,hly,hc=>by
    rw [List.replicate_succ,List.flatten_cons] at hc
    obtain ⟨p,q,hp,hq,hr⟩:=qcl hc
    rw [List.drop_drop,List.drop_drop] at hq
    have e1 : s * a.length + a.length = (s + 1) * a.length:=by rw [Nat.add_mul];simp
    have e2 : (s + 1) * a.length + m * a.length = (s + (m + 1)) * a.length:=by rw [← Nat.add_mul];congr 1;omega
    obtain ⟨vx,vy,g1,g2,g3⟩:=qgu hE hu hi hs hx hy (o:=s * a.length) q6 q6 hp
    rw [List.range'_succ,List.forIn_cons]
    simp only [q77,hs,Sem.run_bind,g1,g2,g3,Result.andThen_ok]
    cases p with
    | false=>simp [hr]
    | true=>
      rw [e1] at hq
      have:=qgs hE hu hi hs hx hy m (s + 1) q (by rw [Nat.add_mul];omega) (by rw [Nat.add_mul];omega) hq
      simp only [Bool.true_and] at hr
      subst hr
      rw [hs] at this
      simpa using this
theorem qac : ∀ (d : Nat) (t : TypeId) (desc : TypeDesc) (ks : List (Option IntKind)),P.underlying t = some desc→K8 P d t = some ks→∀ k,d≤k→EqOk P w Z k t desc ks
  | 0,t,desc,ks,hu,hp,k,hk=>by simp [K8] at hp
  | d + 1,t,desc,ks,hu,hp,k,hk=>by
    obtain ⟨k,rfl⟩ : ∃ k',k = k' + 1:=⟨k - 1,q6⟩
    intro xs ys X Y r hx hy hc
    obtain ⟨hl1,hl2⟩:=qa4 hc
    simp only [K8,hu] at hp
    cases desc <;> simp only [reduceCtorEq,Option.some.injEq] at hp
    case bool=>
      subst hp
      refine ⟨by simp [K5],fun _=>⟨rfl,fun x y hxx hyy=>?_⟩⟩
      match xs,ys,hl1,hl2,hc with
      | [a],[b],_,_,hc=>
        have ra:=hx.2 0 a x rfl hxx
        have rb:=hy.2 0 b y rfl hyy
        simp only [K7] at hc
        cases a <;> cases b <;> simp only [q2i,reduceCtorEq] at hc
        simp at hc;subst hc
        cases ra;cases rb;simp [Op.equalIn,run_underlying hu]
    case int k0=>
      subst hp
      refine ⟨by simp [K5],fun _=>⟨rfl,fun x y hxx hyy=>?_⟩⟩
      match xs,ys,hl1,hl2,hc with
      | [a],[b],_,_,hc=>
        have ra:=hx.2 0 a x rfl hxx
        have rb:=hy.2 0 b y rfl hyy
        simp only [K7] at hc
        cases a <;> cases b <;> simp only [q2i,reduceCtorEq] at hc
        split at hc <;> simp at hc
        rename_i h1 h2
        split at h1 <;> simp at h1
        rename_i hkk
        obtain ⟨rfl,rfl⟩:=hkk
        subst h1 hc
        simp at h2;subst h2
        cases ra;cases rb;simp [Op.equalIn,run_underlying hu]
    case struct fs=>
      refine ⟨fun _=>?_,by simp [K5]⟩
      split at hp
      · simp at hp
      · rename_i hst
        simp only [Op.equalIn,Sem.run_bind,run_underlying hu,Result.andThen_ok,run_program,hst,Bool.false_eq_true,if_false]
        have:=qgr (P:=P) (w:=w) (Z:=Z) d k (fun t desc ks h1 h2=>qac d t desc ks h1 h2 k q6) xs ys X Y hx hy fs.toList 0 r ks hp q6 q6 (by simpa using hc)
        rw [Array.forIn_toList] at this
        have e : (fun (f : Field) (_s : Option Bool × Unit)=>q76 k X Y f _s) = q76 k X Y:=rfl
        unfold q76 at this
        rw [this]
        cases r <;> simp
    case array n e=>
      refine ⟨fun _=>?_,by simp [K5]⟩
      cases hpe : K8 P d e with
      | none=>simp [hpe] at hp
      | some a=>
        simp only [hpe] at hp
        split at hp
        · rename_i hsz
          simp only [Option.some.injEq] at hp;subst hp
          obtain ⟨de,hde⟩ : ∃ de,P.underlying e = some de:=by
            cases hu' : P.underlying e with
            | none=>cases d <;> simp [K8,hu'] at hpe
            | some de=>exact ⟨de,rfl⟩
          obtain ⟨je,hje,hsz'⟩:=qbv hde
          have hlen : (List.replicate n a).flatten.length = n * a.length:=by simp
          have:=qgs (qac d e de a hde hpe k q6) hde hje q6 hx hy n 0 r (by rw [Nat.zero_add];omega) (by rw [Nat.zero_add];omega) (by simpa using hc)
          simp only [Op.equalIn,Sem.run_bind,run_underlying hu,Result.andThen_ok,Yq hje,Std.Legacy.Range.forIn_eq_forIn_range']
          have e : (fun (i : Nat) (_s : Option Bool × Unit)=>q77 k e je.size X Y i _s) = q77 k e je.size X Y:=rfl
          unfold q77 at this
          simp only [Std.Legacy.Range.size,Nat.sub_zero,Nat.add_sub_cancel,Nat.div_one]
          rw [this]
          cases r <;> simp
        · simp at hp
end
section
variable {w : World} {Z : Nat→Prop} {inj : Inj} {st : AS} {a : Act} {Ds : List Nat}
theorem qm5 {op : BinOp} {k : IntKind} {x y : Int} {r : DV} (h : binI op k x y = some r) (hs : op≠.shl∧op≠.shr) : ∃ v,(∀ t,(binOp op t (.int k x) (.int k y)).run P w = .ok v w)∧RelD w Z r v:=by
  cases op <;> simp only [binI,reduceCtorEq,Option.some.injEq] at h <;> try (simp at hs;done)
  case add=>subst h;exact ⟨_,fun t=>by simp [binOp,Op.intArith],.int _ _⟩
  case sub=>subst h;exact ⟨_,fun t=>by simp [binOp,Op.intArith],.int _ _⟩
  case mul=>subst h;exact ⟨_,fun t=>by simp [binOp,Op.intArith],.int _ _⟩
  case quo=>split at h <;> simp at h;subst h;rename_i hy;exact ⟨_,fun t=>by simp [binOp,Op.intDiv,hy],.int _ _⟩
  case rem=>split at h <;> simp at h;subst h;rename_i hy;exact ⟨_,fun t=>by simp [binOp,Op.intDiv,hy],.int _ _⟩
  case and=>subst h;exact ⟨_,fun t=>by simp [binOp,Op.intBits],.int _ _⟩
  case or=>subst h;exact ⟨_,fun t=>by simp [binOp,Op.intBits],.int _ _⟩
  case xor=>subst h;exact ⟨_,fun t=>by simp [binOp,Op.intBits],.int _ _⟩
  case eql=>subst h;exact ⟨_,fun t=>by simp [binOp,Op.intCmp],.bool _⟩
  case neq=>subst h;exact ⟨_,fun t=>by simp [binOp,Op.intCmp],.bool _⟩
  case lss=>subst h;exact ⟨_,fun t=>by simp [binOp,Op.intCmp],.bool _⟩
  case leq=>subst h;exact ⟨_,fun t=>by simp [binOp,Op.intCmp],.bool _⟩
  case gtr=>subst h;exact ⟨_,fun t=>by simp [binOp,Op.intCmp],.bool _⟩
  case geq=>subst h;exact ⟨_,fun t=>by simp [binOp,Op.intCmp],.bool _⟩
theorem qk8 {op : BinOp} {k k' : IntKind} {x y : Int} {r : DV} (h : q88 op k x y = some r) : ∃ v,(∀ t,(binOp op t (.int k x) (.int k' y)).run P w = .ok v w)∧RelD w Z r v:=by
  unfold q88 at h
  split at h <;> try simp at h
  rename_i hy
  cases op <;> simp only [reduceCtorEq,Option.some.injEq] at h
  case shl=>subst h;exact ⟨_,fun t=>by simp [binOp,Op.shift,hy],.int _ _⟩
  case shr=>subst h;exact ⟨_,fun t=>by simp [binOp,Op.shift,hy],.int _ _⟩
theorem Ug {op : BinOp} {t : TypeId} {x y : Operand} {u v : Value} (hu : ∀ c,u≠.agg c) (hn : u≠.nilIface) : (eqGuard op t x y u v).run P w = .ok () w:=by
  unfold eqGuard
  cases op <;> simp <;> cases u <;> simp_all
theorem qgo {op : BinOp} {t : TypeId} {x y : Operand} {u v : Array Value} (h : P.eqGuardType P.depth t = false) : (eqGuard op t x y (.agg u) (.agg v)).run P w = .ok () w:=by
  unfold eqGuard
  cases op <;> simp [h]
end
end Go.Am
namespace Go.Am
open Go
variable {P : Program} {T : Tab}
section
variable {w : World} {Z : Nat→Prop} {inj : Inj} {st : AS} {a : Act} {Ds : List Nat}
theorem ql7 {pk : TypeId → Option (List (Option IntKind))} {k : Nat} (ih : ∀ t ks, pk t = some ks → P.eqGuardType k t = false) : ∀ {l : List Field} {o : Nat} {ks}, tile P pk o l = some ks → l.any (fun f => f.name != "_" && P.eqGuardType k f.type) = false
  | [],_,_,_=>rfl
  | f::r,o,ks,h=>by
    simp only [tile] at h
    cases hp : pk f.type with
    | none=>simp [hp] at h
    | some ka=>
      simp only [hp] at h
      split at h <;> try simp at h
      cases ht : tile P pk (o + ka.length) r with
      | none=>simp [ht] at h
      | some kb=>
        have:=ql7 ih ht
        simp only [List.any_cons,this,ih _ _ hp,Bool.and_false,Bool.or_false]
theorem qdz : ∀ (d : Nat) (t : TypeId) (ks : List (Option IntKind)),K8 P d t = some ks→∀ k,d≤k→P.eqGuardType k t = false
  | 0,t,ks,h,k,hk=>by simp [K8] at h
  | d + 1,t,ks,h,k,hk=>by
    obtain ⟨k,rfl⟩ : ∃ k',k = k' + 1:=⟨k - 1,q6⟩
    simp only [K8] at h
    simp only [Program.eqGuardType]
    cases hu : P.underlying t with
    | none=>rfl
    | some desc=>
      cases desc <;> simp only [hu,reduceCtorEq] at h <;> try rfl
      case array n e=>
        cases hp : K8 P d e with
        | none=>simp [hp] at h
        | some a=>exact qdz d e a hp k q6
      case struct fs=>
        split at h <;> try simp at h
        have:=ql7 (fun t ks hp=>qdz d t ks hp k q6) h
        simp only []
        rw [← Array.any_toList];exact this
theorem qis {op : BinOp} {t : TypeId} {i : TI} {x y : Operand} {p q : List DV} {ks : List (Option IntKind)} {r : Bool} {b : DV} (h : RelS w Z inj st a Ds) (ht : tiOf P t = some i) (hx : st.ev x = some (.d (.agg p))) (hy : st.ev y = some (.d (.agg q)))
    (he : i.eqs = some ks) (hc : K7 ks p q = some r) (hop : (op = .eql∧b = .bool r)∨(op = .neq∧b = .bool (!r))) :
    Ka st st (.d b) w Z inj ((do pure (Next.value (← (do eqGuard op t x y (a.eval x) (a.eval y);binOp op t (a.eval x) (a.eval y) : Sem Value)) ) : Sem Next).run P w):=by
  obtain ⟨info,d,z,k⟩:=Y9 ht
  have h1:=K3 h hx
  have h2:=K3 h hy
  generalize a.eval x = vx at h1 ⊢
  generalize a.eval y = vy at h2 ⊢
  cases h1 with | d h1=>cases h1 with | @agg _ X hl1 hr1=>
  cases h2 with | d h2=>cases h2 with | @agg _ Y hl2 hr2=>
  obtain ⟨hpe,hag⟩:=k.eqs ks he
  have hg : P.eqGuardType P.depth t = false:=qdz 8 t ks hpe _ (by unfold Program.depth Made.depth;omega)
  have hrun:=(qac (w:=w) (Z:=Z) 8 t d ks k.und hpe Op.maxDepth (by unfold Op.maxDepth;omega) p q X Y r ⟨hl1,hr1⟩ ⟨hl2,hr2⟩ hc).1 hag
  rcases hop with ⟨rfl,rfl⟩ | ⟨rfl,rfl⟩
  · exact .quiet h (K9 (x:=.bool r) (by simp [qgo hg,binOp,Op.equal,hrun])) (.d (.bool _))
  · exact .quiet h (K9 (x:=.bool (!r)) (by simp [qgo hg,binOp,Op.equal,hrun])) (.d (.bool _))
theorem qql {op : BinOp} {t : TypeId} {x y : Operand} {k k' : IntKind} {p q : Int} {b : DV} (h : RelS w Z inj st a Ds) (hx : st.ev x = some (.d (.int k p))) (hy : st.ev y = some (.d (.int k' q)))
    (hc : binD op (.int k p) (.int k' q) = some b) :
    Ka st st (.d b) w Z inj ((do pure (Next.value (← (do eqGuard op t x y (a.eval x) (a.eval y);binOp op t (a.eval x) (a.eval y) : Sem Value)) ) : Sem Next).run P w):=by
  have h1:=K3 h hx
  have h2:=K3 h hy
  generalize a.eval x = vx at h1 ⊢
  generalize a.eval y = vy at h2 ⊢
  cases h1 with | d h1=>
  cases h1
  cases h2 with | d h2=>
  cases h2
  have hg:=Ug (P:=P) (w:=w) (op:=op) (t:=t) (x:=x) (y:=y) (u:=.int k p) (v:=.int k' q) qd qd
  have key : ∃ v,(∀ t,(binOp op t (.int k p) (.int k' q)).run P w = .ok v w)∧RelD w Z b v:=by
    unfold binD at hc
    split at hc
    · rename_i e1 e2;cases e1;cases e2;exact qk8 hc
    · rename_i e1 e2;cases e1;cases e2;exact qk8 hc
    · rename_i n1 n2 e1 e2
      cases e1;cases e2
      split at hc <;> try simp at hc
      rename_i hk;subst hk
      exact qm5 hc ⟨fun e=>n1 e,fun e=>n2 e⟩
    · simp at hc
  obtain ⟨v,hv,hr⟩:=key
  exact .quiet h (K9 (x:=v) (by simp [hg,hv])) (.d hr)
theorem maxD : Op.maxDepth = 9999 + 1:=rfl
theorem qnv {t : TypeId} (h : P.underlying t = some .bool) (p q : Bool) : (Op.equal t (.bool p) (.bool q)).run P w = .ok (p == q) w:=by
  rw [Op.equal,maxD,Op.equalIn];simp only [Sem.run_bind,run_underlying h,Result.andThen_ok];rfl
theorem qgt {t e : TypeId} (h : P.underlying t = some (.slice e)) (a : Option Addr) (n c : Nat) : (Op.equal t (.slice none 0 0) (.slice a n c)).run P w = .ok a.isNone w:=by
  rw [Op.equal,maxD,Op.equalIn];simp only [Sem.run_bind,run_underlying h,Result.andThen_ok];rfl
theorem qnz {t e : TypeId} (h : P.underlying t = some (.slice e)) (a : Addr) (n c : Nat) : (Op.equal t (.slice (some a) n c) (.slice none 0 0)).run P w = .ok false w:=by
  rw [Op.equal,maxD,Op.equalIn];simp only [Sem.run_bind,run_underlying h,Result.andThen_ok];rfl
theorem qnw {t : TypeId} {x y z} (h : P.underlying t = some (.func x y z)) : (Op.equal t .nilFunc .nilFunc).run P w = .ok true w:=by
  rw [Op.equal,maxD,Op.equalIn];simp only [Sem.run_bind,run_underlying h,Result.andThen_ok];rfl
theorem qnx {t : TypeId} {x y z} (h : P.underlying t = some (.func x y z)) (f g c) : (Op.equal t .nilFunc (.func f g c)).run P w = .ok false w:=by
  rw [Op.equal,maxD,Op.equalIn];simp only [Sem.run_bind,run_underlying h,Result.andThen_ok];rfl
theorem qny {t : TypeId} {x y z} (h : P.underlying t = some (.func x y z)) (f g c) : (Op.equal t (.func f g c) .nilFunc).run P w = .ok false w:=by
  rw [Op.equal,maxD,Op.equalIn];simp only [Sem.run_bind,run_underlying h,Result.andThen_ok];rfl
theorem q2e {t : TypeId} {u v : Value} {r : Bool} (he : (Op.equal t u v).run P w = .ok r w) (h1 : ∀ k n,u≠.int k n) (h2 : ∀ k n,u≠.float k n) (h3 : ∀ k n m,u≠.complex k n m) (h4 : ∀ s,u≠.string s) :
    (binOp .eql t u v).run P w = .ok (.bool r) w∧(binOp .neq t u v).run P w = .ok (.bool (!r)) w:=by
  cases u <;> first | (exfalso;exact h1 _ _ rfl) | (exfalso;exact h2 _ _ rfl) | (exfalso;exact h3 _ _ _ rfl) | (exfalso;exact h4 _ rfl) | (constructor <;> (simp only [binOp];simp [he]))
theorem qqk {op : BinOp} {t : TypeId} {i : TI} {x y : Operand} {p q : DV} {b : DV} (h : RelS w Z inj st a Ds) (ht : tiOf P t = some i) (hx : st.ev x = some (.d p)) (hy : st.ev y = some (.d q))
    (hc : binE op i.kind p q = some b) :
    Ka st st (.d b) w Z inj ((do pure (Next.value (← (do eqGuard op t x y (a.eval x) (a.eval y);binOp op t (a.eval x) (a.eval y) : Sem Value)) ) : Sem Next).run P w):=by
  obtain ⟨info,d,z,k⟩:=Y9 ht
  have h1:=K3 h hx
  have h2:=K3 h hy
  generalize a.eval x = vx at h1 ⊢
  generalize a.eval y = vy at h2 ⊢
  cases h1 with | d h1=>
  cases h2 with | d h2=>
  have key : ∀ r,eqK i.kind p q = some r→(eqGuard op t x y vx vy).run P w = .ok () w∧(binOp .eql t vx vy).run P w = .ok (.bool r) w∧(binOp .neq t vx vy).run P w = .ok (.bool (!r)) w:=by
    intro r hr
    have hk:=k.kind
    unfold Yr at hk
    unfold eqK at hr
    split at hr <;> simp at hr <;> (rename_i hkk;simp only [hkk] at hk)
    · subst hr;obtain ⟨rfl,_⟩:=hk;cases h1;cases h2
      exact ⟨Ug qd qd,q2e (qnv k.und _ _) qd qd qd qd⟩
    · subst hr;cases h1;cases h2
      exact ⟨Ug qd qd,by simp only [binOp,Op.stringOp];rfl,by simp only [binOp,Op.stringOp];rfl⟩
    · subst hr;obtain ⟨e,ie,de,ze,rfl,_⟩:=hk;cases h1;cases h2
      exact ⟨Ug qd qd,q2e (qgt k.und _ _ _) qd qd qd qd⟩
    · subst hr;obtain ⟨e,ie,de,ze,rfl,_⟩:=hk;cases h1;cases h2
      exact ⟨Ug qd qd,q2e (qgt k.und _ _ _) qd qd qd qd⟩
    · subst hr;obtain ⟨e,ie,de,ze,rfl,_⟩:=hk;cases h1;cases h2
      exact ⟨Ug qd qd,q2e (qnz k.und _ _ _) qd qd qd qd⟩
    · subst hr;obtain ⟨⟨e,f,g,rfl⟩,_⟩:=hk;cases h1;cases h2
      exact ⟨Ug qd qd,q2e (qnw k.und) qd qd qd qd⟩
    · subst hr;obtain ⟨⟨e,f,g,rfl⟩,_⟩:=hk;cases h1;cases h2
      exact ⟨Ug qd qd,q2e (qnx k.und _ _ _) qd qd qd qd⟩
    · subst hr;obtain ⟨⟨e,f,g,rfl⟩,_⟩:=hk;cases h1;cases h2
      exact ⟨Ug qd qd,q2e (qny k.und _ _ _) qd qd qd qd⟩
  unfold binE at hc
  split at hc
  · cases hr : eqK i.kind p q with
    | none=>simp [hr] at hc
    | some r=>
      simp [hr] at hc;subst hc
      obtain ⟨g1,g2,_⟩:=key r hr
      exact .quiet h (K9 (x:=.bool r) (by simp [g1,g2])) (.d (.bool _))
  · cases hr : eqK i.kind p q with
    | none=>simp [hr] at hc
    | some r=>
      simp [hr] at hc;subst hc
      obtain ⟨g1,_,g2⟩:=key r hr
      exact .quiet h (K9 (x:=.bool (!r)) (by simp [g1,g2])) (.d (.bool _))
  · simp at hc
end
end Go.Am
namespace Go.Am
open Go
variable {P : Program} {T : Tab}
section
variable {w : World} {Z : Nat→Prop} {inj : Inj} {st : AS} {a : Act} {Ds : List Nat}
theorem qr6 {op : UnOp} {x : Operand} {p b : DV} (h : RelS w Z inj st a Ds) (hx : st.ev x = some (.d p)) (hc : unD op p = some b) :
    Ka st st (.d b) w Z inj ((do pure (Next.value (← Op.unary op (a.eval x))) : Sem Next).run P w):=by
  have h1:=K3 h hx
  generalize a.eval x = vx at h1 ⊢
  cases h1 with | d h1=>
  unfold unD at hc
  split at hc
  · simp at hc;subst hc;cases h1
    exact .quiet h (K9 (by simp [Op.unary,Op.intArith])) (.d (.int _ _))
  · simp at hc;subst hc;cases h1
    exact .quiet h (K9 (by simp [Op.unary])) (.d (.bool _))
  · cases h1
    simp only [binI,Option.some.injEq] at hc;subst hc
    exact .quiet h (K9 (by simp [Op.unary,Op.intBits])) (.d (.int _ _))
  · simp at hc
theorem qqq {src dst : TypeId} {i j : TI} {x : Operand} {k0 k1 k : IntKind} {n : Int} (h : RelS w Z inj st a Ds) (hi : tiOf P src = some i) (hj : tiOf P dst = some j) (hik : i.kind = .int k0) (hjk : j.kind = .int k) (hx : st.ev x = some (.d (.int k1 n))) :
    Ka st st (.d (.int k (k.wrap n))) w Z inj ((do pure (Next.value (← convert src dst (a.eval x))) : Sem Next).run P w):=by
  obtain ⟨info,d,z,ki⟩:=Y9 hi
  obtain ⟨info',d',z',kj⟩:=Y9 hj
  have h1:=ki.kind
  have h2:=kj.kind
  unfold Yr at h1 h2
  simp only [hik,hjk] at h1 h2
  obtain ⟨rfl,_⟩:=h1
  obtain ⟨rfl,_⟩:=h2
  have h3:=K3 h hx
  generalize a.eval x = vx at h3 ⊢
  cases h3 with | d h3=>
  cases h3
  refine .quiet h (K9 (x:=.int k (k.wrap n)) ?_) (.d (.int _ _))
  simp only [convert,Sem.run_bind,run_underlying ki.und,run_underlying kj.und,Result.andThen_ok]
  simp [Conv.intToInt]
theorem qr0 {f : FuncId} {first caps : Array Operand} {vs : List V} (h : RelS w Z inj st a Ds) (hf : first.size = 0) (hv : evL st.ev caps.toList = some vs) :
    Ka st st (match allD vs with | some ds=>.d (.fn f ds) | none=>.fn f vs) w Z inj ((do pure (Next.value (← Instr.makeFunc (.func f) (first.map a.eval) (caps.map a.eval))) : Sem Next).run P w):=by
  have h1:=q7a h hv
  have e1 : first.map a.eval = #[]:=by apply Array.eq_empty_of_size_eq_zero;simpa using hf
  have e2 : (caps.toList.map a.eval).toArray = caps.map a.eval:=by apply Array.ext';simp
  rw [e2] at h1
  refine .quiet h (K9 (x:=.func (.func f) #[] (caps.map a.eval)) (by simp [Instr.makeFunc,e1])) ?_
  split
  · rename_i ds hd
    have:=q41 hd;subst this
    refine .d (.fn (by simpa using h1.1) fun i d c hd hc=>?_)
    have:=h1.2 i (.d d) c (by simp [hd]) hc
    cases this with | d h=>exact h
  · exact .fn h1.1 h1.2
theorem qit {x : Operand} {k : Nat} {v : V} (h : RelS w Z inj st a Ds) (hx : (∃ vs d,st.ev x = some (.d (.tup vs))∧vs[k]? = some d∧v = .d d)∨∃ vs,st.ev x = some (.tup vs)∧vs[k]? = some v) :
    Ka st st v w Z inj ((do pure (Next.value (← Instr.extract (a.eval x) k)) : Sem Next).run P w):=by
  rcases hx with ⟨vs,d,hx,hk,rfl⟩ | ⟨vs,hx,hk⟩
  · have h1:=K3 h hx
    generalize a.eval x = vx at h1 ⊢
    cases h1 with | d h1=>
    cases h1 with | @tup _ cs hl hr=>
    obtain ⟨c,hc⟩:=Kp (xs:=cs) (i:=k) (by have:=K4 hk;omega)
    exact .quiet h (K9 (x:=c) (by simp [Instr.extract,hc])) (.d (hr _ _ _ hk hc))
  · have h1:=K3 h hx
    generalize a.eval x = vx at h1 ⊢
    cases h1 with | @tup _ cs hl hr=>
    obtain ⟨c,hc⟩:=Kp (xs:=cs) (i:=k) (by have:=K4 hk;omega)
    exact .quiet h (K9 (x:=c) (by simp [Instr.extract,hc])) (hr _ _ _ hk hc)
theorem qfb {nx : Nat} {v : V} {x : Value} {cs : List V} (h : RelV w Z inj nx v x) (ha : agD v = some cs) : ∃ xs,x = .agg xs∧LRel w Z inj nx cs xs:=by
  unfold agD at ha
  split at ha <;> simp at ha
  · subst ha
    cases h with | d h=>
    cases h with | @agg _ X hl hr=>
    refine ⟨X,rfl,by simpa using hl,fun i d c hd hc=>?_⟩
    simp only [List.getElem?_map,Option.map_eq_some_iff] at hd
    obtain ⟨d',hd',rfl⟩:=hd
    exact .d (hr i d' c hd' hc)
  · subst ha
    cases h with | @agg _ X hl hr=>exact ⟨X,rfl,hl,hr⟩
theorem qqt {s : TypeId} {i : TI} {x : Operand} {xv v : V} {f off size : Nat} {ag : Bool} {cs r : List V} (h : RelS w Z inj st a Ds) (hi : tiOf P s = some i) (hx : st.ev x = some xv) (hk : i.kind = .struct) (hf : i.flds[f]? = some (off,size,ag))
    (ha : agD xv = some cs) (hs : sub cs off size = some r) (hp : pack ag r = some v) :
    Ka st st v w Z inj ((do pure (Next.value (← Instr.field s (a.eval x) f)) : Sem Next).run P w):=by
  obtain ⟨info,d,z,k⟩:=Y9 hi
  have hkk:=k.kind
  unfold Yr at hkk
  simp only [hk] at hkk
  obtain ⟨fs,rfl,hfl⟩:=hkk
  obtain ⟨fd,jf,df,g1,g2,g3,g4,g5,g6,g7⟩:=qd4 hfl hf
  obtain ⟨xs,he,hl⟩:=qfb (K3 h hx) ha
  subst g4 g6 g7
  obtain ⟨y,hy,hr⟩:=qj0 (P:=P) g2 g3 hl hs hp
  refine .quiet h (K9 (x:=y) ?_) hr
  simp only [Instr.field,Sem.run_bind,run_underlying k.und,Result.andThen_ok,g1,he,asAgg,Sem.run_pure,hy]
theorem qqv {t : TypeId} {i : TI} {x ix : Operand} {xv v : V} {k0 : IntKind} {n : Int} {cs r : List V} (h : RelS w Z inj st a Ds) (hi : tiOf P t = some i) (hx : st.ev x = some xv) (hn : st.ev ix = some (.d (.int k0 n))) (hk : i.kind = .array)
    (ha : agD xv = some cs) (h0 : 0≤n∧n < i.len) (hs : sub cs (n.toNat * i.esize) i.esize = some r) (hp : pack i.eagg r = some v) :
    Ka st st v w Z inj ((do pure (Next.value (← Instr.index t (a.eval x) (a.eval ix))) : Sem Next).run P w):=by
  obtain ⟨info,d,z,k⟩:=Y9 hi
  have hkk:=k.kind
  unfold Yr at hkk
  simp only [hk] at hkk
  obtain ⟨e,ie,de,rfl,g1,g2,g3,g4,g5⟩:=hkk
  obtain ⟨xs,he,hl⟩:=qfb (K3 h hx) ha
  have h3:=K3 h hn
  generalize a.eval ix = vx at h3 ⊢
  cases h3 with | d h3=>
  cases h3
  rw [← g3] at hs
  rw [← g5] at hp
  obtain ⟨y,hy,hr⟩:=qj0 (P:=P) g1 g2 hl hs hp
  refine .quiet h (K9 (x:=y) ?_) hr
  simp only [Instr.index,asIntOf,Sem.run_bind,Sem.run_pure,run_underlying k.und,Result.andThen_ok,he]
  rw [Sem.run_ite,if_pos h0]
  simp only [Sem.run_bind,Yq g1,Result.andThen_ok,g3]
  rw [g3] at hy
  exact hy
theorem qqx {t : TypeId} {i : TI} {x ix : Operand} {k0 : IntKind} {n : Int} {s : ByteArray} {b : UInt8} (h : RelS w Z inj st a Ds) (hi : tiOf P t = some i) (hx : st.ev x = some (.d (.str s))) (hn : st.ev ix = some (.d (.int k0 n))) (hk : i.kind = .str)
    (hb : (if 0≤n then s[n.toNat]? else none) = some b) :
    Ka st st (.d (.int .u8 b.toNat)) w Z inj ((do pure (Next.value (← Instr.index t (a.eval x) (a.eval ix))) : Sem Next).run P w):=by
  obtain ⟨info,d,z,k⟩:=Y9 hi
  have hkk:=k.kind
  unfold Yr at hkk
  simp only [hk] at hkk
  obtain ⟨rfl,_⟩:=hkk
  have h2:=K3 h hx
  have h3:=K3 h hn
  generalize a.eval x = vy at h2 ⊢
  generalize a.eval ix = vx at h3 ⊢
  cases h2 with | d h2=>
  cases h2
  cases h3 with | d h3=>
  cases h3
  refine .quiet h (K9 (x:=.int .u8 b.toNat) ?_) (.d (.int _ _))
  simp only [Instr.index,asIntOf,Sem.run_bind,Sem.run_pure,run_underlying k.und,Result.andThen_ok,hb]
theorem qqu {s : TypeId} {i : TI} {p : Operand} {pv v : V} {f off size : Nat} {ag : Bool} (h : RelS w Z inj st a Ds) (hi : tiOf P s = some i) (hx : st.ev p = some pv) (hk : i.kind = .struct) (hf : i.flds[f]? = some (off,size,ag))
    (hp : qd0 off pv = some v) :
    Ka st st v w Z inj ((do pure (Next.value (← Instr.fieldAt s (a.eval p) f)) : Sem Next).run P w):=by
  obtain ⟨info,d,z,k⟩:=Y9 hi
  have hkk:=k.kind
  unfold Yr at hkk
  simp only [hk] at hkk
  obtain ⟨fs,rfl,hfl⟩:=hkk
  obtain ⟨fd,jf,df,g1,g2,g3,g4,g5,g6,g7⟩:=qd4 hfl hf
  have h3:=K3 h hx
  generalize a.eval p = vx at h3 ⊢
  have hrun : ∀ b o,(Instr.fieldAt s (.pointer (some ⟨b,o,none⟩)) f).run P w = .ok (.pointer (some ⟨b,o + off,none⟩)) w:=by
    intro b o
    simp only [Instr.fieldAt,Instr.sureAddr,fieldPlace,Sem.run_bind,run_underlying k.und,Result.andThen_ok,g1,Sem.run_pure,Yq g2,Sem.run_ite,g4,if_neg g5,J3,g6]
  cases pv <;> simp only [qd0,reduceCtorEq,Option.some.injEq] at hp
  case ref n es ii j=>
    subst hp
    cases h3 with | @ref _ _ _ _ b o h1 h2=>
    refine .quiet h (K9 (hrun _ _)) ?_
    have:=RelV.ref (w:=w) (Z:=Z) (nx:=st.nx) (es:=es) (i:=ii) (j:=j + off) h1 h2
    rwa [show o + (ii * es + (j + off)) = o + (ii * es + j) + off by omega] at this
  case dref cs j=>
    subst hp
    cases h3 with | @dref _ _ b o h1 h2 h3=>
    refine .quiet h (K9 (hrun _ _)) ?_
    have:=RelV.dref (inj:=inj) (nx:=st.nx) (j:=j + off) h1 h2 h3
    rwa [← Nat.add_assoc] at this
  case d x=>
    cases x <;> simp only [reduceCtorEq,Option.some.injEq] at hp
    subst hp
    cases h3 with | d h3=>
    cases h3 with | box h1 h2 h3=>
    exact .quiet h (K9 (hrun _ _)) (RelV.dref (inj:=inj) (nx:=st.nx) (j:=off) h1 h2 h3)
theorem qqw {t : TypeId} {i : TI} {x ix : Operand} {xv v : V} {k0 : IntKind} {n : Int} (h : RelS w Z inj st a Ds) (hi : tiOf P t = some i) (hx : st.ev x = some xv) (hn : st.ev ix = some (.d (.int k0 n)))
    (hp : q2p i xv n = some v) :
    Ka st st v w Z inj ((do pure (Next.value (← Instr.indexAt t (a.eval x) (a.eval ix))) : Sem Next).run P w):=by
  obtain ⟨info,d,z,k⟩:=Y9 hi
  have hkk:=k.kind
  unfold Yr at hkk
  have hix:=K3 h hn
  generalize a.eval ix = vx at hix ⊢
  cases hix with | d hix=>
  cases hix
  have h3:=K3 h hx
  generalize a.eval x = vx at h3 ⊢
  have slrun : i.kind = .slice→∀ b o len cap,0≤n→n < (len : Nat)→(Instr.indexAt t (.slice (some ⟨b,o,none⟩) len cap) (.int k0 n)).run P w = .ok (.pointer (some ⟨b,o + n.toNat * i.esize,none⟩)) w:=by
    intro hk b o len cap h0 h1
    simp only [hk] at hkk
    obtain ⟨e,ie,de,ze,rfl,g1,g2,g3,g4,g5,g6,_⟩:=hkk
    simp only [Instr.indexAt,asIntOf,Sem.run_bind,Sem.run_pure,run_underlying k.und,Result.andThen_ok]
    rw [Sem.run_ite,if_pos ⟨h0,h1⟩]
    simp only [Sem.run_bind,Yq g1,Result.andThen_ok,Sem.run_pure,J3,g6]
  have arrun : i.kind = .array→∀ b o,0≤n→n < i.len→(Instr.indexAt t (.pointer (some ⟨b,o,none⟩)) (.int k0 n)).run P w = .ok (.pointer (some ⟨b,o + n.toNat * i.esize,none⟩)) w:=by
    intro hk b o h0 h1
    simp only [hk] at hkk
    obtain ⟨e,ie,de,rfl,g1,g2,g3,g4,_⟩:=hkk
    simp only [Instr.indexAt,asIntOf,Instr.sureAddr,Sem.run_bind,Sem.run_pure,run_underlying k.und,Result.andThen_ok]
    rw [Sem.run_ite,if_pos ⟨h0,h1⟩]
    simp only [Sem.run_bind,Yq g1,Result.andThen_ok,Sem.run_pure,J3,g3]
  cases hk : i.kind <;> simp only [q2p,hk,reduceCtorEq] at hp
  case slice=>
    cases xv <;> (try simp only [reduceCtorEq] at hp)
    case d x=>
      cases x <;> (try simp only [reduceCtorEq] at hp)
      rename_i es xs
      split at hp <;> simp at hp
      rename_i h0
      obtain ⟨h0,he⟩:=h0
      obtain ⟨cs,hcs,rfl⟩:=hp
      have hlt:=K4 hcs
      cases h3 with | d h3=>
      cases h3 with
      | slnil=>simp at hlt
      | slemp=>simp at hlt
      | @sl _ _ b o cap h1 h2 h4 h5 h6=>
        refine .quiet h (K9 (slrun hk _ _ _ _ h0 q6)) ?_
        have:=RelV.dref (w:=w) (Z:=Z) (inj:=inj) (nx:=st.nx) (cs:=cs) (j:=0) (b:=b) (o:=o + n.toNat * i.esize) (h2 (by rintro rfl;simp at hlt))
          (fun k d hd=>by have:=(h5 n.toNat cs k d hcs hd).2;rwa [he,← Nat.add_assoc] at this)
          (fun k d c hd hc=>h6 n.toNat cs k d c hcs hd (by rwa [he,← Nat.add_assoc]))
        simpa using this
    case hs m es off len=>
      split at hp <;> simp at hp
      rename_i h0
      obtain ⟨h0,h1,he⟩:=h0
      subst hp
      cases h3 with
      | hsnil=>omega
      | @hs _ _ _ _ cap ad hn hle _ hcap=>
        obtain ⟨b,o,hi,rfl,_⟩:=hcap q6
        refine .quiet h (K9 (slrun hk _ _ _ _ h0 q6)) ?_
        have:=RelV.ref (w:=w) (Z:=Z) (nx:=st.nx) (es:=es) (i:=off + n.toNat) (j:=0) hn hi
        rw [show o + off * es + n.toNat * i.esize = o + ((off + n.toNat) * es + 0) by rw [← he,Nat.add_mul];omega]
        exact this
  case array=>
    cases xv <;> (try simp only [reduceCtorEq] at hp)
    case ref m es e j=>
      split at hp <;> simp at hp
      rename_i h0
      subst hp
      cases h3 with | @ref _ _ _ _ b o h1 h2=>
      refine .quiet h (K9 (arrun hk _ _ h0.1 h0.2)) ?_
      have:=RelV.ref (w:=w) (Z:=Z) (nx:=st.nx) (es:=es) (i:=e) (j:=j + n.toNat * i.esize) h1 h2
      rwa [← Nat.add_assoc,← Nat.add_assoc,Nat.add_assoc o] at this
    case dref cs j=>
      split at hp <;> simp at hp
      rename_i h0
      subst hp
      cases h3 with | @dref _ _ b o h1 h2 h3=>
      refine .quiet h (K9 (arrun hk _ _ h0.1 h0.2)) ?_
      have:=RelV.dref (inj:=inj) (nx:=st.nx) (j:=j + n.toNat * i.esize) h1 h2 h3
      rwa [← Nat.add_assoc] at this
    case d x=>
      cases x <;> (try simp only [reduceCtorEq] at hp)
      split at hp <;> simp at hp
      rename_i h0
      subst hp
      cases h3 with | d h3=>
      cases h3 with | box h1 h2 h3=>
      exact .quiet h (K9 (arrun hk _ _ h0.1 h0.2)) (RelV.dref (inj:=inj) (nx:=st.nx) (j:=n.toNat * i.esize) h1 h2 h3)
end
end Go.Am
