/- Am7 Am8 Am9 Am10 Am11 Am12 Am13 Am14 -/
import Derived.Test.YtlchefooafpdlaaK1
import Derived.Laws.MakeOwn
import Derived.Deep.AppendSrc
import Derived.Room.Entries
namespace Go.Am
open Go
variable {P : Program} {T : Tab}
def OpRes (st st1 : AS) (v : V) (w : World) (Z : Nat→Prop) (inj : Inj) (r : Result Next) : Prop:=
  ∃ x w' inj',(r = .ok (.value x) w'∨(r = .ok .skip w'∧x = undef))∧RelV w' Z inj' st1.nx v x∧RelH w' Z inj' st1.hp st1.nx∧Ext w Z inj st.hp w' Z inj' st1.hp st.nx∧st1.sl = st.sl∧st.nx≤st1.nx
section
variable {w : World} {Z : Nat→Prop} {inj : Inj} {st : AS} {a : Act} {Ds : List Nat}
theorem OpRes.quiet {v : V} {x : Value} {r : Result Next} (h : RelS w Z inj st a Ds) (hr : r = .ok (.value x) w) (hv : RelV w Z inj st.nx v x) : OpRes st st v w Z inj r:=
  ⟨x,w,inj,.inl hr,hv,h.heap,.refl,rfl,Nat.le_refl _⟩
theorem q1c {s : Sem Value} {x : Value} {w' : World} (h : s.run P w = .ok x w') : (do pure (Next.value (← s)) : Sem Next).run P w = .ok (.value x) w':=by
  simp [h]
theorem OpRes.new {v : V} {x : Value} {r : Result Next} {o : Obj} {blk : Blk} (h : RelS w Z inj st a Ds) (hr : r = .ok (.value x) (w.alloc o))
    (hb : RelB (w.alloc o) Z (upd inj st.nx (some (w.heap.size,0))) (st.nx + 1) st.nx blk)
    (hv : RelV (w.alloc o) Z (upd inj st.nx (some (w.heap.size,0))) (st.nx + 1) v x) (ho : Unfr o:=by first | exact rfl | exact trivial) : OpRes st (st.new blk) v w Z inj r:=
  ⟨x,_,_,.inl hr,hv,h.heap.new o blk 0 hb,Ext.new h.heap o blk 0 ho,rfl,by simp [AS.new]⟩
theorem qh5 {v : V} {x : Value} (h : RelS w Z inj st a Ds) (o : Obj) (hv : RelV w Z inj st.nx v x) : RelV (w.alloc o) Z (upd inj st.nx (some (w.heap.size,0))) (st.nx + 1) v x:=
  hv.mono (fun _ hz=>q4y w o (h.heap.zs _ hz)) (fun _ h=>h) (q5i w o) (fun _ hm=>q4l _ _ hm) (by omega)
theorem qmo {w : World} {nx n es : Nat} {xs : List (List V)} {arr : Array Value} {ty : TypeId} {b : Nat} (he : es≠0) (hi : inj n = some (b,0)) (hb : w.heap[b]? = some (.cells arr ty (0,0)))
    (hl : ∀ (i : Nat) (x : List V),xs[i]? = some x→x.length = es)
    (h : ∀ (i : Nat) (x : List V) (j : Nat) (d : V),xs[i]? = some x→x[j]? = some d→vCell d = true∧∃ c,arr[i * es + j]? = some c∧RelV w Z inj nx d c) : RelB w Z inj nx n (mkBlk es xs):=by
  unfold mkBlk
  split
  · rename_i ys hy
    obtain ⟨h1,h2⟩:=qae hy
    refine ⟨he,?_,.inr ⟨b,0,arr,ty,hi,hb,?_⟩⟩
    · intro i y hyi
      obtain ⟨x,hx⟩:=q3y h1 hyi
      obtain ⟨y',hy',hd⟩:=h2 i x hx
      rw [hyi] at hy';cases hy'
      have:=hl i x hx
      rw [q9t hd] at this;simpa using this
    · intro i y j d hyi hyj
      obtain ⟨x,hx⟩:=q3y h1 hyi
      obtain ⟨y',hy',hd⟩:=h2 i x hx
      rw [hyi] at hy';cases hy'
      have hxe:=q9t hd
      obtain ⟨h3,c,h4,h5⟩:=h i x j (.d d) hx (by rw [hxe];simp [hyj])
      refine ⟨h3,c,by simpa using h4,?_⟩
      cases h5 with | d h=>exact h
  · refine ⟨he,hl,.inr ⟨b,0,arr,ty,hi,hb,?_⟩⟩
    intro i x j d hx hd
    obtain ⟨h3,c,h4,h5⟩:=h i x j d hx hd
    exact ⟨h3,c,by simpa using h4,h5⟩
theorem qmp {o : Operand} {v : V} (h : RelS w Z inj st a Ds) (hv : st.ev o = some v) {r : Result Next} (hr : r = .ok (.value (a.eval o)) w) : OpRes st st v w Z inj r:=
  .quiet h hr (q24 h hv)
theorem qpj {t : TypeId} {i : TI} (h : RelS w Z inj st a Ds) (ht : tiOf P t = some i) :
    OpRes st (st.new (.dat i.size [i.zero])) (.ref st.nx i.size 0 0) w Z inj ((do pure (Next.value (← Instr.alloc t true (.tuple #[]))) : Sem Next).run P w):=by
  obtain ⟨info,d,z,k⟩:=q5l ht
  have hrun : (Instr.alloc t true (.tuple #[])).run P w = .ok (.pointer (some ⟨w.heap.size,0,none⟩)) (w.alloc (.cells z.cells t)):=by
    simp [Instr.alloc,zeroValue,typeInfo,k.inf,k.zero,newVar,newRow]
  obtain ⟨h1,h2⟩:=q9g (w:=w.alloc (.cells z.cells t)) (Z:=Z) k.cells
  refine .new h (q1c hrun) ?_ ?_
  · refine ⟨k.pos,?_,.inr ⟨w.heap.size,0,z.cells,t,q2u _ _ _,q5p _ _,?_⟩⟩
    · intro i' x hx
      cases i' with
      | zero=>simp at hx;subst hx;exact k.len
      | succ n=>simp at hx
    · intro i' x j d hx hd
      cases i' with
      | zero=>
        simp at hx;subst hx
        obtain ⟨c,hc,hr,hcell,_⟩:=h2 j d hd
        exact ⟨hcell,c,by simpa using hc,hr⟩
      | succ n=>simp at hx
  · have:=RelV.ref (w:=w.alloc (.cells z.cells t)) (Z:=Z) (inj:=upd inj st.nx (some (w.heap.size,0))) (nx:=st.nx + 1) (n:=st.nx) (es:=i.size) (i:=0) (j:=0) (by omega) (q2u _ _ _)
    simpa using this
theorem qro {t : TypeId} {i : TI} {o : Operand} {v : V} (h : RelS w Z inj st a Ds) (ht : tiOf P t = some i) (hv : st.ev o = some v) (hl : (cellsOf v).length = i.size) (hc : (cellsOf v).all vCell = true) :
    OpRes st (st.new (mkBlk i.size [cellsOf v])) (.ref st.nx i.size 0 0) w Z inj ((do pure (Next.value (← Instr.box t (a.eval o))) : Sem Next).run P w):=by
  obtain ⟨info,d,z,k⟩:=q5l ht
  have hx:=q24 h hv
  have hrun : (Instr.box t (a.eval o)).run P w = .ok (.pointer (some ⟨w.heap.size,0,none⟩)) (w.alloc (.cells (a.eval o).cells t)):=by
    simp [Instr.box,newVar,newRow]
  have hx':=qh5 h (.cells (a.eval o).cells t) hx
  obtain ⟨h1,h2,_⟩:=qbq hx' hc
  refine .new h (q1c hrun) ?_ ?_
  · refine qmo (b:=w.heap.size) (arr:=(a.eval o).cells) (ty:=t) k.pos (q2u _ _ _) (q5p _ _) ?_ ?_
    · intro i' x hx
      cases i' with
      | zero=>simp at hx;subst hx;exact hl
      | succ n=>simp at hx
    · intro i' x j d hx hd
      cases i' with
      | zero=>
        simp at hx;subst hx
        obtain ⟨c,hcj⟩:=q43 (xs:=(a.eval o).cells) (i:=j) (by have:=q1i hd;omega)
        exact ⟨List.all_eq_true.1 hc _ (List.mem_of_getElem? hd),c,by simpa using hcj,h2 j d c hd hcj⟩
      | succ n=>simp at hx
  · have:=RelV.ref (w:=w.alloc (.cells (a.eval o).cells t)) (Z:=Z) (inj:=upd inj st.nx (some (w.heap.size,0))) (nx:=st.nx + 1) (n:=st.nx) (es:=i.size) (i:=0) (j:=0) (by omega) (q2u _ _ _)
    simpa using this
theorem q68 {α : Type} (cs ys : List α) (o : Nat) (h : o + ys.length≤cs.length) : (splice cs o ys).length = cs.length:=by simp [splice];omega
theorem q50 {α : Type} (cs ys : List α) (o j : Nat) (h : o + ys.length≤cs.length) : (splice cs o ys)[j]? = if o≤j∧j < o + ys.length then ys[j - o]? else cs[j]?:=by
  have e : (cs.take o).length = o:=by simp;omega
  by_cases h1 : j < o
  · rw [if_neg (by omega),splice,List.append_assoc,List.getElem?_append_left (by omega),List.getElem?_take,if_pos h1]
  · by_cases h2 : j < o + ys.length
    · rw [if_pos (by omega),splice,List.append_assoc,List.getElem?_append_right (by omega),e,List.getElem?_append_left (by omega)]
    · rw [if_neg (by omega),splice,List.getElem?_append_right (by simp;omega),List.getElem?_drop]
      congr 1
      rw [List.length_append,e];omega
theorem qk2 (off : Nat) : ∀ (l : List Value) (s : Nat) (cs : Array Value),off + s + l.length≤cs.size→
    ((l.zipIdx s).foldl (fun (cs : Array Value) (x : Value × Nat)=>cs.setIfInBounds (off + x.2) x.1) cs).size = cs.size∧
    ∀ j : Nat,((l.zipIdx s).foldl (fun (cs : Array Value) (x : Value × Nat)=>cs.setIfInBounds (off + x.2) x.1) cs)[j]? = if off + s≤j∧j < off + s + l.length then l[j - (off + s)]? else cs[j]?
  | [],s,cs,_=>by
    refine ⟨rfl,fun j=>?_⟩
    have : ¬ (off + s≤j∧j < off + s + ([] : List Value).length):=by simp
    rw [if_neg this];rfl
  | v::r,s,cs,h=>by
    obtain ⟨h1,h2⟩:=qk2 off r (s + 1) (cs.setIfInBounds (off + s) v) (by simp at h ⊢;omega)
    simp only [List.zipIdx_cons,List.foldl_cons]
    refine ⟨by rw [h1];simp,fun j=>?_⟩
    rw [h2 j]
    simp only [List.length_cons] at h ⊢
    by_cases hj : off + (s + 1)≤j∧j < off + (s + 1) + r.length
    · have hj' : off + s≤j∧j < off + s + (r.length + 1):=by omega
      rw [if_pos hj,if_pos hj',show j - (off + s) = (j - (off + (s + 1))) + 1 by omega,List.getElem?_cons_succ]
    · rw [if_neg hj,Array.getElem?_setIfInBounds]
      by_cases he : off + s = j
      · have hj' : off + s≤j∧j < off + s + (r.length + 1):=by omega
        have hlt : j < cs.size:=by omega
        rw [if_pos he,if_pos hj',if_pos (by omega),show j - (off + s) = 0 by omega]
        rfl
      · have hj' : ¬ (off + s≤j∧j < off + s + (r.length + 1)):=by omega
        rw [if_neg he,if_neg hj']
theorem qfv (vs cs : Array Value) (off : Nat) (h : off + vs.size≤cs.size) :
    vs.zipIdx.foldl (fun (cs : Array Value) (x : Value × Nat)=>cs.setIfInBounds (off + x.2) x.1) cs = (splice cs.toList off vs.toList).toArray:=by
  rw [← Array.foldl_toList,Array.toList_zipIdx]
  obtain ⟨h1,h2⟩:=qk2 off vs.toList 0 cs (by simpa using h)
  have hs:=q68 cs.toList vs.toList off (by simpa using h)
  apply Array.ext'
  apply List.ext_getElem?
  intro j
  rw [Array.getElem?_toList,h2 j,q50 _ _ _ _ (by simpa using h)]
  simp
def LRel (w : World) (Z : Nat→Prop) (inj : Inj) (nx : Nat) (cs : List V) (xs : Array Value) : Prop:=
  cs.length = xs.size∧∀ (i : Nat) (d : V) (c : Value),cs[i]? = some d→xs[i]? = some c→RelV w Z inj nx d c
theorem LRel.splice {w : World} {nx : Nat} {cs ys : List V} {xs vs : Array Value} {o : Nat} (h : LRel w Z inj nx cs xs) (hy : LRel w Z inj nx ys vs) (ho : o + ys.length≤cs.length) :
    LRel w Z inj nx (Am.splice cs o ys) (Am.splice xs.toList o vs.toList).toArray:=by
  have q1:=h.1
  have q2:=hy.1
  have ho' : o + vs.toList.length≤xs.toList.length:=by simp;omega
  refine ⟨by simp [q68 _ _ _ ho,q68 _ _ _ ho',h.1],fun i d c hd hc=>?_⟩
  rw [q50 _ _ _ _ ho] at hd
  rw [List.getElem?_toArray,q50 _ _ _ _ ho'] at hc
  have e : vs.toList.length = ys.length:=by simp;omega
  rw [e] at hc
  split at hd
  · rename_i hij
    rw [if_pos hij] at hc
    exact hy.2 _ _ _ hd (by simpa using hc)
  · rename_i hij
    rw [if_neg hij] at hc
    exact h.2 _ _ _ hd (by simpa using hc)
theorem qfw {ps : List (Nat × Operand)} {vs : List (Nat × V)} (h : RelS w Z inj st a Ds) (hp : evParts st.ev ps = some vs) :
    vs.length = ps.length∧∀ (k : Nat) (i : Nat) (v : V),vs[k]? = some (i,v)→∃ o,ps[k]? = some (i,o)∧RelV w Z inj st.nx v (a.eval o):=by
  induction ps generalizing vs with
  | nil=>simp [evParts] at hp;subst hp;simp
  | cons x r ih=>
    obtain ⟨i,o⟩:=x
    simp only [evParts] at hp
    cases h1 : st.ev o with
    | none=>simp [h1] at hp
    | some v=>
      cases h2 : evParts st.ev r with
      | none=>simp [h1,h2] at hp
      | some l=>
        simp [h1,h2] at hp;subst hp
        obtain ⟨h3,h4⟩:=ih h2
        refine ⟨by simp [h3],fun k i' v' hk=>?_⟩
        cases k with
        | zero=>simp at hk;obtain ⟨rfl,rfl⟩:=hk;exact ⟨o,by simp,q24 h h1⟩
        | succ k=>simp at hk;obtain ⟨o',ho,hr⟩:=h4 k i' v' hk;exact ⟨o',by simpa using ho,hr⟩
theorem qcf {os : List Operand} {vs : List V} (h : RelS w Z inj st a Ds) (hp : evL st.ev os = some vs) : LRel w Z inj st.nx vs (os.map a.eval).toArray:=by
  induction os generalizing vs with
  | nil=>simp [evL] at hp;subst hp;exact ⟨by simp,by simp⟩
  | cons o r ih=>
    simp only [evL] at hp
    cases h1 : st.ev o with
    | none=>simp [h1] at hp
    | some v=>
      cases h2 : evL st.ev r with
      | none=>simp [h1,h2] at hp
      | some l=>
        simp [h1,h2] at hp;subst hp
        obtain ⟨h3,h4⟩:=ih h2
        refine ⟨by simpa using h3,fun k d c hd hc=>?_⟩
        cases k with
        | zero=>simp at hd hc;subst hd hc;exact q24 h h1
        | succ k=>simp at hd hc;exact h4 k d c hd (by simpa using hc)
theorem qgb {w : World} {nx : Nat} (place : Nat→Option (Nat × Nat)) : ∀ (vs : List (Nat × V)) (xs : List (Nat × Value)) (l : List (Nat × List V)) (cs cs' : List V) (C : Array Value),
    vs.length = xs.length→(∀ (k : Nat) (i : Nat) (v : V),vs[k]? = some (i,v)→∃ x,xs[k]? = some (i,x)∧RelV w Z inj nx v x)→
    l.length = vs.length→(∀ (k : Nat) (i : Nat) (v : V),vs[k]? = some (i,v)→∃ o s,place i = some (o,s)∧(cellsOf v).length = s∧(cellsOf v).all vCell = true∧l[k]? = some (o,cellsOf v))→
    LRel w Z inj nx cs C→fillC cs l = some cs'→∃ C',Instr.fill place C xs = some C'∧LRel w Z inj nx cs' C'
  | [],xs,l,cs,cs',C,h1,_,h3,_,h5,h6=>by
    have : xs = []:=by cases xs <;> simp_all
    have : l = []:=by cases l <;> simp_all
    subst_vars
    simp [fillC] at h6;subst h6
    exact ⟨C,by simp [Instr.fill],h5⟩
  | (i,v)::vs,xs,l,cs,cs',C,h1,h2,h3,h4,h5,h6=>by
    match xs,l,h1,h3 with
    | (i',x)::xs,(o',ys)::l,h1,h3=>
      obtain ⟨x',hx',hr⟩:=h2 0 i v rfl
      simp at hx';obtain ⟨rfl,rfl⟩:=hx'
      obtain ⟨o,s,hp,hl,hc,hl0⟩:=h4 0 i' v rfl
      simp at hl0;obtain ⟨rfl,rfl⟩:=hl0
      obtain ⟨q1,q2,q3⟩:=qbq hr hc
      simp only [fillC] at h6
      split at h6
      · rename_i hfit
        have hsz : x.cells.size = s:=by omega
        have hfit' : ¬ (o' + x.cells.size > C.size):=by have:=h5.1;omega
        obtain ⟨C',hC',hrel⟩:=qgb place vs xs l (splice cs o' (cellsOf v)) cs' (splice C.toList o' x.cells.toList).toArray (by simpa using h1)
          (fun k i v hk=>by obtain ⟨x,hx⟩:=h2 (k + 1) i v (by simpa using hk);exact ⟨x,by simpa using hx⟩) (by simpa using h3)
          (fun k i v hk=>by obtain ⟨o,s,hx⟩:=h4 (k + 1) i v (by simpa using hk);exact ⟨o,s,by simpa using hx⟩)
          (h5.splice ⟨q1,q2⟩ hfit) h6
        refine ⟨C',?_,hrel⟩
        simp only [Instr.fill,hp,hsz]
        have : ¬ ((decide (s≠s) || decide (o' + s > C.size)) = true):=by simp;omega
        rw [if_neg (by simpa using this)]
        rw [qfv x.cells C o' (by omega)]
        exact hC'
      · simp at h6
end
end Go.Am
namespace Go.Am
open Go
variable {P : Program} {T : Tab}
section
variable {w : World} {Z : Nat→Prop} {inj : Inj} {nx : Nat}
theorem qk3 {α β : Type} {f : α→Sem β} {g : α→β} : ∀ {l : List α},(∀ x∈l,(f x).run P w = .ok (g x) w)→(l.mapM f).run P w = .ok (l.map g) w
  | [],_=>by simp
  | x::r,h=>by
    have h1:=h x (by simp)
    have h2:=qk3 (l:=r) (fun y hy=>h y (by simp [hy]))
    simp [List.mapM_cons,h1,h2]
theorem qo4 {α β : Type} {f : α→Sem β} {g : α→β} {l : Array α} (h : ∀ x∈l.toList,(f x).run P w = .ok (g x) w) : (l.mapM f).run P w = .ok (l.toList.map g).toArray w:=by
  rw [Array.mapM_eq_mapM_toList,Sem.run_map,qk3 h];rfl
theorem qk4 {fs : Array Field} {fl : List (Nat × Nat × Bool)} (h : (fs.toList.mapM fun f => do
      let jf ← P.info? f.type
      let df ← P.underlying f.type
      if jf.size = 0 then none else some (f.offset,jf.size,aggDesc df)) = some fl) :
    fl.length = fs.size∧∀ (i : Nat) (f : Field),fs[i]? = some f→∃ jf df,P.info? f.type = some jf∧P.underlying f.type = some df∧jf.size≠0∧fl[i]? = some (f.offset,jf.size,aggDesc df):=by
  obtain ⟨h1,h2⟩:=qae h
  refine ⟨by simpa using h1,fun i f hf=>?_⟩
  obtain ⟨y,hy,hx⟩:=h2 i f (by simpa using hf)
  cases h3 : P.info? f.type with
  | none=>simp [h3] at hx
  | some jf=>
    cases h4 : P.underlying f.type with
    | none=>simp [h3,h4] at hx
    | some df=>
      simp only [h3,h4,Option.bind_eq_bind,Option.bind_some] at hx
      split at hx
      · simp at hx
      · rename_i hne
        simp at hx;subst hx
        exact ⟨jf,df,rfl,rfl,hne,hy⟩
theorem qgc {fs : Array Field} {fl : List (Nat × Nat × Bool)} (h : (fs.toList.mapM fun f => do
      let jf ← P.info? f.type
      let df ← P.underlying f.type
      if jf.size = 0 then none else some (f.offset,jf.size,aggDesc df)) = some fl) {i off s : Nat} {ag : Bool} (hi : fl[i]? = some (off,s,ag)) :
    ∃ f jf df,fs[i]? = some f∧P.info? f.type = some jf∧P.underlying f.type = some df∧jf.size = s∧s≠0∧f.offset = off∧aggDesc df = ag:=by
  obtain ⟨h1,h2⟩:=qk4 h
  obtain ⟨f,hf⟩:=q43 (xs:=fs) (i:=i) (by have:=q1i hi;omega)
  obtain ⟨jf,df,h3,h4,h5,h6⟩:=h2 i f hf
  rw [hi] at h6;simp at h6
  obtain ⟨rfl,rfl,rfl⟩:=h6
  exact ⟨f,jf,df,hf,h3,h4,rfl,h5,rfl,rfl⟩
theorem qh6 {ti : TI} : ∀ {vs : List (Nat × V)} {l : List (Nat × List V)},placed ti vs = some l→l.length = vs.length∧∀ (k i : Nat) (v : V),vs[k]? = some (i,v)→∃ o s,
    (match ti.kind with | .struct=>(ti.flds[i]?).map fun f=>(f.1,f.2.1) | .array=>some (i * ti.esize,ti.esize) | _=>none) = some (o,s)∧(cellsOf v).length = s∧(cellsOf v).all vCell = true∧l[k]? = some (o,cellsOf v)
  | [],l,h=>by simp [placed] at h;subst h;simp
  | (i,v)::r,l,h=>by
    simp only [placed] at h
    split at h
    · rename_i o s l' h1 h2
      split at h
      · rename_i hc
        simp at h;subst h
        obtain ⟨h3,h4⟩:=qh6 h2
        refine ⟨by simp [h3],fun k i' v' hk=>?_⟩
        cases k with
        | zero=>simp at hk;obtain ⟨rfl,rfl⟩:=hk;exact ⟨o,s,h1,hc.1,hc.2,by simp⟩
        | succ k=>simp at hk;obtain ⟨o',s',hx⟩:=h4 k i' v' hk;exact ⟨o',s',by simpa using hx⟩
      · simp at h
    · simp at h
theorem qpk {t : TypeId} {i : TI} {info : TypeInfo} {d : TypeDesc} {z : Value} (k : TiOk P t i info d z) : LRel w Z inj nx (i.zero.map .d) z.cells:=by
  obtain ⟨h1,h2⟩:=q9g (w:=w) (Z:=Z) k.cells
  refine ⟨by simpa using h1,fun j d c hd hc=>?_⟩
  simp only [List.getElem?_map,Option.map_eq_some_iff] at hd
  obtain ⟨d',hd',rfl⟩:=hd
  obtain ⟨c',hc',hr,_⟩:=h2 j d' hd'
  rw [hc] at hc';cases hc';exact .d hr
theorem q47 {t : TypeId} {info : TypeInfo} (h : P.info? t = some info) : (sizeOf t).run P w = .ok info.size w:=by simp [sizeOf,typeInfo,h]
theorem q94 {t : TypeId} {d : TypeDesc} (h : P.underlying t = some d) : (isAgg t).run P w = .ok (aggDesc d) w:=by
  simp only [isAgg,Sem.run_bind,run_underlying h,Result.andThen_ok]
  cases d <;> rfl
theorem qk5 {t : TypeId} {info : TypeInfo} {d : TypeDesc} (h1 : P.info? t = some info) (h2 : P.underlying t = some d) {cs r : List V} {xs : Array Value} {off : Nat} {v : V} (hl : LRel w Z inj nx cs xs)
    (hs : sub cs off info.size = some r) (hp : pack (aggDesc d) r = some v) : ∃ x,(part t xs off).run P w = .ok x w∧RelV w Z inj nx v x:=by
  obtain ⟨h3,h4⟩:=qce hs
  have h5:=(qk1 hs).1
  have hlen:=hl.1
  have hrel : ∀ (i : Nat) (d : V) (c : Value),r[i]? = some d→(xs.extract off (off + info.size)).toList[i]? = some c→RelV w Z inj nx d c:=by
    intro i d c hd hc
    obtain ⟨h6,h7⟩:=h4 i d hd
    refine hl.2 _ _ _ h6 ?_
    rw [Array.getElem?_toList,Array.getElem?_extract] at hc
    split at hc <;> first | exact hc | simp at hc
  have hlr : r.length = (xs.extract off (off + info.size)).toList.length:=by simp;omega
  have hpk:=qk0 hp hlr hrel
  cases hb : aggDesc d with
  | true=>
    rw [hb] at hpk
    refine ⟨.agg (xs.extract off (off + info.size)),?_,by
      have h9 : RelV w Z inj nx v (.agg (xs.extract off (off + info.size)).toList.toArray):=hpk
      rwa [Array.toArray_toList] at h9⟩
    simp [part,q94 h2,hb,q47 h1]
  | false=>
    rw [hb] at hpk hp
    match r,hp,h3,h4 with
    | [c],hp,h3,h4=>
      simp only [pack,Option.some.injEq] at hp;subst hp
      have h6:=(h4 0 c rfl).1
      simp only [Nat.add_zero] at h6
      obtain ⟨x,hx⟩:=q43 (xs:=xs) (i:=off) (by have:=q1i h6;omega)
      exact ⟨x,by simp [part,q94 h2,hb,hx],hl.2 _ _ _ h6 hx⟩
end
section
variable {w : World} {Z : Nat→Prop} {inj : Inj} {st : AS} {a : Act} {Ds : List Nat}
theorem qpl {t : TypeId} {i : TI} {ps : Array (Nat × Operand)} {vs : List (Nat × V)} {l : List (Nat × List V)} {cs : List V} (h : RelS w Z inj st a Ds) (ht : tiOf P t = some i) (hv : evParts st.ev ps.toList = some vs)
    (ha : i.agg = true) (hl : placed i vs = some l) (hf : fillC (i.zero.map .d) l = some cs) :
    OpRes st st (mkAgg cs) w Z inj ((do pure (Next.value (← Instr.build t (ps.map fun (i,x)=>(i,a.eval x)))) : Sem Next).run P w):=by
  obtain ⟨info,d,z,k⟩:=q5l ht
  obtain ⟨p1,p2⟩:=qfw h hv
  obtain ⟨q1,q2⟩:=qh6 hl
  have hz:=qpk (w:=w) (Z:=Z) (inj:=inj) (nx:=st.nx) k
  have hxs : ∀ (k i : Nat) (v : V),vs[k]? = some (i,v)→∃ x,(ps.toList.map fun (x : Nat × Operand)=>(x.1,a.eval x.2))[k]? = some (i,x)∧RelV w Z inj st.nx v x:=by
    intro k i v hk
    obtain ⟨o,ho,hr⟩:=p2 k i v hk
    exact ⟨a.eval o,by simp only [List.getElem?_map,ho];rfl,hr⟩
  have hzv : (zeroValue t).run P w = .ok z w:=by simp [zeroValue,typeInfo,k.inf,k.zero]
  have hkind:=k.kind
  unfold KindOk at hkind
  cases hk : i.kind <;> simp only [hk,TI.agg] at hkind ha
  case struct=>
    obtain ⟨fs,rfl,hfl⟩:=hkind
    obtain ⟨_,hff⟩:=qk4 hfl
    obtain ⟨C',hC,hr⟩:=qgb (fun i=>((fs.toList.map fun (f : Field)=>(f.offset,((P.info? f.type).map (·.size)).getD 0)).toArray)[i]?) vs (ps.toList.map fun (x : Nat × Operand)=>(x.1,a.eval x.2)) l _ cs z.cells (by simp [p1]) hxs q1
      (fun k i' v hk'=>by
        obtain ⟨o,s,h1,h2,h3,h4⟩:=q2 k i' v hk'
        simp only [hk,Option.map_eq_some_iff] at h1
        obtain ⟨⟨o',s',ag⟩,h5,h6⟩:=h1
        simp at h6;obtain ⟨rfl,rfl⟩:=h6
        obtain ⟨f,jf,df,g1,g2,_,g4,_,g6,_⟩:=qgc hfl h5
        exact ⟨o',s',by simp [g1,g2,g4,g6],h2,h3,h4⟩) hz hf
    refine .quiet h (q1c (x:=.agg C') ?_) (qe1 hr.1 hr.2)
    have hm : (fs.mapM fun f=>do pure (f.offset,← sizeOf f.type) : Sem (Array (Nat × Nat))).run P w = .ok (fs.toList.map fun (f : Field)=>(f.offset,((P.info? f.type).map (·.size)).getD 0)).toArray w:=by
      refine qo4 fun f hf=>?_
      obtain ⟨j,hj⟩:=List.mem_iff_getElem?.1 hf
      obtain ⟨jf,df,g1,_⟩:=hff j f (by simpa using hj)
      simp [q47 g1,g1]
    simp only [Instr.build,Sem.run_bind,hzv,Result.andThen_ok,run_underlying k.und,hm]
    have hC' : Instr.fill (fun x=>((fs.toList.map fun (f : Field)=>(f.offset,((P.info? f.type).map (·.size)).getD 0)).toArray)[x]?) z.cells (ps.map fun (x : Nat × Operand)=>(x.1,a.eval x.2)).toList = some C':=by simpa using hC
    simp only [hC']
    rfl
  case array=>
    obtain ⟨e,ie,de,rfl,g1,g2,g3,g4,_⟩:=hkind
    obtain ⟨C',hC,hr⟩:=qgb (fun j=>some (j * i.esize,i.esize)) vs (ps.toList.map fun (x : Nat × Operand)=>(x.1,a.eval x.2)) l _ cs z.cells (by simp [p1]) hxs q1
      (fun k i' v hk'=>by
        obtain ⟨o,s,h1,h2,h3,h4⟩:=q2 k i' v hk'
        simp only [hk] at h1
        exact ⟨o,s,h1,h2,h3,h4⟩) hz hf
    refine .quiet h (q1c (x:=.agg C') ?_) (qe1 hr.1 hr.2)
    have hC' : Instr.fill (fun j=>some (j * i.esize,i.esize)) z.cells (ps.map fun (x : Nat × Operand)=>(x.1,a.eval x.2)).toList = some C':=by simpa using hC
    simp only [Instr.build,Sem.run_bind,hzv,Result.andThen_ok,run_underlying k.und,q47 g1,g3,hC']
    rfl
  all_goals simp at ha
theorem qin {t : TypeId} {i : TI} {pv v : V} {vp : Value} (h : RelH w Z inj st.hp st.nx) (ht : tiOf P t = some i) (hx : RelV w Z inj st.nx pv vp) (hl : loadP st i pv = some v) :
    ∃ b o x,vp = .pointer (some ⟨b,o,none⟩)∧(Instr.loadAt t vp).run P w = .ok x w∧RelV w Z inj st.nx v x:=by
  obtain ⟨info,d,z,k⟩:=q5l ht
  have fin : ∀ {b o : Nat} {r : List V} {pp : Value},pp = .pointer (some ⟨b,o,none⟩)→pack i.agg r = some v→r.length = i.size→
      (∀ (k : Nat) (x : V),r[k]? = some x→∃ c,w.cell? ⟨b,o + k,none⟩ = some c∧RelV w Z inj st.nx x c)→∃ b o x,pp = .pointer (some ⟨b,o,none⟩)∧(Instr.loadAt t pp).run P w = .ok x w∧RelV w Z inj st.nx v x:=by
    intro b o r pp he hpk hlen hc
    obtain ⟨x,hrun,hrel⟩:=qpi (P:=P) k hpk hlen hc
    exact ⟨b,o,x,he,by rw [he];exact hrun,hrel⟩
  cases pv <;> simp only [loadP,reduceCtorEq] at hl
  case ref n es e j=>
    cases hx with
    | @ref _ _ _ _ b o hn hi=>
    cases hb : st.blk n with
    | none=>simp [hb] at hl
    | some blk=>
      have hB:=(h.blk n blk hb).2
      cases blk with
      | dead=>simp [hb] at hl
      | loop=>simp [hb] at hl
      | dat es' xs=>
        simp only [hb] at hl
        split at hl <;> try simp at hl
        rename_i cs he hx1
        have he:=Nat.eq_of_beq_eq_true he
        subst he
        cases hs : sub cs j i.size with
        | none=>simp [hs] at hl
        | some r=>
          simp only [hs] at hl
          rw [qga] at hl
          obtain ⟨h1,h2⟩:=qce hs
          obtain ⟨b1,b2,b3⟩:=hB
          rcases b3 with ⟨b3,_⟩ | ⟨b',o',arr,ty,b3,b4,b5⟩
          · subst b3;simp at hx1
          · rw [hi] at b3;cases b3
            refine fin rfl hl (by simpa using h1) ?_
            intro k x hk
            simp only [List.getElem?_map,Option.map_eq_some_iff] at hk
            obtain ⟨y,hy,rfl⟩:=hk
            obtain ⟨h3,_⟩:=h2 k y hy
            obtain ⟨_,c,h4,h5⟩:=b5 e cs (j + k) y hx1 h3
            exact ⟨c,by simp only [World.cell?,b4];rw [← h4];simp [Nat.add_assoc],.d h5⟩
      | cel es' xs=>
        simp only [hb] at hl
        split at hl <;> try simp at hl
        rename_i cs he hx1
        have he:=Nat.eq_of_beq_eq_true he
        subst he
        cases hs : sub cs j i.size with
        | none=>simp [hs] at hl
        | some r=>
          simp only [hs] at hl
          obtain ⟨h1,h2⟩:=qce hs
          obtain ⟨b1,b2,b3⟩:=hB
          rcases b3 with ⟨b3,_⟩ | ⟨b',o',arr,ty,b3,b4,b5⟩
          · subst b3;simp at hx1
          · rw [hi] at b3;cases b3
            refine fin rfl hl h1 ?_
            intro k x hk
            obtain ⟨h3,_⟩:=h2 k x hk
            obtain ⟨_,c,h4,h5⟩:=b5 e cs (j + k) x hx1 h3
            exact ⟨c,by simp only [World.cell?,b4];rw [← h4];simp [Nat.add_assoc],h5⟩
  case dref cs j=>
    cases hx with
    | @dref _ _ b o hz hc hr=>
    cases hs : sub cs j i.size with
    | none=>simp [hs] at hl
    | some r=>
      simp only [hs] at hl
      rw [qga] at hl
      obtain ⟨h1,h2⟩:=qce hs
      refine fin rfl hl (by simpa using h1) ?_
      intro k x hk
      simp only [List.getElem?_map,Option.map_eq_some_iff] at hk
      obtain ⟨y,hy,rfl⟩:=hk
      obtain ⟨h3,_⟩:=h2 k y hy
      obtain ⟨c,hc'⟩:=hc _ _ h3
      exact ⟨c,by rw [← hc',Nat.add_assoc],.d (hr _ _ _ h3 hc')⟩
  case d x=>
    cases x <;> simp only [reduceCtorEq] at hl
    rename_i cs
    cases hx with
    | d hx=>
    cases hx with
    | @box _ b o hz hc hr=>
    cases hs : sub cs 0 i.size with
    | none=>simp [hs] at hl
    | some r=>
      simp only [hs] at hl
      rw [qga] at hl
      obtain ⟨h1,h2⟩:=qce hs
      refine fin rfl hl (by simpa using h1) ?_
      intro k x hk
      simp only [List.getElem?_map,Option.map_eq_some_iff] at hk
      obtain ⟨y,hy,rfl⟩:=hk
      obtain ⟨h3,_⟩:=h2 k y hy
      rw [Nat.zero_add] at h3
      obtain ⟨c,hc'⟩:=hc _ _ h3
      exact ⟨c,hc',.d (hr _ _ _ h3 hc')⟩
theorem qqy {t : TypeId} {i : TI} {p : Operand} {pv v : V} (h : RelS w Z inj st a Ds) (ht : tiOf P t = some i) (hp : st.ev p = some pv) (hl : loadP st i pv = some v) :
    OpRes st st v w Z inj ((do pure (Next.value (← Instr.loadAt t (a.eval p))) : Sem Next).run P w):=by
  obtain ⟨b,o,x,_,hrun,hr⟩:=qin (P:=P) h.heap ht (q24 h hp) hl
  exact .quiet h (q1c hrun) hr
end
end Go.Am
namespace Go.Am
open Go
variable {P : Program} {T : Tab}
theorem qan : ∀ {k1 k2 : List (Option IntKind)} {a b : List DV} {r : Bool},cellsEq (k1 ++ k2) a b = some r→
    ∃ p q,cellsEq k1 (a.take k1.length) (b.take k1.length) = some p∧cellsEq k2 (a.drop k1.length) (b.drop k1.length) = some q∧r = (p && q)
  | [],k2,a,b,r,h=>⟨true,r,by simp [cellsEq],by simpa using h,by simp⟩
  | k::k1,k2,a,b,r,h=>by
    match a,b,h with
    | x::a,y::b,h=>
      simp only [List.cons_append,cellsEq] at h
      split at h <;> simp at h
      rename_i u v h1 h2
      obtain ⟨p,q,h3,h4,h5⟩:=qan h2
      refine ⟨u && p,q,by simp [cellsEq,h1,h3],by simpa using h4,?_⟩
      rw [← h,h5,Bool.and_assoc]
    | [],_,h=>simp [cellsEq] at h
    | _::_,[],h=>simp [cellsEq] at h
theorem qaa : ∀ {ks : List (Option IntKind)} {a b : List DV} {r : Bool},cellsEq ks a b = some r→a.length = ks.length∧b.length = ks.length
  | [],[],[],_,_=>⟨rfl,rfl⟩
  | k::ks,x::a,y::b,r,h=>by
    simp only [cellsEq] at h
    split at h <;> simp at h
    rename_i h1 h2
    have:=qaa h2
    simp;omega
  | [],_::_,_,_,h=>by simp [cellsEq] at h
  | [],[],_::_,_,h=>by simp [cellsEq] at h
  | _::_,[],_,_,h=>by simp [cellsEq] at h
  | _::_,_::_,[],_,h=>by simp [cellsEq] at h
section
variable {w : World} {Z : Nat→Prop}
def DRel (w : World) (Z : Nat→Prop) (ds : List DV) (cs : Array Value) : Prop:=ds.length = cs.size∧∀ (i : Nat) (d : DV) (c : Value),ds[i]? = some d→cs[i]? = some c→RelD w Z d c
theorem DRel.extract {ds : List DV} {cs : Array Value} (h : DRel w Z ds cs) (o s : Nat) (hs : o + s≤ds.length) : DRel w Z ((ds.drop o).take s) (cs.extract o (o + s)):=by
  have h1:=h.1
  refine ⟨by simp;omega,fun i d c hd hc=>?_⟩
  rw [List.getElem?_take] at hd
  split at hd
  · rw [List.getElem?_drop] at hd
    rw [Array.getElem?_extract] at hc
    split at hc
    · exact h.2 _ _ _ hd hc
    · simp at hc
  · simp at hd
theorem qk6 {t : TypeId} {d : TypeDesc} (h : P.underlying t = some d) : ∃ info,P.info? t = some info∧P.cellsOf t = info.size:=by
  cases hi : P.info? t with
  | none=>simp [Program.underlying,hi] at h
  | some info=>exact ⟨info,rfl,by simp [Program.cellsOf,hi]⟩
def EqOk (P : Program) (w : World) (Z : Nat→Prop) (k : Nat) (t : TypeId) (desc : TypeDesc) (ks : List (Option IntKind)) : Prop:=
  ∀ (xs ys : List DV) (X Y : Array Value) (r : Bool),DRel w Z xs X→DRel w Z ys Y→cellsEq ks xs ys = some r→
    (aggDesc desc = true→(Op.equalIn k t (.agg X) (.agg Y)).run P w = .ok r w)∧(aggDesc desc = false→ks.length = 1∧∀ x y,X[0]? = some x→Y[0]? = some y→(Op.equalIn k t x y).run P w = .ok r w)
def eqBody (k : Nat) (X Y : Array Value) (f : Field) (_s : Option Bool × Unit) : Sem (ForInStep (Option Bool × Unit)):=
  if f.name ≠ "_" then do
    let __do_lift ← part f.type X f.offset
    let __do_lift_1 ← part f.type Y f.offset
    let __do_lift ← Op.equalIn k f.type __do_lift __do_lift_1
    if (!__do_lift) = true then pure (ForInStep.done (some false,())) else pure (ForInStep.yield (none,()))
  else pure (ForInStep.yield (none,()))
theorem qmq {k : Nat} {t : TypeId} {desc : TypeDesc} {info : TypeInfo} {ks : List (Option IntKind)} (h : EqOk P w Z k t desc ks) (hu : P.underlying t = some desc) (hi : P.info? t = some info) (hs : info.size = ks.length)
    {xs ys : List DV} {X Y : Array Value} (hx : DRel w Z xs X) (hy : DRel w Z ys Y) {o : Nat} (hlx : o + ks.length≤xs.length) (hly : o + ks.length≤ys.length) {p : Bool}
    (hp : cellsEq ks ((xs.drop o).take ks.length) ((ys.drop o).take ks.length) = some p) :
    ∃ vx vy,(part t X o).run P w = .ok vx w∧(part t Y o).run P w = .ok vy w∧(Op.equalIn k t vx vy).run P w = .ok p w:=by
  obtain ⟨e1,e2⟩:=h _ _ _ _ p (hx.extract o ks.length hlx) (hy.extract o ks.length hly) hp
  cases hag : aggDesc desc with
  | true=>
    exact ⟨.agg (X.extract o (o + ks.length)),.agg (Y.extract o (o + ks.length)),by simp [part,q94 hu,hag,q47 hi,hs],by simp [part,q94 hu,hag,q47 hi,hs],e1 hag⟩
  | false=>
    obtain ⟨h1,e2⟩:=e2 hag
    have hx1:=hx.1
    have hy1:=hy.1
    obtain ⟨x,hxx⟩:=q43 (xs:=X) (i:=o) (by omega)
    obtain ⟨y,hyy⟩:=q43 (xs:=Y) (i:=o) (by omega)
    refine ⟨x,y,by simp [part,q94 hu,hag,hxx],by simp [part,q94 hu,hag,hyy],e2 x y ?_ ?_⟩
    · rw [Array.getElem?_extract,h1,if_pos (by have:=q4j hxx;omega)];exact hxx
    · rw [Array.getElem?_extract,h1,if_pos (by have:=q4j hyy;omega)];exact hyy
theorem qmr (d : Nat) (k : Nat) (ih : ∀ t desc ks,P.underlying t = some desc→plainEq P d t = some ks→EqOk P w Z k t desc ks)
    (xs ys : List DV) (X Y : Array Value) (hx : DRel w Z xs X) (hy : DRel w Z ys Y) : ∀ (l : List Field) (o : Nat) (r : Bool) (ks : List (Option IntKind)),tile P (plainEq P d) o l = some ks→o + ks.length≤xs.length→o + ks.length≤ys.length→
    cellsEq ks (xs.drop o) (ys.drop o) = some r→(forIn l ((none : Option Bool),()) (eqBody k X Y) : Sem (Option Bool × Unit)).run P w = .ok (if r then (none,()) else (some false,())) w
  | [],o,r,ks,ht,_,_,hc=>by
    simp only [tile,Option.some.injEq] at ht;subst ht
    obtain ⟨h1,h2⟩:=qaa hc
    rw [List.eq_nil_of_length_eq_zero h1,List.eq_nil_of_length_eq_zero h2] at hc
    simp [cellsEq] at hc;subst hc
    simp
  | f::l,o,r,ks,ht,hlx,hly,hc=>by
    simp only [tile] at ht
    cases hpe : plainEq P d f.type with
    | none=>simp [hpe] at ht
    | some ka=>
      simp only [hpe] at ht
      split at ht <;> try simp at ht
      rename_i hcond
      obtain ⟨rfl,hn,hsz⟩:=hcond
      cases htl : tile P (plainEq P d) (f.offset + ka.length) l with
      | none=>simp [htl] at ht
      | some kb=>
        simp only [htl,Option.some.injEq] at ht;subst ht
        simp only [List.length_append] at hlx hly
        obtain ⟨p,q,hp,hq,hr⟩:=qan hc
        rw [List.drop_drop,List.drop_drop] at hq
        obtain ⟨df,hdf⟩ : ∃ df,P.underlying f.type = some df:=by
          cases hu : P.underlying f.type with
          | none=>cases d <;> simp [plainEq,hu] at hpe
          | some df=>exact ⟨df,rfl⟩
        obtain ⟨jf,hjf,hsz'⟩:=qk6 hdf
        obtain ⟨vx,vy,g1,g2,g3⟩:=qmq (ih f.type df ka hdf hpe) hdf hjf (by omega) hx hy (o:=f.offset) (by omega) (by omega) hp
        rw [List.forIn_cons]
        simp only [eqBody,if_pos hn,Sem.run_bind,g1,g2,g3,Result.andThen_ok]
        cases p with
        | false=>simp [hr]
        | true=>
          have:=qmr d k ih xs ys X Y hx hy l (f.offset + ka.length) q kb htl (by omega) (by omega) hq
          simp only [Bool.true_and] at hr
          subst hr
          simpa using this
def eqBodyA (k : Nat) (e : TypeId) (n : Nat) (X Y : Array Value) (i : Nat) (_s : Option Bool × Unit) : Sem (ForInStep (Option Bool × Unit)):=do
  let __do_lift ← part e X (i * n)
  let __do_lift_1 ← part e Y (i * n)
  let __do_lift ← Op.equalIn k e __do_lift __do_lift_1
  if (!__do_lift) = true then pure (ForInStep.done (some false,())) else pure (ForInStep.yield (none,()))
theorem qk7 {k : Nat} {e : TypeId} {desc : TypeDesc} {info : TypeInfo} {a : List (Option IntKind)} (hE : EqOk P w Z k e desc a) (hu : P.underlying e = some desc) (hi : P.info? e = some info) (hs : info.size = a.length)
    {xs ys : List DV} {X Y : Array Value} (hx : DRel w Z xs X) (hy : DRel w Z ys Y) : ∀ (m s : Nat) (r : Bool),(s + m) * a.length≤xs.length→(s + m) * a.length≤ys.length→
    cellsEq (List.replicate m a).flatten (xs.drop (s * a.length)) (ys.drop (s * a.length)) = some r→(forIn (List.range' s m) ((none : Option Bool),()) (eqBodyA k e info.size X Y) : Sem (Option Bool × Unit)).run P w = .ok (if r then (none,()) else (some false,())) w
  | 0,s,r,_,_,hc=>by
    simp only [List.replicate_zero,List.flatten_nil] at hc
    obtain ⟨h1,h2⟩:=qaa hc
    rw [List.eq_nil_of_length_eq_zero h1,List.eq_nil_of_length_eq_zero h2] at hc
    simp [cellsEq] at hc;subst hc
    simp
  | m + 1,s,r,hlx,hly,hc=>by
    rw [List.replicate_succ,List.flatten_cons] at hc
    obtain ⟨p,q,hp,hq,hr⟩:=qan hc
    rw [List.drop_drop,List.drop_drop] at hq
    have e1 : s * a.length + a.length = (s + 1) * a.length:=by rw [Nat.add_mul];simp
    have e2 : (s + 1) * a.length + m * a.length = (s + (m + 1)) * a.length:=by rw [← Nat.add_mul];congr 1;omega
    obtain ⟨vx,vy,g1,g2,g3⟩:=qmq hE hu hi hs hx hy (o:=s * a.length) (by omega) (by omega) hp
    rw [List.range'_succ,List.forIn_cons]
    simp only [eqBodyA,hs,Sem.run_bind,g1,g2,g3,Result.andThen_ok]
    cases p with
    | false=>simp [hr]
    | true=>
      rw [e1] at hq
      have:=qk7 hE hu hi hs hx hy m (s + 1) q (by rw [Nat.add_mul];omega) (by rw [Nat.add_mul];omega) hq
      simp only [Bool.true_and] at hr
      subst hr
      rw [hs] at this
      simpa using this
theorem qk8 : ∀ (d : Nat) (t : TypeId) (desc : TypeDesc) (ks : List (Option IntKind)),P.underlying t = some desc→plainEq P d t = some ks→∀ k,d≤k→EqOk P w Z k t desc ks
  | 0,t,desc,ks,hu,hp,k,hk=>by simp [plainEq] at hp
  | d + 1,t,desc,ks,hu,hp,k,hk=>by
    obtain ⟨k,rfl⟩ : ∃ k',k = k' + 1:=⟨k - 1,by omega⟩
    intro xs ys X Y r hx hy hc
    obtain ⟨hl1,hl2⟩:=qaa hc
    simp only [plainEq,hu] at hp
    cases desc <;> simp only [reduceCtorEq,Option.some.injEq] at hp
    case bool=>
      subst hp
      refine ⟨by simp [aggDesc],fun _=>⟨rfl,fun x y hxx hyy=>?_⟩⟩
      match xs,ys,hl1,hl2,hc with
      | [a],[b],_,_,hc=>
        have ra:=hx.2 0 a x rfl hxx
        have rb:=hy.2 0 b y rfl hyy
        simp only [cellsEq] at hc
        cases a <;> cases b <;> simp only [cellEq,reduceCtorEq] at hc
        simp at hc;subst hc
        cases ra;cases rb;simp [Op.equalIn,run_underlying hu]
    case int k0=>
      subst hp
      refine ⟨by simp [aggDesc],fun _=>⟨rfl,fun x y hxx hyy=>?_⟩⟩
      match xs,ys,hl1,hl2,hc with
      | [a],[b],_,_,hc=>
        have ra:=hx.2 0 a x rfl hxx
        have rb:=hy.2 0 b y rfl hyy
        simp only [cellsEq] at hc
        cases a <;> cases b <;> simp only [cellEq,reduceCtorEq] at hc
        split at hc <;> simp at hc
        rename_i h1 h2
        split at h1 <;> simp at h1
        rename_i hkk
        obtain ⟨rfl,rfl⟩:=hkk
        subst h1 hc
        simp at h2;subst h2
        cases ra;cases rb;simp [Op.equalIn,run_underlying hu]
    case struct fs=>
      refine ⟨fun _=>?_,by simp [aggDesc]⟩
      split at hp
      · simp at hp
      · rename_i hst
        simp only [Op.equalIn,Sem.run_bind,run_underlying hu,Result.andThen_ok,run_program,hst,Bool.false_eq_true,if_false]
        have:=qmr (P:=P) (w:=w) (Z:=Z) d k (fun t desc ks h1 h2=>qk8 d t desc ks h1 h2 k (by omega)) xs ys X Y hx hy fs.toList 0 r ks hp (by omega) (by omega) (by simpa using hc)
        rw [Array.forIn_toList] at this
        have e : (fun (f : Field) (_s : Option Bool × Unit)=>eqBody k X Y f _s) = eqBody k X Y:=rfl
        unfold eqBody at this
        rw [this]
        cases r <;> simp
    case array n e=>
      refine ⟨fun _=>?_,by simp [aggDesc]⟩
      cases hpe : plainEq P d e with
      | none=>simp [hpe] at hp
      | some a=>
        simp only [hpe] at hp
        split at hp
        · rename_i hsz
          simp only [Option.some.injEq] at hp;subst hp
          obtain ⟨de,hde⟩ : ∃ de,P.underlying e = some de:=by
            cases hu' : P.underlying e with
            | none=>cases d <;> simp [plainEq,hu'] at hpe
            | some de=>exact ⟨de,rfl⟩
          obtain ⟨je,hje,hsz'⟩:=qk6 hde
          have hlen : (List.replicate n a).flatten.length = n * a.length:=by simp
          have:=qk7 (qk8 d e de a hde hpe k (by omega)) hde hje (by omega) hx hy n 0 r (by rw [Nat.zero_add];omega) (by rw [Nat.zero_add];omega) (by simpa using hc)
          simp only [Op.equalIn,Sem.run_bind,run_underlying hu,Result.andThen_ok,q47 hje,Std.Legacy.Range.forIn_eq_forIn_range']
          have e : (fun (i : Nat) (_s : Option Bool × Unit)=>eqBodyA k e je.size X Y i _s) = eqBodyA k e je.size X Y:=rfl
          unfold eqBodyA at this
          simp only [Std.Legacy.Range.size,Nat.sub_zero,Nat.add_sub_cancel,Nat.div_one]
          rw [this]
          cases r <;> simp
        · simp at hp
end
section
variable {w : World} {Z : Nat→Prop} {inj : Inj} {st : AS} {a : Act} {Ds : List Nat}
theorem qpm {op : BinOp} {k : IntKind} {x y : Int} {r : DV} (h : binI op k x y = some r) (hs : op≠.shl∧op≠.shr) : ∃ v,(∀ t,(binOp op t (.int k x) (.int k y)).run P w = .ok v w)∧RelD w Z r v:=by
  cases op <;> simp only [binI,reduceCtorEq,Option.some.injEq] at h <;> try (simp at hs;done)
  case add=>subst h;exact ⟨_,fun t=>by simp [binOp,Op.intArith],.int _ _⟩
  case sub=>subst h;exact ⟨_,fun t=>by simp [binOp,Op.intArith],.int _ _⟩
  case mul=>subst h;exact ⟨_,fun t=>by simp [binOp,Op.intArith],.int _ _⟩
  case quo=>split at h <;> simp at h;subst h;rename_i hy;exact ⟨_,fun t=>by simp [binOp,Op.intDiv,hy],.int _ _⟩
  case rem=>split at h <;> simp at h;subst h;rename_i hy;exact ⟨_,fun t=>by simp [binOp,Op.intDiv,hy],.int _ _⟩
  case and=>subst h;exact ⟨_,fun t=>by simp [binOp,Op.intBits],.int _ _⟩
  case or=>subst h;exact ⟨_,fun t=>by simp [binOp,Op.intBits],.int _ _⟩
  case xor=>subst h;exact ⟨_,fun t=>by simp [binOp,Op.intBits],.int _ _⟩
  case eql=>subst h;exact ⟨_,fun t=>by simp [binOp,Op.intCmp],.bool _⟩
  case neq=>subst h;exact ⟨_,fun t=>by simp [binOp,Op.intCmp],.bool _⟩
  case lss=>subst h;exact ⟨_,fun t=>by simp [binOp,Op.intCmp],.bool _⟩
  case leq=>subst h;exact ⟨_,fun t=>by simp [binOp,Op.intCmp],.bool _⟩
  case gtr=>subst h;exact ⟨_,fun t=>by simp [binOp,Op.intCmp],.bool _⟩
  case geq=>subst h;exact ⟨_,fun t=>by simp [binOp,Op.intCmp],.bool _⟩
theorem qh7 {op : BinOp} {k k' : IntKind} {x y : Int} {r : DV} (h : shiftI op k x y = some r) : ∃ v,(∀ t,(binOp op t (.int k x) (.int k' y)).run P w = .ok v w)∧RelD w Z r v:=by
  unfold shiftI at h
  split at h <;> try simp at h
  rename_i hy
  cases op <;> simp only [reduceCtorEq,Option.some.injEq] at h
  case shl=>subst h;exact ⟨_,fun t=>by simp [binOp,Op.shift,hy],.int _ _⟩
  case shr=>subst h;exact ⟨_,fun t=>by simp [binOp,Op.shift,hy],.int _ _⟩
theorem q51 {op : BinOp} {t : TypeId} {x y : Operand} {u v : Value} (hu : ∀ c,u≠.agg c) (hn : u≠.nilIface) : (eqGuard op t x y u v).run P w = .ok () w:=by
  unfold eqGuard
  cases op <;> simp <;> cases u <;> simp_all
theorem qfx {op : BinOp} {t : TypeId} {x y : Operand} {u v : Array Value} (h : P.eqGuardType P.depth t = false) : (eqGuard op t x y (.agg u) (.agg v)).run P w = .ok () w:=by
  unfold eqGuard
  cases op <;> simp [h]
end
end Go.Am
namespace Go.Am
open Go
variable {P : Program} {T : Tab}
section
variable {w : World} {Z : Nat→Prop} {inj : Inj} {st : AS} {a : Act} {Ds : List Nat}
theorem qe2 {pk : TypeId → Option (List (Option IntKind))} {k : Nat} (ih : ∀ t ks, pk t = some ks → P.eqGuardType k t = false) : ∀ {l : List Field} {o : Nat} {ks}, tile P pk o l = some ks → l.any (fun f => f.name != "_" && P.eqGuardType k f.type) = false
  | [],_,_,_=>rfl
  | f::r,o,ks,h=>by
    simp only [tile] at h
    cases hp : pk f.type with
    | none=>simp [hp] at h
    | some ka=>
      simp only [hp] at h
      split at h <;> try simp at h
      cases ht : tile P pk (o + ka.length) r with
      | none=>simp [ht] at h
      | some kb=>
        have:=qe2 ih ht
        simp only [List.any_cons,this,ih _ _ hp,Bool.and_false,Bool.or_false]
theorem noguard : ∀ (d : Nat) (t : TypeId) (ks : List (Option IntKind)),plainEq P d t = some ks→∀ k,d≤k→P.eqGuardType k t = false
  | 0,t,ks,h,k,hk=>by simp [plainEq] at h
  | d + 1,t,ks,h,k,hk=>by
    obtain ⟨k,rfl⟩ : ∃ k',k = k' + 1:=⟨k - 1,by omega⟩
    simp only [plainEq] at h
    simp only [Program.eqGuardType]
    cases hu : P.underlying t with
    | none=>rfl
    | some desc=>
      cases desc <;> simp only [hu,reduceCtorEq] at h <;> try rfl
      case array n e=>
        cases hp : plainEq P d e with
        | none=>simp [hp] at h
        | some a=>exact noguard d e a hp k (by omega)
      case struct fs=>
        split at h <;> try simp at h
        have:=qe2 (fun t ks hp=>noguard d t ks hp k (by omega)) h
        simp only []
        rw [← Array.any_toList];exact this
theorem qio {op : BinOp} {t : TypeId} {i : TI} {x y : Operand} {p q : List DV} {ks : List (Option IntKind)} {r : Bool} {b : DV} (h : RelS w Z inj st a Ds) (ht : tiOf P t = some i) (hx : st.ev x = some (.d (.agg p))) (hy : st.ev y = some (.d (.agg q)))
    (he : i.eqs = some ks) (hc : cellsEq ks p q = some r) (hop : (op = .eql∧b = .bool r)∨(op = .neq∧b = .bool (!r))) :
    OpRes st st (.d b) w Z inj ((do pure (Next.value (← (do eqGuard op t x y (a.eval x) (a.eval y);binOp op t (a.eval x) (a.eval y) : Sem Value)) ) : Sem Next).run P w):=by
  obtain ⟨info,d,z,k⟩:=q5l ht
  have h1:=q24 h hx
  have h2:=q24 h hy
  generalize a.eval x = vx at h1 ⊢
  generalize a.eval y = vy at h2 ⊢
  cases h1 with | d h1=>cases h1 with | @agg _ X hl1 hr1=>
  cases h2 with | d h2=>cases h2 with | @agg _ Y hl2 hr2=>
  obtain ⟨hpe,hag⟩:=k.eqs ks he
  have hg : P.eqGuardType P.depth t = false:=noguard 8 t ks hpe _ (by unfold Program.depth Made.depth;omega)
  have hrun:=(qk8 (w:=w) (Z:=Z) 8 t d ks k.und hpe Op.maxDepth (by unfold Op.maxDepth;omega) p q X Y r ⟨hl1,hr1⟩ ⟨hl2,hr2⟩ hc).1 hag
  rcases hop with ⟨rfl,rfl⟩ | ⟨rfl,rfl⟩
  · exact .quiet h (q1c (x:=.bool r) (by simp [qfx hg,binOp,Op.equal,hrun])) (.d (.bool _))
  · exact .quiet h (q1c (x:=.bool (!r)) (by simp [qfx hg,binOp,Op.equal,hrun])) (.d (.bool _))
theorem qo5 {op : BinOp} {t : TypeId} {x y : Operand} {k k' : IntKind} {p q : Int} {b : DV} (h : RelS w Z inj st a Ds) (hx : st.ev x = some (.d (.int k p))) (hy : st.ev y = some (.d (.int k' q)))
    (hc : binD op (.int k p) (.int k' q) = some b) :
    OpRes st st (.d b) w Z inj ((do pure (Next.value (← (do eqGuard op t x y (a.eval x) (a.eval y);binOp op t (a.eval x) (a.eval y) : Sem Value)) ) : Sem Next).run P w):=by
  have h1:=q24 h hx
  have h2:=q24 h hy
  generalize a.eval x = vx at h1 ⊢
  generalize a.eval y = vy at h2 ⊢
  cases h1 with | d h1=>
  cases h1
  cases h2 with | d h2=>
  cases h2
  have hg:=q51 (P:=P) (w:=w) (op:=op) (t:=t) (x:=x) (y:=y) (u:=.int k p) (v:=.int k' q) (by simp) (by simp)
  have key : ∃ v,(∀ t,(binOp op t (.int k p) (.int k' q)).run P w = .ok v w)∧RelD w Z b v:=by
    unfold binD at hc
    split at hc
    · rename_i e1 e2;cases e1;cases e2;exact qh7 hc
    · rename_i e1 e2;cases e1;cases e2;exact qh7 hc
    · rename_i n1 n2 e1 e2
      cases e1;cases e2
      split at hc <;> try simp at hc
      rename_i hk;subst hk
      exact qpm hc ⟨fun e=>n1 e,fun e=>n2 e⟩
    · simp at hc
  obtain ⟨v,hv,hr⟩:=key
  exact .quiet h (q1c (x:=v) (by simp [hg,hv])) (.d hr)
theorem maxD : Op.maxDepth = 9999 + 1:=rfl
theorem qqz {t : TypeId} (h : P.underlying t = some .bool) (p q : Bool) : (Op.equal t (.bool p) (.bool q)).run P w = .ok (p == q) w:=by
  rw [Op.equal,maxD,Op.equalIn];simp only [Sem.run_bind,run_underlying h,Result.andThen_ok];rfl
theorem qip {t e : TypeId} (h : P.underlying t = some (.slice e)) (a : Option Addr) (n c : Nat) : (Op.equal t (.slice none 0 0) (.slice a n c)).run P w = .ok a.isNone w:=by
  rw [Op.equal,maxD,Op.equalIn];simp only [Sem.run_bind,run_underlying h,Result.andThen_ok];rfl
theorem qpn {t e : TypeId} (h : P.underlying t = some (.slice e)) (a : Addr) (n c : Nat) : (Op.equal t (.slice (some a) n c) (.slice none 0 0)).run P w = .ok false w:=by
  rw [Op.equal,maxD,Op.equalIn];simp only [Sem.run_bind,run_underlying h,Result.andThen_ok];rfl
theorem qs5 {t : TypeId} {x y z} (h : P.underlying t = some (.func x y z)) : (Op.equal t .nilFunc .nilFunc).run P w = .ok true w:=by
  rw [Op.equal,maxD,Op.equalIn];simp only [Sem.run_bind,run_underlying h,Result.andThen_ok];rfl
theorem qs6 {t : TypeId} {x y z} (h : P.underlying t = some (.func x y z)) (f g c) : (Op.equal t .nilFunc (.func f g c)).run P w = .ok false w:=by
  rw [Op.equal,maxD,Op.equalIn];simp only [Sem.run_bind,run_underlying h,Result.andThen_ok];rfl
theorem qs7 {t : TypeId} {x y z} (h : P.underlying t = some (.func x y z)) (f g c) : (Op.equal t (.func f g c) .nilFunc).run P w = .ok false w:=by
  rw [Op.equal,maxD,Op.equalIn];simp only [Sem.run_bind,run_underlying h,Result.andThen_ok];rfl
theorem q7y {t : TypeId} {u v : Value} {r : Bool} (he : (Op.equal t u v).run P w = .ok r w) (h1 : ∀ k n,u≠.int k n) (h2 : ∀ k n,u≠.float k n) (h3 : ∀ k n m,u≠.complex k n m) (h4 : ∀ s,u≠.string s) :
    (binOp .eql t u v).run P w = .ok (.bool r) w∧(binOp .neq t u v).run P w = .ok (.bool (!r)) w:=by
  cases u <;> first | (exfalso;exact h1 _ _ rfl) | (exfalso;exact h2 _ _ rfl) | (exfalso;exact h3 _ _ _ rfl) | (exfalso;exact h4 _ rfl) | (constructor <;> (simp only [binOp];simp [he]))
theorem qpo {op : BinOp} {t : TypeId} {i : TI} {x y : Operand} {p q : DV} {b : DV} (h : RelS w Z inj st a Ds) (ht : tiOf P t = some i) (hx : st.ev x = some (.d p)) (hy : st.ev y = some (.d q))
    (hc : binE op i.kind p q = some b) :
    OpRes st st (.d b) w Z inj ((do pure (Next.value (← (do eqGuard op t x y (a.eval x) (a.eval y);binOp op t (a.eval x) (a.eval y) : Sem Value)) ) : Sem Next).run P w):=by
  obtain ⟨info,d,z,k⟩:=q5l ht
  have h1:=q24 h hx
  have h2:=q24 h hy
  generalize a.eval x = vx at h1 ⊢
  generalize a.eval y = vy at h2 ⊢
  cases h1 with | d h1=>
  cases h2 with | d h2=>
  have key : ∀ r,eqK i.kind p q = some r→(eqGuard op t x y vx vy).run P w = .ok () w∧(binOp .eql t vx vy).run P w = .ok (.bool r) w∧(binOp .neq t vx vy).run P w = .ok (.bool (!r)) w:=by
    intro r hr
    have hk:=k.kind
    unfold KindOk at hk
    unfold eqK at hr
    split at hr <;> simp at hr <;> (rename_i hkk;simp only [hkk] at hk)
    · subst hr;obtain ⟨rfl,_⟩:=hk;cases h1;cases h2
      exact ⟨q51 (by simp) (by simp),q7y (qqz k.und _ _) (by simp) (by simp) (by simp) (by simp)⟩
    · subst hr;cases h1;cases h2
      exact ⟨q51 (by simp) (by simp),by simp only [binOp,Op.stringOp];rfl,by simp only [binOp,Op.stringOp];rfl⟩
    · subst hr;obtain ⟨e,ie,de,ze,rfl,_⟩:=hk;cases h1;cases h2
      exact ⟨q51 (by simp) (by simp),q7y (qip k.und _ _ _) (by simp) (by simp) (by simp) (by simp)⟩
    · subst hr;obtain ⟨e,ie,de,ze,rfl,_⟩:=hk;cases h1;cases h2
      exact ⟨q51 (by simp) (by simp),q7y (qip k.und _ _ _) (by simp) (by simp) (by simp) (by simp)⟩
    · subst hr;obtain ⟨e,ie,de,ze,rfl,_⟩:=hk;cases h1;cases h2
      exact ⟨q51 (by simp) (by simp),q7y (qpn k.und _ _ _) (by simp) (by simp) (by simp) (by simp)⟩
    · subst hr;obtain ⟨⟨e,f,g,rfl⟩,_⟩:=hk;cases h1;cases h2
      exact ⟨q51 (by simp) (by simp),q7y (qs5 k.und) (by simp) (by simp) (by simp) (by simp)⟩
    · subst hr;obtain ⟨⟨e,f,g,rfl⟩,_⟩:=hk;cases h1;cases h2
      exact ⟨q51 (by simp) (by simp),q7y (qs6 k.und _ _ _) (by simp) (by simp) (by simp) (by simp)⟩
    · subst hr;obtain ⟨⟨e,f,g,rfl⟩,_⟩:=hk;cases h1;cases h2
      exact ⟨q51 (by simp) (by simp),q7y (qs7 k.und _ _ _) (by simp) (by simp) (by simp) (by simp)⟩
  unfold binE at hc
  split at hc
  · cases hr : eqK i.kind p q with
    | none=>simp [hr] at hc
    | some r=>
      simp [hr] at hc;subst hc
      obtain ⟨g1,g2,_⟩:=key r hr
      exact .quiet h (q1c (x:=.bool r) (by simp [g1,g2])) (.d (.bool _))
  · cases hr : eqK i.kind p q with
    | none=>simp [hr] at hc
    | some r=>
      simp [hr] at hc;subst hc
      obtain ⟨g1,_,g2⟩:=key r hr
      exact .quiet h (q1c (x:=.bool (!r)) (by simp [g1,g2])) (.d (.bool _))
  · simp at hc
end
end Go.Am
namespace Go.Am
open Go
variable {P : Program} {T : Tab}
section
variable {w : World} {Z : Nat→Prop} {inj : Inj} {st : AS} {a : Act} {Ds : List Nat}
theorem qs8 {op : UnOp} {x : Operand} {p b : DV} (h : RelS w Z inj st a Ds) (hx : st.ev x = some (.d p)) (hc : unD op p = some b) :
    OpRes st st (.d b) w Z inj ((do pure (Next.value (← Op.unary op (a.eval x))) : Sem Next).run P w):=by
  have h1:=q24 h hx
  generalize a.eval x = vx at h1 ⊢
  cases h1 with | d h1=>
  unfold unD at hc
  split at hc
  · simp at hc;subst hc;cases h1
    exact .quiet h (q1c (by simp [Op.unary,Op.intArith])) (.d (.int _ _))
  · simp at hc;subst hc;cases h1
    exact .quiet h (q1c (by simp [Op.unary])) (.d (.bool _))
  · cases h1
    simp only [binI,Option.some.injEq] at hc;subst hc
    exact .quiet h (q1c (by simp [Op.unary,Op.intBits])) (.d (.int _ _))
  · simp at hc
theorem qnd {src dst : TypeId} {i j : TI} {x : Operand} {k0 k1 k : IntKind} {n : Int} (h : RelS w Z inj st a Ds) (hi : tiOf P src = some i) (hj : tiOf P dst = some j) (hik : i.kind = .int k0) (hjk : j.kind = .int k) (hx : st.ev x = some (.d (.int k1 n))) :
    OpRes st st (.d (.int k (k.wrap n))) w Z inj ((do pure (Next.value (← convert src dst (a.eval x))) : Sem Next).run P w):=by
  obtain ⟨info,d,z,ki⟩:=q5l hi
  obtain ⟨info',d',z',kj⟩:=q5l hj
  have h1:=ki.kind
  have h2:=kj.kind
  unfold KindOk at h1 h2
  simp only [hik,hjk] at h1 h2
  obtain ⟨rfl,_⟩:=h1
  obtain ⟨rfl,_⟩:=h2
  have h3:=q24 h hx
  generalize a.eval x = vx at h3 ⊢
  cases h3 with | d h3=>
  cases h3
  refine .quiet h (q1c (x:=.int k (k.wrap n)) ?_) (.d (.int _ _))
  simp only [convert,Sem.run_bind,run_underlying ki.und,run_underlying kj.und,Result.andThen_ok]
  simp [Conv.intToInt]
theorem qly {f : FuncId} {first caps : Array Operand} {vs : List V} (h : RelS w Z inj st a Ds) (hf : first.size = 0) (hv : evL st.ev caps.toList = some vs) :
    OpRes st st (match allD vs with | some ds=>.d (.fn f ds) | none=>.fn f vs) w Z inj ((do pure (Next.value (← Instr.makeFunc (.func f) (first.map a.eval) (caps.map a.eval))) : Sem Next).run P w):=by
  have h1:=qcf h hv
  have e1 : first.map a.eval = #[]:=by apply Array.eq_empty_of_size_eq_zero;simpa using hf
  have e2 : (caps.toList.map a.eval).toArray = caps.map a.eval:=by apply Array.ext';simp
  rw [e2] at h1
  refine .quiet h (q1c (x:=.func (.func f) #[] (caps.map a.eval)) (by simp [Instr.makeFunc,e1])) ?_
  split
  · rename_i ds hd
    have:=q9t hd;subst this
    refine .d (.fn (by simpa using h1.1) fun i d c hd hc=>?_)
    have:=h1.2 i (.d d) c (by simp [hd]) hc
    cases this with | d h=>exact h
  · exact .fn h1.1 h1.2
theorem qh8 {x : Operand} {k : Nat} {v : V} (h : RelS w Z inj st a Ds) (hx : (∃ vs d,st.ev x = some (.d (.tup vs))∧vs[k]? = some d∧v = .d d)∨∃ vs,st.ev x = some (.tup vs)∧vs[k]? = some v) :
    OpRes st st v w Z inj ((do pure (Next.value (← Instr.extract (a.eval x) k)) : Sem Next).run P w):=by
  rcases hx with ⟨vs,d,hx,hk,rfl⟩ | ⟨vs,hx,hk⟩
  · have h1:=q24 h hx
    generalize a.eval x = vx at h1 ⊢
    cases h1 with | d h1=>
    cases h1 with | @tup _ cs hl hr=>
    obtain ⟨c,hc⟩:=q43 (xs:=cs) (i:=k) (by have:=q1i hk;omega)
    exact .quiet h (q1c (x:=c) (by simp [Instr.extract,hc])) (.d (hr _ _ _ hk hc))
  · have h1:=q24 h hx
    generalize a.eval x = vx at h1 ⊢
    cases h1 with | @tup _ cs hl hr=>
    obtain ⟨c,hc⟩:=q43 (xs:=cs) (i:=k) (by have:=q1i hk;omega)
    exact .quiet h (q1c (x:=c) (by simp [Instr.extract,hc])) (hr _ _ _ hk hc)
theorem qms {nx : Nat} {v : V} {x : Value} {cs : List V} (h : RelV w Z inj nx v x) (ha : agD v = some cs) : ∃ xs,x = .agg xs∧LRel w Z inj nx cs xs:=by
  unfold agD at ha
  split at ha <;> simp at ha
  · subst ha
    cases h with | d h=>
    cases h with | @agg _ X hl hr=>
    refine ⟨X,rfl,by simpa using hl,fun i d c hd hc=>?_⟩
    simp only [List.getElem?_map,Option.map_eq_some_iff] at hd
    obtain ⟨d',hd',rfl⟩:=hd
    exact .d (hr i d' c hd' hc)
  · subst ha
    cases h with | @agg _ X hl hr=>exact ⟨X,rfl,hl,hr⟩
theorem qpp {s : TypeId} {i : TI} {x : Operand} {xv v : V} {f off size : Nat} {ag : Bool} {cs r : List V} (h : RelS w Z inj st a Ds) (hi : tiOf P s = some i) (hx : st.ev x = some xv) (hk : i.kind = .struct) (hf : i.flds[f]? = some (off,size,ag))
    (ha : agD xv = some cs) (hs : sub cs off size = some r) (hp : pack ag r = some v) :
    OpRes st st v w Z inj ((do pure (Next.value (← Instr.field s (a.eval x) f)) : Sem Next).run P w):=by
  obtain ⟨info,d,z,k⟩:=q5l hi
  have hkk:=k.kind
  unfold KindOk at hkk
  simp only [hk] at hkk
  obtain ⟨fs,rfl,hfl⟩:=hkk
  obtain ⟨fd,jf,df,g1,g2,g3,g4,g5,g6,g7⟩:=qgc hfl hf
  obtain ⟨xs,he,hl⟩:=qms (q24 h hx) ha
  subst g4 g6 g7
  obtain ⟨y,hy,hr⟩:=qk5 (P:=P) g2 g3 hl hs hp
  refine .quiet h (q1c (x:=y) ?_) hr
  simp only [Instr.field,Sem.run_bind,run_underlying k.und,Result.andThen_ok,g1,he,asAgg,Sem.run_pure,hy]
theorem qpq {t : TypeId} {i : TI} {x ix : Operand} {xv v : V} {k0 : IntKind} {n : Int} {cs r : List V} (h : RelS w Z inj st a Ds) (hi : tiOf P t = some i) (hx : st.ev x = some xv) (hn : st.ev ix = some (.d (.int k0 n))) (hk : i.kind = .array)
    (ha : agD xv = some cs) (h0 : 0≤n∧n < i.len) (hs : sub cs (n.toNat * i.esize) i.esize = some r) (hp : pack i.eagg r = some v) :
    OpRes st st v w Z inj ((do pure (Next.value (← Instr.index t (a.eval x) (a.eval ix))) : Sem Next).run P w):=by
  obtain ⟨info,d,z,k⟩:=q5l hi
  have hkk:=k.kind
  unfold KindOk at hkk
  simp only [hk] at hkk
  obtain ⟨e,ie,de,rfl,g1,g2,g3,g4,g5⟩:=hkk
  obtain ⟨xs,he,hl⟩:=qms (q24 h hx) ha
  have h3:=q24 h hn
  generalize a.eval ix = vx at h3 ⊢
  cases h3 with | d h3=>
  cases h3
  rw [← g3] at hs
  rw [← g5] at hp
  obtain ⟨y,hy,hr⟩:=qk5 (P:=P) g1 g2 hl hs hp
  refine .quiet h (q1c (x:=y) ?_) hr
  simp only [Instr.index,asIntOf,Sem.run_bind,Sem.run_pure,run_underlying k.und,Result.andThen_ok,he]
  rw [Sem.run_ite,if_pos h0]
  simp only [Sem.run_bind,q47 g1,Result.andThen_ok,g3]
  rw [g3] at hy
  exact hy
theorem qo6 {t : TypeId} {i : TI} {x ix : Operand} {k0 : IntKind} {n : Int} {s : ByteArray} {b : UInt8} (h : RelS w Z inj st a Ds) (hi : tiOf P t = some i) (hx : st.ev x = some (.d (.str s))) (hn : st.ev ix = some (.d (.int k0 n))) (hk : i.kind = .str)
    (hb : (if 0≤n then s[n.toNat]? else none) = some b) :
    OpRes st st (.d (.int .u8 b.toNat)) w Z inj ((do pure (Next.value (← Instr.index t (a.eval x) (a.eval ix))) : Sem Next).run P w):=by
  obtain ⟨info,d,z,k⟩:=q5l hi
  have hkk:=k.kind
  unfold KindOk at hkk
  simp only [hk] at hkk
  obtain ⟨rfl,_⟩:=hkk
  have h2:=q24 h hx
  have h3:=q24 h hn
  generalize a.eval x = vy at h2 ⊢
  generalize a.eval ix = vx at h3 ⊢
  cases h2 with | d h2=>
  cases h2
  cases h3 with | d h3=>
  cases h3
  refine .quiet h (q1c (x:=.int .u8 b.toNat) ?_) (.d (.int _ _))
  simp only [Instr.index,asIntOf,Sem.run_bind,Sem.run_pure,run_underlying k.und,Result.andThen_ok,hb]
theorem qk9 {s : TypeId} {i : TI} {p : Operand} {pv v : V} {f off size : Nat} {ag : Bool} (h : RelS w Z inj st a Ds) (hi : tiOf P s = some i) (hx : st.ev p = some pv) (hk : i.kind = .struct) (hf : i.flds[f]? = some (off,size,ag))
    (hp : fieldP off pv = some v) :
    OpRes st st v w Z inj ((do pure (Next.value (← Instr.fieldAt s (a.eval p) f)) : Sem Next).run P w):=by
  obtain ⟨info,d,z,k⟩:=q5l hi
  have hkk:=k.kind
  unfold KindOk at hkk
  simp only [hk] at hkk
  obtain ⟨fs,rfl,hfl⟩:=hkk
  obtain ⟨fd,jf,df,g1,g2,g3,g4,g5,g6,g7⟩:=qgc hfl hf
  have h3:=q24 h hx
  generalize a.eval p = vx at h3 ⊢
  have hrun : ∀ b o,(Instr.fieldAt s (.pointer (some ⟨b,o,none⟩)) f).run P w = .ok (.pointer (some ⟨b,o + off,none⟩)) w:=by
    intro b o
    simp only [Instr.fieldAt,Instr.sureAddr,fieldPlace,Sem.run_bind,run_underlying k.und,Result.andThen_ok,g1,Sem.run_pure,q47 g2,Sem.run_ite,g4,if_neg g5,q5x,g6]
  cases pv <;> simp only [fieldP,reduceCtorEq,Option.some.injEq] at hp
  case ref n es ii j=>
    subst hp
    cases h3 with | @ref _ _ _ _ b o h1 h2=>
    refine .quiet h (q1c (hrun _ _)) ?_
    have:=RelV.ref (w:=w) (Z:=Z) (nx:=st.nx) (es:=es) (i:=ii) (j:=j + off) h1 h2
    rwa [show o + (ii * es + (j + off)) = o + (ii * es + j) + off by omega] at this
  case dref cs j=>
    subst hp
    cases h3 with | @dref _ _ b o h1 h2 h3=>
    refine .quiet h (q1c (hrun _ _)) ?_
    have:=RelV.dref (inj:=inj) (nx:=st.nx) (j:=j + off) h1 h2 h3
    rwa [← Nat.add_assoc] at this
  case d x=>
    cases x <;> simp only [reduceCtorEq,Option.some.injEq] at hp
    subst hp
    cases h3 with | d h3=>
    cases h3 with | box h1 h2 h3=>
    exact .quiet h (q1c (hrun _ _)) (RelV.dref (inj:=inj) (nx:=st.nx) (j:=off) h1 h2 h3)
theorem qka {t : TypeId} {i : TI} {x ix : Operand} {xv v : V} {k0 : IntKind} {n : Int} (h : RelS w Z inj st a Ds) (hi : tiOf P t = some i) (hx : st.ev x = some xv) (hn : st.ev ix = some (.d (.int k0 n)))
    (hp : indexP i xv n = some v) :
    OpRes st st v w Z inj ((do pure (Next.value (← Instr.indexAt t (a.eval x) (a.eval ix))) : Sem Next).run P w):=by
  obtain ⟨info,d,z,k⟩:=q5l hi
  have hkk:=k.kind
  unfold KindOk at hkk
  have hix:=q24 h hn
  generalize a.eval ix = vx at hix ⊢
  cases hix with | d hix=>
  cases hix
  have h3:=q24 h hx
  generalize a.eval x = vx at h3 ⊢
  have slrun : i.kind = .slice→∀ b o len cap,0≤n→n < (len : Nat)→(Instr.indexAt t (.slice (some ⟨b,o,none⟩) len cap) (.int k0 n)).run P w = .ok (.pointer (some ⟨b,o + n.toNat * i.esize,none⟩)) w:=by
    intro hk b o len cap h0 h1
    simp only [hk] at hkk
    obtain ⟨e,ie,de,ze,rfl,g1,g2,g3,g4,g5,g6,_⟩:=hkk
    simp only [Instr.indexAt,asIntOf,Sem.run_bind,Sem.run_pure,run_underlying k.und,Result.andThen_ok]
    rw [Sem.run_ite,if_pos ⟨h0,h1⟩]
    simp only [Sem.run_bind,q47 g1,Result.andThen_ok,Sem.run_pure,q5x,g6]
  have arrun : i.kind = .array→∀ b o,0≤n→n < i.len→(Instr.indexAt t (.pointer (some ⟨b,o,none⟩)) (.int k0 n)).run P w = .ok (.pointer (some ⟨b,o + n.toNat * i.esize,none⟩)) w:=by
    intro hk b o h0 h1
    simp only [hk] at hkk
    obtain ⟨e,ie,de,rfl,g1,g2,g3,g4,_⟩:=hkk
    simp only [Instr.indexAt,asIntOf,Instr.sureAddr,Sem.run_bind,Sem.run_pure,run_underlying k.und,Result.andThen_ok]
    rw [Sem.run_ite,if_pos ⟨h0,h1⟩]
    simp only [Sem.run_bind,q47 g1,Result.andThen_ok,Sem.run_pure,q5x,g3]
  cases hk : i.kind <;> simp only [indexP,hk,reduceCtorEq] at hp
  case slice=>
    cases xv <;> (try simp only [reduceCtorEq] at hp)
    case d x=>
      cases x <;> (try simp only [reduceCtorEq] at hp)
      rename_i es xs
      split at hp <;> simp at hp
      rename_i h0
      obtain ⟨h0,he⟩:=h0
      obtain ⟨cs,hcs,rfl⟩:=hp
      have hlt:=q1i hcs
      cases h3 with | d h3=>
      cases h3 with
      | slnil=>simp at hlt
      | slemp=>simp at hlt
      | @sl _ _ b o cap h1 h2 h4 h5 h6=>
        refine .quiet h (q1c (slrun hk _ _ _ _ h0 (by omega))) ?_
        have:=RelV.dref (w:=w) (Z:=Z) (inj:=inj) (nx:=st.nx) (cs:=cs) (j:=0) (b:=b) (o:=o + n.toNat * i.esize) (h2 (by rintro rfl;simp at hlt))
          (fun k d hd=>by have:=(h5 n.toNat cs k d hcs hd).2;rwa [he,← Nat.add_assoc] at this)
          (fun k d c hd hc=>h6 n.toNat cs k d c hcs hd (by rwa [he,← Nat.add_assoc]))
        simpa using this
    case hs m es off len=>
      split at hp <;> simp at hp
      rename_i h0
      obtain ⟨h0,h1,he⟩:=h0
      subst hp
      cases h3 with
      | hsnil=>omega
      | @hs _ _ _ _ cap ad hn hle _ hcap=>
        obtain ⟨b,o,hi,rfl,_⟩:=hcap (by omega)
        refine .quiet h (q1c (slrun hk _ _ _ _ h0 (by omega))) ?_
        have:=RelV.ref (w:=w) (Z:=Z) (nx:=st.nx) (es:=es) (i:=off + n.toNat) (j:=0) hn hi
        rw [show o + off * es + n.toNat * i.esize = o + ((off + n.toNat) * es + 0) by rw [← he,Nat.add_mul];omega]
        exact this
  case array=>
    cases xv <;> (try simp only [reduceCtorEq] at hp)
    case ref m es e j=>
      split at hp <;> simp at hp
      rename_i h0
      subst hp
      cases h3 with | @ref _ _ _ _ b o h1 h2=>
      refine .quiet h (q1c (arrun hk _ _ h0.1 h0.2)) ?_
      have:=RelV.ref (w:=w) (Z:=Z) (nx:=st.nx) (es:=es) (i:=e) (j:=j + n.toNat * i.esize) h1 h2
      rwa [← Nat.add_assoc,← Nat.add_assoc,Nat.add_assoc o] at this
    case dref cs j=>
      split at hp <;> simp at hp
      rename_i h0
      subst hp
      cases h3 with | @dref _ _ b o h1 h2 h3=>
      refine .quiet h (q1c (arrun hk _ _ h0.1 h0.2)) ?_
      have:=RelV.dref (inj:=inj) (nx:=st.nx) (j:=j + n.toNat * i.esize) h1 h2 h3
      rwa [← Nat.add_assoc] at this
    case d x=>
      cases x <;> (try simp only [reduceCtorEq] at hp)
      split at hp <;> simp at hp
      rename_i h0
      subst hp
      cases h3 with | d h3=>
      cases h3 with | box h1 h2 h3=>
      exact .quiet h (q1c (arrun hk _ _ h0.1 h0.2)) (RelV.dref (inj:=inj) (nx:=st.nx) (j:=n.toNat * i.esize) h1 h2 h3)
end
end Go.Am
namespace Go.Am
open Go
variable {P : Program} {T : Tab}
theorem wrapI64 {n : Int} (h : -9223372036854775808≤n∧n≤9223372036854775807) : IntKind.i64.wrap n = n:=by rw [IntKind.wrap_i64];omega
theorem qmt {es i i' j : Nat} (hj : j < es) : (i * es≤i' * es + j∧i' * es + j < i * es + es)↔i' = i:=by
  constructor
  · intro ⟨h1,h2⟩
    rcases Nat.lt_trichotomy i' i with h | h | h
    · have:=Nat.mul_le_mul_right es (show i' + 1≤i from h);rw [Nat.add_mul] at this;omega
    · exact h
    · have:=Nat.mul_le_mul_right es (show i + 1≤i' from h);rw [Nat.add_mul] at this;omega
  · rintro rfl;omega
theorem q9u {es n i j : Nat} (hi : i < n) (hj : j < es) : i * es + j < n * es:=by
  have:=Nat.mul_le_mul_right es (show i + 1≤n from hi);rw [Nat.add_mul] at this;omega
section
variable {w : World} {Z : Nat→Prop} {inj : Inj} {st : AS} {a : Act} {Ds : List Nat}
theorem qiq {dflt y : Nat} {o : Option Operand} {n : Nat} {code : BoundsCode} (h : RelS w Z inj st a Ds) (hb : bound st dflt o = some n) (hy : n≤y) :
    (∀ op,o = some op→(Instr.sliceBound (a.eval op) y code).run P w = .ok n w)∧(o = none→n = dflt):=by
  cases o with
  | none=>simp [bound] at hb;exact ⟨by simp,fun _=>hb.symm⟩
  | some op=>
    refine ⟨fun op' e=>?_,by simp⟩
    cases e
    simp only [bound] at hb
    split at hb <;> try simp at hb
    rename_i k m hm
    have h1:=q24 h hm
    generalize a.eval op = vx at h1 ⊢
    cases h1 with | d h1=>
    cases h1
    obtain ⟨h0,rfl⟩:=hb
    simp only [Instr.sliceBound,asIntOf,Sem.run_bind,Sem.run_pure,Result.andThen_ok]
    rw [Sem.run_ite,if_pos ⟨h0,by omega⟩];rfl
theorem qpr {t : TypeId} {i : TI} {x : Operand} {xv v : V} {lo hi : Option Operand} {n p q : Nat} (h : RelS w Z inj st a Ds) (ht : tiOf P t = some i) (hk : i.kind = .slice) (hx : st.ev x = some xv) (hn : lenV xv = some n)
    (hlo : bound st 0 lo = some p) (hhi : bound st n hi = some q) (hs : sliceV i.esize xv p q = some v) :
    OpRes st st v w Z inj ((do pure (Next.value (← Instr.sliceAt t (a.eval x) (lo.map a.eval) (hi.map a.eval) none)) : Sem Next).run P w):=by
  obtain ⟨info,d,z,k⟩:=q5l ht
  have hkk:=k.kind
  unfold KindOk at hkk
  simp only [hk] at hkk
  obtain ⟨e,ie,de,ze,rfl,g1,g2,g3,g4,g5,g6,g7,_⟩:=hkk
  have h3:=q24 h hx
  generalize a.eval x = vx at h3 ⊢
  have run : ∀ ad len cap,len = n→q≤cap→p≤q→(Instr.sliceAt t (.slice ad len cap) (lo.map a.eval) (hi.map a.eval) none).run P w = .ok (.slice (if cap = p then ad else ad.map (·.add (p * i.esize))) (q - p) (cap - p)) w:=by
    intro ad len cap hl hq hp
    obtain ⟨l1,l2⟩:=qiq (P:=P) (y:=q) (code:=.sliceB) h hlo hp
    obtain ⟨r1,r2⟩:=qiq (P:=P) (y:=cap) (code:=.sliceAcap) h hhi hq
    simp only [Instr.sliceAt,Sem.run_bind,run_underlying k.und,Result.andThen_ok,Instr.slice,Instr.sliceBounds,q47 g1,g6]
    cases hi with
    | none=>
      have:=r2 rfl;subst this
      cases lo with
      | none=>have:=l2 rfl;subst this;simp [hl]
      | some o=>simp [hl,l1 o rfl]
    | some o'=>
      cases lo with
      | none=>have:=l2 rfl;subst this;simp [r1 o' rfl]
      | some o=>simp [r1 o' rfl,l1 o rfl]
  cases xv <;> simp only [sliceV,reduceCtorEq] at hs
  case d x=>
    cases x <;> simp only [reduceCtorEq] at hs
    case nilsl=>
      split at hs <;> simp at hs
      rename_i h0
      obtain ⟨rfl,rfl⟩:=h0
      subst hs
      simp [lenV] at hn
      cases h3 with | d h3=>
      cases h3
      exact .quiet h (q1c (run _ _ _ hn (by omega) (by omega))) (by simpa using RelV.d .nilsl)
    case sl es xs=>
      split at hs <;> simp at hs
      rename_i h0
      obtain ⟨h0,h1,he⟩:=h0
      subst hs
      simp [lenV] at hn
      cases h3 with | d h3=>
      cases h3 with
      | slnil=>
        simp at h1 hn
        obtain ⟨rfl,rfl⟩ : q = 0∧p = 0:=by omega
        exact .quiet h (q1c (run _ _ _ hn (by omega) (by omega))) (by simpa using RelV.d (.slnil _))
      | slemp=>
        simp at h1 hn
        obtain ⟨rfl,rfl⟩ : q = 0∧p = 0:=by omega
        exact .quiet h (q1c (run _ _ _ hn (by omega) (by omega))) (by simpa using RelV.d (.slemp _ _))
      | @sl _ _ b o cap hc hz hl hcell hrel=>
        refine .quiet h (q1c (run _ _ _ hn (by omega) h0)) ?_
        have hlen : ((xs.drop p).take (q - p)).length = q - p:=by simp;omega
        have hget : ∀ (i : Nat) (x : List DV),((xs.drop p).take (q - p))[i]? = some x→xs[p + i]? = some x:=by
          intro i x hx
          rw [List.getElem?_take] at hx
          split at hx
          · rwa [List.getElem?_drop] at hx
          · simp at hx
        by_cases hcp : cap = p
        · rw [if_pos hcp]
          have h9 : (xs.drop p).take (q - p) = []:=List.eq_nil_of_length_eq_zero (by rw [hlen];omega)
          have h8 : q - p = 0:=by omega
          rw [h9,h8]
          exact .d (RelD.sl (es:=es) (xs:=[]) (by simp) (by simp) (by simp) (by simp) (by simp))
        · rw [if_neg hcp,Option.map_some,q5x]
          have e2 : ∀ k j,o + p * i.esize + (k * es + j) = o + ((p + k) * es + j):=by
            intro k j;rw [← he,Nat.add_mul];omega
          have:=RelD.sl (w:=w) (Z:=Z) (es:=es) (xs:=(xs.drop p).take (q - p)) (b:=b) (o:=o + p * i.esize) (cap:=cap - p) (by rw [hlen];omega) (fun hne=>hz (by rintro rfl;simp at hne)) (fun i x hx=>hl _ _ (hget i x hx))
            (fun k x j d hx hd=>by rw [e2];exact hcell _ _ j d (hget k x hx) hd)
            (fun k x j d c hx hd hc=>hrel _ _ j d c (hget k x hx) hd (by rw [e2] at hc;exact hc))
          rw [hlen] at this
          exact .d this
  case hs m es off len=>
    split at hs <;> simp at hs
    rename_i h0
    obtain ⟨h0,h1,he⟩:=h0
    subst hs
    simp [lenV] at hn
    cases h3 with
    | hsnil hm=>
      obtain ⟨rfl,rfl⟩ : q = 0∧p = 0:=by omega
      exact .quiet h (q1c (run _ _ _ hn (by omega) (by omega))) (by simpa using RelV.hsnil (es:=es) (off:=off) hm)
    | @hs _ _ _ _ cap ad hm hc hsp hcap=>
      refine .quiet h (q1c (run _ _ _ hn (by omega) h0)) ?_
      by_cases hcp : cap = p
      · rw [if_pos hcp]
        exact .hs hm (by omega) hsp (fun hne=>by omega)
      · rw [if_neg hcp,Option.map_some]
        obtain ⟨b,o,hi,rfl,hbig⟩:=hcap (by omega)
        rw [q5x]
        refine .hs hm (by omega) rfl fun _=>⟨b,o,hi,?_,?_⟩
        · rw [he,Nat.add_mul,← Nat.add_assoc]
        · rwa [show off + p + (cap - p) = off + cap by omega]
theorem qe3 {ze : Value} {es n i j : Nat} {ds : List DV} (hc : ze.cells.toList.mapM constC = some ds) (hl : ds.length = es) (hi : i < n) {d : DV} (hd : ds[j]? = some d) :
    ∃ c,((Array.range (n * es)).map (ze.cells[· % ze.cells.size]!))[i * es + j]? = some c∧RelD w Z d c∧isCell d = true:=by
  obtain ⟨h1,h2⟩:=q9g (w:=w) (Z:=Z) hc
  obtain ⟨c,hcj,hr,hcell,_⟩:=h2 j d hd
  have hj : j < es:=by have:=q1i hd;omega
  refine ⟨c,?_,hr,hcell⟩
  have hlt:=q9u hi hj
  rw [Array.getElem?_map,Array.getElem?_range]
  simp only [hlt,if_true,Option.map_some]
  have : (i * es + j) % ze.cells.size = j:=by rw [← h1,hl,Nat.mul_comm,Nat.mul_add_mod,Nat.mod_eq_of_lt hj]
  rw [this]
  have h9 : ze.cells[j]! = ze.cells[j]'(q4j hcj):=getElem!_pos ze.cells j (q4j hcj)
  rw [h9]
  exact congrArg some (Array.getElem?_eq_some_iff.1 hcj).2
theorem qkb {t : TypeId} {i : TI} {l c : Operand} {k1 k2 : IntKind} {n m : Int} (h : RelS w Z inj st a Ds) (ht : tiOf P t = some i) (hk : i.kind = .slice) (hl : st.ev l = some (.d (.int k1 n))) (hc : st.ev c = some (.d (.int k2 m)))
    (h0 : 0≤n) (h1 : n≤m) (hr : m * (i.ebytes * 4)≤room) :
    OpRes st (st.new (.dat i.esize (List.replicate n.toNat i.ezero))) (.hs st.nx i.esize 0 n.toNat) w Z inj ((do pure (Next.value (← Instr.makeSlice t (a.eval l) (a.eval c))) : Sem Next).run P w):=by
  obtain ⟨info,d,z,k⟩:=q5l ht
  have hkk:=k.kind
  unfold KindOk at hkk
  simp only [hk] at hkk
  obtain ⟨e,ie,de,ze,rfl,g1,g2,g3,g4,g5,g6,g7,g8,g9,_⟩:=hkk
  have h3:=q24 h hl
  have h4:=q24 h hc
  generalize a.eval l = vl at h3 ⊢
  generalize a.eval c = vc at h4 ⊢
  cases h3 with | d h3=>
  cases h3
  cases h4 with | d h4=>
  cases h4
  have hm : m≤4294967296:=by
    have e1 : (1 : Int)≤(i.ebytes : Int) * 4:=by omega
    have:=Int.mul_le_mul_of_nonneg_left e1 (show (0:Int)≤m by omega)
    unfold room at hr;omega
  have hb : (i.ebytes : Int) * m≤281474976710656:=by
    unfold room at hr
    have : m * ((i.ebytes : Int) * 4) = (i.ebytes : Int) * m * 4:=by rw [← Int.mul_assoc,Int.mul_comm m]
    omega
  have w1 : IntKind.i64.wrap n = n:=wrapI64 (by omega)
  have w2 : IntKind.i64.wrap m = m:=wrapI64 (by omega)
  obtain ⟨N,rfl⟩:=Int.eq_ofNat_of_zero_le h0
  obtain ⟨M,rfl⟩:=Int.eq_ofNat_of_zero_le (show 0≤m by omega)
  simp only [Int.toNat_natCast]
  have hrun:=run_make (P:=P) w t e ie ze k.und g1 g3 k1 k2 (N : Int) (M : Int) h0 h1 (by rw [g8];exact hb) (by omega)
  simp only [Int.toNat_natCast,g6] at hrun
  have hNM : N≤M:=by omega
  refine .new h (q1c hrun) ?_ ?_
  · refine ⟨g7,?_,.inr ⟨w.heap.size,0,_,e,q2u _ _ _,q5p _ _,?_⟩⟩
    · intro j x hx
      rw [List.getElem?_replicate] at hx
      split at hx <;> simp at hx
      rw [← hx];exact g5
    · intro j x j' d hx hd
      rw [List.getElem?_replicate] at hx
      split at hx <;> simp at hx
      rename_i hj
      subst hx
      obtain ⟨c,hc,hr,hcell⟩:=qe3 (w:=w.alloc (.cells (madeCells ze.cells (M * i.esize)) e)) (Z:=Z) g4 g5 (show j < M by omega) hd
      exact ⟨hcell,c,by rw [Nat.zero_add];exact hc,hr⟩
  · refine .hs (by omega) hNM rfl fun _=>⟨w.heap.size,0,q2u _ _ _,by simp,?_⟩
    exact ⟨_,_,_,q5p _ _,by rw [size_madeCells];simp⟩
def ERel (w : World) (Z : Nat→Prop) (inj : Inj) (nx es : Nat) (xs : List (List V)) (C : Array Value) : Prop:=
  C.size = xs.length * es∧(∀ (i : Nat) (x : List V),xs[i]? = some x→x.length = es)∧
    ∀ (i : Nat) (x : List V) (j : Nat) (d : V),xs[i]? = some x→x[j]? = some d→vCell d = true∧∃ c,C[i * es + j]? = some c∧RelV w Z inj nx d c
theorem qir {es : Nat} : ∀ {vs : List (Nat × V)} {l : List (Nat × List V)},elems es vs = some l→l.length = vs.length∧∀ (k i : Nat) (v : V),vs[k]? = some (i,v)→(cellsOf v).length = es∧(cellsOf v).all vCell = true∧l[k]? = some (i,cellsOf v)
  | [],l,h=>by simp [elems] at h;subst h;simp
  | (i,v)::r,l,h=>by
    simp only [elems] at h
    split at h
    · rename_i l' h2
      split at h
      · rename_i hc
        simp at h;subst h
        obtain ⟨h3,h4⟩:=qir h2
        refine ⟨by simp [h3],fun k i' v' hk=>?_⟩
        cases k with
        | zero=>simp at hk;obtain ⟨rfl,rfl⟩:=hk;exact ⟨hc.1,hc.2,by simp⟩
        | succ k=>simp at hk;obtain ⟨a,b,c⟩:=h4 k i' v' hk;exact ⟨a,b,by simpa using c⟩
      · simp at h
    · simp at h
theorem ERel.set {w : World} {nx es : Nat} {xs : List (List V)} {C vs : Array Value} {ys : List V} {i : Nat} (h : ERel w Z inj nx es xs C) (hy : LRel w Z inj nx ys vs) (hyl : ys.length = es) (hyc : ys.all vCell = true) (hi : i < xs.length) :
    ERel w Z inj nx es (xs.set i ys) (Am.splice C.toList (i * es) vs.toList).toArray:=by
  obtain ⟨h1,h2,h3⟩:=h
  have hvs : vs.toList.length = es:=by have:=hy.1;simp;omega
  have hfit : i * es + vs.toList.length≤C.toList.length:=by
    rw [hvs,Array.length_toList,h1]
    have:=Nat.mul_le_mul_right es (show i + 1≤xs.length from hi);rw [Nat.add_mul] at this;omega
  refine ⟨by simp [q68 _ _ _ hfit,h1],?_,?_⟩
  · intro j x hx
    rw [List.getElem?_set] at hx
    by_cases hij : i = j
    · rw [if_pos hij,if_pos (by omega)] at hx
      simp at hx;rw [← hx];exact hyl
    · rw [if_neg hij] at hx;exact h2 j x hx
  · intro j x j' d hx hd
    rw [List.getElem?_set] at hx
    by_cases hij : i = j
    · subst hij
      rw [if_pos rfl,if_pos hi] at hx
      simp at hx;subst hx
      have hj':=q1i hd
      obtain ⟨c,hc⟩:=q43 (xs:=vs) (i:=j') (by have:=hy.1;omega)
      refine ⟨List.all_eq_true.1 hyc _ (List.mem_of_getElem? hd),c,?_,hy.2 _ _ _ hd hc⟩
      rw [List.getElem?_toArray,q50 _ _ _ _ hfit,if_pos (by rw [hvs];omega),show i * es + j' - i * es = j' by omega]
      simpa using hc
    · rw [if_neg hij] at hx
      obtain ⟨h4,c,h5,h6⟩:=h3 j x j' d hx hd
      refine ⟨h4,c,?_,h6⟩
      rw [List.getElem?_toArray,q50 _ _ _ _ hfit,if_neg ?_]
      · simpa using h5
      · rw [hvs]
        intro hc
        exact hij ((qmt (by have:=q1i hd;have:=h2 j x hx;omega)).1 hc).symm
theorem qis {w : World} {nx es : Nat} : ∀ (vs : List (Nat × V)) (xs : List (Nat × Value)) (l : List (Nat × List V)) (cs cs' : List (List V)) (C : Array Value),
    vs.length = xs.length→(∀ (k : Nat) (i : Nat) (v : V),vs[k]? = some (i,v)→∃ x,xs[k]? = some (i,x)∧RelV w Z inj nx v x)→
    l.length = vs.length→(∀ (k : Nat) (i : Nat) (v : V),vs[k]? = some (i,v)→(cellsOf v).length = es∧(cellsOf v).all vCell = true∧l[k]? = some (i,cellsOf v))→
    ERel w Z inj nx es cs C→fillL cs l = some cs'→∃ C',Instr.fill (fun i=>some (i * es,es)) C xs = some C'∧ERel w Z inj nx es cs' C'∧cs'.length = cs.length
  | [],xs,l,cs,cs',C,h1,_,h3,_,h5,h6=>by
    have : xs = []:=by cases xs <;> simp_all
    have : l = []:=by cases l <;> simp_all
    subst_vars
    simp [fillL] at h6;subst h6
    exact ⟨C,by simp [Instr.fill],h5,rfl⟩
  | (i,v)::vs,xs,l,cs,cs',C,h1,h2,h3,h4,h5,h6=>by
    match xs,l,h1,h3 with
    | (i',x)::xs,(o',ys)::l,h1,h3=>
      obtain ⟨x',hx',hr⟩:=h2 0 i v rfl
      simp at hx';obtain ⟨rfl,rfl⟩:=hx'
      obtain ⟨hl,hc,hl0⟩:=h4 0 i' v rfl
      simp at hl0;obtain ⟨rfl,rfl⟩:=hl0
      obtain ⟨q1,q2,q3⟩:=qbq hr hc
      simp only [fillL] at h6
      split at h6
      · rename_i hfit
        obtain ⟨C',hC',hrel,hlen⟩:=qis vs xs l (cs.set o' (cellsOf v)) cs' (splice C.toList (o' * es) x.cells.toList).toArray (by simpa using h1)
          (fun k i v hk=>by obtain ⟨x,hx⟩:=h2 (k + 1) i v (by simpa using hk);exact ⟨x,by simpa using hx⟩) (by simpa using h3)
          (fun k i v hk=>by obtain ⟨a,b,hx⟩:=h4 (k + 1) i v (by simpa using hk);exact ⟨a,b,by simpa using hx⟩)
          (h5.set ⟨q1,q2⟩ hl hc hfit) h6
        refine ⟨C',?_,hrel,by simpa using hlen⟩
        have hsz : o' * es + es≤C.size:=by
          rw [h5.1]
          have:=Nat.mul_le_mul_right es (show o' + 1≤cs.length from hfit);rw [Nat.add_mul] at this;omega
        have hxs : x.cells.size = es:=by omega
        simp only [Instr.fill,hxs]
        have : ¬ ((decide (es≠es) || decide (o' * es + es > C.size)) = true):=by simp;omega
        rw [if_neg (by simpa using this)]
        rw [qfv x.cells C (o' * es) (by omega)]
        exact hC'
      · simp at h6
theorem qji {t : TypeId} {i : TI} {len : Nat} {ps : Array (Nat × Operand)} {vs : List (Nat × V)} {l : List (Nat × List V)} {xs : List (List V)} (h : RelS w Z inj st a Ds) (ht : tiOf P t = some i) (hv : evParts st.ev ps.toList = some vs)
    (hl : elems i.esize vs = some l) (hk : i.kind = .slice) (hroom : len * i.esize≤16777216) (hf : fillL (List.replicate len (i.ezero.map .d)) l = some xs) :
    OpRes st (st.new (mkBlk i.esize xs)) (.hs st.nx i.esize 0 len) w Z inj ((do pure (Next.value (← Instr.buildSlice t len (ps.map fun (i,x)=>(i,a.eval x)))) : Sem Next).run P w):=by
  obtain ⟨info,d,z,k⟩:=q5l ht
  have hkk:=k.kind
  unfold KindOk at hkk
  simp only [hk] at hkk
  obtain ⟨e,ie,de,ze,rfl,g1,g2,g3,g4,g5,g6,g7,g8,g9,_⟩:=hkk
  obtain ⟨p1,p2⟩:=qfw h hv
  obtain ⟨q1,q2⟩:=qir hl
  have hxs : ∀ (k i : Nat) (v : V),vs[k]? = some (i,v)→∃ x,(ps.toList.map fun (x : Nat × Operand)=>(x.1,a.eval x.2))[k]? = some (i,x)∧RelV w Z inj st.nx v x:=by
    intro k i v hk
    obtain ⟨o,ho,hr⟩:=p2 k i v hk
    exact ⟨a.eval o,by simp only [List.getElem?_map,ho];rfl,hr⟩
  have hz0 : ERel w Z inj st.nx i.esize (List.replicate len (i.ezero.map .d)) ((Array.range (len * i.esize)).map (ze.cells[· % ze.cells.size]!)):=by
    refine ⟨by simp,?_,?_⟩
    · intro j x hx
      rw [List.getElem?_replicate] at hx
      split at hx <;> simp at hx
      rw [← hx];simpa using g5
    · intro j x j' d hx hd
      rw [List.getElem?_replicate] at hx
      split at hx <;> simp at hx
      rename_i hj
      subst hx
      simp only [List.getElem?_map,Option.map_eq_some_iff] at hd
      obtain ⟨d',hd',rfl⟩:=hd
      obtain ⟨c,hc,hr,hcell⟩:=qe3 (w:=w) (Z:=Z) g4 g5 hj hd'
      exact ⟨hcell,c,hc,.d hr⟩
  obtain ⟨C',hC,hr,hlen⟩:=qis vs (ps.toList.map fun (x : Nat × Operand)=>(x.1,a.eval x.2)) l _ xs _ (by simp [p1]) hxs q1 q2 hz0 hf
  have hC' : Instr.fill (fun j=>some (j * i.esize,i.esize)) ((Array.range (len * i.esize)).map (ze.cells[· % ze.cells.size]!)) (ps.map fun (x : Nat × Operand)=>(x.1,a.eval x.2)).toList = some C':=by simpa using hC
  have hrun : (Instr.buildSlice t len (ps.map fun (i,x)=>(i,a.eval x))).run P w = .ok (.slice (some ⟨w.heap.size,0,none⟩) len len) (w.alloc (.cells C' e)):=by
    have hn : ¬ (len * i.esize > 2 ^ 24):=by omega
    have hrow : (do let x ← newRow e C';pure (Value.slice (some x) len len) : Sem Value).run P w = .ok (.slice (some ⟨w.heap.size,0,none⟩) len len) (w.alloc (.cells C' e)):=by simp [newRow]
    by_cases hz : len * i.esize = 0
    · simp only [Instr.buildSlice,Sem.run_bind,run_underlying k.und,Result.andThen_ok,q47 g1,g6]
      rw [hz] at hC' ⊢
      rw [if_neg (by omega),if_pos rfl]
      simp only [Sem.run_bind,Sem.run_pure,Result.andThen_ok]
      have e0 : Array.map (fun x=>(#[] : Array Value)[x % (#[] : Array Value).size]!) (Array.range 0) = Array.map (fun x=>ze.cells[x % ze.cells.size]!) (Array.range 0):=by simp
      rw [e0]
      simp only [hC']
      exact hrow
    · simp only [Instr.buildSlice,Sem.run_bind,run_underlying k.und,Result.andThen_ok,q47 g1,g6]
      rw [if_neg hn,if_neg hz]
      have hzv : (zeroValue e).run P w = .ok ze w:=by simp [zeroValue,typeInfo,g1,g3]
      simp only [Sem.run_bind,hzv,Sem.run_pure,Result.andThen_ok]
      simp only [hC']
      exact hrow
  have hlx : xs.length = len:=by simpa using hlen
  refine .new h (q1c hrun) ?_ ?_
  · refine qmo g7 (q2u _ _ _) (q5p _ _) hr.2.1 ?_
    intro j x j' d hx hd
    obtain ⟨h1,c,h2,h3⟩:=hr.2.2 j x j' d hx hd
    exact ⟨h1,c,h2,qh5 h _ h3⟩
  · refine .hs (by omega) (Nat.le_refl _) rfl fun _=>⟨w.heap.size,0,q2u _ _ _,by simp,?_⟩
    exact ⟨_,_,_,q5p _ _,by rw [hr.1,hlx];simp⟩
end
end Go.Am
namespace Go.Am
open Go
variable {P : Program} {T : Tab}
def RowV (w : World) (Z : Nat→Prop) (inj : Inj) (nx : Nat) (arr : Array Value) (o es : Nat) (xs : List (List V)) : Prop:=
  ∀ (i : Nat) (x : List V) (j : Nat) (d : V),xs[i]? = some x→x[j]? = some d→vCell d = true∧∃ c,arr[o + (i * es + j)]? = some c∧RelV w Z inj nx d c
section
variable {w : World} {Z : Nat→Prop} {inj : Inj} {nx : Nat}
theorem RowV.mono {w' : World} {inj' : Inj} {nx' : Nat} {arr : Array Value} {o es : Nat} {xs : List (List V)} (h : RowV w Z inj nx arr o es xs) (hm : ∀ v x,RelV w Z inj nx v x→RelV w' Z inj' nx' v x) : RowV w' Z inj' nx' arr o es xs:=
  fun i x j d hx hd=>let ⟨h1,c,h2,h3⟩:=h i x j d hx hd;⟨h1,c,h2,hm _ _ h3⟩
def rowsOf : Blk→Option (Nat × List (List V))
  | .dat es xs=>some (es,xs.map (·.map .d))
  | .cel es xs=>some (es,xs)
  | _=>none
theorem q95 {n : Nat} {b : Blk} {es : Nat} {xs : List (List V)} (h : RelB w Z inj nx n b) (hr : rowsOf b = some (es,xs)) :
    es≠0∧(∀ (i : Nat) (x : List V),xs[i]? = some x→x.length = es)∧((xs = []∧inj n = none)∨∃ b o arr ty,inj n = some (b,o)∧w.heap[b]? = some (.cells arr ty (0,0))∧RowV w Z inj nx arr o es xs):=by
  cases b <;> simp only [rowsOf,reduceCtorEq,Option.some.injEq,Prod.mk.injEq] at hr
  · obtain ⟨rfl,rfl⟩:=hr
    obtain ⟨h1,h2,h3⟩:=h
    refine ⟨h1,?_,?_⟩
    · intro i x hx
      simp only [List.getElem?_map,Option.map_eq_some_iff] at hx
      obtain ⟨y,hy,rfl⟩:=hx
      simpa using h2 i y hy
    · rcases h3 with ⟨h3,h4⟩ | ⟨b,o,arr,ty,h3,h4,h5⟩
      · exact .inl ⟨by simp [h3],h4⟩
      · refine .inr ⟨b,o,arr,ty,h3,h4,fun i x j d hx hd=>?_⟩
        simp only [List.getElem?_map,Option.map_eq_some_iff] at hx
        obtain ⟨y,hy,rfl⟩:=hx
        simp only [List.getElem?_map,Option.map_eq_some_iff] at hd
        obtain ⟨d',hd',rfl⟩:=hd
        obtain ⟨h6,c,h7,h8⟩:=h5 i y j d' hy hd'
        exact ⟨h6,c,h7,.d h8⟩
  · obtain ⟨rfl,rfl⟩:=hr
    obtain ⟨h1,h2,h3⟩:=h
    exact ⟨h1,h2,h3⟩
theorem q6x {n : Nat} {b : Blk} {es : Nat} {xs : List (List V)} (hr : rowsOf b = some (es,xs)) (he : es≠0) (hl : ∀ (i : Nat) (x : List V),xs[i]? = some x→x.length = es)
    (h : (xs = []∧inj n = none)∨∃ b o arr ty,inj n = some (b,o)∧w.heap[b]? = some (.cells arr ty (0,0))∧RowV w Z inj nx arr o es xs) : RelB w Z inj nx n b:=by
  cases b <;> simp only [rowsOf,reduceCtorEq,Option.some.injEq,Prod.mk.injEq] at hr
  · obtain ⟨rfl,rfl⟩:=hr
    rename_i xs
    refine ⟨he,fun i x hx=>?_,?_⟩
    · have:=hl i (x.map .d) (by simp [hx]);simpa using this
    · rcases h with ⟨h3,h4⟩ | ⟨b,o,arr,ty,h3,h4,h5⟩
      · exact .inl ⟨by simpa using h3,h4⟩
      · refine .inr ⟨b,o,arr,ty,h3,h4,fun i x j d hx hd=>?_⟩
        obtain ⟨h6,c,h7,h8⟩:=h5 i (x.map .d) j (.d d) (by simp [hx]) (by simp [hd])
        refine ⟨h6,c,h7,?_⟩
        cases h8 with | d h=>exact h
  · obtain ⟨rfl,rfl⟩:=hr
    exact ⟨he,hl,h⟩
theorem RowV.set {arr vs : Array Value} {o es e j : Nat} {xs : List (List V)} {cs ys : List V} (h : RowV w Z inj nx arr o es xs) (hl : ∀ (i : Nat) (x : List V),xs[i]? = some x→x.length = es) (he : xs[e]? = some cs) (hy : LRel w Z inj nx ys vs) (hyc : ys.all vCell = true)
    (hj : j + ys.length≤cs.length) (hfit : o + (e * es + j) + vs.size≤arr.size) : RowV w Z inj nx (splice arr.toList (o + (e * es + j)) vs.toList).toArray o es (xs.set e (splice cs j ys)):=by
  have hvl : vs.toList.length = ys.length:=by have:=hy.1;simp;omega
  have hfit' : o + (e * es + j) + vs.toList.length≤arr.toList.length:=by simpa using hfit
  have hcs:=hl e cs he
  intro i x j' d hx hd
  rw [List.getElem?_toArray,q50 _ _ _ _ hfit']
  rw [List.getElem?_set] at hx
  by_cases hei : e = i
  · subst hei
    rw [if_pos rfl,if_pos (q1i he)] at hx
    simp at hx;subst hx
    rw [q50 _ _ _ _ hj] at hd
    by_cases hjj : j≤j'∧j' < j + ys.length
    · rw [if_pos hjj] at hd
      obtain ⟨c,hc⟩:=q43 (xs:=vs) (i:=j' - j) (by have:=hy.1;omega)
      rw [if_pos (by omega),show o + (e * es + j') - (o + (e * es + j)) = j' - j by omega]
      exact ⟨List.all_eq_true.1 hyc _ (List.mem_of_getElem? hd),c,by simpa using hc,hy.2 _ _ _ hd hc⟩
    · rw [if_neg hjj] at hd
      rw [if_neg (by omega)]
      obtain ⟨h1,c,h2,h3⟩:=h e cs j' d he hd
      exact ⟨h1,c,by simpa using h2,h3⟩
  · rw [if_neg hei] at hx
    obtain ⟨h1,c,h2,h3⟩:=h i x j' d hx hd
    refine ⟨h1,c,?_,h3⟩
    have hj' : j' < es:=by have:=q1i hd;have:=hl i x hx;omega
    rw [if_neg ?_]
    · simpa using h2
    · intro hc
      exact hei ((qmt (i:=e) hj').1 (by omega)).symm
end
section
variable {w : World} {Z : Nat→Prop} {inj : Inj} {st : AS} {a : Act} {Ds : List Nat}
theorem qkc {t : TypeId} {info : TypeInfo} {x : Value} {b o : Nat} {arr : Array Value} {ty : TypeId} (hi : P.info? t = some info) (hs : x.cells.size = info.size) (h1 : ∀ c∈x.cells.toList,c.oneCell' = true)
    (hb : w.heap[b]? = some (.cells arr ty (0,0))) (hfit : o + x.cells.size≤arr.size) :
    (Instr.storeAt t (.pointer (some ⟨b,o,none⟩)) x).run P w = .ok () (w.setRow b (splice arr.toList o x.cells.toList).toArray):=by
  have:=run_storeCells_at P b o ty x.cells.toList 0 arr w hb (by simpa using hfit) h1
  simp only [Nat.add_zero] at this
  simp only [Instr.storeAt,Instr.sureAddr,storeVar,Sem.run_bind,Sem.run_pure,Result.andThen_ok,q47 hi,Sem.run_ite]
  rw [if_neg (by omega)]
  exact this
theorem qps {t : TypeId} {i : TI} {p x : Operand} {pv v : V} {st1 : AS} (h : RelS w Z inj st a Ds) (ht : tiOf P t = some i) (hp : st.ev p = some pv) (hx : st.ev x = some v) (hs : storeP st i pv v = some st1) :
    OpRes st st1 .dead w Z inj ((do Instr.storeAt t (a.eval p) (a.eval x);pure .skip : Sem Next).run P w):=by
  obtain ⟨info,d,z,k⟩:=q5l ht
  have hpr:=q24 h hp
  have hxr:=q24 h hx
  generalize a.eval p = vp at hpr ⊢
  generalize a.eval x = vx at hxr ⊢
  cases pv <;> simp only [storeP,reduceCtorEq] at hs
  rename_i n k0 e j
  split at hs <;> try simp at hs
  rename_i hcond
  have hc1 : (cellsOf v).length = i.size:=by
    apply Classical.byContradiction;intro hc;exact hcond (.inl hc)
  have hc2 : (cellsOf v).all vCell = true:=by
    cases hc : (cellsOf v).all vCell with
    | true=>rfl
    | false=>exact absurd (.inr hc) hcond
  cases hpr with | @ref _ _ _ _ b o hn hi=>
  have key : ∀ (b0 : Blk) (es : Nat) (xs : List (List V)) (cs : List V) (b1 : Blk),st.blk n = some b0→rowsOf b0 = some (es,xs)→es = k0→xs[e]? = some cs→j + i.size≤cs.length→rowsOf b1 = some (es,xs.set e (splice cs j (cellsOf v)))→st1 = st.setBlk n b1→
      OpRes st st1 .dead w Z inj ((do Instr.storeAt t (.pointer (some ⟨b,o + (e * k0 + j),none⟩)) vx;pure .skip : Sem Next).run P w):=by
    rintro b0 es xs cs b1 hb0 hr0 rfl hcs hfit hr1 rfl
    obtain ⟨g1,g2,g3⟩:=q95 (h.heap.blk n b0 hb0).2 hr0
    rcases g3 with ⟨g3,_⟩ | ⟨b',o',arr,ty,g3,g4,g5⟩
    · subst g3;simp at hcs
    · rw [hi] at g3;cases g3
      obtain ⟨c1,c2,c3⟩:=qbq hxr hc2
      have hlive : live b0 = true:=by cases b0 <;> simp_all [rowsOf,live]
      have hcl:=g2 e cs hcs
      have hes : 0 < es:=by omega
      have hlast : o + (e * es + (es - 1)) < arr.size:=by
        obtain ⟨d0,hd0⟩:=q67 (xs:=cs) (i:=es - 1) (by omega)
        obtain ⟨_,c,hc,_⟩:=g5 e cs (es - 1) d0 hcs hd0
        exact q4j hc
      have hfitA : o + (e * es + j) + vx.cells.size≤arr.size:=by omega
      have hrun:=qkc (P:=P) (w:=w) k.inf (x:=vx) (by rw [k.size];omega) c3 g4 hfitA
      have hsz : (splice arr.toList (o + (e * es + j)) vx.cells.toList).toArray.size = arr.size:=by
        simp only [List.size_toArray]
        rw [q68 _ _ _ (by simpa using hfitA)];simp
      have hz : ∀ b1,Z b1→(w.setRow b (splice arr.toList (o + (e * es + j)) vx.cells.toList).toArray).heap[b1]? = w.heap[b1]?:=fun b1 hz1=>
        setRow_other w b b1 _ (fun e=>h.heap.out n b0 _ hb0 hlive hi (by rw [← e];exact hz1))
      have hkb:=q54 w b arr _ ty (0,0) g4 hsz
      refine ⟨undef,_,inj,.inr ⟨by simp [hrun],rfl⟩,.dead _,?_,Ext.set h.heap hb0 hlive hi g4 hsz,rfl,Nat.le_refl _⟩
      refine h.heap.set hb0 hlive hi g4 hsz (q6x hr1 g1 ?_ (.inr ⟨b,o,_,ty,hi,setRow_heap w b _ _ _ _ g4,?_⟩))
      · intro i' x' hx'
        rw [List.getElem?_set] at hx'
        by_cases hei : e = i'
        · rw [if_pos hei,if_pos (by have:=q1i hcs;omega)] at hx'
          simp at hx';rw [← hx',q68 _ _ _ (by omega)];exact hcl
        · rw [if_neg hei] at hx';exact g2 _ _ hx'
      · exact (g5.set g2 hcs ⟨c1,c2⟩ hc2 (by omega) hfitA).mono fun v x hr=>hr.mono hz (fun _ h=>h) hkb (fun _ _=>rfl) (Nat.le_refl _)
  cases hb : st.blk n with
  | none=>simp [hb] at hs
  | some blk=>
    cases blk with
    | dead=>simp [hb] at hs
    | loop=>simp [hb] at hs
    | dat es xs=>
      simp only [hb] at hs
      split at hs <;> try simp at hs
      rename_i cs he hx1
      have he:=Nat.eq_of_beq_eq_true he
      have hcs : (xs.map (·.map V.d))[e]? = some (cs.map V.d):=by simp [hx1]
      split at hs
      · rename_i ds hds
        simp at hs
        obtain ⟨hfit,hs⟩:=hs
        refine key _ _ _ _ _ hb rfl he.symm hcs (by simpa using hfit) ?_ hs.symm
        simp only [rowsOf,Option.some.injEq,Prod.mk.injEq,true_and]
        rw [q9t hds]
        simp [splice,List.map_set,List.map_take,List.map_drop]
      · simp at hs
        obtain ⟨hfit,hs⟩:=hs
        exact key _ _ _ _ _ hb rfl he.symm hcs (by simpa using hfit) rfl hs.symm
    | cel es xs=>
      simp only [hb] at hs
      split at hs <;> try simp at hs
      rename_i cs he hx1
      have he:=Nat.eq_of_beq_eq_true he
      obtain ⟨hfit,hs⟩:=hs
      exact key _ _ _ _ _ hb rfl he.symm hx1 hfit rfl hs.symm
end
end Go.Am
namespace Go.Am
open Go
variable {P : Program} {T : Tab}
section
variable {w : World} {Z : Nat→Prop} {inj : Inj} {nx : Nat}
def SrcAt (w : World) (ad : Option Addr) (L : List Value) (ys : List (List V)) : Prop:=match ad with
  | some p=>∀ (k : Nat) (u : Value),L[k]? = some u→w.cell? (p.add k) = some u
  | none=>ys = []
theorem qgd {b o es : Nat} {xs : List (List V)} (hes : es≠0) (hl : ∀ (i : Nat) (x : List V),xs[i]? = some x→x.length = es)
    (h : ∀ (i : Nat) (x : List V) (j : Nat) (d : V),xs[i]? = some x→x[j]? = some d→vCell d = true∧∃ c,w.cell? ⟨b,o + (i * es + j),none⟩ = some c∧RelV w Z inj nx d c) :
    ∃ L : List Value,L.length = xs.length * es∧(∀ (k : Nat) (u : Value),L[k]? = some u→w.cell? ⟨b,o + k,none⟩ = some u)∧ERel w Z inj nx es xs L.toArray:=by
  have hget : ∀ k,k < xs.length * es→∃ i x j d c,xs[i]? = some x∧x[j]? = some d∧k = i * es + j∧w.cell? ⟨b,o + k,none⟩ = some c∧RelV w Z inj nx d c:=by
    intro k hk
    have h1 : k / es < xs.length:=Nat.div_lt_of_lt_mul (by rwa [Nat.mul_comm])
    have h2 : k % es < es:=Nat.mod_lt _ (by omega)
    obtain ⟨x,hx⟩:=q67 h1
    obtain ⟨d,hd⟩:=q67 (xs:=x) (i:=k % es) (by rw [hl _ _ hx];exact h2)
    obtain ⟨_,c,hc,hr⟩:=h _ _ _ _ hx hd
    have hk : k = k / es * es + k % es:=by rw [Nat.mul_comm];exact (Nat.div_add_mod k es).symm
    exact ⟨_,_,_,_,c,hx,hd,hk,by rw [hk];exact hc,hr⟩
  refine ⟨(List.range (xs.length * es)).map fun k=>(w.cell? ⟨b,o + k,none⟩).getD undef,by simp,?_,?_⟩
  · intro k u hu
    have hk : k < xs.length * es:=by have:=q1i hu;simpa using this
    obtain ⟨_,_,_,_,c,_,_,_,hc,_⟩:=hget k hk
    simp [hk,hc] at hu;rw [hc,hu]
  · refine ⟨by simp,hl,fun i x j d hx hd=>?_⟩
    obtain ⟨h1,c,h2,h3⟩:=h i x j d hx hd
    have hk:=q9u (q1i hx) (show j < es by have:=q1i hd;have:=hl i x hx;omega)
    exact ⟨h1,c,by simp [hk,h2],h3⟩
theorem ERel.append {es : Nat} {xs ys : List (List V)} {A B : Array Value} (h : ERel w Z inj nx es xs A) (k : ERel w Z inj nx es ys B) : ERel w Z inj nx es (xs ++ ys) (A ++ B):=by
  obtain ⟨a1,a2,a3⟩:=h
  obtain ⟨b1,b2,b3⟩:=k
  refine ⟨by simp [a1,b1,Nat.add_mul],?_,?_⟩
  · intro i x hx
    rw [List.getElem?_append] at hx
    split at hx
    · exact a2 _ _ hx
    · exact b2 _ _ hx
  · intro i x j d hx hd
    rw [List.getElem?_append] at hx
    split at hx
    · obtain ⟨h1,c,h2,h3⟩:=a3 i x j d hx hd
      exact ⟨h1,c,by rw [Array.getElem?_append_left (q4j h2)];exact h2,h3⟩
    · rename_i hi
      obtain ⟨h1,c,h2,h3⟩:=b3 _ x j d hx hd
      refine ⟨h1,c,?_,h3⟩
      have e : i * es + j = A.size + ((i - xs.length) * es + j):=by
        rw [a1,← Nat.add_assoc,← Nat.add_mul];congr 2;omega
      rw [e,Array.getElem?_append_right (by omega),show A.size + ((i - xs.length) * es + j) - A.size = (i - xs.length) * es + j by omega]
      exact h2
theorem ERel.row {es : Nat} {xs : List (List V)} {A B : Array Value} (h : ERel w Z inj nx es xs A) : RowV w Z inj nx (A ++ B) 0 es xs:=by
  intro i x j d hx hd
  obtain ⟨h1,c,h2,h3⟩:=h.2.2 i x j d hx hd
  exact ⟨h1,c,by rw [Nat.zero_add,Array.getElem?_append_left (q4j h2)];exact h2,h3⟩
theorem ERel.one {es : Nat} {xs : List (List V)} {L : List Value} (hes : es≠0) (h : ERel w Z inj nx es xs L.toArray) : ∀ u∈L,u.oneCell' = true:=by
  intro u hu
  obtain ⟨k,hk⟩:=List.mem_iff_getElem?.1 hu
  have hlt:=q1i hk
  have hsz : L.length = xs.length * es:=by simpa using h.1
  have h1 : k / es < xs.length:=Nat.div_lt_of_lt_mul (by rw [Nat.mul_comm];omega)
  obtain ⟨x,hx⟩:=q67 h1
  obtain ⟨d,hd⟩:=q67 (xs:=x) (i:=k % es) (by rw [h.2.1 _ _ hx];exact Nat.mod_lt _ (by omega))
  obtain ⟨h2,c,h3,h4⟩:=h.2.2 _ _ _ _ hx hd
  have e : k / es * es + k % es = k:=by rw [Nat.mul_comm];exact Nat.div_add_mod k es
  rw [e] at h3
  simp [hk] at h3;subst h3
  exact q9h h4 h2
theorem ERel.mono {w' : World} {inj' : Inj} {nx' es : Nat} {xs : List (List V)} {A : Array Value} (h : ERel w Z inj nx es xs A) (hm : ∀ v x,RelV w Z inj nx v x→RelV w' Z inj' nx' v x) : ERel w' Z inj' nx' es xs A:=
  ⟨h.1,h.2.1,fun i x j d hx hd=>let ⟨h1,c,h2,h3⟩:=h.2.2 i x j d hx hd;⟨h1,c,h2,hm _ _ h3⟩⟩
theorem ERel.nil {es : Nat} : ERel w Z inj nx es [] #[]:=⟨by simp,by simp,by simp⟩
theorem RowV.cells {arr : Array Value} {ty : TypeId} {b o es off len : Nat} {xs : List (List V)} (h : RowV w Z inj nx arr o es xs) (hb : w.heap[b]? = some (.cells arr ty (0,0))) :
    ∀ (i : Nat) (x : List V) (j : Nat) (d : V),((xs.drop off).take len)[i]? = some x→x[j]? = some d→vCell d = true∧∃ c,w.cell? ⟨b,o + off * es + (i * es + j),none⟩ = some c∧RelV w Z inj nx d c:=by
  intro i x j d hx hd
  rw [List.getElem?_take] at hx
  split at hx
  · rw [List.getElem?_drop] at hx
    obtain ⟨h1,c,h2,h3⟩:=h _ x j d hx hd
    refine ⟨h1,c,?_,h3⟩
    simp only [World.cell?,hb]
    rw [← h2]
    simp only [Option.isSome_none,Bool.false_eq_true,if_false]
    rw [Nat.add_mul];congr 1;omega
  · simp at hx
theorem qcu {es off len : Nat} {xs : List (List V)} (hl : ∀ (i : Nat) (x : List V),xs[i]? = some x→x.length = es) : ∀ (i : Nat) (x : List V),((xs.drop off).take len)[i]? = some x→x.length = es:=by
  intro i x hx
  rw [List.getElem?_take] at hx
  split at hx
  · rw [List.getElem?_drop] at hx;exact hl _ _ hx
  · simp at hx
end
section
variable {w : World} {Z : Nat→Prop} {inj : Inj} {st : AS} {a : Act} {Ds : List Nat}
theorem qb5 {x : V} {ys : List (List DV)} (h : contsD st x = some ys) : conts st x = some (ys.map (·.map .d)):=by
  unfold contsD at h
  split at h
  · simp at h;subst h;rfl
  · simp at h;subst h;rfl
  · split at h <;> try simp at h
    rename_i hb
    obtain ⟨h1,rfl⟩:=h
    simp [conts,hb,h1]
  · simp at h
theorem qau {x : V} {xv : Value} {es : Nat} {ys : List (List V)} (h : RelS w Z inj st a Ds) (hx : RelV w Z inj st.nx x xv) (hc : conts st x = some ys) (hf : esFit es x = true) (hes : es≠0) :
    ∃ (ad : Option Addr) (cap : Nat) (L : List Value),xv = .slice ad ys.length cap∧L.length = ys.length * es∧ERel w Z inj st.nx es ys L.toArray∧SrcAt w ad L ys:=by
  unfold conts at hc
  split at hc
  · simp at hc;subst hc
    cases hx with | d hx=>
    cases hx
    exact ⟨none,0,[],rfl,by simp,.nil,(rfl : SrcAt w none [] [])⟩
  · rename_i es' xs
    simp at hc;subst hc
    have he:=Nat.eq_of_beq_eq_true hf
    subst he
    cases hx with | d hx=>
    cases hx with
    | slnil=>exact ⟨none,0,[],rfl,by simp,.nil,(rfl : SrcAt w none [] [])⟩
    | slemp _ ad=>exact ⟨some ad,0,[],rfl,by simp,.nil,fun k u hu=>by simp at hu⟩
    | @sl _ _ b o cap h1 h2 h3 h4 h5=>
      obtain ⟨L,l1,l2,l3⟩:=qgd (w:=w) (Z:=Z) (inj:=inj) (nx:=st.nx) (b:=b) (o:=o) (xs:=xs.map (·.map V.d)) hes
        (fun i x hx=>by simp only [List.getElem?_map,Option.map_eq_some_iff] at hx;obtain ⟨y,hy,rfl⟩:=hx;simpa using h3 i y hy)
        (fun i x j d hx hd=>by
          simp only [List.getElem?_map,Option.map_eq_some_iff] at hx;obtain ⟨y,hy,rfl⟩:=hx
          simp only [List.getElem?_map,Option.map_eq_some_iff] at hd;obtain ⟨d',hd',rfl⟩:=hd
          obtain ⟨g1,c,g2⟩:=h4 i y j d' hy hd'
          exact ⟨g1,c,g2,.d (h5 i y j d' c hy hd' g2)⟩)
      exact ⟨some ⟨b,o,none⟩,cap,L,by simp,l1,l3,fun k u hu=>by rw [q5x];exact l2 k u hu⟩
  · rename_i n es' off len
    have he:=Nat.eq_of_beq_eq_true hf
    subst he
    have key : ∀ (b0 : Blk) (xs : List (List V)),st.blk n = some b0→rowsOf b0 = some (es',xs)→off + len≤xs.length→ys = (xs.drop off).take len→
        ∃ (ad : Option Addr) (cap : Nat) (L : List Value),xv = .slice ad ys.length cap∧L.length = ys.length * es'∧ERel w Z inj st.nx es' ys L.toArray∧SrcAt w ad L ys:=by
      rintro b0 xs hb hr hle rfl
      have hlen : ((xs.drop off).take len).length = len:=by simp;omega
      obtain ⟨g1,g2,g3⟩:=q95 (h.heap.blk n b0 hb).2 hr
      cases hx with
      | hsnil=>
        have : (xs.drop off).take 0 = []:=by simp
        rw [this]
        exact ⟨none,0,[],rfl,by simp,.nil,(rfl : SrcAt w none [] [])⟩
      | @hs _ _ _ _ cap ad hn hc _ hcap=>
        by_cases h0 : len = 0
        · subst h0
          have : (xs.drop off).take 0 = []:=by simp
          rw [this]
          exact ⟨some ad,cap,[],rfl,by simp,.nil,fun k u hu=>by simp at hu⟩
        · obtain ⟨b,o,hi,rfl,hbig⟩:=hcap (by omega)
          rcases g3 with ⟨g3,g4⟩ | ⟨b',o',arr,ty,g3,g4,g5⟩
          · rw [hi] at g4;cases g4
          · rw [hi] at g3;cases g3
            obtain ⟨L,l1,l2,l3⟩:=qgd (w:=w) (Z:=Z) (inj:=inj) (nx:=st.nx) (b:=b) (o:=o + off * es') (xs:=(xs.drop off).take len) hes (qcu g2) (g5.cells g4)
            exact ⟨some ⟨b,o + off * es',none⟩,cap,L,by rw [hlen],l1,l3,fun k u hu=>by rw [q5x];exact l2 k u hu⟩
    split at hc
    · rename_i k xs hb
      split at hc <;> try simp at hc
      rename_i h1
      obtain ⟨h1,rfl⟩:=h1
      subst hc
      refine key _ (xs.map (·.map V.d)) hb rfl (by simpa using h1) (by simp)
    · rename_i k xs hb
      split at hc <;> try simp at hc
      rename_i h1
      obtain ⟨h1,rfl⟩:=h1
      subst hc
      exact key _ xs hb rfl h1 rfl
    · simp at hc
  · simp at hc
theorem qe4 {es n : Nat} {tx e' : TypeId} {ad : Option Addr} {cap : Nat} {ys : List (List V)} {L : List Value} (hes : es≠0) (htx : P.underlying tx = some (.slice e')) (hn : n = ys.length) (hl : L.length = ys.length * es)
    (hr : ERel w Z inj st.nx es ys L.toArray) (hc : SrcAt w ad L ys) : Src P es tx (.slice ad ys.length cap) n L w:=by
  subst hn
  refine ⟨.inl ⟨e',htx⟩,fun w'=>by simp [Builtin.lenOf],?_,?_,hl,hr.one hes⟩
  · cases ad with
    | none=>subst hc;simp at hl;subst hl;simp [Builtin.firstCells]
    | some p=>
      have:=run_loadCells_list (P:=P) w p L hc
      rw [hl] at this
      simpa [Builtin.firstCells] using this
  · cases ad with
    | none=>subst hc;simp at hl;subst hl;simp [Builtin.firstCells]
    | some p=>
      have:=run_loadCells_list (P:=P) w.drew p L hc
      rw [hl] at this
      simpa [Builtin.firstCells] using this
theorem qcv {t tx ty e : TypeId} {i : TypeInfo} (ht : P.underlying t = some (.slice e)) (hi : P.info? e = some i) {base : Option Addr} {sLen sCap : Nat} {x : Value} {n : Nat} {news : List Value} (hs : Src P i.size tx x n news w) (hroom : sLen + n≤sCap)
    {w' : World} (hst : match base with | some p=>(storeCells (p.add (sLen * i.size)) news).run P w = .ok () w' | none=>w' = w) :
    (Builtin.append_ #[t,tx] ty #[.slice base sLen sCap,x]).run P w = .ok (.slice base (sLen + n) sCap) w':=by
  cases base with
  | none=>subst hst;rcases hs.kind with ⟨e',hk⟩ | hk <;> simp [Builtin.append_,run_underlying ht,run_underlying hk,sizeOf,typeInfo,hi,hs.len,hroom,hs.cells]
  | some p=>rcases hs.kind with ⟨e',hk⟩ | hk <;> simp [Builtin.append_,run_underlying ht,run_underlying hk,sizeOf,typeInfo,hi,hs.len,hroom,hs.cells,hst]
end
end Go.Am
