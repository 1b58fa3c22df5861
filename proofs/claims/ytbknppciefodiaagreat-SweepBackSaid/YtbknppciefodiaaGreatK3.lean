/- Am13 Am14 Am15 Am16 Am16m -/
import Derived.Test.YtbknppciefodiaaGreatK2
import Derived.Deep.AppendSrc
import Derived.Room.Entries
import Derived.RangeFuncRecord
namespace Go.Am
open Go
variable {P : Program} {T : Tab}
def RowV (w : World) (Z : Nat→Prop) (inj : Inj) (nx : Nat) (arr : Array Value) (o es : Nat) (xs : List (List V)) : Prop:=
  ∀ (i : Nat) (x : List V) (j : Nat) (d : V),xs[i]? = some x→x[j]? = some d→Kk d = true∧∃ c,arr[o + (i * es + j)]? = some c∧RelV w Z inj nx d c
section
variable {w : World} {Z : Nat→Prop} {inj : Inj} {nx : Nat}
theorem RowV.mono {w' : World} {inj' : Inj} {nx' : Nat} {arr : Array Value} {o es : Nat} {xs : List (List V)} (h : RowV w Z inj nx arr o es xs) (b : ∀ v x,RelV w Z inj nx v x→RelV w' Z inj' nx' v x) : RowV w' Z inj' nx' arr o es xs:=
  fun i x j d a hd=>let ⟨h1,c,h2,h3⟩:=h i x j d a hd;⟨h1,c,h2,b _ _ h3⟩
def rowsOf : Blk→Option (Nat × List (List V))
  | .dat es xs=>some (es,xs.map (·.map .d))
  | .cel es xs=>some (es,xs)
  | _=>none
theorem q6o {n : Nat} {b : Blk} {es : Nat} {xs : List (List V)} (h : RelB w Z inj nx n b) (q : rowsOf b = some (es,xs)) :
    es≠0∧(∀ (i : Nat) (x : List V),xs[i]? = some x→x.length = es)∧((xs = []∧inj n = none)∨∃ b o arr ty,inj n = some (b,o)∧w.heap[b]? = some (.cells arr ty (0,0))∧RowV w Z inj nx arr o es xs):=by
  cases b <;> simp only [rowsOf,reduceCtorEq,Option.some.injEq,Prod.mk.injEq] at q
  · obtain ⟨rfl,rfl⟩:=q
    obtain ⟨k,m,a⟩:=h
    refine ⟨k,?_,?_⟩
    · intro i x f
      simp only [List.getElem?_map,Y5] at f
      obtain ⟨y,l,rfl⟩:=f
      simpa using m i y l
    · rcases a with ⟨a,p⟩ | ⟨b,o,arr,ty,a,p,v⟩
      · exact .inl ⟨by simp [a],p⟩
      · refine .inr ⟨b,o,arr,ty,a,p,fun i x j d f hd=>?_⟩
        simp only [List.getElem?_map,Y5] at f
        obtain ⟨y,l,rfl⟩:=f
        simp only [List.getElem?_map,Y5] at hd
        obtain ⟨t,g,rfl⟩:=hd
        obtain ⟨s,c,u,r⟩:=v i y j t l g
        exact ⟨s,c,u,.d r⟩
  · obtain ⟨rfl,rfl⟩:=q
    obtain ⟨k,m,a⟩:=h
    exact ⟨k,m,a⟩
theorem q6n {n : Nat} {b : Blk} {es : Nat} {xs : List (List V)} (g : rowsOf b = some (es,xs)) (l : es≠0) (m : ∀ (i : Nat) (x : List V),xs[i]? = some x→x.length = es)
    (h : (xs = []∧inj n = none)∨∃ b o arr ty,inj n = some (b,o)∧w.heap[b]? = some (.cells arr ty (0,0))∧RowV w Z inj nx arr o es xs) : RelB w Z inj nx n b:=by
  cases b <;> simp only [rowsOf,reduceCtorEq,Option.some.injEq,Prod.mk.injEq] at g
  · obtain ⟨rfl,rfl⟩:=g
    rename_i xs
    refine ⟨l,fun i x f=>?_,?_⟩
    · have:=m i (x.map .d) (by simp [f]);simpa using this
    · rcases h with ⟨a,k⟩ | ⟨b,o,arr,ty,a,k,q⟩
      · exact .inl ⟨by simpa using a,k⟩
      · refine .inr ⟨b,o,arr,ty,a,k,fun i x j d f hd=>?_⟩
        obtain ⟨s,c,r,p⟩:=q i (x.map .d) j (.d d) (by simp [f]) (by simp [hd])
        refine ⟨s,c,r,?_⟩
        cases p with | d h=>exact h
  · obtain ⟨rfl,rfl⟩:=g
    exact ⟨l,m,h⟩
theorem RowV.set {arr k : Array Value} {o es e j : Nat} {xs : List (List V)} {cs ys : List V} (h : RowV w Z inj nx arr o es xs) (y : ∀ (i : Nat) (x : List V),xs[i]? = some x→x.length = es) (q : xs[e]? = some cs) (u : LRel w Z inj nx ys k) (t : ys.all Kk = true)
    (z : j + ys.length≤cs.length) (l : o + (e * es + j) + k.size≤arr.size) : RowV w Z inj nx (splice arr.toList (o + (e * es + j)) k.toList).toArray o es (xs.set e (splice cs j ys)):=by
  have aa : k.toList.length = ys.length:=by have:=u.1;simp;omega
  have f : o + (e * es + j) + k.toList.length≤arr.toList.length:=by simpa using l
  have ab:=y e cs q
  intro i x a d b hd
  rw [List.getElem?_toArray,U5 _ _ _ _ f]
  rw [List.getElem?_set] at b
  by_cases g : e = i
  · subst g
    rw [qq rfl,qq (Ke q)] at b
    simp at b;subst b
    rw [U5 _ _ _ _ z] at hd
    by_cases m : j≤a∧a < j + ys.length
    · rw [qq m] at hd
      obtain ⟨c,r⟩:=Yg (xs:=k) (i:=a - j) (by have:=u.1;omega)
      rw [qq q0,show o + (e * es + a) - (o + (e * es + j)) = a - j by omega]
      exact ⟨List.all_eq_true.1 t _ (List.mem_of_getElem? hd),c,by simpa using r,u.2 _ _ _ hd r⟩
    · rw [qp m] at hd
      rw [qp q0]
      obtain ⟨s,c,v,n⟩:=h e cs a d q hd
      exact ⟨s,c,by simpa using v,n⟩
  · rw [qp g] at b
    obtain ⟨s,c,v,n⟩:=h i x a d b hd
    refine ⟨s,c,?_,n⟩
    have p : a < es:=by have:=Ke hd;have:=y i x b;omega
    rw [qp ?_]
    · simpa using v
    · intro r
      exact g ((qij (i:=e) p).1 q0).symm
end
section
variable {w : World} {Z : Nat→Prop} {inj : Inj} {st : AS} {a : Act} {Ds : List Nat}
theorem q12j {t : TypeId} {a : TypeInfo} {x : Value} {b o : Nat} {arr : Array Value} {ty : TypeId} (hi : P.info? t = some a) (hs : x.cells.size = a.size) (f : ∀ c∈x.cells.toList,c.oneCell' = true)
    (hb : w.heap[b]? = some (.cells arr ty (0,0))) (d : o + x.cells.size≤arr.size) :
    (Instr.storeAt t (.pointer (some ⟨b,o,none⟩)) x).run P w = .ok () (w.setRow b (splice arr.toList o x.cells.toList).toArray):=by
  have:=run_storeCells_at P b o ty x.cells.toList 0 arr w hb (by simpa using d) f
  simp only [Nat.add_zero] at this
  simp only [Instr.storeAt,Instr.sureAddr,storeVar,Sem.run_bind,Sem.run_pure,Result.andThen_ok,Zh hi,Sem.run_ite]
  rw [qp q0]
  exact this
theorem qv3 {t : TypeId} {i : TI} {p x : Operand} {pv v : V} {st1 : AS} (h : RelS w Z inj st a Ds) (ht : tiOf P t = some i) (hp : st.ev p = some pv) (hx : st.ev x = some v) (hs : Jl st i pv v = some st1) :
    Kj st st1 .dead w Z inj ((do Instr.storeAt t (a.eval p) (a.eval x);pure .skip : Sem Next).run P w):=by
  obtain ⟨aw,d,z,k⟩:=Yt ht
  have ag:=Ka h hp
  have ai:=Ka h hx
  generalize a.eval p = vp at ag ⊢
  generalize a.eval x = vx at ai ⊢
  cases pv <;> simp only [Jl,reduceCtorEq] at hs
  rename_i n k0 e j
  split at hs <;> try simp at hs
  rename_i r
  have be : (cellsOf v).length = i.size:=by
    apply Classical.byContradiction;intro hc;exact r (.inl hc)
  have ae : (cellsOf v).all Kk = true:=by
    cases hc : (cellsOf v).all Kk with
    | true=>rfl
    | false=>exact absurd (.inr hc) r
  cases ag with | @ref _ _ _ _ b o hn hi=>
  have key : ∀ (b0 : Blk) (es : Nat) (xs : List (List V)) (cs : List V) (b1 : Blk),st.blk n = some b0→rowsOf b0 = some (es,xs)→es = k0→xs[e]? = some cs→j + i.size≤cs.length→rowsOf b1 = some (es,xs.set e (splice cs j (cellsOf v)))→st1 = st.setBlk n b1→
      Kj st st1 .dead w Z inj ((do Instr.storeAt t (.pointer (some ⟨b,o + (e * k0 + j),none⟩)) vx;pure .skip : Sem Next).run P w):=by
    rintro b0 es xs cs b1 s ar rfl g f am rfl
    obtain ⟨g1,g2,g3⟩:=q6o (h.heap.blk n b0 s).2 ar
    rcases g3 with ⟨g3,_⟩ | ⟨b',o',arr,ty,g3,g4,g5⟩
    · subst g3;simp at g
    · rw [hi] at g3;cases g3
      obtain ⟨c1,c2,c3⟩:=qbs ai ae
      have m : live b0 = true:=by cases b0 <;> simp_all [rowsOf,live]
      have ap:=g2 e cs g
      have ax : 0 < es:=by omega
      have al : o + (e * es + (es - 1)) < arr.size:=by
        obtain ⟨d0,ao⟩:=Zr (xs:=cs) (i:=es - 1) q0
        obtain ⟨_,c,hc,_⟩:=g5 e cs (es - 1) d0 g ao
        exact Zm hc
      have l : o + (e * es + j) + vx.cells.size≤arr.size:=by omega
      have ad:=q12j (P:=P) (w:=w) k.inf (x:=vx) (by rw [k.size];omega) c3 g4 l
      have y : (splice arr.toList (o + (e * es + j)) vx.cells.toList).toArray.size = arr.size:=by
        simp only [List.size_toArray]
        rw [q27 _ _ _ (by simpa using l)];simp
      have hz : ∀ b1,Z b1→(w.setRow b (splice arr.toList (o + (e * es + j)) vx.cells.toList).toArray).heap[b1]? = w.heap[b1]?:=fun b1 au=>
        setRow_other w b b1 _ (fun e=>h.heap.out n b0 _ s m hi (by rw [← e];exact au))
      have ak:=q2u w b arr _ ty (0,0) g4 y
      refine ⟨undef,_,inj,.inr ⟨by simp [ad],rfl⟩,.dead _,?_,Ext.set h.heap s m hi g4 y,rfl,Nat.le_refl _⟩
      refine h.heap.set s m hi g4 y (q6n am g1 ?_ (.inr ⟨b,o,_,ty,hi,setRow_heap w b _ _ _ _ g4,?_⟩))
      · intro i' x' q
        rw [List.getElem?_set] at q
        by_cases af : e = i'
        · rw [qq af,qq (by have:=Ke g;omega)] at q
          simp at q;rw [← q,q27 _ _ _ q0];exact ap
        · rw [qp af] at q;exact g2 _ _ q
      · exact (g5.set g2 g ⟨c1,c2⟩ ae q0 l).mono fun v x hr=>hr.mono hz (fun _ h=>h) ak (fun _ _=>rfl) (Nat.le_refl _)
  cases hb : st.blk n with
  | none=>simp [hb] at hs
  | some blk=>
    cases blk with
    | dead=>simp [hb] at hs
    | loop=>simp [hb] at hs
    | mp=>simp [hb] at hs
    | dat es xs=>
      simp only [hb] at hs
      split at hs <;> try simp at hs
      rename_i cs u ab
      have u:=Nat.eq_of_beq_eq_true u
      have g : (xs.map (·.map V.d))[e]? = some (cs.map V.d):=by simp [ab]
      split at hs
      · rename_i ds aq
        simp at hs
        obtain ⟨f,hs⟩:=hs
        refine key _ _ _ _ _ hb rfl u.symm g (by simpa using f) ?_ hs.symm
        simp only [rowsOf,Option.some.injEq,Prod.mk.injEq,true_and]
        rw [q57 aq]
        simp [splice,List.map_set,List.map_take,List.map_drop]
      · simp at hs
        obtain ⟨f,hs⟩:=hs
        exact key _ _ _ _ _ hb rfl u.symm g (by simpa using f) rfl hs.symm
    | cel es xs=>
      simp only [hb] at hs
      split at hs <;> try simp at hs
      rename_i cs u ab
      have u:=Nat.eq_of_beq_eq_true u
      obtain ⟨f,hs⟩:=hs
      exact key _ _ _ _ _ hb rfl u.symm ab f rfl hs.symm
end
end Go.Am
namespace Go.Am
open Go
variable {P : Program} {T : Tab}
section
variable {w : World} {Z : Nat→Prop} {inj : Inj} {nx : Nat}
def Jr (w : World) (ad : Option Addr) (L : List Value) (ys : List (List V)) : Prop:=match ad with
  | some p=>∀ (k : Nat) (u : Value),L[k]? = some u→w.cell? (p.add k) = some u
  | none=>ys = []
theorem qgm {b o es : Nat} {xs : List (List V)} (s : es≠0) (q : ∀ (i : Nat) (x : List V),xs[i]? = some x→x.length = es)
    (h : ∀ (i : Nat) (x : List V) (j : Nat) (d : V),xs[i]? = some x→x[j]? = some d→Kk d = true∧∃ c,w.cell? ⟨b,o + (i * es + j),none⟩ = some c∧RelV w Z inj nx d c) :
    ∃ L : List Value,L.length = xs.length * es∧(∀ (k : Nat) (u : Value),L[k]? = some u→w.cell? ⟨b,o + k,none⟩ = some u)∧ERel w Z inj nx es xs L.toArray:=by
  have g : ∀ k,k < xs.length * es→∃ i x j d c,xs[i]? = some x∧x[j]? = some d∧k = i * es + j∧w.cell? ⟨b,o + k,none⟩ = some c∧RelV w Z inj nx d c:=by
    intro k a
    have n : k / es < xs.length:=Nat.div_lt_of_lt_mul (by rwa [Nat.mul_comm])
    have p : k % es < es:=Nat.mod_lt _ q0
    obtain ⟨x,f⟩:=Zr n
    obtain ⟨d,hd⟩:=Zr (xs:=x) (i:=k % es) (by rw [q _ _ f];exact p)
    obtain ⟨_,c,l,t⟩:=h _ _ _ _ f hd
    have a : k = k / es * es + k % es:=by rw [Nat.mul_comm];exact (Nat.div_add_mod k es).symm
    exact ⟨_,_,_,_,c,f,hd,a,by rw [a];exact l,t⟩
  refine ⟨(List.range (xs.length * es)).map fun k=>(w.cell? ⟨b,o + k,none⟩).getD undef,qe,?_,?_⟩
  · intro k u m
    have a : k < xs.length * es:=by have:=Ke m;simpa using this
    obtain ⟨_,_,_,_,c,_,_,_,l,_⟩:=g k a
    simp [a,l] at m;rw [l,m]
  · refine ⟨qe,q,fun i x j d f hd=>?_⟩
    obtain ⟨n,c,p,r⟩:=h i x j d f hd
    have a:=q3n (Ke f) (show j < es by have:=Ke hd;have:=q i x f;omega)
    exact ⟨n,c,by simp [a,p],r⟩
theorem ERel.append {es : Nat} {xs ys : List (List V)} {A B : Array Value} (h : ERel w Z inj nx es xs A) (k : ERel w Z inj nx es ys B) : ERel w Z inj nx es (xs ++ ys) (A ++ B):=by
  obtain ⟨l,m,o⟩:=h
  obtain ⟨b1,p,n⟩:=k
  refine ⟨by simp [l,b1,Nat.add_mul],?_,?_⟩
  · intro i x a
    rw [List.getElem?_append] at a
    split at a
    · exact m _ _ a
    · exact p _ _ a
  · intro i x j d a hd
    rw [List.getElem?_append] at a
    split at a
    · obtain ⟨g,c,b,f⟩:=o i x j d a hd
      exact ⟨g,c,by rw [Array.getElem?_append_left (Zm b)];exact b,f⟩
    · rename_i hi
      obtain ⟨g,c,b,f⟩:=n _ x j d a hd
      refine ⟨g,c,?_,f⟩
      have e : i * es + j = A.size + ((i - xs.length) * es + j):=by
        rw [l,← Nat.add_assoc,← Nat.add_mul];congr 2;omega
      rw [e,Array.getElem?_append_right q0,show A.size + ((i - xs.length) * es + j) - A.size = (i - xs.length) * es + j by omega]
      exact b
theorem ERel.row {es : Nat} {xs : List (List V)} {A B : Array Value} (h : ERel w Z inj nx es xs A) : RowV w Z inj nx (A ++ B) 0 es xs:=by
  intro i x j d g hd
  obtain ⟨b,c,a,f⟩:=h.2.2 i x j d g hd
  exact ⟨b,c,by rw [Nat.zero_add,Array.getElem?_append_left (Zm a)];exact a,f⟩
theorem ERel.one {es : Nat} {xs : List (List V)} {L : List Value} (n : es≠0) (h : ERel w Z inj nx es xs L.toArray) : ∀ u∈L,u.oneCell' = true:=by
  intro u j
  obtain ⟨k,f⟩:=List.mem_iff_getElem?.1 j
  have l:=Ke f
  have g : L.length = xs.length * es:=by simpa using h.1
  have m : k / es < xs.length:=Nat.div_lt_of_lt_mul (by rw [Nat.mul_comm];omega)
  obtain ⟨x,b⟩:=Zr m
  obtain ⟨d,hd⟩:=Zr (xs:=x) (i:=k % es) (by rw [h.2.1 _ _ b];exact Nat.mod_lt _ q0)
  obtain ⟨o,c,a,p⟩:=h.2.2 _ _ _ _ b hd
  have e : k / es * es + k % es = k:=by rw [Nat.mul_comm];exact Nat.div_add_mod k es
  rw [e] at a
  simp [f] at a;subst a
  exact qg9 p o
theorem ERel.mono {w' : World} {inj' : Inj} {nx' es : Nat} {xs : List (List V)} {A : Array Value} (h : ERel w Z inj nx es xs A) (b : ∀ v x,RelV w Z inj nx v x→RelV w' Z inj' nx' v x) : ERel w' Z inj' nx' es xs A:=
  ⟨h.1,h.2.1,fun i x j d a hd=>let ⟨h1,c,h2,h3⟩:=h.2.2 i x j d a hd;⟨h1,c,h2,b _ _ h3⟩⟩
theorem ERel.nil {es : Nat} : ERel w Z inj nx es [] #[]:=⟨qe,qe,qe⟩
theorem RowV.cells {arr : Array Value} {ty : TypeId} {b o es off len : Nat} {xs : List (List V)} (h : RowV w Z inj nx arr o es xs) (hb : w.heap[b]? = some (.cells arr ty (0,0))) :
    ∀ (i : Nat) (x : List V) (j : Nat) (d : V),((xs.drop off).take len)[i]? = some x→x[j]? = some d→Kk d = true∧∃ c,w.cell? ⟨b,o + off * es + (i * es + j),none⟩ = some c∧RelV w Z inj nx d c:=by
  intro i x j d a hd
  rw [List.getElem?_take] at a
  split at a
  · rw [List.getElem?_drop] at a
    obtain ⟨g,c,k,f⟩:=h _ x j d a hd
    refine ⟨g,c,?_,f⟩
    simp only [World.cell?,hb]
    rw [← k]
    simp only [Option.isSome_none,Bool.false_eq_true,if_false]
    rw [Nat.add_mul];congr 1;omega
  · simp at a
theorem qdo {es off len : Nat} {xs : List (List V)} (b : ∀ (i : Nat) (x : List V),xs[i]? = some x→x.length = es) : ∀ (i : Nat) (x : List V),((xs.drop off).take len)[i]? = some x→x.length = es:=by
  intro i x a
  rw [List.getElem?_take] at a
  split at a
  · rw [List.getElem?_drop] at a;exact b _ _ a
  · simp at a
end
section
variable {w : World} {Z : Nat→Prop} {inj : Inj} {st : AS} {a : Act} {Ds : List Nat}
theorem qeu {x : V} {ys : List (List DV)} (h : Z4 st x = some ys) : Zd st x = some (ys.map (·.map .d)):=by
  unfold Z4 at h
  split at h
  · simp at h;subst h;rfl
  · simp at h;subst h;rfl
  · split at h <;> try simp at h
    rename_i hb
    obtain ⟨a,rfl⟩:=h
    simp [Zd,hb,a]
  · simp at h
theorem qbu {x : V} {xv : Value} {es : Nat} {ys : List (List V)} (h : RelS w Z inj st a Ds) (l : RelV w Z inj st.nx x xv) (f : Zd st x = some ys) (hf : J1 es x = true) (r : es≠0) :
    ∃ (m : Option Addr) (cap : Nat) (L : List Value),xv = .slice m ys.length cap∧L.length = ys.length * es∧ERel w Z inj st.nx es ys L.toArray∧Jr w m L ys:=by
  unfold Zd at f
  split at f
  · simp at f;subst f
    cases l with | d l=>
    cases l
    exact ⟨none,0,[],rfl,qe,.nil,(rfl : Jr w none [] [])⟩
  · rename_i g xs
    simp at f;subst f
    have he:=Nat.eq_of_beq_eq_true hf
    subst he
    cases l with | d l=>
    cases l with
    | slnil=>exact ⟨none,0,[],rfl,qe,.nil,(rfl : Jr w none [] [])⟩
    | slemp _ m=>exact ⟨some m,0,[],rfl,qe,.nil,fun k u q=>by simp at q⟩
    | @sl _ _ b o cap p h2 h3 h4 h5=>
      obtain ⟨L,l1,l2,l3⟩:=qgm (w:=w) (Z:=Z) (inj:=inj) (nx:=st.nx) (b:=b) (o:=o) (xs:=xs.map (·.map V.d)) r
        (fun i x l=>by simp only [List.getElem?_map,Y5] at l;obtain ⟨y,hy,rfl⟩:=l;simpa using h3 i y hy)
        (fun i x j d l hd=>by
          simp only [List.getElem?_map,Y5] at l;obtain ⟨y,hy,rfl⟩:=l
          simp only [List.getElem?_map,Y5] at hd;obtain ⟨d',t,rfl⟩:=hd
          obtain ⟨g1,c,z⟩:=h4 i y j d' hy t
          exact ⟨g1,c,z,.d (h5 i y j d' c hy t z)⟩)
      exact ⟨some ⟨b,o,none⟩,cap,L,qe,l1,l3,fun k u q=>by rw [Ju];exact l2 k u q⟩
  · rename_i n g off len
    have he:=Nat.eq_of_beq_eq_true hf
    subst he
    have key : ∀ (b0 : Blk) (xs : List (List V)),st.blk n = some b0→rowsOf b0 = some (g,xs)→off + len≤xs.length→ys = (xs.drop off).take len→
        ∃ (m : Option Addr) (cap : Nat) (L : List Value),xv = .slice m ys.length cap∧L.length = ys.length * g∧ERel w Z inj st.nx g ys L.toArray∧Jr w m L ys:=by
      rintro b0 xs hb hr ao rfl
      have v : ((xs.drop off).take len).length = len:=by simp;omega
      obtain ⟨g1,z,s⟩:=q6o (h.heap.blk n b0 hb).2 hr
      cases l with
      | hsnil=>
        have : (xs.drop off).take 0 = []:=by simp
        rw [this]
        exact ⟨none,0,[],rfl,qe,.nil,(rfl : Jr w none [] [])⟩
      | @hs _ _ _ _ cap m hn f _ hcap=>
        by_cases h0 : len = 0
        · subst h0
          have : (xs.drop off).take 0 = []:=by simp
          rw [this]
          exact ⟨some m,cap,[],rfl,qe,.nil,fun k u q=>by simp at q⟩
        · obtain ⟨b,o,hi,rfl,al⟩:=hcap q0
          rcases s with ⟨s,g4⟩ | ⟨b',o',arr,ty,s,g4,g5⟩
          · rw [hi] at g4;cases g4
          · rw [hi] at s;cases s
            obtain ⟨L,l1,l2,l3⟩:=qgm (w:=w) (Z:=Z) (inj:=inj) (nx:=st.nx) (b:=b) (o:=o + off * g) (xs:=(xs.drop off).take len) r (qdo z) (g5.cells g4)
            exact ⟨some ⟨b,o + off * g,none⟩,cap,L,by rw [v],l1,l3,fun k u q=>by rw [Ju];exact l2 k u q⟩
    split at f
    · rename_i k xs hb
      split at f <;> try simp at f
      rename_i p
      obtain ⟨p,rfl⟩:=p
      subst f
      refine key _ (xs.map (·.map V.d)) hb rfl (by simpa using p) qe
    · rename_i k xs hb
      split at f <;> try simp at f
      rename_i p
      obtain ⟨p,rfl⟩:=p
      subst f
      exact key _ xs hb rfl p rfl
    · simp at f
  · simp at f
theorem qaz {es n : Nat} {tx g : TypeId} {c : Option Addr} {cap : Nat} {ys : List (List V)} {L : List Value} (f : es≠0) (d : P.underlying tx = some (.slice g)) (h : n = ys.length) (a : L.length = ys.length * es)
    (j : ERel w Z inj st.nx es ys L.toArray) (b : Jr w c L ys) : Src P es tx (.slice c ys.length cap) n L w:=by
  subst h
  refine ⟨.inl ⟨g,d⟩,fun w'=>by simp [Builtin.lenOf],?_,?_,a,j.one f⟩
  · cases c with
    | none=>subst b;simp at a;subst a;simp [Builtin.firstCells]
    | some p=>
      have:=run_loadCells_list (P:=P) w p L b
      rw [a] at this
      simpa [Builtin.firstCells] using this
  · cases c with
    | none=>subst b;simp at a;subst a;simp [Builtin.firstCells]
    | some p=>
      have:=run_loadCells_list (P:=P) w.drew p L b
      rw [a] at this
      simpa [Builtin.firstCells] using this
theorem qbm {t tx ty e : TypeId} {i : TypeInfo} (d : P.underlying t = some (.slice e)) (hi : P.info? e = some i) {base : Option Addr} {sLen sCap : Nat} {x : Value} {n : Nat} {news : List Value} (hs : Src P i.size tx x n news w) (a : sLen + n≤sCap)
    {w' : World} (b : match base with | some p=>(storeCells (p.add (sLen * i.size)) news).run P w = .ok () w' | none=>w' = w) :
    (Builtin.append_ #[t,tx] ty #[.slice base sLen sCap,x]).run P w = .ok (.slice base (sLen + n) sCap) w':=by
  cases base with
  | none=>subst b;rcases hs.kind with ⟨f,c⟩ | c <;> simp [Builtin.append_,run_underlying d,run_underlying c,sizeOf,typeInfo,hi,hs.len,a,hs.cells]
  | some p=>rcases hs.kind with ⟨f,c⟩ | c <;> simp [Builtin.append_,run_underlying d,run_underlying c,sizeOf,typeInfo,hi,hs.len,a,hs.cells,b]
end
end Go.Am
namespace Go.Am
open Go
variable {P : Program} {T : Tab}
section
variable {w : World} {Z : Nat→Prop} {inj : Inj}
theorem RelH.newPh {hp : List (Nat × Blk)} {nx : Nat} (d : RelH w Z inj hp nx) (blk : Blk) (hb : RelB w Z (upd inj nx none) (nx + 1) nx blk) : RelH w Z (upd inj nx none) ((nx,blk)::hp) (nx + 1):=by
  refine ⟨?_,?_,?_,d.zs,d.zc⟩
  · intro n b h
    rw [Kt] at h
    by_cases a : nx = n
    · subst a;simp at h;subst h;exact ⟨q0,hb⟩
    · simp only [a,if_false] at h
      obtain ⟨j,k⟩:=d.blk n b h
      exact ⟨q0,k.mono (fun _ _=>rfl) (fun _ h=>h) (Sem.keepBig_of_same rfl) (fun m f=>Yh _ _ f) q0 j (fun _ _ _=>rfl)⟩
  · intro n m b c p q a f l o hp g r
    rw [Kt] at a f
    by_cases j : nx = n
    · subst j;rw [Y4] at hp;cases hp
    · by_cases k : nx = m
      · subst k;rw [Y4] at g;cases g
      · simp only [j,k,if_false] at a f
        rw [Yh _ _ (d.blk n b a).1] at hp
        rw [Yh _ _ (d.blk m c f).1] at g
        exact d.sep n m b c p q a f l o hp g r
  · intro n b p h s hp
    rw [Kt] at h
    by_cases a : nx = n
    · subst a;rw [Y4] at hp;cases hp
    · simp only [a,if_false] at h
      rw [Yh _ _ (d.blk n b h).1] at hp
      exact d.out n b p h s hp
theorem Ext.newPh {hp : List (Nat × Blk)} {nx : Nat} (l : RelH w Z inj hp nx) (blk : Blk) : Ext w Z inj hp w Z (upd inj nx none) ((nx,blk)::hp) nx:=by
  refine ⟨Nat.le_refl _,fun _ _ _=>rfl,?_,fun _ c e f h=>⟨c,e,f,h,rfl⟩,fun _ r h=>⟨r,h,rfl⟩,fun _ h=>h,fun _ h=>.inl h,fun n g=>Yh _ _ g,rfl,rfl,rfl,fun _=>rfl⟩
  rintro b ⟨n,a,d,j,m,k⟩
  rw [Kt] at j
  by_cases g : nx = n
  · subst g;rw [Y4] at k;cases k
  · simp only [g,if_false] at j
    rw [Yh _ _ (l.blk n a j).1] at k
    exact .inl ⟨n,a,d,j,m,k⟩
theorem RelH.move {hp : List (Nat × Blk)} {nx n : Nat} (f : RelH w Z inj hp nx) {x blk : Blk} (z : find hp n = some x) (r : live x = true) {g off y : Nat} (hi : inj n = some (g,off)) {old cs : Array Value} {t : TypeId} {fr : Nat × Nat}
    (hg : w.heap[g]? = some (.cells old t fr)) (hs : cs.size = old.size) (hb : RelB (w.setRow g cs) Z (upd inj nx (some (g,y))) (nx + 1) nx blk) :
    RelH (w.setRow g cs) Z (upd inj nx (some (g,y))) ((nx,blk)::repl hp n .dead) (nx + 1):=by
  have ae : ∀ b,Z b→b≠g:=fun b l e=>f.out n x _ z r hi (by rw [← e];exact l)
  have key : ∀ m b,find (repl hp n .dead) m = some b→live b = true→find hp m = some b∧n≠m:=by
    intro m b h hl
    rw [Z9] at h
    by_cases a : n = m
    · subst a;simp [z] at h;subst h;simp [live] at hl
    · simp only [a,if_false] at h;exact ⟨h,a⟩
  have o : ∀ m b,find (repl hp n .dead) m = some b→m < nx:=by
    intro m b h
    rw [Z9] at h
    by_cases a : n = m
    · subst a;exact (f.blk n x z).1
    · simp only [a,if_false] at h;exact (f.blk m b h).1
  refine ⟨?_,?_,?_,fun b l=>by simpa using f.zs b l,fun b l=>by rw [setRow_other w g b cs (ae b l)];exact f.zc b l⟩
  · intro m b h
    rw [Kt] at h
    by_cases a : nx = m
    · subst a;simp at h;subst h;exact ⟨q0,hb⟩
    · simp only [a,if_false] at h
      refine ⟨by have:=o m b h;omega,?_⟩
      by_cases hl : live b = true
      · obtain ⟨u,v⟩:=key m b h hl
        obtain ⟨h3,h4⟩:=f.blk m b u
        refine h4.mono (fun b l=>setRow_other w g b cs (ae b l)) (fun _ h=>h) (q2u w g old cs t fr hg hs) (fun _ hk=>Yh _ _ hk) q0 h3 ?_
        intro p hp' aj
        exact setRow_other w g p.1 cs (fun e=>f.sep n m x b _ _ z u r hl hi hp' v e.symm)
      · have : b = .dead:=by cases b <;> simp_all [live]
        subst this;trivial
  · intro m k b c p q u v ab s j d ad
    rw [Kt] at u v
    by_cases a : nx = m
    · subst a
      rw [Y4] at j;cases j
      simp only [ad,if_false] at v
      obtain ⟨h3,h4⟩:=key k c v s
      rw [Yh _ _ (o k c v)] at d
      exact fun e=>f.sep n k x c (g,off) q z h3 r s hi d h4 e
    · simp only [a,if_false] at u
      obtain ⟨h3,h4⟩:=key m b u ab
      rw [Yh _ _ (o m b u)] at j
      by_cases hk : nx = k
      · subst hk
        rw [Y4] at d;cases d
        exact fun e=>f.sep n m x b (g,off) p z h3 r ab hi j h4 e.symm
      · simp only [hk,if_false] at v
        obtain ⟨h5,h6⟩:=key k c v s
        rw [Yh _ _ (o k c v)] at d
        exact f.sep m k b c p q h3 h5 ab s j d ad
  · intro m b p h hl hp' l
    rw [Kt] at h
    by_cases a : nx = m
    · subst a;rw [Y4] at hp';cases hp';exact f.out n x _ z r hi l
    · simp only [a,if_false] at h
      obtain ⟨u,_⟩:=key m b h hl
      rw [Yh _ _ (o m b h)] at hp'
      exact f.out m b p u hl hp' l
theorem Ext.move {hp : List (Nat × Blk)} {nx n : Nat} (v : RelH w Z inj hp nx) {l blk : Blk} (p : find hp n = some l) (d : live l = true) {g off f : Nat} (hi : inj n = some (g,off)) {old cs : Array Value} {t : TypeId} {o : Nat × Nat}
    (q : w.heap[g]? = some (.cells old t o)) (hs : cs.size = old.size) : Ext w Z inj hp (w.setRow g cs) Z (upd inj nx (some (g,f))) ((nx,blk)::repl hp n .dead) nx:=by
  refine ⟨qe,?_,?_,q2u w g old cs t o q hs,qkt w g old cs t o q,fun _ h=>h,fun _ h=>.inl h,fun m k=>Yh _ _ k,rfl,rfl,rfl,qk5 w g old cs t o q⟩
  · intro b _ hb
    exact setRow_other w g b cs (fun e=>hb (by rw [e];exact ⟨n,l,off,p,d,hi⟩))
  · rintro b ⟨m,c,u,a,s,j⟩
    rw [Kt] at a
    by_cases k : nx = m
    · subst k;rw [Y4] at j;cases j;exact .inl ⟨n,l,off,p,d,hi⟩
    · simp only [k,if_false] at a
      rw [Z9] at a
      by_cases r : n = m
      · subst r;simp [p] at a;subst a;simp [live] at s
      · simp only [r,if_false] at a
        rw [Yh _ _ (v.blk m c a).1] at j
        exact .inl ⟨m,c,u,a,s,j⟩
end
section
variable {w : World} {Z : Nat→Prop} {inj : Inj} {st : AS} {a : Act} {Ds : List Nat}
theorem qs9 {a cap b : Nat} (c : cap < a) (d : a * (b * 4)≤room) : Builtin.nextslicecap a cap * b≤281474976710656:=by
  have g:=Nat.mul_le_mul_right b (Room.nextslicecap_le' c)
  have f : 2 * a * b≤a * (b * 4):=by rw [Nat.mul_comm b 4,← Nat.mul_assoc];exact Nat.mul_le_mul_right b q0
  unfold room at d;omega
theorem qtp {a b : Nat} (hb : b≠0) (c : a * (b * 4)≤room) : a≤4294967296:=by
  have : a * 1≤a * (b * 4):=Nat.mul_le_mul_left _ q0
  unfold room at c;omega
theorem qe7 {t u ty : TypeId} {i : TI} {e e' : TypeId} {o : TypeInfo} {m : Value} (_h : RelS w Z inj st a Ds) (hu : P.underlying t = some (.slice e)) (af : P.underlying u = some (.slice e')) (g1 : P.info? e = some o) (g3 : o.zero = some m)
    (g6 : o.size = i.esize) (g7 : i.esize≠0) (g8 : o.bytes = i.ebytes) (g9 : i.ebytes≠0) (gz : m.cells.size = i.esize) {hp1 : List (Nat × Blk)} (hh : RelH w Z inj hp1 st.nx) (p : Ext w Z inj st.hp w Z inj hp1 st.nx)
    {base ad : Option Addr} {cap cap' : Nat} {olds ys : List (List V)} {L0 j : List Value} (q : L0.length = olds.length * i.esize) (r : ERel w Z inj st.nx i.esize olds L0.toArray) (ab : Jr w base L0 olds)
    (y : j.length = ys.length * i.esize) (s : ERel w Z inj st.nx i.esize ys j.toArray) (ae : Jr w ad j ys) (hg : cap < olds.length + ys.length) (c : (olds.length + ys.length) * (i.ebytes * 4)≤room)
    {b1 : Blk} (aa : rowsOf b1 = some (i.esize,olds ++ ys)) :
    ∃ x w' inj',(Builtin.append_ #[t,u] ty #[.slice base olds.length cap,.slice ad ys.length cap']).run P w = .ok x w'∧RelV w' Z inj' (st.nx + 1) (.hs st.nx i.esize 0 (olds.length + ys.length)) x∧RelH w' Z inj' ((st.nx,b1)::hp1) (st.nx + 1)∧
      Ext w Z inj st.hp w' Z inj' ((st.nx,b1)::hp1) st.nx:=by
  have l:=qaz (P:=P) (tx:=t) (cap:=cap) g7 hu rfl q r ab
  have g:=qaz (P:=P) (tx:=u) (cap:=cap') g7 af rfl y s ae
  rw [← g6] at l g
  have ax:=qtp g9 c
  have k:=qs9 hg c
  rw [← g8] at k
  have d:=run_append_grow_src (P:=P) w t u ty e o m hu g1 g3 base olds.length cap L0 l.cellsD (.slice ad ys.length cap') ys.length j g hg q0 k
  have n:=grownCap_ge w (olds.length + ys.length) cap e
  generalize grownCap w (olds.length + ys.length) cap e = C at d n
  generalize hA : (L0 ++ j).toArray ++ Builtin.zeroCells m.cells (C - (olds.length + ys.length)) = A at d
  have f : RelH w.drew Z inj hp1 st.nx:=hh.same rfl
  have z : ERel w Z inj st.nx i.esize (olds ++ ys) (L0.toArray ++ j.toArray):=r.append s
  have mono : ∀ v x,RelV w Z inj st.nx v x→RelV (w.drew.alloc (.cells A e)) Z (upd inj st.nx (some (w.heap.size,0))) (st.nx + 1) v x:=fun v x hv=>
    hv.mono (fun b hz=>Zz w.drew _ (hh.zs b hz)) (fun _ h=>h) (q2t w.drew _) (fun _ hm=>Yh _ _ hm) q0
  refine ⟨_,_,upd inj st.nx (some (w.heap.size,0)),d,?_,?_,?_⟩
  · refine .hs q0 n rfl fun _=>⟨w.heap.size,0,Y4 _ _ _,qe,A,e,(0,0),Jv w.drew _,?_⟩
    have h1 : A.size = L0.length + j.length + (C - (olds.length + ys.length)) * i.esize:=by
      rw [← hA];simp [Builtin.zeroCells,gz]
    rw [h1,q,y,← Nat.add_mul,← Nat.add_mul]
    simp only [Nat.zero_add]
    exact Nat.mul_le_mul_right _ q0
  · refine f.new (.cells A e) b1 0 ?_
    refine q6n aa g7 z.2.1 (.inr ⟨w.heap.size,0,A,e,Y4 _ _ _,Jv w.drew _,?_⟩)
    have h9:=(z.row (B:=Builtin.zeroCells m.cells (C - (olds.length + ys.length)))).mono mono
    rw [show L0.toArray ++ j.toArray ++ Builtin.zeroCells m.cells (C - (olds.length + ys.length)) = A from by rw [← hA];simp] at h9
    exact h9
  · refine p.trans ?_ (Nat.le_refl _)
    have e1 : Ext w Z inj hp1 w.drew Z inj hp1 st.nx:=Ext.same rfl rfl rfl rfl
    exact e1.trans (Ext.new f (.cells A e) b1 0) (Nat.le_refl _)
theorem qp7 {t u ty : TypeId} {i : TI} {e e' : TypeId} {ie : TypeInfo} (h : RelS w Z inj st a Ds) (hu : P.underlying t = some (.slice e)) (ba : P.underlying u = some (.slice e')) (g1 : P.info? e = some ie)
    (g6 : ie.size = i.esize) (g7 : i.esize≠0) {n off len cap cap' b o : Nat} {b0 b1 : Blk} {xs ys : List (List V)} (y : st.blk n = some b0) (be : rowsOf b0 = some (i.esize,xs)) (bo : off + len≤xs.length)
    (hi : inj n = some (b,o)) (am : Big w b (o + (off + cap) * i.esize)) (_hlc : len≤cap)
    {ad : Option Addr} {g : List Value} (ai : g.length = ys.length * i.esize) (q : ERel w Z inj st.nx i.esize ys g.toArray) (az : Jr w ad g ys) (hg : len + ys.length≤cap)
    (ap : rowsOf b1 = some (i.esize,(xs.drop off).take len ++ ys)) :
    ∃ x w' inj',(Builtin.append_ #[t,u] ty #[.slice (some ⟨b,o + off * i.esize,none⟩) len cap,.slice ad ys.length cap']).run P w = .ok x w'∧RelV w' Z inj' (st.nx + 1) (.hs st.nx i.esize 0 (len + ys.length)) x∧
      RelH w' Z inj' ((st.nx,b1)::repl st.hp n .dead) (st.nx + 1)∧Ext w Z inj st.hp w' Z inj' ((st.nx,b1)::repl st.hp n .dead) st.nx:=by
  have aj:=qaz (P:=P) (tx:=u) (cap:=cap') g7 ba rfl ai q az
  obtain ⟨q1,q2,q3⟩:=q6o (h.heap.blk n b0 y).2 be
  rcases q3 with ⟨_,s⟩ | ⟨b',o',arr,ac,q3,s,q5⟩
  · rw [hi] at s;cases s
  rw [hi] at q3;cases q3
  have l : live b0 = true:=by cases b0 <;> simp_all [rowsOf,live]
  have aq : o + (off + cap) * i.esize≤arr.size:=by
    obtain ⟨c,e2,f,k1,k2⟩:=am
    rw [s] at k1;cases k1;exact k2
  have aw : g.length = ys.length * i.esize:=ai
  have al : (len + ys.length) * i.esize≤cap * i.esize:=Nat.mul_le_mul_right _ hg
  rw [Nat.add_mul] at al aq
  have m : o + off * i.esize + len * i.esize + g.length≤arr.size:=by omega
  have ab:=run_storeCells_at P b (o + off * i.esize + len * i.esize) ac g 0 arr w s (by simpa using m) (q.one g7)
  simp only [Nat.add_zero] at ab
  have bb : (arr.toList.take (o + off * i.esize + len * i.esize) ++ g ++ arr.toList.drop (o + off * i.esize + len * i.esize + g.length)).toArray = (splice arr.toList (o + off * i.esize + len * i.esize) g).toArray:=rfl
  rw [bb] at ab
  have ah:=qbm (P:=P) (w:=w) (ty:=ty) hu g1 (base:=some ⟨b,o + off * i.esize,none⟩) (sLen:=len) (sCap:=cap) (x:=.slice ad ys.length cap') (n:=ys.length) (news:=g) (by rw [g6];exact aj) hg
    (w':=w.setRow b (splice arr.toList (o + off * i.esize + len * i.esize) g).toArray) (by show (storeCells ((⟨b,o + off * i.esize,none⟩ : Addr).add (len * ie.size)) g).run P w = _;rw [Ju,g6];exact ab)
  have r : o + off * i.esize + len * i.esize + g.length≤arr.toList.length:=by simpa using m
  have p : (splice arr.toList (o + off * i.esize + len * i.esize) g).toArray.size = arr.size:=by simp [q27 _ _ _ r]
  have hz : ∀ b1,Z b1→(w.setRow b (splice arr.toList (o + off * i.esize + len * i.esize) g).toArray).heap[b1]? = w.heap[b1]?:=fun b1 bg=>
    setRow_other w b b1 _ (fun e=>h.heap.out n b0 _ y l hi (by rw [← e];exact bg))
  have ar:=q2u w b arr _ ac (0,0) s p
  have mono : ∀ v x,RelV w Z inj st.nx v x→RelV (w.setRow b (splice arr.toList (o + off * i.esize + len * i.esize) g).toArray) Z (upd inj st.nx (some (b,o + off * i.esize))) (st.nx + 1) v x:=fun v x hv=>
    hv.mono hz (fun _ h=>h) ar (fun _ hm=>Yh _ _ hm) q0
  have z : ((xs.drop off).take len).length = len:=by simp;omega
  refine ⟨_,_,upd inj st.nx (some (b,o + off * i.esize)),ah,?_,?_,Ext.move h.heap y l hi s p⟩
  · refine .hs q0 hg rfl fun _=>⟨b,o + off * i.esize,Y4 _ _ _,qe,_,_,_,setRow_heap w b _ _ _ _ s,?_⟩
    rw [p];simp only [Nat.zero_add];omega
  · refine h.heap.move y l hi s p (q6n ap g7 ?_ (.inr ⟨b,o + off * i.esize,_,ac,Y4 _ _ _,setRow_heap w b _ _ _ _ s,?_⟩))
    · intro j x k
      rw [List.getElem?_append] at k
      split at k
      · exact qdo q2 j x k
      · exact q.2.1 _ _ k
    · intro j x j' d k hd
      rw [List.getElem?_toArray,U5 _ _ _ _ r]
      rw [List.getElem?_append] at k
      split at k
      · rename_i hj
        rw [z] at hj
        have ax:=qdo q2 j x k
        have ae : j' < i.esize:=by have:=Ke hd;omega
        have hc:=q3n hj ae
        rw [qp q0]
        rw [List.getElem?_take] at k
        rw [qq hj,List.getElem?_drop] at k
        obtain ⟨k1,c,k2,k3⟩:=q5 _ x j' d k hd
        refine ⟨k1,c,?_,mono _ _ k3⟩
        rw [Nat.add_mul] at k2
        rw [Array.getElem?_toList,← k2];congr 1;omega
      · rename_i hj
        rw [z] at hj k
        obtain ⟨k1,c,k2,k3⟩:=q.2.2 _ x j' d k hd
        have ay:=Ke k
        have ax:=q.2.1 _ x k
        have ae : j' < i.esize:=by have:=Ke hd;omega
        have hc:=q3n ay ae
        have he : j * i.esize = len * i.esize + (j - len) * i.esize:=by rw [← Nat.add_mul];congr 1;omega
        rw [qq q0]
        refine ⟨k1,c,?_,mono _ _ k3⟩
        rw [List.getElem?_toArray] at k2
        rw [← k2];congr 1;omega
theorem qug {t u ty : TypeId} {i j : TI} {sv xv v : V} {vs vx : Value} {st1 : AS} (h : RelS w Z inj st a Ds) (ht : tiOf P t = some i) (hu : tiOf P u = some j) (bq : i.kind = .slice) (bo : j.kind = .slice) (hf : J1 i.esize xv = true)
    (al : RelV w Z inj st.nx sv vs) (aw : RelV w Z inj st.nx xv vx) (f : Z7 st i sv xv = some (v,st1)) :
    ∃ x w' inj',(Builtin.append_ #[t,u] ty #[vs,vx]).run P w = .ok x w'∧RelV w' Z inj' st1.nx v x∧RelH w' Z inj' st1.hp st1.nx∧Ext w Z inj st.hp w' Z inj' st1.hp st.nx∧st1.sl = st.sl∧st.nx≤st1.nx:=by
  obtain ⟨bz,d,z,k⟩:=Yt ht
  obtain ⟨bv,d',z',k'⟩:=Yt hu
  have hk:=k.kind
  have aq:=k'.kind
  unfold Zj at hk aq
  simp only [bq,bo] at hk aq
  obtain ⟨e,ie,de,ze,rfl,g1,g2,g3,g4,g5,g6,g7,g8,g9,_⟩:=hk
  obtain ⟨e',_,_,_,rfl,_⟩:=aq
  have gz : ze.cells.size = i.esize:=by have:=(q93 g4).1;simp at this;omega
  have s : ∀ ys b1,Zd st xv = some ys→vs = .slice none 0 0→rowsOf b1 = some (i.esize,ys)→ys.length * (i.ebytes * 4)≤room→ys.length≠0→
      ∃ x w' inj',(Builtin.append_ #[t,u] ty #[vs,vx]).run P w = .ok x w'∧RelV w' Z inj' (st.nx + 1) (.hs st.nx i.esize 0 ys.length) x∧RelH w' Z inj' ((st.nx,b1)::st.hp) (st.nx + 1)∧Ext w Z inj st.hp w' Z inj' ((st.nx,b1)::st.hp) st.nx:=by
    rintro ys b1 hc rfl hr c ci
    obtain ⟨ad,cap',L1,rfl,m,r,q⟩:=qbu h aw hc hf g7
    have:=qe7 (P:=P) (ty:=ty) h k.und k'.und g1 g3 g6 g7 g8 g9 gz h.heap Ext.refl (base:=none) (cap:=0) (olds:=[]) (L0:=[]) qe .nil (rfl : Jr w none [] []) (cap':=cap') m r q (by simp;omega) (by simpa using c) (b1:=b1) (by simpa using hr)
    simpa using this
  have ab : ∀ ys,Zd st xv = some ys→vs = .slice none 0 0→ys.length = 0→(Builtin.append_ #[t,u] ty #[vs,vx]).run P w = .ok (.slice none 0 0) w:=by
    rintro ys hc rfl y
    obtain ⟨ad,cap',L1,rfl,m,r,q⟩:=qbu h aw hc hf g7
    have ac:=qaz (P:=P) (tx:=u) (cap:=cap') g7 k'.und rfl m r q
    have:=qbm (P:=P) (w:=w) (ty:=ty) k.und g1 (base:=none) (sLen:=0) (sCap:=0) (by rw [g6];exact ac) q0 (w':=w) rfl
    simpa [y] using this
  have l : ∀ n off len xs ys b0 b1,sv = .hs n i.esize off len→st.blk n = some b0→rowsOf b0 = some (i.esize,xs)→off + len≤xs.length→Zd st xv = some ys→rowsOf b1 = some (i.esize,(xs.drop off).take len ++ ys)→
      (len + ys.length) * (i.ebytes * 4)≤room→
      ∃ x w' inj',(Builtin.append_ #[t,u] ty #[vs,vx]).run P w = .ok x w'∧RelV w' Z inj' (st.nx + 1) (.hs st.nx i.esize 0 (len + ys.length)) x∧RelH w' Z inj' ((st.nx,b1)::repl st.hp n .dead) (st.nx + 1)∧
        Ext w Z inj st.hp w' Z inj' ((st.nx,b1)::repl st.hp n .dead) st.nx:=by
    rintro n off len xs ys b0 b1 rfl ba bd bu hc ae c
    obtain ⟨ad,cap',L1,rfl,m,r,q⟩:=qbu h aw hc hf g7
    have ac:=qaz (P:=P) (tx:=u) (cap:=cap') g7 k'.und rfl m r q
    have ah : ((xs.drop off).take len).length = len:=by simp;omega
    obtain ⟨q1,q2,q3⟩:=q6o (h.heap.blk n b0 ba).2 bd
    have p : RelH w Z inj (repl st.hp n .dead) st.nx:=h.heap.drop
    have aa : Ext w Z inj st.hp w Z inj (repl st.hp n .dead) st.nx:=Ext.drop
    have ph : len = 0→ys.length = 0→RelH w Z (upd inj st.nx none) ((st.nx,b1)::repl st.hp n .dead) (st.nx + 1)∧Ext w Z inj st.hp w Z (upd inj st.nx none) ((st.nx,b1)::repl st.hp n .dead) st.nx:=by
      intro h1 h2
      have ap : (xs.drop off).take len ++ ys = []:=by subst h1;simp [List.eq_nil_of_length_eq_zero h2]
      refine ⟨p.newPh b1 (q6n ae g7 (by rw [ap];simp) (.inl ⟨ap,Y4 _ _ _⟩)),aa.trans (Ext.newPh p b1) (Nat.le_refl _)⟩
    cases al with
    | hsnil hm=>
      by_cases y : ys.length = 0
      · obtain ⟨p1,p2⟩:=ph rfl y
        have:=qbm (P:=P) (w:=w) (ty:=ty) k.und g1 (base:=none) (sLen:=0) (sCap:=0) (by rw [g6];exact ac) q0 (w':=w) rfl
        refine ⟨_,w,_,this,?_,p1,p2⟩
        simp only [Nat.zero_add,y]
        exact .hsnil q0
      · have:=qe7 (P:=P) (ty:=ty) h k.und k'.und g1 g3 g6 g7 g8 g9 gz p aa (base:=none) (cap:=0) (olds:=[]) (L0:=[]) qe .nil (rfl : Jr w none [] []) (cap':=cap') m r q (by simp;omega) (by simpa using c) (b1:=b1) (by simpa using ae)
        simpa using this
    | @hs _ _ _ _ cap adr hm hcl hsp hcap=>
      by_cases hg : len + ys.length≤cap
      · by_cases be : cap = 0
        · obtain ⟨p1,p2⟩:=ph q0 q0
          have hL : L1 = []:=List.eq_nil_of_length_eq_zero (by rw [m,show ys.length = 0 by omega];simp)
          have:=qbm (P:=P) (w:=w) (ty:=ty) k.und g1 (base:=some adr) (sLen:=len) (sCap:=cap) (by rw [g6];exact ac) hg (w':=w) (by subst hL;show (storeCells _ []).run P w = _;simp [storeCells])
          exact ⟨_,w,_,this,.hs q0 hg hsp (fun h=>absurd be h),p1,p2⟩
        · obtain ⟨b,o,hi,rfl,ao⟩:=hcap be
          exact qp7 (P:=P) (ty:=ty) h k.und k'.und g1 g6 g7 ba bd bu hi ao hcl (cap':=cap') m r q hg ae
      · have hold : ∃ L0 : List Value,L0.length = ((xs.drop off).take len).length * i.esize∧ERel w Z inj st.nx i.esize ((xs.drop off).take len) L0.toArray∧Jr w (some adr) L0 ((xs.drop off).take len):=by
          by_cases y : len = 0
          · subst y
            exact ⟨[],qe,by simpa using ERel.nil,fun k u hu=>by simp at hu⟩
          · obtain ⟨b,o,hi,rfl,ao⟩:=hcap q0
            rcases q3 with ⟨_,q4⟩ | ⟨b',o',arr,cc,q3,q4,q5⟩
            · rw [hi] at q4;cases q4
            · rw [hi] at q3;cases q3
              obtain ⟨L,l1,l2,l3⟩:=qgm (w:=w) (Z:=Z) (inj:=inj) (nx:=st.nx) (b:=b) (o:=o + off * i.esize) (xs:=(xs.drop off).take len) g7 (qdo q2) (q5.cells q4)
              exact ⟨L,l1,l3,fun k u hu=>by rw [Ju];exact l2 k u hu⟩
        obtain ⟨L0,a1,a2,a3⟩:=hold
        have:=qe7 (P:=P) (ty:=ty) h k.und k'.und g1 g3 g6 g7 g8 g9 gz p aa (base:=some adr) (cap:=cap) a1 a2 a3 (cap':=cap') m r q (by rw [ah];omega) (by rw [ah];exact c) (b1:=b1) ae
        rw [ah] at this
        exact this
  cases sv <;> simp only [Z7,reduceCtorEq] at f
  case d x=>
    cases x <;> simp only [reduceCtorEq] at f
    cases al with | d al=>
    cases al
    cases af : Z4 st xv with
    | some ys=>
      simp only [af] at f
      split at f <;> try simp at f
      rename_i c
      have g:=qeu af
      by_cases y : ys = []
      · rw [qq y] at f;simp at f;obtain ⟨rfl,rfl⟩:=f
        exact ⟨_,w,inj,ab _ g rfl (by simpa using y),.d .nilsl,h.heap,.refl,rfl,Nat.le_refl _⟩
      · rw [qp y] at f;simp at f;obtain ⟨rfl,rfl⟩:=f
        have:=s _ (.dat i.esize ys) g rfl rfl (by simpa using c) (by simpa using y)
        obtain ⟨x,w',inj',h1,h2,h3,h4⟩:=this
        exact ⟨x,w',inj',h1,by simpa [AS.new] using h2,h3,h4,rfl,by simp [AS.new]⟩
    | none=>
      simp only [af] at f
      cases g : Zd st xv with
      | none=>simp [g] at f
      | some ys=>
        simp only [g] at f
        split at f <;> try simp at f
        rename_i c
        by_cases y : ys = []
        · rw [qq y] at f;simp at f;obtain ⟨rfl,rfl⟩:=f
          exact ⟨_,w,inj,ab _ g rfl (by simpa using y),.d .nilsl,h.heap,.refl,rfl,Nat.le_refl _⟩
        · rw [qp y] at f;simp at f;obtain ⟨rfl,rfl⟩:=f
          obtain ⟨x,w',inj',h1,h2,h3,h4⟩:=s _ (.cel i.esize ys) g rfl rfl c (by simpa using y)
          exact ⟨x,w',inj',h1,by simpa [AS.new] using h2,h3,h4,rfl,by simp [AS.new]⟩
  case hs n es off len=>
    split at f
    · rename_i k0 xs ys hb af
      split at f <;> simp at f
      rename_i ar
      obtain ⟨c1,rfl,c3,rfl⟩:=ar
      obtain ⟨rfl,rfl⟩:=f
      have:=l n off len (xs.map (·.map .d)) (ys.map (·.map .d)) _ (.dat i.esize ((xs.drop off).take len ++ ys)) rfl hb rfl (by simpa using c1) (qeu af) (by simp [rowsOf,List.map_take,List.map_drop]) (by simpa using c3)
      obtain ⟨x,w',inj',h1,h2,h3,h4⟩:=this
      exact ⟨x,w',inj',h1,by simpa [AS.new,AS.setBlk] using h2,h3,h4,rfl,by simp [AS.new,AS.setBlk]⟩
    · rename_i k0 xs hb af
      split at f <;> try simp at f
      rename_i ys g
      obtain ⟨⟨c1,rfl,c3,rfl⟩,rfl,rfl⟩:=f
      have:=l n off len (xs.map (·.map .d)) ys _ (.cel i.esize ((((xs.map (·.map V.d)).drop off).take len) ++ ys)) rfl hb rfl (by simpa using c1) g rfl c3
      obtain ⟨x,w',inj',h1,h2,h3,h4⟩:=this
      exact ⟨x,w',inj',h1,by simpa [AS.new,AS.setBlk] using h2,h3,h4,rfl,by simp [AS.new,AS.setBlk]⟩
    · rename_i k0 xs hb
      split at f <;> try simp at f
      rename_i ys g
      obtain ⟨⟨c1,rfl,c3,rfl⟩,rfl,rfl⟩:=f
      have:=l n off len xs ys _ (.cel i.esize ((xs.drop off).take len ++ ys)) rfl hb rfl c1 g rfl c3
      obtain ⟨x,w',inj',h1,h2,h3,h4⟩:=this
      exact ⟨x,w',inj',h1,by simpa [AS.new,AS.setBlk] using h2,h3,h4,rfl,by simp [AS.new,AS.setBlk]⟩
    · simp at f
end
end Go.Am
namespace Go.Am
open Go
variable {P : Program} {T : Tab}
section
variable {w : World} {Z : Nat→Prop} {inj : Inj} {nx : Nat}
theorem RowV.spliceRows {arr : Array Value} {o es off : Nat} {xs ys : List (List V)} {L : List Value} (h : RowV w Z inj nx arr o es xs) (r : ∀ (i : Nat) (x : List V),xs[i]? = some x→x.length = es) (g : ERel w Z inj nx es ys L.toArray)
    (k : off + ys.length≤xs.length) (b : o + off * es + L.length≤arr.size) : RowV w Z inj nx (splice arr.toList (o + off * es) L).toArray o es (splice xs off ys):=by
  have t : L.length = ys.length * es:=by simpa using g.1
  intro i x j d a hd
  rw [U5 _ _ _ _ k] at a
  rw [List.getElem?_toArray,U5 _ _ _ _ (by simpa using b)]
  by_cases hi : off≤i∧i < off + ys.length
  · rw [qq hi] at a
    obtain ⟨m,c,p,l⟩:=g.2.2 _ x j d a hd
    have f : j < es:=by have:=Ke hd;have:=g.2.1 _ x a;omega
    have n:=q3n (Ke a) f
    have s : i * es = off * es + (i - off) * es:=by rw [← Nat.add_mul];congr 1;omega
    grind
  · rw [qp hi] at a
    obtain ⟨m,c,p,l⟩:=h i x j d a hd
    have f : j < es:=by have:=Ke hd;have:=r _ x a;omega
    refine ⟨m,c,?_,l⟩
    rw [qp ?_]
    · grind
    · intro n
      by_cases q : i < off
      · have:=q3n q f;omega
      · have u : (off + ys.length) * es≤i * es:=Nat.mul_le_mul_right _ q0
        grind
theorem ERel.take {es m : Nat} {xs : List (List V)} {L : List Value} (h : ERel w Z inj nx es xs L.toArray) (b : m≤xs.length) : ERel w Z inj nx es (xs.take m) (L.take (m * es)).toArray:=by
  obtain ⟨g,k,f⟩:=h
  simp only [List.size_toArray] at g
  have:=Nat.mul_le_mul_right es b
  refine ⟨by simp;rw [Nat.min_eq_left b];omega,?_,?_⟩
  · grind
  · intro i x j d a hd
    rw [List.getElem?_take] at a
    split at a
    · rename_i hi
      obtain ⟨o,c,l,p⟩:=f i x j d a hd
      have n:=q3n hi (show j < es by have:=Ke hd;have:=k _ x a;omega)
      grind
    grind
end
section
variable {w : World} {Z : Nat→Prop} {inj : Inj} {st : AS} {a : Act} {Ds : List Nat}
theorem qup {t u ty : TypeId} {i j : TI} {sv xv v : V} {vs vx : Value} {st1 : AS} (h : RelS w Z inj st a Ds) (ht : tiOf P t = some i) (_hu : tiOf P u = some j) (bn : i.kind = .slice) (_hjk : j.kind = .slice) (bs : J1 i.esize sv = true) (hf : J1 i.esize xv = true)
    (av : RelV w Z inj st.nx sv vs) (br : RelV w Z inj st.nx xv vx) (ha : copyV st sv xv = some (v,st1)) :
    ∃ x w' inj',(Builtin.copy_ #[t,u] ty #[vs,vx]).run P w = .ok x w'∧RelV w' Z inj' st1.nx v x∧RelH w' Z inj' st1.hp st1.nx∧Ext w Z inj st.hp w' Z inj' st1.hp st.nx∧st1.sl = st.sl∧st.nx≤st1.nx:=by
  obtain ⟨ce,d,z,k⟩:=Yt ht
  have hk:=k.kind
  unfold Zj at hk
  simp only [bn] at hk
  obtain ⟨e,ie,de,ze,rfl,g1,g2,g3,g4,g5,g6,g7,g8,g9,_⟩:=hk
  cases sv <;> simp only [copyV,reduceCtorEq] at ha
  rename_i n es off len
  have bj:=Nat.eq_of_beq_eq_true bs
  subst bj
  split at ha <;> try simp at ha
  rename_i k0 xs ys hb bi
  obtain ⟨⟨cp,rfl⟩,rfl,rfl⟩:=ha
  obtain ⟨ad,cap',L1,rfl,an,bk,au⟩:=qbu h br (qeu bi) hf g7
  rw [List.length_map] at an ⊢
  let m:=min ys.length len
  have hm : m = min ys.length len:=rfl
  rw [← hm]
  obtain ⟨q1,q2,q3⟩:=q6o (h.heap.blk n _ hb).2 rfl
  have bw : (xs.map (·.map V.d)).length = xs.length:=by simp
  have cc : m * i.esize≤ys.length * i.esize:=Nat.mul_le_mul_right _ q0
  have ag : (Builtin.firstCells i.esize m (.slice ad ys.length cap')).run P w = .ok (L1.take (m * i.esize)).toArray w:=by
    cases ad with
    | none=>
      have ay : ys.map (·.map V.d) = []:=au
      have : ys = []:=by simpa using ay
      subst this
      simp at an;subst an
      simp [Builtin.firstCells]
    | some p=>
      have:=run_loadCells_list (P:=P) w p (L1.take (m * i.esize)) (fun k u hu=>by
        rw [List.getElem?_take] at hu
        split at hu
        · exact au k u hu
        · simp at hu)
      rw [List.length_take,Nat.min_eq_left q0] at this
      simpa [Builtin.firstCells] using this
  have l : ∀ base y aj,y = len→vs = .slice base y aj→∀ w',(match base with | some p=>(storeCells p (L1.take (m * i.esize))).run P w = .ok () w' | none=>w' = w)→
      (Builtin.copy_ #[t,u] ty #[vs,.slice ad ys.length cap']).run P w = .ok (.int .i64 m) w':=by
    rintro base y aj rfl rfl w' aa
    have al:=ag
    rw [← g6] at al
    have ak : Nat.min ys.length y = m:=rfl
    cases base with
    | none=>
      subst aa
      simp [Builtin.copy_,run_underlying k.und,Builtin.lenOf,Zh g1,goInt,ak,al]
    | some p=>
      have ai : (storeCells p (L1.take (m * i.esize))).run P w = .ok () w':=aa
      rw [← g6] at ai
      simp [Builtin.copy_,run_underlying k.und,Builtin.lenOf,Zh g1,ai,goInt,ak,al]
  have s : live (.dat i.esize xs) = true:=rfl
  have same : m = 0→RelH w Z inj (repl st.hp n (.dat i.esize (splice xs off (ys.take m)))) st.nx∧Ext w Z inj st.hp w Z inj (repl st.hp n (.dat i.esize (splice xs off (ys.take m)))) st.nx:=by
    intro h0
    have ao : splice xs off (ys.take m) = xs:=by rw [h0];simp [splice]
    rw [ao]
    have g : ∀ q,find (repl st.hp n (.dat i.esize xs)) q = find st.hp q:=by
      intro q
      rw [Z9]
      by_cases hq : n = q
      · subst hq;have : find st.hp n = some (.dat i.esize xs):=hb;simp [this]
      · simp [hq]
    constructor
    · exact ⟨fun q b hq=>h.heap.blk q b (by rw [g] at hq;exact hq),fun q r b c p' q' h1 h2=>h.heap.sep q r b c p' q' (by rw [g] at h1;exact h1) (by rw [g] at h2;exact h2),fun q b p' h1=>h.heap.out q b p' (by rw [g] at h1;exact h1),h.heap.zs,h.heap.zc⟩
    · exact {Ext.refl (w:=w) (Z:=Z) (inj:=inj) (hp:=st.hp) (pin:=st.nx) with imm:=fun b hb=>by obtain ⟨q,blk,o,h1,h2,h3⟩:=hb;rw [g] at h1;exact .inl ⟨q,blk,o,h1,h2,h3⟩}
  have af : ∀ w' inj' nx',RelV w' Z inj' nx' (.d (.int .i64 ((min ys.length len : Nat) : Int))) (.int .i64 (m : Nat)):=fun _ _ _=>.d (.int _ _)
  by_cases h0 : m = 0
  · obtain ⟨s1,s2⟩:=same h0
    cases av with
    | hsnil=>exact ⟨_,w,inj,l none _ _ rfl rfl w rfl,af _ _ _,s1,s2,rfl,Nat.le_refl _⟩
    | @hs _ _ _ _ cap adr hn' hlc _ hcap=>exact ⟨_,w,inj,l (some adr) _ _ rfl rfl w (by show (storeCells _ _).run P w = _;rw [h0];simp [storeCells]),af _ _ _,s1,s2,rfl,Nat.le_refl _⟩
  · cases av with
    | hsnil=>omega
    | @hs _ _ _ _ cap adr hn' hlc _ hcap=>
      obtain ⟨b,o,hi,rfl,ax⟩:=hcap q0
      rcases q3 with ⟨_,q4⟩ | ⟨b',o',arr,am,q3,q4,q5⟩
      · grind
      rw [hi] at q3;cases q3
      have hL : (L1.take (m * i.esize)).length = m * i.esize:=by rw [List.length_take,Nat.min_eq_left q0]
      have ae:=bk.take (m:=m) (by simp;omega)
      have bg : o + (off + cap) * i.esize≤arr.size:=by
        obtain ⟨c,e2,f,k1,k2⟩:=ax
        grind
      have cn : m * i.esize≤cap * i.esize:=Nat.mul_le_mul_right _ q0
      rw [Nat.add_mul] at bg
      have aa:=run_storeCells_at P b (o + off * i.esize) am (L1.take (m * i.esize)) 0 arr w q4 (by rw [hL];omega) (ae.one g7)
      simp only [Nat.add_zero] at aa
      have ao : (arr.toList.take (o + off * i.esize) ++ L1.take (m * i.esize) ++ arr.toList.drop (o + off * i.esize + (L1.take (m * i.esize)).length)).toArray = (splice arr.toList (o + off * i.esize) (L1.take (m * i.esize))).toArray:=rfl
      rw [ao] at aa
      have ap : o + off * i.esize + (L1.take (m * i.esize)).length≤arr.toList.length:=by rw [hL];simp;omega
      have ac : (splice arr.toList (o + off * i.esize) (L1.take (m * i.esize))).toArray.size = arr.size:=by simp only [List.size_toArray];rw [q27 _ _ _ ap];simp
      have hz : ∀ b1,Z b1→(w.setRow b (splice arr.toList (o + off * i.esize) (L1.take (m * i.esize))).toArray).heap[b1]? = w.heap[b1]?:=fun b1 bu=>
        setRow_other w b b1 _ (fun e=>h.heap.out n _ _ hb s hi (by rw [← e];exact bu))
      have bh:=q2u w b arr _ am (0,0) q4 ac
      have cj : (ys.take m).length = m:=by rw [List.length_take,Nat.min_eq_left q0]
      refine ⟨_,_,inj,l (some ⟨b,o + off * i.esize,none⟩) _ _ rfl rfl _ aa,af _ _ _,?_,Ext.set h.heap hb s hi q4 ac,rfl,Nat.le_refl _⟩
      refine h.heap.set hb s hi q4 ac (q6n (es:=i.esize) (xs:=splice (xs.map (·.map V.d)) off ((ys.map (·.map V.d)).take m)) ?_ g7 ?_ (.inr ⟨b,o,_,am,hi,setRow_heap w b _ _ _ _ q4,?_⟩))
      · simp only [rowsOf,splice,List.map_append,List.map_take,List.map_drop,Option.some.injEq,Prod.mk.injEq,true_and]
        simp
      · intro i' x' aq
        rw [U5 _ _ _ _ (by simp;omega)] at aq
        split at aq
        · exact ae.2.1 _ _ aq
        grind
      · refine (q5.spliceRows q2 ae (by simp;omega) (by rw [hL];omega)).mono fun v x hr=>hr.mono hz (fun _ h=>h) bh (fun _ _=>rfl) (Nat.le_refl _)
theorem qum {t ty : TypeId} {i : TI} {sv v : V} {vs : Value} {st1 : AS} (h : RelS w Z inj st a Ds) (ht : tiOf P t = some i) (bd : i.kind = .slice) (bf : J1 i.esize sv = true) (s : RelV w Z inj st.nx sv vs) (ha : Jx st i sv = some (v,st1)) :
    ∃ x w' inj',(Builtin.clear_ #[t] ty #[vs]).run P w = .ok x w'∧RelV w' Z inj' st1.nx v x∧RelH w' Z inj' st1.hp st1.nx∧Ext w Z inj st.hp w' Z inj' st1.hp st.nx∧st1.sl = st.sl∧st.nx≤st1.nx:=by
  obtain ⟨bn,d,z,k⟩:=Yt ht
  have hk:=k.kind
  unfold Zj at hk
  simp only [bd] at hk
  obtain ⟨e,ie,de,ze,rfl,g1,g2,g3,g4,g5,g6,g7,g8,g9,_⟩:=hk
  have aa : ∀ w' inj' nx',RelV w' Z inj' nx' (.d (.tup [])) (.tuple #[]):=fun _ _ _=>.d (.tup qe qe)
  cases sv <;> simp only [Jx,reduceCtorEq] at ha
  case d x=>
    cases x <;> simp only [reduceCtorEq,Option.some.injEq,Prod.mk.injEq] at ha
    obtain ⟨rfl,rfl⟩:=ha
    cases s with | d s=>
    cases s
    exact ⟨_,w,inj,by simp [Builtin.clear_,run_underlying k.und],aa _ _ _,h.heap,.refl,rfl,Nat.le_refl _⟩
  case hs n es off len=>
  have ba:=Nat.eq_of_beq_eq_true bf
  subst ba
  split at ha <;> try simp at ha
  rename_i k0 xs hb
  obtain ⟨⟨bz,rfl⟩,rfl,rfl⟩:=ha
  obtain ⟨q1,q2,q3⟩:=q6o (h.heap.blk n _ hb).2 rfl
  have m : live (.dat i.esize xs) = true:=rfl
  by_cases h0 : len = 0
  · subst h0
    have ai : splice xs off (List.replicate 0 i.ezero) = xs:=by simp [splice]
    have g : ∀ q,find (repl st.hp n (.dat i.esize (splice xs off (List.replicate 0 i.ezero)))) q = find st.hp q:=by
      intro q
      rw [ai,Z9]
      by_cases hq : n = q
      · subst hq;have : find st.hp n = some (.dat i.esize xs):=hb;simp [this]
      · simp [hq]
    have s1 : RelH w Z inj (repl st.hp n (.dat i.esize (splice xs off (List.replicate 0 i.ezero)))) st.nx:=
      ⟨fun q b hq=>h.heap.blk q b (by rw [g] at hq;exact hq),fun q r b c p' q' h1 h2=>h.heap.sep q r b c p' q' (by rw [g] at h1;exact h1) (by rw [g] at h2;exact h2),fun q b p' h1=>h.heap.out q b p' (by rw [g] at h1;exact h1),h.heap.zs,h.heap.zc⟩
    have s2 : Ext w Z inj st.hp w Z inj (repl st.hp n (.dat i.esize (splice xs off (List.replicate 0 i.ezero)))) st.nx:=
      {Ext.refl (w:=w) (Z:=Z) (inj:=inj) (hp:=st.hp) (pin:=st.nx) with imm:=fun b hb=>by obtain ⟨q,blk,o,h1,h2,h3⟩:=hb;rw [g] at h1;exact .inl ⟨q,blk,o,h1,h2,h3⟩}
    cases s with
    | hsnil=>exact ⟨_,w,inj,by simp [Builtin.clear_,run_underlying k.und],aa _ _ _,s1,s2,rfl,Nat.le_refl _⟩
    | @hs _ _ _ _ cap adr hn' hlc _ hcap=>exact ⟨_,w,inj,by simp [Builtin.clear_,run_underlying k.und],aa _ _ _,s1,s2,rfl,Nat.le_refl _⟩
  · cases s with
    | hsnil=>omega
    | @hs _ _ _ _ cap adr hn' hlc _ hcap=>
      obtain ⟨b,o,hi,rfl,an⟩:=hcap q0
      rcases q3 with ⟨_,q4⟩ | ⟨b',o',arr,ae,q3,q4,q5⟩
      · grind
      rw [hi] at q3;cases q3
      obtain ⟨p,ad⟩ : ∃ p,p = (Builtin.zeroCells ze.cells len).toList:=⟨_,rfl⟩
      have bb : ze.cells.size = i.esize:=by
        have:=(q8o (w:=w) (Z:=Z) g4).1
        omega
      have hL : p.length = len * i.esize:=by rw [ad];simp [Builtin.zeroCells,bb]
      have ab : ERel w Z inj st.nx i.esize ((List.replicate len i.ezero).map (·.map V.d)) p.toArray:=by
        refine ⟨by simp [hL],fun q x hx=>?_,fun q x j d hx hd=>?_⟩
        · grind
        · rw [List.getElem?_map,List.getElem?_replicate] at hx
          split at hx <;> simp at hx
          rename_i hq
          subst hx
          rw [List.getElem?_map] at hd
          cases ah : i.ezero[j]? with
          | none=>rw [ah] at hd;cases hd
          | some d'=>
            rw [ah] at hd;cases hd
            obtain ⟨c,hc,hr,af⟩:=qhk (w:=w) (Z:=Z) g4 g5 hq ah
            refine ⟨af,c,?_,.d hr⟩
            rw [ad,Array.toArray_toList]
            unfold Builtin.zeroCells
            grind
      have az : o + (off + cap) * i.esize≤arr.size:=by
        obtain ⟨c,e2,f,k1,k2⟩:=an
        grind
      have bw : len * i.esize≤cap * i.esize:=Nat.mul_le_mul_right _ q0
      rw [Nat.add_mul] at az
      have y:=run_storeCells_at P b (o + off * i.esize) ae p 0 arr w q4 (by rw [hL];omega) (ab.one g7)
      simp only [Nat.add_zero] at y
      have ai : (arr.toList.take (o + off * i.esize) ++ p ++ arr.toList.drop (o + off * i.esize + p.length)).toArray = (splice arr.toList (o + off * i.esize) p).toArray:=rfl
      rw [ai] at y
      have ag : o + off * i.esize + p.length≤arr.toList.length:=by rw [hL];simp;omega
      have u : (splice arr.toList (o + off * i.esize) p).toArray.size = arr.size:=by simp only [List.size_toArray];rw [q27 _ _ _ ag];simp
      have hz : ∀ b1,Z b1→(w.setRow b (splice arr.toList (o + off * i.esize) p).toArray).heap[b1]? = w.heap[b1]?:=fun b1 ay=>
        setRow_other w b b1 _ (fun e=>h.heap.out n _ _ hb m hi (by rw [← e];exact ay))
      have av:=q2u w b arr _ ae (0,0) q4 u
      have ao : (Builtin.clear_ #[t] ty #[.slice (some ⟨b,o + off * i.esize,none⟩) len cap]).run P w = .ok (.tuple #[]) (w.setRow b (splice arr.toList (o + off * i.esize) p).toArray):=by
        obtain ⟨l,rfl⟩ : ∃ l,len = l + 1:=⟨len - 1,q0⟩
        have ax : (zeroValue e).run P w = .ok ze w:=by simp [zeroValue,typeInfo,g1,g3]
        rw [ad] at y ⊢
        simp [Builtin.clear_,run_underlying k.und,ax,y]
      refine ⟨_,_,inj,ao,aa _ _ _,?_,Ext.set h.heap hb m hi q4 u,rfl,Nat.le_refl _⟩
      refine h.heap.set hb m hi q4 u (q6n (es:=i.esize) (xs:=splice (xs.map (·.map V.d)) off ((List.replicate len i.ezero).map (·.map V.d))) ?_ g7 ?_ (.inr ⟨b,o,_,ae,hi,setRow_heap w b _ _ _ _ q4,?_⟩))
      · simp only [rowsOf,splice,List.map_append,List.map_take,List.map_drop,Option.some.injEq,Prod.mk.injEq,true_and]
        simp
      · intro i' x' bg
        rw [U5 _ _ _ _ (by simp;omega)] at bg
        grind
      · refine (q5.spliceRows q2 ab (by simp;omega) (by rw [hL];omega)).mono fun v x hr=>hr.mono hz (fun _ h=>h) av (fun _ _=>rfl) (Nat.le_refl _)
end
end Go.Am
namespace Go.Am
open Go
variable {P : Program} {T : Tab}
def Yu (P : Program) (em : Bool) (k : Nat) (t : TypeId) (desc : TypeDesc) (n : Nat) : Prop:=
  ∀ w,(Kc desc = true→∀ X : Array Value,X.size = n→(Instr.checkKey em k t (.agg X)).run P w = .ok () w)∧(Kc desc = false→n = 1∧∀ x,(Instr.checkKey em k t x).run P w = .ok () w)
theorem qir {d : Bool} {k : Nat} {t : TypeId} {desc : TypeDesc} {b : TypeInfo} {n : Nat} (h : Yu P d k t desc n) (f : P.underlying t = some desc) (hi : P.info? t = some b) (hs : b.size = n) {X : Array Value} {o : Nat} (l : o + n≤X.size) (w : World) :
    ∃ v,(part t X o).run P w = .ok v w∧(Instr.checkKey d k t v).run P w = .ok () w:=by
  obtain ⟨g,c⟩:=h w
  cases a : Kc desc with
  | true=>exact ⟨.agg (X.extract o (o + n)),by simp [part,q2s f,a,Zh hi,hs],g a _ (by simp;omega)⟩
  | false=>
    obtain ⟨m,c⟩:=c a
    obtain ⟨x,j⟩:=Yg (xs:=X) (i:=o) q0
    exact ⟨x,by simp [part,q2s f,a,j],c x⟩
def qeo (em : Bool) (k : Nat) (X : Array Value) (f : Field) (_s : PUnit) : Sem (ForInStep PUnit):=
  if f.name ≠ "_" then do
    let __do_lift ← part f.type X f.offset
    Instr.checkKey em k f.type __do_lift
    pure (ForInStep.yield PUnit.unit)
  else pure (ForInStep.yield PUnit.unit)
theorem qoo {d : Nat} {t : TypeId} {ks : List (Option IntKind)} (h : Kh P d t = some ks) : ∃ a,P.underlying t = some a:=by
  cases b : P.underlying t with
  | none=>cases d <;> simp [Kh,b] at h
  | some a=>exact ⟨a,rfl⟩
theorem qip (h : Bool) (d k : Nat) (n : ∀ t desc ks,P.underlying t = some desc→Kh P d t = some ks→Yu P h k t desc ks.length) (X : Array Value) (w : World) : ∀ (l : List Field) (o : Nat) (ks : List (Option IntKind)),
    tile P (Kh P d) o l = some ks→o + ks.length≤X.size→(forIn l PUnit.unit (qeo h k X) : Sem PUnit).run P w = .ok PUnit.unit w
  | [],_,_,_,_=>by simp
  | f::l,o,ks,ht,hl=>by
    simp only [tile] at ht
    cases a : Kh P d f.type with
    | none=>simp [a] at ht
    | some ka=>
      simp only [a] at ht
      split at ht <;> try simp at ht
      rename_i c
      obtain ⟨rfl,q,r⟩:=c
      cases b : tile P (Kh P d) (f.offset + ka.length) l with
      | none=>simp [b] at ht
      | some kb=>
        simp only [b,Option.some.injEq] at ht;subst ht
        simp only [List.length_append] at hl
        obtain ⟨u,g⟩:=qoo a
        obtain ⟨x,j,m⟩:=qdt g
        obtain ⟨v,s,p⟩:=qir (n f.type u ka g a) g j q0 (X:=X) (o:=f.offset) q0 w
        have:=qip h d k n X w l (f.offset + ka.length) kb b q0
        rw [List.forIn_cons]
        simp only [qeo,qq q,Sem.run_bind,s,p,Result.andThen_ok]
        simpa using this
def qep (em : Bool) (k : Nat) (e : TypeId) (X : Array Value) (i : Nat) (_s : PUnit) : Sem (ForInStep PUnit):=do
  let __do_lift ← sizeOf e
  let __do_lift ← part e X (i * __do_lift)
  Instr.checkKey em k e __do_lift
  pure (ForInStep.yield PUnit.unit)
theorem qiq {c : Bool} {k : Nat} {e : TypeId} {desc : TypeDesc} {a : TypeInfo} {n : Nat} (b : Yu P c k e desc n) (d : P.underlying e = some desc) (hi : P.info? e = some a) (hs : a.size = n) {X : Array Value} (w : World) :
    ∀ (m s : Nat),(s + m) * n≤X.size→(forIn (List.range' s m) PUnit.unit (qep c k e X) : Sem PUnit).run P w = .ok PUnit.unit w
  | 0,s,_=>by simp
  | m + 1,s,hl=>by
    have h : s * n + n = (s + 1) * n:=by rw [Nat.add_mul];simp
    have j : (s + (m + 1)) * n = (s + 1) * n + m * n:=by rw [← Nat.add_mul];congr 1;omega
    obtain ⟨v,g,f⟩:=qir b d hi hs (X:=X) (o:=s * n) q0 w
    have:=qiq b d hi hs w m (s + 1) (X:=X) (by rw [Nat.add_mul (s + 1)];omega)
    rw [List.range'_succ,List.forIn_cons]
    simp only [qep,Sem.run_bind,Zh hi,hs,g,f,Result.andThen_ok]
    simpa using this
theorem qeq (f : Bool) : ∀ (d : Nat) (t : TypeId) (desc : TypeDesc) (ks : List (Option IntKind)),P.underlying t = some desc→Kh P d t = some ks→∀ k,d≤k→Yu P f k t desc ks.length
  | 0,t,desc,ks,hu,hp,k,hk=>by simp [Kh] at hp
  | d + 1,t,desc,ks,hu,hp,k,hk=>by
    obtain ⟨k,rfl⟩ : ∃ o,k = o + 1:=⟨k - 1,q0⟩
    intro w
    simp only [Kh,hu] at hp
    cases desc <;> simp only [reduceCtorEq,Option.some.injEq] at hp
    case bool=>subst hp;exact ⟨by simp [Kc],fun _=>⟨rfl,fun x=>by unfold Instr.checkKey;simp [run_underlying hu]⟩⟩
    case int k0=>subst hp;exact ⟨by simp [Kc],fun _=>⟨rfl,fun x=>by unfold Instr.checkKey;simp [run_underlying hu]⟩⟩
    case struct fs=>
      refine ⟨fun _ X r=>?_,by simp [Kc]⟩
      split at hp
      · simp at hp
      · have:=qip (P:=P) f d k (fun t desc ks m p=>qeq f d t desc ks m p k q0) X w fs.toList 0 ks hp q0
        rw [Array.forIn_toList] at this
        unfold qeo at this
        unfold Instr.checkKey
        simp only [Sem.run_bind,run_underlying hu,Result.andThen_ok]
        rw [this]
        simp
    case array n e=>
      refine ⟨fun _ X r=>?_,by simp [Kc]⟩
      cases b : Kh P d e with
      | none=>simp [b] at hp
      | some a=>
        simp only [b] at hp
        split at hp
        · rename_i l
          simp only [Option.some.injEq] at hp;subst hp
          obtain ⟨q,c⟩:=qoo b
          obtain ⟨s,g,h⟩:=qdt c
          have j : (List.replicate n a).flatten.length = n * a.length:=by simp
          have:=qiq (qeq f d e q a c b k q0) c g q0 w n 0 (X:=X) (by rw [Nat.zero_add];omega)
          unfold Instr.checkKey
          simp only [Sem.run_bind,run_underlying hu,Result.andThen_ok,Std.Legacy.Range.forIn_eq_forIn_range',Std.Legacy.Range.size,Nat.sub_zero,Nat.add_sub_cancel,Nat.div_one]
          unfold qep at this
          rw [this]
          simp
        · simp at hp
section
variable {w w' : World} {Z : Nat→Prop} {inj : Inj}
theorem qbx {d : DV} {v : Value} (h : RelD w Z d v) : DRel w Z [d] #[v]:=⟨rfl,fun i x y a b=>by
  cases i with
  | zero=>simp at a b;subst a b;exact h
  | succ i=>simp at a⟩
theorem q8z {d : DV} {v : Value} (h : RelD w Z d v) (a : Zt d = true) : ∃ cs,v = .agg cs∧DRel w Z (cellsD d) cs:=by
  cases h <;> simp [Zt] at a
  rename_i ds cs b c
  exact ⟨cs,rfl,b,c⟩
theorem q5k {d : DV} (a : Zt d = false) : cellsD d = [d]:=by cases d <;> simp_all [Zt,cellsD]
theorem qkv {d : TypeId} {desc : TypeDesc} {ks : List (Option IntKind)} (k : P.underlying d = some desc) (hp : Kh P 8 d = some ks) {a b : DV} {u v : Value} (j : RelD w Z a u) (hb : RelD w Z b v)
    (g : Zt a = Kc desc) (h : Zt b = Kc desc) {r : Bool} (f : Kf ks (cellsD a) (cellsD b) = some r) : (Op.equal d u v).run P w = .ok r w:=by
  have key:=qc0 (P:=P) (w:=w) (Z:=Z) 8 d desc ks k hp Op.maxDepth (by unfold Op.maxDepth;omega)
  cases c : Kc desc with
  | true=>
    obtain ⟨X,rfl,m⟩:=q8z j (g.trans c)
    obtain ⟨Y,rfl,l⟩:=q8z hb (h.trans c)
    exact (key _ _ _ _ r m l f).1 c
  | false=>
    rw [q5k (g.trans c),q5k (h.trans c)] at f
    exact ((key _ _ _ _ r (qbx j) (qbx hb) f).2 c).2 u v rfl rfl
theorem qgo {j : TypeId} {desc : TypeDesc} {ks : List (Option IntKind)} (l : P.underlying j = some desc) (hp : Kh P 8 j = some ks) {a b : DV} {u v : Value} (h : RelD w Z a u) (hb : RelD w Z b v) (d : Kc desc = false)
    {r : Bool} (c : Kf ks [a] [b] = some r) : Instr.sameNow desc u v = some r:=by
  simp only [Kh,l] at hp
  cases desc <;> simp only [reduceCtorEq,Option.some.injEq] at hp <;> try (simp [Kc] at d;done)
  case bool=>
    subst hp
    simp only [Kf] at c
    cases a <;> cases b <;> simp only [q2e,reduceCtorEq] at c
    simp at c;subst c
    cases h;cases hb;rfl
  case int k0=>
    subst hp
    simp only [Kf] at c
    cases a <;> cases b <;> simp only [q2e,reduceCtorEq] at c
    split at c <;> simp at c
    rename_i f k
    split at f <;> simp at f
    rename_i g
    obtain ⟨rfl,rfl⟩:=g
    subst f c
    simp at k;subst k
    cases h;cases hb;simp [Instr.sameNow]
def Ents (w : World) (Z : Nat→Prop) (es : List (DV × DV)) (ents : List MapEntry) : Prop:=
  ents.length = es.length∧∀ (i : Nat) (e : DV × DV) (x : MapEntry),es[i]? = some e→ents[i]? = some x→RelD w Z e.1 x.key∧RelD w Z e.2 x.val∧Yj e.2 = true
theorem Ents.tail {e : DV × DV} {es : List (DV × DV)} {x : MapEntry} {a : List MapEntry} (h : Ents w Z (e::es) (x::a)) : RelD w Z e.1 x.key∧Ents w Z es a:=
  ⟨(h.2 0 e x rfl rfl).1,by simpa using h.1,fun i b c d f=>h.2 (i + 1) b c (by simpa using d) (by simpa using f)⟩
theorem qf5 {m : TypeId} {desc : TypeDesc} {ks : List (Option IntKind)} (g : P.underlying m = some desc) (hp : Kh P 8 m = some ks) {a : DV} {u : Value} (j : RelD w Z a u) (f : Kc desc = false) :
    ∀ (es : List (DV × DV)) (d : List MapEntry) (s : Nat) (r : Option Nat),Ents w Z es d→Zn false ks a es = some r→Instr.findNow desc u d s = some (r.bind fun i=>(d[i]?).map fun x=>(s + i,x.val))
  | [],[],s,r,_,hm=>by simp only [Zn,Option.some.injEq] at hm;subst hm;rfl
  | [],x::d,_,_,h,_=>by have:=h.1;simp at this
  | e::es,[],_,_,h,_=>by have:=h.1;simp at this
  | (b,c)::es,x::d,s,r,h,hm=>by
    obtain ⟨l,o⟩:=h.tail
    simp only [Zn] at hm
    split at hm <;> try simp at hm
    rename_i n
    rw [q5k n.1,q5k n.2] at hm
    split at hm <;> try simp at hm
    · rename_i k
      subst hm
      simp [Instr.findNow,qgo g hp j l f k]
    · rename_i k
      split at hm <;> simp at hm
      · rename_i i hi
        subst hm
        have:=qf5 g hp j f es d (s + 1) _ o hi
        simp only [Instr.findNow,qgo g hp j l f k,this]
        simp [Nat.add_comm,Nat.add_left_comm]
      · rename_i hi
        subst hm
        have:=qf5 g hp j f es d (s + 1) _ o hi
        simp only [Instr.findNow,qgo g hp j l f k,this]
        rfl
theorem qf4 {l : TypeId} {desc : TypeDesc} {ks : List (Option IntKind)} (g : P.underlying l = some desc) (hp : Kh P 8 l = some ks) {a : DV} {u : Value} (j : RelD w Z a u) (f : Kc desc = true) :
    ∀ (es : List (DV × DV)) (d : List MapEntry) (s : Nat) (r : Option Nat),Ents w Z es d→Zn true ks a es = some r→(Instr.findAsking l u d s).run P w = .ok (r.bind fun i=>(d[i]?).map fun x=>(s + i,x.val)) w
  | [],[],s,r,_,hm=>by simp only [Zn,Option.some.injEq] at hm;subst hm;simp [Instr.findAsking]
  | [],x::d,_,_,h,_=>by have:=h.1;simp at this
  | e::es,[],_,_,h,_=>by have:=h.1;simp at this
  | (b,c)::es,x::d,s,r,h,hm=>by
    obtain ⟨o,p⟩:=h.tail
    simp only [Zn] at hm
    split at hm <;> try simp at hm
    rename_i k
    split at hm <;> try simp at hm
    · rename_i m
      subst hm
      simp [Instr.findAsking,qkv g hp j o (k.1.trans f.symm) (k.2.trans f.symm) m]
    · rename_i m
      have n:=qkv g hp j o (k.1.trans f.symm) (k.2.trans f.symm) m
      split at hm <;> simp at hm
      · rename_i i hi
        subst hm
        have:=qf4 g hp j f es d (s + 1) _ p hi
        simp only [Instr.findAsking,Sem.run_bind,n,Result.andThen_ok,Bool.false_eq_true,if_false,this]
        simp [Nat.add_comm,Nat.add_left_comm]
      · rename_i hi
        subst hm
        have:=qf4 g hp j f es d (s + 1) _ p hi
        simp only [Instr.findAsking,Sem.run_bind,n,Result.andThen_ok,Bool.false_eq_true,if_false,this]
        rfl
theorem qro {g : TypeId} {desc : TypeDesc} {ks : List (Option IntKind)} (d : P.underlying g = some desc) (hp : Kh P 8 g = some ks) {a : DV} {u : Value} (j : RelD w Z a u) (l : Zt a = Kc desc)
    {es : List (DV × DV)} {b : List MapEntry} {r : Option Nat} (h : Ents w Z es b) (f : Zn (Kc desc) ks a es = some r) : (Instr.findKey g u b).run P w = .ok (r.bind fun i=>(b[i]?).map fun x=>(i,x.val)) w:=by
  cases c : Kc desc with
  | false=>
    rw [c] at f
    have:=qf5 d hp j c es b 0 r h f
    simp only [Nat.zero_add] at this
    simp only [Instr.findKey,Sem.run_bind,run_underlying d,Result.andThen_ok,this]
    simp
  | true=>
    rw [c] at f
    have:=qf4 d hp j c es b 0 r h f
    simp only [Nat.zero_add] at this
    cases b with
    | nil=>
      rw [← this]
      simp [Instr.findKey,run_underlying d,Instr.findNow,Instr.findAsking]
    | cons e es=>
      have k : Instr.findNow desc u (e::es) 0 = none:=by
        cases desc <;> simp [Kc] at c <;> simp [Instr.findNow,Instr.sameNow]
      simp only [Instr.findKey,Sem.run_bind,run_underlying d,Result.andThen_ok,k]
      exact this
theorem qek : ∀ {ks : List (Option IntKind)} {xs ys : List DV} {X Y : List Value},Kf ks xs ys = some true→(X.length = xs.length)→(Y.length = ys.length)→
    (∀ (i : Nat) (d : DV) (c : Value),xs[i]? = some d→X[i]? = some c→RelD w Z d c)→(∀ (i : Nat) (d : DV) (c : Value),ys[i]? = some d→Y[i]? = some c→RelD w Z d c)→∀ n,X.length = Y.length∧(Y.zip X).all (fun (x,y)=>Instr.sameBits n x y) = true
  | [],[],[],[],[],_,_,_,_,_,n=>⟨rfl,rfl⟩
  | [],[],[],_::_,_,_,h,_,_,_,_=>by simp at h
  | [],[],[],[],_::_,_,_,h,_,_,_=>by simp at h
  | [],[],_::_,_,_,h,_,_,_,_,_=>by simp [Kf] at h
  | [],_::_,_,_,_,h,_,_,_,_,_=>by simp [Kf] at h
  | _::_,[],_,_,_,h,_,_,_,_,_=>by simp [Kf] at h
  | _::_,_::_,[],_,_,h,_,_,_,_,_=>by simp [Kf] at h
  | k::ks,a::xs,b::ys,[],_,_,h,_,_,_,_=>by simp at h
  | k::ks,a::xs,b::ys,_::_,[],_,_,h,_,_,_=>by simp at h
  | k::ks,a::xs,b::ys,x::X,y::Y,h,l1,l2,r1,r2,n=>by
    simp only [Kf] at h
    split at h <;> simp at h
    rename_i p q hp o
    obtain ⟨rfl,rfl⟩:=h
    obtain ⟨m,r⟩:=qek o (by simpa using l1) (by simpa using l2) (fun i d c hd g=>r1 (i + 1) d c (by simpa using hd) (by simpa using g)) (fun i d c hd g=>r2 (i + 1) d c (by simpa using hd) (by simpa using g)) n
    have l:=r1 0 a x rfl rfl
    have j:=r2 0 b y rfl rfl
    refine ⟨by simp [m],?_⟩
    simp only [List.zip_cons_cons,List.all_cons,r,Bool.and_true]
    cases k with
    | none=>
      cases a <;> cases b <;> simp only [q2e,reduceCtorEq] at hp
      simp at hp;subst hp
      cases l;cases j;cases n <;> simp [Instr.sameBits]
    | some k=>
      cases a <;> cases b <;> simp only [q2e,reduceCtorEq] at hp
      split at hp <;> simp at hp
      rename_i f
      obtain ⟨rfl,rfl⟩:=f
      subst hp
      cases l;cases j;cases n <;> simp [Instr.sameBits]
theorem qsx {ks : List (Option IntKind)} {ag : Bool} {a b : DV} {u v : Value} (n : RelD w Z a u) (hb : RelD w Z b v) (k : Zt a = ag) (m : Zt b = ag) (h : Kf ks (cellsD a) (cellsD b) = some true) :
    (Instr.keyThatStays v u).run P w = .ok u w:=by
  have hs : Instr.sameBits 10000 v u = true:=by
    cases ag with
    | true=>
      obtain ⟨X,rfl,f,g⟩:=q8z n k
      obtain ⟨Y,rfl,o,p⟩:=q8z hb m
      obtain ⟨l,r⟩:=qek (X:=X.toList) (Y:=Y.toList) h (by simpa using f.symm) (by simpa using o.symm) (fun i d c hd j=>g i d c hd (by simpa using j)) (fun i d c hd j=>p i d c hd (by simpa using j)) 9999
      have q : (Y.size == X.size) = true:=by simp at l;simp [l]
      show (Y.size == X.size && (Y.toList.zip X.toList).all fun (x,y)=>Instr.sameBits 9999 x y) = true
      grind
    | false=>
      rw [q5k k,q5k m] at h
      have:=(qek (X:=[u]) (Y:=[v]) h rfl rfl (fun i d c f g=>(qbx n).2 i d c f (by simpa using g)) (fun i d c f g=>(qbx hb).2 i d c f (by simpa using g)) 10000).2
      simp_all
  simp [Instr.keyThatStays,hs]
end
theorem qk4 {w : World} {a : Addr} (h : ∀ c e f,w.heap[a.block]?≠some (.cells c e f)) : w.frozen? a = false:=by
  unfold World.frozen?
  grind
theorem qf8 {w : World} {b : Nat} {o : Obj} (h : ∀ c e f,w.heap[b]?≠some (.cells c e f)) (g : ∀ c e f,o≠.cells c e f) (a : Addr) : (w.putObj b o).frozen? a = w.frozen? a:=by
  by_cases hb : a.block = b
  · subst hb
    rw [qk4 h,qk4]
    intro c e f
    by_cases d : a.block < w.heap.size
    · rw [World.putObj_heap_same d];intro j;exact g _ _ _ (qdy j)
    simp_all
  · simp only [World.frozen?,World.putObj_heap_other hb]
theorem q5h {w : World} {b : Nat} {es : Array MapEntry} {cl : Nat} (hb : w.heap[b]? = some (.map es cl)) : (getObj b).run P w = .ok (.map es cl) w:=by simp [getObj,Sem.run,hb]
theorem qd2 {w : World} {b : Nat} {es : Array MapEntry} {cl : Nat} (o : Obj) (hb : w.heap[b]? = some (.map es cl)) : (setObj b o).run P w = .ok () (w.putObj b o):=by simp [setObj,Sem.run,hb,World.putObj]
section
variable {w : World} {Z : Nat→Prop} {inj : Inj} {hp : List (Nat × Blk)} {nx pin : Nat}
theorem qwt {n : Nat} {es : List (DV × DV)} (h : RelB w Z inj nx n (.mp es)) : ∃ b a cl,inj n = some (b,0)∧w.heap[b]? = some (.map a cl)∧Ents w Z es a.toList:=by
  obtain ⟨b,a,cl,c,g,d,j⟩:=h
  exact ⟨b,a,cl,c,g,by simpa using d,fun i e x k f=>j i e x k (by simpa using f)⟩
theorem qmo (h : RelH w Z inj hp nx) {n : Nat} {es j : List (DV × DV)} (u : find hp n = some (.mp es)) {b : Nat} (hi : inj n = some (b,0)) {ae a : Array MapEntry} {cl cl' : Nat} (hb : w.heap[b]? = some (.map ae cl))
    (hE : Ents w Z j a.toList) : RelH (w.putObj b (.map a cl')) Z inj (repl hp n (.mp j)) nx∧Ext w Z inj hp (w.putObj b (.map a cl')) Z inj (repl hp n (.mp j)) pin:=by
  have g : ∀ k,k≠b→(w.putObj b (.map a cl')).heap[k]? = w.heap[k]?:=fun k l=>World.putObj_heap_other l
  have ah : ¬ Z b:=fun hz=>by
    obtain ⟨c,e,f,hc⟩:=h.zc b hz
    grind
  have y : Zy w (w.putObj b (.map a cl')):=fun k c e f l=>by grind
  have hz : ∀ k,Z k→(w.putObj b (.map a cl')).heap[k]? = w.heap[k]?:=fun k l=>g k (fun e=>ah (e ▸ l))
  have d : ∀ m c,find (repl hp n (.mp j)) m = some c→(m = n∧c = .mp j)∨(m≠n∧find hp m = some c):=by
    intro m c hm
    rw [Z9] at hm
    grind
  have ad : ∀ k,im (repl hp n (.mp j)) inj k→im hp inj k:=by
    rintro k ⟨m,c,o,z,h2,s⟩
    rcases d m c z with ⟨rfl,rfl⟩ | ⟨_,t⟩
    · exact ⟨m,_,o,u,rfl,s⟩
    · exact ⟨m,c,o,t,h2,s⟩
  have ac : RelB (w.putObj b (.map a cl')) Z inj nx n (.mp j):=by
    refine ⟨b,a,cl',hi,World.putObj_heap_same (Ja hb),by simpa using hE.1,fun i e x he hx=>?_⟩
    obtain ⟨g1,g2,g3⟩:=hE.2 i e x he (by simpa using hx)
    exact ⟨g1.mono hz (fun _ h=>h),g2.mono hz (fun _ h=>h),g3⟩
  refine ⟨⟨?_,?_,?_,?_,?_⟩,⟨qe,?_,fun k l=>.inl (ad k l),y,?_,fun _ h=>h,fun _ h=>.inl h,fun _ _=>rfl,rfl,rfl,rfl,qf8 (fun _ _ _=>by rw [hb];simp) (fun _ _ _=>qe)⟩⟩
  · intro m c hm
    rcases d m c hm with ⟨rfl,rfl⟩ | ⟨r,t⟩
    · exact ⟨(h.blk _ _ u).1,ac⟩
    · obtain ⟨v,h6⟩:=h.blk m c t
      exact ⟨v,h6.mono hz (fun _ h=>h) y (fun _ _=>rfl) (Nat.le_refl _) v fun p hp aj=>g _ fun e=>h.sep m n c _ p (b,0) t u aj rfl hp hi r e⟩
  · intro m m' c c' p q z h2 s t v h6 r
    rcases d m c z with ⟨rfl,rfl⟩ | ⟨e1,k1⟩ <;> rcases d m' c' h2 with ⟨rfl,rfl⟩ | ⟨e2,k2⟩
    · omega
    · exact h.sep _ _ _ _ p q u k2 rfl t v h6 r
    · exact h.sep _ _ _ _ p q k1 u s rfl v h6 r
    · exact h.sep _ _ _ _ p q k1 k2 s t v h6 r
  · intro m c p z h2 s
    rcases d m c z with ⟨rfl,rfl⟩ | ⟨e1,k1⟩
    · grind
    · exact h.out _ _ p k1 h2 s
  · intro k l;simpa using h.zs k l
  · intro k l
    obtain ⟨c,e,f,hc⟩:=h.zc k l
    grind
  · intro k _ l
    exact g k fun e=>l ⟨n,_,0,u,rfl,e ▸ hi⟩
  · intro k x l
    grind
end
section
variable {w : World} {Z : Nat→Prop} {inj : Inj} {st : AS} {a : Act} {Ds : List Nat}
theorem quz {t : TypeId} (h : RelS w Z inj st a Ds) : Kj st (st.new (.mp [])) (.mp st.nx) w Z inj ((do pure (Next.value (← Instr.makeMap t none)) : Sem Next).run P w):=by
  refine .new (o:=.map #[] 0) (x:=.map (some w.heap.size)) h ?_ ?_ (.mp q0 (Y4 _ _ _))
  · simp [Instr.makeMap]
  · exact ⟨w.heap.size,#[],0,Y4 _ _ _,Jv w _,rfl,qe⟩
theorem q5r {t : TypeId} {i : TI} {ks : List (Option IntKind)} {n : Nat} {es : List (DV × DV)} {o : DV} {mv q : Value} {r : Option Nat} (h : RelS w Z inj st a Ds) (ht : tiOf P t = some i) (hk : i.keys = some ks) (hm : RelV w Z inj st.nx (.mp n) mv)
    (hb : st.blk n = some (.mp es)) (l : RelD w Z o q) (m : Ui i.eagg ks o = true) (hf : Zn i.eagg ks o es = some r) :
    ∃ j et b c cl,P.underlying t = some (.map j et)∧mv = .map (some b)∧inj n = some (b,0)∧w.heap[b]? = some (.map c cl)∧Ents w Z es c.toList∧(∀ y,(Instr.checkKey y 10000 j q).run P w = .ok () w)∧
      (Instr.findKey j q c.toList).run P w = .ok (r.bind fun i=>(c[i]?).map fun x=>(i,x.val)) w∧∃ s u,i.ezero = [s]∧(zeroValue et).run P w = .ok u w∧RelD w Z s u:=by
  obtain ⟨ak,d,z,k⟩:=Yt ht
  have g:=k.kind
  unfold Zj at g
  rw [k.keys ks hk] at g
  obtain ⟨j,e,ie,u,s,ar,dk,rfl,g1,g2,g3,g4,g5,g6,g7,g8,_⟩:=g
  rw [hk] at g6;cases g6
  have f : Zt o = i.eagg∧(cellsD o).length = ks.length:=by
    simp only [Ui,Bool.and_eq_true,beq_iff_eq] at m
    simp_all
  obtain ⟨f,p⟩:=f
  cases hm with
  | @mp _ b hn hi=>
  obtain ⟨b',c,cl,e1,e2,e3⟩:=qwt (h.heap.blk n _ hb).2
  rw [hi] at e1;cases e1
  rw [g8] at f hf
  refine ⟨j,e,b,c,cl,k.und,rfl,hi,e2,e3,fun y=>?_,?_,s,u,g7,?_,(qet g3).1⟩
  · have hc:=qeq y 8 j dk ks g5 g4 10000 q0 w
    cases v : Kc dk with
    | true=>
      obtain ⟨X,rfl,hX⟩:=q8z l (f.trans v)
      exact (hc.1 v) X (hX.1.symm.trans p)
    | false=>exact (hc.2 v).2 q
  · have:=qro g5 g4 l f e3 hf
    grind
  · simp [zeroValue,typeInfo,g1,g2]
theorem qey {es : List (DV × DV)} {a : List MapEntry} (h : Ents w Z es a) {j : Nat} {e : DV × DV} (b : es[j]? = some e) : ∃ x,a[j]? = some x∧RelD w Z e.1 x.key∧RelD w Z e.2 x.val∧Yj e.2 = true:=by
  obtain ⟨x,c⟩:=Zr (xs:=a) (i:=j) (by rw [h.1];exact Ke b)
  exact ⟨x,c,h.2 j e x b c⟩
theorem qfx {ag : Bool} {ks : List (Option IntKind)} {k : DV} : ∀ {es : List (DV × DV)} {j : Nat},Zn ag ks k es = some (some j)→∃ e,es[j]? = some e∧Zt e.1 = ag∧Kf ks (cellsD k) (cellsD e.1) = some true
  | [],j,h=>by simp [Zn] at h
  | (b,c)::es,j,h=>by
    simp only [Zn] at h
    split at h <;> try simp at h
    rename_i f
    split at h <;> try simp at h
    · rename_i a;subst h;exact ⟨_,rfl,f.2,a⟩
    · split at h <;> simp at h
      rename_i i hi
      subst h
      obtain ⟨e,d,g⟩:=qfx hi
      exact ⟨e,by simpa using d,g⟩
theorem qux {t : TypeId} {x y : Operand} {ok : Bool} {i : TI} {ks : List (Option IntKind)} {n : Nat} {es : List (DV × DV)} {kd z : DV} {e : DV × Bool} (h : RelS w Z inj st a Ds) (ht : tiOf P t = some i) (hk : i.keys = some ks) (hx : st.ev x = some (.mp n)) (hy : st.ev y = some (.d kd))
    (hb : st.blk n = some (.mp es)) (hz : i.ezero = [z]) (g : Ui i.eagg ks kd = true) (m : mget i.eagg ks z kd es = some e) :
    Kj st st (.d (bif ok then .tup [e.1,.bool e.2] else e.1)) w Z inj ((do pure (Next.value (← Instr.lookup t (a.eval x) (a.eval y) ok)) : Sem Next).run P w):=by
  have hm:=Ka h hx
  have f:=Ka h hy
  generalize a.eval x = mv at hm ⊢
  generalize a.eval y = kv at f ⊢
  cases f with | d f=>
  have fin : ∀ (u : Value) (o : Bool) (r : DV),RelD w Z r u→e = (r,o)→(Instr.lookup t mv kv ok).run P w = .ok (if ok then .tuple #[u,.bool o] else u) w→Kj st st (.d (bif ok then .tup [e.1,.bool e.2] else e.1)) w Z inj ((do pure (Next.value (← Instr.lookup t mv kv ok)) : Sem Next).run P w):=by
    rintro u o r hr rfl p
    refine .quiet h (Ki p) (.d ?_)
    cases ok with
    | false=>exact hr
    | true=>
      refine .tup rfl fun i d c hd l=>?_
      match i,hd,l with
      | 0,hd,l=>simp at hd l;subst hd l;exact hr
      | 1,hd,l=>simp at hd l;subst hd l;exact .bool _
      | i + 2,hd,_=>simp at hd
  unfold mget at m
  split at m <;> try simp at m
  · rename_i j hf
    obtain ⟨a1,b1,s,rfl⟩:=m
    obtain ⟨kt,et,b,k,cl,g1,rfl,g3,v,g5,g6,q,_⟩:=q5r h ht hk hm hb f g hf
    obtain ⟨u,hu,q1,q2,q3⟩:=qey g5 s
    refine fin u.val true _ q2 rfl ?_
    have ae : k[j]? = some u:=by simpa using hu
    simp [Instr.lookup,run_underlying g1,q5h v,g6,q,ae]
  · rename_i hf
    subst m
    obtain ⟨kt,et,b,k,cl,g1,rfl,g3,v,g5,g6,q,zd,ze,g8,g9,ad⟩:=q5r h ht hk hm hb f g hf
    rw [hz] at g8;cases g8
    refine fin ze false _ ad rfl ?_
    simp only [Option.bind_none] at q
    simp [Instr.lookup,run_underlying g1,q5h v,g6,q,g9]
theorem qrd {es : List (DV × DV)} {a : List MapEntry} (h : Ents w Z es a) {f b : DV} {x : MapEntry} (g : RelD w Z f x.key) (k : RelD w Z b x.val) (j : Yj b = true) : Ents w Z (es ++ [(f,b)]) (a ++ [x]):=by
  refine ⟨by simp [h.1],fun i e y d c=>?_⟩
  by_cases hi : i < es.length
  · rw [List.getElem?_append_left hi] at d
    rw [List.getElem?_append_left (by rw [h.1];exact hi)] at c
    exact h.2 i e y d c
  · rw [List.getElem?_append_right q0] at d
    rw [List.getElem?_append_right (by rw [h.1];omega),h.1] at c
    grind
theorem qre {es : List (DV × DV)} {a : List MapEntry} (h : Ents w Z es a) {j : Nat} {g b : DV} {x : MapEntry} (k : RelD w Z g x.key) (m : RelD w Z b x.val) (l : Yj b = true) : Ents w Z (es.set j (g,b)) (a.set j x):=by
  refine ⟨by simp [h.1],fun i e y d c=>?_⟩
  rw [List.getElem?_set] at d c
  by_cases f : j = i
  · grind
  · rw [qp f] at d c;exact h.2 i e y d c
theorem qrc {es : List (DV × DV)} {a : List MapEntry} (h : Ents w Z es a) (j : Nat) : Ents w Z (es.eraseIdx j) (a.eraseIdx j):=by
  refine ⟨by simp [List.length_eraseIdx,h.1],fun i e y c b=>?_⟩
  rw [List.getElem?_eraseIdx] at c b
  split at c
  · rename_i hi;rw [qq hi] at b;exact h.2 i e y c b
  · rename_i hi;rw [qp hi] at b;exact h.2 (i + 1) e y c b
theorem qv1 {t : TypeId} {m x y : Operand} {i : TI} {ks : List (Option IntKind)} {n : Nat} {es o : List (DV × DV)} {kd vd : DV} (h : RelS w Z inj st a Ds) (ht : tiOf P t = some i) (hk : i.keys = some ks) (v : st.ev m = some (.mp n)) (hx : st.ev x = some (.d kd)) (hy : st.ev y = some (.d vd))
    (hb : st.blk n = some (.mp es)) (k : Ui i.eagg ks kd = true) (hc : Yj vd = true) (r : mput i.eagg ks kd vd es = some o) :
    Kj st (st.setBlk n (.mp o)) .dead w Z inj ((do Instr.mapUpdate t (a.eval m) (a.eval x) (a.eval y);pure Next.skip : Sem Next).run P w):=by
  have v:=Ka h v
  have f:=Ka h hx
  have l:=Ka h hy
  generalize a.eval m = mv at v ⊢
  generalize a.eval x = kv at f ⊢
  generalize a.eval y = vv at l ⊢
  cases f with | d f=>
  cases l with | d l=>
  have q : Zt kd = i.eagg:=by simp only [Ui,Bool.and_eq_true,beq_iff_eq] at k;exact k.1
  have fin : ∀ b c cl g cl',inj n = some (b,0)→w.heap[b]? = some (.map c cl)→Ents w Z o g.toList→(Instr.mapUpdate t mv kv vv).run P w = .ok () (w.putObj b (.map g cl'))→
      Kj st (st.setBlk n (.mp o)) .dead w Z inj ((do Instr.mapUpdate t mv kv vv;pure Next.skip : Sem Next).run P w):=by
    intro b c cl g cl' hi hh hE s
    obtain ⟨z,g2⟩:=qmo (pin:=st.nx) (cl':=cl') h.heap hb hi hh hE
    exact ⟨undef,_,inj,.inr ⟨by simp [s],rfl⟩,.dead _,z,g2,rfl,Nat.le_refl _⟩
  unfold mput at r
  split at r <;> try simp at r
  · rename_i j hf
    subst r
    obtain ⟨kt,et,b,c,cl,z,rfl,g3,p,g5,g6,g7,_⟩:=q5r h ht hk v hb f k hf
    obtain ⟨e,he,e1,e2⟩:=qfx hf
    obtain ⟨u,hu,q1,q2,q3⟩:=qey g5 he
    have ah : c[j]? = some u:=by simpa using hu
    have ai:=qsx (P:=P) f q1 q e1 e2
    refine fin b c cl (c.modify j fun e=>{e with key:=kv,val:=vv}) cl g3 p ?_ ?_
    · have : (c.modify j fun e=>{e with key:=kv,val:=vv}).toList = c.toList.set j {u with key:=kv,val:=vv}:=by
        apply List.ext_getElem?
        grind
      rw [this]
      exact qre g5 f l hc
    · simp [Instr.mapUpdate,run_underlying z,q5h p,g6,g7,ah,ai,qd2 _ p]
  · rename_i hf
    subst r
    obtain ⟨kt,et,b,c,cl,z,rfl,g3,p,g5,g6,g7,_⟩:=q5r h ht hk v hb f k hf
    simp only [Option.bind_none] at g7
    refine fin b c cl (c.push {key:=kv,val:=vv,born:=cl}) (cl + 1) g3 p ?_ ?_
    · rw [Array.toList_push];exact qrd g5 f l hc
    · simp [Instr.mapUpdate,run_underlying z,q5h p,g6,g7,qd2 _ p]
theorem quq {x : Array TypeId} {ty t : TypeId} {mv v : Value} {i : TI} {ks : List (Option IntKind)} {n : Nat} {es k : List (DV × DV)} {kd : DV} (h : RelS w Z inj st a Ds) (ht : tiOf P t = some i) (p : x[0]? = some t) (hk : i.keys = some ks) (hm : RelV w Z inj st.nx (.mp n) mv) (r : RelD w Z kd v)
    (hb : st.blk n = some (.mp es)) (l : Ui i.eagg ks kd = true) (o : mdel i.eagg ks kd es = some k) :
    Kj st (st.setBlk n (.mp k)) (.d (.tup [])) w Z inj ((do pure (Next.value (← Builtin.delete_ x ty #[mv,v])) : Sem Next).run P w):=by
  have fin : ∀ b f cl g cl',inj n = some (b,0)→w.heap[b]? = some (.map f cl)→Ents w Z k g.toList→(Builtin.delete_ x ty #[mv,v]).run P w = .ok (.tuple #[]) (w.putObj b (.map g cl'))→
      Kj st (st.setBlk n (.mp k)) (.d (.tup [])) w Z inj ((do pure (Next.value (← Builtin.delete_ x ty #[mv,v])) : Sem Next).run P w):=by
    intro b f cl g cl' hi hh hE q
    obtain ⟨s,g2⟩:=qmo (pin:=st.nx) (cl':=cl') h.heap hb hi hh hE
    exact ⟨.tuple #[],_,inj,.inl (Ki q),.d (.tup rfl fun i d c hd _=>by simp at hd),s,g2,rfl,Nat.le_refl _⟩
  unfold mdel at o
  split at o <;> try simp at o
  · rename_i j hf
    subst o
    obtain ⟨kt,et,b,f,cl,s,rfl,g3,m,y,g6,z,_⟩:=q5r h ht hk hm hb r l hf
    obtain ⟨e,he,e1,e2⟩:=qfx hf
    obtain ⟨u,hu,q1,q2,q3⟩:=qey y he
    have ae : f[j]? = some u:=by simpa using hu
    refine fin b f cl (f.eraseIdxIfInBounds j) cl g3 m ?_ ?_
    · rw [Array.toList_eraseIdxIfInBounds];exact qrc y j
    · simp [Builtin.delete_,p,run_underlying s,q5h m,g6,z,ae,qd2 _ m]
  · rename_i hf
    subst o
    obtain ⟨kt,et,b,f,cl,s,rfl,g3,m,y,g6,z,_⟩:=q5r h ht hk hm hb r l hf
    simp only [Option.bind_none] at z
    refine fin b f cl f cl g3 m y ?_
    simp [Builtin.delete_,p,run_underlying s,q5h m,g6,z,qd2 _ m]
end
end Go.Am
