/- Am13 Am14 Am15 Am16 Am16m -/
import Derived.Test.YtiejlbckgihckaaK2
import Derived.Deep.AppendSrc
import Derived.Room.Entries
import Derived.RangeFuncRecord
namespace Go.Am
open Go
variable {P : Program} {T : Tab}
def RowV (w : World) (Z : Nat→Prop) (inj : Inj) (nx : Nat) (arr : Array Value) (o es : Nat) (xs : List (List V)) : Prop:=
  ∀ (i : Nat) (x : List V) (j : Nat) (d : V),xs[i]? = some x→x[j]? = some d→Kf d = true∧∃ c,arr[o + (i * es + j)]? = some c∧RelV w Z inj nx d c
section
variable {w : World} {Z : Nat→Prop} {inj : Inj} {nx : Nat}
theorem RowV.mono {w' : World} {inj' : Inj} {nx' : Nat} {arr : Array Value} {o es : Nat} {xs : List (List V)} (h : RowV w Z inj nx arr o es xs) (b : ∀ v x,RelV w Z inj nx v x→RelV w' Z inj' nx' v x) : RowV w' Z inj' nx' arr o es xs:=
  fun i x j d a hd=>let ⟨h1,c,h2,h3⟩:=h i x j d a hd;⟨h1,c,h2,b _ _ h3⟩
def rowsOf : Blk→Option (Nat × List (List V))
  | .dat es xs=>some (es,xs.map (·.map .d))
  | .cel es xs=>some (es,xs)
  | _=>none
theorem q54 {n : Nat} {b : Blk} {es : Nat} {xs : List (List V)} (h : RelB w Z inj nx n b) (p : rowsOf b = some (es,xs)) :
    es≠0∧(∀ (i : Nat) (x : List V),xs[i]? = some x→x.length = es)∧((xs = []∧inj n = none)∨∃ b o arr ty,inj n = some (b,o)∧w.heap[b]? = some (.cells arr ty (0,0))∧RowV w Z inj nx arr o es xs):=by
  cases b <;> simp only [rowsOf,reduceCtorEq,Option.some.injEq,Prod.mk.injEq] at p
  · obtain ⟨rfl,rfl⟩:=p;obtain ⟨k,q,a⟩:=h;refine ⟨k,?_,?_⟩
    · intro i x f;simp only [List.getElem?_map,Kt] at f;obtain ⟨y,g,rfl⟩:=f;simpa using q i y g
    · rcases a with ⟨a,l⟩ | ⟨b,o,arr,ty,a,l,s⟩
      · exact .inl ⟨by simp [a],l⟩
      · refine .inr ⟨b,o,arr,ty,a,l,fun i x j d f hd=>?_⟩;simp only [List.getElem?_map,Kt] at f;obtain ⟨y,g,rfl⟩:=f;simp only [List.getElem?_map,Kt] at hd;obtain ⟨r,m,rfl⟩:=hd;obtain ⟨v,c,t,u⟩:=s i y j r g m;exact ⟨v,c,t,.d u⟩
  · obtain ⟨rfl,rfl⟩:=p;obtain ⟨k,q,a⟩:=h;exact ⟨k,q,a⟩
theorem q53 {n : Nat} {b : Blk} {es : Nat} {xs : List (List V)} (g : rowsOf b = some (es,xs)) (m : es≠0) (l : ∀ (i : Nat) (x : List V),xs[i]? = some x→x.length = es)
    (h : (xs = []∧inj n = none)∨∃ b o arr ty,inj n = some (b,o)∧w.heap[b]? = some (.cells arr ty (0,0))∧RowV w Z inj nx arr o es xs) : RelB w Z inj nx n b:=by
  cases b <;> simp only [rowsOf,reduceCtorEq,Option.some.injEq,Prod.mk.injEq] at g
  · obtain ⟨rfl,rfl⟩:=g;rename_i xs;refine ⟨m,fun i x k=>?_,?_⟩
    · have:=l i (x.map .d) (by simp [k]);simpa using this
    · rcases h with ⟨f,a⟩ | ⟨b,o,arr,ty,f,a,p⟩
      · exact .inl ⟨by simpa using f,a⟩
      · refine .inr ⟨b,o,arr,ty,f,a,fun i x j d k hd=>?_⟩;obtain ⟨s,c,q,r⟩:=p i (x.map .d) j (.d d) (by simp [k]) (by simp [hd]);refine ⟨s,c,q,?_⟩
        cases r with | d h=>exact h
  · obtain ⟨rfl,rfl⟩:=g;exact ⟨m,l,h⟩
theorem RowV.set {arr k : Array Value} {o es e j : Nat} {xs : List (List V)} {cs ys : List V} (h : RowV w Z inj nx arr o es xs) (y : ∀ (i : Nat) (x : List V),xs[i]? = some x→x.length = es) (s : xs[e]? = some cs) (p : LRel w Z inj nx ys k) (v : ys.all Kf = true)
    (hj : j + ys.length≤cs.length) (m : o + (e * es + j) + k.size≤arr.size) : RowV w Z inj nx (splice arr.toList (o + (e * es + j)) k.toList).toArray o es (xs.set e (splice cs j ys)):=by
  have aa : k.toList.length = ys.length:=by have:=p.1;simp;omega
  have b : o + (e * es + j) + k.toList.length≤arr.toList.length:=by simpa using m
  have z:=y e cs s;intro i x a d g hd;rw [List.getElem?_toArray,Jb _ _ _ _ b];rw [List.getElem?_set] at g;by_cases f : e = i
  · subst f;rw [qp rfl,qp (K9 s)] at g;simp at g;subst g;rw [Jb _ _ _ _ hj] at hd;by_cases l : j≤a∧a < j + ys.length
    · rw [qp l] at hd;obtain ⟨c,u⟩:=Ky (xs:=k) (i:=a - j) (by have:=p.1;omega);rw [qp q6,show o + (e * es + a) - (o + (e * es + j)) = a - j by omega];exact ⟨List.all_eq_true.1 v _ (List.mem_of_getElem? hd),c,by simpa using u,p.2 _ _ _ hd u⟩
    · rw [qs l] at hd;rw [qs q6];obtain ⟨n,c,t,r⟩:=h e cs a d s hd;exact ⟨n,c,by simpa using t,r⟩
  · rw [qs f] at g;obtain ⟨n,c,t,r⟩:=h i x a d g hd;refine ⟨n,c,?_,r⟩;have q : a < es:=by have:=K9 hd;have:=y i x g;omega
    rw [qs ?_]
    · simpa using t
    · intro u;exact f ((qet (i:=e) q).1 q6).symm
end
section
variable {w : World} {Z : Nat→Prop} {inj : Inj} {st : AS} {a : Act} {Ds : List Nat}
theorem qx0 {t : TypeId} {a : TypeInfo} {x : Value} {b o : Nat} {arr : Array Value} {ty : TypeId} (hi : P.info? t = some a) (hs : x.cells.size = a.size) (f : ∀ c∈x.cells.toList,c.oneCell' = true)
    (hb : w.heap[b]? = some (.cells arr ty (0,0))) (d : o + x.cells.size≤arr.size) :
    (Instr.storeAt t (.pointer (some ⟨b,o,none⟩)) x).run P w = .ok () (w.setRow b (splice arr.toList o x.cells.toList).toArray):=by
  have:=run_storeCells_at P b o ty x.cells.toList 0 arr w hb (by simpa using d) f;simp only [Nat.add_zero] at this;simp only [Instr.storeAt,Instr.sureAddr,storeVar,Sem.run_bind,Sem.run_pure,Result.andThen_ok,Ys hi,Sem.run_ite];rw [qs q6];exact this
theorem qpq {t : TypeId} {i : TI} {p x : Operand} {pv v : V} {st1 : AS} (h : RelS w Z inj st a Ds) (ht : tiOf P t = some i) (hp : st.ev p = some pv) (hx : st.ev x = some v) (hs : Zv st i pv v = some st1) :
    Ke st st1 .dead w Z inj ((do Instr.storeAt t (a.eval p) (a.eval x);pure .skip : Sem Next).run P w):=by
  obtain ⟨av,d,z,k⟩:=Yb ht;have aj:=K5 h hp;have ag:=K5 h hx;generalize a.eval p = vp at aj ⊢;generalize a.eval x = vx at ag ⊢;cases pv <;> simp only [Zv,reduceCtorEq] at hs
  rename_i n k0 e j;split at hs <;> try simp at hs
  rename_i r
  have az : (cellsOf v).length = i.size:=by
    apply Classical.byContradiction;intro hc;exact r (.inl hc)
  have ad : (cellsOf v).all Kf = true:=by
    cases hc : (cellsOf v).all Kf with
    | true=>rfl
    | false=>exact absurd (.inr hc) r
  cases aj with | @ref _ _ _ _ b o hn hi=>
  have key : ∀ (b0 : Blk) (es : Nat) (xs : List (List V)) (cs : List V) (b1 : Blk),st.blk n = some b0→rowsOf b0 = some (es,xs)→es = k0→xs[e]? = some cs→j + i.size≤cs.length→rowsOf b1 = some (es,xs.set e (splice cs j (cellsOf v)))→st1 = st.setBlk n b1→
      Ke st st1 .dead w Z inj ((do Instr.storeAt t (.pointer (some ⟨b,o + (e * k0 + j),none⟩)) vx;pure .skip : Sem Next).run P w):=by
    rintro b0 es xs cs b1 s ao rfl g f al rfl
    obtain ⟨g1,g2,g3⟩:=q54 (h.heap.blk n b0 s).2 ao
    rcases g3 with ⟨g3,_⟩ | ⟨b',o',arr,ty,g3,g4,g5⟩
    · subst g3;simp at g
    · rw [hi] at g3;cases g3
      obtain ⟨c1,c2,c3⟩:=q9f ag ad
      have l : live b0 = true:=by cases b0 <;> simp_all [rowsOf,live]
      have am:=g2 e cs g
      have bd : 0 < es:=by omega
      have aq : o + (e * es + (es - 1)) < arr.size:=by
        obtain ⟨d0,ap⟩:=Z5 (xs:=cs) (i:=es - 1) q6;obtain ⟨_,c,hc,_⟩:=g5 e cs (es - 1) d0 g ap;exact Yw hc
      have m : o + (e * es + j) + vx.cells.size≤arr.size:=by omega
      have af:=qx0 (P:=P) (w:=w) k.inf (x:=vx) (by rw [k.size];omega) c3 g4 m
      have aa : (splice arr.toList (o + (e * es + j)) vx.cells.toList).toArray.size = arr.size:=by
        simp only [List.size_toArray];rw [q1a _ _ _ (by simpa using m)];simp
      have hz : ∀ b1,Z b1→(w.setRow b (splice arr.toList (o + (e * es + j)) vx.cells.toList).toArray).heap[b1]? = w.heap[b1]?:=fun b1 an=>
        setRow_other w b b1 _ (fun e=>h.heap.out n b0 _ s l hi (by rw [← e];exact an))
      have ak:=q1t w b arr _ ty (0,0) g4 aa
      refine ⟨undef,_,inj,.inr ⟨by simp [af],rfl⟩,.dead _,?_,Ext.set h.heap s l hi g4 aa,rfl,Nat.le_refl _⟩
      refine h.heap.set s l hi g4 aa (q53 al g1 ?_ (.inr ⟨b,o,_,ty,hi,setRow_heap w b _ _ _ _ g4,?_⟩))
      · intro i' x' q
        rw [List.getElem?_set] at q
        by_cases ai : e = i'
        · rw [qp ai,qp (by have:=K9 g;omega)] at q
          simp at q;rw [← q,q1a _ _ _ q6];exact am
        · rw [qs ai] at q;exact g2 _ _ q
      · exact (g5.set g2 g ⟨c1,c2⟩ ad q6 m).mono fun v x hr=>hr.mono hz (fun _ h=>h) ak (fun _ _=>rfl) (Nat.le_refl _)
  cases hb : st.blk n with
  | none=>simp [hb] at hs
  | some blk=>
    cases blk with
    | dead=>simp [hb] at hs
    | loop=>simp [hb] at hs
    | mp=>simp [hb] at hs
    | dat es xs=>
      simp only [hb] at hs;split at hs <;> try simp at hs
      rename_i cs u y;have u:=Nat.eq_of_beq_eq_true u;have g : (xs.map (·.map V.d))[e]? = some (cs.map V.d):=by simp [y]
      split at hs
      · rename_i ds au;simp at hs;obtain ⟨f,hs⟩:=hs;refine key _ _ _ _ _ hb rfl u.symm g (by simpa using f) ?_ hs.symm;simp only [rowsOf,Option.some.injEq,Prod.mk.injEq,true_and];rw [q44 au];simp [splice,List.map_set,List.map_take,List.map_drop]
      · simp at hs;obtain ⟨f,hs⟩:=hs;exact key _ _ _ _ _ hb rfl u.symm g (by simpa using f) rfl hs.symm
    | cel es xs=>
      simp only [hb] at hs;split at hs <;> try simp at hs
      rename_i cs u y;have u:=Nat.eq_of_beq_eq_true u;obtain ⟨f,hs⟩:=hs;exact key _ _ _ _ _ hb rfl u.symm y f rfl hs.symm
end
end Go.Am
namespace Go.Am
open Go
variable {P : Program} {T : Tab}
section
variable {w : World} {Z : Nat→Prop} {inj : Inj} {nx : Nat}
def J0 (w : World) (ad : Option Addr) (L : List Value) (ys : List (List V)) : Prop:=match ad with
  | some p=>∀ (k : Nat) (u : Value),L[k]? = some u→w.cell? (p.add k) = some u
  | none=>ys = []
theorem qdf {b o es : Nat} {xs : List (List V)} (s : es≠0) (m : ∀ (i : Nat) (x : List V),xs[i]? = some x→x.length = es)
    (h : ∀ (i : Nat) (x : List V) (j : Nat) (d : V),xs[i]? = some x→x[j]? = some d→Kf d = true∧∃ c,w.cell? ⟨b,o + (i * es + j),none⟩ = some c∧RelV w Z inj nx d c) :
    ∃ L : List Value,L.length = xs.length * es∧(∀ (k : Nat) (u : Value),L[k]? = some u→w.cell? ⟨b,o + k,none⟩ = some u)∧ERel w Z inj nx es xs L.toArray:=by
  have g : ∀ k,k < xs.length * es→∃ i x j d c,xs[i]? = some x∧x[j]? = some d∧k = i * es + j∧w.cell? ⟨b,o + k,none⟩ = some c∧RelV w Z inj nx d c:=by
    intro k a;have n : k / es < xs.length:=Nat.div_lt_of_lt_mul (by rwa [Nat.mul_comm]);have q : k % es < es:=Nat.mod_lt _ q6;obtain ⟨x,f⟩:=Z5 n;obtain ⟨d,hd⟩:=Z5 (xs:=x) (i:=k % es) (by rw [m _ _ f];exact q);obtain ⟨_,c,l,t⟩:=h _ _ _ _ f hd;have a : k = k / es * es + k % es:=by rw [Nat.mul_comm];exact (Nat.div_add_mod k es).symm
    exact ⟨_,_,_,_,c,f,hd,a,by rw [a];exact l,t⟩
  refine ⟨(List.range (xs.length * es)).map fun k=>(w.cell? ⟨b,o + k,none⟩).getD undef,qb,?_,?_⟩
  · intro k u p;have a : k < xs.length * es:=by have:=K9 p;simpa using this
    obtain ⟨_,_,_,_,c,_,_,_,l,_⟩:=g k a;simp [a,l] at p;rw [l,p]
  · refine ⟨qb,m,fun i x j d f hd=>?_⟩;obtain ⟨n,c,q,r⟩:=h i x j d f hd;have a:=q2l (K9 f) (show j < es by have:=K9 hd;have:=m i x f;omega);exact ⟨n,c,by simp [a,q],r⟩
theorem ERel.append {es : Nat} {xs ys : List (List V)} {A B : Array Value} (h : ERel w Z inj nx es xs A) (k : ERel w Z inj nx es ys B) : ERel w Z inj nx es (xs ++ ys) (A ++ B):=by
  obtain ⟨l,p,o⟩:=h;obtain ⟨b1,n,m⟩:=k;refine ⟨by simp [l,b1,Nat.add_mul],?_,?_⟩
  · intro i x a;rw [List.getElem?_append] at a;split at a
    · exact p _ _ a
    · exact n _ _ a
  · intro i x j d a hd;rw [List.getElem?_append] at a;split at a
    · obtain ⟨f,c,b,g⟩:=o i x j d a hd;exact ⟨f,c,by rw [Array.getElem?_append_left (Yw b)];exact b,g⟩
    · rename_i hi;obtain ⟨f,c,b,g⟩:=m _ x j d a hd;refine ⟨f,c,?_,g⟩
      have e : i * es + j = A.size + ((i - xs.length) * es + j):=by
        rw [l,← Nat.add_assoc,← Nat.add_mul];congr 2;omega
      rw [e,Array.getElem?_append_right q6,show A.size + ((i - xs.length) * es + j) - A.size = (i - xs.length) * es + j by omega];exact b
theorem ERel.row {es : Nat} {xs : List (List V)} {A B : Array Value} (h : ERel w Z inj nx es xs A) : RowV w Z inj nx (A ++ B) 0 es xs:=by
  intro i x j d g hd;obtain ⟨b,c,a,f⟩:=h.2.2 i x j d g hd;exact ⟨b,c,by rw [Nat.zero_add,Array.getElem?_append_left (Yw a)];exact a,f⟩
theorem ERel.one {es : Nat} {xs : List (List V)} {L : List Value} (n : es≠0) (h : ERel w Z inj nx es xs L.toArray) : ∀ u∈L,u.oneCell' = true:=by
  intro u j;obtain ⟨k,b⟩:=List.mem_iff_getElem?.1 j;have l:=K9 b;have p : L.length = xs.length * es:=by simpa using h.1
  have g : k / es < xs.length:=Nat.div_lt_of_lt_mul (by rw [Nat.mul_comm];omega);obtain ⟨x,f⟩:=Z5 g;obtain ⟨d,hd⟩:=Z5 (xs:=x) (i:=k % es) (by rw [h.2.1 _ _ f];exact Nat.mod_lt _ q6);obtain ⟨o,c,a,m⟩:=h.2.2 _ _ _ _ f hd;have e : k / es * es + k % es = k:=by rw [Nat.mul_comm];exact Nat.div_add_mod k es
  rw [e] at a;simp [b] at a;subst a;exact qd0 m o
theorem ERel.mono {w' : World} {inj' : Inj} {nx' es : Nat} {xs : List (List V)} {A : Array Value} (h : ERel w Z inj nx es xs A) (b : ∀ v x,RelV w Z inj nx v x→RelV w' Z inj' nx' v x) : ERel w' Z inj' nx' es xs A:=
  ⟨h.1,h.2.1,fun i x j d a hd=>let ⟨h1,c,h2,h3⟩:=h.2.2 i x j d a hd;⟨h1,c,h2,b _ _ h3⟩⟩
theorem ERel.nil {es : Nat} : ERel w Z inj nx es [] #[]:=⟨qb,qb,qb⟩
theorem RowV.cells {arr : Array Value} {ty : TypeId} {b o es off len : Nat} {xs : List (List V)} (h : RowV w Z inj nx arr o es xs) (hb : w.heap[b]? = some (.cells arr ty (0,0))) :
    ∀ (i : Nat) (x : List V) (j : Nat) (d : V),((xs.drop off).take len)[i]? = some x→x[j]? = some d→Kf d = true∧∃ c,w.cell? ⟨b,o + off * es + (i * es + j),none⟩ = some c∧RelV w Z inj nx d c:=by
  intro i x j d a hd;rw [List.getElem?_take] at a;split at a
  · rw [List.getElem?_drop] at a;obtain ⟨f,c,k,g⟩:=h _ x j d a hd;refine ⟨f,c,?_,g⟩;simp only [World.cell?,hb];rw [← k];simp only [Option.isSome_none,Bool.false_eq_true,if_false];rw [Nat.add_mul];congr 1;omega
  · simp at a
theorem qdt {es off len : Nat} {xs : List (List V)} (b : ∀ (i : Nat) (x : List V),xs[i]? = some x→x.length = es) : ∀ (i : Nat) (x : List V),((xs.drop off).take len)[i]? = some x→x.length = es:=by
  intro i x a;rw [List.getElem?_take] at a;split at a
  · rw [List.getElem?_drop] at a;exact b _ _ a
  · simp at a
end
section
variable {w : World} {Z : Nat→Prop} {inj : Inj} {st : AS} {a : Act} {Ds : List Nat}
theorem qbk {x : V} {ys : List (List DV)} (h : Yf st x = some ys) : Yr st x = some (ys.map (·.map .d)):=by
  unfold Yf at h;split at h
  · simp at h;subst h;rfl
  · simp at h;subst h;rfl
  · split at h <;> try simp at h
    rename_i hb;obtain ⟨a,rfl⟩:=h;simp [Yr,hb,a]
  · simp at h
theorem q9h {x : V} {xv : Value} {es : Nat} {ys : List (List V)} (h : RelS w Z inj st a Ds) (g : RelV w Z inj st.nx x xv) (f : Yr st x = some ys) (hf : Ze es x = true) (t : es≠0) :
    ∃ (m : Option Addr) (cap : Nat) (L : List Value),xv = .slice m ys.length cap∧L.length = ys.length * es∧ERel w Z inj st.nx es ys L.toArray∧J0 w m L ys:=by
  unfold Yr at f;split at f
  · simp at f;subst f
    cases g with | d g=>
    cases g;exact ⟨none,0,[],rfl,qb,.nil,(rfl : J0 w none [] [])⟩
  · rename_i l xs;simp at f;subst f;have he:=Nat.eq_of_beq_eq_true hf;subst he
    cases g with | d g=>
    cases g with
    | slnil=>exact ⟨none,0,[],rfl,qb,.nil,(rfl : J0 w none [] [])⟩
    | slemp _ m=>exact ⟨some m,0,[],rfl,qb,.nil,fun k u q=>by simp at q⟩
    | @sl _ _ b o cap p h2 h3 h4 h5=>
      obtain ⟨L,l1,l2,l3⟩:=qdf (w:=w) (Z:=Z) (inj:=inj) (nx:=st.nx) (b:=b) (o:=o) (xs:=xs.map (·.map V.d)) t
        (fun i x g=>by simp only [List.getElem?_map,Kt] at g;obtain ⟨y,z,rfl⟩:=g;simpa using h3 i y z)
        (fun i x j d g hd=>by
          simp only [List.getElem?_map,Kt] at g;obtain ⟨y,z,rfl⟩:=g;simp only [List.getElem?_map,Kt] at hd;obtain ⟨d',r,rfl⟩:=hd;obtain ⟨g1,c,g2⟩:=h4 i y j d' z r
          exact ⟨g1,c,g2,.d (h5 i y j d' c z r g2)⟩)
      exact ⟨some ⟨b,o,none⟩,cap,L,qb,l1,l3,fun k u q=>by rw [J2];exact l2 k u q⟩
  · rename_i n l off len;have he:=Nat.eq_of_beq_eq_true hf;subst he
    have key : ∀ (b0 : Blk) (xs : List (List V)),st.blk n = some b0→rowsOf b0 = some (l,xs)→off + len≤xs.length→ys = (xs.drop off).take len→
        ∃ (m : Option Addr) (cap : Nat) (L : List Value),xv = .slice m ys.length cap∧L.length = ys.length * l∧ERel w Z inj st.nx l ys L.toArray∧J0 w m L ys:=by
      rintro b0 xs hb hr ao rfl
      have v : ((xs.drop off).take len).length = len:=by simp;omega
      obtain ⟨g1,g2,s⟩:=q54 (h.heap.blk n b0 hb).2 hr
      cases g with
      | hsnil=>
        have : (xs.drop off).take 0 = []:=by simp
        rw [this];exact ⟨none,0,[],rfl,qb,.nil,(rfl : J0 w none [] [])⟩
      | @hs _ _ _ _ cap m hn f _ hcap=>
        by_cases h0 : len = 0
        · subst h0;have : (xs.drop off).take 0 = []:=by simp
          rw [this];exact ⟨some m,cap,[],rfl,qb,.nil,fun k u q=>by simp at q⟩
        · obtain ⟨b,o,hi,rfl,ak⟩:=hcap q6;rcases s with ⟨s,g4⟩ | ⟨b',o',arr,ty,s,g4,g5⟩
          · rw [hi] at g4;cases g4
          · rw [hi] at s;cases s;obtain ⟨L,l1,l2,l3⟩:=qdf (w:=w) (Z:=Z) (inj:=inj) (nx:=st.nx) (b:=b) (o:=o + off * l) (xs:=(xs.drop off).take len) t (qdt g2) (g5.cells g4);exact ⟨some ⟨b,o + off * l,none⟩,cap,L,by rw [v],l1,l3,fun k u q=>by rw [J2];exact l2 k u q⟩
    split at f
    · rename_i k xs hb;split at f <;> try simp at f
      rename_i p;obtain ⟨p,rfl⟩:=p;subst f;refine key _ (xs.map (·.map V.d)) hb rfl (by simpa using p) qb
    · rename_i k xs hb;split at f <;> try simp at f
      rename_i p;obtain ⟨p,rfl⟩:=p;subst f;exact key _ xs hb rfl p rfl
    · simp at f
  · simp at f
theorem q8u {es n : Nat} {tx g : TypeId} {c : Option Addr} {cap : Nat} {ys : List (List V)} {L : List Value} (d : es≠0) (f : P.underlying tx = some (.slice g)) (h : n = ys.length) (a : L.length = ys.length * es)
    (j : ERel w Z inj st.nx es ys L.toArray) (b : J0 w c L ys) : Src P es tx (.slice c ys.length cap) n L w:=by
  subst h;refine ⟨.inl ⟨g,f⟩,fun w'=>by simp [Builtin.lenOf],?_,?_,a,j.one d⟩
  · cases c with
    | none=>subst b;simp at a;subst a;simp [Builtin.firstCells]
    | some p=>
      have:=run_loadCells_list (P:=P) w p L b;rw [a] at this;simpa [Builtin.firstCells] using this
  · cases c with
    | none=>subst b;simp at a;subst a;simp [Builtin.firstCells]
    | some p=>
      have:=run_loadCells_list (P:=P) w.drew p L b;rw [a] at this;simpa [Builtin.firstCells] using this
theorem q9b {t tx ty e : TypeId} {i : TypeInfo} (d : P.underlying t = some (.slice e)) (hi : P.info? e = some i) {base : Option Addr} {sLen sCap : Nat} {x : Value} {n : Nat} {news : List Value} (hs : Src P i.size tx x n news w) (a : sLen + n≤sCap)
    {w' : World} (c : match base with | some p=>(storeCells (p.add (sLen * i.size)) news).run P w = .ok () w' | none=>w' = w) :
    (Builtin.append_ #[t,tx] ty #[.slice base sLen sCap,x]).run P w = .ok (.slice base (sLen + n) sCap) w':=by
  cases base with
  | none=>subst c;rcases hs.kind with ⟨f,b⟩ | b <;> simp [Builtin.append_,run_underlying d,run_underlying b,sizeOf,typeInfo,hi,hs.len,a,hs.cells]
  | some p=>rcases hs.kind with ⟨f,b⟩ | b <;> simp [Builtin.append_,run_underlying d,run_underlying b,sizeOf,typeInfo,hi,hs.len,a,hs.cells,c]
end
end Go.Am
namespace Go.Am
open Go
variable {P : Program} {T : Tab}
section
variable {w : World} {Z : Nat→Prop} {inj : Inj}
theorem RelH.newPh {hp : List (Nat × Blk)} {nx : Nat} (d : RelH w Z inj hp nx) (blk : Blk) (hb : RelB w Z (upd inj nx none) (nx + 1) nx blk) : RelH w Z (upd inj nx none) ((nx,blk)::hp) (nx + 1):=by
  refine ⟨?_,?_,?_,d.zs,d.zc⟩
  · intro n b h;rw [Kj] at h;by_cases a : nx = n
    · grind
    · simp only [a,if_false] at h;obtain ⟨g,k⟩:=d.blk n b h;exact ⟨q6,k.mono (fun _ _=>rfl) (fun _ h=>h) (Sem.keepBig_of_same rfl) (fun m f=>Y5 _ _ f) q6 g (fun _ _ _=>rfl)⟩
  · intro n m b c p q a f o l hp j r;rw [Kj] at a f;by_cases g : nx = n
    · subst g;rw [Kr] at hp;cases hp
    · by_cases k : nx = m
      · subst k;rw [Kr] at j;cases j
      · simp only [g,k,if_false] at a f;rw [Y5 _ _ (d.blk n b a).1] at hp;rw [Y5 _ _ (d.blk m c f).1] at j;exact d.sep n m b c p q a f o l hp j r
  · intro n b p h s hp;rw [Kj] at h;by_cases a : nx = n
    · subst a;rw [Kr] at hp;cases hp
    · simp only [a,if_false] at h;rw [Y5 _ _ (d.blk n b h).1] at hp;exact d.out n b p h s hp
theorem Ext.newPh {hp : List (Nat × Blk)} {nx : Nat} (l : RelH w Z inj hp nx) (blk : Blk) : Ext w Z inj hp w Z (upd inj nx none) ((nx,blk)::hp) nx:=by
  refine ⟨Nat.le_refl _,fun _ _ _=>rfl,?_,fun _ c e f h=>⟨c,e,f,h,rfl⟩,fun _ r h=>⟨r,h,rfl⟩,fun _ h=>h,fun _ h=>.inl h,fun n j=>Y5 _ _ j,rfl,rfl,rfl,fun _=>rfl⟩;rintro b ⟨n,a,d,g,m,k⟩;rw [Kj] at g;by_cases j : nx = n
  · subst j;rw [Kr] at k;cases k
  · simp only [j,if_false] at g;rw [Y5 _ _ (l.blk n a g).1] at k;exact .inl ⟨n,a,d,g,m,k⟩
theorem RelH.move {hp : List (Nat × Blk)} {nx n : Nat} (d : RelH w Z inj hp nx) {y blk : Blk} (hn : find hp n = some y) (r : live y = true) {g off x : Nat} (hi : inj n = some (g,off)) {old cs : Array Value} {t : TypeId} {fr : Nat × Nat}
    (hg : w.heap[g]? = some (.cells old t fr)) (hs : cs.size = old.size) (hb : RelB (w.setRow g cs) Z (upd inj nx (some (g,x))) (nx + 1) nx blk) :
    RelH (w.setRow g cs) Z (upd inj nx (some (g,x))) ((nx,blk)::repl hp n .dead) (nx + 1):=by
  have ae : ∀ b,Z b→b≠g:=fun b j e=>d.out n y _ hn r hi (by rw [← e];exact j)
  have key : ∀ m b,find (repl hp n .dead) m = some b→live b = true→find hp m = some b∧n≠m:=by
    intro m b h z;rw [Ym] at h;by_cases f : n = m
    · subst f;simp [hn] at h;subst h;simp [live] at z
    grind
  have o : ∀ m b,find (repl hp n .dead) m = some b→m < nx:=by
    intro m b h;rw [Ym] at h;by_cases f : n = m
    · subst f;exact (d.blk n y hn).1
    · simp only [f,if_false] at h;exact (d.blk m b h).1
  refine ⟨?_,?_,?_,fun b j=>by simpa using d.zs b j,fun b j=>by rw [setRow_other w g b cs (ae b j)];exact d.zc b j⟩
  · intro m b h;rw [Kj] at h;by_cases f : nx = m
    · grind
    · simp only [f,if_false] at h;refine ⟨by have:=o m b h;omega,?_⟩;by_cases z : live b = true
      · obtain ⟨s,v⟩:=key m b h z;obtain ⟨h3,h4⟩:=d.blk m b s;refine h4.mono (fun b j=>setRow_other w g b cs (ae b j)) (fun _ h=>h) (q1t w g old cs t fr hg hs) (fun _ hk=>Y5 _ _ hk) q6 h3 ?_;intro p hp' ai;exact setRow_other w g p.1 cs (fun e=>d.sep n m y b _ _ hn s r z hi hp' v e.symm)
      · have : b = .dead:=by cases b <;> simp_all [live]
        subst this;trivial
  · intro m k b c p q s v ab u l a af;rw [Kj] at s v;by_cases f : nx = m
    · subst f;rw [Kr] at l;cases l;simp only [af,if_false] at v;obtain ⟨h3,h4⟩:=key k c v u;rw [Y5 _ _ (o k c v)] at a;exact fun e=>d.sep n k y c (g,off) q hn h3 r u hi a h4 e
    · simp only [f,if_false] at s;obtain ⟨h3,h4⟩:=key m b s ab;rw [Y5 _ _ (o m b s)] at l;by_cases hk : nx = k
      · subst hk;rw [Kr] at a;cases a;exact fun e=>d.sep n m y b (g,off) p hn h3 r ab hi l h4 e.symm
      · simp only [hk,if_false] at v;obtain ⟨h5,h6⟩:=key k c v u;rw [Y5 _ _ (o k c v)] at a;exact d.sep m k b c p q h3 h5 ab u l a af
  · intro m b p h z hp' j;rw [Kj] at h;by_cases f : nx = m
    · subst f;rw [Kr] at hp';cases hp';exact d.out n y _ hn r hi j
    · simp only [f,if_false] at h;obtain ⟨s,_⟩:=key m b h z;rw [Y5 _ _ (o m b h)] at hp';exact d.out m b p s z hp' j
theorem Ext.move {hp : List (Nat × Blk)} {nx n : Nat} (v : RelH w Z inj hp nx) {o blk : Blk} (q : find hp n = some o) (d : live o = true) {g off f : Nat} (hi : inj n = some (g,off)) {old cs : Array Value} {t : TypeId} {k : Nat × Nat}
    (p : w.heap[g]? = some (.cells old t k)) (hs : cs.size = old.size) : Ext w Z inj hp (w.setRow g cs) Z (upd inj nx (some (g,f))) ((nx,blk)::repl hp n .dead) nx:=by
  refine ⟨qb,?_,?_,q1t w g old cs t k p hs,qgu w g old cs t k p,fun _ h=>h,fun _ h=>.inl h,fun m l=>Y5 _ _ l,rfl,rfl,rfl,qgb w g old cs t k p⟩
  · intro b _ hb;exact setRow_other w g b cs (fun e=>hb (by rw [e];exact ⟨n,o,off,q,d,hi⟩))
  · rintro b ⟨m,c,u,a,s,j⟩;rw [Kj] at a;by_cases l : nx = m
    · subst l;rw [Kr] at j;cases j;exact .inl ⟨n,o,off,q,d,hi⟩
    · simp only [l,if_false] at a;rw [Ym] at a;by_cases r : n = m
      · subst r;simp [q] at a;subst a;simp [live] at s
      · simp only [r,if_false] at a;rw [Y5 _ _ (v.blk m c a).1] at j;exact .inl ⟨m,c,u,a,s,j⟩
end
section
variable {w : World} {Z : Nat→Prop} {inj : Inj} {st : AS} {a : Act} {Ds : List Nat}
theorem qnb {a cap b : Nat} (c : cap < a) (d : a * (b * 4)≤room) : Builtin.nextslicecap a cap * b≤281474976710656:=by
  have f:=Nat.mul_le_mul_right b (Room.nextslicecap_le' c);have g : 2 * a * b≤a * (b * 4):=by rw [Nat.mul_comm b 4,← Nat.mul_assoc];exact Nat.mul_le_mul_right b q6
  unfold room at d;omega
theorem qog {a b : Nat} (hb : b≠0) (c : a * (b * 4)≤room) : a≤4294967296:=by
  have : a * 1≤a * (b * 4):=Nat.mul_le_mul_left _ q6;unfold room at c;omega
theorem qb4 {t u ty : TypeId} {i : TI} {e e' : TypeId} {q : TypeInfo} {y : Value} (_h : RelS w Z inj st a Ds) (hu : P.underlying t = some (.slice e)) (af : P.underlying u = some (.slice e')) (g1 : P.info? e = some q) (g3 : q.zero = some y)
    (g6 : q.size = i.esize) (g7 : i.esize≠0) (g8 : q.bytes = i.ebytes) (g9 : i.ebytes≠0) (gz : y.cells.size = i.esize) {hp1 : List (Nat × Blk)} (hh : RelH w Z inj hp1 st.nx) (o : Ext w Z inj st.hp w Z inj hp1 st.nx)
    {base ad : Option Addr} {cap cap' : Nat} {olds ys : List (List V)} {L0 l : List Value} (s : L0.length = olds.length * i.esize) (m : ERel w Z inj st.nx i.esize olds L0.toArray) (ab : J0 w base L0 olds)
    (r : l.length = ys.length * i.esize) (p : ERel w Z inj st.nx i.esize ys l.toArray) (ag : J0 w ad l ys) (hg : cap < olds.length + ys.length) (c : (olds.length + ys.length) * (i.ebytes * 4)≤room)
    {b1 : Blk} (ae : rowsOf b1 = some (i.esize,olds ++ ys)) :
    ∃ x w' inj',(Builtin.append_ #[t,u] ty #[.slice base olds.length cap,.slice ad ys.length cap']).run P w = .ok x w'∧RelV w' Z inj' (st.nx + 1) (.hs st.nx i.esize 0 (olds.length + ys.length)) x∧RelH w' Z inj' ((st.nx,b1)::hp1) (st.nx + 1)∧
      Ext w Z inj st.hp w' Z inj' ((st.nx,b1)::hp1) st.nx:=by
  have j:=q8u (P:=P) (tx:=t) (cap:=cap) g7 hu rfl s m ab;have g:=q8u (P:=P) (tx:=u) (cap:=cap') g7 af rfl r p ag;rw [← g6] at j g;have au:=qog g9 c;have k:=qnb hg c;rw [← g8] at k;have d:=run_append_grow_src (P:=P) w t u ty e q y hu g1 g3 base olds.length cap L0 j.cellsD (.slice ad ys.length cap') ys.length l g hg q6 k;have n:=grownCap_ge w (olds.length + ys.length) cap e;generalize grownCap w (olds.length + ys.length) cap e = C at d n;generalize hA : (L0 ++ l).toArray ++ Builtin.zeroCells y.cells (C - (olds.length + ys.length)) = A at d;have f : RelH w.drew Z inj hp1 st.nx:=hh.same rfl;have z : ERel w Z inj st.nx i.esize (olds ++ ys) (L0.toArray ++ l.toArray):=m.append p
  have mono : ∀ v x,RelV w Z inj st.nx v x→RelV (w.drew.alloc (.cells A e)) Z (upd inj st.nx (some (w.heap.size,0))) (st.nx + 1) v x:=fun v x hv=>
    hv.mono (fun b hz=>Zb w.drew _ (hh.zs b hz)) (fun _ h=>h) (q1s w.drew _) (fun _ hm=>Y5 _ _ hm) q6
  refine ⟨_,_,upd inj st.nx (some (w.heap.size,0)),d,?_,?_,?_⟩
  · refine .hs q6 n rfl fun _=>⟨w.heap.size,0,Kr _ _ _,qb,A,e,(0,0),J3 w.drew _,?_⟩
    have h1 : A.size = L0.length + l.length + (C - (olds.length + ys.length)) * i.esize:=by
      rw [← hA];simp [Builtin.zeroCells,gz]
    rw [h1,s,r,← Nat.add_mul,← Nat.add_mul];grind
  · refine f.new (.cells A e) b1 0 ?_;refine q53 ae g7 z.2.1 (.inr ⟨w.heap.size,0,A,e,Kr _ _ _,J3 w.drew _,?_⟩);have h9:=(z.row (B:=Builtin.zeroCells y.cells (C - (olds.length + ys.length)))).mono mono;simp_all
  · refine o.trans ?_ (Nat.le_refl _);have e1 : Ext w Z inj hp1 w.drew Z inj hp1 st.nx:=Ext.same rfl rfl rfl rfl;exact e1.trans (Ext.new f (.cells A e) b1 0) (Nat.le_refl _)
theorem qkk {t u ty : TypeId} {i : TI} {e e' : TypeId} {ie : TypeInfo} (h : RelS w Z inj st a Ds) (hu : P.underlying t = some (.slice e)) (bb : P.underlying u = some (.slice e')) (g1 : P.info? e = some ie)
    (g6 : ie.size = i.esize) (g7 : i.esize≠0) {n off len cap cap' b o : Nat} {b0 b1 : Blk} {xs ys : List (List V)} (s : st.blk n = some b0) (ax : rowsOf b0 = some (i.esize,xs)) (bh : off + len≤xs.length)
    (hi : inj n = some (b,o)) (ai : Big w b (o + (off + cap) * i.esize)) (_hlc : len≤cap)
    {ad : Option Addr} {g : List Value} (ah : g.length = ys.length * i.esize) (p : ERel w Z inj st.nx i.esize ys g.toArray) (bd : J0 w ad g ys) (hg : len + ys.length≤cap)
    (ay : rowsOf b1 = some (i.esize,(xs.drop off).take len ++ ys)) :
    ∃ x w' inj',(Builtin.append_ #[t,u] ty #[.slice (some ⟨b,o + off * i.esize,none⟩) len cap,.slice ad ys.length cap']).run P w = .ok x w'∧RelV w' Z inj' (st.nx + 1) (.hs st.nx i.esize 0 (len + ys.length)) x∧
      RelH w' Z inj' ((st.nx,b1)::repl st.hp n .dead) (st.nx + 1)∧Ext w Z inj st.hp w' Z inj' ((st.nx,b1)::repl st.hp n .dead) st.nx:=by
  have ak:=q8u (P:=P) (tx:=u) (cap:=cap') g7 bb rfl ah p bd;obtain ⟨q1,q2,q3⟩:=q54 (h.heap.blk n b0 s).2 ax;rcases q3 with ⟨_,q4⟩ | ⟨b',o',arr,ac,q3,q4,q5⟩
  · grind
  rw [hi] at q3;cases q3;have k : live b0 = true:=by cases b0 <;> simp_all [rowsOf,live]
  have ar : o + (off + cap) * i.esize≤arr.size:=by
    obtain ⟨c,e2,f,k1,k2⟩:=ai;grind
  have av : g.length = ys.length * i.esize:=ah;have af : (len + ys.length) * i.esize≤cap * i.esize:=Nat.mul_le_mul_right _ hg;rw [Nat.add_mul] at af ar;have l : o + off * i.esize + len * i.esize + g.length≤arr.size:=by omega
  have ab:=run_storeCells_at P b (o + off * i.esize + len * i.esize) ac g 0 arr w q4 (by simpa using l) (p.one g7);simp only [Nat.add_zero] at ab;have aw : (arr.toList.take (o + off * i.esize + len * i.esize) ++ g ++ arr.toList.drop (o + off * i.esize + len * i.esize + g.length)).toArray = (splice arr.toList (o + off * i.esize + len * i.esize) g).toArray:=rfl;rw [aw] at ab
  have ag:=q9b (P:=P) (w:=w) (ty:=ty) hu g1 (base:=some ⟨b,o + off * i.esize,none⟩) (sLen:=len) (sCap:=cap) (x:=.slice ad ys.length cap') (n:=ys.length) (news:=g) (by rw [g6];exact ak) hg
    (w':=w.setRow b (splice arr.toList (o + off * i.esize + len * i.esize) g).toArray) (by show (storeCells ((⟨b,o + off * i.esize,none⟩ : Addr).add (len * ie.size)) g).run P w = _;rw [J2,g6];exact ab)
  have r : o + off * i.esize + len * i.esize + g.length≤arr.toList.length:=by simpa using l
  have q : (splice arr.toList (o + off * i.esize + len * i.esize) g).toArray.size = arr.size:=by simp [q1a _ _ _ r]
  have hz : ∀ b1,Z b1→(w.setRow b (splice arr.toList (o + off * i.esize + len * i.esize) g).toArray).heap[b1]? = w.heap[b1]?:=fun b1 au=>
    setRow_other w b b1 _ (fun e=>h.heap.out n b0 _ s k hi (by rw [← e];exact au))
  have an:=q1t w b arr _ ac (0,0) q4 q
  have mono : ∀ v x,RelV w Z inj st.nx v x→RelV (w.setRow b (splice arr.toList (o + off * i.esize + len * i.esize) g).toArray) Z (upd inj st.nx (some (b,o + off * i.esize))) (st.nx + 1) v x:=fun v x hv=>
    hv.mono hz (fun _ h=>h) an (fun _ hm=>Y5 _ _ hm) q6
  have y : ((xs.drop off).take len).length = len:=by simp;omega
  refine ⟨_,_,upd inj st.nx (some (b,o + off * i.esize)),ag,?_,?_,Ext.move h.heap s k hi q4 q⟩
  · refine .hs q6 hg rfl fun _=>⟨b,o + off * i.esize,Kr _ _ _,qb,_,_,_,setRow_heap w b _ _ _ _ q4,?_⟩
    grind
  · refine h.heap.move s k hi q4 q (q53 ay g7 ?_ (.inr ⟨b,o + off * i.esize,_,ac,Kr _ _ _,setRow_heap w b _ _ _ _ q4,?_⟩))
    · intro j x m;rw [List.getElem?_append] at m;split at m
      · grind
      · exact p.2.1 _ _ m
    · intro j x j' d m hd;rw [List.getElem?_toArray,Jb _ _ _ _ r];rw [List.getElem?_append] at m;split at m
      · rename_i hj;rw [y] at hj;have ap:=qdt q2 j x m;have z : j' < i.esize:=by have:=K9 hd;omega
        have hc:=q2l hj z;rw [qs q6];rw [List.getElem?_take] at m;rw [qp hj,List.getElem?_drop] at m;obtain ⟨k1,c,k2,k3⟩:=q5 _ x j' d m hd;grind
      · rename_i hj;rw [y] at hj m;obtain ⟨k1,c,k2,k3⟩:=p.2.2 _ x j' d m hd;have ba:=K9 m;have ap:=p.2.1 _ x m;have z : j' < i.esize:=by have:=K9 hd;omega
        have hc:=q2l ba z;have he : j * i.esize = len * i.esize + (j - len) * i.esize:=by rw [← Nat.add_mul];congr 1;omega
        grind
theorem qp4 {t u ty : TypeId} {i j : TI} {sv xv v : V} {vs vx : Value} {st1 : AS} (h : RelS w Z inj st a Ds) (ht : tiOf P t = some i) (hu : tiOf P u = some j) (bt : i.kind = .slice) (bm : j.kind = .slice) (hf : Ze i.esize xv = true)
    (ak : RelV w Z inj st.nx sv vs) (au : RelV w Z inj st.nx xv vx) (f : Yl st i sv xv = some (v,st1)) :
    ∃ x w' inj',(Builtin.append_ #[t,u] ty #[vs,vx]).run P w = .ok x w'∧RelV w' Z inj' st1.nx v x∧RelH w' Z inj' st1.hp st1.nx∧Ext w Z inj st.hp w' Z inj' st1.hp st.nx∧st1.sl = st.sl∧st.nx≤st1.nx:=by
  obtain ⟨bw,d,z,k⟩:=Yb ht;obtain ⟨bi,d',z',k'⟩:=Yb hu;have hk:=k.kind;have aw:=k'.kind;unfold Yt at hk aw;simp only [bt,bm] at hk aw;obtain ⟨e,ie,de,ze,rfl,g1,g2,g3,g4,g5,g6,g7,g8,g9,_⟩:=hk;obtain ⟨e',_,_,_,rfl,_⟩:=aw;have gz : ze.cells.size = i.esize:=by have:=(q6z g4).1;simp at this;omega
  have r : ∀ ys b1,Yr st xv = some ys→vs = .slice none 0 0→rowsOf b1 = some (i.esize,ys)→ys.length * (i.ebytes * 4)≤room→ys.length≠0→
      ∃ x w' inj',(Builtin.append_ #[t,u] ty #[vs,vx]).run P w = .ok x w'∧RelV w' Z inj' (st.nx + 1) (.hs st.nx i.esize 0 ys.length) x∧RelH w' Z inj' ((st.nx,b1)::st.hp) (st.nx + 1)∧Ext w Z inj st.hp w' Z inj' ((st.nx,b1)::st.hp) st.nx:=by
    rintro ys b1 hc rfl hr c ch
    obtain ⟨ad,cap',L1,rfl,l,q,s⟩:=q9h h au hc hf g7
    have:=qb4 (P:=P) (ty:=ty) h k.und k'.und g1 g3 g6 g7 g8 g9 gz h.heap Ext.refl (base:=none) (cap:=0) (olds:=[]) (L0:=[]) qb .nil (rfl : J0 w none [] []) (cap':=cap') l q s (by simp;omega) (by simpa using c) (b1:=b1) (by simpa using hr)
    simpa using this
  have ae : ∀ ys,Yr st xv = some ys→vs = .slice none 0 0→ys.length = 0→(Builtin.append_ #[t,u] ty #[vs,vx]).run P w = .ok (.slice none 0 0) w:=by
    rintro ys hc rfl y;obtain ⟨ad,cap',L1,rfl,l,q,s⟩:=q9h h au hc hf g7;have ac:=q8u (P:=P) (tx:=u) (cap:=cap') g7 k'.und rfl l q s;have:=q9b (P:=P) (w:=w) (ty:=ty) k.und g1 (base:=none) (sLen:=0) (sCap:=0) (by rw [g6];exact ac) q6 (w':=w) rfl;grind
  have p : ∀ n off len xs ys b0 b1,sv = .hs n i.esize off len→st.blk n = some b0→rowsOf b0 = some (i.esize,xs)→off + len≤xs.length→Yr st xv = some ys→rowsOf b1 = some (i.esize,(xs.drop off).take len ++ ys)→
      (len + ys.length) * (i.ebytes * 4)≤room→
      ∃ x w' inj',(Builtin.append_ #[t,u] ty #[vs,vx]).run P w = .ok x w'∧RelV w' Z inj' (st.nx + 1) (.hs st.nx i.esize 0 (len + ys.length)) x∧RelH w' Z inj' ((st.nx,b1)::repl st.hp n .dead) (st.nx + 1)∧
        Ext w Z inj st.hp w' Z inj' ((st.nx,b1)::repl st.hp n .dead) st.nx:=by
    rintro n off len xs ys b0 b1 rfl bb ba bl hc ab c
    obtain ⟨ad,cap',L1,rfl,l,q,s⟩:=q9h h au hc hf g7
    have ac:=q8u (P:=P) (tx:=u) (cap:=cap') g7 k'.und rfl l q s
    have ah : ((xs.drop off).take len).length = len:=by simp;omega
    obtain ⟨q1,q2,q3⟩:=q54 (h.heap.blk n b0 bb).2 ba
    have m : RelH w Z inj (repl st.hp n .dead) st.nx:=h.heap.drop
    have aa : Ext w Z inj st.hp w Z inj (repl st.hp n .dead) st.nx:=Ext.drop
    have ph : len = 0→ys.length = 0→RelH w Z (upd inj st.nx none) ((st.nx,b1)::repl st.hp n .dead) (st.nx + 1)∧Ext w Z inj st.hp w Z (upd inj st.nx none) ((st.nx,b1)::repl st.hp n .dead) st.nx:=by
      intro h1 h2;have an : (xs.drop off).take len ++ ys = []:=by subst h1;simp [List.eq_nil_of_length_eq_zero h2]
      refine ⟨m.newPh b1 (q53 ab g7 (by rw [an];simp) (.inl ⟨an,Kr _ _ _⟩)),aa.trans (Ext.newPh m b1) (Nat.le_refl _)⟩
    cases ak with
    | hsnil hm=>
      by_cases y : ys.length = 0
      · obtain ⟨p1,p2⟩:=ph rfl y;have:=q9b (P:=P) (w:=w) (ty:=ty) k.und g1 (base:=none) (sLen:=0) (sCap:=0) (by rw [g6];exact ac) q6 (w':=w) rfl;refine ⟨_,w,_,this,?_,p1,p2⟩;simp only [Nat.zero_add,y];exact .hsnil q6
      · have:=qb4 (P:=P) (ty:=ty) h k.und k'.und g1 g3 g6 g7 g8 g9 gz m aa (base:=none) (cap:=0) (olds:=[]) (L0:=[]) qb .nil (rfl : J0 w none [] []) (cap':=cap') l q s (by simp;omega) (by simpa using c) (b1:=b1) (by simpa using ab);simpa using this
    | @hs _ _ _ _ cap adr hm hcl hsp hcap=>
      by_cases hg : len + ys.length≤cap
      · by_cases ay : cap = 0
        · obtain ⟨p1,p2⟩:=ph q6 q6;have hL : L1 = []:=List.eq_nil_of_length_eq_zero (by rw [l,show ys.length = 0 by omega];simp);have:=q9b (P:=P) (w:=w) (ty:=ty) k.und g1 (base:=some adr) (sLen:=len) (sCap:=cap) (by rw [g6];exact ac) hg (w':=w) (by subst hL;show (storeCells _ []).run P w = _;simp [storeCells]);exact ⟨_,w,_,this,.hs q6 hg hsp (fun h=>absurd ay h),p1,p2⟩
        · obtain ⟨b,o,hi,rfl,ao⟩:=hcap ay;exact qkk (P:=P) (ty:=ty) h k.und k'.und g1 g6 g7 bb ba bl hi ao hcl (cap':=cap') l q s hg ab
      · have hold : ∃ L0 : List Value,L0.length = ((xs.drop off).take len).length * i.esize∧ERel w Z inj st.nx i.esize ((xs.drop off).take len) L0.toArray∧J0 w (some adr) L0 ((xs.drop off).take len):=by
          by_cases y : len = 0
          · subst y;exact ⟨[],qb,by simpa using ERel.nil,fun k u hu=>by simp at hu⟩
          · obtain ⟨b,o,hi,rfl,ao⟩:=hcap q6;rcases q3 with ⟨_,q4⟩ | ⟨b',o',arr,cf,q3,q4,q5⟩
            · rw [hi] at q4;cases q4
            · rw [hi] at q3;cases q3;obtain ⟨L,l1,l2,l3⟩:=qdf (w:=w) (Z:=Z) (inj:=inj) (nx:=st.nx) (b:=b) (o:=o + off * i.esize) (xs:=(xs.drop off).take len) g7 (qdt q2) (q5.cells q4);exact ⟨L,l1,l3,fun k u hu=>by rw [J2];exact l2 k u hu⟩
        obtain ⟨L0,a1,a2,a3⟩:=hold;have:=qb4 (P:=P) (ty:=ty) h k.und k'.und g1 g3 g6 g7 g8 g9 gz m aa (base:=some adr) (cap:=cap) a1 a2 a3 (cap':=cap') l q s (by rw [ah];omega) (by rw [ah];exact c) (b1:=b1) ab;rw [ah] at this;exact this
  cases sv <;> simp only [Yl,reduceCtorEq] at f
  case d x=>
    cases x <;> simp only [reduceCtorEq] at f
    cases ak with | d ak=>
    cases ak
    cases af : Yf st xv with
    | some ys=>
      simp only [af] at f;split at f <;> try simp at f
      rename_i c;have g:=qbk af;by_cases y : ys = []
      · rw [qp y] at f;simp at f;obtain ⟨rfl,rfl⟩:=f;exact ⟨_,w,inj,ae _ g rfl (by simpa using y),.d .nilsl,h.heap,.refl,rfl,Nat.le_refl _⟩
      · rw [qs y] at f;simp at f;obtain ⟨rfl,rfl⟩:=f;have:=r _ (.dat i.esize ys) g rfl rfl (by simpa using c) (by simpa using y);obtain ⟨x,w',inj',h1,h2,h3,h4⟩:=this;exact ⟨x,w',inj',h1,by simpa [AS.new] using h2,h3,h4,rfl,by simp [AS.new]⟩
    | none=>
      simp only [af] at f
      cases g : Yr st xv with
      | none=>simp [g] at f
      | some ys=>
        simp only [g] at f;split at f <;> try simp at f
        rename_i c;by_cases y : ys = []
        · rw [qp y] at f;simp at f;obtain ⟨rfl,rfl⟩:=f;exact ⟨_,w,inj,ae _ g rfl (by simpa using y),.d .nilsl,h.heap,.refl,rfl,Nat.le_refl _⟩
        · rw [qs y] at f;simp at f;obtain ⟨rfl,rfl⟩:=f;obtain ⟨x,w',inj',h1,h2,h3,h4⟩:=r _ (.cel i.esize ys) g rfl rfl c (by simpa using y);exact ⟨x,w',inj',h1,by simpa [AS.new] using h2,h3,h4,rfl,by simp [AS.new]⟩
  case hs n es off len=>
    split at f
    · rename_i k0 xs ys hb af;split at f <;> simp at f
      rename_i aq;obtain ⟨c1,rfl,c3,rfl⟩:=aq;obtain ⟨rfl,rfl⟩:=f;have:=p n off len (xs.map (·.map .d)) (ys.map (·.map .d)) _ (.dat i.esize ((xs.drop off).take len ++ ys)) rfl hb rfl (by simpa using c1) (qbk af) (by simp [rowsOf,List.map_take,List.map_drop]) (by simpa using c3);obtain ⟨x,w',inj',h1,h2,h3,h4⟩:=this;exact ⟨x,w',inj',h1,by simpa [AS.new,AS.setBlk] using h2,h3,h4,rfl,by simp [AS.new,AS.setBlk]⟩
    · rename_i k0 xs hb af;split at f <;> try simp at f
      rename_i ys g;obtain ⟨⟨c1,rfl,c3,rfl⟩,rfl,rfl⟩:=f;have:=p n off len (xs.map (·.map .d)) ys _ (.cel i.esize ((((xs.map (·.map V.d)).drop off).take len) ++ ys)) rfl hb rfl (by simpa using c1) g rfl c3;obtain ⟨x,w',inj',h1,h2,h3,h4⟩:=this;exact ⟨x,w',inj',h1,by simpa [AS.new,AS.setBlk] using h2,h3,h4,rfl,by simp [AS.new,AS.setBlk]⟩
    · rename_i k0 xs hb;split at f <;> try simp at f
      rename_i ys g;obtain ⟨⟨c1,rfl,c3,rfl⟩,rfl,rfl⟩:=f;have:=p n off len xs ys _ (.cel i.esize ((xs.drop off).take len ++ ys)) rfl hb rfl c1 g rfl c3;obtain ⟨x,w',inj',h1,h2,h3,h4⟩:=this;exact ⟨x,w',inj',h1,by simpa [AS.new,AS.setBlk] using h2,h3,h4,rfl,by simp [AS.new,AS.setBlk]⟩
    · simp at f
end
end Go.Am
namespace Go.Am
open Go
variable {P : Program} {T : Tab}
section
variable {w : World} {Z : Nat→Prop} {inj : Inj} {nx : Nat}
theorem RowV.spliceRows {arr : Array Value} {o es off : Nat} {xs ys : List (List V)} {L : List Value} (h : RowV w Z inj nx arr o es xs) (n : ∀ (i : Nat) (x : List V),xs[i]? = some x→x.length = es) (f : ERel w Z inj nx es ys L.toArray)
    (k : off + ys.length≤xs.length) (b : o + off * es + L.length≤arr.size) : RowV w Z inj nx (splice arr.toList (o + off * es) L).toArray o es (splice xs off ys):=by
  have u : L.length = ys.length * es:=by simpa using f.1
  intro i x j d a hd;rw [Jb _ _ _ _ k] at a;rw [List.getElem?_toArray,Jb _ _ _ _ (by simpa using b)];by_cases hi : off≤i∧i < off + ys.length
  · rw [qp hi] at a;obtain ⟨l,c,q,m⟩:=f.2.2 _ x j d a hd;have g : j < es:=by have:=K9 hd;have:=f.2.1 _ x a;omega
    have r:=q2l (K9 a) g;have s : i * es = off * es + (i - off) * es:=by rw [← Nat.add_mul];congr 1;omega
    grind
  · rw [qs hi] at a;obtain ⟨l,c,q,m⟩:=h i x j d a hd;have g : j < es:=by have:=K9 hd;have:=n _ x a;omega
    refine ⟨l,c,?_,m⟩;rw [qs ?_]
    · grind
    · intro r;by_cases p : i < off
      · have:=q2l p g;omega
      · have t : (off + ys.length) * es≤i * es:=Nat.mul_le_mul_right _ q6;grind
theorem ERel.take {es m : Nat} {xs : List (List V)} {L : List Value} (h : ERel w Z inj nx es xs L.toArray) (b : m≤xs.length) : ERel w Z inj nx es (xs.take m) (L.take (m * es)).toArray:=by
  obtain ⟨f,k,g⟩:=h;simp only [List.size_toArray] at f;have:=Nat.mul_le_mul_right es b;refine ⟨by simp;rw [Nat.min_eq_left b];omega,?_,?_⟩
  · grind
  · intro i x j d a hd;rw [List.getElem?_take] at a;split at a
    · rename_i hi;obtain ⟨l,c,n,p⟩:=g i x j d a hd;have o:=q2l hi (show j < es by have:=K9 hd;have:=k _ x a;omega);grind
    grind
end
section
variable {w : World} {Z : Nat→Prop} {inj : Inj} {st : AS} {a : Act} {Ds : List Nat}
theorem qpc {t u ty : TypeId} {i j : TI} {sv xv v : V} {vs vx : Value} {st1 : AS} (h : RelS w Z inj st a Ds) (ht : tiOf P t = some i) (_hu : tiOf P u = some j) (bq : i.kind = .slice) (_hjk : j.kind = .slice) (bs : Ze i.esize sv = true) (hf : Ze i.esize xv = true)
    (ax : RelV w Z inj st.nx sv vs) (bn : RelV w Z inj st.nx xv vx) (ha : copyV st sv xv = some (v,st1)) :
    ∃ x w' inj',(Builtin.copy_ #[t,u] ty #[vs,vx]).run P w = .ok x w'∧RelV w' Z inj' st1.nx v x∧RelH w' Z inj' st1.hp st1.nx∧Ext w Z inj st.hp w' Z inj' st1.hp st.nx∧st1.sl = st.sl∧st.nx≤st1.nx:=by
  obtain ⟨bz,d,z,k⟩:=Yb ht;have hk:=k.kind;unfold Yt at hk;simp only [bq] at hk;obtain ⟨e,ie,de,ze,rfl,g1,g2,g3,g4,g5,g6,g7,g8,g9,_⟩:=hk;cases sv <;> simp only [copyV,reduceCtorEq] at ha
  rename_i n es off len;have br:=Nat.eq_of_beq_eq_true bs;subst br;split at ha <;> try simp at ha
  rename_i k0 xs ys hb bo;obtain ⟨⟨cg,rfl⟩,rfl,rfl⟩:=ha;obtain ⟨ad,cap',L1,rfl,an,bk,ay⟩:=q9h h bn (qbk bo) hf g7;rw [List.length_map] at an ⊢
  let m:=min ys.length len
  have hm : m = min ys.length len:=rfl;rw [← hm];obtain ⟨q1,q2,q3⟩:=q54 (h.heap.blk n _ hb).2 rfl;have cc : (xs.map (·.map V.d)).length = xs.length:=by simp
  have bv : m * i.esize≤ys.length * i.esize:=Nat.mul_le_mul_right _ q6
  have ag : (Builtin.firstCells i.esize m (.slice ad ys.length cap')).run P w = .ok (L1.take (m * i.esize)).toArray w:=by
    cases ad with
    | none=>
      have av : ys.map (·.map V.d) = []:=ay;have : ys = []:=by simpa using av
      subst this;simp at an;subst an;simp [Builtin.firstCells]
    | some p=>
      have:=run_loadCells_list (P:=P) w p (L1.take (m * i.esize)) (fun k u hu=>by
        rw [List.getElem?_take] at hu;split at hu
        · exact ay k u hu
        · simp at hu)
      rw [List.length_take,Nat.min_eq_left q6] at this;simpa [Builtin.firstCells] using this
  have s : ∀ base y ah,y = len→vs = .slice base y ah→∀ w',(match base with | some p=>(storeCells p (L1.take (m * i.esize))).run P w = .ok () w' | none=>w' = w)→
      (Builtin.copy_ #[t,u] ty #[vs,.slice ad ys.length cap']).run P w = .ok (.int .i64 m) w':=by
    rintro base y ah rfl rfl w' aa
    have am:=ag
    rw [← g6] at am
    have ak : Nat.min ys.length y = m:=rfl
    cases base with
    | none=>
      subst aa;simp [Builtin.copy_,run_underlying k.und,Builtin.lenOf,Ys g1,goInt,ak,am]
    | some p=>
      have ai : (storeCells p (L1.take (m * i.esize))).run P w = .ok () w':=aa;rw [← g6] at ai;simp [Builtin.copy_,run_underlying k.und,Builtin.lenOf,Ys g1,ai,goInt,ak,am]
  have l : live (.dat i.esize xs) = true:=rfl
  have same : m = 0→RelH w Z inj (repl st.hp n (.dat i.esize (splice xs off (ys.take m)))) st.nx∧Ext w Z inj st.hp w Z inj (repl st.hp n (.dat i.esize (splice xs off (ys.take m)))) st.nx:=by
    intro h0;have ap : splice xs off (ys.take m) = xs:=by rw [h0];simp [splice]
    rw [ap]
    have g : ∀ q,find (repl st.hp n (.dat i.esize xs)) q = find st.hp q:=by
      intro q;rw [Ym];by_cases hq : n = q
      · subst hq;have : find st.hp n = some (.dat i.esize xs):=hb;simp [this]
      · simp [hq]
    constructor
    · exact ⟨fun q b hq=>h.heap.blk q b (by rw [g] at hq;exact hq),fun q r b c p' q' h1 h2=>h.heap.sep q r b c p' q' (by rw [g] at h1;exact h1) (by rw [g] at h2;exact h2),fun q b p' h1=>h.heap.out q b p' (by rw [g] at h1;exact h1),h.heap.zs,h.heap.zc⟩
    · exact {Ext.refl (w:=w) (Z:=Z) (inj:=inj) (hp:=st.hp) (pin:=st.nx) with imm:=fun b hb=>by obtain ⟨q,blk,o,h1,h2,h3⟩:=hb;rw [g] at h1;exact .inl ⟨q,blk,o,h1,h2,h3⟩}
  have ae : ∀ w' inj' nx',RelV w' Z inj' nx' (.d (.int .i64 ((min ys.length len : Nat) : Int))) (.int .i64 (m : Nat)):=fun _ _ _=>.d (.int _ _);by_cases h0 : m = 0
  · obtain ⟨s1,s2⟩:=same h0
    cases ax with
    | hsnil=>exact ⟨_,w,inj,s none _ _ rfl rfl w rfl,ae _ _ _,s1,s2,rfl,Nat.le_refl _⟩
    | @hs _ _ _ _ cap adr hn' hlc _ hcap=>exact ⟨_,w,inj,s (some adr) _ _ rfl rfl w (by show (storeCells _ _).run P w = _;rw [h0];simp [storeCells]),ae _ _ _,s1,s2,rfl,Nat.le_refl _⟩
  · cases ax with
    | hsnil=>omega
    | @hs _ _ _ _ cap adr hn' hlc _ hcap=>
      obtain ⟨b,o,hi,rfl,aw⟩:=hcap q6;rcases q3 with ⟨_,q4⟩ | ⟨b',o',arr,ao,q3,q4,q5⟩
      · grind
      rw [hi] at q3;cases q3;have hL : (L1.take (m * i.esize)).length = m * i.esize:=by rw [List.length_take,Nat.min_eq_left q6]
      have af:=bk.take (m:=m) (by simp;omega)
      have bl : o + (off + cap) * i.esize≤arr.size:=by
        obtain ⟨c,e2,f,k1,k2⟩:=aw;grind
      have cm : m * i.esize≤cap * i.esize:=Nat.mul_le_mul_right _ q6;rw [Nat.add_mul] at bl;have aa:=run_storeCells_at P b (o + off * i.esize) ao (L1.take (m * i.esize)) 0 arr w q4 (by rw [hL];omega) (af.one g7);simp only [Nat.add_zero] at aa;have ap : (arr.toList.take (o + off * i.esize) ++ L1.take (m * i.esize) ++ arr.toList.drop (o + off * i.esize + (L1.take (m * i.esize)).length)).toArray = (splice arr.toList (o + off * i.esize) (L1.take (m * i.esize))).toArray:=rfl;rw [ap] at aa;have aq : o + off * i.esize + (L1.take (m * i.esize)).length≤arr.toList.length:=by rw [hL];simp;omega
      have ac : (splice arr.toList (o + off * i.esize) (L1.take (m * i.esize))).toArray.size = arr.size:=by simp only [List.size_toArray];rw [q1a _ _ _ aq];simp
      have hz : ∀ b1,Z b1→(w.setRow b (splice arr.toList (o + off * i.esize) (L1.take (m * i.esize))).toArray).heap[b1]? = w.heap[b1]?:=fun b1 bm=>
        setRow_other w b b1 _ (fun e=>h.heap.out n _ _ hb l hi (by rw [← e];exact bm))
      have bg:=q1t w b arr _ ao (0,0) q4 ac;have cq : (ys.take m).length = m:=by rw [List.length_take,Nat.min_eq_left q6]
      refine ⟨_,_,inj,s (some ⟨b,o + off * i.esize,none⟩) _ _ rfl rfl _ aa,ae _ _ _,?_,Ext.set h.heap hb l hi q4 ac,rfl,Nat.le_refl _⟩;refine h.heap.set hb l hi q4 ac (q53 (es:=i.esize) (xs:=splice (xs.map (·.map V.d)) off ((ys.map (·.map V.d)).take m)) ?_ g7 ?_ (.inr ⟨b,o,_,ao,hi,setRow_heap w b _ _ _ _ q4,?_⟩))
      · simp only [rowsOf,splice,List.map_append,List.map_take,List.map_drop,Option.some.injEq,Prod.mk.injEq,true_and];simp
      · intro i' x' al;rw [Jb _ _ _ _ (by simp;omega)] at al;split at al
        · exact af.2.1 _ _ al
        grind
      · refine (q5.spliceRows q2 af (by simp;omega) (by rw [hL];omega)).mono fun v x hr=>hr.mono hz (fun _ h=>h) bg (fun _ _=>rfl) (Nat.le_refl _)
theorem qpa {t ty : TypeId} {i : TI} {sv v : V} {vs : Value} {st1 : AS} (h : RelS w Z inj st a Ds) (ht : tiOf P t = some i) (bg : i.kind = .slice) (bb : Ze i.esize sv = true) (s : RelV w Z inj st.nx sv vs) (ha : J4 st i sv = some (v,st1)) :
    ∃ x w' inj',(Builtin.clear_ #[t] ty #[vs]).run P w = .ok x w'∧RelV w' Z inj' st1.nx v x∧RelH w' Z inj' st1.hp st1.nx∧Ext w Z inj st.hp w' Z inj' st1.hp st.nx∧st1.sl = st.sl∧st.nx≤st1.nx:=by
  obtain ⟨bk,d,z,k⟩:=Yb ht;have hk:=k.kind;unfold Yt at hk;simp only [bg] at hk;obtain ⟨e,ie,de,ze,rfl,g1,g2,g3,g4,g5,g6,g7,g8,g9,_⟩:=hk;have aa : ∀ w' inj' nx',RelV w' Z inj' nx' (.d (.tup [])) (.tuple #[]):=fun _ _ _=>.d (.tup qb qb);cases sv <;> simp only [J4,reduceCtorEq] at ha
  case d x=>
    cases x <;> simp only [reduceCtorEq,Option.some.injEq,Prod.mk.injEq] at ha
    obtain ⟨rfl,rfl⟩:=ha
    cases s with | d s=>
    cases s;exact ⟨_,w,inj,by simp [Builtin.clear_,run_underlying k.und],aa _ _ _,h.heap,.refl,rfl,Nat.le_refl _⟩
  case hs n es off len=>
  have bh:=Nat.eq_of_beq_eq_true bb;subst bh;split at ha <;> try simp at ha
  rename_i k0 xs hb;obtain ⟨⟨bo,rfl⟩,rfl,rfl⟩:=ha;obtain ⟨q1,q2,q3⟩:=q54 (h.heap.blk n _ hb).2 rfl;have m : live (.dat i.esize xs) = true:=rfl;by_cases h0 : len = 0
  · subst h0;have af : splice xs off (List.replicate 0 i.ezero) = xs:=by simp [splice]
    have g : ∀ q,find (repl st.hp n (.dat i.esize (splice xs off (List.replicate 0 i.ezero)))) q = find st.hp q:=by
      intro q;rw [af,Ym];by_cases hq : n = q
      · subst hq;have : find st.hp n = some (.dat i.esize xs):=hb;simp [this]
      · simp [hq]
    have s1 : RelH w Z inj (repl st.hp n (.dat i.esize (splice xs off (List.replicate 0 i.ezero)))) st.nx:=
      ⟨fun q b hq=>h.heap.blk q b (by rw [g] at hq;exact hq),fun q r b c p' q' h1 h2=>h.heap.sep q r b c p' q' (by rw [g] at h1;exact h1) (by rw [g] at h2;exact h2),fun q b p' h1=>h.heap.out q b p' (by rw [g] at h1;exact h1),h.heap.zs,h.heap.zc⟩
    have s2 : Ext w Z inj st.hp w Z inj (repl st.hp n (.dat i.esize (splice xs off (List.replicate 0 i.ezero)))) st.nx:=
      {Ext.refl (w:=w) (Z:=Z) (inj:=inj) (hp:=st.hp) (pin:=st.nx) with imm:=fun b hb=>by obtain ⟨q,blk,o,h1,h2,h3⟩:=hb;rw [g] at h1;exact .inl ⟨q,blk,o,h1,h2,h3⟩}
    cases s with
    | hsnil=>exact ⟨_,w,inj,by simp [Builtin.clear_,run_underlying k.und],aa _ _ _,s1,s2,rfl,Nat.le_refl _⟩
    | @hs _ _ _ _ cap adr hn' hlc _ hcap=>exact ⟨_,w,inj,by simp [Builtin.clear_,run_underlying k.und],aa _ _ _,s1,s2,rfl,Nat.le_refl _⟩
  · cases s with
    | hsnil=>omega
    | @hs _ _ _ _ cap adr hn' hlc _ hcap=>
      obtain ⟨b,o,hi,rfl,ao⟩:=hcap q6;rcases q3 with ⟨_,q4⟩ | ⟨b',o',arr,ae,q3,q4,q5⟩
      · grind
      rw [hi] at q3;cases q3;obtain ⟨p,aj⟩ : ∃ p,p = (Builtin.zeroCells ze.cells len).toList:=⟨_,rfl⟩
      have ax : ze.cells.size = i.esize:=by
        have:=(q6k (w:=w) (Z:=Z) g4).1;omega
      have hL : p.length = len * i.esize:=by rw [aj];simp [Builtin.zeroCells,ax]
      have ac : ERel w Z inj st.nx i.esize ((List.replicate len i.ezero).map (·.map V.d)) p.toArray:=by
        refine ⟨by simp [hL],fun q x hx=>?_,fun q x j d hx hd=>?_⟩
        · grind
        · rw [List.getElem?_map,List.getElem?_replicate] at hx;split at hx <;> simp at hx
          rename_i hq;subst hx;rw [List.getElem?_map] at hd
          cases ad : i.ezero[j]? with
          | none=>rw [ad] at hd;cases hd
          | some d'=>
            rw [ad] at hd;cases hd;obtain ⟨c,hc,hr,ah⟩:=qe0 (w:=w) (Z:=Z) g4 g5 hq ad;refine ⟨ah,c,?_,.d hr⟩;rw [aj,Array.toArray_toList];unfold Builtin.zeroCells;grind
      have bd : o + (off + cap) * i.esize≤arr.size:=by
        obtain ⟨c,e2,f,k1,k2⟩:=ao;grind
      have bu : len * i.esize≤cap * i.esize:=Nat.mul_le_mul_right _ q6;rw [Nat.add_mul] at bd;have y:=run_storeCells_at P b (o + off * i.esize) ae p 0 arr w q4 (by rw [hL];omega) (ac.one g7);simp only [Nat.add_zero] at y;have af : (arr.toList.take (o + off * i.esize) ++ p ++ arr.toList.drop (o + off * i.esize + p.length)).toArray = (splice arr.toList (o + off * i.esize) p).toArray:=rfl;rw [af] at y;have ag : o + off * i.esize + p.length≤arr.toList.length:=by rw [hL];simp;omega
      have u : (splice arr.toList (o + off * i.esize) p).toArray.size = arr.size:=by simp only [List.size_toArray];rw [q1a _ _ _ ag];simp
      have hz : ∀ b1,Z b1→(w.setRow b (splice arr.toList (o + off * i.esize) p).toArray).heap[b1]? = w.heap[b1]?:=fun b1 az=>
        setRow_other w b b1 _ (fun e=>h.heap.out n _ _ hb m hi (by rw [← e];exact az))
      have aw:=q1t w b arr _ ae (0,0) q4 u
      have an : (Builtin.clear_ #[t] ty #[.slice (some ⟨b,o + off * i.esize,none⟩) len cap]).run P w = .ok (.tuple #[]) (w.setRow b (splice arr.toList (o + off * i.esize) p).toArray):=by
        obtain ⟨l,rfl⟩ : ∃ l,len = l + 1:=⟨len - 1,q6⟩
        have be : (zeroValue e).run P w = .ok ze w:=by simp [zeroValue,typeInfo,g1,g3]
        rw [aj] at y ⊢;simp [Builtin.clear_,run_underlying k.und,be,y]
      refine ⟨_,_,inj,an,aa _ _ _,?_,Ext.set h.heap hb m hi q4 u,rfl,Nat.le_refl _⟩;refine h.heap.set hb m hi q4 u (q53 (es:=i.esize) (xs:=splice (xs.map (·.map V.d)) off ((List.replicate len i.ezero).map (·.map V.d))) ?_ g7 ?_ (.inr ⟨b,o,_,ae,hi,setRow_heap w b _ _ _ _ q4,?_⟩))
      · simp only [rowsOf,splice,List.map_append,List.map_take,List.map_drop,Option.some.injEq,Prod.mk.injEq,true_and];simp
      · intro i' x' av;rw [Jb _ _ _ _ (by simp;omega)] at av;grind
      · refine (q5.spliceRows q2 ac (by simp;omega) (by rw [hL];omega)).mono fun v x hr=>hr.mono hz (fun _ h=>h) aw (fun _ _=>rfl) (Nat.le_refl _)
end
end Go.Am
namespace Go.Am
open Go
variable {P : Program} {T : Tab}
def q94 (P : Program) (em : Bool) (k : Nat) (t : TypeId) (desc : TypeDesc) (n : Nat) : Prop:=
  ∀ w,(K6 desc = true→∀ X : Array Value,X.size = n→(Instr.checkKey em k t (.agg X)).run P w = .ok () w)∧(K6 desc = false→n = 1∧∀ x,(Instr.checkKey em k t x).run P w = .ok () w)
theorem qez {d : Bool} {k : Nat} {t : TypeId} {desc : TypeDesc} {b : TypeInfo} {n : Nat} (h : q94 P d k t desc n) (f : P.underlying t = some desc) (hi : P.info? t = some b) (hs : b.size = n) {X : Array Value} {o : Nat} (m : o + n≤X.size) (w : World) :
    ∃ v,(part t X o).run P w = .ok v w∧(Instr.checkKey d k t v).run P w = .ok () w:=by
  obtain ⟨g,c⟩:=h w
  cases a : K6 desc with
  | true=>exact ⟨.agg (X.extract o (o + n)),by simp [part,q1r f,a,Ys hi,hs],g a _ (by simp;omega)⟩
  | false=>
    obtain ⟨l,c⟩:=c a;obtain ⟨x,j⟩:=Ky (xs:=X) (i:=o) q6;exact ⟨x,by simp [part,q1r f,a,j],c x⟩
def qbe (em : Bool) (k : Nat) (X : Array Value) (f : Field) (_s : PUnit) : Sem (ForInStep PUnit):=
  if f.name ≠ "_" then do
    let __do_lift ← part f.type X f.offset
    Instr.checkKey em k f.type __do_lift
    pure (ForInStep.yield PUnit.unit)
  else pure (ForInStep.yield PUnit.unit)
theorem qk3 {d : Nat} {t : TypeId} {ks : List (Option IntKind)} (h : Kc P d t = some ks) : ∃ a,P.underlying t = some a:=by
  cases b : P.underlying t with
  | none=>cases d <;> simp [Kc,b] at h
  | some a=>exact ⟨a,rfl⟩
theorem qex (h : Bool) (d k : Nat) (n : ∀ t desc ks,P.underlying t = some desc→Kc P d t = some ks→q94 P h k t desc ks.length) (X : Array Value) (w : World) : ∀ (l : List Field) (o : Nat) (ks : List (Option IntKind)),
    tile P (Kc P d) o l = some ks→o + ks.length≤X.size→(forIn l PUnit.unit (qbe h k X) : Sem PUnit).run P w = .ok PUnit.unit w
  | [],_,_,_,_=>by simp
  | f::l,o,ks,ht,hl=>by
    simp only [tile] at ht
    cases a : Kc P d f.type with
    | none=>simp [a] at ht
    | some ka=>
      simp only [a] at ht
      split at ht <;> try simp at ht
      rename_i b
      obtain ⟨rfl,p,s⟩:=b
      cases c : tile P (Kc P d) (f.offset + ka.length) l with
      | none=>simp [c] at ht
      | some kb=>
        simp only [c,Option.some.injEq] at ht;subst ht
        simp only [List.length_append] at hl
        obtain ⟨u,g⟩:=qk3 a
        obtain ⟨x,j,m⟩:=qar g
        obtain ⟨v,r,q⟩:=qez (n f.type u ka g a) g j q6 (X:=X) (o:=f.offset) q6 w
        have:=qex h d k n X w l (f.offset + ka.length) kb c q6
        rw [List.forIn_cons]
        simp only [qbe,qp p,Sem.run_bind,r,q,Result.andThen_ok]
        simpa using this
def qbf (em : Bool) (k : Nat) (e : TypeId) (X : Array Value) (i : Nat) (_s : PUnit) : Sem (ForInStep PUnit):=do
  let __do_lift ← sizeOf e
  let __do_lift ← part e X (i * __do_lift)
  Instr.checkKey em k e __do_lift
  pure (ForInStep.yield PUnit.unit)
theorem qey {b : Bool} {k : Nat} {e : TypeId} {desc : TypeDesc} {a : TypeInfo} {n : Nat} (d : q94 P b k e desc n) (c : P.underlying e = some desc) (hi : P.info? e = some a) (hs : a.size = n) {X : Array Value} (w : World) :
    ∀ (m s : Nat),(s + m) * n≤X.size→(forIn (List.range' s m) PUnit.unit (qbf b k e X) : Sem PUnit).run P w = .ok PUnit.unit w
  | 0,s,_=>by simp
  | m + 1,s,hl=>by
    have h : s * n + n = (s + 1) * n:=by rw [Nat.add_mul];simp
    have j : (s + (m + 1)) * n = (s + 1) * n + m * n:=by rw [← Nat.add_mul];congr 1;omega
    obtain ⟨v,g,f⟩:=qez d c hi hs (X:=X) (o:=s * n) q6 w
    have:=qey d c hi hs w m (s + 1) (X:=X) (by rw [Nat.add_mul (s + 1)];omega)
    rw [List.range'_succ,List.forIn_cons]
    simp only [qbf,Sem.run_bind,Ys hi,hs,g,f,Result.andThen_ok]
    simpa using this
theorem qbg (f : Bool) : ∀ (d : Nat) (t : TypeId) (desc : TypeDesc) (ks : List (Option IntKind)),P.underlying t = some desc→Kc P d t = some ks→∀ k,d≤k→q94 P f k t desc ks.length
  | 0,t,desc,ks,hu,hp,k,hk=>by simp [Kc] at hp
  | d + 1,t,desc,ks,hu,hp,k,hk=>by
    obtain ⟨k,rfl⟩ : ∃ k',k = k' + 1:=⟨k - 1,q6⟩
    intro w
    simp only [Kc,hu] at hp
    cases desc <;> simp only [reduceCtorEq,Option.some.injEq] at hp
    case bool=>subst hp;exact ⟨by simp [K6],fun _=>⟨rfl,fun x=>by unfold Instr.checkKey;simp [run_underlying hu]⟩⟩
    case int k0=>subst hp;exact ⟨by simp [K6],fun _=>⟨rfl,fun x=>by unfold Instr.checkKey;simp [run_underlying hu]⟩⟩
    case struct fs=>
      refine ⟨fun _ X l=>?_,by simp [K6]⟩
      split at hp
      · simp at hp
      · have:=qex (P:=P) f d k (fun t desc ks m o=>qbg f d t desc ks m o k q6) X w fs.toList 0 ks hp q6
        rw [Array.forIn_toList] at this
        unfold qbe at this
        unfold Instr.checkKey
        simp only [Sem.run_bind,run_underlying hu,Result.andThen_ok]
        rw [this]
        simp
    case array n e=>
      refine ⟨fun _ X l=>?_,by simp [K6]⟩
      cases b : Kc P d e with
      | none=>simp [b] at hp
      | some a=>
        simp only [b] at hp
        split at hp
        · rename_i p
          simp only [Option.some.injEq] at hp;subst hp
          obtain ⟨q,c⟩:=qk3 b
          obtain ⟨r,g,j⟩:=qar c
          have h : (List.replicate n a).flatten.length = n * a.length:=by simp
          have:=qey (qbg f d e q a c b k q6) c g q6 w n 0 (X:=X) (by rw [Nat.zero_add];omega)
          unfold Instr.checkKey
          simp only [Sem.run_bind,run_underlying hu,Result.andThen_ok,Std.Legacy.Range.forIn_eq_forIn_range',Std.Legacy.Range.size,Nat.sub_zero,Nat.add_sub_cancel,Nat.div_one]
          unfold qbf at this
          rw [this]
          simp
        · simp at hp
section
variable {w w' : World} {Z : Nat→Prop} {inj : Inj}
theorem q9k {d : DV} {v : Value} (h : RelD w Z d v) : DRel w Z [d] #[v]:=⟨rfl,fun i x y a b=>by
  cases i with
  | zero=>simp at a b;subst a b;exact h
  | succ i=>simp at a⟩
theorem q6w {d : DV} {v : Value} (h : RelD w Z d v) (c : Z7 d = true) : ∃ cs,v = .agg cs∧DRel w Z (cellsD d) cs:=by
  cases h <;> simp [Z7] at c
  rename_i ds cs a b;exact ⟨cs,rfl,a,b⟩
theorem q4g {d : DV} (a : Z7 d = false) : cellsD d = [d]:=by cases d <;> simp_all [Z7,cellsD]
theorem qgv {d : TypeId} {desc : TypeDesc} {ks : List (Option IntKind)} (l : P.underlying d = some desc) (hp : Kc P 8 d = some ks) {a b : DV} {u v : Value} (g : RelD w Z a u) (hb : RelD w Z b v)
    (j : Z7 a = K6 desc) (h : Z7 b = K6 desc) {r : Bool} (f : Ka ks (cellsD a) (cellsD b) = some r) : (Op.equal d u v).run P w = .ok r w:=by
  have key:=q9n (P:=P) (w:=w) (Z:=Z) 8 d desc ks l hp Op.maxDepth (by unfold Op.maxDepth;omega)
  cases c : K6 desc with
  | true=>
    obtain ⟨X,rfl,k⟩:=q6w g (j.trans c);obtain ⟨Y,rfl,m⟩:=q6w hb (h.trans c);exact (key _ _ _ _ r k m f).1 c
  | false=>
    rw [q4g (j.trans c),q4g (h.trans c)] at f;exact ((key _ _ _ _ r (q9k g) (q9k hb) f).2 c).2 u v rfl rfl
theorem qdg {k : TypeId} {desc : TypeDesc} {ks : List (Option IntKind)} (l : P.underlying k = some desc) (hp : Kc P 8 k = some ks) {a b : DV} {u v : Value} (j : RelD w Z a u) (hb : RelD w Z b v) (g : K6 desc = false)
    {r : Bool} (c : Ka ks [a] [b] = some r) : Instr.sameNow desc u v = some r:=by
  simp only [Kc,l] at hp;cases desc <;> simp only [reduceCtorEq,Option.some.injEq] at hp <;> try (simp [K6] at g;done)
  case bool=>
    subst hp;simp only [Ka] at c;cases a <;> cases b <;> simp only [q1e,reduceCtorEq] at c
    simp at c;subst c;cases j;cases hb;rfl
  case int k0=>
    subst hp;simp only [Ka] at c;cases a <;> cases b <;> simp only [q1e,reduceCtorEq] at c
    split at c <;> simp at c
    rename_i d h;split at d <;> simp at d
    rename_i f;obtain ⟨rfl,rfl⟩:=f;subst d c;simp at h;subst h;cases j;cases hb;simp [Instr.sameNow]
def Ents (w : World) (Z : Nat→Prop) (es : List (DV × DV)) (ents : List MapEntry) : Prop:=
  ents.length = es.length∧∀ (i : Nat) (e : DV × DV) (x : MapEntry),es[i]? = some e→ents[i]? = some x→RelD w Z e.1 x.key∧RelD w Z e.2 x.val∧Y6 e.2 = true
theorem Ents.tail {e : DV × DV} {es : List (DV × DV)} {x : MapEntry} {a : List MapEntry} (h : Ents w Z (e::es) (x::a)) : RelD w Z e.1 x.key∧Ents w Z es a:=
  ⟨(h.2 0 e x rfl rfl).1,by simpa using h.1,fun i f c b d=>h.2 (i + 1) f c (by simpa using b) (by simpa using d)⟩
theorem qbt {m : TypeId} {desc : TypeDesc} {ks : List (Option IntKind)} (g : P.underlying m = some desc) (hp : Kc P 8 m = some ks) {a : DV} {u : Value} (j : RelD w Z a u) (f : K6 desc = false) :
    ∀ (es : List (DV × DV)) (d : List MapEntry) (s : Nat) (r : Option Nat),Ents w Z es d→Yx false ks a es = some r→Instr.findNow desc u d s = some (r.bind fun i=>(d[i]?).map fun x=>(s + i,x.val))
  | [],[],s,r,_,hm=>by simp only [Yx,Option.some.injEq] at hm;subst hm;rfl
  | [],x::d,_,_,h,_=>by have:=h.1;simp at this
  | e::es,[],_,_,h,_=>by have:=h.1;simp at this
  | (b,c)::es,x::d,s,r,h,hm=>by
    obtain ⟨l,o⟩:=h.tail
    simp only [Yx] at hm
    split at hm <;> try simp at hm
    rename_i n
    rw [q4g n.1,q4g n.2] at hm
    split at hm <;> try simp at hm
    · rename_i k
      subst hm
      simp [Instr.findNow,qdg g hp j l f k]
    · rename_i k
      split at hm <;> simp at hm
      · rename_i i hi
        subst hm
        have:=qbt g hp j f es d (s + 1) _ o hi
        simp only [Instr.findNow,qdg g hp j l f k,this]
        simp [Nat.add_comm,Nat.add_left_comm]
      · rename_i hi
        subst hm
        have:=qbt g hp j f es d (s + 1) _ o hi
        simp only [Instr.findNow,qdg g hp j l f k,this]
        rfl
theorem qbs {l : TypeId} {desc : TypeDesc} {ks : List (Option IntKind)} (g : P.underlying l = some desc) (hp : Kc P 8 l = some ks) {a : DV} {u : Value} (j : RelD w Z a u) (f : K6 desc = true) :
    ∀ (es : List (DV × DV)) (d : List MapEntry) (s : Nat) (r : Option Nat),Ents w Z es d→Yx true ks a es = some r→(Instr.findAsking l u d s).run P w = .ok (r.bind fun i=>(d[i]?).map fun x=>(s + i,x.val)) w
  | [],[],s,r,_,hm=>by simp only [Yx,Option.some.injEq] at hm;subst hm;simp [Instr.findAsking]
  | [],x::d,_,_,h,_=>by have:=h.1;simp at this
  | e::es,[],_,_,h,_=>by have:=h.1;simp at this
  | (b,c)::es,x::d,s,r,h,hm=>by
    obtain ⟨n,p⟩:=h.tail
    simp only [Yx] at hm
    split at hm <;> try simp at hm
    rename_i k
    split at hm <;> try simp at hm
    · rename_i m
      subst hm
      simp [Instr.findAsking,qgv g hp j n (k.1.trans f.symm) (k.2.trans f.symm) m]
    · rename_i m
      have o:=qgv g hp j n (k.1.trans f.symm) (k.2.trans f.symm) m
      split at hm <;> simp at hm
      · rename_i i hi
        subst hm
        have:=qbs g hp j f es d (s + 1) _ p hi
        simp only [Instr.findAsking,Sem.run_bind,o,Result.andThen_ok,Bool.false_eq_true,if_false,this]
        simp [Nat.add_comm,Nat.add_left_comm]
      · rename_i hi
        subst hm
        have:=qbs g hp j f es d (s + 1) _ p hi
        simp only [Instr.findAsking,Sem.run_bind,o,Result.andThen_ok,Bool.false_eq_true,if_false,this]
        rfl
theorem qmu {g : TypeId} {desc : TypeDesc} {ks : List (Option IntKind)} (d : P.underlying g = some desc) (hp : Kc P 8 g = some ks) {a : DV} {u : Value} (j : RelD w Z a u) (l : Z7 a = K6 desc)
    {es : List (DV × DV)} {b : List MapEntry} {r : Option Nat} (h : Ents w Z es b) (f : Yx (K6 desc) ks a es = some r) : (Instr.findKey g u b).run P w = .ok (r.bind fun i=>(b[i]?).map fun x=>(i,x.val)) w:=by
  cases c : K6 desc with
  | false=>
    rw [c] at f;have:=qbt d hp j c es b 0 r h f;simp only [Nat.zero_add] at this;simp only [Instr.findKey,Sem.run_bind,run_underlying d,Result.andThen_ok,this];simp
  | true=>
    rw [c] at f;have:=qbs d hp j c es b 0 r h f;simp only [Nat.zero_add] at this
    cases b with
    | nil=>
      rw [← this];simp [Instr.findKey,run_underlying d,Instr.findNow,Instr.findAsking]
    | cons e es=>
      have k : Instr.findNow desc u (e::es) 0 = none:=by
        cases desc <;> simp [K6] at c <;> simp [Instr.findNow,Instr.sameNow]
      simp only [Instr.findKey,Sem.run_bind,run_underlying d,Result.andThen_ok,k];exact this
theorem qbd : ∀ {ks : List (Option IntKind)} {xs ys : List DV} {X Y : List Value},Ka ks xs ys = some true→(X.length = xs.length)→(Y.length = ys.length)→
    (∀ (i : Nat) (d : DV) (c : Value),xs[i]? = some d→X[i]? = some c→RelD w Z d c)→(∀ (i : Nat) (d : DV) (c : Value),ys[i]? = some d→Y[i]? = some c→RelD w Z d c)→∀ n,X.length = Y.length∧(Y.zip X).all (fun (x,y)=>Instr.sameBits n x y) = true
  | [],[],[],[],[],_,_,_,_,_,n=>⟨rfl,rfl⟩
  | [],[],[],_::_,_,_,h,_,_,_,_=>by simp at h
  | [],[],[],[],_::_,_,_,h,_,_,_=>by simp at h
  | [],[],_::_,_,_,h,_,_,_,_,_=>by simp [Ka] at h
  | [],_::_,_,_,_,h,_,_,_,_,_=>by simp [Ka] at h
  | _::_,[],_,_,_,h,_,_,_,_,_=>by simp [Ka] at h
  | _::_,_::_,[],_,_,h,_,_,_,_,_=>by simp [Ka] at h
  | k::ks,a::xs,b::ys,[],_,_,h,_,_,_,_=>by simp at h
  | k::ks,a::xs,b::ys,_::_,[],_,_,h,_,_,_=>by simp at h
  | k::ks,a::xs,b::ys,x::X,y::Y,h,l1,l2,r1,r2,n=>by
    simp only [Ka] at h
    split at h <;> simp at h
    rename_i p q hp o
    obtain ⟨rfl,rfl⟩:=h
    obtain ⟨m,r⟩:=qbd o (by simpa using l1) (by simpa using l2) (fun i d c hd g=>r1 (i + 1) d c (by simpa using hd) (by simpa using g)) (fun i d c hd g=>r2 (i + 1) d c (by simpa using hd) (by simpa using g)) n
    have l:=r1 0 a x rfl rfl
    have j:=r2 0 b y rfl rfl
    refine ⟨by simp [m],?_⟩
    simp only [List.zip_cons_cons,List.all_cons,r,Bool.and_true]
    cases k with
    | none=>
      cases a <;> cases b <;> simp only [q1e,reduceCtorEq] at hp
      simp at hp;subst hp
      cases l;cases j;cases n <;> simp [Instr.sameBits]
    | some k=>
      cases a <;> cases b <;> simp only [q1e,reduceCtorEq] at hp
      split at hp <;> simp at hp
      rename_i f
      obtain ⟨rfl,rfl⟩:=f
      subst hp
      cases l;cases j;cases n <;> simp [Instr.sameBits]
theorem qnt {ks : List (Option IntKind)} {ag : Bool} {a b : DV} {u v : Value} (l : RelD w Z a u) (hb : RelD w Z b v) (n : Z7 a = ag) (m : Z7 b = ag) (j : Ka ks (cellsD a) (cellsD b) = some true) :
    (Instr.keyThatStays v u).run P w = .ok u w:=by
  have hs : Instr.sameBits 10000 v u = true:=by
    cases ag with
    | true=>
      obtain ⟨X,rfl,f,g⟩:=q6w l n;obtain ⟨Y,rfl,p,o⟩:=q6w hb m;obtain ⟨k,q⟩:=qbd (X:=X.toList) (Y:=Y.toList) j (by simpa using f.symm) (by simpa using p.symm) (fun i d c hd h=>g i d c hd (by simpa using h)) (fun i d c hd h=>o i d c hd (by simpa using h)) 9999;have r : (Y.size == X.size) = true:=by simp at k;simp [k]
      show (Y.size == X.size && (Y.toList.zip X.toList).all fun (x,y)=>Instr.sameBits 9999 x y) = true;grind
    | false=>
      rw [q4g n,q4g m] at j;have:=(qbd (X:=[u]) (Y:=[v]) j rfl rfl (fun i d c f g=>(q9k l).2 i d c f (by simpa using g)) (fun i d c f g=>(q9k hb).2 i d c f (by simpa using g)) 10000).2;simp_all
  simp [Instr.keyThatStays,hs]
end
theorem qga {w : World} {a : Addr} (h : ∀ c e f,w.heap[a.block]?≠some (.cells c e f)) : w.frozen? a = false:=by
  unfold World.frozen?;grind
theorem qbx {w : World} {b : Nat} {o : Obj} (h : ∀ c e f,w.heap[b]?≠some (.cells c e f)) (g : ∀ c e f,o≠.cells c e f) (a : Addr) : (w.putObj b o).frozen? a = w.frozen? a:=by
  by_cases hb : a.block = b
  · subst hb;rw [qga h,qga];intro c e f;by_cases d : a.block < w.heap.size
    · rw [World.putObj_heap_same d];intro j;exact g _ _ _ (qau j)
    simp_all
  · simp only [World.frozen?,World.putObj_heap_other hb]
theorem q4f {w : World} {b : Nat} {es : Array MapEntry} {cl : Nat} (hb : w.heap[b]? = some (.map es cl)) : (getObj b).run P w = .ok (.map es cl) w:=by simp [getObj,Sem.run,hb]
theorem qad {w : World} {b : Nat} {es : Array MapEntry} {cl : Nat} (o : Obj) (hb : w.heap[b]? = some (.map es cl)) : (setObj b o).run P w = .ok () (w.putObj b o):=by simp [setObj,Sem.run,hb,World.putObj]
section
variable {w : World} {Z : Nat→Prop} {inj : Inj} {hp : List (Nat × Blk)} {nx pin : Nat}
theorem qrc {n : Nat} {es : List (DV × DV)} (h : RelB w Z inj nx n (.mp es)) : ∃ b a cl,inj n = some (b,0)∧w.heap[b]? = some (.map a cl)∧Ents w Z es a.toList:=by
  obtain ⟨b,a,cl,c,f,g,d⟩:=h;exact ⟨b,a,cl,c,f,by simpa using g,fun i e x k j=>d i e x k (by simpa using j)⟩
theorem qiq (h : RelH w Z inj hp nx) {n : Nat} {es j : List (DV × DV)} (u : find hp n = some (.mp es)) {b : Nat} (hi : inj n = some (b,0)) {ad a : Array MapEntry} {cl cl' : Nat} (hb : w.heap[b]? = some (.map ad cl))
    (hE : Ents w Z j a.toList) : RelH (w.putObj b (.map a cl')) Z inj (repl hp n (.mp j)) nx∧Ext w Z inj hp (w.putObj b (.map a cl')) Z inj (repl hp n (.mp j)) pin:=by
  have g : ∀ k,k≠b→(w.putObj b (.map a cl')).heap[k]? = w.heap[k]?:=fun k l=>World.putObj_heap_other l
  have ah : ¬ Z b:=fun hz=>by
    obtain ⟨c,e,f,hc⟩:=h.zc b hz;grind
  have z : Za w (w.putObj b (.map a cl')):=fun k c e f l=>by grind
  have hz : ∀ k,Z k→(w.putObj b (.map a cl')).heap[k]? = w.heap[k]?:=fun k l=>g k (fun e=>ah (e ▸ l))
  have d : ∀ m c,find (repl hp n (.mp j)) m = some c→(m = n∧c = .mp j)∨(m≠n∧find hp m = some c):=by
    intro m c hm;rw [Ym] at hm;grind
  have af : ∀ k,im (repl hp n (.mp j)) inj k→im hp inj k:=by
    rintro k ⟨m,c,o,y,h2,t⟩;rcases d m c y with ⟨rfl,rfl⟩ | ⟨_,s⟩
    · exact ⟨m,_,o,u,rfl,t⟩
    · exact ⟨m,c,o,s,h2,t⟩
  have aa : RelB (w.putObj b (.map a cl')) Z inj nx n (.mp j):=by
    refine ⟨b,a,cl',hi,World.putObj_heap_same (Zj hb),by simpa using hE.1,fun i e x he hx=>?_⟩;obtain ⟨g1,g2,g3⟩:=hE.2 i e x he (by simpa using hx);exact ⟨g1.mono hz (fun _ h=>h),g2.mono hz (fun _ h=>h),g3⟩
  refine ⟨⟨?_,?_,?_,?_,?_⟩,⟨qb,?_,fun k l=>.inl (af k l),z,?_,fun _ h=>h,fun _ h=>.inl h,fun _ _=>rfl,rfl,rfl,rfl,qbx (fun _ _ _=>by rw [hb];simp) (fun _ _ _=>qb)⟩⟩
  · intro m c hm;rcases d m c hm with ⟨rfl,rfl⟩ | ⟨r,s⟩
    · exact ⟨(h.blk _ _ u).1,aa⟩
    · obtain ⟨v,h6⟩:=h.blk m c s;exact ⟨v,h6.mono hz (fun _ h=>h) z (fun _ _=>rfl) (Nat.le_refl _) v fun p hp ai=>g _ fun e=>h.sep m n c _ p (b,0) s u ai rfl hp hi r e⟩
  · intro m m' c c' p q y h2 t s v h6 r;rcases d m c y with ⟨rfl,rfl⟩ | ⟨e1,k1⟩ <;> rcases d m' c' h2 with ⟨rfl,rfl⟩ | ⟨e2,k2⟩
    · omega
    · exact h.sep _ _ _ _ p q u k2 rfl s v h6 r
    · exact h.sep _ _ _ _ p q k1 u t rfl v h6 r
    · exact h.sep _ _ _ _ p q k1 k2 t s v h6 r
  · intro m c p y h2 t;rcases d m c y with ⟨rfl,rfl⟩ | ⟨e1,k1⟩
    · grind
    · exact h.out _ _ p k1 h2 t
  · intro k l;simpa using h.zs k l
  · intro k l;obtain ⟨c,e,f,hc⟩:=h.zc k l;grind
  · intro k _ l;exact g k fun e=>l ⟨n,_,0,u,rfl,e ▸ hi⟩
  · intro k x l;grind
end
section
variable {w : World} {Z : Nat→Prop} {inj : Inj} {st : AS} {a : Act} {Ds : List Nat}
theorem qpm {t : TypeId} (h : RelS w Z inj st a Ds) : Ke st (st.new (.mp [])) (.mp st.nx) w Z inj ((do pure (Next.value (← Instr.makeMap t none)) : Sem Next).run P w):=by
  refine .new (o:=.map #[] 0) (x:=.map (some w.heap.size)) h ?_ ?_ (.mp q6 (Kr _ _ _))
  · simp [Instr.makeMap]
  · exact ⟨w.heap.size,#[],0,Kr _ _ _,J3 w _,rfl,qb⟩
theorem q4j {t : TypeId} {i : TI} {ks : List (Option IntKind)} {n : Nat} {es : List (DV × DV)} {o : DV} {mv q : Value} {r : Option Nat} (h : RelS w Z inj st a Ds) (ht : tiOf P t = some i) (hk : i.keys = some ks) (hm : RelV w Z inj st.nx (.mp n) mv)
    (hb : st.blk n = some (.mp es)) (l : RelD w Z o q) (p : Jk i.eagg ks o = true) (hf : Yx i.eagg ks o es = some r) :
    ∃ j et b c cl,P.underlying t = some (.map j et)∧mv = .map (some b)∧inj n = some (b,0)∧w.heap[b]? = some (.map c cl)∧Ents w Z es c.toList∧(∀ v,(Instr.checkKey v 10000 j q).run P w = .ok () w)∧
      (Instr.findKey j q c.toList).run P w = .ok (r.bind fun i=>(c[i]?).map fun x=>(i,x.val)) w∧∃ s u,i.ezero = [s]∧(zeroValue et).run P w = .ok u w∧RelD w Z s u:=by
  obtain ⟨af,d,z,k⟩:=Yb ht;have g:=k.kind;unfold Yt at g;rw [k.keys ks hk] at g;obtain ⟨j,e,ie,u,s,am,dk,rfl,g1,g2,g3,g4,g5,g6,g7,g8,_⟩:=g;rw [hk] at g6;cases g6
  have f : Z7 o = i.eagg∧(cellsD o).length = ks.length:=by
    simp only [Jk,Bool.and_eq_true,beq_iff_eq] at p;simp_all
  obtain ⟨f,m⟩:=f
  cases hm with
  | @mp _ b hn hi=>
  obtain ⟨b',c,cl,e1,e2,e3⟩:=qrc (h.heap.blk n _ hb).2;rw [hi] at e1;cases e1;rw [g8] at f hf;refine ⟨j,e,b,c,cl,k.und,rfl,hi,e2,e3,fun v=>?_,?_,s,u,g7,?_,(qbj g3).1⟩
  · have hc:=qbg v 8 j dk ks g5 g4 10000 q6 w
    cases y : K6 dk with
    | true=>
      obtain ⟨X,rfl,hX⟩:=q6w l (f.trans y);exact (hc.1 y) X (hX.1.symm.trans m)
    | false=>exact (hc.2 y).2 q
  · have:=qmu g5 g4 l f e3 hf;grind
  · simp [zeroValue,typeInfo,g1,g2]
theorem qbo {es : List (DV × DV)} {a : List MapEntry} (h : Ents w Z es a) {j : Nat} {e : DV × DV} (c : es[j]? = some e) : ∃ x,a[j]? = some x∧RelD w Z e.1 x.key∧RelD w Z e.2 x.val∧Y6 e.2 = true:=by
  obtain ⟨x,b⟩:=Z5 (xs:=a) (i:=j) (by rw [h.1];exact K9 c);exact ⟨x,b,h.2 j e x c b⟩
theorem qck {ag : Bool} {ks : List (Option IntKind)} {k : DV} : ∀ {es : List (DV × DV)} {j : Nat},Yx ag ks k es = some (some j)→∃ e,es[j]? = some e∧Z7 e.1 = ag∧Ka ks (cellsD k) (cellsD e.1) = some true
  | [],j,h=>by simp [Yx] at h
  | (b,c)::es,j,h=>by
    simp only [Yx] at h
    split at h <;> try simp at h
    rename_i g
    split at h <;> try simp at h
    · rename_i f;subst h;exact ⟨_,rfl,g.2,f⟩
    · split at h <;> simp at h
      rename_i i hi
      subst h
      obtain ⟨e,a,d⟩:=qck hi
      exact ⟨e,by simpa using a,d⟩
theorem qpk {t : TypeId} {x y : Operand} {ok : Bool} {i : TI} {ks : List (Option IntKind)} {n : Nat} {es : List (DV × DV)} {kd z : DV} {e : DV × Bool} (h : RelS w Z inj st a Ds) (ht : tiOf P t = some i) (hk : i.keys = some ks) (hx : st.ev x = some (.mp n)) (hy : st.ev y = some (.d kd))
    (hb : st.blk n = some (.mp es)) (hz : i.ezero = [z]) (k : Jk i.eagg ks kd = true) (p : mget i.eagg ks z kd es = some e) :
    Ke st st (.d (bif ok then .tup [e.1,.bool e.2] else e.1)) w Z inj ((do pure (Next.value (← Instr.lookup t (a.eval x) (a.eval y) ok)) : Sem Next).run P w):=by
  have hm:=K5 h hx;have f:=K5 h hy;generalize a.eval x = mv at hm ⊢;generalize a.eval y = kv at f ⊢
  cases f with | d f=>
  have fin : ∀ (u : Value) (o : Bool) (dv : DV),RelD w Z dv u→e = (dv,o)→(Instr.lookup t mv kv ok).run P w = .ok (if ok then .tuple #[u,.bool o] else u) w→Ke st st (.d (bif ok then .tup [e.1,.bool e.2] else e.1)) w Z inj ((do pure (Next.value (← Instr.lookup t mv kv ok)) : Sem Next).run P w):=by
    rintro u o dv hr rfl m;refine .quiet h (Kd m) (.d ?_)
    cases ok with
    | false=>exact hr
    | true=>
      refine .tup rfl fun i d c hd l=>?_
      match i,hd,l with
      | 0,hd,l=>simp at hd l;subst hd l;exact hr
      | 1,hd,l=>simp at hd l;subst hd l;exact .bool _
      | i + 2,hd,_=>simp at hd
  unfold mget at p;split at p <;> try simp at p
  · rename_i j hf;obtain ⟨a1,b1,r,rfl⟩:=p;obtain ⟨kt,et,b,g,cl,g1,rfl,g3,s,g5,g6,q,_⟩:=q4j h ht hk hm hb f k hf;obtain ⟨u,hu,q1,q2,q3⟩:=qbo g5 r;refine fin u.val true _ q2 rfl ?_;have v : g[j]? = some u:=by simpa using hu
    simp [Instr.lookup,run_underlying g1,q4f s,g6,q,v]
  · rename_i hf;subst p;obtain ⟨kt,et,b,g,cl,g1,rfl,g3,s,g5,g6,q,zd,ze,g8,g9,ab⟩:=q4j h ht hk hm hb f k hf;rw [hz] at g8;cases g8;refine fin ze false _ ab rfl ?_;simp only [Option.bind_none] at q;simp [Instr.lookup,run_underlying g1,q4f s,g6,q,g9]
theorem qmj {es : List (DV × DV)} {a : List MapEntry} (h : Ents w Z es a) {f b : DV} {x : MapEntry} (g : RelD w Z f x.key) (j : RelD w Z b x.val) (k : Y6 b = true) : Ents w Z (es ++ [(f,b)]) (a ++ [x]):=by
  refine ⟨by simp [h.1],fun i e y d c=>?_⟩;by_cases hi : i < es.length
  · rw [List.getElem?_append_left hi] at d;rw [List.getElem?_append_left (by rw [h.1];exact hi)] at c;exact h.2 i e y d c
  · rw [List.getElem?_append_right q6] at d;rw [List.getElem?_append_right (by rw [h.1];omega),h.1] at c;grind
theorem qmk {es : List (DV × DV)} {a : List MapEntry} (h : Ents w Z es a) {j : Nat} {g b : DV} {x : MapEntry} (k : RelD w Z g x.key) (l : RelD w Z b x.val) (m : Y6 b = true) : Ents w Z (es.set j (g,b)) (a.set j x):=by
  refine ⟨by simp [h.1],fun i e y f c=>?_⟩;rw [List.getElem?_set] at f c;by_cases d : j = i
  · grind
  · rw [qs d] at f c;exact h.2 i e y f c
theorem qmi {es : List (DV × DV)} {a : List MapEntry} (h : Ents w Z es a) (j : Nat) : Ents w Z (es.eraseIdx j) (a.eraseIdx j):=by
  refine ⟨by simp [List.length_eraseIdx,h.1],fun i e y c b=>?_⟩;rw [List.getElem?_eraseIdx] at c b;split at c
  · rename_i hi;rw [qp hi] at b;exact h.2 i e y c b
  · rename_i hi;rw [qs hi] at b;exact h.2 (i + 1) e y c b
theorem qpo {t : TypeId} {m x y : Operand} {i : TI} {ks : List (Option IntKind)} {n : Nat} {es o : List (DV × DV)} {kd vd : DV} (h : RelS w Z inj st a Ds) (ht : tiOf P t = some i) (hk : i.keys = some ks) (z : st.ev m = some (.mp n)) (hx : st.ev x = some (.d kd)) (hy : st.ev y = some (.d vd))
    (hb : st.blk n = some (.mp es)) (k : Jk i.eagg ks kd = true) (hc : Y6 vd = true) (s : mput i.eagg ks kd vd es = some o) :
    Ke st (st.setBlk n (.mp o)) .dead w Z inj ((do Instr.mapUpdate t (a.eval m) (a.eval x) (a.eval y);pure Next.skip : Sem Next).run P w):=by
  have z:=K5 h z;have f:=K5 h hx;have l:=K5 h hy;generalize a.eval m = mv at z ⊢;generalize a.eval x = kv at f ⊢;generalize a.eval y = vv at l ⊢
  cases f with | d f=>
  cases l with | d l=>
  have q : Z7 kd = i.eagg:=by simp only [Jk,Bool.and_eq_true,beq_iff_eq] at k;exact k.1
  have fin : ∀ b c cl g cl',inj n = some (b,0)→w.heap[b]? = some (.map c cl)→Ents w Z o g.toList→(Instr.mapUpdate t mv kv vv).run P w = .ok () (w.putObj b (.map g cl'))→
      Ke st (st.setBlk n (.mp o)) .dead w Z inj ((do Instr.mapUpdate t mv kv vv;pure Next.skip : Sem Next).run P w):=by
    intro b c cl g cl' hi hh hE r
    obtain ⟨v,g2⟩:=qiq (pin:=st.nx) (cl':=cl') h.heap hb hi hh hE
    exact ⟨undef,_,inj,.inr ⟨by simp [r],rfl⟩,.dead _,v,g2,rfl,Nat.le_refl _⟩
  unfold mput at s;split at s <;> try simp at s
  · rename_i j hf;subst s;obtain ⟨kt,et,b,c,cl,v,rfl,g3,p,g5,g6,g7,_⟩:=q4j h ht hk z hb f k hf;obtain ⟨e,he,e1,e2⟩:=qck hf;obtain ⟨u,hu,q1,q2,q3⟩:=qbo g5 he;have ah : c[j]? = some u:=by simpa using hu
    have ag:=qnt (P:=P) f q1 q e1 e2;refine fin b c cl (c.modify j fun e=>{e with key:=kv,val:=vv}) cl g3 p ?_ ?_
    · have : (c.modify j fun e=>{e with key:=kv,val:=vv}).toList = c.toList.set j {u with key:=kv,val:=vv}:=by
        apply List.ext_getElem?;grind
      rw [this];exact qmk g5 f l hc
    · simp [Instr.mapUpdate,run_underlying v,q4f p,g6,g7,ah,ag,qad _ p]
  · rename_i hf;subst s;obtain ⟨kt,et,b,c,cl,v,rfl,g3,p,g5,g6,g7,_⟩:=q4j h ht hk z hb f k hf;simp only [Option.bind_none] at g7;refine fin b c cl (c.push {key:=kv,val:=vv,born:=cl}) (cl + 1) g3 p ?_ ?_
    · rw [Array.toList_push];exact qmj g5 f l hc
    · simp [Instr.mapUpdate,run_underlying v,q4f p,g6,g7,qad _ p]
theorem qpd {z : Array TypeId} {ty t : TypeId} {mv x : Value} {i : TI} {ks : List (Option IntKind)} {n : Nat} {es k : List (DV × DV)} {kd : DV} (h : RelS w Z inj st a Ds) (ht : tiOf P t = some i) (r : z[0]? = some t) (hk : i.keys = some ks) (hm : RelV w Z inj st.nx (.mp n) mv) (o : RelD w Z kd x)
    (hb : st.blk n = some (.mp es)) (l : Jk i.eagg ks kd = true) (q : mdel i.eagg ks kd es = some k) :
    Ke st (st.setBlk n (.mp k)) (.d (.tup [])) w Z inj ((do pure (Next.value (← Builtin.delete_ z ty #[mv,x])) : Sem Next).run P w):=by
  have fin : ∀ b f cl g cl',inj n = some (b,0)→w.heap[b]? = some (.map f cl)→Ents w Z k g.toList→(Builtin.delete_ z ty #[mv,x]).run P w = .ok (.tuple #[]) (w.putObj b (.map g cl'))→
      Ke st (st.setBlk n (.mp k)) (.d (.tup [])) w Z inj ((do pure (Next.value (← Builtin.delete_ z ty #[mv,x])) : Sem Next).run P w):=by
    intro b f cl g cl' hi hh hE p
    obtain ⟨s,g2⟩:=qiq (pin:=st.nx) (cl':=cl') h.heap hb hi hh hE
    exact ⟨.tuple #[],_,inj,.inl (Kd p),.d (.tup rfl fun i d c hd _=>by simp at hd),s,g2,rfl,Nat.le_refl _⟩
  unfold mdel at q;split at q <;> try simp at q
  · rename_i j hf;subst q;obtain ⟨kt,et,b,f,cl,s,rfl,g3,m,y,g6,v,_⟩:=q4j h ht hk hm hb o l hf;obtain ⟨e,he,e1,e2⟩:=qck hf;obtain ⟨u,hu,q1,q2,q3⟩:=qbo y he;have ac : f[j]? = some u:=by simpa using hu
    refine fin b f cl (f.eraseIdxIfInBounds j) cl g3 m ?_ ?_
    · rw [Array.toList_eraseIdxIfInBounds];exact qmi y j
    · simp [Builtin.delete_,r,run_underlying s,q4f m,g6,v,ac,qad _ m]
  · rename_i hf;subst q;obtain ⟨kt,et,b,f,cl,s,rfl,g3,m,y,g6,v,_⟩:=q4j h ht hk hm hb o l hf;simp only [Option.bind_none] at v;refine fin b f cl f cl g3 m y ?_;simp [Builtin.delete_,r,run_underlying s,q4f m,g6,v,qad _ m]
end
end Go.Am
