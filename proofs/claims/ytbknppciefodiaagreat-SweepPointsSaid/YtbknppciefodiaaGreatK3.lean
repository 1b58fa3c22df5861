/- Am13 Am14 Am15 Am16 Am16m -/
import Derived.Test.YtbknppciefodiaaGreatK2
import Derived.Deep.AppendSrc
import Derived.Room.Entries
import Derived.RangeFuncRecord
namespace Go.Am
open Go
variable {P : Program} {T : Tab}
def RowV (w : World) (Z : Nat→Prop) (inj : Inj) (nx : Nat) (arr : Array Value) (o es : Nat) (xs : List (List V)) : Prop:=
  ∀ (i : Nat) (x : List V) (j : Nat) (d : V),xs[i]? = some x→x[j]? = some d→Kl d = true∧∃ c,arr[o + (i * es + j)]? = some c∧RelV w Z inj nx d c
section
variable {w : World} {Z : Nat→Prop} {inj : Inj} {nx : Nat}
theorem RowV.mono {w' : World} {inj' : Inj} {nx' : Nat} {arr : Array Value} {o es : Nat} {xs : List (List V)} (h : RowV w Z inj nx arr o es xs) (b : ∀ v x,RelV w Z inj nx v x→RelV w' Z inj' nx' v x) : RowV w' Z inj' nx' arr o es xs:=
  fun i x j d a hd=>let ⟨h1,c,h2,h3⟩:=h i x j d a hd;⟨h1,c,h2,b _ _ h3⟩
def rowsOf : Blk→Option (Nat × List (List V))
  | .dat es xs=>some (es,xs.map (·.map .d))
  | .cel es xs=>some (es,xs)
  | _=>none
theorem q6k {n : Nat} {b : Blk} {es : Nat} {xs : List (List V)} (h : RelB w Z inj nx n b) (p : rowsOf b = some (es,xs)) :
    es≠0∧(∀ (i : Nat) (x : List V),xs[i]? = some x→x.length = es)∧((xs = []∧inj n = none)∨∃ b o arr ty,inj n = some (b,o)∧w.heap[b]? = some (.cells arr ty (0,0))∧RowV w Z inj nx arr o es xs):=by
  cases b <;> simp only [rowsOf,reduceCtorEq,Option.some.injEq,Prod.mk.injEq] at p
  · obtain ⟨rfl,rfl⟩:=p;obtain ⟨g,l,a⟩:=h;refine ⟨g,?_,?_⟩
    · intro i x f;simp only [List.getElem?_map,Y5] at f;obtain ⟨y,q,rfl⟩:=f;simpa using l i y q
    · rcases a with ⟨a,k⟩ | ⟨b,o,arr,ty,a,k,v⟩
      · exact .inl ⟨by simp [a],k⟩
      · refine .inr ⟨b,o,arr,ty,a,k,fun i x j d f hd=>?_⟩;simp only [List.getElem?_map,Y5] at f;obtain ⟨y,q,rfl⟩:=f;simp only [List.getElem?_map,Y5] at hd;obtain ⟨t,m,rfl⟩:=hd;obtain ⟨s,c,r,u⟩:=v i y j t q m;exact ⟨s,c,r,.d u⟩
  · obtain ⟨rfl,rfl⟩:=p;obtain ⟨g,l,a⟩:=h;exact ⟨g,l,a⟩
theorem q6j {n : Nat} {b : Blk} {es : Nat} {xs : List (List V)} (g : rowsOf b = some (es,xs)) (l : es≠0) (m : ∀ (i : Nat) (x : List V),xs[i]? = some x→x.length = es)
    (h : (xs = []∧inj n = none)∨∃ b o arr ty,inj n = some (b,o)∧w.heap[b]? = some (.cells arr ty (0,0))∧RowV w Z inj nx arr o es xs) : RelB w Z inj nx n b:=by
  cases b <;> simp only [rowsOf,reduceCtorEq,Option.some.injEq,Prod.mk.injEq] at g
  · obtain ⟨rfl,rfl⟩:=g;rename_i xs;refine ⟨l,fun i x f=>?_,?_⟩
    · have:=m i (x.map .d) (by simp [f]);simpa using this
    · rcases h with ⟨k,a⟩ | ⟨b,o,arr,ty,k,a,s⟩
      · exact .inl ⟨by simpa using k,a⟩
      · refine .inr ⟨b,o,arr,ty,k,a,fun i x j d f hd=>?_⟩;obtain ⟨q,c,p,r⟩:=s i (x.map .d) j (.d d) (by simp [f]) (by simp [hd]);refine ⟨q,c,p,?_⟩
        cases r with | d h=>exact h
  · obtain ⟨rfl,rfl⟩:=g;exact ⟨l,m,h⟩
theorem RowV.set {arr k : Array Value} {o es e j : Nat} {xs : List (List V)} {cs ys : List V} (h : RowV w Z inj nx arr o es xs) (y : ∀ (i : Nat) (x : List V),xs[i]? = some x→x.length = es) (n : xs[e]? = some cs) (t : LRel w Z inj nx ys k) (s : ys.all Kl = true)
    (hj : j + ys.length≤cs.length) (m : o + (e * es + j) + k.size≤arr.size) : RowV w Z inj nx (splice arr.toList (o + (e * es + j)) k.toList).toArray o es (xs.set e (splice cs j ys)):=by
  have z : k.toList.length = ys.length:=by have:=t.1;simp;omega
  have g : o + (e * es + j) + k.toList.length≤arr.toList.length:=by simpa using m
  have ab:=y e cs n;intro i x a d f hd;rw [List.getElem?_toArray,U8 _ _ _ _ g];rw [List.getElem?_set] at f;by_cases b : e = i
  · subst b;rw [qr rfl,qr (Kd n)] at f;simp at f;subst f;rw [U8 _ _ _ _ hj] at hd;by_cases l : j≤a∧a < j + ys.length
    · rw [qr l] at hd;obtain ⟨c,v⟩:=Yd (xs:=k) (i:=a - j) (by have:=t.1;omega);rw [qr q6,show o + (e * es + a) - (o + (e * es + j)) = a - j by omega];exact ⟨List.all_eq_true.1 s _ (List.mem_of_getElem? hd),c,by simpa using v,t.2 _ _ _ hd v⟩
    · rw [qp l] at hd;rw [qp q6];obtain ⟨p,c,q,u⟩:=h e cs a d n hd;exact ⟨p,c,by simpa using q,u⟩
  · rw [qp b] at f;obtain ⟨p,c,q,u⟩:=h i x a d f hd;refine ⟨p,c,?_,u⟩;have r : a < es:=by have:=Kd hd;have:=y i x f;omega
    rw [qp ?_]
    · simpa using q
    · intro v;exact b ((qip (i:=e) r).1 q6).symm
end
section
variable {w : World} {Z : Nat→Prop} {inj : Inj} {st : AS} {a : Act} {Ds : List Nat}
theorem q134 {t : TypeId} {a : TypeInfo} {x : Value} {b o : Nat} {arr : Array Value} {ty : TypeId} (hi : P.info? t = some a) (hs : x.cells.size = a.size) (f : ∀ c∈x.cells.toList,c.oneCell' = true)
    (hb : w.heap[b]? = some (.cells arr ty (0,0))) (d : o + x.cells.size≤arr.size) :
    (Instr.storeAt t (.pointer (some ⟨b,o,none⟩)) x).run P w = .ok () (w.setRow b (splice arr.toList o x.cells.toList).toArray):=by
  have:=run_storeCells_at P b o ty x.cells.toList 0 arr w hb (by simpa using d) f;simp only [Nat.add_zero] at this;simp only [Instr.storeAt,Instr.sureAddr,storeVar,Sem.run_bind,Sem.run_pure,Result.andThen_ok,Zh hi,Sem.run_ite];rw [qp q6];exact this
theorem qva {t : TypeId} {i : TI} {p x : Operand} {pv v : V} {st1 : AS} (h : RelS w Z inj st a Ds) (ht : tiOf P t = some i) (hp : st.ev p = some pv) (hx : st.ev x = some v) (hs : Jl st i pv v = some st1) :
    Kk st st1 .dead w Z inj ((do Instr.storeAt t (a.eval p) (a.eval x);pure .skip : Sem Next).run P w):=by
  obtain ⟨av,d,z,k⟩:=Ys ht;have af:=Kb h hp;have aj:=Kb h hx;generalize a.eval p = vp at af ⊢;generalize a.eval x = vx at aj ⊢;cases pv <;> simp only [Jl,reduceCtorEq] at hs
  rename_i n k0 e j;split at hs <;> try simp at hs
  rename_i r
  have bc : (cellsOf v).length = i.size:=by
    apply Classical.byContradiction;intro hc;exact r (.inl hc)
  have ah : (cellsOf v).all Kl = true:=by
    cases hc : (cellsOf v).all Kl with
    | true=>rfl
    | false=>exact absurd (.inr hc) r
  cases af with | @ref _ _ _ _ b o hn hi=>
  have key : ∀ (y : Blk) (es : Nat) (xs : List (List V)) (cs : List V) (b1 : Blk),st.blk n = some y→rowsOf y = some (es,xs)→es = k0→xs[e]? = some cs→j + i.size≤cs.length→rowsOf b1 = some (es,xs.set e (splice cs j (cellsOf v)))→st1 = st.setBlk n b1→
      Kk st st1 .dead w Z inj ((do Instr.storeAt t (.pointer (some ⟨b,o + (e * k0 + j),none⟩)) vx;pure .skip : Sem Next).run P w):=by
    rintro y es xs cs b1 s aq rfl g f ap rfl
    obtain ⟨g1,g2,g3⟩:=q6k (h.heap.blk n y s).2 aq
    rcases g3 with ⟨g3,_⟩ | ⟨b',o',arr,ty,g3,g4,g5⟩
    · subst g3;simp at g
    · rw [hi] at g3;cases g3
      obtain ⟨c1,c2,c3⟩:=qc0 aj ah
      have m : live y = true:=by cases y <;> simp_all [rowsOf,live]
      have ao:=g2 e cs g
      have bb : 0 < es:=by omega
      have ar : o + (e * es + (es - 1)) < arr.size:=by
        obtain ⟨d0,ak⟩:=Zq (xs:=cs) (i:=es - 1) q6;obtain ⟨_,c,hc,_⟩:=g5 e cs (es - 1) d0 g ak;exact Zl hc
      have l : o + (e * es + j) + vx.cells.size≤arr.size:=by omega
      have ad:=q134 (P:=P) (w:=w) k.inf (x:=vx) (by rw [k.size];omega) c3 g4 l
      have aa : (splice arr.toList (o + (e * es + j)) vx.cells.toList).toArray.size = arr.size:=by
        simp only [List.size_toArray];rw [q26 _ _ _ (by simpa using l)];simp
      have hz : ∀ b1,Z b1→(w.setRow b (splice arr.toList (o + (e * es + j)) vx.cells.toList).toArray).heap[b1]? = w.heap[b1]?:=fun b1 al=>
        setRow_other w b b1 _ (fun e=>h.heap.out n y _ s m hi (by rw [← e];exact al))
      have an:=q2s w b arr _ ty (0,0) g4 aa
      refine ⟨undef,_,inj,.inr ⟨by simp [ad],rfl⟩,.dead _,?_,Ext.set h.heap s m hi g4 aa,rfl,Nat.le_refl _⟩
      refine h.heap.set s m hi g4 aa (q6j ap g1 ?_ (.inr ⟨b,o,_,ty,hi,setRow_heap w b _ _ _ _ g4,?_⟩))
      · intro i' x' q
        rw [List.getElem?_set] at q
        by_cases ag : e = i'
        · rw [qr ag,qr (by have:=Kd g;omega)] at q
          simp at q;rw [← q,q26 _ _ _ q6];exact ao
        · rw [qp ag] at q;exact g2 _ _ q
      · exact (g5.set g2 g ⟨c1,c2⟩ ah q6 l).mono fun v x hr=>hr.mono hz (fun _ h=>h) an (fun _ _=>rfl) (Nat.le_refl _)
  cases hb : st.blk n with
  | none=>simp [hb] at hs
  | some blk=>
    cases blk with
    | dead=>simp [hb] at hs
    | loop=>simp [hb] at hs
    | mp=>simp [hb] at hs
    | dat es xs=>
      simp only [hb] at hs;split at hs <;> try simp at hs
      rename_i cs u ab;have u:=Nat.eq_of_beq_eq_true u;have g : (xs.map (·.map V.d))[e]? = some (cs.map V.d):=by simp [ab]
      split at hs
      · rename_i ds au;simp at hs;obtain ⟨f,hs⟩:=hs;refine key _ _ _ _ _ hb rfl u.symm g (by simpa using f) ?_ hs.symm;simp only [rowsOf,Option.some.injEq,Prod.mk.injEq,true_and];rw [q50 au];simp [splice,List.map_set,List.map_take,List.map_drop]
      · simp at hs;obtain ⟨f,hs⟩:=hs;exact key _ _ _ _ _ hb rfl u.symm g (by simpa using f) rfl hs.symm
    | cel es xs=>
      simp only [hb] at hs;split at hs <;> try simp at hs
      rename_i cs u ab;have u:=Nat.eq_of_beq_eq_true u;obtain ⟨f,hs⟩:=hs;exact key _ _ _ _ _ hb rfl u.symm ab f rfl hs.symm
end
end Go.Am
namespace Go.Am
open Go
variable {P : Program} {T : Tab}
section
variable {w : World} {Z : Nat→Prop} {inj : Inj} {nx : Nat}
def Jr (w : World) (ad : Option Addr) (L : List Value) (ys : List (List V)) : Prop:=match ad with
  | some p=>∀ (k : Nat) (u : Value),L[k]? = some u→w.cell? (p.add k) = some u
  | none=>ys = []
theorem qgy {b o es : Nat} {xs : List (List V)} (t : es≠0) (n : ∀ (i : Nat) (x : List V),xs[i]? = some x→x.length = es)
    (h : ∀ (i : Nat) (x : List V) (j : Nat) (d : V),xs[i]? = some x→x[j]? = some d→Kl d = true∧∃ c,w.cell? ⟨b,o + (i * es + j),none⟩ = some c∧RelV w Z inj nx d c) :
    ∃ L : List Value,L.length = xs.length * es∧(∀ (k : Nat) (u : Value),L[k]? = some u→w.cell? ⟨b,o + k,none⟩ = some u)∧ERel w Z inj nx es xs L.toArray:=by
  have g : ∀ k,k < xs.length * es→∃ i x j d c,xs[i]? = some x∧x[j]? = some d∧k = i * es + j∧w.cell? ⟨b,o + k,none⟩ = some c∧RelV w Z inj nx d c:=by
    intro k a;have m : k / es < xs.length:=Nat.div_lt_of_lt_mul (by rwa [Nat.mul_comm]);have p : k % es < es:=Nat.mod_lt _ q6;obtain ⟨x,f⟩:=Zq m;obtain ⟨d,hd⟩:=Zq (xs:=x) (i:=k % es) (by rw [n _ _ f];exact p);obtain ⟨_,c,l,r⟩:=h _ _ _ _ f hd;have a : k = k / es * es + k % es:=by rw [Nat.mul_comm];exact (Nat.div_add_mod k es).symm
    exact ⟨_,_,_,_,c,f,hd,a,by rw [a];exact l,r⟩
  refine ⟨(List.range (xs.length * es)).map fun k=>(w.cell? ⟨b,o + k,none⟩).getD undef,qe,?_,?_⟩
  · intro k u q;have a : k < xs.length * es:=by have:=Kd q;simpa using this
    obtain ⟨_,_,_,_,c,_,_,_,l,_⟩:=g k a;simp [a,l] at q;rw [l,q]
  · refine ⟨qe,n,fun i x j d f hd=>?_⟩;obtain ⟨m,c,p,s⟩:=h i x j d f hd;have a:=q3g (Kd f) (show j < es by have:=Kd hd;have:=n i x f;omega);exact ⟨m,c,by simp [a,p],s⟩
theorem ERel.append {es : Nat} {xs ys : List (List V)} {A B : Array Value} (h : ERel w Z inj nx es xs A) (k : ERel w Z inj nx es ys B) : ERel w Z inj nx es (xs ++ ys) (A ++ B):=by
  obtain ⟨l,m,o⟩:=h;obtain ⟨b1,p,n⟩:=k;refine ⟨by simp [l,b1,Nat.add_mul],?_,?_⟩
  · intro i x a;rw [List.getElem?_append] at a;split at a
    · exact m _ _ a
    · exact p _ _ a
  · intro i x j d a hd;rw [List.getElem?_append] at a;split at a
    · obtain ⟨f,c,b,g⟩:=o i x j d a hd;exact ⟨f,c,by rw [Array.getElem?_append_left (Zl b)];exact b,g⟩
    · rename_i hi;obtain ⟨f,c,b,g⟩:=n _ x j d a hd;refine ⟨f,c,?_,g⟩
      have e : i * es + j = A.size + ((i - xs.length) * es + j):=by
        rw [l,← Nat.add_assoc,← Nat.add_mul];congr 2;omega
      rw [e,Array.getElem?_append_right q6,show A.size + ((i - xs.length) * es + j) - A.size = (i - xs.length) * es + j by omega];exact b
theorem ERel.row {es : Nat} {xs : List (List V)} {A B : Array Value} (h : ERel w Z inj nx es xs A) : RowV w Z inj nx (A ++ B) 0 es xs:=by
  intro i x j d b hd;obtain ⟨f,c,a,g⟩:=h.2.2 i x j d b hd;exact ⟨f,c,by rw [Nat.zero_add,Array.getElem?_append_left (Zl a)];exact a,g⟩
theorem ERel.one {es : Nat} {xs : List (List V)} {L : List Value} (p : es≠0) (h : ERel w Z inj nx es xs L.toArray) : ∀ u∈L,u.oneCell' = true:=by
  intro u o;obtain ⟨k,f⟩:=List.mem_iff_getElem?.1 o;have j:=Kd f;have g : L.length = xs.length * es:=by simpa using h.1
  have m : k / es < xs.length:=Nat.div_lt_of_lt_mul (by rw [Nat.mul_comm];omega);obtain ⟨x,b⟩:=Zq m;obtain ⟨d,hd⟩:=Zq (xs:=x) (i:=k % es) (by rw [h.2.1 _ _ b];exact Nat.mod_lt _ q6);obtain ⟨n,c,a,l⟩:=h.2.2 _ _ _ _ b hd;have e : k / es * es + k % es = k:=by rw [Nat.mul_comm];exact Nat.div_add_mod k es
  rw [e] at a;simp [f] at a;subst a;exact qgk l n
theorem ERel.mono {w' : World} {inj' : Inj} {nx' es : Nat} {xs : List (List V)} {A : Array Value} (h : ERel w Z inj nx es xs A) (b : ∀ v x,RelV w Z inj nx v x→RelV w' Z inj' nx' v x) : ERel w' Z inj' nx' es xs A:=
  ⟨h.1,h.2.1,fun i x j d a hd=>let ⟨h1,c,h2,h3⟩:=h.2.2 i x j d a hd;⟨h1,c,h2,b _ _ h3⟩⟩
theorem ERel.nil {es : Nat} : ERel w Z inj nx es [] #[]:=⟨qe,qe,qe⟩
theorem RowV.cells {arr : Array Value} {ty : TypeId} {b o es off len : Nat} {xs : List (List V)} (h : RowV w Z inj nx arr o es xs) (hb : w.heap[b]? = some (.cells arr ty (0,0))) :
    ∀ (i : Nat) (x : List V) (j : Nat) (d : V),((xs.drop off).take len)[i]? = some x→x[j]? = some d→Kl d = true∧∃ c,w.cell? ⟨b,o + off * es + (i * es + j),none⟩ = some c∧RelV w Z inj nx d c:=by
  intro i x j d a hd;rw [List.getElem?_take] at a;split at a
  · rw [List.getElem?_drop] at a;obtain ⟨f,c,g,k⟩:=h _ x j d a hd;refine ⟨f,c,?_,k⟩;simp only [World.cell?,hb];rw [← g];simp only [Option.isSome_none,Bool.false_eq_true,if_false];rw [Nat.add_mul];congr 1;omega
  · simp at a
theorem qhd {es off len : Nat} {xs : List (List V)} (b : ∀ (i : Nat) (x : List V),xs[i]? = some x→x.length = es) : ∀ (i : Nat) (x : List V),((xs.drop off).take len)[i]? = some x→x.length = es:=by
  intro i x a;rw [List.getElem?_take] at a;split at a
  · rw [List.getElem?_drop] at a;exact b _ _ a
  · simp at a
end
section
variable {w : World} {Z : Nat→Prop} {inj : Inj} {st : AS} {a : Act} {Ds : List Nat}
theorem qf4 {x : V} {ys : List (List DV)} (h : Yz st x = some ys) : Zd st x = some (ys.map (·.map .d)):=by
  unfold Yz at h;split at h
  · simp at h;subst h;rfl
  · simp at h;subst h;rfl
  · split at h <;> try simp at h
    rename_i hb;obtain ⟨a,rfl⟩:=h;simp [Zd,hb,a]
  · simp at h
theorem qc3 {x : V} {xv : Value} {es : Nat} {ys : List (List V)} (h : RelS w Z inj st a Ds) (l : RelV w Z inj st.nx x xv) (f : Zd st x = some ys) (hf : J1 es x = true) (v : es≠0) :
    ∃ (m : Option Addr) (cap : Nat) (L : List Value),xv = .slice m ys.length cap∧L.length = ys.length * es∧ERel w Z inj st.nx es ys L.toArray∧Jr w m L ys:=by
  unfold Zd at f;split at f
  · simp at f;subst f
    cases l with | d l=>
    cases l;exact ⟨none,0,[],rfl,qe,.nil,(rfl : Jr w none [] [])⟩
  · rename_i g xs;simp at f;subst f;have he:=Nat.eq_of_beq_eq_true hf;subst he
    cases l with | d l=>
    cases l with
    | slnil=>exact ⟨none,0,[],rfl,qe,.nil,(rfl : Jr w none [] [])⟩
    | slemp _ m=>exact ⟨some m,0,[],rfl,qe,.nil,fun k u q=>by simp at q⟩
    | @sl _ _ b o cap p h2 h3 h4 h5=>
      obtain ⟨L,l1,l2,l3⟩:=qgy (w:=w) (Z:=Z) (inj:=inj) (nx:=st.nx) (b:=b) (o:=o) (xs:=xs.map (·.map V.d)) v
        (fun i x l=>by simp only [List.getElem?_map,Y5] at l;obtain ⟨y,hy,rfl⟩:=l;simpa using h3 i y hy)
        (fun i x j d l hd=>by
          simp only [List.getElem?_map,Y5] at l;obtain ⟨y,hy,rfl⟩:=l;simp only [List.getElem?_map,Y5] at hd;obtain ⟨d',s,rfl⟩:=hd;obtain ⟨g1,c,g2⟩:=h4 i y j d' hy s
          exact ⟨g1,c,g2,.d (h5 i y j d' c hy s g2)⟩)
      exact ⟨some ⟨b,o,none⟩,cap,L,qe,l1,l3,fun k u q=>by rw [Ju];exact l2 k u q⟩
  · rename_i n g off len;have he:=Nat.eq_of_beq_eq_true hf;subst he
    have key : ∀ (z : Blk) (xs : List (List V)),st.blk n = some z→rowsOf z = some (g,xs)→off + len≤xs.length→ys = (xs.drop off).take len→
        ∃ (m : Option Addr) (cap : Nat) (L : List Value),xv = .slice m ys.length cap∧L.length = ys.length * g∧ERel w Z inj st.nx g ys L.toArray∧Jr w m L ys:=by
      rintro z xs hb hr an rfl
      have t : ((xs.drop off).take len).length = len:=by simp;omega
      obtain ⟨g1,g2,r⟩:=q6k (h.heap.blk n z hb).2 hr
      cases l with
      | hsnil=>
        have : (xs.drop off).take 0 = []:=by simp
        rw [this];exact ⟨none,0,[],rfl,qe,.nil,(rfl : Jr w none [] [])⟩
      | @hs _ _ _ _ cap m hn f _ hcap=>
        by_cases h0 : len = 0
        · subst h0;have : (xs.drop off).take 0 = []:=by simp
          rw [this];exact ⟨some m,cap,[],rfl,qe,.nil,fun k u q=>by simp at q⟩
        · obtain ⟨b,o,hi,rfl,aj⟩:=hcap q6;rcases r with ⟨r,g4⟩ | ⟨b',o',arr,ty,r,g4,g5⟩
          · rw [hi] at g4;cases g4
          · rw [hi] at r;cases r;obtain ⟨L,l1,l2,l3⟩:=qgy (w:=w) (Z:=Z) (inj:=inj) (nx:=st.nx) (b:=b) (o:=o + off * g) (xs:=(xs.drop off).take len) v (qhd g2) (g5.cells g4);exact ⟨some ⟨b,o + off * g,none⟩,cap,L,by rw [t],l1,l3,fun k u q=>by rw [Ju];exact l2 k u q⟩
    split at f
    · rename_i k xs hb;split at f <;> try simp at f
      rename_i p;obtain ⟨p,rfl⟩:=p;subst f;refine key _ (xs.map (·.map V.d)) hb rfl (by simpa using p) qe
    · rename_i k xs hb;split at f <;> try simp at f
      rename_i p;obtain ⟨p,rfl⟩:=p;subst f;exact key _ xs hb rfl p rfl
    · simp at f
  · simp at f
theorem qb5 {es n : Nat} {tx g : TypeId} {c : Option Addr} {cap : Nat} {ys : List (List V)} {L : List Value} (f : es≠0) (d : P.underlying tx = some (.slice g)) (j : n = ys.length) (a : L.length = ys.length * es)
    (h : ERel w Z inj st.nx es ys L.toArray) (b : Jr w c L ys) : Src P es tx (.slice c ys.length cap) n L w:=by
  subst j;refine ⟨.inl ⟨g,d⟩,fun w'=>by simp [Builtin.lenOf],?_,?_,a,h.one f⟩
  · cases c with
    | none=>subst b;simp at a;subst a;simp [Builtin.firstCells]
    | some p=>
      have:=run_loadCells_list (P:=P) w p L b;rw [a] at this;simpa [Builtin.firstCells] using this
  · cases c with
    | none=>subst b;simp at a;subst a;simp [Builtin.firstCells]
    | some p=>
      have:=run_loadCells_list (P:=P) w.drew p L b;rw [a] at this;simpa [Builtin.firstCells] using this
theorem qbu {t tx ty e : TypeId} {i : TypeInfo} (d : P.underlying t = some (.slice e)) (hi : P.info? e = some i) {base : Option Addr} {sLen sCap : Nat} {x : Value} {n : Nat} {news : List Value} (hs : Src P i.size tx x n news w) (a : sLen + n≤sCap)
    {w' : World} (b : match base with | some p=>(storeCells (p.add (sLen * i.size)) news).run P w = .ok () w' | none=>w' = w) :
    (Builtin.append_ #[t,tx] ty #[.slice base sLen sCap,x]).run P w = .ok (.slice base (sLen + n) sCap) w':=by
  cases base with
  | none=>subst b;rcases hs.kind with ⟨f,c⟩ | c <;> simp [Builtin.append_,run_underlying d,run_underlying c,sizeOf,typeInfo,hi,hs.len,a,hs.cells]
  | some p=>rcases hs.kind with ⟨f,c⟩ | c <;> simp [Builtin.append_,run_underlying d,run_underlying c,sizeOf,typeInfo,hi,hs.len,a,hs.cells,b]
end
end Go.Am
namespace Go.Am
open Go
variable {P : Program} {T : Tab}
section
variable {w : World} {Z : Nat→Prop} {inj : Inj}
theorem RelH.newPh {hp : List (Nat × Blk)} {nx : Nat} (d : RelH w Z inj hp nx) (blk : Blk) (hb : RelB w Z (upd inj nx none) (nx + 1) nx blk) : RelH w Z (upd inj nx none) ((nx,blk)::hp) (nx + 1):=by
  refine ⟨?_,?_,?_,d.zs,d.zc⟩
  · intro n b h;rw [Ku] at h;by_cases a : nx = n
    · grind
    · simp only [a,if_false] at h;obtain ⟨g,j⟩:=d.blk n b h;exact ⟨q6,j.mono (fun _ _=>rfl) (fun _ h=>h) (Sem.keepBig_of_same rfl) (fun m f=>Yf _ _ f) q6 g (fun _ _ _=>rfl)⟩
  · intro n m b c p q a f o l hp k r;rw [Ku] at a f;by_cases g : nx = n
    · subst g;rw [Y4] at hp;cases hp
    · by_cases j : nx = m
      · subst j;rw [Y4] at k;cases k
      · simp only [g,j,if_false] at a f;rw [Yf _ _ (d.blk n b a).1] at hp;rw [Yf _ _ (d.blk m c f).1] at k;exact d.sep n m b c p q a f o l hp k r
  · intro n b p h s hp;rw [Ku] at h;by_cases a : nx = n
    · subst a;rw [Y4] at hp;cases hp
    · simp only [a,if_false] at h;rw [Yf _ _ (d.blk n b h).1] at hp;exact d.out n b p h s hp
theorem Ext.newPh {hp : List (Nat × Blk)} {nx : Nat} (l : RelH w Z inj hp nx) (blk : Blk) : Ext w Z inj hp w Z (upd inj nx none) ((nx,blk)::hp) nx:=by
  refine ⟨Nat.le_refl _,fun _ _ _=>rfl,?_,fun _ c e f h=>⟨c,e,f,h,rfl⟩,fun _ r h=>⟨r,h,rfl⟩,fun _ h=>h,fun _ h=>.inl h,fun n j=>Yf _ _ j,rfl,rfl,rfl,fun _=>rfl⟩;rintro b ⟨n,a,d,g,m,k⟩;rw [Ku] at g;by_cases j : nx = n
  · subst j;rw [Y4] at k;cases k
  · simp only [j,if_false] at g;rw [Yf _ _ (l.blk n a g).1] at k;exact .inl ⟨n,a,d,g,m,k⟩
theorem RelH.move {hp : List (Nat × Blk)} {nx n : Nat} (d : RelH w Z inj hp nx) {x blk : Blk} (hn : find hp n = some x) (l : live x = true) {g off y : Nat} (hi : inj n = some (g,off)) {old cs : Array Value} {t : TypeId} {fr : Nat × Nat}
    (hg : w.heap[g]? = some (.cells old t fr)) (hs : cs.size = old.size) (hb : RelB (w.setRow g cs) Z (upd inj nx (some (g,y))) (nx + 1) nx blk) :
    RelH (w.setRow g cs) Z (upd inj nx (some (g,y))) ((nx,blk)::repl hp n .dead) (nx + 1):=by
  have ae : ∀ b,Z b→b≠g:=fun b r e=>d.out n x _ hn l hi (by rw [← e];exact r)
  have key : ∀ m b,find (repl hp n .dead) m = some b→live b = true→find hp m = some b∧n≠m:=by
    intro m b h z;rw [Z7] at h;by_cases f : n = m
    · subst f;simp [hn] at h;subst h;simp [live] at z
    grind
  have j : ∀ m b,find (repl hp n .dead) m = some b→m < nx:=by
    intro m b h;rw [Z7] at h;by_cases f : n = m
    · subst f;exact (d.blk n x hn).1
    · simp only [f,if_false] at h;exact (d.blk m b h).1
  refine ⟨?_,?_,?_,fun b r=>by simpa using d.zs b r,fun b r=>by rw [setRow_other w g b cs (ae b r)];exact d.zc b r⟩
  · intro m b h;rw [Ku] at h;by_cases f : nx = m
    · grind
    · simp only [f,if_false] at h;refine ⟨by have:=j m b h;omega,?_⟩;by_cases z : live b = true
      · obtain ⟨u,v⟩:=key m b h z;obtain ⟨h3,h4⟩:=d.blk m b u;refine h4.mono (fun b r=>setRow_other w g b cs (ae b r)) (fun _ h=>h) (q2s w g old cs t fr hg hs) (fun _ hk=>Yf _ _ hk) q6 h3 ?_;intro p hp' aj;exact setRow_other w g p.1 cs (fun e=>d.sep n m x b _ _ hn u l z hi hp' v e.symm)
      · have : b = .dead:=by cases b <;> simp_all [live]
        subst this;trivial
  · intro m k b c p q u v ab s o a af;rw [Ku] at u v;by_cases f : nx = m
    · subst f;rw [Y4] at o;cases o;simp only [af,if_false] at v;obtain ⟨h3,h4⟩:=key k c v s;rw [Yf _ _ (j k c v)] at a;exact fun e=>d.sep n k x c (g,off) q hn h3 l s hi a h4 e
    · simp only [f,if_false] at u;obtain ⟨h3,h4⟩:=key m b u ab;rw [Yf _ _ (j m b u)] at o;by_cases hk : nx = k
      · subst hk;rw [Y4] at a;cases a;exact fun e=>d.sep n m x b (g,off) p hn h3 l ab hi o h4 e.symm
      · simp only [hk,if_false] at v;obtain ⟨h5,h6⟩:=key k c v s;rw [Yf _ _ (j k c v)] at a;exact d.sep m k b c p q h3 h5 ab s o a af
  · intro m b p h z hp' r;rw [Ku] at h;by_cases f : nx = m
    · subst f;rw [Y4] at hp';cases hp';exact d.out n x _ hn l hi r
    · simp only [f,if_false] at h;obtain ⟨u,_⟩:=key m b h z;rw [Yf _ _ (j m b h)] at hp';exact d.out m b p u z hp' r
theorem Ext.move {hp : List (Nat × Blk)} {nx n : Nat} (v : RelH w Z inj hp nx) {k blk : Blk} (q : find hp n = some k) (d : live k = true) {g off f : Nat} (hi : inj n = some (g,off)) {old cs : Array Value} {t : TypeId} {j : Nat × Nat}
    (p : w.heap[g]? = some (.cells old t j)) (hs : cs.size = old.size) : Ext w Z inj hp (w.setRow g cs) Z (upd inj nx (some (g,f))) ((nx,blk)::repl hp n .dead) nx:=by
  refine ⟨qe,?_,?_,q2s w g old cs t j p hs,qky w g old cs t j p,fun _ h=>h,fun _ h=>.inl h,fun m o=>Yf _ _ o,rfl,rfl,rfl,qka w g old cs t j p⟩
  · intro b _ hb;exact setRow_other w g b cs (fun e=>hb (by rw [e];exact ⟨n,k,off,q,d,hi⟩))
  · rintro b ⟨m,c,u,a,r,l⟩;rw [Ku] at a;by_cases o : nx = m
    · subst o;rw [Y4] at l;cases l;exact .inl ⟨n,k,off,q,d,hi⟩
    · simp only [o,if_false] at a;rw [Z7] at a;by_cases s : n = m
      · subst s;simp [q] at a;subst a;simp [live] at r
      · simp only [s,if_false] at a;rw [Yf _ _ (v.blk m c a).1] at l;exact .inl ⟨m,c,u,a,r,l⟩
end
section
variable {w : World} {Z : Nat→Prop} {inj : Inj} {st : AS} {a : Act} {Ds : List Nat}
theorem qsf {a cap b : Nat} (c : cap < a) (d : a * (b * 4)≤room) : Builtin.nextslicecap a cap * b≤281474976710656:=by
  have g:=Nat.mul_le_mul_right b (Room.nextslicecap_le' c);have f : 2 * a * b≤a * (b * 4):=by rw [Nat.mul_comm b 4,← Nat.mul_assoc];exact Nat.mul_le_mul_right b q6
  unfold room at d;omega
theorem qtu {a b : Nat} (hb : b≠0) (c : a * (b * 4)≤room) : a≤4294967296:=by
  have : a * 1≤a * (b * 4):=Nat.mul_le_mul_left _ q6;unfold room at c;omega
theorem qei {t u ty : TypeId} {i : TI} {e e' : TypeId} {n : TypeInfo} {z : Value} (_h : RelS w Z inj st a Ds) (hu : P.underlying t = some (.slice e)) (ab : P.underlying u = some (.slice e')) (g1 : P.info? e = some n) (g3 : n.zero = some z)
    (g6 : n.size = i.esize) (g7 : i.esize≠0) (g8 : n.bytes = i.ebytes) (g9 : i.ebytes≠0) (gz : z.cells.size = i.esize) {hp1 : List (Nat × Blk)} (hh : RelH w Z inj hp1 st.nx) (s : Ext w Z inj st.hp w Z inj hp1 st.nx)
    {base ad : Option Addr} {cap cap' : Nat} {olds ys : List (List V)} {L0 l : List Value} (o : L0.length = olds.length * i.esize) (r : ERel w Z inj st.nx i.esize olds L0.toArray) (aa : Jr w base L0 olds)
    (y : l.length = ys.length * i.esize) (q : ERel w Z inj st.nx i.esize ys l.toArray) (ac : Jr w ad l ys) (hg : cap < olds.length + ys.length) (f : (olds.length + ys.length) * (i.ebytes * 4)≤room)
    {b1 : Blk} (af : rowsOf b1 = some (i.esize,olds ++ ys)) :
    ∃ x w' inj',(Builtin.append_ #[t,u] ty #[.slice base olds.length cap,.slice ad ys.length cap']).run P w = .ok x w'∧RelV w' Z inj' (st.nx + 1) (.hs st.nx i.esize 0 (olds.length + ys.length)) x∧RelH w' Z inj' ((st.nx,b1)::hp1) (st.nx + 1)∧
      Ext w Z inj st.hp w' Z inj' ((st.nx,b1)::hp1) st.nx:=by
  have g:=qb5 (P:=P) (tx:=t) (cap:=cap) g7 hu rfl o r aa;have k:=qb5 (P:=P) (tx:=u) (cap:=cap') g7 ab rfl y q ac;rw [← g6] at g k;have aq:=qtu g9 f;have j:=qsf hg f;rw [← g8] at j;have c:=run_append_grow_src (P:=P) w t u ty e n z hu g1 g3 base olds.length cap L0 g.cellsD (.slice ad ys.length cap') ys.length l k hg q6 j;have m:=grownCap_ge w (olds.length + ys.length) cap e;generalize grownCap w (olds.length + ys.length) cap e = C at c m;generalize hA : (L0 ++ l).toArray ++ Builtin.zeroCells z.cells (C - (olds.length + ys.length)) = A at c;have d : RelH w.drew Z inj hp1 st.nx:=hh.same rfl;have p : ERel w Z inj st.nx i.esize (olds ++ ys) (L0.toArray ++ l.toArray):=r.append q
  have mono : ∀ v x,RelV w Z inj st.nx v x→RelV (w.drew.alloc (.cells A e)) Z (upd inj st.nx (some (w.heap.size,0))) (st.nx + 1) v x:=fun v x hv=>
    hv.mono (fun b hz=>Zy w.drew _ (hh.zs b hz)) (fun _ h=>h) (q2r w.drew _) (fun _ hm=>Yf _ _ hm) q6
  refine ⟨_,_,upd inj st.nx (some (w.heap.size,0)),c,?_,?_,?_⟩
  · refine .hs q6 m rfl fun _=>⟨w.heap.size,0,Y4 _ _ _,qe,A,e,(0,0),Jv w.drew _,?_⟩
    have h1 : A.size = L0.length + l.length + (C - (olds.length + ys.length)) * i.esize:=by
      rw [← hA];simp [Builtin.zeroCells,gz]
    rw [h1,o,y,← Nat.add_mul,← Nat.add_mul];grind
  · refine d.new (.cells A e) b1 0 ?_;refine q6j af g7 p.2.1 (.inr ⟨w.heap.size,0,A,e,Y4 _ _ _,Jv w.drew _,?_⟩);have h9:=(p.row (B:=Builtin.zeroCells z.cells (C - (olds.length + ys.length)))).mono mono;simp_all
  · refine s.trans ?_ (Nat.le_refl _);have e1 : Ext w Z inj hp1 w.drew Z inj hp1 st.nx:=Ext.same rfl rfl rfl rfl;exact e1.trans (Ext.new d (.cells A e) b1 0) (Nat.le_refl _)
theorem qph {t u ty : TypeId} {i : TI} {e e' : TypeId} {ie : TypeInfo} (h : RelS w Z inj st a Ds) (hu : P.underlying t = some (.slice e)) (ay : P.underlying u = some (.slice e')) (g1 : P.info? e = some ie)
    (g6 : ie.size = i.esize) (g7 : i.esize≠0) {n off len cap cap' b o : Nat} {b0 b1 : Blk} {xs ys : List (List V)} (s : st.blk n = some b0) (az : rowsOf b0 = some (i.esize,xs)) (bo : off + len≤xs.length)
    (hi : inj n = some (b,o)) (ag : Big w b (o + (off + cap) * i.esize)) (_hlc : len≤cap)
    {ad : Option Addr} {g : List Value} (aj : g.length = ys.length * i.esize) (q : ERel w Z inj st.nx i.esize ys g.toArray) (aq : Jr w ad g ys) (hg : len + ys.length≤cap)
    (bb : rowsOf b1 = some (i.esize,(xs.drop off).take len ++ ys)) :
    ∃ x w' inj',(Builtin.append_ #[t,u] ty #[.slice (some ⟨b,o + off * i.esize,none⟩) len cap,.slice ad ys.length cap']).run P w = .ok x w'∧RelV w' Z inj' (st.nx + 1) (.hs st.nx i.esize 0 (len + ys.length)) x∧
      RelH w' Z inj' ((st.nx,b1)::repl st.hp n .dead) (st.nx + 1)∧Ext w Z inj st.hp w' Z inj' ((st.nx,b1)::repl st.hp n .dead) st.nx:=by
  have ak:=qb5 (P:=P) (tx:=u) (cap:=cap') g7 ay rfl aj q aq;obtain ⟨q1,q2,q3⟩:=q6k (h.heap.blk n b0 s).2 az;rcases q3 with ⟨_,q4⟩ | ⟨b',o',arr,ab,q3,q4,q5⟩
  · grind
  rw [hi] at q3;cases q3;have k : live b0 = true:=by cases b0 <;> simp_all [rowsOf,live]
  have ba : o + (off + cap) * i.esize≤arr.size:=by
    obtain ⟨c,e2,f,k1,k2⟩:=ag;grind
  have ax : g.length = ys.length * i.esize:=aj;have ai : (len + ys.length) * i.esize≤cap * i.esize:=Nat.mul_le_mul_right _ hg;rw [Nat.add_mul] at ai ba;have l : o + off * i.esize + len * i.esize + g.length≤arr.size:=by omega
  have z:=run_storeCells_at P b (o + off * i.esize + len * i.esize) ab g 0 arr w q4 (by simpa using l) (q.one g7);simp only [Nat.add_zero] at z;have bc : (arr.toList.take (o + off * i.esize + len * i.esize) ++ g ++ arr.toList.drop (o + off * i.esize + len * i.esize + g.length)).toArray = (splice arr.toList (o + off * i.esize + len * i.esize) g).toArray:=rfl;rw [bc] at z
  have af:=qbu (P:=P) (w:=w) (ty:=ty) hu g1 (base:=some ⟨b,o + off * i.esize,none⟩) (sLen:=len) (sCap:=cap) (x:=.slice ad ys.length cap') (n:=ys.length) (news:=g) (by rw [g6];exact ak) hg
    (w':=w.setRow b (splice arr.toList (o + off * i.esize + len * i.esize) g).toArray) (by show (storeCells ((⟨b,o + off * i.esize,none⟩ : Addr).add (len * ie.size)) g).run P w = _;rw [Ju,g6];exact z)
  have r : o + off * i.esize + len * i.esize + g.length≤arr.toList.length:=by simpa using l
  have p : (splice arr.toList (o + off * i.esize + len * i.esize) g).toArray.size = arr.size:=by simp [q26 _ _ _ r]
  have hz : ∀ b1,Z b1→(w.setRow b (splice arr.toList (o + off * i.esize + len * i.esize) g).toArray).heap[b1]? = w.heap[b1]?:=fun b1 av=>
    setRow_other w b b1 _ (fun e=>h.heap.out n b0 _ s k hi (by rw [← e];exact av))
  have aw:=q2s w b arr _ ab (0,0) q4 p
  have mono : ∀ v x,RelV w Z inj st.nx v x→RelV (w.setRow b (splice arr.toList (o + off * i.esize + len * i.esize) g).toArray) Z (upd inj st.nx (some (b,o + off * i.esize))) (st.nx + 1) v x:=fun v x hv=>
    hv.mono hz (fun _ h=>h) aw (fun _ hm=>Yf _ _ hm) q6
  have y : ((xs.drop off).take len).length = len:=by simp;omega
  refine ⟨_,_,upd inj st.nx (some (b,o + off * i.esize)),af,?_,?_,Ext.move h.heap s k hi q4 p⟩
  · refine .hs q6 hg rfl fun _=>⟨b,o + off * i.esize,Y4 _ _ _,qe,_,_,_,setRow_heap w b _ _ _ _ q4,?_⟩
    grind
  · refine h.heap.move s k hi q4 p (q6j bb g7 ?_ (.inr ⟨b,o + off * i.esize,_,ab,Y4 _ _ _,setRow_heap w b _ _ _ _ q4,?_⟩))
    · intro j x m;rw [List.getElem?_append] at m;split at m
      · grind
      · exact q.2.1 _ _ m
    · intro j x j' d m hd;rw [List.getElem?_toArray,U8 _ _ _ _ r];rw [List.getElem?_append] at m;split at m
      · rename_i hj;rw [y] at hj;have ar:=qhd q2 j x m;have ac : j' < i.esize:=by have:=Kd hd;omega
        have hc:=q3g hj ac;rw [qp q6];rw [List.getElem?_take] at m;rw [qr hj,List.getElem?_drop] at m;obtain ⟨k1,c,k2,k3⟩:=q5 _ x j' d m hd;grind
      · rename_i hj;rw [y] at hj m;obtain ⟨k1,c,k2,k3⟩:=q.2.2 _ x j' d m hd;have ao:=Kd m;have ar:=q.2.1 _ x m;have ac : j' < i.esize:=by have:=Kd hd;omega
        have hc:=q3g ao ac;have he : j * i.esize = len * i.esize + (j - len) * i.esize:=by rw [← Nat.add_mul];congr 1;omega
        grind
theorem qun {t u ty : TypeId} {i j : TI} {sv xv v : V} {vs vx : Value} {st1 : AS} (h : RelS w Z inj st a Ds) (ht : tiOf P t = some i) (hu : tiOf P u = some j) (br : i.kind = .slice) (bv : j.kind = .slice) (hf : J1 i.esize xv = true)
    (am : RelV w Z inj st.nx sv vs) (ay : RelV w Z inj st.nx xv vx) (f : Z6 st i sv xv = some (v,st1)) :
    ∃ x w' inj',(Builtin.append_ #[t,u] ty #[vs,vx]).run P w = .ok x w'∧RelV w' Z inj' st1.nx v x∧RelH w' Z inj' st1.hp st1.nx∧Ext w Z inj st.hp w' Z inj' st1.hp st.nx∧st1.sl = st.sl∧st.nx≤st1.nx:=by
  obtain ⟨bw,d,z,k⟩:=Ys ht;obtain ⟨bo,d',z',k'⟩:=Ys hu;have hk:=k.kind;have aq:=k'.kind;unfold Zj at hk aq;simp only [br,bv] at hk aq;obtain ⟨e,ie,de,ze,rfl,g1,g2,g3,g4,g5,g6,g7,g8,g9,_⟩:=hk;obtain ⟨e',_,_,_,rfl,_⟩:=aq;have gz : ze.cells.size = i.esize:=by have:=(q94 g4).1;simp at this;omega
  have q : ∀ ys b1,Zd st xv = some ys→vs = .slice none 0 0→rowsOf b1 = some (i.esize,ys)→ys.length * (i.ebytes * 4)≤room→ys.length≠0→
      ∃ x w' inj',(Builtin.append_ #[t,u] ty #[vs,vx]).run P w = .ok x w'∧RelV w' Z inj' (st.nx + 1) (.hs st.nx i.esize 0 ys.length) x∧RelH w' Z inj' ((st.nx,b1)::st.hp) (st.nx + 1)∧Ext w Z inj st.hp w' Z inj' ((st.nx,b1)::st.hp) st.nx:=by
    rintro ys b1 hc rfl hr c cp
    obtain ⟨ad,cap',L1,rfl,m,s,r⟩:=qc3 h ay hc hf g7
    have:=qei (P:=P) (ty:=ty) h k.und k'.und g1 g3 g6 g7 g8 g9 gz h.heap Ext.refl (base:=none) (cap:=0) (olds:=[]) (L0:=[]) qe .nil (rfl : Jr w none [] []) (cap':=cap') m s r (by simp;omega) (by simpa using c) (b1:=b1) (by simpa using hr)
    simpa using this
  have ab : ∀ ys,Zd st xv = some ys→vs = .slice none 0 0→ys.length = 0→(Builtin.append_ #[t,u] ty #[vs,vx]).run P w = .ok (.slice none 0 0) w:=by
    rintro ys hc rfl y;obtain ⟨ad,cap',L1,rfl,m,s,r⟩:=qc3 h ay hc hf g7;have ae:=qb5 (P:=P) (tx:=u) (cap:=cap') g7 k'.und rfl m s r;have:=qbu (P:=P) (w:=w) (ty:=ty) k.und g1 (base:=none) (sLen:=0) (sCap:=0) (by rw [g6];exact ae) q6 (w':=w) rfl;grind
  have p : ∀ n off len xs ys b0 b1,sv = .hs n i.esize off len→st.blk n = some b0→rowsOf b0 = some (i.esize,xs)→off + len≤xs.length→Zd st xv = some ys→rowsOf b1 = some (i.esize,(xs.drop off).take len ++ ys)→
      (len + ys.length) * (i.ebytes * 4)≤room→
      ∃ x w' inj',(Builtin.append_ #[t,u] ty #[vs,vx]).run P w = .ok x w'∧RelV w' Z inj' (st.nx + 1) (.hs st.nx i.esize 0 (len + ys.length)) x∧RelH w' Z inj' ((st.nx,b1)::repl st.hp n .dead) (st.nx + 1)∧
        Ext w Z inj st.hp w' Z inj' ((st.nx,b1)::repl st.hp n .dead) st.nx:=by
    rintro n off len xs ys b0 b1 rfl ba bb bt hc ac c
    obtain ⟨ad,cap',L1,rfl,m,s,r⟩:=qc3 h ay hc hf g7
    have ae:=qb5 (P:=P) (tx:=u) (cap:=cap') g7 k'.und rfl m s r
    have ai : ((xs.drop off).take len).length = len:=by simp;omega
    obtain ⟨q1,q2,q3⟩:=q6k (h.heap.blk n b0 ba).2 bb
    have l : RelH w Z inj (repl st.hp n .dead) st.nx:=h.heap.drop
    have aa : Ext w Z inj st.hp w Z inj (repl st.hp n .dead) st.nx:=Ext.drop
    have ph : len = 0→ys.length = 0→RelH w Z (upd inj st.nx none) ((st.nx,b1)::repl st.hp n .dead) (st.nx + 1)∧Ext w Z inj st.hp w Z (upd inj st.nx none) ((st.nx,b1)::repl st.hp n .dead) st.nx:=by
      intro h1 h2;have ap : (xs.drop off).take len ++ ys = []:=by subst h1;simp [List.eq_nil_of_length_eq_zero h2]
      refine ⟨l.newPh b1 (q6j ac g7 (by rw [ap];simp) (.inl ⟨ap,Y4 _ _ _⟩)),aa.trans (Ext.newPh l b1) (Nat.le_refl _)⟩
    cases am with
    | hsnil hm=>
      by_cases y : ys.length = 0
      · obtain ⟨p1,p2⟩:=ph rfl y;have:=qbu (P:=P) (w:=w) (ty:=ty) k.und g1 (base:=none) (sLen:=0) (sCap:=0) (by rw [g6];exact ae) q6 (w':=w) rfl;refine ⟨_,w,_,this,?_,p1,p2⟩;simp only [Nat.zero_add,y];exact .hsnil q6
      · have:=qei (P:=P) (ty:=ty) h k.und k'.und g1 g3 g6 g7 g8 g9 gz l aa (base:=none) (cap:=0) (olds:=[]) (L0:=[]) qe .nil (rfl : Jr w none [] []) (cap':=cap') m s r (by simp;omega) (by simpa using c) (b1:=b1) (by simpa using ac);simpa using this
    | @hs _ _ _ _ cap adr hm hcl hsp hcap=>
      by_cases hg : len + ys.length≤cap
      · by_cases az : cap = 0
        · obtain ⟨p1,p2⟩:=ph q6 q6;have hL : L1 = []:=List.eq_nil_of_length_eq_zero (by rw [m,show ys.length = 0 by omega];simp);have:=qbu (P:=P) (w:=w) (ty:=ty) k.und g1 (base:=some adr) (sLen:=len) (sCap:=cap) (by rw [g6];exact ae) hg (w':=w) (by subst hL;show (storeCells _ []).run P w = _;simp [storeCells]);exact ⟨_,w,_,this,.hs q6 hg hsp (fun h=>absurd az h),p1,p2⟩
        · obtain ⟨b,o,hi,rfl,an⟩:=hcap az;exact qph (P:=P) (ty:=ty) h k.und k'.und g1 g6 g7 ba bb bt hi an hcl (cap':=cap') m s r hg ac
      · have hold : ∃ L0 : List Value,L0.length = ((xs.drop off).take len).length * i.esize∧ERel w Z inj st.nx i.esize ((xs.drop off).take len) L0.toArray∧Jr w (some adr) L0 ((xs.drop off).take len):=by
          by_cases y : len = 0
          · subst y;exact ⟨[],qe,by simpa using ERel.nil,fun k u hu=>by simp at hu⟩
          · obtain ⟨b,o,hi,rfl,an⟩:=hcap q6;rcases q3 with ⟨_,q4⟩ | ⟨b',o',arr,ci,q3,q4,q5⟩
            · rw [hi] at q4;cases q4
            · rw [hi] at q3;cases q3;obtain ⟨L,l1,l2,l3⟩:=qgy (w:=w) (Z:=Z) (inj:=inj) (nx:=st.nx) (b:=b) (o:=o + off * i.esize) (xs:=(xs.drop off).take len) g7 (qhd q2) (q5.cells q4);exact ⟨L,l1,l3,fun k u hu=>by rw [Ju];exact l2 k u hu⟩
        obtain ⟨L0,a1,a2,a3⟩:=hold;have:=qei (P:=P) (ty:=ty) h k.und k'.und g1 g3 g6 g7 g8 g9 gz l aa (base:=some adr) (cap:=cap) a1 a2 a3 (cap':=cap') m s r (by rw [ai];omega) (by rw [ai];exact c) (b1:=b1) ac;rw [ai] at this;exact this
  cases sv <;> simp only [Z6,reduceCtorEq] at f
  case d x=>
    cases x <;> simp only [reduceCtorEq] at f
    cases am with | d am=>
    cases am
    cases af : Yz st xv with
    | some ys=>
      simp only [af] at f;split at f <;> try simp at f
      rename_i c;have g:=qf4 af;by_cases y : ys = []
      · rw [qr y] at f;simp at f;obtain ⟨rfl,rfl⟩:=f;exact ⟨_,w,inj,ab _ g rfl (by simpa using y),.d .nilsl,h.heap,.refl,rfl,Nat.le_refl _⟩
      · rw [qp y] at f;simp at f;obtain ⟨rfl,rfl⟩:=f;have:=q _ (.dat i.esize ys) g rfl rfl (by simpa using c) (by simpa using y);obtain ⟨x,w',inj',h1,h2,h3,h4⟩:=this;exact ⟨x,w',inj',h1,by simpa [AS.new] using h2,h3,h4,rfl,by simp [AS.new]⟩
    | none=>
      simp only [af] at f
      cases g : Zd st xv with
      | none=>simp [g] at f
      | some ys=>
        simp only [g] at f;split at f <;> try simp at f
        rename_i c;by_cases y : ys = []
        · rw [qr y] at f;simp at f;obtain ⟨rfl,rfl⟩:=f;exact ⟨_,w,inj,ab _ g rfl (by simpa using y),.d .nilsl,h.heap,.refl,rfl,Nat.le_refl _⟩
        · rw [qp y] at f;simp at f;obtain ⟨rfl,rfl⟩:=f;obtain ⟨x,w',inj',h1,h2,h3,h4⟩:=q _ (.cel i.esize ys) g rfl rfl c (by simpa using y);exact ⟨x,w',inj',h1,by simpa [AS.new] using h2,h3,h4,rfl,by simp [AS.new]⟩
  case hs n es off len=>
    split at f
    · rename_i k0 xs ys hb af;split at f <;> simp at f
      rename_i aw;obtain ⟨c1,rfl,c3,rfl⟩:=aw;obtain ⟨rfl,rfl⟩:=f;have:=p n off len (xs.map (·.map .d)) (ys.map (·.map .d)) _ (.dat i.esize ((xs.drop off).take len ++ ys)) rfl hb rfl (by simpa using c1) (qf4 af) (by simp [rowsOf,List.map_take,List.map_drop]) (by simpa using c3);obtain ⟨x,w',inj',h1,h2,h3,h4⟩:=this;exact ⟨x,w',inj',h1,by simpa [AS.new,AS.setBlk] using h2,h3,h4,rfl,by simp [AS.new,AS.setBlk]⟩
    · rename_i k0 xs hb af;split at f <;> try simp at f
      rename_i ys g;obtain ⟨⟨c1,rfl,c3,rfl⟩,rfl,rfl⟩:=f;have:=p n off len (xs.map (·.map .d)) ys _ (.cel i.esize ((((xs.map (·.map V.d)).drop off).take len) ++ ys)) rfl hb rfl (by simpa using c1) g rfl c3;obtain ⟨x,w',inj',h1,h2,h3,h4⟩:=this;exact ⟨x,w',inj',h1,by simpa [AS.new,AS.setBlk] using h2,h3,h4,rfl,by simp [AS.new,AS.setBlk]⟩
    · rename_i k0 xs hb;split at f <;> try simp at f
      rename_i ys g;obtain ⟨⟨c1,rfl,c3,rfl⟩,rfl,rfl⟩:=f;have:=p n off len xs ys _ (.cel i.esize ((xs.drop off).take len ++ ys)) rfl hb rfl c1 g rfl c3;obtain ⟨x,w',inj',h1,h2,h3,h4⟩:=this;exact ⟨x,w',inj',h1,by simpa [AS.new,AS.setBlk] using h2,h3,h4,rfl,by simp [AS.new,AS.setBlk]⟩
    · simp at f
end
end Go.Am
namespace Go.Am
open Go
variable {P : Program} {T : Tab}
section
variable {w : World} {Z : Nat→Prop} {inj : Inj} {nx : Nat}
theorem RowV.spliceRows {arr : Array Value} {o es off : Nat} {xs ys : List (List V)} {L : List Value} (h : RowV w Z inj nx arr o es xs) (p : ∀ (i : Nat) (x : List V),xs[i]? = some x→x.length = es) (k : ERel w Z inj nx es ys L.toArray)
    (f : off + ys.length≤xs.length) (b : o + off * es + L.length≤arr.size) : RowV w Z inj nx (splice arr.toList (o + off * es) L).toArray o es (splice xs off ys):=by
  have u : L.length = ys.length * es:=by simpa using k.1
  intro i x j d a hd;rw [U8 _ _ _ _ f] at a;rw [List.getElem?_toArray,U8 _ _ _ _ (by simpa using b)];by_cases hi : off≤i∧i < off + ys.length
  · rw [qr hi] at a;obtain ⟨l,c,q,m⟩:=k.2.2 _ x j d a hd;have g : j < es:=by have:=Kd hd;have:=k.2.1 _ x a;omega
    have r:=q3g (Kd a) g;have s : i * es = off * es + (i - off) * es:=by rw [← Nat.add_mul];congr 1;omega
    grind
  · rw [qp hi] at a;obtain ⟨l,c,q,m⟩:=h i x j d a hd;have g : j < es:=by have:=Kd hd;have:=p _ x a;omega
    refine ⟨l,c,?_,m⟩;rw [qp ?_]
    · grind
    · intro r;by_cases n : i < off
      · have:=q3g n g;omega
      · have t : (off + ys.length) * es≤i * es:=Nat.mul_le_mul_right _ q6;grind
theorem ERel.take {es m : Nat} {xs : List (List V)} {L : List Value} (h : ERel w Z inj nx es xs L.toArray) (b : m≤xs.length) : ERel w Z inj nx es (xs.take m) (L.take (m * es)).toArray:=by
  obtain ⟨f,g,k⟩:=h;simp only [List.size_toArray] at f;have:=Nat.mul_le_mul_right es b;refine ⟨by simp;rw [Nat.min_eq_left b];omega,?_,?_⟩
  · grind
  · intro i x j d a hd;rw [List.getElem?_take] at a;split at a
    · rename_i hi;obtain ⟨l,c,o,n⟩:=k i x j d a hd;have p:=q3g hi (show j < es by have:=Kd hd;have:=g _ x a;omega);grind
    grind
end
section
variable {w : World} {Z : Nat→Prop} {inj : Inj} {st : AS} {a : Act} {Ds : List Nat}
theorem quw {t u ty : TypeId} {i j : TI} {sv xv v : V} {vs vx : Value} {st1 : AS} (h : RelS w Z inj st a Ds) (ht : tiOf P t = some i) (_hu : tiOf P u = some j) (bj : i.kind = .slice) (_hjk : j.kind = .slice) (bn : J1 i.esize sv = true) (hf : J1 i.esize xv = true)
    (ax : RelV w Z inj st.nx sv vs) (bs : RelV w Z inj st.nx xv vx) (ha : copyV st sv xv = some (v,st1)) :
    ∃ x w' inj',(Builtin.copy_ #[t,u] ty #[vs,vx]).run P w = .ok x w'∧RelV w' Z inj' st1.nx v x∧RelH w' Z inj' st1.hp st1.nx∧Ext w Z inj st.hp w' Z inj' st1.hp st.nx∧st1.sl = st.sl∧st.nx≤st1.nx:=by
  obtain ⟨cb,d,z,k⟩:=Ys ht;have hk:=k.kind;unfold Zj at hk;simp only [bj] at hk;obtain ⟨e,ie,de,ze,rfl,g1,g2,g3,g4,g5,g6,g7,g8,g9,_⟩:=hk;cases sv <;> simp only [copyV,reduceCtorEq] at ha
  rename_i n es off len;have bl:=Nat.eq_of_beq_eq_true bn;subst bl;split at ha <;> try simp at ha
  rename_i k0 xs ys hb bq;obtain ⟨⟨cm,rfl⟩,rfl,rfl⟩:=ha;obtain ⟨ad,cap',L1,rfl,ao,bo,aw⟩:=qc3 h bs (qf4 bq) hf g7;rw [List.length_map] at ao ⊢
  let m:=min ys.length len
  have hm : m = min ys.length len:=rfl;rw [← hm];obtain ⟨q1,q2,q3⟩:=q6k (h.heap.blk n _ hb).2 rfl;have bv : (xs.map (·.map V.d)).length = xs.length:=by simp
  have cd : m * i.esize≤ys.length * i.esize:=Nat.mul_le_mul_right _ q6
  have ag : (Builtin.firstCells i.esize m (.slice ad ys.length cap')).run P w = .ok (L1.take (m * i.esize)).toArray w:=by
    cases ad with
    | none=>
      have ay : ys.map (·.map V.d) = []:=aw;have : ys = []:=by simpa using ay
      subst this;simp at ao;subst ao;simp [Builtin.firstCells]
    | some p=>
      have:=run_loadCells_list (P:=P) w p (L1.take (m * i.esize)) (fun k u hu=>by
        rw [List.getElem?_take] at hu;split at hu
        · exact aw k u hu
        · simp at hu)
      rw [List.length_take,Nat.min_eq_left q6] at this;simpa [Builtin.firstCells] using this
  have l : ∀ base y ah,y = len→vs = .slice base y ah→∀ w',(match base with | some p=>(storeCells p (L1.take (m * i.esize))).run P w = .ok () w' | none=>w' = w)→
      (Builtin.copy_ #[t,u] ty #[vs,.slice ad ys.length cap']).run P w = .ok (.int .i64 m) w':=by
    rintro base y ah rfl rfl w' aa
    have an:=ag
    rw [← g6] at an
    have aj : Nat.min ys.length y = m:=rfl
    cases base with
    | none=>
      subst aa;simp [Builtin.copy_,run_underlying k.und,Builtin.lenOf,Zh g1,goInt,aj,an]
    | some p=>
      have ak : (storeCells p (L1.take (m * i.esize))).run P w = .ok () w':=aa;rw [← g6] at ak;simp [Builtin.copy_,run_underlying k.und,Builtin.lenOf,Zh g1,ak,goInt,aj,an]
  have s : live (.dat i.esize xs) = true:=rfl
  have same : m = 0→RelH w Z inj (repl st.hp n (.dat i.esize (splice xs off (ys.take m)))) st.nx∧Ext w Z inj st.hp w Z inj (repl st.hp n (.dat i.esize (splice xs off (ys.take m)))) st.nx:=by
    intro h0;have aq : splice xs off (ys.take m) = xs:=by rw [h0];simp [splice]
    rw [aq]
    have g : ∀ q,find (repl st.hp n (.dat i.esize xs)) q = find st.hp q:=by
      intro q;rw [Z7];by_cases hq : n = q
      · subst hq;have : find st.hp n = some (.dat i.esize xs):=hb;simp [this]
      · simp [hq]
    constructor
    · exact ⟨fun q b hq=>h.heap.blk q b (by rw [g] at hq;exact hq),fun q r b c p' q' h1 h2=>h.heap.sep q r b c p' q' (by rw [g] at h1;exact h1) (by rw [g] at h2;exact h2),fun q b p' h1=>h.heap.out q b p' (by rw [g] at h1;exact h1),h.heap.zs,h.heap.zc⟩
    · exact {Ext.refl (w:=w) (Z:=Z) (inj:=inj) (hp:=st.hp) (pin:=st.nx) with imm:=fun b hb=>by obtain ⟨q,blk,o,h1,h2,h3⟩:=hb;rw [g] at h1;exact .inl ⟨q,blk,o,h1,h2,h3⟩}
  have af : ∀ w' inj' nx',RelV w' Z inj' nx' (.d (.int .i64 ((min ys.length len : Nat) : Int))) (.int .i64 (m : Nat)):=fun _ _ _=>.d (.int _ _);by_cases h0 : m = 0
  · obtain ⟨s1,s2⟩:=same h0
    cases ax with
    | hsnil=>exact ⟨_,w,inj,l none _ _ rfl rfl w rfl,af _ _ _,s1,s2,rfl,Nat.le_refl _⟩
    | @hs _ _ _ _ cap adr hn' hlc _ hcap=>exact ⟨_,w,inj,l (some adr) _ _ rfl rfl w (by show (storeCells _ _).run P w = _;rw [h0];simp [storeCells]),af _ _ _,s1,s2,rfl,Nat.le_refl _⟩
  · cases ax with
    | hsnil=>omega
    | @hs _ _ _ _ cap adr hn' hlc _ hcap=>
      obtain ⟨b,o,hi,rfl,av⟩:=hcap q6;rcases q3 with ⟨_,q4⟩ | ⟨b',o',arr,am,q3,q4,q5⟩
      · grind
      rw [hi] at q3;cases q3;have hL : (L1.take (m * i.esize)).length = m * i.esize:=by rw [List.length_take,Nat.min_eq_left q6]
      have ac:=bo.take (m:=m) (by simp;omega)
      have br : o + (off + cap) * i.esize≤arr.size:=by
        obtain ⟨c,e2,f,k1,k2⟩:=av;grind
      have cr : m * i.esize≤cap * i.esize:=Nat.mul_le_mul_right _ q6;rw [Nat.add_mul] at br;have aa:=run_storeCells_at P b (o + off * i.esize) am (L1.take (m * i.esize)) 0 arr w q4 (by rw [hL];omega) (ac.one g7);simp only [Nat.add_zero] at aa;have aq : (arr.toList.take (o + off * i.esize) ++ L1.take (m * i.esize) ++ arr.toList.drop (o + off * i.esize + (L1.take (m * i.esize)).length)).toArray = (splice arr.toList (o + off * i.esize) (L1.take (m * i.esize))).toArray:=rfl;rw [aq] at aa;have ap : o + off * i.esize + (L1.take (m * i.esize)).length≤arr.toList.length:=by rw [hL];simp;omega
      have ae : (splice arr.toList (o + off * i.esize) (L1.take (m * i.esize))).toArray.size = arr.size:=by simp only [List.size_toArray];rw [q26 _ _ _ ap];simp
      have hz : ∀ b1,Z b1→(w.setRow b (splice arr.toList (o + off * i.esize) (L1.take (m * i.esize))).toArray).heap[b1]? = w.heap[b1]?:=fun b1 bh=>
        setRow_other w b b1 _ (fun e=>h.heap.out n _ _ hb s hi (by rw [← e];exact bh))
      have bm:=q2s w b arr _ am (0,0) q4 ae;have cg : (ys.take m).length = m:=by rw [List.length_take,Nat.min_eq_left q6]
      refine ⟨_,_,inj,l (some ⟨b,o + off * i.esize,none⟩) _ _ rfl rfl _ aa,af _ _ _,?_,Ext.set h.heap hb s hi q4 ae,rfl,Nat.le_refl _⟩;refine h.heap.set hb s hi q4 ae (q6j (es:=i.esize) (xs:=splice (xs.map (·.map V.d)) off ((ys.map (·.map V.d)).take m)) ?_ g7 ?_ (.inr ⟨b,o,_,am,hi,setRow_heap w b _ _ _ _ q4,?_⟩))
      · simp only [rowsOf,splice,List.map_append,List.map_take,List.map_drop,Option.some.injEq,Prod.mk.injEq,true_and];simp
      · intro i' x' al;rw [U8 _ _ _ _ (by simp;omega)] at al;split at al
        · exact ac.2.1 _ _ al
        grind
      · refine (q5.spliceRows q2 ac (by simp;omega) (by rw [hL];omega)).mono fun v x hr=>hr.mono hz (fun _ h=>h) bm (fun _ _=>rfl) (Nat.le_refl _)
theorem quu {t ty : TypeId} {i : TI} {sv v : V} {vs : Value} {st1 : AS} (h : RelS w Z inj st a Ds) (ht : tiOf P t = some i) (be : i.kind = .slice) (ay : J1 i.esize sv = true) (u : RelV w Z inj st.nx sv vs) (ha : Jy st i sv = some (v,st1)) :
    ∃ x w' inj',(Builtin.clear_ #[t] ty #[vs]).run P w = .ok x w'∧RelV w' Z inj' st1.nx v x∧RelH w' Z inj' st1.hp st1.nx∧Ext w Z inj st.hp w' Z inj' st1.hp st.nx∧st1.sl = st.sl∧st.nx≤st1.nx:=by
  obtain ⟨bj,d,z,k⟩:=Ys ht;have hk:=k.kind;unfold Zj at hk;simp only [be] at hk;obtain ⟨e,ie,de,ze,rfl,g1,g2,g3,g4,g5,g6,g7,g8,g9,_⟩:=hk;have aa : ∀ w' inj' nx',RelV w' Z inj' nx' (.d (.tup [])) (.tuple #[]):=fun _ _ _=>.d (.tup qe qe);cases sv <;> simp only [Jy,reduceCtorEq] at ha
  case d x=>
    cases x <;> simp only [reduceCtorEq,Option.some.injEq,Prod.mk.injEq] at ha
    obtain ⟨rfl,rfl⟩:=ha
    cases u with | d u=>
    cases u;exact ⟨_,w,inj,by simp [Builtin.clear_,run_underlying k.und],aa _ _ _,h.heap,.refl,rfl,Nat.le_refl _⟩
  case hs n es off len=>
  have bf:=Nat.eq_of_beq_eq_true ay;subst bf;split at ha <;> try simp at ha
  rename_i k0 xs hb;obtain ⟨⟨bv,rfl⟩,rfl,rfl⟩:=ha;obtain ⟨q1,q2,q3⟩:=q6k (h.heap.blk n _ hb).2 rfl;have m : live (.dat i.esize xs) = true:=rfl;by_cases h0 : len = 0
  · subst h0;have aj : splice xs off (List.replicate 0 i.ezero) = xs:=by simp [splice]
    have g : ∀ q,find (repl st.hp n (.dat i.esize (splice xs off (List.replicate 0 i.ezero)))) q = find st.hp q:=by
      intro q;rw [aj,Z7];by_cases hq : n = q
      · subst hq;have : find st.hp n = some (.dat i.esize xs):=hb;simp [this]
      · simp [hq]
    have s1 : RelH w Z inj (repl st.hp n (.dat i.esize (splice xs off (List.replicate 0 i.ezero)))) st.nx:=
      ⟨fun q b hq=>h.heap.blk q b (by rw [g] at hq;exact hq),fun q r b c p' q' h1 h2=>h.heap.sep q r b c p' q' (by rw [g] at h1;exact h1) (by rw [g] at h2;exact h2),fun q b p' h1=>h.heap.out q b p' (by rw [g] at h1;exact h1),h.heap.zs,h.heap.zc⟩
    have s2 : Ext w Z inj st.hp w Z inj (repl st.hp n (.dat i.esize (splice xs off (List.replicate 0 i.ezero)))) st.nx:=
      {Ext.refl (w:=w) (Z:=Z) (inj:=inj) (hp:=st.hp) (pin:=st.nx) with imm:=fun b hb=>by obtain ⟨q,blk,o,h1,h2,h3⟩:=hb;rw [g] at h1;exact .inl ⟨q,blk,o,h1,h2,h3⟩}
    cases u with
    | hsnil=>exact ⟨_,w,inj,by simp [Builtin.clear_,run_underlying k.und],aa _ _ _,s1,s2,rfl,Nat.le_refl _⟩
    | @hs _ _ _ _ cap adr hn' hlc _ hcap=>exact ⟨_,w,inj,by simp [Builtin.clear_,run_underlying k.und],aa _ _ _,s1,s2,rfl,Nat.le_refl _⟩
  · cases u with
    | hsnil=>omega
    | @hs _ _ _ _ cap adr hn' hlc _ hcap=>
      obtain ⟨b,o,hi,rfl,ao⟩:=hcap q6;rcases q3 with ⟨_,q4⟩ | ⟨b',o',arr,ad,q3,q4,q5⟩
      · grind
      rw [hi] at q3;cases q3;obtain ⟨p,ag⟩ : ∃ p,p = (Builtin.zeroCells ze.cells len).toList:=⟨_,rfl⟩
      have bh : ze.cells.size = i.esize:=by
        have:=(q8p (w:=w) (Z:=Z) g4).1;omega
      have hL : p.length = len * i.esize:=by rw [ag];simp [Builtin.zeroCells,bh]
      have ac : ERel w Z inj st.nx i.esize ((List.replicate len i.ezero).map (·.map V.d)) p.toArray:=by
        refine ⟨by simp [hL],fun q x hx=>?_,fun q x j d hx hd=>?_⟩
        · grind
        · rw [List.getElem?_map,List.getElem?_replicate] at hx;split at hx <;> simp at hx
          rename_i hq;subst hx;rw [List.getElem?_map] at hd
          cases ai : i.ezero[j]? with
          | none=>rw [ai] at hd;cases hd
          | some d'=>
            rw [ai] at hd;cases hd;obtain ⟨c,hc,hr,ae⟩:=qht (w:=w) (Z:=Z) g4 g5 hq ai;refine ⟨ae,c,?_,.d hr⟩;rw [ag,Array.toArray_toList];unfold Builtin.zeroCells;grind
      have az : o + (off + cap) * i.esize≤arr.size:=by
        obtain ⟨c,e2,f,k1,k2⟩:=ao;grind
      have ca : len * i.esize≤cap * i.esize:=Nat.mul_le_mul_right _ q6;rw [Nat.add_mul] at az;have y:=run_storeCells_at P b (o + off * i.esize) ad p 0 arr w q4 (by rw [hL];omega) (ac.one g7);simp only [Nat.add_zero] at y;have aj : (arr.toList.take (o + off * i.esize) ++ p ++ arr.toList.drop (o + off * i.esize + p.length)).toArray = (splice arr.toList (o + off * i.esize) p).toArray:=rfl;rw [aj] at y;have ah : o + off * i.esize + p.length≤arr.toList.length:=by rw [hL];simp;omega
      have s : (splice arr.toList (o + off * i.esize) p).toArray.size = arr.size:=by simp only [List.size_toArray];rw [q26 _ _ _ ah];simp
      have hz : ∀ b1,Z b1→(w.setRow b (splice arr.toList (o + off * i.esize) p).toArray).heap[b1]? = w.heap[b1]?:=fun b1 av=>
        setRow_other w b b1 _ (fun e=>h.heap.out n _ _ hb m hi (by rw [← e];exact av))
      have ax:=q2s w b arr _ ad (0,0) q4 s
      have am : (Builtin.clear_ #[t] ty #[.slice (some ⟨b,o + off * i.esize,none⟩) len cap]).run P w = .ok (.tuple #[]) (w.setRow b (splice arr.toList (o + off * i.esize) p).toArray):=by
        obtain ⟨l,rfl⟩ : ∃ l,len = l + 1:=⟨len - 1,q6⟩
        have bd : (zeroValue e).run P w = .ok ze w:=by simp [zeroValue,typeInfo,g1,g3]
        rw [ag] at y ⊢;simp [Builtin.clear_,run_underlying k.und,bd,y]
      refine ⟨_,_,inj,am,aa _ _ _,?_,Ext.set h.heap hb m hi q4 s,rfl,Nat.le_refl _⟩;refine h.heap.set hb m hi q4 s (q6j (es:=i.esize) (xs:=splice (xs.map (·.map V.d)) off ((List.replicate len i.ezero).map (·.map V.d))) ?_ g7 ?_ (.inr ⟨b,o,_,ad,hi,setRow_heap w b _ _ _ _ q4,?_⟩))
      · simp only [rowsOf,splice,List.map_append,List.map_take,List.map_drop,Option.some.injEq,Prod.mk.injEq,true_and];simp
      · intro i' x' bc;rw [U8 _ _ _ _ (by simp;omega)] at bc;grind
      · refine (q5.spliceRows q2 ac (by simp;omega) (by rw [hL];omega)).mono fun v x hr=>hr.mono hz (fun _ h=>h) ax (fun _ _=>rfl) (Nat.le_refl _)
end
end Go.Am
namespace Go.Am
open Go
variable {P : Program} {T : Tab}
def Zi (P : Program) (em : Bool) (k : Nat) (t : TypeId) (desc : TypeDesc) (n : Nat) : Prop:=
  ∀ w,(Kc desc = true→∀ X : Array Value,X.size = n→(Instr.checkKey em k t (.agg X)).run P w = .ok () w)∧(Kc desc = false→n = 1∧∀ x,(Instr.checkKey em k t x).run P w = .ok () w)
theorem qix {d : Bool} {k : Nat} {t : TypeId} {desc : TypeDesc} {b : TypeInfo} {n : Nat} (h : Zi P d k t desc n) (f : P.underlying t = some desc) (hi : P.info? t = some b) (hs : b.size = n) {X : Array Value} {o : Nat} (m : o + n≤X.size) (w : World) :
    ∃ v,(part t X o).run P w = .ok v w∧(Instr.checkKey d k t v).run P w = .ok () w:=by
  obtain ⟨g,c⟩:=h w
  cases a : Kc desc with
  | true=>exact ⟨.agg (X.extract o (o + n)),by simp [part,q2q f,a,Zh hi,hs],g a _ (by simp;omega)⟩
  | false=>
    obtain ⟨l,c⟩:=c a;obtain ⟨x,j⟩:=Yd (xs:=X) (i:=o) q6;exact ⟨x,by simp [part,q2q f,a,j],c x⟩
def qez (em : Bool) (k : Nat) (X : Array Value) (f : Field) (_s : PUnit) : Sem (ForInStep PUnit):=
  if f.name ≠ "_" then do
    let __do_lift ← part f.type X f.offset
    Instr.checkKey em k f.type __do_lift
    pure (ForInStep.yield PUnit.unit)
  else pure (ForInStep.yield PUnit.unit)
theorem qox {d : Nat} {t : TypeId} {ks : List (Option IntKind)} (h : Ki P d t = some ks) : ∃ a,P.underlying t = some a:=by
  cases b : P.underlying t with
  | none=>cases d <;> simp [Ki,b] at h
  | some a=>exact ⟨a,rfl⟩
theorem qiv (h : Bool) (d k : Nat) (n : ∀ t desc ks,P.underlying t = some desc→Ki P d t = some ks→Zi P h k t desc ks.length) (X : Array Value) (w : World) : ∀ (l : List Field) (o : Nat) (ks : List (Option IntKind)),
    tile P (Ki P d) o l = some ks→o + ks.length≤X.size→(forIn l PUnit.unit (qez h k X) : Sem PUnit).run P w = .ok PUnit.unit w
  | [],_,_,_,_=>by simp
  | f::l,o,ks,ht,hl=>by
    simp only [tile] at ht
    cases a : Ki P d f.type with
    | none=>simp [a] at ht
    | some ka=>
      simp only [a] at ht
      split at ht <;> try simp at ht
      rename_i c
      obtain ⟨rfl,u,p⟩:=c
      cases g : tile P (Ki P d) (f.offset + ka.length) l with
      | none=>simp [g] at ht
      | some kb=>
        simp only [g,Option.some.injEq] at ht;subst ht
        simp only [List.length_append] at hl
        obtain ⟨q,b⟩:=qox a
        obtain ⟨x,j,m⟩:=qe4 b
        obtain ⟨v,s,r⟩:=qix (n f.type q ka b a) b j q6 (X:=X) (o:=f.offset) q6 w
        have:=qiv h d k n X w l (f.offset + ka.length) kb g q6
        rw [List.forIn_cons]
        simp only [qez,qr u,Sem.run_bind,s,r,Result.andThen_ok]
        simpa using this
def qf0 (em : Bool) (k : Nat) (e : TypeId) (X : Array Value) (i : Nat) (_s : PUnit) : Sem (ForInStep PUnit):=do
  let __do_lift ← sizeOf e
  let __do_lift ← part e X (i * __do_lift)
  Instr.checkKey em k e __do_lift
  pure (ForInStep.yield PUnit.unit)
theorem qiw {b : Bool} {k : Nat} {e : TypeId} {desc : TypeDesc} {a : TypeInfo} {n : Nat} (d : Zi P b k e desc n) (c : P.underlying e = some desc) (hi : P.info? e = some a) (hs : a.size = n) {X : Array Value} (w : World) :
    ∀ (m s : Nat),(s + m) * n≤X.size→(forIn (List.range' s m) PUnit.unit (qf0 b k e X) : Sem PUnit).run P w = .ok PUnit.unit w
  | 0,s,_=>by simp
  | m + 1,s,hl=>by
    have h : s * n + n = (s + 1) * n:=by rw [Nat.add_mul];simp
    have j : (s + (m + 1)) * n = (s + 1) * n + m * n:=by rw [← Nat.add_mul];congr 1;omega
    obtain ⟨v,g,f⟩:=qix d c hi hs (X:=X) (o:=s * n) q6 w
    have:=qiw d c hi hs w m (s + 1) (X:=X) (by rw [Nat.add_mul (s + 1)];omega)
    rw [List.range'_succ,List.forIn_cons]
    simp only [qf0,Sem.run_bind,Zh hi,hs,g,f,Result.andThen_ok]
    simpa using this
theorem qf1 (f : Bool) : ∀ (d : Nat) (t : TypeId) (desc : TypeDesc) (ks : List (Option IntKind)),P.underlying t = some desc→Ki P d t = some ks→∀ k,d≤k→Zi P f k t desc ks.length
  | 0,t,desc,ks,hu,hp,k,hk=>by simp [Ki] at hp
  | d + 1,t,desc,ks,hu,hp,k,hk=>by
    obtain ⟨k,rfl⟩ : ∃ p,k = p + 1:=⟨k - 1,q6⟩
    intro w
    simp only [Ki,hu] at hp
    cases desc <;> simp only [reduceCtorEq,Option.some.injEq] at hp
    case bool=>subst hp;exact ⟨by simp [Kc],fun _=>⟨rfl,fun x=>by unfold Instr.checkKey;simp [run_underlying hu]⟩⟩
    case int k0=>subst hp;exact ⟨by simp [Kc],fun _=>⟨rfl,fun x=>by unfold Instr.checkKey;simp [run_underlying hu]⟩⟩
    case struct fs=>
      refine ⟨fun _ X m=>?_,by simp [Kc]⟩
      split at hp
      · simp at hp
      · have:=qiv (P:=P) f d k (fun t desc ks o q=>qf1 f d t desc ks o q k q6) X w fs.toList 0 ks hp q6
        rw [Array.forIn_toList] at this
        unfold qez at this
        unfold Instr.checkKey
        simp only [Sem.run_bind,run_underlying hu,Result.andThen_ok]
        rw [this]
        simp
    case array n e=>
      refine ⟨fun _ X m=>?_,by simp [Kc]⟩
      cases b : Ki P d e with
      | none=>simp [b] at hp
      | some a=>
        simp only [b] at hp
        split at hp
        · rename_i l
          simp only [Option.some.injEq] at hp;subst hp
          obtain ⟨r,c⟩:=qox b
          obtain ⟨s,g,h⟩:=qe4 c
          have j : (List.replicate n a).flatten.length = n * a.length:=by simp
          have:=qiw (qf1 f d e r a c b k q6) c g q6 w n 0 (X:=X) (by rw [Nat.zero_add];omega)
          unfold Instr.checkKey
          simp only [Sem.run_bind,run_underlying hu,Result.andThen_ok,Std.Legacy.Range.forIn_eq_forIn_range',Std.Legacy.Range.size,Nat.sub_zero,Nat.add_sub_cancel,Nat.div_one]
          unfold qf0 at this
          rw [this]
          simp
        · simp at hp
section
variable {w w' : World} {Z : Nat→Prop} {inj : Inj}
theorem qc6 {d : DV} {v : Value} (h : RelD w Z d v) : DRel w Z [d] #[v]:=⟨rfl,fun i x y a b=>by
  cases i with
  | zero=>simp at a b;subst a b;exact h
  | succ i=>simp at a⟩
theorem q90 {d : DV} {v : Value} (h : RelD w Z d v) (b : Zs d = true) : ∃ cs,v = .agg cs∧DRel w Z (cellsD d) cs:=by
  cases h <;> simp [Zs] at b
  rename_i ds cs a c;exact ⟨cs,rfl,a,c⟩
theorem q5d {d : DV} (a : Zs d = false) : cellsD d = [d]:=by cases d <;> simp_all [Zs,cellsD]
theorem ql0 {d : TypeId} {desc : TypeDesc} {ks : List (Option IntKind)} (m : P.underlying d = some desc) (hp : Ki P 8 d = some ks) {a b : DV} {u v : Value} (j : RelD w Z a u) (hb : RelD w Z b v)
    (h : Zs a = Kc desc) (g : Zs b = Kc desc) {r : Bool} (f : Ke ks (cellsD a) (cellsD b) = some r) : (Op.equal d u v).run P w = .ok r w:=by
  have key:=qca (P:=P) (w:=w) (Z:=Z) 8 d desc ks m hp Op.maxDepth (by unfold Op.maxDepth;omega)
  cases c : Kc desc with
  | true=>
    obtain ⟨X,rfl,k⟩:=q90 j (h.trans c);obtain ⟨Y,rfl,l⟩:=q90 hb (g.trans c);exact (key _ _ _ _ r k l f).1 c
  | false=>
    rw [q5d (h.trans c),q5d (g.trans c)] at f;exact ((key _ _ _ _ r (qc6 j) (qc6 hb) f).2 c).2 u v rfl rfl
theorem qh0 {h : TypeId} {desc : TypeDesc} {ks : List (Option IntKind)} (l : P.underlying h = some desc) (hp : Ki P 8 h = some ks) {a b : DV} {u v : Value} (k : RelD w Z a u) (hb : RelD w Z b v) (d : Kc desc = false)
    {r : Bool} (c : Ke ks [a] [b] = some r) : Instr.sameNow desc u v = some r:=by
  simp only [Ki,l] at hp;cases desc <;> simp only [reduceCtorEq,Option.some.injEq] at hp <;> try (simp [Kc] at d;done)
  case bool=>
    subst hp;simp only [Ke] at c;cases a <;> cases b <;> simp only [q2c,reduceCtorEq] at c
    simp at c;subst c;cases k;cases hb;rfl
  case int k0=>
    subst hp;simp only [Ke] at c;cases a <;> cases b <;> simp only [q2c,reduceCtorEq] at c
    split at c <;> simp at c
    rename_i g j;split at g <;> simp at g
    rename_i f;obtain ⟨rfl,rfl⟩:=f;subst g c;simp at j;subst j;cases k;cases hb;simp [Instr.sameNow]
def Ents (w : World) (Z : Nat→Prop) (es : List (DV × DV)) (ents : List MapEntry) : Prop:=
  ents.length = es.length∧∀ (i : Nat) (e : DV × DV) (x : MapEntry),es[i]? = some e→ents[i]? = some x→RelD w Z e.1 x.key∧RelD w Z e.2 x.val∧Yi e.2 = true
theorem Ents.tail {e : DV × DV} {es : List (DV × DV)} {x : MapEntry} {a : List MapEntry} (h : Ents w Z (e::es) (x::a)) : RelD w Z e.1 x.key∧Ents w Z es a:=
  ⟨(h.2 0 e x rfl rfl).1,by simpa using h.1,fun i d c b f=>h.2 (i + 1) d c (by simpa using b) (by simpa using f)⟩
theorem qfg {m : TypeId} {desc : TypeDesc} {ks : List (Option IntKind)} (g : P.underlying m = some desc) (hp : Ki P 8 m = some ks) {a : DV} {u : Value} (j : RelD w Z a u) (f : Kc desc = false) :
    ∀ (es : List (DV × DV)) (d : List MapEntry) (s : Nat) (r : Option Nat),Ents w Z es d→Zm false ks a es = some r→Instr.findNow desc u d s = some (r.bind fun i=>(d[i]?).map fun x=>(s + i,x.val))
  | [],[],s,r,_,hm=>by simp only [Zm,Option.some.injEq] at hm;subst hm;rfl
  | [],x::d,_,_,h,_=>by have:=h.1;simp at this
  | e::es,[],_,_,h,_=>by have:=h.1;simp at this
  | (b,c)::es,x::d,s,r,h,hm=>by
    obtain ⟨l,n⟩:=h.tail
    simp only [Zm] at hm
    split at hm <;> try simp at hm
    rename_i o
    rw [q5d o.1,q5d o.2] at hm
    split at hm <;> try simp at hm
    · rename_i k
      subst hm
      simp [Instr.findNow,qh0 g hp j l f k]
    · rename_i k
      split at hm <;> simp at hm
      · rename_i i hi
        subst hm
        have:=qfg g hp j f es d (s + 1) _ n hi
        simp only [Instr.findNow,qh0 g hp j l f k,this]
        simp [Nat.add_comm,Nat.add_left_comm]
      · rename_i hi
        subst hm
        have:=qfg g hp j f es d (s + 1) _ n hi
        simp only [Instr.findNow,qh0 g hp j l f k,this]
        rfl
theorem qff {l : TypeId} {desc : TypeDesc} {ks : List (Option IntKind)} (g : P.underlying l = some desc) (hp : Ki P 8 l = some ks) {a : DV} {u : Value} (j : RelD w Z a u) (f : Kc desc = true) :
    ∀ (es : List (DV × DV)) (d : List MapEntry) (s : Nat) (r : Option Nat),Ents w Z es d→Zm true ks a es = some r→(Instr.findAsking l u d s).run P w = .ok (r.bind fun i=>(d[i]?).map fun x=>(s + i,x.val)) w
  | [],[],s,r,_,hm=>by simp only [Zm,Option.some.injEq] at hm;subst hm;simp [Instr.findAsking]
  | [],x::d,_,_,h,_=>by have:=h.1;simp at this
  | e::es,[],_,_,h,_=>by have:=h.1;simp at this
  | (b,c)::es,x::d,s,r,h,hm=>by
    obtain ⟨n,o⟩:=h.tail
    simp only [Zm] at hm
    split at hm <;> try simp at hm
    rename_i k
    split at hm <;> try simp at hm
    · rename_i m
      subst hm
      simp [Instr.findAsking,ql0 g hp j n (k.1.trans f.symm) (k.2.trans f.symm) m]
    · rename_i m
      have p:=ql0 g hp j n (k.1.trans f.symm) (k.2.trans f.symm) m
      split at hm <;> simp at hm
      · rename_i i hi
        subst hm
        have:=qff g hp j f es d (s + 1) _ o hi
        simp only [Instr.findAsking,Sem.run_bind,p,Result.andThen_ok,Bool.false_eq_true,if_false,this]
        simp [Nat.add_comm,Nat.add_left_comm]
      · rename_i hi
        subst hm
        have:=qff g hp j f es d (s + 1) _ o hi
        simp only [Instr.findAsking,Sem.run_bind,p,Result.andThen_ok,Bool.false_eq_true,if_false,this]
        rfl
theorem qru {g : TypeId} {desc : TypeDesc} {ks : List (Option IntKind)} (d : P.underlying g = some desc) (hp : Ki P 8 g = some ks) {a : DV} {u : Value} (j : RelD w Z a u) (l : Zs a = Kc desc)
    {es : List (DV × DV)} {b : List MapEntry} {r : Option Nat} (h : Ents w Z es b) (f : Zm (Kc desc) ks a es = some r) : (Instr.findKey g u b).run P w = .ok (r.bind fun i=>(b[i]?).map fun x=>(i,x.val)) w:=by
  cases c : Kc desc with
  | false=>
    rw [c] at f;have:=qfg d hp j c es b 0 r h f;simp only [Nat.zero_add] at this;simp only [Instr.findKey,Sem.run_bind,run_underlying d,Result.andThen_ok,this];simp
  | true=>
    rw [c] at f;have:=qff d hp j c es b 0 r h f;simp only [Nat.zero_add] at this
    cases b with
    | nil=>
      rw [← this];simp [Instr.findKey,run_underlying d,Instr.findNow,Instr.findAsking]
    | cons e es=>
      have k : Instr.findNow desc u (e::es) 0 = none:=by
        cases desc <;> simp [Kc] at c <;> simp [Instr.findNow,Instr.sameNow]
      simp only [Instr.findKey,Sem.run_bind,run_underlying d,Result.andThen_ok,k];exact this
theorem qev : ∀ {ks : List (Option IntKind)} {xs ys : List DV} {X Y : List Value},Ke ks xs ys = some true→(X.length = xs.length)→(Y.length = ys.length)→
    (∀ (i : Nat) (d : DV) (c : Value),xs[i]? = some d→X[i]? = some c→RelD w Z d c)→(∀ (i : Nat) (d : DV) (c : Value),ys[i]? = some d→Y[i]? = some c→RelD w Z d c)→∀ n,X.length = Y.length∧(Y.zip X).all (fun (x,y)=>Instr.sameBits n x y) = true
  | [],[],[],[],[],_,_,_,_,_,n=>⟨rfl,rfl⟩
  | [],[],[],_::_,_,_,h,_,_,_,_=>by simp at h
  | [],[],[],[],_::_,_,_,h,_,_,_=>by simp at h
  | [],[],_::_,_,_,h,_,_,_,_,_=>by simp [Ke] at h
  | [],_::_,_,_,_,h,_,_,_,_,_=>by simp [Ke] at h
  | _::_,[],_,_,_,h,_,_,_,_,_=>by simp [Ke] at h
  | _::_,_::_,[],_,_,h,_,_,_,_,_=>by simp [Ke] at h
  | k::ks,a::xs,b::ys,[],_,_,h,_,_,_,_=>by simp at h
  | k::ks,a::xs,b::ys,_::_,[],_,_,h,_,_,_=>by simp at h
  | k::ks,a::xs,b::ys,x::X,y::Y,h,l1,l2,r1,r2,n=>by
    simp only [Ke] at h
    split at h <;> simp at h
    rename_i p q hp r
    obtain ⟨rfl,rfl⟩:=h
    obtain ⟨m,o⟩:=qev r (by simpa using l1) (by simpa using l2) (fun i d c hd g=>r1 (i + 1) d c (by simpa using hd) (by simpa using g)) (fun i d c hd g=>r2 (i + 1) d c (by simpa using hd) (by simpa using g)) n
    have l:=r1 0 a x rfl rfl
    have j:=r2 0 b y rfl rfl
    refine ⟨by simp [m],?_⟩
    simp only [List.zip_cons_cons,List.all_cons,o,Bool.and_true]
    cases k with
    | none=>
      cases a <;> cases b <;> simp only [q2c,reduceCtorEq] at hp
      simp at hp;subst hp
      cases l;cases j;cases n <;> simp [Instr.sameBits]
    | some k=>
      cases a <;> cases b <;> simp only [q2c,reduceCtorEq] at hp
      split at hp <;> simp at hp
      rename_i f
      obtain ⟨rfl,rfl⟩:=f
      subst hp
      cases l;cases j;cases n <;> simp [Instr.sameBits]
theorem qt4 {ks : List (Option IntKind)} {ag : Bool} {a b : DV} {u v : Value} (n : RelD w Z a u) (hb : RelD w Z b v) (m : Zs a = ag) (l : Zs b = ag) (h : Ke ks (cellsD a) (cellsD b) = some true) :
    (Instr.keyThatStays v u).run P w = .ok u w:=by
  have hs : Instr.sameBits 10000 v u = true:=by
    cases ag with
    | true=>
      obtain ⟨X,rfl,f,g⟩:=q90 n m;obtain ⟨Y,rfl,p,o⟩:=q90 hb l;obtain ⟨k,q⟩:=qev (X:=X.toList) (Y:=Y.toList) h (by simpa using f.symm) (by simpa using p.symm) (fun i d c hd j=>g i d c hd (by simpa using j)) (fun i d c hd j=>o i d c hd (by simpa using j)) 9999;have r : (Y.size == X.size) = true:=by simp at k;simp [k]
      show (Y.size == X.size && (Y.toList.zip X.toList).all fun (x,y)=>Instr.sameBits 9999 x y) = true;grind
    | false=>
      rw [q5d m,q5d l] at h;have:=(qev (X:=[u]) (Y:=[v]) h rfl rfl (fun i d c f g=>(qc6 n).2 i d c f (by simpa using g)) (fun i d c f g=>(qc6 hb).2 i d c f (by simpa using g)) 10000).2;simp_all
  simp [Instr.keyThatStays,hs]
end
theorem qk9 {w : World} {a : Addr} (h : ∀ c e f,w.heap[a.block]?≠some (.cells c e f)) : w.frozen? a = false:=by
  unfold World.frozen?;grind
theorem qfj {w : World} {b : Nat} {o : Obj} (h : ∀ c e f,w.heap[b]?≠some (.cells c e f)) (j : ∀ c e f,o≠.cells c e f) (a : Addr) : (w.putObj b o).frozen? a = w.frozen? a:=by
  by_cases hb : a.block = b
  · subst hb;rw [qk9 h,qk9];intro c e f;by_cases d : a.block < w.heap.size
    · rw [World.putObj_heap_same d];intro g;exact j _ _ _ (qe9 g)
    simp_all
  · simp only [World.frozen?,World.putObj_heap_other hb]
theorem q5a {w : World} {b : Nat} {es : Array MapEntry} {cl : Nat} (hb : w.heap[b]? = some (.map es cl)) : (getObj b).run P w = .ok (.map es cl) w:=by simp [getObj,Sem.run,hb]
theorem qdd {w : World} {b : Nat} {es : Array MapEntry} {cl : Nat} (o : Obj) (hb : w.heap[b]? = some (.map es cl)) : (setObj b o).run P w = .ok () (w.putObj b o):=by simp [setObj,Sem.run,hb,World.putObj]
section
variable {w : World} {Z : Nat→Prop} {inj : Inj} {hp : List (Nat × Blk)} {nx pin : Nat}
theorem qx4 {n : Nat} {es : List (DV × DV)} (h : RelB w Z inj nx n (.mp es)) : ∃ b a cl,inj n = some (b,0)∧w.heap[b]? = some (.map a cl)∧Ents w Z es a.toList:=by
  obtain ⟨b,a,cl,f,k,j,g⟩:=h;exact ⟨b,a,cl,f,k,by simpa using j,fun i e x d c=>g i e x d (by simpa using c)⟩
theorem qmx (h : RelH w Z inj hp nx) {n : Nat} {es j : List (DV × DV)} (u : find hp n = some (.mp es)) {b : Nat} (hi : inj n = some (b,0)) {aa a : Array MapEntry} {cl cl' : Nat} (hb : w.heap[b]? = some (.map aa cl))
    (hE : Ents w Z j a.toList) : RelH (w.putObj b (.map a cl')) Z inj (repl hp n (.mp j)) nx∧Ext w Z inj hp (w.putObj b (.map a cl')) Z inj (repl hp n (.mp j)) pin:=by
  have g : ∀ k,k≠b→(w.putObj b (.map a cl')).heap[k]? = w.heap[k]?:=fun k l=>World.putObj_heap_other l
  have ai : ¬ Z b:=fun hz=>by
    obtain ⟨c,e,f,hc⟩:=h.zc b hz;grind
  have y : Zx w (w.putObj b (.map a cl')):=fun k c e f l=>by grind
  have hz : ∀ k,Z k→(w.putObj b (.map a cl')).heap[k]? = w.heap[k]?:=fun k l=>g k (fun e=>ai (e ▸ l))
  have d : ∀ m c,find (repl hp n (.mp j)) m = some c→(m = n∧c = .mp j)∨(m≠n∧find hp m = some c):=by
    intro m c hm;rw [Z7] at hm;grind
  have af : ∀ k,im (repl hp n (.mp j)) inj k→im hp inj k:=by
    rintro k ⟨m,c,o,z,h2,t⟩;rcases d m c z with ⟨rfl,rfl⟩ | ⟨_,s⟩
    · exact ⟨m,_,o,u,rfl,t⟩
    · exact ⟨m,c,o,s,h2,t⟩
  have ac : RelB (w.putObj b (.map a cl')) Z inj nx n (.mp j):=by
    refine ⟨b,a,cl',hi,World.putObj_heap_same (J8 hb),by simpa using hE.1,fun i e x he hx=>?_⟩;obtain ⟨g1,g2,g3⟩:=hE.2 i e x he (by simpa using hx);exact ⟨g1.mono hz (fun _ h=>h),g2.mono hz (fun _ h=>h),g3⟩
  refine ⟨⟨?_,?_,?_,?_,?_⟩,⟨qe,?_,fun k l=>.inl (af k l),y,?_,fun _ h=>h,fun _ h=>.inl h,fun _ _=>rfl,rfl,rfl,rfl,qfj (fun _ _ _=>by rw [hb];simp) (fun _ _ _=>qe)⟩⟩
  · intro m c hm;rcases d m c hm with ⟨rfl,rfl⟩ | ⟨r,s⟩
    · exact ⟨(h.blk _ _ u).1,ac⟩
    · obtain ⟨v,h6⟩:=h.blk m c s;exact ⟨v,h6.mono hz (fun _ h=>h) y (fun _ _=>rfl) (Nat.le_refl _) v fun p hp ah=>g _ fun e=>h.sep m n c _ p (b,0) s u ah rfl hp hi r e⟩
  · intro m m' c c' p q z h2 t s v h6 r;rcases d m c z with ⟨rfl,rfl⟩ | ⟨e1,k1⟩ <;> rcases d m' c' h2 with ⟨rfl,rfl⟩ | ⟨e2,k2⟩
    · omega
    · exact h.sep _ _ _ _ p q u k2 rfl s v h6 r
    · exact h.sep _ _ _ _ p q k1 u t rfl v h6 r
    · exact h.sep _ _ _ _ p q k1 k2 t s v h6 r
  · intro m c p z h2 t;rcases d m c z with ⟨rfl,rfl⟩ | ⟨e1,k1⟩
    · grind
    · exact h.out _ _ p k1 h2 t
  · intro k l;simpa using h.zs k l
  · intro k l;obtain ⟨c,e,f,hc⟩:=h.zc k l;grind
  · intro k _ l;exact g k fun e=>l ⟨n,_,0,u,rfl,e ▸ hi⟩
  · intro k x l;grind
end
section
variable {w : World} {Z : Nat→Prop} {inj : Inj} {st : AS} {a : Act} {Ds : List Nat}
theorem qv6 {t : TypeId} (h : RelS w Z inj st a Ds) : Kk st (st.new (.mp [])) (.mp st.nx) w Z inj ((do pure (Next.value (← Instr.makeMap t none)) : Sem Next).run P w):=by
  refine .new (o:=.map #[] 0) (x:=.map (some w.heap.size)) h ?_ ?_ (.mp q6 (Y4 _ _ _))
  · simp [Instr.makeMap]
  · exact ⟨w.heap.size,#[],0,Y4 _ _ _,Jv w _,rfl,qe⟩
theorem q5m {t : TypeId} {i : TI} {ks : List (Option IntKind)} {n : Nat} {es : List (DV × DV)} {l : DV} {mv q : Value} {r : Option Nat} (h : RelS w Z inj st a Ds) (ht : tiOf P t = some i) (hk : i.keys = some ks) (hm : RelV w Z inj st.nx (.mp n) mv)
    (hb : st.blk n = some (.mp es)) (m : RelD w Z l q) (p : Uj i.eagg ks l = true) (hf : Zm i.eagg ks l es = some r) :
    ∃ j et b c cl,P.underlying t = some (.map j et)∧mv = .map (some b)∧inj n = some (b,0)∧w.heap[b]? = some (.map c cl)∧Ents w Z es c.toList∧(∀ y,(Instr.checkKey y 10000 j q).run P w = .ok () w)∧
      (Instr.findKey j q c.toList).run P w = .ok (r.bind fun i=>(c[i]?).map fun x=>(i,x.val)) w∧∃ s u,i.ezero = [s]∧(zeroValue et).run P w = .ok u w∧RelD w Z s u:=by
  obtain ⟨ak,d,z,k⟩:=Ys ht;have g:=k.kind;unfold Zj at g;rw [k.keys ks hk] at g;obtain ⟨j,e,ie,u,s,au,dk,rfl,g1,g2,g3,g4,g5,g6,g7,g8,_⟩:=g;rw [hk] at g6;cases g6
  have f : Zs l = i.eagg∧(cellsD l).length = ks.length:=by
    simp only [Uj,Bool.and_eq_true,beq_iff_eq] at p;simp_all
  obtain ⟨f,o⟩:=f
  cases hm with
  | @mp _ b hn hi=>
  obtain ⟨b',c,cl,e1,e2,e3⟩:=qx4 (h.heap.blk n _ hb).2;rw [hi] at e1;cases e1;rw [g8] at f hf;refine ⟨j,e,b,c,cl,k.und,rfl,hi,e2,e3,fun y=>?_,?_,s,u,g7,?_,(qf3 g3).1⟩
  · have hc:=qf1 y 8 j dk ks g5 g4 10000 q6 w
    cases v : Kc dk with
    | true=>
      obtain ⟨X,rfl,hX⟩:=q90 m (f.trans v);exact (hc.1 v) X (hX.1.symm.trans o)
    | false=>exact (hc.2 v).2 q
  · have:=qru g5 g4 m f e3 hf;grind
  · simp [zeroValue,typeInfo,g1,g2]
theorem qf9 {es : List (DV × DV)} {a : List MapEntry} (h : Ents w Z es a) {j : Nat} {e : DV × DV} (c : es[j]? = some e) : ∃ x,a[j]? = some x∧RelD w Z e.1 x.key∧RelD w Z e.2 x.val∧Yi e.2 = true:=by
  obtain ⟨x,b⟩:=Zq (xs:=a) (i:=j) (by rw [h.1];exact Kd c);exact ⟨x,b,h.2 j e x c b⟩
theorem qg7 {ag : Bool} {ks : List (Option IntKind)} {k : DV} : ∀ {es : List (DV × DV)} {j : Nat},Zm ag ks k es = some (some j)→∃ e,es[j]? = some e∧Zs e.1 = ag∧Ke ks (cellsD k) (cellsD e.1) = some true
  | [],j,h=>by simp [Zm] at h
  | (b,c)::es,j,h=>by
    simp only [Zm] at h
    split at h <;> try simp at h
    rename_i d
    split at h <;> try simp at h
    · rename_i g;subst h;exact ⟨_,rfl,d.2,g⟩
    · split at h <;> simp at h
      rename_i i hi
      subst h
      obtain ⟨e,a,f⟩:=qg7 hi
      exact ⟨e,by simpa using a,f⟩
theorem qv4 {t : TypeId} {x y : Operand} {ok : Bool} {i : TI} {ks : List (Option IntKind)} {n : Nat} {es : List (DV × DV)} {r z : DV} {e : DV × Bool} (h : RelS w Z inj st a Ds) (ht : tiOf P t = some i) (hk : i.keys = some ks) (hx : st.ev x = some (.mp n)) (hy : st.ev y = some (.d r))
    (hb : st.blk n = some (.mp es)) (hz : i.ezero = [z]) (k : Uj i.eagg ks r = true) (p : mget i.eagg ks z r es = some e) :
    Kk st st (.d (bif ok then .tup [e.1,.bool e.2] else e.1)) w Z inj ((do pure (Next.value (← Instr.lookup t (a.eval x) (a.eval y) ok)) : Sem Next).run P w):=by
  have hm:=Kb h hx;have f:=Kb h hy;generalize a.eval x = mv at hm ⊢;generalize a.eval y = kv at f ⊢
  cases f with | d f=>
  have fin : ∀ (u : Value) (o : Bool) (dv : DV),RelD w Z dv u→e = (dv,o)→(Instr.lookup t mv kv ok).run P w = .ok (if ok then .tuple #[u,.bool o] else u) w→Kk st st (.d (bif ok then .tup [e.1,.bool e.2] else e.1)) w Z inj ((do pure (Next.value (← Instr.lookup t mv kv ok)) : Sem Next).run P w):=by
    rintro u o dv hr rfl m;refine .quiet h (Kj m) (.d ?_)
    cases ok with
    | false=>exact hr
    | true=>
      refine .tup rfl fun i d c hd l=>?_
      match i,hd,l with
      | 0,hd,l=>simp at hd l;subst hd l;exact hr
      | 1,hd,l=>simp at hd l;subst hd l;exact .bool _
      | i + 2,hd,_=>simp at hd
  unfold mget at p;split at p <;> try simp at p
  · rename_i j hf;obtain ⟨a1,b1,v,rfl⟩:=p;obtain ⟨kt,et,b,g,cl,g1,rfl,g3,g4,g5,g6,q,_⟩:=q5m h ht hk hm hb f k hf;obtain ⟨u,hu,q1,q2,q3⟩:=qf9 g5 v;refine fin u.val true _ q2 rfl ?_;have s : g[j]? = some u:=by simpa using hu
    simp [Instr.lookup,run_underlying g1,q5a g4,g6,q,s]
  · rename_i hf;subst p;obtain ⟨kt,et,b,g,cl,g1,rfl,g3,g4,g5,g6,q,zd,ze,g8,g9,aa⟩:=q5m h ht hk hm hb f k hf;rw [hz] at g8;cases g8;refine fin ze false _ aa rfl ?_;simp only [Option.bind_none] at q;simp [Instr.lookup,run_underlying g1,q5a g4,g6,q,g9]
theorem qrj {es : List (DV × DV)} {a : List MapEntry} (h : Ents w Z es a) {f c : DV} {x : MapEntry} (g : RelD w Z f x.key) (k : RelD w Z c x.val) (j : Yi c = true) : Ents w Z (es ++ [(f,c)]) (a ++ [x]):=by
  refine ⟨by simp [h.1],fun i e y b d=>?_⟩;by_cases hi : i < es.length
  · rw [List.getElem?_append_left hi] at b;rw [List.getElem?_append_left (by rw [h.1];exact hi)] at d;exact h.2 i e y b d
  · rw [List.getElem?_append_right q6] at b;rw [List.getElem?_append_right (by rw [h.1];omega),h.1] at d;grind
theorem qrk {es : List (DV × DV)} {a : List MapEntry} (h : Ents w Z es a) {j : Nat} {g c : DV} {x : MapEntry} (k : RelD w Z g x.key) (m : RelD w Z c x.val) (l : Yi c = true) : Ents w Z (es.set j (g,c)) (a.set j x):=by
  refine ⟨by simp [h.1],fun i e y b f=>?_⟩;rw [List.getElem?_set] at b f;by_cases d : j = i
  · grind
  · rw [qp d] at b f;exact h.2 i e y b f
theorem qri {es : List (DV × DV)} {a : List MapEntry} (h : Ents w Z es a) (j : Nat) : Ents w Z (es.eraseIdx j) (a.eraseIdx j):=by
  refine ⟨by simp [List.length_eraseIdx,h.1],fun i e y c b=>?_⟩;rw [List.getElem?_eraseIdx] at c b;split at c
  · rename_i hi;rw [qr hi] at b;exact h.2 i e y c b
  · rename_i hi;rw [qp hi] at b;exact h.2 (i + 1) e y c b
theorem qv8 {t : TypeId} {m x y : Operand} {i : TI} {ks : List (Option IntKind)} {n : Nat} {es o : List (DV × DV)} {kd vd : DV} (h : RelS w Z inj st a Ds) (ht : tiOf P t = some i) (hk : i.keys = some ks) (z : st.ev m = some (.mp n)) (hx : st.ev x = some (.d kd)) (hy : st.ev y = some (.d vd))
    (hb : st.blk n = some (.mp es)) (k : Uj i.eagg ks kd = true) (hc : Yi vd = true) (r : mput i.eagg ks kd vd es = some o) :
    Kk st (st.setBlk n (.mp o)) .dead w Z inj ((do Instr.mapUpdate t (a.eval m) (a.eval x) (a.eval y);pure Next.skip : Sem Next).run P w):=by
  have z:=Kb h z;have f:=Kb h hx;have l:=Kb h hy;generalize a.eval m = mv at z ⊢;generalize a.eval x = kv at f ⊢;generalize a.eval y = vv at l ⊢
  cases f with | d f=>
  cases l with | d l=>
  have v : Zs kd = i.eagg:=by simp only [Uj,Bool.and_eq_true,beq_iff_eq] at k;exact k.1
  have fin : ∀ b c cl g cl',inj n = some (b,0)→w.heap[b]? = some (.map c cl)→Ents w Z o g.toList→(Instr.mapUpdate t mv kv vv).run P w = .ok () (w.putObj b (.map g cl'))→
      Kk st (st.setBlk n (.mp o)) .dead w Z inj ((do Instr.mapUpdate t mv kv vv;pure Next.skip : Sem Next).run P w):=by
    intro b c cl g cl' hi hh hE q
    obtain ⟨s,g2⟩:=qmx (pin:=st.nx) (cl':=cl') h.heap hb hi hh hE
    exact ⟨undef,_,inj,.inr ⟨by simp [q],rfl⟩,.dead _,s,g2,rfl,Nat.le_refl _⟩
  unfold mput at r;split at r <;> try simp at r
  · rename_i j hf;subst r;obtain ⟨kt,et,b,c,cl,s,rfl,g3,p,g5,g6,g7,_⟩:=q5m h ht hk z hb f k hf;obtain ⟨e,he,e1,e2⟩:=qg7 hf;obtain ⟨u,hu,q1,q2,q3⟩:=qf9 g5 he;have ag : c[j]? = some u:=by simpa using hu
    have ah:=qt4 (P:=P) f q1 v e1 e2;refine fin b c cl (c.modify j fun e=>{e with key:=kv,val:=vv}) cl g3 p ?_ ?_
    · have : (c.modify j fun e=>{e with key:=kv,val:=vv}).toList = c.toList.set j {u with key:=kv,val:=vv}:=by
        apply List.ext_getElem?;grind
      rw [this];exact qrk g5 f l hc
    · simp [Instr.mapUpdate,run_underlying s,q5a p,g6,g7,ag,ah,qdd _ p]
  · rename_i hf;subst r;obtain ⟨kt,et,b,c,cl,s,rfl,g3,p,g5,g6,g7,_⟩:=q5m h ht hk z hb f k hf;simp only [Option.bind_none] at g7;refine fin b c cl (c.push {key:=kv,val:=vv,born:=cl}) (cl + 1) g3 p ?_ ?_
    · rw [Array.toList_push];exact qrj g5 f l hc
    · simp [Instr.mapUpdate,run_underlying s,q5a p,g6,g7,qdd _ p]
theorem qux {x : Array TypeId} {ty t : TypeId} {mv v : Value} {i : TI} {ks : List (Option IntKind)} {n : Nat} {es k : List (DV × DV)} {kd : DV} (h : RelS w Z inj st a Ds) (ht : tiOf P t = some i) (s : x[0]? = some t) (hk : i.keys = some ks) (hm : RelV w Z inj st.nx (.mp n) mv) (q : RelD w Z kd v)
    (hb : st.blk n = some (.mp es)) (l : Uj i.eagg ks kd = true) (p : mdel i.eagg ks kd es = some k) :
    Kk st (st.setBlk n (.mp k)) (.d (.tup [])) w Z inj ((do pure (Next.value (← Builtin.delete_ x ty #[mv,v])) : Sem Next).run P w):=by
  have fin : ∀ b f cl g cl',inj n = some (b,0)→w.heap[b]? = some (.map f cl)→Ents w Z k g.toList→(Builtin.delete_ x ty #[mv,v]).run P w = .ok (.tuple #[]) (w.putObj b (.map g cl'))→
      Kk st (st.setBlk n (.mp k)) (.d (.tup [])) w Z inj ((do pure (Next.value (← Builtin.delete_ x ty #[mv,v])) : Sem Next).run P w):=by
    intro b f cl g cl' hi hh hE o
    obtain ⟨r,g2⟩:=qmx (pin:=st.nx) (cl':=cl') h.heap hb hi hh hE
    exact ⟨.tuple #[],_,inj,.inl (Kj o),.d (.tup rfl fun i d c hd _=>by simp at hd),r,g2,rfl,Nat.le_refl _⟩
  unfold mdel at p;split at p <;> try simp at p
  · rename_i j hf;subst p;obtain ⟨kt,et,b,f,cl,r,rfl,g3,m,y,g6,z,_⟩:=q5m h ht hk hm hb q l hf;obtain ⟨e,he,e1,e2⟩:=qg7 hf;obtain ⟨u,hu,q1,q2,q3⟩:=qf9 y he;have ad : f[j]? = some u:=by simpa using hu
    refine fin b f cl (f.eraseIdxIfInBounds j) cl g3 m ?_ ?_
    · rw [Array.toList_eraseIdxIfInBounds];exact qri y j
    · simp [Builtin.delete_,s,run_underlying r,q5a m,g6,z,ad,qdd _ m]
  · rename_i hf;subst p;obtain ⟨kt,et,b,f,cl,r,rfl,g3,m,y,g6,z,_⟩:=q5m h ht hk hm hb q l hf;simp only [Option.bind_none] at z;refine fin b f cl f cl g3 m y ?_;simp [Builtin.delete_,s,run_underlying r,q5a m,g6,z,qdd _ m]
end
end Go.Am
