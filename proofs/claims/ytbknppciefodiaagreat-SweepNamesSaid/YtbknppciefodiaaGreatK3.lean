/- Am13 Am14 Am15 Am16 Am16m -/
import Derived.Test.YtbknppciefodiaaGreatK2
import Derived.Deep.AppendSrc
import Derived.Room.Entries
import Derived.RangeFuncRecord
namespace Go.Am
open Go
variable {P : Program} {T : Tab}
def RowV (w : World) (Z : Nat→Prop) (inj : Inj) (nx : Nat) (arr : Array Value) (o es : Nat) (xs : List (List V)) : Prop:=
  ∀ (i : Nat) (x : List V) (j : Nat) (d : V),xs[i]? = some x→x[j]? = some d→Km d = true∧∃ c,arr[o + (i * es + j)]? = some c∧RelV w Z inj nx d c
section
variable {w : World} {Z : Nat→Prop} {inj : Inj} {nx : Nat}
theorem RowV.mono {w' : World} {inj' : Inj} {nx' : Nat} {arr : Array Value} {o es : Nat} {xs : List (List V)} (h : RowV w Z inj nx arr o es xs) (a : ∀ v x,RelV w Z inj nx v x→RelV w' Z inj' nx' v x) : RowV w' Z inj' nx' arr o es xs:=
  fun i x j d b hd=>let ⟨h1,c,h2,h3⟩:=h i x j d b hd;⟨h1,c,h2,a _ _ h3⟩
def rowsOf : Blk→Option (Nat × List (List V))
  | .dat es xs=>some (es,xs.map (·.map .d))
  | .cel es xs=>some (es,xs)
  | _=>none
theorem q59 {n : Nat} {b : Blk} {es : Nat} {xs : List (List V)} (h : RelB w Z inj nx n b) (m : rowsOf b = some (es,xs)) :
    es≠0∧(∀ (i : Nat) (x : List V),xs[i]? = some x→x.length = es)∧((xs = []∧inj n = none)∨∃ b o arr ty,inj n = some (b,o)∧w.heap[b]? = some (.cells arr ty (0,0))∧RowV w Z inj nx arr o es xs):=by
  cases b <;> simp only [rowsOf,reduceCtorEq,Option.some.injEq,Prod.mk.injEq] at m
  · obtain ⟨rfl,rfl⟩:=m;obtain ⟨p,g,a⟩:=h;refine ⟨p,?_,?_⟩
    · intro i x f;simp only [List.getElem?_map,Y4] at f;obtain ⟨y,q,rfl⟩:=f;simpa using g i y q
    · rcases a with ⟨a,k⟩ | ⟨b,o,arr,ty,a,k,u⟩
      · exact .inl ⟨by simp [a],k⟩
      · refine .inr ⟨b,o,arr,ty,a,k,fun i x j d f hd=>?_⟩;simp only [List.getElem?_map,Y4] at f;obtain ⟨y,q,rfl⟩:=f;simp only [List.getElem?_map,Y4] at hd;obtain ⟨s,l,rfl⟩:=hd;obtain ⟨t,c,v,r⟩:=u i y j s q l;exact ⟨t,c,v,.d r⟩
  · obtain ⟨rfl,rfl⟩:=m;obtain ⟨p,g,a⟩:=h;exact ⟨p,g,a⟩
theorem q58 {n : Nat} {b : Blk} {es : Nat} {xs : List (List V)} (f : rowsOf b = some (es,xs)) (m : es≠0) (l : ∀ (i : Nat) (x : List V),xs[i]? = some x→x.length = es)
    (h : (xs = []∧inj n = none)∨∃ b o arr ty,inj n = some (b,o)∧w.heap[b]? = some (.cells arr ty (0,0))∧RowV w Z inj nx arr o es xs) : RelB w Z inj nx n b:=by
  cases b <;> simp only [rowsOf,reduceCtorEq,Option.some.injEq,Prod.mk.injEq] at f
  · obtain ⟨rfl,rfl⟩:=f;rename_i xs;refine ⟨m,fun i x g=>?_,?_⟩
    · have:=l i (x.map .d) (by simp [g]);simpa using this
    · rcases h with ⟨k,a⟩ | ⟨b,o,arr,ty,k,a,r⟩
      · exact .inl ⟨by simpa using k,a⟩
      · refine .inr ⟨b,o,arr,ty,k,a,fun i x j d g hd=>?_⟩;obtain ⟨q,c,s,p⟩:=r i (x.map .d) j (.d d) (by simp [g]) (by simp [hd]);refine ⟨q,c,s,?_⟩
        cases p with | d h=>exact h
  · obtain ⟨rfl,rfl⟩:=f;exact ⟨m,l,h⟩
theorem RowV.set {arr k : Array Value} {o es e j : Nat} {xs : List (List V)} {cs ys : List V} (h : RowV w Z inj nx arr o es xs) (y : ∀ (i : Nat) (x : List V),xs[i]? = some x→x.length = es) (u : xs[e]? = some cs) (v : LRel w Z inj nx ys k) (t : ys.all Km = true)
    (hj : j + ys.length≤cs.length) (m : o + (e * es + j) + k.size≤arr.size) : RowV w Z inj nx (splice arr.toList (o + (e * es + j)) k.toList).toArray o es (xs.set e (splice cs j ys)):=by
  have aa : k.toList.length = ys.length:=by have:=v.1;simp;omega
  have b : o + (e * es + j) + k.toList.length≤arr.toList.length:=by simpa using m
  have z:=y e cs u;intro i x a d f hd;rw [List.getElem?_toArray,U1 _ _ _ _ b];rw [List.getElem?_set] at f;by_cases g : e = i
  · subst g;rw [qm rfl,qm (Ke u)] at f;simp at f;subst f;rw [U1 _ _ _ _ hj] at hd;by_cases l : j≤a∧a < j + ys.length
    · rw [qm l] at hd;obtain ⟨c,r⟩:=Ya (xs:=k) (i:=a - j) (by have:=v.1;omega);rw [qm q0,show o + (e * es + a) - (o + (e * es + j)) = a - j by omega];exact ⟨List.all_eq_true.1 t _ (List.mem_of_getElem? hd),c,by simpa using r,v.2 _ _ _ hd r⟩
    · rw [ql l] at hd;rw [ql q0];obtain ⟨s,c,p,q⟩:=h e cs a d u hd;exact ⟨s,c,by simpa using p,q⟩
  · rw [ql g] at f;obtain ⟨s,c,p,q⟩:=h i x a d f hd;refine ⟨s,c,?_,q⟩;have n : a < es:=by have:=Ke hd;have:=y i x f;omega
    rw [ql ?_]
    · simpa using p
    · intro r;exact g ((qgh (i:=e) n).1 q0).symm
end
section
variable {w : World} {Z : Nat→Prop} {inj : Inj} {st : AS} {a : Act} {Ds : List Nat}
theorem qzf {t : TypeId} {a : TypeInfo} {x : Value} {b o : Nat} {arr : Array Value} {ty : TypeId} (hi : P.info? t = some a) (hs : x.cells.size = a.size) (f : ∀ c∈x.cells.toList,c.oneCell' = true)
    (hb : w.heap[b]? = some (.cells arr ty (0,0))) (d : o + x.cells.size≤arr.size) :
    (Instr.storeAt t (.pointer (some ⟨b,o,none⟩)) x).run P w = .ok () (w.setRow b (splice arr.toList o x.cells.toList).toArray):=by
  have:=run_storeCells_at P b o ty x.cells.toList 0 arr w hb (by simpa using d) f;simp only [Nat.add_zero] at this;simp only [Instr.storeAt,Instr.sureAddr,storeVar,Sem.run_bind,Sem.run_pure,Result.andThen_ok,Zd hi,Sem.run_ite];rw [ql q0];exact this
theorem qsn {t : TypeId} {i : TI} {p x : Operand} {pv v : V} {st1 : AS} (h : RelS w Z inj st a Ds) (ht : tiOf P t = some i) (hp : st.ev p = some pv) (hx : st.ev x = some v) (hs : Jg st i pv v = some st1) :
    Kk st st1 .dead w Z inj ((do Instr.storeAt t (a.eval p) (a.eval x);pure .skip : Sem Next).run P w):=by
  obtain ⟨av,d,z,k⟩:=Yn ht;have ad:=Kb h hp;have af:=Kb h hx;generalize a.eval p = vp at ad ⊢;generalize a.eval x = vx at af ⊢;cases pv <;> simp only [Jg,reduceCtorEq] at hs
  rename_i n k0 e j;split at hs <;> try simp at hs
  rename_i r
  have bb : (cellsOf v).length = i.size:=by
    apply Classical.byContradiction;intro hc;exact r (.inl hc)
  have aj : (cellsOf v).all Km = true:=by
    cases hc : (cellsOf v).all Km with
    | true=>rfl
    | false=>exact absurd (.inr hc) r
  cases ad with | @ref _ _ _ _ b o hn hi=>
  have key : ∀ (b0 : Blk) (es : Nat) (xs : List (List V)) (cs : List V) (b1 : Blk),st.blk n = some b0→rowsOf b0 = some (es,xs)→es = k0→xs[e]? = some cs→j + i.size≤cs.length→rowsOf b1 = some (es,xs.set e (splice cs j (cellsOf v)))→st1 = st.setBlk n b1→
      Kk st st1 .dead w Z inj ((do Instr.storeAt t (.pointer (some ⟨b,o + (e * k0 + j),none⟩)) vx;pure .skip : Sem Next).run P w):=by
    rintro b0 es xs cs b1 s aq rfl g f ak rfl
    obtain ⟨g1,g2,g3⟩:=q59 (h.heap.blk n b0 s).2 aq
    rcases g3 with ⟨g3,_⟩ | ⟨b',o',arr,ty,g3,g4,g5⟩
    · subst g3;simp at g
    · rw [hi] at g3;cases g3
      obtain ⟨c1,c2,c3⟩:=qaa af aj
      have l : live b0 = true:=by cases b0 <;> simp_all [rowsOf,live]
      have au:=g2 e cs g
      have bd : 0 < es:=by omega
      have ao : o + (e * es + (es - 1)) < arr.size:=by
        obtain ⟨d0,al⟩:=Zp (xs:=cs) (i:=es - 1) q0;obtain ⟨_,c,hc,_⟩:=g5 e cs (es - 1) d0 g al;exact Zj hc
      have m : o + (e * es + j) + vx.cells.size≤arr.size:=by omega
      have ai:=qzf (P:=P) (w:=w) k.inf (x:=vx) (by rw [k.size];omega) c3 g4 m
      have y : (splice arr.toList (o + (e * es + j)) vx.cells.toList).toArray.size = arr.size:=by
        simp only [List.size_toArray];rw [q1y _ _ _ (by simpa using m)];simp
      have hz : ∀ b1,Z b1→(w.setRow b (splice arr.toList (o + (e * es + j)) vx.cells.toList).toArray).heap[b1]? = w.heap[b1]?:=fun b1 an=>
        setRow_other w b b1 _ (fun e=>h.heap.out n b0 _ s l hi (by rw [← e];exact an))
      have ar:=q2n w b arr _ ty (0,0) g4 y
      refine ⟨undef,_,inj,.inr ⟨by simp [ai],rfl⟩,.dead _,?_,Ext.set h.heap s l hi g4 y,rfl,Nat.le_refl _⟩
      refine h.heap.set s l hi g4 y (q58 ak g1 ?_ (.inr ⟨b,o,_,ty,hi,setRow_heap w b _ _ _ _ g4,?_⟩))
      · intro i' x' q
        rw [List.getElem?_set] at q
        by_cases ae : e = i'
        · rw [qm ae,qm (by have:=Ke g;omega)] at q
          simp at q;rw [← q,q1y _ _ _ q0];exact au
        · rw [ql ae] at q;exact g2 _ _ q
      · exact (g5.set g2 g ⟨c1,c2⟩ aj q0 m).mono fun v x hr=>hr.mono hz (fun _ h=>h) ar (fun _ _=>rfl) (Nat.le_refl _)
  cases hb : st.blk n with
  | none=>simp [hb] at hs
  | some blk=>
    cases blk with
    | dead=>simp [hb] at hs
    | loop=>simp [hb] at hs
    | mp=>simp [hb] at hs
    | dat es xs=>
      simp only [hb] at hs;split at hs <;> try simp at hs
      rename_i cs u aa;have u:=Nat.eq_of_beq_eq_true u;have g : (xs.map (·.map V.d))[e]? = some (cs.map V.d):=by simp [aa]
      split at hs
      · rename_i ds am;simp at hs;obtain ⟨f,hs⟩:=hs;refine key _ _ _ _ _ hb rfl u.symm g (by simpa using f) ?_ hs.symm;simp only [rowsOf,Option.some.injEq,Prod.mk.injEq,true_and];rw [q4c am];simp [splice,List.map_set,List.map_take,List.map_drop]
      · simp at hs;obtain ⟨f,hs⟩:=hs;exact key _ _ _ _ _ hb rfl u.symm g (by simpa using f) rfl hs.symm
    | cel es xs=>
      simp only [hb] at hs;split at hs <;> try simp at hs
      rename_i cs u aa;have u:=Nat.eq_of_beq_eq_true u;obtain ⟨f,hs⟩:=hs;exact key _ _ _ _ _ hb rfl u.symm aa f rfl hs.symm
end
end Go.Am
namespace Go.Am
open Go
variable {P : Program} {T : Tab}
section
variable {w : World} {Z : Nat→Prop} {inj : Inj} {nx : Nat}
def Jm (w : World) (ad : Option Addr) (L : List Value) (ys : List (List V)) : Prop:=match ad with
  | some p=>∀ (k : Nat) (u : Value),L[k]? = some u→w.cell? (p.add k) = some u
  | none=>ys = []
theorem qew {b o es : Nat} {xs : List (List V)} (r : es≠0) (p : ∀ (i : Nat) (x : List V),xs[i]? = some x→x.length = es)
    (h : ∀ (i : Nat) (x : List V) (j : Nat) (d : V),xs[i]? = some x→x[j]? = some d→Km d = true∧∃ c,w.cell? ⟨b,o + (i * es + j),none⟩ = some c∧RelV w Z inj nx d c) :
    ∃ L : List Value,L.length = xs.length * es∧(∀ (k : Nat) (u : Value),L[k]? = some u→w.cell? ⟨b,o + k,none⟩ = some u)∧ERel w Z inj nx es xs L.toArray:=by
  have g : ∀ k,k < xs.length * es→∃ i x j d c,xs[i]? = some x∧x[j]? = some d∧k = i * es + j∧w.cell? ⟨b,o + k,none⟩ = some c∧RelV w Z inj nx d c:=by
    intro k a;have q : k / es < xs.length:=Nat.div_lt_of_lt_mul (by rwa [Nat.mul_comm]);have n : k % es < es:=Nat.mod_lt _ q0;obtain ⟨x,f⟩:=Zp q;obtain ⟨d,hd⟩:=Zp (xs:=x) (i:=k % es) (by rw [p _ _ f];exact n);obtain ⟨_,c,l,s⟩:=h _ _ _ _ f hd;have a : k = k / es * es + k % es:=by rw [Nat.mul_comm];exact (Nat.div_add_mod k es).symm
    exact ⟨_,_,_,_,c,f,hd,a,by rw [a];exact l,s⟩
  refine ⟨(List.range (xs.length * es)).map fun k=>(w.cell? ⟨b,o + k,none⟩).getD undef,qe,?_,?_⟩
  · intro k u m;have a : k < xs.length * es:=by have:=Ke m;simpa using this
    obtain ⟨_,_,_,_,c,_,_,_,l,_⟩:=g k a;simp [a,l] at m;rw [l,m]
  · refine ⟨qe,p,fun i x j d f hd=>?_⟩;obtain ⟨q,c,n,t⟩:=h i x j d f hd;have a:=q3d (Ke f) (show j < es by have:=Ke hd;have:=p i x f;omega);exact ⟨q,c,by simp [a,n],t⟩
theorem ERel.append {es : Nat} {xs ys : List (List V)} {A B : Array Value} (h : ERel w Z inj nx es xs A) (k : ERel w Z inj nx es ys B) : ERel w Z inj nx es (xs ++ ys) (A ++ B):=by
  obtain ⟨l,n,m⟩:=h;obtain ⟨b1,o,p⟩:=k;refine ⟨by simp [l,b1,Nat.add_mul],?_,?_⟩
  · intro i x a;rw [List.getElem?_append] at a;split at a
    · exact n _ _ a
    · exact o _ _ a
  · intro i x j d a hd;rw [List.getElem?_append] at a;split at a
    · obtain ⟨g,c,b,f⟩:=m i x j d a hd;exact ⟨g,c,by rw [Array.getElem?_append_left (Zj b)];exact b,f⟩
    · rename_i hi;obtain ⟨g,c,b,f⟩:=p _ x j d a hd;refine ⟨g,c,?_,f⟩
      have e : i * es + j = A.size + ((i - xs.length) * es + j):=by
        rw [l,← Nat.add_assoc,← Nat.add_mul];congr 2;omega
      rw [e,Array.getElem?_append_right q0,show A.size + ((i - xs.length) * es + j) - A.size = (i - xs.length) * es + j by omega];exact b
theorem ERel.row {es : Nat} {xs : List (List V)} {A B : Array Value} (h : ERel w Z inj nx es xs A) : RowV w Z inj nx (A ++ B) 0 es xs:=by
  intro i x j d f hd;obtain ⟨g,c,a,b⟩:=h.2.2 i x j d f hd;exact ⟨g,c,by rw [Nat.zero_add,Array.getElem?_append_left (Zj a)];exact a,b⟩
theorem ERel.one {es : Nat} {xs : List (List V)} {L : List Value} (l : es≠0) (h : ERel w Z inj nx es xs L.toArray) : ∀ u∈L,u.oneCell' = true:=by
  intro u g;obtain ⟨k,b⟩:=List.mem_iff_getElem?.1 g;have o:=Ke b;have n : L.length = xs.length * es:=by simpa using h.1
  have p : k / es < xs.length:=Nat.div_lt_of_lt_mul (by rw [Nat.mul_comm];omega);obtain ⟨x,f⟩:=Zp p;obtain ⟨d,hd⟩:=Zp (xs:=x) (i:=k % es) (by rw [h.2.1 _ _ f];exact Nat.mod_lt _ q0);obtain ⟨j,c,a,m⟩:=h.2.2 _ _ _ _ f hd;have e : k / es * es + k % es = k:=by rw [Nat.mul_comm];exact Nat.div_add_mod k es
  rw [e] at a;simp [b] at a;subst a;exact qek m j
theorem ERel.mono {w' : World} {inj' : Inj} {nx' es : Nat} {xs : List (List V)} {A : Array Value} (h : ERel w Z inj nx es xs A) (a : ∀ v x,RelV w Z inj nx v x→RelV w' Z inj' nx' v x) : ERel w' Z inj' nx' es xs A:=
  ⟨h.1,h.2.1,fun i x j d b hd=>let ⟨h1,c,h2,h3⟩:=h.2.2 i x j d b hd;⟨h1,c,h2,a _ _ h3⟩⟩
theorem ERel.nil {es : Nat} : ERel w Z inj nx es [] #[]:=⟨qe,qe,qe⟩
theorem RowV.cells {arr : Array Value} {ty : TypeId} {b o es off len : Nat} {xs : List (List V)} (h : RowV w Z inj nx arr o es xs) (hb : w.heap[b]? = some (.cells arr ty (0,0))) :
    ∀ (i : Nat) (x : List V) (j : Nat) (d : V),((xs.drop off).take len)[i]? = some x→x[j]? = some d→Km d = true∧∃ c,w.cell? ⟨b,o + off * es + (i * es + j),none⟩ = some c∧RelV w Z inj nx d c:=by
  intro i x j d a hd;rw [List.getElem?_take] at a;split at a
  · rw [List.getElem?_drop] at a;obtain ⟨k,c,f,g⟩:=h _ x j d a hd;refine ⟨k,c,?_,g⟩;simp only [World.cell?,hb];rw [← f];simp only [Option.isSome_none,Bool.false_eq_true,if_false];rw [Nat.add_mul];congr 1;omega
  · simp at a
theorem qfc {es off len : Nat} {xs : List (List V)} (b : ∀ (i : Nat) (x : List V),xs[i]? = some x→x.length = es) : ∀ (i : Nat) (x : List V),((xs.drop off).take len)[i]? = some x→x.length = es:=by
  intro i x a;rw [List.getElem?_take] at a;split at a
  · rw [List.getElem?_drop] at a;exact b _ _ a
  · simp at a
end
section
variable {w : World} {Z : Nat→Prop} {inj : Inj} {st : AS} {a : Act} {Ds : List Nat}
theorem qd5 {x : V} {ys : List (List DV)} (h : Zg st x = some ys) : Z9 st x = some (ys.map (·.map .d)):=by
  unfold Zg at h;split at h
  · simp at h;subst h;rfl
  · simp at h;subst h;rfl
  · split at h <;> try simp at h
    rename_i hb;obtain ⟨a,rfl⟩:=h;simp [Z9,hb,a]
  · simp at h
theorem qad {x : V} {xv : Value} {es : Nat} {ys : List (List V)} (h : RelS w Z inj st a Ds) (g : RelV w Z inj st.nx x xv) (f : Z9 st x = some ys) (hf : Ju es x = true) (v : es≠0) :
    ∃ (m : Option Addr) (cap : Nat) (L : List Value),xv = .slice m ys.length cap∧L.length = ys.length * es∧ERel w Z inj st.nx es ys L.toArray∧Jm w m L ys:=by
  unfold Z9 at f;split at f
  · simp at f;subst f
    cases g with | d g=>
    cases g;exact ⟨none,0,[],rfl,qe,.nil,(rfl : Jm w none [] [])⟩
  · rename_i l xs;simp at f;subst f;have he:=Nat.eq_of_beq_eq_true hf;subst he
    cases g with | d g=>
    cases g with
    | slnil=>exact ⟨none,0,[],rfl,qe,.nil,(rfl : Jm w none [] [])⟩
    | slemp _ m=>exact ⟨some m,0,[],rfl,qe,.nil,fun k u q=>by simp at q⟩
    | @sl _ _ b o cap p h2 h3 h4 h5=>
      obtain ⟨L,l1,l2,l3⟩:=qew (w:=w) (Z:=Z) (inj:=inj) (nx:=st.nx) (b:=b) (o:=o) (xs:=xs.map (·.map V.d)) v
        (fun i x g=>by simp only [List.getElem?_map,Y4] at g;obtain ⟨y,z,rfl⟩:=g;simpa using h3 i y z)
        (fun i x j d g hd=>by
          simp only [List.getElem?_map,Y4] at g;obtain ⟨y,z,rfl⟩:=g;simp only [List.getElem?_map,Y4] at hd;obtain ⟨d',r,rfl⟩:=hd;obtain ⟨g1,c,g2⟩:=h4 i y j d' z r
          exact ⟨g1,c,g2,.d (h5 i y j d' c z r g2)⟩)
      exact ⟨some ⟨b,o,none⟩,cap,L,qe,l1,l3,fun k u q=>by rw [Jo];exact l2 k u q⟩
  · rename_i n l off len;have he:=Nat.eq_of_beq_eq_true hf;subst he
    have key : ∀ (b0 : Blk) (xs : List (List V)),st.blk n = some b0→rowsOf b0 = some (l,xs)→off + len≤xs.length→ys = (xs.drop off).take len→
        ∃ (m : Option Addr) (cap : Nat) (L : List Value),xv = .slice m ys.length cap∧L.length = ys.length * l∧ERel w Z inj st.nx l ys L.toArray∧Jm w m L ys:=by
      rintro b0 xs hb hr aq rfl
      have t : ((xs.drop off).take len).length = len:=by simp;omega
      obtain ⟨g1,g2,s⟩:=q59 (h.heap.blk n b0 hb).2 hr
      cases g with
      | hsnil=>
        have : (xs.drop off).take 0 = []:=by simp
        rw [this];exact ⟨none,0,[],rfl,qe,.nil,(rfl : Jm w none [] [])⟩
      | @hs _ _ _ _ cap m hn f _ hcap=>
        by_cases h0 : len = 0
        · subst h0;have : (xs.drop off).take 0 = []:=by simp
          rw [this];exact ⟨some m,cap,[],rfl,qe,.nil,fun k u q=>by simp at q⟩
        · obtain ⟨b,o,hi,rfl,al⟩:=hcap q0;rcases s with ⟨s,g4⟩ | ⟨b',o',arr,ty,s,g4,g5⟩
          · rw [hi] at g4;cases g4
          · rw [hi] at s;cases s;obtain ⟨L,l1,l2,l3⟩:=qew (w:=w) (Z:=Z) (inj:=inj) (nx:=st.nx) (b:=b) (o:=o + off * l) (xs:=(xs.drop off).take len) v (qfc g2) (g5.cells g4);exact ⟨some ⟨b,o + off * l,none⟩,cap,L,by rw [t],l1,l3,fun k u q=>by rw [Jo];exact l2 k u q⟩
    split at f
    · rename_i k xs hb;split at f <;> try simp at f
      rename_i p;obtain ⟨p,rfl⟩:=p;subst f;refine key _ (xs.map (·.map V.d)) hb rfl (by simpa using p) qe
    · rename_i k xs hb;split at f <;> try simp at f
      rename_i p;obtain ⟨p,rfl⟩:=p;subst f;exact key _ xs hb rfl p rfl
    · simp at f
  · simp at f
theorem q9j {es n : Nat} {tx g : TypeId} {b : Option Addr} {cap : Nat} {ys : List (List V)} {L : List Value} (d : es≠0) (f : P.underlying tx = some (.slice g)) (h : n = ys.length) (a : L.length = ys.length * es)
    (j : ERel w Z inj st.nx es ys L.toArray) (c : Jm w b L ys) : Src P es tx (.slice b ys.length cap) n L w:=by
  subst h;refine ⟨.inl ⟨g,f⟩,fun w'=>by simp [Builtin.lenOf],?_,?_,a,j.one d⟩
  · cases b with
    | none=>subst c;simp at a;subst a;simp [Builtin.firstCells]
    | some p=>
      have:=run_loadCells_list (P:=P) w p L c;rw [a] at this;simpa [Builtin.firstCells] using this
  · cases b with
    | none=>subst c;simp at a;subst a;simp [Builtin.firstCells]
    | some p=>
      have:=run_loadCells_list (P:=P) w.drew p L c;rw [a] at this;simpa [Builtin.firstCells] using this
theorem qa5 {t tx ty e : TypeId} {i : TypeInfo} (d : P.underlying t = some (.slice e)) (hi : P.info? e = some i) {base : Option Addr} {sLen sCap : Nat} {x : Value} {n : Nat} {news : List Value} (hs : Src P i.size tx x n news w) (a : sLen + n≤sCap)
    {w' : World} (b : match base with | some p=>(storeCells (p.add (sLen * i.size)) news).run P w = .ok () w' | none=>w' = w) :
    (Builtin.append_ #[t,tx] ty #[.slice base sLen sCap,x]).run P w = .ok (.slice base (sLen + n) sCap) w':=by
  cases base with
  | none=>subst b;rcases hs.kind with ⟨f,c⟩ | c <;> simp [Builtin.append_,run_underlying d,run_underlying c,sizeOf,typeInfo,hi,hs.len,a,hs.cells]
  | some p=>rcases hs.kind with ⟨f,c⟩ | c <;> simp [Builtin.append_,run_underlying d,run_underlying c,sizeOf,typeInfo,hi,hs.len,a,hs.cells,b]
end
end Go.Am
namespace Go.Am
open Go
variable {P : Program} {T : Tab}
section
variable {w : World} {Z : Nat→Prop} {inj : Inj}
theorem RelH.newPh {hp : List (Nat × Blk)} {nx : Nat} (d : RelH w Z inj hp nx) (blk : Blk) (hb : RelB w Z (upd inj nx none) (nx + 1) nx blk) : RelH w Z (upd inj nx none) ((nx,blk)::hp) (nx + 1):=by
  refine ⟨?_,?_,?_,d.zs,d.zc⟩
  · intro n b h;rw [Ks] at h;by_cases a : nx = n
    · grind
    · simp only [a,if_false] at h;obtain ⟨k,g⟩:=d.blk n b h;exact ⟨q0,g.mono (fun _ _=>rfl) (fun _ h=>h) (Sem.keepBig_of_same rfl) (fun m f=>Yb _ _ f) q0 k (fun _ _ _=>rfl)⟩
  · intro n m b c p q a f r l hp j o;rw [Ks] at a f;by_cases k : nx = n
    · subst k;rw [Ky] at hp;cases hp
    · by_cases g : nx = m
      · subst g;rw [Ky] at j;cases j
      · simp only [k,g,if_false] at a f;rw [Yb _ _ (d.blk n b a).1] at hp;rw [Yb _ _ (d.blk m c f).1] at j;exact d.sep n m b c p q a f r l hp j o
  · intro n b p h s hp;rw [Ks] at h;by_cases a : nx = n
    · subst a;rw [Ky] at hp;cases hp
    · simp only [a,if_false] at h;rw [Yb _ _ (d.blk n b h).1] at hp;exact d.out n b p h s hp
theorem Ext.newPh {hp : List (Nat × Blk)} {nx : Nat} (m : RelH w Z inj hp nx) (blk : Blk) : Ext w Z inj hp w Z (upd inj nx none) ((nx,blk)::hp) nx:=by
  refine ⟨Nat.le_refl _,fun _ _ _=>rfl,?_,fun _ c e f h=>⟨c,e,f,h,rfl⟩,fun _ r h=>⟨r,h,rfl⟩,fun _ h=>h,fun _ h=>.inl h,fun n j=>Yb _ _ j,rfl,rfl,rfl,fun _=>rfl⟩;rintro b ⟨n,a,d,k,l,g⟩;rw [Ks] at k;by_cases j : nx = n
  · subst j;rw [Ky] at g;cases g
  · simp only [j,if_false] at k;rw [Yb _ _ (m.blk n a k).1] at g;exact .inl ⟨n,a,d,k,l,g⟩
theorem RelH.move {hp : List (Nat × Blk)} {nx n : Nat} (d : RelH w Z inj hp nx) {x blk : Blk} (hn : find hp n = some x) (r : live x = true) {g off y : Nat} (hi : inj n = some (g,off)) {old cs : Array Value} {t : TypeId} {fr : Nat × Nat}
    (hg : w.heap[g]? = some (.cells old t fr)) (hs : cs.size = old.size) (hb : RelB (w.setRow g cs) Z (upd inj nx (some (g,y))) (nx + 1) nx blk) :
    RelH (w.setRow g cs) Z (upd inj nx (some (g,y))) ((nx,blk)::repl hp n .dead) (nx + 1):=by
  have ad : ∀ b,Z b→b≠g:=fun b j e=>d.out n x _ hn r hi (by rw [← e];exact j)
  have key : ∀ m b,find (repl hp n .dead) m = some b→live b = true→find hp m = some b∧n≠m:=by
    intro m b h z;rw [Z2] at h;by_cases f : n = m
    · subst f;simp [hn] at h;subst h;simp [live] at z
    grind
  have l : ∀ m b,find (repl hp n .dead) m = some b→m < nx:=by
    intro m b h;rw [Z2] at h;by_cases f : n = m
    · subst f;exact (d.blk n x hn).1
    · simp only [f,if_false] at h;exact (d.blk m b h).1
  refine ⟨?_,?_,?_,fun b j=>by simpa using d.zs b j,fun b j=>by rw [setRow_other w g b cs (ad b j)];exact d.zc b j⟩
  · intro m b h;rw [Ks] at h;by_cases f : nx = m
    · grind
    · simp only [f,if_false] at h;refine ⟨by have:=l m b h;omega,?_⟩;by_cases z : live b = true
      · obtain ⟨v,s⟩:=key m b h z;obtain ⟨h3,h4⟩:=d.blk m b v;refine h4.mono (fun b j=>setRow_other w g b cs (ad b j)) (fun _ h=>h) (q2n w g old cs t fr hg hs) (fun _ hk=>Yb _ _ hk) q0 h3 ?_;intro p hp' ai;exact setRow_other w g p.1 cs (fun e=>d.sep n m x b _ _ hn v r z hi hp' s e.symm)
      · have : b = .dead:=by cases b <;> simp_all [live]
        subst this;trivial
  · intro m k b c p q v s aa u o a af;rw [Ks] at v s;by_cases f : nx = m
    · subst f;rw [Ky] at o;cases o;simp only [af,if_false] at s;obtain ⟨h3,h4⟩:=key k c s u;rw [Yb _ _ (l k c s)] at a;exact fun e=>d.sep n k x c (g,off) q hn h3 r u hi a h4 e
    · simp only [f,if_false] at v;obtain ⟨h3,h4⟩:=key m b v aa;rw [Yb _ _ (l m b v)] at o;by_cases hk : nx = k
      · subst hk;rw [Ky] at a;cases a;exact fun e=>d.sep n m x b (g,off) p hn h3 r aa hi o h4 e.symm
      · simp only [hk,if_false] at s;obtain ⟨h5,h6⟩:=key k c s u;rw [Yb _ _ (l k c s)] at a;exact d.sep m k b c p q h3 h5 aa u o a af
  · intro m b p h z hp' j;rw [Ks] at h;by_cases f : nx = m
    · subst f;rw [Ky] at hp';cases hp';exact d.out n x _ hn r hi j
    · simp only [f,if_false] at h;obtain ⟨v,_⟩:=key m b h z;rw [Yb _ _ (l m b h)] at hp';exact d.out m b p v z hp' j
theorem Ext.move {hp : List (Nat × Blk)} {nx n : Nat} (v : RelH w Z inj hp nx) {k blk : Blk} (q : find hp n = some k) (f : live k = true) {g off d : Nat} (hi : inj n = some (g,off)) {old cs : Array Value} {t : TypeId} {j : Nat × Nat}
    (p : w.heap[g]? = some (.cells old t j)) (hs : cs.size = old.size) : Ext w Z inj hp (w.setRow g cs) Z (upd inj nx (some (g,d))) ((nx,blk)::repl hp n .dead) nx:=by
  refine ⟨qe,?_,?_,q2n w g old cs t j p hs,qiq w g old cs t j p,fun _ h=>h,fun _ h=>.inl h,fun m o=>Yb _ _ o,rfl,rfl,rfl,qi3 w g old cs t j p⟩
  · intro b _ hb;exact setRow_other w g b cs (fun e=>hb (by rw [e];exact ⟨n,k,off,q,f,hi⟩))
  · rintro b ⟨m,a,u,c,r,l⟩;rw [Ks] at c;by_cases o : nx = m
    · subst o;rw [Ky] at l;cases l;exact .inl ⟨n,k,off,q,f,hi⟩
    · simp only [o,if_false] at c;rw [Z2] at c;by_cases s : n = m
      · subst s;simp [q] at c;subst c;simp [live] at r
      · simp only [s,if_false] at c;rw [Yb _ _ (v.blk m a c).1] at l;exact .inl ⟨m,a,u,c,r,l⟩
end
section
variable {w : World} {Z : Nat→Prop} {inj : Inj} {st : AS} {a : Act} {Ds : List Nat}
theorem qpz {a cap b : Nat} (d : cap < a) (c : a * (b * 4)≤room) : Builtin.nextslicecap a cap * b≤281474976710656:=by
  have f:=Nat.mul_le_mul_right b (Room.nextslicecap_le' d);have g : 2 * a * b≤a * (b * 4):=by rw [Nat.mul_comm b 4,← Nat.mul_assoc];exact Nat.mul_le_mul_right b q0
  unfold room at c;omega
theorem qra {a b : Nat} (hb : b≠0) (c : a * (b * 4)≤room) : a≤4294967296:=by
  have : a * 1≤a * (b * 4):=Nat.mul_le_mul_left _ q0;unfold room at c;omega
theorem qch {t u ty : TypeId} {i : TI} {e e' : TypeId} {s : TypeInfo} {n : Value} (_h : RelS w Z inj st a Ds) (hu : P.underlying t = some (.slice e)) (ab : P.underlying u = some (.slice e')) (g1 : P.info? e = some s) (g3 : s.zero = some n)
    (g6 : s.size = i.esize) (g7 : i.esize≠0) (g8 : s.bytes = i.ebytes) (g9 : i.ebytes≠0) (gz : n.cells.size = i.esize) {hp1 : List (Nat × Blk)} (hh : RelH w Z inj hp1 st.nx) (z : Ext w Z inj st.hp w Z inj hp1 st.nx)
    {base ad : Option Addr} {cap cap' : Nat} {olds ys : List (List V)} {L0 l : List Value} (y : L0.length = olds.length * i.esize) (r : ERel w Z inj st.nx i.esize olds L0.toArray) (aa : Jm w base L0 olds)
    (o : l.length = ys.length * i.esize) (m : ERel w Z inj st.nx i.esize ys l.toArray) (ag : Jm w ad l ys) (hg : cap < olds.length + ys.length) (c : (olds.length + ys.length) * (i.ebytes * 4)≤room)
    {b1 : Blk} (af : rowsOf b1 = some (i.esize,olds ++ ys)) :
    ∃ x w' inj',(Builtin.append_ #[t,u] ty #[.slice base olds.length cap,.slice ad ys.length cap']).run P w = .ok x w'∧RelV w' Z inj' (st.nx + 1) (.hs st.nx i.esize 0 (olds.length + ys.length)) x∧RelH w' Z inj' ((st.nx,b1)::hp1) (st.nx + 1)∧
      Ext w Z inj st.hp w' Z inj' ((st.nx,b1)::hp1) st.nx:=by
  have k:=q9j (P:=P) (tx:=t) (cap:=cap) g7 hu rfl y r aa;have g:=q9j (P:=P) (tx:=u) (cap:=cap') g7 ab rfl o m ag;rw [← g6] at k g;have ao:=qra g9 c;have j:=qpz hg c;rw [← g8] at j;have f:=run_append_grow_src (P:=P) w t u ty e s n hu g1 g3 base olds.length cap L0 k.cellsD (.slice ad ys.length cap') ys.length l g hg q0 j;have q:=grownCap_ge w (olds.length + ys.length) cap e;generalize grownCap w (olds.length + ys.length) cap e = C at f q;generalize hA : (L0 ++ l).toArray ++ Builtin.zeroCells n.cells (C - (olds.length + ys.length)) = A at f;have d : RelH w.drew Z inj hp1 st.nx:=hh.same rfl;have p : ERel w Z inj st.nx i.esize (olds ++ ys) (L0.toArray ++ l.toArray):=r.append m
  have mono : ∀ v x,RelV w Z inj st.nx v x→RelV (w.drew.alloc (.cells A e)) Z (upd inj st.nx (some (w.heap.size,0))) (st.nx + 1) v x:=fun v x hv=>
    hv.mono (fun b hz=>Zv w.drew _ (hh.zs b hz)) (fun _ h=>h) (q2m w.drew _) (fun _ hm=>Yb _ _ hm) q0
  refine ⟨_,_,upd inj st.nx (some (w.heap.size,0)),f,?_,?_,?_⟩
  · refine .hs q0 q rfl fun _=>⟨w.heap.size,0,Ky _ _ _,qe,A,e,(0,0),Jp w.drew _,?_⟩
    have h1 : A.size = L0.length + l.length + (C - (olds.length + ys.length)) * i.esize:=by
      rw [← hA];simp [Builtin.zeroCells,gz]
    rw [h1,y,o,← Nat.add_mul,← Nat.add_mul];grind
  · refine d.new (.cells A e) b1 0 ?_;refine q58 af g7 p.2.1 (.inr ⟨w.heap.size,0,A,e,Ky _ _ _,Jp w.drew _,?_⟩);have h9:=(p.row (B:=Builtin.zeroCells n.cells (C - (olds.length + ys.length)))).mono mono;simp_all
  · refine z.trans ?_ (Nat.le_refl _);have e1 : Ext w Z inj hp1 w.drew Z inj hp1 st.nx:=Ext.same rfl rfl rfl rfl;exact e1.trans (Ext.new d (.cells A e) b1 0) (Nat.le_refl _)
theorem qn5 {t u ty : TypeId} {i : TI} {e e' : TypeId} {ie : TypeInfo} (h : RelS w Z inj st a Ds) (hu : P.underlying t = some (.slice e)) (av : P.underlying u = some (.slice e')) (g1 : P.info? e = some ie)
    (g6 : ie.size = i.esize) (g7 : i.esize≠0) {n off len cap cap' b o : Nat} {b0 b1 : Blk} {xs ys : List (List V)} (s : st.blk n = some b0) (aw : rowsOf b0 = some (i.esize,xs)) (br : off + len≤xs.length)
    (hi : inj n = some (b,o)) (ah : Big w b (o + (off + cap) * i.esize)) (_hlc : len≤cap)
    {ad : Option Addr} {g : List Value} (ag : g.length = ys.length * i.esize) (p : ERel w Z inj st.nx i.esize ys g.toArray) (ar : Jm w ad g ys) (hg : len + ys.length≤cap)
    (bc : rowsOf b1 = some (i.esize,(xs.drop off).take len ++ ys)) :
    ∃ x w' inj',(Builtin.append_ #[t,u] ty #[.slice (some ⟨b,o + off * i.esize,none⟩) len cap,.slice ad ys.length cap']).run P w = .ok x w'∧RelV w' Z inj' (st.nx + 1) (.hs st.nx i.esize 0 (len + ys.length)) x∧
      RelH w' Z inj' ((st.nx,b1)::repl st.hp n .dead) (st.nx + 1)∧Ext w Z inj st.hp w' Z inj' ((st.nx,b1)::repl st.hp n .dead) st.nx:=by
  have af:=q9j (P:=P) (tx:=u) (cap:=cap') g7 av rfl ag p ar;obtain ⟨q1,q2,q3⟩:=q59 (h.heap.blk n b0 s).2 aw;rcases q3 with ⟨_,q4⟩ | ⟨b',o',arr,aa,q3,q4,q5⟩
  · grind
  rw [hi] at q3;cases q3;have k : live b0 = true:=by cases b0 <;> simp_all [rowsOf,live]
  have an : o + (off + cap) * i.esize≤arr.size:=by
    obtain ⟨c,e2,f,k1,k2⟩:=ah;grind
  have au : g.length = ys.length * i.esize:=ag;have ak : (len + ys.length) * i.esize≤cap * i.esize:=Nat.mul_le_mul_right _ hg;rw [Nat.add_mul] at ak an;have m : o + off * i.esize + len * i.esize + g.length≤arr.size:=by omega
  have z:=run_storeCells_at P b (o + off * i.esize + len * i.esize) aa g 0 arr w q4 (by simpa using m) (p.one g7);simp only [Nat.add_zero] at z;have bd : (arr.toList.take (o + off * i.esize + len * i.esize) ++ g ++ arr.toList.drop (o + off * i.esize + len * i.esize + g.length)).toArray = (splice arr.toList (o + off * i.esize + len * i.esize) g).toArray:=rfl;rw [bd] at z
  have aj:=qa5 (P:=P) (w:=w) (ty:=ty) hu g1 (base:=some ⟨b,o + off * i.esize,none⟩) (sLen:=len) (sCap:=cap) (x:=.slice ad ys.length cap') (n:=ys.length) (news:=g) (by rw [g6];exact af) hg
    (w':=w.setRow b (splice arr.toList (o + off * i.esize + len * i.esize) g).toArray) (by show (storeCells ((⟨b,o + off * i.esize,none⟩ : Addr).add (len * ie.size)) g).run P w = _;rw [Jo,g6];exact z)
  have q : o + off * i.esize + len * i.esize + g.length≤arr.toList.length:=by simpa using m
  have r : (splice arr.toList (o + off * i.esize + len * i.esize) g).toArray.size = arr.size:=by simp [q1y _ _ _ q]
  have hz : ∀ b1,Z b1→(w.setRow b (splice arr.toList (o + off * i.esize + len * i.esize) g).toArray).heap[b1]? = w.heap[b1]?:=fun b1 ap=>
    setRow_other w b b1 _ (fun e=>h.heap.out n b0 _ s k hi (by rw [← e];exact ap))
  have ay:=q2n w b arr _ aa (0,0) q4 r
  have mono : ∀ v x,RelV w Z inj st.nx v x→RelV (w.setRow b (splice arr.toList (o + off * i.esize + len * i.esize) g).toArray) Z (upd inj st.nx (some (b,o + off * i.esize))) (st.nx + 1) v x:=fun v x hv=>
    hv.mono hz (fun _ h=>h) ay (fun _ hm=>Yb _ _ hm) q0
  have y : ((xs.drop off).take len).length = len:=by simp;omega
  refine ⟨_,_,upd inj st.nx (some (b,o + off * i.esize)),aj,?_,?_,Ext.move h.heap s k hi q4 r⟩
  · refine .hs q0 hg rfl fun _=>⟨b,o + off * i.esize,Ky _ _ _,qe,_,_,_,setRow_heap w b _ _ _ _ q4,?_⟩
    grind
  · refine h.heap.move s k hi q4 r (q58 bc g7 ?_ (.inr ⟨b,o + off * i.esize,_,aa,Ky _ _ _,setRow_heap w b _ _ _ _ q4,?_⟩))
    · intro j x l;rw [List.getElem?_append] at l;split at l
      · grind
      · exact p.2.1 _ _ l
    · intro j x j' d l hd;rw [List.getElem?_toArray,U1 _ _ _ _ q];rw [List.getElem?_append] at l;split at l
      · rename_i hj;rw [y] at hj;have ao:=qfc q2 j x l;have ac : j' < i.esize:=by have:=Ke hd;omega
        have hc:=q3d hj ac;rw [ql q0];rw [List.getElem?_take] at l;rw [qm hj,List.getElem?_drop] at l;obtain ⟨k1,c,k2,k3⟩:=q5 _ x j' d l hd;grind
      · rename_i hj;rw [y] at hj l;obtain ⟨k1,c,k2,k3⟩:=p.2.2 _ x j' d l hd;have az:=Ke l;have ao:=p.2.1 _ x l;have ac : j' < i.esize:=by have:=Ke hd;omega
        have hc:=q3d az ac;have he : j * i.esize = len * i.esize + (j - len) * i.esize:=by rw [← Nat.add_mul];congr 1;omega
        grind
theorem qs1 {t u ty : TypeId} {i j : TI} {sv xv v : V} {vs vx : Value} {st1 : AS} (h : RelS w Z inj st a Ds) (ht : tiOf P t = some i) (hu : tiOf P u = some j) (bl : i.kind = .slice) (bp : j.kind = .slice) (hf : Ju i.esize xv = true)
    (am : RelV w Z inj st.nx sv vs) (au : RelV w Z inj st.nx xv vx) (f : Yz st i sv xv = some (v,st1)) :
    ∃ x w' inj',(Builtin.append_ #[t,u] ty #[vs,vx]).run P w = .ok x w'∧RelV w' Z inj' st1.nx v x∧RelH w' Z inj' st1.hp st1.nx∧Ext w Z inj st.hp w' Z inj' st1.hp st.nx∧st1.sl = st.sl∧st.nx≤st1.nx:=by
  obtain ⟨bz,d,z,k⟩:=Yn ht;obtain ⟨bk,d',z',k'⟩:=Yn hu;have hk:=k.kind;have aq:=k'.kind;unfold Ze at hk aq;simp only [bl,bp] at hk aq;obtain ⟨e,ie,de,ze,rfl,g1,g2,g3,g4,g5,g6,g7,g8,g9,_⟩:=hk;obtain ⟨e',_,_,_,rfl,_⟩:=aq;have gz : ze.cells.size = i.esize:=by have:=(q7r g4).1;simp at this;omega
  have s : ∀ ys b1,Z9 st xv = some ys→vs = .slice none 0 0→rowsOf b1 = some (i.esize,ys)→ys.length * (i.ebytes * 4)≤room→ys.length≠0→
      ∃ x w' inj',(Builtin.append_ #[t,u] ty #[vs,vx]).run P w = .ok x w'∧RelV w' Z inj' (st.nx + 1) (.hs st.nx i.esize 0 ys.length) x∧RelH w' Z inj' ((st.nx,b1)::st.hp) (st.nx + 1)∧Ext w Z inj st.hp w' Z inj' ((st.nx,b1)::st.hp) st.nx:=by
    rintro ys b1 hc rfl hr c cg
    obtain ⟨ad,cap',L1,rfl,l,q,r⟩:=qad h au hc hf g7
    have:=qch (P:=P) (ty:=ty) h k.und k'.und g1 g3 g6 g7 g8 g9 gz h.heap Ext.refl (base:=none) (cap:=0) (olds:=[]) (L0:=[]) qe .nil (rfl : Jm w none [] []) (cap':=cap') l q r (by simp;omega) (by simpa using c) (b1:=b1) (by simpa using hr)
    simpa using this
  have ae : ∀ ys,Z9 st xv = some ys→vs = .slice none 0 0→ys.length = 0→(Builtin.append_ #[t,u] ty #[vs,vx]).run P w = .ok (.slice none 0 0) w:=by
    rintro ys hc rfl h0;obtain ⟨ad,cap',L1,rfl,l,q,r⟩:=qad h au hc hf g7;have ab:=q9j (P:=P) (tx:=u) (cap:=cap') g7 k'.und rfl l q r;have:=qa5 (P:=P) (w:=w) (ty:=ty) k.und g1 (base:=none) (sLen:=0) (sCap:=0) (by rw [g6];exact ab) q0 (w':=w) rfl;grind
  have p : ∀ n off len xs ys b0 b1,sv = .hs n i.esize off len→st.blk n = some b0→rowsOf b0 = some (i.esize,xs)→off + len≤xs.length→Z9 st xv = some ys→rowsOf b1 = some (i.esize,(xs.drop off).take len ++ ys)→
      (len + ys.length) * (i.ebytes * 4)≤room→
      ∃ x w' inj',(Builtin.append_ #[t,u] ty #[vs,vx]).run P w = .ok x w'∧RelV w' Z inj' (st.nx + 1) (.hs st.nx i.esize 0 (len + ys.length)) x∧RelH w' Z inj' ((st.nx,b1)::repl st.hp n .dead) (st.nx + 1)∧
        Ext w Z inj st.hp w' Z inj' ((st.nx,b1)::repl st.hp n .dead) st.nx:=by
    rintro n off len xs ys b0 b1 rfl az be bv hc ac c
    obtain ⟨ad,cap',L1,rfl,l,q,r⟩:=qad h au hc hf g7
    have ab:=q9j (P:=P) (tx:=u) (cap:=cap') g7 k'.und rfl l q r
    have ah : ((xs.drop off).take len).length = len:=by simp;omega
    obtain ⟨q1,q2,q3⟩:=q59 (h.heap.blk n b0 az).2 be
    have m : RelH w Z inj (repl st.hp n .dead) st.nx:=h.heap.drop
    have y : Ext w Z inj st.hp w Z inj (repl st.hp n .dead) st.nx:=Ext.drop
    have ph : len = 0→ys.length = 0→RelH w Z (upd inj st.nx none) ((st.nx,b1)::repl st.hp n .dead) (st.nx + 1)∧Ext w Z inj st.hp w Z (upd inj st.nx none) ((st.nx,b1)::repl st.hp n .dead) st.nx:=by
      intro h1 h2;have ao : (xs.drop off).take len ++ ys = []:=by subst h1;simp [List.eq_nil_of_length_eq_zero h2]
      refine ⟨m.newPh b1 (q58 ac g7 (by rw [ao];simp) (.inl ⟨ao,Ky _ _ _⟩)),y.trans (Ext.newPh m b1) (Nat.le_refl _)⟩
    cases am with
    | hsnil hm=>
      by_cases h0 : ys.length = 0
      · obtain ⟨p1,p2⟩:=ph rfl h0;have:=qa5 (P:=P) (w:=w) (ty:=ty) k.und g1 (base:=none) (sLen:=0) (sCap:=0) (by rw [g6];exact ab) q0 (w':=w) rfl;refine ⟨_,w,_,this,?_,p1,p2⟩;simp only [Nat.zero_add,h0];exact .hsnil q0
      · have:=qch (P:=P) (ty:=ty) h k.und k'.und g1 g3 g6 g7 g8 g9 gz m y (base:=none) (cap:=0) (olds:=[]) (L0:=[]) qe .nil (rfl : Jm w none [] []) (cap':=cap') l q r (by simp;omega) (by simpa using c) (b1:=b1) (by simpa using ac);simpa using this
    | @hs _ _ _ _ cap adr hm hcl hsp hcap=>
      by_cases hg : len + ys.length≤cap
      · by_cases bb : cap = 0
        · obtain ⟨p1,p2⟩:=ph q0 q0;have hL : L1 = []:=List.eq_nil_of_length_eq_zero (by rw [l,show ys.length = 0 by omega];simp);have:=qa5 (P:=P) (w:=w) (ty:=ty) k.und g1 (base:=some adr) (sLen:=len) (sCap:=cap) (by rw [g6];exact ab) hg (w':=w) (by subst hL;show (storeCells _ []).run P w = _;simp [storeCells]);exact ⟨_,w,_,this,.hs q0 hg hsp (fun h=>absurd bb h),p1,p2⟩
        · obtain ⟨b,o,hi,rfl,ap⟩:=hcap bb;exact qn5 (P:=P) (ty:=ty) h k.und k'.und g1 g6 g7 az be bv hi ap hcl (cap':=cap') l q r hg ac
      · have hold : ∃ L0 : List Value,L0.length = ((xs.drop off).take len).length * i.esize∧ERel w Z inj st.nx i.esize ((xs.drop off).take len) L0.toArray∧Jm w (some adr) L0 ((xs.drop off).take len):=by
          by_cases h0 : len = 0
          · subst h0;exact ⟨[],qe,by simpa using ERel.nil,fun k u hu=>by simp at hu⟩
          · obtain ⟨b,o,hi,rfl,ap⟩:=hcap q0;rcases q3 with ⟨_,q4⟩ | ⟨b',o',arr,cb,q3,q4,q5⟩
            · rw [hi] at q4;cases q4
            · rw [hi] at q3;cases q3;obtain ⟨L,l1,l2,l3⟩:=qew (w:=w) (Z:=Z) (inj:=inj) (nx:=st.nx) (b:=b) (o:=o + off * i.esize) (xs:=(xs.drop off).take len) g7 (qfc q2) (q5.cells q4);exact ⟨L,l1,l3,fun k u hu=>by rw [Jo];exact l2 k u hu⟩
        obtain ⟨L0,a1,a2,a3⟩:=hold;have:=qch (P:=P) (ty:=ty) h k.und k'.und g1 g3 g6 g7 g8 g9 gz m y (base:=some adr) (cap:=cap) a1 a2 a3 (cap':=cap') l q r (by rw [ah];omega) (by rw [ah];exact c) (b1:=b1) ac;rw [ah] at this;exact this
  cases sv <;> simp only [Yz,reduceCtorEq] at f
  case d x=>
    cases x <;> simp only [reduceCtorEq] at f
    cases am with | d am=>
    cases am
    cases af : Zg st xv with
    | some ys=>
      simp only [af] at f;split at f <;> try simp at f
      rename_i c;have g:=qd5 af;by_cases h0 : ys = []
      · rw [qm h0] at f;simp at f;obtain ⟨rfl,rfl⟩:=f;exact ⟨_,w,inj,ae _ g rfl (by simpa using h0),.d .nilsl,h.heap,.refl,rfl,Nat.le_refl _⟩
      · rw [ql h0] at f;simp at f;obtain ⟨rfl,rfl⟩:=f;have:=s _ (.dat i.esize ys) g rfl rfl (by simpa using c) (by simpa using h0);obtain ⟨x,w',inj',h1,h2,h3,h4⟩:=this;exact ⟨x,w',inj',h1,by simpa [AS.new] using h2,h3,h4,rfl,by simp [AS.new]⟩
    | none=>
      simp only [af] at f
      cases g : Z9 st xv with
      | none=>simp [g] at f
      | some ys=>
        simp only [g] at f;split at f <;> try simp at f
        rename_i c;by_cases h0 : ys = []
        · rw [qm h0] at f;simp at f;obtain ⟨rfl,rfl⟩:=f;exact ⟨_,w,inj,ae _ g rfl (by simpa using h0),.d .nilsl,h.heap,.refl,rfl,Nat.le_refl _⟩
        · rw [ql h0] at f;simp at f;obtain ⟨rfl,rfl⟩:=f;obtain ⟨x,w',inj',h1,h2,h3,h4⟩:=s _ (.cel i.esize ys) g rfl rfl c (by simpa using h0);exact ⟨x,w',inj',h1,by simpa [AS.new] using h2,h3,h4,rfl,by simp [AS.new]⟩
  case hs n es off len=>
    split at f
    · rename_i k0 xs ys hb af;split at f <;> simp at f
      rename_i ar;obtain ⟨c1,rfl,c3,rfl⟩:=ar;obtain ⟨rfl,rfl⟩:=f;have:=p n off len (xs.map (·.map .d)) (ys.map (·.map .d)) _ (.dat i.esize ((xs.drop off).take len ++ ys)) rfl hb rfl (by simpa using c1) (qd5 af) (by simp [rowsOf,List.map_take,List.map_drop]) (by simpa using c3);obtain ⟨x,w',inj',h1,h2,h3,h4⟩:=this;exact ⟨x,w',inj',h1,by simpa [AS.new,AS.setBlk] using h2,h3,h4,rfl,by simp [AS.new,AS.setBlk]⟩
    · rename_i k0 xs hb af;split at f <;> try simp at f
      rename_i ys g;obtain ⟨⟨c1,rfl,c3,rfl⟩,rfl,rfl⟩:=f;have:=p n off len (xs.map (·.map .d)) ys _ (.cel i.esize ((((xs.map (·.map V.d)).drop off).take len) ++ ys)) rfl hb rfl (by simpa using c1) g rfl c3;obtain ⟨x,w',inj',h1,h2,h3,h4⟩:=this;exact ⟨x,w',inj',h1,by simpa [AS.new,AS.setBlk] using h2,h3,h4,rfl,by simp [AS.new,AS.setBlk]⟩
    · rename_i k0 xs hb;split at f <;> try simp at f
      rename_i ys g;obtain ⟨⟨c1,rfl,c3,rfl⟩,rfl,rfl⟩:=f;have:=p n off len xs ys _ (.cel i.esize ((xs.drop off).take len ++ ys)) rfl hb rfl c1 g rfl c3;obtain ⟨x,w',inj',h1,h2,h3,h4⟩:=this;exact ⟨x,w',inj',h1,by simpa [AS.new,AS.setBlk] using h2,h3,h4,rfl,by simp [AS.new,AS.setBlk]⟩
    · simp at f
end
end Go.Am
namespace Go.Am
open Go
variable {P : Program} {T : Tab}
section
variable {w : World} {Z : Nat→Prop} {inj : Inj} {nx : Nat}
theorem RowV.spliceRows {arr : Array Value} {o es off : Nat} {xs ys : List (List V)} {L : List Value} (h : RowV w Z inj nx arr o es xs) (n : ∀ (i : Nat) (x : List V),xs[i]? = some x→x.length = es) (f : ERel w Z inj nx es ys L.toArray)
    (k : off + ys.length≤xs.length) (b : o + off * es + L.length≤arr.size) : RowV w Z inj nx (splice arr.toList (o + off * es) L).toArray o es (splice xs off ys):=by
  have t : L.length = ys.length * es:=by simpa using f.1
  intro i x j d a hd;rw [U1 _ _ _ _ k] at a;rw [List.getElem?_toArray,U1 _ _ _ _ (by simpa using b)];by_cases hi : off≤i∧i < off + ys.length
  · rw [qm hi] at a;obtain ⟨m,c,p,l⟩:=f.2.2 _ x j d a hd;have g : j < es:=by have:=Ke hd;have:=f.2.1 _ x a;omega
    have r:=q3d (Ke a) g;have u : i * es = off * es + (i - off) * es:=by rw [← Nat.add_mul];congr 1;omega
    grind
  · rw [ql hi] at a;obtain ⟨m,c,p,l⟩:=h i x j d a hd;have g : j < es:=by have:=Ke hd;have:=n _ x a;omega
    refine ⟨m,c,?_,l⟩;rw [ql ?_]
    · grind
    · intro r;by_cases q : i < off
      · have:=q3d q g;omega
      · have s : (off + ys.length) * es≤i * es:=Nat.mul_le_mul_right _ q0;grind
theorem ERel.take {es m : Nat} {xs : List (List V)} {L : List Value} (h : ERel w Z inj nx es xs L.toArray) (b : m≤xs.length) : ERel w Z inj nx es (xs.take m) (L.take (m * es)).toArray:=by
  obtain ⟨k,f,g⟩:=h;simp only [List.size_toArray] at k;have:=Nat.mul_le_mul_right es b;refine ⟨by simp;rw [Nat.min_eq_left b];omega,?_,?_⟩
  · grind
  · intro i x j d a hd;rw [List.getElem?_take] at a;split at a
    · rename_i hi;obtain ⟨l,c,o,n⟩:=g i x j d a hd;have p:=q3d hi (show j < es by have:=Ke hd;have:=f _ x a;omega);grind
    grind
end
section
variable {w : World} {Z : Nat→Prop} {inj : Inj} {st : AS} {a : Act} {Ds : List Nat}
theorem qs9 {t u ty : TypeId} {i j : TI} {sv xv v : V} {vs vx : Value} {st1 : AS} (h : RelS w Z inj st a Ds) (ht : tiOf P t = some i) (_hu : tiOf P u = some j) (bj : i.kind = .slice) (_hjk : j.kind = .slice) (bo : Ju i.esize sv = true) (hf : Ju i.esize xv = true)
    (ay : RelV w Z inj st.nx sv vs) (bk : RelV w Z inj st.nx xv vx) (ha : copyV st sv xv = some (v,st1)) :
    ∃ x w' inj',(Builtin.copy_ #[t,u] ty #[vs,vx]).run P w = .ok x w'∧RelV w' Z inj' st1.nx v x∧RelH w' Z inj' st1.hp st1.nx∧Ext w Z inj st.hp w' Z inj' st1.hp st.nx∧st1.sl = st.sl∧st.nx≤st1.nx:=by
  obtain ⟨ca,d,z,k⟩:=Yn ht;have hk:=k.kind;unfold Ze at hk;simp only [bj] at hk;obtain ⟨e,ie,de,ze,rfl,g1,g2,g3,g4,g5,g6,g7,g8,g9,_⟩:=hk;cases sv <;> simp only [copyV,reduceCtorEq] at ha
  rename_i n es off len;have bs:=Nat.eq_of_beq_eq_true bo;subst bs;split at ha <;> try simp at ha
  rename_i k0 xs ys hb bi;obtain ⟨⟨cr,rfl⟩,rfl,rfl⟩:=ha;obtain ⟨ad,cap',L1,rfl,an,bg,ax⟩:=qad h bk (qd5 bi) hf g7;rw [List.length_map] at an ⊢
  let m:=min ys.length len
  have hm : m = min ys.length len:=rfl;rw [← hm];obtain ⟨q1,q2,q3⟩:=q59 (h.heap.blk n _ hb).2 rfl;have cd : (xs.map (·.map V.d)).length = xs.length:=by simp
  have ce : m * i.esize≤ys.length * i.esize:=Nat.mul_le_mul_right _ q0
  have ag : (Builtin.firstCells i.esize m (.slice ad ys.length cap')).run P w = .ok (L1.take (m * i.esize)).toArray w:=by
    cases ad with
    | none=>
      have au : ys.map (·.map V.d) = []:=ax;have : ys = []:=by simpa using au
      subst this;simp at an;subst an;simp [Builtin.firstCells]
    | some p=>
      have:=run_loadCells_list (P:=P) w p (L1.take (m * i.esize)) (fun k u hu=>by
        rw [List.getElem?_take] at hu;split at hu
        · exact ax k u hu
        · simp at hu)
      rw [List.length_take,Nat.min_eq_left q0] at this;simpa [Builtin.firstCells] using this
  have s : ∀ base y aj,y = len→vs = .slice base y aj→∀ w',(match base with | some p=>(storeCells p (L1.take (m * i.esize))).run P w = .ok () w' | none=>w' = w)→
      (Builtin.copy_ #[t,u] ty #[vs,.slice ad ys.length cap']).run P w = .ok (.int .i64 m) w':=by
    rintro base y aj rfl rfl w' aa
    have ao:=ag
    rw [← g6] at ao
    have ah : Nat.min ys.length y = m:=rfl
    cases base with
    | none=>
      subst aa;simp [Builtin.copy_,run_underlying k.und,Builtin.lenOf,Zd g1,goInt,ah,ao]
    | some p=>
      have ai : (storeCells p (L1.take (m * i.esize))).run P w = .ok () w':=aa;rw [← g6] at ai;simp [Builtin.copy_,run_underlying k.und,Builtin.lenOf,Zd g1,ai,goInt,ah,ao]
  have l : live (.dat i.esize xs) = true:=rfl
  have same : m = 0→RelH w Z inj (repl st.hp n (.dat i.esize (splice xs off (ys.take m)))) st.nx∧Ext w Z inj st.hp w Z inj (repl st.hp n (.dat i.esize (splice xs off (ys.take m)))) st.nx:=by
    intro h0;have ap : splice xs off (ys.take m) = xs:=by rw [h0];simp [splice]
    rw [ap]
    have g : ∀ q,find (repl st.hp n (.dat i.esize xs)) q = find st.hp q:=by
      intro q;rw [Z2];by_cases hq : n = q
      · subst hq;have : find st.hp n = some (.dat i.esize xs):=hb;simp [this]
      · simp [hq]
    constructor
    · exact ⟨fun q b hq=>h.heap.blk q b (by rw [g] at hq;exact hq),fun q r b c p' q' h1 h2=>h.heap.sep q r b c p' q' (by rw [g] at h1;exact h1) (by rw [g] at h2;exact h2),fun q b p' h1=>h.heap.out q b p' (by rw [g] at h1;exact h1),h.heap.zs,h.heap.zc⟩
    · exact {Ext.refl (w:=w) (Z:=Z) (inj:=inj) (hp:=st.hp) (pin:=st.nx) with imm:=fun b hb=>by obtain ⟨q,blk,o,h1,h2,h3⟩:=hb;rw [g] at h1;exact .inl ⟨q,blk,o,h1,h2,h3⟩}
  have af : ∀ w' inj' nx',RelV w' Z inj' nx' (.d (.int .i64 ((min ys.length len : Nat) : Int))) (.int .i64 (m : Nat)):=fun _ _ _=>.d (.int _ _);by_cases h0 : m = 0
  · obtain ⟨s1,s2⟩:=same h0
    cases ay with
    | hsnil=>exact ⟨_,w,inj,s none _ _ rfl rfl w rfl,af _ _ _,s1,s2,rfl,Nat.le_refl _⟩
    | @hs _ _ _ _ cap adr hn' hlc _ hcap=>exact ⟨_,w,inj,s (some adr) _ _ rfl rfl w (by show (storeCells _ _).run P w = _;rw [h0];simp [storeCells]),af _ _ _,s1,s2,rfl,Nat.le_refl _⟩
  · cases ay with
    | hsnil=>omega
    | @hs _ _ _ _ cap adr hn' hlc _ hcap=>
      obtain ⟨b,o,hi,rfl,aw⟩:=hcap q0;rcases q3 with ⟨_,q4⟩ | ⟨b',o',arr,am,q3,q4,q5⟩
      · grind
      rw [hi] at q3;cases q3;have hL : (L1.take (m * i.esize)).length = m * i.esize:=by rw [List.length_take,Nat.min_eq_left q0]
      have ac:=bg.take (m:=m) (by simp;omega)
      have bh : o + (off + cap) * i.esize≤arr.size:=by
        obtain ⟨c,e2,f,k1,k2⟩:=aw;grind
      have cm : m * i.esize≤cap * i.esize:=Nat.mul_le_mul_right _ q0;rw [Nat.add_mul] at bh;have aa:=run_storeCells_at P b (o + off * i.esize) am (L1.take (m * i.esize)) 0 arr w q4 (by rw [hL];omega) (ac.one g7);simp only [Nat.add_zero] at aa;have ap : (arr.toList.take (o + off * i.esize) ++ L1.take (m * i.esize) ++ arr.toList.drop (o + off * i.esize + (L1.take (m * i.esize)).length)).toArray = (splice arr.toList (o + off * i.esize) (L1.take (m * i.esize))).toArray:=rfl;rw [ap] at aa;have al : o + off * i.esize + (L1.take (m * i.esize)).length≤arr.toList.length:=by rw [hL];simp;omega
      have ae : (splice arr.toList (o + off * i.esize) (L1.take (m * i.esize))).toArray.size = arr.size:=by simp only [List.size_toArray];rw [q1y _ _ _ al];simp
      have hz : ∀ b1,Z b1→(w.setRow b (splice arr.toList (o + off * i.esize) (L1.take (m * i.esize))).toArray).heap[b1]? = w.heap[b1]?:=fun b1 bm=>
        setRow_other w b b1 _ (fun e=>h.heap.out n _ _ hb l hi (by rw [← e];exact bm))
      have bt:=q2n w b arr _ am (0,0) q4 ae;have cf : (ys.take m).length = m:=by rw [List.length_take,Nat.min_eq_left q0]
      refine ⟨_,_,inj,s (some ⟨b,o + off * i.esize,none⟩) _ _ rfl rfl _ aa,af _ _ _,?_,Ext.set h.heap hb l hi q4 ae,rfl,Nat.le_refl _⟩;refine h.heap.set hb l hi q4 ae (q58 (es:=i.esize) (xs:=splice (xs.map (·.map V.d)) off ((ys.map (·.map V.d)).take m)) ?_ g7 ?_ (.inr ⟨b,o,_,am,hi,setRow_heap w b _ _ _ _ q4,?_⟩))
      · simp only [rowsOf,splice,List.map_append,List.map_take,List.map_drop,Option.some.injEq,Prod.mk.injEq,true_and];simp
      · intro i' x' aq;rw [U1 _ _ _ _ (by simp;omega)] at aq;split at aq
        · exact ac.2.1 _ _ aq
        grind
      · refine (q5.spliceRows q2 ac (by simp;omega) (by rw [hL];omega)).mono fun v x hr=>hr.mono hz (fun _ h=>h) bt (fun _ _=>rfl) (Nat.le_refl _)
theorem qs7 {t ty : TypeId} {i : TI} {sv v : V} {vs : Value} {st1 : AS} (h : RelS w Z inj st a Ds) (ht : tiOf P t = some i) (bb : i.kind = .slice) (bd : Ju i.esize sv = true) (u : RelV w Z inj st.nx sv vs) (ha : Js st i sv = some (v,st1)) :
    ∃ x w' inj',(Builtin.clear_ #[t] ty #[vs]).run P w = .ok x w'∧RelV w' Z inj' st1.nx v x∧RelH w' Z inj' st1.hp st1.nx∧Ext w Z inj st.hp w' Z inj' st1.hp st.nx∧st1.sl = st.sl∧st.nx≤st1.nx:=by
  obtain ⟨bi,d,z,k⟩:=Yn ht;have hk:=k.kind;unfold Ze at hk;simp only [bb] at hk;obtain ⟨e,ie,de,ze,rfl,g1,g2,g3,g4,g5,g6,g7,g8,g9,_⟩:=hk;have aa : ∀ w' inj' nx',RelV w' Z inj' nx' (.d (.tup [])) (.tuple #[]):=fun _ _ _=>.d (.tup qe qe);cases sv <;> simp only [Js,reduceCtorEq] at ha
  case d x=>
    cases x <;> simp only [reduceCtorEq,Option.some.injEq,Prod.mk.injEq] at ha
    obtain ⟨rfl,rfl⟩:=ha
    cases u with | d u=>
    cases u;exact ⟨_,w,inj,by simp [Builtin.clear_,run_underlying k.und],aa _ _ _,h.heap,.refl,rfl,Nat.le_refl _⟩
  case hs n es off len=>
  have ax:=Nat.eq_of_beq_eq_true bd;subst ax;split at ha <;> try simp at ha
  rename_i k0 xs hb;obtain ⟨⟨cb,rfl⟩,rfl,rfl⟩:=ha;obtain ⟨q1,q2,q3⟩:=q59 (h.heap.blk n _ hb).2 rfl;have m : live (.dat i.esize xs) = true:=rfl;by_cases h0 : len = 0
  · subst h0;have ah : splice xs off (List.replicate 0 i.ezero) = xs:=by simp [splice]
    have g : ∀ q,find (repl st.hp n (.dat i.esize (splice xs off (List.replicate 0 i.ezero)))) q = find st.hp q:=by
      intro q;rw [ah,Z2];by_cases hq : n = q
      · subst hq;have : find st.hp n = some (.dat i.esize xs):=hb;simp [this]
      · simp [hq]
    have s1 : RelH w Z inj (repl st.hp n (.dat i.esize (splice xs off (List.replicate 0 i.ezero)))) st.nx:=
      ⟨fun q b hq=>h.heap.blk q b (by rw [g] at hq;exact hq),fun q r b c p' q' h1 h2=>h.heap.sep q r b c p' q' (by rw [g] at h1;exact h1) (by rw [g] at h2;exact h2),fun q b p' h1=>h.heap.out q b p' (by rw [g] at h1;exact h1),h.heap.zs,h.heap.zc⟩
    have s2 : Ext w Z inj st.hp w Z inj (repl st.hp n (.dat i.esize (splice xs off (List.replicate 0 i.ezero)))) st.nx:=
      {Ext.refl (w:=w) (Z:=Z) (inj:=inj) (hp:=st.hp) (pin:=st.nx) with imm:=fun b hb=>by obtain ⟨q,blk,o,h1,h2,h3⟩:=hb;rw [g] at h1;exact .inl ⟨q,blk,o,h1,h2,h3⟩}
    cases u with
    | hsnil=>exact ⟨_,w,inj,by simp [Builtin.clear_,run_underlying k.und],aa _ _ _,s1,s2,rfl,Nat.le_refl _⟩
    | @hs _ _ _ _ cap adr hn' hlc _ hcap=>exact ⟨_,w,inj,by simp [Builtin.clear_,run_underlying k.und],aa _ _ _,s1,s2,rfl,Nat.le_refl _⟩
  · cases u with
    | hsnil=>omega
    | @hs _ _ _ _ cap adr hn' hlc _ hcap=>
      obtain ⟨b,o,hi,rfl,ao⟩:=hcap q0;rcases q3 with ⟨_,q4⟩ | ⟨b',o',arr,ai,q3,q4,q5⟩
      · grind
      rw [hi] at q3;cases q3;obtain ⟨p,ag⟩ : ∃ p,p = (Builtin.zeroCells ze.cells len).toList:=⟨_,rfl⟩
      have aw : ze.cells.size = i.esize:=by
        have:=(q7b (w:=w) (Z:=Z) g4).1;omega
      have hL : p.length = len * i.esize:=by rw [ag];simp [Builtin.zeroCells,aw]
      have ac : ERel w Z inj st.nx i.esize ((List.replicate len i.ezero).map (·.map V.d)) p.toArray:=by
        refine ⟨by simp [hL],fun q x hx=>?_,fun q x j d hx hd=>?_⟩
        · grind
        · rw [List.getElem?_map,List.getElem?_replicate] at hx;split at hx <;> simp at hx
          rename_i hq;subst hx;rw [List.getElem?_map] at hd
          cases ad : i.ezero[j]? with
          | none=>rw [ad] at hd;cases hd
          | some d'=>
            rw [ad] at hd;cases hd;obtain ⟨c,hc,hr,aj⟩:=qfq (w:=w) (Z:=Z) g4 g5 hq ad;refine ⟨aj,c,?_,.d hr⟩;rw [ag,Array.toArray_toList];unfold Builtin.zeroCells;grind
      have ba : o + (off + cap) * i.esize≤arr.size:=by
        obtain ⟨c,e2,f,k1,k2⟩:=ao;grind
      have bw : len * i.esize≤cap * i.esize:=Nat.mul_le_mul_right _ q0;rw [Nat.add_mul] at ba;have y:=run_storeCells_at P b (o + off * i.esize) ai p 0 arr w q4 (by rw [hL];omega) (ac.one g7);simp only [Nat.add_zero] at y;have ah : (arr.toList.take (o + off * i.esize) ++ p ++ arr.toList.drop (o + off * i.esize + p.length)).toArray = (splice arr.toList (o + off * i.esize) p).toArray:=rfl;rw [ah] at y;have ae : o + off * i.esize + p.length≤arr.toList.length:=by rw [hL];simp;omega
      have s : (splice arr.toList (o + off * i.esize) p).toArray.size = arr.size:=by simp only [List.size_toArray];rw [q1y _ _ _ ae];simp
      have hz : ∀ b1,Z b1→(w.setRow b (splice arr.toList (o + off * i.esize) p).toArray).heap[b1]? = w.heap[b1]?:=fun b1 bc=>
        setRow_other w b b1 _ (fun e=>h.heap.out n _ _ hb m hi (by rw [← e];exact bc))
      have ay:=q2n w b arr _ ai (0,0) q4 s
      have an : (Builtin.clear_ #[t] ty #[.slice (some ⟨b,o + off * i.esize,none⟩) len cap]).run P w = .ok (.tuple #[]) (w.setRow b (splice arr.toList (o + off * i.esize) p).toArray):=by
        obtain ⟨l,rfl⟩ : ∃ l,len = l + 1:=⟨len - 1,q0⟩
        have az : (zeroValue e).run P w = .ok ze w:=by simp [zeroValue,typeInfo,g1,g3]
        rw [ag] at y ⊢;simp [Builtin.clear_,run_underlying k.und,az,y]
      refine ⟨_,_,inj,an,aa _ _ _,?_,Ext.set h.heap hb m hi q4 s,rfl,Nat.le_refl _⟩;refine h.heap.set hb m hi q4 s (q58 (es:=i.esize) (xs:=splice (xs.map (·.map V.d)) off ((List.replicate len i.ezero).map (·.map V.d))) ?_ g7 ?_ (.inr ⟨b,o,_,ai,hi,setRow_heap w b _ _ _ _ q4,?_⟩))
      · simp only [rowsOf,splice,List.map_append,List.map_take,List.map_drop,Option.some.injEq,Prod.mk.injEq,true_and];simp
      · intro i' x' bh;rw [U1 _ _ _ _ (by simp;omega)] at bh;grind
      · refine (q5.spliceRows q2 ac (by simp;omega) (by rw [hL];omega)).mono fun v x hr=>hr.mono hz (fun _ h=>h) ay (fun _ _=>rfl) (Nat.le_refl _)
end
end Go.Am
namespace Go.Am
open Go
variable {P : Program} {T : Tab}
def J6 (P : Program) (em : Bool) (k : Nat) (t : TypeId) (desc : TypeDesc) (n : Nat) : Prop:=
  ∀ w,(Kc desc = true→∀ X : Array Value,X.size = n→(Instr.checkKey em k t (.agg X)).run P w = .ok () w)∧(Kc desc = false→n = 1∧∀ x,(Instr.checkKey em k t x).run P w = .ok () w)
theorem qgn {f : Bool} {k : Nat} {t : TypeId} {desc : TypeDesc} {b : TypeInfo} {n : Nat} (h : J6 P f k t desc n) (d : P.underlying t = some desc) (hi : P.info? t = some b) (hs : b.size = n) {X : Array Value} {o : Nat} (l : o + n≤X.size) (w : World) :
    ∃ v,(part t X o).run P w = .ok v w∧(Instr.checkKey f k t v).run P w = .ok () w:=by
  obtain ⟨g,c⟩:=h w
  cases a : Kc desc with
  | true=>exact ⟨.agg (X.extract o (o + n)),by simp [part,q2l d,a,Zd hi,hs],g a _ (by simp;omega)⟩
  | false=>
    obtain ⟨m,c⟩:=c a;obtain ⟨x,j⟩:=Ya (xs:=X) (i:=o) q0;exact ⟨x,by simp [part,q2l d,a,j],c x⟩
def qcz (em : Bool) (k : Nat) (X : Array Value) (f : Field) (_s : PUnit) : Sem (ForInStep PUnit):=
  if f.name ≠ "_" then do
    let __do_lift ← part f.type X f.offset
    Instr.checkKey em k f.type __do_lift
    pure (ForInStep.yield PUnit.unit)
  else pure (ForInStep.yield PUnit.unit)
theorem qml {d : Nat} {t : TypeId} {ks : List (Option IntKind)} (h : Ki P d t = some ks) : ∃ a,P.underlying t = some a:=by
  cases b : P.underlying t with
  | none=>cases d <;> simp [Ki,b] at h
  | some a=>exact ⟨a,rfl⟩
theorem qgl (h : Bool) (d k : Nat) (n : ∀ t desc ks,P.underlying t = some desc→Ki P d t = some ks→J6 P h k t desc ks.length) (X : Array Value) (w : World) : ∀ (l : List Field) (o : Nat) (ks : List (Option IntKind)),
    tile P (Ki P d) o l = some ks→o + ks.length≤X.size→(forIn l PUnit.unit (qcz h k X) : Sem PUnit).run P w = .ok PUnit.unit w
  | [],_,_,_,_=>by simp
  | f::l,o,ks,ht,hl=>by
    simp only [tile] at ht
    cases a : Ki P d f.type with
    | none=>simp [a] at ht
    | some ka=>
      simp only [a] at ht
      split at ht <;> try simp at ht
      rename_i g
      obtain ⟨rfl,s,q⟩:=g
      cases b : tile P (Ki P d) (f.offset + ka.length) l with
      | none=>simp [b] at ht
      | some kb=>
        simp only [b,Option.some.injEq] at ht;subst ht
        simp only [List.length_append] at hl
        obtain ⟨r,c⟩:=qml a
        obtain ⟨x,j,m⟩:=qc2 c
        obtain ⟨v,u,p⟩:=qgn (n f.type r ka c a) c j q0 (X:=X) (o:=f.offset) q0 w
        have:=qgl h d k n X w l (f.offset + ka.length) kb b q0
        rw [List.forIn_cons]
        simp only [qcz,qm s,Sem.run_bind,u,p,Result.andThen_ok]
        simpa using this
def qd0 (em : Bool) (k : Nat) (e : TypeId) (X : Array Value) (i : Nat) (_s : PUnit) : Sem (ForInStep PUnit):=do
  let __do_lift ← sizeOf e
  let __do_lift ← part e X (i * __do_lift)
  Instr.checkKey em k e __do_lift
  pure (ForInStep.yield PUnit.unit)
theorem qgm {d : Bool} {k : Nat} {e : TypeId} {desc : TypeDesc} {a : TypeInfo} {n : Nat} (b : J6 P d k e desc n) (c : P.underlying e = some desc) (hi : P.info? e = some a) (hs : a.size = n) {X : Array Value} (w : World) :
    ∀ (m s : Nat),(s + m) * n≤X.size→(forIn (List.range' s m) PUnit.unit (qd0 d k e X) : Sem PUnit).run P w = .ok PUnit.unit w
  | 0,s,_=>by simp
  | m + 1,s,hl=>by
    have h : s * n + n = (s + 1) * n:=by rw [Nat.add_mul];simp
    have j : (s + (m + 1)) * n = (s + 1) * n + m * n:=by rw [← Nat.add_mul];congr 1;omega
    obtain ⟨v,g,f⟩:=qgn b c hi hs (X:=X) (o:=s * n) q0 w
    have:=qgm b c hi hs w m (s + 1) (X:=X) (by rw [Nat.add_mul (s + 1)];omega)
    rw [List.range'_succ,List.forIn_cons]
    simp only [qd0,Sem.run_bind,Zd hi,hs,g,f,Result.andThen_ok]
    simpa using this
theorem qd2 (f : Bool) : ∀ (d : Nat) (t : TypeId) (desc : TypeDesc) (ks : List (Option IntKind)),P.underlying t = some desc→Ki P d t = some ks→∀ k,d≤k→J6 P f k t desc ks.length
  | 0,t,desc,ks,hu,hp,k,hk=>by simp [Ki] at hp
  | d + 1,t,desc,ks,hu,hp,k,hk=>by
    obtain ⟨k,rfl⟩ : ∃ l,k = l + 1:=⟨k - 1,q0⟩
    intro w
    simp only [Ki,hu] at hp
    cases desc <;> simp only [reduceCtorEq,Option.some.injEq] at hp
    case bool=>subst hp;exact ⟨by simp [Kc],fun _=>⟨rfl,fun x=>by unfold Instr.checkKey;simp [run_underlying hu]⟩⟩
    case int k0=>subst hp;exact ⟨by simp [Kc],fun _=>⟨rfl,fun x=>by unfold Instr.checkKey;simp [run_underlying hu]⟩⟩
    case struct fs=>
      refine ⟨fun _ X o=>?_,by simp [Kc]⟩
      split at hp
      · simp at hp
      · have:=qgl (P:=P) f d k (fun t desc ks r m=>qd2 f d t desc ks r m k q0) X w fs.toList 0 ks hp q0
        rw [Array.forIn_toList] at this
        unfold qcz at this
        unfold Instr.checkKey
        simp only [Sem.run_bind,run_underlying hu,Result.andThen_ok]
        rw [this]
        simp
    case array n e=>
      refine ⟨fun _ X o=>?_,by simp [Kc]⟩
      cases b : Ki P d e with
      | none=>simp [b] at hp
      | some a=>
        simp only [b] at hp
        split at hp
        · rename_i q
          simp only [Option.some.injEq] at hp;subst hp
          obtain ⟨p,c⟩:=qml b
          obtain ⟨s,g,h⟩:=qc2 c
          have j : (List.replicate n a).flatten.length = n * a.length:=by simp
          have:=qgm (qd2 f d e p a c b k q0) c g q0 w n 0 (X:=X) (by rw [Nat.zero_add];omega)
          unfold Instr.checkKey
          simp only [Sem.run_bind,run_underlying hu,Result.andThen_ok,Std.Legacy.Range.forIn_eq_forIn_range',Std.Legacy.Range.size,Nat.sub_zero,Nat.add_sub_cancel,Nat.div_one]
          unfold qd0 at this
          rw [this]
          simp
        · simp at hp
section
variable {w w' : World} {Z : Nat→Prop} {inj : Inj}
theorem qaf {d : DV} {v : Value} (h : RelD w Z d v) : DRel w Z [d] #[v]:=⟨rfl,fun i x y a b=>by
  cases i with
  | zero=>simp at a b;subst a b;exact h
  | succ i=>simp at a⟩
theorem q7o {d : DV} {v : Value} (h : RelD w Z d v) (c : Zr d = true) : ∃ cs,v = .agg cs∧DRel w Z (cellsD d) cs:=by
  cases h <;> simp [Zr] at c
  rename_i ds cs b a;exact ⟨cs,rfl,b,a⟩
theorem q4p {d : DV} (a : Zr d = false) : cellsD d = [d]:=by cases d <;> simp_all [Zr,cellsD]
theorem qis {d : TypeId} {desc : TypeDesc} {ks : List (Option IntKind)} (k : P.underlying d = some desc) (hp : Ki P 8 d = some ks) {a b : DV} {u v : Value} (g : RelD w Z a u) (hb : RelD w Z b v)
    (h : Zr a = Kc desc) (j : Zr b = Kc desc) {r : Bool} (f : Kf ks (cellsD a) (cellsD b) = some r) : (Op.equal d u v).run P w = .ok r w:=by
  have key:=qai (P:=P) (w:=w) (Z:=Z) 8 d desc ks k hp Op.maxDepth (by unfold Op.maxDepth;omega)
  cases c : Kc desc with
  | true=>
    obtain ⟨X,rfl,l⟩:=q7o g (h.trans c);obtain ⟨Y,rfl,m⟩:=q7o hb (j.trans c);exact (key _ _ _ _ r l m f).1 c
  | false=>
    rw [q4p (h.trans c),q4p (j.trans c)] at f;exact ((key _ _ _ _ r (qaf g) (qaf hb) f).2 c).2 u v rfl rfl
theorem qey {h : TypeId} {desc : TypeDesc} {ks : List (Option IntKind)} (l : P.underlying h = some desc) (hp : Ki P 8 h = some ks) {a b : DV} {u v : Value} (j : RelD w Z a u) (hb : RelD w Z b v) (f : Kc desc = false)
    {r : Bool} (c : Kf ks [a] [b] = some r) : Instr.sameNow desc u v = some r:=by
  simp only [Ki,l] at hp;cases desc <;> simp only [reduceCtorEq,Option.some.injEq] at hp <;> try (simp [Kc] at f;done)
  case bool=>
    subst hp;simp only [Kf] at c;cases a <;> cases b <;> simp only [q27,reduceCtorEq] at c
    simp at c;subst c;cases j;cases hb;rfl
  case int k0=>
    subst hp;simp only [Kf] at c;cases a <;> cases b <;> simp only [q27,reduceCtorEq] at c
    split at c <;> simp at c
    rename_i g k;split at g <;> simp at g
    rename_i d;obtain ⟨rfl,rfl⟩:=d;subst g c;simp at k;subst k;cases j;cases hb;simp [Instr.sameNow]
def Ents (w : World) (Z : Nat→Prop) (es : List (DV × DV)) (ents : List MapEntry) : Prop:=
  ents.length = es.length∧∀ (i : Nat) (e : DV × DV) (x : MapEntry),es[i]? = some e→ents[i]? = some x→RelD w Z e.1 x.key∧RelD w Z e.2 x.val∧Yd e.2 = true
theorem Ents.tail {e : DV × DV} {es : List (DV × DV)} {x : MapEntry} {a : List MapEntry} (h : Ents w Z (e::es) (x::a)) : RelD w Z e.1 x.key∧Ents w Z es a:=
  ⟨(h.2 0 e x rfl rfl).1,by simpa using h.1,fun i f b d c=>h.2 (i + 1) f b (by simpa using d) (by simpa using c)⟩
theorem qdg {m : TypeId} {desc : TypeDesc} {ks : List (Option IntKind)} (g : P.underlying m = some desc) (hp : Ki P 8 m = some ks) {a : DV} {u : Value} (j : RelD w Z a u) (f : Kc desc = false) :
    ∀ (es : List (DV × DV)) (d : List MapEntry) (s : Nat) (r : Option Nat),Ents w Z es d→Zk false ks a es = some r→Instr.findNow desc u d s = some (r.bind fun i=>(d[i]?).map fun x=>(s + i,x.val))
  | [],[],s,r,_,hm=>by simp only [Zk,Option.some.injEq] at hm;subst hm;rfl
  | [],x::d,_,_,h,_=>by have:=h.1;simp at this
  | e::es,[],_,_,h,_=>by have:=h.1;simp at this
  | (b,c)::es,x::d,s,r,h,hm=>by
    obtain ⟨l,n⟩:=h.tail
    simp only [Zk] at hm
    split at hm <;> try simp at hm
    rename_i o
    rw [q4p o.1,q4p o.2] at hm
    split at hm <;> try simp at hm
    · rename_i k
      subst hm
      simp [Instr.findNow,qey g hp j l f k]
    · rename_i k
      split at hm <;> simp at hm
      · rename_i i hi
        subst hm
        have:=qdg g hp j f es d (s + 1) _ n hi
        simp only [Instr.findNow,qey g hp j l f k,this]
        simp [Nat.add_comm,Nat.add_left_comm]
      · rename_i hi
        subst hm
        have:=qdg g hp j f es d (s + 1) _ n hi
        simp only [Instr.findNow,qey g hp j l f k,this]
        rfl
theorem qdf {l : TypeId} {desc : TypeDesc} {ks : List (Option IntKind)} (g : P.underlying l = some desc) (hp : Ki P 8 l = some ks) {a : DV} {u : Value} (j : RelD w Z a u) (f : Kc desc = true) :
    ∀ (es : List (DV × DV)) (d : List MapEntry) (s : Nat) (r : Option Nat),Ents w Z es d→Zk true ks a es = some r→(Instr.findAsking l u d s).run P w = .ok (r.bind fun i=>(d[i]?).map fun x=>(s + i,x.val)) w
  | [],[],s,r,_,hm=>by simp only [Zk,Option.some.injEq] at hm;subst hm;simp [Instr.findAsking]
  | [],x::d,_,_,h,_=>by have:=h.1;simp at this
  | e::es,[],_,_,h,_=>by have:=h.1;simp at this
  | (b,c)::es,x::d,s,r,h,hm=>by
    obtain ⟨p,n⟩:=h.tail
    simp only [Zk] at hm
    split at hm <;> try simp at hm
    rename_i k
    split at hm <;> try simp at hm
    · rename_i m
      subst hm
      simp [Instr.findAsking,qis g hp j p (k.1.trans f.symm) (k.2.trans f.symm) m]
    · rename_i m
      have o:=qis g hp j p (k.1.trans f.symm) (k.2.trans f.symm) m
      split at hm <;> simp at hm
      · rename_i i hi
        subst hm
        have:=qdf g hp j f es d (s + 1) _ n hi
        simp only [Instr.findAsking,Sem.run_bind,o,Result.andThen_ok,Bool.false_eq_true,if_false,this]
        simp [Nat.add_comm,Nat.add_left_comm]
      · rename_i hi
        subst hm
        have:=qdf g hp j f es d (s + 1) _ n hi
        simp only [Instr.findAsking,Sem.run_bind,o,Result.andThen_ok,Bool.false_eq_true,if_false,this]
        rfl
theorem qpg {g : TypeId} {desc : TypeDesc} {ks : List (Option IntKind)} (d : P.underlying g = some desc) (hp : Ki P 8 g = some ks) {a : DV} {u : Value} (j : RelD w Z a u) (l : Zr a = Kc desc)
    {es : List (DV × DV)} {b : List MapEntry} {r : Option Nat} (h : Ents w Z es b) (f : Zk (Kc desc) ks a es = some r) : (Instr.findKey g u b).run P w = .ok (r.bind fun i=>(b[i]?).map fun x=>(i,x.val)) w:=by
  cases c : Kc desc with
  | false=>
    rw [c] at f;have:=qdg d hp j c es b 0 r h f;simp only [Nat.zero_add] at this;simp only [Instr.findKey,Sem.run_bind,run_underlying d,Result.andThen_ok,this];simp
  | true=>
    rw [c] at f;have:=qdf d hp j c es b 0 r h f;simp only [Nat.zero_add] at this
    cases b with
    | nil=>
      rw [← this];simp [Instr.findKey,run_underlying d,Instr.findNow,Instr.findAsking]
    | cons e es=>
      have k : Instr.findNow desc u (e::es) 0 = none:=by
        cases desc <;> simp [Kc] at c <;> simp [Instr.findNow,Instr.sameNow]
      simp only [Instr.findKey,Sem.run_bind,run_underlying d,Result.andThen_ok,k];exact this
theorem qcv : ∀ {ks : List (Option IntKind)} {xs ys : List DV} {X Y : List Value},Kf ks xs ys = some true→(X.length = xs.length)→(Y.length = ys.length)→
    (∀ (i : Nat) (d : DV) (c : Value),xs[i]? = some d→X[i]? = some c→RelD w Z d c)→(∀ (i : Nat) (d : DV) (c : Value),ys[i]? = some d→Y[i]? = some c→RelD w Z d c)→∀ n,X.length = Y.length∧(Y.zip X).all (fun (x,y)=>Instr.sameBits n x y) = true
  | [],[],[],[],[],_,_,_,_,_,n=>⟨rfl,rfl⟩
  | [],[],[],_::_,_,_,h,_,_,_,_=>by simp at h
  | [],[],[],[],_::_,_,_,h,_,_,_=>by simp at h
  | [],[],_::_,_,_,h,_,_,_,_,_=>by simp [Kf] at h
  | [],_::_,_,_,_,h,_,_,_,_,_=>by simp [Kf] at h
  | _::_,[],_,_,_,h,_,_,_,_,_=>by simp [Kf] at h
  | _::_,_::_,[],_,_,h,_,_,_,_,_=>by simp [Kf] at h
  | k::ks,a::xs,b::ys,[],_,_,h,_,_,_,_=>by simp at h
  | k::ks,a::xs,b::ys,_::_,[],_,_,h,_,_,_=>by simp at h
  | k::ks,a::xs,b::ys,x::X,y::Y,h,l1,l2,r1,r2,n=>by
    simp only [Kf] at h
    split at h <;> simp at h
    rename_i p q hp r
    obtain ⟨rfl,rfl⟩:=h
    obtain ⟨m,o⟩:=qcv r (by simpa using l1) (by simpa using l2) (fun i d c hd g=>r1 (i + 1) d c (by simpa using hd) (by simpa using g)) (fun i d c hd g=>r2 (i + 1) d c (by simpa using hd) (by simpa using g)) n
    have l:=r1 0 a x rfl rfl
    have j:=r2 0 b y rfl rfl
    refine ⟨by simp [m],?_⟩
    simp only [List.zip_cons_cons,List.all_cons,o,Bool.and_true]
    cases k with
    | none=>
      cases a <;> cases b <;> simp only [q27,reduceCtorEq] at hp
      simp at hp;subst hp
      cases l;cases j;cases n <;> simp [Instr.sameBits]
    | some k=>
      cases a <;> cases b <;> simp only [q27,reduceCtorEq] at hp
      split at hp <;> simp at hp
      rename_i f
      obtain ⟨rfl,rfl⟩:=f
      subst hp
      cases l;cases j;cases n <;> simp [Instr.sameBits]
theorem qqk {ks : List (Option IntKind)} {ag : Bool} {a b : DV} {u v : Value} (l : RelD w Z a u) (hb : RelD w Z b v) (m : Zr a = ag) (n : Zr b = ag) (j : Kf ks (cellsD a) (cellsD b) = some true) :
    (Instr.keyThatStays v u).run P w = .ok u w:=by
  have hs : Instr.sameBits 10000 v u = true:=by
    cases ag with
    | true=>
      obtain ⟨X,rfl,g,f⟩:=q7o l m;obtain ⟨Y,rfl,p,o⟩:=q7o hb n;obtain ⟨k,q⟩:=qcv (X:=X.toList) (Y:=Y.toList) j (by simpa using g.symm) (by simpa using p.symm) (fun i d c hd h=>f i d c hd (by simpa using h)) (fun i d c hd h=>o i d c hd (by simpa using h)) 9999;have r : (Y.size == X.size) = true:=by simp at k;simp [k]
      show (Y.size == X.size && (Y.toList.zip X.toList).all fun (x,y)=>Instr.sameBits 9999 x y) = true;grind
    | false=>
      rw [q4p m,q4p n] at j;have:=(qcv (X:=[u]) (Y:=[v]) j rfl rfl (fun i d c g f=>(qaf l).2 i d c g (by simpa using f)) (fun i d c g f=>(qaf hb).2 i d c g (by simpa using f)) 10000).2;simp_all
  simp [Instr.keyThatStays,hs]
end
theorem qi2 {w : World} {a : Addr} (h : ∀ c e f,w.heap[a.block]?≠some (.cells c e f)) : w.frozen? a = false:=by
  unfold World.frozen?;grind
theorem qdl {w : World} {b : Nat} {o : Obj} (h : ∀ c e f,w.heap[b]?≠some (.cells c e f)) (g : ∀ c e f,o≠.cells c e f) (a : Addr) : (w.putObj b o).frozen? a = w.frozen? a:=by
  by_cases hb : a.block = b
  · subst hb;rw [qi2 h,qi2];intro c e f;by_cases d : a.block < w.heap.size
    · rw [World.putObj_heap_same d];intro j;exact g _ _ _ (qc8 j)
    simp_all
  · simp only [World.frozen?,World.putObj_heap_other hb]
theorem q4m {w : World} {b : Nat} {es : Array MapEntry} {cl : Nat} (hb : w.heap[b]? = some (.map es cl)) : (getObj b).run P w = .ok (.map es cl) w:=by simp [getObj,Sem.run,hb]
theorem qbb {w : World} {b : Nat} {es : Array MapEntry} {cl : Nat} (o : Obj) (hb : w.heap[b]? = some (.map es cl)) : (setObj b o).run P w = .ok () (w.putObj b o):=by simp [setObj,Sem.run,hb,World.putObj]
section
variable {w : World} {Z : Nat→Prop} {inj : Inj} {hp : List (Nat × Blk)} {nx pin : Nat}
theorem qtp {n : Nat} {es : List (DV × DV)} (h : RelB w Z inj nx n (.mp es)) : ∃ b a cl,inj n = some (b,0)∧w.heap[b]? = some (.map a cl)∧Ents w Z es a.toList:=by
  obtain ⟨b,a,cl,j,d,c,f⟩:=h;exact ⟨b,a,cl,j,d,by simpa using c,fun i e x k g=>f i e x k (by simpa using g)⟩
theorem qkj (h : RelH w Z inj hp nx) {n : Nat} {es j : List (DV × DV)} (v : find hp n = some (.mp es)) {b : Nat} (hi : inj n = some (b,0)) {ac a : Array MapEntry} {cl cl' : Nat} (hb : w.heap[b]? = some (.map ac cl))
    (hE : Ents w Z j a.toList) : RelH (w.putObj b (.map a cl')) Z inj (repl hp n (.mp j)) nx∧Ext w Z inj hp (w.putObj b (.map a cl')) Z inj (repl hp n (.mp j)) pin:=by
  have g : ∀ k,k≠b→(w.putObj b (.map a cl')).heap[k]? = w.heap[k]?:=fun k l=>World.putObj_heap_other l
  have ai : ¬ Z b:=fun hz=>by
    obtain ⟨c,e,f,hc⟩:=h.zc b hz;grind
  have ae : Zu w (w.putObj b (.map a cl')):=fun k c e f l=>by grind
  have hz : ∀ k,Z k→(w.putObj b (.map a cl')).heap[k]? = w.heap[k]?:=fun k l=>g k (fun e=>ai (e ▸ l))
  have d : ∀ m c,find (repl hp n (.mp j)) m = some c→(m = n∧c = .mp j)∨(m≠n∧find hp m = some c):=by
    intro m c hm;rw [Z2] at hm;grind
  have ab : ∀ k,im (repl hp n (.mp j)) inj k→im hp inj k:=by
    rintro k ⟨m,c,o,h1,y,t⟩;rcases d m c h1 with ⟨rfl,rfl⟩ | ⟨_,s⟩
    · exact ⟨m,_,o,v,rfl,t⟩
    · exact ⟨m,c,o,s,y,t⟩
  have z : RelB (w.putObj b (.map a cl')) Z inj nx n (.mp j):=by
    refine ⟨b,a,cl',hi,World.putObj_heap_same (J5 hb),by simpa using hE.1,fun i e x he hx=>?_⟩;obtain ⟨g1,g2,g3⟩:=hE.2 i e x he (by simpa using hx);exact ⟨g1.mono hz (fun _ h=>h),g2.mono hz (fun _ h=>h),g3⟩
  refine ⟨⟨?_,?_,?_,?_,?_⟩,⟨qe,?_,fun k l=>.inl (ab k l),ae,?_,fun _ h=>h,fun _ h=>.inl h,fun _ _=>rfl,rfl,rfl,rfl,qdl (fun _ _ _=>by rw [hb];simp) (fun _ _ _=>qe)⟩⟩
  · intro m c hm;rcases d m c hm with ⟨rfl,rfl⟩ | ⟨r,s⟩
    · exact ⟨(h.blk _ _ v).1,z⟩
    · obtain ⟨u,h6⟩:=h.blk m c s;exact ⟨u,h6.mono hz (fun _ h=>h) ae (fun _ _=>rfl) (Nat.le_refl _) u fun p hp ah=>g _ fun e=>h.sep m n c _ p (b,0) s v ah rfl hp hi r e⟩
  · intro m m' c c' p q h1 y t s u h6 r;rcases d m c h1 with ⟨rfl,rfl⟩ | ⟨e1,k1⟩ <;> rcases d m' c' y with ⟨rfl,rfl⟩ | ⟨e2,k2⟩
    · omega
    · exact h.sep _ _ _ _ p q v k2 rfl s u h6 r
    · exact h.sep _ _ _ _ p q k1 v t rfl u h6 r
    · exact h.sep _ _ _ _ p q k1 k2 t s u h6 r
  · intro m c p h1 y t;rcases d m c h1 with ⟨rfl,rfl⟩ | ⟨e1,k1⟩
    · grind
    · exact h.out _ _ p k1 y t
  · intro k l;simpa using h.zs k l
  · intro k l;obtain ⟨c,e,f,hc⟩:=h.zc k l;grind
  · intro k _ l;exact g k fun e=>l ⟨n,_,0,v,rfl,e ▸ hi⟩
  · intro k x l;grind
end
section
variable {w : World} {Z : Nat→Prop} {inj : Inj} {st : AS} {a : Act} {Ds : List Nat}
theorem qsj {t : TypeId} (h : RelS w Z inj st a Ds) : Kk st (st.new (.mp [])) (.mp st.nx) w Z inj ((do pure (Next.value (← Instr.makeMap t none)) : Sem Next).run P w):=by
  refine .new (o:=.map #[] 0) (x:=.map (some w.heap.size)) h ?_ ?_ (.mp q0 (Ky _ _ _))
  · simp [Instr.makeMap]
  · exact ⟨w.heap.size,#[],0,Ky _ _ _,Jp w _,rfl,qe⟩
theorem q4s {t : TypeId} {i : TI} {ks : List (Option IntKind)} {n : Nat} {es : List (DV × DV)} {o : DV} {mv s : Value} {r : Option Nat} (h : RelS w Z inj st a Ds) (ht : tiOf P t = some i) (hk : i.keys = some ks) (hm : RelV w Z inj st.nx (.mp n) mv)
    (hb : st.blk n = some (.mp es)) (p : RelD w Z o s) (m : U9 i.eagg ks o = true) (hf : Zk i.eagg ks o es = some r) :
    ∃ j et b c cl,P.underlying t = some (.map j et)∧mv = .map (some b)∧inj n = some (b,0)∧w.heap[b]? = some (.map c cl)∧Ents w Z es c.toList∧(∀ y,(Instr.checkKey y 10000 j s).run P w = .ok () w)∧
      (Instr.findKey j s c.toList).run P w = .ok (r.bind fun i=>(c[i]?).map fun x=>(i,x.val)) w∧∃ u q,i.ezero = [u]∧(zeroValue et).run P w = .ok q w∧RelD w Z u q:=by
  obtain ⟨ai,d,z,k⟩:=Yn ht;have g:=k.kind;unfold Ze at g;rw [k.keys ks hk] at g;obtain ⟨j,e,ie,q,u,ao,dk,rfl,g1,g2,g3,g4,g5,g6,g7,g8,_⟩:=g;rw [hk] at g6;cases g6
  have f : Zr o = i.eagg∧(cellsD o).length = ks.length:=by
    simp only [U9,Bool.and_eq_true,beq_iff_eq] at m;simp_all
  obtain ⟨f,l⟩:=f
  cases hm with
  | @mp _ b hn hi=>
  obtain ⟨b',c,cl,e1,e2,e3⟩:=qtp (h.heap.blk n _ hb).2;rw [hi] at e1;cases e1;rw [g8] at f hf;refine ⟨j,e,b,c,cl,k.und,rfl,hi,e2,e3,fun y=>?_,?_,u,q,g7,?_,(qd4 g3).1⟩
  · have hc:=qd2 y 8 j dk ks g5 g4 10000 q0 w
    cases v : Kc dk with
    | true=>
      obtain ⟨X,rfl,hX⟩:=q7o p (f.trans v);exact (hc.1 v) X (hX.1.symm.trans l)
    | false=>exact (hc.2 v).2 s
  · have:=qpg g5 g4 p f e3 hf;grind
  · simp [zeroValue,typeInfo,g1,g2]
theorem qd8 {es : List (DV × DV)} {a : List MapEntry} (h : Ents w Z es a) {j : Nat} {e : DV × DV} (c : es[j]? = some e) : ∃ x,a[j]? = some x∧RelD w Z e.1 x.key∧RelD w Z e.2 x.val∧Yd e.2 = true:=by
  obtain ⟨x,b⟩:=Zp (xs:=a) (i:=j) (by rw [h.1];exact Ke c);exact ⟨x,b,h.2 j e x c b⟩
theorem qe8 {ag : Bool} {ks : List (Option IntKind)} {k : DV} : ∀ {es : List (DV × DV)} {j : Nat},Zk ag ks k es = some (some j)→∃ e,es[j]? = some e∧Zr e.1 = ag∧Kf ks (cellsD k) (cellsD e.1) = some true
  | [],j,h=>by simp [Zk] at h
  | (b,c)::es,j,h=>by
    simp only [Zk] at h
    split at h <;> try simp at h
    rename_i f
    split at h <;> try simp at h
    · rename_i d;subst h;exact ⟨_,rfl,f.2,d⟩
    · split at h <;> simp at h
      rename_i i hi
      subst h
      obtain ⟨e,g,a⟩:=qe8 hi
      exact ⟨e,by simpa using g,a⟩
theorem qsh {t : TypeId} {x y : Operand} {ok : Bool} {i : TI} {ks : List (Option IntKind)} {n : Nat} {es : List (DV × DV)} {kd z : DV} {e : DV × Bool} (h : RelS w Z inj st a Ds) (ht : tiOf P t = some i) (hk : i.keys = some ks) (hx : st.ev x = some (.mp n)) (hy : st.ev y = some (.d kd))
    (hb : st.blk n = some (.mp es)) (hz : i.ezero = [z]) (g : U9 i.eagg ks kd = true) (m : mget i.eagg ks z kd es = some e) :
    Kk st st (.d (bif ok then .tup [e.1,.bool e.2] else e.1)) w Z inj ((do pure (Next.value (← Instr.lookup t (a.eval x) (a.eval y) ok)) : Sem Next).run P w):=by
  have hm:=Kb h hx;have f:=Kb h hy;generalize a.eval x = mv at hm ⊢;generalize a.eval y = kv at f ⊢
  cases f with | d f=>
  have fin : ∀ (u : Value) (o : Bool) (v : DV),RelD w Z v u→e = (v,o)→(Instr.lookup t mv kv ok).run P w = .ok (if ok then .tuple #[u,.bool o] else u) w→Kk st st (.d (bif ok then .tup [e.1,.bool e.2] else e.1)) w Z inj ((do pure (Next.value (← Instr.lookup t mv kv ok)) : Sem Next).run P w):=by
    rintro u o v hr rfl p;refine .quiet h (Kj p) (.d ?_)
    cases ok with
    | false=>exact hr
    | true=>
      refine .tup rfl fun i d c hd l=>?_
      match i,hd,l with
      | 0,hd,l=>simp at hd l;subst hd l;exact hr
      | 1,hd,l=>simp at hd l;subst hd l;exact .bool _
      | i + 2,hd,_=>simp at hd
  unfold mget at m;split at m <;> try simp at m
  · rename_i j s;obtain ⟨a1,b1,ae,rfl⟩:=m;obtain ⟨kt,et,b,k,cl,g1,rfl,g3,g4,g5,r,q,_⟩:=q4s h ht hk hm hb f g s;obtain ⟨u,hu,q1,q2,q3⟩:=qd8 g5 ae;refine fin u.val true _ q2 rfl ?_;have ab : k[j]? = some u:=by simpa using hu
    simp [Instr.lookup,run_underlying g1,q4m g4,r,q,ab]
  · rename_i s;subst m;obtain ⟨kt,et,b,k,cl,g1,rfl,g3,g4,g5,r,q,zd,ze,g8,g9,aa⟩:=q4s h ht hk hm hb f g s;rw [hz] at g8;cases g8;refine fin ze false _ aa rfl ?_;simp only [Option.bind_none] at q;simp [Instr.lookup,run_underlying g1,q4m g4,r,q,g9]
theorem qp5 {es : List (DV × DV)} {a : List MapEntry} (h : Ents w Z es a) {f b : DV} {x : MapEntry} (k : RelD w Z f x.key) (j : RelD w Z b x.val) (g : Yd b = true) : Ents w Z (es ++ [(f,b)]) (a ++ [x]):=by
  refine ⟨by simp [h.1],fun i e y c d=>?_⟩;by_cases hi : i < es.length
  · rw [List.getElem?_append_left hi] at c;rw [List.getElem?_append_left (by rw [h.1];exact hi)] at d;exact h.2 i e y c d
  · rw [List.getElem?_append_right q0] at c;rw [List.getElem?_append_right (by rw [h.1];omega),h.1] at d;grind
theorem qp6 {es : List (DV × DV)} {a : List MapEntry} (h : Ents w Z es a) {j : Nat} {g c : DV} {x : MapEntry} (m : RelD w Z g x.key) (l : RelD w Z c x.val) (k : Yd c = true) : Ents w Z (es.set j (g,c)) (a.set j x):=by
  refine ⟨by simp [h.1],fun i e y d f=>?_⟩;rw [List.getElem?_set] at d f;by_cases b : j = i
  · grind
  · rw [ql b] at d f;exact h.2 i e y d f
theorem qp4 {es : List (DV × DV)} {a : List MapEntry} (h : Ents w Z es a) (j : Nat) : Ents w Z (es.eraseIdx j) (a.eraseIdx j):=by
  refine ⟨by simp [List.length_eraseIdx,h.1],fun i e y c b=>?_⟩;rw [List.getElem?_eraseIdx] at c b;split at c
  · rename_i hi;rw [qm hi] at b;exact h.2 i e y c b
  · rename_i hi;rw [ql hi] at b;exact h.2 (i + 1) e y c b
theorem qsl {t : TypeId} {m x y : Operand} {i : TI} {ks : List (Option IntKind)} {n : Nat} {es o : List (DV × DV)} {kd vd : DV} (h : RelS w Z inj st a Ds) (ht : tiOf P t = some i) (hk : i.keys = some ks) (v : st.ev m = some (.mp n)) (hx : st.ev x = some (.d kd)) (hy : st.ev y = some (.d vd))
    (hb : st.blk n = some (.mp es)) (k : U9 i.eagg ks kd = true) (hc : Yd vd = true) (q : mput i.eagg ks kd vd es = some o) :
    Kk st (st.setBlk n (.mp o)) .dead w Z inj ((do Instr.mapUpdate t (a.eval m) (a.eval x) (a.eval y);pure Next.skip : Sem Next).run P w):=by
  have v:=Kb h v;have f:=Kb h hx;have l:=Kb h hy;generalize a.eval m = mv at v ⊢;generalize a.eval x = kv at f ⊢;generalize a.eval y = vv at l ⊢
  cases f with | d f=>
  cases l with | d l=>
  have s : Zr kd = i.eagg:=by simp only [U9,Bool.and_eq_true,beq_iff_eq] at k;exact k.1
  have fin : ∀ b c cl g cl',inj n = some (b,0)→w.heap[b]? = some (.map c cl)→Ents w Z o g.toList→(Instr.mapUpdate t mv kv vv).run P w = .ok () (w.putObj b (.map g cl'))→
      Kk st (st.setBlk n (.mp o)) .dead w Z inj ((do Instr.mapUpdate t mv kv vv;pure Next.skip : Sem Next).run P w):=by
    intro b c cl g cl' hi hh hE r
    obtain ⟨z,g2⟩:=qkj (pin:=st.nx) (cl':=cl') h.heap hb hi hh hE
    exact ⟨undef,_,inj,.inr ⟨by simp [r],rfl⟩,.dead _,z,g2,rfl,Nat.le_refl _⟩
  unfold mput at q;split at q <;> try simp at q
  · rename_i j hf;subst q;obtain ⟨kt,et,b,c,cl,z,rfl,g3,p,g5,g6,g7,_⟩:=q4s h ht hk v hb f k hf;obtain ⟨e,he,e1,e2⟩:=qe8 hf;obtain ⟨u,hu,q1,q2,q3⟩:=qd8 g5 he;have ai : c[j]? = some u:=by simpa using hu
    have ae:=qqk (P:=P) f q1 s e1 e2;refine fin b c cl (c.modify j fun e=>{e with key:=kv,val:=vv}) cl g3 p ?_ ?_
    · have : (c.modify j fun e=>{e with key:=kv,val:=vv}).toList = c.toList.set j {u with key:=kv,val:=vv}:=by
        apply List.ext_getElem?;grind
      rw [this];exact qp6 g5 f l hc
    · simp [Instr.mapUpdate,run_underlying z,q4m p,g6,g7,ai,ae,qbb _ p]
  · rename_i hf;subst q;obtain ⟨kt,et,b,c,cl,z,rfl,g3,p,g5,g6,g7,_⟩:=q4s h ht hk v hb f k hf;simp only [Option.bind_none] at g7;refine fin b c cl (c.push {key:=kv,val:=vv,born:=cl}) (cl + 1) g3 p ?_ ?_
    · rw [Array.toList_push];exact qp5 g5 f l hc
    · simp [Instr.mapUpdate,run_underlying z,q4m p,g6,g7,qbb _ p]
theorem qsa {y : Array TypeId} {ty t : TypeId} {mv x : Value} {i : TI} {ks : List (Option IntKind)} {n : Nat} {es k : List (DV × DV)} {kd : DV} (h : RelS w Z inj st a Ds) (ht : tiOf P t = some i) (s : y[0]? = some t) (hk : i.keys = some ks) (hm : RelV w Z inj st.nx (.mp n) mv) (q : RelD w Z kd x)
    (hb : st.blk n = some (.mp es)) (l : U9 i.eagg ks kd = true) (o : mdel i.eagg ks kd es = some k) :
    Kk st (st.setBlk n (.mp k)) (.d (.tup [])) w Z inj ((do pure (Next.value (← Builtin.delete_ y ty #[mv,x])) : Sem Next).run P w):=by
  have fin : ∀ b f cl g cl',inj n = some (b,0)→w.heap[b]? = some (.map f cl)→Ents w Z k g.toList→(Builtin.delete_ y ty #[mv,x]).run P w = .ok (.tuple #[]) (w.putObj b (.map g cl'))→
      Kk st (st.setBlk n (.mp k)) (.d (.tup [])) w Z inj ((do pure (Next.value (← Builtin.delete_ y ty #[mv,x])) : Sem Next).run P w):=by
    intro b f cl g cl' hi hh hE p
    obtain ⟨r,g2⟩:=qkj (pin:=st.nx) (cl':=cl') h.heap hb hi hh hE
    exact ⟨.tuple #[],_,inj,.inl (Kj p),.d (.tup rfl fun i d c hd _=>by simp at hd),r,g2,rfl,Nat.le_refl _⟩
  unfold mdel at o;split at o <;> try simp at o
  · rename_i j v;subst o;obtain ⟨kt,et,b,f,cl,r,rfl,g3,m,g5,g6,z,_⟩:=q4s h ht hk hm hb q l v;obtain ⟨e,he,e1,e2⟩:=qe8 v;obtain ⟨u,hu,q1,q2,q3⟩:=qd8 g5 he;have ad : f[j]? = some u:=by simpa using hu
    refine fin b f cl (f.eraseIdxIfInBounds j) cl g3 m ?_ ?_
    · rw [Array.toList_eraseIdxIfInBounds];exact qp4 g5 j
    · simp [Builtin.delete_,s,run_underlying r,q4m m,g6,z,ad,qbb _ m]
  · rename_i v;subst o;obtain ⟨kt,et,b,f,cl,r,rfl,g3,m,g5,g6,z,_⟩:=q4s h ht hk hm hb q l v;simp only [Option.bind_none] at z;refine fin b f cl f cl g3 m g5 ?_;simp [Builtin.delete_,s,run_underlying r,q4m m,g6,z,qbb _ m]
end
end Go.Am
