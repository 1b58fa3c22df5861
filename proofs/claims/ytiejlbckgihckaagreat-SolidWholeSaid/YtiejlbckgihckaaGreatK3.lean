/- Am13 Am14 Am15 Am16 Am16m -/
import Derived.Test.YtiejlbckgihckaaGreatK2
import Derived.Deep.AppendSrc
import Derived.Room.Entries
import Derived.RangeFuncRecord
namespace Go.Am
open Go
variable {P : Program} {T : Tab}
def RowV (w : World) (Z : Nat→Prop) (inj : Inj) (nx : Nat) (arr : Array Value) (o es : Nat) (xs : List (List V)) : Prop:=
  ∀ (i : Nat) (x : List V) (j : Nat) (d : V),xs[i]? = some x→x[j]? = some d→Kh d = true∧∃ c,arr[o + (i * es + j)]? = some c∧RelV w Z inj nx d c
section
variable {w : World} {Z : Nat→Prop} {inj : Inj} {nx : Nat}
theorem RowV.mono {w' : World} {inj' : Inj} {nx' : Nat} {arr : Array Value} {o es : Nat} {xs : List (List V)} (h : RowV w Z inj nx arr o es xs) (a : ∀ v x,RelV w Z inj nx v x→RelV w' Z inj' nx' v x) : RowV w' Z inj' nx' arr o es xs:=
  fun i x j d b hd=>let ⟨h1,c,h2,h3⟩:=h i x j d b hd;⟨h1,c,h2,a _ _ h3⟩
def rowsOf : Blk→Option (Nat × List (List V))
  | .dat es xs=>some (es,xs.map (·.map .d))
  | .cel es xs=>some (es,xs)
  | _=>none
theorem q74 {n : Nat} {b : Blk} {es : Nat} {xs : List (List V)} (h : RelB w Z inj nx n b) (k : rowsOf b = some (es,xs)) :
    es≠0∧(∀ (i : Nat) (x : List V),xs[i]? = some x→x.length = es)∧((xs = []∧inj n = none)∨∃ b o arr ty,inj n = some (b,o)∧w.heap[b]? = some (.cells arr ty (0,0))∧RowV w Z inj nx arr o es xs):=by
  cases b <;> simp only [rowsOf,reduceCtorEq,Option.some.injEq,Prod.mk.injEq] at k
  · obtain ⟨rfl,rfl⟩:=k;obtain ⟨l,g,a⟩:=h;refine ⟨l,?_,?_⟩
    · intro i x f;simp only [List.getElem?_map,Y6] at f;obtain ⟨y,m,rfl⟩:=f;simpa using g i y m
    · rcases a with ⟨a,q⟩ | ⟨b,o,arr,ty,a,q,u⟩
      · exact .inl ⟨by simp [a],q⟩
      · refine .inr ⟨b,o,arr,ty,a,q,fun i x j d f hd=>?_⟩;simp only [List.getElem?_map,Y6] at f;obtain ⟨y,m,rfl⟩:=f;simp only [List.getElem?_map,Y6] at hd;obtain ⟨v,p,rfl⟩:=hd;obtain ⟨r,c,t,s⟩:=u i y j v m p;exact ⟨r,c,t,.d s⟩
  · obtain ⟨rfl,rfl⟩:=k;obtain ⟨l,g,a⟩:=h;exact ⟨l,g,a⟩
theorem q73 {n : Nat} {b : Blk} {es : Nat} {xs : List (List V)} (f : rowsOf b = some (es,xs)) (m : es≠0) (l : ∀ (i : Nat) (x : List V),xs[i]? = some x→x.length = es)
    (h : (xs = []∧inj n = none)∨∃ b o arr ty,inj n = some (b,o)∧w.heap[b]? = some (.cells arr ty (0,0))∧RowV w Z inj nx arr o es xs) : RelB w Z inj nx n b:=by
  cases b <;> simp only [rowsOf,reduceCtorEq,Option.some.injEq,Prod.mk.injEq] at f
  · obtain ⟨rfl,rfl⟩:=f;rename_i xs;refine ⟨m,fun i x g=>?_,?_⟩
    · have:=l i (x.map .d) (by simp [g]);simpa using this
    · rcases h with ⟨a,k⟩ | ⟨b,o,arr,ty,a,k,s⟩
      · exact .inl ⟨by simpa using a,k⟩
      · refine .inr ⟨b,o,arr,ty,a,k,fun i x j d g hd=>?_⟩;obtain ⟨p,c,r,q⟩:=s i (x.map .d) j (.d d) (by simp [g]) (by simp [hd]);refine ⟨p,c,r,?_⟩
        cases q with | d h=>exact h
  · obtain ⟨rfl,rfl⟩:=f;exact ⟨m,l,h⟩
theorem RowV.set {arr k : Array Value} {o es e j : Nat} {xs : List (List V)} {cs ys : List V} (h : RowV w Z inj nx arr o es xs) (y : ∀ (i : Nat) (x : List V),xs[i]? = some x→x.length = es) (s : xs[e]? = some cs) (r : LRel w Z inj nx ys k) (t : ys.all Kh = true)
    (hj : j + ys.length≤cs.length) (l : o + (e * es + j) + k.size≤arr.size) : RowV w Z inj nx (splice arr.toList (o + (e * es + j)) k.toList).toArray o es (xs.set e (splice cs j ys)):=by
  have ab : k.toList.length = ys.length:=by have:=r.1;simp;omega
  have f : o + (e * es + j) + k.toList.length≤arr.toList.length:=by simpa using l
  have z:=y e cs s;intro i x a d g hd;rw [List.getElem?_toArray,Ue _ _ _ _ f];rw [List.getElem?_set] at g;by_cases b : e = i
  · subst b;rw [qr rfl,qr (Kc s)] at g;simp at g;subst g;rw [Ue _ _ _ _ hj] at hd;by_cases m : j≤a∧a < j + ys.length
    · rw [qr m] at hd;obtain ⟨c,u⟩:=Yb (xs:=k) (i:=a - j) (by have:=r.1;omega);rw [qr q0,show o + (e * es + a) - (o + (e * es + j)) = a - j by omega];exact ⟨List.all_eq_true.1 t _ (List.mem_of_getElem? hd),c,by simpa using u,r.2 _ _ _ hd u⟩
    · rw [qq m] at hd;rw [qq q0];obtain ⟨q,c,p,n⟩:=h e cs a d s hd;exact ⟨q,c,by simpa using p,n⟩
  · rw [qq b] at g;obtain ⟨q,c,p,n⟩:=h i x a d g hd;refine ⟨q,c,?_,n⟩;have v : a < es:=by have:=Kc hd;have:=y i x g;omega
    rw [qq ?_]
    · simpa using p
    · intro u;exact b ((qip (i:=e) v).1 q0).symm
end
section
variable {w : World} {Z : Nat→Prop} {inj : Inj} {st : AS} {a : Act} {Ds : List Nat}
theorem q134 {t : TypeId} {a : TypeInfo} {x : Value} {b o : Nat} {arr : Array Value} {ty : TypeId} (hi : P.info? t = some a) (hs : x.cells.size = a.size) (f : ∀ c∈x.cells.toList,c.oneCell' = true)
    (hb : w.heap[b]? = some (.cells arr ty (0,0))) (d : o + x.cells.size≤arr.size) :
    (Instr.storeAt t (.pointer (some ⟨b,o,none⟩)) x).run P w = .ok () (w.setRow b (splice arr.toList o x.cells.toList).toArray):=by
  have:=run_storeCells_at P b o ty x.cells.toList 0 arr w hb (by simpa using d) f;simp only [Nat.add_zero] at this;simp only [Instr.storeAt,Instr.sureAddr,storeVar,Sem.run_bind,Sem.run_pure,Result.andThen_ok,Ze hi,Sem.run_ite];rw [qq q0];exact this
theorem qvv {t : TypeId} {i : TI} {p x : Operand} {pv v : V} {st1 : AS} (h : RelS w Z inj st a Ds) (ht : tiOf P t = some i) (hp : st.ev p = some pv) (hx : st.ev x = some v) (hs : Ju st i pv v = some st1) :
    Kg st st1 .dead w Z inj ((do Instr.storeAt t (a.eval p) (a.eval x);pure .skip : Sem Next).run P w):=by
  obtain ⟨av,d,z,k⟩:=Yo ht;have ai:=Ka h hp;have ad:=Ka h hx;generalize a.eval p = vp at ai ⊢;generalize a.eval x = vx at ad ⊢;cases pv <;> simp only [Ju,reduceCtorEq] at hs
  rename_i n k0 e j;split at hs <;> try simp at hs
  rename_i r
  have bb : (cellsOf v).length = i.size:=by
    apply Classical.byContradiction;intro hc;exact r (.inl hc)
  have ag : (cellsOf v).all Kh = true:=by
    cases hc : (cellsOf v).all Kh with
    | true=>rfl
    | false=>exact absurd (.inr hc) r
  cases ai with | @ref _ _ _ _ b o hn hi=>
  have key : ∀ (b0 : Blk) (es : Nat) (xs : List (List V)) (cs : List V) (b1 : Blk),st.blk n = some b0→rowsOf b0 = some (es,xs)→es = k0→xs[e]? = some cs→j + i.size≤cs.length→rowsOf b1 = some (es,xs.set e (splice cs j (cellsOf v)))→st1 = st.setBlk n b1→
      Kg st st1 .dead w Z inj ((do Instr.storeAt t (.pointer (some ⟨b,o + (e * k0 + j),none⟩)) vx;pure .skip : Sem Next).run P w):=by
    rintro b0 es xs cs b1 s au rfl g f ao rfl
    obtain ⟨g1,g2,g3⟩:=q74 (h.heap.blk n b0 s).2 au
    rcases g3 with ⟨g3,_⟩ | ⟨b',o',arr,ty,g3,g4,g5⟩
    · subst g3;simp at g
    · rw [hi] at g3;cases g3
      obtain ⟨c1,c2,c3⟩:=qbr ad ag
      have l : live b0 = true:=by cases b0 <;> simp_all [rowsOf,live]
      have an:=g2 e cs g
      have ba : 0 < es:=by omega
      have ap : o + (e * es + (es - 1)) < arr.size:=by
        obtain ⟨d0,am⟩:=Zr (xs:=cs) (i:=es - 1) q0;obtain ⟨_,c,hc,_⟩:=g5 e cs (es - 1) d0 g am;exact Zh hc
      have m : o + (e * es + j) + vx.cells.size≤arr.size:=by omega
      have ae:=q134 (P:=P) (w:=w) k.inf (x:=vx) (by rw [k.size];omega) c3 g4 m
      have y : (splice arr.toList (o + (e * es + j)) vx.cells.toList).toArray.size = arr.size:=by
        simp only [List.size_toArray];rw [q2j _ _ _ (by simpa using m)];simp
      have hz : ∀ b1,Z b1→(w.setRow b (splice arr.toList (o + (e * es + j)) vx.cells.toList).toArray).heap[b1]? = w.heap[b1]?:=fun b1 ar=>
        setRow_other w b b1 _ (fun e=>h.heap.out n b0 _ s l hi (by rw [← e];exact ar))
      have ak:=q36 w b arr _ ty (0,0) g4 y
      refine ⟨undef,_,inj,.inr ⟨by simp [ae],rfl⟩,.dead _,?_,Ext.set h.heap s l hi g4 y,rfl,Nat.le_refl _⟩
      refine h.heap.set s l hi g4 y (q73 ao g1 ?_ (.inr ⟨b,o,_,ty,hi,setRow_heap w b _ _ _ _ g4,?_⟩))
      · intro i' x' q
        rw [List.getElem?_set] at q
        by_cases aj : e = i'
        · rw [qr aj,qr (by have:=Kc g;omega)] at q
          simp at q;rw [← q,q2j _ _ _ q0];exact an
        · rw [qq aj] at q;exact g2 _ _ q
      · exact (g5.set g2 g ⟨c1,c2⟩ ag q0 m).mono fun v x hr=>hr.mono hz (fun _ h=>h) ak (fun _ _=>rfl) (Nat.le_refl _)
  cases hb : st.blk n with
  | none=>simp [hb] at hs
  | some blk=>
    cases blk with
    | dead=>simp [hb] at hs
    | loop=>simp [hb] at hs
    | mp=>simp [hb] at hs
    | dat es xs=>
      simp only [hb] at hs;split at hs <;> try simp at hs
      rename_i cs u aa;have u:=Nat.eq_of_beq_eq_true u;have g : (xs.map (·.map V.d))[e]? = some (cs.map V.d):=by simp [aa]
      split at hs
      · rename_i ds al;simp at hs;obtain ⟨f,hs⟩:=hs;refine key _ _ _ _ _ hb rfl u.symm g (by simpa using f) ?_ hs.symm;simp only [rowsOf,Option.some.injEq,Prod.mk.injEq,true_and];rw [q5h al];simp [splice,List.map_set,List.map_take,List.map_drop]
      · simp at hs;obtain ⟨f,hs⟩:=hs;exact key _ _ _ _ _ hb rfl u.symm g (by simpa using f) rfl hs.symm
    | cel es xs=>
      simp only [hb] at hs;split at hs <;> try simp at hs
      rename_i cs u aa;have u:=Nat.eq_of_beq_eq_true u;obtain ⟨f,hs⟩:=hs;exact key _ _ _ _ _ hb rfl u.symm aa f rfl hs.symm
end
end Go.Am
namespace Go.Am
open Go
variable {P : Program} {T : Tab}
section
variable {w : World} {Z : Nat→Prop} {inj : Inj} {nx : Nat}
def Jz (w : World) (ad : Option Addr) (L : List Value) (ys : List (List V)) : Prop:=match ad with
  | some p=>∀ (k : Nat) (u : Value),L[k]? = some u→w.cell? (p.add k) = some u
  | none=>ys = []
theorem qh0 {b o es : Nat} {xs : List (List V)} (t : es≠0) (q : ∀ (i : Nat) (x : List V),xs[i]? = some x→x.length = es)
    (h : ∀ (i : Nat) (x : List V) (j : Nat) (d : V),xs[i]? = some x→x[j]? = some d→Kh d = true∧∃ c,w.cell? ⟨b,o + (i * es + j),none⟩ = some c∧RelV w Z inj nx d c) :
    ∃ L : List Value,L.length = xs.length * es∧(∀ (k : Nat) (u : Value),L[k]? = some u→w.cell? ⟨b,o + k,none⟩ = some u)∧ERel w Z inj nx es xs L.toArray:=by
  have g : ∀ k,k < xs.length * es→∃ i x j d c,xs[i]? = some x∧x[j]? = some d∧k = i * es + j∧w.cell? ⟨b,o + k,none⟩ = some c∧RelV w Z inj nx d c:=by
    intro k a;have p : k / es < xs.length:=Nat.div_lt_of_lt_mul (by rwa [Nat.mul_comm]);have m : k % es < es:=Nat.mod_lt _ q0;obtain ⟨x,f⟩:=Zr p;obtain ⟨d,hd⟩:=Zr (xs:=x) (i:=k % es) (by rw [q _ _ f];exact m);obtain ⟨_,c,l,r⟩:=h _ _ _ _ f hd;have a : k = k / es * es + k % es:=by rw [Nat.mul_comm];exact (Nat.div_add_mod k es).symm
    exact ⟨_,_,_,_,c,f,hd,a,by rw [a];exact l,r⟩
  refine ⟨(List.range (xs.length * es)).map fun k=>(w.cell? ⟨b,o + k,none⟩).getD undef,qd,?_,?_⟩
  · intro k u n;have a : k < xs.length * es:=by have:=Kc n;simpa using this
    obtain ⟨_,_,_,_,c,_,_,_,l,_⟩:=g k a;simp [a,l] at n;rw [l,n]
  · refine ⟨qd,q,fun i x j d f hd=>?_⟩;obtain ⟨p,c,m,s⟩:=h i x j d f hd;have a:=q3v (Kc f) (show j < es by have:=Kc hd;have:=q i x f;omega);exact ⟨p,c,by simp [a,m],s⟩
theorem ERel.append {es : Nat} {xs ys : List (List V)} {A B : Array Value} (h : ERel w Z inj nx es xs A) (k : ERel w Z inj nx es ys B) : ERel w Z inj nx es (xs ++ ys) (A ++ B):=by
  obtain ⟨l,o,n⟩:=h;obtain ⟨b1,p,m⟩:=k;refine ⟨by simp [l,b1,Nat.add_mul],?_,?_⟩
  · intro i x a;rw [List.getElem?_append] at a;split at a
    · exact o _ _ a
    · exact p _ _ a
  · intro i x j d a hd;rw [List.getElem?_append] at a;split at a
    · obtain ⟨g,c,b,f⟩:=n i x j d a hd;exact ⟨g,c,by rw [Array.getElem?_append_left (Zh b)];exact b,f⟩
    · rename_i hi;obtain ⟨g,c,b,f⟩:=m _ x j d a hd;refine ⟨g,c,?_,f⟩
      have e : i * es + j = A.size + ((i - xs.length) * es + j):=by
        rw [l,← Nat.add_assoc,← Nat.add_mul];congr 2;omega
      rw [e,Array.getElem?_append_right q0,show A.size + ((i - xs.length) * es + j) - A.size = (i - xs.length) * es + j by omega];exact b
theorem ERel.row {es : Nat} {xs : List (List V)} {A B : Array Value} (h : ERel w Z inj nx es xs A) : RowV w Z inj nx (A ++ B) 0 es xs:=by
  intro i x j d g hd;obtain ⟨f,c,a,b⟩:=h.2.2 i x j d g hd;exact ⟨f,c,by rw [Nat.zero_add,Array.getElem?_append_left (Zh a)];exact a,b⟩
theorem ERel.one {es : Nat} {xs : List (List V)} {L : List Value} (m : es≠0) (h : ERel w Z inj nx es xs L.toArray) : ∀ u∈L,u.oneCell' = true:=by
  intro u j;obtain ⟨k,b⟩:=List.mem_iff_getElem?.1 j;have n:=Kc b;have p : L.length = xs.length * es:=by simpa using h.1
  have l : k / es < xs.length:=Nat.div_lt_of_lt_mul (by rw [Nat.mul_comm];omega);obtain ⟨x,f⟩:=Zr l;obtain ⟨d,hd⟩:=Zr (xs:=x) (i:=k % es) (by rw [h.2.1 _ _ f];exact Nat.mod_lt _ q0);obtain ⟨g,c,a,o⟩:=h.2.2 _ _ _ _ f hd;have e : k / es * es + k % es = k:=by rw [Nat.mul_comm];exact Nat.div_add_mod k es
  rw [e] at a;simp [b] at a;subst a;exact qgj o g
theorem ERel.mono {w' : World} {inj' : Inj} {nx' es : Nat} {xs : List (List V)} {A : Array Value} (h : ERel w Z inj nx es xs A) (a : ∀ v x,RelV w Z inj nx v x→RelV w' Z inj' nx' v x) : ERel w' Z inj' nx' es xs A:=
  ⟨h.1,h.2.1,fun i x j d b hd=>let ⟨h1,c,h2,h3⟩:=h.2.2 i x j d b hd;⟨h1,c,h2,a _ _ h3⟩⟩
theorem ERel.nil {es : Nat} : ERel w Z inj nx es [] #[]:=⟨qd,qd,qd⟩
theorem RowV.cells {arr : Array Value} {ty : TypeId} {b o es off len : Nat} {xs : List (List V)} (h : RowV w Z inj nx arr o es xs) (hb : w.heap[b]? = some (.cells arr ty (0,0))) :
    ∀ (i : Nat) (x : List V) (j : Nat) (d : V),((xs.drop off).take len)[i]? = some x→x[j]? = some d→Kh d = true∧∃ c,w.cell? ⟨b,o + off * es + (i * es + j),none⟩ = some c∧RelV w Z inj nx d c:=by
  intro i x j d a hd;rw [List.getElem?_take] at a;split at a
  · rw [List.getElem?_drop] at a;obtain ⟨k,c,g,f⟩:=h _ x j d a hd;refine ⟨k,c,?_,f⟩;simp only [World.cell?,hb];rw [← g];simp only [Option.isSome_none,Bool.false_eq_true,if_false];rw [Nat.add_mul];congr 1;omega
  · simp at a
theorem qhi {es off len : Nat} {xs : List (List V)} (b : ∀ (i : Nat) (x : List V),xs[i]? = some x→x.length = es) : ∀ (i : Nat) (x : List V),((xs.drop off).take len)[i]? = some x→x.length = es:=by
  intro i x a;rw [List.getElem?_take] at a;split at a
  · rw [List.getElem?_drop] at a;exact b _ _ a
  · simp at a
end
section
variable {w : World} {Z : Nat→Prop} {inj : Inj} {st : AS} {a : Act} {Ds : List Nat}
theorem qf2 {x : V} {ys : List (List DV)} (h : Yx st x = some ys) : Zc st x = some (ys.map (·.map .d)):=by
  unfold Yx at h;split at h
  · simp at h;subst h;rfl
  · simp at h;subst h;rfl
  · split at h <;> try simp at h
    rename_i hb;obtain ⟨a,rfl⟩:=h;simp [Zc,hb,a]
  · simp at h
theorem qbt {x : V} {xv : Value} {es : Nat} {ys : List (List V)} (h : RelS w Z inj st a Ds) (l : RelV w Z inj st.nx x xv) (f : Zc st x = some ys) (hf : J5 es x = true) (s : es≠0) :
    ∃ (m : Option Addr) (cap : Nat) (L : List Value),xv = .slice m ys.length cap∧L.length = ys.length * es∧ERel w Z inj st.nx es ys L.toArray∧Jz w m L ys:=by
  unfold Zc at f;split at f
  · simp at f;subst f
    cases l with | d l=>
    cases l;exact ⟨none,0,[],rfl,qd,.nil,(rfl : Jz w none [] [])⟩
  · rename_i g xs;simp at f;subst f;have he:=Nat.eq_of_beq_eq_true hf;subst he
    cases l with | d l=>
    cases l with
    | slnil=>exact ⟨none,0,[],rfl,qd,.nil,(rfl : Jz w none [] [])⟩
    | slemp _ m=>exact ⟨some m,0,[],rfl,qd,.nil,fun k u q=>by simp at q⟩
    | @sl _ _ b o cap p h2 h3 h4 h5=>
      obtain ⟨L,l1,l2,l3⟩:=qh0 (w:=w) (Z:=Z) (inj:=inj) (nx:=st.nx) (b:=b) (o:=o) (xs:=xs.map (·.map V.d)) s
        (fun i x l=>by simp only [List.getElem?_map,Y6] at l;obtain ⟨y,hy,rfl⟩:=l;simpa using h3 i y hy)
        (fun i x j d l hd=>by
          simp only [List.getElem?_map,Y6] at l;obtain ⟨y,hy,rfl⟩:=l;simp only [List.getElem?_map,Y6] at hd;obtain ⟨d',t,rfl⟩:=hd;obtain ⟨g1,c,g2⟩:=h4 i y j d' hy t
          exact ⟨g1,c,g2,.d (h5 i y j d' c hy t g2)⟩)
      exact ⟨some ⟨b,o,none⟩,cap,L,qd,l1,l3,fun k u q=>by rw [U2];exact l2 k u q⟩
  · rename_i n g off len;have he:=Nat.eq_of_beq_eq_true hf;subst he
    have key : ∀ (b0 : Blk) (xs : List (List V)),st.blk n = some b0→rowsOf b0 = some (g,xs)→off + len≤xs.length→ys = (xs.drop off).take len→
        ∃ (m : Option Addr) (cap : Nat) (L : List Value),xv = .slice m ys.length cap∧L.length = ys.length * g∧ERel w Z inj st.nx g ys L.toArray∧Jz w m L ys:=by
      rintro b0 xs hb hr aq rfl
      have r : ((xs.drop off).take len).length = len:=by simp;omega
      obtain ⟨g1,g2,v⟩:=q74 (h.heap.blk n b0 hb).2 hr
      cases l with
      | hsnil=>
        have : (xs.drop off).take 0 = []:=by simp
        rw [this];exact ⟨none,0,[],rfl,qd,.nil,(rfl : Jz w none [] [])⟩
      | @hs _ _ _ _ cap m hn f _ hcap=>
        by_cases h0 : len = 0
        · subst h0;have : (xs.drop off).take 0 = []:=by simp
          rw [this];exact ⟨some m,cap,[],rfl,qd,.nil,fun k u q=>by simp at q⟩
        · obtain ⟨b,o,hi,rfl,am⟩:=hcap q0;rcases v with ⟨v,z⟩ | ⟨b',o',arr,ty,v,z,g5⟩
          · rw [hi] at z;cases z
          · rw [hi] at v;cases v;obtain ⟨L,l1,l2,l3⟩:=qh0 (w:=w) (Z:=Z) (inj:=inj) (nx:=st.nx) (b:=b) (o:=o + off * g) (xs:=(xs.drop off).take len) s (qhi g2) (g5.cells z);exact ⟨some ⟨b,o + off * g,none⟩,cap,L,by rw [r],l1,l3,fun k u q=>by rw [U2];exact l2 k u q⟩
    split at f
    · rename_i k xs hb;split at f <;> try simp at f
      rename_i p;obtain ⟨p,rfl⟩:=p;subst f;refine key _ (xs.map (·.map V.d)) hb rfl (by simpa using p) qd
    · rename_i k xs hb;split at f <;> try simp at f
      rename_i p;obtain ⟨p,rfl⟩:=p;subst f;exact key _ xs hb rfl p rfl
    · simp at f
  · simp at f
theorem qb7 {es n : Nat} {tx g : TypeId} {b : Option Addr} {cap : Nat} {ys : List (List V)} {L : List Value} (d : es≠0) (f : P.underlying tx = some (.slice g)) (j : n = ys.length) (a : L.length = ys.length * es)
    (h : ERel w Z inj st.nx es ys L.toArray) (c : Jz w b L ys) : Src P es tx (.slice b ys.length cap) n L w:=by
  subst j;refine ⟨.inl ⟨g,f⟩,fun w'=>by simp [Builtin.lenOf],?_,?_,a,h.one d⟩
  · cases b with
    | none=>subst c;simp at a;subst a;simp [Builtin.firstCells]
    | some p=>
      have:=run_loadCells_list (P:=P) w p L c;rw [a] at this;simpa [Builtin.firstCells] using this
  · cases b with
    | none=>subst c;simp at a;subst a;simp [Builtin.firstCells]
    | some p=>
      have:=run_loadCells_list (P:=P) w.drew p L c;rw [a] at this;simpa [Builtin.firstCells] using this
theorem qbk {t tx ty e : TypeId} {i : TypeInfo} (d : P.underlying t = some (.slice e)) (hi : P.info? e = some i) {base : Option Addr} {sLen sCap : Nat} {x : Value} {n : Nat} {news : List Value} (hs : Src P i.size tx x n news w) (a : sLen + n≤sCap)
    {w' : World} (b : match base with | some p=>(storeCells (p.add (sLen * i.size)) news).run P w = .ok () w' | none=>w' = w) :
    (Builtin.append_ #[t,tx] ty #[.slice base sLen sCap,x]).run P w = .ok (.slice base (sLen + n) sCap) w':=by
  cases base with
  | none=>subst b;rcases hs.kind with ⟨f,c⟩ | c <;> simp [Builtin.append_,run_underlying d,run_underlying c,sizeOf,typeInfo,hi,hs.len,a,hs.cells]
  | some p=>rcases hs.kind with ⟨f,c⟩ | c <;> simp [Builtin.append_,run_underlying d,run_underlying c,sizeOf,typeInfo,hi,hs.len,a,hs.cells,b]
end
end Go.Am
namespace Go.Am
open Go
variable {P : Program} {T : Tab}
section
variable {w : World} {Z : Nat→Prop} {inj : Inj}
theorem RelH.newPh {hp : List (Nat × Blk)} {nx : Nat} (d : RelH w Z inj hp nx) (blk : Blk) (hb : RelB w Z (upd inj nx none) (nx + 1) nx blk) : RelH w Z (upd inj nx none) ((nx,blk)::hp) (nx + 1):=by
  refine ⟨?_,?_,?_,d.zs,d.zc⟩
  · intro n b h;rw [Ku] at h;by_cases a : nx = n
    · grind
    · simp only [a,if_false] at h;obtain ⟨j,g⟩:=d.blk n b h;exact ⟨q0,g.mono (fun _ _=>rfl) (fun _ h=>h) (Sem.keepBig_of_same rfl) (fun m f=>Yf _ _ f) q0 j (fun _ _ _=>rfl)⟩
  · intro n m b c p q a f l r hp k o;rw [Ku] at a f;by_cases j : nx = n
    · subst j;rw [Kz] at hp;cases hp
    · by_cases g : nx = m
      · subst g;rw [Kz] at k;cases k
      · simp only [j,g,if_false] at a f;rw [Yf _ _ (d.blk n b a).1] at hp;rw [Yf _ _ (d.blk m c f).1] at k;exact d.sep n m b c p q a f l r hp k o
  · intro n b p h s hp;rw [Ku] at h;by_cases a : nx = n
    · subst a;rw [Kz] at hp;cases hp
    · simp only [a,if_false] at h;rw [Yf _ _ (d.blk n b h).1] at hp;exact d.out n b p h s hp
theorem Ext.newPh {hp : List (Nat × Blk)} {nx : Nat} (m : RelH w Z inj hp nx) (blk : Blk) : Ext w Z inj hp w Z (upd inj nx none) ((nx,blk)::hp) nx:=by
  refine ⟨Nat.le_refl _,fun _ _ _=>rfl,?_,fun _ c e f h=>⟨c,e,f,h,rfl⟩,fun _ r h=>⟨r,h,rfl⟩,fun _ h=>h,fun _ h=>.inl h,fun n k=>Yf _ _ k,rfl,rfl,rfl,fun _=>rfl⟩;rintro b ⟨n,a,d,j,l,g⟩;rw [Ku] at j;by_cases k : nx = n
  · subst k;rw [Kz] at g;cases g
  · simp only [k,if_false] at j;rw [Yf _ _ (m.blk n a j).1] at g;exact .inl ⟨n,a,d,j,l,g⟩
theorem RelH.move {hp : List (Nat × Blk)} {nx n : Nat} (f : RelH w Z inj hp nx) {x blk : Blk} (hn : find hp n = some x) (j : live x = true) {g off y : Nat} (hi : inj n = some (g,off)) {old cs : Array Value} {t : TypeId} {fr : Nat × Nat}
    (hg : w.heap[g]? = some (.cells old t fr)) (hs : cs.size = old.size) (hb : RelB (w.setRow g cs) Z (upd inj nx (some (g,y))) (nx + 1) nx blk) :
    RelH (w.setRow g cs) Z (upd inj nx (some (g,y))) ((nx,blk)::repl hp n .dead) (nx + 1):=by
  have ae : ∀ b,Z b→b≠g:=fun b o e=>f.out n x _ hn j hi (by rw [← e];exact o)
  have key : ∀ m b,find (repl hp n .dead) m = some b→live b = true→find hp m = some b∧n≠m:=by
    intro m b h z;rw [Z7] at h;by_cases d : n = m
    · subst d;simp [hn] at h;subst h;simp [live] at z
    grind
  have l : ∀ m b,find (repl hp n .dead) m = some b→m < nx:=by
    intro m b h;rw [Z7] at h;by_cases d : n = m
    · subst d;exact (f.blk n x hn).1
    · simp only [d,if_false] at h;exact (f.blk m b h).1
  refine ⟨?_,?_,?_,fun b o=>by simpa using f.zs b o,fun b o=>by rw [setRow_other w g b cs (ae b o)];exact f.zc b o⟩
  · intro m b h;rw [Ku] at h;by_cases d : nx = m
    · grind
    · simp only [d,if_false] at h;refine ⟨by have:=l m b h;omega,?_⟩;by_cases z : live b = true
      · obtain ⟨u,s⟩:=key m b h z;obtain ⟨h3,h4⟩:=f.blk m b u;refine h4.mono (fun b o=>setRow_other w g b cs (ae b o)) (fun _ h=>h) (q36 w g old cs t fr hg hs) (fun _ hk=>Yf _ _ hk) q0 h3 ?_;intro p hp' aj;exact setRow_other w g p.1 cs (fun e=>f.sep n m x b _ _ hn u j z hi hp' s e.symm)
      · have : b = .dead:=by cases b <;> simp_all [live]
        subst this;trivial
  · intro m k b c p q u s ab v r a ad;rw [Ku] at u s;by_cases d : nx = m
    · subst d;rw [Kz] at r;cases r;simp only [ad,if_false] at s;obtain ⟨h3,h4⟩:=key k c s v;rw [Yf _ _ (l k c s)] at a;exact fun e=>f.sep n k x c (g,off) q hn h3 j v hi a h4 e
    · simp only [d,if_false] at u;obtain ⟨h3,h4⟩:=key m b u ab;rw [Yf _ _ (l m b u)] at r;by_cases hk : nx = k
      · subst hk;rw [Kz] at a;cases a;exact fun e=>f.sep n m x b (g,off) p hn h3 j ab hi r h4 e.symm
      · simp only [hk,if_false] at s;obtain ⟨h5,h6⟩:=key k c s v;rw [Yf _ _ (l k c s)] at a;exact f.sep m k b c p q h3 h5 ab v r a ad
  · intro m b p h z hp' o;rw [Ku] at h;by_cases d : nx = m
    · subst d;rw [Kz] at hp';cases hp';exact f.out n x _ hn j hi o
    · simp only [d,if_false] at h;obtain ⟨u,_⟩:=key m b h z;rw [Yf _ _ (l m b h)] at hp';exact f.out m b p u z hp' o
theorem Ext.move {hp : List (Nat × Blk)} {nx n : Nat} (u : RelH w Z inj hp nx) {l blk : Blk} (q : find hp n = some l) (d : live l = true) {g off f : Nat} (hi : inj n = some (g,off)) {old cs : Array Value} {t : TypeId} {o : Nat × Nat}
    (p : w.heap[g]? = some (.cells old t o)) (hs : cs.size = old.size) : Ext w Z inj hp (w.setRow g cs) Z (upd inj nx (some (g,f))) ((nx,blk)::repl hp n .dead) nx:=by
  refine ⟨qd,?_,?_,q36 w g old cs t o p hs,ql6 w g old cs t o p,fun _ h=>h,fun _ h=>.inl h,fun m j=>Yf _ _ j,rfl,rfl,rfl,qkj w g old cs t o p⟩
  · intro b _ hb;exact setRow_other w g b cs (fun e=>hb (by rw [e];exact ⟨n,l,off,q,d,hi⟩))
  · rintro b ⟨m,c,v,a,r,k⟩;rw [Ku] at a;by_cases j : nx = m
    · subst j;rw [Kz] at k;cases k;exact .inl ⟨n,l,off,q,d,hi⟩
    · simp only [j,if_false] at a;rw [Z7] at a;by_cases s : n = m
      · subst s;simp [q] at a;subst a;simp [live] at r
      · simp only [s,if_false] at a;rw [Yf _ _ (u.blk m c a).1] at k;exact .inl ⟨m,c,v,a,r,k⟩
end
section
variable {w : World} {Z : Nat→Prop} {inj : Inj} {st : AS} {a : Act} {Ds : List Nat}
theorem qt6 {a cap b : Nat} (d : cap < a) (c : a * (b * 4)≤room) : Builtin.nextslicecap a cap * b≤281474976710656:=by
  have g:=Nat.mul_le_mul_right b (Room.nextslicecap_le' d);have f : 2 * a * b≤a * (b * 4):=by rw [Nat.mul_comm b 4,← Nat.mul_assoc];exact Nat.mul_le_mul_right b q0
  unfold room at c;omega
theorem qui {a b : Nat} (hb : b≠0) (c : a * (b * 4)≤room) : a≤4294967296:=by
  have : a * 1≤a * (b * 4):=Nat.mul_le_mul_left _ q0;unfold room at c;omega
theorem qee {t u ty : TypeId} {i : TI} {e e' : TypeId} {s : TypeInfo} {p : Value} (_h : RelS w Z inj st a Ds) (hu : P.underlying t = some (.slice e)) (ag : P.underlying u = some (.slice e')) (g1 : P.info? e = some s) (g3 : s.zero = some p)
    (g6 : s.size = i.esize) (g7 : i.esize≠0) (g8 : s.bytes = i.ebytes) (g9 : i.ebytes≠0) (gz : p.cells.size = i.esize) {hp1 : List (Nat × Blk)} (hh : RelH w Z inj hp1 st.nx) (y : Ext w Z inj st.hp w Z inj hp1 st.nx)
    {base ad : Option Addr} {cap cap' : Nat} {olds ys : List (List V)} {L0 l : List Value} (m : L0.length = olds.length * i.esize) (z : ERel w Z inj st.nx i.esize olds L0.toArray) (aa : Jz w base L0 olds)
    (n : l.length = ys.length * i.esize) (r : ERel w Z inj st.nx i.esize ys l.toArray) (af : Jz w ad l ys) (hg : cap < olds.length + ys.length) (d : (olds.length + ys.length) * (i.ebytes * 4)≤room)
    {b1 : Blk} (ab : rowsOf b1 = some (i.esize,olds ++ ys)) :
    ∃ x w' inj',(Builtin.append_ #[t,u] ty #[.slice base olds.length cap,.slice ad ys.length cap']).run P w = .ok x w'∧RelV w' Z inj' (st.nx + 1) (.hs st.nx i.esize 0 (olds.length + ys.length)) x∧RelH w' Z inj' ((st.nx,b1)::hp1) (st.nx + 1)∧
      Ext w Z inj st.hp w' Z inj' ((st.nx,b1)::hp1) st.nx:=by
  have g:=qb7 (P:=P) (tx:=t) (cap:=cap) g7 hu rfl m z aa;have k:=qb7 (P:=P) (tx:=u) (cap:=cap') g7 ag rfl n r af;rw [← g6] at g k;have am:=qui g9 d;have j:=qt6 hg d;rw [← g8] at j;have c:=run_append_grow_src (P:=P) w t u ty e s p hu g1 g3 base olds.length cap L0 g.cellsD (.slice ad ys.length cap') ys.length l k hg q0 j;have q:=grownCap_ge w (olds.length + ys.length) cap e;generalize grownCap w (olds.length + ys.length) cap e = C at c q;generalize hA : (L0 ++ l).toArray ++ Builtin.zeroCells p.cells (C - (olds.length + ys.length)) = A at c;have f : RelH w.drew Z inj hp1 st.nx:=hh.same rfl;have o : ERel w Z inj st.nx i.esize (olds ++ ys) (L0.toArray ++ l.toArray):=z.append r
  have mono : ∀ v x,RelV w Z inj st.nx v x→RelV (w.drew.alloc (.cells A e)) Z (upd inj st.nx (some (w.heap.size,0))) (st.nx + 1) v x:=fun v x hv=>
    hv.mono (fun b hz=>J3 w.drew _ (hh.zs b hz)) (fun _ h=>h) (q35 w.drew _) (fun _ hm=>Yf _ _ hm) q0
  refine ⟨_,_,upd inj st.nx (some (w.heap.size,0)),c,?_,?_,?_⟩
  · refine .hs q0 q rfl fun _=>⟨w.heap.size,0,Kz _ _ _,qd,A,e,(0,0),U3 w.drew _,?_⟩
    have h1 : A.size = L0.length + l.length + (C - (olds.length + ys.length)) * i.esize:=by
      rw [← hA];simp [Builtin.zeroCells,gz]
    rw [h1,m,n,← Nat.add_mul,← Nat.add_mul];grind
  · refine f.new (.cells A e) b1 0 ?_;refine q73 ab g7 o.2.1 (.inr ⟨w.heap.size,0,A,e,Kz _ _ _,U3 w.drew _,?_⟩);have h9:=(o.row (B:=Builtin.zeroCells p.cells (C - (olds.length + ys.length)))).mono mono;simp_all
  · refine y.trans ?_ (Nat.le_refl _);have e1 : Ext w Z inj hp1 w.drew Z inj hp1 st.nx:=Ext.same rfl rfl rfl rfl;exact e1.trans (Ext.new f (.cells A e) b1 0) (Nat.le_refl _)
theorem qpw {t u ty : TypeId} {i : TI} {e e' : TypeId} {ie : TypeInfo} (h : RelS w Z inj st a Ds) (hu : P.underlying t = some (.slice e)) (ba : P.underlying u = some (.slice e')) (g1 : P.info? e = some ie)
    (g6 : ie.size = i.esize) (g7 : i.esize≠0) {n off len cap cap' b o : Nat} {b0 b1 : Blk} {xs ys : List (List V)} (s : st.blk n = some b0) (bd : rowsOf b0 = some (i.esize,xs)) (bp : off + len≤xs.length)
    (hi : inj n = some (b,o)) (ak : Big w b (o + (off + cap) * i.esize)) (_hlc : len≤cap)
    {ad : Option Addr} {g : List Value} (af : g.length = ys.length * i.esize) (r : ERel w Z inj st.nx i.esize ys g.toArray) (ay : Jz w ad g ys) (hg : len + ys.length≤cap)
    (av : rowsOf b1 = some (i.esize,(xs.drop off).take len ++ ys)) :
    ∃ x w' inj',(Builtin.append_ #[t,u] ty #[.slice (some ⟨b,o + off * i.esize,none⟩) len cap,.slice ad ys.length cap']).run P w = .ok x w'∧RelV w' Z inj' (st.nx + 1) (.hs st.nx i.esize 0 (len + ys.length)) x∧
      RelH w' Z inj' ((st.nx,b1)::repl st.hp n .dead) (st.nx + 1)∧Ext w Z inj st.hp w' Z inj' ((st.nx,b1)::repl st.hp n .dead) st.nx:=by
  have ai:=qb7 (P:=P) (tx:=u) (cap:=cap') g7 ba rfl af r ay;obtain ⟨q1,q2,q3⟩:=q74 (h.heap.blk n b0 s).2 bd;rcases q3 with ⟨_,q4⟩ | ⟨b',o',arr,ac,q3,q4,q5⟩
  · grind
  rw [hi] at q3;cases q3;have k : live b0 = true:=by cases b0 <;> simp_all [rowsOf,live]
  have ap : o + (off + cap) * i.esize≤arr.size:=by
    obtain ⟨c,e2,f,k1,k2⟩:=ak;grind
  have an : g.length = ys.length * i.esize:=af;have aj : (len + ys.length) * i.esize≤cap * i.esize:=Nat.mul_le_mul_right _ hg;rw [Nat.add_mul] at aj ap;have l : o + off * i.esize + len * i.esize + g.length≤arr.size:=by omega
  have aa:=run_storeCells_at P b (o + off * i.esize + len * i.esize) ac g 0 arr w q4 (by simpa using l) (r.one g7);simp only [Nat.add_zero] at aa;have aq : (arr.toList.take (o + off * i.esize + len * i.esize) ++ g ++ arr.toList.drop (o + off * i.esize + len * i.esize + g.length)).toArray = (splice arr.toList (o + off * i.esize + len * i.esize) g).toArray:=rfl;rw [aq] at aa
  have ag:=qbk (P:=P) (w:=w) (ty:=ty) hu g1 (base:=some ⟨b,o + off * i.esize,none⟩) (sLen:=len) (sCap:=cap) (x:=.slice ad ys.length cap') (n:=ys.length) (news:=g) (by rw [g6];exact ai) hg
    (w':=w.setRow b (splice arr.toList (o + off * i.esize + len * i.esize) g).toArray) (by show (storeCells ((⟨b,o + off * i.esize,none⟩ : Addr).add (len * ie.size)) g).run P w = _;rw [U2,g6];exact aa)
  have q : o + off * i.esize + len * i.esize + g.length≤arr.toList.length:=by simpa using l
  have p : (splice arr.toList (o + off * i.esize + len * i.esize) g).toArray.size = arr.size:=by simp [q2j _ _ _ q]
  have hz : ∀ b1,Z b1→(w.setRow b (splice arr.toList (o + off * i.esize + len * i.esize) g).toArray).heap[b1]? = w.heap[b1]?:=fun b1 bc=>
    setRow_other w b b1 _ (fun e=>h.heap.out n b0 _ s k hi (by rw [← e];exact bc))
  have ao:=q36 w b arr _ ac (0,0) q4 p
  have mono : ∀ v x,RelV w Z inj st.nx v x→RelV (w.setRow b (splice arr.toList (o + off * i.esize + len * i.esize) g).toArray) Z (upd inj st.nx (some (b,o + off * i.esize))) (st.nx + 1) v x:=fun v x hv=>
    hv.mono hz (fun _ h=>h) ao (fun _ hm=>Yf _ _ hm) q0
  have y : ((xs.drop off).take len).length = len:=by simp;omega
  refine ⟨_,_,upd inj st.nx (some (b,o + off * i.esize)),ag,?_,?_,Ext.move h.heap s k hi q4 p⟩
  · refine .hs q0 hg rfl fun _=>⟨b,o + off * i.esize,Kz _ _ _,qd,_,_,_,setRow_heap w b _ _ _ _ q4,?_⟩
    grind
  · refine h.heap.move s k hi q4 p (q73 av g7 ?_ (.inr ⟨b,o + off * i.esize,_,ac,Kz _ _ _,setRow_heap w b _ _ _ _ q4,?_⟩))
    · intro j x m;rw [List.getElem?_append] at m;split at m
      · grind
      · exact r.2.1 _ _ m
    · intro j x j' d m hd;rw [List.getElem?_toArray,Ue _ _ _ _ q];rw [List.getElem?_append] at m;split at m
      · rename_i hj;rw [y] at hj;have ar:=qhi q2 j x m;have z : j' < i.esize:=by have:=Kc hd;omega
        have hc:=q3v hj z;rw [qq q0];rw [List.getElem?_take] at m;rw [qr hj,List.getElem?_drop] at m;obtain ⟨k1,c,k2,k3⟩:=q5 _ x j' d m hd;grind
      · rename_i hj;rw [y] at hj m;obtain ⟨k1,c,k2,k3⟩:=r.2.2 _ x j' d m hd;have bb:=Kc m;have ar:=r.2.1 _ x m;have z : j' < i.esize:=by have:=Kc hd;omega
        have hc:=q3v bb z;have he : j * i.esize = len * i.esize + (j - len) * i.esize:=by rw [← Nat.add_mul];congr 1;omega
        grind
theorem qv9 {t u ty : TypeId} {i j : TI} {sv xv v : V} {vs vx : Value} {st1 : AS} (h : RelS w Z inj st a Ds) (ht : tiOf P t = some i) (hu : tiOf P u = some j) (bl : i.kind = .slice) (bq : j.kind = .slice) (hf : J5 i.esize xv = true)
    (ak : RelV w Z inj st.nx sv vs) (aq : RelV w Z inj st.nx xv vx) (f : Z6 st i sv xv = some (v,st1)) :
    ∃ x w' inj',(Builtin.append_ #[t,u] ty #[vs,vx]).run P w = .ok x w'∧RelV w' Z inj' st1.nx v x∧RelH w' Z inj' st1.hp st1.nx∧Ext w Z inj st.hp w' Z inj' st1.hp st.nx∧st1.sl = st.sl∧st.nx≤st1.nx:=by
  obtain ⟨bv,d,z,k⟩:=Yo ht;obtain ⟨bj,d',z',k'⟩:=Yo hu;have hk:=k.kind;have ar:=k'.kind;unfold Zf at hk ar;simp only [bl,bq] at hk ar;obtain ⟨e,ie,de,ze,rfl,g1,g2,g3,g4,g5,g6,g7,g8,g9,_⟩:=hk;obtain ⟨e',_,_,_,rfl,_⟩:=ar;have gz : ze.cells.size = i.esize:=by have:=(q9f g4).1;simp at this;omega
  have q : ∀ ys b1,Zc st xv = some ys→vs = .slice none 0 0→rowsOf b1 = some (i.esize,ys)→ys.length * (i.ebytes * 4)≤room→ys.length≠0→
      ∃ x w' inj',(Builtin.append_ #[t,u] ty #[vs,vx]).run P w = .ok x w'∧RelV w' Z inj' (st.nx + 1) (.hs st.nx i.esize 0 ys.length) x∧RelH w' Z inj' ((st.nx,b1)::st.hp) (st.nx + 1)∧Ext w Z inj st.hp w' Z inj' ((st.nx,b1)::st.hp) st.nx:=by
    rintro ys b1 hc rfl hr c cg
    obtain ⟨ad,cap',L1,rfl,l,s,r⟩:=qbt h aq hc hf g7
    have:=qee (P:=P) (ty:=ty) h k.und k'.und g1 g3 g6 g7 g8 g9 gz h.heap Ext.refl (base:=none) (cap:=0) (olds:=[]) (L0:=[]) qd .nil (rfl : Jz w none [] []) (cap':=cap') l s r (by simp;omega) (by simpa using c) (b1:=b1) (by simpa using hr)
    simpa using this
  have ae : ∀ ys,Zc st xv = some ys→vs = .slice none 0 0→ys.length = 0→(Builtin.append_ #[t,u] ty #[vs,vx]).run P w = .ok (.slice none 0 0) w:=by
    rintro ys hc rfl y;obtain ⟨ad,cap',L1,rfl,l,s,r⟩:=qbt h aq hc hf g7;have ac:=qb7 (P:=P) (tx:=u) (cap:=cap') g7 k'.und rfl l s r;have:=qbk (P:=P) (w:=w) (ty:=ty) k.und g1 (base:=none) (sLen:=0) (sCap:=0) (by rw [g6];exact ac) q0 (w':=w) rfl;grind
  have p : ∀ n off len xs ys b0 b1,sv = .hs n i.esize off len→st.blk n = some b0→rowsOf b0 = some (i.esize,xs)→off + len≤xs.length→Zc st xv = some ys→rowsOf b1 = some (i.esize,(xs.drop off).take len ++ ys)→
      (len + ys.length) * (i.ebytes * 4)≤room→
      ∃ x w' inj',(Builtin.append_ #[t,u] ty #[vs,vx]).run P w = .ok x w'∧RelV w' Z inj' (st.nx + 1) (.hs st.nx i.esize 0 (len + ys.length)) x∧RelH w' Z inj' ((st.nx,b1)::repl st.hp n .dead) (st.nx + 1)∧
        Ext w Z inj st.hp w' Z inj' ((st.nx,b1)::repl st.hp n .dead) st.nx:=by
    rintro n off len xs ys b0 b1 rfl bb bd bs hc ab c
    obtain ⟨ad,cap',L1,rfl,l,s,r⟩:=qbt h aq hc hf g7
    have ac:=qb7 (P:=P) (tx:=u) (cap:=cap') g7 k'.und rfl l s r
    have aj : ((xs.drop off).take len).length = len:=by simp;omega
    obtain ⟨q1,q2,q3⟩:=q74 (h.heap.blk n b0 bb).2 bd
    have m : RelH w Z inj (repl st.hp n .dead) st.nx:=h.heap.drop
    have aa : Ext w Z inj st.hp w Z inj (repl st.hp n .dead) st.nx:=Ext.drop
    have ph : len = 0→ys.length = 0→RelH w Z (upd inj st.nx none) ((st.nx,b1)::repl st.hp n .dead) (st.nx + 1)∧Ext w Z inj st.hp w Z (upd inj st.nx none) ((st.nx,b1)::repl st.hp n .dead) st.nx:=by
      intro h1 h2;have an : (xs.drop off).take len ++ ys = []:=by subst h1;simp [List.eq_nil_of_length_eq_zero h2]
      refine ⟨m.newPh b1 (q73 ab g7 (by rw [an];simp) (.inl ⟨an,Kz _ _ _⟩)),aa.trans (Ext.newPh m b1) (Nat.le_refl _)⟩
    cases ak with
    | hsnil hm=>
      by_cases y : ys.length = 0
      · obtain ⟨p1,p2⟩:=ph rfl y;have:=qbk (P:=P) (w:=w) (ty:=ty) k.und g1 (base:=none) (sLen:=0) (sCap:=0) (by rw [g6];exact ac) q0 (w':=w) rfl;refine ⟨_,w,_,this,?_,p1,p2⟩;simp only [Nat.zero_add,y];exact .hsnil q0
      · have:=qee (P:=P) (ty:=ty) h k.und k'.und g1 g3 g6 g7 g8 g9 gz m aa (base:=none) (cap:=0) (olds:=[]) (L0:=[]) qd .nil (rfl : Jz w none [] []) (cap':=cap') l s r (by simp;omega) (by simpa using c) (b1:=b1) (by simpa using ab);simpa using this
    | @hs _ _ _ _ cap adr hm hcl hsp hcap=>
      by_cases hg : len + ys.length≤cap
      · by_cases bc : cap = 0
        · obtain ⟨p1,p2⟩:=ph q0 q0;have hL : L1 = []:=List.eq_nil_of_length_eq_zero (by rw [l,show ys.length = 0 by omega];simp);have:=qbk (P:=P) (w:=w) (ty:=ty) k.und g1 (base:=some adr) (sLen:=len) (sCap:=cap) (by rw [g6];exact ac) hg (w':=w) (by subst hL;show (storeCells _ []).run P w = _;simp [storeCells]);exact ⟨_,w,_,this,.hs q0 hg hsp (fun h=>absurd bc h),p1,p2⟩
        · obtain ⟨b,o,hi,rfl,ao⟩:=hcap bc;exact qpw (P:=P) (ty:=ty) h k.und k'.und g1 g6 g7 bb bd bs hi ao hcl (cap':=cap') l s r hg ab
      · have hold : ∃ L0 : List Value,L0.length = ((xs.drop off).take len).length * i.esize∧ERel w Z inj st.nx i.esize ((xs.drop off).take len) L0.toArray∧Jz w (some adr) L0 ((xs.drop off).take len):=by
          by_cases y : len = 0
          · subst y;exact ⟨[],qd,by simpa using ERel.nil,fun k u hu=>by simp at hu⟩
          · obtain ⟨b,o,hi,rfl,ao⟩:=hcap q0;rcases q3 with ⟨_,q4⟩ | ⟨b',o',arr,cl,q3,q4,q5⟩
            · rw [hi] at q4;cases q4
            · rw [hi] at q3;cases q3;obtain ⟨L,l1,l2,l3⟩:=qh0 (w:=w) (Z:=Z) (inj:=inj) (nx:=st.nx) (b:=b) (o:=o + off * i.esize) (xs:=(xs.drop off).take len) g7 (qhi q2) (q5.cells q4);exact ⟨L,l1,l3,fun k u hu=>by rw [U2];exact l2 k u hu⟩
        obtain ⟨L0,a1,a2,a3⟩:=hold;have:=qee (P:=P) (ty:=ty) h k.und k'.und g1 g3 g6 g7 g8 g9 gz m aa (base:=some adr) (cap:=cap) a1 a2 a3 (cap':=cap') l s r (by rw [aj];omega) (by rw [aj];exact c) (b1:=b1) ab;rw [aj] at this;exact this
  cases sv <;> simp only [Z6,reduceCtorEq] at f
  case d x=>
    cases x <;> simp only [reduceCtorEq] at f
    cases ak with | d ak=>
    cases ak
    cases af : Yx st xv with
    | some ys=>
      simp only [af] at f;split at f <;> try simp at f
      rename_i c;have g:=qf2 af;by_cases y : ys = []
      · rw [qr y] at f;simp at f;obtain ⟨rfl,rfl⟩:=f;exact ⟨_,w,inj,ae _ g rfl (by simpa using y),.d .nilsl,h.heap,.refl,rfl,Nat.le_refl _⟩
      · rw [qq y] at f;simp at f;obtain ⟨rfl,rfl⟩:=f;have:=q _ (.dat i.esize ys) g rfl rfl (by simpa using c) (by simpa using y);obtain ⟨x,w',inj',h1,h2,h3,h4⟩:=this;exact ⟨x,w',inj',h1,by simpa [AS.new] using h2,h3,h4,rfl,by simp [AS.new]⟩
    | none=>
      simp only [af] at f
      cases g : Zc st xv with
      | none=>simp [g] at f
      | some ys=>
        simp only [g] at f;split at f <;> try simp at f
        rename_i c;by_cases y : ys = []
        · rw [qr y] at f;simp at f;obtain ⟨rfl,rfl⟩:=f;exact ⟨_,w,inj,ae _ g rfl (by simpa using y),.d .nilsl,h.heap,.refl,rfl,Nat.le_refl _⟩
        · rw [qq y] at f;simp at f;obtain ⟨rfl,rfl⟩:=f;obtain ⟨x,w',inj',h1,h2,h3,h4⟩:=q _ (.cel i.esize ys) g rfl rfl c (by simpa using y);exact ⟨x,w',inj',h1,by simpa [AS.new] using h2,h3,h4,rfl,by simp [AS.new]⟩
  case hs n es off len=>
    split at f
    · rename_i k0 xs ys hb af;split at f <;> simp at f
      rename_i av;obtain ⟨c1,rfl,c3,rfl⟩:=av;obtain ⟨rfl,rfl⟩:=f;have:=p n off len (xs.map (·.map .d)) (ys.map (·.map .d)) _ (.dat i.esize ((xs.drop off).take len ++ ys)) rfl hb rfl (by simpa using c1) (qf2 af) (by simp [rowsOf,List.map_take,List.map_drop]) (by simpa using c3);obtain ⟨x,w',inj',h1,h2,h3,h4⟩:=this;exact ⟨x,w',inj',h1,by simpa [AS.new,AS.setBlk] using h2,h3,h4,rfl,by simp [AS.new,AS.setBlk]⟩
    · rename_i k0 xs hb af;split at f <;> try simp at f
      rename_i ys g;obtain ⟨⟨c1,rfl,c3,rfl⟩,rfl,rfl⟩:=f;have:=p n off len (xs.map (·.map .d)) ys _ (.cel i.esize ((((xs.map (·.map V.d)).drop off).take len) ++ ys)) rfl hb rfl (by simpa using c1) g rfl c3;obtain ⟨x,w',inj',h1,h2,h3,h4⟩:=this;exact ⟨x,w',inj',h1,by simpa [AS.new,AS.setBlk] using h2,h3,h4,rfl,by simp [AS.new,AS.setBlk]⟩
    · rename_i k0 xs hb;split at f <;> try simp at f
      rename_i ys g;obtain ⟨⟨c1,rfl,c3,rfl⟩,rfl,rfl⟩:=f;have:=p n off len xs ys _ (.cel i.esize ((xs.drop off).take len ++ ys)) rfl hb rfl c1 g rfl c3;obtain ⟨x,w',inj',h1,h2,h3,h4⟩:=this;exact ⟨x,w',inj',h1,by simpa [AS.new,AS.setBlk] using h2,h3,h4,rfl,by simp [AS.new,AS.setBlk]⟩
    · simp at f
end
end Go.Am
namespace Go.Am
open Go
variable {P : Program} {T : Tab}
section
variable {w : World} {Z : Nat→Prop} {inj : Inj} {nx : Nat}
theorem RowV.spliceRows {arr : Array Value} {o es off : Nat} {xs ys : List (List V)} {L : List Value} (h : RowV w Z inj nx arr o es xs) (p : ∀ (i : Nat) (x : List V),xs[i]? = some x→x.length = es) (f : ERel w Z inj nx es ys L.toArray)
    (k : off + ys.length≤xs.length) (b : o + off * es + L.length≤arr.size) : RowV w Z inj nx (splice arr.toList (o + off * es) L).toArray o es (splice xs off ys):=by
  have s : L.length = ys.length * es:=by simpa using f.1
  intro i x j d a hd;rw [Ue _ _ _ _ k] at a;rw [List.getElem?_toArray,Ue _ _ _ _ (by simpa using b)];by_cases hi : off≤i∧i < off + ys.length
  · rw [qr hi] at a;obtain ⟨m,c,n,l⟩:=f.2.2 _ x j d a hd;have g : j < es:=by have:=Kc hd;have:=f.2.1 _ x a;omega
    have r:=q3v (Kc a) g;have t : i * es = off * es + (i - off) * es:=by rw [← Nat.add_mul];congr 1;omega
    grind
  · rw [qq hi] at a;obtain ⟨m,c,n,l⟩:=h i x j d a hd;have g : j < es:=by have:=Kc hd;have:=p _ x a;omega
    refine ⟨m,c,?_,l⟩;rw [qq ?_]
    · grind
    · intro r;by_cases q : i < off
      · have:=q3v q g;omega
      · have u : (off + ys.length) * es≤i * es:=Nat.mul_le_mul_right _ q0;grind
theorem ERel.take {es m : Nat} {xs : List (List V)} {L : List Value} (h : ERel w Z inj nx es xs L.toArray) (b : m≤xs.length) : ERel w Z inj nx es (xs.take m) (L.take (m * es)).toArray:=by
  obtain ⟨k,g,f⟩:=h;simp only [List.size_toArray] at k;have:=Nat.mul_le_mul_right es b;refine ⟨by simp;rw [Nat.min_eq_left b];omega,?_,?_⟩
  · grind
  · intro i x j d a hd;rw [List.getElem?_take] at a;split at a
    · rename_i hi;obtain ⟨n,c,o,l⟩:=f i x j d a hd;have p:=q3v hi (show j < es by have:=Kc hd;have:=g _ x a;omega);grind
    grind
end
section
variable {w : World} {Z : Nat→Prop} {inj : Inj} {st : AS} {a : Act} {Ds : List Nat}
theorem qvh {t u ty : TypeId} {i j : TI} {sv xv v : V} {vs vx : Value} {st1 : AS} (h : RelS w Z inj st a Ds) (ht : tiOf P t = some i) (_hu : tiOf P u = some j) (bk : i.kind = .slice) (_hjk : j.kind = .slice) (bn : J5 i.esize sv = true) (hf : J5 i.esize xv = true)
    (au : RelV w Z inj st.nx sv vs) (bg : RelV w Z inj st.nx xv vx) (ha : copyV st sv xv = some (v,st1)) :
    ∃ x w' inj',(Builtin.copy_ #[t,u] ty #[vs,vx]).run P w = .ok x w'∧RelV w' Z inj' st1.nx v x∧RelH w' Z inj' st1.hp st1.nx∧Ext w Z inj st.hp w' Z inj' st1.hp st.nx∧st1.sl = st.sl∧st.nx≤st1.nx:=by
  obtain ⟨bw,d,z,k⟩:=Yo ht;have hk:=k.kind;unfold Zf at hk;simp only [bk] at hk;obtain ⟨e,ie,de,ze,rfl,g1,g2,g3,g4,g5,g6,g7,g8,g9,_⟩:=hk;cases sv <;> simp only [copyV,reduceCtorEq] at ha
  rename_i n es off len;have bo:=Nat.eq_of_beq_eq_true bn;subst bo;split at ha <;> try simp at ha
  rename_i k0 xs ys hb br;obtain ⟨⟨cq,rfl⟩,rfl,rfl⟩:=ha;obtain ⟨ad,cap',L1,rfl,al,bp,ax⟩:=qbt h bg (qf2 br) hf g7;rw [List.length_map] at al ⊢
  let m:=min ys.length len
  have hm : m = min ys.length len:=rfl;rw [← hm];obtain ⟨q1,q2,q3⟩:=q74 (h.heap.blk n _ hb).2 rfl;have cb : (xs.map (·.map V.d)).length = xs.length:=by simp
  have cd : m * i.esize≤ys.length * i.esize:=Nat.mul_le_mul_right _ q0
  have ag : (Builtin.firstCells i.esize m (.slice ad ys.length cap')).run P w = .ok (L1.take (m * i.esize)).toArray w:=by
    cases ad with
    | none=>
      have av : ys.map (·.map V.d) = []:=ax;have : ys = []:=by simpa using av
      subst this;simp at al;subst al;simp [Builtin.firstCells]
    | some p=>
      have:=run_loadCells_list (P:=P) w p (L1.take (m * i.esize)) (fun k u hu=>by
        rw [List.getElem?_take] at hu;split at hu
        · exact ax k u hu
        · simp at hu)
      rw [List.length_take,Nat.min_eq_left q0] at this;simpa [Builtin.firstCells] using this
  have s : ∀ base y ak,y = len→vs = .slice base y ak→∀ w',(match base with | some p=>(storeCells p (L1.take (m * i.esize))).run P w = .ok () w' | none=>w' = w)→
      (Builtin.copy_ #[t,u] ty #[vs,.slice ad ys.length cap']).run P w = .ok (.int .i64 m) w':=by
    rintro base y ak rfl rfl w' aa
    have ap:=ag
    rw [← g6] at ap
    have ah : Nat.min ys.length y = m:=rfl
    cases base with
    | none=>
      subst aa;simp [Builtin.copy_,run_underlying k.und,Builtin.lenOf,Ze g1,goInt,ah,ap]
    | some p=>
      have aj : (storeCells p (L1.take (m * i.esize))).run P w = .ok () w':=aa;rw [← g6] at aj;simp [Builtin.copy_,run_underlying k.und,Builtin.lenOf,Ze g1,aj,goInt,ah,ap]
  have l : live (.dat i.esize xs) = true:=rfl
  have same : m = 0→RelH w Z inj (repl st.hp n (.dat i.esize (splice xs off (ys.take m)))) st.nx∧Ext w Z inj st.hp w Z inj (repl st.hp n (.dat i.esize (splice xs off (ys.take m)))) st.nx:=by
    intro h0;have an : splice xs off (ys.take m) = xs:=by rw [h0];simp [splice]
    rw [an]
    have g : ∀ q,find (repl st.hp n (.dat i.esize xs)) q = find st.hp q:=by
      intro q;rw [Z7];by_cases hq : n = q
      · subst hq;have : find st.hp n = some (.dat i.esize xs):=hb;simp [this]
      · simp [hq]
    constructor
    · exact ⟨fun q b hq=>h.heap.blk q b (by rw [g] at hq;exact hq),fun q r b c p' q' h1 h2=>h.heap.sep q r b c p' q' (by rw [g] at h1;exact h1) (by rw [g] at h2;exact h2),fun q b p' h1=>h.heap.out q b p' (by rw [g] at h1;exact h1),h.heap.zs,h.heap.zc⟩
    · exact {Ext.refl (w:=w) (Z:=Z) (inj:=inj) (hp:=st.hp) (pin:=st.nx) with imm:=fun b hb=>by obtain ⟨q,blk,o,h1,h2,h3⟩:=hb;rw [g] at h1;exact .inl ⟨q,blk,o,h1,h2,h3⟩}
  have af : ∀ w' inj' nx',RelV w' Z inj' nx' (.d (.int .i64 ((min ys.length len : Nat) : Int))) (.int .i64 (m : Nat)):=fun _ _ _=>.d (.int _ _);by_cases h0 : m = 0
  · obtain ⟨s1,s2⟩:=same h0
    cases au with
    | hsnil=>exact ⟨_,w,inj,s none _ _ rfl rfl w rfl,af _ _ _,s1,s2,rfl,Nat.le_refl _⟩
    | @hs _ _ _ _ cap adr hn' hlc _ hcap=>exact ⟨_,w,inj,s (some adr) _ _ rfl rfl w (by show (storeCells _ _).run P w = _;rw [h0];simp [storeCells]),af _ _ _,s1,s2,rfl,Nat.le_refl _⟩
  · cases au with
    | hsnil=>omega
    | @hs _ _ _ _ cap adr hn' hlc _ hcap=>
      obtain ⟨b,o,hi,rfl,ay⟩:=hcap q0;rcases q3 with ⟨_,q4⟩ | ⟨b',o',arr,aq,q3,q4,q5⟩
      · grind
      rw [hi] at q3;cases q3;have hL : (L1.take (m * i.esize)).length = m * i.esize:=by rw [List.length_take,Nat.min_eq_left q0]
      have ae:=bp.take (m:=m) (by simp;omega)
      have bi : o + (off + cap) * i.esize≤arr.size:=by
        obtain ⟨c,e2,f,k1,k2⟩:=ay;grind
      have cg : m * i.esize≤cap * i.esize:=Nat.mul_le_mul_right _ q0;rw [Nat.add_mul] at bi;have aa:=run_storeCells_at P b (o + off * i.esize) aq (L1.take (m * i.esize)) 0 arr w q4 (by rw [hL];omega) (ae.one g7);simp only [Nat.add_zero] at aa;have an : (arr.toList.take (o + off * i.esize) ++ L1.take (m * i.esize) ++ arr.toList.drop (o + off * i.esize + (L1.take (m * i.esize)).length)).toArray = (splice arr.toList (o + off * i.esize) (L1.take (m * i.esize))).toArray:=rfl;rw [an] at aa;have ao : o + off * i.esize + (L1.take (m * i.esize)).length≤arr.toList.length:=by rw [hL];simp;omega
      have ac : (splice arr.toList (o + off * i.esize) (L1.take (m * i.esize))).toArray.size = arr.size:=by simp only [List.size_toArray];rw [q2j _ _ _ ao];simp
      have hz : ∀ b1,Z b1→(w.setRow b (splice arr.toList (o + off * i.esize) (L1.take (m * i.esize))).toArray).heap[b1]? = w.heap[b1]?:=fun b1 bs=>
        setRow_other w b b1 _ (fun e=>h.heap.out n _ _ hb l hi (by rw [← e];exact bs))
      have bh:=q36 w b arr _ aq (0,0) q4 ac;have cf : (ys.take m).length = m:=by rw [List.length_take,Nat.min_eq_left q0]
      refine ⟨_,_,inj,s (some ⟨b,o + off * i.esize,none⟩) _ _ rfl rfl _ aa,af _ _ _,?_,Ext.set h.heap hb l hi q4 ac,rfl,Nat.le_refl _⟩;refine h.heap.set hb l hi q4 ac (q73 (es:=i.esize) (xs:=splice (xs.map (·.map V.d)) off ((ys.map (·.map V.d)).take m)) ?_ g7 ?_ (.inr ⟨b,o,_,aq,hi,setRow_heap w b _ _ _ _ q4,?_⟩))
      · simp only [rowsOf,splice,List.map_append,List.map_take,List.map_drop,Option.some.injEq,Prod.mk.injEq,true_and];simp
      · intro i' x' am;rw [Ue _ _ _ _ (by simp;omega)] at am;split at am
        · exact ae.2.1 _ _ am
        grind
      · refine (q5.spliceRows q2 ae (by simp;omega) (by rw [hL];omega)).mono fun v x hr=>hr.mono hz (fun _ h=>h) bh (fun _ _=>rfl) (Nat.le_refl _)
theorem qvf {t ty : TypeId} {i : TI} {sv v : V} {vs : Value} {st1 : AS} (h : RelS w Z inj st a Ds) (ht : tiOf P t = some i) (ax : i.kind = .slice) (bg : J5 i.esize sv = true) (s : RelV w Z inj st.nx sv vs) (ha : U5 st i sv = some (v,st1)) :
    ∃ x w' inj',(Builtin.clear_ #[t] ty #[vs]).run P w = .ok x w'∧RelV w' Z inj' st1.nx v x∧RelH w' Z inj' st1.hp st1.nx∧Ext w Z inj st.hp w' Z inj' st1.hp st.nx∧st1.sl = st.sl∧st.nx≤st1.nx:=by
  obtain ⟨bi,d,z,k⟩:=Yo ht;have hk:=k.kind;unfold Zf at hk;simp only [ax] at hk;obtain ⟨e,ie,de,ze,rfl,g1,g2,g3,g4,g5,g6,g7,g8,g9,_⟩:=hk;have y : ∀ w' inj' nx',RelV w' Z inj' nx' (.d (.tup [])) (.tuple #[]):=fun _ _ _=>.d (.tup qd qd);cases sv <;> simp only [U5,reduceCtorEq] at ha
  case d x=>
    cases x <;> simp only [reduceCtorEq,Option.some.injEq,Prod.mk.injEq] at ha
    obtain ⟨rfl,rfl⟩:=ha
    cases s with | d s=>
    cases s;exact ⟨_,w,inj,by simp [Builtin.clear_,run_underlying k.und],y _ _ _,h.heap,.refl,rfl,Nat.le_refl _⟩
  case hs n es off len=>
  have bh:=Nat.eq_of_beq_eq_true bg;subst bh;split at ha <;> try simp at ha
  rename_i k0 xs hb;obtain ⟨⟨ca,rfl⟩,rfl,rfl⟩:=ha;obtain ⟨q1,q2,q3⟩:=q74 (h.heap.blk n _ hb).2 rfl;have m : live (.dat i.esize xs) = true:=rfl;by_cases h0 : len = 0
  · subst h0;have ae : splice xs off (List.replicate 0 i.ezero) = xs:=by simp [splice]
    have g : ∀ q,find (repl st.hp n (.dat i.esize (splice xs off (List.replicate 0 i.ezero)))) q = find st.hp q:=by
      intro q;rw [ae,Z7];by_cases hq : n = q
      · subst hq;have : find st.hp n = some (.dat i.esize xs):=hb;simp [this]
      · simp [hq]
    have s1 : RelH w Z inj (repl st.hp n (.dat i.esize (splice xs off (List.replicate 0 i.ezero)))) st.nx:=
      ⟨fun q b hq=>h.heap.blk q b (by rw [g] at hq;exact hq),fun q r b c p' q' h1 h2=>h.heap.sep q r b c p' q' (by rw [g] at h1;exact h1) (by rw [g] at h2;exact h2),fun q b p' h1=>h.heap.out q b p' (by rw [g] at h1;exact h1),h.heap.zs,h.heap.zc⟩
    have s2 : Ext w Z inj st.hp w Z inj (repl st.hp n (.dat i.esize (splice xs off (List.replicate 0 i.ezero)))) st.nx:=
      {Ext.refl (w:=w) (Z:=Z) (inj:=inj) (hp:=st.hp) (pin:=st.nx) with imm:=fun b hb=>by obtain ⟨q,blk,o,h1,h2,h3⟩:=hb;rw [g] at h1;exact .inl ⟨q,blk,o,h1,h2,h3⟩}
    cases s with
    | hsnil=>exact ⟨_,w,inj,by simp [Builtin.clear_,run_underlying k.und],y _ _ _,s1,s2,rfl,Nat.le_refl _⟩
    | @hs _ _ _ _ cap adr hn' hlc _ hcap=>exact ⟨_,w,inj,by simp [Builtin.clear_,run_underlying k.und],y _ _ _,s1,s2,rfl,Nat.le_refl _⟩
  · cases s with
    | hsnil=>omega
    | @hs _ _ _ _ cap adr hn' hlc _ hcap=>
      obtain ⟨b,o,hi,rfl,an⟩:=hcap q0;rcases q3 with ⟨_,q4⟩ | ⟨b',o',arr,aj,q3,q4,q5⟩
      · grind
      rw [hi] at q3;cases q3;obtain ⟨p,ah⟩ : ∃ p,p = (Builtin.zeroCells ze.cells len).toList:=⟨_,rfl⟩
      have av : ze.cells.size = i.esize:=by
        have:=(q8y (w:=w) (Z:=Z) g4).1;omega
      have hL : p.length = len * i.esize:=by rw [ah];simp [Builtin.zeroCells,av]
      have ac : ERel w Z inj st.nx i.esize ((List.replicate len i.ezero).map (·.map V.d)) p.toArray:=by
        refine ⟨by simp [hL],fun q x hx=>?_,fun q x j d hx hd=>?_⟩
        · grind
        · rw [List.getElem?_map,List.getElem?_replicate] at hx;split at hx <;> simp at hx
          rename_i hq;subst hx;rw [List.getElem?_map] at hd
          cases ad : i.ezero[j]? with
          | none=>rw [ad] at hd;cases hd
          | some d'=>
            rw [ad] at hd;cases hd;obtain ⟨c,hc,hr,ai⟩:=qhv (w:=w) (Z:=Z) g4 g5 hq ad;refine ⟨ai,c,?_,.d hr⟩;rw [ah,Array.toArray_toList];unfold Builtin.zeroCells;grind
      have bf : o + (off + cap) * i.esize≤arr.size:=by
        obtain ⟨c,e2,f,k1,k2⟩:=an;grind
      have bo : len * i.esize≤cap * i.esize:=Nat.mul_le_mul_right _ q0;rw [Nat.add_mul] at bf;have aa:=run_storeCells_at P b (o + off * i.esize) aj p 0 arr w q4 (by rw [hL];omega) (ac.one g7);simp only [Nat.add_zero] at aa;have ae : (arr.toList.take (o + off * i.esize) ++ p ++ arr.toList.drop (o + off * i.esize + p.length)).toArray = (splice arr.toList (o + off * i.esize) p).toArray:=rfl;rw [ae] at aa;have af : o + off * i.esize + p.length≤arr.toList.length:=by rw [hL];simp;omega
      have u : (splice arr.toList (o + off * i.esize) p).toArray.size = arr.size:=by simp only [List.size_toArray];rw [q2j _ _ _ af];simp
      have hz : ∀ b1,Z b1→(w.setRow b (splice arr.toList (o + off * i.esize) p).toArray).heap[b1]? = w.heap[b1]?:=fun b1 bb=>
        setRow_other w b b1 _ (fun e=>h.heap.out n _ _ hb m hi (by rw [← e];exact bb))
      have be:=q36 w b arr _ aj (0,0) q4 u
      have am : (Builtin.clear_ #[t] ty #[.slice (some ⟨b,o + off * i.esize,none⟩) len cap]).run P w = .ok (.tuple #[]) (w.setRow b (splice arr.toList (o + off * i.esize) p).toArray):=by
        obtain ⟨l,rfl⟩ : ∃ l,len = l + 1:=⟨len - 1,q0⟩
        have az : (zeroValue e).run P w = .ok ze w:=by simp [zeroValue,typeInfo,g1,g3]
        rw [ah] at aa ⊢;simp [Builtin.clear_,run_underlying k.und,az,aa]
      refine ⟨_,_,inj,am,y _ _ _,?_,Ext.set h.heap hb m hi q4 u,rfl,Nat.le_refl _⟩;refine h.heap.set hb m hi q4 u (q73 (es:=i.esize) (xs:=splice (xs.map (·.map V.d)) off ((List.replicate len i.ezero).map (·.map V.d))) ?_ g7 ?_ (.inr ⟨b,o,_,aj,hi,setRow_heap w b _ _ _ _ q4,?_⟩))
      · simp only [rowsOf,splice,List.map_append,List.map_take,List.map_drop,Option.some.injEq,Prod.mk.injEq,true_and];simp
      · intro i' x' bd;rw [Ue _ _ _ _ (by simp;omega)] at bd;grind
      · refine (q5.spliceRows q2 ac (by simp;omega) (by rw [hL];omega)).mono fun v x hr=>hr.mono hz (fun _ h=>h) be (fun _ _=>rfl) (Nat.le_refl _)
end
end Go.Am
namespace Go.Am
open Go
variable {P : Program} {T : Tab}
def qbf (P : Program) (em : Bool) (k : Nat) (t : TypeId) (desc : TypeDesc) (n : Nat) : Prop:=
  ∀ w,(Kb desc = true→∀ X : Array Value,X.size = n→(Instr.checkKey em k t (.agg X)).run P w = .ok () w)∧(Kb desc = false→n = 1∧∀ x,(Instr.checkKey em k t x).run P w = .ok () w)
theorem qix {d : Bool} {k : Nat} {t : TypeId} {desc : TypeDesc} {b : TypeInfo} {n : Nat} (h : qbf P d k t desc n) (f : P.underlying t = some desc) (hi : P.info? t = some b) (hs : b.size = n) {X : Array Value} {o : Nat} (m : o + n≤X.size) (w : World) :
    ∃ v,(part t X o).run P w = .ok v w∧(Instr.checkKey d k t v).run P w = .ok () w:=by
  obtain ⟨j,c⟩:=h w
  cases a : Kb desc with
  | true=>exact ⟨.agg (X.extract o (o + n)),by simp [part,q34 f,a,Ze hi,hs],j a _ (by simp;omega)⟩
  | false=>
    obtain ⟨l,c⟩:=c a;obtain ⟨x,g⟩:=Yb (xs:=X) (i:=o) q0;exact ⟨x,by simp [part,q34 f,a,g],c x⟩
def qev (em : Bool) (k : Nat) (X : Array Value) (f : Field) (_s : PUnit) : Sem (ForInStep PUnit):=
  if f.name ≠ "_" then do
    let __do_lift ← part f.type X f.offset
    Instr.checkKey em k f.type __do_lift
    pure (ForInStep.yield PUnit.unit)
  else pure (ForInStep.yield PUnit.unit)
theorem qp9 {d : Nat} {t : TypeId} {ks : List (Option IntKind)} (h : Ke P d t = some ks) : ∃ a,P.underlying t = some a:=by
  cases b : P.underlying t with
  | none=>cases d <;> simp [Ke,b] at h
  | some a=>exact ⟨a,rfl⟩
theorem qiv (h : Bool) (d k : Nat) (n : ∀ t desc ks,P.underlying t = some desc→Ke P d t = some ks→qbf P h k t desc ks.length) (X : Array Value) (w : World) : ∀ (l : List Field) (o : Nat) (ks : List (Option IntKind)),
    tile P (Ke P d) o l = some ks→o + ks.length≤X.size→(forIn l PUnit.unit (qev h k X) : Sem PUnit).run P w = .ok PUnit.unit w
  | [],_,_,_,_=>by simp
  | f::l,o,ks,ht,hl=>by
    simp only [tile] at ht
    cases a : Ke P d f.type with
    | none=>simp [a] at ht
    | some ka=>
      simp only [a] at ht
      split at ht <;> try simp at ht
      rename_i g
      obtain ⟨rfl,p,s⟩:=g
      cases c : tile P (Ke P d) (f.offset + ka.length) l with
      | none=>simp [c] at ht
      | some kb=>
        simp only [c,Option.some.injEq] at ht;subst ht
        simp only [List.length_append] at hl
        obtain ⟨u,b⟩:=qp9 a
        obtain ⟨x,j,m⟩:=qdy b
        obtain ⟨v,q,r⟩:=qix (n f.type u ka b a) b j q0 (X:=X) (o:=f.offset) q0 w
        have:=qiv h d k n X w l (f.offset + ka.length) kb c q0
        rw [List.forIn_cons]
        simp only [qev,qr p,Sem.run_bind,q,r,Result.andThen_ok]
        simpa using this
def qew (em : Bool) (k : Nat) (e : TypeId) (X : Array Value) (i : Nat) (_s : PUnit) : Sem (ForInStep PUnit):=do
  let __do_lift ← sizeOf e
  let __do_lift ← part e X (i * __do_lift)
  Instr.checkKey em k e __do_lift
  pure (ForInStep.yield PUnit.unit)
theorem qiw {b : Bool} {k : Nat} {e : TypeId} {desc : TypeDesc} {a : TypeInfo} {n : Nat} (d : qbf P b k e desc n) (c : P.underlying e = some desc) (hi : P.info? e = some a) (hs : a.size = n) {X : Array Value} (w : World) :
    ∀ (m s : Nat),(s + m) * n≤X.size→(forIn (List.range' s m) PUnit.unit (qew b k e X) : Sem PUnit).run P w = .ok PUnit.unit w
  | 0,s,_=>by simp
  | m + 1,s,hl=>by
    have j : s * n + n = (s + 1) * n:=by rw [Nat.add_mul];simp
    have h : (s + (m + 1)) * n = (s + 1) * n + m * n:=by rw [← Nat.add_mul];congr 1;omega
    obtain ⟨v,f,g⟩:=qix d c hi hs (X:=X) (o:=s * n) q0 w
    have:=qiw d c hi hs w m (s + 1) (X:=X) (by rw [Nat.add_mul (s + 1)];omega)
    rw [List.range'_succ,List.forIn_cons]
    simp only [qew,Sem.run_bind,Ze hi,hs,f,g,Result.andThen_ok]
    simpa using this
theorem qex (f : Bool) : ∀ (d : Nat) (t : TypeId) (desc : TypeDesc) (ks : List (Option IntKind)),P.underlying t = some desc→Ke P d t = some ks→∀ k,d≤k→qbf P f k t desc ks.length
  | 0,t,desc,ks,hu,hp,k,hk=>by simp [Ke] at hp
  | d + 1,t,desc,ks,hu,hp,k,hk=>by
    obtain ⟨k,rfl⟩ : ∃ k',k = k' + 1:=⟨k - 1,q0⟩
    intro w
    simp only [Ke,hu] at hp
    cases desc <;> simp only [reduceCtorEq,Option.some.injEq] at hp
    case bool=>subst hp;exact ⟨by simp [Kb],fun _=>⟨rfl,fun x=>by unfold Instr.checkKey;simp [run_underlying hu]⟩⟩
    case int k0=>subst hp;exact ⟨by simp [Kb],fun _=>⟨rfl,fun x=>by unfold Instr.checkKey;simp [run_underlying hu]⟩⟩
    case struct fs=>
      refine ⟨fun _ X p=>?_,by simp [Kb]⟩
      split at hp
      · simp at hp
      · have:=qiv (P:=P) f d k (fun t desc ks m l=>qex f d t desc ks m l k q0) X w fs.toList 0 ks hp q0
        rw [Array.forIn_toList] at this
        unfold qev at this
        unfold Instr.checkKey
        simp only [Sem.run_bind,run_underlying hu,Result.andThen_ok]
        rw [this]
        simp
    case array n e=>
      refine ⟨fun _ X p=>?_,by simp [Kb]⟩
      cases b : Ke P d e with
      | none=>simp [b] at hp
      | some a=>
        simp only [b] at hp
        split at hp
        · rename_i q
          simp only [Option.some.injEq] at hp;subst hp
          obtain ⟨o,c⟩:=qp9 b
          obtain ⟨r,g,h⟩:=qdy c
          have j : (List.replicate n a).flatten.length = n * a.length:=by simp
          have:=qiw (qex f d e o a c b k q0) c g q0 w n 0 (X:=X) (by rw [Nat.zero_add];omega)
          unfold Instr.checkKey
          simp only [Sem.run_bind,run_underlying hu,Result.andThen_ok,Std.Legacy.Range.forIn_eq_forIn_range',Std.Legacy.Range.size,Nat.sub_zero,Nat.add_sub_cancel,Nat.div_one]
          unfold qew at this
          rw [this]
          simp
        · simp at hp
section
variable {w w' : World} {Z : Nat→Prop} {inj : Inj}
theorem qbw {d : DV} {v : Value} (h : RelD w Z d v) : DRel w Z [d] #[v]:=⟨rfl,fun i x y a b=>by
  cases i with
  | zero=>simp at a b;subst a b;exact h
  | succ i=>simp at a⟩
theorem q9b {d : DV} {v : Value} (h : RelD w Z d v) (a : Zu d = true) : ∃ cs,v = .agg cs∧DRel w Z (cellsD d) cs:=by
  cases h <;> simp [Zu] at a
  rename_i ds cs c b;exact ⟨cs,rfl,c,b⟩
theorem q65 {d : DV} (a : Zu d = false) : cellsD d = [d]:=by cases d <;> simp_all [Zu,cellsD]
theorem ql7 {d : TypeId} {desc : TypeDesc} {ks : List (Option IntKind)} (k : P.underlying d = some desc) (hp : Ke P 8 d = some ks) {a b : DV} {u v : Value} (g : RelD w Z a u) (hb : RelD w Z b v)
    (h : Zu a = Kb desc) (j : Zu b = Kb desc) {r : Bool} (f : Kd ks (cellsD a) (cellsD b) = some r) : (Op.equal d u v).run P w = .ok r w:=by
  have key:=qbz (P:=P) (w:=w) (Z:=Z) 8 d desc ks k hp Op.maxDepth (by unfold Op.maxDepth;omega)
  cases c : Kb desc with
  | true=>
    obtain ⟨X,rfl,l⟩:=q9b g (h.trans c);obtain ⟨Y,rfl,m⟩:=q9b hb (j.trans c);exact (key _ _ _ _ r l m f).1 c
  | false=>
    rw [q65 (h.trans c),q65 (j.trans c)] at f;exact ((key _ _ _ _ r (qbw g) (qbw hb) f).2 c).2 u v rfl rfl
theorem qh1 {j : TypeId} {desc : TypeDesc} {ks : List (Option IntKind)} (l : P.underlying j = some desc) (hp : Ke P 8 j = some ks) {a b : DV} {u v : Value} (k : RelD w Z a u) (hb : RelD w Z b v) (d : Kb desc = false)
    {r : Bool} (c : Kd ks [a] [b] = some r) : Instr.sameNow desc u v = some r:=by
  simp only [Ke,l] at hp;cases desc <;> simp only [reduceCtorEq,Option.some.injEq] at hp <;> try (simp [Kb] at d;done)
  case bool=>
    subst hp;simp only [Kd] at c;cases a <;> cases b <;> simp only [q2r,reduceCtorEq] at c
    simp at c;subst c;cases k;cases hb;rfl
  case int k0=>
    subst hp;simp only [Kd] at c;cases a <;> cases b <;> simp only [q2r,reduceCtorEq] at c
    split at c <;> simp at c
    rename_i f h;split at f <;> simp at f
    rename_i g;obtain ⟨rfl,rfl⟩:=g;subst f c;simp at h;subst h;cases k;cases hb;simp [Instr.sameNow]
def Ents (w : World) (Z : Nat→Prop) (es : List (DV × DV)) (ents : List MapEntry) : Prop:=
  ents.length = es.length∧∀ (i : Nat) (e : DV × DV) (x : MapEntry),es[i]? = some e→ents[i]? = some x→RelD w Z e.1 x.key∧RelD w Z e.2 x.val∧Yg e.2 = true
theorem Ents.tail {e : DV × DV} {es : List (DV × DV)} {x : MapEntry} {a : List MapEntry} (h : Ents w Z (e::es) (x::a)) : RelD w Z e.1 x.key∧Ents w Z es a:=
  ⟨(h.2 0 e x rfl rfl).1,by simpa using h.1,fun i b f d c=>h.2 (i + 1) b f (by simpa using d) (by simpa using c)⟩
theorem qfc {o : TypeId} {desc : TypeDesc} {ks : List (Option IntKind)} (g : P.underlying o = some desc) (hp : Ke P 8 o = some ks) {a : DV} {u : Value} (j : RelD w Z a u) (f : Kb desc = false) :
    ∀ (es : List (DV × DV)) (d : List MapEntry) (s : Nat) (r : Option Nat),Ents w Z es d→Zj false ks a es = some r→Instr.findNow desc u d s = some (r.bind fun i=>(d[i]?).map fun x=>(s + i,x.val))
  | [],[],s,r,_,hm=>by simp only [Zj,Option.some.injEq] at hm;subst hm;rfl
  | [],x::d,_,_,h,_=>by have:=h.1;simp at this
  | e::es,[],_,_,h,_=>by have:=h.1;simp at this
  | (b,c)::es,x::d,s,r,h,hm=>by
    obtain ⟨l,m⟩:=h.tail
    simp only [Zj] at hm
    split at hm <;> try simp at hm
    rename_i n
    rw [q65 n.1,q65 n.2] at hm
    split at hm <;> try simp at hm
    · rename_i k
      subst hm
      simp [Instr.findNow,qh1 g hp j l f k]
    · rename_i k
      split at hm <;> simp at hm
      · rename_i i hi
        subst hm
        have:=qfc g hp j f es d (s + 1) _ m hi
        simp only [Instr.findNow,qh1 g hp j l f k,this]
        simp [Nat.add_comm,Nat.add_left_comm]
      · rename_i hi
        subst hm
        have:=qfc g hp j f es d (s + 1) _ m hi
        simp only [Instr.findNow,qh1 g hp j l f k,this]
        rfl
theorem qfb {m : TypeId} {desc : TypeDesc} {ks : List (Option IntKind)} (g : P.underlying m = some desc) (hp : Ke P 8 m = some ks) {a : DV} {u : Value} (j : RelD w Z a u) (f : Kb desc = true) :
    ∀ (es : List (DV × DV)) (d : List MapEntry) (s : Nat) (r : Option Nat),Ents w Z es d→Zj true ks a es = some r→(Instr.findAsking m u d s).run P w = .ok (r.bind fun i=>(d[i]?).map fun x=>(s + i,x.val)) w
  | [],[],s,r,_,hm=>by simp only [Zj,Option.some.injEq] at hm;subst hm;simp [Instr.findAsking]
  | [],x::d,_,_,h,_=>by have:=h.1;simp at this
  | e::es,[],_,_,h,_=>by have:=h.1;simp at this
  | (b,c)::es,x::d,s,r,h,hm=>by
    obtain ⟨o,n⟩:=h.tail
    simp only [Zj] at hm
    split at hm <;> try simp at hm
    rename_i k
    split at hm <;> try simp at hm
    · rename_i l
      subst hm
      simp [Instr.findAsking,ql7 g hp j o (k.1.trans f.symm) (k.2.trans f.symm) l]
    · rename_i l
      have p:=ql7 g hp j o (k.1.trans f.symm) (k.2.trans f.symm) l
      split at hm <;> simp at hm
      · rename_i i hi
        subst hm
        have:=qfb g hp j f es d (s + 1) _ n hi
        simp only [Instr.findAsking,Sem.run_bind,p,Result.andThen_ok,Bool.false_eq_true,if_false,this]
        simp [Nat.add_comm,Nat.add_left_comm]
      · rename_i hi
        subst hm
        have:=qfb g hp j f es d (s + 1) _ n hi
        simp only [Instr.findAsking,Sem.run_bind,p,Result.andThen_ok,Bool.false_eq_true,if_false,this]
        rfl
theorem qsj {g : TypeId} {desc : TypeDesc} {ks : List (Option IntKind)} (d : P.underlying g = some desc) (hp : Ke P 8 g = some ks) {a : DV} {u : Value} (j : RelD w Z a u) (l : Zu a = Kb desc)
    {es : List (DV × DV)} {b : List MapEntry} {r : Option Nat} (h : Ents w Z es b) (f : Zj (Kb desc) ks a es = some r) : (Instr.findKey g u b).run P w = .ok (r.bind fun i=>(b[i]?).map fun x=>(i,x.val)) w:=by
  cases c : Kb desc with
  | false=>
    rw [c] at f;have:=qfc d hp j c es b 0 r h f;simp only [Nat.zero_add] at this;simp only [Instr.findKey,Sem.run_bind,run_underlying d,Result.andThen_ok,this];simp
  | true=>
    rw [c] at f;have:=qfb d hp j c es b 0 r h f;simp only [Nat.zero_add] at this
    cases b with
    | nil=>
      rw [← this];simp [Instr.findKey,run_underlying d,Instr.findNow,Instr.findAsking]
    | cons e es=>
      have k : Instr.findNow desc u (e::es) 0 = none:=by
        cases desc <;> simp [Kb] at c <;> simp [Instr.findNow,Instr.sameNow]
      simp only [Instr.findKey,Sem.run_bind,run_underlying d,Result.andThen_ok,k];exact this
theorem qer : ∀ {ks : List (Option IntKind)} {xs ys : List DV} {X Y : List Value},Kd ks xs ys = some true→(X.length = xs.length)→(Y.length = ys.length)→
    (∀ (i : Nat) (d : DV) (c : Value),xs[i]? = some d→X[i]? = some c→RelD w Z d c)→(∀ (i : Nat) (d : DV) (c : Value),ys[i]? = some d→Y[i]? = some c→RelD w Z d c)→∀ n,X.length = Y.length∧(Y.zip X).all (fun (x,y)=>Instr.sameBits n x y) = true
  | [],[],[],[],[],_,_,_,_,_,n=>⟨rfl,rfl⟩
  | [],[],[],_::_,_,_,h,_,_,_,_=>by simp at h
  | [],[],[],[],_::_,_,_,h,_,_,_=>by simp at h
  | [],[],_::_,_,_,h,_,_,_,_,_=>by simp [Kd] at h
  | [],_::_,_,_,_,h,_,_,_,_,_=>by simp [Kd] at h
  | _::_,[],_,_,_,h,_,_,_,_,_=>by simp [Kd] at h
  | _::_,_::_,[],_,_,h,_,_,_,_,_=>by simp [Kd] at h
  | k::ks,a::xs,b::ys,[],_,_,h,_,_,_,_=>by simp at h
  | k::ks,a::xs,b::ys,_::_,[],_,_,h,_,_,_=>by simp at h
  | k::ks,a::xs,b::ys,x::X,y::Y,h,l1,l2,r1,r2,n=>by
    simp only [Kd] at h
    split at h <;> simp at h
    rename_i p q hp m
    obtain ⟨rfl,rfl⟩:=h
    obtain ⟨r,o⟩:=qer m (by simpa using l1) (by simpa using l2) (fun i d c hd g=>r1 (i + 1) d c (by simpa using hd) (by simpa using g)) (fun i d c hd g=>r2 (i + 1) d c (by simpa using hd) (by simpa using g)) n
    have j:=r1 0 a x rfl rfl
    have l:=r2 0 b y rfl rfl
    refine ⟨by simp [r],?_⟩
    simp only [List.zip_cons_cons,List.all_cons,o,Bool.and_true]
    cases k with
    | none=>
      cases a <;> cases b <;> simp only [q2r,reduceCtorEq] at hp
      simp at hp;subst hp
      cases j;cases l;cases n <;> simp [Instr.sameBits]
    | some k=>
      cases a <;> cases b <;> simp only [q2r,reduceCtorEq] at hp
      split at hp <;> simp at hp
      rename_i f
      obtain ⟨rfl,rfl⟩:=f
      subst hp
      cases j;cases l;cases n <;> simp [Instr.sameBits]
theorem qtu {ks : List (Option IntKind)} {ag : Bool} {a b : DV} {u v : Value} (k : RelD w Z a u) (hb : RelD w Z b v) (l : Zu a = ag) (m : Zu b = ag) (h : Kd ks (cellsD a) (cellsD b) = some true) :
    (Instr.keyThatStays v u).run P w = .ok u w:=by
  have hs : Instr.sameBits 10000 v u = true:=by
    cases ag with
    | true=>
      obtain ⟨X,rfl,g,f⟩:=q9b k l;obtain ⟨Y,rfl,o,p⟩:=q9b hb m;obtain ⟨n,r⟩:=qer (X:=X.toList) (Y:=Y.toList) h (by simpa using g.symm) (by simpa using o.symm) (fun i d c hd j=>f i d c hd (by simpa using j)) (fun i d c hd j=>p i d c hd (by simpa using j)) 9999;have q : (Y.size == X.size) = true:=by simp at n;simp [n]
      show (Y.size == X.size && (Y.toList.zip X.toList).all fun (x,y)=>Instr.sameBits 9999 x y) = true;grind
    | false=>
      rw [q65 l,q65 m] at h;have:=(qer (X:=[u]) (Y:=[v]) h rfl rfl (fun i d c g f=>(qbw k).2 i d c g (by simpa using f)) (fun i d c g f=>(qbw hb).2 i d c g (by simpa using f)) 10000).2;simp_all
  simp [Instr.keyThatStays,hs]
end
theorem qki {w : World} {a : Addr} (h : ∀ c e f,w.heap[a.block]?≠some (.cells c e f)) : w.frozen? a = false:=by
  unfold World.frozen?;grind
theorem qfi {w : World} {b : Nat} {o : Obj} (h : ∀ c e f,w.heap[b]?≠some (.cells c e f)) (j : ∀ c e f,o≠.cells c e f) (a : Addr) : (w.putObj b o).frozen? a = w.frozen? a:=by
  by_cases hb : a.block = b
  · subst hb;rw [qki h,qki];intro c e f;by_cases d : a.block < w.heap.size
    · rw [World.putObj_heap_same d];intro g;exact j _ _ _ (qe3 g)
    simp_all
  · simp only [World.frozen?,World.putObj_heap_other hb]
theorem q5z {w : World} {b : Nat} {es : Array MapEntry} {cl : Nat} (hb : w.heap[b]? = some (.map es cl)) : (getObj b).run P w = .ok (.map es cl) w:=by simp [getObj,Sem.run,hb]
theorem qd5 {w : World} {b : Nat} {es : Array MapEntry} {cl : Nat} (o : Obj) (hb : w.heap[b]? = some (.map es cl)) : (setObj b o).run P w = .ok () (w.putObj b o):=by simp [setObj,Sem.run,hb,World.putObj]
section
variable {w : World} {Z : Nat→Prop} {inj : Inj} {hp : List (Nat × Blk)} {nx pin : Nat}
theorem qxh {n : Nat} {es : List (DV × DV)} (h : RelB w Z inj nx n (.mp es)) : ∃ b a cl,inj n = some (b,0)∧w.heap[b]? = some (.map a cl)∧Ents w Z es a.toList:=by
  obtain ⟨b,a,cl,j,f,d,g⟩:=h;exact ⟨b,a,cl,j,f,by simpa using d,fun i e x k c=>g i e x k (by simpa using c)⟩
theorem qn5 (h : RelH w Z inj hp nx) {n : Nat} {es j : List (DV × DV)} (u : find hp n = some (.mp es)) {b : Nat} (hi : inj n = some (b,0)) {ac a : Array MapEntry} {cl cl' : Nat} (hb : w.heap[b]? = some (.map ac cl))
    (hE : Ents w Z j a.toList) : RelH (w.putObj b (.map a cl')) Z inj (repl hp n (.mp j)) nx∧Ext w Z inj hp (w.putObj b (.map a cl')) Z inj (repl hp n (.mp j)) pin:=by
  have g : ∀ k,k≠b→(w.putObj b (.map a cl')).heap[k]? = w.heap[k]?:=fun k l=>World.putObj_heap_other l
  have aj : ¬ Z b:=fun hz=>by
    obtain ⟨c,e,f,hc⟩:=h.zc b hz;grind
  have z : J1 w (w.putObj b (.map a cl')):=fun k c e f l=>by grind
  have hz : ∀ k,Z k→(w.putObj b (.map a cl')).heap[k]? = w.heap[k]?:=fun k l=>g k (fun e=>aj (e ▸ l))
  have d : ∀ m c,find (repl hp n (.mp j)) m = some c→(m = n∧c = .mp j)∨(m≠n∧find hp m = some c):=by
    intro m c hm;rw [Z7] at hm;grind
  have ab : ∀ k,im (repl hp n (.mp j)) inj k→im hp inj k:=by
    rintro k ⟨m,c,o,h1,h2,t⟩;rcases d m c h1 with ⟨rfl,rfl⟩ | ⟨_,s⟩
    · exact ⟨m,_,o,u,rfl,t⟩
    · exact ⟨m,c,o,s,h2,t⟩
  have y : RelB (w.putObj b (.map a cl')) Z inj nx n (.mp j):=by
    refine ⟨b,a,cl',hi,World.putObj_heap_same (Jb hb),by simpa using hE.1,fun i e x he hx=>?_⟩;obtain ⟨g1,g2,g3⟩:=hE.2 i e x he (by simpa using hx);exact ⟨g1.mono hz (fun _ h=>h),g2.mono hz (fun _ h=>h),g3⟩
  refine ⟨⟨?_,?_,?_,?_,?_⟩,⟨qd,?_,fun k l=>.inl (ab k l),z,?_,fun _ h=>h,fun _ h=>.inl h,fun _ _=>rfl,rfl,rfl,rfl,qfi (fun _ _ _=>by rw [hb];simp) (fun _ _ _=>qd)⟩⟩
  · intro m c hm;rcases d m c hm with ⟨rfl,rfl⟩ | ⟨r,s⟩
    · exact ⟨(h.blk _ _ u).1,y⟩
    · obtain ⟨v,h6⟩:=h.blk m c s;exact ⟨v,h6.mono hz (fun _ h=>h) z (fun _ _=>rfl) (Nat.le_refl _) v fun p hp ai=>g _ fun e=>h.sep m n c _ p (b,0) s u ai rfl hp hi r e⟩
  · intro m m' c c' p q h1 h2 t s v h6 r;rcases d m c h1 with ⟨rfl,rfl⟩ | ⟨e1,k1⟩ <;> rcases d m' c' h2 with ⟨rfl,rfl⟩ | ⟨e2,k2⟩
    · omega
    · exact h.sep _ _ _ _ p q u k2 rfl s v h6 r
    · exact h.sep _ _ _ _ p q k1 u t rfl v h6 r
    · exact h.sep _ _ _ _ p q k1 k2 t s v h6 r
  · intro m c p h1 h2 t;rcases d m c h1 with ⟨rfl,rfl⟩ | ⟨e1,k1⟩
    · grind
    · exact h.out _ _ p k1 h2 t
  · intro k l;simpa using h.zs k l
  · intro k l;obtain ⟨c,e,f,hc⟩:=h.zc k l;grind
  · intro k _ l;exact g k fun e=>l ⟨n,_,0,u,rfl,e ▸ hi⟩
  · intro k x l;grind
end
section
variable {w : World} {Z : Nat→Prop} {inj : Inj} {st : AS} {a : Act} {Ds : List Nat}
theorem qvr {t : TypeId} (h : RelS w Z inj st a Ds) : Kg st (st.new (.mp [])) (.mp st.nx) w Z inj ((do pure (Next.value (← Instr.makeMap t none)) : Sem Next).run P w):=by
  refine .new (o:=.map #[] 0) (x:=.map (some w.heap.size)) h ?_ ?_ (.mp q0 (Kz _ _ _))
  · simp [Instr.makeMap]
  · exact ⟨w.heap.size,#[],0,Kz _ _ _,U3 w _,rfl,qd⟩
theorem q69 {t : TypeId} {i : TI} {ks : List (Option IntKind)} {n : Nat} {es : List (DV × DV)} {o : DV} {mv s : Value} {r : Option Nat} (h : RelS w Z inj st a Ds) (ht : tiOf P t = some i) (hk : i.keys = some ks) (hm : RelV w Z inj st.nx (.mp n) mv)
    (hb : st.blk n = some (.mp es)) (m : RelD w Z o s) (p : Uo i.eagg ks o = true) (hf : Zj i.eagg ks o es = some r) :
    ∃ j et b c cl,P.underlying t = some (.map j et)∧mv = .map (some b)∧inj n = some (b,0)∧w.heap[b]? = some (.map c cl)∧Ents w Z es c.toList∧(∀ y,(Instr.checkKey y 10000 j s).run P w = .ok () w)∧
      (Instr.findKey j s c.toList).run P w = .ok (r.bind fun i=>(c[i]?).map fun x=>(i,x.val)) w∧∃ u q,i.ezero = [u]∧(zeroValue et).run P w = .ok q w∧RelD w Z u q:=by
  obtain ⟨ad,d,z,k⟩:=Yo ht;have g:=k.kind;unfold Zf at g;rw [k.keys ks hk] at g;obtain ⟨j,e,ie,q,u,al,dk,rfl,g1,g2,g3,g4,g5,g6,g7,g8,_⟩:=g;rw [hk] at g6;cases g6
  have f : Zu o = i.eagg∧(cellsD o).length = ks.length:=by
    simp only [Uo,Bool.and_eq_true,beq_iff_eq] at p;simp_all
  obtain ⟨f,l⟩:=f
  cases hm with
  | @mp _ b hn hi=>
  obtain ⟨b',c,cl,e1,e2,e3⟩:=qxh (h.heap.blk n _ hb).2;rw [hi] at e1;cases e1;rw [g8] at f hf;refine ⟨j,e,b,c,cl,k.und,rfl,hi,e2,e3,fun y=>?_,?_,u,q,g7,?_,(qf0 g3).1⟩
  · have hc:=qex y 8 j dk ks g5 g4 10000 q0 w
    cases v : Kb dk with
    | true=>
      obtain ⟨X,rfl,hX⟩:=q9b m (f.trans v);exact (hc.1 v) X (hX.1.symm.trans l)
    | false=>exact (hc.2 v).2 s
  · have:=qsj g5 g4 m f e3 hf;grind
  · simp [zeroValue,typeInfo,g1,g2]
theorem qf6 {es : List (DV × DV)} {a : List MapEntry} (h : Ents w Z es a) {j : Nat} {e : DV × DV} (c : es[j]? = some e) : ∃ x,a[j]? = some x∧RelD w Z e.1 x.key∧RelD w Z e.2 x.val∧Yg e.2 = true:=by
  obtain ⟨x,b⟩:=Zr (xs:=a) (i:=j) (by rw [h.1];exact Kc c);exact ⟨x,b,h.2 j e x c b⟩
theorem qg7 {ag : Bool} {ks : List (Option IntKind)} {k : DV} : ∀ {es : List (DV × DV)} {j : Nat},Zj ag ks k es = some (some j)→∃ e,es[j]? = some e∧Zu e.1 = ag∧Kd ks (cellsD k) (cellsD e.1) = some true
  | [],j,h=>by simp [Zj] at h
  | (b,c)::es,j,h=>by
    simp only [Zj] at h
    split at h <;> try simp at h
    rename_i d
    split at h <;> try simp at h
    · rename_i g;subst h;exact ⟨_,rfl,d.2,g⟩
    · split at h <;> simp at h
      rename_i i hi
      subst h
      obtain ⟨e,f,a⟩:=qg7 hi
      exact ⟨e,by simpa using f,a⟩
theorem qvp {t : TypeId} {x y : Operand} {ok : Bool} {i : TI} {ks : List (Option IntKind)} {n : Nat} {es : List (DV × DV)} {kd z : DV} {e : DV × Bool} (h : RelS w Z inj st a Ds) (ht : tiOf P t = some i) (hk : i.keys = some ks) (hx : st.ev x = some (.mp n)) (hy : st.ev y = some (.d kd))
    (hb : st.blk n = some (.mp es)) (hz : i.ezero = [z]) (k : Uo i.eagg ks kd = true) (p : mget i.eagg ks z kd es = some e) :
    Kg st st (.d (bif ok then .tup [e.1,.bool e.2] else e.1)) w Z inj ((do pure (Next.value (← Instr.lookup t (a.eval x) (a.eval y) ok)) : Sem Next).run P w):=by
  have hm:=Ka h hx;have f:=Ka h hy;generalize a.eval x = mv at hm ⊢;generalize a.eval y = kv at f ⊢
  cases f with | d f=>
  have fin : ∀ (u : Value) (o : Bool) (dv : DV),RelD w Z dv u→e = (dv,o)→(Instr.lookup t mv kv ok).run P w = .ok (if ok then .tuple #[u,.bool o] else u) w→Kg st st (.d (bif ok then .tup [e.1,.bool e.2] else e.1)) w Z inj ((do pure (Next.value (← Instr.lookup t mv kv ok)) : Sem Next).run P w):=by
    rintro u o dv hr rfl m;refine .quiet h (Kf m) (.d ?_)
    cases ok with
    | false=>exact hr
    | true=>
      refine .tup rfl fun i d c hd l=>?_
      match i,hd,l with
      | 0,hd,l=>simp at hd l;subst hd l;exact hr
      | 1,hd,l=>simp at hd l;subst hd l;exact .bool _
      | i + 2,hd,_=>simp at hd
  unfold mget at p;split at p <;> try simp at p
  · rename_i j hf;obtain ⟨a1,b1,v,rfl⟩:=p;obtain ⟨kt,et,b,g,cl,g1,rfl,g3,s,g5,g6,q,_⟩:=q69 h ht hk hm hb f k hf;obtain ⟨u,hu,q1,q2,q3⟩:=qf6 g5 v;refine fin u.val true _ q2 rfl ?_;have ag : g[j]? = some u:=by simpa using hu
    simp [Instr.lookup,run_underlying g1,q5z s,g6,q,ag]
  · rename_i hf;subst p;obtain ⟨kt,et,b,g,cl,g1,rfl,g3,s,g5,g6,q,zd,ze,g8,g9,r⟩:=q69 h ht hk hm hb f k hf;rw [hz] at g8;cases g8;refine fin ze false _ r rfl ?_;simp only [Option.bind_none] at q;simp [Instr.lookup,run_underlying g1,q5z s,g6,q,g9]
theorem qs7 {es : List (DV × DV)} {a : List MapEntry} (h : Ents w Z es a) {f b : DV} {x : MapEntry} (k : RelD w Z f x.key) (j : RelD w Z b x.val) (g : Yg b = true) : Ents w Z (es ++ [(f,b)]) (a ++ [x]):=by
  refine ⟨by simp [h.1],fun i e y d c=>?_⟩;by_cases hi : i < es.length
  · rw [List.getElem?_append_left hi] at d;rw [List.getElem?_append_left (by rw [h.1];exact hi)] at c;exact h.2 i e y d c
  · rw [List.getElem?_append_right q0] at d;rw [List.getElem?_append_right (by rw [h.1];omega),h.1] at c;grind
theorem qs8 {es : List (DV × DV)} {a : List MapEntry} (h : Ents w Z es a) {j : Nat} {g b : DV} {x : MapEntry} (m : RelD w Z g x.key) (l : RelD w Z b x.val) (k : Yg b = true) : Ents w Z (es.set j (g,b)) (a.set j x):=by
  refine ⟨by simp [h.1],fun i e y f d=>?_⟩;rw [List.getElem?_set] at f d;by_cases c : j = i
  · grind
  · rw [qq c] at f d;exact h.2 i e y f d
theorem qs6 {es : List (DV × DV)} {a : List MapEntry} (h : Ents w Z es a) (j : Nat) : Ents w Z (es.eraseIdx j) (a.eraseIdx j):=by
  refine ⟨by simp [List.length_eraseIdx,h.1],fun i e y c b=>?_⟩;rw [List.getElem?_eraseIdx] at c b;split at c
  · rename_i hi;rw [qr hi] at b;exact h.2 i e y c b
  · rename_i hi;rw [qq hi] at b;exact h.2 (i + 1) e y c b
theorem qvt {t : TypeId} {m x y : Operand} {i : TI} {ks : List (Option IntKind)} {n : Nat} {es o : List (DV × DV)} {kd vd : DV} (h : RelS w Z inj st a Ds) (ht : tiOf P t = some i) (hk : i.keys = some ks) (r : st.ev m = some (.mp n)) (hx : st.ev x = some (.d kd)) (hy : st.ev y = some (.d vd))
    (hb : st.blk n = some (.mp es)) (k : Uo i.eagg ks kd = true) (hc : Yg vd = true) (s : mput i.eagg ks kd vd es = some o) :
    Kg st (st.setBlk n (.mp o)) .dead w Z inj ((do Instr.mapUpdate t (a.eval m) (a.eval x) (a.eval y);pure Next.skip : Sem Next).run P w):=by
  have r:=Ka h r;have f:=Ka h hx;have l:=Ka h hy;generalize a.eval m = mv at r ⊢;generalize a.eval x = kv at f ⊢;generalize a.eval y = vv at l ⊢
  cases f with | d f=>
  cases l with | d l=>
  have z : Zu kd = i.eagg:=by simp only [Uo,Bool.and_eq_true,beq_iff_eq] at k;exact k.1
  have fin : ∀ b c cl g cl',inj n = some (b,0)→w.heap[b]? = some (.map c cl)→Ents w Z o g.toList→(Instr.mapUpdate t mv kv vv).run P w = .ok () (w.putObj b (.map g cl'))→
      Kg st (st.setBlk n (.mp o)) .dead w Z inj ((do Instr.mapUpdate t mv kv vv;pure Next.skip : Sem Next).run P w):=by
    intro b c cl g cl' hi hh hE q
    obtain ⟨v,g2⟩:=qn5 (pin:=st.nx) (cl':=cl') h.heap hb hi hh hE
    exact ⟨undef,_,inj,.inr ⟨by simp [q],rfl⟩,.dead _,v,g2,rfl,Nat.le_refl _⟩
  unfold mput at s;split at s <;> try simp at s
  · rename_i j hf;subst s;obtain ⟨kt,et,b,c,cl,v,rfl,g3,p,g5,g6,g7,_⟩:=q69 h ht hk r hb f k hf;obtain ⟨e,he,e1,e2⟩:=qg7 hf;obtain ⟨u,hu,q1,q2,q3⟩:=qf6 g5 he;have ag : c[j]? = some u:=by simpa using hu
    have ae:=qtu (P:=P) f q1 z e1 e2;refine fin b c cl (c.modify j fun e=>{e with key:=kv,val:=vv}) cl g3 p ?_ ?_
    · have : (c.modify j fun e=>{e with key:=kv,val:=vv}).toList = c.toList.set j {u with key:=kv,val:=vv}:=by
        apply List.ext_getElem?;grind
      rw [this];exact qs8 g5 f l hc
    · simp [Instr.mapUpdate,run_underlying v,q5z p,g6,g7,ag,ae,qd5 _ p]
  · rename_i hf;subst s;obtain ⟨kt,et,b,c,cl,v,rfl,g3,p,g5,g6,g7,_⟩:=q69 h ht hk r hb f k hf;simp only [Option.bind_none] at g7;refine fin b c cl (c.push {key:=kv,val:=vv,born:=cl}) (cl + 1) g3 p ?_ ?_
    · rw [Array.toList_push];exact qs7 g5 f l hc
    · simp [Instr.mapUpdate,run_underlying v,q5z p,g6,g7,qd5 _ p]
theorem qvi {x : Array TypeId} {ty t : TypeId} {mv z : Value} {i : TI} {ks : List (Option IntKind)} {n : Nat} {es k : List (DV × DV)} {kd : DV} (h : RelS w Z inj st a Ds) (ht : tiOf P t = some i) (s : x[0]? = some t) (hk : i.keys = some ks) (hm : RelV w Z inj st.nx (.mp n) mv) (o : RelD w Z kd z)
    (hb : st.blk n = some (.mp es)) (l : Uo i.eagg ks kd = true) (q : mdel i.eagg ks kd es = some k) :
    Kg st (st.setBlk n (.mp k)) (.d (.tup [])) w Z inj ((do pure (Next.value (← Builtin.delete_ x ty #[mv,z])) : Sem Next).run P w):=by
  have fin : ∀ b f cl g cl',inj n = some (b,0)→w.heap[b]? = some (.map f cl)→Ents w Z k g.toList→(Builtin.delete_ x ty #[mv,z]).run P w = .ok (.tuple #[]) (w.putObj b (.map g cl'))→
      Kg st (st.setBlk n (.mp k)) (.d (.tup [])) w Z inj ((do pure (Next.value (← Builtin.delete_ x ty #[mv,z])) : Sem Next).run P w):=by
    intro b f cl g cl' hi hh hE p
    obtain ⟨r,g2⟩:=qn5 (pin:=st.nx) (cl':=cl') h.heap hb hi hh hE
    exact ⟨.tuple #[],_,inj,.inl (Kf p),.d (.tup rfl fun i d c hd _=>by simp at hd),r,g2,rfl,Nat.le_refl _⟩
  unfold mdel at q;split at q <;> try simp at q
  · rename_i j y;subst q;obtain ⟨kt,et,b,f,cl,r,rfl,g3,m,v,g6,g7,_⟩:=q69 h ht hk hm hb o l y;obtain ⟨e,he,e1,e2⟩:=qg7 y;obtain ⟨u,hu,q1,q2,q3⟩:=qf6 v he;have ac : f[j]? = some u:=by simpa using hu
    refine fin b f cl (f.eraseIdxIfInBounds j) cl g3 m ?_ ?_
    · rw [Array.toList_eraseIdxIfInBounds];exact qs6 v j
    · simp [Builtin.delete_,s,run_underlying r,q5z m,g6,g7,ac,qd5 _ m]
  · rename_i y;subst q;obtain ⟨kt,et,b,f,cl,r,rfl,g3,m,v,g6,g7,_⟩:=q69 h ht hk hm hb o l y;simp only [Option.bind_none] at g7;refine fin b f cl f cl g3 m v ?_;simp [Builtin.delete_,s,run_underlying r,q5z m,g6,g7,qd5 _ m]
end
end Go.Am
