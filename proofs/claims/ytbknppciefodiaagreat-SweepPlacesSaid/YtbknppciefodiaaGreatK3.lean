/- Am13 Am14 Am15 Am16 Am16m -/
import Derived.Test.YtbknppciefodiaaGreatK2
import Derived.Deep.AppendSrc
import Derived.Room.Entries
import Derived.RangeFuncRecord
namespace Go.Am
open Go
variable {P : Program} {T : Tab}
def RowV (w : World) (Z : Nat→Prop) (inj : Inj) (nx : Nat) (arr : Array Value) (o es : Nat) (xs : List (List V)) : Prop:=
  ∀ (i : Nat) (x : List V) (j : Nat) (d : V),xs[i]? = some x→x[j]? = some d→Ko d = true∧∃ c,arr[o + (i * es + j)]? = some c∧RelV w Z inj nx d c
section
variable {w : World} {Z : Nat→Prop} {inj : Inj} {nx : Nat}
theorem RowV.mono {w' : World} {inj' : Inj} {nx' : Nat} {arr : Array Value} {o es : Nat} {xs : List (List V)} (h : RowV w Z inj nx arr o es xs) (a : ∀ v x,RelV w Z inj nx v x→RelV w' Z inj' nx' v x) : RowV w' Z inj' nx' arr o es xs:=
  fun i x j d b hd=>let ⟨h1,c,h2,h3⟩:=h i x j d b hd;⟨h1,c,h2,a _ _ h3⟩
def rowsOf : Blk→Option (Nat × List (List V))
  | .dat es xs=>some (es,xs.map (·.map .d))
  | .cel es xs=>some (es,xs)
  | _=>none
theorem q7d {n : Nat} {b : Blk} {es : Nat} {xs : List (List V)} (h : RelB w Z inj nx n b) (g : rowsOf b = some (es,xs)) :
    es≠0∧(∀ (i : Nat) (x : List V),xs[i]? = some x→x.length = es)∧((xs = []∧inj n = none)∨∃ b o arr ty,inj n = some (b,o)∧w.heap[b]? = some (.cells arr ty (0,0))∧RowV w Z inj nx arr o es xs):=by
  cases b <;> simp only [rowsOf,reduceCtorEq,Option.some.injEq,Prod.mk.injEq] at g
  · obtain ⟨rfl,rfl⟩:=g;obtain ⟨q,l,a⟩:=h;refine ⟨q,?_,?_⟩
    · intro i x f;simp only [List.getElem?_map,Yc] at f;obtain ⟨y,m,rfl⟩:=f;simpa using l i y m
    · rcases a with ⟨a,p⟩ | ⟨b,o,arr,ty,a,p,v⟩
      · exact .inl ⟨by simp [a],p⟩
      · refine .inr ⟨b,o,arr,ty,a,p,fun i x j d f hd=>?_⟩;simp only [List.getElem?_map,Yc] at f;obtain ⟨y,m,rfl⟩:=f;simp only [List.getElem?_map,Yc] at hd;obtain ⟨r,k,rfl⟩:=hd;obtain ⟨s,c,u,t⟩:=v i y j r m k;exact ⟨s,c,u,.d t⟩
  · obtain ⟨rfl,rfl⟩:=g;obtain ⟨q,l,a⟩:=h;exact ⟨q,l,a⟩
theorem q7c {n : Nat} {b : Blk} {es : Nat} {xs : List (List V)} (a : rowsOf b = some (es,xs)) (l : es≠0) (m : ∀ (i : Nat) (x : List V),xs[i]? = some x→x.length = es)
    (h : (xs = []∧inj n = none)∨∃ b o arr ty,inj n = some (b,o)∧w.heap[b]? = some (.cells arr ty (0,0))∧RowV w Z inj nx arr o es xs) : RelB w Z inj nx n b:=by
  cases b <;> simp only [rowsOf,reduceCtorEq,Option.some.injEq,Prod.mk.injEq] at a
  · obtain ⟨rfl,rfl⟩:=a;rename_i xs;refine ⟨l,fun i x g=>?_,?_⟩
    · have:=m i (x.map .d) (by simp [g]);simpa using this
    · rcases h with ⟨f,k⟩ | ⟨b,o,arr,ty,f,k,s⟩
      · exact .inl ⟨by simpa using f,k⟩
      · refine .inr ⟨b,o,arr,ty,f,k,fun i x j d g hd=>?_⟩;obtain ⟨p,c,r,q⟩:=s i (x.map .d) j (.d d) (by simp [g]) (by simp [hd]);refine ⟨p,c,r,?_⟩
        cases q with | d h=>exact h
  · obtain ⟨rfl,rfl⟩:=a;exact ⟨l,m,h⟩
theorem RowV.set {arr k : Array Value} {o es e j : Nat} {xs : List (List V)} {cs ys : List V} (h : RowV w Z inj nx arr o es xs) (y : ∀ (i : Nat) (x : List V),xs[i]? = some x→x.length = es) (q : xs[e]? = some cs) (s : LRel w Z inj nx ys k) (t : ys.all Ko = true)
    (hj : j + ys.length≤cs.length) (l : o + (e * es + j) + k.size≤arr.size) : RowV w Z inj nx (splice arr.toList (o + (e * es + j)) k.toList).toArray o es (xs.set e (splice cs j ys)):=by
  have z : k.toList.length = ys.length:=by have:=s.1;simp;omega
  have g : o + (e * es + j) + k.toList.length≤arr.toList.length:=by simpa using l
  have aa:=y e cs q;intro i x a d f hd;rw [List.getElem?_toArray,Ue _ _ _ _ g];rw [List.getElem?_set] at f;by_cases b : e = i
  · subst b;rw [qr rfl,qr (Kh q)] at f;simp at f;subst f;rw [Ue _ _ _ _ hj] at hd;by_cases m : j≤a∧a < j + ys.length
    · rw [qr m] at hd;obtain ⟨c,u⟩:=Yj (xs:=k) (i:=a - j) (by have:=s.1;omega);rw [qr q6,show o + (e * es + a) - (o + (e * es + j)) = a - j by omega];exact ⟨List.all_eq_true.1 t _ (List.mem_of_getElem? hd),c,by simpa using u,s.2 _ _ _ hd u⟩
    · rw [qp m] at hd;rw [qp q6];obtain ⟨v,c,r,n⟩:=h e cs a d q hd;exact ⟨v,c,by simpa using r,n⟩
  · rw [qp b] at f;obtain ⟨v,c,r,n⟩:=h i x a d f hd;refine ⟨v,c,?_,n⟩;have p : a < es:=by have:=Kh hd;have:=y i x f;omega
    rw [qp ?_]
    · simpa using r
    · intro u;exact b ((qk6 (i:=e) p).1 q6).symm
end
section
variable {w : World} {Z : Nat→Prop} {inj : Inj} {st : AS} {a : Act} {Ds : List Nat}
theorem q156 {t : TypeId} {a : TypeInfo} {x : Value} {b o : Nat} {arr : Array Value} {ty : TypeId} (hi : P.info? t = some a) (hs : x.cells.size = a.size) (f : ∀ c∈x.cells.toList,c.oneCell' = true)
    (hb : w.heap[b]? = some (.cells arr ty (0,0))) (d : o + x.cells.size≤arr.size) :
    (Instr.storeAt t (.pointer (some ⟨b,o,none⟩)) x).run P w = .ok () (w.setRow b (splice arr.toList o x.cells.toList).toArray):=by
  have:=run_storeCells_at P b o ty x.cells.toList 0 arr w hb (by simpa using d) f;simp only [Nat.add_zero] at this;simp only [Instr.storeAt,Instr.sureAddr,storeVar,Sem.run_bind,Sem.run_pure,Result.andThen_ok,Zl hi,Sem.run_ite];rw [qp q6];exact this
theorem qxs {t : TypeId} {i : TI} {p x : Operand} {pv v : V} {st1 : AS} (h : RelS w Z inj st a Ds) (ht : tiOf P t = some i) (hp : st.ev p = some pv) (hx : st.ev x = some v) (hs : Js st i pv v = some st1) :
    Km st st1 .dead w Z inj ((do Instr.storeAt t (a.eval p) (a.eval x);pure .skip : Sem Next).run P w):=by
  obtain ⟨av,d,z,k⟩:=Yw ht;have aj:=Kd h hp;have ae:=Kd h hx;generalize a.eval p = vp at aj ⊢;generalize a.eval x = vx at ae ⊢;cases pv <;> simp only [Js,reduceCtorEq] at hs
  rename_i n k0 e j;split at hs <;> try simp at hs
  rename_i r
  have bc : (cellsOf v).length = i.size:=by
    apply Classical.byContradiction;intro hc;exact r (.inl hc)
  have ah : (cellsOf v).all Ko = true:=by
    cases hc : (cellsOf v).all Ko with
    | true=>rfl
    | false=>exact absurd (.inr hc) r
  cases aj with | @ref _ _ _ _ b o hn hi=>
  have key : ∀ (y : Blk) (es : Nat) (xs : List (List V)) (cs : List V) (b1 : Blk),st.blk n = some y→rowsOf y = some (es,xs)→es = k0→xs[e]? = some cs→j + i.size≤cs.length→rowsOf b1 = some (es,xs.set e (splice cs j (cellsOf v)))→st1 = st.setBlk n b1→
      Km st st1 .dead w Z inj ((do Instr.storeAt t (.pointer (some ⟨b,o + (e * k0 + j),none⟩)) vx;pure .skip : Sem Next).run P w):=by
    rintro y es xs cs b1 s ap rfl g f al rfl
    obtain ⟨g1,g2,g3⟩:=q7d (h.heap.blk n y s).2 ap
    rcases g3 with ⟨g3,_⟩ | ⟨b',o',arr,ty,g3,g4,g5⟩
    · subst g3;simp at g
    · rw [hi] at g3;cases g3
      obtain ⟨c1,c2,c3⟩:=qcp ae ah
      have m : live y = true:=by cases y <;> simp_all [rowsOf,live]
      have ak:=g2 e cs g
      have ba : 0 < es:=by omega
      have am : o + (e * es + (es - 1)) < arr.size:=by
        obtain ⟨d0,au⟩:=Zw (xs:=cs) (i:=es - 1) q6;obtain ⟨_,c,hc,_⟩:=g5 e cs (es - 1) d0 g au;exact Zq hc
      have l : o + (e * es + j) + vx.cells.size≤arr.size:=by omega
      have af:=q156 (P:=P) (w:=w) k.inf (x:=vx) (by rw [k.size];omega) c3 g4 l
      have aa : (splice arr.toList (o + (e * es + j)) vx.cells.toList).toArray.size = arr.size:=by
        simp only [List.size_toArray];rw [q2g _ _ _ (by simpa using l)];simp
      have hz : ∀ b1,Z b1→(w.setRow b (splice arr.toList (o + (e * es + j)) vx.cells.toList).toArray).heap[b1]? = w.heap[b1]?:=fun b1 ar=>
        setRow_other w b b1 _ (fun e=>h.heap.out n y _ s m hi (by rw [← e];exact ar))
      have an:=q3a w b arr _ ty (0,0) g4 aa
      refine ⟨undef,_,inj,.inr ⟨by simp [af],rfl⟩,.dead _,?_,Ext.set h.heap s m hi g4 aa,rfl,Nat.le_refl _⟩
      refine h.heap.set s m hi g4 aa (q7c al g1 ?_ (.inr ⟨b,o,_,ty,hi,setRow_heap w b _ _ _ _ g4,?_⟩))
      · intro i' x' q
        rw [List.getElem?_set] at q
        by_cases ag : e = i'
        · rw [qr ag,qr (by have:=Kh g;omega)] at q
          simp at q;rw [← q,q2g _ _ _ q6];exact ak
        · rw [qp ag] at q;exact g2 _ _ q
      · exact (g5.set g2 g ⟨c1,c2⟩ ah q6 l).mono fun v x hr=>hr.mono hz (fun _ h=>h) an (fun _ _=>rfl) (Nat.le_refl _)
  cases hb : st.blk n with
  | none=>simp [hb] at hs
  | some blk=>
    cases blk with
    | dead=>simp [hb] at hs
    | loop=>simp [hb] at hs
    | mp=>simp [hb] at hs
    | dat es xs=>
      simp only [hb] at hs;split at hs <;> try simp at hs
      rename_i cs u ab;have u:=Nat.eq_of_beq_eq_true u;have g : (xs.map (·.map V.d))[e]? = some (cs.map V.d):=by simp [ab]
      split at hs
      · rename_i ds aq;simp at hs;obtain ⟨f,hs⟩:=hs;refine key _ _ _ _ _ hb rfl u.symm g (by simpa using f) ?_ hs.symm;simp only [rowsOf,Option.some.injEq,Prod.mk.injEq,true_and];rw [q5n aq];simp [splice,List.map_set,List.map_take,List.map_drop]
      · simp at hs;obtain ⟨f,hs⟩:=hs;exact key _ _ _ _ _ hb rfl u.symm g (by simpa using f) rfl hs.symm
    | cel es xs=>
      simp only [hb] at hs;split at hs <;> try simp at hs
      rename_i cs u ab;have u:=Nat.eq_of_beq_eq_true u;obtain ⟨f,hs⟩:=hs;exact key _ _ _ _ _ hb rfl u.symm ab f rfl hs.symm
end
end Go.Am
namespace Go.Am
open Go
variable {P : Program} {T : Tab}
section
variable {w : World} {Z : Nat→Prop} {inj : Inj} {nx : Nat}
def Jy (w : World) (ad : Option Addr) (L : List Value) (ys : List (List V)) : Prop:=match ad with
  | some p=>∀ (k : Nat) (u : Value),L[k]? = some u→w.cell? (p.add k) = some u
  | none=>ys = []
theorem qi8 {b o es : Nat} {xs : List (List V)} (t : es≠0) (p : ∀ (i : Nat) (x : List V),xs[i]? = some x→x.length = es)
    (h : ∀ (i : Nat) (x : List V) (j : Nat) (d : V),xs[i]? = some x→x[j]? = some d→Ko d = true∧∃ c,w.cell? ⟨b,o + (i * es + j),none⟩ = some c∧RelV w Z inj nx d c) :
    ∃ L : List Value,L.length = xs.length * es∧(∀ (k : Nat) (u : Value),L[k]? = some u→w.cell? ⟨b,o + k,none⟩ = some u)∧ERel w Z inj nx es xs L.toArray:=by
  have g : ∀ k,k < xs.length * es→∃ i x j d c,xs[i]? = some x∧x[j]? = some d∧k = i * es + j∧w.cell? ⟨b,o + k,none⟩ = some c∧RelV w Z inj nx d c:=by
    intro k a;have q : k / es < xs.length:=Nat.div_lt_of_lt_mul (by rwa [Nat.mul_comm]);have m : k % es < es:=Nat.mod_lt _ q6;obtain ⟨x,f⟩:=Zw q;obtain ⟨d,hd⟩:=Zw (xs:=x) (i:=k % es) (by rw [p _ _ f];exact m);obtain ⟨_,c,l,r⟩:=h _ _ _ _ f hd;have a : k = k / es * es + k % es:=by rw [Nat.mul_comm];exact (Nat.div_add_mod k es).symm
    exact ⟨_,_,_,_,c,f,hd,a,by rw [a];exact l,r⟩
  refine ⟨(List.range (xs.length * es)).map fun k=>(w.cell? ⟨b,o + k,none⟩).getD undef,qg,?_,?_⟩
  · intro k u n;have a : k < xs.length * es:=by have:=Kh n;simpa using this
    obtain ⟨_,_,_,_,c,_,_,_,l,_⟩:=g k a;simp [a,l] at n;rw [l,n]
  · refine ⟨qg,p,fun i x j d f hd=>?_⟩;obtain ⟨q,c,m,s⟩:=h i x j d f hd;have a:=q43 (Kh f) (show j < es by have:=Kh hd;have:=p i x f;omega);exact ⟨q,c,by simp [a,m],s⟩
theorem ERel.append {es : Nat} {xs ys : List (List V)} {A B : Array Value} (h : ERel w Z inj nx es xs A) (k : ERel w Z inj nx es ys B) : ERel w Z inj nx es (xs ++ ys) (A ++ B):=by
  obtain ⟨l,m,p⟩:=h;obtain ⟨b1,n,o⟩:=k;refine ⟨by simp [l,b1,Nat.add_mul],?_,?_⟩
  · intro i x a;rw [List.getElem?_append] at a;split at a
    · exact m _ _ a
    · exact n _ _ a
  · intro i x j d a hd;rw [List.getElem?_append] at a;split at a
    · obtain ⟨g,c,b,f⟩:=p i x j d a hd;exact ⟨g,c,by rw [Array.getElem?_append_left (Zq b)];exact b,f⟩
    · rename_i hi;obtain ⟨g,c,b,f⟩:=o _ x j d a hd;refine ⟨g,c,?_,f⟩
      have e : i * es + j = A.size + ((i - xs.length) * es + j):=by
        rw [l,← Nat.add_assoc,← Nat.add_mul];congr 2;omega
      rw [e,Array.getElem?_append_right q6,show A.size + ((i - xs.length) * es + j) - A.size = (i - xs.length) * es + j by omega];exact b
theorem ERel.row {es : Nat} {xs : List (List V)} {A B : Array Value} (h : ERel w Z inj nx es xs A) : RowV w Z inj nx (A ++ B) 0 es xs:=by
  intro i x j d f hd;obtain ⟨g,c,a,b⟩:=h.2.2 i x j d f hd;exact ⟨g,c,by rw [Nat.zero_add,Array.getElem?_append_left (Zq a)];exact a,b⟩
theorem ERel.one {es : Nat} {xs : List (List V)} {L : List Value} (o : es≠0) (h : ERel w Z inj nx es xs L.toArray) : ∀ u∈L,u.oneCell' = true:=by
  intro u n;obtain ⟨k,b⟩:=List.mem_iff_getElem?.1 n;have g:=Kh b;have m : L.length = xs.length * es:=by simpa using h.1
  have p : k / es < xs.length:=Nat.div_lt_of_lt_mul (by rw [Nat.mul_comm];omega);obtain ⟨x,f⟩:=Zw p;obtain ⟨d,hd⟩:=Zw (xs:=x) (i:=k % es) (by rw [h.2.1 _ _ f];exact Nat.mod_lt _ q6);obtain ⟨l,c,a,j⟩:=h.2.2 _ _ _ _ f hd;have e : k / es * es + k % es = k:=by rw [Nat.mul_comm];exact Nat.div_add_mod k es
  rw [e] at a;simp [b] at a;subst a;exact qhn j l
theorem ERel.mono {w' : World} {inj' : Inj} {nx' es : Nat} {xs : List (List V)} {A : Array Value} (h : ERel w Z inj nx es xs A) (a : ∀ v x,RelV w Z inj nx v x→RelV w' Z inj' nx' v x) : ERel w' Z inj' nx' es xs A:=
  ⟨h.1,h.2.1,fun i x j d b hd=>let ⟨h1,c,h2,h3⟩:=h.2.2 i x j d b hd;⟨h1,c,h2,a _ _ h3⟩⟩
theorem ERel.nil {es : Nat} : ERel w Z inj nx es [] #[]:=⟨qg,qg,qg⟩
theorem RowV.cells {arr : Array Value} {ty : TypeId} {b o es off len : Nat} {xs : List (List V)} (h : RowV w Z inj nx arr o es xs) (hb : w.heap[b]? = some (.cells arr ty (0,0))) :
    ∀ (i : Nat) (x : List V) (j : Nat) (d : V),((xs.drop off).take len)[i]? = some x→x[j]? = some d→Ko d = true∧∃ c,w.cell? ⟨b,o + off * es + (i * es + j),none⟩ = some c∧RelV w Z inj nx d c:=by
  intro i x j d a hd;rw [List.getElem?_take] at a;split at a
  · rw [List.getElem?_drop] at a;obtain ⟨k,c,g,f⟩:=h _ x j d a hd;refine ⟨k,c,?_,f⟩;simp only [World.cell?,hb];rw [← g];simp only [Option.isSome_none,Bool.false_eq_true,if_false];rw [Nat.add_mul];congr 1;omega
  · simp at a
theorem qio {es off len : Nat} {xs : List (List V)} (b : ∀ (i : Nat) (x : List V),xs[i]? = some x→x.length = es) : ∀ (i : Nat) (x : List V),((xs.drop off).take len)[i]? = some x→x.length = es:=by
  intro i x a;rw [List.getElem?_take] at a;split at a
  · rw [List.getElem?_drop] at a;exact b _ _ a
  · simp at a
end
section
variable {w : World} {Z : Nat→Prop} {inj : Inj} {st : AS} {a : Act} {Ds : List Nat}
theorem qg4 {x : V} {ys : List (List DV)} (h : Z5 st x = some ys) : Zg st x = some (ys.map (·.map .d)):=by
  unfold Z5 at h;split at h
  · simp at h;subst h;rfl
  · simp at h;subst h;rfl
  · split at h <;> try simp at h
    rename_i hb;obtain ⟨a,rfl⟩:=h;simp [Zg,hb,a]
  · simp at h
theorem qcs {x : V} {xv : Value} {es : Nat} {ys : List (List V)} (h : RelS w Z inj st a Ds) (l : RelV w Z inj st.nx x xv) (f : Zg st x = some ys) (hf : J7 es x = true) (t : es≠0) :
    ∃ (m : Option Addr) (cap : Nat) (L : List Value),xv = .slice m ys.length cap∧L.length = ys.length * es∧ERel w Z inj st.nx es ys L.toArray∧Jy w m L ys:=by
  unfold Zg at f;split at f
  · simp at f;subst f
    cases l with | d l=>
    cases l;exact ⟨none,0,[],rfl,qg,.nil,(rfl : Jy w none [] [])⟩
  · rename_i g xs;simp at f;subst f;have he:=Nat.eq_of_beq_eq_true hf;subst he
    cases l with | d l=>
    cases l with
    | slnil=>exact ⟨none,0,[],rfl,qg,.nil,(rfl : Jy w none [] [])⟩
    | slemp _ m=>exact ⟨some m,0,[],rfl,qg,.nil,fun k u q=>by simp at q⟩
    | @sl _ _ b o cap p h2 h3 h4 h5=>
      obtain ⟨L,l1,l2,l3⟩:=qi8 (w:=w) (Z:=Z) (inj:=inj) (nx:=st.nx) (b:=b) (o:=o) (xs:=xs.map (·.map V.d)) t
        (fun i x l=>by simp only [List.getElem?_map,Yc] at l;obtain ⟨y,hy,rfl⟩:=l;simpa using h3 i y hy)
        (fun i x j d l hd=>by
          simp only [List.getElem?_map,Yc] at l;obtain ⟨y,hy,rfl⟩:=l;simp only [List.getElem?_map,Yc] at hd;obtain ⟨d',s,rfl⟩:=hd;obtain ⟨g1,c,g2⟩:=h4 i y j d' hy s
          exact ⟨g1,c,g2,.d (h5 i y j d' c hy s g2)⟩)
      exact ⟨some ⟨b,o,none⟩,cap,L,qg,l1,l3,fun k u q=>by rw [U1];exact l2 k u q⟩
  · rename_i n g off len;have he:=Nat.eq_of_beq_eq_true hf;subst he
    have key : ∀ (b0 : Blk) (xs : List (List V)),st.blk n = some b0→rowsOf b0 = some (g,xs)→off + len≤xs.length→ys = (xs.drop off).take len→
        ∃ (m : Option Addr) (cap : Nat) (L : List Value),xv = .slice m ys.length cap∧L.length = ys.length * g∧ERel w Z inj st.nx g ys L.toArray∧Jy w m L ys:=by
      rintro b0 xs hb hr aq rfl
      have r : ((xs.drop off).take len).length = len:=by simp;omega
      obtain ⟨g1,g2,v⟩:=q7d (h.heap.blk n b0 hb).2 hr
      cases l with
      | hsnil=>
        have : (xs.drop off).take 0 = []:=by simp
        rw [this];exact ⟨none,0,[],rfl,qg,.nil,(rfl : Jy w none [] [])⟩
      | @hs _ _ _ _ cap m hn f _ hcap=>
        by_cases h0 : len = 0
        · subst h0;have : (xs.drop off).take 0 = []:=by simp
          rw [this];exact ⟨some m,cap,[],rfl,qg,.nil,fun k u q=>by simp at q⟩
        · obtain ⟨b,o,hi,rfl,aj⟩:=hcap q6;rcases v with ⟨v,z⟩ | ⟨b',o',arr,ty,v,z,g5⟩
          · rw [hi] at z;cases z
          · rw [hi] at v;cases v;obtain ⟨L,l1,l2,l3⟩:=qi8 (w:=w) (Z:=Z) (inj:=inj) (nx:=st.nx) (b:=b) (o:=o + off * g) (xs:=(xs.drop off).take len) t (qio g2) (g5.cells z);exact ⟨some ⟨b,o + off * g,none⟩,cap,L,by rw [r],l1,l3,fun k u q=>by rw [U1];exact l2 k u q⟩
    split at f
    · rename_i k xs hb;split at f <;> try simp at f
      rename_i p;obtain ⟨p,rfl⟩:=p;subst f;refine key _ (xs.map (·.map V.d)) hb rfl (by simpa using p) qg
    · rename_i k xs hb;split at f <;> try simp at f
      rename_i p;obtain ⟨p,rfl⟩:=p;subst f;exact key _ xs hb rfl p rfl
    · simp at f
  · simp at f
theorem qbx {es n : Nat} {tx g : TypeId} {b : Option Addr} {cap : Nat} {ys : List (List V)} {L : List Value} (f : es≠0) (d : P.underlying tx = some (.slice g)) (h : n = ys.length) (a : L.length = ys.length * es)
    (j : ERel w Z inj st.nx es ys L.toArray) (c : Jy w b L ys) : Src P es tx (.slice b ys.length cap) n L w:=by
  subst h;refine ⟨.inl ⟨g,d⟩,fun w'=>by simp [Builtin.lenOf],?_,?_,a,j.one f⟩
  · cases b with
    | none=>subst c;simp at a;subst a;simp [Builtin.firstCells]
    | some p=>
      have:=run_loadCells_list (P:=P) w p L c;rw [a] at this;simpa [Builtin.firstCells] using this
  · cases b with
    | none=>subst c;simp at a;subst a;simp [Builtin.firstCells]
    | some p=>
      have:=run_loadCells_list (P:=P) w.drew p L c;rw [a] at this;simpa [Builtin.firstCells] using this
theorem qcj {t tx ty e : TypeId} {i : TypeInfo} (d : P.underlying t = some (.slice e)) (hi : P.info? e = some i) {base : Option Addr} {sLen sCap : Nat} {x : Value} {n : Nat} {news : List Value} (hs : Src P i.size tx x n news w) (a : sLen + n≤sCap)
    {w' : World} (b : match base with | some p=>(storeCells (p.add (sLen * i.size)) news).run P w = .ok () w' | none=>w' = w) :
    (Builtin.append_ #[t,tx] ty #[.slice base sLen sCap,x]).run P w = .ok (.slice base (sLen + n) sCap) w':=by
  cases base with
  | none=>subst b;rcases hs.kind with ⟨f,c⟩ | c <;> simp [Builtin.append_,run_underlying d,run_underlying c,sizeOf,typeInfo,hi,hs.len,a,hs.cells]
  | some p=>rcases hs.kind with ⟨f,c⟩ | c <;> simp [Builtin.append_,run_underlying d,run_underlying c,sizeOf,typeInfo,hi,hs.len,a,hs.cells,b]
end
end Go.Am
namespace Go.Am
open Go
variable {P : Program} {T : Tab}
section
variable {w : World} {Z : Nat→Prop} {inj : Inj}
theorem RelH.newPh {hp : List (Nat × Blk)} {nx : Nat} (d : RelH w Z inj hp nx) (blk : Blk) (hb : RelB w Z (upd inj nx none) (nx + 1) nx blk) : RelH w Z (upd inj nx none) ((nx,blk)::hp) (nx + 1):=by
  refine ⟨?_,?_,?_,d.zs,d.zc⟩
  · intro n b h;rw [Kz] at h;by_cases a : nx = n
    · grind
    · simp only [a,if_false] at h;obtain ⟨k,g⟩:=d.blk n b h;exact ⟨q6,g.mono (fun _ _=>rfl) (fun _ h=>h) (Sem.keepBig_of_same rfl) (fun m f=>Yl _ _ f) q6 k (fun _ _ _=>rfl)⟩
  · intro n m b c p q a f r l hp j o;rw [Kz] at a f;by_cases k : nx = n
    · subst k;rw [Ya] at hp;cases hp
    · by_cases g : nx = m
      · subst g;rw [Ya] at j;cases j
      · simp only [k,g,if_false] at a f;rw [Yl _ _ (d.blk n b a).1] at hp;rw [Yl _ _ (d.blk m c f).1] at j;exact d.sep n m b c p q a f r l hp j o
  · intro n b p h s hp;rw [Kz] at h;by_cases a : nx = n
    · subst a;rw [Ya] at hp;cases hp
    · simp only [a,if_false] at h;rw [Yl _ _ (d.blk n b h).1] at hp;exact d.out n b p h s hp
theorem Ext.newPh {hp : List (Nat × Blk)} {nx : Nat} (m : RelH w Z inj hp nx) (blk : Blk) : Ext w Z inj hp w Z (upd inj nx none) ((nx,blk)::hp) nx:=by
  refine ⟨Nat.le_refl _,fun _ _ _=>rfl,?_,fun _ c e f h=>⟨c,e,f,h,rfl⟩,fun _ r h=>⟨r,h,rfl⟩,fun _ h=>h,fun _ h=>.inl h,fun n j=>Yl _ _ j,rfl,rfl,rfl,fun _=>rfl⟩;rintro b ⟨n,a,d,k,l,g⟩;rw [Kz] at k;by_cases j : nx = n
  · subst j;rw [Ya] at g;cases g
  · simp only [j,if_false] at k;rw [Yl _ _ (m.blk n a k).1] at g;exact .inl ⟨n,a,d,k,l,g⟩
theorem RelH.move {hp : List (Nat × Blk)} {nx n : Nat} (d : RelH w Z inj hp nx) {x blk : Blk} (hn : find hp n = some x) (l : live x = true) {g off y : Nat} (hi : inj n = some (g,off)) {old cs : Array Value} {t : TypeId} {fr : Nat × Nat}
    (hg : w.heap[g]? = some (.cells old t fr)) (hs : cs.size = old.size) (hb : RelB (w.setRow g cs) Z (upd inj nx (some (g,y))) (nx + 1) nx blk) :
    RelH (w.setRow g cs) Z (upd inj nx (some (g,y))) ((nx,blk)::repl hp n .dead) (nx + 1):=by
  have ad : ∀ b,Z b→b≠g:=fun b r e=>d.out n x _ hn l hi (by rw [← e];exact r)
  have key : ∀ m b,find (repl hp n .dead) m = some b→live b = true→find hp m = some b∧n≠m:=by
    intro m b h z;rw [Za] at h;by_cases f : n = m
    · subst f;simp [hn] at h;subst h;simp [live] at z
    grind
  have j : ∀ m b,find (repl hp n .dead) m = some b→m < nx:=by
    intro m b h;rw [Za] at h;by_cases f : n = m
    · subst f;exact (d.blk n x hn).1
    · simp only [f,if_false] at h;exact (d.blk m b h).1
  refine ⟨?_,?_,?_,fun b r=>by simpa using d.zs b r,fun b r=>by rw [setRow_other w g b cs (ad b r)];exact d.zc b r⟩
  · intro m b h;rw [Kz] at h;by_cases f : nx = m
    · grind
    · simp only [f,if_false] at h;refine ⟨by have:=j m b h;omega,?_⟩;by_cases z : live b = true
      · obtain ⟨u,s⟩:=key m b h z;obtain ⟨h3,h4⟩:=d.blk m b u;refine h4.mono (fun b r=>setRow_other w g b cs (ad b r)) (fun _ h=>h) (q3a w g old cs t fr hg hs) (fun _ hk=>Yl _ _ hk) q6 h3 ?_;intro p hp' aj;exact setRow_other w g p.1 cs (fun e=>d.sep n m x b _ _ hn u l z hi hp' s e.symm)
      · have : b = .dead:=by cases b <;> simp_all [live]
        subst this;trivial
  · intro m k b c p q u s ab v o a af;rw [Kz] at u s;by_cases f : nx = m
    · subst f;rw [Ya] at o;cases o;simp only [af,if_false] at s;obtain ⟨h3,h4⟩:=key k c s v;rw [Yl _ _ (j k c s)] at a;exact fun e=>d.sep n k x c (g,off) q hn h3 l v hi a h4 e
    · simp only [f,if_false] at u;obtain ⟨h3,h4⟩:=key m b u ab;rw [Yl _ _ (j m b u)] at o;by_cases hk : nx = k
      · subst hk;rw [Ya] at a;cases a;exact fun e=>d.sep n m x b (g,off) p hn h3 l ab hi o h4 e.symm
      · simp only [hk,if_false] at s;obtain ⟨h5,h6⟩:=key k c s v;rw [Yl _ _ (j k c s)] at a;exact d.sep m k b c p q h3 h5 ab v o a af
  · intro m b p h z hp' r;rw [Kz] at h;by_cases f : nx = m
    · subst f;rw [Ya] at hp';cases hp';exact d.out n x _ hn l hi r
    · simp only [f,if_false] at h;obtain ⟨u,_⟩:=key m b h z;rw [Yl _ _ (j m b h)] at hp';exact d.out m b p u z hp' r
theorem Ext.move {hp : List (Nat × Blk)} {nx n : Nat} (v : RelH w Z inj hp nx) {j blk : Blk} (q : find hp n = some j) (f : live j = true) {g off d : Nat} (hi : inj n = some (g,off)) {old cs : Array Value} {t : TypeId} {o : Nat × Nat}
    (p : w.heap[g]? = some (.cells old t o)) (hs : cs.size = old.size) : Ext w Z inj hp (w.setRow g cs) Z (upd inj nx (some (g,d))) ((nx,blk)::repl hp n .dead) nx:=by
  refine ⟨qg,?_,?_,q3a w g old cs t o p hs,qmi w g old cs t o p,fun _ h=>h,fun _ h=>.inl h,fun m l=>Yl _ _ l,rfl,rfl,rfl,qlw w g old cs t o p⟩
  · intro b _ hb;exact setRow_other w g b cs (fun e=>hb (by rw [e];exact ⟨n,j,off,q,f,hi⟩))
  · rintro b ⟨m,a,u,c,s,k⟩;rw [Kz] at c;by_cases l : nx = m
    · subst l;rw [Ya] at k;cases k;exact .inl ⟨n,j,off,q,f,hi⟩
    · simp only [l,if_false] at c;rw [Za] at c;by_cases r : n = m
      · subst r;simp [q] at c;subst c;simp [live] at s
      · simp only [r,if_false] at c;rw [Yl _ _ (v.blk m a c).1] at k;exact .inl ⟨m,a,u,c,s,k⟩
end
section
variable {w : World} {Z : Nat→Prop} {inj : Inj} {st : AS} {a : Act} {Ds : List Nat}
theorem qut {a cap b : Nat} (c : cap < a) (d : a * (b * 4)≤room) : Builtin.nextslicecap a cap * b≤281474976710656:=by
  have g:=Nat.mul_le_mul_right b (Room.nextslicecap_le' c);have f : 2 * a * b≤a * (b * 4):=by rw [Nat.mul_comm b 4,← Nat.mul_assoc];exact Nat.mul_le_mul_right b q6
  unfold room at d;omega
theorem qwf {a b : Nat} (hb : b≠0) (c : a * (b * 4)≤room) : a≤4294967296:=by
  have : a * 1≤a * (b * 4):=Nat.mul_le_mul_left _ q6;unfold room at c;omega
theorem qfg {t u ty : TypeId} {i : TI} {e e' : TypeId} {n : TypeInfo} {y : Value} (_h : RelS w Z inj st a Ds) (hu : P.underlying t = some (.slice e)) (ac : P.underlying u = some (.slice e')) (g1 : P.info? e = some n) (g3 : n.zero = some y)
    (g6 : n.size = i.esize) (g7 : i.esize≠0) (g8 : n.bytes = i.ebytes) (g9 : i.ebytes≠0) (gz : y.cells.size = i.esize) {hp1 : List (Nat × Blk)} (hh : RelH w Z inj hp1 st.nx) (r : Ext w Z inj st.hp w Z inj hp1 st.nx)
    {base ad : Option Addr} {cap cap' : Nat} {olds ys : List (List V)} {L0 l : List Value} (q : L0.length = olds.length * i.esize) (p : ERel w Z inj st.nx i.esize olds L0.toArray) (aa : Jy w base L0 olds)
    (s : l.length = ys.length * i.esize) (o : ERel w Z inj st.nx i.esize ys l.toArray) (ab : Jy w ad l ys) (hg : cap < olds.length + ys.length) (c : (olds.length + ys.length) * (i.ebytes * 4)≤room)
    {b1 : Blk} (ae : rowsOf b1 = some (i.esize,olds ++ ys)) :
    ∃ x w' inj',(Builtin.append_ #[t,u] ty #[.slice base olds.length cap,.slice ad ys.length cap']).run P w = .ok x w'∧RelV w' Z inj' (st.nx + 1) (.hs st.nx i.esize 0 (olds.length + ys.length)) x∧RelH w' Z inj' ((st.nx,b1)::hp1) (st.nx + 1)∧
      Ext w Z inj st.hp w' Z inj' ((st.nx,b1)::hp1) st.nx:=by
  have j:=qbx (P:=P) (tx:=t) (cap:=cap) g7 hu rfl q p aa;have k:=qbx (P:=P) (tx:=u) (cap:=cap') g7 ac rfl s o ab;rw [← g6] at j k;have an:=qwf g9 c;have g:=qut hg c;rw [← g8] at g;have d:=run_append_grow_src (P:=P) w t u ty e n y hu g1 g3 base olds.length cap L0 j.cellsD (.slice ad ys.length cap') ys.length l k hg q6 g;have m:=grownCap_ge w (olds.length + ys.length) cap e;generalize grownCap w (olds.length + ys.length) cap e = C at d m;generalize hA : (L0 ++ l).toArray ++ Builtin.zeroCells y.cells (C - (olds.length + ys.length)) = A at d;have f : RelH w.drew Z inj hp1 st.nx:=hh.same rfl;have z : ERel w Z inj st.nx i.esize (olds ++ ys) (L0.toArray ++ l.toArray):=p.append o
  have mono : ∀ v x,RelV w Z inj st.nx v x→RelV (w.drew.alloc (.cells A e)) Z (upd inj st.nx (some (w.heap.size,0))) (st.nx + 1) v x:=fun v x hv=>
    hv.mono (fun b hz=>J5 w.drew _ (hh.zs b hz)) (fun _ h=>h) (q39 w.drew _) (fun _ hm=>Yl _ _ hm) q6
  refine ⟨_,_,upd inj st.nx (some (w.heap.size,0)),d,?_,?_,?_⟩
  · refine .hs q6 m rfl fun _=>⟨w.heap.size,0,Ya _ _ _,qg,A,e,(0,0),U2 w.drew _,?_⟩
    have h1 : A.size = L0.length + l.length + (C - (olds.length + ys.length)) * i.esize:=by
      rw [← hA];simp [Builtin.zeroCells,gz]
    rw [h1,q,s,← Nat.add_mul,← Nat.add_mul];grind
  · refine f.new (.cells A e) b1 0 ?_;refine q7c ae g7 z.2.1 (.inr ⟨w.heap.size,0,A,e,Ya _ _ _,U2 w.drew _,?_⟩);have h9:=(z.row (B:=Builtin.zeroCells y.cells (C - (olds.length + ys.length)))).mono mono;simp_all
  · refine r.trans ?_ (Nat.le_refl _);have e1 : Ext w Z inj hp1 w.drew Z inj hp1 st.nx:=Ext.same rfl rfl rfl rfl;exact e1.trans (Ext.new f (.cells A e) b1 0) (Nat.le_refl _)
theorem qri {t u ty : TypeId} {i : TI} {e e' : TypeId} {ie : TypeInfo} (h : RelS w Z inj st a Ds) (hu : P.underlying t = some (.slice e)) (aq : P.underlying u = some (.slice e')) (g1 : P.info? e = some ie)
    (g6 : ie.size = i.esize) (g7 : i.esize≠0) {n off len cap cap' b o : Nat} {b0 b1 : Blk} {xs ys : List (List V)} (s : st.blk n = some b0) (aw : rowsOf b0 = some (i.esize,xs)) (bq : off + len≤xs.length)
    (hi : inj n = some (b,o)) (af : Big w b (o + (off + cap) * i.esize)) (_hlc : len≤cap)
    {ad : Option Addr} {g : List Value} (ai : g.length = ys.length * i.esize) (p : ERel w Z inj st.nx i.esize ys g.toArray) (ao : Jy w ad g ys) (hg : len + ys.length≤cap)
    (az : rowsOf b1 = some (i.esize,(xs.drop off).take len ++ ys)) :
    ∃ x w' inj',(Builtin.append_ #[t,u] ty #[.slice (some ⟨b,o + off * i.esize,none⟩) len cap,.slice ad ys.length cap']).run P w = .ok x w'∧RelV w' Z inj' (st.nx + 1) (.hs st.nx i.esize 0 (len + ys.length)) x∧
      RelH w' Z inj' ((st.nx,b1)::repl st.hp n .dead) (st.nx + 1)∧Ext w Z inj st.hp w' Z inj' ((st.nx,b1)::repl st.hp n .dead) st.nx:=by
  have ak:=qbx (P:=P) (tx:=u) (cap:=cap') g7 aq rfl ai p ao;obtain ⟨q1,q2,q3⟩:=q7d (h.heap.blk n b0 s).2 aw;rcases q3 with ⟨_,q4⟩ | ⟨b',o',arr,ab,q3,q4,q5⟩
  · grind
  rw [hi] at q3;cases q3;have k : live b0 = true:=by cases b0 <;> simp_all [rowsOf,live]
  have ax : o + (off + cap) * i.esize≤arr.size:=by
    obtain ⟨c,e2,f,k1,k2⟩:=af;grind
  have ap : g.length = ys.length * i.esize:=ai;have aj : (len + ys.length) * i.esize≤cap * i.esize:=Nat.mul_le_mul_right _ hg;rw [Nat.add_mul] at aj ax;have l : o + off * i.esize + len * i.esize + g.length≤arr.size:=by omega
  have aa:=run_storeCells_at P b (o + off * i.esize + len * i.esize) ab g 0 arr w q4 (by simpa using l) (p.one g7);simp only [Nat.add_zero] at aa;have an : (arr.toList.take (o + off * i.esize + len * i.esize) ++ g ++ arr.toList.drop (o + off * i.esize + len * i.esize + g.length)).toArray = (splice arr.toList (o + off * i.esize + len * i.esize) g).toArray:=rfl;rw [an] at aa
  have ag:=qcj (P:=P) (w:=w) (ty:=ty) hu g1 (base:=some ⟨b,o + off * i.esize,none⟩) (sLen:=len) (sCap:=cap) (x:=.slice ad ys.length cap') (n:=ys.length) (news:=g) (by rw [g6];exact ak) hg
    (w':=w.setRow b (splice arr.toList (o + off * i.esize + len * i.esize) g).toArray) (by show (storeCells ((⟨b,o + off * i.esize,none⟩ : Addr).add (len * ie.size)) g).run P w = _;rw [U1,g6];exact aa)
  have q : o + off * i.esize + len * i.esize + g.length≤arr.toList.length:=by simpa using l
  have r : (splice arr.toList (o + off * i.esize + len * i.esize) g).toArray.size = arr.size:=by simp [q2g _ _ _ q]
  have hz : ∀ b1,Z b1→(w.setRow b (splice arr.toList (o + off * i.esize + len * i.esize) g).toArray).heap[b1]? = w.heap[b1]?:=fun b1 ba=>
    setRow_other w b b1 _ (fun e=>h.heap.out n b0 _ s k hi (by rw [← e];exact ba))
  have ar:=q3a w b arr _ ab (0,0) q4 r
  have mono : ∀ v x,RelV w Z inj st.nx v x→RelV (w.setRow b (splice arr.toList (o + off * i.esize + len * i.esize) g).toArray) Z (upd inj st.nx (some (b,o + off * i.esize))) (st.nx + 1) v x:=fun v x hv=>
    hv.mono hz (fun _ h=>h) ar (fun _ hm=>Yl _ _ hm) q6
  have y : ((xs.drop off).take len).length = len:=by simp;omega
  refine ⟨_,_,upd inj st.nx (some (b,o + off * i.esize)),ag,?_,?_,Ext.move h.heap s k hi q4 r⟩
  · refine .hs q6 hg rfl fun _=>⟨b,o + off * i.esize,Ya _ _ _,qg,_,_,_,setRow_heap w b _ _ _ _ q4,?_⟩
    grind
  · refine h.heap.move s k hi q4 r (q7c az g7 ?_ (.inr ⟨b,o + off * i.esize,_,ab,Ya _ _ _,setRow_heap w b _ _ _ _ q4,?_⟩))
    · intro j x m;rw [List.getElem?_append] at m;split at m
      · grind
      · exact p.2.1 _ _ m
    · intro j x j' d m hd;rw [List.getElem?_toArray,Ue _ _ _ _ q];rw [List.getElem?_append] at m;split at m
      · rename_i hj;rw [y] at hj;have ay:=qio q2 j x m;have z : j' < i.esize:=by have:=Kh hd;omega
        have hc:=q43 hj z;rw [qp q6];rw [List.getElem?_take] at m;rw [qr hj,List.getElem?_drop] at m;obtain ⟨k1,c,k2,k3⟩:=q5 _ x j' d m hd;grind
      · rename_i hj;rw [y] at hj m;obtain ⟨k1,c,k2,k3⟩:=p.2.2 _ x j' d m hd;have au:=Kh m;have ay:=p.2.1 _ x m;have z : j' < i.esize:=by have:=Kh hd;omega
        have hc:=q43 au z;have he : j * i.esize = len * i.esize + (j - len) * i.esize:=by rw [← Nat.add_mul];congr 1;omega
        grind
theorem qx6 {t u ty : TypeId} {i j : TI} {sv xv v : V} {vs vx : Value} {st1 : AS} (h : RelS w Z inj st a Ds) (ht : tiOf P t = some i) (hu : tiOf P u = some j) (bq : i.kind = .slice) (bk : j.kind = .slice) (hf : J7 i.esize xv = true)
    (ak : RelV w Z inj st.nx sv vs) (av : RelV w Z inj st.nx xv vx) (f : Z9 st i sv xv = some (v,st1)) :
    ∃ x w' inj',(Builtin.append_ #[t,u] ty #[vs,vx]).run P w = .ok x w'∧RelV w' Z inj' st1.nx v x∧RelH w' Z inj' st1.hp st1.nx∧Ext w Z inj st.hp w' Z inj' st1.hp st.nx∧st1.sl = st.sl∧st.nx≤st1.nx:=by
  obtain ⟨bw,d,z,k⟩:=Yw ht;obtain ⟨bs,d',z',k'⟩:=Yw hu;have hk:=k.kind;have ay:=k'.kind;unfold Zm at hk ay;simp only [bq,bk] at hk ay;obtain ⟨e,ie,de,ze,rfl,g1,g2,g3,g4,g5,g6,g7,g8,g9,_⟩:=hk;obtain ⟨e',_,_,_,rfl,_⟩:=ay;have gz : ze.cells.size = i.esize:=by have:=(qa3 g4).1;simp at this;omega
  have r : ∀ ys b1,Zg st xv = some ys→vs = .slice none 0 0→rowsOf b1 = some (i.esize,ys)→ys.length * (i.ebytes * 4)≤room→ys.length≠0→
      ∃ x w' inj',(Builtin.append_ #[t,u] ty #[vs,vx]).run P w = .ok x w'∧RelV w' Z inj' (st.nx + 1) (.hs st.nx i.esize 0 ys.length) x∧RelH w' Z inj' ((st.nx,b1)::st.hp) (st.nx + 1)∧Ext w Z inj st.hp w' Z inj' ((st.nx,b1)::st.hp) st.nx:=by
    rintro ys b1 hc rfl hr c cg
    obtain ⟨ad,cap',L1,rfl,l,s,q⟩:=qcs h av hc hf g7
    have:=qfg (P:=P) (ty:=ty) h k.und k'.und g1 g3 g6 g7 g8 g9 gz h.heap Ext.refl (base:=none) (cap:=0) (olds:=[]) (L0:=[]) qg .nil (rfl : Jy w none [] []) (cap':=cap') l s q (by simp;omega) (by simpa using c) (b1:=b1) (by simpa using hr)
    simpa using this
  have ab : ∀ ys,Zg st xv = some ys→vs = .slice none 0 0→ys.length = 0→(Builtin.append_ #[t,u] ty #[vs,vx]).run P w = .ok (.slice none 0 0) w:=by
    rintro ys hc rfl h0;obtain ⟨ad,cap',L1,rfl,l,s,q⟩:=qcs h av hc hf g7;have ac:=qbx (P:=P) (tx:=u) (cap:=cap') g7 k'.und rfl l s q;have:=qcj (P:=P) (w:=w) (ty:=ty) k.und g1 (base:=none) (sLen:=0) (sCap:=0) (by rw [g6];exact ac) q6 (w':=w) rfl;grind
  have m : ∀ n off len xs ys b0 b1,sv = .hs n i.esize off len→st.blk n = some b0→rowsOf b0 = some (i.esize,xs)→off + len≤xs.length→Zg st xv = some ys→rowsOf b1 = some (i.esize,(xs.drop off).take len ++ ys)→
      (len + ys.length) * (i.ebytes * 4)≤room→
      ∃ x w' inj',(Builtin.append_ #[t,u] ty #[vs,vx]).run P w = .ok x w'∧RelV w' Z inj' (st.nx + 1) (.hs st.nx i.esize 0 (len + ys.length)) x∧RelH w' Z inj' ((st.nx,b1)::repl st.hp n .dead) (st.nx + 1)∧
        Ext w Z inj st.hp w' Z inj' ((st.nx,b1)::repl st.hp n .dead) st.nx:=by
    rintro n off len xs ys b0 b1 rfl az bb bt hc ae c
    obtain ⟨ad,cap',L1,rfl,l,s,q⟩:=qcs h av hc hf g7
    have ac:=qbx (P:=P) (tx:=u) (cap:=cap') g7 k'.und rfl l s q
    have ag : ((xs.drop off).take len).length = len:=by simp;omega
    obtain ⟨q1,q2,q3⟩:=q7d (h.heap.blk n b0 az).2 bb
    have p : RelH w Z inj (repl st.hp n .dead) st.nx:=h.heap.drop
    have y : Ext w Z inj st.hp w Z inj (repl st.hp n .dead) st.nx:=Ext.drop
    have ph : len = 0→ys.length = 0→RelH w Z (upd inj st.nx none) ((st.nx,b1)::repl st.hp n .dead) (st.nx + 1)∧Ext w Z inj st.hp w Z (upd inj st.nx none) ((st.nx,b1)::repl st.hp n .dead) st.nx:=by
      intro h1 h2;have ap : (xs.drop off).take len ++ ys = []:=by subst h1;simp [List.eq_nil_of_length_eq_zero h2]
      refine ⟨p.newPh b1 (q7c ae g7 (by rw [ap];simp) (.inl ⟨ap,Ya _ _ _⟩)),y.trans (Ext.newPh p b1) (Nat.le_refl _)⟩
    cases ak with
    | hsnil hm=>
      by_cases h0 : ys.length = 0
      · obtain ⟨p1,p2⟩:=ph rfl h0;have:=qcj (P:=P) (w:=w) (ty:=ty) k.und g1 (base:=none) (sLen:=0) (sCap:=0) (by rw [g6];exact ac) q6 (w':=w) rfl;refine ⟨_,w,_,this,?_,p1,p2⟩;simp only [Nat.zero_add,h0];exact .hsnil q6
      · have:=qfg (P:=P) (ty:=ty) h k.und k'.und g1 g3 g6 g7 g8 g9 gz p y (base:=none) (cap:=0) (olds:=[]) (L0:=[]) qg .nil (rfl : Jy w none [] []) (cap':=cap') l s q (by simp;omega) (by simpa using c) (b1:=b1) (by simpa using ae);simpa using this
    | @hs _ _ _ _ cap adr hm hcl hsp hcap=>
      by_cases hg : len + ys.length≤cap
      · by_cases be : cap = 0
        · obtain ⟨p1,p2⟩:=ph q6 q6;have hL : L1 = []:=List.eq_nil_of_length_eq_zero (by rw [l,show ys.length = 0 by omega];simp);have:=qcj (P:=P) (w:=w) (ty:=ty) k.und g1 (base:=some adr) (sLen:=len) (sCap:=cap) (by rw [g6];exact ac) hg (w':=w) (by subst hL;show (storeCells _ []).run P w = _;simp [storeCells]);exact ⟨_,w,_,this,.hs q6 hg hsp (fun h=>absurd be h),p1,p2⟩
        · obtain ⟨b,o,hi,rfl,an⟩:=hcap be;exact qri (P:=P) (ty:=ty) h k.und k'.und g1 g6 g7 az bb bt hi an hcl (cap':=cap') l s q hg ae
      · have hold : ∃ L0 : List Value,L0.length = ((xs.drop off).take len).length * i.esize∧ERel w Z inj st.nx i.esize ((xs.drop off).take len) L0.toArray∧Jy w (some adr) L0 ((xs.drop off).take len):=by
          by_cases h0 : len = 0
          · subst h0;exact ⟨[],qg,by simpa using ERel.nil,fun k u hu=>by simp at hu⟩
          · obtain ⟨b,o,hi,rfl,an⟩:=hcap q6;rcases q3 with ⟨_,q4⟩ | ⟨b',o',arr,cp,q3,q4,q5⟩
            · rw [hi] at q4;cases q4
            · rw [hi] at q3;cases q3;obtain ⟨L,l1,l2,l3⟩:=qi8 (w:=w) (Z:=Z) (inj:=inj) (nx:=st.nx) (b:=b) (o:=o + off * i.esize) (xs:=(xs.drop off).take len) g7 (qio q2) (q5.cells q4);exact ⟨L,l1,l3,fun k u hu=>by rw [U1];exact l2 k u hu⟩
        obtain ⟨L0,a1,a2,a3⟩:=hold;have:=qfg (P:=P) (ty:=ty) h k.und k'.und g1 g3 g6 g7 g8 g9 gz p y (base:=some adr) (cap:=cap) a1 a2 a3 (cap':=cap') l s q (by rw [ag];omega) (by rw [ag];exact c) (b1:=b1) ae;rw [ag] at this;exact this
  cases sv <;> simp only [Z9,reduceCtorEq] at f
  case d x=>
    cases x <;> simp only [reduceCtorEq] at f
    cases ak with | d ak=>
    cases ak
    cases af : Z5 st xv with
    | some ys=>
      simp only [af] at f;split at f <;> try simp at f
      rename_i c;have g:=qg4 af;by_cases h0 : ys = []
      · rw [qr h0] at f;simp at f;obtain ⟨rfl,rfl⟩:=f;exact ⟨_,w,inj,ab _ g rfl (by simpa using h0),.d .nilsl,h.heap,.refl,rfl,Nat.le_refl _⟩
      · rw [qp h0] at f;simp at f;obtain ⟨rfl,rfl⟩:=f;have:=r _ (.dat i.esize ys) g rfl rfl (by simpa using c) (by simpa using h0);obtain ⟨x,w',inj',h1,h2,h3,h4⟩:=this;exact ⟨x,w',inj',h1,by simpa [AS.new] using h2,h3,h4,rfl,by simp [AS.new]⟩
    | none=>
      simp only [af] at f
      cases g : Zg st xv with
      | none=>simp [g] at f
      | some ys=>
        simp only [g] at f;split at f <;> try simp at f
        rename_i c;by_cases h0 : ys = []
        · rw [qr h0] at f;simp at f;obtain ⟨rfl,rfl⟩:=f;exact ⟨_,w,inj,ab _ g rfl (by simpa using h0),.d .nilsl,h.heap,.refl,rfl,Nat.le_refl _⟩
        · rw [qp h0] at f;simp at f;obtain ⟨rfl,rfl⟩:=f;obtain ⟨x,w',inj',h1,h2,h3,h4⟩:=r _ (.cel i.esize ys) g rfl rfl c (by simpa using h0);exact ⟨x,w',inj',h1,by simpa [AS.new] using h2,h3,h4,rfl,by simp [AS.new]⟩
  case hs n es off len=>
    split at f
    · rename_i k0 xs ys hb af;split at f <;> simp at f
      rename_i aw;obtain ⟨c1,rfl,c3,rfl⟩:=aw;obtain ⟨rfl,rfl⟩:=f;have:=m n off len (xs.map (·.map .d)) (ys.map (·.map .d)) _ (.dat i.esize ((xs.drop off).take len ++ ys)) rfl hb rfl (by simpa using c1) (qg4 af) (by simp [rowsOf,List.map_take,List.map_drop]) (by simpa using c3);obtain ⟨x,w',inj',h1,h2,h3,h4⟩:=this;exact ⟨x,w',inj',h1,by simpa [AS.new,AS.setBlk] using h2,h3,h4,rfl,by simp [AS.new,AS.setBlk]⟩
    · rename_i k0 xs hb af;split at f <;> try simp at f
      rename_i ys g;obtain ⟨⟨c1,rfl,c3,rfl⟩,rfl,rfl⟩:=f;have:=m n off len (xs.map (·.map .d)) ys _ (.cel i.esize ((((xs.map (·.map V.d)).drop off).take len) ++ ys)) rfl hb rfl (by simpa using c1) g rfl c3;obtain ⟨x,w',inj',h1,h2,h3,h4⟩:=this;exact ⟨x,w',inj',h1,by simpa [AS.new,AS.setBlk] using h2,h3,h4,rfl,by simp [AS.new,AS.setBlk]⟩
    · rename_i k0 xs hb;split at f <;> try simp at f
      rename_i ys g;obtain ⟨⟨c1,rfl,c3,rfl⟩,rfl,rfl⟩:=f;have:=m n off len xs ys _ (.cel i.esize ((xs.drop off).take len ++ ys)) rfl hb rfl c1 g rfl c3;obtain ⟨x,w',inj',h1,h2,h3,h4⟩:=this;exact ⟨x,w',inj',h1,by simpa [AS.new,AS.setBlk] using h2,h3,h4,rfl,by simp [AS.new,AS.setBlk]⟩
    · simp at f
end
end Go.Am
namespace Go.Am
open Go
variable {P : Program} {T : Tab}
section
variable {w : World} {Z : Nat→Prop} {inj : Inj} {nx : Nat}
theorem RowV.spliceRows {arr : Array Value} {o es off : Nat} {xs ys : List (List V)} {L : List Value} (h : RowV w Z inj nx arr o es xs) (r : ∀ (i : Nat) (x : List V),xs[i]? = some x→x.length = es) (f : ERel w Z inj nx es ys L.toArray)
    (k : off + ys.length≤xs.length) (b : o + off * es + L.length≤arr.size) : RowV w Z inj nx (splice arr.toList (o + off * es) L).toArray o es (splice xs off ys):=by
  have s : L.length = ys.length * es:=by simpa using f.1
  intro i x j d a hd;rw [Ue _ _ _ _ k] at a;rw [List.getElem?_toArray,Ue _ _ _ _ (by simpa using b)];by_cases hi : off≤i∧i < off + ys.length
  · rw [qr hi] at a;obtain ⟨m,c,n,l⟩:=f.2.2 _ x j d a hd;have g : j < es:=by have:=Kh hd;have:=f.2.1 _ x a;omega
    have p:=q43 (Kh a) g;have t : i * es = off * es + (i - off) * es:=by rw [← Nat.add_mul];congr 1;omega
    grind
  · rw [qp hi] at a;obtain ⟨m,c,n,l⟩:=h i x j d a hd;have g : j < es:=by have:=Kh hd;have:=r _ x a;omega
    refine ⟨m,c,?_,l⟩;rw [qp ?_]
    · grind
    · intro p;by_cases q : i < off
      · have:=q43 q g;omega
      · have u : (off + ys.length) * es≤i * es:=Nat.mul_le_mul_right _ q6;grind
theorem ERel.take {es m : Nat} {xs : List (List V)} {L : List Value} (h : ERel w Z inj nx es xs L.toArray) (b : m≤xs.length) : ERel w Z inj nx es (xs.take m) (L.take (m * es)).toArray:=by
  obtain ⟨k,g,f⟩:=h;simp only [List.size_toArray] at k;have:=Nat.mul_le_mul_right es b;refine ⟨by simp;rw [Nat.min_eq_left b];omega,?_,?_⟩
  · grind
  · intro i x j d a hd;rw [List.getElem?_take] at a;split at a
    · rename_i hi;obtain ⟨o,c,p,l⟩:=f i x j d a hd;have n:=q43 hi (show j < es by have:=Kh hd;have:=g _ x a;omega);grind
    grind
end
section
variable {w : World} {Z : Nat→Prop} {inj : Inj} {st : AS} {a : Act} {Ds : List Nat}
theorem qxe {t u ty : TypeId} {i j : TI} {sv xv v : V} {vs vx : Value} {st1 : AS} (h : RelS w Z inj st a Ds) (ht : tiOf P t = some i) (_hu : tiOf P u = some j) (bo : i.kind = .slice) (_hjk : j.kind = .slice) (bl : J7 i.esize sv = true) (hf : J7 i.esize xv = true)
    (av : RelV w Z inj st.nx sv vs) (bj : RelV w Z inj st.nx xv vx) (ha : copyV st sv xv = some (v,st1)) :
    ∃ x w' inj',(Builtin.copy_ #[t,u] ty #[vs,vx]).run P w = .ok x w'∧RelV w' Z inj' st1.nx v x∧RelH w' Z inj' st1.hp st1.nx∧Ext w Z inj st.hp w' Z inj' st1.hp st.nx∧st1.sl = st.sl∧st.nx≤st1.nx:=by
  obtain ⟨bz,d,z,k⟩:=Yw ht;have hk:=k.kind;unfold Zm at hk;simp only [bo] at hk;obtain ⟨e,ie,de,ze,rfl,g1,g2,g3,g4,g5,g6,g7,g8,g9,_⟩:=hk;cases sv <;> simp only [copyV,reduceCtorEq] at ha
  rename_i n es off len;have bm:=Nat.eq_of_beq_eq_true bl;subst bm;split at ha <;> try simp at ha
  rename_i k0 xs ys hb bk;obtain ⟨⟨cq,rfl⟩,rfl,rfl⟩:=ha;obtain ⟨ad,cap',L1,rfl,an,bi,aw⟩:=qcs h bj (qg4 bk) hf g7;rw [List.length_map] at an ⊢
  let m:=min ys.length len
  have hm : m = min ys.length len:=rfl;rw [← hm];obtain ⟨q1,q2,q3⟩:=q7d (h.heap.blk n _ hb).2 rfl;have ca : (xs.map (·.map V.d)).length = xs.length:=by simp
  have ce : m * i.esize≤ys.length * i.esize:=Nat.mul_le_mul_right _ q6
  have ag : (Builtin.firstCells i.esize m (.slice ad ys.length cap')).run P w = .ok (L1.take (m * i.esize)).toArray w:=by
    cases ad with
    | none=>
      have ay : ys.map (·.map V.d) = []:=aw;have : ys = []:=by simpa using ay
      subst this;simp at an;subst an;simp [Builtin.firstCells]
    | some p=>
      have:=run_loadCells_list (P:=P) w p (L1.take (m * i.esize)) (fun k u hu=>by
        rw [List.getElem?_take] at hu;split at hu
        · exact aw k u hu
        · simp at hu)
      rw [List.length_take,Nat.min_eq_left q6] at this;simpa [Builtin.firstCells] using this
  have l : ∀ base y aj,y = len→vs = .slice base y aj→∀ w',(match base with | some p=>(storeCells p (L1.take (m * i.esize))).run P w = .ok () w' | none=>w' = w)→
      (Builtin.copy_ #[t,u] ty #[vs,.slice ad ys.length cap']).run P w = .ok (.int .i64 m) w':=by
    rintro base y aj rfl rfl w' aa
    have ao:=ag
    rw [← g6] at ao
    have ai : Nat.min ys.length y = m:=rfl
    cases base with
    | none=>
      subst aa;simp [Builtin.copy_,run_underlying k.und,Builtin.lenOf,Zl g1,goInt,ai,ao]
    | some p=>
      have ah : (storeCells p (L1.take (m * i.esize))).run P w = .ok () w':=aa;rw [← g6] at ah;simp [Builtin.copy_,run_underlying k.und,Builtin.lenOf,Zl g1,ah,goInt,ai,ao]
  have s : live (.dat i.esize xs) = true:=rfl
  have same : m = 0→RelH w Z inj (repl st.hp n (.dat i.esize (splice xs off (ys.take m)))) st.nx∧Ext w Z inj st.hp w Z inj (repl st.hp n (.dat i.esize (splice xs off (ys.take m)))) st.nx:=by
    intro h0;have al : splice xs off (ys.take m) = xs:=by rw [h0];simp [splice]
    rw [al]
    have g : ∀ q,find (repl st.hp n (.dat i.esize xs)) q = find st.hp q:=by
      intro q;rw [Za];by_cases hq : n = q
      · subst hq;have : find st.hp n = some (.dat i.esize xs):=hb;simp [this]
      · simp [hq]
    constructor
    · exact ⟨fun q b hq=>h.heap.blk q b (by rw [g] at hq;exact hq),fun q r b c p' q' h1 h2=>h.heap.sep q r b c p' q' (by rw [g] at h1;exact h1) (by rw [g] at h2;exact h2),fun q b p' h1=>h.heap.out q b p' (by rw [g] at h1;exact h1),h.heap.zs,h.heap.zc⟩
    · exact {Ext.refl (w:=w) (Z:=Z) (inj:=inj) (hp:=st.hp) (pin:=st.nx) with imm:=fun b hb=>by obtain ⟨q,blk,o,h1,h2,h3⟩:=hb;rw [g] at h1;exact .inl ⟨q,blk,o,h1,h2,h3⟩}
  have ae : ∀ w' inj' nx',RelV w' Z inj' nx' (.d (.int .i64 ((min ys.length len : Nat) : Int))) (.int .i64 (m : Nat)):=fun _ _ _=>.d (.int _ _);by_cases h0 : m = 0
  · obtain ⟨s1,s2⟩:=same h0
    cases av with
    | hsnil=>exact ⟨_,w,inj,l none _ _ rfl rfl w rfl,ae _ _ _,s1,s2,rfl,Nat.le_refl _⟩
    | @hs _ _ _ _ cap adr hn' hlc _ hcap=>exact ⟨_,w,inj,l (some adr) _ _ rfl rfl w (by show (storeCells _ _).run P w = _;rw [h0];simp [storeCells]),ae _ _ _,s1,s2,rfl,Nat.le_refl _⟩
  · cases av with
    | hsnil=>omega
    | @hs _ _ _ _ cap adr hn' hlc _ hcap=>
      obtain ⟨b,o,hi,rfl,au⟩:=hcap q6;rcases q3 with ⟨_,q4⟩ | ⟨b',o',arr,aq,q3,q4,q5⟩
      · grind
      rw [hi] at q3;cases q3;have hL : (L1.take (m * i.esize)).length = m * i.esize:=by rw [List.length_take,Nat.min_eq_left q6]
      have ac:=bi.take (m:=m) (by simp;omega)
      have bp : o + (off + cap) * i.esize≤arr.size:=by
        obtain ⟨c,e2,f,k1,k2⟩:=au;grind
      have cf : m * i.esize≤cap * i.esize:=Nat.mul_le_mul_right _ q6;rw [Nat.add_mul] at bp;have aa:=run_storeCells_at P b (o + off * i.esize) aq (L1.take (m * i.esize)) 0 arr w q4 (by rw [hL];omega) (ac.one g7);simp only [Nat.add_zero] at aa;have al : (arr.toList.take (o + off * i.esize) ++ L1.take (m * i.esize) ++ arr.toList.drop (o + off * i.esize + (L1.take (m * i.esize)).length)).toArray = (splice arr.toList (o + off * i.esize) (L1.take (m * i.esize))).toArray:=rfl;rw [al] at aa;have am : o + off * i.esize + (L1.take (m * i.esize)).length≤arr.toList.length:=by rw [hL];simp;omega
      have af : (splice arr.toList (o + off * i.esize) (L1.take (m * i.esize))).toArray.size = arr.size:=by simp only [List.size_toArray];rw [q2g _ _ _ am];simp
      have hz : ∀ b1,Z b1→(w.setRow b (splice arr.toList (o + off * i.esize) (L1.take (m * i.esize))).toArray).heap[b1]? = w.heap[b1]?:=fun b1 bq=>
        setRow_other w b b1 _ (fun e=>h.heap.out n _ _ hb s hi (by rw [← e];exact bq))
      have bn:=q3a w b arr _ aq (0,0) q4 af;have cj : (ys.take m).length = m:=by rw [List.length_take,Nat.min_eq_left q6]
      refine ⟨_,_,inj,l (some ⟨b,o + off * i.esize,none⟩) _ _ rfl rfl _ aa,ae _ _ _,?_,Ext.set h.heap hb s hi q4 af,rfl,Nat.le_refl _⟩;refine h.heap.set hb s hi q4 af (q7c (es:=i.esize) (xs:=splice (xs.map (·.map V.d)) off ((ys.map (·.map V.d)).take m)) ?_ g7 ?_ (.inr ⟨b,o,_,aq,hi,setRow_heap w b _ _ _ _ q4,?_⟩))
      · simp only [rowsOf,splice,List.map_append,List.map_take,List.map_drop,Option.some.injEq,Prod.mk.injEq,true_and];simp
      · intro i' x' ap;rw [Ue _ _ _ _ (by simp;omega)] at ap;split at ap
        · exact ac.2.1 _ _ ap
        grind
      · refine (q5.spliceRows q2 ac (by simp;omega) (by rw [hL];omega)).mono fun v x hr=>hr.mono hz (fun _ h=>h) bn (fun _ _=>rfl) (Nat.le_refl _)
theorem qxc {t ty : TypeId} {i : TI} {sv v : V} {vs : Value} {st1 : AS} (h : RelS w Z inj st a Ds) (ht : tiOf P t = some i) (ay : i.kind = .slice) (av : J7 i.esize sv = true) (s : RelV w Z inj st.nx sv vs) (ha : U4 st i sv = some (v,st1)) :
    ∃ x w' inj',(Builtin.clear_ #[t] ty #[vs]).run P w = .ok x w'∧RelV w' Z inj' st1.nx v x∧RelH w' Z inj' st1.hp st1.nx∧Ext w Z inj st.hp w' Z inj' st1.hp st.nx∧st1.sl = st.sl∧st.nx≤st1.nx:=by
  obtain ⟨bj,d,z,k⟩:=Yw ht;have hk:=k.kind;unfold Zm at hk;simp only [ay] at hk;obtain ⟨e,ie,de,ze,rfl,g1,g2,g3,g4,g5,g6,g7,g8,g9,_⟩:=hk;have y : ∀ w' inj' nx',RelV w' Z inj' nx' (.d (.tup [])) (.tuple #[]):=fun _ _ _=>.d (.tup qg qg);cases sv <;> simp only [U4,reduceCtorEq] at ha
  case d x=>
    cases x <;> simp only [reduceCtorEq,Option.some.injEq,Prod.mk.injEq] at ha
    obtain ⟨rfl,rfl⟩:=ha
    cases s with | d s=>
    cases s;exact ⟨_,w,inj,by simp [Builtin.clear_,run_underlying k.und],y _ _ _,h.heap,.refl,rfl,Nat.le_refl _⟩
  case hs n es off len=>
  have bf:=Nat.eq_of_beq_eq_true av;subst bf;split at ha <;> try simp at ha
  rename_i k0 xs hb;obtain ⟨⟨bv,rfl⟩,rfl,rfl⟩:=ha;obtain ⟨q1,q2,q3⟩:=q7d (h.heap.blk n _ hb).2 rfl;have m : live (.dat i.esize xs) = true:=rfl;by_cases h0 : len = 0
  · subst h0;have ag : splice xs off (List.replicate 0 i.ezero) = xs:=by simp [splice]
    have g : ∀ q,find (repl st.hp n (.dat i.esize (splice xs off (List.replicate 0 i.ezero)))) q = find st.hp q:=by
      intro q;rw [ag,Za];by_cases hq : n = q
      · subst hq;have : find st.hp n = some (.dat i.esize xs):=hb;simp [this]
      · simp [hq]
    have s1 : RelH w Z inj (repl st.hp n (.dat i.esize (splice xs off (List.replicate 0 i.ezero)))) st.nx:=
      ⟨fun q b hq=>h.heap.blk q b (by rw [g] at hq;exact hq),fun q r b c p' q' h1 h2=>h.heap.sep q r b c p' q' (by rw [g] at h1;exact h1) (by rw [g] at h2;exact h2),fun q b p' h1=>h.heap.out q b p' (by rw [g] at h1;exact h1),h.heap.zs,h.heap.zc⟩
    have s2 : Ext w Z inj st.hp w Z inj (repl st.hp n (.dat i.esize (splice xs off (List.replicate 0 i.ezero)))) st.nx:=
      {Ext.refl (w:=w) (Z:=Z) (inj:=inj) (hp:=st.hp) (pin:=st.nx) with imm:=fun b hb=>by obtain ⟨q,blk,o,h1,h2,h3⟩:=hb;rw [g] at h1;exact .inl ⟨q,blk,o,h1,h2,h3⟩}
    cases s with
    | hsnil=>exact ⟨_,w,inj,by simp [Builtin.clear_,run_underlying k.und],y _ _ _,s1,s2,rfl,Nat.le_refl _⟩
    | @hs _ _ _ _ cap adr hn' hlc _ hcap=>exact ⟨_,w,inj,by simp [Builtin.clear_,run_underlying k.und],y _ _ _,s1,s2,rfl,Nat.le_refl _⟩
  · cases s with
    | hsnil=>omega
    | @hs _ _ _ _ cap adr hn' hlc _ hcap=>
      obtain ⟨b,o,hi,rfl,am⟩:=hcap q6;rcases q3 with ⟨_,q4⟩ | ⟨b',o',arr,af,q3,q4,q5⟩
      · grind
      rw [hi] at q3;cases q3;obtain ⟨p,aj⟩ : ∃ p,p = (Builtin.zeroCells ze.cells len).toList:=⟨_,rfl⟩
      have be : ze.cells.size = i.esize:=by
        have:=(q9m (w:=w) (Z:=Z) g4).1;omega
      have hL : p.length = len * i.esize:=by rw [aj];simp [Builtin.zeroCells,be]
      have ac : ERel w Z inj st.nx i.esize ((List.replicate len i.ezero).map (·.map V.d)) p.toArray:=by
        refine ⟨by simp [hL],fun q x hx=>?_,fun q x j d hx hd=>?_⟩
        · grind
        · rw [List.getElem?_map,List.getElem?_replicate] at hx;split at hx <;> simp at hx
          rename_i hq;subst hx;rw [List.getElem?_map] at hd
          cases ae : i.ezero[j]? with
          | none=>rw [ae] at hd;cases hd
          | some d'=>
            rw [ae] at hd;cases hd;obtain ⟨c,hc,hr,ai⟩:=qjc (w:=w) (Z:=Z) g4 g5 hq ae;refine ⟨ai,c,?_,.d hr⟩;rw [aj,Array.toArray_toList];unfold Builtin.zeroCells;grind
      have ba : o + (off + cap) * i.esize≤arr.size:=by
        obtain ⟨c,e2,f,k1,k2⟩:=am;grind
      have bw : len * i.esize≤cap * i.esize:=Nat.mul_le_mul_right _ q6;rw [Nat.add_mul] at ba;have aa:=run_storeCells_at P b (o + off * i.esize) af p 0 arr w q4 (by rw [hL];omega) (ac.one g7);simp only [Nat.add_zero] at aa;have ag : (arr.toList.take (o + off * i.esize) ++ p ++ arr.toList.drop (o + off * i.esize + p.length)).toArray = (splice arr.toList (o + off * i.esize) p).toArray:=rfl;rw [ag] at aa;have ah : o + off * i.esize + p.length≤arr.toList.length:=by rw [hL];simp;omega
      have u : (splice arr.toList (o + off * i.esize) p).toArray.size = arr.size:=by simp only [List.size_toArray];rw [q2g _ _ _ ah];simp
      have hz : ∀ b1,Z b1→(w.setRow b (splice arr.toList (o + off * i.esize) p).toArray).heap[b1]? = w.heap[b1]?:=fun b1 bb=>
        setRow_other w b b1 _ (fun e=>h.heap.out n _ _ hb m hi (by rw [← e];exact bb))
      have ax:=q3a w b arr _ af (0,0) q4 u
      have ao : (Builtin.clear_ #[t] ty #[.slice (some ⟨b,o + off * i.esize,none⟩) len cap]).run P w = .ok (.tuple #[]) (w.setRow b (splice arr.toList (o + off * i.esize) p).toArray):=by
        obtain ⟨l,rfl⟩ : ∃ l,len = l + 1:=⟨len - 1,q6⟩
        have bh : (zeroValue e).run P w = .ok ze w:=by simp [zeroValue,typeInfo,g1,g3]
        rw [aj] at aa ⊢;simp [Builtin.clear_,run_underlying k.und,bh,aa]
      refine ⟨_,_,inj,ao,y _ _ _,?_,Ext.set h.heap hb m hi q4 u,rfl,Nat.le_refl _⟩;refine h.heap.set hb m hi q4 u (q7c (es:=i.esize) (xs:=splice (xs.map (·.map V.d)) off ((List.replicate len i.ezero).map (·.map V.d))) ?_ g7 ?_ (.inr ⟨b,o,_,af,hi,setRow_heap w b _ _ _ _ q4,?_⟩))
      · simp only [rowsOf,splice,List.map_append,List.map_take,List.map_drop,Option.some.injEq,Prod.mk.injEq,true_and];simp
      · intro i' x' bg;rw [Ue _ _ _ _ (by simp;omega)] at bg;grind
      · refine (q5.spliceRows q2 ac (by simp;omega) (by rw [hL];omega)).mono fun v x hr=>hr.mono hz (fun _ h=>h) ax (fun _ _=>rfl) (Nat.le_refl _)
end
end Go.Am
namespace Go.Am
open Go
variable {P : Program} {T : Tab}
def Ze (P : Program) (em : Bool) (k : Nat) (t : TypeId) (desc : TypeDesc) (n : Nat) : Prop:=
  ∀ w,(Ke desc = true→∀ X : Array Value,X.size = n→(Instr.checkKey em k t (.agg X)).run P w = .ok () w)∧(Ke desc = false→n = 1∧∀ x,(Instr.checkKey em k t x).run P w = .ok () w)
theorem qke {f : Bool} {k : Nat} {t : TypeId} {desc : TypeDesc} {b : TypeInfo} {n : Nat} (h : Ze P f k t desc n) (d : P.underlying t = some desc) (hi : P.info? t = some b) (hs : b.size = n) {X : Array Value} {o : Nat} (m : o + n≤X.size) (w : World) :
    ∃ v,(part t X o).run P w = .ok v w∧(Instr.checkKey f k t v).run P w = .ok () w:=by
  obtain ⟨g,c⟩:=h w
  cases a : Ke desc with
  | true=>exact ⟨.agg (X.extract o (o + n)),by simp [part,q38 d,a,Zl hi,hs],g a _ (by simp;omega)⟩
  | false=>
    obtain ⟨l,c⟩:=c a;obtain ⟨x,j⟩:=Yj (xs:=X) (i:=o) q6;exact ⟨x,by simp [part,q38 d,a,j],c x⟩
def qfz (em : Bool) (k : Nat) (X : Array Value) (f : Field) (_s : PUnit) : Sem (ForInStep PUnit):=
  if f.name ≠ "_" then do
    let __do_lift ← part f.type X f.offset
    Instr.checkKey em k f.type __do_lift
    pure (ForInStep.yield PUnit.unit)
  else pure (ForInStep.yield PUnit.unit)
theorem qqt {d : Nat} {t : TypeId} {ks : List (Option IntKind)} (h : Kk P d t = some ks) : ∃ a,P.underlying t = some a:=by
  cases b : P.underlying t with
  | none=>cases d <;> simp [Kk,b] at h
  | some a=>exact ⟨a,rfl⟩
theorem qkc (h : Bool) (d k : Nat) (n : ∀ t desc ks,P.underlying t = some desc→Kk P d t = some ks→Ze P h k t desc ks.length) (X : Array Value) (w : World) : ∀ (l : List Field) (o : Nat) (ks : List (Option IntKind)),
    tile P (Kk P d) o l = some ks→o + ks.length≤X.size→(forIn l PUnit.unit (qfz h k X) : Sem PUnit).run P w = .ok PUnit.unit w
  | [],_,_,_,_=>by simp
  | f::l,o,ks,ht,hl=>by
    simp only [tile] at ht
    cases a : Kk P d f.type with
    | none=>simp [a] at ht
    | some ka=>
      simp only [a] at ht
      split at ht <;> try simp at ht
      rename_i c
      obtain ⟨rfl,u,s⟩:=c
      cases g : tile P (Kk P d) (f.offset + ka.length) l with
      | none=>simp [g] at ht
      | some kb=>
        simp only [g,Option.some.injEq] at ht;subst ht
        simp only [List.length_append] at hl
        obtain ⟨r,b⟩:=qqt a
        obtain ⟨x,j,m⟩:=qf0 b
        obtain ⟨v,p,q⟩:=qke (n f.type r ka b a) b j q6 (X:=X) (o:=f.offset) q6 w
        have:=qkc h d k n X w l (f.offset + ka.length) kb g q6
        rw [List.forIn_cons]
        simp only [qfz,qr u,Sem.run_bind,p,q,Result.andThen_ok]
        simpa using this
def qg0 (em : Bool) (k : Nat) (e : TypeId) (X : Array Value) (i : Nat) (_s : PUnit) : Sem (ForInStep PUnit):=do
  let __do_lift ← sizeOf e
  let __do_lift ← part e X (i * __do_lift)
  Instr.checkKey em k e __do_lift
  pure (ForInStep.yield PUnit.unit)
theorem qkd {c : Bool} {k : Nat} {e : TypeId} {desc : TypeDesc} {a : TypeInfo} {n : Nat} (d : Ze P c k e desc n) (b : P.underlying e = some desc) (hi : P.info? e = some a) (hs : a.size = n) {X : Array Value} (w : World) :
    ∀ (m s : Nat),(s + m) * n≤X.size→(forIn (List.range' s m) PUnit.unit (qg0 c k e X) : Sem PUnit).run P w = .ok PUnit.unit w
  | 0,s,_=>by simp
  | m + 1,s,hl=>by
    have h : s * n + n = (s + 1) * n:=by rw [Nat.add_mul];simp
    have j : (s + (m + 1)) * n = (s + 1) * n + m * n:=by rw [← Nat.add_mul];congr 1;omega
    obtain ⟨v,f,g⟩:=qke d b hi hs (X:=X) (o:=s * n) q6 w
    have:=qkd d b hi hs w m (s + 1) (X:=X) (by rw [Nat.add_mul (s + 1)];omega)
    rw [List.range'_succ,List.forIn_cons]
    simp only [qg0,Sem.run_bind,Zl hi,hs,f,g,Result.andThen_ok]
    simpa using this
theorem qg1 (f : Bool) : ∀ (d : Nat) (t : TypeId) (desc : TypeDesc) (ks : List (Option IntKind)),P.underlying t = some desc→Kk P d t = some ks→∀ k,d≤k→Ze P f k t desc ks.length
  | 0,t,desc,ks,hu,hp,k,hk=>by simp [Kk] at hp
  | d + 1,t,desc,ks,hu,hp,k,hk=>by
    obtain ⟨k,rfl⟩ : ∃ m,k = m + 1:=⟨k - 1,q6⟩
    intro w
    simp only [Kk,hu] at hp
    cases desc <;> simp only [reduceCtorEq,Option.some.injEq] at hp
    case bool=>subst hp;exact ⟨by simp [Ke],fun _=>⟨rfl,fun x=>by unfold Instr.checkKey;simp [run_underlying hu]⟩⟩
    case int k0=>subst hp;exact ⟨by simp [Ke],fun _=>⟨rfl,fun x=>by unfold Instr.checkKey;simp [run_underlying hu]⟩⟩
    case struct fs=>
      refine ⟨fun _ X r=>?_,by simp [Ke]⟩
      split at hp
      · simp at hp
      · have:=qkc (P:=P) f d k (fun t desc ks l q=>qg1 f d t desc ks l q k q6) X w fs.toList 0 ks hp q6
        rw [Array.forIn_toList] at this
        unfold qfz at this
        unfold Instr.checkKey
        simp only [Sem.run_bind,run_underlying hu,Result.andThen_ok]
        rw [this]
        simp
    case array n e=>
      refine ⟨fun _ X r=>?_,by simp [Ke]⟩
      cases b : Kk P d e with
      | none=>simp [b] at hp
      | some a=>
        simp only [b] at hp
        split at hp
        · rename_i p
          simp only [Option.some.injEq] at hp;subst hp
          obtain ⟨o,c⟩:=qqt b
          obtain ⟨s,g,h⟩:=qf0 c
          have j : (List.replicate n a).flatten.length = n * a.length:=by simp
          have:=qkd (qg1 f d e o a c b k q6) c g q6 w n 0 (X:=X) (by rw [Nat.zero_add];omega)
          unfold Instr.checkKey
          simp only [Sem.run_bind,run_underlying hu,Result.andThen_ok,Std.Legacy.Range.forIn_eq_forIn_range',Std.Legacy.Range.size,Nat.sub_zero,Nat.add_sub_cancel,Nat.div_one]
          unfold qg0 at this
          rw [this]
          simp
        · simp at hp
section
variable {w w' : World} {Z : Nat→Prop} {inj : Inj}
theorem qcv {d : DV} {v : Value} (h : RelD w Z d v) : DRel w Z [d] #[v]:=⟨rfl,fun i x y a b=>by
  cases i with
  | zero=>simp at a b;subst a b;exact h
  | succ i=>simp at a⟩
theorem q9z {d : DV} {v : Value} (h : RelD w Z d v) (a : Zz d = true) : ∃ cs,v = .agg cs∧DRel w Z (cellsD d) cs:=by
  cases h <;> simp [Zz] at a
  rename_i ds cs b c;exact ⟨cs,rfl,b,c⟩
theorem q67 {d : DV} (a : Zz d = false) : cellsD d = [d]:=by cases d <;> simp_all [Zz,cellsD]
theorem qmk {d : TypeId} {desc : TypeDesc} {ks : List (Option IntKind)} (k : P.underlying d = some desc) (hp : Kk P 8 d = some ks) {a b : DV} {u v : Value} (j : RelD w Z a u) (hb : RelD w Z b v)
    (h : Zz a = Ke desc) (g : Zz b = Ke desc) {r : Bool} (f : Ki ks (cellsD a) (cellsD b) = some r) : (Op.equal d u v).run P w = .ok r w:=by
  have key:=qcy (P:=P) (w:=w) (Z:=Z) 8 d desc ks k hp Op.maxDepth (by unfold Op.maxDepth;omega)
  cases c : Ke desc with
  | true=>
    obtain ⟨X,rfl,m⟩:=q9z j (h.trans c);obtain ⟨Y,rfl,l⟩:=q9z hb (g.trans c);exact (key _ _ _ _ r m l f).1 c
  | false=>
    rw [q67 (h.trans c),q67 (g.trans c)] at f;exact ((key _ _ _ _ r (qcv j) (qcv hb) f).2 c).2 u v rfl rfl
theorem qia {j : TypeId} {desc : TypeDesc} {ks : List (Option IntKind)} (l : P.underlying j = some desc) (hp : Kk P 8 j = some ks) {a b : DV} {u v : Value} (k : RelD w Z a u) (hb : RelD w Z b v) (f : Ke desc = false)
    {r : Bool} (c : Ki ks [a] [b] = some r) : Instr.sameNow desc u v = some r:=by
  simp only [Kk,l] at hp;cases desc <;> simp only [reduceCtorEq,Option.some.injEq] at hp <;> try (simp [Ke] at f;done)
  case bool=>
    subst hp;simp only [Ki] at c;cases a <;> cases b <;> simp only [q2o,reduceCtorEq] at c
    simp at c;subst c;cases k;cases hb;rfl
  case int k0=>
    subst hp;simp only [Ki] at c;cases a <;> cases b <;> simp only [q2o,reduceCtorEq] at c
    split at c <;> simp at c
    rename_i g h;split at g <;> simp at g
    rename_i d;obtain ⟨rfl,rfl⟩:=d;subst g c;simp at h;subst h;cases k;cases hb;simp [Instr.sameNow]
def Ents (w : World) (Z : Nat→Prop) (es : List (DV × DV)) (ents : List MapEntry) : Prop:=
  ents.length = es.length∧∀ (i : Nat) (e : DV × DV) (x : MapEntry),es[i]? = some e→ents[i]? = some x→RelD w Z e.1 x.key∧RelD w Z e.2 x.val∧Ym e.2 = true
theorem Ents.tail {e : DV × DV} {es : List (DV × DV)} {x : MapEntry} {a : List MapEntry} (h : Ents w Z (e::es) (x::a)) : RelD w Z e.1 x.key∧Ents w Z es a:=
  ⟨(h.2 0 e x rfl rfl).1,by simpa using h.1,fun i f c d b=>h.2 (i + 1) f c (by simpa using d) (by simpa using b)⟩
theorem qge {o : TypeId} {desc : TypeDesc} {ks : List (Option IntKind)} (g : P.underlying o = some desc) (hp : Kk P 8 o = some ks) {a : DV} {u : Value} (j : RelD w Z a u) (f : Ke desc = false) :
    ∀ (es : List (DV × DV)) (d : List MapEntry) (s : Nat) (r : Option Nat),Ents w Z es d→Zr false ks a es = some r→Instr.findNow desc u d s = some (r.bind fun i=>(d[i]?).map fun x=>(s + i,x.val))
  | [],[],s,r,_,hm=>by simp only [Zr,Option.some.injEq] at hm;subst hm;rfl
  | [],x::d,_,_,h,_=>by have:=h.1;simp at this
  | e::es,[],_,_,h,_=>by have:=h.1;simp at this
  | (b,c)::es,x::d,s,r,h,hm=>by
    obtain ⟨l,n⟩:=h.tail
    simp only [Zr] at hm
    split at hm <;> try simp at hm
    rename_i m
    rw [q67 m.1,q67 m.2] at hm
    split at hm <;> try simp at hm
    · rename_i k
      subst hm
      simp [Instr.findNow,qia g hp j l f k]
    · rename_i k
      split at hm <;> simp at hm
      · rename_i i hi
        subst hm
        have:=qge g hp j f es d (s + 1) _ n hi
        simp only [Instr.findNow,qia g hp j l f k,this]
        simp [Nat.add_comm,Nat.add_left_comm]
      · rename_i hi
        subst hm
        have:=qge g hp j f es d (s + 1) _ n hi
        simp only [Instr.findNow,qia g hp j l f k,this]
        rfl
theorem qgd {l : TypeId} {desc : TypeDesc} {ks : List (Option IntKind)} (j : P.underlying l = some desc) (hp : Kk P 8 l = some ks) {a : DV} {u : Value} (k : RelD w Z a u) (f : Ke desc = true) :
    ∀ (es : List (DV × DV)) (d : List MapEntry) (s : Nat) (r : Option Nat),Ents w Z es d→Zr true ks a es = some r→(Instr.findAsking l u d s).run P w = .ok (r.bind fun i=>(d[i]?).map fun x=>(s + i,x.val)) w
  | [],[],s,r,_,hm=>by simp only [Zr,Option.some.injEq] at hm;subst hm;simp [Instr.findAsking]
  | [],x::d,_,_,h,_=>by have:=h.1;simp at this
  | e::es,[],_,_,h,_=>by have:=h.1;simp at this
  | (b,c)::es,x::d,s,r,h,hm=>by
    obtain ⟨p,n⟩:=h.tail
    simp only [Zr] at hm
    split at hm <;> try simp at hm
    rename_i g
    split at hm <;> try simp at hm
    · rename_i m
      subst hm
      simp [Instr.findAsking,qmk j hp k p (g.1.trans f.symm) (g.2.trans f.symm) m]
    · rename_i m
      have o:=qmk j hp k p (g.1.trans f.symm) (g.2.trans f.symm) m
      split at hm <;> simp at hm
      · rename_i i hi
        subst hm
        have:=qgd j hp k f es d (s + 1) _ n hi
        simp only [Instr.findAsking,Sem.run_bind,o,Result.andThen_ok,Bool.false_eq_true,if_false,this]
        simp [Nat.add_comm,Nat.add_left_comm]
      · rename_i hi
        subst hm
        have:=qgd j hp k f es d (s + 1) _ n hi
        simp only [Instr.findAsking,Sem.run_bind,o,Result.andThen_ok,Bool.false_eq_true,if_false,this]
        rfl
theorem qu7 {g : TypeId} {desc : TypeDesc} {ks : List (Option IntKind)} (d : P.underlying g = some desc) (hp : Kk P 8 g = some ks) {a : DV} {u : Value} (j : RelD w Z a u) (l : Zz a = Ke desc)
    {es : List (DV × DV)} {b : List MapEntry} {r : Option Nat} (h : Ents w Z es b) (f : Zr (Ke desc) ks a es = some r) : (Instr.findKey g u b).run P w = .ok (r.bind fun i=>(b[i]?).map fun x=>(i,x.val)) w:=by
  cases c : Ke desc with
  | false=>
    rw [c] at f;have:=qge d hp j c es b 0 r h f;simp only [Nat.zero_add] at this;simp only [Instr.findKey,Sem.run_bind,run_underlying d,Result.andThen_ok,this];simp
  | true=>
    rw [c] at f;have:=qgd d hp j c es b 0 r h f;simp only [Nat.zero_add] at this
    cases b with
    | nil=>
      rw [← this];simp [Instr.findKey,run_underlying d,Instr.findNow,Instr.findAsking]
    | cons e es=>
      have k : Instr.findNow desc u (e::es) 0 = none:=by
        cases desc <;> simp [Ke] at c <;> simp [Instr.findNow,Instr.sameNow]
      simp only [Instr.findKey,Sem.run_bind,run_underlying d,Result.andThen_ok,k];exact this
theorem qfv : ∀ {ks : List (Option IntKind)} {xs ys : List DV} {X Y : List Value},Ki ks xs ys = some true→(X.length = xs.length)→(Y.length = ys.length)→
    (∀ (i : Nat) (d : DV) (c : Value),xs[i]? = some d→X[i]? = some c→RelD w Z d c)→(∀ (i : Nat) (d : DV) (c : Value),ys[i]? = some d→Y[i]? = some c→RelD w Z d c)→∀ n,X.length = Y.length∧(Y.zip X).all (fun (x,y)=>Instr.sameBits n x y) = true
  | [],[],[],[],[],_,_,_,_,_,n=>⟨rfl,rfl⟩
  | [],[],[],_::_,_,_,h,_,_,_,_=>by simp at h
  | [],[],[],[],_::_,_,_,h,_,_,_=>by simp at h
  | [],[],_::_,_,_,h,_,_,_,_,_=>by simp [Ki] at h
  | [],_::_,_,_,_,h,_,_,_,_,_=>by simp [Ki] at h
  | _::_,[],_,_,_,h,_,_,_,_,_=>by simp [Ki] at h
  | _::_,_::_,[],_,_,h,_,_,_,_,_=>by simp [Ki] at h
  | k::ks,a::xs,b::ys,[],_,_,h,_,_,_,_=>by simp at h
  | k::ks,a::xs,b::ys,_::_,[],_,_,h,_,_,_=>by simp at h
  | k::ks,a::xs,b::ys,x::X,y::Y,h,l1,l2,r1,r2,n=>by
    simp only [Ki] at h
    split at h <;> simp at h
    rename_i p q hp r
    obtain ⟨rfl,rfl⟩:=h
    obtain ⟨m,o⟩:=qfv r (by simpa using l1) (by simpa using l2) (fun i d c hd g=>r1 (i + 1) d c (by simpa using hd) (by simpa using g)) (fun i d c hd g=>r2 (i + 1) d c (by simpa using hd) (by simpa using g)) n
    have j:=r1 0 a x rfl rfl
    have l:=r2 0 b y rfl rfl
    refine ⟨by simp [m],?_⟩
    simp only [List.zip_cons_cons,List.all_cons,o,Bool.and_true]
    cases k with
    | none=>
      cases a <;> cases b <;> simp only [q2o,reduceCtorEq] at hp
      simp at hp;subst hp
      cases j;cases l;cases n <;> simp [Instr.sameBits]
    | some k=>
      cases a <;> cases b <;> simp only [q2o,reduceCtorEq] at hp
      split at hp <;> simp at hp
      rename_i f
      obtain ⟨rfl,rfl⟩:=f
      subst hp
      cases j;cases l;cases n <;> simp [Instr.sameBits]
theorem qvl {ks : List (Option IntKind)} {ag : Bool} {a b : DV} {u v : Value} (n : RelD w Z a u) (hb : RelD w Z b v) (m : Zz a = ag) (k : Zz b = ag) (h : Ki ks (cellsD a) (cellsD b) = some true) :
    (Instr.keyThatStays v u).run P w = .ok u w:=by
  have hs : Instr.sameBits 10000 v u = true:=by
    cases ag with
    | true=>
      obtain ⟨X,rfl,f,g⟩:=q9z n m;obtain ⟨Y,rfl,o,p⟩:=q9z hb k;obtain ⟨l,r⟩:=qfv (X:=X.toList) (Y:=Y.toList) h (by simpa using f.symm) (by simpa using o.symm) (fun i d c hd j=>g i d c hd (by simpa using j)) (fun i d c hd j=>p i d c hd (by simpa using j)) 9999;have q : (Y.size == X.size) = true:=by simp at l;simp [l]
      show (Y.size == X.size && (Y.toList.zip X.toList).all fun (x,y)=>Instr.sameBits 9999 x y) = true;grind
    | false=>
      rw [q67 m,q67 k] at h;have:=(qfv (X:=[u]) (Y:=[v]) h rfl rfl (fun i d c f g=>(qcv n).2 i d c f (by simpa using g)) (fun i d c f g=>(qcv hb).2 i d c f (by simpa using g)) 10000).2;simp_all
  simp [Instr.keyThatStays,hs]
end
theorem qlv {w : World} {a : Addr} (h : ∀ c e f,w.heap[a.block]?≠some (.cells c e f)) : w.frozen? a = false:=by
  unfold World.frozen?;grind
theorem qgj {w : World} {b : Nat} {o : Obj} (h : ∀ c e f,w.heap[b]?≠some (.cells c e f)) (j : ∀ c e f,o≠.cells c e f) (a : Addr) : (w.putObj b o).frozen? a = w.frozen? a:=by
  by_cases hb : a.block = b
  · subst hb;rw [qlv h,qlv];intro c e f;by_cases d : a.block < w.heap.size
    · rw [World.putObj_heap_same d];intro g;exact j _ _ _ (qf7 g)
    simp_all
  · simp only [World.frozen?,World.putObj_heap_other hb]
theorem q62 {w : World} {b : Nat} {es : Array MapEntry} {cl : Nat} (hb : w.heap[b]? = some (.map es cl)) : (getObj b).run P w = .ok (.map es cl) w:=by simp [getObj,Sem.run,hb]
theorem qe7 {w : World} {b : Nat} {es : Array MapEntry} {cl : Nat} (o : Obj) (hb : w.heap[b]? = some (.map es cl)) : (setObj b o).run P w = .ok () (w.putObj b o):=by simp [setObj,Sem.run,hb,World.putObj]
section
variable {w : World} {Z : Nat→Prop} {inj : Inj} {hp : List (Nat × Blk)} {nx pin : Nat}
theorem qzg {n : Nat} {es : List (DV × DV)} (h : RelB w Z inj nx n (.mp es)) : ∃ b a cl,inj n = some (b,0)∧w.heap[b]? = some (.map a cl)∧Ents w Z es a.toList:=by
  obtain ⟨b,a,cl,k,d,f,j⟩:=h;exact ⟨b,a,cl,k,d,by simpa using f,fun i e x c g=>j i e x c (by simpa using g)⟩
theorem qog (h : RelH w Z inj hp nx) {n : Nat} {es j : List (DV × DV)} (u : find hp n = some (.mp es)) {b : Nat} (hi : inj n = some (b,0)) {ab a : Array MapEntry} {cl cl' : Nat} (hb : w.heap[b]? = some (.map ab cl))
    (hE : Ents w Z j a.toList) : RelH (w.putObj b (.map a cl')) Z inj (repl hp n (.mp j)) nx∧Ext w Z inj hp (w.putObj b (.map a cl')) Z inj (repl hp n (.mp j)) pin:=by
  have g : ∀ k,k≠b→(w.putObj b (.map a cl')).heap[k]? = w.heap[k]?:=fun k l=>World.putObj_heap_other l
  have ah : ¬ Z b:=fun hz=>by
    obtain ⟨c,e,f,hc⟩:=h.zc b hz;grind
  have af : J4 w (w.putObj b (.map a cl')):=fun k c e f l=>by grind
  have hz : ∀ k,Z k→(w.putObj b (.map a cl')).heap[k]? = w.heap[k]?:=fun k l=>g k (fun e=>ah (e ▸ l))
  have d : ∀ m c,find (repl hp n (.mp j)) m = some c→(m = n∧c = .mp j)∨(m≠n∧find hp m = some c):=by
    intro m c hm;rw [Za] at hm;grind
  have y : ∀ k,im (repl hp n (.mp j)) inj k→im hp inj k:=by
    rintro k ⟨m,c,o,h1,h2,t⟩;rcases d m c h1 with ⟨rfl,rfl⟩ | ⟨_,s⟩
    · exact ⟨m,_,o,u,rfl,t⟩
    · exact ⟨m,c,o,s,h2,t⟩
  have ae : RelB (w.putObj b (.map a cl')) Z inj nx n (.mp j):=by
    refine ⟨b,a,cl',hi,World.putObj_heap_same (Jg hb),by simpa using hE.1,fun i e x he hx=>?_⟩;obtain ⟨g1,g2,g3⟩:=hE.2 i e x he (by simpa using hx);exact ⟨g1.mono hz (fun _ h=>h),g2.mono hz (fun _ h=>h),g3⟩
  refine ⟨⟨?_,?_,?_,?_,?_⟩,⟨qg,?_,fun k l=>.inl (y k l),af,?_,fun _ h=>h,fun _ h=>.inl h,fun _ _=>rfl,rfl,rfl,rfl,qgj (fun _ _ _=>by rw [hb];simp) (fun _ _ _=>qg)⟩⟩
  · intro m c hm;rcases d m c hm with ⟨rfl,rfl⟩ | ⟨r,s⟩
    · exact ⟨(h.blk _ _ u).1,ae⟩
    · obtain ⟨v,z⟩:=h.blk m c s;exact ⟨v,z.mono hz (fun _ h=>h) af (fun _ _=>rfl) (Nat.le_refl _) v fun p hp ai=>g _ fun e=>h.sep m n c _ p (b,0) s u ai rfl hp hi r e⟩
  · intro m m' c c' p q h1 h2 t s v z r;rcases d m c h1 with ⟨rfl,rfl⟩ | ⟨e1,k1⟩ <;> rcases d m' c' h2 with ⟨rfl,rfl⟩ | ⟨e2,k2⟩
    · omega
    · exact h.sep _ _ _ _ p q u k2 rfl s v z r
    · exact h.sep _ _ _ _ p q k1 u t rfl v z r
    · exact h.sep _ _ _ _ p q k1 k2 t s v z r
  · intro m c p h1 h2 t;rcases d m c h1 with ⟨rfl,rfl⟩ | ⟨e1,k1⟩
    · grind
    · exact h.out _ _ p k1 h2 t
  · intro k l;simpa using h.zs k l
  · intro k l;obtain ⟨c,e,f,hc⟩:=h.zc k l;grind
  · intro k _ l;exact g k fun e=>l ⟨n,_,0,u,rfl,e ▸ hi⟩
  · intro k x l;grind
end
section
variable {w : World} {Z : Nat→Prop} {inj : Inj} {st : AS} {a : Act} {Ds : List Nat}
theorem qxo {t : TypeId} (h : RelS w Z inj st a Ds) : Km st (st.new (.mp [])) (.mp st.nx) w Z inj ((do pure (Next.value (← Instr.makeMap t none)) : Sem Next).run P w):=by
  refine .new (o:=.map #[] 0) (x:=.map (some w.heap.size)) h ?_ ?_ (.mp q6 (Ya _ _ _))
  · simp [Instr.makeMap]
  · exact ⟨w.heap.size,#[],0,Ya _ _ _,U2 w _,rfl,qg⟩
theorem q6f {t : TypeId} {i : TI} {ks : List (Option IntKind)} {n : Nat} {es : List (DV × DV)} {m : DV} {mv s : Value} {r : Option Nat} (h : RelS w Z inj st a Ds) (ht : tiOf P t = some i) (hk : i.keys = some ks) (hm : RelV w Z inj st.nx (.mp n) mv)
    (hb : st.blk n = some (.mp es)) (o : RelD w Z m s) (l : Uq i.eagg ks m = true) (hf : Zr i.eagg ks m es = some r) :
    ∃ j et b c cl,P.underlying t = some (.map j et)∧mv = .map (some b)∧inj n = some (b,0)∧w.heap[b]? = some (.map c cl)∧Ents w Z es c.toList∧(∀ v,(Instr.checkKey v 10000 j s).run P w = .ok () w)∧
      (Instr.findKey j s c.toList).run P w = .ok (r.bind fun i=>(c[i]?).map fun x=>(i,x.val)) w∧∃ q u,i.ezero = [q]∧(zeroValue et).run P w = .ok u w∧RelD w Z q u:=by
  obtain ⟨af,d,z,k⟩:=Yw ht;have g:=k.kind;unfold Zm at g;rw [k.keys ks hk] at g;obtain ⟨j,e,ie,u,q,aq,dk,rfl,g1,g2,g3,g4,g5,g6,g7,g8,_⟩:=g;rw [hk] at g6;cases g6
  have f : Zz m = i.eagg∧(cellsD m).length = ks.length:=by
    simp only [Uq,Bool.and_eq_true,beq_iff_eq] at l;simp_all
  obtain ⟨f,p⟩:=f
  cases hm with
  | @mp _ b hn hi=>
  obtain ⟨b',c,cl,e1,e2,e3⟩:=qzg (h.heap.blk n _ hb).2;rw [hi] at e1;cases e1;rw [g8] at f hf;refine ⟨j,e,b,c,cl,k.und,rfl,hi,e2,e3,fun v=>?_,?_,q,u,g7,?_,(qg3 g3).1⟩
  · have hc:=qg1 v 8 j dk ks g5 g4 10000 q6 w
    cases y : Ke dk with
    | true=>
      obtain ⟨X,rfl,hX⟩:=q9z o (f.trans y);exact (hc.1 y) X (hX.1.symm.trans p)
    | false=>exact (hc.2 y).2 s
  · have:=qu7 g5 g4 o f e3 hf;grind
  · simp [zeroValue,typeInfo,g1,g2]
theorem qg8 {es : List (DV × DV)} {a : List MapEntry} (h : Ents w Z es a) {j : Nat} {e : DV × DV} (b : es[j]? = some e) : ∃ x,a[j]? = some x∧RelD w Z e.1 x.key∧RelD w Z e.2 x.val∧Ym e.2 = true:=by
  obtain ⟨x,c⟩:=Zw (xs:=a) (i:=j) (by rw [h.1];exact Kh b);exact ⟨x,c,h.2 j e x b c⟩
theorem qhb {ag : Bool} {ks : List (Option IntKind)} {k : DV} : ∀ {es : List (DV × DV)} {j : Nat},Zr ag ks k es = some (some j)→∃ e,es[j]? = some e∧Zz e.1 = ag∧Ki ks (cellsD k) (cellsD e.1) = some true
  | [],j,h=>by simp [Zr] at h
  | (b,c)::es,j,h=>by
    simp only [Zr] at h
    split at h <;> try simp at h
    rename_i f
    split at h <;> try simp at h
    · rename_i d;subst h;exact ⟨_,rfl,f.2,d⟩
    · split at h <;> simp at h
      rename_i i hi
      subst h
      obtain ⟨e,g,a⟩:=qhb hi
      exact ⟨e,by simpa using g,a⟩
theorem qxm {t : TypeId} {x y : Operand} {ok : Bool} {i : TI} {ks : List (Option IntKind)} {n : Nat} {es : List (DV × DV)} {kd z : DV} {e : DV × Bool} (h : RelS w Z inj st a Ds) (ht : tiOf P t = some i) (hk : i.keys = some ks) (hx : st.ev x = some (.mp n)) (hy : st.ev y = some (.d kd))
    (hb : st.blk n = some (.mp es)) (hz : i.ezero = [z]) (g : Uq i.eagg ks kd = true) (p : mget i.eagg ks z kd es = some e) :
    Km st st (.d (bif ok then .tup [e.1,.bool e.2] else e.1)) w Z inj ((do pure (Next.value (← Instr.lookup t (a.eval x) (a.eval y) ok)) : Sem Next).run P w):=by
  have hm:=Kd h hx;have f:=Kd h hy;generalize a.eval x = mv at hm ⊢;generalize a.eval y = kv at f ⊢
  cases f with | d f=>
  have fin : ∀ (u : Value) (o : Bool) (dv : DV),RelD w Z dv u→e = (dv,o)→(Instr.lookup t mv kv ok).run P w = .ok (if ok then .tuple #[u,.bool o] else u) w→Km st st (.d (bif ok then .tup [e.1,.bool e.2] else e.1)) w Z inj ((do pure (Next.value (← Instr.lookup t mv kv ok)) : Sem Next).run P w):=by
    rintro u o dv hr rfl m;refine .quiet h (Kl m) (.d ?_)
    cases ok with
    | false=>exact hr
    | true=>
      refine .tup rfl fun i d c hd l=>?_
      match i,hd,l with
      | 0,hd,l=>simp at hd l;subst hd l;exact hr
      | 1,hd,l=>simp at hd l;subst hd l;exact .bool _
      | i + 2,hd,_=>simp at hd
  unfold mget at p;split at p <;> try simp at p
  · rename_i j hf;obtain ⟨a1,b1,ab,rfl⟩:=p;obtain ⟨kt,et,b,k,cl,v,rfl,g3,r,g5,g6,q,_⟩:=q6f h ht hk hm hb f g hf;obtain ⟨u,hu,q1,q2,q3⟩:=qg8 g5 ab;refine fin u.val true _ q2 rfl ?_;have ad : k[j]? = some u:=by simpa using hu
    simp [Instr.lookup,run_underlying v,q62 r,g6,q,ad]
  · rename_i hf;subst p;obtain ⟨kt,et,b,k,cl,v,rfl,g3,r,g5,g6,q,zd,ze,g8,g9,s⟩:=q6f h ht hk hm hb f g hf;rw [hz] at g8;cases g8;refine fin ze false _ s rfl ?_;simp only [Option.bind_none] at q;simp [Instr.lookup,run_underlying v,q62 r,g6,q,g9]
theorem qtw {es : List (DV × DV)} {a : List MapEntry} (h : Ents w Z es a) {f d : DV} {x : MapEntry} (k : RelD w Z f x.key) (g : RelD w Z d x.val) (j : Ym d = true) : Ents w Z (es ++ [(f,d)]) (a ++ [x]):=by
  refine ⟨by simp [h.1],fun i e y b c=>?_⟩;by_cases hi : i < es.length
  · rw [List.getElem?_append_left hi] at b;rw [List.getElem?_append_left (by rw [h.1];exact hi)] at c;exact h.2 i e y b c
  · rw [List.getElem?_append_right q6] at b;rw [List.getElem?_append_right (by rw [h.1];omega),h.1] at c;grind
theorem qtx {es : List (DV × DV)} {a : List MapEntry} (h : Ents w Z es a) {j : Nat} {g d : DV} {x : MapEntry} (m : RelD w Z g x.key) (k : RelD w Z d x.val) (l : Ym d = true) : Ents w Z (es.set j (g,d)) (a.set j x):=by
  refine ⟨by simp [h.1],fun i e y b c=>?_⟩;rw [List.getElem?_set] at b c;by_cases f : j = i
  · grind
  · rw [qp f] at b c;exact h.2 i e y b c
theorem qtv {es : List (DV × DV)} {a : List MapEntry} (h : Ents w Z es a) (j : Nat) : Ents w Z (es.eraseIdx j) (a.eraseIdx j):=by
  refine ⟨by simp [List.length_eraseIdx,h.1],fun i e y c b=>?_⟩;rw [List.getElem?_eraseIdx] at c b;split at c
  · rename_i hi;rw [qr hi] at b;exact h.2 i e y c b
  · rename_i hi;rw [qp hi] at b;exact h.2 (i + 1) e y c b
theorem qxq {t : TypeId} {m x y : Operand} {i : TI} {ks : List (Option IntKind)} {n : Nat} {es o : List (DV × DV)} {kd vd : DV} (h : RelS w Z inj st a Ds) (ht : tiOf P t = some i) (hk : i.keys = some ks) (v : st.ev m = some (.mp n)) (hx : st.ev x = some (.d kd)) (hy : st.ev y = some (.d vd))
    (hb : st.blk n = some (.mp es)) (k : Uq i.eagg ks kd = true) (hc : Ym vd = true) (s : mput i.eagg ks kd vd es = some o) :
    Km st (st.setBlk n (.mp o)) .dead w Z inj ((do Instr.mapUpdate t (a.eval m) (a.eval x) (a.eval y);pure Next.skip : Sem Next).run P w):=by
  have v:=Kd h v;have f:=Kd h hx;have l:=Kd h hy;generalize a.eval m = mv at v ⊢;generalize a.eval x = kv at f ⊢;generalize a.eval y = vv at l ⊢
  cases f with | d f=>
  cases l with | d l=>
  have z : Zz kd = i.eagg:=by simp only [Uq,Bool.and_eq_true,beq_iff_eq] at k;exact k.1
  have fin : ∀ b c cl g cl',inj n = some (b,0)→w.heap[b]? = some (.map c cl)→Ents w Z o g.toList→(Instr.mapUpdate t mv kv vv).run P w = .ok () (w.putObj b (.map g cl'))→
      Km st (st.setBlk n (.mp o)) .dead w Z inj ((do Instr.mapUpdate t mv kv vv;pure Next.skip : Sem Next).run P w):=by
    intro b c cl g cl' hi hh hE r
    obtain ⟨q,g2⟩:=qog (pin:=st.nx) (cl':=cl') h.heap hb hi hh hE
    exact ⟨undef,_,inj,.inr ⟨by simp [r],rfl⟩,.dead _,q,g2,rfl,Nat.le_refl _⟩
  unfold mput at s;split at s <;> try simp at s
  · rename_i j hf;subst s;obtain ⟨kt,et,b,c,cl,q,rfl,g3,p,g5,g6,g7,_⟩:=q6f h ht hk v hb f k hf;obtain ⟨e,he,e1,e2⟩:=qhb hf;obtain ⟨u,hu,q1,q2,q3⟩:=qg8 g5 he;have ag : c[j]? = some u:=by simpa using hu
    have ah:=qvl (P:=P) f q1 z e1 e2;refine fin b c cl (c.modify j fun e=>{e with key:=kv,val:=vv}) cl g3 p ?_ ?_
    · have : (c.modify j fun e=>{e with key:=kv,val:=vv}).toList = c.toList.set j {u with key:=kv,val:=vv}:=by
        apply List.ext_getElem?;grind
      rw [this];exact qtx g5 f l hc
    · simp [Instr.mapUpdate,run_underlying q,q62 p,g6,g7,ag,ah,qe7 _ p]
  · rename_i hf;subst s;obtain ⟨kt,et,b,c,cl,q,rfl,g3,p,g5,g6,g7,_⟩:=q6f h ht hk v hb f k hf;simp only [Option.bind_none] at g7;refine fin b c cl (c.push {key:=kv,val:=vv,born:=cl}) (cl + 1) g3 p ?_ ?_
    · rw [Array.toList_push];exact qtw g5 f l hc
    · simp [Instr.mapUpdate,run_underlying q,q62 p,g6,g7,qe7 _ p]
theorem qxf {ts : Array TypeId} {ty t : TypeId} {mv v : Value} {i : TI} {ks : List (Option IntKind)} {n : Nat} {es k : List (DV × DV)} {kd : DV} (h : RelS w Z inj st a Ds) (ht : tiOf P t = some i) (p : ts[0]? = some t) (hk : i.keys = some ks) (hm : RelV w Z inj st.nx (.mp n) mv) (r : RelD w Z kd v)
    (hb : st.blk n = some (.mp es)) (l : Uq i.eagg ks kd = true) (s : mdel i.eagg ks kd es = some k) :
    Km st (st.setBlk n (.mp k)) (.d (.tup [])) w Z inj ((do pure (Next.value (← Builtin.delete_ ts ty #[mv,v])) : Sem Next).run P w):=by
  have fin : ∀ b f cl g cl',inj n = some (b,0)→w.heap[b]? = some (.map f cl)→Ents w Z k g.toList→(Builtin.delete_ ts ty #[mv,v]).run P w = .ok (.tuple #[]) (w.putObj b (.map g cl'))→
      Km st (st.setBlk n (.mp k)) (.d (.tup [])) w Z inj ((do pure (Next.value (← Builtin.delete_ ts ty #[mv,v])) : Sem Next).run P w):=by
    intro b f cl g cl' hi hh hE q
    obtain ⟨o,g2⟩:=qog (pin:=st.nx) (cl':=cl') h.heap hb hi hh hE
    exact ⟨.tuple #[],_,inj,.inl (Kl q),.d (.tup rfl fun i d c hd _=>by simp at hd),o,g2,rfl,Nat.le_refl _⟩
  unfold mdel at s;split at s <;> try simp at s
  · rename_i j z;subst s;obtain ⟨kt,et,b,f,cl,o,rfl,g3,m,x,g6,y,_⟩:=q6f h ht hk hm hb r l z;obtain ⟨e,he,e1,e2⟩:=qhb z;obtain ⟨u,hu,q1,q2,q3⟩:=qg8 x he;have ac : f[j]? = some u:=by simpa using hu
    refine fin b f cl (f.eraseIdxIfInBounds j) cl g3 m ?_ ?_
    · rw [Array.toList_eraseIdxIfInBounds];exact qtv x j
    · simp [Builtin.delete_,p,run_underlying o,q62 m,g6,y,ac,qe7 _ m]
  · rename_i z;subst s;obtain ⟨kt,et,b,f,cl,o,rfl,g3,m,x,g6,y,_⟩:=q6f h ht hk hm hb r l z;simp only [Option.bind_none] at y;refine fin b f cl f cl g3 m x ?_;simp [Builtin.delete_,p,run_underlying o,q62 m,g6,y,qe7 _ m]
end
end Go.Am
