/- Am13 Am14 Am15 Am16 Am16m -/
import Derived.Test.YtiejlbckgihckaaGreatK2
import Derived.Deep.AppendSrc
import Derived.Room.Entries
import Derived.RangeFuncRecord
namespace Go.Am
open Go
variable {P : Program} {T : Tab}
def RowV (w : World) (Z : Nat→Prop) (inj : Inj) (nx : Nat) (arr : Array Value) (o es : Nat) (xs : List (List V)) : Prop:=
  ∀ (i : Nat) (x : List V) (j : Nat) (d : V),xs[i]? = some x→x[j]? = some d→Kh d = true∧∃ c,arr[o + (i * es + j)]? = some c∧RelV w Z inj nx d c
section
variable {w : World} {Z : Nat→Prop} {inj : Inj} {nx : Nat}
theorem RowV.mono {w' : World} {inj' : Inj} {nx' : Nat} {arr : Array Value} {o es : Nat} {xs : List (List V)} (h : RowV w Z inj nx arr o es xs) (a : ∀ v x,RelV w Z inj nx v x→RelV w' Z inj' nx' v x) : RowV w' Z inj' nx' arr o es xs:=
  fun i x j d b hd=>let ⟨h1,c,h2,h3⟩:=h i x j d b hd;⟨h1,c,h2,a _ _ h3⟩
def rowsOf : Blk→Option (Nat × List (List V))
  | .dat es xs=>some (es,xs.map (·.map .d))
  | .cel es xs=>some (es,xs)
  | _=>none
theorem q5q {n : Nat} {b : Blk} {es : Nat} {xs : List (List V)} (h : RelB w Z inj nx n b) (q : rowsOf b = some (es,xs)) :
    es≠0∧(∀ (i : Nat) (x : List V),xs[i]? = some x→x.length = es)∧((xs = []∧inj n = none)∨∃ b o arr ty,inj n = some (b,o)∧w.heap[b]? = some (.cells arr ty (0,0))∧RowV w Z inj nx arr o es xs):=by
  cases b <;> simp only [rowsOf,reduceCtorEq,Option.some.injEq,Prod.mk.injEq] at q
  · obtain ⟨rfl,rfl⟩:=q;obtain ⟨l,k,a⟩:=h;refine ⟨l,?_,?_⟩
    · intro i x f;simp only [List.getElem?_map,Kv] at f;obtain ⟨y,g,rfl⟩:=f;simpa using k i y g
    · rcases a with ⟨a,m⟩ | ⟨b,o,arr,ty,a,m,v⟩
      · exact .inl ⟨by simp [a],m⟩
      · refine .inr ⟨b,o,arr,ty,a,m,fun i x j d f hd=>?_⟩;simp only [List.getElem?_map,Kv] at f;obtain ⟨y,g,rfl⟩:=f;simp only [List.getElem?_map,Kv] at hd;obtain ⟨u,p,rfl⟩:=hd;obtain ⟨s,c,t,r⟩:=v i y j u g p;exact ⟨s,c,t,.d r⟩
  · obtain ⟨rfl,rfl⟩:=q;obtain ⟨l,k,a⟩:=h;exact ⟨l,k,a⟩
theorem q5p {n : Nat} {b : Blk} {es : Nat} {xs : List (List V)} (g : rowsOf b = some (es,xs)) (l : es≠0) (m : ∀ (i : Nat) (x : List V),xs[i]? = some x→x.length = es)
    (h : (xs = []∧inj n = none)∨∃ b o arr ty,inj n = some (b,o)∧w.heap[b]? = some (.cells arr ty (0,0))∧RowV w Z inj nx arr o es xs) : RelB w Z inj nx n b:=by
  cases b <;> simp only [rowsOf,reduceCtorEq,Option.some.injEq,Prod.mk.injEq] at g
  · obtain ⟨rfl,rfl⟩:=g;rename_i xs;refine ⟨l,fun i x a=>?_,?_⟩
    · have:=m i (x.map .d) (by simp [a]);simpa using this
    · rcases h with ⟨k,f⟩ | ⟨b,o,arr,ty,k,f,s⟩
      · exact .inl ⟨by simpa using k,f⟩
      · refine .inr ⟨b,o,arr,ty,k,f,fun i x j d a hd=>?_⟩;obtain ⟨q,c,r,p⟩:=s i (x.map .d) j (.d d) (by simp [a]) (by simp [hd]);refine ⟨q,c,r,?_⟩
        cases p with | d h=>exact h
  · obtain ⟨rfl,rfl⟩:=g;exact ⟨l,m,h⟩
theorem RowV.set {arr k : Array Value} {o es e j : Nat} {xs : List (List V)} {cs ys : List V} (h : RowV w Z inj nx arr o es xs) (y : ∀ (i : Nat) (x : List V),xs[i]? = some x→x.length = es) (r : xs[e]? = some cs) (n : LRel w Z inj nx ys k) (v : ys.all Kh = true)
    (hj : j + ys.length≤cs.length) (l : o + (e * es + j) + k.size≤arr.size) : RowV w Z inj nx (splice arr.toList (o + (e * es + j)) k.toList).toArray o es (xs.set e (splice cs j ys)):=by
  have z : k.toList.length = ys.length:=by have:=n.1;simp;omega
  have b : o + (e * es + j) + k.toList.length≤arr.toList.length:=by simpa using l
  have aa:=y e cs r;intro i x a d f hd;rw [List.getElem?_toArray,U4 _ _ _ _ b];rw [List.getElem?_set] at f;by_cases g : e = i
  · subst g;rw [ql rfl,ql (Kc r)] at f;simp at f;subst f;rw [U4 _ _ _ _ hj] at hd;by_cases m : j≤a∧a < j + ys.length
    · rw [ql m] at hd;obtain ⟨c,u⟩:=Y4 (xs:=k) (i:=a - j) (by have:=n.1;omega);rw [ql q0,show o + (e * es + a) - (o + (e * es + j)) = a - j by omega];exact ⟨List.all_eq_true.1 v _ (List.mem_of_getElem? hd),c,by simpa using u,n.2 _ _ _ hd u⟩
    · rw [qn m] at hd;rw [qn q0];obtain ⟨q,c,p,s⟩:=h e cs a d r hd;exact ⟨q,c,by simpa using p,s⟩
  · rw [qn g] at f;obtain ⟨q,c,p,s⟩:=h i x a d f hd;refine ⟨q,c,?_,s⟩;have t : a < es:=by have:=Kc hd;have:=y i x f;omega
    rw [qn ?_]
    · simpa using p
    · intro u;exact g ((qge (i:=e) t).1 q0).symm
end
section
variable {w : World} {Z : Nat→Prop} {inj : Inj} {st : AS} {a : Act} {Ds : List Nat}
theorem qzx {t : TypeId} {a : TypeInfo} {x : Value} {b o : Nat} {arr : Array Value} {ty : TypeId} (hi : P.info? t = some a) (hs : x.cells.size = a.size) (f : ∀ c∈x.cells.toList,c.oneCell' = true)
    (hb : w.heap[b]? = some (.cells arr ty (0,0))) (d : o + x.cells.size≤arr.size) :
    (Instr.storeAt t (.pointer (some ⟨b,o,none⟩)) x).run P w = .ok () (w.setRow b (splice arr.toList o x.cells.toList).toArray):=by
  have:=run_storeCells_at P b o ty x.cells.toList 0 arr w hb (by simpa using d) f;simp only [Nat.add_zero] at this;simp only [Instr.storeAt,Instr.sureAddr,storeVar,Sem.run_bind,Sem.run_pure,Result.andThen_ok,Z9 hi,Sem.run_ite];rw [qn q0];exact this
theorem qt2 {t : TypeId} {i : TI} {p x : Operand} {pv v : V} {st1 : AS} (h : RelS w Z inj st a Ds) (ht : tiOf P t = some i) (hp : st.ev p = some pv) (hx : st.ev x = some v) (hs : Jm st i pv v = some st1) :
    Kf st st1 .dead w Z inj ((do Instr.storeAt t (a.eval p) (a.eval x);pure .skip : Sem Next).run P w):=by
  obtain ⟨aw,d,z,k⟩:=Yj ht;have af:=K9 h hp;have ah:=K9 h hx;generalize a.eval p = vp at af ⊢;generalize a.eval x = vx at ah ⊢;cases pv <;> simp only [Jm,reduceCtorEq] at hs
  rename_i n k0 e j;split at hs <;> try simp at hs
  rename_i r
  have ay : (cellsOf v).length = i.size:=by
    apply Classical.byContradiction;intro hc;exact r (.inl hc)
  have ad : (cellsOf v).all Kh = true:=by
    cases hc : (cellsOf v).all Kh with
    | true=>rfl
    | false=>exact absurd (.inr hc) r
  cases af with | @ref _ _ _ _ b o hn hi=>
  have key : ∀ (b0 : Blk) (es : Nat) (xs : List (List V)) (cs : List V) (b1 : Blk),st.blk n = some b0→rowsOf b0 = some (es,xs)→es = k0→xs[e]? = some cs→j + i.size≤cs.length→rowsOf b1 = some (es,xs.set e (splice cs j (cellsOf v)))→st1 = st.setBlk n b1→
      Kf st st1 .dead w Z inj ((do Instr.storeAt t (.pointer (some ⟨b,o + (e * k0 + j),none⟩)) vx;pure .skip : Sem Next).run P w):=by
    rintro b0 es xs cs b1 s ar rfl g f ao rfl
    obtain ⟨g1,g2,g3⟩:=q5q (h.heap.blk n b0 s).2 ar
    rcases g3 with ⟨g3,_⟩ | ⟨b',o',arr,ty,g3,g4,g5⟩
    · subst g3;simp at g
    · rw [hi] at g3;cases g3
      obtain ⟨c1,c2,c3⟩:=qa6 ah ad
      have l : live b0 = true:=by cases b0 <;> simp_all [rowsOf,live]
      have aq:=g2 e cs g
      have ba : 0 < es:=by omega
      have ak : o + (e * es + (es - 1)) < arr.size:=by
        obtain ⟨d0,an⟩:=Zm (xs:=cs) (i:=es - 1) q0;obtain ⟨_,c,hc,_⟩:=g5 e cs (es - 1) d0 g an;exact Zd hc
      have m : o + (e * es + j) + vx.cells.size≤arr.size:=by omega
      have aj:=qzx (P:=P) (w:=w) k.inf (x:=vx) (by rw [k.size];omega) c3 g4 m
      have y : (splice arr.toList (o + (e * es + j)) vx.cells.toList).toArray.size = arr.size:=by
        simp only [List.size_toArray];rw [q22 _ _ _ (by simpa using m)];simp
      have hz : ∀ b1,Z b1→(w.setRow b (splice arr.toList (o + (e * es + j)) vx.cells.toList).toArray).heap[b1]? = w.heap[b1]?:=fun b1 am=>
        setRow_other w b b1 _ (fun e=>h.heap.out n b0 _ s l hi (by rw [← e];exact am))
      have ap:=q2t w b arr _ ty (0,0) g4 y
      refine ⟨undef,_,inj,.inr ⟨by simp [aj],rfl⟩,.dead _,?_,Ext.set h.heap s l hi g4 y,rfl,Nat.le_refl _⟩
      refine h.heap.set s l hi g4 y (q5p ao g1 ?_ (.inr ⟨b,o,_,ty,hi,setRow_heap w b _ _ _ _ g4,?_⟩))
      · intro i' x' q
        rw [List.getElem?_set] at q
        by_cases ae : e = i'
        · rw [ql ae,ql (by have:=Kc g;omega)] at q
          simp at q;rw [← q,q22 _ _ _ q0];exact aq
        · rw [qn ae] at q;exact g2 _ _ q
      · exact (g5.set g2 g ⟨c1,c2⟩ ad q0 m).mono fun v x hr=>hr.mono hz (fun _ h=>h) ap (fun _ _=>rfl) (Nat.le_refl _)
  cases hb : st.blk n with
  | none=>simp [hb] at hs
  | some blk=>
    cases blk with
    | dead=>simp [hb] at hs
    | loop=>simp [hb] at hs
    | mp=>simp [hb] at hs
    | dat es xs=>
      simp only [hb] at hs;split at hs <;> try simp at hs
      rename_i cs u ab;have u:=Nat.eq_of_beq_eq_true u;have g : (xs.map (·.map V.d))[e]? = some (cs.map V.d):=by simp [ab]
      split at hs
      · rename_i ds al;simp at hs;obtain ⟨f,hs⟩:=hs;refine key _ _ _ _ _ hb rfl u.symm g (by simpa using f) ?_ hs.symm;simp only [rowsOf,Option.some.injEq,Prod.mk.injEq,true_and];rw [q3c al];simp [splice,List.map_set,List.map_take,List.map_drop]
      · simp at hs;obtain ⟨f,hs⟩:=hs;exact key _ _ _ _ _ hb rfl u.symm g (by simpa using f) rfl hs.symm
    | cel es xs=>
      simp only [hb] at hs;split at hs <;> try simp at hs
      rename_i cs u ab;have u:=Nat.eq_of_beq_eq_true u;obtain ⟨f,hs⟩:=hs;exact key _ _ _ _ _ hb rfl u.symm ab f rfl hs.symm
end
end Go.Am
namespace Go.Am
open Go
variable {P : Program} {T : Tab}
section
variable {w : World} {Z : Nat→Prop} {inj : Inj} {nx : Nat}
def Jr (w : World) (ad : Option Addr) (L : List Value) (ys : List (List V)) : Prop:=match ad with
  | some p=>∀ (k : Nat) (u : Value),L[k]? = some u→w.cell? (p.add k) = some u
  | none=>ys = []
theorem qew {b o es : Nat} {xs : List (List V)} (r : es≠0) (p : ∀ (i : Nat) (x : List V),xs[i]? = some x→x.length = es)
    (h : ∀ (i : Nat) (x : List V) (j : Nat) (d : V),xs[i]? = some x→x[j]? = some d→Kh d = true∧∃ c,w.cell? ⟨b,o + (i * es + j),none⟩ = some c∧RelV w Z inj nx d c) :
    ∃ L : List Value,L.length = xs.length * es∧(∀ (k : Nat) (u : Value),L[k]? = some u→w.cell? ⟨b,o + k,none⟩ = some u)∧ERel w Z inj nx es xs L.toArray:=by
  have g : ∀ k,k < xs.length * es→∃ i x j d c,xs[i]? = some x∧x[j]? = some d∧k = i * es + j∧w.cell? ⟨b,o + k,none⟩ = some c∧RelV w Z inj nx d c:=by
    intro k a;have n : k / es < xs.length:=Nat.div_lt_of_lt_mul (by rwa [Nat.mul_comm]);have m : k % es < es:=Nat.mod_lt _ q0;obtain ⟨x,f⟩:=Zm n;obtain ⟨d,hd⟩:=Zm (xs:=x) (i:=k % es) (by rw [p _ _ f];exact m);obtain ⟨_,c,l,t⟩:=h _ _ _ _ f hd;have a : k = k / es * es + k % es:=by rw [Nat.mul_comm];exact (Nat.div_add_mod k es).symm
    exact ⟨_,_,_,_,c,f,hd,a,by rw [a];exact l,t⟩
  refine ⟨(List.range (xs.length * es)).map fun k=>(w.cell? ⟨b,o + k,none⟩).getD undef,qc,?_,?_⟩
  · intro k u q;have a : k < xs.length * es:=by have:=Kc q;simpa using this
    obtain ⟨_,_,_,_,c,_,_,_,l,_⟩:=g k a;simp [a,l] at q;rw [l,q]
  · refine ⟨qc,p,fun i x j d f hd=>?_⟩;obtain ⟨n,c,m,s⟩:=h i x j d f hd;have a:=q3f (Kc f) (show j < es by have:=Kc hd;have:=p i x f;omega);exact ⟨n,c,by simp [a,m],s⟩
theorem ERel.append {es : Nat} {xs ys : List (List V)} {A B : Array Value} (h : ERel w Z inj nx es xs A) (k : ERel w Z inj nx es ys B) : ERel w Z inj nx es (xs ++ ys) (A ++ B):=by
  obtain ⟨l,n,p⟩:=h;obtain ⟨b1,m,o⟩:=k;refine ⟨by simp [l,b1,Nat.add_mul],?_,?_⟩
  · intro i x a;rw [List.getElem?_append] at a;split at a
    · exact n _ _ a
    · exact m _ _ a
  · intro i x j d a hd;rw [List.getElem?_append] at a;split at a
    · obtain ⟨f,c,b,g⟩:=p i x j d a hd;exact ⟨f,c,by rw [Array.getElem?_append_left (Zd b)];exact b,g⟩
    · rename_i hi;obtain ⟨f,c,b,g⟩:=o _ x j d a hd;refine ⟨f,c,?_,g⟩
      have e : i * es + j = A.size + ((i - xs.length) * es + j):=by
        rw [l,← Nat.add_assoc,← Nat.add_mul];congr 2;omega
      rw [e,Array.getElem?_append_right q0,show A.size + ((i - xs.length) * es + j) - A.size = (i - xs.length) * es + j by omega];exact b
theorem ERel.row {es : Nat} {xs : List (List V)} {A B : Array Value} (h : ERel w Z inj nx es xs A) : RowV w Z inj nx (A ++ B) 0 es xs:=by
  intro i x j d b hd;obtain ⟨f,c,a,g⟩:=h.2.2 i x j d b hd;exact ⟨f,c,by rw [Nat.zero_add,Array.getElem?_append_left (Zd a)];exact a,g⟩
theorem ERel.one {es : Nat} {xs : List (List V)} {L : List Value} (g : es≠0) (h : ERel w Z inj nx es xs L.toArray) : ∀ u∈L,u.oneCell' = true:=by
  intro u o;obtain ⟨k,b⟩:=List.mem_iff_getElem?.1 o;have p:=Kc b;have l : L.length = xs.length * es:=by simpa using h.1
  have m : k / es < xs.length:=Nat.div_lt_of_lt_mul (by rw [Nat.mul_comm];omega);obtain ⟨x,f⟩:=Zm m;obtain ⟨d,hd⟩:=Zm (xs:=x) (i:=k % es) (by rw [h.2.1 _ _ f];exact Nat.mod_lt _ q0);obtain ⟨j,c,a,n⟩:=h.2.2 _ _ _ _ f hd;have e : k / es * es + k % es = k:=by rw [Nat.mul_comm];exact Nat.div_add_mod k es
  rw [e] at a;simp [b] at a;subst a;exact qei n j
theorem ERel.mono {w' : World} {inj' : Inj} {nx' es : Nat} {xs : List (List V)} {A : Array Value} (h : ERel w Z inj nx es xs A) (a : ∀ v x,RelV w Z inj nx v x→RelV w' Z inj' nx' v x) : ERel w' Z inj' nx' es xs A:=
  ⟨h.1,h.2.1,fun i x j d b hd=>let ⟨h1,c,h2,h3⟩:=h.2.2 i x j d b hd;⟨h1,c,h2,a _ _ h3⟩⟩
theorem ERel.nil {es : Nat} : ERel w Z inj nx es [] #[]:=⟨qc,qc,qc⟩
theorem RowV.cells {arr : Array Value} {ty : TypeId} {b o es off len : Nat} {xs : List (List V)} (h : RowV w Z inj nx arr o es xs) (hb : w.heap[b]? = some (.cells arr ty (0,0))) :
    ∀ (i : Nat) (x : List V) (j : Nat) (d : V),((xs.drop off).take len)[i]? = some x→x[j]? = some d→Kh d = true∧∃ c,w.cell? ⟨b,o + off * es + (i * es + j),none⟩ = some c∧RelV w Z inj nx d c:=by
  intro i x j d a hd;rw [List.getElem?_take] at a;split at a
  · rw [List.getElem?_drop] at a;obtain ⟨g,c,f,k⟩:=h _ x j d a hd;refine ⟨g,c,?_,k⟩;simp only [World.cell?,hb];rw [← f];simp only [Option.isSome_none,Bool.false_eq_true,if_false];rw [Nat.add_mul];congr 1;omega
  · simp at a
theorem qfd {es off len : Nat} {xs : List (List V)} (b : ∀ (i : Nat) (x : List V),xs[i]? = some x→x.length = es) : ∀ (i : Nat) (x : List V),((xs.drop off).take len)[i]? = some x→x.length = es:=by
  intro i x a;rw [List.getElem?_take] at a;split at a
  · rw [List.getElem?_drop] at a;exact b _ _ a
  · simp at a
end
section
variable {w : World} {Z : Nat→Prop} {inj : Inj} {st : AS} {a : Act} {Ds : List Nat}
theorem qcy {x : V} {ys : List (List DV)} (h : Zb st x = some ys) : Z8 st x = some (ys.map (·.map .d)):=by
  unfold Zb at h;split at h
  · simp at h;subst h;rfl
  · simp at h;subst h;rfl
  · split at h <;> try simp at h
    rename_i hb;obtain ⟨a,rfl⟩:=h;simp [Z8,hb,a]
  · simp at h
theorem qa8 {x : V} {xv : Value} {es : Nat} {ys : List (List V)} (h : RelS w Z inj st a Ds) (g : RelV w Z inj st.nx x xv) (f : Z8 st x = some ys) (hf : Jx es x = true) (r : es≠0) :
    ∃ (m : Option Addr) (cap : Nat) (L : List Value),xv = .slice m ys.length cap∧L.length = ys.length * es∧ERel w Z inj st.nx es ys L.toArray∧Jr w m L ys:=by
  unfold Z8 at f;split at f
  · simp at f;subst f
    cases g with | d g=>
    cases g;exact ⟨none,0,[],rfl,qc,.nil,(rfl : Jr w none [] [])⟩
  · rename_i l xs;simp at f;subst f;have he:=Nat.eq_of_beq_eq_true hf;subst he
    cases g with | d g=>
    cases g with
    | slnil=>exact ⟨none,0,[],rfl,qc,.nil,(rfl : Jr w none [] [])⟩
    | slemp _ m=>exact ⟨some m,0,[],rfl,qc,.nil,fun k u q=>by simp at q⟩
    | @sl _ _ b o cap p h2 h3 h4 h5=>
      obtain ⟨L,l1,l2,l3⟩:=qew (w:=w) (Z:=Z) (inj:=inj) (nx:=st.nx) (b:=b) (o:=o) (xs:=xs.map (·.map V.d)) r
        (fun i x g=>by simp only [List.getElem?_map,Kv] at g;obtain ⟨y,hy,rfl⟩:=g;simpa using h3 i y hy)
        (fun i x j d g hd=>by
          simp only [List.getElem?_map,Kv] at g;obtain ⟨y,hy,rfl⟩:=g;simp only [List.getElem?_map,Kv] at hd;obtain ⟨d',t,rfl⟩:=hd;obtain ⟨g1,c,g2⟩:=h4 i y j d' hy t
          exact ⟨g1,c,g2,.d (h5 i y j d' c hy t g2)⟩)
      exact ⟨some ⟨b,o,none⟩,cap,L,qc,l1,l3,fun k u q=>by rw [Jt];exact l2 k u q⟩
  · rename_i n l off len;have he:=Nat.eq_of_beq_eq_true hf;subst he
    have key : ∀ (b0 : Blk) (xs : List (List V)),st.blk n = some b0→rowsOf b0 = some (l,xs)→off + len≤xs.length→ys = (xs.drop off).take len→
        ∃ (m : Option Addr) (cap : Nat) (L : List Value),xv = .slice m ys.length cap∧L.length = ys.length * l∧ERel w Z inj st.nx l ys L.toArray∧Jr w m L ys:=by
      rintro b0 xs hb hr an rfl
      have s : ((xs.drop off).take len).length = len:=by simp;omega
      obtain ⟨g1,g2,v⟩:=q5q (h.heap.blk n b0 hb).2 hr
      cases g with
      | hsnil=>
        have : (xs.drop off).take 0 = []:=by simp
        rw [this];exact ⟨none,0,[],rfl,qc,.nil,(rfl : Jr w none [] [])⟩
      | @hs _ _ _ _ cap m hn f _ hcap=>
        by_cases h0 : len = 0
        · subst h0;have : (xs.drop off).take 0 = []:=by simp
          rw [this];exact ⟨some m,cap,[],rfl,qc,.nil,fun k u q=>by simp at q⟩
        · obtain ⟨b,o,hi,rfl,ak⟩:=hcap q0;rcases v with ⟨v,z⟩ | ⟨b',o',arr,ty,v,z,g5⟩
          · rw [hi] at z;cases z
          · rw [hi] at v;cases v;obtain ⟨L,l1,l2,l3⟩:=qew (w:=w) (Z:=Z) (inj:=inj) (nx:=st.nx) (b:=b) (o:=o + off * l) (xs:=(xs.drop off).take len) r (qfd g2) (g5.cells z);exact ⟨some ⟨b,o + off * l,none⟩,cap,L,by rw [s],l1,l3,fun k u q=>by rw [Jt];exact l2 k u q⟩
    split at f
    · rename_i k xs hb;split at f <;> try simp at f
      rename_i p;obtain ⟨p,rfl⟩:=p;subst f;refine key _ (xs.map (·.map V.d)) hb rfl (by simpa using p) qc
    · rename_i k xs hb;split at f <;> try simp at f
      rename_i p;obtain ⟨p,rfl⟩:=p;subst f;exact key _ xs hb rfl p rfl
    · simp at f
  · simp at f
theorem q9m {es n : Nat} {tx g : TypeId} {c : Option Addr} {cap : Nat} {ys : List (List V)} {L : List Value} (d : es≠0) (f : P.underlying tx = some (.slice g)) (h : n = ys.length) (a : L.length = ys.length * es)
    (j : ERel w Z inj st.nx es ys L.toArray) (b : Jr w c L ys) : Src P es tx (.slice c ys.length cap) n L w:=by
  subst h;refine ⟨.inl ⟨g,f⟩,fun w'=>by simp [Builtin.lenOf],?_,?_,a,j.one d⟩
  · cases c with
    | none=>subst b;simp at a;subst a;simp [Builtin.firstCells]
    | some p=>
      have:=run_loadCells_list (P:=P) w p L b;rw [a] at this;simpa [Builtin.firstCells] using this
  · cases c with
    | none=>subst b;simp at a;subst a;simp [Builtin.firstCells]
    | some p=>
      have:=run_loadCells_list (P:=P) w.drew p L b;rw [a] at this;simpa [Builtin.firstCells] using this
theorem q9z {t tx ty e : TypeId} {i : TypeInfo} (d : P.underlying t = some (.slice e)) (hi : P.info? e = some i) {base : Option Addr} {sLen sCap : Nat} {x : Value} {n : Nat} {news : List Value} (hs : Src P i.size tx x n news w) (a : sLen + n≤sCap)
    {w' : World} (c : match base with | some p=>(storeCells (p.add (sLen * i.size)) news).run P w = .ok () w' | none=>w' = w) :
    (Builtin.append_ #[t,tx] ty #[.slice base sLen sCap,x]).run P w = .ok (.slice base (sLen + n) sCap) w':=by
  cases base with
  | none=>subst c;rcases hs.kind with ⟨f,b⟩ | b <;> simp [Builtin.append_,run_underlying d,run_underlying b,sizeOf,typeInfo,hi,hs.len,a,hs.cells]
  | some p=>rcases hs.kind with ⟨f,b⟩ | b <;> simp [Builtin.append_,run_underlying d,run_underlying b,sizeOf,typeInfo,hi,hs.len,a,hs.cells,c]
end
end Go.Am
namespace Go.Am
open Go
variable {P : Program} {T : Tab}
section
variable {w : World} {Z : Nat→Prop} {inj : Inj}
theorem RelH.newPh {hp : List (Nat × Blk)} {nx : Nat} (d : RelH w Z inj hp nx) (blk : Blk) (hb : RelB w Z (upd inj nx none) (nx + 1) nx blk) : RelH w Z (upd inj nx none) ((nx,blk)::hp) (nx + 1):=by
  refine ⟨?_,?_,?_,d.zs,d.zc⟩
  · intro n b h;rw [Ks] at h;by_cases a : nx = n
    · grind
    · simp only [a,if_false] at h;obtain ⟨k,g⟩:=d.blk n b h;exact ⟨q0,g.mono (fun _ _=>rfl) (fun _ h=>h) (Sem.keepBig_of_same rfl) (fun m f=>Y9 _ _ f) q0 k (fun _ _ _=>rfl)⟩
  · intro n m b c p q a f r o hp j l;rw [Ks] at a f;by_cases k : nx = n
    · subst k;rw [Ku] at hp;cases hp
    · by_cases g : nx = m
      · subst g;rw [Ku] at j;cases j
      · simp only [k,g,if_false] at a f;rw [Y9 _ _ (d.blk n b a).1] at hp;rw [Y9 _ _ (d.blk m c f).1] at j;exact d.sep n m b c p q a f r o hp j l
  · intro n b p h s hp;rw [Ks] at h;by_cases a : nx = n
    · subst a;rw [Ku] at hp;cases hp
    · simp only [a,if_false] at h;rw [Y9 _ _ (d.blk n b h).1] at hp;exact d.out n b p h s hp
theorem Ext.newPh {hp : List (Nat × Blk)} {nx : Nat} (m : RelH w Z inj hp nx) (blk : Blk) : Ext w Z inj hp w Z (upd inj nx none) ((nx,blk)::hp) nx:=by
  refine ⟨Nat.le_refl _,fun _ _ _=>rfl,?_,fun _ c e f h=>⟨c,e,f,h,rfl⟩,fun _ r h=>⟨r,h,rfl⟩,fun _ h=>h,fun _ h=>.inl h,fun n g=>Y9 _ _ g,rfl,rfl,rfl,fun _=>rfl⟩;rintro b ⟨n,a,d,j,l,k⟩;rw [Ks] at j;by_cases g : nx = n
  · subst g;rw [Ku] at k;cases k
  · simp only [g,if_false] at j;rw [Y9 _ _ (m.blk n a j).1] at k;exact .inl ⟨n,a,d,j,l,k⟩
theorem RelH.move {hp : List (Nat × Blk)} {nx n : Nat} (f : RelH w Z inj hp nx) {x blk : Blk} (z : find hp n = some x) (r : live x = true) {g off y : Nat} (hi : inj n = some (g,off)) {old cs : Array Value} {t : TypeId} {fr : Nat × Nat}
    (hg : w.heap[g]? = some (.cells old t fr)) (hs : cs.size = old.size) (hb : RelB (w.setRow g cs) Z (upd inj nx (some (g,y))) (nx + 1) nx blk) :
    RelH (w.setRow g cs) Z (upd inj nx (some (g,y))) ((nx,blk)::repl hp n .dead) (nx + 1):=by
  have af : ∀ b,Z b→b≠g:=fun b j e=>f.out n x _ z r hi (by rw [← e];exact j)
  have key : ∀ m b,find (repl hp n .dead) m = some b→live b = true→find hp m = some b∧n≠m:=by
    intro m b h hl;rw [Yy] at h;by_cases d : n = m
    · subst d;simp [z] at h;subst h;simp [live] at hl
    grind
  have l : ∀ m b,find (repl hp n .dead) m = some b→m < nx:=by
    intro m b h;rw [Yy] at h;by_cases d : n = m
    · subst d;exact (f.blk n x z).1
    · simp only [d,if_false] at h;exact (f.blk m b h).1
  refine ⟨?_,?_,?_,fun b j=>by simpa using f.zs b j,fun b j=>by rw [setRow_other w g b cs (af b j)];exact f.zc b j⟩
  · intro m b h;rw [Ks] at h;by_cases d : nx = m
    · grind
    · simp only [d,if_false] at h;refine ⟨by have:=l m b h;omega,?_⟩;by_cases hl : live b = true
      · obtain ⟨s,u⟩:=key m b h hl;obtain ⟨h3,h4⟩:=f.blk m b s;refine h4.mono (fun b j=>setRow_other w g b cs (af b j)) (fun _ h=>h) (q2t w g old cs t fr hg hs) (fun _ hk=>Y9 _ _ hk) q0 h3 ?_;intro p hp' ak;exact setRow_other w g p.1 cs (fun e=>f.sep n m x b _ _ z s r hl hi hp' u e.symm)
      · have : b = .dead:=by cases b <;> simp_all [live]
        subst this;trivial
  · intro m k b c p q s u ab v o a ad;rw [Ks] at s u;by_cases d : nx = m
    · subst d;rw [Ku] at o;cases o;simp only [ad,if_false] at u;obtain ⟨h3,h4⟩:=key k c u v;rw [Y9 _ _ (l k c u)] at a;exact fun e=>f.sep n k x c (g,off) q z h3 r v hi a h4 e
    · simp only [d,if_false] at s;obtain ⟨h3,h4⟩:=key m b s ab;rw [Y9 _ _ (l m b s)] at o;by_cases hk : nx = k
      · subst hk;rw [Ku] at a;cases a;exact fun e=>f.sep n m x b (g,off) p z h3 r ab hi o h4 e.symm
      · simp only [hk,if_false] at u;obtain ⟨h5,h6⟩:=key k c u v;rw [Y9 _ _ (l k c u)] at a;exact f.sep m k b c p q h3 h5 ab v o a ad
  · intro m b p h hl hp' j;rw [Ks] at h;by_cases d : nx = m
    · subst d;rw [Ku] at hp';cases hp';exact f.out n x _ z r hi j
    · simp only [d,if_false] at h;obtain ⟨s,_⟩:=key m b h hl;rw [Y9 _ _ (l m b h)] at hp';exact f.out m b p s hl hp' j
theorem Ext.move {hp : List (Nat × Blk)} {nx n : Nat} (v : RelH w Z inj hp nx) {o blk : Blk} (p : find hp n = some o) (f : live o = true) {g off d : Nat} (hi : inj n = some (g,off)) {old cs : Array Value} {t : TypeId} {j : Nat × Nat}
    (q : w.heap[g]? = some (.cells old t j)) (hs : cs.size = old.size) : Ext w Z inj hp (w.setRow g cs) Z (upd inj nx (some (g,d))) ((nx,blk)::repl hp n .dead) nx:=by
  refine ⟨qc,?_,?_,q2t w g old cs t j q hs,qiq w g old cs t j q,fun _ h=>h,fun _ h=>.inl h,fun m k=>Y9 _ _ k,rfl,rfl,rfl,qi6 w g old cs t j q⟩
  · intro b _ hb;exact setRow_other w g b cs (fun e=>hb (by rw [e];exact ⟨n,o,off,p,f,hi⟩))
  · rintro b ⟨m,a,u,c,r,l⟩;rw [Ks] at c;by_cases k : nx = m
    · subst k;rw [Ku] at l;cases l;exact .inl ⟨n,o,off,p,f,hi⟩
    · simp only [k,if_false] at c;rw [Yy] at c;by_cases s : n = m
      · subst s;simp [p] at c;subst c;simp [live] at r
      · simp only [s,if_false] at c;rw [Y9 _ _ (v.blk m a c).1] at l;exact .inl ⟨m,a,u,c,r,l⟩
end
section
variable {w : World} {Z : Nat→Prop} {inj : Inj} {st : AS} {a : Act} {Ds : List Nat}
theorem qqd {a cap b : Nat} (d : cap < a) (c : a * (b * 4)≤room) : Builtin.nextslicecap a cap * b≤281474976710656:=by
  have f:=Nat.mul_le_mul_right b (Room.nextslicecap_le' d);have g : 2 * a * b≤a * (b * 4):=by rw [Nat.mul_comm b 4,← Nat.mul_assoc];exact Nat.mul_le_mul_right b q0
  unfold room at c;omega
theorem qrq {a b : Nat} (hb : b≠0) (c : a * (b * 4)≤room) : a≤4294967296:=by
  have : a * 1≤a * (b * 4):=Nat.mul_le_mul_left _ q0;unfold room at c;omega
theorem qcc {t u ty : TypeId} {i : TI} {e e' : TypeId} {n : TypeInfo} {q : Value} (_h : RelS w Z inj st a Ds) (hu : P.underlying t = some (.slice e)) (aa : P.underlying u = some (.slice e')) (g1 : P.info? e = some n) (g3 : n.zero = some q)
    (g6 : n.size = i.esize) (g7 : i.esize≠0) (g8 : n.bytes = i.ebytes) (g9 : i.ebytes≠0) (gz : q.cells.size = i.esize) {hp1 : List (Nat × Blk)} (hh : RelH w Z inj hp1 st.nx) (p : Ext w Z inj st.hp w Z inj hp1 st.nx)
    {base ad : Option Addr} {cap cap' : Nat} {olds ys : List (List V)} {L0 l : List Value} (r : L0.length = olds.length * i.esize) (y : ERel w Z inj st.nx i.esize olds L0.toArray) (ac : Jr w base L0 olds)
    (s : l.length = ys.length * i.esize) (o : ERel w Z inj st.nx i.esize ys l.toArray) (af : Jr w ad l ys) (hg : cap < olds.length + ys.length) (d : (olds.length + ys.length) * (i.ebytes * 4)≤room)
    {b1 : Blk} (ab : rowsOf b1 = some (i.esize,olds ++ ys)) :
    ∃ x w' inj',(Builtin.append_ #[t,u] ty #[.slice base olds.length cap,.slice ad ys.length cap']).run P w = .ok x w'∧RelV w' Z inj' (st.nx + 1) (.hs st.nx i.esize 0 (olds.length + ys.length)) x∧RelH w' Z inj' ((st.nx,b1)::hp1) (st.nx + 1)∧
      Ext w Z inj st.hp w' Z inj' ((st.nx,b1)::hp1) st.nx:=by
  have g:=q9m (P:=P) (tx:=t) (cap:=cap) g7 hu rfl r y ac;have k:=q9m (P:=P) (tx:=u) (cap:=cap') g7 aa rfl s o af;rw [← g6] at g k;have av:=qrq g9 d;have j:=qqd hg d;rw [← g8] at j;have f:=run_append_grow_src (P:=P) w t u ty e n q hu g1 g3 base olds.length cap L0 g.cellsD (.slice ad ys.length cap') ys.length l k hg q0 j;have z:=grownCap_ge w (olds.length + ys.length) cap e;generalize grownCap w (olds.length + ys.length) cap e = C at f z;generalize hA : (L0 ++ l).toArray ++ Builtin.zeroCells q.cells (C - (olds.length + ys.length)) = A at f;have c : RelH w.drew Z inj hp1 st.nx:=hh.same rfl;have m : ERel w Z inj st.nx i.esize (olds ++ ys) (L0.toArray ++ l.toArray):=y.append o
  have mono : ∀ v x,RelV w Z inj st.nx v x→RelV (w.drew.alloc (.cells A e)) Z (upd inj st.nx (some (w.heap.size,0))) (st.nx + 1) v x:=fun v x hv=>
    hv.mono (fun b hz=>Zx w.drew _ (hh.zs b hz)) (fun _ h=>h) (q2s w.drew _) (fun _ hm=>Y9 _ _ hm) q0
  refine ⟨_,_,upd inj st.nx (some (w.heap.size,0)),f,?_,?_,?_⟩
  · refine .hs q0 z rfl fun _=>⟨w.heap.size,0,Ku _ _ _,qc,A,e,(0,0),Ju w.drew _,?_⟩
    have h1 : A.size = L0.length + l.length + (C - (olds.length + ys.length)) * i.esize:=by
      rw [← hA];simp [Builtin.zeroCells,gz]
    rw [h1,r,s,← Nat.add_mul,← Nat.add_mul];grind
  · refine c.new (.cells A e) b1 0 ?_;refine q5p ab g7 m.2.1 (.inr ⟨w.heap.size,0,A,e,Ku _ _ _,Ju w.drew _,?_⟩);have h9:=(m.row (B:=Builtin.zeroCells q.cells (C - (olds.length + ys.length)))).mono mono;simp_all
  · refine p.trans ?_ (Nat.le_refl _);have e1 : Ext w Z inj hp1 w.drew Z inj hp1 st.nx:=Ext.same rfl rfl rfl rfl;exact e1.trans (Ext.new c (.cells A e) b1 0) (Nat.le_refl _)
theorem qnd {t u ty : TypeId} {i : TI} {e e' : TypeId} {ie : TypeInfo} (h : RelS w Z inj st a Ds) (hu : P.underlying t = some (.slice e)) (ao : P.underlying u = some (.slice e')) (g1 : P.info? e = some ie)
    (g6 : ie.size = i.esize) (g7 : i.esize≠0) {n off len cap cap' b o : Nat} {b0 b1 : Blk} {xs ys : List (List V)} (s : st.blk n = some b0) (bd : rowsOf b0 = some (i.esize,xs)) (bm : off + len≤xs.length)
    (hi : inj n = some (b,o)) (af : Big w b (o + (off + cap) * i.esize)) (_hlc : len≤cap)
    {ad : Option Addr} {g : List Value} (ag : g.length = ys.length * i.esize) (q : ERel w Z inj st.nx i.esize ys g.toArray) (bc : Jr w ad g ys) (hg : len + ys.length≤cap)
    (an : rowsOf b1 = some (i.esize,(xs.drop off).take len ++ ys)) :
    ∃ x w' inj',(Builtin.append_ #[t,u] ty #[.slice (some ⟨b,o + off * i.esize,none⟩) len cap,.slice ad ys.length cap']).run P w = .ok x w'∧RelV w' Z inj' (st.nx + 1) (.hs st.nx i.esize 0 (len + ys.length)) x∧
      RelH w' Z inj' ((st.nx,b1)::repl st.hp n .dead) (st.nx + 1)∧Ext w Z inj st.hp w' Z inj' ((st.nx,b1)::repl st.hp n .dead) st.nx:=by
  have aj:=q9m (P:=P) (tx:=u) (cap:=cap') g7 ao rfl ag q bc;obtain ⟨q1,q2,q3⟩:=q5q (h.heap.blk n b0 s).2 bd;rcases q3 with ⟨_,q4⟩ | ⟨b',o',arr,ab,q3,q4,q5⟩
  · grind
  rw [hi] at q3;cases q3;have k : live b0 = true:=by cases b0 <;> simp_all [rowsOf,live]
  have aq : o + (off + cap) * i.esize≤arr.size:=by
    obtain ⟨c,e2,f,k1,k2⟩:=af;grind
  have bb : g.length = ys.length * i.esize:=ag;have ai : (len + ys.length) * i.esize≤cap * i.esize:=Nat.mul_le_mul_right _ hg;rw [Nat.add_mul] at ai aq;have l : o + off * i.esize + len * i.esize + g.length≤arr.size:=by omega
  have aa:=run_storeCells_at P b (o + off * i.esize + len * i.esize) ab g 0 arr w q4 (by simpa using l) (q.one g7);simp only [Nat.add_zero] at aa;have ay : (arr.toList.take (o + off * i.esize + len * i.esize) ++ g ++ arr.toList.drop (o + off * i.esize + len * i.esize + g.length)).toArray = (splice arr.toList (o + off * i.esize + len * i.esize) g).toArray:=rfl;rw [ay] at aa
  have ak:=q9z (P:=P) (w:=w) (ty:=ty) hu g1 (base:=some ⟨b,o + off * i.esize,none⟩) (sLen:=len) (sCap:=cap) (x:=.slice ad ys.length cap') (n:=ys.length) (news:=g) (by rw [g6];exact aj) hg
    (w':=w.setRow b (splice arr.toList (o + off * i.esize + len * i.esize) g).toArray) (by show (storeCells ((⟨b,o + off * i.esize,none⟩ : Addr).add (len * ie.size)) g).run P w = _;rw [Jt,g6];exact aa)
  have p : o + off * i.esize + len * i.esize + g.length≤arr.toList.length:=by simpa using l
  have r : (splice arr.toList (o + off * i.esize + len * i.esize) g).toArray.size = arr.size:=by simp [q22 _ _ _ p]
  have hz : ∀ b1,Z b1→(w.setRow b (splice arr.toList (o + off * i.esize + len * i.esize) g).toArray).heap[b1]? = w.heap[b1]?:=fun b1 au=>
    setRow_other w b b1 _ (fun e=>h.heap.out n b0 _ s k hi (by rw [← e];exact au))
  have ax:=q2t w b arr _ ab (0,0) q4 r
  have mono : ∀ v x,RelV w Z inj st.nx v x→RelV (w.setRow b (splice arr.toList (o + off * i.esize + len * i.esize) g).toArray) Z (upd inj st.nx (some (b,o + off * i.esize))) (st.nx + 1) v x:=fun v x hv=>
    hv.mono hz (fun _ h=>h) ax (fun _ hm=>Y9 _ _ hm) q0
  have y : ((xs.drop off).take len).length = len:=by simp;omega
  refine ⟨_,_,upd inj st.nx (some (b,o + off * i.esize)),ak,?_,?_,Ext.move h.heap s k hi q4 r⟩
  · refine .hs q0 hg rfl fun _=>⟨b,o + off * i.esize,Ku _ _ _,qc,_,_,_,setRow_heap w b _ _ _ _ q4,?_⟩
    grind
  · refine h.heap.move s k hi q4 r (q5p an g7 ?_ (.inr ⟨b,o + off * i.esize,_,ab,Ku _ _ _,setRow_heap w b _ _ _ _ q4,?_⟩))
    · intro j x m;rw [List.getElem?_append] at m;split at m
      · grind
      · exact q.2.1 _ _ m
    · intro j x j' d m hd;rw [List.getElem?_toArray,U4 _ _ _ _ p];rw [List.getElem?_append] at m;split at m
      · rename_i hj;rw [y] at hj;have av:=qfd q2 j x m;have z : j' < i.esize:=by have:=Kc hd;omega
        have hc:=q3f hj z;rw [qn q0];rw [List.getElem?_take] at m;rw [ql hj,List.getElem?_drop] at m;obtain ⟨k1,c,k2,k3⟩:=q5 _ x j' d m hd;grind
      · rename_i hj;rw [y] at hj m;obtain ⟨k1,c,k2,k3⟩:=q.2.2 _ x j' d m hd;have az:=Kc m;have av:=q.2.1 _ x m;have z : j' < i.esize:=by have:=Kc hd;omega
        have hc:=q3f az z;have he : j * i.esize = len * i.esize + (j - len) * i.esize:=by rw [← Nat.add_mul];congr 1;omega
        grind
theorem qsf {t u ty : TypeId} {i j : TI} {sv xv v : V} {vs vx : Value} {st1 : AS} (h : RelS w Z inj st a Ds) (ht : tiOf P t = some i) (hu : tiOf P u = some j) (bt : i.kind = .slice) (bq : j.kind = .slice) (hf : Jx i.esize xv = true)
    (al : RelV w Z inj st.nx sv vs) (aw : RelV w Z inj st.nx xv vx) (f : Yx st i sv xv = some (v,st1)) :
    ∃ x w' inj',(Builtin.append_ #[t,u] ty #[vs,vx]).run P w = .ok x w'∧RelV w' Z inj' st1.nx v x∧RelH w' Z inj' st1.hp st1.nx∧Ext w Z inj st.hp w' Z inj' st1.hp st.nx∧st1.sl = st.sl∧st.nx≤st1.nx:=by
  obtain ⟨bw,d,z,k⟩:=Yj ht;obtain ⟨bo,d',z',k'⟩:=Yj hu;have hk:=k.kind;have av:=k'.kind;unfold Za at hk av;simp only [bt,bq] at hk av;obtain ⟨e,ie,de,ze,rfl,g1,g2,g3,g4,g5,g6,g7,g8,g9,_⟩:=hk;obtain ⟨e',_,_,_,rfl,_⟩:=av;have gz : ze.cells.size = i.esize:=by have:=(q7w g4).1;simp at this;omega
  have q : ∀ ys b1,Z8 st xv = some ys→vs = .slice none 0 0→rowsOf b1 = some (i.esize,ys)→ys.length * (i.ebytes * 4)≤room→ys.length≠0→
      ∃ x w' inj',(Builtin.append_ #[t,u] ty #[vs,vx]).run P w = .ok x w'∧RelV w' Z inj' (st.nx + 1) (.hs st.nx i.esize 0 ys.length) x∧RelH w' Z inj' ((st.nx,b1)::st.hp) (st.nx + 1)∧Ext w Z inj st.hp w' Z inj' ((st.nx,b1)::st.hp) st.nx:=by
    rintro ys b1 hc rfl hr c cg
    obtain ⟨ad,cap',L1,rfl,m,r,s⟩:=qa8 h aw hc hf g7
    have:=qcc (P:=P) (ty:=ty) h k.und k'.und g1 g3 g6 g7 g8 g9 gz h.heap Ext.refl (base:=none) (cap:=0) (olds:=[]) (L0:=[]) qc .nil (rfl : Jr w none [] []) (cap':=cap') m r s (by simp;omega) (by simpa using c) (b1:=b1) (by simpa using hr)
    simpa using this
  have ab : ∀ ys,Z8 st xv = some ys→vs = .slice none 0 0→ys.length = 0→(Builtin.append_ #[t,u] ty #[vs,vx]).run P w = .ok (.slice none 0 0) w:=by
    rintro ys hc rfl h0;obtain ⟨ad,cap',L1,rfl,m,r,s⟩:=qa8 h aw hc hf g7;have ae:=q9m (P:=P) (tx:=u) (cap:=cap') g7 k'.und rfl m r s;have:=q9z (P:=P) (w:=w) (ty:=ty) k.und g1 (base:=none) (sLen:=0) (sCap:=0) (by rw [g6];exact ae) q0 (w':=w) rfl;grind
  have p : ∀ n off len xs ys b0 b1,sv = .hs n i.esize off len→st.blk n = some b0→rowsOf b0 = some (i.esize,xs)→off + len≤xs.length→Z8 st xv = some ys→rowsOf b1 = some (i.esize,(xs.drop off).take len ++ ys)→
      (len + ys.length) * (i.ebytes * 4)≤room→
      ∃ x w' inj',(Builtin.append_ #[t,u] ty #[vs,vx]).run P w = .ok x w'∧RelV w' Z inj' (st.nx + 1) (.hs st.nx i.esize 0 (len + ys.length)) x∧RelH w' Z inj' ((st.nx,b1)::repl st.hp n .dead) (st.nx + 1)∧
        Ext w Z inj st.hp w' Z inj' ((st.nx,b1)::repl st.hp n .dead) st.nx:=by
    rintro n off len xs ys b0 b1 rfl ba bb br hc ac c
    obtain ⟨ad,cap',L1,rfl,m,r,s⟩:=qa8 h aw hc hf g7
    have ae:=q9m (P:=P) (tx:=u) (cap:=cap') g7 k'.und rfl m r s
    have ai : ((xs.drop off).take len).length = len:=by simp;omega
    obtain ⟨q1,q2,q3⟩:=q5q (h.heap.blk n b0 ba).2 bb
    have l : RelH w Z inj (repl st.hp n .dead) st.nx:=h.heap.drop
    have y : Ext w Z inj st.hp w Z inj (repl st.hp n .dead) st.nx:=Ext.drop
    have ph : len = 0→ys.length = 0→RelH w Z (upd inj st.nx none) ((st.nx,b1)::repl st.hp n .dead) (st.nx + 1)∧Ext w Z inj st.hp w Z (upd inj st.nx none) ((st.nx,b1)::repl st.hp n .dead) st.nx:=by
      intro h1 h2;have an : (xs.drop off).take len ++ ys = []:=by subst h1;simp [List.eq_nil_of_length_eq_zero h2]
      refine ⟨l.newPh b1 (q5p ac g7 (by rw [an];simp) (.inl ⟨an,Ku _ _ _⟩)),y.trans (Ext.newPh l b1) (Nat.le_refl _)⟩
    cases al with
    | hsnil hm=>
      by_cases h0 : ys.length = 0
      · obtain ⟨p1,p2⟩:=ph rfl h0;have:=q9z (P:=P) (w:=w) (ty:=ty) k.und g1 (base:=none) (sLen:=0) (sCap:=0) (by rw [g6];exact ae) q0 (w':=w) rfl;refine ⟨_,w,_,this,?_,p1,p2⟩;simp only [Nat.zero_add,h0];exact .hsnil q0
      · have:=qcc (P:=P) (ty:=ty) h k.und k'.und g1 g3 g6 g7 g8 g9 gz l y (base:=none) (cap:=0) (olds:=[]) (L0:=[]) qc .nil (rfl : Jr w none [] []) (cap':=cap') m r s (by simp;omega) (by simpa using c) (b1:=b1) (by simpa using ac);simpa using this
    | @hs _ _ _ _ cap adr hm hcl hsp hcap=>
      by_cases hg : len + ys.length≤cap
      · by_cases bc : cap = 0
        · obtain ⟨p1,p2⟩:=ph q0 q0;have hL : L1 = []:=List.eq_nil_of_length_eq_zero (by rw [m,show ys.length = 0 by omega];simp);have:=q9z (P:=P) (w:=w) (ty:=ty) k.und g1 (base:=some adr) (sLen:=len) (sCap:=cap) (by rw [g6];exact ae) hg (w':=w) (by subst hL;show (storeCells _ []).run P w = _;simp [storeCells]);exact ⟨_,w,_,this,.hs q0 hg hsp (fun h=>absurd bc h),p1,p2⟩
        · obtain ⟨b,o,hi,rfl,ao⟩:=hcap bc;exact qnd (P:=P) (ty:=ty) h k.und k'.und g1 g6 g7 ba bb br hi ao hcl (cap':=cap') m r s hg ac
      · have hold : ∃ L0 : List Value,L0.length = ((xs.drop off).take len).length * i.esize∧ERel w Z inj st.nx i.esize ((xs.drop off).take len) L0.toArray∧Jr w (some adr) L0 ((xs.drop off).take len):=by
          by_cases h0 : len = 0
          · subst h0;exact ⟨[],qc,by simpa using ERel.nil,fun k u hu=>by simp at hu⟩
          · obtain ⟨b,o,hi,rfl,ao⟩:=hcap q0;rcases q3 with ⟨_,q4⟩ | ⟨b',o',arr,cc,q3,q4,q5⟩
            · rw [hi] at q4;cases q4
            · rw [hi] at q3;cases q3;obtain ⟨L,l1,l2,l3⟩:=qew (w:=w) (Z:=Z) (inj:=inj) (nx:=st.nx) (b:=b) (o:=o + off * i.esize) (xs:=(xs.drop off).take len) g7 (qfd q2) (q5.cells q4);exact ⟨L,l1,l3,fun k u hu=>by rw [Jt];exact l2 k u hu⟩
        obtain ⟨L0,a1,a2,a3⟩:=hold;have:=qcc (P:=P) (ty:=ty) h k.und k'.und g1 g3 g6 g7 g8 g9 gz l y (base:=some adr) (cap:=cap) a1 a2 a3 (cap':=cap') m r s (by rw [ai];omega) (by rw [ai];exact c) (b1:=b1) ac;rw [ai] at this;exact this
  cases sv <;> simp only [Yx,reduceCtorEq] at f
  case d x=>
    cases x <;> simp only [reduceCtorEq] at f
    cases al with | d al=>
    cases al
    cases af : Zb st xv with
    | some ys=>
      simp only [af] at f;split at f <;> try simp at f
      rename_i c;have g:=qcy af;by_cases h0 : ys = []
      · rw [ql h0] at f;simp at f;obtain ⟨rfl,rfl⟩:=f;exact ⟨_,w,inj,ab _ g rfl (by simpa using h0),.d .nilsl,h.heap,.refl,rfl,Nat.le_refl _⟩
      · rw [qn h0] at f;simp at f;obtain ⟨rfl,rfl⟩:=f;have:=q _ (.dat i.esize ys) g rfl rfl (by simpa using c) (by simpa using h0);obtain ⟨x,w',inj',h1,h2,h3,h4⟩:=this;exact ⟨x,w',inj',h1,by simpa [AS.new] using h2,h3,h4,rfl,by simp [AS.new]⟩
    | none=>
      simp only [af] at f
      cases g : Z8 st xv with
      | none=>simp [g] at f
      | some ys=>
        simp only [g] at f;split at f <;> try simp at f
        rename_i c;by_cases h0 : ys = []
        · rw [ql h0] at f;simp at f;obtain ⟨rfl,rfl⟩:=f;exact ⟨_,w,inj,ab _ g rfl (by simpa using h0),.d .nilsl,h.heap,.refl,rfl,Nat.le_refl _⟩
        · rw [qn h0] at f;simp at f;obtain ⟨rfl,rfl⟩:=f;obtain ⟨x,w',inj',h1,h2,h3,h4⟩:=q _ (.cel i.esize ys) g rfl rfl c (by simpa using h0);exact ⟨x,w',inj',h1,by simpa [AS.new] using h2,h3,h4,rfl,by simp [AS.new]⟩
  case hs n es off len=>
    split at f
    · rename_i k0 xs ys hb af;split at f <;> simp at f
      rename_i ar;obtain ⟨c1,rfl,c3,rfl⟩:=ar;obtain ⟨rfl,rfl⟩:=f;have:=p n off len (xs.map (·.map .d)) (ys.map (·.map .d)) _ (.dat i.esize ((xs.drop off).take len ++ ys)) rfl hb rfl (by simpa using c1) (qcy af) (by simp [rowsOf,List.map_take,List.map_drop]) (by simpa using c3);obtain ⟨x,w',inj',h1,h2,h3,h4⟩:=this;exact ⟨x,w',inj',h1,by simpa [AS.new,AS.setBlk] using h2,h3,h4,rfl,by simp [AS.new,AS.setBlk]⟩
    · rename_i k0 xs hb af;split at f <;> try simp at f
      rename_i ys g;obtain ⟨⟨c1,rfl,c3,rfl⟩,rfl,rfl⟩:=f;have:=p n off len (xs.map (·.map .d)) ys _ (.cel i.esize ((((xs.map (·.map V.d)).drop off).take len) ++ ys)) rfl hb rfl (by simpa using c1) g rfl c3;obtain ⟨x,w',inj',h1,h2,h3,h4⟩:=this;exact ⟨x,w',inj',h1,by simpa [AS.new,AS.setBlk] using h2,h3,h4,rfl,by simp [AS.new,AS.setBlk]⟩
    · rename_i k0 xs hb;split at f <;> try simp at f
      rename_i ys g;obtain ⟨⟨c1,rfl,c3,rfl⟩,rfl,rfl⟩:=f;have:=p n off len xs ys _ (.cel i.esize ((xs.drop off).take len ++ ys)) rfl hb rfl c1 g rfl c3;obtain ⟨x,w',inj',h1,h2,h3,h4⟩:=this;exact ⟨x,w',inj',h1,by simpa [AS.new,AS.setBlk] using h2,h3,h4,rfl,by simp [AS.new,AS.setBlk]⟩
    · simp at f
end
end Go.Am
namespace Go.Am
open Go
variable {P : Program} {T : Tab}
section
variable {w : World} {Z : Nat→Prop} {inj : Inj} {nx : Nat}
theorem RowV.spliceRows {arr : Array Value} {o es off : Nat} {xs ys : List (List V)} {L : List Value} (h : RowV w Z inj nx arr o es xs) (q : ∀ (i : Nat) (x : List V),xs[i]? = some x→x.length = es) (g : ERel w Z inj nx es ys L.toArray)
    (f : off + ys.length≤xs.length) (b : o + off * es + L.length≤arr.size) : RowV w Z inj nx (splice arr.toList (o + off * es) L).toArray o es (splice xs off ys):=by
  have s : L.length = ys.length * es:=by simpa using g.1
  intro i x j d a hd;rw [U4 _ _ _ _ f] at a;rw [List.getElem?_toArray,U4 _ _ _ _ (by simpa using b)];by_cases hi : off≤i∧i < off + ys.length
  · rw [ql hi] at a;obtain ⟨l,c,n,m⟩:=g.2.2 _ x j d a hd;have k : j < es:=by have:=Kc hd;have:=g.2.1 _ x a;omega
    have p:=q3f (Kc a) k;have t : i * es = off * es + (i - off) * es:=by rw [← Nat.add_mul];congr 1;omega
    grind
  · rw [qn hi] at a;obtain ⟨l,c,n,m⟩:=h i x j d a hd;have k : j < es:=by have:=Kc hd;have:=q _ x a;omega
    refine ⟨l,c,?_,m⟩;rw [qn ?_]
    · grind
    · intro p;by_cases r : i < off
      · have:=q3f r k;omega
      · have u : (off + ys.length) * es≤i * es:=Nat.mul_le_mul_right _ q0;grind
theorem ERel.take {es m : Nat} {xs : List (List V)} {L : List Value} (h : ERel w Z inj nx es xs L.toArray) (b : m≤xs.length) : ERel w Z inj nx es (xs.take m) (L.take (m * es)).toArray:=by
  obtain ⟨g,f,k⟩:=h;simp only [List.size_toArray] at g;have:=Nat.mul_le_mul_right es b;refine ⟨by simp;rw [Nat.min_eq_left b];omega,?_,?_⟩
  · grind
  · intro i x j d a hd;rw [List.getElem?_take] at a;split at a
    · rename_i hi;obtain ⟨p,c,o,l⟩:=k i x j d a hd;have n:=q3f hi (show j < es by have:=Kc hd;have:=f _ x a;omega);grind
    grind
end
section
variable {w : World} {Z : Nat→Prop} {inj : Inj} {st : AS} {a : Act} {Ds : List Nat}
theorem qsn {t u ty : TypeId} {i j : TI} {sv xv v : V} {vs vx : Value} {st1 : AS} (h : RelS w Z inj st a Ds) (ht : tiOf P t = some i) (_hu : tiOf P u = some j) (br : i.kind = .slice) (_hjk : j.kind = .slice) (bh : Jx i.esize sv = true) (hf : Jx i.esize xv = true)
    (ax : RelV w Z inj st.nx sv vs) (bt : RelV w Z inj st.nx xv vx) (ha : copyV st sv xv = some (v,st1)) :
    ∃ x w' inj',(Builtin.copy_ #[t,u] ty #[vs,vx]).run P w = .ok x w'∧RelV w' Z inj' st1.nx v x∧RelH w' Z inj' st1.hp st1.nx∧Ext w Z inj st.hp w' Z inj' st1.hp st.nx∧st1.sl = st.sl∧st.nx≤st1.nx:=by
  obtain ⟨cc,d,z,k⟩:=Yj ht;have hk:=k.kind;unfold Za at hk;simp only [br] at hk;obtain ⟨e,ie,de,ze,rfl,g1,g2,g3,g4,g5,g6,g7,g8,g9,_⟩:=hk;cases sv <;> simp only [copyV,reduceCtorEq] at ha
  rename_i n es off len;have bn:=Nat.eq_of_beq_eq_true bh;subst bn;split at ha <;> try simp at ha
  rename_i k0 xs ys hb bm;obtain ⟨⟨cg,rfl⟩,rfl,rfl⟩:=ha;obtain ⟨ad,cap',L1,rfl,an,bo,ay⟩:=qa8 h bt (qcy bm) hf g7;rw [List.length_map] at an ⊢
  let m:=min ys.length len
  have hm : m = min ys.length len:=rfl;rw [← hm];obtain ⟨q1,q2,q3⟩:=q5q (h.heap.blk n _ hb).2 rfl;have bv : (xs.map (·.map V.d)).length = xs.length:=by simp
  have cd : m * i.esize≤ys.length * i.esize:=Nat.mul_le_mul_right _ q0
  have ag : (Builtin.firstCells i.esize m (.slice ad ys.length cap')).run P w = .ok (L1.take (m * i.esize)).toArray w:=by
    cases ad with
    | none=>
      have au : ys.map (·.map V.d) = []:=ay;have : ys = []:=by simpa using au
      subst this;simp at an;subst an;simp [Builtin.firstCells]
    | some p=>
      have:=run_loadCells_list (P:=P) w p (L1.take (m * i.esize)) (fun k u hu=>by
        rw [List.getElem?_take] at hu;split at hu
        · exact ay k u hu
        · simp at hu)
      rw [List.length_take,Nat.min_eq_left q0] at this;simpa [Builtin.firstCells] using this
  have l : ∀ base y ai,y = len→vs = .slice base y ai→∀ w',(match base with | some p=>(storeCells p (L1.take (m * i.esize))).run P w = .ok () w' | none=>w' = w)→
      (Builtin.copy_ #[t,u] ty #[vs,.slice ad ys.length cap']).run P w = .ok (.int .i64 m) w':=by
    rintro base y ai rfl rfl w' aa
    have am:=ag
    rw [← g6] at am
    have ah : Nat.min ys.length y = m:=rfl
    cases base with
    | none=>
      subst aa;simp [Builtin.copy_,run_underlying k.und,Builtin.lenOf,Z9 g1,goInt,ah,am]
    | some p=>
      have ak : (storeCells p (L1.take (m * i.esize))).run P w = .ok () w':=aa;rw [← g6] at ak;simp [Builtin.copy_,run_underlying k.und,Builtin.lenOf,Z9 g1,ak,goInt,ah,am]
  have s : live (.dat i.esize xs) = true:=rfl
  have same : m = 0→RelH w Z inj (repl st.hp n (.dat i.esize (splice xs off (ys.take m)))) st.nx∧Ext w Z inj st.hp w Z inj (repl st.hp n (.dat i.esize (splice xs off (ys.take m)))) st.nx:=by
    intro h0;have aq : splice xs off (ys.take m) = xs:=by rw [h0];simp [splice]
    rw [aq]
    have g : ∀ q,find (repl st.hp n (.dat i.esize xs)) q = find st.hp q:=by
      intro q;rw [Yy];by_cases hq : n = q
      · subst hq;have : find st.hp n = some (.dat i.esize xs):=hb;simp [this]
      · simp [hq]
    constructor
    · exact ⟨fun q b hq=>h.heap.blk q b (by rw [g] at hq;exact hq),fun q r b c p' q' h1 h2=>h.heap.sep q r b c p' q' (by rw [g] at h1;exact h1) (by rw [g] at h2;exact h2),fun q b p' h1=>h.heap.out q b p' (by rw [g] at h1;exact h1),h.heap.zs,h.heap.zc⟩
    · exact {Ext.refl (w:=w) (Z:=Z) (inj:=inj) (hp:=st.hp) (pin:=st.nx) with imm:=fun b hb=>by obtain ⟨q,blk,o,h1,h2,h3⟩:=hb;rw [g] at h1;exact .inl ⟨q,blk,o,h1,h2,h3⟩}
  have ac : ∀ w' inj' nx',RelV w' Z inj' nx' (.d (.int .i64 ((min ys.length len : Nat) : Int))) (.int .i64 (m : Nat)):=fun _ _ _=>.d (.int _ _);by_cases h0 : m = 0
  · obtain ⟨s1,s2⟩:=same h0
    cases ax with
    | hsnil=>exact ⟨_,w,inj,l none _ _ rfl rfl w rfl,ac _ _ _,s1,s2,rfl,Nat.le_refl _⟩
    | @hs _ _ _ _ cap adr hn' hlc _ hcap=>exact ⟨_,w,inj,l (some adr) _ _ rfl rfl w (by show (storeCells _ _).run P w = _;rw [h0];simp [storeCells]),ac _ _ _,s1,s2,rfl,Nat.le_refl _⟩
  · cases ax with
    | hsnil=>omega
    | @hs _ _ _ _ cap adr hn' hlc _ hcap=>
      obtain ⟨b,o,hi,rfl,av⟩:=hcap q0;rcases q3 with ⟨_,q4⟩ | ⟨b',o',arr,ao,q3,q4,q5⟩
      · grind
      rw [hi] at q3;cases q3;have hL : (L1.take (m * i.esize)).length = m * i.esize:=by rw [List.length_take,Nat.min_eq_left q0]
      have af:=bo.take (m:=m) (by simp;omega)
      have bg : o + (off + cap) * i.esize≤arr.size:=by
        obtain ⟨c,e2,f,k1,k2⟩:=av;grind
      have cl : m * i.esize≤cap * i.esize:=Nat.mul_le_mul_right _ q0;rw [Nat.add_mul] at bg;have aa:=run_storeCells_at P b (o + off * i.esize) ao (L1.take (m * i.esize)) 0 arr w q4 (by rw [hL];omega) (af.one g7);simp only [Nat.add_zero] at aa;have aq : (arr.toList.take (o + off * i.esize) ++ L1.take (m * i.esize) ++ arr.toList.drop (o + off * i.esize + (L1.take (m * i.esize)).length)).toArray = (splice arr.toList (o + off * i.esize) (L1.take (m * i.esize))).toArray:=rfl;rw [aq] at aa;have al : o + off * i.esize + (L1.take (m * i.esize)).length≤arr.toList.length:=by rw [hL];simp;omega
      have ae : (splice arr.toList (o + off * i.esize) (L1.take (m * i.esize))).toArray.size = arr.size:=by simp only [List.size_toArray];rw [q22 _ _ _ al];simp
      have hz : ∀ b1,Z b1→(w.setRow b (splice arr.toList (o + off * i.esize) (L1.take (m * i.esize))).toArray).heap[b1]? = w.heap[b1]?:=fun b1 bi=>
        setRow_other w b b1 _ (fun e=>h.heap.out n _ _ hb s hi (by rw [← e];exact bi))
      have bp:=q2t w b arr _ ao (0,0) q4 ae;have cj : (ys.take m).length = m:=by rw [List.length_take,Nat.min_eq_left q0]
      refine ⟨_,_,inj,l (some ⟨b,o + off * i.esize,none⟩) _ _ rfl rfl _ aa,ac _ _ _,?_,Ext.set h.heap hb s hi q4 ae,rfl,Nat.le_refl _⟩;refine h.heap.set hb s hi q4 ae (q5p (es:=i.esize) (xs:=splice (xs.map (·.map V.d)) off ((ys.map (·.map V.d)).take m)) ?_ g7 ?_ (.inr ⟨b,o,_,ao,hi,setRow_heap w b _ _ _ _ q4,?_⟩))
      · simp only [rowsOf,splice,List.map_append,List.map_take,List.map_drop,Option.some.injEq,Prod.mk.injEq,true_and];simp
      · intro i' x' ap;rw [U4 _ _ _ _ (by simp;omega)] at ap;split at ap
        · exact af.2.1 _ _ ap
        grind
      · refine (q5.spliceRows q2 af (by simp;omega) (by rw [hL];omega)).mono fun v x hr=>hr.mono hz (fun _ h=>h) bp (fun _ _=>rfl) (Nat.le_refl _)
theorem qsl {t ty : TypeId} {i : TI} {sv v : V} {vs : Value} {st1 : AS} (h : RelS w Z inj st a Ds) (ht : tiOf P t = some i) (az : i.kind = .slice) (bc : Jx i.esize sv = true) (u : RelV w Z inj st.nx sv vs) (ha : Jw st i sv = some (v,st1)) :
    ∃ x w' inj',(Builtin.clear_ #[t] ty #[vs]).run P w = .ok x w'∧RelV w' Z inj' st1.nx v x∧RelH w' Z inj' st1.hp st1.nx∧Ext w Z inj st.hp w' Z inj' st1.hp st.nx∧st1.sl = st.sl∧st.nx≤st1.nx:=by
  obtain ⟨bl,d,z,k⟩:=Yj ht;have hk:=k.kind;unfold Za at hk;simp only [az] at hk;obtain ⟨e,ie,de,ze,rfl,g1,g2,g3,g4,g5,g6,g7,g8,g9,_⟩:=hk;have aa : ∀ w' inj' nx',RelV w' Z inj' nx' (.d (.tup [])) (.tuple #[]):=fun _ _ _=>.d (.tup qc qc);cases sv <;> simp only [Jw,reduceCtorEq] at ha
  case d x=>
    cases x <;> simp only [reduceCtorEq,Option.some.injEq,Prod.mk.injEq] at ha
    obtain ⟨rfl,rfl⟩:=ha
    cases u with | d u=>
    cases u;exact ⟨_,w,inj,by simp [Builtin.clear_,run_underlying k.und],aa _ _ _,h.heap,.refl,rfl,Nat.le_refl _⟩
  case hs n es off len=>
  have ax:=Nat.eq_of_beq_eq_true bc;subst ax;split at ha <;> try simp at ha
  rename_i k0 xs hb;obtain ⟨⟨bw,rfl⟩,rfl,rfl⟩:=ha;obtain ⟨q1,q2,q3⟩:=q5q (h.heap.blk n _ hb).2 rfl;have m : live (.dat i.esize xs) = true:=rfl;by_cases h0 : len = 0
  · subst h0;have aj : splice xs off (List.replicate 0 i.ezero) = xs:=by simp [splice]
    have g : ∀ q,find (repl st.hp n (.dat i.esize (splice xs off (List.replicate 0 i.ezero)))) q = find st.hp q:=by
      intro q;rw [aj,Yy];by_cases hq : n = q
      · subst hq;have : find st.hp n = some (.dat i.esize xs):=hb;simp [this]
      · simp [hq]
    have s1 : RelH w Z inj (repl st.hp n (.dat i.esize (splice xs off (List.replicate 0 i.ezero)))) st.nx:=
      ⟨fun q b hq=>h.heap.blk q b (by rw [g] at hq;exact hq),fun q r b c p' q' h1 h2=>h.heap.sep q r b c p' q' (by rw [g] at h1;exact h1) (by rw [g] at h2;exact h2),fun q b p' h1=>h.heap.out q b p' (by rw [g] at h1;exact h1),h.heap.zs,h.heap.zc⟩
    have s2 : Ext w Z inj st.hp w Z inj (repl st.hp n (.dat i.esize (splice xs off (List.replicate 0 i.ezero)))) st.nx:=
      {Ext.refl (w:=w) (Z:=Z) (inj:=inj) (hp:=st.hp) (pin:=st.nx) with imm:=fun b hb=>by obtain ⟨q,blk,o,h1,h2,h3⟩:=hb;rw [g] at h1;exact .inl ⟨q,blk,o,h1,h2,h3⟩}
    cases u with
    | hsnil=>exact ⟨_,w,inj,by simp [Builtin.clear_,run_underlying k.und],aa _ _ _,s1,s2,rfl,Nat.le_refl _⟩
    | @hs _ _ _ _ cap adr hn' hlc _ hcap=>exact ⟨_,w,inj,by simp [Builtin.clear_,run_underlying k.und],aa _ _ _,s1,s2,rfl,Nat.le_refl _⟩
  · cases u with
    | hsnil=>omega
    | @hs _ _ _ _ cap adr hn' hlc _ hcap=>
      obtain ⟨b,o,hi,rfl,an⟩:=hcap q0;rcases q3 with ⟨_,q4⟩ | ⟨b',o',arr,ah,q3,q4,q5⟩
      · grind
      rw [hi] at q3;cases q3;obtain ⟨p,ae⟩ : ∃ p,p = (Builtin.zeroCells ze.cells len).toList:=⟨_,rfl⟩
      have bh : ze.cells.size = i.esize:=by
        have:=(q7h (w:=w) (Z:=Z) g4).1;omega
      have hL : p.length = len * i.esize:=by rw [ae];simp [Builtin.zeroCells,bh]
      have ab : ERel w Z inj st.nx i.esize ((List.replicate len i.ezero).map (·.map V.d)) p.toArray:=by
        refine ⟨by simp [hL],fun q x hx=>?_,fun q x j d hx hd=>?_⟩
        · grind
        · rw [List.getElem?_map,List.getElem?_replicate] at hx;split at hx <;> simp at hx
          rename_i hq;subst hx;rw [List.getElem?_map] at hd
          cases ag : i.ezero[j]? with
          | none=>rw [ag] at hd;cases hd
          | some d'=>
            rw [ag] at hd;cases hd;obtain ⟨c,hc,hr,af⟩:=qfp (w:=w) (Z:=Z) g4 g5 hq ag;refine ⟨af,c,?_,.d hr⟩;rw [ae,Array.toArray_toList];unfold Builtin.zeroCells;grind
      have bb : o + (off + cap) * i.esize≤arr.size:=by
        obtain ⟨c,e2,f,k1,k2⟩:=an;grind
      have bz : len * i.esize≤cap * i.esize:=Nat.mul_le_mul_right _ q0;rw [Nat.add_mul] at bb;have y:=run_storeCells_at P b (o + off * i.esize) ah p 0 arr w q4 (by rw [hL];omega) (ab.one g7);simp only [Nat.add_zero] at y;have aj : (arr.toList.take (o + off * i.esize) ++ p ++ arr.toList.drop (o + off * i.esize + p.length)).toArray = (splice arr.toList (o + off * i.esize) p).toArray:=rfl;rw [aj] at y;have ad : o + off * i.esize + p.length≤arr.toList.length:=by rw [hL];simp;omega
      have s : (splice arr.toList (o + off * i.esize) p).toArray.size = arr.size:=by simp only [List.size_toArray];rw [q22 _ _ _ ad];simp
      have hz : ∀ b1,Z b1→(w.setRow b (splice arr.toList (o + off * i.esize) p).toArray).heap[b1]? = w.heap[b1]?:=fun b1 bd=>
        setRow_other w b b1 _ (fun e=>h.heap.out n _ _ hb m hi (by rw [← e];exact bd))
      have bg:=q2t w b arr _ ah (0,0) q4 s
      have ao : (Builtin.clear_ #[t] ty #[.slice (some ⟨b,o + off * i.esize,none⟩) len cap]).run P w = .ok (.tuple #[]) (w.setRow b (splice arr.toList (o + off * i.esize) p).toArray):=by
        obtain ⟨l,rfl⟩ : ∃ l,len = l + 1:=⟨len - 1,q0⟩
        have be : (zeroValue e).run P w = .ok ze w:=by simp [zeroValue,typeInfo,g1,g3]
        rw [ae] at y ⊢;simp [Builtin.clear_,run_underlying k.und,be,y]
      refine ⟨_,_,inj,ao,aa _ _ _,?_,Ext.set h.heap hb m hi q4 s,rfl,Nat.le_refl _⟩;refine h.heap.set hb m hi q4 s (q5p (es:=i.esize) (xs:=splice (xs.map (·.map V.d)) off ((List.replicate len i.ezero).map (·.map V.d))) ?_ g7 ?_ (.inr ⟨b,o,_,ah,hi,setRow_heap w b _ _ _ _ q4,?_⟩))
      · simp only [rowsOf,splice,List.map_append,List.map_take,List.map_drop,Option.some.injEq,Prod.mk.injEq,true_and];simp
      · intro i' x' ay;rw [U4 _ _ _ _ (by simp;omega)] at ay;grind
      · refine (q5.spliceRows q2 ab (by simp;omega) (by rw [hL];omega)).mono fun v x hr=>hr.mono hz (fun _ h=>h) bg (fun _ _=>rfl) (Nat.le_refl _)
end
end Go.Am
namespace Go.Am
open Go
variable {P : Program} {T : Tab}
def q9u (P : Program) (em : Bool) (k : Nat) (t : TypeId) (desc : TypeDesc) (n : Nat) : Prop:=
  ∀ w,(Kb desc = true→∀ X : Array Value,X.size = n→(Instr.checkKey em k t (.agg X)).run P w = .ok () w)∧(Kb desc = false→n = 1∧∀ x,(Instr.checkKey em k t x).run P w = .ok () w)
theorem qgm {d : Bool} {k : Nat} {t : TypeId} {desc : TypeDesc} {b : TypeInfo} {n : Nat} (h : q9u P d k t desc n) (f : P.underlying t = some desc) (hi : P.info? t = some b) (hs : b.size = n) {X : Array Value} {o : Nat} (m : o + n≤X.size) (w : World) :
    ∃ v,(part t X o).run P w = .ok v w∧(Instr.checkKey d k t v).run P w = .ok () w:=by
  obtain ⟨j,c⟩:=h w
  cases a : Kb desc with
  | true=>exact ⟨.agg (X.extract o (o + n)),by simp [part,q2r f,a,Z9 hi,hs],j a _ (by simp;omega)⟩
  | false=>
    obtain ⟨l,c⟩:=c a;obtain ⟨x,g⟩:=Y4 (xs:=X) (i:=o) q0;exact ⟨x,by simp [part,q2r f,a,g],c x⟩
def qct (em : Bool) (k : Nat) (X : Array Value) (f : Field) (_s : PUnit) : Sem (ForInStep PUnit):=
  if f.name ≠ "_" then do
    let __do_lift ← part f.type X f.offset
    Instr.checkKey em k f.type __do_lift
    pure (ForInStep.yield PUnit.unit)
  else pure (ForInStep.yield PUnit.unit)
theorem qmn {d : Nat} {t : TypeId} {ks : List (Option IntKind)} (h : Kg P d t = some ks) : ∃ a,P.underlying t = some a:=by
  cases b : P.underlying t with
  | none=>cases d <;> simp [Kg,b] at h
  | some a=>exact ⟨a,rfl⟩
theorem qgk (j : Bool) (d k : Nat) (n : ∀ t desc ks,P.underlying t = some desc→Kg P d t = some ks→q9u P j k t desc ks.length) (X : Array Value) (w : World) : ∀ (l : List Field) (o : Nat) (ks : List (Option IntKind)),
    tile P (Kg P d) o l = some ks→o + ks.length≤X.size→(forIn l PUnit.unit (qct j k X) : Sem PUnit).run P w = .ok PUnit.unit w
  | [],_,_,_,_=>by simp
  | f::l,o,ks,ht,hl=>by
    simp only [tile] at ht
    cases a : Kg P d f.type with
    | none=>simp [a] at ht
    | some ka=>
      simp only [a] at ht
      split at ht <;> try simp at ht
      rename_i b
      obtain ⟨rfl,p,q⟩:=b
      cases c : tile P (Kg P d) (f.offset + ka.length) l with
      | none=>simp [c] at ht
      | some kb=>
        simp only [c,Option.some.injEq] at ht;subst ht
        simp only [List.length_append] at hl
        obtain ⟨s,g⟩:=qmn a
        obtain ⟨x,h,m⟩:=qbx g
        obtain ⟨v,u,r⟩:=qgm (n f.type s ka g a) g h q0 (X:=X) (o:=f.offset) q0 w
        have:=qgk j d k n X w l (f.offset + ka.length) kb c q0
        rw [List.forIn_cons]
        simp only [qct,ql p,Sem.run_bind,u,r,Result.andThen_ok]
        simpa using this
def qcu (em : Bool) (k : Nat) (e : TypeId) (X : Array Value) (i : Nat) (_s : PUnit) : Sem (ForInStep PUnit):=do
  let __do_lift ← sizeOf e
  let __do_lift ← part e X (i * __do_lift)
  Instr.checkKey em k e __do_lift
  pure (ForInStep.yield PUnit.unit)
theorem qgl {c : Bool} {k : Nat} {e : TypeId} {desc : TypeDesc} {a : TypeInfo} {n : Nat} (b : q9u P c k e desc n) (d : P.underlying e = some desc) (hi : P.info? e = some a) (hs : a.size = n) {X : Array Value} (w : World) :
    ∀ (m s : Nat),(s + m) * n≤X.size→(forIn (List.range' s m) PUnit.unit (qcu c k e X) : Sem PUnit).run P w = .ok PUnit.unit w
  | 0,s,_=>by simp
  | m + 1,s,hl=>by
    have h : s * n + n = (s + 1) * n:=by rw [Nat.add_mul];simp
    have j : (s + (m + 1)) * n = (s + 1) * n + m * n:=by rw [← Nat.add_mul];congr 1;omega
    obtain ⟨v,g,f⟩:=qgm b d hi hs (X:=X) (o:=s * n) q0 w
    have:=qgl b d hi hs w m (s + 1) (X:=X) (by rw [Nat.add_mul (s + 1)];omega)
    rw [List.range'_succ,List.forIn_cons]
    simp only [qcu,Sem.run_bind,Z9 hi,hs,g,f,Result.andThen_ok]
    simpa using this
theorem qcv (f : Bool) : ∀ (d : Nat) (t : TypeId) (desc : TypeDesc) (ks : List (Option IntKind)),P.underlying t = some desc→Kg P d t = some ks→∀ k,d≤k→q9u P f k t desc ks.length
  | 0,t,desc,ks,hu,hp,k,hk=>by simp [Kg] at hp
  | d + 1,t,desc,ks,hu,hp,k,hk=>by
    obtain ⟨k,rfl⟩ : ∃ k',k = k' + 1:=⟨k - 1,q0⟩
    intro w
    simp only [Kg,hu] at hp
    cases desc <;> simp only [reduceCtorEq,Option.some.injEq] at hp
    case bool=>subst hp;exact ⟨by simp [Kb],fun _=>⟨rfl,fun x=>by unfold Instr.checkKey;simp [run_underlying hu]⟩⟩
    case int k0=>subst hp;exact ⟨by simp [Kb],fun _=>⟨rfl,fun x=>by unfold Instr.checkKey;simp [run_underlying hu]⟩⟩
    case struct fs=>
      refine ⟨fun _ X q=>?_,by simp [Kb]⟩
      split at hp
      · simp at hp
      · have:=qgk (P:=P) f d k (fun t desc ks p m=>qcv f d t desc ks p m k q0) X w fs.toList 0 ks hp q0
        rw [Array.forIn_toList] at this
        unfold qct at this
        unfold Instr.checkKey
        simp only [Sem.run_bind,run_underlying hu,Result.andThen_ok]
        rw [this]
        simp
    case array n e=>
      refine ⟨fun _ X q=>?_,by simp [Kb]⟩
      cases b : Kg P d e with
      | none=>simp [b] at hp
      | some a=>
        simp only [b] at hp
        split at hp
        · rename_i o
          simp only [Option.some.injEq] at hp;subst hp
          obtain ⟨l,c⟩:=qmn b
          obtain ⟨r,g,h⟩:=qbx c
          have j : (List.replicate n a).flatten.length = n * a.length:=by simp
          have:=qgl (qcv f d e l a c b k q0) c g q0 w n 0 (X:=X) (by rw [Nat.zero_add];omega)
          unfold Instr.checkKey
          simp only [Sem.run_bind,run_underlying hu,Result.andThen_ok,Std.Legacy.Range.forIn_eq_forIn_range',Std.Legacy.Range.size,Nat.sub_zero,Nat.add_sub_cancel,Nat.div_one]
          unfold qcu at this
          rw [this]
          simp
        · simp at hp
section
variable {w w' : World} {Z : Nat→Prop} {inj : Inj}
theorem qaa {d : DV} {v : Value} (h : RelD w Z d v) : DRel w Z [d] #[v]:=⟨rfl,fun i x y a b=>by
  cases i with
  | zero=>simp at a b;subst a b;exact h
  | succ i=>simp at a⟩
theorem q7t {d : DV} {v : Value} (h : RelD w Z d v) (b : Zp d = true) : ∃ cs,v = .agg cs∧DRel w Z (cellsD d) cs:=by
  cases h <;> simp [Zp] at b
  rename_i ds cs c a;exact ⟨cs,rfl,c,a⟩
theorem q52 {d : DV} (a : Zp d = false) : cellsD d = [d]:=by cases d <;> simp_all [Zp,cellsD]
theorem qir {d : TypeId} {desc : TypeDesc} {ks : List (Option IntKind)} (l : P.underlying d = some desc) (hp : Kg P 8 d = some ks) {a b : DV} {u v : Value} (j : RelD w Z a u) (hb : RelD w Z b v)
    (g : Zp a = Kb desc) (h : Zp b = Kb desc) {r : Bool} (f : Kd ks (cellsD a) (cellsD b) = some r) : (Op.equal d u v).run P w = .ok r w:=by
  have key:=qad (P:=P) (w:=w) (Z:=Z) 8 d desc ks l hp Op.maxDepth (by unfold Op.maxDepth;omega)
  cases c : Kb desc with
  | true=>
    obtain ⟨X,rfl,m⟩:=q7t j (g.trans c);obtain ⟨Y,rfl,k⟩:=q7t hb (h.trans c);exact (key _ _ _ _ r m k f).1 c
  | false=>
    rw [q52 (g.trans c),q52 (h.trans c)] at f;exact ((key _ _ _ _ r (qaa j) (qaa hb) f).2 c).2 u v rfl rfl
theorem qex {k : TypeId} {desc : TypeDesc} {ks : List (Option IntKind)} (l : P.underlying k = some desc) (hp : Kg P 8 k = some ks) {a b : DV} {u v : Value} (h : RelD w Z a u) (hb : RelD w Z b v) (g : Kb desc = false)
    {r : Bool} (c : Kd ks [a] [b] = some r) : Instr.sameNow desc u v = some r:=by
  simp only [Kg,l] at hp;cases desc <;> simp only [reduceCtorEq,Option.some.injEq] at hp <;> try (simp [Kb] at g;done)
  case bool=>
    subst hp;simp only [Kd] at c;cases a <;> cases b <;> simp only [q2c,reduceCtorEq] at c
    simp at c;subst c;cases h;cases hb;rfl
  case int k0=>
    subst hp;simp only [Kd] at c;cases a <;> cases b <;> simp only [q2c,reduceCtorEq] at c
    split at c <;> simp at c
    rename_i f j;split at f <;> simp at f
    rename_i d;obtain ⟨rfl,rfl⟩:=d;subst f c;simp at j;subst j;cases h;cases hb;simp [Instr.sameNow]
def Ents (w : World) (Z : Nat→Prop) (es : List (DV × DV)) (ents : List MapEntry) : Prop:=
  ents.length = es.length∧∀ (i : Nat) (e : DV × DV) (x : MapEntry),es[i]? = some e→ents[i]? = some x→RelD w Z e.1 x.key∧RelD w Z e.2 x.val∧Ya e.2 = true
theorem Ents.tail {e : DV × DV} {es : List (DV × DV)} {x : MapEntry} {a : List MapEntry} (h : Ents w Z (e::es) (x::a)) : RelD w Z e.1 x.key∧Ents w Z es a:=
  ⟨(h.2 0 e x rfl rfl).1,by simpa using h.1,fun i b f d c=>h.2 (i + 1) b f (by simpa using d) (by simpa using c)⟩
theorem qd8 {o : TypeId} {desc : TypeDesc} {ks : List (Option IntKind)} (j : P.underlying o = some desc) (hp : Kg P 8 o = some ks) {a : DV} {u : Value} (g : RelD w Z a u) (f : Kb desc = false) :
    ∀ (es : List (DV × DV)) (d : List MapEntry) (s : Nat) (r : Option Nat),Ents w Z es d→Zf false ks a es = some r→Instr.findNow desc u d s = some (r.bind fun i=>(d[i]?).map fun x=>(s + i,x.val))
  | [],[],s,r,_,hm=>by simp only [Zf,Option.some.injEq] at hm;subst hm;rfl
  | [],x::d,_,_,h,_=>by have:=h.1;simp at this
  | e::es,[],_,_,h,_=>by have:=h.1;simp at this
  | (b,c)::es,x::d,s,r,h,hm=>by
    obtain ⟨l,m⟩:=h.tail
    simp only [Zf] at hm
    split at hm <;> try simp at hm
    rename_i n
    rw [q52 n.1,q52 n.2] at hm
    split at hm <;> try simp at hm
    · rename_i k
      subst hm
      simp [Instr.findNow,qex j hp g l f k]
    · rename_i k
      split at hm <;> simp at hm
      · rename_i i hi
        subst hm
        have:=qd8 j hp g f es d (s + 1) _ m hi
        simp only [Instr.findNow,qex j hp g l f k,this]
        simp [Nat.add_comm,Nat.add_left_comm]
      · rename_i hi
        subst hm
        have:=qd8 j hp g f es d (s + 1) _ m hi
        simp only [Instr.findNow,qex j hp g l f k,this]
        rfl
theorem qd7 {l : TypeId} {desc : TypeDesc} {ks : List (Option IntKind)} (k : P.underlying l = some desc) (hp : Kg P 8 l = some ks) {a : DV} {u : Value} (g : RelD w Z a u) (f : Kb desc = true) :
    ∀ (es : List (DV × DV)) (d : List MapEntry) (s : Nat) (r : Option Nat),Ents w Z es d→Zf true ks a es = some r→(Instr.findAsking l u d s).run P w = .ok (r.bind fun i=>(d[i]?).map fun x=>(s + i,x.val)) w
  | [],[],s,r,_,hm=>by simp only [Zf,Option.some.injEq] at hm;subst hm;simp [Instr.findAsking]
  | [],x::d,_,_,h,_=>by have:=h.1;simp at this
  | e::es,[],_,_,h,_=>by have:=h.1;simp at this
  | (b,c)::es,x::d,s,r,h,hm=>by
    obtain ⟨p,n⟩:=h.tail
    simp only [Zf] at hm
    split at hm <;> try simp at hm
    rename_i j
    split at hm <;> try simp at hm
    · rename_i m
      subst hm
      simp [Instr.findAsking,qir k hp g p (j.1.trans f.symm) (j.2.trans f.symm) m]
    · rename_i m
      have o:=qir k hp g p (j.1.trans f.symm) (j.2.trans f.symm) m
      split at hm <;> simp at hm
      · rename_i i hi
        subst hm
        have:=qd7 k hp g f es d (s + 1) _ n hi
        simp only [Instr.findAsking,Sem.run_bind,o,Result.andThen_ok,Bool.false_eq_true,if_false,this]
        simp [Nat.add_comm,Nat.add_left_comm]
      · rename_i hi
        subst hm
        have:=qd7 k hp g f es d (s + 1) _ n hi
        simp only [Instr.findAsking,Sem.run_bind,o,Result.andThen_ok,Bool.false_eq_true,if_false,this]
        rfl
theorem qpr {g : TypeId} {desc : TypeDesc} {ks : List (Option IntKind)} (d : P.underlying g = some desc) (hp : Kg P 8 g = some ks) {a : DV} {u : Value} (j : RelD w Z a u) (l : Zp a = Kb desc)
    {es : List (DV × DV)} {b : List MapEntry} {r : Option Nat} (h : Ents w Z es b) (f : Zf (Kb desc) ks a es = some r) : (Instr.findKey g u b).run P w = .ok (r.bind fun i=>(b[i]?).map fun x=>(i,x.val)) w:=by
  cases c : Kb desc with
  | false=>
    rw [c] at f;have:=qd8 d hp j c es b 0 r h f;simp only [Nat.zero_add] at this;simp only [Instr.findKey,Sem.run_bind,run_underlying d,Result.andThen_ok,this];simp
  | true=>
    rw [c] at f;have:=qd7 d hp j c es b 0 r h f;simp only [Nat.zero_add] at this
    cases b with
    | nil=>
      rw [← this];simp [Instr.findKey,run_underlying d,Instr.findNow,Instr.findAsking]
    | cons e es=>
      have k : Instr.findNow desc u (e::es) 0 = none:=by
        cases desc <;> simp [Kb] at c <;> simp [Instr.findNow,Instr.sameNow]
      simp only [Instr.findKey,Sem.run_bind,run_underlying d,Result.andThen_ok,k];exact this
theorem qcp : ∀ {ks : List (Option IntKind)} {xs ys : List DV} {X Y : List Value},Kd ks xs ys = some true→(X.length = xs.length)→(Y.length = ys.length)→
    (∀ (i : Nat) (d : DV) (c : Value),xs[i]? = some d→X[i]? = some c→RelD w Z d c)→(∀ (i : Nat) (d : DV) (c : Value),ys[i]? = some d→Y[i]? = some c→RelD w Z d c)→∀ n,X.length = Y.length∧(Y.zip X).all (fun (x,y)=>Instr.sameBits n x y) = true
  | [],[],[],[],[],_,_,_,_,_,n=>⟨rfl,rfl⟩
  | [],[],[],_::_,_,_,h,_,_,_,_=>by simp at h
  | [],[],[],[],_::_,_,_,h,_,_,_=>by simp at h
  | [],[],_::_,_,_,h,_,_,_,_,_=>by simp [Kd] at h
  | [],_::_,_,_,_,h,_,_,_,_,_=>by simp [Kd] at h
  | _::_,[],_,_,_,h,_,_,_,_,_=>by simp [Kd] at h
  | _::_,_::_,[],_,_,h,_,_,_,_,_=>by simp [Kd] at h
  | k::ks,a::xs,b::ys,[],_,_,h,_,_,_,_=>by simp at h
  | k::ks,a::xs,b::ys,_::_,[],_,_,h,_,_,_=>by simp at h
  | k::ks,a::xs,b::ys,x::X,y::Y,h,l1,l2,r1,r2,n=>by
    simp only [Kd] at h
    split at h <;> simp at h
    rename_i p q hp o
    obtain ⟨rfl,rfl⟩:=h
    obtain ⟨m,r⟩:=qcp o (by simpa using l1) (by simpa using l2) (fun i d c hd f=>r1 (i + 1) d c (by simpa using hd) (by simpa using f)) (fun i d c hd f=>r2 (i + 1) d c (by simpa using hd) (by simpa using f)) n
    have j:=r1 0 a x rfl rfl
    have l:=r2 0 b y rfl rfl
    refine ⟨by simp [m],?_⟩
    simp only [List.zip_cons_cons,List.all_cons,r,Bool.and_true]
    cases k with
    | none=>
      cases a <;> cases b <;> simp only [q2c,reduceCtorEq] at hp
      simp at hp;subst hp
      cases j;cases l;cases n <;> simp [Instr.sameBits]
    | some k=>
      cases a <;> cases b <;> simp only [q2c,reduceCtorEq] at hp
      split at hp <;> simp at hp
      rename_i g
      obtain ⟨rfl,rfl⟩:=g
      subst hp
      cases j;cases l;cases n <;> simp [Instr.sameBits]
theorem qr0 {ks : List (Option IntKind)} {ag : Bool} {a b : DV} {u v : Value} (m : RelD w Z a u) (hb : RelD w Z b v) (k : Zp a = ag) (l : Zp b = ag) (h : Kd ks (cellsD a) (cellsD b) = some true) :
    (Instr.keyThatStays v u).run P w = .ok u w:=by
  have hs : Instr.sameBits 10000 v u = true:=by
    cases ag with
    | true=>
      obtain ⟨X,rfl,g,f⟩:=q7t m k;obtain ⟨Y,rfl,o,p⟩:=q7t hb l;obtain ⟨n,r⟩:=qcp (X:=X.toList) (Y:=Y.toList) h (by simpa using g.symm) (by simpa using o.symm) (fun i d c hd j=>f i d c hd (by simpa using j)) (fun i d c hd j=>p i d c hd (by simpa using j)) 9999;have q : (Y.size == X.size) = true:=by simp at n;simp [n]
      show (Y.size == X.size && (Y.toList.zip X.toList).all fun (x,y)=>Instr.sameBits 9999 x y) = true;grind
    | false=>
      rw [q52 k,q52 l] at h;have:=(qcp (X:=[u]) (Y:=[v]) h rfl rfl (fun i d c g f=>(qaa m).2 i d c g (by simpa using f)) (fun i d c g f=>(qaa hb).2 i d c g (by simpa using f)) 10000).2;simp_all
  simp [Instr.keyThatStays,hs]
end
theorem qi5 {w : World} {a : Addr} (h : ∀ c e f,w.heap[a.block]?≠some (.cells c e f)) : w.frozen? a = false:=by
  unfold World.frozen?;grind
theorem qdg {w : World} {b : Nat} {o : Obj} (h : ∀ c e f,w.heap[b]?≠some (.cells c e f)) (g : ∀ c e f,o≠.cells c e f) (a : Addr) : (w.putObj b o).frozen? a = w.frozen? a:=by
  by_cases hb : a.block = b
  · subst hb;rw [qi5 h,qi5];intro c e f;by_cases d : a.block < w.heap.size
    · rw [World.putObj_heap_same d];intro j;exact g _ _ _ (qc2 j)
    simp_all
  · simp only [World.frozen?,World.putObj_heap_other hb]
theorem q4y {w : World} {b : Nat} {es : Array MapEntry} {cl : Nat} (hb : w.heap[b]? = some (.map es cl)) : (getObj b).run P w = .ok (.map es cl) w:=by simp [getObj,Sem.run,hb]
theorem qb7 {w : World} {b : Nat} {es : Array MapEntry} {cl : Nat} (o : Obj) (hb : w.heap[b]? = some (.map es cl)) : (setObj b o).run P w = .ok () (w.putObj b o):=by simp [setObj,Sem.run,hb,World.putObj]
section
variable {w : World} {Z : Nat→Prop} {inj : Inj} {hp : List (Nat × Blk)} {nx pin : Nat}
theorem qu8 {n : Nat} {es : List (DV × DV)} (h : RelB w Z inj nx n (.mp es)) : ∃ b a cl,inj n = some (b,0)∧w.heap[b]? = some (.map a cl)∧Ents w Z es a.toList:=by
  obtain ⟨b,a,cl,g,d,k,f⟩:=h;exact ⟨b,a,cl,g,d,by simpa using k,fun i e x j c=>f i e x j (by simpa using c)⟩
theorem qko (h : RelH w Z inj hp nx) {n : Nat} {es j : List (DV × DV)} (u : find hp n = some (.mp es)) {b : Nat} (hi : inj n = some (b,0)) {ae a : Array MapEntry} {cl cl' : Nat} (hb : w.heap[b]? = some (.map ae cl))
    (hE : Ents w Z j a.toList) : RelH (w.putObj b (.map a cl')) Z inj (repl hp n (.mp j)) nx∧Ext w Z inj hp (w.putObj b (.map a cl')) Z inj (repl hp n (.mp j)) pin:=by
  have g : ∀ k,k≠b→(w.putObj b (.map a cl')).heap[k]? = w.heap[k]?:=fun k l=>World.putObj_heap_other l
  have aj : ¬ Z b:=fun y=>by
    obtain ⟨c,e,f,hc⟩:=h.zc b y;grind
  have aa : Zv w (w.putObj b (.map a cl')):=fun k c e f l=>by grind
  have y : ∀ k,Z k→(w.putObj b (.map a cl')).heap[k]? = w.heap[k]?:=fun k l=>g k (fun e=>aj (e ▸ l))
  have d : ∀ m c,find (repl hp n (.mp j)) m = some c→(m = n∧c = .mp j)∨(m≠n∧find hp m = some c):=by
    intro m c hm;rw [Yy] at hm;grind
  have ac : ∀ k,im (repl hp n (.mp j)) inj k→im hp inj k:=by
    rintro k ⟨m,c,o,z,h2,t⟩;rcases d m c z with ⟨rfl,rfl⟩ | ⟨_,s⟩
    · exact ⟨m,_,o,u,rfl,t⟩
    · exact ⟨m,c,o,s,h2,t⟩
  have af : RelB (w.putObj b (.map a cl')) Z inj nx n (.mp j):=by
    refine ⟨b,a,cl',hi,World.putObj_heap_same (J5 hb),by simpa using hE.1,fun i e x he hx=>?_⟩;obtain ⟨g1,g2,g3⟩:=hE.2 i e x he (by simpa using hx);exact ⟨g1.mono y (fun _ h=>h),g2.mono y (fun _ h=>h),g3⟩
  refine ⟨⟨?_,?_,?_,?_,?_⟩,⟨qc,?_,fun k l=>.inl (ac k l),aa,?_,fun _ h=>h,fun _ h=>.inl h,fun _ _=>rfl,rfl,rfl,rfl,qdg (fun _ _ _=>by rw [hb];simp) (fun _ _ _=>qc)⟩⟩
  · intro m c hm;rcases d m c hm with ⟨rfl,rfl⟩ | ⟨r,s⟩
    · exact ⟨(h.blk _ _ u).1,af⟩
    · obtain ⟨v,h6⟩:=h.blk m c s;exact ⟨v,h6.mono y (fun _ h=>h) aa (fun _ _=>rfl) (Nat.le_refl _) v fun p hp ah=>g _ fun e=>h.sep m n c _ p (b,0) s u ah rfl hp hi r e⟩
  · intro m m' c c' p q z h2 t s v h6 r;rcases d m c z with ⟨rfl,rfl⟩ | ⟨e1,k1⟩ <;> rcases d m' c' h2 with ⟨rfl,rfl⟩ | ⟨e2,k2⟩
    · omega
    · exact h.sep _ _ _ _ p q u k2 rfl s v h6 r
    · exact h.sep _ _ _ _ p q k1 u t rfl v h6 r
    · exact h.sep _ _ _ _ p q k1 k2 t s v h6 r
  · intro m c p z h2 t;rcases d m c z with ⟨rfl,rfl⟩ | ⟨e1,k1⟩
    · grind
    · exact h.out _ _ p k1 h2 t
  · intro k l;simpa using h.zs k l
  · intro k l;obtain ⟨c,e,f,hc⟩:=h.zc k l;grind
  · intro k _ l;exact g k fun e=>l ⟨n,_,0,u,rfl,e ▸ hi⟩
  · intro k x l;grind
end
section
variable {w : World} {Z : Nat→Prop} {inj : Inj} {st : AS} {a : Act} {Ds : List Nat}
theorem qsy {t : TypeId} (h : RelS w Z inj st a Ds) : Kf st (st.new (.mp [])) (.mp st.nx) w Z inj ((do pure (Next.value (← Instr.makeMap t none)) : Sem Next).run P w):=by
  refine .new (o:=.map #[] 0) (x:=.map (some w.heap.size)) h ?_ ?_ (.mp q0 (Ku _ _ _))
  · simp [Instr.makeMap]
  · exact ⟨w.heap.size,#[],0,Ku _ _ _,Ju w _,rfl,qc⟩
theorem q55 {t : TypeId} {i : TI} {ks : List (Option IntKind)} {n : Nat} {es : List (DV × DV)} {m : DV} {mv s : Value} {r : Option Nat} (h : RelS w Z inj st a Ds) (ht : tiOf P t = some i) (hk : i.keys = some ks) (hm : RelV w Z inj st.nx (.mp n) mv)
    (hb : st.blk n = some (.mp es)) (l : RelD w Z m s) (p : Ua i.eagg ks m = true) (hf : Zf i.eagg ks m es = some r) :
    ∃ j et b c cl,P.underlying t = some (.map j et)∧mv = .map (some b)∧inj n = some (b,0)∧w.heap[b]? = some (.map c cl)∧Ents w Z es c.toList∧(∀ v,(Instr.checkKey v 10000 j s).run P w = .ok () w)∧
      (Instr.findKey j s c.toList).run P w = .ok (r.bind fun i=>(c[i]?).map fun x=>(i,x.val)) w∧∃ u q,i.ezero = [u]∧(zeroValue et).run P w = .ok q w∧RelD w Z u q:=by
  obtain ⟨af,d,z,k⟩:=Yj ht;have g:=k.kind;unfold Za at g;rw [k.keys ks hk] at g;obtain ⟨j,e,ie,q,u,al,dk,rfl,g1,g2,g3,g4,g5,g6,g7,g8,_⟩:=g;rw [hk] at g6;cases g6
  have f : Zp m = i.eagg∧(cellsD m).length = ks.length:=by
    simp only [Ua,Bool.and_eq_true,beq_iff_eq] at p;simp_all
  obtain ⟨f,o⟩:=f
  cases hm with
  | @mp _ b hn hi=>
  obtain ⟨b',c,cl,e1,e2,e3⟩:=qu8 (h.heap.blk n _ hb).2;rw [hi] at e1;cases e1;rw [g8] at f hf;refine ⟨j,e,b,c,cl,k.und,rfl,hi,e2,e3,fun v=>?_,?_,u,q,g7,?_,(qcx g3).1⟩
  · have hc:=qcv v 8 j dk ks g5 g4 10000 q0 w
    cases y : Kb dk with
    | true=>
      obtain ⟨X,rfl,hX⟩:=q7t l (f.trans y);exact (hc.1 y) X (hX.1.symm.trans o)
    | false=>exact (hc.2 y).2 s
  · have:=qpr g5 g4 l f e3 hf;grind
  · simp [zeroValue,typeInfo,g1,g2]
theorem qd1 {es : List (DV × DV)} {a : List MapEntry} (h : Ents w Z es a) {j : Nat} {e : DV × DV} (b : es[j]? = some e) : ∃ x,a[j]? = some x∧RelD w Z e.1 x.key∧RelD w Z e.2 x.val∧Ya e.2 = true:=by
  obtain ⟨x,c⟩:=Zm (xs:=a) (i:=j) (by rw [h.1];exact Kc b);exact ⟨x,c,h.2 j e x b c⟩
theorem qe6 {ag : Bool} {ks : List (Option IntKind)} {k : DV} : ∀ {es : List (DV × DV)} {j : Nat},Zf ag ks k es = some (some j)→∃ e,es[j]? = some e∧Zp e.1 = ag∧Kd ks (cellsD k) (cellsD e.1) = some true
  | [],j,h=>by simp [Zf] at h
  | (b,c)::es,j,h=>by
    simp only [Zf] at h
    split at h <;> try simp at h
    rename_i f
    split at h <;> try simp at h
    · rename_i a;subst h;exact ⟨_,rfl,f.2,a⟩
    · split at h <;> simp at h
      rename_i i hi
      subst h
      obtain ⟨e,g,d⟩:=qe6 hi
      exact ⟨e,by simpa using g,d⟩
theorem qsv {t : TypeId} {x y : Operand} {ok : Bool} {i : TI} {ks : List (Option IntKind)} {n : Nat} {es : List (DV × DV)} {s z : DV} {e : DV × Bool} (h : RelS w Z inj st a Ds) (ht : tiOf P t = some i) (hk : i.keys = some ks) (hx : st.ev x = some (.mp n)) (hy : st.ev y = some (.d s))
    (hb : st.blk n = some (.mp es)) (hz : i.ezero = [z]) (g : Ua i.eagg ks s = true) (m : mget i.eagg ks z s es = some e) :
    Kf st st (.d (bif ok then .tup [e.1,.bool e.2] else e.1)) w Z inj ((do pure (Next.value (← Instr.lookup t (a.eval x) (a.eval y) ok)) : Sem Next).run P w):=by
  have v:=K9 h hx;have f:=K9 h hy;generalize a.eval x = mv at v ⊢;generalize a.eval y = kv at f ⊢
  cases f with | d f=>
  have fin : ∀ (u : Value) (o : Bool) (dv : DV),RelD w Z dv u→e = (dv,o)→(Instr.lookup t mv kv ok).run P w = .ok (if ok then .tuple #[u,.bool o] else u) w→Kf st st (.d (bif ok then .tup [e.1,.bool e.2] else e.1)) w Z inj ((do pure (Next.value (← Instr.lookup t mv kv ok)) : Sem Next).run P w):=by
    rintro u o dv hr rfl p;refine .quiet h (Ke p) (.d ?_)
    cases ok with
    | false=>exact hr
    | true=>
      refine .tup rfl fun i d c hd l=>?_
      match i,hd,l with
      | 0,hd,l=>simp at hd l;subst hd l;exact hr
      | 1,hd,l=>simp at hd l;subst hd l;exact .bool _
      | i + 2,hd,_=>simp at hd
  unfold mget at m;split at m <;> try simp at m
  · rename_i j hf;obtain ⟨a1,b1,ag,rfl⟩:=m;obtain ⟨kt,et,b,k,cl,g1,rfl,g3,g4,g5,g6,q,_⟩:=q55 h ht hk v hb f g hf;obtain ⟨u,hu,q1,q2,q3⟩:=qd1 g5 ag;refine fin u.val true _ q2 rfl ?_;have r : k[j]? = some u:=by simpa using hu
    simp [Instr.lookup,run_underlying g1,q4y g4,g6,q,r]
  · rename_i hf;subst m;obtain ⟨kt,et,b,k,cl,g1,rfl,g3,g4,g5,g6,q,zd,ze,g8,g9,af⟩:=q55 h ht hk v hb f g hf;rw [hz] at g8;cases g8;refine fin ze false _ af rfl ?_;simp only [Option.bind_none] at q;simp [Instr.lookup,run_underlying g1,q4y g4,g6,q,g9]
theorem qpf {es : List (DV × DV)} {a : List MapEntry} (h : Ents w Z es a) {f c : DV} {x : MapEntry} (j : RelD w Z f x.key) (g : RelD w Z c x.val) (k : Ya c = true) : Ents w Z (es ++ [(f,c)]) (a ++ [x]):=by
  refine ⟨by simp [h.1],fun i e y d b=>?_⟩;by_cases hi : i < es.length
  · rw [List.getElem?_append_left hi] at d;rw [List.getElem?_append_left (by rw [h.1];exact hi)] at b;exact h.2 i e y d b
  · rw [List.getElem?_append_right q0] at d;rw [List.getElem?_append_right (by rw [h.1];omega),h.1] at b;grind
theorem qpg {es : List (DV × DV)} {a : List MapEntry} (h : Ents w Z es a) {j : Nat} {g c : DV} {x : MapEntry} (l : RelD w Z g x.key) (k : RelD w Z c x.val) (m : Ya c = true) : Ents w Z (es.set j (g,c)) (a.set j x):=by
  refine ⟨by simp [h.1],fun i e y d b=>?_⟩;rw [List.getElem?_set] at d b;by_cases f : j = i
  · grind
  · rw [qn f] at d b;exact h.2 i e y d b
theorem qpe {es : List (DV × DV)} {a : List MapEntry} (h : Ents w Z es a) (j : Nat) : Ents w Z (es.eraseIdx j) (a.eraseIdx j):=by
  refine ⟨by simp [List.length_eraseIdx,h.1],fun i e y c b=>?_⟩;rw [List.getElem?_eraseIdx] at c b;split at c
  · rename_i hi;rw [ql hi] at b;exact h.2 i e y c b
  · rename_i hi;rw [qn hi] at b;exact h.2 (i + 1) e y c b
theorem qt0 {t : TypeId} {m x y : Operand} {i : TI} {ks : List (Option IntKind)} {n : Nat} {es o : List (DV × DV)} {kd vd : DV} (h : RelS w Z inj st a Ds) (ht : tiOf P t = some i) (hk : i.keys = some ks) (r : st.ev m = some (.mp n)) (hx : st.ev x = some (.d kd)) (hy : st.ev y = some (.d vd))
    (hb : st.blk n = some (.mp es)) (k : Ua i.eagg ks kd = true) (hc : Ya vd = true) (q : mput i.eagg ks kd vd es = some o) :
    Kf st (st.setBlk n (.mp o)) .dead w Z inj ((do Instr.mapUpdate t (a.eval m) (a.eval x) (a.eval y);pure Next.skip : Sem Next).run P w):=by
  have r:=K9 h r;have f:=K9 h hx;have l:=K9 h hy;generalize a.eval m = mv at r ⊢;generalize a.eval x = kv at f ⊢;generalize a.eval y = vv at l ⊢
  cases f with | d f=>
  cases l with | d l=>
  have z : Zp kd = i.eagg:=by simp only [Ua,Bool.and_eq_true,beq_iff_eq] at k;exact k.1
  have fin : ∀ b c cl g cl',inj n = some (b,0)→w.heap[b]? = some (.map c cl)→Ents w Z o g.toList→(Instr.mapUpdate t mv kv vv).run P w = .ok () (w.putObj b (.map g cl'))→
      Kf st (st.setBlk n (.mp o)) .dead w Z inj ((do Instr.mapUpdate t mv kv vv;pure Next.skip : Sem Next).run P w):=by
    intro b c cl g cl' hi hh hE v
    obtain ⟨s,g2⟩:=qko (pin:=st.nx) (cl':=cl') h.heap hb hi hh hE
    exact ⟨undef,_,inj,.inr ⟨by simp [v],rfl⟩,.dead _,s,g2,rfl,Nat.le_refl _⟩
  unfold mput at q;split at q <;> try simp at q
  · rename_i j hf;subst q;obtain ⟨kt,et,b,c,cl,s,rfl,g3,p,g5,g6,g7,_⟩:=q55 h ht hk r hb f k hf;obtain ⟨e,he,e1,e2⟩:=qe6 hf;obtain ⟨u,hu,q1,q2,q3⟩:=qd1 g5 he;have ae : c[j]? = some u:=by simpa using hu
    have ai:=qr0 (P:=P) f q1 z e1 e2;refine fin b c cl (c.modify j fun e=>{e with key:=kv,val:=vv}) cl g3 p ?_ ?_
    · have : (c.modify j fun e=>{e with key:=kv,val:=vv}).toList = c.toList.set j {u with key:=kv,val:=vv}:=by
        apply List.ext_getElem?;grind
      rw [this];exact qpg g5 f l hc
    · simp [Instr.mapUpdate,run_underlying s,q4y p,g6,g7,ae,ai,qb7 _ p]
  · rename_i hf;subst q;obtain ⟨kt,et,b,c,cl,s,rfl,g3,p,g5,g6,g7,_⟩:=q55 h ht hk r hb f k hf;simp only [Option.bind_none] at g7;refine fin b c cl (c.push {key:=kv,val:=vv,born:=cl}) (cl + 1) g3 p ?_ ?_
    · rw [Array.toList_push];exact qpf g5 f l hc
    · simp [Instr.mapUpdate,run_underlying s,q4y p,g6,g7,qb7 _ p]
theorem qso {x : Array TypeId} {ty t : TypeId} {mv kv : Value} {i : TI} {ks : List (Option IntKind)} {n : Nat} {es k : List (DV × DV)} {kd : DV} (h : RelS w Z inj st a Ds) (ht : tiOf P t = some i) (o : x[0]? = some t) (hk : i.keys = some ks) (hm : RelV w Z inj st.nx (.mp n) mv) (p : RelD w Z kd kv)
    (hb : st.blk n = some (.mp es)) (l : Ua i.eagg ks kd = true) (q : mdel i.eagg ks kd es = some k) :
    Kf st (st.setBlk n (.mp k)) (.d (.tup [])) w Z inj ((do pure (Next.value (← Builtin.delete_ x ty #[mv,kv])) : Sem Next).run P w):=by
  have fin : ∀ b f cl g cl',inj n = some (b,0)→w.heap[b]? = some (.map f cl)→Ents w Z k g.toList→(Builtin.delete_ x ty #[mv,kv]).run P w = .ok (.tuple #[]) (w.putObj b (.map g cl'))→
      Kf st (st.setBlk n (.mp k)) (.d (.tup [])) w Z inj ((do pure (Next.value (← Builtin.delete_ x ty #[mv,kv])) : Sem Next).run P w):=by
    intro b f cl g cl' hi hh hE s
    obtain ⟨r,g2⟩:=qko (pin:=st.nx) (cl':=cl') h.heap hb hi hh hE
    exact ⟨.tuple #[],_,inj,.inl (Ke s),.d (.tup rfl fun i d c hd _=>by simp at hd),r,g2,rfl,Nat.le_refl _⟩
  unfold mdel at q;split at q <;> try simp at q
  · rename_i j y;subst q;obtain ⟨kt,et,b,f,cl,r,rfl,g3,m,v,g6,z,_⟩:=q55 h ht hk hm hb p l y;obtain ⟨e,he,e1,e2⟩:=qe6 y;obtain ⟨u,hu,q1,q2,q3⟩:=qd1 v he;have ab : f[j]? = some u:=by simpa using hu
    refine fin b f cl (f.eraseIdxIfInBounds j) cl g3 m ?_ ?_
    · rw [Array.toList_eraseIdxIfInBounds];exact qpe v j
    · simp [Builtin.delete_,o,run_underlying r,q4y m,g6,z,ab,qb7 _ m]
  · rename_i y;subst q;obtain ⟨kt,et,b,f,cl,r,rfl,g3,m,v,g6,z,_⟩:=q55 h ht hk hm hb p l y;simp only [Option.bind_none] at z;refine fin b f cl f cl g3 m v ?_;simp [Builtin.delete_,o,run_underlying r,q4y m,g6,z,qb7 _ m]
end
end Go.Am
