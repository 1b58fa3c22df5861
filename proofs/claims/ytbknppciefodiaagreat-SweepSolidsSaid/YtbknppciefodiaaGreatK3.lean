/- Am13 Am14 Am15 Am16 Am16m -/
import Derived.Test.YtbknppciefodiaaGreatK2
import Derived.Deep.AppendSrc
import Derived.Room.Entries
import Derived.RangeFuncRecord
namespace Go.Am
open Go
variable {P : Program} {T : Tab}
def RowV (w : World) (Z : Nat→Prop) (inj : Inj) (nx : Nat) (arr : Array Value) (o es : Nat) (xs : List (List V)) : Prop:=
  ∀ (i : Nat) (x : List V) (j : Nat) (d : V),xs[i]? = some x→x[j]? = some d→Ko d = true∧∃ c,arr[o + (i * es + j)]? = some c∧RelV w Z inj nx d c
section
variable {w : World} {Z : Nat→Prop} {inj : Inj} {nx : Nat}
theorem RowV.mono {w' : World} {inj' : Inj} {nx' : Nat} {arr : Array Value} {o es : Nat} {xs : List (List V)} (h : RowV w Z inj nx arr o es xs) (a : ∀ v x,RelV w Z inj nx v x→RelV w' Z inj' nx' v x) : RowV w' Z inj' nx' arr o es xs:=
  fun i x j d b hd=>let ⟨h1,c,h2,h3⟩:=h i x j d b hd;⟨h1,c,h2,a _ _ h3⟩
def rowsOf : Blk→Option (Nat × List (List V))
  | .dat es xs=>some (es,xs.map (·.map .d))
  | .cel es xs=>some (es,xs)
  | _=>none
theorem q6p {n : Nat} {b : Blk} {es : Nat} {xs : List (List V)} (h : RelB w Z inj nx n b) (g : rowsOf b = some (es,xs)) :
    es≠0∧(∀ (i : Nat) (x : List V),xs[i]? = some x→x.length = es)∧((xs = []∧inj n = none)∨∃ b o arr ty,inj n = some (b,o)∧w.heap[b]? = some (.cells arr ty (0,0))∧RowV w Z inj nx arr o es xs):=by
  cases b <;> simp only [rowsOf,reduceCtorEq,Option.some.injEq,Prod.mk.injEq] at g
  · obtain ⟨rfl,rfl⟩:=g;obtain ⟨l,q,a⟩:=h;refine ⟨l,?_,?_⟩
    · intro i x f;simp only [List.getElem?_map,Y7] at f;obtain ⟨y,p,rfl⟩:=f;simpa using q i y p
    · rcases a with ⟨a,k⟩ | ⟨b,o,arr,ty,a,k,t⟩
      · exact .inl ⟨by simp [a],k⟩
      · refine .inr ⟨b,o,arr,ty,a,k,fun i x j d f hd=>?_⟩;simp only [List.getElem?_map,Y7] at f;obtain ⟨y,p,rfl⟩:=f;simp only [List.getElem?_map,Y7] at hd;obtain ⟨u,m,rfl⟩:=hd;obtain ⟨s,c,r,v⟩:=t i y j u p m;exact ⟨s,c,r,.d v⟩
  · obtain ⟨rfl,rfl⟩:=g;obtain ⟨l,q,a⟩:=h;exact ⟨l,q,a⟩
theorem q6o {n : Nat} {b : Blk} {es : Nat} {xs : List (List V)} (a : rowsOf b = some (es,xs)) (l : es≠0) (m : ∀ (i : Nat) (x : List V),xs[i]? = some x→x.length = es)
    (h : (xs = []∧inj n = none)∨∃ b o arr ty,inj n = some (b,o)∧w.heap[b]? = some (.cells arr ty (0,0))∧RowV w Z inj nx arr o es xs) : RelB w Z inj nx n b:=by
  cases b <;> simp only [rowsOf,reduceCtorEq,Option.some.injEq,Prod.mk.injEq] at a
  · obtain ⟨rfl,rfl⟩:=a;rename_i xs;refine ⟨l,fun i x k=>?_,?_⟩
    · have:=m i (x.map .d) (by simp [k]);simpa using this
    · rcases h with ⟨g,f⟩ | ⟨b,o,arr,ty,g,f,r⟩
      · exact .inl ⟨by simpa using g,f⟩
      · refine .inr ⟨b,o,arr,ty,g,f,fun i x j d k hd=>?_⟩;obtain ⟨q,c,p,s⟩:=r i (x.map .d) j (.d d) (by simp [k]) (by simp [hd]);refine ⟨q,c,p,?_⟩
        cases s with | d h=>exact h
  · obtain ⟨rfl,rfl⟩:=a;exact ⟨l,m,h⟩
theorem RowV.set {arr k : Array Value} {o es e j : Nat} {xs : List (List V)} {cs ys : List V} (h : RowV w Z inj nx arr o es xs) (y : ∀ (i : Nat) (x : List V),xs[i]? = some x→x.length = es) (p : xs[e]? = some cs) (t : LRel w Z inj nx ys k) (u : ys.all Ko = true)
    (z : j + ys.length≤cs.length) (l : o + (e * es + j) + k.size≤arr.size) : RowV w Z inj nx (splice arr.toList (o + (e * es + j)) k.toList).toArray o es (xs.set e (splice cs j ys)):=by
  have ab : k.toList.length = ys.length:=by have:=t.1;simp;omega
  have b : o + (e * es + j) + k.toList.length≤arr.toList.length:=by simpa using l
  have aa:=y e cs p;intro i x a d g hd;rw [List.getElem?_toArray,U4 _ _ _ _ b];rw [List.getElem?_set] at g;by_cases f : e = i
  · subst f;rw [qq rfl,qq (Kg p)] at g;simp at g;subst g;rw [U4 _ _ _ _ z] at hd;by_cases m : j≤a∧a < j + ys.length
    · rw [qq m] at hd;obtain ⟨c,r⟩:=Yd (xs:=k) (i:=a - j) (by have:=t.1;omega);rw [qq q6,show o + (e * es + a) - (o + (e * es + j)) = a - j by omega];exact ⟨List.all_eq_true.1 u _ (List.mem_of_getElem? hd),c,by simpa using r,t.2 _ _ _ hd r⟩
    · rw [qp m] at hd;rw [qp q6];obtain ⟨s,c,v,q⟩:=h e cs a d p hd;exact ⟨s,c,by simpa using v,q⟩
  · rw [qp f] at g;obtain ⟨s,c,v,q⟩:=h i x a d g hd;refine ⟨s,c,?_,q⟩;have n : a < es:=by have:=Kg hd;have:=y i x g;omega
    rw [qp ?_]
    · simpa using v
    · intro r;exact f ((qii (i:=e) n).1 q6).symm
end
section
variable {w : World} {Z : Nat→Prop} {inj : Inj} {st : AS} {a : Act} {Ds : List Nat}
theorem q11z {t : TypeId} {a : TypeInfo} {x : Value} {b o : Nat} {arr : Array Value} {ty : TypeId} (hi : P.info? t = some a) (hs : x.cells.size = a.size) (f : ∀ c∈x.cells.toList,c.oneCell' = true)
    (hb : w.heap[b]? = some (.cells arr ty (0,0))) (d : o + x.cells.size≤arr.size) :
    (Instr.storeAt t (.pointer (some ⟨b,o,none⟩)) x).run P w = .ok () (w.setRow b (splice arr.toList o x.cells.toList).toArray):=by
  have:=run_storeCells_at P b o ty x.cells.toList 0 arr w hb (by simpa using d) f;simp only [Nat.add_zero] at this;simp only [Instr.storeAt,Instr.sureAddr,storeVar,Sem.run_bind,Sem.run_pure,Result.andThen_ok,Zg hi,Sem.run_ite];rw [qp q6];exact this
theorem qug {t : TypeId} {i : TI} {p x : Operand} {pv v : V} {st1 : AS} (h : RelS w Z inj st a Ds) (ht : tiOf P t = some i) (hp : st.ev p = some pv) (hx : st.ev x = some v) (hs : Jj st i pv v = some st1) :
    Km st st1 .dead w Z inj ((do Instr.storeAt t (a.eval p) (a.eval x);pure .skip : Sem Next).run P w):=by
  obtain ⟨av,d,z,k⟩:=Yq ht;have ai:=Kb h hp;have aj:=Kb h hx;generalize a.eval p = vp at ai ⊢;generalize a.eval x = vx at aj ⊢;cases pv <;> simp only [Jj,reduceCtorEq] at hs
  rename_i n k0 e j;split at hs <;> try simp at hs
  rename_i r
  have ax : (cellsOf v).length = i.size:=by
    apply Classical.byContradiction;intro hc;exact r (.inl hc)
  have ah : (cellsOf v).all Ko = true:=by
    cases hc : (cellsOf v).all Ko with
    | true=>rfl
    | false=>exact absurd (.inr hc) r
  cases ai with | @ref _ _ _ _ b o hn hi=>
  have key : ∀ (b0 : Blk) (es : Nat) (xs : List (List V)) (cs : List V) (b1 : Blk),st.blk n = some b0→rowsOf b0 = some (es,xs)→es = k0→xs[e]? = some cs→j + i.size≤cs.length→rowsOf b1 = some (es,xs.set e (splice cs j (cellsOf v)))→st1 = st.setBlk n b1→
      Km st st1 .dead w Z inj ((do Instr.storeAt t (.pointer (some ⟨b,o + (e * k0 + j),none⟩)) vx;pure .skip : Sem Next).run P w):=by
    rintro b0 es xs cs b1 s aq rfl g f al rfl
    obtain ⟨g1,g2,g3⟩:=q6p (h.heap.blk n b0 s).2 aq
    rcases g3 with ⟨g3,_⟩ | ⟨b',o',arr,ty,g3,g4,g5⟩
    · subst g3;simp at g
    · rw [hi] at g3;cases g3
      obtain ⟨c1,c2,c3⟩:=qc0 aj ah
      have l : live b0 = true:=by cases b0 <;> simp_all [rowsOf,live]
      have an:=g2 e cs g
      have be : 0 < es:=by omega
      have ar : o + (e * es + (es - 1)) < arr.size:=by
        obtain ⟨d0,au⟩:=Zq (xs:=cs) (i:=es - 1) q6;obtain ⟨_,c,hc,_⟩:=g5 e cs (es - 1) d0 g au;exact Zj hc
      have m : o + (e * es + j) + vx.cells.size≤arr.size:=by omega
      have ae:=q11z (P:=P) (w:=w) k.inf (x:=vx) (by rw [k.size];omega) c3 g4 m
      have aa : (splice arr.toList (o + (e * es + j)) vx.cells.toList).toArray.size = arr.size:=by
        simp only [List.size_toArray];rw [q23 _ _ _ (by simpa using m)];simp
      have hz : ∀ b1,Z b1→(w.setRow b (splice arr.toList (o + (e * es + j)) vx.cells.toList).toArray).heap[b1]? = w.heap[b1]?:=fun b1 ao=>
        setRow_other w b b1 _ (fun e=>h.heap.out n b0 _ s l hi (by rw [← e];exact ao))
      have am:=q2o w b arr _ ty (0,0) g4 aa
      refine ⟨undef,_,inj,.inr ⟨by simp [ae],rfl⟩,.dead _,?_,Ext.set h.heap s l hi g4 aa,rfl,Nat.le_refl _⟩
      refine h.heap.set s l hi g4 aa (q6o al g1 ?_ (.inr ⟨b,o,_,ty,hi,setRow_heap w b _ _ _ _ g4,?_⟩))
      · intro i' x' q
        rw [List.getElem?_set] at q
        by_cases af : e = i'
        · rw [qq af,qq (by have:=Kg g;omega)] at q
          simp at q;rw [← q,q23 _ _ _ q6];exact an
        · rw [qp af] at q;exact g2 _ _ q
      · exact (g5.set g2 g ⟨c1,c2⟩ ah q6 m).mono fun v x hr=>hr.mono hz (fun _ h=>h) am (fun _ _=>rfl) (Nat.le_refl _)
  cases hb : st.blk n with
  | none=>simp [hb] at hs
  | some blk=>
    cases blk with
    | dead=>simp [hb] at hs
    | loop=>simp [hb] at hs
    | mp=>simp [hb] at hs
    | dat es xs=>
      simp only [hb] at hs;split at hs <;> try simp at hs
      rename_i cs u y;have u:=Nat.eq_of_beq_eq_true u;have g : (xs.map (·.map V.d))[e]? = some (cs.map V.d):=by simp [y]
      split at hs
      · rename_i ds ak;simp at hs;obtain ⟨f,hs⟩:=hs;refine key _ _ _ _ _ hb rfl u.symm g (by simpa using f) ?_ hs.symm;simp only [rowsOf,Option.some.injEq,Prod.mk.injEq,true_and];rw [q52 ak];simp [splice,List.map_set,List.map_take,List.map_drop]
      · simp at hs;obtain ⟨f,hs⟩:=hs;exact key _ _ _ _ _ hb rfl u.symm g (by simpa using f) rfl hs.symm
    | cel es xs=>
      simp only [hb] at hs;split at hs <;> try simp at hs
      rename_i cs u y;have u:=Nat.eq_of_beq_eq_true u;obtain ⟨f,hs⟩:=hs;exact key _ _ _ _ _ hb rfl u.symm y f rfl hs.symm
end
end Go.Am
namespace Go.Am
open Go
variable {P : Program} {T : Tab}
section
variable {w : World} {Z : Nat→Prop} {inj : Inj} {nx : Nat}
def Jp (w : World) (ad : Option Addr) (L : List Value) (ys : List (List V)) : Prop:=match ad with
  | some p=>∀ (k : Nat) (u : Value),L[k]? = some u→w.cell? (p.add k) = some u
  | none=>ys = []
theorem qh0 {b o es : Nat} {xs : List (List V)} (t : es≠0) (q : ∀ (i : Nat) (x : List V),xs[i]? = some x→x.length = es)
    (h : ∀ (i : Nat) (x : List V) (j : Nat) (d : V),xs[i]? = some x→x[j]? = some d→Ko d = true∧∃ c,w.cell? ⟨b,o + (i * es + j),none⟩ = some c∧RelV w Z inj nx d c) :
    ∃ L : List Value,L.length = xs.length * es∧(∀ (k : Nat) (u : Value),L[k]? = some u→w.cell? ⟨b,o + k,none⟩ = some u)∧ERel w Z inj nx es xs L.toArray:=by
  have g : ∀ k,k < xs.length * es→∃ i x j d c,xs[i]? = some x∧x[j]? = some d∧k = i * es + j∧w.cell? ⟨b,o + k,none⟩ = some c∧RelV w Z inj nx d c:=by
    intro k a;have m : k / es < xs.length:=Nat.div_lt_of_lt_mul (by rwa [Nat.mul_comm]);have p : k % es < es:=Nat.mod_lt _ q6;obtain ⟨x,f⟩:=Zq m;obtain ⟨d,hd⟩:=Zq (xs:=x) (i:=k % es) (by rw [q _ _ f];exact p);obtain ⟨_,c,l,r⟩:=h _ _ _ _ f hd;have a : k = k / es * es + k % es:=by rw [Nat.mul_comm];exact (Nat.div_add_mod k es).symm
    exact ⟨_,_,_,_,c,f,hd,a,by rw [a];exact l,r⟩
  refine ⟨(List.range (xs.length * es)).map fun k=>(w.cell? ⟨b,o + k,none⟩).getD undef,qf,?_,?_⟩
  · intro k u n;have a : k < xs.length * es:=by have:=Kg n;simpa using this
    obtain ⟨_,_,_,_,c,_,_,_,l,_⟩:=g k a;simp [a,l] at n;rw [l,n]
  · refine ⟨qf,q,fun i x j d f hd=>?_⟩;obtain ⟨m,c,p,s⟩:=h i x j d f hd;have a:=q3f (Kg f) (show j < es by have:=Kg hd;have:=q i x f;omega);exact ⟨m,c,by simp [a,p],s⟩
theorem ERel.append {es : Nat} {xs ys : List (List V)} {A B : Array Value} (h : ERel w Z inj nx es xs A) (k : ERel w Z inj nx es ys B) : ERel w Z inj nx es (xs ++ ys) (A ++ B):=by
  obtain ⟨l,n,o⟩:=h;obtain ⟨b1,m,p⟩:=k;refine ⟨by simp [l,b1,Nat.add_mul],?_,?_⟩
  · intro i x a;rw [List.getElem?_append] at a;split at a
    · exact n _ _ a
    · exact m _ _ a
  · intro i x j d a hd;rw [List.getElem?_append] at a;split at a
    · obtain ⟨g,c,b,f⟩:=o i x j d a hd;exact ⟨g,c,by rw [Array.getElem?_append_left (Zj b)];exact b,f⟩
    · rename_i hi;obtain ⟨g,c,b,f⟩:=p _ x j d a hd;refine ⟨g,c,?_,f⟩
      have e : i * es + j = A.size + ((i - xs.length) * es + j):=by
        rw [l,← Nat.add_assoc,← Nat.add_mul];congr 2;omega
      rw [e,Array.getElem?_append_right q6,show A.size + ((i - xs.length) * es + j) - A.size = (i - xs.length) * es + j by omega];exact b
theorem ERel.row {es : Nat} {xs : List (List V)} {A B : Array Value} (h : ERel w Z inj nx es xs A) : RowV w Z inj nx (A ++ B) 0 es xs:=by
  intro i x j d b hd;obtain ⟨g,c,a,f⟩:=h.2.2 i x j d b hd;exact ⟨g,c,by rw [Nat.zero_add,Array.getElem?_append_left (Zj a)];exact a,f⟩
theorem ERel.one {es : Nat} {xs : List (List V)} {L : List Value} (o : es≠0) (h : ERel w Z inj nx es xs L.toArray) : ∀ u∈L,u.oneCell' = true:=by
  intro u n;obtain ⟨k,f⟩:=List.mem_iff_getElem?.1 n;have m:=Kg f;have g : L.length = xs.length * es:=by simpa using h.1
  have l : k / es < xs.length:=Nat.div_lt_of_lt_mul (by rw [Nat.mul_comm];omega);obtain ⟨x,b⟩:=Zq l;obtain ⟨d,hd⟩:=Zq (xs:=x) (i:=k % es) (by rw [h.2.1 _ _ b];exact Nat.mod_lt _ q6);obtain ⟨p,c,a,j⟩:=h.2.2 _ _ _ _ b hd;have e : k / es * es + k % es = k:=by rw [Nat.mul_comm];exact Nat.div_add_mod k es
  rw [e] at a;simp [f] at a;subst a;exact qgj j p
theorem ERel.mono {w' : World} {inj' : Inj} {nx' es : Nat} {xs : List (List V)} {A : Array Value} (h : ERel w Z inj nx es xs A) (a : ∀ v x,RelV w Z inj nx v x→RelV w' Z inj' nx' v x) : ERel w' Z inj' nx' es xs A:=
  ⟨h.1,h.2.1,fun i x j d b hd=>let ⟨h1,c,h2,h3⟩:=h.2.2 i x j d b hd;⟨h1,c,h2,a _ _ h3⟩⟩
theorem ERel.nil {es : Nat} : ERel w Z inj nx es [] #[]:=⟨qf,qf,qf⟩
theorem RowV.cells {arr : Array Value} {ty : TypeId} {b o es off len : Nat} {xs : List (List V)} (h : RowV w Z inj nx arr o es xs) (hb : w.heap[b]? = some (.cells arr ty (0,0))) :
    ∀ (i : Nat) (x : List V) (j : Nat) (d : V),((xs.drop off).take len)[i]? = some x→x[j]? = some d→Ko d = true∧∃ c,w.cell? ⟨b,o + off * es + (i * es + j),none⟩ = some c∧RelV w Z inj nx d c:=by
  intro i x j d a hd;rw [List.getElem?_take] at a;split at a
  · rw [List.getElem?_drop] at a;obtain ⟨g,c,k,f⟩:=h _ x j d a hd;refine ⟨g,c,?_,f⟩;simp only [World.cell?,hb];rw [← k];simp only [Option.isSome_none,Bool.false_eq_true,if_false];rw [Nat.add_mul];congr 1;omega
  · simp at a
theorem qhh {es off len : Nat} {xs : List (List V)} (b : ∀ (i : Nat) (x : List V),xs[i]? = some x→x.length = es) : ∀ (i : Nat) (x : List V),((xs.drop off).take len)[i]? = some x→x.length = es:=by
  intro i x a;rw [List.getElem?_take] at a;split at a
  · rw [List.getElem?_drop] at a;exact b _ _ a
  · simp at a
end
section
variable {w : World} {Z : Nat→Prop} {inj : Inj} {st : AS} {a : Act} {Ds : List Nat}
theorem qf3 {x : V} {ys : List (List DV)} (h : Yx st x = some ys) : Zc st x = some (ys.map (·.map .d)):=by
  unfold Yx at h;split at h
  · simp at h;subst h;rfl
  · simp at h;subst h;rfl
  · split at h <;> try simp at h
    rename_i hb;obtain ⟨a,rfl⟩:=h;simp [Zc,hb,a]
  · simp at h
theorem qc3 {x : V} {xv : Value} {es : Nat} {ys : List (List V)} (h : RelS w Z inj st a Ds) (l : RelV w Z inj st.nx x xv) (f : Zc st x = some ys) (hf : Zy es x = true) (s : es≠0) :
    ∃ (m : Option Addr) (cap : Nat) (L : List Value),xv = .slice m ys.length cap∧L.length = ys.length * es∧ERel w Z inj st.nx es ys L.toArray∧Jp w m L ys:=by
  unfold Zc at f;split at f
  · simp at f;subst f
    cases l with | d l=>
    cases l;exact ⟨none,0,[],rfl,qf,.nil,(rfl : Jp w none [] [])⟩
  · rename_i g xs;simp at f;subst f;have he:=Nat.eq_of_beq_eq_true hf;subst he
    cases l with | d l=>
    cases l with
    | slnil=>exact ⟨none,0,[],rfl,qf,.nil,(rfl : Jp w none [] [])⟩
    | slemp _ m=>exact ⟨some m,0,[],rfl,qf,.nil,fun k u q=>by simp at q⟩
    | @sl _ _ b o cap p h2 h3 h4 h5=>
      obtain ⟨L,l1,l2,l3⟩:=qh0 (w:=w) (Z:=Z) (inj:=inj) (nx:=st.nx) (b:=b) (o:=o) (xs:=xs.map (·.map V.d)) s
        (fun i x l=>by simp only [List.getElem?_map,Y7] at l;obtain ⟨y,hy,rfl⟩:=l;simpa using h3 i y hy)
        (fun i x j d l hd=>by
          simp only [List.getElem?_map,Y7] at l;obtain ⟨y,hy,rfl⟩:=l;simp only [List.getElem?_map,Y7] at hd;obtain ⟨d',r,rfl⟩:=hd;obtain ⟨g1,c,g2⟩:=h4 i y j d' hy r
          exact ⟨g1,c,g2,.d (h5 i y j d' c hy r g2)⟩)
      exact ⟨some ⟨b,o,none⟩,cap,L,qf,l1,l3,fun k u q=>by rw [Js];exact l2 k u q⟩
  · rename_i n g off len;have he:=Nat.eq_of_beq_eq_true hf;subst he
    have key : ∀ (b0 : Blk) (xs : List (List V)),st.blk n = some b0→rowsOf b0 = some (g,xs)→off + len≤xs.length→ys = (xs.drop off).take len→
        ∃ (m : Option Addr) (cap : Nat) (L : List Value),xv = .slice m ys.length cap∧L.length = ys.length * g∧ERel w Z inj st.nx g ys L.toArray∧Jp w m L ys:=by
      rintro b0 xs hb hr aq rfl
      have v : ((xs.drop off).take len).length = len:=by simp;omega
      obtain ⟨g1,g2,t⟩:=q6p (h.heap.blk n b0 hb).2 hr
      cases l with
      | hsnil=>
        have : (xs.drop off).take 0 = []:=by simp
        rw [this];exact ⟨none,0,[],rfl,qf,.nil,(rfl : Jp w none [] [])⟩
      | @hs _ _ _ _ cap m hn f _ hcap=>
        by_cases h0 : len = 0
        · subst h0;have : (xs.drop off).take 0 = []:=by simp
          rw [this];exact ⟨some m,cap,[],rfl,qf,.nil,fun k u q=>by simp at q⟩
        · obtain ⟨b,o,hi,rfl,ak⟩:=hcap q6;rcases t with ⟨t,z⟩ | ⟨b',o',arr,ty,t,z,g5⟩
          · rw [hi] at z;cases z
          · rw [hi] at t;cases t;obtain ⟨L,l1,l2,l3⟩:=qh0 (w:=w) (Z:=Z) (inj:=inj) (nx:=st.nx) (b:=b) (o:=o + off * g) (xs:=(xs.drop off).take len) s (qhh g2) (g5.cells z);exact ⟨some ⟨b,o + off * g,none⟩,cap,L,by rw [v],l1,l3,fun k u q=>by rw [Js];exact l2 k u q⟩
    split at f
    · rename_i k xs hb;split at f <;> try simp at f
      rename_i p;obtain ⟨p,rfl⟩:=p;subst f;refine key _ (xs.map (·.map V.d)) hb rfl (by simpa using p) qf
    · rename_i k xs hb;split at f <;> try simp at f
      rename_i p;obtain ⟨p,rfl⟩:=p;subst f;exact key _ xs hb rfl p rfl
    · simp at f
  · simp at f
theorem qb4 {es n : Nat} {tx g : TypeId} {b : Option Addr} {cap : Nat} {ys : List (List V)} {L : List Value} (d : es≠0) (f : P.underlying tx = some (.slice g)) (h : n = ys.length) (a : L.length = ys.length * es)
    (j : ERel w Z inj st.nx es ys L.toArray) (c : Jp w b L ys) : Src P es tx (.slice b ys.length cap) n L w:=by
  subst h;refine ⟨.inl ⟨g,f⟩,fun w'=>by simp [Builtin.lenOf],?_,?_,a,j.one d⟩
  · cases b with
    | none=>subst c;simp at a;subst a;simp [Builtin.firstCells]
    | some p=>
      have:=run_loadCells_list (P:=P) w p L c;rw [a] at this;simpa [Builtin.firstCells] using this
  · cases b with
    | none=>subst c;simp at a;subst a;simp [Builtin.firstCells]
    | some p=>
      have:=run_loadCells_list (P:=P) w.drew p L c;rw [a] at this;simpa [Builtin.firstCells] using this
theorem qbu {t tx ty e : TypeId} {i : TypeInfo} (d : P.underlying t = some (.slice e)) (hi : P.info? e = some i) {base : Option Addr} {sLen sCap : Nat} {x : Value} {n : Nat} {news : List Value} (hs : Src P i.size tx x n news w) (a : sLen + n≤sCap)
    {w' : World} (b : match base with | some p=>(storeCells (p.add (sLen * i.size)) news).run P w = .ok () w' | none=>w' = w) :
    (Builtin.append_ #[t,tx] ty #[.slice base sLen sCap,x]).run P w = .ok (.slice base (sLen + n) sCap) w':=by
  cases base with
  | none=>subst b;rcases hs.kind with ⟨f,c⟩ | c <;> simp [Builtin.append_,run_underlying d,run_underlying c,sizeOf,typeInfo,hi,hs.len,a,hs.cells]
  | some p=>rcases hs.kind with ⟨f,c⟩ | c <;> simp [Builtin.append_,run_underlying d,run_underlying c,sizeOf,typeInfo,hi,hs.len,a,hs.cells,b]
end
end Go.Am
namespace Go.Am
open Go
variable {P : Program} {T : Tab}
section
variable {w : World} {Z : Nat→Prop} {inj : Inj}
theorem RelH.newPh {hp : List (Nat × Blk)} {nx : Nat} (d : RelH w Z inj hp nx) (blk : Blk) (hb : RelB w Z (upd inj nx none) (nx + 1) nx blk) : RelH w Z (upd inj nx none) ((nx,blk)::hp) (nx + 1):=by
  refine ⟨?_,?_,?_,d.zs,d.zc⟩
  · intro n b h;rw [Kw] at h;by_cases a : nx = n
    · grind
    · simp only [a,if_false] at h;obtain ⟨g,j⟩:=d.blk n b h;exact ⟨q6,j.mono (fun _ _=>rfl) (fun _ h=>h) (Sem.keepBig_of_same rfl) (fun m f=>Yf _ _ f) q6 g (fun _ _ _=>rfl)⟩
  · intro n m b c p q a f r l hp k o;rw [Kw] at a f;by_cases g : nx = n
    · subst g;rw [Y6] at hp;cases hp
    · by_cases j : nx = m
      · subst j;rw [Y6] at k;cases k
      · simp only [g,j,if_false] at a f;rw [Yf _ _ (d.blk n b a).1] at hp;rw [Yf _ _ (d.blk m c f).1] at k;exact d.sep n m b c p q a f r l hp k o
  · intro n b p h s hp;rw [Kw] at h;by_cases a : nx = n
    · subst a;rw [Y6] at hp;cases hp
    · simp only [a,if_false] at h;rw [Yf _ _ (d.blk n b h).1] at hp;exact d.out n b p h s hp
theorem Ext.newPh {hp : List (Nat × Blk)} {nx : Nat} (l : RelH w Z inj hp nx) (blk : Blk) : Ext w Z inj hp w Z (upd inj nx none) ((nx,blk)::hp) nx:=by
  refine ⟨Nat.le_refl _,fun _ _ _=>rfl,?_,fun _ c e f h=>⟨c,e,f,h,rfl⟩,fun _ r h=>⟨r,h,rfl⟩,fun _ h=>h,fun _ h=>.inl h,fun n g=>Yf _ _ g,rfl,rfl,rfl,fun _=>rfl⟩;rintro b ⟨n,a,d,k,m,j⟩;rw [Kw] at k;by_cases g : nx = n
  · subst g;rw [Y6] at j;cases j
  · simp only [g,if_false] at k;rw [Yf _ _ (l.blk n a k).1] at j;exact .inl ⟨n,a,d,k,m,j⟩
theorem RelH.move {hp : List (Nat × Blk)} {nx n : Nat} (d : RelH w Z inj hp nx) {x blk : Blk} (z : find hp n = some x) (o : live x = true) {g off y : Nat} (hi : inj n = some (g,off)) {old cs : Array Value} {t : TypeId} {fr : Nat × Nat}
    (hg : w.heap[g]? = some (.cells old t fr)) (hs : cs.size = old.size) (hb : RelB (w.setRow g cs) Z (upd inj nx (some (g,y))) (nx + 1) nx blk) :
    RelH (w.setRow g cs) Z (upd inj nx (some (g,y))) ((nx,blk)::repl hp n .dead) (nx + 1):=by
  have af : ∀ b,Z b→b≠g:=fun b j e=>d.out n x _ z o hi (by rw [← e];exact j)
  have key : ∀ m b,find (repl hp n .dead) m = some b→live b = true→find hp m = some b∧n≠m:=by
    intro m b h hl;rw [Z6] at h;by_cases f : n = m
    · subst f;simp [z] at h;subst h;simp [live] at hl
    grind
  have r : ∀ m b,find (repl hp n .dead) m = some b→m < nx:=by
    intro m b h;rw [Z6] at h;by_cases f : n = m
    · subst f;exact (d.blk n x z).1
    · simp only [f,if_false] at h;exact (d.blk m b h).1
  refine ⟨?_,?_,?_,fun b j=>by simpa using d.zs b j,fun b j=>by rw [setRow_other w g b cs (af b j)];exact d.zc b j⟩
  · intro m b h;rw [Kw] at h;by_cases f : nx = m
    · grind
    · simp only [f,if_false] at h;refine ⟨by have:=r m b h;omega,?_⟩;by_cases hl : live b = true
      · obtain ⟨u,v⟩:=key m b h hl;obtain ⟨h3,h4⟩:=d.blk m b u;refine h4.mono (fun b j=>setRow_other w g b cs (af b j)) (fun _ h=>h) (q2o w g old cs t fr hg hs) (fun _ hk=>Yf _ _ hk) q6 h3 ?_;intro p hp' ai;exact setRow_other w g p.1 cs (fun e=>d.sep n m x b _ _ z u o hl hi hp' v e.symm)
      · have : b = .dead:=by cases b <;> simp_all [live]
        subst this;trivial
  · intro m k b c p q u v aa s l a ad;rw [Kw] at u v;by_cases f : nx = m
    · subst f;rw [Y6] at l;cases l;simp only [ad,if_false] at v;obtain ⟨h3,h4⟩:=key k c v s;rw [Yf _ _ (r k c v)] at a;exact fun e=>d.sep n k x c (g,off) q z h3 o s hi a h4 e
    · simp only [f,if_false] at u;obtain ⟨h3,h4⟩:=key m b u aa;rw [Yf _ _ (r m b u)] at l;by_cases hk : nx = k
      · subst hk;rw [Y6] at a;cases a;exact fun e=>d.sep n m x b (g,off) p z h3 o aa hi l h4 e.symm
      · simp only [hk,if_false] at v;obtain ⟨h5,h6⟩:=key k c v s;rw [Yf _ _ (r k c v)] at a;exact d.sep m k b c p q h3 h5 aa s l a ad
  · intro m b p h hl hp' j;rw [Kw] at h;by_cases f : nx = m
    · subst f;rw [Y6] at hp';cases hp';exact d.out n x _ z o hi j
    · simp only [f,if_false] at h;obtain ⟨u,_⟩:=key m b h hl;rw [Yf _ _ (r m b h)] at hp';exact d.out m b p u hl hp' j
theorem Ext.move {hp : List (Nat × Blk)} {nx n : Nat} (u : RelH w Z inj hp nx) {l blk : Blk} (p : find hp n = some l) (d : live l = true) {g off f : Nat} (hi : inj n = some (g,off)) {old cs : Array Value} {t : TypeId} {o : Nat × Nat}
    (q : w.heap[g]? = some (.cells old t o)) (hs : cs.size = old.size) : Ext w Z inj hp (w.setRow g cs) Z (upd inj nx (some (g,f))) ((nx,blk)::repl hp n .dead) nx:=by
  refine ⟨qf,?_,?_,q2o w g old cs t o q hs,qko w g old cs t o q,fun _ h=>h,fun _ h=>.inl h,fun m k=>Yf _ _ k,rfl,rfl,rfl,qk0 w g old cs t o q⟩
  · intro b _ hb;exact setRow_other w g b cs (fun e=>hb (by rw [e];exact ⟨n,l,off,p,d,hi⟩))
  · rintro b ⟨m,c,v,a,s,j⟩;rw [Kw] at a;by_cases k : nx = m
    · subst k;rw [Y6] at j;cases j;exact .inl ⟨n,l,off,p,d,hi⟩
    · simp only [k,if_false] at a;rw [Z6] at a;by_cases r : n = m
      · subst r;simp [p] at a;subst a;simp [live] at s
      · simp only [r,if_false] at a;rw [Yf _ _ (u.blk m c a).1] at j;exact .inl ⟨m,c,v,a,s,j⟩
end
section
variable {w : World} {Z : Nat→Prop} {inj : Inj} {st : AS} {a : Act} {Ds : List Nat}
theorem qrr {a cap b : Nat} (c : cap < a) (d : a * (b * 4)≤room) : Builtin.nextslicecap a cap * b≤281474976710656:=by
  have f:=Nat.mul_le_mul_right b (Room.nextslicecap_le' c);have g : 2 * a * b≤a * (b * 4):=by rw [Nat.mul_comm b 4,← Nat.mul_assoc];exact Nat.mul_le_mul_right b q6
  unfold room at d;omega
theorem qt2 {a b : Nat} (hb : b≠0) (c : a * (b * 4)≤room) : a≤4294967296:=by
  have : a * 1≤a * (b * 4):=Nat.mul_le_mul_left _ q6;unfold room at c;omega
theorem qeh {t u ty : TypeId} {i : TI} {e e' : TypeId} {z : TypeInfo} {m : Value} (_h : RelS w Z inj st a Ds) (hu : P.underlying t = some (.slice e)) (af : P.underlying u = some (.slice e')) (g1 : P.info? e = some z) (g3 : z.zero = some m)
    (g6 : z.size = i.esize) (g7 : i.esize≠0) (g8 : z.bytes = i.ebytes) (g9 : i.ebytes≠0) (gz : m.cells.size = i.esize) {hp1 : List (Nat × Blk)} (hh : RelH w Z inj hp1 st.nx) (s : Ext w Z inj st.hp w Z inj hp1 st.nx)
    {base ad : Option Addr} {cap cap' : Nat} {olds ys : List (List V)} {L0 l : List Value} (q : L0.length = olds.length * i.esize) (y : ERel w Z inj st.nx i.esize olds L0.toArray) (ag : Jp w base L0 olds)
    (o : l.length = ys.length * i.esize) (p : ERel w Z inj st.nx i.esize ys l.toArray) (aa : Jp w ad l ys) (hg : cap < olds.length + ys.length) (d : (olds.length + ys.length) * (i.ebytes * 4)≤room)
    {b1 : Blk} (ae : rowsOf b1 = some (i.esize,olds ++ ys)) :
    ∃ x w' inj',(Builtin.append_ #[t,u] ty #[.slice base olds.length cap,.slice ad ys.length cap']).run P w = .ok x w'∧RelV w' Z inj' (st.nx + 1) (.hs st.nx i.esize 0 (olds.length + ys.length)) x∧RelH w' Z inj' ((st.nx,b1)::hp1) (st.nx + 1)∧
      Ext w Z inj st.hp w' Z inj' ((st.nx,b1)::hp1) st.nx:=by
  have k:=qb4 (P:=P) (tx:=t) (cap:=cap) g7 hu rfl q y ag;have g:=qb4 (P:=P) (tx:=u) (cap:=cap') g7 af rfl o p aa;rw [← g6] at k g;have au:=qt2 g9 d;have j:=qrr hg d;rw [← g8] at j;have c:=run_append_grow_src (P:=P) w t u ty e z m hu g1 g3 base olds.length cap L0 k.cellsD (.slice ad ys.length cap') ys.length l g hg q6 j;have n:=grownCap_ge w (olds.length + ys.length) cap e;generalize grownCap w (olds.length + ys.length) cap e = C at c n;generalize hA : (L0 ++ l).toArray ++ Builtin.zeroCells m.cells (C - (olds.length + ys.length)) = A at c;have f : RelH w.drew Z inj hp1 st.nx:=hh.same rfl;have r : ERel w Z inj st.nx i.esize (olds ++ ys) (L0.toArray ++ l.toArray):=y.append p
  have mono : ∀ v x,RelV w Z inj st.nx v x→RelV (w.drew.alloc (.cells A e)) Z (upd inj st.nx (some (w.heap.size,0))) (st.nx + 1) v x:=fun v x hv=>
    hv.mono (fun b hz=>Zw w.drew _ (hh.zs b hz)) (fun _ h=>h) (q2n w.drew _) (fun _ hm=>Yf _ _ hm) q6
  refine ⟨_,_,upd inj st.nx (some (w.heap.size,0)),c,?_,?_,?_⟩
  · refine .hs q6 n rfl fun _=>⟨w.heap.size,0,Y6 _ _ _,qf,A,e,(0,0),Jt w.drew _,?_⟩
    have h1 : A.size = L0.length + l.length + (C - (olds.length + ys.length)) * i.esize:=by
      rw [← hA];simp [Builtin.zeroCells,gz]
    rw [h1,q,o,← Nat.add_mul,← Nat.add_mul];grind
  · refine f.new (.cells A e) b1 0 ?_;refine q6o ae g7 r.2.1 (.inr ⟨w.heap.size,0,A,e,Y6 _ _ _,Jt w.drew _,?_⟩);have h9:=(r.row (B:=Builtin.zeroCells m.cells (C - (olds.length + ys.length)))).mono mono;simp_all
  · refine s.trans ?_ (Nat.le_refl _);have e1 : Ext w Z inj hp1 w.drew Z inj hp1 st.nx:=Ext.same rfl rfl rfl rfl;exact e1.trans (Ext.new f (.cells A e) b1 0) (Nat.le_refl _)
theorem qoy {t u ty : TypeId} {i : TI} {e e' : TypeId} {ie : TypeInfo} (h : RelS w Z inj st a Ds) (hu : P.underlying t = some (.slice e)) (av : P.underlying u = some (.slice e')) (g1 : P.info? e = some ie)
    (g6 : ie.size = i.esize) (g7 : i.esize≠0) {n off len cap cap' b o : Nat} {b0 b1 : Blk} {xs ys : List (List V)} (s : st.blk n = some b0) (bb : rowsOf b0 = some (i.esize,xs)) (bq : off + len≤xs.length)
    (hi : inj n = some (b,o)) (ah : Big w b (o + (off + cap) * i.esize)) (_hlc : len≤cap)
    {ad : Option Addr} {g : List Value} (aj : g.length = ys.length * i.esize) (p : ERel w Z inj st.nx i.esize ys g.toArray) (aw : Jp w ad g ys) (hg : len + ys.length≤cap)
    (ap : rowsOf b1 = some (i.esize,(xs.drop off).take len ++ ys)) :
    ∃ x w' inj',(Builtin.append_ #[t,u] ty #[.slice (some ⟨b,o + off * i.esize,none⟩) len cap,.slice ad ys.length cap']).run P w = .ok x w'∧RelV w' Z inj' (st.nx + 1) (.hs st.nx i.esize 0 (len + ys.length)) x∧
      RelH w' Z inj' ((st.nx,b1)::repl st.hp n .dead) (st.nx + 1)∧Ext w Z inj st.hp w' Z inj' ((st.nx,b1)::repl st.hp n .dead) st.nx:=by
  have ai:=qb4 (P:=P) (tx:=u) (cap:=cap') g7 av rfl aj p aw;obtain ⟨q1,q2,q3⟩:=q6p (h.heap.blk n b0 s).2 bb;rcases q3 with ⟨_,z⟩ | ⟨b',o',arr,aa,q3,z,q5⟩
  · grind
  rw [hi] at q3;cases q3;have k : live b0 = true:=by cases b0 <;> simp_all [rowsOf,live]
  have ax : o + (off + cap) * i.esize≤arr.size:=by
    obtain ⟨c,e2,f,k1,k2⟩:=ah;grind
  have ay : g.length = ys.length * i.esize:=aj;have ak : (len + ys.length) * i.esize≤cap * i.esize:=Nat.mul_le_mul_right _ hg;rw [Nat.add_mul] at ak ax;have m : o + off * i.esize + len * i.esize + g.length≤arr.size:=by omega
  have ab:=run_storeCells_at P b (o + off * i.esize + len * i.esize) aa g 0 arr w z (by simpa using m) (p.one g7);simp only [Nat.add_zero] at ab;have aq : (arr.toList.take (o + off * i.esize + len * i.esize) ++ g ++ arr.toList.drop (o + off * i.esize + len * i.esize + g.length)).toArray = (splice arr.toList (o + off * i.esize + len * i.esize) g).toArray:=rfl;rw [aq] at ab
  have ag:=qbu (P:=P) (w:=w) (ty:=ty) hu g1 (base:=some ⟨b,o + off * i.esize,none⟩) (sLen:=len) (sCap:=cap) (x:=.slice ad ys.length cap') (n:=ys.length) (news:=g) (by rw [g6];exact ai) hg
    (w':=w.setRow b (splice arr.toList (o + off * i.esize + len * i.esize) g).toArray) (by show (storeCells ((⟨b,o + off * i.esize,none⟩ : Addr).add (len * ie.size)) g).run P w = _;rw [Js,g6];exact ab)
  have r : o + off * i.esize + len * i.esize + g.length≤arr.toList.length:=by simpa using m
  have q : (splice arr.toList (o + off * i.esize + len * i.esize) g).toArray.size = arr.size:=by simp [q23 _ _ _ r]
  have hz : ∀ b1,Z b1→(w.setRow b (splice arr.toList (o + off * i.esize + len * i.esize) g).toArray).heap[b1]? = w.heap[b1]?:=fun b1 az=>
    setRow_other w b b1 _ (fun e=>h.heap.out n b0 _ s k hi (by rw [← e];exact az))
  have au:=q2o w b arr _ aa (0,0) z q
  have mono : ∀ v x,RelV w Z inj st.nx v x→RelV (w.setRow b (splice arr.toList (o + off * i.esize + len * i.esize) g).toArray) Z (upd inj st.nx (some (b,o + off * i.esize))) (st.nx + 1) v x:=fun v x hv=>
    hv.mono hz (fun _ h=>h) au (fun _ hm=>Yf _ _ hm) q6
  have y : ((xs.drop off).take len).length = len:=by simp;omega
  refine ⟨_,_,upd inj st.nx (some (b,o + off * i.esize)),ag,?_,?_,Ext.move h.heap s k hi z q⟩
  · refine .hs q6 hg rfl fun _=>⟨b,o + off * i.esize,Y6 _ _ _,qf,_,_,_,setRow_heap w b _ _ _ _ z,?_⟩
    grind
  · refine h.heap.move s k hi z q (q6o ap g7 ?_ (.inr ⟨b,o + off * i.esize,_,aa,Y6 _ _ _,setRow_heap w b _ _ _ _ z,?_⟩))
    · intro j x l;rw [List.getElem?_append] at l;split at l
      · grind
      · exact p.2.1 _ _ l
    · intro j x j' d l hd;rw [List.getElem?_toArray,U4 _ _ _ _ r];rw [List.getElem?_append] at l;split at l
      · rename_i hj;rw [y] at hj;have ba:=qhh q2 j x l;have ac : j' < i.esize:=by have:=Kg hd;omega
        have hc:=q3f hj ac;rw [qp q6];rw [List.getElem?_take] at l;rw [qq hj,List.getElem?_drop] at l;obtain ⟨k1,c,k2,k3⟩:=q5 _ x j' d l hd;grind
      · rename_i hj;rw [y] at hj l;obtain ⟨k1,c,k2,k3⟩:=p.2.2 _ x j' d l hd;have bc:=Kg l;have ba:=p.2.1 _ x l;have ac : j' < i.esize:=by have:=Kg hd;omega
        have hc:=q3f bc ac;have he : j * i.esize = len * i.esize + (j - len) * i.esize:=by rw [← Nat.add_mul];congr 1;omega
        grind
theorem qtu {t u ty : TypeId} {i j : TI} {sv xv v : V} {vs vx : Value} {st1 : AS} (h : RelS w Z inj st a Ds) (ht : tiOf P t = some i) (hu : tiOf P u = some j) (bv : i.kind = .slice) (bt : j.kind = .slice) (hf : Zy i.esize xv = true)
    (ak : RelV w Z inj st.nx sv vs) (aw : RelV w Z inj st.nx xv vx) (f : Z5 st i sv xv = some (v,st1)) :
    ∃ x w' inj',(Builtin.append_ #[t,u] ty #[vs,vx]).run P w = .ok x w'∧RelV w' Z inj' st1.nx v x∧RelH w' Z inj' st1.hp st1.nx∧Ext w Z inj st.hp w' Z inj' st1.hp st.nx∧st1.sl = st.sl∧st.nx≤st1.nx:=by
  obtain ⟨bx,d,z,k⟩:=Yq ht;obtain ⟨bm,d',z',k'⟩:=Yq hu;have hk:=k.kind;have ay:=k'.kind;unfold Zh at hk ay;simp only [bv,bt] at hk ay;obtain ⟨e,ie,de,ze,rfl,g1,g2,g3,g4,g5,g6,g7,g8,g9,_⟩:=hk;obtain ⟨e',_,_,_,rfl,_⟩:=ay;have gz : ze.cells.size = i.esize:=by have:=(q94 g4).1;simp at this;omega
  have s : ∀ ys b1,Zc st xv = some ys→vs = .slice none 0 0→rowsOf b1 = some (i.esize,ys)→ys.length * (i.ebytes * 4)≤room→ys.length≠0→
      ∃ x w' inj',(Builtin.append_ #[t,u] ty #[vs,vx]).run P w = .ok x w'∧RelV w' Z inj' (st.nx + 1) (.hs st.nx i.esize 0 ys.length) x∧RelH w' Z inj' ((st.nx,b1)::st.hp) (st.nx + 1)∧Ext w Z inj st.hp w' Z inj' ((st.nx,b1)::st.hp) st.nx:=by
    rintro ys b1 hc rfl hr c cm
    obtain ⟨ad,cap',L1,rfl,m,q,r⟩:=qc3 h aw hc hf g7
    have:=qeh (P:=P) (ty:=ty) h k.und k'.und g1 g3 g6 g7 g8 g9 gz h.heap Ext.refl (base:=none) (cap:=0) (olds:=[]) (L0:=[]) qf .nil (rfl : Jp w none [] []) (cap':=cap') m q r (by simp;omega) (by simpa using c) (b1:=b1) (by simpa using hr)
    simpa using this
  have ac : ∀ ys,Zc st xv = some ys→vs = .slice none 0 0→ys.length = 0→(Builtin.append_ #[t,u] ty #[vs,vx]).run P w = .ok (.slice none 0 0) w:=by
    rintro ys hc rfl h0;obtain ⟨ad,cap',L1,rfl,m,q,r⟩:=qc3 h aw hc hf g7;have ab:=qb4 (P:=P) (tx:=u) (cap:=cap') g7 k'.und rfl m q r;have:=qbu (P:=P) (w:=w) (ty:=ty) k.und g1 (base:=none) (sLen:=0) (sCap:=0) (by rw [g6];exact ab) q6 (w':=w) rfl;grind
  have l : ∀ n off len xs ys b0 b1,sv = .hs n i.esize off len→st.blk n = some b0→rowsOf b0 = some (i.esize,xs)→off + len≤xs.length→Zc st xv = some ys→rowsOf b1 = some (i.esize,(xs.drop off).take len ++ ys)→
      (len + ys.length) * (i.ebytes * 4)≤room→
      ∃ x w' inj',(Builtin.append_ #[t,u] ty #[vs,vx]).run P w = .ok x w'∧RelV w' Z inj' (st.nx + 1) (.hs st.nx i.esize 0 (len + ys.length)) x∧RelH w' Z inj' ((st.nx,b1)::repl st.hp n .dead) (st.nx + 1)∧
        Ext w Z inj st.hp w' Z inj' ((st.nx,b1)::repl st.hp n .dead) st.nx:=by
    rintro n off len xs ys b0 b1 rfl bc be bs hc ae c
    obtain ⟨ad,cap',L1,rfl,m,q,r⟩:=qc3 h aw hc hf g7
    have ab:=qb4 (P:=P) (tx:=u) (cap:=cap') g7 k'.und rfl m q r
    have ah : ((xs.drop off).take len).length = len:=by simp;omega
    obtain ⟨q1,q2,q3⟩:=q6p (h.heap.blk n b0 bc).2 be
    have p : RelH w Z inj (repl st.hp n .dead) st.nx:=h.heap.drop
    have y : Ext w Z inj st.hp w Z inj (repl st.hp n .dead) st.nx:=Ext.drop
    have ph : len = 0→ys.length = 0→RelH w Z (upd inj st.nx none) ((st.nx,b1)::repl st.hp n .dead) (st.nx + 1)∧Ext w Z inj st.hp w Z (upd inj st.nx none) ((st.nx,b1)::repl st.hp n .dead) st.nx:=by
      intro h1 h2;have ap : (xs.drop off).take len ++ ys = []:=by subst h1;simp [List.eq_nil_of_length_eq_zero h2]
      refine ⟨p.newPh b1 (q6o ae g7 (by rw [ap];simp) (.inl ⟨ap,Y6 _ _ _⟩)),y.trans (Ext.newPh p b1) (Nat.le_refl _)⟩
    cases ak with
    | hsnil hm=>
      by_cases h0 : ys.length = 0
      · obtain ⟨p1,p2⟩:=ph rfl h0;have:=qbu (P:=P) (w:=w) (ty:=ty) k.und g1 (base:=none) (sLen:=0) (sCap:=0) (by rw [g6];exact ab) q6 (w':=w) rfl;refine ⟨_,w,_,this,?_,p1,p2⟩;simp only [Nat.zero_add,h0];exact .hsnil q6
      · have:=qeh (P:=P) (ty:=ty) h k.und k'.und g1 g3 g6 g7 g8 g9 gz p y (base:=none) (cap:=0) (olds:=[]) (L0:=[]) qf .nil (rfl : Jp w none [] []) (cap':=cap') m q r (by simp;omega) (by simpa using c) (b1:=b1) (by simpa using ae);simpa using this
    | @hs _ _ _ _ cap adr hm hcl hsp hcap=>
      by_cases hg : len + ys.length≤cap
      · by_cases ba : cap = 0
        · obtain ⟨p1,p2⟩:=ph q6 q6;have hL : L1 = []:=List.eq_nil_of_length_eq_zero (by rw [m,show ys.length = 0 by omega];simp);have:=qbu (P:=P) (w:=w) (ty:=ty) k.und g1 (base:=some adr) (sLen:=len) (sCap:=cap) (by rw [g6];exact ab) hg (w':=w) (by subst hL;show (storeCells _ []).run P w = _;simp [storeCells]);exact ⟨_,w,_,this,.hs q6 hg hsp (fun h=>absurd ba h),p1,p2⟩
        · obtain ⟨b,o,hi,rfl,ao⟩:=hcap ba;exact qoy (P:=P) (ty:=ty) h k.und k'.und g1 g6 g7 bc be bs hi ao hcl (cap':=cap') m q r hg ae
      · have hold : ∃ L0 : List Value,L0.length = ((xs.drop off).take len).length * i.esize∧ERel w Z inj st.nx i.esize ((xs.drop off).take len) L0.toArray∧Jp w (some adr) L0 ((xs.drop off).take len):=by
          by_cases h0 : len = 0
          · subst h0;exact ⟨[],qf,by simpa using ERel.nil,fun k u hu=>by simp at hu⟩
          · obtain ⟨b,o,hi,rfl,ao⟩:=hcap q6;rcases q3 with ⟨_,q4⟩ | ⟨b',o',arr,cf,q3,q4,q5⟩
            · rw [hi] at q4;cases q4
            · rw [hi] at q3;cases q3;obtain ⟨L,l1,l2,l3⟩:=qh0 (w:=w) (Z:=Z) (inj:=inj) (nx:=st.nx) (b:=b) (o:=o + off * i.esize) (xs:=(xs.drop off).take len) g7 (qhh q2) (q5.cells q4);exact ⟨L,l1,l3,fun k u hu=>by rw [Js];exact l2 k u hu⟩
        obtain ⟨L0,a1,a2,a3⟩:=hold;have:=qeh (P:=P) (ty:=ty) h k.und k'.und g1 g3 g6 g7 g8 g9 gz p y (base:=some adr) (cap:=cap) a1 a2 a3 (cap':=cap') m q r (by rw [ah];omega) (by rw [ah];exact c) (b1:=b1) ae;rw [ah] at this;exact this
  cases sv <;> simp only [Z5,reduceCtorEq] at f
  case d x=>
    cases x <;> simp only [reduceCtorEq] at f
    cases ak with | d ak=>
    cases ak
    cases af : Yx st xv with
    | some ys=>
      simp only [af] at f;split at f <;> try simp at f
      rename_i c;have g:=qf3 af;by_cases h0 : ys = []
      · rw [qq h0] at f;simp at f;obtain ⟨rfl,rfl⟩:=f;exact ⟨_,w,inj,ac _ g rfl (by simpa using h0),.d .nilsl,h.heap,.refl,rfl,Nat.le_refl _⟩
      · rw [qp h0] at f;simp at f;obtain ⟨rfl,rfl⟩:=f;have:=s _ (.dat i.esize ys) g rfl rfl (by simpa using c) (by simpa using h0);obtain ⟨x,w',inj',h1,h2,h3,h4⟩:=this;exact ⟨x,w',inj',h1,by simpa [AS.new] using h2,h3,h4,rfl,by simp [AS.new]⟩
    | none=>
      simp only [af] at f
      cases g : Zc st xv with
      | none=>simp [g] at f
      | some ys=>
        simp only [g] at f;split at f <;> try simp at f
        rename_i c;by_cases h0 : ys = []
        · rw [qq h0] at f;simp at f;obtain ⟨rfl,rfl⟩:=f;exact ⟨_,w,inj,ac _ g rfl (by simpa using h0),.d .nilsl,h.heap,.refl,rfl,Nat.le_refl _⟩
        · rw [qp h0] at f;simp at f;obtain ⟨rfl,rfl⟩:=f;obtain ⟨x,w',inj',h1,h2,h3,h4⟩:=s _ (.cel i.esize ys) g rfl rfl c (by simpa using h0);exact ⟨x,w',inj',h1,by simpa [AS.new] using h2,h3,h4,rfl,by simp [AS.new]⟩
  case hs n es off len=>
    split at f
    · rename_i k0 xs ys hb af;split at f <;> simp at f
      rename_i aq;obtain ⟨c1,rfl,c3,rfl⟩:=aq;obtain ⟨rfl,rfl⟩:=f;have:=l n off len (xs.map (·.map .d)) (ys.map (·.map .d)) _ (.dat i.esize ((xs.drop off).take len ++ ys)) rfl hb rfl (by simpa using c1) (qf3 af) (by simp [rowsOf,List.map_take,List.map_drop]) (by simpa using c3);obtain ⟨x,w',inj',h1,h2,h3,h4⟩:=this;exact ⟨x,w',inj',h1,by simpa [AS.new,AS.setBlk] using h2,h3,h4,rfl,by simp [AS.new,AS.setBlk]⟩
    · rename_i k0 xs hb af;split at f <;> try simp at f
      rename_i ys g;obtain ⟨⟨c1,rfl,c3,rfl⟩,rfl,rfl⟩:=f;have:=l n off len (xs.map (·.map .d)) ys _ (.cel i.esize ((((xs.map (·.map V.d)).drop off).take len) ++ ys)) rfl hb rfl (by simpa using c1) g rfl c3;obtain ⟨x,w',inj',h1,h2,h3,h4⟩:=this;exact ⟨x,w',inj',h1,by simpa [AS.new,AS.setBlk] using h2,h3,h4,rfl,by simp [AS.new,AS.setBlk]⟩
    · rename_i k0 xs hb;split at f <;> try simp at f
      rename_i ys g;obtain ⟨⟨c1,rfl,c3,rfl⟩,rfl,rfl⟩:=f;have:=l n off len xs ys _ (.cel i.esize ((xs.drop off).take len ++ ys)) rfl hb rfl c1 g rfl c3;obtain ⟨x,w',inj',h1,h2,h3,h4⟩:=this;exact ⟨x,w',inj',h1,by simpa [AS.new,AS.setBlk] using h2,h3,h4,rfl,by simp [AS.new,AS.setBlk]⟩
    · simp at f
end
end Go.Am
namespace Go.Am
open Go
variable {P : Program} {T : Tab}
section
variable {w : World} {Z : Nat→Prop} {inj : Inj} {nx : Nat}
theorem RowV.spliceRows {arr : Array Value} {o es off : Nat} {xs ys : List (List V)} {L : List Value} (h : RowV w Z inj nx arr o es xs) (r : ∀ (i : Nat) (x : List V),xs[i]? = some x→x.length = es) (g : ERel w Z inj nx es ys L.toArray)
    (k : off + ys.length≤xs.length) (b : o + off * es + L.length≤arr.size) : RowV w Z inj nx (splice arr.toList (o + off * es) L).toArray o es (splice xs off ys):=by
  have s : L.length = ys.length * es:=by simpa using g.1
  intro i x j d a hd;rw [U4 _ _ _ _ k] at a;rw [List.getElem?_toArray,U4 _ _ _ _ (by simpa using b)];by_cases hi : off≤i∧i < off + ys.length
  · rw [qq hi] at a;obtain ⟨m,c,q,l⟩:=g.2.2 _ x j d a hd;have f : j < es:=by have:=Kg hd;have:=g.2.1 _ x a;omega
    have p:=q3f (Kg a) f;have t : i * es = off * es + (i - off) * es:=by rw [← Nat.add_mul];congr 1;omega
    grind
  · rw [qp hi] at a;obtain ⟨m,c,q,l⟩:=h i x j d a hd;have f : j < es:=by have:=Kg hd;have:=r _ x a;omega
    refine ⟨m,c,?_,l⟩;rw [qp ?_]
    · grind
    · intro p;by_cases n : i < off
      · have:=q3f n f;omega
      · have u : (off + ys.length) * es≤i * es:=Nat.mul_le_mul_right _ q6;grind
theorem ERel.take {es m : Nat} {xs : List (List V)} {L : List Value} (h : ERel w Z inj nx es xs L.toArray) (b : m≤xs.length) : ERel w Z inj nx es (xs.take m) (L.take (m * es)).toArray:=by
  obtain ⟨g,k,f⟩:=h;simp only [List.size_toArray] at g;have:=Nat.mul_le_mul_right es b;refine ⟨by simp;rw [Nat.min_eq_left b];omega,?_,?_⟩
  · grind
  · intro i x j d a hd;rw [List.getElem?_take] at a;split at a
    · rename_i hi;obtain ⟨n,c,o,l⟩:=f i x j d a hd;have p:=q3f hi (show j < es by have:=Kg hd;have:=k _ x a;omega);grind
    grind
end
section
variable {w : World} {Z : Nat→Prop} {inj : Inj} {st : AS} {a : Act} {Ds : List Nat}
theorem qu2 {t u ty : TypeId} {i j : TI} {sv xv v : V} {vs vx : Value} {st1 : AS} (h : RelS w Z inj st a Ds) (ht : tiOf P t = some i) (_hu : tiOf P u = some j) (bt : i.kind = .slice) (_hjk : j.kind = .slice) (bm : Zy i.esize sv = true) (hf : Zy i.esize xv = true)
    (au : RelV w Z inj st.nx sv vs) (bs : RelV w Z inj st.nx xv vx) (ha : copyV st sv xv = some (v,st1)) :
    ∃ x w' inj',(Builtin.copy_ #[t,u] ty #[vs,vx]).run P w = .ok x w'∧RelV w' Z inj' st1.nx v x∧RelH w' Z inj' st1.hp st1.nx∧Ext w Z inj st.hp w' Z inj' st1.hp st.nx∧st1.sl = st.sl∧st.nx≤st1.nx:=by
  obtain ⟨bv,d,z,k⟩:=Yq ht;have hk:=k.kind;unfold Zh at hk;simp only [bt] at hk;obtain ⟨e,ie,de,ze,rfl,g1,g2,g3,g4,g5,g6,g7,g8,g9,_⟩:=hk;cases sv <;> simp only [copyV,reduceCtorEq] at ha
  rename_i n es off len;have br:=Nat.eq_of_beq_eq_true bm;subst br;split at ha <;> try simp at ha
  rename_i k0 xs ys hb bk;obtain ⟨⟨cn,rfl⟩,rfl,rfl⟩:=ha;obtain ⟨ad,cap',L1,rfl,an,bh,ay⟩:=qc3 h bs (qf3 bk) hf g7;rw [List.length_map] at an ⊢
  let m:=min ys.length len
  have hm : m = min ys.length len:=rfl;rw [← hm];obtain ⟨q1,q2,q3⟩:=q6p (h.heap.blk n _ hb).2 rfl;have ca : (xs.map (·.map V.d)).length = xs.length:=by simp
  have bz : m * i.esize≤ys.length * i.esize:=Nat.mul_le_mul_right _ q6
  have ag : (Builtin.firstCells i.esize m (.slice ad ys.length cap')).run P w = .ok (L1.take (m * i.esize)).toArray w:=by
    cases ad with
    | none=>
      have ax : ys.map (·.map V.d) = []:=ay;have : ys = []:=by simpa using ax
      subst this;simp at an;subst an;simp [Builtin.firstCells]
    | some p=>
      have:=run_loadCells_list (P:=P) w p (L1.take (m * i.esize)) (fun k u hu=>by
        rw [List.getElem?_take] at hu;split at hu
        · exact ay k u hu
        · simp at hu)
      rw [List.length_take,Nat.min_eq_left q6] at this;simpa [Builtin.firstCells] using this
  have l : ∀ base y ai,y = len→vs = .slice base y ai→∀ w',(match base with | some p=>(storeCells p (L1.take (m * i.esize))).run P w = .ok () w' | none=>w' = w)→
      (Builtin.copy_ #[t,u] ty #[vs,.slice ad ys.length cap']).run P w = .ok (.int .i64 m) w':=by
    rintro base y ai rfl rfl w' aa
    have ap:=ag
    rw [← g6] at ap
    have ah : Nat.min ys.length y = m:=rfl
    cases base with
    | none=>
      subst aa;simp [Builtin.copy_,run_underlying k.und,Builtin.lenOf,Zg g1,goInt,ah,ap]
    | some p=>
      have aj : (storeCells p (L1.take (m * i.esize))).run P w = .ok () w':=aa;rw [← g6] at aj;simp [Builtin.copy_,run_underlying k.und,Builtin.lenOf,Zg g1,aj,goInt,ah,ap]
  have s : live (.dat i.esize xs) = true:=rfl
  have same : m = 0→RelH w Z inj (repl st.hp n (.dat i.esize (splice xs off (ys.take m)))) st.nx∧Ext w Z inj st.hp w Z inj (repl st.hp n (.dat i.esize (splice xs off (ys.take m)))) st.nx:=by
    intro h0;have al : splice xs off (ys.take m) = xs:=by rw [h0];simp [splice]
    rw [al]
    have g : ∀ q,find (repl st.hp n (.dat i.esize xs)) q = find st.hp q:=by
      intro q;rw [Z6];by_cases hq : n = q
      · subst hq;have : find st.hp n = some (.dat i.esize xs):=hb;simp [this]
      · simp [hq]
    constructor
    · exact ⟨fun q b hq=>h.heap.blk q b (by rw [g] at hq;exact hq),fun q r b c p' q' h1 h2=>h.heap.sep q r b c p' q' (by rw [g] at h1;exact h1) (by rw [g] at h2;exact h2),fun q b p' h1=>h.heap.out q b p' (by rw [g] at h1;exact h1),h.heap.zs,h.heap.zc⟩
    · exact {Ext.refl (w:=w) (Z:=Z) (inj:=inj) (hp:=st.hp) (pin:=st.nx) with imm:=fun b hb=>by obtain ⟨q,blk,o,h1,h2,h3⟩:=hb;rw [g] at h1;exact .inl ⟨q,blk,o,h1,h2,h3⟩}
  have af : ∀ w' inj' nx',RelV w' Z inj' nx' (.d (.int .i64 ((min ys.length len : Nat) : Int))) (.int .i64 (m : Nat)):=fun _ _ _=>.d (.int _ _);by_cases h0 : m = 0
  · obtain ⟨s1,s2⟩:=same h0
    cases au with
    | hsnil=>exact ⟨_,w,inj,l none _ _ rfl rfl w rfl,af _ _ _,s1,s2,rfl,Nat.le_refl _⟩
    | @hs _ _ _ _ cap adr hn' hlc _ hcap=>exact ⟨_,w,inj,l (some adr) _ _ rfl rfl w (by show (storeCells _ _).run P w = _;rw [h0];simp [storeCells]),af _ _ _,s1,s2,rfl,Nat.le_refl _⟩
  · cases au with
    | hsnil=>omega
    | @hs _ _ _ _ cap adr hn' hlc _ hcap=>
      obtain ⟨b,o,hi,rfl,aw⟩:=hcap q6;rcases q3 with ⟨_,q4⟩ | ⟨b',o',arr,am,q3,q4,q5⟩
      · grind
      rw [hi] at q3;cases q3;have hL : (L1.take (m * i.esize)).length = m * i.esize:=by rw [List.length_take,Nat.min_eq_left q6]
      have ac:=bh.take (m:=m) (by simp;omega)
      have bo : o + (off + cap) * i.esize≤arr.size:=by
        obtain ⟨c,e2,f,k1,k2⟩:=aw;grind
      have cd : m * i.esize≤cap * i.esize:=Nat.mul_le_mul_right _ q6;rw [Nat.add_mul] at bo;have aa:=run_storeCells_at P b (o + off * i.esize) am (L1.take (m * i.esize)) 0 arr w q4 (by rw [hL];omega) (ac.one g7);simp only [Nat.add_zero] at aa;have al : (arr.toList.take (o + off * i.esize) ++ L1.take (m * i.esize) ++ arr.toList.drop (o + off * i.esize + (L1.take (m * i.esize)).length)).toArray = (splice arr.toList (o + off * i.esize) (L1.take (m * i.esize))).toArray:=rfl;rw [al] at aa;have aq : o + off * i.esize + (L1.take (m * i.esize)).length≤arr.toList.length:=by rw [hL];simp;omega
      have ae : (splice arr.toList (o + off * i.esize) (L1.take (m * i.esize))).toArray.size = arr.size:=by simp only [List.size_toArray];rw [q23 _ _ _ aq];simp
      have hz : ∀ b1,Z b1→(w.setRow b (splice arr.toList (o + off * i.esize) (L1.take (m * i.esize))).toArray).heap[b1]? = w.heap[b1]?:=fun b1 bp=>
        setRow_other w b b1 _ (fun e=>h.heap.out n _ _ hb s hi (by rw [← e];exact bp))
      have bl:=q2o w b arr _ am (0,0) q4 ae;have cm : (ys.take m).length = m:=by rw [List.length_take,Nat.min_eq_left q6]
      refine ⟨_,_,inj,l (some ⟨b,o + off * i.esize,none⟩) _ _ rfl rfl _ aa,af _ _ _,?_,Ext.set h.heap hb s hi q4 ae,rfl,Nat.le_refl _⟩;refine h.heap.set hb s hi q4 ae (q6o (es:=i.esize) (xs:=splice (xs.map (·.map V.d)) off ((ys.map (·.map V.d)).take m)) ?_ g7 ?_ (.inr ⟨b,o,_,am,hi,setRow_heap w b _ _ _ _ q4,?_⟩))
      · simp only [rowsOf,splice,List.map_append,List.map_take,List.map_drop,Option.some.injEq,Prod.mk.injEq,true_and];simp
      · intro i' x' ao;rw [U4 _ _ _ _ (by simp;omega)] at ao;split at ao
        · exact ac.2.1 _ _ ao
        grind
      · refine (q5.spliceRows q2 ac (by simp;omega) (by rw [hL];omega)).mono fun v x hr=>hr.mono hz (fun _ h=>h) bl (fun _ _=>rfl) (Nat.le_refl _)
theorem qu0 {t ty : TypeId} {i : TI} {sv v : V} {vs : Value} {st1 : AS} (h : RelS w Z inj st a Ds) (ht : tiOf P t = some i) (bb : i.kind = .slice) (aw : Zy i.esize sv = true) (s : RelV w Z inj st.nx sv vs) (ha : Jw st i sv = some (v,st1)) :
    ∃ x w' inj',(Builtin.clear_ #[t] ty #[vs]).run P w = .ok x w'∧RelV w' Z inj' st1.nx v x∧RelH w' Z inj' st1.hp st1.nx∧Ext w Z inj st.hp w' Z inj' st1.hp st.nx∧st1.sl = st.sl∧st.nx≤st1.nx:=by
  obtain ⟨bm,d,z,k⟩:=Yq ht;have hk:=k.kind;unfold Zh at hk;simp only [bb] at hk;obtain ⟨e,ie,de,ze,rfl,g1,g2,g3,g4,g5,g6,g7,g8,g9,_⟩:=hk;have aa : ∀ w' inj' nx',RelV w' Z inj' nx' (.d (.tup [])) (.tuple #[]):=fun _ _ _=>.d (.tup qf qf);cases sv <;> simp only [Jw,reduceCtorEq] at ha
  case d x=>
    cases x <;> simp only [reduceCtorEq,Option.some.injEq,Prod.mk.injEq] at ha
    obtain ⟨rfl,rfl⟩:=ha
    cases s with | d s=>
    cases s;exact ⟨_,w,inj,by simp [Builtin.clear_,run_underlying k.und],aa _ _ _,h.heap,.refl,rfl,Nat.le_refl _⟩
  case hs n es off len=>
  have az:=Nat.eq_of_beq_eq_true aw;subst az;split at ha <;> try simp at ha
  rename_i k0 xs hb;obtain ⟨⟨bq,rfl⟩,rfl,rfl⟩:=ha;obtain ⟨q1,q2,q3⟩:=q6p (h.heap.blk n _ hb).2 rfl;have m : live (.dat i.esize xs) = true:=rfl;by_cases h0 : len = 0
  · subst h0;have ae : splice xs off (List.replicate 0 i.ezero) = xs:=by simp [splice]
    have g : ∀ q,find (repl st.hp n (.dat i.esize (splice xs off (List.replicate 0 i.ezero)))) q = find st.hp q:=by
      intro q;rw [ae,Z6];by_cases hq : n = q
      · subst hq;have : find st.hp n = some (.dat i.esize xs):=hb;simp [this]
      · simp [hq]
    have s1 : RelH w Z inj (repl st.hp n (.dat i.esize (splice xs off (List.replicate 0 i.ezero)))) st.nx:=
      ⟨fun q b hq=>h.heap.blk q b (by rw [g] at hq;exact hq),fun q r b c p' q' h1 h2=>h.heap.sep q r b c p' q' (by rw [g] at h1;exact h1) (by rw [g] at h2;exact h2),fun q b p' h1=>h.heap.out q b p' (by rw [g] at h1;exact h1),h.heap.zs,h.heap.zc⟩
    have s2 : Ext w Z inj st.hp w Z inj (repl st.hp n (.dat i.esize (splice xs off (List.replicate 0 i.ezero)))) st.nx:=
      {Ext.refl (w:=w) (Z:=Z) (inj:=inj) (hp:=st.hp) (pin:=st.nx) with imm:=fun b hb=>by obtain ⟨q,blk,o,h1,h2,h3⟩:=hb;rw [g] at h1;exact .inl ⟨q,blk,o,h1,h2,h3⟩}
    cases s with
    | hsnil=>exact ⟨_,w,inj,by simp [Builtin.clear_,run_underlying k.und],aa _ _ _,s1,s2,rfl,Nat.le_refl _⟩
    | @hs _ _ _ _ cap adr hn' hlc _ hcap=>exact ⟨_,w,inj,by simp [Builtin.clear_,run_underlying k.und],aa _ _ _,s1,s2,rfl,Nat.le_refl _⟩
  · cases s with
    | hsnil=>omega
    | @hs _ _ _ _ cap adr hn' hlc _ hcap=>
      obtain ⟨b,o,hi,rfl,ao⟩:=hcap q6;rcases q3 with ⟨_,q4⟩ | ⟨b',o',arr,aj,q3,q4,q5⟩
      · grind
      rw [hi] at q3;cases q3;obtain ⟨p,af⟩ : ∃ p,p = (Builtin.zeroCells ze.cells len).toList:=⟨_,rfl⟩
      have av : ze.cells.size = i.esize:=by
        have:=(q8o (w:=w) (Z:=Z) g4).1;omega
      have hL : p.length = len * i.esize:=by rw [af];simp [Builtin.zeroCells,av]
      have ab : ERel w Z inj st.nx i.esize ((List.replicate len i.ezero).map (·.map V.d)) p.toArray:=by
        refine ⟨by simp [hL],fun q x hx=>?_,fun q x j d hx hd=>?_⟩
        · grind
        · rw [List.getElem?_map,List.getElem?_replicate] at hx;split at hx <;> simp at hx
          rename_i hq;subst hx;rw [List.getElem?_map] at hd
          cases ad : i.ezero[j]? with
          | none=>rw [ad] at hd;cases hd
          | some d'=>
            rw [ad] at hd;cases hd;obtain ⟨c,hc,hr,ag⟩:=qhq (w:=w) (Z:=Z) g4 g5 hq ad;refine ⟨ag,c,?_,.d hr⟩;rw [af,Array.toArray_toList];unfold Builtin.zeroCells;grind
      have be : o + (off + cap) * i.esize≤arr.size:=by
        obtain ⟨c,e2,f,k1,k2⟩:=ao;grind
      have br : len * i.esize≤cap * i.esize:=Nat.mul_le_mul_right _ q6;rw [Nat.add_mul] at be;have y:=run_storeCells_at P b (o + off * i.esize) aj p 0 arr w q4 (by rw [hL];omega) (ab.one g7);simp only [Nat.add_zero] at y;have ae : (arr.toList.take (o + off * i.esize) ++ p ++ arr.toList.drop (o + off * i.esize + p.length)).toArray = (splice arr.toList (o + off * i.esize) p).toArray:=rfl;rw [ae] at y;have ah : o + off * i.esize + p.length≤arr.toList.length:=by rw [hL];simp;omega
      have u : (splice arr.toList (o + off * i.esize) p).toArray.size = arr.size:=by simp only [List.size_toArray];rw [q23 _ _ _ ah];simp
      have hz : ∀ b1,Z b1→(w.setRow b (splice arr.toList (o + off * i.esize) p).toArray).heap[b1]? = w.heap[b1]?:=fun b1 ay=>
        setRow_other w b b1 _ (fun e=>h.heap.out n _ _ hb m hi (by rw [← e];exact ay))
      have bc:=q2o w b arr _ aj (0,0) q4 u
      have am : (Builtin.clear_ #[t] ty #[.slice (some ⟨b,o + off * i.esize,none⟩) len cap]).run P w = .ok (.tuple #[]) (w.setRow b (splice arr.toList (o + off * i.esize) p).toArray):=by
        obtain ⟨l,rfl⟩ : ∃ l,len = l + 1:=⟨len - 1,q6⟩
        have bg : (zeroValue e).run P w = .ok ze w:=by simp [zeroValue,typeInfo,g1,g3]
        rw [af] at y ⊢;simp [Builtin.clear_,run_underlying k.und,bg,y]
      refine ⟨_,_,inj,am,aa _ _ _,?_,Ext.set h.heap hb m hi q4 u,rfl,Nat.le_refl _⟩;refine h.heap.set hb m hi q4 u (q6o (es:=i.esize) (xs:=splice (xs.map (·.map V.d)) off ((List.replicate len i.ezero).map (·.map V.d))) ?_ g7 ?_ (.inr ⟨b,o,_,aj,hi,setRow_heap w b _ _ _ _ q4,?_⟩))
      · simp only [rowsOf,splice,List.map_append,List.map_take,List.map_drop,Option.some.injEq,Prod.mk.injEq,true_and];simp
      · intro i' x' ba;rw [U4 _ _ _ _ (by simp;omega)] at ba;grind
      · refine (q5.spliceRows q2 ab (by simp;omega) (by rw [hL];omega)).mono fun v x hr=>hr.mono hz (fun _ h=>h) bc (fun _ _=>rfl) (Nat.le_refl _)
end
end Go.Am
namespace Go.Am
open Go
variable {P : Program} {T : Tab}
def q16 (P : Program) (em : Bool) (k : Nat) (t : TypeId) (desc : TypeDesc) (n : Nat) : Prop:=
  ∀ w,(Kd desc = true→∀ X : Array Value,X.size = n→(Instr.checkKey em k t (.agg X)).run P w = .ok () w)∧(Kd desc = false→n = 1∧∀ x,(Instr.checkKey em k t x).run P w = .ok () w)
theorem qip {d : Bool} {k : Nat} {t : TypeId} {desc : TypeDesc} {b : TypeInfo} {n : Nat} (h : q16 P d k t desc n) (f : P.underlying t = some desc) (hi : P.info? t = some b) (hs : b.size = n) {X : Array Value} {o : Nat} (m : o + n≤X.size) (w : World) :
    ∃ v,(part t X o).run P w = .ok v w∧(Instr.checkKey d k t v).run P w = .ok () w:=by
  obtain ⟨j,c⟩:=h w
  cases a : Kd desc with
  | true=>exact ⟨.agg (X.extract o (o + n)),by simp [part,q2m f,a,Zg hi,hs],j a _ (by simp;omega)⟩
  | false=>
    obtain ⟨l,c⟩:=c a;obtain ⟨x,g⟩:=Yd (xs:=X) (i:=o) q6;exact ⟨x,by simp [part,q2m f,a,g],c x⟩
def qex (em : Bool) (k : Nat) (X : Array Value) (f : Field) (_s : PUnit) : Sem (ForInStep PUnit):=
  if f.name ≠ "_" then do
    let __do_lift ← part f.type X f.offset
    Instr.checkKey em k f.type __do_lift
    pure (ForInStep.yield PUnit.unit)
  else pure (ForInStep.yield PUnit.unit)
theorem qoe {d : Nat} {t : TypeId} {ks : List (Option IntKind)} (h : Kk P d t = some ks) : ∃ a,P.underlying t = some a:=by
  cases b : P.underlying t with
  | none=>cases d <;> simp [Kk,b] at h
  | some a=>exact ⟨a,rfl⟩
theorem qin (j : Bool) (d k : Nat) (m : ∀ t desc ks,P.underlying t = some desc→Kk P d t = some ks→q16 P j k t desc ks.length) (X : Array Value) (w : World) : ∀ (l : List Field) (o : Nat) (ks : List (Option IntKind)),
    tile P (Kk P d) o l = some ks→o + ks.length≤X.size→(forIn l PUnit.unit (qex j k X) : Sem PUnit).run P w = .ok PUnit.unit w
  | [],_,_,_,_=>by simp
  | f::l,o,ks,ht,hl=>by
    simp only [tile] at ht
    cases a : Kk P d f.type with
    | none=>simp [a] at ht
    | some ka=>
      simp only [a] at ht
      split at ht <;> try simp at ht
      rename_i b
      obtain ⟨rfl,q,p⟩:=b
      cases c : tile P (Kk P d) (f.offset + ka.length) l with
      | none=>simp [c] at ht
      | some kb=>
        simp only [c,Option.some.injEq] at ht;subst ht
        simp only [List.length_append] at hl
        obtain ⟨s,g⟩:=qoe a
        obtain ⟨x,h,n⟩:=qe1 g
        obtain ⟨v,u,r⟩:=qip (m f.type s ka g a) g h q6 (X:=X) (o:=f.offset) q6 w
        have:=qin j d k m X w l (f.offset + ka.length) kb c q6
        rw [List.forIn_cons]
        simp only [qex,qq q,Sem.run_bind,u,r,Result.andThen_ok]
        simpa using this
def qey (em : Bool) (k : Nat) (e : TypeId) (X : Array Value) (i : Nat) (_s : PUnit) : Sem (ForInStep PUnit):=do
  let __do_lift ← sizeOf e
  let __do_lift ← part e X (i * __do_lift)
  Instr.checkKey em k e __do_lift
  pure (ForInStep.yield PUnit.unit)
theorem qio {b : Bool} {k : Nat} {e : TypeId} {desc : TypeDesc} {a : TypeInfo} {n : Nat} (c : q16 P b k e desc n) (d : P.underlying e = some desc) (hi : P.info? e = some a) (hs : a.size = n) {X : Array Value} (w : World) :
    ∀ (m s : Nat),(s + m) * n≤X.size→(forIn (List.range' s m) PUnit.unit (qey b k e X) : Sem PUnit).run P w = .ok PUnit.unit w
  | 0,s,_=>by simp
  | m + 1,s,hl=>by
    have j : s * n + n = (s + 1) * n:=by rw [Nat.add_mul];simp
    have h : (s + (m + 1)) * n = (s + 1) * n + m * n:=by rw [← Nat.add_mul];congr 1;omega
    obtain ⟨v,g,f⟩:=qip c d hi hs (X:=X) (o:=s * n) q6 w
    have:=qio c d hi hs w m (s + 1) (X:=X) (by rw [Nat.add_mul (s + 1)];omega)
    rw [List.range'_succ,List.forIn_cons]
    simp only [qey,Sem.run_bind,Zg hi,hs,g,f,Result.andThen_ok]
    simpa using this
theorem qf0 (f : Bool) : ∀ (d : Nat) (t : TypeId) (desc : TypeDesc) (ks : List (Option IntKind)),P.underlying t = some desc→Kk P d t = some ks→∀ k,d≤k→q16 P f k t desc ks.length
  | 0,t,desc,ks,hu,hp,k,hk=>by simp [Kk] at hp
  | d + 1,t,desc,ks,hu,hp,k,hk=>by
    obtain ⟨k,rfl⟩ : ∃ o,k = o + 1:=⟨k - 1,q6⟩
    intro w
    simp only [Kk,hu] at hp
    cases desc <;> simp only [reduceCtorEq,Option.some.injEq] at hp
    case bool=>subst hp;exact ⟨by simp [Kd],fun _=>⟨rfl,fun x=>by unfold Instr.checkKey;simp [run_underlying hu]⟩⟩
    case int k0=>subst hp;exact ⟨by simp [Kd],fun _=>⟨rfl,fun x=>by unfold Instr.checkKey;simp [run_underlying hu]⟩⟩
    case struct fs=>
      refine ⟨fun _ X l=>?_,by simp [Kd]⟩
      split at hp
      · simp at hp
      · have:=qin (P:=P) f d k (fun t desc ks p r=>qf0 f d t desc ks p r k q6) X w fs.toList 0 ks hp q6
        rw [Array.forIn_toList] at this
        unfold qex at this
        unfold Instr.checkKey
        simp only [Sem.run_bind,run_underlying hu,Result.andThen_ok]
        rw [this]
        simp
    case array n e=>
      refine ⟨fun _ X l=>?_,by simp [Kd]⟩
      cases b : Kk P d e with
      | none=>simp [b] at hp
      | some a=>
        simp only [b] at hp
        split at hp
        · rename_i m
          simp only [Option.some.injEq] at hp;subst hp
          obtain ⟨q,c⟩:=qoe b
          obtain ⟨s,g,h⟩:=qe1 c
          have j : (List.replicate n a).flatten.length = n * a.length:=by simp
          have:=qio (qf0 f d e q a c b k q6) c g q6 w n 0 (X:=X) (by rw [Nat.zero_add];omega)
          unfold Instr.checkKey
          simp only [Sem.run_bind,run_underlying hu,Result.andThen_ok,Std.Legacy.Range.forIn_eq_forIn_range',Std.Legacy.Range.size,Nat.sub_zero,Nat.add_sub_cancel,Nat.div_one]
          unfold qey at this
          rw [this]
          simp
        · simp at hp
section
variable {w w' : World} {Z : Nat→Prop} {inj : Inj}
theorem qc5 {d : DV} {v : Value} (h : RelD w Z d v) : DRel w Z [d] #[v]:=⟨rfl,fun i x y a b=>by
  cases i with
  | zero=>simp at a b;subst a b;exact h
  | succ i=>simp at a⟩
theorem q92 {d : DV} {v : Value} (h : RelD w Z d v) (a : Zs d = true) : ∃ cs,v = .agg cs∧DRel w Z (cellsD d) cs:=by
  cases h <;> simp [Zs] at a
  rename_i ds cs c b;exact ⟨cs,rfl,c,b⟩
theorem q5h {d : DV} (a : Zs d = false) : cellsD d = [d]:=by cases d <;> simp_all [Zs,cellsD]
theorem qkq {d : TypeId} {desc : TypeDesc} {ks : List (Option IntKind)} (m : P.underlying d = some desc) (hp : Kk P 8 d = some ks) {a b : DV} {u v : Value} (g : RelD w Z a u) (hb : RelD w Z b v)
    (j : Zs a = Kd desc) (h : Zs b = Kd desc) {r : Bool} (f : Kh ks (cellsD a) (cellsD b) = some r) : (Op.equal d u v).run P w = .ok r w:=by
  have key:=qc8 (P:=P) (w:=w) (Z:=Z) 8 d desc ks m hp Op.maxDepth (by unfold Op.maxDepth;omega)
  cases c : Kd desc with
  | true=>
    obtain ⟨X,rfl,k⟩:=q92 g (j.trans c);obtain ⟨Y,rfl,l⟩:=q92 hb (h.trans c);exact (key _ _ _ _ r k l f).1 c
  | false=>
    rw [q5h (j.trans c),q5h (h.trans c)] at f;exact ((key _ _ _ _ r (qc5 g) (qc5 hb) f).2 c).2 u v rfl rfl
theorem qh2 {h : TypeId} {desc : TypeDesc} {ks : List (Option IntKind)} (l : P.underlying h = some desc) (hp : Kk P 8 h = some ks) {a b : DV} {u v : Value} (j : RelD w Z a u) (hb : RelD w Z b v) (f : Kd desc = false)
    {r : Bool} (c : Kh ks [a] [b] = some r) : Instr.sameNow desc u v = some r:=by
  simp only [Kk,l] at hp;cases desc <;> simp only [reduceCtorEq,Option.some.injEq] at hp <;> try (simp [Kd] at f;done)
  case bool=>
    subst hp;simp only [Kh] at c;cases a <;> cases b <;> simp only [q2a,reduceCtorEq] at c
    simp at c;subst c;cases j;cases hb;rfl
  case int k0=>
    subst hp;simp only [Kh] at c;cases a <;> cases b <;> simp only [q2a,reduceCtorEq] at c
    split at c <;> simp at c
    rename_i g k;split at g <;> simp at g
    rename_i d;obtain ⟨rfl,rfl⟩:=d;subst g c;simp at k;subst k;cases j;cases hb;simp [Instr.sameNow]
def Ents (w : World) (Z : Nat→Prop) (es : List (DV × DV)) (ents : List MapEntry) : Prop:=
  ents.length = es.length∧∀ (i : Nat) (e : DV × DV) (x : MapEntry),es[i]? = some e→ents[i]? = some x→RelD w Z e.1 x.key∧RelD w Z e.2 x.val∧Yg e.2 = true
theorem Ents.tail {e : DV × DV} {es : List (DV × DV)} {x : MapEntry} {a : List MapEntry} (h : Ents w Z (e::es) (x::a)) : RelD w Z e.1 x.key∧Ents w Z es a:=
  ⟨(h.2 0 e x rfl rfl).1,by simpa using h.1,fun i b d c f=>h.2 (i + 1) b d (by simpa using c) (by simpa using f)⟩
theorem qfe {m : TypeId} {desc : TypeDesc} {ks : List (Option IntKind)} (j : P.underlying m = some desc) (hp : Kk P 8 m = some ks) {a : DV} {u : Value} (g : RelD w Z a u) (f : Kd desc = false) :
    ∀ (es : List (DV × DV)) (d : List MapEntry) (s : Nat) (r : Option Nat),Ents w Z es d→Zl false ks a es = some r→Instr.findNow desc u d s = some (r.bind fun i=>(d[i]?).map fun x=>(s + i,x.val))
  | [],[],s,r,_,hm=>by simp only [Zl,Option.some.injEq] at hm;subst hm;rfl
  | [],x::d,_,_,h,_=>by have:=h.1;simp at this
  | e::es,[],_,_,h,_=>by have:=h.1;simp at this
  | (b,c)::es,x::d,s,r,h,hm=>by
    obtain ⟨l,o⟩:=h.tail
    simp only [Zl] at hm
    split at hm <;> try simp at hm
    rename_i n
    rw [q5h n.1,q5h n.2] at hm
    split at hm <;> try simp at hm
    · rename_i k
      subst hm
      simp [Instr.findNow,qh2 j hp g l f k]
    · rename_i k
      split at hm <;> simp at hm
      · rename_i i hi
        subst hm
        have:=qfe j hp g f es d (s + 1) _ o hi
        simp only [Instr.findNow,qh2 j hp g l f k,this]
        simp [Nat.add_comm,Nat.add_left_comm]
      · rename_i hi
        subst hm
        have:=qfe j hp g f es d (s + 1) _ o hi
        simp only [Instr.findNow,qh2 j hp g l f k,this]
        rfl
theorem qfd {l : TypeId} {desc : TypeDesc} {ks : List (Option IntKind)} (j : P.underlying l = some desc) (hp : Kk P 8 l = some ks) {a : DV} {u : Value} (g : RelD w Z a u) (f : Kd desc = true) :
    ∀ (es : List (DV × DV)) (d : List MapEntry) (s : Nat) (r : Option Nat),Ents w Z es d→Zl true ks a es = some r→(Instr.findAsking l u d s).run P w = .ok (r.bind fun i=>(d[i]?).map fun x=>(s + i,x.val)) w
  | [],[],s,r,_,hm=>by simp only [Zl,Option.some.injEq] at hm;subst hm;simp [Instr.findAsking]
  | [],x::d,_,_,h,_=>by have:=h.1;simp at this
  | e::es,[],_,_,h,_=>by have:=h.1;simp at this
  | (b,c)::es,x::d,s,r,h,hm=>by
    obtain ⟨n,o⟩:=h.tail
    simp only [Zl] at hm
    split at hm <;> try simp at hm
    rename_i k
    split at hm <;> try simp at hm
    · rename_i m
      subst hm
      simp [Instr.findAsking,qkq j hp g n (k.1.trans f.symm) (k.2.trans f.symm) m]
    · rename_i m
      have p:=qkq j hp g n (k.1.trans f.symm) (k.2.trans f.symm) m
      split at hm <;> simp at hm
      · rename_i i hi
        subst hm
        have:=qfd j hp g f es d (s + 1) _ o hi
        simp only [Instr.findAsking,Sem.run_bind,p,Result.andThen_ok,Bool.false_eq_true,if_false,this]
        simp [Nat.add_comm,Nat.add_left_comm]
      · rename_i hi
        subst hm
        have:=qfd j hp g f es d (s + 1) _ o hi
        simp only [Instr.findAsking,Sem.run_bind,p,Result.andThen_ok,Bool.false_eq_true,if_false,this]
        rfl
theorem qr7 {g : TypeId} {desc : TypeDesc} {ks : List (Option IntKind)} (d : P.underlying g = some desc) (hp : Kk P 8 g = some ks) {a : DV} {u : Value} (j : RelD w Z a u) (l : Zs a = Kd desc)
    {es : List (DV × DV)} {b : List MapEntry} {r : Option Nat} (h : Ents w Z es b) (f : Zl (Kd desc) ks a es = some r) : (Instr.findKey g u b).run P w = .ok (r.bind fun i=>(b[i]?).map fun x=>(i,x.val)) w:=by
  cases c : Kd desc with
  | false=>
    rw [c] at f;have:=qfe d hp j c es b 0 r h f;simp only [Nat.zero_add] at this;simp only [Instr.findKey,Sem.run_bind,run_underlying d,Result.andThen_ok,this];simp
  | true=>
    rw [c] at f;have:=qfd d hp j c es b 0 r h f;simp only [Nat.zero_add] at this
    cases b with
    | nil=>
      rw [← this];simp [Instr.findKey,run_underlying d,Instr.findNow,Instr.findAsking]
    | cons e es=>
      have k : Instr.findNow desc u (e::es) 0 = none:=by
        cases desc <;> simp [Kd] at c <;> simp [Instr.findNow,Instr.sameNow]
      simp only [Instr.findKey,Sem.run_bind,run_underlying d,Result.andThen_ok,k];exact this
theorem qet : ∀ {ks : List (Option IntKind)} {xs ys : List DV} {X Y : List Value},Kh ks xs ys = some true→(X.length = xs.length)→(Y.length = ys.length)→
    (∀ (i : Nat) (d : DV) (c : Value),xs[i]? = some d→X[i]? = some c→RelD w Z d c)→(∀ (i : Nat) (d : DV) (c : Value),ys[i]? = some d→Y[i]? = some c→RelD w Z d c)→∀ n,X.length = Y.length∧(Y.zip X).all (fun (x,y)=>Instr.sameBits n x y) = true
  | [],[],[],[],[],_,_,_,_,_,n=>⟨rfl,rfl⟩
  | [],[],[],_::_,_,_,h,_,_,_,_=>by simp at h
  | [],[],[],[],_::_,_,_,h,_,_,_=>by simp at h
  | [],[],_::_,_,_,h,_,_,_,_,_=>by simp [Kh] at h
  | [],_::_,_,_,_,h,_,_,_,_,_=>by simp [Kh] at h
  | _::_,[],_,_,_,h,_,_,_,_,_=>by simp [Kh] at h
  | _::_,_::_,[],_,_,h,_,_,_,_,_=>by simp [Kh] at h
  | k::ks,a::xs,b::ys,[],_,_,h,_,_,_,_=>by simp at h
  | k::ks,a::xs,b::ys,_::_,[],_,_,h,_,_,_=>by simp at h
  | k::ks,a::xs,b::ys,x::X,y::Y,h,l1,l2,r1,r2,n=>by
    simp only [Kh] at h
    split at h <;> simp at h
    rename_i p q hp r
    obtain ⟨rfl,rfl⟩:=h
    obtain ⟨o,m⟩:=qet r (by simpa using l1) (by simpa using l2) (fun i d c hd f=>r1 (i + 1) d c (by simpa using hd) (by simpa using f)) (fun i d c hd f=>r2 (i + 1) d c (by simpa using hd) (by simpa using f)) n
    have l:=r1 0 a x rfl rfl
    have j:=r2 0 b y rfl rfl
    refine ⟨by simp [o],?_⟩
    simp only [List.zip_cons_cons,List.all_cons,m,Bool.and_true]
    cases k with
    | none=>
      cases a <;> cases b <;> simp only [q2a,reduceCtorEq] at hp
      simp at hp;subst hp
      cases l;cases j;cases n <;> simp [Instr.sameBits]
    | some k=>
      cases a <;> cases b <;> simp only [q2a,reduceCtorEq] at hp
      split at hp <;> simp at hp
      rename_i g
      obtain ⟨rfl,rfl⟩:=g
      subst hp
      cases l;cases j;cases n <;> simp [Instr.sameBits]
theorem qse {ks : List (Option IntKind)} {ag : Bool} {a b : DV} {u v : Value} (k : RelD w Z a u) (hb : RelD w Z b v) (m : Zs a = ag) (l : Zs b = ag) (h : Kh ks (cellsD a) (cellsD b) = some true) :
    (Instr.keyThatStays v u).run P w = .ok u w:=by
  have hs : Instr.sameBits 10000 v u = true:=by
    cases ag with
    | true=>
      obtain ⟨X,rfl,f,g⟩:=q92 k m;obtain ⟨Y,rfl,p,o⟩:=q92 hb l;obtain ⟨n,r⟩:=qet (X:=X.toList) (Y:=Y.toList) h (by simpa using f.symm) (by simpa using p.symm) (fun i d c hd j=>g i d c hd (by simpa using j)) (fun i d c hd j=>o i d c hd (by simpa using j)) 9999;have q : (Y.size == X.size) = true:=by simp at n;simp [n]
      show (Y.size == X.size && (Y.toList.zip X.toList).all fun (x,y)=>Instr.sameBits 9999 x y) = true;grind
    | false=>
      rw [q5h m,q5h l] at h;have:=(qet (X:=[u]) (Y:=[v]) h rfl rfl (fun i d c f g=>(qc5 k).2 i d c f (by simpa using g)) (fun i d c f g=>(qc5 hb).2 i d c f (by simpa using g)) 10000).2;simp_all
  simp [Instr.keyThatStays,hs]
end
theorem qjz {w : World} {a : Addr} (h : ∀ c e f,w.heap[a.block]?≠some (.cells c e f)) : w.frozen? a = false:=by
  unfold World.frozen?;grind
theorem qfh {w : World} {b : Nat} {o : Obj} (h : ∀ c e f,w.heap[b]?≠some (.cells c e f)) (j : ∀ c e f,o≠.cells c e f) (a : Addr) : (w.putObj b o).frozen? a = w.frozen? a:=by
  by_cases hb : a.block = b
  · subst hb;rw [qjz h,qjz];intro c e f;by_cases d : a.block < w.heap.size
    · rw [World.putObj_heap_same d];intro g;exact j _ _ _ (qe6 g)
    simp_all
  · simp only [World.frozen?,World.putObj_heap_other hb]
theorem q5d {w : World} {b : Nat} {es : Array MapEntry} {cl : Nat} (hb : w.heap[b]? = some (.map es cl)) : (getObj b).run P w = .ok (.map es cl) w:=by simp [getObj,Sem.run,hb]
theorem qdd {w : World} {b : Nat} {es : Array MapEntry} {cl : Nat} (o : Obj) (hb : w.heap[b]? = some (.map es cl)) : (setObj b o).run P w = .ok () (w.putObj b o):=by simp [setObj,Sem.run,hb,World.putObj]
section
variable {w : World} {Z : Nat→Prop} {inj : Inj} {hp : List (Nat × Blk)} {nx pin : Nat}
theorem qw8 {n : Nat} {es : List (DV × DV)} (h : RelB w Z inj nx n (.mp es)) : ∃ b a cl,inj n = some (b,0)∧w.heap[b]? = some (.map a cl)∧Ents w Z es a.toList:=by
  obtain ⟨b,a,cl,j,k,g,f⟩:=h;exact ⟨b,a,cl,j,k,by simpa using g,fun i e x c d=>f i e x c (by simpa using d)⟩
theorem qmq (h : RelH w Z inj hp nx) {n : Nat} {es j : List (DV × DV)} (u : find hp n = some (.mp es)) {b : Nat} (hi : inj n = some (b,0)) {ab a : Array MapEntry} {cl cl' : Nat} (hb : w.heap[b]? = some (.map ab cl))
    (hE : Ents w Z j a.toList) : RelH (w.putObj b (.map a cl')) Z inj (repl hp n (.mp j)) nx∧Ext w Z inj hp (w.putObj b (.map a cl')) Z inj (repl hp n (.mp j)) pin:=by
  have g : ∀ k,k≠b→(w.putObj b (.map a cl')).heap[k]? = w.heap[k]?:=fun k l=>World.putObj_heap_other l
  have ai : ¬ Z b:=fun z=>by
    obtain ⟨c,e,f,hc⟩:=h.zc b z;grind
  have ae : Zv w (w.putObj b (.map a cl')):=fun k c e f l=>by grind
  have z : ∀ k,Z k→(w.putObj b (.map a cl')).heap[k]? = w.heap[k]?:=fun k l=>g k (fun e=>ai (e ▸ l))
  have d : ∀ m c,find (repl hp n (.mp j)) m = some c→(m = n∧c = .mp j)∨(m≠n∧find hp m = some c):=by
    intro m c hm;rw [Z6] at hm;grind
  have y : ∀ k,im (repl hp n (.mp j)) inj k→im hp inj k:=by
    rintro k ⟨m,c,o,h1,h2,t⟩;rcases d m c h1 with ⟨rfl,rfl⟩ | ⟨_,s⟩
    · exact ⟨m,_,o,u,rfl,t⟩
    · exact ⟨m,c,o,s,h2,t⟩
  have aa : RelB (w.putObj b (.map a cl')) Z inj nx n (.mp j):=by
    refine ⟨b,a,cl',hi,World.putObj_heap_same (J6 hb),by simpa using hE.1,fun i e x he hx=>?_⟩;obtain ⟨g1,g2,g3⟩:=hE.2 i e x he (by simpa using hx);exact ⟨g1.mono z (fun _ h=>h),g2.mono z (fun _ h=>h),g3⟩
  refine ⟨⟨?_,?_,?_,?_,?_⟩,⟨qf,?_,fun k l=>.inl (y k l),ae,?_,fun _ h=>h,fun _ h=>.inl h,fun _ _=>rfl,rfl,rfl,rfl,qfh (fun _ _ _=>by rw [hb];simp) (fun _ _ _=>qf)⟩⟩
  · intro m c hm;rcases d m c hm with ⟨rfl,rfl⟩ | ⟨r,s⟩
    · exact ⟨(h.blk _ _ u).1,aa⟩
    · obtain ⟨v,h6⟩:=h.blk m c s;exact ⟨v,h6.mono z (fun _ h=>h) ae (fun _ _=>rfl) (Nat.le_refl _) v fun p hp aj=>g _ fun e=>h.sep m n c _ p (b,0) s u aj rfl hp hi r e⟩
  · intro m m' c c' p q h1 h2 t s v h6 r;rcases d m c h1 with ⟨rfl,rfl⟩ | ⟨e1,k1⟩ <;> rcases d m' c' h2 with ⟨rfl,rfl⟩ | ⟨e2,k2⟩
    · omega
    · exact h.sep _ _ _ _ p q u k2 rfl s v h6 r
    · exact h.sep _ _ _ _ p q k1 u t rfl v h6 r
    · exact h.sep _ _ _ _ p q k1 k2 t s v h6 r
  · intro m c p h1 h2 t;rcases d m c h1 with ⟨rfl,rfl⟩ | ⟨e1,k1⟩
    · grind
    · exact h.out _ _ p k1 h2 t
  · intro k l;simpa using h.zs k l
  · intro k l;obtain ⟨c,e,f,hc⟩:=h.zc k l;grind
  · intro k _ l;exact g k fun e=>l ⟨n,_,0,u,rfl,e ▸ hi⟩
  · intro k x l;grind
end
section
variable {w : World} {Z : Nat→Prop} {inj : Inj} {st : AS} {a : Act} {Ds : List Nat}
theorem quc {t : TypeId} (h : RelS w Z inj st a Ds) : Km st (st.new (.mp [])) (.mp st.nx) w Z inj ((do pure (Next.value (← Instr.makeMap t none)) : Sem Next).run P w):=by
  refine .new (o:=.map #[] 0) (x:=.map (some w.heap.size)) h ?_ ?_ (.mp q6 (Y6 _ _ _))
  · simp [Instr.makeMap]
  · exact ⟨w.heap.size,#[],0,Y6 _ _ _,Jt w _,rfl,qf⟩
theorem q5k {t : TypeId} {i : TI} {ks : List (Option IntKind)} {n : Nat} {es : List (DV × DV)} {o : DV} {mv s : Value} {r : Option Nat} (h : RelS w Z inj st a Ds) (ht : tiOf P t = some i) (hk : i.keys = some ks) (hm : RelV w Z inj st.nx (.mp n) mv)
    (hb : st.blk n = some (.mp es)) (l : RelD w Z o s) (m : Ue i.eagg ks o = true) (hf : Zl i.eagg ks o es = some r) :
    ∃ j et b c cl,P.underlying t = some (.map j et)∧mv = .map (some b)∧inj n = some (b,0)∧w.heap[b]? = some (.map c cl)∧Ents w Z es c.toList∧(∀ y,(Instr.checkKey y 10000 j s).run P w = .ok () w)∧
      (Instr.findKey j s c.toList).run P w = .ok (r.bind fun i=>(c[i]?).map fun x=>(i,x.val)) w∧∃ u q,i.ezero = [u]∧(zeroValue et).run P w = .ok q w∧RelD w Z u q:=by
  obtain ⟨ae,d,z,k⟩:=Yq ht;have g:=k.kind;unfold Zh at g;rw [k.keys ks hk] at g;obtain ⟨j,e,ie,q,u,ar,dk,rfl,g1,g2,g3,g4,g5,g6,g7,g8,_⟩:=g;rw [hk] at g6;cases g6
  have f : Zs o = i.eagg∧(cellsD o).length = ks.length:=by
    simp only [Ue,Bool.and_eq_true,beq_iff_eq] at m;simp_all
  obtain ⟨f,p⟩:=f
  cases hm with
  | @mp _ b hn hi=>
  obtain ⟨b',c,cl,e1,e2,e3⟩:=qw8 (h.heap.blk n _ hb).2;rw [hi] at e1;cases e1;rw [g8] at f hf;refine ⟨j,e,b,c,cl,k.und,rfl,hi,e2,e3,fun y=>?_,?_,u,q,g7,?_,(qf2 g3).1⟩
  · have hc:=qf0 y 8 j dk ks g5 g4 10000 q6 w
    cases v : Kd dk with
    | true=>
      obtain ⟨X,rfl,hX⟩:=q92 l (f.trans v);exact (hc.1 v) X (hX.1.symm.trans p)
    | false=>exact (hc.2 v).2 s
  · have:=qr7 g5 g4 l f e3 hf;grind
  · simp [zeroValue,typeInfo,g1,g2]
theorem qf7 {es : List (DV × DV)} {a : List MapEntry} (h : Ents w Z es a) {j : Nat} {e : DV × DV} (b : es[j]? = some e) : ∃ x,a[j]? = some x∧RelD w Z e.1 x.key∧RelD w Z e.2 x.val∧Yg e.2 = true:=by
  obtain ⟨x,c⟩:=Zq (xs:=a) (i:=j) (by rw [h.1];exact Kg b);exact ⟨x,c,h.2 j e x b c⟩
theorem qg3 {ag : Bool} {ks : List (Option IntKind)} {k : DV} : ∀ {es : List (DV × DV)} {j : Nat},Zl ag ks k es = some (some j)→∃ e,es[j]? = some e∧Zs e.1 = ag∧Kh ks (cellsD k) (cellsD e.1) = some true
  | [],j,h=>by simp [Zl] at h
  | (b,c)::es,j,h=>by
    simp only [Zl] at h
    split at h <;> try simp at h
    rename_i a
    split at h <;> try simp at h
    · rename_i d;subst h;exact ⟨_,rfl,a.2,d⟩
    · split at h <;> simp at h
      rename_i i hi
      subst h
      obtain ⟨e,f,g⟩:=qg3 hi
      exact ⟨e,by simpa using f,g⟩
theorem qua {t : TypeId} {x y : Operand} {ok : Bool} {i : TI} {ks : List (Option IntKind)} {n : Nat} {es : List (DV × DV)} {kd z : DV} {e : DV × Bool} (h : RelS w Z inj st a Ds) (ht : tiOf P t = some i) (hk : i.keys = some ks) (hx : st.ev x = some (.mp n)) (hy : st.ev y = some (.d kd))
    (hb : st.blk n = some (.mp es)) (hz : i.ezero = [z]) (k : Ue i.eagg ks kd = true) (p : mget i.eagg ks z kd es = some e) :
    Km st st (.d (bif ok then .tup [e.1,.bool e.2] else e.1)) w Z inj ((do pure (Next.value (← Instr.lookup t (a.eval x) (a.eval y) ok)) : Sem Next).run P w):=by
  have s:=Kb h hx;have f:=Kb h hy;generalize a.eval x = mv at s ⊢;generalize a.eval y = kv at f ⊢
  cases f with | d f=>
  have fin : ∀ (u : Value) (o : Bool) (v : DV),RelD w Z v u→e = (v,o)→(Instr.lookup t mv kv ok).run P w = .ok (if ok then .tuple #[u,.bool o] else u) w→Km st st (.d (bif ok then .tup [e.1,.bool e.2] else e.1)) w Z inj ((do pure (Next.value (← Instr.lookup t mv kv ok)) : Sem Next).run P w):=by
    rintro u o v hr rfl m;refine .quiet h (Kl m) (.d ?_)
    cases ok with
    | false=>exact hr
    | true=>
      refine .tup rfl fun i d c hd l=>?_
      match i,hd,l with
      | 0,hd,l=>simp at hd l;subst hd l;exact hr
      | 1,hd,l=>simp at hd l;subst hd l;exact .bool _
      | i + 2,hd,_=>simp at hd
  unfold mget at p;split at p <;> try simp at p
  · rename_i j hf;obtain ⟨a1,b1,ac,rfl⟩:=p;obtain ⟨kt,et,b,g,cl,g1,rfl,g3,r,g5,g6,q,_⟩:=q5k h ht hk s hb f k hf;obtain ⟨u,hu,q1,q2,q3⟩:=qf7 g5 ac;refine fin u.val true _ q2 rfl ?_;have ag : g[j]? = some u:=by simpa using hu
    simp [Instr.lookup,run_underlying g1,q5d r,g6,q,ag]
  · rename_i hf;subst p;obtain ⟨kt,et,b,g,cl,g1,rfl,g3,r,g5,g6,q,zd,ze,g8,g9,ab⟩:=q5k h ht hk s hb f k hf;rw [hz] at g8;cases g8;refine fin ze false _ ab rfl ?_;simp only [Option.bind_none] at q;simp [Instr.lookup,run_underlying g1,q5d r,g6,q,g9]
theorem qqw {es : List (DV × DV)} {a : List MapEntry} (h : Ents w Z es a) {f d : DV} {x : MapEntry} (k : RelD w Z f x.key) (j : RelD w Z d x.val) (g : Yg d = true) : Ents w Z (es ++ [(f,d)]) (a ++ [x]):=by
  refine ⟨by simp [h.1],fun i e y b c=>?_⟩;by_cases hi : i < es.length
  · rw [List.getElem?_append_left hi] at b;rw [List.getElem?_append_left (by rw [h.1];exact hi)] at c;exact h.2 i e y b c
  · rw [List.getElem?_append_right q6] at b;rw [List.getElem?_append_right (by rw [h.1];omega),h.1] at c;grind
theorem qqx {es : List (DV × DV)} {a : List MapEntry} (h : Ents w Z es a) {j : Nat} {g d : DV} {x : MapEntry} (k : RelD w Z g x.key) (m : RelD w Z d x.val) (l : Yg d = true) : Ents w Z (es.set j (g,d)) (a.set j x):=by
  refine ⟨by simp [h.1],fun i e y b c=>?_⟩;rw [List.getElem?_set] at b c;by_cases f : j = i
  · grind
  · rw [qp f] at b c;exact h.2 i e y b c
theorem qqv {es : List (DV × DV)} {a : List MapEntry} (h : Ents w Z es a) (j : Nat) : Ents w Z (es.eraseIdx j) (a.eraseIdx j):=by
  refine ⟨by simp [List.length_eraseIdx,h.1],fun i e y c b=>?_⟩;rw [List.getElem?_eraseIdx] at c b;split at c
  · rename_i hi;rw [qq hi] at b;exact h.2 i e y c b
  · rename_i hi;rw [qp hi] at b;exact h.2 (i + 1) e y c b
theorem que {t : TypeId} {m x y : Operand} {i : TI} {ks : List (Option IntKind)} {n : Nat} {es o : List (DV × DV)} {kd vd : DV} (h : RelS w Z inj st a Ds) (ht : tiOf P t = some i) (hk : i.keys = some ks) (q : st.ev m = some (.mp n)) (hx : st.ev x = some (.d kd)) (hy : st.ev y = some (.d vd))
    (hb : st.blk n = some (.mp es)) (k : Ue i.eagg ks kd = true) (hc : Yg vd = true) (v : mput i.eagg ks kd vd es = some o) :
    Km st (st.setBlk n (.mp o)) .dead w Z inj ((do Instr.mapUpdate t (a.eval m) (a.eval x) (a.eval y);pure Next.skip : Sem Next).run P w):=by
  have q:=Kb h q;have f:=Kb h hx;have l:=Kb h hy;generalize a.eval m = mv at q ⊢;generalize a.eval x = kv at f ⊢;generalize a.eval y = vv at l ⊢
  cases f with | d f=>
  cases l with | d l=>
  have z : Zs kd = i.eagg:=by simp only [Ue,Bool.and_eq_true,beq_iff_eq] at k;exact k.1
  have fin : ∀ b c cl g cl',inj n = some (b,0)→w.heap[b]? = some (.map c cl)→Ents w Z o g.toList→(Instr.mapUpdate t mv kv vv).run P w = .ok () (w.putObj b (.map g cl'))→
      Km st (st.setBlk n (.mp o)) .dead w Z inj ((do Instr.mapUpdate t mv kv vv;pure Next.skip : Sem Next).run P w):=by
    intro b c cl g cl' hi hh hE r
    obtain ⟨s,g2⟩:=qmq (pin:=st.nx) (cl':=cl') h.heap hb hi hh hE
    exact ⟨undef,_,inj,.inr ⟨by simp [r],rfl⟩,.dead _,s,g2,rfl,Nat.le_refl _⟩
  unfold mput at v;split at v <;> try simp at v
  · rename_i j hf;subst v;obtain ⟨kt,et,b,c,cl,s,rfl,g3,p,g5,g6,g7,_⟩:=q5k h ht hk q hb f k hf;obtain ⟨e,he,e1,e2⟩:=qg3 hf;obtain ⟨u,hu,q1,q2,q3⟩:=qf7 g5 he;have ai : c[j]? = some u:=by simpa using hu
    have ae:=qse (P:=P) f q1 z e1 e2;refine fin b c cl (c.modify j fun e=>{e with key:=kv,val:=vv}) cl g3 p ?_ ?_
    · have : (c.modify j fun e=>{e with key:=kv,val:=vv}).toList = c.toList.set j {u with key:=kv,val:=vv}:=by
        apply List.ext_getElem?;grind
      rw [this];exact qqx g5 f l hc
    · simp [Instr.mapUpdate,run_underlying s,q5d p,g6,g7,ai,ae,qdd _ p]
  · rename_i hf;subst v;obtain ⟨kt,et,b,c,cl,s,rfl,g3,p,g5,g6,g7,_⟩:=q5k h ht hk q hb f k hf;simp only [Option.bind_none] at g7;refine fin b c cl (c.push {key:=kv,val:=vv,born:=cl}) (cl + 1) g3 p ?_ ?_
    · rw [Array.toList_push];exact qqw g5 f l hc
    · simp [Instr.mapUpdate,run_underlying s,q5d p,g6,g7,qdd _ p]
theorem qu3 {y : Array TypeId} {ty t : TypeId} {mv z : Value} {i : TI} {ks : List (Option IntKind)} {n : Nat} {es k : List (DV × DV)} {kd : DV} (h : RelS w Z inj st a Ds) (ht : tiOf P t = some i) (o : y[0]? = some t) (hk : i.keys = some ks) (hm : RelV w Z inj st.nx (.mp n) mv) (q : RelD w Z kd z)
    (hb : st.blk n = some (.mp es)) (l : Ue i.eagg ks kd = true) (s : mdel i.eagg ks kd es = some k) :
    Km st (st.setBlk n (.mp k)) (.d (.tup [])) w Z inj ((do pure (Next.value (← Builtin.delete_ y ty #[mv,z])) : Sem Next).run P w):=by
  have fin : ∀ b f cl g cl',inj n = some (b,0)→w.heap[b]? = some (.map f cl)→Ents w Z k g.toList→(Builtin.delete_ y ty #[mv,z]).run P w = .ok (.tuple #[]) (w.putObj b (.map g cl'))→
      Km st (st.setBlk n (.mp k)) (.d (.tup [])) w Z inj ((do pure (Next.value (← Builtin.delete_ y ty #[mv,z])) : Sem Next).run P w):=by
    intro b f cl g cl' hi hh hE p
    obtain ⟨r,g2⟩:=qmq (pin:=st.nx) (cl':=cl') h.heap hb hi hh hE
    exact ⟨.tuple #[],_,inj,.inl (Kl p),.d (.tup rfl fun i d c hd _=>by simp at hd),r,g2,rfl,Nat.le_refl _⟩
  unfold mdel at s;split at s <;> try simp at s
  · rename_i j hf;subst s;obtain ⟨kt,et,b,f,cl,r,rfl,g3,m,v,g6,x,_⟩:=q5k h ht hk hm hb q l hf;obtain ⟨e,he,e1,e2⟩:=qg3 hf;obtain ⟨u,hu,q1,q2,q3⟩:=qf7 v he;have ae : f[j]? = some u:=by simpa using hu
    refine fin b f cl (f.eraseIdxIfInBounds j) cl g3 m ?_ ?_
    · rw [Array.toList_eraseIdxIfInBounds];exact qqv v j
    · simp [Builtin.delete_,o,run_underlying r,q5d m,g6,x,ae,qdd _ m]
  · rename_i hf;subst s;obtain ⟨kt,et,b,f,cl,r,rfl,g3,m,v,g6,x,_⟩:=q5k h ht hk hm hb q l hf;simp only [Option.bind_none] at x;refine fin b f cl f cl g3 m v ?_;simp [Builtin.delete_,o,run_underlying r,q5d m,g6,x,qdd _ m]
end
end Go.Am
