/- Am13 Am14 Am15 Am16 Am17 Am18 Am19 -/
import Derived.Test.YtmekakoiicomaaaGreatK2
import Derived.Deep.AppendSrc
import Derived.Room.Entries
import Derived.RangeFuncRecord
import Derived.RangeFuncNested
namespace Go.Am
open Go
variable {P : Program} {T : Tab}
def RowV (w : World) (Z : Nat→Prop) (inj : Inj) (nx : Nat) (arr : Array Value) (o es : Nat) (xs : List (List V)) : Prop:=
  ∀ (i : Nat) (x : List V) (j : Nat) (d : V),xs[i]? = some x→x[j]? = some d→Kt d = true∧∃ c,arr[o + (i * es + j)]? = some c∧RelV w Z inj nx d c
section
variable {w : World} {Z : Nat→Prop} {inj : Inj} {nx : Nat}
theorem RowV.mono {w' : World} {inj' : Inj} {nx' : Nat} {arr : Array Value} {o es : Nat} {xs : List (List V)} (h : RowV w Z inj nx arr o es xs) (a : ∀ v x,RelV w Z inj nx v x→RelV w' Z inj' nx' v x) : RowV w' Z inj' nx' arr o es xs:=
  fun i x j d b hd=>let ⟨h1,c,h2,h3⟩:=h i x j d b hd;⟨h1,c,h2,a _ _ h3⟩
def rowsOf : Blk→Option (Nat × List (List V))
  | .dat es xs=>some (es,xs.map (·.map .d))
  | .cel es xs=>some (es,xs)
  | _=>none
theorem q7m {n : Nat} {b : Blk} {es : Nat} {xs : List (List V)} (h : RelB w Z inj nx n b) (l : rowsOf b = some (es,xs)) :
    es≠0∧(∀ (i : Nat) (x : List V),xs[i]? = some x→x.length = es)∧((xs = []∧inj n = none)∨∃ b o arr ty,inj n = some (b,o)∧w.heap[b]? = some (.cells arr ty (0,0))∧RowV w Z inj nx arr o es xs):=by
  cases b <;> simp only [rowsOf,reduceCtorEq,Option.some.injEq,Prod.mk.injEq] at l
  · obtain ⟨rfl,rfl⟩:=l;obtain ⟨q,g,a⟩:=h;refine ⟨q,?_,?_⟩
    · intro i x f;simp only [List.getElem?_map,Yc] at f;obtain ⟨y,k,rfl⟩:=f;simpa using g i y k
    · rcases a with ⟨a,p⟩ | ⟨b,o,arr,ty,a,p,v⟩
      · exact .inl ⟨by simp [a],p⟩
      · refine .inr ⟨b,o,arr,ty,a,p,fun i x j d f hd=>?_⟩;simp only [List.getElem?_map,Yc] at f;obtain ⟨y,k,rfl⟩:=f;simp only [List.getElem?_map,Yc] at hd;obtain ⟨s,m,rfl⟩:=hd;obtain ⟨t,c,u,r⟩:=v i y j s k m;exact ⟨t,c,u,.d r⟩
  · obtain ⟨rfl,rfl⟩:=l;obtain ⟨q,g,a⟩:=h;exact ⟨q,g,a⟩
theorem q7l {n : Nat} {b : Blk} {es : Nat} {xs : List (List V)} (a : rowsOf b = some (es,xs)) (m : es≠0) (l : ∀ (i : Nat) (x : List V),xs[i]? = some x→x.length = es)
    (h : (xs = []∧inj n = none)∨∃ b o arr ty,inj n = some (b,o)∧w.heap[b]? = some (.cells arr ty (0,0))∧RowV w Z inj nx arr o es xs) : RelB w Z inj nx n b:=by
  cases b <;> simp only [rowsOf,reduceCtorEq,Option.some.injEq,Prod.mk.injEq] at a
  · obtain ⟨rfl,rfl⟩:=a;rename_i xs;refine ⟨m,fun i x g=>?_,?_⟩
    · have:=l i (x.map .d) (by simp [g]);simpa using this
    · rcases h with ⟨f,k⟩ | ⟨b,o,arr,ty,f,k,s⟩
      · exact .inl ⟨by simpa using f,k⟩
      · refine .inr ⟨b,o,arr,ty,f,k,fun i x j d g hd=>?_⟩;obtain ⟨q,c,r,p⟩:=s i (x.map .d) j (.d d) (by simp [g]) (by simp [hd]);refine ⟨q,c,r,?_⟩
        cases p with | d h=>exact h
  · obtain ⟨rfl,rfl⟩:=a;exact ⟨m,l,h⟩
theorem RowV.set {arr k : Array Value} {o es e j : Nat} {xs : List (List V)} {cs ys : List V} (h : RowV w Z inj nx arr o es xs) (y : ∀ (i : Nat) (x : List V),xs[i]? = some x→x.length = es) (t : xs[e]? = some cs) (q : LRel w Z inj nx ys k) (s : ys.all Kt = true)
    (hj : j + ys.length≤cs.length) (m : o + (e * es + j) + k.size≤arr.size) : RowV w Z inj nx (splice arr.toList (o + (e * es + j)) k.toList).toArray o es (xs.set e (splice cs j ys)):=by
  have aa : k.toList.length = ys.length:=by have:=q.1;simp;omega
  have b : o + (e * es + j) + k.toList.length≤arr.toList.length:=by simpa using m
  have z:=y e cs t;intro i x a d f hd;rw [List.getElem?_toArray,q12 _ _ _ _ b];rw [List.getElem?_set] at f;by_cases g : e = i
  · subst g;rw [Q1 rfl,Q1 (Kj t)] at f;simp at f;subst f;rw [q12 _ _ _ _ hj] at hd;by_cases l : j≤a∧a < j + ys.length
    · rw [Q1 l] at hd;obtain ⟨c,v⟩:=Yg (xs:=k) (i:=a - j) (by have:=q.1;omega);rw [Q1 q6,show o + (e * es + a) - (o + (e * es + j)) = a - j by omega];exact ⟨List.all_eq_true.1 s _ (List.mem_of_getElem? hd),c,by simpa using v,q.2 _ _ _ hd v⟩
    · rw [Q2 l] at hd;rw [Q2 q6];obtain ⟨u,c,p,r⟩:=h e cs a d t hd;exact ⟨u,c,by simpa using p,r⟩
  · rw [Q2 g] at f;obtain ⟨u,c,p,r⟩:=h i x a d f hd;refine ⟨u,c,?_,r⟩;have n : a < es:=by have:=Kj hd;have:=y i x f;omega
    rw [Q2 ?_]
    · simpa using p
    · intro v;exact g ((qjv (i:=e) n).1 q6).symm
end
section
variable {w : World} {Z : Nat→Prop} {inj : Inj} {st : AS} {a : Act} {Ds : List Nat}
theorem q16e {t : TypeId} {a : TypeInfo} {x : Value} {b o : Nat} {arr : Array Value} {ty : TypeId} (hi : P.info? t = some a) (hs : x.cells.size = a.size) (f : ∀ c∈x.cells.toList,c.oneCell' = true)
    (hb : w.heap[b]? = some (.cells arr ty (0,0))) (d : o + x.cells.size≤arr.size) :
    (Instr.storeAt t (.pointer (some ⟨b,o,none⟩)) x).run P w = .ok () (w.setRow b (splice arr.toList o x.cells.toList).toArray):=by
  have:=run_storeCells_at P b o ty x.cells.toList 0 arr w hb (by simpa using d) f;simp only [Nat.add_zero] at this;simp only [Instr.storeAt,Instr.sureAddr,storeVar,Sem.run_bind,Sem.run_pure,Result.andThen_ok,Zy hi,Sem.run_ite];rw [Q2 q6];exact this
theorem qy5 {t : TypeId} {i : TI} {p x : Operand} {pv v : V} {st1 : AS} (h : RelS w Z inj st a Ds) (ht : tiOf P t = some i) (hp : st.ev p = some pv) (hx : st.ev x = some v) (hs : Ub st i pv v = some st1) :
    Y6 st st1 .dead w Z inj ((do Instr.storeAt t (a.eval p) (a.eval x);pure .skip : Sem Next).run P w):=by
  obtain ⟨aw,d,z,k⟩:=Yx ht;have af:=Ki h hp;have ah:=Ki h hx;generalize a.eval p = vp at af ⊢;generalize a.eval x = vx at ah ⊢;cases pv <;> simp only [Ub,reduceCtorEq] at hs
  rename_i n k0 e j;split at hs <;> try simp at hs
  rename_i r
  have bf : (cellsOf v).length = i.size:=by
    apply Classical.byContradiction;intro hc;exact r (.inl hc)
  have ai : (cellsOf v).all Kt = true:=by
    cases hc : (cellsOf v).all Kt with
    | true=>rfl
    | false=>exact absurd (.inr hc) r
  cases af with | @ref _ _ _ _ b o hn hi=>
  have key : ∀ (y : Blk) (es : Nat) (xs : List (List V)) (cs : List V) (b1 : Blk),st.blk n = some y→rowsOf y = some (es,xs)→es = k0→xs[e]? = some cs→j + i.size≤cs.length→rowsOf b1 = some (es,xs.set e (splice cs j (cellsOf v)))→st1 = st.setBlk n b1→
      Y6 st st1 .dead w Z inj ((do Instr.storeAt t (.pointer (some ⟨b,o + (e * k0 + j),none⟩)) vx;pure .skip : Sem Next).run P w):=by
    rintro y es xs cs b1 s al rfl g f an rfl
    obtain ⟨g1,g2,g3⟩:=q7m (h.heap.blk n y s).2 al
    rcases g3 with ⟨g3,_⟩ | ⟨b',o',arr,ty,g3,g4,g5⟩
    · subst g3;simp at g
    · rw [hi] at g3;cases g3
      obtain ⟨c1,c2,c3⟩:=qdh ah ai
      have m : live y = true:=by cases y <;> simp_all [rowsOf,live]
      have au:=g2 e cs g
      have bb : 0 < es:=by omega
      have aq : o + (e * es + (es - 1)) < arr.size:=by
        obtain ⟨d0,ao⟩:=J2 (xs:=cs) (i:=es - 1) q6;obtain ⟨_,c,hc,_⟩:=g5 e cs (es - 1) d0 g ao;exact Zn hc
      have l : o + (e * es + j) + vx.cells.size≤arr.size:=by omega
      have ae:=q16e (P:=P) (w:=w) k.inf (x:=vx) (by rw [k.size];omega) c3 g4 l
      have aa : (splice arr.toList (o + (e * es + j)) vx.cells.toList).toArray.size = arr.size:=by
        simp only [List.size_toArray];rw [q32 _ _ _ (by simpa using l)];simp
      have hz : ∀ b1,Z b1→(w.setRow b (splice arr.toList (o + (e * es + j)) vx.cells.toList).toArray).heap[b1]? = w.heap[b1]?:=fun b1 ar=>
        setRow_other w b b1 _ (fun e=>h.heap.out n y _ s m hi (by rw [← e];exact ar))
      have am:=q3d w b arr _ ty (0,0) g4 aa
      refine ⟨undef,_,inj,.inr ⟨by simp [ae],rfl⟩,.dead _,?_,Ext.set h.heap s m hi g4 aa,rfl,Nat.le_refl _⟩
      refine h.heap.set s m hi g4 aa (q7l an g1 ?_ (.inr ⟨b,o,_,ty,hi,setRow_heap w b _ _ _ _ g4,?_⟩))
      · intro i' x' q
        rw [List.getElem?_set] at q
        by_cases aj : e = i'
        · rw [Q1 aj,Q1 (by have:=Kj g;omega)] at q
          simp at q;rw [← q,q32 _ _ _ q6];exact au
        · rw [Q2 aj] at q;exact g2 _ _ q
      · exact (g5.set g2 g ⟨c1,c2⟩ ai q6 l).mono fun v x hr=>hr.mono hz (fun _ h=>h) am (fun _ _=>rfl) (Nat.le_refl _)
  cases hb : st.blk n with
  | none=>simp [hb] at hs
  | some blk=>
    cases blk with
    | dead=>simp [hb] at hs
    | loop=>simp [hb] at hs
    | dat es xs=>
      simp only [hb] at hs;split at hs <;> try simp at hs
      rename_i cs u ab;have u:=Nat.eq_of_beq_eq_true u;have g : (xs.map (·.map V.d))[e]? = some (cs.map V.d):=by simp [ab]
      split at hs
      · rename_i ds ak;simp at hs;obtain ⟨f,hs⟩:=hs;refine key _ _ _ _ _ hb rfl u.symm g (by simpa using f) ?_ hs.symm;simp only [rowsOf,Option.some.injEq,Prod.mk.injEq,true_and];rw [q42 ak];simp [splice,List.map_set,List.map_take,List.map_drop]
      · simp at hs;obtain ⟨f,hs⟩:=hs;exact key _ _ _ _ _ hb rfl u.symm g (by simpa using f) rfl hs.symm
    | cel es xs=>
      simp only [hb] at hs;split at hs <;> try simp at hs
      rename_i cs u ab;have u:=Nat.eq_of_beq_eq_true u;obtain ⟨f,hs⟩:=hs;exact key _ _ _ _ _ hb rfl u.symm ab f rfl hs.symm
end
end Go.Am
namespace Go.Am
open Go
variable {P : Program} {T : Tab}
section
variable {w : World} {Z : Nat→Prop} {inj : Inj} {nx : Nat}
def Ue (w : World) (ad : Option Addr) (L : List Value) (ys : List (List V)) : Prop:=match ad with
  | some p=>∀ (k : Nat) (u : Value),L[k]? = some u→w.cell? (p.add k) = some u
  | none=>ys = []
theorem qi7 {b o es : Nat} {xs : List (List V)} (t : es≠0) (m : ∀ (i : Nat) (x : List V),xs[i]? = some x→x.length = es)
    (h : ∀ (i : Nat) (x : List V) (j : Nat) (d : V),xs[i]? = some x→x[j]? = some d→Kt d = true∧∃ c,w.cell? ⟨b,o + (i * es + j),none⟩ = some c∧RelV w Z inj nx d c) :
    ∃ L : List Value,L.length = xs.length * es∧(∀ (k : Nat) (u : Value),L[k]? = some u→w.cell? ⟨b,o + k,none⟩ = some u)∧ERel w Z inj nx es xs L.toArray:=by
  have g : ∀ k,k < xs.length * es→∃ i x j d c,xs[i]? = some x∧x[j]? = some d∧k = i * es + j∧w.cell? ⟨b,o + k,none⟩ = some c∧RelV w Z inj nx d c:=by
    intro k a;have q : k / es < xs.length:=Nat.div_lt_of_lt_mul (by rwa [Nat.mul_comm]);have n : k % es < es:=Nat.mod_lt _ q6;obtain ⟨x,f⟩:=J2 q;obtain ⟨d,hd⟩:=J2 (xs:=x) (i:=k % es) (by rw [m _ _ f];exact n);obtain ⟨_,c,l,r⟩:=h _ _ _ _ f hd;have a : k = k / es * es + k % es:=by rw [Nat.mul_comm];exact (Nat.div_add_mod k es).symm
    exact ⟨_,_,_,_,c,f,hd,a,by rw [a];exact l,r⟩
  refine ⟨(List.range (xs.length * es)).map fun k=>(w.cell? ⟨b,o + k,none⟩).getD undef,qg,?_,?_⟩
  · intro k u p;have a : k < xs.length * es:=by have:=Kj p;simpa using this
    obtain ⟨_,_,_,_,c,_,_,_,l,_⟩:=g k a;simp [a,l] at p;rw [l,p]
  · refine ⟨qg,m,fun i x j d f hd=>?_⟩;obtain ⟨q,c,n,s⟩:=h i x j d f hd;have a:=q48 (Kj f) (show j < es by have:=Kj hd;have:=m i x f;omega);exact ⟨q,c,by simp [a,n],s⟩
theorem ERel.append {es : Nat} {xs ys : List (List V)} {A B : Array Value} (h : ERel w Z inj nx es xs A) (k : ERel w Z inj nx es ys B) : ERel w Z inj nx es (xs ++ ys) (A ++ B):=by
  obtain ⟨l,o,p⟩:=h;obtain ⟨b1,m,n⟩:=k;refine ⟨by simp [l,b1,Nat.add_mul],?_,?_⟩
  · intro i x a;rw [List.getElem?_append] at a;split at a
    · exact o _ _ a
    · exact m _ _ a
  · intro i x j d a hd;rw [List.getElem?_append] at a;split at a
    · obtain ⟨g,c,b,f⟩:=p i x j d a hd;exact ⟨g,c,by rw [Array.getElem?_append_left (Zn b)];exact b,f⟩
    · rename_i hi;obtain ⟨g,c,b,f⟩:=n _ x j d a hd;refine ⟨g,c,?_,f⟩
      have e : i * es + j = A.size + ((i - xs.length) * es + j):=by
        rw [l,← Nat.add_assoc,← Nat.add_mul];congr 2;omega
      rw [e,Array.getElem?_append_right q6,show A.size + ((i - xs.length) * es + j) - A.size = (i - xs.length) * es + j by omega];exact b
theorem ERel.row {es : Nat} {xs : List (List V)} {A B : Array Value} (h : ERel w Z inj nx es xs A) : RowV w Z inj nx (A ++ B) 0 es xs:=by
  intro i x j d g hd;obtain ⟨b,c,a,f⟩:=h.2.2 i x j d g hd;exact ⟨b,c,by rw [Nat.zero_add,Array.getElem?_append_left (Zn a)];exact a,f⟩
theorem ERel.one {es : Nat} {xs : List (List V)} {L : List Value} (m : es≠0) (h : ERel w Z inj nx es xs L.toArray) : ∀ u∈L,u.oneCell' = true:=by
  intro u l;obtain ⟨k,f⟩:=List.mem_iff_getElem?.1 l;have g:=Kj f;have p : L.length = xs.length * es:=by simpa using h.1
  have o : k / es < xs.length:=Nat.div_lt_of_lt_mul (by rw [Nat.mul_comm];omega);obtain ⟨x,b⟩:=J2 o;obtain ⟨d,hd⟩:=J2 (xs:=x) (i:=k % es) (by rw [h.2.1 _ _ b];exact Nat.mod_lt _ q6);obtain ⟨j,c,a,n⟩:=h.2.2 _ _ _ _ b hd;have e : k / es * es + k % es = k:=by rw [Nat.mul_comm];exact Nat.div_add_mod k es
  rw [e] at a;simp [f] at a;subst a;exact qht n j
theorem ERel.mono {w' : World} {inj' : Inj} {nx' es : Nat} {xs : List (List V)} {A : Array Value} (h : ERel w Z inj nx es xs A) (a : ∀ v x,RelV w Z inj nx v x→RelV w' Z inj' nx' v x) : ERel w' Z inj' nx' es xs A:=
  ⟨h.1,h.2.1,fun i x j d b hd=>let ⟨h1,c,h2,h3⟩:=h.2.2 i x j d b hd;⟨h1,c,h2,a _ _ h3⟩⟩
theorem ERel.nil {es : Nat} : ERel w Z inj nx es [] #[]:=⟨qg,qg,qg⟩
theorem RowV.cells {arr : Array Value} {ty : TypeId} {b o es off len : Nat} {xs : List (List V)} (h : RowV w Z inj nx arr o es xs) (hb : w.heap[b]? = some (.cells arr ty (0,0))) :
    ∀ (i : Nat) (x : List V) (j : Nat) (d : V),((xs.drop off).take len)[i]? = some x→x[j]? = some d→Kt d = true∧∃ c,w.cell? ⟨b,o + off * es + (i * es + j),none⟩ = some c∧RelV w Z inj nx d c:=by
  intro i x j d a hd;rw [List.getElem?_take] at a;split at a
  · rw [List.getElem?_drop] at a;obtain ⟨k,c,f,g⟩:=h _ x j d a hd;refine ⟨k,c,?_,g⟩;simp only [World.cell?,hb];rw [← f];simp only [Option.isSome_none,Bool.false_eq_true,if_false];rw [Nat.add_mul];congr 1;omega
  · simp at a
theorem qir {es off len : Nat} {xs : List (List V)} (b : ∀ (i : Nat) (x : List V),xs[i]? = some x→x.length = es) : ∀ (i : Nat) (x : List V),((xs.drop off).take len)[i]? = some x→x.length = es:=by
  intro i x a;rw [List.getElem?_take] at a;split at a
  · rw [List.getElem?_drop] at a;exact b _ _ a
  · simp at a
end
section
variable {w : World} {Z : Nat→Prop} {inj : Inj} {st : AS} {a : Act} {Ds : List Nat}
theorem qgf {x : V} {ys : List (List DV)} (h : Z5 st x = some ys) : Zi st x = some (ys.map (·.map .d)):=by
  unfold Z5 at h;split at h
  · simp at h;subst h;rfl
  · simp at h;subst h;rfl
  · split at h <;> try simp at h
    rename_i hb;obtain ⟨a,rfl⟩:=h;simp [Zi,hb,a]
  · simp at h
theorem qdk {x : V} {xv : Value} {es : Nat} {ys : List (List V)} (h : RelS w Z inj st a Ds) (l : RelV w Z inj st.nx x xv) (f : Zi st x = some ys) (hf : Jg es x = true) (s : es≠0) :
    ∃ (m : Option Addr) (cap : Nat) (L : List Value),xv = .slice m ys.length cap∧L.length = ys.length * es∧ERel w Z inj st.nx es ys L.toArray∧Ue w m L ys:=by
  unfold Zi at f;split at f
  · simp at f;subst f
    cases l with | d l=>
    cases l;exact ⟨none,0,[],rfl,qg,.nil,(rfl : Ue w none [] [])⟩
  · rename_i g xs;simp at f;subst f;have he:=Nat.eq_of_beq_eq_true hf;subst he
    cases l with | d l=>
    cases l with
    | slnil=>exact ⟨none,0,[],rfl,qg,.nil,(rfl : Ue w none [] [])⟩
    | slemp _ m=>exact ⟨some m,0,[],rfl,qg,.nil,fun k u q=>by simp at q⟩
    | @sl _ _ b o cap p h2 h3 h4 h5=>
      obtain ⟨L,l1,l2,l3⟩:=qi7 (w:=w) (Z:=Z) (inj:=inj) (nx:=st.nx) (b:=b) (o:=o) (xs:=xs.map (·.map V.d)) s
        (fun i x l=>by simp only [List.getElem?_map,Yc] at l;obtain ⟨y,hy,rfl⟩:=l;simpa using h3 i y hy)
        (fun i x j d l hd=>by
          simp only [List.getElem?_map,Yc] at l;obtain ⟨y,hy,rfl⟩:=l;simp only [List.getElem?_map,Yc] at hd;obtain ⟨d',t,rfl⟩:=hd;obtain ⟨g1,c,z⟩:=h4 i y j d' hy t
          exact ⟨g1,c,z,.d (h5 i y j d' c hy t z)⟩)
      exact ⟨some ⟨b,o,none⟩,cap,L,qg,l1,l3,fun k u q=>by rw [Uf];exact l2 k u q⟩
  · rename_i n g off len;have he:=Nat.eq_of_beq_eq_true hf;subst he
    have key : ∀ (b0 : Blk) (xs : List (List V)),st.blk n = some b0→rowsOf b0 = some (g,xs)→off + len≤xs.length→ys = (xs.drop off).take len→
        ∃ (m : Option Addr) (cap : Nat) (L : List Value),xv = .slice m ys.length cap∧L.length = ys.length * g∧ERel w Z inj st.nx g ys L.toArray∧Ue w m L ys:=by
      rintro b0 xs hb hr aq rfl
      have r : ((xs.drop off).take len).length = len:=by simp;omega
      obtain ⟨g1,z,v⟩:=q7m (h.heap.blk n b0 hb).2 hr
      cases l with
      | hsnil=>
        have : (xs.drop off).take 0 = []:=by simp
        rw [this];exact ⟨none,0,[],rfl,qg,.nil,(rfl : Ue w none [] [])⟩
      | @hs _ _ _ _ cap m hn f _ hcap=>
        by_cases h0 : len = 0
        · subst h0;have : (xs.drop off).take 0 = []:=by simp
          rw [this];exact ⟨some m,cap,[],rfl,qg,.nil,fun k u q=>by simp at q⟩
        · obtain ⟨b,o,hi,rfl,am⟩:=hcap q6;rcases v with ⟨v,g4⟩ | ⟨b',o',arr,ty,v,g4,g5⟩
          · rw [hi] at g4;cases g4
          · rw [hi] at v;cases v;obtain ⟨L,l1,l2,l3⟩:=qi7 (w:=w) (Z:=Z) (inj:=inj) (nx:=st.nx) (b:=b) (o:=o + off * g) (xs:=(xs.drop off).take len) s (qir z) (g5.cells g4);exact ⟨some ⟨b,o + off * g,none⟩,cap,L,by rw [r],l1,l3,fun k u q=>by rw [Uf];exact l2 k u q⟩
    split at f
    · rename_i k xs hb;split at f <;> try simp at f
      rename_i p;obtain ⟨p,rfl⟩:=p;subst f;refine key _ (xs.map (·.map V.d)) hb rfl (by simpa using p) qg
    · rename_i k xs hb;split at f <;> try simp at f
      rename_i p;obtain ⟨p,rfl⟩:=p;subst f;exact key _ xs hb rfl p rfl
    · simp at f
  · simp at f
theorem qd0 {es n : Nat} {tx g : TypeId} {c : Option Addr} {cap : Nat} {ys : List (List V)} {L : List Value} (d : es≠0) (f : P.underlying tx = some (.slice g)) (j : n = ys.length) (a : L.length = ys.length * es)
    (h : ERel w Z inj st.nx es ys L.toArray) (b : Ue w c L ys) : Src P es tx (.slice c ys.length cap) n L w:=by
  subst j;refine ⟨.inl ⟨g,f⟩,fun w'=>by simp [Builtin.lenOf],?_,?_,a,h.one d⟩
  · cases c with
    | none=>subst b;simp at a;subst a;simp [Builtin.firstCells]
    | some p=>
      have:=run_loadCells_list (P:=P) w p L b;rw [a] at this;simpa [Builtin.firstCells] using this
  · cases c with
    | none=>subst b;simp at a;subst a;simp [Builtin.firstCells]
    | some p=>
      have:=run_loadCells_list (P:=P) w.drew p L b;rw [a] at this;simpa [Builtin.firstCells] using this
theorem qdd {t tx ty e : TypeId} {i : TypeInfo} (d : P.underlying t = some (.slice e)) (hi : P.info? e = some i) {base : Option Addr} {sLen sCap : Nat} {x : Value} {n : Nat} {news : List Value} (hs : Src P i.size tx x n news w) (a : sLen + n≤sCap)
    {w' : World} (b : match base with | some p=>(storeCells (p.add (sLen * i.size)) news).run P w = .ok () w' | none=>w' = w) :
    (Builtin.append_ #[t,tx] ty #[.slice base sLen sCap,x]).run P w = .ok (.slice base (sLen + n) sCap) w':=by
  cases base with
  | none=>subst b;rcases hs.kind with ⟨f,c⟩ | c <;> simp [Builtin.append_,run_underlying d,run_underlying c,sizeOf,typeInfo,hi,hs.len,a,hs.cells]
  | some p=>rcases hs.kind with ⟨f,c⟩ | c <;> simp [Builtin.append_,run_underlying d,run_underlying c,sizeOf,typeInfo,hi,hs.len,a,hs.cells,b]
end
end Go.Am
namespace Go.Am
open Go
variable {P : Program} {T : Tab}
section
variable {w : World} {Z : Nat→Prop} {inj : Inj}
theorem RelH.newPh {hp : List (Nat × Blk)} {nx : Nat} (d : RelH w Z inj hp nx) (blk : Blk) (hb : RelB w Z (upd inj nx none) (nx + 1) nx blk) : RelH w Z (upd inj nx none) ((nx,blk)::hp) (nx + 1):=by
  refine ⟨?_,?_,?_,d.zs,d.zc⟩
  · intro n b h;rw [Kp] at h;by_cases a : nx = n
    · grind
    · simp only [a,if_false] at h;obtain ⟨k,g⟩:=d.blk n b h;exact ⟨q6,g.mono (fun _ _=>rfl) (fun _ h=>h) (Sem.keepBig_of_same rfl) (fun m f=>Yl _ _ f) q6 k (fun _ _ _=>rfl)⟩
  · intro n m b c p q a f r o hp j l;rw [Kp] at a f;by_cases k : nx = n
    · subst k;rw [Yf] at hp;cases hp
    · by_cases g : nx = m
      · subst g;rw [Yf] at j;cases j
      · simp only [k,g,if_false] at a f;rw [Yl _ _ (d.blk n b a).1] at hp;rw [Yl _ _ (d.blk m c f).1] at j;exact d.sep n m b c p q a f r o hp j l
  · intro n b p h s hp;rw [Kp] at h;by_cases a : nx = n
    · subst a;rw [Yf] at hp;cases hp
    · simp only [a,if_false] at h;rw [Yl _ _ (d.blk n b h).1] at hp;exact d.out n b p h s hp
theorem Ext.newPh {hp : List (Nat × Blk)} {nx : Nat} (m : RelH w Z inj hp nx) (blk : Blk) : Ext w Z inj hp w Z (upd inj nx none) ((nx,blk)::hp) nx:=by
  refine ⟨Nat.le_refl _,fun _ _ _=>rfl,?_,fun _ c e f h=>⟨c,e,f,h,rfl⟩,fun _ r h=>⟨r,h,rfl⟩,fun _ h=>h,fun _ h=>.inl h,fun n k=>Yl _ _ k,rfl,rfl,rfl,fun _=>rfl⟩;rintro b ⟨n,a,d,g,l,j⟩;rw [Kp] at g;by_cases k : nx = n
  · subst k;rw [Yf] at j;cases j
  · simp only [k,if_false] at g;rw [Yl _ _ (m.blk n a g).1] at j;exact .inl ⟨n,a,d,g,l,j⟩
theorem RelH.move {hp : List (Nat × Blk)} {nx n : Nat} (d : RelH w Z inj hp nx) {y blk : Blk} (hn : find hp n = some y) (l : live y = true) {g off x : Nat} (hi : inj n = some (g,off)) {old cs : Array Value} {t : TypeId} {fr : Nat × Nat}
    (hg : w.heap[g]? = some (.cells old t fr)) (hs : cs.size = old.size) (hb : RelB (w.setRow g cs) Z (upd inj nx (some (g,x))) (nx + 1) nx blk) :
    RelH (w.setRow g cs) Z (upd inj nx (some (g,x))) ((nx,blk)::repl hp n .dead) (nx + 1):=by
  have ae : ∀ b,Z b→b≠g:=fun b r e=>d.out n y _ hn l hi (by rw [← e];exact r)
  have key : ∀ m b,find (repl hp n .dead) m = some b→live b = true→find hp m = some b∧n≠m:=by
    intro m b h z;rw [Zj] at h;by_cases f : n = m
    · subst f;simp [hn] at h;subst h;simp [live] at z
    grind
  have j : ∀ m b,find (repl hp n .dead) m = some b→m < nx:=by
    intro m b h;rw [Zj] at h;by_cases f : n = m
    · subst f;exact (d.blk n y hn).1
    · simp only [f,if_false] at h;exact (d.blk m b h).1
  refine ⟨?_,?_,?_,fun b r=>by simpa using d.zs b r,fun b r=>by rw [setRow_other w g b cs (ae b r)];exact d.zc b r⟩
  · intro m b h;rw [Kp] at h;by_cases f : nx = m
    · grind
    · simp only [f,if_false] at h;refine ⟨by have:=j m b h;omega,?_⟩;by_cases z : live b = true
      · obtain ⟨u,s⟩:=key m b h z;obtain ⟨h3,h4⟩:=d.blk m b u;refine h4.mono (fun b r=>setRow_other w g b cs (ae b r)) (fun _ h=>h) (q3d w g old cs t fr hg hs) (fun _ hk=>Yl _ _ hk) q6 h3 ?_;intro p hp' ak;exact setRow_other w g p.1 cs (fun e=>d.sep n m y b _ _ hn u l z hi hp' s e.symm)
      · have : b = .dead:=by cases b <;> simp_all [live]
        subst this;trivial
  · intro m k b c p q u s ab v o a ad;rw [Kp] at u s;by_cases f : nx = m
    · subst f;rw [Yf] at o;cases o;simp only [ad,if_false] at s;obtain ⟨h3,h4⟩:=key k c s v;rw [Yl _ _ (j k c s)] at a;exact fun e=>d.sep n k y c (g,off) q hn h3 l v hi a h4 e
    · simp only [f,if_false] at u;obtain ⟨h3,h4⟩:=key m b u ab;rw [Yl _ _ (j m b u)] at o;by_cases hk : nx = k
      · subst hk;rw [Yf] at a;cases a;exact fun e=>d.sep n m y b (g,off) p hn h3 l ab hi o h4 e.symm
      · simp only [hk,if_false] at s;obtain ⟨h5,h6⟩:=key k c s v;rw [Yl _ _ (j k c s)] at a;exact d.sep m k b c p q h3 h5 ab v o a ad
  · intro m b p h z hp' r;rw [Kp] at h;by_cases f : nx = m
    · subst f;rw [Yf] at hp';cases hp';exact d.out n y _ hn l hi r
    · simp only [f,if_false] at h;obtain ⟨u,_⟩:=key m b h z;rw [Yl _ _ (j m b h)] at hp';exact d.out m b p u z hp' r
theorem Ext.move {hp : List (Nat × Blk)} {nx n : Nat} (u : RelH w Z inj hp nx) {l blk : Blk} (q : find hp n = some l) (d : live l = true) {g off f : Nat} (hi : inj n = some (g,off)) {old cs : Array Value} {t : TypeId} {o : Nat × Nat}
    (p : w.heap[g]? = some (.cells old t o)) (hs : cs.size = old.size) : Ext w Z inj hp (w.setRow g cs) Z (upd inj nx (some (g,f))) ((nx,blk)::repl hp n .dead) nx:=by
  refine ⟨qg,?_,?_,q3d w g old cs t o p hs,qmi w g old cs t o p,fun _ h=>h,fun _ h=>.inl h,fun m k=>Yl _ _ k,rfl,rfl,rfl,qln w g old cs t o p⟩
  · intro b _ hb;exact setRow_other w g b cs (fun e=>hb (by rw [e];exact ⟨n,l,off,q,d,hi⟩))
  · rintro b ⟨m,a,v,c,r,j⟩;rw [Kp] at c;by_cases k : nx = m
    · subst k;rw [Yf] at j;cases j;exact .inl ⟨n,l,off,q,d,hi⟩
    · simp only [k,if_false] at c;rw [Zj] at c;by_cases s : n = m
      · subst s;simp [q] at c;subst c;simp [live] at r
      · simp only [s,if_false] at c;rw [Yl _ _ (u.blk m a c).1] at j;exact .inl ⟨m,a,v,c,r,j⟩
end
section
variable {w : World} {Z : Nat→Prop} {inj : Inj} {st : AS} {a : Act} {Ds : List Nat}
theorem qu6 {a cap b : Nat} (c : cap < a) (d : a * (b * 4)≤room) : Builtin.nextslicecap a cap * b≤281474976710656:=by
  have f:=Nat.mul_le_mul_right b (Room.nextslicecap_le' c);have g : 2 * a * b≤a * (b * 4):=by rw [Nat.mul_comm b 4,← Nat.mul_assoc];exact Nat.mul_le_mul_right b q6
  unfold room at d;omega
theorem qvs {a b : Nat} (hb : b≠0) (c : a * (b * 4)≤room) : a≤4294967296:=by
  have : a * 1≤a * (b * 4):=Nat.mul_le_mul_left _ q6;unfold room at c;omega
theorem qfw {t u ty : TypeId} {i : TI} {e e' : TypeId} {o : TypeInfo} {q : Value} (_h : RelS w Z inj st a Ds) (hu : P.underlying t = some (.slice e)) (ab : P.underlying u = some (.slice e')) (g1 : P.info? e = some o) (g3 : o.zero = some q)
    (g6 : o.size = i.esize) (g7 : i.esize≠0) (g8 : o.bytes = i.ebytes) (g9 : i.ebytes≠0) (gz : q.cells.size = i.esize) {hp1 : List (Nat × Blk)} (hh : RelH w Z inj hp1 st.nx) (z : Ext w Z inj st.hp w Z inj hp1 st.nx)
    {base ad : Option Addr} {cap cap' : Nat} {olds ys : List (List V)} {L0 l : List Value} (n : L0.length = olds.length * i.esize) (p : ERel w Z inj st.nx i.esize olds L0.toArray) (aa : Ue w base L0 olds)
    (y : l.length = ys.length * i.esize) (r : ERel w Z inj st.nx i.esize ys l.toArray) (af : Ue w ad l ys) (hg : cap < olds.length + ys.length) (c : (olds.length + ys.length) * (i.ebytes * 4)≤room)
    {b1 : Blk} (ag : rowsOf b1 = some (i.esize,olds ++ ys)) :
    ∃ x w' inj',(Builtin.append_ #[t,u] ty #[.slice base olds.length cap,.slice ad ys.length cap']).run P w = .ok x w'∧RelV w' Z inj' (st.nx + 1) (.hs st.nx i.esize 0 (olds.length + ys.length)) x∧RelH w' Z inj' ((st.nx,b1)::hp1) (st.nx + 1)∧
      Ext w Z inj st.hp w' Z inj' ((st.nx,b1)::hp1) st.nx:=by
  have k:=qd0 (P:=P) (tx:=t) (cap:=cap) g7 hu rfl n p aa;have j:=qd0 (P:=P) (tx:=u) (cap:=cap') g7 ab rfl y r af;rw [← g6] at k j;have av:=qvs g9 c;have g:=qu6 hg c;rw [← g8] at g;have d:=run_append_grow_src (P:=P) w t u ty e o q hu g1 g3 base olds.length cap L0 k.cellsD (.slice ad ys.length cap') ys.length l j hg q6 g;have m:=grownCap_ge w (olds.length + ys.length) cap e;generalize grownCap w (olds.length + ys.length) cap e = C at d m;generalize hA : (L0 ++ l).toArray ++ Builtin.zeroCells q.cells (C - (olds.length + ys.length)) = A at d;have f : RelH w.drew Z inj hp1 st.nx:=hh.same rfl;have s : ERel w Z inj st.nx i.esize (olds ++ ys) (L0.toArray ++ l.toArray):=p.append r
  have mono : ∀ v x,RelV w Z inj st.nx v x→RelV (w.drew.alloc (.cells A e)) Z (upd inj st.nx (some (w.heap.size,0))) (st.nx + 1) v x:=fun v x hv=>
    hv.mono (fun b hz=>Ja w.drew _ (hh.zs b hz)) (fun _ h=>h) (q3c w.drew _) (fun _ hm=>Yl _ _ hm) q6
  refine ⟨_,_,upd inj st.nx (some (w.heap.size,0)),d,?_,?_,?_⟩
  · refine .hs q6 m rfl fun _=>⟨w.heap.size,0,Yf _ _ _,qg,A,e,(0,0),q16 w.drew _,?_⟩
    have h1 : A.size = L0.length + l.length + (C - (olds.length + ys.length)) * i.esize:=by
      rw [← hA];simp [Builtin.zeroCells,gz]
    rw [h1,n,y,← Nat.add_mul,← Nat.add_mul];grind
  · refine f.new (.cells A e) b1 0 ?_;refine q7l ag g7 s.2.1 (.inr ⟨w.heap.size,0,A,e,Yf _ _ _,q16 w.drew _,?_⟩);have h9:=(s.row (B:=Builtin.zeroCells q.cells (C - (olds.length + ys.length)))).mono mono;simp_all
  · refine z.trans ?_ (Nat.le_refl _);have e1 : Ext w Z inj hp1 w.drew Z inj hp1 st.nx:=Ext.same rfl rfl rfl rfl;exact e1.trans (Ext.new f (.cells A e) b1 0) (Nat.le_refl _)
theorem qqt {t u ty : TypeId} {i : TI} {e e' : TypeId} {ie : TypeInfo} (h : RelS w Z inj st a Ds) (hu : P.underlying t = some (.slice e)) (bb : P.underlying u = some (.slice e')) (g1 : P.info? e = some ie)
    (g6 : ie.size = i.esize) (g7 : i.esize≠0) {n off len cap cap' b o : Nat} {b0 b1 : Blk} {xs ys : List (List V)} (s : st.blk n = some b0) (ar : rowsOf b0 = some (i.esize,xs)) (br : off + len≤xs.length)
    (hi : inj n = some (b,o)) (ak : Big w b (o + (off + cap) * i.esize)) (_hlc : len≤cap)
    {ad : Option Addr} {g : List Value} (aj : g.length = ys.length * i.esize) (q : ERel w Z inj st.nx i.esize ys g.toArray) (au : Ue w ad g ys) (hg : len + ys.length≤cap)
    (bd : rowsOf b1 = some (i.esize,(xs.drop off).take len ++ ys)) :
    ∃ x w' inj',(Builtin.append_ #[t,u] ty #[.slice (some ⟨b,o + off * i.esize,none⟩) len cap,.slice ad ys.length cap']).run P w = .ok x w'∧RelV w' Z inj' (st.nx + 1) (.hs st.nx i.esize 0 (len + ys.length)) x∧
      RelH w' Z inj' ((st.nx,b1)::repl st.hp n .dead) (st.nx + 1)∧Ext w Z inj st.hp w' Z inj' ((st.nx,b1)::repl st.hp n .dead) st.nx:=by
  have ah:=qd0 (P:=P) (tx:=u) (cap:=cap') g7 bb rfl aj q au;obtain ⟨q1,q2,q3⟩:=q7m (h.heap.blk n b0 s).2 ar;rcases q3 with ⟨_,q4⟩ | ⟨b',o',arr,z,q3,q4,q5⟩
  · grind
  rw [hi] at q3;cases q3;have k : live b0 = true:=by cases b0 <;> simp_all [rowsOf,live]
  have ao : o + (off + cap) * i.esize≤arr.size:=by
    obtain ⟨c,e2,f,k1,k2⟩:=ak;grind
  have bc : g.length = ys.length * i.esize:=aj;have af : (len + ys.length) * i.esize≤cap * i.esize:=Nat.mul_le_mul_right _ hg;rw [Nat.add_mul] at af ao;have m : o + off * i.esize + len * i.esize + g.length≤arr.size:=by omega
  have aa:=run_storeCells_at P b (o + off * i.esize + len * i.esize) z g 0 arr w q4 (by simpa using m) (q.one g7);simp only [Nat.add_zero] at aa;have aw : (arr.toList.take (o + off * i.esize + len * i.esize) ++ g ++ arr.toList.drop (o + off * i.esize + len * i.esize + g.length)).toArray = (splice arr.toList (o + off * i.esize + len * i.esize) g).toArray:=rfl;rw [aw] at aa
  have ag:=qdd (P:=P) (w:=w) (ty:=ty) hu g1 (base:=some ⟨b,o + off * i.esize,none⟩) (sLen:=len) (sCap:=cap) (x:=.slice ad ys.length cap') (n:=ys.length) (news:=g) (by rw [g6];exact ah) hg
    (w':=w.setRow b (splice arr.toList (o + off * i.esize + len * i.esize) g).toArray) (by show (storeCells ((⟨b,o + off * i.esize,none⟩ : Addr).add (len * ie.size)) g).run P w = _;rw [Uf,g6];exact aa)
  have r : o + off * i.esize + len * i.esize + g.length≤arr.toList.length:=by simpa using m
  have p : (splice arr.toList (o + off * i.esize + len * i.esize) g).toArray.size = arr.size:=by simp [q32 _ _ _ r]
  have hz : ∀ b1,Z b1→(w.setRow b (splice arr.toList (o + off * i.esize + len * i.esize) g).toArray).heap[b1]? = w.heap[b1]?:=fun b1 ba=>
    setRow_other w b b1 _ (fun e=>h.heap.out n b0 _ s k hi (by rw [← e];exact ba))
  have av:=q3d w b arr _ z (0,0) q4 p
  have mono : ∀ v x,RelV w Z inj st.nx v x→RelV (w.setRow b (splice arr.toList (o + off * i.esize + len * i.esize) g).toArray) Z (upd inj st.nx (some (b,o + off * i.esize))) (st.nx + 1) v x:=fun v x hv=>
    hv.mono hz (fun _ h=>h) av (fun _ hm=>Yl _ _ hm) q6
  have y : ((xs.drop off).take len).length = len:=by simp;omega
  refine ⟨_,_,upd inj st.nx (some (b,o + off * i.esize)),ag,?_,?_,Ext.move h.heap s k hi q4 p⟩
  · refine .hs q6 hg rfl fun _=>⟨b,o + off * i.esize,Yf _ _ _,qg,_,_,_,setRow_heap w b _ _ _ _ q4,?_⟩
    grind
  · refine h.heap.move s k hi q4 p (q7l bd g7 ?_ (.inr ⟨b,o + off * i.esize,_,z,Yf _ _ _,setRow_heap w b _ _ _ _ q4,?_⟩))
    · intro j x l;rw [List.getElem?_append] at l;split at l
      · grind
      · exact q.2.1 _ _ l
    · intro j x j' d l hd;rw [List.getElem?_toArray,q12 _ _ _ _ r];rw [List.getElem?_append] at l;split at l
      · rename_i hj;rw [y] at hj;have ax:=qir q2 j x l;have ac : j' < i.esize:=by have:=Kj hd;omega
        have hc:=q48 hj ac;rw [Q2 q6];rw [List.getElem?_take] at l;rw [Q1 hj,List.getElem?_drop] at l;obtain ⟨k1,c,k2,k3⟩:=q5 _ x j' d l hd;grind
      · rename_i hj;rw [y] at hj l;obtain ⟨k1,c,k2,k3⟩:=q.2.2 _ x j' d l hd;have ay:=Kj l;have ax:=q.2.1 _ x l;have ac : j' < i.esize:=by have:=Kj hd;omega
        have hc:=q48 ay ac;have he : j * i.esize = len * i.esize + (j - len) * i.esize:=by rw [← Nat.add_mul];congr 1;omega
        grind
theorem qxm {t u ty : TypeId} {i j : TI} {sv xv v : V} {vs vx : Value} {st1 : AS} (h : RelS w Z inj st a Ds) (ht : tiOf P t = some i) (hu : tiOf P u = some j) (br : i.kind = .slice) (bo : j.kind = .slice) (hf : Jg i.esize xv = true)
    (am : RelV w Z inj st.nx sv vs) (ax : RelV w Z inj st.nx xv vx) (f : Zb st i sv xv = some (v,st1)) :
    ∃ x w' inj',(Builtin.append_ #[t,u] ty #[vs,vx]).run P w = .ok x w'∧RelV w' Z inj' st1.nx v x∧RelH w' Z inj' st1.hp st1.nx∧Ext w Z inj st.hp w' Z inj' st1.hp st.nx∧st1.sl = st.sl∧st.nx≤st1.nx:=by
  obtain ⟨bz,d,z,k⟩:=Yx ht;obtain ⟨bk,d',z',k'⟩:=Yx hu;have hk:=k.kind;have aq:=k'.kind;unfold Zr at hk aq;simp only [br,bo] at hk aq;obtain ⟨e,ie,de,ze,rfl,g1,g2,g3,g4,g5,g6,g7,g8,g9,_⟩:=hk;obtain ⟨e',_,_,_,rfl,_⟩:=aq;have gz : ze.cells.size = i.esize:=by have:=(q9x g4).1;simp at this;omega
  have q : ∀ ys b1,Zi st xv = some ys→vs = .slice none 0 0→rowsOf b1 = some (i.esize,ys)→ys.length * (i.ebytes * 4)≤room→ys.length≠0→
      ∃ x w' inj',(Builtin.append_ #[t,u] ty #[vs,vx]).run P w = .ok x w'∧RelV w' Z inj' (st.nx + 1) (.hs st.nx i.esize 0 ys.length) x∧RelH w' Z inj' ((st.nx,b1)::st.hp) (st.nx + 1)∧Ext w Z inj st.hp w' Z inj' ((st.nx,b1)::st.hp) st.nx:=by
    rintro ys b1 hc rfl hr c ca
    obtain ⟨ad,cap',L1,rfl,m,s,r⟩:=qdk h ax hc hf g7
    have:=qfw (P:=P) (ty:=ty) h k.und k'.und g1 g3 g6 g7 g8 g9 gz h.heap Ext.refl (base:=none) (cap:=0) (olds:=[]) (L0:=[]) qg .nil (rfl : Ue w none [] []) (cap':=cap') m s r (by simp;omega) (by simpa using c) (b1:=b1) (by simpa using hr)
    simpa using this
  have ab : ∀ ys,Zi st xv = some ys→vs = .slice none 0 0→ys.length = 0→(Builtin.append_ #[t,u] ty #[vs,vx]).run P w = .ok (.slice none 0 0) w:=by
    rintro ys hc rfl y;obtain ⟨ad,cap',L1,rfl,m,s,r⟩:=qdk h ax hc hf g7;have ae:=qd0 (P:=P) (tx:=u) (cap:=cap') g7 k'.und rfl m s r;have:=qdd (P:=P) (w:=w) (ty:=ty) k.und g1 (base:=none) (sLen:=0) (sCap:=0) (by rw [g6];exact ae) q6 (w':=w) rfl;grind
  have l : ∀ n off len xs ys b0 b1,sv = .hs n i.esize off len→st.blk n = some b0→rowsOf b0 = some (i.esize,xs)→off + len≤xs.length→Zi st xv = some ys→rowsOf b1 = some (i.esize,(xs.drop off).take len ++ ys)→
      (len + ys.length) * (i.ebytes * 4)≤room→
      ∃ x w' inj',(Builtin.append_ #[t,u] ty #[vs,vx]).run P w = .ok x w'∧RelV w' Z inj' (st.nx + 1) (.hs st.nx i.esize 0 (len + ys.length)) x∧RelH w' Z inj' ((st.nx,b1)::repl st.hp n .dead) (st.nx + 1)∧
        Ext w Z inj st.hp w' Z inj' ((st.nx,b1)::repl st.hp n .dead) st.nx:=by
    rintro n off len xs ys b0 b1 rfl be ba bu hc ac c
    obtain ⟨ad,cap',L1,rfl,m,s,r⟩:=qdk h ax hc hf g7
    have ae:=qd0 (P:=P) (tx:=u) (cap:=cap') g7 k'.und rfl m s r
    have ai : ((xs.drop off).take len).length = len:=by simp;omega
    obtain ⟨q1,q2,q3⟩:=q7m (h.heap.blk n b0 be).2 ba
    have p : RelH w Z inj (repl st.hp n .dead) st.nx:=h.heap.drop
    have aa : Ext w Z inj st.hp w Z inj (repl st.hp n .dead) st.nx:=Ext.drop
    have ph : len = 0→ys.length = 0→RelH w Z (upd inj st.nx none) ((st.nx,b1)::repl st.hp n .dead) (st.nx + 1)∧Ext w Z inj st.hp w Z (upd inj st.nx none) ((st.nx,b1)::repl st.hp n .dead) st.nx:=by
      intro h1 h2;have ao : (xs.drop off).take len ++ ys = []:=by subst h1;simp [List.eq_nil_of_length_eq_zero h2]
      refine ⟨p.newPh b1 (q7l ac g7 (by rw [ao];simp) (.inl ⟨ao,Yf _ _ _⟩)),aa.trans (Ext.newPh p b1) (Nat.le_refl _)⟩
    cases am with
    | hsnil hm=>
      by_cases y : ys.length = 0
      · obtain ⟨p1,p2⟩:=ph rfl y;have:=qdd (P:=P) (w:=w) (ty:=ty) k.und g1 (base:=none) (sLen:=0) (sCap:=0) (by rw [g6];exact ae) q6 (w':=w) rfl;refine ⟨_,w,_,this,?_,p1,p2⟩;simp only [Nat.zero_add,y];exact .hsnil q6
      · have:=qfw (P:=P) (ty:=ty) h k.und k'.und g1 g3 g6 g7 g8 g9 gz p aa (base:=none) (cap:=0) (olds:=[]) (L0:=[]) qg .nil (rfl : Ue w none [] []) (cap':=cap') m s r (by simp;omega) (by simpa using c) (b1:=b1) (by simpa using ac);simpa using this
    | @hs _ _ _ _ cap adr hm hcl hsp hcap=>
      by_cases hg : len + ys.length≤cap
      · by_cases az : cap = 0
        · obtain ⟨p1,p2⟩:=ph q6 q6;have hL : L1 = []:=List.eq_nil_of_length_eq_zero (by rw [m,show ys.length = 0 by omega];simp);have:=qdd (P:=P) (w:=w) (ty:=ty) k.und g1 (base:=some adr) (sLen:=len) (sCap:=cap) (by rw [g6];exact ae) hg (w':=w) (by subst hL;show (storeCells _ []).run P w = _;simp [storeCells]);exact ⟨_,w,_,this,.hs q6 hg hsp (fun h=>absurd az h),p1,p2⟩
        · obtain ⟨b,o,hi,rfl,ap⟩:=hcap az;exact qqt (P:=P) (ty:=ty) h k.und k'.und g1 g6 g7 be ba bu hi ap hcl (cap':=cap') m s r hg ac
      · have hold : ∃ L0 : List Value,L0.length = ((xs.drop off).take len).length * i.esize∧ERel w Z inj st.nx i.esize ((xs.drop off).take len) L0.toArray∧Ue w (some adr) L0 ((xs.drop off).take len):=by
          by_cases y : len = 0
          · subst y;exact ⟨[],qg,by simpa using ERel.nil,fun k u hu=>by simp at hu⟩
          · obtain ⟨b,o,hi,rfl,ap⟩:=hcap q6;rcases q3 with ⟨_,q4⟩ | ⟨b',o',arr,cj,q3,q4,q5⟩
            · rw [hi] at q4;cases q4
            · rw [hi] at q3;cases q3;obtain ⟨L,l1,l2,l3⟩:=qi7 (w:=w) (Z:=Z) (inj:=inj) (nx:=st.nx) (b:=b) (o:=o + off * i.esize) (xs:=(xs.drop off).take len) g7 (qir q2) (q5.cells q4);exact ⟨L,l1,l3,fun k u hu=>by rw [Uf];exact l2 k u hu⟩
        obtain ⟨L0,a1,a2,a3⟩:=hold;have:=qfw (P:=P) (ty:=ty) h k.und k'.und g1 g3 g6 g7 g8 g9 gz p aa (base:=some adr) (cap:=cap) a1 a2 a3 (cap':=cap') m s r (by rw [ai];omega) (by rw [ai];exact c) (b1:=b1) ac;rw [ai] at this;exact this
  cases sv <;> simp only [Zb,reduceCtorEq] at f
  case d x=>
    cases x <;> simp only [reduceCtorEq] at f
    cases am with | d am=>
    cases am
    cases af : Z5 st xv with
    | some ys=>
      simp only [af] at f;split at f <;> try simp at f
      rename_i c;have g:=qgf af;by_cases y : ys = []
      · rw [Q1 y] at f;simp at f;obtain ⟨rfl,rfl⟩:=f;exact ⟨_,w,inj,ab _ g rfl (by simpa using y),.d .nilsl,h.heap,.refl,rfl,Nat.le_refl _⟩
      · rw [Q2 y] at f;simp at f;obtain ⟨rfl,rfl⟩:=f;have:=q _ (.dat i.esize ys) g rfl rfl (by simpa using c) (by simpa using y);obtain ⟨x,w',inj',h1,h2,h3,h4⟩:=this;exact ⟨x,w',inj',h1,by simpa [AS.new] using h2,h3,h4,rfl,by simp [AS.new]⟩
    | none=>
      simp only [af] at f
      cases g : Zi st xv with
      | none=>simp [g] at f
      | some ys=>
        simp only [g] at f;split at f <;> try simp at f
        rename_i c;by_cases y : ys = []
        · rw [Q1 y] at f;simp at f;obtain ⟨rfl,rfl⟩:=f;exact ⟨_,w,inj,ab _ g rfl (by simpa using y),.d .nilsl,h.heap,.refl,rfl,Nat.le_refl _⟩
        · rw [Q2 y] at f;simp at f;obtain ⟨rfl,rfl⟩:=f;obtain ⟨x,w',inj',h1,h2,h3,h4⟩:=q _ (.cel i.esize ys) g rfl rfl c (by simpa using y);exact ⟨x,w',inj',h1,by simpa [AS.new] using h2,h3,h4,rfl,by simp [AS.new]⟩
  case hs n es off len=>
    split at f
    · rename_i k0 xs ys hb af;split at f <;> simp at f
      rename_i aw;obtain ⟨c1,rfl,c3,rfl⟩:=aw;obtain ⟨rfl,rfl⟩:=f;have:=l n off len (xs.map (·.map .d)) (ys.map (·.map .d)) _ (.dat i.esize ((xs.drop off).take len ++ ys)) rfl hb rfl (by simpa using c1) (qgf af) (by simp [rowsOf,List.map_take,List.map_drop]) (by simpa using c3);obtain ⟨x,w',inj',h1,h2,h3,h4⟩:=this;exact ⟨x,w',inj',h1,by simpa [AS.new,AS.setBlk] using h2,h3,h4,rfl,by simp [AS.new,AS.setBlk]⟩
    · rename_i k0 xs hb af;split at f <;> try simp at f
      rename_i ys g;obtain ⟨⟨c1,rfl,c3,rfl⟩,rfl,rfl⟩:=f;have:=l n off len (xs.map (·.map .d)) ys _ (.cel i.esize ((((xs.map (·.map V.d)).drop off).take len) ++ ys)) rfl hb rfl (by simpa using c1) g rfl c3;obtain ⟨x,w',inj',h1,h2,h3,h4⟩:=this;exact ⟨x,w',inj',h1,by simpa [AS.new,AS.setBlk] using h2,h3,h4,rfl,by simp [AS.new,AS.setBlk]⟩
    · rename_i k0 xs hb;split at f <;> try simp at f
      rename_i ys g;obtain ⟨⟨c1,rfl,c3,rfl⟩,rfl,rfl⟩:=f;have:=l n off len xs ys _ (.cel i.esize ((xs.drop off).take len ++ ys)) rfl hb rfl c1 g rfl c3;obtain ⟨x,w',inj',h1,h2,h3,h4⟩:=this;exact ⟨x,w',inj',h1,by simpa [AS.new,AS.setBlk] using h2,h3,h4,rfl,by simp [AS.new,AS.setBlk]⟩
    · simp at f
end
end Go.Am
namespace Go.Am
open Go
variable {P : Program} {T : Tab}
section
variable {w : World} {Z : Nat→Prop} {inj : Inj} {nx : Nat}
theorem RowV.spliceRows {arr : Array Value} {o es off : Nat} {xs ys : List (List V)} {L : List Value} (h : RowV w Z inj nx arr o es xs) (n : ∀ (i : Nat) (x : List V),xs[i]? = some x→x.length = es) (f : ERel w Z inj nx es ys L.toArray)
    (k : off + ys.length≤xs.length) (b : o + off * es + L.length≤arr.size) : RowV w Z inj nx (splice arr.toList (o + off * es) L).toArray o es (splice xs off ys):=by
  have u : L.length = ys.length * es:=by simpa using f.1
  intro i x j d a hd;rw [q12 _ _ _ _ k] at a;rw [List.getElem?_toArray,q12 _ _ _ _ (by simpa using b)];by_cases hi : off≤i∧i < off + ys.length
  · rw [Q1 hi] at a;obtain ⟨m,c,p,l⟩:=f.2.2 _ x j d a hd;have g : j < es:=by have:=Kj hd;have:=f.2.1 _ x a;omega
    have r:=q48 (Kj a) g;have s : i * es = off * es + (i - off) * es:=by rw [← Nat.add_mul];congr 1;omega
    grind
  · rw [Q2 hi] at a;obtain ⟨m,c,p,l⟩:=h i x j d a hd;have g : j < es:=by have:=Kj hd;have:=n _ x a;omega
    refine ⟨m,c,?_,l⟩;rw [Q2 ?_]
    · grind
    · intro r;by_cases q : i < off
      · have:=q48 q g;omega
      · have t : (off + ys.length) * es≤i * es:=Nat.mul_le_mul_right _ q6;grind
theorem ERel.take {es m : Nat} {xs : List (List V)} {L : List Value} (h : ERel w Z inj nx es xs L.toArray) (b : m≤xs.length) : ERel w Z inj nx es (xs.take m) (L.take (m * es)).toArray:=by
  obtain ⟨k,f,g⟩:=h;simp only [List.size_toArray] at k;have:=Nat.mul_le_mul_right es b;refine ⟨by simp;rw [Nat.min_eq_left b];omega,?_,?_⟩
  · grind
  · intro i x j d a hd;rw [List.getElem?_take] at a;split at a
    · rename_i hi;obtain ⟨n,c,o,l⟩:=g i x j d a hd;have p:=q48 hi (show j < es by have:=Kj hd;have:=f _ x a;omega);grind
    grind
end
section
variable {w : World} {Z : Nat→Prop} {inj : Inj} {st : AS} {a : Act} {Ds : List Nat}
theorem qxu {t u ty : TypeId} {i j : TI} {sv xv v : V} {vs vx : Value} {st1 : AS} (h : RelS w Z inj st a Ds) (ht : tiOf P t = some i) (_hu : tiOf P u = some j) (bt : i.kind = .slice) (_hjk : j.kind = .slice) (br : Jg i.esize sv = true) (hf : Jg i.esize xv = true)
    (aw : RelV w Z inj st.nx sv vs) (bp : RelV w Z inj st.nx xv vx) (ha : copyV st sv xv = some (v,st1)) :
    ∃ x w' inj',(Builtin.copy_ #[t,u] ty #[vs,vx]).run P w = .ok x w'∧RelV w' Z inj' st1.nx v x∧RelH w' Z inj' st1.hp st1.nx∧Ext w Z inj st.hp w' Z inj' st1.hp st.nx∧st1.sl = st.sl∧st.nx≤st1.nx:=by
  obtain ⟨ce,d,z,k⟩:=Yx ht;have hk:=k.kind;unfold Zr at hk;simp only [bt] at hk;obtain ⟨e,ie,de,ze,rfl,g1,g2,g3,g4,g5,g6,g7,g8,g9,_⟩:=hk;cases sv <;> simp only [copyV,reduceCtorEq] at ha
  rename_i n es off len;have bn:=Nat.eq_of_beq_eq_true br;subst bn;split at ha <;> try simp at ha
  rename_i k0 xs ys hb bo;obtain ⟨⟨cq,rfl⟩,rfl,rfl⟩:=ha;obtain ⟨ad,cap',L1,rfl,am,bm,av⟩:=qdk h bp (qgf bo) hf g7;rw [List.length_map] at am ⊢
  let m:=min ys.length len
  have hm : m = min ys.length len:=rfl;rw [← hm];obtain ⟨q1,q2,q3⟩:=q7m (h.heap.blk n _ hb).2 rfl;have cc : (xs.map (·.map V.d)).length = xs.length:=by simp
  have bv : m * i.esize≤ys.length * i.esize:=Nat.mul_le_mul_right _ q6
  have ag : (Builtin.firstCells i.esize m (.slice ad ys.length cap')).run P w = .ok (L1.take (m * i.esize)).toArray w:=by
    cases ad with
    | none=>
      have au : ys.map (·.map V.d) = []:=av;have : ys = []:=by simpa using au
      subst this;simp at am;subst am;simp [Builtin.firstCells]
    | some p=>
      have:=run_loadCells_list (P:=P) w p (L1.take (m * i.esize)) (fun k u hu=>by
        rw [List.getElem?_take] at hu;split at hu
        · exact av k u hu
        · simp at hu)
      rw [List.length_take,Nat.min_eq_left q6] at this;simpa [Builtin.firstCells] using this
  have l : ∀ base y ai,y = len→vs = .slice base y ai→∀ w',(match base with | some p=>(storeCells p (L1.take (m * i.esize))).run P w = .ok () w' | none=>w' = w)→
      (Builtin.copy_ #[t,u] ty #[vs,.slice ad ys.length cap']).run P w = .ok (.int .i64 m) w':=by
    rintro base y ai rfl rfl w' aa
    have aq:=ag
    rw [← g6] at aq
    have aj : Nat.min ys.length y = m:=rfl
    cases base with
    | none=>
      subst aa;simp [Builtin.copy_,run_underlying k.und,Builtin.lenOf,Zy g1,goInt,aj,aq]
    | some p=>
      have ah : (storeCells p (L1.take (m * i.esize))).run P w = .ok () w':=aa;rw [← g6] at ah;simp [Builtin.copy_,run_underlying k.und,Builtin.lenOf,Zy g1,ah,goInt,aj,aq]
  have s : live (.dat i.esize xs) = true:=rfl
  have same : m = 0→RelH w Z inj (repl st.hp n (.dat i.esize (splice xs off (ys.take m)))) st.nx∧Ext w Z inj st.hp w Z inj (repl st.hp n (.dat i.esize (splice xs off (ys.take m)))) st.nx:=by
    intro h0;have an : splice xs off (ys.take m) = xs:=by rw [h0];simp [splice]
    rw [an]
    have g : ∀ q,find (repl st.hp n (.dat i.esize xs)) q = find st.hp q:=by
      intro q;rw [Zj];by_cases hq : n = q
      · subst hq;have : find st.hp n = some (.dat i.esize xs):=hb;simp [this]
      · simp [hq]
    constructor
    · exact ⟨fun q b hq=>h.heap.blk q b (by rw [g] at hq;exact hq),fun q r b c p' q' h1 h2=>h.heap.sep q r b c p' q' (by rw [g] at h1;exact h1) (by rw [g] at h2;exact h2),fun q b p' h1=>h.heap.out q b p' (by rw [g] at h1;exact h1),h.heap.zs,h.heap.zc⟩
    · exact {Ext.refl (w:=w) (Z:=Z) (inj:=inj) (hp:=st.hp) (pin:=st.nx) with imm:=fun b hb=>by obtain ⟨q,blk,o,h1,h2,h3⟩:=hb;rw [g] at h1;exact .inl ⟨q,blk,o,h1,h2,h3⟩}
  have ae : ∀ w' inj' nx',RelV w' Z inj' nx' (.d (.int .i64 ((min ys.length len : Nat) : Int))) (.int .i64 (m : Nat)):=fun _ _ _=>.d (.int _ _);by_cases h0 : m = 0
  · obtain ⟨s1,s2⟩:=same h0
    cases aw with
    | hsnil=>exact ⟨_,w,inj,l none _ _ rfl rfl w rfl,ae _ _ _,s1,s2,rfl,Nat.le_refl _⟩
    | @hs _ _ _ _ cap adr hn' hlc _ hcap=>exact ⟨_,w,inj,l (some adr) _ _ rfl rfl w (by show (storeCells _ _).run P w = _;rw [h0];simp [storeCells]),ae _ _ _,s1,s2,rfl,Nat.le_refl _⟩
  · cases aw with
    | hsnil=>omega
    | @hs _ _ _ _ cap adr hn' hlc _ hcap=>
      obtain ⟨b,o,hi,rfl,ay⟩:=hcap q6;rcases q3 with ⟨_,q4⟩ | ⟨b',o',arr,ao,q3,q4,q5⟩
      · grind
      rw [hi] at q3;cases q3;have hL : (L1.take (m * i.esize)).length = m * i.esize:=by rw [List.length_take,Nat.min_eq_left q6]
      have af:=bm.take (m:=m) (by simp;omega)
      have bk : o + (off + cap) * i.esize≤arr.size:=by
        obtain ⟨c,e2,f,k1,k2⟩:=ay;grind
      have ci : m * i.esize≤cap * i.esize:=Nat.mul_le_mul_right _ q6;rw [Nat.add_mul] at bk;have aa:=run_storeCells_at P b (o + off * i.esize) ao (L1.take (m * i.esize)) 0 arr w q4 (by rw [hL];omega) (af.one g7);simp only [Nat.add_zero] at aa;have an : (arr.toList.take (o + off * i.esize) ++ L1.take (m * i.esize) ++ arr.toList.drop (o + off * i.esize + (L1.take (m * i.esize)).length)).toArray = (splice arr.toList (o + off * i.esize) (L1.take (m * i.esize))).toArray:=rfl;rw [an] at aa;have ap : o + off * i.esize + (L1.take (m * i.esize)).length≤arr.toList.length:=by rw [hL];simp;omega
      have ac : (splice arr.toList (o + off * i.esize) (L1.take (m * i.esize))).toArray.size = arr.size:=by simp only [List.size_toArray];rw [q32 _ _ _ ap];simp
      have hz : ∀ b1,Z b1→(w.setRow b (splice arr.toList (o + off * i.esize) (L1.take (m * i.esize))).toArray).heap[b1]? = w.heap[b1]?:=fun b1 bs=>
        setRow_other w b b1 _ (fun e=>h.heap.out n _ _ hb s hi (by rw [← e];exact bs))
      have bl:=q3d w b arr _ ao (0,0) q4 ac;have cm : (ys.take m).length = m:=by rw [List.length_take,Nat.min_eq_left q6]
      refine ⟨_,_,inj,l (some ⟨b,o + off * i.esize,none⟩) _ _ rfl rfl _ aa,ae _ _ _,?_,Ext.set h.heap hb s hi q4 ac,rfl,Nat.le_refl _⟩;refine h.heap.set hb s hi q4 ac (q7l (es:=i.esize) (xs:=splice (xs.map (·.map V.d)) off ((ys.map (·.map V.d)).take m)) ?_ g7 ?_ (.inr ⟨b,o,_,ao,hi,setRow_heap w b _ _ _ _ q4,?_⟩))
      · simp only [rowsOf,splice,List.map_append,List.map_take,List.map_drop,Option.some.injEq,Prod.mk.injEq,true_and];simp
      · intro i' x' al;rw [q12 _ _ _ _ (by simp;omega)] at al;split at al
        · exact af.2.1 _ _ al
        grind
      · refine (q5.spliceRows q2 af (by simp;omega) (by rw [hL];omega)).mono fun v x hr=>hr.mono hz (fun _ h=>h) bl (fun _ _=>rfl) (Nat.le_refl _)
theorem qxs {t ty : TypeId} {i : TI} {sv v : V} {vs : Value} {st1 : AS} (h : RelS w Z inj st a Ds) (ht : tiOf P t = some i) (bg : i.kind = .slice) (ba : Jg i.esize sv = true) (u : RelV w Z inj st.nx sv vs) (ha : Ug st i sv = some (v,st1)) :
    ∃ x w' inj',(Builtin.clear_ #[t] ty #[vs]).run P w = .ok x w'∧RelV w' Z inj' st1.nx v x∧RelH w' Z inj' st1.hp st1.nx∧Ext w Z inj st.hp w' Z inj' st1.hp st.nx∧st1.sl = st.sl∧st.nx≤st1.nx:=by
  obtain ⟨bk,d,z,k⟩:=Yx ht;have hk:=k.kind;unfold Zr at hk;simp only [bg] at hk;obtain ⟨e,ie,de,ze,rfl,g1,g2,g3,g4,g5,g6,g7,g8,g9,_⟩:=hk;have y : ∀ w' inj' nx',RelV w' Z inj' nx' (.d (.tup [])) (.tuple #[]):=fun _ _ _=>.d (.tup qg qg);cases sv <;> simp only [Ug,reduceCtorEq] at ha
  case d x=>
    cases x <;> simp only [reduceCtorEq,Option.some.injEq,Prod.mk.injEq] at ha
    obtain ⟨rfl,rfl⟩:=ha
    cases u with | d u=>
    cases u;exact ⟨_,w,inj,by simp [Builtin.clear_,run_underlying k.und],y _ _ _,h.heap,.refl,rfl,Nat.le_refl _⟩
  case hs n es off len=>
  have be:=Nat.eq_of_beq_eq_true ba;subst be;split at ha <;> try simp at ha
  rename_i k0 xs hb;obtain ⟨⟨bt,rfl⟩,rfl,rfl⟩:=ha;obtain ⟨q1,q2,q3⟩:=q7m (h.heap.blk n _ hb).2 rfl;have m : live (.dat i.esize xs) = true:=rfl;by_cases h0 : len = 0
  · subst h0;have ag : splice xs off (List.replicate 0 i.ezero) = xs:=by simp [splice]
    have g : ∀ q,find (repl st.hp n (.dat i.esize (splice xs off (List.replicate 0 i.ezero)))) q = find st.hp q:=by
      intro q;rw [ag,Zj];by_cases hq : n = q
      · subst hq;have : find st.hp n = some (.dat i.esize xs):=hb;simp [this]
      · simp [hq]
    have s1 : RelH w Z inj (repl st.hp n (.dat i.esize (splice xs off (List.replicate 0 i.ezero)))) st.nx:=
      ⟨fun q b hq=>h.heap.blk q b (by rw [g] at hq;exact hq),fun q r b c p' q' h1 h2=>h.heap.sep q r b c p' q' (by rw [g] at h1;exact h1) (by rw [g] at h2;exact h2),fun q b p' h1=>h.heap.out q b p' (by rw [g] at h1;exact h1),h.heap.zs,h.heap.zc⟩
    have s2 : Ext w Z inj st.hp w Z inj (repl st.hp n (.dat i.esize (splice xs off (List.replicate 0 i.ezero)))) st.nx:=
      {Ext.refl (w:=w) (Z:=Z) (inj:=inj) (hp:=st.hp) (pin:=st.nx) with imm:=fun b hb=>by obtain ⟨q,blk,o,h1,h2,h3⟩:=hb;rw [g] at h1;exact .inl ⟨q,blk,o,h1,h2,h3⟩}
    cases u with
    | hsnil=>exact ⟨_,w,inj,by simp [Builtin.clear_,run_underlying k.und],y _ _ _,s1,s2,rfl,Nat.le_refl _⟩
    | @hs _ _ _ _ cap adr hn' hlc _ hcap=>exact ⟨_,w,inj,by simp [Builtin.clear_,run_underlying k.und],y _ _ _,s1,s2,rfl,Nat.le_refl _⟩
  · cases u with
    | hsnil=>omega
    | @hs _ _ _ _ cap adr hn' hlc _ hcap=>
      obtain ⟨b,o,hi,rfl,ao⟩:=hcap q6;rcases q3 with ⟨_,q4⟩ | ⟨b',o',arr,ah,q3,q4,q5⟩
      · grind
      rw [hi] at q3;cases q3;obtain ⟨p,ae⟩ : ∃ p,p = (Builtin.zeroCells ze.cells len).toList:=⟨_,rfl⟩
      have ay : ze.cells.size = i.esize:=by
        have:=(q9b (w:=w) (Z:=Z) g4).1;omega
      have hL : p.length = len * i.esize:=by rw [ae];simp [Builtin.zeroCells,ay]
      have ab : ERel w Z inj st.nx i.esize ((List.replicate len i.ezero).map (·.map V.d)) p.toArray:=by
        refine ⟨by simp [hL],fun q x hx=>?_,fun q x j d hx hd=>?_⟩
        · grind
        · rw [List.getElem?_map,List.getElem?_replicate] at hx;split at hx <;> simp at hx
          rename_i hq;subst hx;rw [List.getElem?_map] at hd
          cases ad : i.ezero[j]? with
          | none=>rw [ad] at hd;cases hd
          | some d'=>
            rw [ad] at hd;cases hd;obtain ⟨c,hc,hr,af⟩:=qj6 (w:=w) (Z:=Z) g4 g5 hq ad;refine ⟨af,c,?_,.d hr⟩;rw [ae,Array.toArray_toList];unfold Builtin.zeroCells;grind
      have aw : o + (off + cap) * i.esize≤arr.size:=by
        obtain ⟨c,e2,f,k1,k2⟩:=ao;grind
      have bv : len * i.esize≤cap * i.esize:=Nat.mul_le_mul_right _ q6;rw [Nat.add_mul] at aw;have aa:=run_storeCells_at P b (o + off * i.esize) ah p 0 arr w q4 (by rw [hL];omega) (ab.one g7);simp only [Nat.add_zero] at aa;have ag : (arr.toList.take (o + off * i.esize) ++ p ++ arr.toList.drop (o + off * i.esize + p.length)).toArray = (splice arr.toList (o + off * i.esize) p).toArray:=rfl;rw [ag] at aa;have aj : o + off * i.esize + p.length≤arr.toList.length:=by rw [hL];simp;omega
      have s : (splice arr.toList (o + off * i.esize) p).toArray.size = arr.size:=by simp only [List.size_toArray];rw [q32 _ _ _ aj];simp
      have hz : ∀ b1,Z b1→(w.setRow b (splice arr.toList (o + off * i.esize) p).toArray).heap[b1]? = w.heap[b1]?:=fun b1 bf=>
        setRow_other w b b1 _ (fun e=>h.heap.out n _ _ hb m hi (by rw [← e];exact bf))
      have ax:=q3d w b arr _ ah (0,0) q4 s
      have an : (Builtin.clear_ #[t] ty #[.slice (some ⟨b,o + off * i.esize,none⟩) len cap]).run P w = .ok (.tuple #[]) (w.setRow b (splice arr.toList (o + off * i.esize) p).toArray):=by
        obtain ⟨l,rfl⟩ : ∃ l,len = l + 1:=⟨len - 1,q6⟩
        have av : (zeroValue e).run P w = .ok ze w:=by simp [zeroValue,typeInfo,g1,g3]
        rw [ae] at aa ⊢;simp [Builtin.clear_,run_underlying k.und,av,aa]
      refine ⟨_,_,inj,an,y _ _ _,?_,Ext.set h.heap hb m hi q4 s,rfl,Nat.le_refl _⟩;refine h.heap.set hb m hi q4 s (q7l (es:=i.esize) (xs:=splice (xs.map (·.map V.d)) off ((List.replicate len i.ezero).map (·.map V.d))) ?_ g7 ?_ (.inr ⟨b,o,_,ah,hi,setRow_heap w b _ _ _ _ q4,?_⟩))
      · simp only [rowsOf,splice,List.map_append,List.map_take,List.map_drop,Option.some.injEq,Prod.mk.injEq,true_and];simp
      · intro i' x' bc;rw [q12 _ _ _ _ (by simp;omega)] at bc;grind
      · refine (q5.spliceRows q2 ab (by simp;omega) (by rw [hL];omega)).mono fun v x hr=>hr.mono hz (fun _ h=>h) ax (fun _ _=>rfl) (Nat.le_refl _)
end
end Go.Am
namespace Go.Am
open Go
variable {P : Program} {T : Tab}
section
variable {w : World} {Z : Nat→Prop} {inj : Inj} {st : AS} {a : Act} {Ds : List Nat}
theorem qva {c : Bool} {v b : V} {r : List V} {u : V} (h : minI c v (b::r) = some u) : ∃ k n f m,v = .d (.int k n)∧b = .d (.int f m)∧minI c (.d (.int k (bif c then (if m > n then m else n) else (if m < n then m else n)))) r = some u:=by
  unfold minI at h;split at h
  · rename_i a;cases a
  · rename_i a;cases a;exact ⟨_,_,_,_,rfl,rfl,h⟩
  · simp at h
theorem qhf {f : Bool} {nx : Nat} : ∀ (r : List V) (v u : V) (x : Value) (xs : List Value),minI f v r = some u→RelV w Z inj nx v x→r.length = xs.length→(∀ (i : Nat) (d : V) (c : Value),r[i]? = some d→xs[i]? = some c→RelV w Z inj nx d c)→
    ∃ y,(xs.foldlM (if f then Builtin.max2 else Builtin.min2) x).run P w = .ok y w∧RelV w Z inj nx u y
  | [],v,u,x,xs,h,hv,hl,_=>by
    simp [minI] at h;subst h
    have : xs = []:=by cases xs <;> simp_all
    subst this
    exact ⟨x,qg,hv⟩
  | b::r,v,u,x,xs,h,hv,hl,hr=>by
    match xs,hl,hr with
    | c::xs,hl,hr=>
      have hb:=hr 0 b c rfl rfl
      obtain ⟨k,n,l,m,rfl,rfl,h⟩:=qva h
      cases hv with | d hv=>
      cases hv
      cases hb with | d hb=>
      cases hb
      obtain ⟨y,a,g⟩:=qhf r _ u (.int k (bif f then (if m > n then m else n) else (if m < n then m else n))) xs h (.d (.int _ _)) (by simpa using hl) (fun i d c hd j=>hr (i + 1) d c (by simpa using hd) (by simpa using j))
      refine ⟨y,?_,g⟩
      cases f
      · simp only [Bool.false_eq_true,if_false,List.foldlM_cons,Builtin.min2,Sem.run_bind,Sem.run_pure,Result.andThen_ok,Q4] at a ⊢;exact a
      · simp only [if_true,List.foldlM_cons,Builtin.max2,Sem.run_bind,Sem.run_pure,Result.andThen_ok,Q5] at a ⊢;exact a
theorem qmq {nx : Nat} {x y : V} {xs : Array Value} (h : LRel w Z inj nx [x,y] xs) : ∃ a b,xs = #[a,b]∧RelV w Z inj nx x a∧RelV w Z inj nx y b:=by
  obtain ⟨d,c⟩:=h;obtain ⟨l⟩:=xs
  match l,d with
  | [a,b],_=>exact ⟨a,b,rfl,c 0 _ _ rfl rfl,c 1 _ _ rfl rfl⟩
theorem qha {nx : Nat} {x : V} {xs : Array Value} (h : LRel w Z inj nx [x] xs) : ∃ a,xs = #[a]∧RelV w Z inj nx x a:=by
  obtain ⟨b,c⟩:=h;obtain ⟨l⟩:=xs
  match l,b with
  | [a],_=>exact ⟨a,rfl,c 0 _ _ rfl rfl⟩
theorem qr8 {b : Builtin} {ts : Array TypeId} {ty : TypeId} {cs : Array Bool} {vs : List V} {xs : Array Value} {v : V} {st1 : AS} (hT : Z9 P T) (h : RelS w Z inj st a Ds) (m : LRel w Z inj st.nx vs xs) (hb : Yj T st b ts vs = some (v,st1)) :
    Y6 st st1 v w Z inj ((builtin b ts ty cs xs).run P w):=by
  unfold Yj at hb;split at hb
  ·
    rename_i x;obtain ⟨s,rfl,o⟩:=qha m;split at hb <;> try simp at hb
    rename_i t g;split at hb <;> try simp at hb
    rename_i i q;obtain ⟨ax,d,z,k⟩:=Yx (hT _ _ q);have p:=k.kind;unfold Zr at p
    have fin : ∀ n : Int,(Builtin.len_ ts ty #[s]).run P w = .ok (.int .i64 n) w→Y6 st st (.d (.int .i64 n)) w Z inj ((builtin .len ts ty cs #[s]).run P w):=fun n hr=>
      .quiet h (by simp [builtin,hr]) (.d (.int _ _))
    split at hb <;> try simp at hb
    · rename_i hk;simp only [hk] at p;obtain ⟨e,ie,de,rfl,_⟩:=p;obtain ⟨rfl,rfl⟩:=hb;refine fin _ ?_;simp only [Builtin.len_,g];simp [run_underlying k.und,goInt]
    · rename_i hk;simp only [hk] at p;obtain ⟨e,ie,de,ze,rfl,_⟩:=p
      have f : ∀ ad n cap,s = .slice ad n cap→(Builtin.len_ ts ty #[s]).run P w = .ok (.int .i64 n) w:=by
        rintro ad n cap rfl;simp only [Builtin.len_,g];simp [run_underlying k.und,goInt]
      split at hb <;> try simp at hb
      · obtain ⟨rfl,rfl⟩:=hb
        cases o with | d o=>
        cases o;exact fin 0 (f _ _ _ rfl)
      · obtain ⟨rfl,rfl⟩:=hb
        cases o with | d o=>
        cases o with
        | slnil=>exact fin _ (f _ _ _ rfl)
        | slemp=>exact fin _ (f _ _ _ rfl)
        | sl=>exact fin _ (f _ _ _ rfl)
      · obtain ⟨rfl,rfl⟩:=hb
        cases o with
        | hsnil=>exact fin _ (f _ _ _ rfl)
        | hs=>exact fin _ (f _ _ _ rfl)
    · rename_i hk;simp only [hk] at p;obtain ⟨rfl,_⟩:=p;split at hb <;> try simp at hb
      obtain ⟨rfl,rfl⟩:=hb
      cases o with | d o=>
      cases o;refine fin _ ?_;simp only [Builtin.len_,g];simp [run_underlying k.und,goInt]
  ·
    obtain ⟨sv,s,rfl,hs,o⟩:=qmq m;split at hb <;> try simp at hb
    rename_i t u g ao;split at hb <;> try simp at hb
    rename_i i j q ae;obtain ⟨⟨h1,h2,h3⟩,hb⟩:=hb
    have key : (Builtin.append_ ts ty #[sv,s]).run P w = (Builtin.append_ #[t,u] ty #[sv,s]).run P w:=by
      unfold Builtin.append_;simp only [g,ao];rfl
    obtain ⟨x,w',inj',hr,r1,r2,r3,r4,r5⟩:=qxm (ty:=ty) h (hT _ _ q) (hT _ _ ae) h1 h2 h3 hs o hb;exact ⟨x,w',inj',.inl (by simp [builtin,key,hr]),r1,r2,r3,r4,r5⟩
  ·
    obtain ⟨sv,s,rfl,hs,o⟩:=qmq m;split at hb <;> try simp at hb
    rename_i t u g ao;split at hb <;> try simp at hb
    rename_i i j q ae;obtain ⟨⟨h1,h2,h3,h4⟩,hb⟩:=hb
    have key : (Builtin.copy_ ts ty #[sv,s]).run P w = (Builtin.copy_ #[t,u] ty #[sv,s]).run P w:=by
      unfold Builtin.copy_;simp only [g];rfl
    obtain ⟨x,w',inj',hr,r1,r2,r3,r4,r5⟩:=qxu (ty:=ty) h (hT _ _ q) (hT _ _ ae) h1 h2 h3 h4 hs o hb;exact ⟨x,w',inj',.inl (by simp [builtin,key,hr]),r1,r2,r3,r4,r5⟩
  ·
    rename_i x;obtain ⟨s,rfl,o⟩:=qha m;split at hb <;> try simp at hb
    rename_i t g;split at hb <;> try simp at hb
    rename_i i q;obtain ⟨⟨h1,h2⟩,hb⟩:=hb
    have key : (Builtin.clear_ ts ty #[s]).run P w = (Builtin.clear_ #[t] ty #[s]).run P w:=by
      unfold Builtin.clear_;simp only [g];rfl
    obtain ⟨x,w',inj',hr,r1,r2,r3,r4,r5⟩:=qxs (ty:=ty) h (hT _ _ q) h1 h2 o hb;exact ⟨x,w',inj',.inl (by simp [builtin,key,hr]),r1,r2,r3,r4,r5⟩
  ·
    rename_i v0 r
    cases hm : minI false v0 r with
    | none=>simp [hm] at hb
    | some u=>
      simp [hm] at hb;obtain ⟨rfl,rfl⟩:=hb;obtain ⟨l⟩:=xs
      match l,m with
      | [],m=>simp [LRel] at m
      | x::xs,m=>
        obtain ⟨y,h1,h2⟩:=qhf (P:=P) r v0 u x xs hm (m.2 0 _ _ rfl rfl) (by simpa using m.1) (fun i d c hd hc=>m.2 (i + 1) d c (by simpa using hd) (by simpa using hc));refine .quiet h ?_ h2;simp only [Bool.false_eq_true,if_false] at h1;simp [builtin,Builtin.min_,h1]
  · rename_i v0 r
    cases hm : minI true v0 r with
    | none=>simp [hm] at hb
    | some u=>
      simp [hm] at hb;obtain ⟨rfl,rfl⟩:=hb;obtain ⟨l⟩:=xs
      match l,m with
      | [],m=>simp [LRel] at m
      | x::xs,m=>
        obtain ⟨y,h1,h2⟩:=qhf (P:=P) r v0 u x xs hm (m.2 0 _ _ rfl rfl) (by simpa using m.1) (fun i d c hd hc=>m.2 (i + 1) d c (by simpa using hd) (by simpa using hc));refine .quiet h ?_ h2;simp only [if_true] at h1;simp [builtin,Builtin.max_,h1]
  · simp at hb
theorem qnr {o : Oper} {v : V} {st1 : AS} (hT : Z9 P T) (h : RelS w Z inj st a Ds) (g : opFn T st o.op = some (v,st1)) : Y6 st st1 v w Z inj ((execOp a.eval o).run P w):=by
  obtain ⟨dst,op,type,pos,after,guard⟩:=o;simp only at g;cases op <;> simp only [opFn,reduceCtorEq] at g
  case move x=>
    cases z : st.ev x with
    | none=>simp [z] at g
    | some u=>simp [z] at g;obtain ⟨rfl,rfl⟩:=g;exact qnp h z rfl
  case assign x=>
    cases z : st.ev x with
    | none=>simp [z] at g
    | some u=>simp [z] at g;obtain ⟨rfl,rfl⟩:=g;exact qnp h z rfl
  case pick c x y=>
    split at g <;> try simp at g
    · rename_i hc;obtain ⟨u,z,rfl,rfl⟩:=g;have ad:=Ki h hc;generalize an : a.eval c = cv at ad
      cases ad with | d ad=>
      cases ad;exact .quiet h (by simp [execOp,an,asBool]) (Ki h z)
    · rename_i hc;obtain ⟨u,z,rfl,rfl⟩:=g;have ad:=Ki h hc;generalize an : a.eval c = cv at ad
      cases ad with | d ad=>
      cases ad;exact .quiet h (by simp [execOp,an,asBool]) (Ki h z)
  case alloc t=>
    cases ht : T t with
    | none=>simp [ht] at g
    | some i=>simp [ht] at g;obtain ⟨rfl,rfl⟩:=g;exact qxl h (hT _ _ ht)
  case box t x=>
    split at g <;> try simp at g
    rename_i i u ht z;obtain ⟨⟨h1,h2⟩,rfl,rfl⟩:=g;exact qxp h (hT _ _ ht) z h1 (by simpa using h2)
  case build t ps=>
    split at g <;> try simp at g
    rename_i i vs ht hv;obtain ⟨h1,g⟩:=g;split at g <;> try simp at g
    rename_i l hl;obtain ⟨cs,hc,rfl,rfl⟩:=g;exact qxq h (hT _ _ ht) hv h1 hl hc
  case buildSlice t len ps=>
    split at g <;> try simp at g
    rename_i i vs ht hv;split at g <;> try simp at g
    rename_i l hl;obtain ⟨⟨h1,h2⟩,xs,hc,rfl,rfl⟩:=g;exact qxr h (hT _ _ ht) hv hl h1 h2 hc
  case load t p=>
    split at g <;> try simp at g
    rename_i i u ht hp;obtain ⟨x,z,rfl,rfl⟩:=g;exact qy0 h (hT _ _ ht) hp z
  case store t p x=>
    split at g <;> try simp at g
    rename_i i u y ht hp z;obtain ⟨hs,rfl⟩:=g;exact qy5 h (hT _ _ ht) hp z hs
  case binOp op t x y u=>
    split at g
    · rename_i p q z hy;split at g <;> try simp at g
      rename_i i ht;split at g <;> try simp at g
      rename_i ks ap;split at g <;> simp at g
      · rename_i r hc;obtain ⟨rfl,rfl⟩:=g;exact qnn h (hT _ _ ht) z hy ap hc (.inl ⟨rfl,rfl⟩)
      · rename_i r hc;obtain ⟨rfl,rfl⟩:=g;exact qnn h (hT _ _ ht) z hy ap hc (.inr ⟨rfl,rfl⟩)
    · rename_i z hy;simp at g;obtain ⟨r,hr,rfl,rfl⟩:=g;exact qxo h z hy hr
    · rename_i z hy;split at g <;> try simp at g
      rename_i i ht;obtain ⟨r,hr,rfl,rfl⟩:=g;exact qxn h (hT _ _ ht) z hy hr
    · simp at g
  case unOp op t x=>
    split at g <;> try simp at g
    rename_i p z;obtain ⟨r,hr,rfl,rfl⟩:=g;exact qy6 h z hr
  case convert src dst x=>
    split at g <;> try simp at g
    rename_i i j k n hi hj z;split at g <;> simp at g
    rename_i k0 k1 au ar;obtain ⟨rfl,rfl⟩:=g;exact qxt h (hT _ _ hi) (hT _ _ hj) au ar z
  case makeFunc fn first caps=>
    cases fn <;> simp only [reduceCtorEq] at g
    rename_i f;split at g
    · rename_i hf;simp at g;obtain ⟨vs,hv,rfl,rfl⟩:=g;exact qy2 h hf hv
    · split at g
      · rename_i hc;simp only [Yc,Option.bind_eq_some_iff,Prod.mk.injEq] at g;obtain ⟨ds,⟨vs,hv,hd⟩,rfl,rfl⟩:=g;exact qy1 h hc hv hd
      · simp at g
  case makeSlice t l c=>
    split at g <;> try simp at g
    rename_i i k1 n k2 m ht hl hc;obtain ⟨⟨h1,h2,h3,h4⟩,rfl,rfl⟩:=g;exact qy3 h (hT _ _ ht) h1 hl hc h2 h3 h4
  case slice t x lo hi mx=>
    split at g <;> try simp at g
    rename_i i u ht z;obtain ⟨⟨h1,h2⟩,g⟩:=g;split at g <;> try simp at g
    rename_i n hn;split at g <;> try simp at g
    rename_i p q hp hq;obtain ⟨r,hr,rfl,rfl⟩:=g;subst h2;exact qy4 h (hT _ _ ht) h1 z hn hp hq hr
  case fieldAddr s p f=>
    split at g <;> try simp at g
    rename_i i u ht hp;split at g <;> try simp at g
    rename_i off size ag hk hf;obtain ⟨r,hr,rfl,rfl⟩:=g;exact qxw h (hT _ _ ht) hp hk hf hr
  case field s x f=>
    split at g <;> try simp at g
    rename_i i u ht z;split at g <;> try simp at g
    rename_i off size ag cs hk hf ha;split at g <;> try simp at g
    rename_i r hr;obtain ⟨y,hy,rfl,rfl⟩:=g;exact qxv h (hT _ _ ht) z hk hf ha hr hy
  case indexAddr t x ix=>
    split at g <;> try simp at g
    rename_i i u k n ht z hn;obtain ⟨y,hy,rfl,rfl⟩:=g;exact qxy h (hT _ _ ht) z hn hy
  case index t x ix=>
    split at g <;> try simp at g
    rename_i i u k n ht z hn;split at g <;> try simp only [reduceCtorEq] at g
    · rename_i cs hk ha;split at g <;> try simp at g
      rename_i h0;split at g <;> try simp at g
      rename_i r hr;obtain ⟨y,hy,rfl,rfl⟩:=g;exact qxx h (hT _ _ ht) z hn hk ha h0 hr hy
    · rename_i hk;split at g <;> try simp only [reduceCtorEq] at g
      rename_i s;rw [Yc] at g;obtain ⟨b,hb,e⟩:=g;cases e;exact qxz h (hT _ _ ht) z hn hk hb
  case extract x k=>
    split at g <;> try simp at g
    · rename_i vs z;obtain ⟨y,hy,rfl,rfl⟩:=g;exact qno h (.inl ⟨vs,y,z,hy,rfl⟩)
    · rename_i vs z;obtain ⟨y,hy,rfl,rfl⟩:=g;exact qno h (.inr ⟨vs,z,hy⟩)
  case nilCheck x=>
    have key : ∀ u,st.ev x = some u→(match a.eval x with | .pointer none | .nilIface | .nilFunc | .func (.method _) _ _=>False | _=>True)→Y6 st st u w Z inj ((execOp a.eval {dst:=dst,op:=.nilCheck x,type:=type,pos:=pos,after:=after,guard:=guard}).run P w):=by
      intro u z ay;have hr:=Ki h z;refine .quiet (x:=a.eval x) h ?_ hr;simp only [execOp];split <;> simp_all
    split at g <;> simp at g
    all_goals
      rename_i z
      obtain ⟨rfl,rfl⟩:=g
      refine key _ z ?_
      have hr:=Ki h z
      generalize a.eval x = xv at hr ⊢
      first
        | (cases hr with | d hr=>cases hr <;> trivial)
        | (cases hr <;> trivial)
  case call c=>
    obtain ⟨aw,args,argTypes⟩:=c;cases aw <;> simp only [reduceCtorEq] at g
    rename_i b;split at g <;> try simp at g
    rename_i vs hv;have hl:=q4a h hv;have e2 : (args.toList.map a.eval).toArray = args.map a.eval:=by apply Array.ext';simp
    rw [e2] at hl;have:=qr8 (ty:=type) (cs:=args.map fun | .const _=>true | _=>false) hT h hl g;simp only [execOp,resolve,Sem.run_bind,Sem.run_pure,Result.andThen_ok,invoke];exact this
end
end Go.Am
namespace Go.Am
open Go
variable {P : Program} {T : Tab}
theorem RelD.le {w : World} {Z : Nat→Prop} {x y : DV} {v : Value} (h : RelD w Z x v) (m : DLe x y) : RelD w Z y v:=by
  induction m generalizing v with
  | refl=>exact h
  | nil es=>cases h;exact .slnil es
  | tup hlen _ ih=>
    cases h with | @tup _ cs h1 h2=>
    refine .tup q6 fun i d c hd l=>?_;obtain ⟨x,f⟩:=Yp hlen.symm hd;exact ih i x d f hd (h2 i x c f l)
  | agg hlen _ ih=>
    cases h with | @agg _ cs h1 h2=>
    refine .agg q6 fun i d c hd l=>?_;obtain ⟨x,f⟩:=Yp hlen.symm hd;exact ih i x d f hd (h2 i x c f l)
  | @sl es xs ys hlen hrow hcell ih=>
    have k : xs = []→ys = []:=fun e=>List.length_eq_zero_iff.1 (by rw [← hlen,e];rfl)
    have row : ∀ (i : Nat) (y : List DV),ys[i]? = some y→∃ x,xs[i]? = some x∧x.length = y.length:=fun i y g=>by
      obtain ⟨x,f⟩:=Yp hlen.symm g;exact ⟨x,f,hrow i x y f g⟩
    have cell : ∀ (i : Nat) (y : List DV) (j : Nat) (d : DV),ys[i]? = some y→y[j]? = some d→∃ x c,xs[i]? = some x∧x[j]? = some c∧DLe c d:=fun i y j d g hd=>by
      obtain ⟨x,f,m⟩:=row i y g;obtain ⟨c,l⟩:=Yp m.symm hd;exact ⟨x,c,f,l,hcell i x y j c d f g l hd⟩
    cases h with
    | slnil=>rw [k rfl];exact .slnil es
    | slemp _ a=>rw [k rfl];exact .slemp es a
    | @sl _ _ b o cap h1 h2 h3 h4 h5=>
      rw [hlen];refine .sl q6 (fun s=>h2 fun e=>s (k e)) (fun i y g=>?_) (fun i y j d g hd=>?_) fun i y j d c g hd l=>?_
      · obtain ⟨x,f,m⟩:=row i y g;rw [← m];exact h3 i x f
      · obtain ⟨x,c,f,l,p⟩:=cell i y j d g hd;obtain ⟨q,t⟩:=h4 i x j c f l;refine ⟨?_,t⟩
        cases p with
        | refl=>exact q
        | nil=>rfl
        | tup=>exact absurd q (by simp [Zv])
        | agg=>exact absurd q (by simp [Zv])
        | sl=>rfl
      · obtain ⟨x,r,f,n,p⟩:=cell i y j d g hd;exact ih i x y j r d f g n hd (h5 i x j r c f n l)
section
variable {w : World} {Z : Nat→Prop} {inj : Inj} {st st' : AS} {a : Act} {Ds : List Nat} {base : Nat} {ρ : Nat→Nat} {fz ph : List Nat}
def wkZ (Z : Nat→Prop) (inj : Inj) (st : AS) (fz : List Nat) (b : Nat) : Prop:=Z b∨∃ n∈fz,∃ es xs o,find st.hp n = some (.dat es xs)∧inj n = some (b,o)
def wkI (inj : Inj) (ρ : Nat→Nat) (ph : List Nat) : Inj:=fun n=>if n∈ph then none else inj (ρ n)
theorem qfj (h : RelH w Z inj st.hp st.nx) {nx' : Nat} {v v' : V} (hv : Wv st ρ fz ph nx' v v') : ∀ {x : Value},RelV w Z inj st.nx v x→RelV w (wkZ Z inj st fz) (wkI inj ρ ph) nx' v' x:=by
  have s : ∀ b,Z b→wkZ Z inj st fz b:=fun b hb=>.inl hb
  induction hv with
  | dead=>exact fun _=>.dead _
  | d hle=>intro x a;cases a with | d a=>exact .d ((a.le hle).mono (fun _ _=>rfl) s)
  | nil hm hlt=>intro x a;cases a with | d a=>cases a;exact .hsnil hlt
  | dref cs j=>intro x a;cases a with | dref h1 h2 h3=>exact .dref (s _ h1) h2 fun k d c hd g=>(h3 k d c hd g).mono (fun _ _=>rfl) s
  | ref hr hp hlt=>intro x a;cases a with | ref h1 h2=>exact .ref hlt (by simp only [wkI,hp,hr,if_false];exact h2)
  | hs hr hp hlt=>
    intro x a
    cases a with
    | hsnil h1=>exact .hsnil hlt
    | hs h1 h2 h3 h4=>exact .hs hlt h2 h3 fun g=>by obtain ⟨b,o,u,e2,e3⟩:=h4 g;exact ⟨b,o,by simp only [wkI,hp,hr,if_false];exact u,e2,e3⟩
  | yld hr hp hlt=>intro x a;cases a with | yld h1 h2=>exact .yld hlt (by simp only [wkI,hp,hr,if_false];exact h2)
  | fn hl _ ih=>
    intro x a
    cases a with | @fn _ _ cs h1 h2=>
    refine .fn q6 fun i d c hd g=>?_;obtain ⟨y,m⟩:=Yp hl.symm hd;exact ih i y d m hd (h2 i y c m g)
  | agg hl _ ih=>
    intro x a
    cases a with | @agg _ cs h1 h2=>
    refine .agg q6 fun i d c hd g=>?_;obtain ⟨y,m⟩:=Yp hl.symm hd;exact ih i y d m hd (h2 i y c m g)
  | tup hl _ ih=>
    intro x a
    cases a with | @tup _ cs h1 h2=>
    refine .tup q6 fun i d c hd g=>?_;obtain ⟨y,m⟩:=Yp hl.symm hd;exact ih i y d m hd (h2 i y c m g)
  | dtup hl _ ih=>
    intro x a
    cases a with | d a=>cases a with | @tup _ cs h1 h2=>
    refine .tup q6 fun i d c hd g=>?_;obtain ⟨y,m⟩:=Yp hl.symm hd;exact ih i y d m hd (.d (h2 i y c m g))
  | dagg hl _ ih=>
    intro x a
    cases a with | d a=>cases a with | @agg _ cs h1 h2=>
    refine .agg q6 fun i d c hd g=>?_;obtain ⟨y,m⟩:=Yp hl.symm hd;exact ih i y d m hd (.d (h2 i y c m g))
  | @frz n es o l xs ys k hb hf hle hys hk=>
    intro x a;subst hk hys;have q : ((xs.drop o).take l).length = l:=by simp;omega
    have hB:=(h.blk n _ hb).2;obtain ⟨b1,b2,b3⟩:=hB
    cases a with
    | hsnil h1=>
      have : (xs.drop o).take 0 = []:=by simp
      rw [this];exact .d (.slnil _)
    | @hs _ _ _ _ cap ad h1 h2 h3 h4=>
      obtain ⟨bb,oo,sp⟩:=ad;simp only at h3;subst h3;by_cases h0 : l = 0
      · subst h0;have : (xs.drop o).take 0 = []:=by simp
        rw [this];exact .d (RelD.sl (es:=k) (xs:=[]) qg qg qg qg qg)
      · obtain ⟨b,t,u,e2,e3⟩:=h4 q6;rw [e2];rcases b3 with ⟨_,p⟩ | ⟨b',ae,arr,ty,p,z,b6⟩
        · rw [u] at p;cases p
        · rw [u] at p;cases p
          have r : ∀ (i : Nat) (x : List DV),((xs.drop o).take l)[i]? = some x→xs[o + i]? = some x:=by
            intro i x a;rw [List.getElem?_take] at a;split at a
            · rwa [List.getElem?_drop] at a
            · simp at a
          have e9 : ∀ i j,t + o * k + (i * k + j) = t + ((o + i) * k + j):=by intro i j;rw [Nat.add_mul];omega
          have f : ∀ (i : Nat) (x : List DV) (j : Nat) (d : DV),((xs.drop o).take l)[i]? = some x→x[j]? = some d→Zv d = true∧∃ c,w.cell? ⟨b,t + o * k + (i * k + j),none⟩ = some c∧RelD w Z d c:=by
            intro i x j d a hd;obtain ⟨c1,c,c2,c3⟩:=b6 _ x j d (r i x a) hd;exact ⟨c1,c,by rw [e9];simp only [World.cell?,z];exact c2,c3⟩
          have:=RelD.sl (w:=w) (Z:=wkZ Z inj st fz) (es:=k) (xs:=(xs.drop o).take l) (b:=b) (o:=t + o * k) (cap:=cap) (by rw [q];exact h2) (fun _=>.inr ⟨n,hf,_,_,t,hb,u⟩) (fun i x a=>b2 _ _ (r i x a))
            (fun i x j d a hd=>by obtain ⟨c1,c,c2,_⟩:=f i x j d a hd;exact ⟨c1,c,c2⟩)
            (fun i x j d c a hd g=>by obtain ⟨_,c',c2,c3⟩:=f i x j d a hd;rw [c2] at g;cases g;exact c3.mono (fun _ _=>rfl) s)
          rw [q] at this;exact .d this
  | @frzB n es cs k hb hf hk=>
    intro x a;subst hk;obtain ⟨b1,b2,b3⟩:=(h.blk n _ hb).2
    cases a with | @ref _ _ _ _ b o h1 h2=>
    rcases b3 with ⟨p,_⟩ | ⟨b',ae,arr,ty,p,z,b6⟩
    · simp at p
    · rw [h2] at p;cases p
      have f : ∀ (j : Nat) (d : DV),cs[j]? = some d→∃ c,w.cell? ⟨b,o + (0 * k + 0) + j,none⟩ = some c∧RelD w Z d c:=by
        intro j d hd;obtain ⟨c1,c,c2,c3⟩:=b6 0 cs j d rfl hd;exact ⟨c,by simp only [World.cell?,z];rw [← c2];simp,c3⟩
      exact .d (.box (.inr ⟨n,hf,_,_,o,hb,h2⟩) (fun j d hd=>by obtain ⟨c,c2,_⟩:=f j d hd;exact ⟨c,c2⟩)
        (fun j d c hd g=>by obtain ⟨c',c2,c3⟩:=f j d hd;rw [c2] at g;cases g;exact c3.mono (fun _ _=>rfl) s))
theorem q174 (h : RelH w Z inj st.hp st.nx) {nx' n : Nat} {b b' : Blk} (hp : n ∉ ph) (s : Wb st ρ fz ph nx' b b') (hb : RelB w Z inj st.nx (ρ n) b) : RelB w (wkZ Z inj st fz) (wkI inj ρ ph) nx' n b':=by
  have hz : ∀ b,Z b→wkZ Z inj st fz b:=fun b hb=>.inl hb;have hi : wkI inj ρ ph n = inj (ρ n):=by simp [wkI,hp]
  cases s with
  | dead=>trivial
  | dat es xs=>
    obtain ⟨p,m,a⟩:=hb;refine ⟨p,m,?_⟩;rcases a with ⟨a,g⟩ | ⟨b,o,arr,ty,a,g,q⟩
    · exact .inl ⟨a,hi.trans g⟩
    · exact .inr ⟨b,o,arr,ty,hi.trans a,g,fun i x j d f hd=>by obtain ⟨c1,c,c2,c3⟩:=q i x j d f hd;exact ⟨c1,c,c2,c3.mono (fun _ _=>rfl) hz⟩⟩
  | cel hl hc=>
    obtain ⟨p,m,a⟩:=hb;refine ⟨p,?_,?_⟩
    · intro i y l;obtain ⟨x,f⟩:=Yp hl.symm l;rw [← (hc i x y f l).1];exact m i x f
    · rcases a with ⟨a,g⟩ | ⟨b,o,arr,ty,a,g,q⟩
      · exact .inl ⟨List.eq_nil_of_length_eq_zero (by rw [← hl,a];rfl),hi.trans g⟩
      · refine .inr ⟨b,o,arr,ty,hi.trans a,g,fun i y j d l hd=>?_⟩;obtain ⟨x,f⟩:=Yp hl.symm l;obtain ⟨z,l2⟩:=hc i x y f l;obtain ⟨c0,k⟩:=Yp z.symm hd;obtain ⟨u,r⟩:=l2 j c0 d k hd;obtain ⟨c1,c,c2,c3⟩:=q i x j c0 f k;exact ⟨r,c,c2,qfj h u c3⟩
  | datcel hl hc=>
    obtain ⟨p,m,a⟩:=hb;refine ⟨p,?_,?_⟩
    · intro i y l;obtain ⟨x,f⟩:=Yp hl.symm l;rw [← (hc i x y f l).1];exact m i x f
    · rcases a with ⟨a,g⟩ | ⟨b,o,arr,ty,a,g,q⟩
      · exact .inl ⟨List.eq_nil_of_length_eq_zero (by rw [← hl,a];rfl),hi.trans g⟩
      · refine .inr ⟨b,o,arr,ty,hi.trans a,g,fun i y j d l hd=>?_⟩;obtain ⟨x,f⟩:=Yp hl.symm l;obtain ⟨z,l2⟩:=hc i x y f l;obtain ⟨c0,k⟩:=Yp z.symm hd;obtain ⟨u,r⟩:=l2 j c0 d k hd;obtain ⟨c1,c,c2,c3⟩:=q i x j c0 f k;exact ⟨r,c,c2,qfj h u (.d c3)⟩
  | loop hs=>
    obtain ⟨b,tmps,D,fn,p,m,a,g⟩:=hb;refine ⟨b,tmps,D,fn,hi.trans p,m,a,fun t v' ht=>?_⟩;obtain ⟨v,hv,s⟩:=hs t v' ht;obtain ⟨x,f,hr⟩:=g t v hv;exact ⟨x,f,qfj h s hr⟩
theorem qqd {nx' : Nat} {b a : Blk} (c : Wb st ρ fz ph nx' b a) (d : live a = true) : live b = true:=by
  cases c <;> first | rfl | simp [live] at d
theorem q33 (h : RelS w Z inj st a Ds) (u : Wk base ρ fz ph st st') : RelS w (wkZ Z inj st fz) (wkI inj ρ ph) st' a Ds∧Ext w Z inj st.hp w (wkZ Z inj st fz) (wkI inj ρ ph) st'.hp base:=by
  have back : ∀ n s,st'.blk n = some s→live s = true→∀ p,wkI inj ρ ph n = some p→n ∉ ph∧∃ b,st.blk (ρ n) = some b∧live b = true∧inj (ρ n) = some p:=by
    intro n s hb hl p hp;have g : n ∉ ph:=by intro hc;simp [wkI,hc] at hp
    obtain ⟨_,l⟩:=u.blocks n s hb;rcases l with ⟨l,_⟩ | ⟨_,b,h3,h4⟩
    · exact absurd l g
    · exact ⟨g,b,h3,qqd h4 hl,by simpa [wkI,g] using hp⟩
  refine ⟨⟨?_,⟨?_,?_,?_,?_,?_⟩,h.defs,h.nodup,h.marks⟩,?_⟩
  · intro t v' ht;obtain ⟨v,hv,ag⟩:=u.slots t v' ht;obtain ⟨x,hx,hr⟩:=h.slots t v hv;exact ⟨x,hx,qfj h.heap ag hr⟩
  · intro n s hb;obtain ⟨h1,l⟩:=u.blocks n s hb;refine ⟨h1,?_⟩;rcases l with ⟨l,es,al,rfl⟩ | ⟨l,b,h3,h4⟩
    · exact ⟨al,qg,.inl ⟨rfl,by simp [wkI,l]⟩⟩
    · exact q174 h.heap l h4 (h.heap.blk _ _ h3).2
  · intro n m b c p q y z an ak hp hq af;obtain ⟨n1,b0,n2,n3,n4⟩:=back n b y an p hp;obtain ⟨m1,c0,m2,m3,m4⟩:=back m c z ak q hq;exact h.heap.sep _ _ b0 c0 p q n2 m2 n3 m3 n4 m4 (fun e=>af (u.inj n m b c y z n1 m1 e))
  · intro n b p y hl hp d;obtain ⟨n1,b0,n2,n3,n4⟩:=back n b y hl p hp;rcases d with d | ⟨m,z,es,xs,o,k,j⟩
    · exact h.heap.out _ b0 p n2 n3 n4 d
    · exact h.heap.sep _ _ b0 _ p (p.1,o) n2 k n3 rfl n4 j (fun e=>u.free n b y n1 (by rw [e];exact z)) rfl
  · intro b d;rcases d with d | ⟨m,z,es,xs,o,k,j⟩
    · exact h.heap.zs b d
    · exact h.heap.im_lt ⟨m,_,o,k,rfl,j⟩
  · intro b d;rcases d with d | ⟨m,z,es,xs,o,k,j⟩
    · exact h.heap.zc b d
    · obtain ⟨_,_,b3⟩:=(h.heap.blk m _ k).2;rcases b3 with ⟨_,b4⟩ | ⟨s,az,arr,ty,b4,b5,_⟩
      · rw [j] at b4;cases b4
      · rw [j] at b4;cases b4;exact ⟨_,_,_,b5⟩
  · refine ⟨Nat.le_refl _,fun _ _ _=>rfl,?_,fun _ c e f h=>⟨c,e,f,h,rfl⟩,fun _ r h=>⟨r,h,rfl⟩,fun _ h=>.inl h,?_,?_,rfl,rfl,rfl,fun _=>rfl⟩
    · rintro b ⟨n,blk,o,k,k2,j⟩;obtain ⟨n1,b0,n2,n3,n4⟩:=back n blk k k2 _ j;exact .inl ⟨_,b0,o,n2,n3,n4⟩
    · intro b d;rcases d with d | ⟨m,z,es,xs,o,k,j⟩
      · exact .inl d
      · exact .inr (.inl ⟨m,_,o,k,rfl,j⟩)
    · intro n y;have g : n ∉ ph:=fun hc=>by have:=u.phantom n hc;omega
      simp [wkI,g,u.small n y]
end
end Go.Am
namespace Go.Am
open Go
variable {P : Program} {T : Tab}
section
variable {w : World} {Z : Nat→Prop} {inj : Inj} {st : AS} {a : Act} {Ds : List Nat}
theorem q10c {r : ResultVar} {v : V} (l : Z9 P T) (h : RelH w Z inj st.hp st.nx) (hs : Yy w Z inj st.nx st.sl a.tmps) (f : qi6 T st r = some v) :
    ∃ x,(match r with | .tmp t=>pure (a.tmps.getD t undef) | .cell p t=>(do loadVar t (← asAddr (a.tmps.getD p undef)) : Sem Value) : Sem Value).run P w = .ok x w∧RelV w Z inj st.nx v x:=by
  cases r with
  | tmp t=>
    obtain ⟨x,g,d⟩:=hs t v f;exact ⟨x,by simp [Array.getD_eq_getD_getElem?,g],d⟩
  | cell p t=>
    simp only [qi6] at f;split at f <;> try simp at f
    rename_i pv i hp k;obtain ⟨x,g,d⟩:=hs p pv hp;obtain ⟨b,o,y,e,c,j⟩:=qmo (P:=P) h (l _ _ k) d f;refine ⟨y,?_,j⟩;rw [e] at g c;simp [Instr.loadAt,Instr.sureAddr] at c;simp [Array.getD_eq_getD_getElem?,g,asAddr,c]
theorem qon (s : Z9 P T) (h : RelH w Z inj st.hp st.nx) (hs : Yy w Z inj st.nx st.sl a.tmps) (g : ResultVar→Sem Value) (f : ∀ t,g (.tmp t) = pure (a.tmps.getD t undef))
    (j : ∀ p t,g (.cell p t) = (do loadVar t (← asAddr (a.tmps.getD p undef)))) : ∀ {l : List ResultVar} {k : List V},resL T st l = some k→
    ∃ xs : List Value,(l.mapM g).run P w = .ok xs w∧LRel w Z inj st.nx k xs.toArray
  | [],k,hr=>by simp [resL] at hr;subst hr;exact ⟨[],qg,qg,qg⟩
  | r::l,k,hr=>by
    simp only [resL] at hr
    split at hr <;> try simp at hr
    rename_i v y z u
    subst hr
    obtain ⟨x,n,b⟩:=q10c s h hs z
    obtain ⟨xs,o,q⟩:=qon s h hs g f j u
    have n : (g r).run P w = .ok x w:=by
      rw [← n];cases r
      · rw [f]
      · rw [j]
    refine ⟨x::xs,?_,?_,?_⟩
    · rw [List.mapM_cons]
      simp only [Sem.run_bind,n,Result.andThen_ok,o,Sem.run_pure]
    · have:=q.1;simp at this ⊢;omega
    · intro i d c hd m
      cases i with
      | zero=>simp at hd m;subst hd m;exact b
      | succ i=>simp at hd m;exact q.2 i d c hd (by simpa using m)
theorem qvh {nx : Nat} {cs : List V} {xs : Array Value} (h : LRel w Z inj nx cs xs) : RelV w Z inj nx (qhj cs) (.tuple xs):=by
  unfold qhj;split
  · rename_i ds hd;have:=q42 hd;subst this;refine .d (.tup (by simpa using h.1) fun i d c b a=>?_);have:=h.2 i (.d d) c (by simp [b]) a
    cases this with | d h=>exact h
  · exact .tup h.1 h.2
theorem q10d {fn : Func} {v : V} (q : Z9 P T) (h : RelH w Z inj st.hp st.nx) (hs : Yy w Z inj st.nx st.sl a.tmps) (c : resV T st fn.results.toList = some v) : ∃ x,(results fn a.tmps).run P w = .ok x w∧RelV w Z inj st.nx v x:=by
  unfold resV at c
  have key : ∀ f,resL T st fn.results.toList = some f→∃ xs : List Value,(results fn a.tmps).run P w = .ok (if h : xs.toArray.size = 1 then xs.toArray[0] else .tuple xs.toArray) w∧LRel w Z inj st.nx f xs.toArray:=by
    intro f b;unfold results;generalize n : (fun x=>match x with | .tmp t=>pure (a.tmps.getD t undef) | .cell p t=>(do loadVar t (← asAddr (a.tmps.getD p undef)) : Sem Value) : ResultVar→Sem Value) = g;rw [Sem.run_bind,Array.mapM_eq_mapM_toList,Sem.run_map];obtain ⟨xs,m,d⟩:=qon q h hs g (fun t=>by rw [← n]) (fun p t=>by rw [← n]) b;refine ⟨xs,?_,d⟩;rw [m];rfl
  split at c
  · rename_i s b;simp at c;subst c;obtain ⟨xs,k,d⟩:=key _ b;obtain ⟨y,o,j⟩:=qha d;have : xs = [y]:=by simpa using congrArg Array.toList o
    subst this;exact ⟨y,by simpa using k,j⟩
  · rename_i f l b;simp at c;subst c;obtain ⟨xs,k,d⟩:=key _ b;refine ⟨.tuple xs.toArray,?_,qvh d⟩
    have : xs.toArray.size≠1:=by
      rw [← d.1];intro r
      match f,r with
      | [x],_=>exact l x rfl
    rw [dif_neg this] at k;exact k
  · simp at c
end
end Go.Am
