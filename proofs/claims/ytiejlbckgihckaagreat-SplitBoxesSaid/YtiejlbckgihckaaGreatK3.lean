/- Am13 Am14 Am15 Am16 Am16m -/
import Derived.Test.YtiejlbckgihckaaGreatK2
import Derived.Deep.AppendSrc
import Derived.Room.Entries
import Derived.RangeFuncRecord
namespace Go.Am
open Go
variable {P : Program} {T : Tab}
def RowV (w : World) (Z : Nat→Prop) (inj : Inj) (nx : Nat) (arr : Array Value) (o es : Nat) (xs : List (List V)) : Prop:=
  ∀ (i : Nat) (x : List V) (j : Nat) (d : V),xs[i]? = some x→x[j]? = some d→Kp d = true∧∃ c,arr[o + (i * es + j)]? = some c∧RelV w Z inj nx d c
section
variable {w : World} {Z : Nat→Prop} {inj : Inj} {nx : Nat}
theorem RowV.mono {w' : World} {inj' : Inj} {nx' : Nat} {arr : Array Value} {o es : Nat} {xs : List (List V)} (h : RowV w Z inj nx arr o es xs) (b : ∀ v x,RelV w Z inj nx v x→RelV w' Z inj' nx' v x) : RowV w' Z inj' nx' arr o es xs:=
  fun i x j d a hd=>let ⟨h1,c,h2,h3⟩:=h i x j d a hd;⟨h1,c,h2,b _ _ h3⟩
def rowsOf : Blk→Option (Nat × List (List V))
  | .dat es xs=>some (es,xs.map (·.map .d))
  | .cel es xs=>some (es,xs)
  | _=>none
theorem q5t {n : Nat} {b : Blk} {es : Nat} {xs : List (List V)} (h : RelB w Z inj nx n b) (k : rowsOf b = some (es,xs)) :
    es≠0∧(∀ (i : Nat) (x : List V),xs[i]? = some x→x.length = es)∧((xs = []∧inj n = none)∨∃ b o arr ty,inj n = some (b,o)∧w.heap[b]? = some (.cells arr ty (0,0))∧RowV w Z inj nx arr o es xs):=by
  cases b <;> simp only [rowsOf,reduceCtorEq,Option.some.injEq,Prod.mk.injEq] at k
  · obtain ⟨rfl,rfl⟩:=k;obtain ⟨g,l,a⟩:=h;refine ⟨g,?_,?_⟩
    · intro i x f;simp only [List.getElem?_map,Y3] at f;obtain ⟨y,p,rfl⟩:=f;simpa using l i y p
    · rcases a with ⟨a,q⟩ | ⟨b,o,arr,ty,a,q,s⟩
      · exact .inl ⟨by simp [a],q⟩
      · refine .inr ⟨b,o,arr,ty,a,q,fun i x j d f hd=>?_⟩;simp only [List.getElem?_map,Y3] at f;obtain ⟨y,p,rfl⟩:=f;simp only [List.getElem?_map,Y3] at hd;obtain ⟨r,m,rfl⟩:=hd;obtain ⟨v,c,u,t⟩:=s i y j r p m;exact ⟨v,c,u,.d t⟩
  · obtain ⟨rfl,rfl⟩:=k;obtain ⟨g,l,a⟩:=h;exact ⟨g,l,a⟩
theorem q5s {n : Nat} {b : Blk} {es : Nat} {xs : List (List V)} (f : rowsOf b = some (es,xs)) (m : es≠0) (l : ∀ (i : Nat) (x : List V),xs[i]? = some x→x.length = es)
    (h : (xs = []∧inj n = none)∨∃ b o arr ty,inj n = some (b,o)∧w.heap[b]? = some (.cells arr ty (0,0))∧RowV w Z inj nx arr o es xs) : RelB w Z inj nx n b:=by
  cases b <;> simp only [rowsOf,reduceCtorEq,Option.some.injEq,Prod.mk.injEq] at f
  · obtain ⟨rfl,rfl⟩:=f;rename_i xs;refine ⟨m,fun i x a=>?_,?_⟩
    · have:=l i (x.map .d) (by simp [a]);simpa using this
    · rcases h with ⟨g,k⟩ | ⟨b,o,arr,ty,g,k,p⟩
      · exact .inl ⟨by simpa using g,k⟩
      · refine .inr ⟨b,o,arr,ty,g,k,fun i x j d a hd=>?_⟩;obtain ⟨s,c,r,q⟩:=p i (x.map .d) j (.d d) (by simp [a]) (by simp [hd]);refine ⟨s,c,r,?_⟩
        cases q with | d h=>exact h
  · obtain ⟨rfl,rfl⟩:=f;exact ⟨m,l,h⟩
theorem RowV.set {arr k : Array Value} {o es e j : Nat} {xs : List (List V)} {cs ys : List V} (h : RowV w Z inj nx arr o es xs) (y : ∀ (i : Nat) (x : List V),xs[i]? = some x→x.length = es) (u : xs[e]? = some cs) (s : LRel w Z inj nx ys k) (t : ys.all Kp = true)
    (hj : j + ys.length≤cs.length) (m : o + (e * es + j) + k.size≤arr.size) : RowV w Z inj nx (splice arr.toList (o + (e * es + j)) k.toList).toArray o es (xs.set e (splice cs j ys)):=by
  have z : k.toList.length = ys.length:=by have:=s.1;simp;omega
  have g : o + (e * es + j) + k.toList.length≤arr.toList.length:=by simpa using m
  have aa:=y e cs u;intro i x a d b hd;rw [List.getElem?_toArray,U3 _ _ _ _ g];rw [List.getElem?_set] at b;by_cases f : e = i
  · subst f;rw [qs rfl,qs (Kh u)] at b;simp at b;subst b;rw [U3 _ _ _ _ hj] at hd;by_cases l : j≤a∧a < j + ys.length
    · rw [qs l] at hd;obtain ⟨c,v⟩:=Yc (xs:=k) (i:=a - j) (by have:=s.1;omega);rw [qs q0,show o + (e * es + a) - (o + (e * es + j)) = a - j by omega];exact ⟨List.all_eq_true.1 t _ (List.mem_of_getElem? hd),c,by simpa using v,s.2 _ _ _ hd v⟩
    · rw [qx l] at hd;rw [qx q0];obtain ⟨n,c,q,p⟩:=h e cs a d u hd;exact ⟨n,c,by simpa using q,p⟩
  · rw [qx f] at b;obtain ⟨n,c,q,p⟩:=h i x a d b hd;refine ⟨n,c,?_,p⟩;have r : a < es:=by have:=Kh hd;have:=y i x b;omega
    rw [qx ?_]
    · simpa using q
    · intro v;exact f ((qgx (i:=e) r).1 q0).symm
end
section
variable {w : World} {Z : Nat→Prop} {inj : Inj} {st : AS} {a : Act} {Ds : List Nat}
theorem q10y {t : TypeId} {a : TypeInfo} {x : Value} {b o : Nat} {arr : Array Value} {ty : TypeId} (hi : P.info? t = some a) (hs : x.cells.size = a.size) (f : ∀ c∈x.cells.toList,c.oneCell' = true)
    (hb : w.heap[b]? = some (.cells arr ty (0,0))) (d : o + x.cells.size≤arr.size) :
    (Instr.storeAt t (.pointer (some ⟨b,o,none⟩)) x).run P w = .ok () (w.setRow b (splice arr.toList o x.cells.toList).toArray):=by
  have:=run_storeCells_at P b o ty x.cells.toList 0 arr w hb (by simpa using d) f;simp only [Nat.add_zero] at this;simp only [Instr.storeAt,Instr.sureAddr,storeVar,Sem.run_bind,Sem.run_pure,Result.andThen_ok,Ze hi,Sem.run_ite];rw [qx q0];exact this
theorem qt9 {t : TypeId} {i : TI} {p x : Operand} {pv v : V} {st1 : AS} (h : RelS w Z inj st a Ds) (ht : tiOf P t = some i) (hp : st.ev p = some pv) (hx : st.ev x = some v) (hs : Jn st i pv v = some st1) :
    Kl st st1 .dead w Z inj ((do Instr.storeAt t (a.eval p) (a.eval x);pure .skip : Sem Next).run P w):=by
  obtain ⟨aw,d,z,k⟩:=Ys ht;have ae:=Kd h hp;have ai:=Kd h hx;generalize a.eval p = vp at ae ⊢;generalize a.eval x = vx at ai ⊢;cases pv <;> simp only [Jn,reduceCtorEq] at hs
  rename_i n k0 e j;split at hs <;> try simp at hs
  rename_i r
  have ax : (cellsOf v).length = i.size:=by
    apply Classical.byContradiction;intro hc;exact r (.inl hc)
  have ah : (cellsOf v).all Kp = true:=by
    cases hc : (cellsOf v).all Kp with
    | true=>rfl
    | false=>exact absurd (.inr hc) r
  cases ae with | @ref _ _ _ _ b o hn hi=>
  have key : ∀ (y : Blk) (es : Nat) (xs : List (List V)) (cs : List V) (b1 : Blk),st.blk n = some y→rowsOf y = some (es,xs)→es = k0→xs[e]? = some cs→j + i.size≤cs.length→rowsOf b1 = some (es,xs.set e (splice cs j (cellsOf v)))→st1 = st.setBlk n b1→
      Kl st st1 .dead w Z inj ((do Instr.storeAt t (.pointer (some ⟨b,o + (e * k0 + j),none⟩)) vx;pure .skip : Sem Next).run P w):=by
    rintro y es xs cs b1 s al rfl g f aq rfl
    obtain ⟨g1,g2,g3⟩:=q5t (h.heap.blk n y s).2 al
    rcases g3 with ⟨g3,_⟩ | ⟨b',o',arr,ty,g3,g4,g5⟩
    · subst g3;simp at g
    · rw [hi] at g3;cases g3
      obtain ⟨c1,c2,c3⟩:=qaj ai ah
      have l : live y = true:=by cases y <;> simp_all [rowsOf,live]
      have ao:=g2 e cs g
      have bd : 0 < es:=by omega
      have ar : o + (e * es + (es - 1)) < arr.size:=by
        obtain ⟨d0,an⟩:=Zp (xs:=cs) (i:=es - 1) q0;obtain ⟨_,c,hc,_⟩:=g5 e cs (es - 1) d0 g an;exact Zi hc
      have m : o + (e * es + j) + vx.cells.size≤arr.size:=by omega
      have ag:=q10y (P:=P) (w:=w) k.inf (x:=vx) (by rw [k.size];omega) c3 g4 m
      have ab : (splice arr.toList (o + (e * es + j)) vx.cells.toList).toArray.size = arr.size:=by
        simp only [List.size_toArray];rw [q1t _ _ _ (by simpa using m)];simp
      have hz : ∀ b1,Z b1→(w.setRow b (splice arr.toList (o + (e * es + j)) vx.cells.toList).toArray).heap[b1]? = w.heap[b1]?:=fun b1 ap=>
        setRow_other w b b1 _ (fun e=>h.heap.out n y _ s l hi (by rw [← e];exact ap))
      have au:=q2i w b arr _ ty (0,0) g4 ab
      refine ⟨undef,_,inj,.inr ⟨by simp [ag],rfl⟩,.dead _,?_,Ext.set h.heap s l hi g4 ab,rfl,Nat.le_refl _⟩
      refine h.heap.set s l hi g4 ab (q5s aq g1 ?_ (.inr ⟨b,o,_,ty,hi,setRow_heap w b _ _ _ _ g4,?_⟩))
      · intro i' x' q
        rw [List.getElem?_set] at q
        by_cases ad : e = i'
        · rw [qs ad,qs (by have:=Kh g;omega)] at q
          simp at q;rw [← q,q1t _ _ _ q0];exact ao
        · rw [qx ad] at q;exact g2 _ _ q
      · exact (g5.set g2 g ⟨c1,c2⟩ ah q0 m).mono fun v x hr=>hr.mono hz (fun _ h=>h) au (fun _ _=>rfl) (Nat.le_refl _)
  cases hb : st.blk n with
  | none=>simp [hb] at hs
  | some blk=>
    cases blk with
    | dead=>simp [hb] at hs
    | loop=>simp [hb] at hs
    | mp=>simp [hb] at hs
    | dat es xs=>
      simp only [hb] at hs;split at hs <;> try simp at hs
      rename_i cs u aa;have u:=Nat.eq_of_beq_eq_true u;have g : (xs.map (·.map V.d))[e]? = some (cs.map V.d):=by simp [aa]
      split at hs
      · rename_i ds ak;simp at hs;obtain ⟨f,hs⟩:=hs;refine key _ _ _ _ _ hb rfl u.symm g (by simpa using f) ?_ hs.symm;simp only [rowsOf,Option.some.injEq,Prod.mk.injEq,true_and];rw [q36 ak];simp [splice,List.map_set,List.map_take,List.map_drop]
      · simp at hs;obtain ⟨f,hs⟩:=hs;exact key _ _ _ _ _ hb rfl u.symm g (by simpa using f) rfl hs.symm
    | cel es xs=>
      simp only [hb] at hs;split at hs <;> try simp at hs
      rename_i cs u aa;have u:=Nat.eq_of_beq_eq_true u;obtain ⟨f,hs⟩:=hs;exact key _ _ _ _ _ hb rfl u.symm aa f rfl hs.symm
end
end Go.Am
namespace Go.Am
open Go
variable {P : Program} {T : Tab}
section
variable {w : World} {Z : Nat→Prop} {inj : Inj} {nx : Nat}
def Jt (w : World) (ad : Option Addr) (L : List Value) (ys : List (List V)) : Prop:=match ad with
  | some p=>∀ (k : Nat) (u : Value),L[k]? = some u→w.cell? (p.add k) = some u
  | none=>ys = []
theorem qfn {b o es : Nat} {xs : List (List V)} (r : es≠0) (q : ∀ (i : Nat) (x : List V),xs[i]? = some x→x.length = es)
    (h : ∀ (i : Nat) (x : List V) (j : Nat) (d : V),xs[i]? = some x→x[j]? = some d→Kp d = true∧∃ c,w.cell? ⟨b,o + (i * es + j),none⟩ = some c∧RelV w Z inj nx d c) :
    ∃ L : List Value,L.length = xs.length * es∧(∀ (k : Nat) (u : Value),L[k]? = some u→w.cell? ⟨b,o + k,none⟩ = some u)∧ERel w Z inj nx es xs L.toArray:=by
  have g : ∀ k,k < xs.length * es→∃ i x j d c,xs[i]? = some x∧x[j]? = some d∧k = i * es + j∧w.cell? ⟨b,o + k,none⟩ = some c∧RelV w Z inj nx d c:=by
    intro k a;have m : k / es < xs.length:=Nat.div_lt_of_lt_mul (by rwa [Nat.mul_comm]);have n : k % es < es:=Nat.mod_lt _ q0;obtain ⟨x,f⟩:=Zp m;obtain ⟨d,hd⟩:=Zp (xs:=x) (i:=k % es) (by rw [q _ _ f];exact n);obtain ⟨_,c,l,s⟩:=h _ _ _ _ f hd;have a : k = k / es * es + k % es:=by rw [Nat.mul_comm];exact (Nat.div_add_mod k es).symm
    exact ⟨_,_,_,_,c,f,hd,a,by rw [a];exact l,s⟩
  refine ⟨(List.range (xs.length * es)).map fun k=>(w.cell? ⟨b,o + k,none⟩).getD undef,qe,?_,?_⟩
  · intro k u p;have a : k < xs.length * es:=by have:=Kh p;simpa using this
    obtain ⟨_,_,_,_,c,_,_,_,l,_⟩:=g k a;simp [a,l] at p;rw [l,p]
  · refine ⟨qe,q,fun i x j d f hd=>?_⟩;obtain ⟨m,c,n,t⟩:=h i x j d f hd;have a:=q3b (Kh f) (show j < es by have:=Kh hd;have:=q i x f;omega);exact ⟨m,c,by simp [a,n],t⟩
theorem ERel.append {es : Nat} {xs ys : List (List V)} {A B : Array Value} (h : ERel w Z inj nx es xs A) (k : ERel w Z inj nx es ys B) : ERel w Z inj nx es (xs ++ ys) (A ++ B):=by
  obtain ⟨l,p,o⟩:=h;obtain ⟨b1,n,m⟩:=k;refine ⟨by simp [l,b1,Nat.add_mul],?_,?_⟩
  · intro i x a;rw [List.getElem?_append] at a;split at a
    · exact p _ _ a
    · exact n _ _ a
  · intro i x j d a hd;rw [List.getElem?_append] at a;split at a
    · obtain ⟨f,c,b,g⟩:=o i x j d a hd;exact ⟨f,c,by rw [Array.getElem?_append_left (Zi b)];exact b,g⟩
    · rename_i hi;obtain ⟨f,c,b,g⟩:=m _ x j d a hd;refine ⟨f,c,?_,g⟩
      have e : i * es + j = A.size + ((i - xs.length) * es + j):=by
        rw [l,← Nat.add_assoc,← Nat.add_mul];congr 2;omega
      rw [e,Array.getElem?_append_right q0,show A.size + ((i - xs.length) * es + j) - A.size = (i - xs.length) * es + j by omega];exact b
theorem ERel.row {es : Nat} {xs : List (List V)} {A B : Array Value} (h : ERel w Z inj nx es xs A) : RowV w Z inj nx (A ++ B) 0 es xs:=by
  intro i x j d b hd;obtain ⟨f,c,a,g⟩:=h.2.2 i x j d b hd;exact ⟨f,c,by rw [Nat.zero_add,Array.getElem?_append_left (Zi a)];exact a,g⟩
theorem ERel.one {es : Nat} {xs : List (List V)} {L : List Value} (g : es≠0) (h : ERel w Z inj nx es xs L.toArray) : ∀ u∈L,u.oneCell' = true:=by
  intro u n;obtain ⟨k,f⟩:=List.mem_iff_getElem?.1 n;have o:=Kh f;have l : L.length = xs.length * es:=by simpa using h.1
  have j : k / es < xs.length:=Nat.div_lt_of_lt_mul (by rw [Nat.mul_comm];omega);obtain ⟨x,b⟩:=Zp j;obtain ⟨d,hd⟩:=Zp (xs:=x) (i:=k % es) (by rw [h.2.1 _ _ b];exact Nat.mod_lt _ q0);obtain ⟨m,c,a,p⟩:=h.2.2 _ _ _ _ b hd;have e : k / es * es + k % es = k:=by rw [Nat.mul_comm];exact Nat.div_add_mod k es
  rw [e] at a;simp [f] at a;subst a;exact qf7 p m
theorem ERel.mono {w' : World} {inj' : Inj} {nx' es : Nat} {xs : List (List V)} {A : Array Value} (h : ERel w Z inj nx es xs A) (b : ∀ v x,RelV w Z inj nx v x→RelV w' Z inj' nx' v x) : ERel w' Z inj' nx' es xs A:=
  ⟨h.1,h.2.1,fun i x j d a hd=>let ⟨h1,c,h2,h3⟩:=h.2.2 i x j d a hd;⟨h1,c,h2,b _ _ h3⟩⟩
theorem ERel.nil {es : Nat} : ERel w Z inj nx es [] #[]:=⟨qe,qe,qe⟩
theorem RowV.cells {arr : Array Value} {ty : TypeId} {b o es off len : Nat} {xs : List (List V)} (h : RowV w Z inj nx arr o es xs) (hb : w.heap[b]? = some (.cells arr ty (0,0))) :
    ∀ (i : Nat) (x : List V) (j : Nat) (d : V),((xs.drop off).take len)[i]? = some x→x[j]? = some d→Kp d = true∧∃ c,w.cell? ⟨b,o + off * es + (i * es + j),none⟩ = some c∧RelV w Z inj nx d c:=by
  intro i x j d a hd;rw [List.getElem?_take] at a;split at a
  · rw [List.getElem?_drop] at a;obtain ⟨f,c,k,g⟩:=h _ x j d a hd;refine ⟨f,c,?_,g⟩;simp only [World.cell?,hb];rw [← k];simp only [Option.isSome_none,Bool.false_eq_true,if_false];rw [Nat.add_mul];congr 1;omega
  · simp at a
theorem qg1 {es off len : Nat} {xs : List (List V)} (b : ∀ (i : Nat) (x : List V),xs[i]? = some x→x.length = es) : ∀ (i : Nat) (x : List V),((xs.drop off).take len)[i]? = some x→x.length = es:=by
  intro i x a;rw [List.getElem?_take] at a;split at a
  · rw [List.getElem?_drop] at a;exact b _ _ a
  · simp at a
end
section
variable {w : World} {Z : Nat→Prop} {inj : Inj} {st : AS} {a : Act} {Ds : List Nat}
theorem qdm {x : V} {ys : List (List DV)} (h : Yx st x = some ys) : Zd st x = some (ys.map (·.map .d)):=by
  unfold Yx at h;split at h
  · simp at h;subst h;rfl
  · simp at h;subst h;rfl
  · split at h <;> try simp at h
    rename_i hb;obtain ⟨a,rfl⟩:=h;simp [Zd,hb,a]
  · simp at h
theorem qam {x : V} {xv : Value} {es : Nat} {ys : List (List V)} (h : RelS w Z inj st a Ds) (g : RelV w Z inj st.nx x xv) (f : Zd st x = some ys) (hf : J4 es x = true) (r : es≠0) :
    ∃ (m : Option Addr) (cap : Nat) (L : List Value),xv = .slice m ys.length cap∧L.length = ys.length * es∧ERel w Z inj st.nx es ys L.toArray∧Jt w m L ys:=by
  unfold Zd at f;split at f
  · simp at f;subst f
    cases g with | d g=>
    cases g;exact ⟨none,0,[],rfl,qe,.nil,(rfl : Jt w none [] [])⟩
  · rename_i l xs;simp at f;subst f;have he:=Nat.eq_of_beq_eq_true hf;subst he
    cases g with | d g=>
    cases g with
    | slnil=>exact ⟨none,0,[],rfl,qe,.nil,(rfl : Jt w none [] [])⟩
    | slemp _ m=>exact ⟨some m,0,[],rfl,qe,.nil,fun k u q=>by simp at q⟩
    | @sl _ _ b o cap p h2 h3 h4 h5=>
      obtain ⟨L,l1,l2,l3⟩:=qfn (w:=w) (Z:=Z) (inj:=inj) (nx:=st.nx) (b:=b) (o:=o) (xs:=xs.map (·.map V.d)) r
        (fun i x g=>by simp only [List.getElem?_map,Y3] at g;obtain ⟨y,hy,rfl⟩:=g;simpa using h3 i y hy)
        (fun i x j d g hd=>by
          simp only [List.getElem?_map,Y3] at g;obtain ⟨y,hy,rfl⟩:=g;simp only [List.getElem?_map,Y3] at hd;obtain ⟨d',s,rfl⟩:=hd;obtain ⟨g1,c,g2⟩:=h4 i y j d' hy s
          exact ⟨g1,c,g2,.d (h5 i y j d' c hy s g2)⟩)
      exact ⟨some ⟨b,o,none⟩,cap,L,qe,l1,l3,fun k u q=>by rw [Jv];exact l2 k u q⟩
  · rename_i n l off len;have he:=Nat.eq_of_beq_eq_true hf;subst he
    have key : ∀ (b0 : Blk) (xs : List (List V)),st.blk n = some b0→rowsOf b0 = some (l,xs)→off + len≤xs.length→ys = (xs.drop off).take len→
        ∃ (m : Option Addr) (cap : Nat) (L : List Value),xv = .slice m ys.length cap∧L.length = ys.length * l∧ERel w Z inj st.nx l ys L.toArray∧Jt w m L ys:=by
      rintro b0 xs hb hr aq rfl
      have t : ((xs.drop off).take len).length = len:=by simp;omega
      obtain ⟨g1,g2,v⟩:=q5t (h.heap.blk n b0 hb).2 hr
      cases g with
      | hsnil=>
        have : (xs.drop off).take 0 = []:=by simp
        rw [this];exact ⟨none,0,[],rfl,qe,.nil,(rfl : Jt w none [] [])⟩
      | @hs _ _ _ _ cap m hn f _ hcap=>
        by_cases h0 : len = 0
        · subst h0;have : (xs.drop off).take 0 = []:=by simp
          rw [this];exact ⟨some m,cap,[],rfl,qe,.nil,fun k u q=>by simp at q⟩
        · obtain ⟨b,o,hi,rfl,ak⟩:=hcap q0;rcases v with ⟨v,z⟩ | ⟨b',o',arr,ty,v,z,g5⟩
          · rw [hi] at z;cases z
          · rw [hi] at v;cases v;obtain ⟨L,l1,l2,l3⟩:=qfn (w:=w) (Z:=Z) (inj:=inj) (nx:=st.nx) (b:=b) (o:=o + off * l) (xs:=(xs.drop off).take len) r (qg1 g2) (g5.cells z);exact ⟨some ⟨b,o + off * l,none⟩,cap,L,by rw [t],l1,l3,fun k u q=>by rw [Jv];exact l2 k u q⟩
    split at f
    · rename_i k xs hb;split at f <;> try simp at f
      rename_i p;obtain ⟨p,rfl⟩:=p;subst f;refine key _ (xs.map (·.map V.d)) hb rfl (by simpa using p) qe
    · rename_i k xs hb;split at f <;> try simp at f
      rename_i p;obtain ⟨p,rfl⟩:=p;subst f;exact key _ xs hb rfl p rfl
    · simp at f
  · simp at f
theorem qa3 {es n : Nat} {tx g : TypeId} {b : Option Addr} {cap : Nat} {ys : List (List V)} {L : List Value} (f : es≠0) (d : P.underlying tx = some (.slice g)) (j : n = ys.length) (a : L.length = ys.length * es)
    (h : ERel w Z inj st.nx es ys L.toArray) (c : Jt w b L ys) : Src P es tx (.slice b ys.length cap) n L w:=by
  subst j;refine ⟨.inl ⟨g,d⟩,fun w'=>by simp [Builtin.lenOf],?_,?_,a,h.one f⟩
  · cases b with
    | none=>subst c;simp at a;subst a;simp [Builtin.firstCells]
    | some p=>
      have:=run_loadCells_list (P:=P) w p L c;rw [a] at this;simpa [Builtin.firstCells] using this
  · cases b with
    | none=>subst c;simp at a;subst a;simp [Builtin.firstCells]
    | some p=>
      have:=run_loadCells_list (P:=P) w.drew p L c;rw [a] at this;simpa [Builtin.firstCells] using this
theorem qaf {t tx ty e : TypeId} {i : TypeInfo} (d : P.underlying t = some (.slice e)) (hi : P.info? e = some i) {base : Option Addr} {sLen sCap : Nat} {x : Value} {n : Nat} {news : List Value} (hs : Src P i.size tx x n news w) (a : sLen + n≤sCap)
    {w' : World} (b : match base with | some p=>(storeCells (p.add (sLen * i.size)) news).run P w = .ok () w' | none=>w' = w) :
    (Builtin.append_ #[t,tx] ty #[.slice base sLen sCap,x]).run P w = .ok (.slice base (sLen + n) sCap) w':=by
  cases base with
  | none=>subst b;rcases hs.kind with ⟨f,c⟩ | c <;> simp [Builtin.append_,run_underlying d,run_underlying c,sizeOf,typeInfo,hi,hs.len,a,hs.cells]
  | some p=>rcases hs.kind with ⟨f,c⟩ | c <;> simp [Builtin.append_,run_underlying d,run_underlying c,sizeOf,typeInfo,hi,hs.len,a,hs.cells,b]
end
end Go.Am
namespace Go.Am
open Go
variable {P : Program} {T : Tab}
section
variable {w : World} {Z : Nat→Prop} {inj : Inj}
theorem RelH.newPh {hp : List (Nat × Blk)} {nx : Nat} (d : RelH w Z inj hp nx) (blk : Blk) (hb : RelB w Z (upd inj nx none) (nx + 1) nx blk) : RelH w Z (upd inj nx none) ((nx,blk)::hp) (nx + 1):=by
  refine ⟨?_,?_,?_,d.zs,d.zc⟩
  · intro n b h;rw [Kx] at h;by_cases a : nx = n
    · grind
    · simp only [a,if_false] at h;obtain ⟨g,j⟩:=d.blk n b h;exact ⟨q0,j.mono (fun _ _=>rfl) (fun _ h=>h) (Sem.keepBig_of_same rfl) (fun m f=>Ye _ _ f) q0 g (fun _ _ _=>rfl)⟩
  · intro n m b c p q a f l r hp k o;rw [Kx] at a f;by_cases g : nx = n
    · subst g;rw [Y2] at hp;cases hp
    · by_cases j : nx = m
      · subst j;rw [Y2] at k;cases k
      · simp only [g,j,if_false] at a f;rw [Ye _ _ (d.blk n b a).1] at hp;rw [Ye _ _ (d.blk m c f).1] at k;exact d.sep n m b c p q a f l r hp k o
  · intro n b p h s hp;rw [Kx] at h;by_cases a : nx = n
    · subst a;rw [Y2] at hp;cases hp
    · simp only [a,if_false] at h;rw [Ye _ _ (d.blk n b h).1] at hp;exact d.out n b p h s hp
theorem Ext.newPh {hp : List (Nat × Blk)} {nx : Nat} (l : RelH w Z inj hp nx) (blk : Blk) : Ext w Z inj hp w Z (upd inj nx none) ((nx,blk)::hp) nx:=by
  refine ⟨Nat.le_refl _,fun _ _ _=>rfl,?_,fun _ c e f h=>⟨c,e,f,h,rfl⟩,fun _ r h=>⟨r,h,rfl⟩,fun _ h=>h,fun _ h=>.inl h,fun n k=>Ye _ _ k,rfl,rfl,rfl,fun _=>rfl⟩;rintro b ⟨n,a,d,g,m,j⟩;rw [Kx] at g;by_cases k : nx = n
  · subst k;rw [Y2] at j;cases j
  · simp only [k,if_false] at g;rw [Ye _ _ (l.blk n a g).1] at j;exact .inl ⟨n,a,d,g,m,j⟩
theorem RelH.move {hp : List (Nat × Blk)} {nx n : Nat} (d : RelH w Z inj hp nx) {x blk : Blk} (hn : find hp n = some x) (j : live x = true) {g off y : Nat} (hi : inj n = some (g,off)) {old cs : Array Value} {t : TypeId} {fr : Nat × Nat}
    (hg : w.heap[g]? = some (.cells old t fr)) (hs : cs.size = old.size) (hb : RelB (w.setRow g cs) Z (upd inj nx (some (g,y))) (nx + 1) nx blk) :
    RelH (w.setRow g cs) Z (upd inj nx (some (g,y))) ((nx,blk)::repl hp n .dead) (nx + 1):=by
  have ae : ∀ b,Z b→b≠g:=fun b r e=>d.out n x _ hn j hi (by rw [← e];exact r)
  have key : ∀ m b,find (repl hp n .dead) m = some b→live b = true→find hp m = some b∧n≠m:=by
    intro m b h hl;rw [Za] at h;by_cases f : n = m
    · subst f;simp [hn] at h;subst h;simp [live] at hl
    grind
  have o : ∀ m b,find (repl hp n .dead) m = some b→m < nx:=by
    intro m b h;rw [Za] at h;by_cases f : n = m
    · subst f;exact (d.blk n x hn).1
    · simp only [f,if_false] at h;exact (d.blk m b h).1
  refine ⟨?_,?_,?_,fun b r=>by simpa using d.zs b r,fun b r=>by rw [setRow_other w g b cs (ae b r)];exact d.zc b r⟩
  · intro m b h;rw [Kx] at h;by_cases f : nx = m
    · grind
    · simp only [f,if_false] at h;refine ⟨by have:=o m b h;omega,?_⟩;by_cases hl : live b = true
      · obtain ⟨u,s⟩:=key m b h hl;obtain ⟨h3,h4⟩:=d.blk m b u;refine h4.mono (fun b r=>setRow_other w g b cs (ae b r)) (fun _ h=>h) (q2i w g old cs t fr hg hs) (fun _ hk=>Ye _ _ hk) q0 h3 ?_;intro p hp' ak;exact setRow_other w g p.1 cs (fun e=>d.sep n m x b _ _ hn u j hl hi hp' s e.symm)
      · have : b = .dead:=by cases b <;> simp_all [live]
        subst this;trivial
  · intro m k b c p q u s z v l a af;rw [Kx] at u s;by_cases f : nx = m
    · subst f;rw [Y2] at l;cases l;simp only [af,if_false] at s;obtain ⟨h3,h4⟩:=key k c s v;rw [Ye _ _ (o k c s)] at a;exact fun e=>d.sep n k x c (g,off) q hn h3 j v hi a h4 e
    · simp only [f,if_false] at u;obtain ⟨h3,h4⟩:=key m b u z;rw [Ye _ _ (o m b u)] at l;by_cases hk : nx = k
      · subst hk;rw [Y2] at a;cases a;exact fun e=>d.sep n m x b (g,off) p hn h3 j z hi l h4 e.symm
      · simp only [hk,if_false] at s;obtain ⟨h5,h6⟩:=key k c s v;rw [Ye _ _ (o k c s)] at a;exact d.sep m k b c p q h3 h5 z v l a af
  · intro m b p h hl hp' r;rw [Kx] at h;by_cases f : nx = m
    · subst f;rw [Y2] at hp';cases hp';exact d.out n x _ hn j hi r
    · simp only [f,if_false] at h;obtain ⟨u,_⟩:=key m b h hl;rw [Ye _ _ (o m b h)] at hp';exact d.out m b p u hl hp' r
theorem Ext.move {hp : List (Nat × Blk)} {nx n : Nat} (u : RelH w Z inj hp nx) {o blk : Blk} (q : find hp n = some o) (d : live o = true) {g off f : Nat} (hi : inj n = some (g,off)) {old cs : Array Value} {t : TypeId} {j : Nat × Nat}
    (p : w.heap[g]? = some (.cells old t j)) (hs : cs.size = old.size) : Ext w Z inj hp (w.setRow g cs) Z (upd inj nx (some (g,f))) ((nx,blk)::repl hp n .dead) nx:=by
  refine ⟨qe,?_,?_,q2i w g old cs t j p hs,qjf w g old cs t j p,fun _ h=>h,fun _ h=>.inl h,fun m l=>Ye _ _ l,rfl,rfl,rfl,qiu w g old cs t j p⟩
  · intro b _ hb;exact setRow_other w g b cs (fun e=>hb (by rw [e];exact ⟨n,o,off,q,d,hi⟩))
  · rintro b ⟨m,c,v,a,r,k⟩;rw [Kx] at a;by_cases l : nx = m
    · subst l;rw [Y2] at k;cases k;exact .inl ⟨n,o,off,q,d,hi⟩
    · simp only [l,if_false] at a;rw [Za] at a;by_cases s : n = m
      · subst s;simp [q] at a;subst a;simp [live] at r
      · simp only [s,if_false] at a;rw [Ye _ _ (u.blk m c a).1] at k;exact .inl ⟨m,c,v,a,r,k⟩
end
section
variable {w : World} {Z : Nat→Prop} {inj : Inj} {st : AS} {a : Act} {Ds : List Nat}
theorem qqo {a cap b : Nat} (d : cap < a) (c : a * (b * 4)≤room) : Builtin.nextslicecap a cap * b≤281474976710656:=by
  have f:=Nat.mul_le_mul_right b (Room.nextslicecap_le' d);have g : 2 * a * b≤a * (b * 4):=by rw [Nat.mul_comm b 4,← Nat.mul_assoc];exact Nat.mul_le_mul_right b q0
  unfold room at c;omega
theorem qs0 {a b : Nat} (hb : b≠0) (c : a * (b * 4)≤room) : a≤4294967296:=by
  have : a * 1≤a * (b * 4):=Nat.mul_le_mul_left _ q0;unfold room at c;omega
theorem qd2 {t u ty : TypeId} {i : TI} {e e' : TypeId} {y : TypeInfo} {o : Value} (_h : RelS w Z inj st a Ds) (hu : P.underlying t = some (.slice e)) (aa : P.underlying u = some (.slice e')) (g1 : P.info? e = some y) (g3 : y.zero = some o)
    (g6 : y.size = i.esize) (g7 : i.esize≠0) (g8 : y.bytes = i.ebytes) (g9 : i.ebytes≠0) (gz : o.cells.size = i.esize) {hp1 : List (Nat × Blk)} (hh : RelH w Z inj hp1 st.nx) (r : Ext w Z inj st.hp w Z inj hp1 st.nx)
    {base ad : Option Addr} {cap cap' : Nat} {olds ys : List (List V)} {L0 l : List Value} (m : L0.length = olds.length * i.esize) (z : ERel w Z inj st.nx i.esize olds L0.toArray) (ag : Jt w base L0 olds)
    (q : l.length = ys.length * i.esize) (p : ERel w Z inj st.nx i.esize ys l.toArray) (ab : Jt w ad l ys) (hg : cap < olds.length + ys.length) (c : (olds.length + ys.length) * (i.ebytes * 4)≤room)
    {b1 : Blk} (ae : rowsOf b1 = some (i.esize,olds ++ ys)) :
    ∃ x w' inj',(Builtin.append_ #[t,u] ty #[.slice base olds.length cap,.slice ad ys.length cap']).run P w = .ok x w'∧RelV w' Z inj' (st.nx + 1) (.hs st.nx i.esize 0 (olds.length + ys.length)) x∧RelH w' Z inj' ((st.nx,b1)::hp1) (st.nx + 1)∧
      Ext w Z inj st.hp w' Z inj' ((st.nx,b1)::hp1) st.nx:=by
  have k:=qa3 (P:=P) (tx:=t) (cap:=cap) g7 hu rfl m z ag;have j:=qa3 (P:=P) (tx:=u) (cap:=cap') g7 aa rfl q p ab;rw [← g6] at k j;have ar:=qs0 g9 c;have g:=qqo hg c;rw [← g8] at g;have d:=run_append_grow_src (P:=P) w t u ty e y o hu g1 g3 base olds.length cap L0 k.cellsD (.slice ad ys.length cap') ys.length l j hg q0 g;have s:=grownCap_ge w (olds.length + ys.length) cap e;generalize grownCap w (olds.length + ys.length) cap e = C at d s;generalize hA : (L0 ++ l).toArray ++ Builtin.zeroCells o.cells (C - (olds.length + ys.length)) = A at d;have f : RelH w.drew Z inj hp1 st.nx:=hh.same rfl;have n : ERel w Z inj st.nx i.esize (olds ++ ys) (L0.toArray ++ l.toArray):=z.append p
  have mono : ∀ v x,RelV w Z inj st.nx v x→RelV (w.drew.alloc (.cells A e)) Z (upd inj st.nx (some (w.heap.size,0))) (st.nx + 1) v x:=fun v x hv=>
    hv.mono (fun b hz=>J1 w.drew _ (hh.zs b hz)) (fun _ h=>h) (q2h w.drew _) (fun _ hm=>Ye _ _ hm) q0
  refine ⟨_,_,upd inj st.nx (some (w.heap.size,0)),d,?_,?_,?_⟩
  · refine .hs q0 s rfl fun _=>⟨w.heap.size,0,Y2 _ _ _,qe,A,e,(0,0),Jw w.drew _,?_⟩
    have h1 : A.size = L0.length + l.length + (C - (olds.length + ys.length)) * i.esize:=by
      rw [← hA];simp [Builtin.zeroCells,gz]
    rw [h1,m,q,← Nat.add_mul,← Nat.add_mul];grind
  · refine f.new (.cells A e) b1 0 ?_;refine q5s ae g7 n.2.1 (.inr ⟨w.heap.size,0,A,e,Y2 _ _ _,Jw w.drew _,?_⟩);have h9:=(n.row (B:=Builtin.zeroCells o.cells (C - (olds.length + ys.length)))).mono mono;simp_all
  · refine r.trans ?_ (Nat.le_refl _);have e1 : Ext w Z inj hp1 w.drew Z inj hp1 st.nx:=Ext.same rfl rfl rfl rfl;exact e1.trans (Ext.new f (.cells A e) b1 0) (Nat.le_refl _)
theorem qni {t u ty : TypeId} {i : TI} {e e' : TypeId} {ie : TypeInfo} (h : RelS w Z inj st a Ds) (hu : P.underlying t = some (.slice e)) (ao : P.underlying u = some (.slice e')) (g1 : P.info? e = some ie)
    (g6 : ie.size = i.esize) (g7 : i.esize≠0) {n off len cap cap' b o : Nat} {b0 b1 : Blk} {xs ys : List (List V)} (s : st.blk n = some b0) (ax : rowsOf b0 = some (i.esize,xs)) (bq : off + len≤xs.length)
    (hi : inj n = some (b,o)) (af : Big w b (o + (off + cap) * i.esize)) (_hlc : len≤cap)
    {ad : Option Addr} {g : List Value} (ah : g.length = ys.length * i.esize) (q : ERel w Z inj st.nx i.esize ys g.toArray) (ap : Jt w ad g ys) (hg : len + ys.length≤cap)
    (bc : rowsOf b1 = some (i.esize,(xs.drop off).take len ++ ys)) :
    ∃ x w' inj',(Builtin.append_ #[t,u] ty #[.slice (some ⟨b,o + off * i.esize,none⟩) len cap,.slice ad ys.length cap']).run P w = .ok x w'∧RelV w' Z inj' (st.nx + 1) (.hs st.nx i.esize 0 (len + ys.length)) x∧
      RelH w' Z inj' ((st.nx,b1)::repl st.hp n .dead) (st.nx + 1)∧Ext w Z inj st.hp w' Z inj' ((st.nx,b1)::repl st.hp n .dead) st.nx:=by
  have ai:=qa3 (P:=P) (tx:=u) (cap:=cap') g7 ao rfl ah q ap;obtain ⟨q1,q2,q3⟩:=q5t (h.heap.blk n b0 s).2 ax;rcases q3 with ⟨_,q4⟩ | ⟨b',o',arr,ac,q3,q4,q5⟩
  · grind
  rw [hi] at q3;cases q3;have k : live b0 = true:=by cases b0 <;> simp_all [rowsOf,live]
  have av : o + (off + cap) * i.esize≤arr.size:=by
    obtain ⟨c,e2,f,k1,k2⟩:=af;grind
  have ay : g.length = ys.length * i.esize:=ah;have aj : (len + ys.length) * i.esize≤cap * i.esize:=Nat.mul_le_mul_right _ hg;rw [Nat.add_mul] at aj av;have l : o + off * i.esize + len * i.esize + g.length≤arr.size:=by omega
  have z:=run_storeCells_at P b (o + off * i.esize + len * i.esize) ac g 0 arr w q4 (by simpa using l) (q.one g7);simp only [Nat.add_zero] at z;have bb : (arr.toList.take (o + off * i.esize + len * i.esize) ++ g ++ arr.toList.drop (o + off * i.esize + len * i.esize + g.length)).toArray = (splice arr.toList (o + off * i.esize + len * i.esize) g).toArray:=rfl;rw [bb] at z
  have ag:=qaf (P:=P) (w:=w) (ty:=ty) hu g1 (base:=some ⟨b,o + off * i.esize,none⟩) (sLen:=len) (sCap:=cap) (x:=.slice ad ys.length cap') (n:=ys.length) (news:=g) (by rw [g6];exact ai) hg
    (w':=w.setRow b (splice arr.toList (o + off * i.esize + len * i.esize) g).toArray) (by show (storeCells ((⟨b,o + off * i.esize,none⟩ : Addr).add (len * ie.size)) g).run P w = _;rw [Jv,g6];exact z)
  have p : o + off * i.esize + len * i.esize + g.length≤arr.toList.length:=by simpa using l
  have r : (splice arr.toList (o + off * i.esize + len * i.esize) g).toArray.size = arr.size:=by simp [q1t _ _ _ p]
  have hz : ∀ b1,Z b1→(w.setRow b (splice arr.toList (o + off * i.esize + len * i.esize) g).toArray).heap[b1]? = w.heap[b1]?:=fun b1 ba=>
    setRow_other w b b1 _ (fun e=>h.heap.out n b0 _ s k hi (by rw [← e];exact ba))
  have bd:=q2i w b arr _ ac (0,0) q4 r
  have mono : ∀ v x,RelV w Z inj st.nx v x→RelV (w.setRow b (splice arr.toList (o + off * i.esize + len * i.esize) g).toArray) Z (upd inj st.nx (some (b,o + off * i.esize))) (st.nx + 1) v x:=fun v x hv=>
    hv.mono hz (fun _ h=>h) bd (fun _ hm=>Ye _ _ hm) q0
  have y : ((xs.drop off).take len).length = len:=by simp;omega
  refine ⟨_,_,upd inj st.nx (some (b,o + off * i.esize)),ag,?_,?_,Ext.move h.heap s k hi q4 r⟩
  · refine .hs q0 hg rfl fun _=>⟨b,o + off * i.esize,Y2 _ _ _,qe,_,_,_,setRow_heap w b _ _ _ _ q4,?_⟩
    grind
  · refine h.heap.move s k hi q4 r (q5s bc g7 ?_ (.inr ⟨b,o + off * i.esize,_,ac,Y2 _ _ _,setRow_heap w b _ _ _ _ q4,?_⟩))
    · intro j x m;rw [List.getElem?_append] at m;split at m
      · grind
      · exact q.2.1 _ _ m
    · intro j x j' d m hd;rw [List.getElem?_toArray,U3 _ _ _ _ p];rw [List.getElem?_append] at m;split at m
      · rename_i hj;rw [y] at hj;have az:=qg1 q2 j x m;have ab : j' < i.esize:=by have:=Kh hd;omega
        have hc:=q3b hj ab;rw [qx q0];rw [List.getElem?_take] at m;rw [qs hj,List.getElem?_drop] at m;obtain ⟨k1,c,k2,k3⟩:=q5 _ x j' d m hd;grind
      · rename_i hj;rw [y] at hj m;obtain ⟨k1,c,k2,k3⟩:=q.2.2 _ x j' d m hd;have aq:=Kh m;have az:=q.2.1 _ x m;have ab : j' < i.esize:=by have:=Kh hd;omega
        have hc:=q3b aq ab;have he : j * i.esize = len * i.esize + (j - len) * i.esize:=by rw [← Nat.add_mul];congr 1;omega
        grind
theorem qsm {t u ty : TypeId} {i j : TI} {sv xv v : V} {vs vx : Value} {st1 : AS} (h : RelS w Z inj st a Ds) (ht : tiOf P t = some i) (hu : tiOf P u = some j) (bo : i.kind = .slice) (bm : j.kind = .slice) (hf : J4 i.esize xv = true)
    (am : RelV w Z inj st.nx sv vs) (av : RelV w Z inj st.nx xv vx) (f : Z9 st i sv xv = some (v,st1)) :
    ∃ x w' inj',(Builtin.append_ #[t,u] ty #[vs,vx]).run P w = .ok x w'∧RelV w' Z inj' st1.nx v x∧RelH w' Z inj' st1.hp st1.nx∧Ext w Z inj st.hp w' Z inj' st1.hp st.nx∧st1.sl = st.sl∧st.nx≤st1.nx:=by
  obtain ⟨bx,d,z,k⟩:=Ys ht;obtain ⟨bl,d',z',k'⟩:=Ys hu;have hk:=k.kind;have aq:=k'.kind;unfold Zf at hk aq;simp only [bo,bm] at hk aq;obtain ⟨e,ie,de,ze,rfl,g1,g2,g3,g4,g5,g6,g7,g8,g9,_⟩:=hk;obtain ⟨e',_,_,_,rfl,_⟩:=aq;have gz : ze.cells.size = i.esize:=by have:=(q84 g4).1;simp at this;omega
  have r : ∀ ys b1,Zd st xv = some ys→vs = .slice none 0 0→rowsOf b1 = some (i.esize,ys)→ys.length * (i.ebytes * 4)≤room→ys.length≠0→
      ∃ x w' inj',(Builtin.append_ #[t,u] ty #[vs,vx]).run P w = .ok x w'∧RelV w' Z inj' (st.nx + 1) (.hs st.nx i.esize 0 ys.length) x∧RelH w' Z inj' ((st.nx,b1)::st.hp) (st.nx + 1)∧Ext w Z inj st.hp w' Z inj' ((st.nx,b1)::st.hp) st.nx:=by
    rintro ys b1 hc rfl hr c cl
    obtain ⟨ad,cap',L1,rfl,l,s,q⟩:=qam h av hc hf g7
    have:=qd2 (P:=P) (ty:=ty) h k.und k'.und g1 g3 g6 g7 g8 g9 gz h.heap Ext.refl (base:=none) (cap:=0) (olds:=[]) (L0:=[]) qe .nil (rfl : Jt w none [] []) (cap':=cap') l s q (by simp;omega) (by simpa using c) (b1:=b1) (by simpa using hr)
    simpa using this
  have ae : ∀ ys,Zd st xv = some ys→vs = .slice none 0 0→ys.length = 0→(Builtin.append_ #[t,u] ty #[vs,vx]).run P w = .ok (.slice none 0 0) w:=by
    rintro ys hc rfl y;obtain ⟨ad,cap',L1,rfl,l,s,q⟩:=qam h av hc hf g7;have ac:=qa3 (P:=P) (tx:=u) (cap:=cap') g7 k'.und rfl l s q;have:=qaf (P:=P) (w:=w) (ty:=ty) k.und g1 (base:=none) (sLen:=0) (sCap:=0) (by rw [g6];exact ac) q0 (w':=w) rfl;grind
  have m : ∀ n off len xs ys b0 b1,sv = .hs n i.esize off len→st.blk n = some b0→rowsOf b0 = some (i.esize,xs)→off + len≤xs.length→Zd st xv = some ys→rowsOf b1 = some (i.esize,(xs.drop off).take len ++ ys)→
      (len + ys.length) * (i.ebytes * 4)≤room→
      ∃ x w' inj',(Builtin.append_ #[t,u] ty #[vs,vx]).run P w = .ok x w'∧RelV w' Z inj' (st.nx + 1) (.hs st.nx i.esize 0 (len + ys.length)) x∧RelH w' Z inj' ((st.nx,b1)::repl st.hp n .dead) (st.nx + 1)∧
        Ext w Z inj st.hp w' Z inj' ((st.nx,b1)::repl st.hp n .dead) st.nx:=by
    rintro n off len xs ys b0 b1 rfl bb bd bv hc ab c
    obtain ⟨ad,cap',L1,rfl,l,s,q⟩:=qam h av hc hf g7
    have ac:=qa3 (P:=P) (tx:=u) (cap:=cap') g7 k'.und rfl l s q
    have ai : ((xs.drop off).take len).length = len:=by simp;omega
    obtain ⟨q1,q2,q3⟩:=q5t (h.heap.blk n b0 bb).2 bd
    have p : RelH w Z inj (repl st.hp n .dead) st.nx:=h.heap.drop
    have aa : Ext w Z inj st.hp w Z inj (repl st.hp n .dead) st.nx:=Ext.drop
    have ph : len = 0→ys.length = 0→RelH w Z (upd inj st.nx none) ((st.nx,b1)::repl st.hp n .dead) (st.nx + 1)∧Ext w Z inj st.hp w Z (upd inj st.nx none) ((st.nx,b1)::repl st.hp n .dead) st.nx:=by
      intro h1 h2;have ap : (xs.drop off).take len ++ ys = []:=by subst h1;simp [List.eq_nil_of_length_eq_zero h2]
      refine ⟨p.newPh b1 (q5s ab g7 (by rw [ap];simp) (.inl ⟨ap,Y2 _ _ _⟩)),aa.trans (Ext.newPh p b1) (Nat.le_refl _)⟩
    cases am with
    | hsnil hm=>
      by_cases y : ys.length = 0
      · obtain ⟨p1,p2⟩:=ph rfl y;have:=qaf (P:=P) (w:=w) (ty:=ty) k.und g1 (base:=none) (sLen:=0) (sCap:=0) (by rw [g6];exact ac) q0 (w':=w) rfl;refine ⟨_,w,_,this,?_,p1,p2⟩;simp only [Nat.zero_add,y];exact .hsnil q0
      · have:=qd2 (P:=P) (ty:=ty) h k.und k'.und g1 g3 g6 g7 g8 g9 gz p aa (base:=none) (cap:=0) (olds:=[]) (L0:=[]) qe .nil (rfl : Jt w none [] []) (cap':=cap') l s q (by simp;omega) (by simpa using c) (b1:=b1) (by simpa using ab);simpa using this
    | @hs _ _ _ _ cap adr hm hcl hsp hcap=>
      by_cases hg : len + ys.length≤cap
      · by_cases bc : cap = 0
        · obtain ⟨p1,p2⟩:=ph q0 q0;have hL : L1 = []:=List.eq_nil_of_length_eq_zero (by rw [l,show ys.length = 0 by omega];simp);have:=qaf (P:=P) (w:=w) (ty:=ty) k.und g1 (base:=some adr) (sLen:=len) (sCap:=cap) (by rw [g6];exact ac) hg (w':=w) (by subst hL;show (storeCells _ []).run P w = _;simp [storeCells]);exact ⟨_,w,_,this,.hs q0 hg hsp (fun h=>absurd bc h),p1,p2⟩
        · obtain ⟨b,o,hi,rfl,ao⟩:=hcap bc;exact qni (P:=P) (ty:=ty) h k.und k'.und g1 g6 g7 bb bd bv hi ao hcl (cap':=cap') l s q hg ab
      · have hold : ∃ L0 : List Value,L0.length = ((xs.drop off).take len).length * i.esize∧ERel w Z inj st.nx i.esize ((xs.drop off).take len) L0.toArray∧Jt w (some adr) L0 ((xs.drop off).take len):=by
          by_cases y : len = 0
          · subst y;exact ⟨[],qe,by simpa using ERel.nil,fun k u hu=>by simp at hu⟩
          · obtain ⟨b,o,hi,rfl,ao⟩:=hcap q0;rcases q3 with ⟨_,q4⟩ | ⟨b',o',arr,ci,q3,q4,q5⟩
            · rw [hi] at q4;cases q4
            · rw [hi] at q3;cases q3;obtain ⟨L,l1,l2,l3⟩:=qfn (w:=w) (Z:=Z) (inj:=inj) (nx:=st.nx) (b:=b) (o:=o + off * i.esize) (xs:=(xs.drop off).take len) g7 (qg1 q2) (q5.cells q4);exact ⟨L,l1,l3,fun k u hu=>by rw [Jv];exact l2 k u hu⟩
        obtain ⟨L0,a1,a2,a3⟩:=hold;have:=qd2 (P:=P) (ty:=ty) h k.und k'.und g1 g3 g6 g7 g8 g9 gz p aa (base:=some adr) (cap:=cap) a1 a2 a3 (cap':=cap') l s q (by rw [ai];omega) (by rw [ai];exact c) (b1:=b1) ab;rw [ai] at this;exact this
  cases sv <;> simp only [Z9,reduceCtorEq] at f
  case d x=>
    cases x <;> simp only [reduceCtorEq] at f
    cases am with | d am=>
    cases am
    cases af : Yx st xv with
    | some ys=>
      simp only [af] at f;split at f <;> try simp at f
      rename_i c;have g:=qdm af;by_cases y : ys = []
      · rw [qs y] at f;simp at f;obtain ⟨rfl,rfl⟩:=f;exact ⟨_,w,inj,ae _ g rfl (by simpa using y),.d .nilsl,h.heap,.refl,rfl,Nat.le_refl _⟩
      · rw [qx y] at f;simp at f;obtain ⟨rfl,rfl⟩:=f;have:=r _ (.dat i.esize ys) g rfl rfl (by simpa using c) (by simpa using y);obtain ⟨x,w',inj',h1,h2,h3,h4⟩:=this;exact ⟨x,w',inj',h1,by simpa [AS.new] using h2,h3,h4,rfl,by simp [AS.new]⟩
    | none=>
      simp only [af] at f
      cases g : Zd st xv with
      | none=>simp [g] at f
      | some ys=>
        simp only [g] at f;split at f <;> try simp at f
        rename_i c;by_cases y : ys = []
        · rw [qs y] at f;simp at f;obtain ⟨rfl,rfl⟩:=f;exact ⟨_,w,inj,ae _ g rfl (by simpa using y),.d .nilsl,h.heap,.refl,rfl,Nat.le_refl _⟩
        · rw [qx y] at f;simp at f;obtain ⟨rfl,rfl⟩:=f;obtain ⟨x,w',inj',h1,h2,h3,h4⟩:=r _ (.cel i.esize ys) g rfl rfl c (by simpa using y);exact ⟨x,w',inj',h1,by simpa [AS.new] using h2,h3,h4,rfl,by simp [AS.new]⟩
  case hs n es off len=>
    split at f
    · rename_i k0 xs ys hb af;split at f <;> simp at f
      rename_i ar;obtain ⟨c1,rfl,c3,rfl⟩:=ar;obtain ⟨rfl,rfl⟩:=f;have:=m n off len (xs.map (·.map .d)) (ys.map (·.map .d)) _ (.dat i.esize ((xs.drop off).take len ++ ys)) rfl hb rfl (by simpa using c1) (qdm af) (by simp [rowsOf,List.map_take,List.map_drop]) (by simpa using c3);obtain ⟨x,w',inj',h1,h2,h3,h4⟩:=this;exact ⟨x,w',inj',h1,by simpa [AS.new,AS.setBlk] using h2,h3,h4,rfl,by simp [AS.new,AS.setBlk]⟩
    · rename_i k0 xs hb af;split at f <;> try simp at f
      rename_i ys g;obtain ⟨⟨c1,rfl,c3,rfl⟩,rfl,rfl⟩:=f;have:=m n off len (xs.map (·.map .d)) ys _ (.cel i.esize ((((xs.map (·.map V.d)).drop off).take len) ++ ys)) rfl hb rfl (by simpa using c1) g rfl c3;obtain ⟨x,w',inj',h1,h2,h3,h4⟩:=this;exact ⟨x,w',inj',h1,by simpa [AS.new,AS.setBlk] using h2,h3,h4,rfl,by simp [AS.new,AS.setBlk]⟩
    · rename_i k0 xs hb;split at f <;> try simp at f
      rename_i ys g;obtain ⟨⟨c1,rfl,c3,rfl⟩,rfl,rfl⟩:=f;have:=m n off len xs ys _ (.cel i.esize ((xs.drop off).take len ++ ys)) rfl hb rfl c1 g rfl c3;obtain ⟨x,w',inj',h1,h2,h3,h4⟩:=this;exact ⟨x,w',inj',h1,by simpa [AS.new,AS.setBlk] using h2,h3,h4,rfl,by simp [AS.new,AS.setBlk]⟩
    · simp at f
end
end Go.Am
namespace Go.Am
open Go
variable {P : Program} {T : Tab}
section
variable {w : World} {Z : Nat→Prop} {inj : Inj} {nx : Nat}
theorem RowV.spliceRows {arr : Array Value} {o es off : Nat} {xs ys : List (List V)} {L : List Value} (h : RowV w Z inj nx arr o es xs) (p : ∀ (i : Nat) (x : List V),xs[i]? = some x→x.length = es) (f : ERel w Z inj nx es ys L.toArray)
    (g : off + ys.length≤xs.length) (b : o + off * es + L.length≤arr.size) : RowV w Z inj nx (splice arr.toList (o + off * es) L).toArray o es (splice xs off ys):=by
  have s : L.length = ys.length * es:=by simpa using f.1
  intro i x j d a hd;rw [U3 _ _ _ _ g] at a;rw [List.getElem?_toArray,U3 _ _ _ _ (by simpa using b)];by_cases hi : off≤i∧i < off + ys.length
  · rw [qs hi] at a;obtain ⟨l,c,n,m⟩:=f.2.2 _ x j d a hd;have k : j < es:=by have:=Kh hd;have:=f.2.1 _ x a;omega
    have r:=q3b (Kh a) k;have u : i * es = off * es + (i - off) * es:=by rw [← Nat.add_mul];congr 1;omega
    grind
  · rw [qx hi] at a;obtain ⟨l,c,n,m⟩:=h i x j d a hd;have k : j < es:=by have:=Kh hd;have:=p _ x a;omega
    refine ⟨l,c,?_,m⟩;rw [qx ?_]
    · grind
    · intro r;by_cases q : i < off
      · have:=q3b q k;omega
      · have t : (off + ys.length) * es≤i * es:=Nat.mul_le_mul_right _ q0;grind
theorem ERel.take {es m : Nat} {xs : List (List V)} {L : List Value} (h : ERel w Z inj nx es xs L.toArray) (b : m≤xs.length) : ERel w Z inj nx es (xs.take m) (L.take (m * es)).toArray:=by
  obtain ⟨f,k,g⟩:=h;simp only [List.size_toArray] at f;have:=Nat.mul_le_mul_right es b;refine ⟨by simp;rw [Nat.min_eq_left b];omega,?_,?_⟩
  · grind
  · intro i x j d a hd;rw [List.getElem?_take] at a;split at a
    · rename_i hi;obtain ⟨n,c,l,o⟩:=g i x j d a hd;have p:=q3b hi (show j < es by have:=Kh hd;have:=k _ x a;omega);grind
    grind
end
section
variable {w : World} {Z : Nat→Prop} {inj : Inj} {st : AS} {a : Act} {Ds : List Nat}
theorem qsu {t u ty : TypeId} {i j : TI} {sv xv v : V} {vs vx : Value} {st1 : AS} (h : RelS w Z inj st a Ds) (ht : tiOf P t = some i) (_hu : tiOf P u = some j) (bm : i.kind = .slice) (_hjk : j.kind = .slice) (bl : J4 i.esize sv = true) (hf : J4 i.esize xv = true)
    (aw : RelV w Z inj st.nx sv vs) (bo : RelV w Z inj st.nx xv vx) (ha : copyV st sv xv = some (v,st1)) :
    ∃ x w' inj',(Builtin.copy_ #[t,u] ty #[vs,vx]).run P w = .ok x w'∧RelV w' Z inj' st1.nx v x∧RelH w' Z inj' st1.hp st1.nx∧Ext w Z inj st.hp w' Z inj' st1.hp st.nx∧st1.sl = st.sl∧st.nx≤st1.nx:=by
  obtain ⟨bx,d,z,k⟩:=Ys ht;have hk:=k.kind;unfold Zf at hk;simp only [bm] at hk;obtain ⟨e,ie,de,ze,rfl,g1,g2,g3,g4,g5,g6,g7,g8,g9,_⟩:=hk;cases sv <;> simp only [copyV,reduceCtorEq] at ha
  rename_i n es off len;have bp:=Nat.eq_of_beq_eq_true bl;subst bp;split at ha <;> try simp at ha
  rename_i k0 xs ys hb bn;obtain ⟨⟨cp,rfl⟩,rfl,rfl⟩:=ha;obtain ⟨ad,cap',L1,rfl,al,br,au⟩:=qam h bo (qdm bn) hf g7;rw [List.length_map] at al ⊢
  let m:=min ys.length len
  have hm : m = min ys.length len:=rfl;rw [← hm];obtain ⟨q1,q2,q3⟩:=q5t (h.heap.blk n _ hb).2 rfl;have bv : (xs.map (·.map V.d)).length = xs.length:=by simp
  have ca : m * i.esize≤ys.length * i.esize:=Nat.mul_le_mul_right _ q0
  have ag : (Builtin.firstCells i.esize m (.slice ad ys.length cap')).run P w = .ok (L1.take (m * i.esize)).toArray w:=by
    cases ad with
    | none=>
      have ax : ys.map (·.map V.d) = []:=au;have : ys = []:=by simpa using ax
      subst this;simp at al;subst al;simp [Builtin.firstCells]
    | some p=>
      have:=run_loadCells_list (P:=P) w p (L1.take (m * i.esize)) (fun k u hu=>by
        rw [List.getElem?_take] at hu;split at hu
        · exact au k u hu
        · simp at hu)
      rw [List.length_take,Nat.min_eq_left q0] at this;simpa [Builtin.firstCells] using this
  have l : ∀ base y ai,y = len→vs = .slice base y ai→∀ w',(match base with | some p=>(storeCells p (L1.take (m * i.esize))).run P w = .ok () w' | none=>w' = w)→
      (Builtin.copy_ #[t,u] ty #[vs,.slice ad ys.length cap']).run P w = .ok (.int .i64 m) w':=by
    rintro base y ai rfl rfl w' aa
    have am:=ag
    rw [← g6] at am
    have ah : Nat.min ys.length y = m:=rfl
    cases base with
    | none=>
      subst aa;simp [Builtin.copy_,run_underlying k.und,Builtin.lenOf,Ze g1,goInt,ah,am]
    | some p=>
      have ak : (storeCells p (L1.take (m * i.esize))).run P w = .ok () w':=aa;rw [← g6] at ak;simp [Builtin.copy_,run_underlying k.und,Builtin.lenOf,Ze g1,ak,goInt,ah,am]
  have s : live (.dat i.esize xs) = true:=rfl
  have same : m = 0→RelH w Z inj (repl st.hp n (.dat i.esize (splice xs off (ys.take m)))) st.nx∧Ext w Z inj st.hp w Z inj (repl st.hp n (.dat i.esize (splice xs off (ys.take m)))) st.nx:=by
    intro h0;have ao : splice xs off (ys.take m) = xs:=by rw [h0];simp [splice]
    rw [ao]
    have g : ∀ q,find (repl st.hp n (.dat i.esize xs)) q = find st.hp q:=by
      intro q;rw [Za];by_cases hq : n = q
      · subst hq;have : find st.hp n = some (.dat i.esize xs):=hb;simp [this]
      · simp [hq]
    constructor
    · exact ⟨fun q b hq=>h.heap.blk q b (by rw [g] at hq;exact hq),fun q r b c p' q' h1 h2=>h.heap.sep q r b c p' q' (by rw [g] at h1;exact h1) (by rw [g] at h2;exact h2),fun q b p' h1=>h.heap.out q b p' (by rw [g] at h1;exact h1),h.heap.zs,h.heap.zc⟩
    · exact {Ext.refl (w:=w) (Z:=Z) (inj:=inj) (hp:=st.hp) (pin:=st.nx) with imm:=fun b hb=>by obtain ⟨q,blk,o,h1,h2,h3⟩:=hb;rw [g] at h1;exact .inl ⟨q,blk,o,h1,h2,h3⟩}
  have af : ∀ w' inj' nx',RelV w' Z inj' nx' (.d (.int .i64 ((min ys.length len : Nat) : Int))) (.int .i64 (m : Nat)):=fun _ _ _=>.d (.int _ _);by_cases h0 : m = 0
  · obtain ⟨s1,s2⟩:=same h0
    cases aw with
    | hsnil=>exact ⟨_,w,inj,l none _ _ rfl rfl w rfl,af _ _ _,s1,s2,rfl,Nat.le_refl _⟩
    | @hs _ _ _ _ cap adr hn' hlc _ hcap=>exact ⟨_,w,inj,l (some adr) _ _ rfl rfl w (by show (storeCells _ _).run P w = _;rw [h0];simp [storeCells]),af _ _ _,s1,s2,rfl,Nat.le_refl _⟩
  · cases aw with
    | hsnil=>omega
    | @hs _ _ _ _ cap adr hn' hlc _ hcap=>
      obtain ⟨b,o,hi,rfl,av⟩:=hcap q0;rcases q3 with ⟨_,q4⟩ | ⟨b',o',arr,ap,q3,q4,q5⟩
      · grind
      rw [hi] at q3;cases q3;have hL : (L1.take (m * i.esize)).length = m * i.esize:=by rw [List.length_take,Nat.min_eq_left q0]
      have ac:=br.take (m:=m) (by simp;omega)
      have bk : o + (off + cap) * i.esize≤arr.size:=by
        obtain ⟨c,e2,f,k1,k2⟩:=av;grind
      have ch : m * i.esize≤cap * i.esize:=Nat.mul_le_mul_right _ q0;rw [Nat.add_mul] at bk;have aa:=run_storeCells_at P b (o + off * i.esize) ap (L1.take (m * i.esize)) 0 arr w q4 (by rw [hL];omega) (ac.one g7);simp only [Nat.add_zero] at aa;have ao : (arr.toList.take (o + off * i.esize) ++ L1.take (m * i.esize) ++ arr.toList.drop (o + off * i.esize + (L1.take (m * i.esize)).length)).toArray = (splice arr.toList (o + off * i.esize) (L1.take (m * i.esize))).toArray:=rfl;rw [ao] at aa;have an : o + off * i.esize + (L1.take (m * i.esize)).length≤arr.toList.length:=by rw [hL];simp;omega
      have ae : (splice arr.toList (o + off * i.esize) (L1.take (m * i.esize))).toArray.size = arr.size:=by simp only [List.size_toArray];rw [q1t _ _ _ an];simp
      have hz : ∀ b1,Z b1→(w.setRow b (splice arr.toList (o + off * i.esize) (L1.take (m * i.esize))).toArray).heap[b1]? = w.heap[b1]?:=fun b1 bq=>
        setRow_other w b b1 _ (fun e=>h.heap.out n _ _ hb s hi (by rw [← e];exact bq))
      have bu:=q2i w b arr _ ap (0,0) q4 ae;have cl : (ys.take m).length = m:=by rw [List.length_take,Nat.min_eq_left q0]
      refine ⟨_,_,inj,l (some ⟨b,o + off * i.esize,none⟩) _ _ rfl rfl _ aa,af _ _ _,?_,Ext.set h.heap hb s hi q4 ae,rfl,Nat.le_refl _⟩;refine h.heap.set hb s hi q4 ae (q5s (es:=i.esize) (xs:=splice (xs.map (·.map V.d)) off ((ys.map (·.map V.d)).take m)) ?_ g7 ?_ (.inr ⟨b,o,_,ap,hi,setRow_heap w b _ _ _ _ q4,?_⟩))
      · simp only [rowsOf,splice,List.map_append,List.map_take,List.map_drop,Option.some.injEq,Prod.mk.injEq,true_and];simp
      · intro i' x' aq;rw [U3 _ _ _ _ (by simp;omega)] at aq;split at aq
        · exact ac.2.1 _ _ aq
        grind
      · refine (q5.spliceRows q2 ac (by simp;omega) (by rw [hL];omega)).mono fun v x hr=>hr.mono hz (fun _ h=>h) bu (fun _ _=>rfl) (Nat.le_refl _)
theorem qss {t ty : TypeId} {i : TI} {sv v : V} {vs : Value} {st1 : AS} (h : RelS w Z inj st a Ds) (ht : tiOf P t = some i) (az : i.kind = .slice) (be : J4 i.esize sv = true) (u : RelV w Z inj st.nx sv vs) (ha : Jy st i sv = some (v,st1)) :
    ∃ x w' inj',(Builtin.clear_ #[t] ty #[vs]).run P w = .ok x w'∧RelV w' Z inj' st1.nx v x∧RelH w' Z inj' st1.hp st1.nx∧Ext w Z inj st.hp w' Z inj' st1.hp st.nx∧st1.sl = st.sl∧st.nx≤st1.nx:=by
  obtain ⟨bl,d,z,k⟩:=Ys ht;have hk:=k.kind;unfold Zf at hk;simp only [az] at hk;obtain ⟨e,ie,de,ze,rfl,g1,g2,g3,g4,g5,g6,g7,g8,g9,_⟩:=hk;have aa : ∀ w' inj' nx',RelV w' Z inj' nx' (.d (.tup [])) (.tuple #[]):=fun _ _ _=>.d (.tup qe qe);cases sv <;> simp only [Jy,reduceCtorEq] at ha
  case d x=>
    cases x <;> simp only [reduceCtorEq,Option.some.injEq,Prod.mk.injEq] at ha
    obtain ⟨rfl,rfl⟩:=ha
    cases u with | d u=>
    cases u;exact ⟨_,w,inj,by simp [Builtin.clear_,run_underlying k.und],aa _ _ _,h.heap,.refl,rfl,Nat.le_refl _⟩
  case hs n es off len=>
  have ba:=Nat.eq_of_beq_eq_true be;subst ba;split at ha <;> try simp at ha
  rename_i k0 xs hb;obtain ⟨⟨bt,rfl⟩,rfl,rfl⟩:=ha;obtain ⟨q1,q2,q3⟩:=q5t (h.heap.blk n _ hb).2 rfl;have m : live (.dat i.esize xs) = true:=rfl;by_cases h0 : len = 0
  · subst h0;have ai : splice xs off (List.replicate 0 i.ezero) = xs:=by simp [splice]
    have g : ∀ q,find (repl st.hp n (.dat i.esize (splice xs off (List.replicate 0 i.ezero)))) q = find st.hp q:=by
      intro q;rw [ai,Za];by_cases hq : n = q
      · subst hq;have : find st.hp n = some (.dat i.esize xs):=hb;simp [this]
      · simp [hq]
    have s1 : RelH w Z inj (repl st.hp n (.dat i.esize (splice xs off (List.replicate 0 i.ezero)))) st.nx:=
      ⟨fun q b hq=>h.heap.blk q b (by rw [g] at hq;exact hq),fun q r b c p' q' h1 h2=>h.heap.sep q r b c p' q' (by rw [g] at h1;exact h1) (by rw [g] at h2;exact h2),fun q b p' h1=>h.heap.out q b p' (by rw [g] at h1;exact h1),h.heap.zs,h.heap.zc⟩
    have s2 : Ext w Z inj st.hp w Z inj (repl st.hp n (.dat i.esize (splice xs off (List.replicate 0 i.ezero)))) st.nx:=
      {Ext.refl (w:=w) (Z:=Z) (inj:=inj) (hp:=st.hp) (pin:=st.nx) with imm:=fun b hb=>by obtain ⟨q,blk,o,h1,h2,h3⟩:=hb;rw [g] at h1;exact .inl ⟨q,blk,o,h1,h2,h3⟩}
    cases u with
    | hsnil=>exact ⟨_,w,inj,by simp [Builtin.clear_,run_underlying k.und],aa _ _ _,s1,s2,rfl,Nat.le_refl _⟩
    | @hs _ _ _ _ cap adr hn' hlc _ hcap=>exact ⟨_,w,inj,by simp [Builtin.clear_,run_underlying k.und],aa _ _ _,s1,s2,rfl,Nat.le_refl _⟩
  · cases u with
    | hsnil=>omega
    | @hs _ _ _ _ cap adr hn' hlc _ hcap=>
      obtain ⟨b,o,hi,rfl,an⟩:=hcap q0;rcases q3 with ⟨_,q4⟩ | ⟨b',o',arr,aj,q3,q4,q5⟩
      · grind
      rw [hi] at q3;cases q3;obtain ⟨p,ae⟩ : ∃ p,p = (Builtin.zeroCells ze.cells len).toList:=⟨_,rfl⟩
      have ax : ze.cells.size = i.esize:=by
        have:=(q7k (w:=w) (Z:=Z) g4).1;omega
      have hL : p.length = len * i.esize:=by rw [ae];simp [Builtin.zeroCells,ax]
      have ab : ERel w Z inj st.nx i.esize ((List.replicate len i.ezero).map (·.map V.d)) p.toArray:=by
        refine ⟨by simp [hL],fun q x hx=>?_,fun q x j d hx hd=>?_⟩
        · grind
        · rw [List.getElem?_map,List.getElem?_replicate] at hx;split at hx <;> simp at hx
          rename_i hq;subst hx;rw [List.getElem?_map] at hd
          cases ad : i.ezero[j]? with
          | none=>rw [ad] at hd;cases hd
          | some d'=>
            rw [ad] at hd;cases hd;obtain ⟨c,hc,hr,ag⟩:=qg9 (w:=w) (Z:=Z) g4 g5 hq ad;refine ⟨ag,c,?_,.d hr⟩;rw [ae,Array.toArray_toList];unfold Builtin.zeroCells;grind
      have ay : o + (off + cap) * i.esize≤arr.size:=by
        obtain ⟨c,e2,f,k1,k2⟩:=an;grind
      have bv : len * i.esize≤cap * i.esize:=Nat.mul_le_mul_right _ q0;rw [Nat.add_mul] at ay;have y:=run_storeCells_at P b (o + off * i.esize) aj p 0 arr w q4 (by rw [hL];omega) (ab.one g7);simp only [Nat.add_zero] at y;have ai : (arr.toList.take (o + off * i.esize) ++ p ++ arr.toList.drop (o + off * i.esize + p.length)).toArray = (splice arr.toList (o + off * i.esize) p).toArray:=rfl;rw [ai] at y;have af : o + off * i.esize + p.length≤arr.toList.length:=by rw [hL];simp;omega
      have s : (splice arr.toList (o + off * i.esize) p).toArray.size = arr.size:=by simp only [List.size_toArray];rw [q1t _ _ _ af];simp
      have hz : ∀ b1,Z b1→(w.setRow b (splice arr.toList (o + off * i.esize) p).toArray).heap[b1]? = w.heap[b1]?:=fun b1 bf=>
        setRow_other w b b1 _ (fun e=>h.heap.out n _ _ hb m hi (by rw [← e];exact bf))
      have bd:=q2i w b arr _ aj (0,0) q4 s
      have ao : (Builtin.clear_ #[t] ty #[.slice (some ⟨b,o + off * i.esize,none⟩) len cap]).run P w = .ok (.tuple #[]) (w.setRow b (splice arr.toList (o + off * i.esize) p).toArray):=by
        obtain ⟨l,rfl⟩ : ∃ l,len = l + 1:=⟨len - 1,q0⟩
        have bb : (zeroValue e).run P w = .ok ze w:=by simp [zeroValue,typeInfo,g1,g3]
        rw [ae] at y ⊢;simp [Builtin.clear_,run_underlying k.und,bb,y]
      refine ⟨_,_,inj,ao,aa _ _ _,?_,Ext.set h.heap hb m hi q4 s,rfl,Nat.le_refl _⟩;refine h.heap.set hb m hi q4 s (q5s (es:=i.esize) (xs:=splice (xs.map (·.map V.d)) off ((List.replicate len i.ezero).map (·.map V.d))) ?_ g7 ?_ (.inr ⟨b,o,_,aj,hi,setRow_heap w b _ _ _ _ q4,?_⟩))
      · simp only [rowsOf,splice,List.map_append,List.map_take,List.map_drop,Option.some.injEq,Prod.mk.injEq,true_and];simp
      · intro i' x' bh;rw [U3 _ _ _ _ (by simp;omega)] at bh;grind
      · refine (q5.spliceRows q2 ab (by simp;omega) (by rw [hL];omega)).mono fun v x hr=>hr.mono hz (fun _ h=>h) bd (fun _ _=>rfl) (Nat.le_refl _)
end
end Go.Am
namespace Go.Am
open Go
variable {P : Program} {T : Tab}
def qaa (P : Program) (em : Bool) (k : Nat) (t : TypeId) (desc : TypeDesc) (n : Nat) : Prop:=
  ∀ w,(Kf desc = true→∀ X : Array Value,X.size = n→(Instr.checkKey em k t (.agg X)).run P w = .ok () w)∧(Kf desc = false→n = 1∧∀ x,(Instr.checkKey em k t x).run P w = .ok () w)
theorem qh5 {f : Bool} {k : Nat} {t : TypeId} {desc : TypeDesc} {b : TypeInfo} {n : Nat} (h : qaa P f k t desc n) (d : P.underlying t = some desc) (hi : P.info? t = some b) (hs : b.size = n) {X : Array Value} {o : Nat} (m : o + n≤X.size) (w : World) :
    ∃ v,(part t X o).run P w = .ok v w∧(Instr.checkKey f k t v).run P w = .ok () w:=by
  obtain ⟨j,c⟩:=h w
  cases a : Kf desc with
  | true=>exact ⟨.agg (X.extract o (o + n)),by simp [part,q2g d,a,Ze hi,hs],j a _ (by simp;omega)⟩
  | false=>
    obtain ⟨l,c⟩:=c a;obtain ⟨x,g⟩:=Yc (xs:=X) (i:=o) q0;exact ⟨x,by simp [part,q2g d,a,g],c x⟩
def qdg (em : Bool) (k : Nat) (X : Array Value) (f : Field) (_s : PUnit) : Sem (ForInStep PUnit):=
  if f.name ≠ "_" then do
    let __do_lift ← part f.type X f.offset
    Instr.checkKey em k f.type __do_lift
    pure (ForInStep.yield PUnit.unit)
  else pure (ForInStep.yield PUnit.unit)
theorem qmv {d : Nat} {t : TypeId} {ks : List (Option IntKind)} (h : Kn P d t = some ks) : ∃ a,P.underlying t = some a:=by
  cases b : P.underlying t with
  | none=>cases d <;> simp [Kn,b] at h
  | some a=>exact ⟨a,rfl⟩
theorem qh3 (j : Bool) (d k : Nat) (m : ∀ t desc ks,P.underlying t = some desc→Kn P d t = some ks→qaa P j k t desc ks.length) (X : Array Value) (w : World) : ∀ (l : List Field) (o : Nat) (ks : List (Option IntKind)),
    tile P (Kn P d) o l = some ks→o + ks.length≤X.size→(forIn l PUnit.unit (qdg j k X) : Sem PUnit).run P w = .ok PUnit.unit w
  | [],_,_,_,_=>by simp
  | f::l,o,ks,ht,hl=>by
    simp only [tile] at ht
    cases a : Kn P d f.type with
    | none=>simp [a] at ht
    | some ka=>
      simp only [a] at ht
      split at ht <;> try simp at ht
      rename_i g
      obtain ⟨rfl,u,q⟩:=g
      cases c : tile P (Kn P d) (f.offset + ka.length) l with
      | none=>simp [c] at ht
      | some kb=>
        simp only [c,Option.some.injEq] at ht;subst ht
        simp only [List.length_append] at hl
        obtain ⟨p,b⟩:=qmv a
        obtain ⟨x,h,n⟩:=qci b
        obtain ⟨v,s,r⟩:=qh5 (m f.type p ka b a) b h q0 (X:=X) (o:=f.offset) q0 w
        have:=qh3 j d k m X w l (f.offset + ka.length) kb c q0
        rw [List.forIn_cons]
        simp only [qdg,qs u,Sem.run_bind,s,r,Result.andThen_ok]
        simpa using this
def qdh (em : Bool) (k : Nat) (e : TypeId) (X : Array Value) (i : Nat) (_s : PUnit) : Sem (ForInStep PUnit):=do
  let __do_lift ← sizeOf e
  let __do_lift ← part e X (i * __do_lift)
  Instr.checkKey em k e __do_lift
  pure (ForInStep.yield PUnit.unit)
theorem qh4 {c : Bool} {k : Nat} {e : TypeId} {desc : TypeDesc} {a : TypeInfo} {n : Nat} (d : qaa P c k e desc n) (b : P.underlying e = some desc) (hi : P.info? e = some a) (hs : a.size = n) {X : Array Value} (w : World) :
    ∀ (m s : Nat),(s + m) * n≤X.size→(forIn (List.range' s m) PUnit.unit (qdh c k e X) : Sem PUnit).run P w = .ok PUnit.unit w
  | 0,s,_=>by simp
  | m + 1,s,hl=>by
    have j : s * n + n = (s + 1) * n:=by rw [Nat.add_mul];simp
    have h : (s + (m + 1)) * n = (s + 1) * n + m * n:=by rw [← Nat.add_mul];congr 1;omega
    obtain ⟨v,g,f⟩:=qh5 d b hi hs (X:=X) (o:=s * n) q0 w
    have:=qh4 d b hi hs w m (s + 1) (X:=X) (by rw [Nat.add_mul (s + 1)];omega)
    rw [List.range'_succ,List.forIn_cons]
    simp only [qdh,Sem.run_bind,Ze hi,hs,g,f,Result.andThen_ok]
    simpa using this
theorem qdi (f : Bool) : ∀ (d : Nat) (t : TypeId) (desc : TypeDesc) (ks : List (Option IntKind)),P.underlying t = some desc→Kn P d t = some ks→∀ k,d≤k→qaa P f k t desc ks.length
  | 0,t,desc,ks,hu,hp,k,hk=>by simp [Kn] at hp
  | d + 1,t,desc,ks,hu,hp,k,hk=>by
    obtain ⟨k,rfl⟩ : ∃ r,k = r + 1:=⟨k - 1,q0⟩
    intro w
    simp only [Kn,hu] at hp
    cases desc <;> simp only [reduceCtorEq,Option.some.injEq] at hp
    case bool=>subst hp;exact ⟨by simp [Kf],fun _=>⟨rfl,fun x=>by unfold Instr.checkKey;simp [run_underlying hu]⟩⟩
    case int k0=>subst hp;exact ⟨by simp [Kf],fun _=>⟨rfl,fun x=>by unfold Instr.checkKey;simp [run_underlying hu]⟩⟩
    case struct fs=>
      refine ⟨fun _ X m=>?_,by simp [Kf]⟩
      split at hp
      · simp at hp
      · have:=qh3 (P:=P) f d k (fun t desc ks o q=>qdi f d t desc ks o q k q0) X w fs.toList 0 ks hp q0
        rw [Array.forIn_toList] at this
        unfold qdg at this
        unfold Instr.checkKey
        simp only [Sem.run_bind,run_underlying hu,Result.andThen_ok]
        rw [this]
        simp
    case array n e=>
      refine ⟨fun _ X m=>?_,by simp [Kf]⟩
      cases b : Kn P d e with
      | none=>simp [b] at hp
      | some a=>
        simp only [b] at hp
        split at hp
        · rename_i p
          simp only [Option.some.injEq] at hp;subst hp
          obtain ⟨l,c⟩:=qmv b
          obtain ⟨s,g,j⟩:=qci c
          have h : (List.replicate n a).flatten.length = n * a.length:=by simp
          have:=qh4 (qdi f d e l a c b k q0) c g q0 w n 0 (X:=X) (by rw [Nat.zero_add];omega)
          unfold Instr.checkKey
          simp only [Sem.run_bind,run_underlying hu,Result.andThen_ok,Std.Legacy.Range.forIn_eq_forIn_range',Std.Legacy.Range.size,Nat.sub_zero,Nat.add_sub_cancel,Nat.div_one]
          unfold qdh at this
          rw [this]
          simp
        · simp at hp
section
variable {w w' : World} {Z : Nat→Prop} {inj : Inj}
theorem qao {d : DV} {v : Value} (h : RelD w Z d v) : DRel w Z [d] #[v]:=⟨rfl,fun i x y a b=>by
  cases i with
  | zero=>simp at a b;subst a b;exact h
  | succ i=>simp at a⟩
theorem q81 {d : DV} {v : Value} (h : RelD w Z d v) (b : Zs d = true) : ∃ cs,v = .agg cs∧DRel w Z (cellsD d) cs:=by
  cases h <;> simp [Zs] at b
  rename_i ds cs c a;exact ⟨cs,rfl,c,a⟩
theorem q55 {d : DV} (a : Zs d = false) : cellsD d = [d]:=by cases d <;> simp_all [Zs,cellsD]
theorem qjg {d : TypeId} {desc : TypeDesc} {ks : List (Option IntKind)} (m : P.underlying d = some desc) (hp : Kn P 8 d = some ks) {a b : DV} {u v : Value} (g : RelD w Z a u) (hb : RelD w Z b v)
    (j : Zs a = Kf desc) (h : Zs b = Kf desc) {r : Bool} (f : Kj ks (cellsD a) (cellsD b) = some r) : (Op.equal d u v).run P w = .ok r w:=by
  have key:=qar (P:=P) (w:=w) (Z:=Z) 8 d desc ks m hp Op.maxDepth (by unfold Op.maxDepth;omega)
  cases c : Kf desc with
  | true=>
    obtain ⟨X,rfl,k⟩:=q81 g (j.trans c);obtain ⟨Y,rfl,l⟩:=q81 hb (h.trans c);exact (key _ _ _ _ r k l f).1 c
  | false=>
    rw [q55 (j.trans c),q55 (h.trans c)] at f;exact ((key _ _ _ _ r (qao g) (qao hb) f).2 c).2 u v rfl rfl
theorem qfo {h : TypeId} {desc : TypeDesc} {ks : List (Option IntKind)} (l : P.underlying h = some desc) (hp : Kn P 8 h = some ks) {a b : DV} {u v : Value} (j : RelD w Z a u) (hb : RelD w Z b v) (d : Kf desc = false)
    {r : Bool} (c : Kj ks [a] [b] = some r) : Instr.sameNow desc u v = some r:=by
  simp only [Kn,l] at hp;cases desc <;> simp only [reduceCtorEq,Option.some.injEq] at hp <;> try (simp [Kf] at d;done)
  case bool=>
    subst hp;simp only [Kj] at c;cases a <;> cases b <;> simp only [q3a,reduceCtorEq] at c
    simp at c;subst c;cases j;cases hb;rfl
  case int k0=>
    subst hp;simp only [Kj] at c;cases a <;> cases b <;> simp only [q3a,reduceCtorEq] at c
    split at c <;> simp at c
    rename_i f k;split at f <;> simp at f
    rename_i g;obtain ⟨rfl,rfl⟩:=g;subst f c;simp at k;subst k;cases j;cases hb;simp [Instr.sameNow]
def Ents (w : World) (Z : Nat→Prop) (es : List (DV × DV)) (ents : List MapEntry) : Prop:=
  ents.length = es.length∧∀ (i : Nat) (e : DV × DV) (x : MapEntry),es[i]? = some e→ents[i]? = some x→RelD w Z e.1 x.key∧RelD w Z e.2 x.val∧Yl e.2 = true
theorem Ents.tail {e : DV × DV} {es : List (DV × DV)} {x : MapEntry} {a : List MapEntry} (h : Ents w Z (e::es) (x::a)) : RelD w Z e.1 x.key∧Ents w Z es a:=
  ⟨(h.2 0 e x rfl rfl).1,by simpa using h.1,fun i c d b f=>h.2 (i + 1) c d (by simpa using b) (by simpa using f)⟩
theorem qdz {m : TypeId} {desc : TypeDesc} {ks : List (Option IntKind)} (g : P.underlying m = some desc) (hp : Kn P 8 m = some ks) {a : DV} {u : Value} (j : RelD w Z a u) (f : Kf desc = false) :
    ∀ (es : List (DV × DV)) (d : List MapEntry) (s : Nat) (r : Option Nat),Ents w Z es d→Zz false ks a es = some r→Instr.findNow desc u d s = some (r.bind fun i=>(d[i]?).map fun x=>(s + i,x.val))
  | [],[],s,r,_,hm=>by simp only [Zz,Option.some.injEq] at hm;subst hm;rfl
  | [],x::d,_,_,h,_=>by have:=h.1;simp at this
  | e::es,[],_,_,h,_=>by have:=h.1;simp at this
  | (b,c)::es,x::d,s,r,h,hm=>by
    obtain ⟨l,n⟩:=h.tail
    simp only [Zz] at hm
    split at hm <;> try simp at hm
    rename_i o
    rw [q55 o.1,q55 o.2] at hm
    split at hm <;> try simp at hm
    · rename_i k
      subst hm
      simp [Instr.findNow,qfo g hp j l f k]
    · rename_i k
      split at hm <;> simp at hm
      · rename_i i hi
        subst hm
        have:=qdz g hp j f es d (s + 1) _ n hi
        simp only [Instr.findNow,qfo g hp j l f k,this]
        simp [Nat.add_comm,Nat.add_left_comm]
      · rename_i hi
        subst hm
        have:=qdz g hp j f es d (s + 1) _ n hi
        simp only [Instr.findNow,qfo g hp j l f k,this]
        rfl
theorem qdy {l : TypeId} {desc : TypeDesc} {ks : List (Option IntKind)} (g : P.underlying l = some desc) (hp : Kn P 8 l = some ks) {a : DV} {u : Value} (j : RelD w Z a u) (f : Kf desc = true) :
    ∀ (es : List (DV × DV)) (d : List MapEntry) (s : Nat) (r : Option Nat),Ents w Z es d→Zz true ks a es = some r→(Instr.findAsking l u d s).run P w = .ok (r.bind fun i=>(d[i]?).map fun x=>(s + i,x.val)) w
  | [],[],s,r,_,hm=>by simp only [Zz,Option.some.injEq] at hm;subst hm;simp [Instr.findAsking]
  | [],x::d,_,_,h,_=>by have:=h.1;simp at this
  | e::es,[],_,_,h,_=>by have:=h.1;simp at this
  | (b,c)::es,x::d,s,r,h,hm=>by
    obtain ⟨n,o⟩:=h.tail
    simp only [Zz] at hm
    split at hm <;> try simp at hm
    rename_i k
    split at hm <;> try simp at hm
    · rename_i m
      subst hm
      simp [Instr.findAsking,qjg g hp j n (k.1.trans f.symm) (k.2.trans f.symm) m]
    · rename_i m
      have p:=qjg g hp j n (k.1.trans f.symm) (k.2.trans f.symm) m
      split at hm <;> simp at hm
      · rename_i i hi
        subst hm
        have:=qdy g hp j f es d (s + 1) _ o hi
        simp only [Instr.findAsking,Sem.run_bind,p,Result.andThen_ok,Bool.false_eq_true,if_false,this]
        simp [Nat.add_comm,Nat.add_left_comm]
      · rename_i hi
        subst hm
        have:=qdy g hp j f es d (s + 1) _ o hi
        simp only [Instr.findAsking,Sem.run_bind,p,Result.andThen_ok,Bool.false_eq_true,if_false,this]
        rfl
theorem qq2 {g : TypeId} {desc : TypeDesc} {ks : List (Option IntKind)} (d : P.underlying g = some desc) (hp : Kn P 8 g = some ks) {a : DV} {u : Value} (j : RelD w Z a u) (l : Zs a = Kf desc)
    {es : List (DV × DV)} {b : List MapEntry} {r : Option Nat} (h : Ents w Z es b) (f : Zz (Kf desc) ks a es = some r) : (Instr.findKey g u b).run P w = .ok (r.bind fun i=>(b[i]?).map fun x=>(i,x.val)) w:=by
  cases c : Kf desc with
  | false=>
    rw [c] at f;have:=qdz d hp j c es b 0 r h f;simp only [Nat.zero_add] at this;simp only [Instr.findKey,Sem.run_bind,run_underlying d,Result.andThen_ok,this];simp
  | true=>
    rw [c] at f;have:=qdy d hp j c es b 0 r h f;simp only [Nat.zero_add] at this
    cases b with
    | nil=>
      rw [← this];simp [Instr.findKey,run_underlying d,Instr.findNow,Instr.findAsking]
    | cons e es=>
      have k : Instr.findNow desc u (e::es) 0 = none:=by
        cases desc <;> simp [Kf] at c <;> simp [Instr.findNow,Instr.sameNow]
      simp only [Instr.findKey,Sem.run_bind,run_underlying d,Result.andThen_ok,k];exact this
theorem qdc : ∀ {ks : List (Option IntKind)} {xs ys : List DV} {X Y : List Value},Kj ks xs ys = some true→(X.length = xs.length)→(Y.length = ys.length)→
    (∀ (i : Nat) (d : DV) (c : Value),xs[i]? = some d→X[i]? = some c→RelD w Z d c)→(∀ (i : Nat) (d : DV) (c : Value),ys[i]? = some d→Y[i]? = some c→RelD w Z d c)→∀ n,X.length = Y.length∧(Y.zip X).all (fun (x,y)=>Instr.sameBits n x y) = true
  | [],[],[],[],[],_,_,_,_,_,n=>⟨rfl,rfl⟩
  | [],[],[],_::_,_,_,h,_,_,_,_=>by simp at h
  | [],[],[],[],_::_,_,_,h,_,_,_=>by simp at h
  | [],[],_::_,_,_,h,_,_,_,_,_=>by simp [Kj] at h
  | [],_::_,_,_,_,h,_,_,_,_,_=>by simp [Kj] at h
  | _::_,[],_,_,_,h,_,_,_,_,_=>by simp [Kj] at h
  | _::_,_::_,[],_,_,h,_,_,_,_,_=>by simp [Kj] at h
  | k::ks,a::xs,b::ys,[],_,_,h,_,_,_,_=>by simp at h
  | k::ks,a::xs,b::ys,_::_,[],_,_,h,_,_,_=>by simp at h
  | k::ks,a::xs,b::ys,x::X,y::Y,h,l1,l2,r1,r2,n=>by
    simp only [Kj] at h
    split at h <;> simp at h
    rename_i p q hp r
    obtain ⟨rfl,rfl⟩:=h
    obtain ⟨o,m⟩:=qdc r (by simpa using l1) (by simpa using l2) (fun i d c hd g=>r1 (i + 1) d c (by simpa using hd) (by simpa using g)) (fun i d c hd g=>r2 (i + 1) d c (by simpa using hd) (by simpa using g)) n
    have l:=r1 0 a x rfl rfl
    have j:=r2 0 b y rfl rfl
    refine ⟨by simp [o],?_⟩
    simp only [List.zip_cons_cons,List.all_cons,m,Bool.and_true]
    cases k with
    | none=>
      cases a <;> cases b <;> simp only [q3a,reduceCtorEq] at hp
      simp at hp;subst hp
      cases l;cases j;cases n <;> simp [Instr.sameBits]
    | some k=>
      cases a <;> cases b <;> simp only [q3a,reduceCtorEq] at hp
      split at hp <;> simp at hp
      rename_i f
      obtain ⟨rfl,rfl⟩:=f
      subst hp
      cases l;cases j;cases n <;> simp [Instr.sameBits]
theorem qr9 {ks : List (Option IntKind)} {ag : Bool} {a b : DV} {u v : Value} (k : RelD w Z a u) (hb : RelD w Z b v) (l : Zs a = ag) (m : Zs b = ag) (j : Kj ks (cellsD a) (cellsD b) = some true) :
    (Instr.keyThatStays v u).run P w = .ok u w:=by
  have hs : Instr.sameBits 10000 v u = true:=by
    cases ag with
    | true=>
      obtain ⟨X,rfl,f,g⟩:=q81 k l;obtain ⟨Y,rfl,o,p⟩:=q81 hb m;obtain ⟨n,q⟩:=qdc (X:=X.toList) (Y:=Y.toList) j (by simpa using f.symm) (by simpa using o.symm) (fun i d c hd h=>g i d c hd (by simpa using h)) (fun i d c hd h=>p i d c hd (by simpa using h)) 9999;have r : (Y.size == X.size) = true:=by simp at n;simp [n]
      show (Y.size == X.size && (Y.toList.zip X.toList).all fun (x,y)=>Instr.sameBits 9999 x y) = true;grind
    | false=>
      rw [q55 l,q55 m] at j;have:=(qdc (X:=[u]) (Y:=[v]) j rfl rfl (fun i d c f g=>(qao k).2 i d c f (by simpa using g)) (fun i d c f g=>(qao hb).2 i d c f (by simpa using g)) 10000).2;simp_all
  simp [Instr.keyThatStays,hs]
end
theorem qit {w : World} {a : Addr} (h : ∀ c e f,w.heap[a.block]?≠some (.cells c e f)) : w.frozen? a = false:=by
  unfold World.frozen?;grind
theorem qe5 {w : World} {b : Nat} {o : Obj} (h : ∀ c e f,w.heap[b]?≠some (.cells c e f)) (g : ∀ c e f,o≠.cells c e f) (a : Addr) : (w.putObj b o).frozen? a = w.frozen? a:=by
  by_cases hb : a.block = b
  · subst hb;rw [qit h,qit];intro c e f;by_cases d : a.block < w.heap.size
    · rw [World.putObj_heap_same d];intro j;exact g _ _ _ (qcq j)
    simp_all
  · simp only [World.frozen?,World.putObj_heap_other hb]
theorem q53 {w : World} {b : Nat} {es : Array MapEntry} {cl : Nat} (hb : w.heap[b]? = some (.map es cl)) : (getObj b).run P w = .ok (.map es cl) w:=by simp [getObj,Sem.run,hb]
theorem qbv {w : World} {b : Nat} {es : Array MapEntry} {cl : Nat} (o : Obj) (hb : w.heap[b]? = some (.map es cl)) : (setObj b o).run P w = .ok () (w.putObj b o):=by simp [setObj,Sem.run,hb,World.putObj]
section
variable {w : World} {Z : Nat→Prop} {inj : Inj} {hp : List (Nat × Blk)} {nx pin : Nat}
theorem quh {n : Nat} {es : List (DV × DV)} (h : RelB w Z inj nx n (.mp es)) : ∃ b a cl,inj n = some (b,0)∧w.heap[b]? = some (.map a cl)∧Ents w Z es a.toList:=by
  obtain ⟨b,a,cl,d,k,g,f⟩:=h;exact ⟨b,a,cl,d,k,by simpa using g,fun i e x j c=>f i e x j (by simpa using c)⟩
theorem ql9 (h : RelH w Z inj hp nx) {n : Nat} {es j : List (DV × DV)} (v : find hp n = some (.mp es)) {b : Nat} (hi : inj n = some (b,0)) {z a : Array MapEntry} {cl cl' : Nat} (hb : w.heap[b]? = some (.map z cl))
    (hE : Ents w Z j a.toList) : RelH (w.putObj b (.map a cl')) Z inj (repl hp n (.mp j)) nx∧Ext w Z inj hp (w.putObj b (.map a cl')) Z inj (repl hp n (.mp j)) pin:=by
  have g : ∀ k,k≠b→(w.putObj b (.map a cl')).heap[k]? = w.heap[k]?:=fun k l=>World.putObj_heap_other l
  have ai : ¬ Z b:=fun hz=>by
    obtain ⟨c,e,f,hc⟩:=h.zc b hz;grind
  have af : J0 w (w.putObj b (.map a cl')):=fun k c e f l=>by grind
  have hz : ∀ k,Z k→(w.putObj b (.map a cl')).heap[k]? = w.heap[k]?:=fun k l=>g k (fun e=>ai (e ▸ l))
  have d : ∀ m c,find (repl hp n (.mp j)) m = some c→(m = n∧c = .mp j)∨(m≠n∧find hp m = some c):=by
    intro m c hm;rw [Za] at hm;grind
  have ae : ∀ k,im (repl hp n (.mp j)) inj k→im hp inj k:=by
    rintro k ⟨m,c,o,h1,y,s⟩;rcases d m c h1 with ⟨rfl,rfl⟩ | ⟨_,t⟩
    · exact ⟨m,_,o,v,rfl,s⟩
    · exact ⟨m,c,o,t,y,s⟩
  have aa : RelB (w.putObj b (.map a cl')) Z inj nx n (.mp j):=by
    refine ⟨b,a,cl',hi,World.putObj_heap_same (Ja hb),by simpa using hE.1,fun i e x he hx=>?_⟩;obtain ⟨g1,g2,g3⟩:=hE.2 i e x he (by simpa using hx);exact ⟨g1.mono hz (fun _ h=>h),g2.mono hz (fun _ h=>h),g3⟩
  refine ⟨⟨?_,?_,?_,?_,?_⟩,⟨qe,?_,fun k l=>.inl (ae k l),af,?_,fun _ h=>h,fun _ h=>.inl h,fun _ _=>rfl,rfl,rfl,rfl,qe5 (fun _ _ _=>by rw [hb];simp) (fun _ _ _=>qe)⟩⟩
  · intro m c hm;rcases d m c hm with ⟨rfl,rfl⟩ | ⟨r,t⟩
    · exact ⟨(h.blk _ _ v).1,aa⟩
    · obtain ⟨u,h6⟩:=h.blk m c t;exact ⟨u,h6.mono hz (fun _ h=>h) af (fun _ _=>rfl) (Nat.le_refl _) u fun p hp aj=>g _ fun e=>h.sep m n c _ p (b,0) t v aj rfl hp hi r e⟩
  · intro m m' c c' p q h1 y s t u h6 r;rcases d m c h1 with ⟨rfl,rfl⟩ | ⟨e1,k1⟩ <;> rcases d m' c' y with ⟨rfl,rfl⟩ | ⟨e2,k2⟩
    · omega
    · exact h.sep _ _ _ _ p q v k2 rfl t u h6 r
    · exact h.sep _ _ _ _ p q k1 v s rfl u h6 r
    · exact h.sep _ _ _ _ p q k1 k2 s t u h6 r
  · intro m c p h1 y s;rcases d m c h1 with ⟨rfl,rfl⟩ | ⟨e1,k1⟩
    · grind
    · exact h.out _ _ p k1 y s
  · intro k l;simpa using h.zs k l
  · intro k l;obtain ⟨c,e,f,hc⟩:=h.zc k l;grind
  · intro k _ l;exact g k fun e=>l ⟨n,_,0,v,rfl,e ▸ hi⟩
  · intro k x l;grind
end
section
variable {w : World} {Z : Nat→Prop} {inj : Inj} {st : AS} {a : Act} {Ds : List Nat}
theorem qt5 {t : TypeId} (h : RelS w Z inj st a Ds) : Kl st (st.new (.mp [])) (.mp st.nx) w Z inj ((do pure (Next.value (← Instr.makeMap t none)) : Sem Next).run P w):=by
  refine .new (o:=.map #[] 0) (x:=.map (some w.heap.size)) h ?_ ?_ (.mp q0 (Y2 _ _ _))
  · simp [Instr.makeMap]
  · exact ⟨w.heap.size,#[],0,Y2 _ _ _,Jw w _,rfl,qe⟩
theorem q57 {t : TypeId} {i : TI} {ks : List (Option IntKind)} {n : Nat} {es : List (DV × DV)} {l : DV} {mv q : Value} {r : Option Nat} (h : RelS w Z inj st a Ds) (ht : tiOf P t = some i) (hk : i.keys = some ks) (hm : RelV w Z inj st.nx (.mp n) mv)
    (hb : st.blk n = some (.mp es)) (o : RelD w Z l q) (p : q1h i.eagg ks l = true) (hf : Zz i.eagg ks l es = some r) :
    ∃ j et b c cl,P.underlying t = some (.map j et)∧mv = .map (some b)∧inj n = some (b,0)∧w.heap[b]? = some (.map c cl)∧Ents w Z es c.toList∧(∀ v,(Instr.checkKey v 10000 j q).run P w = .ok () w)∧
      (Instr.findKey j q c.toList).run P w = .ok (r.bind fun i=>(c[i]?).map fun x=>(i,x.val)) w∧∃ u s,i.ezero = [u]∧(zeroValue et).run P w = .ok s w∧RelD w Z u s:=by
  obtain ⟨ai,d,z,k⟩:=Ys ht;have g:=k.kind;unfold Zf at g;rw [k.keys ks hk] at g;obtain ⟨j,e,ie,s,u,ar,dk,rfl,g1,g2,g3,g4,g5,g6,g7,g8,_⟩:=g;rw [hk] at g6;cases g6
  have f : Zs l = i.eagg∧(cellsD l).length = ks.length:=by
    simp only [q1h,Bool.and_eq_true,beq_iff_eq] at p;simp_all
  obtain ⟨f,m⟩:=f
  cases hm with
  | @mp _ b hn hi=>
  obtain ⟨b',c,cl,e1,e2,e3⟩:=quh (h.heap.blk n _ hb).2;rw [hi] at e1;cases e1;rw [g8] at f hf;refine ⟨j,e,b,c,cl,k.und,rfl,hi,e2,e3,fun v=>?_,?_,u,s,g7,?_,(qdl g3).1⟩
  · have hc:=qdi v 8 j dk ks g5 g4 10000 q0 w
    cases y : Kf dk with
    | true=>
      obtain ⟨X,rfl,hX⟩:=q81 o (f.trans y);exact (hc.1 y) X (hX.1.symm.trans m)
    | false=>exact (hc.2 y).2 q
  · have:=qq2 g5 g4 o f e3 hf;grind
  · simp [zeroValue,typeInfo,g1,g2]
theorem qdr {es : List (DV × DV)} {a : List MapEntry} (h : Ents w Z es a) {j : Nat} {e : DV × DV} (c : es[j]? = some e) : ∃ x,a[j]? = some x∧RelD w Z e.1 x.key∧RelD w Z e.2 x.val∧Yl e.2 = true:=by
  obtain ⟨x,b⟩:=Zp (xs:=a) (i:=j) (by rw [h.1];exact Kh c);exact ⟨x,b,h.2 j e x c b⟩
theorem qew {ag : Bool} {ks : List (Option IntKind)} {k : DV} : ∀ {es : List (DV × DV)} {j : Nat},Zz ag ks k es = some (some j)→∃ e,es[j]? = some e∧Zs e.1 = ag∧Kj ks (cellsD k) (cellsD e.1) = some true
  | [],j,h=>by simp [Zz] at h
  | (b,c)::es,j,h=>by
    simp only [Zz] at h
    split at h <;> try simp at h
    rename_i d
    split at h <;> try simp at h
    · rename_i f;subst h;exact ⟨_,rfl,d.2,f⟩
    · split at h <;> simp at h
      rename_i i hi
      subst h
      obtain ⟨e,a,g⟩:=qew hi
      exact ⟨e,by simpa using a,g⟩
theorem qt2 {t : TypeId} {x y : Operand} {ok : Bool} {i : TI} {ks : List (Option IntKind)} {n : Nat} {es : List (DV × DV)} {kd z : DV} {e : DV × Bool} (h : RelS w Z inj st a Ds) (ht : tiOf P t = some i) (hk : i.keys = some ks) (hx : st.ev x = some (.mp n)) (hy : st.ev y = some (.d kd))
    (hb : st.blk n = some (.mp es)) (hz : i.ezero = [z]) (k : q1h i.eagg ks kd = true) (m : mget i.eagg ks z kd es = some e) :
    Kl st st (.d (bif ok then .tup [e.1,.bool e.2] else e.1)) w Z inj ((do pure (Next.value (← Instr.lookup t (a.eval x) (a.eval y) ok)) : Sem Next).run P w):=by
  have hm:=Kd h hx;have f:=Kd h hy;generalize a.eval x = mv at hm ⊢;generalize a.eval y = kv at f ⊢
  cases f with | d f=>
  have fin : ∀ (u : Value) (o : Bool) (v : DV),RelD w Z v u→e = (v,o)→(Instr.lookup t mv kv ok).run P w = .ok (if ok then .tuple #[u,.bool o] else u) w→Kl st st (.d (bif ok then .tup [e.1,.bool e.2] else e.1)) w Z inj ((do pure (Next.value (← Instr.lookup t mv kv ok)) : Sem Next).run P w):=by
    rintro u o v hr rfl p;refine .quiet h (Kk p) (.d ?_)
    cases ok with
    | false=>exact hr
    | true=>
      refine .tup rfl fun i d c hd l=>?_
      match i,hd,l with
      | 0,hd,l=>simp at hd l;subst hd l;exact hr
      | 1,hd,l=>simp at hd l;subst hd l;exact .bool _
      | i + 2,hd,_=>simp at hd
  unfold mget at m;split at m <;> try simp at m
  · rename_i j hf;obtain ⟨a1,b1,ad,rfl⟩:=m;obtain ⟨kt,et,b,g,cl,g1,rfl,g3,s,g5,g6,q,_⟩:=q57 h ht hk hm hb f k hf;obtain ⟨u,hu,q1,q2,q3⟩:=qdr g5 ad;refine fin u.val true _ q2 rfl ?_;have r : g[j]? = some u:=by simpa using hu
    simp [Instr.lookup,run_underlying g1,q53 s,g6,q,r]
  · rename_i hf;subst m;obtain ⟨kt,et,b,g,cl,g1,rfl,g3,s,g5,g6,q,zd,ze,g8,g9,ac⟩:=q57 h ht hk hm hb f k hf;rw [hz] at g8;cases g8;refine fin ze false _ ac rfl ?_;simp only [Option.bind_none] at q;simp [Instr.lookup,run_underlying g1,q53 s,g6,q,g9]
theorem qpq {es : List (DV × DV)} {a : List MapEntry} (h : Ents w Z es a) {f b : DV} {x : MapEntry} (g : RelD w Z f x.key) (k : RelD w Z b x.val) (j : Yl b = true) : Ents w Z (es ++ [(f,b)]) (a ++ [x]):=by
  refine ⟨by simp [h.1],fun i e y d c=>?_⟩;by_cases hi : i < es.length
  · rw [List.getElem?_append_left hi] at d;rw [List.getElem?_append_left (by rw [h.1];exact hi)] at c;exact h.2 i e y d c
  · rw [List.getElem?_append_right q0] at d;rw [List.getElem?_append_right (by rw [h.1];omega),h.1] at c;grind
theorem qpr {es : List (DV × DV)} {a : List MapEntry} (h : Ents w Z es a) {j : Nat} {g b : DV} {x : MapEntry} (k : RelD w Z g x.key) (m : RelD w Z b x.val) (l : Yl b = true) : Ents w Z (es.set j (g,b)) (a.set j x):=by
  refine ⟨by simp [h.1],fun i e y f c=>?_⟩;rw [List.getElem?_set] at f c;by_cases d : j = i
  · grind
  · rw [qx d] at f c;exact h.2 i e y f c
theorem qpp {es : List (DV × DV)} {a : List MapEntry} (h : Ents w Z es a) (j : Nat) : Ents w Z (es.eraseIdx j) (a.eraseIdx j):=by
  refine ⟨by simp [List.length_eraseIdx,h.1],fun i e y c b=>?_⟩;rw [List.getElem?_eraseIdx] at c b;split at c
  · rename_i hi;rw [qs hi] at b;exact h.2 i e y c b
  · rename_i hi;rw [qx hi] at b;exact h.2 (i + 1) e y c b
theorem qt7 {t : TypeId} {m x y : Operand} {i : TI} {ks : List (Option IntKind)} {n : Nat} {es o : List (DV × DV)} {kd vd : DV} (h : RelS w Z inj st a Ds) (ht : tiOf P t = some i) (hk : i.keys = some ks) (v : st.ev m = some (.mp n)) (hx : st.ev x = some (.d kd)) (hy : st.ev y = some (.d vd))
    (hb : st.blk n = some (.mp es)) (k : q1h i.eagg ks kd = true) (hc : Yl vd = true) (q : mput i.eagg ks kd vd es = some o) :
    Kl st (st.setBlk n (.mp o)) .dead w Z inj ((do Instr.mapUpdate t (a.eval m) (a.eval x) (a.eval y);pure Next.skip : Sem Next).run P w):=by
  have v:=Kd h v;have f:=Kd h hx;have l:=Kd h hy;generalize a.eval m = mv at v ⊢;generalize a.eval x = kv at f ⊢;generalize a.eval y = vv at l ⊢
  cases f with | d f=>
  cases l with | d l=>
  have r : Zs kd = i.eagg:=by simp only [q1h,Bool.and_eq_true,beq_iff_eq] at k;exact k.1
  have fin : ∀ b c cl g cl',inj n = some (b,0)→w.heap[b]? = some (.map c cl)→Ents w Z o g.toList→(Instr.mapUpdate t mv kv vv).run P w = .ok () (w.putObj b (.map g cl'))→
      Kl st (st.setBlk n (.mp o)) .dead w Z inj ((do Instr.mapUpdate t mv kv vv;pure Next.skip : Sem Next).run P w):=by
    intro b c cl g cl' hi hh hE s
    obtain ⟨z,g2⟩:=ql9 (pin:=st.nx) (cl':=cl') h.heap hb hi hh hE
    exact ⟨undef,_,inj,.inr ⟨by simp [s],rfl⟩,.dead _,z,g2,rfl,Nat.le_refl _⟩
  unfold mput at q;split at q <;> try simp at q
  · rename_i j hf;subst q;obtain ⟨kt,et,b,c,cl,z,rfl,g3,p,g5,g6,g7,_⟩:=q57 h ht hk v hb f k hf;obtain ⟨e,he,e1,e2⟩:=qew hf;obtain ⟨u,hu,q1,q2,q3⟩:=qdr g5 he;have ae : c[j]? = some u:=by simpa using hu
    have af:=qr9 (P:=P) f q1 r e1 e2;refine fin b c cl (c.modify j fun e=>{e with key:=kv,val:=vv}) cl g3 p ?_ ?_
    · have : (c.modify j fun e=>{e with key:=kv,val:=vv}).toList = c.toList.set j {u with key:=kv,val:=vv}:=by
        apply List.ext_getElem?;grind
      rw [this];exact qpr g5 f l hc
    · simp [Instr.mapUpdate,run_underlying z,q53 p,g6,g7,ae,af,qbv _ p]
  · rename_i hf;subst q;obtain ⟨kt,et,b,c,cl,z,rfl,g3,p,g5,g6,g7,_⟩:=q57 h ht hk v hb f k hf;simp only [Option.bind_none] at g7;refine fin b c cl (c.push {key:=kv,val:=vv,born:=cl}) (cl + 1) g3 p ?_ ?_
    · rw [Array.toList_push];exact qpq g5 f l hc
    · simp [Instr.mapUpdate,run_underlying z,q53 p,g6,g7,qbv _ p]
theorem qsv {ts : Array TypeId} {ty t : TypeId} {mv v : Value} {i : TI} {ks : List (Option IntKind)} {n : Nat} {es k : List (DV × DV)} {kd : DV} (h : RelS w Z inj st a Ds) (ht : tiOf P t = some i) (q : ts[0]? = some t) (hk : i.keys = some ks) (hm : RelV w Z inj st.nx (.mp n) mv) (r : RelD w Z kd v)
    (hb : st.blk n = some (.mp es)) (l : q1h i.eagg ks kd = true) (o : mdel i.eagg ks kd es = some k) :
    Kl st (st.setBlk n (.mp k)) (.d (.tup [])) w Z inj ((do pure (Next.value (← Builtin.delete_ ts ty #[mv,v])) : Sem Next).run P w):=by
  have fin : ∀ b f cl g cl',inj n = some (b,0)→w.heap[b]? = some (.map f cl)→Ents w Z k g.toList→(Builtin.delete_ ts ty #[mv,v]).run P w = .ok (.tuple #[]) (w.putObj b (.map g cl'))→
      Kl st (st.setBlk n (.mp k)) (.d (.tup [])) w Z inj ((do pure (Next.value (← Builtin.delete_ ts ty #[mv,v])) : Sem Next).run P w):=by
    intro b f cl g cl' hi hh hE p
    obtain ⟨s,g2⟩:=ql9 (pin:=st.nx) (cl':=cl') h.heap hb hi hh hE
    exact ⟨.tuple #[],_,inj,.inl (Kk p),.d (.tup rfl fun i d c hd _=>by simp at hd),s,g2,rfl,Nat.le_refl _⟩
  unfold mdel at o;split at o <;> try simp at o
  · rename_i j z;subst o;obtain ⟨kt,et,b,f,cl,s,rfl,g3,m,y,g6,x,_⟩:=q57 h ht hk hm hb r l z;obtain ⟨e,he,e1,e2⟩:=qew z;obtain ⟨u,hu,q1,q2,q3⟩:=qdr y he;have ab : f[j]? = some u:=by simpa using hu
    refine fin b f cl (f.eraseIdxIfInBounds j) cl g3 m ?_ ?_
    · rw [Array.toList_eraseIdxIfInBounds];exact qpp y j
    · simp [Builtin.delete_,q,run_underlying s,q53 m,g6,x,ab,qbv _ m]
  · rename_i z;subst o;obtain ⟨kt,et,b,f,cl,s,rfl,g3,m,y,g6,x,_⟩:=q57 h ht hk hm hb r l z;simp only [Option.bind_none] at x;refine fin b f cl f cl g3 m y ?_;simp [Builtin.delete_,q,run_underlying s,q53 m,g6,x,qbv _ m]
end
end Go.Am
