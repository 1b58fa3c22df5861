/- St9 St10 St11 St12 St13 St14 St18 St13b St14b St15 St16 St17 St19 St20 St21 St22 St23 St24 St28 St29 St30 St31 St32 St33 St36 -/
import Derived.Test.YtgkialgkmjnfbaaGreatK13
namespace Go.Sh
open Go Go.Am
open Classical
section
variable {F G : Int→Int→Prop} {L M : List Kb}
def Yr (M : List Kb) (t : qj) : List Int:=[t.Lo,t.Hi] ++ (M.filter fun m=>decide (t.Lo < m.At∧m.At < t.Hi)).map (·.At)
theorem qkr {t : qj} {x : Int} : x∈Yr M t↔x = t.Lo∨x = t.Hi∨(t.Lo < x∧x < t.Hi∧∃ m∈M,m.At = x):=by
  simp only [Yr,List.mem_append,List.mem_cons,List.not_mem_nil,or_false,List.mem_map,List.mem_filter,decide_eq_true_eq];constructor
  · rintro ((h | h) | ⟨m,⟨b,a⟩,rfl⟩)
    · exact .inl h
    · exact .inr (.inl h)
    · exact .inr (.inr ⟨a.1,a.2,m,b,rfl⟩)
  · rintro (h | h | ⟨b,a,m,c,rfl⟩)
    · exact .inl (.inl h)
    · exact .inl (.inr h)
    · exact .inr ⟨m,⟨c,b,a⟩,rfl⟩
theorem qys (l : M.length≤400) (t : qj) : loop (q4m M t) (0,[t.Lo,t.Hi]) = some (Yr M t):=by
  have:=Ky (f:=q4m M t) (σ:=List Int) (fun k c=>((k : Int),c)) M.length (fun k c=>c = Yr (M.take k) t∧c.length≤k + 2) (fun c=>c = Yr M t) ?_ ?_ (k0:=0) (c0:=[t.Lo,t.Hi]) q8 ⟨by simp [Yr],qe⟩
  · obtain ⟨b,j,rfl⟩:=this;exact j
  · rintro k c hk ⟨rfl,g⟩;have hb : decide ((k : Int) < (M.length : Int)) = true:=Q4 q8
    have a : Yr (M.take (k + 1)) t = Yr (M.take k) t ++ (if t.Lo < M[k].At∧M[k].At < t.Hi then [M[k].At] else []):=by
      unfold Yr;rw [List.take_succ_eq_append_getElem hk,List.filter_append,List.map_append,List.append_assoc];by_cases e : t.Lo < M[k].At∧M[k].At < t.Hi
      · simp [e]
      · simp [e]
    refine .inl ⟨Yr (M.take (k + 1)) t,?_,rfl,?_⟩
    · rw [a];simp only [q4m,hb,Q7,K0 hk,qo];by_cases e1 : t.Lo < M[k].At
      · by_cases d : M[k].At < t.Hi
        · rw [qx ⟨e1,d⟩,Q4 (show M[k].At > t.Lo from e1),Q7,Q4 d,qo,Q7,Yh (by simp;omega),Qb q8];rfl
        · rw [qw (fun h=>d h.2),Q4 (show M[k].At > t.Lo from e1),Q7,Q9 d,Qb q8,List.append_nil];rfl
      · rw [qw (fun h=>e1 h.1),Q9 (show ¬ M[k].At > t.Lo from e1),Qb q8,List.append_nil];rfl
    · rw [a];split <;> simp <;> omega
  · rintro c ⟨rfl,g⟩;have hb : decide ((M.length : Int) < (M.length : Int)) = false:=Q9 q8;exact ⟨_,by simp only [q4m,hb,Q5];rfl,by rw [List.take_length]⟩
theorem qq5 (t : qj) : (Yr M t).length≤M.length + 2:=by
  have:=List.length_filter_le (fun m : Kb=>decide (t.Lo < m.At∧m.At < t.Hi)) M;simp only [Yr,List.length_append,List.length_map,List.length_cons,List.length_nil];omega
theorem qcb (h : Rep (asc M) G) : M.length≤400:=by have:=h.cnt;simpa [asc] using this
theorem qec (h : Rep (asc M) G) {m : Kb} (a : m∈M) : -1000000≤m.At∧m.At≤1000000:=h.key _ (List.mem_map.2 ⟨(m.At,m.Spans),List.mem_map.2 ⟨m,a,rfl⟩,rfl⟩)
theorem qhz (h : Rep (asc M) G) {m : Kb} (a : m∈M) {t : qj} (b : t∈m.Spans) : vld t:=(h.good m.At m.Spans (List.mem_map.2 ⟨m,a,rfl⟩)).1 t b
theorem JN.big {N : List qc} {S T : qc→Prop} (h : JN F G N S) (b : ¬ N.length≤400) : JN F G N T:=⟨h.srt,h.sub,fun a=>absurd a b,h.len⟩
def q3g (M : List Kb) (y : Int) (t : qj) (q : qc) : Prop:=q.Y = y∧q.X∈Yr M t
theorem qyt (n : Rep (asc L) F) (l : Rep (asc M) G) {i : Nat} (hi : i < L.length) {t : qj} (u : t∈L[i].Spans) (z : List qc) {N : List qc} {S : qc→Prop} (h : JN F G N S) :
    ∃ j,loop (q3a (Yr M t) L ((i : Int),z) M) (0,N) = some j∧JN F G j (fun q=>S q∨q3g M L[i].At t q):=by
  have hM:=qcb l;have hc:=qq5 (M:=M) t;have y:=qhz n (Ks hi) u;have o:=qec n (Ks hi);obtain ⟨v1,v2,v3⟩:=y;have:=Ky (f:=q3a (Yr M t) L ((i : Int),z) M) (σ:=List qc) (fun k c=>((k : Int),c)) (Yr M t).length (fun k c=>JN F G c (fun q=>S q∨(q.Y = L[i].At∧q.X∈(Yr M t).take k))) (fun c=>JN F G c (fun q=>S q∨q3g M L[i].At t q)) ?_ ?_ (k0:=0) (c0:=N) q8 (h.congr fun p=>qe)
  · exact this
  · intro k c hk d;have hb : decide ((k : Int) < ((Yr M t).length : Int)) = true:=Q4 q8;by_cases w : c.length≤400
    · have r : -1000000≤(Yr M t)[k]∧(Yr M t)[k]≤1000000:=by
        rcases qkr.1 (Ks hk) with a | a | ⟨_,_,m,x,a⟩
        · omega
        · omega
        · rw [← a];exact qec l x
      obtain ⟨j,e,s,_,j2⟩:=qgp n l (p:={X:=(Yr M t)[k],Y:=L[i].At}) ⟨r.1,r.2,o.1,o.2⟩ d q8;refine .inl ⟨j,?_,s.congr ?_⟩
      · simp only [q3a,hb,Q7,Q4 (show (c.length : Int)≤400 by omega),K0 hk,K0 hi,qo];rw [e,qo,Qb q8];rfl
      · rintro q (v | ⟨b,g⟩)
        · exact .inl (.inl v)
        · rw [List.take_succ_eq_append_getElem hk] at g;rcases List.mem_append.1 g with a | a
          · exact .inl (.inr ⟨b,a⟩)
          · rw [List.mem_singleton] at a;exact .inr (by rw [← a,← b])
    · refine .inr ⟨c,?_,d.big w⟩;simp only [q3a,hb,Q7,Q9 (show ¬ (c.length : Int)≤400 by omega),qo,Q5]
  · intro c d;have hb : decide (((Yr M t).length : Int) < ((Yr M t).length : Int)) = false:=Q9 q8;refine ⟨c,by simp only [q3a,hb,Q5,qo],?_⟩;rw [List.take_length] at d;exact d
theorem qyr (j : Rep (asc L) F) (d : Rep (asc M) G) {i : Nat} (hi : i < L.length) (z : List qc) {N : List qc} {S : qc→Prop} (h : JN F G N S) :
    ∃ a,loop (q4l L ((i : Int),z) M) (0,N) = some a∧JN F G a (fun q=>S q∨∃ t∈L[i].Spans,q3g M L[i].At t q):=by
  have m:=j.len _ _ (qca hi);have:=Ky (f:=q4l L ((i : Int),z) M) (σ:=List qc) (fun k c=>((k : Int),c)) L[i].Spans.length (fun k c=>JN F G c (fun q=>S q∨∃ t∈L[i].Spans.take k,q3g M L[i].At t q)) (fun c=>JN F G c (fun q=>S q∨∃ t∈L[i].Spans,q3g M L[i].At t q)) ?_ ?_ (k0:=0) (c0:=N) q8 (h.congr fun p=>qe)
  · exact this
  · intro k c hk b;have hb : decide ((k : Int) < (L[i].Spans.length : Int)) = true:=Q4 q8;obtain ⟨a,e,l⟩:=qyt j d hi (Ks hk) z b;refine .inl ⟨a,?_,l.congr ?_⟩
    · simp only [q4l,K0 hi,qo,hb,Q7,K0 hk,qys (qcb d),e];rw [Qb q8];rfl
    · intro q g;rw [takeN hk,← or_assoc] at g;exact g
  · intro c b;have hb : decide ((L[i].Spans.length : Int) < (L[i].Spans.length : Int)) = false:=Q9 q8;refine ⟨c,by simp only [q4l,K0 hi,qo,hb,Q5],?_⟩;rw [List.take_length] at b;exact b
theorem qyq (d : Rep (asc L) F) (j : Rep (asc M) G) : ∃ N,loop (q4k L M) (0,[]) = some N∧JN F G N (fun q=>∃ l∈L,∃ t∈l.Spans,q3g M l.At t q):=by
  have m:=qcb d;have:=Ky (f:=q4k L M) (σ:=List qc) (fun k c=>((k : Int),c)) L.length (fun k c=>JN F G c (fun q=>∃ l∈L.take k,∃ t∈l.Spans,q3g M l.At t q)) (fun c=>JN F G c (fun q=>∃ l∈L,∃ t∈l.Spans,q3g M l.At t q)) ?_ ?_ (k0:=0) (c0:=[]) q8 ⟨.nil,fun p hp=>(by cases hp),fun _ q b=>by simp at b,qe⟩
  · exact this
  · intro k c hk a;have hb : decide ((k : Int) < (L.length : Int)) = true:=Q4 q8;obtain ⟨h,e,g⟩:=qyr d j hk c a;refine .inl ⟨h,?_,g.congr fun q b=>(takeN hk).1 b⟩;simp only [q4k,hb,Q7,e,qo];rw [Qb q8];rfl
  · intro c a;have hb : decide ((L.length : Int) < (L.length : Int)) = false:=Q9 q8;refine ⟨c,by simp only [q4k,hb,Q5],?_⟩;rw [List.take_length] at a;exact a
def q5e (x : Int) (t : qj) (q : qc) : Prop:=q.X = x∧(q.Y = t.Lo∨q.Y = t.Hi)
theorem qyv (n : Rep (asc L) F) (d : Rep (asc M) G) {i : Nat} (hi : i < M.length) (z : List qc) {N : List qc} {S : qc→Prop} (h : JN F G N S) :
    ∃ m,loop (q3b M ((i : Int),z) L) (0,N) = some m∧JN F G m (fun q=>S q∨∃ t∈M[i].Spans,q5e M[i].At t q):=by
  have v:=d.len _ _ (qca hi);have j:=qec d (Ks hi);have:=Ky (f:=q3b M ((i : Int),z) L) (σ:=List qc) (fun k c=>((k : Int),c)) M[i].Spans.length (fun k c=>JN F G c (fun q=>S q∨∃ t∈M[i].Spans.take k,q5e M[i].At t q)) (fun c=>JN F G c (fun q=>S q∨∃ t∈M[i].Spans,q5e M[i].At t q)) ?_ ?_ (k0:=0) (c0:=N) q8 (h.congr fun p=>qe)
  · exact this
  · intro k c hk g;have hb : decide ((k : Int) < (M[i].Spans.length : Int)) = true:=Q4 q8;by_cases l : c.length≤400
    · obtain ⟨v1,y,w⟩:=qhz d (Ks hi) (Ks hk);obtain ⟨N1,e1,r,_,l1⟩:=qgp n d (p:={X:=M[i].At,Y:=(M[i].Spans[k]).Lo}) ⟨j.1,j.2,by simp only;omega,by simp only;omega⟩ g q8;obtain ⟨o,u,s,_,l2⟩:=qgp n d (p:={X:=M[i].At,Y:=(M[i].Spans[k]).Hi}) ⟨j.1,j.2,by simp only;omega,by simp only;omega⟩ r q8;refine .inl ⟨o,?_,s.congr ?_⟩
      · simp only [q3b,K0 hi,qo,hb,Q7,Q4 (show (c.length : Int)≤400 by omega),K0 hk];rw [← Option.bind_assoc (x:=q2h L M {X:=M[i].At,Y:=(M[i].Spans[k]).Lo}),e1,qo,u,qo,Qb q8];rfl
      · intro q a;rw [takeN hk] at a;rcases a with a | a | ⟨b,a | a⟩
        · exact .inl (.inl (.inl a))
        · exact .inl (.inl (.inr a))
        · exact .inl (.inr (by rw [← a,← b]))
        · exact .inr (by rw [← a,← b])
    · refine .inr ⟨c,?_,g.big l⟩;simp only [q3b,K0 hi,qo,hb,Q7,Q9 (show ¬ (c.length : Int)≤400 by omega),Q5]
  · intro c g;have hb : decide ((M[i].Spans.length : Int) < (M[i].Spans.length : Int)) = false:=Q9 q8;refine ⟨c,by simp only [q3b,K0 hi,qo,hb,Q5],?_⟩;rw [List.take_length] at g;exact g
theorem qyu (m : Rep (asc L) F) (d : Rep (asc M) G) {N : List qc} {S : qc→Prop} (h : JN F G N S) : ∃ a,loop (q4n M L) (0,N) = some a∧JN F G a (fun q=>S q∨∃ l∈M,∃ t∈l.Spans,q5e l.At t q):=by
  have n:=qcb d;have:=Ky (f:=q4n M L) (σ:=List qc) (fun k c=>((k : Int),c)) M.length (fun k c=>JN F G c (fun q=>S q∨∃ l∈M.take k,∃ t∈l.Spans,q5e l.At t q)) (fun c=>JN F G c (fun q=>S q∨∃ l∈M,∃ t∈l.Spans,q5e l.At t q)) ?_ ?_ (k0:=0) (c0:=N) q8 (h.congr fun p=>qe)
  · exact this
  · intro k c hk b;have hb : decide ((k : Int) < (M.length : Int)) = true:=Q4 q8;obtain ⟨a,e,j⟩:=qyv m d hk c b;refine .inl ⟨a,?_,j.congr fun q g=>?_⟩
    · simp only [q4n,hb,Q7,e,qo];rw [Qb q8];rfl
    · rw [takeN hk,← or_assoc] at g;exact g
  · intro c b;have hb : decide ((M.length : Int) < (M.length : Int)) = false:=Q9 q8;refine ⟨c,by simp only [q4n,hb,Q5],?_⟩;rw [List.take_length] at b;exact b
theorem qyw (q : Rep (asc L) F) (g : Rep (asc M) G) : ∃ N,q95 L M = some N∧N.Pairwise ltP∧(∀ p∈N,Yb F G p.X p.Y)∧(N.length≤400→Zq F G N)∧N.length≤402:=by
  obtain ⟨N1,e1,v⟩:=qyq q g;obtain ⟨s,z,d⟩:=qyu q g v;refine ⟨s,by unfold q95;rw [e1,qo,z];rfl,d.srt,d.sub,fun u=>⟨d.srt,fun p=>⟨d.sub p,fun hp=>d.all u p ?_ hp⟩⟩,d.len⟩;rcases (qfz (r:={rows_:=asc L,columns_:=asc M}) q g p).2 hp with ⟨e,o,t,k,n,a⟩ | ⟨e,o,t,k,n,a,_⟩
  · obtain ⟨l,b,rfl⟩:=List.mem_map.1 o;refine .inl ⟨l,b,t,k,n,qkr.2 ?_⟩;rcases a with ⟨a | a,_⟩ | ⟨a,x,h⟩
    · exact .inl a
    · exact .inr (.inl a)
    · have f : p.X∈(asc M).map (·.1):=by rcases h with h | h <;> exact g.all _ _ h
      obtain ⟨c,y,j⟩:=List.mem_map.1 f;obtain ⟨m,w,rfl⟩:=List.mem_map.1 y;exact .inr (.inr ⟨a,x,m,w,j⟩)
  · obtain ⟨l,b,rfl⟩:=List.mem_map.1 o;exact .inr ⟨l,b,t,k,n,a⟩
end
end Go.Sh
namespace Go.Sh
open Go Go.Am
open Classical
section
variable {F G : Int→Int→Prop} {N : List qc}
structure Ua (N : List qc) (i k : Nat) : Prop where
  lt : i < k
  hk : k < N.length
  eq : ∀ (h1 : i < N.length) (h2 : k < N.length),N[k].X = N[i].X
  no : ∀ j (h1 : i < N.length) (h2 : j < N.length),i < j→j < k→N[j].X≠N[i].X
structure Ub (N : List qc) (i k : Nat) : Prop where
  lt : i < k
  hk : k < N.length
  eq : ∀ (h1 : i < N.length) (h2 : k < N.length),N[k].Y = N[i].Y
  no : ∀ j (h1 : i < N.length) (h2 : j < N.length),i < j→j < k→N[j].Y≠N[i].Y
def q87 (F G : Int→Int→Prop) (N : List qc) (i k : Nat) : Prop:=∃ h : i < N.length,(Ua N i k∧G N[i].X N[i].Y)∨(Ub N i k∧F N[i].Y N[i].X)
structure q7i (F G : Int→Int→Prop) (N : List qc) (E : List qm) : Prop where
  srt : E.Pairwise ltG
  mem : ∀ e,e∈E↔∃ i k : Nat,e = {A:=(i : Int),B:=(k : Int)}∧q87 F G N i k
theorem qu8 {N M : List qc} (h : Zq F G N) (a : Zq F G M) : N = M:=qdx q43 h.srt a.srt fun p=>by rw [h.mem,a.mem]
theorem qrd {D E : List qm} (h : q7i F G N D) (a : q7i F G N E) : D = E:=qdx qtk h.srt a.srt fun p=>by rw [h.mem,a.mem]
theorem qbk (h : N.Pairwise ltP) {i j : Nat} (hi : i < N.length) (b : j < N.length) (a : i < j) : ltP N[i] N[j]:=List.pairwise_iff_getElem.1 h i j hi b a
theorem q51 (h : N.Pairwise ltP) {i j : Nat} (hi : i < N.length) (c : j < N.length) (a : ltP N[i] N[j]) : i < j:=by
  rcases Nat.lt_trichotomy i j with b | b | b
  · exact b
  · subst b;exact absurd a (q43 _ _ a)
  · exact absurd a (q43 _ _ (qbk h c hi b))
theorem qu1 (h : N.Pairwise ltP) {i k m : Nat} (c : Ua N i k) (b : Ub N i m) : k < m:=by
  have hi : i < N.length:=by have:=c.lt;have:=c.hk;omega
  have a:=qbk h hi b.hk b.lt;have e1:=c.eq hi c.hk;have d:=b.eq hi b.hk;refine q51 h c.hk b.hk ?_;unfold ltP at *;omega
theorem q8b {f : Int→Prop} {lo : Int} : ∀ (n : Nat),(∀ x,lo < x→x≤lo + n→(f x↔f (x - 1)))→(f lo↔f (lo + n))
  | 0,_=>by simp
  | n + 1,h=>by
    rw [q8b n fun x a b=>h x a q8,h (lo + ((n + 1 : Nat) : Int)) q8 q8]
    have : lo + ((n + 1 : Nat) : Int) - 1 = lo + (n : Int):=by omega
    rw [this]
theorem qlc {x y : Int} (h : ¬ Yb F G x y) : F y x↔F y (x - 1):=by
  by_cases e : F y x <;> by_cases w : F y (x - 1) <;> by_cases n : G x y <;> by_cases s : G x (y - 1) <;> simp [Yb,q46,e,w,n,s] at h ⊢
theorem qlb {x y : Int} (h : ¬ Yb F G x y) : G x y↔G x (y - 1):=by
  by_cases e : F y x <;> by_cases w : F y (x - 1) <;> by_cases n : G x y <;> by_cases s : G x (y - 1) <;> simp [Yb,q46,e,w,n,s] at h ⊢
theorem qmv (b : Zq F G N) {i k : Nat} (h : Ub N i k) (hi : i < N.length) : F N[i].Y N[i].X↔F N[i].Y ((N[k]'h.hk).X - 1):=by
  have a:=qbk b.srt hi h.hk h.lt;have e:=h.eq hi h.hk;have j : N[i].X < (N[k]'h.hk).X:=by unfold ltP at a;omega
  obtain ⟨n,l⟩ : ∃ n : Nat,(N[k]'h.hk).X - 1 = N[i].X + n:=⟨((N[k]'h.hk).X - 1 - N[i].X).toNat,q8⟩
  have : ((N[k]'h.hk).X - 1) = N[i].X + n:=l;rw [this];refine q8b (f:=F N[i].Y) n fun x q p=>?_;refine qlc (G:=G) fun c=>?_;obtain ⟨m,d,g⟩:=List.mem_iff_getElem.1 ((b.mem {X:=x,Y:=N[i].Y}).2 c);have ex : N[m].X = x:=by rw [g]
  have o : N[m].Y = N[i].Y:=by rw [g]
  refine h.no m hi d (q51 b.srt hi d ?_) (q51 b.srt d h.hk ?_) o
  · unfold ltP;omega
  · unfold ltP;omega
theorem qik (b : Zq F G N) {i k : Nat} (h : Ua N i k) (hi : i < N.length) : G N[i].X N[i].Y↔G N[i].X ((N[k]'h.hk).Y - 1):=by
  have a:=qbk b.srt hi h.hk h.lt;have e:=h.eq hi h.hk;have j : N[i].Y < (N[k]'h.hk).Y:=by unfold ltP at a;omega
  obtain ⟨n,l⟩ : ∃ n : Nat,(N[k]'h.hk).Y - 1 = N[i].Y + n:=⟨((N[k]'h.hk).Y - 1 - N[i].Y).toNat,q8⟩
  have : ((N[k]'h.hk).Y - 1) = N[i].Y + n:=l;rw [this];refine q8b (f:=G N[i].X) n fun y p o=>?_;refine qlb (F:=F) fun c=>?_;obtain ⟨m,d,g⟩:=List.mem_iff_getElem.1 ((b.mem {X:=N[i].X,Y:=y}).2 c);have ex : N[m].X = N[i].X:=by rw [g]
  have q : N[m].Y = y:=by rw [g]
  refine h.no m hi d (q51 b.srt hi d ?_) (q51 b.srt d h.hk ?_) ex
  · unfold ltP;omega
  · unfold ltP;omega
theorem qyy (k : Zq F G N) (hb : ∀ y x,F y x→-1000000≤x) {i : Nat} (hi : i < N.length) (c : F N[i].Y (N[i].X - 1)) : ∃ j,∃ h : j < N.length,j < i∧N[j].Y = N[i].Y:=by
  refine Classical.byContradiction fun a=>?_
  have step : ∀ x,x < N[i].X→(F N[i].Y x↔F N[i].Y (x - 1)):=by
    intro x l;refine qlc (G:=G) fun b=>a ?_;obtain ⟨m,d,g⟩:=List.mem_iff_getElem.1 ((k.mem {X:=x,Y:=N[i].Y}).2 b);have ex : N[m].X = x:=by rw [g]
    have o : N[m].Y = N[i].Y:=by rw [g]
    exact ⟨m,d,q51 k.srt d hi (by unfold ltP;omega),o⟩
  have l:=hb _ _ c;obtain ⟨n,b⟩ : ∃ n : Nat,N[i].X - 1 = -1000001 + (n : Int):=⟨(N[i].X + 1000000).toNat,q8⟩
  have:=q8b (f:=F N[i].Y) (lo:=-1000001) n fun x q p=>step x q8;rw [← b] at this;have:=hb _ _ (this.2 c);omega
theorem qpu (k : Zq F G N) (hb : ∀ x y,G x y→-1000000≤y) {i : Nat} (hi : i < N.length) (c : G N[i].X (N[i].Y - 1)) : ∃ j,∃ h : j < N.length,j < i∧N[j].X = N[i].X:=by
  refine Classical.byContradiction fun a=>?_
  have step : ∀ y,y < N[i].Y→(G N[i].X y↔G N[i].X (y - 1)):=by
    intro y p;refine qlb (F:=F) fun b=>a ?_;obtain ⟨m,d,g⟩:=List.mem_iff_getElem.1 ((k.mem {X:=N[i].X,Y:=y}).2 b);have ex : N[m].X = N[i].X:=by rw [g]
    have r : N[m].Y = y:=by rw [g]
    exact ⟨m,d,q51 k.srt d hi (by unfold ltP;omega),ex⟩
  have q:=hb _ _ c;obtain ⟨n,b⟩ : ∃ n : Nat,N[i].Y - 1 = -1000001 + (n : Int):=⟨(N[i].Y + 1000000).toNat,q8⟩
  have:=q8b (f:=G N[i].X) (lo:=-1000001) n fun y o l=>step y q8;rw [← b] at this;have:=hb _ _ (this.2 c);omega
theorem qfj {P : Nat→Prop} : ∀ {n : Nat},(∃ j,j < n∧P j)→∃ j,j < n∧P j∧∀ m,j < m→m < n→¬ P m
  | 0,⟨j,h,_⟩=>by omega
  | n + 1,⟨j,h,hp⟩=>by
    by_cases e : P n
    · exact ⟨n,q8,e,fun m f a=>q8⟩
    · have : j≠n:=fun c=>e (c ▸ hp)
      obtain ⟨k,f,a,g⟩:=qfj (n:=n) ⟨j,q8,hp⟩
      refine ⟨k,q8,a,fun m d l=>?_⟩
      by_cases b : m = n
      · subst b;exact e
      · exact g m d q8
theorem qxh (f : Zq F G N) (hb : ∀ y x,F y x→-1000000≤x) {k : Nat} (hk : k < N.length) (c : F N[k].Y (N[k].X - 1)) : ∃ j,Ub N j k:=by
  obtain ⟨j,h,a,l⟩:=qyy f hb hk c;obtain ⟨m,p,⟨s,b⟩,d⟩:=qfj (P:=fun j=>∃ h : j < N.length,N[j].Y = N[k].Y) (n:=k) ⟨j,a,h,l⟩;exact ⟨m,p,hk,fun _ _=>b.symm,fun q _ g o r e=>d q o r ⟨g,by rw [e,b]⟩⟩
theorem qxg (f : Zq F G N) (hb : ∀ x y,G x y→-1000000≤y) {k : Nat} (hk : k < N.length) (c : G N[k].X (N[k].Y - 1)) : ∃ j,Ua N j k:=by
  obtain ⟨j,h,a,l⟩:=qpu f hb hk c;obtain ⟨m,p,⟨s,b⟩,d⟩:=qfj (P:=fun j=>∃ h : j < N.length,N[j].X = N[k].X) (n:=k) ⟨j,a,h,l⟩;exact ⟨m,p,hk,fun _ _=>b.symm,fun q _ g o r e=>d q o r ⟨g,by rw [e,b]⟩⟩
theorem Ub.uniq {i j k : Nat} (b : Ub N i k) (a : Ub N j k) : i = j:=by
  have hi : i < N.length:=by have:=b.lt;have:=b.hk;omega
  have c : j < N.length:=by have:=a.lt;have:=a.hk;omega
  have e1:=b.eq hi b.hk;have d:=a.eq c a.hk;rcases Nat.lt_trichotomy i j with h | h | h
  · exact absurd (by rw [← e1,← d]) (b.no j hi c h a.lt)
  · exact h
  · exact absurd (by rw [← e1,← d]) (a.no i c hi h b.lt)
theorem Ua.uniq {i j k : Nat} (b : Ua N i k) (a : Ua N j k) : i = j:=by
  have hi : i < N.length:=by have:=b.lt;have:=b.hk;omega
  have c : j < N.length:=by have:=a.lt;have:=a.hk;omega
  have e1:=b.eq hi b.hk;have d:=a.eq c a.hk;rcases Nat.lt_trichotomy i j with h | h | h
  · exact absurd (by rw [← e1,← d]) (b.no j hi c h a.lt)
  · exact h
  · exact absurd (by rw [← e1,← d]) (a.no i c hi h b.lt)
theorem qsr (c : Zq F G N) (f : ∀ y x,F y x→-1000000≤x) (d : ∀ x y,G x y→-1000000≤y) {k : Nat} (hk : k < N.length) (i : Nat) : q87 F G N i k↔(Ub N i k∧F N[k].Y (N[k].X - 1))∨(Ua N i k∧G N[k].X (N[k].Y - 1)):=by
  constructor
  · rintro ⟨hi,⟨a,b⟩ | ⟨a,b⟩⟩
    · have:=(qik c a hi).1 b;rw [← a.eq hi hk] at this;exact .inr ⟨a,this⟩
    · have:=(qmv c a hi).1 b;rw [← a.eq hi hk] at this;exact .inl ⟨a,this⟩
  · rintro (⟨a,b⟩ | ⟨a,b⟩)
    · have hi : i < N.length:=by have:=a.lt;omega
      refine ⟨hi,.inr ⟨a,(qmv c a hi).2 ?_⟩⟩;rw [← a.eq hi hk];exact b
    · have hi : i < N.length:=by have:=a.lt;omega
      refine ⟨hi,.inl ⟨a,(qik c a hi).2 ?_⟩⟩;rw [← a.eq hi hk];exact b
end
end Go.Sh
namespace Go.Sh
open Go Go.Am
open Classical
theorem q8f {α β : Type} [DecidableEq α] {z : β} {k a : α} {v : β} : ∀ {R : List (α × β)},K7 z a (Ke k v R) = if a = k then v else K7 z a R
  | []=>by simp only [Ke,K7]
  | (b,w)::r=>by
    simp only [Ke]
    by_cases e : k = b
    · subst e
      simp only [if_true,K7]
      by_cases c : a = k
      · simp [c]
      · simp [c]
    · rw [qw e]
      simp only [K7]
      rw [q8f (R:=r)]
      by_cases c : a = b
      · subst c
        have : ¬ a = k:=fun h=>e h.symm
        simp [this]
      · simp [c]
section
variable {F G : Int→Int→Prop} {N : List qc}
structure PE (F G : Int→Int→Prop) (N : List qc) (k : Nat) (c : List (Int × Int) × List (Int × Int) × List qm) : Prop where
  rm : ∀ j (h : j < N.length),j < k→(∀ m (h2 : m < N.length),j < m→m < k→N[m].Y≠N[j].Y)→K7 0 N[j].Y c.1 = (j : Int)
  cm : ∀ j (h : j < N.length),j < k→(∀ m (h2 : m < N.length),j < m→m < k→N[m].X≠N[j].X)→K7 0 N[j].X c.2.1 = (j : Int)
  nd : c.2.2.Nodup
  mem : ∀ e,e∈c.2.2↔∃ i q : Nat,q < k∧e = {A:=(i : Int),B:=(q : Int)}∧q87 F G N i q
  len : c.2.2.length≤2 * k
theorem qty {r : Yd} (h1 : Rep r.rows_ F) (h2 : Rep r.columns_ G) (hN : Zq F G N) (hl : N.length≤400) : ∃ E,loop (q3j (N,true) r) (0,[],[],[]) = some E∧E.Nodup∧(∀ e,e∈E↔∃ i q : Nat,e = {A:=(i : Int),B:=(q : Int)}∧q87 F G N i q)∧E.length≤2 * N.length:=by
  have hF : ∀ y x,F y x→-1000000≤x:=fun y x h=>(h1.bnd h).2.2.1;have hG : ∀ x y,G x y→-1000000≤y:=fun x y h=>(h2.bnd h).2.2.1;refine Ky (f:=q3j (N,true) r) (σ:=List (Int × Int) × List (Int × Int) × List qm) (fun k c=>((k : Int),c)) N.length (PE F G N) _ ?_ ?_ (k0:=0) (c0:=([],[],[])) q8 ⟨fun j h h'=>q8,fun j h h'=>q8,.nil,fun e=>⟨fun h=>(by cases h),fun ⟨i,q,h,_⟩=>q8⟩,qe⟩
  · rintro k ⟨rm,cm,E⟩ hk ⟨p1,p2,p3,p4,p5⟩;simp only at p1 p2 p3 p4 p5;have hb : decide ((k : Int) < (N.length : Int)) = true:=Q4 q8;have ap:=qfy h1 h2 ((hN.mem N[k]).1 (Ks hk));have am : PtB N[k]:=ap;have o:=qsr hN hF hG hk
    have hold : ∀ i,({A:=(i : Int),B:=(k : Int)} : qm) ∉ E:=by
      intro i hm;obtain ⟨i',q,hq,l,_⟩:=(p4 _).1 hm;simp only [qm.mk.injEq] at l;omega
    have hw : ∃ u,(cond (decide (F N[k].Y (N[k].X - 1))) ((app 16 E [({A:=K7 0 N[k].Y rm,B:=(k : Int)} : qm)]).bind fun ak=>some ak) (some E)) = some u∧u.Nodup∧u.length≤E.length + 1∧∀ e,e∈u↔e∈E∨∃ i : Nat,e = {A:=(i : Int),B:=(k : Int)}∧Ub N i k∧F N[k].Y (N[k].X - 1):=by
      by_cases w : F N[k].Y (N[k].X - 1)
      · obtain ⟨j,g⟩:=qxh hN hF hk w;have d : j < N.length:=by have:=g.lt;omega
        have t : K7 0 N[k].Y rm = (j : Int):=by
          rw [g.eq d hk];exact p1 j d g.lt fun m p z h5=>g.no m d p z h5
        rw [Q4 w,Q7,t,Yh (by simp;omega)];refine ⟨_,rfl,?_,qe,fun e=>?_⟩
        · rw [List.nodup_append];exact ⟨p3,qe,fun a ha b hb e=>by rw [List.mem_singleton] at hb;subst hb;subst e;exact hold j ha⟩
        · rw [List.mem_append,List.mem_singleton];constructor
          · rintro (h | rfl)
            · exact .inl h
            · exact .inr ⟨j,rfl,g,w⟩
          · rintro (h | ⟨i,rfl,p,_⟩)
            · exact .inl h
            · rw [p.uniq g];exact .inr rfl
      · rw [Q9 w,Q5];exact ⟨E,rfl,p3,q8,fun e=>⟨.inl,fun h=>h.elim id fun ⟨_,_,_,h⟩=>absurd h w⟩⟩
    obtain ⟨u,e1,n1,l1,m1⟩:=hw
    have hs : ∃ E2,(cond (decide (G N[k].X (N[k].Y - 1))) ((app 16 u [({A:=K7 0 N[k].X cm,B:=(k : Int)} : qm)]).bind fun ao=>some ao) (some u)) = some E2∧E2.Nodup∧E2.length≤u.length + 1∧∀ e,e∈E2↔e∈u∨∃ i : Nat,e = {A:=(i : Int),B:=(k : Int)}∧Ua N i k∧G N[k].X (N[k].Y - 1):=by
      by_cases s : G N[k].X (N[k].Y - 1)
      · obtain ⟨j,g⟩:=qxg hN hG hk s;have d : j < N.length:=by have:=g.lt;omega
        have t : K7 0 N[k].X cm = (j : Int):=by
          rw [g.eq d hk];exact p2 j d g.lt fun m p z h5=>g.no m d p z h5
        rw [Q4 s,Q7,t,Yh (by simp;omega)];refine ⟨_,rfl,?_,qe,fun e=>?_⟩
        · rw [List.nodup_append];refine ⟨n1,qe,fun a ha b hb e=>?_⟩;rw [List.mem_singleton] at hb;subst hb;subst e;rcases (m1 _).1 ha with h | ⟨i,l,hy,_⟩
          · exact hold j h
          · simp only [qm.mk.injEq] at l;have aj : i = j:=by omega
            subst aj;have q1:=hy.eq d hk;have q2:=g.eq d hk;have:=qbk hN.srt d hk g.lt;unfold ltP at this;omega
        · rw [List.mem_append,List.mem_singleton];constructor
          · rintro (h | rfl)
            · exact .inl h
            · exact .inr ⟨j,rfl,g,s⟩
          · rintro (h | ⟨i,rfl,p,_⟩)
            · exact .inl h
            · rw [p.uniq g];exact .inr rfl
      · rw [Q9 s,Q5];exact ⟨u,rfl,n1,q8,fun e=>⟨.inl,fun h=>h.elim id fun ⟨_,_,_,h⟩=>absurd h s⟩⟩
    obtain ⟨E2,e2,n2,l2,m2⟩:=hs;refine .inl ⟨(Ke N[k].Y (k : Int) rm,Ke N[k].X (k : Int) cm,E2),?_,fun j g ai n=>?_,fun j g ai n=>?_,n2,fun e=>?_,by simp only;omega⟩
    · simp only [q3j,hb,Q7,K0 hk,qo,qhy h1 h2 am,arB];rw [e1,qo,e2,qo,Qb q8];rfl
    · simp only;rw [q8f];by_cases v : N[j].Y = N[k].Y
      · rw [qx v];by_cases aa : j = k
        · subst aa;rfl
        · exact absurd v.symm (n k hk q8 q8)
      · rw [qw v];have : j≠k:=fun h=>by subst h;exact v rfl
        exact p1 j g q8 fun m p z h5=>n m p z q8
    · simp only;rw [q8f];by_cases v : N[j].X = N[k].X
      · rw [qx v];by_cases aa : j = k
        · subst aa;rfl
        · exact absurd v.symm (n k hk q8 q8)
      · rw [qw v];have : j≠k:=fun h=>by subst h;exact v rfl
        exact p2 j g q8 fun m p z h5=>n m p z q8
    · simp only;rw [m2,m1,p4];constructor
      · rintro ((⟨i,q,hq,l,h⟩ | ⟨i,l,h⟩) | ⟨i,l,h⟩)
        · exact ⟨i,q,q8,l,h⟩
        · exact ⟨i,k,q8,l,(o i).2 (.inl h)⟩
        · exact ⟨i,k,q8,l,(o i).2 (.inr h)⟩
      · rintro ⟨i,q,hq,l,h⟩;by_cases eq : q = k
        · subst eq;rcases (o i).1 h with h | h
          · exact .inl (.inr ⟨i,l,h⟩)
          · exact .inr ⟨i,l,h⟩
        · exact .inl (.inl ⟨i,q,q8,l,h⟩)
  · rintro ⟨rm,cm,E⟩ ⟨p1,p2,p3,p4,p5⟩;simp only at p3 p4 p5;have hb : decide ((N.length : Int) < (N.length : Int)) = false:=Q9 q8;refine ⟨E,by simp only [q3j,hb,Q5],p3,fun e=>?_,q8⟩;rw [p4];constructor
    · rintro ⟨i,q,_,l,h⟩;exact ⟨i,q,l,h⟩
    · rintro ⟨i,q,l,h⟩;obtain ⟨hi,h'⟩:=h;refine ⟨i,q,?_,l,hi,h'⟩;rcases h' with ⟨h,_⟩ | ⟨h,_⟩
      · exact h.hk
      · exact h.hk
theorem qtx {r : Yd} (n : Rep r.rows_ F) (d : Rep r.columns_ G) (g : Zq F G N) (f : N.length≤400) : ∃ D E,loop (q3j (N,true) r) (0,[],[],[]) = some D∧q4r (fun c o=>q2p c o) D = some E∧E.length = D.length∧q7i F G N E∧E.length≤2 * N.length:=by
  obtain ⟨D,e1,l,b,k⟩:=qty n d g f
  have m : ∀ e∈D,PtB (eP2 e):=by
    intro e j;obtain ⟨i,q,rfl,hi,h⟩:=(b e).1 j;have t : q < N.length:=by rcases h with ⟨h,_⟩ | ⟨h,_⟩ <;> exact h.hk
    unfold PtB eP2;simp only;omega
  obtain ⟨E,s,a,p⟩:=q11d D q8 m l;exact ⟨D,E,e1,s,a.length_eq,⟨p,fun e=>by rw [a.mem_iff,b]⟩,by rw [a.length_eq];exact k⟩
def NX (N : List qc) (i k : Nat) (b : Int) : Prop:=(b = -1∧∀ m (h1 : i < N.length) (h2 : m < N.length),i < m→m < k→N[m].X≠N[i].X)∨∃ q : Nat,b = (q : Int)∧Ua N i q
def NY (N : List qc) (i k : Nat) (b : Int) : Prop:=(b = -1∧∀ m (h1 : i < N.length) (h2 : m < N.length),i < m→m < k→N[m].Y≠N[i].Y)∨∃ q : Nat,b = (q : Int)∧Ub N i q
theorem qo8 (hl : N.length≤1000) {i : Nat} (hi : i < N.length) : ∃ b,loop (q4g N N[i]) ((-1),(-1),(((i + 1 : Nat) : Int))) = some b∧NX N i N.length b.1∧NY N i N.length b.2:=by
  refine Ky (f:=q4g N N[i]) (σ:=Int × Int) (fun k c=>(c.1,c.2,(k : Int))) N.length (fun k c=>i < k∧NX N i k c.1∧NY N i k c.2) _ ?_ ?_ (k0:=i + 1) (c0:=((-1),(-1))) q8 ⟨q8,.inl ⟨rfl,fun m _ _ s n=>q8⟩,.inl ⟨rfl,fun m _ _ s n=>q8⟩⟩
  · rintro k ⟨bx,a⟩ hk ⟨t,w,v⟩;simp only at w v;have hb : decide ((k : Int) < (N.length : Int)) = true:=Q4 q8
    have sx : ∃ d,((cond (N[k].X == N[i].X) (some (decide (bx < 0))) (some false)).bind fun u=>(cond u (some (k : Int)) (some bx))) = some d∧NX N i (k + 1) d:=by
      rcases w with ⟨rfl,h⟩ | ⟨q,rfl,y⟩
      · by_cases e : N[k].X = N[i].X
        · have o : (N[k].X == N[i].X) = true:=by simpa using e
          rw [o];exact ⟨(k : Int),rfl,.inr ⟨k,rfl,t,hk,fun _ _=>e,fun j _ n p r=>h j hi n p r⟩⟩
        · have o : (N[k].X == N[i].X) = false:=by simpa using e
          rw [o];refine ⟨-1,rfl,.inl ⟨rfl,fun m s n p r=>?_⟩⟩;by_cases z : m = k
          · subst z;exact e
          · exact h m s n p q8
      · refine ⟨(q : Int),?_,.inr ⟨q,rfl,y⟩⟩;have : decide ((q : Int) < 0) = false:=Q9 q8;rw [this];cases (N[k].X == N[i].X) <;> rfl
    have sy : ∃ l,((cond (N[k].Y == N[i].Y) (some (decide (a < 0))) (some false)).bind fun g=>(cond g (some (k : Int)) (some a))) = some l∧NY N i (k + 1) l:=by
      rcases v with ⟨rfl,h⟩ | ⟨q,rfl,y⟩
      · by_cases e : N[k].Y = N[i].Y
        · have o : (N[k].Y == N[i].Y) = true:=by simpa using e
          rw [o];exact ⟨(k : Int),rfl,.inr ⟨k,rfl,t,hk,fun _ _=>e,fun j _ n p r=>h j hi n p r⟩⟩
        · have o : (N[k].Y == N[i].Y) = false:=by simpa using e
          rw [o];refine ⟨-1,rfl,.inl ⟨rfl,fun m s n p r=>?_⟩⟩;by_cases z : m = k
          · subst z;exact e
          · exact h m s n p q8
      · refine ⟨(q : Int),?_,.inr ⟨q,rfl,y⟩⟩;have : decide ((q : Int) < 0) = false:=Q9 q8;rw [this];cases (N[k].Y == N[i].Y) <;> rfl
    obtain ⟨d,e1,x1⟩:=sx;obtain ⟨l,e2,y1⟩:=sy;refine .inl ⟨(d,l),?_,q8,x1,y1⟩;simp only [q4g,hb,Q7,K0 hk,qo];rw [← Option.bind_assoc (x:=(cond (N[k].X == N[i].X) (some (decide (bx < 0))) (some false))),e1,qo]
    have e3 : ((cond (N[k].Y == N[i].Y) (some (decide (a < 0))) (some false)).bind fun g=>cond g (some (d,(k : Int))) (some (d,a))) = some (d,l):=by
      have : ∀ c : Bool,(cond c (some (d,(k : Int))) (some (d,a))) = (cond c (some (k : Int)) (some a)).map fun b=>(d,b):=by intro c;cases c <;> rfl
      simp only [this]
      have : ((cond (N[k].Y == N[i].Y) (some (decide (a < 0))) (some false)).bind fun g=>(cond g (some (k : Int)) (some a)).map fun b=>(d,b)) = (((cond (N[k].Y == N[i].Y) (some (decide (a < 0))) (some false)).bind fun g=>(cond g (some (k : Int)) (some a)))).map fun b=>(d,b):=by
        cases (cond (N[k].Y == N[i].Y) (some (decide (a < 0))) (some false)) <;> rfl
      rw [this,e2];rfl
    rw [e3,qo,Qb q8];rfl
  · rintro ⟨bx,a⟩ ⟨_,w,v⟩;have hb : decide ((N.length : Int) < (N.length : Int)) = false:=Q9 q8;exact ⟨(bx,a),by simp only [q4g,hb,Q5],w,v⟩
end
end Go.Sh
namespace Go.Sh
open Go Go.Am
open Classical
section
variable {F G : Int→Int→Prop} {N : List qc} {L M : List Kb}
structure RE (F G : Int→Int→Prop) (N : List qc) (k : Nat) (E : List qm) : Prop where
  srt : E.Pairwise ltG
  mem : ∀ e,e∈E↔∃ i q : Nat,i < k∧e = {A:=(i : Int),B:=(q : Int)}∧q87 F G N i q
  len : E.length≤2 * k
theorem qkl {E : List qm} {a : qm} (h : E.Pairwise ltG) (c : ∀ e∈E,ltG e a) : (E ++ [a]).Pairwise ltG:=by
  rw [List.pairwise_append];exact ⟨h,List.pairwise_singleton _ _,fun x d y b=>by rw [List.mem_singleton] at b;subst b;exact c x d⟩
theorem qo7 (h1 : Rep (asc L) F) (z : Rep (asc M) G) (hN : Zq F G N) (hl : N.length≤400) : ∃ E,loop (q4f N L M) (0,[]) = some E∧q7i F G N E∧E.length≤2 * N.length:=by
  refine Ky (f:=q4f N L M) (σ:=List qm) (fun k c=>((k : Int),c)) N.length (RE F G N) _ ?_ ?_ (k0:=0) (c0:=[]) q8 ⟨.nil,fun e=>⟨fun h=>(by cases h),fun ⟨i,q,h,_⟩=>q8⟩,qe⟩
  · rintro k E hk ⟨t,p2,p3⟩;have hb : decide ((k : Int) < (N.length : Int)) = true:=Q4 q8;have y : PtB N[k]:=qfy h1 z ((hN.mem N[k]).1 (Ks hk));obtain ⟨⟨bx,s⟩,e0,hx,hy⟩:=qo8 (N:=N) q8 hk;simp only at hx hy
    have o : ∀ e∈E,∀ q : Nat,ltG e {A:=(k : Int),B:=(q : Int)}:=by
      intro e b q;obtain ⟨i,l,hi,rfl,_⟩:=(p2 e).1 b;unfold ltG ltP eP2;simp only;omega
    have hu : ∃ j,((cond (decide (G N[k].X N[k].Y)) (some (decide (bx ≥ 0))) (some false)).bind fun r=>(cond r ((app 16 E [({A:=(k : Int),B:=bx} : qm)]).bind fun u=>some u) (some E))) = some j∧j.Pairwise ltG∧j.length≤E.length + 1∧(∀ e,e∈j↔e∈E∨∃ q : Nat,e = {A:=(k : Int),B:=(q : Int)}∧Ua N k q∧G N[k].X N[k].Y):=by
      by_cases g : G N[k].X N[k].Y
      · rw [Q4 g,Q7,qo];rcases hx with ⟨rfl,m⟩ | ⟨q,rfl,d⟩
        · refine ⟨E,rfl,t,q8,fun e=>⟨.inl,fun h=>h.elim id ?_⟩⟩;rintro ⟨q,_,a,_⟩;exact absurd (a.eq hk a.hk) (m q hk a.hk a.lt a.hk)
        · rw [Q4 (show (q : Int) ≥ 0 by omega),Q7,Yh (by simp;omega)];refine ⟨_,rfl,qkl t fun e b=>o e b q,qe,fun e=>?_⟩;rw [List.mem_append,List.mem_singleton];constructor
          · rintro (h | rfl)
            · exact .inl h
            · exact .inr ⟨q,rfl,d,g⟩
          · rintro (h | ⟨l,rfl,a,_⟩)
            · exact .inl h
            · right
              have : l = q:=by
                rcases Nat.lt_trichotomy l q with h | h | h
                · exact absurd (a.eq hk a.hk) (d.no l hk a.hk a.lt h)
                · exact h
                · exact absurd (d.eq hk d.hk) (a.no q hk d.hk d.lt h)
              rw [this]
      · rw [Q9 g,Q5,qo,Q5];exact ⟨E,rfl,t,q8,fun e=>⟨.inl,fun h=>h.elim id fun ⟨_,_,_,h⟩=>absurd h g⟩⟩
    obtain ⟨j,e1,s1,l1,m1⟩:=hu
    have hr : ∃ n,((cond (decide (F N[k].Y N[k].X)) (some (decide (s ≥ 0))) (some false)).bind fun v=>(cond v ((app 16 j [({A:=(k : Int),B:=s} : qm)]).bind fun p=>some p) (some j))) = some n∧n.Pairwise ltG∧n.length≤j.length + 1∧(∀ e,e∈n↔e∈j∨∃ q : Nat,e = {A:=(k : Int),B:=(q : Int)}∧Ub N k q∧F N[k].Y N[k].X):=by
      by_cases g : F N[k].Y N[k].X
      · rw [Q4 g,Q7,qo];rcases hy with ⟨rfl,m⟩ | ⟨q,rfl,d⟩
        · refine ⟨j,rfl,s1,q8,fun e=>⟨.inl,fun h=>h.elim id ?_⟩⟩;rintro ⟨q,_,a,_⟩;exact absurd (a.eq hk a.hk) (m q hk a.hk a.lt a.hk)
        · rw [Q4 (show (q : Int) ≥ 0 by omega),Q7,Yh (by simp;omega)];refine ⟨_,rfl,qkl s1 fun e b=>?_,qe,fun e=>?_⟩
          · rcases (m1 e).1 b with h | ⟨l,rfl,a,_⟩
            · exact o e h q
            · have af:=qu1 hN.srt a d;exact .inr ⟨rfl,show (l : Int) < (q : Int) by omega⟩
          · rw [List.mem_append,List.mem_singleton];constructor
            · rintro (h | rfl)
              · exact .inl h
              · exact .inr ⟨q,rfl,d,g⟩
            · rintro (h | ⟨l,rfl,a,_⟩)
              · exact .inl h
              · right
                have : l = q:=by
                  rcases Nat.lt_trichotomy l q with h | h | h
                  · exact absurd (a.eq hk a.hk) (d.no l hk a.hk a.lt h)
                  · exact h
                  · exact absurd (d.eq hk d.hk) (a.no q hk d.hk d.lt h)
                rw [this]
      · rw [Q9 g,Q5,qo,Q5];exact ⟨j,rfl,s1,q8,fun e=>⟨.inl,fun h=>h.elim id fun ⟨_,_,_,h⟩=>absurd h g⟩⟩
    obtain ⟨n,e2,s2,l2,m2⟩:=hr;refine .inl ⟨n,?_,s2,fun e=>?_,q8⟩
    · simp only [q4f,hb,Q7,K0 hk,qo,qme h1 z y,arB];rw [Qb q8,show ((k : Int) + 1) = ((k + 1 : Nat) : Int) by omega,e0,qo];simp only;rw [← Option.bind_assoc (x:=(cond (decide (G N[k].X N[k].Y)) (some (decide (bx ≥ 0))) (some false))),e1,qo,e2,qo]
    · rw [m2,m1,p2];constructor
      · rintro ((⟨i,q,d,b,h⟩ | ⟨q,b,a,w⟩) | ⟨q,b,a,w⟩)
        · exact ⟨i,q,q8,b,h⟩
        · exact ⟨k,q,q8,b,hk,.inl ⟨a,w⟩⟩
        · exact ⟨k,q,q8,b,hk,.inr ⟨a,w⟩⟩
      · rintro ⟨i,q,d,b,h⟩;by_cases eq : i = k
        · subst eq;obtain ⟨_,h | h⟩:=h
          · exact .inl (.inr ⟨q,b,h.1,h.2⟩)
          · exact .inr ⟨q,b,h.1,h.2⟩
        · exact .inl (.inl ⟨i,q,q8,b,h⟩)
  · rintro E ⟨t,p2,p3⟩;have hb : decide ((N.length : Int) < (N.length : Int)) = false:=Q9 q8;refine ⟨E,by simp only [q4f,hb,Q5],⟨t,fun e=>?_⟩,q8⟩;rw [p2];constructor
    · rintro ⟨i,q,_,b,h⟩;exact ⟨i,q,b,h⟩
    · rintro ⟨i,q,b,hi,h⟩;exact ⟨i,q,hi,b,hi,h⟩
end
structure q2t (F G : Int→Int→Prop) (n : K5) : Prop where
  nodes : Zq F G n.Nodes
  edges : q7i F G n.Nodes n.Edges
  nlen : n.Nodes.length≤400
  elen : n.Edges.length≤2 * n.Nodes.length
theorem q2t.uniq {F G : Int→Int→Prop} {n m : K5} (h : q2t F G n) (a : q2t F G m) : n = m:=by
  obtain ⟨N,E⟩:=n;obtain ⟨c,b⟩:=m;have e : N = c:=qu8 h.nodes a.nodes;subst e;have : E = b:=qrd h.edges a.edges;rw [this]
abbrev rowP (l : List Q6) : Int→Int→Prop:=onL (q2i l)
abbrev colP (l : List Q6) : Int→Int→Prop:=onL (q1x l)
def q7l (F G : Int→Int→Prop) : Prop:=∃ b : List qc,b.Nodup∧400 < b.length∧∀ p∈b,Yb F G p.X p.Y
theorem q7l.not {F G : Int→Int→Prop} (h : q7l F G) {N : List qc} (d : Zq F G N) : 400 < N.length:=by
  obtain ⟨b,a,f,c⟩:=h;have:=List.Nodup.length_le_of_subset a (l₂:=N) fun p hp=>(d.mem p).2 (c p hp);omega
theorem ql7 {l : List Q6} (k : l.length≤400) (o : ∀ s∈l,SegV s) : (∃ n,q54 l = some (n,true)∧q2t (rowP l) (colP l) n)∨(q54 l = some ({Nodes:=[],Edges:=[]},false)∧q7l (rowP l) (colP l)):=by
  obtain ⟨r,e1,f,d⟩:=qpz k o;unfold q54;rw [e1,qo];rcases qu7 f d with ⟨N,g,a,c⟩ | ⟨p,q,c⟩
  · left;obtain ⟨D,E,m,t,j,h,b⟩:=qtx f d g a;rw [c];simp only [qo,Bool.not_true,Q5,m,t];have le : K2 E.length D.length = some ():=by unfold K2;rw [qx j]
    rw [le,qo];refine ⟨{Nodes:=N,Edges:=E},?_,g,h,a,b⟩;rw [Q4 (show (D.length : Int)≤800 by omega)]
  · right;rw [c];exact ⟨rfl,p⟩
theorem qo9 {l : List Q6} (g : l.length≤400) (k : ∀ s∈l,SegV s) : (∃ n,q4e l = some (n,true)∧q2t (rowP l) (colP l) n)∨(q4e l = some ({Nodes:=[],Edges:=[]},false)∧q7l (rowP l) (colP l)):=by
  obtain ⟨L,e1,m,_⟩:=qkf l true g k;obtain ⟨M,t,f,_⟩:=qkf l false g k;obtain ⟨N,p,s1,q,j,u⟩:=qyw m f;unfold q4e;rw [e1,qo,t,qo,p,qo];by_cases c : N.length≤400
  · left;rw [Q9 (show ¬ (N.length : Int) > 400 by omega),Q5];obtain ⟨E,r,o,d⟩:=qo7 m f (j c) c;rw [r,qo];exact ⟨{Nodes:=N,Edges:=E},by rw [Q4 (show (E.length : Int)≤800 by omega)],j c,o,c,d⟩
  · right;rw [Q4 (show (N.length : Int) > 400 by omega),Q7];exact ⟨rfl,N,s1.imp (by rintro a b h rfl;exact q43 a a h h),q8,q⟩
theorem qtz {l : List Q6} (f : l.length≤400) (d : ∀ s∈l,SegV s) : q54 l = q4e l:=by
  rcases ql7 f d with ⟨n,e1,b⟩ | ⟨e1,b⟩ <;> rcases qo9 f d with ⟨m,c,a⟩ | ⟨c,a⟩
  · rw [e1,c,b.uniq a]
  · have:=a.not b.nodes;have:=b.nlen;omega
  · have:=b.not a.nodes;have:=a.nlen;omega
  · rw [e1,c]
end Go.Sh
namespace Go.Sh
open Go Go.Am
open Classical
theorem beqI (a b : Int) : (a == b) = decide (a = b):=by
  by_cases h : a = b
  · rw [Q4 h];simpa using h
  · rw [Q9 h];simpa using h
theorem qfg (p : qc) : q53 p = some (decide (PtB p)):=by
  unfold q53;by_cases h : PtB p
  · have a:=h;unfold PtB at a;rw [Q4 h,Q4 (show min p.X p.Y ≥ -1000000 by omega),Q7,Q4 (show max p.X p.Y≤1000000 by omega)];rfl
  · have a:=h;unfold PtB at a;rw [Q9 h];by_cases b : min p.X p.Y ≥ -1000000
    · rw [Q4 b,Q7,Q9 (show ¬ max p.X p.Y≤1000000 by omega)];rfl
    · rw [Q9 b,Q5];rfl
theorem q6j (s : Q6) : SegV s↔PtB s.A∧PtB s.B∧((s.A.X = s.B.X∧s.A.Y≠s.B.Y)∨(s.A.X≠s.B.X∧s.A.Y = s.B.Y)):=by
  constructor
  · rintro ⟨a,b,c⟩;exact ⟨a,b,c⟩
  · rintro ⟨a,b,c⟩;exact ⟨a,b,c⟩
theorem q12c (s : Q6) : qbq s = some (decide (SegV s)):=by
  unfold qbq;rw [qfg,qo];by_cases a : PtB s.A
  · rw [Q4 a,Q7,qfg,qo,qo];by_cases b : PtB s.B
    · rw [Q4 b,Q7,qo];congr 1;rw [beqI,beqI];by_cases e1 : s.A.X = s.B.X <;> by_cases c : s.A.Y = s.B.Y <;> simp [q6j,a,b,e1,c]
    · rw [Q9 b,Q5,qo];simp [q6j,b]
  · rw [Q9 a,Q5,qo,Q5,qo];simp [q6j,a]
theorem q96 (p : qc) : q1m p = some (decide (PtB p)):=by
  unfold q1m;by_cases h : PtB p
  · have a:=h;unfold PtB at a;rw [Q4 h,Q4 (show p.X ≥ -1000000 by omega),Q7,Q4 (show p.X≤1000000 by omega),Q4 (show p.Y ≥ -1000000 by omega),Q4 (show p.Y≤1000000 by omega)];rfl
  · have a:=h;unfold PtB at a;rw [Q9 h];by_cases d : p.X ≥ -1000000 <;> by_cases b : p.X≤1000000 <;> by_cases f : p.Y ≥ -1000000 <;> by_cases c : p.Y≤1000000
    all_goals first | omega | (simp only [d,b,f,c,decide_true,decide_false,Q7,Q5,qo])
theorem qz6 (s : Q6) : q94 s = some (decide (SegV s)):=by
  unfold q94;rw [q96,q96];simp only [beqI];by_cases e1 : s.A.X = s.B.X <;> by_cases c : s.A.Y = s.B.Y <;> by_cases a : PtB s.A <;> by_cases b : PtB s.B <;> simp [q6j,a,b,e1,c]
end Go.Sh
namespace Go.Sh
open Go Go.Am
open Classical
theorem dlt' {k n : Nat} (h : k < n) : decide ((k : Int) < (n : Int)) = true:=Q4 q8
theorem dnl' {n : Nat} : decide ((n : Int) < (n : Int)) = false:=Q9 q8
theorem beqP (a b : qc) : ((a.X == b.X) && ((a.Y == b.Y) && true)) = decide (a = b):=by
  obtain ⟨f,h⟩:=a;obtain ⟨bx,c⟩:=b;simp only [beqI,Bool.and_true,qc.mk.injEq];by_cases g : f = bx <;> by_cases d : h = c <;> simp [g,d]
theorem beqG (a b : qm) : ((a.A == b.A) && ((a.B == b.B) && true)) = decide (a = b):=by
  obtain ⟨f,h⟩:=a;obtain ⟨bx,c⟩:=b;simp only [beqI,Bool.and_true,qm.mk.injEq];by_cases g : f = bx <;> by_cases d : h = c <;> simp [g,d]
theorem q7x {α : Type} [DecidableEq α] {f : Int→Option (Int ⊕ (Unit ⊕ Bool))} {p q : List α} (j : p.length = q.length) (r : p.length≤1000000)
    (hs : ∀ k (a : k < p.length) (c : k < q.length),f (k : Int) = if p[k] = q[k] then some (.inl (w64 ((k : Int) + 1))) else some (.inr (.inr false))) (hd : f (p.length : Int) = some (.inr (.inl ()))) :
    loop f 0 = some (if p = q then .inl () else .inr false):=by
  have:=Ky (f:=f) (σ:=Unit) (fun k _=>(k : Int)) p.length (fun k _=>∀ i (a : i < p.length) (c : i < q.length),i < k→p[i] = q[i]) (fun o=>o = if p = q then .inl () else .inr false) ?_ ?_ (k0:=0) (c0:=()) q8 (fun i _ _ h=>q8)
  · obtain ⟨b,a,rfl⟩:=this;exact a
  · rintro k _ hk d;have c : k < q.length:=by omega
    have:=hs k hk c;by_cases e : p[k] = q[k]
    · rw [qx e,Qb q8] at this;refine .inl ⟨(),by rw [this];rfl,fun i g l n=>?_⟩;by_cases m : i = k
      · subst m;exact e
      · exact d i g l q8
    · rw [qw e] at this;refine .inr ⟨_,this,?_⟩;rw [qw];rintro rfl;exact e rfl
  · rintro _ d;refine ⟨_,hd,?_⟩;rw [qx];exact List.ext_getElem j fun i a c=>d i a c a
theorem qz3 (p q : K5) (c : p.Nodes.length≤1000000) (d : p.Edges.length≤1000000) : q93 p q = some (decide (p = q)):=by
  obtain ⟨N,E⟩:=p;obtain ⟨a,b⟩:=q;unfold q93;simp only at c d ⊢;by_cases g : N.length = a.length
  · by_cases j : E.length = b.length
    · have e1 : ((N.length : Int) != (a.length : Int)) = false:=by rw [g];simp
      have l : ((E.length : Int) != (b.length : Int)) = false:=by rw [j];simp
      have f1 : loop (q6c {Nodes:=N,Edges:=E} {Nodes:=a,Edges:=b}) 0 = some (if N = a then .inl () else .inr false):=by
        refine q7x g c (fun k c d=>?_) ?_
        · simp only [q6c,dlt' c,Q7,K0 c,K0 d,qo,beqP];by_cases e : N[k] = a[k] <;> simp [e]
        · simp only [q6c,dnl',Q5]
      have m : loop (q6d {Nodes:=N,Edges:=E} {Nodes:=a,Edges:=b}) 0 = some (if E = b then .inl () else .inr false):=by
        refine q7x j d (fun k c d=>?_) ?_
        · simp only [q6d,dlt' c,Q7,K0 c,K0 d,qo,beqG];by_cases e : E[k] = b[k] <;> simp [e]
        · simp only [q6d,dnl',Q5]
      rw [e1,Q5,l,qo,Q5,f1,m];by_cases f : N = a <;> by_cases n : E = b <;> simp [f,n]
    · have e1 : ((N.length : Int) != (a.length : Int)) = false:=by rw [g];simp
      have l : ((E.length : Int) != (b.length : Int)) = true:=by simp;omega
      have f : ¬ E = b:=fun h=>j (by rw [h]);rw [e1,Q5,l,qo,Q7];simp [f]
  · have e1 : ((N.length : Int) != (a.length : Int)) = true:=by simp;omega
    have f : ¬ N = a:=fun h=>g (by rw [h]);rw [e1,Q7,qo,Q7];simp [f]
end Go.Sh
namespace Go.Sh
open Go Go.Am
open Classical
abbrev net0 : K5:={Nodes:=[],Edges:=[]}
theorem qd2 (l : List Q6) (m : l.length≤400) : loop (q7b l) 0 = some (if ∀ s∈l,SegV s then .inl () else .inr (net0,8))∧loop (q6a l) 0 = some (if ∀ s∈l,SegV s then .inl () else .inr (net0,8)):=by
  have key : ∀ f : Int→Option (Int ⊕ (Unit ⊕ (K5 × Int))),(∀ k (hk : k < l.length),f (k : Int) = if SegV l[k] then some (.inl (w64 ((k : Int) + 1))) else some (.inr (.inr (net0,8))))→f (l.length : Int) = some (.inr (.inl ()))→loop f 0 = some (if ∀ s∈l,SegV s then .inl () else .inr (net0,8)):=by
    intro f hs hd;have:=Ky (f:=f) (σ:=Unit) (fun k _=>(k : Int)) l.length (fun k _=>∀ i (hi : i < l.length),i < k→SegV l[i]) (fun o=>o = if ∀ s∈l,SegV s then .inl () else .inr (net0,8)) ?_ ?_ (k0:=0) (c0:=()) q8 (fun i hi h=>q8)
    · obtain ⟨b,j,rfl⟩:=this;exact j
    · rintro k _ hk c;have:=hs k hk;by_cases a : SegV l[k]
      · rw [qx a,Qb q8] at this;refine .inl ⟨(),by rw [this];rfl,fun i hi g=>?_⟩;by_cases e : i = k
        · subst e;exact a
        · exact c i hi q8
      · rw [qw a] at this;exact .inr ⟨_,this,by rw [qw (fun h=>a (h _ (Ks hk)))]⟩
    · rintro _ c;refine ⟨_,hd,?_⟩;rw [qx];intro s d;obtain ⟨i,hi,rfl⟩:=List.mem_iff_getElem.1 d;exact c i hi hi
  constructor
  · refine key _ (fun k hk=>?_) (by simp only [q7b,dnl',Q5]);simp only [q7b,dlt' hk,Q7,K0 hk,qo,q12c];by_cases h : SegV l[k]
    · rw [qx h,Q4 h];rfl
    · rw [qw h,Q9 h];rfl
  · refine key _ (fun k hk=>?_) (by simp only [q6a,dnl',Q5]);simp only [q6a,dlt' hk,Q7,K0 hk,qo,qz6];by_cases h : SegV l[k]
    · rw [qx h,Q4 h];rfl
    · rw [qw h,Q9 h];rfl
theorem qto {l : List Q6} (a : l.length≤400) (b : ∀ s∈l,SegV s) : (∃ n,Ux l = some (n,0)∧Uu l = some (n,0)∧q2t (rowP l) (colP l) n)∨(Ux l = some (net0,4)∧Uu l = some (net0,4)∧q7l (rowP l) (colP l)):=by
  unfold Ux Uu;rw [Q9 (show ¬ (l.length : Int) > 400 by omega),Q5,Q5,(qd2 l a).1,(qd2 l a).2,qx b,← qtz a b];rcases ql7 a b with ⟨n,e,h⟩ | ⟨e,h⟩
  · exact .inl ⟨n,by rw [qo,e];rfl,by rw [qo,e];rfl,h⟩
  · exact .inr ⟨by rw [qo,e];rfl,by rw [qo,e];rfl,h⟩
theorem qkm (l : List Q6) : ∃ n c,Ux l = some (n,c)∧Uu l = some (n,c)∧n.Nodes.length≤400∧n.Edges.length≤800:=by
  by_cases a : l.length≤400
  · by_cases b : ∀ s∈l,SegV s
    · rcases qto a b with ⟨n,e1,d,h⟩ | ⟨e1,d,_⟩
      · exact ⟨n,0,e1,d,h.nlen,by have:=h.nlen;have:=h.elen;omega⟩
      · exact ⟨net0,4,e1,d,by simp [net0],by simp [net0]⟩
    · refine ⟨net0,8,?_,?_,by simp [net0],by simp [net0]⟩
      · unfold Ux;rw [Q9 (show ¬ (l.length : Int) > 400 by omega),Q5,(qd2 l a).1,qw b];rfl
      · unfold Uu;rw [Q9 (show ¬ (l.length : Int) > 400 by omega),Q5,(qd2 l a).2,qw b];rfl
  · refine ⟨net0,4,?_,?_,by simp [net0],by simp [net0]⟩
    · unfold Ux;rw [Q4 (show (l.length : Int) > 400 by omega)];rfl
    · unfold Uu;rw [Q4 (show (l.length : Int) > 400 by omega)];rfl
end Go.Sh
namespace Go.Sh
open Go Go.Am
open Classical
noncomputable def qn4 (n : K5) (e : qm) : Q6:={A:=(n.Nodes[e.A.toNat]?).getD default,B:=(n.Nodes[e.B.toNat]?).getD default}
def eOk (n : K5) (e : qm) : Prop:=(0≤e.A∧e.A < n.Nodes.length)∧(0≤e.B∧e.B < n.Nodes.length)∧SegV (qn4 n e)
noncomputable def qqb (n : K5) : List Q6 × Bool:=if ∀ e∈n.Edges,eOk n e then (n.Edges.map (qn4 n),true) else ([],false)
end Go.Sh
namespace Go.Sh
open Go Go.Am
open Classical
structure qhj (n : K5) (l : List Q6) : Prop where
  drawn : qqb n = (l,true)
  len : l.length = n.Edges.length
  le : n.Edges.length≤400
  val : ∀ s∈l,SegV s
  net : q2t (rowP l) (colP l) n
def Fit (n : K5) : Prop:=(n.Nodes.length≤100000∧n.Edges.length≤1000)∧(n.Edges.length≤400∨400 < n.Nodes.length∨800 < n.Edges.length)
end Go.Sh
namespace Go.Sh
open Go Go.Am
open Classical
def Zv (s : Q6) (p : qc) : Prop:=(min s.A.X s.B.X≤p.X∧p.X≤max s.A.X s.B.X)∧min s.A.Y s.B.Y≤p.Y∧p.Y≤max s.A.Y s.B.Y
theorem qut (s : Q6) (p : qc) : qno s p = some (decide (Zv s p)):=by
  unfold qno;by_cases h : Zv s p
  · rw [Q4 h];obtain ⟨⟨c,a⟩,d,b⟩:=h;rw [Q4 c,Q7,Q4 a,Q4 d,Q4 b];rfl
  · rw [Q9 h];unfold Zv at h;by_cases c : min s.A.X s.B.X≤p.X <;> by_cases a : p.X≤max s.A.X s.B.X <;> by_cases d : min s.A.Y s.B.Y≤p.Y <;> by_cases b : p.Y≤max s.A.Y s.B.Y
    all_goals first | (exfalso;exact h ⟨⟨c,a⟩,d,b⟩) | (simp only [c,a,d,b,decide_true,decide_false,Q7,Q5,qo])
theorem qy5 (s : Q6) (p : qc) : q6b s p = some (decide (Zv s p)):=qut s p
end Go.Sh
namespace Go.Sh
open Go Go.Am
open Classical
section
variable {F G : Int→Int→Prop} {N : List qc}
def b2i (b : Bool) : Nat:=cond b 1 0
end
end Go.Sh
namespace Go.Sh
open Go Go.Am
open Classical
def b2z (b : Bool) : Int:=cond b 1 0
theorem b2 (b : Bool) : ((b2i b : Nat) : Int) = b2z b:=by cases b <;> rfl
end Go.Sh
namespace Go.Sh
open Go Go.Am
open Classical
section
variable {F G : Int→Int→Prop} {n : K5}
structure Bnd (F G : Int→Int→Prop) : Prop where
  row : ∀ y x,F y x→-1000000≤x∧x≤1000000
  col : ∀ x y,G x y→-1000000≤y∧y≤1000000
  pt : ∀ x y,Yb F G x y→PtB {X:=x,Y:=y}
end
end Go.Sh
namespace Go.Sh
open Go Go.Am
open Classical
theorem qf7 {α β : Type} {f : α→List β} {c : Nat} : ∀ {l : List α},(∀ x∈l,(f x).length = c)→(l.flatMap f).length = l.length * c
  | [],_=>by simp
  | a::l,h=>by
    rw [List.flatMap_cons,List.length_append,h a qe,qf7 (l:=l) fun x b=>h x (by simp [b]),List.length_cons,Nat.succ_mul]
    omega
end Go.Sh
namespace Go.Sh
open Go Go.Am
open Classical
theorem qry {F G : Int→Int→Prop} {n : K5} (h : q2t F G n) (a : n.Edges.length≤400) : Fit n:=⟨⟨by have:=h.nlen;omega,q8⟩,.inl a⟩
theorem qhj.fit {n : K5} {l : List Q6} (h : qhj n l) : Fit n:=qry h.net h.le
end Go.Sh
namespace Go.Sh
open Go Go.Am
open Classical
end Go.Sh
namespace Go.Sh
open Go Go.Am
instance (a b : qm) : Decidable (ltG a b):=by unfold ltG;exact inferInstance
def ptB (p : qc) : Bool:=decide (-1000000≤p.X) && decide (p.X≤1000000) && decide (-1000000≤p.Y) && decide (p.Y≤1000000)
end Go.Sh
namespace Go.Sh
open Go Go.Am
open Classical
theorem qcq (p : qc) : q2y p = some (decide (PtB p)):=by
  unfold q2y;by_cases h : PtB p
  · have a:=h;unfold PtB at a;rw [Q4 h,Qb q8,Qb q8,Q4 (show max (max (max p.X (0 - p.X)) p.Y) (0 - p.Y)≤1000000 by omega),Q7,Q4 (show min p.X p.Y ≥ -1000000 by omega)];rfl
  · have a:=h;unfold PtB at a;rw [Q9 h];by_cases b : (max (max (max p.X (w64 (0 - p.X))) p.Y) (w64 (0 - p.Y)))≤1000000
    · rw [Q4 b,Q7,Q9 (show ¬ min p.X p.Y ≥ -1000000 by omega)];rfl
    · rw [Q9 b];rfl
def dirs : List qc:=[{X:=1,Y:=0},{X:=0,Y:=1},{X:=(-1),Y:=0},{X:=0,Y:=(-1)}]
theorem qq7 {h : Nat} {d : qc} (b : h < 4) (hd : dirs[h]? = some d) : q99 dirs d = some (h : Int):=by
  have nx : ∀ (d : qc) (k : Nat) (e : qc),dirs[k]? = some e→k < 4→e≠d→q2k dirs d (k : Int) = some (.inl ((k + 1 : Nat) : Int)):=by
    intro d k e c hk f;unfold q2k;rw [Q4 (show (k : Int) < (dirs.length : Int) by have : dirs.length = 4:=rfl;omega),Q7];have : idx dirs (k : Int) = some e:=by unfold idx;simp [c]
    rw [this,qo,beqP,Q9 (fun h=>f h.symm),Q5,Qb q8];rfl
  have fd : ∀ (d : qc) (k : Nat),dirs[k]? = some d→k < 4→q2k dirs d (k : Int) = some (.inr (.inr (k : Int))):=by
    intro d k c hk;unfold q2k;rw [Q4 (show (k : Int) < (dirs.length : Int) by have : dirs.length = 4:=rfl;omega),Q7];have : idx dirs (k : Int) = some d:=by unfold idx;simp [c]
    rw [this,qo,beqP,Q4 rfl,Q7]
  have key : loop (q2k dirs d) ((0 : Nat) : Int) = some (.inr (h : Int)):=by
    have : h = 0∨h = 1∨h = 2∨h = 3:=by omega
    rcases this with rfl | rfl | rfl | rfl
    · exact Kj (fd d 0 hd b)
    · cases hd;rw [Y4 (nx _ 0 _ rfl q8 Q3)];exact Kj (fd _ 1 rfl b)
    · cases hd;rw [Y4 (nx _ 0 _ rfl q8 Q3),Y4 (nx _ 1 _ rfl q8 Q3)];exact Kj (fd _ 2 rfl b)
    · cases hd;rw [Y4 (nx _ 0 _ rfl q8 Q3),Y4 (nx _ 1 _ rfl q8 Q3),Y4 (nx _ 2 _ rfl q8 Q3)];exact Kj (fd _ 3 rfl b)
  have a : loop (q2k dirs d) 0 = some (.inr (h : Int)):=key;unfold q99;rw [a];rfl
end Go.Sh
namespace Go.Sh
open Go Go.Am
open Classical
structure Yf (v : Qx) : Prop where
  kind : 1≤v.Kind∧v.Kind≤4
  at_ : PtB v.At
  weight : 1≤v.Weight∧v.Weight≤1000000
  reach : 0≤v.Reach∧v.Reach≤1000000
noncomputable def Uf (l : List Qx) : Int:=if 60 < l.length then 4 else if ∀ v∈l,Yf v then 0 else 8
theorem qm4 (v : Qx) : ((cond (decide (v.Kind < 1)) (some true) (some (decide (v.Kind > 4)))).bind fun f=>(cond f (some true) ((q2y v.At).bind fun d=>some (!d))).bind fun j=>(cond j (some true) (some (decide (v.Weight < 1)))).bind fun m=>(cond m (some true) (some (decide (v.Weight > 1000000)))).bind fun k=>(cond k (some true) (some (decide (v.Reach < 0)))).bind fun l=>(cond l (some true) (some (decide (v.Reach > 1000000))))) = some (!decide (Yf v)):=by
  rw [qcq];by_cases b : v.Kind < 1
  · simp [b];exact fun h=>by have:=h.kind;omega
  by_cases c : v.Kind > 4
  · simp [b,c];exact fun h=>by have:=h.kind;omega
  by_cases a : PtB v.At
  case neg=>simp [b,c,a];exact fun h=>a h.at_
  by_cases g : v.Weight < 1
  · simp [b,c,a,g];exact fun h=>by have:=h.weight;omega
  by_cases n : v.Weight > 1000000
  · simp [b,c,a,g,n];exact fun h=>by have:=h.weight;omega
  by_cases o : v.Reach < 0
  · simp [b,c,a,g,n,o];exact fun h=>by have:=h.reach;omega
  by_cases p : v.Reach > 1000000
  · simp [b,c,a,g,n,o,p];exact fun h=>by have:=h.reach;omega
  · simp [b,c,a,g,n,o,p];exact ⟨q8,a,q8,q8⟩
theorem qib {f : Int→Option (Int ⊕ (Unit ⊕ Int))} {l : List Qx} (m : l.length≤1000)
    (hs : ∀ k (hk : k < l.length),f (k : Int) = if Yf l[k] then some (.inl (w64 ((k : Int) + 1))) else some (.inr (.inr 8))) (hd : f (l.length : Int) = some (.inr (.inl ()))) : loop f 0 = some (if ∀ v∈l,Yf v then .inl () else .inr 8):=by
  have:=Ky (f:=f) (σ:=Unit) (fun k _=>(k : Int)) l.length (fun k _=>∀ i (hi : i < l.length),i < k→Yf l[i]) (fun o=>o = if ∀ v∈l,Yf v then .inl () else .inr 8) ?_ ?_ (k0:=0) (c0:=()) q8 (fun i hi h=>q8)
  · obtain ⟨b,g,rfl⟩:=this;exact g
  · rintro k _ hk c;have:=hs k hk;by_cases a : Yf l[k]
    · rw [qx a,Qb q8] at this;refine .inl ⟨(),by rw [this];rfl,fun i hi j=>?_⟩;by_cases e : i = k
      · subst e;exact a
      · exact c i hi q8
    · rw [qw a] at this;exact .inr ⟨_,this,by rw [qw (fun h=>a (h _ (Ks hk)))]⟩
  · rintro _ c;refine ⟨_,hd,?_⟩;rw [qx];intro s d;obtain ⟨i,hi,rfl⟩:=List.mem_iff_getElem.1 d;exact c i hi hi
theorem qja (l : List Qx) : q3y l = some (Uf l):=by
  unfold q3y Uf;by_cases h : 60 < l.length
  · rw [Q4 (show (l.length : Int) > 60 by omega),qx h];rfl
  · rw [Q9 (show ¬ (l.length : Int) > 60 by omega),qw h,Q5,qib (l:=l) q8 (fun k hk=>?_) (by simp only [q7z,dnl',Q5])]
    · by_cases b : ∀ v∈l,Yf v
      · rw [qx b,qx b];rfl
      · rw [qw b,qw b];rfl
    · have hp:=qm4 l[k];simp only [q7z,dlt' hk,Q7,K0 hk,qo];simp only [← Option.bind_assoc] at hp ⊢;rw [hp];by_cases a : Yf l[k]
      · rw [qx a,Q4 a];rfl
      · rw [qw a,Q9 a];rfl
theorem qy6 (l : List Qx) : q66 l = some (Uf l):=by
  unfold q66 Uf;by_cases h : 60 < l.length
  · rw [Q4 (show (l.length : Int) > 60 by omega),qx h];rfl
  · rw [Q9 (show ¬ (l.length : Int) > 60 by omega),qw h,Q5,qib (l:=l) q8 (fun k hk=>?_) (by simp only [q8w,dnl',Q5])]
    · by_cases b : ∀ v∈l,Yf v
      · rw [qx b,qx b];rfl
      · rw [qw b,qw b];rfl
    · have hp:=qm4 l[k];rw [qcq,← q96] at hp;simp only [q8w,dlt' hk,Q7,K0 hk,qo];simp only [← Option.bind_assoc] at hp ⊢;rw [hp];by_cases a : Yf l[k]
      · rw [qx a,Q4 a];rfl
      · rw [qw a,Q9 a];rfl
end Go.Sh
namespace Go.Sh
open Go Go.Am
open Classical
def absI (a : Int) : Int:=max a (0 - a)
def sgn (k dx dy : Int) : Int:=if k = 1 then 1 else if k = 2 then -1 else if k = 3 then (if dy > dx then 1 else if dy < dx then -1 else 0) else (if dy > dx then -1 else if dy < dx then 1 else 0)
def q2e (v : Qx) (p : qc) : Int:=if max (absI (p.X - v.At.X)) (absI (p.Y - v.At.Y)) > v.Reach then 0 else sgn v.Kind (absI (p.X - v.At.X)) (absI (p.Y - v.At.Y)) * (v.Weight * (v.Reach + 1 - max (absI (p.X - v.At.X)) (absI (p.Y - v.At.Y))))
theorem qgu (k a b : Int) : sgn k a b = 1∨sgn k a b = -1∨sgn k a b = 0:=by
  unfold sgn
  repeat' split
  all_goals simp
theorem qgc {w t : Int} (b : 1≤w∧w≤1000000) (a : 0≤t∧t≤1000001) : 0≤w * t∧w * t≤1000001000000:=by
  have:=Int.mul_le_mul b.2 a.2 a.1 q8;exact ⟨Int.mul_nonneg q8 a.1,q8⟩
theorem qdf {v : Qx} (h : Yf v) {p : qc} (hp : PtB p) : -1000001000000≤q2e v p∧q2e v p≤1000001000000:=by
  unfold q2e;split
  · omega
  · rename_i a;have hd : 0≤max (absI (p.X - v.At.X)) (absI (p.Y - v.At.Y)):=by unfold absI;omega
    have:=qgc h.weight (t:=v.Reach + 1 - max (absI (p.X - v.At.X)) (absI (p.Y - v.At.Y))) (by have:=h.reach;omega);rcases qgu v.Kind (absI (p.X - v.At.X)) (absI (p.Y - v.At.Y)) with e | e | e <;> rw [e] <;> omega
def sumV (p : qc) : List Qx→Int
  | []=>0
  | v::l=>q2e v p + sumV p l
theorem qns (p : qc) (a b : List Qx) : sumV p (a ++ b) = sumV p a + sumV p b:=by
  induction a with
  | nil=>simp [sumV]
  | cons s a ih=>simp only [List.cons_append,sumV,ih];omega
theorem qh7 {p : qc} (hp : PtB p) : ∀ {l : List Qx},(∀ v∈l,Yf v)→-1000001000000 * (l.length : Int)≤sumV p l∧sumV p l≤1000001000000 * (l.length : Int)
  | [],_=>by simp [sumV]
  | v::l,h=>by
    have:=qdf (h v qe) hp
    have:=qh7 hp (l:=l) fun t a=>h t (by simp [a])
    simp only [sumV,List.length_cons];omega
theorem qc2 {a b : Int} (c : -1000000≤a∧a≤1000000) (hb : -1000000≤b∧b≤1000000) : (max (w64 (a - b)) (w64 (0 - (w64 (a - b))))) = absI (a - b):=by
  rw [Qb (x:=a - b) q8,Qb q8];rfl
theorem qxi (k b a : Int) (hk : 1≤k∧k≤4) : (cond (k == 1) (some (1 : Int)) (cond (k == 2) (some (-1)) ((cond ((k == 3) == (decide (a > b))) (some (b != a)) (some false)).bind fun f=>cond f (some 1) (cond (b != a) (some (-1)) (some 0))))) = some (sgn k b a):=by
  have g : (b != a) = !decide (b = a):=by rw [bne,beqI]
  rw [g,beqI,beqI,beqI];unfold sgn;have : k = 1∨k = 2∨k = 3∨k = 4:=by omega
  rcases this with rfl | rfl | rfl | rfl
  · simp
  · simp
  · by_cases c : a > b
    · have : ¬ b = a:=by omega
      simp [c,this]
    · by_cases d : a < b
      · have : ¬ b = a:=by omega
        simp [c,d,this]
      · have : b = a:=by omega
        simp [c,d,this]
  · by_cases c : a > b
    · have : ¬ b = a:=by omega
      simp [c,this]
    · by_cases d : a < b
      · have : ¬ b = a:=by omega
        simp [c,d,this]
      · have : b = a:=by omega
        simp [c,d,this]
theorem qs5 {l : List Qx} (hl : l.length≤60) (u : ∀ v∈l,Yf v) {p : qc} (hp : PtB p) : q80 l p = some (sumV p l):=by
  have hp':=hp;unfold PtB at hp';have:=Ky (f:=q3z l p) (σ:=Int) (fun k a=>((k : Int),a)) l.length (fun k a=>a = sumV p (l.take k)) (fun a=>a = sumV p l) ?_ ?_ (k0:=0) (c0:=0) q8 (by simp [sumV])
  · obtain ⟨b,r,rfl⟩:=this;have r : loop (q3z l p) (0,0) = some (sumV p l):=r;unfold q80;rw [r];rfl
  · rintro k a hk rfl;have c:=u _ (Ks hk);have q:=c.at_;unfold PtB at q
    have e1 : sumV p (l.take (k + 1)) = sumV p (l.take k) + q2e l[k] p:=by
      rw [List.take_succ_eq_append_getElem hk,qns];simp [sumV]
    have hb:=qh7 hp (l:=l.take k) fun v h=>u v (List.mem_of_mem_take h);have o : (l.take k).length = k:=by simp;omega
    rw [o] at hb;have g:=qdf c hp;refine .inl ⟨sumV p (l.take (k + 1)),?_,rfl⟩;simp only [q3z,dlt' hk,Q7,K0 hk,qo];rw [qc2 q8 q8,qc2 q8 q8,e1];generalize j : absI (p.X - l[k].At.X) = dx;generalize m : absI (p.Y - l[k].At.Y) = dy;have aa : 0≤dx∧0≤dy:=by rw [← j,← m];unfold absI;omega
    unfold q2e at g ⊢;rw [j,m] at g ⊢;by_cases n : max dx dy > l[k].Reach
    · rw [Q4 n,Q7,qx n,qo,Qb q8,Int.add_zero];rfl
    · rw [qw n] at g;rw [Q9 n,Q5,qw n,qxi _ _ _ c.kind];simp only [qo];have w:=c.weight;have y:=c.reach;have z:=qgc w (t:=l[k].Reach + 1 - max dx dy) q8;rw [Qb (x:=l[k].Reach + 1) q8,Qb (x:=l[k].Reach + 1 - max dx dy) q8];have hs : w64 (sgn l[k].Kind dx dy * l[k].Weight) = sgn l[k].Kind dx dy * l[k].Weight:=Qb (by rcases qgu l[k].Kind dx dy with e | e | e <;> rw [e] <;> omega);rw [hs];have d : sgn l[k].Kind dx dy * l[k].Weight * (l[k].Reach + 1 - max dx dy) = sgn l[k].Kind dx dy * (l[k].Weight * (l[k].Reach + 1 - max dx dy)):=Int.mul_assoc _ _ _;rw [d]
      have s : -1000001000000≤sgn l[k].Kind dx dy * (l[k].Weight * (l[k].Reach + 1 - max dx dy))∧sgn l[k].Kind dx dy * (l[k].Weight * (l[k].Reach + 1 - max dx dy))≤1000001000000:=by
        rcases qgu l[k].Kind dx dy with e | e | e <;> rw [e] <;> omega
      rw [Qb (x:=sgn l[k].Kind dx dy * (l[k].Weight * (l[k].Reach + 1 - max dx dy))) q8,Qb (x:=sumV p (l.take k) + _) q8,Qb q8];rfl
  · rintro a rfl;exact ⟨_,by simp only [q3z,dnl',Q5];rfl,by rw [List.take_length]⟩
end Go.Sh
namespace Go.Sh
open Go Go.Am
open Classical
theorem qyx {v : Qx} (h : Yf v) {p : qc} (hp : PtB p) : q90 v p = some (q2e v p):=by
  have hp':=hp;have j:=h.at_;unfold PtB at hp' j;have hb:=qdf h hp;unfold q90 q91;simp only [qo];rw [qc2 q8 q8,qc2 q8 q8];unfold q2e at hb ⊢;generalize g : absI (p.X - v.At.X) = dx at hb ⊢;generalize d : absI (p.Y - v.At.Y) = dy at hb ⊢;have m : 0≤dx∧0≤dy:=by rw [← g,← d];unfold absI;omega
  by_cases c : max dx dy > v.Reach
  · rw [Q4 c,Q7,qx c]
  · rw [qw c] at hb ⊢;rw [Q9 c,Q5];have k:=h.weight;have l:=h.reach;have f:=qgc k (t:=v.Reach + 1 - max dx dy) q8;rw [Qb (x:=v.Reach + 1) q8,Qb (x:=v.Reach + 1 - max dx dy) q8,Qb (x:=v.Weight * (v.Reach + 1 - max dx dy)) q8];generalize v.Weight * (v.Reach + 1 - max dx dy) = z at hb f ⊢;rw [Qb (x:=0 - z) q8];have hk:=h.kind;have : v.Kind = 1∨v.Kind = 2∨v.Kind = 3∨v.Kind = 4:=by omega
    unfold sgn;rcases this with e | e | e | e
    · rw [e];by_cases b : dy > dx <;> by_cases a : dy < dx <;> simp [b,a]
    · rw [e];by_cases b : dy > dx <;> by_cases a : dy < dx <;> simp [b,a]
    · rw [e];by_cases b : dy > dx
      · have a : ¬ dy < dx:=by omega
        simp [b,a];rw [Qb q8]
      · by_cases a : dy < dx
        · simp [b,a];rw [Qb q8]
        · simp [b,a];rfl
    · rw [e];by_cases b : dy > dx
      · have a : ¬ dy < dx:=by omega
        simp [b,a];rw [Qb q8]
      · by_cases a : dy < dx
        · simp [b,a];rw [Qb q8]
        · simp [b,a];rfl
theorem qz4 {l : List Qx} (n : l.length≤60) (j : ∀ v∈l,Yf v) {p : qc} (hp : PtB p) : q8z l p = some (sumV p l):=by
  have:=Ky (f:=q4c l p) (σ:=Int) (fun k a=>(a,(k : Int))) l.length (fun k a=>a = sumV p (l.take k)) (fun a=>a = sumV p l) ?_ ?_ (k0:=0) (c0:=0) q8 (by simp [sumV])
  · obtain ⟨b,g,rfl⟩:=this;have g : loop (q4c l p) (0,0) = some (sumV p l):=g;unfold q8z;rw [g];rfl
  · rintro k a hk rfl;have c:=j _ (Ks hk)
    have e1 : sumV p (l.take (k + 1)) = sumV p (l.take k) + q2e l[k] p:=by
      rw [List.take_succ_eq_append_getElem hk,qns];simp [sumV]
    have hb:=qh7 hp (l:=l.take k) fun v h=>j v (List.mem_of_mem_take h);have d : (l.take k).length = k:=by simp;omega
    rw [d] at hb;have m:=qdf c hp;refine .inl ⟨sumV p (l.take (k + 1)),?_,rfl⟩;simp only [q4c,dlt' hk,Q7,K0 hk,qo,qyx c hp];rw [Qb q8,Qb q8,e1];rfl
  · rintro a rfl;exact ⟨_,by simp only [q4c,dnl',Q5];rfl,by rw [List.take_length]⟩
def Jg (l : List Qx) (p : qc) : Nat:=if sumV p l > 0 then 0 else if sumV p l < 0 then 1 else 2
theorem qi0 {l : List Qx} (c : l.length≤60) (b : ∀ v∈l,Yf v) {p : qc} (hp : PtB p) : q5j l p = some (Jg l p : Int)∧q8v l p = some (Jg l p : Int):=by
  unfold q5j q8v Jg;rw [qs5 c b hp,qz4 c b hp];simp only [qo];by_cases a : sumV p l > 0
  · simp [a]
  · by_cases d : sumV p l < 0
    · simp [a,d]
    · simp [a,d]
end Go.Sh
namespace Go.Sh
open Go Go.Am
open Classical
def Kg (l : List Qx) (p : qc) (h : Nat) : Nat:=if Jg l p < 2∧h % 2≠Jg l p then (h + 1) % 4 else h
def dirV (h : Nat) : qc:=(dirs[h]?).getD {X:=0,Y:=0}
def goV (l : List Qx) (p : qc) (h : Nat) : qc:={X:=p.X + (dirV (Kg l p h)).X,Y:=p.Y + (dirV (Kg l p h)).Y}
theorem q5m {l : List Qx} {p : qc} {h : Nat} (a : h < 4) : Kg l p h < 4:=by unfold Kg;split <;> omega
theorem qit {h : Nat} (a : h < 4) : dirs[h]? = some (dirV h):=by
  have : h = 0∨h = 1∨h = 2∨h = 3:=by omega
  rcases this with rfl | rfl | rfl | rfl <;> rfl
theorem qis {h : Nat} (a : h < 4) : -1≤(dirV h).X∧(dirV h).X≤1∧-1≤(dirV h).Y∧(dirV h).Y≤1:=by
  have : h = 0∨h = 1∨h = 2∨h = 3:=by omega
  rcases this with rfl | rfl | rfl | rfl <;> decide
theorem qjy {a h : Nat} (g : h < 4) (f : a < 3) : ((cond (decide ((a : Int) < 2)) (some ((Int.tmod (h : Int) 2) != (a : Int))) (some false)).bind fun c=>(cond c (some (Int.tmod (IntKind.wrap .u8 ((h : Int) + 1)) 4)) (some (h : Int)))) = some (((if a < 2∧h % 2≠a then (h + 1) % 4 else h : Nat)) : Int):=by
  have b : h = 0∨h = 1∨h = 2∨h = 3:=by omega
  have d : a = 0∨a = 1∨a = 2:=by omega
  rcases b with rfl | rfl | rfl | rfl <;> rcases d with rfl | rfl | rfl <;> rfl
theorem qsj {l : List Qx} (b : l.length≤60) (a : ∀ v∈l,Yf v) {p : qc} (hp : PtB p) {h : Nat} (c : h < 4) : q8x l p (h : Int) = some (Kg l p h : Int):=by
  unfold q8x;rw [(qi0 b a hp).2,qo];exact qjy c (by unfold Jg;split <;> (try split) <;> omega)
theorem qof {p : qc} (hp : PtB p) {h : Nat} (b : h < 4) : q8u p (h : Int) = some {X:=p.X + (dirV h).X,Y:=p.Y + (dirV h).Y}:=by
  unfold PtB at hp;unfold q8u;have a : h = 0∨h = 1∨h = 2∨h = 3:=by omega
  rcases a with rfl | rfl | rfl | rfl
  · show (some (w64 (p.X + 1),p.Y)).bind _ = _;rw [Qb q8];show some _ = some _;congr 2;show p.Y = p.Y + 0;omega
  · show (some (p.X,w64 (p.Y + 1))).bind _ = _;rw [Qb q8];show some _ = some _;congr 2;show p.X = p.X + 0;omega
  · show (some (w64 (p.X - 1),p.Y)).bind _ = _;rw [Qb q8];show some _ = some _;congr 2;show p.Y = p.Y + 0;omega
  · show (some (p.X,w64 (p.Y - 1))).bind _ = _;rw [Qb q8];show some _ = some _;congr 2;show p.X = p.X + 0;omega
theorem q12k {l : List Qx} (o : l.length≤60) (n : ∀ v∈l,Yf v) {p : qc} (hp : PtB p) {h : Nat} (k : h < 4) : q5h l p (h : Int) 1 = some (if PtB (goV l p h) then ([p,goV l p h],0) else ([],16)):=by
  have hp':=hp;unfold PtB at hp';have m:=q5m (l:=l) (p:=p) k;have hd:=qit m;have f:=qis m
  have d : idxA 4 [({X:=1,Y:=0} : qc),({X:=0,Y:=1} : qc),({X:=(-1),Y:=0} : qc),({X:=0,Y:=(-1)} : qc)] (Kg l p h : Int) = some (dirV (Kg l p h)):=by
    unfold idxA;rw [qx q8,Int.toNat_natCast];exact hd
  have r:=qjy (a:=Jg l p) k (by unfold Jg;split <;> (try split) <;> omega)
  have j : q3y l = some 0:=by
    rw [qja];unfold Uf;rw [qw q8,qx n]
  have c0 : decide ((0 : Int) < 1) = true:=rfl;have e0 : ((0 : Int) != 0) = false:=rfl
  have s0 : q5i 1 l ((h : Int),0,p.X,p.Y,[p]) = if PtB (goV l p h) then some (.inl ((Kg l p h : Int),1,(goV l p h).X,(goV l p h).Y,[p,goV l p h])) else some (.inr (.inr ([],16))):=by
    unfold q5i;have q : q5j l ({X:=p.X,Y:=p.Y} : qc) = some (Jg l p : Int):=(qi0 o n hp).1;simp only [c0,Q7,q,qo];rw [← Option.bind_assoc,r,qo];have b:=d;unfold Kg at b ⊢;simp only [b,qo];have g : goV l p h = {X:=p.X + (dirV (if Jg l p < 2∧h % 2≠Jg l p then (h + 1) % 4 else h)).X,Y:=p.Y + (dirV (if Jg l p < 2∧h % 2≠Jg l p then (h + 1) % 4 else h)).Y}:=rfl;unfold Kg at f;rw [Qb (x:=p.X + _) q8,Qb (x:=p.Y + _) q8,← g,qcq,qo];by_cases c : PtB (goV l p h)
    · rw [Q4 c,qx c];rfl
    · rw [Q9 c,qw c];rfl
  unfold q5h;rw [j,qo,e0,Q5,qcq,Q4 hp,qo,Bool.not_true,Q5,qo,Q9 (show ¬ (h : Int) > 3 by omega),Q5,qo];have c1 : decide ((1 : Int) < 0) = false:=rfl;have c3 : decide ((1 : Int) > 500) = false:=rfl;rw [c1,Q5,qo,c3,Q5];by_cases c : PtB (goV l p h)
  · rw [qx c] at s0 ⊢;have s1 : q5i 1 l ((Kg l p h : Int),1,(goV l p h).X,(goV l p h).Y,[p,goV l p h]) = some (.inr (.inl [p,goV l p h])):=rfl;rw [Y4 s0,Kj s1];rfl
  · rw [qw c] at s0 ⊢;rw [Kj s0];rfl
end Go.Sh
namespace Go.Sh
open Go Go.Am
open Classical
def Run (s : Q6) (h : Nat) : Prop:=∃ m : Nat,1≤m∧s.B.X = s.A.X + m * (dirV h).X∧s.B.Y = s.A.Y + m * (dirV h).Y
theorem qmz {p : qc} {h : Nat} : Run {A:=p,B:={X:=p.X + (dirV h).X,Y:=p.Y + (dirV h).Y}} h:=⟨1,q8,qe,qe⟩
theorem qmy {s : Q6} {h : Nat} (c : Run s h) : Run {A:=s.A,B:={X:=s.B.X + (dirV h).X,Y:=s.B.Y + (dirV h).Y}} h:=by
  obtain ⟨m,d,b,a⟩:=c;refine ⟨m + 1,q8,?_,?_⟩
  · simp only [b,Int.natCast_add,Int.add_mul];omega
  · simp only [a,Int.natCast_add,Int.add_mul];omega
theorem q7t {h : Nat} (a : h < 4) : dirV h = {X:=1,Y:=0}∨dirV h = {X:=0,Y:=1}∨dirV h = {X:=-1,Y:=0}∨dirV h = {X:=0,Y:=-1}:=by
  have : h = 0∨h = 1∨h = 2∨h = 3:=by omega
  rcases this with rfl | rfl | rfl | rfl
  · exact .inl rfl
  · exact .inr (.inl rfl)
  · exact .inr (.inr (.inl rfl))
  · exact .inr (.inr (.inr rfl))
theorem quv {p : qc} {h : Nat} (a : h < 4) (z : qc) : Zv {A:=p,B:={X:=p.X + (dirV h).X,Y:=p.Y + (dirV h).Y}} z↔z = p∨z = {X:=p.X + (dirV h).X,Y:=p.Y + (dirV h).Y}:=by
  obtain ⟨b,c⟩:=z;obtain ⟨d,f⟩:=p;unfold Zv;simp only [qc.mk.injEq];rcases q7t a with e | e | e | e <;> rw [e] <;> simp only <;> omega
theorem quu {s : Q6} {h : Nat} (c : h < 4) (d : Run s h) (z : qc) : Zv {A:=s.A,B:={X:=s.B.X + (dirV h).X,Y:=s.B.Y + (dirV h).Y}} z↔Zv s z∨z = {X:=s.B.X + (dirV h).X,Y:=s.B.Y + (dirV h).Y}:=by
  obtain ⟨g,j⟩:=z;obtain ⟨⟨k,n⟩,⟨bx,f⟩⟩:=s;obtain ⟨m,l,a,b⟩:=d;unfold Zv;simp only [qc.mk.injEq] at a b ⊢;rcases q7t c with e | e | e | e <;> rw [e] at a b ⊢ <;> simp only at a b ⊢ <;> omega
end Go.Sh
namespace Go.Sh
open Go Go.Am
def onB (s : Q6) (z : qc) : Bool:=decide (min s.A.X s.B.X≤z.X) && decide (z.X≤max s.A.X s.B.X) && (decide (min s.A.Y s.B.Y≤z.Y) && decide (z.Y≤max s.A.Y s.B.Y))
def anyB (l : List Q6) (z : qc) : Bool:=l.any fun s=>onB s z
theorem qll {s : Q6} {z : qc} : onB s z = true↔Zv s z:=by
  simp only [onB,Zv,Bool.and_eq_true,decide_eq_true_eq]
theorem qhu {l : List Q6} {z : qc} : anyB l z = true↔∃ s∈l,Zv s z:=by
  simp only [anyB,List.any_eq_true,qll]
theorem qc6 (a b : List Q6) (z : qc) : anyB (a ++ b) z = (anyB a z || anyB b z):=by unfold anyB;rw [List.any_append]
theorem q64 {p : qc} : ptB p = true↔PtB p:=by
  simp only [ptB,PtB,Bool.and_eq_true,decide_eq_true_eq,and_assoc]
def ownN (own : List Q6) (go : Bool) (p q : qc) : List Q6:=match own.getLast? with
  | some s=>if go then own.dropLast ++ [{A:=s.A,B:=q}] else own ++ [{A:=p,B:=q}]
  | none=>[{A:=p,B:=q}]
theorem qga (go : Bool) (p q : qc) : ownN [] go p q = [{A:=p,B:=q}]:=rfl
theorem q49 (a : List Q6) (s : Q6) (go : Bool) (p q : qc) : ownN (a ++ [s]) go p q = if go then a ++ [{A:=s.A,B:=q}] else a ++ [s] ++ [{A:=p,B:=q}]:=by
  simp [ownN]
abbrev J2 (p : qc) (h : Nat) : qc:={X:=p.X + (dirV h).X,Y:=p.Y + (dirV h).Y}
def rowQ (s : Q6) (y x : Int) : Prop:=s.A.Y = s.B.Y∧s.A.Y = y∧min s.A.X s.B.X≤x∧x < max s.A.X s.B.X
def colQ (s : Q6) (x y : Int) : Prop:=s.A.Y≠s.B.Y∧s.A.X = x∧min s.A.Y s.B.Y≤y∧y < max s.A.Y s.B.Y
theorem qrr {s : Q6} {h : Nat} (c : h < 4) (d : Run s h) (y x : Int) : rowQ {A:=s.A,B:=J2 s.B h} y x↔rowQ s y x∨rowQ {A:=s.B,B:=J2 s.B h} y x:=by
  obtain ⟨⟨g,k⟩,⟨bx,f⟩⟩:=s;obtain ⟨m,j,a,b⟩:=d;unfold rowQ;simp only at a b ⊢;rcases q7t c with e | e | e | e <;> rw [e] at a b ⊢ <;> simp only at a b ⊢ <;> omega
theorem qrp {s : Q6} {h : Nat} (c : h < 4) (d : Run s h) (x y : Int) : colQ {A:=s.A,B:=J2 s.B h} x y↔colQ s x y∨colQ {A:=s.B,B:=J2 s.B h} x y:=by
  obtain ⟨⟨g,k⟩,⟨bx,f⟩⟩:=s;obtain ⟨m,j,a,b⟩:=d;unfold colQ;simp only at a b ⊢;rcases q7t c with e | e | e | e <;> rw [e] at a b ⊢ <;> simp only at a b ⊢ <;> omega
theorem qn0 {s : Q6} {h : Nat} (d : h < 4) (f : Run s h) (c : PtB s.A) (hb : PtB s.B) : SegV s:=by
  rw [q6j];refine ⟨c,hb,?_⟩;obtain ⟨m,g,a,b⟩:=f;rcases q7t d with e | e | e | e <;> rw [e] at a b <;> simp only at a b <;> omega
structure q5a (own : List Q6) (h : Nat) (p : qc) : Prop where
  last : own = []∨∃ a s,own = a ++ [s]∧Run s h∧s.B = p
  val : ∀ s∈own,SegV s
theorem qw0 (h : Nat) (p : qc) : q5a [] h p:=⟨.inl rfl,fun s hs=>(by cases hs)⟩
structure qe5 (own own' : List Q6) (p q : qc) : Prop where
  on : ∀ z,(∃ s∈own',Zv s z)↔(∃ s∈own,Zv s z)∨z = p∨z = q
  row : ∀ y x,(∃ s∈own',rowQ s y x)↔(∃ s∈own,rowQ s y x)∨rowQ {A:=p,B:=q} y x
  col : ∀ x y,(∃ s∈own',colQ s x y)↔(∃ s∈own,colQ s x y)∨colQ {A:=p,B:=q} x y
theorem q21 {α : Type} {a : List α} {s : α} {P : α→Prop} : (∃ t∈a ++ [s],P t)↔(∃ t∈a,P t)∨P s:=by
  constructor
  · rintro ⟨t,c,h⟩;rcases List.mem_append.1 c with b | b
    · exact .inl ⟨t,b,h⟩
    · rw [List.mem_singleton] at b;subst b;exact .inr h
  · rintro (⟨t,b,h⟩ | h)
    · exact ⟨t,List.mem_append_left _ b,h⟩
    · exact ⟨s,qe,h⟩
theorem qls {own : List Q6} {h a : Nat} {p : qc} (c : a < 4) (d : q5a own h p) (hp : PtB p) (f : PtB (J2 p a)) : q5a (own ++ [{A:=p,B:=J2 p a}]) a (J2 p a)∧qe5 own (own ++ [{A:=p,B:=J2 p a}]) p (J2 p a):=by
  refine ⟨⟨.inr ⟨own,_,rfl,qmz,rfl⟩,fun s hs=>?_⟩,fun z=>?_,fun y x=>q21,fun x y=>q21⟩
  · rcases List.mem_append.1 hs with b | b
    · exact d.val s b
    · rw [List.mem_singleton] at b;subst b;exact qn0 c qmz hp f
  · rw [q21,quv c]
theorem qw1 {own : List Q6} {h c : Nat} {p : qc} (d : c < 4) (f : q5a own h p) (hp : PtB p) (j : PtB (J2 p c)) :
    q5a (ownN own (c == h) p (J2 p c)) c (J2 p c)∧qe5 own (ownN own (c == h) p (J2 p c)) p (J2 p c):=by
  rcases f.last with rfl | ⟨a,s,rfl,g,rfl⟩
  · rw [qga];exact qls d f hp j
  · rw [q49];by_cases e : c = h
    · subst e;rw [beq_self_eq_true,qx rfl];have hs:=f.val s qe;refine ⟨⟨.inr ⟨a,_,rfl,qmy g,rfl⟩,fun t k=>?_⟩,fun z=>?_,fun y x=>?_,fun x y=>?_⟩
      · rcases List.mem_append.1 k with b | b
        · exact f.val t (List.mem_append_left _ b)
        · rw [List.mem_singleton] at b;subst b;exact qn0 d (qmy g) ((q6j s).1 hs).1 j
      · rw [q21,q21,quu d g];have l : Zv s s.B:=by unfold Zv;omega
        constructor
        · rintro (b | b | b)
          · exact .inl (.inl b)
          · exact .inl (.inr b)
          · exact .inr (.inr b)
        · rintro ((b | b) | b | b)
          · exact .inl b
          · exact .inr (.inl b)
          · subst b;exact .inr (.inl l)
          · exact .inr (.inr b)
      · rw [q21,q21,qrr d g,or_assoc]
      · rw [q21,q21,qrp d g,or_assoc]
    · have : (c == h) = false:=by simpa using e
      rw [this,qw qe];exact qls d f hp j
def Zn (l : List Qx) (o : qc) : Nat→Nat→qc→List Q6→List Q6→Int × List Q6
  | 0,_,_,out,own=>(0,out ++ own)
  | n + 1,h,p,out,own=>
    if ptB (goV l p h) then
      if 400 < out.length + (ownN own (Kg l p h == h) p (goV l p h)).length then (4,[])
      else if decide (goV l p h = o) || anyB out (goV l p h) || anyB own (goV l p h) then (0,out ++ ownN own (Kg l p h == h) p (goV l p h))
      else Zn l o n (Kg l p h) (goV l p h) out (ownN own (Kg l p h == h) p (goV l p h))
    else (16,[])
def Zd (l : List Qx) : List Y2→List Q6→Int × List Q6
  | [],out=>(0,out)
  | w::ws,out=>if (Zn l w.At w.Steps.toNat w.Head.toNat w.At out []).1 = 0 then Zd l ws (Zn l w.At w.Steps.toNat w.Head.toNat w.At out []).2 else ((Zn l w.At w.Steps.toNat w.Head.toNat w.At out []).1,[])
end Go.Sh
namespace Go.Sh
open Go Go.Am
def q1v (vis : List (qc × Bool)) (segs : List Q6) : Prop:=∀ z,K7 false z vis = anyB segs z
theorem q12o : q1v [] []:=fun z=>rfl
theorem q12p {vis : List (qc × Bool)} {out own a : List Q6} {p q : qc} (h : q1v vis (out ++ own)) (f : qe5 own a p q) : q1v (Ke q true (Ke p true vis)) (out ++ a):=by
  intro z;have b:=f.on z;rw [← qhu,← qhu] at b;rw [q8f,q8f,qc6];have d:=h z;rw [qc6] at d;by_cases e1 : z = q
  · rw [qx e1,b.2 (.inr (.inr e1)),Bool.or_true]
  · rw [qw e1];by_cases c : z = p
    · rw [qx c,b.2 (.inr (.inl c)),Bool.or_true]
    · rw [qw c,d]
      have : anyB own z = anyB a z:=by
        cases j : anyB own z <;> cases g : anyB a z <;> simp_all
      rw [this]
theorem qs6 (l : List Qx) (p : qc) (h : Nat) : goV l p h = J2 p (Kg l p h):=rfl
theorem q131 {h : Nat} (a : h < 4) : IntKind.wrap .u8 (h : Int) = (h : Int):=by
  have : h = 0∨h = 1∨h = 2∨h = 3:=by omega
  rcases this with rfl | rfl | rfl | rfl <;> rfl
theorem ql6 (a b : Nat) : ((a : Int) == (b : Int)) = (a == b):=by
  cases h : (a == b)
  · simp only [beq_eq_false_iff_ne,ne_eq] at h ⊢;omega
  · simp only [beq_iff_eq] at h ⊢;omega
theorem qn6 {α : Type} (a : List α) (s t : α) (c : a.length≤1000) : idx (a ++ [s]) (w64 (((a ++ [s]).length : Int) - 1)) = some s∧(a ++ [s]).set (w64 (((a ++ [s]).length : Int) - 1)).toNat t = a ++ [t]:=by
  have b : w64 (((a ++ [s]).length : Int) - 1) = (a.length : Int):=by rw [Qb (by simp;omega)];simp
  rw [b,Int.toNat_natCast];exact ⟨by rw [K0 qe];simp,qe⟩
theorem qvz {own : List Q6} {go : Bool} {p q : qc} : own.length≤(ownN own go p q).length∧(ownN own go p q).length≤own.length + 1:=by
  rcases List.eq_nil_or_concat own with rfl | ⟨a,s,rfl⟩
  · exact ⟨qe,by rw [qga];simp⟩
  · rw [List.concat_eq_append,q49];cases go <;> simp
theorem q12s {l : List Qx} (hl : l.length≤60) (hv : ∀ v∈l,Yf v) (w : Y2) {h k : Nat} {p : qc} {out own : List Q6} {vis : List (qc × Bool)}
    (hh : h < 4) (hp : PtB p) (hk : (k : Int) < w.Steps) (aj : k≤1000) (z : own = []↔k = 0) (f : out.length + own.length≤400) :
    q2r w l ((h : Int),(k : Int),vis,out ++ own,p.X,p.Y) = if ptB (goV l p h) then
      (if 400 < out.length + (ownN own (Kg l p h == h) p (goV l p h)).length then some (.inr (.inr (4,vis,[])))
        else if (decide (goV l p h = w.At) || K7 false (goV l p h) vis) = true then some (.inr (.inl (Ke (goV l p h) true (Ke p true vis),out ++ ownN own (Kg l p h == h) p (goV l p h))))
        else some (.inl ((Kg l p h : Int),((k + 1 : Nat) : Int),Ke (goV l p h) true (Ke p true vis),out ++ ownN own (Kg l p h == h) p (goV l p h),(goV l p h).X,(goV l p h).Y)))
      else some (.inr (.inr (16,vis,[]))):=by
  have hH:=q5m (l:=l) (p:=p) hh;have hd:=qit hH;have hb:=qis hH;have ht:=q12k hl hv hp hh;have hp':=hp;unfold PtB at hp';have af : q5h l ({X:=p.X,Y:=p.Y} : qc) (h : Int) 1 = _:=ht;have hP : ({X:=p.X,Y:=p.Y} : qc) = p:=rfl;unfold q2r;simp only [Q4 hk,Q7,af];by_cases hq : PtB (goV l p h)
  case neg=>
    rw [qw hq,qw (fun h=>hq (q64.1 h))];rfl
  rw [qx hq,qx (q64.2 hq)];have e0 : ((0 : Int) != 0) = false:=rfl;have u : ∀ a b : qc,idx [a,b] 1 = some b:=fun a b=>rfl
  have hw : ({X:=w64 ((goV l p h).X - p.X),Y:=w64 ((goV l p h).Y - p.Y)} : qc) = dirV (Kg l p h):=by
    unfold goV;generalize dirV (Kg l p h) = d at hb ⊢;obtain ⟨a,b⟩:=d;simp only at hb ⊢;rw [Qb q8,Qb q8];simp only [qc.mk.injEq];omega
  have r:=qq7 hH hd;unfold dirs at r
  have ah : (cond (decide ((k : Int) > 0)) (some ((Kg l p h : Int) == (h : Int))) (some false)) = some (decide (0 < k) && (Kg l p h == h)):=by
    rw [ql6];by_cases g : 0 < k
    · rw [Q4 g,Q4 (show (k : Int) > 0 by omega)];rfl
    · rw [Q9 g,Q9 (show ¬ (k : Int) > 0 by omega)];rfl
  have aa : (cond (decide (0 < k) && (Kg l p h == h)) ((idx (out ++ own) (w64 (((out ++ own).length : Int) - 1))).bind fun j=>some (.inl ((out ++ own).set (w64 (((out ++ own).length : Int) - 1)).toNat ({A:=j.A,B:=goV l p h} : Q6)))) ((app 32 (out ++ own) [({A:=({X:=p.X,Y:=p.Y} : qc),B:=goV l p h} : Q6)]).bind fun c=>cond (decide ((c.length : Int) > 400)) (some (.inr (4,vis,[]))) (some (.inl c))) : Option ((List Q6) ⊕ (Int × (List (qc × Bool)) × List Q6))) =
      if 400 < out.length + (ownN own (Kg l p h == h) p (goV l p h)).length then some (.inr (4,vis,[])) else some (.inl (out ++ ownN own (Kg l p h == h) p (goV l p h))):=by
    have y : ∀ t : Q6,app 32 (out ++ own) [t] = some (out ++ (own ++ [t])):=by
      intro t;rw [Yh (by simp;omega),List.append_assoc]
    have o : ownN own (Kg l p h == h) p (goV l p h) = own ++ [{A:=p,B:=goV l p h}]→(decide (0 < k) && (Kg l p h == h)) = false→(cond (decide (0 < k) && (Kg l p h == h)) ((idx (out ++ own) (w64 (((out ++ own).length : Int) - 1))).bind fun j=>some (.inl ((out ++ own).set (w64 (((out ++ own).length : Int) - 1)).toNat ({A:=j.A,B:=goV l p h} : Q6)))) ((app 32 (out ++ own) [({A:=({X:=p.X,Y:=p.Y} : qc),B:=goV l p h} : Q6)]).bind fun c=>cond (decide ((c.length : Int) > 400)) (some (.inr (4,vis,[]))) (some (.inl c))) : Option ((List Q6) ⊕ (Int × (List (qc × Bool)) × List Q6))) =
      if 400 < out.length + (ownN own (Kg l p h == h) p (goV l p h)).length then some (.inr (4,vis,[])) else some (.inl (out ++ ownN own (Kg l p h == h) p (goV l p h))):=fun e g=>by
      rw [g,Q5,y,qo,e]
      by_cases q : 400 < out.length + (own ++ [({A:=p,B:=goV l p h} : Q6)]).length
      · rw [Q4 (by rw [List.length_append];omega),qx q];rfl
      · rw [Q9 (by rw [List.length_append];omega),qw q];rfl
    rcases List.eq_nil_or_concat own with m | ⟨a,s,m⟩
    · refine o (by rw [m];rfl) ?_
      rw [Q9 (by have:=z.1 m;omega),Bool.false_and]
    · rw [List.concat_eq_append] at m
      have ad : 0 < k:=by
        rcases Nat.eq_zero_or_pos k with h1 | h1
        · have:=z.2 h1;rw [m] at this;simp at this
        · exact h1
      by_cases n : (Kg l p h == h) = true
      · rw [n,Q4 ad,Bool.and_self,Q7,m,q49,qx rfl]
        have ag : (out ++ a).length≤1000:=by rw [m] at f;simp at f ⊢;omega
        obtain ⟨g1,g2⟩:=qn6 (out ++ a) s {A:=s.A,B:=goV l p h} ag
        rw [← List.append_assoc,g1,qo,g2]
        rw [qw (by rw [m] at f;simp at f ⊢;omega),List.append_assoc]
      · exact o (by rw [m,q49,qw n]) (by simp only [Bool.not_eq_true] at n;rw [n,Bool.and_false])
  simp only [qo,e0,Q5,u,hw,r,q131 hH,ah];rw [aa];by_cases q : 400 < out.length + (ownN own (Kg l p h == h) p (goV l p h)).length
  · rw [qx q,qx q];rfl
  · rw [qw q,qw q]
    have hc : (cond (K7 false (goV l p h) vis) (some true) (some (((goV l p h).X == w.At.X) && (((goV l p h).Y == w.At.Y) && true)))) = some (decide (goV l p h = w.At) || K7 false (goV l p h) vis):=by
      rw [beqP];cases K7 false (goV l p h) vis
      · rw [Bool.or_false];rfl
      · rw [Bool.or_true];rfl
    simp only [qo];rw [hc,qo,Qb (x:=(k : Int) + 1) q8];cases (decide (goV l p h = w.At) || K7 false (goV l p h) vis) <;> rfl
end Go.Sh
