/- St9 St10 St11 St12 St13 St14 St18 St13b St14b St15 St16 St17 St19 -/
import Derived.Test.YtgkialgkmjnfbaaGreatK13
namespace Go.Sh
open Go Go.Am
open Classical
section
variable {F G : Int→Int→Prop} {L M : List Kk}
def Yp (M : List Kk) (t : qh) : List Int:=[t.Lo,t.Hi] ++ (M.filter fun m=>decide (t.Lo < m.At∧m.At < t.Hi)).map (·.At)
theorem qlw {t : qh} {x : Int} : x∈Yp M t↔x = t.Lo∨x = t.Hi∨(t.Lo < x∧x < t.Hi∧∃ m∈M,m.At = x):=by
  simp only [Yp,List.mem_append,List.mem_cons,List.not_mem_nil,or_false,List.mem_map,List.mem_filter,decide_eq_true_eq];constructor
  · rintro ((h | h) | ⟨m,⟨b,a⟩,rfl⟩)
    · exact .inl h
    · exact .inr (.inl h)
    · exact .inr (.inr ⟨a.1,a.2,m,b,rfl⟩)
  · rintro (h | h | ⟨b,a,m,c,rfl⟩)
    · exact .inl (.inl h)
    · exact .inl (.inr h)
    · exact .inr ⟨m,⟨c,b,a⟩,rfl⟩
theorem qzn (l : M.length≤400) (t : qh) : loop (q98 M t) (0,[t.Lo,t.Hi]) = some (Yp M t):=by
  have:=Ku (f:=q98 M t) (σ:=List Int) (fun k c=>((k : Int),c)) M.length (fun k c=>c = Yp (M.take k) t∧c.length≤k + 2) (fun c=>c = Yp M t) ?_ ?_ (k0:=0) (c0:=[t.Lo,t.Hi]) q7 ⟨by simp [Yp],qb⟩
  · obtain ⟨b,j,rfl⟩:=this;exact j
  · rintro k c hk ⟨rfl,g⟩;have hb : decide ((k : Int) < (M.length : Int)) = true:=Q2 q7
    have a : Yp (M.take (k + 1)) t = Yp (M.take k) t ++ (if t.Lo < M[k].At∧M[k].At < t.Hi then [M[k].At] else []):=by
      unfold Yp;rw [List.take_succ_eq_append_getElem hk,List.filter_append,List.map_append,List.append_assoc];by_cases e : t.Lo < M[k].At∧M[k].At < t.Hi
      · simp [e]
      · simp [e]
    refine .inl ⟨Yp (M.take (k + 1)) t,?_,rfl,?_⟩
    · rw [a];simp only [q98,hb,Q1,Qu hk,qn];by_cases e1 : t.Lo < M[k].At
      · by_cases d : M[k].At < t.Hi
        · rw [Q0 ⟨e1,d⟩,Q2 (show M[k].At > t.Lo from e1),Q1,Q2 d,qn,Q1,Y9 (by simp;omega),Qb q7];rfl
        · rw [Q3 (fun h=>d h.2),Q2 (show M[k].At > t.Lo from e1),Q1,Q4 d,Qb q7,List.append_nil];rfl
      · rw [Q3 (fun h=>e1 h.1),Q4 (show ¬ M[k].At > t.Lo from e1),Qb q7,List.append_nil];rfl
    · rw [a];split <;> simp <;> omega
  · rintro c ⟨rfl,g⟩;have hb : decide ((M.length : Int) < (M.length : Int)) = false:=Q4 q7;exact ⟨_,by simp only [q98,hb,qz];rfl,by rw [List.take_length]⟩
theorem qrj (t : qh) : (Yp M t).length≤M.length + 2:=by
  have:=List.length_filter_le (fun m : Kk=>decide (t.Lo < m.At∧m.At < t.Hi)) M;simp only [Yp,List.length_append,List.length_map,List.length_cons,List.length_nil];omega
theorem qcg (h : Rep (asc M) G) : M.length≤400:=by have:=h.cnt;simpa [asc] using this
theorem qev (h : Rep (asc M) G) {m : Kk} (a : m∈M) : -1000000≤m.At∧m.At≤1000000:=h.key _ (List.mem_map.2 ⟨(m.At,m.Spans),List.mem_map.2 ⟨m,a,rfl⟩,rfl⟩)
theorem qiq (h : Rep (asc M) G) {m : Kk} (a : m∈M) {t : qh} (b : t∈m.Spans) : vld t:=(h.good m.At m.Spans (List.mem_map.2 ⟨m,a,rfl⟩)).1 t b
theorem JN.big {N : List qa} {S T : qa→Prop} (h : JN F G N S) (b : ¬ N.length≤400) : JN F G N T:=⟨h.srt,h.sub,fun a=>absurd a b,h.len⟩
def q3c (M : List Kk) (y : Int) (t : qh) (q : qa) : Prop:=q.Y = y∧q.X∈Yp M t
theorem qzo (n : Rep (asc L) F) (l : Rep (asc M) G) {i : Nat} (hi : i < L.length) {t : qh} (u : t∈L[i].Spans) (z : List qa) {N : List qa} {S : qa→Prop} (h : JN F G N S) :
    ∃ j,loop (q63 (Yp M t) L ((i : Int),z) M) (0,N) = some j∧JN F G j (fun q=>S q∨q3c M L[i].At t q):=by
  have hM:=qcg l;have hc:=qrj (M:=M) t;have y:=qiq n (Ke hi) u;have o:=qev n (Ke hi);obtain ⟨v1,v2,v3⟩:=y;have:=Ku (f:=q63 (Yp M t) L ((i : Int),z) M) (σ:=List qa) (fun k c=>((k : Int),c)) (Yp M t).length (fun k c=>JN F G c (fun q=>S q∨(q.Y = L[i].At∧q.X∈(Yp M t).take k))) (fun c=>JN F G c (fun q=>S q∨q3c M L[i].At t q)) ?_ ?_ (k0:=0) (c0:=N) q7 (h.congr fun p=>qb)
  · exact this
  · intro k c hk d;have hb : decide ((k : Int) < ((Yp M t).length : Int)) = true:=Q2 q7;by_cases w : c.length≤400
    · have r : -1000000≤(Yp M t)[k]∧(Yp M t)[k]≤1000000:=by
        rcases qlw.1 (Ke hk) with a | a | ⟨_,_,m,x,a⟩
        · omega
        · omega
        · rw [← a];exact qev l x
      obtain ⟨j,e,s,_,j2⟩:=qhf n l (p:={X:=(Yp M t)[k],Y:=L[i].At}) ⟨r.1,r.2,o.1,o.2⟩ d q7;refine .inl ⟨j,?_,s.congr ?_⟩
      · simp only [q63,hb,Q1,Q2 (show (c.length : Int)≤400 by omega),Qu hk,Qu hi,qn];rw [e,qn,Qb q7];rfl
      · rintro q (v | ⟨b,g⟩)
        · exact .inl (.inl v)
        · rw [List.take_succ_eq_append_getElem hk] at g;rcases List.mem_append.1 g with a | a
          · exact .inl (.inr ⟨b,a⟩)
          · rw [List.mem_singleton] at a;exact .inr (by rw [← a,← b])
    · refine .inr ⟨c,?_,d.big w⟩;simp only [q63,hb,Q1,Q4 (show ¬ (c.length : Int)≤400 by omega),qn,qz]
  · intro c d;have hb : decide (((Yp M t).length : Int) < ((Yp M t).length : Int)) = false:=Q4 q7;refine ⟨c,by simp only [q63,hb,qz,qn],?_⟩;rw [List.take_length] at d;exact d
theorem qzm (j : Rep (asc L) F) (d : Rep (asc M) G) {i : Nat} (hi : i < L.length) (z : List qa) {N : List qa} {S : qa→Prop} (h : JN F G N S) :
    ∃ a,loop (q97 L ((i : Int),z) M) (0,N) = some a∧JN F G a (fun q=>S q∨∃ t∈L[i].Spans,q3c M L[i].At t q):=by
  have m:=j.len _ _ (qcf hi);have:=Ku (f:=q97 L ((i : Int),z) M) (σ:=List qa) (fun k c=>((k : Int),c)) L[i].Spans.length (fun k c=>JN F G c (fun q=>S q∨∃ t∈L[i].Spans.take k,q3c M L[i].At t q)) (fun c=>JN F G c (fun q=>S q∨∃ t∈L[i].Spans,q3c M L[i].At t q)) ?_ ?_ (k0:=0) (c0:=N) q7 (h.congr fun p=>qb)
  · exact this
  · intro k c hk b;have hb : decide ((k : Int) < (L[i].Spans.length : Int)) = true:=Q2 q7;obtain ⟨a,e,l⟩:=qzo j d hi (Ke hk) z b;refine .inl ⟨a,?_,l.congr ?_⟩
    · simp only [q97,Qu hi,qn,hb,Q1,Qu hk,qzn (qcg d),e];rw [Qb q7];rfl
    · intro q g;rw [takeN hk,← or_assoc] at g;exact g
  · intro c b;have hb : decide ((L[i].Spans.length : Int) < (L[i].Spans.length : Int)) = false:=Q4 q7;refine ⟨c,by simp only [q97,Qu hi,qn,hb,qz],?_⟩;rw [List.take_length] at b;exact b
theorem qzl (d : Rep (asc L) F) (j : Rep (asc M) G) : ∃ N,loop (q96 L M) (0,[]) = some N∧JN F G N (fun q=>∃ l∈L,∃ t∈l.Spans,q3c M l.At t q):=by
  have m:=qcg d;have:=Ku (f:=q96 L M) (σ:=List qa) (fun k c=>((k : Int),c)) L.length (fun k c=>JN F G c (fun q=>∃ l∈L.take k,∃ t∈l.Spans,q3c M l.At t q)) (fun c=>JN F G c (fun q=>∃ l∈L,∃ t∈l.Spans,q3c M l.At t q)) ?_ ?_ (k0:=0) (c0:=[]) q7 ⟨.nil,fun p hp=>(by cases hp),fun _ q b=>by simp at b,qb⟩
  · exact this
  · intro k c hk a;have hb : decide ((k : Int) < (L.length : Int)) = true:=Q2 q7;obtain ⟨h,e,g⟩:=qzm d j hk c a;refine .inl ⟨h,?_,g.congr fun q b=>(takeN hk).1 b⟩;simp only [q96,hb,Q1,e,qn];rw [Qb q7];rfl
  · intro c a;have hb : decide ((L.length : Int) < (L.length : Int)) = false:=Q4 q7;refine ⟨c,by simp only [q96,hb,qz],?_⟩;rw [List.take_length] at a;exact a
def q55 (x : Int) (t : qh) (q : qa) : Prop:=q.X = x∧(q.Y = t.Lo∨q.Y = t.Hi)
theorem qzq (n : Rep (asc L) F) (d : Rep (asc M) G) {i : Nat} (hi : i < M.length) (z : List qa) {N : List qa} {S : qa→Prop} (h : JN F G N S) :
    ∃ m,loop (q64 M ((i : Int),z) L) (0,N) = some m∧JN F G m (fun q=>S q∨∃ t∈M[i].Spans,q55 M[i].At t q):=by
  have v:=d.len _ _ (qcf hi);have j:=qev d (Ke hi);have:=Ku (f:=q64 M ((i : Int),z) L) (σ:=List qa) (fun k c=>((k : Int),c)) M[i].Spans.length (fun k c=>JN F G c (fun q=>S q∨∃ t∈M[i].Spans.take k,q55 M[i].At t q)) (fun c=>JN F G c (fun q=>S q∨∃ t∈M[i].Spans,q55 M[i].At t q)) ?_ ?_ (k0:=0) (c0:=N) q7 (h.congr fun p=>qb)
  · exact this
  · intro k c hk g;have hb : decide ((k : Int) < (M[i].Spans.length : Int)) = true:=Q2 q7;by_cases l : c.length≤400
    · obtain ⟨v1,y,w⟩:=qiq d (Ke hi) (Ke hk);obtain ⟨N1,e1,r,_,l1⟩:=qhf n d (p:={X:=M[i].At,Y:=(M[i].Spans[k]).Lo}) ⟨j.1,j.2,by simp only;omega,by simp only;omega⟩ g q7;obtain ⟨o,u,s,_,l2⟩:=qhf n d (p:={X:=M[i].At,Y:=(M[i].Spans[k]).Hi}) ⟨j.1,j.2,by simp only;omega,by simp only;omega⟩ r q7;refine .inl ⟨o,?_,s.congr ?_⟩
      · simp only [q64,Qu hi,qn,hb,Q1,Q2 (show (c.length : Int)≤400 by omega),Qu hk];rw [← Option.bind_assoc (x:=q4f L M {X:=M[i].At,Y:=(M[i].Spans[k]).Lo}),e1,qn,u,qn,Qb q7];rfl
      · intro q a;rw [takeN hk] at a;rcases a with a | a | ⟨b,a | a⟩
        · exact .inl (.inl (.inl a))
        · exact .inl (.inl (.inr a))
        · exact .inl (.inr (by rw [← a,← b]))
        · exact .inr (by rw [← a,← b])
    · refine .inr ⟨c,?_,g.big l⟩;simp only [q64,Qu hi,qn,hb,Q1,Q4 (show ¬ (c.length : Int)≤400 by omega),qz]
  · intro c g;have hb : decide ((M[i].Spans.length : Int) < (M[i].Spans.length : Int)) = false:=Q4 q7;refine ⟨c,by simp only [q64,Qu hi,qn,hb,qz],?_⟩;rw [List.take_length] at g;exact g
theorem qzp (m : Rep (asc L) F) (d : Rep (asc M) G) {N : List qa} {S : qa→Prop} (h : JN F G N S) : ∃ a,loop (q99 M L) (0,N) = some a∧JN F G a (fun q=>S q∨∃ l∈M,∃ t∈l.Spans,q55 l.At t q):=by
  have n:=qcg d;have:=Ku (f:=q99 M L) (σ:=List qa) (fun k c=>((k : Int),c)) M.length (fun k c=>JN F G c (fun q=>S q∨∃ l∈M.take k,∃ t∈l.Spans,q55 l.At t q)) (fun c=>JN F G c (fun q=>S q∨∃ l∈M,∃ t∈l.Spans,q55 l.At t q)) ?_ ?_ (k0:=0) (c0:=N) q7 (h.congr fun p=>qb)
  · exact this
  · intro k c hk b;have hb : decide ((k : Int) < (M.length : Int)) = true:=Q2 q7;obtain ⟨a,e,j⟩:=qzq m d hk c b;refine .inl ⟨a,?_,j.congr fun q g=>?_⟩
    · simp only [q99,hb,Q1,e,qn];rw [Qb q7];rfl
    · rw [takeN hk,← or_assoc] at g;exact g
  · intro c b;have hb : decide ((M.length : Int) < (M.length : Int)) = false:=Q4 q7;refine ⟨c,by simp only [q99,hb,qz],?_⟩;rw [List.take_length] at b;exact b
theorem qzr (q : Rep (asc L) F) (g : Rep (asc M) G) : ∃ N,qh7 L M = some N∧N.Pairwise ltP∧(∀ p∈N,Kv F G p.X p.Y)∧(N.length≤400→Yg F G N)∧N.length≤402:=by
  obtain ⟨N1,e1,v⟩:=qzl q g;obtain ⟨s,z,d⟩:=qzp q g v;refine ⟨s,by unfold qh7;rw [e1,qn,z];rfl,d.srt,d.sub,fun u=>⟨d.srt,fun p=>⟨d.sub p,fun hp=>d.all u p ?_ hp⟩⟩,d.len⟩;rcases (qgo (r:={rows_:=asc L,columns_:=asc M}) q g p).2 hp with ⟨e,o,t,k,n,a⟩ | ⟨e,o,t,k,n,a,_⟩
  · obtain ⟨l,b,rfl⟩:=List.mem_map.1 o;refine .inl ⟨l,b,t,k,n,qlw.2 ?_⟩;rcases a with ⟨a | a,_⟩ | ⟨a,x,h⟩
    · exact .inl a
    · exact .inr (.inl a)
    · have f : p.X∈(asc M).map (·.1):=by rcases h with h | h <;> exact g.all _ _ h
      obtain ⟨c,y,j⟩:=List.mem_map.1 f;obtain ⟨m,w,rfl⟩:=List.mem_map.1 y;exact .inr (.inr ⟨a,x,m,w,j⟩)
  · obtain ⟨l,b,rfl⟩:=List.mem_map.1 o;exact .inr ⟨l,b,t,k,n,a⟩
end
end Go.Sh
namespace Go.Sh
open Go Go.Am
open Classical
section
variable {F G : Int→Int→Prop} {N : List qa}
structure Yz (N : List qa) (i k : Nat) : Prop where
  lt : i < k
  hk : k < N.length
  eq : ∀ (h1 : i < N.length) (h2 : k < N.length),N[k].X = N[i].X
  no : ∀ j (h1 : i < N.length) (h2 : j < N.length),i < j→j < k→N[j].X≠N[i].X
structure Z4 (N : List qa) (i k : Nat) : Prop where
  lt : i < k
  hk : k < N.length
  eq : ∀ (h1 : i < N.length) (h2 : k < N.length),N[k].Y = N[i].Y
  no : ∀ j (h1 : i < N.length) (h2 : j < N.length),i < j→j < k→N[j].Y≠N[i].Y
def q46 (F G : Int→Int→Prop) (N : List qa) (i k : Nat) : Prop:=∃ h : i < N.length,(Yz N i k∧G N[i].X N[i].Y)∨(Z4 N i k∧F N[i].Y N[i].X)
structure q3r (F G : Int→Int→Prop) (N : List qa) (E : List qj) : Prop where
  srt : E.Pairwise ltG
  mem : ∀ e,e∈E↔∃ i k : Nat,e = {A:=(i : Int),B:=(k : Int)}∧q46 F G N i k
theorem qmh {N M : List qa} (h : Yg F G N) (a : Yg F G M) : N = M:=qed q37 h.srt a.srt fun p=>by rw [h.mem,a.mem]
theorem qjw {D E : List qj} (h : q3r F G N D) (a : q3r F G N E) : D = E:=qed qlm h.srt a.srt fun p=>by rw [h.mem,a.mem]
theorem Ux (h : N.Pairwise ltP) {i j : Nat} (hi : i < N.length) (b : j < N.length) (a : i < j) : ltP N[i] N[j]:=List.pairwise_iff_getElem.1 h i j hi b a
theorem J4 (h : N.Pairwise ltP) {i j : Nat} (hi : i < N.length) (c : j < N.length) (a : ltP N[i] N[j]) : i < j:=by
  rcases Nat.lt_trichotomy i j with b | b | b
  · exact b
  · subst b;exact absurd a (q37 _ _ a)
  · exact absurd a (q37 _ _ (Ux h c hi b))
theorem qme (h : N.Pairwise ltP) {i k m : Nat} (c : Yz N i k) (b : Z4 N i m) : k < m:=by
  have hi : i < N.length:=by have:=c.lt;have:=c.hk;omega
  have a:=Ux h hi b.hk b.lt;have e1:=c.eq hi c.hk;have d:=b.eq hi b.hk;refine J4 h c.hk b.hk ?_;unfold ltP at *;omega
theorem Jr {f : Int→Prop} {lo : Int} : ∀ (n : Nat),(∀ x,lo < x→x≤lo + n→(f x↔f (x - 1)))→(f lo↔f (lo + n))
  | 0,_=>by simp
  | n + 1,h=>by
    rw [Jr n fun x a b=>h x a q7,h (lo + ((n + 1 : Nat) : Int)) q7 q7]
    have : lo + ((n + 1 : Nat) : Int) - 1 = lo + (n : Int):=by omega
    rw [this]
theorem q5s {x y : Int} (h : ¬ Kv F G x y) : F y x↔F y (x - 1):=by
  by_cases e : F y x <;> by_cases w : F y (x - 1) <;> by_cases n : G x y <;> by_cases s : G x (y - 1) <;> simp [Kv,q38,e,w,n,s] at h ⊢
theorem q5r {x y : Int} (h : ¬ Kv F G x y) : G x y↔G x (y - 1):=by
  by_cases e : F y x <;> by_cases w : F y (x - 1) <;> by_cases n : G x y <;> by_cases s : G x (y - 1) <;> simp [Kv,q38,e,w,n,s] at h ⊢
theorem qo4 (b : Yg F G N) {i k : Nat} (h : Z4 N i k) (hi : i < N.length) : F N[i].Y N[i].X↔F N[i].Y ((N[k]'h.hk).X - 1):=by
  have a:=Ux b.srt hi h.hk h.lt;have e:=h.eq hi h.hk;have j : N[i].X < (N[k]'h.hk).X:=by unfold ltP at a;omega
  obtain ⟨n,l⟩ : ∃ n : Nat,(N[k]'h.hk).X - 1 = N[i].X + n:=⟨((N[k]'h.hk).X - 1 - N[i].X).toNat,q7⟩
  have : ((N[k]'h.hk).X - 1) = N[i].X + n:=l;rw [this];refine Jr (f:=F N[i].Y) n fun x q p=>?_;refine q5s (G:=G) fun c=>?_;obtain ⟨m,d,g⟩:=List.mem_iff_getElem.1 ((b.mem {X:=x,Y:=N[i].Y}).2 c);have ex : N[m].X = x:=by rw [g]
  have o : N[m].Y = N[i].Y:=by rw [g]
  refine h.no m hi d (J4 b.srt hi d ?_) (J4 b.srt d h.hk ?_) o
  · unfold ltP;omega
  · unfold ltP;omega
theorem qjc (b : Yg F G N) {i k : Nat} (h : Yz N i k) (hi : i < N.length) : G N[i].X N[i].Y↔G N[i].X ((N[k]'h.hk).Y - 1):=by
  have a:=Ux b.srt hi h.hk h.lt;have e:=h.eq hi h.hk;have j : N[i].Y < (N[k]'h.hk).Y:=by unfold ltP at a;omega
  obtain ⟨n,l⟩ : ∃ n : Nat,(N[k]'h.hk).Y - 1 = N[i].Y + n:=⟨((N[k]'h.hk).Y - 1 - N[i].Y).toNat,q7⟩
  have : ((N[k]'h.hk).Y - 1) = N[i].Y + n:=l;rw [this];refine Jr (f:=G N[i].X) n fun y p o=>?_;refine q5r (F:=F) fun c=>?_;obtain ⟨m,d,g⟩:=List.mem_iff_getElem.1 ((b.mem {X:=N[i].X,Y:=y}).2 c);have ex : N[m].X = N[i].X:=by rw [g]
  have q : N[m].Y = y:=by rw [g]
  refine h.no m hi d (J4 b.srt hi d ?_) (J4 b.srt d h.hk ?_) ex
  · unfold ltP;omega
  · unfold ltP;omega
theorem qzs (k : Yg F G N) (hb : ∀ y x,F y x→-1000000≤x) {i : Nat} (hi : i < N.length) (c : F N[i].Y (N[i].X - 1)) : ∃ j,∃ h : j < N.length,j < i∧N[j].Y = N[i].Y:=by
  refine Classical.byContradiction fun a=>?_
  have step : ∀ x,x < N[i].X→(F N[i].Y x↔F N[i].Y (x - 1)):=by
    intro x l;refine q5s (G:=G) fun b=>a ?_;obtain ⟨m,d,g⟩:=List.mem_iff_getElem.1 ((k.mem {X:=x,Y:=N[i].Y}).2 b);have ex : N[m].X = x:=by rw [g]
    have o : N[m].Y = N[i].Y:=by rw [g]
    exact ⟨m,d,J4 k.srt d hi (by unfold ltP;omega),o⟩
  have l:=hb _ _ c;obtain ⟨n,b⟩ : ∃ n : Nat,N[i].X - 1 = -1000001 + (n : Int):=⟨(N[i].X + 1000000).toNat,q7⟩
  have:=Jr (f:=F N[i].Y) (lo:=-1000001) n fun x q p=>step x q7;rw [← b] at this;have:=hb _ _ (this.2 c);omega
theorem qr6 (k : Yg F G N) (hb : ∀ x y,G x y→-1000000≤y) {i : Nat} (hi : i < N.length) (c : G N[i].X (N[i].Y - 1)) : ∃ j,∃ h : j < N.length,j < i∧N[j].X = N[i].X:=by
  refine Classical.byContradiction fun a=>?_
  have step : ∀ y,y < N[i].Y→(G N[i].X y↔G N[i].X (y - 1)):=by
    intro y p;refine q5r (F:=F) fun b=>a ?_;obtain ⟨m,d,g⟩:=List.mem_iff_getElem.1 ((k.mem {X:=N[i].X,Y:=y}).2 b);have ex : N[m].X = N[i].X:=by rw [g]
    have r : N[m].Y = y:=by rw [g]
    exact ⟨m,d,J4 k.srt d hi (by unfold ltP;omega),ex⟩
  have q:=hb _ _ c;obtain ⟨n,b⟩ : ∃ n : Nat,N[i].Y - 1 = -1000001 + (n : Int):=⟨(N[i].Y + 1000000).toNat,q7⟩
  have:=Jr (f:=G N[i].X) (lo:=-1000001) n fun y o l=>step y q7;rw [← b] at this;have:=hb _ _ (this.2 c);omega
theorem q88 {P : Nat→Prop} : ∀ {n : Nat},(∃ j,j < n∧P j)→∃ j,j < n∧P j∧∀ m,j < m→m < n→¬ P m
  | 0,⟨j,h,_⟩=>by omega
  | n + 1,⟨j,h,hp⟩=>by
    by_cases e : P n
    · exact ⟨n,q7,e,fun m f a=>q7⟩
    · have : j≠n:=fun c=>e (c ▸ hp)
      obtain ⟨k,f,a,g⟩:=q88 (n:=n) ⟨j,q7,hp⟩
      refine ⟨k,q7,a,fun m d l=>?_⟩
      by_cases b : m = n
      · subst b;exact e
      · exact g m d q7
theorem qnc (f : Yg F G N) (hb : ∀ y x,F y x→-1000000≤x) {k : Nat} (hk : k < N.length) (c : F N[k].Y (N[k].X - 1)) : ∃ j,Z4 N j k:=by
  obtain ⟨j,h,a,l⟩:=qzs f hb hk c;obtain ⟨m,p,⟨s,b⟩,d⟩:=q88 (P:=fun j=>∃ h : j < N.length,N[j].Y = N[k].Y) (n:=k) ⟨j,a,h,l⟩;exact ⟨m,p,hk,fun _ _=>b.symm,fun q _ g o r e=>d q o r ⟨g,by rw [e,b]⟩⟩
theorem qnb (f : Yg F G N) (hb : ∀ x y,G x y→-1000000≤y) {k : Nat} (hk : k < N.length) (c : G N[k].X (N[k].Y - 1)) : ∃ j,Yz N j k:=by
  obtain ⟨j,h,a,l⟩:=qr6 f hb hk c;obtain ⟨m,p,⟨s,b⟩,d⟩:=q88 (P:=fun j=>∃ h : j < N.length,N[j].X = N[k].X) (n:=k) ⟨j,a,h,l⟩;exact ⟨m,p,hk,fun _ _=>b.symm,fun q _ g o r e=>d q o r ⟨g,by rw [e,b]⟩⟩
theorem Z4.uniq {i j k : Nat} (b : Z4 N i k) (a : Z4 N j k) : i = j:=by
  have hi : i < N.length:=by have:=b.lt;have:=b.hk;omega
  have c : j < N.length:=by have:=a.lt;have:=a.hk;omega
  have e1:=b.eq hi b.hk;have d:=a.eq c a.hk;rcases Nat.lt_trichotomy i j with h | h | h
  · exact absurd (by rw [← e1,← d]) (b.no j hi c h a.lt)
  · exact h
  · exact absurd (by rw [← e1,← d]) (a.no i c hi h b.lt)
theorem Yz.uniq {i j k : Nat} (b : Yz N i k) (a : Yz N j k) : i = j:=by
  have hi : i < N.length:=by have:=b.lt;have:=b.hk;omega
  have c : j < N.length:=by have:=a.lt;have:=a.hk;omega
  have e1:=b.eq hi b.hk;have d:=a.eq c a.hk;rcases Nat.lt_trichotomy i j with h | h | h
  · exact absurd (by rw [← e1,← d]) (b.no j hi c h a.lt)
  · exact h
  · exact absurd (by rw [← e1,← d]) (a.no i c hi h b.lt)
theorem qd4 (c : Yg F G N) (f : ∀ y x,F y x→-1000000≤x) (d : ∀ x y,G x y→-1000000≤y) {k : Nat} (hk : k < N.length) (i : Nat) : q46 F G N i k↔(Z4 N i k∧F N[k].Y (N[k].X - 1))∨(Yz N i k∧G N[k].X (N[k].Y - 1)):=by
  constructor
  · rintro ⟨hi,⟨a,b⟩ | ⟨a,b⟩⟩
    · have:=(qjc c a hi).1 b;rw [← a.eq hi hk] at this;exact .inr ⟨a,this⟩
    · have:=(qo4 c a hi).1 b;rw [← a.eq hi hk] at this;exact .inl ⟨a,this⟩
  · rintro (⟨a,b⟩ | ⟨a,b⟩)
    · have hi : i < N.length:=by have:=a.lt;omega
      refine ⟨hi,.inr ⟨a,(qo4 c a hi).2 ?_⟩⟩;rw [← a.eq hi hk];exact b
    · have hi : i < N.length:=by have:=a.lt;omega
      refine ⟨hi,.inl ⟨a,(qjc c a hi).2 ?_⟩⟩;rw [← a.eq hi hk];exact b
end
end Go.Sh
namespace Go.Sh
open Go Go.Am
open Classical
theorem qgf {α β : Type} [DecidableEq α] {z : β} {k a : α} {v : β} : ∀ {R : List (α × β)},K7 z a (Ka k v R) = if a = k then v else K7 z a R
  | []=>by simp only [Ka,K7]
  | (b,w)::r=>by
    simp only [Ka]
    by_cases e : k = b
    · subst e
      simp only [if_true,K7]
      by_cases c : a = k
      · simp [c]
      · simp [c]
    · rw [Q3 e]
      simp only [K7]
      rw [qgf (R:=r)]
      by_cases c : a = b
      · subst c
        have : ¬ a = k:=fun h=>e h.symm
        simp [this]
      · simp [c]
section
variable {F G : Int→Int→Prop} {N : List qa}
structure PE (F G : Int→Int→Prop) (N : List qa) (k : Nat) (c : List (Int × Int) × List (Int × Int) × List qj) : Prop where
  rm : ∀ j (h : j < N.length),j < k→(∀ m (h2 : m < N.length),j < m→m < k→N[m].Y≠N[j].Y)→K7 0 N[j].Y c.1 = (j : Int)
  cm : ∀ j (h : j < N.length),j < k→(∀ m (h2 : m < N.length),j < m→m < k→N[m].X≠N[j].X)→K7 0 N[j].X c.2.1 = (j : Int)
  nd : c.2.2.Nodup
  mem : ∀ e,e∈c.2.2↔∃ i q : Nat,q < k∧e = {A:=(i : Int),B:=(q : Int)}∧q46 F G N i q
  len : c.2.2.length≤2 * k
theorem qvh {r : Y8} (h1 : Rep r.rows_ F) (h2 : Rep r.columns_ G) (hN : Yg F G N) (hl : N.length≤400) : ∃ E,loop (q3k (N,true) r) (0,[],[],[]) = some E∧E.Nodup∧(∀ e,e∈E↔∃ i q : Nat,e = {A:=(i : Int),B:=(q : Int)}∧q46 F G N i q)∧E.length≤2 * N.length:=by
  have hF : ∀ y x,F y x→-1000000≤x:=fun y x h=>(h1.bnd h).2.2.1;have hG : ∀ x y,G x y→-1000000≤y:=fun x y h=>(h2.bnd h).2.2.1;refine Ku (f:=q3k (N,true) r) (σ:=List (Int × Int) × List (Int × Int) × List qj) (fun k c=>((k : Int),c)) N.length (PE F G N) _ ?_ ?_ (k0:=0) (c0:=([],[],[])) q7 ⟨fun j h h'=>q7,fun j h h'=>q7,.nil,fun e=>⟨fun h=>(by cases h),fun ⟨i,q,h,_⟩=>q7⟩,qb⟩
  · rintro k ⟨rm,cm,E⟩ hk ⟨p1,p2,p3,p4,p5⟩;simp only at p1 p2 p3 p4 p5;have hb : decide ((k : Int) < (N.length : Int)) = true:=Q2 q7;have ap:=q8i h1 h2 ((hN.mem N[k]).1 (Ke hk));have am : PtB N[k]:=ap;have o:=qd4 hN hF hG hk
    have hold : ∀ i,({A:=(i : Int),B:=(k : Int)} : qj) ∉ E:=by
      intro i hm;obtain ⟨i',q,hq,l,_⟩:=(p4 _).1 hm;simp only [qj.mk.injEq] at l;omega
    have hw : ∃ u,(cond (decide (F N[k].Y (N[k].X - 1))) ((app 16 E [({A:=K7 0 N[k].Y rm,B:=(k : Int)} : qj)]).bind fun ak=>some ak) (some E)) = some u∧u.Nodup∧u.length≤E.length + 1∧∀ e,e∈u↔e∈E∨∃ i : Nat,e = {A:=(i : Int),B:=(k : Int)}∧Z4 N i k∧F N[k].Y (N[k].X - 1):=by
      by_cases w : F N[k].Y (N[k].X - 1)
      · obtain ⟨j,g⟩:=qnc hN hF hk w;have d : j < N.length:=by have:=g.lt;omega
        have t : K7 0 N[k].Y rm = (j : Int):=by
          rw [g.eq d hk];exact p1 j d g.lt fun m p z h5=>g.no m d p z h5
        rw [Q2 w,Q1,t,Y9 (by simp;omega)];refine ⟨_,rfl,?_,qb,fun e=>?_⟩
        · rw [List.nodup_append];exact ⟨p3,qb,fun a ha b hb e=>by rw [List.mem_singleton] at hb;subst hb;subst e;exact hold j ha⟩
        · rw [List.mem_append,List.mem_singleton];constructor
          · rintro (h | rfl)
            · exact .inl h
            · exact .inr ⟨j,rfl,g,w⟩
          · rintro (h | ⟨i,rfl,p,_⟩)
            · exact .inl h
            · rw [p.uniq g];exact .inr rfl
      · rw [Q4 w,qz];exact ⟨E,rfl,p3,q7,fun e=>⟨.inl,fun h=>h.elim id fun ⟨_,_,_,h⟩=>absurd h w⟩⟩
    obtain ⟨u,e1,n1,l1,m1⟩:=hw
    have hs : ∃ E2,(cond (decide (G N[k].X (N[k].Y - 1))) ((app 16 u [({A:=K7 0 N[k].X cm,B:=(k : Int)} : qj)]).bind fun ao=>some ao) (some u)) = some E2∧E2.Nodup∧E2.length≤u.length + 1∧∀ e,e∈E2↔e∈u∨∃ i : Nat,e = {A:=(i : Int),B:=(k : Int)}∧Yz N i k∧G N[k].X (N[k].Y - 1):=by
      by_cases s : G N[k].X (N[k].Y - 1)
      · obtain ⟨j,g⟩:=qnb hN hG hk s;have d : j < N.length:=by have:=g.lt;omega
        have t : K7 0 N[k].X cm = (j : Int):=by
          rw [g.eq d hk];exact p2 j d g.lt fun m p z h5=>g.no m d p z h5
        rw [Q2 s,Q1,t,Y9 (by simp;omega)];refine ⟨_,rfl,?_,qb,fun e=>?_⟩
        · rw [List.nodup_append];refine ⟨n1,qb,fun a ha b hb e=>?_⟩;rw [List.mem_singleton] at hb;subst hb;subst e;rcases (m1 _).1 ha with h | ⟨i,l,hy,_⟩
          · exact hold j h
          · simp only [qj.mk.injEq] at l;have aj : i = j:=by omega
            subst aj;have q1:=hy.eq d hk;have q2:=g.eq d hk;have:=Ux hN.srt d hk g.lt;unfold ltP at this;omega
        · rw [List.mem_append,List.mem_singleton];constructor
          · rintro (h | rfl)
            · exact .inl h
            · exact .inr ⟨j,rfl,g,s⟩
          · rintro (h | ⟨i,rfl,p,_⟩)
            · exact .inl h
            · rw [p.uniq g];exact .inr rfl
      · rw [Q4 s,qz];exact ⟨u,rfl,n1,q7,fun e=>⟨.inl,fun h=>h.elim id fun ⟨_,_,_,h⟩=>absurd h s⟩⟩
    obtain ⟨E2,e2,n2,l2,m2⟩:=hs;refine .inl ⟨(Ka N[k].Y (k : Int) rm,Ka N[k].X (k : Int) cm,E2),?_,fun j g ai n=>?_,fun j g ai n=>?_,n2,fun e=>?_,by simp only;omega⟩
    · simp only [q3k,hb,Q1,Qu hk,qn,qeu h1 h2 am,arB];rw [e1,qn,e2,qn,Qb q7];rfl
    · simp only;rw [qgf];by_cases v : N[j].Y = N[k].Y
      · rw [Q0 v];by_cases aa : j = k
        · subst aa;rfl
        · exact absurd v.symm (n k hk q7 q7)
      · rw [Q3 v];have : j≠k:=fun h=>by subst h;exact v rfl
        exact p1 j g q7 fun m p z h5=>n m p z q7
    · simp only;rw [qgf];by_cases v : N[j].X = N[k].X
      · rw [Q0 v];by_cases aa : j = k
        · subst aa;rfl
        · exact absurd v.symm (n k hk q7 q7)
      · rw [Q3 v];have : j≠k:=fun h=>by subst h;exact v rfl
        exact p2 j g q7 fun m p z h5=>n m p z q7
    · simp only;rw [m2,m1,p4];constructor
      · rintro ((⟨i,q,hq,l,h⟩ | ⟨i,l,h⟩) | ⟨i,l,h⟩)
        · exact ⟨i,q,q7,l,h⟩
        · exact ⟨i,k,q7,l,(o i).2 (.inl h)⟩
        · exact ⟨i,k,q7,l,(o i).2 (.inr h)⟩
      · rintro ⟨i,q,hq,l,h⟩;by_cases eq : q = k
        · subst eq;rcases (o i).1 h with h | h
          · exact .inl (.inr ⟨i,l,h⟩)
          · exact .inr ⟨i,l,h⟩
        · exact .inl (.inl ⟨i,q,q7,l,h⟩)
  · rintro ⟨rm,cm,E⟩ ⟨p1,p2,p3,p4,p5⟩;simp only at p3 p4 p5;have hb : decide ((N.length : Int) < (N.length : Int)) = false:=Q4 q7;refine ⟨E,by simp only [q3k,hb,qz],p3,fun e=>?_,q7⟩;rw [p4];constructor
    · rintro ⟨i,q,_,l,h⟩;exact ⟨i,q,l,h⟩
    · rintro ⟨i,q,l,h⟩;obtain ⟨hi,h'⟩:=h;refine ⟨i,q,?_,l,hi,h'⟩;rcases h' with ⟨h,_⟩ | ⟨h,_⟩
      · exact h.hk
      · exact h.hk
theorem qvg {r : Y8} (n : Rep r.rows_ F) (d : Rep r.columns_ G) (g : Yg F G N) (f : N.length≤400) : ∃ D E,loop (q3k (N,true) r) (0,[],[],[]) = some D∧q4h (fun c o=>q2p c o) D = some E∧E.length = D.length∧q3r F G N E∧E.length≤2 * N.length:=by
  obtain ⟨D,e1,l,b,k⟩:=qvh n d g f
  have m : ∀ e∈D,PtB (eP2 e):=by
    intro e j;obtain ⟨i,q,rfl,hi,h⟩:=(b e).1 j;have t : q < N.length:=by rcases h with ⟨h,_⟩ | ⟨h,_⟩ <;> exact h.hk
    unfold PtB eP2;simp only;omega
  obtain ⟨E,s,a,p⟩:=q12i D q7 m l;exact ⟨D,E,e1,s,a.length_eq,⟨p,fun e=>by rw [a.mem_iff,b]⟩,by rw [a.length_eq];exact k⟩
def NX (N : List qa) (i k : Nat) (b : Int) : Prop:=(b = -1∧∀ m (h1 : i < N.length) (h2 : m < N.length),i < m→m < k→N[m].X≠N[i].X)∨∃ q : Nat,b = (q : Int)∧Yz N i q
def NY (N : List qa) (i k : Nat) (b : Int) : Prop:=(b = -1∧∀ m (h1 : i < N.length) (h2 : m < N.length),i < m→m < k→N[m].Y≠N[i].Y)∨∃ q : Nat,b = (q : Int)∧Z4 N i q
theorem qpk (hl : N.length≤1000) {i : Nat} (hi : i < N.length) : ∃ b,loop (q90 N N[i]) ((-1),(-1),(((i + 1 : Nat) : Int))) = some b∧NX N i N.length b.1∧NY N i N.length b.2:=by
  refine Ku (f:=q90 N N[i]) (σ:=Int × Int) (fun k c=>(c.1,c.2,(k : Int))) N.length (fun k c=>i < k∧NX N i k c.1∧NY N i k c.2) _ ?_ ?_ (k0:=i + 1) (c0:=((-1),(-1))) q7 ⟨q7,.inl ⟨rfl,fun m _ _ s n=>q7⟩,.inl ⟨rfl,fun m _ _ s n=>q7⟩⟩
  · rintro k ⟨bx,a⟩ hk ⟨t,w,v⟩;simp only at w v;have hb : decide ((k : Int) < (N.length : Int)) = true:=Q2 q7
    have sx : ∃ d,((cond (N[k].X == N[i].X) (some (decide (bx < 0))) (some false)).bind fun u=>(cond u (some (k : Int)) (some bx))) = some d∧NX N i (k + 1) d:=by
      rcases w with ⟨rfl,h⟩ | ⟨q,rfl,y⟩
      · by_cases e : N[k].X = N[i].X
        · have o : (N[k].X == N[i].X) = true:=by simpa using e
          rw [o];exact ⟨(k : Int),rfl,.inr ⟨k,rfl,t,hk,fun _ _=>e,fun j _ n p r=>h j hi n p r⟩⟩
        · have o : (N[k].X == N[i].X) = false:=by simpa using e
          rw [o];refine ⟨-1,rfl,.inl ⟨rfl,fun m s n p r=>?_⟩⟩;by_cases z : m = k
          · subst z;exact e
          · exact h m s n p q7
      · refine ⟨(q : Int),?_,.inr ⟨q,rfl,y⟩⟩;have : decide ((q : Int) < 0) = false:=Q4 q7;rw [this];cases (N[k].X == N[i].X) <;> rfl
    have sy : ∃ l,((cond (N[k].Y == N[i].Y) (some (decide (a < 0))) (some false)).bind fun g=>(cond g (some (k : Int)) (some a))) = some l∧NY N i (k + 1) l:=by
      rcases v with ⟨rfl,h⟩ | ⟨q,rfl,y⟩
      · by_cases e : N[k].Y = N[i].Y
        · have o : (N[k].Y == N[i].Y) = true:=by simpa using e
          rw [o];exact ⟨(k : Int),rfl,.inr ⟨k,rfl,t,hk,fun _ _=>e,fun j _ n p r=>h j hi n p r⟩⟩
        · have o : (N[k].Y == N[i].Y) = false:=by simpa using e
          rw [o];refine ⟨-1,rfl,.inl ⟨rfl,fun m s n p r=>?_⟩⟩;by_cases z : m = k
          · subst z;exact e
          · exact h m s n p q7
      · refine ⟨(q : Int),?_,.inr ⟨q,rfl,y⟩⟩;have : decide ((q : Int) < 0) = false:=Q4 q7;rw [this];cases (N[k].Y == N[i].Y) <;> rfl
    obtain ⟨d,e1,x1⟩:=sx;obtain ⟨l,e2,y1⟩:=sy;refine .inl ⟨(d,l),?_,q7,x1,y1⟩;simp only [q90,hb,Q1,Qu hk,qn];rw [← Option.bind_assoc (x:=(cond (N[k].X == N[i].X) (some (decide (bx < 0))) (some false))),e1,qn]
    have e3 : ((cond (N[k].Y == N[i].Y) (some (decide (a < 0))) (some false)).bind fun g=>cond g (some (d,(k : Int))) (some (d,a))) = some (d,l):=by
      have : ∀ c : Bool,(cond c (some (d,(k : Int))) (some (d,a))) = (cond c (some (k : Int)) (some a)).map fun b=>(d,b):=by intro c;cases c <;> rfl
      simp only [this]
      have : ((cond (N[k].Y == N[i].Y) (some (decide (a < 0))) (some false)).bind fun g=>(cond g (some (k : Int)) (some a)).map fun b=>(d,b)) = (((cond (N[k].Y == N[i].Y) (some (decide (a < 0))) (some false)).bind fun g=>(cond g (some (k : Int)) (some a)))).map fun b=>(d,b):=by
        cases (cond (N[k].Y == N[i].Y) (some (decide (a < 0))) (some false)) <;> rfl
      rw [this,e2];rfl
    rw [e3,qn,Qb q7];rfl
  · rintro ⟨bx,a⟩ ⟨_,w,v⟩;have hb : decide ((N.length : Int) < (N.length : Int)) = false:=Q4 q7;exact ⟨(bx,a),by simp only [q90,hb,qz],w,v⟩
end
end Go.Sh
namespace Go.Sh
open Go Go.Am
open Classical
section
variable {F G : Int→Int→Prop} {N : List qa} {L M : List Kk}
structure RE (F G : Int→Int→Prop) (N : List qa) (k : Nat) (E : List qj) : Prop where
  srt : E.Pairwise ltG
  mem : ∀ e,e∈E↔∃ i q : Nat,i < k∧e = {A:=(i : Int),B:=(q : Int)}∧q46 F G N i q
  len : E.length≤2 * k
theorem qln {E : List qj} {a : qj} (h : E.Pairwise ltG) (c : ∀ e∈E,ltG e a) : (E ++ [a]).Pairwise ltG:=by
  rw [List.pairwise_append];exact ⟨h,List.pairwise_singleton _ _,fun x d y b=>by rw [List.mem_singleton] at b;subst b;exact c x d⟩
theorem qpj (h1 : Rep (asc L) F) (z : Rep (asc M) G) (hN : Yg F G N) (hl : N.length≤400) : ∃ E,loop (q8z N L M) (0,[]) = some E∧q3r F G N E∧E.length≤2 * N.length:=by
  refine Ku (f:=q8z N L M) (σ:=List qj) (fun k c=>((k : Int),c)) N.length (RE F G N) _ ?_ ?_ (k0:=0) (c0:=[]) q7 ⟨.nil,fun e=>⟨fun h=>(by cases h),fun ⟨i,q,h,_⟩=>q7⟩,qb⟩
  · rintro k E hk ⟨t,p2,p3⟩;have hb : decide ((k : Int) < (N.length : Int)) = true:=Q2 q7;have y : PtB N[k]:=q8i h1 z ((hN.mem N[k]).1 (Ke hk));obtain ⟨⟨bx,s⟩,e0,hx,hy⟩:=qpk (N:=N) q7 hk;simp only at hx hy
    have o : ∀ e∈E,∀ q : Nat,ltG e {A:=(k : Int),B:=(q : Int)}:=by
      intro e b q;obtain ⟨i,l,hi,rfl,_⟩:=(p2 e).1 b;unfold ltG ltP eP2;simp only;omega
    have hu : ∃ j,((cond (decide (G N[k].X N[k].Y)) (some (decide (bx ≥ 0))) (some false)).bind fun r=>(cond r ((app 16 E [({A:=(k : Int),B:=bx} : qj)]).bind fun u=>some u) (some E))) = some j∧j.Pairwise ltG∧j.length≤E.length + 1∧(∀ e,e∈j↔e∈E∨∃ q : Nat,e = {A:=(k : Int),B:=(q : Int)}∧Yz N k q∧G N[k].X N[k].Y):=by
      by_cases g : G N[k].X N[k].Y
      · rw [Q2 g,Q1,qn];rcases hx with ⟨rfl,m⟩ | ⟨q,rfl,d⟩
        · refine ⟨E,rfl,t,q7,fun e=>⟨.inl,fun h=>h.elim id ?_⟩⟩;rintro ⟨q,_,a,_⟩;exact absurd (a.eq hk a.hk) (m q hk a.hk a.lt a.hk)
        · rw [Q2 (show (q : Int) ≥ 0 by omega),Q1,Y9 (by simp;omega)];refine ⟨_,rfl,qln t fun e b=>o e b q,qb,fun e=>?_⟩;rw [List.mem_append,List.mem_singleton];constructor
          · rintro (h | rfl)
            · exact .inl h
            · exact .inr ⟨q,rfl,d,g⟩
          · rintro (h | ⟨l,rfl,a,_⟩)
            · exact .inl h
            · right
              have : l = q:=by
                rcases Nat.lt_trichotomy l q with h | h | h
                · exact absurd (a.eq hk a.hk) (d.no l hk a.hk a.lt h)
                · exact h
                · exact absurd (d.eq hk d.hk) (a.no q hk d.hk d.lt h)
              rw [this]
      · rw [Q4 g,qz,qn,qz];exact ⟨E,rfl,t,q7,fun e=>⟨.inl,fun h=>h.elim id fun ⟨_,_,_,h⟩=>absurd h g⟩⟩
    obtain ⟨j,e1,s1,l1,m1⟩:=hu
    have hr : ∃ n,((cond (decide (F N[k].Y N[k].X)) (some (decide (s ≥ 0))) (some false)).bind fun v=>(cond v ((app 16 j [({A:=(k : Int),B:=s} : qj)]).bind fun p=>some p) (some j))) = some n∧n.Pairwise ltG∧n.length≤j.length + 1∧(∀ e,e∈n↔e∈j∨∃ q : Nat,e = {A:=(k : Int),B:=(q : Int)}∧Z4 N k q∧F N[k].Y N[k].X):=by
      by_cases g : F N[k].Y N[k].X
      · rw [Q2 g,Q1,qn];rcases hy with ⟨rfl,m⟩ | ⟨q,rfl,d⟩
        · refine ⟨j,rfl,s1,q7,fun e=>⟨.inl,fun h=>h.elim id ?_⟩⟩;rintro ⟨q,_,a,_⟩;exact absurd (a.eq hk a.hk) (m q hk a.hk a.lt a.hk)
        · rw [Q2 (show (q : Int) ≥ 0 by omega),Q1,Y9 (by simp;omega)];refine ⟨_,rfl,qln s1 fun e b=>?_,qb,fun e=>?_⟩
          · rcases (m1 e).1 b with h | ⟨l,rfl,a,_⟩
            · exact o e h q
            · have af:=qme hN.srt a d;exact .inr ⟨rfl,show (l : Int) < (q : Int) by omega⟩
          · rw [List.mem_append,List.mem_singleton];constructor
            · rintro (h | rfl)
              · exact .inl h
              · exact .inr ⟨q,rfl,d,g⟩
            · rintro (h | ⟨l,rfl,a,_⟩)
              · exact .inl h
              · right
                have : l = q:=by
                  rcases Nat.lt_trichotomy l q with h | h | h
                  · exact absurd (a.eq hk a.hk) (d.no l hk a.hk a.lt h)
                  · exact h
                  · exact absurd (d.eq hk d.hk) (a.no q hk d.hk d.lt h)
                rw [this]
      · rw [Q4 g,qz,qn,qz];exact ⟨j,rfl,s1,q7,fun e=>⟨.inl,fun h=>h.elim id fun ⟨_,_,_,h⟩=>absurd h g⟩⟩
    obtain ⟨n,e2,s2,l2,m2⟩:=hr;refine .inl ⟨n,?_,s2,fun e=>?_,q7⟩
    · simp only [q8z,hb,Q1,Qu hk,qn,qnn h1 z y,arB];rw [Qb q7,show ((k : Int) + 1) = ((k + 1 : Nat) : Int) by omega,e0,qn];simp only;rw [← Option.bind_assoc (x:=(cond (decide (G N[k].X N[k].Y)) (some (decide (bx ≥ 0))) (some false))),e1,qn,e2,qn]
    · rw [m2,m1,p2];constructor
      · rintro ((⟨i,q,d,b,h⟩ | ⟨q,b,a,w⟩) | ⟨q,b,a,w⟩)
        · exact ⟨i,q,q7,b,h⟩
        · exact ⟨k,q,q7,b,hk,.inl ⟨a,w⟩⟩
        · exact ⟨k,q,q7,b,hk,.inr ⟨a,w⟩⟩
      · rintro ⟨i,q,d,b,h⟩;by_cases eq : i = k
        · subst eq;obtain ⟨_,h | h⟩:=h
          · exact .inl (.inr ⟨q,b,h.1,h.2⟩)
          · exact .inr ⟨q,b,h.1,h.2⟩
        · exact .inl (.inl ⟨i,q,q7,b,h⟩)
  · rintro E ⟨t,p2,p3⟩;have hb : decide ((N.length : Int) < (N.length : Int)) = false:=Q4 q7;refine ⟨E,by simp only [q8z,hb,qz],⟨t,fun e=>?_⟩,q7⟩;rw [p2];constructor
    · rintro ⟨i,q,_,b,h⟩;exact ⟨i,q,b,h⟩
    · rintro ⟨i,q,b,hi,h⟩;exact ⟨i,q,hi,b,hi,h⟩
end
structure Zo (F G : Int→Int→Prop) (n : Qh) : Prop where
  nodes : Yg F G n.Nodes
  edges : q3r F G n.Nodes n.Edges
  nlen : n.Nodes.length≤400
  elen : n.Edges.length≤2 * n.Nodes.length
theorem Zo.uniq {F G : Int→Int→Prop} {n m : Qh} (h : Zo F G n) (a : Zo F G m) : n = m:=by
  obtain ⟨N,E⟩:=n;obtain ⟨c,b⟩:=m;have e : N = c:=qmh h.nodes a.nodes;subst e;have : E = b:=qjw h.edges a.edges;rw [this]
abbrev rowP (l : List qr) : Int→Int→Prop:=onL (q2i l)
abbrev colP (l : List qr) : Int→Int→Prop:=onL (q1z l)
def q7l (F G : Int→Int→Prop) : Prop:=∃ b : List qa,b.Nodup∧400 < b.length∧∀ p∈b,Kv F G p.X p.Y
theorem q7l.not {F G : Int→Int→Prop} (h : q7l F G) {N : List qa} (d : Yg F G N) : 400 < N.length:=by
  obtain ⟨b,a,f,c⟩:=h;have:=List.Nodup.length_le_of_subset a (l₂:=N) fun p hp=>(d.mem p).2 (c p hp);omega
theorem qdj {l : List qr} (k : l.length≤400) (o : ∀ s∈l,SegV s) : (∃ n,q3j l = some (n,true)∧Zo (rowP l) (colP l) n)∨(q3j l = some ({Nodes:=[],Edges:=[]},false)∧q7l (rowP l) (colP l)):=by
  obtain ⟨r,e1,f,d⟩:=qck k o;unfold q3j;rw [e1,qn];rcases qvp f d with ⟨N,g,a,c⟩ | ⟨p,q,c⟩
  · left;obtain ⟨D,E,m,t,j,h,b⟩:=qvg f d g a;rw [c];simp only [qn,Bool.not_true,qz,m,t];have le : K0 E.length D.length = some ():=by unfold K0;rw [Q0 j]
    rw [le,qn];refine ⟨{Nodes:=N,Edges:=E},?_,g,h,a,b⟩;rw [Q2 (show (D.length : Int)≤800 by omega)]
  · right;rw [c];exact ⟨rfl,p⟩
theorem qpl {l : List qr} (g : l.length≤400) (k : ∀ s∈l,SegV s) : (∃ n,q5x l = some (n,true)∧Zo (rowP l) (colP l) n)∨(q5x l = some ({Nodes:=[],Edges:=[]},false)∧q7l (rowP l) (colP l)):=by
  obtain ⟨L,e1,m,_⟩:=qlg l true g k;obtain ⟨M,t,f,_⟩:=qlg l false g k;obtain ⟨N,p,s1,q,j,u⟩:=qzr m f;unfold q5x;rw [e1,qn,t,qn,p,qn];by_cases c : N.length≤400
  · left;rw [Q4 (show ¬ (N.length : Int) > 400 by omega),qz];obtain ⟨E,r,o,d⟩:=qpj m f (j c) c;rw [r,qn];exact ⟨{Nodes:=N,Edges:=E},by rw [Q2 (show (E.length : Int)≤800 by omega)],j c,o,c,d⟩
  · right;rw [Q2 (show (N.length : Int) > 400 by omega),Q1];exact ⟨rfl,N,s1.imp (by rintro a b h rfl;exact q37 a a h h),q7,q⟩
theorem qma {l : List qr} (f : l.length≤400) (d : ∀ s∈l,SegV s) : q3j l = q5x l:=by
  rcases qdj f d with ⟨n,e1,b⟩ | ⟨e1,b⟩ <;> rcases qpl f d with ⟨m,c,a⟩ | ⟨c,a⟩
  · rw [e1,c,b.uniq a]
  · have:=a.not b.nodes;have:=b.nlen;omega
  · have:=b.not a.nodes;have:=a.nlen;omega
  · rw [e1,c]
end Go.Sh
namespace Go.Sh
open Go Go.Am
open Classical
theorem beqI (a b : Int) : (a == b) = decide (a = b):=by
  by_cases h : a = b
  · rw [Q2 h];simpa using h
  · rw [Q4 h];simpa using h
theorem ql0 (p : qa) : q4u p = some (decide (PtB p)):=by
  unfold q4u;by_cases h : PtB p
  · have a:=h;unfold PtB at a;rw [Q2 h,Q2 (show min p.X p.Y ≥ -1000000 by omega),Q1,Q2 (show max p.X p.Y≤1000000 by omega)];rfl
  · have a:=h;unfold PtB at a;rw [Q4 h];by_cases b : min p.X p.Y ≥ -1000000
    · rw [Q2 b,Q1,Q4 (show ¬ max p.X p.Y≤1000000 by omega)];rfl
    · rw [Q4 b,qz];rfl
theorem q9d (s : qr) : SegV s↔PtB s.A∧PtB s.B∧((s.A.X = s.B.X∧s.A.Y≠s.B.Y)∨(s.A.X≠s.B.X∧s.A.Y = s.B.Y)):=by
  constructor
  · rintro ⟨a,b,c⟩;exact ⟨a,b,c⟩
  · rintro ⟨a,b,c⟩;exact ⟨a,b,c⟩
theorem qeg (s : qr) : q7e s = some (decide (SegV s)):=by
  unfold q7e;rw [ql0,qn];by_cases a : PtB s.A
  · rw [Q2 a,Q1,ql0,qn,qn];by_cases b : PtB s.B
    · rw [Q2 b,Q1,qn];congr 1;rw [beqI,beqI];by_cases e1 : s.A.X = s.B.X <;> by_cases c : s.A.Y = s.B.Y <;> simp [q9d,a,b,e1,c]
    · rw [Q4 b,qz,qn];simp [q9d,b]
  · rw [Q4 a,qz,qn,qz,qn];simp [q9d,a]
theorem qno (p : qa) : q5v p = some (decide (PtB p)):=by
  unfold q5v;by_cases h : PtB p
  · have a:=h;unfold PtB at a;rw [Q2 h,Q2 (show p.X ≥ -1000000 by omega),Q1,Q2 (show p.X≤1000000 by omega),Q2 (show p.Y ≥ -1000000 by omega),Q2 (show p.Y≤1000000 by omega)];rfl
  · have a:=h;unfold PtB at a;rw [Q4 h];by_cases d : p.X ≥ -1000000 <;> by_cases b : p.X≤1000000 <;> by_cases f : p.Y ≥ -1000000 <;> by_cases c : p.Y≤1000000
    all_goals first | omega | (simp only [d,b,f,c,decide_true,decide_false,Q1,qz,qn])
theorem qe3 (s : qr) : q4e s = some (decide (SegV s)):=by
  unfold q4e;rw [qno,qno];simp only [beqI];by_cases e1 : s.A.X = s.B.X <;> by_cases c : s.A.Y = s.B.Y <;> by_cases a : PtB s.A <;> by_cases b : PtB s.B <;> simp [q9d,a,b,e1,c]
end Go.Sh
namespace Go.Sh
open Go Go.Am
open Classical
theorem dlt' {k n : Nat} (h : k < n) : decide ((k : Int) < (n : Int)) = true:=Q2 q7
theorem dnl' {n : Nat} : decide ((n : Int) < (n : Int)) = false:=Q4 q7
theorem beqP (a b : qa) : ((a.X == b.X) && ((a.Y == b.Y) && true)) = decide (a = b):=by
  obtain ⟨f,h⟩:=a;obtain ⟨bx,c⟩:=b;simp only [beqI,Bool.and_true,qa.mk.injEq];by_cases g : f = bx <;> by_cases d : h = c <;> simp [g,d]
theorem beqG (a b : qj) : ((a.A == b.A) && ((a.B == b.B) && true)) = decide (a = b):=by
  obtain ⟨f,h⟩:=a;obtain ⟨bx,c⟩:=b;simp only [beqI,Bool.and_true,qj.mk.injEq];by_cases g : f = bx <;> by_cases d : h = c <;> simp [g,d]
theorem q40 {α : Type} [DecidableEq α] {f : Int→Option (Int ⊕ (Unit ⊕ Bool))} {p q : List α} (j : p.length = q.length) (r : p.length≤1000000)
    (hs : ∀ k (a : k < p.length) (c : k < q.length),f (k : Int) = if p[k] = q[k] then some (.inl (w64 ((k : Int) + 1))) else some (.inr (.inr false))) (hd : f (p.length : Int) = some (.inr (.inl ()))) :
    loop f 0 = some (if p = q then .inl () else .inr false):=by
  have:=Ku (f:=f) (σ:=Unit) (fun k _=>(k : Int)) p.length (fun k _=>∀ i (a : i < p.length) (c : i < q.length),i < k→p[i] = q[i]) (fun o=>o = if p = q then .inl () else .inr false) ?_ ?_ (k0:=0) (c0:=()) q7 (fun i _ _ h=>q7)
  · obtain ⟨b,a,rfl⟩:=this;exact a
  · rintro k _ hk d;have c : k < q.length:=by omega
    have:=hs k hk c;by_cases e : p[k] = q[k]
    · rw [Q0 e,Qb q7] at this;refine .inl ⟨(),by rw [this];rfl,fun i g l n=>?_⟩;by_cases m : i = k
      · subst m;exact e
      · exact d i g l q7
    · rw [Q3 e] at this;refine .inr ⟨_,this,?_⟩;rw [Q3];rintro rfl;exact e rfl
  · rintro _ d;refine ⟨_,hd,?_⟩;rw [Q0];exact List.ext_getElem j fun i a c=>d i a c a
theorem qt0 (p q : List qa) (d : p.length≤1000000) : q9g p q = some (decide (p = q)):=by
  unfold q9g;by_cases a : p.length = q.length
  · have e1 : ((p.length : Int) != (q.length : Int)) = false:=by rw [a];simp
    have f : loop (q6h p q) 0 = some (if p = q then .inl () else .inr false):=by
      refine q40 a d (fun k b c=>?_) ?_
      · simp only [q6h,dlt' b,Q1,Qu b,Qu c,qn,beqP];by_cases e : p[k] = q[k] <;> simp [e]
      · simp only [q6h,dnl',qz]
    rw [e1,qz,f];by_cases e : p = q <;> simp [e]
  · have e1 : ((p.length : Int) != (q.length : Int)) = true:=by simp;omega
    rw [e1,Q1,Q4 (fun h=>a (by rw [h]))]
theorem qsz (p q : List qj) (d : p.length≤1000000) : q9f p q = some (decide (p = q)):=by
  unfold q9f;by_cases a : p.length = q.length
  · have e1 : ((p.length : Int) != (q.length : Int)) = false:=by rw [a];simp
    have f : loop (q6g p q) 0 = some (if p = q then .inl () else .inr false):=by
      refine q40 a d (fun k b c=>?_) ?_
      · simp only [q6g,dlt' b,Q1,Qu b,Qu c,qn,beqG];by_cases e : p[k] = q[k] <;> simp [e]
      · simp only [q6g,dnl',qz]
    rw [e1,qz,f];by_cases e : p = q <;> simp [e]
  · have e1 : ((p.length : Int) != (q.length : Int)) = true:=by simp;omega
    rw [e1,Q1,Q4 (fun h=>a (by rw [h]))]
theorem qo8 (p q : Qh) (b : p.Nodes.length≤1000000) (a : p.Edges.length≤1000000) : qbx p q = some (decide (p = q)):=by
  obtain ⟨N,E⟩:=p;obtain ⟨d,c⟩:=q;unfold qbx;simp only at b a ⊢;rw [qt0 _ _ b,qn];by_cases e1 : N = d
  · rw [Q2 e1,Q1,qsz _ _ a];by_cases f : E = c <;> simp [e1,f]
  · rw [Q4 e1];simp [e1]
theorem qe2 (p q : Qh) (c : p.Nodes.length≤1000000) (d : p.Edges.length≤1000000) : q2g p q = some (decide (p = q)):=by
  obtain ⟨N,E⟩:=p;obtain ⟨a,b⟩:=q;unfold q2g;simp only at c d ⊢;by_cases g : N.length = a.length
  · by_cases j : E.length = b.length
    · have e1 : ((N.length : Int) != (a.length : Int)) = false:=by rw [g];simp
      have l : ((E.length : Int) != (b.length : Int)) = false:=by rw [j];simp
      have f1 : loop (q5y {Nodes:=N,Edges:=E} {Nodes:=a,Edges:=b}) 0 = some (if N = a then .inl () else .inr false):=by
        refine q40 g c (fun k c d=>?_) ?_
        · simp only [q5y,dlt' c,Q1,Qu c,Qu d,qn,beqP];by_cases e : N[k] = a[k] <;> simp [e]
        · simp only [q5y,dnl',qz]
      have m : loop (q5z {Nodes:=N,Edges:=E} {Nodes:=a,Edges:=b}) 0 = some (if E = b then .inl () else .inr false):=by
        refine q40 j d (fun k c d=>?_) ?_
        · simp only [q5z,dlt' c,Q1,Qu c,Qu d,qn,beqG];by_cases e : E[k] = b[k] <;> simp [e]
        · simp only [q5z,dnl',qz]
      rw [e1,qz,l,qn,qz,f1,m];by_cases f : N = a <;> by_cases n : E = b <;> simp [f,n]
    · have e1 : ((N.length : Int) != (a.length : Int)) = false:=by rw [g];simp
      have l : ((E.length : Int) != (b.length : Int)) = true:=by simp;omega
      have f : ¬ E = b:=fun h=>j (by rw [h]);rw [e1,qz,l,qn,Q1];simp [f]
  · have e1 : ((N.length : Int) != (a.length : Int)) = true:=by simp;omega
    have f : ¬ N = a:=fun h=>g (by rw [h]);rw [e1,Q1,qn,Q1];simp [f]
end Go.Sh
namespace Go.Sh
open Go Go.Am
open Classical
abbrev net0 : Qh:={Nodes:=[],Edges:=[]}
theorem qlp (l : List qr) (m : l.length≤400) : loop (q79 l) 0 = some (if ∀ s∈l,SegV s then .inl () else .inr (net0,8))∧loop (qdx l) 0 = some (if ∀ s∈l,SegV s then .inl () else .inr (net0,8)):=by
  have key : ∀ f : Int→Option (Int ⊕ (Unit ⊕ (Qh × Int))),(∀ k (hk : k < l.length),f (k : Int) = if SegV l[k] then some (.inl (w64 ((k : Int) + 1))) else some (.inr (.inr (net0,8))))→f (l.length : Int) = some (.inr (.inl ()))→loop f 0 = some (if ∀ s∈l,SegV s then .inl () else .inr (net0,8)):=by
    intro f hs hd;have:=Ku (f:=f) (σ:=Unit) (fun k _=>(k : Int)) l.length (fun k _=>∀ i (hi : i < l.length),i < k→SegV l[i]) (fun o=>o = if ∀ s∈l,SegV s then .inl () else .inr (net0,8)) ?_ ?_ (k0:=0) (c0:=()) q7 (fun i hi h=>q7)
    · obtain ⟨b,j,rfl⟩:=this;exact j
    · rintro k _ hk c;have:=hs k hk;by_cases a : SegV l[k]
      · rw [Q0 a,Qb q7] at this;refine .inl ⟨(),by rw [this];rfl,fun i hi g=>?_⟩;by_cases e : i = k
        · subst e;exact a
        · exact c i hi q7
      · rw [Q3 a] at this;exact .inr ⟨_,this,by rw [Q3 (fun h=>a (h _ (Ke hk)))]⟩
    · rintro _ c;refine ⟨_,hd,?_⟩;rw [Q0];intro s d;obtain ⟨i,hi,rfl⟩:=List.mem_iff_getElem.1 d;exact c i hi hi
  constructor
  · refine key _ (fun k hk=>?_) (by simp only [q79,dnl',qz]);simp only [q79,dlt' hk,Q1,Qu hk,qn,qeg];by_cases h : SegV l[k]
    · rw [Q0 h,Q2 h];rfl
    · rw [Q3 h,Q4 h];rfl
  · refine key _ (fun k hk=>?_) (by simp only [qdx,dnl',qz]);simp only [qdx,dlt' hk,Q1,Qu hk,qn,qe3];by_cases h : SegV l[k]
    · rw [Q0 h,Q2 h];rfl
    · rw [Q3 h,Q4 h];rfl
theorem qlq {l : List qr} (a : l.length≤400) (b : ∀ s∈l,SegV s) : (∃ n,J5 l = some (n,0)∧q8y l = some (n,0)∧Zo (rowP l) (colP l) n)∨(J5 l = some (net0,4)∧q8y l = some (net0,4)∧q7l (rowP l) (colP l)):=by
  unfold J5 q8y;rw [Q4 (show ¬ (l.length : Int) > 400 by omega),qz,qz,(qlp l a).1,(qlp l a).2,Q0 b,← qma a b];rcases qdj a b with ⟨n,e,h⟩ | ⟨e,h⟩
  · exact .inl ⟨n,by rw [qn,e];rfl,by rw [qn,e];rfl,h⟩
  · exact .inr ⟨by rw [qn,e];rfl,by rw [qn,e];rfl,h⟩
end Go.Sh
namespace Go.Sh
open Go Go.Am
open Classical
noncomputable def Je (n : Qh) (e : qj) : qr:={A:=(n.Nodes[e.A.toNat]?).getD default,B:=(n.Nodes[e.B.toNat]?).getD default}
def eOk (n : Qh) (e : qj) : Prop:=(0≤e.A∧e.A < n.Nodes.length)∧(0≤e.B∧e.B < n.Nodes.length)∧SegV (Je n e)
noncomputable def q2x (n : Qh) : List qr × Bool:=if ∀ e∈n.Edges,eOk n e then (n.Edges.map (Je n),true) else ([],false)
theorem qd2 {N : List qa} {a : Int} (h : 0≤a∧a < N.length) : idx N a = some ((N[a.toNat]?).getD default):=by
  rw [q5b (k:=a.toNat) q7 q7,List.getElem?_eq_getElem q7];rfl
theorem qcq (n : Qh) (r : n.Edges.length≤1000) : q4t n = some (q2x n):=by
  have:=Ku (f:=Uz n) (σ:=List qr) (fun k c=>((k : Int),c)) n.Edges.length (fun k c=>(∀ i (h : i < n.Edges.length),i < k→eOk n n.Edges[i])∧c = (n.Edges.take k).map (Je n)) (fun o=>o = if ∀ e∈n.Edges,eOk n e then .inl (n.Edges.map (Je n)) else .inr ([],false)) ?_ ?_ (k0:=0) (c0:=[]) q7 ⟨fun i h q=>q7,rfl⟩
  · obtain ⟨o,e,l⟩:=this;have e : loop (Uz n) (0,[]) = some o:=e;unfold q4t q2x;rw [e,l];by_cases h : ∀ e∈n.Edges,eOk n e
    · simp only [Q0 h];rfl
    · simp only [Q3 h];rfl
  · rintro k c hk ⟨g,rfl⟩;have hb : decide ((k : Int) < (n.Edges.length : Int)) = true:=Q2 q7
    have bad : ¬ eOk n n.Edges[k]→(Sum.inr ([],false) : List qr ⊕ (List qr × Bool)) = if ∀ e∈n.Edges,eOk n e then .inl (n.Edges.map (Je n)) else .inr ([],false):=fun h=>by
      rw [Q3 (fun m=>h (m _ (Ke hk)))]
    by_cases a : (0≤n.Edges[k].A∧n.Edges[k].A < n.Nodes.length)∧(0≤n.Edges[k].B∧n.Edges[k].B < n.Nodes.length)
    · have d : (cond (decide ((min n.Edges[k].A n.Edges[k].B) < 0)) (some true) (some (decide ((max n.Edges[k].A n.Edges[k].B) ≥ (n.Nodes.length : Int))))) = some false:=by
        rw [Q4 q7,qz,Q4 q7]
      have hs : ({A:=(n.Nodes[(n.Edges[k].A).toNat]?).getD default,B:=(n.Nodes[(n.Edges[k].B).toNat]?).getD default} : qr) = Je n n.Edges[k]:=rfl;by_cases b : SegV (Je n n.Edges[k])
      · refine .inl ⟨(n.Edges.take (k + 1)).map (Je n),?_,fun i hi j=>?_,rfl⟩
        · simp only [Uz,hb,Q1,Qu hk,qn,d,qz,qd2 a.1,qd2 a.2,hs,qeg,Q2 b,Bool.not_true];rw [Y9 (by simp;omega),qn,Qb q7,List.take_succ_eq_append_getElem hk,List.map_append];rfl
        · by_cases e : i = k
          · subst e;exact ⟨a.1,a.2,b⟩
          · exact g i hi q7
      · refine .inr ⟨_,?_,bad fun h=>b h.2.2⟩;simp only [Uz,hb,Q1,Qu hk,qn,d,qz,qd2 a.1,qd2 a.2,hs,qeg,Q4 b,Bool.not_false]
    · have d : (cond (decide ((min n.Edges[k].A n.Edges[k].B) < 0)) (some true) (some (decide ((max n.Edges[k].A n.Edges[k].B) ≥ (n.Nodes.length : Int))))) = some true:=by
        by_cases h : min n.Edges[k].A n.Edges[k].B < 0
        · rw [Q2 h];rfl
        · rw [Q4 h,qz,Q2 q7]
      refine .inr ⟨_,?_,bad fun h=>a ⟨h.1,h.2.1⟩⟩;simp only [Uz,hb,Q1,Qu hk,qn,d]
  · rintro c ⟨g,rfl⟩;have hb : decide ((n.Edges.length : Int) < (n.Edges.length : Int)) = false:=Q4 q7;refine ⟨.inl _,by simp only [Uz,hb,qz];rfl,?_⟩;rw [Q0,List.take_length];intro e p;obtain ⟨i,hi,rfl⟩:=List.mem_iff_getElem.1 p;exact g i hi hi
theorem qnp (n : Qh) (g : n.Edges.length≤1000) : qdy n = some (q2x n):=by
  have e : qh6 n = Uz n:=by
    funext a;simp only [qh6,Uz,qeg,qe3];congr 1;congr 1;funext v
    have j : ((cond (decide (v.A < 0)) (some true) (some (decide (v.A ≥ (n.Nodes.length : Int))))).bind fun c=>(cond c (some true) (some (decide (v.B < 0)))).bind fun b=>(cond b (some true) (some (decide (v.B ≥ (n.Nodes.length : Int)))))) = (cond (decide ((min v.A v.B) < 0)) (some true) (some (decide ((max v.A v.B) ≥ (n.Nodes.length : Int))))):=by
      by_cases d : v.A < 0 <;> by_cases f : v.A ≥ (n.Nodes.length : Int) <;> by_cases b1 : v.B < 0 <;> by_cases b2 : v.B ≥ (n.Nodes.length : Int)
      all_goals
        simp only [d,f,b1,b2,decide_true,decide_false,Q1,qz,qn]
        symm
        by_cases h : min v.A v.B < 0
        · first | (rw [Q2 h,Q1];done) | omega
        · rw [Q4 h,qz]
          congr 1
          first | exact Q2 q7 | exact Q4 q7 | omega
    rw [← j];simp only [Option.bind_assoc]
  rw [← qcq n g];unfold qdy q4t;rw [e]
end Go.Sh
namespace Go.Sh
open Go Go.Am
open Classical
structure J7 (n : Qh) (l : List qr) : Prop where
  drawn : q2x n = (l,true)
  len : l.length = n.Edges.length
  le : n.Edges.length≤400
  val : ∀ s∈l,SegV s
  net : Zo (rowP l) (colP l) n
theorem qrs {n : Qh} {l : List qr} (h : q2x n = (l,true)) : l = n.Edges.map (Je n)∧∀ e∈n.Edges,eOk n e:=by
  unfold q2x at h;split at h
  · rename_i a;cases h;exact ⟨rfl,a⟩
  · cases h
def Fit (n : Qh) : Prop:=(n.Nodes.length≤100000∧n.Edges.length≤1000)∧(n.Edges.length≤400∨400 < n.Nodes.length∨800 < n.Edges.length)
theorem q105 {n : Qh} (q : Fit n) : ∃ c,Uy n = some c∧q3b n = some c∧((c = 0∧∃ l,J7 n l)∨c = 4∨c = 8):=by
  obtain ⟨⟨f1,o⟩,u⟩:=q;unfold Uy q3b;by_cases k : 400 < n.Nodes.length∨800 < n.Edges.length
  · have e : (cond (decide ((n.Nodes.length : Int) > 400)) (some true) (some (decide ((n.Edges.length : Int) > 800)))) = some true:=by
      by_cases h : (n.Nodes.length : Int) > 400
      · rw [Q2 h];rfl
      · rw [Q4 h,qz,Q2 q7]
    rw [e];exact ⟨4,rfl,rfl,.inr (.inl rfl)⟩
  · have e : (cond (decide ((n.Nodes.length : Int) > 400)) (some true) (some (decide ((n.Edges.length : Int) > 800)))) = some false:=by
      rw [Q4 q7,qz,Q4 q7]
    have p : n.Edges.length≤400:=by omega
    rw [e,qn,qz,qcq n o,qn,qn,qz,qnp n o,qn]
    cases hd : q2x n with
    | mk l b=>
      cases b with
      | false=>exact ⟨8,rfl,rfl,.inr (.inr rfl)⟩
      | true=>
        obtain ⟨j,r⟩:=qrs hd
        have a : ∀ s∈l,SegV s:=by
          subst j;intro s hs;obtain ⟨e,t,rfl⟩:=List.mem_map.1 hs;exact (r e t).2.2
        have d : l.length = n.Edges.length:=by rw [j];simp
        simp only [Bool.not_true,qz];rw [← qma q7 a];rcases qdj q7 a with ⟨m,e1,f⟩ | ⟨e1,f⟩
        · rw [e1];have:=f.nlen;have:=f.elen;simp only [qn,Bool.not_true,qz,qo8 m n q7 q7,qe2 m n q7 q7];by_cases g : m = n
          · subst g;rw [Q2 rfl];exact ⟨0,rfl,rfl,.inl ⟨rfl,l,hd,d,p,a,f⟩⟩
          · rw [Q4 g];exact ⟨8,rfl,rfl,.inr (.inr rfl)⟩
        · rw [e1];exact ⟨8,rfl,rfl,.inr (.inr rfl)⟩
theorem qhk {n : Qh} (a : Fit n) : ∃ l c,q3i n = some (l,c)∧q92 n = some (l,c)∧Uy n = some c∧q3b n = some c∧((c = 0∧J7 n l)∨((c = 4∨c = 8)∧l = [])):=by
  obtain ⟨c,e1,d,h⟩:=q105 a;unfold q3i q92;rw [e1,d];rcases h with ⟨rfl,l,b⟩ | h
  · refine ⟨l,0,?_,?_,rfl,rfl,.inl ⟨rfl,b⟩⟩
    · simp only [qn];rw [qcq n a.1.2,b.drawn];rfl
    · simp only [qn];rw [qnp n a.1.2,b.drawn];rfl
  · have : (c != 0) = true:=by rcases h with rfl | rfl <;> rfl
    refine ⟨[],c,?_,?_,rfl,rfl,.inr ⟨h,rfl⟩⟩
    · simp only [qn,this,Q1]
    · simp only [qn,this,Q1]
end Go.Sh
namespace Go.Sh
open Go Go.Am
open Classical
def J3 (s : qr) (p : qa) : Prop:=(min s.A.X s.B.X≤p.X∧p.X≤max s.A.X s.B.X)∧min s.A.Y s.B.Y≤p.Y∧p.Y≤max s.A.Y s.B.Y
theorem qmt (s : qr) (p : qa) : q7c s p = some (decide (J3 s p)):=by
  unfold q7c;by_cases h : J3 s p
  · rw [Q2 h];obtain ⟨⟨c,a⟩,d,b⟩:=h;rw [Q2 c,Q1,Q2 a,Q2 d,Q2 b];rfl
  · rw [Q4 h];unfold J3 at h;by_cases c : min s.A.X s.B.X≤p.X <;> by_cases a : p.X≤max s.A.X s.B.X <;> by_cases d : min s.A.Y s.B.Y≤p.Y <;> by_cases b : p.Y≤max s.A.Y s.B.Y
    all_goals first | (exfalso;exact h ⟨⟨c,a⟩,d,b⟩) | (simp only [c,a,d,b,decide_true,decide_false,Q1,qz,qn])
theorem qh8 (s : qr) (p : qa) : q91 s p = some (decide (J3 s p)):=qmt s p
theorem q118 (l : List qr) (p : qr→Option Bool) (c : qr→Bool) (h : ∀ t,p t = some (c t)) (n : l.length≤1000000) : q6e l p = some (l.any c):=by
  have:=Ku (f:=q3d l p) (σ:=Unit) (fun k _=>(k : Int)) l.length (fun k _=>∀ i (hi : i < l.length),i < k→c l[i] = false) (fun o=>(∃ k : Nat,o = .inr (k : Int)∧l.any c = true)∨(o = .inl ()∧l.any c = false)) ?_ ?_ (k0:=0) (c0:=()) q7 (fun i hi h=>q7)
  · obtain ⟨o,e,g⟩:=this;have e : loop (q3d l p) 0 = some o:=e;unfold q6e qe7;rw [e];rcases g with ⟨k,rfl,d⟩ | ⟨rfl,d⟩
    · simp only [qn,d];rw [Q2 (show (k : Int) ≥ 0 by omega)]
    · simp only [qn,d];rfl
  · rintro k _ hk b
    cases a : c l[k] with
    | true=>
      refine .inr ⟨.inr (k : Int),?_,.inl ⟨k,rfl,List.any_eq_true.2 ⟨_,Ke hk,a⟩⟩⟩;simp only [q3d,dlt' hk,Q1,Qu hk,qn,h,a]
    | false=>
      refine .inl ⟨(),?_,fun i hi m=>?_⟩
      · simp only [q3d,dlt' hk,Q1,Qu hk,qn,h,a,qz];rw [Qb q7];rfl
      · by_cases e : i = k
        · subst e;exact a
        · exact b i hi q7
  · rintro _ b;refine ⟨.inl (),by simp only [q3d,dnl',qz],.inr ⟨rfl,List.any_eq_false.2 fun x j=>?_⟩⟩;obtain ⟨i,hi,rfl⟩:=List.mem_iff_getElem.1 j;rw [b i hi hi];simp
noncomputable def Zc (l : List qr) (p : qa) : Bool:=l.any fun s=>decide (J3 s p)
theorem qz3 (l : List qr) (c : Int) (p : qa) (m : l.length≤1000000) : loop (q4d (l,c) p) 0 = some (if Zc l p = true then .inr (true,0) else .inl ()):=by
  have:=Ku (f:=q4d (l,c) p) (σ:=Unit) (fun k _=>(k : Int)) l.length (fun k _=>∀ i (hi : i < l.length),i < k→¬ J3 l[i] p) (fun o=>o = if Zc l p = true then .inr (true,0) else .inl ()) ?_ ?_ (k0:=0) (c0:=()) q7 (fun i hi h=>q7)
  · obtain ⟨o,e,rfl⟩:=this;exact e
  · rintro k _ hk b;by_cases a : J3 l[k] p
    · refine .inr ⟨.inr (true,0),?_,?_⟩
      · simp only [q4d,dlt' hk,Q1,Qu hk,qn,qh8,Q2 a]
      · have : Zc l p = true:=List.any_eq_true.2 ⟨_,Ke hk,Q2 a⟩;rw [Q0 this]
    · refine .inl ⟨(),?_,fun i hi j=>?_⟩
      · simp only [q4d,dlt' hk,Q1,Qu hk,qn,qh8,Q4 a,qz];rw [Qb q7];rfl
      · by_cases e : i = k
        · subst e;exact a
        · exact b i hi q7
  · rintro _ b;refine ⟨.inl (),by simp only [q4d,dnl',qz],?_⟩;rw [Q3];intro h;obtain ⟨x,g,d⟩:=List.any_eq_true.1 h;obtain ⟨i,hi,rfl⟩:=List.mem_iff_getElem.1 g;exact b i hi hi (of_decide_eq_true d)
theorem J7.len400 {n : Qh} {l : List qr} (h : J7 n l) : l.length≤400:=by have:=h.len;have:=h.le;omega
theorem qg3 {n : Qh} (o : Fit n) (p : qa) : ∃ b c,q4s n p = some (b,c)∧qnk n p = some (b,c)∧Uy n = some c∧(∀ l,J7 n l→b = Zc l p∧c = 0):=by
  obtain ⟨l,c,e1,r,d,_,h⟩:=qhk o;unfold q4s qnk;rw [e1,r];rcases h with ⟨rfl,hs⟩ | ⟨h,rfl⟩
  · have v:=hs.len400;refine ⟨Zc l p,0,?_,?_,d,fun l' a=>⟨?_,rfl⟩⟩
    · simp only [qn];show (q6e l fun k=>qbw k p).bind (fun q=>some (q,0)) = _;rw [q118 l _ (fun s=>decide (J3 s p)) (fun t=>by show (q7c t p).bind _ = _;rw [qmt];rfl) q7];rfl
    · simp only [qn];show (loop (q4d (l,0) p) 0).bind _ = _;rw [qz3 l 0 p q7];cases Zc l p <;> rfl
    · have:=hs.drawn;have:=a.drawn;simp_all
  · have j : (c != 0) = true:=by rcases h with rfl | rfl <;> rfl
    refine ⟨false,c,?_,?_,d,fun l' a=>?_⟩
    · simp only [qn,j,Q1]
    · simp only [qn,j,Q1]
    · exfalso;unfold Uy at d;have w:=a.net.nlen;have u:=a.net.elen;rw [Q4 (show ¬ (n.Nodes.length : Int) > 400 by omega),qz,Q4 (show ¬ (n.Edges.length : Int) > 800 by omega),qn,qz,qcq n q7,qn,a.drawn] at d;simp only [Bool.not_true,qz] at d;rcases qdj a.len400 a.val with ⟨m,g,f⟩ | ⟨g,f⟩
      · have:=f.uniq a.net;subst this;rw [g] at d;simp only [qn,Bool.not_true,qz,qo8 m m q7 q7,decide_true] at d;have : c = 0:=(Zg (show some (0 : Int) = some c from d)).symm;rcases h with rfl | rfl <;> cases this
      · have:=f.not a.net.nodes;omega
theorem qum {l : List qr} (d : ∀ s∈l,SegV s) (c : Int) : q1u (l,c) = qdv (l,c):=by
  funext a;unfold q1u qdv;congr 1
  cases h : idx l a.2 with
  | none=>rfl
  | some v=>
    have b : v∈l:=by
      unfold idx at h;split at h
      · exact List.mem_of_getElem? h
      · cases h
    obtain ⟨⟨g,j,m,f⟩,⟨b1,b2,n,k⟩,_⟩:=d v b;simp only [qn,qnm]
    have e : (w64 ((w64 ((w64 ((max v.A.X v.B.X) - (min v.A.X v.B.X))) + (max v.A.Y v.B.Y))) - (min v.A.Y v.B.Y))) = w64 ((max (w64 (v.A.X - v.B.X)) (w64 (v.B.X - v.A.X))) + (max (w64 (v.A.Y - v.B.Y)) (w64 (v.B.Y - v.A.Y)))):=by
      rw [Qb (x:=(max v.A.X v.B.X) - (min v.A.X v.B.X)) q7,Qb (x:=v.A.X - v.B.X) q7,Qb (x:=v.B.X - v.A.X) q7,Qb (x:=v.A.Y - v.B.Y) q7,Qb (x:=v.B.Y - v.A.Y) q7];rw [Qb (x:=(max v.A.X v.B.X) - (min v.A.X v.B.X) + max v.A.Y v.B.Y) q7,Qb q7,Qb q7];omega
    rw [e]
end Go.Sh
namespace Go.Sh
open Go Go.Am
open Classical
def q6d (s : qr) : Int:=(max s.A.X s.B.X - min s.A.X s.B.X) + (max s.A.Y s.B.Y - min s.A.Y s.B.Y)
def Yv : List qr→Int
  | []=>0
  | s::l=>q6d s + Yv l
theorem qui (a b : List qr) : Yv (a ++ b) = Yv a + Yv b:=by
  induction a with
  | nil=>simp [Yv]
  | cons s a ih=>simp only [List.cons_append,Yv,ih];omega
theorem qoc {s : qr} (h : SegV s) : 0≤q6d s∧q6d s≤4000000:=by
  obtain ⟨⟨b,c,f,a⟩,⟨b1,b2,g,d⟩,_⟩:=h;unfold q6d;omega
theorem qle : ∀ {l : List qr},(∀ s∈l,SegV s)→0≤Yv l∧Yv l≤4000000 * (l.length : Int)
  | [],_=>by simp [Yv]
  | s::l,h=>by
    have:=qoc (h s qb)
    have:=qle (l:=l) fun t a=>h t (by simp [a])
    simp only [Yv,List.length_cons];omega
theorem quk {l : List qr} (g : ∀ s∈l,SegV s) (o : l.length≤1000) (c : Int) : loop (q1u (l,c)) (0,0) = some (Yv l):=by
  have:=Ku (f:=q1u (l,c)) (σ:=Int) (fun k a=>(a,(k : Int))) l.length (fun k a=>a = Yv (l.take k)) (fun a=>a = Yv l) ?_ ?_ (k0:=0) (c0:=0) q7 (by simp [Yv])
  · obtain ⟨b,j,rfl⟩:=this;exact j
  · rintro k a hk rfl;refine .inl ⟨Yv (l.take (k + 1)),?_,rfl⟩;have hb:=qle (l:=l.take k) fun s hs=>g s (List.mem_of_mem_take hs);have h:=qoc (g _ (Ke hk));obtain ⟨⟨r,t,u,n⟩,⟨b1,b2,q,p⟩,_⟩:=g _ (Ke hk);have d : (l.take k).length = k:=by simp;omega
    rw [d] at hb
    have e1 : Yv (l.take (k + 1)) = Yv (l.take k) + q6d l[k]:=by
      rw [List.take_succ_eq_append_getElem hk,qui];simp [Yv]
    have m : w64 ((max l[k].A.X l[k].B.X) - (min l[k].A.X l[k].B.X)) = (max l[k].A.X l[k].B.X) - (min l[k].A.X l[k].B.X):=Qb q7;simp only [q1u,dlt' hk,Q1,Qu hk,qn,m];rw [Qb (x:=(max l[k].A.X l[k].B.X) - (min l[k].A.X l[k].B.X) + max l[k].A.Y l[k].B.Y) q7,Qb (x:=(max l[k].A.X l[k].B.X) - (min l[k].A.X l[k].B.X) + max l[k].A.Y l[k].B.Y - min l[k].A.Y l[k].B.Y) q7];unfold q6d at h e1;rw [Qb (x:=Yv (l.take k) + _) q7,Qb q7,e1];congr 3;omega
  · rintro a rfl;exact ⟨_,by simp only [q1u,dnl',qz];rfl,by rw [List.take_length]⟩
theorem qun {n : Qh} (m : Fit n) : ∃ a c,q78 n = some (a,c)∧qnl n = some (a,c)∧Uy n = some c∧(∀ l,J7 n l→a = Yv l):=by
  obtain ⟨l,c,e1,p,f,_,h⟩:=qhk m;unfold q78 qnl;rw [e1,p];rcases h with ⟨rfl,hs⟩ | ⟨h,rfl⟩
  · have s:=hs.len400;have j:=quk hs.val q7 0;have o:=j;rw [qum hs.val 0] at o;refine ⟨Yv l,0,?_,?_,f,fun l' d=>?_⟩
    · simp only [qn];show (loop (q1u (l,0)) (0,0)).bind _ = _;rw [j];rfl
    · simp only [qn];show (loop (qdv (l,0)) (0,0)).bind _ = _;rw [o];rfl
    · have:=hs.drawn;have:=d.drawn;simp_all
  · have g : (c != 0) = true:=by rcases h with rfl | rfl <;> rfl
    refine ⟨0,c,?_,?_,f,fun l' d=>?_⟩
    · simp only [qn,g,Q1]
    · simp only [qn,g,Q1]
    · obtain ⟨b,r,_,_,k,q⟩:=qg3 m {X:=0,Y:=0};rw [f] at k;have:=(q l' d).2;cases k;subst this;exact absurd g qy
section
variable {F G : Int→Int→Prop} {N : List qa}
theorem qzu (k : Yg F G N) (hb : ∀ y x,F y x→x≤1000000) {i : Nat} (hi : i < N.length) (c : F N[i].Y N[i].X) : ∃ j,∃ h : j < N.length,i < j∧N[j].Y = N[i].Y:=by
  refine Classical.byContradiction fun a=>?_
  have step : ∀ x,N[i].X < x→(F N[i].Y x↔F N[i].Y (x - 1)):=by
    intro x l;refine q5s (G:=G) fun b=>a ?_;obtain ⟨m,d,g⟩:=List.mem_iff_getElem.1 ((k.mem {X:=x,Y:=N[i].Y}).2 b);have ex : N[m].X = x:=by rw [g]
    have o : N[m].Y = N[i].Y:=by rw [g]
    exact ⟨m,d,J4 k.srt hi d (by unfold ltP;omega),o⟩
  have l:=hb _ _ c;obtain ⟨n,b⟩ : ∃ n : Nat,N[i].X + (n : Int) = 1000001:=⟨(1000001 - N[i].X).toNat,q7⟩
  have:=Jr (f:=F N[i].Y) (lo:=N[i].X) n fun x p q=>step x p;rw [b] at this;have:=hb _ _ (this.1 c);omega
theorem qr8 (k : Yg F G N) (hb : ∀ x y,G x y→y≤1000000) {i : Nat} (hi : i < N.length) (c : G N[i].X N[i].Y) : ∃ j,∃ h : j < N.length,i < j∧N[j].X = N[i].X:=by
  refine Classical.byContradiction fun a=>?_
  have step : ∀ y,N[i].Y < y→(G N[i].X y↔G N[i].X (y - 1)):=by
    intro y p;refine q5r (F:=F) fun b=>a ?_;obtain ⟨m,d,g⟩:=List.mem_iff_getElem.1 ((k.mem {X:=N[i].X,Y:=y}).2 b);have ex : N[m].X = N[i].X:=by rw [g]
    have r : N[m].Y = y:=by rw [g]
    exact ⟨m,d,J4 k.srt hi d (by unfold ltP;omega),ex⟩
  have q:=hb _ _ c;obtain ⟨n,b⟩ : ∃ n : Nat,N[i].Y + (n : Int) = 1000001:=⟨(1000001 - N[i].Y).toNat,q7⟩
  have:=Jr (f:=G N[i].X) (lo:=N[i].Y) n fun y l o=>step y l;rw [b] at this;have:=hb _ _ (this.1 c);omega
theorem qfv {P : Nat→Prop} {a : Nat} : ∀ {n : Nat},(∃ j,a < j∧j < n∧P j)→∃ j,a < j∧j < n∧P j∧∀ m,a < m→m < j→¬ P m
  | 0,⟨j,_,h,_⟩=>by omega
  | n + 1,⟨j,h1,h,hp⟩=>by
    by_cases e : ∃ j,a < j∧j < n∧P j
    · obtain ⟨k,b,d,c⟩:=qfv e
      exact ⟨k,b,q7,c⟩
    · have : j = n:=by
        refine Classical.byContradiction fun f=>e ⟨j,h1,q7,hp⟩
      subst this
      exact ⟨j,h1,q7,hp,fun m b d c=>e ⟨m,b,d,c⟩⟩
theorem qmd (l : Yg F G N) (hb : ∀ y x,F y x→x≤1000000) {i : Nat} (hi : i < N.length) (c : F N[i].Y N[i].X) : ∃ k,Z4 N i k:=by
  obtain ⟨j,h,b,r⟩:=qzu l hb hi c;obtain ⟨m,t,d,⟨o,f⟩,g⟩:=qfv (P:=fun j=>∃ h : j < N.length,N[j].Y = N[i].Y) (a:=i) (n:=N.length) ⟨j,b,h,h,r⟩;exact ⟨m,t,o,fun _ _=>f,fun q _ p s u e=>g q s u ⟨p,e⟩⟩
theorem qmc (l : Yg F G N) (hb : ∀ x y,G x y→y≤1000000) {i : Nat} (hi : i < N.length) (c : G N[i].X N[i].Y) : ∃ k,Yz N i k:=by
  obtain ⟨j,h,b,r⟩:=qr8 l hb hi c;obtain ⟨m,t,d,⟨o,f⟩,g⟩:=qfv (P:=fun j=>∃ h : j < N.length,N[j].X = N[i].X) (a:=i) (n:=N.length) ⟨j,b,h,h,r⟩;exact ⟨m,t,o,fun _ _=>f,fun q _ p s u e=>g q s u ⟨p,e⟩⟩
theorem Z4.fun' {i j k : Nat} (a : Z4 N i j) (b : Z4 N i k) : j = k:=by
  have hi : i < N.length:=by have:=a.lt;have:=a.hk;omega
  rcases Nat.lt_trichotomy j k with h | h | h
  · exact absurd (a.eq hi a.hk) (b.no j hi a.hk a.lt h)
  · exact h
  · exact absurd (b.eq hi b.hk) (a.no k hi b.hk b.lt h)
theorem Yz.fun' {i j k : Nat} (a : Yz N i j) (b : Yz N i k) : j = k:=by
  have hi : i < N.length:=by have:=a.lt;have:=a.hk;omega
  rcases Nat.lt_trichotomy j k with h | h | h
  · exact absurd (a.eq hi a.hk) (b.no j hi a.hk a.lt h)
  · exact h
  · exact absurd (b.eq hi b.hk) (a.no k hi b.hk b.lt h)
def b2i (b : Bool) : Nat:=cond b 1 0
theorem qrn (o : Yg F G N) {E : List qj} (w : q3r F G N E) (v : ∀ y x,F y x→-1000000≤x∧x≤1000000) (z : ∀ x y,G x y→-1000000≤y∧y≤1000000) {i : Nat} (hi : i < N.length) :
    (E.filter fun e=>decide (e.A = (i : Int)∨e.B = (i : Int))).length = b2i (decide (F N[i].Y N[i].X)) + b2i (decide (G N[i].X N[i].Y)) + b2i (decide (F N[i].Y (N[i].X - 1))) + b2i (decide (G N[i].X (N[i].Y - 1))):=by
  have l : ∀ y x,F y x→-1000000≤x:=fun y x h=>(v y x h).1;have m : ∀ x y,G x y→-1000000≤y:=fun x y h=>(z x y h).1;have t : E.Nodup:=w.srt.imp (by rintro a b h rfl;exact qlm a a h h)
  obtain ⟨q1,n1,r,l1⟩ : ∃ q : List qj,q.Nodup∧(∀ e,e∈q↔∃ k : Nat,e = {A:=(i : Int),B:=(k : Int)}∧Z4 N i k∧F N[i].Y N[i].X)∧q.length = b2i (decide (F N[i].Y N[i].X)):=by
    by_cases h : F N[i].Y N[i].X
    · obtain ⟨k,hk⟩:=qmd o (fun y x h=>(v y x h).2) hi h;refine ⟨[{A:=(i : Int),B:=(k : Int)}],qb,fun e=>?_,by rw [Q2 h];rfl⟩;rw [List.mem_singleton];constructor
      · rintro rfl;exact ⟨k,rfl,hk,h⟩
      · rintro ⟨n,rfl,g,_⟩;rw [g.fun' hk]
    · exact ⟨[],.nil,fun e=>⟨fun h=>(by cases h),fun ⟨_,_,_,h'⟩=>absurd h' h⟩,by rw [Q4 h];rfl⟩
  obtain ⟨q2,n2,p,l2⟩ : ∃ q : List qj,q.Nodup∧(∀ e,e∈q↔∃ k : Nat,e = {A:=(i : Int),B:=(k : Int)}∧Yz N i k∧G N[i].X N[i].Y)∧q.length = b2i (decide (G N[i].X N[i].Y)):=by
    by_cases h : G N[i].X N[i].Y
    · obtain ⟨k,hk⟩:=qmc o (fun y x h=>(z y x h).2) hi h;refine ⟨[{A:=(i : Int),B:=(k : Int)}],qb,fun e=>?_,by rw [Q2 h];rfl⟩;rw [List.mem_singleton];constructor
      · rintro rfl;exact ⟨k,rfl,hk,h⟩
      · rintro ⟨n,rfl,g,_⟩;rw [g.fun' hk]
    · exact ⟨[],.nil,fun e=>⟨fun h=>(by cases h),fun ⟨_,_,_,h'⟩=>absurd h' h⟩,by rw [Q4 h];rfl⟩
  obtain ⟨q3,n3,s,l3⟩ : ∃ q : List qj,q.Nodup∧(∀ e,e∈q↔∃ k : Nat,e = {A:=(k : Int),B:=(i : Int)}∧Z4 N k i∧F N[i].Y (N[i].X - 1))∧q.length = b2i (decide (F N[i].Y (N[i].X - 1))):=by
    by_cases h : F N[i].Y (N[i].X - 1)
    · obtain ⟨k,hk⟩:=qnc o l hi h;refine ⟨[{A:=(k : Int),B:=(i : Int)}],qb,fun e=>?_,by rw [Q2 h];rfl⟩;rw [List.mem_singleton];constructor
      · rintro rfl;exact ⟨k,rfl,hk,h⟩
      · rintro ⟨n,rfl,g,_⟩;rw [g.uniq hk]
    · exact ⟨[],.nil,fun e=>⟨fun h=>(by cases h),fun ⟨_,_,_,h'⟩=>absurd h' h⟩,by rw [Q4 h];rfl⟩
  obtain ⟨q4,n4,m4,l4⟩ : ∃ q : List qj,q.Nodup∧(∀ e,e∈q↔∃ k : Nat,e = {A:=(k : Int),B:=(i : Int)}∧Yz N k i∧G N[i].X (N[i].Y - 1))∧q.length = b2i (decide (G N[i].X (N[i].Y - 1))):=by
    by_cases h : G N[i].X (N[i].Y - 1)
    · obtain ⟨k,hk⟩:=qnb o m hi h;refine ⟨[{A:=(k : Int),B:=(i : Int)}],qb,fun e=>?_,by rw [Q2 h];rfl⟩;rw [List.mem_singleton];constructor
      · rintro rfl;exact ⟨k,rfl,hk,h⟩
      · rintro ⟨n,rfl,g,_⟩;rw [g.uniq hk]
    · exact ⟨[],.nil,fun e=>⟨fun h=>(by cases h),fun ⟨_,_,_,h'⟩=>absurd h' h⟩,by rw [Q4 h];rfl⟩
  have hp : (E.filter fun e=>decide (e.A = (i : Int)∨e.B = (i : Int))).Perm (q1 ++ q2 ++ q3 ++ q4):=by
    rw [List.perm_ext_iff_of_nodup (t.sublist List.filter_sublist) ?_]
    · intro e;simp only [List.mem_filter,decide_eq_true_eq,List.mem_append,r,p,s,m4,w.mem];constructor
      · rintro ⟨⟨a,b,rfl,j⟩,h | h⟩
        · simp only at h;obtain rfl : a = i:=by omega
          obtain ⟨_,⟨c,d⟩ | ⟨c,d⟩⟩:=j
          · exact .inl (.inl (.inr ⟨b,rfl,c,d⟩))
          · exact .inl (.inl (.inl ⟨b,rfl,c,d⟩))
        · simp only at h;obtain rfl : b = i:=by omega
          rcases (qd4 o l m hi a).1 j with ⟨c,d⟩ | ⟨c,d⟩
          · exact .inl (.inr ⟨a,rfl,c,d⟩)
          · exact .inr ⟨a,rfl,c,d⟩
      · rintro (((⟨k,rfl,c,d⟩ | ⟨k,rfl,c,d⟩) | ⟨k,rfl,c,d⟩) | ⟨k,rfl,c,d⟩)
        · exact ⟨⟨i,k,rfl,hi,.inr ⟨c,d⟩⟩,.inl rfl⟩
        · exact ⟨⟨i,k,rfl,hi,.inl ⟨c,d⟩⟩,.inl rfl⟩
        · exact ⟨⟨k,i,rfl,(qd4 o l m hi k).2 (.inl ⟨c,d⟩)⟩,.inr rfl⟩
        · exact ⟨⟨k,i,rfl,(qd4 o l m hi k).2 (.inr ⟨c,d⟩)⟩,.inr rfl⟩
    · have u : ∀ {a b : Nat},Yz N a b→Z4 N a b→False:=fun {a b} c d=>by
        have:=qme o.srt c d;omega
      rw [List.nodup_append,List.nodup_append,List.nodup_append];refine ⟨⟨⟨n1,n2,fun a f b hb e=>?_⟩,n3,fun a f b hb e=>?_⟩,n4,fun a f b hb e=>?_⟩
      · subst e;obtain ⟨k,rfl,c,_⟩:=(r _).1 f;obtain ⟨n,j,d,_⟩:=(p _).1 hb;simp only [qj.mk.injEq,true_and] at j;obtain rfl : k = n:=by omega
        exact u d c
      · subst e;obtain ⟨n,rfl,d,_⟩:=(s _).1 hb;have:=d.lt;rcases List.mem_append.1 f with f | f
        · obtain ⟨k,j,c,_⟩:=(r _).1 f;simp only [qj.mk.injEq] at j;omega
        · obtain ⟨k,j,c,_⟩:=(p _).1 f;simp only [qj.mk.injEq] at j;omega
      · subst e;obtain ⟨n,rfl,d,_⟩:=(m4 _).1 hb;have:=d.lt;rcases List.mem_append.1 f with f | f
        · rcases List.mem_append.1 f with f | f
          · obtain ⟨k,j,c,_⟩:=(r _).1 f;simp only [qj.mk.injEq] at j;omega
          · obtain ⟨k,j,c,_⟩:=(p _).1 f;simp only [qj.mk.injEq] at j;omega
        · obtain ⟨k,j,c,_⟩:=(s _).1 f;simp only [qj.mk.injEq,and_true] at j;obtain rfl : n = k:=by omega
          exact u d c
  rw [hp.length_eq];simp only [List.length_append,l1,l2,l3,l4]
end
end Go.Sh
namespace Go.Sh
open Go Go.Am
open Classical
def b2z (b : Bool) : Int:=cond b 1 0
theorem qco (q : Bool × Bool × Bool × Bool) (acc : Int) (i : Nat) (hi : i < 4) (a : 0≤acc∧acc≤10) (b : Bool) (hb : idxA 4 [q.1,q.2.1,q.2.2.1,q.2.2.2] (i : Int) = some b) : q3g q (acc,(i : Int)) = some (.inl (acc + b2z b,((i + 1 : Nat) : Int))):=by
  unfold q3g;simp only;rw [Q2 (show (i : Int) < 4 by omega),Q1,hb,qn,Qb (x:=(i : Int) + 1) q7];cases b
  · simp [b2z]
  · simp only [Q1,b2z];rw [Qb q7];rfl
theorem qrm (a b c d : Bool) : loop (q3g (a,b,c,d)) (0,0) = some (b2z a + b2z b + b2z c + b2z d):=by
  have h : ∀ x : Bool,0≤b2z x∧b2z x≤1:=by intro x;cases x <;> simp [b2z]
  have f:=h a;have hb:=h b;have g:=h c;have hd:=h d;show loop (q3g (a,b,c,d)) (0,((0 : Nat) : Int)) = _;rw [Kg (qco (a,b,c,d) 0 0 q7 q7 a rfl)];rw [Kg (qco (a,b,c,d) _ 1 q7 q7 b rfl)];rw [Kg (qco (a,b,c,d) _ 2 q7 q7 c rfl)];rw [Kg (qco (a,b,c,d) _ 3 q7 q7 d rfl)];have : q3g (a,b,c,d) (0 + b2z a + b2z b + b2z c + b2z d,((3 + 1 : Nat) : Int)) = some (.inr (0 + b2z a + b2z b + b2z c + b2z d)):=rfl;rw [Ki this];congr 1;omega
theorem qz4 (n : Qh) (p : Int) (l : n.Edges.length≤1000000) : loop (q8w n p) (0,0) = some ((n.Edges.filter fun e=>decide (e.A = p∨e.B = p)).length : Int):=by
  have:=Ku (f:=q8w n p) (σ:=Int) (fun k a=>(a,(k : Int))) n.Edges.length (fun k a=>a = (((n.Edges.take k).filter fun e=>decide (e.A = p∨e.B = p)).length : Int)) (fun a=>a = ((n.Edges.filter fun e=>decide (e.A = p∨e.B = p)).length : Int)) ?_ ?_ (k0:=0) (c0:=0) q7 qb
  · obtain ⟨b,j,rfl⟩:=this;exact j
  · rintro k a hk rfl;have h:=List.length_filter_le (fun e : qj=>decide (e.A = p∨e.B = p)) (n.Edges.take k);have g : (n.Edges.take k).length = k:=by simp;omega
    refine .inl ⟨_,?_,rfl⟩
    have d : (cond (n.Edges[k].A == p) (some true) ((idx n.Edges (k : Int)).bind fun c=>some (c.B == p))) = some (decide (n.Edges[k].A = p∨n.Edges[k].B = p)):=by
      rw [Qu hk,beqI];by_cases e1 : n.Edges[k].A = p
      · simp [e1]
      · rw [Q4 e1,qz,qn,beqI];simp [e1]
    simp only [Qu hk,qn] at d;simp only [q8w,dlt' hk,Q1,Qu hk,qn,d];rw [Qb (x:=(k : Int) + 1) q7,List.take_succ_eq_append_getElem hk,List.filter_append];by_cases e : n.Edges[k].A = p∨n.Edges[k].B = p
    · rw [Q2 e,Q1,Qb q7];simp [e]
    · rw [Q4 e,qz];simp [e]
  · rintro a rfl;exact ⟨_,by simp only [q8w,dnl',qz];rfl,by rw [List.take_length]⟩
noncomputable def degN (l : List qr) (p : qa) : Int:=b2z (decide (rowP l p.Y p.X)) + b2z (decide (colP l p.X p.Y)) + b2z (decide (rowP l p.Y (p.X - 1))) + b2z (decide (colP l p.X (p.Y - 1)))
theorem b2 (b : Bool) : ((b2i b : Nat) : Int) = b2z b:=by cases b <;> rfl
theorem qo5 {l : List qr} (a : ∀ s∈l,SegV s) (c : l.length≤400) : (∀ y x,rowP l y x→-1000000≤x∧x≤1000000)∧∀ x y,colP l x y→-1000000≤y∧y≤1000000:=by
  obtain ⟨r,_,d,b⟩:=qck c a;exact ⟨fun y x h=>by have:=d.bnd h;omega,fun x y h=>by have:=b.bnd h;omega⟩
theorem qhu {n : Qh} {l : List qr} (d : Fit n) (hs : J7 n l) : Uy n = some 0∧q3i n = some (l,0)∧q92 n = some (l,0)∧q3b n = some 0:=by
  obtain ⟨b,c,_,_,f,h⟩:=qg3 d {X:=0,Y:=0};obtain ⟨l',q,k,m,g,j,o⟩:=qhk d;have p:=(h l hs).2;subst p;rw [f] at g;cases g;rcases o with ⟨_,a⟩ | ⟨a,_⟩
  · have e:=a.drawn;rw [hs.drawn] at e;cases e;exact ⟨f,k,m,j⟩
  · rcases a with a | a <;> cases a
theorem qro {n : Qh} {l : List qr} (d : Fit n) (hs : J7 n l) {i : Nat} (hi : i < n.Nodes.length) : q2o n (i : Int) = some (degN l n.Nodes[i],0)∧qnj n (i : Int) = some (degN l n.Nodes[i],0):=by
  obtain ⟨c1,c2,c3,c4⟩:=qhu d hs;obtain ⟨r,e1,g,f⟩:=qck hs.len400 hs.val;have b : PtB n.Nodes[i]:=q8i g f ((hs.net.nodes.mem _).1 (Ke hi))
  have h : (cond (decide ((i : Int) < 0)) (some true) (some (decide ((i : Int) ≥ (n.Nodes.length : Int))))) = some false:=by
    rw [Q4 q7,qz,Q4 q7]
  obtain ⟨b1,a⟩:=qo5 hs.val hs.len400;have c:=qrn hs.net.nodes hs.net.edges b1 a hi;constructor
  · unfold q2o;rw [c2,qn];have e0 : ((0 : Int) != 0) = false:=rfl;rw [e0,qz,h,qn,qz,e1,qn,Qu hi,qn,qeu g f b,qn];unfold arB;rw [qrm];rfl
  · unfold qnj;rw [c4,qn];have e0 : ((0 : Int) != 0) = false:=rfl;rw [e0,qz,h,qn,qz,qz4 n _ (by have:=d.1.2;omega),qn,c];congr 2;unfold degN;rw [← b2,← b2,← b2,← b2];omega
end Go.Sh
namespace Go.Sh
open Go Go.Am
open Classical
section
variable {F G : Int→Int→Prop} {n : Qh}
structure Bnd (F G : Int→Int→Prop) : Prop where
  row : ∀ y x,F y x→-1000000≤x∧x≤1000000
  col : ∀ x y,G x y→-1000000≤y∧y≤1000000
  pt : ∀ x y,Kv F G x y→PtB {X:=x,Y:=y}
theorem qey {l : List qr} (a : l.length≤400) (b : ∀ s∈l,SegV s) : Bnd (rowP l) (colP l):=by
  obtain ⟨r,_,d,c⟩:=qck a b;obtain ⟨b1,b2⟩:=qo5 b a;exact ⟨b1,b2,fun x y h=>q8i d c h⟩
theorem q21 {i k : Nat} (hi : i < n.Nodes.length) (hk : k < n.Nodes.length) : Je n {A:=(i : Int),B:=(k : Int)} = {A:=n.Nodes[i],B:=n.Nodes[k]}:=by
  unfold Je;simp only [Int.toNat_natCast,List.getElem?_eq_getElem hi,List.getElem?_eq_getElem hk,Option.getD_some]
theorem qsv (hb : Bnd F G) (h : Zo F G n) : ∀ e∈n.Edges,eOk n e:=by
  intro e g;obtain ⟨i,k,rfl,hi,c⟩:=(h.edges.mem e).1 g;have hk : k < n.Nodes.length:=by rcases c with ⟨h,_⟩ | ⟨h,_⟩ <;> exact h.hk
  have f : PtB n.Nodes[i]:=hb.pt _ _ ((h.nodes.mem _).1 (Ke hi));have p2 : PtB n.Nodes[k]:=hb.pt _ _ ((h.nodes.mem _).1 (Ke hk));refine ⟨⟨by simp only;omega,by simp only;omega⟩,⟨by simp only;omega,by simp only;omega⟩,?_⟩;rw [q21 hi hk,q9d];refine ⟨f,p2,?_⟩;simp only;rcases c with ⟨d,_⟩ | ⟨b,_⟩
  · have a:=Ux h.nodes.srt hi hk d.lt;have e:=d.eq hi hk;unfold ltP at a;omega
  · have a:=Ux h.nodes.srt hi hk b.lt;have e:=b.eq hi hk;unfold ltP at a;omega
noncomputable def Ja (n : Qh) : List qr:=n.Edges.map (Je n)
theorem qzx (b : Yg F G n.Nodes) {i k : Nat} (h : Z4 n.Nodes i k) (hi : i < n.Nodes.length) (g : F n.Nodes[i].Y n.Nodes[i].X) {x : Int} (s : n.Nodes[i].X≤x) (o : x < (n.Nodes[k]'h.hk).X) : F n.Nodes[i].Y x:=by
  have e:=h.eq hi h.hk;obtain ⟨m,j⟩ : ∃ m : Nat,x = n.Nodes[i].X + m:=⟨(x - n.Nodes[i].X).toNat,q7⟩
  rw [j];refine (Jr (f:=F n.Nodes[i].Y) m fun z p r=>?_).1 g;refine q5s (G:=G) fun a=>?_;obtain ⟨q,c,d⟩:=List.mem_iff_getElem.1 ((b.mem {X:=z,Y:=n.Nodes[i].Y}).2 a);have ex : n.Nodes[q].X = z:=by rw [d]
  have l : n.Nodes[q].Y = n.Nodes[i].Y:=by rw [d]
  exact h.no q hi c (J4 b.srt hi c (by unfold ltP;omega)) (J4 b.srt c h.hk (by unfold ltP;omega)) l
theorem qr9 (b : Yg F G n.Nodes) {i k : Nat} (h : Yz n.Nodes i k) (hi : i < n.Nodes.length) (g : G n.Nodes[i].X n.Nodes[i].Y) {y : Int} (s : n.Nodes[i].Y≤y) (l : y < (n.Nodes[k]'h.hk).Y) : G n.Nodes[i].X y:=by
  have e:=h.eq hi h.hk;obtain ⟨m,j⟩ : ∃ m : Nat,y = n.Nodes[i].Y + m:=⟨(y - n.Nodes[i].Y).toNat,q7⟩
  rw [j];refine (Jr (f:=G n.Nodes[i].X) m fun z o p=>?_).1 g;refine q5r (F:=F) fun a=>?_;obtain ⟨q,c,d⟩:=List.mem_iff_getElem.1 ((b.mem {X:=n.Nodes[i].X,Y:=z}).2 a);have ex : n.Nodes[q].X = n.Nodes[i].X:=by rw [d]
  have r : n.Nodes[q].Y = z:=by rw [d]
  exact h.no q hi c (J4 b.srt hi c (by unfold ltP;omega)) (J4 b.srt c h.hk (by unfold ltP;omega)) ex
theorem qzt (hb : Bnd F G) (d : Yg F G n.Nodes) {y x : Int} (o : F y x) : ∃ i k,∃ hi : i < n.Nodes.length,∃ h : Z4 n.Nodes i k,n.Nodes[i].Y = y∧n.Nodes[i].X≤x∧x < (n.Nodes[k]'h.hk).X∧F y n.Nodes[i].X:=by
  have hex : ∃ j,j < n.Nodes.length∧∃ h : j < n.Nodes.length,n.Nodes[j].Y = y∧n.Nodes[j].X≤x:=by
    refine Classical.byContradiction fun l=>?_
    have step : ∀ z,z≤x→(F y z↔F y (z - 1)):=by
      intro z hz;refine q5s (G:=G) fun q=>l ?_;obtain ⟨m,b,c⟩:=List.mem_iff_getElem.1 ((d.mem {X:=z,Y:=y}).2 q);exact ⟨m,b,b,by rw [c],by rw [c];exact hz⟩
    have t:=hb.row _ _ o;obtain ⟨m,b⟩ : ∃ m : Nat,x = -1000001 + (m : Int):=⟨(x + 1000001).toNat,q7⟩
    have:=Jr (f:=F y) (lo:=-1000001) m fun z r s=>step z q7;rw [← b] at this;have:=hb.row _ _ (this.2 o);omega
  obtain ⟨i,v,⟨hi,p,t⟩,a⟩:=q88 hex
  have none : ∀ z,n.Nodes[i].X < z→z≤x→¬ Kv F G z y:=by
    intro z r s q;obtain ⟨m,b,c⟩:=List.mem_iff_getElem.1 ((d.mem {X:=z,Y:=y}).2 q);have ex : n.Nodes[m].X = z:=by rw [c]
    have w : n.Nodes[m].Y = y:=by rw [c]
    exact a m (J4 d.srt hi b (by unfold ltP;omega)) b ⟨b,w,q7⟩
  have u : F y n.Nodes[i].X:=by
    obtain ⟨m,b⟩ : ∃ m : Nat,x = n.Nodes[i].X + (m : Int):=⟨(x - n.Nodes[i].X).toNat,q7⟩
    have:=Jr (f:=F y) (lo:=n.Nodes[i].X) m fun z r s=>q5s (G:=G) (none z r q7);rw [← b] at this;exact this.2 o
  obtain ⟨k,hk⟩:=qmd d (fun y x h=>(hb.row y x h).2) hi (by rw [p];exact u);refine ⟨i,k,hi,hk,p,t,?_,u⟩;refine Int.lt_of_not_ge fun g=>?_;exact a k hk.lt hk.hk ⟨hk.hk,by rw [hk.eq hi hk.hk,p],g⟩
theorem qr7 (hb : Bnd F G) (d : Yg F G n.Nodes) {x y : Int} (o : G x y) : ∃ i k,∃ hi : i < n.Nodes.length,∃ h : Yz n.Nodes i k,n.Nodes[i].X = x∧n.Nodes[i].Y≤y∧y < (n.Nodes[k]'h.hk).Y∧G x n.Nodes[i].Y:=by
  have hex : ∃ j,j < n.Nodes.length∧∃ h : j < n.Nodes.length,n.Nodes[j].X = x∧n.Nodes[j].Y≤y:=by
    refine Classical.byContradiction fun l=>?_
    have step : ∀ z,z≤y→(G x z↔G x (z - 1)):=by
      intro z w;refine q5r (F:=F) fun q=>l ?_;obtain ⟨m,b,c⟩:=List.mem_iff_getElem.1 ((d.mem {X:=x,Y:=z}).2 q);exact ⟨m,b,b,by rw [c],by rw [c];exact w⟩
    have t:=hb.col _ _ o;obtain ⟨m,b⟩ : ∃ m : Nat,y = -1000001 + (m : Int):=⟨(y + 1000001).toNat,q7⟩
    have:=Jr (f:=G x) (lo:=-1000001) m fun z r s=>step z q7;rw [← b] at this;have:=hb.col _ _ (this.2 o);omega
  obtain ⟨i,v,⟨hi,p,t⟩,a⟩:=q88 hex
  have none : ∀ z,n.Nodes[i].Y < z→z≤y→¬ Kv F G x z:=by
    intro z r s q;obtain ⟨m,b,c⟩:=List.mem_iff_getElem.1 ((d.mem {X:=x,Y:=z}).2 q);have ex : n.Nodes[m].X = x:=by rw [c]
    have ey : n.Nodes[m].Y = z:=by rw [c]
    exact a m (J4 d.srt hi b (by unfold ltP;omega)) b ⟨b,ex,q7⟩
  have u : G x n.Nodes[i].Y:=by
    obtain ⟨m,b⟩ : ∃ m : Nat,y = n.Nodes[i].Y + (m : Int):=⟨(y - n.Nodes[i].Y).toNat,q7⟩
    have:=Jr (f:=G x) (lo:=n.Nodes[i].Y) m fun z r s=>q5r (F:=F) (none z r q7);rw [← b] at this;exact this.2 o
  obtain ⟨k,hk⟩:=qmc d (fun y x h=>(hb.col y x h).2) hi (by rw [p];exact u);refine ⟨i,k,hi,hk,p,t,?_,u⟩;refine Int.lt_of_not_ge fun g=>?_;exact a k hk.lt hk.hk ⟨hk.hk,by rw [hk.eq hi hk.hk,p],g⟩
theorem qfk (hb : Bnd F G) (h : Zo F G n) (y x : Int) : rowP (Ja n) y x↔F y x:=by
  constructor
  · rintro ⟨⟨k0,t⟩,hp,rfl,j,f⟩;obtain ⟨s,hs,b,rfl,rfl⟩:=q5l.1 hp;obtain ⟨e,g,rfl⟩:=List.mem_map.1 hs;obtain ⟨i,k,rfl,hi,l⟩:=(h.edges.mem e).1 g;have hk : k < n.Nodes.length:=by rcases l with ⟨h,_⟩ | ⟨h,_⟩ <;> exact h.hk
    rw [q21 hi hk] at b j f ⊢;simp only at b j f ⊢;rcases l with ⟨m,_⟩ | ⟨c,d⟩
    · have a:=Ux h.nodes.srt hi hk m.lt;have e:=m.eq hi hk;unfold ltP at a;omega
    · have a:=Ux h.nodes.srt hi hk c.lt;unfold ltP at a;exact qzx h.nodes c hi d q7 q7
  · intro o;obtain ⟨i,k,hi,hk,b,j,f,d⟩:=qzt hb h.nodes o;have g : ({A:=(i : Int),B:=(k : Int)} : qj)∈n.Edges:=(h.edges.mem _).2 ⟨i,k,rfl,hi,.inr ⟨hk,by rw [b];exact d⟩⟩;have p:=hk.eq hi hk.hk;refine ⟨(y,{Lo:=min n.Nodes[i].X (n.Nodes[k]'hk.hk).X,Hi:=max n.Nodes[i].X (n.Nodes[k]'hk.hk).X}),q5l.2 ⟨Je n {A:=(i : Int),B:=(k : Int)},List.mem_map.2 ⟨_,g,rfl⟩,?_,?_,?_⟩,rfl,by simp only;omega,by simp only;omega⟩
    · rw [q21 hi hk.hk];exact p.symm
    · rw [q21 hi hk.hk];exact b.symm
    · rw [q21 hi hk.hk]
theorem qfj (hb : Bnd F G) (h : Zo F G n) (x y : Int) : colP (Ja n) x y↔G x y:=by
  constructor
  · rintro ⟨⟨k0,t⟩,hp,rfl,j,d⟩;obtain ⟨s,hs,b,rfl,rfl⟩:=q5k.1 hp;obtain ⟨e,g,rfl⟩:=List.mem_map.1 hs;obtain ⟨i,k,rfl,hi,m⟩:=(h.edges.mem e).1 g;have hk : k < n.Nodes.length:=by rcases m with ⟨h,_⟩ | ⟨h,_⟩ <;> exact h.hk
    rw [q21 hi hk] at b j d ⊢;simp only at b j d ⊢;rcases m with ⟨f,c⟩ | ⟨l,_⟩
    · have a:=Ux h.nodes.srt hi hk f.lt;have e:=f.eq hi hk;unfold ltP at a;exact qr9 h.nodes f hi c q7 q7
    · have e:=l.eq hi hk;omega
  · intro o;obtain ⟨i,k,hi,hk,b,j,d,c⟩:=qr7 hb h.nodes o;have g : ({A:=(i : Int),B:=(k : Int)} : qj)∈n.Edges:=(h.edges.mem _).2 ⟨i,k,rfl,hi,.inl ⟨hk,by rw [b];exact c⟩⟩;have p:=hk.eq hi hk.hk;have a:=Ux h.nodes.srt hi hk.hk hk.lt;refine ⟨(x,{Lo:=min n.Nodes[i].Y (n.Nodes[k]'hk.hk).Y,Hi:=max n.Nodes[i].Y (n.Nodes[k]'hk.hk).Y}),q5k.2 ⟨Je n {A:=(i : Int),B:=(k : Int)},List.mem_map.2 ⟨_,g,rfl⟩,?_,?_,?_⟩,rfl,by simp only;omega,by simp only;omega⟩
    · rw [q21 hi hk.hk];show n.Nodes[i].Y≠(n.Nodes[k]'hk.hk).Y;unfold ltP at a;omega
    · rw [q21 hi hk.hk];exact b.symm
    · rw [q21 hi hk.hk]
theorem q12l (hb : Bnd F G) (h : Zo F G n) (b : n.Edges.length≤400) : J7 n (Ja n):=by
  have a:=qsv hb h;have e1 : rowP (Ja n) = F:=by funext y x;exact propext (qfk hb h y x)
  have d : colP (Ja n) = G:=by funext y x;exact propext (qfj hb h y x)
  refine ⟨?_,by simp [Ja],b,fun s hs=>?_,?_⟩
  · unfold q2x;rw [Q0 a];rfl
  · obtain ⟨e,c,rfl⟩:=List.mem_map.1 hs;exact (a e c).2.2
  · rw [e1,d];exact h
end
end Go.Sh
