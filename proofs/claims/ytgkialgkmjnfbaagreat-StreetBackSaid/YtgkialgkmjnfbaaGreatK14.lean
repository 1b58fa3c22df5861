/- St9 St10 St11 St12 St13 St14 St18 St13b St14b St15 St16 St17 St19 -/
import Derived.Test.YtgkialgkmjnfbaaGreatK13
namespace Go.Sh
open Go Go.Am
open Classical
section
variable {F G : Int→Int→Prop} {L M : List Ki}
def Yo (M : List Ki) (t : qj) : List Int:=[t.Lo,t.Hi] ++ (M.filter fun m=>decide (t.Lo < m.At∧m.At < t.Hi)).map (·.At)
theorem qlp {t : qj} {x : Int} : x∈Yo M t↔x = t.Lo∨x = t.Hi∨(t.Lo < x∧x < t.Hi∧∃ m∈M,m.At = x):=by
  simp only [Yo,List.mem_append,List.mem_cons,List.not_mem_nil,or_false,List.mem_map,List.mem_filter,decide_eq_true_eq];constructor
  · rintro ((h | h) | ⟨m,⟨b,a⟩,rfl⟩)
    · exact .inl h
    · exact .inr (.inl h)
    · exact .inr (.inr ⟨a.1,a.2,m,b,rfl⟩)
  · rintro (h | h | ⟨b,a,m,c,rfl⟩)
    · exact .inl (.inl h)
    · exact .inl (.inr h)
    · exact .inr ⟨m,⟨c,b,a⟩,rfl⟩
theorem qzh (l : M.length≤400) (t : qj) : loop (q96 M t) (0,[t.Lo,t.Hi]) = some (Yo M t):=by
  have:=Ks (f:=q96 M t) (σ:=List Int) (fun k c=>((k : Int),c)) M.length (fun k c=>c = Yo (M.take k) t∧c.length≤k + 2) (fun c=>c = Yo M t) ?_ ?_ (k0:=0) (c0:=[t.Lo,t.Hi]) q7 ⟨by simp [Yo],qd⟩
  · obtain ⟨b,j,rfl⟩:=this;exact j
  · rintro k c hk ⟨rfl,g⟩;have hb : decide ((k : Int) < (M.length : Int)) = true:=Q5 q7
    have a : Yo (M.take (k + 1)) t = Yo (M.take k) t ++ (if t.Lo < M[k].At∧M[k].At < t.Hi then [M[k].At] else []):=by
      unfold Yo;rw [List.take_succ_eq_append_getElem hk,List.filter_append,List.map_append,List.append_assoc];by_cases e : t.Lo < M[k].At∧M[k].At < t.Hi
      · simp [e]
      · simp [e]
    refine .inl ⟨Yo (M.take (k + 1)) t,?_,rfl,?_⟩
    · rw [a];simp only [q96,hb,Q3,Qu hk,qn];by_cases e1 : t.Lo < M[k].At
      · by_cases d : M[k].At < t.Hi
        · rw [Q2 ⟨e1,d⟩,Q5 (show M[k].At > t.Lo from e1),Q3,Q5 d,qn,Q3,Yd (by simp;omega),Qa q7];rfl
        · rw [Q4 (fun h=>d h.2),Q5 (show M[k].At > t.Lo from e1),Q3,Q7 d,Qa q7,List.append_nil];rfl
      · rw [Q4 (fun h=>e1 h.1),Q7 (show ¬ M[k].At > t.Lo from e1),Qa q7,List.append_nil];rfl
    · rw [a];split <;> simp <;> omega
  · rintro c ⟨rfl,g⟩;have hb : decide ((M.length : Int) < (M.length : Int)) = false:=Q7 q7;exact ⟨_,by simp only [q96,hb,Q1];rfl,by rw [List.take_length]⟩
theorem qrf (t : qj) : (Yo M t).length≤M.length + 2:=by
  have:=List.length_filter_le (fun m : Ki=>decide (t.Lo < m.At∧m.At < t.Hi)) M;simp only [Yo,List.length_append,List.length_map,List.length_cons,List.length_nil];omega
theorem qcd (h : Rep (asc M) G) : M.length≤400:=by have:=h.cnt;simpa [asc] using this
theorem qes (h : Rep (asc M) G) {m : Ki} (a : m∈M) : -1000000≤m.At∧m.At≤1000000:=h.key _ (List.mem_map.2 ⟨(m.At,m.Spans),List.mem_map.2 ⟨m,a,rfl⟩,rfl⟩)
theorem qij (h : Rep (asc M) G) {m : Ki} (a : m∈M) {t : qj} (b : t∈m.Spans) : vld t:=(h.good m.At m.Spans (List.mem_map.2 ⟨m,a,rfl⟩)).1 t b
theorem JN.big {N : List qa} {S T : qa→Prop} (h : JN F G N S) (b : ¬ N.length≤400) : JN F G N T:=⟨h.srt,h.sub,fun a=>absurd a b,h.len⟩
def q3c (M : List Ki) (y : Int) (t : qj) (q : qa) : Prop:=q.Y = y∧q.X∈Yo M t
theorem qzi (n : Rep (asc L) F) (l : Rep (asc M) G) {i : Nat} (hi : i < L.length) {t : qj} (u : t∈L[i].Spans) (z : List qa) {N : List qa} {S : qa→Prop} (h : JN F G N S) :
    ∃ j,loop (q61 (Yo M t) L ((i : Int),z) M) (0,N) = some j∧JN F G j (fun q=>S q∨q3c M L[i].At t q):=by
  have hM:=qcd l;have hc:=qrf (M:=M) t;have y:=qij n (Kk hi) u;have o:=qes n (Kk hi);obtain ⟨v1,v2,v3⟩:=y;have:=Ks (f:=q61 (Yo M t) L ((i : Int),z) M) (σ:=List qa) (fun k c=>((k : Int),c)) (Yo M t).length (fun k c=>JN F G c (fun q=>S q∨(q.Y = L[i].At∧q.X∈(Yo M t).take k))) (fun c=>JN F G c (fun q=>S q∨q3c M L[i].At t q)) ?_ ?_ (k0:=0) (c0:=N) q7 (h.congr fun p=>qd)
  · exact this
  · intro k c hk d;have hb : decide ((k : Int) < ((Yo M t).length : Int)) = true:=Q5 q7;by_cases w : c.length≤400
    · have r : -1000000≤(Yo M t)[k]∧(Yo M t)[k]≤1000000:=by
        rcases qlp.1 (Kk hk) with a | a | ⟨_,_,m,x,a⟩
        · omega
        · omega
        · rw [← a];exact qes l x
      obtain ⟨j,e,s,_,j2⟩:=qh7 n l (p:={X:=(Yo M t)[k],Y:=L[i].At}) ⟨r.1,r.2,o.1,o.2⟩ d q7;refine .inl ⟨j,?_,s.congr ?_⟩
      · simp only [q61,hb,Q3,Q5 (show (c.length : Int)≤400 by omega),Qu hk,Qu hi,qn];rw [e,qn,Qa q7];rfl
      · rintro q (v | ⟨b,g⟩)
        · exact .inl (.inl v)
        · rw [List.take_succ_eq_append_getElem hk] at g;rcases List.mem_append.1 g with a | a
          · exact .inl (.inr ⟨b,a⟩)
          · rw [List.mem_singleton] at a;exact .inr (by rw [← a,← b])
    · refine .inr ⟨c,?_,d.big w⟩;simp only [q61,hb,Q3,Q7 (show ¬ (c.length : Int)≤400 by omega),qn,Q1]
  · intro c d;have hb : decide (((Yo M t).length : Int) < ((Yo M t).length : Int)) = false:=Q7 q7;refine ⟨c,by simp only [q61,hb,Q1,qn],?_⟩;rw [List.take_length] at d;exact d
theorem qzg (j : Rep (asc L) F) (d : Rep (asc M) G) {i : Nat} (hi : i < L.length) (z : List qa) {N : List qa} {S : qa→Prop} (h : JN F G N S) :
    ∃ a,loop (q95 L ((i : Int),z) M) (0,N) = some a∧JN F G a (fun q=>S q∨∃ t∈L[i].Spans,q3c M L[i].At t q):=by
  have m:=j.len _ _ (qcc hi);have:=Ks (f:=q95 L ((i : Int),z) M) (σ:=List qa) (fun k c=>((k : Int),c)) L[i].Spans.length (fun k c=>JN F G c (fun q=>S q∨∃ t∈L[i].Spans.take k,q3c M L[i].At t q)) (fun c=>JN F G c (fun q=>S q∨∃ t∈L[i].Spans,q3c M L[i].At t q)) ?_ ?_ (k0:=0) (c0:=N) q7 (h.congr fun p=>qd)
  · exact this
  · intro k c hk b;have hb : decide ((k : Int) < (L[i].Spans.length : Int)) = true:=Q5 q7;obtain ⟨a,e,l⟩:=qzi j d hi (Kk hk) z b;refine .inl ⟨a,?_,l.congr ?_⟩
    · simp only [q95,Qu hi,qn,hb,Q3,Qu hk,qzh (qcd d),e];rw [Qa q7];rfl
    · intro q g;rw [takeN hk,← or_assoc] at g;exact g
  · intro c b;have hb : decide ((L[i].Spans.length : Int) < (L[i].Spans.length : Int)) = false:=Q7 q7;refine ⟨c,by simp only [q95,Qu hi,qn,hb,Q1],?_⟩;rw [List.take_length] at b;exact b
theorem qzf (d : Rep (asc L) F) (j : Rep (asc M) G) : ∃ N,loop (q94 L M) (0,[]) = some N∧JN F G N (fun q=>∃ l∈L,∃ t∈l.Spans,q3c M l.At t q):=by
  have m:=qcd d;have:=Ks (f:=q94 L M) (σ:=List qa) (fun k c=>((k : Int),c)) L.length (fun k c=>JN F G c (fun q=>∃ l∈L.take k,∃ t∈l.Spans,q3c M l.At t q)) (fun c=>JN F G c (fun q=>∃ l∈L,∃ t∈l.Spans,q3c M l.At t q)) ?_ ?_ (k0:=0) (c0:=[]) q7 ⟨.nil,fun p hp=>(by cases hp),fun _ q b=>by simp at b,qd⟩
  · exact this
  · intro k c hk a;have hb : decide ((k : Int) < (L.length : Int)) = true:=Q5 q7;obtain ⟨h,e,g⟩:=qzg d j hk c a;refine .inl ⟨h,?_,g.congr fun q b=>(takeN hk).1 b⟩;simp only [q94,hb,Q3,e,qn];rw [Qa q7];rfl
  · intro c a;have hb : decide ((L.length : Int) < (L.length : Int)) = false:=Q7 q7;refine ⟨c,by simp only [q94,hb,Q1],?_⟩;rw [List.take_length] at a;exact a
def q53 (x : Int) (t : qj) (q : qa) : Prop:=q.X = x∧(q.Y = t.Lo∨q.Y = t.Hi)
theorem qzk (n : Rep (asc L) F) (d : Rep (asc M) G) {i : Nat} (hi : i < M.length) (z : List qa) {N : List qa} {S : qa→Prop} (h : JN F G N S) :
    ∃ m,loop (q62 M ((i : Int),z) L) (0,N) = some m∧JN F G m (fun q=>S q∨∃ t∈M[i].Spans,q53 M[i].At t q):=by
  have v:=d.len _ _ (qcc hi);have j:=qes d (Kk hi);have:=Ks (f:=q62 M ((i : Int),z) L) (σ:=List qa) (fun k c=>((k : Int),c)) M[i].Spans.length (fun k c=>JN F G c (fun q=>S q∨∃ t∈M[i].Spans.take k,q53 M[i].At t q)) (fun c=>JN F G c (fun q=>S q∨∃ t∈M[i].Spans,q53 M[i].At t q)) ?_ ?_ (k0:=0) (c0:=N) q7 (h.congr fun p=>qd)
  · exact this
  · intro k c hk g;have hb : decide ((k : Int) < (M[i].Spans.length : Int)) = true:=Q5 q7;by_cases l : c.length≤400
    · obtain ⟨v1,y,w⟩:=qij d (Kk hi) (Kk hk);obtain ⟨N1,e1,r,_,l1⟩:=qh7 n d (p:={X:=M[i].At,Y:=(M[i].Spans[k]).Lo}) ⟨j.1,j.2,by simp only;omega,by simp only;omega⟩ g q7;obtain ⟨o,u,s,_,l2⟩:=qh7 n d (p:={X:=M[i].At,Y:=(M[i].Spans[k]).Hi}) ⟨j.1,j.2,by simp only;omega,by simp only;omega⟩ r q7;refine .inl ⟨o,?_,s.congr ?_⟩
      · simp only [q62,Qu hi,qn,hb,Q3,Q5 (show (c.length : Int)≤400 by omega),Qu hk];rw [← Option.bind_assoc (x:=q4e L M {X:=M[i].At,Y:=(M[i].Spans[k]).Lo}),e1,qn,u,qn,Qa q7];rfl
      · intro q a;rw [takeN hk] at a;rcases a with a | a | ⟨b,a | a⟩
        · exact .inl (.inl (.inl a))
        · exact .inl (.inl (.inr a))
        · exact .inl (.inr (by rw [← a,← b]))
        · exact .inr (by rw [← a,← b])
    · refine .inr ⟨c,?_,g.big l⟩;simp only [q62,Qu hi,qn,hb,Q3,Q7 (show ¬ (c.length : Int)≤400 by omega),Q1]
  · intro c g;have hb : decide ((M[i].Spans.length : Int) < (M[i].Spans.length : Int)) = false:=Q7 q7;refine ⟨c,by simp only [q62,Qu hi,qn,hb,Q1],?_⟩;rw [List.take_length] at g;exact g
theorem qzj (m : Rep (asc L) F) (d : Rep (asc M) G) {N : List qa} {S : qa→Prop} (h : JN F G N S) : ∃ a,loop (q97 M L) (0,N) = some a∧JN F G a (fun q=>S q∨∃ l∈M,∃ t∈l.Spans,q53 l.At t q):=by
  have n:=qcd d;have:=Ks (f:=q97 M L) (σ:=List qa) (fun k c=>((k : Int),c)) M.length (fun k c=>JN F G c (fun q=>S q∨∃ l∈M.take k,∃ t∈l.Spans,q53 l.At t q)) (fun c=>JN F G c (fun q=>S q∨∃ l∈M,∃ t∈l.Spans,q53 l.At t q)) ?_ ?_ (k0:=0) (c0:=N) q7 (h.congr fun p=>qd)
  · exact this
  · intro k c hk b;have hb : decide ((k : Int) < (M.length : Int)) = true:=Q5 q7;obtain ⟨a,e,j⟩:=qzk m d hk c b;refine .inl ⟨a,?_,j.congr fun q g=>?_⟩
    · simp only [q97,hb,Q3,e,qn];rw [Qa q7];rfl
    · rw [takeN hk,← or_assoc] at g;exact g
  · intro c b;have hb : decide ((M.length : Int) < (M.length : Int)) = false:=Q7 q7;refine ⟨c,by simp only [q97,hb,Q1],?_⟩;rw [List.take_length] at b;exact b
theorem qzl (q : Rep (asc L) F) (g : Rep (asc M) G) : ∃ N,qh0 L M = some N∧N.Pairwise ltP∧(∀ p∈N,Kv F G p.X p.Y)∧(N.length≤400→Yf F G N)∧N.length≤402:=by
  obtain ⟨N1,e1,v⟩:=qzf q g;obtain ⟨s,z,d⟩:=qzj q g v;refine ⟨s,by unfold qh0;rw [e1,qn,z];rfl,d.srt,d.sub,fun u=>⟨d.srt,fun p=>⟨d.sub p,fun hp=>d.all u p ?_ hp⟩⟩,d.len⟩;rcases (qgi (r:={rows_:=asc L,columns_:=asc M}) q g p).2 hp with ⟨e,o,t,k,n,a⟩ | ⟨e,o,t,k,n,a,_⟩
  · obtain ⟨l,b,rfl⟩:=List.mem_map.1 o;refine .inl ⟨l,b,t,k,n,qlp.2 ?_⟩;rcases a with ⟨a | a,_⟩ | ⟨a,x,h⟩
    · exact .inl a
    · exact .inr (.inl a)
    · have f : p.X∈(asc M).map (·.1):=by rcases h with h | h <;> exact g.all _ _ h
      obtain ⟨c,y,j⟩:=List.mem_map.1 f;obtain ⟨m,w,rfl⟩:=List.mem_map.1 y;exact .inr (.inr ⟨a,x,m,w,j⟩)
  · obtain ⟨l,b,rfl⟩:=List.mem_map.1 o;exact .inr ⟨l,b,t,k,n,a⟩
end
end Go.Sh
namespace Go.Sh
open Go Go.Am
open Classical
section
variable {F G : Int→Int→Prop} {N : List qa}
structure Yz (N : List qa) (i k : Nat) : Prop where
  lt : i < k
  hk : k < N.length
  eq : ∀ (h1 : i < N.length) (h2 : k < N.length),N[k].X = N[i].X
  no : ∀ j (h1 : i < N.length) (h2 : j < N.length),i < j→j < k→N[j].X≠N[i].X
structure Z4 (N : List qa) (i k : Nat) : Prop where
  lt : i < k
  hk : k < N.length
  eq : ∀ (h1 : i < N.length) (h2 : k < N.length),N[k].Y = N[i].Y
  no : ∀ j (h1 : i < N.length) (h2 : j < N.length),i < j→j < k→N[j].Y≠N[i].Y
def q45 (F G : Int→Int→Prop) (N : List qa) (i k : Nat) : Prop:=∃ h : i < N.length,(Yz N i k∧G N[i].X N[i].Y)∨(Z4 N i k∧F N[i].Y N[i].X)
structure q3q (F G : Int→Int→Prop) (N : List qa) (E : List qi) : Prop where
  srt : E.Pairwise ltG
  mem : ∀ e,e∈E↔∃ i k : Nat,e = {A:=(i : Int),B:=(k : Int)}∧q45 F G N i k
theorem qma {N M : List qa} (h : Yf F G N) (a : Yf F G M) : N = M:=qea q36 h.srt a.srt fun p=>by rw [h.mem,a.mem]
theorem qjn {D E : List qi} (h : q3q F G N D) (a : q3q F G N E) : D = E:=qea qle h.srt a.srt fun p=>by rw [h.mem,a.mem]
theorem Ut (h : N.Pairwise ltP) {i j : Nat} (hi : i < N.length) (b : j < N.length) (a : i < j) : ltP N[i] N[j]:=List.pairwise_iff_getElem.1 h i j hi b a
theorem J1 (h : N.Pairwise ltP) {i j : Nat} (hi : i < N.length) (c : j < N.length) (a : ltP N[i] N[j]) : i < j:=by
  rcases Nat.lt_trichotomy i j with b | b | b
  · exact b
  · subst b;exact absurd a (q36 _ _ a)
  · exact absurd a (q36 _ _ (Ut h c hi b))
theorem qm7 (h : N.Pairwise ltP) {i k m : Nat} (c : Yz N i k) (b : Z4 N i m) : k < m:=by
  have hi : i < N.length:=by have:=c.lt;have:=c.hk;omega
  have a:=Ut h hi b.hk b.lt;have e1:=c.eq hi c.hk;have d:=b.eq hi b.hk;refine J1 h c.hk b.hk ?_;unfold ltP at *;omega
theorem Jo {f : Int→Prop} {lo : Int} : ∀ (n : Nat),(∀ x,lo < x→x≤lo + n→(f x↔f (x - 1)))→(f lo↔f (lo + n))
  | 0,_=>by simp
  | n + 1,h=>by
    rw [Jo n fun x a b=>h x a q7,h (lo + ((n + 1 : Nat) : Int)) q7 q7]
    have : lo + ((n + 1 : Nat) : Int) - 1 = lo + (n : Int):=by omega
    rw [this]
theorem q5q {x y : Int} (h : ¬ Kv F G x y) : F y x↔F y (x - 1):=by
  by_cases e : F y x <;> by_cases w : F y (x - 1) <;> by_cases n : G x y <;> by_cases s : G x (y - 1) <;> simp [Kv,q37,e,w,n,s] at h ⊢
theorem q5p {x y : Int} (h : ¬ Kv F G x y) : G x y↔G x (y - 1):=by
  by_cases e : F y x <;> by_cases w : F y (x - 1) <;> by_cases n : G x y <;> by_cases s : G x (y - 1) <;> simp [Kv,q37,e,w,n,s] at h ⊢
theorem qnz (b : Yf F G N) {i k : Nat} (h : Z4 N i k) (hi : i < N.length) : F N[i].Y N[i].X↔F N[i].Y ((N[k]'h.hk).X - 1):=by
  have a:=Ut b.srt hi h.hk h.lt;have e:=h.eq hi h.hk;have j : N[i].X < (N[k]'h.hk).X:=by unfold ltP at a;omega
  obtain ⟨n,l⟩ : ∃ n : Nat,(N[k]'h.hk).X - 1 = N[i].X + n:=⟨((N[k]'h.hk).X - 1 - N[i].X).toNat,q7⟩
  have : ((N[k]'h.hk).X - 1) = N[i].X + n:=l;rw [this];refine Jo (f:=F N[i].Y) n fun x q p=>?_;refine q5q (G:=G) fun c=>?_;obtain ⟨m,d,g⟩:=List.mem_iff_getElem.1 ((b.mem {X:=x,Y:=N[i].Y}).2 c);have ex : N[m].X = x:=by rw [g]
  have o : N[m].Y = N[i].Y:=by rw [g]
  refine h.no m hi d (J1 b.srt hi d ?_) (J1 b.srt d h.hk ?_) o
  · unfold ltP;omega
  · unfold ltP;omega
theorem qj4 (b : Yf F G N) {i k : Nat} (h : Yz N i k) (hi : i < N.length) : G N[i].X N[i].Y↔G N[i].X ((N[k]'h.hk).Y - 1):=by
  have a:=Ut b.srt hi h.hk h.lt;have e:=h.eq hi h.hk;have j : N[i].Y < (N[k]'h.hk).Y:=by unfold ltP at a;omega
  obtain ⟨n,l⟩ : ∃ n : Nat,(N[k]'h.hk).Y - 1 = N[i].Y + n:=⟨((N[k]'h.hk).Y - 1 - N[i].Y).toNat,q7⟩
  have : ((N[k]'h.hk).Y - 1) = N[i].Y + n:=l;rw [this];refine Jo (f:=G N[i].X) n fun y p o=>?_;refine q5p (F:=F) fun c=>?_;obtain ⟨m,d,g⟩:=List.mem_iff_getElem.1 ((b.mem {X:=N[i].X,Y:=y}).2 c);have ex : N[m].X = N[i].X:=by rw [g]
  have q : N[m].Y = y:=by rw [g]
  refine h.no m hi d (J1 b.srt hi d ?_) (J1 b.srt d h.hk ?_) ex
  · unfold ltP;omega
  · unfold ltP;omega
theorem qzm (k : Yf F G N) (hb : ∀ y x,F y x→-1000000≤x) {i : Nat} (hi : i < N.length) (c : F N[i].Y (N[i].X - 1)) : ∃ j,∃ h : j < N.length,j < i∧N[j].Y = N[i].Y:=by
  refine Classical.byContradiction fun a=>?_
  have step : ∀ x,x < N[i].X→(F N[i].Y x↔F N[i].Y (x - 1)):=by
    intro x l;refine q5q (G:=G) fun b=>a ?_;obtain ⟨m,d,g⟩:=List.mem_iff_getElem.1 ((k.mem {X:=x,Y:=N[i].Y}).2 b);have ex : N[m].X = x:=by rw [g]
    have o : N[m].Y = N[i].Y:=by rw [g]
    exact ⟨m,d,J1 k.srt d hi (by unfold ltP;omega),o⟩
  have l:=hb _ _ c;obtain ⟨n,b⟩ : ∃ n : Nat,N[i].X - 1 = -1000001 + (n : Int):=⟨(N[i].X + 1000000).toNat,q7⟩
  have:=Jo (f:=F N[i].Y) (lo:=-1000001) n fun x q p=>step x q7;rw [← b] at this;have:=hb _ _ (this.2 c);omega
theorem qr2 (k : Yf F G N) (hb : ∀ x y,G x y→-1000000≤y) {i : Nat} (hi : i < N.length) (c : G N[i].X (N[i].Y - 1)) : ∃ j,∃ h : j < N.length,j < i∧N[j].X = N[i].X:=by
  refine Classical.byContradiction fun a=>?_
  have step : ∀ y,y < N[i].Y→(G N[i].X y↔G N[i].X (y - 1)):=by
    intro y p;refine q5p (F:=F) fun b=>a ?_;obtain ⟨m,d,g⟩:=List.mem_iff_getElem.1 ((k.mem {X:=N[i].X,Y:=y}).2 b);have ex : N[m].X = N[i].X:=by rw [g]
    have r : N[m].Y = y:=by rw [g]
    exact ⟨m,d,J1 k.srt d hi (by unfold ltP;omega),ex⟩
  have q:=hb _ _ c;obtain ⟨n,b⟩ : ∃ n : Nat,N[i].Y - 1 = -1000001 + (n : Int):=⟨(N[i].Y + 1000000).toNat,q7⟩
  have:=Jo (f:=G N[i].X) (lo:=-1000001) n fun y o l=>step y q7;rw [← b] at this;have:=hb _ _ (this.2 c);omega
theorem q87 {P : Nat→Prop} : ∀ {n : Nat},(∃ j,j < n∧P j)→∃ j,j < n∧P j∧∀ m,j < m→m < n→¬ P m
  | 0,⟨j,h,_⟩=>by omega
  | n + 1,⟨j,h,hp⟩=>by
    by_cases e : P n
    · exact ⟨n,q7,e,fun m f a=>q7⟩
    · have : j≠n:=fun c=>e (c ▸ hp)
      obtain ⟨k,f,a,g⟩:=q87 (n:=n) ⟨j,q7,hp⟩
      refine ⟨k,q7,a,fun m d l=>?_⟩
      by_cases b : m = n
      · subst b;exact e
      · exact g m d q7
theorem qn4 (f : Yf F G N) (hb : ∀ y x,F y x→-1000000≤x) {k : Nat} (hk : k < N.length) (c : F N[k].Y (N[k].X - 1)) : ∃ j,Z4 N j k:=by
  obtain ⟨j,h,a,l⟩:=qzm f hb hk c;obtain ⟨m,p,⟨s,b⟩,d⟩:=q87 (P:=fun j=>∃ h : j < N.length,N[j].Y = N[k].Y) (n:=k) ⟨j,a,h,l⟩;exact ⟨m,p,hk,fun _ _=>b.symm,fun q _ g o r e=>d q o r ⟨g,by rw [e,b]⟩⟩
theorem qn3 (f : Yf F G N) (hb : ∀ x y,G x y→-1000000≤y) {k : Nat} (hk : k < N.length) (c : G N[k].X (N[k].Y - 1)) : ∃ j,Yz N j k:=by
  obtain ⟨j,h,a,l⟩:=qr2 f hb hk c;obtain ⟨m,p,⟨s,b⟩,d⟩:=q87 (P:=fun j=>∃ h : j < N.length,N[j].X = N[k].X) (n:=k) ⟨j,a,h,l⟩;exact ⟨m,p,hk,fun _ _=>b.symm,fun q _ g o r e=>d q o r ⟨g,by rw [e,b]⟩⟩
theorem Z4.uniq {i j k : Nat} (b : Z4 N i k) (a : Z4 N j k) : i = j:=by
  have hi : i < N.length:=by have:=b.lt;have:=b.hk;omega
  have c : j < N.length:=by have:=a.lt;have:=a.hk;omega
  have e1:=b.eq hi b.hk;have d:=a.eq c a.hk;rcases Nat.lt_trichotomy i j with h | h | h
  · exact absurd (by rw [← e1,← d]) (b.no j hi c h a.lt)
  · exact h
  · exact absurd (by rw [← e1,← d]) (a.no i c hi h b.lt)
theorem Yz.uniq {i j k : Nat} (b : Yz N i k) (a : Yz N j k) : i = j:=by
  have hi : i < N.length:=by have:=b.lt;have:=b.hk;omega
  have c : j < N.length:=by have:=a.lt;have:=a.hk;omega
  have e1:=b.eq hi b.hk;have d:=a.eq c a.hk;rcases Nat.lt_trichotomy i j with h | h | h
  · exact absurd (by rw [← e1,← d]) (b.no j hi c h a.lt)
  · exact h
  · exact absurd (by rw [← e1,← d]) (a.no i c hi h b.lt)
theorem qd1 (c : Yf F G N) (f : ∀ y x,F y x→-1000000≤x) (d : ∀ x y,G x y→-1000000≤y) {k : Nat} (hk : k < N.length) (i : Nat) : q45 F G N i k↔(Z4 N i k∧F N[k].Y (N[k].X - 1))∨(Yz N i k∧G N[k].X (N[k].Y - 1)):=by
  constructor
  · rintro ⟨hi,⟨a,b⟩ | ⟨a,b⟩⟩
    · have:=(qj4 c a hi).1 b;rw [← a.eq hi hk] at this;exact .inr ⟨a,this⟩
    · have:=(qnz c a hi).1 b;rw [← a.eq hi hk] at this;exact .inl ⟨a,this⟩
  · rintro (⟨a,b⟩ | ⟨a,b⟩)
    · have hi : i < N.length:=by have:=a.lt;omega
      refine ⟨hi,.inr ⟨a,(qnz c a hi).2 ?_⟩⟩;rw [← a.eq hi hk];exact b
    · have hi : i < N.length:=by have:=a.lt;omega
      refine ⟨hi,.inl ⟨a,(qj4 c a hi).2 ?_⟩⟩;rw [← a.eq hi hk];exact b
end
end Go.Sh
namespace Go.Sh
open Go Go.Am
open Classical
theorem qg9 {α β : Type} [DecidableEq α] {z : β} {k a : α} {v : β} : ∀ {R : List (α × β)},K6 z a (K9 k v R) = if a = k then v else K6 z a R
  | []=>by simp only [K9,K6]
  | (b,w)::r=>by
    simp only [K9]
    by_cases e : k = b
    · subst e
      simp only [if_true,K6]
      by_cases c : a = k
      · simp [c]
      · simp [c]
    · rw [Q4 e]
      simp only [K6]
      rw [qg9 (R:=r)]
      by_cases c : a = b
      · subst c
        have : ¬ a = k:=fun h=>e h.symm
        simp [this]
      · simp [c]
section
variable {F G : Int→Int→Prop} {N : List qa}
structure PE (F G : Int→Int→Prop) (N : List qa) (k : Nat) (c : List (Int × Int) × List (Int × Int) × List qi) : Prop where
  rm : ∀ j (h : j < N.length),j < k→(∀ m (h2 : m < N.length),j < m→m < k→N[m].Y≠N[j].Y)→K6 0 N[j].Y c.1 = (j : Int)
  cm : ∀ j (h : j < N.length),j < k→(∀ m (h2 : m < N.length),j < m→m < k→N[m].X≠N[j].X)→K6 0 N[j].X c.2.1 = (j : Int)
  nd : c.2.2.Nodup
  mem : ∀ e,e∈c.2.2↔∃ i q : Nat,q < k∧e = {A:=(i : Int),B:=(q : Int)}∧q45 F G N i q
  len : c.2.2.length≤2 * k
theorem qvc {r : Y9} (h1 : Rep r.rows_ F) (h2 : Rep r.columns_ G) (hN : Yf F G N) (hl : N.length≤400) : ∃ E,loop (q3j (N,true) r) (0,[],[],[]) = some E∧E.Nodup∧(∀ e,e∈E↔∃ i q : Nat,e = {A:=(i : Int),B:=(q : Int)}∧q45 F G N i q)∧E.length≤2 * N.length:=by
  have hF : ∀ y x,F y x→-1000000≤x:=fun y x h=>(h1.bnd h).2.2.1;have hG : ∀ x y,G x y→-1000000≤y:=fun x y h=>(h2.bnd h).2.2.1;refine Ks (f:=q3j (N,true) r) (σ:=List (Int × Int) × List (Int × Int) × List qi) (fun k c=>((k : Int),c)) N.length (PE F G N) _ ?_ ?_ (k0:=0) (c0:=([],[],[])) q7 ⟨fun j h h'=>q7,fun j h h'=>q7,.nil,fun e=>⟨fun h=>(by cases h),fun ⟨i,q,h,_⟩=>q7⟩,qd⟩
  · rintro k ⟨rm,cm,E⟩ hk ⟨p1,p2,p3,p4,p5⟩;simp only at p1 p2 p3 p4 p5;have hb : decide ((k : Int) < (N.length : Int)) = true:=Q5 q7;have ap:=q8h h1 h2 ((hN.mem N[k]).1 (Kk hk));have am : PtB N[k]:=ap;have o:=qd1 hN hF hG hk
    have hold : ∀ i,({A:=(i : Int),B:=(k : Int)} : qi) ∉ E:=by
      intro i hm;obtain ⟨i',q,hq,l,_⟩:=(p4 _).1 hm;simp only [qi.mk.injEq] at l;omega
    have hw : ∃ u,(cond (decide (F N[k].Y (N[k].X - 1))) ((app 16 E [({A:=K6 0 N[k].Y rm,B:=(k : Int)} : qi)]).bind fun ak=>some ak) (some E)) = some u∧u.Nodup∧u.length≤E.length + 1∧∀ e,e∈u↔e∈E∨∃ i : Nat,e = {A:=(i : Int),B:=(k : Int)}∧Z4 N i k∧F N[k].Y (N[k].X - 1):=by
      by_cases w : F N[k].Y (N[k].X - 1)
      · obtain ⟨j,g⟩:=qn4 hN hF hk w;have d : j < N.length:=by have:=g.lt;omega
        have t : K6 0 N[k].Y rm = (j : Int):=by
          rw [g.eq d hk];exact p1 j d g.lt fun m p z h5=>g.no m d p z h5
        rw [Q5 w,Q3,t,Yd (by simp;omega)];refine ⟨_,rfl,?_,qd,fun e=>?_⟩
        · rw [List.nodup_append];exact ⟨p3,qd,fun a ha b hb e=>by rw [List.mem_singleton] at hb;subst hb;subst e;exact hold j ha⟩
        · rw [List.mem_append,List.mem_singleton];constructor
          · rintro (h | rfl)
            · exact .inl h
            · exact .inr ⟨j,rfl,g,w⟩
          · rintro (h | ⟨i,rfl,p,_⟩)
            · exact .inl h
            · rw [p.uniq g];exact .inr rfl
      · rw [Q7 w,Q1];exact ⟨E,rfl,p3,q7,fun e=>⟨.inl,fun h=>h.elim id fun ⟨_,_,_,h⟩=>absurd h w⟩⟩
    obtain ⟨u,e1,n1,l1,m1⟩:=hw
    have hs : ∃ E2,(cond (decide (G N[k].X (N[k].Y - 1))) ((app 16 u [({A:=K6 0 N[k].X cm,B:=(k : Int)} : qi)]).bind fun ao=>some ao) (some u)) = some E2∧E2.Nodup∧E2.length≤u.length + 1∧∀ e,e∈E2↔e∈u∨∃ i : Nat,e = {A:=(i : Int),B:=(k : Int)}∧Yz N i k∧G N[k].X (N[k].Y - 1):=by
      by_cases s : G N[k].X (N[k].Y - 1)
      · obtain ⟨j,g⟩:=qn3 hN hG hk s;have d : j < N.length:=by have:=g.lt;omega
        have t : K6 0 N[k].X cm = (j : Int):=by
          rw [g.eq d hk];exact p2 j d g.lt fun m p z h5=>g.no m d p z h5
        rw [Q5 s,Q3,t,Yd (by simp;omega)];refine ⟨_,rfl,?_,qd,fun e=>?_⟩
        · rw [List.nodup_append];refine ⟨n1,qd,fun a ha b hb e=>?_⟩;rw [List.mem_singleton] at hb;subst hb;subst e;rcases (m1 _).1 ha with h | ⟨i,l,hy,_⟩
          · exact hold j h
          · simp only [qi.mk.injEq] at l;have aj : i = j:=by omega
            subst aj;have q1:=hy.eq d hk;have q2:=g.eq d hk;have:=Ut hN.srt d hk g.lt;unfold ltP at this;omega
        · rw [List.mem_append,List.mem_singleton];constructor
          · rintro (h | rfl)
            · exact .inl h
            · exact .inr ⟨j,rfl,g,s⟩
          · rintro (h | ⟨i,rfl,p,_⟩)
            · exact .inl h
            · rw [p.uniq g];exact .inr rfl
      · rw [Q7 s,Q1];exact ⟨u,rfl,n1,q7,fun e=>⟨.inl,fun h=>h.elim id fun ⟨_,_,_,h⟩=>absurd h s⟩⟩
    obtain ⟨E2,e2,n2,l2,m2⟩:=hs;refine .inl ⟨(K9 N[k].Y (k : Int) rm,K9 N[k].X (k : Int) cm,E2),?_,fun j g ai n=>?_,fun j g ai n=>?_,n2,fun e=>?_,by simp only;omega⟩
    · simp only [q3j,hb,Q3,Qu hk,qn,qer h1 h2 am,arB];rw [e1,qn,e2,qn,Qa q7];rfl
    · simp only;rw [qg9];by_cases v : N[j].Y = N[k].Y
      · rw [Q2 v];by_cases aa : j = k
        · subst aa;rfl
        · exact absurd v.symm (n k hk q7 q7)
      · rw [Q4 v];have : j≠k:=fun h=>by subst h;exact v rfl
        exact p1 j g q7 fun m p z h5=>n m p z q7
    · simp only;rw [qg9];by_cases v : N[j].X = N[k].X
      · rw [Q2 v];by_cases aa : j = k
        · subst aa;rfl
        · exact absurd v.symm (n k hk q7 q7)
      · rw [Q4 v];have : j≠k:=fun h=>by subst h;exact v rfl
        exact p2 j g q7 fun m p z h5=>n m p z q7
    · simp only;rw [m2,m1,p4];constructor
      · rintro ((⟨i,q,hq,l,h⟩ | ⟨i,l,h⟩) | ⟨i,l,h⟩)
        · exact ⟨i,q,q7,l,h⟩
        · exact ⟨i,k,q7,l,(o i).2 (.inl h)⟩
        · exact ⟨i,k,q7,l,(o i).2 (.inr h)⟩
      · rintro ⟨i,q,hq,l,h⟩;by_cases eq : q = k
        · subst eq;rcases (o i).1 h with h | h
          · exact .inl (.inr ⟨i,l,h⟩)
          · exact .inr ⟨i,l,h⟩
        · exact .inl (.inl ⟨i,q,q7,l,h⟩)
  · rintro ⟨rm,cm,E⟩ ⟨p1,p2,p3,p4,p5⟩;simp only at p3 p4 p5;have hb : decide ((N.length : Int) < (N.length : Int)) = false:=Q7 q7;refine ⟨E,by simp only [q3j,hb,Q1],p3,fun e=>?_,q7⟩;rw [p4];constructor
    · rintro ⟨i,q,_,l,h⟩;exact ⟨i,q,l,h⟩
    · rintro ⟨i,q,l,h⟩;obtain ⟨hi,h'⟩:=h;refine ⟨i,q,?_,l,hi,h'⟩;rcases h' with ⟨h,_⟩ | ⟨h,_⟩
      · exact h.hk
      · exact h.hk
theorem qvb {r : Y9} (n : Rep r.rows_ F) (d : Rep r.columns_ G) (g : Yf F G N) (f : N.length≤400) : ∃ D E,loop (q3j (N,true) r) (0,[],[],[]) = some D∧q4g (fun c o=>q2n c o) D = some E∧E.length = D.length∧q3q F G N E∧E.length≤2 * N.length:=by
  obtain ⟨D,e1,l,b,k⟩:=qvc n d g f
  have m : ∀ e∈D,PtB (eP2 e):=by
    intro e j;obtain ⟨i,q,rfl,hi,h⟩:=(b e).1 j;have t : q < N.length:=by rcases h with ⟨h,_⟩ | ⟨h,_⟩ <;> exact h.hk
    unfold PtB eP2;simp only;omega
  obtain ⟨E,s,a,p⟩:=q128 D q7 m l;exact ⟨D,E,e1,s,a.length_eq,⟨p,fun e=>by rw [a.mem_iff,b]⟩,by rw [a.length_eq];exact k⟩
def NX (N : List qa) (i k : Nat) (b : Int) : Prop:=(b = -1∧∀ m (h1 : i < N.length) (h2 : m < N.length),i < m→m < k→N[m].X≠N[i].X)∨∃ q : Nat,b = (q : Int)∧Yz N i q
def NY (N : List qa) (i k : Nat) (b : Int) : Prop:=(b = -1∧∀ m (h1 : i < N.length) (h2 : m < N.length),i < m→m < k→N[m].Y≠N[i].Y)∨∃ q : Nat,b = (q : Int)∧Z4 N i q
theorem qpf (hl : N.length≤1000) {i : Nat} (hi : i < N.length) : ∃ b,loop (q8z N N[i]) ((-1),(-1),(((i + 1 : Nat) : Int))) = some b∧NX N i N.length b.1∧NY N i N.length b.2:=by
  refine Ks (f:=q8z N N[i]) (σ:=Int × Int) (fun k c=>(c.1,c.2,(k : Int))) N.length (fun k c=>i < k∧NX N i k c.1∧NY N i k c.2) _ ?_ ?_ (k0:=i + 1) (c0:=((-1),(-1))) q7 ⟨q7,.inl ⟨rfl,fun m _ _ s n=>q7⟩,.inl ⟨rfl,fun m _ _ s n=>q7⟩⟩
  · rintro k ⟨bx,a⟩ hk ⟨t,w,v⟩;simp only at w v;have hb : decide ((k : Int) < (N.length : Int)) = true:=Q5 q7
    have sx : ∃ d,((cond (N[k].X == N[i].X) (some (decide (bx < 0))) (some false)).bind fun u=>(cond u (some (k : Int)) (some bx))) = some d∧NX N i (k + 1) d:=by
      rcases w with ⟨rfl,h⟩ | ⟨q,rfl,y⟩
      · by_cases e : N[k].X = N[i].X
        · have o : (N[k].X == N[i].X) = true:=by simpa using e
          rw [o];exact ⟨(k : Int),rfl,.inr ⟨k,rfl,t,hk,fun _ _=>e,fun j _ n p r=>h j hi n p r⟩⟩
        · have o : (N[k].X == N[i].X) = false:=by simpa using e
          rw [o];refine ⟨-1,rfl,.inl ⟨rfl,fun m s n p r=>?_⟩⟩;by_cases z : m = k
          · subst z;exact e
          · exact h m s n p q7
      · refine ⟨(q : Int),?_,.inr ⟨q,rfl,y⟩⟩;have : decide ((q : Int) < 0) = false:=Q7 q7;rw [this];cases (N[k].X == N[i].X) <;> rfl
    have sy : ∃ l,((cond (N[k].Y == N[i].Y) (some (decide (a < 0))) (some false)).bind fun g=>(cond g (some (k : Int)) (some a))) = some l∧NY N i (k + 1) l:=by
      rcases v with ⟨rfl,h⟩ | ⟨q,rfl,y⟩
      · by_cases e : N[k].Y = N[i].Y
        · have o : (N[k].Y == N[i].Y) = true:=by simpa using e
          rw [o];exact ⟨(k : Int),rfl,.inr ⟨k,rfl,t,hk,fun _ _=>e,fun j _ n p r=>h j hi n p r⟩⟩
        · have o : (N[k].Y == N[i].Y) = false:=by simpa using e
          rw [o];refine ⟨-1,rfl,.inl ⟨rfl,fun m s n p r=>?_⟩⟩;by_cases z : m = k
          · subst z;exact e
          · exact h m s n p q7
      · refine ⟨(q : Int),?_,.inr ⟨q,rfl,y⟩⟩;have : decide ((q : Int) < 0) = false:=Q7 q7;rw [this];cases (N[k].Y == N[i].Y) <;> rfl
    obtain ⟨d,e1,x1⟩:=sx;obtain ⟨l,e2,y1⟩:=sy;refine .inl ⟨(d,l),?_,q7,x1,y1⟩;simp only [q8z,hb,Q3,Qu hk,qn];rw [← Option.bind_assoc (x:=(cond (N[k].X == N[i].X) (some (decide (bx < 0))) (some false))),e1,qn]
    have e3 : ((cond (N[k].Y == N[i].Y) (some (decide (a < 0))) (some false)).bind fun g=>cond g (some (d,(k : Int))) (some (d,a))) = some (d,l):=by
      have : ∀ c : Bool,(cond c (some (d,(k : Int))) (some (d,a))) = (cond c (some (k : Int)) (some a)).map fun b=>(d,b):=by intro c;cases c <;> rfl
      simp only [this]
      have : ((cond (N[k].Y == N[i].Y) (some (decide (a < 0))) (some false)).bind fun g=>(cond g (some (k : Int)) (some a)).map fun b=>(d,b)) = (((cond (N[k].Y == N[i].Y) (some (decide (a < 0))) (some false)).bind fun g=>(cond g (some (k : Int)) (some a)))).map fun b=>(d,b):=by
        cases (cond (N[k].Y == N[i].Y) (some (decide (a < 0))) (some false)) <;> rfl
      rw [this,e2];rfl
    rw [e3,qn,Qa q7];rfl
  · rintro ⟨bx,a⟩ ⟨_,w,v⟩;have hb : decide ((N.length : Int) < (N.length : Int)) = false:=Q7 q7;exact ⟨(bx,a),by simp only [q8z,hb,Q1],w,v⟩
end
end Go.Sh
namespace Go.Sh
open Go Go.Am
open Classical
section
variable {F G : Int→Int→Prop} {N : List qa} {L M : List Ki}
structure RE (F G : Int→Int→Prop) (N : List qa) (k : Nat) (E : List qi) : Prop where
  srt : E.Pairwise ltG
  mem : ∀ e,e∈E↔∃ i q : Nat,i < k∧e = {A:=(i : Int),B:=(q : Int)}∧q45 F G N i q
  len : E.length≤2 * k
theorem qlf {E : List qi} {a : qi} (h : E.Pairwise ltG) (c : ∀ e∈E,ltG e a) : (E ++ [a]).Pairwise ltG:=by
  rw [List.pairwise_append];exact ⟨h,List.pairwise_singleton _ _,fun x d y b=>by rw [List.mem_singleton] at b;subst b;exact c x d⟩
theorem qpe (h1 : Rep (asc L) F) (z : Rep (asc M) G) (hN : Yf F G N) (hl : N.length≤400) : ∃ E,loop (q8y N L M) (0,[]) = some E∧q3q F G N E∧E.length≤2 * N.length:=by
  refine Ks (f:=q8y N L M) (σ:=List qi) (fun k c=>((k : Int),c)) N.length (RE F G N) _ ?_ ?_ (k0:=0) (c0:=[]) q7 ⟨.nil,fun e=>⟨fun h=>(by cases h),fun ⟨i,q,h,_⟩=>q7⟩,qd⟩
  · rintro k E hk ⟨t,p2,p3⟩;have hb : decide ((k : Int) < (N.length : Int)) = true:=Q5 q7;have y : PtB N[k]:=q8h h1 z ((hN.mem N[k]).1 (Kk hk));obtain ⟨⟨bx,s⟩,e0,hx,hy⟩:=qpf (N:=N) q7 hk;simp only at hx hy
    have o : ∀ e∈E,∀ q : Nat,ltG e {A:=(k : Int),B:=(q : Int)}:=by
      intro e b q;obtain ⟨i,l,hi,rfl,_⟩:=(p2 e).1 b;unfold ltG ltP eP2;simp only;omega
    have hu : ∃ j,((cond (decide (G N[k].X N[k].Y)) (some (decide (bx ≥ 0))) (some false)).bind fun r=>(cond r ((app 16 E [({A:=(k : Int),B:=bx} : qi)]).bind fun u=>some u) (some E))) = some j∧j.Pairwise ltG∧j.length≤E.length + 1∧(∀ e,e∈j↔e∈E∨∃ q : Nat,e = {A:=(k : Int),B:=(q : Int)}∧Yz N k q∧G N[k].X N[k].Y):=by
      by_cases g : G N[k].X N[k].Y
      · rw [Q5 g,Q3,qn];rcases hx with ⟨rfl,m⟩ | ⟨q,rfl,d⟩
        · refine ⟨E,rfl,t,q7,fun e=>⟨.inl,fun h=>h.elim id ?_⟩⟩;rintro ⟨q,_,a,_⟩;exact absurd (a.eq hk a.hk) (m q hk a.hk a.lt a.hk)
        · rw [Q5 (show (q : Int) ≥ 0 by omega),Q3,Yd (by simp;omega)];refine ⟨_,rfl,qlf t fun e b=>o e b q,qd,fun e=>?_⟩;rw [List.mem_append,List.mem_singleton];constructor
          · rintro (h | rfl)
            · exact .inl h
            · exact .inr ⟨q,rfl,d,g⟩
          · rintro (h | ⟨l,rfl,a,_⟩)
            · exact .inl h
            · right
              have : l = q:=by
                rcases Nat.lt_trichotomy l q with h | h | h
                · exact absurd (a.eq hk a.hk) (d.no l hk a.hk a.lt h)
                · exact h
                · exact absurd (d.eq hk d.hk) (a.no q hk d.hk d.lt h)
              rw [this]
      · rw [Q7 g,Q1,qn,Q1];exact ⟨E,rfl,t,q7,fun e=>⟨.inl,fun h=>h.elim id fun ⟨_,_,_,h⟩=>absurd h g⟩⟩
    obtain ⟨j,e1,s1,l1,m1⟩:=hu
    have hr : ∃ n,((cond (decide (F N[k].Y N[k].X)) (some (decide (s ≥ 0))) (some false)).bind fun v=>(cond v ((app 16 j [({A:=(k : Int),B:=s} : qi)]).bind fun p=>some p) (some j))) = some n∧n.Pairwise ltG∧n.length≤j.length + 1∧(∀ e,e∈n↔e∈j∨∃ q : Nat,e = {A:=(k : Int),B:=(q : Int)}∧Z4 N k q∧F N[k].Y N[k].X):=by
      by_cases g : F N[k].Y N[k].X
      · rw [Q5 g,Q3,qn];rcases hy with ⟨rfl,m⟩ | ⟨q,rfl,d⟩
        · refine ⟨j,rfl,s1,q7,fun e=>⟨.inl,fun h=>h.elim id ?_⟩⟩;rintro ⟨q,_,a,_⟩;exact absurd (a.eq hk a.hk) (m q hk a.hk a.lt a.hk)
        · rw [Q5 (show (q : Int) ≥ 0 by omega),Q3,Yd (by simp;omega)];refine ⟨_,rfl,qlf s1 fun e b=>?_,qd,fun e=>?_⟩
          · rcases (m1 e).1 b with h | ⟨l,rfl,a,_⟩
            · exact o e h q
            · have af:=qm7 hN.srt a d;exact .inr ⟨rfl,show (l : Int) < (q : Int) by omega⟩
          · rw [List.mem_append,List.mem_singleton];constructor
            · rintro (h | rfl)
              · exact .inl h
              · exact .inr ⟨q,rfl,d,g⟩
            · rintro (h | ⟨l,rfl,a,_⟩)
              · exact .inl h
              · right
                have : l = q:=by
                  rcases Nat.lt_trichotomy l q with h | h | h
                  · exact absurd (a.eq hk a.hk) (d.no l hk a.hk a.lt h)
                  · exact h
                  · exact absurd (d.eq hk d.hk) (a.no q hk d.hk d.lt h)
                rw [this]
      · rw [Q7 g,Q1,qn,Q1];exact ⟨j,rfl,s1,q7,fun e=>⟨.inl,fun h=>h.elim id fun ⟨_,_,_,h⟩=>absurd h g⟩⟩
    obtain ⟨n,e2,s2,l2,m2⟩:=hr;refine .inl ⟨n,?_,s2,fun e=>?_,q7⟩
    · simp only [q8y,hb,Q3,Qu hk,qn,qng h1 z y,arB];rw [Qa q7,show ((k : Int) + 1) = ((k + 1 : Nat) : Int) by omega,e0,qn];simp only;rw [← Option.bind_assoc (x:=(cond (decide (G N[k].X N[k].Y)) (some (decide (bx ≥ 0))) (some false))),e1,qn,e2,qn]
    · rw [m2,m1,p2];constructor
      · rintro ((⟨i,q,d,b,h⟩ | ⟨q,b,a,w⟩) | ⟨q,b,a,w⟩)
        · exact ⟨i,q,q7,b,h⟩
        · exact ⟨k,q,q7,b,hk,.inl ⟨a,w⟩⟩
        · exact ⟨k,q,q7,b,hk,.inr ⟨a,w⟩⟩
      · rintro ⟨i,q,d,b,h⟩;by_cases eq : i = k
        · subst eq;obtain ⟨_,h | h⟩:=h
          · exact .inl (.inr ⟨q,b,h.1,h.2⟩)
          · exact .inr ⟨q,b,h.1,h.2⟩
        · exact .inl (.inl ⟨i,q,q7,b,h⟩)
  · rintro E ⟨t,p2,p3⟩;have hb : decide ((N.length : Int) < (N.length : Int)) = false:=Q7 q7;refine ⟨E,by simp only [q8y,hb,Q1],⟨t,fun e=>?_⟩,q7⟩;rw [p2];constructor
    · rintro ⟨i,q,_,b,h⟩;exact ⟨i,q,b,h⟩
    · rintro ⟨i,q,b,hi,h⟩;exact ⟨i,q,hi,b,hi,h⟩
end
structure Zw (F G : Int→Int→Prop) (n : Qh) : Prop where
  nodes : Yf F G n.Nodes
  edges : q3q F G n.Nodes n.Edges
  nlen : n.Nodes.length≤400
  elen : n.Edges.length≤2 * n.Nodes.length
theorem Zw.uniq {F G : Int→Int→Prop} {n m : Qh} (h : Zw F G n) (a : Zw F G m) : n = m:=by
  obtain ⟨N,E⟩:=n;obtain ⟨c,b⟩:=m;have e : N = c:=qma h.nodes a.nodes;subst e;have : E = b:=qjn h.edges a.edges;rw [this]
abbrev rowP (l : List qt) : Int→Int→Prop:=onL (q2f l)
abbrev colP (l : List qt) : Int→Int→Prop:=onL (q1v l)
def q7k (F G : Int→Int→Prop) : Prop:=∃ b : List qa,b.Nodup∧400 < b.length∧∀ p∈b,Kv F G p.X p.Y
theorem q7k.not {F G : Int→Int→Prop} (h : q7k F G) {N : List qa} (d : Yf F G N) : 400 < N.length:=by
  obtain ⟨b,a,f,c⟩:=h;have:=List.Nodup.length_le_of_subset a (l₂:=N) fun p hp=>(d.mem p).2 (c p hp);omega
theorem qdf {l : List qt} (k : l.length≤400) (o : ∀ s∈l,SegV s) : (∃ n,q3i l = some (n,true)∧Zw (rowP l) (colP l) n)∨(q3i l = some ({Nodes:=[],Edges:=[]},false)∧q7k (rowP l) (colP l)):=by
  obtain ⟨r,e1,f,d⟩:=qch k o;unfold q3i;rw [e1,qn];rcases qvk f d with ⟨N,g,a,c⟩ | ⟨p,q,c⟩
  · left;obtain ⟨D,E,m,t,j,h,b⟩:=qvb f d g a;rw [c];simp only [qn,Bool.not_true,Q1,m,t];have le : Qz E.length D.length = some ():=by unfold Qz;rw [Q2 j]
    rw [le,qn];refine ⟨{Nodes:=N,Edges:=E},?_,g,h,a,b⟩;rw [Q5 (show (D.length : Int)≤800 by omega)]
  · right;rw [c];exact ⟨rfl,p⟩
theorem qpg {l : List qt} (g : l.length≤400) (k : ∀ s∈l,SegV s) : (∃ n,q5v l = some (n,true)∧Zw (rowP l) (colP l) n)∨(q5v l = some ({Nodes:=[],Edges:=[]},false)∧q7k (rowP l) (colP l)):=by
  obtain ⟨L,e1,m,_⟩:=ql8 l true g k;obtain ⟨M,t,f,_⟩:=ql8 l false g k;obtain ⟨N,p,s1,q,j,u⟩:=qzl m f;unfold q5v;rw [e1,qn,t,qn,p,qn];by_cases c : N.length≤400
  · left;rw [Q7 (show ¬ (N.length : Int) > 400 by omega),Q1];obtain ⟨E,r,o,d⟩:=qpe m f (j c) c;rw [r,qn];exact ⟨{Nodes:=N,Edges:=E},by rw [Q5 (show (E.length : Int)≤800 by omega)],j c,o,c,d⟩
  · right;rw [Q5 (show (N.length : Int) > 400 by omega),Q3];exact ⟨rfl,N,s1.imp (by rintro a b h rfl;exact q36 a a h h),q7,q⟩
theorem qm3 {l : List qt} (f : l.length≤400) (d : ∀ s∈l,SegV s) : q3i l = q5v l:=by
  rcases qdf f d with ⟨n,e1,b⟩ | ⟨e1,b⟩ <;> rcases qpg f d with ⟨m,c,a⟩ | ⟨c,a⟩
  · rw [e1,c,b.uniq a]
  · have:=a.not b.nodes;have:=b.nlen;omega
  · have:=b.not a.nodes;have:=a.nlen;omega
  · rw [e1,c]
end Go.Sh
namespace Go.Sh
open Go Go.Am
open Classical
theorem beqI (a b : Int) : (a == b) = decide (a = b):=by
  by_cases h : a = b
  · rw [Q5 h];simpa using h
  · rw [Q7 h];simpa using h
theorem qkr (p : qa) : q4s p = some (decide (PtB p)):=by
  unfold q4s;by_cases h : PtB p
  · have a:=h;unfold PtB at a;rw [Q5 h,Q5 (show min p.X p.Y ≥ -1000000 by omega),Q3,Q5 (show max p.X p.Y≤1000000 by omega)];rfl
  · have a:=h;unfold PtB at a;rw [Q7 h];by_cases b : min p.X p.Y ≥ -1000000
    · rw [Q5 b,Q3,Q7 (show ¬ max p.X p.Y≤1000000 by omega)];rfl
    · rw [Q7 b,Q1];rfl
theorem q9b (s : qt) : SegV s↔PtB s.A∧PtB s.B∧((s.A.X = s.B.X∧s.A.Y≠s.B.Y)∨(s.A.X≠s.B.X∧s.A.Y = s.B.Y)):=by
  constructor
  · rintro ⟨a,b,c⟩;exact ⟨a,b,c⟩
  · rintro ⟨a,b,c⟩;exact ⟨a,b,c⟩
theorem qee (s : qt) : q7c s = some (decide (SegV s)):=by
  unfold q7c;rw [qkr,qn];by_cases a : PtB s.A
  · rw [Q5 a,Q3,qkr,qn,qn];by_cases b : PtB s.B
    · rw [Q5 b,Q3,qn];congr 1;rw [beqI,beqI];by_cases e1 : s.A.X = s.B.X <;> by_cases c : s.A.Y = s.B.Y <;> simp [q9b,a,b,e1,c]
    · rw [Q7 b,Q1,qn];simp [q9b,b]
  · rw [Q7 a,Q1,qn,Q1,qn];simp [q9b,a]
theorem qnh (p : qa) : q5t p = some (decide (PtB p)):=by
  unfold q5t;by_cases h : PtB p
  · have a:=h;unfold PtB at a;rw [Q5 h,Q5 (show p.X ≥ -1000000 by omega),Q3,Q5 (show p.X≤1000000 by omega),Q5 (show p.Y ≥ -1000000 by omega),Q5 (show p.Y≤1000000 by omega)];rfl
  · have a:=h;unfold PtB at a;rw [Q7 h];by_cases d : p.X ≥ -1000000 <;> by_cases b : p.X≤1000000 <;> by_cases f : p.Y ≥ -1000000 <;> by_cases c : p.Y≤1000000
    all_goals first | omega | (simp only [d,b,f,c,decide_true,decide_false,Q3,Q1,qn])
theorem qe0 (s : qt) : q4d s = some (decide (SegV s)):=by
  unfold q4d;rw [qnh,qnh];simp only [beqI];by_cases e1 : s.A.X = s.B.X <;> by_cases c : s.A.Y = s.B.Y <;> by_cases a : PtB s.A <;> by_cases b : PtB s.B <;> simp [q9b,a,b,e1,c]
end Go.Sh
namespace Go.Sh
open Go Go.Am
open Classical
theorem dlt' {k n : Nat} (h : k < n) : decide ((k : Int) < (n : Int)) = true:=Q5 q7
theorem dnl' {n : Nat} : decide ((n : Int) < (n : Int)) = false:=Q7 q7
theorem beqP (a b : qa) : ((a.X == b.X) && ((a.Y == b.Y) && true)) = decide (a = b):=by
  obtain ⟨f,h⟩:=a;obtain ⟨bx,c⟩:=b;simp only [beqI,Bool.and_true,qa.mk.injEq];by_cases g : f = bx <;> by_cases d : h = c <;> simp [g,d]
theorem beqG (a b : qi) : ((a.A == b.A) && ((a.B == b.B) && true)) = decide (a = b):=by
  obtain ⟨f,h⟩:=a;obtain ⟨bx,c⟩:=b;simp only [beqI,Bool.and_true,qi.mk.injEq];by_cases g : f = bx <;> by_cases d : h = c <;> simp [g,d]
theorem q3z {α : Type} [DecidableEq α] {f : Int→Option (Int ⊕ (Unit ⊕ Bool))} {p q : List α} (j : p.length = q.length) (r : p.length≤1000000)
    (hs : ∀ k (a : k < p.length) (c : k < q.length),f (k : Int) = if p[k] = q[k] then some (.inl (w64 ((k : Int) + 1))) else some (.inr (.inr false))) (hd : f (p.length : Int) = some (.inr (.inl ()))) :
    loop f 0 = some (if p = q then .inl () else .inr false):=by
  have:=Ks (f:=f) (σ:=Unit) (fun k _=>(k : Int)) p.length (fun k _=>∀ i (a : i < p.length) (c : i < q.length),i < k→p[i] = q[i]) (fun o=>o = if p = q then .inl () else .inr false) ?_ ?_ (k0:=0) (c0:=()) q7 (fun i _ _ h=>q7)
  · obtain ⟨b,a,rfl⟩:=this;exact a
  · rintro k _ hk d;have c : k < q.length:=by omega
    have:=hs k hk c;by_cases e : p[k] = q[k]
    · rw [Q2 e,Qa q7] at this;refine .inl ⟨(),by rw [this];rfl,fun i g l n=>?_⟩;by_cases m : i = k
      · subst m;exact e
      · exact d i g l q7
    · rw [Q4 e] at this;refine .inr ⟨_,this,?_⟩;rw [Q4];rintro rfl;exact e rfl
  · rintro _ d;refine ⟨_,hd,?_⟩;rw [Q2];exact List.ext_getElem j fun i a c=>d i a c a
theorem qsu (p q : List qa) (d : p.length≤1000000) : q9e p q = some (decide (p = q)):=by
  unfold q9e;by_cases a : p.length = q.length
  · have e1 : ((p.length : Int) != (q.length : Int)) = false:=by rw [a];simp
    have f : loop (q6f p q) 0 = some (if p = q then .inl () else .inr false):=by
      refine q3z a d (fun k b c=>?_) ?_
      · simp only [q6f,dlt' b,Q3,Qu b,Qu c,qn,beqP];by_cases e : p[k] = q[k] <;> simp [e]
      · simp only [q6f,dnl',Q1]
    rw [e1,Q1,f];by_cases e : p = q <;> simp [e]
  · have e1 : ((p.length : Int) != (q.length : Int)) = true:=by simp;omega
    rw [e1,Q3,Q7 (fun h=>a (by rw [h]))]
theorem qst (p q : List qi) (d : p.length≤1000000) : q9d p q = some (decide (p = q)):=by
  unfold q9d;by_cases a : p.length = q.length
  · have e1 : ((p.length : Int) != (q.length : Int)) = false:=by rw [a];simp
    have f : loop (q6e p q) 0 = some (if p = q then .inl () else .inr false):=by
      refine q3z a d (fun k b c=>?_) ?_
      · simp only [q6e,dlt' b,Q3,Qu b,Qu c,qn,beqG];by_cases e : p[k] = q[k] <;> simp [e]
      · simp only [q6e,dnl',Q1]
    rw [e1,Q1,f];by_cases e : p = q <;> simp [e]
  · have e1 : ((p.length : Int) != (q.length : Int)) = true:=by simp;omega
    rw [e1,Q3,Q7 (fun h=>a (by rw [h]))]
theorem qo3 (p q : Qh) (b : p.Nodes.length≤1000000) (a : p.Edges.length≤1000000) : qbu p q = some (decide (p = q)):=by
  obtain ⟨N,E⟩:=p;obtain ⟨d,c⟩:=q;unfold qbu;simp only at b a ⊢;rw [qsu _ _ b,qn];by_cases e1 : N = d
  · rw [Q5 e1,Q3,qst _ _ a];by_cases f : E = c <;> simp [e1,f]
  · rw [Q7 e1];simp [e1]
theorem qdz (p q : Qh) (c : p.Nodes.length≤1000000) (d : p.Edges.length≤1000000) : q1k p q = some (decide (p = q)):=by
  obtain ⟨N,E⟩:=p;obtain ⟨a,b⟩:=q;unfold q1k;simp only at c d ⊢;by_cases g : N.length = a.length
  · by_cases j : E.length = b.length
    · have e1 : ((N.length : Int) != (a.length : Int)) = false:=by rw [g];simp
      have l : ((E.length : Int) != (b.length : Int)) = false:=by rw [j];simp
      have f1 : loop (q5w {Nodes:=N,Edges:=E} {Nodes:=a,Edges:=b}) 0 = some (if N = a then .inl () else .inr false):=by
        refine q3z g c (fun k c d=>?_) ?_
        · simp only [q5w,dlt' c,Q3,Qu c,Qu d,qn,beqP];by_cases e : N[k] = a[k] <;> simp [e]
        · simp only [q5w,dnl',Q1]
      have m : loop (q5x {Nodes:=N,Edges:=E} {Nodes:=a,Edges:=b}) 0 = some (if E = b then .inl () else .inr false):=by
        refine q3z j d (fun k c d=>?_) ?_
        · simp only [q5x,dlt' c,Q3,Qu c,Qu d,qn,beqG];by_cases e : E[k] = b[k] <;> simp [e]
        · simp only [q5x,dnl',Q1]
      rw [e1,Q1,l,qn,Q1,f1,m];by_cases f : N = a <;> by_cases n : E = b <;> simp [f,n]
    · have e1 : ((N.length : Int) != (a.length : Int)) = false:=by rw [g];simp
      have l : ((E.length : Int) != (b.length : Int)) = true:=by simp;omega
      have f : ¬ E = b:=fun h=>j (by rw [h]);rw [e1,Q1,l,qn,Q3];simp [f]
  · have e1 : ((N.length : Int) != (a.length : Int)) = true:=by simp;omega
    have f : ¬ N = a:=fun h=>g (by rw [h]);rw [e1,Q3,qn,Q3];simp [f]
end Go.Sh
namespace Go.Sh
open Go Go.Am
open Classical
abbrev net0 : Qh:={Nodes:=[],Edges:=[]}
theorem qlh (l : List qt) (m : l.length≤400) : loop (q78 l) 0 = some (if ∀ s∈l,SegV s then .inl () else .inr (net0,8))∧loop (qdt l) 0 = some (if ∀ s∈l,SegV s then .inl () else .inr (net0,8)):=by
  have key : ∀ f : Int→Option (Int ⊕ (Unit ⊕ (Qh × Int))),(∀ k (hk : k < l.length),f (k : Int) = if SegV l[k] then some (.inl (w64 ((k : Int) + 1))) else some (.inr (.inr (net0,8))))→f (l.length : Int) = some (.inr (.inl ()))→loop f 0 = some (if ∀ s∈l,SegV s then .inl () else .inr (net0,8)):=by
    intro f hs hd;have:=Ks (f:=f) (σ:=Unit) (fun k _=>(k : Int)) l.length (fun k _=>∀ i (hi : i < l.length),i < k→SegV l[i]) (fun o=>o = if ∀ s∈l,SegV s then .inl () else .inr (net0,8)) ?_ ?_ (k0:=0) (c0:=()) q7 (fun i hi h=>q7)
    · obtain ⟨b,j,rfl⟩:=this;exact j
    · rintro k _ hk c;have:=hs k hk;by_cases a : SegV l[k]
      · rw [Q2 a,Qa q7] at this;refine .inl ⟨(),by rw [this];rfl,fun i hi g=>?_⟩;by_cases e : i = k
        · subst e;exact a
        · exact c i hi q7
      · rw [Q4 a] at this;exact .inr ⟨_,this,by rw [Q4 (fun h=>a (h _ (Kk hk)))]⟩
    · rintro _ c;refine ⟨_,hd,?_⟩;rw [Q2];intro s d;obtain ⟨i,hi,rfl⟩:=List.mem_iff_getElem.1 d;exact c i hi hi
  constructor
  · refine key _ (fun k hk=>?_) (by simp only [q78,dnl',Q1]);simp only [q78,dlt' hk,Q3,Qu hk,qn,qee];by_cases h : SegV l[k]
    · rw [Q2 h,Q5 h];rfl
    · rw [Q4 h,Q7 h];rfl
  · refine key _ (fun k hk=>?_) (by simp only [qdt,dnl',Q1]);simp only [qdt,dlt' hk,Q3,Qu hk,qn,qe0];by_cases h : SegV l[k]
    · rw [Q2 h,Q5 h];rfl
    · rw [Q4 h,Q7 h];rfl
theorem qlj {l : List qt} (a : l.length≤400) (b : ∀ s∈l,SegV s) : (∃ n,Jd l = some (n,0)∧q8x l = some (n,0)∧Zw (rowP l) (colP l) n)∨(Jd l = some (net0,4)∧q8x l = some (net0,4)∧q7k (rowP l) (colP l)):=by
  unfold Jd q8x;rw [Q7 (show ¬ (l.length : Int) > 400 by omega),Q1,Q1,(qlh l a).1,(qlh l a).2,Q2 b,← qm3 a b];rcases qdf a b with ⟨n,e,h⟩ | ⟨e,h⟩
  · exact .inl ⟨n,by rw [qn,e];rfl,by rw [qn,e];rfl,h⟩
  · exact .inr ⟨by rw [qn,e];rfl,by rw [qn,e];rfl,h⟩
end Go.Sh
namespace Go.Sh
open Go Go.Am
open Classical
noncomputable def Ja (n : Qh) (e : qi) : qt:={A:=(n.Nodes[e.A.toNat]?).getD default,B:=(n.Nodes[e.B.toNat]?).getD default}
def eOk (n : Qh) (e : qi) : Prop:=(0≤e.A∧e.A < n.Nodes.length)∧(0≤e.B∧e.B < n.Nodes.length)∧SegV (Ja n e)
noncomputable def q2v (n : Qh) : List qt × Bool:=if ∀ e∈n.Edges,eOk n e then (n.Edges.map (Ja n),true) else ([],false)
theorem qcz {N : List qa} {a : Int} (h : 0≤a∧a < N.length) : idx N a = some ((N[a.toNat]?).getD default):=by
  rw [q59 (k:=a.toNat) q7 q7,List.getElem?_eq_getElem q7];rfl
theorem qcn (n : Qh) (r : n.Edges.length≤1000) : q4r n = some (q2v n):=by
  have:=Ks (f:=Uu n) (σ:=List qt) (fun k c=>((k : Int),c)) n.Edges.length (fun k c=>(∀ i (h : i < n.Edges.length),i < k→eOk n n.Edges[i])∧c = (n.Edges.take k).map (Ja n)) (fun o=>o = if ∀ e∈n.Edges,eOk n e then .inl (n.Edges.map (Ja n)) else .inr ([],false)) ?_ ?_ (k0:=0) (c0:=[]) q7 ⟨fun i h q=>q7,rfl⟩
  · obtain ⟨o,e,l⟩:=this;have e : loop (Uu n) (0,[]) = some o:=e;unfold q4r q2v;rw [e,l];by_cases h : ∀ e∈n.Edges,eOk n e
    · simp only [Q2 h];rfl
    · simp only [Q4 h];rfl
  · rintro k c hk ⟨g,rfl⟩;have hb : decide ((k : Int) < (n.Edges.length : Int)) = true:=Q5 q7
    have bad : ¬ eOk n n.Edges[k]→(Sum.inr ([],false) : List qt ⊕ (List qt × Bool)) = if ∀ e∈n.Edges,eOk n e then .inl (n.Edges.map (Ja n)) else .inr ([],false):=fun h=>by
      rw [Q4 (fun m=>h (m _ (Kk hk)))]
    by_cases a : (0≤n.Edges[k].A∧n.Edges[k].A < n.Nodes.length)∧(0≤n.Edges[k].B∧n.Edges[k].B < n.Nodes.length)
    · have d : (cond (decide ((min n.Edges[k].A n.Edges[k].B) < 0)) (some true) (some (decide ((max n.Edges[k].A n.Edges[k].B) ≥ (n.Nodes.length : Int))))) = some false:=by
        rw [Q7 q7,Q1,Q7 q7]
      have hs : ({A:=(n.Nodes[(n.Edges[k].A).toNat]?).getD default,B:=(n.Nodes[(n.Edges[k].B).toNat]?).getD default} : qt) = Ja n n.Edges[k]:=rfl;by_cases b : SegV (Ja n n.Edges[k])
      · refine .inl ⟨(n.Edges.take (k + 1)).map (Ja n),?_,fun i hi j=>?_,rfl⟩
        · simp only [Uu,hb,Q3,Qu hk,qn,d,Q1,qcz a.1,qcz a.2,hs,qee,Q5 b,Bool.not_true];rw [Yd (by simp;omega),qn,Qa q7,List.take_succ_eq_append_getElem hk,List.map_append];rfl
        · by_cases e : i = k
          · subst e;exact ⟨a.1,a.2,b⟩
          · exact g i hi q7
      · refine .inr ⟨_,?_,bad fun h=>b h.2.2⟩;simp only [Uu,hb,Q3,Qu hk,qn,d,Q1,qcz a.1,qcz a.2,hs,qee,Q7 b,Bool.not_false]
    · have d : (cond (decide ((min n.Edges[k].A n.Edges[k].B) < 0)) (some true) (some (decide ((max n.Edges[k].A n.Edges[k].B) ≥ (n.Nodes.length : Int))))) = some true:=by
        by_cases h : min n.Edges[k].A n.Edges[k].B < 0
        · rw [Q5 h];rfl
        · rw [Q7 h,Q1,Q5 q7]
      refine .inr ⟨_,?_,bad fun h=>a ⟨h.1,h.2.1⟩⟩;simp only [Uu,hb,Q3,Qu hk,qn,d]
  · rintro c ⟨g,rfl⟩;have hb : decide ((n.Edges.length : Int) < (n.Edges.length : Int)) = false:=Q7 q7;refine ⟨.inl _,by simp only [Uu,hb,Q1];rfl,?_⟩;rw [Q2,List.take_length];intro e p;obtain ⟨i,hi,rfl⟩:=List.mem_iff_getElem.1 p;exact g i hi hi
theorem qnj (n : Qh) (g : n.Edges.length≤1000) : qdv n = some (q2v n):=by
  have e : qgz n = Uu n:=by
    funext a;simp only [qgz,Uu,qee,qe0];congr 1;congr 1;funext v
    have j : ((cond (decide (v.A < 0)) (some true) (some (decide (v.A ≥ (n.Nodes.length : Int))))).bind fun c=>(cond c (some true) (some (decide (v.B < 0)))).bind fun b=>(cond b (some true) (some (decide (v.B ≥ (n.Nodes.length : Int)))))) = (cond (decide ((min v.A v.B) < 0)) (some true) (some (decide ((max v.A v.B) ≥ (n.Nodes.length : Int))))):=by
      by_cases d : v.A < 0 <;> by_cases f : v.A ≥ (n.Nodes.length : Int) <;> by_cases b1 : v.B < 0 <;> by_cases b2 : v.B ≥ (n.Nodes.length : Int)
      all_goals
        simp only [d,f,b1,b2,decide_true,decide_false,Q3,Q1,qn]
        symm
        by_cases h : min v.A v.B < 0
        · first | (rw [Q5 h,Q3];done) | omega
        · rw [Q7 h,Q1]
          congr 1
          first | exact Q5 q7 | exact Q7 q7 | omega
    rw [← j];simp only [Option.bind_assoc]
  rw [← qcn n g];unfold qdv q4r;rw [e]
end Go.Sh
namespace Go.Sh
open Go Go.Am
open Classical
structure Jf (n : Qh) (l : List qt) : Prop where
  drawn : q2v n = (l,true)
  len : l.length = n.Edges.length
  le : n.Edges.length≤400
  val : ∀ s∈l,SegV s
  net : Zw (rowP l) (colP l) n
theorem qrn {n : Qh} {l : List qt} (h : q2v n = (l,true)) : l = n.Edges.map (Ja n)∧∀ e∈n.Edges,eOk n e:=by
  unfold q2v at h;split at h
  · rename_i a;cases h;exact ⟨rfl,a⟩
  · cases h
def Fit (n : Qh) : Prop:=(n.Nodes.length≤100000∧n.Edges.length≤1000)∧(n.Edges.length≤400∨400 < n.Nodes.length∨800 < n.Edges.length)
theorem qzz {n : Qh} (q : Fit n) : ∃ c,U8 n = some c∧q3b n = some c∧((c = 0∧∃ l,Jf n l)∨c = 4∨c = 8):=by
  obtain ⟨⟨f1,o⟩,u⟩:=q;unfold U8 q3b;by_cases k : 400 < n.Nodes.length∨800 < n.Edges.length
  · have e : (cond (decide ((n.Nodes.length : Int) > 400)) (some true) (some (decide ((n.Edges.length : Int) > 800)))) = some true:=by
      by_cases h : (n.Nodes.length : Int) > 400
      · rw [Q5 h];rfl
      · rw [Q7 h,Q1,Q5 q7]
    rw [e];exact ⟨4,rfl,rfl,.inr (.inl rfl)⟩
  · have e : (cond (decide ((n.Nodes.length : Int) > 400)) (some true) (some (decide ((n.Edges.length : Int) > 800)))) = some false:=by
      rw [Q7 q7,Q1,Q7 q7]
    have p : n.Edges.length≤400:=by omega
    rw [e,qn,Q1,qcn n o,qn,qn,Q1,qnj n o,qn]
    cases hd : q2v n with
    | mk l b=>
      cases b with
      | false=>exact ⟨8,rfl,rfl,.inr (.inr rfl)⟩
      | true=>
        obtain ⟨j,r⟩:=qrn hd
        have a : ∀ s∈l,SegV s:=by
          subst j;intro s hs;obtain ⟨e,t,rfl⟩:=List.mem_map.1 hs;exact (r e t).2.2
        have d : l.length = n.Edges.length:=by rw [j];simp
        simp only [Bool.not_true,Q1];rw [← qm3 q7 a];rcases qdf q7 a with ⟨m,e1,f⟩ | ⟨e1,f⟩
        · rw [e1];have:=f.nlen;have:=f.elen;simp only [qn,Bool.not_true,Q1,qo3 m n q7 q7,qdz m n q7 q7];by_cases g : m = n
          · subst g;rw [Q5 rfl];exact ⟨0,rfl,rfl,.inl ⟨rfl,l,hd,d,p,a,f⟩⟩
          · rw [Q7 g];exact ⟨8,rfl,rfl,.inr (.inr rfl)⟩
        · rw [e1];exact ⟨8,rfl,rfl,.inr (.inr rfl)⟩
theorem qhc {n : Qh} (a : Fit n) : ∃ l c,q2m n = some (l,c)∧q90 n = some (l,c)∧U8 n = some c∧q3b n = some c∧((c = 0∧Jf n l)∨((c = 4∨c = 8)∧l = [])):=by
  obtain ⟨c,e1,d,h⟩:=qzz a;unfold q2m q90;rw [e1,d];rcases h with ⟨rfl,l,b⟩ | h
  · refine ⟨l,0,?_,?_,rfl,rfl,.inl ⟨rfl,b⟩⟩
    · simp only [qn];rw [qcn n a.1.2,b.drawn];rfl
    · simp only [qn];rw [qnj n a.1.2,b.drawn];rfl
  · have : (c != 0) = true:=by rcases h with rfl | rfl <;> rfl
    refine ⟨[],c,?_,?_,rfl,rfl,.inr ⟨h,rfl⟩⟩
    · simp only [qn,this,Q3]
    · simp only [qn,this,Q3]
end Go.Sh
namespace Go.Sh
open Go Go.Am
open Classical
def q39 (s : qt) (p : qa) : Prop:=(min s.A.X s.B.X≤p.X∧p.X≤max s.A.X s.B.X)∧min s.A.Y s.B.Y≤p.Y∧p.Y≤max s.A.Y s.B.Y
theorem qml (s : qt) (p : qa) : qec s p = some (decide (q39 s p)):=by
  unfold qec;by_cases h : q39 s p
  · rw [Q5 h];obtain ⟨⟨c,a⟩,d,b⟩:=h;rw [Q5 c,Q3,Q5 a,Q5 d,Q5 b];rfl
  · rw [Q7 h];unfold q39 at h;by_cases c : min s.A.X s.B.X≤p.X <;> by_cases a : p.X≤max s.A.X s.B.X <;> by_cases d : min s.A.Y s.B.Y≤p.Y <;> by_cases b : p.Y≤max s.A.Y s.B.Y
    all_goals first | (exfalso;exact h ⟨⟨c,a⟩,d,b⟩) | (simp only [c,a,d,b,decide_true,decide_false,Q3,Q1,qn])
theorem qni (s : qt) (p : qa) : qnf s p = some (decide (q39 s p)):=qml s p
theorem q112 (l : List qt) (p : qt→Option Bool) (c : qt→Bool) (h : ∀ t,p t = some (c t)) (n : l.length≤1000000) : qe3 l p = some (l.any c):=by
  have:=Ks (f:=q6g l p) (σ:=Unit) (fun k _=>(k : Int)) l.length (fun k _=>∀ i (hi : i < l.length),i < k→c l[i] = false) (fun o=>(∃ k : Nat,o = .inr (k : Int)∧l.any c = true)∨(o = .inl ()∧l.any c = false)) ?_ ?_ (k0:=0) (c0:=()) q7 (fun i hi h=>q7)
  · obtain ⟨o,e,g⟩:=this;have e : loop (q6g l p) 0 = some o:=e;unfold qe3 qoe;rw [e];rcases g with ⟨k,rfl,d⟩ | ⟨rfl,d⟩
    · simp only [qn,d];rw [Q5 (show (k : Int) ≥ 0 by omega)]
    · simp only [qn,d];rfl
  · rintro k _ hk b
    cases a : c l[k] with
    | true=>
      refine .inr ⟨.inr (k : Int),?_,.inl ⟨k,rfl,List.any_eq_true.2 ⟨_,Kk hk,a⟩⟩⟩;simp only [q6g,dlt' hk,Q3,Qu hk,qn,h,a]
    | false=>
      refine .inl ⟨(),?_,fun i hi m=>?_⟩
      · simp only [q6g,dlt' hk,Q3,Qu hk,qn,h,a,Q1];rw [Qa q7];rfl
      · by_cases e : i = k
        · subst e;exact a
        · exact b i hi q7
  · rintro _ b;refine ⟨.inl (),by simp only [q6g,dnl',Q1],.inr ⟨rfl,List.any_eq_false.2 fun x j=>?_⟩⟩;obtain ⟨i,hi,rfl⟩:=List.mem_iff_getElem.1 j;rw [b i hi hi];simp
noncomputable def q51 (l : List qt) (p : qa) : Bool:=l.any fun s=>decide (q39 s p)
theorem qyx (l : List qt) (c : Int) (p : qa) (m : l.length≤1000000) : loop (q4c (l,c) p) 0 = some (if q51 l p = true then .inr (true,0) else .inl ()):=by
  have:=Ks (f:=q4c (l,c) p) (σ:=Unit) (fun k _=>(k : Int)) l.length (fun k _=>∀ i (hi : i < l.length),i < k→¬ q39 l[i] p) (fun o=>o = if q51 l p = true then .inr (true,0) else .inl ()) ?_ ?_ (k0:=0) (c0:=()) q7 (fun i hi h=>q7)
  · obtain ⟨o,e,rfl⟩:=this;exact e
  · rintro k _ hk b;by_cases a : q39 l[k] p
    · refine .inr ⟨.inr (true,0),?_,?_⟩
      · simp only [q4c,dlt' hk,Q3,Qu hk,qn,qni,Q5 a]
      · have : q51 l p = true:=List.any_eq_true.2 ⟨_,Kk hk,Q5 a⟩;rw [Q2 this]
    · refine .inl ⟨(),?_,fun i hi j=>?_⟩
      · simp only [q4c,dlt' hk,Q3,Qu hk,qn,qni,Q7 a,Q1];rw [Qa q7];rfl
      · by_cases e : i = k
        · subst e;exact a
        · exact b i hi q7
  · rintro _ b;refine ⟨.inl (),by simp only [q4c,dnl',Q1],?_⟩;rw [Q4];intro h;obtain ⟨x,g,d⟩:=List.any_eq_true.1 h;obtain ⟨i,hi,rfl⟩:=List.mem_iff_getElem.1 g;exact b i hi hi (of_decide_eq_true d)
theorem Jf.len400 {n : Qh} {l : List qt} (h : Jf n l) : l.length≤400:=by have:=h.len;have:=h.le;omega
theorem qkl {n : Qh} (o : Fit n) (p : qa) : ∃ b c,qot n p = some (b,c)∧qnc n p = some (b,c)∧U8 n = some c∧(∀ l,Jf n l→b = q51 l p∧c = 0):=by
  obtain ⟨l,c,e1,r,d,_,h⟩:=qhc o;unfold qot qnc;rw [e1,r];rcases h with ⟨rfl,hs⟩ | ⟨h,rfl⟩
  · have v:=hs.len400;refine ⟨q51 l p,0,?_,?_,d,fun l' a=>⟨?_,rfl⟩⟩
    · simp only [qn];show (qe3 l fun k=>qou k p).bind (fun q=>some (q,0)) = _;rw [q112 l _ (fun s=>decide (q39 s p)) (fun t=>by show (qec t p).bind _ = _;rw [qml];rfl) q7];rfl
    · simp only [qn];show (loop (q4c (l,0) p) 0).bind _ = _;rw [qyx l 0 p q7];cases q51 l p <;> rfl
    · have:=hs.drawn;have:=a.drawn;simp_all
  · have j : (c != 0) = true:=by rcases h with rfl | rfl <;> rfl
    refine ⟨false,c,?_,?_,d,fun l' a=>?_⟩
    · simp only [qn,j,Q3]
    · simp only [qn,j,Q3]
    · exfalso;unfold U8 at d;have w:=a.net.nlen;have u:=a.net.elen;rw [Q7 (show ¬ (n.Nodes.length : Int) > 400 by omega),Q1,Q7 (show ¬ (n.Edges.length : Int) > 800 by omega),qn,Q1,qcn n q7,qn,a.drawn] at d;simp only [Bool.not_true,Q1] at d;rcases qdf a.len400 a.val with ⟨m,g,f⟩ | ⟨g,f⟩
      · have:=f.uniq a.net;subst this;rw [g] at d;simp only [qn,Bool.not_true,Q1,qo3 m m q7 q7,decide_true] at d;have : c = 0:=(Zf (show some (0 : Int) = some c from d)).symm;rcases h with rfl | rfl <;> cases this
      · have:=f.not a.net.nodes;omega
theorem quh {l : List qt} (d : ∀ s∈l,SegV s) (c : Int) : q1r (l,c) = qdr (l,c):=by
  funext a;unfold q1r qdr;congr 1
  cases h : idx l a.2 with
  | none=>rfl
  | some v=>
    have b : v∈l:=by
      unfold idx at h;split at h
      · exact List.mem_of_getElem? h
      · cases h
    obtain ⟨⟨g,j,m,f⟩,⟨b1,b2,n,k⟩,_⟩:=d v b;simp only [qn,qne]
    have e : (w64 ((w64 ((w64 ((max v.A.X v.B.X) - (min v.A.X v.B.X))) + (max v.A.Y v.B.Y))) - (min v.A.Y v.B.Y))) = w64 ((max (w64 (v.A.X - v.B.X)) (w64 (v.B.X - v.A.X))) + (max (w64 (v.A.Y - v.B.Y)) (w64 (v.B.Y - v.A.Y)))):=by
      rw [Qa (x:=(max v.A.X v.B.X) - (min v.A.X v.B.X)) q7,Qa (x:=v.A.X - v.B.X) q7,Qa (x:=v.B.X - v.A.X) q7,Qa (x:=v.A.Y - v.B.Y) q7,Qa (x:=v.B.Y - v.A.Y) q7];rw [Qa (x:=(max v.A.X v.B.X) - (min v.A.X v.B.X) + max v.A.Y v.B.Y) q7,Qa q7,Qa q7];omega
    rw [e]
end Go.Sh
namespace Go.Sh
open Go Go.Am
open Classical
def q6c (s : qt) : Int:=(max s.A.X s.B.X - min s.A.X s.B.X) + (max s.A.Y s.B.Y - min s.A.Y s.B.Y)
def Yv : List qt→Int
  | []=>0
  | s::l=>q6c s + Yv l
theorem qud (a b : List qt) : Yv (a ++ b) = Yv a + Yv b:=by
  induction a with
  | nil=>simp [Yv]
  | cons s a ih=>simp only [List.cons_append,Yv,ih];omega
theorem qo7 {s : qt} (h : SegV s) : 0≤q6c s∧q6c s≤4000000:=by
  obtain ⟨⟨b,c,f,a⟩,⟨b1,b2,g,d⟩,_⟩:=h;unfold q6c;omega
theorem ql6 : ∀ {l : List qt},(∀ s∈l,SegV s)→0≤Yv l∧Yv l≤4000000 * (l.length : Int)
  | [],_=>by simp [Yv]
  | s::l,h=>by
    have:=qo7 (h s qd)
    have:=ql6 (l:=l) fun t a=>h t (by simp [a])
    simp only [Yv,List.length_cons];omega
theorem quf {l : List qt} (g : ∀ s∈l,SegV s) (o : l.length≤1000) (c : Int) : loop (q1r (l,c)) (0,0) = some (Yv l):=by
  have:=Ks (f:=q1r (l,c)) (σ:=Int) (fun k a=>(a,(k : Int))) l.length (fun k a=>a = Yv (l.take k)) (fun a=>a = Yv l) ?_ ?_ (k0:=0) (c0:=0) q7 (by simp [Yv])
  · obtain ⟨b,j,rfl⟩:=this;exact j
  · rintro k a hk rfl;refine .inl ⟨Yv (l.take (k + 1)),?_,rfl⟩;have hb:=ql6 (l:=l.take k) fun s hs=>g s (List.mem_of_mem_take hs);have h:=qo7 (g _ (Kk hk));obtain ⟨⟨r,t,u,n⟩,⟨b1,b2,q,p⟩,_⟩:=g _ (Kk hk);have d : (l.take k).length = k:=by simp;omega
    rw [d] at hb
    have e1 : Yv (l.take (k + 1)) = Yv (l.take k) + q6c l[k]:=by
      rw [List.take_succ_eq_append_getElem hk,qud];simp [Yv]
    have m : w64 ((max l[k].A.X l[k].B.X) - (min l[k].A.X l[k].B.X)) = (max l[k].A.X l[k].B.X) - (min l[k].A.X l[k].B.X):=Qa q7;simp only [q1r,dlt' hk,Q3,Qu hk,qn,m];rw [Qa (x:=(max l[k].A.X l[k].B.X) - (min l[k].A.X l[k].B.X) + max l[k].A.Y l[k].B.Y) q7,Qa (x:=(max l[k].A.X l[k].B.X) - (min l[k].A.X l[k].B.X) + max l[k].A.Y l[k].B.Y - min l[k].A.Y l[k].B.Y) q7];unfold q6c at h e1;rw [Qa (x:=Yv (l.take k) + _) q7,Qa q7,e1];congr 3;omega
  · rintro a rfl;exact ⟨_,by simp only [q1r,dnl',Q1];rfl,by rw [List.take_length]⟩
theorem qui {n : Qh} (m : Fit n) : ∃ a c,q77 n = some (a,c)∧qnd n = some (a,c)∧U8 n = some c∧(∀ l,Jf n l→a = Yv l):=by
  obtain ⟨l,c,e1,p,f,_,h⟩:=qhc m;unfold q77 qnd;rw [e1,p];rcases h with ⟨rfl,hs⟩ | ⟨h,rfl⟩
  · have s:=hs.len400;have j:=quf hs.val q7 0;have o:=j;rw [quh hs.val 0] at o;refine ⟨Yv l,0,?_,?_,f,fun l' d=>?_⟩
    · simp only [qn];show (loop (q1r (l,0)) (0,0)).bind _ = _;rw [j];rfl
    · simp only [qn];show (loop (qdr (l,0)) (0,0)).bind _ = _;rw [o];rfl
    · have:=hs.drawn;have:=d.drawn;simp_all
  · have g : (c != 0) = true:=by rcases h with rfl | rfl <;> rfl
    refine ⟨0,c,?_,?_,f,fun l' d=>?_⟩
    · simp only [qn,g,Q3]
    · simp only [qn,g,Q3]
    · obtain ⟨b,r,_,_,k,q⟩:=qkl m {X:=0,Y:=0};rw [f] at k;have:=(q l' d).2;cases k;subst this;exact absurd g qz
section
variable {F G : Int→Int→Prop} {N : List qa}
theorem qzo (k : Yf F G N) (hb : ∀ y x,F y x→x≤1000000) {i : Nat} (hi : i < N.length) (c : F N[i].Y N[i].X) : ∃ j,∃ h : j < N.length,i < j∧N[j].Y = N[i].Y:=by
  refine Classical.byContradiction fun a=>?_
  have step : ∀ x,N[i].X < x→(F N[i].Y x↔F N[i].Y (x - 1)):=by
    intro x l;refine q5q (G:=G) fun b=>a ?_;obtain ⟨m,d,g⟩:=List.mem_iff_getElem.1 ((k.mem {X:=x,Y:=N[i].Y}).2 b);have ex : N[m].X = x:=by rw [g]
    have o : N[m].Y = N[i].Y:=by rw [g]
    exact ⟨m,d,J1 k.srt hi d (by unfold ltP;omega),o⟩
  have l:=hb _ _ c;obtain ⟨n,b⟩ : ∃ n : Nat,N[i].X + (n : Int) = 1000001:=⟨(1000001 - N[i].X).toNat,q7⟩
  have:=Jo (f:=F N[i].Y) (lo:=N[i].X) n fun x p q=>step x p;rw [b] at this;have:=hb _ _ (this.1 c);omega
theorem qr4 (k : Yf F G N) (hb : ∀ x y,G x y→y≤1000000) {i : Nat} (hi : i < N.length) (c : G N[i].X N[i].Y) : ∃ j,∃ h : j < N.length,i < j∧N[j].X = N[i].X:=by
  refine Classical.byContradiction fun a=>?_
  have step : ∀ y,N[i].Y < y→(G N[i].X y↔G N[i].X (y - 1)):=by
    intro y p;refine q5p (F:=F) fun b=>a ?_;obtain ⟨m,d,g⟩:=List.mem_iff_getElem.1 ((k.mem {X:=N[i].X,Y:=y}).2 b);have ex : N[m].X = N[i].X:=by rw [g]
    have r : N[m].Y = y:=by rw [g]
    exact ⟨m,d,J1 k.srt hi d (by unfold ltP;omega),ex⟩
  have q:=hb _ _ c;obtain ⟨n,b⟩ : ∃ n : Nat,N[i].Y + (n : Int) = 1000001:=⟨(1000001 - N[i].Y).toNat,q7⟩
  have:=Jo (f:=G N[i].X) (lo:=N[i].Y) n fun y l o=>step y l;rw [b] at this;have:=hb _ _ (this.1 c);omega
theorem qfr {P : Nat→Prop} {a : Nat} : ∀ {n : Nat},(∃ j,a < j∧j < n∧P j)→∃ j,a < j∧j < n∧P j∧∀ m,a < m→m < j→¬ P m
  | 0,⟨j,_,h,_⟩=>by omega
  | n + 1,⟨j,h1,h,hp⟩=>by
    by_cases e : ∃ j,a < j∧j < n∧P j
    · obtain ⟨k,b,d,c⟩:=qfr e
      exact ⟨k,b,q7,c⟩
    · have : j = n:=by
        refine Classical.byContradiction fun f=>e ⟨j,h1,q7,hp⟩
      subst this
      exact ⟨j,h1,q7,hp,fun m b d c=>e ⟨m,b,d,c⟩⟩
theorem qm6 (l : Yf F G N) (hb : ∀ y x,F y x→x≤1000000) {i : Nat} (hi : i < N.length) (c : F N[i].Y N[i].X) : ∃ k,Z4 N i k:=by
  obtain ⟨j,h,b,r⟩:=qzo l hb hi c;obtain ⟨m,t,d,⟨o,f⟩,g⟩:=qfr (P:=fun j=>∃ h : j < N.length,N[j].Y = N[i].Y) (a:=i) (n:=N.length) ⟨j,b,h,h,r⟩;exact ⟨m,t,o,fun _ _=>f,fun q _ p s u e=>g q s u ⟨p,e⟩⟩
theorem qm5 (l : Yf F G N) (hb : ∀ x y,G x y→y≤1000000) {i : Nat} (hi : i < N.length) (c : G N[i].X N[i].Y) : ∃ k,Yz N i k:=by
  obtain ⟨j,h,b,r⟩:=qr4 l hb hi c;obtain ⟨m,t,d,⟨o,f⟩,g⟩:=qfr (P:=fun j=>∃ h : j < N.length,N[j].X = N[i].X) (a:=i) (n:=N.length) ⟨j,b,h,h,r⟩;exact ⟨m,t,o,fun _ _=>f,fun q _ p s u e=>g q s u ⟨p,e⟩⟩
theorem Z4.fun' {i j k : Nat} (a : Z4 N i j) (b : Z4 N i k) : j = k:=by
  have hi : i < N.length:=by have:=a.lt;have:=a.hk;omega
  rcases Nat.lt_trichotomy j k with h | h | h
  · exact absurd (a.eq hi a.hk) (b.no j hi a.hk a.lt h)
  · exact h
  · exact absurd (b.eq hi b.hk) (a.no k hi b.hk b.lt h)
theorem Yz.fun' {i j k : Nat} (a : Yz N i j) (b : Yz N i k) : j = k:=by
  have hi : i < N.length:=by have:=a.lt;have:=a.hk;omega
  rcases Nat.lt_trichotomy j k with h | h | h
  · exact absurd (a.eq hi a.hk) (b.no j hi a.hk a.lt h)
  · exact h
  · exact absurd (b.eq hi b.hk) (a.no k hi b.hk b.lt h)
def b2i (b : Bool) : Nat:=cond b 1 0
theorem qri (o : Yf F G N) {E : List qi} (w : q3q F G N E) (v : ∀ y x,F y x→-1000000≤x∧x≤1000000) (z : ∀ x y,G x y→-1000000≤y∧y≤1000000) {i : Nat} (hi : i < N.length) :
    (E.filter fun e=>decide (e.A = (i : Int)∨e.B = (i : Int))).length = b2i (decide (F N[i].Y N[i].X)) + b2i (decide (G N[i].X N[i].Y)) + b2i (decide (F N[i].Y (N[i].X - 1))) + b2i (decide (G N[i].X (N[i].Y - 1))):=by
  have l : ∀ y x,F y x→-1000000≤x:=fun y x h=>(v y x h).1;have m : ∀ x y,G x y→-1000000≤y:=fun x y h=>(z x y h).1;have t : E.Nodup:=w.srt.imp (by rintro a b h rfl;exact qle a a h h)
  obtain ⟨q1,n1,r,l1⟩ : ∃ q : List qi,q.Nodup∧(∀ e,e∈q↔∃ k : Nat,e = {A:=(i : Int),B:=(k : Int)}∧Z4 N i k∧F N[i].Y N[i].X)∧q.length = b2i (decide (F N[i].Y N[i].X)):=by
    by_cases h : F N[i].Y N[i].X
    · obtain ⟨k,hk⟩:=qm6 o (fun y x h=>(v y x h).2) hi h;refine ⟨[{A:=(i : Int),B:=(k : Int)}],qd,fun e=>?_,by rw [Q5 h];rfl⟩;rw [List.mem_singleton];constructor
      · rintro rfl;exact ⟨k,rfl,hk,h⟩
      · rintro ⟨n,rfl,g,_⟩;rw [g.fun' hk]
    · exact ⟨[],.nil,fun e=>⟨fun h=>(by cases h),fun ⟨_,_,_,h'⟩=>absurd h' h⟩,by rw [Q7 h];rfl⟩
  obtain ⟨q2,n2,p,l2⟩ : ∃ q : List qi,q.Nodup∧(∀ e,e∈q↔∃ k : Nat,e = {A:=(i : Int),B:=(k : Int)}∧Yz N i k∧G N[i].X N[i].Y)∧q.length = b2i (decide (G N[i].X N[i].Y)):=by
    by_cases h : G N[i].X N[i].Y
    · obtain ⟨k,hk⟩:=qm5 o (fun y x h=>(z y x h).2) hi h;refine ⟨[{A:=(i : Int),B:=(k : Int)}],qd,fun e=>?_,by rw [Q5 h];rfl⟩;rw [List.mem_singleton];constructor
      · rintro rfl;exact ⟨k,rfl,hk,h⟩
      · rintro ⟨n,rfl,g,_⟩;rw [g.fun' hk]
    · exact ⟨[],.nil,fun e=>⟨fun h=>(by cases h),fun ⟨_,_,_,h'⟩=>absurd h' h⟩,by rw [Q7 h];rfl⟩
  obtain ⟨q3,n3,s,l3⟩ : ∃ q : List qi,q.Nodup∧(∀ e,e∈q↔∃ k : Nat,e = {A:=(k : Int),B:=(i : Int)}∧Z4 N k i∧F N[i].Y (N[i].X - 1))∧q.length = b2i (decide (F N[i].Y (N[i].X - 1))):=by
    by_cases h : F N[i].Y (N[i].X - 1)
    · obtain ⟨k,hk⟩:=qn4 o l hi h;refine ⟨[{A:=(k : Int),B:=(i : Int)}],qd,fun e=>?_,by rw [Q5 h];rfl⟩;rw [List.mem_singleton];constructor
      · rintro rfl;exact ⟨k,rfl,hk,h⟩
      · rintro ⟨n,rfl,g,_⟩;rw [g.uniq hk]
    · exact ⟨[],.nil,fun e=>⟨fun h=>(by cases h),fun ⟨_,_,_,h'⟩=>absurd h' h⟩,by rw [Q7 h];rfl⟩
  obtain ⟨q4,n4,m4,l4⟩ : ∃ q : List qi,q.Nodup∧(∀ e,e∈q↔∃ k : Nat,e = {A:=(k : Int),B:=(i : Int)}∧Yz N k i∧G N[i].X (N[i].Y - 1))∧q.length = b2i (decide (G N[i].X (N[i].Y - 1))):=by
    by_cases h : G N[i].X (N[i].Y - 1)
    · obtain ⟨k,hk⟩:=qn3 o m hi h;refine ⟨[{A:=(k : Int),B:=(i : Int)}],qd,fun e=>?_,by rw [Q5 h];rfl⟩;rw [List.mem_singleton];constructor
      · rintro rfl;exact ⟨k,rfl,hk,h⟩
      · rintro ⟨n,rfl,g,_⟩;rw [g.uniq hk]
    · exact ⟨[],.nil,fun e=>⟨fun h=>(by cases h),fun ⟨_,_,_,h'⟩=>absurd h' h⟩,by rw [Q7 h];rfl⟩
  have hp : (E.filter fun e=>decide (e.A = (i : Int)∨e.B = (i : Int))).Perm (q1 ++ q2 ++ q3 ++ q4):=by
    rw [List.perm_ext_iff_of_nodup (t.sublist List.filter_sublist) ?_]
    · intro e;simp only [List.mem_filter,decide_eq_true_eq,List.mem_append,r,p,s,m4,w.mem];constructor
      · rintro ⟨⟨a,b,rfl,j⟩,h | h⟩
        · simp only at h;obtain rfl : a = i:=by omega
          obtain ⟨_,⟨c,d⟩ | ⟨c,d⟩⟩:=j
          · exact .inl (.inl (.inr ⟨b,rfl,c,d⟩))
          · exact .inl (.inl (.inl ⟨b,rfl,c,d⟩))
        · simp only at h;obtain rfl : b = i:=by omega
          rcases (qd1 o l m hi a).1 j with ⟨c,d⟩ | ⟨c,d⟩
          · exact .inl (.inr ⟨a,rfl,c,d⟩)
          · exact .inr ⟨a,rfl,c,d⟩
      · rintro (((⟨k,rfl,c,d⟩ | ⟨k,rfl,c,d⟩) | ⟨k,rfl,c,d⟩) | ⟨k,rfl,c,d⟩)
        · exact ⟨⟨i,k,rfl,hi,.inr ⟨c,d⟩⟩,.inl rfl⟩
        · exact ⟨⟨i,k,rfl,hi,.inl ⟨c,d⟩⟩,.inl rfl⟩
        · exact ⟨⟨k,i,rfl,(qd1 o l m hi k).2 (.inl ⟨c,d⟩)⟩,.inr rfl⟩
        · exact ⟨⟨k,i,rfl,(qd1 o l m hi k).2 (.inr ⟨c,d⟩)⟩,.inr rfl⟩
    · have u : ∀ {a b : Nat},Yz N a b→Z4 N a b→False:=fun {a b} c d=>by
        have:=qm7 o.srt c d;omega
      rw [List.nodup_append,List.nodup_append,List.nodup_append];refine ⟨⟨⟨n1,n2,fun a f b hb e=>?_⟩,n3,fun a f b hb e=>?_⟩,n4,fun a f b hb e=>?_⟩
      · subst e;obtain ⟨k,rfl,c,_⟩:=(r _).1 f;obtain ⟨n,j,d,_⟩:=(p _).1 hb;simp only [qi.mk.injEq,true_and] at j;obtain rfl : k = n:=by omega
        exact u d c
      · subst e;obtain ⟨n,rfl,d,_⟩:=(s _).1 hb;have:=d.lt;rcases List.mem_append.1 f with f | f
        · obtain ⟨k,j,c,_⟩:=(r _).1 f;simp only [qi.mk.injEq] at j;omega
        · obtain ⟨k,j,c,_⟩:=(p _).1 f;simp only [qi.mk.injEq] at j;omega
      · subst e;obtain ⟨n,rfl,d,_⟩:=(m4 _).1 hb;have:=d.lt;rcases List.mem_append.1 f with f | f
        · rcases List.mem_append.1 f with f | f
          · obtain ⟨k,j,c,_⟩:=(r _).1 f;simp only [qi.mk.injEq] at j;omega
          · obtain ⟨k,j,c,_⟩:=(p _).1 f;simp only [qi.mk.injEq] at j;omega
        · obtain ⟨k,j,c,_⟩:=(s _).1 f;simp only [qi.mk.injEq,and_true] at j;obtain rfl : n = k:=by omega
          exact u d c
  rw [hp.length_eq];simp only [List.length_append,l1,l2,l3,l4]
end
end Go.Sh
namespace Go.Sh
open Go Go.Am
open Classical
def b2z (b : Bool) : Int:=cond b 1 0
theorem qcl (q : Bool × Bool × Bool × Bool) (acc : Int) (i : Nat) (hi : i < 4) (a : 0≤acc∧acc≤10) (b : Bool) (hb : idxA 4 [q.1,q.2.1,q.2.2.1,q.2.2.2] (i : Int) = some b) : q3g q (acc,(i : Int)) = some (.inl (acc + b2z b,((i + 1 : Nat) : Int))):=by
  unfold q3g;simp only;rw [Q5 (show (i : Int) < 4 by omega),Q3,hb,qn,Qa (x:=(i : Int) + 1) q7];cases b
  · simp [b2z]
  · simp only [Q3,b2z];rw [Qa q7];rfl
theorem qrh (a b c d : Bool) : loop (q3g (a,b,c,d)) (0,0) = some (b2z a + b2z b + b2z c + b2z d):=by
  have h : ∀ x : Bool,0≤b2z x∧b2z x≤1:=by intro x;cases x <;> simp [b2z]
  have f:=h a;have hb:=h b;have g:=h c;have hd:=h d;show loop (q3g (a,b,c,d)) (0,((0 : Nat) : Int)) = _;rw [Kg (qcl (a,b,c,d) 0 0 q7 q7 a rfl)];rw [Kg (qcl (a,b,c,d) _ 1 q7 q7 b rfl)];rw [Kg (qcl (a,b,c,d) _ 2 q7 q7 c rfl)];rw [Kg (qcl (a,b,c,d) _ 3 q7 q7 d rfl)];have : q3g (a,b,c,d) (0 + b2z a + b2z b + b2z c + b2z d,((3 + 1 : Nat) : Int)) = some (.inr (0 + b2z a + b2z b + b2z c + b2z d)):=rfl;rw [Kf this];congr 1;omega
theorem qyy (n : Qh) (p : Int) (l : n.Edges.length≤1000000) : loop (q8v n p) (0,0) = some ((n.Edges.filter fun e=>decide (e.A = p∨e.B = p)).length : Int):=by
  have:=Ks (f:=q8v n p) (σ:=Int) (fun k a=>(a,(k : Int))) n.Edges.length (fun k a=>a = (((n.Edges.take k).filter fun e=>decide (e.A = p∨e.B = p)).length : Int)) (fun a=>a = ((n.Edges.filter fun e=>decide (e.A = p∨e.B = p)).length : Int)) ?_ ?_ (k0:=0) (c0:=0) q7 qd
  · obtain ⟨b,j,rfl⟩:=this;exact j
  · rintro k a hk rfl;have h:=List.length_filter_le (fun e : qi=>decide (e.A = p∨e.B = p)) (n.Edges.take k);have g : (n.Edges.take k).length = k:=by simp;omega
    refine .inl ⟨_,?_,rfl⟩
    have d : (cond (n.Edges[k].A == p) (some true) ((idx n.Edges (k : Int)).bind fun c=>some (c.B == p))) = some (decide (n.Edges[k].A = p∨n.Edges[k].B = p)):=by
      rw [Qu hk,beqI];by_cases e1 : n.Edges[k].A = p
      · simp [e1]
      · rw [Q7 e1,Q1,qn,beqI];simp [e1]
    simp only [Qu hk,qn] at d;simp only [q8v,dlt' hk,Q3,Qu hk,qn,d];rw [Qa (x:=(k : Int) + 1) q7,List.take_succ_eq_append_getElem hk,List.filter_append];by_cases e : n.Edges[k].A = p∨n.Edges[k].B = p
    · rw [Q5 e,Q3,Qa q7];simp [e]
    · rw [Q7 e,Q1];simp [e]
  · rintro a rfl;exact ⟨_,by simp only [q8v,dnl',Q1];rfl,by rw [List.take_length]⟩
noncomputable def degN (l : List qt) (p : qa) : Int:=b2z (decide (rowP l p.Y p.X)) + b2z (decide (colP l p.X p.Y)) + b2z (decide (rowP l p.Y (p.X - 1))) + b2z (decide (colP l p.X (p.Y - 1)))
theorem b2 (b : Bool) : ((b2i b : Nat) : Int) = b2z b:=by cases b <;> rfl
theorem qo0 {l : List qt} (a : ∀ s∈l,SegV s) (c : l.length≤400) : (∀ y x,rowP l y x→-1000000≤x∧x≤1000000)∧∀ x y,colP l x y→-1000000≤y∧y≤1000000:=by
  obtain ⟨r,_,d,b⟩:=qch c a;exact ⟨fun y x h=>by have:=d.bnd h;omega,fun x y h=>by have:=b.bnd h;omega⟩
theorem qe6 {n : Qh} {l : List qt} (d : Fit n) (hs : Jf n l) : U8 n = some 0∧q2m n = some (l,0)∧q90 n = some (l,0)∧q3b n = some 0:=by
  obtain ⟨b,c,_,_,f,h⟩:=qkl d {X:=0,Y:=0};obtain ⟨l',q,k,m,g,j,o⟩:=qhc d;have p:=(h l hs).2;subst p;rw [f] at g;cases g;rcases o with ⟨_,a⟩ | ⟨a,_⟩
  · have e:=a.drawn;rw [hs.drawn] at e;cases e;exact ⟨f,k,m,j⟩
  · rcases a with a | a <;> cases a
theorem qrj {n : Qh} {l : List qt} (d : Fit n) (hs : Jf n l) {i : Nat} (hi : i < n.Nodes.length) : q2l n (i : Int) = some (degN l n.Nodes[i],0)∧qnb n (i : Int) = some (degN l n.Nodes[i],0):=by
  obtain ⟨c1,c2,c3,c4⟩:=qe6 d hs;obtain ⟨r,e1,g,f⟩:=qch hs.len400 hs.val;have b : PtB n.Nodes[i]:=q8h g f ((hs.net.nodes.mem _).1 (Kk hi))
  have h : (cond (decide ((i : Int) < 0)) (some true) (some (decide ((i : Int) ≥ (n.Nodes.length : Int))))) = some false:=by
    rw [Q7 q7,Q1,Q7 q7]
  obtain ⟨b1,a⟩:=qo0 hs.val hs.len400;have c:=qri hs.net.nodes hs.net.edges b1 a hi;constructor
  · unfold q2l;rw [c2,qn];have e0 : ((0 : Int) != 0) = false:=rfl;rw [e0,Q1,h,qn,Q1,e1,qn,Qu hi,qn,qer g f b,qn];unfold arB;rw [qrh];rfl
  · unfold qnb;rw [c4,qn];have e0 : ((0 : Int) != 0) = false:=rfl;rw [e0,Q1,h,qn,Q1,qyy n _ (by have:=d.1.2;omega),qn,c];congr 2;unfold degN;rw [← b2,← b2,← b2,← b2];omega
end Go.Sh
namespace Go.Sh
open Go Go.Am
open Classical
section
variable {F G : Int→Int→Prop} {n : Qh}
structure Bnd (F G : Int→Int→Prop) : Prop where
  row : ∀ y x,F y x→-1000000≤x∧x≤1000000
  col : ∀ x y,G x y→-1000000≤y∧y≤1000000
  pt : ∀ x y,Kv F G x y→PtB {X:=x,Y:=y}
theorem qev {l : List qt} (a : l.length≤400) (b : ∀ s∈l,SegV s) : Bnd (rowP l) (colP l):=by
  obtain ⟨r,_,d,c⟩:=qch a b;obtain ⟨b1,b2⟩:=qo0 b a;exact ⟨b1,b2,fun x y h=>q8h d c h⟩
theorem q1y {i k : Nat} (hi : i < n.Nodes.length) (hk : k < n.Nodes.length) : Ja n {A:=(i : Int),B:=(k : Int)} = {A:=n.Nodes[i],B:=n.Nodes[k]}:=by
  unfold Ja;simp only [Int.toNat_natCast,List.getElem?_eq_getElem hi,List.getElem?_eq_getElem hk,Option.getD_some]
theorem qsp (hb : Bnd F G) (h : Zw F G n) : ∀ e∈n.Edges,eOk n e:=by
  intro e g;obtain ⟨i,k,rfl,hi,c⟩:=(h.edges.mem e).1 g;have hk : k < n.Nodes.length:=by rcases c with ⟨h,_⟩ | ⟨h,_⟩ <;> exact h.hk
  have f : PtB n.Nodes[i]:=hb.pt _ _ ((h.nodes.mem _).1 (Kk hi));have p2 : PtB n.Nodes[k]:=hb.pt _ _ ((h.nodes.mem _).1 (Kk hk));refine ⟨⟨by simp only;omega,by simp only;omega⟩,⟨by simp only;omega,by simp only;omega⟩,?_⟩;rw [q1y hi hk,q9b];refine ⟨f,p2,?_⟩;simp only;rcases c with ⟨d,_⟩ | ⟨b,_⟩
  · have a:=Ut h.nodes.srt hi hk d.lt;have e:=d.eq hi hk;unfold ltP at a;omega
  · have a:=Ut h.nodes.srt hi hk b.lt;have e:=b.eq hi hk;unfold ltP at a;omega
noncomputable def Zz (n : Qh) : List qt:=n.Edges.map (Ja n)
theorem qzr (b : Yf F G n.Nodes) {i k : Nat} (h : Z4 n.Nodes i k) (hi : i < n.Nodes.length) (g : F n.Nodes[i].Y n.Nodes[i].X) {x : Int} (s : n.Nodes[i].X≤x) (o : x < (n.Nodes[k]'h.hk).X) : F n.Nodes[i].Y x:=by
  have e:=h.eq hi h.hk;obtain ⟨m,j⟩ : ∃ m : Nat,x = n.Nodes[i].X + m:=⟨(x - n.Nodes[i].X).toNat,q7⟩
  rw [j];refine (Jo (f:=F n.Nodes[i].Y) m fun z p r=>?_).1 g;refine q5q (G:=G) fun a=>?_;obtain ⟨q,c,d⟩:=List.mem_iff_getElem.1 ((b.mem {X:=z,Y:=n.Nodes[i].Y}).2 a);have ex : n.Nodes[q].X = z:=by rw [d]
  have l : n.Nodes[q].Y = n.Nodes[i].Y:=by rw [d]
  exact h.no q hi c (J1 b.srt hi c (by unfold ltP;omega)) (J1 b.srt c h.hk (by unfold ltP;omega)) l
theorem qr5 (b : Yf F G n.Nodes) {i k : Nat} (h : Yz n.Nodes i k) (hi : i < n.Nodes.length) (g : G n.Nodes[i].X n.Nodes[i].Y) {y : Int} (s : n.Nodes[i].Y≤y) (l : y < (n.Nodes[k]'h.hk).Y) : G n.Nodes[i].X y:=by
  have e:=h.eq hi h.hk;obtain ⟨m,j⟩ : ∃ m : Nat,y = n.Nodes[i].Y + m:=⟨(y - n.Nodes[i].Y).toNat,q7⟩
  rw [j];refine (Jo (f:=G n.Nodes[i].X) m fun z o p=>?_).1 g;refine q5p (F:=F) fun a=>?_;obtain ⟨q,c,d⟩:=List.mem_iff_getElem.1 ((b.mem {X:=n.Nodes[i].X,Y:=z}).2 a);have ex : n.Nodes[q].X = n.Nodes[i].X:=by rw [d]
  have r : n.Nodes[q].Y = z:=by rw [d]
  exact h.no q hi c (J1 b.srt hi c (by unfold ltP;omega)) (J1 b.srt c h.hk (by unfold ltP;omega)) ex
theorem qzn (hb : Bnd F G) (d : Yf F G n.Nodes) {y x : Int} (o : F y x) : ∃ i k,∃ hi : i < n.Nodes.length,∃ h : Z4 n.Nodes i k,n.Nodes[i].Y = y∧n.Nodes[i].X≤x∧x < (n.Nodes[k]'h.hk).X∧F y n.Nodes[i].X:=by
  have hex : ∃ j,j < n.Nodes.length∧∃ h : j < n.Nodes.length,n.Nodes[j].Y = y∧n.Nodes[j].X≤x:=by
    refine Classical.byContradiction fun l=>?_
    have step : ∀ z,z≤x→(F y z↔F y (z - 1)):=by
      intro z hz;refine q5q (G:=G) fun q=>l ?_;obtain ⟨m,b,c⟩:=List.mem_iff_getElem.1 ((d.mem {X:=z,Y:=y}).2 q);exact ⟨m,b,b,by rw [c],by rw [c];exact hz⟩
    have t:=hb.row _ _ o;obtain ⟨m,b⟩ : ∃ m : Nat,x = -1000001 + (m : Int):=⟨(x + 1000001).toNat,q7⟩
    have:=Jo (f:=F y) (lo:=-1000001) m fun z r s=>step z q7;rw [← b] at this;have:=hb.row _ _ (this.2 o);omega
  obtain ⟨i,v,⟨hi,p,t⟩,a⟩:=q87 hex
  have none : ∀ z,n.Nodes[i].X < z→z≤x→¬ Kv F G z y:=by
    intro z r s q;obtain ⟨m,b,c⟩:=List.mem_iff_getElem.1 ((d.mem {X:=z,Y:=y}).2 q);have ex : n.Nodes[m].X = z:=by rw [c]
    have w : n.Nodes[m].Y = y:=by rw [c]
    exact a m (J1 d.srt hi b (by unfold ltP;omega)) b ⟨b,w,q7⟩
  have u : F y n.Nodes[i].X:=by
    obtain ⟨m,b⟩ : ∃ m : Nat,x = n.Nodes[i].X + (m : Int):=⟨(x - n.Nodes[i].X).toNat,q7⟩
    have:=Jo (f:=F y) (lo:=n.Nodes[i].X) m fun z r s=>q5q (G:=G) (none z r q7);rw [← b] at this;exact this.2 o
  obtain ⟨k,hk⟩:=qm6 d (fun y x h=>(hb.row y x h).2) hi (by rw [p];exact u);refine ⟨i,k,hi,hk,p,t,?_,u⟩;refine Int.lt_of_not_ge fun g=>?_;exact a k hk.lt hk.hk ⟨hk.hk,by rw [hk.eq hi hk.hk,p],g⟩
theorem qr3 (hb : Bnd F G) (d : Yf F G n.Nodes) {x y : Int} (o : G x y) : ∃ i k,∃ hi : i < n.Nodes.length,∃ h : Yz n.Nodes i k,n.Nodes[i].X = x∧n.Nodes[i].Y≤y∧y < (n.Nodes[k]'h.hk).Y∧G x n.Nodes[i].Y:=by
  have hex : ∃ j,j < n.Nodes.length∧∃ h : j < n.Nodes.length,n.Nodes[j].X = x∧n.Nodes[j].Y≤y:=by
    refine Classical.byContradiction fun l=>?_
    have step : ∀ z,z≤y→(G x z↔G x (z - 1)):=by
      intro z w;refine q5p (F:=F) fun q=>l ?_;obtain ⟨m,b,c⟩:=List.mem_iff_getElem.1 ((d.mem {X:=x,Y:=z}).2 q);exact ⟨m,b,b,by rw [c],by rw [c];exact w⟩
    have t:=hb.col _ _ o;obtain ⟨m,b⟩ : ∃ m : Nat,y = -1000001 + (m : Int):=⟨(y + 1000001).toNat,q7⟩
    have:=Jo (f:=G x) (lo:=-1000001) m fun z r s=>step z q7;rw [← b] at this;have:=hb.col _ _ (this.2 o);omega
  obtain ⟨i,v,⟨hi,p,t⟩,a⟩:=q87 hex
  have none : ∀ z,n.Nodes[i].Y < z→z≤y→¬ Kv F G x z:=by
    intro z r s q;obtain ⟨m,b,c⟩:=List.mem_iff_getElem.1 ((d.mem {X:=x,Y:=z}).2 q);have ex : n.Nodes[m].X = x:=by rw [c]
    have ey : n.Nodes[m].Y = z:=by rw [c]
    exact a m (J1 d.srt hi b (by unfold ltP;omega)) b ⟨b,ex,q7⟩
  have u : G x n.Nodes[i].Y:=by
    obtain ⟨m,b⟩ : ∃ m : Nat,y = n.Nodes[i].Y + (m : Int):=⟨(y - n.Nodes[i].Y).toNat,q7⟩
    have:=Jo (f:=G x) (lo:=n.Nodes[i].Y) m fun z r s=>q5p (F:=F) (none z r q7);rw [← b] at this;exact this.2 o
  obtain ⟨k,hk⟩:=qm5 d (fun y x h=>(hb.col y x h).2) hi (by rw [p];exact u);refine ⟨i,k,hi,hk,p,t,?_,u⟩;refine Int.lt_of_not_ge fun g=>?_;exact a k hk.lt hk.hk ⟨hk.hk,by rw [hk.eq hi hk.hk,p],g⟩
theorem qfg (hb : Bnd F G) (h : Zw F G n) (y x : Int) : rowP (Zz n) y x↔F y x:=by
  constructor
  · rintro ⟨⟨k0,t⟩,hp,rfl,j,f⟩;obtain ⟨s,hs,b,rfl,rfl⟩:=q5j.1 hp;obtain ⟨e,g,rfl⟩:=List.mem_map.1 hs;obtain ⟨i,k,rfl,hi,l⟩:=(h.edges.mem e).1 g;have hk : k < n.Nodes.length:=by rcases l with ⟨h,_⟩ | ⟨h,_⟩ <;> exact h.hk
    rw [q1y hi hk] at b j f ⊢;simp only at b j f ⊢;rcases l with ⟨m,_⟩ | ⟨c,d⟩
    · have a:=Ut h.nodes.srt hi hk m.lt;have e:=m.eq hi hk;unfold ltP at a;omega
    · have a:=Ut h.nodes.srt hi hk c.lt;unfold ltP at a;exact qzr h.nodes c hi d q7 q7
  · intro o;obtain ⟨i,k,hi,hk,b,j,f,d⟩:=qzn hb h.nodes o;have g : ({A:=(i : Int),B:=(k : Int)} : qi)∈n.Edges:=(h.edges.mem _).2 ⟨i,k,rfl,hi,.inr ⟨hk,by rw [b];exact d⟩⟩;have p:=hk.eq hi hk.hk;refine ⟨(y,{Lo:=min n.Nodes[i].X (n.Nodes[k]'hk.hk).X,Hi:=max n.Nodes[i].X (n.Nodes[k]'hk.hk).X}),q5j.2 ⟨Ja n {A:=(i : Int),B:=(k : Int)},List.mem_map.2 ⟨_,g,rfl⟩,?_,?_,?_⟩,rfl,by simp only;omega,by simp only;omega⟩
    · rw [q1y hi hk.hk];exact p.symm
    · rw [q1y hi hk.hk];exact b.symm
    · rw [q1y hi hk.hk]
theorem qff (hb : Bnd F G) (h : Zw F G n) (x y : Int) : colP (Zz n) x y↔G x y:=by
  constructor
  · rintro ⟨⟨k0,t⟩,hp,rfl,j,d⟩;obtain ⟨s,hs,b,rfl,rfl⟩:=q5i.1 hp;obtain ⟨e,g,rfl⟩:=List.mem_map.1 hs;obtain ⟨i,k,rfl,hi,m⟩:=(h.edges.mem e).1 g;have hk : k < n.Nodes.length:=by rcases m with ⟨h,_⟩ | ⟨h,_⟩ <;> exact h.hk
    rw [q1y hi hk] at b j d ⊢;simp only at b j d ⊢;rcases m with ⟨f,c⟩ | ⟨l,_⟩
    · have a:=Ut h.nodes.srt hi hk f.lt;have e:=f.eq hi hk;unfold ltP at a;exact qr5 h.nodes f hi c q7 q7
    · have e:=l.eq hi hk;omega
  · intro o;obtain ⟨i,k,hi,hk,b,j,d,c⟩:=qr3 hb h.nodes o;have g : ({A:=(i : Int),B:=(k : Int)} : qi)∈n.Edges:=(h.edges.mem _).2 ⟨i,k,rfl,hi,.inl ⟨hk,by rw [b];exact c⟩⟩;have p:=hk.eq hi hk.hk;have a:=Ut h.nodes.srt hi hk.hk hk.lt;refine ⟨(x,{Lo:=min n.Nodes[i].Y (n.Nodes[k]'hk.hk).Y,Hi:=max n.Nodes[i].Y (n.Nodes[k]'hk.hk).Y}),q5i.2 ⟨Ja n {A:=(i : Int),B:=(k : Int)},List.mem_map.2 ⟨_,g,rfl⟩,?_,?_,?_⟩,rfl,by simp only;omega,by simp only;omega⟩
    · rw [q1y hi hk.hk];show n.Nodes[i].Y≠(n.Nodes[k]'hk.hk).Y;unfold ltP at a;omega
    · rw [q1y hi hk.hk];exact b.symm
    · rw [q1y hi hk.hk]
theorem q12b (hb : Bnd F G) (h : Zw F G n) (b : n.Edges.length≤400) : Jf n (Zz n):=by
  have a:=qsp hb h;have e1 : rowP (Zz n) = F:=by funext y x;exact propext (qfg hb h y x)
  have d : colP (Zz n) = G:=by funext y x;exact propext (qff hb h y x)
  refine ⟨?_,by simp [Zz],b,fun s hs=>?_,?_⟩
  · unfold q2v;rw [Q2 a];rfl
  · obtain ⟨e,c,rfl⟩:=List.mem_map.1 hs;exact (a e c).2.2
  · rw [e1,d];exact h
end
end Go.Sh
