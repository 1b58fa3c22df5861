/- St9 St10 St11 St12 St13 St14 St13b St14b St15 St16 St17 -/
import Derived.Test.YtgkialgkmjnfbaaGreatK13
namespace Go.Sh
open Go Go.Am
open Classical
section
variable {F G : Int→Int→Prop} {L M : List Ka}
def Yl (M : List Ka) (t : qi) : List Int:=[t.Lo,t.Hi] ++ (M.filter fun m=>decide (t.Lo < m.At∧m.At < t.Hi)).map (·.At)
theorem qju {t : qi} {x : Int} : x∈Yl M t↔x = t.Lo∨x = t.Hi∨(t.Lo < x∧x < t.Hi∧∃ m∈M,m.At = x):=by
  simp only [Yl,List.mem_append,List.mem_cons,List.not_mem_nil,or_false,List.mem_map,List.mem_filter,decide_eq_true_eq];constructor
  · rintro ((h | h) | ⟨m,⟨b,a⟩,rfl⟩)
    · exact .inl h
    · exact .inr (.inl h)
    · exact .inr (.inr ⟨a.1,a.2,m,b,rfl⟩)
  · rintro (h | h | ⟨b,a,m,c,rfl⟩)
    · exact .inl (.inl h)
    · exact .inl (.inr h)
    · exact .inr ⟨m,⟨c,b,a⟩,rfl⟩
theorem qx6 (l : M.length≤400) (t : qi) : loop (q49 M t) (0,[t.Lo,t.Hi]) = some (Yl M t):=by
  have:=Ku (f:=q49 M t) (σ:=List Int) (fun k c=>((k : Int),c)) M.length (fun k c=>c = Yl (M.take k) t∧c.length≤k + 2) (fun c=>c = Yl M t) ?_ ?_ (k0:=0) (c0:=[t.Lo,t.Hi]) q8 ⟨by simp [Yl],qe⟩
  · obtain ⟨b,j,rfl⟩:=this;exact j
  · rintro k c hk ⟨rfl,g⟩;have hb : decide ((k : Int) < (M.length : Int)) = true:=Q6 q8
    have a : Yl (M.take (k + 1)) t = Yl (M.take k) t ++ (if t.Lo < M[k].At∧M[k].At < t.Hi then [M[k].At] else []):=by
      unfold Yl;rw [List.take_succ_eq_append_getElem hk,List.filter_append,List.map_append,List.append_assoc];by_cases e : t.Lo < M[k].At∧M[k].At < t.Hi
      · simp [e]
      · simp [e]
    refine .inl ⟨Yl (M.take (k + 1)) t,?_,rfl,?_⟩
    · rw [a];simp only [q49,hb,Q4,Qw hk,qo];by_cases e1 : t.Lo < M[k].At
      · by_cases d : M[k].At < t.Hi
        · rw [Q0 ⟨e1,d⟩,Q6 (show M[k].At > t.Lo from e1),Q4,Q6 d,qo,Q4,Ye (by simp;omega),Qd q8];rfl
        · rw [Q1 (fun h=>d h.2),Q6 (show M[k].At > t.Lo from e1),Q4,Q9 d,Qd q8,List.append_nil];rfl
      · rw [Q1 (fun h=>e1 h.1),Q9 (show ¬ M[k].At > t.Lo from e1),Qd q8,List.append_nil];rfl
    · rw [a];split <;> simp <;> omega
  · rintro c ⟨rfl,g⟩;have hb : decide ((M.length : Int) < (M.length : Int)) = false:=Q9 q8;exact ⟨_,by simp only [q49,hb,qz];rfl,by rw [List.take_length]⟩
theorem qp4 (t : qi) : (Yl M t).length≤M.length + 2:=by
  have:=List.length_filter_le (fun m : Ka=>decide (t.Lo < m.At∧m.At < t.Hi)) M;simp only [Yl,List.length_append,List.length_map,List.length_cons,List.length_nil];omega
theorem qbi (h : Rep (asc M) G) : M.length≤400:=by have:=h.cnt;simpa [asc] using this
theorem qdp (h : Rep (asc M) G) {m : Ka} (a : m∈M) : -1000000≤m.At∧m.At≤1000000:=h.key _ (List.mem_map.2 ⟨(m.At,m.Spans),List.mem_map.2 ⟨m,a,rfl⟩,rfl⟩)
theorem qh8 (h : Rep (asc M) G) {m : Ka} (a : m∈M) {t : qi} (b : t∈m.Spans) : vld t:=(h.good m.At m.Spans (List.mem_map.2 ⟨m,a,rfl⟩)).1 t b
theorem JN.big {N : List qf} {S T : qf→Prop} (h : JN F G N S) (b : ¬ N.length≤400) : JN F G N T:=⟨h.srt,h.sub,fun a=>absurd a b,h.len⟩
def q30 (M : List Ka) (y : Int) (t : qi) (q : qf) : Prop:=q.Y = y∧q.X∈Yl M t
theorem qx7 (n : Rep (asc L) F) (l : Rep (asc M) G) {i : Nat} (hi : i < L.length) {t : qi} (u : t∈L[i].Spans) (z : List qf) {N : List qf} {S : qf→Prop} (h : JN F G N S) :
    ∃ j,loop (q2u (Yl M t) L ((i : Int),z) M) (0,N) = some j∧JN F G j (fun q=>S q∨q30 M L[i].At t q):=by
  have hM:=qbi l;have hc:=qp4 (M:=M) t;have y:=qh8 n (Kr hi) u;have o:=qdp n (Kr hi);obtain ⟨v1,v2,v3⟩:=y;have:=Ku (f:=q2u (Yl M t) L ((i : Int),z) M) (σ:=List qf) (fun k c=>((k : Int),c)) (Yl M t).length (fun k c=>JN F G c (fun q=>S q∨(q.Y = L[i].At∧q.X∈(Yl M t).take k))) (fun c=>JN F G c (fun q=>S q∨q30 M L[i].At t q)) ?_ ?_ (k0:=0) (c0:=N) q8 (h.congr fun p=>qe)
  · exact this
  · intro k c hk d;have hb : decide ((k : Int) < ((Yl M t).length : Int)) = true:=Q6 q8;by_cases w : c.length≤400
    · have r : -1000000≤(Yl M t)[k]∧(Yl M t)[k]≤1000000:=by
        rcases qju.1 (Kr hk) with a | a | ⟨_,_,m,x,a⟩
        · omega
        · omega
        · rw [← a];exact qdp l x
      obtain ⟨j,e,s,_,j2⟩:=qg2 n l (p:={X:=(Yl M t)[k],Y:=L[i].At}) ⟨r.1,r.2,o.1,o.2⟩ d q8;refine .inl ⟨j,?_,s.congr ?_⟩
      · simp only [q2u,hb,Q4,Q6 (show (c.length : Int)≤400 by omega),Qw hk,Qw hi,qo];rw [e,qo,Qd q8];rfl
      · rintro q (v | ⟨b,g⟩)
        · exact .inl (.inl v)
        · rw [List.take_succ_eq_append_getElem hk] at g;rcases List.mem_append.1 g with a | a
          · exact .inl (.inr ⟨b,a⟩)
          · rw [List.mem_singleton] at a;exact .inr (by rw [← a,← b])
    · refine .inr ⟨c,?_,d.big w⟩;simp only [q2u,hb,Q4,Q9 (show ¬ (c.length : Int)≤400 by omega),qo,qz]
  · intro c d;have hb : decide (((Yl M t).length : Int) < ((Yl M t).length : Int)) = false:=Q9 q8;refine ⟨c,by simp only [q2u,hb,qz,qo],?_⟩;rw [List.take_length] at d;exact d
theorem qx5 (j : Rep (asc L) F) (d : Rep (asc M) G) {i : Nat} (hi : i < L.length) (z : List qf) {N : List qf} {S : qf→Prop} (h : JN F G N S) :
    ∃ a,loop (q48 L ((i : Int),z) M) (0,N) = some a∧JN F G a (fun q=>S q∨∃ t∈L[i].Spans,q30 M L[i].At t q):=by
  have m:=j.len _ _ (qbh hi);have:=Ku (f:=q48 L ((i : Int),z) M) (σ:=List qf) (fun k c=>((k : Int),c)) L[i].Spans.length (fun k c=>JN F G c (fun q=>S q∨∃ t∈L[i].Spans.take k,q30 M L[i].At t q)) (fun c=>JN F G c (fun q=>S q∨∃ t∈L[i].Spans,q30 M L[i].At t q)) ?_ ?_ (k0:=0) (c0:=N) q8 (h.congr fun p=>qe)
  · exact this
  · intro k c hk b;have hb : decide ((k : Int) < (L[i].Spans.length : Int)) = true:=Q6 q8;obtain ⟨a,e,l⟩:=qx7 j d hi (Kr hk) z b;refine .inl ⟨a,?_,l.congr ?_⟩
    · simp only [q48,Qw hi,qo,hb,Q4,Qw hk,qx6 (qbi d),e];rw [Qd q8];rfl
    · intro q g;rw [takeN hk,← or_assoc] at g;exact g
  · intro c b;have hb : decide ((L[i].Spans.length : Int) < (L[i].Spans.length : Int)) = false:=Q9 q8;refine ⟨c,by simp only [q48,Qw hi,qo,hb,qz],?_⟩;rw [List.take_length] at b;exact b
theorem qx4 (d : Rep (asc L) F) (j : Rep (asc M) G) : ∃ N,loop (q47 L M) (0,[]) = some N∧JN F G N (fun q=>∃ l∈L,∃ t∈l.Spans,q30 M l.At t q):=by
  have m:=qbi d;have:=Ku (f:=q47 L M) (σ:=List qf) (fun k c=>((k : Int),c)) L.length (fun k c=>JN F G c (fun q=>∃ l∈L.take k,∃ t∈l.Spans,q30 M l.At t q)) (fun c=>JN F G c (fun q=>∃ l∈L,∃ t∈l.Spans,q30 M l.At t q)) ?_ ?_ (k0:=0) (c0:=[]) q8 ⟨.nil,fun p hp=>(by cases hp),fun _ q b=>by simp at b,qe⟩
  · exact this
  · intro k c hk a;have hb : decide ((k : Int) < (L.length : Int)) = true:=Q6 q8;obtain ⟨h,e,g⟩:=qx5 d j hk c a;refine .inl ⟨h,?_,g.congr fun q b=>(takeN hk).1 b⟩;simp only [q47,hb,Q4,e,qo];rw [Qd q8];rfl
  · intro c a;have hb : decide ((L.length : Int) < (L.length : Int)) = false:=Q9 q8;refine ⟨c,by simp only [q47,hb,qz],?_⟩;rw [List.take_length] at a;exact a
def q54 (x : Int) (t : qi) (q : qf) : Prop:=q.X = x∧(q.Y = t.Lo∨q.Y = t.Hi)
theorem qx9 (n : Rep (asc L) F) (d : Rep (asc M) G) {i : Nat} (hi : i < M.length) (z : List qf) {N : List qf} {S : qf→Prop} (h : JN F G N S) :
    ∃ m,loop (q2v M ((i : Int),z) L) (0,N) = some m∧JN F G m (fun q=>S q∨∃ t∈M[i].Spans,q54 M[i].At t q):=by
  have v:=d.len _ _ (qbh hi);have j:=qdp d (Kr hi);have:=Ku (f:=q2v M ((i : Int),z) L) (σ:=List qf) (fun k c=>((k : Int),c)) M[i].Spans.length (fun k c=>JN F G c (fun q=>S q∨∃ t∈M[i].Spans.take k,q54 M[i].At t q)) (fun c=>JN F G c (fun q=>S q∨∃ t∈M[i].Spans,q54 M[i].At t q)) ?_ ?_ (k0:=0) (c0:=N) q8 (h.congr fun p=>qe)
  · exact this
  · intro k c hk g;have hb : decide ((k : Int) < (M[i].Spans.length : Int)) = true:=Q6 q8;by_cases l : c.length≤400
    · obtain ⟨v1,y,w⟩:=qh8 d (Kr hi) (Kr hk);obtain ⟨N1,e1,r,_,l1⟩:=qg2 n d (p:={X:=M[i].At,Y:=(M[i].Spans[k]).Lo}) ⟨j.1,j.2,by simp only;omega,by simp only;omega⟩ g q8;obtain ⟨o,u,s,_,l2⟩:=qg2 n d (p:={X:=M[i].At,Y:=(M[i].Spans[k]).Hi}) ⟨j.1,j.2,by simp only;omega,by simp only;omega⟩ r q8;refine .inl ⟨o,?_,s.congr ?_⟩
      · simp only [q2v,Qw hi,qo,hb,Q4,Q6 (show (c.length : Int)≤400 by omega),Qw hk];rw [← Option.bind_assoc (x:=q20 L M {X:=M[i].At,Y:=(M[i].Spans[k]).Lo}),e1,qo,u,qo,Qd q8];rfl
      · intro q a;rw [takeN hk] at a;rcases a with a | a | ⟨b,a | a⟩
        · exact .inl (.inl (.inl a))
        · exact .inl (.inl (.inr a))
        · exact .inl (.inr (by rw [← a,← b]))
        · exact .inr (by rw [← a,← b])
    · refine .inr ⟨c,?_,g.big l⟩;simp only [q2v,Qw hi,qo,hb,Q4,Q9 (show ¬ (c.length : Int)≤400 by omega),qz]
  · intro c g;have hb : decide ((M[i].Spans.length : Int) < (M[i].Spans.length : Int)) = false:=Q9 q8;refine ⟨c,by simp only [q2v,Qw hi,qo,hb,qz],?_⟩;rw [List.take_length] at g;exact g
theorem qx8 (m : Rep (asc L) F) (d : Rep (asc M) G) {N : List qf} {S : qf→Prop} (h : JN F G N S) : ∃ a,loop (q4a M L) (0,N) = some a∧JN F G a (fun q=>S q∨∃ l∈M,∃ t∈l.Spans,q54 l.At t q):=by
  have n:=qbi d;have:=Ku (f:=q4a M L) (σ:=List qf) (fun k c=>((k : Int),c)) M.length (fun k c=>JN F G c (fun q=>S q∨∃ l∈M.take k,∃ t∈l.Spans,q54 l.At t q)) (fun c=>JN F G c (fun q=>S q∨∃ l∈M,∃ t∈l.Spans,q54 l.At t q)) ?_ ?_ (k0:=0) (c0:=N) q8 (h.congr fun p=>qe)
  · exact this
  · intro k c hk b;have hb : decide ((k : Int) < (M.length : Int)) = true:=Q6 q8;obtain ⟨a,e,j⟩:=qx9 m d hk c b;refine .inl ⟨a,?_,j.congr fun q g=>?_⟩
    · simp only [q4a,hb,Q4,e,qo];rw [Qd q8];rfl
    · rw [takeN hk,← or_assoc] at g;exact g
  · intro c b;have hb : decide ((M.length : Int) < (M.length : Int)) = false:=Q9 q8;refine ⟨c,by simp only [q4a,hb,qz],?_⟩;rw [List.take_length] at b;exact b
theorem qxa (q : Rep (asc L) F) (g : Rep (asc M) G) : ∃ N,q8c L M = some N∧N.Pairwise ltP∧(∀ p∈N,Y7 F G p.X p.Y)∧(N.length≤400→Yu F G N)∧N.length≤402:=by
  obtain ⟨N1,e1,v⟩:=qx4 q g;obtain ⟨s,z,d⟩:=qx8 q g v;refine ⟨s,by unfold q8c;rw [e1,qo,z];rfl,d.srt,d.sub,fun u=>⟨d.srt,fun p=>⟨d.sub p,fun hp=>d.all u p ?_ hp⟩⟩,d.len⟩;rcases (qfd (r:={rows_:=asc L,columns_:=asc M}) q g p).2 hp with ⟨e,o,t,k,n,a⟩ | ⟨e,o,t,k,n,a,_⟩
  · obtain ⟨l,b,rfl⟩:=List.mem_map.1 o;refine .inl ⟨l,b,t,k,n,qju.2 ?_⟩;rcases a with ⟨a | a,_⟩ | ⟨a,x,h⟩
    · exact .inl a
    · exact .inr (.inl a)
    · have f : p.X∈(asc M).map (·.1):=by rcases h with h | h <;> exact g.all _ _ h
      obtain ⟨c,y,j⟩:=List.mem_map.1 f;obtain ⟨m,w,rfl⟩:=List.mem_map.1 y;exact .inr (.inr ⟨a,x,m,w,j⟩)
  · obtain ⟨l,b,rfl⟩:=List.mem_map.1 o;exact .inr ⟨l,b,t,k,n,a⟩
end
end Go.Sh
namespace Go.Sh
open Go Go.Am
open Classical
section
variable {F G : Int→Int→Prop} {N : List qf}
structure Za (N : List qf) (i k : Nat) : Prop where
  lt : i < k
  hk : k < N.length
  eq : ∀ (h1 : i < N.length) (h2 : k < N.length),N[k].X = N[i].X
  no : ∀ j (h1 : i < N.length) (h2 : j < N.length),i < j→j < k→N[j].X≠N[i].X
structure Zb (N : List qf) (i k : Nat) : Prop where
  lt : i < k
  hk : k < N.length
  eq : ∀ (h1 : i < N.length) (h2 : k < N.length),N[k].Y = N[i].Y
  no : ∀ j (h1 : i < N.length) (h2 : j < N.length),i < j→j < k→N[j].Y≠N[i].Y
def q7n (F G : Int→Int→Prop) (N : List qf) (i k : Nat) : Prop:=∃ h : i < N.length,(Za N i k∧G N[i].X N[i].Y)∨(Zb N i k∧F N[i].Y N[i].X)
structure q4u (F G : Int→Int→Prop) (N : List qf) (E : List qm) : Prop where
  srt : E.Pairwise ltG
  mem : ∀ e,e∈E↔∃ i k : Nat,e = {A:=(i : Int),B:=(k : Int)}∧q7n F G N i k
theorem qt0 {N M : List qf} (h : Yu F G N) (a : Yu F G M) : N = M:=qd9 q3s h.srt a.srt fun p=>by rw [h.mem,a.mem]
theorem qqf {D E : List qm} (h : q4u F G N D) (a : q4u F G N E) : D = E:=qd9 qjo h.srt a.srt fun p=>by rw [h.mem,a.mem]
theorem qas (h : N.Pairwise ltP) {i j : Nat} (hi : i < N.length) (b : j < N.length) (a : i < j) : ltP N[i] N[j]:=List.pairwise_iff_getElem.1 h i j hi b a
theorem q27 (h : N.Pairwise ltP) {i j : Nat} (hi : i < N.length) (c : j < N.length) (a : ltP N[i] N[j]) : i < j:=by
  rcases Nat.lt_trichotomy i j with b | b | b
  · exact b
  · subst b;exact absurd a (q3s _ _ a)
  · exact absurd a (q3s _ _ (qas h c hi b))
theorem qka (h : N.Pairwise ltP) {i k m : Nat} (c : Za N i k) (b : Zb N i m) : k < m:=by
  have hi : i < N.length:=by have:=c.lt;have:=c.hk;omega
  have a:=qas h hi b.hk b.lt;have e1:=c.eq hi c.hk;have d:=b.eq hi b.hk;refine q27 h c.hk b.hk ?_;unfold ltP at *;omega
theorem q3r {f : Int→Prop} {lo : Int} : ∀ (n : Nat),(∀ x,lo < x→x≤lo + n→(f x↔f (x - 1)))→(f lo↔f (lo + n))
  | 0,_=>by simp
  | n + 1,h=>by
    rw [q3r n fun x a b=>h x a q8,h (lo + ((n + 1 : Nat) : Int)) q8 q8]
    have : lo + ((n + 1 : Nat) : Int) - 1 = lo + (n : Int):=by omega
    rw [this]
theorem qfg {x y : Int} (h : ¬ Y7 F G x y) : F y x↔F y (x - 1):=by
  by_cases e : F y x <;> by_cases w : F y (x - 1) <;> by_cases n : G x y <;> by_cases s : G x (y - 1) <;> simp [Y7,q3v,e,w,n,s] at h ⊢
theorem qff {x y : Int} (h : ¬ Y7 F G x y) : G x y↔G x (y - 1):=by
  by_cases e : F y x <;> by_cases w : F y (x - 1) <;> by_cases n : G x y <;> by_cases s : G x (y - 1) <;> simp [Y7,q3v,e,w,n,s] at h ⊢
theorem qlv (b : Yu F G N) {i k : Nat} (h : Zb N i k) (hi : i < N.length) : F N[i].Y N[i].X↔F N[i].Y ((N[k]'h.hk).X - 1):=by
  have a:=qas b.srt hi h.hk h.lt;have e:=h.eq hi h.hk;have j : N[i].X < (N[k]'h.hk).X:=by unfold ltP at a;omega
  obtain ⟨n,l⟩ : ∃ n : Nat,(N[k]'h.hk).X - 1 = N[i].X + n:=⟨((N[k]'h.hk).X - 1 - N[i].X).toNat,q8⟩
  have : ((N[k]'h.hk).X - 1) = N[i].X + n:=l;rw [this];refine q3r (f:=F N[i].Y) n fun x q p=>?_;refine qfg (G:=G) fun c=>?_;obtain ⟨m,d,g⟩:=List.mem_iff_getElem.1 ((b.mem {X:=x,Y:=N[i].Y}).2 c);have ex : N[m].X = x:=by rw [g]
  have o : N[m].Y = N[i].Y:=by rw [g]
  refine h.no m hi d (q27 b.srt hi d ?_) (q27 b.srt d h.hk ?_) o
  · unfold ltP;omega
  · unfold ltP;omega
theorem qhr (b : Yu F G N) {i k : Nat} (h : Za N i k) (hi : i < N.length) : G N[i].X N[i].Y↔G N[i].X ((N[k]'h.hk).Y - 1):=by
  have a:=qas b.srt hi h.hk h.lt;have e:=h.eq hi h.hk;have j : N[i].Y < (N[k]'h.hk).Y:=by unfold ltP at a;omega
  obtain ⟨n,l⟩ : ∃ n : Nat,(N[k]'h.hk).Y - 1 = N[i].Y + n:=⟨((N[k]'h.hk).Y - 1 - N[i].Y).toNat,q8⟩
  have : ((N[k]'h.hk).Y - 1) = N[i].Y + n:=l;rw [this];refine q3r (f:=G N[i].X) n fun y p o=>?_;refine qff (F:=F) fun c=>?_;obtain ⟨m,d,g⟩:=List.mem_iff_getElem.1 ((b.mem {X:=N[i].X,Y:=y}).2 c);have ex : N[m].X = N[i].X:=by rw [g]
  have q : N[m].Y = y:=by rw [g]
  refine h.no m hi d (q27 b.srt hi d ?_) (q27 b.srt d h.hk ?_) ex
  · unfold ltP;omega
  · unfold ltP;omega
theorem qxb (k : Yu F G N) (hb : ∀ y x,F y x→-1000000≤x) {i : Nat} (hi : i < N.length) (c : F N[i].Y (N[i].X - 1)) : ∃ j,∃ h : j < N.length,j < i∧N[j].Y = N[i].Y:=by
  refine Classical.byContradiction fun a=>?_
  have step : ∀ x,x < N[i].X→(F N[i].Y x↔F N[i].Y (x - 1)):=by
    intro x l;refine qfg (G:=G) fun b=>a ?_;obtain ⟨m,d,g⟩:=List.mem_iff_getElem.1 ((k.mem {X:=x,Y:=N[i].Y}).2 b);have ex : N[m].X = x:=by rw [g]
    have o : N[m].Y = N[i].Y:=by rw [g]
    exact ⟨m,d,q27 k.srt d hi (by unfold ltP;omega),o⟩
  have l:=hb _ _ c;obtain ⟨n,b⟩ : ∃ n : Nat,N[i].X - 1 = -1000001 + (n : Int):=⟨(N[i].X + 1000000).toNat,q8⟩
  have:=q3r (f:=F N[i].Y) (lo:=-1000001) n fun x q p=>step x q8;rw [← b] at this;have:=hb _ _ (this.2 c);omega
theorem qot (k : Yu F G N) (hb : ∀ x y,G x y→-1000000≤y) {i : Nat} (hi : i < N.length) (c : G N[i].X (N[i].Y - 1)) : ∃ j,∃ h : j < N.length,j < i∧N[j].X = N[i].X:=by
  refine Classical.byContradiction fun a=>?_
  have step : ∀ y,y < N[i].Y→(G N[i].X y↔G N[i].X (y - 1)):=by
    intro y p;refine qff (F:=F) fun b=>a ?_;obtain ⟨m,d,g⟩:=List.mem_iff_getElem.1 ((k.mem {X:=N[i].X,Y:=y}).2 b);have ex : N[m].X = N[i].X:=by rw [g]
    have r : N[m].Y = y:=by rw [g]
    exact ⟨m,d,q27 k.srt d hi (by unfold ltP;omega),ex⟩
  have q:=hb _ _ c;obtain ⟨n,b⟩ : ∃ n : Nat,N[i].Y - 1 = -1000001 + (n : Int):=⟨(N[i].Y + 1000000).toNat,q8⟩
  have:=q3r (f:=G N[i].X) (lo:=-1000001) n fun y o l=>step y q8;rw [← b] at this;have:=hb _ _ (this.2 c);omega
theorem qew {P : Nat→Prop} : ∀ {n : Nat},(∃ j,j < n∧P j)→∃ j,j < n∧P j∧∀ m,j < m→m < n→¬ P m
  | 0,⟨j,h,_⟩=>by omega
  | n + 1,⟨j,h,hp⟩=>by
    by_cases e : P n
    · exact ⟨n,q8,e,fun m f a=>q8⟩
    · have : j≠n:=fun c=>e (c ▸ hp)
      obtain ⟨k,f,a,g⟩:=qew (n:=n) ⟨j,q8,hp⟩
      refine ⟨k,q8,a,fun m d l=>?_⟩
      by_cases b : m = n
      · subst b;exact e
      · exact g m d q8
theorem ql4 (f : Yu F G N) (hb : ∀ y x,F y x→-1000000≤x) {k : Nat} (hk : k < N.length) (c : F N[k].Y (N[k].X - 1)) : ∃ j,Zb N j k:=by
  obtain ⟨j,h,a,l⟩:=qxb f hb hk c;obtain ⟨m,p,⟨s,b⟩,d⟩:=qew (P:=fun j=>∃ h : j < N.length,N[j].Y = N[k].Y) (n:=k) ⟨j,a,h,l⟩;exact ⟨m,p,hk,fun _ _=>b.symm,fun q _ g o r e=>d q o r ⟨g,by rw [e,b]⟩⟩
theorem ql3 (f : Yu F G N) (hb : ∀ x y,G x y→-1000000≤y) {k : Nat} (hk : k < N.length) (c : G N[k].X (N[k].Y - 1)) : ∃ j,Za N j k:=by
  obtain ⟨j,h,a,l⟩:=qot f hb hk c;obtain ⟨m,p,⟨s,b⟩,d⟩:=qew (P:=fun j=>∃ h : j < N.length,N[j].X = N[k].X) (n:=k) ⟨j,a,h,l⟩;exact ⟨m,p,hk,fun _ _=>b.symm,fun q _ g o r e=>d q o r ⟨g,by rw [e,b]⟩⟩
theorem Zb.uniq {i j k : Nat} (b : Zb N i k) (a : Zb N j k) : i = j:=by
  have hi : i < N.length:=by have:=b.lt;have:=b.hk;omega
  have c : j < N.length:=by have:=a.lt;have:=a.hk;omega
  have e1:=b.eq hi b.hk;have d:=a.eq c a.hk;rcases Nat.lt_trichotomy i j with h | h | h
  · exact absurd (by rw [← e1,← d]) (b.no j hi c h a.lt)
  · exact h
  · exact absurd (by rw [← e1,← d]) (a.no i c hi h b.lt)
theorem Za.uniq {i j k : Nat} (b : Za N i k) (a : Za N j k) : i = j:=by
  have hi : i < N.length:=by have:=b.lt;have:=b.hk;omega
  have c : j < N.length:=by have:=a.lt;have:=a.hk;omega
  have e1:=b.eq hi b.hk;have d:=a.eq c a.hk;rcases Nat.lt_trichotomy i j with h | h | h
  · exact absurd (by rw [← e1,← d]) (b.no j hi c h a.lt)
  · exact h
  · exact absurd (by rw [← e1,← d]) (a.no i c hi h b.lt)
theorem qc5 (c : Yu F G N) (f : ∀ y x,F y x→-1000000≤x) (d : ∀ x y,G x y→-1000000≤y) {k : Nat} (hk : k < N.length) (i : Nat) : q7n F G N i k↔(Zb N i k∧F N[k].Y (N[k].X - 1))∨(Za N i k∧G N[k].X (N[k].Y - 1)):=by
  constructor
  · rintro ⟨hi,⟨a,b⟩ | ⟨a,b⟩⟩
    · have:=(qhr c a hi).1 b;rw [← a.eq hi hk] at this;exact .inr ⟨a,this⟩
    · have:=(qlv c a hi).1 b;rw [← a.eq hi hk] at this;exact .inl ⟨a,this⟩
  · rintro (⟨a,b⟩ | ⟨a,b⟩)
    · have hi : i < N.length:=by have:=a.lt;omega
      refine ⟨hi,.inr ⟨a,(qlv c a hi).2 ?_⟩⟩;rw [← a.eq hi hk];exact b
    · have hi : i < N.length:=by have:=a.lt;omega
      refine ⟨hi,.inl ⟨a,(qhr c a hi).2 ?_⟩⟩;rw [← a.eq hi hk];exact b
end
end Go.Sh
namespace Go.Sh
open Go Go.Am
open Classical
theorem qf4 {α β : Type} [DecidableEq α] {z : β} {k a : α} {v : β} : ∀ {R : List (α × β)},K9 z a (Ko k v R) = if a = k then v else K9 z a R
  | []=>by simp only [Ko,K9]
  | (b,w)::r=>by
    simp only [Ko]
    by_cases e : k = b
    · subst e
      simp only [if_true,K9]
      by_cases c : a = k
      · simp [c]
      · simp [c]
    · rw [Q1 e]
      simp only [K9]
      rw [qf4 (R:=r)]
      by_cases c : a = b
      · subst c
        have : ¬ a = k:=fun h=>e h.symm
        simp [this]
      · simp [c]
section
variable {F G : Int→Int→Prop} {N : List qf}
structure PE (F G : Int→Int→Prop) (N : List qf) (k : Nat) (c : List (Int × Int) × List (Int × Int) × List qm) : Prop where
  rm : ∀ j (h : j < N.length),j < k→(∀ m (h2 : m < N.length),j < m→m < k→N[m].Y≠N[j].Y)→K9 0 N[j].Y c.1 = (j : Int)
  cm : ∀ j (h : j < N.length),j < k→(∀ m (h2 : m < N.length),j < m→m < k→N[m].X≠N[j].X)→K9 0 N[j].X c.2.1 = (j : Int)
  nd : c.2.2.Nodup
  mem : ∀ e,e∈c.2.2↔∃ i q : Nat,q < k∧e = {A:=(i : Int),B:=(q : Int)}∧q7n F G N i q
  len : c.2.2.length≤2 * k
theorem qsp {r : Y9} (h1 : Rep r.rows_ F) (h2 : Rep r.columns_ G) (hN : Yu F G N) (hl : N.length≤400) : ∃ E,loop (q36 (N,true) r) (0,[],[],[]) = some E∧E.Nodup∧(∀ e,e∈E↔∃ i q : Nat,e = {A:=(i : Int),B:=(q : Int)}∧q7n F G N i q)∧E.length≤800:=by
  have hF : ∀ y x,F y x→-1000000≤x:=fun y x h=>(h1.bnd h).2.2.1;have hG : ∀ x y,G x y→-1000000≤y:=fun x y h=>(h2.bnd h).2.2.1;refine Ku (f:=q36 (N,true) r) (σ:=List (Int × Int) × List (Int × Int) × List qm) (fun k c=>((k : Int),c)) N.length (PE F G N) _ ?_ ?_ (k0:=0) (c0:=([],[],[])) q8 ⟨fun j h h'=>q8,fun j h h'=>q8,.nil,fun e=>⟨fun h=>(by cases h),fun ⟨i,q,h,_⟩=>q8⟩,qe⟩
  · rintro k ⟨rm,cm,E⟩ hk ⟨p1,p2,p3,p4,p5⟩;simp only at p1 p2 p3 p4 p5;have hb : decide ((k : Int) < (N.length : Int)) = true:=Q6 q8;have ap:=qck h1 h2 ((hN.mem N[k]).1 (Kr hk));have am : PtB N[k]:=ap;have o:=qc5 hN hF hG hk
    have hold : ∀ i,({A:=(i : Int),B:=(k : Int)} : qm) ∉ E:=by
      intro i hm;obtain ⟨i',q,hq,l,_⟩:=(p4 _).1 hm;simp only [qm.mk.injEq] at l;omega
    have hw : ∃ u,(cond (decide (F N[k].Y (N[k].X - 1))) ((app 16 E [({A:=K9 0 N[k].Y rm,B:=(k : Int)} : qm)]).bind fun ak=>some ak) (some E)) = some u∧u.Nodup∧u.length≤E.length + 1∧∀ e,e∈u↔e∈E∨∃ i : Nat,e = {A:=(i : Int),B:=(k : Int)}∧Zb N i k∧F N[k].Y (N[k].X - 1):=by
      by_cases w : F N[k].Y (N[k].X - 1)
      · obtain ⟨j,g⟩:=ql4 hN hF hk w;have d : j < N.length:=by have:=g.lt;omega
        have t : K9 0 N[k].Y rm = (j : Int):=by
          rw [g.eq d hk];exact p1 j d g.lt fun m p z h5=>g.no m d p z h5
        rw [Q6 w,Q4,t,Ye (by simp;omega)];refine ⟨_,rfl,?_,qe,fun e=>?_⟩
        · rw [List.nodup_append];exact ⟨p3,qe,fun a ha b hb e=>by rw [List.mem_singleton] at hb;subst hb;subst e;exact hold j ha⟩
        · rw [List.mem_append,List.mem_singleton];constructor
          · rintro (h | rfl)
            · exact .inl h
            · exact .inr ⟨j,rfl,g,w⟩
          · rintro (h | ⟨i,rfl,p,_⟩)
            · exact .inl h
            · rw [p.uniq g];exact .inr rfl
      · rw [Q9 w,qz];exact ⟨E,rfl,p3,q8,fun e=>⟨.inl,fun h=>h.elim id fun ⟨_,_,_,h⟩=>absurd h w⟩⟩
    obtain ⟨u,e1,n1,l1,m1⟩:=hw
    have hs : ∃ E2,(cond (decide (G N[k].X (N[k].Y - 1))) ((app 16 u [({A:=K9 0 N[k].X cm,B:=(k : Int)} : qm)]).bind fun ao=>some ao) (some u)) = some E2∧E2.Nodup∧E2.length≤u.length + 1∧∀ e,e∈E2↔e∈u∨∃ i : Nat,e = {A:=(i : Int),B:=(k : Int)}∧Za N i k∧G N[k].X (N[k].Y - 1):=by
      by_cases s : G N[k].X (N[k].Y - 1)
      · obtain ⟨j,g⟩:=ql3 hN hG hk s;have d : j < N.length:=by have:=g.lt;omega
        have t : K9 0 N[k].X cm = (j : Int):=by
          rw [g.eq d hk];exact p2 j d g.lt fun m p z h5=>g.no m d p z h5
        rw [Q6 s,Q4,t,Ye (by simp;omega)];refine ⟨_,rfl,?_,qe,fun e=>?_⟩
        · rw [List.nodup_append];refine ⟨n1,qe,fun a ha b hb e=>?_⟩;rw [List.mem_singleton] at hb;subst hb;subst e;rcases (m1 _).1 ha with h | ⟨i,l,hy,_⟩
          · exact hold j h
          · simp only [qm.mk.injEq] at l;have aj : i = j:=by omega
            subst aj;have q1:=hy.eq d hk;have q2:=g.eq d hk;have:=qas hN.srt d hk g.lt;unfold ltP at this;omega
        · rw [List.mem_append,List.mem_singleton];constructor
          · rintro (h | rfl)
            · exact .inl h
            · exact .inr ⟨j,rfl,g,s⟩
          · rintro (h | ⟨i,rfl,p,_⟩)
            · exact .inl h
            · rw [p.uniq g];exact .inr rfl
      · rw [Q9 s,qz];exact ⟨u,rfl,n1,q8,fun e=>⟨.inl,fun h=>h.elim id fun ⟨_,_,_,h⟩=>absurd h s⟩⟩
    obtain ⟨E2,e2,n2,l2,m2⟩:=hs;refine .inl ⟨(Ko N[k].Y (k : Int) rm,Ko N[k].X (k : Int) cm,E2),?_,fun j g ai n=>?_,fun j g ai n=>?_,n2,fun e=>?_,by simp only;omega⟩
    · simp only [q36,hb,Q4,Qw hk,qo,qdo h1 h2 am,arB];rw [e1,qo,e2,qo,Qd q8];rfl
    · simp only;rw [qf4];by_cases v : N[j].Y = N[k].Y
      · rw [Q0 v];by_cases aa : j = k
        · subst aa;rfl
        · exact absurd v.symm (n k hk q8 q8)
      · rw [Q1 v];have : j≠k:=fun h=>by subst h;exact v rfl
        exact p1 j g q8 fun m p z h5=>n m p z q8
    · simp only;rw [qf4];by_cases v : N[j].X = N[k].X
      · rw [Q0 v];by_cases aa : j = k
        · subst aa;rfl
        · exact absurd v.symm (n k hk q8 q8)
      · rw [Q1 v];have : j≠k:=fun h=>by subst h;exact v rfl
        exact p2 j g q8 fun m p z h5=>n m p z q8
    · simp only;rw [m2,m1,p4];constructor
      · rintro ((⟨i,q,hq,l,h⟩ | ⟨i,l,h⟩) | ⟨i,l,h⟩)
        · exact ⟨i,q,q8,l,h⟩
        · exact ⟨i,k,q8,l,(o i).2 (.inl h)⟩
        · exact ⟨i,k,q8,l,(o i).2 (.inr h)⟩
      · rintro ⟨i,q,hq,l,h⟩;by_cases eq : q = k
        · subst eq;rcases (o i).1 h with h | h
          · exact .inl (.inr ⟨i,l,h⟩)
          · exact .inr ⟨i,l,h⟩
        · exact .inl (.inl ⟨i,q,q8,l,h⟩)
  · rintro ⟨rm,cm,E⟩ ⟨p1,p2,p3,p4,p5⟩;simp only at p3 p4 p5;have hb : decide ((N.length : Int) < (N.length : Int)) = false:=Q9 q8;refine ⟨E,by simp only [q36,hb,qz],p3,fun e=>?_,q8⟩;rw [p4];constructor
    · rintro ⟨i,q,_,l,h⟩;exact ⟨i,q,l,h⟩
    · rintro ⟨i,q,l,h⟩;obtain ⟨hi,h'⟩:=h;refine ⟨i,q,?_,l,hi,h'⟩;rcases h' with ⟨h,_⟩ | ⟨h,_⟩
      · exact h.hk
      · exact h.hk
theorem qso {r : Y9} (n : Rep r.rows_ F) (d : Rep r.columns_ G) (g : Yu F G N) (f : N.length≤400) : ∃ D E,loop (q36 (N,true) r) (0,[],[],[]) = some D∧q4e (fun c o=>q29 c o) D = some E∧E.length = D.length∧q4u F G N E∧E.length≤800:=by
  obtain ⟨D,e1,l,b,k⟩:=qsp n d g f
  have m : ∀ e∈D,PtB (eP2 e):=by
    intro e j;obtain ⟨i,q,rfl,hi,h⟩:=(b e).1 j;have t : q < N.length:=by rcases h with ⟨h,_⟩ | ⟨h,_⟩ <;> exact h.hk
    unfold PtB eP2;simp only;omega
  obtain ⟨E,s,a,p⟩:=qzv D q8 m l;exact ⟨D,E,e1,s,a.length_eq,⟨p,fun e=>by rw [a.mem_iff,b]⟩,by rw [a.length_eq];exact k⟩
def NX (N : List qf) (i k : Nat) (b : Int) : Prop:=(b = -1∧∀ m (h1 : i < N.length) (h2 : m < N.length),i < m→m < k→N[m].X≠N[i].X)∨∃ q : Nat,b = (q : Int)∧Za N i q
def NY (N : List qf) (i k : Nat) (b : Int) : Prop:=(b = -1∧∀ m (h1 : i < N.length) (h2 : m < N.length),i < m→m < k→N[m].Y≠N[i].Y)∨∃ q : Nat,b = (q : Int)∧Zb N i q
theorem qn6 (hl : N.length≤1000) {i : Nat} (hi : i < N.length) : ∃ b,loop (q43 N N[i]) ((-1),(-1),(((i + 1 : Nat) : Int))) = some b∧NX N i N.length b.1∧NY N i N.length b.2:=by
  refine Ku (f:=q43 N N[i]) (σ:=Int × Int) (fun k c=>(c.1,c.2,(k : Int))) N.length (fun k c=>i < k∧NX N i k c.1∧NY N i k c.2) _ ?_ ?_ (k0:=i + 1) (c0:=((-1),(-1))) q8 ⟨q8,.inl ⟨rfl,fun m _ _ s n=>q8⟩,.inl ⟨rfl,fun m _ _ s n=>q8⟩⟩
  · rintro k ⟨bx,a⟩ hk ⟨t,w,v⟩;simp only at w v;have hb : decide ((k : Int) < (N.length : Int)) = true:=Q6 q8
    have sx : ∃ d,((cond (N[k].X == N[i].X) (some (decide (bx < 0))) (some false)).bind fun u=>(cond u (some (k : Int)) (some bx))) = some d∧NX N i (k + 1) d:=by
      rcases w with ⟨rfl,h⟩ | ⟨q,rfl,y⟩
      · by_cases e : N[k].X = N[i].X
        · have o : (N[k].X == N[i].X) = true:=by simpa using e
          rw [o];exact ⟨(k : Int),rfl,.inr ⟨k,rfl,t,hk,fun _ _=>e,fun j _ n p r=>h j hi n p r⟩⟩
        · have o : (N[k].X == N[i].X) = false:=by simpa using e
          rw [o];refine ⟨-1,rfl,.inl ⟨rfl,fun m s n p r=>?_⟩⟩;by_cases z : m = k
          · subst z;exact e
          · exact h m s n p q8
      · refine ⟨(q : Int),?_,.inr ⟨q,rfl,y⟩⟩;have : decide ((q : Int) < 0) = false:=Q9 q8;rw [this];cases (N[k].X == N[i].X) <;> rfl
    have sy : ∃ l,((cond (N[k].Y == N[i].Y) (some (decide (a < 0))) (some false)).bind fun g=>(cond g (some (k : Int)) (some a))) = some l∧NY N i (k + 1) l:=by
      rcases v with ⟨rfl,h⟩ | ⟨q,rfl,y⟩
      · by_cases e : N[k].Y = N[i].Y
        · have o : (N[k].Y == N[i].Y) = true:=by simpa using e
          rw [o];exact ⟨(k : Int),rfl,.inr ⟨k,rfl,t,hk,fun _ _=>e,fun j _ n p r=>h j hi n p r⟩⟩
        · have o : (N[k].Y == N[i].Y) = false:=by simpa using e
          rw [o];refine ⟨-1,rfl,.inl ⟨rfl,fun m s n p r=>?_⟩⟩;by_cases z : m = k
          · subst z;exact e
          · exact h m s n p q8
      · refine ⟨(q : Int),?_,.inr ⟨q,rfl,y⟩⟩;have : decide ((q : Int) < 0) = false:=Q9 q8;rw [this];cases (N[k].Y == N[i].Y) <;> rfl
    obtain ⟨d,e1,x1⟩:=sx;obtain ⟨l,e2,y1⟩:=sy;refine .inl ⟨(d,l),?_,q8,x1,y1⟩;simp only [q43,hb,Q4,Qw hk,qo];rw [← Option.bind_assoc (x:=(cond (N[k].X == N[i].X) (some (decide (bx < 0))) (some false))),e1,qo]
    have e3 : ((cond (N[k].Y == N[i].Y) (some (decide (a < 0))) (some false)).bind fun g=>cond g (some (d,(k : Int))) (some (d,a))) = some (d,l):=by
      have : ∀ c : Bool,(cond c (some (d,(k : Int))) (some (d,a))) = (cond c (some (k : Int)) (some a)).map fun b=>(d,b):=by intro c;cases c <;> rfl
      simp only [this]
      have : ((cond (N[k].Y == N[i].Y) (some (decide (a < 0))) (some false)).bind fun g=>(cond g (some (k : Int)) (some a)).map fun b=>(d,b)) = (((cond (N[k].Y == N[i].Y) (some (decide (a < 0))) (some false)).bind fun g=>(cond g (some (k : Int)) (some a)))).map fun b=>(d,b):=by
        cases (cond (N[k].Y == N[i].Y) (some (decide (a < 0))) (some false)) <;> rfl
      rw [this,e2];rfl
    rw [e3,qo,Qd q8];rfl
  · rintro ⟨bx,a⟩ ⟨_,w,v⟩;have hb : decide ((N.length : Int) < (N.length : Int)) = false:=Q9 q8;exact ⟨(bx,a),by simp only [q43,hb,qz],w,v⟩
end
end Go.Sh
namespace Go.Sh
open Go Go.Am
open Classical
section
variable {F G : Int→Int→Prop} {N : List qf} {L M : List Ka}
structure RE (F G : Int→Int→Prop) (N : List qf) (k : Nat) (E : List qm) : Prop where
  srt : E.Pairwise ltG
  mem : ∀ e,e∈E↔∃ i q : Nat,i < k∧e = {A:=(i : Int),B:=(q : Int)}∧q7n F G N i q
  len : E.length≤2 * k
theorem qjp {E : List qm} {a : qm} (h : E.Pairwise ltG) (c : ∀ e∈E,ltG e a) : (E ++ [a]).Pairwise ltG:=by
  rw [List.pairwise_append];exact ⟨h,List.pairwise_singleton _ _,fun x d y b=>by rw [List.mem_singleton] at b;subst b;exact c x d⟩
theorem qn5 (h1 : Rep (asc L) F) (z : Rep (asc M) G) (hN : Yu F G N) (hl : N.length≤400) : ∃ E,loop (q42 N L M) (0,[]) = some E∧q4u F G N E∧E.length≤800:=by
  refine Ku (f:=q42 N L M) (σ:=List qm) (fun k c=>((k : Int),c)) N.length (RE F G N) _ ?_ ?_ (k0:=0) (c0:=[]) q8 ⟨.nil,fun e=>⟨fun h=>(by cases h),fun ⟨i,q,h,_⟩=>q8⟩,qe⟩
  · rintro k E hk ⟨t,p2,p3⟩;have hb : decide ((k : Int) < (N.length : Int)) = true:=Q6 q8;have y : PtB N[k]:=qck h1 z ((hN.mem N[k]).1 (Kr hk));obtain ⟨⟨bx,s⟩,e0,hx,hy⟩:=qn6 (N:=N) q8 hk;simp only at hx hy
    have o : ∀ e∈E,∀ q : Nat,ltG e {A:=(k : Int),B:=(q : Int)}:=by
      intro e b q;obtain ⟨i,l,hi,rfl,_⟩:=(p2 e).1 b;unfold ltG ltP eP2;simp only;omega
    have hu : ∃ j,((cond (decide (G N[k].X N[k].Y)) (some (decide (bx ≥ 0))) (some false)).bind fun r=>(cond r ((app 16 E [({A:=(k : Int),B:=bx} : qm)]).bind fun u=>some u) (some E))) = some j∧j.Pairwise ltG∧j.length≤E.length + 1∧(∀ e,e∈j↔e∈E∨∃ q : Nat,e = {A:=(k : Int),B:=(q : Int)}∧Za N k q∧G N[k].X N[k].Y):=by
      by_cases g : G N[k].X N[k].Y
      · rw [Q6 g,Q4,qo];rcases hx with ⟨rfl,m⟩ | ⟨q,rfl,d⟩
        · refine ⟨E,rfl,t,q8,fun e=>⟨.inl,fun h=>h.elim id ?_⟩⟩;rintro ⟨q,_,a,_⟩;exact absurd (a.eq hk a.hk) (m q hk a.hk a.lt a.hk)
        · rw [Q6 (show (q : Int) ≥ 0 by omega),Q4,Ye (by simp;omega)];refine ⟨_,rfl,qjp t fun e b=>o e b q,qe,fun e=>?_⟩;rw [List.mem_append,List.mem_singleton];constructor
          · rintro (h | rfl)
            · exact .inl h
            · exact .inr ⟨q,rfl,d,g⟩
          · rintro (h | ⟨l,rfl,a,_⟩)
            · exact .inl h
            · right
              have : l = q:=by
                rcases Nat.lt_trichotomy l q with h | h | h
                · exact absurd (a.eq hk a.hk) (d.no l hk a.hk a.lt h)
                · exact h
                · exact absurd (d.eq hk d.hk) (a.no q hk d.hk d.lt h)
              rw [this]
      · rw [Q9 g,qz,qo,qz];exact ⟨E,rfl,t,q8,fun e=>⟨.inl,fun h=>h.elim id fun ⟨_,_,_,h⟩=>absurd h g⟩⟩
    obtain ⟨j,e1,s1,l1,m1⟩:=hu
    have hr : ∃ n,((cond (decide (F N[k].Y N[k].X)) (some (decide (s ≥ 0))) (some false)).bind fun v=>(cond v ((app 16 j [({A:=(k : Int),B:=s} : qm)]).bind fun p=>some p) (some j))) = some n∧n.Pairwise ltG∧n.length≤j.length + 1∧(∀ e,e∈n↔e∈j∨∃ q : Nat,e = {A:=(k : Int),B:=(q : Int)}∧Zb N k q∧F N[k].Y N[k].X):=by
      by_cases g : F N[k].Y N[k].X
      · rw [Q6 g,Q4,qo];rcases hy with ⟨rfl,m⟩ | ⟨q,rfl,d⟩
        · refine ⟨j,rfl,s1,q8,fun e=>⟨.inl,fun h=>h.elim id ?_⟩⟩;rintro ⟨q,_,a,_⟩;exact absurd (a.eq hk a.hk) (m q hk a.hk a.lt a.hk)
        · rw [Q6 (show (q : Int) ≥ 0 by omega),Q4,Ye (by simp;omega)];refine ⟨_,rfl,qjp s1 fun e b=>?_,qe,fun e=>?_⟩
          · rcases (m1 e).1 b with h | ⟨l,rfl,a,_⟩
            · exact o e h q
            · have af:=qka hN.srt a d;exact .inr ⟨rfl,show (l : Int) < (q : Int) by omega⟩
          · rw [List.mem_append,List.mem_singleton];constructor
            · rintro (h | rfl)
              · exact .inl h
              · exact .inr ⟨q,rfl,d,g⟩
            · rintro (h | ⟨l,rfl,a,_⟩)
              · exact .inl h
              · right
                have : l = q:=by
                  rcases Nat.lt_trichotomy l q with h | h | h
                  · exact absurd (a.eq hk a.hk) (d.no l hk a.hk a.lt h)
                  · exact h
                  · exact absurd (d.eq hk d.hk) (a.no q hk d.hk d.lt h)
                rw [this]
      · rw [Q9 g,qz,qo,qz];exact ⟨j,rfl,s1,q8,fun e=>⟨.inl,fun h=>h.elim id fun ⟨_,_,_,h⟩=>absurd h g⟩⟩
    obtain ⟨n,e2,s2,l2,m2⟩:=hr;refine .inl ⟨n,?_,s2,fun e=>?_,q8⟩
    · simp only [q42,hb,Q4,Qw hk,qo,qlf h1 z y,arB];rw [Qd q8,show ((k : Int) + 1) = ((k + 1 : Nat) : Int) by omega,e0,qo];simp only;rw [← Option.bind_assoc (x:=(cond (decide (G N[k].X N[k].Y)) (some (decide (bx ≥ 0))) (some false))),e1,qo,e2,qo]
    · rw [m2,m1,p2];constructor
      · rintro ((⟨i,q,d,b,h⟩ | ⟨q,b,a,w⟩) | ⟨q,b,a,w⟩)
        · exact ⟨i,q,q8,b,h⟩
        · exact ⟨k,q,q8,b,hk,.inl ⟨a,w⟩⟩
        · exact ⟨k,q,q8,b,hk,.inr ⟨a,w⟩⟩
      · rintro ⟨i,q,d,b,h⟩;by_cases eq : i = k
        · subst eq;obtain ⟨_,h | h⟩:=h
          · exact .inl (.inr ⟨q,b,h.1,h.2⟩)
          · exact .inr ⟨q,b,h.1,h.2⟩
        · exact .inl (.inl ⟨i,q,q8,b,h⟩)
  · rintro E ⟨t,p2,p3⟩;have hb : decide ((N.length : Int) < (N.length : Int)) = false:=Q9 q8;refine ⟨E,by simp only [q42,hb,qz],⟨t,fun e=>?_⟩,q8⟩;rw [p2];constructor
    · rintro ⟨i,q,_,b,h⟩;exact ⟨i,q,b,h⟩
    · rintro ⟨i,q,b,hi,h⟩;exact ⟨i,q,hi,b,hi,h⟩
end
structure q4y (F G : Int→Int→Prop) (n : Qz) : Prop where
  nodes : Yu F G n.Nodes
  edges : q4u F G n.Nodes n.Edges
  nlen : n.Nodes.length≤400
  elen : n.Edges.length≤800
theorem q4y.uniq {F G : Int→Int→Prop} {n m : Qz} (h : q4y F G n) (a : q4y F G m) : n = m:=by
  obtain ⟨N,E⟩:=n;obtain ⟨c,b⟩:=m;have e : N = c:=qt0 h.nodes a.nodes;subst e;have : E = b:=qqf h.edges a.edges;rw [this]
abbrev rowP (l : List Qb) : Int→Int→Prop:=onL (q21 l)
abbrev colP (l : List Qb) : Int→Int→Prop:=onL (q1i l)
def qba (F G : Int→Int→Prop) : Prop:=∃ b : List qf,b.Nodup∧400 < b.length∧∀ p∈b,Y7 F G p.X p.Y
theorem qba.not {F G : Int→Int→Prop} (h : qba F G) {N : List qf} (d : Yu F G N) : 400 < N.length:=by
  obtain ⟨b,a,f,c⟩:=h;have:=List.Nodup.length_le_of_subset a (l₂:=N) fun p hp=>(d.mem p).2 (c p hp);omega
theorem qfc {l : List Qb} (k : l.length≤400) (o : ∀ s∈l,SegV s) : (∃ n,q4q l = some (n,true)∧q4y (rowP l) (colP l) n)∨(q4q l = some ({Nodes:=[],Edges:=[]},false)∧qba (rowP l) (colP l)):=by
  obtain ⟨r,e1,f,d⟩:=qe5 k o;unfold q4q;rw [e1,qo];rcases qsz f d with ⟨N,g,a,c⟩ | ⟨p,q,c⟩
  · left;obtain ⟨D,E,m,t,j,h,b⟩:=qso f d g a;rw [c];simp only [qo,Bool.not_true,qz,m,t];have le : K1 E.length D.length = some ():=by unfold K1;rw [Q0 j]
    rw [le,qo];refine ⟨{Nodes:=N,Edges:=E},?_,g,h,a,b⟩;rw [Q6 (show (D.length : Int)≤800 by omega)]
  · right;rw [c];exact ⟨rfl,p⟩
theorem qn7 {l : List Qb} (g : l.length≤400) (k : ∀ s∈l,SegV s) : (∃ n,q41 l = some (n,true)∧q4y (rowP l) (colP l) n)∨(q41 l = some ({Nodes:=[],Edges:=[]},false)∧qba (rowP l) (colP l)):=by
  obtain ⟨L,e1,m,_⟩:=qji l true g k;obtain ⟨M,t,f,_⟩:=qji l false g k;obtain ⟨N,p,s1,q,j,u⟩:=qxa m f;unfold q41;rw [e1,qo,t,qo,p,qo];by_cases c : N.length≤400
  · left;rw [Q9 (show ¬ (N.length : Int) > 400 by omega),qz];obtain ⟨E,r,o,d⟩:=qn5 m f (j c) c;rw [r,qo];exact ⟨{Nodes:=N,Edges:=E},by rw [Q6 (show (E.length : Int)≤800 by omega)],j c,o,c,d⟩
  · right;rw [Q6 (show (N.length : Int) > 400 by omega),Q4];exact ⟨rfl,N,s1.imp (by rintro a b h rfl;exact q3s a a h h),q8,q⟩
theorem qsq {l : List Qb} (f : l.length≤400) (d : ∀ s∈l,SegV s) : q4q l = q41 l:=by
  rcases qfc f d with ⟨n,e1,b⟩ | ⟨e1,b⟩ <;> rcases qn7 f d with ⟨m,c,a⟩ | ⟨c,a⟩
  · rw [e1,c,b.uniq a]
  · have:=a.not b.nodes;have:=b.nlen;omega
  · have:=b.not a.nodes;have:=a.nlen;omega
  · rw [e1,c]
end Go.Sh
namespace Go.Sh
open Go Go.Am
open Classical
theorem beqI (a b : Int) : (a == b) = decide (a = b):=by
  by_cases h : a = b
  · rw [Q6 h];simpa using h
  · rw [Q9 h];simpa using h
theorem qj3 (p : qf) : q70 p = some (decide (PtB p)):=by
  unfold q70;by_cases h : PtB p
  · have a:=h;unfold PtB at a;rw [Q6 h,Q6 (show min p.X p.Y ≥ -1000000 by omega),Q4,Q6 (show max p.X p.Y≤1000000 by omega)];rfl
  · have a:=h;unfold PtB at a;rw [Q9 h];by_cases b : min p.X p.Y ≥ -1000000
    · rw [Q6 b,Q4,Q9 (show ¬ max p.X p.Y≤1000000 by omega)];rfl
    · rw [Q9 b,qz];rfl
theorem qd0 (s : Qb) : SegV s↔PtB s.A∧PtB s.B∧((s.A.X = s.B.X∧s.A.Y≠s.B.Y)∨(s.A.X≠s.B.X∧s.A.Y = s.B.Y)):=by
  constructor
  · rintro ⟨a,b,c⟩;exact ⟨a,b,c⟩
  · rintro ⟨a,b,c⟩;exact ⟨a,b,c⟩
theorem qgk (s : Qb) : qaz s = some (decide (SegV s)):=by
  unfold qaz;rw [qj3,qo];by_cases a : PtB s.A
  · rw [Q6 a,Q4,qj3,qo,qo];by_cases b : PtB s.B
    · rw [Q6 b,Q4,qo];congr 1;rw [beqI,beqI];by_cases e1 : s.A.X = s.B.X <;> by_cases c : s.A.Y = s.B.Y <;> simp [qd0,a,b,e1,c]
    · rw [Q9 b,qz,qo];simp [qd0,b]
  · rw [Q9 a,qz,qo,qz,qo];simp [qd0,a]
theorem qlg (p : qf) : q5q p = some (decide (PtB p)):=by
  unfold q5q;by_cases h : PtB p
  · have a:=h;unfold PtB at a;rw [Q6 h,Q6 (show p.X ≥ -1000000 by omega),Q4,Q6 (show p.X≤1000000 by omega),Q6 (show p.Y ≥ -1000000 by omega),Q6 (show p.Y≤1000000 by omega)];rfl
  · have a:=h;unfold PtB at a;rw [Q9 h];by_cases d : p.X ≥ -1000000 <;> by_cases b : p.X≤1000000 <;> by_cases f : p.Y ≥ -1000000 <;> by_cases c : p.Y≤1000000
    all_goals first | omega | (simp only [d,b,f,c,decide_true,decide_false,Q4,qz,qo])
theorem qxj (s : Qb) : q8a s = some (decide (SegV s)):=by
  unfold q8a;rw [qlg,qlg];simp only [beqI];by_cases e1 : s.A.X = s.B.X <;> by_cases c : s.A.Y = s.B.Y <;> by_cases a : PtB s.A <;> by_cases b : PtB s.B <;> simp [qd0,a,b,e1,c]
end Go.Sh
namespace Go.Sh
open Go Go.Am
open Classical
theorem dlt' {k n : Nat} (h : k < n) : decide ((k : Int) < (n : Int)) = true:=Q6 q8
theorem dnl' {n : Nat} : decide ((n : Int) < (n : Int)) = false:=Q9 q8
theorem beqP (a b : qf) : ((a.X == b.X) && ((a.Y == b.Y) && true)) = decide (a = b):=by
  obtain ⟨f,h⟩:=a;obtain ⟨bx,c⟩:=b;simp only [beqI,Bool.and_true,qf.mk.injEq];by_cases g : f = bx <;> by_cases d : h = c <;> simp [g,d]
theorem beqG (a b : qm) : ((a.A == b.A) && ((a.B == b.B) && true)) = decide (a = b):=by
  obtain ⟨f,h⟩:=a;obtain ⟨bx,c⟩:=b;simp only [beqI,Bool.and_true,qm.mk.injEq];by_cases g : f = bx <;> by_cases d : h = c <;> simp [g,d]
theorem q3m {α : Type} [DecidableEq α] {f : Int→Option (Int ⊕ (Unit ⊕ Bool))} {p q : List α} (j : p.length = q.length) (r : p.length≤1000000)
    (hs : ∀ k (a : k < p.length) (c : k < q.length),f (k : Int) = if p[k] = q[k] then some (.inl (w64 ((k : Int) + 1))) else some (.inr (.inr false))) (hd : f (p.length : Int) = some (.inr (.inl ()))) :
    loop f 0 = some (if p = q then .inl () else .inr false):=by
  have:=Ku (f:=f) (σ:=Unit) (fun k _=>(k : Int)) p.length (fun k _=>∀ i (a : i < p.length) (c : i < q.length),i < k→p[i] = q[i]) (fun o=>o = if p = q then .inl () else .inr false) ?_ ?_ (k0:=0) (c0:=()) q8 (fun i _ _ h=>q8)
  · obtain ⟨b,a,rfl⟩:=this;exact a
  · rintro k _ hk d;have c : k < q.length:=by omega
    have:=hs k hk c;by_cases e : p[k] = q[k]
    · rw [Q0 e,Qd q8] at this;refine .inl ⟨(),by rw [this];rfl,fun i g l n=>?_⟩;by_cases m : i = k
      · subst m;exact e
      · exact d i g l q8
    · rw [Q1 e] at this;refine .inr ⟨_,this,?_⟩;rw [Q1];rintro rfl;exact e rfl
  · rintro _ d;refine ⟨_,hd,?_⟩;rw [Q0];exact List.ext_getElem j fun i a c=>d i a c a
theorem qqj (p q : List qf) (d : p.length≤1000000) : q8g p q = some (decide (p = q)):=by
  unfold q8g;by_cases a : p.length = q.length
  · have e1 : ((p.length : Int) != (q.length : Int)) = false:=by rw [a];simp
    have f : loop (q68 p q) 0 = some (if p = q then .inl () else .inr false):=by
      refine q3m a d (fun k b c=>?_) ?_
      · simp only [q68,dlt' b,Q4,Qw b,Qw c,qo,beqP];by_cases e : p[k] = q[k] <;> simp [e]
      · simp only [q68,dnl',qz]
    rw [e1,qz,f];by_cases e : p = q <;> simp [e]
  · have e1 : ((p.length : Int) != (q.length : Int)) = true:=by simp;omega
    rw [e1,Q4,Q9 (fun h=>a (by rw [h]))]
theorem qqi (p q : List qm) (d : p.length≤1000000) : q8f p q = some (decide (p = q)):=by
  unfold q8f;by_cases a : p.length = q.length
  · have e1 : ((p.length : Int) != (q.length : Int)) = false:=by rw [a];simp
    have f : loop (q67 p q) 0 = some (if p = q then .inl () else .inr false):=by
      refine q3m a d (fun k b c=>?_) ?_
      · simp only [q67,dlt' b,Q4,Qw b,Qw c,qo,beqG];by_cases e : p[k] = q[k] <;> simp [e]
      · simp only [q67,dnl',qz]
    rw [e1,qz,f];by_cases e : p = q <;> simp [e]
  · have e1 : ((p.length : Int) != (q.length : Int)) = true:=by simp;omega
    rw [e1,Q4,Q9 (fun h=>a (by rw [h]))]
theorem qg5 (p q : Qz) (b : p.Nodes.length≤1000000) (a : p.Edges.length≤1000000) : q6y p q = some (decide (p = q)):=by
  obtain ⟨N,E⟩:=p;obtain ⟨d,c⟩:=q;unfold q6y;simp only at b a ⊢;rw [qqj _ _ b,qo];by_cases e1 : N = d
  · rw [Q6 e1,Q4,qqi _ _ a];by_cases f : E = c <;> simp [e1,f]
  · rw [Q9 e1];simp [e1]
theorem qlx (p q : Qz) (c : p.Nodes.length≤1000000) (d : p.Edges.length≤1000000) : q5v p q = some (decide (p = q)):=by
  obtain ⟨N,E⟩:=p;obtain ⟨a,b⟩:=q;unfold q5v;simp only at c d ⊢;by_cases g : N.length = a.length
  · by_cases j : E.length = b.length
    · have e1 : ((N.length : Int) != (a.length : Int)) = false:=by rw [g];simp
      have l : ((E.length : Int) != (b.length : Int)) = false:=by rw [j];simp
      have f1 : loop (q5w {Nodes:=N,Edges:=E} {Nodes:=a,Edges:=b}) 0 = some (if N = a then .inl () else .inr false):=by
        refine q3m g c (fun k c d=>?_) ?_
        · simp only [q5w,dlt' c,Q4,Qw c,Qw d,qo,beqP];by_cases e : N[k] = a[k] <;> simp [e]
        · simp only [q5w,dnl',qz]
      have m : loop (q5x {Nodes:=N,Edges:=E} {Nodes:=a,Edges:=b}) 0 = some (if E = b then .inl () else .inr false):=by
        refine q3m j d (fun k c d=>?_) ?_
        · simp only [q5x,dlt' c,Q4,Qw c,Qw d,qo,beqG];by_cases e : E[k] = b[k] <;> simp [e]
        · simp only [q5x,dnl',qz]
      rw [e1,qz,l,qo,qz,f1,m];by_cases f : N = a <;> by_cases n : E = b <;> simp [f,n]
    · have e1 : ((N.length : Int) != (a.length : Int)) = false:=by rw [g];simp
      have l : ((E.length : Int) != (b.length : Int)) = true:=by simp;omega
      have f : ¬ E = b:=fun h=>j (by rw [h]);rw [e1,qz,l,qo,Q4];simp [f]
  · have e1 : ((N.length : Int) != (a.length : Int)) = true:=by simp;omega
    have f : ¬ N = a:=fun h=>g (by rw [h]);rw [e1,Q4,qo,Q4];simp [f]
end Go.Sh
namespace Go.Sh
open Go Go.Am
open Classical
noncomputable def q22 (n : Qz) (e : qm) : Qb:={A:=(n.Nodes[e.A.toNat]?).getD default,B:=(n.Nodes[e.B.toNat]?).getD default}
def eOk (n : Qz) (e : qm) : Prop:=(0≤e.A∧e.A < n.Nodes.length)∧(0≤e.B∧e.B < n.Nodes.length)∧SegV (q22 n e)
noncomputable def q3k (n : Qz) : List Qb × Bool:=if ∀ e∈n.Edges,eOk n e then (n.Edges.map (q22 n),true) else ([],false)
theorem qc3 {N : List qf} {a : Int} (h : 0≤a∧a < N.length) : idx N a = some ((N[a.toNat]?).getD default):=by
  rw [q58 (k:=a.toNat) q8 q8,List.getElem?_eq_getElem q8];rfl
theorem qbt (n : Qz) (r : n.Edges.length≤1000) : q4p n = some (q3k n):=by
  have:=Ku (f:=Uk n) (σ:=List Qb) (fun k c=>((k : Int),c)) n.Edges.length (fun k c=>(∀ i (h : i < n.Edges.length),i < k→eOk n n.Edges[i])∧c = (n.Edges.take k).map (q22 n)) (fun o=>o = if ∀ e∈n.Edges,eOk n e then .inl (n.Edges.map (q22 n)) else .inr ([],false)) ?_ ?_ (k0:=0) (c0:=[]) q8 ⟨fun i h q=>q8,rfl⟩
  · obtain ⟨o,e,l⟩:=this;have e : loop (Uk n) (0,[]) = some o:=e;unfold q4p q3k;rw [e,l];by_cases h : ∀ e∈n.Edges,eOk n e
    · simp only [Q0 h];rfl
    · simp only [Q1 h];rfl
  · rintro k c hk ⟨g,rfl⟩;have hb : decide ((k : Int) < (n.Edges.length : Int)) = true:=Q6 q8
    have bad : ¬ eOk n n.Edges[k]→(Sum.inr ([],false) : List Qb ⊕ (List Qb × Bool)) = if ∀ e∈n.Edges,eOk n e then .inl (n.Edges.map (q22 n)) else .inr ([],false):=fun h=>by
      rw [Q1 (fun m=>h (m _ (Kr hk)))]
    by_cases a : (0≤n.Edges[k].A∧n.Edges[k].A < n.Nodes.length)∧(0≤n.Edges[k].B∧n.Edges[k].B < n.Nodes.length)
    · have d : (cond (decide ((min n.Edges[k].A n.Edges[k].B) < 0)) (some true) (some (decide ((max n.Edges[k].A n.Edges[k].B) ≥ (n.Nodes.length : Int))))) = some false:=by
        rw [Q9 q8,qz,Q9 q8]
      have hs : ({A:=(n.Nodes[(n.Edges[k].A).toNat]?).getD default,B:=(n.Nodes[(n.Edges[k].B).toNat]?).getD default} : Qb) = q22 n n.Edges[k]:=rfl;by_cases b : SegV (q22 n n.Edges[k])
      · refine .inl ⟨(n.Edges.take (k + 1)).map (q22 n),?_,fun i hi j=>?_,rfl⟩
        · simp only [Uk,hb,Q4,Qw hk,qo,d,qz,qc3 a.1,qc3 a.2,hs,qgk,Q6 b,Bool.not_true];rw [Ye (by simp;omega),qo,Qd q8,List.take_succ_eq_append_getElem hk,List.map_append];rfl
        · by_cases e : i = k
          · subst e;exact ⟨a.1,a.2,b⟩
          · exact g i hi q8
      · refine .inr ⟨_,?_,bad fun h=>b h.2.2⟩;simp only [Uk,hb,Q4,Qw hk,qo,d,qz,qc3 a.1,qc3 a.2,hs,qgk,Q9 b,Bool.not_false]
    · have d : (cond (decide ((min n.Edges[k].A n.Edges[k].B) < 0)) (some true) (some (decide ((max n.Edges[k].A n.Edges[k].B) ≥ (n.Nodes.length : Int))))) = some true:=by
        by_cases h : min n.Edges[k].A n.Edges[k].B < 0
        · rw [Q6 h];rfl
        · rw [Q9 h,qz,Q6 q8]
      refine .inr ⟨_,?_,bad fun h=>a ⟨h.1,h.2.1⟩⟩;simp only [Uk,hb,Q4,Qw hk,qo,d]
  · rintro c ⟨g,rfl⟩;have hb : decide ((n.Edges.length : Int) < (n.Edges.length : Int)) = false:=Q9 q8;refine ⟨.inl _,by simp only [Uk,hb,qz];rfl,?_⟩;rw [Q0,List.take_length];intro e p;obtain ⟨i,hi,rfl⟩:=List.mem_iff_getElem.1 p;exact g i hi hi
theorem qli (n : Qz) (g : n.Edges.length≤1000) : q5y n = some (q3k n):=by
  have e : q8b n = Uk n:=by
    funext a;simp only [q8b,Uk,qgk,qxj];congr 1;congr 1;funext v
    have j : ((cond (decide (v.A < 0)) (some true) (some (decide (v.A ≥ (n.Nodes.length : Int))))).bind fun c=>(cond c (some true) (some (decide (v.B < 0)))).bind fun b=>(cond b (some true) (some (decide (v.B ≥ (n.Nodes.length : Int)))))) = (cond (decide ((min v.A v.B) < 0)) (some true) (some (decide ((max v.A v.B) ≥ (n.Nodes.length : Int))))):=by
      by_cases d : v.A < 0 <;> by_cases f : v.A ≥ (n.Nodes.length : Int) <;> by_cases b1 : v.B < 0 <;> by_cases b2 : v.B ≥ (n.Nodes.length : Int)
      all_goals
        simp only [d,f,b1,b2,decide_true,decide_false,Q4,qz,qo]
        symm
        by_cases h : min v.A v.B < 0
        · first | (rw [Q6 h,Q4];done) | omega
        · rw [Q9 h,qz]
          congr 1
          first | exact Q6 q8 | exact Q9 q8 | omega
    rw [← j];simp only [Option.bind_assoc]
  rw [← qbt n g];unfold q5y q4p;rw [e]
end Go.Sh
namespace Go.Sh
open Go Go.Am
open Classical
structure q2c (n : Qz) (l : List Qb) : Prop where
  drawn : q3k n = (l,true)
  len : l.length = n.Edges.length
  le : n.Edges.length≤400
  val : ∀ s∈l,SegV s
  net : q4y (rowP l) (colP l) n
theorem qpd {n : Qz} {l : List Qb} (h : q3k n = (l,true)) : l = n.Edges.map (q22 n)∧∀ e∈n.Edges,eOk n e:=by
  unfold q3k at h;split at h
  · rename_i a;cases h;exact ⟨rfl,a⟩
  · cases h
def Fit (n : Qz) : Prop:=(n.Nodes.length≤100000∧n.Edges.length≤1000)∧(n.Edges.length≤400∨400 < n.Nodes.length∨800 < n.Edges.length)
theorem qxm {n : Qz} (q : Fit n) : ∃ c,Uj n = some c∧Uf n = some c∧((c = 0∧∃ l,q2c n l)∨c = 4∨c = 8):=by
  obtain ⟨⟨f1,o⟩,u⟩:=q;unfold Uj Uf;by_cases k : 400 < n.Nodes.length∨800 < n.Edges.length
  · have e : (cond (decide ((n.Nodes.length : Int) > 400)) (some true) (some (decide ((n.Edges.length : Int) > 800)))) = some true:=by
      by_cases h : (n.Nodes.length : Int) > 400
      · rw [Q6 h];rfl
      · rw [Q9 h,qz,Q6 q8]
    rw [e];exact ⟨4,rfl,rfl,.inr (.inl rfl)⟩
  · have e : (cond (decide ((n.Nodes.length : Int) > 400)) (some true) (some (decide ((n.Edges.length : Int) > 800)))) = some false:=by
      rw [Q9 q8,qz,Q9 q8]
    have p : n.Edges.length≤400:=by omega
    rw [e,qo,qz,qbt n o,qo,qo,qz,qli n o,qo]
    cases hd : q3k n with
    | mk l b=>
      cases b with
      | false=>exact ⟨8,rfl,rfl,.inr (.inr rfl)⟩
      | true=>
        obtain ⟨j,r⟩:=qpd hd
        have a : ∀ s∈l,SegV s:=by
          subst j;intro s hs;obtain ⟨e,t,rfl⟩:=List.mem_map.1 hs;exact (r e t).2.2
        have d : l.length = n.Edges.length:=by rw [j];simp
        simp only [Bool.not_true,qz];rw [← qsq q8 a];rcases qfc q8 a with ⟨m,e1,f⟩ | ⟨e1,f⟩
        · rw [e1];have:=f.nlen;have:=f.elen;simp only [qo,Bool.not_true,qz,qg5 m n q8 q8,qlx m n q8 q8];by_cases g : m = n
          · subst g;rw [Q6 rfl];exact ⟨0,rfl,rfl,.inl ⟨rfl,l,hd,d,p,a,f⟩⟩
          · rw [Q9 g];exact ⟨8,rfl,rfl,.inr (.inr rfl)⟩
        · rw [e1];exact ⟨8,rfl,rfl,.inr (.inr rfl)⟩
theorem q8d {n : Qz} (a : Fit n) : ∃ l c,q28 n = some (l,c)∧q2q n = some (l,c)∧Uj n = some c∧Uf n = some c∧((c = 0∧q2c n l)∨((c = 4∨c = 8)∧l = [])):=by
  obtain ⟨c,e1,d,h⟩:=qxm a;unfold q28 q2q;rw [e1,d];rcases h with ⟨rfl,l,b⟩ | h
  · refine ⟨l,0,?_,?_,rfl,rfl,.inl ⟨rfl,b⟩⟩
    · simp only [qo];rw [qbt n a.1.2,b.drawn];rfl
    · simp only [qo];rw [qli n a.1.2,b.drawn];rfl
  · have : (c != 0) = true:=by rcases h with rfl | rfl <;> rfl
    refine ⟨[],c,?_,?_,rfl,rfl,.inr ⟨h,rfl⟩⟩
    · simp only [qo,this,Q4]
    · simp only [qo,this,Q4]
end Go.Sh
namespace Go.Sh
open Go Go.Am
open Classical
def q2n (s : Qb) (p : qf) : Prop:=(min s.A.X s.B.X≤p.X∧p.X≤max s.A.X s.B.X)∧min s.A.Y s.B.Y≤p.Y∧p.Y≤max s.A.Y s.B.Y
theorem qkl (s : Qb) (p : qf) : q71 s p = some (decide (q2n s p)):=by
  unfold q71;by_cases h : q2n s p
  · rw [Q6 h];obtain ⟨⟨c,a⟩,d,b⟩:=h;rw [Q6 c,Q4,Q6 a,Q6 d,Q6 b];rfl
  · rw [Q9 h];unfold q2n at h;by_cases c : min s.A.X s.B.X≤p.X <;> by_cases a : p.X≤max s.A.X s.B.X <;> by_cases d : min s.A.Y s.B.Y≤p.Y <;> by_cases b : p.Y≤max s.A.Y s.B.Y
    all_goals first | (exfalso;exact h ⟨⟨c,a⟩,d,b⟩) | (simp only [c,a,d,b,decide_true,decide_false,Q4,qz,qo])
theorem qlh (s : Qb) (p : qf) : qcv s p = some (decide (q2n s p)):=qkl s p
theorem qyo (l : List Qb) (p : Qb→Option Bool) (c : Qb→Bool) (h : ∀ t,p t = some (c t)) (n : l.length≤1000000) : q65 l p = some (l.any c):=by
  have:=Ku (f:=q31 l p) (σ:=Unit) (fun k _=>(k : Int)) l.length (fun k _=>∀ i (hi : i < l.length),i < k→c l[i] = false) (fun o=>(∃ k : Nat,o = .inr (k : Int)∧l.any c = true)∨(o = .inl ()∧l.any c = false)) ?_ ?_ (k0:=0) (c0:=()) q8 (fun i hi h=>q8)
  · obtain ⟨o,e,g⟩:=this;have e : loop (q31 l p) 0 = some o:=e;unfold q65 qd3;rw [e];rcases g with ⟨k,rfl,d⟩ | ⟨rfl,d⟩
    · simp only [qo,d];rw [Q6 (show (k : Int) ≥ 0 by omega)]
    · simp only [qo,d];rfl
  · rintro k _ hk b
    cases a : c l[k] with
    | true=>
      refine .inr ⟨.inr (k : Int),?_,.inl ⟨k,rfl,List.any_eq_true.2 ⟨_,Kr hk,a⟩⟩⟩;simp only [q31,dlt' hk,Q4,Qw hk,qo,h,a]
    | false=>
      refine .inl ⟨(),?_,fun i hi m=>?_⟩
      · simp only [q31,dlt' hk,Q4,Qw hk,qo,h,a,qz];rw [Qd q8];rfl
      · by_cases e : i = k
        · subst e;exact a
        · exact b i hi q8
  · rintro _ b;refine ⟨.inl (),by simp only [q31,dnl',qz],.inr ⟨rfl,List.any_eq_false.2 fun x j=>?_⟩⟩;obtain ⟨i,hi,rfl⟩:=List.mem_iff_getElem.1 j;rw [b i hi hi];simp
noncomputable def q51 (l : List Qb) (p : qf) : Bool:=l.any fun s=>decide (q2n s p)
theorem qwk (l : List Qb) (c : Int) (p : qf) (m : l.length≤1000000) : loop (q1z (l,c) p) 0 = some (if q51 l p = true then .inr (true,0) else .inl ()):=by
  have:=Ku (f:=q1z (l,c) p) (σ:=Unit) (fun k _=>(k : Int)) l.length (fun k _=>∀ i (hi : i < l.length),i < k→¬ q2n l[i] p) (fun o=>o = if q51 l p = true then .inr (true,0) else .inl ()) ?_ ?_ (k0:=0) (c0:=()) q8 (fun i hi h=>q8)
  · obtain ⟨o,e,rfl⟩:=this;exact e
  · rintro k _ hk b;by_cases a : q2n l[k] p
    · refine .inr ⟨.inr (true,0),?_,?_⟩
      · simp only [q1z,dlt' hk,Q4,Qw hk,qo,qlh,Q6 a]
      · have : q51 l p = true:=List.any_eq_true.2 ⟨_,Kr hk,Q6 a⟩;rw [Q0 this]
    · refine .inl ⟨(),?_,fun i hi j=>?_⟩
      · simp only [q1z,dlt' hk,Q4,Qw hk,qo,qlh,Q9 a,qz];rw [Qd q8];rfl
      · by_cases e : i = k
        · subst e;exact a
        · exact b i hi q8
  · rintro _ b;refine ⟨.inl (),by simp only [q1z,dnl',qz],?_⟩;rw [Q1];intro h;obtain ⟨x,g,d⟩:=List.any_eq_true.1 h;obtain ⟨i,hi,rfl⟩:=List.mem_iff_getElem.1 g;exact b i hi hi (of_decide_eq_true d)
theorem q2c.len400 {n : Qz} {l : List Qb} (h : q2c n l) : l.length≤400:=by have:=h.len;have:=h.le;omega
theorem qes {n : Qz} (o : Fit n) (p : qf) : ∃ b c,qav n p = some (b,c)∧q88 n p = some (b,c)∧Uj n = some c∧(∀ l,q2c n l→b = q51 l p∧c = 0):=by
  obtain ⟨l,c,e1,r,d,_,h⟩:=q8d o;unfold qav q88;rw [e1,r];rcases h with ⟨rfl,hs⟩ | ⟨h,rfl⟩
  · have v:=hs.len400;refine ⟨q51 l p,0,?_,?_,d,fun l' a=>⟨?_,rfl⟩⟩
    · simp only [qo];show (q65 l fun k=>qaw k p).bind (fun q=>some (q,0)) = _;rw [qyo l _ (fun s=>decide (q2n s p)) (fun t=>by show (q71 t p).bind _ = _;rw [qkl];rfl) q8];rfl
    · simp only [qo];show (loop (q1z (l,0) p) 0).bind _ = _;rw [qwk l 0 p q8];cases q51 l p <;> rfl
    · have:=hs.drawn;have:=a.drawn;simp_all
  · have j : (c != 0) = true:=by rcases h with rfl | rfl <;> rfl
    refine ⟨false,c,?_,?_,d,fun l' a=>?_⟩
    · simp only [qo,j,Q4]
    · simp only [qo,j,Q4]
    · exfalso;unfold Uj at d;have w:=a.net.nlen;have u:=a.net.elen;rw [Q9 (show ¬ (n.Nodes.length : Int) > 400 by omega),qz,Q9 (show ¬ (n.Edges.length : Int) > 800 by omega),qo,qz,qbt n q8,qo,a.drawn] at d;simp only [Bool.not_true,qz] at d;rcases qfc a.len400 a.val with ⟨m,g,f⟩ | ⟨g,f⟩
      · have:=f.uniq a.net;subst this;rw [g] at d;simp only [qo,Bool.not_true,qz,qg5 m m q8 q8,decide_true] at d;have : c = 0:=(J6 (show some (0 : Int) = some c from d)).symm;rcases h with rfl | rfl <;> cases this
      · have:=f.not a.net.nodes;omega
theorem qrx {l : List Qb} (d : ∀ s∈l,SegV s) (c : Int) : q1e (l,c) = q5t (l,c):=by
  funext a;unfold q1e q5t;congr 1
  cases h : idx l a.2 with
  | none=>rfl
  | some v=>
    have b : v∈l:=by
      unfold idx at h;split at h
      · exact List.mem_of_getElem? h
      · cases h
    obtain ⟨⟨g,j,m,f⟩,⟨b1,b2,n,k⟩,_⟩:=d v b;simp only [qo,qcu]
    have e : (w64 ((w64 ((w64 ((max v.A.X v.B.X) - (min v.A.X v.B.X))) + (max v.A.Y v.B.Y))) - (min v.A.Y v.B.Y))) = w64 ((max (w64 (v.A.X - v.B.X)) (w64 (v.B.X - v.A.X))) + (max (w64 (v.A.Y - v.B.Y)) (w64 (v.B.Y - v.A.Y)))):=by
      rw [Qd (x:=(max v.A.X v.B.X) - (min v.A.X v.B.X)) q8,Qd (x:=v.A.X - v.B.X) q8,Qd (x:=v.B.X - v.A.X) q8,Qd (x:=v.A.Y - v.B.Y) q8,Qd (x:=v.B.Y - v.A.Y) q8];rw [Qd (x:=(max v.A.X v.B.X) - (min v.A.X v.B.X) + max v.A.Y v.B.Y) q8,Qd q8,Qd q8];omega
    rw [e]
end Go.Sh
namespace Go.Sh
open Go Go.Am
open Classical
def q64 (s : Qb) : Int:=(max s.A.X s.B.X - min s.A.X s.B.X) + (max s.A.Y s.B.Y - min s.A.Y s.B.Y)
def Yx : List Qb→Int
  | []=>0
  | s::l=>q64 s + Yx l
theorem qrt (a b : List Qb) : Yx (a ++ b) = Yx a + Yx b:=by
  induction a with
  | nil=>simp [Yx]
  | cons s a ih=>simp only [List.cons_append,Yx,ih];omega
theorem qm2 {s : Qb} (h : SegV s) : 0≤q64 s∧q64 s≤4000000:=by
  obtain ⟨⟨b,c,f,a⟩,⟨b1,b2,g,d⟩,_⟩:=h;unfold q64;omega
theorem qjg : ∀ {l : List Qb},(∀ s∈l,SegV s)→0≤Yx l∧Yx l≤4000000 * (l.length : Int)
  | [],_=>by simp [Yx]
  | s::l,h=>by
    have:=qm2 (h s qe)
    have:=qjg (l:=l) fun t a=>h t (by simp [a])
    simp only [Yx,List.length_cons];omega
theorem qrv {l : List Qb} (g : ∀ s∈l,SegV s) (o : l.length≤1000) (c : Int) : loop (q1e (l,c)) (0,0) = some (Yx l):=by
  have:=Ku (f:=q1e (l,c)) (σ:=Int) (fun k a=>(a,(k : Int))) l.length (fun k a=>a = Yx (l.take k)) (fun a=>a = Yx l) ?_ ?_ (k0:=0) (c0:=0) q8 (by simp [Yx])
  · obtain ⟨b,j,rfl⟩:=this;exact j
  · rintro k a hk rfl;refine .inl ⟨Yx (l.take (k + 1)),?_,rfl⟩;have hb:=qjg (l:=l.take k) fun s hs=>g s (List.mem_of_mem_take hs);have h:=qm2 (g _ (Kr hk));obtain ⟨⟨r,t,u,n⟩,⟨b1,b2,q,p⟩,_⟩:=g _ (Kr hk);have d : (l.take k).length = k:=by simp;omega
    rw [d] at hb
    have e1 : Yx (l.take (k + 1)) = Yx (l.take k) + q64 l[k]:=by
      rw [List.take_succ_eq_append_getElem hk,qrt];simp [Yx]
    have m : w64 ((max l[k].A.X l[k].B.X) - (min l[k].A.X l[k].B.X)) = (max l[k].A.X l[k].B.X) - (min l[k].A.X l[k].B.X):=Qd q8;simp only [q1e,dlt' hk,Q4,Qw hk,qo,m];rw [Qd (x:=(max l[k].A.X l[k].B.X) - (min l[k].A.X l[k].B.X) + max l[k].A.Y l[k].B.Y) q8,Qd (x:=(max l[k].A.X l[k].B.X) - (min l[k].A.X l[k].B.X) + max l[k].A.Y l[k].B.Y - min l[k].A.Y l[k].B.Y) q8];unfold q64 at h e1;rw [Qd (x:=Yx (l.take k) + _) q8,Qd q8,e1];congr 3;omega
  · rintro a rfl;exact ⟨_,by simp only [q1e,dnl',qz];rfl,by rw [List.take_length]⟩
theorem qry {n : Qz} (m : Fit n) : ∃ a c,qax n = some (a,c)∧q89 n = some (a,c)∧Uj n = some c∧(∀ l,q2c n l→a = Yx l):=by
  obtain ⟨l,c,e1,p,f,_,h⟩:=q8d m;unfold qax q89;rw [e1,p];rcases h with ⟨rfl,hs⟩ | ⟨h,rfl⟩
  · have s:=hs.len400;have j:=qrv hs.val q8 0;have o:=j;rw [qrx hs.val 0] at o;refine ⟨Yx l,0,?_,?_,f,fun l' d=>?_⟩
    · simp only [qo];show (loop (q1e (l,0)) (0,0)).bind _ = _;rw [j];rfl
    · simp only [qo];show (loop (q5t (l,0)) (0,0)).bind _ = _;rw [o];rfl
    · have:=hs.drawn;have:=d.drawn;simp_all
  · have g : (c != 0) = true:=by rcases h with rfl | rfl <;> rfl
    refine ⟨0,c,?_,?_,f,fun l' d=>?_⟩
    · simp only [qo,g,Q4]
    · simp only [qo,g,Q4]
    · obtain ⟨b,r,_,_,k,q⟩:=qes m {X:=0,Y:=0};rw [f] at k;have:=(q l' d).2;cases k;subst this;exact absurd g Q7
section
variable {F G : Int→Int→Prop} {N : List qf}
theorem qxd (k : Yu F G N) (hb : ∀ y x,F y x→x≤1000000) {i : Nat} (hi : i < N.length) (c : F N[i].Y N[i].X) : ∃ j,∃ h : j < N.length,i < j∧N[j].Y = N[i].Y:=by
  refine Classical.byContradiction fun a=>?_
  have step : ∀ x,N[i].X < x→(F N[i].Y x↔F N[i].Y (x - 1)):=by
    intro x l;refine qfg (G:=G) fun b=>a ?_;obtain ⟨m,d,g⟩:=List.mem_iff_getElem.1 ((k.mem {X:=x,Y:=N[i].Y}).2 b);have ex : N[m].X = x:=by rw [g]
    have o : N[m].Y = N[i].Y:=by rw [g]
    exact ⟨m,d,q27 k.srt hi d (by unfold ltP;omega),o⟩
  have l:=hb _ _ c;obtain ⟨n,b⟩ : ∃ n : Nat,N[i].X + (n : Int) = 1000001:=⟨(1000001 - N[i].X).toNat,q8⟩
  have:=q3r (f:=F N[i].Y) (lo:=N[i].X) n fun x p q=>step x p;rw [b] at this;have:=hb _ _ (this.1 c);omega
theorem qou (k : Yu F G N) (hb : ∀ x y,G x y→y≤1000000) {i : Nat} (hi : i < N.length) (c : G N[i].X N[i].Y) : ∃ j,∃ h : j < N.length,i < j∧N[j].X = N[i].X:=by
  refine Classical.byContradiction fun a=>?_
  have step : ∀ y,N[i].Y < y→(G N[i].X y↔G N[i].X (y - 1)):=by
    intro y p;refine qff (F:=F) fun b=>a ?_;obtain ⟨m,d,g⟩:=List.mem_iff_getElem.1 ((k.mem {X:=N[i].X,Y:=y}).2 b);have ex : N[m].X = N[i].X:=by rw [g]
    have r : N[m].Y = y:=by rw [g]
    exact ⟨m,d,q27 k.srt hi d (by unfold ltP;omega),ex⟩
  have q:=hb _ _ c;obtain ⟨n,b⟩ : ∃ n : Nat,N[i].Y + (n : Int) = 1000001:=⟨(1000001 - N[i].Y).toNat,q8⟩
  have:=q3r (f:=G N[i].X) (lo:=N[i].Y) n fun y l o=>step y l;rw [b] at this;have:=hb _ _ (this.1 c);omega
theorem qek {P : Nat→Prop} {a : Nat} : ∀ {n : Nat},(∃ j,a < j∧j < n∧P j)→∃ j,a < j∧j < n∧P j∧∀ m,a < m→m < j→¬ P m
  | 0,⟨j,_,h,_⟩=>by omega
  | n + 1,⟨j,h1,h,hp⟩=>by
    by_cases e : ∃ j,a < j∧j < n∧P j
    · obtain ⟨k,b,d,c⟩:=qek e
      exact ⟨k,b,q8,c⟩
    · have : j = n:=by
        refine Classical.byContradiction fun f=>e ⟨j,h1,q8,hp⟩
      subst this
      exact ⟨j,h1,q8,hp,fun m b d c=>e ⟨m,b,d,c⟩⟩
theorem qst (l : Yu F G N) (hb : ∀ y x,F y x→x≤1000000) {i : Nat} (hi : i < N.length) (c : F N[i].Y N[i].X) : ∃ k,Zb N i k:=by
  obtain ⟨j,h,b,r⟩:=qxd l hb hi c;obtain ⟨m,t,d,⟨o,f⟩,g⟩:=qek (P:=fun j=>∃ h : j < N.length,N[j].Y = N[i].Y) (a:=i) (n:=N.length) ⟨j,b,h,h,r⟩;exact ⟨m,t,o,fun _ _=>f,fun q _ p s u e=>g q s u ⟨p,e⟩⟩
theorem qss (l : Yu F G N) (hb : ∀ x y,G x y→y≤1000000) {i : Nat} (hi : i < N.length) (c : G N[i].X N[i].Y) : ∃ k,Za N i k:=by
  obtain ⟨j,h,b,r⟩:=qou l hb hi c;obtain ⟨m,t,d,⟨o,f⟩,g⟩:=qek (P:=fun j=>∃ h : j < N.length,N[j].X = N[i].X) (a:=i) (n:=N.length) ⟨j,b,h,h,r⟩;exact ⟨m,t,o,fun _ _=>f,fun q _ p s u e=>g q s u ⟨p,e⟩⟩
theorem Zb.fun' {i j k : Nat} (a : Zb N i j) (b : Zb N i k) : j = k:=by
  have hi : i < N.length:=by have:=a.lt;have:=a.hk;omega
  rcases Nat.lt_trichotomy j k with h | h | h
  · exact absurd (a.eq hi a.hk) (b.no j hi a.hk a.lt h)
  · exact h
  · exact absurd (b.eq hi b.hk) (a.no k hi b.hk b.lt h)
theorem Za.fun' {i j k : Nat} (a : Za N i j) (b : Za N i k) : j = k:=by
  have hi : i < N.length:=by have:=a.lt;have:=a.hk;omega
  rcases Nat.lt_trichotomy j k with h | h | h
  · exact absurd (a.eq hi a.hk) (b.no j hi a.hk a.lt h)
  · exact h
  · exact absurd (b.eq hi b.hk) (a.no k hi b.hk b.lt h)
def b2i (b : Bool) : Nat:=cond b 1 0
theorem qp7 (o : Yu F G N) {E : List qm} (w : q4u F G N E) (v : ∀ y x,F y x→-1000000≤x∧x≤1000000) (z : ∀ x y,G x y→-1000000≤y∧y≤1000000) {i : Nat} (hi : i < N.length) :
    (E.filter fun e=>decide (e.A = (i : Int)∨e.B = (i : Int))).length = b2i (decide (F N[i].Y N[i].X)) + b2i (decide (G N[i].X N[i].Y)) + b2i (decide (F N[i].Y (N[i].X - 1))) + b2i (decide (G N[i].X (N[i].Y - 1))):=by
  have l : ∀ y x,F y x→-1000000≤x:=fun y x h=>(v y x h).1;have m : ∀ x y,G x y→-1000000≤y:=fun x y h=>(z x y h).1;have t : E.Nodup:=w.srt.imp (by rintro a b h rfl;exact qjo a a h h)
  obtain ⟨q1,n1,r,l1⟩ : ∃ q : List qm,q.Nodup∧(∀ e,e∈q↔∃ k : Nat,e = {A:=(i : Int),B:=(k : Int)}∧Zb N i k∧F N[i].Y N[i].X)∧q.length = b2i (decide (F N[i].Y N[i].X)):=by
    by_cases h : F N[i].Y N[i].X
    · obtain ⟨k,hk⟩:=qst o (fun y x h=>(v y x h).2) hi h;refine ⟨[{A:=(i : Int),B:=(k : Int)}],qe,fun e=>?_,by rw [Q6 h];rfl⟩;rw [List.mem_singleton];constructor
      · rintro rfl;exact ⟨k,rfl,hk,h⟩
      · rintro ⟨n,rfl,g,_⟩;rw [g.fun' hk]
    · exact ⟨[],.nil,fun e=>⟨fun h=>(by cases h),fun ⟨_,_,_,h'⟩=>absurd h' h⟩,by rw [Q9 h];rfl⟩
  obtain ⟨q2,n2,p,l2⟩ : ∃ q : List qm,q.Nodup∧(∀ e,e∈q↔∃ k : Nat,e = {A:=(i : Int),B:=(k : Int)}∧Za N i k∧G N[i].X N[i].Y)∧q.length = b2i (decide (G N[i].X N[i].Y)):=by
    by_cases h : G N[i].X N[i].Y
    · obtain ⟨k,hk⟩:=qss o (fun y x h=>(z y x h).2) hi h;refine ⟨[{A:=(i : Int),B:=(k : Int)}],qe,fun e=>?_,by rw [Q6 h];rfl⟩;rw [List.mem_singleton];constructor
      · rintro rfl;exact ⟨k,rfl,hk,h⟩
      · rintro ⟨n,rfl,g,_⟩;rw [g.fun' hk]
    · exact ⟨[],.nil,fun e=>⟨fun h=>(by cases h),fun ⟨_,_,_,h'⟩=>absurd h' h⟩,by rw [Q9 h];rfl⟩
  obtain ⟨q3,n3,s,l3⟩ : ∃ q : List qm,q.Nodup∧(∀ e,e∈q↔∃ k : Nat,e = {A:=(k : Int),B:=(i : Int)}∧Zb N k i∧F N[i].Y (N[i].X - 1))∧q.length = b2i (decide (F N[i].Y (N[i].X - 1))):=by
    by_cases h : F N[i].Y (N[i].X - 1)
    · obtain ⟨k,hk⟩:=ql4 o l hi h;refine ⟨[{A:=(k : Int),B:=(i : Int)}],qe,fun e=>?_,by rw [Q6 h];rfl⟩;rw [List.mem_singleton];constructor
      · rintro rfl;exact ⟨k,rfl,hk,h⟩
      · rintro ⟨n,rfl,g,_⟩;rw [g.uniq hk]
    · exact ⟨[],.nil,fun e=>⟨fun h=>(by cases h),fun ⟨_,_,_,h'⟩=>absurd h' h⟩,by rw [Q9 h];rfl⟩
  obtain ⟨q4,n4,m4,l4⟩ : ∃ q : List qm,q.Nodup∧(∀ e,e∈q↔∃ k : Nat,e = {A:=(k : Int),B:=(i : Int)}∧Za N k i∧G N[i].X (N[i].Y - 1))∧q.length = b2i (decide (G N[i].X (N[i].Y - 1))):=by
    by_cases h : G N[i].X (N[i].Y - 1)
    · obtain ⟨k,hk⟩:=ql3 o m hi h;refine ⟨[{A:=(k : Int),B:=(i : Int)}],qe,fun e=>?_,by rw [Q6 h];rfl⟩;rw [List.mem_singleton];constructor
      · rintro rfl;exact ⟨k,rfl,hk,h⟩
      · rintro ⟨n,rfl,g,_⟩;rw [g.uniq hk]
    · exact ⟨[],.nil,fun e=>⟨fun h=>(by cases h),fun ⟨_,_,_,h'⟩=>absurd h' h⟩,by rw [Q9 h];rfl⟩
  have hp : (E.filter fun e=>decide (e.A = (i : Int)∨e.B = (i : Int))).Perm (q1 ++ q2 ++ q3 ++ q4):=by
    rw [List.perm_ext_iff_of_nodup (t.sublist List.filter_sublist) ?_]
    · intro e;simp only [List.mem_filter,decide_eq_true_eq,List.mem_append,r,p,s,m4,w.mem];constructor
      · rintro ⟨⟨a,b,rfl,j⟩,h | h⟩
        · simp only at h;obtain rfl : a = i:=by omega
          obtain ⟨_,⟨c,d⟩ | ⟨c,d⟩⟩:=j
          · exact .inl (.inl (.inr ⟨b,rfl,c,d⟩))
          · exact .inl (.inl (.inl ⟨b,rfl,c,d⟩))
        · simp only at h;obtain rfl : b = i:=by omega
          rcases (qc5 o l m hi a).1 j with ⟨c,d⟩ | ⟨c,d⟩
          · exact .inl (.inr ⟨a,rfl,c,d⟩)
          · exact .inr ⟨a,rfl,c,d⟩
      · rintro (((⟨k,rfl,c,d⟩ | ⟨k,rfl,c,d⟩) | ⟨k,rfl,c,d⟩) | ⟨k,rfl,c,d⟩)
        · exact ⟨⟨i,k,rfl,hi,.inr ⟨c,d⟩⟩,.inl rfl⟩
        · exact ⟨⟨i,k,rfl,hi,.inl ⟨c,d⟩⟩,.inl rfl⟩
        · exact ⟨⟨k,i,rfl,(qc5 o l m hi k).2 (.inl ⟨c,d⟩)⟩,.inr rfl⟩
        · exact ⟨⟨k,i,rfl,(qc5 o l m hi k).2 (.inr ⟨c,d⟩)⟩,.inr rfl⟩
    · have u : ∀ {a b : Nat},Za N a b→Zb N a b→False:=fun {a b} c d=>by
        have:=qka o.srt c d;omega
      rw [List.nodup_append,List.nodup_append,List.nodup_append];refine ⟨⟨⟨n1,n2,fun a f b hb e=>?_⟩,n3,fun a f b hb e=>?_⟩,n4,fun a f b hb e=>?_⟩
      · subst e;obtain ⟨k,rfl,c,_⟩:=(r _).1 f;obtain ⟨n,j,d,_⟩:=(p _).1 hb;simp only [qm.mk.injEq,true_and] at j;obtain rfl : k = n:=by omega
        exact u d c
      · subst e;obtain ⟨n,rfl,d,_⟩:=(s _).1 hb;have:=d.lt;rcases List.mem_append.1 f with f | f
        · obtain ⟨k,j,c,_⟩:=(r _).1 f;simp only [qm.mk.injEq] at j;omega
        · obtain ⟨k,j,c,_⟩:=(p _).1 f;simp only [qm.mk.injEq] at j;omega
      · subst e;obtain ⟨n,rfl,d,_⟩:=(m4 _).1 hb;have:=d.lt;rcases List.mem_append.1 f with f | f
        · rcases List.mem_append.1 f with f | f
          · obtain ⟨k,j,c,_⟩:=(r _).1 f;simp only [qm.mk.injEq] at j;omega
          · obtain ⟨k,j,c,_⟩:=(p _).1 f;simp only [qm.mk.injEq] at j;omega
        · obtain ⟨k,j,c,_⟩:=(s _).1 f;simp only [qm.mk.injEq,and_true] at j;obtain rfl : n = k:=by omega
          exact u d c
  rw [hp.length_eq];simp only [List.length_append,l1,l2,l3,l4]
end
end Go.Sh
namespace Go.Sh
open Go Go.Am
open Classical
def b2z (b : Bool) : Int:=cond b 1 0
theorem qbr (q : Bool × Bool × Bool × Bool) (acc : Int) (i : Nat) (hi : i < 4) (a : 0≤acc∧acc≤10) (b : Bool) (hb : idxA 4 [q.1,q.2.1,q.2.2.1,q.2.2.2] (i : Int) = some b) : q35 q (acc,(i : Int)) = some (.inl (acc + b2z b,((i + 1 : Nat) : Int))):=by
  unfold q35;simp only;rw [Q6 (show (i : Int) < 4 by omega),Q4,hb,qo,Qd (x:=(i : Int) + 1) q8];cases b
  · simp [b2z]
  · simp only [Q4,b2z];rw [Qd q8];rfl
theorem qp6 (a b c d : Bool) : loop (q35 (a,b,c,d)) (0,0) = some (b2z a + b2z b + b2z c + b2z d):=by
  have h : ∀ x : Bool,0≤b2z x∧b2z x≤1:=by intro x;cases x <;> simp [b2z]
  have f:=h a;have hb:=h b;have g:=h c;have hd:=h d;show loop (q35 (a,b,c,d)) (0,((0 : Nat) : Int)) = _;rw [Ya (qbr (a,b,c,d) 0 0 q8 q8 a rfl)];rw [Ya (qbr (a,b,c,d) _ 1 q8 q8 b rfl)];rw [Ya (qbr (a,b,c,d) _ 2 q8 q8 c rfl)];rw [Ya (qbr (a,b,c,d) _ 3 q8 q8 d rfl)];have : q35 (a,b,c,d) (0 + b2z a + b2z b + b2z c + b2z d,((3 + 1 : Nat) : Int)) = some (.inr (0 + b2z a + b2z b + b2z c + b2z d)):=rfl;rw [Y1 this];congr 1;omega
theorem qwl (n : Qz) (p : Int) (l : n.Edges.length≤1000000) : loop (q40 n p) (0,0) = some ((n.Edges.filter fun e=>decide (e.A = p∨e.B = p)).length : Int):=by
  have:=Ku (f:=q40 n p) (σ:=Int) (fun k a=>(a,(k : Int))) n.Edges.length (fun k a=>a = (((n.Edges.take k).filter fun e=>decide (e.A = p∨e.B = p)).length : Int)) (fun a=>a = ((n.Edges.filter fun e=>decide (e.A = p∨e.B = p)).length : Int)) ?_ ?_ (k0:=0) (c0:=0) q8 qe
  · obtain ⟨b,j,rfl⟩:=this;exact j
  · rintro k a hk rfl;have h:=List.length_filter_le (fun e : qm=>decide (e.A = p∨e.B = p)) (n.Edges.take k);have g : (n.Edges.take k).length = k:=by simp;omega
    refine .inl ⟨_,?_,rfl⟩
    have d : (cond (n.Edges[k].A == p) (some true) ((idx n.Edges (k : Int)).bind fun c=>some (c.B == p))) = some (decide (n.Edges[k].A = p∨n.Edges[k].B = p)):=by
      rw [Qw hk,beqI];by_cases e1 : n.Edges[k].A = p
      · simp [e1]
      · rw [Q9 e1,qz,qo,beqI];simp [e1]
    simp only [Qw hk,qo] at d;simp only [q40,dlt' hk,Q4,Qw hk,qo,d];rw [Qd (x:=(k : Int) + 1) q8,List.take_succ_eq_append_getElem hk,List.filter_append];by_cases e : n.Edges[k].A = p∨n.Edges[k].B = p
    · rw [Q6 e,Q4,Qd q8];simp [e]
    · rw [Q9 e,qz];simp [e]
  · rintro a rfl;exact ⟨_,by simp only [q40,dnl',qz];rfl,by rw [List.take_length]⟩
noncomputable def degN (l : List Qb) (p : qf) : Int:=b2z (decide (rowP l p.Y p.X)) + b2z (decide (colP l p.X p.Y)) + b2z (decide (rowP l p.Y (p.X - 1))) + b2z (decide (colP l p.X (p.Y - 1)))
theorem b2 (b : Bool) : ((b2i b : Nat) : Int) = b2z b:=by cases b <;> rfl
theorem qxc {l : List Qb} (a : ∀ s∈l,SegV s) (c : l.length≤400) : (∀ y x,rowP l y x→-1000000≤x∧x≤1000000)∧∀ x y,colP l x y→-1000000≤y∧y≤1000000:=by
  obtain ⟨r,_,d,b⟩:=qe5 c a;exact ⟨fun y x h=>by have:=d.bnd h;omega,fun x y h=>by have:=b.bnd h;omega⟩
theorem qzy {n : Qz} {l : List Qb} (d : Fit n) (hs : q2c n l) : Uj n = some 0∧q28 n = some (l,0)∧q2q n = some (l,0)∧Uf n = some 0:=by
  obtain ⟨b,c,_,_,f,h⟩:=qes d {X:=0,Y:=0};obtain ⟨l',q,k,m,g,j,o⟩:=q8d d;have p:=(h l hs).2;subst p;rw [f] at g;cases g;rcases o with ⟨_,a⟩ | ⟨a,_⟩
  · have e:=a.drawn;rw [hs.drawn] at e;cases e;exact ⟨f,k,m,j⟩
  · rcases a with a | a <;> cases a
theorem qp9 {n : Qz} {l : List Qb} (d : Fit n) (hs : q2c n l) {i : Nat} (hi : i < n.Nodes.length) : q34 n (i : Int) = some (degN l n.Nodes[i],0)∧q2p n (i : Int) = some (degN l n.Nodes[i],0):=by
  obtain ⟨c1,c2,c3,c4⟩:=qzy d hs;obtain ⟨r,e1,g,f⟩:=qe5 hs.len400 hs.val;have b : PtB n.Nodes[i]:=qck g f ((hs.net.nodes.mem _).1 (Kr hi))
  have h : (cond (decide ((i : Int) < 0)) (some true) (some (decide ((i : Int) ≥ (n.Nodes.length : Int))))) = some false:=by
    rw [Q9 q8,qz,Q9 q8]
  obtain ⟨b1,a⟩:=qxc hs.val hs.len400;have c:=qp7 hs.net.nodes hs.net.edges b1 a hi;constructor
  · unfold q34;rw [c2,qo];have e0 : ((0 : Int) != 0) = false:=rfl;rw [e0,qz,h,qo,qz,e1,qo,Qw hi,qo,qdo g f b,qo];unfold arB;rw [qp6];rfl
  · unfold q2p;rw [c4,qo];have e0 : ((0 : Int) != 0) = false:=rfl;rw [e0,qz,h,qo,qz,qwl n _ (by have:=d.1.2;omega),qo,c];congr 2;unfold degN;rw [← b2,← b2,← b2,← b2];omega
theorem qp8 {n : Qz} (f : Fit n) (p : Int) : ∃ a c,q34 n p = some (a,c)∧q2p n p = some (a,c):=by
  obtain ⟨l,c,g,k,m,d,j⟩:=q8d f;rcases j with ⟨rfl,hs⟩ | ⟨h,rfl⟩
  · by_cases hp : 0≤p∧p < n.Nodes.length
    · obtain ⟨i,rfl⟩ : ∃ i : Nat,p = i:=⟨p.toNat,q8⟩
      have:=qp9 f hs (i:=i) q8;exact ⟨_,_,this.1,this.2⟩
    · have b : (cond (decide (p < 0)) (some true) (some (decide (p ≥ (n.Nodes.length : Int))))) = some true:=by
        by_cases h : p < 0
        · rw [Q6 h];rfl
        · rw [Q9 h,qz,Q6 q8]
      refine ⟨0,6,?_,?_⟩
      · unfold q34;rw [g,qo];have e0 : ((0 : Int) != 0) = false:=rfl;rw [e0,qz,b];rfl
      · unfold q2p;rw [d,qo];have e0 : ((0 : Int) != 0) = false:=rfl;rw [e0,qz,b];rfl
  · have b : (c != 0) = true:=by rcases h with rfl | rfl <;> rfl
    refine ⟨0,c,?_,?_⟩
    · unfold q34;rw [g,qo,b,Q4]
    · unfold q2p;rw [d,qo,b,Q4];rfl
theorem qiw (n : Qz) : ∃ b,q5s n = some b∧(b = false→Fit n):=by
  unfold q5s;by_cases c : 400 < n.Nodes.length∨800 < n.Edges.length
  · have e : (cond (decide ((n.Nodes.length : Int) > 400)) (some true) (some (decide ((n.Edges.length : Int) > 800)))) = some true:=by
      by_cases h : (n.Nodes.length : Int) > 400
      · rw [Q6 h];rfl
      · rw [Q9 h,qz,Q6 q8]
    rw [e,qo,Q4];by_cases h : (n.Nodes.length : Int) > 420
    · rw [Q6 h];exact ⟨true,rfl,fun h=>by cases h⟩
    · by_cases a : (n.Edges.length : Int) > 820
      · rw [Q9 h,qz,Q6 a];exact ⟨true,rfl,fun h=>by cases h⟩
      · rw [Q9 h,qz,Q9 a];exact ⟨false,rfl,fun _=>⟨⟨q8,q8⟩,q8⟩⟩
  · have e : (cond (decide ((n.Nodes.length : Int) > 400)) (some true) (some (decide ((n.Edges.length : Int) > 800)))) = some false:=by
      rw [Q9 q8,qz,Q9 q8]
    rw [e,qo,qz];by_cases h : (n.Nodes.length : Int) > 40
    · rw [Q6 h];exact ⟨true,rfl,fun h=>by cases h⟩
    · by_cases a : (n.Edges.length : Int) > 60
      · rw [Q9 h,qz,Q6 a];exact ⟨true,rfl,fun h=>by cases h⟩
      · rw [Q9 h,qz,Q9 a];exact ⟨false,rfl,fun _=>⟨⟨q8,q8⟩,q8⟩⟩
theorem qnm (l : List Qb) (c d : Int) (g : l.length≤1000000) : loop (q3q (l,c) (l,d)) 0 = some (.inl ()):=by
  have:=Ku (f:=q3q (l,c) (l,d)) (σ:=Unit) (fun k _=>(k : Int)) l.length (fun _ _=>True) (fun o=>o = .inl ()) ?_ ?_ (k0:=0) (c0:=()) q8 trivial
  · obtain ⟨b,a,rfl⟩:=this;exact a
  · rintro k _ hk _;refine .inl ⟨(),?_,trivial⟩;simp only [q3q,dlt' hk,Q4,Qw hk,qo,beq_self_eq_true,Bool.and_self,Bool.not_true,qz];rw [Qd q8];rfl
  · rintro _ _;exact ⟨_,by simp only [q3q,dnl',qz],rfl⟩
theorem q11t (n m : Qz) (p : qf) (i : Int) : qc8 n m p i = some true:=by
  obtain ⟨b1,e1,f1⟩:=qiw n;obtain ⟨b2,u,w⟩:=qiw m;unfold qc8;rw [e1,qo]
  cases b1 with
  | true=>rfl
  | false=>
    rw [qz,u]
    cases b2 with
    | true=>rfl
    | false=>
      have a:=f1 rfl;obtain ⟨l,c,d,j,v,b,o⟩:=q8d a;obtain ⟨x,c1,s,g,_,_⟩:=qes a p;obtain ⟨y,c2,h,r⟩:=qp8 a i;obtain ⟨z,c3,t,k,_,_⟩:=qry a;have s1:=qg5 n m (by have:=a.1.1;omega) (by have:=a.1.2;omega);have q:=qlx n m (by have:=a.1.1;omega) (by have:=a.1.2;omega)
      have f : l.length≤1000000:=by
        rcases o with ⟨_,hs⟩ | ⟨_,rfl⟩
        · have:=hs.len400;omega
        · simp
      simp only [qo,qz,d,j,s,g,h,r,t,k,v,b,s1,q,bne_self_eq_false,beq_self_eq_true,Bool.not_true];rw [qnm l c c f];rfl
end Go.Sh
