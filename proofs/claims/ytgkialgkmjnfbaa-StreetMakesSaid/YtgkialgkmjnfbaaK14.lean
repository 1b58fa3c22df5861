/- St9 St10 St11 St12 St13 St14 St18 Sm1 -/
import Derived.Test.YtgkialgkmjnfbaaK13
namespace Go.Sh
open Go Go.Am
open Classical
section
variable {F G : Int→Int→Prop} {L M : List K2}
def Yl (M : List K2) (t : qh) : List Int:=[t.Lo,t.Hi] ++ (M.filter fun m=>decide (t.Lo < m.At∧m.At < t.Hi)).map (·.At)
theorem qib {t : qh} {x : Int} : x∈Yl M t↔x = t.Lo∨x = t.Hi∨(t.Lo < x∧x < t.Hi∧∃ m∈M,m.At = x):=by
  simp only [Yl,List.mem_append,List.mem_cons,List.not_mem_nil,or_false,List.mem_map,List.mem_filter,decide_eq_true_eq];constructor
  · rintro ((h | h) | ⟨m,⟨b,a⟩,rfl⟩)
    · exact .inl h
    · exact .inr (.inl h)
    · exact .inr (.inr ⟨a.1,a.2,m,b,rfl⟩)
  · rintro (h | h | ⟨b,a,m,c,rfl⟩)
    · exact .inl (.inl h)
    · exact .inl (.inr h)
    · exact .inr ⟨m,⟨c,b,a⟩,rfl⟩
theorem qv0 (l : M.length≤400) (t : qh) : loop (q3s M t) (0,[t.Lo,t.Hi]) = some (Yl M t):=by
  have:=Kx (f:=q3s M t) (σ:=List Int) (fun k c=>((k : Int),c)) M.length (fun k c=>c = Yl (M.take k) t∧c.length≤k + 2) (fun c=>c = Yl M t) ?_ ?_ (k0:=0) (c0:=[t.Lo,t.Hi]) q9 ⟨by simp [Yl],qc⟩
  · obtain ⟨b,j,rfl⟩:=this;exact j
  · rintro k c hk ⟨rfl,g⟩;have hb : decide ((k : Int) < (M.length : Int)) = true:=Q8 q9
    have a : Yl (M.take (k + 1)) t = Yl (M.take k) t ++ (if t.Lo < M[k].At∧M[k].At < t.Hi then [M[k].At] else []):=by
      unfold Yl;rw [List.take_succ_eq_append_getElem hk,List.filter_append,List.map_append,List.append_assoc];by_cases e : t.Lo < M[k].At∧M[k].At < t.Hi
      · simp [e]
      · simp [e]
    refine .inl ⟨Yl (M.take (k + 1)) t,?_,rfl,?_⟩
    · rw [a];simp only [q3s,hb,Q6,K0 hk,qr];by_cases e1 : t.Lo < M[k].At
      · by_cases d : M[k].At < t.Hi
        · rw [qz ⟨e1,d⟩,Q8 (show M[k].At > t.Lo from e1),Q6,Q8 d,qr,Q6,Ye (by simp;omega),Qd q9];rfl
        · rw [qy (fun h=>d h.2),Q8 (show M[k].At > t.Lo from e1),Q6,Q9 d,Qd q9,List.append_nil];rfl
      · rw [qy (fun h=>e1 h.1),Q9 (show ¬ M[k].At > t.Lo from e1),Qd q9,List.append_nil];rfl
    · rw [a];split <;> simp <;> omega
  · rintro c ⟨rfl,g⟩;have hb : decide ((M.length : Int) < (M.length : Int)) = false:=Q9 q9;exact ⟨_,by simp only [q3s,hb,Q7];rfl,by rw [List.take_length]⟩
theorem qn9 (t : qh) : (Yl M t).length≤M.length + 2:=by
  have:=List.length_filter_le (fun m : K2=>decide (t.Lo < m.At∧m.At < t.Hi)) M;simp only [Yl,List.length_append,List.length_map,List.length_cons,List.length_nil];omega
theorem qal (h : Rep (asc M) G) : M.length≤400:=by have:=h.cnt;simpa [asc] using this
theorem qch (h : Rep (asc M) G) {m : K2} (a : m∈M) : -1000000≤m.At∧m.At≤1000000:=h.key _ (List.mem_map.2 ⟨(m.At,m.Spans),List.mem_map.2 ⟨m,a,rfl⟩,rfl⟩)
theorem qft (h : Rep (asc M) G) {m : K2} (a : m∈M) {t : qh} (b : t∈m.Spans) : vld t:=(h.good m.At m.Spans (List.mem_map.2 ⟨m,a,rfl⟩)).1 t b
theorem JN.big {N : List qf} {S T : qf→Prop} (h : JN F G N S) (b : ¬ N.length≤400) : JN F G N T:=⟨h.srt,h.sub,fun a=>absurd a b,h.len⟩
def q2q (M : List K2) (y : Int) (t : qh) (q : qf) : Prop:=q.Y = y∧q.X∈Yl M t
theorem qv1 (n : Rep (asc L) F) (l : Rep (asc M) G) {i : Nat} (hi : i < L.length) {t : qh} (u : t∈L[i].Spans) (z : List qf) {N : List qf} {S : qf→Prop} (h : JN F G N S) :
    ∃ j,loop (q2k (Yl M t) L ((i : Int),z) M) (0,N) = some j∧JN F G j (fun q=>S q∨q2q M L[i].At t q):=by
  have hM:=qal l;have hc:=qn9 (M:=M) t;have y:=qft n (Kw hi) u;have o:=qch n (Kw hi);obtain ⟨v1,v2,v3⟩:=y;have:=Kx (f:=q2k (Yl M t) L ((i : Int),z) M) (σ:=List qf) (fun k c=>((k : Int),c)) (Yl M t).length (fun k c=>JN F G c (fun q=>S q∨(q.Y = L[i].At∧q.X∈(Yl M t).take k))) (fun c=>JN F G c (fun q=>S q∨q2q M L[i].At t q)) ?_ ?_ (k0:=0) (c0:=N) q9 (h.congr fun p=>qc)
  · exact this
  · intro k c hk d;have hb : decide ((k : Int) < ((Yl M t).length : Int)) = true:=Q8 q9;by_cases w : c.length≤400
    · have r : -1000000≤(Yl M t)[k]∧(Yl M t)[k]≤1000000:=by
        rcases qib.1 (Kw hk) with a | a | ⟨_,_,m,x,a⟩
        · omega
        · omega
        · rw [← a];exact qch l x
      obtain ⟨j,e,s,_,j2⟩:=qep n l (p:={X:=(Yl M t)[k],Y:=L[i].At}) ⟨r.1,r.2,o.1,o.2⟩ d q9;refine .inl ⟨j,?_,s.congr ?_⟩
      · simp only [q2k,hb,Q6,Q8 (show (c.length : Int)≤400 by omega),K0 hk,K0 hi,qr];rw [e,qr,Qd q9];rfl
      · rintro q (v | ⟨b,g⟩)
        · exact .inl (.inl v)
        · rw [List.take_succ_eq_append_getElem hk] at g;rcases List.mem_append.1 g with a | a
          · exact .inl (.inr ⟨b,a⟩)
          · rw [List.mem_singleton] at a;exact .inr (by rw [← a,← b])
    · refine .inr ⟨c,?_,d.big w⟩;simp only [q2k,hb,Q6,Q9 (show ¬ (c.length : Int)≤400 by omega),qr,Q7]
  · intro c d;have hb : decide (((Yl M t).length : Int) < ((Yl M t).length : Int)) = false:=Q9 q9;refine ⟨c,by simp only [q2k,hb,Q7,qr],?_⟩;rw [List.take_length] at d;exact d
theorem quz (j : Rep (asc L) F) (d : Rep (asc M) G) {i : Nat} (hi : i < L.length) (z : List qf) {N : List qf} {S : qf→Prop} (h : JN F G N S) :
    ∃ a,loop (q3r L ((i : Int),z) M) (0,N) = some a∧JN F G a (fun q=>S q∨∃ t∈L[i].Spans,q2q M L[i].At t q):=by
  have m:=j.len _ _ (qak hi);have:=Kx (f:=q3r L ((i : Int),z) M) (σ:=List qf) (fun k c=>((k : Int),c)) L[i].Spans.length (fun k c=>JN F G c (fun q=>S q∨∃ t∈L[i].Spans.take k,q2q M L[i].At t q)) (fun c=>JN F G c (fun q=>S q∨∃ t∈L[i].Spans,q2q M L[i].At t q)) ?_ ?_ (k0:=0) (c0:=N) q9 (h.congr fun p=>qc)
  · exact this
  · intro k c hk b;have hb : decide ((k : Int) < (L[i].Spans.length : Int)) = true:=Q8 q9;obtain ⟨a,e,l⟩:=qv1 j d hi (Kw hk) z b;refine .inl ⟨a,?_,l.congr ?_⟩
    · simp only [q3r,K0 hi,qr,hb,Q6,K0 hk,qv0 (qal d),e];rw [Qd q9];rfl
    · intro q g;rw [takeN hk,← or_assoc] at g;exact g
  · intro c b;have hb : decide ((L[i].Spans.length : Int) < (L[i].Spans.length : Int)) = false:=Q9 q9;refine ⟨c,by simp only [q3r,K0 hi,qr,hb,Q7],?_⟩;rw [List.take_length] at b;exact b
theorem quy (d : Rep (asc L) F) (j : Rep (asc M) G) : ∃ N,loop (q3q L M) (0,[]) = some N∧JN F G N (fun q=>∃ l∈L,∃ t∈l.Spans,q2q M l.At t q):=by
  have m:=qal d;have:=Kx (f:=q3q L M) (σ:=List qf) (fun k c=>((k : Int),c)) L.length (fun k c=>JN F G c (fun q=>∃ l∈L.take k,∃ t∈l.Spans,q2q M l.At t q)) (fun c=>JN F G c (fun q=>∃ l∈L,∃ t∈l.Spans,q2q M l.At t q)) ?_ ?_ (k0:=0) (c0:=[]) q9 ⟨.nil,fun p hp=>(by cases hp),fun _ q b=>by simp at b,qc⟩
  · exact this
  · intro k c hk a;have hb : decide ((k : Int) < (L.length : Int)) = true:=Q8 q9;obtain ⟨h,e,g⟩:=quz d j hk c a;refine .inl ⟨h,?_,g.congr fun q b=>(takeN hk).1 b⟩;simp only [q3q,hb,Q6,e,qr];rw [Qd q9];rfl
  · intro c a;have hb : decide ((L.length : Int) < (L.length : Int)) = false:=Q9 q9;refine ⟨c,by simp only [q3q,hb,Q7],?_⟩;rw [List.take_length] at a;exact a
def q4j (x : Int) (t : qh) (q : qf) : Prop:=q.X = x∧(q.Y = t.Lo∨q.Y = t.Hi)
theorem qv3 (n : Rep (asc L) F) (d : Rep (asc M) G) {i : Nat} (hi : i < M.length) (z : List qf) {N : List qf} {S : qf→Prop} (h : JN F G N S) :
    ∃ m,loop (q2l M ((i : Int),z) L) (0,N) = some m∧JN F G m (fun q=>S q∨∃ t∈M[i].Spans,q4j M[i].At t q):=by
  have v:=d.len _ _ (qak hi);have j:=qch d (Kw hi);have:=Kx (f:=q2l M ((i : Int),z) L) (σ:=List qf) (fun k c=>((k : Int),c)) M[i].Spans.length (fun k c=>JN F G c (fun q=>S q∨∃ t∈M[i].Spans.take k,q4j M[i].At t q)) (fun c=>JN F G c (fun q=>S q∨∃ t∈M[i].Spans,q4j M[i].At t q)) ?_ ?_ (k0:=0) (c0:=N) q9 (h.congr fun p=>qc)
  · exact this
  · intro k c hk g;have hb : decide ((k : Int) < (M[i].Spans.length : Int)) = true:=Q8 q9;by_cases l : c.length≤400
    · obtain ⟨v1,y,w⟩:=qft d (Kw hi) (Kw hk);obtain ⟨N1,e1,r,_,l1⟩:=qep n d (p:={X:=M[i].At,Y:=(M[i].Spans[k]).Lo}) ⟨j.1,j.2,by simp only;omega,by simp only;omega⟩ g q9;obtain ⟨o,u,s,_,l2⟩:=qep n d (p:={X:=M[i].At,Y:=(M[i].Spans[k]).Hi}) ⟨j.1,j.2,by simp only;omega,by simp only;omega⟩ r q9;refine .inl ⟨o,?_,s.congr ?_⟩
      · simp only [q2l,K0 hi,qr,hb,Q6,Q8 (show (c.length : Int)≤400 by omega),K0 hk];rw [← Option.bind_assoc (x:=q1r L M {X:=M[i].At,Y:=(M[i].Spans[k]).Lo}),e1,qr,u,qr,Qd q9];rfl
      · intro q a;rw [takeN hk] at a;rcases a with a | a | ⟨b,a | a⟩
        · exact .inl (.inl (.inl a))
        · exact .inl (.inl (.inr a))
        · exact .inl (.inr (by rw [← a,← b]))
        · exact .inr (by rw [← a,← b])
    · refine .inr ⟨c,?_,g.big l⟩;simp only [q2l,K0 hi,qr,hb,Q6,Q9 (show ¬ (c.length : Int)≤400 by omega),Q7]
  · intro c g;have hb : decide ((M[i].Spans.length : Int) < (M[i].Spans.length : Int)) = false:=Q9 q9;refine ⟨c,by simp only [q2l,K0 hi,qr,hb,Q7],?_⟩;rw [List.take_length] at g;exact g
theorem qv2 (m : Rep (asc L) F) (d : Rep (asc M) G) {N : List qf} {S : qf→Prop} (h : JN F G N S) : ∃ a,loop (q3t M L) (0,N) = some a∧JN F G a (fun q=>S q∨∃ l∈M,∃ t∈l.Spans,q4j l.At t q):=by
  have n:=qal d;have:=Kx (f:=q3t M L) (σ:=List qf) (fun k c=>((k : Int),c)) M.length (fun k c=>JN F G c (fun q=>S q∨∃ l∈M.take k,∃ t∈l.Spans,q4j l.At t q)) (fun c=>JN F G c (fun q=>S q∨∃ l∈M,∃ t∈l.Spans,q4j l.At t q)) ?_ ?_ (k0:=0) (c0:=N) q9 (h.congr fun p=>qc)
  · exact this
  · intro k c hk b;have hb : decide ((k : Int) < (M.length : Int)) = true:=Q8 q9;obtain ⟨a,e,j⟩:=qv3 m d hk c b;refine .inl ⟨a,?_,j.congr fun q g=>?_⟩
    · simp only [q3t,hb,Q6,e,qr];rw [Qd q9];rfl
    · rw [takeN hk,← or_assoc] at g;exact g
  · intro c b;have hb : decide ((M.length : Int) < (M.length : Int)) = false:=Q9 q9;refine ⟨c,by simp only [q3t,hb,Q7],?_⟩;rw [List.take_length] at b;exact b
theorem qv4 (q : Rep (asc L) F) (g : Rep (asc M) G) : ∃ N,q7l L M = some N∧N.Pairwise ltP∧(∀ p∈N,Y7 F G p.X p.Y)∧(N.length≤400→Ze F G N)∧N.length≤402:=by
  obtain ⟨N1,e1,v⟩:=quy q g;obtain ⟨s,z,d⟩:=qv2 q g v;refine ⟨s,by unfold q7l;rw [e1,qr,z];rfl,d.srt,d.sub,fun u=>⟨d.srt,fun p=>⟨d.sub p,fun hp=>d.all u p ?_ hp⟩⟩,d.len⟩;rcases (qe3 (r:={rows_:=asc L,columns_:=asc M}) q g p).2 hp with ⟨e,o,t,k,n,a⟩ | ⟨e,o,t,k,n,a,_⟩
  · obtain ⟨l,b,rfl⟩:=List.mem_map.1 o;refine .inl ⟨l,b,t,k,n,qib.2 ?_⟩;rcases a with ⟨a | a,_⟩ | ⟨a,x,h⟩
    · exact .inl a
    · exact .inr (.inl a)
    · have f : p.X∈(asc M).map (·.1):=by rcases h with h | h <;> exact g.all _ _ h
      obtain ⟨c,y,j⟩:=List.mem_map.1 f;obtain ⟨m,w,rfl⟩:=List.mem_map.1 y;exact .inr (.inr ⟨a,x,m,w,j⟩)
  · obtain ⟨l,b,rfl⟩:=List.mem_map.1 o;exact .inr ⟨l,b,t,k,n,a⟩
end
end Go.Sh
namespace Go.Sh
open Go Go.Am
open Classical
section
variable {F G : Int→Int→Prop} {N : List qf}
structure Jr (N : List qf) (i k : Nat) : Prop where
  lt : i < k
  hk : k < N.length
  eq : ∀ (h1 : i < N.length) (h2 : k < N.length),N[k].X = N[i].X
  no : ∀ j (h1 : i < N.length) (h2 : j < N.length),i < j→j < k→N[j].X≠N[i].X
structure Js (N : List qf) (i k : Nat) : Prop where
  lt : i < k
  hk : k < N.length
  eq : ∀ (h1 : i < N.length) (h2 : k < N.length),N[k].Y = N[i].Y
  no : ∀ j (h1 : i < N.length) (h2 : j < N.length),i < j→j < k→N[j].Y≠N[i].Y
def q6x (F G : Int→Int→Prop) (N : List qf) (i k : Nat) : Prop:=∃ h : i < N.length,(Jr N i k∧G N[i].X N[i].Y)∨(Js N i k∧F N[i].Y N[i].X)
structure q6c (F G : Int→Int→Prop) (N : List qf) (E : List qm) : Prop where
  srt : E.Pairwise ltG
  mem : ∀ e,e∈E↔∃ i k : Nat,e = {A:=(i : Int),B:=(k : Int)}∧q6x F G N i k
theorem qqy {N M : List qf} (h : Ze F G N) (a : Ze F G M) : N = M:=qc4 q3c h.srt a.srt fun p=>by rw [h.mem,a.mem]
theorem qof {D E : List qm} (h : q6c F G N D) (a : q6c F G N E) : D = E:=qc4 qq8 h.srt a.srt fun p=>by rw [h.mem,a.mem]
theorem q9y (h : N.Pairwise ltP) {i j : Nat} (hi : i < N.length) (b : j < N.length) (a : i < j) : ltP N[i] N[j]:=List.pairwise_iff_getElem.1 h i j hi b a
theorem q47 (h : N.Pairwise ltP) {i j : Nat} (hi : i < N.length) (c : j < N.length) (a : ltP N[i] N[j]) : i < j:=by
  rcases Nat.lt_trichotomy i j with b | b | b
  · exact b
  · subst b;exact absurd a (q3c _ _ a)
  · exact absurd a (q3c _ _ (q9y h c hi b))
theorem qqr (h : N.Pairwise ltP) {i k m : Nat} (c : Jr N i k) (b : Js N i m) : k < m:=by
  have hi : i < N.length:=by have:=c.lt;have:=c.hk;omega
  have a:=q9y h hi b.hk b.lt;have e1:=c.eq hi c.hk;have d:=b.eq hi b.hk;refine q47 h c.hk b.hk ?_;unfold ltP at *;omega
theorem q70 {f : Int→Prop} {lo : Int} : ∀ (n : Nat),(∀ x,lo < x→x≤lo + n→(f x↔f (x - 1)))→(f lo↔f (lo + n))
  | 0,_=>by simp
  | n + 1,h=>by
    rw [q70 n fun x a b=>h x a q9,h (lo + ((n + 1 : Nat) : Int)) q9 q9]
    have : lo + ((n + 1 : Nat) : Int) - 1 = lo + (n : Int):=by omega
    rw [this]
theorem qiv {x y : Int} (h : ¬ Y7 F G x y) : F y x↔F y (x - 1):=by
  by_cases e : F y x <;> by_cases w : F y (x - 1) <;> by_cases n : G x y <;> by_cases s : G x (y - 1) <;> simp [Y7,q3f,e,w,n,s] at h ⊢
theorem qiu {x y : Int} (h : ¬ Y7 F G x y) : G x y↔G x (y - 1):=by
  by_cases e : F y x <;> by_cases w : F y (x - 1) <;> by_cases n : G x y <;> by_cases s : G x (y - 1) <;> simp [Y7,q3f,e,w,n,s] at h ⊢
theorem qk6 (b : Ze F G N) {i k : Nat} (h : Js N i k) (hi : i < N.length) : F N[i].Y N[i].X↔F N[i].Y ((N[k]'h.hk).X - 1):=by
  have a:=q9y b.srt hi h.hk h.lt;have e:=h.eq hi h.hk;have j : N[i].X < (N[k]'h.hk).X:=by unfold ltP at a;omega
  obtain ⟨n,l⟩ : ∃ n : Nat,(N[k]'h.hk).X - 1 = N[i].X + n:=⟨((N[k]'h.hk).X - 1 - N[i].X).toNat,q9⟩
  have : ((N[k]'h.hk).X - 1) = N[i].X + n:=l;rw [this];refine q70 (f:=F N[i].Y) n fun x q p=>?_;refine qiv (G:=G) fun c=>?_;obtain ⟨m,d,g⟩:=List.mem_iff_getElem.1 ((b.mem {X:=x,Y:=N[i].Y}).2 c);have ex : N[m].X = x:=by rw [g]
  have o : N[m].Y = N[i].Y:=by rw [g]
  refine h.no m hi d (q47 b.srt hi d ?_) (q47 b.srt d h.hk ?_) o
  · unfold ltP;omega
  · unfold ltP;omega
theorem qgc (b : Ze F G N) {i k : Nat} (h : Jr N i k) (hi : i < N.length) : G N[i].X N[i].Y↔G N[i].X ((N[k]'h.hk).Y - 1):=by
  have a:=q9y b.srt hi h.hk h.lt;have e:=h.eq hi h.hk;have j : N[i].Y < (N[k]'h.hk).Y:=by unfold ltP at a;omega
  obtain ⟨n,l⟩ : ∃ n : Nat,(N[k]'h.hk).Y - 1 = N[i].Y + n:=⟨((N[k]'h.hk).Y - 1 - N[i].Y).toNat,q9⟩
  have : ((N[k]'h.hk).Y - 1) = N[i].Y + n:=l;rw [this];refine q70 (f:=G N[i].X) n fun y p o=>?_;refine qiu (F:=F) fun c=>?_;obtain ⟨m,d,g⟩:=List.mem_iff_getElem.1 ((b.mem {X:=N[i].X,Y:=y}).2 c);have ex : N[m].X = N[i].X:=by rw [g]
  have q : N[m].Y = y:=by rw [g]
  refine h.no m hi d (q47 b.srt hi d ?_) (q47 b.srt d h.hk ?_) ex
  · unfold ltP;omega
  · unfold ltP;omega
theorem qv5 (k : Ze F G N) (hb : ∀ y x,F y x→-1000000≤x) {i : Nat} (hi : i < N.length) (c : F N[i].Y (N[i].X - 1)) : ∃ j,∃ h : j < N.length,j < i∧N[j].Y = N[i].Y:=by
  refine Classical.byContradiction fun a=>?_
  have step : ∀ x,x < N[i].X→(F N[i].Y x↔F N[i].Y (x - 1)):=by
    intro x l;refine qiv (G:=G) fun b=>a ?_;obtain ⟨m,d,g⟩:=List.mem_iff_getElem.1 ((k.mem {X:=x,Y:=N[i].Y}).2 b);have ex : N[m].X = x:=by rw [g]
    have o : N[m].Y = N[i].Y:=by rw [g]
    exact ⟨m,d,q47 k.srt d hi (by unfold ltP;omega),o⟩
  have l:=hb _ _ c;obtain ⟨n,b⟩ : ∃ n : Nat,N[i].X - 1 = -1000001 + (n : Int):=⟨(N[i].X + 1000000).toNat,q9⟩
  have:=q70 (f:=F N[i].Y) (lo:=-1000001) n fun x q p=>step x q9;rw [← b] at this;have:=hb _ _ (this.2 c);omega
theorem qmx (k : Ze F G N) (hb : ∀ x y,G x y→-1000000≤y) {i : Nat} (hi : i < N.length) (c : G N[i].X (N[i].Y - 1)) : ∃ j,∃ h : j < N.length,j < i∧N[j].X = N[i].X:=by
  refine Classical.byContradiction fun a=>?_
  have step : ∀ y,y < N[i].Y→(G N[i].X y↔G N[i].X (y - 1)):=by
    intro y p;refine qiu (F:=F) fun b=>a ?_;obtain ⟨m,d,g⟩:=List.mem_iff_getElem.1 ((k.mem {X:=N[i].X,Y:=y}).2 b);have ex : N[m].X = N[i].X:=by rw [g]
    have r : N[m].Y = y:=by rw [g]
    exact ⟨m,d,q47 k.srt d hi (by unfold ltP;omega),ex⟩
  have q:=hb _ _ c;obtain ⟨n,b⟩ : ∃ n : Nat,N[i].Y - 1 = -1000001 + (n : Int):=⟨(N[i].Y + 1000000).toNat,q9⟩
  have:=q70 (f:=G N[i].X) (lo:=-1000001) n fun y o l=>step y q9;rw [← b] at this;have:=hb _ _ (this.2 c);omega
theorem qdm {P : Nat→Prop} : ∀ {n : Nat},(∃ j,j < n∧P j)→∃ j,j < n∧P j∧∀ m,j < m→m < n→¬ P m
  | 0,⟨j,h,_⟩=>by omega
  | n + 1,⟨j,h,hp⟩=>by
    by_cases e : P n
    · exact ⟨n,q9,e,fun m f a=>q9⟩
    · have : j≠n:=fun c=>e (c ▸ hp)
      obtain ⟨k,f,a,g⟩:=qdm (n:=n) ⟨j,q9,hp⟩
      refine ⟨k,q9,a,fun m d l=>?_⟩
      by_cases b : m = n
      · subst b;exact e
      · exact g m d q9
theorem qtz (f : Ze F G N) (hb : ∀ y x,F y x→-1000000≤x) {k : Nat} (hk : k < N.length) (c : F N[k].Y (N[k].X - 1)) : ∃ j,Js N j k:=by
  obtain ⟨j,h,a,l⟩:=qv5 f hb hk c;obtain ⟨m,p,⟨s,b⟩,d⟩:=qdm (P:=fun j=>∃ h : j < N.length,N[j].Y = N[k].Y) (n:=k) ⟨j,a,h,l⟩;exact ⟨m,p,hk,fun _ _=>b.symm,fun q _ g o r e=>d q o r ⟨g,by rw [e,b]⟩⟩
theorem qty (f : Ze F G N) (hb : ∀ x y,G x y→-1000000≤y) {k : Nat} (hk : k < N.length) (c : G N[k].X (N[k].Y - 1)) : ∃ j,Jr N j k:=by
  obtain ⟨j,h,a,l⟩:=qmx f hb hk c;obtain ⟨m,p,⟨s,b⟩,d⟩:=qdm (P:=fun j=>∃ h : j < N.length,N[j].X = N[k].X) (n:=k) ⟨j,a,h,l⟩;exact ⟨m,p,hk,fun _ _=>b.symm,fun q _ g o r e=>d q o r ⟨g,by rw [e,b]⟩⟩
theorem Js.uniq {i j k : Nat} (b : Js N i k) (a : Js N j k) : i = j:=by
  have hi : i < N.length:=by have:=b.lt;have:=b.hk;omega
  have c : j < N.length:=by have:=a.lt;have:=a.hk;omega
  have e1:=b.eq hi b.hk;have d:=a.eq c a.hk;rcases Nat.lt_trichotomy i j with h | h | h
  · exact absurd (by rw [← e1,← d]) (b.no j hi c h a.lt)
  · exact h
  · exact absurd (by rw [← e1,← d]) (a.no i c hi h b.lt)
theorem Jr.uniq {i j k : Nat} (b : Jr N i k) (a : Jr N j k) : i = j:=by
  have hi : i < N.length:=by have:=b.lt;have:=b.hk;omega
  have c : j < N.length:=by have:=a.lt;have:=a.hk;omega
  have e1:=b.eq hi b.hk;have d:=a.eq c a.hk;rcases Nat.lt_trichotomy i j with h | h | h
  · exact absurd (by rw [← e1,← d]) (b.no j hi c h a.lt)
  · exact h
  · exact absurd (by rw [← e1,← d]) (a.no i c hi h b.lt)
theorem qpg (c : Ze F G N) (f : ∀ y x,F y x→-1000000≤x) (d : ∀ x y,G x y→-1000000≤y) {k : Nat} (hk : k < N.length) (i : Nat) : q6x F G N i k↔(Js N i k∧F N[k].Y (N[k].X - 1))∨(Jr N i k∧G N[k].X (N[k].Y - 1)):=by
  constructor
  · rintro ⟨hi,⟨a,b⟩ | ⟨a,b⟩⟩
    · have:=(qgc c a hi).1 b;rw [← a.eq hi hk] at this;exact .inr ⟨a,this⟩
    · have:=(qk6 c a hi).1 b;rw [← a.eq hi hk] at this;exact .inl ⟨a,this⟩
  · rintro (⟨a,b⟩ | ⟨a,b⟩)
    · have hi : i < N.length:=by have:=a.lt;omega
      refine ⟨hi,.inr ⟨a,(qk6 c a hi).2 ?_⟩⟩;rw [← a.eq hi hk];exact b
    · have hi : i < N.length:=by have:=a.lt;omega
      refine ⟨hi,.inl ⟨a,(qgc c a hi).2 ?_⟩⟩;rw [← a.eq hi hk];exact b
end
end Go.Sh
namespace Go.Sh
open Go Go.Am
open Classical
theorem qdu {α β : Type} [DecidableEq α] {z : β} {k a : α} {v : β} : ∀ {R : List (α × β)},K5 z a (Kl k v R) = if a = k then v else K5 z a R
  | []=>by simp only [Kl,K5]
  | (b,w)::r=>by
    simp only [Kl]
    by_cases e : k = b
    · subst e
      simp only [if_true,K5]
      by_cases c : a = k
      · simp [c]
      · simp [c]
    · rw [qy e]
      simp only [K5]
      rw [qdu (R:=r)]
      by_cases c : a = b
      · subst c
        have : ¬ a = k:=fun h=>e h.symm
        simp [this]
      · simp [c]
section
variable {F G : Int→Int→Prop} {N : List qf}
structure PE (F G : Int→Int→Prop) (N : List qf) (k : Nat) (c : List (Int × Int) × List (Int × Int) × List qm) : Prop where
  rm : ∀ j (h : j < N.length),j < k→(∀ m (h2 : m < N.length),j < m→m < k→N[m].Y≠N[j].Y)→K5 0 N[j].Y c.1 = (j : Int)
  cm : ∀ j (h : j < N.length),j < k→(∀ m (h2 : m < N.length),j < m→m < k→N[m].X≠N[j].X)→K5 0 N[j].X c.2.1 = (j : Int)
  nd : c.2.2.Nodup
  mem : ∀ e,e∈c.2.2↔∃ i q : Nat,q < k∧e = {A:=(i : Int),B:=(q : Int)}∧q6x F G N i q
  len : c.2.2.length≤2 * k
theorem qqo {r : Y8} (h1 : Rep r.rows_ F) (h2 : Rep r.columns_ G) (hN : Ze F G N) (hl : N.length≤400) : ∃ E,loop (q2t (N,true) r) (0,[],[],[]) = some E∧E.Nodup∧(∀ e,e∈E↔∃ i q : Nat,e = {A:=(i : Int),B:=(q : Int)}∧q6x F G N i q)∧E.length≤2 * N.length:=by
  have hF : ∀ y x,F y x→-1000000≤x:=fun y x h=>(h1.bnd h).2.2.1;have hG : ∀ x y,G x y→-1000000≤y:=fun x y h=>(h2.bnd h).2.2.1;refine Kx (f:=q2t (N,true) r) (σ:=List (Int × Int) × List (Int × Int) × List qm) (fun k c=>((k : Int),c)) N.length (PE F G N) _ ?_ ?_ (k0:=0) (c0:=([],[],[])) q9 ⟨fun j h h'=>q9,fun j h h'=>q9,.nil,fun e=>⟨fun h=>(by cases h),fun ⟨i,q,h,_⟩=>q9⟩,qc⟩
  · rintro k ⟨rm,cm,E⟩ hk ⟨p1,p2,p3,p4,p5⟩;simp only at p1 p2 p3 p4 p5;have hb : decide ((k : Int) < (N.length : Int)) = true:=Q8 q9;have ap:=qe2 h1 h2 ((hN.mem N[k]).1 (Kw hk));have am : PtB N[k]:=ap;have o:=qpg hN hF hG hk
    have hold : ∀ i,({A:=(i : Int),B:=(k : Int)} : qm) ∉ E:=by
      intro i hm;obtain ⟨i',q,hq,l,_⟩:=(p4 _).1 hm;simp only [qm.mk.injEq] at l;omega
    have hw : ∃ u,(cond (decide (F N[k].Y (N[k].X - 1))) ((app 16 E [({A:=K5 0 N[k].Y rm,B:=(k : Int)} : qm)]).bind fun ak=>some ak) (some E)) = some u∧u.Nodup∧u.length≤E.length + 1∧∀ e,e∈u↔e∈E∨∃ i : Nat,e = {A:=(i : Int),B:=(k : Int)}∧Js N i k∧F N[k].Y (N[k].X - 1):=by
      by_cases w : F N[k].Y (N[k].X - 1)
      · obtain ⟨j,g⟩:=qtz hN hF hk w;have d : j < N.length:=by have:=g.lt;omega
        have t : K5 0 N[k].Y rm = (j : Int):=by
          rw [g.eq d hk];exact p1 j d g.lt fun m p z h5=>g.no m d p z h5
        rw [Q8 w,Q6,t,Ye (by simp;omega)];refine ⟨_,rfl,?_,qc,fun e=>?_⟩
        · rw [List.nodup_append];exact ⟨p3,qc,fun a ha b hb e=>by rw [List.mem_singleton] at hb;subst hb;subst e;exact hold j ha⟩
        · rw [List.mem_append,List.mem_singleton];constructor
          · rintro (h | rfl)
            · exact .inl h
            · exact .inr ⟨j,rfl,g,w⟩
          · rintro (h | ⟨i,rfl,p,_⟩)
            · exact .inl h
            · rw [p.uniq g];exact .inr rfl
      · rw [Q9 w,Q7];exact ⟨E,rfl,p3,q9,fun e=>⟨.inl,fun h=>h.elim id fun ⟨_,_,_,h⟩=>absurd h w⟩⟩
    obtain ⟨u,e1,n1,l1,m1⟩:=hw
    have hs : ∃ E2,(cond (decide (G N[k].X (N[k].Y - 1))) ((app 16 u [({A:=K5 0 N[k].X cm,B:=(k : Int)} : qm)]).bind fun ao=>some ao) (some u)) = some E2∧E2.Nodup∧E2.length≤u.length + 1∧∀ e,e∈E2↔e∈u∨∃ i : Nat,e = {A:=(i : Int),B:=(k : Int)}∧Jr N i k∧G N[k].X (N[k].Y - 1):=by
      by_cases s : G N[k].X (N[k].Y - 1)
      · obtain ⟨j,g⟩:=qty hN hG hk s;have d : j < N.length:=by have:=g.lt;omega
        have t : K5 0 N[k].X cm = (j : Int):=by
          rw [g.eq d hk];exact p2 j d g.lt fun m p z h5=>g.no m d p z h5
        rw [Q8 s,Q6,t,Ye (by simp;omega)];refine ⟨_,rfl,?_,qc,fun e=>?_⟩
        · rw [List.nodup_append];refine ⟨n1,qc,fun a ha b hb e=>?_⟩;rw [List.mem_singleton] at hb;subst hb;subst e;rcases (m1 _).1 ha with h | ⟨i,l,hy,_⟩
          · exact hold j h
          · simp only [qm.mk.injEq] at l;have aj : i = j:=by omega
            subst aj;have q1:=hy.eq d hk;have q2:=g.eq d hk;have:=q9y hN.srt d hk g.lt;unfold ltP at this;omega
        · rw [List.mem_append,List.mem_singleton];constructor
          · rintro (h | rfl)
            · exact .inl h
            · exact .inr ⟨j,rfl,g,s⟩
          · rintro (h | ⟨i,rfl,p,_⟩)
            · exact .inl h
            · rw [p.uniq g];exact .inr rfl
      · rw [Q9 s,Q7];exact ⟨u,rfl,n1,q9,fun e=>⟨.inl,fun h=>h.elim id fun ⟨_,_,_,h⟩=>absurd h s⟩⟩
    obtain ⟨E2,e2,n2,l2,m2⟩:=hs;refine .inl ⟨(Kl N[k].Y (k : Int) rm,Kl N[k].X (k : Int) cm,E2),?_,fun j g ai n=>?_,fun j g ai n=>?_,n2,fun e=>?_,by simp only;omega⟩
    · simp only [q2t,hb,Q6,K0 hk,qr,qfs h1 h2 am,arB];rw [e1,qr,e2,qr,Qd q9];rfl
    · simp only;rw [qdu];by_cases v : N[j].Y = N[k].Y
      · rw [qz v];by_cases aa : j = k
        · subst aa;rfl
        · exact absurd v.symm (n k hk q9 q9)
      · rw [qy v];have : j≠k:=fun h=>by subst h;exact v rfl
        exact p1 j g q9 fun m p z h5=>n m p z q9
    · simp only;rw [qdu];by_cases v : N[j].X = N[k].X
      · rw [qz v];by_cases aa : j = k
        · subst aa;rfl
        · exact absurd v.symm (n k hk q9 q9)
      · rw [qy v];have : j≠k:=fun h=>by subst h;exact v rfl
        exact p2 j g q9 fun m p z h5=>n m p z q9
    · simp only;rw [m2,m1,p4];constructor
      · rintro ((⟨i,q,hq,l,h⟩ | ⟨i,l,h⟩) | ⟨i,l,h⟩)
        · exact ⟨i,q,q9,l,h⟩
        · exact ⟨i,k,q9,l,(o i).2 (.inl h)⟩
        · exact ⟨i,k,q9,l,(o i).2 (.inr h)⟩
      · rintro ⟨i,q,hq,l,h⟩;by_cases eq : q = k
        · subst eq;rcases (o i).1 h with h | h
          · exact .inl (.inr ⟨i,l,h⟩)
          · exact .inr ⟨i,l,h⟩
        · exact .inl (.inl ⟨i,q,q9,l,h⟩)
  · rintro ⟨rm,cm,E⟩ ⟨p1,p2,p3,p4,p5⟩;simp only at p3 p4 p5;have hb : decide ((N.length : Int) < (N.length : Int)) = false:=Q9 q9;refine ⟨E,by simp only [q2t,hb,Q7],p3,fun e=>?_,q9⟩;rw [p4];constructor
    · rintro ⟨i,q,_,l,h⟩;exact ⟨i,q,l,h⟩
    · rintro ⟨i,q,l,h⟩;obtain ⟨hi,h'⟩:=h;refine ⟨i,q,?_,l,hi,h'⟩;rcases h' with ⟨h,_⟩ | ⟨h,_⟩
      · exact h.hk
      · exact h.hk
theorem qqn {r : Y8} (n : Rep r.rows_ F) (d : Rep r.columns_ G) (g : Ze F G N) (f : N.length≤400) : ∃ D E,loop (q2t (N,true) r) (0,[],[],[]) = some D∧q3x (fun c o=>q1y c o) D = some E∧E.length = D.length∧q6c F G N E∧E.length≤2 * N.length:=by
  obtain ⟨D,e1,l,b,k⟩:=qqo n d g f
  have m : ∀ e∈D,PtB (eP2 e):=by
    intro e j;obtain ⟨i,q,rfl,hi,h⟩:=(b e).1 j;have t : q < N.length:=by rcases h with ⟨h,_⟩ | ⟨h,_⟩ <;> exact h.hk
    unfold PtB eP2;simp only;omega
  obtain ⟨E,s,a,p⟩:=qxi D q9 m l;exact ⟨D,E,e1,s,a.length_eq,⟨p,fun e=>by rw [a.mem_iff,b]⟩,by rw [a.length_eq];exact k⟩
def NX (N : List qf) (i k : Nat) (b : Int) : Prop:=(b = -1∧∀ m (h1 : i < N.length) (h2 : m < N.length),i < m→m < k→N[m].X≠N[i].X)∨∃ q : Nat,b = (q : Int)∧Jr N i q
def NY (N : List qf) (i k : Nat) (b : Int) : Prop:=(b = -1∧∀ m (h1 : i < N.length) (h2 : m < N.length),i < m→m < k→N[m].Y≠N[i].Y)∨∃ q : Nat,b = (q : Int)∧Js N i q
theorem qlb (hl : N.length≤1000) {i : Nat} (hi : i < N.length) : ∃ b,loop (q3m N N[i]) ((-1),(-1),(((i + 1 : Nat) : Int))) = some b∧NX N i N.length b.1∧NY N i N.length b.2:=by
  refine Kx (f:=q3m N N[i]) (σ:=Int × Int) (fun k c=>(c.1,c.2,(k : Int))) N.length (fun k c=>i < k∧NX N i k c.1∧NY N i k c.2) _ ?_ ?_ (k0:=i + 1) (c0:=((-1),(-1))) q9 ⟨q9,.inl ⟨rfl,fun m _ _ s n=>q9⟩,.inl ⟨rfl,fun m _ _ s n=>q9⟩⟩
  · rintro k ⟨bx,a⟩ hk ⟨t,w,v⟩;simp only at w v;have hb : decide ((k : Int) < (N.length : Int)) = true:=Q8 q9
    have sx : ∃ d,((cond (N[k].X == N[i].X) (some (decide (bx < 0))) (some false)).bind fun u=>(cond u (some (k : Int)) (some bx))) = some d∧NX N i (k + 1) d:=by
      rcases w with ⟨rfl,h⟩ | ⟨q,rfl,y⟩
      · by_cases e : N[k].X = N[i].X
        · have o : (N[k].X == N[i].X) = true:=by simpa using e
          rw [o];exact ⟨(k : Int),rfl,.inr ⟨k,rfl,t,hk,fun _ _=>e,fun j _ n p r=>h j hi n p r⟩⟩
        · have o : (N[k].X == N[i].X) = false:=by simpa using e
          rw [o];refine ⟨-1,rfl,.inl ⟨rfl,fun m s n p r=>?_⟩⟩;by_cases z : m = k
          · subst z;exact e
          · exact h m s n p q9
      · refine ⟨(q : Int),?_,.inr ⟨q,rfl,y⟩⟩;have : decide ((q : Int) < 0) = false:=Q9 q9;rw [this];cases (N[k].X == N[i].X) <;> rfl
    have sy : ∃ l,((cond (N[k].Y == N[i].Y) (some (decide (a < 0))) (some false)).bind fun g=>(cond g (some (k : Int)) (some a))) = some l∧NY N i (k + 1) l:=by
      rcases v with ⟨rfl,h⟩ | ⟨q,rfl,y⟩
      · by_cases e : N[k].Y = N[i].Y
        · have o : (N[k].Y == N[i].Y) = true:=by simpa using e
          rw [o];exact ⟨(k : Int),rfl,.inr ⟨k,rfl,t,hk,fun _ _=>e,fun j _ n p r=>h j hi n p r⟩⟩
        · have o : (N[k].Y == N[i].Y) = false:=by simpa using e
          rw [o];refine ⟨-1,rfl,.inl ⟨rfl,fun m s n p r=>?_⟩⟩;by_cases z : m = k
          · subst z;exact e
          · exact h m s n p q9
      · refine ⟨(q : Int),?_,.inr ⟨q,rfl,y⟩⟩;have : decide ((q : Int) < 0) = false:=Q9 q9;rw [this];cases (N[k].Y == N[i].Y) <;> rfl
    obtain ⟨d,e1,x1⟩:=sx;obtain ⟨l,e2,y1⟩:=sy;refine .inl ⟨(d,l),?_,q9,x1,y1⟩;simp only [q3m,hb,Q6,K0 hk,qr];rw [← Option.bind_assoc (x:=(cond (N[k].X == N[i].X) (some (decide (bx < 0))) (some false))),e1,qr]
    have e3 : ((cond (N[k].Y == N[i].Y) (some (decide (a < 0))) (some false)).bind fun g=>cond g (some (d,(k : Int))) (some (d,a))) = some (d,l):=by
      have : ∀ c : Bool,(cond c (some (d,(k : Int))) (some (d,a))) = (cond c (some (k : Int)) (some a)).map fun b=>(d,b):=by intro c;cases c <;> rfl
      simp only [this]
      have : ((cond (N[k].Y == N[i].Y) (some (decide (a < 0))) (some false)).bind fun g=>(cond g (some (k : Int)) (some a)).map fun b=>(d,b)) = (((cond (N[k].Y == N[i].Y) (some (decide (a < 0))) (some false)).bind fun g=>(cond g (some (k : Int)) (some a)))).map fun b=>(d,b):=by
        cases (cond (N[k].Y == N[i].Y) (some (decide (a < 0))) (some false)) <;> rfl
      rw [this,e2];rfl
    rw [e3,qr,Qd q9];rfl
  · rintro ⟨bx,a⟩ ⟨_,w,v⟩;have hb : decide ((N.length : Int) < (N.length : Int)) = false:=Q9 q9;exact ⟨(bx,a),by simp only [q3m,hb,Q7],w,v⟩
end
end Go.Sh
namespace Go.Sh
open Go Go.Am
open Classical
section
variable {F G : Int→Int→Prop} {N : List qf} {L M : List K2}
structure RE (F G : Int→Int→Prop) (N : List qf) (k : Nat) (E : List qm) : Prop where
  srt : E.Pairwise ltG
  mem : ∀ e,e∈E↔∃ i q : Nat,i < k∧e = {A:=(i : Int),B:=(q : Int)}∧q6x F G N i q
  len : E.length≤2 * k
theorem qi6 {E : List qm} {a : qm} (h : E.Pairwise ltG) (c : ∀ e∈E,ltG e a) : (E ++ [a]).Pairwise ltG:=by
  rw [List.pairwise_append];exact ⟨h,List.pairwise_singleton _ _,fun x d y b=>by rw [List.mem_singleton] at b;subst b;exact c x d⟩
theorem qla (h1 : Rep (asc L) F) (z : Rep (asc M) G) (hN : Ze F G N) (hl : N.length≤400) : ∃ E,loop (q3l N L M) (0,[]) = some E∧q6c F G N E∧E.length≤2 * N.length:=by
  refine Kx (f:=q3l N L M) (σ:=List qm) (fun k c=>((k : Int),c)) N.length (RE F G N) _ ?_ ?_ (k0:=0) (c0:=[]) q9 ⟨.nil,fun e=>⟨fun h=>(by cases h),fun ⟨i,q,h,_⟩=>q9⟩,qc⟩
  · rintro k E hk ⟨t,p2,p3⟩;have hb : decide ((k : Int) < (N.length : Int)) = true:=Q8 q9;have y : PtB N[k]:=qe2 h1 z ((hN.mem N[k]).1 (Kw hk));obtain ⟨⟨bx,s⟩,e0,hx,hy⟩:=qlb (N:=N) q9 hk;simp only at hx hy
    have o : ∀ e∈E,∀ q : Nat,ltG e {A:=(k : Int),B:=(q : Int)}:=by
      intro e b q;obtain ⟨i,l,hi,rfl,_⟩:=(p2 e).1 b;unfold ltG ltP eP2;simp only;omega
    have hu : ∃ j,((cond (decide (G N[k].X N[k].Y)) (some (decide (bx ≥ 0))) (some false)).bind fun r=>(cond r ((app 16 E [({A:=(k : Int),B:=bx} : qm)]).bind fun u=>some u) (some E))) = some j∧j.Pairwise ltG∧j.length≤E.length + 1∧(∀ e,e∈j↔e∈E∨∃ q : Nat,e = {A:=(k : Int),B:=(q : Int)}∧Jr N k q∧G N[k].X N[k].Y):=by
      by_cases g : G N[k].X N[k].Y
      · rw [Q8 g,Q6,qr];rcases hx with ⟨rfl,m⟩ | ⟨q,rfl,d⟩
        · refine ⟨E,rfl,t,q9,fun e=>⟨.inl,fun h=>h.elim id ?_⟩⟩;rintro ⟨q,_,a,_⟩;exact absurd (a.eq hk a.hk) (m q hk a.hk a.lt a.hk)
        · rw [Q8 (show (q : Int) ≥ 0 by omega),Q6,Ye (by simp;omega)];refine ⟨_,rfl,qi6 t fun e b=>o e b q,qc,fun e=>?_⟩;rw [List.mem_append,List.mem_singleton];constructor
          · rintro (h | rfl)
            · exact .inl h
            · exact .inr ⟨q,rfl,d,g⟩
          · rintro (h | ⟨l,rfl,a,_⟩)
            · exact .inl h
            · right
              have : l = q:=by
                rcases Nat.lt_trichotomy l q with h | h | h
                · exact absurd (a.eq hk a.hk) (d.no l hk a.hk a.lt h)
                · exact h
                · exact absurd (d.eq hk d.hk) (a.no q hk d.hk d.lt h)
              rw [this]
      · rw [Q9 g,Q7,qr,Q7];exact ⟨E,rfl,t,q9,fun e=>⟨.inl,fun h=>h.elim id fun ⟨_,_,_,h⟩=>absurd h g⟩⟩
    obtain ⟨j,e1,s1,l1,m1⟩:=hu
    have hr : ∃ n,((cond (decide (F N[k].Y N[k].X)) (some (decide (s ≥ 0))) (some false)).bind fun v=>(cond v ((app 16 j [({A:=(k : Int),B:=s} : qm)]).bind fun p=>some p) (some j))) = some n∧n.Pairwise ltG∧n.length≤j.length + 1∧(∀ e,e∈n↔e∈j∨∃ q : Nat,e = {A:=(k : Int),B:=(q : Int)}∧Js N k q∧F N[k].Y N[k].X):=by
      by_cases g : F N[k].Y N[k].X
      · rw [Q8 g,Q6,qr];rcases hy with ⟨rfl,m⟩ | ⟨q,rfl,d⟩
        · refine ⟨j,rfl,s1,q9,fun e=>⟨.inl,fun h=>h.elim id ?_⟩⟩;rintro ⟨q,_,a,_⟩;exact absurd (a.eq hk a.hk) (m q hk a.hk a.lt a.hk)
        · rw [Q8 (show (q : Int) ≥ 0 by omega),Q6,Ye (by simp;omega)];refine ⟨_,rfl,qi6 s1 fun e b=>?_,qc,fun e=>?_⟩
          · rcases (m1 e).1 b with h | ⟨l,rfl,a,_⟩
            · exact o e h q
            · have af:=qqr hN.srt a d;exact .inr ⟨rfl,show (l : Int) < (q : Int) by omega⟩
          · rw [List.mem_append,List.mem_singleton];constructor
            · rintro (h | rfl)
              · exact .inl h
              · exact .inr ⟨q,rfl,d,g⟩
            · rintro (h | ⟨l,rfl,a,_⟩)
              · exact .inl h
              · right
                have : l = q:=by
                  rcases Nat.lt_trichotomy l q with h | h | h
                  · exact absurd (a.eq hk a.hk) (d.no l hk a.hk a.lt h)
                  · exact h
                  · exact absurd (d.eq hk d.hk) (a.no q hk d.hk d.lt h)
                rw [this]
      · rw [Q9 g,Q7,qr,Q7];exact ⟨j,rfl,s1,q9,fun e=>⟨.inl,fun h=>h.elim id fun ⟨_,_,_,h⟩=>absurd h g⟩⟩
    obtain ⟨n,e2,s2,l2,m2⟩:=hr;refine .inl ⟨n,?_,s2,fun e=>?_,q9⟩
    · simp only [q3l,hb,Q6,K0 hk,qr,qjs h1 z y,arB];rw [Qd q9,show ((k : Int) + 1) = ((k + 1 : Nat) : Int) by omega,e0,qr];simp only;rw [← Option.bind_assoc (x:=(cond (decide (G N[k].X N[k].Y)) (some (decide (bx ≥ 0))) (some false))),e1,qr,e2,qr]
    · rw [m2,m1,p2];constructor
      · rintro ((⟨i,q,d,b,h⟩ | ⟨q,b,a,w⟩) | ⟨q,b,a,w⟩)
        · exact ⟨i,q,q9,b,h⟩
        · exact ⟨k,q,q9,b,hk,.inl ⟨a,w⟩⟩
        · exact ⟨k,q,q9,b,hk,.inr ⟨a,w⟩⟩
      · rintro ⟨i,q,d,b,h⟩;by_cases eq : i = k
        · subst eq;obtain ⟨_,h | h⟩:=h
          · exact .inl (.inr ⟨q,b,h.1,h.2⟩)
          · exact .inr ⟨q,b,h.1,h.2⟩
        · exact .inl (.inl ⟨i,q,q9,b,h⟩)
  · rintro E ⟨t,p2,p3⟩;have hb : decide ((N.length : Int) < (N.length : Int)) = false:=Q9 q9;refine ⟨E,by simp only [q3l,hb,Q7],⟨t,fun e=>?_⟩,q9⟩;rw [p2];constructor
    · rintro ⟨i,q,_,b,h⟩;exact ⟨i,q,b,h⟩
    · rintro ⟨i,q,b,hi,h⟩;exact ⟨i,q,hi,b,hi,h⟩
end
structure q4f (F G : Int→Int→Prop) (n : Ku) : Prop where
  nodes : Ze F G n.Nodes
  edges : q6c F G n.Nodes n.Edges
  nlen : n.Nodes.length≤400
  elen : n.Edges.length≤2 * n.Nodes.length
theorem q4f.uniq {F G : Int→Int→Prop} {n m : Ku} (h : q4f F G n) (a : q4f F G m) : n = m:=by
  obtain ⟨N,E⟩:=n;obtain ⟨c,b⟩:=m;have e : N = c:=qqy h.nodes a.nodes;subst e;have : E = b:=qof h.edges a.edges;rw [this]
abbrev rowP (l : List Qw) : Int→Int→Prop:=onL (q1s l)
abbrev colP (l : List Qw) : Int→Int→Prop:=onL (q19 l)
def q6f (F G : Int→Int→Prop) : Prop:=∃ b : List qf,b.Nodup∧400 < b.length∧∀ p∈b,Y7 F G p.X p.Y
theorem q6f.not {F G : Int→Int→Prop} (h : q6f F G) {N : List qf} (d : Ze F G N) : 400 < N.length:=by
  obtain ⟨b,a,f,c⟩:=h;have:=List.Nodup.length_le_of_subset a (l₂:=N) fun p hp=>(d.mem p).2 (c p hp);omega
theorem qiq {l : List Qw} (k : l.length≤400) (o : ∀ s∈l,SegV s) : (∃ n,q49 l = some (n,true)∧q4f (rowP l) (colP l) n)∨(q49 l = some ({Nodes:=[],Edges:=[]},false)∧q6f (rowP l) (colP l)):=by
  obtain ⟨r,e1,f,d⟩:=qn2 k o;unfold q49;rw [e1,qr];rcases qqx f d with ⟨N,g,a,c⟩ | ⟨p,q,c⟩
  · left;obtain ⟨D,E,m,t,j,h,b⟩:=qqn f d g a;rw [c];simp only [qr,Bool.not_true,Q7,m,t];have le : Qv E.length D.length = some ():=by unfold Qv;rw [qz j]
    rw [le,qr];refine ⟨{Nodes:=N,Edges:=E},?_,g,h,a,b⟩;rw [Q8 (show (D.length : Int)≤800 by omega)]
  · right;rw [c];exact ⟨rfl,p⟩
theorem qlc {l : List Qw} (g : l.length≤400) (k : ∀ s∈l,SegV s) : (∃ n,q3k l = some (n,true)∧q4f (rowP l) (colP l) n)∨(q3k l = some ({Nodes:=[],Edges:=[]},false)∧q6f (rowP l) (colP l)):=by
  obtain ⟨L,e1,m,_⟩:=qi0 l true g k;obtain ⟨M,t,f,_⟩:=qi0 l false g k;obtain ⟨N,p,s1,q,j,u⟩:=qv4 m f;unfold q3k;rw [e1,qr,t,qr,p,qr];by_cases c : N.length≤400
  · left;rw [Q9 (show ¬ (N.length : Int) > 400 by omega),Q7];obtain ⟨E,r,o,d⟩:=qla m f (j c) c;rw [r,qr];exact ⟨{Nodes:=N,Edges:=E},by rw [Q8 (show (E.length : Int)≤800 by omega)],j c,o,c,d⟩
  · right;rw [Q8 (show (N.length : Int) > 400 by omega),Q6];exact ⟨rfl,N,s1.imp (by rintro a b h rfl;exact q3c a a h h),q9,q⟩
theorem qqp {l : List Qw} (f : l.length≤400) (d : ∀ s∈l,SegV s) : q49 l = q3k l:=by
  rcases qiq f d with ⟨n,e1,b⟩ | ⟨e1,b⟩ <;> rcases qlc f d with ⟨m,c,a⟩ | ⟨c,a⟩
  · rw [e1,c,b.uniq a]
  · have:=a.not b.nodes;have:=b.nlen;omega
  · have:=b.not a.nodes;have:=a.nlen;omega
  · rw [e1,c]
end Go.Sh
namespace Go.Sh
open Go Go.Am
open Classical
theorem beqI (a b : Int) : (a == b) = decide (a = b):=by
  by_cases h : a = b
  · rw [Q8 h];simpa using h
  · rw [Q9 h];simpa using h
theorem qhm (p : qf) : q65 p = some (decide (PtB p)):=by
  unfold q65;by_cases h : PtB p
  · have a:=h;unfold PtB at a;rw [Q8 h,Q8 (show min p.X p.Y ≥ -1000000 by omega),Q6,Q8 (show max p.X p.Y≤1000000 by omega)];rfl
  · have a:=h;unfold PtB at a;rw [Q9 h];by_cases b : min p.X p.Y ≥ -1000000
    · rw [Q8 b,Q6,Q9 (show ¬ max p.X p.Y≤1000000 by omega)];rfl
    · rw [Q9 b,Q7];rfl
theorem qbw (s : Qw) : SegV s↔PtB s.A∧PtB s.B∧((s.A.X = s.B.X∧s.A.Y≠s.B.Y)∨(s.A.X≠s.B.X∧s.A.Y = s.B.Y)):=by
  constructor
  · rintro ⟨a,b,c⟩;exact ⟨a,b,c⟩
  · rintro ⟨a,b,c⟩;exact ⟨a,b,c⟩
theorem qye (s : Qw) : qa3 s = some (decide (SegV s)):=by
  unfold qa3;rw [qhm,qr];by_cases a : PtB s.A
  · rw [Q8 a,Q6,qhm,qr,qr];by_cases b : PtB s.B
    · rw [Q8 b,Q6,qr];congr 1;rw [beqI,beqI];by_cases e1 : s.A.X = s.B.X <;> by_cases c : s.A.Y = s.B.Y <;> simp [qbw,a,b,e1,c]
    · rw [Q9 b,Q7,qr];simp [qbw,b]
  · rw [Q9 a,Q7,qr,Q7,qr];simp [qbw,a]
theorem qjt (p : qf) : q53 p = some (decide (PtB p)):=by
  unfold q53;by_cases h : PtB p
  · have a:=h;unfold PtB at a;rw [Q8 h,Q8 (show p.X ≥ -1000000 by omega),Q6,Q8 (show p.X≤1000000 by omega),Q8 (show p.Y ≥ -1000000 by omega),Q8 (show p.Y≤1000000 by omega)];rfl
  · have a:=h;unfold PtB at a;rw [Q9 h];by_cases d : p.X ≥ -1000000 <;> by_cases b : p.X≤1000000 <;> by_cases f : p.Y ≥ -1000000 <;> by_cases c : p.Y≤1000000
    all_goals first | omega | (simp only [d,b,f,c,decide_true,decide_false,Q6,Q7,qr])
theorem qvc (s : Qw) : q7k s = some (decide (SegV s)):=by
  unfold q7k;rw [qjt,qjt];simp only [beqI];by_cases e1 : s.A.X = s.B.X <;> by_cases c : s.A.Y = s.B.Y <;> by_cases a : PtB s.A <;> by_cases b : PtB s.B <;> simp [qbw,a,b,e1,c]
end Go.Sh
namespace Go.Sh
open Go Go.Am
open Classical
theorem dlt' {k n : Nat} (h : k < n) : decide ((k : Int) < (n : Int)) = true:=Q8 q9
theorem dnl' {n : Nat} : decide ((n : Int) < (n : Int)) = false:=Q9 q9
theorem beqP (a b : qf) : ((a.X == b.X) && ((a.Y == b.Y) && true)) = decide (a = b):=by
  obtain ⟨f,h⟩:=a;obtain ⟨bx,c⟩:=b;simp only [beqI,Bool.and_true,qf.mk.injEq];by_cases g : f = bx <;> by_cases d : h = c <;> simp [g,d]
theorem beqG (a b : qm) : ((a.A == b.A) && ((a.B == b.B) && true)) = decide (a = b):=by
  obtain ⟨f,h⟩:=a;obtain ⟨bx,c⟩:=b;simp only [beqI,Bool.and_true,qm.mk.injEq];by_cases g : f = bx <;> by_cases d : h = c <;> simp [g,d]
theorem q6q {α : Type} [DecidableEq α] {f : Int→Option (Int ⊕ (Unit ⊕ Bool))} {p q : List α} (j : p.length = q.length) (r : p.length≤1000000)
    (hs : ∀ k (a : k < p.length) (c : k < q.length),f (k : Int) = if p[k] = q[k] then some (.inl (w64 ((k : Int) + 1))) else some (.inr (.inr false))) (hd : f (p.length : Int) = some (.inr (.inl ()))) :
    loop f 0 = some (if p = q then .inl () else .inr false):=by
  have:=Kx (f:=f) (σ:=Unit) (fun k _=>(k : Int)) p.length (fun k _=>∀ i (a : i < p.length) (c : i < q.length),i < k→p[i] = q[i]) (fun o=>o = if p = q then .inl () else .inr false) ?_ ?_ (k0:=0) (c0:=()) q9 (fun i _ _ h=>q9)
  · obtain ⟨b,a,rfl⟩:=this;exact a
  · rintro k _ hk d;have c : k < q.length:=by omega
    have:=hs k hk c;by_cases e : p[k] = q[k]
    · rw [qz e,Qd q9] at this;refine .inl ⟨(),by rw [this];rfl,fun i g l n=>?_⟩;by_cases m : i = k
      · subst m;exact e
      · exact d i g l q9
    · rw [qy e] at this;refine .inr ⟨_,this,?_⟩;rw [qy];rintro rfl;exact e rfl
  · rintro _ d;refine ⟨_,hd,?_⟩;rw [qz];exact List.ext_getElem j fun i a c=>d i a c a
theorem qva (p q : Ku) (c : p.Nodes.length≤1000000) (d : p.Edges.length≤1000000) : q7j p q = some (decide (p = q)):=by
  obtain ⟨N,E⟩:=p;obtain ⟨a,b⟩:=q;unfold q7j;simp only at c d ⊢;by_cases g : N.length = a.length
  · by_cases j : E.length = b.length
    · have e1 : ((N.length : Int) != (a.length : Int)) = false:=by rw [g];simp
      have l : ((E.length : Int) != (b.length : Int)) = false:=by rw [j];simp
      have f1 : loop (q57 {Nodes:=N,Edges:=E} {Nodes:=a,Edges:=b}) 0 = some (if N = a then .inl () else .inr false):=by
        refine q6q g c (fun k c d=>?_) ?_
        · simp only [q57,dlt' c,Q6,K0 c,K0 d,qr,beqP];by_cases e : N[k] = a[k] <;> simp [e]
        · simp only [q57,dnl',Q7]
      have m : loop (q58 {Nodes:=N,Edges:=E} {Nodes:=a,Edges:=b}) 0 = some (if E = b then .inl () else .inr false):=by
        refine q6q j d (fun k c d=>?_) ?_
        · simp only [q58,dlt' c,Q6,K0 c,K0 d,qr,beqG];by_cases e : E[k] = b[k] <;> simp [e]
        · simp only [q58,dnl',Q7]
      rw [e1,Q7,l,qr,Q7,f1,m];by_cases f : N = a <;> by_cases n : E = b <;> simp [f,n]
    · have e1 : ((N.length : Int) != (a.length : Int)) = false:=by rw [g];simp
      have l : ((E.length : Int) != (b.length : Int)) = true:=by simp;omega
      have f : ¬ E = b:=fun h=>j (by rw [h]);rw [e1,Q7,l,qr,Q6];simp [f]
  · have e1 : ((N.length : Int) != (a.length : Int)) = true:=by simp;omega
    have f : ¬ N = a:=fun h=>g (by rw [h]);rw [e1,Q6,qr,Q6];simp [f]
end Go.Sh
namespace Go.Sh
open Go Go.Am
open Classical
abbrev net0 : Ku:={Nodes:=[],Edges:=[]}
theorem qba (l : List Qw) (m : l.length≤400) : loop (q64 l) 0 = some (if ∀ s∈l,SegV s then .inl () else .inr (net0,8))∧loop (q56 l) 0 = some (if ∀ s∈l,SegV s then .inl () else .inr (net0,8)):=by
  have key : ∀ f : Int→Option (Int ⊕ (Unit ⊕ (Ku × Int))),(∀ k (hk : k < l.length),f (k : Int) = if SegV l[k] then some (.inl (w64 ((k : Int) + 1))) else some (.inr (.inr (net0,8))))→f (l.length : Int) = some (.inr (.inl ()))→loop f 0 = some (if ∀ s∈l,SegV s then .inl () else .inr (net0,8)):=by
    intro f hs hd;have:=Kx (f:=f) (σ:=Unit) (fun k _=>(k : Int)) l.length (fun k _=>∀ i (hi : i < l.length),i < k→SegV l[i]) (fun o=>o = if ∀ s∈l,SegV s then .inl () else .inr (net0,8)) ?_ ?_ (k0:=0) (c0:=()) q9 (fun i hi h=>q9)
    · obtain ⟨b,j,rfl⟩:=this;exact j
    · rintro k _ hk c;have:=hs k hk;by_cases a : SegV l[k]
      · rw [qz a,Qd q9] at this;refine .inl ⟨(),by rw [this];rfl,fun i hi g=>?_⟩;by_cases e : i = k
        · subst e;exact a
        · exact c i hi q9
      · rw [qy a] at this;exact .inr ⟨_,this,by rw [qy (fun h=>a (h _ (Kw hk)))]⟩
    · rintro _ c;refine ⟨_,hd,?_⟩;rw [qz];intro s d;obtain ⟨i,hi,rfl⟩:=List.mem_iff_getElem.1 d;exact c i hi hi
  constructor
  · refine key _ (fun k hk=>?_) (by simp only [q64,dnl',Q7]);simp only [q64,dlt' hk,Q6,K0 hk,qr,qye];by_cases h : SegV l[k]
    · rw [qz h,Q8 h];rfl
    · rw [qy h,Q9 h];rfl
  · refine key _ (fun k hk=>?_) (by simp only [q56,dnl',Q7]);simp only [q56,dlt' hk,Q6,K0 hk,qr,qvc];by_cases h : SegV l[k]
    · rw [qz h,Q8 h];rfl
    · rw [qy h,Q9 h];rfl
theorem qqd {l : List Qw} (a : l.length≤400) (b : ∀ s∈l,SegV s) : (∃ n,q1x l = some (n,0)∧q1q l = some (n,0)∧q4f (rowP l) (colP l) n)∨(q1x l = some (net0,4)∧q1q l = some (net0,4)∧q6f (rowP l) (colP l)):=by
  unfold q1x q1q;rw [Q9 (show ¬ (l.length : Int) > 400 by omega),Q7,Q7,(qba l a).1,(qba l a).2,qz b,← qqp a b];rcases qiq a b with ⟨n,e,h⟩ | ⟨e,h⟩
  · exact .inl ⟨n,by rw [qr,e];rfl,by rw [qr,e];rfl,h⟩
  · exact .inr ⟨by rw [qr,e];rfl,by rw [qr,e];rfl,h⟩
theorem qqc (l : List Qw) : ∃ n c,q1x l = some (n,c)∧q1q l = some (n,c)∧n.Nodes.length≤400∧n.Edges.length≤800:=by
  by_cases a : l.length≤400
  · by_cases b : ∀ s∈l,SegV s
    · rcases qqd a b with ⟨n,e1,d,h⟩ | ⟨e1,d,_⟩
      · exact ⟨n,0,e1,d,h.nlen,by have:=h.nlen;have:=h.elen;omega⟩
      · exact ⟨net0,4,e1,d,by simp [net0],by simp [net0]⟩
    · refine ⟨net0,8,?_,?_,by simp [net0],by simp [net0]⟩
      · unfold q1x;rw [Q9 (show ¬ (l.length : Int) > 400 by omega),Q7,(qba l a).1,qy b];rfl
      · unfold q1q;rw [Q9 (show ¬ (l.length : Int) > 400 by omega),Q7,(qba l a).2,qy b];rfl
  · refine ⟨net0,4,?_,?_,by simp [net0],by simp [net0]⟩
    · unfold q1x;rw [Q8 (show (l.length : Int) > 400 by omega)];rfl
    · unfold q1q;rw [Q8 (show (l.length : Int) > 400 by omega)];rfl
end Go.Sh
namespace Go.Sh
open Go Go.Am
theorem qqe (l : List Qw) (c : l.length≤1000000) : loop (q3b l l) 0 = some (.inl ()):=by
  have:=Kx (f:=q3b l l) (σ:=Unit) (fun k _=>(k : Int)) l.length (fun _ _=>True) (fun o=>o = .inl ()) ?_ ?_ (k0:=0) (c0:=()) q9 trivial
  · obtain ⟨b,a,rfl⟩:=this;exact a
  · rintro k _ hk _;refine .inl ⟨(),?_,trivial⟩;simp only [q3b,dlt' hk,Q6,K0 hk,qr,beq_self_eq_true,Bool.and_self,Bool.not_true,Q7];rw [Qd q9];rfl
  · rintro _ _;exact ⟨_,by simp only [q3b,dnl',Q7],rfl⟩
theorem qzd (l : List Qw) : qb6 l = some true:=by
  unfold qb6
  have g : ∃ b,((cond (decide ((l.length : Int) > 40)) (some (decide ((l.length : Int)≤400))) (some false)).bind fun c1=>(cond c1 (some true) (some (decide ((l.length : Int) > 420))))) = some b∧(b = false→l.length≤1000):=by
    by_cases a : (l.length : Int) > 40
    · by_cases d : (l.length : Int)≤400
      · exact ⟨true,by rw [Q8 a,Q8 d];rfl,fun h=>by cases h⟩
      · by_cases f : (l.length : Int) > 420
        · exact ⟨true,by rw [Q8 a,Q9 d,Q8 f];rfl,fun h=>by cases h⟩
        · exact ⟨false,by rw [Q8 a,Q9 d,Q9 f];rfl,fun _=>q9⟩
    · exact ⟨false,by rw [Q9 a,Q9 (show ¬ (l.length : Int) > 420 by omega)];rfl,fun _=>by omega⟩
  obtain ⟨b,e,hb⟩:=g;rw [← Option.bind_assoc,e,qr]
  cases b with
  | true=>rfl
  | false=>
    have k:=hb rfl;obtain ⟨n,c,e1,j,a,d⟩:=qqc l;rw [Q7,Ye (by simp;omega)];simp only [qr,List.nil_append,e1,j,qqe l q9,qva n n q9 q9,decide_true,Q6,beq_self_eq_true]
end Go.Sh
