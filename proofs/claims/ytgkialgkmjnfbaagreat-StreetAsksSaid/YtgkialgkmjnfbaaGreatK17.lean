/- Wc1 Wc2 Wc3 Wc4 Wc5 Wc6 Wc -/
import Derived.Test.YtgkialgkmjnfbaaGreatK16
namespace Go.Sh
open Go Go.Am
abbrev RW:=List (Int × (List qi × Nat))
abbrev kI : Int→DV:=fun n=>DV.int .i64 n
abbrev eL : List qi→DV:=fun l=>DV.sl 2 (l.map Q8)
def prR (R : RW) : List (Int × List qi):=R.map fun e=>(e.1,e.2.1)
def rv (R : RW) : List (DV × V):=R.map fun e=>(kI e.1,V.hs e.2.2 2 0 e.2.1.length)
def rb (R : RW) : List (Nat × Blk):=R.map fun e=>(e.2.2,Blk.dat 2 (e.2.1.map Q8))
def nm (R : RW) : List Nat:=R.map fun e=>e.2.2
abbrev HB (R C : RW) : List (Nat × Blk):=(0,.dat 2 [[.nilm,.nilm]])::(1,.mp true (rv R))::(2,.mp true (rv C))::(3,.cel 2 [[.mp 1,.mp 2]])::(rb R ++ rb C)
structure NmOk (R C : RW) (k : Nat) : Prop where
  nd : (nm R ++ nm C).Nodup
  lo : ∀ n∈nm R ++ nm C,4≤n
  hi : ∀ n∈nm R ++ nm C,n < k + 4
theorem q7k {α : Type} : ∀ {l : List (Nat × α)} {n : Nat} {b : α},(l.map (·.1)).Nodup→(find l n = some b↔(n,b)∈l)
  | [],n,b,_=>by simp [find]
  | (m,c)::r,n,b,h=>by
    simp only [List.map_cons,List.nodup_cons] at h
    rw [Qy]
    by_cases e : m = n
    · subst e
      simp only [if_true,Option.some.injEq,List.mem_cons,Prod.mk.injEq,true_and]
      constructor
      · intro a;exact .inl a.symm
      · rintro (a | a)
        · exact a.symm
        · exact absurd (List.mem_map_of_mem (f:=(·.1)) a) h.1
    · simp only [e,if_false,q7k h.2,List.mem_cons,Prod.mk.injEq]
      constructor
      · exact .inr
      · rintro (a | a)
        · exact absurd a.1.symm e
        · exact a
theorem qsx (R : RW) : (rb R).map (·.1) = nm R:=by simp [rb,nm]
theorem qb7 {R C : RW} {k : Nat} (h : NmOk R C k) : ((HB R C).map (·.1)).Nodup:=by
  have e : (HB R C).map (·.1) = 0::1::2::3::(nm R ++ nm C):=by simp [HB,qsx]
  rw [e];have lo:=h.lo;have a : ∀ j,j < 4→j ∉ nm R ++ nm C:=fun j c b=>by have:=lo j b;omega
  simp only [List.nodup_cons,List.mem_cons,not_or];exact ⟨⟨q8,q8,q8,a 0 q8⟩,⟨q8,q8,a 1 q8⟩,⟨q8,a 2 q8⟩,a 3 q8,h.nd⟩
theorem q4x {R C : RW} {k : Nat} (h : NmOk R C k) {e : Int × (List qi × Nat)} (a : e∈R) : find (HB R C) e.2.2 = some (.dat 2 (e.2.1.map Q8)):=by
  rw [q7k (qb7 h)];have : (e.2.2,Blk.dat 2 (e.2.1.map Q8))∈rb R:=List.mem_map.2 ⟨e,a,rfl⟩;simp [HB,this]
theorem q4w {R C : RW} {k : Nat} (h : NmOk R C k) {e : Int × (List qi × Nat)} (a : e∈C) : find (HB R C) e.2.2 = some (.dat 2 (e.2.1.map Q8)):=by
  rw [q7k (qb7 h)];have : (e.2.2,Blk.dat 2 (e.2.1.map Q8))∈rb C:=List.mem_map.2 ⟨e,a,rfl⟩;simp [HB,this]
theorem qgu {R C : RW} {k n : Nat} (h : NmOk R C k) {b : Blk} (d : find (HB R C) n = some b) : n < k + 4:=by
  rw [q7k (qb7 h)] at d;simp only [HB,List.mem_cons,Prod.mk.injEq,List.mem_append] at d;have hi:=h.hi
  have key : ∀ {X : RW},(n,b)∈rb X→(∀ m∈nm X,m < k + 4)→n < k + 4:=fun c g=>by
    obtain ⟨e,f,a⟩:=List.mem_map.1 c;cases a;exact g _ (List.mem_map.2 ⟨e,f,rfl⟩)
  rcases d with a | a | a | a | a | a
  · omega
  · omega
  · omega
  · omega
  · exact key a fun m c=>hi m (List.mem_append_left _ c)
  · exact key a fun m c=>hi m (List.mem_append_right _ c)
theorem qn3 {base : Nat} {st st' : AS} (fz : List Nat) (hs : ∀ t d,st'.get t = some d→∃ v,st.get t = some v∧Wv st (fun n=>n) fz [] st'.nx v d)
    (hb : ∀ n a,st'.blk n = some a→n < st'.nx∧n ∉ fz∧∃ b,st.blk n = some b∧Wb st (fun n=>n) fz [] st'.nx b a) (f : base≤st'.nx) (c : ∀ n∈fz,base≤n) : WkE base st st':=
  ⟨fun n=>n,fz,[],hs,fun n a h=>⟨(hb n a h).1,.inr ⟨qe,(hb n a h).2.2⟩⟩,fun n m _ _ _ _ _ _ e=>e,fun n b h _=>(hb n b h).2.1,fun _ _=>rfl,f,c,qe⟩
def SlOk (st : AS) (fz : List Nat) (nx : Nat) : List (Nat × V)→Prop
  | []=>True
  | (t,v')::r=>(∃ v,st.get t = some v∧Wv st (fun n=>n) fz [] nx v v')∧SlOk st fz nx r
theorem SlOk.get {st : AS} {fz : List Nat} {nx : Nat} {l : List (Nat × V)} (h : SlOk st fz nx l) {t : Nat} {b : V} (a : find l t = some b) : ∃ v,st.get t = some v∧Wv st (fun n=>n) fz [] nx v b:=by
  induction l with
  | nil=>simp [find] at a
  | cons e r ih=>
    obtain ⟨m,c⟩:=e;rw [Qy] at a;split at a
    · rename_i e;subst e;cases a;exact h.1
    · exact ih h.2 a
theorem qsw {R C : RW} {k : Nat} (h : NmOk R C k) : ∀ n∈nm R,n < k + 4:=fun n a=>h.hi n (List.mem_append_left _ a)
theorem qsv {R C : RW} {k : Nat} (h : NmOk R C k) : ∀ n∈nm C,n < k + 4:=fun n a=>h.hi n (List.mem_append_right _ a)
theorem q7u (key : Int) : ∀ R : RW,Y2 key (prR R) = Y2 key R
  | []=>rfl
  | (a,v)::r=>by
    have b:=q7u key r
    unfold prR at b
    simp only [prR,List.map_cons,Y2,b]
theorem qcg (key : Int) (R : RW) : Yy false [some .i64] (kI key) (rv R) = some (Y2 key R):=
  qcf (ek:=kI) (ag:=false) (ks:=[some .i64]) Je (fun b : List qi × Nat=>V.hs b.2 2 0 b.1.length) (fun e : Int × (List qi × Nat)=>(kI e.1,V.hs e.2.2 2 0 e.2.1.length)) (fun _=>rfl) key R
theorem qf9 {β : Type} {key : Int} : ∀ {R : List (Int × β)} {j : Nat},Y2 key R = some j→∃ b,R[j]? = some (key,b)
  | [],j,h=>by simp [Y2] at h
  | (a,v)::r,j,h=>by
    simp only [Y2] at h
    by_cases e : key = a
    · subst e;simp at h;subst h;exact ⟨v,rfl⟩
    · simp only [e,if_false,Kw] at h
      obtain ⟨i,hi,rfl⟩:=h
      obtain ⟨b,hb⟩:=qf9 hi
      exact ⟨b,by simpa using hb⟩
theorem qjz {key : Int} {R : RW} {j : Nat} {xs : List qi} {r : Nat} (h : Y2 key R = some j) (a : R[j]? = some (key,(xs,r))) : K9 [] key (prR R) = xs:=by
  have:=qch ([] : List qi) key (prR R);rw [q7u,h] at this;simp [prR,a] at this;exact this.1.symm
theorem qjy {key : Int} {R : RW} (h : Y2 key R = none) : K9 [] key (prR R) = []:=by
  have:=qch ([] : List qi) key (prR R);rw [q7u,h] at this;simp at this
  first | exact this.1 | exact this.1.symm
theorem qk6 {key : Int} {R : RW} {j : Nat} {l : List qi} {n : Nat} (h : Y2 key R = some j) : Ko key l (prR R) = prR (R.set j (key,(l,n))):=by
  have:=q7v key l (prR R);rw [q7u,h] at this;rw [← this];simp [prR,List.map_set]
theorem qk5 {key : Int} {R : RW} {l : List qi} {n : Nat} (h : Y2 key R = none) : Ko key l (prR R) = prR (R ++ [(key,(l,n))]):=by
  have:=q7v key l (prR R);rw [q7u,h] at this;rw [← this];simp [prR]
end Go.Sh
namespace Go.Sh
open Go Go.Am
theorem qkc {R : RW} (h : (nm R).Nodup) {i j : Nat} {a b : Int × (List qi × Nat)} (hi : R[i]? = some a) (l : R[j]? = some b) (d : i≠j) : a.2.2≠b.2.2:=by
  intro e;obtain ⟨m,e1⟩:=List.getElem?_eq_some_iff.1 hi;obtain ⟨k,n⟩:=List.getElem?_eq_some_iff.1 l;have f : i < (nm R).length:=by simpa [nm] using m
  have g : j < (nm R).length:=by simpa [nm] using k
  have : (nm R)[i] = (nm R)[j]:=by simp only [nm,List.getElem_map,e1,n,e]
  have hp:=List.pairwise_iff_getElem.1 h;rcases Nat.lt_or_gt_of_ne d with c | c
  · exact hp i j f g c this
  · exact hp j i g f c this.symm
theorem q5k {R C : RW} {k : Nat} (h : NmOk R C k) {j : Nat} {b : Int × (List qi × Nat)} (t : R[j]? = some b) (key : Int) (l : List qi) : NmOk (R.set j (key,(l,k + 5))) C (k + 2):=by
  have e : nm (R.set j (key,(l,k + 5))) = (nm R).set j (k + 5):=by simp [nm,List.map_set]
  have q : ∀ n∈nm (R.set j (key,(l,k + 5))),n = k + 5∨n∈nm R:=fun n g=>by
    rw [e] at g;rcases List.mem_or_eq_of_mem_set g with c | c
    · exact .inr c
    · exact .inl c
  have d : k + 5 ∉ nm R ++ nm C:=fun s=>by have:=h.hi _ s;omega
  have f:=List.nodup_append.1 h.nd;refine ⟨?_,fun n g=>?_,fun n g=>?_⟩
  · rw [List.nodup_append];refine ⟨?_,f.2.1,fun a r b hb=>?_⟩
    · rw [e];have o : j < (nm R).length:=by simpa [nm] using K7 t
      have p:=q1b (k + 5) (l:=nm R) (j:=j) (y:=(nm R)[j]) (List.getElem?_eq_getElem o);refine (p.1.nodup_iff).2 (List.nodup_cons.2 ⟨fun s=>d (List.mem_append_left _ (List.mem_of_mem_eraseIdx s)),?_⟩);exact (List.nodup_cons.1 ((p.2.nodup_iff).1 f.1)).2
    · rcases q a r with rfl | r
      · rintro rfl;exact d (List.mem_append_right _ hb)
      · exact f.2.2 a r b hb
  · rcases List.mem_append.1 g with c | c
    · rcases q n c with rfl | m
      · omega
      · exact h.lo n (List.mem_append_left _ m)
    · exact h.lo n (List.mem_append_right _ c)
  · rcases List.mem_append.1 g with c | c
    · rcases q n c with rfl | m
      · omega
      · have:=h.hi n (List.mem_append_left _ m);omega
    · have:=h.hi n (List.mem_append_right _ c);omega
theorem q5j {R C : RW} {k : Nat} (h : NmOk R C k) (key : Int) (l : List qi) : NmOk (R ++ [(key,(l,k + 5))]) C (k + 2):=by
  have e : nm (R ++ [(key,(l,k + 5))]) = nm R ++ [k + 5]:=by simp [nm]
  have d : k + 5 ∉ nm R ++ nm C:=fun j=>by have:=h.hi _ j;omega
  have f:=List.nodup_append.1 h.nd;refine ⟨?_,fun n g=>?_,fun n g=>?_⟩
  · rw [e,List.append_assoc,List.nodup_append];refine ⟨f.1,?_,fun a m b hb=>?_⟩
    · rw [List.singleton_append,List.nodup_cons];exact ⟨fun j=>d (List.mem_append_right _ j),f.2.1⟩
    · rw [List.singleton_append] at hb;rcases List.mem_cons.1 hb with rfl | hb
      · rintro rfl;exact d (List.mem_append_left _ m)
      · exact f.2.2 a m b hb
  · rw [e,List.mem_append,List.mem_append] at g;rcases g with (c | c) | c
    · exact h.lo n (List.mem_append_left _ c)
    · simp at c;omega
    · exact h.lo n (List.mem_append_right _ c)
  · rw [e,List.mem_append,List.mem_append] at g;rcases g with (c | c) | c
    · have:=h.hi n (List.mem_append_left _ c);omega
    · simp at c;omega
    · have:=h.hi n (List.mem_append_right _ c);omega
theorem Jv {R C : RW} {k : Nat} (h : NmOk R C k) : NmOk C R k:=by
  refine ⟨?_,fun n c=>h.lo n ?_,fun n c=>h.hi n ?_⟩
  · have:=h.nd;rw [List.nodup_append] at this ⊢;exact ⟨this.2.1,this.1,fun a d b hb e=>this.2.2 b hb a d e.symm⟩
  · rw [List.mem_append] at c ⊢;exact c.symm
  · rw [List.mem_append] at c ⊢;exact c.symm
theorem q4v {R C : RW} {k n : Nat} {b : Blk} (h : NmOk R C k) (c : find (HB R C) n = some b) :
    (n = 0∧b = .dat 2 [[.nilm,.nilm]])∨(n = 1∧b = .mp true (rv R))∨(n = 2∧b = .mp true (rv C))∨(n = 3∧b = .cel 2 [[.mp 1,.mp 2]])∨(∃ (i : Nat) (e : Int × (List qi × Nat)),R[i]? = some e∧n = e.2.2∧b = .dat 2 (e.2.1.map Q8))∨(∃ (i : Nat) (e : Int × (List qi × Nat)),C[i]? = some e∧n = e.2.2∧b = .dat 2 (e.2.1.map Q8)):=by
  rw [q7k (qb7 h)] at c;simp only [HB,List.mem_cons,Prod.mk.injEq,List.mem_append] at c
  have key : ∀ {X : RW},(n,b)∈rb X→∃ (i : Nat) (e : Int × (List qi × Nat)),X[i]? = some e∧n = e.2.2∧b = .dat 2 (e.2.1.map Q8):=fun d=>by
    obtain ⟨e,f,a⟩:=List.mem_map.1 d;cases a;obtain ⟨i,hi,rfl⟩:=List.mem_iff_getElem.1 f;exact ⟨i,_,List.getElem?_eq_getElem hi,rfl,rfl⟩
  rcases c with a | a | a | a | a | a
  · exact .inl a
  · exact .inr (.inl a)
  · exact .inr (.inr (.inl a))
  · exact .inr (.inr (.inr (.inl a)))
  · exact .inr (.inr (.inr (.inr (.inl (key a)))))
  · exact .inr (.inr (.inr (.inr (.inr (key a)))))
theorem Yj {R : RW} {i : Nat} {e : Int × (List qi × Nat)} (h : R[i]? = some e) : e.2.2∈nm R:=List.mem_map.2 ⟨e,List.mem_of_getElem? h,rfl⟩
theorem q74 {st : AS} {sl : List (Nat × V)} {R C : RW} {k c : Nat} (fz : List Nat) (g : ∀ n∈fz,k + 4≤n) (h : NmOk R C k) (hk : k≤c) (hs : SlOk st fz (c + 4) sl) (hb : ∀ n b,find (HB R C) n = some b→st.blk n = some b) : WkE 0 st ⟨sl,HB R C,c + 4⟩:=by
  refine qn3 fz (fun t s o=>hs.get o) (fun n j a=>?_) q8 qe;have m:=qgu h a;refine ⟨by show n < c + 4;omega,fun r=>by have:=g n r;omega,j,hb n j a,?_⟩
  have d : ∀ {X : RW},(∀ n∈nm X,n < k + 4)→Wb st (fun n=>n) fz [] (c + 4) (.mp true (rv X)) (.mp true (rv X)):=by
    intro X p;refine .mp true rfl fun i e u l f=>?_;rw [l] at f;cases f;obtain ⟨x,q,rfl⟩:=List.mem_map.1 (List.mem_of_getElem? l);exact ⟨rfl,.hs rfl qe (by have:=p _ (List.mem_map.2 ⟨x,q,rfl⟩);omega),rfl⟩
  rcases q4v h a with ⟨rfl,rfl⟩ | ⟨rfl,rfl⟩ | ⟨rfl,rfl⟩ | ⟨rfl,rfl⟩ | ⟨i,e,_,rfl,rfl⟩ | ⟨i,e,_,rfl,rfl⟩
  · exact .dat _ _
  · exact d (qsw h)
  · exact d (qsv h)
  · exact Un (.cons (.mp rfl qe (by show 1 < c + 4;omega)) rfl (.cons (.mp rfl qe (by show 2 < c + 4;omega)) rfl .nil))
  · exact .dat _ _
  · exact .dat _ _
theorem qra {R C : RW} {k j : Nat} {key : Int} {xs l : List qi} {r : Nat} {s : List (List DV)} (h : NmOk R C k) (d : R[j]? = some (key,(xs,r))) :
    ∀ n b,find (HB (R.set j (key,(l,k + 5))) C) n = some b→find (repl ((k + 5,.dat 2 (l.map Q8))::repl ((k + 4,.dat 2 s)::HB R C) r .dead) 1 (.mp true (rv (R.set j (key,(l,k + 5)))))) n = some b:=by
  intro n b m;have o:=h.lo r (List.mem_append_left _ (Yj d));have p:=h.hi r (List.mem_append_left _ (Yj d))
  have old : ∀ n b,n≠1→n≠r→n < k + 4→find (HB R C) n = some b→find (repl ((k + 5,.dat 2 (l.map Q8))::repl ((k + 4,.dat 2 s)::HB R C) r .dead) 1 (.mp true (rv (R.set j (key,(l,k + 5)))))) n = some b:=fun n b f g u q=>by
    rw [Kt,Q1 q8,Qy,Q1 q8,Kt,Q1 q8,Qy,Q1 q8];exact q
  rcases q4v (q5k h d key l) m with ⟨rfl,rfl⟩ | ⟨rfl,rfl⟩ | ⟨rfl,rfl⟩ | ⟨rfl,rfl⟩ | ⟨i,e,a,rfl,rfl⟩ | ⟨i,e,a,rfl,rfl⟩
  · exact old _ _ q8 q8 q8 rfl
  · have f : find ((k + 5,.dat 2 (l.map Q8))::repl ((k + 4,.dat 2 s)::HB R C) r .dead) 1 = some (.mp true (rv R)):=by
      rw [Qy,Q1 q8,Kt,Q1 q8,Qy,Q1 q8];rfl
    rw [Kt,Q0 rfl,f];rfl
  · exact old _ _ q8 q8 q8 rfl
  · exact old _ _ q8 q8 q8 rfl
  · rw [List.getElem?_set] at a;by_cases c : j = i
    · rw [Q0 c,Q0 (K7 d)] at a;cases a;rw [Kt,Q1 (by show ¬ 1 = k + 5;omega),Qy,Q0 rfl]
    · rw [Q1 c] at a;have f:=qkc (List.nodup_append.1 h.nd).1 a d (fun e=>c e.symm);have g:=h.lo _ (List.mem_append_left _ (Yj a));exact old _ _ q8 f (h.hi _ (List.mem_append_left _ (Yj a))) (q4x h (List.mem_of_getElem? a))
  · have f : e.2.2≠r:=fun t=>(List.nodup_append.1 h.nd).2.2 r (Yj d) e.2.2 (Yj a) t.symm;have g:=h.lo _ (List.mem_append_right _ (Yj a));exact old _ _ q8 f (h.hi _ (List.mem_append_right _ (Yj a))) (q4w h (List.mem_of_getElem? a))
theorem qr9 {R C : RW} {k j : Nat} {key : Int} {xs l : List qi} {r : Nat} {s : List (List DV)} (h : NmOk R C k) (d : C[j]? = some (key,(xs,r))) :
    ∀ n b,find (HB R (C.set j (key,(l,k + 5)))) n = some b→find (repl ((k + 5,.dat 2 (l.map Q8))::repl ((k + 4,.dat 2 s)::HB R C) r .dead) 2 (.mp true (rv (C.set j (key,(l,k + 5)))))) n = some b:=by
  intro n b m;have o:=h.lo r (List.mem_append_right _ (Yj d));have p:=h.hi r (List.mem_append_right _ (Yj d))
  have old : ∀ n b,n≠2→n≠r→n < k + 4→find (HB R C) n = some b→find (repl ((k + 5,.dat 2 (l.map Q8))::repl ((k + 4,.dat 2 s)::HB R C) r .dead) 2 (.mp true (rv (C.set j (key,(l,k + 5)))))) n = some b:=fun n b f g u q=>by
    rw [Kt,Q1 q8,Qy,Q1 q8,Kt,Q1 q8,Qy,Q1 q8];exact q
  rcases q4v (Jv (q5k (Jv h) d key l)) m with ⟨rfl,rfl⟩ | ⟨rfl,rfl⟩ | ⟨rfl,rfl⟩ | ⟨rfl,rfl⟩ | ⟨i,e,a,rfl,rfl⟩ | ⟨i,e,a,rfl,rfl⟩
  · exact old _ _ q8 q8 q8 rfl
  · exact old _ _ q8 q8 q8 rfl
  · have f : find ((k + 5,.dat 2 (l.map Q8))::repl ((k + 4,.dat 2 s)::HB R C) r .dead) 2 = some (.mp true (rv C)):=by
      rw [Qy,Q1 q8,Kt,Q1 q8,Qy,Q1 q8];rfl
    rw [Kt,Q0 rfl,f];rfl
  · exact old _ _ q8 q8 q8 rfl
  · have f : e.2.2≠r:=fun t=>(List.nodup_append.1 h.nd).2.2 e.2.2 (Yj a) r (Yj d) t;have g:=h.lo _ (List.mem_append_left _ (Yj a));exact old _ _ q8 f (h.hi _ (List.mem_append_left _ (Yj a))) (q4x h (List.mem_of_getElem? a))
  · rw [List.getElem?_set] at a;by_cases c : j = i
    · rw [Q0 c,Q0 (K7 d)] at a;cases a;rw [Kt,Q1 (by show ¬ 2 = k + 5;omega),Qy,Q0 rfl]
    · rw [Q1 c] at a;have f:=qkc (List.nodup_append.1 h.nd).2.1 a d (fun e=>c e.symm);have g:=h.lo _ (List.mem_append_right _ (Yj a));exact old _ _ q8 f (h.hi _ (List.mem_append_right _ (Yj a))) (q4w h (List.mem_of_getElem? a))
theorem qw4 {R C : RW} {k : Nat} {key : Int} {l : List qi} {s : List (List DV)} (h : NmOk R C k) :
    ∀ n b,find (HB (R ++ [(key,(l,k + 5))]) C) n = some b→find (repl ((k + 5,.dat 2 (l.map Q8))::(k + 4,.dat 2 s)::HB R C) 1 (.mp true (rv (R ++ [(key,(l,k + 5))])))) n = some b:=by
  intro n b g
  have old : ∀ n b,n≠1→n < k + 4→find (HB R C) n = some b→find (repl ((k + 5,.dat 2 (l.map Q8))::(k + 4,.dat 2 s)::HB R C) 1 (.mp true (rv (R ++ [(key,(l,k + 5))])))) n = some b:=fun n b f o m=>by
    rw [Kt,Q1 q8,Qy,Q1 q8,Qy,Q1 q8];exact m
  rcases q4v (q5j h key l) g with ⟨rfl,rfl⟩ | ⟨rfl,rfl⟩ | ⟨rfl,rfl⟩ | ⟨rfl,rfl⟩ | ⟨i,e,c,rfl,rfl⟩ | ⟨i,e,c,rfl,rfl⟩
  · exact old _ _ q8 q8 rfl
  · have f : find ((k + 5,.dat 2 (l.map Q8))::(k + 4,.dat 2 s)::HB R C) 1 = some (.mp true (rv R)):=by
      rw [Qy,Q1 q8,Qy,Q1 q8];rfl
    rw [Kt,Q0 rfl,f];rfl
  · exact old _ _ q8 q8 rfl
  · exact old _ _ q8 q8 rfl
  · rcases List.mem_append.1 (List.mem_of_getElem? c) with a | a
    · have d : e.2.2∈nm R:=List.mem_map.2 ⟨e,a,rfl⟩;have j:=h.lo _ (List.mem_append_left _ d);exact old _ _ q8 (h.hi _ (List.mem_append_left _ d)) (q4x h a)
    · simp at a;subst a;rw [Kt,Q1 (by show ¬ 1 = k + 5;omega),Qy,Q0 rfl]
  · have j:=h.lo _ (List.mem_append_right _ (Yj c));exact old _ _ q8 (h.hi _ (List.mem_append_right _ (Yj c))) (q4w h (List.mem_of_getElem? c))
theorem qw3 {R C : RW} {k : Nat} {key : Int} {l : List qi} {s : List (List DV)} (h : NmOk R C k) :
    ∀ n b,find (HB R (C ++ [(key,(l,k + 5))])) n = some b→find (repl ((k + 5,.dat 2 (l.map Q8))::(k + 4,.dat 2 s)::HB R C) 2 (.mp true (rv (C ++ [(key,(l,k + 5))])))) n = some b:=by
  intro n b g
  have old : ∀ n b,n≠2→n < k + 4→find (HB R C) n = some b→find (repl ((k + 5,.dat 2 (l.map Q8))::(k + 4,.dat 2 s)::HB R C) 2 (.mp true (rv (C ++ [(key,(l,k + 5))])))) n = some b:=fun n b f o m=>by
    rw [Kt,Q1 q8,Qy,Q1 q8,Qy,Q1 q8];exact m
  rcases q4v (Jv (q5j (Jv h) key l)) g with ⟨rfl,rfl⟩ | ⟨rfl,rfl⟩ | ⟨rfl,rfl⟩ | ⟨rfl,rfl⟩ | ⟨i,e,c,rfl,rfl⟩ | ⟨i,e,c,rfl,rfl⟩
  · exact old _ _ q8 q8 rfl
  · exact old _ _ q8 q8 rfl
  · have f : find ((k + 5,.dat 2 (l.map Q8))::(k + 4,.dat 2 s)::HB R C) 2 = some (.mp true (rv C)):=by
      rw [Qy,Q1 q8,Qy,Q1 q8];rfl
    rw [Kt,Q0 rfl,f];rfl
  · exact old _ _ q8 q8 rfl
  · have j:=h.lo _ (List.mem_append_left _ (Yj c));exact old _ _ q8 (h.hi _ (List.mem_append_left _ (Yj c))) (q4x h (List.mem_of_getElem? c))
  · rcases List.mem_append.1 (List.mem_of_getElem? c) with a | a
    · have d : e.2.2∈nm C:=List.mem_map.2 ⟨e,a,rfl⟩;have j:=h.lo _ (List.mem_append_right _ d);exact old _ _ q8 (h.hi _ (List.mem_append_right _ d)) (q4w h a)
    · simp at a;subst a;rw [Kt,Q1 (by show ¬ 2 = k + 5;omega),Qy,Q0 rfl]
end Go.Sh
namespace Go.Sh
open Go Go.Am
def Yr (ρ : Nat→Nat) (x : Fp) : Fp:=(x.1.map (·.map ρ),x.2.map ρ)
def Bd (m : Nat) (x : Fp) : Prop:=(∀ n∈x.2,n < m)∧∀ l,x.1 = some l→∀ n∈l,n < m
section
variable {ρ : Nat→Nat} {m : Nat}
theorem qqx (F : List Fp) (k : Nat) : fpAt (F.map (Yr ρ)) k = Yr ρ (fpAt F k):=by
  unfold fpAt;rw [List.getElem?_map];cases F[k]? <;> rfl
theorem qrj (x : Fp) : Jr (Yr ρ x) = Jr x:=by
  obtain ⟨a,b⟩:=x;cases a <;> cases b <;> rfl
theorem qix (h : ∀ a b,a < m→b < m→ρ a = ρ b→a = b) {n : Nat} (d : n < m) : ∀ b : List Nat,(∀ a∈b,a < m)→hasN (b.map ρ) (ρ n) = hasN b n
  | [],_=>rfl
  | a::r,hb=>by
    have f:=qix h d r fun x j=>hb x (List.mem_cons_of_mem _ j)
    have g:=hb a List.mem_cons_self
    simp only [List.map_cons,hasN,f]
    congr 1
    rw [Bool.eq_iff_iff]
    constructor
    · intro c
      have:=h a n g d (Nat.eq_of_beq_eq_true c)
      subst this;exact Nat.beq_refl _
    · intro c
      have:=Nat.eq_of_beq_eq_true c
      subst this;exact Nat.beq_refl _
theorem qbe (h : ∀ a b,a < m→b < m→ρ a = ρ b→a = b) {a b : List Nat} (c : ∀ n∈a,n < m) (hb : ∀ n∈b,n < m) : q2d (a.map ρ) (b.map ρ) = q2d a b:=by
  unfold q2d;rw [List.all_map]
  induction a with
  | nil=>rfl
  | cons x r ih=>
    simp only [List.all_cons,Function.comp,qix h (c x List.mem_cons_self) b hb];rw [← ih fun n d=>c n (List.mem_cons_of_mem _ d)]
theorem qnf (h : ∀ a b,a < m→b < m→ρ a = ρ b→a = b) {x y : Fp} (d : Bd m x) (c : Bd m y) : U2 (Yr ρ x) (Yr ρ y) = U2 x y:=by
  obtain ⟨p,g⟩:=x;obtain ⟨o,j⟩:=y;have e1:=qbe h d.1 c.1;simp only at e1
  cases p with
  | none=>
    cases o with
    | none=>simp only [U2,Yr,Option.map_none,e1];cases g <;> cases j <;> rfl
    | some l=>
      have f:=qbe h (c.2 l rfl) d.1;simp only [U2,Yr,Option.map_none,Option.map_some,e1,f];cases j <;> rfl
  | some k=>
    have n:=qbe h (d.2 k rfl) c.1
    cases o with
    | none=>simp only [U2,Yr,Option.map_none,Option.map_some,e1,n];cases g <;> rfl
    | some l=>
      have f:=qbe h (c.2 l rfl) d.1;simp only [U2,Yr,Option.map_some,e1,f,n]
theorem qbs (h : ∀ a b,a < m→b < m→ρ a = ρ b→a = b) {F : List Fp} {ops : Array Oper} (d : ∀ x∈F,Bd m x) : q2f (F.map (Yr ρ)) ops = q2f F ops:=by
  have hb : ∀ k,Bd m (fpAt F k):=fun k=>by
    unfold fpAt
    cases hk : F[k]? with
    | none=>exact ⟨qe,qe⟩
    | some x=>exact d x (List.mem_of_getElem? hk)
  have c : ∀ i j,U2 (Yr ρ (fpAt F i)) (Yr ρ (fpAt F j)) = U2 (fpAt F i) (fpAt F j):=fun i j=>qnf h (hb i) (hb j);unfold q2f;simp only [qqx,qrj,c]
end
def ρ3 (r k n : Nat) : Nat:=if n = 4 then r else if n = 5 then k + 4 else if n = 6 then k + 5 else n
theorem ρ3_inj {r k : Nat} (f : 4≤r) (d : r≠k + 4) (g : r≠k + 5) : ∀ a b,a < 7→b < 7→ρ3 r k a = ρ3 r k b→a = b:=by
  intro a b c hb h;unfold ρ3 at h
  repeat' split at h
  all_goals omega
def FR (x : Nat) (a b : List Nat) : List Fp:=[(some [x],[x]),(some a,b),(some [],[5])] ++ List.replicate 15 (some [],[]) ++ [(some [x],[])] ++ List.replicate 3 (some [],[]) ++ [(some [3],[])] ++ List.replicate 4 (some [],[]) ++ [(some [3],[]),(some [],[])]
end Go.Sh
namespace Go.Sh
open Go Go.Am
section
variable {T : Tab} {sl : List (Nat × V)} {hp : List (Nat × Blk)} {nx : Nat} {mt : TypeId} {x kx m y : Operand} {i : TI} {n : Nat} {R : RW} {key : Int} {j : Nat} {xs l : List qi} {r q : Nat}
theorem qjj (h : T mt = some i) (b : i.keys = some [some .i64]) (c : i.eagg = false) (m : i.ezero = [.nilsl]) (l : AS.ev ⟨sl,hp,nx⟩ x = some (.mp n)) (hk : AS.ev ⟨sl,hp,nx⟩ kx = some (.d (kI key))) (hb : find hp n = some (.mp true (rv R)))
    (a : Y2 key R = some j) (g : R[j]? = some (key,(xs,r))) : opFn T ⟨sl,hp,nx⟩ (.lookup mt x kx false) = some (.hs r 2 0 xs.length,⟨sl,hp,nx⟩):=by
  have f : Yh false [some .i64] (kI key) = true:=Je.fit key
  have k : mget false [some .i64] (V.d .nilsl) (kI key) (rv R) = some (V.hs r 2 0 xs.length,true):=by
    unfold mget;rw [qcg,a];simp [rv,g]
  simp only [opFn,h,l,hk,b,c,AS.blk,hb,m,f,if_true,k,Option.map_some,qz]
theorem qjk (g : T mt = some i) (b : i.keys = some [some .i64]) (c : i.eagg = false) (k : i.ezero = [.nilsl]) (j : AS.ev ⟨sl,hp,nx⟩ x = some (.mp n)) (hk : AS.ev ⟨sl,hp,nx⟩ kx = some (.d (kI key))) (hb : find hp n = some (.mp true (rv R)))
    (a : Y2 key R = none) : opFn T ⟨sl,hp,nx⟩ (.lookup mt x kx false) = some (.d .nilsl,⟨sl,hp,nx⟩):=by
  have f : Yh false [some .i64] (kI key) = true:=Je.fit key
  have h : mget false [some .i64] (V.d .nilsl) (kI key) (rv R) = some (V.d .nilsl,false):=by
    unfold mget;rw [qcg,a]
  simp only [opFn,g,j,hk,b,c,AS.blk,hb,k,f,if_true,h,Option.map_some,qz]
theorem qk7 (k : T mt = some i) (b : i.keys = some [some .i64]) (c : i.eagg = false) (g : AS.ev ⟨sl,hp,nx⟩ m = some (.mp n)) (hk : AS.ev ⟨sl,hp,nx⟩ kx = some (.d (kI key))) (h : AS.ev ⟨sl,hp,nx⟩ y = some (.hs q 2 0 l.length))
    (hb : find hp n = some (.mp true (rv R))) (a : Y2 key R = some j) : opFn T ⟨sl,hp,nx⟩ (.mapUpdate mt m kx y) = some (.dead,⟨sl,repl hp n (.mp true (rv (R.set j (key,(l,q))))),nx⟩):=by
  have f : Yh false [some .i64] (kI key) = true:=Je.fit key
  have o : mput false [some .i64] (kI key) (V.hs q 2 0 l.length) (rv R) = some (rv (R.set j (key,(l,q)))):=by
    unfold mput;rw [qcg,a];simp [rv,List.map_set]
  have p : Kg (V.hs q 2 0 l.length) = true:=rfl;simp only [opFn,k,g,hk,h,b,c,AS.blk,hb,f,p,and_self,if_true,o,Option.map_some];rfl
theorem qk8 (j : T mt = some i) (b : i.keys = some [some .i64]) (c : i.eagg = false) (g : AS.ev ⟨sl,hp,nx⟩ m = some (.mp n)) (hk : AS.ev ⟨sl,hp,nx⟩ kx = some (.d (kI key))) (h : AS.ev ⟨sl,hp,nx⟩ y = some (.hs q 2 0 l.length))
    (hb : find hp n = some (.mp true (rv R))) (a : Y2 key R = none) : opFn T ⟨sl,hp,nx⟩ (.mapUpdate mt m kx y) = some (.dead,⟨sl,repl hp n (.mp true (rv (R ++ [(key,(l,q))]))),nx⟩):=by
  have f : Yh false [some .i64] (kI key) = true:=Je.fit key
  have k : mput false [some .i64] (kI key) (V.hs q 2 0 l.length) (rv R) = some (rv (R ++ [(key,(l,q))])):=by
    unfold mput;rw [qcg,a];simp [rv]
  have o : Kg (V.hs q 2 0 l.length) = true:=rfl;simp only [opFn,j,g,hk,h,b,c,AS.blk,hb,f,o,and_self,if_true,k,Option.map_some];rfl
end
theorem qb6 {x : Nat} {a b : List Nat} (g : x < 7) (d : ∀ n∈a,n < 7) (hb : ∀ n∈b,n < 7) : ∀ f∈FR x a b,Bd 7 f:=by
  intro f c;simp only [FR,List.mem_append,List.mem_cons,List.mem_replicate,List.not_mem_nil,or_false] at c;unfold Bd;have e : ∀ (P Q : Prop),P∧Q→P∧Q:=fun _ _ h=>h;rcases c with (((((((rfl | rfl | rfl) | ⟨_,rfl⟩) | rfl) | ⟨_,rfl⟩) | rfl) | ⟨_,rfl⟩) | (rfl | rfl)) <;> simp <;> first | omega | (refine ⟨?_,?_⟩ <;> assumption) | skip
theorem qcl {x : Nat} {a b : List Nat} {r k : Nat} : okF (some ((FR x a b).map (Yr (ρ3 r k)))) 2 (some [],[k + 4]) = true:=by
  simp [okF,fpAt,FR,Yr,fpLe,subN,hasN,ρ3]
theorem qke {x r k : Nat} : okF (some ((FR x [4,5] [6,4]).map (Yr (ρ3 r k)))) 1 (some [r,k + 4],[k + 5,r]) = true:=by
  simp [okF,fpAt,FR,Yr,fpLe,subN,hasN,ρ3]
theorem qkd {x r k : Nat} : okF (some ((FR x [5] [6]).map (Yr (ρ3 r k)))) 1 (some [k + 4],[k + 5]) = true:=by
  simp [okF,fpAt,FR,Yr,fpLe,subN,hasN,ρ3]
section
variable {P : Program} {T : Tab} {base : Nat} {K : Ex→AS→Prop}
theorem qlu {id g n r sz : Nat} {t s : Oper} {z v : Tmp} {x : Operand} {c : Code} {cs : List Code} {st : AS} (S : List Nat→AS) (E : List Nat→List (DV × V)) (a : AS) (ho : q1w t s = some (x,z,v)) (hx : ∀ rest,(S rest).ev x = some (.it n))
    (hb : ∀ rest,(S rest).blk n = some (.itO r sz none rest)) (hm : ∀ rest,(S rest).blk r = some (.mp true (E rest))) (hl : ∀ rest,(E rest).length = sz) (y : WkE base st (S (List.range sz)))
    (round : ∀ rest i j,rest.Nodup→rest[i]? = some j→j < sz→RunK P T base [c] ((((S rest).setBlk n (.itO r sz (some j) (rest.eraseIdx i))).put z .dead).put v (.d (.bool true))) (fun ex st'=>ex = .nor∧WkE base st' (S (rest.eraseIdx i))))
    (over : RunK P T base [c] (((S []).put z .dead).put v (.d (.bool false))) (fun ex st'=>ex = .exit id∧WkE base st' a)) (again : WkE base a a) (o : RunK P T base cs a K) :
    RunK P T base (.block id (.loop (.seq (.region g #[t,s] false) c))::cs) st K:=by
  let C : List Nat→AS→Prop:=fun rest st=>st = S rest∧rest.Nodup∧∀ j∈rest,j < sz
  let RR : Ex→AS→Prop:=fun ex st'=>ex = .exit id∧WkE base st' a
  have f : Uq P T base (.seq (.region g #[t,s] false) c) (S (List.range sz)) RR:=by
    refine qed (ε:=Nat) (n:=n) C (fun rest st i=>(rest[i]?).map fun j=>st.setBlk n (.itO r sz (some j) (rest.eraseIdx i))) ho ?_ ?_ ?_ _ (List.range sz) _ rfl ⟨rfl,List.nodup_range,fun j k=>by simpa using k⟩
    · rintro rest st ⟨rfl,_,_⟩;refine ⟨hx _,?_⟩;simp only [q1j,hb,hm,hl,if_true]
    · rintro st ⟨rfl,_,_⟩;refine (Zy over).mono ?_;rintro ex st' ⟨rfl,b⟩;exact ⟨qe,rfl,b⟩
    · rintro rest st i u ⟨rfl,m,l⟩ hi;simp only [Kw] at hi;obtain ⟨j,k,rfl⟩:=hi;refine ⟨K7 k,?_⟩;refine (Zy (round rest i j m k (l j (List.mem_of_getElem? k)))).mono ?_;rintro ex st' ⟨rfl,b⟩;have p:=(q1b j k).2;exact .inl ⟨rfl,_,b,rfl,(List.nodup_cons.1 ((p.nodup_iff).1 m)).2,fun q hq=>l q (List.mem_of_mem_eraseIdx hq)⟩
  obtain ⟨ρ1,fz,ph,y⟩:=y
  have w : Kh P T base (.block id (.loop (.seq (.region g #[t,s] false) c))) (S (List.range sz)) .nor a:=by
    refine .blockS f ?_;rintro ac st1 ⟨rfl,h⟩;exact ⟨by simp [Ex.block],a,h,again⟩
  exact ⟨.nor,_,.wk y w,o⟩
end
end Go.Sh
namespace Go.Sh
open Go Go.Am
def mix (A A' : List (Int × List qi)) (rest : List Nat) : List (Int × List qi):=A.zipIdx.map fun x=>if x.2∈rest then x.1 else (A'[x.2]?).getD x.1
theorem q7t (A A' : List (Int × List qi)) (rest : List Nat) : (mix A A' rest).length = A.length:=by simp [mix]
theorem q3u (A A' : List (Int × List qi)) (rest : List Nat) (q : Nat) : (mix A A' rest)[q]? = (A[q]?).map fun e=>if q∈rest then e else (A'[q]?).getD e:=by
  simp [mix,List.getElem?_zipIdx];cases A[q]? <;> simp
theorem qk0 (A A' : List (Int × List qi)) : mix A A' (List.range A.length) = A:=by
  apply List.ext_getElem?;intro q;rw [q3u]
  cases h : A[q]? with
  | none=>rfl
  | some e=>
    have:=K7 h;simp [this]
theorem qk1 {A A' : List (Int × List qi)} (h : A.length = A'.length) : mix A A' [] = A':=by
  apply List.ext_getElem?;intro q;rw [q3u]
  cases a : A[q]? with
  | none=>
    have : A'[q]? = none:=by rw [List.getElem?_eq_none_iff] at a ⊢;omega
    rw [this];rfl
  | some e=>
    obtain ⟨c,b⟩:=Z6 (xs:=A') (i:=q) (by have:=K7 a;omega);simp [b]
theorem qe4 : ∀ {A A' : List (Int × List qi)},Jl A = some A'→A.length = A'.length
  | [],A',h=>by simp [Jl] at h;subst h;rfl
  | e::l,A',h=>by
    obtain ⟨x,_,h⟩:=J9 (show (q24 e.2).bind _ = some A' from h)
    obtain ⟨y,a,h⟩:=J9 h
    cases h
    simp [qe4 a]
theorem q7c : ∀ {A A' : List (Int × List qi)} {q : Nat} {e : Int × List qi},Jl A = some A'→A[q]? = some e→∃ x,q24 e.2 = some x∧A'[q]? = some (e.1,x.1)
  | [],A',q,e,h,he=>by simp at he
  | e0::l,A',q,e,h,he=>by
    obtain ⟨x,d,h⟩:=J9 (show (q24 e0.2).bind _ = some A' from h)
    obtain ⟨y,b,h⟩:=J9 h
    cases h
    cases q with
    | zero=>simp at he;subst he;exact ⟨x,d,rfl⟩
    | succ q=>obtain ⟨z,c,a⟩:=q7c b (q:=q) (by simpa using he);exact ⟨z,c,by simpa using a⟩
theorem qk3 {β : Type} {key : Int} {b : β} : ∀ {R : List (Int × β)} {j : Nat},(R.map (·.1)).Nodup→R[j]? = some (key,b)→Y2 key R = some j
  | [],j,_,h=>by simp at h
  | (a,v)::r,0,_,h=>by simp at h;simp [Y2,h.1]
  | (a,v)::r,j + 1,hn,h=>by
    simp only [List.map_cons,List.nodup_cons] at hn
    have d : r[j]? = some (key,b):=by simpa using h
    have c : key≠a:=fun e=>hn.1 (e ▸ List.mem_map_of_mem (f:=(·.1)) (List.mem_of_getElem? d))
    simp only [Y2,c,if_false,qk3 hn.2 d]
    rfl
theorem qsk {A A' : List (Int × List qi)} (h : Jl A = some A') (rest : List Nat) : (mix A A' rest).map (·.1) = A.map (·.1):=by
  apply List.ext_getElem?;intro q;simp only [List.getElem?_map,q3u]
  cases a : A[q]? with
  | none=>rfl
  | some e=>
    obtain ⟨x,_,b⟩:=q7c h a;simp only [Option.map_some,b,Option.getD_some];split <;> rfl
theorem qf6 {A A' : List (Int × List qi)} {rest : List Nat} {j : Nat} {e : Int × List qi} (a : A[j]? = some e) (b : j∈rest) : (mix A A' rest)[j]? = some e:=by
  rw [q3u,a];simp [b]
theorem qk2 {A A' : List (Int × List qi)} {rest : List Nat} {i j : Nat} {e : Int × List qi} {x : List qi × Int} (h : Jl A = some A') (hk : (A.map (·.1)).Nodup) (m : rest.Nodup) (hi : rest[i]? = some j) (c : A[j]? = some e) (l : q24 e.2 = some x) :
    Ko e.1 x.1 (mix A A' rest) = mix A A' (rest.eraseIdx i):=by
  have n:=List.mem_of_getElem? hi;have hp : Y2 e.1 (mix A A' rest) = some j:=qk3 (b:=e.2) (by rw [qsk h];exact hk) (qf6 c n);have:=q7v e.1 x.1 (mix A A' rest);rw [hp] at this;rw [← this];have p:=(q1b j hi).2;have f:=List.nodup_cons.1 ((p.nodup_iff).1 m);have a : ∀ q,q∈rest↔q = j∨q∈rest.eraseIdx i:=fun q=>by rw [p.mem_iff,List.mem_cons]
  obtain ⟨z,k,d⟩:=q7c h c;rw [l] at k;cases k;apply List.ext_getElem?;intro q;rw [List.getElem?_set,q7t];by_cases g : j = q
  · subst g;rw [Q0 rfl,Q0 (K7 c),q3u,c];simp [f.1,d]
  · rw [Q1 g,q3u,q3u]
    have : (q∈rest) = (q∈rest.eraseIdx i):=by
      rw [eq_iff_iff,a q];exact ⟨fun h=>h.resolve_left fun e=>g e.symm,.inr⟩
    simp only [this]
theorem qfa {β : Type} {key : Int} {v : β} : ∀ {R : List (Int × β)},(R.map (·.1)).Nodup→((Ko key v R).map (·.1)).Nodup∧∀ k,k∈(Ko key v R).map (·.1)↔k = key∨k∈R.map (·.1)
  | [],_=>by simp [Ko]
  | (a,w)::r,h=>by
    simp only [List.map_cons,List.nodup_cons] at h
    obtain ⟨d,c⟩:=qfa (key:=key) (v:=v) h.2
    simp only [Ko]
    by_cases e : key = a
    · subst e
      simp only [if_true,List.map_cons,List.nodup_cons]
      exact ⟨h,fun k=>qe⟩
    · simp only [e,if_false,List.map_cons,List.nodup_cons]
      refine ⟨⟨fun f=>?_,d⟩,fun k=>?_⟩
      · rcases (c a).1 f with b | b
        · exact e b.symm
        · exact h.1 b
      · rw [List.mem_cons,c k,List.mem_cons];constructor <;> (intro h;rcases h with h | h | h <;> simp [h])
theorem qe2 : ∀ {l : List Qb} {r b : Y9},q1h l r = some b→(r.rows_.map (·.1)).Nodup→(r.columns_.map (·.1)).Nodup→(b.rows_.map (·.1)).Nodup∧(b.columns_.map (·.1)).Nodup
  | [],r,b,h,h1,h2=>by simp [q1h] at h;subst h;exact ⟨h1,h2⟩
  | s::l,r,b,h,h1,h2=>by
    obtain ⟨rd,a,h⟩:=J9 (show (Ut r s).bind (q1h l) = some b from h)
    unfold Ut at a
    cases c : s.A.Y == s.B.Y with
    | true=>
      rw [c] at a
      obtain ⟨z,_,a⟩:=J9 a
      cases a
      exact qe2 h (qfa h1).1 h2
    | false=>
      rw [c] at a
      obtain ⟨z,_,a⟩:=J9 a
      cases a
      exact qe2 h h1 (qfa h2).1
theorem qi7 {T : Tab} {st : AS} {x : Operand} {n m sz j : Nat} {rest : List Nat} {es : List (DV × V)} {e : DV × V} (d : st.ev x = some (.it n)) (hb : st.blk n = some (.itO m sz (some j) rest)) (a : st.blk m = some (.mp true es)) (c : es.length = sz) (b : es[j]? = some e) : opM T st (.entry x) = some (q80 e,st):=by
  simp only [opM,d,hb,a,c,if_true,b,Option.map_some]
theorem q118 {st : AS} {ρ : Nat→Nat} {fz ph : List Nat} {nx : Nat} {A : List (Int × List qi)} : Wb st ρ fz ph nx (.mp true (Qx kI eL A)) (.mp true (Qx kI eL A)):=by
  refine .mp true rfl fun i e c b a=>?_;rw [b] at a;cases a;obtain ⟨d,hd,rfl⟩:=List.mem_map.1 (List.mem_of_getElem? b);obtain ⟨x,_,rfl⟩:=List.mem_map.1 hd;exact ⟨rfl,.d (.refl _),rfl⟩
theorem qn1 {st : AS} {fz : List Nat} {nx : Nat} {R : RW} (h : ∀ e∈R,st.blk e.2.2 = some (.dat 2 (e.2.1.map Q8))) (k : ∀ e∈R,e.2.2∈fz) : Wb st (fun n=>n) fz [] nx (.mp true (rv R)) (.mp true (Qx kI eL (prR R))):=by
  refine .mp true (by simp [rv,prR,Qx]) fun i e l g c=>?_;simp only [rv,prR,Qx,List.getElem?_map,Kw] at g c;obtain ⟨a,j,rfl⟩:=g;obtain ⟨d,⟨p,⟨a',b,rfl⟩,rfl⟩,rfl⟩:=c;rw [j] at b;cases b;have f:=List.mem_of_getElem? j;refine ⟨rfl,?_,rfl⟩;exact .frz (h a f) (k a f) qe (by rw [List.drop_zero,List.take_of_length_le qe]) rfl
end Go.Sh
namespace Go.Proofs.YtgkialgkmjnfbaaGreat
open Go Go.Am Go.Sh
def HpOk (st : AS) (fz : List Nat) (nx : Nat) : List (Nat × Blk)→Prop
  | []=>True
  | (n,b')::r=>(n < nx∧n ∉ fz∧∃ b,st.blk n = some b∧Wb st (fun n=>n) fz [] nx b b')∧HpOk st fz nx r
theorem HpOk.get {st : AS} {fz : List Nat} {nx : Nat} {l : List (Nat × Blk)} (h : HpOk st fz nx l) {n : Nat} {d : Blk} (a : find l n = some d) : n < nx∧n ∉ fz∧∃ b,st.blk n = some b∧Wb st (fun n=>n) fz [] nx b d:=by
  induction l with
  | nil=>simp [find] at a
  | cons e r ih=>
    obtain ⟨m,c⟩:=e;rw [Qy] at a;split at a
    · rename_i e;subst e;cases a;exact h.1
    · exact ih h.2 a
theorem Jg {st : AS} {sl : List (Nat × V)} {hp : List (Nat × Blk)} {nx : Nat} (fz : List Nat) (hs : SlOk st fz nx sl) (hb : HpOk st fz nx hp) : WkE 0 st ⟨sl,hp,nx⟩:=
  qn3 fz (fun _ _ h=>hs.get h) (fun _ _ h=>hb.get h) (Nat.zero_le _) qe
theorem Jz {st : AS} {fz : List Nat} {nx : Nat} (h : 2 < nx) : Wb st (fun n=>n) fz [] nx (.cel 2 [[.mp 1,.mp 2]]) (.cel 2 [[.mp 1,.mp 2]]):=Un (.cons (.mp rfl qe (by show 1 < nx;omega)) rfl (.cons (.mp rfl qe (by show 2 < nx;omega)) rfl .nil))
theorem Um {st : AS} {fz : List Nat} {nx : Nat} (h : 2 < nx) : Wb st (fun n=>n) fz [] nx (.cel 1 [[.mp 1],[.mp 2]]) (.cel 1 [[.mp 1],[.mp 2]]):=by
  refine .cel rfl fun i x y b f=>?_;rw [b] at f;cases f;rcases i with _ | _ | i
  · cases b;refine ⟨rfl,fun j c d a hd=>?_⟩;rw [a] at hd;cases hd;rcases j with _ | j
    · cases a;exact ⟨.mp rfl qe (by show 1 < nx;omega),rfl⟩
    · simp at a
  · cases b;refine ⟨rfl,fun j c d a hd=>?_⟩;rw [a] at hd;cases hd;rcases j with _ | j
    · cases a;exact ⟨.mp rfl qe h,rfl⟩
    · simp at a
  · simp at b
noncomputable def tl41 : Code:=match Tryz.f41.body with
  | some (.seq _ (.seq _ (.seq _ c)))=>c
  | _=>.skip
abbrev SF (A B : List (Int × List qi)) : AS:=⟨[(2,.ref 0 2 0 0),(3,.ref 3 2 0 0)],[(0,.dat 2 [[.nilm,.nilm]]),(1,.mp true (Qx kI eL A)),(2,.mp true (Qx kI eL B)),(3,.cel 2 [[.mp 1,.mp 2]])],4⟩
abbrev SE (A B : List (Int × List qi)) : AS:=⟨[(2,.ref 0 2 0 0)],[(0,.cel 2 [[.d (.mp (mrow kI eL A)),.d (.mp (mrow kI eL B))]])],3⟩
set_option maxRecDepth 100000 in
set_option maxHeartbeats 8000000 in
theorem qoz {A B A' b : List (Int × List qi)} (q : Jl A = some A') (p : Jl B = some b) (r : (A.map (·.1)).Nodup) (s : (B.map (·.1)).Nodup) {K : Ex→AS→Prop} (fin : K .ret (SE A' b)) : RunK Tryz.prog tab 0 [tl41] (SF A B) K:=by
  have a : ∀ {st : AS} {ρ : Nat→Nat} {fz ph : List Nat} {nx : Nat} {X : List (Int × List qi)},Wb st ρ fz ph nx (.mp true (Qx kI eL X)) (.mp true (Qx kI eL X)):=q118;refine qh ?_;refine qg ?_;refine U (.ref 3 2 0 0) O ?_;refine U (.mp 1) O ?_;refine U (.ref 3 2 0 1) O ?_;refine U (.mp 2) O ?_;refine Qu (.hs 4 1 0 2) (.cel 1 [[.mp 1],[.mp 2]]) O ?_;refine U (.d (.int .i64 2)) O ?_;refine q0 O ?_;refine qc ?_;refine Qg ?_;refine qg1 ?_;refine Zv (st':=⟨[(2,.ref 0 2 0 0),(3,.ref 3 2 0 0),(87,.hs 4 1 0 2),(88,.d (.int .i64 2)),(89,.d (.int .i64 0))],[(0,.dat 2 [[.nilm,.nilm]]),(1,.mp true (Qx kI eL A)),(2,.mp true (Qx kI eL B)),(3,.cel 2 [[.mp 1,.mp 2]]),(4,.cel 1 [[.mp 1],[.mp 2]])],5⟩) (Jg [] ⟨⟨_,rfl,.ref rfl qe (by show (0:Nat) < _;omega)⟩,⟨_,rfl,.ref rfl qe (by show (3:Nat) < _;omega)⟩,⟨_,rfl,.hs rfl qe (by show (4:Nat) < _;omega)⟩,⟨_,rfl,.d (.refl _)⟩,⟨_,rfl,.d (.refl _)⟩,trivial⟩ ⟨⟨q8,qe,_,rfl,.dat _ _⟩,⟨q8,qe,_,rfl,a⟩,⟨q8,qe,_,rfl,a⟩,⟨q8,qe,_,rfl,Jz q8⟩,⟨q8,qe,_,rfl,Um q8⟩,trivial⟩) ?_ qe;refine qg ?_;refine U (.d (.bool true)) O ?_;refine qc ?_;refine qh ?_;refine q18 rfl ?_;refine qu ?_;refine qh ?_;refine Qg ?_;refine qg ?_;refine U (.ref 4 1 0 0) O ?_;refine U (.mp 1) O ?_;refine U (.mp 1) O ?_;refine qx ?_;refine q0 O ?_;refine q3x (v:=.it 5) (st1:=_) rfl rfl ?_;refine qc ?_;refine qlu (fun rest=>⟨[(7,.mp 1),(94,.it 5),(2,.ref 0 2 0 0),(3,.ref 3 2 0 0),(87,.hs 4 1 0 2),(88,.d (.int .i64 2)),(89,.d (.int .i64 0))],[(5,.itO 1 A.length none rest),(0,.dat 2 [[.nilm,.nilm]]),(1,.mp true (Qx kI eL (mix A A' rest))),(2,.mp true (Qx kI eL B)),(3,.cel 2 [[.mp 1,.mp 2]]),(4,.cel 1 [[.mp 1],[.mp 2]])],6⟩) (fun rest=>Qx kI eL (mix A A' rest)) ⟨[(2,.ref 0 2 0 0),(3,.ref 3 2 0 0),(87,.hs 4 1 0 2),(88,.d (.int .i64 2)),(89,.d (.int .i64 0))],[(0,.dat 2 [[.nilm,.nilm]]),(1,.mp true (Qx kI eL A')),(2,.mp true (Qx kI eL B)),(3,.cel 2 [[.mp 1,.mp 2]]),(4,.cel 1 [[.mp 1],[.mp 2]])],5⟩ rfl (fun rest=>rfl) (fun rest=>rfl) (fun rest=>rfl) (fun rest=>by simp [q7t]) ?_ ?_ ?_ ?_ ?_
  · rw [qk0];have e : (Qx kI eL A).length = A.length:=by simp
    refine Jg [] ⟨⟨_,rfl,.mp rfl qe (by show (1:Nat) < _;omega)⟩,⟨_,rfl,.it rfl qe (by show (5:Nat) < _;omega)⟩,⟨_,rfl,.ref rfl qe (by show (0:Nat) < _;omega)⟩,⟨_,rfl,.ref rfl qe (by show (3:Nat) < _;omega)⟩,⟨_,rfl,.hs rfl qe (by show (4:Nat) < _;omega)⟩,⟨_,rfl,.d (.refl _)⟩,⟨_,rfl,.d (.refl _)⟩,trivial⟩ ⟨⟨q8,qe,_,rfl,?_⟩,⟨q8,qe,_,rfl,.dat _ _⟩,⟨q8,qe,_,rfl,a⟩,⟨q8,qe,_,rfl,a⟩,⟨q8,qe,_,rfl,Jz q8⟩,⟨q8,qe,_,rfl,Um q8⟩,trivial⟩;rw [← e];exact .itO _ none _ rfl qe (by show (1:Nat) < _;omega)
  · intro rest i j g c f;obtain ⟨e,k⟩ : ∃ e,A[j]? = some e:=⟨_,List.getElem?_eq_getElem f⟩
    obtain ⟨x,m,n⟩:=q7c q k;have l:=List.mem_of_getElem? c
    have h : (Qx kI eL (mix A A' rest))[j]? = some (kI e.1,.d (eL e.2)):=by
      have:=qf6 (A':=A') k l;simp only [Qx,mrow,List.getElem?_map,this,Option.map_some];rfl
    show RunK _ _ _ _ ⟨[(96,.d (.bool true)),(95,.dead),(7,.mp 1),(94,.it 5),(2,.ref 0 2 0 0),(3,.ref 3 2 0 0),(87,.hs 4 1 0 2),(88,.d (.int .i64 2)),(89,.d (.int .i64 0))],[(5,.itO 1 A.length (some j) (rest.eraseIdx i)),(0,.dat 2 [[.nilm,.nilm]]),(1,.mp true (Qx kI eL (mix A A' rest))),(2,.mp true (Qx kI eL B)),(3,.cel 2 [[.mp 1,.mp 2]]),(4,.cel 1 [[.mp 1],[.mp 2]])],6⟩ _;refine qh ?_;refine q18 rfl ?_;refine qu ?_;refine Qg ?_;refine qg ?_;refine q3x rfl (qi7 rfl rfl rfl (by simp [q7t]) h) ?_;refine U (.d (kI e.1)) O ?_;refine U (.d (eL e.2)) O ?_;refine U (.d (kI e.1)) O ?_;refine U (.d (eL e.2)) O ?_;refine qc ?_;refine Q5 ?_;refine q0 O ?_;refine q0 O ?_;refine q0 O ?_;refine Qs (qmh e.2 x m) O ?_;refine q0 O ?_;refine U (.d (eL x.1)) O ?_;refine U (.d (.int .i64 x.2)) O ?_;refine q5l (ek:=kI) (ev:=eL) (es:=(mix A A' rest)) Je e.1 x.1 rfl rfl rfl rfl rfl rfl rfl rfl ?_;refine qc ?_;refine Qc ?_;refine Qn ?_;refine Qc ?_;refine ⟨rfl,?_⟩;rw [qk2 q r g c k m];refine Jg [] ⟨⟨_,rfl,.mp rfl qe (by show (1:Nat) < _;omega)⟩,⟨_,rfl,.it rfl qe (by show (5:Nat) < _;omega)⟩,⟨_,rfl,.ref rfl qe (by show (0:Nat) < _;omega)⟩,⟨_,rfl,.ref rfl qe (by show (3:Nat) < _;omega)⟩,⟨_,rfl,.hs rfl qe (by show (4:Nat) < _;omega)⟩,⟨_,rfl,.d (.refl _)⟩,⟨_,rfl,.d (.refl _)⟩,trivial⟩ ⟨⟨q8,qe,_,rfl,.itOn _ _ _ rfl qe (by show (1:Nat) < _;omega)⟩,⟨q8,qe,_,rfl,.dat _ _⟩,⟨q8,qe,_,rfl,a⟩,⟨q8,qe,_,rfl,a⟩,⟨q8,qe,_,rfl,Jz q8⟩,⟨q8,qe,_,rfl,Um q8⟩,trivial⟩
  · show RunK _ _ _ _ ⟨[(96,.d (.bool false)),(95,.dead),(7,.mp 1),(94,.it 5),(2,.ref 0 2 0 0),(3,.ref 3 2 0 0),(87,.hs 4 1 0 2),(88,.d (.int .i64 2)),(89,.d (.int .i64 0))],[(5,.itO 1 A.length none []),(0,.dat 2 [[.nilm,.nilm]]),(1,.mp true (Qx kI eL (mix A A' []))),(2,.mp true (Qx kI eL B)),(3,.cel 2 [[.mp 1,.mp 2]]),(4,.cel 1 [[.mp 1],[.mp 2]])],6⟩ _;refine qh ?_;refine Ug rfl ?_;refine Qh ?_;rw [qk1 (qe4 q)];refine ⟨rfl,Jg [] ⟨⟨_,rfl,.ref rfl qe (by show (0:Nat) < _;omega)⟩,⟨_,rfl,.ref rfl qe (by show (3:Nat) < _;omega)⟩,⟨_,rfl,.hs rfl qe (by show (4:Nat) < _;omega)⟩,⟨_,rfl,.d (.refl _)⟩,⟨_,rfl,.d (.refl _)⟩,trivial⟩ ⟨⟨q8,qe,_,rfl,.dat _ _⟩,⟨q8,qe,_,rfl,a⟩,⟨q8,qe,_,rfl,a⟩,⟨q8,qe,_,rfl,Jz q8⟩,⟨q8,qe,_,rfl,Um q8⟩,trivial⟩⟩
  · refine Jg [] ⟨⟨_,rfl,.ref rfl qe (by show (0:Nat) < _;omega)⟩,⟨_,rfl,.ref rfl qe (by show (3:Nat) < _;omega)⟩,⟨_,rfl,.hs rfl qe (by show (4:Nat) < _;omega)⟩,⟨_,rfl,.d (.refl _)⟩,⟨_,rfl,.d (.refl _)⟩,trivial⟩ ⟨⟨q8,qe,_,rfl,.dat _ _⟩,⟨q8,qe,_,rfl,a⟩,⟨q8,qe,_,rfl,a⟩,⟨q8,qe,_,rfl,Jz q8⟩,⟨q8,qe,_,rfl,Um q8⟩,trivial⟩
  refine Qc ?_;refine Qn ?_;refine Q5 ?_;refine U (.d (.int .i64 1)) O ?_;refine q0 O ?_;refine qc ?_;refine Zv (st':=⟨[(2,.ref 0 2 0 0),(3,.ref 3 2 0 0),(87,.hs 4 1 0 2),(88,.d (.int .i64 2)),(89,.d (.int .i64 1))],[(0,.dat 2 [[.nilm,.nilm]]),(1,.mp true (Qx kI eL A')),(2,.mp true (Qx kI eL B)),(3,.cel 2 [[.mp 1,.mp 2]]),(4,.cel 1 [[.mp 1],[.mp 2]])],5⟩) (Jg [] ⟨⟨_,rfl,.ref rfl qe (by show (0:Nat) < _;omega)⟩,⟨_,rfl,.ref rfl qe (by show (3:Nat) < _;omega)⟩,⟨_,rfl,.hs rfl qe (by show (4:Nat) < _;omega)⟩,⟨_,rfl,.d (.refl _)⟩,⟨_,rfl,.d (.refl _)⟩,trivial⟩ ⟨⟨q8,qe,_,rfl,.dat _ _⟩,⟨q8,qe,_,rfl,a⟩,⟨q8,qe,_,rfl,a⟩,⟨q8,qe,_,rfl,Jz q8⟩,⟨q8,qe,_,rfl,Um q8⟩,trivial⟩) ?_ qe;refine qg1 ?_;refine qg ?_;refine U (.d (.bool true)) O ?_;refine qc ?_;refine qh ?_;refine q18 rfl ?_;refine qu ?_;refine qh ?_;refine Qg ?_;refine qg ?_;refine U (.ref 4 1 1 0) O ?_;refine U (.mp 2) O ?_;refine U (.mp 2) O ?_;refine qx ?_;refine q0 O ?_;refine q3x (v:=.it 5) (st1:=_) rfl rfl ?_;refine qc ?_;refine qlu (fun rest=>⟨[(7,.mp 2),(94,.it 5),(2,.ref 0 2 0 0),(3,.ref 3 2 0 0),(87,.hs 4 1 0 2),(88,.d (.int .i64 2)),(89,.d (.int .i64 1))],[(5,.itO 2 B.length none rest),(0,.dat 2 [[.nilm,.nilm]]),(1,.mp true (Qx kI eL A')),(2,.mp true (Qx kI eL (mix B b rest))),(3,.cel 2 [[.mp 1,.mp 2]]),(4,.cel 1 [[.mp 1],[.mp 2]])],6⟩) (fun rest=>Qx kI eL (mix B b rest)) ⟨[(2,.ref 0 2 0 0),(3,.ref 3 2 0 0),(87,.hs 4 1 0 2),(88,.d (.int .i64 2)),(89,.d (.int .i64 1))],[(0,.dat 2 [[.nilm,.nilm]]),(1,.mp true (Qx kI eL A')),(2,.mp true (Qx kI eL b)),(3,.cel 2 [[.mp 1,.mp 2]]),(4,.cel 1 [[.mp 1],[.mp 2]])],5⟩ rfl (fun rest=>rfl) (fun rest=>rfl) (fun rest=>rfl) (fun rest=>by simp [q7t]) ?_ ?_ ?_ ?_ ?_
  · rw [qk0];have e : (Qx kI eL B).length = B.length:=by simp
    refine Jg [] ⟨⟨_,rfl,.mp rfl qe (by show (2:Nat) < _;omega)⟩,⟨_,rfl,.it rfl qe (by show (5:Nat) < _;omega)⟩,⟨_,rfl,.ref rfl qe (by show (0:Nat) < _;omega)⟩,⟨_,rfl,.ref rfl qe (by show (3:Nat) < _;omega)⟩,⟨_,rfl,.hs rfl qe (by show (4:Nat) < _;omega)⟩,⟨_,rfl,.d (.refl _)⟩,⟨_,rfl,.d (.refl _)⟩,trivial⟩ ⟨⟨q8,qe,_,rfl,?_⟩,⟨q8,qe,_,rfl,.dat _ _⟩,⟨q8,qe,_,rfl,a⟩,⟨q8,qe,_,rfl,a⟩,⟨q8,qe,_,rfl,Jz q8⟩,⟨q8,qe,_,rfl,Um q8⟩,trivial⟩;rw [← e];exact .itO _ none _ rfl qe (by show (2:Nat) < _;omega)
  · intro rest i j g c f;obtain ⟨e,k⟩ : ∃ e,B[j]? = some e:=⟨_,List.getElem?_eq_getElem f⟩
    obtain ⟨x,m,n⟩:=q7c p k;have l:=List.mem_of_getElem? c
    have h : (Qx kI eL (mix B b rest))[j]? = some (kI e.1,.d (eL e.2)):=by
      have:=qf6 (A':=b) k l;simp only [Qx,mrow,List.getElem?_map,this,Option.map_some];rfl
    show RunK _ _ _ _ ⟨[(96,.d (.bool true)),(95,.dead),(7,.mp 2),(94,.it 5),(2,.ref 0 2 0 0),(3,.ref 3 2 0 0),(87,.hs 4 1 0 2),(88,.d (.int .i64 2)),(89,.d (.int .i64 1))],[(5,.itO 2 B.length (some j) (rest.eraseIdx i)),(0,.dat 2 [[.nilm,.nilm]]),(1,.mp true (Qx kI eL A')),(2,.mp true (Qx kI eL (mix B b rest))),(3,.cel 2 [[.mp 1,.mp 2]]),(4,.cel 1 [[.mp 1],[.mp 2]])],6⟩ _;refine qh ?_;refine q18 rfl ?_;refine qu ?_;refine Qg ?_;refine qg ?_;refine q3x rfl (qi7 rfl rfl rfl (by simp [q7t]) h) ?_;refine U (.d (kI e.1)) O ?_;refine U (.d (eL e.2)) O ?_;refine U (.d (kI e.1)) O ?_;refine U (.d (eL e.2)) O ?_;refine qc ?_;refine Q5 ?_;refine q0 O ?_;refine q0 O ?_;refine q0 O ?_;refine Qs (qmh e.2 x m) O ?_;refine q0 O ?_;refine U (.d (eL x.1)) O ?_;refine U (.d (.int .i64 x.2)) O ?_;refine q5l (ek:=kI) (ev:=eL) (es:=(mix B b rest)) Je e.1 x.1 rfl rfl rfl rfl rfl rfl rfl rfl ?_;refine qc ?_;refine Qc ?_;refine Qn ?_;refine Qc ?_;refine ⟨rfl,?_⟩;rw [qk2 p s g c k m];refine Jg [] ⟨⟨_,rfl,.mp rfl qe (by show (2:Nat) < _;omega)⟩,⟨_,rfl,.it rfl qe (by show (5:Nat) < _;omega)⟩,⟨_,rfl,.ref rfl qe (by show (0:Nat) < _;omega)⟩,⟨_,rfl,.ref rfl qe (by show (3:Nat) < _;omega)⟩,⟨_,rfl,.hs rfl qe (by show (4:Nat) < _;omega)⟩,⟨_,rfl,.d (.refl _)⟩,⟨_,rfl,.d (.refl _)⟩,trivial⟩ ⟨⟨q8,qe,_,rfl,.itOn _ _ _ rfl qe (by show (2:Nat) < _;omega)⟩,⟨q8,qe,_,rfl,.dat _ _⟩,⟨q8,qe,_,rfl,a⟩,⟨q8,qe,_,rfl,a⟩,⟨q8,qe,_,rfl,Jz q8⟩,⟨q8,qe,_,rfl,Um q8⟩,trivial⟩
  · show RunK _ _ _ _ ⟨[(96,.d (.bool false)),(95,.dead),(7,.mp 2),(94,.it 5),(2,.ref 0 2 0 0),(3,.ref 3 2 0 0),(87,.hs 4 1 0 2),(88,.d (.int .i64 2)),(89,.d (.int .i64 1))],[(5,.itO 2 B.length none []),(0,.dat 2 [[.nilm,.nilm]]),(1,.mp true (Qx kI eL A')),(2,.mp true (Qx kI eL (mix B b []))),(3,.cel 2 [[.mp 1,.mp 2]]),(4,.cel 1 [[.mp 1],[.mp 2]])],6⟩ _;refine qh ?_;refine Ug rfl ?_;refine Qh ?_;rw [qk1 (qe4 p)];refine ⟨rfl,Jg [] ⟨⟨_,rfl,.ref rfl qe (by show (0:Nat) < _;omega)⟩,⟨_,rfl,.ref rfl qe (by show (3:Nat) < _;omega)⟩,⟨_,rfl,.hs rfl qe (by show (4:Nat) < _;omega)⟩,⟨_,rfl,.d (.refl _)⟩,⟨_,rfl,.d (.refl _)⟩,trivial⟩ ⟨⟨q8,qe,_,rfl,.dat _ _⟩,⟨q8,qe,_,rfl,a⟩,⟨q8,qe,_,rfl,a⟩,⟨q8,qe,_,rfl,Jz q8⟩,⟨q8,qe,_,rfl,Um q8⟩,trivial⟩⟩
  · refine Jg [] ⟨⟨_,rfl,.ref rfl qe (by show (0:Nat) < _;omega)⟩,⟨_,rfl,.ref rfl qe (by show (3:Nat) < _;omega)⟩,⟨_,rfl,.hs rfl qe (by show (4:Nat) < _;omega)⟩,⟨_,rfl,.d (.refl _)⟩,⟨_,rfl,.d (.refl _)⟩,trivial⟩ ⟨⟨q8,qe,_,rfl,.dat _ _⟩,⟨q8,qe,_,rfl,a⟩,⟨q8,qe,_,rfl,a⟩,⟨q8,qe,_,rfl,Jz q8⟩,⟨q8,qe,_,rfl,Um q8⟩,trivial⟩
  refine Qc ?_;refine Qn ?_;refine Q5 ?_;refine U (.d (.int .i64 2)) O ?_;refine q0 O ?_;refine qc ?_;refine Zv (st':=⟨[(2,.ref 0 2 0 0),(3,.ref 3 2 0 0),(87,.hs 4 1 0 2),(88,.d (.int .i64 2)),(89,.d (.int .i64 2))],[(0,.dat 2 [[.nilm,.nilm]]),(1,.mp true (Qx kI eL A')),(2,.mp true (Qx kI eL b)),(3,.cel 2 [[.mp 1,.mp 2]]),(4,.cel 1 [[.mp 1],[.mp 2]])],5⟩) (Jg [] ⟨⟨_,rfl,.ref rfl qe (by show (0:Nat) < _;omega)⟩,⟨_,rfl,.ref rfl qe (by show (3:Nat) < _;omega)⟩,⟨_,rfl,.hs rfl qe (by show (4:Nat) < _;omega)⟩,⟨_,rfl,.d (.refl _)⟩,⟨_,rfl,.d (.refl _)⟩,trivial⟩ ⟨⟨q8,qe,_,rfl,.dat _ _⟩,⟨q8,qe,_,rfl,a⟩,⟨q8,qe,_,rfl,a⟩,⟨q8,qe,_,rfl,Jz q8⟩,⟨q8,qe,_,rfl,Um q8⟩,trivial⟩) ?_ qe;refine qg1 ?_;refine qg ?_;refine U (.d (.bool false)) O ?_;refine qc ?_;refine qh ?_;refine Ug rfl ?_;refine Qh ?_;refine q79 ?_;refine qg ?_;refine U (.agg [.mp 1,.mp 2]) O ?_;refine K8 0 (.cel 2 [[.mp 1,.mp 2]]) O ?_;refine qc ?_;refine Zv (st':=SE A' b) ?_ (q19 fin) qe;refine Jg [1,2] ⟨⟨_,rfl,.ref rfl qe (by show (0:Nat) < _;omega)⟩,trivial⟩ ⟨⟨q8,qe,_,rfl,?_⟩,trivial⟩;refine Un (.cons (.frzM (o:=true) rfl qe (by exact .refl _)) rfl (.cons (.frzM (o:=true) rfl qe (by exact .refl _)) rfl .nil))
end Go.Proofs.YtgkialgkmjnfbaaGreat
namespace Go.Proofs.YtgkialgkmjnfbaaGreat
open Go Go.Am Go.Sh
abbrev SA (p0 : List Qb) (a : Nat × RW × RW × Nat) : AS:=⟨[(2,.ref 0 2 0 0),(3,.ref 3 2 0 0),(13,.d (.sl 4 (p0.map Kd))),(14,.d (.int .i64 (p0.length : Int))),(15,.d (.int .i64 (a.1 : Int)))],HB a.2.1 a.2.2.1,a.2.2.2 + 4⟩
theorem qoy {r a : Y9} {s : Qb} (h : Ut r s = some a) (b : (s.A.Y == s.B.Y) = true) : ∃ zs,app 16 (K9 [] s.A.Y r.rows_) [({Lo:=min s.A.X s.B.X,Hi:=max s.A.X s.B.X} : qi)] = some zs∧a = {rows_:=Ko s.A.Y zs r.rows_,columns_:=r.columns_}:=by
  unfold Ut at h;rw [b] at h;obtain ⟨zs,c,h⟩:=J9 h;exact ⟨zs,c,qs h⟩
theorem qow {r a : Y9} {s : Qb} (h : Ut r s = some a) (b : (s.A.Y == s.B.Y) = false) : ∃ zs,app 16 (K9 [] s.A.X r.columns_) [({Lo:=min s.A.Y s.B.Y,Hi:=max s.A.Y s.B.Y} : qi)] = some zs∧a = {rows_:=r.rows_,columns_:=Ko s.A.X zs r.columns_}:=by
  unfold Ut at h;rw [b] at h;obtain ⟨zs,c,h⟩:=J9 h;exact ⟨zs,c,qs h⟩
set_option maxRecDepth 100000 in
set_option maxHeartbeats 8000000 in
theorem qmm (o : List Qb) (r : Y9) (t : q6z o = some r) : Pure Tryz.prog tab 41 [.sl 4 (o.map Kd)] (.agg [.mp (mrow (fun n : Int=>DV.int .i64 n) (fun l : List qi=>DV.sl 2 (l.map Q8)) r.rows_),.mp (mrow (fun n : Int=>DV.int .i64 n) (fun l : List qi=>DV.sl 2 (l.map Q8)) r.columns_)]):=by
  unfold q6z at t;by_cases z : o.length≤1000000
  case neg=>rw [Q9 z] at t;cases t
  rw [Q6 z] at t;obtain ⟨r1,hL,t⟩:=J9 t;refine K5 Tryz.func41 rfl ql ql rfl ?_;refine qg ?_;refine Kf rfl rfl ?_;refine qx ?_;refine Qu (.mp 1) (.mp true []) O ?_;refine Qu (.mp 2) (.mp true []) O ?_;refine U (.agg [.mp 1,.mp 2]) O ?_;refine Kf rfl rfl ?_;refine K8 3 (.cel 2 [[.mp 1,.mp 2]]) O ?_;refine qc ?_;refine qh ?_;refine qg ?_;refine q0 O ?_;refine K6 O ?_;refine q0 O ?_;refine qc ?_;refine Qg ?_;refine qlt (SA o) (fun a=>a.1≤o.length∧NmOk a.2.1 a.2.2.1 a.2.2.2∧q1h (o.drop a.1) {rows_:=prR a.2.1,columns_:=prR a.2.2.1} = some r1) (fun a=>o.length - a.1) (0,[],[],0) ?_ ⟨Nat.zero_le _,⟨by simp [nm],by simp [nm],by simp [nm]⟩,by simpa [prR] using hL⟩ ?_
  · refine q74 (R:=[]) (C:=[]) (k:=0) [] qe ⟨by simp [nm],by simp [nm],by simp [nm]⟩ (Nat.le_refl _) ⟨⟨_,rfl,.ref rfl qe q8⟩,⟨_,rfl,.ref rfl qe q8⟩,⟨_,rfl,.d (.refl _)⟩,⟨_,rfl,.d (.refl _)⟩,⟨_,rfl,.d (.refl _)⟩,trivial⟩ (fun n b hb=>?_);rcases q4v (k:=0) ⟨by simp [nm],by simp [nm],by simp [nm]⟩ hb with ⟨rfl,rfl⟩ | ⟨rfl,rfl⟩ | ⟨rfl,rfl⟩ | ⟨rfl,rfl⟩ | ⟨i,e,u,_⟩ | ⟨i,e,u,_⟩
    · rfl
    · rfl
    · rfl
    · rfl
    · simp at u
    · simp at u
  rintro ⟨i,R,C,k⟩ ⟨hi,g,hc⟩;simp only at hi g hc;refine qg ?_;refine U (.d (.bool (decide ((i : Int) < (o.length : Int))))) O ?_;refine qc ?_;refine qh ?_;refine qls rfl (fun ht=>?_) (fun hf=>?_)
  · have x : i < o.length:=by have:=of_decide_eq_true ht;omega
    refine qu ?_;refine qh ?_;refine Qg ?_;obtain ⟨s,hs⟩ : ∃ s,o[i]? = some s:=⟨_,List.getElem?_eq_getElem x⟩
    have ai : idx o (i : Int) = some s:=by unfold idx;simp [hs]
    have ab : o.drop i = s::o.drop (i + 1):=by
      rw [List.drop_eq_getElem_cons x];congr 1;rw [List.getElem?_eq_getElem x] at hs;exact J6 hs
    rw [ab] at hc;obtain ⟨rd,h1,f⟩:=J9 (show (Ut {rows_:=prR R,columns_:=prR C} s).bind (q1h (o.drop (i + 1))) = some r1 from hc);have w : i + 1≤o.length:=x;refine qg ?_;refine Qv (enc:=Kd) ai O ?_;refine U (.d (.agg [.int .i64 s.A.X,.int .i64 s.A.Y,.int .i64 s.B.X,.int .i64 s.B.Y])) O ?_;refine Kf rfl rfl ?_;refine qtj (m:=k + 4) (cs:=[.int .i64 0,.int .i64 0,.int .i64 0,.int .i64 0]) (ds:=[.int .i64 s.A.X,.int .i64 s.A.Y,.int .i64 s.B.X,.int .i64 s.B.Y]) rfl rfl rfl rfl (by rw [Qy,Q0 rfl]) rfl rfl rfl rfl ?_ rfl;refine qc ?_;refine Zv (st':=⟨[(5,.d (.box [.int .i64 s.A.X,.int .i64 s.A.Y,.int .i64 s.B.X,.int .i64 s.B.Y])),(2,.ref 0 2 0 0),(3,.ref 3 2 0 0),(13,.d (.sl 4 (o.map Kd))),(14,.d (.int .i64 (o.length : Int))),(15,.d (.int .i64 (i : Int)))],HB R C,k + 4⟩) ?_ ?_ qe
    · refine q74 [k + 4] qe g (Nat.le_refl _) ⟨⟨_,rfl,.frzB (k:=4) (cs:=[.int .i64 s.A.X,.int .i64 s.A.Y,.int .i64 s.B.X,.int .i64 s.B.Y]) (by show find (repl _ _ _) _ = _;rw [Kt,Q0 rfl,Qy,Q0 rfl];rfl) qe rfl⟩,⟨_,rfl,.ref rfl qe q8⟩,⟨_,rfl,.ref rfl qe q8⟩,⟨_,rfl,.d (.refl _)⟩,⟨_,rfl,.d (.refl _)⟩,⟨_,rfl,.d (.refl _)⟩,trivial⟩ (fun n b hb=>?_);have ar:=qgu g hb;show find (repl _ _ _) _ = _;rw [Kt,Q1 (by show ¬ k + 4 = n;omega),Qy,Q1 (by show ¬ k + 4 = n;omega)];exact hb
    refine qg ?_;refine U (.dref [.int .i64 s.A.X,.int .i64 s.A.Y,.int .i64 s.B.X,.int .i64 s.B.Y] 0) O ?_;refine U (.dref [.int .i64 s.A.X,.int .i64 s.A.Y,.int .i64 s.B.X,.int .i64 s.B.Y] 1) O ?_;refine U (.d (.int .i64 s.A.Y)) O ?_;refine U (.dref [.int .i64 s.A.X,.int .i64 s.A.Y,.int .i64 s.B.X,.int .i64 s.B.Y] 2) O ?_;refine U (.dref [.int .i64 s.A.X,.int .i64 s.A.Y,.int .i64 s.B.X,.int .i64 s.B.Y] 3) O ?_;refine U (.d (.int .i64 s.B.Y)) O ?_;refine U (.d (.bool (s.A.Y == s.B.Y))) O ?_;refine qc ?_;refine qls rfl (fun hq=>?_) (fun hq=>?_)
    · obtain ⟨zs,y,rfl⟩:=qoy h1 hq
      cases c : Y2 s.A.Y R with
      | some j=>
        obtain ⟨⟨xs,q⟩,p⟩:=qf9 c;have aa:=g.lo q (List.mem_append_left _ (Yj p));have ag:=g.hi q (List.mem_append_left _ (Yj p));rw [qjz c p] at y;rw [qk6 (n:=k + 5) c] at f;refine Qf ((FR 1 [4,5] [6,4]).map (Yr (ρ3 q k))) (by rw [qbs (m:=7) (ρ3_inj aa q8 q8) (qb6 q8 qe qe)];kernel_rfl) ?_;refine U (.ref 3 2 0 0) O ?_;refine U (.mp 1) O ?_;refine U (.dref [.int .i64 s.A.X,.int .i64 s.A.Y,.int .i64 s.B.X,.int .i64 s.B.Y] 0) O ?_;refine U (.dref [.int .i64 s.A.X,.int .i64 s.A.Y,.int .i64 s.B.X,.int .i64 s.B.Y] 1) O ?_;refine U (.d (.int .i64 s.A.Y)) O ?_;refine U (.ref 3 2 0 0) O ?_;refine U (.mp 1) O ?_;refine U (.dref [.int .i64 s.A.X,.int .i64 s.A.Y,.int .i64 s.B.X,.int .i64 s.B.Y] 0) O ?_;refine U (.dref [.int .i64 s.A.X,.int .i64 s.A.Y,.int .i64 s.B.X,.int .i64 s.B.Y] 1) O ?_;refine U (.d (.int .i64 s.A.Y)) O ?_;refine q7y _ rfl (qjj rfl rfl rfl rfl rfl rfl rfl c p) ?_;refine U (.dref [.int .i64 s.A.X,.int .i64 s.A.Y,.int .i64 s.B.X,.int .i64 s.B.Y] 0) O ?_;refine U (.dref [.int .i64 s.A.X,.int .i64 s.A.Y,.int .i64 s.B.X,.int .i64 s.B.Y] 0) O ?_;refine U (.d (.int .i64 s.A.X)) O ?_;refine U (.dref [.int .i64 s.A.X,.int .i64 s.A.Y,.int .i64 s.B.X,.int .i64 s.B.Y] 2) O ?_;refine U (.dref [.int .i64 s.A.X,.int .i64 s.A.Y,.int .i64 s.B.X,.int .i64 s.B.Y] 2) O ?_;refine U (.d (.int .i64 s.B.X)) O ?_;refine Zu (r:=min s.A.X s.B.X) rfl rfl (by simp only [Zt];rfl) ?_;refine U (.dref [.int .i64 s.A.X,.int .i64 s.A.Y,.int .i64 s.B.X,.int .i64 s.B.Y] 0) O ?_;refine U (.dref [.int .i64 s.A.X,.int .i64 s.A.Y,.int .i64 s.B.X,.int .i64 s.B.Y] 0) O ?_;refine U (.d (.int .i64 s.A.X)) O ?_;refine U (.dref [.int .i64 s.A.X,.int .i64 s.A.Y,.int .i64 s.B.X,.int .i64 s.B.Y] 2) O ?_;refine U (.dref [.int .i64 s.A.X,.int .i64 s.A.Y,.int .i64 s.B.X,.int .i64 s.B.Y] 2) O ?_;refine U (.d (.int .i64 s.B.X)) O ?_;refine Zj (r:=max s.A.X s.B.X) rfl rfl (by simp only [Zi];rfl) ?_;refine U (.d (.agg [.int .i64 (min s.A.X s.B.X),.int .i64 (max s.A.X s.B.X)])) O ?_;refine q7x (.hs (k + 4) 2 0 1) (.dat 2 [[.int .i64 (min s.A.X s.B.X),.int .i64 (max s.A.X s.B.X)]]) rfl rfl ?_ (q3w rfl qcl);refine Yq (xs:=xs) (ys:=[({Lo:=min s.A.X s.B.X,Hi:=max s.A.X s.B.X} : qi)]) (enc:=Q8) (.hs (k + 4) 2 0 1) y rfl rfl rfl rfl rfl rfl (by rw [Qy,Q1 q8];exact q4x g (List.mem_of_getElem? p)) (by simp [Yg,AS.blk,Qy,Q8]) rfl rfl rfl rfl ?_ qke;refine Y8 (v:=.dead) rfl (qk7 (l:=zs) (j:=j) rfl rfl rfl rfl rfl rfl (by rw [Qy,Q1 q8,Kt,Q1 q8,Qy,Q1 q8];rfl) c) ?_ rfl;refine qc ?_;refine Qc ?_;refine Qn ?_;refine Q5 ?_;refine U (.d (.int .i64 (w64 ((i : Int) + 1)))) O ?_;refine q0 O ?_;refine qc ?_;refine Qc ?_;refine ⟨(i + 1,(R.set j (s.A.Y,(zs,k + 5))),C,k + 2),⟨w,q5k g p _ _,by simpa using f⟩,by simp only [];omega,?_⟩;have hw : w64 ((i : Int) + 1) = ((i + 1 : Nat) : Int):=by rw [Qd q8];simp
        rw [hw];exact q74 [] qe (q5k g p _ _) (Nat.le_refl _) ⟨⟨_,rfl,.ref rfl qe q8⟩,⟨_,rfl,.ref rfl qe q8⟩,⟨_,rfl,.d (.refl _)⟩,⟨_,rfl,.d (.refl _)⟩,⟨_,rfl,.d (.refl _)⟩,trivial⟩ (fun n b hb=>qra g p n b hb)
      | none=>
        rw [qjy c] at y;rw [qk5 (n:=k + 5) c] at f;refine Qf ((FR 1 [5] [6]).map (Yr (ρ3 (k + 6) k))) (by rw [qbs (m:=7) (ρ3_inj q8 q8 q8) (qb6 q8 qe qe)];kernel_rfl) ?_;refine U (.ref 3 2 0 0) O ?_;refine U (.mp 1) O ?_;refine U (.dref [.int .i64 s.A.X,.int .i64 s.A.Y,.int .i64 s.B.X,.int .i64 s.B.Y] 0) O ?_;refine U (.dref [.int .i64 s.A.X,.int .i64 s.A.Y,.int .i64 s.B.X,.int .i64 s.B.Y] 1) O ?_;refine U (.d (.int .i64 s.A.Y)) O ?_;refine U (.ref 3 2 0 0) O ?_;refine U (.mp 1) O ?_;refine U (.dref [.int .i64 s.A.X,.int .i64 s.A.Y,.int .i64 s.B.X,.int .i64 s.B.Y] 0) O ?_;refine U (.dref [.int .i64 s.A.X,.int .i64 s.A.Y,.int .i64 s.B.X,.int .i64 s.B.Y] 1) O ?_;refine U (.d (.int .i64 s.A.Y)) O ?_;refine q7y _ rfl (qjk rfl rfl rfl rfl rfl rfl rfl c) ?_;refine U (.dref [.int .i64 s.A.X,.int .i64 s.A.Y,.int .i64 s.B.X,.int .i64 s.B.Y] 0) O ?_;refine U (.dref [.int .i64 s.A.X,.int .i64 s.A.Y,.int .i64 s.B.X,.int .i64 s.B.Y] 0) O ?_;refine U (.d (.int .i64 s.A.X)) O ?_;refine U (.dref [.int .i64 s.A.X,.int .i64 s.A.Y,.int .i64 s.B.X,.int .i64 s.B.Y] 2) O ?_;refine U (.dref [.int .i64 s.A.X,.int .i64 s.A.Y,.int .i64 s.B.X,.int .i64 s.B.Y] 2) O ?_;refine U (.d (.int .i64 s.B.X)) O ?_;refine Zu (r:=min s.A.X s.B.X) rfl rfl (by simp only [Zt];rfl) ?_;refine U (.dref [.int .i64 s.A.X,.int .i64 s.A.Y,.int .i64 s.B.X,.int .i64 s.B.Y] 0) O ?_;refine U (.dref [.int .i64 s.A.X,.int .i64 s.A.Y,.int .i64 s.B.X,.int .i64 s.B.Y] 0) O ?_;refine U (.d (.int .i64 s.A.X)) O ?_;refine U (.dref [.int .i64 s.A.X,.int .i64 s.A.Y,.int .i64 s.B.X,.int .i64 s.B.Y] 2) O ?_;refine U (.dref [.int .i64 s.A.X,.int .i64 s.A.Y,.int .i64 s.B.X,.int .i64 s.B.Y] 2) O ?_;refine U (.d (.int .i64 s.B.X)) O ?_;refine Zj (r:=max s.A.X s.B.X) rfl rfl (by simp only [Zi];rfl) ?_;refine U (.d (.agg [.int .i64 (min s.A.X s.B.X),.int .i64 (max s.A.X s.B.X)])) O ?_;refine q7x (.hs (k + 4) 2 0 1) (.dat 2 [[.int .i64 (min s.A.X s.B.X),.int .i64 (max s.A.X s.B.X)]]) rfl rfl ?_ (q3w rfl qcl);refine qkf (ys:=[({Lo:=min s.A.X s.B.X,Hi:=max s.A.X s.B.X} : qi)]) (enc:=Q8) (.hs (k + 4) 2 0 1) y qe rfl rfl rfl rfl rfl (by simp [Yg,AS.blk,Qy,Q8]) rfl rfl rfl ?_ qkd;refine Y8 (v:=.dead) rfl (qk8 (l:=zs) rfl rfl rfl rfl rfl rfl (by rw [Qy,Q1 q8,Qy,Q1 q8];rfl) c) ?_ rfl;refine qc ?_;refine Qc ?_;refine Qn ?_;refine Q5 ?_;refine U (.d (.int .i64 (w64 ((i : Int) + 1)))) O ?_;refine q0 O ?_;refine qc ?_;refine Qc ?_;refine ⟨(i + 1,(R ++ [(s.A.Y,(zs,k + 5))]),C,k + 2),⟨w,q5j g _ _,by simpa using f⟩,by simp only [];omega,?_⟩;have hw : w64 ((i : Int) + 1) = ((i + 1 : Nat) : Int):=by rw [Qd q8];simp
        rw [hw];exact q74 [] qe (q5j g _ _) (Nat.le_refl _) ⟨⟨_,rfl,.ref rfl qe q8⟩,⟨_,rfl,.ref rfl qe q8⟩,⟨_,rfl,.d (.refl _)⟩,⟨_,rfl,.d (.refl _)⟩,⟨_,rfl,.d (.refl _)⟩,trivial⟩ (fun n b hb=>qw4 g n b hb)
    · obtain ⟨zs,y,rfl⟩:=qow h1 hq
      cases c : Y2 s.A.X C with
      | some j=>
        obtain ⟨⟨xs,q⟩,p⟩:=qf9 c;have aa:=g.lo q (List.mem_append_right _ (Yj p));have ag:=g.hi q (List.mem_append_right _ (Yj p));rw [qjz c p] at y;rw [qk6 (n:=k + 5) c] at f;refine Qf ((FR 2 [4,5] [6,4]).map (Yr (ρ3 q k))) (by rw [qbs (m:=7) (ρ3_inj aa q8 q8) (qb6 q8 qe qe)];kernel_rfl) ?_;refine U (.ref 3 2 0 1) O ?_;refine U (.mp 2) O ?_;refine U (.dref [.int .i64 s.A.X,.int .i64 s.A.Y,.int .i64 s.B.X,.int .i64 s.B.Y] 0) O ?_;refine U (.dref [.int .i64 s.A.X,.int .i64 s.A.Y,.int .i64 s.B.X,.int .i64 s.B.Y] 0) O ?_;refine U (.d (.int .i64 s.A.X)) O ?_;refine U (.ref 3 2 0 1) O ?_;refine U (.mp 2) O ?_;refine U (.dref [.int .i64 s.A.X,.int .i64 s.A.Y,.int .i64 s.B.X,.int .i64 s.B.Y] 0) O ?_;refine U (.dref [.int .i64 s.A.X,.int .i64 s.A.Y,.int .i64 s.B.X,.int .i64 s.B.Y] 0) O ?_;refine U (.d (.int .i64 s.A.X)) O ?_;refine q7y _ rfl (qjj rfl rfl rfl rfl rfl rfl rfl c p) ?_;refine U (.dref [.int .i64 s.A.X,.int .i64 s.A.Y,.int .i64 s.B.X,.int .i64 s.B.Y] 0) O ?_;refine U (.dref [.int .i64 s.A.X,.int .i64 s.A.Y,.int .i64 s.B.X,.int .i64 s.B.Y] 1) O ?_;refine U (.d (.int .i64 s.A.Y)) O ?_;refine U (.dref [.int .i64 s.A.X,.int .i64 s.A.Y,.int .i64 s.B.X,.int .i64 s.B.Y] 2) O ?_;refine U (.dref [.int .i64 s.A.X,.int .i64 s.A.Y,.int .i64 s.B.X,.int .i64 s.B.Y] 3) O ?_;refine U (.d (.int .i64 s.B.Y)) O ?_;refine Zu (r:=min s.A.Y s.B.Y) rfl rfl (by simp only [Zt];rfl) ?_;refine U (.dref [.int .i64 s.A.X,.int .i64 s.A.Y,.int .i64 s.B.X,.int .i64 s.B.Y] 0) O ?_;refine U (.dref [.int .i64 s.A.X,.int .i64 s.A.Y,.int .i64 s.B.X,.int .i64 s.B.Y] 1) O ?_;refine U (.d (.int .i64 s.A.Y)) O ?_;refine U (.dref [.int .i64 s.A.X,.int .i64 s.A.Y,.int .i64 s.B.X,.int .i64 s.B.Y] 2) O ?_;refine U (.dref [.int .i64 s.A.X,.int .i64 s.A.Y,.int .i64 s.B.X,.int .i64 s.B.Y] 3) O ?_;refine U (.d (.int .i64 s.B.Y)) O ?_;refine Zj (r:=max s.A.Y s.B.Y) rfl rfl (by simp only [Zi];rfl) ?_;refine U (.d (.agg [.int .i64 (min s.A.Y s.B.Y),.int .i64 (max s.A.Y s.B.Y)])) O ?_;refine q7x (.hs (k + 4) 2 0 1) (.dat 2 [[.int .i64 (min s.A.Y s.B.Y),.int .i64 (max s.A.Y s.B.Y)]]) rfl rfl ?_ (q3w rfl qcl);refine Yq (xs:=xs) (ys:=[({Lo:=min s.A.Y s.B.Y,Hi:=max s.A.Y s.B.Y} : qi)]) (enc:=Q8) (.hs (k + 4) 2 0 1) y rfl rfl rfl rfl rfl rfl (by rw [Qy,Q1 q8];exact q4w g (List.mem_of_getElem? p)) (by simp [Yg,AS.blk,Qy,Q8]) rfl rfl rfl rfl ?_ qke;refine Y8 (v:=.dead) rfl (qk7 (l:=zs) (j:=j) rfl rfl rfl rfl rfl rfl (by rw [Qy,Q1 q8,Kt,Q1 q8,Qy,Q1 q8];rfl) c) ?_ rfl;refine qc ?_;refine Qc ?_;refine Qn ?_;refine Q5 ?_;refine U (.d (.int .i64 (w64 ((i : Int) + 1)))) O ?_;refine q0 O ?_;refine qc ?_;refine Qc ?_;refine ⟨(i + 1,R,(C.set j (s.A.X,(zs,k + 5))),k + 2),⟨w,Jv (q5k (Jv g) p _ _),by simpa using f⟩,by simp only [];omega,?_⟩;have hw : w64 ((i : Int) + 1) = ((i + 1 : Nat) : Int):=by rw [Qd q8];simp
        rw [hw];exact q74 [] qe (Jv (q5k (Jv g) p _ _)) (Nat.le_refl _) ⟨⟨_,rfl,.ref rfl qe q8⟩,⟨_,rfl,.ref rfl qe q8⟩,⟨_,rfl,.d (.refl _)⟩,⟨_,rfl,.d (.refl _)⟩,⟨_,rfl,.d (.refl _)⟩,trivial⟩ (fun n b hb=>qr9 g p n b hb)
      | none=>
        rw [qjy c] at y;rw [qk5 (n:=k + 5) c] at f;refine Qf ((FR 2 [5] [6]).map (Yr (ρ3 (k + 6) k))) (by rw [qbs (m:=7) (ρ3_inj q8 q8 q8) (qb6 q8 qe qe)];kernel_rfl) ?_;refine U (.ref 3 2 0 1) O ?_;refine U (.mp 2) O ?_;refine U (.dref [.int .i64 s.A.X,.int .i64 s.A.Y,.int .i64 s.B.X,.int .i64 s.B.Y] 0) O ?_;refine U (.dref [.int .i64 s.A.X,.int .i64 s.A.Y,.int .i64 s.B.X,.int .i64 s.B.Y] 0) O ?_;refine U (.d (.int .i64 s.A.X)) O ?_;refine U (.ref 3 2 0 1) O ?_;refine U (.mp 2) O ?_;refine U (.dref [.int .i64 s.A.X,.int .i64 s.A.Y,.int .i64 s.B.X,.int .i64 s.B.Y] 0) O ?_;refine U (.dref [.int .i64 s.A.X,.int .i64 s.A.Y,.int .i64 s.B.X,.int .i64 s.B.Y] 0) O ?_;refine U (.d (.int .i64 s.A.X)) O ?_;refine q7y _ rfl (qjk rfl rfl rfl rfl rfl rfl rfl c) ?_;refine U (.dref [.int .i64 s.A.X,.int .i64 s.A.Y,.int .i64 s.B.X,.int .i64 s.B.Y] 0) O ?_;refine U (.dref [.int .i64 s.A.X,.int .i64 s.A.Y,.int .i64 s.B.X,.int .i64 s.B.Y] 1) O ?_;refine U (.d (.int .i64 s.A.Y)) O ?_;refine U (.dref [.int .i64 s.A.X,.int .i64 s.A.Y,.int .i64 s.B.X,.int .i64 s.B.Y] 2) O ?_;refine U (.dref [.int .i64 s.A.X,.int .i64 s.A.Y,.int .i64 s.B.X,.int .i64 s.B.Y] 3) O ?_;refine U (.d (.int .i64 s.B.Y)) O ?_;refine Zu (r:=min s.A.Y s.B.Y) rfl rfl (by simp only [Zt];rfl) ?_;refine U (.dref [.int .i64 s.A.X,.int .i64 s.A.Y,.int .i64 s.B.X,.int .i64 s.B.Y] 0) O ?_;refine U (.dref [.int .i64 s.A.X,.int .i64 s.A.Y,.int .i64 s.B.X,.int .i64 s.B.Y] 1) O ?_;refine U (.d (.int .i64 s.A.Y)) O ?_;refine U (.dref [.int .i64 s.A.X,.int .i64 s.A.Y,.int .i64 s.B.X,.int .i64 s.B.Y] 2) O ?_;refine U (.dref [.int .i64 s.A.X,.int .i64 s.A.Y,.int .i64 s.B.X,.int .i64 s.B.Y] 3) O ?_;refine U (.d (.int .i64 s.B.Y)) O ?_;refine Zj (r:=max s.A.Y s.B.Y) rfl rfl (by simp only [Zi];rfl) ?_;refine U (.d (.agg [.int .i64 (min s.A.Y s.B.Y),.int .i64 (max s.A.Y s.B.Y)])) O ?_;refine q7x (.hs (k + 4) 2 0 1) (.dat 2 [[.int .i64 (min s.A.Y s.B.Y),.int .i64 (max s.A.Y s.B.Y)]]) rfl rfl ?_ (q3w rfl qcl);refine qkf (ys:=[({Lo:=min s.A.Y s.B.Y,Hi:=max s.A.Y s.B.Y} : qi)]) (enc:=Q8) (.hs (k + 4) 2 0 1) y qe rfl rfl rfl rfl rfl (by simp [Yg,AS.blk,Qy,Q8]) rfl rfl rfl ?_ qkd;refine Y8 (v:=.dead) rfl (qk8 (l:=zs) rfl rfl rfl rfl rfl rfl (by rw [Qy,Q1 q8,Qy,Q1 q8];rfl) c) ?_ rfl;refine qc ?_;refine Qc ?_;refine Qn ?_;refine Q5 ?_;refine U (.d (.int .i64 (w64 ((i : Int) + 1)))) O ?_;refine q0 O ?_;refine qc ?_;refine Qc ?_;refine ⟨(i + 1,R,(C ++ [(s.A.X,(zs,k + 5))]),k + 2),⟨w,Jv (q5j (Jv g) _ _),by simpa using f⟩,by simp only [];omega,?_⟩;have hw : w64 ((i : Int) + 1) = ((i + 1 : Nat) : Int):=by rw [Qd q8];simp
        rw [hw];exact q74 [] qe (Jv (q5j (Jv g) _ _)) (Nat.le_refl _) ⟨⟨_,rfl,.ref rfl qe q8⟩,⟨_,rfl,.ref rfl qe q8⟩,⟨_,rfl,.d (.refl _)⟩,⟨_,rfl,.d (.refl _)⟩,⟨_,rfl,.d (.refl _)⟩,trivial⟩ (fun n b hb=>qw3 g n b hb)
  · refine Qh ?_;refine q79 ?_
    have aj : i = o.length:=by
      rcases Nat.lt_or_ge i o.length with h | h
      · have hd : decide ((i : Int) < (o.length : Int)) = true:=Q6 q8;rw [hd] at hf;cases hf
      · omega
    subst aj;rw [List.drop_length] at hc;have hr : r1 = {rows_:=prR R,columns_:=prR C}:=(J6 (show some _ = some r1 from hc)).symm;obtain ⟨nA,nB⟩:=qe2 hL qe qe;subst hr;obtain ⟨A',hA,t⟩:=J9 t;obtain ⟨B',hB,t⟩:=J9 t;cases t;refine Zv (st':=SF (prR R) (prR C)) ?_ (qoz hA hB nA nB (finD (v:=.d (.agg [.mp (mrow kI eL A'),.mp (mrow kI eL B')])) (.inr rfl) rfl rfl (.refl _))) qe;refine Jg (nm R ++ nm C) ⟨⟨_,rfl,.ref rfl qe (by show (0:Nat) < _;omega)⟩,⟨_,rfl,.ref rfl qe (by show (3:Nat) < _;omega)⟩,trivial⟩ ⟨⟨q8,fun hm=>by have:=g.lo 0 hm;omega,_,rfl,.dat _ _⟩,⟨q8,fun hm=>by have:=g.lo 1 hm;omega,_,rfl,?_⟩,⟨q8,fun hm=>by have:=g.lo 2 hm;omega,_,rfl,?_⟩,⟨q8,fun hm=>by have:=g.lo 3 hm;omega,_,rfl,Jz q8⟩,trivial⟩
    · refine qn1 (fun e u=>q4x g u) (fun e u=>List.mem_append_left _ (List.mem_map.2 ⟨e,u,rfl⟩))
    · refine qn1 (fun e u=>q4w g u) (fun e u=>List.mem_append_right _ (List.mem_map.2 ⟨e,u,rfl⟩))
end Go.Proofs.YtgkialgkmjnfbaaGreat
