/- Wc1 Wc2 Wc3 Wc4 Wc5 Wc6 Wc -/
import Derived.Test.YtgkialgkmjnfbaaGreatK17
namespace Go.Sh
open Go Go.Am
abbrev RW:=List (Int × (List ql × Nat))
abbrev kI : Int→DV:=fun n=>DV.int .i64 n
abbrev eL : List ql→DV:=fun l=>DV.sl 2 (l.map Qc)
def prR (R : RW) : List (Int × List ql):=R.map fun e=>(e.1,e.2.1)
def rv (R : RW) : List (DV × V):=R.map fun e=>(kI e.1,V.hs e.2.2 2 0 e.2.1.length)
def rb (R : RW) : List (Nat × Blk):=R.map fun e=>(e.2.2,Blk.dat 2 (e.2.1.map Qc))
def nm (R : RW) : List Nat:=R.map fun e=>e.2.2
abbrev HB (R C : RW) : List (Nat × Blk):=(0,.dat 2 [[.nilm,.nilm]])::(1,.mp true (rv R))::(2,.mp true (rv C))::(3,.cel 2 [[.mp 1,.mp 2]])::(rb R ++ rb C)
structure NmOk (R C : RW) (k : Nat) : Prop where
  nd : (nm R ++ nm C).Nodup
  lo : ∀ n∈nm R ++ nm C,4≤n
  hi : ∀ n∈nm R ++ nm C,n < k + 4
theorem q80 {α : Type} : ∀ {l : List (Nat × α)} {n : Nat} {b : α},(l.map (·.1)).Nodup→(find l n = some b↔(n,b)∈l)
  | [],n,b,_=>by simp [find]
  | (m,c)::r,n,b,h=>by
    simp only [List.map_cons,List.nodup_cons] at h
    rw [Qy]
    by_cases e : m = n
    · subst e
      simp only [if_true,Option.some.injEq,List.mem_cons,Prod.mk.injEq,true_and]
      constructor
      · intro a;exact .inl a.symm
      · rintro (a | a)
        · exact a.symm
        · exact absurd (List.mem_map_of_mem (f:=(·.1)) a) h.1
    · simp only [e,if_false,q80 h.2,List.mem_cons,Prod.mk.injEq]
      constructor
      · exact .inr
      · rintro (a | a)
        · exact absurd a.1.symm e
        · exact a
theorem qv9 (R : RW) : (rb R).map (·.1) = nm R:=by simp [rb,nm]
theorem qbs {R C : RW} {k : Nat} (h : NmOk R C k) : ((HB R C).map (·.1)).Nodup:=by
  have e : (HB R C).map (·.1) = 0::1::2::3::(nm R ++ nm C):=by simp [HB,qv9]
  rw [e];have lo:=h.lo;have a : ∀ j,j < 4→j ∉ nm R ++ nm C:=fun j c b=>by have:=lo j b;omega
  simp only [List.nodup_cons,List.mem_cons,not_or];exact ⟨⟨q8,q8,q8,a 0 q8⟩,⟨q8,q8,a 1 q8⟩,⟨q8,a 2 q8⟩,a 3 q8,h.nd⟩
theorem q59 {R C : RW} {k : Nat} (h : NmOk R C k) {e : Int × (List ql × Nat)} (a : e∈R) : find (HB R C) e.2.2 = some (.dat 2 (e.2.1.map Qc)):=by
  rw [q80 (qbs h)];have : (e.2.2,Blk.dat 2 (e.2.1.map Qc))∈rb R:=List.mem_map.2 ⟨e,a,rfl⟩;simp [HB,this]
theorem q58 {R C : RW} {k : Nat} (h : NmOk R C k) {e : Int × (List ql × Nat)} (a : e∈C) : find (HB R C) e.2.2 = some (.dat 2 (e.2.1.map Qc)):=by
  rw [q80 (qbs h)];have : (e.2.2,Blk.dat 2 (e.2.1.map Qc))∈rb C:=List.mem_map.2 ⟨e,a,rfl⟩;simp [HB,this]
theorem qhm {R C : RW} {k n : Nat} (h : NmOk R C k) {b : Blk} (d : find (HB R C) n = some b) : n < k + 4:=by
  rw [q80 (qbs h)] at d;simp only [HB,List.mem_cons,Prod.mk.injEq,List.mem_append] at d;have hi:=h.hi
  have key : ∀ {X : RW},(n,b)∈rb X→(∀ m∈nm X,m < k + 4)→n < k + 4:=fun c g=>by
    obtain ⟨e,f,a⟩:=List.mem_map.1 c;cases a;exact g _ (List.mem_map.2 ⟨e,f,rfl⟩)
  rcases d with a | a | a | a | a | a
  · omega
  · omega
  · omega
  · omega
  · exact key a fun m c=>hi m (List.mem_append_left _ c)
  · exact key a fun m c=>hi m (List.mem_append_right _ c)
theorem qoj {base : Nat} {st st' : AS} (fz : List Nat) (hs : ∀ t d,st'.get t = some d→∃ v,st.get t = some v∧Wv st (fun n=>n) fz [] st'.nx v d)
    (hb : ∀ n a,st'.blk n = some a→n < st'.nx∧n ∉ fz∧∃ b,st.blk n = some b∧Wb st (fun n=>n) fz [] st'.nx b a) (f : base≤st'.nx) (c : ∀ n∈fz,base≤n) : WkE base st st':=
  ⟨fun n=>n,fz,[],hs,fun n a h=>⟨(hb n a h).1,.inr ⟨qd,(hb n a h).2.2⟩⟩,fun n m _ _ _ _ _ _ e=>e,fun n b h _=>(hb n b h).2.1,fun _ _=>rfl,f,c,qd⟩
def SlOk (st : AS) (fz : List Nat) (nx : Nat) : List (Nat × V)→Prop
  | []=>True
  | (t,v')::r=>(∃ v,st.get t = some v∧Wv st (fun n=>n) fz [] nx v v')∧SlOk st fz nx r
theorem SlOk.get {st : AS} {fz : List Nat} {nx : Nat} {l : List (Nat × V)} (h : SlOk st fz nx l) {t : Nat} {b : V} (a : find l t = some b) : ∃ v,st.get t = some v∧Wv st (fun n=>n) fz [] nx v b:=by
  induction l with
  | nil=>simp [find] at a
  | cons e r ih=>
    obtain ⟨m,c⟩:=e;rw [Qy] at a;split at a
    · rename_i e;subst e;cases a;exact h.1
    · exact ih h.2 a
theorem qv8 {R C : RW} {k : Nat} (h : NmOk R C k) : ∀ n∈nm R,n < k + 4:=fun n a=>h.hi n (List.mem_append_left _ a)
theorem qv7 {R C : RW} {k : Nat} (h : NmOk R C k) : ∀ n∈nm C,n < k + 4:=fun n a=>h.hi n (List.mem_append_right _ a)
theorem q8j (key : Int) : ∀ R : RW,Y9 key (prR R) = Y9 key R
  | []=>rfl
  | (a,v)::r=>by
    have b:=q8j key r
    unfold prR at b
    simp only [prR,List.map_cons,Y9,b]
theorem qcw (key : Int) (R : RW) : Za false [some .i64] (kI key) (rv R) = some (Y9 key R):=
  qcv (ek:=kI) (ag:=false) (ks:=[some .i64]) Jy (fun b : List ql × Nat=>V.hs b.2 2 0 b.1.length) (fun e : Int × (List ql × Nat)=>(kI e.1,V.hs e.2.2 2 0 e.2.1.length)) (fun _=>rfl) key R
theorem qft {β : Type} {key : Int} : ∀ {R : List (Int × β)} {j : Nat},Y9 key R = some j→∃ b,R[j]? = some (key,b)
  | [],j,h=>by simp [Y9] at h
  | (a,v)::r,j,h=>by
    simp only [Y9] at h
    by_cases e : key = a
    · subst e;simp at h;subst h;exact ⟨v,rfl⟩
    · simp only [e,if_false,Y0] at h
      obtain ⟨i,hi,rfl⟩:=h
      obtain ⟨b,hb⟩:=qft hi
      exact ⟨b,by simpa using hb⟩
theorem ql6 {key : Int} {R : RW} {j : Nat} {xs : List ql} {r : Nat} (h : Y9 key R = some j) (a : R[j]? = some (key,(xs,r))) : K5 [] key (prR R) = xs:=by
  have:=qcx ([] : List ql) key (prR R);rw [q8j,h] at this;simp [prR,a] at this;exact this.1.symm
theorem ql5 {key : Int} {R : RW} (h : Y9 key R = none) : K5 [] key (prR R) = []:=by
  have:=qcx ([] : List ql) key (prR R);rw [q8j,h] at this;simp at this
  first | exact this.1 | exact this.1.symm
theorem qld {key : Int} {R : RW} {j : Nat} {l : List ql} {n : Nat} (h : Y9 key R = some j) : K8 key l (prR R) = prR (R.set j (key,(l,n))):=by
  have:=q8k key l (prR R);rw [q8j,h] at this;rw [← this];simp [prR,List.map_set]
theorem qlc {key : Int} {R : RW} {l : List ql} {n : Nat} (h : Y9 key R = none) : K8 key l (prR R) = prR (R ++ [(key,(l,n))]):=by
  have:=q8k key l (prR R);rw [q8j,h] at this;rw [← this];simp [prR]
end Go.Sh
namespace Go.Sh
open Go Go.Am
theorem qlp {R : RW} (h : (nm R).Nodup) {i j : Nat} {a b : Int × (List ql × Nat)} (hi : R[i]? = some a) (l : R[j]? = some b) (d : i≠j) : a.2.2≠b.2.2:=by
  intro e;obtain ⟨m,e1⟩:=List.getElem?_eq_some_iff.1 hi;obtain ⟨k,n⟩:=List.getElem?_eq_some_iff.1 l;have f : i < (nm R).length:=by simpa [nm] using m
  have g : j < (nm R).length:=by simpa [nm] using k
  have : (nm R)[i] = (nm R)[j]:=by simp only [nm,List.getElem_map,e1,n,e]
  have hp:=List.pairwise_iff_getElem.1 h;rcases Nat.lt_or_gt_of_ne d with c | c
  · exact hp i j f g c this
  · exact hp j i g f c this.symm
theorem q5z {R C : RW} {k : Nat} (h : NmOk R C k) {j : Nat} {b : Int × (List ql × Nat)} (t : R[j]? = some b) (key : Int) (l : List ql) : NmOk (R.set j (key,(l,k + 5))) C (k + 2):=by
  have e : nm (R.set j (key,(l,k + 5))) = (nm R).set j (k + 5):=by simp [nm,List.map_set]
  have q : ∀ n∈nm (R.set j (key,(l,k + 5))),n = k + 5∨n∈nm R:=fun n g=>by
    rw [e] at g;rcases List.mem_or_eq_of_mem_set g with c | c
    · exact .inr c
    · exact .inl c
  have d : k + 5 ∉ nm R ++ nm C:=fun s=>by have:=h.hi _ s;omega
  have f:=List.nodup_append.1 h.nd;refine ⟨?_,fun n g=>?_,fun n g=>?_⟩
  · rw [List.nodup_append];refine ⟨?_,f.2.1,fun a r b hb=>?_⟩
    · rw [e];have o : j < (nm R).length:=by simpa [nm] using K7 t
      have p:=q26 (k + 5) (l:=nm R) (j:=j) (y:=(nm R)[j]) (List.getElem?_eq_getElem o);refine (p.1.nodup_iff).2 (List.nodup_cons.2 ⟨fun s=>d (List.mem_append_left _ (List.mem_of_mem_eraseIdx s)),?_⟩);exact (List.nodup_cons.1 ((p.2.nodup_iff).1 f.1)).2
    · rcases q a r with rfl | r
      · rintro rfl;exact d (List.mem_append_right _ hb)
      · exact f.2.2 a r b hb
  · rcases List.mem_append.1 g with c | c
    · rcases q n c with rfl | m
      · omega
      · exact h.lo n (List.mem_append_left _ m)
    · exact h.lo n (List.mem_append_right _ c)
  · rcases List.mem_append.1 g with c | c
    · rcases q n c with rfl | m
      · omega
      · have:=h.hi n (List.mem_append_left _ m);omega
    · have:=h.hi n (List.mem_append_right _ c);omega
theorem q5y {R C : RW} {k : Nat} (h : NmOk R C k) (key : Int) (l : List ql) : NmOk (R ++ [(key,(l,k + 5))]) C (k + 2):=by
  have e : nm (R ++ [(key,(l,k + 5))]) = nm R ++ [k + 5]:=by simp [nm]
  have d : k + 5 ∉ nm R ++ nm C:=fun j=>by have:=h.hi _ j;omega
  have f:=List.nodup_append.1 h.nd;refine ⟨?_,fun n g=>?_,fun n g=>?_⟩
  · rw [e,List.append_assoc,List.nodup_append];refine ⟨f.1,?_,fun a m b hb=>?_⟩
    · rw [List.singleton_append,List.nodup_cons];exact ⟨fun j=>d (List.mem_append_right _ j),f.2.1⟩
    · rw [List.singleton_append] at hb;rcases List.mem_cons.1 hb with rfl | hb
      · rintro rfl;exact d (List.mem_append_left _ m)
      · exact f.2.2 a m b hb
  · rw [e,List.mem_append,List.mem_append] at g;rcases g with (c | c) | c
    · exact h.lo n (List.mem_append_left _ c)
    · simp at c;omega
    · exact h.lo n (List.mem_append_right _ c)
  · rw [e,List.mem_append,List.mem_append] at g;rcases g with (c | c) | c
    · have:=h.hi n (List.mem_append_left _ c);omega
    · simp at c;omega
    · have:=h.hi n (List.mem_append_right _ c);omega
theorem Ui {R C : RW} {k : Nat} (h : NmOk R C k) : NmOk C R k:=by
  refine ⟨?_,fun n c=>h.lo n ?_,fun n c=>h.hi n ?_⟩
  · have:=h.nd;rw [List.nodup_append] at this ⊢;exact ⟨this.2.1,this.1,fun a d b hb e=>this.2.2 b hb a d e.symm⟩
  · rw [List.mem_append] at c ⊢;exact c.symm
  · rw [List.mem_append] at c ⊢;exact c.symm
theorem q57 {R C : RW} {k n : Nat} {b : Blk} (h : NmOk R C k) (c : find (HB R C) n = some b) :
    (n = 0∧b = .dat 2 [[.nilm,.nilm]])∨(n = 1∧b = .mp true (rv R))∨(n = 2∧b = .mp true (rv C))∨(n = 3∧b = .cel 2 [[.mp 1,.mp 2]])∨(∃ (i : Nat) (e : Int × (List ql × Nat)),R[i]? = some e∧n = e.2.2∧b = .dat 2 (e.2.1.map Qc))∨(∃ (i : Nat) (e : Int × (List ql × Nat)),C[i]? = some e∧n = e.2.2∧b = .dat 2 (e.2.1.map Qc)):=by
  rw [q80 (qbs h)] at c;simp only [HB,List.mem_cons,Prod.mk.injEq,List.mem_append] at c
  have key : ∀ {X : RW},(n,b)∈rb X→∃ (i : Nat) (e : Int × (List ql × Nat)),X[i]? = some e∧n = e.2.2∧b = .dat 2 (e.2.1.map Qc):=fun d=>by
    obtain ⟨e,f,a⟩:=List.mem_map.1 d;cases a;obtain ⟨i,hi,rfl⟩:=List.mem_iff_getElem.1 f;exact ⟨i,_,List.getElem?_eq_getElem hi,rfl,rfl⟩
  rcases c with a | a | a | a | a | a
  · exact .inl a
  · exact .inr (.inl a)
  · exact .inr (.inr (.inl a))
  · exact .inr (.inr (.inr (.inl a)))
  · exact .inr (.inr (.inr (.inr (.inl (key a)))))
  · exact .inr (.inr (.inr (.inr (.inr (key a)))))
theorem Yo {R : RW} {i : Nat} {e : Int × (List ql × Nat)} (h : R[i]? = some e) : e.2.2∈nm R:=List.mem_map.2 ⟨e,List.mem_of_getElem? h,rfl⟩
theorem q7h {st : AS} {sl : List (Nat × V)} {R C : RW} {k c : Nat} (fz : List Nat) (g : ∀ n∈fz,k + 4≤n) (h : NmOk R C k) (hk : k≤c) (hs : SlOk st fz (c + 4) sl) (hb : ∀ n b,find (HB R C) n = some b→st.blk n = some b) : WkE 0 st ⟨sl,HB R C,c + 4⟩:=by
  refine qoj fz (fun t s o=>hs.get o) (fun n j a=>?_) q8 qd;have m:=qhm h a;refine ⟨by show n < c + 4;omega,fun r=>by have:=g n r;omega,j,hb n j a,?_⟩
  have d : ∀ {X : RW},(∀ n∈nm X,n < k + 4)→Wb st (fun n=>n) fz [] (c + 4) (.mp true (rv X)) (.mp true (rv X)):=by
    intro X p;refine .mp true rfl fun i e u l f=>?_;rw [l] at f;cases f;obtain ⟨x,q,rfl⟩:=List.mem_map.1 (List.mem_of_getElem? l);exact ⟨rfl,.hs rfl qd (by have:=p _ (List.mem_map.2 ⟨x,q,rfl⟩);omega),rfl⟩
  rcases q57 h a with ⟨rfl,rfl⟩ | ⟨rfl,rfl⟩ | ⟨rfl,rfl⟩ | ⟨rfl,rfl⟩ | ⟨i,e,_,rfl,rfl⟩ | ⟨i,e,_,rfl,rfl⟩
  · exact .dat _ _
  · exact d (qv8 h)
  · exact d (qv7 h)
  · exact q1g (.cons (.mp rfl qd (by show 1 < c + 4;omega)) rfl (.cons (.mp rfl qd (by show 2 < c + 4;omega)) rfl .nil))
  · exact .dat _ _
  · exact .dat _ _
theorem qte {R C : RW} {k j : Nat} {key : Int} {xs l : List ql} {r : Nat} {s : List (List DV)} (h : NmOk R C k) (d : R[j]? = some (key,(xs,r))) :
    ∀ n b,find (HB (R.set j (key,(l,k + 5))) C) n = some b→find (repl ((k + 5,.dat 2 (l.map Qc))::repl ((k + 4,.dat 2 s)::HB R C) r .dead) 1 (.mp true (rv (R.set j (key,(l,k + 5)))))) n = some b:=by
  intro n b m;have o:=h.lo r (List.mem_append_left _ (Yo d));have p:=h.hi r (List.mem_append_left _ (Yo d))
  have old : ∀ n b,n≠1→n≠r→n < k + 4→find (HB R C) n = some b→find (repl ((k + 5,.dat 2 (l.map Qc))::repl ((k + 4,.dat 2 s)::HB R C) r .dead) 1 (.mp true (rv (R.set j (key,(l,k + 5)))))) n = some b:=fun n b f g u q=>by
    rw [Kx,qw q8,Qy,qw q8,Kx,qw q8,Qy,qw q8];exact q
  rcases q57 (q5z h d key l) m with ⟨rfl,rfl⟩ | ⟨rfl,rfl⟩ | ⟨rfl,rfl⟩ | ⟨rfl,rfl⟩ | ⟨i,e,a,rfl,rfl⟩ | ⟨i,e,a,rfl,rfl⟩
  · exact old _ _ q8 q8 q8 rfl
  · have f : find ((k + 5,.dat 2 (l.map Qc))::repl ((k + 4,.dat 2 s)::HB R C) r .dead) 1 = some (.mp true (rv R)):=by
      rw [Qy,qw q8,Kx,qw q8,Qy,qw q8];rfl
    rw [Kx,qu rfl,f];rfl
  · exact old _ _ q8 q8 q8 rfl
  · exact old _ _ q8 q8 q8 rfl
  · rw [List.getElem?_set] at a;by_cases c : j = i
    · rw [qu c,qu (K7 d)] at a;cases a;rw [Kx,qw (by show ¬ 1 = k + 5;omega),Qy,qu rfl]
    · rw [qw c] at a;have f:=qlp (List.nodup_append.1 h.nd).1 a d (fun e=>c e.symm);have g:=h.lo _ (List.mem_append_left _ (Yo a));exact old _ _ q8 f (h.hi _ (List.mem_append_left _ (Yo a))) (q59 h (List.mem_of_getElem? a))
  · have f : e.2.2≠r:=fun t=>(List.nodup_append.1 h.nd).2.2 r (Yo d) e.2.2 (Yo a) t.symm;have g:=h.lo _ (List.mem_append_right _ (Yo a));exact old _ _ q8 f (h.hi _ (List.mem_append_right _ (Yo a))) (q58 h (List.mem_of_getElem? a))
theorem qtd {R C : RW} {k j : Nat} {key : Int} {xs l : List ql} {r : Nat} {s : List (List DV)} (h : NmOk R C k) (d : C[j]? = some (key,(xs,r))) :
    ∀ n b,find (HB R (C.set j (key,(l,k + 5)))) n = some b→find (repl ((k + 5,.dat 2 (l.map Qc))::repl ((k + 4,.dat 2 s)::HB R C) r .dead) 2 (.mp true (rv (C.set j (key,(l,k + 5)))))) n = some b:=by
  intro n b m;have o:=h.lo r (List.mem_append_right _ (Yo d));have p:=h.hi r (List.mem_append_right _ (Yo d))
  have old : ∀ n b,n≠2→n≠r→n < k + 4→find (HB R C) n = some b→find (repl ((k + 5,.dat 2 (l.map Qc))::repl ((k + 4,.dat 2 s)::HB R C) r .dead) 2 (.mp true (rv (C.set j (key,(l,k + 5)))))) n = some b:=fun n b f g u q=>by
    rw [Kx,qw q8,Qy,qw q8,Kx,qw q8,Qy,qw q8];exact q
  rcases q57 (Ui (q5z (Ui h) d key l)) m with ⟨rfl,rfl⟩ | ⟨rfl,rfl⟩ | ⟨rfl,rfl⟩ | ⟨rfl,rfl⟩ | ⟨i,e,a,rfl,rfl⟩ | ⟨i,e,a,rfl,rfl⟩
  · exact old _ _ q8 q8 q8 rfl
  · exact old _ _ q8 q8 q8 rfl
  · have f : find ((k + 5,.dat 2 (l.map Qc))::repl ((k + 4,.dat 2 s)::HB R C) r .dead) 2 = some (.mp true (rv C)):=by
      rw [Qy,qw q8,Kx,qw q8,Qy,qw q8];rfl
    rw [Kx,qu rfl,f];rfl
  · exact old _ _ q8 q8 q8 rfl
  · have f : e.2.2≠r:=fun t=>(List.nodup_append.1 h.nd).2.2 e.2.2 (Yo a) r (Yo d) t;have g:=h.lo _ (List.mem_append_left _ (Yo a));exact old _ _ q8 f (h.hi _ (List.mem_append_left _ (Yo a))) (q59 h (List.mem_of_getElem? a))
  · rw [List.getElem?_set] at a;by_cases c : j = i
    · rw [qu c,qu (K7 d)] at a;cases a;rw [Kx,qw (by show ¬ 2 = k + 5;omega),Qy,qu rfl]
    · rw [qw c] at a;have f:=qlp (List.nodup_append.1 h.nd).2.1 a d (fun e=>c e.symm);have g:=h.lo _ (List.mem_append_right _ (Yo a));exact old _ _ q8 f (h.hi _ (List.mem_append_right _ (Yo a))) (q58 h (List.mem_of_getElem? a))
theorem qys {R C : RW} {k : Nat} {key : Int} {l : List ql} {s : List (List DV)} (h : NmOk R C k) :
    ∀ n b,find (HB (R ++ [(key,(l,k + 5))]) C) n = some b→find (repl ((k + 5,.dat 2 (l.map Qc))::(k + 4,.dat 2 s)::HB R C) 1 (.mp true (rv (R ++ [(key,(l,k + 5))])))) n = some b:=by
  intro n b g
  have old : ∀ n b,n≠1→n < k + 4→find (HB R C) n = some b→find (repl ((k + 5,.dat 2 (l.map Qc))::(k + 4,.dat 2 s)::HB R C) 1 (.mp true (rv (R ++ [(key,(l,k + 5))])))) n = some b:=fun n b f o m=>by
    rw [Kx,qw q8,Qy,qw q8,Qy,qw q8];exact m
  rcases q57 (q5y h key l) g with ⟨rfl,rfl⟩ | ⟨rfl,rfl⟩ | ⟨rfl,rfl⟩ | ⟨rfl,rfl⟩ | ⟨i,e,c,rfl,rfl⟩ | ⟨i,e,c,rfl,rfl⟩
  · exact old _ _ q8 q8 rfl
  · have f : find ((k + 5,.dat 2 (l.map Qc))::(k + 4,.dat 2 s)::HB R C) 1 = some (.mp true (rv R)):=by
      rw [Qy,qw q8,Qy,qw q8];rfl
    rw [Kx,qu rfl,f];rfl
  · exact old _ _ q8 q8 rfl
  · exact old _ _ q8 q8 rfl
  · rcases List.mem_append.1 (List.mem_of_getElem? c) with a | a
    · have d : e.2.2∈nm R:=List.mem_map.2 ⟨e,a,rfl⟩;have j:=h.lo _ (List.mem_append_left _ d);exact old _ _ q8 (h.hi _ (List.mem_append_left _ d)) (q59 h a)
    · simp at a;subst a;rw [Kx,qw (by show ¬ 1 = k + 5;omega),Qy,qu rfl]
  · have j:=h.lo _ (List.mem_append_right _ (Yo c));exact old _ _ q8 (h.hi _ (List.mem_append_right _ (Yo c))) (q58 h (List.mem_of_getElem? c))
theorem qyr {R C : RW} {k : Nat} {key : Int} {l : List ql} {s : List (List DV)} (h : NmOk R C k) :
    ∀ n b,find (HB R (C ++ [(key,(l,k + 5))])) n = some b→find (repl ((k + 5,.dat 2 (l.map Qc))::(k + 4,.dat 2 s)::HB R C) 2 (.mp true (rv (C ++ [(key,(l,k + 5))])))) n = some b:=by
  intro n b g
  have old : ∀ n b,n≠2→n < k + 4→find (HB R C) n = some b→find (repl ((k + 5,.dat 2 (l.map Qc))::(k + 4,.dat 2 s)::HB R C) 2 (.mp true (rv (C ++ [(key,(l,k + 5))])))) n = some b:=fun n b f o m=>by
    rw [Kx,qw q8,Qy,qw q8,Qy,qw q8];exact m
  rcases q57 (Ui (q5y (Ui h) key l)) g with ⟨rfl,rfl⟩ | ⟨rfl,rfl⟩ | ⟨rfl,rfl⟩ | ⟨rfl,rfl⟩ | ⟨i,e,c,rfl,rfl⟩ | ⟨i,e,c,rfl,rfl⟩
  · exact old _ _ q8 q8 rfl
  · exact old _ _ q8 q8 rfl
  · have f : find ((k + 5,.dat 2 (l.map Qc))::(k + 4,.dat 2 s)::HB R C) 2 = some (.mp true (rv C)):=by
      rw [Qy,qw q8,Qy,qw q8];rfl
    rw [Kx,qu rfl,f];rfl
  · exact old _ _ q8 q8 rfl
  · have j:=h.lo _ (List.mem_append_left _ (Yo c));exact old _ _ q8 (h.hi _ (List.mem_append_left _ (Yo c))) (q59 h (List.mem_of_getElem? c))
  · rcases List.mem_append.1 (List.mem_of_getElem? c) with a | a
    · have d : e.2.2∈nm C:=List.mem_map.2 ⟨e,a,rfl⟩;have j:=h.lo _ (List.mem_append_right _ d);exact old _ _ q8 (h.hi _ (List.mem_append_right _ d)) (q58 h a)
    · simp at a;subst a;rw [Kx,qw (by show ¬ 2 = k + 5;omega),Qy,qu rfl]
end Go.Sh
namespace Go.Sh
open Go Go.Am
def Yy (ρ : Nat→Nat) (x : Fp) : Fp:=(x.1.map (·.map ρ),x.2.map ρ)
def Bd (m : Nat) (x : Fp) : Prop:=(∀ n∈x.2,n < m)∧∀ l,x.1 = some l→∀ n∈l,n < m
section
variable {ρ : Nat→Nat} {m : Nat}
theorem qsv (F : List Fp) (k : Nat) : fpAt (F.map (Yy ρ)) k = Yy ρ (fpAt F k):=by
  unfold fpAt;rw [List.getElem?_map];cases F[k]? <;> rfl
theorem qtp (x : Fp) : Jx (Yy ρ x) = Jx x:=by
  obtain ⟨a,b⟩:=x;cases a <;> cases b <;> rfl
theorem qka (h : ∀ a b,a < m→b < m→ρ a = ρ b→a = b) {n : Nat} (d : n < m) : ∀ b : List Nat,(∀ a∈b,a < m)→hasN (b.map ρ) (ρ n) = hasN b n
  | [],_=>rfl
  | a::r,hb=>by
    have f:=qka h d r fun x j=>hb x (List.mem_cons_of_mem _ j)
    have g:=hb a List.mem_cons_self
    simp only [List.map_cons,hasN,f]
    congr 1
    rw [Bool.eq_iff_iff]
    constructor
    · intro c
      have:=h a n g d (Nat.eq_of_beq_eq_true c)
      subst this;exact Nat.beq_refl _
    · intro c
      have:=Nat.eq_of_beq_eq_true c
      subst this;exact Nat.beq_refl _
theorem qbz (h : ∀ a b,a < m→b < m→ρ a = ρ b→a = b) {a b : List Nat} (c : ∀ n∈a,n < m) (hb : ∀ n∈b,n < m) : q3e (a.map ρ) (b.map ρ) = q3e a b:=by
  unfold q3e;rw [List.all_map]
  induction a with
  | nil=>rfl
  | cons x r ih=>
    simp only [List.all_cons,Function.comp,qka h (c x List.mem_cons_self) b hb];rw [← ih fun n d=>c n (List.mem_cons_of_mem _ d)]
theorem qot (h : ∀ a b,a < m→b < m→ρ a = ρ b→a = b) {x y : Fp} (d : Bd m x) (c : Bd m y) : Uq (Yy ρ x) (Yy ρ y) = Uq x y:=by
  obtain ⟨p,g⟩:=x;obtain ⟨o,j⟩:=y;have e1:=qbz h d.1 c.1;simp only at e1
  cases p with
  | none=>
    cases o with
    | none=>simp only [Uq,Yy,Option.map_none,e1];cases g <;> cases j <;> rfl
    | some l=>
      have f:=qbz h (c.2 l rfl) d.1;simp only [Uq,Yy,Option.map_none,Option.map_some,e1,f];cases j <;> rfl
  | some k=>
    have n:=qbz h (d.2 k rfl) c.1
    cases o with
    | none=>simp only [Uq,Yy,Option.map_none,Option.map_some,e1,n];cases g <;> rfl
    | some l=>
      have f:=qbz h (c.2 l rfl) d.1;simp only [Uq,Yy,Option.map_some,e1,f,n]
theorem qca (h : ∀ a b,a < m→b < m→ρ a = ρ b→a = b) {F : List Fp} {ops : Array Oper} (d : ∀ x∈F,Bd m x) : q3g (F.map (Yy ρ)) ops = q3g F ops:=by
  have hb : ∀ k,Bd m (fpAt F k):=fun k=>by
    unfold fpAt
    cases hk : F[k]? with
    | none=>exact ⟨qd,qd⟩
    | some x=>exact d x (List.mem_of_getElem? hk)
  have c : ∀ i j,Uq (Yy ρ (fpAt F i)) (Yy ρ (fpAt F j)) = Uq (fpAt F i) (fpAt F j):=fun i j=>qot h (hb i) (hb j);unfold q3g;simp only [qsv,qtp,c]
end
def ρ3 (r k n : Nat) : Nat:=if n = 4 then r else if n = 5 then k + 4 else if n = 6 then k + 5 else n
theorem ρ3_inj {r k : Nat} (f : 4≤r) (d : r≠k + 4) (g : r≠k + 5) : ∀ a b,a < 7→b < 7→ρ3 r k a = ρ3 r k b→a = b:=by
  intro a b c hb h;unfold ρ3 at h
  repeat' split at h
  all_goals omega
def FR (x : Nat) (a b : List Nat) : List Fp:=[(some [x],[x]),(some a,b),(some [],[5])] ++ List.replicate 15 (some [],[]) ++ [(some [x],[])] ++ List.replicate 3 (some [],[]) ++ [(some [3],[])] ++ List.replicate 4 (some [],[]) ++ [(some [3],[]),(some [],[])]
end Go.Sh
namespace Go.Sh
open Go Go.Am
section
variable {T : Tab} {sl : List (Nat × V)} {hp : List (Nat × Blk)} {nx : Nat} {mt : TypeId} {x kx m y : Operand} {i : TI} {n : Nat} {R : RW} {key : Int} {j : Nat} {xs l : List ql} {r q : Nat}
theorem qkr (h : T mt = some i) (b : i.keys = some [some .i64]) (c : i.eagg = false) (m : i.ezero = [.nilsl]) (l : AS.ev ⟨sl,hp,nx⟩ x = some (.mp n)) (hk : AS.ev ⟨sl,hp,nx⟩ kx = some (.d (kI key))) (hb : find hp n = some (.mp true (rv R)))
    (a : Y9 key R = some j) (g : R[j]? = some (key,(xs,r))) : opFn T ⟨sl,hp,nx⟩ (.lookup mt x kx false) = some (.hs r 2 0 xs.length,⟨sl,hp,nx⟩):=by
  have f : Yk false [some .i64] (kI key) = true:=Jy.fit key
  have k : mget false [some .i64] (V.d .nilsl) (kI key) (rv R) = some (V.hs r 2 0 xs.length,true):=by
    unfold mget;rw [qcw,a];simp [rv,g]
  simp only [opFn,h,l,hk,b,c,AS.blk,hb,m,f,if_true,k,Option.map_some,Q6]
theorem qks (g : T mt = some i) (b : i.keys = some [some .i64]) (c : i.eagg = false) (k : i.ezero = [.nilsl]) (j : AS.ev ⟨sl,hp,nx⟩ x = some (.mp n)) (hk : AS.ev ⟨sl,hp,nx⟩ kx = some (.d (kI key))) (hb : find hp n = some (.mp true (rv R)))
    (a : Y9 key R = none) : opFn T ⟨sl,hp,nx⟩ (.lookup mt x kx false) = some (.d .nilsl,⟨sl,hp,nx⟩):=by
  have f : Yk false [some .i64] (kI key) = true:=Jy.fit key
  have h : mget false [some .i64] (V.d .nilsl) (kI key) (rv R) = some (V.d .nilsl,false):=by
    unfold mget;rw [qcw,a]
  simp only [opFn,g,j,hk,b,c,AS.blk,hb,k,f,if_true,h,Option.map_some,Q6]
theorem qle (k : T mt = some i) (b : i.keys = some [some .i64]) (c : i.eagg = false) (g : AS.ev ⟨sl,hp,nx⟩ m = some (.mp n)) (hk : AS.ev ⟨sl,hp,nx⟩ kx = some (.d (kI key))) (h : AS.ev ⟨sl,hp,nx⟩ y = some (.hs q 2 0 l.length))
    (hb : find hp n = some (.mp true (rv R))) (a : Y9 key R = some j) : opFn T ⟨sl,hp,nx⟩ (.mapUpdate mt m kx y) = some (.dead,⟨sl,repl hp n (.mp true (rv (R.set j (key,(l,q))))),nx⟩):=by
  have f : Yk false [some .i64] (kI key) = true:=Jy.fit key
  have o : mput false [some .i64] (kI key) (V.hs q 2 0 l.length) (rv R) = some (rv (R.set j (key,(l,q)))):=by
    unfold mput;rw [qcw,a];simp [rv,List.map_set]
  have p : Kh (V.hs q 2 0 l.length) = true:=rfl;simp only [opFn,k,g,hk,h,b,c,AS.blk,hb,f,p,and_self,if_true,o,Option.map_some];rfl
theorem qlf (j : T mt = some i) (b : i.keys = some [some .i64]) (c : i.eagg = false) (g : AS.ev ⟨sl,hp,nx⟩ m = some (.mp n)) (hk : AS.ev ⟨sl,hp,nx⟩ kx = some (.d (kI key))) (h : AS.ev ⟨sl,hp,nx⟩ y = some (.hs q 2 0 l.length))
    (hb : find hp n = some (.mp true (rv R))) (a : Y9 key R = none) : opFn T ⟨sl,hp,nx⟩ (.mapUpdate mt m kx y) = some (.dead,⟨sl,repl hp n (.mp true (rv (R ++ [(key,(l,q))]))),nx⟩):=by
  have f : Yk false [some .i64] (kI key) = true:=Jy.fit key
  have k : mput false [some .i64] (kI key) (V.hs q 2 0 l.length) (rv R) = some (rv (R ++ [(key,(l,q))])):=by
    unfold mput;rw [qcw,a];simp [rv]
  have o : Kh (V.hs q 2 0 l.length) = true:=rfl;simp only [opFn,j,g,hk,h,b,c,AS.blk,hb,f,o,and_self,if_true,k,Option.map_some];rfl
end
theorem qbr {x : Nat} {a b : List Nat} (g : x < 7) (d : ∀ n∈a,n < 7) (hb : ∀ n∈b,n < 7) : ∀ f∈FR x a b,Bd 7 f:=by
  intro f c;simp only [FR,List.mem_append,List.mem_cons,List.mem_replicate,List.not_mem_nil,or_false] at c;unfold Bd;have e : ∀ (P Q : Prop),P∧Q→P∧Q:=fun _ _ h=>h;rcases c with (((((((rfl | rfl | rfl) | ⟨_,rfl⟩) | rfl) | ⟨_,rfl⟩) | rfl) | ⟨_,rfl⟩) | (rfl | rfl)) <;> simp <;> first | omega | (refine ⟨?_,?_⟩ <;> assumption) | skip
theorem qd3 {x : Nat} {a b : List Nat} {r k : Nat} : okF (some ((FR x a b).map (Yy (ρ3 r k)))) 2 (some [],[k + 4]) = true:=by
  simp [okF,fpAt,FR,Yy,fpLe,subN,hasN,ρ3]
theorem qlr {x r k : Nat} : okF (some ((FR x [4,5] [6,4]).map (Yy (ρ3 r k)))) 1 (some [r,k + 4],[k + 5,r]) = true:=by
  simp [okF,fpAt,FR,Yy,fpLe,subN,hasN,ρ3]
theorem qlq {x r k : Nat} : okF (some ((FR x [5] [6]).map (Yy (ρ3 r k)))) 1 (some [k + 4],[k + 5]) = true:=by
  simp [okF,fpAt,FR,Yy,fpLe,subN,hasN,ρ3]
section
variable {P : Program} {T : Tab} {base : Nat} {K : Ex→AS→Prop}
theorem qn3 {id g n r sz : Nat} {t s : Oper} {z v : Tmp} {x : Operand} {c : Code} {cs : List Code} {st : AS} (S : List Nat→AS) (E : List Nat→List (DV × V)) (a : AS) (ho : q2z t s = some (x,z,v)) (hx : ∀ rest,(S rest).ev x = some (.it n))
    (hb : ∀ rest,(S rest).blk n = some (.itO r sz none rest)) (hm : ∀ rest,(S rest).blk r = some (.mp true (E rest))) (hl : ∀ rest,(E rest).length = sz) (y : WkE base st (S (List.range sz)))
    (round : ∀ rest i j,rest.Nodup→rest[i]? = some j→j < sz→RunK P T base [c] ((((S rest).setBlk n (.itO r sz (some j) (rest.eraseIdx i))).put z .dead).put v (.d (.bool true))) (fun ex st'=>ex = .nor∧WkE base st' (S (rest.eraseIdx i))))
    (over : RunK P T base [c] (((S []).put z .dead).put v (.d (.bool false))) (fun ex st'=>ex = .exit id∧WkE base st' a)) (again : WkE base a a) (o : RunK P T base cs a K) :
    RunK P T base (.block id (.loop (.seq (.region g #[t,s] false) c))::cs) st K:=by
  let C : List Nat→AS→Prop:=fun rest st=>st = S rest∧rest.Nodup∧∀ j∈rest,j < sz
  let RR : Ex→AS→Prop:=fun ex st'=>ex = .exit id∧WkE base st' a
  have f : q1j P T base (.seq (.region g #[t,s] false) c) (S (List.range sz)) RR:=by
    refine qev (ε:=Nat) (n:=n) C (fun rest st i=>(rest[i]?).map fun j=>st.setBlk n (.itO r sz (some j) (rest.eraseIdx i))) ho ?_ ?_ ?_ _ (List.range sz) _ rfl ⟨rfl,List.nodup_range,fun j k=>by simpa using k⟩
    · rintro rest st ⟨rfl,_,_⟩;refine ⟨hx _,?_⟩;simp only [q2g,hb,hm,hl,if_true]
    · rintro st ⟨rfl,_,_⟩;refine (Jd over).mono ?_;rintro ex st' ⟨rfl,b⟩;exact ⟨qd,rfl,b⟩
    · rintro rest st i u ⟨rfl,m,l⟩ hi;simp only [Y0] at hi;obtain ⟨j,k,rfl⟩:=hi;refine ⟨K7 k,?_⟩;refine (Jd (round rest i j m k (l j (List.mem_of_getElem? k)))).mono ?_;rintro ex st' ⟨rfl,b⟩;have p:=(q26 j k).2;exact .inl ⟨rfl,_,b,rfl,(List.nodup_cons.1 ((p.nodup_iff).1 m)).2,fun q hq=>l q (List.mem_of_mem_eraseIdx hq)⟩
  obtain ⟨ρ1,fz,ph,y⟩:=y
  have w : Ki P T base (.block id (.loop (.seq (.region g #[t,s] false) c))) (S (List.range sz)) .nor a:=by
    refine .blockS f ?_;rintro ac st1 ⟨rfl,h⟩;exact ⟨by simp [Ex.block],a,h,again⟩
  exact ⟨.nor,_,.wk y w,o⟩
end
end Go.Sh
namespace Go.Sh
open Go Go.Am
def mix (A A' : List (Int × List ql)) (rest : List Nat) : List (Int × List ql):=A.zipIdx.map fun x=>if x.2∈rest then x.1 else (A'[x.2]?).getD x.1
theorem q8i (A A' : List (Int × List ql)) (rest : List Nat) : (mix A A' rest).length = A.length:=by simp [mix]
theorem q4k (A A' : List (Int × List ql)) (rest : List Nat) (q : Nat) : (mix A A' rest)[q]? = (A[q]?).map fun e=>if q∈rest then e else (A'[q]?).getD e:=by
  simp [mix,List.getElem?_zipIdx];cases A[q]? <;> simp
theorem ql7 (A A' : List (Int × List ql)) : mix A A' (List.range A.length) = A:=by
  apply List.ext_getElem?;intro q;rw [q4k]
  cases h : A[q]? with
  | none=>rfl
  | some e=>
    have:=K7 h;simp [this]
theorem ql8 {A A' : List (Int × List ql)} (h : A.length = A'.length) : mix A A' [] = A':=by
  apply List.ext_getElem?;intro q;rw [q4k]
  cases a : A[q]? with
  | none=>
    have : A'[q]? = none:=by rw [List.getElem?_eq_none_iff] at a ⊢;omega
    rw [this];rfl
  | some e=>
    obtain ⟨c,b⟩:=Zi (xs:=A') (i:=q) (by have:=K7 a;omega);simp [b]
theorem qem : ∀ {A A' : List (Int × List ql)},U6 A = some A'→A.length = A'.length
  | [],A',h=>by simp [U6] at h;subst h;rfl
  | e::l,A',h=>by
    obtain ⟨x,_,h⟩:=Jq (show (q34 e.2).bind _ = some A' from h)
    obtain ⟨y,a,h⟩:=Jq h
    cases h
    simp [qem a]
theorem q7q : ∀ {A A' : List (Int × List ql)} {q : Nat} {e : Int × List ql},U6 A = some A'→A[q]? = some e→∃ x,q34 e.2 = some x∧A'[q]? = some (e.1,x.1)
  | [],A',q,e,h,he=>by simp at he
  | e0::l,A',q,e,h,he=>by
    obtain ⟨x,d,h⟩:=Jq (show (q34 e0.2).bind _ = some A' from h)
    obtain ⟨y,b,h⟩:=Jq h
    cases h
    cases q with
    | zero=>simp at he;subst he;exact ⟨x,d,rfl⟩
    | succ q=>obtain ⟨z,c,a⟩:=q7q b (q:=q) (by simpa using he);exact ⟨z,c,by simpa using a⟩
theorem qla {β : Type} {key : Int} {b : β} : ∀ {R : List (Int × β)} {j : Nat},(R.map (·.1)).Nodup→R[j]? = some (key,b)→Y9 key R = some j
  | [],j,_,h=>by simp at h
  | (a,v)::r,0,_,h=>by simp at h;simp [Y9,h.1]
  | (a,v)::r,j + 1,hn,h=>by
    simp only [List.map_cons,List.nodup_cons] at hn
    have d : r[j]? = some (key,b):=by simpa using h
    have c : key≠a:=fun e=>hn.1 (e ▸ List.mem_map_of_mem (f:=(·.1)) (List.mem_of_getElem? d))
    simp only [Y9,c,if_false,qla hn.2 d]
    rfl
theorem qup {A A' : List (Int × List ql)} (h : U6 A = some A') (rest : List Nat) : (mix A A' rest).map (·.1) = A.map (·.1):=by
  apply List.ext_getElem?;intro q;simp only [List.getElem?_map,q4k]
  cases a : A[q]? with
  | none=>rfl
  | some e=>
    obtain ⟨x,_,b⟩:=q7q h a;simp only [Option.map_some,b,Option.getD_some];split <;> rfl
theorem qfq {A A' : List (Int × List ql)} {rest : List Nat} {j : Nat} {e : Int × List ql} (a : A[j]? = some e) (b : j∈rest) : (mix A A' rest)[j]? = some e:=by
  rw [q4k,a];simp [b]
theorem ql9 {A A' : List (Int × List ql)} {rest : List Nat} {i j : Nat} {e : Int × List ql} {x : List ql × Int} (h : U6 A = some A') (hk : (A.map (·.1)).Nodup) (m : rest.Nodup) (hi : rest[i]? = some j) (c : A[j]? = some e) (l : q34 e.2 = some x) :
    K8 e.1 x.1 (mix A A' rest) = mix A A' (rest.eraseIdx i):=by
  have n:=List.mem_of_getElem? hi;have hp : Y9 e.1 (mix A A' rest) = some j:=qla (b:=e.2) (by rw [qup h];exact hk) (qfq c n);have:=q8k e.1 x.1 (mix A A' rest);rw [hp] at this;rw [← this];have p:=(q26 j hi).2;have f:=List.nodup_cons.1 ((p.nodup_iff).1 m);have a : ∀ q,q∈rest↔q = j∨q∈rest.eraseIdx i:=fun q=>by rw [p.mem_iff,List.mem_cons]
  obtain ⟨z,k,d⟩:=q7q h c;rw [l] at k;cases k;apply List.ext_getElem?;intro q;rw [List.getElem?_set,q8i];by_cases g : j = q
  · subst g;rw [qu rfl,qu (K7 c),q4k,c];simp [f.1,d]
  · rw [qw g,q4k,q4k]
    have : (q∈rest) = (q∈rest.eraseIdx i):=by
      rw [eq_iff_iff,a q];exact ⟨fun h=>h.resolve_left fun e=>g e.symm,.inr⟩
    simp only [this]
theorem qfu {β : Type} {key : Int} {v : β} : ∀ {R : List (Int × β)},(R.map (·.1)).Nodup→((K8 key v R).map (·.1)).Nodup∧∀ k,k∈(K8 key v R).map (·.1)↔k = key∨k∈R.map (·.1)
  | [],_=>by simp [K8]
  | (a,w)::r,h=>by
    simp only [List.map_cons,List.nodup_cons] at h
    obtain ⟨d,c⟩:=qfu (key:=key) (v:=v) h.2
    simp only [K8]
    by_cases e : key = a
    · subst e
      simp only [if_true,List.map_cons,List.nodup_cons]
      exact ⟨h,fun k=>qd⟩
    · simp only [e,if_false,List.map_cons,List.nodup_cons]
      refine ⟨⟨fun f=>?_,d⟩,fun k=>?_⟩
      · rcases (c a).1 f with b | b
        · exact e b.symm
        · exact h.1 b
      · rw [List.mem_cons,c k,List.mem_cons];constructor <;> (intro h;rcases h with h | h | h <;> simp [h])
theorem qek : ∀ {l : List qt} {r b : Yc},q2d l r = some b→(r.rows_.map (·.1)).Nodup→(r.columns_.map (·.1)).Nodup→(b.rows_.map (·.1)).Nodup∧(b.columns_.map (·.1)).Nodup
  | [],r,b,h,h1,h2=>by simp [q2d] at h;subst h;exact ⟨h1,h2⟩
  | s::l,r,b,h,h1,h2=>by
    obtain ⟨rd,a,h⟩:=Jq (show (q1m r s).bind (q2d l) = some b from h)
    unfold q1m at a
    cases c : s.A.Y == s.B.Y with
    | true=>
      rw [c] at a
      obtain ⟨z,_,a⟩:=Jq a
      cases a
      exact qek h (qfu h1).1 h2
    | false=>
      rw [c] at a
      obtain ⟨z,_,a⟩:=Jq a
      cases a
      exact qek h h1 (qfu h2).1
theorem qjc {T : Tab} {st : AS} {x : Operand} {n m sz j : Nat} {rest : List Nat} {es : List (DV × V)} {e : DV × V} (d : st.ev x = some (.it n)) (hb : st.blk n = some (.itO m sz (some j) rest)) (a : st.blk m = some (.mp true es)) (c : es.length = sz) (b : es[j]? = some e) : opM T st (.entry x) = some (q8p e,st):=by
  simp only [opM,d,hb,a,c,if_true,b,Option.map_some]
theorem q13l {st : AS} {ρ : Nat→Nat} {fz ph : List Nat} {nx : Nat} {A : List (Int × List ql)} : Wb st ρ fz ph nx (.mp true (Qu kI eL A)) (.mp true (Qu kI eL A)):=by
  refine .mp true rfl fun i e c b a=>?_;rw [b] at a;cases a;obtain ⟨d,hd,rfl⟩:=List.mem_map.1 (List.mem_of_getElem? b);obtain ⟨x,_,rfl⟩:=List.mem_map.1 hd;exact ⟨rfl,.d (.refl _),rfl⟩
theorem qoh {st : AS} {fz : List Nat} {nx : Nat} {R : RW} (h : ∀ e∈R,st.blk e.2.2 = some (.dat 2 (e.2.1.map Qc))) (k : ∀ e∈R,e.2.2∈fz) : Wb st (fun n=>n) fz [] nx (.mp true (rv R)) (.mp true (Qu kI eL (prR R))):=by
  refine .mp true (by simp [rv,prR,Qu]) fun i e l g c=>?_;simp only [rv,prR,Qu,List.getElem?_map,Y0] at g c;obtain ⟨a,j,rfl⟩:=g;obtain ⟨d,⟨p,⟨a',b,rfl⟩,rfl⟩,rfl⟩:=c;rw [j] at b;cases b;have f:=List.mem_of_getElem? j;refine ⟨rfl,?_,rfl⟩;exact .frz (h a f) (k a f) qd (by rw [List.drop_zero,List.take_of_length_le qd]) rfl
end Go.Sh
namespace Go.Proofs.YtgkialgkmjnfbaaGreat
open Go Go.Am Go.Sh
def HpOk (st : AS) (fz : List Nat) (nx : Nat) : List (Nat × Blk)→Prop
  | []=>True
  | (n,b')::r=>(n < nx∧n ∉ fz∧∃ b,st.blk n = some b∧Wb st (fun n=>n) fz [] nx b b')∧HpOk st fz nx r
theorem HpOk.get {st : AS} {fz : List Nat} {nx : Nat} {l : List (Nat × Blk)} (h : HpOk st fz nx l) {n : Nat} {d : Blk} (a : find l n = some d) : n < nx∧n ∉ fz∧∃ b,st.blk n = some b∧Wb st (fun n=>n) fz [] nx b d:=by
  induction l with
  | nil=>simp [find] at a
  | cons e r ih=>
    obtain ⟨m,c⟩:=e;rw [Qy] at a;split at a
    · rename_i e;subst e;cases a;exact h.1
    · exact ih h.2 a
theorem U2 {st : AS} {sl : List (Nat × V)} {hp : List (Nat × Blk)} {nx : Nat} (fz : List Nat) (hs : SlOk st fz nx sl) (hb : HpOk st fz nx hp) : WkE 0 st ⟨sl,hp,nx⟩:=
  qoj fz (fun _ _ h=>hs.get h) (fun _ _ h=>hb.get h) (Nat.zero_le _) qd
theorem Un {st : AS} {fz : List Nat} {nx : Nat} (h : 2 < nx) : Wb st (fun n=>n) fz [] nx (.cel 2 [[.mp 1,.mp 2]]) (.cel 2 [[.mp 1,.mp 2]]):=q1g (.cons (.mp rfl qd (by show 1 < nx;omega)) rfl (.cons (.mp rfl qd (by show 2 < nx;omega)) rfl .nil))
theorem q1f {st : AS} {fz : List Nat} {nx : Nat} (h : 2 < nx) : Wb st (fun n=>n) fz [] nx (.cel 1 [[.mp 1],[.mp 2]]) (.cel 1 [[.mp 1],[.mp 2]]):=by
  refine .cel rfl fun i x y b f=>?_;rw [b] at f;cases f;rcases i with _ | _ | i
  · cases b;refine ⟨rfl,fun j c d a hd=>?_⟩;rw [a] at hd;cases hd;rcases j with _ | j
    · cases a;exact ⟨.mp rfl qd (by show 1 < nx;omega),rfl⟩
    · simp at a
  · cases b;refine ⟨rfl,fun j c d a hd=>?_⟩;rw [a] at hd;cases hd;rcases j with _ | j
    · cases a;exact ⟨.mp rfl qd h,rfl⟩
    · simp at a
  · simp at b
noncomputable def tl41 : Code:=match Tryz.f41.body with
  | some (.seq _ (.seq _ (.seq _ c)))=>c
  | _=>.skip
abbrev SF (A B : List (Int × List ql)) : AS:=⟨[(2,.ref 0 2 0 0),(3,.ref 3 2 0 0)],[(0,.dat 2 [[.nilm,.nilm]]),(1,.mp true (Qu kI eL A)),(2,.mp true (Qu kI eL B)),(3,.cel 2 [[.mp 1,.mp 2]])],4⟩
abbrev SE (A B : List (Int × List ql)) : AS:=⟨[(2,.ref 0 2 0 0)],[(0,.cel 2 [[.d (.mp (mrow kI eL A)),.d (.mp (mrow kI eL B))]])],3⟩
set_option maxRecDepth 100000 in
set_option maxHeartbeats 8000000 in
theorem qqm {A B A' b : List (Int × List ql)} (q : U6 A = some A') (p : U6 B = some b) (r : (A.map (·.1)).Nodup) (s : (B.map (·.1)).Nodup) {K : Ex→AS→Prop} (fin : K .ret (SE A' b)) : RunK Tryz.prog tab 0 [tl41] (SF A B) K:=by
  have a : ∀ {st : AS} {ρ : Nat→Nat} {fz ph : List Nat} {nx : Nat} {X : List (Int × List ql)},Wb st ρ fz ph nx (.mp true (Qu kI eL X)) (.mp true (Qu kI eL X)):=q13l;refine qi ?_;refine qh ?_;refine U (.ref 3 2 0 0) O ?_;refine U (.mp 1) O ?_;refine U (.ref 3 2 0 1) O ?_;refine U (.mp 2) O ?_;refine Qn (.hs 4 1 0 2) (.cel 1 [[.mp 1],[.mp 2]]) O ?_;refine U (.d (.int .i64 2)) O ?_;refine q0 O ?_;refine qc ?_;refine Qf ?_;refine qgl ?_;refine Zv (st':=⟨[(2,.ref 0 2 0 0),(3,.ref 3 2 0 0),(87,.hs 4 1 0 2),(88,.d (.int .i64 2)),(89,.d (.int .i64 0))],[(0,.dat 2 [[.nilm,.nilm]]),(1,.mp true (Qu kI eL A)),(2,.mp true (Qu kI eL B)),(3,.cel 2 [[.mp 1,.mp 2]]),(4,.cel 1 [[.mp 1],[.mp 2]])],5⟩) (U2 [] ⟨⟨_,rfl,.ref rfl qd (by show (0:Nat) < _;omega)⟩,⟨_,rfl,.ref rfl qd (by show (3:Nat) < _;omega)⟩,⟨_,rfl,.hs rfl qd (by show (4:Nat) < _;omega)⟩,⟨_,rfl,.d (.refl _)⟩,⟨_,rfl,.d (.refl _)⟩,trivial⟩ ⟨⟨q8,qd,_,rfl,.dat _ _⟩,⟨q8,qd,_,rfl,a⟩,⟨q8,qd,_,rfl,a⟩,⟨q8,qd,_,rfl,Un q8⟩,⟨q8,qd,_,rfl,q1f q8⟩,trivial⟩) ?_ qd;refine qh ?_;refine U (.d (.bool true)) O ?_;refine qc ?_;refine qi ?_;refine q23 rfl ?_;refine Q0 ?_;refine qi ?_;refine Qf ?_;refine qh ?_;refine U (.ref 4 1 0 0) O ?_;refine U (.mp 1) O ?_;refine U (.mp 1) O ?_;refine qv ?_;refine q0 O ?_;refine q4l (v:=.it 5) (st1:=_) rfl rfl ?_;refine qc ?_;refine qn3 (fun rest=>⟨[(7,.mp 1),(94,.it 5),(2,.ref 0 2 0 0),(3,.ref 3 2 0 0),(87,.hs 4 1 0 2),(88,.d (.int .i64 2)),(89,.d (.int .i64 0))],[(5,.itO 1 A.length none rest),(0,.dat 2 [[.nilm,.nilm]]),(1,.mp true (Qu kI eL (mix A A' rest))),(2,.mp true (Qu kI eL B)),(3,.cel 2 [[.mp 1,.mp 2]]),(4,.cel 1 [[.mp 1],[.mp 2]])],6⟩) (fun rest=>Qu kI eL (mix A A' rest)) ⟨[(2,.ref 0 2 0 0),(3,.ref 3 2 0 0),(87,.hs 4 1 0 2),(88,.d (.int .i64 2)),(89,.d (.int .i64 0))],[(0,.dat 2 [[.nilm,.nilm]]),(1,.mp true (Qu kI eL A')),(2,.mp true (Qu kI eL B)),(3,.cel 2 [[.mp 1,.mp 2]]),(4,.cel 1 [[.mp 1],[.mp 2]])],5⟩ rfl (fun rest=>rfl) (fun rest=>rfl) (fun rest=>rfl) (fun rest=>by simp [q8i]) ?_ ?_ ?_ ?_ ?_
  · rw [ql7];have e : (Qu kI eL A).length = A.length:=by simp
    refine U2 [] ⟨⟨_,rfl,.mp rfl qd (by show (1:Nat) < _;omega)⟩,⟨_,rfl,.it rfl qd (by show (5:Nat) < _;omega)⟩,⟨_,rfl,.ref rfl qd (by show (0:Nat) < _;omega)⟩,⟨_,rfl,.ref rfl qd (by show (3:Nat) < _;omega)⟩,⟨_,rfl,.hs rfl qd (by show (4:Nat) < _;omega)⟩,⟨_,rfl,.d (.refl _)⟩,⟨_,rfl,.d (.refl _)⟩,trivial⟩ ⟨⟨q8,qd,_,rfl,?_⟩,⟨q8,qd,_,rfl,.dat _ _⟩,⟨q8,qd,_,rfl,a⟩,⟨q8,qd,_,rfl,a⟩,⟨q8,qd,_,rfl,Un q8⟩,⟨q8,qd,_,rfl,q1f q8⟩,trivial⟩;rw [← e];exact .itO _ none _ rfl qd (by show (1:Nat) < _;omega)
  · intro rest i j g c f;obtain ⟨e,k⟩ : ∃ e,A[j]? = some e:=⟨_,List.getElem?_eq_getElem f⟩
    obtain ⟨x,m,n⟩:=q7q q k;have l:=List.mem_of_getElem? c
    have h : (Qu kI eL (mix A A' rest))[j]? = some (kI e.1,.d (eL e.2)):=by
      have:=qfq (A':=A') k l;simp only [Qu,mrow,List.getElem?_map,this,Option.map_some];rfl
    show RunK _ _ _ _ ⟨[(96,.d (.bool true)),(95,.dead),(7,.mp 1),(94,.it 5),(2,.ref 0 2 0 0),(3,.ref 3 2 0 0),(87,.hs 4 1 0 2),(88,.d (.int .i64 2)),(89,.d (.int .i64 0))],[(5,.itO 1 A.length (some j) (rest.eraseIdx i)),(0,.dat 2 [[.nilm,.nilm]]),(1,.mp true (Qu kI eL (mix A A' rest))),(2,.mp true (Qu kI eL B)),(3,.cel 2 [[.mp 1,.mp 2]]),(4,.cel 1 [[.mp 1],[.mp 2]])],6⟩ _;refine qi ?_;refine q23 rfl ?_;refine Q0 ?_;refine Qf ?_;refine qh ?_;refine q4l rfl (qjc rfl rfl rfl (by simp [q8i]) h) ?_;refine U (.d (kI e.1)) O ?_;refine U (.d (eL e.2)) O ?_;refine U (.d (kI e.1)) O ?_;refine U (.d (eL e.2)) O ?_;refine qc ?_;refine Q7 ?_;refine q0 O ?_;refine q0 O ?_;refine q0 O ?_;refine Q4 (qnv e.2 x m) O ?_;refine q0 O ?_;refine U (.d (eL x.1)) O ?_;refine U (.d (.int .i64 x.2)) O ?_;refine q3r (ek:=kI) (ev:=eL) (es:=(mix A A' rest)) Jy e.1 x.1 rfl rfl rfl rfl rfl rfl rfl rfl ?_;refine qc ?_;refine Qg ?_;refine Qr ?_;refine Qg ?_;refine ⟨rfl,?_⟩;rw [ql9 q r g c k m];refine U2 [] ⟨⟨_,rfl,.mp rfl qd (by show (1:Nat) < _;omega)⟩,⟨_,rfl,.it rfl qd (by show (5:Nat) < _;omega)⟩,⟨_,rfl,.ref rfl qd (by show (0:Nat) < _;omega)⟩,⟨_,rfl,.ref rfl qd (by show (3:Nat) < _;omega)⟩,⟨_,rfl,.hs rfl qd (by show (4:Nat) < _;omega)⟩,⟨_,rfl,.d (.refl _)⟩,⟨_,rfl,.d (.refl _)⟩,trivial⟩ ⟨⟨q8,qd,_,rfl,.itOn _ _ _ rfl qd (by show (1:Nat) < _;omega)⟩,⟨q8,qd,_,rfl,.dat _ _⟩,⟨q8,qd,_,rfl,a⟩,⟨q8,qd,_,rfl,a⟩,⟨q8,qd,_,rfl,Un q8⟩,⟨q8,qd,_,rfl,q1f q8⟩,trivial⟩
  · show RunK _ _ _ _ ⟨[(96,.d (.bool false)),(95,.dead),(7,.mp 1),(94,.it 5),(2,.ref 0 2 0 0),(3,.ref 3 2 0 0),(87,.hs 4 1 0 2),(88,.d (.int .i64 2)),(89,.d (.int .i64 0))],[(5,.itO 1 A.length none []),(0,.dat 2 [[.nilm,.nilm]]),(1,.mp true (Qu kI eL (mix A A' []))),(2,.mp true (Qu kI eL B)),(3,.cel 2 [[.mp 1,.mp 2]]),(4,.cel 1 [[.mp 1],[.mp 2]])],6⟩ _;refine qi ?_;refine Uk rfl ?_;refine Qo ?_;rw [ql8 (qem q)];refine ⟨rfl,U2 [] ⟨⟨_,rfl,.ref rfl qd (by show (0:Nat) < _;omega)⟩,⟨_,rfl,.ref rfl qd (by show (3:Nat) < _;omega)⟩,⟨_,rfl,.hs rfl qd (by show (4:Nat) < _;omega)⟩,⟨_,rfl,.d (.refl _)⟩,⟨_,rfl,.d (.refl _)⟩,trivial⟩ ⟨⟨q8,qd,_,rfl,.dat _ _⟩,⟨q8,qd,_,rfl,a⟩,⟨q8,qd,_,rfl,a⟩,⟨q8,qd,_,rfl,Un q8⟩,⟨q8,qd,_,rfl,q1f q8⟩,trivial⟩⟩
  · refine U2 [] ⟨⟨_,rfl,.ref rfl qd (by show (0:Nat) < _;omega)⟩,⟨_,rfl,.ref rfl qd (by show (3:Nat) < _;omega)⟩,⟨_,rfl,.hs rfl qd (by show (4:Nat) < _;omega)⟩,⟨_,rfl,.d (.refl _)⟩,⟨_,rfl,.d (.refl _)⟩,trivial⟩ ⟨⟨q8,qd,_,rfl,.dat _ _⟩,⟨q8,qd,_,rfl,a⟩,⟨q8,qd,_,rfl,a⟩,⟨q8,qd,_,rfl,Un q8⟩,⟨q8,qd,_,rfl,q1f q8⟩,trivial⟩
  refine Qg ?_;refine Qr ?_;refine Q7 ?_;refine U (.d (.int .i64 1)) O ?_;refine q0 O ?_;refine qc ?_;refine Zv (st':=⟨[(2,.ref 0 2 0 0),(3,.ref 3 2 0 0),(87,.hs 4 1 0 2),(88,.d (.int .i64 2)),(89,.d (.int .i64 1))],[(0,.dat 2 [[.nilm,.nilm]]),(1,.mp true (Qu kI eL A')),(2,.mp true (Qu kI eL B)),(3,.cel 2 [[.mp 1,.mp 2]]),(4,.cel 1 [[.mp 1],[.mp 2]])],5⟩) (U2 [] ⟨⟨_,rfl,.ref rfl qd (by show (0:Nat) < _;omega)⟩,⟨_,rfl,.ref rfl qd (by show (3:Nat) < _;omega)⟩,⟨_,rfl,.hs rfl qd (by show (4:Nat) < _;omega)⟩,⟨_,rfl,.d (.refl _)⟩,⟨_,rfl,.d (.refl _)⟩,trivial⟩ ⟨⟨q8,qd,_,rfl,.dat _ _⟩,⟨q8,qd,_,rfl,a⟩,⟨q8,qd,_,rfl,a⟩,⟨q8,qd,_,rfl,Un q8⟩,⟨q8,qd,_,rfl,q1f q8⟩,trivial⟩) ?_ qd;refine qgl ?_;refine qh ?_;refine U (.d (.bool true)) O ?_;refine qc ?_;refine qi ?_;refine q23 rfl ?_;refine Q0 ?_;refine qi ?_;refine Qf ?_;refine qh ?_;refine U (.ref 4 1 1 0) O ?_;refine U (.mp 2) O ?_;refine U (.mp 2) O ?_;refine qv ?_;refine q0 O ?_;refine q4l (v:=.it 5) (st1:=_) rfl rfl ?_;refine qc ?_;refine qn3 (fun rest=>⟨[(7,.mp 2),(94,.it 5),(2,.ref 0 2 0 0),(3,.ref 3 2 0 0),(87,.hs 4 1 0 2),(88,.d (.int .i64 2)),(89,.d (.int .i64 1))],[(5,.itO 2 B.length none rest),(0,.dat 2 [[.nilm,.nilm]]),(1,.mp true (Qu kI eL A')),(2,.mp true (Qu kI eL (mix B b rest))),(3,.cel 2 [[.mp 1,.mp 2]]),(4,.cel 1 [[.mp 1],[.mp 2]])],6⟩) (fun rest=>Qu kI eL (mix B b rest)) ⟨[(2,.ref 0 2 0 0),(3,.ref 3 2 0 0),(87,.hs 4 1 0 2),(88,.d (.int .i64 2)),(89,.d (.int .i64 1))],[(0,.dat 2 [[.nilm,.nilm]]),(1,.mp true (Qu kI eL A')),(2,.mp true (Qu kI eL b)),(3,.cel 2 [[.mp 1,.mp 2]]),(4,.cel 1 [[.mp 1],[.mp 2]])],5⟩ rfl (fun rest=>rfl) (fun rest=>rfl) (fun rest=>rfl) (fun rest=>by simp [q8i]) ?_ ?_ ?_ ?_ ?_
  · rw [ql7];have e : (Qu kI eL B).length = B.length:=by simp
    refine U2 [] ⟨⟨_,rfl,.mp rfl qd (by show (2:Nat) < _;omega)⟩,⟨_,rfl,.it rfl qd (by show (5:Nat) < _;omega)⟩,⟨_,rfl,.ref rfl qd (by show (0:Nat) < _;omega)⟩,⟨_,rfl,.ref rfl qd (by show (3:Nat) < _;omega)⟩,⟨_,rfl,.hs rfl qd (by show (4:Nat) < _;omega)⟩,⟨_,rfl,.d (.refl _)⟩,⟨_,rfl,.d (.refl _)⟩,trivial⟩ ⟨⟨q8,qd,_,rfl,?_⟩,⟨q8,qd,_,rfl,.dat _ _⟩,⟨q8,qd,_,rfl,a⟩,⟨q8,qd,_,rfl,a⟩,⟨q8,qd,_,rfl,Un q8⟩,⟨q8,qd,_,rfl,q1f q8⟩,trivial⟩;rw [← e];exact .itO _ none _ rfl qd (by show (2:Nat) < _;omega)
  · intro rest i j g c f;obtain ⟨e,k⟩ : ∃ e,B[j]? = some e:=⟨_,List.getElem?_eq_getElem f⟩
    obtain ⟨x,m,n⟩:=q7q p k;have l:=List.mem_of_getElem? c
    have h : (Qu kI eL (mix B b rest))[j]? = some (kI e.1,.d (eL e.2)):=by
      have:=qfq (A':=b) k l;simp only [Qu,mrow,List.getElem?_map,this,Option.map_some];rfl
    show RunK _ _ _ _ ⟨[(96,.d (.bool true)),(95,.dead),(7,.mp 2),(94,.it 5),(2,.ref 0 2 0 0),(3,.ref 3 2 0 0),(87,.hs 4 1 0 2),(88,.d (.int .i64 2)),(89,.d (.int .i64 1))],[(5,.itO 2 B.length (some j) (rest.eraseIdx i)),(0,.dat 2 [[.nilm,.nilm]]),(1,.mp true (Qu kI eL A')),(2,.mp true (Qu kI eL (mix B b rest))),(3,.cel 2 [[.mp 1,.mp 2]]),(4,.cel 1 [[.mp 1],[.mp 2]])],6⟩ _;refine qi ?_;refine q23 rfl ?_;refine Q0 ?_;refine Qf ?_;refine qh ?_;refine q4l rfl (qjc rfl rfl rfl (by simp [q8i]) h) ?_;refine U (.d (kI e.1)) O ?_;refine U (.d (eL e.2)) O ?_;refine U (.d (kI e.1)) O ?_;refine U (.d (eL e.2)) O ?_;refine qc ?_;refine Q7 ?_;refine q0 O ?_;refine q0 O ?_;refine q0 O ?_;refine Q4 (qnv e.2 x m) O ?_;refine q0 O ?_;refine U (.d (eL x.1)) O ?_;refine U (.d (.int .i64 x.2)) O ?_;refine q3r (ek:=kI) (ev:=eL) (es:=(mix B b rest)) Jy e.1 x.1 rfl rfl rfl rfl rfl rfl rfl rfl ?_;refine qc ?_;refine Qg ?_;refine Qr ?_;refine Qg ?_;refine ⟨rfl,?_⟩;rw [ql9 p s g c k m];refine U2 [] ⟨⟨_,rfl,.mp rfl qd (by show (2:Nat) < _;omega)⟩,⟨_,rfl,.it rfl qd (by show (5:Nat) < _;omega)⟩,⟨_,rfl,.ref rfl qd (by show (0:Nat) < _;omega)⟩,⟨_,rfl,.ref rfl qd (by show (3:Nat) < _;omega)⟩,⟨_,rfl,.hs rfl qd (by show (4:Nat) < _;omega)⟩,⟨_,rfl,.d (.refl _)⟩,⟨_,rfl,.d (.refl _)⟩,trivial⟩ ⟨⟨q8,qd,_,rfl,.itOn _ _ _ rfl qd (by show (2:Nat) < _;omega)⟩,⟨q8,qd,_,rfl,.dat _ _⟩,⟨q8,qd,_,rfl,a⟩,⟨q8,qd,_,rfl,a⟩,⟨q8,qd,_,rfl,Un q8⟩,⟨q8,qd,_,rfl,q1f q8⟩,trivial⟩
  · show RunK _ _ _ _ ⟨[(96,.d (.bool false)),(95,.dead),(7,.mp 2),(94,.it 5),(2,.ref 0 2 0 0),(3,.ref 3 2 0 0),(87,.hs 4 1 0 2),(88,.d (.int .i64 2)),(89,.d (.int .i64 1))],[(5,.itO 2 B.length none []),(0,.dat 2 [[.nilm,.nilm]]),(1,.mp true (Qu kI eL A')),(2,.mp true (Qu kI eL (mix B b []))),(3,.cel 2 [[.mp 1,.mp 2]]),(4,.cel 1 [[.mp 1],[.mp 2]])],6⟩ _;refine qi ?_;refine Uk rfl ?_;refine Qo ?_;rw [ql8 (qem p)];refine ⟨rfl,U2 [] ⟨⟨_,rfl,.ref rfl qd (by show (0:Nat) < _;omega)⟩,⟨_,rfl,.ref rfl qd (by show (3:Nat) < _;omega)⟩,⟨_,rfl,.hs rfl qd (by show (4:Nat) < _;omega)⟩,⟨_,rfl,.d (.refl _)⟩,⟨_,rfl,.d (.refl _)⟩,trivial⟩ ⟨⟨q8,qd,_,rfl,.dat _ _⟩,⟨q8,qd,_,rfl,a⟩,⟨q8,qd,_,rfl,a⟩,⟨q8,qd,_,rfl,Un q8⟩,⟨q8,qd,_,rfl,q1f q8⟩,trivial⟩⟩
  · refine U2 [] ⟨⟨_,rfl,.ref rfl qd (by show (0:Nat) < _;omega)⟩,⟨_,rfl,.ref rfl qd (by show (3:Nat) < _;omega)⟩,⟨_,rfl,.hs rfl qd (by show (4:Nat) < _;omega)⟩,⟨_,rfl,.d (.refl _)⟩,⟨_,rfl,.d (.refl _)⟩,trivial⟩ ⟨⟨q8,qd,_,rfl,.dat _ _⟩,⟨q8,qd,_,rfl,a⟩,⟨q8,qd,_,rfl,a⟩,⟨q8,qd,_,rfl,Un q8⟩,⟨q8,qd,_,rfl,q1f q8⟩,trivial⟩
  refine Qg ?_;refine Qr ?_;refine Q7 ?_;refine U (.d (.int .i64 2)) O ?_;refine q0 O ?_;refine qc ?_;refine Zv (st':=⟨[(2,.ref 0 2 0 0),(3,.ref 3 2 0 0),(87,.hs 4 1 0 2),(88,.d (.int .i64 2)),(89,.d (.int .i64 2))],[(0,.dat 2 [[.nilm,.nilm]]),(1,.mp true (Qu kI eL A')),(2,.mp true (Qu kI eL b)),(3,.cel 2 [[.mp 1,.mp 2]]),(4,.cel 1 [[.mp 1],[.mp 2]])],5⟩) (U2 [] ⟨⟨_,rfl,.ref rfl qd (by show (0:Nat) < _;omega)⟩,⟨_,rfl,.ref rfl qd (by show (3:Nat) < _;omega)⟩,⟨_,rfl,.hs rfl qd (by show (4:Nat) < _;omega)⟩,⟨_,rfl,.d (.refl _)⟩,⟨_,rfl,.d (.refl _)⟩,trivial⟩ ⟨⟨q8,qd,_,rfl,.dat _ _⟩,⟨q8,qd,_,rfl,a⟩,⟨q8,qd,_,rfl,a⟩,⟨q8,qd,_,rfl,Un q8⟩,⟨q8,qd,_,rfl,q1f q8⟩,trivial⟩) ?_ qd;refine qgl ?_;refine qh ?_;refine U (.d (.bool false)) O ?_;refine qc ?_;refine qi ?_;refine Uk rfl ?_;refine Qo ?_;refine q7m ?_;refine qh ?_;refine U (.agg [.mp 1,.mp 2]) O ?_;refine Qp 0 (.cel 2 [[.mp 1,.mp 2]]) O ?_;refine qc ?_;refine Zv (st':=SE A' b) ?_ (q24 fin) qd;refine U2 [1,2] ⟨⟨_,rfl,.ref rfl qd (by show (0:Nat) < _;omega)⟩,trivial⟩ ⟨⟨q8,qd,_,rfl,?_⟩,trivial⟩;refine q1g (.cons (.frzM (o:=true) rfl qd (by exact .refl _)) rfl (.cons (.frzM (o:=true) rfl qd (by exact .refl _)) rfl .nil))
end Go.Proofs.YtgkialgkmjnfbaaGreat
namespace Go.Proofs.YtgkialgkmjnfbaaGreat
open Go Go.Am Go.Sh
abbrev SA (p0 : List qt) (a : Nat × RW × RW × Nat) : AS:=⟨[(2,.ref 0 2 0 0),(3,.ref 3 2 0 0),(13,.d (.sl 4 (p0.map Kw))),(14,.d (.int .i64 (p0.length : Int))),(15,.d (.int .i64 (a.1 : Int)))],HB a.2.1 a.2.2.1,a.2.2.2 + 4⟩
theorem qql {r a : Yc} {s : qt} (h : q1m r s = some a) (b : (s.A.Y == s.B.Y) = true) : ∃ zs,app 16 (K5 [] s.A.Y r.rows_) [({Lo:=min s.A.X s.B.X,Hi:=max s.A.X s.B.X} : ql)] = some zs∧a = {rows_:=K8 s.A.Y zs r.rows_,columns_:=r.columns_}:=by
  unfold q1m at h;rw [b] at h;obtain ⟨zs,c,h⟩:=Jq h;exact ⟨zs,c,qz h⟩
theorem qqj {r a : Yc} {s : qt} (h : q1m r s = some a) (b : (s.A.Y == s.B.Y) = false) : ∃ zs,app 16 (K5 [] s.A.X r.columns_) [({Lo:=min s.A.Y s.B.Y,Hi:=max s.A.Y s.B.Y} : ql)] = some zs∧a = {rows_:=r.rows_,columns_:=K8 s.A.X zs r.columns_}:=by
  unfold q1m at h;rw [b] at h;obtain ⟨zs,c,h⟩:=Jq h;exact ⟨zs,c,qz h⟩
set_option maxRecDepth 100000 in
set_option maxHeartbeats 8000000 in
theorem qo0 (o : List qt) (r : Yc) (t : q7b o = some r) : Pure Tryz.prog tab 41 [.sl 4 (o.map Kw)] (.agg [.mp (mrow (fun n : Int=>DV.int .i64 n) (fun l : List ql=>DV.sl 2 (l.map Qc)) r.rows_),.mp (mrow (fun n : Int=>DV.int .i64 n) (fun l : List ql=>DV.sl 2 (l.map Qc)) r.columns_)]):=by
  unfold q7b at t;by_cases z : o.length≤1000000
  case neg=>rw [Qa z] at t;cases t
  rw [Q9 z] at t;obtain ⟨r1,hL,t⟩:=Jq t;refine Kd Tryz.func41 rfl qm qm rfl ?_;refine qh ?_;refine Qz rfl rfl ?_;refine qv ?_;refine Qn (.mp 1) (.mp true []) O ?_;refine Qn (.mp 2) (.mp true []) O ?_;refine U (.agg [.mp 1,.mp 2]) O ?_;refine Qz rfl rfl ?_;refine Qp 3 (.cel 2 [[.mp 1,.mp 2]]) O ?_;refine qc ?_;refine qi ?_;refine qh ?_;refine q0 O ?_;refine Ky O ?_;refine q0 O ?_;refine qc ?_;refine Qf ?_;refine qn1 (SA o) (fun a=>a.1≤o.length∧NmOk a.2.1 a.2.2.1 a.2.2.2∧q2d (o.drop a.1) {rows_:=prR a.2.1,columns_:=prR a.2.2.1} = some r1) (fun a=>o.length - a.1) (0,[],[],0) ?_ ⟨Nat.zero_le _,⟨by simp [nm],by simp [nm],by simp [nm]⟩,by simpa [prR] using hL⟩ ?_
  · refine q7h (R:=[]) (C:=[]) (k:=0) [] qd ⟨by simp [nm],by simp [nm],by simp [nm]⟩ (Nat.le_refl _) ⟨⟨_,rfl,.ref rfl qd q8⟩,⟨_,rfl,.ref rfl qd q8⟩,⟨_,rfl,.d (.refl _)⟩,⟨_,rfl,.d (.refl _)⟩,⟨_,rfl,.d (.refl _)⟩,trivial⟩ (fun n b hb=>?_);rcases q57 (k:=0) ⟨by simp [nm],by simp [nm],by simp [nm]⟩ hb with ⟨rfl,rfl⟩ | ⟨rfl,rfl⟩ | ⟨rfl,rfl⟩ | ⟨rfl,rfl⟩ | ⟨i,e,u,_⟩ | ⟨i,e,u,_⟩
    · rfl
    · rfl
    · rfl
    · rfl
    · simp at u
    · simp at u
  rintro ⟨i,R,C,k⟩ ⟨hi,g,hc⟩;simp only at hi g hc;refine qh ?_;refine U (.d (.bool (decide ((i : Int) < (o.length : Int))))) O ?_;refine qc ?_;refine qi ?_;refine qmz rfl (fun ht=>?_) (fun hf=>?_)
  · have x : i < o.length:=by have:=of_decide_eq_true ht;omega
    refine Q0 ?_;refine qi ?_;refine Qf ?_;obtain ⟨s,hs⟩ : ∃ s,o[i]? = some s:=⟨_,List.getElem?_eq_getElem x⟩
    have ai : idx o (i : Int) = some s:=by unfold idx;simp [hs]
    have ab : o.drop i = s::o.drop (i + 1):=by
      rw [List.drop_eq_getElem_cons x];congr 1;rw [List.getElem?_eq_getElem x] at hs;exact Zl hs
    rw [ab] at hc;obtain ⟨rd,h1,f⟩:=Jq (show (q1m {rows_:=prR R,columns_:=prR C} s).bind (q2d (o.drop (i + 1))) = some r1 from hc);have w : i + 1≤o.length:=x;refine qh ?_;refine Y3 (enc:=Kw) ai O ?_;refine U (.d (.agg [.int .i64 s.A.X,.int .i64 s.A.Y,.int .i64 s.B.X,.int .i64 s.B.Y])) O ?_;refine Qz rfl rfl ?_;refine qw0 (m:=k + 4) (cs:=[.int .i64 0,.int .i64 0,.int .i64 0,.int .i64 0]) (ds:=[.int .i64 s.A.X,.int .i64 s.A.Y,.int .i64 s.B.X,.int .i64 s.B.Y]) rfl rfl rfl rfl (by rw [Qy,qu rfl]) rfl rfl rfl rfl ?_ rfl;refine qc ?_;refine Zv (st':=⟨[(5,.d (.box [.int .i64 s.A.X,.int .i64 s.A.Y,.int .i64 s.B.X,.int .i64 s.B.Y])),(2,.ref 0 2 0 0),(3,.ref 3 2 0 0),(13,.d (.sl 4 (o.map Kw))),(14,.d (.int .i64 (o.length : Int))),(15,.d (.int .i64 (i : Int)))],HB R C,k + 4⟩) ?_ ?_ qd
    · refine q7h [k + 4] qd g (Nat.le_refl _) ⟨⟨_,rfl,.frzB (k:=4) (cs:=[.int .i64 s.A.X,.int .i64 s.A.Y,.int .i64 s.B.X,.int .i64 s.B.Y]) (by show find (repl _ _ _) _ = _;rw [Kx,qu rfl,Qy,qu rfl];rfl) qd rfl⟩,⟨_,rfl,.ref rfl qd q8⟩,⟨_,rfl,.ref rfl qd q8⟩,⟨_,rfl,.d (.refl _)⟩,⟨_,rfl,.d (.refl _)⟩,⟨_,rfl,.d (.refl _)⟩,trivial⟩ (fun n b hb=>?_);have ar:=qhm g hb;show find (repl _ _ _) _ = _;rw [Kx,qw (by show ¬ k + 4 = n;omega),Qy,qw (by show ¬ k + 4 = n;omega)];exact hb
    refine qh ?_;refine U (.dref [.int .i64 s.A.X,.int .i64 s.A.Y,.int .i64 s.B.X,.int .i64 s.B.Y] 0) O ?_;refine U (.dref [.int .i64 s.A.X,.int .i64 s.A.Y,.int .i64 s.B.X,.int .i64 s.B.Y] 1) O ?_;refine U (.d (.int .i64 s.A.Y)) O ?_;refine U (.dref [.int .i64 s.A.X,.int .i64 s.A.Y,.int .i64 s.B.X,.int .i64 s.B.Y] 2) O ?_;refine U (.dref [.int .i64 s.A.X,.int .i64 s.A.Y,.int .i64 s.B.X,.int .i64 s.B.Y] 3) O ?_;refine U (.d (.int .i64 s.B.Y)) O ?_;refine U (.d (.bool (s.A.Y == s.B.Y))) O ?_;refine qc ?_;refine qmz rfl (fun hq=>?_) (fun hq=>?_)
    · obtain ⟨zs,y,rfl⟩:=qql h1 hq
      cases c : Y9 s.A.Y R with
      | some j=>
        obtain ⟨⟨xs,q⟩,p⟩:=qft c;have aa:=g.lo q (List.mem_append_left _ (Yo p));have ag:=g.hi q (List.mem_append_left _ (Yo p));rw [ql6 c p] at y;rw [qld (n:=k + 5) c] at f;refine Qi ((FR 1 [4,5] [6,4]).map (Yy (ρ3 q k))) (by rw [qca (m:=7) (ρ3_inj aa q8 q8) (qbr q8 qd qd)];kernel_rfl) ?_;refine U (.ref 3 2 0 0) O ?_;refine U (.mp 1) O ?_;refine U (.dref [.int .i64 s.A.X,.int .i64 s.A.Y,.int .i64 s.B.X,.int .i64 s.B.Y] 0) O ?_;refine U (.dref [.int .i64 s.A.X,.int .i64 s.A.Y,.int .i64 s.B.X,.int .i64 s.B.Y] 1) O ?_;refine U (.d (.int .i64 s.A.Y)) O ?_;refine U (.ref 3 2 0 0) O ?_;refine U (.mp 1) O ?_;refine U (.dref [.int .i64 s.A.X,.int .i64 s.A.Y,.int .i64 s.B.X,.int .i64 s.B.Y] 0) O ?_;refine U (.dref [.int .i64 s.A.X,.int .i64 s.A.Y,.int .i64 s.B.X,.int .i64 s.B.Y] 1) O ?_;refine U (.d (.int .i64 s.A.Y)) O ?_;refine q8n _ rfl (qkr rfl rfl rfl rfl rfl rfl rfl c p) ?_;refine U (.dref [.int .i64 s.A.X,.int .i64 s.A.Y,.int .i64 s.B.X,.int .i64 s.B.Y] 0) O ?_;refine U (.dref [.int .i64 s.A.X,.int .i64 s.A.Y,.int .i64 s.B.X,.int .i64 s.B.Y] 0) O ?_;refine U (.d (.int .i64 s.A.X)) O ?_;refine U (.dref [.int .i64 s.A.X,.int .i64 s.A.Y,.int .i64 s.B.X,.int .i64 s.B.Y] 2) O ?_;refine U (.dref [.int .i64 s.A.X,.int .i64 s.A.Y,.int .i64 s.B.X,.int .i64 s.B.Y] 2) O ?_;refine U (.d (.int .i64 s.B.X)) O ?_;refine q18 (r:=min s.A.X s.B.X) rfl rfl (by simp only [q13];rfl) ?_;refine U (.dref [.int .i64 s.A.X,.int .i64 s.A.Y,.int .i64 s.B.X,.int .i64 s.B.Y] 0) O ?_;refine U (.dref [.int .i64 s.A.X,.int .i64 s.A.Y,.int .i64 s.B.X,.int .i64 s.B.Y] 0) O ?_;refine U (.d (.int .i64 s.A.X)) O ?_;refine U (.dref [.int .i64 s.A.X,.int .i64 s.A.Y,.int .i64 s.B.X,.int .i64 s.B.Y] 2) O ?_;refine U (.dref [.int .i64 s.A.X,.int .i64 s.A.Y,.int .i64 s.B.X,.int .i64 s.B.Y] 2) O ?_;refine U (.d (.int .i64 s.B.X)) O ?_;refine J7 (r:=max s.A.X s.B.X) rfl rfl (by simp only [J6];rfl) ?_;refine U (.d (.agg [.int .i64 (min s.A.X s.B.X),.int .i64 (max s.A.X s.B.X)])) O ?_;refine q8m (.hs (k + 4) 2 0 1) (.dat 2 [[.int .i64 (min s.A.X s.B.X),.int .i64 (max s.A.X s.B.X)]]) rfl rfl ?_ (q3q rfl qd3);refine q15 (xs:=xs) (ys:=[({Lo:=min s.A.X s.B.X,Hi:=max s.A.X s.B.X} : ql)]) (enc:=Qc) (.hs (k + 4) 2 0 1) y rfl rfl rfl rfl rfl rfl (by rw [Qy,qw q8];exact q59 g (List.mem_of_getElem? p)) (by simp [Yv,AS.blk,Qy,Qc]) rfl rfl rfl rfl ?_ qlr;refine Ye (v:=.dead) rfl (qle (l:=zs) (j:=j) rfl rfl rfl rfl rfl rfl (by rw [Qy,qw q8,Kx,qw q8,Qy,qw q8];rfl) c) ?_ rfl;refine qc ?_;refine Qg ?_;refine Qr ?_;refine Q7 ?_;refine U (.d (.int .i64 (w64 ((i : Int) + 1)))) O ?_;refine q0 O ?_;refine qc ?_;refine Qg ?_;refine ⟨(i + 1,(R.set j (s.A.Y,(zs,k + 5))),C,k + 2),⟨w,q5z g p _ _,by simpa using f⟩,by simp only [];omega,?_⟩;have hw : w64 ((i : Int) + 1) = ((i + 1 : Nat) : Int):=by rw [Qh q8];simp
        rw [hw];exact q7h [] qd (q5z g p _ _) (Nat.le_refl _) ⟨⟨_,rfl,.ref rfl qd q8⟩,⟨_,rfl,.ref rfl qd q8⟩,⟨_,rfl,.d (.refl _)⟩,⟨_,rfl,.d (.refl _)⟩,⟨_,rfl,.d (.refl _)⟩,trivial⟩ (fun n b hb=>qte g p n b hb)
      | none=>
        rw [ql5 c] at y;rw [qlc (n:=k + 5) c] at f;refine Qi ((FR 1 [5] [6]).map (Yy (ρ3 (k + 6) k))) (by rw [qca (m:=7) (ρ3_inj q8 q8 q8) (qbr q8 qd qd)];kernel_rfl) ?_;refine U (.ref 3 2 0 0) O ?_;refine U (.mp 1) O ?_;refine U (.dref [.int .i64 s.A.X,.int .i64 s.A.Y,.int .i64 s.B.X,.int .i64 s.B.Y] 0) O ?_;refine U (.dref [.int .i64 s.A.X,.int .i64 s.A.Y,.int .i64 s.B.X,.int .i64 s.B.Y] 1) O ?_;refine U (.d (.int .i64 s.A.Y)) O ?_;refine U (.ref 3 2 0 0) O ?_;refine U (.mp 1) O ?_;refine U (.dref [.int .i64 s.A.X,.int .i64 s.A.Y,.int .i64 s.B.X,.int .i64 s.B.Y] 0) O ?_;refine U (.dref [.int .i64 s.A.X,.int .i64 s.A.Y,.int .i64 s.B.X,.int .i64 s.B.Y] 1) O ?_;refine U (.d (.int .i64 s.A.Y)) O ?_;refine q8n _ rfl (qks rfl rfl rfl rfl rfl rfl rfl c) ?_;refine U (.dref [.int .i64 s.A.X,.int .i64 s.A.Y,.int .i64 s.B.X,.int .i64 s.B.Y] 0) O ?_;refine U (.dref [.int .i64 s.A.X,.int .i64 s.A.Y,.int .i64 s.B.X,.int .i64 s.B.Y] 0) O ?_;refine U (.d (.int .i64 s.A.X)) O ?_;refine U (.dref [.int .i64 s.A.X,.int .i64 s.A.Y,.int .i64 s.B.X,.int .i64 s.B.Y] 2) O ?_;refine U (.dref [.int .i64 s.A.X,.int .i64 s.A.Y,.int .i64 s.B.X,.int .i64 s.B.Y] 2) O ?_;refine U (.d (.int .i64 s.B.X)) O ?_;refine q18 (r:=min s.A.X s.B.X) rfl rfl (by simp only [q13];rfl) ?_;refine U (.dref [.int .i64 s.A.X,.int .i64 s.A.Y,.int .i64 s.B.X,.int .i64 s.B.Y] 0) O ?_;refine U (.dref [.int .i64 s.A.X,.int .i64 s.A.Y,.int .i64 s.B.X,.int .i64 s.B.Y] 0) O ?_;refine U (.d (.int .i64 s.A.X)) O ?_;refine U (.dref [.int .i64 s.A.X,.int .i64 s.A.Y,.int .i64 s.B.X,.int .i64 s.B.Y] 2) O ?_;refine U (.dref [.int .i64 s.A.X,.int .i64 s.A.Y,.int .i64 s.B.X,.int .i64 s.B.Y] 2) O ?_;refine U (.d (.int .i64 s.B.X)) O ?_;refine J7 (r:=max s.A.X s.B.X) rfl rfl (by simp only [J6];rfl) ?_;refine U (.d (.agg [.int .i64 (min s.A.X s.B.X),.int .i64 (max s.A.X s.B.X)])) O ?_;refine q8m (.hs (k + 4) 2 0 1) (.dat 2 [[.int .i64 (min s.A.X s.B.X),.int .i64 (max s.A.X s.B.X)]]) rfl rfl ?_ (q3q rfl qd3);refine qls (ys:=[({Lo:=min s.A.X s.B.X,Hi:=max s.A.X s.B.X} : ql)]) (enc:=Qc) (.hs (k + 4) 2 0 1) y qd rfl rfl rfl rfl rfl (by simp [Yv,AS.blk,Qy,Qc]) rfl rfl rfl ?_ qlq;refine Ye (v:=.dead) rfl (qlf (l:=zs) rfl rfl rfl rfl rfl rfl (by rw [Qy,qw q8,Qy,qw q8];rfl) c) ?_ rfl;refine qc ?_;refine Qg ?_;refine Qr ?_;refine Q7 ?_;refine U (.d (.int .i64 (w64 ((i : Int) + 1)))) O ?_;refine q0 O ?_;refine qc ?_;refine Qg ?_;refine ⟨(i + 1,(R ++ [(s.A.Y,(zs,k + 5))]),C,k + 2),⟨w,q5y g _ _,by simpa using f⟩,by simp only [];omega,?_⟩;have hw : w64 ((i : Int) + 1) = ((i + 1 : Nat) : Int):=by rw [Qh q8];simp
        rw [hw];exact q7h [] qd (q5y g _ _) (Nat.le_refl _) ⟨⟨_,rfl,.ref rfl qd q8⟩,⟨_,rfl,.ref rfl qd q8⟩,⟨_,rfl,.d (.refl _)⟩,⟨_,rfl,.d (.refl _)⟩,⟨_,rfl,.d (.refl _)⟩,trivial⟩ (fun n b hb=>qys g n b hb)
    · obtain ⟨zs,y,rfl⟩:=qqj h1 hq
      cases c : Y9 s.A.X C with
      | some j=>
        obtain ⟨⟨xs,q⟩,p⟩:=qft c;have aa:=g.lo q (List.mem_append_right _ (Yo p));have ag:=g.hi q (List.mem_append_right _ (Yo p));rw [ql6 c p] at y;rw [qld (n:=k + 5) c] at f;refine Qi ((FR 2 [4,5] [6,4]).map (Yy (ρ3 q k))) (by rw [qca (m:=7) (ρ3_inj aa q8 q8) (qbr q8 qd qd)];kernel_rfl) ?_;refine U (.ref 3 2 0 1) O ?_;refine U (.mp 2) O ?_;refine U (.dref [.int .i64 s.A.X,.int .i64 s.A.Y,.int .i64 s.B.X,.int .i64 s.B.Y] 0) O ?_;refine U (.dref [.int .i64 s.A.X,.int .i64 s.A.Y,.int .i64 s.B.X,.int .i64 s.B.Y] 0) O ?_;refine U (.d (.int .i64 s.A.X)) O ?_;refine U (.ref 3 2 0 1) O ?_;refine U (.mp 2) O ?_;refine U (.dref [.int .i64 s.A.X,.int .i64 s.A.Y,.int .i64 s.B.X,.int .i64 s.B.Y] 0) O ?_;refine U (.dref [.int .i64 s.A.X,.int .i64 s.A.Y,.int .i64 s.B.X,.int .i64 s.B.Y] 0) O ?_;refine U (.d (.int .i64 s.A.X)) O ?_;refine q8n _ rfl (qkr rfl rfl rfl rfl rfl rfl rfl c p) ?_;refine U (.dref [.int .i64 s.A.X,.int .i64 s.A.Y,.int .i64 s.B.X,.int .i64 s.B.Y] 0) O ?_;refine U (.dref [.int .i64 s.A.X,.int .i64 s.A.Y,.int .i64 s.B.X,.int .i64 s.B.Y] 1) O ?_;refine U (.d (.int .i64 s.A.Y)) O ?_;refine U (.dref [.int .i64 s.A.X,.int .i64 s.A.Y,.int .i64 s.B.X,.int .i64 s.B.Y] 2) O ?_;refine U (.dref [.int .i64 s.A.X,.int .i64 s.A.Y,.int .i64 s.B.X,.int .i64 s.B.Y] 3) O ?_;refine U (.d (.int .i64 s.B.Y)) O ?_;refine q18 (r:=min s.A.Y s.B.Y) rfl rfl (by simp only [q13];rfl) ?_;refine U (.dref [.int .i64 s.A.X,.int .i64 s.A.Y,.int .i64 s.B.X,.int .i64 s.B.Y] 0) O ?_;refine U (.dref [.int .i64 s.A.X,.int .i64 s.A.Y,.int .i64 s.B.X,.int .i64 s.B.Y] 1) O ?_;refine U (.d (.int .i64 s.A.Y)) O ?_;refine U (.dref [.int .i64 s.A.X,.int .i64 s.A.Y,.int .i64 s.B.X,.int .i64 s.B.Y] 2) O ?_;refine U (.dref [.int .i64 s.A.X,.int .i64 s.A.Y,.int .i64 s.B.X,.int .i64 s.B.Y] 3) O ?_;refine U (.d (.int .i64 s.B.Y)) O ?_;refine J7 (r:=max s.A.Y s.B.Y) rfl rfl (by simp only [J6];rfl) ?_;refine U (.d (.agg [.int .i64 (min s.A.Y s.B.Y),.int .i64 (max s.A.Y s.B.Y)])) O ?_;refine q8m (.hs (k + 4) 2 0 1) (.dat 2 [[.int .i64 (min s.A.Y s.B.Y),.int .i64 (max s.A.Y s.B.Y)]]) rfl rfl ?_ (q3q rfl qd3);refine q15 (xs:=xs) (ys:=[({Lo:=min s.A.Y s.B.Y,Hi:=max s.A.Y s.B.Y} : ql)]) (enc:=Qc) (.hs (k + 4) 2 0 1) y rfl rfl rfl rfl rfl rfl (by rw [Qy,qw q8];exact q58 g (List.mem_of_getElem? p)) (by simp [Yv,AS.blk,Qy,Qc]) rfl rfl rfl rfl ?_ qlr;refine Ye (v:=.dead) rfl (qle (l:=zs) (j:=j) rfl rfl rfl rfl rfl rfl (by rw [Qy,qw q8,Kx,qw q8,Qy,qw q8];rfl) c) ?_ rfl;refine qc ?_;refine Qg ?_;refine Qr ?_;refine Q7 ?_;refine U (.d (.int .i64 (w64 ((i : Int) + 1)))) O ?_;refine q0 O ?_;refine qc ?_;refine Qg ?_;refine ⟨(i + 1,R,(C.set j (s.A.X,(zs,k + 5))),k + 2),⟨w,Ui (q5z (Ui g) p _ _),by simpa using f⟩,by simp only [];omega,?_⟩;have hw : w64 ((i : Int) + 1) = ((i + 1 : Nat) : Int):=by rw [Qh q8];simp
        rw [hw];exact q7h [] qd (Ui (q5z (Ui g) p _ _)) (Nat.le_refl _) ⟨⟨_,rfl,.ref rfl qd q8⟩,⟨_,rfl,.ref rfl qd q8⟩,⟨_,rfl,.d (.refl _)⟩,⟨_,rfl,.d (.refl _)⟩,⟨_,rfl,.d (.refl _)⟩,trivial⟩ (fun n b hb=>qtd g p n b hb)
      | none=>
        rw [ql5 c] at y;rw [qlc (n:=k + 5) c] at f;refine Qi ((FR 2 [5] [6]).map (Yy (ρ3 (k + 6) k))) (by rw [qca (m:=7) (ρ3_inj q8 q8 q8) (qbr q8 qd qd)];kernel_rfl) ?_;refine U (.ref 3 2 0 1) O ?_;refine U (.mp 2) O ?_;refine U (.dref [.int .i64 s.A.X,.int .i64 s.A.Y,.int .i64 s.B.X,.int .i64 s.B.Y] 0) O ?_;refine U (.dref [.int .i64 s.A.X,.int .i64 s.A.Y,.int .i64 s.B.X,.int .i64 s.B.Y] 0) O ?_;refine U (.d (.int .i64 s.A.X)) O ?_;refine U (.ref 3 2 0 1) O ?_;refine U (.mp 2) O ?_;refine U (.dref [.int .i64 s.A.X,.int .i64 s.A.Y,.int .i64 s.B.X,.int .i64 s.B.Y] 0) O ?_;refine U (.dref [.int .i64 s.A.X,.int .i64 s.A.Y,.int .i64 s.B.X,.int .i64 s.B.Y] 0) O ?_;refine U (.d (.int .i64 s.A.X)) O ?_;refine q8n _ rfl (qks rfl rfl rfl rfl rfl rfl rfl c) ?_;refine U (.dref [.int .i64 s.A.X,.int .i64 s.A.Y,.int .i64 s.B.X,.int .i64 s.B.Y] 0) O ?_;refine U (.dref [.int .i64 s.A.X,.int .i64 s.A.Y,.int .i64 s.B.X,.int .i64 s.B.Y] 1) O ?_;refine U (.d (.int .i64 s.A.Y)) O ?_;refine U (.dref [.int .i64 s.A.X,.int .i64 s.A.Y,.int .i64 s.B.X,.int .i64 s.B.Y] 2) O ?_;refine U (.dref [.int .i64 s.A.X,.int .i64 s.A.Y,.int .i64 s.B.X,.int .i64 s.B.Y] 3) O ?_;refine U (.d (.int .i64 s.B.Y)) O ?_;refine q18 (r:=min s.A.Y s.B.Y) rfl rfl (by simp only [q13];rfl) ?_;refine U (.dref [.int .i64 s.A.X,.int .i64 s.A.Y,.int .i64 s.B.X,.int .i64 s.B.Y] 0) O ?_;refine U (.dref [.int .i64 s.A.X,.int .i64 s.A.Y,.int .i64 s.B.X,.int .i64 s.B.Y] 1) O ?_;refine U (.d (.int .i64 s.A.Y)) O ?_;refine U (.dref [.int .i64 s.A.X,.int .i64 s.A.Y,.int .i64 s.B.X,.int .i64 s.B.Y] 2) O ?_;refine U (.dref [.int .i64 s.A.X,.int .i64 s.A.Y,.int .i64 s.B.X,.int .i64 s.B.Y] 3) O ?_;refine U (.d (.int .i64 s.B.Y)) O ?_;refine J7 (r:=max s.A.Y s.B.Y) rfl rfl (by simp only [J6];rfl) ?_;refine U (.d (.agg [.int .i64 (min s.A.Y s.B.Y),.int .i64 (max s.A.Y s.B.Y)])) O ?_;refine q8m (.hs (k + 4) 2 0 1) (.dat 2 [[.int .i64 (min s.A.Y s.B.Y),.int .i64 (max s.A.Y s.B.Y)]]) rfl rfl ?_ (q3q rfl qd3);refine qls (ys:=[({Lo:=min s.A.Y s.B.Y,Hi:=max s.A.Y s.B.Y} : ql)]) (enc:=Qc) (.hs (k + 4) 2 0 1) y qd rfl rfl rfl rfl rfl (by simp [Yv,AS.blk,Qy,Qc]) rfl rfl rfl ?_ qlq;refine Ye (v:=.dead) rfl (qlf (l:=zs) rfl rfl rfl rfl rfl rfl (by rw [Qy,qw q8,Qy,qw q8];rfl) c) ?_ rfl;refine qc ?_;refine Qg ?_;refine Qr ?_;refine Q7 ?_;refine U (.d (.int .i64 (w64 ((i : Int) + 1)))) O ?_;refine q0 O ?_;refine qc ?_;refine Qg ?_;refine ⟨(i + 1,R,(C ++ [(s.A.X,(zs,k + 5))]),k + 2),⟨w,Ui (q5y (Ui g) _ _),by simpa using f⟩,by simp only [];omega,?_⟩;have hw : w64 ((i : Int) + 1) = ((i + 1 : Nat) : Int):=by rw [Qh q8];simp
        rw [hw];exact q7h [] qd (Ui (q5y (Ui g) _ _)) (Nat.le_refl _) ⟨⟨_,rfl,.ref rfl qd q8⟩,⟨_,rfl,.ref rfl qd q8⟩,⟨_,rfl,.d (.refl _)⟩,⟨_,rfl,.d (.refl _)⟩,⟨_,rfl,.d (.refl _)⟩,trivial⟩ (fun n b hb=>qyr g n b hb)
  · refine Qo ?_;refine q7m ?_
    have aj : i = o.length:=by
      rcases Nat.lt_or_ge i o.length with h | h
      · have hd : decide ((i : Int) < (o.length : Int)) = true:=Q9 q8;rw [hd] at hf;cases hf
      · omega
    subst aj;rw [List.drop_length] at hc;have hr : r1 = {rows_:=prR R,columns_:=prR C}:=(Zl (show some _ = some r1 from hc)).symm;obtain ⟨nA,nB⟩:=qek hL qd qd;subst hr;obtain ⟨A',hA,t⟩:=Jq t;obtain ⟨B',hB,t⟩:=Jq t;cases t;refine Zv (st':=SF (prR R) (prR C)) ?_ (qqm hA hB nA nB (finD (v:=.d (.agg [.mp (mrow kI eL A'),.mp (mrow kI eL B')])) (.inr rfl) rfl rfl (.refl _))) qd;refine U2 (nm R ++ nm C) ⟨⟨_,rfl,.ref rfl qd (by show (0:Nat) < _;omega)⟩,⟨_,rfl,.ref rfl qd (by show (3:Nat) < _;omega)⟩,trivial⟩ ⟨⟨q8,fun hm=>by have:=g.lo 0 hm;omega,_,rfl,.dat _ _⟩,⟨q8,fun hm=>by have:=g.lo 1 hm;omega,_,rfl,?_⟩,⟨q8,fun hm=>by have:=g.lo 2 hm;omega,_,rfl,?_⟩,⟨q8,fun hm=>by have:=g.lo 3 hm;omega,_,rfl,Un q8⟩,trivial⟩
    · refine qoh (fun e u=>q59 g u) (fun e u=>List.mem_append_left _ (List.mem_map.2 ⟨e,u,rfl⟩))
    · refine qoh (fun e u=>q58 g u) (fun e u=>List.mem_append_right _ (List.mem_map.2 ⟨e,u,rfl⟩))
end Go.Proofs.YtgkialgkmjnfbaaGreat
