/- Qa3 Rs1 Rs2 Rs3 Qb1 Rs4 Qb2 Pf3 Rs5 Rs6 Rs7 Sw1 Sw2 Sw3 -/
import Derived.Test.YtbknppciefodiaaGreatK11
namespace Go.Sh
open Go Go.Am
def hasB (l : List qg) (x y z : Int) : Prop:=∃ b∈l,(b.Lo.X≤x∧x < b.Hi.X)∧(b.Lo.Y≤y∧y < b.Hi.Y)∧(b.Lo.Z≤z∧z < b.Hi.Z)
theorem q2c {z : Int} {b : qg} : covB z b = true↔b.Lo.Z≤z∧z < b.Hi.Z:=by simp [covB]
theorem qg2 {l : List qg} {z : Int} {r : qi} : r∈atB l z↔∃ b∈l,(b.Lo.Z≤z∧z < b.Hi.Z)∧r = Jh b:=by
  unfold atB;rw [List.mem_flatMap];constructor
  · rintro ⟨b,hb,h⟩;split at h
    · rename_i a;exact ⟨b,hb,q2c.1 a,by simpa using h⟩
    · cases h
  · rintro ⟨b,hb,a,rfl⟩;exact ⟨b,hb,by rw [qq (q2c.2 a)];simp⟩
theorem Uc {l : List qg} {x y z : Int} : hasR (atB l z) x y↔hasB l x y z:=by
  constructor
  · rintro ⟨r,h,f,g,c,a⟩;obtain ⟨b,hb,d,rfl⟩:=qg2.1 h;exact ⟨b,hb,⟨f,g⟩,⟨c,a⟩,d⟩
  · rintro ⟨b,hb,⟨f,g⟩,⟨c,a⟩,d⟩;exact ⟨Jh b,qg2.2 ⟨b,hb,d,rfl⟩,f,g,c,a⟩
theorem qcb (x y z : Int) : ¬ hasB [] x y z:=by rintro ⟨r,h,_⟩;cases h
theorem qp2 (a b : List qg) (z : Int) : atB (a ++ b) z = atB a z ++ atB b z:=by simp [atB]
theorem qp3 (s : List qi) (lo hi z : Int) : atB (s.map (putB lo hi)) z = if lo≤z∧z < hi then s else []:=by
  induction s with
  | nil=>simp [atB]
  | cons t s ih=>
    have e : atB (List.map (putB lo hi) (t::s)) z = (if covB z (putB lo hi t) = true then [t] else []) ++ atB (s.map (putB lo hi)) z:=rfl;rw [e,ih];have : covB z (putB lo hi t) = (decide (lo≤z) && decide (z < hi)):=rfl;rw [this];by_cases a : lo≤z <;> by_cases b : z < hi <;> simp [a,b]
theorem q8g : ∀ {b : List (Grp qi)},CanG b→∀ z,atB (Y8 putB b) z = secG b z
  | [],_,z=>rfl
  | g::r,h,z=>by
    have e : Y8 putB (g::r) = g.sec.map (putB g.lo g.hi) ++ Y8 putB r:=rfl
    rw [e,qp2,qp3,q8g h.tail z]
    by_cases a : g.lo≤z∧z < g.hi
    · rw [qq a,secG,qq a,q2z (y:=g.hi) (fun m c=>(h.nxt m c).1) a.2,List.append_nil]
    · rw [qp a,secG,qp a,List.nil_append]
theorem qi5 {l : List qg} {a x : Int} (h : ∀ r∈l,covB a r = covB x r) : atB l a = atB l x:=by
  induction l with
  | nil=>rfl
  | cons r l ih=>
    have e : ∀ y,atB (r::l) y = (if covB y r = true then [Jh r] else []) ++ atB l y:=fun _=>rfl;rw [e,e,h r qf,ih fun k b=>h k (by simp [b])]
theorem qbw {l : List qg} {x : Int} (h : ∀ r∈l,covB x r = false) : atB l x = []:=by
  induction l with
  | nil=>rfl
  | cons r l ih=>
    have e : atB (r::l) x = (if covB x r = true then [Jh r] else []) ++ atB l x:=rfl;rw [e,h r qf,ih fun k a=>h k (by simp [a])];rfl
theorem ql6 {p q : List qg} {r : qg} (h : r∈p∨r∈q) : r.Lo.Z∈zsOf p ++ zsOf q∧r.Hi.Z∈zsOf p ++ zsOf q:=by
  unfold zsOf;simp only [List.mem_append,List.mem_flatMap];rcases h with h | h
  · exact ⟨.inl ⟨r,h,qf⟩,.inl ⟨r,h,qf⟩⟩
  · exact ⟨.inr ⟨r,h,qf⟩,.inr ⟨r,h,qf⟩⟩
theorem qgb (kind : Int) : mrgR kind [] [] = []:=by
  refine qby (q5o kind qf) .nil fun x y=>?_;rw [q5f kind qf];have:=qfl x y;unfold Ky;simp [this]
theorem ql9 (kind : Int) {p q : List qg} (h : p.length + q.length≤100000) :
    ∃ f,mrgB kind p q = Y8 putB f∧CanG f∧∀ z,secG f z = secB kind p q z:=by
  have t:=Yz p;have s:=Yz q;have hs:=(Zt (l:=zsOf p ++ zsOf q) (by simp;omega)).2.1;obtain ⟨f,o,n,m⟩:=ql7 putB (secB kind p q) hs.1;refine ⟨f,o,n,fun x=>?_⟩;rw [m]
  have g : ∀ r,(r∈p∨r∈q)→r.Lo.Z∈Qw (zsOf p ++ zsOf q)∧r.Hi.Z∈Qw (zsOf p ++ zsOf q):=fun r b=>
    ⟨(hs.2 _).2 (ql6 b).1,(hs.2 _).2 (ql6 b).2⟩
  refine qda _ hs.1 (fun a _ k c=>?_) (fun c=>?_) (fun c=>?_)
  · have d : ∀ r,(r∈p∨r∈q)→covB a r = covB x r:=fun r b=>by
      have j:=c _ (g r b).1;have u:=c _ (g r b).2;rw [Bool.eq_iff_iff,q2c,q2c];omega
    unfold secB;rw [qi5 fun r b=>d r (.inl b),qi5 fun r b=>d r (.inr b)]
  · have d : ∀ r,(r∈p∨r∈q)→covB x r = false:=fun r b=>by
      have j:=c _ (g r b).1;rw [← Bool.not_eq_true,q2c];omega
    unfold secB;rw [qbw fun r b=>d r (.inl b),qbw fun r b=>d r (.inr b),qgb]
  · have d : ∀ r,(r∈p∨r∈q)→covB x r = false:=fun r b=>by
      have j:=c _ (g r b).2;rw [← Bool.not_eq_true,q2c];omega
    unfold secB;rw [qbw fun r b=>d r (.inl b),qbw fun r b=>d r (.inr b),qgb]
def CanB (l : List qg) : Prop:=∃ gs : List (Grp qi),l = Y8 putB gs∧CanG gs∧∀ g∈gs,CanR g.sec
theorem CanB.nil : CanB []:=⟨[],rfl,⟨qf,qf⟩,qf⟩
theorem CanB.at {l : List qg} (h : CanB l) (z : Int) : CanR (atB l z):=by
  obtain ⟨a,rfl,c,d⟩:=h;rw [q8g c];rcases qh6 (x:=z) a with e | ⟨g,b,_,_,e⟩
  · rw [e];exact .nil
  · rw [e];exact d g b
theorem qig {a b : List qg} (c : CanB a) (hb : CanB b) (h : ∀ x y z,hasB a x y z↔hasB b x y z) : a = b:=by
  have g : ∀ z,atB a z = atB b z:=fun z=>qby (c.at z) (hb.at z) fun x y=>by rw [Uc,Uc];exact h x y z
  obtain ⟨j,rfl,d,_⟩:=c;obtain ⟨k,rfl,f,_⟩:=hb;rw [qeq d f fun x=>by rw [← q8g d,← q8g f];exact g x]
theorem qi6 {p q : List qg} (h : p.length + q.length≤100000) (z : Int) : (atB p z).length + (atB q z).length≤100000:=by
  have:=Za p z;have:=Za q z;omega
theorem q3o (kind : Int) {p q : List qg} (h : p.length + q.length≤100000) : CanB (mrgB kind p q):=by
  obtain ⟨c,f,a,d⟩:=ql9 kind h;refine ⟨c,f,a,fun g b=>?_⟩;have:=d g.lo;rw [qh5 a g b _ (Int.le_refl _) (a.1 g b).1] at this;rw [this];exact q5o kind (qi6 h _)
theorem qei (kind : Int) {p q : List qg} (h : p.length + q.length≤100000) (z : Int) : atB (mrgB kind p q) z = secB kind p q z:=by
  obtain ⟨d,c,b,a⟩:=ql9 kind h;rw [c,q8g b,a]
theorem q90 (kind : Int) {p q : List qg} (h : p.length + q.length≤100000) (x y z : Int) : hasB (mrgB kind p q) x y z↔Ky kind (hasB p x y z) (hasB q x y z):=by
  rw [← Uc,qei kind h,secB,q5f kind (qi6 h z),Uc,Uc]
theorem q5e {l : List qg} (h : l.length≤100000) (x y z : Int) : hasB (mrgB 2 l []) x y z↔hasB l x y z:=by
  rw [q90 2 (by simpa using h),qcd];simp [qcb]
theorem qga {l : List qg} (a : l.length≤100000) (h : CanB l) : mrgB 2 l [] = l:=
  qig (q3o 2 (by simpa using a)) h fun x y z=>q5e a x y z
theorem CanB.lt {l : List qg} (h : CanB l) : ∀ b∈l,b.Lo.X < b.Hi.X∧b.Lo.Y < b.Hi.Y∧b.Lo.Z < b.Hi.Z:=by
  obtain ⟨k,rfl,f,j⟩:=h;intro r c;obtain ⟨g,a,t,d,rfl⟩:=ql3.1 c;have:=(j g a).lt t d;exact ⟨this.1,this.2,(f.1 g a).1⟩
def vB (b : qg) : Prop:=(b.Lo.X < b.Hi.X∧b.Lo.Y < b.Hi.Y∧b.Lo.Z < b.Hi.Z)∧(-1000000≤b.Lo.X∧-1000000≤b.Lo.Y∧-1000000≤b.Lo.Z)∧b.Hi.X≤1000000∧b.Hi.Y≤1000000∧b.Hi.Z≤1000000
instance (b : qg) : Decidable (vB b):=by unfold vB;infer_instance
def InB (l : List qg) : Prop:=∀ x y z,hasB l x y z→(-1000000≤x∧x < 1000000)∧(-1000000≤y∧y < 1000000)∧(-1000000≤z∧z < 1000000)
theorem qhl {l : List qg} (h : ∀ r∈l,vB r) : InB l:=by
  rintro x y z ⟨r,a,b⟩;have:=h r a;unfold vB at this;omega
theorem CanB.vB {l : List qg} (h : CanB l) (hi : InB l) : ∀ r∈l,vB r:=by
  intro r a;have c:=h.lt r a;have d:=hi r.Lo.X r.Lo.Y r.Lo.Z ⟨r,a,q6⟩;have b:=hi (r.Hi.X - 1) (r.Hi.Y - 1) (r.Hi.Z - 1) ⟨r,a,q6⟩;unfold Go.Sh.vB;omega
theorem InB.mrg {kind : Int} {p q : List qg} (h : p.length + q.length≤100000) (hp : InB p) (c : InB q) : InB (mrgB kind p q):=fun x y z b=>by
  rcases qfp ((q90 kind h x y z).1 b) with a | a
  · exact hp x y z a
  · exact c x y z a
theorem InB.nil : InB []:=fun x y z h=>absurd h (qcb x y z)
theorem qog {l : List qg} (h : ∀ b∈l,vB b) (z : Int) : ∀ r∈atB l z,vR r:=by
  intro r a;obtain ⟨b,hb,_,rfl⟩:=qg2.1 a;have:=h b hb;unfold vB at this;unfold vR Jh;simp only;omega
theorem InB.at {l : List qg} (h : InB l) (z : Int) : InR (atB l z):=fun x y a=>by
  have:=h x y z (Uc.1 a);exact ⟨this.1,this.2.1⟩
noncomputable def K2 (l : List qg) : Int:=if 400 < l.length then 4 else if ∀ b∈l,vB b then (if mrgB 2 l [] = l then 0 else 8) else 8
theorem Yu {l : List qg} : K2 l = 0↔l.length≤400∧(∀ b∈l,vB b)∧CanB l:=by
  unfold K2;constructor
  · intro h;split at h
    · exact absurd h Q2
    · rename_i d;split at h
      · rename_i c;split at h
        · rename_i a;exact ⟨q6,c,a ▸ q3o 2 (by simp;omega)⟩
        · exact absurd h Q2
      · exact absurd h Q2
  · rintro ⟨d,c,a⟩;rw [qp q6,qq c,qq (qga q6 a)]
theorem qd9 (kind : Int) {p q : List qg} (h : p.length + q.length≤100000) (z : Int) : (secB kind p q z).length≤(mrgB kind p q).length:=by
  rw [← qei kind h];exact Za _ _
theorem qxw (kind : Int) {p q : List qi} (h : p.length + q.length≤100000) (x : Int) : (secJ kind p q x).length≤(mrgR kind p q).length:=by
  rw [← qj3 kind h];exact Uk _ _
noncomputable def mkB (l : List qg) : List qg × Int:=if 400 < l.length then ([],4) else if ∀ b∈l,vB b then (if 400 < (mrgB 2 l []).length then ([],4) else (mrgB 2 l [],0)) else ([],8)
noncomputable def jB (kind : Int) (p q : List qg) : List qg × Int:=
  if K2 p≠0 then ([],K2 p) else if K2 q≠0 then ([],K2 q) else if 400 < (mrgB kind p q).length then ([],4) else (mrgB kind p q,0)
noncomputable def mkR (l : List qi) : List qi × Int:=if 400 < l.length then ([],4) else if ∀ b∈l,vR b then (if 400 < (mrgR 2 l []).length then ([],4) else (mrgR 2 l [],0)) else ([],8)
noncomputable def jR (kind : Int) (p q : List qi) : List qi × Int:=
  if Yl p≠0 then ([],Yl p) else if Yl q≠0 then ([],Yl q) else if 400 < (mrgR kind p q).length then ([],4) else (mrgR kind p q,0)
end Go.Sh
namespace Go.Sh
open Go Go.Am
theorem qcj {α β : Type} {f : α→Option (α ⊕ β)} (st : Nat→α) (n : Nat) (ok : Nat→Prop) (b e : β)
    (step : ∀ k,k < n→(∀ j,j≤k→ok j)→f (st k) = some (.inl (st (k + 1))))
    (bad : ∀ k,k < n→(∀ j,j < k→ok j)→¬ ok k→f (st k) = some (.inr e))
    (done : (∀ j,j < n→ok j)→f (st n) = some (.inr b)) :
    ((∀ j,j < n→ok j)∧loop f (st 0) = some b)∨(∃ j,j < n∧¬ ok j∧loop f (st 0) = some e):=by
  by_cases h : ∀ j,j < n→ok j
  · exact .inl ⟨h,Z8 st n b (fun k c=>step k c fun j d=>h j q6) (done h) (Nat.zero_le _)⟩
  · refine .inr ?_
    have l : ∃ k,(k < n∧¬ ok k)∧∀ j,j < k→ok j:=by
      have : ∃ k,k < n∧¬ ok k:=by
        refine Classical.byContradiction fun o=>h fun k c=>?_;exact Classical.byContradiction fun h=>o ⟨k,c,h⟩
      obtain ⟨k,c⟩:=this
      induction k using Nat.strongRecOn with
      | _ k ih=>
        by_cases d : ∃ j,j < k∧(j < n∧¬ ok j)
        · obtain ⟨j,g,l⟩:=d;exact ih j g l
        · exact ⟨k,c,fun j g=>Classical.byContradiction fun h=>d ⟨j,g,q6,h⟩⟩
    obtain ⟨K,⟨m,hb⟩,a⟩:=l;exact ⟨K,m,hb,Z8 st K e (fun k c=>step k q6 fun j d=>a j q6) (bad K m a hb) (Nat.zero_le _)⟩
theorem qhe (xs : List Int) (h : xs.length≤1000000) :
    ((U3 xs).bind fun c=>(K3 c.length xs.length).bind fun k=>(q10 c).bind fun b=>(K3 b.2.length c.length).bind fun m=>(q14 b.2.length b.1).bind fun g=>some ((b.2.drop b.1.1).take b.1.2)) = some (Qw xs):=by
  obtain ⟨ys,p,j,o⟩:=qnv xs h;have f : ys.length = xs.length:=j.length_eq;obtain ⟨w,a,c1,c2,c3,c4⟩:=qiz o q6;obtain ⟨_,n,_⟩:=Zt h
  have d : a.take w = Qw xs:=by
    refine qnw (l:=xs) ⟨c4.1,fun x=>?_⟩ n;rw [c4.2 x];exact j.mem_iff
  simp only [qj,p,K3,f,if_true,c1,c2,q14];rw [qq q6];simp only [qj,List.drop_zero,d]
theorem qoo (l : List qi) (o : List Int) (g : l.length≤400) (f : o.length≤10000) : loop (J4 l) (0,o) = some (o ++ xsOf l):=
  Jr l q6 (fun r=>[r.X0,r.X1]) o (fun o=>o) (J4 l) (fun k a c b=>by
    have d : c.length = o.length + 2 * k:=by
      rw [b,List.length_append];have:=U5 (l.take k);rw [List.length_take,Nat.min_eq_left q6] at this;unfold xsOf at this;omega
    simp only [J4,dlt a,qy,Qs a,qj,w64s a q6]
    rw [Y4 (by simp;omega)]
    rfl) (fun o=>by simp only [J4,dnl,qx])
theorem qw4 (l : List qi) (m : l.length≤1000000) : q9x l (fun a=>q2v a) = some (decide (¬ ∀ r∈l,vR r)):=by
  have hs : ∀ (k : Nat) (h : k < l.length),q4f l (fun a=>q2v a) (k : Int) = some (if (fun r=>!decide (vR r)) l[k] = true then .inr (.inr (k : Int)) else .inl ((k + 1 : Nat) : Int)):=by
    intro k h;simp only [q4f,dlt h,qy,Qs h,qj,w64s h m,q2v,qoh];by_cases c : vR l[k] <;> simp [c]
  have hd : q4f l (fun a=>q2v a) (l.length : Int) = some (.inr (.inl ())):=by simp only [q4f,dnl,qx]
  unfold q9x qdn;rcases Zd l (fun r=>!decide (vR r)) (fun k _=>(k : Int)) () _ hs hd with ⟨j,b⟩ | ⟨k,f,g,_,b⟩
  · rw [b];have : ∀ r∈l,vR r:=fun r d=>by simpa using j r d
    simp [];omega
  · rw [b];have : ¬ ∀ r∈l,vR r:=fun h=>by simp [h _ (Ki f)] at g
    simp only [qj];rw [Q7 this,Q7 q6]
theorem qmj (l : List qi) : q1u l = some (mkR l):=by
  unfold q1u mkR;by_cases b : 400 < l.length
  · rw [Q7 (by omega : (l.length : Int) > 400),qy,qq b]
  rw [Q6 (by omega : ¬ (l.length : Int) > 400),qx,qp b,qw4 l q6,qj];by_cases a : ∀ r∈l,vR r
  · rw [Q6 (fun h=>h a),qx,qkz l q6 a,qq a];rfl
  · rw [Q7 a,qy,qp a]
theorem qw1 (p q : List qi) : q9q p q = some (if Yl p≠0 then Yl p else Yl q):=by
  unfold q9q;simp only [qvx,qj];by_cases h : Yl p = 0
  · simp [h]
  · have : (Yl p != 0) = true:=by simpa using h
    simp [h,this]
theorem rj1 : qd4 = J4:=rfl
theorem rj2 : qd5 = J4:=rfl
theorem rj4 : qd6 = Uh:=rfl
theorem rj5 : qd7 = Uh:=rfl
theorem qil {p : List qi} (h : Yl p = 0) (x : Int) : Yr (covS p x) = 0∧Good (covS p x):=by
  obtain ⟨d,c,b⟩:=q8l.1 h;have a : Good (covS p x):=⟨qj4 c x,(b.cov x).2⟩
  have:=Uk p x;refine ⟨?_,a⟩;unfold Yr;rw [qp q6,qq a]
theorem qli (kind : Int) {p q : List qi} (hp : Yl p = 0) (a : Yl q = 0) (x : Int) : opS kind (covS p x) (covS q x) = if 400 < (secJ kind p q x).length then ([],4) else (secJ kind p q x,0):=by
  unfold opS;rw [qp (by simp [(qil hp x).1]),qp (by simp [(qil a x).1])];rfl
theorem qw6 (kind : Int) (f : List ql→List ql→Option (List ql × Int)) (hf : ∀ a b,f a b = some (opS kind a b)) (p q : List qi) : q9r p q f = some (jR kind p q):=by
  unfold q9r jR;rw [qw1,qj];by_cases hp : ¬ Yl p = 0
  · rw [qq hp,qq hp];have : (Yl p != 0) = true:=by simpa using hp
    rw [this,qy]
  replace hp:=Classical.not_not.1 hp;by_cases n : ¬ Yl q = 0
  · rw [qp (by simp [hp]),qp (by simp [hp]),qq n];have : (Yl q != 0) = true:=by simpa using n
    rw [this,qy]
  replace n:=Classical.not_not.1 n;rw [qp (by simp [hp]),qp (by simp [hp]),qp (by simp [n]),n];obtain ⟨lp,vp,cp⟩:=q8l.1 hp;obtain ⟨lq,vq,cq⟩:=q8l.1 n;have am:=U5 p;have ap:=U5 q;rw [show ((0 : Int) != 0) = false from rfl,qx];simp only [show idx [p,q] 0 = some p from rfl,show idx [p,q] 1 = some q from rfl,qj,rj1,rj2,qoo p [] lp qf,List.nil_append,qoo q (xsOf p) lq q6];rw [qhe _ (by simp;omega)];simp only [qj];obtain ⟨_,ag,g⟩:=Zt (l:=xsOf p ++ xsOf q) (by simp;omega);have g : (Qw (xsOf p ++ xsOf q)).length≤1600:=by simp at g;omega
  have o : ∀ x,(secJ kind p q x).length≤(mrgR kind p q).length:=fun x=>qxw kind q6 x;have ab : mrgR kind p q = (Qy putR Qu (Yc (Qw (xsOf p ++ xsOf q)) (secJ kind p q))).flat putR:=rfl;rw [ab] at o ⊢;generalize Qw (xsOf p ++ xsOf q) = xs at ag g o ⊢;generalize z : Yc xs (secJ kind p q) = steps at o ⊢;have ao : steps.length = xs.length - 1:=by rw [← z];exact q24 _ _
  have w : ∀ k (m : k < steps.length),steps[k] = (xs[k]'(q6),xs[k + 1]'(q6),secJ kind p q (xs[k]'(q6))):=fun k m=>by subst z;exact q39 m q6
  have ai : ∀ k,k≤steps.length→(∀ j,j < k→∀ t,steps[j]? = some t→t.2.2.length≤400)→((Qy putR Qu (steps.take k)).flat putR).length≤1600 * 400:=fun k m r=>by
    have h1:=q3j putR (s0:=Qu) (M:=400) (steps:=steps.take k) (fun t v=>by
      obtain ⟨i,hi,rfl⟩:=List.getElem_of_mem v;rw [List.length_take] at hi;rw [List.getElem_take]
      exact r i q6 _ (List.getElem?_eq_getElem q6))
    have y : (steps.take k).length≤1600:=by rw [List.length_take];omega
    have h3 : (Qu.flat putR : List qi).length = 0:=rfl;have h4 : (steps.take k).length * 400≤1600 * 400:=Nat.mul_le_mul_right _ y;omega
  have s : ∀ x,loop (Uh p x) (0,[]) = some (covS p x):=fun x=>qfx p lp x;have u : ∀ x,loop (Uh q x) (0,[]) = some (covS q x):=fun x=>qfx q lq x
  have main:=qcj (f:=q4d xs p q f) (fun k=>(((k + 1 : Nat) : Int),(Qy putR Qu (steps.take k)).sec,((Qy putR Qu (steps.take k)).done.length : Int),(Qy putR Qu (steps.take k)).hi,(Qy putR Qu (steps.take k)).flat putR))
    steps.length (fun j=>∀ t,steps[j]? = some t→t.2.2.length≤400) (.inl ((Qy putR Qu steps).sec,((Qy putR Qu steps).done.length : Int),(Qy putR Qu steps).hi,(Qy putR Qu steps).flat putR)) (.inr ([],4))
    (fun k m r=>by
      have c : k + 1 < xs.length:=by omega
      have ae : k < xs.length:=by omega
      have i1 : idx xs (w64 (((k + 1 : Nat) : Int) - 1)) = some xs[k]:=by rw [Qk q6];exact J1 q6 q6
      have hc:=r k (Nat.le_refl _) _ (List.getElem?_eq_getElem m);have hm:=ai k q6 fun j au=>r j q6;rw [q1c putR m,w k m] at *;simp only at hc;have hb:=qi9 (Qy putR Qu (steps.take k)) xs[k] xs[k + 1] (secJ kind p q xs[k]) q6;have ho : f (covS p xs[k]) (covS q xs[k]) = some (secJ kind p q xs[k],0):=by rw [hf,qli kind hp n,qp q6]
      simp only [q4d,dlt c,qy,i1,Qs c,qj,show idx [p,q] 0 = some p from rfl,show idx [p,q] 1 = some q from rfl,rj4,rj5,s,u,ho,show ((0 : Int) != 0) = false from rfl,qx,hb]
      rw [w64s c q6])
    (fun k m r d=>by
      have c : k + 1 < xs.length:=by omega
      have ae : k < xs.length:=by omega
      have i1 : idx xs (w64 (((k + 1 : Nat) : Int) - 1)) = some xs[k]:=by rw [Qk q6];exact J1 q6 q6
      have hc : 400 < (secJ kind p q xs[k]).length:=by
        refine Nat.lt_of_not_le fun h=>d fun t v=>?_;rw [List.getElem?_eq_getElem m,w k m] at v;cases v;exact h
      have ho : f (covS p xs[k]) (covS q xs[k]) = some ([],4):=by rw [hf,qli kind hp n,qq hc]
      simp only [q4d,dlt c,qy,i1,Qs c,qj,show idx [p,q] 0 = some p from rfl,show idx [p,q] 1 = some q from rfl,rj4,rj5,s,u,ho,show ((4 : Int) != 0) = true from rfl,qy])
    (fun _=>by
      have : decide (((steps.length + 1 : Nat) : Int) < (xs.length : Int)) = false:=Q6 q6
      simp only [List.take_length,q4d,this,qx])
  have af : ((((0 + 1 : Nat) : Int),(Qy putR Qu (steps.take 0)).sec,((Qy putR Qu (steps.take 0)).done.length : Int),(Qy putR Qu (steps.take 0)).hi,(Qy putR Qu (steps.take 0)).flat putR) : Int × List ql × Int × Int × List qi) = (1,[],0,0,[]):=rfl;rw [af] at main;rcases main with ⟨_,y⟩ | ⟨j,r,d,y⟩
  · rw [y];simp only [qj];by_cases h4 : 400 < ((Qy putR Qu steps).flat putR).length
    · rw [Q7 (by omega : (((Qy putR Qu steps).flat putR).length : Int) > 400),qq h4];rfl
    · rw [Q6 (by omega : ¬ (((Qy putR Qu steps).flat putR).length : Int) > 400),qp h4];rfl
  · rw [y];have aq : j < xs.length:=by omega
    have h5 : 400 < (secJ kind p q xs[j]).length:=by
      refine Nat.lt_of_not_le fun h=>d fun t v=>?_;rw [List.getElem?_eq_getElem r,w j r] at v;cases v;exact h
    have h6:=o xs[j];have h4 : 400 < ((Qy putR Qu steps).flat putR).length:=Nat.lt_of_lt_of_le h5 h6;rw [qq h4];rfl
theorem qvz (p q : List qi) : q6i p q = some (jR 2 p q):=by
  unfold q6i;rw [qw6 2 _ (fun a b=>q12s a b)];rfl
end Go.Sh
namespace Go.Sh
open Go Go.Am
theorem q119 (v : Qb) : q7w v = some (decide ((-1000000≤v.X∧-1000000≤v.Y∧-1000000≤v.Z)∧v.X≤1000000∧v.Y≤1000000∧v.Z≤1000000)):=by
  unfold q7w;by_cases a : min (min v.X v.Y) v.Z ≥ -1000000
  · by_cases b : max (max v.X v.Y) v.Z≤1000000
    · rw [Q7 a,Q7 b,qy,qj];congr 1;exact (Q7 q6).symm
    · rw [Q7 a,Q6 b,qy,qj];congr 1;exact (Q6 q6).symm
  · rw [Q6 a,qx,qj];congr 1;exact (Q6 q6).symm
theorem qnq (b : qg) : q7x b = some (decide (vB b)):=by
  unfold q7x vB;simp only [q119,qj];by_cases a : b.Lo.X < b.Hi.X
  · by_cases c : b.Lo.Y < b.Hi.Y
    · by_cases d : b.Lo.Z < b.Hi.Z
      · simp only [a,c,d,decide_true,qy,qj,true_and];by_cases f : (-1000000≤b.Lo.X∧-1000000≤b.Lo.Y∧-1000000≤b.Lo.Z)∧b.Lo.X≤1000000∧b.Lo.Y≤1000000∧b.Lo.Z≤1000000
        · rw [Q7 f];simp only [qy,qj];congr 1;exact decide_eq_decide.2 q6
        · rw [Q6 f];simp only [qx,qj];congr 1;exact (Q6 q6).symm
      · simp [a,c,d]
    · simp [a,c]
  · simp [a]
theorem qvc (v : Qb) (n : Int) : Jg v n = some (decide ((n≤v.X∧n≤v.Y∧n≤v.Z)∧v.X≤1000000∧v.Y≤1000000∧v.Z≤1000000)):=by
  unfold Jg
  by_cases f : v.X ≥ n <;> by_cases g : v.Y ≥ n <;> by_cases c : v.Z ≥ n <;> by_cases b : v.X≤1000000 <;> by_cases d : v.Y≤1000000 <;> by_cases a : v.Z≤1000000 <;>
    simp [f,g,c,b,d,a] <;> omega
theorem qme (b : qg) : q46 b = some (decide (vB b)):=by
  unfold q46 vB;simp only [qvc,qj];by_cases a : (-1000000≤b.Lo.X∧-1000000≤b.Lo.Y∧-1000000≤b.Lo.Z)∧b.Lo.X≤1000000∧b.Lo.Y≤1000000∧b.Lo.Z≤1000000
  · rw [Q7 a];simp only [qy,qj];by_cases c : (-1000000≤b.Hi.X∧-1000000≤b.Hi.Y∧-1000000≤b.Hi.Z)∧b.Hi.X≤1000000∧b.Hi.Y≤1000000∧b.Hi.Z≤1000000
    · rw [Q7 c];by_cases f : b.Lo.X < b.Hi.X <;> by_cases g : b.Lo.Y < b.Hi.Y <;> by_cases d : b.Lo.Z < b.Hi.Z <;> simp [f,g,d] <;> omega
    · rw [Q6 c];simp only [qx,qj];congr 1;exact (Q6 q6).symm
  · rw [Q6 a];simp only [qx,qj];congr 1;exact (Q6 q6).symm
theorem q118 (l : List qg) (m : l.length≤1000000) : q9v l (fun a=>q35 a) = some (decide (¬ ∀ r∈l,vB r)):=by
  have hs : ∀ (k : Nat) (h : k < l.length),q4e l (fun a=>q35 a) (k : Int) = some (if (fun r=>!decide (vB r)) l[k] = true then .inr (.inr (k : Int)) else .inl ((k + 1 : Nat) : Int)):=by
    intro k h;simp only [q4e,dlt h,qy,Qs h,qj,w64s h m,q35,qnq];by_cases c : vB l[k] <;> simp [c]
  have hd : q4e l (fun a=>q35 a) (l.length : Int) = some (.inr (.inl ())):=by simp only [q4e,dnl,qx]
  unfold q9v qdk;rcases Zd l (fun r=>!decide (vB r)) (fun k _=>(k : Int)) () _ hs hd with ⟨j,b⟩ | ⟨k,f,g,_,b⟩
  · rw [b];have : ∀ r∈l,vB r:=fun r d=>by simpa using j r d
    simp [];omega
  · rw [b];have : ¬ ∀ r∈l,vB r:=fun h=>by simp [h _ (Ki f)] at g
    simp only [qj];rw [Q7 this,Q7 q6]
theorem q117 (l : List qg) (m : l.length≤1000000) : q1x l (fun a=>q34 a) = some (decide (¬ ∀ r∈l,vB r)):=by
  have hs : ∀ (k : Nat) (h : k < l.length),q11 l (fun a=>q34 a) (k : Int) = some (if (fun r=>!decide (vB r)) l[k] = true then .inr (.inr (k : Int)) else .inl ((k + 1 : Nat) : Int)):=by
    intro k h;simp only [q11,dlt h,qy,Qs h,qj,w64s h m,q34,qnq];by_cases c : vB l[k] <;> simp [c]
  have hd : q11 l (fun a=>q34 a) (l.length : Int) = some (.inr (.inl ())):=by simp only [q11,dnl,qx]
  unfold q1x qa1;rcases Zd l (fun r=>!decide (vB r)) (fun k _=>(k : Int)) () _ hs hd with ⟨j,b⟩ | ⟨k,f,g,_,b⟩
  · rw [b];have : ∀ r∈l,vB r:=fun r d=>by simpa using j r d
    simp [];omega
  · rw [b];have : ¬ ∀ r∈l,vB r:=fun h=>by simp [h _ (Ki f)] at g
    simp only [qj];rw [Q7 this,Q7 q6]
theorem qnn (s : Mg qi qg) (a b : Int) (c : List qi) (hl : (s.flat putB).length + c.length≤1000000) :
    q7t (s.flat putB) s.sec (s.done.length : Int) s.hi a b c = some ((addM putB s a b c).sec,((addM putB s a b c).done.length : Int),(addM putB s a b c).hi,(addM putB s a b c).flat putB):=by
  have x : (s.flat putB).length = s.done.length + s.sec.length:=by simp [Mg.flat]
  have d : s.sec.length≤1000000:=by omega
  unfold q7t;rcases q17 putB s a b c with ⟨p,r,z,n⟩ | ⟨p,n⟩
  · have hb : decide ((c.length : Int) > 0) = true:=Q7 (by have:=List.length_pos_iff.2 p;omega);have u : (s.hi == a) = true:=by simpa using z
    rw [r] at hb;rw [n,r];simp only [hb,qy,u,qj,qf8 _ _ d,decide_true]
    have:=qc9 (fun v : qg=>({Lo:=v.Lo,Hi:=({X:=v.Hi.X,Y:=v.Hi.Y,Z:=b} : Qb)} : qg)) s.done (s.sec.map (putB s.lo s.hi)) (by simp;omega) (q7u b) (fun k o f y=>by
      have l : (s.done ++ s.sec.map (putB s.lo s.hi)).length = (s.flat putB).length:=rfl
      simp only [q7u,dlt f,qy,Qs f,qj,w64s f q6,Int.toNat_natCast]) (fun o=>by simp only [q7u,dnl,qx])
    rw [show s.flat putB = s.done ++ s.sec.map (putB s.lo s.hi) from rfl,this];simp only [qj,Mg.flat,List.map_map];rfl
  · rw [n]
    have w : ((cond (decide ((c.length : Int) > 0)) (some (s.hi == a)) (some false)).bind fun g=>(cond g ((q6u s.sec c).bind fun j=>some j) (some false))) = some false:=by
      by_cases l : c = []
      · subst l;simp
      · have hb : decide ((c.length : Int) > 0) = true:=Q7 (by have:=List.length_pos_iff.2 l;omega);simp only [hb,qy,qj,qf8 _ _ d];by_cases m : s.hi = a
        · have t : s.sec≠c:=fun h=>p ⟨l,h.symm,m⟩;simp [m,t]
        · have : (s.hi == a) = false:=by simpa using m
          simp [this]
    have q:=q5i c (putB a b) (s.flat putB) (fun o=>(c,((s.flat putB).length : Int),b,o)) (q7v c a b (s.flat putB)) (fun k f o y=>by
      simp only [q7v,dlt f,qy,Qs f,qj,w64s f q6];rw [Y4 (by simp;omega)]
      rfl) (fun o=>by simp only [q7v,dnl,qx])
    rw [← Option.bind_assoc,w];simp only [qj,qx,q];simp [Mg.flat]
theorem qhr (l : List qg) (o : List Int) (g : l.length≤400) (f : o.length≤10000) : loop (q20 l) (0,o) = some (o ++ zsOf l):=
  Jr l q6 (fun r=>[r.Lo.Z,r.Hi.Z]) o (fun o=>o) (q20 l) (fun k a c b=>by
    have d : c.length = o.length + 2 * k:=by
      rw [b,List.length_append];have:=Yz (l.take k);rw [List.length_take,Nat.min_eq_left q6] at this;unfold zsOf at this;omega
    simp only [q20,dlt a,qy,Qs a,qj,w64s a q6]
    rw [Y4 (by simp;omega)]
    rfl) (fun o=>by simp only [q20,dnl,qx])
theorem q53 (l : List qg) (g : l.length≤400) (x : Int) : loop (q21 l x) (0,[]) = some (atB l x):=by
  have:=Jr l q6 (fun r=>if covB x r = true then [Jh r] else []) [] (fun o=>o) (q21 l x) (fun k a o d=>by
    have f : o.length≤k:=by rw [d,List.nil_append];have:=Za (l.take k) x;rw [List.length_take,Nat.min_eq_left q6] at this;exact this
    simp only [q21,dlt a,qy,Qs a,qj,w64s a q6];by_cases b : l[k].Lo.Z≤x
    · by_cases c : x < l[k].Hi.Z
      · simp only [b,c,decide_true,qy,qj,covB,Bool.and_self,if_true];rw [Y4 (by simp;omega)];rfl
      · simp only [b,c,decide_true,decide_false,qy,qx,qj,covB,Bool.and_false,if_false,Bool.false_eq_true,List.append_nil]
    · simp only [b,decide_false,qx,qj,covB,Bool.false_and,if_false,Bool.false_eq_true,List.append_nil]) (fun o=>by simp only [q21,dnl,qx])
  rw [List.nil_append] at this;exact this
theorem qna {kind : Int} {p q : List qg} {xs : List Int} (ab : Qw (zsOf p ++ zsOf q) = xs) (h : p.length + q.length≤800) (F : Int × List qi × Int × Int × List qg→Option ((Int × List qi × Int × Int × List qg) ⊕ ((List qi × Int × Int × List qg) ⊕ (List qg × Int))))
    (ac : ∀ (a b : Int) (k : Nat) (s : Mg qi qg),(s.flat putB).length + 400≤1000000→(h1 : k + 1 < xs.length)→a = xs[k]'(q6)→b = xs[k + 1]'h1→(secB kind p q a).length≤400→
      F (((k + 1 : Nat) : Int),s.sec,(s.done.length : Int),s.hi,s.flat putB) = some (.inl (((k + 1 + 1 : Nat) : Int),(addM putB s a b (secB kind p q a)).sec,((addM putB s a b (secB kind p q a)).done.length : Int),(addM putB s a b (secB kind p q a)).hi,(addM putB s a b (secB kind p q a)).flat putB)))
    (w : ∀ (a : Int) (k : Nat) (s : Mg qi qg),(h1 : k + 1 < xs.length)→a = xs[k]'(q6)→400 < (secB kind p q a).length→
      F (((k + 1 : Nat) : Int),s.sec,(s.done.length : Int),s.hi,s.flat putB) = some (.inr (.inr ([],4))))
    (y : ∀ (k : Nat) (s : Mg qi qg),xs.length≤k + 1→F (((k + 1 : Nat) : Int),s.sec,(s.done.length : Int),s.hi,s.flat putB) = some (.inr (.inl (s.sec,(s.done.length : Int),s.hi,s.flat putB)))) :
    (∃ a b c,loop F (1,[],0,0,[]) = some (.inl (a,b,c,mrgB kind p q)))∨(400 < (mrgB kind p q).length∧loop F (1,[],0,0,[]) = some (.inr ([],4))):=by
  have ai:=Yz p;have al:=Yz q;obtain ⟨_,af,d⟩:=Zt (l:=zsOf p ++ zsOf q) (by simp;omega);have d : (Qw (zsOf p ++ zsOf q)).length≤1600:=by simp at d;omega
  have m : ∀ x,(secB kind p q x).length≤(mrgB kind p q).length:=fun x=>qd9 kind q6 x;have aa : mrgB kind p q = (Qy putB Qu (Yc (Qw (zsOf p ++ zsOf q)) (secB kind p q))).flat putB:=rfl;rw [aa] at m ⊢;rw [ab] at af d m ⊢;generalize z : Yc xs (secB kind p q) = steps at m ⊢;have ak : steps.length = xs.length - 1:=by rw [← z];exact q24 _ _
  have u : ∀ k (g : k < steps.length),steps[k] = (xs[k]'(q6),xs[k + 1]'(q6),secB kind p q (xs[k]'(q6))):=fun k g=>by subst z;exact q39 g q6
  have ag : ∀ k,k≤steps.length→(∀ j,j < k→∀ t,steps[j]? = some t→t.2.2.length≤400)→((Qy putB Qu (steps.take k)).flat putB).length≤1600 * 400:=fun k g n=>by
    have h1:=q3j putB (s0:=Qu) (M:=400) (steps:=steps.take k) (fun t o=>by
      obtain ⟨i,hi,rfl⟩:=List.getElem_of_mem o;rw [List.length_take] at hi;rw [List.getElem_take]
      exact n i q6 _ (List.getElem?_eq_getElem q6))
    have v : (steps.take k).length≤1600:=by rw [List.length_take];omega
    have h3 : (Qu.flat putB : List qg).length = 0:=rfl;have h4 : (steps.take k).length * 400≤1600 * 400:=Nat.mul_le_mul_right _ v;omega
  have main:=qcj (f:=F) (fun k=>(((k + 1 : Nat) : Int),(Qy putB Qu (steps.take k)).sec,((Qy putB Qu (steps.take k)).done.length : Int),(Qy putB Qu (steps.take k)).hi,(Qy putB Qu (steps.take k)).flat putB))
    steps.length (fun j=>∀ t,steps[j]? = some t→t.2.2.length≤400) (.inl ((Qy putB Qu steps).sec,((Qy putB Qu steps).done.length : Int),(Qy putB Qu steps).hi,(Qy putB Qu steps).flat putB)) (.inr ([],4))
    (fun k g n=>by
      have r : k + 1 < xs.length:=by omega
      have hc:=n k (Nat.le_refl _) _ (List.getElem?_eq_getElem g);have hm:=ag k q6 fun j ao=>n j q6;rw [q1c putB g,u k g] at *;simp only at hc
      exact ac _ _ k (Qy putB Qu (steps.take k)) q6 r rfl rfl hc)
    (fun k g n hb=>by
      have r : k + 1 < xs.length:=by omega
      have an : k < xs.length:=by omega
      refine w _ k (Qy putB Qu (steps.take k)) r rfl ?_;refine Nat.lt_of_not_le fun h=>hb fun t o=>?_;rw [List.getElem?_eq_getElem g,u k g] at o
      cases o;exact h)
    (fun _=>by
      rw [List.take_length]
      exact y steps.length _ q6)
  have ad : ((((0 + 1 : Nat) : Int),(Qy putB Qu (steps.take 0)).sec,((Qy putB Qu (steps.take 0)).done.length : Int),(Qy putB Qu (steps.take 0)).hi,(Qy putB Qu (steps.take 0)).flat putB) : Int × List qi × Int × Int × List qg) = (1,[],0,0,[]):=rfl;rw [ad] at main;rcases main with ⟨_,v⟩ | ⟨j,n,hb,v⟩
  · exact .inl ⟨_,_,_,v⟩
  · refine .inr ⟨?_,v⟩;have am : j < xs.length:=by omega
    have h5 : 400 < (secB kind p q xs[j]).length:=by
      refine Nat.lt_of_not_le fun h=>hb fun t o=>?_;rw [List.getElem?_eq_getElem n,u j n] at o;cases o;exact h
    exact Nat.lt_of_lt_of_le h5 (m xs[j])
theorem qmw (l : List qg) (t : l.length≤400) (y : ∀ b∈l,vB b) : q7y l = some (if 400 < (mrgB 2 l []).length then ([],4) else (mrgB 2 l [],0)):=by
  unfold q7y;have v:=Yz l;simp only [show idx [l] 0 = some l from rfl,qj,qhr l [] t qf,List.nil_append];rw [qhe _ q6];simp only [qj];have n : zsOf l = zsOf l ++ zsOf []:=by simp [zsOf]
  obtain ⟨_,x,d⟩:=Zt (l:=zsOf l ++ zsOf []) (by rw [← n];omega);have d : (Qw (zsOf l ++ zsOf [])).length≤800:=by rw [← n] at d ⊢;omega
  have g : ∀ z,q1u (atB l z) = some (if 400 < (secB 2 l [] z).length then ([],4) else (secB 2 l [] z,0)):=fun z=>by
    have:=Za l z;rw [qmj,mkR,qp q6,qq (qog y z)];rfl
  rw [n]
  have:=qna (kind:=2) (p:=l) (q:=[]) rfl (by simp;omega) (q4r (Qw (zsOf l ++ zsOf [])) l)
    (fun a b k s hs f m hb u=>by
      have h0 : k < (Qw (zsOf l ++ zsOf [])).length:=by omega
      have o : idx (Qw (zsOf l ++ zsOf [])) (w64 (((k + 1 : Nat) : Int) - 1)) = some a:=by rw [Qk q6,m];exact J1 q6 q6
      have w : idx (Qw (zsOf l ++ zsOf [])) ((k + 1 : Nat) : Int) = some b:=by rw [hb];exact Qs f
      have h:=g a;rw [qp q6] at h;simp only [q4r,dlt f,qy,o,w,qj,show idx [l] 0 = some l from rfl,q53 l t,h,show ((0 : Int) != 0) = false from rfl,qx,qnn s a b (secB 2 l [] a) q6]
      rw [w64s f q6])
    (fun a k s f m u=>by
      have o : idx (Qw (zsOf l ++ zsOf [])) (w64 (((k + 1 : Nat) : Int) - 1)) = some a:=by rw [Qk q6,m];exact J1 q6 q6
      have h:=g a;rw [qq u] at h
      simp only [q4r,dlt f,qy,o,Qs f,qj,show idx [l] 0 = some l from rfl,q53 l t,h,show ((4 : Int) != 0) = true from rfl])
    (fun k s f=>by
      have : decide (((k + 1 : Nat) : Int) < ((Qw (zsOf l ++ zsOf [])).length : Int)) = false:=Q6 q6
      simp only [q4r,this,qx])
  rcases this with ⟨a,b,c,r⟩ | ⟨j,r⟩
  · rw [r];simp only [qj];by_cases j : 400 < (mrgB 2 l []).length
    · rw [Q7 (by omega : ((mrgB 2 l []).length : Int) > 400),qq j];rfl
    · rw [Q6 (by omega : ¬ ((mrgB 2 l []).length : Int) > 400),qp j];rfl
  · rw [r,qq j];rfl
theorem q113 (l : List qg) : qau l = some (mkB l):=by
  unfold qau mkB;by_cases b : 400 < l.length
  · rw [Q7 (by omega : (l.length : Int) > 400),qy,qq b]
  rw [Q6 (by omega : ¬ (l.length : Int) > 400),qx,qp b,q118 l q6,qj];by_cases a : ∀ r∈l,vB r
  · rw [Q6 (fun h=>h a),qx,qmw l q6 a,qq a];rfl
  · rw [Q7 a,qy,qp a]
theorem qqy (p q : List qg) (a : p.length≤1000000) : qdi p q = some (decide (p = q)):=sameBox p q a
theorem qnm (l : List qg) : q4p l = some (K2 l):=by
  unfold q4p K2;by_cases d : 400 < l.length
  · rw [Q7 (by omega : (l.length : Int) > 400),qy,qq d]
  rw [Q6 (by omega : ¬ (l.length : Int) > 400),qx,qp d,q117 l q6,qj];by_cases a : ∀ r∈l,vB r
  · rw [Q6 (fun h=>h a),qx,qmw l q6 a,qq a,qj];by_cases b : 400 < (mrgB 2 l []).length
    · have c : mrgB 2 l []≠l:=fun h=>by rw [h] at b;exact d b
      rw [qq b,qp c];rfl
    · rw [qp b];simp only [qqy (mrgB 2 l []) l q6];by_cases f : mrgB 2 l [] = l <;> simp [f]
  · rw [Q7 a,qy,qp a]
end Go.Sh
namespace Go.Sh
open Go Go.Am
theorem sj1 : qds = q20:=rfl
theorem sj2 : qdt = q20:=rfl
theorem sj4 : qdu = q21:=rfl
theorem sj5 : qdv = q21:=rfl
theorem qeu {p : List qg} (h : K2 p = 0) (z : Int) : Yl (atB p z) = 0:=by
  obtain ⟨c,b,a⟩:=Yu.1 h;have:=Za p z;exact q8l.2 ⟨q6,qog b z,a.at z⟩
theorem qcn {p : List qg} (h : K2 p = 0) (z : Int) : q1u (atB p z) = some (atB p z,0):=by
  obtain ⟨c,b,a⟩:=q8l.1 (qeu h z);rw [qmj,mkR,qp q6,qq b,qlb q6 a,qp q6]
theorem qwm (kind : Int) (g : List qi→List qi→Option (List qi × Int)) (hg : ∀ a b,g a b = some (jR kind a b)) (p q : List qg) (hp : K2 p = 0) (j : K2 q = 0) :
    qax g p q = some (if 400 < (mrgB kind p q).length then ([],4) else (mrgB kind p q,0)):=by
  obtain ⟨r,vp,cp⟩:=Yu.1 hp;obtain ⟨t,vq,cq⟩:=Yu.1 j;unfold qax;have x:=Yz p;have ab:=Yz q;simp only [show idx [p,q] 0 = some p from rfl,show idx [p,q] 1 = some q from rfl,qj,sj1,sj2,qhr p [] r qf,List.nil_append,qhr q (zsOf p) t q6];rw [qhe _ (by simp;omega)];simp only [qj];obtain ⟨_,aa,d⟩:=Zt (l:=zsOf p ++ zsOf q) (by simp;omega);have d : (Qw (zsOf p ++ zsOf q)).length≤1600:=by simp at d;omega
  have v : ∀ z,g (atB p z) (atB q z) = some (if 400 < (secB kind p q z).length then ([],4) else (secB kind p q z,0)):=fun z=>by
    rw [hg,jR,qp (by simp [qeu hp z]),qp (by simp [qeu j z])];rfl
  have:=qna (kind:=kind) (p:=p) (q:=q) rfl q6 (q4q (Qw (zsOf p ++ zsOf q)) p q g)
    (fun a b k s hs f n hb w=>by
      have h0 : k < (Qw (zsOf p ++ zsOf q)).length:=by omega
      have u : idx (Qw (zsOf p ++ zsOf q)) (w64 (((k + 1 : Nat) : Int) - 1)) = some a:=by rw [Qk q6,n];exact J1 q6 q6
      have y : idx (Qw (zsOf p ++ zsOf q)) ((k + 1 : Nat) : Int) = some b:=by rw [hb];exact Qs f
      have h:=v a;rw [qp q6] at h;simp only [q4q,dlt f,qy,u,y,qj,show idx [p,q] 0 = some p from rfl,show idx [p,q] 1 = some q from rfl,sj4,sj5,q53 p r,q53 q t,qcn hp,qcn j,show ((0 : Int) == 0) = true from rfl,h,show ((0 : Int) != 0) = false from rfl,qx,qnn s a b (secB kind p q a) q6]
      rw [w64s f q6])
    (fun a k s f n w=>by
      have u : idx (Qw (zsOf p ++ zsOf q)) (w64 (((k + 1 : Nat) : Int) - 1)) = some a:=by rw [Qk q6,n];exact J1 q6 q6
      have h:=v a;rw [qq w] at h
      simp only [q4q,dlt f,qy,u,Qs f,qj,show idx [p,q] 0 = some p from rfl,show idx [p,q] 1 = some q from rfl,sj4,sj5,q53 p r,q53 q t,qcn hp,qcn j,show ((0 : Int) == 0) = true from rfl,h,show ((4 : Int) != 0) = true from rfl])
    (fun k s f=>by
      have : decide (((k + 1 : Nat) : Int) < ((Qw (zsOf p ++ zsOf q)).length : Int)) = false:=Q6 q6
      simp only [q4q,this,qx])
  rcases this with ⟨a,b,c,o⟩ | ⟨m,o⟩
  · rw [o];simp only [qj];by_cases m : 400 < (mrgB kind p q).length
    · rw [Q7 (by omega : ((mrgB kind p q).length : Int) > 400),qq m];rfl
    · rw [Q6 (by omega : ¬ ((mrgB kind p q).length : Int) > 400),qp m];rfl
  · rw [o,qq m];rfl
theorem qs6 (kind : Int) (g : List qi→List qi→Option (List qi × Int)) (d : ∀ a b,g a b = some (jR kind a b)) (p q : List qg) : qaw p q g = some (jB kind p q):=by
  unfold qaw jB;simp only [qnm,qj];by_cases hp : ¬ K2 p = 0
  · rw [qq hp];have : (K2 p != 0) = true:=by simpa using hp
    rw [this,qy]
  replace hp:=Classical.not_not.1 hp;by_cases c : ¬ K2 q = 0
  · rw [qp (by simp [hp]),qq c,hp];have : (K2 q != 0) = true:=by simpa using c
    rw [this];rfl
  replace c:=Classical.not_not.1 c;rw [qp (by simp [hp]),qp (by simp [c]),qwm kind g d p q hp c,hp,c];rfl
theorem q115 (p q : List qg) : qav p q = some (jB 2 p q):=by
  unfold qav;rw [qs6 2 _ (fun a b=>qvz a b)];rfl
def q50 (kind : Int) (p q : List qg) (z : Int) : Prop:=400 < (secB kind p q z).length∨400 < (secB 2 p [] z).length∨400 < (secB 2 q [] z).length
theorem qs8 (kind : Int) {p q : List qg} (h : p.length + q.length≤800) (l : ∀ z,(atB p z).length + (atB q z).length≤490) {xs : List Int} (s : xs.length≤1000000) {i : Nat} (hi : i + 1 < xs.length) (hb : q50 kind p q (xs[i]'(q6))) (a : Int) (c : List qi) (o : List qg) :
    U2 xs p q kind (c,a,(i : Int),o) = some (.inr (.inr ([],false))):=by
  have b : i < xs.length:=by omega
  have m : w64 ((i : Int) + 1) = ((i + 1 : Nat) : Int):=w64s b s;have x:=Za p xs[i];have v:=Za q xs[i];have y:=l xs[i];have r : U1 p xs[i] = some (atB p xs[i]):=qcy p q6 _;have aq : U1 q xs[i] = some (atB q xs[i]):=qcy q q6 _;have j : Jf kind (atB p xs[i]) (atB q xs[i]) = some (secB kind p q xs[i]):=q5v kind q6;have g : Jf 2 (atB p xs[i]) [] = some (secB 2 p [] xs[i]):=q5v 2 (by simp;omega);have k : Jf 2 (atB q xs[i]) [] = some (secB 2 q [] xs[i]):=q5v 2 (by simp;omega);unfold U2;simp only [m,dlt hi,qy,Qs b,r,aq,j,g,k,qj];by_cases n : 400 < (secB kind p q xs[i]).length
  · have d : decide (((secB kind p q xs[i]).length : Int) > 400) = true:=Q7 q6;simp only [d,qy,qj]
  have d : decide (((secB kind p q xs[i]).length : Int) > 400) = false:=Q6 q6;by_cases u : 400 < (secB 2 p [] xs[i]).length
  · have f : decide (((secB 2 p [] xs[i]).length : Int) > 400) = true:=Q7 q6;simp only [d,f,qy,qx,qj]
  have f : decide (((secB 2 p [] xs[i]).length : Int) > 400) = false:=Q6 q6;have w : 400 < (secB 2 q [] xs[i]).length:=by rcases hb with h | h | h <;> first | exact absurd h n | exact absurd h u | exact h
  have t : decide (((secB 2 q [] xs[i]).length : Int) > 400) = true:=Q7 q6;simp only [d,f,t,qy,qx,qj]
theorem qvi (kind : Int) {p q : List qg} (h : p.length + q.length≤800) (hz : ∀ z,(atB p z).length + (atB q z).length≤490) :
    J3 kind p q = some (mrgB kind p q,decide (((mrgB kind p q).length : Int)≤400))∨(J3 kind p q = some ([],false)∧∃ z,q50 kind p q z):=by
  unfold J3;rw [qma q6];simp only [qj];have ac:=Yz p;have ae:=Yz q;obtain ⟨_,aj,s⟩:=Zt (l:=zsOf p ++ zsOf q) (by simp;omega);have w : (Qw (zsOf p ++ zsOf q)).length≤1600:=by simp at s;omega
  unfold mrgB;generalize Qw (zsOf p ++ zsOf q) = xs at w ⊢;generalize r : Yc xs (secB kind p q) = steps;have ad : steps.length = xs.length - 1:=by rw [← r];exact q24 _ _
  have a : ∀ k (b : k < steps.length),steps[k] = (xs[k]'(q6),xs[k + 1]'(q6),secB kind p q (xs[k]'(q6))):=fun k b=>by subst r;exact q39 b q6
  have y : ∀ k,k≤steps.length→(∀ j,j < k→∀ t,steps[j]? = some t→¬ q50 kind p q t.1)→((Qy putB Qu (steps.take k)).flat putB).length≤1600 * 400:=fun k b d=>by
    have h1:=q3j putB (s0:=Qu) (M:=400) (steps:=steps.take k) (fun t c=>by
      obtain ⟨i,hi,rfl⟩:=List.getElem_of_mem c;rw [List.length_take] at hi;rw [List.getElem_take];have:=d i q6 _ (List.getElem?_eq_getElem q6);rw [a i q6] at this ⊢
      exact Nat.le_of_not_lt fun h=>this (.inl h))
    have n : (steps.take k).length≤1600:=by rw [List.length_take];omega
    have h3 : (Qu.flat putB : List qg).length = 0:=rfl;have h4 : (steps.take k).length * 400≤1600 * 400:=Nat.mul_le_mul_right _ n;omega
  have main:=qcj (f:=U2 xs p q kind) (fun k=>((Qy putB Qu (steps.take k)).sec,((Qy putB Qu (steps.take k)).done.length : Int),(k : Int),(Qy putB Qu (steps.take k)).flat putB))
    steps.length (fun j=>∀ t,steps[j]? = some t→¬ q50 kind p q t.1) (.inl ((Qy putB Qu steps).flat putB)) (.inr ([],false)) (fun k b d=>by
      have g : k + 1 < xs.length:=by omega
      have u:=d k (Nat.le_refl _) _ (List.getElem?_eq_getElem b);have hm:=y k q6 fun j ak=>d j q6;rw [a k b] at u
      have o : q8e kind p q xs[k]:=by
        refine ⟨hz _,?_,?_,?_⟩
        · exact Nat.le_of_not_lt fun h=>u (.inl h)
        · exact Nat.le_of_not_lt fun h=>u (.inr (.inl h))
        · exact Nat.le_of_not_lt fun h=>u (.inr (.inr h))
      have:=qkk kind q6 (xs:=xs) q6 g o (Qy putB Qu (steps.take k)) q6 (fun h0=>by subst h0;rfl) (fun ab=>by
        obtain ⟨m,rfl⟩ : ∃ m,k = m + 1:=⟨k - 1,q6⟩
        rw [q1c putB q6,qec,a m q6])
      rw [this,q1c putB b,a k b])
    (fun k b _ hb=>by
      have g : k + 1 < xs.length:=by omega
      have ah : k < xs.length:=by omega
      refine qs8 kind h hz q6 g ?_ _ _ _;refine Classical.byContradiction fun v=>hb fun t c=>?_;rw [List.getElem?_eq_getElem b,a k b] at c
      cases c;exact v)
    (fun _=>by
      rw [List.take_length]
      have hb : decide (w64 ((steps.length : Int) + 1) < (xs.length : Int)) = false:=by
        rw [Qk q6];exact Q6 q6
      unfold U2
      simp only [hb,qx])
  have x : (((Qy putB Qu (steps.take 0)).sec,((Qy putB Qu (steps.take 0)).done.length : Int),((0 : Nat) : Int),(Qy putB Qu (steps.take 0)).flat putB) : List qi × Int × Int × List qg) = ([],0,0,[]):=rfl;rw [x] at main;rcases main with ⟨h1,n⟩ | ⟨j,d,hb,n⟩
  · exact .inl (by rw [n];rfl)
  · refine .inr ⟨by rw [n];rfl,?_⟩;have ag : j < xs.length:=by omega
    refine ⟨xs[j],?_⟩;refine Classical.byContradiction fun v=>hb fun t c=>?_;rw [List.getElem?_eq_getElem d,a j d] at c;cases c;exact v
theorem qp4 {p q : List qg} (h : p.length + q.length≤490) (z : Int) : (atB p z).length + (atB q z).length≤490:=by
  have a:=Za p z;have b:=Za q z;omega
theorem qxt (kind : Int) (z : Int) : secB kind [] [] z = []:=qgb kind
theorem qmb (kind : Int) {p q : List qg} (h : p.length + q.length≤800) (a : ∀ z,(atB p z).length + (atB q z).length≤490) (hs : ∀ z,q50 kind p q z→400 < (mrgB kind p q).length) :
    ∃ o,J3 kind p q = some (o,decide ((mrgB kind p q).length≤400))∧((mrgB kind p q).length≤400→o = mrgB kind p q):=by
  rcases qvi kind h a with b | ⟨b,z,a⟩
  · refine ⟨_,?_,fun _=>rfl⟩;rw [b];have : decide (((mrgB kind p q).length : Int)≤400) = decide ((mrgB kind p q).length≤400):=decide_eq_decide.2 q6;rw [this]
  · have:=hs z a;refine ⟨[],?_,fun h=>absurd h q6⟩;rw [b,Q6 q6]
theorem qxz {l : List qg} (h : l.length≤100000) : ∀ z,q50 2 l [] z→400 < (mrgB 2 l []).length:=by
  intro z a;have b:=qd9 2 (p:=l) (q:=[]) (by simpa using h) z;rcases a with a | a | a
  · omega
  · omega
  · rw [qxt] at a;simp at a
theorem qvj (l : List qg) (n : l.length≤1000000) {γ : Type} (f : Int→Option (Int ⊕ (Unit ⊕ γ))) (e : γ) (g : ∀ k (h : k < l.length),f (k : Int) = some (if (fun r=>!decide (vB r)) l[k] = true then .inr (.inr e) else .inl ((k + 1 : Nat) : Int))) (hd : f (l.length : Int) = some (.inr (.inl ()))) :
    loop f 0 = some (if ∀ b∈l,vB b then .inl () else .inr e):=by
  rcases Zd l (fun r=>!decide (vB r)) (fun k _=>e) () f g hd with ⟨m,a⟩ | ⟨k,d,j,_,a⟩
  · have : ∀ r∈l,vB r:=fun r c=>by simpa using m r c
    rw [qq this];exact a
  · have : ¬ ∀ r∈l,vB r:=fun h=>by simp [h _ (Ki d)] at j
    rw [qp this];exact a
theorem qm9 (l : List qg) : q1t l = some (K2 l):=by
  unfold q1t K2;by_cases c : 400 < l.length
  · rw [Q7 (by omega : (l.length : Int) > 400),qy,qq c]
  rw [Q6 (by omega : ¬ (l.length : Int) > 400),qx,qp c]
  rw [qvj l q6 (q63 l) 8 (fun k d=>by
    simp only [q63,dlt d,qy,Qs d,qj,qme,w64s d q6]
    by_cases a : vB l[k] <;> simp [a]) (by simp only [q63,dnl,qx])]
  by_cases a : ∀ r∈l,vB r
  · rw [qq a,qq a];obtain ⟨o,j,m⟩:=qmb 2 (p:=l) (q:=[]) (by simp;omega) (qp4 (by simp;omega)) (qxz q6);simp only [qj,j];by_cases f : 400 < (mrgB 2 l []).length
    · have b : mrgB 2 l []≠l:=fun h=>by rw [h] at f;exact c f
      rw [Q6 q6,qp b];rfl
    · rw [Q7 q6,m q6,sameBox _ l q6];by_cases g : mrgB 2 l [] = l <;> simp [g]
  · rw [qp a,qp a];rfl
theorem qve (p q : List qg) : q62 p q = some (if K2 p≠0 then K2 p else K2 q):=by
  unfold q62;simp only [qm9,qj];by_cases h : K2 p = 0
  · simp [h]
  · have : (K2 p != 0) = true:=by simpa using h
    simp [h,this]
theorem qvh (kind : Int) (p q : List qg) (h : K2 p = 0→K2 q = 0→∀ z,(atB p z).length + (atB q z).length≤490) : q9j kind p q = some (jB kind p q):=by
  unfold q9j jB;simp only [qve,qj];by_cases hp : ¬ K2 p = 0
  · have : (K2 p != 0) = true:=by simpa using hp
    rw [qq hp,qq hp,this,qy]
  replace hp:=Classical.not_not.1 hp;rw [qp (by simp [hp]),qp (by simp [hp])];by_cases b : ¬ K2 q = 0
  · have : (K2 q != 0) = true:=by simpa using b
    rw [qq b,this,qy]
  replace b:=Classical.not_not.1 b;obtain ⟨n,s,m⟩:=Yu.1 hp;obtain ⟨r,t,j⟩:=Yu.1 b;rw [qp (by simp [b]),b,show ((0 : Int) != 0) = false from rfl,qx]
  have a : ∀ {l : List qg},l.length≤400→CanB l→∀ z,(secB 2 l [] z).length≤400:=fun {l} v k z=>by
    have:=qd9 2 (p:=l) (q:=[]) (by simp;omega) z;rw [qga q6 k] at this;omega
  obtain ⟨o,f,g⟩:=qmb kind q6 (h hp b) (fun z c=>by
    have f:=qd9 kind (p:=p) (q:=q) q6 z;have g:=a n m z;have u:=a r j z
    rcases c with c | c | c <;> omega)
  simp only [qj,f];by_cases d : 400 < (mrgB kind p q).length
  · rw [Q6 q6,qq d];rfl
  · rw [Q7 q6,qp d,g q6];rfl
end Go.Sh
namespace Go.Sh
open Go Go.Am
noncomputable def ind (p : Prop) : Int:=by classical exact if p then 1 else 0
theorem qcg {p : Prop} (h : ¬ p) : ind p = 0:=by unfold ind;simp [h]
theorem q91 {p q : Prop} (h : p↔q) : ind p = ind q:=by rw [propext h]
theorem qry {p q : Prop} : ind (p∨q) = ind p + ind q - ind (p∧q):=by
  by_cases hp : p <;> by_cases a : q <;> simp [ind,hp,a]
def sumL {α : Type} (f : α→Int) : List α→Int
  | []=>0
  | a::r=>f a + sumL f r
theorem qo5 {α : Type} (f : α→Int) (a b : List α) : sumL f (a ++ b) = sumL f a + sumL f b:=by
  induction a with
  | nil=>simp [sumL]
  | cons x a ih=>rw [List.cons_append,sumL,sumL,ih];omega
def inB (b : qg) (x y z : Int) : Prop:=(b.Lo.X≤x∧x < b.Hi.X)∧(b.Lo.Y≤y∧y < b.Hi.Y)∧(b.Lo.Z≤z∧z < b.Hi.Z)
def inR (r : qi) (x y : Int) : Prop:=(r.X0≤x∧x < r.X1)∧(r.Y0≤y∧y < r.Y1)
def inS (t : ql) (x : Int) : Prop:=t.Lo≤x∧x < t.Hi
noncomputable def cntS (s : List ql) (y : Int) : Int:=sumL (fun t=>ind (inS t y)) s
noncomputable def cntR (l : List qi) (x y : Int) : Int:=sumL (fun t=>ind (inR t x y)) l
noncomputable def cntB (l : List qg) (x y z : Int) : Int:=sumL (fun t=>ind (inB t x y z)) l
theorem qis : ∀ {s : List ql},Can s→∀ y,cntS s y = ind (has s y)
  | [],_,y=>by rw [qcg (q1n y)];rfl
  | a::s,h,y=>by
    have b:=qis h.tail y
    unfold cntS at b ⊢
    rw [sumL,b,q91 (Zu (a:=a) (s:=s) (x:=y)),qry]
    have : ¬ ((a.Lo≤y∧y < a.Hi)∧has s y):=fun ⟨c,h2⟩=>by have:=h.tail_gt h2;omega
    rw [qcg this];unfold inS;omega
theorem qqd (l : List qi) (x y : Int) : cntR l x y = cntS (covS l x) y:=by
  unfold cntR cntS
  induction l with
  | nil=>rfl
  | cons r l ih=>
    have e : covS (r::l) x = (if covR x r = true then [ysp r] else []) ++ covS l x:=rfl;rw [sumL,ih,e,qo5];congr 1;by_cases a : covR x r = true
    · rw [qq a];have:=q57.1 a;simp only [sumL,Int.add_zero];exact q91 ⟨fun h=>h.2,fun h=>⟨this,h⟩⟩
    · rw [qp a];rw [q57] at a;exact qcg fun h=>a h.1
theorem qqc (l : List qg) (x y z : Int) : cntB l x y z = cntR (atB l z) x y:=by
  unfold cntB cntR
  induction l with
  | nil=>rfl
  | cons r l ih=>
    have e : atB (r::l) z = (if covB z r = true then [Jh r] else []) ++ atB l z:=rfl;rw [sumL,ih,e,qo5];congr 1;by_cases a : covB z r = true
    · rw [qq a];have:=q2c.1 a;simp only [sumL,Int.add_zero];exact q91 ⟨fun h=>⟨h.1,h.2.1⟩,fun h=>⟨h.1,h.2,this⟩⟩
    · rw [qp a];rw [q2c] at a;exact qcg fun h=>a h.2.2
theorem CanR.cnt {l : List qi} (h : CanR l) (x y : Int) : cntR l x y = ind (hasR l x y):=by
  rw [qqd,qis (h.cov x),q91 Uv]
theorem CanB.cnt {l : List qg} (h : CanB l) (x y z : Int) : cntB l x y z = ind (hasB l x y z):=by
  rw [qqc,(h.at z).cnt,q91 Uc]
end Go.Sh
namespace Go.Sh
open Go Go.Am
theorem qrb {α β γ : Type} (l : List α) (b : l.length≤1000000) (g : γ→α→γ) (fin : γ→β) (f : γ × Int→Option ((γ × Int) ⊕ β))
    (hs : ∀ k (h : k < l.length) (s : γ),f (s,(k : Int)) = some (.inl (g s l[k],((k + 1 : Nat) : Int)))) (hd : ∀ s,f (s,(l.length : Int)) = some (.inr (fin s))) (s : γ) :
    loop f (s,0) = some (fin (l.foldl g s)):=by
  have key:=Z8 (f:=f) (fun k=>((l.take k).foldl g s,(k : Int))) l.length (fin (l.foldl g s)) (fun k a=>by
    rw [hs k a,List.take_succ_eq_append_getElem a,List.foldl_append];rfl) (by rw [List.take_length,hd]) (Nat.zero_le _)
  exact key
theorem qrs {b : qg} {l : List qg} {x y z : Int} : hasB (b::l) x y z↔inB b x y z∨hasB l x y z:=by
  constructor
  · rintro ⟨c,a,h⟩;rcases List.mem_cons.1 a with rfl | a
    · exact .inl h
    · exact .inr ⟨c,a,h⟩
  · rintro (h | ⟨c,a,h⟩)
    · exact ⟨b,qf,h⟩
    · exact ⟨c,by simp [a],h⟩
instance (b : qg) (x y z : Int) : Decidable (inB b x y z):=by unfold inB;infer_instance
instance qqo : (l : List qg)→(x y z : Int)→Decidable (hasB l x y z)
  | [],x,y,z=>isFalse (qcb x y z)
  | b::l,x,y,z=>by
    have:=qqo l x y z
    exact decidable_of_iff _ qrs.symm
end Go.Sh
namespace Go.Sh
open Go Go.Am
def ltB (b : qg) : Prop:=b.Lo.X < b.Hi.X∧b.Lo.Y < b.Hi.Y∧b.Lo.Z < b.Hi.Z
end Go.Sh
namespace Go.Sh
open Go Go.Am
abbrev V3:=Qb × Qb × Qb
def zeroV : Qb:=⟨0,0,0⟩
noncomputable def axT (t : Nat) : V3:=match qri (t : Int) with
  | some m=>m
  | none=>(zeroV,zeroV,zeroV)
def qht (v : Qb) : Prop:=-1≤v.X∧v.X≤1∧-1≤v.Y∧v.Y≤1∧-1≤v.Z∧v.Z≤1
instance (v : Qb) : Decidable (qht v):=by unfold qht;infer_instance
def mulV (m : V3) (v : Qb) : Qb:=⟨v.X * m.1.X + v.Y * m.2.1.X + v.Z * m.2.2.X,v.X * m.1.Y + v.Y * m.2.1.Y + v.Z * m.2.2.Y,v.X * m.1.Z + v.Y * m.2.1.Z + v.Z * m.2.2.Z⟩
def addV (a b : Qb) : Qb:=⟨a.X + b.X,a.Y + b.Y,a.Z + b.Z⟩
noncomputable def qke (t : Nat) (at_ v : Qb) : Qb:=addV (mulV (axT t) v) at_
def InV (v : Qb) (lo : Int) : Prop:=lo≤v.X∧v.X≤1000000∧lo≤v.Y∧v.Y≤1000000∧lo≤v.Z∧v.Z≤1000000
instance (v : Qb) (lo : Int) : Decidable (InV v lo):=by unfold InV;infer_instance
theorem qfa (v : Qb) (lo : Int) : q8z v lo = some (decide (InV v lo)):=by
  unfold q8z;by_cases a : min (min v.X v.Y) v.Z ≥ lo
  · by_cases b : max (max v.X v.Y) v.Z≤1000000
    · have : InV v lo:=by unfold InV;omega
      simp only [Q7 a,Q7 b,Q7 this,qy,qj]
    · have : ¬ InV v lo:=by unfold InV;omega
      simp only [Q7 a,Q6 b,Q6 this,qy,qj]
  · have : ¬ InV v lo:=by unfold InV;omega
    simp only [Q6 a,Q6 this,qx,qj]
theorem qea (v : Qb) (lo : Int) : Jg v lo = some (decide (InV v lo)):=by
  unfold Jg InV;by_cases a : v.X ≥ lo <;> by_cases b : v.Y ≥ lo <;> by_cases c : v.Z ≥ lo <;> by_cases d : v.X≤1000000 <;> by_cases e : v.Y≤1000000 <;> by_cases f : v.Z≤1000000 <;> simp [a,b,c,d,e,f] <;> omega
def FOk (f : Ju) : Prop:=f.Turn < 24∧InV f.At (-1000000)
instance (f : Ju) : Decidable (FOk f):=by unfold FOk;infer_instance
def SOk (s : qi2) : Prop:=FOk s.Frame∧InV s.Size 0
instance (s : qi2) : Decidable (SOk s):=by unfold SOk;infer_instance
theorem qim {P Q : Prop} [Decidable P] [Decidable Q] {R : Prop} [Decidable R] (h : R↔P∧Q) : ((cond (decide (¬ P)) (some true) ((some (decide Q)).bind fun a=>some (!a))).bind fun c3=>cond c3 (some (8 : Int)) (some 0)) = some (if R then 0 else 8):=by
  by_cases p : P <;> by_cases q : Q <;> simp [p,q,h]
theorem qju (f : Ju) : q5b f = some (if FOk f then 0 else 8):=by
  unfold q5b;rw [qfa];have e : decide (f.Turn ≥ 24) = decide (¬ f.Turn < 24):=by rw [decide_eq_decide];omega
  rw [e];exact qim Iff.rfl
theorem qm5 (f : Ju) : q5x f = some (if FOk f then 0 else 8):=by
  unfold q5x;rw [qea];have e : decide (f.Turn ≥ 24) = decide (¬ f.Turn < 24):=by rw [decide_eq_decide];omega
  rw [e];exact qim Iff.rfl
theorem qgc {P : Prop} [Decidable P] {a : Int} (h : a≠0) : ((if P then (0 : Int) else a) != 0) = decide (¬ P):=by
  by_cases p : P <;> simp [p,h]
end Go.Sh
namespace Go.Sh
open Go Go.Am
def rowOk (a b c : Int) : Prop:=(a = 1∧b = 0∧c = 0)∨(a = -1∧b = 0∧c = 0)∨(a = 0∧b = 1∧c = 0)∨(a = 0∧b = -1∧c = 0)∨(a = 0∧b = 0∧c = 1)∨(a = 0∧b = 0∧c = -1)
instance (a b c : Int) : Decidable (rowOk a b c):=by unfold rowOk;infer_instance
def q11f (p q : Qb) : qg:={Lo:=({X:=min p.X q.X,Y:=min p.Y q.Y,Z:=min p.Z q.Z} : Qb),Hi:=({X:=max p.X q.X,Y:=max p.Y q.Y,Z:=max p.Z q.Z} : Qb)}
noncomputable def qlw (t : Nat) (at_ : Qb) (b : qg) : qg:=q11f (qke t at_ b.Lo) (qke t at_ b.Hi)
noncomputable def place (l : List qg) (f : Ju) : List qg × Int:=
  if K2 l≠0 then ([],K2 l) else if ¬ FOk f then ([],8) else if ∀ b∈l,vB (qlw f.Turn.toNat f.At b) then mkB (l.map (qlw f.Turn.toNat f.At)) else ([],16)
theorem qux {l : List qg} (q : l.length≤400) (P : qg→Prop) [DecidablePred P] (pl : qg→qg) (e : List qg × Int) (f : Int × List qg→Option ((Int × List qg) ⊕ ((List qg) ⊕ (List qg × Int))))
    (d : ∀ k (h : k < l.length) (o : List qg),o.length = k→P l[k]→f ((k : Int),o) = some (.inl (((k + 1 : Nat) : Int),o ++ [pl l[k]])))
    (c : ∀ k (h : k < l.length) (o : List qg),o.length = k→¬ P l[k]→f ((k : Int),o) = some (.inr (.inr e)))
    (hd : ∀ o,f ((l.length : Int),o) = some (.inr (.inl o))) : loop f (0,[]) = some (if ∀ b∈l,P b then .inl (l.map pl) else .inr e):=by
  have main:=qcj (f:=f) (fun k=>((k : Int),(l.take k).map pl)) l.length (fun j=>∀ b,l[j]? = some b→P b) (.inl (l.map pl)) (.inr e)
    (fun k a n=>by
      rw [d k a _ (by simp;omega) (n k (Nat.le_refl _) _ (List.getElem?_eq_getElem a)),List.take_succ_eq_append_getElem a,List.map_append];rfl)
    (fun k a _ hb=>c k a _ (by simp;omega) fun h=>hb fun b hb=>by rw [List.getElem?_eq_getElem a] at hb;cases hb;exact h)
    (fun _=>by rw [List.take_length,hd])
  have g : ((((0 : Nat) : Int),(l.take 0).map pl) : Int × List qg) = (0,[]):=rfl;rw [g] at main;rcases main with ⟨p,m⟩ | ⟨j,n,hb,m⟩
  · rw [m,qq];intro b hb;obtain ⟨i,hi,rfl⟩:=List.getElem_of_mem hb;exact p i hi _ (List.getElem?_eq_getElem hi)
  · rw [m,qp];intro h;exact hb fun b hb=>h b (List.mem_of_getElem? hb)
end Go.Sh
namespace Go.Sh
open Go Go.Am
end Go.Sh
namespace Go.Sh
open Go Go.Am
def grpR : List qi→List (Grp ql)
  | []=>[]
  | r::l=>match grpR l with
    | g::gs=>if g.lo = r.X0∧g.hi = r.X1 then ⟨g.lo,g.hi,ysp r::g.sec⟩::gs else ⟨r.X0,r.X1,[ysp r]⟩::g::gs
    | []=>[⟨r.X0,r.X1,[ysp r]⟩]
def grpB : List qg→List (Grp qi)
  | []=>[]
  | r::l=>match grpB l with
    | g::gs=>if g.lo = r.Lo.Z∧g.hi = r.Hi.Z then ⟨g.lo,g.hi,Jh r::g.sec⟩::gs else ⟨r.Lo.Z,r.Hi.Z,[Jh r]⟩::g::gs
    | []=>[⟨r.Lo.Z,r.Hi.Z,[Jh r]⟩]
theorem qk9 : ∀ l : List qi,Y8 putR (grpR l) = l
  | []=>rfl
  | r::l=>by
    have a:=qk9 l
    unfold grpR
    split
    · rename_i g d h
      rw [h] at a
      split
      · rename_i b
        obtain ⟨b,c⟩:=b
        rw [← a]
        simp only [Y8,List.flatMap_cons,List.map_cons,List.cons_append,b,c]
        congr 1
      · rw [← a];rfl
    · rename_i h
      rw [h] at a
      rw [← a];rfl
theorem qk8 : ∀ l : List qg,Y8 putB (grpB l) = l
  | []=>rfl
  | r::l=>by
    have a:=qk8 l
    unfold grpB
    split
    · rename_i g d h
      rw [h] at a
      split
      · rename_i b
        obtain ⟨b,c⟩:=b
        rw [← a]
        simp only [Y8,List.flatMap_cons,List.map_cons,List.cons_append,b,c]
        congr 1
      · rw [← a];rfl
    · rename_i h
      rw [h] at a
      rw [← a];rfl
instance {σ : Type} [DecidableEq σ] (gs : List (Grp σ)) : Decidable (CanG gs):=by unfold CanG;infer_instance
instance (s : List ql) : Decidable (Can s):=by unfold Can;infer_instance
def isR (l : List qi) : Prop:=CanG (grpR l)∧∀ g∈grpR l,Can g.sec
instance (l : List qi) : Decidable (isR l):=by unfold isR;infer_instance
def isB (l : List qg) : Prop:=CanG (grpB l)∧∀ g∈grpB l,isR g.sec
instance (l : List qg) : Decidable (isB l):=by unfold isB;infer_instance
theorem isR.can {l : List qi} (h : isR l) : CanR l:=⟨grpR l,(qk9 l).symm,h.1,h.2⟩
theorem isB.can {l : List qg} (h : isB l) : CanB l:=⟨grpB l,(qk8 l).symm,h.1,fun g a=>(h.2 g a).can⟩
theorem qq4 {l : List qg} (h : l.length≤400∧(∀ b∈l,vB b)∧isB l) : K2 l = 0:=Yu.2 ⟨h.1,h.2.1,h.2.2.can⟩
theorem qt0 {kind : Int} {p q out : List qg} (h : p.length + q.length≤100000) (b : CanB out) (a : ∀ x y z,Ky kind (hasB p x y z) (hasB q x y z)↔hasB out x y z) : mrgB kind p q = out:=
  qig (q3o kind h) b fun x y z=>by rw [q90 kind h];exact a x y z
theorem qq3 {kind : Int} {p q : List qg} (hp : K2 p = 0) (f : K2 q = 0) (b : (mrgB kind p q).length≤400) : K2 (mrgB kind p q) = 0:=by
  obtain ⟨j,d,k⟩:=Yu.1 hp;obtain ⟨g,c,h⟩:=Yu.1 f;have a:=q3o kind (p:=p) (q:=q) q6;exact Yu.2 ⟨b,a.vB (InB.mrg q6 (qhl d) (qhl c)),a⟩
theorem qs5 (kind : Int) {p q : List qg} (hp : K2 p = 0) (a : K2 q = 0) :
    jB kind p q = ([],4)∨(jB kind p q = (mrgB kind p q,0)∧K2 (mrgB kind p q) = 0∧∀ x y z,hasB (mrgB kind p q) x y z↔Ky kind (hasB p x y z) (hasB q x y z)):=by
  have c:=(Yu.1 hp).1;have b:=(Yu.1 a).1;unfold jB;rw [qp (by simp [hp]),qp (by simp [a])];by_cases h : 400 < (mrgB kind p q).length
  · exact .inl (by rw [qq h])
  · exact .inr ⟨by rw [qp h],qq3 hp a q6,q90 kind q6⟩
theorem qc1 : K2 [] = 0:=qq4 Q2
instance (kind : Int) (a b : Prop) [Decidable a] [Decidable b] : Decidable (Ky kind a b):=by unfold Ky;infer_instance
end Go.Sh
namespace Go.Sh
open Go Go.Am
def swp (a c : Qb) (b : qg) : qg:={Lo:=({X:=b.Lo.X + min a.X c.X,Y:=b.Lo.Y + min a.Y c.Y,Z:=b.Lo.Z + min a.Z c.Z} : Qb),Hi:=({X:=b.Hi.X + max a.X c.X,Y:=b.Hi.Y + max a.Y c.Y,Z:=b.Hi.Z + max a.Z c.Z} : Qb)}
def movB (v : Qb) (b : qg) : qg:={Lo:=({X:=b.Lo.X + v.X,Y:=b.Lo.Y + v.Y,Z:=b.Lo.Z + v.Z} : Qb),Hi:=({X:=b.Hi.X + v.X,Y:=b.Hi.Y + v.Y,Z:=b.Hi.Z + v.Z} : Qb)}
def onL (a c p : Qb) : Prop:=(min a.X c.X≤p.X∧p.X≤max a.X c.X)∧(min a.Y c.Y≤p.Y∧p.Y≤max a.Y c.Y)∧(min a.Z c.Z≤p.Z∧p.Z≤max a.Z c.Z)
theorem qhj {l h m n x : Int} (f : l < h) (a : m≤n) : (l + m≤x∧x < h + n)↔∃ t,(m≤t∧t≤n)∧l + t≤x∧x < h + t:=by
  constructor
  · rintro ⟨c,d⟩;by_cases b : n≤x - l
    · exact ⟨n,q6,q6,q6⟩
    · exact ⟨x - l,q6,q6,q6⟩
  · rintro ⟨t,c,d,b⟩;omega
theorem qkf {a c : Qb} {b : qg} (hb : ltB b) {x y z : Int} : inB (swp a c b) x y z↔∃ p,onL a c p∧inB (movB p b) x y z:=by
  obtain ⟨q,v,o⟩:=hb;have l:=qhj (x:=x) q (show min a.X c.X≤max a.X c.X by omega);have j:=qhj (x:=y) v (show min a.Y c.Y≤max a.Y c.Y by omega);have k:=qhj (x:=z) o (show min a.Z c.Z≤max a.Z c.Z by omega);constructor
  · rintro ⟨u,t,r⟩;obtain ⟨m,f,d⟩:=l.1 u;obtain ⟨s,p2,h⟩:=j.1 t;obtain ⟨n,p3,g⟩:=k.1 r;exact ⟨⟨m,s,n⟩,⟨f,p2,p3⟩,d,h,g⟩
  · rintro ⟨p,⟨f,p2,p3⟩,d,h,g⟩;exact ⟨l.2 ⟨_,f,d⟩,j.2 ⟨_,p2,h⟩,k.2 ⟨_,p3,g⟩⟩
theorem qrt {l : List qg} {f : qg→qg} {x y z : Int} : hasB (l.map f) x y z↔∃ b∈l,inB (f b) x y z:=by
  constructor
  · rintro ⟨c,a,h⟩;obtain ⟨b,hb,rfl⟩:=List.mem_map.1 a;exact ⟨b,hb,h⟩
  · rintro ⟨b,hb,h⟩;exact ⟨_,List.mem_map.2 ⟨b,hb,rfl⟩,h⟩
theorem qfk {a c : Qb} {l : List qg} (g : ∀ b∈l,ltB b) {x y z : Int} : hasB (l.map (swp a c)) x y z↔∃ p,onL a c p∧hasB (l.map (movB p)) x y z:=by
  simp only [qrt];constructor
  · rintro ⟨b,hb,h⟩;obtain ⟨p,d,f⟩:=(qkf (g b hb)).1 h;exact ⟨p,d,b,hb,f⟩
  · rintro ⟨p,d,b,hb,f⟩;exact ⟨b,hb,(qkf (g b hb)).2 ⟨p,d,f⟩⟩
theorem q12t {a c : Qb} {b : qg} (hb : ltB b) : vB (swp a c b)↔vB (movB a b)∧vB (movB c b):=by
  obtain ⟨f,g,d⟩:=hb;unfold vB swp movB;simp only;omega
theorem q2r (kind : Int) {p q : List qi} {n : Nat} (h : p.length + q.length≤n) (c : n≤100) : (mrgR kind p q).length≤(2 * n - 1) * (2 * n):=by
  have g:=q3j putR (s0:=Qu) (M:=2 * n) (steps:=Yc (Qw (xsOf p ++ xsOf q)) (secJ kind p q)) (fun t a=>by
    have:=qdy (M:=2 * (p.length + q.length)) (fun x=>qdb kind q6 x) t a
    omega)
  have b : (Yc (Qw (xsOf p ++ xsOf q)) (secJ kind p q)).length≤2 * n - 1:=by
    have:=(q8q (p:=p) (q:=q) q6).2.2;rw [q24];omega
  have f : (Qu.flat putR : List qi).length = 0:=rfl;have d:=Nat.mul_le_mul_right (2 * n) b;unfold mrgR mrg;omega
theorem qxu (l : List qg) (a : l.length≤100000) (z : Int) : atB (mrgB 2 l []) z = mrgR 2 (atB l z) []:=qei 2 (by simpa using a) z
theorem qdc {l : List qg} {n : Nat} (h : l.length≤n) (a : n≤100) (z : Int) : (atB (mrgB 2 l []) z).length≤(2 * n - 1) * (2 * n):=by
  have:=Za l z;rw [qxu l q6];exact q2r 2 (by simp;omega) a
end Go.Sh
namespace Go.Sh
open Go Go.Am
theorem qt1 {l : List qg} {n : Nat} (h : l.length≤n) (a : n≤100) : (mrgB 2 l []).length≤(2 * n - 1) * ((2 * n - 1) * (2 * n)):=by
  have g:=Yz l
  have j:=q3j putB (s0:=Qu) (M:=(2 * n - 1) * (2 * n)) (steps:=Yc (Qw (zsOf l ++ zsOf [])) (secB 2 l [])) (fun t c=>by
    exact qdy (M:=(2 * n - 1) * (2 * n)) (fun x=>by
      have:=Za l x
      exact q2r 2 (by simp [atB];simp [atB] at this;omega) a) t c)
  have d : (Yc (Qw (zsOf l ++ zsOf [])) (secB 2 l [])).length≤2 * n - 1:=by
    have b : (zsOf ([] : List qg)).length = 0:=rfl;have:=(Zt (l:=zsOf l ++ zsOf []) (by simp;omega)).2.2;rw [q24];simp at this;omega
  have f : (Qu.flat putB : List qg).length = 0:=rfl;have b:=Nat.mul_le_mul_right ((2 * n - 1) * (2 * n)) d;unfold mrgB;omega
theorem qkm {L now : List qg} (a : L.length≤5) (o : now.length≤5) {M : List qg} (j : M.length≤5) (c : ∀ x y z,hasB M x y z↔hasB L x y z∨hasB now x y z) :
    ∃ b,J3 2 (mrgB 2 L []) now = some (mrgB 2 M [],b):=by
  have r:=qt1 (n:=5) a q6
  have e : mrgB 2 (mrgB 2 L []) now = mrgB 2 M []:=qt0 q6 (q3o 2 (by simp;omega)) fun x y z=>by
    rw [qcd,q5e q6,q5e q6,c]
  have hs : ∀ z,q8e 2 (mrgB 2 L []) now z:=fun z=>by
    have k:=qdc (n:=5) a q6 z;have g:=Za now z;have h:=Za L z;have es : ∀ x y,hasR (atB (mrgB 2 L []) z) x y↔hasR (atB L z) x y:=fun x y=>by rw [Uc,Uc,q5e q6]
    refine ⟨q6,?_,?_,?_⟩
    · rw [q96 2 (p':=atB L z) (q':=atB now z) q6 q6 es (fun _ _=>Iff.rfl)];have:=q2r 2 (p:=atB L z) (q:=atB now z) (n:=10) q6 q6;omega
    · rw [q96 2 (p':=atB L z) (q':=[]) (by simp;omega) (by simp;omega) es (fun _ _=>Iff.rfl)];have:=q2r 2 (p:=atB L z) (q:=[]) (n:=5) (by simp;omega) q6;omega
    · have:=q2r 2 (p:=atB now z) (q:=[]) (n:=5) (by simp;omega) q6;omega
  have d : (Qw (zsOf (mrgB 2 L []) ++ zsOf now)).length≤2000:=by
    have m:=Yz (mrgB 2 L []);have f:=Yz now;have:=(Zt (l:=zsOf (mrgB 2 L []) ++ zsOf now) (by simp;omega)).2.2;simp at this;omega
  exact ⟨_,by rw [qmc 2 q6 hs d,e]⟩
theorem qsc {L M : List qg} (a : L.length≤5) (c : M.length≤5) (s : (mrgB 2 L []).length≤400) (k : (mrgB 2 M []).length≤400) : ∃ b,J3 1 (mrgB 2 L []) (mrgB 2 M []) = some (mrgB 1 (mrgB 2 L []) (mrgB 2 M []),b):=by
  have es : ∀ {L : List qg},L.length≤5→∀ z x y,hasR (atB (mrgB 2 L []) z) x y↔hasR (atB L z) x y:=fun {L} h z x y=>by rw [Uc,Uc,q5e q6]
  have hs : ∀ z,q8e 1 (mrgB 2 L []) (mrgB 2 M []) z:=fun z=>by
    have o:=qdc (n:=5) a q6 z;have g:=qdc (n:=5) c q6 z;have j:=Za L z;have m:=Za M z;refine ⟨q6,?_,?_,?_⟩
    · rw [q96 1 (p':=atB L z) (q':=atB M z) q6 q6 (es a z) (es c z)];have:=q2r 1 (p:=atB L z) (q:=atB M z) (n:=10) q6 q6;omega
    · rw [q96 2 (p':=atB L z) (q':=[]) (by simp;omega) (by simp;omega) (es a z) (fun _ _=>Iff.rfl)];have:=q2r 2 (p:=atB L z) (q:=[]) (n:=5) (by simp;omega) q6;omega
    · rw [q96 2 (p':=atB M z) (q':=[]) (by simp;omega) (by simp;omega) (es c z) (fun _ _=>Iff.rfl)];have:=q2r 2 (p:=atB M z) (q:=[]) (n:=5) (by simp;omega) q6;omega
  have d : (Qw (zsOf (mrgB 2 L []) ++ zsOf (mrgB 2 M []))).length≤2000:=by
    have r:=Yz (mrgB 2 L []);have f:=Yz (mrgB 2 M []);have:=(Zt (l:=zsOf (mrgB 2 L []) ++ zsOf (mrgB 2 M [])) (by simp;omega)).2.2;simp at this;omega
  exact ⟨_,qmc 1 q6 hs d⟩
end Go.Sh
namespace Go.Sh
open Go Go.Am
def Ax (a c : Qb) : Prop:=(a.X = c.X∧a.Y = c.Y)∨(a.X = c.X∧a.Z = c.Z)∨(a.Y = c.Y∧a.Z = c.Z)
instance (a c : Qb) : Decidable (Ax a c):=by unfold Ax;infer_instance
def LOk (l : K7) : Prop:=Ax l.From l.To∧InV l.From (-1000000)∧InV l.To (-1000000)
instance (l : K7) : Decidable (LOk l):=by unfold LOk;infer_instance
def TOk (t : K5) : Prop:=(t.Lines.length≤2000∧t.Marks.length≤2000∧FOk t.End.Frame)∧(∀ l∈t.Lines,LOk l)∧∀ m∈t.Marks,FOk m.Frame
instance (t : K5) : Decidable (TOk t):=by unfold TOk;infer_instance
theorem q12j (v : Qb) : qbm v = some (decide (InV v (-1000000))):=qfa v (-1000000)
theorem q12h (l : K7) : loop (q13 l) (0,0) = some ((if w64 (l.To.X - l.From.X) = 0 then 1 else 0) + (if w64 (l.To.Y - l.From.Y) = 0 then 1 else 0) + (if w64 (l.To.Z - l.From.Z) = 0 then 1 else 0)):=by
  have a : w64 (0 + 1) = 1:=by decide
  have c : w64 (1 + 1) = 2:=by decide
  have b : w64 (2 + 1) = 3:=by decide
  have s : ∀ n k v,idxA 3 [w64 (l.To.X - l.From.X),w64 (l.To.Y - l.From.Y),w64 (l.To.Z - l.From.Z)] k = some v→k < 3→q13 l (n,k) = some (.inl (if v = 0 then w64 (n + 1) else n,w64 (k + 1))):=by
    intro n k v g m;unfold q13;simp only [Q7 m,qy,g,qj];by_cases h : v = 0
    · have e : (v == 0) = true:=by simpa using h
      rw [e,qq h];rfl
    · have e : (v == 0) = false:=by simpa using h
      rw [e,qp h];rfl
  have d : ∀ n,q13 l (n,0) = some (.inl (if w64 (l.To.X - l.From.X) = 0 then w64 (n + 1) else n,1)):=fun n=>by rw [s n 0 _ rfl q6,a]
  have o : ∀ n,q13 l (n,1) = some (.inl (if w64 (l.To.Y - l.From.Y) = 0 then w64 (n + 1) else n,2)):=fun n=>by rw [s n 1 _ rfl q6,c]
  have f : ∀ n,q13 l (n,2) = some (.inl (if w64 (l.To.Z - l.From.Z) = 0 then w64 (n + 1) else n,3)):=fun n=>by rw [s n 2 _ rfl q6,b]
  have j : ∀ n,q13 l (n,3) = some (.inr n):=fun n=>rfl;rw [Y5 (d 0),Y5 (o _),Y5 (f _),Kj (j _)];split <;> split <;> split <;> decide
theorem qsk (l : K7) : q89 l = some (!decide (LOk l)):=by
  unfold q89;simp only [q12h,q12j,qj];by_cases d : InV l.From (-1000000)
  · by_cases g : InV l.To (-1000000)
    · have hb : ∀ {a b : Int},-1000000≤a→a≤1000000→-1000000≤b→b≤1000000→(w64 (a - b) = 0↔b = a):=fun d g k j=>by rw [Qk q6];omega
      have f:=d;have c:=g;unfold InV at f c;simp only [hb c.1 c.2.1 f.1 f.2.1,hb c.2.2.1 c.2.2.2.1 f.2.2.1 f.2.2.2.1,hb c.2.2.2.2.1 c.2.2.2.2.2 f.2.2.2.2.1 f.2.2.2.2.2];simp only [d,g,decide_true,Bool.not_true,qx,qj];congr 1;rw [Bool.eq_iff_iff];simp only [decide_eq_true_eq,Bool.not_eq_true',decide_eq_false_iff_not,LOk,Ax,d,g,and_true];split <;> split <;> split <;> simp_all
    · have : ¬ LOk l:=fun h=>g h.2.2;simp [d,g,this]
  · have : ¬ LOk l:=fun h=>d h.2.1;simp [d,this]
theorem qsx (m : Yw) : q8a m = some (!decide (FOk m.Frame)):=by
  unfold q8a;rw [qju];by_cases h : FOk m.Frame <;> simp [h]
theorem qkw (l : List K7) (d : l.length≤1000000) (p : K7→Option Bool) (c : K7→Bool) (h : ∀ v,p v = some (c v)) : q6t l p = some (l.any c):=by
  unfold q6t qdl
  rcases Zd l c (fun k _=>(k : Int)) () (q6v l p) (fun k a=>by
    simp only [q6v,dlt a,qy,Qs a,qj,w64s a d,h]
    cases c l[k] <;> simp) (by simp only [q6v,dnl,qx]) with ⟨h1,h2⟩ | ⟨k,a,hc,_,h2⟩
  · rw [h2];have : l.any c = false:=by rw [List.any_eq_false];exact fun v b=>by rw [h1 v b];simp
    rw [this];rfl
  · rw [h2];have : l.any c = true:=List.any_eq_true.2 ⟨_,Ki a,hc⟩;simp only [qj];rw [this,Q7 q6]
theorem qsr (l : List Yw) (d : l.length≤1000000) (p : Yw→Option Bool) (c : Yw→Bool) (h : ∀ v,p v = some (c v)) : q9w l p = some (l.any c):=by
  unfold q9w qdm
  rcases Zd l c (fun k _=>(k : Int)) () (q6w l p) (fun k a=>by
    simp only [q6w,dlt a,qy,Qs a,qj,w64s a d,h]
    cases c l[k] <;> simp) (by simp only [q6w,dnl,qx]) with ⟨h1,h2⟩ | ⟨k,a,hc,_,h2⟩
  · rw [h2];have : l.any c = false:=by rw [List.any_eq_false];exact fun v b=>by rw [h1 v b];simp
    rw [this];rfl
  · rw [h2];have : l.any c = true:=List.any_eq_true.2 ⟨_,Ki a,hc⟩;simp only [qj];rw [this,Q7 q6]
theorem q12i (t : K5) (j : t.Lines.length≤1000000) (n : t.Marks.length≤1000000) : qbl t = some (if TOk t then 0 else 8):=by
  unfold qbl;rw [qkw t.Lines j _ _ qsk,qsr t.Marks n _ _ qsx,qju];simp only [qj,qgc (show (8 : Int)≠0 by omega)]
  have k : (t.Lines.any fun l=>!decide (LOk l)) = decide (¬ ∀ l∈t.Lines,LOk l):=by
    rw [Bool.eq_iff_iff];simp
  have f : (t.Marks.any fun m=>!decide (FOk m.Frame)) = decide (¬ ∀ m∈t.Marks,FOk m.Frame):=by
    rw [Bool.eq_iff_iff];simp
  have g : decide (max (t.Lines.length : Int) (t.Marks.length : Int) > 2000) = decide (¬ (t.Lines.length≤2000∧t.Marks.length≤2000)):=by
    rw [decide_eq_decide];omega
  rw [k,f,g];by_cases a : ∀ l∈t.Lines,LOk l
  · by_cases b : ∀ m∈t.Marks,FOk m.Frame
    · by_cases d : FOk t.End.Frame
      · by_cases c : t.Lines.length≤2000∧t.Marks.length≤2000
        · have : TOk t:=⟨⟨c.1,c.2,d⟩,a,b⟩
          rw [Q6 (not_not_intro a),Q6 (not_not_intro b),Q6 (not_not_intro d),Q6 (not_not_intro c),qq this];rfl
        · have : ¬ TOk t:=fun h=>c ⟨h.1.1,h.1.2.1⟩;rw [Q6 (not_not_intro a),Q6 (not_not_intro b),Q6 (not_not_intro d),Q7 c,qp this];rfl
      · have : ¬ TOk t:=fun h=>d h.1.2.2;rw [Q6 (not_not_intro a),Q6 (not_not_intro b),Q7 d,qp this];rfl
    · have : ¬ TOk t:=fun h=>b h.2.2;rw [Q6 (not_not_intro a),Q7 b,qp this];rfl
  · have : ¬ TOk t:=fun h=>a h.2.1;rw [Q7 a,qp this];rfl
theorem q12l (t : K5) (b : t.Lines.length≤1000000) (c : t.Marks.length≤1000000) : ∃ n,qbk t = some (n,if TOk t then 0 else 8):=by
  unfold qbk;rw [q12i t b c];simp only [qj];by_cases h : TOk t
  · simp only [qq h,show ((0 : Int) != 0) = false from rfl,qx]
    have:=qrb t.Lines b (fun n (l : K7)=>w64 (n + (w64 ((w64 ((max (w64 (l.To.X - l.From.X)) (w64 (0 - (w64 (l.To.X - l.From.X))))) + (max (w64 (l.To.Y - l.From.Y)) (w64 (0 - (w64 (l.To.Y - l.From.Y))))))) + (max (w64 (l.To.Z - l.From.Z)) (w64 (0 - (w64 (l.To.Z - l.From.Z))))))))) (fun x=>x) (q88 t) (fun k a s=>by
      simp only [q88,q8b,dlt a,qy,Qs a,qj,w64s a b]) (fun s=>by simp only [q88,dnl,qx]) 0
    rw [this];exact ⟨_,rfl⟩
  · simp only [qp h];exact ⟨0,rfl⟩
theorem qen (a b : Int) : (a != b) = decide (¬ a = b):=by
  by_cases h : a = b <;> simp [h]
theorem qvd (t : K5) (u : t.Lines.length≤1000000) (y : t.Marks.length≤1000000) : q5y t = some (if TOk t then 0 else 8):=by
  unfold q5y;rw [qm5];simp only [qj,qgc (show (8 : Int)≠0 by omega)];by_cases c : t.Lines.length≤2000∧t.Marks.length≤2000
  · by_cases b : FOk t.End.Frame
    · have f : decide ((t.Lines.length : Int) > 2000) = false:=Q6 q6;have d : decide ((t.Marks.length : Int) > 2000) = false:=Q6 q6;rw [f,d,Q6 (not_not_intro b)];simp only [qx,qj]
      rcases Zd t.Lines (fun l=>!decide (LOk l)) (fun k _=>(8 : Int)) () (q5z t) (fun k a=>by
        have r : w64 (0 + 1) = 1:=by decide
        have v : w64 (1 + 1) = 2:=by decide
        have s : w64 (2 + 1) = 3:=by decide
        simp only [q5z,dlt a,qy,Qs a,qj,w64s a u,qea];generalize t.Lines[k] = l
        by_cases p : l.From.X = l.To.X <;> by_cases q : l.From.Y = l.To.Y <;> by_cases j : l.From.Z = l.To.Z <;> by_cases w : InV l.From (-1000000) <;> by_cases o : InV l.To (-1000000) <;>
          simp [qen,p,q,j,w,o,show w64 1 = 1 by decide,show w64 2 = 2 by decide,show w64 3 = 3 by decide,LOk,Ax]) (by simp only [q5z,dnl,qx]) with ⟨a1,a2⟩ | ⟨k,a,hc,_,a2⟩
      · rw [a2];simp only [qj]
        rcases Zd t.Marks (fun m=>!decide (FOk m.Frame)) (fun k _=>(8 : Int)) () (q60 t) (fun k a=>by
          simp only [q60,dlt a,qy,Qs a,qj,w64s a y,qm5,qgc (show (8 : Int)≠0 by omega)]
          by_cases x : FOk (t.Marks[k]).Frame <;> simp [x]) (by simp only [q60,dnl,qx]) with ⟨b1,b2⟩ | ⟨k,a,hc,_,b2⟩
        · rw [b2];have : TOk t:=⟨⟨c.1,c.2,b⟩,fun l z=>by simpa using a1 l z,fun m n=>by simpa using b1 m n⟩
          rw [qq this];rfl
        · rw [b2];have : ¬ TOk t:=fun h=>by simp [h.2.2 _ (Ki a)] at hc
          rw [qp this];rfl
      · rw [a2];have : ¬ TOk t:=fun h=>by simp [h.2.1 _ (Ki a)] at hc
        rw [qp this];rfl
    · have : ¬ TOk t:=fun h=>b h.1.2.2;have f : decide ((t.Lines.length : Int) > 2000) = false:=Q6 q6;have d : decide ((t.Marks.length : Int) > 2000) = false:=Q6 q6;rw [f,d,Q7 b,qp this];rfl
  · have : ¬ TOk t:=fun h=>c ⟨h.1.1,h.1.2.1⟩;rw [qp this];by_cases g : (t.Lines.length : Int) > 2000
    · rw [Q7 g];rfl
    · rw [Q6 g,Q7 (by omega : (t.Marks.length : Int) > 2000)];rfl
noncomputable def badB : List (List qg)→Int
  | []=>0
  | b::r=>if K2 b≠0 then K2 b else badB r
theorem qej : ∀ {bs : List (List qg)},(∀ b∈bs,K2 b = 0)→badB bs = 0
  | [],_=>rfl
  | b::r,h=>by rw [badB,qp (by simp [h b qf])];exact qej fun c a=>h c (by simp [a])
theorem qi8 : ∀ {bs : List (List qg)},badB bs = 0→∀ b∈bs,K2 b = 0
  | [],_,b,hb=>by cases hb
  | a::r,h,b,hb=>by
    rw [badB] at h
    split at h
    · rename_i c;exact absurd h c
    · rename_i c
      rcases List.mem_cons.1 hb with rfl | hb
      · exact Classical.not_not.1 c
      · exact qi8 h b hb
theorem qi7 : ∀ {bs : List (List qg)} {k : Nat} (b : k < bs.length),K2 bs[k]≠0→(∀ j (c : j < k),K2 (bs[j]'(q6)) = 0)→badB bs = K2 bs[k]
  | a::r,0,b,h,_=>by rw [badB];exact qq h
  | a::r,k + 1,b,h,hb=>by
    rw [badB,qp (by simpa using hb 0 q6)]
    exact qi7 (bs:=r) (by simpa using b) h fun j c=>by simpa using hb (j + 1) q6
theorem qif {γ : Type} (bs : List (List qg)) (o : bs.length≤1000000) (a : Int→γ) (f : Int→Option (Int ⊕ (Unit ⊕ γ)))
    (hs : ∀ k (h : k < bs.length),f (k : Int) = some (if K2 bs[k]≠0 then .inr (.inr (a (K2 bs[k]))) else .inl ((k + 1 : Nat) : Int))) (hd : f (bs.length : Int) = some (.inr (.inl ()))) :
    loop f 0 = some (if badB bs = 0 then .inl () else .inr (a (badB bs))):=by
  rcases Zd bs (fun b=>decide (K2 b≠0)) (fun k h=>a (K2 bs[k])) () f (fun k h=>by rw [hs k h];simp) hd with ⟨n,d⟩ | ⟨k,g,m,hb,d⟩
  · rw [d,qq (qej fun b hb=>by simpa using n b hb)]
  · have c : K2 bs[k]≠0:=by simpa using m
    have:=qi7 g c fun j l=>by simpa using hb j l
    rw [d,qp (by rw [this];exact c),this]
noncomputable def chkS (t : K5) (bs : List (List qg)) : Int:=
  if ¬ TOk t then 8 else if 20 < bs.length then 4 else if badB bs≠0 then badB bs else if 0 < t.Lines.length∧bs.length = 0 then 6 else if ∃ l∈t.Lines,l.Depth < 0 then 2 else 0
theorem qwr (t : K5) (bs : List (List qg)) (o : t.Lines.length≤1000000) (r : t.Marks.length≤1000000) (m : bs.length≤1000000) : qbc t bs = some (chkS t bs):=by
  obtain ⟨n,q⟩:=q12l t o r;unfold qbc chkS;rw [q];simp only [qj];by_cases a : ¬ TOk t
  · rw [qp a,qq a];rfl
  replace a:=Classical.not_not.1 a;rw [qq a,qp (not_not_intro a),show ((0 : Int) != 0) = false from rfl,qx];by_cases j : 20 < bs.length
  · rw [Q7 (by omega : (bs.length : Int) > 20),qy,qq j]
  rw [Q6 (by omega : ¬ (bs.length : Int) > 20),qx,qp j]
  rw [qif bs m (fun e=>e) (q86 bs) (fun k f=>by
    simp only [q86,dlt f,qy,Qs f,qj,w64s f m,qnm]
    by_cases h : K2 bs[k] = 0 <;> simp [qen,h]) (by simp only [q86,dnl,qx])]
  by_cases c : badB bs = 0
  · rw [qq c,qp (not_not_intro c)];simp only [qj];rw [qkw t.Lines o (fun p=>qbd p) (fun v=>decide (v.Depth < 0)) (fun v=>rfl)];by_cases g : 0 < t.Lines.length
    · by_cases d : bs.length = 0
      · rw [Q7 (by omega : (t.Lines.length : Int) > 0),d,qq ⟨g,rfl⟩];rfl
      · have e : ((bs.length : Int) == 0) = false:=by simpa using d
        rw [Q7 (by omega : (t.Lines.length : Int) > 0),e,qp (fun h=>d h.2)];simp only [qy,qx,qj];by_cases b : ∃ l∈t.Lines,l.Depth < 0
        · rw [qq b,show (t.Lines.any fun v=>decide (v.Depth < 0)) = true by simpa using b];rfl
        · rw [qp b,show (t.Lines.any fun v=>decide (v.Depth < 0)) = false by simpa using b];rfl
    · have e : t.Lines = []:=List.length_eq_zero_iff.1 q6;rw [Q6 (by omega : ¬ (t.Lines.length : Int) > 0),qp (fun h=>g h.1),e];simp
  · rw [qp c,qq c];rfl
end Go.Sh
