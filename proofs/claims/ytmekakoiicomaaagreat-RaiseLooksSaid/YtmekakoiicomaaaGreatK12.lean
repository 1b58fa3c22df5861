/- Qa2 Qa3 Rs1 Rh2 Rs2 Rs3 Qb1 Rs4 Qb2 Pf3 Rs5 Rs6 Rs7 Rs8 Rh3 Rh4 Rh5 Rh6 -/
import Derived.Test.YtmekakoiicomaaaGreatK11
namespace Go.Sh
open Go Go.Am
section
variable {σ : Type}
theorem qaf {x : Int} : ∀ (b : List (Grp σ)),secG b x = []∨∃ g∈b,g.lo≤x∧x < g.hi∧secG b x = g.sec
  | []=>.inl rfl
  | g::r=>by
    by_cases a : g.lo≤x∧x < g.hi
    · exact .inr ⟨g,qe,a.1,a.2,by rw [secG,qy a]⟩
    · rw [secG,Q3 a]
      rcases qaf r with h | ⟨k,c,h⟩
      · exact .inl h
      · exact .inr ⟨k,by simp [c],h⟩
theorem q79 : ∀ {b : List (Grp σ)},CanG b→∀ g∈b,∀ x,g.lo≤x→x < g.hi→secG b x = g.sec
  | k::r,h,g,a,x,h1,h2=>by
    rcases List.mem_cons.1 a with rfl | a
    · exact q3g h1 h2
    · have:=(h.nxt g a).1
      rw [secG,Q3 q6]
      exact q79 h.tail g a x h1 h2
end
theorem ql2 (kind : Int) : q2f kind [] [] = []:=by
  have a:=(q2x kind [] [] qe qe).2;refine q29 a.can ⟨qe,qe⟩ fun x=>?_;rw [a.pts];have:=q1u x;unfold Ky;simp [this]
theorem qrd (a b : List qd) (x : Int) : covS (a ++ b) x = covS a x ++ covS b x:=by simp [covS]
theorem qrf (s : List qp) (lo hi x : Int) : covS (s.map (putR lo hi)) x = if lo≤x∧x < hi then s else []:=by
  induction s with
  | nil=>simp [covS]
  | cons t s ih=>
    have e : covS (List.map (putR lo hi) (t::s)) x = (if covR x (putR lo hi t) = true then [t] else []) ++ covS (s.map (putR lo hi)) x:=rfl;rw [e,ih];have : covR x (putR lo hi t) = (decide (lo≤x) && decide (x < hi)):=rfl;rw [this];by_cases a : lo≤x <;> by_cases b : x < hi <;> simp [a,b]
theorem q8x : ∀ {b : List (Grp qp)},CanG b→∀ x,covS (K3 putR b) x = secG b x
  | [],_,x=>rfl
  | g::r,h,x=>by
    have e : K3 putR (g::r) = g.sec.map (putR g.lo g.hi) ++ K3 putR r:=rfl
    rw [e,qrd,qrf,q8x h.tail x]
    by_cases a : g.lo≤x∧x < g.hi
    · rw [qy a,secG,qy a,q2n (y:=g.hi) (fun m c=>(h.nxt m c).1) a.2,List.append_nil]
    · rw [Q3 a,secG,Q3 a,List.nil_append]
theorem qj6 {l : List qd} {a x : Int} (h : ∀ r∈l,covR a r = covR x r) : covS l a = covS l x:=by
  induction l with
  | nil=>rfl
  | cons r l ih=>
    have e : ∀ y,covS (r::l) y = (if covR y r = true then [ysp r] else []) ++ covS l y:=fun _=>rfl;rw [e,e,h r qe,ih fun k b=>h k (by simp [b])]
theorem qcy {l : List qd} {x : Int} (h : ∀ r∈l,covR x r = false) : covS l x = []:=by
  induction l with
  | nil=>rfl
  | cons r l ih=>
    have e : covS (r::l) x = (if covR x r = true then [ysp r] else []) ++ covS l x:=rfl;rw [e,h r qe,ih fun k a=>h k (by simp [a])];rfl
theorem q5p {x : Int} {r : qd} : covR x r = true↔r.X0≤x∧x < r.X1:=by simp [covR]
theorem qlj {p q : List qd} {r : qd} (h : r∈p∨r∈q) : r.X0∈xsOf p ++ xsOf q∧r.X1∈xsOf p ++ xsOf q:=by
  unfold xsOf;simp only [List.mem_append,List.mem_flatMap];rcases h with h | h
  · exact ⟨.inl ⟨r,h,qe⟩,.inl ⟨r,h,qe⟩⟩
  · exact ⟨.inr ⟨r,h,qe⟩,.inr ⟨r,h,qe⟩⟩
theorem qln (kind : Int) {p q : List qd} (h : p.length + q.length≤100000) :
    ∃ f,mrgR kind p q = K3 putR f∧CanG f∧∀ x,secG f x = secJ kind p q x:=by
  have t:=Ze p;have u:=Ze q;have hs:=(Zq (l:=xsOf p ++ xsOf q) (by simp;omega)).2.1;obtain ⟨f,k,n,m⟩:=qlk putR (secJ kind p q) hs.1;refine ⟨f,k,n,fun x=>?_⟩;rw [m]
  have g : ∀ r,(r∈p∨r∈q)→r.X0∈Qt (xsOf p ++ xsOf q)∧r.X1∈Qt (xsOf p ++ xsOf q):=fun r b=>
    ⟨(hs.2 _).2 (qlj b).1,(hs.2 _).2 (qlj b).2⟩
  refine qe3 _ hs.1 (fun a _ o c=>?_) (fun c=>?_) (fun c=>?_)
  · have d : ∀ r,(r∈p∨r∈q)→covR a r = covR x r:=fun r b=>by
      have j:=c _ (g r b).1;have s:=c _ (g r b).2;rw [Bool.eq_iff_iff,q5p,q5p];omega
    unfold secJ;rw [qj6 fun r b=>d r (.inl b),qj6 fun r b=>d r (.inr b)]
  · have d : ∀ r,(r∈p∨r∈q)→covR x r = false:=fun r b=>by
      have j:=c _ (g r b).1;rw [← Bool.not_eq_true,q5p];omega
    unfold secJ;rw [qcy fun r b=>d r (.inl b),qcy fun r b=>d r (.inr b),ql2]
  · have d : ∀ r,(r∈p∨r∈q)→covR x r = false:=fun r b=>by
      have j:=c _ (g r b).2;rw [← Bool.not_eq_true,q5p];omega
    unfold secJ;rw [qcy fun r b=>d r (.inl b),qcy fun r b=>d r (.inr b),ql2]
def CanR (l : List qd) : Prop:=∃ gs : List (Grp qp),l = K3 putR gs∧CanG gs∧∀ g∈gs,Can g.sec
theorem qpw : Can []:=⟨qe,qe⟩
theorem CanR.nil : CanR []:=⟨[],rfl,⟨qe,qe⟩,qe⟩
theorem CanR.cov {l : List qd} (h : CanR l) (x : Int) : Can (covS l x):=by
  obtain ⟨b,rfl,c,a⟩:=h;rw [q8x c];rcases qaf (x:=x) b with e | ⟨g,d,_,_,e⟩
  · rw [e];exact qpw
  · rw [e];exact a g d
theorem qcr {a b : List qd} (c : CanR a) (hb : CanR b) (h : ∀ x y,hasR a x y↔hasR b x y) : a = b:=by
  have g : ∀ x,covS a x = covS b x:=fun x=>q29 (c.cov x) (hb.cov x) fun y=>by rw [Zj,Zj];exact h x y
  obtain ⟨j,rfl,f,_⟩:=c;obtain ⟨k,rfl,d,_⟩:=hb;rw [qf2 f d fun x=>by rw [← q8x f,← q8x d];exact g x]
theorem qe5 (kind : Int) {p q : List qd} (h : p.length + q.length≤100000) (x : Int) : qep kind (covS p x) (covS q x) (secJ kind p q x):=by
  have a:=J0 p x;have b:=J0 q x;exact (q2x kind (covS p x) (covS q x) q6 q6).2
theorem q64 (kind : Int) {p q : List qd} (h : p.length + q.length≤100000) : CanR (mrgR kind p q):=by
  obtain ⟨f,c,a,d⟩:=qln kind h;refine ⟨f,c,a,fun g b=>?_⟩;have:=d g.lo;rw [q79 a g b _ (Int.le_refl _) (a.1 g b).1] at this;rw [this];exact (qe5 kind h _).can
theorem qre (kind : Int) {p q : List qd} (h : p.length + q.length≤100000) (x : Int) : covS (mrgR kind p q) x = secJ kind p q x:=by
  obtain ⟨d,a,c,b⟩:=qln kind h;rw [a,q8x c,b]
theorem q99 (kind : Int) {p q : List qd} (h : p.length + q.length≤100000) (x y : Int) : hasR (mrgR kind p q) x y↔Ky kind (hasR p x y) (hasR q x y):=by
  rw [← Zj,qre kind h,(qe5 kind h x).pts,Zj,Zj]
theorem q2w (x y : Int) : ¬ hasR [] x y:=by rintro ⟨r,h,_⟩;cases h
theorem qd9 {a b : Prop} : Ky 2 a b↔a∨b:=by unfold Ky;simp
theorem qkq {a b : Prop} : Ky 3 a b↔a∧¬ b:=by unfold Ky;simp
theorem qki {l : List qd} (h : l.length≤100000) (x y : Int) : hasR (mrgR 2 l []) x y↔hasR l x y:=by
  rw [q99 2 (by simpa using h),qd9];simp [q2w]
theorem qlo {l : List qd} (a : l.length≤100000) (h : CanR l) : mrgR 2 l [] = l:=
  qcr (q64 2 (by simpa using a)) h fun x y=>qki a x y
theorem qdm {σ β : Type} {put : Int→Int→σ→β} {a : List (Grp σ)} {r : β} : r∈K3 put a↔∃ g∈a,∃ t∈g.sec,r = put g.lo g.hi t:=by
  unfold K3;simp only [List.mem_flatMap,List.mem_map];exact ⟨fun ⟨g,hg,t,ht,e⟩=>⟨g,hg,t,ht,e.symm⟩,fun ⟨g,hg,t,ht,e⟩=>⟨g,hg,t,ht,e.symm⟩⟩
theorem CanR.lt {l : List qd} (h : CanR l) : ∀ r∈l,r.X0 < r.X1∧r.Y0 < r.Y1:=by
  obtain ⟨j,rfl,d,b⟩:=h;intro r c;obtain ⟨g,a,t,f,rfl⟩:=qdm.1 c;exact ⟨(d.1 g a).1,(b g a).1 t f⟩
def InR (l : List qd) : Prop:=∀ x y,hasR l x y→(-1000000≤x∧x < 1000000)∧(-1000000≤y∧y < 1000000)
theorem CanR.vR {l : List qd} (h : CanR l) (hi : InR l) : ∀ r∈l,vR r:=by
  intro r a;have c:=h.lt r a;have b:=hi r.X0 r.Y0 ⟨r,a,q6⟩;have d:=hi (r.X1 - 1) (r.Y1 - 1) ⟨r,a,q6⟩;unfold Go.Sh.vR;omega
theorem InR.mrg {kind : Int} {p q : List qd} (h : p.length + q.length≤100000) (hp : InR p) (b : InR q) : InR (mrgR kind p q):=fun x y c=>by
  rcases qdb ((q99 kind h x y).1 c) with a | a
  · exact hp x y a
  · exact b x y a
theorem InR.nil : InR []:=fun x y h=>absurd h (q2w x y)
theorem q8t {l : List qd} : Z4 l = 0↔l.length≤400∧(∀ r∈l,vR r)∧CanR l:=by
  constructor
  · intro h;obtain ⟨c,b,a⟩:=qqs h;exact ⟨c,b,a ▸ q64 2 (by simp;omega)⟩
  · rintro ⟨c,b,a⟩;unfold Z4;rw [Q3 q6,qy b,qy (qlo q6 a)]
end Go.Sh
namespace Go.Sh
open Go Go.Am
def hasB (l : List qk) (x y z : Int) : Prop:=∃ b∈l,(b.Lo.X≤x∧x < b.Hi.X)∧(b.Lo.Y≤y∧y < b.Hi.Y)∧(b.Lo.Z≤z∧z < b.Hi.Z)
theorem q1j {z : Int} {b : qk} : covB z b = true↔b.Lo.Z≤z∧z < b.Hi.Z:=by simp [covB]
theorem q9e {l : List qk} {z : Int} {r : qd} : r∈atB l z↔∃ b∈l,(b.Lo.Z≤z∧z < b.Hi.Z)∧r = Zl b:=by
  unfold atB;rw [List.mem_flatMap];constructor
  · rintro ⟨b,hb,h⟩;split at h
    · rename_i a;exact ⟨b,hb,q1j.1 a,by simpa using h⟩
    · cases h
  · rintro ⟨b,hb,a,rfl⟩;exact ⟨b,hb,by rw [qy (q1j.2 a)];simp⟩
theorem Jn {l : List qk} {x y z : Int} : hasR (atB l z) x y↔hasB l x y z:=by
  constructor
  · rintro ⟨r,h,d,a,f,c⟩;obtain ⟨b,hb,g,rfl⟩:=q9e.1 h;exact ⟨b,hb,⟨d,a⟩,⟨f,c⟩,g⟩
  · rintro ⟨b,hb,⟨d,a⟩,⟨f,c⟩,g⟩;exact ⟨Zl b,q9e.2 ⟨b,hb,g,rfl⟩,d,a,f,c⟩
theorem qfq (x y z : Int) : ¬ hasB [] x y z:=by rintro ⟨r,h,_⟩;cases h
theorem qic (a b : List qk) (z : Int) : atB (a ++ b) z = atB a z ++ atB b z:=by simp [atB]
theorem qie (s : List qd) (lo hi z : Int) : atB (s.map (putB lo hi)) z = if lo≤z∧z < hi then s else []:=by
  induction s with
  | nil=>simp [atB]
  | cons t s ih=>
    have e : atB (List.map (putB lo hi) (t::s)) z = (if covB z (putB lo hi t) = true then [t] else []) ++ atB (s.map (putB lo hi)) z:=rfl;rw [e,ih];have : covB z (putB lo hi t) = (decide (lo≤z) && decide (z < hi)):=rfl;rw [this];by_cases a : lo≤z <;> by_cases b : z < hi <;> simp [a,b]
theorem q3s : ∀ {b : List (Grp qd)},CanG b→∀ z,atB (K3 putB b) z = secG b z
  | [],_,z=>rfl
  | g::r,h,z=>by
    have e : K3 putB (g::r) = g.sec.map (putB g.lo g.hi) ++ K3 putB r:=rfl
    rw [e,qic,qie,q3s h.tail z]
    by_cases a : g.lo≤z∧z < g.hi
    · rw [qy a,secG,qy a,q2n (y:=g.hi) (fun m c=>(h.nxt m c).1) a.2,List.append_nil]
    · rw [Q3 a,secG,Q3 a,List.nil_append]
theorem qex {l : List qk} {a x : Int} (h : ∀ r∈l,covB a r = covB x r) : atB l a = atB l x:=by
  induction l with
  | nil=>rfl
  | cons r l ih=>
    have e : ∀ y,atB (r::l) y = (if covB y r = true then [Zl r] else []) ++ atB l y:=fun _=>rfl;rw [e,e,h r qe,ih fun k b=>h k (by simp [b])]
theorem qco {l : List qk} {x : Int} (h : ∀ r∈l,covB x r = false) : atB l x = []:=by
  induction l with
  | nil=>rfl
  | cons r l ih=>
    have e : atB (r::l) x = (if covB x r = true then [Zl r] else []) ++ atB l x:=rfl;rw [e,h r qe,ih fun k a=>h k (by simp [a])];rfl
theorem qg4 {p q : List qk} {r : qk} (h : r∈p∨r∈q) : r.Lo.Z∈zsOf p ++ zsOf q∧r.Hi.Z∈zsOf p ++ zsOf q:=by
  unfold zsOf;simp only [List.mem_append,List.mem_flatMap];rcases h with h | h
  · exact ⟨.inl ⟨r,h,qe⟩,.inl ⟨r,h,qe⟩⟩
  · exact ⟨.inr ⟨r,h,qe⟩,.inr ⟨r,h,qe⟩⟩
theorem qdn (kind : Int) : mrgR kind [] [] = []:=by
  refine qcr (q64 kind qe) .nil fun x y=>?_;rw [q99 kind qe];have:=q2w x y;unfold Ky;simp [this]
theorem qlm (kind : Int) {p q : List qk} (h : p.length + q.length≤100000) :
    ∃ f,mrgB kind p q = K3 putB f∧CanG f∧∀ z,secG f z = secB kind p q z:=by
  have t:=Zx p;have u:=Zx q;have hs:=(Zq (l:=zsOf p ++ zsOf q) (by simp;omega)).2.1;obtain ⟨f,m,k,n⟩:=qlk putB (secB kind p q) hs.1;refine ⟨f,m,k,fun x=>?_⟩;rw [n]
  have g : ∀ r,(r∈p∨r∈q)→r.Lo.Z∈Qt (zsOf p ++ zsOf q)∧r.Hi.Z∈Qt (zsOf p ++ zsOf q):=fun r b=>
    ⟨(hs.2 _).2 (qg4 b).1,(hs.2 _).2 (qg4 b).2⟩
  refine qe3 _ hs.1 (fun a _ o c=>?_) (fun c=>?_) (fun c=>?_)
  · have d : ∀ r,(r∈p∨r∈q)→covB a r = covB x r:=fun r b=>by
      have j:=c _ (g r b).1;have s:=c _ (g r b).2;rw [Bool.eq_iff_iff,q1j,q1j];omega
    unfold secB;rw [qex fun r b=>d r (.inl b),qex fun r b=>d r (.inr b)]
  · have d : ∀ r,(r∈p∨r∈q)→covB x r = false:=fun r b=>by
      have j:=c _ (g r b).1;rw [← Bool.not_eq_true,q1j];omega
    unfold secB;rw [qco fun r b=>d r (.inl b),qco fun r b=>d r (.inr b),qdn]
  · have d : ∀ r,(r∈p∨r∈q)→covB x r = false:=fun r b=>by
      have j:=c _ (g r b).2;rw [← Bool.not_eq_true,q1j];omega
    unfold secB;rw [qco fun r b=>d r (.inl b),qco fun r b=>d r (.inr b),qdn]
def CanB (l : List qk) : Prop:=∃ gs : List (Grp qd),l = K3 putB gs∧CanG gs∧∀ g∈gs,CanR g.sec
theorem CanB.nil : CanB []:=⟨[],rfl,⟨qe,qe⟩,qe⟩
theorem CanB.at {l : List qk} (h : CanB l) (z : Int) : CanR (atB l z):=by
  obtain ⟨b,rfl,c,a⟩:=h;rw [q3s c];rcases qaf (x:=z) b with e | ⟨g,d,_,_,e⟩
  · rw [e];exact .nil
  · rw [e];exact a g d
theorem qik {a b : List qk} (c : CanB a) (hb : CanB b) (h : ∀ x y z,hasB a x y z↔hasB b x y z) : a = b:=by
  have g : ∀ z,atB a z = atB b z:=fun z=>qcr (c.at z) (hb.at z) fun x y=>by rw [Jn,Jn];exact h x y z
  obtain ⟨j,rfl,f,_⟩:=c;obtain ⟨k,rfl,d,_⟩:=hb;rw [qf2 f d fun x=>by rw [← q3s f,← q3s d];exact g x]
theorem qig {p q : List qk} (h : p.length + q.length≤100000) (z : Int) : (atB p z).length + (atB q z).length≤100000:=by
  have:=Je p z;have:=Je q z;omega
theorem qga (kind : Int) {p q : List qk} (h : p.length + q.length≤100000) : CanB (mrgB kind p q):=by
  obtain ⟨f,c,a,d⟩:=qlm kind h;refine ⟨f,c,a,fun g b=>?_⟩;have:=d g.lo;rw [q79 a g b _ (Int.le_refl _) (a.1 g b).1] at this;rw [this];exact q64 kind (qig h _)
theorem qid (kind : Int) {p q : List qk} (h : p.length + q.length≤100000) (z : Int) : atB (mrgB kind p q) z = secB kind p q z:=by
  obtain ⟨d,a,c,b⟩:=qlm kind h;rw [a,q3s c,b]
theorem qkg (kind : Int) {p q : List qk} (h : p.length + q.length≤100000) (x y z : Int) : hasB (mrgB kind p q) x y z↔Ky kind (hasB p x y z) (hasB q x y z):=by
  rw [← Jn,qid kind h,secB,q99 kind (qig h z),Jn,Jn]
theorem qkf {l : List qk} (h : l.length≤100000) (x y z : Int) : hasB (mrgB 2 l []) x y z↔hasB l x y z:=by
  rw [qkg 2 (by simpa using h),qd9];simp [qfq]
theorem qtr {l : List qk} (a : l.length≤100000) (h : CanB l) : mrgB 2 l [] = l:=
  qik (qga 2 (by simpa using a)) h fun x y z=>qkf a x y z
theorem CanB.lt {l : List qk} (h : CanB l) : ∀ b∈l,b.Lo.X < b.Hi.X∧b.Lo.Y < b.Hi.Y∧b.Lo.Z < b.Hi.Z:=by
  obtain ⟨k,rfl,f,c⟩:=h;intro r d;obtain ⟨g,a,t,j,rfl⟩:=qdm.1 d;have:=(c g a).lt t j;exact ⟨this.1,this.2,(f.1 g a).1⟩
def vB (b : qk) : Prop:=(b.Lo.X < b.Hi.X∧b.Lo.Y < b.Hi.Y∧b.Lo.Z < b.Hi.Z)∧(-1000000≤b.Lo.X∧-1000000≤b.Lo.Y∧-1000000≤b.Lo.Z)∧b.Hi.X≤1000000∧b.Hi.Y≤1000000∧b.Hi.Z≤1000000
instance (b : qk) : Decidable (vB b):=by unfold vB;infer_instance
def InB (l : List qk) : Prop:=∀ x y z,hasB l x y z→(-1000000≤x∧x < 1000000)∧(-1000000≤y∧y < 1000000)∧(-1000000≤z∧z < 1000000)
theorem CanB.vB {l : List qk} (h : CanB l) (hi : InB l) : ∀ r∈l,vB r:=by
  intro r a;have c:=h.lt r a;have b:=hi r.Lo.X r.Lo.Y r.Lo.Z ⟨r,a,q6⟩;have d:=hi (r.Hi.X - 1) (r.Hi.Y - 1) (r.Hi.Z - 1) ⟨r,a,q6⟩;unfold Go.Sh.vB;omega
theorem InB.mrg {kind : Int} {p q : List qk} (h : p.length + q.length≤100000) (hp : InB p) (b : InB q) : InB (mrgB kind p q):=fun x y z c=>by
  rcases qdb ((qkg kind h x y z).1 c) with a | a
  · exact hp x y z a
  · exact b x y z a
theorem InB.nil : InB []:=fun x y z h=>absurd h (qfq x y z)
theorem qov {l : List qk} (h : ∀ b∈l,vB b) (z : Int) : ∀ r∈atB l z,vR r:=by
  intro r a;obtain ⟨b,hb,_,rfl⟩:=q9e.1 a;have:=h b hb;unfold vB at this;unfold vR Zl;simp only;omega
theorem InB.at {l : List qk} (h : InB l) (z : Int) : InR (atB l z):=fun x y a=>by
  have:=h x y z (Jn.1 a);exact ⟨this.1,this.2.1⟩
noncomputable def Yb (l : List qk) : Int:=if 400 < l.length then 4 else if ∀ b∈l,vB b then (if mrgB 2 l [] = l then 0 else 8) else 8
theorem q2a {l : List qk} : Yb l = 0↔l.length≤400∧(∀ b∈l,vB b)∧CanB l:=by
  unfold Yb;constructor
  · intro h;split at h
    · exact absurd h Q1
    · rename_i d;split at h
      · rename_i c;split at h
        · rename_i a;exact ⟨q6,c,a ▸ qga 2 (by simp;omega)⟩
        · exact absurd h Q1
      · exact absurd h Q1
  · rintro ⟨d,c,a⟩;rw [Q3 q6,qy c,qy (qtr q6 a)]
theorem qnm (kind : Int) {p q : List qk} (h : p.length + q.length≤100000) (z : Int) : (secB kind p q z).length≤(mrgB kind p q).length:=by
  rw [← qid kind h];exact Je _ _
noncomputable def mkB (l : List qk) : List qk × Int:=if 400 < l.length then ([],4) else if ∀ b∈l,vB b then (if 400 < (mrgB 2 l []).length then ([],4) else (mrgB 2 l [],0)) else ([],8)
noncomputable def mkR (l : List qd) : List qd × Int:=if 400 < l.length then ([],4) else if ∀ b∈l,vR b then (if 400 < (mrgR 2 l []).length then ([],4) else (mrgR 2 l [],0)) else ([],8)
end Go.Sh
namespace Go.Sh
open Go Go.Am
theorem qg0 {α β : Type} {f : α→Option (α ⊕ β)} (st : Nat→α) (n : Nat) (ok : Nat→Prop) (b e : β)
    (step : ∀ k,k < n→(∀ j,j≤k→ok j)→f (st k) = some (.inl (st (k + 1))))
    (bad : ∀ k,k < n→(∀ j,j < k→ok j)→¬ ok k→f (st k) = some (.inr e))
    (done : (∀ j,j < n→ok j)→f (st n) = some (.inr b)) :
    ((∀ j,j < n→ok j)∧loop f (st 0) = some b)∨(∃ j,j < n∧¬ ok j∧loop f (st 0) = some e):=by
  by_cases h : ∀ j,j < n→ok j
  · exact .inl ⟨h,Yr st n b (fun k c=>step k c fun j d=>h j q6) (done h) (Nat.zero_le _)⟩
  · refine .inr ?_
    have g : ∃ k,(k < n∧¬ ok k)∧∀ j,j < k→ok j:=by
      have : ∃ k,k < n∧¬ ok k:=by
        refine Classical.byContradiction fun o=>h fun k c=>?_;exact Classical.byContradiction fun h=>o ⟨k,c,h⟩
      obtain ⟨k,c⟩:=this
      induction k using Nat.strongRecOn with
      | _ k ih=>
        by_cases d : ∃ j,j < k∧(j < n∧¬ ok j)
        · obtain ⟨j,l,g⟩:=d;exact ih j l g
        · exact ⟨k,c,fun j l=>Classical.byContradiction fun h=>d ⟨j,l,q6,h⟩⟩
    obtain ⟨K,⟨m,hb⟩,a⟩:=g;exact ⟨K,m,hb,Yr st K e (fun k c=>step k q6 fun j d=>a j q6) (bad K m a hb) (Nat.zero_le _)⟩
theorem qo7 (xs : List Int) (h : xs.length≤1000000) :
    ((Uj xs).bind fun c=>(K1 c.length xs.length).bind fun _=>(q24 c).bind fun b=>(K1 b.2.length c.length).bind fun _=>(Un b.2.length b.1).bind fun _=>some ((b.2.drop b.1.1).take b.1.2)) = some (Qt xs):=by
  obtain ⟨ys,k,g,m⟩:=qo5 xs h;have f : ys.length = xs.length:=g.length_eq;obtain ⟨w,a,c1,c2,c3,c4⟩:=qj1 m q6;obtain ⟨_,j,_⟩:=Zq h
  have d : a.take w = Qt xs:=by
    refine qo6 (l:=xs) ⟨c4.1,fun x=>?_⟩ j;rw [c4.2 x];exact g.mem_iff
  simp only [qj,k,K1,f,if_true,c1,c2,Un];rw [qy q6];simp only [qj,List.drop_zero,d]
theorem qya (l : List qd) (f : l.length≤1000000) : qah l (fun a=>q3c a) = some (decide (¬ ∀ r∈l,vR r)):=by
  have hs : ∀ (k : Nat) (h : k < l.length),q1c l (fun a=>q3c a) (k : Int) = some (if (fun r=>!decide (vR r)) l[k] = true then .inr (.inr (k : Int)) else .inl ((k + 1 : Nat) : Int)):=by
    intro k h;simp only [q1c,dlt h,qz,Qq h,qj,w64s h f,q3c,qho];by_cases d : vR l[k] <;> simp [d]
  have hd : q1c l (fun a=>q3c a) (l.length : Int) = some (.inr (.inl ())):=by simp only [q1c,dnl,qx]
  unfold qah q4x;rcases q1l l (fun r=>!decide (vR r)) (fun k _=>(k : Int)) () _ hs hd with ⟨j,b⟩ | ⟨k,c,m,_,b⟩
  · rw [b];have : ∀ r∈l,vR r:=fun r g=>by simpa using j r g
    simp [];omega
  · rw [b];have : ¬ ∀ r∈l,vR r:=fun h=>by simp [h _ (Kc c)] at m
    simp only [qj];rw [Qc this,Qc q6]
theorem qn6 (l : List qd) : q4u l = some (mkR l):=by
  unfold q4u mkR;by_cases b : 400 < l.length
  · rw [Qc (by omega : (l.length : Int) > 400),qz,qy b]
  rw [Qe (by omega : ¬ (l.length : Int) > 400),qx,Q3 b,qya l q6,qj];by_cases a : ∀ r∈l,vR r
  · rw [Qe (fun h=>h a),qx,qld l q6 a,qy a];rfl
  · rw [Qc a,qz,Q3 a]
end Go.Sh
namespace Go.Sh
open Go Go.Am
theorem qj7 {l : List qd} (h : ∀ r∈l,vlo (ysp r)) (x : Int) : ∀ t∈covS l x,vlo t:=by
  intro t b;obtain ⟨r,a,_,rfl⟩:=q9f.1 b;exact h r a
theorem qjo (l : List qd) (x c : Int) : evo (covS l x) c = l.flatMap fun r=>if covR x r = true then [({at_:=r.Y0,kind_:=c,by_:=1} : qq),{at_:=r.Y1,kind_:=c,by_:=-1}] else []:=by
  induction l with
  | nil=>rfl
  | cons r l ih=>
    have e : covS (r::l) x = (if covR x r = true then [ysp r] else []) ++ covS l x:=rfl;have d : ∀ a b : List qp,evo (a ++ b) c = evo a c ++ evo b c:=fun a b=>by unfold evo;rw [List.flatMap_append]
    rw [e,d,ih,List.flatMap_cons];congr 1;split <;> rfl
theorem qil {l : List qd} (n : l.length≤1000) {b : List Int} {a : Int × Int × Int × List qp × Int × List qd} {x : Int} (j : idx b (w64 (a.1 - 1)) = some x) (c : Int) (base : List qq) (hb : base.length≤10000) :
    loop (q48 l b a (c,base)) (0,base) = some (base ++ evo (covS l x) c):=by
  rw [qjo];refine Yu l q6 (fun r=>if covR x r = true then [({at_:=r.Y0,kind_:=c,by_:=1} : qq),{at_:=r.Y1,kind_:=c,by_:=-1}] else []) base (fun o=>o) (q48 l b a (c,base)) (fun k g o h=>?_) (fun o=>by simp only [q48,dnl,qx])
  have m : o.length≤base.length + 2 * k:=by
    rw [h,List.length_append];have d:=qd5 (covS (l.take k) x) c;rw [qjo] at d;have f:=J0 (l.take k) x;rw [List.length_take,Nat.min_eq_left q6] at f;omega
  simp only [q48,dlt g,qz,Qq g,qj,w64s g q6,j];by_cases d : l[k].X0≤x
  · by_cases f : x < l[k].X1
    · simp only [d,f,decide_true,qz,qj,covR,Bool.and_self,if_true];rw [Ke (by simp;omega)];rfl
    · simp only [d,f,decide_true,decide_false,qz,qx,qj,covR,Bool.and_false,if_false,Bool.false_eq_true,List.append_nil]
  · simp only [d,decide_false,qx,qj,covR,Bool.false_and,if_false,Bool.false_eq_true,List.append_nil]
theorem qq1 {p q : List qd} (h : p.length + q.length≤490) {b : List Int} {a : Int × Int × Int × List qp × Int × List qd} {x : Int} (c : idx b (w64 (a.1 - 1)) = some x) :
    loop (q20 p q b a) (0,[]) = some (evo (covS p x) 0 ++ evo (covS q x) 1):=by
  have k:=qd5 (covS p x) 0;have m:=J0 p x;have j : idxA 2 [p,q] 0 = some p:=rfl;have d : idxA 2 [p,q] 1 = some q:=rfl
  have s0 : q20 p q b a (0,[]) = some (.inl (1,evo (covS p x) 0)):=by
    have t : decide ((0 : Int) < 2) = true:=rfl;simp only [q20,t,qz,j,qj,qil (l:=p) q6 c 0 [] qe,List.nil_append];rfl
  have g : q20 p q b a (1,evo (covS p x) 0) = some (.inl (2,evo (covS p x) 0 ++ evo (covS q x) 1)):=by
    have t : decide ((1 : Int) < 2) = true:=rfl;simp only [q20,t,qz,d,qj,qil (l:=q) q6 c 1 (evo (covS p x) 0) q6];rfl
  have f : q20 p q b a (2,evo (covS p x) 0 ++ evo (covS q x) 1) = some (.inr (evo (covS p x) 0 ++ evo (covS q x) 1)):=by
    have t : decide ((2 : Int) < 2) = false:=rfl;simp only [q20,t,qx]
  rw [Kz s0,Kz g,Kk f]
theorem qq2 {p q : List qd} (h : p.length + q.length≤490) (b : ∀ r∈p,vlo (ysp r)) (c : ∀ r∈q,vlo (ysp r)) (x : Int) :
    ∃ ys,q65 (evo (covS p x) 0 ++ evo (covS q x) 1) = some (ys,secJ 3 p q x):=by
  have g:=J0 p x;have f:=J0 q x;obtain ⟨ys,out,e,d,hp,_⟩:=qwe (p:=covS p x) (q:=covS q x) q6 q6 (qj7 b x) (qj7 c x);refine ⟨ys,?_⟩;rw [e];have a:=qe5 3 (p:=p) (q:=q) q6 x;rw [q29 d a.can fun y=>by rw [hp,a.pts,qkq]]
theorem qpz {p q : List qd} (h : p.length + q.length≤490) :
    ((loop (q1z p q) (0,[])).bind fun c=>(Uj c).bind fun b=>(K1 b.length c.length).bind fun m=>(q24 b).bind fun a=>(K1 a.2.length b.length).bind fun n=>(Un a.2.length a.1).bind fun g=>some ((a.2.drop a.1.1).take a.1.2)) = some (Qt (xsOf p ++ xsOf q)):=by
  have j : ∀ (l : List qd) (o : List Int),l.length≤490→o.length≤10000→loop (q46 l) (0,o) = some (o ++ xsOf l):=fun l o hl y=>
    Yu l q6 (fun r=>[r.X0,r.X1]) o (fun o=>o) (q46 l) (fun k d x f=>by
      have z : x.length = o.length + 2 * k:=by
        rw [f,List.length_append];have:=Ze (l.take k);rw [List.length_take,Nat.min_eq_left q6] at this;unfold xsOf at this;omega
      simp only [q46,dlt d,qz,Qq d,qj,w64s d q6];rw [Ke (by simp;omega)]
      rfl) (fun o=>by simp only [q46,dnl,qx])
  have l1:=Ze p;have l2:=Ze q;have u : idxA 2 [p,q] 0 = some p:=rfl;have v : idxA 2 [p,q] 1 = some q:=rfl
  have s0 : q1z p q (0,[]) = some (.inl (1,xsOf p)):=by
    have t : decide ((0 : Int) < 2) = true:=rfl;simp only [q1z,t,qz,u,qj,j p [] q6 qe,List.nil_append];rfl
  have w : q1z p q (1,xsOf p) = some (.inl (2,xsOf p ++ xsOf q)):=by
    have t : decide ((1 : Int) < 2) = true:=rfl;simp only [q1z,t,qz,v,qj,j q (xsOf p) q6 q6];rfl
  have s : q1z p q (2,xsOf p ++ xsOf q) = some (.inr (xsOf p ++ xsOf q)):=by
    have t : decide ((2 : Int) < 2) = false:=rfl;simp only [q1z,t,qx]
  rw [Kz s0,Kz w,Kk s];exact qo7 _ (by simp;omega)
theorem qpp (s : Mg qp qd) (i a b : Int) (ys : List qq) (c : List qp) (hl : (s.flat putR).length + c.length≤1000000) :
    ((cond (s.hi == a) (some (decide ((c.length : Int) > 0))) (some false)).bind fun m=>(cond m ((q3j s.sec c).bind fun l=>some l) (some false)).bind fun f=>cond f ((loop (q49 b) ((s.done.length : Int),s.flat putR)).bind fun g=>some (s.lo,s.sec,(s.done.length : Int),g)) ((loop (q4a (ys,c) a b (i,s.lo,s.hi,s.sec,(s.done.length : Int),s.flat putR)) (0,s.flat putR)).bind fun y=>some y)) =
      some ((addM putR s a b c).lo,(addM putR s a b c).sec,((addM putR s a b c).done.length : Int),(addM putR s a b c).flat putR):=by
  have d : s.sec.length≤1000000:=by have : (s.flat putR).length = s.done.length + s.sec.length:=(by simp [Mg.flat]);omega
  rcases Jc putR s a b c with ⟨w,x,h3,t⟩ | ⟨w,t⟩
  · have hb : decide ((c.length : Int) > 0) = true:=Qc (by have:=List.length_pos_iff.2 w;omega);have he : (s.hi == a) = true:=by simpa using h3
    rw [x] at hb;rw [t,x];simp only [hb,qz,he,qj,qd4 _ _ d,decide_true]
    have:=q3z (fun v : qd=>({X0:=v.X0,Y0:=v.Y0,X1:=b,Y1:=v.Y1} : qd)) s.done (s.sec.map (putR s.lo s.hi)) (by have : (s.done ++ s.sec.map (putR s.lo s.hi)).length = (s.flat putR).length:=rfl;omega) (q49 b) (fun k o j z=>by
      have q : (s.done ++ s.sec.map (putR s.lo s.hi)).length = (s.flat putR).length:=rfl
      simp only [q49,dlt j,qz,Qq j,qj,w64s j q6,Int.toNat_natCast]) (fun o=>by simp only [q49,dnl,qx])
    rw [show s.flat putR = s.done ++ s.sec.map (putR s.lo s.hi) from rfl,this];simp only [qj,Mg.flat,List.map_map];rfl
  · rw [t]
    have hc : ((cond (s.hi == a) (some (decide ((c.length : Int) > 0))) (some false)).bind fun p=>(cond p ((q3j s.sec c).bind fun n=>some n) (some false))) = some false:=by
      by_cases q : c = []
      · subst q;cases (s.hi == a) <;> rfl
      · have hb : decide ((c.length : Int) > 0) = true:=Qc (by have:=List.length_pos_iff.2 q;omega);simp only [hb,qj,qd4 _ _ d];by_cases r : s.hi = a
        · have h7 : s.sec≠c:=fun h=>w ⟨q,h.symm,r⟩;simp [r,h7]
        · have : (s.hi == a) = false:=by simpa using r
          simp [this]
    have u:=Zu c (putR a b) (s.flat putR) (fun o=>(a,c,((s.flat putR).length : Int),o)) (q4a (ys,c) a b (i,s.lo,s.hi,s.sec,(s.done.length : Int),s.flat putR)) (fun k j o z=>by
      simp only [q4a,dlt j,qz,Qq j,qj,w64s j q6];rw [Ke (by simp;omega)]
      rfl) (fun o=>by simp only [q4a,dnl,qx])
    rw [← Option.bind_assoc,hc];simp only [qj,qx,u];simp [Mg.flat]
theorem qq0 {p q : List qd} (h : p.length + q.length≤490) (z : ∀ r∈p,vlo (ysp r)) (y : ∀ r∈q,vlo (ysp r)) :
    q9j p q = some (if 400 < (mrgR 3 p q).length then ([],4) else (mrgR 3 p q,0)):=by
  unfold q9j;rw [qpz h];simp only [qj];obtain ⟨_,aa,j⟩:=q8y h;have d:=fun i=>qdo 3 h i
  have c : loop (q47 (Qt (xsOf p ++ xsOf q)) p q) (1,0,0,[],0,[]) = some (mrgR 3 p q):=by
    unfold mrgR mrg;generalize x : Qt (xsOf p ++ xsOf q) = cuts at d j ⊢;generalize g : K5 cuts (secJ 3 p q) = steps at d ⊢;have w : steps.length = cuts.length - 1:=by rw [← g];exact J8 _ _
    have l : Qy putR Qu (steps.take steps.length) = Qy putR Qu steps:=by rw [List.take_length]
    have key:=Yr (f:=q47 cuts p q) (fun k=>(((k + 1 : Nat) : Int),(Qy putR Qu (steps.take k)).lo,(Qy putR Qu (steps.take k)).hi,(Qy putR Qu (steps.take k)).sec,((Qy putR Qu (steps.take k)).done.length : Int),(Qy putR Qu (steps.take k)).flat putR))
      steps.length ((Qy putR Qu steps).flat putR) (fun k n=>by
        have b : k + 1 < cuts.length:=by omega
        have v : steps[k] = (cuts[k],cuts[k + 1],secJ 3 p q cuts[k]):=by
          subst g;exact Zd n b
        have t : idx cuts (w64 (((k + 1 : Nat) : Int) - 1)) = some cuts[k]:=by rw [Ql q6];exact U9 q6 q6
        have u:=qe4 3 (p:=p) (q:=q) q6 cuts[k];have s:=d k;obtain ⟨ys,m⟩:=qq2 h z y cuts[k];have hb:=qpp (Qy putR Qu (steps.take k)) ((k + 1 : Nat) : Int) cuts[k] cuts[k + 1] ys (secJ 3 p q cuts[k]) q6;rw [Uq putR n,v,q8m];unfold q47;simp only [dlt b,qz,qq1 h (a:=(((k + 1 : Nat) : Int),(Qy putR Qu (steps.take k)).lo,(Qy putR Qu (steps.take k)).hi,(Qy putR Qu (steps.take k)).sec,((Qy putR Qu (steps.take k)).done.length : Int),(Qy putR Qu (steps.take k)).flat putR)) t,qj,t,Qq b,m,hb]
        rw [w64s b q6]) (by
        rw [l];have : decide (((steps.length + 1 : Nat) : Int) < (cuts.length : Int)) = false:=Qe q6
        simp only [q47,this,qx]) (Nat.zero_le _)
    exact key
  rw [c];simp only [qj];by_cases o : 400 < (mrgR 3 p q).length
  · rw [Qc (by omega : ((mrgR 3 p q).length : Int) > 400),qy o];rfl
  · rw [Qe (by omega : ¬ ((mrgR 3 p q).length : Int) > 400),Q3 o];rfl
end Go.Sh
namespace Go.Sh
open Go Go.Am
theorem q13e (v : K7) : q8h v = some (decide ((-1000000≤v.X∧-1000000≤v.Y∧-1000000≤v.Z)∧v.X≤1000000∧v.Y≤1000000∧v.Z≤1000000)):=by
  unfold q8h;by_cases a : min (min v.X v.Y) v.Z ≥ -1000000
  · by_cases b : max (max v.X v.Y) v.Z≤1000000
    · rw [Qc a,Qc b,qz,qj];congr 1;exact (Qc q6).symm
    · rw [Qc a,Qe b,qz,qj];congr 1;exact (Qe q6).symm
  · rw [Qe a,qx,qj];congr 1;exact (Qe q6).symm
theorem q13f (b : qk) : qc5 b = some (decide (vB b)):=by
  unfold qc5 vB;simp only [q13e,qj];by_cases a : b.Lo.X < b.Hi.X
  · by_cases c : b.Lo.Y < b.Hi.Y
    · by_cases d : b.Lo.Z < b.Hi.Z
      · simp only [a,c,d,decide_true,qz,qj,true_and];by_cases f : (-1000000≤b.Lo.X∧-1000000≤b.Lo.Y∧-1000000≤b.Lo.Z)∧b.Lo.X≤1000000∧b.Lo.Y≤1000000∧b.Lo.Z≤1000000
        · rw [Qc f];simp only [qz,qj];congr 1;exact decide_eq_decide.2 q6
        · rw [Qe f];simp only [qx,qj];congr 1;exact (Qe q6).symm
      · simp [a,c,d]
    · simp [a,c]
  · simp [a]
theorem qxa (v : K7) (n : Int) : q6m v n = some (decide ((n≤v.X∧n≤v.Y∧n≤v.Z)∧v.X≤1000000∧v.Y≤1000000∧v.Z≤1000000)):=by
  unfold q6m
  by_cases d : v.X ≥ n <;> by_cases b : v.Y ≥ n <;> by_cases g : v.Z ≥ n <;> by_cases c : v.X≤1000000 <;> by_cases f : v.Y≤1000000 <;> by_cases a : v.Z≤1000000 <;>
    simp [d,b,g,c,f,a] <;> omega
theorem qxm (b : qk) : qa1 b = some (decide (vB b)):=by
  unfold qa1 vB;simp only [qxa,qj];by_cases a : (-1000000≤b.Lo.X∧-1000000≤b.Lo.Y∧-1000000≤b.Lo.Z)∧b.Lo.X≤1000000∧b.Lo.Y≤1000000∧b.Lo.Z≤1000000
  · rw [Qc a];simp only [qz,qj];by_cases c : (-1000000≤b.Hi.X∧-1000000≤b.Hi.Y∧-1000000≤b.Hi.Z)∧b.Hi.X≤1000000∧b.Hi.Y≤1000000∧b.Hi.Z≤1000000
    · rw [Qc c];by_cases f : b.Lo.X < b.Hi.X <;> by_cases d : b.Lo.Y < b.Hi.Y <;> by_cases g : b.Lo.Z < b.Hi.Z <;> simp [f,d,g] <;> omega
    · rw [Qe c];simp only [qx,qj];congr 1;exact (Qe q6).symm
  · rw [Qe a];simp only [qx,qj];congr 1;exact (Qe q6).symm
theorem q13d (l : List qk) (f : l.length≤1000000) : qaj l (fun a=>q3n a) = some (decide (¬ ∀ r∈l,vB r)):=by
  have hs : ∀ (k : Nat) (h : k < l.length),q4z l (fun a=>q3n a) (k : Int) = some (if (fun r=>!decide (vB r)) l[k] = true then .inr (.inr (k : Int)) else .inl ((k + 1 : Nat) : Int)):=by
    intro k h;simp only [q4z,dlt h,qz,Qq h,qj,w64s h f,q3n,q13f];by_cases d : vB l[k] <;> simp [d]
  have hd : q4z l (fun a=>q3n a) (l.length : Int) = some (.inr (.inl ())):=by simp only [q4z,dnl,qx]
  unfold qaj qeb;rcases q1l l (fun r=>!decide (vB r)) (fun k _=>(k : Int)) () _ hs hd with ⟨j,b⟩ | ⟨k,c,m,_,b⟩
  · rw [b];have : ∀ r∈l,vB r:=fun r g=>by simpa using j r g
    simp [];omega
  · rw [b];have : ¬ ∀ r∈l,vB r:=fun h=>by simp [h _ (Kc c)] at m
    simp only [qj];rw [Qc this,Qc q6]
theorem q13b (s : Mg qd qk) (a b : Int) (c : List qd) (hl : (s.flat putB).length + c.length≤1000000) :
    qc4 (s.flat putB) s.sec (s.done.length : Int) s.hi a b c = some ((addM putB s a b c).sec,((addM putB s a b c).done.length : Int),(addM putB s a b c).hi,(addM putB s a b c).flat putB):=by
  have w : (s.flat putB).length = s.done.length + s.sec.length:=by simp [Mg.flat]
  have d : s.sec.length≤1000000:=by omega
  unfold qc4;rcases Jc putB s a b c with ⟨p,r,x,m⟩ | ⟨p,m⟩
  · have hb : decide ((c.length : Int) > 0) = true:=Qc (by have:=List.length_pos_iff.2 p;omega);have y : (s.hi == a) = true:=by simpa using x
    rw [r] at hb;rw [m,r];simp only [hb,qz,y,qj,q95 _ _ d,decide_true]
    have:=q3z (fun v : qk=>({Lo:=v.Lo,Hi:=({X:=v.Hi.X,Y:=v.Hi.Y,Z:=b} : K7)} : qk)) s.done (s.sec.map (putB s.lo s.hi)) (by simp;omega) (q8f b) (fun k o f u=>by
      have l : (s.done ++ s.sec.map (putB s.lo s.hi)).length = (s.flat putB).length:=rfl
      simp only [q8f,dlt f,qz,Qq f,qj,w64s f q6,Int.toNat_natCast]) (fun o=>by simp only [q8f,dnl,qx])
    rw [show s.flat putB = s.done ++ s.sec.map (putB s.lo s.hi) from rfl,this];simp only [qj,Mg.flat,List.map_map];rfl
  · rw [m]
    have z : ((cond (decide ((c.length : Int) > 0)) (some (s.hi == a)) (some false)).bind fun g=>(cond g ((q3i s.sec c).bind fun j=>some j) (some false))) = some false:=by
      by_cases l : c = []
      · subst l;simp
      · have hb : decide ((c.length : Int) > 0) = true:=Qc (by have:=List.length_pos_iff.2 l;omega);simp only [hb,qz,qj,q95 _ _ d];by_cases q : s.hi = a
        · have t : s.sec≠c:=fun h=>p ⟨l,h.symm,q⟩;simp [q,t]
        · have : (s.hi == a) = false:=by simpa using q
          simp [this]
    have n:=Zu c (putB a b) (s.flat putB) (fun o=>(c,((s.flat putB).length : Int),b,o)) (q8g c a b (s.flat putB)) (fun k f o u=>by
      simp only [q8g,dlt f,qz,Qq f,qj,w64s f q6];rw [Ke (by simp;omega)]
      rfl) (fun o=>by simp only [q8g,dnl,qx])
    rw [← Option.bind_assoc,z];simp only [qj,qx,n];simp [Mg.flat]
theorem q14t (l : List qk) (o : List Int) (g : l.length≤400) (d : o.length≤10000) : loop (q5b l) (0,o) = some (o ++ zsOf l):=
  Yu l q6 (fun r=>[r.Lo.Z,r.Hi.Z]) o (fun o=>o) (q5b l) (fun k a c b=>by
    have f : c.length = o.length + 2 * k:=by
      rw [b,List.length_append];have:=Zx (l.take k);rw [List.length_take,Nat.min_eq_left q6] at this;unfold zsOf at this;omega
    simp only [q5b,dlt a,qz,Qq a,qj,w64s a q6]
    rw [Ke (by simp;omega)]
    rfl) (fun o=>by simp only [q5b,dnl,qx])
theorem qif (l : List qk) (g : l.length≤400) (x : Int) : loop (q5d l x) (0,[]) = some (atB l x):=by
  have:=Yu l q6 (fun r=>if covB x r = true then [Zl r] else []) [] (fun o=>o) (q5d l x) (fun k a o d=>by
    have f : o.length≤k:=by rw [d,List.nil_append];have:=Je (l.take k) x;rw [List.length_take,Nat.min_eq_left q6] at this;exact this
    simp only [q5d,dlt a,qz,Qq a,qj,w64s a q6];by_cases b : l[k].Lo.Z≤x
    · by_cases c : x < l[k].Hi.Z
      · simp only [b,c,decide_true,qz,qj,covB,Bool.and_self,if_true];rw [Ke (by simp;omega)];rfl
      · simp only [b,c,decide_true,decide_false,qz,qx,qj,covB,Bool.and_false,if_false,Bool.false_eq_true,List.append_nil]
    · simp only [b,decide_false,qx,qj,covB,Bool.false_and,if_false,Bool.false_eq_true,List.append_nil]) (fun o=>by simp only [q5d,dnl,qx])
  rw [List.nil_append] at this;exact this
theorem q102 {kind : Int} {p q : List qk} {xs : List Int} (ab : Qt (zsOf p ++ zsOf q) = xs) (h : p.length + q.length≤800) (F : Int × List qd × Int × Int × List qk→Option ((Int × List qd × Int × Int × List qk) ⊕ ((List qd × Int × Int × List qk) ⊕ (List qk × Int))))
    (af : ∀ (a b : Int) (k : Nat) (s : Mg qd qk),(s.flat putB).length + 400≤1000000→(h1 : k + 1 < xs.length)→a = xs[k]'(q6)→b = xs[k + 1]'h1→(secB kind p q a).length≤400→
      F (((k + 1 : Nat) : Int),s.sec,(s.done.length : Int),s.hi,s.flat putB) = some (.inl (((k + 1 + 1 : Nat) : Int),(addM putB s a b (secB kind p q a)).sec,((addM putB s a b (secB kind p q a)).done.length : Int),(addM putB s a b (secB kind p q a)).hi,(addM putB s a b (secB kind p q a)).flat putB)))
    (y : ∀ (a : Int) (k : Nat) (s : Mg qd qk),(h1 : k + 1 < xs.length)→a = xs[k]'(q6)→400 < (secB kind p q a).length→
      F (((k + 1 : Nat) : Int),s.sec,(s.done.length : Int),s.hi,s.flat putB) = some (.inr (.inr ([],4))))
    (w : ∀ (k : Nat) (s : Mg qd qk),xs.length≤k + 1→F (((k + 1 : Nat) : Int),s.sec,(s.done.length : Int),s.hi,s.flat putB) = some (.inr (.inl (s.sec,(s.done.length : Int),s.hi,s.flat putB)))) :
    (∃ a b c,loop F (1,[],0,0,[]) = some (.inl (a,b,c,mrgB kind p q)))∨(400 < (mrgB kind p q).length∧loop F (1,[],0,0,[]) = some (.inr ([],4))):=by
  have ao:=Zx p;have ai:=Zx q;obtain ⟨_,aa,d⟩:=Zq (l:=zsOf p ++ zsOf q) (by simp;omega);have d : (Qt (zsOf p ++ zsOf q)).length≤1600:=by simp at d;omega
  have m : ∀ x,(secB kind p q x).length≤(mrgB kind p q).length:=fun x=>qnm kind q6 x;have ag : mrgB kind p q = (Qy putB Qu (K5 (Qt (zsOf p ++ zsOf q)) (secB kind p q))).flat putB:=rfl;rw [ag] at m ⊢;rw [ab] at aa d m ⊢;generalize z : K5 xs (secB kind p q) = steps at m ⊢;have al : steps.length = xs.length - 1:=by rw [← z];exact J8 _ _
  have u : ∀ k (g : k < steps.length),steps[k] = (xs[k]'(q6),xs[k + 1]'(q6),secB kind p q (xs[k]'(q6))):=fun k g=>by subst z;exact Zd g q6
  have ae : ∀ k,k≤steps.length→(∀ j,j < k→∀ t,steps[j]? = some t→t.2.2.length≤400)→((Qy putB Qu (steps.take k)).flat putB).length≤1600 * 400:=fun k g n=>by
    have h1:=q98 putB (s0:=Qu) (M:=400) (steps:=steps.take k) (fun t o=>by
      obtain ⟨i,hi,rfl⟩:=List.getElem_of_mem o;rw [List.length_take] at hi;rw [List.getElem_take]
      exact n i q6 _ (List.getElem?_eq_getElem q6))
    have v : (steps.take k).length≤1600:=by rw [List.length_take];omega
    have h3 : (Qu.flat putB : List qk).length = 0:=rfl;have h4 : (steps.take k).length * 400≤1600 * 400:=Nat.mul_le_mul_right _ v;omega
  have main:=qg0 (f:=F) (fun k=>(((k + 1 : Nat) : Int),(Qy putB Qu (steps.take k)).sec,((Qy putB Qu (steps.take k)).done.length : Int),(Qy putB Qu (steps.take k)).hi,(Qy putB Qu (steps.take k)).flat putB))
    steps.length (fun j=>∀ t,steps[j]? = some t→t.2.2.length≤400) (.inl ((Qy putB Qu steps).sec,((Qy putB Qu steps).done.length : Int),(Qy putB Qu steps).hi,(Qy putB Qu steps).flat putB)) (.inr ([],4))
    (fun k g n=>by
      have r : k + 1 < xs.length:=by omega
      have hc:=n k (Nat.le_refl _) _ (List.getElem?_eq_getElem g);have hm:=ae k q6 fun j ak=>n j q6;rw [Uq putB g,u k g] at *;simp only at hc
      exact af _ _ k (Qy putB Qu (steps.take k)) q6 r rfl rfl hc)
    (fun k g n hb=>by
      have r : k + 1 < xs.length:=by omega
      have am : k < xs.length:=by omega
      refine y _ k (Qy putB Qu (steps.take k)) r rfl ?_;refine Nat.lt_of_not_le fun h=>hb fun t o=>?_;rw [List.getElem?_eq_getElem g,u k g] at o
      cases o;exact h)
    (fun _=>by
      rw [List.take_length]
      exact w steps.length _ q6)
  have ad : ((((0 + 1 : Nat) : Int),(Qy putB Qu (steps.take 0)).sec,((Qy putB Qu (steps.take 0)).done.length : Int),(Qy putB Qu (steps.take 0)).hi,(Qy putB Qu (steps.take 0)).flat putB) : Int × List qd × Int × Int × List qk) = (1,[],0,0,[]):=rfl;rw [ad] at main;rcases main with ⟨_,v⟩ | ⟨j,n,hb,v⟩
  · exact .inl ⟨_,_,_,v⟩
  · refine .inr ⟨?_,v⟩;have aj : j < xs.length:=by omega
    have h5 : 400 < (secB kind p q xs[j]).length:=by
      refine Nat.lt_of_not_le fun h=>hb fun t o=>?_;rw [List.getElem?_eq_getElem n,u j n] at o;cases o;exact h
    exact Nat.lt_of_lt_of_le h5 (m xs[j])
theorem qyp (l : List qk) (m : l.length≤400) (w : ∀ b∈l,vB b) : qc6 l = some (if 400 < (mrgB 2 l []).length then ([],4) else (mrgB 2 l [],0)):=by
  unfold qc6;have y:=Zx l;simp only [show idx [l] 0 = some l from rfl,qj,q14t l [] m qe,List.nil_append];rw [qo7 _ q6];simp only [qj];have t : zsOf l = zsOf l ++ zsOf []:=by simp [zsOf]
  obtain ⟨_,x,d⟩:=Zq (l:=zsOf l ++ zsOf []) (by rw [← t];omega);have d : (Qt (zsOf l ++ zsOf [])).length≤800:=by rw [← t] at d ⊢;omega
  have g : ∀ z,q4u (atB l z) = some (if 400 < (secB 2 l [] z).length then ([],4) else (secB 2 l [] z,0)):=fun z=>by
    have:=Je l z;rw [qn6,mkR,Q3 q6,qy (qov w z)];rfl
  rw [t]
  have:=q102 (kind:=2) (p:=l) (q:=[]) rfl (by simp;omega) (q5c (Qt (zsOf l ++ zsOf [])) l)
    (fun a b k s hs f r hb u=>by
      have h0 : k < (Qt (zsOf l ++ zsOf [])).length:=by omega
      have o : idx (Qt (zsOf l ++ zsOf [])) (w64 (((k + 1 : Nat) : Int) - 1)) = some a:=by rw [Ql q6,r];exact U9 q6 q6
      have v : idx (Qt (zsOf l ++ zsOf [])) ((k + 1 : Nat) : Int) = some b:=by rw [hb];exact Qq f
      have h:=g a;rw [Q3 q6] at h;simp only [q5c,dlt f,qz,o,v,qj,show idx [l] 0 = some l from rfl,qif l m,h,show ((0 : Int) != 0) = false from rfl,qx,q13b s a b (secB 2 l [] a) q6]
      rw [w64s f q6])
    (fun a k s f r u=>by
      have o : idx (Qt (zsOf l ++ zsOf [])) (w64 (((k + 1 : Nat) : Int) - 1)) = some a:=by rw [Ql q6,r];exact U9 q6 q6
      have h:=g a;rw [qy u] at h
      simp only [q5c,dlt f,qz,o,Qq f,qj,show idx [l] 0 = some l from rfl,qif l m,h,show ((4 : Int) != 0) = true from rfl])
    (fun k s f=>by
      have : decide (((k + 1 : Nat) : Int) < ((Qt (zsOf l ++ zsOf [])).length : Int)) = false:=Qe q6
      simp only [q5c,this,qx])
  rcases this with ⟨a,b,c,n⟩ | ⟨j,n⟩
  · rw [n];simp only [qj];by_cases j : 400 < (mrgB 2 l []).length
    · rw [Qc (by omega : ((mrgB 2 l []).length : Int) > 400),qy j];rfl
    · rw [Qe (by omega : ¬ ((mrgB 2 l []).length : Int) > 400),Q3 j];rfl
  · rw [n,qy j];rfl
theorem qrt (p q : List qk) (a : p.length≤1000000) : qe8 p q = some (decide (p = q)):=sameBox p q a
theorem qc3 (l : List qk) : q5a l = some (Yb l):=by
  unfold q5a Yb;by_cases d : 400 < l.length
  · rw [Qc (by omega : (l.length : Int) > 400),qz,qy d]
  rw [Qe (by omega : ¬ (l.length : Int) > 400),qx,Q3 d,q13d l q6,qj];by_cases a : ∀ r∈l,vB r
  · rw [Qe (fun h=>h a),qx,qyp l q6 a,qy a,qj];by_cases b : 400 < (mrgB 2 l []).length
    · have c : mrgB 2 l []≠l:=fun h=>by rw [h] at b;exact d b
      rw [qy b,Q3 c];rfl
    · rw [Q3 b];simp only [qrt (mrgB 2 l []) l q6];by_cases f : mrgB 2 l [] = l <;> simp [f]
  · rw [Qc a,qz,Q3 a]
end Go.Sh
namespace Go.Sh
open Go Go.Am
theorem qip {p : List qk} (h : Yb p = 0) (z : Int) : Z4 (atB p z) = 0:=by
  obtain ⟨c,b,a⟩:=q2a.1 h;have:=Je p z;exact q8t.2 ⟨q6,qov b z,a.at z⟩
def q5j (kind : Int) (p q : List qk) (z : Int) : Prop:=400 < (secB kind p q z).length∨400 < (secB 2 p [] z).length∨400 < (secB 2 q [] z).length
theorem qsz (kind : Int) {p q : List qk} (h : p.length + q.length≤800) (u : ∀ z,(atB p z).length + (atB q z).length≤490) {xs : List Int} (m : xs.length≤1000000) {i : Nat} (hi : i + 1 < xs.length) (hb : q5j kind p q (xs[i]'(q6))) (a : Int) (c : List qd) (o : List qk) :
    Ug xs p q kind (c,a,(i : Int),o) = some (.inr (.inr ([],false))):=by
  have b : i < xs.length:=by omega
  have g : w64 ((i : Int) + 1) = ((i + 1 : Nat) : Int):=w64s b m;have x:=Je p xs[i];have y:=Je q xs[i];have v:=u xs[i];have t : J6 p xs[i] = some (atB p xs[i]):=q9v p q6 _;have aq : J6 q xs[i] = some (atB q xs[i]):=q9v q q6 _;have r : Z8 kind (atB p xs[i]) (atB q xs[i]) = some (secB kind p q xs[i]):=q33 kind q6;have l : Z8 2 (atB p xs[i]) [] = some (secB 2 p [] xs[i]):=q33 2 (by simp;omega);have n : Z8 2 (atB q xs[i]) [] = some (secB 2 q [] xs[i]):=q33 2 (by simp;omega);unfold Ug;simp only [g,dlt hi,qz,Qq b,t,aq,r,l,n,qj];by_cases s : 400 < (secB kind p q xs[i]).length
  · have d : decide (((secB kind p q xs[i]).length : Int) > 400) = true:=Qc q6;simp only [d,qz,qj]
  have d : decide (((secB kind p q xs[i]).length : Int) > 400) = false:=Qe q6;by_cases k : 400 < (secB 2 p [] xs[i]).length
  · have f : decide (((secB 2 p [] xs[i]).length : Int) > 400) = true:=Qc q6;simp only [d,f,qz,qx,qj]
  have f : decide (((secB 2 p [] xs[i]).length : Int) > 400) = false:=Qe q6;have w : 400 < (secB 2 q [] xs[i]).length:=by rcases hb with h | h | h <;> first | exact absurd h s | exact absurd h k | exact h
  have j : decide (((secB 2 q [] xs[i]).length : Int) > 400) = true:=Qc q6;simp only [d,f,j,qz,qx,qj]
theorem qxj (kind : Int) {p q : List qk} (h : p.length + q.length≤800) (hz : ∀ z,(atB p z).length + (atB q z).length≤490) :
    q22 kind p q = some (mrgB kind p q,decide (((mrgB kind p q).length : Int)≤400))∨(q22 kind p q = some ([],false)∧∃ z,q5j kind p q z):=by
  unfold q22;rw [qgp q6];simp only [qj];have ak:=Zx p;have ac:=Zx q;obtain ⟨_,ae,o⟩:=Zq (l:=zsOf p ++ zsOf q) (by simp;omega);have y : (Qt (zsOf p ++ zsOf q)).length≤1600:=by simp at o;omega
  unfold mrgB;generalize Qt (zsOf p ++ zsOf q) = xs at y ⊢;generalize r : K5 xs (secB kind p q) = steps;have ah : steps.length = xs.length - 1:=by rw [← r];exact J8 _ _
  have a : ∀ k (b : k < steps.length),steps[k] = (xs[k]'(q6),xs[k + 1]'(q6),secB kind p q (xs[k]'(q6))):=fun k b=>by subst r;exact Zd b q6
  have w : ∀ k,k≤steps.length→(∀ j,j < k→∀ t,steps[j]? = some t→¬ q5j kind p q t.1)→((Qy putB Qu (steps.take k)).flat putB).length≤1600 * 400:=fun k b d=>by
    have h1:=q98 putB (s0:=Qu) (M:=400) (steps:=steps.take k) (fun t c=>by
      obtain ⟨i,hi,rfl⟩:=List.getElem_of_mem c;rw [List.length_take] at hi;rw [List.getElem_take];have:=d i q6 _ (List.getElem?_eq_getElem q6);rw [a i q6] at this ⊢
      exact Nat.le_of_not_lt fun h=>this (.inl h))
    have n : (steps.take k).length≤1600:=by rw [List.length_take];omega
    have h3 : (Qu.flat putB : List qk).length = 0:=rfl;have h4 : (steps.take k).length * 400≤1600 * 400:=Nat.mul_le_mul_right _ n;omega
  have main:=qg0 (f:=Ug xs p q kind) (fun k=>((Qy putB Qu (steps.take k)).sec,((Qy putB Qu (steps.take k)).done.length : Int),(k : Int),(Qy putB Qu (steps.take k)).flat putB))
    steps.length (fun j=>∀ t,steps[j]? = some t→¬ q5j kind p q t.1) (.inl ((Qy putB Qu steps).flat putB)) (.inr ([],false)) (fun k b d=>by
      have g : k + 1 < xs.length:=by omega
      have u:=d k (Nat.le_refl _) _ (List.getElem?_eq_getElem b);have hm:=w k q6 fun j ag=>d j q6;rw [a k b] at u
      have s : qcl kind p q xs[k]:=by
        refine ⟨hz _,?_,?_,?_⟩
        · exact Nat.le_of_not_lt fun h=>u (.inl h)
        · exact Nat.le_of_not_lt fun h=>u (.inr (.inl h))
        · exact Nat.le_of_not_lt fun h=>u (.inr (.inr h))
      have:=ql1 kind q6 (xs:=xs) q6 g s (Qy putB Qu (steps.take k)) q6 (fun h0=>by subst h0;rfl) (fun ab=>by
        obtain ⟨m,rfl⟩ : ∃ m,k = m + 1:=⟨k - 1,q6⟩
        rw [Uq putB q6,q8m,a m q6])
      rw [this,Uq putB b,a k b])
    (fun k b _ hb=>by
      have g : k + 1 < xs.length:=by omega
      have ai : k < xs.length:=by omega
      refine qsz kind h hz q6 g ?_ _ _ _;refine Classical.byContradiction fun x=>hb fun t c=>?_;rw [List.getElem?_eq_getElem b,a k b] at c
      cases c;exact x)
    (fun _=>by
      rw [List.take_length]
      have hb : decide (w64 ((steps.length : Int) + 1) < (xs.length : Int)) = false:=by
        rw [Ql q6];exact Qe q6
      unfold Ug
      simp only [hb,qx])
  have v : (((Qy putB Qu (steps.take 0)).sec,((Qy putB Qu (steps.take 0)).done.length : Int),((0 : Nat) : Int),(Qy putB Qu (steps.take 0)).flat putB) : List qd × Int × Int × List qk) = ([],0,0,[]):=rfl;rw [v] at main;rcases main with ⟨h1,n⟩ | ⟨j,d,hb,n⟩
  · exact .inl (by rw [n];rfl)
  · refine .inr ⟨by rw [n];rfl,?_⟩;have ad : j < xs.length:=by omega
    refine ⟨xs[j],?_⟩;refine Classical.byContradiction fun x=>hb fun t c=>?_;rw [List.getElem?_eq_getElem d,a j d] at c;cases c;exact x
theorem qpg {p q : List qk} (h : p.length + q.length≤490) (z : Int) : (atB p z).length + (atB q z).length≤490:=by
  have a:=Je p z;have b:=Je q z;omega
theorem qzv (kind : Int) (z : Int) : secB kind [] [] z = []:=qdn kind
theorem qxh (kind : Int) {p q : List qk} (h : p.length + q.length≤800) (b : ∀ z,(atB p z).length + (atB q z).length≤490) (hs : ∀ z,q5j kind p q z→400 < (mrgB kind p q).length) :
    ∃ o,q22 kind p q = some (o,decide ((mrgB kind p q).length≤400))∧((mrgB kind p q).length≤400→o = mrgB kind p q):=by
  rcases qxj kind h b with a | ⟨a,z,b⟩
  · refine ⟨_,?_,fun _=>rfl⟩;rw [a];have : decide (((mrgB kind p q).length : Int)≤400) = decide ((mrgB kind p q).length≤400):=decide_eq_decide.2 q6;rw [this]
  · have:=hs z b;refine ⟨[],?_,fun h=>absurd h q6⟩;rw [a,Qe q6]
theorem q100 {l : List qk} (h : l.length≤100000) : ∀ z,q5j 2 l [] z→400 < (mrgB 2 l []).length:=by
  intro z a;have b:=qnm 2 (p:=l) (q:=[]) (by simpa using h) z;rcases a with a | a | a
  · omega
  · omega
  · rw [qzv] at a;simp at a
theorem qxo (l : List qk) (_ : l.length≤1000000) {γ : Type} (f : Int→Option (Int ⊕ (Unit ⊕ γ))) (e : γ) (d : ∀ k (h : k < l.length),f (k : Int) = some (if (fun r=>!decide (vB r)) l[k] = true then .inr (.inr e) else .inl ((k + 1 : Nat) : Int))) (hd : f (l.length : Int) = some (.inr (.inl ()))) :
    loop f 0 = some (if ∀ b∈l,vB b then .inl () else .inr e):=by
  rcases q1l l (fun r=>!decide (vB r)) (fun k _=>e) () f d hd with ⟨j,a⟩ | ⟨k,c,m,_,a⟩
  · have : ∀ r∈l,vB r:=fun r g=>by simpa using j r g
    rw [qy this];exact a
  · have : ¬ ∀ r∈l,vB r:=fun h=>by simp [h _ (Kc c)] at m
    rw [Q3 this];exact a
theorem q9x (l : List qk) : q21 l = some (Yb l):=by
  unfold q21 Yb;by_cases d : 400 < l.length
  · rw [Qc (by omega : (l.length : Int) > 400),qz,qy d]
  rw [Qe (by omega : ¬ (l.length : Int) > 400),qx,Q3 d]
  rw [qxo l q6 (q6o l) 8 (fun k c=>by
    simp only [q6o,dlt c,qz,Qq c,qj,qxm,w64s c q6]
    by_cases a : vB l[k] <;> simp [a]) (by simp only [q6o,dnl,qx])]
  by_cases a : ∀ r∈l,vB r
  · rw [qy a,qy a];obtain ⟨o,m,g⟩:=qxh 2 (p:=l) (q:=[]) (by simp;omega) (qpg (by simp;omega)) (q100 q6);simp only [qj,m];by_cases f : 400 < (mrgB 2 l []).length
    · have b : mrgB 2 l []≠l:=fun h=>by rw [h] at f;exact d f
      rw [Qe q6,Q3 b];rfl
    · rw [Qc q6,g q6,sameBox _ l q6];by_cases j : mrgB 2 l [] = l <;> simp [j]
  · rw [Q3 a,Q3 a];rfl
end Go.Sh
namespace Go.Sh
open Go Go.Am
def sumN : Nat→(Int→Int)→Int
  | 0,_=>0
  | n + 1,f=>sumN n f + f n
theorem qoi {f g : Int→Int} : ∀ {n : Nat},(∀ k : Nat,k < n→f k = g k)→sumN n f = sumN n g
  | 0,_=>rfl
  | n + 1,h=>by rw [sumN,sumN,qoi (n:=n) fun k a=>h k q6,h n q6]
theorem qoh {f g : Int→Int} : ∀ {n : Nat},sumN n (fun x=>f x + g x) = sumN n f + sumN n g
  | 0=>rfl
  | n + 1=>by rw [sumN,sumN,sumN,qoh (n:=n)];omega
theorem qol {f g : Int→Int} : ∀ {n : Nat},sumN n (fun x=>f x - g x) = sumN n f - sumN n g
  | 0=>rfl
  | n + 1=>by rw [sumN,sumN,sumN,qol (n:=n)];omega
theorem qok {c : Int} {f : Int→Int} : ∀ {n : Nat},sumN n (fun x=>c * f x) = c * sumN n f
  | 0=>by simp [sumN]
  | n + 1=>by rw [sumN,sumN,qok (n:=n),Int.mul_add]
theorem qhm : ∀ {n : Nat},sumN n (fun _=>0) = 0
  | 0=>rfl
  | n + 1=>by rw [sumN,qhm (n:=n)];rfl
theorem qhl {f g : Int→Int} : ∀ {n : Nat},(∀ k : Nat,k < n→f k≤g k)→sumN n f≤sumN n g
  | 0,_=>Int.le_refl _
  | n + 1,h=>by have:=qhl (n:=n) fun k a=>h k q6;have:=h n q6;rw [sumN,sumN];omega
noncomputable def ind (p : Prop) : Int:=by classical exact if p then 1 else 0
theorem q9b {p : Prop} (h : p) : ind p = 1:=by unfold ind;simp [h]
theorem Ua {p : Prop} (h : ¬ p) : ind p = 0:=by unfold ind;simp [h]
theorem q2e {p q : Prop} (h : p↔q) : ind p = ind q:=by rw [propext h]
theorem q9a {p q : Prop} : ind (p∧q) = ind p * ind q:=by
  by_cases hp : p <;> by_cases a : q
  · rw [q9b ⟨hp,a⟩,q9b hp,q9b a];rfl
  · rw [Ua (fun h=>a h.2),Ua a];simp
  · rw [Ua (fun h=>hp h.1),Ua hp];simp
  · rw [Ua (fun h=>hp h.1),Ua hp];simp
theorem qss {p q : Prop} : ind (p∨q) = ind p + ind q - ind (p∧q):=by
  by_cases hp : p <;> by_cases a : q <;> simp [ind,hp,a]
theorem qsr {p : Prop} : ind (¬ p) = 1 - ind p:=by by_cases hp : p <;> simp [ind,hp]
theorem qky {p : Prop} : 0≤ind p∧ind p≤1:=by by_cases hp : p <;> simp [ind,hp]
theorem qoj (a b : Int) : ∀ {n : Nat},sumN n (fun x=>ind (a≤x∧x < b)) = max 0 (min b n - max a 0)
  | 0=>by rw [sumN];omega
  | n + 1=>by
    rw [sumN,qoj a b (n:=n)]
    by_cases h : a≤(n : Int)∧(n : Int) < b
    · rw [q9b h];omega
    · rw [Ua h];omega
def sumZ (N : Nat) (f : Int→Int) : Int:=sumN (2 * N) fun k=>f (k - N)
theorem q1e {N : Nat} {f g : Int→Int} (h : ∀ x : Int,-(N : Int)≤x→x < N→f x = g x) : sumZ N f = sumZ N g:=
  qoi fun k a=>h _ q6 q6
theorem q146 {N : Nat} {f g : Int→Int} : sumZ N (fun x=>f x + g x) = sumZ N f + sumZ N g:=qoh
theorem qoo {N : Nat} {f g : Int→Int} : sumZ N (fun x=>f x - g x) = sumZ N f - sumZ N g:=qol
theorem qon {N : Nat} {c : Int} {f : Int→Int} : sumZ N (fun x=>c * f x) = c * sumZ N f:=qok
theorem qhn {N : Nat} : sumZ N (fun _=>0) = 0:=qhm
theorem q147 {N : Nat} {f g : Int→Int} (h : ∀ x : Int,-(N : Int)≤x→x < N→f x≤g x) : sumZ N f≤sumZ N g:=
  qhl fun k a=>h _ q6 q6
theorem qom {N : Nat} {a b : Int} (d : -N≤a) (c : a≤b) (f : b≤N) : sumZ N (fun x=>ind (a≤x∧x < b)) = b - a:=by
  unfold sumZ
  have : (fun k : Int=>ind (a≤k - N∧k - N < b)) = fun k=>ind (a + N≤k∧k < b + N):=by
    funext k;exact q2e ⟨fun h=>q6,fun h=>q6⟩
  simp only [this];rw [qoj];omega
theorem q148 {N : Nat} {f : Int→Int} (h : ∀ x : Int,-(N : Int)≤x→x < N→0≤f x) : 0≤sumZ N f:=by
  rw [← qhn (N:=N)];exact q147 h
noncomputable def cnt2 (N : Nat) (P : Int→Int→Prop) : Int:=sumZ N fun x=>sumZ N fun y=>ind (P x y)
def sumL {α : Type} (f : α→Int) : List α→Int
  | []=>0
  | a::r=>f a + sumL f r
theorem qef {α : Type} (f : α→Int) (a b : List α) : sumL f (a ++ b) = sumL f a + sumL f b:=by
  induction a with
  | nil=>simp [sumL]
  | cons x a ih=>rw [List.cons_append,sumL,sumL,ih];omega
theorem qof {α : Type} {f g : α→Int} {l : List α} (h : ∀ a∈l,f a = g a) : sumL f l = sumL g l:=by
  induction l with
  | nil=>rfl
  | cons a l ih=>rw [sumL,sumL,h a qe,ih fun b hb=>h b (by simp [hb])]
theorem q144 {α : Type} (c : Int) (f : α→Int) (l : List α) : sumL (fun a=>c * f a) l = c * sumL f l:=by
  induction l with
  | nil=>simp [sumL]
  | cons a l ih=>rw [sumL,sumL,ih,Int.mul_add]
theorem qog {α : Type} {N : Nat} (f : α→Int→Int) (l : List α) : sumL (fun a=>sumZ N (f a)) l = sumZ N fun x=>sumL (fun a=>f a x) l:=by
  induction l with
  | nil=>exact qhn.symm
  | cons a l ih=>
    have : (fun x=>sumL (fun a=>f a x) (a::l)) = fun x=>f a x + (fun x=>sumL (fun a=>f a x) l) x:=rfl;rw [sumL,ih,this,q146]
def inB (b : qk) (x y z : Int) : Prop:=(b.Lo.X≤x∧x < b.Hi.X)∧(b.Lo.Y≤y∧y < b.Hi.Y)∧(b.Lo.Z≤z∧z < b.Hi.Z)
def inR (r : qd) (x y : Int) : Prop:=(r.X0≤x∧x < r.X1)∧(r.Y0≤y∧y < r.Y1)
def inS (t : qp) (x : Int) : Prop:=t.Lo≤x∧x < t.Hi
def q5l (r : qd) : Int:=(r.X1 - r.X0) * (r.Y1 - r.Y0)
theorem qi8 {N : Nat} {r : qd} (h : (r.X0≤r.X1∧r.Y0≤r.Y1)∧(-(N : Int)≤r.X0∧-(N : Int)≤r.Y0)∧r.X1≤N∧r.Y1≤N) : q5l r = cnt2 N (inR r):=by
  obtain ⟨⟨d,b⟩,⟨c,g⟩,f,a⟩:=h;unfold cnt2
  have j : ∀ x,(sumZ N fun y=>ind (inR r x y)) = ind (r.X0≤x∧x < r.X1) * (r.Y1 - r.Y0):=fun x=>by
    have : (fun y=>ind (inR r x y)) = fun y=>ind (r.X0≤x∧x < r.X1) * ind (r.Y0≤y∧y < r.Y1):=by
      funext y;unfold inR;rw [q9a]
    rw [this,qon,qom g b a]
  have : (fun x=>sumZ N fun y=>ind (inR r x y)) = fun x=>(r.Y1 - r.Y0) * ind (r.X0≤x∧x < r.X1):=by
    funext x;rw [j,Int.mul_comm]
  rw [this,qon,qom c d f,q5l,Int.mul_comm]
noncomputable def cntS (s : List qp) (y : Int) : Int:=sumL (fun t=>ind (inS t y)) s
noncomputable def cntR (l : List qd) (x y : Int) : Int:=sumL (fun t=>ind (inR t x y)) l
noncomputable def cntB (l : List qk) (x y z : Int) : Int:=sumL (fun t=>ind (inB t x y z)) l
theorem qiu : ∀ {s : List qp},Can s→∀ y,cntS s y = ind (has s y)
  | [],_,y=>by rw [Ua (q1u y)];rfl
  | a::s,h,y=>by
    have b:=qiu h.tail y
    unfold cntS at b ⊢
    rw [sumL,b,q2e (Zi (a:=a) (s:=s) (x:=y)),qss]
    have : ¬ ((a.Lo≤y∧y < a.Hi)∧has s y):=fun ⟨c,h2⟩=>by have:=h.tail_gt h2;omega
    rw [Ua this];unfold inS;omega
theorem qr1 (l : List qd) (x y : Int) : cntR l x y = cntS (covS l x) y:=by
  unfold cntR cntS
  induction l with
  | nil=>rfl
  | cons r l ih=>
    have e : covS (r::l) x = (if covR x r = true then [ysp r] else []) ++ covS l x:=rfl;rw [sumL,ih,e,qef];congr 1;by_cases a : covR x r = true
    · rw [qy a];have:=q5p.1 a;simp only [sumL,Int.add_zero];exact q2e ⟨fun h=>h.2,fun h=>⟨this,h⟩⟩
    · rw [Q3 a];rw [q5p] at a;exact Ua fun h=>a h.1
theorem qr0 (l : List qk) (x y z : Int) : cntB l x y z = cntR (atB l z) x y:=by
  unfold cntB cntR
  induction l with
  | nil=>rfl
  | cons r l ih=>
    have e : atB (r::l) z = (if covB z r = true then [Zl r] else []) ++ atB l z:=rfl;rw [sumL,ih,e,qef];congr 1;by_cases a : covB z r = true
    · rw [qy a];have:=q1j.1 a;simp only [sumL,Int.add_zero];exact q2e ⟨fun h=>⟨h.1,h.2.1⟩,fun h=>⟨h.1,h.2,this⟩⟩
    · rw [Q3 a];rw [q1j] at a;exact Ua fun h=>a h.2.2
theorem CanR.cnt {l : List qd} (h : CanR l) (x y : Int) : cntR l x y = ind (hasR l x y):=by
  rw [qr1,qiu (h.cov x),q2e Zj]
theorem CanB.cnt {l : List qk} (h : CanB l) (x y z : Int) : cntB l x y z = ind (hasB l x y z):=by
  rw [qr0,(h.at z).cnt,q2e Jn]
end Go.Sh
namespace Go.Sh
open Go Go.Am
theorem qsh {b : qk} {l : List qk} {x y z : Int} : hasB (b::l) x y z↔inB b x y z∨hasB l x y z:=by
  constructor
  · rintro ⟨c,a,h⟩;rcases List.mem_cons.1 a with rfl | a
    · exact .inl h
    · exact .inr ⟨c,a,h⟩
  · rintro (h | ⟨c,a,h⟩)
    · exact ⟨b,qe,h⟩
    · exact ⟨c,by simp [a],h⟩
instance (b : qk) (x y z : Int) : Decidable (inB b x y z):=by unfold inB;infer_instance
instance qri : (l : List qk)→(x y z : Int)→Decidable (hasB l x y z)
  | [],x,y,z=>isFalse (qfq x y z)
  | b::l,x,y,z=>by
    have:=qri l x y z
    exact decidable_of_iff _ qsh.symm
theorem qxf (b : qk) (v : K7) : qa0 b v = some (decide (inB b v.X v.Y v.Z)):=by
  unfold qa0 inB;by_cases f : b.Lo.X≤v.X <;> by_cases c : v.X < b.Hi.X <;> by_cases h : b.Lo.Y≤v.Y <;> by_cases d : v.Y < b.Hi.Y <;> by_cases g : b.Lo.Z≤v.Z <;> by_cases a : v.Z < b.Hi.Z <;> simp [f,c,h,d,g,a]
theorem qxd (l : List qk) (v : K7) (d : l.length≤1000000) : q9z l v = some (decide (hasB l v.X v.Y v.Z)):=by
  unfold q9z
  rcases q1l l (fun b=>decide (inB b v.X v.Y v.Z)) (fun k _=>true) () (q6q l v) (fun k a=>by
    simp only [q6q,dlt a,qz,Qq a,qj,qxf,w64s a d]
    by_cases c : inB l[k] v.X v.Y v.Z <;> simp [c]) (by simp only [q6q,dnl,qx]) with ⟨h1,h2⟩ | ⟨k,a,hc,_,h2⟩
  · rw [h2];simp only [qj];congr 1;refine (Qe ?_).symm;rintro ⟨b,hb,h⟩;have:=h1 b hb;simp at this;exact this h
  · rw [h2];simp only [qj];congr 1;refine (Qc ?_).symm;exact ⟨l[k],Kc a,of_decide_eq_true hc⟩
theorem qxb (l : List qk) : q9y l = some (decide ((30 < l.length∧l.length≤400)∨420 < l.length)):=by
  unfold q9y;by_cases a : 30 < l.length
  · rw [Qc (by omega : (l.length : Int) > 30),qz];by_cases b : l.length≤400
    · rw [Qc (by omega : (l.length : Int)≤400)];simp only [qj,qz];congr 1;exact (Qc (.inl ⟨a,b⟩)).symm
    · rw [Qe (by omega : ¬ (l.length : Int)≤400)];simp only [qj,qx];congr 1;exact decide_eq_decide.2 q6
  · rw [Qe (by omega : ¬ (l.length : Int) > 30),qx];simp only [qj,qx];congr 1;exact decide_eq_decide.2 q6
theorem qxk (l : List qk) (a : l.length≤1000000) : q6t l = some l:=by
  unfold q6t;rw [Ke (by simp;omega)];rfl
end Go.Sh
namespace Go.Sh
open Go Go.Am
end Go.Sh
namespace Go.Sh
open Go Go.Am
abbrev V3:=K7 × K7 × K7
def zeroV : K7:=⟨0,0,0⟩
noncomputable def axT (t : Nat) : V3:=match qs9 (t : Int) with
  | some m=>m
  | none=>(zeroV,zeroV,zeroV)
def qhw (v : K7) : Prop:=-1≤v.X∧v.X≤1∧-1≤v.Y∧v.Y≤1∧-1≤v.Z∧v.Z≤1
instance (v : K7) : Decidable (qhw v):=by unfold qhw;infer_instance
def mulV (m : V3) (v : K7) : K7:=⟨v.X * m.1.X + v.Y * m.2.1.X + v.Z * m.2.2.X,v.X * m.1.Y + v.Y * m.2.1.Y + v.Z * m.2.2.Y,v.X * m.1.Z + v.Y * m.2.1.Z + v.Z * m.2.2.Z⟩
def addV (a b : K7) : K7:=⟨a.X + b.X,a.Y + b.Y,a.Z + b.Z⟩
noncomputable def qkx (t : Nat) (at_ v : K7) : K7:=addV (mulV (axT t) v) at_
def InV (v : K7) (lo : Int) : Prop:=lo≤v.X∧v.X≤1000000∧lo≤v.Y∧v.Y≤1000000∧lo≤v.Z∧v.Z≤1000000
instance (v : K7) (lo : Int) : Decidable (InV v lo):=by unfold InV;infer_instance
def FOk (f : qcm) : Prop:=f.Turn < 24∧InV f.At (-1000000)
instance (f : qcm) : Decidable (FOk f):=by unfold FOk;infer_instance
def SOk (s : qi7) : Prop:=FOk s.Frame∧InV s.Size 0
instance (s : qi7) : Decidable (SOk s):=by unfold SOk;infer_instance
end Go.Sh
namespace Go.Sh
open Go Go.Am
def rowOk (a b c : Int) : Prop:=(a = 1∧b = 0∧c = 0)∨(a = -1∧b = 0∧c = 0)∨(a = 0∧b = 1∧c = 0)∨(a = 0∧b = -1∧c = 0)∨(a = 0∧b = 0∧c = 1)∨(a = 0∧b = 0∧c = -1)
instance (a b c : Int) : Decidable (rowOk a b c):=by unfold rowOk;infer_instance
def q13l (p q : K7) : qk:={Lo:=({X:=min p.X q.X,Y:=min p.Y q.Y,Z:=min p.Z q.Z} : K7),Hi:=({X:=max p.X q.X,Y:=max p.Y q.Y,Z:=max p.Z q.Z} : K7)}
noncomputable def qmi (t : Nat) (at_ : K7) (b : qk) : qk:=q13l (qkx t at_ b.Lo) (qkx t at_ b.Hi)
noncomputable def place (l : List qk) (f : qcm) : List qk × Int:=
  if Yb l≠0 then ([],Yb l) else if ¬ FOk f then ([],8) else if ∀ b∈l,vB (qmi f.Turn.toNat f.At b) then mkB (l.map (qmi f.Turn.toNat f.At)) else ([],16)
end Go.Sh
namespace Go.Sh
open Go Go.Am
end Go.Sh
namespace Go.Sh
open Go Go.Am
def grpR : List qd→List (Grp qp)
  | []=>[]
  | r::l=>match grpR l with
    | g::gs=>if g.lo = r.X0∧g.hi = r.X1 then ⟨g.lo,g.hi,ysp r::g.sec⟩::gs else ⟨r.X0,r.X1,[ysp r]⟩::g::gs
    | []=>[⟨r.X0,r.X1,[ysp r]⟩]
def grpB : List qk→List (Grp qd)
  | []=>[]
  | r::l=>match grpB l with
    | g::gs=>if g.lo = r.Lo.Z∧g.hi = r.Hi.Z then ⟨g.lo,g.hi,Zl r::g.sec⟩::gs else ⟨r.Lo.Z,r.Hi.Z,[Zl r]⟩::g::gs
    | []=>[⟨r.Lo.Z,r.Hi.Z,[Zl r]⟩]
theorem qke : ∀ l : List qd,K3 putR (grpR l) = l
  | []=>rfl
  | r::l=>by
    have a:=qke l
    unfold grpR
    split
    · rename_i g d h
      rw [h] at a
      split
      · rename_i b
        obtain ⟨b,c⟩:=b
        rw [← a]
        simp only [K3,List.flatMap_cons,List.map_cons,List.cons_append,b,c]
        congr 1
      · rw [← a];rfl
    · rename_i h
      rw [h] at a
      rw [← a];rfl
theorem qkd : ∀ l : List qk,K3 putB (grpB l) = l
  | []=>rfl
  | r::l=>by
    have a:=qkd l
    unfold grpB
    split
    · rename_i g d h
      rw [h] at a
      split
      · rename_i b
        obtain ⟨b,c⟩:=b
        rw [← a]
        simp only [K3,List.flatMap_cons,List.map_cons,List.cons_append,b,c]
        congr 1
      · rw [← a];rfl
    · rename_i h
      rw [h] at a
      rw [← a];rfl
instance {σ : Type} [DecidableEq σ] (gs : List (Grp σ)) : Decidable (CanG gs):=by unfold CanG;infer_instance
instance (s : List qp) : Decidable (Can s):=by unfold Can;infer_instance
def isR (l : List qd) : Prop:=CanG (grpR l)∧∀ g∈grpR l,Can g.sec
instance (l : List qd) : Decidable (isR l):=by unfold isR;infer_instance
def isB (l : List qk) : Prop:=CanG (grpB l)∧∀ g∈grpB l,isR g.sec
instance (l : List qk) : Decidable (isB l):=by unfold isB;infer_instance
theorem isR.can {l : List qd} (h : isR l) : CanR l:=⟨grpR l,(qke l).symm,h.1,h.2⟩
theorem isB.can {l : List qk} (h : isB l) : CanB l:=⟨grpB l,(qkd l).symm,h.1,fun g a=>(h.2 g a).can⟩
instance (kind : Int) (a b : Prop) [Decidable a] [Decidable b] : Decidable (Ky kind a b):=by unfold Ky;infer_instance
end Go.Sh
namespace Go.Sh
open Go Go.Am
end Go.Sh
namespace Go.Sh
open Go Go.Am
def Nb (a b : qd) : Prop:=(a.X0 = b.X0∧a.X1 = b.X1∧a.Y1≤b.Y0)∨a.X1≤b.X0
theorem qcq {l : List qd} (h : CanR l) : l.Pairwise Nb:=by
  obtain ⟨o,rfl,j,f⟩:=h;unfold K3;rw [List.pairwise_flatMap];refine ⟨fun g m=>?_,j.2.imp fun {g k} c a d b hb=>?_⟩
  · rw [List.pairwise_map];exact (f g m).2.imp fun {a b} n=>.inl ⟨rfl,rfl,by unfold putR;simp only;omega⟩
  · obtain ⟨x,_,rfl⟩:=List.mem_map.1 d;obtain ⟨y,_,rfl⟩:=List.mem_map.1 hb;exact .inr c.1
def Yz (s : Int × Int × Int × Int) (v : qd) : Int × Int × Int × Int:=(min s.1 v.X0,min s.2.1 v.Y0,max s.2.2.1 v.X1,max s.2.2.2 v.Y1)
def Ka : List qd→qd
  | []=>⟨0,0,0,0⟩
  | r::l=>let t:=(r::l).foldl Yz (r.X0,r.Y0,r.X1,r.Y1);⟨t.1,t.2.1,t.2.2.1,t.2.2.2⟩
theorem qku : ∀ (l : List qd) (s : Int × Int × Int × Int),((l.foldl Yz s).1≤s.1∧(l.foldl Yz s).2.1≤s.2.1∧s.2.2.1≤(l.foldl Yz s).2.2.1∧s.2.2.2≤(l.foldl Yz s).2.2.2)∧
    ∀ v∈l,(l.foldl Yz s).1≤v.X0∧(l.foldl Yz s).2.1≤v.Y0∧v.X1≤(l.foldl Yz s).2.2.1∧v.Y1≤(l.foldl Yz s).2.2.2
  | [],s=>⟨⟨Int.le_refl _,Int.le_refl _,Int.le_refl _,Int.le_refl _⟩,qe⟩
  | r::l,s=>by
    obtain ⟨c,b⟩:=qku l (Yz s r)
    have e : Yz s r = (min s.1 r.X0,min s.2.1 r.Y0,max s.2.2.1 r.X1,max s.2.2.2 r.Y1):=rfl
    rw [List.foldl_cons]
    rw [e] at c b ⊢
    simp only at c
    refine ⟨⟨q6,q6,q6,q6⟩,fun v a=>?_⟩
    rcases List.mem_cons.1 a with rfl | a
    · exact ⟨q6,q6,q6,q6⟩
    · exact b v a
theorem qkv {a b c d : Int} : ∀ (l : List qd) (s : Int × Int × Int × Int),(a≤s.1∧b≤s.2.1∧s.2.2.1≤c∧s.2.2.2≤d)→(∀ v∈l,a≤v.X0∧b≤v.Y0∧v.X1≤c∧v.Y1≤d)→
    a≤(l.foldl Yz s).1∧b≤(l.foldl Yz s).2.1∧(l.foldl Yz s).2.2.1≤c∧(l.foldl Yz s).2.2.2≤d
  | [],s,h,_=>h
  | r::l,s,h,hl=>by
    have g:=hl r qe
    rw [List.foldl_cons]
    refine qkv l _ ?_ fun v f=>hl v (by simp [f])
    unfold Yz
    simp only
    omega
theorem q1w {l : List qd} : ∀ v∈l,(Ka l).X0≤v.X0∧(Ka l).Y0≤v.Y0∧v.X1≤(Ka l).X1∧v.Y1≤(Ka l).Y1:=by
  cases l with
  | nil=>simp
  | cons r l=>exact fun v a=>(qku (r::l) (r.X0,r.Y0,r.X1,r.Y1)).2 v a
theorem qfx {a b c d : Int} {l : List qd} (f : l≠[]) (h : ∀ v∈l,a≤v.X0∧b≤v.Y0∧v.X1≤c∧v.Y1≤d) : a≤(Ka l).X0∧b≤(Ka l).Y0∧(Ka l).X1≤c∧(Ka l).Y1≤d:=by
  cases l with
  | nil=>exact absurd rfl f
  | cons r l=>exact qkv (r::l) (r.X0,r.Y0,r.X1,r.Y1) (h r qe) h
theorem qy5 {l : List qd} (b : Z4 l = 0) (g : l≠[]) : qa8 l = some (Ka l,0):=by
  obtain ⟨h,_,_⟩:=q8t.1 b;unfold qa8;rw [qn4,b,qj,show ((0 : Int) != 0) = false from rfl,qx]
  cases l with
  | nil=>exact absurd rfl g
  | cons r l=>
    have c : (((r::l).length : Int) == 0) = false:=by simp;omega
    have d : idx (r::l) 0 = some r:=rfl;rw [c,qx,d,qj]
    have this : loop (q4t (r::l)) (0,r.X0,r.Y0,r.X1,r.Y1) = some ((r::l).foldl Yz (r.X0,r.Y0,r.X1,r.Y1)):=by
      have key:=Yr (f:=q4t (r::l)) (fun k=>((k : Int),((r::l).take k).foldl Yz (r.X0,r.Y0,r.X1,r.Y1))) (r::l).length ((r::l).foldl Yz (r.X0,r.Y0,r.X1,r.Y1)) (fun k a=>by
        rw [List.take_succ_eq_append_getElem a,List.foldl_append];simp only [q4t,dlt a,qz,Qq a,qj,w64s a (by omega : (r::l).length≤1000000)]
        rfl) (by rw [List.take_length];simp only [q4t,dnl,qx]) (Nat.zero_le _)
      exact key
    rw [this];rfl
end Go.Sh
namespace Go.Sh
open Go Go.Am
def Ys (o : List qd) (x : qd) : List qd:=if x.X0 < x.X1∧x.Y0 < x.Y1 then o ++ [x] else o
theorem qer (x : qd) (o : List qd) (h : o.length≤100000) : q4c x o = some (Ys o x):=by
  unfold q4c Ys;by_cases a : x.X0 < x.X1
  · by_cases b : x.Y0 < x.Y1
    · rw [qy ⟨a,b⟩];simp only [a,b,decide_true,qz,qj];rw [Ke (by simp;omega)];rfl
    · rw [Q3 (fun h=>b h.2)];simp only [a,b,decide_true,decide_false,qz,qx,qj]
  · rw [Q3 (fun h=>a h.1)];simp only [a,decide_false,qx,qj]
theorem q5k (o : List qd) (x : qd) : (Ys o x).length≤o.length + 1:=by unfold Ys;split <;> simp
theorem qp6 {o : List qd} {r : qd} {x y : Int} : hasR (Ys o r) x y↔hasR o x y∨(r.X0≤x∧x < r.X1∧r.Y0≤y∧y < r.Y1):=by
  unfold Ys;split
  · unfold hasR;constructor
    · rintro ⟨t,a,h⟩;rcases List.mem_append.1 a with a | a
      · exact .inl ⟨t,a,h⟩
      · obtain rfl:=List.mem_singleton.1 a;exact .inr h
    · rintro (⟨t,a,h⟩ | h)
      · exact ⟨t,by simp [a],h⟩
      · exact ⟨r,qe,h⟩
  · rename_i b;exact ⟨.inl,fun h=>h.elim (fun h=>h) fun h=>absurd (⟨q6,q6⟩ : r.X0 < r.X1∧r.Y0 < r.Y1) b⟩
theorem qp7 {o : List qd} {r t : qd} (h : t∈Ys o r) : t∈o∨(t = r∧r.X0 < r.X1∧r.Y0 < r.Y1):=by
  unfold Ys at h;split at h
  · rename_i a;rcases List.mem_append.1 h with h | h
    · exact .inl h
    · exact .inr ⟨List.mem_singleton.1 h,a⟩
  · exact .inl h
def inHo (h t : qd) : Prop:=(h.X0≤t.X0∧t.X0 < t.X1∧t.X1≤h.X1)∧(h.Y0≤t.Y0∧t.Y0 < t.Y1∧t.Y1≤h.Y1)
def endS (l : List qd) (k : Nat) : Prop:=∀ (h1 : k - 1 < l.length) (h2 : k < l.length),l[k].X0≠l[k - 1].X0
def qrn (l : List qd) (k : Nat) (x y : Int) : Prop:=∃ (h0 : 0 < k) (h1 : k - 1 < l.length),x < l[k - 1].X0∨(x < l[k - 1].X1∧(y < l[k - 1].Y1∨endS l k))
structure Miss (l : List qd) (h : qd) (k : Nat) (o : List qd) : Prop where
  pts : ∀ x y,hasR o x y↔(h.X0≤x∧h.Y0≤y∧y < h.Y1)∧qrn l k x y∧¬ hasR l x y
  box : ∀ t∈o,inHo h t
  len : o.length≤3 * k
def fstB (l : List qd) (k : Nat) (hk : k < l.length) : Bool:=decide (k = 0∨l[k - 1].X0≠l[k].X0)
def lstB (l : List qd) (k : Nat) (hk : k < l.length) : Bool:=decide (if h2 : k + 1 < l.length then l[k + 1].X0≠l[k].X0 else True)
def Uc (l : List qd) (h : qd) (k : Nat) (hk : k < l.length) (o : List qd) : List qd:=
  let o1:=cond (fstB l k hk && decide (0 < k)) (Ys o ⟨l[k - 1].X1,h.Y0,l[k].X0,h.Y1⟩) o
  let o2:=Ys o1 ⟨l[k].X0,cond (fstB l k hk) h.Y0 l[k - 1].Y1,l[k].X1,l[k].Y0⟩
  cond (lstB l k hk) (Ys o2 ⟨l[k].X0,l[k].Y1,l[k].X1,h.Y1⟩) o2
theorem qtp {l : List qd} {h : qd} (p : l.length≤1000) {k : Nat} (a : k < l.length) {o : List qd} (w : o.length≤3 * k) :
    q2h l (h,0) ((k : Int),o) = some (.inl (((k + 1 : Nat) : Int),Uc l h k a o)):=by
  have s : w64 ((l.length : Int) - 1) = (l.length : Int) - 1:=Ql q6;have g : w64 ((k : Int) + 1) = ((k + 1 : Nat) : Int):=w64s a q6
  have u : (cond ((k : Int) == 0) (some true) ((idx l (w64 ((k : Int) - 1))).bind fun d=>some (d.X0 != l[k].X0))) = some (fstB l k a):=by
    unfold fstB;by_cases b : k = 0
    · subst b;rfl
    · have t : ((k : Int) == 0) = false:=by simp;omega
      have hi : idx l (w64 ((k : Int) - 1)) = some l[k - 1]:=by rw [Ql q6];exact U9 q6 q6
      rw [t,qx,hi,qj];congr 1;by_cases e : l[k - 1].X0 = l[k].X0 <;> simp [e,b]
  have r : (cond ((k : Int) == (l.length : Int) - 1) (some true) ((idx l ((k + 1 : Nat) : Int)).bind fun c=>some (c.X0 != l[k].X0))) = some (lstB l k a):=by
    unfold lstB;by_cases j : k + 1 < l.length
    · have : ((k : Int) == (l.length : Int) - 1) = false:=by simp;omega
      rw [this,qx,Qq j,qj];congr 1;simp only [j,dif_pos];by_cases e : l[k + 1].X0 = l[k].X0 <;> simp [e]
    · have : ((k : Int) == (l.length : Int) - 1) = true:=by simp;omega
      rw [this,qz];congr 1;simp [j]
  have v : decide ((k : Int) > 0) = decide (0 < k):=decide_eq_decide.2 q6;have hi : 0 < k→idx l (w64 ((k : Int) - 1)) = some l[k - 1]:=fun b=>by rw [Ql q6];exact U9 q6 q6
  have m : fstB l k a = false→0 < k:=fun h=>by
    unfold fstB at h;have:=of_decide_eq_false h;omega
  unfold q2h Uc;simp only [dlt a,qz,Qq a,qj,s,g,u,r,v];have n:=fun x=>qer x o q6;have q:=fun x y=>qer x (Ys o y) (by have:=q5k o y;omega);have f:=fun x y z=>qer x (Ys (Ys o y) z) (by have:=q5k o y;have:=q5k (Ys o y) z;omega)
  cases hb : fstB l k a with
  | true=>
    by_cases b : 0 < k
    · cases p : lstB l k a <;> simp only [Qc b,qz,qx,qj,hi b,Bool.not_true,Bool.true_and,n,q,f]
    · cases p : lstB l k a <;> simp only [Qe b,qz,qx,qj,Bool.not_true,Bool.true_and,n,q,f]
  | false=>
    have b:=m hb;cases p : lstB l k a <;> simp only [qz,qx,qj,hi b,Bool.not_false,Bool.false_and,n,q,f]
theorem qtt (l : List qd) (h : qd) (k : Nat) (a : k < l.length) (o : List qd) : (Uc l h k a o).length≤o.length + 3:=by
  unfold Uc;have d:=fun x=>q5k o x;have c:=fun x y=>q5k (Ys o y) x;have b:=fun x y z=>q5k (Ys (Ys o y) z) x;cases fstB l k a <;> cases decide (0 < k) <;> cases lstB l k a <;> simp only [Bool.and_self,Bool.and_true,Bool.and_false,Bool.true_and,Bool.false_and,qz,qx] <;> grind
end Go.Sh
namespace Go.Sh
open Go Go.Am
theorem Ud {l : List qd} (c : l.Pairwise Nb) {i j : Nat} (hi : i < l.length) (b : j < l.length) (a : i < j) : Nb l[i] l[j]:=List.pairwise_iff_getElem.1 c i j hi b a
theorem qfr {l : List qd} {x y : Int} (h : hasR l x y) : ∃ (j : Nat) (a : j < l.length),l[j].X0≤x∧x < l[j].X1∧l[j].Y0≤y∧y < l[j].Y1:=by
  obtain ⟨r,b,h⟩:=h;obtain ⟨j,a,rfl⟩:=List.mem_iff_getElem.1 b;exact ⟨j,a,h⟩
theorem qty {l : List qd} (a : l.Pairwise Nb) (g : ∀ r∈l,r.X0 < r.X1∧r.Y0 < r.Y1) {k : Nat} (b : k < l.length) (q : 0 < k) {x y : Int} (u : l[k - 1].X1≤x) (o : x < l[k].X0) : ¬ hasR l x y:=by
  intro h;obtain ⟨j,f,s,t,v,m⟩:=qfr h;have n:=g _ (Kc b);have p:=g _ (Kc (show k - 1 < l.length by omega));rcases Nat.lt_trichotomy j k with c | c | c
  · rcases Nat.lt_or_ge j (k - 1) with d | d
    · rcases Ud a f (show k - 1 < l.length by omega) d with e | e <;> omega
    · obtain rfl : j = k - 1:=by omega
      omega
  · subst c;omega
  · rcases Ud a b f c with e | e <;> omega
theorem qlq {l : List qd} (b : l.Pairwise Nb) (m : ∀ r∈l,r.X0 < r.X1∧r.Y0 < r.Y1) {k : Nat} (f : k < l.length) {x y : Int} (h1 : l[k].X0≤x) (s : x < l[k].X1) (u : y < l[k].Y0)
    (h4 : k = 0∨l[k - 1].X0≠l[k].X0∨l[k - 1].Y1≤y) : ¬ hasR l x y:=by
  intro h;obtain ⟨j,g,w,z,a3,p⟩:=qfr h;have q:=m _ (Kc f);rcases Nat.lt_trichotomy j k with c | c | c
  · have t:=m _ (Kc (show k - 1 < l.length by omega));have v:=m _ (Kc g);have n:=Ud b (show k - 1 < l.length by omega) f q6;have a:=Ud b g f c;rcases Nat.lt_or_ge j (k - 1) with d | d
    · have o:=Ud b g (show k - 1 < l.length by omega) d;unfold Nb at n a o;omega
    · obtain rfl : j = k - 1:=by omega
      unfold Nb at n a;omega
  · subst c;omega
  · have a:=Ud b f g c;unfold Nb at a;omega
theorem qlr {l : List qd} (g : l.Pairwise Nb) (n : ∀ r∈l,r.X0 < r.X1∧r.Y0 < r.Y1) {k : Nat} (b : k < l.length) {x y : Int} (v : l[k].X0≤x) (p : x < l[k].X1) (h3 : l[k].Y1≤y)
    (q : ∀ p : k + 1 < l.length,l[k + 1].X0≠l[k].X0) : ¬ hasR l x y:=by
  intro h;obtain ⟨j,m,a1,a2,z,a4⟩:=qfr h;have vk:=n _ (Kc b);have u:=n _ (Kc m);rcases Nat.lt_trichotomy j k with c | c | c
  · have f:=Ud g m b c;unfold Nb at f;omega
  · subst c;omega
  · have a : k + 1 < l.length:=by omega
    have w:=n _ (Kc a);have s:=Ud g b a q6;have o:=q a;unfold Nb at s;rcases Nat.lt_or_ge (k + 1) j with d | d
    · have t:=Ud g a m d;unfold Nb at t;omega
    · obtain rfl : j = k + 1:=by omega
      omega
end Go.Sh
namespace Go.Sh
open Go Go.Am
theorem qlp {l : List qd} {h : qd} {k : Nat} {b : k < l.length} {o : List qd} {x y : Int} :
    hasR (Uc l h k b o) x y↔hasR o x y∨((fstB l k b = true∧0 < k)∧l[k - 1].X1≤x∧x < l[k].X0∧h.Y0≤y∧y < h.Y1)∨
      (l[k].X0≤x∧x < l[k].X1∧(cond (fstB l k b) h.Y0 l[k - 1].Y1)≤y∧y < l[k].Y0)∨(lstB l k b = true∧l[k].X0≤x∧x < l[k].X1∧l[k].Y1≤y∧y < h.Y1):=by
  have a:=fun (o : List qd) (r : qd)=>qp6 (o:=o) (r:=r) (x:=x) (y:=y);unfold Uc;by_cases c : 0 < k
  · cases fstB l k b with
    | true=>
      cases lstB l k b with
      | true=>
        simp only [Qc c,Bool.and_self,qz];rw [a,a,a];simp only [c,and_self,true_and,or_assoc]
      | false=>
        simp only [Qc c,Bool.and_self,qz,qx];rw [a,a];simp [c,or_assoc]
    | false=>
      cases lstB l k b with
      | true=>
        simp only [Bool.false_and,qz,qx];rw [a,a];simp [or_assoc]
      | false=>
        simp only [Bool.false_and,qx];rw [a];simp
  · cases fstB l k b with
    | true=>
      cases lstB l k b with
      | true=>
        simp only [Qe c,Bool.and_false,qz,qx];rw [a,a];simp [c,or_assoc]
      | false=>
        simp only [Qe c,Bool.and_false,qz,qx];rw [a];simp [c]
    | false=>
      cases lstB l k b with
      | true=>
        simp only [Bool.false_and,qz,qx];rw [a,a];simp [or_assoc]
      | false=>
        simp only [Bool.false_and,qx];rw [a];simp
theorem qk5 {l : List qd} {k : Nat} {a : k < l.length} : fstB l k a = true↔k = 0∨l[k - 1].X0≠l[k].X0:=by unfold fstB;exact decide_eq_true_iff
theorem qdg {l : List qd} {k : Nat} {b : k < l.length} : lstB l k b = true↔∀ a : k + 1 < l.length,l[k + 1].X0≠l[k].X0:=by
  unfold lstB;rw [decide_eq_true_iff];by_cases a : k + 1 < l.length <;> simp [a]
def seen (l : List qd) (k : Nat) (hk : k < l.length) (x y : Int) : Prop:=x < l[k].X0∨(x < l[k].X1∧(y < l[k].Y1∨lstB l k hk = true))
theorem qtn {l : List qd} {h : qd} (j : l.Pairwise Nb) (g : ∀ r∈l,r.X0 < r.X1∧r.Y0 < r.Y1) (f : 0 < l.length) (p : l[0].X0≤h.X0) (x y : Int) (hb : h.X0≤x∧h.Y0≤y∧y < h.Y1) :
    hasR (Uc l h 0 f []) x y↔seen l 0 f x y∧¬ hasR l x y:=by
  have n : fstB l 0 f = true:=qk5.2 (.inl rfl);have q:=g _ (Kc f);rw [qlp,n];unfold seen;have m:=fun (a : l[0].X0≤x) (b : x < l[0].X1) (c : y < l[0].Y0)=>qlq j g f a b c (.inl rfl);have o:=fun (a : l[0].X0≤x) (b : x < l[0].X1) (c : l[0].Y1≤y) (d : lstB l 0 f = true)=>qlr j g f a b c (qdg.1 d);have k : l[0].X0≤x→x < l[0].X1→l[0].Y0≤y→y < l[0].Y1→hasR l x y:=fun a b c d=>⟨l[0],Kc f,a,b,c,d⟩
  have n4:=q2w x y;simp only [n4,qz,Nat.lt_irrefl,and_false,false_and,false_or];constructor
  · rintro (⟨a,b,c,d⟩ | ⟨e,a,b,c,d⟩)
    · exact ⟨.inr ⟨b,.inl q6⟩,m a b d⟩
    · exact ⟨.inr ⟨b,.inr e⟩,o a b c e⟩
  · rintro ⟨a | ⟨a,b⟩,c⟩
    · omega
    · by_cases d : y < l[0].Y0
      · exact .inl ⟨q6,a,hb.2.1,d⟩
      · by_cases e : y < l[0].Y1
        · exact absurd (k q6 a q6 e) c
        · refine .inr ⟨b.resolve_left e,q6,a,q6,hb.2.2⟩
end Go.Sh
