/- Su12 Qb2 Pf3 Rs5 Su13 Rs6 Rs7 Rs8 Su14 -/
import Derived.Test.YtmnfbjlabfeneaaGreatK12
namespace Go.Sh
open Go Go.Am
theorem qk8 (l : List qf) (d : l.length≤1000000) (f : qf→Option Bool) (c : qf→Bool) (h : ∀ b∈l,f b = some (c b)) : Um l f = some (l.any c):=by
  unfold Um q7f
  rcases Uu l c (fun k _=>(k : Int)) () (Js l f) (fun k a=>by
    simp only [Js,dlt a,qz,Qw a,qj,h _ (Y7 a),w64s a d]
    cases c l[k] <;> rfl) (by simp only [Js,dnl,qy]) with ⟨h1,h2⟩ | ⟨k,a,hc,_,h2⟩
  · rw [h2];have : l.any c = false:=by rw [List.any_eq_false];intro b hb;simp [h1 b hb]
    rw [this];rfl
  · rw [h2];have : l.any c = true:=List.any_eq_true.2 ⟨l[k],Y7 a,hc⟩;rw [this];simp only [qj];rw [Qb q0]
def inV (v : qh) (n : Int) : Prop:=(-n≤v.X∧v.X≤n)∧(-n≤v.Y∧v.Y≤n)∧(-n≤v.Z∧v.Z≤n)
instance q17i (v : qh) (n : Int) : Decidable (inV v n):=by unfold inV;infer_instance
instance (d : qh) : Decidable (nzV d):=by unfold nzV;infer_instance
instance (p d : Int) : Decidable (fitA p d):=by unfold fitA;infer_instance
instance (p d : qh) : Decidable (fitV p d):=by unfold fitV;infer_instance
theorem qel (v : qh) {n : Int} (b : 0≤n∧n≤1000) : q3w v n = some (decide (inV v n)):=by
  unfold q3w;rw [qv (x:=0 - n) q0];by_cases a : min (min v.X v.Y) v.Z ≥ 0 - n
  · rw [Qb a];simp only [qz,qj];congr 1;refine decide_eq_decide.2 ?_;unfold inV;omega
  · rw [Q8 a];simp only [qy,qj];congr 1;refine (Q8 ?_).symm;unfold inV;omega
theorem qdr (v : qh) {n : Int} (g : 0≤n∧n≤1000) : q1d v n = some (decide (inV v n)):=by
  unfold q1d;rw [qv (x:=0 - n) q0];by_cases c : v.X ≥ 0 - n
  · rw [Qb c];simp only [qz,qj];by_cases a : v.X≤n
    · rw [Qb a];simp only [qz,qj];by_cases f : v.Y ≥ 0 - n
      · rw [Qb f];simp only [qz,qj];by_cases b : v.Y≤n
        · rw [Qb b];simp only [qz,qj];by_cases d : v.Z ≥ 0 - n
          · rw [Qb d];simp only [qz,qj];congr 1;refine decide_eq_decide.2 ?_;unfold inV;omega
          · rw [Q8 d,Q8 (show ¬ inV v n by unfold inV;omega)];rfl
        · rw [Q8 b,Q8 (show ¬ inV v n by unfold inV;omega)];rfl
      · rw [Q8 f,Q8 (show ¬ inV v n by unfold inV;omega)];rfl
    · rw [Q8 a,Q8 (show ¬ inV v n by unfold inV;omega)];rfl
  · rw [Q8 c,Q8 (show ¬ inV v n by unfold inV;omega)];rfl
noncomputable def chkF (l : List qf) (d : qh) : Int:=if Kh l≠0 then Kh l else if ∀ b∈l,inV b.Lo 30∧inV b.Hi 30 then (if inV d 8∧nzV d then 0 else 2) else 16
theorem q47 {l : List qf} (h : Kh l = 0) : l.length≤400:=(Jg.1 h).1
theorem qne (d : qh) : ((d.X == 0) && ((d.Y == 0) && ((d.Z == 0) && true))) = decide (¬ nzV d):=by
  by_cases a : d.X = 0 <;> by_cases b : d.Y = 0 <;> by_cases c : d.Z = 0 <;> simp [nzV,a,b,c]
theorem qwz (d : qh) : (((cond (d.X == 0) (some (d.Y == 0)) (some false)).bind fun a=>(cond a (some (d.Z == 0)) (some false)).bind fun b=>some b) : Option Bool) = some (decide (¬ nzV d)):=by
  rw [← qne];cases (d.X == 0) <;> cases (d.Y == 0) <;> cases (d.Z == 0) <;> rfl
theorem qej (l : List qf) (d : qh) : q3v l d = some (chkF l d):=by
  unfold q3v chkF;rw [qe7,qj];by_cases f : Kh l = 0
  · have k:=q47 f;rw [f];simp only [show ((0 : Int) != 0) = false from rfl,qy,ne_eq,not_true_eq_false,if_false]
    have j : ∀ b∈l,q8n b = some (!decide (inV b.Lo 30∧inV b.Hi 30)):=fun b _=>by
      unfold q8n;rw [qel _ Q3,qel _ Q3];by_cases a : inV b.Lo 30 <;> by_cases c : inV b.Hi 30 <;> simp [a,c]
    rw [qk8 l q0 _ _ j,qj];by_cases hb : ∀ b∈l,inV b.Lo 30∧inV b.Hi 30
    · have : l.any (fun b=>!decide (inV b.Lo 30∧inV b.Hi 30)) = false:=by
        rw [List.any_eq_false];intro b h;simp [hb b h]
      rw [this,qy,qq hb,qel _ Q3,qne];by_cases a : inV d 8 <;> by_cases c : nzV d <;> simp [a,c]
    · have : l.any (fun b=>!decide (inV b.Lo 30∧inV b.Hi 30)) = true:=by
        refine Classical.byContradiction fun g=>hb fun b h=>?_;have:=(List.any_eq_false.1 (Bool.eq_false_iff.2 g)) b h;simpa using this
      rw [this,qz,qs hb]
  · rw [show (Kh l != 0) = true by simpa using f,qz,qq f]
theorem qzj (l : List qf) (d : qh) : q9x l d = some (chkF l d):=by
  unfold q9x chkF;rw [qz9,qj];by_cases g : Kh l = 0
  · have j:=q47 g;rw [g];simp only [show ((0 : Int) != 0) = false from rfl,qy,ne_eq,not_true_eq_false,if_false]
    rcases Uu l (fun b=>!decide (inV b.Lo 30∧inV b.Hi 30)) (fun k _=>(16 : Int)) () (q71 l) (fun k f=>by
      simp only [q71,dlt f,qz,Qw f,qj,qdr _ (show (0 : Int)≤30∧(30 : Int)≤1000 by decide),w64s f (show l.length≤1000000 by omega)]
      by_cases a : inV l[k].Lo 30 <;> by_cases c : inV l[k].Hi 30 <;> simp [a,c]) (by simp only [q71,dnl,qy]) with ⟨h1,h2⟩ | ⟨k,f,hc,_,h2⟩
    · have hb : ∀ b∈l,inV b.Lo 30∧inV b.Hi 30:=fun b hb=>by simpa using h1 b hb
      rw [h2,qq hb];simp only [qj];rw [qdr _ Q3,qwz];by_cases a : inV d 8 <;> by_cases c : nzV d <;> simp [a,c]
    · have hb : ¬ ∀ b∈l,inV b.Lo 30∧inV b.Hi 30:=fun h=>by simp [h _ (Y7 f)] at hc
      rw [h2,qs hb];rfl
  · rw [show (Kh l != 0) = true by simpa using g,qz,qq g];rfl
structure FitS (l : List qf) (d : qh) : Prop where
  ck : Kh l = 0
  bx : ∀ b∈l,Ya b
  dr : dirV d
  nz : nzV d
theorem q2o {l : List qf} {d : qh} (h : chkF l d = 0) : FitS l d:=by
  unfold chkF at h;by_cases a : Kh l = 0
  · rw [a] at h;simp only [ne_eq,not_true_eq_false,if_false] at h;by_cases hb : ∀ b∈l,inV b.Lo 30∧inV b.Hi 30
    · rw [qq hb] at h;by_cases hd : inV d 8∧nzV d
      · exact ⟨a,fun b c=>by have:=hb b c;unfold inV at this;unfold Ya;omega,by have:=hd.1;unfold inV at this;unfold dirV;omega,hd.2⟩
      · rw [qs hd] at h;cases h
    · rw [qs hb] at h;cases h
  · rw [qq a] at h;exact absurd h a
theorem q16l (p : Int) : (Int.tmod p 2 == 0) = decide (¬ p % 2≠0):=by
  have a : (2 : Int) ∣ p↔Int.tmod p 2 = 0:=Int.dvd_iff_tmod_eq_zero;by_cases h : p % 2 = 0
  · have : Int.tmod p 2 = 0:=a.1 (Int.dvd_of_emod_eq_zero h);rw [this,Qb (by simpa using h)];rfl
  · have : Int.tmod p 2≠0:=fun g=>h (Int.emod_eq_zero_of_dvd (a.2 g));rw [Q8 (by simpa using h)];simpa using this
theorem ql4 {γ : Type} (f : Int→Option (Int ⊕ (Unit ⊕ Bool))) (p d : qh) (K : Option Bool)
    (l : ∀ i a,(i = 0∧a = (p.X,d.X))∨(i = 1∧a = (p.Y,d.Y))∨(i = 2∧a = (p.Z,d.Z))→f i = some (if fitA a.1 a.2 then .inl (i + 1) else .inr (.inr false))) (n : f 3 = some (.inr (.inl ()))) (o : K = some (decide (inV p 240))) :
    ((loop f 0 : Option (Unit ⊕ Bool)).bind fun m=>(match m with | .inl b62=>K | .inr x1=>some x1)) = some (decide (fitV p d∧inV p 240)):=by
  have s0:=l 0 _ (.inl ⟨rfl,rfl⟩);have c:=l 1 _ (.inr (.inl ⟨rfl,rfl⟩));have j:=l 2 _ (.inr (.inr ⟨rfl,rfl⟩));by_cases k : fitA p.X d.X
  · rw [qq k] at s0;rw [Kp s0,show (0 : Int) + 1 = 1 from rfl];by_cases b : fitA p.Y d.Y
    · rw [qq b] at c;rw [Kp c,show (1 : Int) + 1 = 2 from rfl];by_cases g : fitA p.Z d.Z
      · rw [qq g] at j;rw [Kp j,show (2 : Int) + 1 = 3 from rfl,Kd n];simp only [qj];rw [o];congr 1;exact decide_eq_decide.2 ⟨fun h=>⟨⟨k,b,g⟩,h⟩,fun h=>h.2⟩
      · rw [qs g] at j;rw [Kd j,Q8 fun h=>g h.1.2.2];rfl
    · rw [qs b] at c;rw [Kd c,Q8 fun h=>b h.1.2.1];rfl
  · rw [qs k] at s0;rw [Kd s0,Q8 fun h=>k h.1.1];rfl
theorem q67 (p d i : Int) (hi : 0≤i∧i < 3) : (((cond (d == 0) (some (Int.tmod p 2 == 0)) (some false)) : Option Bool).bind fun a=>cond a (some (Sum.inr (Sum.inr false))) (some (Sum.inl (w64 (i + 1)))) : Option (Int ⊕ (Unit ⊕ Bool))) = some (if fitA p d then .inl (i + 1) else .inr (.inr false)):=by
  rw [qv q0,q16l];by_cases h : d = 0
  · by_cases g : p % 2 = 0
    · rw [qs (show ¬ fitA p d from fun q=>q h g),show (d == 0) = true by simpa using h,Qb (by simpa using g)];rfl
    · rw [qq (show fitA p d from fun _=>g),show (d == 0) = true by simpa using h,Q8 (by simpa using g)];rfl
  · rw [qq (show fitA p d from fun q=>absurd q h),show (d == 0) = false by simpa using h];rfl
theorem q169 (p d : qh) : qbp ({p_:=p,d_:=d} : Yw) = some (decide (fitV p d∧inV p 240)):=by
  unfold qbp q1i;simp only [qj];refine ql4 (γ:=Unit) (qen (d.X,d.Y,d.Z) (p.X,p.Y,p.Z)) p d _ ?_ rfl (by rw [qel _ Q3];rfl);rintro i a (⟨rfl,rfl⟩ | ⟨rfl,rfl⟩ | ⟨rfl,rfl⟩)
  · exact q67 p.X d.X 0 Q3
  · exact q67 p.Y d.Y 1 Q3
  · exact q67 p.Z d.Z 2 Q3
theorem qzl (p d : qh) : q9y p d = some (decide (fitV p d∧inV p 240)):=by
  unfold q9y;refine ql4 (γ:=Unit) (qdq d p) p d _ ?_ rfl (by rw [qdr _ Q3];rfl);rintro i a (⟨rfl,rfl⟩ | ⟨rfl,rfl⟩ | ⟨rfl,rfl⟩)
  · exact q67 p.X d.X 0 Q3
  · exact q67 p.Y d.Y 1 Q3
  · exact q67 p.Z d.Z 2 Q3
theorem qhh {l : List qf} {p d : qh} (h : FitS l d) (hp : inV p 240) : Uk p d:=by
  have:=h.dr;unfold inV at hp;unfold dirV at this;unfold Uk;omega
theorem qlm {l : List qf} {p d : qh} (j : l.length≤1000000) (hb : ∀ b∈l,Ya b) (k : Uk p d) (f : nzV d) : q5s ({p_:=p,d_:=d} : Yw) l = some (!decide (blk l p d)):=by
  unfold q5s
  rw [qk8 l j (fun x0=>q8p x0 ({p_:=p,d_:=d} : Yw)) (fun b=>(hitC (axB b p d)).isSome) (fun b a=>by
    obtain ⟨t,g,_⟩:=qg9 (hb b a) k f
    unfold q8p;rw [g];rfl)]
  simp only [qj];congr 2;by_cases h : blk l p d
  · rw [Qb h];obtain ⟨b,g,c⟩:=h;exact List.any_eq_true.2 ⟨b,g,c⟩
  · rw [Q8 h,List.any_eq_false];intro b hb c;exact h ⟨b,hb,c⟩
theorem qm8 {b : qf} {p d : qh} : (hitT (axB b p d)).isSome = (hitC (axB b p d)).isSome:=by rw [← (qcu (l:=axB b p d)).1,Option.isSome_map]
def minP (m : Option (Int × Int)) (u : Option (Int × Int)) : Option (Int × Int):=match u with
  | none=>m
  | some u=>match m with
    | none=>some u
    | some v=>if befC u v = true then some u else some v
def encF (k : Int) : Option (Int × Int)→Bool × Int × Int × Int
  | none=>(false,k,0,0)
  | some u=>(true,k,u.1,u.2)
def U5 (l : List qf) (p d : qh) : Option (Int × Int):=l.foldl (fun m b=>minP m (hitC (axB b p d))) none
theorem qwp {m u : Option (Int × Int)} (a : ∀ x,m = some x→smP x∧0 < x.2∧0≤valC x) (b : ∀ x,u = some x→smP x∧0 < x.2∧0≤valC x) : (∀ x,minP m u = some x→smP x∧0 < x.2∧0≤valC x)∧(minP m u).map valC = minO (m.map valC) (u.map valC):=by
  cases u with
  | none=>exact ⟨a,by cases m <;> rfl⟩
  | some u=>
    cases m with
    | none=>exact ⟨b,rfl⟩
    | some v=>
      have h:=qc8 (b u rfl).2.1 (a v rfl).2.1;show (∀ x,(if befC u v = true then some u else some v) = some x→_)∧(if befC u v = true then some u else some v).map valC = some (min (valC v) (valC u));by_cases hb : befC u v = true
      · rw [qq hb];refine ⟨b,?_⟩;have:=h.1 hb;show some (valC u) = _;congr 1;grind
      · rw [qs hb];refine ⟨a,?_⟩;have : ¬ valC u < valC v:=fun g=>hb (h.2 g);show some (valC v) = _;congr 1;grind
theorem qvc {b : qf} {p d : qh} (hb : Ya b) (g : Uk p d) (a : nzV d) : ∀ x,hitC (axB b p d) = some x→smP x∧0 < x.2∧0≤valC x:=fun x c=>by
  obtain ⟨t,_,h⟩:=qg9 hb g a
  have f:=(qcu (l:=axB b p d)).2 x c
  exact ⟨(h x c).2,f⟩
theorem qfu {p d : qh} (f : Uk p d) (a : nzV d) : ∀ (l : List qf),(∀ b∈l,Ya b)→∀ m : Option (Int × Int),(∀ x,m = some x→smP x∧0 < x.2∧0≤valC x)→
    (∀ x,l.foldl (fun m b=>minP m (hitC (axB b p d))) m = some x→smP x∧0 < x.2∧0≤valC x)∧(l.foldl (fun m b=>minP m (hitC (axB b p d))) m).map valC = l.foldl (fun m b=>minO m (hitT (axB b p d))) (m.map valC)
  | [],_,m,hm=>⟨hm,rfl⟩
  | b::l,hb,m,hm=>by
    have h:=qwp hm (qvc (hb b qe) f a)
    rw [List.foldl_cons,List.foldl_cons]
    rw [← (qcu (l:=axB b p d)).1,← h.2]
    exact qfu f a l (fun c g=>hb c (by simp [g])) _ h.1
theorem qkz {l : List qf} {p d : qh} (hb : ∀ b∈l,Ya b) (c : Uk p d) (a : nzV d) : (∀ x,U5 l p d = some x→smP x∧0 < x.2∧0≤valC x)∧(U5 l p d).map valC = firstT l p d:=
  qfu c a l hb none qe
theorem q167 {l : List qf} {p d : qh} (r : l.length≤1000000) (hb : ∀ b∈l,Ya b) (o : Uk p d) (c : nzV d) : loop (q2l l p d) (false,0,0,0) = some ((encF 0 (U5 l p d)).1,(encF 0 (U5 l p d)).2.2):=by
  have key:=Zf (f:=q2l l p d) (fun k=>encF (k : Int) ((l.take k).foldl (fun m b=>minP m (hitC (axB b p d))) none)) l.length ((encF 0 (U5 l p d)).1,(encF 0 (U5 l p d)).2.2) (fun k a=>by
    rw [List.take_succ_eq_append_getElem a,List.foldl_append];have q:=(qfu o c (l.take k) (fun b n=>hb b (List.mem_of_mem_take n)) none qe).1;generalize (l.take k).foldl (fun m b=>minP m (hitC (axB b p d))) none = m at q;have g:=hb _ (Y7 a);obtain ⟨t,z,s⟩:=qg9 g o c
    have h : q2l l p d (encF (k : Int) m) = some (.inl (encF ((k + 1 : Nat) : Int) (minP m (hitC (axB l[k] p d))))):=by
      unfold q2l;have j : (encF (k : Int) m).2.1 = k:=by cases m <;> rfl
      rw [j,dlt a,qz,Qw a];simp only [qj,z,w64s a r]
      cases hc : hitC (axB l[k] p d) with
      | none=>cases m <;> rfl
      | some u=>
        obtain ⟨e2,y⟩:=s u hc;subst e2
        cases m with
        | none=>rfl
        | some v=>
          have x:=(q v rfl).1;obtain ⟨⟨c1,c2⟩,c3⟩:=x;obtain ⟨⟨c4,c5⟩,c6⟩:=y;simp only [encF,Option.isSome_some,qz,Bool.not_true,qy];rw [qc9 (by simp only;omega) (by simp only;omega) (by simp only;omega) (by simp only;omega)];simp only [qj,minP]
          cases hq : befC u v with
          | true=>rfl
          | false=>rfl
    rw [h];rfl) (by
    rw [List.take_length];show q2l l p d (encF (l.length : Int) (U5 l p d)) = _;unfold q2l;have j : (encF (l.length : Int) (U5 l p d)).2.1 = l.length:=by cases U5 l p d <;> rfl
    rw [j,dnl,qy]
    cases U5 l p d <;> rfl) (Nat.zero_le _)
  exact key
noncomputable def q2t (l : List qf) (p d : qh) : Yk × Int:=if chkF l d≠0 then (({Num:=0,Den:=0} : Yk),chkF l d) else if fitV p d∧inV p 240 then (match firstT l p d with | none=>(({Num:=0,Den:=0} : Yk),6) | some q=>(ofR q,0)) else (({Num:=0,Den:=0} : Yk),2)
theorem qil (l : List qf) (p d : qh) : q3q l p d = some (q2t l p d):=by
  unfold q3q q2t;rw [qej,qj];by_cases b : chkF l d = 0
  · have hs:=q2o b;have h:=q47 hs.ck;rw [b];simp only [show ((0 : Int) != 0) = false from rfl,qy,ne_eq,not_true_eq_false,if_false];rw [q169,qj];by_cases a : fitV p d∧inV p 240
    · rw [Qb a,qq a,q167 q0 hs.bx (qhh hs a.2) hs.nz];obtain ⟨c,f⟩:=qkz hs.bx (qhh hs a.2) hs.nz;rw [← f]
      cases g : U5 l p d with
      | none=>rfl
      | some u=>
        obtain ⟨⟨c1,c2⟩,c3,c4⟩:=c u g;simp only [encF,qj,Bool.not_true,qy,Option.map_some];rw [qzo c3 q0 q0];rfl
    · rw [Q8 a,qs a];rfl
  · rw [show (chkF l d != 0) = true by simpa using b,qz,qq b]
theorem qwt (l : List qf) : ∃ b,q9z l = some b∧(b = true→l.length≤420∧(l.length≤400→l.length≤6∧∀ b∈l,inV b.Lo 9∧inV b.Hi 9)):=by
  unfold q9z;by_cases f : (l.length : Int) > 400
  · rw [Qb f,qz];exact ⟨_,rfl,fun h=>⟨by have:=of_decide_eq_true h;omega,fun g=>q0⟩⟩
  · rw [Q8 f,qy]
    rcases Uu l (fun b=>!decide (inV b.Lo 9∧inV b.Hi 9)) (fun k _=>false) () (q73 l) (fun k d=>by
      simp only [q73,dlt d,qz,Qw d,qj,qdr _ (show (0 : Int)≤9∧(9 : Int)≤1000 by decide),w64s d (show l.length≤1000000 by omega)]
      by_cases a : inV l[k].Lo 9 <;> by_cases c : inV l[k].Hi 9 <;> simp [a,c]) (by simp only [q73,dnl,qy]) with ⟨h1,h2⟩ | ⟨k,d,hc,_,h2⟩
    · rw [h2];refine ⟨_,rfl,fun h=>⟨q0,fun _=>⟨by have:=of_decide_eq_true h;omega,fun b hb=>by simpa using h1 b hb⟩⟩⟩
    · rw [h2];exact ⟨_,rfl,fun h=>by cases h⟩
end Go.Sh
namespace Go.Sh
open Go Go.Am
def Zg {α : Type} (f : α→α→Int) (l : List α) : Nat→Int
  | 0=>0
  | n + 1=>Zg f l n + (match l[n]? with
    | some b=>sumL (fun c=>f b c) (l.take n)
    | none=>0)
theorem qnu {α : Type} (f : α→α→Int) (hs : ∀ a b,f a b = f b a) (l : List α) : ∀ n,n≤l.length→
    sumL (fun b=>sumL (fun c=>f b c) (l.take n)) (l.take n) = sumL (fun b=>f b b) (l.take n) + 2 * Zg f l n
  | 0,_=>by simp [sumL,Zg]
  | n + 1,h=>by
    have d:=qnu f hs l n q0
    rw [List.take_succ_eq_append_getElem q0]
    simp only [q8j,sumL,Int.add_zero,Zg,List.getElem?_eq_getElem (show n < l.length by omega),qie]
    have : sumL (fun b=>f b l[n]) (l.take n) = sumL (fun c=>f l[n] c) (l.take n):=Zw fun b _=>hs b _
    rw [this]
    omega
theorem qpz {α : Type} (f g : α→α→Int) {l : List α} (hp : l.Pairwise fun a b=>f a b = g a b∧f b a = g b a) : ∀ n,n≤l.length→
    sumL (fun b=>sumL (fun c=>f b c - g b c) (l.take n)) (l.take n) = sumL (fun b=>f b b - g b b) (l.take n)
  | 0,_=>by simp [sumL]
  | n + 1,h=>by
    have j:=qpz f g hp n q0
    have hq:=List.pairwise_iff_getElem.1 hp
    rw [List.take_succ_eq_append_getElem q0]
    simp only [q8j,sumL,Int.add_zero,qie,j]
    have d : ∀ b∈l.take n,f b l[n] = g b l[n]∧f l[n] b = g l[n] b:=fun b hb=>by
      obtain ⟨i,hi,rfl⟩:=List.getElem_of_mem hb
      rw [List.length_take] at hi
      rw [List.getElem_take]
      exact hq i n q0 q0 q0
    have m : sumL (fun b=>f b l[n] - g b l[n]) (l.take n) = 0:=(Zw (g:=fun _=>0) fun b hb=>by have:=d b hb;omega).trans (qq2 _)
    have k : sumL (fun c=>f l[n] c - g l[n] c) (l.take n) = 0:=(Zw (g:=fun _=>0) fun b hb=>by have:=d b hb;omega).trans (qq2 _)
    omega
theorem qgh {a b c : Prop} : ind (a∧b∧c) = ind a * (ind b * ind c):=by rw [q4g,q4g]
def ov (a0 a1 b0 b1 : Int) : Int:=max 0 (min a1 b1 - max a0 b0)
theorem qij {N : Nat} {a b c b1 : Int} (f : -N≤a) (d : b≤N) : sumZ N (fun x=>ind (a≤x∧x < b) * ind (c≤x∧x < b1)) = ov a b c b1:=by
  have : (fun x : Int=>ind (a≤x∧x < b) * ind (c≤x∧x < b1)) = fun x=>ind (max a c≤x∧x < min b b1):=by
    funext x;rw [← q4g];exact Ym ⟨fun h=>q0,fun h=>q0⟩
  rw [this];unfold ov;by_cases h : max a c≤min b b1
  · by_cases hb : c≤b∧a≤b1
    · rw [qeh q0 h q0];omega
    · omega
  · have : (fun x : Int=>ind (max a c≤x∧x < min b b1)) = fun _=>0:=by
      funext x;exact Ko q0
    rw [this,qei];omega
theorem qt5 {N : Nat} {b : qf} {d c g f a j : Int} (h : (-(N : Int)≤b.Lo.X∧-(N : Int)≤b.Lo.Y∧-(N : Int)≤b.Lo.Z)∧b.Hi.X≤N∧b.Hi.Y≤N∧b.Hi.Z≤N) :
    (sumZ N fun x=>sumZ N fun y=>sumZ N fun z=>ind (inB b x y z) * ind ((d≤x∧x < c)∧(g≤y∧y < f)∧(a≤z∧z < j))) = ov b.Lo.X b.Hi.X d c * (ov b.Lo.Y b.Hi.Y g f * ov b.Lo.Z b.Hi.Z a j):=by
  obtain ⟨⟨n,p,l⟩,o,k,m⟩:=h
  have e : ∀ x y,(sumZ N fun z=>ind (inB b x y z) * ind ((d≤x∧x < c)∧(g≤y∧y < f)∧(a≤z∧z < j))) = (ind (b.Lo.X≤x∧x < b.Hi.X) * ind (d≤x∧x < c)) * ((ind (b.Lo.Y≤y∧y < b.Hi.Y) * ind (g≤y∧y < f)) * ov b.Lo.Z b.Hi.Z a j):=fun x y=>by
    have : (fun z=>ind (inB b x y z) * ind ((d≤x∧x < c)∧(g≤y∧y < f)∧(a≤z∧z < j))) = fun z=>(ind (b.Lo.X≤x∧x < b.Hi.X) * ind (d≤x∧x < c)) * ((ind (b.Lo.Y≤y∧y < b.Hi.Y) * ind (g≤y∧y < f)) * (ind (b.Lo.Z≤z∧z < b.Hi.Z) * ind (a≤z∧z < j))):=by
      funext z;unfold inB;rw [qgh,qgh];simp only [Int.mul_assoc,Int.mul_left_comm,Int.mul_comm]
    rw [this,Ub,Ub,qij l m]
  have q : ∀ x,(sumZ N fun y=>sumZ N fun z=>ind (inB b x y z) * ind ((d≤x∧x < c)∧(g≤y∧y < f)∧(a≤z∧z < j))) = (ov b.Lo.Y b.Hi.Y g f * ov b.Lo.Z b.Hi.Z a j) * (ind (b.Lo.X≤x∧x < b.Hi.X) * ind (d≤x∧x < c)):=fun x=>by
    have : (fun y=>sumZ N fun z=>ind (inB b x y z) * ind ((d≤x∧x < c)∧(g≤y∧y < f)∧(a≤z∧z < j))) = fun y=>((ind (b.Lo.X≤x∧x < b.Hi.X) * ind (d≤x∧x < c)) * ov b.Lo.Z b.Hi.Z a j) * (ind (b.Lo.Y≤y∧y < b.Hi.Y) * ind (g≤y∧y < f)):=by
      funext y;rw [e];simp only [Int.mul_assoc,Int.mul_left_comm,Int.mul_comm]
    rw [this,Ub,qij p k];simp only [Int.mul_assoc,Int.mul_left_comm,Int.mul_comm]
  simp only [q];rw [Ub,qij n o,Int.mul_comm]
def Un (b c : qf) : Int:=
  ov b.Lo.X b.Hi.X (c.Lo.X - 1) (c.Hi.X - 1) * (ov b.Lo.Y b.Hi.Y c.Lo.Y c.Hi.Y * ov b.Lo.Z b.Hi.Z c.Lo.Z c.Hi.Z) + ov b.Lo.X b.Hi.X (c.Lo.X + 1) (c.Hi.X + 1) * (ov b.Lo.Y b.Hi.Y c.Lo.Y c.Hi.Y * ov b.Lo.Z b.Hi.Z c.Lo.Z c.Hi.Z) +
  (ov b.Lo.X b.Hi.X c.Lo.X c.Hi.X * (ov b.Lo.Y b.Hi.Y (c.Lo.Y - 1) (c.Hi.Y - 1) * ov b.Lo.Z b.Hi.Z c.Lo.Z c.Hi.Z) + ov b.Lo.X b.Hi.X c.Lo.X c.Hi.X * (ov b.Lo.Y b.Hi.Y (c.Lo.Y + 1) (c.Hi.Y + 1) * ov b.Lo.Z b.Hi.Z c.Lo.Z c.Hi.Z)) +
  (ov b.Lo.X b.Hi.X c.Lo.X c.Hi.X * (ov b.Lo.Y b.Hi.Y c.Lo.Y c.Hi.Y * ov b.Lo.Z b.Hi.Z (c.Lo.Z - 1) (c.Hi.Z - 1)) + ov b.Lo.X b.Hi.X c.Lo.X c.Hi.X * (ov b.Lo.Y b.Hi.Y c.Lo.Y c.Hi.Y * ov b.Lo.Z b.Hi.Z (c.Lo.Z + 1) (c.Hi.Z + 1)))
def Kr (a b : qf) : Int:=
  let x:=min a.Hi.X b.Hi.X - max a.Lo.X b.Lo.X
  let y:=min a.Hi.Y b.Hi.Y - max a.Lo.Y b.Lo.Y
  let z:=min a.Hi.Z b.Hi.Z - max a.Lo.Z b.Lo.Z
  if x = 0∧y > 0∧z > 0 then y * z else if x > 0∧y = 0∧z > 0 then x * z else if x > 0∧y > 0∧z = 0 then x * y else 0
theorem qtb (a b : qf) : Kr a b = Kr b a:=by
  unfold Kr;simp only [Int.min_comm b.Hi.X,Int.max_comm b.Lo.X,Int.min_comm b.Hi.Y,Int.max_comm b.Lo.Y,Int.min_comm b.Hi.Z,Int.max_comm b.Lo.Z]
def ltB (b : qf) : Prop:=b.Lo.X < b.Hi.X∧b.Lo.Y < b.Hi.Y∧b.Lo.Z < b.Hi.Z
theorem ov3 {a c b b1 : Int} (d : a < c) (hb : b < b1) :
    (min c b1 - max a b < 0∧ov a c b b1 = 0∧ov a c (b - 1) (b1 - 1) + ov a c (b + 1) (b1 + 1) = 0∧ov a c (b - 1) (b1 - 1) = 0∧ov a c (b + 1) (b1 + 1) = 0)∨
    (min c b1 - max a b = 0∧ov a c b b1 = 0∧ov a c (b - 1) (b1 - 1) + ov a c (b + 1) (b1 + 1) = 1)∨
    (min c b1 - max a b > 0∧ov a c b b1 = min c b1 - max a b):=by
  unfold ov;omega
theorem qpt {b c : qf} (hb : ltB b) (m : ltB c) (hd : ∀ x y z,¬ (inB b x y z∧inB c x y z)) : Un b c = Kr b c:=by
  obtain ⟨b1,l,k⟩:=hb;obtain ⟨c1,c2,c3⟩:=m
  have a : ¬ (min b.Hi.X c.Hi.X - max b.Lo.X c.Lo.X > 0∧min b.Hi.Y c.Hi.Y - max b.Lo.Y c.Lo.Y > 0∧min b.Hi.Z c.Hi.Z - max b.Lo.Z c.Lo.Z > 0):=fun ⟨n,h2,h3⟩=>
    hd (max b.Lo.X c.Lo.X) (max b.Lo.Y c.Lo.Y) (max b.Lo.Z c.Lo.Z) (by unfold inB;omega)
  have key : ∀ {X0 X1 Y0 Y1 Z0 d x y z : Int},((x < 0∧X0 = 0∧X1 = 0)∨(x = 0∧X0 = 0∧X1 = 1)∨(x > 0∧X0 = x))→((y < 0∧Y0 = 0∧Y1 = 0)∨(y = 0∧Y0 = 0∧Y1 = 1)∨(y > 0∧Y0 = y))→
      ((z < 0∧Z0 = 0∧d = 0)∨(z = 0∧Z0 = 0∧d = 1)∨(z > 0∧Z0 = z))→¬ (x > 0∧y > 0∧z > 0)→
      X1 * (Y0 * Z0) + X0 * (Y1 * Z0) + X0 * (Y0 * d) = if x = 0∧y > 0∧z > 0 then y * z else if x > 0∧y = 0∧z > 0 then x * z else if x > 0∧y > 0∧z = 0 then x * y else 0:=by
    intro X0 X1 Y0 Y1 Z0 d x y z j g f o
    rcases j with ⟨j,rfl,rfl⟩ | ⟨rfl,rfl,rfl⟩ | ⟨j,rfl⟩ <;> rcases g with ⟨g,rfl,rfl⟩ | ⟨rfl,rfl,rfl⟩ | ⟨g,rfl⟩ <;> rcases f with ⟨f,rfl,rfl⟩ | ⟨rfl,rfl,rfl⟩ | ⟨f,rfl⟩ <;>
      first
        | (exfalso;omega)
        | (simp only [Int.zero_mul,Int.mul_zero,Int.add_zero,Int.zero_add,Int.one_mul,Int.mul_one];clear hd a b1 l k c1 c2 c3;(repeat' split) <;> first | omega | (simp_all;done) | (simp_all;omega))
  have e : Un b c = (ov b.Lo.X b.Hi.X (c.Lo.X - 1) (c.Hi.X - 1) + ov b.Lo.X b.Hi.X (c.Lo.X + 1) (c.Hi.X + 1)) * (ov b.Lo.Y b.Hi.Y c.Lo.Y c.Hi.Y * ov b.Lo.Z b.Hi.Z c.Lo.Z c.Hi.Z) +
      ov b.Lo.X b.Hi.X c.Lo.X c.Hi.X * ((ov b.Lo.Y b.Hi.Y (c.Lo.Y - 1) (c.Hi.Y - 1) + ov b.Lo.Y b.Hi.Y (c.Lo.Y + 1) (c.Hi.Y + 1)) * ov b.Lo.Z b.Hi.Z c.Lo.Z c.Hi.Z) +
      ov b.Lo.X b.Hi.X c.Lo.X c.Hi.X * (ov b.Lo.Y b.Hi.Y c.Lo.Y c.Hi.Y * (ov b.Lo.Z b.Hi.Z (c.Lo.Z - 1) (c.Hi.Z - 1) + ov b.Lo.Z b.Hi.Z (c.Lo.Z + 1) (c.Hi.Z + 1))):=by
    unfold Un;simp only [Int.add_mul,Int.mul_add]
  rw [e];unfold Kr;refine key ?_ ?_ ?_ a
  · rcases ov3 b1 c1 with h | h | h
    · exact .inl ⟨h.1,h.2.1,h.2.2.1⟩
    · exact .inr (.inl h)
    · exact .inr (.inr h)
  · rcases ov3 l c2 with h | h | h
    · exact .inl ⟨h.1,h.2.1,h.2.2.1⟩
    · exact .inr (.inl h)
    · exact .inr (.inr h)
  · rcases ov3 k c3 with h | h | h
    · exact .inl ⟨h.1,h.2.1,h.2.2.1⟩
    · exact .inr (.inl h)
    · exact .inr (.inr h)
def Yv (b : qf) : Int:=2 * ((b.Hi.X - b.Lo.X) * (b.Hi.Y - b.Lo.Y) + (b.Hi.X - b.Lo.X) * (b.Hi.Z - b.Lo.Z) + (b.Hi.Y - b.Lo.Y) * (b.Hi.Z - b.Lo.Z))
theorem q15r {b : qf} (hb : ltB b) : 6 * volB b - Un b b = Yv b:=by
  obtain ⟨b1,d,f⟩:=hb;have o : ∀ {a c : Int},a < c→ov a c a c = c - a∧ov a c (a - 1) (c - 1) = c - a - 1∧ov a c (a + 1) (c + 1) = c - a - 1:=fun h=>by unfold ov;omega
  obtain ⟨x0,x1,j⟩:=o b1;obtain ⟨l,g,p⟩:=o d;obtain ⟨k,n,m⟩:=o f;unfold Un volB Yv;rw [x0,x1,j,l,g,p,k,n,m];generalize b.Hi.X - b.Lo.X = x;generalize b.Hi.Y - b.Lo.Y = y;generalize b.Hi.Z - b.Lo.Z = z;simp only [Int.sub_mul,Int.mul_sub,Int.one_mul,Int.mul_one,Int.mul_assoc];omega
noncomputable def q8s (N : Nat) (P : Int→Int→Int→Prop) : Int:=
  (cnt3 N (fun x y z=>P x y z∧¬ P (x + 1) y z) + cnt3 N (fun x y z=>P x y z∧¬ P (x - 1) y z)) +
  (cnt3 N (fun x y z=>P x y z∧¬ P x (y + 1) z) + cnt3 N (fun x y z=>P x y z∧¬ P x (y - 1) z)) +
  (cnt3 N (fun x y z=>P x y z∧¬ P x y (z + 1)) + cnt3 N (fun x y z=>P x y z∧¬ P x y (z - 1)))
def Zb (l : List qf) : Int:=sumL Yv l - 2 * Zg Kr l l.length
def vBN (N : Nat) (b : qf) : Prop:=ltB b∧(-(N : Int)≤b.Lo.X∧-(N : Int)≤b.Lo.Y∧-(N : Int)≤b.Lo.Z)∧b.Hi.X≤N∧b.Hi.Y≤N∧b.Hi.Z≤N
theorem q61 {N : Nat} {l : List qf} (g : ∀ x y z,cntB l x y z = ind (hasB l x y z)) (h : ∀ b∈l,vBN N b) (f a d : Int) :
    cnt3 N (fun x y z=>hasB l x y z∧¬ hasB l (x + f) (y + a) (z + d)) = volL l - sumL (fun b=>sumL (fun c=>ov b.Lo.X b.Hi.X (c.Lo.X - f) (c.Hi.X - f) * (ov b.Lo.Y b.Hi.Y (c.Lo.Y - a) (c.Hi.Y - a) * ov b.Lo.Z b.Hi.Z (c.Lo.Z - d) (c.Hi.Z - d))) l) l:=by
  have k : ∀ x y z,ind (hasB l x y z∧¬ hasB l (x + f) (y + a) (z + d)) = ind (hasB l x y z) - sumL (fun b=>sumL (fun c=>ind (inB b x y z) * ind ((c.Lo.X - f≤x∧x < c.Hi.X - f)∧(c.Lo.Y - a≤y∧y < c.Hi.Y - a)∧(c.Lo.Z - d≤z∧z < c.Hi.Z - d))) l) l:=fun x y z=>by
    have o : sumL (fun b=>sumL (fun c=>ind (inB b x y z) * ind ((c.Lo.X - f≤x∧x < c.Hi.X - f)∧(c.Lo.Y - a≤y∧y < c.Hi.Y - a)∧(c.Lo.Z - d≤z∧z < c.Hi.Z - d))) l) l = ind (hasB l x y z) * ind (hasB l (x + f) (y + a) (z + d)):=by
      rw [← g,← g]
      have m : ∀ b : qf,sumL (fun c : qf=>ind (inB b x y z) * ind ((c.Lo.X - f≤x∧x < c.Hi.X - f)∧(c.Lo.Y - a≤y∧y < c.Hi.Y - a)∧(c.Lo.Z - d≤z∧z < c.Hi.Z - d))) l = cntB l (x + f) (y + a) (z + d) * ind (inB b x y z):=fun b=>by
        rw [qbm,Int.mul_comm];unfold cntB;rw [Zw fun c _=>Ym (q:=inB c (x + f) (y + a) (z + d)) ⟨fun h=>by unfold inB;omega,fun h=>by unfold inB at h;omega⟩]
      simp only [m];rw [qbm,Int.mul_comm];rfl
    rw [o,q4g,qvo,Int.mul_sub,Int.mul_one]
  unfold cnt3;simp only [k,q166];have n : (sumZ N fun x=>sumZ N fun y=>sumZ N fun z=>ind (hasB l x y z)) = volL l:=(qip g fun b hb=>by have:=h b hb;unfold vBN ltB at this;omega).symm;rw [n];congr 1;simp only [← q5q];refine Zw fun b hb=>Zw fun c j=>?_;have:=h b hb;unfold vBN at this;exact qt5 this.2
theorem qt6 {l : List qf} (f : ∀ x y z,cntB l x y z = ind (hasB l x y z)) : l.Pairwise fun b c=>∀ x y z,¬ (inB b x y z∧inB c x y z):=by
  have key : ∀ l : List qf,(∀ x y z,cntB l x y z≤1)→l.Pairwise fun b c=>∀ x y z,¬ (inB b x y z∧inB c x y z):=by
    intro l
    induction l with
    | nil=>intro _;exact .nil
    | cons b l ih=>
      intro h
      have n : ∀ (l : List qf) x y z,0≤cntB l x y z:=fun l x y z=>by
        unfold cntB;induction l with
        | nil=>exact Int.le_refl _
        | cons c l ih=>have:=(Jm (p:=inB c x y z)).1;rw [sumL];omega
      have g : ∀ x y z,ind (inB b x y z) + cntB l x y z≤1:=h;refine List.pairwise_cons.2 ⟨fun c f x y z ⟨m,h2⟩=>?_,ih fun x y z=>by have:=g x y z;have:=(Jm (p:=inB b x y z)).1;omega⟩;have j:=g x y z;rw [Zq m] at j
      have k : ∀ l : List qf,c∈l→1≤cntB l x y z:=by
        intro l
        induction l with
        | nil=>intro h;cases h
        | cons d l ih2=>
          intro a;have e : cntB (d::l) x y z = ind (inB d x y z) + cntB l x y z:=rfl;rcases List.mem_cons.1 a with rfl | a
          · have:=n l x y z;rw [e,Zq h2];omega
          · have:=ih2 a;have:=(Jm (p:=inB d x y z)).1;rw [e];omega
      have:=k l f;omega
  exact key l fun x y z=>by rw [f];exact Jm.2
theorem qin {N : Nat} {l : List qf} (d : ∀ x y z,cntB l x y z = ind (hasB l x y z)) (h : ∀ b∈l,vBN N b) : Zb l = q8s N (hasB l):=by
  have hd:=qt6 d;have p:=q61 d h 1 0 0;have n:=q61 d h (-1) 0 0;have q:=q61 d h 0 1 0;have r:=q61 d h 0 (-1) 0;have j:=q61 d h 0 0 1;have m:=q61 d h 0 0 (-1);simp only [Int.add_zero,Int.sub_zero,Int.sub_neg,← Int.sub_eq_add_neg] at p n q r j m;unfold q8s;rw [p,n,q,r,j,m]
  have k : sumL (fun b=>sumL (fun c=>Un b c) l) l = 6 * volL l - sumL Yv l + 2 * Zg Kr l l.length:=by
    have g:=qpz Un Kr (l:=l) (List.Pairwise.imp_of_mem (fun {b c} hb f a=>⟨qpt (h b hb).1 (h c f).1 a,qpt (h c f).1 (h b hb).1 fun x y z o=>a x y z ⟨o.2,o.1⟩⟩) hd) l.length (Nat.le_refl _);have s:=qnu Kr qtb l l.length (Nat.le_refl _);rw [List.take_length] at g s;simp only [qq0] at g;have t : sumL (fun b=>6 * volB b - Un b b) l = sumL Yv l:=Zw fun b hb=>q15r (h b hb).1;rw [qq0,qbm] at t;unfold volL;have u : sumL (fun b=>sumL (fun c=>Un b c) l) l - sumL (fun b=>sumL (fun c=>Kr b c) l) l = sumL (fun b=>Un b b) l - sumL (fun b=>Kr b b) l:=g;omega
  unfold Zb;unfold Un at k;simp only [qie] at k;omega
theorem qes {b : qf} (h : vB b) : vBN 1000000 b:=by unfold vB at h;unfold vBN ltB;omega
theorem qqj {l : List qf} (a : CanB l) (h : ∀ b∈l,vB b) : Zb l = q8s 1000000 (hasB l):=qin a.cnt fun b hb=>qes (h b hb)
end Go.Sh
namespace Go.Sh
open Go Go.Am
theorem q17v {n : Int} (h : (Lit.int .u8 n).wf = true) : 0≤n:=by
  simp [Lit.wf,IntKind.min,IntKind.max,IntKind.signed,IntKind.bits] at h;omega
abbrev V3:=qh × qh × qh
def zeroV : qh:=⟨0,0,0⟩
noncomputable def axT (t : Nat) : V3:=match q9b (t : Int) with
  | some m=>m
  | none=>(zeroV,zeroV,zeroV)
theorem qup : ∀ t : Nat,t < 24→q9b (t : Int) = some (axT t):=by decide +kernel
noncomputable def qop (t : Nat) : List Int:=match iter (q9t (t : Int)) 7 (0,[]) with
  | some b=>b
  | none=>[]
theorem qvj : ∀ t : Nat,t < 24→iter (q9t (t : Int)) 7 (0,[]) = some (qop t):=by decide +kernel
theorem qvl : ∀ t : Nat,t < 24→((idx (qop t) (Int.tmod (t : Int) 4)).bind fun a=>(q1c (w64 (Int.tdiv (t : Int) 4))).bind fun g=>(q1c a).bind fun c=>(q1c (w64 (Int.tdiv (t : Int) 4))).bind fun d=>(q1c a).bind fun b=>(qdj d b).bind fun f=>some (g,c,f)) = some (axT t):=by decide +kernel
theorem qvk (t : Nat) (h : t < 24) : q9s (t : Int) = some (axT t):=by
  unfold q9s;rw [q6j.2 ⟨7,qvj t h⟩];exact qvl t h
def Zh (v : qh) : Prop:=-1≤v.X∧v.X≤1∧-1≤v.Y∧v.Y≤1∧-1≤v.Z∧v.Z≤1
instance (v : qh) : Decidable (Zh v):=by unfold Zh;infer_instance
theorem qjh : ∀ t : Nat,t < 24→Zh (axT t).1∧Zh (axT t).2.1∧Zh (axT t).2.2:=by decide +kernel
def mulV (m : V3) (v : qh) : qh:=⟨v.X * m.1.X + v.Y * m.2.1.X + v.Z * m.2.2.X,v.X * m.1.Y + v.Y * m.2.1.Y + v.Z * m.2.2.Y,v.X * m.1.Z + v.Y * m.2.1.Z + v.Z * m.2.2.Z⟩
def addV (a b : qh) : qh:=⟨a.X + b.X,a.Y + b.Y,a.Z + b.Z⟩
def Z5 (v : qh) (n : Int) : Prop:=-n≤v.X∧v.X≤n∧-n≤v.Y∧v.Y≤n∧-n≤v.Z∧v.Z≤n
theorem qws {a b : Int} {n : Int} (c : -n≤a∧a≤n) (hb : -1≤b∧b≤1) : -n≤a * b∧a * b≤n:=by
  have : b = -1∨b = 0∨b = 1:=by omega
  rcases this with rfl | rfl | rfl <;> simp <;> omega
theorem qgx {m : V3} {v : qh} {n : Int} (c : Zh m.1∧Zh m.2.1∧Zh m.2.2) (d : Z5 v n) :
    (∀ a∈[v.X * m.1.X,v.Y * m.2.1.X,v.Z * m.2.2.X,v.X * m.1.Y,v.Y * m.2.1.Y,v.Z * m.2.2.Y,v.X * m.1.Z,v.Y * m.2.1.Z,v.Z * m.2.2.Z],-n≤a∧a≤n):=by
  obtain ⟨⟨x,y,a3,f,a5,u⟩,⟨b1,p,t,q,g,l⟩,⟨c1,c2,c3,c4,o,z⟩⟩:=c;obtain ⟨v1,j,h,r,s,k⟩:=d;intro a b;simp only [List.mem_cons,List.not_mem_nil,or_false] at b;rcases b with rfl | rfl | rfl | rfl | rfl | rfl | rfl | rfl | rfl <;> exact qws ⟨by assumption,by assumption⟩ ⟨by assumption,by assumption⟩
theorem qnc {m : V3} {v : qh} {n : Int} (a : Zh m.1∧Zh m.2.1∧Zh m.2.2) (c : Z5 v n) : Z5 (mulV m v) (3 * n):=by
  have b:=qgx a c;simp only [List.mem_cons,List.not_mem_nil,or_false,forall_eq_or_imp,forall_eq] at b;unfold Z5 mulV;simp only;omega
theorem quu {m : V3} {v : qh} (a : Zh m.1∧Zh m.2.1∧Zh m.2.2) (c : Z5 v 1000000000000) : q9d m v = some (mulV m v):=by
  have b:=qgx a c;simp only [List.mem_cons,List.not_mem_nil,or_false,forall_eq_or_imp,forall_eq] at b;unfold q9d mulV;congr 2
  · rw [qv (x:=v.X * m.1.X) q0,qv (x:=v.Y * m.2.1.X) q0,qv (x:=v.Z * m.2.2.X) q0,qv (x:=v.X * m.1.X + _) q0,qv q0]
  · rw [qv (x:=v.X * m.1.Y) q0,qv (x:=v.Y * m.2.1.Y) q0,qv (x:=v.Z * m.2.2.Y) q0,qv (x:=v.X * m.1.Y + _) q0,qv q0]
  · rw [qv (x:=v.X * m.1.Z) q0,qv (x:=v.Y * m.2.1.Z) q0,qv (x:=v.Z * m.2.2.Z) q0,qv (x:=v.X * m.1.Z + _) q0,qv q0]
theorem qz7 {m : V3} {v : qh} (a : Zh m.1∧Zh m.2.1∧Zh m.2.2) (c : Z5 v 1000000000000) : q9u m v = some (mulV m v):=by
  have b:=qgx a c;simp only [List.mem_cons,List.not_mem_nil,or_false,forall_eq_or_imp,forall_eq] at b;unfold q9u q26 q25 mulV;simp only [qj];congr 2
  · rw [qv (x:=v.X * m.1.X) q0,qv (x:=v.Y * m.2.1.X) q0,qv (x:=v.Z * m.2.2.X) q0,qv (x:=v.Y * m.2.1.X + _) q0,qv q0];omega
  · rw [qv (x:=v.X * m.1.Y) q0,qv (x:=v.Y * m.2.1.Y) q0,qv (x:=v.Z * m.2.2.Y) q0,qv (x:=v.Y * m.2.1.Y + _) q0,qv q0];omega
  · rw [qv (x:=v.X * m.1.Z) q0,qv (x:=v.Y * m.2.1.Z) q0,qv (x:=v.Z * m.2.2.Z) q0,qv (x:=v.Y * m.2.1.Z + _) q0,qv q0];omega
noncomputable def Yq (t : Nat) (at_ v : qh) : qh:=addV (mulV (axT t) v) at_
theorem qus {f : Kv} {t : Nat} {v : qh} (g : f.Turn = t) (h : t < 24) (d : Z5 f.At 1000000000000) (a : Z5 v 1000000000000) : q9c f v = some (Yq t f.At v):=by
  have c:=qjh t h;unfold q9c;rw [g,qup t h];simp only [qj,quu c a];have b:=qnc c a;unfold Z5 at b d;unfold Yq addV;rw [qv q0,qv q0,qv q0]
theorem qz4 {f : Kv} {t : Nat} {v : qh} (g : f.Turn = t) (h : t < 24) (d : Z5 f.At 1000000000000) (a : Z5 v 1000000000000) : q4v f v = some (Yq t f.At v):=by
  have c:=qjh t h;unfold q4v;rw [g,qv q0,qvk t h];simp only [qj,qz7 c a];have b:=qnc c a;unfold Z5 at b d;unfold Yq addV q25;simp only [qj];rw [qv q0,qv q0,qv q0]
def InV (v : qh) (lo : Int) : Prop:=lo≤v.X∧v.X≤1000000∧lo≤v.Y∧v.Y≤1000000∧lo≤v.Z∧v.Z≤1000000
instance (v : qh) (lo : Int) : Decidable (InV v lo):=by unfold InV;infer_instance
theorem qkv (v : qh) (lo : Int) : q4b v lo = some (decide (InV v lo)):=by
  unfold q4b;by_cases a : min (min v.X v.Y) v.Z ≥ lo
  · by_cases b : max (max v.X v.Y) v.Z≤1000000
    · have : InV v lo:=by unfold InV;omega
      simp only [Qb a,Qb b,Qb this,qz,qj]
    · have : ¬ InV v lo:=by unfold InV;omega
      simp only [Qb a,Q8 b,Q8 this,qz,qj]
  · have : ¬ InV v lo:=by unfold InV;omega
    simp only [Q8 a,Q8 this,qy,qj]
def FOk (f : Kv) : Prop:=f.Turn < 24∧InV f.At (-1000000)
instance (f : Kv) : Decidable (FOk f):=by unfold FOk;infer_instance
def SOk (s : qja) : Prop:=FOk s.Frame∧InV s.Size 0
instance (s : qja) : Decidable (SOk s):=by unfold SOk;infer_instance
theorem qst {P Q : Prop} [Decidable P] [Decidable Q] {R : Prop} [Decidable R] (h : R↔P∧Q) : ((cond (decide (¬ P)) (some true) ((some (decide Q)).bind fun a=>some (!a))).bind fun c3=>cond c3 (some (8 : Int)) (some 0)) = some (if R then 0 else 8):=by
  by_cases p : P <;> by_cases q : Q <;> simp [p,q,h]
theorem qlj (f : Kv) : q6a f = some (if FOk f then 0 else 8):=by
  unfold q6a;rw [qkv];have e : decide (f.Turn ≥ 24) = decide (¬ f.Turn < 24):=by rw [decide_eq_decide];omega
  rw [e];exact qst Iff.rfl
theorem qme {v : qh} {lo : Int} (h : InV v lo) (a : -1000000≤lo) : Z5 v 1000000000000:=by unfold InV at h;unfold Z5;omega
end Go.Sh
namespace Go.Sh
open Go Go.Am
def qew : qf:={Lo:=({X:=0,Y:=0,Z:=0} : qh),Hi:=({X:=0,Y:=0,Z:=0} : qh)}
def Ka (h b : qf) : qf:={Lo:=({X:=min h.Lo.X b.Lo.X,Y:=min h.Lo.Y b.Lo.Y,Z:=min h.Lo.Z b.Lo.Z} : qh),Hi:=({X:=max h.Hi.X b.Hi.X,Y:=max h.Hi.Y b.Hi.Y,Z:=max h.Hi.Z b.Hi.Z} : qh)}
def Kc : List qf→qf
  | []=>qew
  | b::l=>(b::l).foldl Ka b
noncomputable def hull (l : List qf) : qf × Int:=if Kh l≠0 then (qew,Kh l) else if l = [] then (qew,6) else (Kc l,0)
theorem qvh (l : List qf) (_ : l.length≤1000000) (f : Int × Int × Int × Int × Int × Int × Int→Option ((Int × Int × Int × Int × Int × Int × Int) ⊕ (Int × Int × Int × Int × Int × Int)))
    (hs : ∀ k (h : k < l.length) (s : qf),f ((k : Int),s.Lo.X,s.Lo.Y,s.Lo.Z,s.Hi.X,s.Hi.Y,s.Hi.Z) = some (.inl (((k + 1 : Nat) : Int),(Ka s l[k]).Lo.X,(Ka s l[k]).Lo.Y,(Ka s l[k]).Lo.Z,(Ka s l[k]).Hi.X,(Ka s l[k]).Hi.Y,(Ka s l[k]).Hi.Z)))
    (hd : ∀ s : qf,f ((l.length : Int),s.Lo.X,s.Lo.Y,s.Lo.Z,s.Hi.X,s.Hi.Y,s.Hi.Z) = some (.inr (s.Lo.X,s.Lo.Y,s.Lo.Z,s.Hi.X,s.Hi.Y,s.Hi.Z))) (s : qf) (k : Nat) (a : k≤l.length) :
    loop f ((k : Int),((l.take k).foldl Ka s).Lo.X,((l.take k).foldl Ka s).Lo.Y,((l.take k).foldl Ka s).Lo.Z,((l.take k).foldl Ka s).Hi.X,((l.take k).foldl Ka s).Hi.Y,((l.take k).foldl Ka s).Hi.Z) =
      some ((l.foldl Ka s).Lo.X,(l.foldl Ka s).Lo.Y,(l.foldl Ka s).Lo.Z,(l.foldl Ka s).Hi.X,(l.foldl Ka s).Hi.Y,(l.foldl Ka s).Hi.Z):=
  Zf (f:=f) (fun k=>((k : Int),((l.take k).foldl Ka s).Lo.X,((l.take k).foldl Ka s).Lo.Y,((l.take k).foldl Ka s).Lo.Z,((l.take k).foldl Ka s).Hi.X,((l.take k).foldl Ka s).Hi.Y,((l.take k).foldl Ka s).Hi.Z)) l.length _ (fun k a=>by
    rw [hs k a,List.take_succ_eq_append_getElem a,List.foldl_append];rfl) (by rw [List.take_length,hd]) a
theorem q14x (l : List qf) : qb6 l = some (hull l):=by
  unfold qb6 hull;rw [qe7,qj];by_cases h : ¬ Kh l = 0
  · have : (Kh l != 0) = true:=by simpa using h
    rw [qq h,this,qz];rfl
  replace h:=Classical.not_not.1 h;have d:=(Jg.1 h).1;rw [qs (by simp [h]),h,show ((0 : Int) != 0) = false from rfl,qy]
  cases l with
  | nil=>rfl
  | cons b l=>
    have c : ((((b::l).length : Int)) == 0) = false:=by simp;omega
    have key:=qvh (b::l) q0 (q5e (b::l)) (fun k a s=>by
      simp only [q5e,dlt a,qz,Qw a,qj,w64s a q0];rfl) (fun s=>by simp only [q5e,dnl,qy]) b 0 (Nat.zero_le _)
    have key : loop (q5e (b::l)) (0,b.Lo.X,b.Lo.Y,b.Lo.Z,b.Hi.X,b.Hi.Y,b.Hi.Z) = _:=key;rw [c,qy,show idx (b::l) 0 = some b from rfl,qj,key,qs qe];rfl
def rowOk (a b c : Int) : Prop:=(a = 1∧b = 0∧c = 0)∨(a = -1∧b = 0∧c = 0)∨(a = 0∧b = 1∧c = 0)∨(a = 0∧b = -1∧c = 0)∨(a = 0∧b = 0∧c = 1)∨(a = 0∧b = 0∧c = -1)
instance (a b c : Int) : Decidable (rowOk a b c):=by unfold rowOk;infer_instance
theorem qrm : ∀ t : Nat,t < 24→rowOk (axT t).1.X (axT t).2.1.X (axT t).2.2.X∧rowOk (axT t).1.Y (axT t).2.1.Y (axT t).2.2.Y∧rowOk (axT t).1.Z (axT t).2.1.Z (axT t).2.2.Z:=by decide +kernel
theorem qhr {a b c x y z u v w : Int} (h : rowOk a b c) (f : x < u) (d : y < v) (g : z < w) : x * a + y * b + z * c≠u * a + v * b + w * c:=by
  rcases h with ⟨rfl,rfl,rfl⟩ | ⟨rfl,rfl,rfl⟩ | ⟨rfl,rfl,rfl⟩ | ⟨rfl,rfl,rfl⟩ | ⟨rfl,rfl,rfl⟩ | ⟨rfl,rfl,rfl⟩ <;> omega
def q5l (p q : qh) : qf:={Lo:=({X:=min p.X q.X,Y:=min p.Y q.Y,Z:=min p.Z q.Z} : qh),Hi:=({X:=max p.X q.X,Y:=max p.Y q.Y,Z:=max p.Z q.Z} : qh)}
noncomputable def Kw (t : Nat) (at_ : qh) (b : qf) : qf:=q5l (Yq t at_ b.Lo) (Yq t at_ b.Hi)
theorem qyp {t : Nat} (h : t < 24) (at_ : qh) {b : qf} (hb : ltB b) : (Yq t at_ b.Lo).X≠(Yq t at_ b.Hi).X∧(Yq t at_ b.Lo).Y≠(Yq t at_ b.Hi).Y∧(Yq t at_ b.Lo).Z≠(Yq t at_ b.Hi).Z:=by
  obtain ⟨c,a,d⟩:=qrm t h;unfold Yq addV mulV;have f:=qhr c hb.1 hb.2.1 hb.2.2;have j:=qhr a hb.1 hb.2.1 hb.2.2;have g:=qhr d hb.1 hb.2.1 hb.2.2;simp only;omega
theorem qio {t : Nat} (h : t < 24) (at_ : qh) {b : qf} (hb : ltB b) : vB (Kw t at_ b)↔InV (Yq t at_ b.Lo) (-1000000)∧InV (Yq t at_ b.Hi) (-1000000):=by
  obtain ⟨a,d,c⟩:=qyp h at_ hb;unfold Kw q5l vB InV;simp only;omega
noncomputable def place (l : List qf) (f : Kv) : List qf × Int:=
  if Kh l≠0 then ([],Kh l) else if ¬ FOk f then ([],8) else if ∀ b∈l,vB (Kw f.Turn.toNat f.At b) then mkB (l.map (Kw f.Turn.toNat f.At)) else ([],16)
theorem qqq {b : qf} (h : vB b) : Z5 b.Lo 1000000000000∧Z5 b.Hi 1000000000000∧InV b.Lo (-1000000)∧InV b.Hi (-1000000)∧ltB b:=by
  unfold vB at h;unfold Z5 InV ltB;omega
theorem qc5 {f : Kv} {t : Nat} (d : f.Turn = t) (a : t < 24) (b : FOk f) {v : qh} (c : InV v (-1000000)) : q69 f v = some (if InV (Yq t f.At v) (-1000000) then (Yq t f.At v,0) else (zeroV,16)):=by
  unfold q69;simp only [qlj,qkv,qj,qq b,show ((0 : Int) != 0) = false from rfl,qy,Qb c,Bool.not_true];rw [qus d a (qme b.2 q0) (qme c q0)];simp only [qj];by_cases hi : InV (Yq t f.At v) (-1000000)
  · rw [qq hi];simp [hi]
  · rw [qs hi];simp [hi];rfl
theorem qyo {l : List qf} (_ : l.length≤400) (P : qf→Prop) [DecidablePred P] (pl : qf→qf) (e : List qf × Int) (f : Int × List qf→Option ((Int × List qf) ⊕ ((List qf) ⊕ (List qf × Int))))
    (g : ∀ k (h : k < l.length) (o : List qf),o.length = k→P l[k]→f ((k : Int),o) = some (.inl (((k + 1 : Nat) : Int),o ++ [pl l[k]])))
    (c : ∀ k (h : k < l.length) (o : List qf),o.length = k→¬ P l[k]→f ((k : Int),o) = some (.inr (.inr e)))
    (hd : ∀ o,f ((l.length : Int),o) = some (.inr (.inl o))) : loop f (0,[]) = some (if ∀ b∈l,P b then .inl (l.map pl) else .inr e):=by
  have main:=qgl (f:=f) (fun k=>((k : Int),(l.take k).map pl)) l.length (fun j=>∀ b,l[j]? = some b→P b) (.inl (l.map pl)) (.inr e)
    (fun k a n=>by
      rw [g k a _ (by simp;omega) (n k (Nat.le_refl _) _ (List.getElem?_eq_getElem a)),List.take_succ_eq_append_getElem a,List.map_append];rfl)
    (fun k a _ hb=>c k a _ (by simp;omega) fun h=>hb fun b hb=>by rw [List.getElem?_eq_getElem a] at hb;cases hb;exact h)
    (fun _=>by rw [List.take_length,hd])
  have m : ((((0 : Nat) : Int),(l.take 0).map pl) : Int × List qf) = (0,[]):=rfl;rw [m] at main;rcases main with ⟨p,d⟩ | ⟨j,n,hb,d⟩
  · rw [d,qq];intro b hb;obtain ⟨i,hi,rfl⟩:=List.getElem_of_mem hb;exact p i hi _ (List.getElem?_eq_getElem hi)
  · rw [d,qs];intro h;exact hb fun b hb=>h b (List.mem_of_getElem? hb)
theorem qpj (l : List qf) (f : Kv) (v : 0≤f.Turn) : qb8 l f = some (place l f):=by
  unfold qb8 place;rw [qe7,qj];by_cases h : ¬ Kh l = 0
  · have : (Kh l != 0) = true:=by simpa using h
    rw [qq h,this,qz]
  replace h:=Classical.not_not.1 h;obtain ⟨u,r,y⟩:=Jg.1 h;rw [qs (by simp [h]),h,show ((0 : Int) != 0) = false from rfl,qy,qlj,qj];by_cases c : ¬ FOk f
  · rw [qs c,qq c];rfl
  replace c:=Classical.not_not.1 c;rw [qq c,qs (by simp [c]),show ((0 : Int) != 0) = false from rfl,qy];have m : f.Turn = (f.Turn.toNat : Int):=by omega
  have a : f.Turn.toNat < 24:=by have:=c.1;omega
  rw [qyo u (fun b=>vB (Kw f.Turn.toNat f.At b)) (Kw f.Turn.toNat f.At) ([],16) (q5f l f) (fun k g o t d=>by
      obtain ⟨s,x,p,n,q⟩:=qqq (r _ (Y7 g));obtain ⟨j,p2⟩:=(qio a f.At q).1 d;simp only [q5f,dlt g,qz,Qw g,qj,qc5 m a c p,qc5 m a c n,qq j,qq p2,show ((0 : Int) != 0) = false from rfl,qy,w64s g q0]
      rw [Y8 (by simp;omega)];rfl) (fun k g o t d=>by
      obtain ⟨s,x,p,n,q⟩:=qqq (r _ (Y7 g));rw [qio a f.At q] at d;simp only [q5f,dlt g,qz,Qw g,qj,qc5 m a c p,qc5 m a c n];by_cases j : InV (Yq f.Turn.toNat f.At l[k].Lo) (-1000000)
      · have p2 : ¬ InV (Yq f.Turn.toNat f.At l[k].Hi) (-1000000):=fun p2=>d ⟨j,p2⟩;rw [qq j,qs p2];rfl
      · rw [qs j];rfl) (fun o=>by simp only [q5f,dnl,qy])]
  rw [qj];by_cases d : ∀ b∈l,vB (Kw f.Turn.toNat f.At b)
  · rw [qq d,qq d];simp only [q150,qj]
  · rw [qs d,qs d]
end Go.Sh
namespace Go.Sh
open Go Go.Am
def wayV (k : Int) : qh:=if k = 0 then ⟨1,0,0⟩ else if k = 1 then ⟨-1,0,0⟩ else if k = 2 then ⟨0,1,0⟩ else if k = 3 then ⟨0,-1,0⟩ else if k = 4 then ⟨0,0,1⟩ else ⟨0,0,-1⟩
def dotV (a b : qh) : Int:=a.X * b.X + a.Y * b.Y + a.Z * b.Z
def J2 (v w : qh) : qh:=⟨2 * v.X + 1 + w.X,2 * v.Y + 1 + w.Y,2 * v.Z + 1 + w.Z⟩
def Yu (l : List qf) (v w d : qh) : Bool:=decide (0 < dotV w d) && !decide (blk l (J2 v w) d)
theorem six {k : Int} (h : 0≤k∧k < 6) : k = 0∨k = 1∨k = 2∨k = 3∨k = 4∨k = 5:=by omega
theorem qqv {k : Int} (h : 0≤k∧k < 6) : idxA 6 [(⟨1,0,0⟩ : qh),⟨-1,0,0⟩,⟨0,1,0⟩,⟨0,-1,0⟩,⟨0,0,1⟩,⟨0,0,-1⟩] k = some (wayV k):=by
  rcases six h with rfl | rfl | rfl | rfl | rfl | rfl <;> rfl
theorem qir {k : Int} (h : 0≤k∧k < 6) : (-1≤(wayV k).X∧(wayV k).X≤1)∧(-1≤(wayV k).Y∧(wayV k).Y≤1)∧(-1≤(wayV k).Z∧(wayV k).Z≤1):=by
  rcases six h with rfl | rfl | rfl | rfl | rfl | rfl <;> decide
theorem qtr {w d : qh} (a : (-1≤w.X∧w.X≤1)∧(-1≤w.Y∧w.Y≤1)∧(-1≤w.Z∧w.Z≤1)) (hd : dirV d) : w64 ((w64 ((w64 (w.X * d.X)) + (w64 (w.Y * d.Y)))) + (w64 (w.Z * d.Z))) = dotV w d:=by
  unfold dirV at hd;have b:=mulb a.1 hd.1;have p2:=mulb a.2.1 hd.2.1;have p3:=mulb a.2.2 hd.2.2;unfold dotV;rw [qv (x:=w.X * d.X) q0,qv (x:=w.Y * d.Y) q0,qv (x:=w.Z * d.Z) q0,qv (x:=w.X * d.X + w.Y * d.Y) q0,qv q0]
def ptOk (v : qh) : Prop:=(-30≤v.X∧v.X≤30)∧(-30≤v.Y∧v.Y≤30)∧(-30≤v.Z∧v.Z≤30)
theorem qva {l : List qf} (hb : ∀ b∈l,Ya b) {v : qh} (h : hasB l v.X v.Y v.Z) : ptOk v:=by
  obtain ⟨b,a,d,c,f⟩:=h;have:=hb b a;unfold Ya at this;unfold ptOk;omega
theorem qu8 {v w d : qh} (a : ptOk v) (b : (-1≤w.X∧w.X≤1)∧(-1≤w.Y∧w.Y≤1)∧(-1≤w.Z∧w.Z≤1)) (hd : dirV d) : Uk (J2 v w) d:=by
  unfold ptOk at a;unfold dirV at hd;unfold Uk J2;simp only;omega
theorem qqe {l : List qf} {d v : qh} (hs : FitS l d) (b : ptOk v) {k : Int} (f : 0≤k∧k < 6) : q8o l v (wayV k) d = some (Yu l v (wayV k) d):=by
  have a:=qir f;have g:=q47 hs.ck;generalize wayV k = w at a;unfold q8o Yu;rw [qtr a hs.dr];by_cases c : dotV w d≤0
  · rw [Qb c,Q8 q0];rfl
  · rw [Q8 c,Qb q0];unfold ptOk at b;unfold q1k;simp only [qy,qj];rw [qv (x:=v.X + v.X) q0,qv (x:=v.Y + v.Y) q0,qv (x:=v.Z + v.Z) q0,qv (x:=1 + w.X) q0,qv (x:=1 + w.Y) q0,qv (x:=1 + w.Z) q0,qv q0,qv q0,qv q0];rw [show ({X:=v.X + v.X + (1 + w.X),Y:=v.Y + v.Y + (1 + w.Y),Z:=v.Z + v.Z + (1 + w.Z)} : qh) = J2 v w by unfold J2;congr 1 <;> omega];rw [qlm q0 hs.bx (qu8 b a hs.dr) hs.nz];rfl
def K7 (l : List qf) (v w : qh) : Prop:=¬ hasB l (v.X + w.X) (v.Y + w.Y) (v.Z + w.Z)
instance q17j (l : List qf) (v w : qh) : Decidable (K7 l v w):=by unfold K7;infer_instance
theorem qq8 {v w : qh} (a : ptOk v) (b : (-1≤w.X∧w.X≤1)∧(-1≤w.Y∧w.Y≤1)∧(-1≤w.Z∧w.Z≤1)) : q1k v w = some (addV v w)∧q25 v w = some (addV v w):=by
  unfold ptOk at a;unfold q1k q25 addV;rw [qv q0,qv q0,qv q0];exact ⟨rfl,rfl⟩
noncomputable def litR (l : List qf) (v : qh) (k : Int) (d : qh) : Bool × Int:=if chkF l d≠0 then (false,chkF l d) else if 5 < k then (false,2) else if hasB l v.X v.Y v.Z∧K7 l v (wayV k) then (Yu l v (wayV k) d,0) else (false,6)
theorem qq9 (l : List qf) (v : qh) {k : Int} (f : 0≤k) (d : qh) : q3r l v k d = some (litR l v k d):=by
  unfold q3r litR;rw [qej,qj];by_cases b : chkF l d = 0
  · have hs:=q2o b;have j:=q47 hs.ck;rw [b];simp only [show ((0 : Int) != 0) = false from rfl,qy,ne_eq,not_true_eq_false,if_false];by_cases a : 5 < k
    · rw [Qb a,qq a];rfl
    · rw [Q8 a,qs a];unfold q8r;simp only [qy,qj];rw [qqv q0,qj,qi6 l v q0,qj];by_cases h : hasB l v.X v.Y v.Z
      · have c:=qva hs.bx h;rw [Qb h];simp only [Bool.not_true,qy];rw [(qq8 c (qir q0)).1,qj,qi6 l _ q0];simp only [qj];by_cases g : hasB l (addV v (wayV k)).X (addV v (wayV k)).Y (addV v (wayV k)).Z
        · rw [Qb g,qs (fun q=>q.2 g)];rfl
        · rw [Q8 g,qq ⟨h,g⟩,qy,qqe hs c q0];rfl
      · rw [Q8 h,qs (fun q=>h q.1)];rfl
  · rw [show (chkF l d != 0) = true by simpa using b,qz,qq b]
def sumI (lo hi : Int) (g : Int→Int) : Int:=sumN (hi - lo).toNat fun k=>g (lo + k)
theorem qib {lo hi : Int} {f g : Int→Int} (h : ∀ x,lo≤x→x < hi→f x = g x) : sumI lo hi f = sumI lo hi g:=q2f fun k a=>h _ q0 q0
theorem qcd {σ β : Type} (mk : Int→Int→Int→σ) (fin : Int→Int→β) (F : σ→Option (σ ⊕ β)) (lo hi : Int) (h j : Int→Int)
    (hs : ∀ i,lo≤i→i < hi→∀ d c,F (mk i (w64 d) (w64 c)) = some (.inl (mk (i + 1) (w64 (d + h i)) (w64 (c + j i)))))
    (hd : ∀ i,hi≤i→∀ a b,F (mk i a b) = some (.inr (fin a b))) (d c : Int) :
    loop F (mk lo (w64 d) (w64 c)) = some (fin (w64 (d + sumI lo hi h)) (w64 (c + sumI lo hi j))):=by
  have key:=Zf (f:=F) (fun k=>mk (lo + k) (w64 (d + sumN k fun k=>h (lo + k))) (w64 (c + sumN k fun k=>j (lo + k)))) (hi - lo).toNat (fin (w64 (d + sumI lo hi h)) (w64 (c + sumI lo hi j))) (fun k n=>by
    rw [hs _ q0 q0];have l : ∀ g : Int→Int,(sumN (k + 1) fun k=>g (lo + k)) = (sumN k fun k=>g (lo + k)) + g (lo + k):=fun g=>rfl
    rw [l,l,Int.add_assoc,Int.add_assoc,Int.add_assoc];rfl) (hd _ q0 _ _) (Nat.zero_le _)
  have m : ∀ g : Int→Int,(sumN 0 fun k=>g (lo + k)) = 0:=fun g=>rfl;simp only [m,Int.add_zero,show ((0 : Nat) : Int) = 0 from rfl] at key;exact key
theorem qq1 {α : Type} (g : α→Int) (l : List α) {k : Nat} (a : k < l.length) : sumL g (l.take (k + 1)) = sumL g (l.take k) + g l[k]:=by
  rw [List.take_succ_eq_append_getElem a,q8j];congr 1;show g l[k] + 0 = _;omega
theorem qt2 {α σ β : Type} (l : List α) (mk : Int→Int→Int→σ) (fin : Int→Int→β) (F : σ→Option (σ ⊕ β)) (h j : α→Int)
    (hs : ∀ k (m : k < l.length),∀ d c,F (mk k (w64 d) (w64 c)) = some (.inl (mk ((k + 1 : Nat) : Int) (w64 (d + h l[k])) (w64 (c + j l[k])))))
    (hd : ∀ a b,F (mk l.length a b) = some (.inr (fin a b))) (d c : Int) :
    loop F (mk 0 (w64 d) (w64 c)) = some (fin (w64 (d + sumL h l)) (w64 (c + sumL j l))):=by
  have key:=Zf (f:=F) (fun k=>mk k (w64 (d + sumL h (l.take k))) (w64 (c + sumL j (l.take k)))) l.length (fin (w64 (d + sumL h l)) (w64 (c + sumL j l))) (fun k m=>by
    rw [hs k m,qq1 h l m,qq1 j l m,Int.add_assoc,Int.add_assoc]) (by rw [List.take_length];exact hd _ _) (Nat.zero_le _)
  have n : ∀ g : α→Int,sumL g (l.take 0) = 0:=fun g=>rfl;simp only [n,Int.add_zero,show ((0 : Nat) : Int) = 0 from rfl] at key;exact key
noncomputable def g1F (l : List qf) (d v : qh) (k : Int) : Int:=ind (K7 l v (wayV k)∧Yu l v (wayV k) d = true)
noncomputable def g2F (l : List qf) (d v : qh) (k : Int) : Int:=ind (K7 l v (wayV k)∧Yu l v (wayV k) d = false)
noncomputable def cntC (g : qh→Int→Int) (b : qf) : Int:=sumI b.Lo.X b.Hi.X fun x=>sumI b.Lo.Y b.Hi.Y fun y=>sumI b.Lo.Z b.Hi.Z fun z=>sumI 0 6 fun k=>g ⟨x,y,z⟩ k
noncomputable def litN (l : List qf) (d : qh) : Int:=sumL (cntC (g1F l d)) l
noncomputable def Zt (l : List qf) (d : qh) : Int:=sumL (cntC (g2F l d)) l
noncomputable def U4 (l : List qf) (d : qh) : Int × Int × Int:=if chkF l d≠0 then (0,0,chkF l d) else (w64 (litN l d),w64 (Zt l d),0)
theorem Sc5 {l : List qf} {d : qh} (hs : FitS l d) (o : l.length≤400) (A B C : Int × Int × Int) (n : ptOk (⟨A.1,B.1,C.1⟩ : qh)) (k m : Int) :
    loop (q2k (⟨1,0,0⟩,⟨-1,0,0⟩,⟨0,1,0⟩,⟨0,-1,0⟩,⟨0,0,1⟩,⟨0,0,-1⟩) A B C l d) (0,w64 k,w64 m) = some (w64 (k + sumI 0 6 (g1F l d (⟨A.1,B.1,C.1⟩ : qh))),w64 (m + sumI 0 6 (g2F l d (⟨A.1,B.1,C.1⟩ : qh)))):=by
  refine qcd (fun i a c=>(i,a,c)) (fun a c=>(a,c)) (q2k (⟨1,0,0⟩,⟨-1,0,0⟩,⟨0,1,0⟩,⟨0,-1,0⟩,⟨0,0,1⟩,⟨0,0,-1⟩) A B C l d) 0 6 (g1F l d (⟨A.1,B.1,C.1⟩ : qh)) (g2F l d (⟨A.1,B.1,C.1⟩ : qh)) (fun i f b h j=>?_) (fun i hi a c=>?_) k m
  · show (q2k (⟨1,0,0⟩,⟨-1,0,0⟩,⟨0,1,0⟩,⟨0,-1,0⟩,⟨0,0,1⟩,⟨0,0,-1⟩) A B C l d) (i,w64 h,w64 j) = some (.inl (i + 1,w64 (h + g1F l d (⟨A.1,B.1,C.1⟩ : qh) i),w64 (j + g2F l d (⟨A.1,B.1,C.1⟩ : qh) i)));unfold q2k;simp only [Qb b,qz];rw [qqv ⟨f,b⟩,qj,(qq8 n (qir ⟨f,b⟩)).1,qj,qi6 l _ q0,qj,qv (x:=i + 1) q0];by_cases g : K7 l (⟨A.1,B.1,C.1⟩ : qh) (wayV i)
    · rw [Q8 (show ¬ hasB l (addV (⟨A.1,B.1,C.1⟩ : qh) (wayV i)).X (addV (⟨A.1,B.1,C.1⟩ : qh) (wayV i)).Y (addV (⟨A.1,B.1,C.1⟩ : qh) (wayV i)).Z from g),qy,qqe hs n ⟨f,b⟩,qj]
      cases hb : Yu l (⟨A.1,B.1,C.1⟩ : qh) (wayV i) d with
      | true=>
        rw [show g1F l d (⟨A.1,B.1,C.1⟩ : qh) i = 1 from Zq ⟨g,hb⟩,show g2F l d (⟨A.1,B.1,C.1⟩ : qh) i = 0 from Ko (by rw [hb];simp),Int.add_zero,qet h 1,qz,qj]
      | false=>
        rw [show g1F l d (⟨A.1,B.1,C.1⟩ : qh) i = 0 from Ko (by rw [hb];simp),show g2F l d (⟨A.1,B.1,C.1⟩ : qh) i = 1 from Zq ⟨g,hb⟩,Int.add_zero,qet j 1,qy,qj]
    · rw [Qb (show hasB l (addV (⟨A.1,B.1,C.1⟩ : qh) (wayV i)).X (addV (⟨A.1,B.1,C.1⟩ : qh) (wayV i)).Y (addV (⟨A.1,B.1,C.1⟩ : qh) (wayV i)).Z from Classical.not_not.1 g),show g1F l d (⟨A.1,B.1,C.1⟩ : qh) i = 0 from Ko fun q=>g q.1,show g2F l d (⟨A.1,B.1,C.1⟩ : qh) i = 0 from Ko fun q=>g q.1,Int.add_zero,Int.add_zero,qz,qj]
  · show (q2k (⟨1,0,0⟩,⟨-1,0,0⟩,⟨0,1,0⟩,⟨0,-1,0⟩,⟨0,0,1⟩,⟨0,0,-1⟩) A B C l d) (i,a,c) = _;unfold q2k;simp only [Q8 (show ¬ i < 6 by omega),qy]
theorem Sc4 {l : List qf} {d : qh} (hs : FitS l d) (o : l.length≤400) {b : qf} (h : Ya b) (A B : Int × Int × Int) (s : b.Lo.X≤A.1∧A.1 < b.Hi.X) (r : b.Lo.Y≤B.1∧B.1 < b.Hi.Y) (k m : Int) :
    loop (q2j b A B l d) (b.Lo.Z,w64 k,w64 m) = some (w64 (k + sumI b.Lo.Z b.Hi.Z fun z=>sumI 0 6 (g1F l d ⟨A.1,B.1,z⟩)),w64 (m + sumI b.Lo.Z b.Hi.Z fun z=>sumI 0 6 (g2F l d ⟨A.1,B.1,z⟩))):=by
  refine qcd (fun i a c=>(i,a,c)) (fun a c=>(a,c)) (q2j b A B l d) b.Lo.Z b.Hi.Z (fun z=>sumI 0 6 (g1F l d ⟨A.1,B.1,z⟩)) (fun z=>sumI 0 6 (g2F l d ⟨A.1,B.1,z⟩)) (fun i n j f g=>?_) (fun i hi a c=>?_) k m
  · have p : ptOk ⟨A.1,B.1,((i,w64 f,w64 g) : Int × Int × Int).1⟩:=by unfold Ya at h;unfold ptOk;simp only;omega
    have q:=Sc5 hs o A B (i,w64 f,w64 g) p f g;show (q2j b A B l d) (i,w64 f,w64 g) = some (.inl (i + 1,w64 (f + sumI 0 6 (g1F l d ⟨A.1,B.1,i⟩)),w64 (g + sumI 0 6 (g2F l d ⟨A.1,B.1,i⟩))));unfold q2j q8r;simp only [Qb j,qz,qj];rw [q];simp only [qj];rw [qv (x:=i + 1) (by unfold Ya at h;omega)]
  · show (q2j b A B l d) (i,a,c) = _;unfold q2j;simp only [Q8 (show ¬ i < b.Hi.Z by omega),qy]
theorem Sc3 {l : List qf} {d : qh} (hs : FitS l d) (o : l.length≤400) {b : qf} (f : Ya b) (A : Int × Int × Int) (p : b.Lo.X≤A.1∧A.1 < b.Hi.X) (m n : Int) :
    loop (q2i b A l d) (b.Lo.Y,w64 m,w64 n) = some (w64 (m + sumI b.Lo.Y b.Hi.Y fun y=>sumI b.Lo.Z b.Hi.Z fun z=>sumI 0 6 (g1F l d ⟨A.1,y,z⟩)),w64 (n + sumI b.Lo.Y b.Hi.Y fun y=>sumI b.Lo.Z b.Hi.Z fun z=>sumI 0 6 (g2F l d ⟨A.1,y,z⟩))):=by
  refine qcd (fun i a c=>(i,a,c)) (fun a c=>(a,c)) (q2i b A l d) b.Lo.Y b.Hi.Y (fun y=>sumI b.Lo.Z b.Hi.Z fun z=>sumI 0 6 (g1F l d ⟨A.1,y,z⟩)) (fun y=>sumI b.Lo.Z b.Hi.Z fun z=>sumI 0 6 (g2F l d ⟨A.1,y,z⟩)) (fun i k g h j=>?_) (fun i hi a c=>?_) m n
  · have q:=Sc4 hs o f A (i,w64 h,w64 j) p ⟨k,g⟩ h j;show (q2i b A l d) (i,w64 h,w64 j) = some (.inl (i + 1,w64 (h + sumI b.Lo.Z b.Hi.Z fun z=>sumI 0 6 (g1F l d ⟨A.1,i,z⟩)),w64 (j + sumI b.Lo.Z b.Hi.Z fun z=>sumI 0 6 (g2F l d ⟨A.1,i,z⟩))));unfold q2i;simp only [Qb g,qz,qj];rw [q];simp only [qj];rw [qv (x:=i + 1) (by unfold Ya at f;omega)]
  · show (q2i b A l d) (i,a,c) = _;unfold q2i;simp only [Q8 (show ¬ i < b.Hi.Y by omega),qy]
theorem Sc2 {l : List qf} {d : qh} (hs : FitS l d) (o : l.length≤400) {b : qf} (f : Ya b) (m n : Int) :
    loop (q2h b l d) (b.Lo.X,w64 m,w64 n) = some (w64 (m + cntC (g1F l d) b),w64 (n + cntC (g2F l d) b)):=by
  refine qcd (fun i a c=>(i,a,c)) (fun a c=>(a,c)) (q2h b l d) b.Lo.X b.Hi.X (fun x=>sumI b.Lo.Y b.Hi.Y fun y=>sumI b.Lo.Z b.Hi.Z fun z=>sumI 0 6 (g1F l d ⟨x,y,z⟩)) (fun x=>sumI b.Lo.Y b.Hi.Y fun y=>sumI b.Lo.Z b.Hi.Z fun z=>sumI 0 6 (g2F l d ⟨x,y,z⟩)) (fun i k g h j=>?_) (fun i hi a c=>?_) m n
  · have p:=Sc3 hs o f (i,w64 h,w64 j) ⟨k,g⟩ h j;show (q2h b l d) (i,w64 h,w64 j) = some (.inl (i + 1,w64 (h + sumI b.Lo.Y b.Hi.Y fun y=>sumI b.Lo.Z b.Hi.Z fun z=>sumI 0 6 (g1F l d ⟨i,y,z⟩)),w64 (j + sumI b.Lo.Y b.Hi.Y fun y=>sumI b.Lo.Z b.Hi.Z fun z=>sumI 0 6 (g2F l d ⟨i,y,z⟩))));unfold q2h;simp only [Qb g,qz,qj];rw [p];simp only [qj];rw [qv (x:=i + 1) (by unfold Ya at f;omega)]
  · show (q2h b l d) (i,a,c) = _;unfold q2h;simp only [Q8 (show ¬ i < b.Hi.X by omega),qy]
theorem Sc1 {l : List qf} {d : qh} (hs : FitS l d) (m : l.length≤400) : loop (q2g l d) (0,0,0) = some (w64 (litN l d),w64 (Zt l d)):=by
  have h:=qt2 l (fun i a c=>(i,a,c)) (fun a b=>(a,b)) (q2g l d) (cntC (g1F l d)) (cntC (g2F l d)) (fun k f j g=>by
    have n:=Sc2 hs m (hs.bx _ (Y7 f)) j g;show (q2g l d) ((k : Int),w64 j,w64 g) = some (.inl (((k + 1 : Nat) : Int),w64 (j + cntC (g1F l d) l[k]),w64 (g + cntC (g2F l d) l[k])));unfold q2g;simp only [dlt f,qz,Qw f,qj,w64s f (show l.length≤1000000 by omega)]
    rw [n];rfl) (fun a b=>by
    show (q2g l d) ((l.length : Int),a,b) = _
    unfold q2g;simp only [dnl,qy]) 0 0
  rw [Int.zero_add,Int.zero_add] at h;exact h
theorem qbn (l : List qf) (d : qh) : q1g l d = some (U4 l d):=by
  unfold q1g U4;rw [qej,qj];by_cases a : chkF l d = 0
  · have hs:=q2o a;rw [a];simp only [show ((0 : Int) != 0) = false from rfl,qy,ne_eq,not_true_eq_false,if_false,qj];rw [Sc1 hs (q47 hs.ck)];rfl
  · rw [show (chkF l d != 0) = true by simpa using a,qz,qq a]
end Go.Sh
namespace Go.Sh
open Go Go.Am
theorem q16x (a b : Int) : w64 (a - w64 b) = w64 (a + -b):=by rw [q16y,Int.sub_eq_add_neg]
theorem q6q {x y : Int} (j : -2000002≤x∧x≤2000002) (g : -2000002≤y∧y≤2000002) : -4000008000004≤x * y∧x * y≤4000008000004:=by
  by_cases h : 0≤x
  · by_cases a : 0≤y
    · have:=Int.mul_le_mul j.2 g.2 a q0;have:=Int.mul_nonneg h a;omega
    · have f : 0≤-y:=by omega
      have b:=Int.mul_le_mul j.2 (show -y≤2000002 by omega) f q0;have c:=Int.mul_nonneg h f;rw [Int.mul_neg] at b c;omega
  · have d : 0≤-x:=by omega
    by_cases a : 0≤y
    · have b:=Int.mul_le_mul (show -x≤2000002 by omega) g.2 a q0;have c:=Int.mul_nonneg d a;rw [Int.neg_mul] at b c;omega
    · have f : 0≤-y:=by omega
      have b:=Int.mul_le_mul (show -x≤2000002 by omega) (show -y≤2000002 by omega) f q0;have c:=Int.mul_nonneg d f;rw [Int.neg_mul_neg] at b c;omega
theorem q157 {b c : qf} (hb : vB b) (o : vB c) : qbb b c = some (Kr b c):=by
  unfold qbb Kr;unfold vB at hb o;have n : w64 (min b.Hi.X c.Hi.X - max b.Lo.X c.Lo.X) = min b.Hi.X c.Hi.X - max b.Lo.X c.Lo.X:=qv q0;have l : w64 (min b.Hi.Y c.Hi.Y - max b.Lo.Y c.Lo.Y) = min b.Hi.Y c.Hi.Y - max b.Lo.Y c.Lo.Y:=qv q0;have m : w64 (min b.Hi.Z c.Hi.Z - max b.Lo.Z c.Lo.Z) = min b.Hi.Z c.Hi.Z - max b.Lo.Z c.Lo.Z:=qv q0;simp only [n,l,m];have bx : -2000002≤min b.Hi.X c.Hi.X - max b.Lo.X c.Lo.X∧min b.Hi.X c.Hi.X - max b.Lo.X c.Lo.X≤2000002:=by omega
  have j : -2000002≤min b.Hi.Y c.Hi.Y - max b.Lo.Y c.Lo.Y∧min b.Hi.Y c.Hi.Y - max b.Lo.Y c.Lo.Y≤2000002:=by omega
  have h : -2000002≤min b.Hi.Z c.Hi.Z - max b.Lo.Z c.Lo.Z∧min b.Hi.Z c.Hi.Z - max b.Lo.Z c.Lo.Z≤2000002:=by omega
  generalize min b.Hi.X c.Hi.X - max b.Lo.X c.Lo.X = x at *;generalize min b.Hi.Y c.Hi.Y - max b.Lo.Y c.Lo.Y = y at *;generalize min b.Hi.Z c.Hi.Z - max b.Lo.Z c.Lo.Z = z at *;have p:=q6q j h;have p2:=q6q bx h;have p3:=q6q bx j;rw [qv (x:=y * z) q0,qv (x:=x * z) q0,qv (x:=x * y) q0];by_cases x0 : x = 0
  · subst x0;by_cases d : y > 0 <;> by_cases a : z > 0 <;> simp [d,a]
  · have ex : (x == 0) = false:=by simpa using x0
    by_cases x1 : x > 0
    · by_cases d : y = 0
      · subst d;by_cases a : z > 0 <;> simp [x0,ex,x1,a]
      · have g : (y == 0) = false:=by simpa using d
        by_cases f : y > 0
        · by_cases a : z = 0
          · subst a;simp [x0,ex,x1,d,g,f]
          · have k : (z == 0) = false:=by simpa using a
            simp [x0,ex,x1,d,g,f,a,k]
        · simp [x0,ex,x1,d,g,f]
    · simp [x0,ex,x1]
theorem qua {b : qf} (h : vB b) : w64 (2 * (w64 ((w64 ((w64 ((w64 (b.Hi.X - b.Lo.X)) * (w64 (b.Hi.Y - b.Lo.Y)))) + (w64 ((w64 (b.Hi.X - b.Lo.X)) * (w64 (b.Hi.Z - b.Lo.Z)))))) + (w64 ((w64 (b.Hi.Y - b.Lo.Y)) * (w64 (b.Hi.Z - b.Lo.Z))))))) = Yv b:=by
  unfold vB at h;rw [qv (x:=b.Hi.X - b.Lo.X) q0,qv (x:=b.Hi.Y - b.Lo.Y) q0,qv (x:=b.Hi.Z - b.Lo.Z) q0];have a:=q6q (x:=b.Hi.X - b.Lo.X) (y:=b.Hi.Y - b.Lo.Y) q0 q0;have p2:=q6q (x:=b.Hi.X - b.Lo.X) (y:=b.Hi.Z - b.Lo.Z) q0 q0;have p3:=q6q (x:=b.Hi.Y - b.Lo.Y) (y:=b.Hi.Z - b.Lo.Z) q0 q0;unfold Yv;rw [qv (x:=(b.Hi.X - b.Lo.X) * (b.Hi.Y - b.Lo.Y)) q0,qv (x:=(b.Hi.X - b.Lo.X) * (b.Hi.Z - b.Lo.Z)) q0,qv (x:=(b.Hi.Y - b.Lo.Y) * (b.Hi.Z - b.Lo.Z)) q0];rw [qv (x:=(b.Hi.X - b.Lo.X) * (b.Hi.Y - b.Lo.Y) + (b.Hi.X - b.Lo.X) * (b.Hi.Z - b.Lo.Z)) q0,qv (x:=(b.Hi.X - b.Lo.X) * (b.Hi.Y - b.Lo.Y) + (b.Hi.X - b.Lo.X) * (b.Hi.Z - b.Lo.Z) + (b.Hi.Y - b.Lo.Y) * (b.Hi.Z - b.Lo.Z)) q0,qv q0]
theorem q16f {l : List qf} (h : l.length≤1000000) (f : ∀ c∈l,vB c) {b : qf} (hb : vB b) (n m : Int) (j : n = w64 m) :
    loop (q5h l b) (n,0) = some (w64 (m - 2 * sumL (fun c=>Kr b c) l)):=by
  rw [qug l h (fun n c=>w64 (n + (-2) * (if vB c then Kr b c else 0))) (fun n=>n) (q5h l b) (fun k a s=>by
    have d:=f _ (Y7 a);simp only [q5h,dlt a,qz,Qw a,qj,q157 hb d,w64s a h,qq d];rw [q16x];have : -(2 * Kr b l[k]) = -2 * Kr b l[k]:=by omega
    rw [this]) (fun s=>by simp only [q5h,dnl,qy]) n]
  rw [qld (fun c=>-2 * (if vB c then Kr b c else 0)) l n m j,qbm,Zw (g:=fun c=>Kr b c) fun c d=>by rw [qq (f c d)]];congr 2;omega
theorem q16g {l : List qf} (m : l.length≤400) (d : ∀ c∈l,vB c) : loop (q5g l) (0,0) = some (w64 (Zb l)):=by
  have key:=Zf (f:=q5g l) (fun k=>(w64 (sumL Yv (l.take k) - 2 * Zg Kr l k),(k : Int))) l.length (w64 (Zb l)) (fun k a=>by
    have hb:=d _ (Y7 a)
    have j : slc l 0 (k : Int) = some (l.take k):=by
      unfold slc;rw [qq q0];simp
    have b:=q16f (l:=l.take k) (by rw [List.length_take];omega) (fun c h=>d c (List.mem_of_mem_take h)) hb (w64 (w64 (sumL Yv (l.take k) - 2 * Zg Kr l k) + Yv l[k])) (sumL Yv (l.take k) - 2 * Zg Kr l k + Yv l[k]) (qet _ _);simp only [q5g,dlt a,qz,Qw a,qj,qe9,j,qua hb,b,w64s a q0];congr 3;rw [List.take_succ_eq_append_getElem a,q8j];simp only [Zg,List.getElem?_eq_getElem a,sumL,Int.add_zero];congr 1
    omega) (by
    simp only [q5g,dnl,qy,List.take_length];rfl) (Nat.zero_le _)
  have g : (w64 (sumL Yv (l.take 0) - 2 * Zg Kr l 0),((0 : Nat) : Int)) = ((0 : Int),(0 : Int)):=by
    simp [sumL,Zg];exact qv q0
  rw [g] at key;exact key
theorem qtd (b c : qf) : 0≤Kr b c:=by
  unfold Kr;simp only;split
  · rename_i h;exact Int.mul_nonneg q0 q0
  · split
    · rename_i h;exact Int.mul_nonneg q0 q0
    · split
      · rename_i h;exact Int.mul_nonneg q0 q0
      · exact Int.le_refl _
noncomputable def qep (l : List qf) : Int × Int:=if Kh l≠0 then (0,Kh l) else (Zb l,0)
theorem q16e (N : Nat) (P : Int→Int→Int→Prop) : 0≤q8s N P:=by
  unfold q8s;have:=fun Q=>(qsy N Q).1;have f:=this fun x y z=>P x y z∧¬ P (x + 1) y z;have a:=this fun x y z=>P x y z∧¬ P (x - 1) y z;have b:=this fun x y z=>P x y z∧¬ P x (y + 1) z;have d:=this fun x y z=>P x y z∧¬ P x (y - 1) z;have g:=this fun x y z=>P x y z∧¬ P x y (z + 1);have c:=this fun x y z=>P x y z∧¬ P x y (z - 1);omega
theorem q16c {l : List qf} (h : Kh l = 0) : 0≤Zb l∧Zb l≤9600000000000000000 / 1000:=by
  obtain ⟨o,a,g⟩:=Jg.1 h;refine ⟨by rw [qqj g a];exact q16e _ _,?_⟩
  have hp : ∀ n,0≤Zg Kr l n:=by
    intro n
    induction n with
    | zero=>exact Int.le_refl _
    | succ n ih=>
      rw [Zg]
      have : ∀ (b : qf) (l : List qf),0≤sumL (fun c=>Kr b c) l:=fun b l=>by
        induction l with
        | nil=>exact Int.le_refl _
        | cons c l ih=>rw [sumL];have:=qtd b c;omega
      split
      · rename_i b _;have:=this b (l.take n);omega
      · omega
  have f : ∀ l : List qf,(∀ b∈l,vB b)→sumL Yv l≤l.length * 24000000000000:=by
    intro l
    induction l with
    | nil=>intro _;exact Int.le_refl _
    | cons b l ih=>
      intro d;have m:=ih fun c j=>d c (by simp [j]);have hb:=d b qe;unfold vB at hb;have k:=(qha (x:=b.Hi.X - b.Lo.X) (y:=b.Hi.Y - b.Lo.Y) (z:=0) q0 q0 q0).1;have p2:=(qha (x:=b.Hi.X - b.Lo.X) (y:=b.Hi.Z - b.Lo.Z) (z:=0) q0 q0 q0).1;have p3:=(qha (x:=b.Hi.Y - b.Lo.Y) (y:=b.Hi.Z - b.Lo.Z) (z:=0) q0 q0 q0).1;have : Yv b≤24000000000000:=by unfold Yv;omega
      rw [sumL,List.length_cons];omega
  have:=f l a;have:=hp l.length;unfold Zb;omega
theorem q153 (l : List qf) : qb9 l = some (qep l):=by
  unfold qb9 qep;rw [qe7,qj];by_cases h : ¬ Kh l = 0
  · have : (Kh l != 0) = true:=by simpa using h
    rw [qq h,this,qz]
  replace h:=Classical.not_not.1 h;obtain ⟨b,a,c⟩:=Jg.1 h;have:=q16c h;rw [qs (by simp [h]),h,show ((0 : Int) != 0) = false from rfl,qy,q16g b a,qv q0];rfl
end Go.Sh
namespace Go.Sh
open Go Go.Am
def grpR : List ql→List (Grp qo)
  | []=>[]
  | r::l=>match grpR l with
    | g::gs=>if g.lo = r.X0∧g.hi = r.X1 then ⟨g.lo,g.hi,ysp r::g.sec⟩::gs else ⟨r.X0,r.X1,[ysp r]⟩::g::gs
    | []=>[⟨r.X0,r.X1,[ysp r]⟩]
def grpB : List qf→List (Grp ql)
  | []=>[]
  | r::l=>match grpB l with
    | g::gs=>if g.lo = r.Lo.Z∧g.hi = r.Hi.Z then ⟨g.lo,g.hi,Jq r::g.sec⟩::gs else ⟨r.Lo.Z,r.Hi.Z,[Jq r]⟩::g::gs
    | []=>[⟨r.Lo.Z,r.Hi.Z,[Jq r]⟩]
theorem qlz : ∀ l : List ql,Kz putR (grpR l) = l
  | []=>rfl
  | r::l=>by
    have a:=qlz l
    unfold grpR
    split
    · rename_i g d h
      rw [h] at a
      split
      · rename_i b
        obtain ⟨b,c⟩:=b
        rw [← a]
        simp only [Kz,List.flatMap_cons,List.map_cons,List.cons_append,b,c]
        congr 1
      · rw [← a];rfl
    · rename_i h
      rw [h] at a
      rw [← a];rfl
theorem qly : ∀ l : List qf,Kz putB (grpB l) = l
  | []=>rfl
  | r::l=>by
    have a:=qly l
    unfold grpB
    split
    · rename_i g d h
      rw [h] at a
      split
      · rename_i b
        obtain ⟨b,c⟩:=b
        rw [← a]
        simp only [Kz,List.flatMap_cons,List.map_cons,List.cons_append,b,c]
        congr 1
      · rw [← a];rfl
    · rename_i h
      rw [h] at a
      rw [← a];rfl
instance {σ : Type} [DecidableEq σ] (gs : List (Grp σ)) : Decidable (CanG gs):=by unfold CanG;infer_instance
instance (s : List qo) : Decidable (Can s):=by unfold Can;infer_instance
def isR (l : List ql) : Prop:=CanG (grpR l)∧∀ g∈grpR l,Can g.sec
instance (l : List ql) : Decidable (isR l):=by unfold isR;infer_instance
def isB (l : List qf) : Prop:=CanG (grpB l)∧∀ g∈grpB l,isR g.sec
instance (l : List qf) : Decidable (isB l):=by unfold isB;infer_instance
theorem isR.can {l : List ql} (h : isR l) : CanR l:=⟨grpR l,(qlz l).symm,h.1,h.2⟩
theorem isB.can {l : List qf} (h : isB l) : CanB l:=⟨grpB l,(qly l).symm,h.1,fun g a=>(h.2 g a).can⟩
theorem qjv {l : List qf} (h : l.length≤400∧(∀ b∈l,vB b)∧isB l) : Kh l = 0:=Jg.2 ⟨h.1,h.2.1,h.2.2.can⟩
def bx (x y z u v w : Int) : qf:={Lo:=({X:=x,Y:=y,Z:=z} : qh),Hi:=({X:=u,Y:=v,Z:=w} : qh)}
instance (kind : Int) (a b : Prop) [Decidable a] [Decidable b] : Decidable (Yg kind a b):=by unfold Yg;infer_instance
end Go.Sh
namespace Go.Sh
open Go Go.Am
end Go.Sh
namespace Go.Sh
open Go Go.Am
def qa6 (P : Int→Bool) (l : List qo) (y : Int) : List qo:=if P y = true then (match l.getLast? with | some s=>if s.Hi = y then l.dropLast ++ [{Lo:=s.Lo,Hi:=y + 1}] else l ++ [{Lo:=y,Hi:=y + 1}] | none=>l ++ [{Lo:=y,Hi:=y + 1}]) else l
def J9 (P : Int→Bool) (lo : Int) : Nat→List qo
  | 0=>[]
  | k + 1=>qa6 P (J9 P lo k) (lo + k)
structure qby (P : Int→Bool) (lo y : Int) (l : List qo) : Prop where
  can : Can l
  bd : ∀ t∈l,lo≤t.Lo∧t.Hi≤y
  pts : ∀ v,has l v↔lo≤v∧v < y∧P v = true
  len : (l.length : Int)≤y - lo
theorem qjq {l : List qo} {t : qo} (h : Can l) (f : t.Lo < t.Hi) (hb : ∀ s∈l,s.Hi < t.Lo) : Can (l ++ [t]):=by
  refine ⟨fun s hs=>?_,List.pairwise_append.2 ⟨h.2,qe,fun a d b c=>?_⟩⟩
  · rcases List.mem_append.1 hs with hs | hs
    · exact h.1 s hs
    · simp only [List.mem_singleton] at hs;rw [hs];exact f
  · simp only [List.mem_singleton] at c;rw [c];exact hb a d
theorem qg5 {a b : List qo} {v : Int} : has (a ++ b) v↔has a v∨has b v:=by
  unfold has;constructor
  · rintro ⟨t,c,h⟩;rcases List.mem_append.1 c with c | c
    · exact .inl ⟨t,c,h⟩
    · exact .inr ⟨t,c,h⟩
  · rintro (⟨t,c,h⟩ | ⟨t,c,h⟩)
    · exact ⟨t,List.mem_append.2 (.inl c),h⟩
    · exact ⟨t,List.mem_append.2 (.inr c),h⟩
theorem qg6 {t : qo} {v : Int} : has [t] v↔t.Lo≤v∧v < t.Hi:=by unfold has;simp
theorem q10l {P : Int→Bool} {lo y : Int} {l : List qo} (r : lo≤y) (h : qby P lo y l) : qby P lo (y + 1) (qa6 P l y):=by
  unfold qa6;by_cases hp : P y = true
  · rw [qq hp]
    have new : (∀ t∈l,t.Hi≠y)→qby P lo (y + 1) (l ++ [{Lo:=y,Hi:=y + 1}]):=by
      intro o;refine ⟨qjq h.can (by show y < y + 1;omega) fun s hs=>?_,fun t d=>?_,fun v=>?_,by have:=h.len;simp;omega⟩
      · have:=(h.bd s hs).2;have:=o s hs;show s.Hi < y;omega
      · rcases List.mem_append.1 d with d | d
        · have:=h.bd t d;omega
        · simp only [List.mem_singleton] at d;rw [d];exact ⟨r,Int.le_refl _⟩
      · rw [qg5,qg6,h.pts v];simp only;constructor
        · rintro (⟨a,b,c⟩ | ⟨a,b⟩)
          · exact ⟨a,q0,c⟩
          · obtain rfl : v = y:=by omega
            exact ⟨r,q0,hp⟩
        · rintro ⟨a,b,c⟩;by_cases j : v < y
          · exact .inl ⟨a,j,c⟩
          · exact .inr ⟨q0,q0⟩
    rcases List.eq_nil_or_concat l with rfl | ⟨L,s,rfl⟩
    · exact new qe
    rw [List.concat_eq_append] at h new ⊢;have k : (L ++ [s]).getLast? = some s:=by simp
    have f:=h.can;have m : ∀ t∈L,t.Hi < s.Lo:=fun t d=>(List.pairwise_append.1 f.2).2.2 t d s qe;have hs:=f.1 s qe;rw [k];simp only;by_cases q : s.Hi = y
    · rw [qq q,show (L ++ [s]).dropLast = L by simp];have p:=h.bd s qe;refine ⟨qjq ⟨fun t d=>f.1 t (by simp [d]),(List.pairwise_append.1 f.2).1⟩ (by show s.Lo < y + 1;omega) m,fun t d=>?_,fun v=>?_,by have:=h.len;simp at this ⊢;omega⟩
      · rcases List.mem_append.1 d with d | d
        · have:=h.bd t (by simp [d]);omega
        · simp only [List.mem_singleton] at d;rw [d];exact ⟨p.1,Int.le_refl _⟩
      · have j:=h.pts v;rw [qg5,qg6] at j;rw [qg5,qg6];simp only;constructor
        · rintro (g | ⟨a,b⟩)
          · have:=j.1 (.inl g);exact ⟨this.1,q0,this.2.2⟩
          · by_cases n : v < y
            · have:=j.1 (.inr ⟨a,q0⟩);exact ⟨this.1,q0,this.2.2⟩
            · obtain rfl : v = y:=by omega
              exact ⟨q0,q0,hp⟩
        · rintro ⟨a,b,c⟩;by_cases n : v < y
          · rcases j.2 ⟨a,n,c⟩ with g | ⟨u,x⟩
            · exact .inl g
            · exact .inr ⟨u,q0⟩
          · exact .inr ⟨q0,q0⟩
    · rw [qs q];refine new fun t d=>?_;rcases List.mem_append.1 d with d | d
      · have:=m t d;have:=h.bd s qe;omega
      · simp only [List.mem_singleton] at d;rw [d];exact q
  · rw [qs hp];refine ⟨h.can,fun t d=>by have:=h.bd t d;omega,fun v=>?_,by have:=h.len;omega⟩;rw [h.pts v];constructor
    · rintro ⟨a,b,c⟩;exact ⟨a,q0,c⟩
    · rintro ⟨a,b,c⟩;refine ⟨a,?_,c⟩;by_cases j : v = y
      · subst j;exact absurd c hp
      · omega
theorem qhu (P : Int→Bool) (lo : Int) : ∀ k : Nat,qby P lo (lo + k) (J9 P lo k)
  | 0=>⟨qjp,by simp [J9],fun v=>by
      constructor
      · rintro ⟨t,c,_⟩;cases c
      · rintro ⟨a,b,_⟩;omega,by simp [J9]⟩
  | k + 1=>by
    have:=q10l (y:=lo + k) q0 (qhu P lo k)
    rw [show lo + ((k + 1 : Nat) : Int) = lo + k + 1 by omega]
    exact this
def sqP (x y z : Int) : qh:=⟨2 * x + 1,2 * y + 1,2 * z⟩
def shB (l : List qf) (z : Int) (d : qh) (x y : Int) : Bool:=decide (blk l (sqP x y z) d)
theorem quw {l : List qf} {d : qh} {z x y : Int} (hs : FitS l d) (f : -30≤z∧z≤30) (a : -510≤x∧x≤510) (c : -510≤y∧y≤510) :
    q5s ({p_:=({X:=w64 ((w64 (2 * x)) + 1),Y:=w64 ((w64 (2 * y)) + 1),Z:=w64 (2 * z)} : qh),d_:=d} : Yw) l = some (!shB l z d x y):=by
  rw [qv (x:=2 * x) q0,qv (x:=2 * y) q0,qv (x:=2 * z) q0,qv (x:=2 * x + 1) q0,qv (x:=2 * y + 1) q0];have b:=q47 hs.ck;have hd:=hs.dr;exact qlm (p:=sqP x y z) q0 hs.bx (by unfold dirV at hd;unfold Uk sqP;simp only;omega) hs.nz
theorem q10k {l : List qf} {d : qh} {z x y : Int} (hs : FitS l d) (n : -30≤z∧z≤30) (h : -510≤x∧x≤510) (o : -510≤y∧y≤509) {A : Int × Int × List ql × List qo} (k : A.2.1 = x) {b : Int × Int} (g : y < b.2) {m : List qo} (f : m.length≤10000) (hb : ∀ t∈m,-510≤t.Hi∧t.Hi≤510) :
    q3u b A z d l (y,m) = some (.inl (y + 1,qa6 (shB l z d x) m y)):=by
  unfold q3u;rw [Qb g,k,quw hs n h q0];simp only [qz,qj];rw [qv (x:=y + 1) q0];unfold qa6
  cases hp : shB l z d x y with
  | false=>rfl
  | true=>
    simp only [Bool.not_true,qy,if_true];rcases List.eq_nil_or_concat m with rfl | ⟨L,s,rfl⟩
    · rw [Q8 qe];simp only [qy,qj];rw [Y8 qe];rfl
    · rw [List.concat_eq_append] at f hb ⊢;have a : (L ++ [s]).length = L.length + 1:=by simp
      have hi : idx (L ++ [s]) (L.length : Int) = some s:=by rw [qvi];simp
      rw [Qb (by rw [a];omega),qv (x:=((L ++ [s]).length : Int) - 1) q0,show ((L ++ [s]).length : Int) - 1 = (L.length : Int) by rw [a];omega];simp only [qz,hi,qj,show (L ++ [s]).getLast? = some s by simp];have j:=hb s qe;by_cases c : s.Hi = y
      · rw [show (s.Hi == y) = true by simpa using c,qz,qq c,qv q0,c];simp only [qj];congr 4;rw [Int.toNat_natCast,List.set_append_right _ _ (Nat.le_refl _)];simp
      · rw [show (s.Hi == y) = false by simpa using c,qy,qs c,Y8 (by simp at f ⊢;omega)];rfl
theorem q10j {l : List qf} {d : qh} {z x : Int} (hs : FitS l d) (o : -30≤z∧z≤30) (j : -510≤x∧x≤510) {A : Int × Int × List ql × List qo} (n : A.2.1 = x) {a b : Int} (m : -510≤a) (h : b≤510) :
    loop (q3u (a,b) A z d l) (a,[]) = some (J9 (shB l z d x) a (b - a).toNat):=by
  have key:=Zf (f:=q3u (a,b) A z d l) (fun k=>(a + k,J9 (shB l z d x) a k)) (b - a).toNat (J9 (shB l z d x) a (b - a).toNat) (fun k q=>by
    have hi:=qhu (shB l z d x) a k;have g:=hi.len
    rw [q10k hs o j q0 n (by show a + k < b;omega) q0 (fun t c=>by
      have r:=hi.bd t c;have p:=hi.can.1 t c
      omega)]
    rw [show a + ((k + 1 : Nat) : Int) = a + k + 1 by omega];rfl) (by
    unfold q3u
    rw [Q8 (by show ¬ a + ((b - a).toNat : Int) < b;omega)];rfl) (Nat.zero_le _)
  rw [show a + ((0 : Nat) : Int) = a by omega] at key;exact key
def encM (x : Int) (s : Mg qo ql) : Int × Int × List ql × List qo:=((s.done.length : Int),x,s.flat putR,s.sec)
theorem q11u {l : List qf} {d : qh} {z x : Int} (hs : FitS l d) (hz : -30≤z∧z≤30) (hx : -510≤x∧x≤509) {j p x0 x1 : Int} (ac : -510≤j) (u : p≤510) (aa : x < x1) (s : Mg qo ql) (hl : (s.flat putR).length + (J9 (shB l z d x) j (p - j).toNat).length≤1000000) (h1 : s.sec≠[]→s.hi = x) :
    q3t (x0,x1) (j,p) z d l (encM x s) = some (.inl (encM (x + 1) (addM putR s x (x + 1) (J9 (shB l z d x) j (p - j).toNat)))):=by
  unfold q3t;have t : (encM x s).2.1 = x:=rfl;have e2 : (encM x s).2.2.1 = s.flat putR:=rfl;have e3 : (encM x s).2.2.2 = s.sec:=rfl;have e0 : (encM x s).1 = (s.done.length : Int):=rfl;rw [q10j hs hz q0 t ac u,t,e2,e3,e0,Qb aa];simp only [qz,qj];generalize J9 (shB l z d x) j (p - j).toNat = c at hl;have an : (s.flat putR).length = s.done.length + s.sec.length:=by simp [Mg.flat]
  rw [Q8 (by omega : ¬ x < x),qv (x:=x + 1) q0,qfp s.sec c q0];by_cases b : c≠[]∧c = s.sec
  · obtain ⟨m,g⟩:=b;have ab:=h1 (by rw [← g];exact m)
    have r : ((c.length : Int) == 0) = false:=by
      have : c.length≠0:=fun h=>m (List.length_eq_zero_iff.1 h);simp;omega
    rw [r,Qb g.symm];simp only [qy,qj,Bool.not_true]
    have a:=q65 (fun v : ql=>({X0:=v.X0,Y0:=v.Y0,X1:=x + 1,Y1:=v.Y1} : ql)) s.done (s.sec.map (putR s.lo s.hi)) (by simp;omega) (q1h (encM x s)) (fun k o f ho=>by
      have h5 : (s.done ++ s.sec.map (putR s.lo s.hi)).length = (s.flat putR).length:=rfl;unfold q1h
      simp only [t,dlt f,qz,Qw f,qj,w64s f (show o.length≤1000000 by omega),Int.toNat_natCast,qv (show -9223372036854775808≤x + 1∧x + 1≤9223372036854775807 by omega)]) (fun o=>by unfold q1h;simp only [dnl,qy])
    have a : loop (q1h (encM x s)) ((s.done.length : Int),s.flat putR) = _:=a;rw [a];simp only [qj];rcases Ud putR s x (x + 1) c with ⟨_,_,_,n⟩ | ⟨h3,n⟩
    · rw [n];simp only [encM,Mg.flat,List.map_map];rw [g];rfl
    · exact absurd ⟨m,g,ab⟩ h3
  · have q:=q6k c (putR x x) (s.flat putR) (fun o=>(((s.flat putR).length : Int),o)) (q8l c (encM x s)) (fun k f o ho=>by
      unfold q8l;simp only [t,dlt f,qz,Qw f,qj,w64s f (show c.length≤1000000 by omega)];rw [Y8 (by simp;omega)]
      rfl) (fun o=>by unfold q8l;simp only [dnl,qy,e2])
    have a:=q65 (fun v : ql=>({X0:=v.X0,Y0:=v.Y0,X1:=x + 1,Y1:=v.Y1} : ql)) (s.flat putR) (c.map (putR x x)) (by simp;omega) (q1h (encM x s)) (fun k o f ho=>by
      have h5 : (s.flat putR ++ c.map (putR x x)).length = (s.flat putR).length + c.length:=by simp
      unfold q1h
      simp only [t,dlt f,qz,Qw f,qj,w64s f (show o.length≤1000000 by omega),Int.toNat_natCast,qv (show -9223372036854775808≤x + 1∧x + 1≤9223372036854775807 by omega)]) (fun o=>by unfold q1h;simp only [dnl,qy])
    have n : addM putR s x (x + 1) c = ⟨s.flat putR,c,x,x + 1⟩:=by
      rcases Ud putR s x (x + 1) c with ⟨g1,g2,_,_⟩ | ⟨_,n⟩
      · exact absurd ⟨g1,g2⟩ b
      · exact n
    rw [n];by_cases y : c = []
    · rw [show ((c.length : Int) == 0) = true by rw [y];rfl];simp only [qz,qj,q,a];simp only [encM,Mg.flat,List.map_map];rfl
    · have ag : c.length≠0:=fun h=>y (List.length_eq_zero_iff.1 h);rw [show ((c.length : Int) == 0) = false by simp;omega,Q8 fun h=>b ⟨y,h.symm⟩];simp only [qy,qz,qj,Bool.not_false,q,a];simp only [encM,Mg.flat,List.map_map];rfl
def rngL (x0 : Int) : Nat→List Int
  | 0=>[x0]
  | n + 1=>x0::rngL (x0 + 1) n
theorem qp2 {l : List qf} {d : qh} {z : Int} (hs : FitS l d) (k : -30≤z∧z≤30) {a b x0 x1 : Int} (f : -510≤a) (c : b≤510) (h : x1≤510) : ∀ (n : Nat) (x : Int) (s : Mg qo ql),-510≤x→(x1 - x).toNat = n→(s.flat putR).length + n * 1020≤1000000→(x < x1→n≤900)→(s.sec≠[]→s.hi = x)→
    loop (q3t (x0,x1) (a,b) z d l) (encM x s) = some ((runM putR (fun x=>J9 (shB l z d x) a (b - a).toNat) s (rngL x n)).flat putR)
  | 0,x,s,h0,hn,_,_,_=>by
    have hd : q3t (x0,x1) (a,b) z d l (encM x s) = some (.inr (s.flat putR)):=by
      unfold q3t;rw [Q8 (by show ¬ x < x1;omega)];rfl
    rw [Kd hd];rfl
  | n + 1,x,s,h0,hn,hl,hm,h1=>by
    have hi:=qhu (shB l z d x) a (b - a).toNat;have j:=hi.len;have o:=qj0 putR s x (x + 1) (J9 (shB l z d x) a (b - a).toNat);have g:=q11u (x0:=x0) (x1:=x1) hs k q0 f c (by omega : x < x1) s q0 h1;rw [Kp g];have m:=qp2 (x0:=x0) hs k f c h n (x + 1) (addM putR s x (x + 1) (J9 (shB l z d x) a (b - a).toNat)) q0 q0 q0 (by have:=hm q0;omega) (fun _=>qf5 putR s x (x + 1) _);rw [m]
    cases n with
    | zero=>rfl
    | succ n=>rfl
end Go.Sh
