/- Su12 Qb2 Pf3 Rs5 Su13 -/
import Derived.Test.YtmnfbjlabfeneaaGreatK12
namespace Go.Sh
open Go Go.Am
theorem qk7 (l : List qh) (d : l.length≤1000000) (f : qh→Option Bool) (c : qh→Bool) (h : ∀ b∈l,f b = some (c b)) : Uv l f = some (l.any c):=by
  unfold Uv q82
  rcases U5 l c (fun k _=>(k : Int)) () (Jq l f) (fun k a=>by
    simp only [Jq,dlt a,qz,Qw a,qj,h _ (Ks a),w64s a d]
    cases c l[k] <;> rfl) (by simp only [Jq,dnl,qy]) with ⟨h1,h2⟩ | ⟨k,a,hc,_,h2⟩
  · rw [h2];have : l.any c = false:=by rw [List.any_eq_false];intro b hb;simp [h1 b hb]
    rw [this];rfl
  · rw [h2];have : l.any c = true:=List.any_eq_true.2 ⟨l[k],Ks a,hc⟩;rw [this];simp only [qj];rw [Qb q0]
def inV (v : qg) (n : Int) : Prop:=(-n≤v.X∧v.X≤n)∧(-n≤v.Y∧v.Y≤n)∧(-n≤v.Z∧v.Z≤n)
instance q15i (v : qg) (n : Int) : Decidable (inV v n):=by unfold inV;infer_instance
instance (d : qg) : Decidable (nzV d):=by unfold nzV;infer_instance
instance (p d : Int) : Decidable (fitA p d):=by unfold fitA;infer_instance
instance (p d : qg) : Decidable (fitV p d):=by unfold fitV;infer_instance
theorem qf4 (v : qg) {n : Int} (b : 0≤n∧n≤1000) : q4l v n = some (decide (inV v n)):=by
  unfold q4l;rw [Q3 (x:=0 - n) q0];by_cases a : min (min v.X v.Y) v.Z ≥ 0 - n
  · rw [Qb a];simp only [qz,qj];congr 1;refine decide_eq_decide.2 ?_;unfold inV;omega
  · rw [Q7 a];simp only [qy,qj];congr 1;refine (Q7 ?_).symm;unfold inV;omega
theorem qeg (v : qg) {n : Int} (g : 0≤n∧n≤1000) : q1l v n = some (decide (inV v n)):=by
  unfold q1l;rw [Q3 (x:=0 - n) q0];by_cases c : v.X ≥ 0 - n
  · rw [Qb c];simp only [qz,qj];by_cases a : v.X≤n
    · rw [Qb a];simp only [qz,qj];by_cases f : v.Y ≥ 0 - n
      · rw [Qb f];simp only [qz,qj];by_cases b : v.Y≤n
        · rw [Qb b];simp only [qz,qj];by_cases d : v.Z ≥ 0 - n
          · rw [Qb d];simp only [qz,qj];congr 1;refine decide_eq_decide.2 ?_;unfold inV;omega
          · rw [Q7 d,Q7 (show ¬ inV v n by unfold inV;omega)];rfl
        · rw [Q7 b,Q7 (show ¬ inV v n by unfold inV;omega)];rfl
      · rw [Q7 f,Q7 (show ¬ inV v n by unfold inV;omega)];rfl
    · rw [Q7 a,Q7 (show ¬ inV v n by unfold inV;omega)];rfl
  · rw [Q7 c,Q7 (show ¬ inV v n by unfold inV;omega)];rfl
noncomputable def chkF (l : List qh) (d : qg) : Int:=if Kx l≠0 then Kx l else if ∀ b∈l,inV b.Lo 30∧inV b.Hi 30 then (if inV d 8∧nzV d then 0 else 2) else 16
theorem Ja {l : List qh} (h : Kx l = 0) : l.length≤400:=(qcy.1 h).1
theorem qn6 (d : qg) : ((d.X == 0) && ((d.Y == 0) && ((d.Z == 0) && true))) = decide (¬ nzV d):=by
  by_cases a : d.X = 0 <;> by_cases b : d.Y = 0 <;> by_cases c : d.Z = 0 <;> simp [nzV,a,b,c]
theorem qvj (d : qg) : (((cond (d.X == 0) (some (d.Y == 0)) (some false)).bind fun a=>(cond a (some (d.Z == 0)) (some false)).bind fun b=>some b) : Option Bool) = some (decide (¬ nzV d)):=by
  rw [← qn6];cases (d.X == 0) <;> cases (d.Y == 0) <;> cases (d.Z == 0) <;> rfl
theorem qcc (l : List qh) (d : qg) : q33 l d = some (chkF l d):=by
  unfold q33 chkF;rw [qpn,qj];by_cases f : Kx l = 0
  · have k:=Ja f;rw [f];simp only [show ((0 : Int) != 0) = false from rfl,qy,ne_eq,not_true_eq_false,if_false]
    have j : ∀ b∈l,q9c b = some (!decide (inV b.Lo 30∧inV b.Hi 30)):=fun b _=>by
      unfold q9c;rw [qf4 _ qr,qf4 _ qr];by_cases a : inV b.Lo 30 <;> by_cases c : inV b.Hi 30 <;> simp [a,c]
    rw [qk7 l q0 _ _ j,qj];by_cases hb : ∀ b∈l,inV b.Lo 30∧inV b.Hi 30
    · have : l.any (fun b=>!decide (inV b.Lo 30∧inV b.Hi 30)) = false:=by
        rw [List.any_eq_false];intro b h;simp [hb b h]
      rw [this,qy,qq hb,qf4 _ qr,qn6];by_cases a : inV d 8 <;> by_cases c : nzV d <;> simp [a,c]
    · have : l.any (fun b=>!decide (inV b.Lo 30∧inV b.Hi 30)) = true:=by
        refine Classical.byContradiction fun g=>hb fun b h=>?_;have:=(List.any_eq_false.1 (Bool.eq_false_iff.2 g)) b h;simpa using this
      rw [this,qz,qs hb]
  · rw [show (Kx l != 0) = true by simpa using f,qz,qq f]
theorem qee (l : List qh) (d : qg) : Us l d = some (chkF l d):=by
  unfold Us chkF;rw [qxn,qj];by_cases g : Kx l = 0
  · have j:=Ja g;rw [g];simp only [show ((0 : Int) != 0) = false from rfl,qy,ne_eq,not_true_eq_false,if_false]
    rcases U5 l (fun b=>!decide (inV b.Lo 30∧inV b.Hi 30)) (fun k _=>(16 : Int)) () (q7e l) (fun k f=>by
      simp only [q7e,dlt f,qz,Qw f,qj,qeg _ (show (0 : Int)≤30∧(30 : Int)≤1000 by decide),w64s f (show l.length≤1000000 by omega)]
      by_cases a : inV l[k].Lo 30 <;> by_cases c : inV l[k].Hi 30 <;> simp [a,c]) (by simp only [q7e,dnl,qy]) with ⟨h1,h2⟩ | ⟨k,f,hc,_,h2⟩
    · have hb : ∀ b∈l,inV b.Lo 30∧inV b.Hi 30:=fun b hb=>by simpa using h1 b hb
      rw [h2,qq hb];simp only [qj];rw [qeg _ qr,qvj];by_cases a : inV d 8 <;> by_cases c : nzV d <;> simp [a,c]
    · have hb : ¬ ∀ b∈l,inV b.Lo 30∧inV b.Hi 30:=fun h=>by simp [h _ (Ks f)] at hc
      rw [h2,qs hb];rfl
  · rw [show (Kx l != 0) = true by simpa using g,qz,qq g];rfl
structure FitS (l : List qh) (d : qg) : Prop where
  ck : Kx l = 0
  bx : ∀ b∈l,K9 b
  dr : dirV d
  nz : nzV d
theorem Ug {l : List qh} {d : qg} (h : chkF l d = 0) : FitS l d:=by
  unfold chkF at h;by_cases a : Kx l = 0
  · rw [a] at h;simp only [ne_eq,not_true_eq_false,if_false] at h;by_cases hb : ∀ b∈l,inV b.Lo 30∧inV b.Hi 30
    · rw [qq hb] at h;by_cases hd : inV d 8∧nzV d
      · exact ⟨a,fun b c=>by have:=hb b c;unfold inV at this;unfold K9;omega,by have:=hd.1;unfold inV at this;unfold dirV;omega,hd.2⟩
      · rw [qs hd] at h;cases h
    · rw [qs hb] at h;cases h
  · rw [qq a] at h;exact absurd h a
theorem q14s (p : Int) : (Int.tmod p 2 == 0) = decide (¬ p % 2≠0):=by
  have a : (2 : Int) ∣ p↔Int.tmod p 2 = 0:=Int.dvd_iff_tmod_eq_zero;by_cases h : p % 2 = 0
  · have : Int.tmod p 2 = 0:=a.1 (Int.dvd_of_emod_eq_zero h);rw [this,Qb (by simpa using h)];rfl
  · have : Int.tmod p 2≠0:=fun g=>h (Int.emod_eq_zero_of_dvd (a.2 g));rw [Q7 (by simpa using h)];simpa using this
theorem ql3 {γ : Type} (f : Int→Option (Int ⊕ (Unit ⊕ Bool))) (p d : qg) (K : Option Bool)
    (l : ∀ i a,(i = 0∧a = (p.X,d.X))∨(i = 1∧a = (p.Y,d.Y))∨(i = 2∧a = (p.Z,d.Z))→f i = some (if fitA a.1 a.2 then .inl (i + 1) else .inr (.inr false))) (n : f 3 = some (.inr (.inl ()))) (o : K = some (decide (inV p 240))) :
    ((loop f 0 : Option (Unit ⊕ Bool)).bind fun m=>(match m with | .inl b62=>K | .inr x1=>some x1)) = some (decide (fitV p d∧inV p 240)):=by
  have s0:=l 0 _ (.inl ⟨rfl,rfl⟩);have c:=l 1 _ (.inr (.inl ⟨rfl,rfl⟩));have j:=l 2 _ (.inr (.inr ⟨rfl,rfl⟩));by_cases k : fitA p.X d.X
  · rw [qq k] at s0;rw [Ka s0,show (0 : Int) + 1 = 1 from rfl];by_cases b : fitA p.Y d.Y
    · rw [qq b] at c;rw [Ka c,show (1 : Int) + 1 = 2 from rfl];by_cases g : fitA p.Z d.Z
      · rw [qq g] at j;rw [Ka j,show (2 : Int) + 1 = 3 from rfl,K7 n];simp only [qj];rw [o];congr 1;exact decide_eq_decide.2 ⟨fun h=>⟨⟨k,b,g⟩,h⟩,fun h=>h.2⟩
      · rw [qs g] at j;rw [K7 j,Q7 fun h=>g h.1.2.2];rfl
    · rw [qs b] at c;rw [K7 c,Q7 fun h=>b h.1.2.1];rfl
  · rw [qs k] at s0;rw [K7 s0,Q7 fun h=>k h.1.1];rfl
theorem q6j (p d i : Int) (hi : 0≤i∧i < 3) : (((cond (d == 0) (some (Int.tmod p 2 == 0)) (some false)) : Option Bool).bind fun a=>cond a (some (Sum.inr (Sum.inr false))) (some (Sum.inl (w64 (i + 1)))) : Option (Int ⊕ (Unit ⊕ Bool))) = some (if fitA p d then .inl (i + 1) else .inr (.inr false)):=by
  rw [Q3 q0,q14s];by_cases h : d = 0
  · by_cases g : p % 2 = 0
    · rw [qs (show ¬ fitA p d from fun q=>q h g),show (d == 0) = true by simpa using h,Qb (by simpa using g)];rfl
    · rw [qq (show fitA p d from fun _=>g),show (d == 0) = true by simpa using h,Q7 (by simpa using g)];rfl
  · rw [qq (show fitA p d from fun q=>absurd q h),show (d == 0) = false by simpa using h];rfl
theorem qq2 (p d : qg) : q9e ({p_:=p,d_:=d} : Yg) = some (decide (fitV p d∧inV p 240)):=by
  unfold q9e q1p;simp only [qj];refine ql3 (γ:=Unit) (qf6 (d.X,d.Y,d.Z) (p.X,p.Y,p.Z)) p d _ ?_ rfl (by rw [qf4 _ qr];rfl);rintro i a (⟨rfl,rfl⟩ | ⟨rfl,rfl⟩ | ⟨rfl,rfl⟩)
  · exact q6j p.X d.X 0 qr
  · exact q6j p.Y d.Y 1 qr
  · exact q6j p.Z d.Z 2 qr
theorem qy3 (p d : qg) : qao p d = some (decide (fitV p d∧inV p 240)):=by
  unfold qao;refine ql3 (γ:=Unit) (qef d p) p d _ ?_ rfl (by rw [qeg _ qr];rfl);rintro i a (⟨rfl,rfl⟩ | ⟨rfl,rfl⟩ | ⟨rfl,rfl⟩)
  · exact q6j p.X d.X 0 qr
  · exact q6j p.Y d.Y 1 qr
  · exact q6j p.Z d.Z 2 qr
theorem q7r {l : List qh} {p d : qg} (h : FitS l d) (hp : inV p 240) : Yy p d:=by
  have:=h.dr;unfold inV at hp;unfold dirV at this;unfold Yy;omega
theorem qgi {l : List qh} {p d : qg} (j : l.length≤1000000) (hb : ∀ b∈l,K9 b) (k : Yy p d) (f : nzV d) : q4m ({p_:=p,d_:=d} : Yg) l = some (!decide (blk l p d)):=by
  unfold q4m
  rw [qk7 l j (fun x0=>q9f x0 ({p_:=p,d_:=d} : Yg)) (fun b=>(hitC (axB b p d)).isSome) (fun b a=>by
    obtain ⟨t,g,_⟩:=qgw (hb b a) k f
    unfold q9f;rw [g];rfl)]
  simp only [qj];congr 2;by_cases h : blk l p d
  · rw [Qb h];obtain ⟨b,g,c⟩:=h;exact List.any_eq_true.2 ⟨b,g,c⟩
  · rw [Q7 h,List.any_eq_false];intro b hb c;exact h ⟨b,hb,c⟩
theorem q9z {b : qh} {p d : qg} : (hitT (axB b p d)).isSome = (hitC (axB b p d)).isSome:=by rw [← (q6o (l:=axB b p d)).1,Option.isSome_map]
theorem qr7 {l : List qh} {p d : qg} (f : l.length≤1000000) (hb : ∀ b∈l,K9 b) (g : Yy p d) (c : nzV d) : qam l p d = some (decide (blk l p d)):=by
  unfold qam
  rcases U5 l (fun b=>(hitC (axB b p d)).isSome) (fun k _=>true) () (q7d l p d) (fun k a=>by
    simp only [q7d,dlt a,qz,Qw a,qj,qoa (hb _ (Ks a)) g c,w64s a f];rw [← q9z]
    cases hitT (axB l[k] p d) <;> rfl) (by simp only [q7d,dnl,qy]) with ⟨h1,h2⟩ | ⟨k,a,hc,_,h2⟩
  · rw [h2,Q7];rfl;rintro ⟨b,hb,h⟩;rw [h1 b hb] at h;cases h
  · rw [h2,Qb (show blk l p d from ⟨_,Ks a,hc⟩)];rfl
noncomputable def q3c (l : List qh) (p d : qg) : Bool × Int:=if chkF l d≠0 then (false,chkF l d) else if fitV p d∧inV p 240 then (!decide (blk l p d),0) else (false,2)
theorem q4h (l : List qh) (p d : qg) : Ud l p d = some (q3c l p d):=by
  unfold Ud q3c;rw [qcc,qj];by_cases b : chkF l d = 0
  · have hs:=Ug b;have c:=Ja hs.ck;rw [b];simp only [show ((0 : Int) != 0) = false from rfl,qy,ne_eq,not_true_eq_false,if_false];rw [qq2,qj];by_cases a : fitV p d∧inV p 240
    · rw [Qb a,qq a,qgi q0 hs.bx (q7r hs a.2) hs.nz];rfl
    · rw [Q7 a,qs a];rfl
  · rw [show (chkF l d != 0) = true by simpa using b,qz,qq b]
def minP (m : Option (Int × Int)) (u : Option (Int × Int)) : Option (Int × Int):=match u with
  | none=>m
  | some u=>match m with
    | none=>some u
    | some v=>if befC u v = true then some u else some v
def encF (k : Int) : Option (Int × Int)→Bool × Int × Int × Int
  | none=>(false,k,0,0)
  | some u=>(true,k,u.1,u.2)
def Je (l : List qh) (p d : qg) : Option (Int × Int):=l.foldl (fun m b=>minP m (hitC (axB b p d))) none
theorem qvb {m u : Option (Int × Int)} (a : ∀ x,m = some x→smP x∧0 < x.2∧0≤valC x) (b : ∀ x,u = some x→smP x∧0 < x.2∧0≤valC x) : (∀ x,minP m u = some x→smP x∧0 < x.2∧0≤valC x)∧(minP m u).map valC = minO (m.map valC) (u.map valC):=by
  cases u with
  | none=>exact ⟨a,by cases m <;> rfl⟩
  | some u=>
    cases m with
    | none=>exact ⟨b,rfl⟩
    | some v=>
      have h:=qcu (b u rfl).2.1 (a v rfl).2.1;show (∀ x,(if befC u v = true then some u else some v) = some x→_)∧(if befC u v = true then some u else some v).map valC = some (min (valC v) (valC u));by_cases hb : befC u v = true
      · rw [qq hb];refine ⟨b,?_⟩;have:=h.1 hb;show some (valC u) = _;congr 1;grind
      · rw [qs hb];refine ⟨a,?_⟩;have : ¬ valC u < valC v:=fun g=>hb (h.2 g);show some (valC v) = _;congr 1;grind
theorem qgv {b : qh} {p d : qg} (hb : K9 b) (g : Yy p d) (a : nzV d) : ∀ x,hitC (axB b p d) = some x→smP x∧0 < x.2∧0≤valC x:=fun x c=>by
  obtain ⟨t,_,h⟩:=qgw hb g a
  have f:=(q6o (l:=axB b p d)).2 x c
  exact ⟨(h x c).2,f⟩
theorem qgc {p d : qg} (f : Yy p d) (a : nzV d) : ∀ (l : List qh),(∀ b∈l,K9 b)→∀ m : Option (Int × Int),(∀ x,m = some x→smP x∧0 < x.2∧0≤valC x)→
    (∀ x,l.foldl (fun m b=>minP m (hitC (axB b p d))) m = some x→smP x∧0 < x.2∧0≤valC x)∧(l.foldl (fun m b=>minP m (hitC (axB b p d))) m).map valC = l.foldl (fun m b=>minO m (hitT (axB b p d))) (m.map valC)
  | [],_,m,hm=>⟨hm,rfl⟩
  | b::l,hb,m,hm=>by
    have h:=qvb hm (qgv (hb b qe) f a)
    rw [List.foldl_cons,List.foldl_cons]
    rw [← (q6o (l:=axB b p d)).1,← h.2]
    exact qgc f a l (fun c g=>hb c (by simp [g])) _ h.1
theorem qgb {l : List qh} {p d : qg} (hb : ∀ b∈l,K9 b) (c : Yy p d) (a : nzV d) : (∀ x,Je l p d = some x→smP x∧0 < x.2∧0≤valC x)∧(Je l p d).map valC = firstT l p d:=
  qgc c a l hb none qe
theorem q14i {l : List qh} {p d : qg} (r : l.length≤1000000) (hb : ∀ b∈l,K9 b) (o : Yy p d) (c : nzV d) : loop (q32 l p d) (false,0,0,0) = some ((encF 0 (Je l p d)).1,(encF 0 (Je l p d)).2.2):=by
  have key:=Ze (f:=q32 l p d) (fun k=>encF (k : Int) ((l.take k).foldl (fun m b=>minP m (hitC (axB b p d))) none)) l.length ((encF 0 (Je l p d)).1,(encF 0 (Je l p d)).2.2) (fun k a=>by
    rw [List.take_succ_eq_append_getElem a,List.foldl_append];have q:=(qgc o c (l.take k) (fun b n=>hb b (List.mem_of_mem_take n)) none qe).1;generalize (l.take k).foldl (fun m b=>minP m (hitC (axB b p d))) none = m at q;have g:=hb _ (Ks a);obtain ⟨t,z,s⟩:=qgw g o c
    have h : q32 l p d (encF (k : Int) m) = some (.inl (encF ((k + 1 : Nat) : Int) (minP m (hitC (axB l[k] p d))))):=by
      unfold q32;have j : (encF (k : Int) m).2.1 = k:=by cases m <;> rfl
      rw [j,dlt a,qz,Qw a];simp only [qj,z,w64s a r]
      cases hc : hitC (axB l[k] p d) with
      | none=>cases m <;> rfl
      | some u=>
        obtain ⟨e2,y⟩:=s u hc;subst e2
        cases m with
        | none=>rfl
        | some v=>
          have x:=(q v rfl).1;obtain ⟨⟨c1,c2⟩,c3⟩:=x;obtain ⟨⟨c4,c5⟩,c6⟩:=y;simp only [encF,Option.isSome_some,qz,Bool.not_true,qy];rw [qcv (by simp only;omega) (by simp only;omega) (by simp only;omega) (by simp only;omega)];simp only [qj,minP]
          cases hq : befC u v with
          | true=>rfl
          | false=>rfl
    rw [h];rfl) (by
    rw [List.take_length];show q32 l p d (encF (l.length : Int) (Je l p d)) = _;unfold q32;have j : (encF (l.length : Int) (Je l p d)).2.1 = l.length:=by cases Je l p d <;> rfl
    rw [j,dnl,qy]
    cases Je l p d <;> rfl) (Nat.zero_le _)
  exact key
theorem qu7 {b : qh} {p d : qg} (hb : K9 b) (f : Yy p d) (a : nzV d) : ∀ q,hitT (axB b p d) = some q→smR q:=fun q hq=>by
  rw [← (q6o (l:=axB b p d)).1] at hq
  cases c : hitC (axB b p d) with
  | none=>rw [c] at hq;cases hq
  | some u=>
    rw [c] at hq;cases hq
    obtain ⟨⟨c1,c2⟩,c3,c4⟩:=qgv hb f a u c
    exact (qgh q0 c1 c2).1
noncomputable def q3a (l : List qh) (p d : qg) : Qr × Int:=if chkF l d≠0 then (({Num:=0,Den:=0} : Qr),chkF l d) else if fitV p d∧inV p 240 then (match firstT l p d with | none=>(({Num:=0,Den:=0} : Qr),6) | some q=>(ofR q,0)) else (({Num:=0,Den:=0} : Qr),2)
theorem q95 (l : List qh) (p d : qg) : Ux l p d = some (q3a l p d):=by
  unfold Ux q3a;rw [qcc,qj];by_cases b : chkF l d = 0
  · have hs:=Ug b;have h:=Ja hs.ck;rw [b];simp only [show ((0 : Int) != 0) = false from rfl,qy,ne_eq,not_true_eq_false,if_false];rw [qq2,qj];by_cases a : fitV p d∧inV p 240
    · rw [Qb a,qq a,q14i q0 hs.bx (q7r hs a.2) hs.nz];obtain ⟨c,f⟩:=qgb hs.bx (q7r hs a.2) hs.nz;rw [← f]
      cases g : Je l p d with
      | none=>rfl
      | some u=>
        obtain ⟨⟨c1,c2⟩,c3,c4⟩:=c u g;simp only [encF,qj,Bool.not_true,qy,Option.map_some];rw [qya c3 q0 q0];rfl
    · rw [Q7 a,qs a];rfl
  · rw [show (chkF l d != 0) = true by simpa using b,qz,qq b]
theorem qhj (l : List qh) : ∃ b,q5l l = some b∧(b = true→l.length≤420∧(l.length≤400→l.length≤6∧∀ b∈l,inV b.Lo 9∧inV b.Hi 9)):=by
  unfold q5l;by_cases f : (l.length : Int) > 400
  · rw [Qb f,qz];exact ⟨_,rfl,fun h=>⟨by have:=of_decide_eq_true h;omega,fun g=>q0⟩⟩
  · rw [Q7 f,qy]
    rcases U5 l (fun b=>!decide (inV b.Lo 9∧inV b.Hi 9)) (fun k _=>false) () (q7i l) (fun k d=>by
      simp only [q7i,dlt d,qz,Qw d,qj,qeg _ (show (0 : Int)≤9∧(9 : Int)≤1000 by decide),w64s d (show l.length≤1000000 by omega)]
      by_cases a : inV l[k].Lo 9 <;> by_cases c : inV l[k].Hi 9 <;> simp [a,c]) (by simp only [q7i,dnl,qy]) with ⟨h1,h2⟩ | ⟨k,d,hc,_,h2⟩
    · rw [h2];refine ⟨_,rfl,fun h=>⟨q0,fun _=>⟨by have:=of_decide_eq_true h;omega,fun b hb=>by simpa using h1 b hb⟩⟩⟩
    · rw [h2];exact ⟨_,rfl,fun h=>by cases h⟩
end Go.Sh
namespace Go.Sh
open Go Go.Am
end Go.Sh
namespace Go.Sh
open Go Go.Am
theorem q15z {n : Int} (h : (Lit.int .u8 n).wf = true) : 0≤n:=by
  simp [Lit.wf,IntKind.min,IntKind.max,IntKind.signed,IntKind.bits] at h;omega
abbrev V3:=qg × qg × qg
def zeroV : qg:=⟨0,0,0⟩
noncomputable def axT (t : Nat) : V3:=match qtr (t : Int) with
  | some m=>m
  | none=>(zeroV,zeroV,zeroV)
def qiy (v : qg) : Prop:=-1≤v.X∧v.X≤1∧-1≤v.Y∧v.Y≤1∧-1≤v.Z∧v.Z≤1
instance (v : qg) : Decidable (qiy v):=by unfold qiy;infer_instance
def mulV (m : V3) (v : qg) : qg:=⟨v.X * m.1.X + v.Y * m.2.1.X + v.Z * m.2.2.X,v.X * m.1.Y + v.Y * m.2.1.Y + v.Z * m.2.2.Y,v.X * m.1.Z + v.Y * m.2.1.Z + v.Z * m.2.2.Z⟩
def addV (a b : qg) : qg:=⟨a.X + b.X,a.Y + b.Y,a.Z + b.Z⟩
noncomputable def qm3 (t : Nat) (at_ v : qg) : qg:=addV (mulV (axT t) v) at_
def InV (v : qg) (lo : Int) : Prop:=lo≤v.X∧v.X≤1000000∧lo≤v.Y∧v.Y≤1000000∧lo≤v.Z∧v.Z≤1000000
instance (v : qg) (lo : Int) : Decidable (InV v lo):=by unfold InV;infer_instance
def FOk (f : qcq) : Prop:=f.Turn < 24∧InV f.At (-1000000)
instance (f : qcq) : Decidable (FOk f):=by unfold FOk;infer_instance
def SOk (s : qj9) : Prop:=FOk s.Frame∧InV s.Size 0
instance (s : qj9) : Decidable (SOk s):=by unfold SOk;infer_instance
end Go.Sh
namespace Go.Sh
open Go Go.Am
def qfd : qh:={Lo:=({X:=0,Y:=0,Z:=0} : qg),Hi:=({X:=0,Y:=0,Z:=0} : qg)}
def Ke (h b : qh) : qh:={Lo:=({X:=min h.Lo.X b.Lo.X,Y:=min h.Lo.Y b.Lo.Y,Z:=min h.Lo.Z b.Lo.Z} : qg),Hi:=({X:=max h.Hi.X b.Hi.X,Y:=max h.Hi.Y b.Hi.Y,Z:=max h.Hi.Z b.Hi.Z} : qg)}
def Qz : List qh→qh
  | []=>qfd
  | b::l=>(b::l).foldl Ke b
noncomputable def hull (l : List qh) : qh × Int:=if Kx l≠0 then (qfd,Kx l) else if l = [] then (qfd,6) else (Qz l,0)
theorem qua (l : List qh) (_ : l.length≤1000000) (f : Int × Int × Int × Int × Int × Int × Int→Option ((Int × Int × Int × Int × Int × Int × Int) ⊕ (Int × Int × Int × Int × Int × Int)))
    (hs : ∀ k (h : k < l.length) (s : qh),f ((k : Int),s.Lo.X,s.Lo.Y,s.Lo.Z,s.Hi.X,s.Hi.Y,s.Hi.Z) = some (.inl (((k + 1 : Nat) : Int),(Ke s l[k]).Lo.X,(Ke s l[k]).Lo.Y,(Ke s l[k]).Lo.Z,(Ke s l[k]).Hi.X,(Ke s l[k]).Hi.Y,(Ke s l[k]).Hi.Z)))
    (hd : ∀ s : qh,f ((l.length : Int),s.Lo.X,s.Lo.Y,s.Lo.Z,s.Hi.X,s.Hi.Y,s.Hi.Z) = some (.inr (s.Lo.X,s.Lo.Y,s.Lo.Z,s.Hi.X,s.Hi.Y,s.Hi.Z))) (s : qh) (k : Nat) (a : k≤l.length) :
    loop f ((k : Int),((l.take k).foldl Ke s).Lo.X,((l.take k).foldl Ke s).Lo.Y,((l.take k).foldl Ke s).Lo.Z,((l.take k).foldl Ke s).Hi.X,((l.take k).foldl Ke s).Hi.Y,((l.take k).foldl Ke s).Hi.Z) =
      some ((l.foldl Ke s).Lo.X,(l.foldl Ke s).Lo.Y,(l.foldl Ke s).Lo.Z,(l.foldl Ke s).Hi.X,(l.foldl Ke s).Hi.Y,(l.foldl Ke s).Hi.Z):=
  Ze (f:=f) (fun k=>((k : Int),((l.take k).foldl Ke s).Lo.X,((l.take k).foldl Ke s).Lo.Y,((l.take k).foldl Ke s).Lo.Z,((l.take k).foldl Ke s).Hi.X,((l.take k).foldl Ke s).Hi.Y,((l.take k).foldl Ke s).Hi.Z)) l.length _ (fun k a=>by
    rw [hs k a,List.take_succ_eq_append_getElem a,List.foldl_append];rfl) (by rw [List.take_length,hd]) a
theorem q13k (l : List qh) : qby l = some (hull l):=by
  unfold qby hull;rw [qpn,qj];by_cases h : ¬ Kx l = 0
  · have : (Kx l != 0) = true:=by simpa using h
    rw [qq h,this,qz];rfl
  replace h:=Classical.not_not.1 h;have d:=(qcy.1 h).1;rw [qs (by simp [h]),h,show ((0 : Int) != 0) = false from rfl,qy]
  cases l with
  | nil=>rfl
  | cons b l=>
    have c : ((((b::l).length : Int)) == 0) = false:=by simp;omega
    have key:=qua (b::l) q0 (q5z (b::l)) (fun k a s=>by
      simp only [q5z,dlt a,qz,Qw a,qj,w64s a q0];rfl) (fun s=>by simp only [q5z,dnl,qy]) b 0 (Nat.zero_le _)
    have key : loop (q5z (b::l)) (0,b.Lo.X,b.Lo.Y,b.Lo.Z,b.Hi.X,b.Hi.Y,b.Hi.Z) = _:=key;rw [c,qy,show idx (b::l) 0 = some b from rfl,qj,key,qs qe];rfl
def rowOk (a b c : Int) : Prop:=(a = 1∧b = 0∧c = 0)∨(a = -1∧b = 0∧c = 0)∨(a = 0∧b = 1∧c = 0)∨(a = 0∧b = -1∧c = 0)∨(a = 0∧b = 0∧c = 1)∨(a = 0∧b = 0∧c = -1)
instance (a b c : Int) : Decidable (rowOk a b c):=by unfold rowOk;infer_instance
def q13y (p q : qg) : qh:={Lo:=({X:=min p.X q.X,Y:=min p.Y q.Y,Z:=min p.Z q.Z} : qg),Hi:=({X:=max p.X q.X,Y:=max p.Y q.Y,Z:=max p.Z q.Z} : qg)}
noncomputable def qnq (t : Nat) (at_ : qg) (b : qh) : qh:=q13y (qm3 t at_ b.Lo) (qm3 t at_ b.Hi)
noncomputable def place (l : List qh) (f : qcq) : List qh × Int:=
  if Kx l≠0 then ([],Kx l) else if ¬ FOk f then ([],8) else if ∀ b∈l,vB (qnq f.Turn.toNat f.At b) then mkB (l.map (qnq f.Turn.toNat f.At)) else ([],16)
end Go.Sh
namespace Go.Sh
open Go Go.Am
def wayV (k : Int) : qg:=if k = 0 then ⟨1,0,0⟩ else if k = 1 then ⟨-1,0,0⟩ else if k = 2 then ⟨0,1,0⟩ else if k = 3 then ⟨0,-1,0⟩ else if k = 4 then ⟨0,0,1⟩ else ⟨0,0,-1⟩
def dotV (a b : qg) : Int:=a.X * b.X + a.Y * b.Y + a.Z * b.Z
def q4y (v w : qg) : qg:=⟨2 * v.X + 1 + w.X,2 * v.Y + 1 + w.Y,2 * v.Z + 1 + w.Z⟩
def U2 (l : List qh) (v w d : qg) : Bool:=decide (0 < dotV w d) && !decide (blk l (q4y v w) d)
theorem six {k : Int} (h : 0≤k∧k < 6) : k = 0∨k = 1∨k = 2∨k = 3∨k = 4∨k = 5:=by omega
theorem qqh {k : Int} (h : 0≤k∧k < 6) : idxA 6 [(⟨1,0,0⟩ : qg),⟨-1,0,0⟩,⟨0,1,0⟩,⟨0,-1,0⟩,⟨0,0,1⟩,⟨0,0,-1⟩] k = some (wayV k):=by
  rcases six h with rfl | rfl | rfl | rfl | rfl | rfl <;> rfl
theorem qkf {k : Int} (h : 0≤k∧k < 6) : qag k = some (wayV k):=by
  rcases six h with rfl | rfl | rfl | rfl | rfl | rfl <;> rfl
theorem qci {k : Int} (h : 0≤k∧k < 6) : (-1≤(wayV k).X∧(wayV k).X≤1)∧(-1≤(wayV k).Y∧(wayV k).Y≤1)∧(-1≤(wayV k).Z∧(wayV k).Z≤1):=by
  rcases six h with rfl | rfl | rfl | rfl | rfl | rfl <;> decide
theorem qkg {w d : qg} (a : (-1≤w.X∧w.X≤1)∧(-1≤w.Y∧w.Y≤1)∧(-1≤w.Z∧w.Z≤1)) (hd : dirV d) : w64 ((w64 ((w64 (w.X * d.X)) + (w64 (w.Y * d.Y)))) + (w64 (w.Z * d.Z))) = dotV w d:=by
  unfold dirV at hd;have b:=mulb a.1 hd.1;have p2:=mulb a.2.1 hd.2.1;have p3:=mulb a.2.2 hd.2.2;unfold dotV;rw [Q3 (x:=w.X * d.X) q0,Q3 (x:=w.Y * d.Y) q0,Q3 (x:=w.Z * d.Z) q0,Q3 (x:=w.X * d.X + w.Y * d.Y) q0,Q3 q0]
def ptOk (v : qg) : Prop:=(-30≤v.X∧v.X≤30)∧(-30≤v.Y∧v.Y≤30)∧(-30≤v.Z∧v.Z≤30)
theorem qgs {l : List qh} (hb : ∀ b∈l,K9 b) {v : qg} (h : hasB l v.X v.Y v.Z) : ptOk v:=by
  obtain ⟨b,a,d,c,f⟩:=h;have:=hb b a;unfold K9 at this;unfold ptOk;omega
theorem qkw {v w d : qg} (a : ptOk v) (b : (-1≤w.X∧w.X≤1)∧(-1≤w.Y∧w.Y≤1)∧(-1≤w.Z∧w.Z≤1)) (hd : dirV d) : Yy (q4y v w) d:=by
  unfold ptOk at a;unfold dirV at hd;unfold Yy q4y;simp only;omega
theorem qq3 {l : List qh} {d v : qg} (hs : FitS l d) (b : ptOk v) {k : Int} (f : 0≤k∧k < 6) : q9d l v (wayV k) d = some (U2 l v (wayV k) d):=by
  have a:=qci f;have g:=Ja hs.ck;generalize wayV k = w at a;unfold q9d U2;rw [qkg a hs.dr];by_cases c : dotV w d≤0
  · rw [Qb c,Q7 q0];rfl
  · rw [Q7 c,Qb q0];unfold ptOk at b;unfold q1r;simp only [qy,qj];rw [Q3 (x:=v.X + v.X) q0,Q3 (x:=v.Y + v.Y) q0,Q3 (x:=v.Z + v.Z) q0,Q3 (x:=1 + w.X) q0,Q3 (x:=1 + w.Y) q0,Q3 (x:=1 + w.Z) q0,Q3 q0,Q3 q0,Q3 q0];rw [show ({X:=v.X + v.X + (1 + w.X),Y:=v.Y + v.Y + (1 + w.Y),Z:=v.Z + v.Z + (1 + w.Z)} : qg) = q4y v w by unfold q4y;congr 1 <;> omega];rw [qgi q0 hs.bx (qkw b a hs.dr) hs.nz];rfl
theorem qoe {l : List qh} {d v : qg} (hs : FitS l d) (c : ptOk v) {k : Int} (b : 0≤k∧k < 6) : q7l l v k d = some (U2 l v (wayV k) d):=by
  have a:=qci b;have g:=Ja hs.ck;unfold q7l;rw [qkf b,qj];generalize wayV k = w at a;unfold qe9 U2;rw [qkg a hs.dr,qj];by_cases f : dotV w d≤0
  · rw [Qb f,Q7 q0];rfl
  · rw [Q7 f,Qb q0];unfold ptOk at c;unfold q3z qea;simp only [qy,qj];rw [Q3 (x:=2 * v.X) q0,Q3 (x:=2 * v.Y) q0,Q3 (x:=2 * v.Z) q0,Q3 (x:=1 + w.X) q0,Q3 (x:=1 + w.Y) q0,Q3 (x:=1 + w.Z) q0,Q3 q0,Q3 q0,Q3 q0];rw [show ({X:=2 * v.X + (1 + w.X),Y:=2 * v.Y + (1 + w.Y),Z:=2 * v.Z + (1 + w.Z)} : qg) = q4y v w by unfold q4y;congr 1 <;> omega];rw [qr7 q0 hs.bx (qkw c a hs.dr) hs.nz];rfl
def J1 (l : List qh) (v w : qg) : Prop:=¬ hasB l (v.X + w.X) (v.Y + w.Y) (v.Z + w.Z)
instance q15j (l : List qh) (v w : qg) : Decidable (J1 l v w):=by unfold J1;infer_instance
theorem qin {v w : qg} (a : ptOk v) (b : (-1≤w.X∧w.X≤1)∧(-1≤w.Y∧w.Y≤1)∧(-1≤w.Z∧w.Z≤1)) : q1r v w = some (addV v w)∧q3z v w = some (addV v w):=by
  unfold ptOk at a;unfold q1r q3z addV;rw [Q3 q0,Q3 q0,Q3 q0];exact ⟨rfl,rfl⟩
theorem qo8 {l : List qh} (c : l.length≤1000000) (hb : ∀ b∈l,K9 b) (v : qg) {k : Int} (a : 0≤k∧k < 6) : q7f l v k = some (decide (hasB l v.X v.Y v.Z∧J1 l v (wayV k))):=by
  unfold q7f;rw [qo5 l v c,qj];by_cases h : hasB l v.X v.Y v.Z
  · have d:=qgs hb h;rw [Qb h,qz,qkf a,qj,(qin d (qci a)).2,qj,qo5 l _ c];simp only [qj];congr 1;by_cases g : hasB l (addV v (wayV k)).X (addV v (wayV k)).Y (addV v (wayV k)).Z
    · rw [Qb g,Q7];rfl;rintro ⟨_,q⟩;exact q g
    · rw [Q7 g,Qb];rfl;exact ⟨h,g⟩
  · rw [Q7 h,Q7 (fun q=>h q.1)];rfl
noncomputable def litR (l : List qh) (v : qg) (k : Int) (d : qg) : Bool × Int:=if chkF l d≠0 then (false,chkF l d) else if 5 < k then (false,2) else if hasB l v.X v.Y v.Z∧J1 l v (wayV k) then (U2 l v (wayV k) d,0) else (false,6)
theorem qca (l : List qh) (v : qg) {k : Int} (f : 0≤k) (d : qg) : Uy l v k d = some (litR l v k d):=by
  unfold Uy litR;rw [qcc,qj];by_cases b : chkF l d = 0
  · have hs:=Ug b;have j:=Ja hs.ck;rw [b];simp only [show ((0 : Int) != 0) = false from rfl,qy,ne_eq,not_true_eq_false,if_false];by_cases a : 5 < k
    · rw [Qb a,qq a];rfl
    · rw [Q7 a,qs a];unfold q9h;simp only [qy,qj];rw [qqh q0,qj,qih l v q0,qj];by_cases h : hasB l v.X v.Y v.Z
      · have c:=qgs hs.bx h;rw [Qb h];simp only [Bool.not_true,qy];rw [(qin c (qci q0)).1,qj,qih l _ q0];simp only [qj];by_cases g : hasB l (addV v (wayV k)).X (addV v (wayV k)).Y (addV v (wayV k)).Z
        · rw [Qb g,qs (fun q=>q.2 g)];rfl
        · rw [Q7 g,qq ⟨h,g⟩,qy,qq3 hs c q0];rfl
      · rw [Q7 h,qs (fun q=>h q.1)];rfl
  · rw [show (chkF l d != 0) = true by simpa using b,qz,qq b]
theorem qy5 (l : List qh) (v : qg) {k : Int} (c : 0≤k) (d : qg) : qap l v k d = some (litR l v k d):=by
  unfold qap litR;rw [qee,qj];by_cases b : chkF l d = 0
  · have hs:=Ug b;have f:=Ja hs.ck;rw [b];simp only [show ((0 : Int) != 0) = false from rfl,qy,ne_eq,not_true_eq_false,if_false];by_cases a : 5 < k
    · rw [Qb a,qq a];rfl
    · rw [Q7 a,qs a,Q3 q0,qo8 q0 hs.bx v q0];simp only [qy,qj];by_cases h : hasB l v.X v.Y v.Z∧J1 l v (wayV k)
      · rw [Qb h,qq h,qoe hs (qgs hs.bx h.1) q0];rfl
      · rw [Q7 h,qs h];rfl
  · rw [show (chkF l d != 0) = true by simpa using b,qz,qq b];rfl
def sumI (lo hi : Int) (g : Int→Int) : Int:=sumN (hi - lo).toNat fun k=>g (lo + k)
theorem q35 {σ β : Type} (mk : Int→Int→Int→σ) (fin : Int→Int→β) (F : σ→Option (σ ⊕ β)) (lo hi : Int) (h j : Int→Int)
    (hs : ∀ i,lo≤i→i < hi→∀ d c,F (mk i (w64 d) (w64 c)) = some (.inl (mk (i + 1) (w64 (d + h i)) (w64 (c + j i)))))
    (hd : ∀ i,hi≤i→∀ a b,F (mk i a b) = some (.inr (fin a b))) (d c : Int) :
    loop F (mk lo (w64 d) (w64 c)) = some (fin (w64 (d + sumI lo hi h)) (w64 (c + sumI lo hi j))):=by
  have key:=Ze (f:=F) (fun k=>mk (lo + k) (w64 (d + sumN k fun k=>h (lo + k))) (w64 (c + sumN k fun k=>j (lo + k)))) (hi - lo).toNat (fin (w64 (d + sumI lo hi h)) (w64 (c + sumI lo hi j))) (fun k n=>by
    rw [hs _ q0 q0];have l : ∀ g : Int→Int,(sumN (k + 1) fun k=>g (lo + k)) = (sumN k fun k=>g (lo + k)) + g (lo + k):=fun g=>rfl
    rw [l,l,Int.add_assoc,Int.add_assoc,Int.add_assoc];rfl) (hd _ q0 _ _) (Nat.zero_le _)
  have m : ∀ g : Int→Int,(sumN 0 fun k=>g (lo + k)) = 0:=fun g=>rfl;simp only [m,Int.add_zero,show ((0 : Nat) : Int) = 0 from rfl] at key;exact key
theorem qq0 {α : Type} (g : α→Int) (l : List α) {k : Nat} (a : k < l.length) : sumL g (l.take (k + 1)) = sumL g (l.take k) + g l[k]:=by
  rw [List.take_succ_eq_append_getElem a,qim];congr 1;show g l[k] + 0 = _;omega
theorem qjw {α σ β : Type} (l : List α) (mk : Int→Int→Int→σ) (fin : Int→Int→β) (F : σ→Option (σ ⊕ β)) (h j : α→Int)
    (hs : ∀ k (m : k < l.length),∀ d c,F (mk k (w64 d) (w64 c)) = some (.inl (mk ((k + 1 : Nat) : Int) (w64 (d + h l[k])) (w64 (c + j l[k])))))
    (hd : ∀ a b,F (mk l.length a b) = some (.inr (fin a b))) (d c : Int) :
    loop F (mk 0 (w64 d) (w64 c)) = some (fin (w64 (d + sumL h l)) (w64 (c + sumL j l))):=by
  have key:=Ze (f:=F) (fun k=>mk k (w64 (d + sumL h (l.take k))) (w64 (c + sumL j (l.take k)))) l.length (fin (w64 (d + sumL h l)) (w64 (c + sumL j l))) (fun k m=>by
    rw [hs k m,qq0 h l m,qq0 j l m,Int.add_assoc,Int.add_assoc]) (by rw [List.take_length];exact hd _ _) (Nat.zero_le _)
  have n : ∀ g : α→Int,sumL g (l.take 0) = 0:=fun g=>rfl;simp only [n,Int.add_zero,show ((0 : Nat) : Int) = 0 from rfl] at key;exact key
noncomputable def g1F (l : List qh) (d v : qg) (k : Int) : Int:=ind (J1 l v (wayV k)∧U2 l v (wayV k) d = true)
noncomputable def g2F (l : List qh) (d v : qg) (k : Int) : Int:=ind (J1 l v (wayV k)∧U2 l v (wayV k) d = false)
noncomputable def cntC (g : qg→Int→Int) (b : qh) : Int:=sumI b.Lo.X b.Hi.X fun x=>sumI b.Lo.Y b.Hi.Y fun y=>sumI b.Lo.Z b.Hi.Z fun z=>sumI 0 6 fun k=>g ⟨x,y,z⟩ k
noncomputable def litN (l : List qh) (d : qg) : Int:=sumL (cntC (g1F l d)) l
noncomputable def q9s (l : List qh) (d : qg) : Int:=sumL (cntC (g2F l d)) l
noncomputable def q37 (l : List qh) (d : qg) : Int × Int × Int:=if chkF l d≠0 then (0,0,chkF l d) else (w64 (litN l d),w64 (q9s l d),0)
theorem Sc5 {l : List qh} {d : qg} (hs : FitS l d) (o : l.length≤400) (A B C : Int × Int × Int) (n : ptOk (⟨A.1,B.1,C.1⟩ : qg)) (k m : Int) :
    loop (q31 (⟨1,0,0⟩,⟨-1,0,0⟩,⟨0,1,0⟩,⟨0,-1,0⟩,⟨0,0,1⟩,⟨0,0,-1⟩) A B C l d) (0,w64 k,w64 m) = some (w64 (k + sumI 0 6 (g1F l d (⟨A.1,B.1,C.1⟩ : qg))),w64 (m + sumI 0 6 (g2F l d (⟨A.1,B.1,C.1⟩ : qg)))):=by
  refine q35 (fun i a c=>(i,a,c)) (fun a c=>(a,c)) (q31 (⟨1,0,0⟩,⟨-1,0,0⟩,⟨0,1,0⟩,⟨0,-1,0⟩,⟨0,0,1⟩,⟨0,0,-1⟩) A B C l d) 0 6 (g1F l d (⟨A.1,B.1,C.1⟩ : qg)) (g2F l d (⟨A.1,B.1,C.1⟩ : qg)) (fun i f b h j=>?_) (fun i hi a c=>?_) k m
  · show (q31 (⟨1,0,0⟩,⟨-1,0,0⟩,⟨0,1,0⟩,⟨0,-1,0⟩,⟨0,0,1⟩,⟨0,0,-1⟩) A B C l d) (i,w64 h,w64 j) = some (.inl (i + 1,w64 (h + g1F l d (⟨A.1,B.1,C.1⟩ : qg) i),w64 (j + g2F l d (⟨A.1,B.1,C.1⟩ : qg) i)));unfold q31;simp only [Qb b,qz];rw [qqh ⟨f,b⟩,qj,(qin n (qci ⟨f,b⟩)).1,qj,qih l _ q0,qj,Q3 (x:=i + 1) q0];by_cases g : J1 l (⟨A.1,B.1,C.1⟩ : qg) (wayV i)
    · rw [Q7 (show ¬ hasB l (addV (⟨A.1,B.1,C.1⟩ : qg) (wayV i)).X (addV (⟨A.1,B.1,C.1⟩ : qg) (wayV i)).Y (addV (⟨A.1,B.1,C.1⟩ : qg) (wayV i)).Z from g),qy,qq3 hs n ⟨f,b⟩,qj]
      cases hb : U2 l (⟨A.1,B.1,C.1⟩ : qg) (wayV i) d with
      | true=>
        rw [show g1F l d (⟨A.1,B.1,C.1⟩ : qg) i = 1 from qa1 ⟨g,hb⟩,show g2F l d (⟨A.1,B.1,C.1⟩ : qg) i = 0 from Ji (by rw [hb];simp),Int.add_zero,qfa h 1,qz,qj]
      | false=>
        rw [show g1F l d (⟨A.1,B.1,C.1⟩ : qg) i = 0 from Ji (by rw [hb];simp),show g2F l d (⟨A.1,B.1,C.1⟩ : qg) i = 1 from qa1 ⟨g,hb⟩,Int.add_zero,qfa j 1,qy,qj]
    · rw [Qb (show hasB l (addV (⟨A.1,B.1,C.1⟩ : qg) (wayV i)).X (addV (⟨A.1,B.1,C.1⟩ : qg) (wayV i)).Y (addV (⟨A.1,B.1,C.1⟩ : qg) (wayV i)).Z from Classical.not_not.1 g),show g1F l d (⟨A.1,B.1,C.1⟩ : qg) i = 0 from Ji fun q=>g q.1,show g2F l d (⟨A.1,B.1,C.1⟩ : qg) i = 0 from Ji fun q=>g q.1,Int.add_zero,Int.add_zero,qz,qj]
  · show (q31 (⟨1,0,0⟩,⟨-1,0,0⟩,⟨0,1,0⟩,⟨0,-1,0⟩,⟨0,0,1⟩,⟨0,0,-1⟩) A B C l d) (i,a,c) = _;unfold q31;simp only [Q7 (show ¬ i < 6 by omega),qy]
theorem Sc4 {l : List qh} {d : qg} (hs : FitS l d) (o : l.length≤400) {b : qh} (h : K9 b) (A B : Int × Int × Int) (s : b.Lo.X≤A.1∧A.1 < b.Hi.X) (r : b.Lo.Y≤B.1∧B.1 < b.Hi.Y) (k m : Int) :
    loop (q30 b A B l d) (b.Lo.Z,w64 k,w64 m) = some (w64 (k + sumI b.Lo.Z b.Hi.Z fun z=>sumI 0 6 (g1F l d ⟨A.1,B.1,z⟩)),w64 (m + sumI b.Lo.Z b.Hi.Z fun z=>sumI 0 6 (g2F l d ⟨A.1,B.1,z⟩))):=by
  refine q35 (fun i a c=>(i,a,c)) (fun a c=>(a,c)) (q30 b A B l d) b.Lo.Z b.Hi.Z (fun z=>sumI 0 6 (g1F l d ⟨A.1,B.1,z⟩)) (fun z=>sumI 0 6 (g2F l d ⟨A.1,B.1,z⟩)) (fun i n j f g=>?_) (fun i hi a c=>?_) k m
  · have p : ptOk ⟨A.1,B.1,((i,w64 f,w64 g) : Int × Int × Int).1⟩:=by unfold K9 at h;unfold ptOk;simp only;omega
    have q:=Sc5 hs o A B (i,w64 f,w64 g) p f g;show (q30 b A B l d) (i,w64 f,w64 g) = some (.inl (i + 1,w64 (f + sumI 0 6 (g1F l d ⟨A.1,B.1,i⟩)),w64 (g + sumI 0 6 (g2F l d ⟨A.1,B.1,i⟩))));unfold q30 q9h;simp only [Qb j,qz,qj];rw [q];simp only [qj];rw [Q3 (x:=i + 1) (by unfold K9 at h;omega)]
  · show (q30 b A B l d) (i,a,c) = _;unfold q30;simp only [Q7 (show ¬ i < b.Hi.Z by omega),qy]
theorem Sc3 {l : List qh} {d : qg} (hs : FitS l d) (o : l.length≤400) {b : qh} (f : K9 b) (A : Int × Int × Int) (p : b.Lo.X≤A.1∧A.1 < b.Hi.X) (m n : Int) :
    loop (q2z b A l d) (b.Lo.Y,w64 m,w64 n) = some (w64 (m + sumI b.Lo.Y b.Hi.Y fun y=>sumI b.Lo.Z b.Hi.Z fun z=>sumI 0 6 (g1F l d ⟨A.1,y,z⟩)),w64 (n + sumI b.Lo.Y b.Hi.Y fun y=>sumI b.Lo.Z b.Hi.Z fun z=>sumI 0 6 (g2F l d ⟨A.1,y,z⟩))):=by
  refine q35 (fun i a c=>(i,a,c)) (fun a c=>(a,c)) (q2z b A l d) b.Lo.Y b.Hi.Y (fun y=>sumI b.Lo.Z b.Hi.Z fun z=>sumI 0 6 (g1F l d ⟨A.1,y,z⟩)) (fun y=>sumI b.Lo.Z b.Hi.Z fun z=>sumI 0 6 (g2F l d ⟨A.1,y,z⟩)) (fun i k g h j=>?_) (fun i hi a c=>?_) m n
  · have q:=Sc4 hs o f A (i,w64 h,w64 j) p ⟨k,g⟩ h j;show (q2z b A l d) (i,w64 h,w64 j) = some (.inl (i + 1,w64 (h + sumI b.Lo.Z b.Hi.Z fun z=>sumI 0 6 (g1F l d ⟨A.1,i,z⟩)),w64 (j + sumI b.Lo.Z b.Hi.Z fun z=>sumI 0 6 (g2F l d ⟨A.1,i,z⟩))));unfold q2z;simp only [Qb g,qz,qj];rw [q];simp only [qj];rw [Q3 (x:=i + 1) (by unfold K9 at f;omega)]
  · show (q2z b A l d) (i,a,c) = _;unfold q2z;simp only [Q7 (show ¬ i < b.Hi.Y by omega),qy]
theorem Sc2 {l : List qh} {d : qg} (hs : FitS l d) (o : l.length≤400) {b : qh} (f : K9 b) (m n : Int) :
    loop (q2y b l d) (b.Lo.X,w64 m,w64 n) = some (w64 (m + cntC (g1F l d) b),w64 (n + cntC (g2F l d) b)):=by
  refine q35 (fun i a c=>(i,a,c)) (fun a c=>(a,c)) (q2y b l d) b.Lo.X b.Hi.X (fun x=>sumI b.Lo.Y b.Hi.Y fun y=>sumI b.Lo.Z b.Hi.Z fun z=>sumI 0 6 (g1F l d ⟨x,y,z⟩)) (fun x=>sumI b.Lo.Y b.Hi.Y fun y=>sumI b.Lo.Z b.Hi.Z fun z=>sumI 0 6 (g2F l d ⟨x,y,z⟩)) (fun i k g h j=>?_) (fun i hi a c=>?_) m n
  · have p:=Sc3 hs o f (i,w64 h,w64 j) ⟨k,g⟩ h j;show (q2y b l d) (i,w64 h,w64 j) = some (.inl (i + 1,w64 (h + sumI b.Lo.Y b.Hi.Y fun y=>sumI b.Lo.Z b.Hi.Z fun z=>sumI 0 6 (g1F l d ⟨i,y,z⟩)),w64 (j + sumI b.Lo.Y b.Hi.Y fun y=>sumI b.Lo.Z b.Hi.Z fun z=>sumI 0 6 (g2F l d ⟨i,y,z⟩))));unfold q2y;simp only [Qb g,qz,qj];rw [p];simp only [qj];rw [Q3 (x:=i + 1) (by unfold K9 at f;omega)]
  · show (q2y b l d) (i,a,c) = _;unfold q2y;simp only [Q7 (show ¬ i < b.Hi.X by omega),qy]
theorem Sc1 {l : List qh} {d : qg} (hs : FitS l d) (m : l.length≤400) : loop (q2x l d) (0,0,0) = some (w64 (litN l d),w64 (q9s l d)):=by
  have h:=qjw l (fun i a c=>(i,a,c)) (fun a b=>(a,b)) (q2x l d) (cntC (g1F l d)) (cntC (g2F l d)) (fun k f j g=>by
    have n:=Sc2 hs m (hs.bx _ (Ks f)) j g;show (q2x l d) ((k : Int),w64 j,w64 g) = some (.inl (((k + 1 : Nat) : Int),w64 (j + cntC (g1F l d) l[k]),w64 (g + cntC (g2F l d) l[k])));unfold q2x;simp only [dlt f,qz,Qw f,qj,w64s f (show l.length≤1000000 by omega)]
    rw [n];rfl) (fun a b=>by
    show (q2x l d) ((l.length : Int),a,b) = _
    unfold q2x;simp only [dnl,qy]) 0 0
  rw [Int.zero_add,Int.zero_add] at h;exact h
theorem qf2 (l : List qh) (d : qg) : q2w l d = some (q37 l d):=by
  unfold q2w q37;rw [qcc,qj];by_cases a : chkF l d = 0
  · have hs:=Ug a;rw [a];simp only [show ((0 : Int) != 0) = false from rfl,qy,ne_eq,not_true_eq_false,if_false,qj];rw [Sc1 hs (Ja hs.ck)];rfl
  · rw [show (chkF l d != 0) = true by simpa using a,qz,qq a]
theorem Rc5 {l : List qh} {d : qg} (hs : FitS l d) (p : l.length≤400) (A B C : Int × Int × Int) (o : ptOk (⟨A.2.2,B.2.2,C.2.2⟩ : qg)) (n : hasB l A.2.2 B.2.2 C.2.2) (k m : Int) :
    loop (q2p l A B C d) (w64 k,w64 m,0) = some (w64 (k + sumI 0 6 (g1F l d (⟨A.2.2,B.2.2,C.2.2⟩ : qg))),w64 (m + sumI 0 6 (g2F l d (⟨A.2.2,B.2.2,C.2.2⟩ : qg)))):=by
  refine q35 (fun i a c=>(a,c,i)) (fun a c=>(a,c)) (q2p l A B C d) 0 6 (g1F l d (⟨A.2.2,B.2.2,C.2.2⟩ : qg)) (g2F l d (⟨A.2.2,B.2.2,C.2.2⟩ : qg)) (fun i f b h j=>?_) (fun i hi a c=>?_) k m
  · show (q2p l A B C d) (w64 h,w64 j,i) = some (.inl (w64 (h + g1F l d (⟨A.2.2,B.2.2,C.2.2⟩ : qg) i),w64 (j + g2F l d (⟨A.2.2,B.2.2,C.2.2⟩ : qg) i),i + 1));unfold q2p;simp only [Qb b,qz];rw [qo8 q0 hs.bx (⟨A.2.2,B.2.2,C.2.2⟩ : qg) ⟨f,b⟩];simp only [qj];rw [Q3 (x:=i + 1) q0];by_cases g : J1 l (⟨A.2.2,B.2.2,C.2.2⟩ : qg) (wayV i)
    · rw [Qb (show hasB l (⟨A.2.2,B.2.2,C.2.2⟩ : qg).X (⟨A.2.2,B.2.2,C.2.2⟩ : qg).Y (⟨A.2.2,B.2.2,C.2.2⟩ : qg).Z∧J1 l (⟨A.2.2,B.2.2,C.2.2⟩ : qg) (wayV i) from ⟨n,g⟩)];simp only [Bool.not_true,qy];rw [qoe hs o ⟨f,b⟩];simp only [qj]
      cases hb : U2 l (⟨A.2.2,B.2.2,C.2.2⟩ : qg) (wayV i) d with
      | true=>
        rw [show g1F l d (⟨A.2.2,B.2.2,C.2.2⟩ : qg) i = 1 from qa1 ⟨g,hb⟩,show g2F l d (⟨A.2.2,B.2.2,C.2.2⟩ : qg) i = 0 from Ji (by rw [hb];simp),Int.add_zero,qfa h 1];simp only [qz,qj]
      | false=>
        rw [show g1F l d (⟨A.2.2,B.2.2,C.2.2⟩ : qg) i = 0 from Ji (by rw [hb];simp),show g2F l d (⟨A.2.2,B.2.2,C.2.2⟩ : qg) i = 1 from qa1 ⟨g,hb⟩,Int.add_zero,qfa j 1];simp only [qy,qj]
    · rw [Q7 (show ¬ (hasB l (⟨A.2.2,B.2.2,C.2.2⟩ : qg).X (⟨A.2.2,B.2.2,C.2.2⟩ : qg).Y (⟨A.2.2,B.2.2,C.2.2⟩ : qg).Z∧J1 l (⟨A.2.2,B.2.2,C.2.2⟩ : qg) (wayV i)) from fun q=>g q.2),show g1F l d (⟨A.2.2,B.2.2,C.2.2⟩ : qg) i = 0 from Ji fun q=>g q.1,show g2F l d (⟨A.2.2,B.2.2,C.2.2⟩ : qg) i = 0 from Ji fun q=>g q.1,Int.add_zero,Int.add_zero];simp only [Bool.not_false,qz,qj]
  · show (q2p l A B C d) (a,c,i) = _;unfold q2p;simp only [Q7 (show ¬ i < 6 by omega),qy]
theorem Rc4 {l : List qh} {d : qg} (hs : FitS l d) (p : l.length≤400) {b : qh} (h : K9 b) (m : b∈l) (A B : Int × Int × Int) (r : b.Lo.X≤A.2.2∧A.2.2 < b.Hi.X) (q : b.Lo.Y≤B.2.2∧B.2.2 < b.Hi.Y) (n o : Int) :
    loop (q2o b l A B d) (w64 n,w64 o,b.Lo.Z) = some (w64 (n + sumI b.Lo.Z b.Hi.Z fun z=>sumI 0 6 (g1F l d ⟨A.2.2,B.2.2,z⟩)),w64 (o + sumI b.Lo.Z b.Hi.Z fun z=>sumI 0 6 (g2F l d ⟨A.2.2,B.2.2,z⟩))):=by
  refine q35 (fun i a c=>(a,c,i)) (fun a c=>(a,c)) (q2o b l A B d) b.Lo.Z b.Hi.Z (fun z=>sumI 0 6 (g1F l d ⟨A.2.2,B.2.2,z⟩)) (fun z=>sumI 0 6 (g2F l d ⟨A.2.2,B.2.2,z⟩)) (fun i k j f g=>?_) (fun i hi a c=>?_) n o
  · have s : ptOk ⟨A.2.2,B.2.2,((w64 f,w64 g,i) : Int × Int × Int).2.2⟩:=by unfold K9 at h;unfold ptOk;simp only;omega
    have t:=Rc5 hs p A B (w64 f,w64 g,i) s ⟨b,m,r,q,k,j⟩ f g;show (q2o b l A B d) (w64 f,w64 g,i) = some (.inl (w64 (f + sumI 0 6 (g1F l d ⟨A.2.2,B.2.2,i⟩)),w64 (g + sumI 0 6 (g2F l d ⟨A.2.2,B.2.2,i⟩)),i + 1));unfold q2o;simp only [Qb j,qz,qj];rw [t];simp only [qj];rw [Q3 (x:=i + 1) (by unfold K9 at h;omega)]
  · show (q2o b l A B d) (a,c,i) = _;unfold q2o;simp only [Q7 (show ¬ i < b.Hi.Z by omega),qy]
theorem Rc3 {l : List qh} {d : qg} (hs : FitS l d) (p : l.length≤400) {b : qh} (f : K9 b) (m : b∈l) (A : Int × Int × Int) (q : b.Lo.X≤A.2.2∧A.2.2 < b.Hi.X) (n o : Int) :
    loop (q2n b l A d) (w64 n,w64 o,b.Lo.Y) = some (w64 (n + sumI b.Lo.Y b.Hi.Y fun y=>sumI b.Lo.Z b.Hi.Z fun z=>sumI 0 6 (g1F l d ⟨A.2.2,y,z⟩)),w64 (o + sumI b.Lo.Y b.Hi.Y fun y=>sumI b.Lo.Z b.Hi.Z fun z=>sumI 0 6 (g2F l d ⟨A.2.2,y,z⟩))):=by
  refine q35 (fun i a c=>(a,c,i)) (fun a c=>(a,c)) (q2n b l A d) b.Lo.Y b.Hi.Y (fun y=>sumI b.Lo.Z b.Hi.Z fun z=>sumI 0 6 (g1F l d ⟨A.2.2,y,z⟩)) (fun y=>sumI b.Lo.Z b.Hi.Z fun z=>sumI 0 6 (g2F l d ⟨A.2.2,y,z⟩)) (fun i k g h j=>?_) (fun i hi a c=>?_) n o
  · have r:=Rc4 hs p f m A (w64 h,w64 j,i) q ⟨k,g⟩ h j;show (q2n b l A d) (w64 h,w64 j,i) = some (.inl (w64 (h + sumI b.Lo.Z b.Hi.Z fun z=>sumI 0 6 (g1F l d ⟨A.2.2,i,z⟩)),w64 (j + sumI b.Lo.Z b.Hi.Z fun z=>sumI 0 6 (g2F l d ⟨A.2.2,i,z⟩)),i + 1));unfold q2n;simp only [Qb g,qz,qj];rw [r];simp only [qj];rw [Q3 (x:=i + 1) (by unfold K9 at f;omega)]
  · show (q2n b l A d) (a,c,i) = _;unfold q2n;simp only [Q7 (show ¬ i < b.Hi.Y by omega),qy]
theorem Rc2 {l : List qh} {d : qg} (hs : FitS l d) (p : l.length≤400) {b : qh} (f : K9 b) (m : b∈l) (n o : Int) :
    loop (q2m b l d) (w64 n,w64 o,b.Lo.X) = some (w64 (n + cntC (g1F l d) b),w64 (o + cntC (g2F l d) b)):=by
  refine q35 (fun i a c=>(a,c,i)) (fun a c=>(a,c)) (q2m b l d) b.Lo.X b.Hi.X (fun x=>sumI b.Lo.Y b.Hi.Y fun y=>sumI b.Lo.Z b.Hi.Z fun z=>sumI 0 6 (g1F l d ⟨x,y,z⟩)) (fun x=>sumI b.Lo.Y b.Hi.Y fun y=>sumI b.Lo.Z b.Hi.Z fun z=>sumI 0 6 (g2F l d ⟨x,y,z⟩)) (fun i k g h j=>?_) (fun i hi a c=>?_) n o
  · have q:=Rc3 hs p f m (w64 h,w64 j,i) ⟨k,g⟩ h j;show (q2m b l d) (w64 h,w64 j,i) = some (.inl (w64 (h + sumI b.Lo.Y b.Hi.Y fun y=>sumI b.Lo.Z b.Hi.Z fun z=>sumI 0 6 (g1F l d ⟨i,y,z⟩)),w64 (j + sumI b.Lo.Y b.Hi.Y fun y=>sumI b.Lo.Z b.Hi.Z fun z=>sumI 0 6 (g2F l d ⟨i,y,z⟩)),i + 1));unfold q2m;simp only [Qb g,qz,qj];rw [q];simp only [qj];rw [Q3 (x:=i + 1) (by unfold K9 at f;omega)]
  · show (q2m b l d) (a,c,i) = _;unfold q2m;simp only [Q7 (show ¬ i < b.Hi.X by omega),qy]
theorem Rc1 {l : List qh} {d : qg} (hs : FitS l d) (m : l.length≤400) : loop (q2l l d) (0,0,0) = some (w64 (litN l d),w64 (q9s l d)):=by
  have h:=qjw l (fun i a c=>(a,c,i)) (fun a b=>(a,b)) (q2l l d) (cntC (g1F l d)) (cntC (g2F l d)) (fun k f j g=>by
    have n:=Rc2 hs m (hs.bx _ (Ks f)) (Ks f) j g;show (q2l l d) (w64 j,w64 g,(k : Int)) = some (.inl (w64 (j + cntC (g1F l d) l[k]),w64 (g + cntC (g2F l d) l[k]),((k + 1 : Nat) : Int)));unfold q2l;simp only [dlt f,qz,Qw f,qj,w64s f (show l.length≤1000000 by omega)]
    rw [n];rfl) (fun a b=>by
    show (q2l l d) (a,b,(l.length : Int)) = _
    unfold q2l;simp only [dnl,qy]) 0 0
  rw [Int.zero_add,Int.zero_add] at h;exact h
theorem qy1 (l : List qh) (d : qg) : qan l d = some (q37 l d):=by
  unfold qan q37;rw [qee,qj];by_cases a : chkF l d = 0
  · have hs:=Ug a;rw [a];simp only [show ((0 : Int) != 0) = false from rfl,qy,ne_eq,not_true_eq_false,if_false,qj];rw [Rc1 hs (Ja hs.ck)];rfl
  · rw [show (chkF l d != 0) = true by simpa using a,qz,qq a];rfl
theorem q15s (l : List qh) (v : qg) (k : Int) (d : qg) (c : 0≤k) : qdk l v k d = some true:=by
  unfold qdk;obtain ⟨b,hb,a⟩:=qhj l;rw [hb,qj]
  cases b with
  | false=>rfl
  | true=>
    have f:=(a rfl).1;simp only [Bool.not_true,qy];rw [qxv l q0];simp only [qj];rw [qca l v c d,qy5 l v c d,qf2,qy1];simp only [qj,beq_self_eq_true,qz];rw [sameBox l l q0];simp
end Go.Sh
