/- Su12 Qb2 Pf3 Rs5 Su13 Rs6 Rs7 Rs8 Su14 Su15 Su16 Su17 Su18 Su19 Su20 Su21 Su22 Su23 -/
import Derived.Test.YtmnfbjlabfeneaaGreatK12
namespace Go.Sh
open Go Go.Am
theorem qit (l : List qg) (d : l.length≤1000000) (f : qg→Option Bool) (c : qg→Bool) (h : ∀ b∈l,f b = some (c b)) : Ud l f = some (l.any c):=by
  unfold Ud q6q
  rcases Ui l c (fun k _=>(k : Int)) () (Jh l f) (fun k a=>by
    simp only [Jh,dlt a,Q0,Qz a,qk,h _ (Yf a),w64s a d]
    cases c l[k] <;> rfl) (by simp only [Jh,dnl,Q4]) with ⟨h1,h2⟩ | ⟨k,a,hc,_,h2⟩
  · rw [h2];have : l.any c = false:=by rw [List.any_eq_false];intro b hb;simp [h1 b hb]
    rw [this];rfl
  · rw [h2];have : l.any c = true:=List.any_eq_true.2 ⟨l[k],Yf a,hc⟩;rw [this];simp only [qk];rw [Qb q0]
def inV (v : ql) (n : Int) : Prop:=(-n≤v.X∧v.X≤n)∧(-n≤v.Y∧v.Y≤n)∧(-n≤v.Z∧v.Z≤n)
instance q13u (v : ql) (n : Int) : Decidable (inV v n):=by unfold inV;infer_instance
instance (d : ql) : Decidable (nzV d):=by unfold nzV;infer_instance
instance (p d : Int) : Decidable (fitA p d):=by unfold fitA;infer_instance
instance (p d : ql) : Decidable (fitV p d):=by unfold fitV;infer_instance
theorem qdo (v : ql) {n : Int} (b : 0≤n∧n≤1000) : q3h v n = some (decide (inV v n)):=by
  unfold q3h;rw [Qa (x:=0 - n) q0];by_cases a : min (min v.X v.Y) v.Z ≥ 0 - n
  · rw [Qb a];simp only [Q0,qk];congr 1;refine decide_eq_decide.2 ?_;unfold inV;omega
  · rw [Q9 a];simp only [Q4,qk];congr 1;refine (Q9 ?_).symm;unfold inV;omega
theorem qct (v : ql) {n : Int} (g : 0≤n∧n≤1000) : Ux v n = some (decide (inV v n)):=by
  unfold Ux;rw [Qa (x:=0 - n) q0];by_cases c : v.X ≥ 0 - n
  · rw [Qb c];simp only [Q0,qk];by_cases a : v.X≤n
    · rw [Qb a];simp only [Q0,qk];by_cases f : v.Y ≥ 0 - n
      · rw [Qb f];simp only [Q0,qk];by_cases b : v.Y≤n
        · rw [Qb b];simp only [Q0,qk];by_cases d : v.Z ≥ 0 - n
          · rw [Qb d];simp only [Q0,qk];congr 1;refine decide_eq_decide.2 ?_;unfold inV;omega
          · rw [Q9 d,Q9 (show ¬ inV v n by unfold inV;omega)];rfl
        · rw [Q9 b,Q9 (show ¬ inV v n by unfold inV;omega)];rfl
      · rw [Q9 f,Q9 (show ¬ inV v n by unfold inV;omega)];rfl
    · rw [Q9 a,Q9 (show ¬ inV v n by unfold inV;omega)];rfl
  · rw [Q9 c,Q9 (show ¬ inV v n by unfold inV;omega)];rfl
noncomputable def chkF (l : List qg) (d : ql) : Int:=if K9 l≠0 then K9 l else if ∀ b∈l,inV b.Lo 30∧inV b.Hi 30 then (if inV d 8∧nzV d then 0 else 2) else 16
theorem q2b {l : List qg} (h : K9 l = 0) : l.length≤400:=(Zp.1 h).1
theorem qlq (d : ql) : ((d.X == 0) && ((d.Y == 0) && ((d.Z == 0) && true))) = decide (¬ nzV d):=by
  by_cases a : d.X = 0 <;> by_cases b : d.Y = 0 <;> by_cases c : d.Z = 0 <;> simp [nzV,a,b,c]
theorem qu2 (d : ql) : (((cond (d.X == 0) (some (d.Y == 0)) (some false)).bind fun a=>(cond a (some (d.Z == 0)) (some false)).bind fun b=>some b) : Option Bool) = some (decide (¬ nzV d)):=by
  rw [← qlq];cases (d.X == 0) <;> cases (d.Y == 0) <;> cases (d.Z == 0) <;> rfl
theorem qax (l : List qg) (d : ql) : q28 l d = some (chkF l d):=by
  unfold q28 chkF;rw [qh3,qk];by_cases f : K9 l = 0
  · have k:=q2b f;rw [f];simp only [show ((0 : Int) != 0) = false from rfl,Q4,ne_eq,not_true_eq_false,if_false]
    have j : ∀ b∈l,q7z b = some (!decide (inV b.Lo 30∧inV b.Hi 30)):=fun b _=>by
      unfold q7z;rw [qdo _ qw,qdo _ qw];by_cases a : inV b.Lo 30 <;> by_cases c : inV b.Hi 30 <;> simp [a,c]
    rw [qit l q0 _ _ j,qk];by_cases hb : ∀ b∈l,inV b.Lo 30∧inV b.Hi 30
    · have : l.any (fun b=>!decide (inV b.Lo 30∧inV b.Hi 30)) = false:=by
        rw [List.any_eq_false];intro b h;simp [hb b h]
      rw [this,Q4,qr hb,qdo _ qw,qlq];by_cases a : inV d 8 <;> by_cases c : nzV d <;> simp [a,c]
    · have : l.any (fun b=>!decide (inV b.Lo 30∧inV b.Hi 30)) = true:=by
        refine Classical.byContradiction fun g=>hb fun b h=>?_;have:=(List.any_eq_false.1 (Bool.eq_false_iff.2 g)) b h;simpa using this
      rw [this,Q0,qs hb]
  · rw [show (K9 l != 0) = true by simpa using f,Q0,qr f]
theorem qwc (l : List qg) (d : ql) : q98 l d = some (chkF l d):=by
  unfold q98 chkF;rw [qw2,qk];by_cases g : K9 l = 0
  · have j:=q2b g;rw [g];simp only [show ((0 : Int) != 0) = false from rfl,Q4,ne_eq,not_true_eq_false,if_false]
    rcases Ui l (fun b=>!decide (inV b.Lo 30∧inV b.Hi 30)) (fun k _=>(16 : Int)) () (q66 l) (fun k f=>by
      simp only [q66,dlt f,Q0,Qz f,qk,qct _ (show (0 : Int)≤30∧(30 : Int)≤1000 by decide),w64s f (show l.length≤1000000 by omega)]
      by_cases a : inV l[k].Lo 30 <;> by_cases c : inV l[k].Hi 30 <;> simp [a,c]) (by simp only [q66,dnl,Q4]) with ⟨h1,h2⟩ | ⟨k,f,hc,_,h2⟩
    · have hb : ∀ b∈l,inV b.Lo 30∧inV b.Hi 30:=fun b hb=>by simpa using h1 b hb
      rw [h2,qr hb];simp only [qk];rw [qct _ qw,qu2];by_cases a : inV d 8 <;> by_cases c : nzV d <;> simp [a,c]
    · have hb : ¬ ∀ b∈l,inV b.Lo 30∧inV b.Hi 30:=fun h=>by simp [h _ (Yf f)] at hc
      rw [h2,qs hb];rfl
  · rw [show (K9 l != 0) = true by simpa using g,Q0,qr g];rfl
structure FitS (l : List qg) (d : ql) : Prop where
  ck : K9 l = 0
  bx : ∀ b∈l,Y8 b
  dr : dirV d
  nz : nzV d
theorem q17 {l : List qg} {d : ql} (h : chkF l d = 0) : FitS l d:=by
  unfold chkF at h;by_cases a : K9 l = 0
  · rw [a] at h;simp only [ne_eq,not_true_eq_false,if_false] at h;by_cases hb : ∀ b∈l,inV b.Lo 30∧inV b.Hi 30
    · rw [qr hb] at h;by_cases hd : inV d 8∧nzV d
      · exact ⟨a,fun b c=>by have:=hb b c;unfold inV at this;unfold Y8;omega,by have:=hd.1;unfold inV at this;unfold dirV;omega,hd.2⟩
      · rw [qs hd] at h;cases h
    · rw [qs hb] at h;cases h
  · rw [qr a] at h;exact absurd h a
theorem q136 (p : Int) : (Int.tmod p 2 == 0) = decide (¬ p % 2≠0):=by
  have a : (2 : Int) ∣ p↔Int.tmod p 2 = 0:=Int.dvd_iff_tmod_eq_zero;by_cases h : p % 2 = 0
  · have : Int.tmod p 2 = 0:=a.1 (Int.dvd_of_emod_eq_zero h);rw [this,Qb (by simpa using h)];rfl
  · have : Int.tmod p 2≠0:=fun g=>h (Int.emod_eq_zero_of_dvd (a.2 g));rw [Q9 (by simpa using h)];simpa using this
theorem qjo {γ : Type} (f : Int→Option (Int ⊕ (Unit ⊕ Bool))) (p d : ql) (K : Option Bool)
    (l : ∀ i a,(i = 0∧a = (p.X,d.X))∨(i = 1∧a = (p.Y,d.Y))∨(i = 2∧a = (p.Z,d.Z))→f i = some (if fitA a.1 a.2 then .inl (i + 1) else .inr (.inr false))) (n : f 3 = some (.inr (.inl ()))) (o : K = some (decide (inV p 240))) :
    ((loop f 0 : Option (Unit ⊕ Bool)).bind fun m=>(match m with | .inl b62=>K | .inr x1=>some x1)) = some (decide (fitV p d∧inV p 240)):=by
  have s0:=l 0 _ (.inl ⟨rfl,rfl⟩);have c:=l 1 _ (.inr (.inl ⟨rfl,rfl⟩));have j:=l 2 _ (.inr (.inr ⟨rfl,rfl⟩));by_cases k : fitA p.X d.X
  · rw [qr k] at s0;rw [Kq s0,show (0 : Int) + 1 = 1 from rfl];by_cases b : fitA p.Y d.Y
    · rw [qr b] at c;rw [Kq c,show (1 : Int) + 1 = 2 from rfl];by_cases g : fitA p.Z d.Z
      · rw [qr g] at j;rw [Kq j,show (2 : Int) + 1 = 3 from rfl,Ke n];simp only [qk];rw [o];congr 1;exact decide_eq_decide.2 ⟨fun h=>⟨⟨k,b,g⟩,h⟩,fun h=>h.2⟩
      · rw [qs g] at j;rw [Ke j,Q9 fun h=>g h.1.2.2];rfl
    · rw [qs b] at c;rw [Ke c,Q9 fun h=>b h.1.2.1];rfl
  · rw [qs k] at s0;rw [Ke s0,Q9 fun h=>k h.1.1];rfl
theorem q5e (p d i : Int) (hi : 0≤i∧i < 3) : (((cond (d == 0) (some (Int.tmod p 2 == 0)) (some false)) : Option Bool).bind fun a=>cond a (some (Sum.inr (Sum.inr false))) (some (Sum.inl (w64 (i + 1)))) : Option (Int ⊕ (Unit ⊕ Bool))) = some (if fitA p d then .inl (i + 1) else .inr (.inr false)):=by
  rw [Qa q0,q136];by_cases h : d = 0
  · by_cases g : p % 2 = 0
    · rw [qs (show ¬ fitA p d from fun q=>q h g),show (d == 0) = true by simpa using h,Qb (by simpa using g)];rfl
    · rw [qr (show fitA p d from fun _=>g),show (d == 0) = true by simpa using h,Q9 (by simpa using g)];rfl
  · rw [qr (show fitA p d from fun q=>absurd q h),show (d == 0) = false by simpa using h];rfl
theorem qoh (p d : ql) : q81 ({p_:=p,d_:=d} : Yd) = some (decide (fitV p d∧inV p 240)):=by
  unfold q81 q11;simp only [qk];refine qjo (γ:=Unit) (qdq (d.X,d.Y,d.Z) (p.X,p.Y,p.Z)) p d _ ?_ rfl (by rw [qdo _ qw];rfl);rintro i a (⟨rfl,rfl⟩ | ⟨rfl,rfl⟩ | ⟨rfl,rfl⟩)
  · exact q5e p.X d.X 0 qw
  · exact q5e p.Y d.Y 1 qw
  · exact q5e p.Z d.Z 2 qw
theorem qwe (p d : ql) : q99 p d = some (decide (fitV p d∧inV p 240)):=by
  unfold q99;refine qjo (γ:=Unit) (qcs d p) p d _ ?_ rfl (by rw [qct _ qw];rfl);rintro i a (⟨rfl,rfl⟩ | ⟨rfl,rfl⟩ | ⟨rfl,rfl⟩)
  · exact q5e p.X d.X 0 qw
  · exact q5e p.Y d.Y 1 qw
  · exact q5e p.Z d.Z 2 qw
theorem q9d {l : List qg} {p d : ql} (h : FitS l d) (hp : inV p 240) : Zv p d:=by
  have:=h.dr;unfold inV at hp;unfold dirV at this;unfold Zv;omega
theorem qf6 {l : List qg} {p d : ql} (j : l.length≤1000000) (hb : ∀ b∈l,Y8 b) (k : Zv p d) (f : nzV d) : q3i ({p_:=p,d_:=d} : Yd) l = some (!decide (blk l p d)):=by
  unfold q3i
  rw [qit l j (fun x0=>q82 x0 ({p_:=p,d_:=d} : Yd)) (fun b=>(hitC (axB b p d)).isSome) (fun b a=>by
    obtain ⟨t,g,_⟩:=qfh (hb b a) k f
    unfold q82;rw [g];rfl)]
  simp only [qk];congr 2;by_cases h : blk l p d
  · rw [Qb h];obtain ⟨b,g,c⟩:=h;exact List.any_eq_true.2 ⟨b,g,c⟩
  · rw [Q9 h,List.any_eq_false];intro b hb c;exact h ⟨b,hb,c⟩
noncomputable def qbx (l : List qg) (p d : ql) : Bool × Int:=if chkF l d≠0 then (false,chkF l d) else if fitV p d∧inV p 240 then (!decide (blk l p d),0) else (false,2)
theorem qhd (l : List qg) (p d : ql) : q53 l p d = some (qbx l p d):=by
  unfold q53 qbx;rw [qax,qk];by_cases b : chkF l d = 0
  · have hs:=q17 b;have c:=q2b hs.ck;rw [b];simp only [show ((0 : Int) != 0) = false from rfl,Q4,ne_eq,not_true_eq_false,if_false];rw [qoh,qk];by_cases a : fitV p d∧inV p 240
    · rw [Qb a,qr a,qf6 q0 hs.bx (q9d hs a.2) hs.nz];rfl
    · rw [Q9 a,qs a];rfl
  · rw [show (chkF l d != 0) = true by simpa using b,Q0,qr b]
def minP (m : Option (Int × Int)) (u : Option (Int × Int)) : Option (Int × Int):=match u with
  | none=>m
  | some u=>match m with
    | none=>some u
    | some v=>if befC u v = true then some u else some v
def encF (k : Int) : Option (Int × Int)→Bool × Int × Int × Int
  | none=>(false,k,0,0)
  | some u=>(true,k,u.1,u.2)
def Jw (l : List qg) (p d : ql) : Option (Int × Int):=l.foldl (fun m b=>minP m (hitC (axB b p d))) none
theorem qtq {m u : Option (Int × Int)} (a : ∀ x,m = some x→smP x∧0 < x.2∧0≤valC x) (b : ∀ x,u = some x→smP x∧0 < x.2∧0≤valC x) : (∀ x,minP m u = some x→smP x∧0 < x.2∧0≤valC x)∧(minP m u).map valC = minO (m.map valC) (u.map valC):=by
  cases u with
  | none=>exact ⟨a,by cases m <;> rfl⟩
  | some u=>
    cases m with
    | none=>exact ⟨b,rfl⟩
    | some v=>
      have h:=qbe (b u rfl).2.1 (a v rfl).2.1;show (∀ x,(if befC u v = true then some u else some v) = some x→_)∧(if befC u v = true then some u else some v).map valC = some (min (valC v) (valC u));by_cases hb : befC u v = true
      · rw [qr hb];refine ⟨b,?_⟩;have:=h.1 hb;show some (valC u) = _;congr 1;grind
      · rw [qs hb];refine ⟨a,?_⟩;have : ¬ valC u < valC v:=fun g=>hb (h.2 g);show some (valC v) = _;congr 1;grind
theorem qkj {b : qg} {p d : ql} (hb : Y8 b) (g : Zv p d) (a : nzV d) : ∀ x,hitC (axB b p d) = some x→smP x∧0 < x.2∧0≤valC x:=fun x c=>by
  obtain ⟨t,_,h⟩:=qfh hb g a
  have f:=(qc3 (l:=axB b p d)).2 x c
  exact ⟨(h x c).2,f⟩
theorem qf3 {p d : ql} (f : Zv p d) (a : nzV d) : ∀ (l : List qg),(∀ b∈l,Y8 b)→∀ m : Option (Int × Int),(∀ x,m = some x→smP x∧0 < x.2∧0≤valC x)→
    (∀ x,l.foldl (fun m b=>minP m (hitC (axB b p d))) m = some x→smP x∧0 < x.2∧0≤valC x)∧(l.foldl (fun m b=>minP m (hitC (axB b p d))) m).map valC = l.foldl (fun m b=>minO m (hitT (axB b p d))) (m.map valC)
  | [],_,m,hm=>⟨hm,rfl⟩
  | b::l,hb,m,hm=>by
    have h:=qtq hm (qkj (hb b qe) f a)
    rw [List.foldl_cons,List.foldl_cons]
    rw [← (qc3 (l:=axB b p d)).1,← h.2]
    exact qf3 f a l (fun c g=>hb c (by simp [g])) _ h.1
theorem qjk {l : List qg} {p d : ql} (hb : ∀ b∈l,Y8 b) (c : Zv p d) (a : nzV d) : (∀ x,Jw l p d = some x→smP x∧0 < x.2∧0≤valC x)∧(Jw l p d).map valC = firstT l p d:=
  qf3 c a l hb none qe
theorem q12x {l : List qg} {p d : ql} (r : l.length≤1000000) (hb : ∀ b∈l,Y8 b) (o : Zv p d) (c : nzV d) : loop (q27 l p d) (false,0,0,0) = some ((encF 0 (Jw l p d)).1,(encF 0 (Jw l p d)).2.2):=by
  have key:=Zi (f:=q27 l p d) (fun k=>encF (k : Int) ((l.take k).foldl (fun m b=>minP m (hitC (axB b p d))) none)) l.length ((encF 0 (Jw l p d)).1,(encF 0 (Jw l p d)).2.2) (fun k a=>by
    rw [List.take_succ_eq_append_getElem a,List.foldl_append];have q:=(qf3 o c (l.take k) (fun b n=>hb b (List.mem_of_mem_take n)) none qe).1;generalize (l.take k).foldl (fun m b=>minP m (hitC (axB b p d))) none = m at q;have g:=hb _ (Yf a);obtain ⟨t,z,s⟩:=qfh g o c
    have h : q27 l p d (encF (k : Int) m) = some (.inl (encF ((k + 1 : Nat) : Int) (minP m (hitC (axB l[k] p d))))):=by
      unfold q27;have j : (encF (k : Int) m).2.1 = k:=by cases m <;> rfl
      rw [j,dlt a,Q0,Qz a];simp only [qk,z,w64s a r]
      cases hc : hitC (axB l[k] p d) with
      | none=>cases m <;> rfl
      | some u=>
        obtain ⟨e2,y⟩:=s u hc;subst e2
        cases m with
        | none=>rfl
        | some v=>
          have x:=(q v rfl).1;obtain ⟨⟨c1,c2⟩,c3⟩:=x;obtain ⟨⟨c4,c5⟩,c6⟩:=y;simp only [encF,Option.isSome_some,Q0,Bool.not_true,Q4];rw [qbf (by simp only;omega) (by simp only;omega) (by simp only;omega) (by simp only;omega)];simp only [qk,minP]
          cases hq : befC u v with
          | true=>rfl
          | false=>rfl
    rw [h];rfl) (by
    rw [List.take_length];show q27 l p d (encF (l.length : Int) (Jw l p d)) = _;unfold q27;have j : (encF (l.length : Int) (Jw l p d)).2.1 = l.length:=by cases Jw l p d <;> rfl
    rw [j,dnl,Q4]
    cases Jw l p d <;> rfl) (Nat.zero_le _)
  exact key
theorem qsi {b : qg} {p d : ql} (hb : Y8 b) (f : Zv p d) (a : nzV d) : ∀ q,hitT (axB b p d) = some q→smR q:=fun q hq=>by
  rw [← (qc3 (l:=axB b p d)).1] at hq
  cases c : hitC (axB b p d) with
  | none=>rw [c] at hq;cases hq
  | some u=>
    rw [c] at hq;cases hq
    obtain ⟨⟨c1,c2⟩,c3,c4⟩:=qkj hb f a u c
    exact (qs0 q0 c1 c2).1
theorem qtp {m u : Option Rat} (d : ∀ x,m = some x→smR x) (f : ∀ x,u = some x→smR x) : ∀ x,minO m u = some x→smR x:=by
  intro x b
  cases m with
  | none=>exact f x b
  | some a=>
    cases u with
    | none=>exact d x b
    | some c=>
      have b : min a c = x:=q86 b;rw [← b];by_cases h : a≤c
      · rw [show min a c = a by grind];exact d a rfl
      · rw [show min a c = c by grind];exact f c rfl
theorem qju {p d : ql} (f : Zv p d) (a : nzV d) : ∀ (l : List qg),(∀ b∈l,Y8 b)→∀ m : Option Rat,(∀ x,m = some x→smR x)→∀ x,l.foldl (fun m b=>minO m (hitT (axB b p d))) m = some x→smR x
  | [],_,m,hm=>hm
  | b::l,hb,m,hm=>by
    rw [List.foldl_cons]
    exact qju f a l (fun c g=>hb c (by simp [g])) _ (qtp hm (qsi (hb b qe) f a))
noncomputable def q5d (l : List qg) (p d : ql) : Y3 × Int:=if chkF l d≠0 then (({Num:=0,Den:=0} : Y3),chkF l d) else if fitV p d∧inV p 240 then (match firstT l p d with | none=>(({Num:=0,Den:=0} : Y3),6) | some q=>(ofR q,0)) else (({Num:=0,Den:=0} : Y3),2)
theorem qhb (l : List qg) (p d : ql) : q3c l p d = some (q5d l p d):=by
  unfold q3c q5d;rw [qax,qk];by_cases b : chkF l d = 0
  · have hs:=q17 b;have h:=q2b hs.ck;rw [b];simp only [show ((0 : Int) != 0) = false from rfl,Q4,ne_eq,not_true_eq_false,if_false];rw [qoh,qk];by_cases a : fitV p d∧inV p 240
    · rw [Qb a,qr a,q12x q0 hs.bx (q9d hs a.2) hs.nz];obtain ⟨c,f⟩:=qjk hs.bx (q9d hs a.2) hs.nz;rw [← f]
      cases g : Jw l p d with
      | none=>rfl
      | some u=>
        obtain ⟨⟨c1,c2⟩,c3,c4⟩:=c u g;simp only [encF,qk,Bool.not_true,Q4,Option.map_some];rw [qwh c3 q0 q0];rfl
    · rw [Q9 a,qs a];rfl
  · rw [show (chkF l d != 0) = true by simpa using b,Q0,qr b]
theorem qtw (l : List qg) : ∃ b,q9a l = some b∧(b = true→l.length≤420∧(l.length≤400→l.length≤6∧∀ b∈l,inV b.Lo 9∧inV b.Hi 9)):=by
  unfold q9a;by_cases f : (l.length : Int) > 400
  · rw [Qb f,Q0];exact ⟨_,rfl,fun h=>⟨by have:=of_decide_eq_true h;omega,fun g=>q0⟩⟩
  · rw [Q9 f,Q4]
    rcases Ui l (fun b=>!decide (inV b.Lo 9∧inV b.Hi 9)) (fun k _=>false) () (q68 l) (fun k d=>by
      simp only [q68,dlt d,Q0,Qz d,qk,qct _ (show (0 : Int)≤9∧(9 : Int)≤1000 by decide),w64s d (show l.length≤1000000 by omega)]
      by_cases a : inV l[k].Lo 9 <;> by_cases c : inV l[k].Hi 9 <;> simp [a,c]) (by simp only [q68,dnl,Q4]) with ⟨h1,h2⟩ | ⟨k,d,hc,_,h2⟩
    · rw [h2];refine ⟨_,rfl,fun h=>⟨q0,fun _=>⟨by have:=of_decide_eq_true h;omega,fun b hb=>by simpa using h1 b hb⟩⟩⟩
    · rw [h2];exact ⟨_,rfl,fun h=>by cases h⟩
end Go.Sh
namespace Go.Sh
open Go Go.Am
def ltB (b : qg) : Prop:=b.Lo.X < b.Hi.X∧b.Lo.Y < b.Hi.Y∧b.Lo.Z < b.Hi.Z
end Go.Sh
namespace Go.Sh
open Go Go.Am
abbrev V3:=ql × ql × ql
def zeroV : ql:=⟨0,0,0⟩
noncomputable def axT (t : Nat) : V3:=match qs1 (t : Int) with
  | some m=>m
  | none=>(zeroV,zeroV,zeroV)
def qhq (v : ql) : Prop:=-1≤v.X∧v.X≤1∧-1≤v.Y∧v.Y≤1∧-1≤v.Z∧v.Z≤1
instance (v : ql) : Decidable (qhq v):=by unfold qhq;infer_instance
def mulV (m : V3) (v : ql) : ql:=⟨v.X * m.1.X + v.Y * m.2.1.X + v.Z * m.2.2.X,v.X * m.1.Y + v.Y * m.2.1.Y + v.Z * m.2.2.Y,v.X * m.1.Z + v.Y * m.2.1.Z + v.Z * m.2.2.Z⟩
def addV (a b : ql) : ql:=⟨a.X + b.X,a.Y + b.Y,a.Z + b.Z⟩
noncomputable def qko (t : Nat) (at_ v : ql) : ql:=addV (mulV (axT t) v) at_
def InV (v : ql) (lo : Int) : Prop:=lo≤v.X∧v.X≤1000000∧lo≤v.Y∧v.Y≤1000000∧lo≤v.Z∧v.Z≤1000000
instance (v : ql) (lo : Int) : Decidable (InV v lo):=by unfold InV;infer_instance
def FOk (f : qb9) : Prop:=f.Turn < 24∧InV f.At (-1000000)
instance (f : qb9) : Decidable (FOk f):=by unfold FOk;infer_instance
def SOk (s : qhz) : Prop:=FOk s.Frame∧InV s.Size 0
instance (s : qhz) : Decidable (SOk s):=by unfold SOk;infer_instance
end Go.Sh
namespace Go.Sh
open Go Go.Am
def qdx : qg:={Lo:=({X:=0,Y:=0,Z:=0} : ql),Hi:=({X:=0,Y:=0,Z:=0} : ql)}
def Kb (h b : qg) : qg:={Lo:=({X:=min h.Lo.X b.Lo.X,Y:=min h.Lo.Y b.Lo.Y,Z:=min h.Lo.Z b.Lo.Z} : ql),Hi:=({X:=max h.Hi.X b.Hi.X,Y:=max h.Hi.Y b.Hi.Y,Z:=max h.Hi.Z b.Hi.Z} : ql)}
def Kd : List qg→qg
  | []=>qdx
  | b::l=>(b::l).foldl Kb b
noncomputable def hull (l : List qg) : qg × Int:=if K9 l≠0 then (qdx,K9 l) else if l = [] then (qdx,6) else (Kd l,0)
theorem qsm (l : List qg) (_ : l.length≤1000000) (f : Int × Int × Int × Int × Int × Int × Int→Option ((Int × Int × Int × Int × Int × Int × Int) ⊕ (Int × Int × Int × Int × Int × Int)))
    (hs : ∀ k (h : k < l.length) (s : qg),f ((k : Int),s.Lo.X,s.Lo.Y,s.Lo.Z,s.Hi.X,s.Hi.Y,s.Hi.Z) = some (.inl (((k + 1 : Nat) : Int),(Kb s l[k]).Lo.X,(Kb s l[k]).Lo.Y,(Kb s l[k]).Lo.Z,(Kb s l[k]).Hi.X,(Kb s l[k]).Hi.Y,(Kb s l[k]).Hi.Z)))
    (hd : ∀ s : qg,f ((l.length : Int),s.Lo.X,s.Lo.Y,s.Lo.Z,s.Hi.X,s.Hi.Y,s.Hi.Z) = some (.inr (s.Lo.X,s.Lo.Y,s.Lo.Z,s.Hi.X,s.Hi.Y,s.Hi.Z))) (s : qg) (k : Nat) (a : k≤l.length) :
    loop f ((k : Int),((l.take k).foldl Kb s).Lo.X,((l.take k).foldl Kb s).Lo.Y,((l.take k).foldl Kb s).Lo.Z,((l.take k).foldl Kb s).Hi.X,((l.take k).foldl Kb s).Hi.Y,((l.take k).foldl Kb s).Hi.Z) =
      some ((l.foldl Kb s).Lo.X,(l.foldl Kb s).Lo.Y,(l.foldl Kb s).Lo.Z,(l.foldl Kb s).Hi.X,(l.foldl Kb s).Hi.Y,(l.foldl Kb s).Hi.Z):=
  Zi (f:=f) (fun k=>((k : Int),((l.take k).foldl Kb s).Lo.X,((l.take k).foldl Kb s).Lo.Y,((l.take k).foldl Kb s).Lo.Z,((l.take k).foldl Kb s).Hi.X,((l.take k).foldl Kb s).Hi.Y,((l.take k).foldl Kb s).Hi.Z)) l.length _ (fun k a=>by
    rw [hs k a,List.take_succ_eq_append_getElem a,List.foldl_append];rfl) (by rw [List.take_length,hd]) a
theorem q11w (l : List qg) : qaf l = some (hull l):=by
  unfold qaf hull;rw [qh3,qk];by_cases h : ¬ K9 l = 0
  · have : (K9 l != 0) = true:=by simpa using h
    rw [qr h,this,Q0];rfl
  replace h:=Classical.not_not.1 h;have d:=(Zp.1 h).1;rw [qs (by simp [h]),h,show ((0 : Int) != 0) = false from rfl,Q4]
  cases l with
  | nil=>rfl
  | cons b l=>
    have c : ((((b::l).length : Int)) == 0) = false:=by simp;omega
    have key:=qsm (b::l) q0 (q4w (b::l)) (fun k a s=>by
      simp only [q4w,dlt a,Q0,Qz a,qk,w64s a q0];rfl) (fun s=>by simp only [q4w,dnl,Q4]) b 0 (Nat.zero_le _)
    have key : loop (q4w (b::l)) (0,b.Lo.X,b.Lo.Y,b.Lo.Z,b.Hi.X,b.Hi.Y,b.Hi.Z) = _:=key;rw [c,Q4,show idx (b::l) 0 = some b from rfl,qk,key,qs qe];rfl
def rowOk (a b c : Int) : Prop:=(a = 1∧b = 0∧c = 0)∨(a = -1∧b = 0∧c = 0)∨(a = 0∧b = 1∧c = 0)∨(a = 0∧b = -1∧c = 0)∨(a = 0∧b = 0∧c = 1)∨(a = 0∧b = 0∧c = -1)
instance (a b c : Int) : Decidable (rowOk a b c):=by unfold rowOk;infer_instance
def q12a (p q : ql) : qg:={Lo:=({X:=min p.X q.X,Y:=min p.Y q.Y,Z:=min p.Z q.Z} : ql),Hi:=({X:=max p.X q.X,Y:=max p.Y q.Y,Z:=max p.Z q.Z} : ql)}
noncomputable def qma (t : Nat) (at_ : ql) (b : qg) : qg:=q12a (qko t at_ b.Lo) (qko t at_ b.Hi)
noncomputable def place (l : List qg) (f : qb9) : List qg × Int:=
  if K9 l≠0 then ([],K9 l) else if ¬ FOk f then ([],8) else if ∀ b∈l,vB (qma f.Turn.toNat f.At b) then mkB (l.map (qma f.Turn.toNat f.At)) else ([],16)
end Go.Sh
namespace Go.Sh
open Go Go.Am
def wayV (k : Int) : ql:=if k = 0 then ⟨1,0,0⟩ else if k = 1 then ⟨-1,0,0⟩ else if k = 2 then ⟨0,1,0⟩ else if k = 3 then ⟨0,-1,0⟩ else if k = 4 then ⟨0,0,1⟩ else ⟨0,0,-1⟩
def dotV (a b : ql) : Int:=a.X * b.X + a.Y * b.Y + a.Z * b.Z
def q8p (v w : ql) : ql:=⟨2 * v.X + 1 + w.X,2 * v.Y + 1 + w.Y,2 * v.Z + 1 + w.Z⟩
def q16 (l : List qg) (v w d : ql) : Bool:=decide (0 < dotV w d) && !decide (blk l (q8p v w) d)
theorem six {k : Int} (h : 0≤k∧k < 6) : k = 0∨k = 1∨k = 2∨k = 3∨k = 4∨k = 5:=by omega
theorem qoz {k : Int} (h : 0≤k∧k < 6) : idxA 6 [(⟨1,0,0⟩ : ql),⟨-1,0,0⟩,⟨0,1,0⟩,⟨0,-1,0⟩,⟨0,0,1⟩,⟨0,0,-1⟩] k = some (wayV k):=by
  rcases six h with rfl | rfl | rfl | rfl | rfl | rfl <;> rfl
theorem qhh {k : Int} (h : 0≤k∧k < 6) : (-1≤(wayV k).X∧(wayV k).X≤1)∧(-1≤(wayV k).Y∧(wayV k).Y≤1)∧(-1≤(wayV k).Z∧(wayV k).Z≤1):=by
  rcases six h with rfl | rfl | rfl | rfl | rfl | rfl <;> decide
theorem qr7 {w d : ql} (a : (-1≤w.X∧w.X≤1)∧(-1≤w.Y∧w.Y≤1)∧(-1≤w.Z∧w.Z≤1)) (hd : dirV d) : w64 ((w64 ((w64 (w.X * d.X)) + (w64 (w.Y * d.Y)))) + (w64 (w.Z * d.Z))) = dotV w d:=by
  unfold dirV at hd;have b:=mulb a.1 hd.1;have p2:=mulb a.2.1 hd.2.1;have p3:=mulb a.2.2 hd.2.2;unfold dotV;rw [Qa (x:=w.X * d.X) q0,Qa (x:=w.Y * d.Y) q0,Qa (x:=w.Z * d.Z) q0,Qa (x:=w.X * d.X + w.Y * d.Y) q0,Qa q0]
def ptOk (v : ql) : Prop:=(-30≤v.X∧v.X≤30)∧(-30≤v.Y∧v.Y≤30)∧(-30≤v.Z∧v.Z≤30)
theorem qsg {l : List qg} (hb : ∀ b∈l,Y8 b) {v : ql} (h : hasB l v.X v.Y v.Z) : ptOk v:=by
  obtain ⟨b,a,d,c,f⟩:=h;have:=hb b a;unfold Y8 at this;unfold ptOk;omega
theorem qrn {v w d : ql} (a : ptOk v) (b : (-1≤w.X∧w.X≤1)∧(-1≤w.Y∧w.Y≤1)∧(-1≤w.Z∧w.Z≤1)) (hd : dirV d) : Zv (q8p v w) d:=by
  unfold ptOk at a;unfold dirV at hd;unfold Zv q8p;simp only;omega
theorem qoi {l : List qg} {d v : ql} (hs : FitS l d) (b : ptOk v) {k : Int} (f : 0≤k∧k < 6) : q80 l v (wayV k) d = some (q16 l v (wayV k) d):=by
  have a:=qhh f;have g:=q2b hs.ck;generalize wayV k = w at a;unfold q80 q16;rw [qr7 a hs.dr];by_cases c : dotV w d≤0
  · rw [Qb c,Q9 q0];rfl
  · rw [Q9 c,Qb q0];unfold ptOk at b;unfold q13;simp only [Q4,qk];rw [Qa (x:=v.X + v.X) q0,Qa (x:=v.Y + v.Y) q0,Qa (x:=v.Z + v.Z) q0,Qa (x:=1 + w.X) q0,Qa (x:=1 + w.Y) q0,Qa (x:=1 + w.Z) q0,Qa q0,Qa q0,Qa q0];rw [show ({X:=v.X + v.X + (1 + w.X),Y:=v.Y + v.Y + (1 + w.Y),Z:=v.Z + v.Z + (1 + w.Z)} : ql) = q8p v w by unfold q8p;congr 1 <;> omega];rw [qf6 q0 hs.bx (qrn b a hs.dr) hs.nz];rfl
def q1p (l : List qg) (v w : ql) : Prop:=¬ hasB l (v.X + w.X) (v.Y + w.Y) (v.Z + w.Z)
instance q13v (l : List qg) (v w : ql) : Decidable (q1p l v w):=by unfold q1p;infer_instance
theorem qob {v w : ql} (a : ptOk v) (b : (-1≤w.X∧w.X≤1)∧(-1≤w.Y∧w.Y≤1)∧(-1≤w.Z∧w.Z≤1)) : q13 v w = some (addV v w)∧qml v w = some (addV v w):=by
  unfold ptOk at a;unfold q13 qml addV;rw [Qa q0,Qa q0,Qa q0];exact ⟨rfl,rfl⟩
noncomputable def litR (l : List qg) (v : ql) (k : Int) (d : ql) : Bool × Int:=if chkF l d≠0 then (false,chkF l d) else if 5 < k then (false,2) else if hasB l v.X v.Y v.Z∧q1p l v (wayV k) then (q16 l v (wayV k) d,0) else (false,6)
theorem qoc (l : List qg) (v : ql) {k : Int} (f : 0≤k) (d : ql) : q3d l v k d = some (litR l v k d):=by
  unfold q3d litR;rw [qax,qk];by_cases b : chkF l d = 0
  · have hs:=q17 b;have j:=q2b hs.ck;rw [b];simp only [show ((0 : Int) != 0) = false from rfl,Q4,ne_eq,not_true_eq_false,if_false];by_cases a : 5 < k
    · rw [Qb a,qr a];rfl
    · rw [Q9 a,qs a];unfold q84;simp only [Q4,qk];rw [qoz q0,qk,qh4 l v q0,qk];by_cases h : hasB l v.X v.Y v.Z
      · have c:=qsg hs.bx h;rw [Qb h];simp only [Bool.not_true,Q4];rw [(qob c (qhh q0)).1,qk,qh4 l _ q0];simp only [qk];by_cases g : hasB l (addV v (wayV k)).X (addV v (wayV k)).Y (addV v (wayV k)).Z
        · rw [Qb g,qs (fun q=>q.2 g)];rfl
        · rw [Q9 g,qr ⟨h,g⟩,Q4,qoi hs c q0];rfl
      · rw [Q9 h,qs (fun q=>h q.1)];rfl
  · rw [show (chkF l d != 0) = true by simpa using b,Q0,qr b]
def sumI (lo hi : Int) (g : Int→Int) : Int:=sumN (hi - lo).toNat fun k=>g (lo + k)
theorem qbj {σ β : Type} (mk : Int→Int→Int→σ) (fin : Int→Int→β) (F : σ→Option (σ ⊕ β)) (lo hi : Int) (h j : Int→Int)
    (hs : ∀ i,lo≤i→i < hi→∀ d c,F (mk i (w64 d) (w64 c)) = some (.inl (mk (i + 1) (w64 (d + h i)) (w64 (c + j i)))))
    (hd : ∀ i,hi≤i→∀ a b,F (mk i a b) = some (.inr (fin a b))) (d c : Int) :
    loop F (mk lo (w64 d) (w64 c)) = some (fin (w64 (d + sumI lo hi h)) (w64 (c + sumI lo hi j))):=by
  have key:=Zi (f:=F) (fun k=>mk (lo + k) (w64 (d + sumN k fun k=>h (lo + k))) (w64 (c + sumN k fun k=>j (lo + k)))) (hi - lo).toNat (fin (w64 (d + sumI lo hi h)) (w64 (c + sumI lo hi j))) (fun k n=>by
    rw [hs _ q0 q0];have l : ∀ g : Int→Int,(sumN (k + 1) fun k=>g (lo + k)) = (sumN k fun k=>g (lo + k)) + g (lo + k):=fun g=>rfl
    rw [l,l,Int.add_assoc,Int.add_assoc,Int.add_assoc];rfl) (hd _ q0 _ _) (Nat.zero_le _)
  have m : ∀ g : Int→Int,(sumN 0 fun k=>g (lo + k)) = 0:=fun g=>rfl;simp only [m,Int.add_zero,show ((0 : Nat) : Int) = 0 from rfl] at key;exact key
theorem qo9 {α : Type} (g : α→Int) (l : List α) {k : Nat} (a : k < l.length) : sumL g (l.take (k + 1)) = sumL g (l.take k) + g l[k]:=by
  rw [List.take_succ_eq_append_getElem a,qha];congr 1;show g l[k] + 0 = _;omega
theorem qqs {α σ β : Type} (l : List α) (mk : Int→Int→Int→σ) (fin : Int→Int→β) (F : σ→Option (σ ⊕ β)) (h j : α→Int)
    (hs : ∀ k (m : k < l.length),∀ d c,F (mk k (w64 d) (w64 c)) = some (.inl (mk ((k + 1 : Nat) : Int) (w64 (d + h l[k])) (w64 (c + j l[k])))))
    (hd : ∀ a b,F (mk l.length a b) = some (.inr (fin a b))) (d c : Int) :
    loop F (mk 0 (w64 d) (w64 c)) = some (fin (w64 (d + sumL h l)) (w64 (c + sumL j l))):=by
  have key:=Zi (f:=F) (fun k=>mk k (w64 (d + sumL h (l.take k))) (w64 (c + sumL j (l.take k)))) l.length (fin (w64 (d + sumL h l)) (w64 (c + sumL j l))) (fun k m=>by
    rw [hs k m,qo9 h l m,qo9 j l m,Int.add_assoc,Int.add_assoc]) (by rw [List.take_length];exact hd _ _) (Nat.zero_le _)
  have n : ∀ g : α→Int,sumL g (l.take 0) = 0:=fun g=>rfl;simp only [n,Int.add_zero,show ((0 : Nat) : Int) = 0 from rfl] at key;exact key
noncomputable def g1F (l : List qg) (d v : ql) (k : Int) : Int:=ind (q1p l v (wayV k)∧q16 l v (wayV k) d = true)
noncomputable def g2F (l : List qg) (d v : ql) (k : Int) : Int:=ind (q1p l v (wayV k)∧q16 l v (wayV k) d = false)
noncomputable def cntC (g : ql→Int→Int) (b : qg) : Int:=sumI b.Lo.X b.Hi.X fun x=>sumI b.Lo.Y b.Hi.Y fun y=>sumI b.Lo.Z b.Hi.Z fun z=>sumI 0 6 fun k=>g ⟨x,y,z⟩ k
noncomputable def litN (l : List qg) (d : ql) : Int:=sumL (cntC (g1F l d)) l
noncomputable def qbo (l : List qg) (d : ql) : Int:=sumL (cntC (g2F l d)) l
noncomputable def qbm (l : List qg) (d : ql) : Int × Int × Int:=if chkF l d≠0 then (0,0,chkF l d) else (w64 (litN l d),w64 (qbo l d),0)
theorem Sc5 {l : List qg} {d : ql} (hs : FitS l d) (o : l.length≤400) (A B C : Int × Int × Int) (n : ptOk (⟨A.1,B.1,C.1⟩ : ql)) (k m : Int) :
    loop (q26 (⟨1,0,0⟩,⟨-1,0,0⟩,⟨0,1,0⟩,⟨0,-1,0⟩,⟨0,0,1⟩,⟨0,0,-1⟩) A B C l d) (0,w64 k,w64 m) = some (w64 (k + sumI 0 6 (g1F l d (⟨A.1,B.1,C.1⟩ : ql))),w64 (m + sumI 0 6 (g2F l d (⟨A.1,B.1,C.1⟩ : ql)))):=by
  refine qbj (fun i a c=>(i,a,c)) (fun a c=>(a,c)) (q26 (⟨1,0,0⟩,⟨-1,0,0⟩,⟨0,1,0⟩,⟨0,-1,0⟩,⟨0,0,1⟩,⟨0,0,-1⟩) A B C l d) 0 6 (g1F l d (⟨A.1,B.1,C.1⟩ : ql)) (g2F l d (⟨A.1,B.1,C.1⟩ : ql)) (fun i f b h j=>?_) (fun i hi a c=>?_) k m
  · show (q26 (⟨1,0,0⟩,⟨-1,0,0⟩,⟨0,1,0⟩,⟨0,-1,0⟩,⟨0,0,1⟩,⟨0,0,-1⟩) A B C l d) (i,w64 h,w64 j) = some (.inl (i + 1,w64 (h + g1F l d (⟨A.1,B.1,C.1⟩ : ql) i),w64 (j + g2F l d (⟨A.1,B.1,C.1⟩ : ql) i)));unfold q26;simp only [Qb b,Q0];rw [qoz ⟨f,b⟩,qk,(qob n (qhh ⟨f,b⟩)).1,qk,qh4 l _ q0,qk,Qa (x:=i + 1) q0];by_cases g : q1p l (⟨A.1,B.1,C.1⟩ : ql) (wayV i)
    · rw [Q9 (show ¬ hasB l (addV (⟨A.1,B.1,C.1⟩ : ql) (wayV i)).X (addV (⟨A.1,B.1,C.1⟩ : ql) (wayV i)).Y (addV (⟨A.1,B.1,C.1⟩ : ql) (wayV i)).Z from g),Q4,qoi hs n ⟨f,b⟩,qk]
      cases hb : q16 l (⟨A.1,B.1,C.1⟩ : ql) (wayV i) d with
      | true=>
        rw [show g1F l d (⟨A.1,B.1,C.1⟩ : ql) i = 1 from qfq ⟨g,hb⟩,show g2F l d (⟨A.1,B.1,C.1⟩ : ql) i = 0 from q1m (by rw [hb];simp),Int.add_zero,qox h 1,Q0,qk]
      | false=>
        rw [show g1F l d (⟨A.1,B.1,C.1⟩ : ql) i = 0 from q1m (by rw [hb];simp),show g2F l d (⟨A.1,B.1,C.1⟩ : ql) i = 1 from qfq ⟨g,hb⟩,Int.add_zero,qox j 1,Q4,qk]
    · rw [Qb (show hasB l (addV (⟨A.1,B.1,C.1⟩ : ql) (wayV i)).X (addV (⟨A.1,B.1,C.1⟩ : ql) (wayV i)).Y (addV (⟨A.1,B.1,C.1⟩ : ql) (wayV i)).Z from Classical.not_not.1 g),show g1F l d (⟨A.1,B.1,C.1⟩ : ql) i = 0 from q1m fun q=>g q.1,show g2F l d (⟨A.1,B.1,C.1⟩ : ql) i = 0 from q1m fun q=>g q.1,Int.add_zero,Int.add_zero,Q0,qk]
  · show (q26 (⟨1,0,0⟩,⟨-1,0,0⟩,⟨0,1,0⟩,⟨0,-1,0⟩,⟨0,0,1⟩,⟨0,0,-1⟩) A B C l d) (i,a,c) = _;unfold q26;simp only [Q9 (show ¬ i < 6 by omega),Q4]
theorem Sc4 {l : List qg} {d : ql} (hs : FitS l d) (o : l.length≤400) {b : qg} (h : Y8 b) (A B : Int × Int × Int) (s : b.Lo.X≤A.1∧A.1 < b.Hi.X) (r : b.Lo.Y≤B.1∧B.1 < b.Hi.Y) (k m : Int) :
    loop (q25 b A B l d) (b.Lo.Z,w64 k,w64 m) = some (w64 (k + sumI b.Lo.Z b.Hi.Z fun z=>sumI 0 6 (g1F l d ⟨A.1,B.1,z⟩)),w64 (m + sumI b.Lo.Z b.Hi.Z fun z=>sumI 0 6 (g2F l d ⟨A.1,B.1,z⟩))):=by
  refine qbj (fun i a c=>(i,a,c)) (fun a c=>(a,c)) (q25 b A B l d) b.Lo.Z b.Hi.Z (fun z=>sumI 0 6 (g1F l d ⟨A.1,B.1,z⟩)) (fun z=>sumI 0 6 (g2F l d ⟨A.1,B.1,z⟩)) (fun i n j f g=>?_) (fun i hi a c=>?_) k m
  · have p : ptOk ⟨A.1,B.1,((i,w64 f,w64 g) : Int × Int × Int).1⟩:=by unfold Y8 at h;unfold ptOk;simp only;omega
    have q:=Sc5 hs o A B (i,w64 f,w64 g) p f g;show (q25 b A B l d) (i,w64 f,w64 g) = some (.inl (i + 1,w64 (f + sumI 0 6 (g1F l d ⟨A.1,B.1,i⟩)),w64 (g + sumI 0 6 (g2F l d ⟨A.1,B.1,i⟩))));unfold q25 q84;simp only [Qb j,Q0,qk];rw [q];simp only [qk];rw [Qa (x:=i + 1) (by unfold Y8 at h;omega)]
  · show (q25 b A B l d) (i,a,c) = _;unfold q25;simp only [Q9 (show ¬ i < b.Hi.Z by omega),Q4]
theorem Sc3 {l : List qg} {d : ql} (hs : FitS l d) (o : l.length≤400) {b : qg} (f : Y8 b) (A : Int × Int × Int) (p : b.Lo.X≤A.1∧A.1 < b.Hi.X) (m n : Int) :
    loop (q24 b A l d) (b.Lo.Y,w64 m,w64 n) = some (w64 (m + sumI b.Lo.Y b.Hi.Y fun y=>sumI b.Lo.Z b.Hi.Z fun z=>sumI 0 6 (g1F l d ⟨A.1,y,z⟩)),w64 (n + sumI b.Lo.Y b.Hi.Y fun y=>sumI b.Lo.Z b.Hi.Z fun z=>sumI 0 6 (g2F l d ⟨A.1,y,z⟩))):=by
  refine qbj (fun i a c=>(i,a,c)) (fun a c=>(a,c)) (q24 b A l d) b.Lo.Y b.Hi.Y (fun y=>sumI b.Lo.Z b.Hi.Z fun z=>sumI 0 6 (g1F l d ⟨A.1,y,z⟩)) (fun y=>sumI b.Lo.Z b.Hi.Z fun z=>sumI 0 6 (g2F l d ⟨A.1,y,z⟩)) (fun i k g h j=>?_) (fun i hi a c=>?_) m n
  · have q:=Sc4 hs o f A (i,w64 h,w64 j) p ⟨k,g⟩ h j;show (q24 b A l d) (i,w64 h,w64 j) = some (.inl (i + 1,w64 (h + sumI b.Lo.Z b.Hi.Z fun z=>sumI 0 6 (g1F l d ⟨A.1,i,z⟩)),w64 (j + sumI b.Lo.Z b.Hi.Z fun z=>sumI 0 6 (g2F l d ⟨A.1,i,z⟩))));unfold q24;simp only [Qb g,Q0,qk];rw [q];simp only [qk];rw [Qa (x:=i + 1) (by unfold Y8 at f;omega)]
  · show (q24 b A l d) (i,a,c) = _;unfold q24;simp only [Q9 (show ¬ i < b.Hi.Y by omega),Q4]
theorem Sc2 {l : List qg} {d : ql} (hs : FitS l d) (o : l.length≤400) {b : qg} (f : Y8 b) (m n : Int) :
    loop (q23 b l d) (b.Lo.X,w64 m,w64 n) = some (w64 (m + cntC (g1F l d) b),w64 (n + cntC (g2F l d) b)):=by
  refine qbj (fun i a c=>(i,a,c)) (fun a c=>(a,c)) (q23 b l d) b.Lo.X b.Hi.X (fun x=>sumI b.Lo.Y b.Hi.Y fun y=>sumI b.Lo.Z b.Hi.Z fun z=>sumI 0 6 (g1F l d ⟨x,y,z⟩)) (fun x=>sumI b.Lo.Y b.Hi.Y fun y=>sumI b.Lo.Z b.Hi.Z fun z=>sumI 0 6 (g2F l d ⟨x,y,z⟩)) (fun i k g h j=>?_) (fun i hi a c=>?_) m n
  · have p:=Sc3 hs o f (i,w64 h,w64 j) ⟨k,g⟩ h j;show (q23 b l d) (i,w64 h,w64 j) = some (.inl (i + 1,w64 (h + sumI b.Lo.Y b.Hi.Y fun y=>sumI b.Lo.Z b.Hi.Z fun z=>sumI 0 6 (g1F l d ⟨i,y,z⟩)),w64 (j + sumI b.Lo.Y b.Hi.Y fun y=>sumI b.Lo.Z b.Hi.Z fun z=>sumI 0 6 (g2F l d ⟨i,y,z⟩))));unfold q23;simp only [Qb g,Q0,qk];rw [p];simp only [qk];rw [Qa (x:=i + 1) (by unfold Y8 at f;omega)]
  · show (q23 b l d) (i,a,c) = _;unfold q23;simp only [Q9 (show ¬ i < b.Hi.X by omega),Q4]
theorem Sc1 {l : List qg} {d : ql} (hs : FitS l d) (m : l.length≤400) : loop (q22 l d) (0,0,0) = some (w64 (litN l d),w64 (qbo l d)):=by
  have h:=qqs l (fun i a c=>(i,a,c)) (fun a b=>(a,b)) (q22 l d) (cntC (g1F l d)) (cntC (g2F l d)) (fun k f j g=>by
    have n:=Sc2 hs m (hs.bx _ (Yf f)) j g;show (q22 l d) ((k : Int),w64 j,w64 g) = some (.inl (((k + 1 : Nat) : Int),w64 (j + cntC (g1F l d) l[k]),w64 (g + cntC (g2F l d) l[k])));unfold q22;simp only [dlt f,Q0,Qz f,qk,w64s f (show l.length≤1000000 by omega)]
    rw [n];rfl) (fun a b=>by
    show (q22 l d) ((l.length : Int),a,b) = _
    unfold q22;simp only [dnl,Q4]) 0 0
  rw [Int.zero_add,Int.zero_add] at h;exact h
theorem q12y (l : List qg) (d : ql) : q7v l d = some (qbm l d):=by
  unfold q7v qbm;rw [qax,qk];by_cases a : chkF l d = 0
  · have hs:=q17 a;rw [a];simp only [show ((0 : Int) != 0) = false from rfl,Q4,ne_eq,not_true_eq_false,if_false,qk];rw [Sc1 hs (q2b hs.ck)];rfl
  · rw [show (chkF l d != 0) = true by simpa using a,Q0,qr a]
end Go.Sh
namespace Go.Sh
open Go Go.Am
end Go.Sh
namespace Go.Sh
open Go Go.Am
def grpR : List qi→List (Grp qj)
  | []=>[]
  | r::l=>match grpR l with
    | g::gs=>if g.lo = r.X0∧g.hi = r.X1 then ⟨g.lo,g.hi,ysp r::g.sec⟩::gs else ⟨r.X0,r.X1,[ysp r]⟩::g::gs
    | []=>[⟨r.X0,r.X1,[ysp r]⟩]
def grpB : List qg→List (Grp qi)
  | []=>[]
  | r::l=>match grpB l with
    | g::gs=>if g.lo = r.Lo.Z∧g.hi = r.Hi.Z then ⟨g.lo,g.hi,Zw r::g.sec⟩::gs else ⟨r.Lo.Z,r.Hi.Z,[Zw r]⟩::g::gs
    | []=>[⟨r.Lo.Z,r.Hi.Z,[Zw r]⟩]
theorem qke : ∀ l : List qi,Kz putR (grpR l) = l
  | []=>rfl
  | r::l=>by
    have a:=qke l
    unfold grpR
    split
    · rename_i g d h
      rw [h] at a
      split
      · rename_i b
        obtain ⟨b,c⟩:=b
        rw [← a]
        simp only [Kz,List.flatMap_cons,List.map_cons,List.cons_append,b,c]
        congr 1
      · rw [← a];rfl
    · rename_i h
      rw [h] at a
      rw [← a];rfl
theorem qkd : ∀ l : List qg,Kz putB (grpB l) = l
  | []=>rfl
  | r::l=>by
    have a:=qkd l
    unfold grpB
    split
    · rename_i g d h
      rw [h] at a
      split
      · rename_i b
        obtain ⟨b,c⟩:=b
        rw [← a]
        simp only [Kz,List.flatMap_cons,List.map_cons,List.cons_append,b,c]
        congr 1
      · rw [← a];rfl
    · rename_i h
      rw [h] at a
      rw [← a];rfl
instance {σ : Type} [DecidableEq σ] (gs : List (Grp σ)) : Decidable (CanG gs):=by unfold CanG;infer_instance
instance (s : List qj) : Decidable (Can s):=by unfold Can;infer_instance
def isR (l : List qi) : Prop:=CanG (grpR l)∧∀ g∈grpR l,Can g.sec
instance (l : List qi) : Decidable (isR l):=by unfold isR;infer_instance
def isB (l : List qg) : Prop:=CanG (grpB l)∧∀ g∈grpB l,isR g.sec
instance (l : List qg) : Decidable (isB l):=by unfold isB;infer_instance
theorem isR.can {l : List qi} (h : isR l) : CanR l:=⟨grpR l,(qke l).symm,h.1,h.2⟩
theorem isB.can {l : List qg} (h : isB l) : CanB l:=⟨grpB l,(qkd l).symm,h.1,fun g a=>(h.2 g a).can⟩
theorem qig {l : List qg} (h : l.length≤400∧(∀ b∈l,vB b)∧isB l) : K9 l = 0:=Zp.2 ⟨h.1,h.2.1,h.2.2.can⟩
theorem qts {kind : Int} {p q out : List qg} (h : p.length + q.length≤100000) (a : CanB out) (b : ∀ x y z,Kw kind (hasB p x y z) (hasB q x y z)↔hasB out x y z) : mrgB kind p q = out:=
  qi9 (q8x kind h) a fun x y z=>by rw [qbz kind h];exact b x y z
theorem qql {kind : Int} {p q : List qg} (hp : K9 p = 0) (hq : K9 q = 0) (b : (mrgB kind p q).length≤400) : K9 (mrgB kind p q) = 0:=by
  obtain ⟨g,d,h⟩:=Zp.1 hp;obtain ⟨j,c,f⟩:=Zp.1 hq;have a:=q8x kind (p:=p) (q:=q) q0;exact Zp.2 ⟨b,a.vB (InB.mrg q0 (qot d) (qot c)),a⟩
theorem qsx {kind : Int} {p q out : List qg} (hp : K9 p = 0) (hq : K9 q = 0) (a : CanB out) (c : out.length≤400) (b : ∀ x y z,Kw kind (hasB p x y z) (hasB q x y z)↔hasB out x y z) : jB kind p q = (out,0):=by
  have d:=(Zp.1 hp).1;have f:=(Zp.1 hq).1;have e:=qts (kind:=kind) (p:=p) (q:=q) q0 a b;unfold jB;rw [qs (by simp [hp]),qs (by simp [hq]),e,qs q0]
def bx (x y z u v w : Int) : qg:={Lo:=({X:=x,Y:=y,Z:=z} : ql),Hi:=({X:=u,Y:=v,Z:=w} : ql)}
instance (kind : Int) (a b : Prop) [Decidable a] [Decidable b] : Decidable (Kw kind a b):=by unfold Kw;infer_instance
end Go.Sh
namespace Go.Sh
open Go Go.Am
end Go.Sh
namespace Go.Sh
open Go Go.Am
def q9h (P : Int→Bool) (l : List qj) (y : Int) : List qj:=if P y = true then (match l.getLast? with | some s=>if s.Hi = y then l.dropLast ++ [{Lo:=s.Lo,Hi:=y + 1}] else l ++ [{Lo:=y,Hi:=y + 1}] | none=>l ++ [{Lo:=y,Hi:=y + 1}]) else l
def Zy (P : Int→Bool) (lo : Int) : Nat→List qj
  | 0=>[]
  | k + 1=>q9h P (Zy P lo k) (lo + k)
structure qb6 (P : Int→Bool) (lo y : Int) (l : List qj) : Prop where
  can : Can l
  bd : ∀ t∈l,lo≤t.Lo∧t.Hi≤y
  pts : ∀ v,has l v↔lo≤v∧v < y∧P v = true
  len : (l.length : Int)≤y - lo
theorem qib {l : List qj} {t : qj} (h : Can l) (f : t.Lo < t.Hi) (hb : ∀ s∈l,s.Hi < t.Lo) : Can (l ++ [t]):=by
  refine ⟨fun s hs=>?_,List.pairwise_append.2 ⟨h.2,qe,fun a d b c=>?_⟩⟩
  · rcases List.mem_append.1 hs with hs | hs
    · exact h.1 s hs
    · simp only [List.mem_singleton] at hs;rw [hs];exact f
  · simp only [List.mem_singleton] at c;rw [c];exact hb a d
theorem qc1 {a b : List qj} {v : Int} : has (a ++ b) v↔has a v∨has b v:=by
  unfold has;constructor
  · rintro ⟨t,c,h⟩;rcases List.mem_append.1 c with c | c
    · exact .inl ⟨t,c,h⟩
    · exact .inr ⟨t,c,h⟩
  · rintro (⟨t,c,h⟩ | ⟨t,c,h⟩)
    · exact ⟨t,List.mem_append.2 (.inl c),h⟩
    · exact ⟨t,List.mem_append.2 (.inr c),h⟩
theorem qfd {t : qj} {v : Int} : has [t] v↔t.Lo≤v∧v < t.Hi:=by unfold has;simp
theorem qxk {P : Int→Bool} {lo y : Int} {l : List qj} (r : lo≤y) (h : qb6 P lo y l) : qb6 P lo (y + 1) (q9h P l y):=by
  unfold q9h;by_cases hp : P y = true
  · rw [qr hp]
    have new : (∀ t∈l,t.Hi≠y)→qb6 P lo (y + 1) (l ++ [{Lo:=y,Hi:=y + 1}]):=by
      intro o;refine ⟨qib h.can (by show y < y + 1;omega) fun s hs=>?_,fun t d=>?_,fun v=>?_,by have:=h.len;simp;omega⟩
      · have:=(h.bd s hs).2;have:=o s hs;show s.Hi < y;omega
      · rcases List.mem_append.1 d with d | d
        · have:=h.bd t d;omega
        · simp only [List.mem_singleton] at d;rw [d];exact ⟨r,Int.le_refl _⟩
      · rw [qc1,qfd,h.pts v];simp only;constructor
        · rintro (⟨a,b,c⟩ | ⟨a,b⟩)
          · exact ⟨a,q0,c⟩
          · obtain rfl : v = y:=by omega
            exact ⟨r,q0,hp⟩
        · rintro ⟨a,b,c⟩;by_cases j : v < y
          · exact .inl ⟨a,j,c⟩
          · exact .inr ⟨q0,q0⟩
    rcases List.eq_nil_or_concat l with rfl | ⟨L,s,rfl⟩
    · exact new qe
    rw [List.concat_eq_append] at h new ⊢;have k : (L ++ [s]).getLast? = some s:=by simp
    have f:=h.can;have m : ∀ t∈L,t.Hi < s.Lo:=fun t d=>(List.pairwise_append.1 f.2).2.2 t d s qe;have hs:=f.1 s qe;rw [k];simp only;by_cases q : s.Hi = y
    · rw [qr q,show (L ++ [s]).dropLast = L by simp];have p:=h.bd s qe;refine ⟨qib ⟨fun t d=>f.1 t (by simp [d]),(List.pairwise_append.1 f.2).1⟩ (by show s.Lo < y + 1;omega) m,fun t d=>?_,fun v=>?_,by have:=h.len;simp at this ⊢;omega⟩
      · rcases List.mem_append.1 d with d | d
        · have:=h.bd t (by simp [d]);omega
        · simp only [List.mem_singleton] at d;rw [d];exact ⟨p.1,Int.le_refl _⟩
      · have j:=h.pts v;rw [qc1,qfd] at j;rw [qc1,qfd];simp only;constructor
        · rintro (g | ⟨a,b⟩)
          · have:=j.1 (.inl g);exact ⟨this.1,q0,this.2.2⟩
          · by_cases n : v < y
            · have:=j.1 (.inr ⟨a,q0⟩);exact ⟨this.1,q0,this.2.2⟩
            · obtain rfl : v = y:=by omega
              exact ⟨q0,q0,hp⟩
        · rintro ⟨a,b,c⟩;by_cases n : v < y
          · rcases j.2 ⟨a,n,c⟩ with g | ⟨u,x⟩
            · exact .inl g
            · exact .inr ⟨u,q0⟩
          · exact .inr ⟨q0,q0⟩
    · rw [qs q];refine new fun t d=>?_;rcases List.mem_append.1 d with d | d
      · have:=m t d;have:=h.bd s qe;omega
      · simp only [List.mem_singleton] at d;rw [d];exact q
  · rw [qs hp];refine ⟨h.can,fun t d=>by have:=h.bd t d;omega,fun v=>?_,by have:=h.len;omega⟩;rw [h.pts v];constructor
    · rintro ⟨a,b,c⟩;exact ⟨a,q0,c⟩
    · rintro ⟨a,b,c⟩;refine ⟨a,?_,c⟩;by_cases j : v = y
      · subst j;exact absurd c hp
      · omega
theorem qgq (P : Int→Bool) (lo : Int) : ∀ k : Nat,qb6 P lo (lo + k) (Zy P lo k)
  | 0=>⟨qia,by simp [Zy],fun v=>by
      constructor
      · rintro ⟨t,c,_⟩;cases c
      · rintro ⟨a,b,_⟩;omega,by simp [Zy]⟩
  | k + 1=>by
    have:=qxk (y:=lo + k) q0 (qgq P lo k)
    rw [show lo + ((k + 1 : Nat) : Int) = lo + k + 1 by omega]
    exact this
def sqP (x y z : Int) : ql:=⟨2 * x + 1,2 * y + 1,2 * z⟩
def shB (l : List qg) (z : Int) (d : ql) (x y : Int) : Bool:=decide (blk l (sqP x y z) d)
theorem qs3 {l : List qg} {d : ql} {z x y : Int} (hs : FitS l d) (f : -30≤z∧z≤30) (a : -510≤x∧x≤510) (c : -510≤y∧y≤510) :
    q3i ({p_:=({X:=w64 ((w64 (2 * x)) + 1),Y:=w64 ((w64 (2 * y)) + 1),Z:=w64 (2 * z)} : ql),d_:=d} : Yd) l = some (!shB l z d x y):=by
  rw [Qa (x:=2 * x) q0,Qa (x:=2 * y) q0,Qa (x:=2 * z) q0,Qa (x:=2 * x + 1) q0,Qa (x:=2 * y + 1) q0];have b:=q2b hs.ck;have hd:=hs.dr;exact qf6 (p:=sqP x y z) q0 hs.bx (by unfold dirV at hd;unfold Zv sqP;simp only;omega) hs.nz
theorem qxh {l : List qg} {d : ql} {z x y : Int} (hs : FitS l d) (n : -30≤z∧z≤30) (h : -510≤x∧x≤510) (o : -510≤y∧y≤509) {A : Int × Int × List qi × List qj} (k : A.2.1 = x) {b : Int × Int} (g : y < b.2) {m : List qj} (f : m.length≤10000) (hb : ∀ t∈m,-510≤t.Hi∧t.Hi≤510) :
    q3g b A z d l (y,m) = some (.inl (y + 1,q9h (shB l z d x) m y)):=by
  unfold q3g;rw [Qb g,k,qs3 hs n h q0];simp only [Q0,qk];rw [Qa (x:=y + 1) q0];unfold q9h
  cases hp : shB l z d x y with
  | false=>rfl
  | true=>
    simp only [Bool.not_true,Q4,if_true];rcases List.eq_nil_or_concat m with rfl | ⟨L,s,rfl⟩
    · rw [Q9 qe];simp only [Q4,qk];rw [Y7 qe];rfl
    · rw [List.concat_eq_append] at f hb ⊢;have a : (L ++ [s]).length = L.length + 1:=by simp
      have hi : idx (L ++ [s]) (L.length : Int) = some s:=by rw [qsn];simp
      rw [Qb (by rw [a];omega),Qa (x:=((L ++ [s]).length : Int) - 1) q0,show ((L ++ [s]).length : Int) - 1 = (L.length : Int) by rw [a];omega];simp only [Q0,hi,qk,show (L ++ [s]).getLast? = some s by simp];have j:=hb s qe;by_cases c : s.Hi = y
      · rw [show (s.Hi == y) = true by simpa using c,Q0,qr c,Qa q0,c];simp only [qk];congr 4;rw [Int.toNat_natCast,List.set_append_right _ _ (Nat.le_refl _)];simp
      · rw [show (s.Hi == y) = false by simpa using c,Q4,qs c,Y7 (by simp at f ⊢;omega)];rfl
theorem qxg {l : List qg} {d : ql} {z x : Int} (hs : FitS l d) (o : -30≤z∧z≤30) (j : -510≤x∧x≤510) {A : Int × Int × List qi × List qj} (n : A.2.1 = x) {a b : Int} (m : -510≤a) (h : b≤510) :
    loop (q3g (a,b) A z d l) (a,[]) = some (Zy (shB l z d x) a (b - a).toNat):=by
  have key:=Zi (f:=q3g (a,b) A z d l) (fun k=>(a + k,Zy (shB l z d x) a k)) (b - a).toNat (Zy (shB l z d x) a (b - a).toNat) (fun k q=>by
    have hi:=qgq (shB l z d x) a k;have g:=hi.len
    rw [qxh hs o j q0 n (by show a + k < b;omega) q0 (fun t c=>by
      have r:=hi.bd t c;have p:=hi.can.1 t c
      omega)]
    rw [show a + ((k + 1 : Nat) : Int) = a + k + 1 by omega];rfl) (by
    unfold q3g
    rw [Q9 (by show ¬ a + ((b - a).toNat : Int) < b;omega)];rfl) (Nat.zero_le _)
  rw [show a + ((0 : Nat) : Int) = a by omega] at key;exact key
def encM (x : Int) (s : Mg qj qi) : Int × Int × List qi × List qj:=((s.done.length : Int),x,s.flat putR,s.sec)
theorem qyv {l : List qg} {d : ql} {z x : Int} (hs : FitS l d) (hz : -30≤z∧z≤30) (hx : -510≤x∧x≤509) {j p x0 x1 : Int} (ac : -510≤j) (u : p≤510) (aa : x < x1) (s : Mg qj qi) (hl : (s.flat putR).length + (Zy (shB l z d x) j (p - j).toNat).length≤1000000) (h1 : s.sec≠[]→s.hi = x) :
    q3f (x0,x1) (j,p) z d l (encM x s) = some (.inl (encM (x + 1) (addM putR s x (x + 1) (Zy (shB l z d x) j (p - j).toNat)))):=by
  unfold q3f;have t : (encM x s).2.1 = x:=rfl;have e2 : (encM x s).2.2.1 = s.flat putR:=rfl;have e3 : (encM x s).2.2.2 = s.sec:=rfl;have e0 : (encM x s).1 = (s.done.length : Int):=rfl;rw [qxg hs hz q0 t ac u,t,e2,e3,e0,Qb aa];simp only [Q0,qk];generalize Zy (shB l z d x) j (p - j).toNat = c at hl;have an : (s.flat putR).length = s.done.length + s.sec.length:=by simp [Mg.flat]
  rw [Q9 (by omega : ¬ x < x),Qa (x:=x + 1) q0,qew s.sec c q0];by_cases b : c≠[]∧c = s.sec
  · obtain ⟨m,g⟩:=b;have ab:=h1 (by rw [← g];exact m)
    have r : ((c.length : Int) == 0) = false:=by
      have : c.length≠0:=fun h=>m (List.length_eq_zero_iff.1 h);simp;omega
    rw [r,Qb g.symm];simp only [Q4,qk,Bool.not_true]
    have a:=q5b (fun v : qi=>({X0:=v.X0,Y0:=v.Y0,X1:=x + 1,Y1:=v.Y1} : qi)) s.done (s.sec.map (putR s.lo s.hi)) (by simp;omega) (q10 (encM x s)) (fun k o f ho=>by
      have h5 : (s.done ++ s.sec.map (putR s.lo s.hi)).length = (s.flat putR).length:=rfl;unfold q10
      simp only [t,dlt f,Q0,Qz f,qk,w64s f (show o.length≤1000000 by omega),Int.toNat_natCast,Qa (show -9223372036854775808≤x + 1∧x + 1≤9223372036854775807 by omega)]) (fun o=>by unfold q10;simp only [dnl,Q4])
    have a : loop (q10 (encM x s)) ((s.done.length : Int),s.flat putR) = _:=a;rw [a];simp only [qk];rcases U4 putR s x (x + 1) c with ⟨_,_,_,n⟩ | ⟨h3,n⟩
    · rw [n];simp only [encM,Mg.flat,List.map_map];rw [g];rfl
    · exact absurd ⟨m,g,ab⟩ h3
  · have q:=q5n c (putR x x) (s.flat putR) (fun o=>(((s.flat putR).length : Int),o)) (q7x c (encM x s)) (fun k f o ho=>by
      unfold q7x;simp only [t,dlt f,Q0,Qz f,qk,w64s f (show c.length≤1000000 by omega)];rw [Y7 (by simp;omega)]
      rfl) (fun o=>by unfold q7x;simp only [dnl,Q4,e2])
    have a:=q5b (fun v : qi=>({X0:=v.X0,Y0:=v.Y0,X1:=x + 1,Y1:=v.Y1} : qi)) (s.flat putR) (c.map (putR x x)) (by simp;omega) (q10 (encM x s)) (fun k o f ho=>by
      have h5 : (s.flat putR ++ c.map (putR x x)).length = (s.flat putR).length + c.length:=by simp
      unfold q10
      simp only [t,dlt f,Q0,Qz f,qk,w64s f (show o.length≤1000000 by omega),Int.toNat_natCast,Qa (show -9223372036854775808≤x + 1∧x + 1≤9223372036854775807 by omega)]) (fun o=>by unfold q10;simp only [dnl,Q4])
    have n : addM putR s x (x + 1) c = ⟨s.flat putR,c,x,x + 1⟩:=by
      rcases U4 putR s x (x + 1) c with ⟨g1,g2,_,_⟩ | ⟨_,n⟩
      · exact absurd ⟨g1,g2⟩ b
      · exact n
    rw [n];by_cases y : c = []
    · rw [show ((c.length : Int) == 0) = true by rw [y];rfl];simp only [Q0,qk,q,a];simp only [encM,Mg.flat,List.map_map];rfl
    · have ag : c.length≠0:=fun h=>y (List.length_eq_zero_iff.1 h);rw [show ((c.length : Int) == 0) = false by simp;omega,Q9 fun h=>b ⟨y,h.symm⟩];simp only [Q4,Q0,qk,Bool.not_false,q,a];simp only [encM,Mg.flat,List.map_map];rfl
def rngL (x0 : Int) : Nat→List Int
  | 0=>[x0]
  | n + 1=>x0::rngL (x0 + 1) n
theorem qnc {l : List qg} {d : ql} {z : Int} (hs : FitS l d) (k : -30≤z∧z≤30) {a b x0 x1 : Int} (f : -510≤a) (c : b≤510) (h : x1≤510) : ∀ (n : Nat) (x : Int) (s : Mg qj qi),-510≤x→(x1 - x).toNat = n→(s.flat putR).length + n * 1020≤1000000→(x < x1→n≤900)→(s.sec≠[]→s.hi = x)→
    loop (q3f (x0,x1) (a,b) z d l) (encM x s) = some ((runM putR (fun x=>Zy (shB l z d x) a (b - a).toNat) s (rngL x n)).flat putR)
  | 0,x,s,h0,hn,_,_,_=>by
    have hd : q3f (x0,x1) (a,b) z d l (encM x s) = some (.inr (s.flat putR)):=by
      unfold q3f;rw [Q9 (by show ¬ x < x1;omega)];rfl
    rw [Ke hd];rfl
  | n + 1,x,s,h0,hn,hl,hm,h1=>by
    have hi:=qgq (shB l z d x) a (b - a).toNat;have j:=hi.len;have o:=qe5 putR s x (x + 1) (Zy (shB l z d x) a (b - a).toNat);have g:=qyv (x0:=x0) (x1:=x1) hs k q0 f c (by omega : x < x1) s q0 h1;rw [Kq g];have m:=qnc (x0:=x0) hs k f c h n (x + 1) (addM putR s x (x + 1) (Zy (shB l z d x) a (b - a).toNat)) q0 q0 q0 (by have:=hm q0;omega) (fun _=>qe4 putR s x (x + 1) _);rw [m]
    cases n with
    | zero=>rfl
    | succ n=>rfl
end Go.Sh
namespace Go.Sh
open Go Go.Am
def shX (lo hi by_ H up : Int) : Int × Int:=(max (min lo (lo - Int.tdiv (H * by_) up) - 2) (-510),min (max hi (hi - Int.tdiv (H * by_) up) + 2) 510)
theorem qkm : ∀ (l : List qg) (s : qg),((l.foldl Kb s).Lo.X≤s.Lo.X∧s.Hi.X≤(l.foldl Kb s).Hi.X∧(l.foldl Kb s).Lo.Y≤s.Lo.Y∧s.Hi.Y≤(l.foldl Kb s).Hi.Y∧s.Hi.Z≤(l.foldl Kb s).Hi.Z)∧(∀ b∈l,(l.foldl Kb s).Lo.X≤b.Lo.X∧b.Hi.X≤(l.foldl Kb s).Hi.X∧(l.foldl Kb s).Lo.Y≤b.Lo.Y∧b.Hi.Y≤(l.foldl Kb s).Hi.Y∧b.Hi.Z≤(l.foldl Kb s).Hi.Z)∧(Y8 s→(∀ b∈l,Y8 b)→Y8 (l.foldl Kb s))
  | [],s=>⟨qe,qe,fun h _=>h⟩
  | b::l,s=>by
    obtain ⟨j,d,f⟩:=qkm l (Kb s b)
    have g : (Kb s b).Lo.X = min s.Lo.X b.Lo.X∧(Kb s b).Hi.X = max s.Hi.X b.Hi.X∧(Kb s b).Lo.Y = min s.Lo.Y b.Lo.Y∧(Kb s b).Hi.Y = max s.Hi.Y b.Hi.Y∧(Kb s b).Hi.Z = max s.Hi.Z b.Hi.Z:=⟨rfl,rfl,rfl,rfl,rfl⟩
    rw [List.foldl_cons]
    refine ⟨q0,fun c a=>?_,fun hs hb=>f ?_ fun c a=>hb c (by simp [a])⟩
    · rcases List.mem_cons.1 a with rfl | a
      · omega
      · exact d c a
    · have:=hb b qe
      unfold Y8 at *
      unfold Kb
      simp only
      omega
theorem qsk {l : List qg} (a : l≠[]) (hb : ∀ b∈l,Y8 b) : Y8 (Kd l)∧∀ b∈l,(Kd l).Lo.X≤b.Lo.X∧b.Hi.X≤(Kd l).Hi.X∧(Kd l).Lo.Y≤b.Lo.Y∧b.Hi.Y≤(Kd l).Hi.Y∧b.Hi.Z≤(Kd l).Hi.Z:=by
  cases l with
  | nil=>exact absurd rfl a
  | cons b l=>
    obtain ⟨_,d,c⟩:=qkm (b::l) b;exact ⟨c (hb b qe) hb,d⟩
def qgx (P : Int→Int→Bool) (x0 : Int) (n : Nat) (y0 : Int) (m : Nat) : List qi:=(runM putR (fun x=>Zy (P x) y0 m) Qv (rngL x0 n)).flat putR
noncomputable def shL (l : List qg) (z : Int) (d : ql) : List qi:=if l = []∨(Kd l).Hi.Z≤z then [] else
  qgx (shB l z d) (shX (Kd l).Lo.X (Kd l).Hi.X d.X ((Kd l).Hi.Z - z) d.Z).1 ((shX (Kd l).Lo.X (Kd l).Hi.X d.X ((Kd l).Hi.Z - z) d.Z).2 - (shX (Kd l).Lo.X (Kd l).Hi.X d.X ((Kd l).Hi.Z - z) d.Z).1).toNat
    (shX (Kd l).Lo.Y (Kd l).Hi.Y d.Y ((Kd l).Hi.Z - z) d.Z).1 ((shX (Kd l).Lo.Y (Kd l).Hi.Y d.Y ((Kd l).Hi.Z - z) d.Z).2 - (shX (Kd l).Lo.Y (Kd l).Hi.Y d.Y ((Kd l).Hi.Z - z) d.Z).1).toNat
noncomputable def qd2 (l : List qg) (z : Int) (d : ql) : List qi × Int:=if chkF l d≠0 then ([],chkF l d) else if z < -30∨30 < z∨d.Z≤0 then ([],2) else if 400 < (shL l z d).length then ([],4) else (shL l z d,0)
theorem qna {lo hi by_ z : Int} {h : qg} {d : ql} (c : -30≤lo∧lo≤30) (a : -30≤hi∧hi≤30) (hb : -8≤by_∧by_≤8) (g : -30≤z∧z≤30) (b : -30≤h.Hi.Z∧h.Hi.Z≤30) (hd : 0 < d.Z∧d.Z≤8) : q7w lo hi by_ h z d = some (shX lo hi by_ (h.Hi.Z - z) d.Z):=by
  have p:=mulb (x:=h.Hi.Z - z) (A:=60) (y:=by_) (B:=8) q0 hb
  have q : -480≤Int.tdiv ((h.Hi.Z - z) * by_) d.Z∧Int.tdiv ((h.Hi.Z - z) * by_) d.Z≤480:=by
    have:=Int.natAbs_tdiv ((h.Hi.Z - z) * by_) d.Z;have f : ((h.Hi.Z - z) * by_).natAbs.div d.Z.natAbs≤((h.Hi.Z - z) * by_).natAbs:=Nat.div_le_self _ _;omega
  unfold q7w shX;rw [Qa (x:=h.Hi.Z - z) q0,Qa (x:=(h.Hi.Z - z) * by_) q0];unfold qch;rw [qs q0,qk];rw [Qa (x:=Int.tdiv ((h.Hi.Z - z) * by_) d.Z) q0];generalize Int.tdiv ((h.Hi.Z - z) * by_) d.Z = w at q;rw [Qa (x:=lo - w) q0,Qa (x:=hi - w) q0,Qa (x:=min lo (lo - w) - 2) q0,Qa (x:=max hi (hi - w) + 2) q0]
theorem qnb {lo hi by_ H up : Int} (c : -30≤lo∧lo≤30) (b : -30≤hi∧hi≤30) (hb : -8≤by_∧by_≤8) (a : -60≤H∧H≤60) : -510≤(shX lo hi by_ H up).1∧(shX lo hi by_ H up).2≤510∧(shX lo hi by_ H up).2 - (shX lo hi by_ H up).1≤544:=by
  have p:=mulb a hb
  have q : -480≤Int.tdiv (H * by_) up∧Int.tdiv (H * by_) up≤480:=by
    have:=Int.natAbs_tdiv (H * by_) up;have d : (H * by_).natAbs.div up.natAbs≤(H * by_).natAbs:=Nat.div_le_self _ _;omega
  unfold shX;generalize Int.tdiv (H * by_) up = w at q;simp only;omega
theorem qsl (l : List qg) (h : K9 l = 0) : (l = []∧hull l = (qdx,6))∨(l≠[]∧hull l = (Kd l,0)):=by
  unfold hull;rw [qs (by simpa using h)];by_cases a : l = []
  · exact .inl ⟨a,qr a⟩
  · exact .inr ⟨a,qs a⟩
theorem qof (l : List qg) (z : Int) (d : ql) : q3e l z d = some (qd2 l z d):=by
  unfold q3e qd2;rw [qax,qk];by_cases k : chkF l d = 0
  · have hs:=q17 k;rw [k];simp only [show ((0 : Int) != 0) = false from rfl,Q4,ne_eq,not_true_eq_false,if_false];by_cases s : z < -30∨30 < z∨d.Z≤0
    · have : (((cond (decide (z < (-30))) (some true) (some (decide (z > 30)))).bind fun c3=>(cond c3 (some true) (some (decide (d.Z≤0)))).bind fun u=>some u) : Option Bool) = some true:=by
        by_cases a : z < -30
        · rw [Qb a];rfl
        · rw [Q9 a];by_cases b : z > 30
          · rw [Qb b];rfl
          · rw [Q9 b,Qb q0];rfl
      rw [qr s];by_cases a : z < -30
      · rw [Qb a];rfl
      · rw [Q9 a];by_cases b : z > 30
        · rw [Qb b];rfl
        · rw [Q9 b,Qb q0];rfl
    · rw [qs s,Q9 q0,Q9 q0,Q9 q0,q11w];simp only [Q4,qk];have f : -30≤z∧z≤30:=by omega
      have c:=hs.dr;unfold dirV at c;rcases qsl l hs.ck with ⟨g,e⟩ | ⟨g,e⟩
      · have : shL l z d = []:=by unfold shL;rw [qr (.inl g)]
        rw [e,this];rfl
      · rw [e];simp only [show ((0 : Int) != 0) = false from rfl,Q4,qk];by_cases j : (Kd l).Hi.Z≤z
        · have : shL l z d = []:=by unfold shL;rw [qr (.inr j)]
          rw [Qb j,this];rfl
        · rw [Q9 j,Q4];have p:=(qsk g hs.bx).1;unfold Y8 at p;rw [qna q0 q0 c.1 f q0 q0,qk,qna q0 q0 c.2.1 f q0 q0,qk];have x : shL l z d = _:=qs (show ¬ (l = []∨(Kd l).Hi.Z≤z) by rintro (h | h);exact g h;exact j h);have o:=qnb (lo:=(Kd l).Lo.X) (hi:=(Kd l).Hi.X) (by_:=d.X) (H:=(Kd l).Hi.Z - z) (up:=d.Z) q0 q0 c.1 q0;have m:=qnb (lo:=(Kd l).Lo.Y) (hi:=(Kd l).Hi.Y) (by_:=d.Y) (H:=(Kd l).Hi.Z - z) (up:=d.Z) q0 q0 c.2.1 q0;rw [x];generalize shX (Kd l).Lo.X (Kd l).Hi.X d.X ((Kd l).Hi.Z - z) d.Z = RX at o;generalize shX (Kd l).Lo.Y (Kd l).Hi.Y d.Y ((Kd l).Hi.Z - z) d.Z = RY at m;obtain ⟨x0,x1⟩:=RX;obtain ⟨n,r⟩:=RY;simp only at o m ⊢;have v : (0,x0,([] : List qi),([] : List qj)) = encM x0 (Qv : Mg qj qi):=rfl;have q : ((Qv : Mg qj qi).flat putR).length = 0:=rfl;rw [show ((0 : Int),x0,([] : List qi),([] : List qj)) = encM x0 (Qv : Mg qj qi) from rfl,qnc (x0:=x0) (x1:=x1) hs f m.1 m.2.1 o.2.1 (x1 - x0).toNat x0 Qv o.1 rfl (by rw [q];omega) q0 (fun h=>absurd rfl h)];simp only [qk];show cond (decide (((qgx (shB l z d) x0 (x1 - x0).toNat n (r - n).toNat).length : Int) > 400)) _ _ = _;by_cases t : 400 < (qgx (shB l z d) x0 (x1 - x0).toNat n (r - n).toNat).length
          · rw [Qb q0,qr t];rfl
          · rw [Q9 q0,qs t];rfl
  · rw [show (chkF l d != 0) = true by simpa using k,Q0,qr k]
end Go.Sh
namespace Go.Sh
open Go Go.Am
end Go.Sh
namespace Go.Sh
open Go Go.Am
end Go.Sh
namespace Go.Sh
open Go Go.Am
def hq (b : qg) (z : Int) (d : ql) (x y : Int) : Bool:=(hitC (axB b (sqP x y z) d)).isSome
def fl (x y : Int) (m : List qi) : Prop:=∃ r,m.getLast? = some r∧r.X0 = x∧r.Y1 = y
end Go.Sh
namespace Go.Sh
open Go Go.Am
instance (n m : Int) : Decidable (LowT n m):=by unfold LowT;infer_instance
theorem qep {l : List qg} {d : ql} (h : K9 l = 0) (hb : ∀ b∈l,inV b.Lo 30∧inV b.Hi 30) (hd : inV d 8∧nzV d) : chkF l d = 0:=by
  unfold chkF;rw [qs (by simpa using h),qr hb,qr hd]
theorem qf7 {l : List qg} {p d : ql} (h : chkF l d = 0) (a : fitV p d∧inV p 240) : qbx l p d = (!decide (blk l p d),0):=by
  unfold qbx;rw [qs (by simpa using h),qr a]
theorem qrp {l : List qg} {p d : ql} (h : chkF l d = 0) (a : fitV p d∧inV p 240) {u : Int × Int} (f : Jw l p d = some u) (c : LowT u.1 u.2) : q5d l p d = (({Num:=u.1,Den:=u.2} : Y3),0):=by
  have hs:=q17 h;have b:=(qjk hs.bx (q9d hs a.2) hs.nz).2;unfold q5d;rw [qs (by simpa using h),qr a,← b,f];show (ofR (valC u),(0 : Int)) = _;rw [show ofR (valC u) = ({Num:=u.1,Den:=u.2} : Y3) from qg8 c]
theorem qkr (p : Prop) [Decidable p] : ind p = if p then 1 else 0:=by
  by_cases h : p
  · rw [qr h,qfq h]
  · rw [qs h,q1m h]
def g1D (l : List qg) (d v : ql) (k : Int) : Int:=if q1p l v (wayV k)∧q16 l v (wayV k) d = true then 1 else 0
def g2D (l : List qg) (d v : ql) (k : Int) : Int:=if q1p l v (wayV k)∧q16 l v (wayV k) d = false then 1 else 0
def cntD (g : ql→Int→Int) (b : qg) : Int:=sumI b.Lo.X b.Hi.X fun x=>sumI b.Lo.Y b.Hi.Y fun y=>sumI b.Lo.Z b.Hi.Z fun z=>sumI 0 6 fun k=>g ⟨x,y,z⟩ k
theorem qta (l : List qg) (d : ql) : litN l d = sumL (cntD (g1D l d)) l:=by
  have : g1F l d = g1D l d:=by funext v k;exact qkr _
  unfold litN;rw [this];rfl
theorem qr4 (l : List qg) (d : ql) : qbo l d = sumL (cntD (g2D l d)) l:=by
  have : g2F l d = g2D l d:=by funext v k;exact qkr _
  unfold qbo;rw [this];rfl
theorem qr1 {l : List qg} {d : ql} (h : chkF l d = 0) {a b : Int} (c : sumL (cntD (g1D l d)) l = a) (f : sumL (cntD (g2D l d)) l = b) : qbm l d = (w64 a,w64 b,0):=by
  unfold qbm;rw [qs (by simpa using h),qta,qr4,c,f]
theorem ql5 {l : List qg} {v d : ql} {k : Int} (h : chkF l d = 0) (a : ¬ 5 < k) (b : hasB l v.X v.Y v.Z∧q1p l v (wayV k)) : litR l v k d = (q16 l v (wayV k) d,0):=by
  unfold litR;rw [qs (by simpa using h),qs a,qr b]
theorem qnd {l : List qg} {z : Int} {d : ql} (h : chkF l d = 0) (b : ¬ (z < -30∨30 < z∨d.Z≤0)) {R : List qi} (a : shL l z d = R) (c : R.length≤400) : qd2 l z d = (R,0):=by
  unfold qd2;rw [qs (by simpa using h),qs b,a,qs q0]
def one1 : List qg:=[bx 0 0 0 1 1 1]
theorem qup : K9 one1 = 0:=qig qw
theorem qgd {d : ql} (hd : inV d 8∧nzV d) : chkF one1 d = 0:=qep qup qw hd
theorem qyt : shL one1 0 ⟨0,0,1⟩ = [⟨0,0,1,1⟩]:=by
  unfold shL;rw [qs qw];decide +kernel
theorem qyu : shL [bx 0 0 1 1 1 2] 0 ⟨1,0,1⟩ = [⟨-2,0,0,1⟩]:=by
  unfold shL;rw [qs qw];decide +kernel
theorem qp9 : q8s = some true:=by
  have c1 : chkF one1 ⟨1,0,0⟩ = 0:=qgd qw;have c2 : chkF one1 ⟨1,0,1⟩ = 0:=qgd qw;have c3 : chkF one1 ⟨0,0,1⟩ = 0:=qgd qw;have c4 : chkF [bx 0 0 1 1 1 2] ⟨1,0,1⟩ = 0:=qep (qig qw) qw qw;have d : q3c one1 ⟨-3,1,1⟩ ⟨1,0,0⟩ = some (⟨3,2⟩,0):=by rw [qhb,qrp (u:=(3,2)) c1 qw qw qw]
  have j : q7v one1 ⟨1,0,1⟩ = some (2,4,0):=by
    rw [q12y,qr1 (a:=2) (b:=4) c2 (by decide +kernel) (by decide +kernel)];rfl
  have f : q3d one1 ⟨0,0,0⟩ 0 ⟨1,0,1⟩ = some (true,0):=by
    rw [qoc _ _ qw,ql5 c2 qw qw];decide +kernel
  have h : q3d one1 ⟨0,0,0⟩ 4 ⟨1,0,1⟩ = some (true,0):=by
    rw [qoc _ _ qw,ql5 c2 qw qw];decide +kernel
  have c : q3e one1 0 ⟨0,0,1⟩ = some ([⟨0,0,1,1⟩],0):=by rw [qof,qnd c3 qw qyt qw]
  have g : q3e [bx 0 0 1 1 1 2] 0 ⟨1,0,1⟩ = some ([⟨-2,0,0,1⟩],0):=by rw [qof,qnd c4 qw qyu qw]
  unfold q8s;simp only [show q5l 0 0 0 1 1 1 = some (bx 0 0 0 1 1 1) from rfl,show q5l 0 0 1 1 1 2 = some (bx 0 0 1 1 1 2) from rfl,Uv,q8t,qk,show [bx 0 0 0 1 1 1] = one1 from rfl,d,j,f,h,c,g,beq_self_eq_true,Q0,Bool.and_self,qcz _ _ (show [(⟨0,0,1,1⟩ : qi)].length≤1000000 by simp),qcz _ _ (show [(⟨-2,0,0,1⟩ : qi)].length≤1000000 by simp),decide_true]
theorem bnd {α β : Type} {x : Option α} {a : α} {f : α→Option β} {r : Option β} (h : x = some a) (k : f a = r) : x.bind f = r:=by rw [h];exact k
end Go.Sh
namespace Go.Sh
open Go Go.Am
theorem qjp (l : List qg) (d : ql) : ∃ b,q5m l d = some b∧(b = true→l.length≤6∧(∀ b∈l,inV b.Lo 9∧inV b.Hi 9)∧chkF l d = 0):=by
  unfold q5m;obtain ⟨b,f,g⟩:=qtw l;rw [f,qwc];by_cases a : (l.length : Int)≤6
  · rw [Qb a]
    cases b with
    | false=>exact ⟨false,rfl,fun h=>by cases h⟩
    | true=>
      simp only [Q0,qk];refine ⟨_,rfl,fun h=>?_⟩;have c:=(g rfl).2 q0;exact ⟨c.1,c.2,by simpa using h⟩
  · rw [Q9 a];exact ⟨false,rfl,fun h=>by cases h⟩
instance q13t (l : List qg) (p d : ql) (q : Rat) : Decidable (∃ b∈l,q2o (axB b p d) q):=inferInstance
end Go.Sh
namespace Go.Sh
open Go Go.Am
theorem q12w {α : Type} (c : Int) (f : α→Int) (l : List α) : sumL (fun a=>f a * c) l = sumL f l * c:=by
  rw [Int.mul_comm,← qo8];exact qau fun a _=>Int.mul_comm _ _
end Go.Sh
namespace Go.Sh
open Go Go.Am
theorem qfp : ∀ {l m : List Int},l.Pairwise (· < ·)→(∀ x∈l,x∈m)→l.length≤m.length
  | [],_,_,_=>by simp
  | a::l,m,hs,hm=>by
    obtain ⟨g,f⟩:=List.pairwise_cons.1 hs
    have b:=hm a qe
    have d:=qfp (l:=l) (m:=m.erase a) f fun x c=>by
      have:=g x c
      exact (List.mem_erase_of_ne q0).2 (hm x (by simp [c]))
    rw [List.length_erase_of_mem b] at d
    have : 0 < m.length:=List.length_pos_of_mem b
    simp only [List.length_cons];omega
theorem qpu {s t : List qj} (c : Can s) (h : ∀ v,has s v↔has t v) : s.length≤t.length:=by
  have z : (s.map (·.Lo)).Pairwise (· < ·):=by
    rw [List.pairwise_map];refine c.2.imp_of_mem fun {a b} q hb o=>?_;have:=c.1 a q;omega
  have n : ∀ x∈s.map (·.Lo),x∈t.map (·.Lo):=by
    intro x p;obtain ⟨u,d,rfl⟩:=List.mem_map.1 p;have f:=c.1 u d;obtain ⟨r,k,g1,g2⟩:=(h u.Lo).1 ⟨u,d,Int.le_refl _,f⟩;by_cases y : r.Lo = u.Lo
    · exact List.mem_map.2 ⟨r,k,y⟩
    · exfalso;obtain ⟨w,m,k1,k2⟩:=(h (u.Lo - 1)).2 ⟨r,k,q0,q0⟩;obtain ⟨i,hi,rfl⟩:=List.getElem_of_mem d;obtain ⟨j,l,rfl⟩:=List.getElem_of_mem m;rcases Nat.lt_trichotomy i j with g | g | g
      · have:=List.pairwise_iff_getElem.1 c.2 i j hi l g;omega
      · subst g;omega
      · have:=List.pairwise_iff_getElem.1 c.2 j i l hi g;omega
  have:=qfp z n;simpa using this
theorem qaw {α β : Type} (f : α→β→Int) (m : List β) : ∀ l : List α,sumL (fun a=>sumL (fun b=>f a b) m) l = sumL (fun b=>sumL (fun a=>f a b) l) m
  | []=>(qoa m).symm
  | a::l=>by
    show sumL (fun b=>f a b) m + sumL (fun a=>sumL (fun b=>f a b) m) l = sumL (fun b=>f a b + sumL (fun a=>f a b) l) m
    rw [qaw f m l,qdm]
theorem q52 {α : Type} {f g : α→Int} : ∀ {l : List α},(∀ a∈l,f a≤g a)→sumL f l≤sumL g l
  | [],_=>Int.le_refl _
  | a::l,h=>by
    have d:=h a qe
    have c:=q52 (l:=l) fun b hb=>h b (by simp [hb])
    show f a + sumL f l≤g a + sumL g l
    omega
theorem qav {α : Type} (c : Int) : ∀ l : List α,sumL (fun _=>c) l = l.length * c
  | []=>by simp [sumL]
  | a::l=>by
    show c + sumL (fun _=>c) l = _
    rw [qav c l,List.length_cons,show ((l.length + 1 : Nat) : Int) = (l.length : Int) + 1 by omega,Int.add_mul];omega
theorem qdn {α : Type} (P : α→Bool) : ∀ l : List α,sumL (fun a=>if P a = true then (1 : Int) else 0) l = (l.filter P).length
  | []=>rfl
  | a::l=>by
    show (if P a = true then (1 : Int) else 0) + sumL _ l = _
    rw [qdn P l]
    cases h : P a <;> simp [h];omega
theorem qiw (x : Int) : ∀ l : List qi,((covS l x).length : Int) = sumL (fun r=>if covR x r = true then (1 : Int) else 0) l
  | []=>rfl
  | r::l=>by
    have e : covS (r::l) x = (if covR x r = true then [ysp r] else []) ++ covS l x:=rfl
    show _ = (if covR x r = true then (1 : Int) else 0) + sumL _ l
    rw [e,List.length_append,← qiw x l]
    cases covR x r <;> simp
theorem qbc (z : Int) : ∀ l : List qg,((atB l z).length : Int) = sumL (fun r=>if covB z r = true then (1 : Int) else 0) l
  | []=>rfl
  | r::l=>by
    have e : atB (r::l) z = (if covB z r = true then [Zw r] else []) ++ atB l z:=rfl
    show _ = (if covB z r = true then (1 : Int) else 0) + sumL _ l
    rw [e,List.length_append,← qbc z l]
    cases covB z r <;> simp
theorem qjt {σ β : Type} [DecidableEq σ] (put : Int→Int→σ→β) : ∀ (steps : List (Int × Int × List σ)) (s0 : Mg σ β),(((Qy put s0 steps).flat put).length : Int)≤((s0.flat put).length : Int) + sumL (fun t=>(t.2.2.length : Int)) steps
  | [],s0=>by simp [Qy,sumL]
  | t::r,s0=>by
    have a:=qjt put r (addM put s0 t.1 t.2.1 t.2.2)
    have h:=qe5 put s0 t.1 t.2.1 t.2.2
    show (((Qy put (addM put s0 t.1 t.2.1 t.2.2) r).flat put).length : Int)≤_ + ((t.2.2.length : Int) + sumL _ r)
    omega
theorem qo5 {σ : Type} (sec : Int→List σ) : ∀ d : List Int,sumL (fun t : Int × Int × List σ=>(t.2.2.length : Int)) (Y6 d sec)≤sumL (fun c=>((sec c).length : Int)) d
  | []=>Int.le_refl _
  | [a]=>by show (0 : Int)≤((sec a).length : Int) + 0;omega
  | a::b::r=>by
    have f:=qo5 sec (b::r)
    have e : Y6 (a::b::r) sec = (a,b,sec a)::Y6 (b::r) sec:=rfl
    rw [e]
    show ((sec a).length : Int) + sumL _ _≤((sec a).length : Int) + sumL _ _
    omega
theorem qlj {σ β : Type} [DecidableEq σ] (put : Int→Int→σ→β) (sec : Int→List σ) (a : List Int) : (((Qy put Qv (Y6 a sec)).flat put).length : Int)≤sumL (fun c=>((sec c).length : Int)) a:=by
  have d:=qjt put (Y6 a sec) (Qv : Mg σ β);have b:=qo5 sec a;have f : ((Qv : Mg σ β).flat put).length = 0:=rfl;omega
theorem qkf {σ : Type} {c : List (Grp σ)} (a : CanG c) {g d : Grp σ} (k : g∈c) (f : d∈c) {x : Int} (p : x = d.lo∨x = d.hi) (o : g.lo≤x) (n : x < g.hi) : x = g.lo:=by
  obtain ⟨i,hi,rfl⟩:=List.getElem_of_mem k;obtain ⟨j,b,rfl⟩:=List.getElem_of_mem f;have l:=(a.1 _ (Yf hi)).1;have m:=(a.1 _ (Yf b)).1;rcases Nat.lt_trichotomy i j with h | h | h
  · have:=(List.pairwise_iff_getElem.1 a.2 i j hi b h).1;omega
  · subst h;omega
  · have:=(List.pairwise_iff_getElem.1 a.2 j i b hi h).1;omega
theorem qpt {P : List qi} (m : CanR P) {r a : qi} (f : r∈P) (b : a∈P) {x : Int} (k : x = a.X0∨x = a.X1) (l : r.X0≤x) (d : x < r.X1) : x = r.X0:=by
  obtain ⟨o,rfl,j,_⟩:=m;obtain ⟨g,h,t,_,rfl⟩:=q5q.1 f;obtain ⟨p,c,n,_,rfl⟩:=q5q.1 b;exact qkf j h c k l d
theorem qeg {P : List qg} (m : CanB P) {r a : qg} (f : r∈P) (b : a∈P) {x : Int} (k : x = a.Lo.Z∨x = a.Hi.Z) (l : r.Lo.Z≤x) (d : x < r.Hi.Z) : x = r.Lo.Z:=by
  obtain ⟨o,rfl,j,_⟩:=m;obtain ⟨g,h,t,_,rfl⟩:=q5q.1 f;obtain ⟨p,c,n,_,rfl⟩:=q5q.1 b;exact qkf j h c k l d
theorem qf1 {a L : List Int} {P : Int→Bool} (hs : a.Pairwise (· < ·)) (h : ∀ x∈a,P x = true→x∈L) : (a.filter P).length≤L.length:=
  qfp (hs.filter _) fun x d=>by
    obtain ⟨c,b⟩:=List.mem_filter.1 d
    exact h x c b
theorem qj0 {P Q : List qi} {a : List Int} (k : CanR P) (hs : a.Pairwise (· < ·)) (j : ∀ x∈a,x∈xsOf P∨x∈xsOf Q) : sumL (fun x=>((covS P x).length : Int)) a≤P.length * (1 + 2 * Q.length):=by
  rw [qau fun x _=>qiw x P,qaw]
  have d : sumL (fun r : qi=>sumL (fun x=>if covR x r = true then (1 : Int) else 0) a) P≤sumL (fun _=>(1 + 2 * (Q.length : Int))) P:=q52 fun r f=>by
    rw [qdn fun x=>covR x r];have hq:=Jl Q
    have:=qf1 (P:=fun x=>covR x r) (L:=r.X0::xsOf Q) hs fun x g hp=>by
      have hp:=q3p.1 hp;rcases j x g with h | h
      · obtain ⟨l,c,b⟩:=List.mem_flatMap.1 h;simp only [List.mem_cons,List.not_mem_nil,or_false] at b;rw [qpt k f c b hp.1 hp.2];simp
      · exact List.mem_cons_of_mem _ h
    simp only [List.length_cons] at this;omega
  rw [qav] at d;exact d
theorem qys {P Q : List qi} (h : P.length + Q.length≤100000) (x : Int) : (secJ 2 P Q x).length≤(covS P x).length + (covS Q x).length:=by
  have a:=qgw 2 h x
  have:=qpu (t:=covS P x ++ covS Q x) a.can fun v=>by
    rw [a.pts v,q8q,qc1]
  simpa using this
theorem qtv {P Q : List qi} (j : CanR P) (g : CanR Q) (h : P.length + Q.length≤490) : ((mrgR 2 P Q).length : Int)≤P.length + Q.length + 4 * (P.length * Q.length):=by
  obtain ⟨_,a,_⟩:=q8i h;have n : ((mrgR 2 P Q).length : Int)≤sumL (fun c=>((secJ 2 P Q c).length : Int)) (Qs (xsOf P ++ xsOf Q)):=qlj putR (secJ 2 P Q) (Qs (xsOf P ++ xsOf Q))
  have f : sumL (fun c=>((secJ 2 P Q c).length : Int)) (Qs (xsOf P ++ xsOf Q))≤sumL (fun c=>((covS P c).length : Int) + ((covS Q c).length : Int)) (Qs (xsOf P ++ xsOf Q)):=q52 fun c _=>by
    have:=qys (P:=P) (Q:=Q) q0 c;omega
  rw [qdm] at f;have d : ∀ x∈Qs (xsOf P ++ xsOf Q),x∈xsOf P∨x∈xsOf Q:=fun x b=>List.mem_append.1 ((a.2 x).1 b);have k:=qj0 (Q:=Q) j a.1 d;have m:=qj0 (Q:=P) g a.1 (fun x b=>(d x b).symm);have l : (P.length : Int) * (1 + 2 * Q.length) = P.length + 2 * (P.length * Q.length):=by grind
  have o : (Q.length : Int) * (1 + 2 * P.length) = Q.length + 2 * (P.length * Q.length):=by grind
  omega
theorem qi5 {p q : List qg} {a : List Int} (k : CanB p) (hs : a.Pairwise (· < ·)) (j : ∀ x∈a,x∈zsOf p∨x∈zsOf q) : sumL (fun z=>((atB p z).length : Int)) a≤p.length * (1 + 2 * q.length):=by
  rw [qau fun x _=>qbc x p,qaw]
  have d : sumL (fun r : qg=>sumL (fun x=>if covB x r = true then (1 : Int) else 0) a) p≤sumL (fun _=>(1 + 2 * (q.length : Int))) p:=q52 fun r f=>by
    rw [qdn fun x=>covB x r];have hq:=Z9 q
    have:=qf1 (P:=fun x=>covB x r) (L:=r.Lo.Z::zsOf q) hs fun x g hp=>by
      have hp:=U6.1 hp;rcases j x g with h | h
      · obtain ⟨l,c,b⟩:=List.mem_flatMap.1 h;simp only [List.mem_cons,List.not_mem_nil,or_false] at b;rw [qeg k f c b hp.1 hp.2];simp
      · exact List.mem_cons_of_mem _ h
    simp only [List.length_cons] at this;omega
  rw [qav] at d;exact d
theorem qpj {p q : List qg} {c : List Int} (hp : CanB p) (hq : CanB q) (hs : c.Pairwise (· < ·)) (r : ∀ x∈c,x∈zsOf p∨x∈zsOf q) : sumL (fun z=>((atB p z).length : Int) * ((atB q z).length : Int)) c≤p.length * q.length:=by
  have e : ∀ z,((atB p z).length : Int) * ((atB q z).length : Int) = sumL (fun a=>sumL (fun b=>if (covB z a && covB z b) = true then (1 : Int) else 0) q) p:=fun z=>by
    rw [qbc z p,← q12w];refine qau fun a _=>?_;rw [qbc z q]
    cases covB z a with
    | true=>simp
    | false=>simp [qoa]
  rw [qau fun z _=>e z,qaw]
  have k : sumL (fun a : qg=>sumL (fun z=>sumL (fun b=>if (covB z a && covB z b) = true then (1 : Int) else 0) q) c) p≤sumL (fun _=>(q.length : Int)) p:=q52 fun a s=>by
    rw [qaw]
    have n : sumL (fun b : qg=>sumL (fun z=>if (covB z a && covB z b) = true then (1 : Int) else 0) c) q≤sumL (fun _=>(1 : Int)) q:=q52 fun b hb=>by
      rw [qdn fun z=>covB z a && covB z b]
      have:=qf1 (P:=fun z=>covB z a && covB z b) (L:=[max a.Lo.Z b.Lo.Z]) hs fun x o g=>by
        simp only [Bool.and_eq_true] at g;have l:=U6.1 g.1;have j:=U6.1 g.2;rcases r x o with h | h
        · obtain ⟨m,f,d⟩:=List.mem_flatMap.1 h;simp only [List.mem_cons,List.not_mem_nil,or_false] at d;have:=qeg hp s f d l.1 l.2;simp only [List.mem_singleton];omega
        · obtain ⟨m,f,d⟩:=List.mem_flatMap.1 h;simp only [List.mem_cons,List.not_mem_nil,or_false] at d;have:=qeg hq hb f d j.1 j.2;simp only [List.mem_singleton];omega
      simp only [List.length_cons,List.length_nil] at this;omega
    rw [qav] at n;omega
  rw [qav] at k;exact k
theorem qtt {p q : List qg} (hp : CanB p) (hq : CanB q) (o : p.length≤6) (j : q.length≤6) : (mrgB 2 p q).length≤300:=by
  have g:=Z9 p;have h:=Z9 q;obtain ⟨_,a,_⟩:=J6 (l:=zsOf p ++ zsOf q) (by simp;omega);have n : ((mrgB 2 p q).length : Int)≤sumL (fun c=>((secB 2 p q c).length : Int)) (Qs (zsOf p ++ zsOf q)):=qlj putB (secB 2 p q) (Qs (zsOf p ++ zsOf q))
  have f : sumL (fun c=>((secB 2 p q c).length : Int)) (Qs (zsOf p ++ zsOf q))≤sumL (fun c=>(((atB p c).length : Int) + ((atB q c).length : Int)) + 4 * (((atB p c).length : Int) * ((atB q c).length : Int))) (Qs (zsOf p ++ zsOf q)):=q52 fun c _=>by
    have u:=J3 p c;have v:=J3 q c;exact qtv (hp.at c) (hq.at c) q0
  rw [qdm,qdm,qo8] at f;have d : ∀ x∈Qs (zsOf p ++ zsOf q),x∈zsOf p∨x∈zsOf q:=fun x b=>List.mem_append.1 ((a.2 x).1 b);have t:=qi5 (q:=q) hp a.1 d;have m:=qi5 (q:=p) hq a.1 (fun x b=>(d x b).symm);have r:=qpj hp hq a.1 d
  have b1 : (p.length : Int) * (1 + 2 * q.length)≤78:=by
    have:=mulb (x:=(p.length : Int)) (A:=6) (y:=1 + 2 * (q.length : Int)) (B:=13) q0 q0;omega
  have s : (q.length : Int) * (1 + 2 * p.length)≤78:=by
    have:=mulb (x:=(q.length : Int)) (A:=6) (y:=1 + 2 * (p.length : Int)) (B:=13) q0 q0;omega
  have k : (p.length : Int) * q.length≤36:=by
    have:=mulb (x:=(p.length : Int)) (A:=6) (y:=(q.length : Int)) (B:=6) q0 q0;omega
  omega
end Go.Sh
namespace Go.Sh
open Go Go.Am
theorem qq0 {l : List qg} {n : Int} (a : ∀ b∈l,ltB b) (h : ∀ x y z,hasB l x y z→(-n≤x∧x < n)∧(-n≤y∧y < n)∧(-n≤z∧z < n)) : ∀ b∈l,inV b.Lo n∧inV b.Hi n:=fun b hb=>by
  have c:=a b hb
  unfold ltB at c
  have f:=h b.Lo.X b.Lo.Y b.Lo.Z ⟨b,hb,q0,q0,q0⟩
  have d:=h (b.Hi.X - 1) (b.Hi.Y - 1) (b.Hi.Z - 1) ⟨b,hb,q0,q0,q0⟩
  unfold inV;omega
theorem qkq {l : List qg} {n : Int} (h : ∀ b∈l,inV b.Lo n∧inV b.Hi n) {x y z : Int} (a : hasB l x y z) : (-n≤x∧x < n)∧(-n≤y∧y < n)∧(-n≤z∧z < n):=by
  obtain ⟨b,hb,g⟩:=a;have:=h b hb;unfold inV at this;omega
theorem qjl {l : List qg} {p d : ql} (b : chkF l d = 0) (a : fitV p d∧inV p 240) : q5d l p d = (match firstT l p d with | none=>(({Num:=0,Den:=0} : Y3),6) | some q=>(ofR q,0)):=by
  unfold q5d;rw [qs (by simpa using b),qr a];all_goals rfl
theorem qjm {l : List qg} {p d : ql} (hs : FitS l d) (a : Zv p d) : ∀ q,firstT l p d = some q→smR q:=qju a hs.nz l hs.bx none qe
theorem q141 (l m : List qg) (p d : ql) : qc6 l m p d = some true:=by
  unfold qc6;obtain ⟨b1,ai,aj⟩:=qjp l d;obtain ⟨b2,ag,af⟩:=qjp m d;refine bnd qp9 ?_;refine bnd ai ?_
  cases b1 with
  | false=>rfl
  | true=>
    rw [ag]
    cases b2 with
    | false=>rfl
    | true=>
      rw [qwe];by_cases j : fitV p d∧inV p 240
      · rw [Qb j];obtain ⟨l6,l9,u⟩:=aj rfl;obtain ⟨m6,m9,mc⟩:=af rfl;have f:=q17 u;have ms:=q17 mc;have s:=(Zp.1 f.ck).2.2;have q:=(Zp.1 ms.ck).2.2;have ay:=qtt s q l6 m6;have c : ∀ x y z,hasB (mrgB 2 l m) x y z↔hasB l x y z∨hasB m x y z:=fun x y z=>by rw [qbz 2 q0,q8q]
        have hu : jB 2 l m = (mrgB 2 l m,0):=qsx f.ck ms.ck (q8x 2 q0) q0 fun x y z=>by rw [q8q,c]
        have r : K9 (mrgB 2 l m) = 0:=qql f.ck ms.ck q0
        have ae:=qq0 (n:=9) (fun b hb=>((Zp.1 r).2.1 b hb).1) fun x y z h=>by
          rcases (c x y z).1 h with h | h
          · exact qkq l9 h
          · exact qkq m9 h
        have ah : inV d 8:=by have:=f.dr;unfold dirV at this;unfold inV;omega
        have ac : chkF (mrgB 2 l m) d = 0:=qep r (fun b hb=>by have:=ae b hb;unfold inV at *;omega) ⟨ah,f.nz⟩;have as:=q17 ac
        have k : firstT (mrgB 2 l m) p d = minO (firstT l p d) (firstT m p d):=Yp.unique (qs5 j.1 f.dr) (qf2 f.nz) (((qf2 (l:=l) f.nz).or (qf2 (l:=m) f.nz)).congr fun t _ _=>by
          unfold rayS;constructor
          · rintro (⟨x,y,z,h,g⟩ | ⟨x,y,z,h,g⟩)
            · exact ⟨x,y,z,(c x y z).2 (.inl h),g⟩
            · exact ⟨x,y,z,(c x y z).2 (.inr h),g⟩
          · rintro ⟨x,y,z,h,g⟩;rcases (c x y z).1 h with h | h
            · exact .inl ⟨x,y,z,h,g⟩
            · exact .inr ⟨x,y,z,h,g⟩)
        have hr:=q9d f j.2;have sl:=qjm f hr;have sa:=qjm as hr
        have ba : decide (blk (mrgB 2 l m) p d) = (decide (blk l p d) || decide (blk m p d)):=by
          have e : ∀ l,decide (blk l p d) = (firstT l p d).isSome:=fun l=>by
            cases o : (firstT l p d).isSome with
            | true=>exact Qb (qbg.2 o)
            | false=>exact Q9 fun h=>by rw [qbg,o] at h;cases h
          rw [e,e,e,k];cases firstT l p d <;> cases firstT m p d <;> rfl
        refine bnd (a:=false) rfl ?_;refine bnd (a:=false) rfl ?_;refine bnd (a:=false) rfl ?_;rw [Q4];refine bnd ((q11y _ _).trans (congrArg some hu)) ?_;refine bnd ((qhd _ _ _).trans (congrArg some (qf7 u j))) ?_;refine bnd ((qhd _ _ _).trans (congrArg some (qf7 mc j))) ?_;refine bnd ((qhd _ _ _).trans (congrArg some (qf7 ac j))) ?_;refine bnd (a:=false) rfl ?_;refine bnd (a:=false) rfl ?_;refine bnd (a:=false) rfl ?_
        refine bnd (a:=false) (by
          rw [Q4];simp only [ba]
          cases decide (blk l p d) <;> cases decide (blk m p d) <;> rfl) ?_
        rw [Q4];refine bnd ((qhb _ _ _).trans (congrArg some (qjl u j))) ?_;refine bnd ((qhb _ _ _).trans (congrArg some (qjl ac j))) ?_
        cases o : firstT l p d with
        | none=>
          have : decide (blk l p d) = false:=Q9 fun h=>by rw [qbg,o] at h;cases h
          rw [this];rfl
        | some T=>
          have : decide (blk l p d) = true:=Qb (qbg.2 (by rw [o];rfl));rw [this]
          have aa : ∃ w,firstT (mrgB 2 l m) p d = some w∧w≤T:=by
            rw [k,o]
            cases firstT m p d with
            | none=>exact ⟨T,rfl,Rat.le_refl⟩
            | some v=>exact ⟨min T v,rfl,by grind⟩
          obtain ⟨w,hw,av⟩:=aa;rw [hw];have hl:=qvp (sl T o) (sa w hw);rw [Q9 (show ¬ T < w by grind)] at hl;refine bnd (a:=true) ?_ rfl;rw [Q0];refine bnd (a:=false) rfl ?_;refine bnd (a:=true) ?_ rfl;rw [Q4];refine bnd (a:=true) rfl ?_;refine bnd (a:=true) ?_ rfl;rw [Q0];exact bnd hl rfl
      · rw [Q9 j];rfl
end Go.Sh
