/- Su12 -/
import Derived.Test.YtmnfbjlabfeneaaGreatK12
namespace Go.Sh
open Go Go.Am
theorem qfu (l : List qj) (d : l.length≤1000000) (f : qj→Option Bool) (c : qj→Bool) (h : ∀ b∈l,f b = some (c b)) : q1j l f = some (l.any c):=by
  unfold q1j q8b
  rcases Uu l c (fun k _=>(k : Int)) () (Ui l f) (fun k a=>by
    simp only [Ui,dlt a,qy,Qx a,qh,h _ (Y6 a),w64s a d]
    cases c l[k] <;> rfl) (by simp only [Ui,dnl,Q0]) with ⟨h1,h2⟩ | ⟨k,a,hc,_,h2⟩
  · rw [h2];have : l.any c = false:=by rw [List.any_eq_false];intro b hb;simp [h1 b hb]
    rw [this];rfl
  · rw [h2];have : l.any c = true:=List.any_eq_true.2 ⟨l[k],Y6 a,hc⟩;rw [this];simp only [qh];rw [Qb q6]
def inV (v : Q4) (n : Int) : Prop:=(-n≤v.X∧v.X≤n)∧(-n≤v.Y∧v.Y≤n)∧(-n≤v.Z∧v.Z≤n)
instance qzn (v : Q4) (n : Int) : Decidable (inV v n):=by unfold inV;infer_instance
instance (d : Q4) : Decidable (nzV d):=by unfold nzV;infer_instance
instance (p d : Int) : Decidable (fitA p d):=by unfold fitA;infer_instance
instance (p d : Q4) : Decidable (fitV p d):=by unfold fitV;infer_instance
theorem qbn (v : Q4) {n : Int} (b : 0≤n∧n≤1000) : q2q v n = some (decide (inV v n)):=by
  unfold q2q;rw [Q8 (x:=0 - n) q6];by_cases a : min (min v.X v.Y) v.Z ≥ 0 - n
  · rw [Qb a];simp only [qy,qh];congr 1;refine decide_eq_decide.2 ?_;unfold inV;omega
  · rw [Q6 a];simp only [Q0,qh];congr 1;refine (Q6 ?_).symm;unfold inV;omega
theorem qb6 (v : Q4) {n : Int} (g : 0≤n∧n≤1000) : Uf v n = some (decide (inV v n)):=by
  unfold Uf;rw [Q8 (x:=0 - n) q6];by_cases f : v.X ≥ 0 - n
  · rw [Qb f];simp only [qy,qh];by_cases d : v.X≤n
    · rw [Qb d];simp only [qy,qh];by_cases a : v.Y ≥ 0 - n
      · rw [Qb a];simp only [qy,qh];by_cases b : v.Y≤n
        · rw [Qb b];simp only [qy,qh];by_cases c : v.Z ≥ 0 - n
          · rw [Qb c];simp only [qy,qh];congr 1;refine decide_eq_decide.2 ?_;unfold inV;omega
          · rw [Q6 c,Q6 (show ¬ inV v n by unfold inV;omega)];rfl
        · rw [Q6 b,Q6 (show ¬ inV v n by unfold inV;omega)];rfl
      · rw [Q6 a,Q6 (show ¬ inV v n by unfold inV;omega)];rfl
    · rw [Q6 d,Q6 (show ¬ inV v n by unfold inV;omega)];rfl
  · rw [Q6 f,Q6 (show ¬ inV v n by unfold inV;omega)];rfl
noncomputable def chkF (l : List qj) (d : Q4) : Int:=if Zb l≠0 then Zb l else if ∀ b∈l,inV b.Lo 30∧inV b.Hi 30 then (if inV d 8∧nzV d then 0 else 2) else 16
theorem q4b {l : List qj} (h : Zb l = 0) : l.length≤400:=(qn3.1 h).1
theorem qil (d : Q4) : ((d.X == 0) && ((d.Y == 0) && ((d.Z == 0) && true))) = decide (¬ nzV d):=by
  by_cases c : d.X = 0 <;> by_cases b : d.Y = 0 <;> by_cases a : d.Z = 0 <;> simp [nzV,c,b,a]
theorem qq2 (d : Q4) : (((cond (d.X == 0) (some (d.Y == 0)) (some false)).bind fun a=>(cond a (some (d.Z == 0)) (some false)).bind fun b=>some b) : Option Bool) = some (decide (¬ nzV d)):=by
  rw [← qil];cases (d.X == 0) <;> cases (d.Y == 0) <;> cases (d.Z == 0) <;> rfl
theorem ql2 (l : List qj) (d : Q4) : q6o l d = some (chkF l d):=by
  unfold q6o chkF;rw [qxm,qh];by_cases f : Zb l = 0
  · have k:=q4b f;rw [f];simp only [show ((0 : Int) != 0) = false from rfl,Q0,ne_eq,not_true_eq_false,if_false]
    have g : ∀ b∈l,q6p b = some (!decide (inV b.Lo 30∧inV b.Hi 30)):=fun b _=>by
      unfold q6p;rw [qbn _ qt,qbn _ qt];by_cases a : inV b.Lo 30 <;> by_cases c : inV b.Hi 30 <;> simp [a,c]
    rw [qfu l q6 _ _ g,qh];by_cases hb : ∀ b∈l,inV b.Lo 30∧inV b.Hi 30
    · have : l.any (fun b=>!decide (inV b.Lo 30∧inV b.Hi 30)) = false:=by
        rw [List.any_eq_false];intro b h;simp [hb b h]
      rw [this,Q0,qp hb,qbn _ qt,qil];by_cases a : inV d 8 <;> by_cases c : nzV d <;> simp [a,c]
    · have : l.any (fun b=>!decide (inV b.Lo 30∧inV b.Hi 30)) = true:=by
        refine Classical.byContradiction fun j=>hb fun b h=>?_;have:=(List.any_eq_false.1 (Bool.eq_false_iff.2 j)) b h;simpa using this
      rw [this,qy,qr hb]
  · rw [show (Zb l != 0) = true by simpa using f,qy,qp f]
theorem qjo (l : List qj) (d : Q4) : q2a l d = some (chkF l d):=by
  unfold q2a chkF;rw [qs3,qh];by_cases g : Zb l = 0
  · have j:=q4b g;rw [g];simp only [show ((0 : Int) != 0) = false from rfl,Q0,ne_eq,not_true_eq_false,if_false]
    rcases Uu l (fun b=>!decide (inV b.Lo 30∧inV b.Hi 30)) (fun k _=>(16 : Int)) () (q54 l) (fun k f=>by
      simp only [q54,dlt f,qy,Qx f,qh,qb6 _ (show (0 : Int)≤30∧(30 : Int)≤1000 by decide),w64s f (show l.length≤1000000 by omega)]
      by_cases a : inV l[k].Lo 30 <;> by_cases c : inV l[k].Hi 30 <;> simp [a,c]) (by simp only [q54,dnl,Q0]) with ⟨h1,h2⟩ | ⟨k,f,hc,_,h2⟩
    · have hb : ∀ b∈l,inV b.Lo 30∧inV b.Hi 30:=fun b hb=>by simpa using h1 b hb
      rw [h2,qp hb];simp only [qh];rw [qb6 _ qt,qq2];by_cases a : inV d 8 <;> by_cases c : nzV d <;> simp [a,c]
    · have hb : ¬ ∀ b∈l,inV b.Lo 30∧inV b.Hi 30:=fun h=>by simp [h _ (Y6 f)] at hc
      rw [h2,qr hb];rfl
  · rw [show (Zb l != 0) = true by simpa using g,qy,qp g];rfl
structure FitS (l : List qj) (d : Q4) : Prop where
  ck : Zb l = 0
  bx : ∀ b∈l,Yx b
  dr : dirV d
  nz : nzV d
theorem qa0 {l : List qj} {d : Q4} (h : chkF l d = 0) : FitS l d:=by
  unfold chkF at h;by_cases a : Zb l = 0
  · rw [a] at h;simp only [ne_eq,not_true_eq_false,if_false] at h;by_cases hb : ∀ b∈l,inV b.Lo 30∧inV b.Hi 30
    · rw [qp hb] at h;by_cases hd : inV d 8∧nzV d
      · exact ⟨a,fun b c=>by have:=hb b c;unfold inV at this;unfold Yx;omega,by have:=hd.1;unfold inV at this;unfold dirV;omega,hd.2⟩
      · rw [qr hd] at h;cases h
    · rw [qr hb] at h;cases h
  · rw [qp a] at h;exact absurd h a
theorem qyz (p : Int) : (Int.tmod p 2 == 0) = decide (¬ p % 2≠0):=by
  have a : (2 : Int) ∣ p↔Int.tmod p 2 = 0:=Int.dvd_iff_tmod_eq_zero;by_cases h : p % 2 = 0
  · have : Int.tmod p 2 = 0:=a.1 (Int.dvd_of_emod_eq_zero h);rw [this,Qb (by simpa using h)];rfl
  · have : Int.tmod p 2≠0:=fun g=>h (Int.emod_eq_zero_of_dvd (a.2 g));rw [Q6 (by simpa using h)];simpa using this
theorem qgl {γ : Type} (f : Int→Option (Int ⊕ (Unit ⊕ Bool))) (p d : Q4) (K : Option Bool)
    (l : ∀ i a,(i = 0∧a = (p.X,d.X))∨(i = 1∧a = (p.Y,d.Y))∨(i = 2∧a = (p.Z,d.Z))→f i = some (if fitA a.1 a.2 then .inl (i + 1) else .inr (.inr false))) (n : f 3 = some (.inr (.inl ()))) (o : K = some (decide (inV p 240))) :
    ((loop f 0 : Option (Unit ⊕ Bool)).bind fun m=>(match m with | .inl b62=>K | .inr x1=>some x1)) = some (decide (fitV p d∧inV p 240)):=by
  have s0:=l 0 _ (.inl ⟨rfl,rfl⟩);have g:=l 1 _ (.inr (.inl ⟨rfl,rfl⟩));have j:=l 2 _ (.inr (.inr ⟨rfl,rfl⟩));by_cases k : fitA p.X d.X
  · rw [qp k] at s0;rw [Kc s0,show (0 : Int) + 1 = 1 from rfl];by_cases b : fitA p.Y d.Y
    · rw [qp b] at g;rw [Kc g,show (1 : Int) + 1 = 2 from rfl];by_cases c : fitA p.Z d.Z
      · rw [qp c] at j;rw [Kc j,show (2 : Int) + 1 = 3 from rfl,K7 n];simp only [qh];rw [o];congr 1;exact decide_eq_decide.2 ⟨fun h=>⟨⟨k,b,c⟩,h⟩,fun h=>h.2⟩
      · rw [qr c] at j;rw [K7 j,Q6 fun h=>c h.1.2.2];rfl
    · rw [qr b] at g;rw [K7 g,Q6 fun h=>b h.1.2.1];rfl
  · rw [qr k] at s0;rw [K7 s0,Q6 fun h=>k h.1.1];rfl
theorem q4g (p d i : Int) (hi : 0≤i∧i < 3) : (((cond (d == 0) (some (Int.tmod p 2 == 0)) (some false)) : Option Bool).bind fun a=>cond a (some (Sum.inr (Sum.inr false))) (some (Sum.inl (w64 (i + 1)))) : Option (Int ⊕ (Unit ⊕ Bool))) = some (if fitA p d then .inl (i + 1) else .inr (.inr false)):=by
  rw [Q8 q6,qyz];by_cases h : d = 0
  · by_cases g : p % 2 = 0
    · rw [qr (show ¬ fitA p d from fun q=>q h g),show (d == 0) = true by simpa using h,Qb (by simpa using g)];rfl
    · rw [qp (show fitA p d from fun _=>g),show (d == 0) = true by simpa using h,Q6 (by simpa using g)];rfl
  · rw [qp (show fitA p d from fun q=>absurd q h),show (d == 0) = false by simpa using h];rfl
theorem ql4 (p d : Q4) : q6q ({p_:=p,d_:=d} : Ym) = some (decide (fitV p d∧inV p 240)):=by
  unfold q6q Ul;simp only [qh];refine qgl (γ:=Unit) (qbp (d.X,d.Y,d.Z) (p.X,p.Y,p.Z)) p d _ ?_ rfl (by rw [qbn _ qt];rfl);rintro i a (⟨rfl,rfl⟩ | ⟨rfl,rfl⟩ | ⟨rfl,rfl⟩)
  · exact q4g p.X d.X 0 qt
  · exact q4g p.Y d.Y 1 qt
  · exact q4g p.Z d.Z 2 qt
theorem qjp (p d : Q4) : q55 p d = some (decide (fitV p d∧inV p 240)):=by
  unfold q55;refine qgl (γ:=Unit) (qb5 d p) p d _ ?_ rfl (by rw [qb6 _ qt];rfl);rintro i a (⟨rfl,rfl⟩ | ⟨rfl,rfl⟩ | ⟨rfl,rfl⟩)
  · exact q4g p.X d.X 0 qt
  · exact q4g p.Y d.Y 1 qt
  · exact q4g p.Z d.Z 2 qt
theorem q80 {l : List qj} {p d : Q4} (h : FitS l d) (hp : inV p 240) : Z5 p d:=by
  have:=h.dr;unfold inV at hp;unfold dirV at this;unfold Z5;omega
theorem qoh {l : List qj} {p d : Q4} (m : l.length≤1000000) (hb : ∀ b∈l,Yx b) (k : Z5 p d) (c : nzV d) : q9k ({p_:=p,d_:=d} : Ym) l = some (!decide (blk l p d)):=by
  unfold q9k
  rw [qfu l m (fun j=>q6r j ({p_:=p,d_:=d} : Ym)) (fun b=>(hitC (axB b p d)).isSome) (fun b a=>by
    obtain ⟨t,g,_⟩:=qd0 (hb b a) k c
    unfold q6r;rw [g];rfl)]
  simp only [qh];congr 2;by_cases h : blk l p d
  · rw [Qb h];obtain ⟨b,g,f⟩:=h;exact List.any_eq_true.2 ⟨b,g,f⟩
  · rw [Q6 h,List.any_eq_false];intro b hb f;exact h ⟨b,hb,f⟩
theorem qou {b : qj} {p d : Q4} : (hitT (axB b p d)).isSome = (hitC (axB b p d)).isSome:=by rw [← (qaf (l:=axB b p d)).1,Option.isSome_map]
theorem qm4 {l : List qj} {p d : Q4} (g : l.length≤1000000) (hb : ∀ b∈l,Yx b) (f : Z5 p d) (c : nzV d) : q7s l p d = some (decide (blk l p d)):=by
  unfold q7s
  rcases Uu l (fun b=>(hitC (axB b p d)).isSome) (fun k _=>true) () (q53 l p d) (fun k a=>by
    simp only [q53,dlt a,qy,Qx a,qh,qjr (hb _ (Y6 a)) f c,w64s a g];rw [← qou]
    cases hitT (axB l[k] p d) <;> rfl) (by simp only [q53,dnl,Q0]) with ⟨h1,h2⟩ | ⟨k,a,hc,_,h2⟩
  · rw [h2,Q6];rfl;rintro ⟨b,hb,h⟩;rw [h1 b hb] at h;cases h
  · rw [h2,Qb (show blk l p d from ⟨_,Y6 a,hc⟩)];rfl
noncomputable def qac (l : List qj) (p d : Q4) : Bool × Int:=if chkF l d≠0 then (false,chkF l d) else if fitV p d∧inV p 240 then (!decide (blk l p d),0) else (false,2)
theorem qym (l : List qj) (p d : Q4) : q9j l p d = some (qac l p d):=by
  unfold q9j qac;rw [ql2,qh];by_cases b : chkF l d = 0
  · have hs:=qa0 b;have c:=q4b hs.ck;rw [b];simp only [show ((0 : Int) != 0) = false from rfl,Q0,ne_eq,not_true_eq_false,if_false];rw [ql4,qh];by_cases a : fitV p d∧inV p 240
    · rw [Qb a,qp a,qoh q6 hs.bx (q80 hs a.2) hs.nz];rfl
    · rw [Q6 a,qr a];rfl
  · rw [show (chkF l d != 0) = true by simpa using b,qy,qp b]
theorem qsg (l : List qj) (p d : Q4) : q7u l p d = some (qac l p d):=by
  unfold q7u qac;rw [qjo,qh];by_cases b : chkF l d = 0
  · have hs:=qa0 b;have c:=q4b hs.ck;rw [b];simp only [show ((0 : Int) != 0) = false from rfl,Q0,ne_eq,not_true_eq_false,if_false];rw [qjp,qh];by_cases a : fitV p d∧inV p 240
    · rw [Qb a,qp a,qm4 q6 hs.bx (q80 hs a.2) hs.nz];rfl
    · rw [Q6 a,qr a];rfl
  · rw [show (chkF l d != 0) = true by simpa using b,qy,qp b];rfl
def minP (m : Option (Int × Int)) (u : Option (Int × Int)) : Option (Int × Int):=match u with
  | none=>m
  | some u=>match m with
    | none=>some u
    | some v=>if befC u v = true then some u else some v
def encF (k : Int) : Option (Int × Int)→Bool × Int × Int × Int
  | none=>(false,k,0,0)
  | some u=>(true,k,u.1,u.2)
def Jm (l : List qj) (p d : Q4) : Option (Int × Int):=l.foldl (fun m b=>minP m (hitC (axB b p d))) none
theorem qpt {m u : Option (Int × Int)} (b : ∀ x,m = some x→smP x∧0 < x.2∧0≤valC x) (a : ∀ x,u = some x→smP x∧0 < x.2∧0≤valC x) : (∀ x,minP m u = some x→smP x∧0 < x.2∧0≤valC x)∧(minP m u).map valC = minO (m.map valC) (u.map valC):=by
  cases u with
  | none=>exact ⟨b,by cases m <;> rfl⟩
  | some u=>
    cases m with
    | none=>exact ⟨a,rfl⟩
    | some v=>
      have h:=q9w (a u rfl).2.1 (b v rfl).2.1;show (∀ x,(if befC u v = true then some u else some v) = some x→_)∧(if befC u v = true then some u else some v).map valC = some (min (valC v) (valC u));by_cases hb : befC u v = true
      · rw [qp hb];refine ⟨a,?_⟩;have:=h.1 hb;show some (valC u) = _;congr 1;grind
      · rw [qr hb];refine ⟨b,?_⟩;have : ¬ valC u < valC v:=fun g=>hb (h.2 g);show some (valC v) = _;congr 1;grind
theorem qhe {b : qj} {p d : Q4} (hb : Yx b) (f : Z5 p d) (a : nzV d) : ∀ x,hitC (axB b p d) = some x→smP x∧0 < x.2∧0≤valC x:=fun x c=>by
  obtain ⟨t,_,h⟩:=qd0 hb f a
  have g:=(qaf (l:=axB b p d)).2 x c
  exact ⟨(h x c).2,g⟩
theorem qcn {p d : Q4} (f : Z5 p d) (a : nzV d) : ∀ (l : List qj),(∀ b∈l,Yx b)→∀ m : Option (Int × Int),(∀ x,m = some x→smP x∧0 < x.2∧0≤valC x)→
    (∀ x,l.foldl (fun m b=>minP m (hitC (axB b p d))) m = some x→smP x∧0 < x.2∧0≤valC x)∧(l.foldl (fun m b=>minP m (hitC (axB b p d))) m).map valC = l.foldl (fun m b=>minO m (hitT (axB b p d))) (m.map valC)
  | [],_,m,hm=>⟨hm,rfl⟩
  | b::l,hb,m,hm=>by
    have h:=qpt hm (qhe (hb b qd) f a)
    rw [List.foldl_cons,List.foldl_cons]
    rw [← (qaf (l:=axB b p d)).1,← h.2]
    exact qcn f a l (fun c g=>hb c (by simp [g])) _ h.1
theorem qo6 {l : List qj} {p d : Q4} (hb : ∀ b∈l,Yx b) (c : Z5 p d) (a : nzV d) : (∀ x,Jm l p d = some x→smP x∧0 < x.2∧0≤valC x)∧(Jm l p d).map valC = firstT l p d:=
  qcn c a l hb none qd
theorem qyj {l : List qj} {p d : Q4} (x : l.length≤1000000) (hb : ∀ b∈l,Yx b) (o : Z5 p d) (a : nzV d) : loop (q1n l p d) (false,0,0,0) = some ((encF 0 (Jm l p d)).1,(encF 0 (Jm l p d)).2.2):=by
  have key:=Zx (f:=q1n l p d) (fun k=>encF (k : Int) ((l.take k).foldl (fun m b=>minP m (hitC (axB b p d))) none)) l.length ((encF 0 (Jm l p d)).1,(encF 0 (Jm l p d)).2.2) (fun k c=>by
    rw [List.take_succ_eq_append_getElem c,List.foldl_append];have q:=(qcn o a (l.take k) (fun b j=>hb b (List.mem_of_mem_take j)) none qd).1;generalize (l.take k).foldl (fun m b=>minP m (hitC (axB b p d))) none = m at q;have n:=hb _ (Y6 c);obtain ⟨t,h1,y⟩:=qd0 n o a
    have g : q1n l p d (encF (k : Int) m) = some (.inl (encF ((k + 1 : Nat) : Int) (minP m (hitC (axB l[k] p d))))):=by
      unfold q1n;have h : (encF (k : Int) m).2.1 = k:=by cases m <;> rfl
      rw [h,dlt c,qy,Qx c];simp only [qh,h1,w64s c x]
      cases hc : hitC (axB l[k] p d) with
      | none=>cases m <;> rfl
      | some u=>
        obtain ⟨s,z⟩:=y u hc;subst s
        cases m with
        | none=>rfl
        | some v=>
          have r:=(q v rfl).1;obtain ⟨⟨c1,c2⟩,c3⟩:=r;obtain ⟨⟨c4,c5⟩,c6⟩:=z;simp only [encF,Option.isSome_some,qy,Bool.not_true,Q0];rw [q9x (by simp only;omega) (by simp only;omega) (by simp only;omega) (by simp only;omega)];simp only [qh,minP]
          cases hq : befC u v with
          | true=>rfl
          | false=>rfl
    rw [g];rfl) (by
    rw [List.take_length];show q1n l p d (encF (l.length : Int) (Jm l p d)) = _;unfold q1n;have h : (encF (l.length : Int) (Jm l p d)).2.1 = l.length:=by cases Jm l p d <;> rfl
    rw [h,dnl,Q0]
    cases Jm l p d <;> rfl) (Nat.zero_le _)
  exact key
def encR (k : Int) : Option Rat→Bool × Int × Int × Int
  | none=>(false,k,0,0)
  | some q=>(true,k,q.num,(q.den : Int))
theorem qhf {b : qj} {p d : Q4} (hb : Yx b) (g : Z5 p d) (c : nzV d) : ∀ q,hitT (axB b p d) = some q→smR q:=fun q a=>by
  rw [← (qaf (l:=axB b p d)).1] at a
  cases f : hitC (axB b p d) with
  | none=>rw [f] at a;cases a
  | some u=>
    rw [f] at a;cases a
    obtain ⟨⟨c1,c2⟩,c3,c4⟩:=qhe hb g c u f
    exact (qgx q6 c1 c2).1
theorem qps {m u : Option Rat} (f : ∀ x,m = some x→smR x) (d : ∀ x,u = some x→smR x) : ∀ x,minO m u = some x→smR x:=by
  intro x b
  cases m with
  | none=>exact d x b
  | some a=>
    cases u with
    | none=>exact f x b
    | some c=>
      have b : min a c = x:=q6t b;rw [← b];by_cases h : a≤c
      · rw [show min a c = a by grind];exact f a rfl
      · rw [show min a c = c by grind];exact d c rfl
theorem qgp {p d : Q4} (f : Z5 p d) (a : nzV d) : ∀ (l : List qj),(∀ b∈l,Yx b)→∀ m : Option Rat,(∀ x,m = some x→smR x)→∀ x,l.foldl (fun m b=>minO m (hitT (axB b p d))) m = some x→smR x
  | [],_,m,hm=>hm
  | b::l,hb,m,hm=>by
    rw [List.foldl_cons]
    exact qgp f a l (fun c g=>hb c (by simp [g])) _ (qps hm (qhf (hb b qd) f a))
theorem qsr {l : List qj} {p d : Q4} (s : l.length≤1000000) (hb : ∀ b∈l,Yx b) (n : Z5 p d) (a : nzV d) : loop (q1f l p d) (false,0,0,0) = some ((encR 0 (firstT l p d)).1,(encR 0 (firstT l p d)).2.2):=by
  have key:=Zx (f:=q1f l p d) (fun k=>encR (k : Int) ((l.take k).foldl (fun m b=>minO m (hitT (axB b p d))) none)) l.length ((encR 0 (firstT l p d)).1,(encR 0 (firstT l p d)).2.2) (fun k c=>by
    rw [List.take_succ_eq_append_getElem c,List.foldl_append];have q:=qgp n a (l.take k) (fun b o=>hb b (List.mem_of_mem_take o)) none qd;generalize (l.take k).foldl (fun m b=>minO m (hitT (axB b p d))) none = m at q;have g:=hb _ (Y6 c)
    have h : q1f l p d (encR (k : Int) m) = some (.inl (encR ((k + 1 : Nat) : Int) (minO m (hitT (axB l[k] p d))))):=by
      unfold q1f;have j : (encR (k : Int) m).2.1 = k:=by cases m <;> rfl
      rw [j,dlt c,qy,Qx c];simp only [qh,qjr g n a,w64s c s]
      cases t : hitT (axB l[k] p d) with
      | none=>cases m <;> rfl
      | some u=>
        have x:=qhf g n a u t
        cases m with
        | none=>rfl
        | some v=>
          have y:=q v rfl;simp only [encR,qy,Bool.not_true,Q0];rw [show ({Num:=v.num,Den:=(v.den : Int)} : Ql) = ofR v from rfl,qdw x y];simp only [qh,minO];by_cases r : u < v
          · rw [Qb r,show min v u = u by grind];rfl
          · rw [Q6 r,show min v u = v by grind];rfl
    rw [h];rfl) (by
    rw [List.take_length];show q1f l p d (encR (l.length : Int) (firstT l p d)) = _;unfold q1f;have j : (encR (l.length : Int) (firstT l p d)).2.1 = l.length:=by cases firstT l p d <;> rfl
    rw [j,dnl,Q0]
    cases firstT l p d <;> rfl) (Nat.zero_le _)
  exact key
noncomputable def qaa (l : List qj) (p d : Q4) : Ql × Int:=if chkF l d≠0 then (({Num:=0,Den:=0} : Ql),chkF l d) else if fitV p d∧inV p 240 then (match firstT l p d with | none=>(({Num:=0,Den:=0} : Ql),6) | some q=>(ofR q,0)) else (({Num:=0,Den:=0} : Ql),2)
theorem qyk (l : List qj) (p d : Q4) : q9i l p d = some (qaa l p d):=by
  unfold q9i qaa;rw [ql2,qh];by_cases b : chkF l d = 0
  · have hs:=qa0 b;have h:=q4b hs.ck;rw [b];simp only [show ((0 : Int) != 0) = false from rfl,Q0,ne_eq,not_true_eq_false,if_false];rw [ql4,qh];by_cases a : fitV p d∧inV p 240
    · rw [Qb a,qp a,qyj q6 hs.bx (q80 hs a.2) hs.nz];obtain ⟨c,f⟩:=qo6 hs.bx (q80 hs a.2) hs.nz;rw [← f]
      cases g : Jm l p d with
      | none=>rfl
      | some u=>
        obtain ⟨⟨c1,c2⟩,c3,c4⟩:=c u g;simp only [encF,qh,Bool.not_true,Q0,Option.map_some];rw [qsm c3 q6 q6];rfl
    · rw [Q6 a,qr a];rfl
  · rw [show (chkF l d != 0) = true by simpa using b,qy,qp b]
theorem qse (l : List qj) (p d : Q4) : q7t l p d = some (qaa l p d):=by
  unfold q7t qaa;rw [qjo,qh];by_cases b : chkF l d = 0
  · have hs:=qa0 b;have c:=q4b hs.ck;rw [b];simp only [show ((0 : Int) != 0) = false from rfl,Q0,ne_eq,not_true_eq_false,if_false];rw [qjp,qh];by_cases a : fitV p d∧inV p 240
    · rw [Qb a,qp a,qsr q6 hs.bx (q80 hs a.2) hs.nz]
      cases firstT l p d with
      | none=>rfl
      | some q=>rfl
    · rw [Q6 a,qr a];rfl
  · rw [show (chkF l d != 0) = true by simpa using b,qy,qp b];rfl
theorem qpx (l : List qj) : ∃ b,q7v l = some b∧(b = true→l.length≤420∧(l.length≤400→l.length≤6∧∀ b∈l,inV b.Lo 9∧inV b.Hi 9)):=by
  unfold q7v;by_cases f : (l.length : Int) > 400
  · rw [Qb f,qy];exact ⟨_,rfl,fun h=>⟨by have:=of_decide_eq_true h;omega,fun g=>q6⟩⟩
  · rw [Q6 f,Q0]
    rcases Uu l (fun b=>!decide (inV b.Lo 9∧inV b.Hi 9)) (fun k _=>false) () (q58 l) (fun k d=>by
      simp only [q58,dlt d,qy,Qx d,qh,qb6 _ (show (0 : Int)≤9∧(9 : Int)≤1000 by decide),w64s d (show l.length≤1000000 by omega)]
      by_cases a : inV l[k].Lo 9 <;> by_cases c : inV l[k].Hi 9 <;> simp [a,c]) (by simp only [q58,dnl,Q0]) with ⟨h1,h2⟩ | ⟨k,d,hc,_,h2⟩
    · rw [h2];refine ⟨_,rfl,fun h=>⟨q6,fun _=>⟨by have:=of_decide_eq_true h;omega,fun b hb=>by simpa using h1 b hb⟩⟩⟩
    · rw [h2];exact ⟨_,rfl,fun h=>by cases h⟩
theorem qzt (l : List qj) (p d : Q4) : qak l p d = some true:=by
  unfold qak;obtain ⟨b,hb,_⟩:=qpx l;rw [hb,qh]
  cases b with
  | false=>rfl
  | true=>
    rw [qym,qsg,qyk,qse];simp
end Go.Sh
