/- Su15 Su16 Su17 Su18 Su19 Su20 Su21 -/
import Derived.Test.YtmnfbjlabfeneaaGreatK13
namespace Go.Sh
open Go Go.Am
theorem qm9 {l : AxL} (f : ∃ a∈l,a.2.2.2≠0) : (hitT l).isSome = true↔∃ t,0 < t∧q16 l t:=by
  obtain ⟨h,b⟩:=qct f;have c:=q9i l;unfold hitT;rw [b];simp only;constructor
  · intro g;split at g
    · rename_i q;exact ⟨(loT l + h) / 2,by grind,(q9e b (by grind)).2 ⟨q.1,by grind,by grind⟩⟩
    · cases g
  · rintro ⟨t,d,g⟩;have:=(q9e b d).1 g;rw [qq ⟨this.1,by grind⟩];rfl
theorem qrq {l : List qf} {p d : qh} (a : nzV d) : blk l p d↔∃ b∈l,∃ t,0 < t∧q16 (axB b p d) t:=by
  unfold blk;constructor
  · rintro ⟨b,hb,h⟩;rw [← qm8] at h;exact ⟨b,hb,(qm9 (qd4 a)).1 h⟩
  · rintro ⟨b,hb,h⟩;exact ⟨b,hb,by rw [← qm8];exact (qm9 (qd4 a)).2 h⟩
def shX (lo hi by_ H up : Int) : Int × Int:=(max (min lo (lo - Int.tdiv (H * by_) up) - 2) (-510),min (max hi (hi - Int.tdiv (H * by_) up) + 2) 510)
theorem qmc : ∀ (l : List qf) (s : qf),((l.foldl Ka s).Lo.X≤s.Lo.X∧s.Hi.X≤(l.foldl Ka s).Hi.X∧(l.foldl Ka s).Lo.Y≤s.Lo.Y∧s.Hi.Y≤(l.foldl Ka s).Hi.Y∧s.Hi.Z≤(l.foldl Ka s).Hi.Z)∧(∀ b∈l,(l.foldl Ka s).Lo.X≤b.Lo.X∧b.Hi.X≤(l.foldl Ka s).Hi.X∧(l.foldl Ka s).Lo.Y≤b.Lo.Y∧b.Hi.Y≤(l.foldl Ka s).Hi.Y∧b.Hi.Z≤(l.foldl Ka s).Hi.Z)∧(Ya s→(∀ b∈l,Ya b)→Ya (l.foldl Ka s))
  | [],s=>⟨qe,qe,fun h _=>h⟩
  | b::l,s=>by
    obtain ⟨j,d,f⟩:=qmc l (Ka s b)
    have g : (Ka s b).Lo.X = min s.Lo.X b.Lo.X∧(Ka s b).Hi.X = max s.Hi.X b.Hi.X∧(Ka s b).Lo.Y = min s.Lo.Y b.Lo.Y∧(Ka s b).Hi.Y = max s.Hi.Y b.Hi.Y∧(Ka s b).Hi.Z = max s.Hi.Z b.Hi.Z:=⟨rfl,rfl,rfl,rfl,rfl⟩
    rw [List.foldl_cons]
    refine ⟨q0,fun c a=>?_,fun hs hb=>f ?_ fun c a=>hb c (by simp [a])⟩
    · rcases List.mem_cons.1 a with rfl | a
      · omega
      · exact d c a
    · have:=hb b qe
      unfold Ya at *
      unfold Ka
      simp only
      omega
theorem qvf {l : List qf} (a : l≠[]) (hb : ∀ b∈l,Ya b) : Ya (Kc l)∧∀ b∈l,(Kc l).Lo.X≤b.Lo.X∧b.Hi.X≤(Kc l).Hi.X∧(Kc l).Lo.Y≤b.Lo.Y∧b.Hi.Y≤(Kc l).Hi.Y∧b.Hi.Z≤(Kc l).Hi.Z:=by
  cases l with
  | nil=>exact absurd rfl a
  | cons b l=>
    obtain ⟨_,d,c⟩:=qmc (b::l) b;exact ⟨c (hb b qe) hb,d⟩
def qi0 (P : Int→Int→Bool) (x0 : Int) (n : Nat) (y0 : Int) (m : Nat) : List ql:=(runM putR (fun x=>J9 (P x) y0 m) K2 (rngL x0 n)).flat putR
noncomputable def shL (l : List qf) (z : Int) (d : qh) : List ql:=if l = []∨(Kc l).Hi.Z≤z then [] else
  qi0 (shB l z d) (shX (Kc l).Lo.X (Kc l).Hi.X d.X ((Kc l).Hi.Z - z) d.Z).1 ((shX (Kc l).Lo.X (Kc l).Hi.X d.X ((Kc l).Hi.Z - z) d.Z).2 - (shX (Kc l).Lo.X (Kc l).Hi.X d.X ((Kc l).Hi.Z - z) d.Z).1).toNat
    (shX (Kc l).Lo.Y (Kc l).Hi.Y d.Y ((Kc l).Hi.Z - z) d.Z).1 ((shX (Kc l).Lo.Y (Kc l).Hi.Y d.Y ((Kc l).Hi.Z - z) d.Z).2 - (shX (Kc l).Lo.Y (Kc l).Hi.Y d.Y ((Kc l).Hi.Z - z) d.Z).1).toNat
noncomputable def qdy (l : List qf) (z : Int) (d : qh) : List ql × Int:=if chkF l d≠0 then ([],chkF l d) else if z < -30∨30 < z∨d.Z≤0 then ([],2) else if 400 < (shL l z d).length then ([],4) else (shL l z d,0)
theorem qp0 {lo hi by_ z : Int} {h : qf} {d : qh} (c : -30≤lo∧lo≤30) (a : -30≤hi∧hi≤30) (hb : -8≤by_∧by_≤8) (g : -30≤z∧z≤30) (b : -30≤h.Hi.Z∧h.Hi.Z≤30) (hd : 0 < d.Z∧d.Z≤8) : q8k lo hi by_ h z d = some (shX lo hi by_ (h.Hi.Z - z) d.Z):=by
  have p:=mulb (x:=h.Hi.Z - z) (A:=60) (y:=by_) (B:=8) q0 hb
  have q : -480≤Int.tdiv ((h.Hi.Z - z) * by_) d.Z∧Int.tdiv ((h.Hi.Z - z) * by_) d.Z≤480:=by
    have:=Int.natAbs_tdiv ((h.Hi.Z - z) * by_) d.Z;have f : ((h.Hi.Z - z) * by_).natAbs.div d.Z.natAbs≤((h.Hi.Z - z) * by_).natAbs:=Nat.div_le_self _ _;omega
  unfold q8k shX;rw [qv (x:=h.Hi.Z - z) q0,qv (x:=(h.Hi.Z - z) * by_) q0];unfold qdc;rw [qs q0,qj];rw [qv (x:=Int.tdiv ((h.Hi.Z - z) * by_) d.Z) q0];generalize Int.tdiv ((h.Hi.Z - z) * by_) d.Z = w at q;rw [qv (x:=lo - w) q0,qv (x:=hi - w) q0,qv (x:=min lo (lo - w) - 2) q0,qv (x:=max hi (hi - w) + 2) q0]
theorem qp1 {lo hi by_ H up : Int} (c : -30≤lo∧lo≤30) (b : -30≤hi∧hi≤30) (hb : -8≤by_∧by_≤8) (a : -60≤H∧H≤60) : -510≤(shX lo hi by_ H up).1∧(shX lo hi by_ H up).2≤510∧(shX lo hi by_ H up).2 - (shX lo hi by_ H up).1≤544:=by
  have p:=mulb a hb
  have q : -480≤Int.tdiv (H * by_) up∧Int.tdiv (H * by_) up≤480:=by
    have:=Int.natAbs_tdiv (H * by_) up;have d : (H * by_).natAbs.div up.natAbs≤(H * by_).natAbs:=Nat.div_le_self _ _;omega
  unfold shX;generalize Int.tdiv (H * by_) up = w at q;simp only;omega
theorem qvg (l : List qf) (h : Kh l = 0) : (l = []∧hull l = (qew,6))∨(l≠[]∧hull l = (Kc l,0)):=by
  unfold hull;rw [qs (by simpa using h)];by_cases a : l = []
  · exact .inl ⟨a,qq a⟩
  · exact .inr ⟨a,qs a⟩
theorem qqc (l : List qf) (z : Int) (d : qh) : q3s l z d = some (qdy l z d):=by
  unfold q3s qdy;rw [qej,qj];by_cases k : chkF l d = 0
  · have hs:=q2o k;rw [k];simp only [show ((0 : Int) != 0) = false from rfl,qy,ne_eq,not_true_eq_false,if_false];by_cases s : z < -30∨30 < z∨d.Z≤0
    · have : (((cond (decide (z < (-30))) (some true) (some (decide (z > 30)))).bind fun c3=>(cond c3 (some true) (some (decide (d.Z≤0)))).bind fun u=>some u) : Option Bool) = some true:=by
        by_cases a : z < -30
        · rw [Qb a];rfl
        · rw [Q8 a];by_cases b : z > 30
          · rw [Qb b];rfl
          · rw [Q8 b,Qb q0];rfl
      rw [qq s];by_cases a : z < -30
      · rw [Qb a];rfl
      · rw [Q8 a];by_cases b : z > 30
        · rw [Qb b];rfl
        · rw [Q8 b,Qb q0];rfl
    · rw [qs s,Q8 q0,Q8 q0,Q8 q0,q14x];simp only [qy,qj];have f : -30≤z∧z≤30:=by omega
      have c:=hs.dr;unfold dirV at c;rcases qvg l hs.ck with ⟨g,e⟩ | ⟨g,e⟩
      · have : shL l z d = []:=by unfold shL;rw [qq (.inl g)]
        rw [e,this];rfl
      · rw [e];simp only [show ((0 : Int) != 0) = false from rfl,qy,qj];by_cases j : (Kc l).Hi.Z≤z
        · have : shL l z d = []:=by unfold shL;rw [qq (.inr j)]
          rw [Qb j,this];rfl
        · rw [Q8 j,qy];have p:=(qvf g hs.bx).1;unfold Ya at p;rw [qp0 q0 q0 c.1 f q0 q0,qj,qp0 q0 q0 c.2.1 f q0 q0,qj];have x : shL l z d = _:=qs (show ¬ (l = []∨(Kc l).Hi.Z≤z) by rintro (h | h);exact g h;exact j h);have o:=qp1 (lo:=(Kc l).Lo.X) (hi:=(Kc l).Hi.X) (by_:=d.X) (H:=(Kc l).Hi.Z - z) (up:=d.Z) q0 q0 c.1 q0;have m:=qp1 (lo:=(Kc l).Lo.Y) (hi:=(Kc l).Hi.Y) (by_:=d.Y) (H:=(Kc l).Hi.Z - z) (up:=d.Z) q0 q0 c.2.1 q0;rw [x];generalize shX (Kc l).Lo.X (Kc l).Hi.X d.X ((Kc l).Hi.Z - z) d.Z = RX at o;generalize shX (Kc l).Lo.Y (Kc l).Hi.Y d.Y ((Kc l).Hi.Z - z) d.Z = RY at m;obtain ⟨x0,x1⟩:=RX;obtain ⟨n,r⟩:=RY;simp only at o m ⊢;have v : (0,x0,([] : List ql),([] : List qo)) = encM x0 (K2 : Mg qo ql):=rfl;have q : ((K2 : Mg qo ql).flat putR).length = 0:=rfl;rw [show ((0 : Int),x0,([] : List ql),([] : List qo)) = encM x0 (K2 : Mg qo ql) from rfl,qp2 (x0:=x0) (x1:=x1) hs f m.1 m.2.1 o.2.1 (x1 - x0).toNat x0 K2 o.1 rfl (by rw [q];omega) q0 (fun h=>absurd rfl h)];simp only [qj];show cond (decide (((qi0 (shB l z d) x0 (x1 - x0).toNat n (r - n).toNat).length : Int) > 400)) _ _ = _;by_cases t : 400 < (qi0 (shB l z d) x0 (x1 - x0).toNat n (r - n).toNat).length
          · rw [Qb q0,qq t];rfl
          · rw [Q8 q0,qs t];rfl
  · rw [show (chkF l d != 0) = true by simpa using k,qz,qq k]
end Go.Sh
namespace Go.Sh
open Go Go.Am
end Go.Sh
namespace Go.Sh
open Go Go.Am
end Go.Sh
namespace Go.Sh
open Go Go.Am
def hq (b : qf) (z : Int) (d : qh) (x y : Int) : Bool:=(hitC (axB b (sqP x y z) d)).isSome
def fl (x y : Int) (m : List ql) : Prop:=∃ r,m.getLast? = some r∧r.X0 = x∧r.Y1 = y
end Go.Sh
namespace Go.Sh
open Go Go.Am
instance (n m : Int) : Decidable (LowT n m):=by unfold LowT;infer_instance
theorem qcc {l : List qf} {d : qh} (h : Kh l = 0) (hb : ∀ b∈l,inV b.Lo 30∧inV b.Hi 30) (hd : inV d 8∧nzV d) : chkF l d = 0:=by
  unfold chkF;rw [qs (by simpa using h),qq hb,qq hd]
theorem quc {l : List qf} {p d : qh} (h : chkF l d = 0) (a : fitV p d∧inV p 240) {u : Int × Int} (f : U5 l p d = some u) (c : LowT u.1 u.2) : q2t l p d = (({Num:=u.1,Den:=u.2} : Yk),0):=by
  have hs:=q2o h;have b:=(qkz hs.bx (qhh hs a.2) hs.nz).2;unfold q2t;rw [qs (by simpa using h),qq a,← b,f];show (ofR (valC u),(0 : Int)) = _;rw [show ofR (valC u) = ({Num:=u.1,Den:=u.2} : Yk) from qgz c]
theorem qmf (p : Prop) [Decidable p] : ind p = if p then 1 else 0:=by
  by_cases h : p
  · rw [qq h,Zq h]
  · rw [qs h,Ko h]
def g1D (l : List qf) (d v : qh) (k : Int) : Int:=if K7 l v (wayV k)∧Yu l v (wayV k) d = true then 1 else 0
def g2D (l : List qf) (d v : qh) (k : Int) : Int:=if K7 l v (wayV k)∧Yu l v (wayV k) d = false then 1 else 0
def cntD (g : qh→Int→Int) (b : qf) : Int:=sumI b.Lo.X b.Hi.X fun x=>sumI b.Lo.Y b.Hi.Y fun y=>sumI b.Lo.Z b.Hi.Z fun z=>sumI 0 6 fun k=>g ⟨x,y,z⟩ k
theorem qw6 (l : List qf) (d : qh) : litN l d = sumL (cntD (g1D l d)) l:=by
  have : g1F l d = g1D l d:=by funext v k;exact qmf _
  unfold litN;rw [this];rfl
theorem qtn (l : List qf) (d : qh) : Zt l d = sumL (cntD (g2D l d)) l:=by
  have : g2F l d = g2D l d:=by funext v k;exact qmf _
  unfold Zt;rw [this];rfl
theorem qth {l : List qf} {d : qh} (h : chkF l d = 0) {a b : Int} (c : sumL (cntD (g1D l d)) l = a) (f : sumL (cntD (g2D l d)) l = b) : U4 l d = (w64 a,w64 b,0):=by
  unfold U4;rw [qs (by simpa using h),qw6,qtn,c,f]
theorem qmu {l : List qf} {v d : qh} {k : Int} (h : chkF l d = 0) (a : ¬ 5 < k) (b : hasB l v.X v.Y v.Z∧K7 l v (wayV k)) : litR l v k d = (Yu l v (wayV k) d,0):=by
  unfold litR;rw [qs (by simpa using h),qs a,qq b]
theorem qp3 {l : List qf} {z : Int} {d : qh} (h : chkF l d = 0) (b : ¬ (z < -30∨30 < z∨d.Z≤0)) {R : List ql} (a : shL l z d = R) (c : R.length≤400) : qdy l z d = (R,0):=by
  unfold qdy;rw [qs (by simpa using h),qs b,a,qs q0]
def one1 : List qf:=[bx 0 0 0 1 1 1]
theorem qxn : Kh one1 = 0:=qjv Q3
theorem qh5 {d : qh} (hd : inV d 8∧nzV d) : chkF one1 d = 0:=qcc qxn Q3 hd
theorem q11s : shL one1 0 ⟨0,0,1⟩ = [⟨0,0,1,1⟩]:=by
  unfold shL;rw [qs Q3];decide +kernel
theorem q11t : shL [bx 0 0 1 1 1 2] 0 ⟨1,0,1⟩ = [⟨-2,0,0,1⟩]:=by
  unfold shL;rw [qs Q3];decide +kernel
theorem qj5 : q6g = some true:=by
  have c1 : chkF one1 ⟨1,0,0⟩ = 0:=qh5 Q3;have c2 : chkF one1 ⟨1,0,1⟩ = 0:=qh5 Q3;have c3 : chkF one1 ⟨0,0,1⟩ = 0:=qh5 Q3;have c4 : chkF [bx 0 0 1 1 1 2] ⟨1,0,1⟩ = 0:=qcc (qjv Q3) Q3 Q3;have d : q3q one1 ⟨-3,1,1⟩ ⟨1,0,0⟩ = some (⟨3,2⟩,0):=by rw [qil,quc (u:=(3,2)) c1 Q3 Q3 Q3]
  have j : q1g one1 ⟨1,0,1⟩ = some (2,4,0):=by
    rw [qbn,qth (a:=2) (b:=4) c2 (by decide +kernel) (by decide +kernel)];rfl
  have f : q3r one1 ⟨0,0,0⟩ 0 ⟨1,0,1⟩ = some (true,0):=by
    rw [qq9 _ _ Q3,qmu c2 Q3 Q3];decide +kernel
  have h : q3r one1 ⟨0,0,0⟩ 4 ⟨1,0,1⟩ = some (true,0):=by
    rw [qq9 _ _ Q3,qmu c2 Q3 Q3];decide +kernel
  have c : q3s one1 0 ⟨0,0,1⟩ = some ([⟨0,0,1,1⟩],0):=by rw [qqc,qp3 c3 Q3 q11s Q3]
  have g : q3s [bx 0 0 1 1 1 2] 0 ⟨1,0,1⟩ = some ([⟨-2,0,0,1⟩],0):=by rw [qqc,qp3 c4 Q3 q11t Q3]
  unfold q6g;simp only [show q6h 0 0 0 1 1 1 = some (bx 0 0 0 1 1 1) from rfl,show q6h 0 0 1 1 1 2 = some (bx 0 0 1 1 1 2) from rfl,q18,q9g,qj,show [bx 0 0 0 1 1 1] = one1 from rfl,d,j,f,h,c,g,beq_self_eq_true,qz,Bool.and_self,qdv _ _ (show [(⟨0,0,1,1⟩ : ql)].length≤1000000 by simp),qdv _ _ (show [(⟨-2,0,0,1⟩ : ql)].length≤1000000 by simp),decide_true]
theorem bnd {α β : Type} {x : Option α} {a : α} {f : α→Option β} {r : Option β} (h : x = some a) (k : f a = r) : x.bind f = r:=by rw [h];exact k
end Go.Sh
namespace Go.Sh
open Go Go.Am
theorem ql5 (l : List qf) (d : qh) : ∃ b,q6i l d = some b∧(b = true→l.length≤6∧(∀ b∈l,inV b.Lo 9∧inV b.Hi 9)∧chkF l d = 0):=by
  unfold q6i;obtain ⟨b,f,g⟩:=qwt l;rw [f,qzj];by_cases a : (l.length : Int)≤6
  · rw [Qb a]
    cases b with
    | false=>exact ⟨false,rfl,fun h=>by cases h⟩
    | true=>
      simp only [qz,qj];refine ⟨_,rfl,fun h=>?_⟩;have c:=(g rfl).2 q0;exact ⟨c.1,c.2,by simpa using h⟩
  · rw [Q8 a];exact ⟨false,rfl,fun h=>by cases h⟩
instance q17h (l : List qf) (p d : qh) (q : Rat) : Decidable (∃ b∈l,q16 (axB b p d) q):=inferInstance
end Go.Sh
namespace Go.Sh
open Go Go.Am
theorem qih {g : Int→Int} {a : Nat} : ∀ n b : Nat,a≤b→b≤n→sumN n (fun k=>ind ((a : Int)≤k∧k < (b : Int)) * g k) = sumN (b - a) (fun k=>g (a + k))
  | 0,b,h1,h2=>by
    obtain rfl : b = 0:=by omega
    obtain rfl : a = 0:=by omega
    rfl
  | n + 1,b,h1,h2=>by
    have e : ∀ f : Int→Int,sumN (n + 1) f = sumN n f + f n:=fun f=>rfl
    rw [e]
    by_cases hb : b≤n
    · rw [qih n b h1 hb,Ko q0];omega
    · obtain rfl : b = n + 1:=by omega
      by_cases d : a≤n
      · rw [q2f (g:=fun k=>ind ((a : Int)≤k∧k < (n : Int)) * g k) (fun k c=>by rw [Ym (q:=(a : Int)≤(k : Int)∧(k : Int) < (n : Int)) q0]),qih n n d q0,Zq q0,show n + 1 - a = (n - a) + 1 by omega]
        show _ = sumN (n - a) _ + g (a + ((n - a : Nat) : Int))
        rw [show (a : Int) + ((n - a : Nat) : Int) = n by omega];omega
      · obtain rfl : a = n + 1:=by omega
        rw [Ko q0,show n + 1 - (n + 1) = 0 by omega,q2f (g:=fun _=>0) (fun k c=>by rw [Ko q0];omega),qef];simp [sumN]
theorem qid {N : Nat} {lo hi : Int} (j : -(N : Int)≤lo) (d : lo≤hi) (l : hi≤N) (f : Int→Int) : sumI lo hi f = sumZ N (fun x=>ind (lo≤x∧x < hi) * f x):=by
  have h:=qih (g:=fun k=>f (k - N)) (a:=(lo + N).toNat) (2 * N) (hi + N).toNat q0 q0;have c : sumN (2 * N) (fun k=>ind (lo≤k - N∧k - N < hi) * f (k - N)) = sumN (2 * N) (fun k=>ind (((lo + N).toNat : Int)≤k∧k < ((hi + N).toNat : Int)) * f (k - N)):=q2f fun k b=>by rw [Ym (p:=lo≤(k : Int) - N∧(k : Int) - N < hi) (q:=((lo + N).toNat : Int)≤(k : Int)∧(k : Int) < ((hi + N).toNat : Int)) q0]
  show _ = sumN (2 * N) (fun k=>ind (lo≤k - N∧k - N < hi) * f (k - N));rw [c,h,show (hi + N).toNat - (lo + N).toNat = (hi - lo).toNat by omega];exact q2f fun k b=>by congr 1;omega
noncomputable def S3 (N : Nat) (F : Int→Int→Int→Int) : Int:=sumZ N fun x=>sumZ N fun y=>sumZ N fun z=>F x y z
def Yb (F : Int→Int→Int→Int) (b : qf) : Int:=sumI b.Lo.X b.Hi.X fun x=>sumI b.Lo.Y b.Hi.Y fun y=>sumI b.Lo.Z b.Hi.Z fun z=>F x y z
theorem qbz {N : Nat} {F G : Int→Int→Int→Int} (h : ∀ x y z : Int,-(N : Int)≤x∧x < N→-(N : Int)≤y∧y < N→-(N : Int)≤z∧z < N→F x y z = G x y z) : S3 N F = S3 N G:=
  Zx fun x d b=>Zx fun y g c=>Zx fun z f a=>h x y z ⟨d,b⟩ ⟨g,c⟩ ⟨f,a⟩
theorem q40 {N : Nat} {F G : Int→Int→Int→Int} : S3 N (fun x y z=>F x y z + G x y z) = S3 N F + S3 N G:=by
  unfold S3;simp only [qq6]
theorem qf3 {N : Nat} {F G : Int→Int→Int→Int} (h : ∀ x y z,F x y z≤G x y z) : S3 N F≤S3 N G:=
  q5r fun x _ _=>q5r fun y _ _=>q5r fun z _ _=>h x y z
theorem qr8 {N : Nat} : S3 N (fun _ _ _=>0) = 0:=by unfold S3;simp only [qei]
theorem qrs {N : Nat} {b : qf} (h : vBN N b) (F : Int→Int→Int→Int) : Yb F b = S3 N (fun x y z=>ind (inB b x y z) * F x y z):=by
  obtain ⟨c,a,d⟩:=h;unfold ltB at c;unfold Yb;rw [qid (N:=N) q0 q0 q0];unfold S3;refine Zx fun x _ _=>?_;rw [qid (N:=N) q0 q0 q0,← Ub];refine Zx fun y _ _=>?_;rw [qid (N:=N) q0 q0 q0,← Ub,← Ub];refine Zx fun z _ _=>?_;show ind (b.Lo.X≤x∧x < b.Hi.X) * (ind (b.Lo.Y≤y∧y < b.Hi.Y) * (ind (b.Lo.Z≤z∧z < b.Hi.Z) * F x y z)) = ind ((b.Lo.X≤x∧x < b.Hi.X)∧(b.Lo.Y≤y∧y < b.Hi.Y)∧(b.Lo.Z≤z∧z < b.Hi.Z)) * F x y z;rw [qgh];grind
theorem q162 {N : Nat} {α : Type} (f : α→Int→Int→Int→Int) (l : List α) : sumL (fun a=>S3 N (f a)) l = S3 N fun x y z=>sumL (fun a=>f a x y z) l:=by
  unfold S3;rw [q5q (N:=N) (fun a x=>sumZ N fun y=>sumZ N fun z=>f a x y z)];refine Zx fun x _ _=>?_;rw [q5q (N:=N) (fun a y=>sumZ N fun z=>f a x y z)];refine Zx fun y _ _=>?_;rw [q5q (N:=N) (fun a z=>f a x y z)]
theorem q163 {α : Type} (c : Int) (f : α→Int) (l : List α) : sumL (fun a=>f a * c) l = sumL f l * c:=by
  rw [Int.mul_comm,← qbm];exact Zw fun a _=>Int.mul_comm _ _
theorem q46 {N : Nat} {l : List qf} (a : ∀ x y z,cntB l x y z = ind (hasB l x y z)) (h : ∀ b∈l,vBN N b) (F : Int→Int→Int→Int) : sumL (Yb F) l = S3 N fun x y z=>ind (hasB l x y z) * F x y z:=by
  rw [Zw fun b hb=>qrs (h b hb) F,q162];refine qbz fun x y z _ _ _=>?_;rw [q163];congr 1;exact a x y z
theorem sum6 (f : Int→Int) : sumI 0 6 f = f 0 + f 1 + f 2 + f 3 + f 4 + f 5:=by
  show ((((((0 : Int) + f (0 + 0)) + f (0 + 1)) + f (0 + 2)) + f (0 + 3)) + f (0 + 4)) + f (0 + 5) = _;rw [show (0 : Int) + 0 = 0 from rfl,show (0 : Int) + 1 = 1 from rfl,show (0 : Int) + 2 = 2 from rfl,show (0 : Int) + 3 = 3 from rfl,show (0 : Int) + 4 = 4 from rfl,show (0 : Int) + 5 = 5 from rfl];omega
theorem q9h (l : List qf) (d : qh) : litN l d = sumL (Yb fun x y z=>sumI 0 6 fun k=>g1F l d ⟨x,y,z⟩ k) l:=rfl
theorem qfn (l : List qf) (d : qh) : Zt l d = sumL (Yb fun x y z=>sumI 0 6 fun k=>g2F l d ⟨x,y,z⟩ k) l:=rfl
theorem qcn {l : List qf} {d : qh} (hs : FitS l d) : (∀ b∈l,vBN 30 b)∧(∀ x y z,cntB l x y z = ind (hasB l x y z)):=by
  obtain ⟨_,a,f⟩:=Jg.1 hs.ck;refine ⟨fun b hb=>?_,fun x y z=>f.cnt x y z⟩;have c:=hs.bx b hb;have g:=(a b hb).1;unfold Ya at c;unfold vBN ltB;omega
theorem qsx (N : Nat) (P : Int→Int→Int→Prop) : cnt3 N P = S3 N fun x y z=>ind (P x y z):=rfl
theorem qya {l : List qf} {d : qh} (hs : FitS l d) : (S3 30 fun x y z=>ind (hasB l x y z) * sumI 0 6 fun k=>ind (K7 l ⟨x,y,z⟩ (wayV k))) = Zb l:=by
  obtain ⟨c,j⟩:=qcn hs;rw [qin j c];unfold q8s;simp only [qsx];rw [← q40,← q40,← q40,← q40,← q40];refine qbz fun x y z _ _ _=>?_;rw [sum6];simp only [q4g];have a : ind (K7 l ⟨x,y,z⟩ (wayV 0)) = ind (¬ hasB l (x + 1) y z):=Ym (by unfold K7;rw [show wayV 0 = ⟨1,0,0⟩ from rfl];simp only [Int.add_zero]);have m : ind (K7 l ⟨x,y,z⟩ (wayV 1)) = ind (¬ hasB l (x - 1) y z):=Ym (by unfold K7;rw [show wayV 1 = ⟨-1,0,0⟩ from rfl];simp only [Int.add_zero];rfl);have b : ind (K7 l ⟨x,y,z⟩ (wayV 2)) = ind (¬ hasB l x (y + 1) z):=Ym (by unfold K7;rw [show wayV 2 = ⟨0,1,0⟩ from rfl];simp only [Int.add_zero]);have f : ind (K7 l ⟨x,y,z⟩ (wayV 3)) = ind (¬ hasB l x (y - 1) z):=Ym (by unfold K7;rw [show wayV 3 = ⟨0,-1,0⟩ from rfl];simp only [Int.add_zero];rfl);have h : ind (K7 l ⟨x,y,z⟩ (wayV 4)) = ind (¬ hasB l x y (z + 1)):=Ym (by unfold K7;rw [show wayV 4 = ⟨0,0,1⟩ from rfl];simp only [Int.add_zero]);have g : ind (K7 l ⟨x,y,z⟩ (wayV 5)) = ind (¬ hasB l x y (z - 1)):=Ym (by unfold K7;rw [show wayV 5 = ⟨0,0,-1⟩ from rfl];simp only [Int.add_zero];rfl);rw [a,m,b,f,h,g];grind
theorem g12 (l : List qf) (d v : qh) (k : Int) : g1F l d v k + g2F l d v k = ind (K7 l v (wayV k)):=by
  unfold g1F g2F;by_cases h : K7 l v (wayV k)
  · cases hb : Yu l v (wayV k) d with
    | true=>rw [Zq ⟨h,rfl⟩,Ko qe,Zq h];rfl
    | false=>rw [Ko qe,Zq ⟨h,rfl⟩,Zq h];rfl
  · rw [Ko (fun q=>h q.1),Ko (fun q=>h q.1),Ko h];rfl
def negV (d : qh) : qh:=⟨-1 * d.X,-1 * d.Y,-1 * d.Z⟩
theorem g11 (l : List qf) (d v : qh) (k : Int) : g1F l d v k + g1F l (negV d) v k≤ind (K7 l v (wayV k)):=by
  unfold g1F;by_cases h : K7 l v (wayV k)
  · rw [Zq h];have hd : dotV (wayV k) (negV d) = - dotV (wayV k) d:=by unfold dotV negV;simp only;grind
    by_cases a : 0 < dotV (wayV k) d
    · have : Yu l v (wayV k) (negV d) = false:=by unfold Yu;rw [hd,Q8 q0];rfl
      rw [this];have:=(Jm (p:=K7 l v (wayV k)∧Yu l v (wayV k) d = true)).2;rw [Ko (p:=K7 l v (wayV k)∧false = true) qe];omega
    · have : Yu l v (wayV k) d = false:=by unfold Yu;rw [Q8 a];rfl
      rw [this];have:=(Jm (p:=K7 l v (wayV k)∧Yu l v (wayV k) (negV d) = true)).2;rw [Ko (p:=K7 l v (wayV k)∧false = true) qe];omega
  · rw [Ko (fun q=>h q.1),Ko (fun q=>h q.1),Ko h];decide
theorem qls (l : List qf) (d v : qh) (k : Int) : 0≤g1F l d v k:=(Jm).1
theorem quy (l : List qf) (d v : qh) (k : Int) : 0≤g2F l d v k:=(Jm).1
theorem qmg {p : Prop} {a b : Int} (h : a≤b) : ind p * a≤ind p * b:=by
  by_cases hp : p
  · rw [Zq hp];omega
  · rw [Ko hp];omega
theorem qw8 {l : List qf} {d : qh} (hs : FitS l d) : litN l d + Zt l d = Zb l∧litN l d + litN l (negV d)≤Zb l∧0≤litN l d∧0≤Zt l d∧0≤litN l (negV d)∧Zb l≤1296000:=by
  obtain ⟨f,j⟩:=qcn hs;rw [q9h,qfn,q9h,q46 j f,q46 j f,q46 j f,← qya hs]
  have g : ∀ F : Int→Int→Int→Int,(∀ x y z,0≤F x y z)→0≤S3 30 F:=fun F h=>by
    have:=qf3 (N:=30) (F:=fun _ _ _=>0) (G:=F) h;rw [qr8] at this;exact this
  have c : ∀ (p : Prop) (a : Int),0≤a→0≤ind p * a:=fun p a h=>Int.mul_nonneg (Jm).1 h;refine ⟨?_,?_,?_,?_,?_,?_⟩
  · rw [← q40];refine qbz fun x y z _ _ _=>?_;rw [← Int.mul_add,sum6,sum6,sum6];congr 1;have e:=fun k=>g12 l d ⟨x,y,z⟩ k;have:=e 0;have:=e 1;have:=e 2;have:=e 3;have:=e 4;have:=e 5;omega
  · rw [← q40];refine qf3 fun x y z=>?_;rw [← Int.mul_add,sum6,sum6,sum6];refine qmg ?_;have e:=fun k=>g11 l d ⟨x,y,z⟩ k;have:=e 0;have:=e 1;have:=e 2;have:=e 3;have:=e 4;have:=e 5;omega
  · refine g _ fun x y z=>c _ _ ?_;rw [sum6];have e:=fun k=>qls l d ⟨x,y,z⟩ k;have:=e 0;have:=e 1;have:=e 2;have:=e 3;have:=e 4;have:=e 5;omega
  · refine g _ fun x y z=>c _ _ ?_;rw [sum6];have e:=fun k=>quy l d ⟨x,y,z⟩ k;have:=e 0;have:=e 1;have:=e 2;have:=e 3;have:=e 4;have:=e 5;omega
  · refine g _ fun x y z=>c _ _ ?_;rw [sum6];have e:=fun k=>qls l (negV d) ⟨x,y,z⟩ k;have:=e 0;have:=e 1;have:=e 2;have:=e 3;have:=e 4;have:=e 5;omega
  · have m:=qf3 (N:=30) (F:=fun x y z=>ind (hasB l x y z) * sumI 0 6 fun k=>ind (K7 l ⟨x,y,z⟩ (wayV k))) (G:=fun _ _ _=>6) fun x y z=>by
      rw [sum6];have e:=fun k=>(Jm (p:=K7 l ⟨x,y,z⟩ (wayV k))).2;have:=e 0;have:=e 1;have:=e 2;have:=e 3;have:=e 4;have:=e 5;have:=qmg (p:=hasB l x y z) (a:=ind (K7 l ⟨x,y,z⟩ (wayV 0)) + ind (K7 l ⟨x,y,z⟩ (wayV 1)) + ind (K7 l ⟨x,y,z⟩ (wayV 2)) + ind (K7 l ⟨x,y,z⟩ (wayV 3)) + ind (K7 l ⟨x,y,z⟩ (wayV 4)) + ind (K7 l ⟨x,y,z⟩ (wayV 5))) (b:=6) q0;have:=(Jm (p:=hasB l x y z)).2;omega
    have : S3 30 (fun _ _ _=>(6 : Int)) = 1296000:=by unfold S3;simp only [qeg];rfl
    omega
theorem q2e {lo hi c : Int} (h : lo≤hi) : sumI lo hi (fun _=>c) = (hi - lo) * c:=by
  have key : ∀ n : Nat,sumN n (fun _=>c) = n * c:=by
    intro n
    induction n with
    | zero=>show (0 : Int) = ((0 : Nat) : Int) * c;simp
    | succ n ih=>
      show sumN n (fun _=>c) + c = _;rw [ih,show ((n + 1 : Nat) : Int) = (n : Int) + 1 by omega,Int.add_mul];omega
  unfold sumI;rw [key];congr 1;omega
theorem qic {lo hi c : Int} (h : lo≤c∧c < hi) : sumI lo hi (fun x=>ind (x = c)) = 1:=by
  unfold sumI;rw [q2f (g:=fun k=>ind (c - lo≤k∧k < c - lo + 1)) (fun k _=>Ym q0),qif];omega
theorem qpy {lo hi c : Int} {f : Int→Int} : sumI lo hi (fun x=>c * f x) = c * sumI lo hi f:=qig
theorem q8y {b : qf} {F G : Int→Int→Int→Int} : Yb (fun x y z=>F x y z + G x y z) b = Yb F b + Yb G b:=by
  unfold Yb sumI;simp only [qee]
theorem qrt {b : qf} {F G : Int→Int→Int→Int} (h : ∀ x y z,inB b x y z→F x y z = G x y z) : Yb F b = Yb G b:=
  qib fun x f c=>qib fun y j d=>qib fun z g a=>h x y z ⟨⟨f,c⟩,⟨j,d⟩,g,a⟩
theorem qjl {b : qf} (hb : ltB b) {c : Int} (a : b.Lo.X≤c∧c < b.Hi.X) : Yb (fun x _ _=>ind (x = c)) b = (b.Hi.Y - b.Lo.Y) * (b.Hi.Z - b.Lo.Z):=by
  unfold ltB at hb;unfold Yb
  have e : ∀ x,(sumI b.Lo.Y b.Hi.Y fun _=>sumI b.Lo.Z b.Hi.Z fun _=>ind (x = c)) = ((b.Hi.Y - b.Lo.Y) * (b.Hi.Z - b.Lo.Z)) * ind (x = c):=fun x=>by
    rw [q2e q0,q2e q0];grind
  simp only [e];rw [qpy,qic a];omega
theorem qjm {b : qf} (hb : ltB b) {c : Int} (a : b.Lo.Y≤c∧c < b.Hi.Y) : Yb (fun _ y _=>ind (y = c)) b = (b.Hi.X - b.Lo.X) * (b.Hi.Z - b.Lo.Z):=by
  unfold ltB at hb;unfold Yb;have e : ∀ y,(sumI b.Lo.Z b.Hi.Z fun _=>ind (y = c)) = (b.Hi.Z - b.Lo.Z) * ind (y = c):=fun y=>q2e q0;simp only [e];rw [q2e q0,qpy,qic a];grind
theorem qjn {b : qf} (hb : ltB b) {c : Int} (a : b.Lo.Z≤c∧c < b.Hi.Z) : Yb (fun _ _ z=>ind (z = c)) b = (b.Hi.X - b.Lo.X) * (b.Hi.Y - b.Lo.Y):=by
  unfold ltB at hb;show (sumI b.Lo.X b.Hi.X fun _=>sumI b.Lo.Y b.Hi.Y fun _=>sumI b.Lo.Z b.Hi.Z fun z=>ind (z = c)) = _;rw [qic a,q2e q0,q2e q0];grind
theorem qrr {b : qf} (hb : ltB b) : Yb (fun _ _ _=>0) b = 0:=by
  unfold ltB at hb;unfold Yb;rw [q2e q0,q2e q0,q2e q0];simp
theorem qv8 {b : qf} {x y z : Int} : hasB [b] x y z↔inB b x y z:=by rw [qm1];simp [qcr]
theorem qyc {b : qf} {p d : qh} (l : nzV d) (h : (2 * b.Hi.X≤p.X∧0 < d.X)∨(p.X≤2 * b.Lo.X∧d.X < 0)∨(2 * b.Hi.Y≤p.Y∧0 < d.Y)∨(p.Y≤2 * b.Lo.Y∧d.Y < 0)∨(2 * b.Hi.Z≤p.Z∧0 < d.Z)∨(p.Z≤2 * b.Lo.Z∧d.Z < 0)) : ¬ blk [b] p d:=by
  rw [qrq l];rintro ⟨c,v,t,r,f⟩;simp only [List.mem_singleton] at v;subst v;rw [qcy] at f;obtain ⟨s,o,n⟩:=f
  have up : ∀ {lo hi q e : Int},inAx lo hi q e t→2 * hi≤q→0 < e→False:=by
    intro lo hi q e f g a;have k : (0 : Rat) < (e : Rat):=by exact_mod_cast a
    have u:=Rat.mul_pos k r;have m : ((2 * hi - q : Int) : Rat)≤((0 : Int) : Rat):=qcv.2 q0;rw [show ((0 : Int) : Rat) = 0 from rfl] at m;have:=f.2;grind
  have j : ∀ {lo hi q e : Int},inAx lo hi q e t→q≤2 * lo→e < 0→False:=by
    intro lo hi q e f g a;have k : (0 : Rat) < ((-e : Int) : Rat):=by exact_mod_cast (by omega : (0 : Int) < -e)
    have u:=Rat.mul_pos k r;rw [Rat.intCast_neg] at u;have m : ((0 : Int) : Rat)≤((2 * lo - q : Int) : Rat):=qcv.2 q0;rw [show ((0 : Int) : Rat) = 0 from rfl] at m;have:=f.1;grind
  rcases h with ⟨g,a⟩ | ⟨g,a⟩ | ⟨g,a⟩ | ⟨g,a⟩ | ⟨g,a⟩ | ⟨g,a⟩
  · exact up s g a
  · exact j s g a
  · exact up o g a
  · exact j o g a
  · exact up n g a
  · exact j n g a
theorem qux {b : qf} {d : qh} (hb : ltB b) (j : nzV d) (x y z : Int) (h : inB b x y z) :
    g1F [b] d ⟨x,y,z⟩ 0 = (if 0 < d.X then ind (x = b.Hi.X - 1) else 0)∧g1F [b] d ⟨x,y,z⟩ 1 = (if d.X < 0 then ind (x = b.Lo.X) else 0)∧
    g1F [b] d ⟨x,y,z⟩ 2 = (if 0 < d.Y then ind (y = b.Hi.Y - 1) else 0)∧g1F [b] d ⟨x,y,z⟩ 3 = (if d.Y < 0 then ind (y = b.Lo.Y) else 0)∧
    g1F [b] d ⟨x,y,z⟩ 4 = (if 0 < d.Z then ind (z = b.Hi.Z - 1) else 0)∧g1F [b] d ⟨x,y,z⟩ 5 = (if d.Z < 0 then ind (z = b.Lo.Z) else 0):=by
  have key : ∀ (k : Int) (w : qh) (q r : Prop) [Decidable r],wayV k = w→(0 < dotV w d↔r)→(K7 [b] ⟨x,y,z⟩ w↔q)→(r→q→¬ blk [b] (J2 ⟨x,y,z⟩ w) d)→g1F [b] d ⟨x,y,z⟩ k = if r then ind q else 0:=by
    intro k w q r _ m l hq f;unfold g1F Yu;rw [m];by_cases g : r
    · rw [qq g];refine Ym ?_;rw [hq,Qb (l.2 g)];constructor
      · exact fun a=>a.1
      · intro a;exact ⟨a,by rw [Q8 (f g a)];rfl⟩
    · rw [qs g];refine Ko fun a=>?_;rw [Q8 (fun c=>g (l.1 c))] at a;exact absurd a.2 qe
  unfold inB at h;unfold ltB at hb;refine ⟨key 0 ⟨1,0,0⟩ _ _ rfl ?_ ?_ ?_,key 1 ⟨-1,0,0⟩ _ _ rfl ?_ ?_ ?_,key 2 ⟨0,1,0⟩ _ _ rfl ?_ ?_ ?_,key 3 ⟨0,-1,0⟩ _ _ rfl ?_ ?_ ?_,key 4 ⟨0,0,1⟩ _ _ rfl ?_ ?_ ?_,key 5 ⟨0,0,-1⟩ _ _ rfl ?_ ?_ ?_⟩
  all_goals first
    | (unfold dotV;simp only;omega)
    | (unfold K7;rw [qv8];unfold inB;simp only;omega)
    | (intro n o;refine qyc j ?_;unfold J2;simp only;omega)
theorem qw7 {b : qf} {d : qh} (hb : ltB b) (p : nzV d) : litN [b] d = (if d.X = 0 then 0 else (b.Hi.Y - b.Lo.Y) * (b.Hi.Z - b.Lo.Z)) + (if d.Y = 0 then 0 else (b.Hi.X - b.Lo.X) * (b.Hi.Z - b.Lo.Z)) + (if d.Z = 0 then 0 else (b.Hi.X - b.Lo.X) * (b.Hi.Y - b.Lo.Y)):=by
  have o:=hb;unfold ltB at o;rw [q9h];show Yb _ b + 0 = _
  rw [qrt (G:=fun x y z=>((((((if 0 < d.X then ind (x = b.Hi.X - 1) else 0) + (if d.X < 0 then ind (x = b.Lo.X) else 0)) + (if 0 < d.Y then ind (y = b.Hi.Y - 1) else 0)) + (if d.Y < 0 then ind (y = b.Lo.Y) else 0)) + (if 0 < d.Z then ind (z = b.Hi.Z - 1) else 0)) + (if d.Z < 0 then ind (z = b.Lo.Z) else 0))) (fun x y z h=>by
    obtain ⟨a0,a1,a2,s,v,t⟩:=qux hb p x y z h
    rw [sum6,a0,a1,a2,s,v,t])]
  rw [q8y,q8y,q8y,q8y,q8y];have f:=qrr hb;have k:=qjl hb (c:=b.Hi.X - 1) q0;have q:=qjl hb (c:=b.Lo.X) q0;have n:=qjm hb (c:=b.Hi.Y - 1) q0;have m:=qjm hb (c:=b.Lo.Y) q0;have j:=qjn hb (c:=b.Hi.Z - 1) q0;have l:=qjn hb (c:=b.Lo.Z) q0
  have r : Yb (fun x y z=>if 0 < d.X then ind (x = b.Hi.X - 1) else 0) b + Yb (fun x y z=>if d.X < 0 then ind (x = b.Lo.X) else 0) b = if d.X = 0 then 0 else (b.Hi.Y - b.Lo.Y) * (b.Hi.Z - b.Lo.Z):=by
    by_cases a : 0 < d.X
    · simp only [a,if_true,show ¬ d.X < 0 by omega,if_false,show ¬ d.X = 0 by omega,f,k];omega
    · by_cases g : d.X < 0
      · simp only [a,if_false,g,if_true,show ¬ d.X = 0 by omega,f,q];omega
      · rw [qq (show d.X = 0 by omega)];simp only [a,g,if_false,f];omega
  have u : Yb (fun x y z=>if 0 < d.Y then ind (y = b.Hi.Y - 1) else 0) b + Yb (fun x y z=>if d.Y < 0 then ind (y = b.Lo.Y) else 0) b = if d.Y = 0 then 0 else (b.Hi.X - b.Lo.X) * (b.Hi.Z - b.Lo.Z):=by
    by_cases a : 0 < d.Y
    · simp only [a,if_true,show ¬ d.Y < 0 by omega,if_false,show ¬ d.Y = 0 by omega,f,n];omega
    · by_cases g : d.Y < 0
      · simp only [a,if_false,g,if_true,show ¬ d.Y = 0 by omega,f,m];omega
      · rw [qq (show d.Y = 0 by omega)];simp only [a,g,if_false,f];omega
  have hZ : Yb (fun x y z=>if 0 < d.Z then ind (z = b.Hi.Z - 1) else 0) b + Yb (fun x y z=>if d.Z < 0 then ind (z = b.Lo.Z) else 0) b = if d.Z = 0 then 0 else (b.Hi.X - b.Lo.X) * (b.Hi.Y - b.Lo.Y):=by
    by_cases a : 0 < d.Z
    · simp only [a,if_true,show ¬ d.Z < 0 by omega,if_false,show ¬ d.Z = 0 by omega,f,j];omega
    · by_cases g : d.Z < 0
      · simp only [a,if_false,g,if_true,show ¬ d.Z = 0 by omega,f,l];omega
      · rw [qq (show d.Z = 0 by omega)];simp only [a,g,if_false,f];omega
  rw [← r,← u,← hZ];omega
theorem q17q (l : List qf) (d : qh) : qcz l d = some true:=by
  unfold qcz;obtain ⟨b,hb,p⟩:=ql5 l d;rw [qj5,qj,hb,qj]
  cases b with
  | false=>rfl
  | true=>
    obtain ⟨h6,t,u⟩:=p rfl;have hs:=q2o u;have q:=hs.dr;unfold dirV at q
    have o : q26 (-1) d = some (negV d):=by
      unfold q26 negV;rw [qv q0,qv q0,qv q0]
    have j : chkF l (negV d) = 0:=qcc hs.ck (fun b hb=>by have:=t b hb;unfold inV at *;omega) ⟨by unfold inV negV;simp only;omega,by have:=hs.nz;unfold nzV at *;unfold negV;simp only;omega⟩;obtain ⟨s1,s2,s3,s4,s5,s6⟩:=qw8 hs
    have v : U4 l d = (litN l d,Zt l d,0):=by
      unfold U4;rw [qs (by simpa using u),qv q0,qv q0]
    have k2 : U4 l (negV d) = (litN l (negV d),w64 (Zt l (negV d)),0):=by
      unfold U4;rw [qs (by simpa using j),qv q0]
    have k3 : qep l = (Zb l,0):=by unfold qep;rw [qs (by simpa using hs.ck)]
    refine bnd (a:=false) rfl ?_;rw [qy];refine bnd ((qbn _ _).trans (congrArg some v)) ?_;refine bnd o ?_;refine bnd ((qbn _ _).trans (congrArg some k2)) ?_;refine bnd ((q153 _).trans (congrArg some k3)) ?_;refine bnd (a:=false) rfl ?_;refine bnd (a:=false) rfl ?_;refine bnd (a:=false) (by rw [qy,qv (show -9223372036854775808≤litN l d + Zt l d∧litN l d + Zt l d≤9223372036854775807 by omega),s1];simp) ?_;refine bnd (a:=false) (by rw [qy,qv (show -9223372036854775808≤litN l d + litN l (negV d)∧litN l d + litN l (negV d)≤9223372036854775807 by omega)];simp only [Option.some.injEq,decide_eq_false_iff_not];omega) ?_;rw [qy];by_cases s : l.length = 1
    · obtain ⟨b,rfl⟩ : ∃ b,l = [b]:=by
        cases l with
        | nil=>cases s
        | cons b r=>cases r with
          | nil=>exact ⟨b,rfl⟩
          | cons c r=>simp at s
      have m:=t b qe;have f : ltB b:=((Jg.1 hs.ck).2.1 b qe).1;unfold inV at m;have g:=f;unfold ltB at g;have m1:=mulb (x:=b.Hi.Y - b.Lo.Y) (A:=18) (y:=b.Hi.Z - b.Lo.Z) (B:=18) q0 q0;have z:=mulb (x:=b.Hi.X - b.Lo.X) (A:=18) (y:=b.Hi.Z - b.Lo.Z) (B:=18) q0 q0;have m3:=mulb (x:=b.Hi.X - b.Lo.X) (A:=18) (y:=b.Hi.Y - b.Lo.Y) (B:=18) q0 q0;rw [show (([b] : List qf).length : Int) = 1 from rfl,show ((1 : Int) != 1) = false from rfl,qy];simp only [show idx [b] 0 = some b from rfl,qj];rw [qv (x:=b.Hi.Y - b.Lo.Y) q0,qv (x:=b.Hi.Z - b.Lo.Z) q0,qv (x:=b.Hi.X - b.Lo.X) q0,qv (x:=(b.Hi.Y - b.Lo.Y) * (b.Hi.Z - b.Lo.Z)) q0,qv (x:=(b.Hi.X - b.Lo.X) * (b.Hi.Z - b.Lo.Z)) q0,qv (x:=(b.Hi.X - b.Lo.X) * (b.Hi.Y - b.Lo.Y)) q0];rw [qw7 f hs.nz];generalize (b.Hi.Y - b.Lo.Y) * (b.Hi.Z - b.Lo.Z) = A at m1;generalize (b.Hi.X - b.Lo.X) * (b.Hi.Z - b.Lo.Z) = B at z;generalize (b.Hi.X - b.Lo.X) * (b.Hi.Y - b.Lo.Y) = C at m3
      have q1 : ((cond (d.X != 0) (some (w64 (0 + A))) (some 0)) : Option Int) = some (if d.X = 0 then 0 else A):=by
        by_cases h : d.X = 0
        · rw [qq h,h];rfl
        · rw [qs h,show (d.X != 0) = true by simpa using h,qz,qv q0,Int.zero_add]
      rw [q1,qj];have k : -324≤(if d.X = 0 then 0 else A)∧(if d.X = 0 then 0 else A)≤324:=by split <;> omega
      generalize (if d.X = 0 then 0 else A) = A' at k
      have q2 : ((cond (d.Y != 0) (some (w64 (A' + B))) (some A')) : Option Int) = some (A' + if d.Y = 0 then 0 else B):=by
        by_cases h : d.Y = 0
        · rw [qq h,h,Int.add_zero];rfl
        · rw [qs h,show (d.Y != 0) = true by simpa using h,qz,qv q0]
      rw [q2,qj];have n : -324≤(if d.Y = 0 then 0 else B)∧(if d.Y = 0 then 0 else B)≤324:=by split <;> omega
      generalize (if d.Y = 0 then 0 else B) = B' at n
      have q3 : ((cond (d.Z != 0) (some (w64 (A' + B' + C))) (some (A' + B'))) : Option Int) = some (A' + B' + if d.Z = 0 then 0 else C):=by
        by_cases h : d.Z = 0
        · rw [qq h,h,Int.add_zero];rfl
        · rw [qs h,show (d.Z != 0) = true by simpa using h,qz,qv q0]
      rw [q3,qj];simp
    · rw [show ((l.length : Int) != 1) = true by simp;omega];rfl
end Go.Sh
