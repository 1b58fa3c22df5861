/- W_Alld -/
import Derived.Test.YtmnfbjlabfeneaaGreatK17
namespace Go.Proofs.YtmnfbjlabfeneaaGreat
open Go Go.Am Go.Sh
set_option maxHeartbeats 8000000
set_option maxRecDepth 100000
theorem qy2 (a : List qh) (b : qg) (r : Int × Int × Int) (j : qan a b = some r) : Pure Tryz.prog tab 16 [.sl 6 (a.map Q1),.agg (Qh b)] (.tup [qd r.1,qd r.2.1,qd r.2.2]):=by
 unfold qan at j;refine Qm Tryz.func16 J qi qi J<|qc<|Qj _ _ J<|qa J<|qa J<|qa J<|q8<|qf<|qc<|U J<|O _ J<|q7 j fun r1 h2 j=>qv (q5k a b r1 h2) J<|O _ J<|q8 ?_;refine qm J j (fun _ j=>?_) (fun _ j=>?_)
 ·refine qc<|U J<|O _ J<|q7 j fun r5 h6 j=>qv (q5k a b r5 h6) J<|qa J<|qa J<|qa J<|qw ?_;cases j;exact Q8 _ J
 refine qn<|qc<|qa J<|qa J<|q8<|qf<|qc<|qa J<|q8<|q7 j fun ae aj j=>?_;refine Qn (fun t=>t = ae) (fun t=>⟨[(7,q9 t.1),(8,q9 t.2)],[],0⟩) qe ?_ ?_
 ·refine Ql (q2l a b) (fun f=>⟨[(0,.d (.sl 6 (a.map Q1))),(3,.ref 0 3 0 0),(7,q9 f.1),(8,q9 f.2.1),(9,q9 f.2.2)],[(0,.dat 3 [(Qh b)])],1⟩) _ ae aj (wkA [(0,0)] [] []) ?_;intro f be m;unfold q2l at m;refine qf<|qc<|U J<|U J<|K1 J<|O _ J<|q8 ?_;refine qm J m (fun _ m=>?_) (fun _ m=>?_)
  ·refine qn<|qf<|q7 m fun ak u m=>?_;refine Qn (fun v=>v = ak) (fun v=>⟨[(0,.d (.sl 6 (a.map Q1))),(3,.ref 0 3 0 0),(7,q9 v.1),(8,q9 v.2),(9,q9 f.2.2)],[(0,.dat 3 [(Qh b)])],1⟩) qe ?_ ?_
   ·refine qc<|U J<|U J<|q7 u fun k al u=>Qq al J<|O _ J<|Qt J J<|Qd 1 _ J<|qx<|O _ J<|O _ J<|O _ J<|qa J<|q8<|q7 u fun am an u=>Qc<|Ql (q2m k a b) (fun c=>⟨[(0,.d (.sl 6 (a.map Q1))),(3,.ref 0 3 0 0),(7,q9 c.1),(8,q9 c.2.1),(9,q9 f.2.2),(10,.ref 1 6 0 0),(11,q9 c.2.2)],[(0,.dat 3 [(Qh b)]),(1,.dat 6 [(Q1 k)])],2⟩) _ am an (wkA [(0,0),(1,1)] [] []) ?_;intro c bf n;unfold q2m at n;refine qf<|qc<|U J<|O _ J<|O _ J<|O _ J<|O _ J<|q8 ?_;refine qm J n (fun _ n=>?_) (fun _ n=>?_)
    ·refine qn<|qf<|q7 n fun ao ab n=>?_;refine Qn (fun x=>x = ao) (fun x=>⟨[(0,.d (.sl 6 (a.map Q1))),(3,.ref 0 3 0 0),(7,q9 x.1),(8,q9 x.2),(9,q9 f.2.2),(10,.ref 1 6 0 0),(11,q9 c.2.2)],[(0,.dat 3 [(Qh b)]),(1,.dat 6 [(Q1 k)])],2⟩) qe ?_ ?_
     ·refine qc<|O _ J<|O _ J<|O _ J<|qa J<|q8<|q7 ab fun ap aq ab=>Qc<|Ql (q2n k a c b) (fun g=>⟨[(0,.d (.sl 6 (a.map Q1))),(3,.ref 0 3 0 0),(7,q9 g.1),(8,q9 g.2.1),(9,q9 f.2.2),(10,.ref 1 6 0 0),(11,q9 c.2.2),(12,q9 g.2.2)],[(0,.dat 3 [(Qh b)]),(1,.dat 6 [(Q1 k)])],2⟩) _ ap aq (wkA [(0,0),(1,1)] [] []) ?_;intro g bg o;unfold q2n at o;refine qf<|qc<|U J<|O _ J<|O _ J<|O _ J<|O _ J<|q8 ?_;refine qm J o (fun _ o=>?_) (fun _ o=>?_)
      ·refine qn<|qf<|q7 o fun ar ac o=>?_;refine Qn (fun y=>y = ar) (fun y=>⟨[(0,.d (.sl 6 (a.map Q1))),(3,.ref 0 3 0 0),(7,q9 y.1),(8,q9 y.2),(9,q9 f.2.2),(10,.ref 1 6 0 0),(11,q9 c.2.2),(12,q9 g.2.2)],[(0,.dat 3 [(Qh b)]),(1,.dat 6 [(Q1 k)])],2⟩) qe ?_ ?_
       ·refine qc<|O _ J<|O _ J<|O _ J<|qa J<|q8<|q7 ac fun au av ac=>Qc<|Ql (q2o k a c g b) (fun l=>⟨[(0,.d (.sl 6 (a.map Q1))),(3,.ref 0 3 0 0),(7,q9 l.1),(8,q9 l.2.1),(9,q9 f.2.2),(10,.ref 1 6 0 0),(11,q9 c.2.2),(12,q9 g.2.2),(13,q9 l.2.2)],[(0,.dat 3 [(Qh b)]),(1,.dat 6 [(Q1 k)])],2⟩) _ au av (wkA [(0,0),(1,1)] [] []) ?_;intro l bh p;unfold q2o at p;refine qf<|qc<|U J<|O _ J<|O _ J<|O _ J<|O _ J<|q8 ?_;refine qm J p (fun _ p=>?_) (fun _ p=>?_)
        ·refine qn<|qf<|q7 p fun aw ad p=>?_;refine Qn (fun z=>z = aw) (fun z=>⟨[(0,.d (.sl 6 (a.map Q1))),(3,.ref 0 3 0 0),(7,q9 z.1),(8,q9 z.2),(9,q9 f.2.2),(10,.ref 1 6 0 0),(11,q9 c.2.2),(12,q9 g.2.2),(13,q9 l.2.2)],[(0,.dat 3 [(Qh b)]),(1,.dat 6 [(Q1 k)])],2⟩) qe ?_ ?_
         ·refine qc<|qa J<|q8<|q7 ad fun ax ay ad=>Qc<|Ql (q2p a c g l b) (fun s=>⟨[(0,.d (.sl 6 (a.map Q1))),(3,.ref 0 3 0 0),(7,q9 s.1),(8,q9 s.2.1),(9,q9 f.2.2),(10,.ref 1 6 0 0),(11,q9 c.2.2),(12,q9 g.2.2),(13,q9 l.2.2),(14,q9 s.2.2)],[(0,.dat 3 [(Qh b)]),(1,.dat 6 [(Q1 k)])],2⟩) _ ax ay (wkA [(0,0),(1,1)] [] []) ?_;intro s bi q;unfold q2p at q;refine qf<|qc<|U J<|O _ J<|q8 ?_;refine qm J q (fun _ q=>?_) (fun _ q=>?_)
          ·refine qn<|qf<|q7 q fun az h q=>?_;refine Qn (fun aa=>aa = az) (fun aa=>⟨[(0,.d (.sl 6 (a.map Q1))),(3,.ref 0 3 0 0),(7,q9 aa.1),(8,q9 aa.2),(9,q9 f.2.2),(10,.ref 1 6 0 0),(11,q9 c.2.2),(12,q9 g.2.2),(13,q9 l.2.2),(14,q9 s.2.2)],[(0,.dat 3 [(Qh b)]),(1,.dat 6 [(Q1 k)])],2⟩) qe ?_ ?_
           ·refine qc<|U J<|U J<|U J<|O _ J<|Qt J J<|Qd 2 _ J<|q8<|qf<|qc<|U J<|O _ J<|U J<|q7 h fun ba bb h=>qv (qo9 a ({X:=c.2.2,Y:=g.2.2,Z:=l.2.2} : qg) s.2.2 ba bb) J<|O _ J<|q8 ?_;refine qm J h (fun _ h=>?_) (fun _ h=>?_)
            ·refine Qf ?_;obtain rfl:=Q0 h;exact ⟨_,J,wkA [(0,0),(1,1)] [] []⟩
            refine qn<|qc<|U J<|O _ J<|U J<|O _ J<|q7 h fun bc bd h=>qv (qof a ({X:=c.2.2,Y:=g.2.2,Z:=l.2.2} : qg) s.2.2 b bc bd) J<|q8 ?_;refine qm J h (fun _ h=>?_) (fun _ h=>?_)
            ·refine Q6<|U J<|O _ J<|qa J<|Q4 ?_;obtain rfl:=Q0 h;exact ⟨_,J,wkA [(0,0),(1,1)] [] []⟩
            refine Q6<|U J<|O _ J<|qa J<|Q4 ?_;obtain rfl:=Q0 h;exact ⟨_,J,wkA [(0,0),(1,1)] [] []⟩
           intro aa hb;subst hb;refine Q6<|U J<|O _ J<|qa J<|Q4<|⟨_,qt q,wkA [(0,0),(1,1)] [] []⟩
          refine Qf ?_;refine ⟨_,qt q,fun hm=>?_⟩;subst hm;obtain rfl:=Q0 ad;exact ⟨_,J,wkA [(0,0),(1,1)] [] []⟩
         intro z hb;subst hb;refine Q6<|U J<|O _ J<|qa J<|Q4<|⟨_,qt p,wkA [(0,0),(1,1)] [] []⟩
        refine Qf ?_;refine ⟨_,qt p,fun hm=>?_⟩;subst hm;obtain rfl:=Q0 ac;exact ⟨_,J,wkA [(0,0),(1,1)] [] []⟩
       intro y hb;subst hb;refine Q6<|U J<|O _ J<|qa J<|Q4<|⟨_,qt o,wkA [(0,0),(1,1)] [] []⟩
      refine Qf ?_;refine ⟨_,qt o,fun hm=>?_⟩;subst hm;obtain rfl:=Q0 ab;exact ⟨_,J,wkA [(0,0),(1,1)] [] []⟩
     intro x hb;subst hb;refine Q6<|U J<|O _ J<|qa J<|Q4<|⟨_,qt n,wkA [(0,0),(1,1)] [] []⟩
    refine Qf ?_;refine ⟨_,qt n,fun hm=>?_⟩;subst hm;obtain rfl:=Q0 u;exact ⟨_,J,wkA [(0,0)] [] []⟩
   intro v hb;subst hb;refine Q6<|U J<|O _ J<|qa J<|Q4<|⟨_,qt m,wkA [(0,0)] [] []⟩
  refine Qf ?_;refine ⟨_,qt m,fun hm=>?_⟩;subst hm;exact ⟨_,J,wkA [] [] []⟩
 intro t hb;subst hb;refine qc<|U J<|U J<|qa J<|qa J<|qa J<|qw ?_;cases j;exact Q8 _ J
theorem q15k (b : List qh) (k : qg) (l : Int) (d : qg) (r : Bool) (a : qdk b k l d = some r) : Pure Tryz.prog tab 3 [.sl 6 (b.map Q1),.agg (Qh k),.int .u8 l,.agg (Qh d)] (.bool r):=by
 unfold qdk at a;refine Qm Tryz.func3 J qi qi J<|qc<|Qj _ _ J<|Qj _ _ J<|qa J<|q8<|qf<|qc<|U J<|q7 a fun r1 h2 a=>qv (qi1 b r1 h2) J<|O _ J<|q8 ?_;refine qm J a (fun _ a=>?_) (fun _ a=>?_)
 ·refine qc<|qa J<|qw ?_;cases a;exact Q8 _ J
 refine qn<|qc<|U J<|q7 a fun m h4 a=>qv (qxw b m h4) J<|qa J<|qx<|U J<|O _ J<|U J<|O _ J<|q7 a fun r5 h6 a=>qv (qcb m k l d r5 h6) J<|U J<|O _ J<|O _ J<|qa J<|qa J<|qx<|U J<|O _ J<|U J<|O _ J<|q7 a fun r7 h8 a=>qv (qy6 b k l d r7 h8) J<|U J<|O _ J<|O _ J<|qa J<|qa J<|qx<|U J<|O _ J<|q7 a fun r9 ar a=>qv (qf3 m d r9 ar) J<|U J<|O _ J<|O _ J<|O _ J<|qa J ?_;refine qa J<|qa J<|qx<|U J<|O _ J<|q7 a fun au av a=>qv (qy2 b d au av) J<|U J<|O _ J<|O _ J<|O _ J<|qa J<|qa J<|qa J<|qx<|U J<|U J<|O _ J<|q7 a fun aw f a=>?_;refine Q9 5 (fun A st=>∃ n o p q,st = A [(62,ql aw),(61,q),(60,p),(59,o),(58,n)]) ?_ ?_
 ·refine Qa J J f (fun f=>?_) (fun f=>?_)
  ·refine U J<|U J<|O _ J<|O _ J<|q8 ?_;cases f;exact ⟨_,_,_,_,J⟩
  refine qb J<|qb J<|qb J<|O _ J<|q8 ?_;cases f;exact ⟨_,_,_,_,J⟩
 rintro _ ⟨n,o,p,q,rfl⟩;refine q7 a fun ax g a=>?_;refine Q9 5 (fun A st=>∃ s t u v,st = A [(67,ql ax),(66,v),(65,u),(64,t),(63,s)]) ?_ ?_
 ·refine Qa J J g (fun g=>?_) (fun g=>?_)
  ·refine U J<|U J<|O _ J<|O _ J<|q8 ?_;cases g;exact ⟨_,_,_,_,J⟩
  refine qb J<|qb J<|qb J<|O _ J<|q8 ?_;cases g;exact ⟨_,_,_,_,J⟩
 rintro _ ⟨s,t,u,v,rfl⟩;refine q7 a fun ay h a=>?_;refine Q9 5 (fun A st=>∃ x y z aa,st = A [(72,ql ay),(71,aa),(70,z),(69,y),(68,x)]) ?_ ?_
 ·refine Qa J J h (fun h=>?_) (fun h=>?_)
  ·refine U J<|U J<|O _ J<|O _ J<|q8 ?_;cases h;exact ⟨_,_,_,_,J⟩
  refine qb J<|qb J<|qb J<|O _ J<|q8 ?_;cases h;exact ⟨_,_,_,_,J⟩
 rintro _ ⟨x,y,z,aa,rfl⟩;refine q7 a fun az j a=>?_;refine Q9 5 (fun A st=>∃ ab ac ad ae,st = A [(77,ql az),(76,ae),(75,ad),(74,ac),(73,ab)]) ?_ ?_
 ·refine Qa J J j (fun j=>?_) (fun j=>?_)
  ·refine U J<|U J<|O _ J<|O _ J<|q8 ?_;cases j;exact ⟨_,_,_,_,J⟩
  refine qb J<|qb J<|qb J<|O _ J<|q8 ?_;cases j;exact ⟨_,_,_,_,J⟩
 rintro _ ⟨ab,ac,ad,ae,rfl⟩;refine q7 a fun ba c a=>?_;refine Q9 5 (fun A st=>∃ af ag ah ai,st = A [(82,ql ba),(81,ai),(80,ah),(79,ag),(78,af)]) ?_ ?_
 ·refine Qa J J c (fun c=>?_) (fun c=>?_)
  ·refine U J<|U J<|q7 c fun bb bc c=>qv (qo7 m b bb bc) J<|O _ J<|q8 ?_;cases c;exact ⟨_,_,_,_,J⟩
  refine qb J<|qb J<|qb J<|O _ J<|q8 ?_;cases c;exact ⟨_,_,_,_,J⟩
 rintro _ ⟨af,ag,ah,ai,rfl⟩;refine qa J<|qw ?_;cases a;exact Q8 _ J
theorem q13l (g : List qh) (r : qh × Int) (a : qby g = some r) : Pure Tryz.prog tab 49 [.sl 6 (g.map Q1)] (.tup [.agg (Q1 r.1),qd r.2]):=by
 unfold qby at a;refine Qm Tryz.func49 J qi qi J<|qc<|Qt J J<|qa J<|q8<|qf<|qc<|U J<|q7 a fun k l a=>qv (qpo g k l) J<|qa J<|qx<|U J<|O _ J<|q8 ?_;refine qm J a (fun _ a=>?_) (fun _ a=>?_)
 ·refine qc<|O _ J<|U J<|Qd 0 _ J<|qa J<|qw ?_;cases a;exact Q8 _ J
 refine qn<|qf<|qc<|U J<|K1 J<|O _ J<|q8 ?_;refine qm J a (fun _ a=>?_) (fun _ a=>?_)
 ·refine qc<|O _ J<|Qd 0 _ J<|qa J<|qw ?_;cases a;exact Q8 _ J
 refine qn<|qc<|U J<|q7 a fun p m a=>Qq m J<|O _ J<|Qt J J<|Qd 1 _ J<|q8<|qf<|qc<|U J<|K1 J<|U J<|q8<|q7 a fun j n a=>?_;refine Qn (fun c=>c = j) (fun c=>⟨[(2,.ref 0 6 0 0),(5,.ref 1 6 0 0)],[(0,.dat 6 [[qd 0,qd 0,qd 0,qd 0,qd 0,qd 0]]),(1,.dat 6 [[qd c.1,qd c.2.1,qd c.2.2.1,qd c.2.2.2.1,qd c.2.2.2.2.1,qd c.2.2.2.2.2]])],2⟩) qe ?_ ?_
 ·refine Ql (q5z g) (fun b=>⟨[(2,.ref 0 6 0 0),(5,.ref 1 6 0 0),(21,.d (.sl 6 (g.map Q1))),(22,q9 (g.length : Int)),(23,q9 b.1)],[(0,.dat 6 [[qd 0,qd 0,qd 0,qd 0,qd 0,qd 0]]),(1,.dat 6 [[qd b.2.1,qd b.2.2.1,qd b.2.2.2.1,qd b.2.2.2.2.1,qd b.2.2.2.2.2.1,qd b.2.2.2.2.2.2]])],2⟩) _ j n (wkA [(0,0),(1,1)] [] []) ?_;intro b q f;unfold q5z at f;refine qc<|O _ J<|q8<|qf ?_;refine qm J f (fun _ f=>?_) (fun _ f=>?_)
  ·refine qn<|qf<|Qc<|qc<|q7 f fun h o f=>Qq o J<|O _ J<|Qt J J<|Qd 2 _ J<|qx<|O _ J<|O _ J<|O _ J<|O _ J<|O _ J<|O _ J<|q3t (r:=min b.2.1 h.Lo.X) J J (by simp only [q3r];rfl)<|O _ J<|O _ J<|O _ J<|O _ J<|O _ J<|O _ J<|q3t (r:=min b.2.2.1 h.Lo.Y) J J (by simp only [q3r];rfl)<|O _ J<|O _ J<|O _ J<|O _ J<|O _ J<|O _ J<|q3t (r:=min b.2.2.2.1 h.Lo.Z) J J (by simp only [q3r];rfl)<|O _ J<|O _ J<|Qd 1 _ J<|q8<|Q6<|O _ J<|O _ J<|O _ J<|O _ J ?_;refine O _ J<|O _ J<|q2f (r:=max b.2.2.2.2.1 h.Hi.X) J J (by simp only [q2c];rfl)<|O _ J<|O _ J<|O _ J<|O _ J<|O _ J<|O _ J<|q2f (r:=max b.2.2.2.2.2.1 h.Hi.Y) J J (by simp only [q2c];rfl)<|O _ J<|O _ J<|O _ J<|O _ J<|O _ J<|O _ J<|q2f (r:=max b.2.2.2.2.2.2 h.Hi.Z) J J (by simp only [q2c];rfl)<|O _ J<|O _ J<|Qd 1 _ J<|Q4<|Qs<|Q6<|O _ J<|U J<|Q4<|⟨_,qt f,wkA [(0,0),(1,1)] [] []⟩
  refine Qf ?_;refine ⟨_,qt f,fun hm=>?_⟩;subst hm;exact ⟨_,J,wkA [(0,0),(1,1)] [] []⟩
 intro c hb;subst hb;refine qc<|O _ J<|Qd 0 _ J<|qa J<|qw ?_;cases a;exact Q8 _ J
theorem qq1 (a : Int) (b : Int) (f : Int) (g : qh) (h : Int) (j : qg) (r : Int × Int) (c : q97 a b f g h j = some r) : Pure Tryz.prog tab 50 [qd a,qd b,qd f,.box (Q1 g),.box [qd h],.box (Qh j)] (.tup [qd r.1,qd r.2]):=by
 unfold q97 at c;refine Qm Tryz.func50 J qi qi J<|qc<|qa J<|qa J<|qx<|O _ J<|O _ J<|O _ J<|O _ J<|O _ J<|U J<|O _ J<|O _ J<|O _ J<|q7 c fun d k c=>qa8 k J J J<|qa J<|qx<|U J<|U J<|U J<|O _ J<|q3t (r:=min a (w64 (a - d))) J J (by simp only [q3r];rfl)<|O _ J<|q2f (r:=max (w64 ((min a (w64 (a - d))) - 2)) (-510)) J J (by simp only [q2c];rfl)<|U J<|U J<|U J<|O _ J<|q2f (r:=max b (w64 (b - d))) J J (by simp only [q2c];rfl)<|O _ J<|q3t (r:=min (w64 ((max b (w64 (b - d))) + 2)) 510) J J (by simp only [q3r];rfl)<|qa J<|qa J<|qw ?_;cases c;exact Q8 _ J
theorem q9a (k : List qh) (l : Int) (c : qg) (r : List qk × Int) (b : Ue k l c = some r) : Pure Tryz.prog tab 18 [.sl 6 (k.map Q1),qd l,.agg (Qh c)] (.tup [.sl 4 (r.1.map Qe),qd r.2]):=by
 unfold Ue at b;refine Qm Tryz.func18 J qi qi J<|qc<|Qj _ _ J<|Qj _ _ J<|qa J<|qa J<|q8<|qf<|qc<|U J<|O _ J<|q7 b fun r1 h2 b=>qv (qcd k c r1 h2) J<|qa J<|qx<|U J<|O _ J<|q8 ?_;refine qm J b (fun _ b=>?_) (fun _ b=>?_)
 ·refine qc<|U J<|qa J<|qa J<|qw ?_;obtain rfl:=Q0 b;exact finD (.inr J) J J (Zv (.cons (.nil _) (.cons (.refl _) .nil)))
 refine qn<|qf<|qc<|O _ J<|O _ J<|q7 b fun c3 y b=>?_;refine Q9 4 (fun A st=>∃ j5 j6 j7,st = A [(38,ql c3),(37,j7),(36,j6),(35,j5)]) ?_ ?_
 ·refine Qa J J y (fun y=>?_) (fun y=>?_)
  ·refine qb J<|qb J<|O _ J<|q8 ?_;cases y;exact ⟨_,_,_,J⟩
  refine O _ J<|O _ J<|O _ J<|q8 ?_;cases y;exact ⟨_,_,_,J⟩
 rintro _ ⟨j5,j6,j7,rfl⟩;refine q7 b fun c8 z b=>?_;refine Q9 5 (fun A st=>∃ al am an ao,st = A [(43,ql c8),(42,ao),(41,an),(40,am),(39,al)]) ?_ ?_
 ·refine Qa J J z (fun z=>?_) (fun z=>?_)
  ·refine qb J<|qb J<|qb J<|O _ J<|q8 ?_;cases z;exact ⟨_,_,_,_,J⟩
  refine O _ J<|O _ J<|O _ J<|O _ J<|q8 ?_;cases z;exact ⟨_,_,_,_,J⟩
 rintro _ ⟨al,am,an,ao,rfl⟩;refine q8 ?_;refine qm J b (fun _ b=>?_) (fun _ b=>?_)
 ·refine qc<|qa J<|qa J<|qw ?_;obtain rfl:=Q0 b;exact finD (.inr J) J J (Zv (.cons (.nil _) (.cons (.refl _) .nil)))
 refine qn<|qc<|U J<|q7 b fun m ce b=>qv (q13l k m ce) J<|U J<|O _ J<|O _ J<|Qt J J<|Qd 2 _ J<|qa J<|q8<|qf<|qc<|U J<|O _ J<|q7 b fun cf aa b=>?_;refine Q9 7 (fun A st=>∃ ap aq ar au av aw,st = A [(57,ql cf),(56,aw),(55,av),(54,au),(53,ar),(52,aq),(51,ap)]) ?_ ?_
 ·refine Qa J J aa (fun aa=>?_) (fun aa=>?_)
  ·refine qb J<|qb J<|qb J<|qb J<|qb J<|O _ J<|q8 ?_;cases aa;exact ⟨_,_,_,_,_,_,J⟩
  refine O _ J<|O _ J<|O _ J<|O _ J<|O _ J<|O _ J<|q8 ?_;cases aa;exact ⟨_,_,_,_,_,_,J⟩
 rintro _ ⟨ap,aq,ar,au,av,aw,rfl⟩;refine q8 ?_;refine qm J b (fun _ b=>?_) (fun _ b=>?_)
 ·refine qc<|qa J<|qa J<|qw ?_;obtain rfl:=Q0 b;exact finD (.inr J) J J (Zv (.cons (.nil _) (.cons (.refl _) .nil)))
 refine qn<|qc<|O _ J<|qa J<|qx<|U J<|O _ J<|O _ J<|O _ J<|O _ J<|O _ J<|O _ J<|O _ J<|O _ J<|q7 b fun n cg b=>Zn [q9 m.1.Lo.X,q9 m.1.Hi.X,q9 c.X,.ref 2 6 0 0,.ref 0 1 0 0,.ref 1 3 0 0] (qq1 m.1.Lo.X m.1.Hi.X c.X m.1 l c n cg) J J J (.inr J)<|U J<|O _ J<|O _ J<|qa J<|qa J<|qx<|U J<|O _ J<|O _ J<|O _ J<|O _ J<|O _ J<|O _ J<|O _ J<|O _ J<|q7 b fun f ch b=>Zn [q9 m.1.Lo.Y,q9 m.1.Hi.Y,q9 c.Y,.ref 2 6 0 0,.ref 0 1 0 0,.ref 1 3 0 0] (qq1 m.1.Lo.Y m.1.Hi.Y c.Y m.1 l c f ch) J J J (.inr J)<|U J<|O _ J<|O _ J<|qa J<|qa J<|qx<|qa J ?_;refine qx<|qa J<|qx<|U J<|qa J<|qa J<|q8<|qf<|qc<|U J<|qa J<|q8<|q7 b fun ax ci b=>?_;refine Qn (fun ab=>ab = ax) (fun ab=>⟨[(16,.hs 0 4 0 ab.length)],[(0,.dat 4 (ab.map Qe))],1⟩) qe ?_ ?_
 ·refine Ql (q4j n f l c k) (fun a=>⟨[(0,.d (.sl 6 (k.map Q1))),(4,.ref 0 1 0 0),(5,.ref 1 3 0 0),(13,q9 n.2),(14,q9 f.1),(15,q9 f.2),(16,.hs 2 4 0 a.2.2.1.length),(17,.hs 3 2 0 a.2.2.2.length),(18,q9 a.1),(19,q9 a.2.1),(20,q9 a.2.1)],[(0,.dat 1 [[qd l]]),(1,.dat 3 [(Qh c)]),(2,.dat 4 (a.2.2.1.map Qe)),(3,.dat 2 (a.2.2.2.map Qy))],4⟩) _ ax ci (wkA [(0,0),(1,1)] [] [2,3]) ?_;intro a cz j;unfold q4j at j;refine qf<|qc<|U J<|U J<|O _ J<|q8 ?_;refine qm J j (fun _ j=>?_) (fun _ j=>?_)
  ·refine qn<|qf<|Qc<|qc<|qa J<|q8<|qf<|qc<|U J<|qa J<|q8<|q7 j fun ay cj j=>?_;refine Qn (fun h=>h = ay) (fun h=>⟨[(0,.d (.sl 6 (k.map Q1))),(4,.ref 0 1 0 0),(5,.ref 1 3 0 0),(13,q9 n.2),(14,q9 f.1),(15,q9 f.2),(16,.hs 2 4 0 a.2.2.1.length),(17,.hs 3 2 0 a.2.2.2.length),(18,q9 a.1),(19,q9 a.2.1),(20,q9 a.2.1),(21,.hs 4 2 0 h.length)],[(0,.dat 1 [[qd l]]),(1,.dat 3 [(Qh c)]),(2,.dat 4 (a.2.2.1.map Qe)),(3,.dat 2 (a.2.2.2.map Qy)),(4,.dat 2 (h.map Qy))],5⟩) qe ?_ ?_
   ·refine Ql (q4k f a l c k) (fun x=>⟨[(0,.d (.sl 6 (k.map Q1))),(4,.ref 0 1 0 0),(5,.ref 1 3 0 0),(13,q9 n.2),(14,q9 f.1),(15,q9 f.2),(16,.hs 2 4 0 a.2.2.1.length),(17,.hs 3 2 0 a.2.2.2.length),(18,q9 a.1),(19,q9 a.2.1),(20,q9 a.2.1),(21,.hs 4 2 0 x.2.length),(22,q9 x.1)],[(0,.dat 1 [[qd l]]),(1,.dat 3 [(Qh c)]),(2,.dat 4 (a.2.2.1.map Qe)),(3,.dat 2 (a.2.2.2.map Qy)),(4,.dat 2 (x.2.map Qy))],5⟩) _ ay cj (wkA [(0,0),(1,1),(2,2),(3,3)] [] [4]) ?_;intro x da p;unfold q4k at p;refine qf<|qc<|U J<|U J<|O _ J<|q8 ?_;refine qm J p (fun _ p=>?_) (fun _ p=>?_)
    ·refine qn<|qf<|q7 p fun ck g p=>?_;refine Qn (fun ac=>ac = ck) (fun ac=>⟨[(0,.d (.sl 6 (k.map Q1))),(4,.ref 0 1 0 0),(5,.ref 1 3 0 0),(13,q9 n.2),(14,q9 f.1),(15,q9 f.2),(16,.hs 2 4 0 a.2.2.1.length),(17,.hs 3 2 0 a.2.2.2.length),(18,q9 a.1),(19,q9 a.2.1),(20,q9 a.2.1),(21,.hs 4 2 0 ac.length),(22,q9 x.1)],[(0,.dat 1 [[qd l]]),(1,.dat 3 [(Qh c)]),(2,.dat 4 (a.2.2.1.map Qe)),(3,.dat 2 (a.2.2.2.map Qy)),(4,.dat 2 (ac.map Qy))],5⟩) qe ?_ ?_
     ·refine qf<|qc<|U J<|O _ J<|O _ J<|U J<|O _ J<|O _ J<|O _ J<|O _ J<|O _ J<|O _ J<|O _ J<|U J<|q7 g fun cl cm g=>qv (qio ({p_:=({X:=w64 ((w64 (2 * a.2.1)) + 1),Y:=w64 ((w64 (2 * x.1)) + 1),Z:=w64 (2 * l)} : qg),d_:=c} : Yg) k cl cm) J<|q8 ?_;refine qm J g (fun _ g=>?_) (fun _ g=>?_)
      ·refine Qf ?_;obtain rfl:=Q0 g;exact ⟨_,J,wkA [(0,0),(1,1),(2,2),(3,3),(4,4)] [] []⟩
      refine qn<|qc<|U J<|O _ J<|qa J<|qx<|U J<|O _ J<|q7 g fun cn t g=>?_;refine Q9 10 (fun A st=>∃ az ba bb bc bd be bf bg bh,st = A [(124,ql cn),(123,bh),(122,bg),(121,bf),(120,be),(119,bd),(118,bc),(117,bb),(116,ba),(115,az)]) ?_ ?_
      ·refine Qa J J t (fun t=>?_) (fun t=>?_)
       ·refine U J<|U J<|O _ J<|q7 t fun dc bi t=>Q5 bi J J<|O _ J<|Qi _ bi J<|U J<|O _ J<|O _ J<|q8 ?_;cases t;exact ⟨_,_,_,_,_,_,_,_,_,J⟩
       refine qb J<|qb J<|qb J<|qb J<|qb J<|qb J<|qb J<|qb J<|O _ J<|q8 ?_;cases t;exact ⟨_,_,_,_,_,_,_,_,_,J⟩
      rintro _ ⟨az,ba,bb,bc,bd,be,bf,bg,bh,rfl⟩;refine q8 ?_;refine qm J g (fun _ g=>?_) (fun _ g=>?_)
      ·refine Q6<|U J<|U J<|O _ J<|q7 g fun bj bk g=>Q5 bk J J<|O _ J<|Qi _ bk J<|O _ J<|q7 g fun co bl g=>Q5 bl J J<|O _ J<|K2 (ds:=[qd (w64 (bj.Hi + 1))]) ({Lo:=co.Lo,Hi:=w64 (bj.Hi + 1)} : qu) bl J J J J J J J J (leb J) J<|Q4 ?_;obtain rfl:=Q0 g;exact ⟨_,J,wkE [(0,0),(1,1),(2,2),(3,3),(4,4)] [] [] J ⟨qo J,⟨_,J,.ref J qr (ltd J)⟩,⟨_,J,.ref J qr (ltd J)⟩,qo J,qo J,qo J,⟨_,J,.hs J qr (ltd J)⟩,⟨_,J,.hs J qr (ltd J)⟩,qo J,qo J,qo J,⟨_,J,K5 qe J qr (ltd J)⟩,qo J,trivial⟩ ⟨Qp J J,Qp J J,Qp J J,Qp J J,Qp J J,trivial⟩⟩
      refine Q6<|U J<|U J<|U J<|O _ J<|O _ J<|Qj _ _ J<|q7 g fun dd cp g=>Ye _ cp J J J J J J J (Yi J J) J J J J<|qa J<|Q4 ?_;obtain rfl:=Q0 g;exact ⟨_,J,wkA [(0,0),(1,1),(2,2),(3,3),(4,6)] [] []⟩
     intro ac hb;subst hb;refine Q6<|U J<|O _ J<|qa J<|Q4<|⟨_,qt p,wkA [(0,0),(1,1),(2,2),(3,3),(4,4)] [] []⟩
    refine Qf ?_;refine ⟨_,qt p,fun hm=>?_⟩;subst hm;exact ⟨_,J,wkA [(0,0),(1,1),(2,2),(3,3),(4,4)] [] []⟩
   intro h hb;subst hb;refine qf<|qc<|U J<|O _ J<|O _ J<|q7 j fun cq ad j=>?_;refine Q9 5 (fun A st=>∃ bm bn bo bp,st = A [(148,ql cq),(147,bp),(146,bo),(145,bn),(144,bm)]) ?_ ?_
   ·refine Qa J J ad (fun ad=>?_) (fun ad=>?_)
    ·refine qb J<|qb J<|qb J<|O _ J<|q8 ?_;cases ad;exact ⟨_,_,_,_,J⟩
    refine U J<|U J<|O _ J<|O _ J<|q8 ?_;cases ad;exact ⟨_,_,_,_,J⟩
   rintro _ ⟨bm,bn,bo,bp,rfl⟩;refine q7 j fun cr u j=>?_;refine Q9 6 (fun A st=>∃ bq br bs bt bu,st = A [(154,ql cr),(153,bu),(152,bt),(151,bs),(150,br),(149,bq)]) ?_ ?_
   ·refine Qa J J u (fun u=>?_) (fun u=>?_)
    ·refine qb J<|qb J<|qb J<|qb J<|O _ J<|q8 ?_;cases u;exact ⟨_,_,_,_,_,J⟩
    refine U J<|U J<|q7 u fun cs ct u=>Zn [.hs 3 2 0 a.2.2.2.length,.hs 4 2 0 h.length] (qpc a.2.2.2 h cs ct) J J (Ki (Yk J J) (Ki (Yk J J) J)) (.inr J)<|O _ J<|O _ J<|q8 ?_;cases u;exact ⟨_,_,_,_,_,J⟩
   rintro _ ⟨bq,br,bs,bt,bu,rfl⟩;refine q8<|q7 j fun cu v j=>?_;refine Y9 (fun q=>q = cu) (fun q=>⟨[(0,.d (.sl 6 (k.map Q1))),(4,.ref 0 1 0 0),(5,.ref 1 3 0 0),(13,q9 n.2),(14,q9 f.1),(15,q9 f.2),(16,.hs 2 4 0 q.2.length),(18,q9 q.1),(20,q9 a.2.1),(21,.hs 3 2 0 h.length)],[(0,.dat 1 [[qd l]]),(1,.dat 3 [(Qh c)]),(2,.dat 4 (q.2.map Qe)),(3,.dat 2 (h.map Qy))],4⟩) qe ?_ ?_
   ·refine qm J v (fun _ v=>?_) (fun _ v=>?_)
    ·refine qc<|U J<|O _ J<|qa J<|qx<|U J<|O _ J<|U J<|q8<|q7 v fun cv cw v=>Qc<|Ql (q98 h a) (fun af=>⟨[(0,.d (.sl 6 (k.map Q1))),(4,.ref 0 1 0 0),(5,.ref 1 3 0 0),(13,q9 n.2),(14,q9 f.1),(15,q9 f.2),(16,.hs 2 4 0 af.2.length),(18,q9 (a.2.2.1.length : Int)),(20,q9 a.2.1),(21,.hs 3 2 0 h.length),(157,.hs 3 2 0 h.length),(158,q9 (h.length : Int)),(159,q9 af.1)],[(0,.dat 1 [[qd l]]),(1,.dat 3 [(Qh c)]),(2,.dat 4 (af.2.map Qe)),(3,.dat 2 (h.map Qy))],4⟩) _ cv cw (wkA [(0,0),(1,1),(2,2),(3,4)] [] []) ?_;intro af de o;unfold q98 at o;refine qc<|O _ J<|q8<|qf ?_;refine qm J o (fun _ o=>?_) (fun _ o=>?_)
     ·refine qn<|qf<|Qc<|qc<|q7 o fun df bv o=>Q5 bv J J<|Qi _ bv J<|Qt J J<|Qd 4 _ J<|q8<|Q6<|U J<|U J<|O _ J<|O _ J<|U J<|O _ J<|O _ J<|O _ J<|Qj _ _ J<|q7 o fun dg cx o=>Ye _ cx J J J J J J J (Yi J J) J J J J<|qa J<|Q4<|Qs<|Q6<|O _ J<|U J<|Q4<|⟨_,qt o,wkA [(0,0),(1,1),(2,6),(3,3)] [] []⟩
     refine Qf ?_;refine ⟨_,qt o,fun hm=>?_⟩;subst hm;obtain rfl:=Q0 v;exact ⟨_,J,wkA [(0,0),(1,1),(2,2),(3,3)] [] []⟩
    refine qn<|Qo ?_;obtain rfl:=Q0 v;exact ⟨_,J,wkA [(0,0),(1,1),(2,2),(3,4)] [] []⟩
   intro q hb;subst hb;refine qf<|qc<|U J<|qa J<|q8<|q7 j fun bw cy j=>?_;refine Qn (fun ae=>ae = bw) (fun ae=>⟨[(0,.d (.sl 6 (k.map Q1))),(4,.ref 0 1 0 0),(5,.ref 1 3 0 0),(13,q9 n.2),(14,q9 f.1),(15,q9 f.2),(16,.hs 2 4 0 ae.length),(18,q9 q.1),(20,q9 a.2.1),(21,.hs 3 2 0 h.length)],[(0,.dat 1 [[qd l]]),(1,.dat 3 [(Qh c)]),(2,.dat 4 (ae.map Qe)),(3,.dat 2 (h.map Qy))],4⟩) qe ?_ ?_
   ·refine Ql (q1o a) (fun ag=>⟨[(0,.d (.sl 6 (k.map Q1))),(4,.ref 0 1 0 0),(5,.ref 1 3 0 0),(13,q9 n.2),(14,q9 f.1),(15,q9 f.2),(16,.hs 2 4 0 ag.2.length),(18,q9 q.1),(20,q9 a.2.1),(21,.hs 3 2 0 h.length),(26,q9 ag.1)],[(0,.dat 1 [[qd l]]),(1,.dat 3 [(Qh c)]),(2,.dat 4 (ag.2.map Qe)),(3,.dat 2 (h.map Qy))],4⟩) _ bw cy (wkA [(0,0),(1,1),(2,2),(3,3)] [] []) ?_;intro ag dh s;unfold q1o at s;refine qf<|qc<|U J<|U J<|O _ J<|O _ J<|q8 ?_;refine qm J s (fun _ s=>?_) (fun _ s=>?_)
    ·refine qn<|qf<|Qc<|Q6<|U J<|U J<|U J<|O _ J<|q7 s fun ah bz s=>Q5 bz J J<|O _ J<|K2 (ds:=[qd (w64 (a.2.1 + 1))]) ({X0:=ah.X0,Y0:=ah.Y0,X1:=w64 (a.2.1 + 1),Y1:=ah.Y1} : qk) bz J J J J J J J J (leb J) J<|Q4<|Qs<|Q6<|U J<|O _ J<|qa J<|Q4<|⟨_,qt s,wkE [(0,0),(1,1),(2,2),(3,3)] [] [] J ⟨qo J,⟨_,J,.ref J qr (ltd J)⟩,⟨_,J,.ref J qr (ltd J)⟩,qo J,qo J,qo J,⟨_,J,K5 qe J qr (ltd J)⟩,qo J,qo J,⟨_,J,.hs J qr (ltd J)⟩,qo J,trivial⟩ ⟨Qp J J,Qp J J,Qp J J,Qp J J,trivial⟩⟩
    refine Qf ?_;refine ⟨_,qt s,fun hm=>?_⟩;subst hm;exact ⟨_,J,wkA [(0,0),(1,1),(2,2),(3,3)] [] []⟩
   intro ae hb;subst hb;refine Q6<|U J<|U J<|O _ J<|qa J<|qa J<|Q4<|Qs<|Q6<|U J<|O _ J<|qa J<|Q4<|⟨_,qt j,wkA [(0,0),(1,1),(2,2),(3,3)] [] []⟩
  refine Qf ?_;refine ⟨_,qt j,fun hm=>?_⟩;subst hm;exact ⟨_,J,wkA [(0,2)] [] []⟩
 intro ab hb;subst hb;refine qf<|qc<|U J<|O _ J<|O _ J<|q8 ?_;refine qm J b (fun _ b=>?_) (fun _ b=>?_)
 ·refine qc<|qa J<|qa J<|qw ?_;obtain rfl:=Q0 b;exact finD (.inr J) J J (Zv (.cons (.nil _) (.cons (.refl _) .nil)))
 refine qn<|qc<|U J<|qa J<|qa J<|qw ?_;obtain rfl:=Q0 b;exact finD (.inr J) J (qf8 (q1i (Yk J J) (q1i J J))) (.refl _)
theorem qog (b : Int) (c : Int) (d : Int) (f : Int) (g : Int) (h : Int) (r : Int × Int) (a : q7m b c d f g h = some r) : Pure Tryz.prog tab 53 [qd b,qd c,qd d,qd f,qd g,qd h] (.tup [qd r.1,qd r.2]):=by
 unfold q7m at a;refine Qm Tryz.func53 J qi qi J<|qc<|qa J<|qa J<|q8<|qf<|Qk [q6,q6,q6,q6,q6,q6,q6,q6,q6,q6,q6,q6,q6,q6] qi<|U J<|O _ J<|U J<|O _ J<|U J<|q7 a fun j l a=>qa8 l J J J<|U J<|O _ J<|U J<|O _ J<|U J<|q7 a fun k m a=>qa8 m J J J<|qa J<|qa J<|qx<|U J<|U J<|U J<|q3t (r:=min j k) J J (by simp only [q3r];rfl)<|O _ J<|O _ J<|U J<|U J<|U J<|q2f (r:=max j k) J J (by simp only [q2c];rfl)<|O _ J<|O _ J<|qa J<|qa J<|qw ?_;cases a;exact Q8 _ J
theorem qy8 (j : List qh) (b : Int) (f : qg) (r : List qk × Int) (a : qaq j b f = some r) : Pure Tryz.prog tab 19 [.sl 6 (j.map Q1),qd b,.agg (Qh f)] (.tup [.sl 4 (r.1.map Qe),qd r.2]):=by
 unfold qaq at a;refine Qm Tryz.func19 J qi qi J<|qc<|Qj _ _ J<|qa J<|qa J<|q8<|qf<|qc<|U J<|O _ J<|q7 a fun r1 h2 a=>qv (q5k j f r1 h2) J<|O _ J<|q8 ?_;refine qm J a (fun _ a=>?_) (fun _ a=>?_)
 ·refine qc<|U J<|O _ J<|q7 a fun r5 h6 a=>qv (q5k j f r5 h6) J<|qa J<|qa J<|qw ?_;obtain rfl:=Q0 a;exact finD (.inr J) J J (Zv (.cons (.nil _) (.cons (.refl _) .nil)))
 refine qn<|qf<|qc<|U J<|O _ J<|q7 a fun c7 x a=>?_;refine Q9 4 (fun A st=>∃ j9 af ag,st = A [(35,ql c7),(34,ag),(33,af),(32,j9)]) ?_ ?_
 ·refine Qa J J x (fun x=>?_) (fun x=>?_)
  ·refine qb J<|qb J<|O _ J<|q8 ?_;cases x;exact ⟨_,_,_,J⟩
  refine U J<|O _ J<|O _ J<|q8 ?_;cases x;exact ⟨_,_,_,J⟩
 rintro _ ⟨j9,af,ag,rfl⟩;refine q7 a fun bo y a=>?_;refine Q9 5 (fun A st=>∃ ah ai aj ak,st = A [(40,ql bo),(39,ak),(38,aj),(37,ai),(36,ah)]) ?_ ?_
 ·refine Qa J J y (fun y=>?_) (fun y=>?_)
  ·refine qb J<|qb J<|qb J<|O _ J<|q8 ?_;cases y;exact ⟨_,_,_,_,J⟩
  refine O _ J<|O _ J<|O _ J<|O _ J<|q8 ?_;cases y;exact ⟨_,_,_,_,J⟩
 rintro _ ⟨ah,ai,aj,ak,rfl⟩;refine q8 ?_;refine qm J a (fun _ a=>?_) (fun _ a=>?_)
 ·refine qc<|qa J<|qa J<|qw ?_;obtain rfl:=Q0 a;exact finD (.inr J) J J (Zv (.cons (.nil _) (.cons (.refl _) .nil)))
 refine qn<|qc<|qa J<|q8<|qf<|qc<|qa J<|q8<|q7 a fun al bp a=>?_;refine Qn (fun s=>s = al) (fun s=>⟨[(8,.hs 0 4 0 s.length)],[(0,.dat 4 (s.map Qe))],1⟩) qe ?_ ?_
 ·refine Ql (q41 j b f) (fun l=>⟨[(0,.d (.sl 6 (j.map Q1))),(1,q9 b),(5,.ref 0 3 0 0),(8,.hs 1 4 0 l.2.length),(9,q9 l.1)],[(0,.dat 3 [(Qh f)]),(1,.dat 4 (l.2.map Qe))],2⟩) _ al bp (wkA [(0,0)] [] [1]) ?_;intro l cj n;unfold q41 at n;refine qf<|qc<|U J<|U J<|K1 J<|O _ J<|q8 ?_;refine qm J n (fun _ n=>?_) (fun _ n=>?_)
  ·refine qn<|qf<|q7 n fun bq h n=>?_;refine Qn (fun z=>z = bq) (fun z=>⟨[(0,.d (.sl 6 (j.map Q1))),(1,q9 b),(5,.ref 0 3 0 0),(8,.hs 1 4 0 z.length),(9,q9 l.1)],[(0,.dat 3 [(Qh f)]),(1,.dat 4 (z.map Qe))],2⟩) qe ?_ ?_
   ·refine qc<|U J<|U J<|q7 h fun g br h=>Qq br J<|O _ J<|Qt J J<|Qd 2 _ J<|q8<|qf<|qc<|O _ J<|O _ J<|O _ J<|U J<|O _ J<|q8 ?_;refine qm J h (fun _ h=>?_) (fun _ h=>?_)
    ·refine Qf ?_;obtain rfl:=Q0 h;exact ⟨_,J,wkA [(0,0),(1,1)] [] []⟩
    refine qn<|qc<|O _ J<|O _ J<|O _ J<|U J<|q2f (r:=max g.Lo.Z b) J J (by simp only [q2c];rfl)<|U J<|O _ J<|qa J<|qx<|O _ J<|O _ J<|O _ J<|U J<|O _ J<|qa J<|qx<|O _ J<|O _ J<|O _ J<|O _ J<|O _ J<|O _ J<|U J<|U J<|O _ J<|O _ J<|O _ J<|O _ J<|q7 h fun v bs h=>qv (qog g.Lo.X g.Hi.X (w64 ((max g.Lo.Z b) - b)) (w64 (g.Hi.Z - b)) f.X f.Z v bs) J<|U J<|O _ J<|O _ J<|qa J<|qa J<|qx<|O _ J<|O _ J ?_;refine O _ J<|O _ J<|O _ J<|O _ J<|U J<|U J<|O _ J<|O _ J<|O _ J<|O _ J<|q7 h fun k bt h=>qv (qog g.Lo.Y g.Hi.Y (w64 ((max g.Lo.Z b) - b)) (w64 (g.Hi.Z - b)) f.Y f.Z k bt) J<|U J<|O _ J<|O _ J<|qa J<|qa J<|qx<|U J<|qa J<|q8<|q7 h fun bu bv h=>Qc<|Ql (q42 v k g b f) (fun m=>⟨[(0,.d (.sl 6 (j.map Q1))),(1,q9 b),(5,.ref 0 3 0 0),(8,.hs 1 4 0 m.2.length),(9,q9 l.1),(10,.ref 2 6 0 0),(14,q9 v.2),(15,q9 k.1),(16,q9 k.2),(17,q9 m.1)],[(0,.dat 3 [(Qh f)]),(1,.dat 4 (m.2.map Qe)),(2,.dat 6 [(Q1 g)])],3⟩) _ bu bv (wkA [(0,0),(1,1),(2,2)] [] []) ?_;intro m ck o;unfold q42 at o;refine qf<|qc<|U J<|U J<|O _ J<|q8 ?_;refine qm J o (fun _ o=>?_) (fun _ o=>?_)
    ·refine qn<|qf<|q7 o fun bw ac o=>?_;refine Qn (fun aa=>aa = bw) (fun aa=>⟨[(0,.d (.sl 6 (j.map Q1))),(1,q9 b),(5,.ref 0 3 0 0),(8,.hs 1 4 0 aa.length),(9,q9 l.1),(10,.ref 2 6 0 0),(14,q9 v.2),(15,q9 k.1),(16,q9 k.2),(17,q9 m.1)],[(0,.dat 3 [(Qh f)]),(1,.dat 4 (aa.map Qe)),(2,.dat 6 [(Q1 g)])],3⟩) qe ?_ ?_
     ·refine qc<|U J<|qa J<|q8<|q7 ac fun bz ca ac=>Qc<|Ql (q43 k g m b f) (fun p=>⟨[(0,.d (.sl 6 (j.map Q1))),(1,q9 b),(5,.ref 0 3 0 0),(8,.hs 1 4 0 p.2.length),(9,q9 l.1),(10,.ref 2 6 0 0),(14,q9 v.2),(15,q9 k.1),(16,q9 k.2),(17,q9 m.1),(18,q9 p.1)],[(0,.dat 3 [(Qh f)]),(1,.dat 4 (p.2.map Qe)),(2,.dat 6 [(Q1 g)])],3⟩) _ bz ca (wkA [(0,0),(1,1),(2,2)] [] []) ?_;intro p cl q;unfold q43 at q;refine qf<|qc<|U J<|U J<|O _ J<|q8 ?_;refine qm J q (fun _ q=>?_) (fun _ q=>?_)
      ·refine qn<|qf<|q7 q fun cb c q=>?_;refine Qn (fun ab=>ab = cb) (fun ab=>⟨[(0,.d (.sl 6 (j.map Q1))),(1,q9 b),(5,.ref 0 3 0 0),(8,.hs 1 4 0 ab.length),(9,q9 l.1),(10,.ref 2 6 0 0),(14,q9 v.2),(15,q9 k.1),(16,q9 k.2),(17,q9 m.1),(18,q9 p.1)],[(0,.dat 3 [(Qh f)]),(1,.dat 4 (ab.map Qe)),(2,.dat 6 [(Q1 g)])],3⟩) qe ?_ ?_
       ·refine qc<|O _ J<|U J<|O _ J<|O _ J<|U J<|O _ J<|O _ J<|U J<|O _ J<|O _ J<|O _ J<|q7 c fun cc cd c=>qv (qob g ({X:=w64 ((w64 (2 * m.1)) + 1),Y:=w64 ((w64 (2 * p.1)) + 1),Z:=w64 (2 * b)} : qg) f cc cd) J<|U J<|O _ J<|O _ J<|Qt J J<|Qd 3 _ J<|qa J<|q8<|qf<|qc<|U J<|O _ J<|q8 ?_;refine qm J c (fun _ c=>?_) (fun _ c=>?_)
        ·refine Qf ?_;obtain rfl:=Q0 c;exact ⟨_,J,wkA [(0,0),(1,1),(2,2)] [] []⟩
        refine qn<|qc<|U J<|O _ J<|qa J<|qx<|U J<|O _ J<|q7 c fun ce t c=>?_;refine Q9 10 (fun A st=>∃ am an ao ap aq ar au av aw,st = A [(142,ql ce),(141,aw),(140,av),(139,au),(138,ar),(137,aq),(136,ap),(135,ao),(134,an),(133,am)]) ?_ ?_
        ·refine Qa J J t (fun t=>?_) (fun t=>?_)
         ·refine U J<|U J<|O _ J<|q7 t fun cm ax t=>Q5 ax J J<|O _ J<|Qi _ ax J<|U J<|O _ J<|O _ J<|q8 ?_;cases t;exact ⟨_,_,_,_,_,_,_,_,_,J⟩
         refine qb J<|qb J<|qb J<|qb J<|qb J<|qb J<|qb J<|qb J<|O _ J<|q8 ?_;cases t;exact ⟨_,_,_,_,_,_,_,_,_,J⟩
        rintro _ ⟨am,an,ao,ap,aq,ar,au,av,aw,rfl⟩;refine q7 c fun cf u c=>?_;refine Q9 10 (fun A st=>∃ ay az ba bb bc bd be bf bg,st = A [(152,ql cf),(151,bg),(150,bf),(149,be),(148,bd),(147,bc),(146,bb),(145,ba),(144,az),(143,ay)]) ?_ ?_
        ·refine Qa J J u (fun u=>?_) (fun u=>?_)
         ·refine U J<|U J<|O _ J<|q7 u fun cn bh u=>Q5 bh J J<|O _ J<|Qi _ bh J<|U J<|O _ J<|O _ J<|q8 ?_;cases u;exact ⟨_,_,_,_,_,_,_,_,_,J⟩
         refine qb J<|qb J<|qb J<|qb J<|qb J<|qb J<|qb J<|qb J<|O _ J<|q8 ?_;cases u;exact ⟨_,_,_,_,_,_,_,_,_,J⟩
        rintro _ ⟨ay,az,ba,bb,bc,bd,be,bf,bg,rfl⟩;refine q8 ?_;refine qm J c (fun _ c=>?_) (fun _ c=>?_)
        ·refine Q6<|U J<|U J<|O _ J<|U J<|O _ J<|q7 c fun ad bi c=>Q5 bi J J<|O _ J<|K2 (ds:=[qd (w64 (p.1 + 1))]) ({X0:=ad.X0,Y0:=ad.Y0,X1:=ad.X1,Y1:=w64 (p.1 + 1)} : qk) bi J J J J J J J J (leb J) J<|Q4 ?_;obtain rfl:=Q0 c;exact ⟨_,J,wkE [(0,0),(1,1),(2,2)] [] [] J ⟨qo J,qo J,⟨_,J,.ref J qr (ltd J)⟩,⟨_,J,K5 qe J qr (ltd J)⟩,qo J,⟨_,J,.ref J qr (ltd J)⟩,qo J,qo J,qo J,qo J,qo J,trivial⟩ ⟨Qp J J,Qp J J,Qp J J,trivial⟩⟩
        refine Q6<|U J<|U J<|U J<|U J<|O _ J<|U J<|O _ J<|O _ J<|Qj _ _ J<|q7 c fun co cg c=>Ye _ cg J J J J J J J (Yi J J) J J J J<|qa J<|Q4 ?_;obtain rfl:=Q0 c;exact ⟨_,J,wkA [(0,0),(1,5),(2,2)] [] []⟩
       intro ab hb;subst hb;refine Q6<|U J<|O _ J<|qa J<|Q4<|⟨_,qt q,wkA [(0,0),(1,1),(2,2)] [] []⟩
      refine Qf ?_;refine ⟨_,qt q,fun hm=>?_⟩;subst hm;obtain rfl:=Q0 ac;exact ⟨_,J,wkA [(0,0),(1,1),(2,2)] [] []⟩
     intro aa hb;subst hb;refine Q6<|U J<|O _ J<|qa J<|Q4<|⟨_,qt o,wkA [(0,0),(1,1),(2,2)] [] []⟩
    refine Qf ?_;refine ⟨_,qt o,fun hm=>?_⟩;subst hm;obtain rfl:=Q0 h;exact ⟨_,J,wkA [(0,0),(1,1)] [] []⟩
   intro z hb;subst hb;refine Q6<|U J<|O _ J<|qa J<|Q4<|⟨_,qt n,wkA [(0,0),(1,1)] [] []⟩
  refine Qf ?_;refine ⟨_,qt n,fun hm=>?_⟩;subst hm;exact ⟨_,J,wkA [(0,1)] [] []⟩
 intro s hb;subst hb;refine qf ?_;refine Yx (st':=⟨[(8,.d (.sl 4 (s.map Qe)))],[],0⟩) (wkA [] [0] []) ?_ qe;refine Q6<|U J<|q7 a fun ch ci a=>qv (q70 (.cons (.refl _) (.cons (.refl _) (.cons (.nil _) .nil))) (qe6 2 s [] ch ci)) J<|qa J<|q8<|qf<|qc<|U J<|K1 J<|O _ J<|q8 ?_;refine qm J a (fun _ a=>?_) (fun _ a=>?_)
 ·refine qc<|qa J<|qa J<|qw ?_;obtain rfl:=Q0 a;exact finD (.inr J) J J (Zv (.cons (.nil _) (.cons (.refl _) .nil)))
 refine qn<|qc<|U J<|qa J<|qa J<|qw ?_;cases a;exact Q8 _ J
theorem q15m (b : List qh) (d : Int) (f : qg) (r : Bool) (a : qdm b d f = some r) : Pure Tryz.prog tab 4 [.sl 6 (b.map Q1),qd d,.agg (Qh f)] (.bool r):=by
 unfold qdm at a;refine Qm Tryz.func4 J qi qi J<|qc<|Qj _ _ J<|qa J<|q8<|qf<|qc<|U J<|q7 a fun n o a=>qv (qi1 b n o) J<|O _ J<|q8 ?_;refine qm J a (fun _ a=>?_) (fun _ a=>?_)
 ·refine qc<|qa J<|qw ?_;cases a;exact Q8 _ J
 refine qn<|qc<|U J<|U J<|O _ J<|q7 a fun g p a=>qv (q9a b d f g p) J<|U J<|O _ J<|O _ J<|qa J<|qa J<|qx<|U J<|U J<|O _ J<|q7 a fun h q a=>qv (qy8 b d f h q) J<|U J<|O _ J<|O _ J<|qa J<|qa J<|qx<|U J<|U J<|q7 a fun s t a=>qv (qe8 g.1 h.1 s t) J<|q7 a fun u c a=>?_;refine Q9 5 (fun A st=>∃ j k l m,st = A [(35,ql u),(34,m),(33,l),(32,k),(31,j)]) ?_ ?_
 ·refine Qa J J c (fun c=>?_) (fun c=>?_)
  ·refine U J<|U J<|O _ J<|O _ J<|q8 ?_;cases c;exact ⟨_,_,_,_,J⟩
  refine qb J<|qb J<|qb J<|O _ J<|q8 ?_;cases c;exact ⟨_,_,_,_,J⟩
 rintro _ ⟨j,k,l,m,rfl⟩;refine qa J<|qw ?_;cases a;exact Q8 _ J
theorem qq5 (a : Yg) (r : Bool) (c : q9e a = some r) : Pure Tryz.prog tab 56 [.agg [qd a.p_.X,qd a.p_.Y,qd a.p_.Z,qd a.d_.X,qd a.d_.Y,qd a.d_.Z]] (.bool r):=by
 unfold q9e at c;refine Qm Tryz.func56 J qi qi J<|qc<|Qj _ _ J<|qa J<|qx<|O _ J<|O _ J<|q7 c fun h u c=>qv (q9b a.p_ h u) J<|Qt J J<|Qd 1 _ J<|q8<|qf<|qc<|O _ J<|O _ J<|q7 c fun f v c=>qv (q9b a.d_ f v) J<|U J<|q8<|q7 c fun k x c=>?_;refine Qn (fun j=>.inl j = k) (fun j=>⟨[(1,.ref 0 6 0 0)],[(0,.dat 6 [[qd a.p_.X,qd a.p_.Y,qd a.p_.Z,qd a.d_.X,qd a.d_.Y,qd a.d_.Z]])],1⟩) qe ?_ ?_
 ·refine Ql (qf6 f h) (fun l=>⟨[(1,.ref 0 6 0 0),(3,.ref 1 3 0 0),(11,.d (.agg [qd f.1,qd f.2.1,qd f.2.2])),(12,q9 l)],[(0,.dat 6 [[qd a.p_.X,qd a.p_.Y,qd a.p_.Z,qd a.d_.X,qd a.d_.Y,qd a.d_.Z]]),(1,.dat 3 [[h.1,h.2.1,h.2.2].flatMap (eI .i64)])],2⟩) _ k x (wkA [(0,0),(1,1)] [] []) ?_;intro l ae b;unfold qf6 at b;refine qc<|O _ J<|q8<|qf ?_;refine qm J b (fun _ b=>?_) (fun _ b=>?_)
  ·refine qn<|qf<|Qc<|qc<|U J<|q7 b fun y z b=>qdt (enc:=(eI .i64)) [f.1,f.2.1,f.2.2] (q9 y) z (fun _=>rfl) J J J J J J<|qa J<|qa J<|qx<|U J<|O _ J<|q7 b fun aa g b=>?_;refine Q9 7 (fun A st=>∃ m n o p q s,st = A [(24,ql aa),(23,s),(22,q),(21,p),(20,o),(19,n),(18,m)]) ?_ ?_
   ·refine Qa J J g (fun g=>?_) (fun g=>?_)
    ·refine U J<|q7 g fun ab t g=>q2e t J J J J J<|q3s (enc:=(eI .i64)) (q9 ab) t (fun _=>rfl) J J J J J J<|O _ J<|O _ J<|O _ J<|q8 ?_;cases g;exact ⟨_,_,_,_,_,_,J⟩
    refine qb J<|qb J<|qb J<|qb J<|qb J<|O _ J<|q8 ?_;cases g;exact ⟨_,_,_,_,_,_,J⟩
   rintro _ ⟨m,n,o,p,q,s,rfl⟩;refine q8 ?_;refine qm J b (fun _ b=>?_) (fun _ b=>?_)
   ·refine qc<|qa J<|qw ?_;refine ⟨_,qt b,fun hm=>?_⟩;subst hm;cases c;exact Q8 _ J
   refine qn<|Qo<|Qs<|Q6<|O _ J<|U J<|Q4<|⟨_,qt b,wkA [(0,0),(1,1)] [] []⟩
  refine Qf ?_;refine ⟨_,qt b,fun hm=>?_⟩;subst hm;exact ⟨_,J,wkA [(0,0)] [] []⟩
 intro j hb;subst hb;refine qc<|O _ J<|O _ J<|q7 c fun ac ad c=>qv (qf5 a.p_ 240 ac ad) J<|qa J<|qw ?_;cases c;exact Q8 _ J
theorem q4i (c : List qh) (d : qg) (b : qg) (r : Bool × Int) (a : Ud c d b = some r) : Pure Tryz.prog tab 21 [.sl 6 (c.map Q1),.agg (Qh d),.agg (Qh b)] (.tup [.bool r.1,qd r.2]):=by
 unfold Ud at a;refine Qm Tryz.func21 J qi qi J<|qc<|Qj _ _ J<|Qj _ _ J<|qa J<|qa J<|q8<|qf<|qc<|U J<|O _ J<|q7 a fun f g a=>qv (qcd c b f g) J<|qa J<|qx<|U J<|O _ J<|q8 ?_;refine qm J a (fun _ a=>?_) (fun _ a=>?_)
 ·refine qc<|U J<|qa J<|qa J<|qw ?_;cases a;exact Q8 _ J
 refine qn<|qc<|O _ J<|O _ J<|O _ J<|Qt J J<|Qd 2 _ J<|q8<|qf<|qc<|O _ J<|q7 a fun h j a=>qv (qq5 ({p_:=d,d_:=b} : Yg) h j) J<|O _ J<|q8 ?_;refine qm J a (fun _ a=>?_) (fun _ a=>?_)
 ·refine qc<|qa J<|qa J<|qw ?_;cases a;exact Q8 _ J
 refine qn<|qc<|O _ J<|U J<|q7 a fun k l a=>qv (qio ({p_:=d,d_:=b} : Yg) c k l) J<|qa J<|qa J<|qw ?_;cases a;exact Q8 _ J
theorem qy4 (b : qg) (f : qg) (r : Bool) (c : qao b f = some r) : Pure Tryz.prog tab 29 [.agg (Qh b),.agg (Qh f)] (.bool r):=by
 unfold qao at c;refine Qm Tryz.func29 J qi qi J<|qc<|Qj _ _ J<|Qj _ _ J<|qa J<|q8<|qf<|qc<|qa J<|q8<|q7 c fun j q c=>?_;refine Qn (fun h=>.inl h = j) (fun h=>⟨[(2,.ref 0 3 0 0)],[(0,.dat 3 [(Qh b)])],1⟩) qe ?_ ?_
 ·refine Ql (qef f b) (fun g=>⟨[(2,.ref 0 3 0 0),(3,.ref 1 3 0 0),(5,q9 g)],[(0,.dat 3 [(Qh b)]),(1,.dat 3 [(Qh f)])],2⟩) _ j q (wkA [(0,0),(1,1)] [] []) ?_;intro g aa a;unfold qef at a;refine qf<|qc<|U J<|O _ J<|q8 ?_;refine qm J a (fun _ a=>?_) (fun _ a=>?_)
  ·refine qn<|qf<|Qc<|qc<|O _ J<|U J<|q7 a fun s t a=>qv (q1k f g s t) J<|O _ J<|q7 a fun u d a=>?_;refine Q9 7 (fun A st=>∃ k l m n o p,st = A [(20,ql u),(19,p),(18,o),(17,n),(16,m),(15,l),(14,k)]) ?_ ?_
   ·refine Qa J J d (fun d=>?_) (fun d=>?_)
    ·refine O _ J<|U J<|q7 d fun v x d=>qv (q1k b g v x) J<|O _ J<|O _ J<|O _ J<|q8 ?_;cases d;exact ⟨_,_,_,_,_,_,J⟩
    refine qb J<|qb J<|qb J<|qb J<|qb J<|O _ J<|q8 ?_;cases d;exact ⟨_,_,_,_,_,_,J⟩
   rintro _ ⟨k,l,m,n,o,p,rfl⟩;refine q8 ?_;refine qm J a (fun _ a=>?_) (fun _ a=>?_)
   ·refine qc<|qa J<|qw ?_;refine ⟨_,qt a,fun hm=>?_⟩;subst hm;cases c;exact Q8 _ J
   refine qn<|Qo<|Qs<|Q6<|U J<|O _ J<|qa J<|Q4<|⟨_,qt a,wkA [(0,0),(1,1)] [] []⟩
  refine Qf ?_;refine ⟨_,qt a,fun hm=>?_⟩;subst hm;exact ⟨_,J,wkA [(0,0)] [] []⟩
 intro h hb;subst hb;refine qc<|O _ J<|q7 c fun y z c=>qv (q7h b 240 y z) J<|qa J<|qw ?_;cases c;exact Q8 _ J
theorem qoi (b : Int) (r : Int) (a : q7q b = some r) : Pure Tryz.prog tab 98 [qd b] (.int .u64 r):=by
 unfold q7q at a;refine Qm Tryz.func98 J qi qi J<|qc<|qa J<|q8<|qf<|qc<|U J<|O _ J<|q8 ?_;refine qm J a (fun _ a=>?_) (fun _ a=>?_)
 ·refine qc<|U J<|O _ J<|O _ J<|qa J<|qw ?_;cases a;exact Q8 _ J
 refine qn<|qc<|U J<|O _ J<|qa J<|qw ?_;cases a;exact Q8 _ J
theorem qyd (g : Int) (h : Int) (r : Int) (b : qat g h = some r) : Pure Tryz.prog tab 99 [.int .u64 g,.int .u64 h] (.int .u64 r):=by
 unfold qat at b;refine Qm Tryz.func99 J qi qi J<|qc<|qa J<|q8<|qf<|q7 b fun j k b=>?_;refine Qn (fun c=>c = j) (fun c=>⟨[(0,.d (.int .u64 c))],[],0⟩) qe ?_ ?_
 ·refine Ql (q7p) (fun f=>⟨[(0,.d (.int .u64 f.1)),(1,.d (.int .u64 f.2))],[],0⟩) _ j k (wkA [] [] []) ?_;intro f m a;unfold q7p at a;refine qf<|qc<|U J<|O _ J<|q8 ?_;refine qm J a (fun _ a=>?_) (fun _ a=>?_)
  ·refine qn<|Qc<|Qk [q6,q6,q6,q6,q6,q6] qi<|U J<|U J<|U J<|q7 a fun n l a=>qvz l J J J<|qa J<|qa J<|Q4<|Qs<|Qo<|⟨_,qt a,wkA [] [] []⟩
  refine Qf ?_;refine ⟨_,qt a,fun hm=>?_⟩;subst hm;exact ⟨_,J,wkA [] [] []⟩
 intro c hb;subst hb;refine qc<|U J<|qa J<|qw ?_;cases b;exact Q8 _ J
theorem qyb (f : Int) (g : Int) (r : Qr × Int) (a : qas f g = some r) : Pure Tryz.prog tab 60 [qd f,qd g] (.tup [.agg (Kp r.1),qd r.2]):=by
 unfold qas at a;refine Qm Tryz.func60 J qi qi J<|qc<|Qt J J<|qa J<|q8<|qf<|qc<|U J<|O _ J<|q8 ?_;refine qm J a (fun _ a=>?_) (fun _ a=>?_)
 ·refine qc<|O _ J<|Qd 0 _ J<|qa J<|qw ?_;cases a;exact Q8 _ J
 refine qn<|qc<|U J<|q7 a fun h n a=>qv (qoi f h n) J<|U J<|q7 a fun j o a=>qv (qoi g j o) J<|qa J<|qa J<|qx<|U J<|U J<|q7 a fun p q a=>qv (qyd h j p q) J<|qa J<|q8<|qf<|Qk [q6,q6,q6,q6,q6,q6,q6,q6] qi<|U J<|U J<|q7 a fun y s a=>qnd s J J J<|U J<|U J<|q7 a fun t u a=>qnd u J J J<|qa J<|qa J<|q8<|qf<|qc<|U J<|O _ J<|q7 a fun v b a=>?_;refine Q9 4 (fun A st=>∃ k l m,st = A [(31,ql v),(30,m),(29,l),(28,k)]) ?_ ?_
 ·refine Qa J J b (fun b=>?_) (fun b=>?_)
  ·refine qb J<|qb J<|O _ J<|q8 ?_;cases b;exact ⟨_,_,_,J⟩
  refine U J<|O _ J<|O _ J<|q8 ?_;cases b;exact ⟨_,_,_,J⟩
 rintro _ ⟨k,l,m,rfl⟩;refine q8 ?_;refine qm J a (fun _ a=>?_) (fun _ a=>?_)
 ·refine qc<|O _ J<|Qd 0 _ J<|qa J<|qw ?_;cases a;exact Q8 _ J
 refine qn<|qc<|U J<|O _ J<|U J<|O _ J<|O _ J<|Qt J J<|Qd 1 _ J<|q8<|qf<|qc<|U J<|O _ J<|U J<|O _ J<|O _ J<|q8<|q7 a fun x c a=>?_;refine Y9 (fun d=>d = x) (fun d=>⟨[(4,.ref 0 2 0 0),(9,.ref 1 2 0 0)],[(0,.dat 2 [[qd 0,qd 0]]),(1,.dat 2 [[qd d,qd (w64 t)]])],2⟩) qe ?_ ?_
 ·refine qm J c (fun _ c=>?_) (fun _ c=>?_)
  ·refine Q6<|O _ J<|O _ J<|O _ J<|O _ J<|Qd 1 _ J<|Q4 ?_;obtain rfl:=Q0 c;exact ⟨_,J,wkA [(0,0),(1,1)] [] []⟩
  refine qn<|Qo ?_;obtain rfl:=Q0 c;exact ⟨_,J,wkA [(0,0),(1,1)] [] []⟩
 intro d hb;subst hb;refine qc<|O _ J<|Qd 0 _ J<|qa J<|qw ?_;cases a;exact Q8 _ J
theorem q96 (g : List qh) (c : qg) (b : qg) (r : Qr × Int) (a : Ux g c b = some r) : Pure Tryz.prog tab 23 [.sl 6 (g.map Q1),.agg (Qh c),.agg (Qh b)] (.tup [.agg (Kp r.1),qd r.2]):=by
 unfold Ux at a;refine Qm Tryz.func23 J qi qi J<|qc<|Qj _ _ J<|Qj _ _ J<|Qt J J<|qa J<|q8<|qf<|qc<|U J<|O _ J<|q7 a fun r1 h2 a=>qv (qcd g b r1 h2) J<|qa J<|qx<|U J<|O _ J<|q8 ?_;refine qm J a (fun _ a=>?_) (fun _ a=>?_)
 ·refine qc<|O _ J<|U J<|Qd 2 _ J<|qa J<|qw ?_;cases a;exact Q8 _ J
 refine qn<|qc<|O _ J<|O _ J<|O _ J<|Qt J J<|Qd 3 _ J<|q8<|qf<|qc<|O _ J<|q7 a fun r3 h4 a=>qv (qq5 ({p_:=c,d_:=b} : Yg) r3 h4) J<|O _ J<|q8 ?_;refine qm J a (fun _ a=>?_) (fun _ a=>?_)
 ·refine qc<|O _ J<|Qd 2 _ J<|qa J<|qw ?_;cases a;exact Q8 _ J
 refine qn<|qc<|Qt J J<|qx<|qa J<|qx<|O _ J<|O _ J<|qa J<|q8<|qf<|qc<|U J<|K1 J<|U J<|q8<|q7 a fun o ai a=>?_;refine Qn (fun h=>h = o) (fun h=>⟨[(6,.ref 0 2 0 0),(10,.ref 1 2 0 0),(11,ql h.1)],[(0,.dat 2 [[qd 0,qd 0]]),(1,.dat 2 [[qd h.2.1,qd h.2.2]])],2⟩) qe ?_ ?_
 ·refine Ql (q32 g c b) (fun j=>⟨[(6,.ref 0 2 0 0),(10,.ref 1 2 0 0),(11,ql j.1),(12,.d (.bfn 58 [.agg [qd c.X,qd c.Y,qd c.Z,qd b.X,qd b.Y,qd b.Z]])),(33,.d (.sl 6 (g.map Q1))),(34,q9 (g.length : Int)),(35,q9 j.2.1)],[(0,.dat 2 [[qd 0,qd 0]]),(1,.dat 2 [[qd j.2.2.1,qd j.2.2.2]])],2⟩) _ o ai (wkA [(0,2),(1,4)] [] []) ?_;intro j av k;unfold q32 at k;refine qc<|O _ J<|q8<|qf ?_;refine qm J k (fun _ k=>?_) (fun _ k=>?_)
  ·refine qn<|qf<|q7 k fun aj f k=>?_;refine Qn (fun n=>n = aj) (fun n=>⟨[(6,.ref 0 2 0 0),(10,.ref 1 2 0 0),(11,ql n.1),(12,.d (.bfn 58 [.agg [qd c.X,qd c.Y,qd c.Z,qd b.X,qd b.Y,qd b.Z]])),(33,.d (.sl 6 (g.map Q1))),(34,q9 (g.length : Int)),(35,q9 j.2.1)],[(0,.dat 2 [[qd 0,qd 0]]),(1,.dat 2 [[qd n.2.1,qd n.2.2]])],2⟩) qe ?_ ?_
   ·refine qc<|q7 f fun ak al f=>Qq al J<|O _ J<|Qt J J<|Qd 2 _ J<|qx<|U J<|O _ J<|q7 f fun p am f=>qv (qq6 ({p_:=c,d_:=b} : Yg) ak p am) J<|U J<|O _ J<|O _ J<|Qt J J<|Qd 3 _ J<|qa J<|qx<|U J<|q7 f fun an l f=>?_;refine Q9 9 (fun A st=>∃ q s t u v x y z,st = A [(54,ql an),(53,z),(52,y),(51,x),(50,v),(49,u),(48,t),(47,s),(46,q)]) ?_ ?_
    ·refine Qa J J l (fun l=>?_) (fun l=>?_)
     ·refine U J<|O _ J<|q7 l fun ao m l=>?_;refine Q9 5 (fun A st=>∃ aa ab ac ad,st = A [(53,ql ao),(52,ad),(51,ac),(50,ab),(49,aa)]) ?_ ?_
      ·refine Qa J J m (fun m=>?_) (fun m=>?_)
       ·refine qb J<|qb J<|qb J<|O _ J<|q8 ?_;cases m;exact ⟨_,_,_,_,J⟩
       refine O _ J<|O _ J<|q7 m fun ap aq m=>qv (qf7 p.1 ({num_:=j.2.2.1,den_:=j.2.2.2} : Ky) ap aq) J<|O _ J<|q8 ?_;cases m;exact ⟨_,_,_,_,J⟩
      rintro _ ⟨aa,ab,ac,ad,rfl⟩;refine O _ J<|q8 ?_;cases l;exact ⟨_,_,_,_,_,_,_,_,J⟩
     refine qb J<|qb J<|qb J<|qb J<|qb J<|qb J<|qb J<|O _ J<|q8 ?_;cases l;exact ⟨_,_,_,_,_,_,_,_,J⟩
    rintro _ ⟨q,s,t,u,v,x,y,z,rfl⟩;refine q8 ?_;refine qm J f (fun _ f=>?_) (fun _ f=>?_)
    ·refine Q6<|O _ J<|Qd 1 _ J<|qa J<|Q4 ?_;obtain rfl:=Q0 f;exact ⟨_,J,wkA [(0,0),(1,1)] [] []⟩
    refine qn<|Qo ?_;obtain rfl:=Q0 f;exact ⟨_,J,wkA [(0,0),(1,1)] [] []⟩
   intro n hb;subst hb;refine Q6<|O _ J<|U J<|Q4<|⟨_,qt k,wkA [(0,0),(1,1)] [] []⟩
  refine Qf ?_;refine ⟨_,qt k,fun hm=>?_⟩;subst hm;exact ⟨_,J,wkA [(0,0),(1,1)] [] []⟩
 intro h hb;subst hb;refine qf<|qc<|U J<|O _ J<|q8 ?_;refine qm J a (fun _ a=>?_) (fun _ a=>?_)
 ·refine qc<|O _ J<|Qd 0 _ J<|qa J<|qw ?_;cases a;exact Q8 _ J
 refine qn<|qc<|O _ J<|O _ J<|O _ J<|O _ J<|q7 a fun ar au a=>qv (qyb h.2.1 h.2.2 ar au) J<|O _ J<|O _ J<|Qd 0 _ J<|qa J<|qw ?_;cases a;exact Q8 _ J
theorem q6t (a : Int) (b : Int) (c : Int) (d : Int) (f : Int) (g : Int) (r : qh) (h : q1g a b c d f g = some r) : Pure Tryz.prog tab 25 [qd a,qd b,qd c,qd d,qd f,qd g] (.agg (Q1 r)):=by
 unfold q1g at h;refine Qm Tryz.func25 J qi qi J<|qc<|Qt J J<|qx<|U J<|U J<|U J<|O _ J<|U J<|U J<|U J<|O _ J<|O _ J<|Qd 0 _ J<|qw ?_;cases h;exact Q8 _ J
theorem Yd (a : Int) (b : Int) (c : Int) (r : qg) (d : Y4 a b c = some r) : Pure Tryz.prog tab 26 [qd a,qd b,qd c] (.agg (Qh r)):=by
 unfold Y4 at d;refine Qm Tryz.func26 J qi qi J<|qc<|Qt J J<|qx<|U J<|U J<|U J<|O _ J<|Qd 0 _ J<|qw ?_;cases d;exact Q8 _ J
theorem qmf (a : Int) (b : Int) (c : Int) (d : Int) (r : List qk) (f : qa3 a b c d = some r) : Pure Tryz.prog tab 61 [qd a,qd b,qd c,qd d] (.sl 4 (r.map Qe)):=by
 unfold qa3 at f;refine Qm Tryz.func61 J qi qi J<|qc<|qa J<|qx<|U J<|U J<|U J<|U J<|O _ J<|Qj _ _ J<|qa J<|qw ?_;obtain rfl:=Q0 f;exact finD (.inr J) J (Yk J J) (.refl _)
theorem qme (r : Bool) (a : q6s = some r) : Pure Tryz.prog tab 27 [] (.bool r):=by
 unfold q6s at a;refine Qm Tryz.func27 J qi qi J<|qc<|qa J<|qx<|q7 a fun b h2 a=>qv (q6t 0 0 0 1 1 1 b h2) J<|Qj (.hs 0 6 0 [b].length) (.dat 6 ([b].map Q1)) J<|qa J<|q8<|qf ?_;refine Yx (st':=⟨[(1,.d (.sl 6 ([b].map Q1)))],[],0⟩) (wkA [] [0] []) ?_ qe;refine Q6<|U J<|q7 a fun t h4 a=>qv (Yd (-3) 1 1 t h4) J<|q7 a fun u h6 a=>qv (Yd 1 0 0 u h6) J<|q7 a fun r7 h8 a=>qv (q96 [b] t u r7 h8) J<|U J<|O _ J<|O _ J<|Qt J J<|Qd 0 _ J<|qa J<|qx<|U J<|q7 a fun v bz a=>qv (Yd 1 0 1 v bz) J<|q7 a fun ca cb a=>qv (qf3 [b] v ca cb) J<|U J<|O _ J<|O _ J<|O _ J<|qa J<|qa J<|qa J<|qx<|U J<|O _ J<|q7 a fun x cc a=>qv (Yd 1 0 1 x cc) J<|q7 a fun cd ce a=>qv (qcb [b] ({X:=0,Y:=0,Z:=0} : qg) 0 x cd ce) J<|U J<|O _ J<|O _ J<|qa J<|qa J<|qx ?_;refine U J<|O _ J<|q7 a fun y cf a=>qv (Yd 1 0 1 y cf) J<|q7 a fun cg ch a=>qv (qcb [b] ({X:=0,Y:=0,Z:=0} : qg) 4 y cg ch) J<|U J<|O _ J<|O _ J<|qa J<|qa J<|qx<|U J<|q7 a fun z ci a=>qv (Yd 0 0 1 z ci) J<|q7 a fun aa cj a=>qv (q9a [b] 0 z aa cj) J<|U J<|O _ J<|O _ J<|qa J<|qa J<|qx<|q7 a fun s ck a=>qv (q6t 0 0 1 1 1 2 s ck) J<|qna (es:=6) ([s].map Q1) J J J J J<|q7 a fun ab cl a=>qv (Yd 1 0 1 ab cl) J<|q7 a fun ac cm a=>qv (q9a [s] 0 ab ac cm) J<|U J<|O _ J<|O _ J<|qa J<|qa J<|qx<|U J<|O _ J<|q7 a fun cn g a=>?_;refine Q9 5 (fun A st=>∃ ad ae af ag,st = A [(64,ql cn),(63,ag),(62,af),(61,ae),(60,ad)]) ?_ ?_
 ·refine Qa J J g (fun g=>?_) (fun g=>?_)
  ·refine O _ J<|O _ J<|O _ J<|O _ J<|q8 ?_;cases g;exact ⟨_,_,_,_,J⟩
  refine qb J<|qb J<|qb J<|O _ J<|q8 ?_;cases g;exact ⟨_,_,_,_,J⟩
 rintro _ ⟨ad,ae,af,ag,rfl⟩;refine q7 a fun co h a=>?_;refine Q9 4 (fun A st=>∃ ah ai aj,st = A [(68,ql co),(67,aj),(66,ai),(65,ah)]) ?_ ?_
 ·refine Qa J J h (fun h=>?_) (fun h=>?_)
  ·refine U J<|O _ J<|O _ J<|q8 ?_;cases h;exact ⟨_,_,_,J⟩
  refine qb J<|qb J<|O _ J<|q8 ?_;cases h;exact ⟨_,_,_,J⟩
 rintro _ ⟨ah,ai,aj,rfl⟩;refine q7 a fun cp j a=>?_;refine Q9 4 (fun A st=>∃ ak al am,st = A [(72,ql cp),(71,am),(70,al),(69,ak)]) ?_ ?_
 ·refine Qa J J j (fun j=>?_) (fun j=>?_)
  ·refine U J<|O _ J<|O _ J<|q8 ?_;cases j;exact ⟨_,_,_,J⟩
  refine qb J<|qb J<|O _ J<|q8 ?_;cases j;exact ⟨_,_,_,J⟩
 rintro _ ⟨ak,al,am,rfl⟩;refine q7 a fun cq k a=>?_;refine Q9 4 (fun A st=>∃ an ao ap,st = A [(76,ql cq),(75,ap),(74,ao),(73,an)]) ?_ ?_
 ·refine Qa J J k (fun k=>?_) (fun k=>?_)
  ·refine U J<|O _ J<|O _ J<|q8 ?_;cases k;exact ⟨_,_,_,J⟩
  refine qb J<|qb J<|O _ J<|q8 ?_;cases k;exact ⟨_,_,_,J⟩
 rintro _ ⟨an,ao,ap,rfl⟩;refine q7 a fun cr l a=>?_;refine Q9 4 (fun A st=>∃ aq ar au,st = A [(80,ql cr),(79,au),(78,ar),(77,aq)]) ?_ ?_
 ·refine Qa J J l (fun l=>?_) (fun l=>?_)
  ·refine U J<|O _ J<|O _ J<|q8 ?_;cases l;exact ⟨_,_,_,J⟩
  refine qb J<|qb J<|O _ J<|q8 ?_;cases l;exact ⟨_,_,_,J⟩
 rintro _ ⟨aq,ar,au,rfl⟩;refine q7 a fun cs m a=>?_;refine Q9 3 (fun A st=>∃ av aw,st = A [(83,ql cs),(82,aw),(81,av)]) ?_ ?_
 ·refine Qa J J m (fun m=>?_) (fun m=>?_)
  ·refine U J<|O _ J<|q8 ?_;cases m;exact ⟨_,_,J⟩
  refine qb J<|O _ J<|q8 ?_;cases m;exact ⟨_,_,J⟩
 rintro _ ⟨av,aw,rfl⟩;refine q7 a fun ct n a=>?_;refine Q9 4 (fun A st=>∃ ax ay az,st = A [(87,ql ct),(86,az),(85,ay),(84,ax)]) ?_ ?_
 ·refine Qa J J n (fun n=>?_) (fun n=>?_)
  ·refine U J<|O _ J<|O _ J<|q8 ?_;cases n;exact ⟨_,_,_,J⟩
  refine qb J<|qb J<|O _ J<|q8 ?_;cases n;exact ⟨_,_,_,J⟩
 rintro _ ⟨ax,ay,az,rfl⟩;refine q7 a fun cu o a=>?_;refine Q9 3 (fun A st=>∃ ba bb,st = A [(90,ql cu),(89,bb),(88,ba)]) ?_ ?_
 ·refine Qa J J o (fun o=>?_) (fun o=>?_)
  ·refine U J<|O _ J<|q8 ?_;cases o;exact ⟨_,_,J⟩
  refine qb J<|O _ J<|q8 ?_;cases o;exact ⟨_,_,J⟩
 rintro _ ⟨ba,bb,rfl⟩;refine q7 a fun cv p a=>?_;refine Q9 4 (fun A st=>∃ bc bd be,st = A [(94,ql cv),(93,be),(92,bd),(91,bc)]) ?_ ?_
 ·refine Qa J J p (fun p=>?_) (fun p=>?_)
  ·refine U J<|O _ J<|O _ J<|q8 ?_;cases p;exact ⟨_,_,_,J⟩
  refine qb J<|qb J<|O _ J<|q8 ?_;cases p;exact ⟨_,_,_,J⟩
 rintro _ ⟨bc,bd,be,rfl⟩;refine q7 a fun cw c a=>?_;refine Q9 5 (fun A st=>∃ bf bg bh bi,st = A [(99,ql cw),(98,bi),(97,bh),(96,bg),(95,bf)]) ?_ ?_
 ·refine Qa J J c (fun c=>?_) (fun c=>?_)
  ·refine U J<|q7 c fun bj cx c=>qv (qmf 0 0 1 1 bj cx) J<|q7 c fun cy cz c=>qv (qe8 aa.1 bj cy cz) J<|O _ J<|q8 ?_;cases c;exact ⟨_,_,_,_,J⟩
  refine qb J<|qb J<|qb J<|O _ J<|q8 ?_;cases c;exact ⟨_,_,_,_,J⟩
 rintro _ ⟨bf,bg,bh,bi,rfl⟩;refine q7 a fun da q a=>?_;refine Q9 4 (fun A st=>∃ bk bl bm,st = A [(103,ql da),(102,bm),(101,bl),(100,bk)]) ?_ ?_
 ·refine Qa J J q (fun q=>?_) (fun q=>?_)
  ·refine U J<|O _ J<|O _ J<|q8 ?_;cases q;exact ⟨_,_,_,J⟩
  refine qb J<|qb J<|O _ J<|q8 ?_;cases q;exact ⟨_,_,_,J⟩
 rintro _ ⟨bk,bl,bm,rfl⟩;refine q7 a fun dc f a=>?_;refine Q9 5 (fun A st=>∃ bn bo bp bq,st = A [(108,ql dc),(107,bq),(106,bp),(105,bo),(104,bn)]) ?_ ?_
 ·refine Qa J J f (fun f=>?_) (fun f=>?_)
  ·refine U J<|q7 f fun br dd f=>qv (qmf (-2) 0 0 1 br dd) J<|q7 f fun de df f=>qv (qe8 ac.1 br de df) J<|O _ J<|q8 ?_;cases f;exact ⟨_,_,_,_,J⟩
  refine qb J<|qb J<|qb J<|O _ J<|q8 ?_;cases f;exact ⟨_,_,_,_,J⟩
 rintro _ ⟨bn,bo,bp,bq,rfl⟩;refine qa J<|qw ?_;cases a;exact Q8 _ J
theorem q15l (r : Bool) (a : qdl = some r) : Pure Tryz.prog tab 6 [] (.bool r):=by
 unfold qdl at a;refine Qm Tryz.func6 J qi qi J<|qc<|qa J<|qx<|q7 a fun c h2 a=>qv (q6t 0 0 0 1 1 1 c h2) J<|Qj (.hs 0 6 0 [c].length) (.dat 6 ([c].map Q1)) J<|qa J<|qx<|q7 a fun b h4 a=>qv (Yd 0 0 1 b h4) J<|Qt J J<|Qd 1 (.dat 3 [[qd b.X,qd b.Y,qd b.Z]]) J<|q8<|qf<|Qk [q6,q6,q6,q6,q6,(none,[]),Q2 1,q6,(some [],[2]),q6] qi<|q7 a fun r5 h6 a=>qv (q6t 0 0 0 31 1 1 r5 h6) J<|Qj (.hs 2 6 0 [r5].length) (.dat 6 ([r5].map Q1)) J<|q7 a fun r7 h8 a=>qv (Yd 1 1 1 r7 h8) J<|O (.d (.agg [qd b.X,qd b.Y,qd b.Z])) J<|q7 a fun n gj a=>Zn [.hs 2 6 0 [r5].length,.d (.agg [qd r7.X,qd r7.Y,qd r7.Z]),.d (.agg [qd b.X,qd b.Y,qd b.Z])] (q4i [r5] r7 b n gj) J J (Ki (Yk J J) (Ki J (Ki J J))) (.inr J)<|U J<|O (ql n.1) J<|O (q9 n.2) J<|qa J<|qa J<|qx<|U J<|q7 a fun ae gk a=>qv (Yd 1 1 1 ae gk) J<|O (.d (.agg [qd 0,qd 0,qd 0])) J<|q7 a fun o gl a=>Zn [.hs 0 6 0 [c].length,.d (.agg [qd ae.X,qd ae.Y,qd ae.Z]),.d (.agg [qd 0,qd 0,qd 0])] (q4i [c] ae ({X:=0,Y:=0,Z:=0} : qg) o gl) J J (Ki (Yk J J) (Ki J (Ki J J))) (.inr J)<|U J<|O (ql o.1) J<|O (q9 o.2) J<|qa J ?_;refine qa J<|qx<|U J<|q7 a fun af gm a=>qv (Yd 1 1 1 af gm) J<|q7 a fun ag gn a=>qv (Yd 9 0 0 ag gn) J<|q7 a fun p go a=>Zn [.hs 0 6 0 [c].length,.d (.agg [qd af.X,qd af.Y,qd af.Z]),.d (.agg [qd ag.X,qd ag.Y,qd ag.Z])] (q4i [c] af ag p go) J J (Ki (Yk J J) (Ki J (Ki J J))) (.inr J)<|U J<|O (ql p.1) J<|O (q9 p.2) J<|qa J<|qa J<|q8<|qf<|Qk [q6,q6,q6,q6,q6,(none,[]),Q2 1,q6,q6] qi<|U J<|q7 a fun ah gp a=>qv (Yd 0 1 1 ah gp) J<|O (.d (.agg [qd b.X,qd b.Y,qd b.Z])) J<|q7 a fun q gq a=>Zn [.hs 0 6 0 [c].length,.d (.agg [qd ah.X,qd ah.Y,qd ah.Z]),.d (.agg [qd b.X,qd b.Y,qd b.Z])] (q4i [c] ah b q gq) J J (Ki (Yk J J) (Ki J (Ki J J))) (.inr J)<|U J<|O (ql q.1) J<|O (q9 q.2) J<|qa J<|qa J<|q8<|qf<|Qk [q6,q6,q6,q6,q6,(none,[]),Q2 1,q6,q6] qi<|U J<|q7 a fun ai gr a=>qv (Yd 1 1 241 ai gr) J<|O (.d (.agg [qd b.X,qd b.Y,qd b.Z])) J<|q7 a fun s gs a=>Zn [.hs 0 6 0 [c].length,.d (.agg [qd ai.X,qd ai.Y,qd ai.Z]),.d (.agg [qd b.X,qd b.Y,qd b.Z])] (q4i [c] ai b s gs) J J (Ki (Yk J J) (Ki J (Ki J J))) (.inr J)<|U J<|O (ql s.1) J<|O (q9 s.2) J ?_;refine qa J<|qa J<|q8<|qf<|Qk [q6,q6,q6,q6,q6,(none,[]),Q2 1,q6,q6] qi<|U J<|q7 a fun aj gt a=>qv (Yd 1 1 2 aj gt) J<|O (.d (.agg [qd b.X,qd b.Y,qd b.Z])) J<|q7 a fun k gu a=>Zn [.hs 0 6 0 [c].length,.d (.agg [qd aj.X,qd aj.Y,qd aj.Z]),.d (.agg [qd b.X,qd b.Y,qd b.Z])] (q4i [c] aj b k gu) J J (Ki (Yk J J) (Ki J (Ki J J))) (.inr J)<|U J<|O (ql k.1) J<|O (q9 k.2) J<|qa J<|qa J<|q8<|qf ?_;refine Yx (st':=⟨[(1,.d (.sl 6 ([c].map Q1))),(2,.ref 0 3 0 0),(4,q9 n.2),(6,q9 o.2),(8,q9 p.2),(10,q9 q.2),(12,q9 s.2),(13,ql k.1),(14,q9 k.2)],[(0,.dat 3 [[qd b.X,qd b.Y,qd b.Z]])],1⟩) (wkA [(0,1)] [0] []) ?_ qe;refine Qk [q6,Qv 1,(some [],[1]),q6,q6,q6,q6,Q2 0,q6,q6] qi<|U J<|q7 a fun bn gv a=>qv (Yd 1 1 2 bn gv) J<|O (.d (.agg [qd b.X,qd b.Y,qd b.Z])) J<|q7 a fun l gw a=>qv (q96 [c] bn b l gw) J<|U J<|O (.d (.agg [qd l.1.Num,qd l.1.Den])) J<|O (q9 l.2) J<|Qt J J<|Qd 1 (.dat 2 [[qd l.1.Num,qd l.1.Den]]) J<|qa J<|q8<|qf<|Qk [q6,Qv 2,(some [],[2]),q6,q6,q6,q6,Q2 0,q6,q6] qi<|U J<|q7 a fun bo gy a=>qv (Yd 1 1 0 bo gy) J<|O (.d (.agg [qd b.X,qd b.Y,qd b.Z])) J<|q7 a fun f gz a=>qv (q96 [c] bo b f gz) J<|U J<|O (.d (.agg [qd f.1.Num,qd f.1.Den])) J<|O (q9 f.2) J<|Qt J J<|Qd 2 (.dat 2 [[qd f.1.Num,qd f.1.Den]]) J<|qa J<|q8<|qf<|Qk [q6,Qv 3,(some [],[3]),q6,q6,q6,q6,Q2 0,q6,q6] qi<|U J<|q7 a fun bp ha a=>qv (Yd 1 1 1 bp ha) J<|O (.d (.agg [qd b.X,qd b.Y,qd b.Z])) J<|q7 a fun g hb a=>qv (q96 [c] bp b g hb) J<|U J<|O (.d (.agg [qd g.1.Num,qd g.1.Den])) J<|O (q9 g.2) J ?_;refine Qt J J<|Qd 3 (.dat 2 [[qd g.1.Num,qd g.1.Den]]) J<|qa J<|q8<|qf<|Qk [q6,q6,q6,q6,q6,q6,Q2 0,q6,q6] qi<|U J<|q7 a fun bq hc a=>qv (Yd 0 0 0 bq hc) J<|O (.d (.agg [qd b.X,qd b.Y,qd b.Z])) J<|q7 a fun x hd a=>qv (qcb [c] bq 6 b x hd) J<|U J<|O (ql x.1) J<|O (q9 x.2) J<|qa J<|qa J<|q8<|qf<|Qk [q6,q6,q6,q6,q6,q6,Q2 0,q6,q6] qi<|U J<|q7 a fun br he a=>qv (Yd 1 0 0 br he) J<|O (.d (.agg [qd b.X,qd b.Y,qd b.Z])) J<|q7 a fun y hf a=>qv (qcb [c] br 0 b y hf) J<|U J<|O (ql y.1) J<|O (q9 y.2) J<|qa J<|qa J<|qx<|U J<|q7 a fun bs hg a=>qv (Yd 1 0 0 bs hg) J<|q7 a fun z hh a=>qv (q9a [c] 0 bs z hh) J<|U J<|O (.d (.sl 4 (z.1.map Qe))) J<|O (q9 z.2) J ?_;refine qa J<|qa J<|qx<|U J<|O (.d (.agg [qd b.X,qd b.Y,qd b.Z])) J<|q7 a fun aa hi a=>qv (q9a [c] 31 b aa hi) J<|U J<|O (.d (.sl 4 (aa.1.map Qe))) J<|O (q9 aa.2) J<|qa J<|qa J<|qx<|U J<|O (.d (.agg [qd b.X,qd b.Y,qd b.Z])) J<|q7 a fun m hj a=>qv (q9a [c] 1 b m hj) J<|U J<|O (.d (.sl 4 (m.1.map Qe))) J<|O (q9 m.2) J<|qa J<|qa J<|qx<|O (.d (.agg [qd 0,qd 0,qd 0,qd 0,qd 0,qd 0])) J<|Qj (.hs 4 6 0 [({Lo:=({X:=0,Y:=0,Z:=0} : qg),Hi:=({X:=0,Y:=0,Z:=0} : qg)} : qh)].length) (.dat 6 ([({Lo:=({X:=0,Y:=0,Z:=0} : qg),Hi:=({X:=0,Y:=0,Z:=0} : qg)} : qh)].map Q1)) J<|O (.d (.agg [qd b.X,qd b.Y,qd b.Z])) J<|q7 a fun t hk a=>Zn [.hs 4 6 0 [({Lo:=({X:=0,Y:=0,Z:=0} : qg),Hi:=({X:=0,Y:=0,Z:=0} : qg)} : qh)].length,.d (.agg [qd b.X,qd b.Y,qd b.Z])] (qf3 [({Lo:=({X:=0,Y:=0,Z:=0} : qg),Hi:=({X:=0,Y:=0,Z:=0} : qg)} : qh)] b t hk) J J (Ki (Yk J J) (Ki J J)) (.inr J)<|U J<|O (q9 t.1) J<|O (q9 t.2.1) J<|O (q9 t.2.2) J<|qa J<|qa J<|qa J<|qx<|O (.d (.agg [qd b.X,qd b.Y,qd b.Z])) J<|q7 a fun j hl a=>qv (q70 (.cons (.nil _) (.cons (.refl _) .nil)) (qf3 [] b j hl)) J<|U J ?_;refine O (q9 j.1) J<|O (q9 j.2.1) J<|O (q9 j.2.2) J<|qa J<|qa J<|qa J<|qx<|q7 a fun u hm a=>qv (q6t 0 0 0 1 2 1 u hm) J<|q7 a fun v hn a=>qv (q6t 1 0 0 2 1 1 v hn) J<|Qj (.hs 5 6 0 [u,v].length) (.dat 6 ([u,v].map Q1)) J<|qa J<|qx<|U J<|q7 a fun ak ho a=>qv (Yd 2 (-1) 1 ak ho) J<|q7 a fun al hp a=>qv (Yd 0 1 0 al hp) J<|q7 a fun ab hr a=>Zn [.hs 5 6 0 [u,v].length,.d (.agg [qd ak.X,qd ak.Y,qd ak.Z]),.d (.agg [qd al.X,qd al.Y,qd al.Z])] (q4i [u,v] ak al ab hr) J J (Ki (Yk J J) (Ki J (Ki J J))) (.inr J)<|U J<|O (ql ab.1) J<|O (q9 ab.2) J<|qa J<|qa J<|q8<|qf ?_;refine Yx (st':=⟨[(4,q9 n.2),(6,q9 o.2),(8,q9 p.2),(10,q9 q.2),(12,q9 s.2),(13,ql k.1),(14,q9 k.2),(16,q9 l.2),(17,.ref 0 2 0 0),(18,q9 f.2),(19,.ref 1 2 0 0),(20,q9 g.2),(22,q9 x.2),(24,q9 y.2),(26,q9 z.2),(28,q9 aa.2),(29,.d (.sl 4 (m.1.map Qe))),(30,q9 m.2),(33,q9 t.2.2),(34,q9 j.1),(35,q9 j.2.1),(36,q9 j.2.2),(37,.d (.sl 6 ([u,v].map Q1))),(39,q9 ab.2)],[(0,.dat 2 [[qd f.1.Num,qd f.1.Den]]),(1,.dat 2 [[qd g.1.Num,qd g.1.Den]])],2⟩) (wkA [(0,2),(1,3)] [5] []) ?_ qe;refine Q6<|U J<|q7 a fun bt ht a=>qv (Yd 3 (-1) 1 bt ht) J<|q7 a fun bu hu a=>qv (Yd 0 1 0 bu hu) J<|q7 a fun h hv a=>qv (q96 [u,v] bt bu h hv) J<|U J<|O (.d (.agg [qd h.1.Num,qd h.1.Den])) J<|O (q9 h.2) J<|Qt J J<|Qd 2 (.dat 2 [[qd h.1.Num,qd h.1.Den]]) J<|qa J<|qx<|U J<|q7 a fun bv hw a=>qv (qme bv hw) J<|O (ql bv) J<|q7 a fun hx am a=>?_;refine Q9 4 (fun A st=>∃ (bw bz ca : V),st = A [(178,ql hx),(177,ca),(176,bz),(175,bw)]) ?_ ?_
 ·refine Qa J J am (fun am=>?_) (fun am=>?_)
  ·refine U J<|O (ql (n.2 == 16)) J<|O (ql (n.2 == 16)) J<|q8 ?_;cases am;exact ⟨_,_,_,J⟩
  refine qb J<|qb J<|O (ql false) J<|q8 ?_;cases am;exact ⟨_,_,_,J⟩
 rintro _ ⟨bw,bz,ca,rfl⟩;refine q7 a fun hy an a=>?_;refine Q9 4 (fun A st=>∃ (cb cc cd : V),st = A [(182,ql hy),(181,cd),(180,cc),(179,cb)]) ?_ ?_
 ·refine Qa J J an (fun an=>?_) (fun an=>?_)
  ·refine U J<|O (ql (o.2 == 2)) J<|O (ql (o.2 == 2)) J<|q8 ?_;cases an;exact ⟨_,_,_,J⟩
  refine qb J<|qb J<|O (ql false) J<|q8 ?_;cases an;exact ⟨_,_,_,J⟩
 rintro _ ⟨cb,cc,cd,rfl⟩;refine q7 a fun hz ao a=>?_;refine Q9 4 (fun A st=>∃ (ce cf cg : V),st = A [(186,ql hz),(185,cg),(184,cf),(183,ce)]) ?_ ?_
 ·refine Qa J J ao (fun ao=>?_) (fun ao=>?_)
  ·refine U J<|O (ql (p.2 == 2)) J<|O (ql (p.2 == 2)) J<|q8 ?_;cases ao;exact ⟨_,_,_,J⟩
  refine qb J<|qb J<|O (ql false) J<|q8 ?_;cases ao;exact ⟨_,_,_,J⟩
 rintro _ ⟨ce,cf,cg,rfl⟩;refine q7 a fun ja ap a=>?_;refine Q9 4 (fun A st=>∃ (ch ci cj : V),st = A [(190,ql ja),(189,cj),(188,ci),(187,ch)]) ?_ ?_
 ·refine Qa J J ap (fun ap=>?_) (fun ap=>?_)
  ·refine U J<|O (ql (q.2 == 2)) J<|O (ql (q.2 == 2)) J<|q8 ?_;cases ap;exact ⟨_,_,_,J⟩
  refine qb J<|qb J<|O (ql false) J<|q8 ?_;cases ap;exact ⟨_,_,_,J⟩
 rintro _ ⟨ch,ci,cj,rfl⟩;refine q7 a fun jb aq a=>?_;refine Q9 4 (fun A st=>∃ (ck cl cm : V),st = A [(194,ql jb),(193,cm),(192,cl),(191,ck)]) ?_ ?_
 ·refine Qa J J aq (fun aq=>?_) (fun aq=>?_)
  ·refine U J<|O (ql (s.2 == 2)) J<|O (ql (s.2 == 2)) J<|q8 ?_;cases aq;exact ⟨_,_,_,J⟩
  refine qb J<|qb J<|O (ql false) J<|q8 ?_;cases aq;exact ⟨_,_,_,J⟩
 rintro _ ⟨ck,cl,cm,rfl⟩;refine q7 a fun jc ar a=>?_;refine Q9 4 (fun A st=>∃ (cn co cp : V),st = A [(198,ql jc),(197,cp),(196,co),(195,cn)]) ?_ ?_
 ·refine Qa J J ar (fun ar=>?_) (fun ar=>?_)
  ·refine U J<|O (ql (k.2 == 0)) J<|O (ql (k.2 == 0)) J<|q8 ?_;cases ar;exact ⟨_,_,_,J⟩
  refine qb J<|qb J<|O (ql false) J<|q8 ?_;cases ar;exact ⟨_,_,_,J⟩
 rintro _ ⟨cn,co,cp,rfl⟩;refine q7 a fun jd au a=>?_;refine Q9 3 (fun A st=>∃ (cq cr : V),st = A [(201,ql jd),(200,cr),(199,cq)]) ?_ ?_
 ·refine Qa J J au (fun au=>?_) (fun au=>?_)
  ·refine U J<|O (ql k.1) J<|q8 ?_;cases au;exact ⟨_,_,J⟩
  refine qb J<|O (ql false) J<|q8 ?_;cases au;exact ⟨_,_,J⟩
 rintro _ ⟨cq,cr,rfl⟩;refine q7 a fun je av a=>?_;refine Q9 4 (fun A st=>∃ (cs ct cu : V),st = A [(205,ql je),(204,cu),(203,ct),(202,cs)]) ?_ ?_
 ·refine Qa J J av (fun av=>?_) (fun av=>?_)
  ·refine U J<|O (ql (l.2 == 6)) J<|O (ql (l.2 == 6)) J<|q8 ?_;cases av;exact ⟨_,_,_,J⟩
  refine qb J<|qb J<|O (ql false) J<|q8 ?_;cases av;exact ⟨_,_,_,J⟩
 rintro _ ⟨cs,ct,cu,rfl⟩;refine q7 a fun jf aw a=>?_;refine Q9 4 (fun A st=>∃ (cv cw cx : V),st = A [(209,ql jf),(208,cx),(207,cw),(206,cv)]) ?_ ?_
 ·refine Qa J J aw (fun aw=>?_) (fun aw=>?_)
  ·refine U J<|O (ql (f.2 == 0)) J<|O (ql (f.2 == 0)) J<|q8 ?_;cases aw;exact ⟨_,_,_,J⟩
  refine qb J<|qb J<|O (ql false) J<|q8 ?_;cases aw;exact ⟨_,_,_,J⟩
 rintro _ ⟨cv,cw,cx,rfl⟩;refine q7 a fun jg ax a=>?_;refine Q9 5 (fun A st=>∃ (cy cz da dc : V),st = A [(214,ql jg),(213,dc),(212,da),(211,cz),(210,cy)]) ?_ ?_
 ·refine Qa J J ax (fun ax=>?_) (fun ax=>?_)
  ·refine O (.d (.agg [qd f.1.Num,qd f.1.Den])) J<|O (.d (.agg [qd 0,qd 1])) J<|O (.d (.bool ((f.1.Num == 0) && ((f.1.Den == 1) && true)))) J<|O (.d (.bool ((f.1.Num == 0) && ((f.1.Den == 1) && true)))) J<|q8 ?_;cases ax;exact ⟨_,_,_,_,J⟩
  refine qb J<|qb J<|qb J<|O (ql false) J<|q8 ?_;cases ax;exact ⟨_,_,_,_,J⟩
 rintro _ ⟨cy,cz,da,dc,rfl⟩;refine q7 a fun jh ay a=>?_;refine Q9 4 (fun A st=>∃ (dd de df : V),st = A [(218,ql jh),(217,df),(216,de),(215,dd)]) ?_ ?_
 ·refine Qa J J ay (fun ay=>?_) (fun ay=>?_)
  ·refine U J<|O (ql (g.2 == 0)) J<|O (ql (g.2 == 0)) J<|q8 ?_;cases ay;exact ⟨_,_,_,J⟩
  refine qb J<|qb J<|O (ql false) J<|q8 ?_;cases ay;exact ⟨_,_,_,J⟩
 rintro _ ⟨dd,de,df,rfl⟩;refine q7 a fun ji az a=>?_;refine Q9 5 (fun A st=>∃ (dg dh dj dk : V),st = A [(223,ql ji),(222,dk),(221,dj),(220,dh),(219,dg)]) ?_ ?_
 ·refine Qa J J az (fun az=>?_) (fun az=>?_)
  ·refine O (.d (.agg [qd g.1.Num,qd g.1.Den])) J<|O (.d (.agg [qd 0,qd 1])) J<|O (.d (.bool ((g.1.Num == 0) && ((g.1.Den == 1) && true)))) J<|O (.d (.bool ((g.1.Num == 0) && ((g.1.Den == 1) && true)))) J<|q8 ?_;cases az;exact ⟨_,_,_,_,J⟩
  refine qb J<|qb J<|qb J<|O (ql false) J<|q8 ?_;cases az;exact ⟨_,_,_,_,J⟩
 rintro _ ⟨dg,dh,dj,dk,rfl⟩;refine q7 a fun jj ba a=>?_;refine Q9 4 (fun A st=>∃ (dl dm dn : V),st = A [(227,ql jj),(226,dn),(225,dm),(224,dl)]) ?_ ?_
 ·refine Qa J J ba (fun ba=>?_) (fun ba=>?_)
  ·refine U J<|O (ql (x.2 == 2)) J<|O (ql (x.2 == 2)) J<|q8 ?_;cases ba;exact ⟨_,_,_,J⟩
  refine qb J<|qb J<|O (ql false) J<|q8 ?_;cases ba;exact ⟨_,_,_,J⟩
 rintro _ ⟨dl,dm,dn,rfl⟩;refine q7 a fun jk bb a=>?_;refine Q9 4 (fun A st=>∃ (dp dq dr : V),st = A [(231,ql jk),(230,dr),(229,dq),(228,dp)]) ?_ ?_
 ·refine Qa J J bb (fun bb=>?_) (fun bb=>?_)
  ·refine U J<|O (ql (y.2 == 6)) J<|O (ql (y.2 == 6)) J<|q8 ?_;cases bb;exact ⟨_,_,_,J⟩
  refine qb J<|qb J<|O (ql false) J<|q8 ?_;cases bb;exact ⟨_,_,_,J⟩
 rintro _ ⟨dp,dq,dr,rfl⟩;refine q7 a fun jl bc a=>?_;refine Q9 4 (fun A st=>∃ (ds dt du : V),st = A [(235,ql jl),(234,du),(233,dt),(232,ds)]) ?_ ?_
 ·refine Qa J J bc (fun bc=>?_) (fun bc=>?_)
  ·refine U J<|O (ql (z.2 == 2)) J<|O (ql (z.2 == 2)) J<|q8 ?_;cases bc;exact ⟨_,_,_,J⟩
  refine qb J<|qb J<|O (ql false) J<|q8 ?_;cases bc;exact ⟨_,_,_,J⟩
 rintro _ ⟨ds,dt,du,rfl⟩;refine q7 a fun jm bd a=>?_;refine Q9 4 (fun A st=>∃ (dv dw dx : V),st = A [(239,ql jm),(238,dx),(237,dw),(236,dv)]) ?_ ?_
 ·refine Qa J J bd (fun bd=>?_) (fun bd=>?_)
  ·refine U J<|O (ql (aa.2 == 2)) J<|O (ql (aa.2 == 2)) J<|q8 ?_;cases bd;exact ⟨_,_,_,J⟩
  refine qb J<|qb J<|O (ql false) J<|q8 ?_;cases bd;exact ⟨_,_,_,J⟩
 rintro _ ⟨dv,dw,dx,rfl⟩;refine q7 a fun jn be a=>?_;refine Q9 4 (fun A st=>∃ (dy dz fa : V),st = A [(243,ql jn),(242,fa),(241,dz),(240,dy)]) ?_ ?_
 ·refine Qa J J be (fun be=>?_) (fun be=>?_)
  ·refine U J<|O (ql (m.2 == 0)) J<|O (ql (m.2 == 0)) J<|q8 ?_;cases be;exact ⟨_,_,_,J⟩
  refine qb J<|qb J<|O (ql false) J<|q8 ?_;cases be;exact ⟨_,_,_,J⟩
 rintro _ ⟨dy,dz,fa,rfl⟩;refine q7 a fun jo bf a=>?_;refine Q9 5 (fun A st=>∃ (fb fc fd fe : V),st = A [(248,ql jo),(247,fe),(246,fd),(245,fc),(244,fb)]) ?_ ?_
 ·refine Qa J J bf (fun bf=>?_) (fun bf=>?_)
  ·refine U J<|K1 J<|O (.d (.bool ((m.1.length : Int) == 0))) J<|O (.d (.bool ((m.1.length : Int) == 0))) J<|q8 ?_;cases bf;exact ⟨_,_,_,_,J⟩
  refine qb J<|qb J<|qb J<|O (ql false) J<|q8 ?_;cases bf;exact ⟨_,_,_,_,J⟩
 rintro _ ⟨fb,fc,fd,fe,rfl⟩;refine q7 a fun jp bg a=>?_;refine Q9 4 (fun A st=>∃ (ff fg fh : V),st = A [(252,ql jp),(251,fh),(250,fg),(249,ff)]) ?_ ?_
 ·refine Qa J J bg (fun bg=>?_) (fun bg=>?_)
  ·refine U J<|O (ql (t.2.2 == 8)) J<|O (ql (t.2.2 == 8)) J<|q8 ?_;cases bg;exact ⟨_,_,_,J⟩
  refine qb J<|qb J<|O (ql false) J<|q8 ?_;cases bg;exact ⟨_,_,_,J⟩
 rintro _ ⟨ff,fg,fh,rfl⟩;refine q7 a fun jq bh a=>?_;refine Q9 4 (fun A st=>∃ (fi fj fk : V),st = A [(256,ql jq),(255,fk),(254,fj),(253,fi)]) ?_ ?_
 ·refine Qa J J bh (fun bh=>?_) (fun bh=>?_)
  ·refine U J<|O (ql (j.2.2 == 0)) J<|O (ql (j.2.2 == 0)) J<|q8 ?_;cases bh;exact ⟨_,_,_,J⟩
  refine qb J<|qb J<|O (ql false) J<|q8 ?_;cases bh;exact ⟨_,_,_,J⟩
 rintro _ ⟨fi,fj,fk,rfl⟩;refine q7 a fun jr bi a=>?_;refine Q9 4 (fun A st=>∃ (fm fn fo : V),st = A [(260,ql jr),(259,fo),(258,fn),(257,fm)]) ?_ ?_
 ·refine Qa J J bi (fun bi=>?_) (fun bi=>?_)
  ·refine U J<|O (ql (j.1 == 0)) J<|O (ql (j.1 == 0)) J<|q8 ?_;cases bi;exact ⟨_,_,_,J⟩
  refine qb J<|qb J<|O (ql false) J<|q8 ?_;cases bi;exact ⟨_,_,_,J⟩
 rintro _ ⟨fm,fn,fo,rfl⟩;refine q7 a fun js bj a=>?_;refine Q9 4 (fun A st=>∃ (fq fs ft : V),st = A [(264,ql js),(263,ft),(262,fs),(261,fq)]) ?_ ?_
 ·refine Qa J J bj (fun bj=>?_) (fun bj=>?_)
  ·refine U J<|O (ql (j.2.1 == 0)) J<|O (ql (j.2.1 == 0)) J<|q8 ?_;cases bj;exact ⟨_,_,_,J⟩
  refine qb J<|qb J<|O (ql false) J<|q8 ?_;cases bj;exact ⟨_,_,_,J⟩
 rintro _ ⟨fq,fs,ft,rfl⟩;refine q7 a fun jt bk a=>?_;refine Q9 4 (fun A st=>∃ (fu fv fw : V),st = A [(268,ql jt),(267,fw),(266,fv),(265,fu)]) ?_ ?_
 ·refine Qa J J bk (fun bk=>?_) (fun bk=>?_)
  ·refine U J<|O (ql (ab.2 == 2)) J<|O (ql (ab.2 == 2)) J<|q8 ?_;cases bk;exact ⟨_,_,_,J⟩
  refine qb J<|qb J<|O (ql false) J<|q8 ?_;cases bk;exact ⟨_,_,_,J⟩
 rintro _ ⟨fu,fv,fw,rfl⟩;refine q7 a fun ju bl a=>?_;refine Q9 4 (fun A st=>∃ (fx fy fz : V),st = A [(272,ql ju),(271,fz),(270,fy),(269,fx)]) ?_ ?_
 ·refine Qa J J bl (fun bl=>?_) (fun bl=>?_)
  ·refine U J<|O (ql (h.2 == 0)) J<|O (ql (h.2 == 0)) J<|q8 ?_;cases bl;exact ⟨_,_,_,J⟩
  refine qb J<|qb J<|O (ql false) J<|q8 ?_;cases bl;exact ⟨_,_,_,J⟩
 rintro _ ⟨fx,fy,fz,rfl⟩;refine q7 a fun ga bm a=>?_;refine Q9 5 (fun A st=>∃ (gb gc gd ge : V),st = A [(277,ql ga),(276,ge),(275,gd),(274,gc),(273,gb)]) ?_ ?_
 ·refine Qa J J bm (fun bm=>?_) (fun bm=>?_)
  ·refine O (.d (.agg [qd h.1.Num,qd h.1.Den])) J<|O (.d (.agg [qd 1,qd 2])) J<|O (.d (.bool ((h.1.Num == 1) && ((h.1.Den == 2) && true)))) J<|O (.d (.bool ((h.1.Num == 1) && ((h.1.Den == 2) && true)))) J<|q8 ?_;cases bm;exact ⟨_,_,_,_,J⟩
  refine qb J<|qb J<|qb J<|O (ql false) J<|q8 ?_;cases bm;exact ⟨_,_,_,_,J⟩
 rintro _ ⟨gb,gc,gd,ge,rfl⟩;refine qa J<|qw ?_;obtain rfl:=Q0 a;exact Q8 (ql ga) J
theorem qus (d : List qh) (f : qg) (r : Bool) (c : qa2 d f = some r) : Pure Tryz.prog tab 28 [.sl 6 (d.map Q1),.agg (Qh f)] (.bool r):=by
 unfold qa2 at c;refine Qm Tryz.func28 J qi qi J<|qc<|Qj _ _ J<|qa J<|qx<|U J<|K1 J<|O _ J<|q7 c fun p a c=>?_;refine Q9 4 (fun A st=>∃ g h j,st = A [(11,ql p),(10,j),(9,h),(8,g)]) ?_ ?_
 ·refine Qa J J a (fun a=>?_) (fun a=>?_)
  ·refine U J<|q7 a fun q s a=>qv (qi1 d q s) J<|O _ J<|q8 ?_;cases a;exact ⟨_,_,_,J⟩
  refine qb J<|qb J<|O _ J<|q8 ?_;cases a;exact ⟨_,_,_,J⟩
 rintro _ ⟨g,h,j,rfl⟩;refine q7 c fun t b c=>?_;refine Q9 6 (fun A st=>∃ k l m n o,st = A [(17,ql t),(16,o),(15,n),(14,m),(13,l),(12,k)]) ?_ ?_
 ·refine Qa J J b (fun b=>?_) (fun b=>?_)
  ·refine U J<|O _ J<|q7 b fun u v b=>qv (q5k d f u v) J<|O _ J<|O _ J<|q8 ?_;cases b;exact ⟨_,_,_,_,_,J⟩
  refine qb J<|qb J<|qb J<|qb J<|O _ J<|q8 ?_;cases b;exact ⟨_,_,_,_,_,J⟩
 rintro _ ⟨k,l,m,n,o,rfl⟩;refine qa J<|qw ?_;cases c;exact Q8 _ J
theorem qh4 (h : List qh) (b : qg) (c : qg) (f : Qr) (r : Bool) (g : q56 h b c f = some r) : Pure Tryz.prog tab 31 [.sl 6 (h.map Q1),.agg (Qh b),.agg (Qh c),.agg (Kp f)] (.bool r):=by
 unfold q56 at g;refine Qm Tryz.func31 J qi qi J<|qc<|Qj _ _ J<|Qj _ _ J<|Qj _ _ J<|qa J<|q8<|qf<|qc<|qa J<|q8<|q7 g fun k m g=>?_;refine Qn (fun j=>.inl j = k) (fun j=>⟨[],[],0⟩) qe ?_ ?_
 ·refine Ql (q6u h b c f) (fun l=>⟨[(0,.d (.sl 6 (h.map Q1))),(5,.ref 0 3 0 0),(6,.ref 1 3 0 0),(7,.ref 2 2 0 0),(9,q9 l)],[(0,.dat 3 [(Qh b)]),(1,.dat 3 [(Qh c)]),(2,.dat 2 [(Kp f)])],3⟩) _ k m (wkA [(0,0),(1,1),(2,2)] [] []) ?_;intro l s a;unfold q6u at a;refine qf<|qc<|U J<|U J<|K1 J<|O _ J<|q8 ?_;refine qm J a (fun _ a=>?_) (fun _ a=>?_)
  ·refine qn<|qf<|Qc<|qf<|Qk [q6,Q2 2,Q2 1,Q2 0,q6,q6,q6,q6] qi<|U J<|U J<|q7 a fun n o a=>Qq o J<|O _ J<|O _ J<|O _ J<|O _ J<|q7 a fun p q a=>qv (qod n b c f p q) J<|q8 ?_;refine qm J a (fun _ a=>?_) (fun _ a=>?_)
   ·refine qc<|qa J<|qw ?_;refine ⟨_,qt a,fun hm=>?_⟩;subst hm;cases g;exact Q8 _ J
   refine qn<|Qo<|Qs<|Q6<|U J<|O _ J<|qa J<|Q4<|⟨_,qt a,wkA [(0,0),(1,1),(2,2)] [] []⟩
  refine Qf ?_;refine ⟨_,qt a,fun hm=>?_⟩;subst hm;exact ⟨_,J,wkA [] [] []⟩
 intro j hb;subst hb;refine qc<|qa J<|qw ?_;cases g;exact Q8 _ J
theorem q15n (d : List qh) (f : qg) (b : qg) (x : Int) (y : Int) (r : Bool) (a : qdn d f b x y = some r) : Pure Tryz.prog tab 7 [.sl 6 (d.map Q1),.agg (Qh f),.agg (Qh b),.int .u16 x,.int .u16 y] (.bool r):=by
 unfold qdn at a;refine Qm Tryz.func7 J qi qi J<|qc<|Qj _ _ J<|Qj _ _ J<|qa J<|qx<|q7 a fun r1 h2 a=>qv (qme r1 h2) J<|qa J<|q8<|qf<|qc<|U J<|O _ J<|q7 a fun r3 h4 a=>qv (qus d b r3 h4) J<|O _ J<|q7 a fun c7 g a=>?_;refine Q9 6 (fun A st=>∃ j9 ab ac ad ae,st = A [(30,ql c7),(29,ae),(28,ad),(27,ac),(26,ab),(25,j9)]) ?_ ?_
 ·refine Qa J J g (fun g=>?_) (fun g=>?_)
  ·refine qb J<|qb J<|qb J<|qb J<|O _ J<|q8 ?_;cases g;exact ⟨_,_,_,_,_,J⟩
  refine O _ J<|O _ J<|q7 g fun cw cx g=>qv (qy4 f b cw cx) J<|O _ J<|O _ J<|q8 ?_;cases g;exact ⟨_,_,_,_,_,J⟩
 rintro _ ⟨j9,ab,ac,ad,ae,rfl⟩;refine q7 a fun cy l a=>?_;refine Q9 4 (fun A st=>∃ af ag ah,st = A [(34,ql cy),(33,ah),(32,ag),(31,af)]) ?_ ?_
 ·refine Qa J J l (fun l=>?_) (fun l=>?_)
  ·refine qb J<|qb J<|O _ J<|q8 ?_;cases l;exact ⟨_,_,_,J⟩
  refine U J<|O _ J<|O _ J<|q8 ?_;cases l;exact ⟨_,_,_,J⟩
 rintro _ ⟨af,ag,ah,rfl⟩;refine q7 a fun cz m a=>?_;refine Q9 4 (fun A st=>∃ ai aj ak,st = A [(38,ql cz),(37,ak),(36,aj),(35,ai)]) ?_ ?_
 ·refine Qa J J m (fun m=>?_) (fun m=>?_)
  ·refine qb J<|qb J<|O _ J<|q8 ?_;cases m;exact ⟨_,_,_,J⟩
  refine U J<|O _ J<|O _ J<|q8 ?_;cases m;exact ⟨_,_,_,J⟩
 rintro _ ⟨ai,aj,ak,rfl⟩;refine q7 a fun da n a=>?_;refine Q9 4 (fun A st=>∃ al am an,st = A [(42,ql da),(41,an),(40,am),(39,al)]) ?_ ?_
 ·refine Qa J J n (fun n=>?_) (fun n=>?_)
  ·refine qb J<|qb J<|O _ J<|q8 ?_;cases n;exact ⟨_,_,_,J⟩
  refine U J<|O _ J<|O _ J<|q8 ?_;cases n;exact ⟨_,_,_,J⟩
 rintro _ ⟨al,am,an,rfl⟩;refine q7 a fun dc o a=>?_;refine Q9 4 (fun A st=>∃ ao ap aq,st = A [(46,ql dc),(45,aq),(44,ap),(43,ao)]) ?_ ?_
 ·refine Qa J J o (fun o=>?_) (fun o=>?_)
  ·refine qb J<|qb J<|O _ J<|q8 ?_;cases o;exact ⟨_,_,_,J⟩
  refine U J<|O _ J<|O _ J<|q8 ?_;cases o;exact ⟨_,_,_,J⟩
 rintro _ ⟨ao,ap,aq,rfl⟩;refine q7 a fun dd p a=>?_;refine Q9 4 (fun A st=>∃ ar au av,st = A [(50,ql dd),(49,av),(48,au),(47,ar)]) ?_ ?_
 ·refine Qa J J p (fun p=>?_) (fun p=>?_)
  ·refine qb J<|qb J<|O _ J<|q8 ?_;cases p;exact ⟨_,_,_,J⟩
  refine U J<|O _ J<|O _ J<|q8 ?_;cases p;exact ⟨_,_,_,J⟩
 rintro _ ⟨ar,au,av,rfl⟩;refine q8 ?_;refine qm J a (fun _ a=>?_) (fun _ a=>?_)
 ·refine qc<|U J<|qa J<|qw ?_;cases a;exact Q8 _ J
 refine qn<|qc<|U J<|O _ J<|U J<|O _ J<|q7 a fun v de a=>qv (qe0 (w64 x) (w64 y) v de) J<|U J<|O _ J<|O _ J<|Qt J J<|Qd 2 _ J<|qa J<|q8<|qf<|qc<|U J<|O _ J<|q8 ?_;refine qm J a (fun _ a=>?_) (fun _ a=>?_)
 ·refine qc<|qa J<|qw ?_;cases a;exact Q8 _ J
 refine qn<|qc<|U J<|O _ J<|O _ J<|q7 a fun df dg a=>qv (q4i d f b df dg) J<|U J<|O _ J<|O _ J<|qa J<|qa J<|qx<|U J<|O _ J<|O _ J<|q7 a fun z dh a=>qv (q96 d f b z dh) J<|U J<|O _ J<|O _ J<|Qt J J<|Qd 3 _ J<|qa J<|q8<|qf<|qc<|U J<|O _ J<|q7 a fun dj q a=>?_;refine Q9 6 (fun A st=>∃ aw ax ay az ba,st = A [(83,ql dj),(82,ba),(81,az),(80,ay),(79,ax),(78,aw)]) ?_ ?_
 ·refine Qa J J q (fun q=>?_) (fun q=>?_)
  ·refine qb J<|qb J<|qb J<|qb J<|O _ J<|q8 ?_;cases q;exact ⟨_,_,_,_,_,J⟩
  refine U J<|U J<|O _ J<|O _ J<|O _ J<|q8 ?_;cases q;exact ⟨_,_,_,_,_,J⟩
 rintro _ ⟨aw,ax,ay,az,ba,rfl⟩;refine q8 ?_;refine qm J a (fun _ a=>?_) (fun _ a=>?_)
 ·refine qc<|qa J<|qw ?_;cases a;exact Q8 _ J
 refine qn<|qf<|qc<|U J<|q8 ?_;refine qm J a (fun _ a=>?_) (fun _ a=>?_)
 ·refine qc<|U J<|q7 a fun dk h a=>?_;refine Q9 8 (fun A st=>∃ bb bc bd be bf bg bh,st = A [(93,ql dk),(92,bh),(91,bg),(90,bf),(89,be),(88,bd),(87,bc),(86,bb)]) ?_ ?_
  ·refine Qa J J h (fun h=>?_) (fun h=>?_)
   ·refine U J<|O _ J<|O _ J<|O _ J<|q7 h fun dl dm h=>qv (qh4 d f b v.1 dl dm) J<|O _ J<|O _ J<|q8 ?_;cases h;exact ⟨_,_,_,_,_,_,_,J⟩
   refine qb J<|qb J<|qb J<|qb J<|qb J<|qb J<|O _ J<|q8 ?_;cases h;exact ⟨_,_,_,_,_,_,_,J⟩
  rintro _ ⟨bb,bc,bd,be,bf,bg,bh,rfl⟩;refine qa J<|qw ?_;cases a;exact Q8 _ J
 refine qn<|qc<|O _ J<|O _ J<|q7 a fun bi dn a=>qv (qhu z.1 ({Num:=1,Den:=1000} : Qr) bi dn) J<|U J<|O _ J<|O _ J<|Qt J J<|Qd 4 _ J<|qa J<|qx<|U J<|q7 a fun dp s a=>?_;refine Q9 4 (fun A st=>∃ bj bk bl,st = A [(104,ql dp),(103,bl),(102,bk),(101,bj)]) ?_ ?_
 ·refine Qa J J s (fun s=>?_) (fun s=>?_)
  ·refine U J<|O _ J<|O _ J<|q8 ?_;cases s;exact ⟨_,_,_,J⟩
  refine qb J<|qb J<|O _ J<|q8 ?_;cases s;exact ⟨_,_,_,J⟩
 rintro _ ⟨bj,bk,bl,rfl⟩;refine q7 a fun dq t a=>?_;refine Q9 5 (fun A st=>∃ bm bn bo bp,st = A [(109,ql dq),(108,bp),(107,bo),(106,bn),(105,bm)]) ?_ ?_
 ·refine Qa J J t (fun t=>?_) (fun t=>?_)
  ·refine O _ J<|O _ J<|O _ J<|O _ J<|q8 ?_;cases t;exact ⟨_,_,_,_,J⟩
  refine qb J<|qb J<|qb J<|O _ J<|q8 ?_;cases t;exact ⟨_,_,_,_,J⟩
 rintro _ ⟨bm,bn,bo,bp,rfl⟩;refine q7 a fun dr u a=>?_;refine Q9 4 (fun A st=>∃ bq br bs,st = A [(113,ql dr),(112,bs),(111,br),(110,bq)]) ?_ ?_
 ·refine Qa J J u (fun u=>?_) (fun u=>?_)
  ·refine U J<|O _ J<|O _ J<|q8 ?_;cases u;exact ⟨_,_,_,J⟩
  refine qb J<|qb J<|O _ J<|q8 ?_;cases u;exact ⟨_,_,_,J⟩
 rintro _ ⟨bq,br,bs,rfl⟩;refine q7 a fun ds j a=>?_;refine Q9 7 (fun A st=>∃ bt bu bv bw bz ca,st = A [(120,ql ds),(119,ca),(118,bz),(117,bw),(116,bv),(115,bu),(114,bt)]) ?_ ?_
 ·refine Qa J J j (fun j=>?_) (fun j=>?_)
  ·refine U J<|O _ J<|O _ J<|O _ J<|q7 j fun dt du j=>qv (qh4 d f b bi.1 dt du) J<|O _ J<|q8 ?_;cases j;exact ⟨_,_,_,_,_,_,J⟩
  refine qb J<|qb J<|qb J<|qb J<|qb J<|O _ J<|q8 ?_;cases j;exact ⟨_,_,_,_,_,_,J⟩
 rintro _ ⟨bt,bu,bv,bw,bz,ca,rfl⟩;refine q7 a fun dv c a=>?_;refine Q9 13 (fun A st=>∃ cb cc cd ce cf cg ch ci cj ck cl cm,st = A [(133,ql dv),(132,cm),(131,cl),(130,ck),(129,cj),(128,ci),(127,ch),(126,cg),(125,cf),(124,ce),(123,cd),(122,cc),(121,cb)]) ?_ ?_
 ·refine Qa J J c (fun c=>?_) (fun c=>?_)
  ·refine U J<|O _ J<|O _ J<|O _ J<|q7 c fun dw dx c=>qv (qh4 d f b v.1 dw dx) J<|O _ J<|q7 c fun dy k c=>?_;refine Q9 5 (fun A st=>∃ cn co cp cq,st = A [(132,ql dy),(131,cq),(130,cp),(129,co),(128,cn)]) ?_ ?_
   ·refine Qa J J k (fun k=>?_) (fun k=>?_)
    ·refine qb J<|qb J<|qb J<|O _ J<|q8 ?_;cases k;exact ⟨_,_,_,_,J⟩
    refine O _ J<|O _ J<|q7 k fun dz fa k=>qv (qnu z.1 v.1 dz fa) J<|O _ J<|q8 ?_;cases k;exact ⟨_,_,_,_,J⟩
   rintro _ ⟨cn,co,cp,cq,rfl⟩;refine O _ J<|q8 ?_;cases c;exact ⟨_,_,_,_,_,_,_,_,_,_,_,_,J⟩
  refine qb J<|qb J<|qb J<|qb J<|qb J<|qb J<|qb J<|qb J<|qb J<|qb J<|qb J<|O _ J<|q8 ?_;cases c;exact ⟨_,_,_,_,_,_,_,_,_,_,_,_,J⟩
 rintro _ ⟨cb,cc,cd,ce,cf,cg,ch,ci,cj,ck,cl,cm,rfl⟩;refine qa J<|qw ?_;cases a;exact Q8 _ J
end Go.Proofs.YtmnfbjlabfeneaaGreat
