/- W_All -/
import Derived.Test.YtbknppciefodiaaGreatK18
namespace Go.Proofs.YtbknppciefodiaaGreat
open Go Go.Am Go.Sh
set_option maxHeartbeats 8000000
set_option maxRecDepth 100000
theorem qw8 (b : Int) (a : Q3) (r : Q3) (c : q9g b a = some r) : Pure Tryz.prog tab 32 [q7 b,.agg [q7 a.X,q7 a.Y,q7 a.Z]] (.agg [q7 r.X,q7 r.Y,q7 r.Z]):=by
 unfold q9g at c;refine Qn Tryz.func32 J qh qh J<|qd<|Qo _ _ J<|K2 J J<|qt<|U J<|O _ J<|O _ J<|O _ J<|U J<|O _ J<|O _ J<|O _ J<|U J<|O _ J<|O _ J<|O _ J<|O _ J<|Ql 1 _ J<|qs ?_;cases c;exact Q6 _ J
theorem qwf (b : qg) (j : Q3) (r : Bool) (a : q9k b j = some r) : Pure Tryz.prog tab 55 [.agg [q7 b.Lo.X,q7 b.Lo.Y,q7 b.Lo.Z,q7 b.Hi.X,q7 b.Hi.Y,q7 b.Hi.Z],.agg [q7 j.X,q7 j.Y,q7 j.Z]] (.bool r):=by
 unfold q9k at a;refine Qn Tryz.func55 J qh qh J<|qd<|Qo _ _ J<|Qo _ _ J<|qc J<|qt<|O _ J<|O _ J<|O _ J<|O _ J<|O _ J<|O _ J<|q8 a fun c1 c a=>?_;refine Qb 8 (fun A st=>∃ k l m n o p q,st = A [(18,qz c1),(17,q),(16,p),(15,o),(14,n),(13,m),(12,l),(11,k)]) ?_ ?_
 ·refine Q9 J J c (fun c=>?_) (fun c=>?_)
  ·refine O _ J<|O _ J<|O _ J<|O _ J<|O _ J<|O _ J<|O _ J<|qa ?_;cases c;exact ⟨_,_,_,_,_,_,_,J⟩
  refine qb J<|qb J<|qb J<|qb J<|qb J<|qb J<|O _ J<|qa ?_;cases c;exact ⟨_,_,_,_,_,_,_,J⟩
 rintro _ ⟨k,l,m,n,o,p,q,rfl⟩;refine q8 a fun ax d a=>?_;refine Qb 8 (fun A st=>∃ s t u v w x y,st = A [(26,qz ax),(25,y),(24,x),(23,w),(22,v),(21,u),(20,t),(19,s)]) ?_ ?_
 ·refine Q9 J J d (fun d=>?_) (fun d=>?_)
  ·refine O _ J<|O _ J<|O _ J<|O _ J<|O _ J<|O _ J<|O _ J<|qa ?_;cases d;exact ⟨_,_,_,_,_,_,_,J⟩
  refine qb J<|qb J<|qb J<|qb J<|qb J<|qb J<|O _ J<|qa ?_;cases d;exact ⟨_,_,_,_,_,_,_,J⟩
 rintro _ ⟨s,t,u,v,w,x,y,rfl⟩;refine q8 a fun ay f a=>?_;refine Qb 8 (fun A st=>∃ z aa ab ac ad ae af,st = A [(34,qz ay),(33,af),(32,ae),(31,ad),(30,ac),(29,ab),(28,aa),(27,z)]) ?_ ?_
 ·refine Q9 J J f (fun f=>?_) (fun f=>?_)
  ·refine O _ J<|O _ J<|O _ J<|O _ J<|O _ J<|O _ J<|O _ J<|qa ?_;cases f;exact ⟨_,_,_,_,_,_,_,J⟩
  refine qb J<|qb J<|qb J<|qb J<|qb J<|qb J<|O _ J<|qa ?_;cases f;exact ⟨_,_,_,_,_,_,_,J⟩
 rintro _ ⟨z,aa,ab,ac,ad,ae,af,rfl⟩;refine q8 a fun az g a=>?_;refine Qb 8 (fun A st=>∃ ag ah ai aj ak al am,st = A [(42,qz az),(41,am),(40,al),(39,ak),(38,aj),(37,ai),(36,ah),(35,ag)]) ?_ ?_
 ·refine Q9 J J g (fun g=>?_) (fun g=>?_)
  ·refine O _ J<|O _ J<|O _ J<|O _ J<|O _ J<|O _ J<|O _ J<|qa ?_;cases g;exact ⟨_,_,_,_,_,_,_,J⟩
  refine qb J<|qb J<|qb J<|qb J<|qb J<|qb J<|O _ J<|qa ?_;cases g;exact ⟨_,_,_,_,_,_,_,J⟩
 rintro _ ⟨ag,ah,ai,aj,ak,al,am,rfl⟩;refine q8 a fun ba h a=>?_;refine Qb 8 (fun A st=>∃ an ao ap aq ar au av,st = A [(50,qz ba),(49,av),(48,au),(47,ar),(46,aq),(45,ap),(44,ao),(43,an)]) ?_ ?_
 ·refine Q9 J J h (fun h=>?_) (fun h=>?_)
  ·refine O _ J<|O _ J<|O _ J<|O _ J<|O _ J<|O _ J<|O _ J<|qa ?_;cases h;exact ⟨_,_,_,_,_,_,_,J⟩
  refine qb J<|qb J<|qb J<|qb J<|qb J<|qb J<|O _ J<|qa ?_;cases h;exact ⟨_,_,_,_,_,_,_,J⟩
 rintro _ ⟨an,ao,ap,aq,ar,au,av,rfl⟩;refine qc J<|qs ?_;cases a;exact Q6 _ J
theorem qwe (f : List qg) (b : Q3) (r : Bool) (c : q9j f b = some r) : Pure Tryz.prog tab 29 [.sl 6 (f.map Qe),.agg [q7 b.X,q7 b.Y,q7 b.Z]] (.bool r):=by
 unfold q9j at c;refine Qn Tryz.func29 J qh qh J<|qd<|Qo _ _ J<|qc J<|qa<|qf<|qd<|qc J<|qa<|q8 c fun h k c=>?_;refine Qj (fun g=>.inl g = h) (fun g=>⟨[],[],0⟩) qe ?_ ?_
 ·refine Qf (q64 f b) (fun j=>⟨[(0,.d (.sl 6 (f.map Qe))),(3,.ref 0 3 0 0),(5,q9 j)],[(0,.dat 3 [[q7 b.X,q7 b.Y,q7 b.Z]])],1⟩) 0 h k (wkA [(0,0)] [] []) ?_;intro j p a;unfold q64 at a;refine qf<|qd<|U J<|U J<|Qm J<|O _ J<|qa ?_;refine qo J a (fun _ a=>?_) (fun _ a=>?_)
  ·refine ql<|qf<|Q4<|qf<|Qi [q0,qu 0,q0,q0,q0,q0] qh<|U J<|U J<|q8 a fun l m a=>Qc m J<|O _ J<|O _ J<|q8 a fun n o a=>Q5 (qwf l b n o) J<|qa ?_;refine qo J a (fun _ a=>?_) (fun _ a=>?_)
   ·refine qd<|qc J<|qs ?_;refine ⟨_,qm a,fun hm=>?_⟩;subst hm;cases c;exact Q6 _ J
   refine ql<|Qh<|Qp<|qw<|U J<|O _ J<|qc J<|qv<|⟨_,qm a,wkA [(0,0)] [] []⟩
  refine Qa ?_;refine ⟨_,qm a,fun hm=>?_⟩;subst hm;exact ⟨_,J,wkA [] [] []⟩
 intro g hb;subst hb;refine qd<|qc J<|qs ?_;cases c;exact Q6 _ J
theorem q11z (b : qg) (j : Q3) (r : Bool) (a : q7p b j = some r) : Pure Tryz.prog tab 58 [.agg [q7 b.Lo.X,q7 b.Lo.Y,q7 b.Lo.Z,q7 b.Hi.X,q7 b.Hi.Y,q7 b.Hi.Z],.box [q7 j.X,q7 j.Y,q7 j.Z]] (.bool r):=by
 unfold q7p at a;refine Qn Tryz.func58 J qh qh J<|qd<|Qo _ _ J<|qc J<|qt<|O _ J<|O _ J<|O _ J<|O _ J<|O _ J<|O _ J<|q8 a fun c1 c a=>?_;refine Qb 8 (fun A st=>∃ k l m n o p q,st = A [(17,qz c1),(16,q),(15,p),(14,o),(13,n),(12,m),(11,l),(10,k)]) ?_ ?_
 ·refine Q9 J J c (fun c=>?_) (fun c=>?_)
  ·refine O _ J<|O _ J<|O _ J<|O _ J<|O _ J<|O _ J<|O _ J<|qa ?_;cases c;exact ⟨_,_,_,_,_,_,_,J⟩
  refine qb J<|qb J<|qb J<|qb J<|qb J<|qb J<|O _ J<|qa ?_;cases c;exact ⟨_,_,_,_,_,_,_,J⟩
 rintro _ ⟨k,l,m,n,o,p,q,rfl⟩;refine q8 a fun ax d a=>?_;refine Qb 8 (fun A st=>∃ s t u v w x y,st = A [(25,qz ax),(24,y),(23,x),(22,w),(21,v),(20,u),(19,t),(18,s)]) ?_ ?_
 ·refine Q9 J J d (fun d=>?_) (fun d=>?_)
  ·refine O _ J<|O _ J<|O _ J<|O _ J<|O _ J<|O _ J<|O _ J<|qa ?_;cases d;exact ⟨_,_,_,_,_,_,_,J⟩
  refine qb J<|qb J<|qb J<|qb J<|qb J<|qb J<|O _ J<|qa ?_;cases d;exact ⟨_,_,_,_,_,_,_,J⟩
 rintro _ ⟨s,t,u,v,w,x,y,rfl⟩;refine q8 a fun ay f a=>?_;refine Qb 8 (fun A st=>∃ z aa ab ac ad ae af,st = A [(33,qz ay),(32,af),(31,ae),(30,ad),(29,ac),(28,ab),(27,aa),(26,z)]) ?_ ?_
 ·refine Q9 J J f (fun f=>?_) (fun f=>?_)
  ·refine O _ J<|O _ J<|O _ J<|O _ J<|O _ J<|O _ J<|O _ J<|qa ?_;cases f;exact ⟨_,_,_,_,_,_,_,J⟩
  refine qb J<|qb J<|qb J<|qb J<|qb J<|qb J<|O _ J<|qa ?_;cases f;exact ⟨_,_,_,_,_,_,_,J⟩
 rintro _ ⟨z,aa,ab,ac,ad,ae,af,rfl⟩;refine q8 a fun az g a=>?_;refine Qb 8 (fun A st=>∃ ag ah ai aj ak al am,st = A [(41,qz az),(40,am),(39,al),(38,ak),(37,aj),(36,ai),(35,ah),(34,ag)]) ?_ ?_
 ·refine Q9 J J g (fun g=>?_) (fun g=>?_)
  ·refine O _ J<|O _ J<|O _ J<|O _ J<|O _ J<|O _ J<|O _ J<|qa ?_;cases g;exact ⟨_,_,_,_,_,_,_,J⟩
  refine qb J<|qb J<|qb J<|qb J<|qb J<|qb J<|O _ J<|qa ?_;cases g;exact ⟨_,_,_,_,_,_,_,J⟩
 rintro _ ⟨ag,ah,ai,aj,ak,al,am,rfl⟩;refine q8 a fun ba h a=>?_;refine Qb 8 (fun A st=>∃ an ao ap aq ar au av,st = A [(49,qz ba),(48,av),(47,au),(46,ar),(45,aq),(44,ap),(43,ao),(42,an)]) ?_ ?_
 ·refine Q9 J J h (fun h=>?_) (fun h=>?_)
  ·refine O _ J<|O _ J<|O _ J<|O _ J<|O _ J<|O _ J<|O _ J<|qa ?_;cases h;exact ⟨_,_,_,_,_,_,_,J⟩
  refine qb J<|qb J<|qb J<|qb J<|qb J<|qb J<|O _ J<|qa ?_;cases h;exact ⟨_,_,_,_,_,_,_,J⟩
 rintro _ ⟨an,ao,ap,aq,ar,au,av,rfl⟩;refine qc J<|qs ?_;cases a;exact Q6 _ J
theorem q121 (b : List qg) (a : Q3) (r : Bool) (c : qat b a = some r) : Pure Tryz.prog tab 34 [.sl 6 (b.map Qe),.agg [q7 a.X,q7 a.Y,q7 a.Z]] (.bool r):=by
 unfold qat at c;refine Qn Tryz.func34 J qh qh J<|qd<|Qo _ _ J<|qc J<|qt<|U J<|O _ J<|q8 c fun g h c=>q1t [.d (.sl 6 (b.map Qe)),.fn 58 [.ref 0 3 0 0]] (qdh b (fun f=>q7p f a) 58 [.box [q7 a.X,q7 a.Y,q7 a.Z]] (fun f r hr=>q11z f a r hr) g h) J J (Zb J (Zb (qhk (Yj J J)) J)) (.inr J)<|qc J<|qs ?_;cases c;exact Q6 _ J
theorem q14s (a : Qv) (g : List (List qg)) (c : Q3) (r : Bool) (b : qcm a g c = some r) : Pure Tryz.prog tab 7 [.agg [.sl 7 (a.Lines.map Kf),.sl 5 (a.Marks.map Km),.int .u8 a.End.Frame.Turn,q7 a.End.Frame.At.X,q7 a.End.Frame.At.Y,q7 a.End.Frame.At.Z,q7 a.End.Drawn],.sl 1 (g.map Qr),.agg [q7 c.X,q7 c.Y,q7 c.Z]] (.bool r):=by
 unfold qcm at b;refine Qn Tryz.func7 J qh qh J<|qd<|Qo _ _ J<|Qo _ _ J<|qc J<|qt<|q8 b fun s h2 b=>Q5 (qt5 s h2) J<|qc J<|qa<|qf<|qd<|O _ J<|U J<|q8 b fun r3 h4 b=>Q5 (qt6 a g r3 h4) J<|O _ J<|q8 b fun c7 k b=>?_;refine Qb 5 (fun A st=>∃ j9 ab ac ad,st = A [(23,qz c7),(22,ad),(21,ac),(20,ab),(19,j9)]) ?_ ?_
 ·refine Q9 J J k (fun k=>?_) (fun k=>?_)
  ·refine qb J<|qb J<|qb J<|O _ J<|qa ?_;cases k;exact ⟨_,_,_,_,J⟩
  refine O _ J<|q8 k fun cn co k=>Q5 (q1v c (-2000) cn co) J<|O _ J<|O _ J<|qa ?_;cases k;exact ⟨_,_,_,_,J⟩
 rintro _ ⟨j9,ab,ac,ad,rfl⟩;refine q8 b fun cp t b=>?_;refine Qb 10 (fun A st=>∃ ae af ag ah ai aj ak al am,st = A [(33,qz cp),(32,am),(31,al),(30,ak),(29,aj),(28,ai),(27,ah),(26,ag),(25,af),(24,ae)]) ?_ ?_
 ·refine Q9 J J t (fun t=>?_) (fun t=>?_)
  ·refine qb J<|qb J<|qb J<|qb J<|qb J<|qb J<|qb J<|qb J<|O _ J<|qa ?_;cases t;exact ⟨_,_,_,_,_,_,_,_,_,J⟩
  refine O _ J<|O _ J<|O _ J<|O _ J<|O _ J<|O _ J<|U4 (r:=max (max c.X c.Y) c.Z) J J (by simp only [U2];rfl)<|O _ J<|O _ J<|qa ?_;cases t;exact ⟨_,_,_,_,_,_,_,_,_,J⟩
 rintro _ ⟨ae,af,ag,ah,ai,aj,ak,al,am,rfl⟩;refine q8 b fun cq u b=>?_;refine Qb 4 (fun A st=>∃ an ao ap,st = A [(37,qz cq),(36,ap),(35,ao),(34,an)]) ?_ ?_
 ·refine Q9 J J u (fun u=>?_) (fun u=>?_)
  ·refine qb J<|qb J<|O _ J<|qa ?_;cases u;exact ⟨_,_,_,J⟩
  refine U J<|O _ J<|O _ J<|qa ?_;cases u;exact ⟨_,_,_,J⟩
 rintro _ ⟨an,ao,ap,rfl⟩;refine qa ?_;refine qo J b (fun _ b=>?_) (fun _ b=>?_)
 ·refine qd<|U J<|qc J<|qs ?_;cases b;exact Q6 _ J
 refine ql<|qd<|O _ J<|U J<|q8 b fun l cr b=>Q5 (qol a g l cr) J<|U J<|O _ J<|O _ J<|qc J<|qc J<|qa<|qf<|qd<|U J<|O _ J<|qa ?_;refine qo J b (fun _ b=>?_) (fun _ b=>?_)
 ·refine qd<|U J<|q8 b fun cs m b=>?_;refine Qb 8 (fun A st=>∃ aq ar au av aw ax ay,st = A [(55,qz cs),(54,ay),(53,ax),(52,aw),(51,av),(50,au),(49,ar),(48,aq)]) ?_ ?_
  ·refine Q9 J J m (fun m=>?_) (fun m=>?_)
   ·refine U J<|O _ J<|q8 m fun ct v m=>?_;refine Qb 4 (fun A st=>∃ az ba bb,st = A [(54,qz ct),(53,bb),(52,ba),(51,az)]) ?_ ?_
    ·refine Q9 J J v (fun v=>?_) (fun v=>?_)
     ·refine qb J<|qb J<|O _ J<|qa ?_;cases v;exact ⟨_,_,_,J⟩
     refine U J<|O _ J<|O _ J<|qa ?_;cases v;exact ⟨_,_,_,J⟩
    rintro _ ⟨az,ba,bb,rfl⟩;refine O _ J<|qa ?_;cases m;exact ⟨_,_,_,_,_,_,_,J⟩
   refine qb J<|qb J<|qb J<|qb J<|qb J<|qb J<|O _ J<|qa ?_;cases m;exact ⟨_,_,_,_,_,_,_,J⟩
  rintro _ ⟨aq,ar,au,av,aw,ax,ay,rfl⟩;refine qc J<|qs ?_;cases b;exact Q6 _ J
 refine ql<|qd<|qc J<|qa<|qf<|qd<|qc J<|qa<|q8 b fun bc cu b=>?_;refine Qj (fun w=>w = bc) (fun w=>⟨[(5,.ref 0 3 0 0),(7,qz s),(8,.d (.sl 6 (l.1.map Qe))),(10,qz w)],[(0,.dat 3 [[q7 c.X,q7 c.Y,q7 c.Z]])],1⟩) qe ?_ ?_
 ·refine Qf (q5e a g c) (fun n=>⟨[(1,.d (.sl 1 (g.map Qr))),(3,.ref 0 7 0 0),(5,.ref 1 3 0 0),(7,qz s),(8,.d (.sl 6 (l.1.map Qe))),(10,qz n.1),(11,q9 n.2)],[(0,.dat 7 [[.sl 7 (a.Lines.map Kf),.sl 5 (a.Marks.map Km),.int .u8 a.End.Frame.Turn,q7 a.End.Frame.At.X,q7 a.End.Frame.At.Y,q7 a.End.Frame.At.Z,q7 a.End.Drawn]]),(1,.dat 3 [[q7 c.X,q7 c.Y,q7 c.Z]])],2⟩) (false,0) bc cu (wkA [(0,0),(1,1)] [] []) ?_;intro n du h;unfold q5e at h;refine qf<|qd<|U J<|O _ J<|O _ J<|Qm J<|O _ J<|qa ?_;refine qo J h (fun _ h=>?_) (fun _ h=>?_)
  ·refine ql<|qf<|q8 h fun cv o h=>?_;refine Qj (fun x=>x = cv) (fun x=>⟨[(1,.d (.sl 1 (g.map Qr))),(3,.ref 0 7 0 0),(5,.ref 1 3 0 0),(7,qz s),(8,.d (.sl 6 (l.1.map Qe))),(10,qz x),(11,q9 n.2)],[(0,.dat 7 [[.sl 7 (a.Lines.map Kf),.sl 5 (a.Marks.map Km),.int .u8 a.End.Frame.Turn,q7 a.End.Frame.At.X,q7 a.End.Frame.At.Y,q7 a.End.Frame.At.Z,q7 a.End.Drawn]]),(1,.dat 3 [[q7 c.X,q7 c.Y,q7 c.Z]])],2⟩) qe ?_ ?_
   ·refine qd<|O _ J<|O _ J<|U J<|q8 o fun cw cx o=>Qc cx J<|O _ J<|q8 o fun y cy o=>Q5 (qwo cw y cy) J<|qc J<|qt<|qc J<|qa<|q8 o fun cz da o=>Q4<|Qf (q5f y a n g c) (fun z=>⟨[(1,.d (.sl 1 (g.map Qr))),(3,.ref 0 7 0 0),(5,.ref 1 3 0 0),(7,qz s),(8,.d (.sl 6 (l.1.map Qe))),(10,qz z.1),(11,q9 n.2),(12,.d (.sl 3 (y.map qc8))),(13,q9 z.2)],[(0,.dat 7 [[.sl 7 (a.Lines.map Kf),.sl 5 (a.Marks.map Km),.int .u8 a.End.Frame.Turn,q7 a.End.Frame.At.X,q7 a.End.Frame.At.Y,q7 a.End.Frame.At.Z,q7 a.End.Drawn]]),(1,.dat 3 [[q7 c.X,q7 c.Y,q7 c.Z]])],2⟩) (n.1,0) cz da (wkA [(0,0),(1,1)] [] []) ?_;intro z dv j;unfold q5f at j;refine qf<|qd<|U J<|U J<|Qm J<|O _ J<|qa ?_;refine qo J j (fun _ j=>?_) (fun _ j=>?_)
    ·refine ql<|qf<|Q4<|Qi [q0,q0,q0,q0,q0,q0,q0,q0,q0,qu 1,q0,q0,q0,q0,q0,qu 0,q0,q0,q0] qh<|U J<|q8 j fun dc f j=>?_;refine Qb 17 (fun A st=>∃ bd be bf bg bh bi bj bk bl bm bn bo bp bq br bs,st = A [(92,qz dc),(91,bs),(90,br),(89,bq),(88,bp),(87,bo),(86,bn),(85,bm),(84,bl),(83,bk),(82,bj),(81,bi),(80,bh),(79,bg),(78,bf),(77,be),(76,bd)]) ?_ ?_
     ·refine Q9 J J f (fun f=>?_) (fun f=>?_)
      ·refine qb J<|qb J<|qb J<|qb J<|qb J<|qb J<|qb J<|qb J<|qb J<|qb J<|qb J<|qb J<|qb J<|qb J<|qb J<|O _ J<|qa ?_;cases f;exact ⟨_,_,_,_,_,_,_,_,_,_,_,_,_,_,_,_,J⟩
      refine O _ J<|O _ J<|U J<|q8 f fun dd de f=>Qc de J<|O _ J<|U J<|q8 f fun bt df f=>Q5 (qwm dd g bt df) J<|O _ J<|U J<|U J<|q8 f fun dg dh f=>Qc dh J<|O _ J<|q8 f fun bu dj f=>Q5 (qw8 (-1) dg bu dj) J<|q8 f fun bv dk f=>Q5 (qmj c bu bv dk) J<|q8 f fun dl dm f=>Q5 (qwe bt bv dl dm) J<|O _ J<|qa ?_;cases f;exact ⟨_,_,_,_,_,_,_,_,_,_,_,_,_,_,_,_,J⟩
     rintro _ ⟨bd,be,bf,bg,bh,bi,bj,bk,bl,bm,bn,bo,bp,bq,br,bs,rfl⟩;refine qc J<|qv<|Qp<|qw<|U J<|O _ J<|qc J<|qv<|⟨_,qm j,wkA [(0,0),(1,1)] [] []⟩
    refine Qa ?_;refine ⟨_,qm j,fun hm=>?_⟩;subst hm;cases o;exact ⟨_,J,wkA [(0,0),(1,1)] [] []⟩
   intro x hb;subst hb;refine qw<|U J<|O _ J<|qc J<|qv<|⟨_,qm h,wkA [(0,0),(1,1)] [] []⟩
  refine Qa ?_;refine ⟨_,qm h,fun hm=>?_⟩;subst hm;exact ⟨_,J,wkA [(0,1)] [] []⟩
 intro w hb;subst hb;refine qd<|U J<|q8 b fun dn p b=>?_;refine Qb 5 (fun A st=>∃ bw bz ca cb,st = A [(98,qz dn),(97,cb),(96,ca),(95,bz),(94,bw)]) ?_ ?_
 ·refine Q9 J J p (fun p=>?_) (fun p=>?_)
  ·refine U J<|q8 p fun dp dq p=>Q5 (qml l.1 dp dq) J<|O _ J<|O _ J<|qa ?_;cases p;exact ⟨_,_,_,_,J⟩
  refine qb J<|qb J<|qb J<|O _ J<|qa ?_;cases p;exact ⟨_,_,_,_,J⟩
 rintro _ ⟨bw,bz,ca,cb,rfl⟩;refine q8 b fun dr q b=>?_;refine Qb 7 (fun A st=>∃ cc cd ce cf cg ch,st = A [(105,qz dr),(104,ch),(103,cg),(102,cf),(101,ce),(100,cd),(99,cc)]) ?_ ?_
 ·refine Q9 J J q (fun q=>?_) (fun q=>?_)
  ·refine U J<|O _ J<|q8 q fun ds dt q=>Q5 (q121 l.1 c ds dt) J<|U J<|O _ J<|O _ J<|qa ?_;cases q;exact ⟨_,_,_,_,_,_,J⟩
  refine qb J<|qb J<|qb J<|qb J<|qb J<|O _ J<|qa ?_;cases q;exact ⟨_,_,_,_,_,_,J⟩
 rintro _ ⟨cc,cd,ce,cf,cg,ch,rfl⟩;refine qc J<|qs ?_;cases b;exact Q6 _ J
end Go.Proofs.YtbknppciefodiaaGreat
