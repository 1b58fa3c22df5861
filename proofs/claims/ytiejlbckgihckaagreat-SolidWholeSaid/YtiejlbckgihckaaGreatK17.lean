/- W_Allc -/
import Derived.Test.YtiejlbckgihckaaGreatK16
namespace Go.Proofs.YtiejlbckgihckaaGreat
open Go Go.Am Go.Sh
set_option maxHeartbeats 8000000
set_option maxRecDepth 100000
theorem qhe (j : List qe) (c : Y2) (r : List qe × Int) (b : q55 j c = some r) : Pure Tryz.prog tab 16 [.sl 6 (j.map Q5),.agg [.int .u8 c.Turn,qg c.At.X,qg c.At.Y,qg c.At.Z]] (.tup [.sl 6 (r.1.map Q5),qg r.2]):=by
 unfold q55 at b;refine Qp Tryz.func16 J qh qh J<|qc<|Qs _ _ J<|qa J<|qa J<|q9<|qf<|qc<|U J<|q8 b fun s t b=>Q4 (q2e j s t) J<|qa J<|qs<|U J<|O _ J<|q9 ?_;refine qo J b (fun _ b=>?_) (fun _ b=>?_)
 ·refine qc<|U J<|qa J<|qa J<|qv ?_;obtain rfl:=qt b;exact finD (.inr J) J J (Yq (.cons (.nil _) (.cons (.refl _) .nil)))
 refine qm<|qf<|qc<|O _ J<|q8 b fun u v b=>Q4 (qke c u v) J<|qa J<|qs<|U J<|O _ J<|q9 ?_;refine qo J b (fun _ b=>?_) (fun _ b=>?_)
 ·refine qc<|U J<|qa J<|qa J<|qv ?_;obtain rfl:=qt b;exact finD (.inr J) J J (Yq (.cons (.nil _) (.cons (.refl _) .nil)))
 refine qm<|qc<|qa J<|q9<|qf<|qc<|U J<|Qr J<|U J<|q9<|q8 b fun m w b=>?_;refine Qn (fun f=>.inl f = m) (fun f=>⟨[(8,.hs 0 6 0 f.length)],[(0,.dat 6 (f.map Q5))],1⟩) qd ?_ ?_
 ·refine Qk (q56 j c) (fun l=>⟨[(3,.ref 0 4 0 0),(8,.hs 1 6 0 l.2.length),(25,.d (.sl 6 (j.map Q5))),(26,q7 (j.length : Int)),(27,q7 l.1)],[(0,.dat 4 [[.int .u8 c.Turn,qg c.At.X,qg c.At.Y,qg c.At.Z]]),(1,.dat 6 (l.2.map Q5))],2⟩) _ m w (wkA [(0,0)] [] [1]) ?_;intro l ae a;unfold q56 at a;refine qc<|O _ J<|q9<|qf ?_;refine qo J a (fun _ a=>?_) (fun _ a=>?_)
  ·refine qm<|qf<|Q7<|qc<|q8 a fun n x a=>Qh x J<|O _ J<|K2 J J<|Qi 2 _ J<|qs<|O _ J<|O _ J<|O _ J<|q8 a fun g y a=>Q4 (qkc c n.Lo g y) J<|U J<|O _ J<|O _ J<|K2 J J<|Qi 3 _ J<|qa J<|qs<|O _ J<|O _ J<|O _ J<|q8 a fun h z a=>Q4 (qkc c n.Hi h z) J<|U J<|O _ J<|O _ J<|K2 J J<|Qi 4 _ J<|qa J<|q9<|qf<|qc<|U J<|O _ J<|q8 a fun aa k a=>?_;refine Qc 4 (fun A st=>∃ o p q,st = A [(50,Q0 aa),(49,q),(48,p),(47,o)]) ?_ ?_
   ·refine Qa J J k (fun k=>?_) (fun k=>?_)
    ·refine qb J<|qb J<|O _ J<|q9 ?_;cases k;exact ⟨_,_,_,J⟩
    refine U J<|O _ J<|O _ J<|q9 ?_;cases k;exact ⟨_,_,_,J⟩
   rintro _ ⟨o,p,q,rfl⟩;refine q9 ?_;refine qo J a (fun _ a=>?_) (fun _ a=>?_)
   ·refine qc<|qa J<|qa J<|qv ?_;refine ⟨_,qp a,fun hm=>?_⟩;subst hm;obtain rfl:=qt b;exact finD (.inr J) J J (Yq (.cons (.nil _) (.cons (.refl _) .nil)))
   refine qm<|qz<|U J<|O _ J<|O _ J<|O _ J<|O _ J<|Ut (r:=min g.1.X h.1.X) J J (by simp only [Ur];rfl)<|O _ J<|O _ J<|O _ J<|O _ J<|Ut (r:=min g.1.Y h.1.Y) J J (by simp only [Ur];rfl)<|O _ J<|O _ J<|O _ J<|O _ J<|Ut (r:=min g.1.Z h.1.Z) J J (by simp only [Ur];rfl)<|O _ J<|O _ J<|O _ J<|O _ J<|O _ J<|Us (r:=max g.1.X h.1.X) J J (by simp only [Uq];rfl)<|O _ J<|O _ J<|O _ J<|O _ J<|Us (r:=max g.1.Y h.1.Y) J J (by simp only [Uq];rfl)<|O _ J<|O _ J<|O _ J<|O _ J<|Us (r:=max g.1.Z h.1.Z) J J (by simp only [Uq];rfl)<|O _ J<|O _ J<|Qs _ _ J<|q8 a fun af ab a=>Kt _ ab J J J J J J J (Kq J J) J J J J<|qa J ?_;refine qy<|Qo<|qz<|O _ J<|U J<|qy<|⟨_,qp a,wkA [(0,0),(1,6)] [] []⟩
  refine Qe ?_;refine ⟨_,qp a,fun hm=>?_⟩;subst hm;exact ⟨_,J,wkA [(0,1)] [] []⟩
 intro f hb;subst hb;refine qf ?_;refine Y8 (st':=⟨[(8,.d (.sl 6 (f.map Q5)))],[],0⟩) (wkA [] [0] []) ?_ qd;refine qz<|U J<|q8 b fun ac ad b=>Q4 (q52 f ac ad) J<|O _ J<|O _ J<|qa J<|qa J<|qv ?_;cases b;exact Q8 _ J
theorem qcx (c : List qe) (f : List qe) (r : Bool) (b : q4l c f = some r) : Pure Tryz.prog tab 12 [.sl 6 (c.map Q5),.sl 6 (f.map Q5)] (.bool r):=by
 unfold q4l at b;refine Qp Tryz.func12 J qh qh J<|qc<|qa J<|q9<|qf<|qc<|U J<|Qr J<|U J<|Qr J<|O _ J<|q9 ?_;refine qo J b (fun _ b=>?_) (fun _ b=>?_)
 ·refine qc<|qa J<|qv ?_;cases b;exact Q8 _ J
 refine qm<|qf<|qc<|qa J<|q9<|q8 b fun h k b=>?_;refine Qn (fun g=>.inl g = h) (fun g=>⟨[],[],0⟩) qd ?_ ?_
 ·refine Qk (qcw c f) (fun j=>⟨[(0,.d (.sl 6 (c.map Q5))),(1,.d (.sl 6 (f.map Q5))),(5,q7 j)],[],0⟩) _ h k (wkA [] [] []) ?_;intro j n a;unfold qcw at a;refine qf<|qc<|U J<|U J<|Qr J<|O _ J<|q9 ?_;refine qo J a (fun _ a=>?_) (fun _ a=>?_)
  ·refine qm<|qf<|Q7<|qf<|Ql [q6,q6,q6,q6,q6,q6,q6,q6,q6] qh<|U J<|U J<|q8 a fun o l a=>Qh l J<|O _ J<|U J<|U J<|q8 a fun p m a=>Qh m J<|O _ J<|O _ J<|q9 ?_;refine qo J a (fun _ a=>?_) (fun _ a=>?_)
   ·refine qc<|qa J<|qv ?_;refine ⟨_,qp a,fun hm=>?_⟩;subst hm;cases b;exact Q8 _ J
   refine qm<|Qm<|Qo<|qz<|U J<|O _ J<|qa J<|qy<|⟨_,qp a,wkA [] [] []⟩
  refine Qe ?_;refine ⟨_,qp a,fun hm=>?_⟩;subst hm;exact ⟨_,J,wkA [] [] []⟩
 intro g hb;subst hb;refine qc<|qa J<|qv ?_;cases b;exact Q8 _ J
theorem q128 (h : qe) (j : Q6) (r : Bool) (a : q50 h j = some r) : Pure Tryz.prog tab 51 [.agg (Q5 h),.box (Zq j)] (.bool r):=by
 unfold q50 at a;refine Qp Tryz.func51 J qh qh J<|qc<|Qs _ _ J<|qa J<|qs<|O _ J<|O _ J<|O _ J<|O _ J<|O _ J<|O _ J<|q8 a fun c1 b a=>?_;refine Qc 8 (fun A st=>∃ k l m n o p q,st = A [(17,Q0 c1),(16,q),(15,p),(14,o),(13,n),(12,m),(11,l),(10,k)]) ?_ ?_
 ·refine Qa J J b (fun b=>?_) (fun b=>?_)
  ·refine O _ J<|O _ J<|O _ J<|O _ J<|O _ J<|O _ J<|O _ J<|q9 ?_;cases b;exact ⟨_,_,_,_,_,_,_,J⟩
  refine qb J<|qb J<|qb J<|qb J<|qb J<|qb J<|O _ J<|q9 ?_;cases b;exact ⟨_,_,_,_,_,_,_,J⟩
 rintro _ ⟨k,l,m,n,o,p,q,rfl⟩;refine q8 a fun ax c a=>?_;refine Qc 8 (fun A st=>∃ s t u v w x y,st = A [(25,Q0 ax),(24,y),(23,x),(22,w),(21,v),(20,u),(19,t),(18,s)]) ?_ ?_
 ·refine Qa J J c (fun c=>?_) (fun c=>?_)
  ·refine O _ J<|O _ J<|O _ J<|O _ J<|O _ J<|O _ J<|O _ J<|q9 ?_;cases c;exact ⟨_,_,_,_,_,_,_,J⟩
  refine qb J<|qb J<|qb J<|qb J<|qb J<|qb J<|O _ J<|q9 ?_;cases c;exact ⟨_,_,_,_,_,_,_,J⟩
 rintro _ ⟨s,t,u,v,w,x,y,rfl⟩;refine q8 a fun ay d a=>?_;refine Qc 8 (fun A st=>∃ z aa ab ac ad ae af,st = A [(33,Q0 ay),(32,af),(31,ae),(30,ad),(29,ac),(28,ab),(27,aa),(26,z)]) ?_ ?_
 ·refine Qa J J d (fun d=>?_) (fun d=>?_)
  ·refine O _ J<|O _ J<|O _ J<|O _ J<|O _ J<|O _ J<|O _ J<|q9 ?_;cases d;exact ⟨_,_,_,_,_,_,_,J⟩
  refine qb J<|qb J<|qb J<|qb J<|qb J<|qb J<|O _ J<|q9 ?_;cases d;exact ⟨_,_,_,_,_,_,_,J⟩
 rintro _ ⟨z,aa,ab,ac,ad,ae,af,rfl⟩;refine q8 a fun az f a=>?_;refine Qc 8 (fun A st=>∃ ag ah ai aj ak al am,st = A [(41,Q0 az),(40,am),(39,al),(38,ak),(37,aj),(36,ai),(35,ah),(34,ag)]) ?_ ?_
 ·refine Qa J J f (fun f=>?_) (fun f=>?_)
  ·refine O _ J<|O _ J<|O _ J<|O _ J<|O _ J<|O _ J<|O _ J<|q9 ?_;cases f;exact ⟨_,_,_,_,_,_,_,J⟩
  refine qb J<|qb J<|qb J<|qb J<|qb J<|qb J<|O _ J<|q9 ?_;cases f;exact ⟨_,_,_,_,_,_,_,J⟩
 rintro _ ⟨ag,ah,ai,aj,ak,al,am,rfl⟩;refine q8 a fun ba g a=>?_;refine Qc 8 (fun A st=>∃ an ao ap aq ar au av,st = A [(49,Q0 ba),(48,av),(47,au),(46,ar),(45,aq),(44,ap),(43,ao),(42,an)]) ?_ ?_
 ·refine Qa J J g (fun g=>?_) (fun g=>?_)
  ·refine O _ J<|O _ J<|O _ J<|O _ J<|O _ J<|O _ J<|O _ J<|q9 ?_;cases g;exact ⟨_,_,_,_,_,_,_,J⟩
  refine qb J<|qb J<|qb J<|qb J<|qb J<|qb J<|O _ J<|q9 ?_;cases g;exact ⟨_,_,_,_,_,_,_,J⟩
 rintro _ ⟨an,ao,ap,aq,ar,au,av,rfl⟩;refine qa J<|qv ?_;cases a;exact Q8 _ J
theorem qo0 (b : List qe) (a : Q6) (r : Bool) (c : q83 b a = some r) : Pure Tryz.prog tab 24 [.sl 6 (b.map Q5),.agg (Zq a)] (.bool r):=by
 unfold q83 at c;refine Qp Tryz.func24 J qh qh J<|qc<|Qs _ _ J<|qa J<|qs<|U J<|O _ J<|q8 c fun g h c=>q25 [.d (.sl 6 (b.map Q5)),.fn 51 [.ref 0 3 0 0]] (qnp b (fun f=>q50 f a) 51 [.box (Zq a)] (fun f r hr=>q128 f a r hr) g h) J J (Zw J (Zw (q13g (Jn J J)) J)) (.inr J)<|qa J<|qv ?_;cases c;exact Q8 _ J
theorem ql9 (r : Bool) (a : q67 = some r) : Pure Tryz.prog tab 6 [] (.bool r):=by
 unfold q67 at a;refine Qp Tryz.func6 J qh qh J<|qc<|qa J<|qs<|q8 a fun s h2 a=>Q4 (q23 s h2) J<|q8 a fun r3 h4 a=>Q4 (qo6 s r3 h4) J<|U J<|O _ J<|O _ J<|qa J<|qa J<|qs<|q8 a fun t h6 a=>Q4 (q23 t h6) J<|q8 a fun r7 h8 a=>Q4 (qdi t r7 h8) J<|U J<|O _ J<|O _ J<|qa J<|qa J<|qs<|q8 a fun u bj a=>Q4 (q23 u bj) J<|O _ J<|q8 a fun m bk a=>Q4 (qhe u ({Turn:=9,At:=({X:=0,Y:=0,Z:=0} : Q6)} : Y2) m bk) J<|U J<|O _ J<|O _ J<|qa J<|qa J<|qs<|q8 a fun n bl a=>Q4 (Zy 0 0 0 1 2 2 n bl) J<|q8 a fun o bm a=>Q4 (Zy 1 0 0 2 2 1 o bm) J<|q44 (es:=6) ([n,o].map Q5) J J J J J ?_;refine q8 a fun v bn a=>Q4 (q52 [n,o] v bn) J<|U J<|O _ J<|O _ J<|qa J<|qa J<|qs<|U J<|O _ J<|q8 a fun bo g a=>?_;refine Qc 4 (fun A st=>∃ w x y,st = A [(37,Q0 bo),(36,y),(35,x),(34,w)]) ?_ ?_
 ·refine Qa J J g (fun g=>?_) (fun g=>?_)
  ·refine U J<|O _ J<|O _ J<|q9 ?_;cases g;exact ⟨_,_,_,J⟩
  refine qb J<|qb J<|O _ J<|q9 ?_;cases g;exact ⟨_,_,_,J⟩
 rintro _ ⟨w,x,y,rfl⟩;refine q8 a fun bp h a=>?_;refine Qc 4 (fun A st=>∃ z aa ab,st = A [(41,Q0 bp),(40,ab),(39,aa),(38,z)]) ?_ ?_
 ·refine Qa J J h (fun h=>?_) (fun h=>?_)
  ·refine U J<|O _ J<|O _ J<|q9 ?_;cases h;exact ⟨_,_,_,J⟩
  refine qb J<|qb J<|O _ J<|q9 ?_;cases h;exact ⟨_,_,_,J⟩
 rintro _ ⟨z,aa,ab,rfl⟩;refine q8 a fun bq j a=>?_;refine Qc 4 (fun A st=>∃ ac ad ae,st = A [(45,Q0 bq),(44,ae),(43,ad),(42,ac)]) ?_ ?_
 ·refine Qa J J j (fun j=>?_) (fun j=>?_)
  ·refine U J<|O _ J<|O _ J<|q9 ?_;cases j;exact ⟨_,_,_,J⟩
  refine qb J<|qb J<|O _ J<|q9 ?_;cases j;exact ⟨_,_,_,J⟩
 rintro _ ⟨ac,ad,ae,rfl⟩;refine q8 a fun br k a=>?_;refine Qc 4 (fun A st=>∃ af ag ah,st = A [(49,Q0 br),(48,ah),(47,ag),(46,af)]) ?_ ?_
 ·refine Qa J J k (fun k=>?_) (fun k=>?_)
  ·refine U J<|O _ J<|O _ J<|q9 ?_;cases k;exact ⟨_,_,_,J⟩
  refine qb J<|qb J<|O _ J<|q9 ?_;cases k;exact ⟨_,_,_,J⟩
 rintro _ ⟨af,ag,ah,rfl⟩;refine Qa J J a (fun a=>?_) (fun a=>?_)
 ·refine U J<|q8 a fun p bs a=>Q4 (Zy (-2) 0 0 0 2 1 p bs) J<|q8 a fun q bt a=>Q4 (Zy (-2) 0 1 0 1 2 q bt) J<|Qs _ _ J<|q8 a fun bu bv a=>q25 [.d (.sl 6 (m.1.map Q5)),.hs 1 6 0 [p,q].length] (qcx m.1 [p,q] bu bv) J J (Zw J (Zw (Z9 J J) J)) (.inr J)<|O _ J<|q8 a fun bw l a=>?_;refine Qc 4 (fun A st=>∃ ai aj ak,st = A [(60,Q0 bw),(59,ak),(58,aj),(57,ai)]) ?_ ?_
  ·refine Qa J J l (fun l=>?_) (fun l=>?_)
   ·refine U J<|O _ J<|O _ J<|q9 ?_;cases l;exact ⟨_,_,_,J⟩
   refine qb J<|qb J<|O _ J<|q9 ?_;cases l;exact ⟨_,_,_,J⟩
  rintro _ ⟨ai,aj,ak,rfl⟩;refine q8 a fun bz b a=>?_;refine Qc 5 (fun A st=>∃ al am an ao,st = A [(65,Q0 bz),(64,ao),(63,an),(62,am),(61,al)]) ?_ ?_
  ·refine Qa J J b (fun b=>?_) (fun b=>?_)
   ·refine U J<|q8 b fun ap ca b=>Q4 (q23 ap ca) J<|q8 b fun cb cc b=>Q4 (qcx v.1 ap cb cc) J<|O _ J<|q9 ?_;cases b;exact ⟨_,_,_,_,J⟩
   refine qb J<|qb J<|qb J<|O _ J<|q9 ?_;cases b;exact ⟨_,_,_,_,J⟩
  rintro _ ⟨al,am,an,ao,rfl⟩;refine q8 a fun cd c a=>?_;refine Qc 5 (fun A st=>∃ aq ar au av,st = A [(70,Q0 cd),(69,av),(68,au),(67,ar),(66,aq)]) ?_ ?_
  ·refine Qa J J c (fun c=>?_) (fun c=>?_)
   ·refine q8 c fun aw ce c=>Q4 (q23 aw ce) J<|O _ J<|q8 c fun cf cg c=>Q4 (qo0 aw ({X:=0,Y:=0,Z:=1} : Q6) cf cg) J<|O _ J<|q9 ?_;cases c;exact ⟨_,_,_,_,J⟩
   refine qb J<|qb J<|qb J<|O _ J<|q9 ?_;cases c;exact ⟨_,_,_,_,J⟩
  rintro _ ⟨aq,ar,au,av,rfl⟩;refine q8 a fun ch f a=>?_;refine Qc 6 (fun A st=>∃ ax ay az ba bb,st = A [(76,Q0 ch),(75,bb),(74,ba),(73,az),(72,ay),(71,ax)]) ?_ ?_
  ·refine Qa J J f (fun f=>?_) (fun f=>?_)
   ·refine q8 f fun bc ci f=>Q4 (q23 bc ci) J<|O _ J<|q8 f fun cj ck f=>Q4 (qo0 bc ({X:=1,Y:=0,Z:=1} : Q6) cj ck) J<|O _ J<|O _ J<|q9 ?_;cases f;exact ⟨_,_,_,_,_,J⟩
   refine qb J<|qb J<|qb J<|qb J<|O _ J<|q9 ?_;cases f;exact ⟨_,_,_,_,_,J⟩
  rintro _ ⟨ax,ay,az,ba,bb,rfl⟩;refine qa J<|qv ?_;cases a;exact Q8 _ J
 refine qb J<|qb J<|qb J<|qb J<|qb J<|O _ J<|U J<|qb J<|qb J<|O _ J<|U J<|qb J<|qb J<|qb J<|O _ J<|U J<|qb J<|qb J<|qb J<|O _ J<|U J<|qb J<|qb J<|qb J<|qb J<|O _ J<|qa J<|qv ?_;cases a;exact Q8 _ J
theorem qmt (h : Q6) (j : Int) (r : Bool) (a : q6p h j = some r) : Pure Tryz.prog tab 47 [.agg (Zq h),qg j] (.bool r):=by
 unfold q6p at a;refine Qp Tryz.func47 J qh qh J<|qc<|Qs _ _ J<|qa J<|qs<|O _ J<|O _ J<|U J<|O _ J<|q8 a fun c1 b a=>?_;refine Qc 6 (fun A st=>∃ k l m n o,st = A [(14,Q0 c1),(13,o),(12,n),(11,m),(10,l),(9,k)]) ?_ ?_
 ·refine Qa J J b (fun b=>?_) (fun b=>?_)
  ·refine O _ J<|O _ J<|U J<|O _ J<|O _ J<|q9 ?_;cases b;exact ⟨_,_,_,_,_,J⟩
  refine qb J<|qb J<|qb J<|qb J<|O _ J<|q9 ?_;cases b;exact ⟨_,_,_,_,_,J⟩
 rintro _ ⟨k,l,m,n,o,rfl⟩;refine q8 a fun c8 c a=>?_;refine Qc 6 (fun A st=>∃ p q s t u,st = A [(20,Q0 c8),(19,u),(18,t),(17,s),(16,q),(15,p)]) ?_ ?_
 ·refine Qa J J c (fun c=>?_) (fun c=>?_)
  ·refine O _ J<|O _ J<|U J<|O _ J<|O _ J<|q9 ?_;cases c;exact ⟨_,_,_,_,_,J⟩
  refine qb J<|qb J<|qb J<|qb J<|O _ J<|q9 ?_;cases c;exact ⟨_,_,_,_,_,J⟩
 rintro _ ⟨p,q,s,t,u,rfl⟩;refine q8 a fun aj d a=>?_;refine Qc 5 (fun A st=>∃ v w x y,st = A [(25,Q0 aj),(24,y),(23,x),(22,w),(21,v)]) ?_ ?_
 ·refine Qa J J d (fun d=>?_) (fun d=>?_)
  ·refine O _ J<|O _ J<|O _ J<|O _ J<|q9 ?_;cases d;exact ⟨_,_,_,_,J⟩
  refine qb J<|qb J<|qb J<|O _ J<|q9 ?_;cases d;exact ⟨_,_,_,_,J⟩
 rintro _ ⟨v,w,x,y,rfl⟩;refine q8 a fun ak f a=>?_;refine Qc 5 (fun A st=>∃ z aa ab ac,st = A [(30,Q0 ak),(29,ac),(28,ab),(27,aa),(26,z)]) ?_ ?_
 ·refine Qa J J f (fun f=>?_) (fun f=>?_)
  ·refine O _ J<|O _ J<|O _ J<|O _ J<|q9 ?_;cases f;exact ⟨_,_,_,_,J⟩
  refine qb J<|qb J<|qb J<|O _ J<|q9 ?_;cases f;exact ⟨_,_,_,_,J⟩
 rintro _ ⟨z,aa,ab,ac,rfl⟩;refine q8 a fun al g a=>?_;refine Qc 5 (fun A st=>∃ ad ae af ag,st = A [(35,Q0 al),(34,ag),(33,af),(32,ae),(31,ad)]) ?_ ?_
 ·refine Qa J J g (fun g=>?_) (fun g=>?_)
  ·refine O _ J<|O _ J<|O _ J<|O _ J<|q9 ?_;cases g;exact ⟨_,_,_,_,J⟩
  refine qb J<|qb J<|qb J<|O _ J<|q9 ?_;cases g;exact ⟨_,_,_,_,J⟩
 rintro _ ⟨ad,ae,af,ag,rfl⟩;refine qa J<|qv ?_;cases a;exact Q8 _ J
theorem qx1 (g : qe) (r : Bool) (a : q9u g = some r) : Pure Tryz.prog tab 74 [.agg (Q5 g)] (.bool r):=by
 unfold q9u at a;refine Qp Tryz.func74 J qh qh J<|qc<|Qs _ _ J<|qa J<|qs<|O _ J<|O _ J<|q8 a fun r1 h2 a=>Q4 (qmt g.Lo (-1000000) r1 h2) J<|q8 a fun c5 b a=>?_;refine Qc 5 (fun A st=>∃ h j k l,st = A [(11,Q0 c5),(10,l),(9,k),(8,j),(7,h)]) ?_ ?_
 ·refine Qa J J b (fun b=>?_) (fun b=>?_)
  ·refine O _ J<|O _ J<|q8 b fun ao ap b=>Q4 (qmt g.Hi (-1000000) ao ap) J<|O _ J<|q9 ?_;cases b;exact ⟨_,_,_,_,J⟩
  refine qb J<|qb J<|qb J<|O _ J<|q9 ?_;cases b;exact ⟨_,_,_,_,J⟩
 rintro _ ⟨h,j,k,l,rfl⟩;refine qa J<|qs<|U J<|q8 a fun aq c a=>?_;refine Qc 9 (fun A st=>∃ m n o p q s t u,st = A [(21,Q0 aq),(20,u),(19,t),(18,s),(17,q),(16,p),(15,o),(14,n),(13,m)]) ?_ ?_
 ·refine Qa J J c (fun c=>?_) (fun c=>?_)
  ·refine O _ J<|O _ J<|O _ J<|O _ J<|O _ J<|O _ J<|O _ J<|O _ J<|q9 ?_;cases c;exact ⟨_,_,_,_,_,_,_,_,J⟩
  refine qb J<|qb J<|qb J<|qb J<|qb J<|qb J<|qb J<|O _ J<|q9 ?_;cases c;exact ⟨_,_,_,_,_,_,_,_,J⟩
 rintro _ ⟨m,n,o,p,q,s,t,u,rfl⟩;refine q8 a fun ar d a=>?_;refine Qc 9 (fun A st=>∃ v w x y z aa ab ac,st = A [(30,Q0 ar),(29,ac),(28,ab),(27,aa),(26,z),(25,y),(24,x),(23,w),(22,v)]) ?_ ?_
 ·refine Qa J J d (fun d=>?_) (fun d=>?_)
  ·refine O _ J<|O _ J<|O _ J<|O _ J<|O _ J<|O _ J<|O _ J<|O _ J<|q9 ?_;cases d;exact ⟨_,_,_,_,_,_,_,_,J⟩
  refine qb J<|qb J<|qb J<|qb J<|qb J<|qb J<|qb J<|O _ J<|q9 ?_;cases d;exact ⟨_,_,_,_,_,_,_,_,J⟩
 rintro _ ⟨v,w,x,y,z,aa,ab,ac,rfl⟩;refine q8 a fun au f a=>?_;refine Qc 9 (fun A st=>∃ ad ae af ag ah ai aj ak,st = A [(39,Q0 au),(38,ak),(37,aj),(36,ai),(35,ah),(34,ag),(33,af),(32,ae),(31,ad)]) ?_ ?_
 ·refine Qa J J f (fun f=>?_) (fun f=>?_)
  ·refine O _ J<|O _ J<|O _ J<|O _ J<|O _ J<|O _ J<|O _ J<|O _ J<|q9 ?_;cases f;exact ⟨_,_,_,_,_,_,_,_,J⟩
  refine qb J<|qb J<|qb J<|qb J<|qb J<|qb J<|qb J<|O _ J<|q9 ?_;cases f;exact ⟨_,_,_,_,_,_,_,_,J⟩
 rintro _ ⟨ad,ae,af,ag,ah,ai,aj,ak,rfl⟩;refine qa J<|qv ?_;cases a;exact Q8 _ J
theorem qgs (g : List Int) (r : List Int) (n : Ub g = some r) : Pure Tryz.prog tab 125 [.sl 1 (g.map (eI .i64))] (.sl 1 (r.map (eI .i64))):=by
 unfold Ub at n;refine Qp Tryz.func125 J qh qh J<|qc<|qa J<|qs<|qa J<|q9<|qf<|qc<|qa J<|q9<|q8 n fun s bb n=>?_;refine Qn (fun l=>l = s) (fun l=>⟨[(3,.hs 0 1 0 l.length)],[(0,.dat 1 (l.map (eI .i64)))],1⟩) qd ?_ ?_
 ·refine Qk (q48 g) (fun b=>⟨[(0,.d (.sl 1 (g.map (eI .i64)))),(3,.hs 0 1 0 b.2.length),(4,q7 b.1)],[(0,.dat 1 (b.2.map (eI .i64)))],1⟩) _ s bb (wkA [] [] [0]) ?_;intro b bk h;unfold q48 at h;refine qf<|qc<|U J<|U J<|Qr J<|O _ J<|q9 ?_;refine qo J h (fun _ h=>?_) (fun _ h=>?_)
  ·refine qm<|qf<|q8 h fun bc a h=>?_;refine Qn (fun m=>m = bc) (fun m=>⟨[(0,.d (.sl 1 (g.map (eI .i64)))),(3,.hs 0 1 0 m.length),(4,q7 b.1)],[(0,.dat 1 (m.map (eI .i64)))],1⟩) qd ?_ ?_
   ·refine qc<|U J<|O _ J<|qa J<|q9<|qf<|q8 a fun t bd a=>?_;refine Qn (fun o=>o = t) (fun o=>⟨[(0,.d (.sl 1 (g.map (eI .i64)))),(3,.hs 0 1 0 b.2.length),(4,q7 b.1),(5,q7 o)],[(0,.dat 1 (b.2.map (eI .i64)))],1⟩) qd ?_ ?_
    ·refine Qk (q49 b g) (fun u=>⟨[(0,.d (.sl 1 (g.map (eI .i64)))),(3,.hs 0 1 0 b.2.length),(4,q7 b.1),(5,q7 u)],[(0,.dat 1 (b.2.map (eI .i64)))],1⟩) _ t bd (wkA [(0,0)] [] []) ?_;intro u bl j;unfold q49 at j;refine qf<|qf<|Ql [q6,q6,q6,q6,q6,q6,qu 0,q6,q6,q6,q6,q6,q6,q6] qh<|U J<|O _ J<|q8 j fun be c j=>?_;refine Qc 12 (fun A st=>∃ v x y z aa ab ac ad ae af ag,st = A [(27,Q0 be),(26,ag),(25,af),(24,ae),(23,ad),(22,ac),(21,ab),(20,aa),(19,z),(18,y),(17,x),(16,v)]) ?_ ?_
     ·refine Qa J J c (fun c=>?_) (fun c=>?_)
      ·refine U J<|U J<|O _ J<|q8 c fun bm ah c=>qx ah J J<|Qd _ ah J<|U J<|U J<|q8 c fun bn bf c=>Qh bf J<|O _ J<|O _ J<|O _ J<|q9 ?_;cases c;exact ⟨_,_,_,_,_,_,_,_,_,_,_,J⟩
      refine qb J<|qb J<|qb J<|qb J<|qb J<|qb J<|qb J<|qb J<|qb J<|qb J<|O _ J<|q9 ?_;cases c;exact ⟨_,_,_,_,_,_,_,_,_,_,_,J⟩
     rintro _ ⟨v,x,y,z,aa,ab,ac,ad,ae,af,ag,rfl⟩;refine q9 ?_;refine qo J j (fun _ j=>?_) (fun _ j=>?_)
     ·refine qm<|Q7<|qz<|U J<|O _ J<|qa J<|qy<|Qo<|Qm<|⟨_,qp j,wkA [(0,0)] [] []⟩
     refine Qe ?_;refine ⟨_,qp j,fun hm=>?_⟩;subst hm;exact ⟨_,J,wkA [(0,0)] [] []⟩
    intro o hb;subst hb;refine qf<|qf<|Ql [q6,q6,q6,q6,q6,q6,qu 0,q6,q6,q6,q6,q6,q6,q6] qh<|U J<|O _ J<|q8 a fun bg f a=>?_;refine Qc 12 (fun A st=>∃ ai aj ak al am an ao ap aq ar au,st = A [(43,Q0 bg),(42,au),(41,ar),(40,aq),(39,ap),(38,ao),(37,an),(36,am),(35,al),(34,ak),(33,aj),(32,ai)]) ?_ ?_
    ·refine Qa J J f (fun f=>?_) (fun f=>?_)
     ·refine U J<|U J<|O _ J<|q8 f fun bo av f=>qx av J J<|Qd _ av J<|U J<|U J<|q8 f fun bp bh f=>Qh bh J<|O _ J<|O _ J<|O _ J<|q9 ?_;cases f;exact ⟨_,_,_,_,_,_,_,_,_,_,_,J⟩
     refine qb J<|qb J<|qb J<|qb J<|qb J<|qb J<|qb J<|qb J<|qb J<|qb J<|O _ J<|q9 ?_;cases f;exact ⟨_,_,_,_,_,_,_,_,_,_,_,J⟩
    rintro _ ⟨ai,aj,ak,al,am,an,ao,ap,aq,ar,au,rfl⟩;refine q9 ?_;refine qo J a (fun _ a=>?_) (fun _ a=>?_)
    ·refine Qe ?_;obtain rfl:=qt a;exact ⟨_,J,wkA [(0,0)] [] []⟩
    refine qm<|qc<|U J<|Qs _ _ J<|q8 a fun p bi a=>Kt _ bi J J J J J J J (Kq J J) J J J J<|qa J<|q9<|qf<|Ql [Qv 2,q6,q6,q6,q6,q6,q6,q6] qh<|U J<|U J<|O _ J<|q8 a fun aw q a=>q9i q J J J J J (q5k J) (fun _=>rfl)<|U J<|U J<|q8 a fun k ax a=>q9i ax J J J J J (q5k J) (fun _=>rfl)<|qur (w:=aw) (xs:=p) (ys:=(p.drop k.1).take k.2) (enc:=(eI .i64)) (.hs 2 1 k.1 k.2) (qb8 q) J J J J J J (qrx (qb8 ax) J) J J J J ?_;have ay:=@qjj _ p ((p.drop k.1).take k.2) aw (qb8 q);refine q9<|qz<|U J<|U J<|U J<|U J<|q8 a fun az bj a=>Qh bj J<|O _ J<|q8 a fun bq ba a=>qx ba (by simp [ay]) J<|K3 (ds:=[qg az]) az ba J J J J J J J J (leb J) J<|qy ?_;obtain rfl:=qt a;exact ⟨_,J,wkE [(0,2)] [] [] J ⟨qn J,⟨_,J,K6 (by simp [ay]) J Q1 (ltd J)⟩,qn J,trivial⟩ ⟨Qq J J,trivial⟩⟩
   intro m hb;subst hb;refine qz<|U J<|O _ J<|qa J<|qy<|⟨_,qp h,wkA [(0,0)] [] []⟩
  refine Qe ?_;refine ⟨_,qp h,fun hm=>?_⟩;subst hm;exact ⟨_,J,wkA [(0,0)] [] []⟩
 intro l hb;subst hb;refine qc<|U J<|qa J<|qv ?_;obtain rfl:=qt n;exact finD (.inr J) J (Z9 J J) (.refl _)
theorem qww (j : List qe) (g : List qe) (r : List Int) (c : q9t j g = some r) : Pure Tryz.prog tab 102 [.sl 6 (j.map Q5),.sl 6 (g.map Q5)] (.sl 1 (r.map (eI .i64))):=by
 unfold q9t at c;refine Qp Tryz.func102 J qh qh J<|qc<|qa J<|qs<|qa J<|q9<|qf<|qc<|qa J<|q9<|q8 c fun m o c=>?_;refine Qn (fun h=>h = m) (fun h=>⟨[(1,.d (.sl 6 (g.map Q5))),(5,.hs 0 1 0 h.length)],[(0,.dat 1 (h.map (eI .i64)))],1⟩) qd ?_ ?_
 ·refine Qk (q4h j) (fun k=>⟨[(0,.d (.sl 6 (j.map Q5))),(1,.d (.sl 6 (g.map Q5))),(5,.hs 0 1 0 k.2.length),(6,q7 k.1)],[(0,.dat 1 (k.2.map (eI .i64)))],1⟩) _ m o (wkA [] [] [0]) ?_;intro k z a;unfold q4h at a;refine qf<|qc<|U J<|U J<|Qr J<|O _ J<|q9 ?_;refine qo J a (fun _ a=>?_) (fun _ a=>?_)
  ·refine qm<|qf<|Q7<|Ql [q6,(some [0,1],[0,2]),(some [],[1]),q6,q6,q6,q6,q6,q6,q6,q6,q6,q6,q6,q6,q6] qh<|U J<|U J<|U J<|q8 a fun aa p a=>Qh p J<|O _ J<|O _ J<|O _ J<|U J<|U J<|q8 a fun ab q a=>Qh q J<|O _ J<|O _ J<|O _ J<|Qs _ _ J<|q8 a fun ac s a=>Kt _ s J J J J J J J (Kq J J) J J J J<|qa J<|qy<|Qo<|qz<|U J<|O _ J<|qa J<|qy<|⟨_,qp a,wkA [(0,2)] [] []⟩
  refine Qe ?_;refine ⟨_,qp a,fun hm=>?_⟩;subst hm;exact ⟨_,J,wkA [(0,0)] [] []⟩
 intro h hb;subst hb;refine qf<|qc<|qa J<|q9<|q8 c fun n t c=>?_;refine Qn (fun f=>f = n) (fun f=>⟨[(5,.hs 0 1 0 f.length)],[(0,.dat 1 (f.map (eI .i64)))],1⟩) qd ?_ ?_
 ·refine Qk (q4i g) (fun l=>⟨[(1,.d (.sl 6 (g.map Q5))),(5,.hs 0 1 0 l.2.length),(7,q7 l.1)],[(0,.dat 1 (l.2.map (eI .i64)))],1⟩) _ n t (wkA [(0,0)] [] []) ?_;intro l ad b;unfold q4i at b;refine qf<|qc<|U J<|U J<|Qr J<|O _ J<|q9 ?_;refine qo J b (fun _ b=>?_) (fun _ b=>?_)
  ·refine qm<|qf<|Q7<|Ql [q6,(some [0,1],[0,2]),(some [],[1]),q6,q6,q6,q6,q6,q6,q6,q6,q6,q6,q6,q6,q6] qh<|U J<|U J<|U J<|q8 b fun ae u b=>Qh u J<|O _ J<|O _ J<|O _ J<|U J<|U J<|q8 b fun af v b=>Qh v J<|O _ J<|O _ J<|O _ J<|Qs _ _ J<|q8 b fun ag w b=>Kt _ w J J J J J J J (Kq J J) J J J J<|qa J<|qy<|Qo<|qz<|U J<|O _ J<|qa J<|qy<|⟨_,qp b,wkA [(0,2)] [] []⟩
  refine Qe ?_;refine ⟨_,qp b,fun hm=>?_⟩;subst hm;exact ⟨_,J,wkA [(0,0)] [] []⟩
 intro f hb;subst hb;refine qf ?_;refine Y8 (st':=⟨[(5,.d (.sl 1 (f.map (eI .i64))))],[],0⟩) (wkA [] [0] []) ?_ qd;refine qz<|U J<|q8 c fun x y c=>Q4 (qgs f x y) J<|qa J<|qv ?_;cases c;exact Q8 _ J
theorem qcv (f : List qe) (g : Int) (r : List qi) (l : Uc f g = some r) : Pure Tryz.prog tab 104 [.sl 6 (f.map Q5),qg g] (.sl 4 (r.map qw)):=by
 unfold Uc at l;refine Qp Tryz.func104 J qh qh J<|qc<|qa J<|qs<|qa J<|q9<|qf<|qc<|qa J<|q9<|q8 l fun m x l=>?_;refine Qn (fun h=>h = m) (fun h=>⟨[(5,.hs 0 4 0 h.length)],[(0,.dat 4 (h.map qw))],1⟩) qd ?_ ?_
 ·refine Qk (q6q f g) (fun j=>⟨[(0,.d (.sl 6 (f.map Q5))),(1,q7 g),(5,.hs 0 4 0 j.2.length),(6,q7 j.1)],[(0,.dat 4 (j.2.map qw))],1⟩) _ m x (wkA [] [] [0]) ?_;intro j ah b;unfold q6q at b;refine qf<|qc<|U J<|U J<|Qr J<|O _ J<|q9 ?_;refine qo J b (fun _ b=>?_) (fun _ b=>?_)
  ·refine qm<|qf<|q8 b fun y a b=>?_;refine Qn (fun k=>k = y) (fun k=>⟨[(0,.d (.sl 6 (f.map Q5))),(1,q7 g),(5,.hs 0 4 0 k.length),(6,q7 j.1)],[(0,.dat 4 (k.map qw))],1⟩) qd ?_ ?_
   ·refine qc<|U J<|U J<|q8 a fun ai z a=>Qh z J<|O _ J<|O _ J<|O _ J<|U J<|O _ J<|q8 a fun aa c a=>?_;refine Qc 10 (fun A st=>∃ n o p q s t u v w,st = A [(30,Q0 aa),(29,w),(28,v),(27,u),(26,t),(25,s),(24,q),(23,p),(22,o),(21,n)]) ?_ ?_
    ·refine Qa J J c (fun c=>?_) (fun c=>?_)
     ·refine U J<|U J<|U J<|q8 c fun aj ab c=>Qh ab J<|O _ J<|O _ J<|O _ J<|O _ J<|O _ J<|q9 ?_;cases c;exact ⟨_,_,_,_,_,_,_,_,_,J⟩
     refine qb J<|qb J<|qb J<|qb J<|qb J<|qb J<|qb J<|qb J<|O _ J<|q9 ?_;cases c;exact ⟨_,_,_,_,_,_,_,_,_,J⟩
    rintro _ ⟨n,o,p,q,s,t,u,v,w,rfl⟩;refine q9 ?_;refine qo J a (fun _ a=>?_) (fun _ a=>?_)
    ·refine Ql [q6,(some [0,1],[0,2]),(some [],[1]),q6,q6,q6,q6,q6,q6,q6,q6,q6,q6,q6,q6,q6,q6,q6,q6,q6,q6,q6,q6,q6,q6,q6,q6,q6,q6] qh<|U J<|U J<|U J<|q8 a fun ak ac a=>Qh ac J<|O _ J<|O _ J<|O _ J<|U J<|U J<|q8 a fun al ad a=>Qh ad J<|O _ J<|O _ J<|O _ J<|U J<|U J<|q8 a fun am ae a=>Qh ae J<|O _ J<|O _ J<|O _ J<|U J<|U J<|q8 a fun an af a=>Qh af J<|O _ J<|O _ J<|O _ J<|O _ J<|Qs _ _ J<|q8 a fun ao ag a=>Kt _ ag J J J J J J J (Kq J J) J J J J<|qa J<|qy ?_;obtain rfl:=qt a;exact ⟨_,J,wkA [(0,2)] [] []⟩
    refine qm<|Qm ?_;obtain rfl:=qt a;exact ⟨_,J,wkA [(0,0)] [] []⟩
   intro k hb;subst hb;refine qz<|U J<|O _ J<|qa J<|qy<|⟨_,qp b,wkA [(0,0)] [] []⟩
  refine Qe ?_;refine ⟨_,qp b,fun hm=>?_⟩;subst hm;exact ⟨_,J,wkA [(0,0)] [] []⟩
 intro h hb;subst hb;refine qc<|U J<|qa J<|qv ?_;obtain rfl:=qt l;exact finD (.inr J) J (Z9 J J) (.refl _)
theorem qwo (j : List qi) (g : List qi) (r : List Int) (c : q9q j g = some r) : Pure Tryz.prog tab 126 [.sl 4 (j.map qw),.sl 4 (g.map qw)] (.sl 1 (r.map (eI .i64))):=by
 unfold q9q at c;refine Qp Tryz.func126 J qh qh J<|qc<|qa J<|qs<|qa J<|q9<|qf<|qc<|qa J<|q9<|q8 c fun m o c=>?_;refine Qn (fun h=>h = m) (fun h=>⟨[(1,.d (.sl 4 (g.map qw))),(5,.hs 0 1 0 h.length)],[(0,.dat 1 (h.map (eI .i64)))],1⟩) qd ?_ ?_
 ·refine Qk (q4c j) (fun k=>⟨[(0,.d (.sl 4 (j.map qw))),(1,.d (.sl 4 (g.map qw))),(5,.hs 0 1 0 k.2.length),(6,q7 k.1)],[(0,.dat 1 (k.2.map (eI .i64)))],1⟩) _ m o (wkA [] [] [0]) ?_;intro k z a;unfold q4c at a;refine qf<|qc<|U J<|U J<|Qr J<|O _ J<|q9 ?_;refine qo J a (fun _ a=>?_) (fun _ a=>?_)
  ·refine qm<|qf<|Q7<|Ql [q6,(some [0,1],[0,2]),(some [],[1]),q6,q6,q6,q6,q6,q6,q6,q6,q6,q6,q6] qh<|U J<|U J<|U J<|q8 a fun aa p a=>Qh p J<|O _ J<|O _ J<|U J<|U J<|q8 a fun ab q a=>Qh q J<|O _ J<|O _ J<|Qs _ _ J<|q8 a fun ac s a=>Kt _ s J J J J J J J (Kq J J) J J J J<|qa J<|qy<|Qo<|qz<|U J<|O _ J<|qa J<|qy<|⟨_,qp a,wkA [(0,2)] [] []⟩
  refine Qe ?_;refine ⟨_,qp a,fun hm=>?_⟩;subst hm;exact ⟨_,J,wkA [(0,0)] [] []⟩
 intro h hb;subst hb;refine qf<|qc<|qa J<|q9<|q8 c fun n t c=>?_;refine Qn (fun f=>f = n) (fun f=>⟨[(5,.hs 0 1 0 f.length)],[(0,.dat 1 (f.map (eI .i64)))],1⟩) qd ?_ ?_
 ·refine Qk (q4d g) (fun l=>⟨[(1,.d (.sl 4 (g.map qw))),(5,.hs 0 1 0 l.2.length),(7,q7 l.1)],[(0,.dat 1 (l.2.map (eI .i64)))],1⟩) _ n t (wkA [(0,0)] [] []) ?_;intro l ad b;unfold q4d at b;refine qf<|qc<|U J<|U J<|Qr J<|O _ J<|q9 ?_;refine qo J b (fun _ b=>?_) (fun _ b=>?_)
  ·refine qm<|qf<|Q7<|Ql [q6,(some [0,1],[0,2]),(some [],[1]),q6,q6,q6,q6,q6,q6,q6,q6,q6,q6,q6] qh<|U J<|U J<|U J<|q8 b fun ae u b=>Qh u J<|O _ J<|O _ J<|U J<|U J<|q8 b fun af v b=>Qh v J<|O _ J<|O _ J<|Qs _ _ J<|q8 b fun ag w b=>Kt _ w J J J J J J J (Kq J J) J J J J<|qa J<|qy<|Qo<|qz<|U J<|O _ J<|qa J<|qy<|⟨_,qp b,wkA [(0,2)] [] []⟩
  refine Qe ?_;refine ⟨_,qp b,fun hm=>?_⟩;subst hm;exact ⟨_,J,wkA [(0,0)] [] []⟩
 intro f hb;subst hb;refine qf ?_;refine Y8 (st':=⟨[(5,.d (.sl 1 (f.map (eI .i64))))],[],0⟩) (wkA [] [0] []) ?_ qd;refine qz<|U J<|q8 c fun x y c=>Q4 (qgs f x y) J<|qa J<|qv ?_;cases c;exact Q8 _ J
theorem qwq (j : List qi) (g : List qi) (r : List Int) (c : q9r j g = some r) : Pure Tryz.prog tab 127 [.sl 4 (j.map qw),.sl 4 (g.map qw)] (.sl 1 (r.map (eI .i64))):=by
 unfold q9r at c;refine Qp Tryz.func127 J qh qh J<|qc<|qa J<|qs<|qa J<|q9<|qf<|qc<|qa J<|q9<|q8 c fun m o c=>?_;refine Qn (fun h=>h = m) (fun h=>⟨[(1,.d (.sl 4 (g.map qw))),(5,.hs 0 1 0 h.length)],[(0,.dat 1 (h.map (eI .i64)))],1⟩) qd ?_ ?_
 ·refine Qk (q4e j) (fun k=>⟨[(0,.d (.sl 4 (j.map qw))),(1,.d (.sl 4 (g.map qw))),(5,.hs 0 1 0 k.2.length),(6,q7 k.1)],[(0,.dat 1 (k.2.map (eI .i64)))],1⟩) _ m o (wkA [] [] [0]) ?_;intro k z a;unfold q4e at a;refine qf<|qc<|U J<|U J<|Qr J<|O _ J<|q9 ?_;refine qo J a (fun _ a=>?_) (fun _ a=>?_)
  ·refine qm<|qf<|Q7<|Ql [q6,(some [0,1],[0,2]),(some [],[1]),q6,q6,q6,q6,q6,q6,q6,q6,q6,q6,q6] qh<|U J<|U J<|U J<|q8 a fun aa p a=>Qh p J<|O _ J<|O _ J<|U J<|U J<|q8 a fun ab q a=>Qh q J<|O _ J<|O _ J<|Qs _ _ J<|q8 a fun ac s a=>Kt _ s J J J J J J J (Kq J J) J J J J<|qa J<|qy<|Qo<|qz<|U J<|O _ J<|qa J<|qy<|⟨_,qp a,wkA [(0,2)] [] []⟩
  refine Qe ?_;refine ⟨_,qp a,fun hm=>?_⟩;subst hm;exact ⟨_,J,wkA [(0,0)] [] []⟩
 intro h hb;subst hb;refine qf<|qc<|qa J<|q9<|q8 c fun n t c=>?_;refine Qn (fun f=>f = n) (fun f=>⟨[(5,.hs 0 1 0 f.length)],[(0,.dat 1 (f.map (eI .i64)))],1⟩) qd ?_ ?_
 ·refine Qk (q4f g) (fun l=>⟨[(1,.d (.sl 4 (g.map qw))),(5,.hs 0 1 0 l.2.length),(7,q7 l.1)],[(0,.dat 1 (l.2.map (eI .i64)))],1⟩) _ n t (wkA [(0,0)] [] []) ?_;intro l ad b;unfold q4f at b;refine qf<|qc<|U J<|U J<|Qr J<|O _ J<|q9 ?_;refine qo J b (fun _ b=>?_) (fun _ b=>?_)
  ·refine qm<|qf<|Q7<|Ql [q6,(some [0,1],[0,2]),(some [],[1]),q6,q6,q6,q6,q6,q6,q6,q6,q6,q6,q6] qh<|U J<|U J<|U J<|q8 b fun ae u b=>Qh u J<|O _ J<|O _ J<|U J<|U J<|q8 b fun af v b=>Qh v J<|O _ J<|O _ J<|Qs _ _ J<|q8 b fun ag w b=>Kt _ w J J J J J J J (Kq J J) J J J J<|qa J<|qy<|Qo<|qz<|U J<|O _ J<|qa J<|qy<|⟨_,qp b,wkA [(0,2)] [] []⟩
  refine Qe ?_;refine ⟨_,qp b,fun hm=>?_⟩;subst hm;exact ⟨_,J,wkA [(0,0)] [] []⟩
 intro f hb;subst hb;refine qf ?_;refine Y8 (st':=⟨[(5,.d (.sl 1 (f.map (eI .i64))))],[],0⟩) (wkA [] [0] []) ?_ qd;refine qz<|U J<|q8 c fun x y c=>Q4 (qgs f x y) J<|qa J<|qv ?_;cases c;exact Q8 _ J
theorem qms (h : List qi) (j : Int) (k : Int) (r : Bool) (g : q6l h j k = some r) : Pure Tryz.prog tab 129 [.sl 4 (h.map qw),qg j,qg k] (.bool r):=by
 unfold q6l at g;refine Qp Tryz.func129 J qh qh J<|qc<|qa J<|q9<|qf<|qc<|qa J<|q9<|q8 g fun m an g=>?_;refine Qn (fun l=>.inl l = m) (fun l=>⟨[],[],0⟩) qd ?_ ?_
 ·refine Qk (q38 h j k) (fun n=>⟨[(0,.d (.sl 4 (h.map qw))),(1,q7 j),(2,q7 k),(7,q7 n)],[],0⟩) _ m an (wkA [] [] []) ?_;intro n ax a;unfold q38 at a;refine qf<|qc<|U J<|U J<|Qr J<|O _ J<|q9 ?_;refine qo J a (fun _ a=>?_) (fun _ a=>?_)
  ·refine qm<|qf<|Q7<|qc<|U J<|U J<|q8 a fun ay ao a=>Qh ao J<|O _ J<|O _ J<|U J<|O _ J<|q8 a fun ap b a=>?_;refine Qc 9 (fun A st=>∃ o p q s t u v w,st = A [(29,Q0 ap),(28,w),(27,v),(26,u),(25,t),(24,s),(23,q),(22,p),(21,o)]) ?_ ?_
   ·refine Qa J J b (fun b=>?_) (fun b=>?_)
    ·refine U J<|U J<|U J<|q8 b fun az aq b=>Qh aq J<|O _ J<|O _ J<|O _ J<|O _ J<|q9 ?_;cases b;exact ⟨_,_,_,_,_,_,_,_,J⟩
    refine qb J<|qb J<|qb J<|qb J<|qb J<|qb J<|qb J<|O _ J<|q9 ?_;cases b;exact ⟨_,_,_,_,_,_,_,_,J⟩
   rintro _ ⟨o,p,q,s,t,u,v,w,rfl⟩;refine q8 a fun ar c a=>?_;refine Qc 9 (fun A st=>∃ x y z aa ab ac ad ae,st = A [(38,Q0 ar),(37,ae),(36,ad),(35,ac),(34,ab),(33,aa),(32,z),(31,y),(30,x)]) ?_ ?_
   ·refine Qa J J c (fun c=>?_) (fun c=>?_)
    ·refine U J<|U J<|q8 c fun ba au c=>Qh au J<|O _ J<|O _ J<|U J<|O _ J<|O _ J<|q9 ?_;cases c;exact ⟨_,_,_,_,_,_,_,_,J⟩
    refine qb J<|qb J<|qb J<|qb J<|qb J<|qb J<|qb J<|O _ J<|q9 ?_;cases c;exact ⟨_,_,_,_,_,_,_,_,J⟩
   rintro _ ⟨x,y,z,aa,ab,ac,ad,ae,rfl⟩;refine q8 a fun av f a=>?_;refine Qc 9 (fun A st=>∃ af ag ah ai aj ak al am,st = A [(47,Q0 av),(46,am),(45,al),(44,ak),(43,aj),(42,ai),(41,ah),(40,ag),(39,af)]) ?_ ?_
   ·refine Qa J J f (fun f=>?_) (fun f=>?_)
    ·refine U J<|U J<|U J<|q8 f fun bb aw f=>Qh aw J<|O _ J<|O _ J<|O _ J<|O _ J<|q9 ?_;cases f;exact ⟨_,_,_,_,_,_,_,_,J⟩
    refine qb J<|qb J<|qb J<|qb J<|qb J<|qb J<|qb J<|O _ J<|q9 ?_;cases f;exact ⟨_,_,_,_,_,_,_,_,J⟩
   rintro _ ⟨af,ag,ah,ai,aj,ak,al,am,rfl⟩;refine q9 ?_;refine qo J a (fun _ a=>?_) (fun _ a=>?_)
   ·refine qc<|qa J<|qv ?_;refine ⟨_,qp a,fun hm=>?_⟩;subst hm;cases g;exact Q8 _ J
   refine qm<|Qm<|Qo<|qz<|U J<|O _ J<|qa J<|qy<|⟨_,qp a,wkA [] [] []⟩
  refine Qe ?_;refine ⟨_,qp a,fun hm=>?_⟩;subst hm;exact ⟨_,J,wkA [] [] []⟩
 intro l hb;subst hb;refine qc<|qa J<|qv ?_;cases g;exact Q8 _ J
theorem qwi (f : Int) (g : Bool) (h : Bool) (r : Bool) (a : q6j f g h = some r) : Pure Tryz.prog tab 128 [qg f,.bool g,.bool h] (.bool r):=by
 unfold q6j at a;refine Qp Tryz.func128 J qh qh J<|qc<|qa J<|q9<|qf<|qc<|U J<|O _ J<|q9 ?_;refine qo J a (fun _ a=>?_) (fun _ a=>?_)
 ·refine qc<|U J<|q8 a fun q b a=>?_;refine Qc 3 (fun A st=>∃ j k,st = A [(12,Q0 q),(11,k),(10,j)]) ?_ ?_
  ·refine Qa J J b (fun b=>?_) (fun b=>?_)
   ·refine U J<|O _ J<|q9 ?_;cases b;exact ⟨_,_,J⟩
   refine qb J<|O _ J<|q9 ?_;cases b;exact ⟨_,_,J⟩
  rintro _ ⟨j,k,rfl⟩;refine qa J<|qv ?_;cases a;exact Q8 _ J
 refine qm<|qf<|qc<|U J<|O _ J<|q9 ?_;refine qo J a (fun _ a=>?_) (fun _ a=>?_)
 ·refine qc<|U J<|q8 a fun s c a=>?_;refine Qc 3 (fun A st=>∃ l m,st = A [(18,Q0 s),(17,m),(16,l)]) ?_ ?_
  ·refine Qa J J c (fun c=>?_) (fun c=>?_)
   ·refine qb J<|O _ J<|q9 ?_;cases c;exact ⟨_,_,J⟩
   refine U J<|O _ J<|q9 ?_;cases c;exact ⟨_,_,J⟩
  rintro _ ⟨l,m,rfl⟩;refine qa J<|qv ?_;cases a;exact Q8 _ J
 refine qm<|qc<|U J<|q8 a fun t d a=>?_;refine Qc 4 (fun A st=>∃ n o p,st = A [(23,Q0 t),(22,p),(21,o),(20,n)]) ?_ ?_
 ·refine Qa J J d (fun d=>?_) (fun d=>?_)
  ·refine U J<|O _ J<|O _ J<|q9 ?_;cases d;exact ⟨_,_,_,J⟩
  refine qb J<|qb J<|O _ J<|q9 ?_;cases d;exact ⟨_,_,_,J⟩
 rintro _ ⟨n,o,p,rfl⟩;refine qa J<|qv ?_;cases a;exact Q8 _ J
theorem qwg (f : List Int) (g : List Bool) (r : List qj) (l : q46 f g = some r) : Pure Tryz.prog tab 130 [.sl 1 (f.map (eI .i64)),.sl 1 (g.map eB)] (.sl 2 (r.map Qg)):=by
 unfold q46 at l;refine Qp Tryz.func130 J qh qh J<|qc<|qa J<|qs<|qa J<|q9<|qf<|qc<|qa J<|q9<|q8 l fun m ad l=>?_;refine Qn (fun h=>h = m) (fun h=>⟨[(5,.hs 0 2 0 h.length)],[(0,.dat 2 (h.map Qg))],1⟩) qd ?_ ?_
 ·refine Qk (q47 f g) (fun j=>⟨[(0,.d (.sl 1 (f.map (eI .i64)))),(1,.d (.sl 1 (g.map eB))),(5,.hs 0 2 0 j.2.length),(6,q7 j.1)],[(0,.dat 2 (j.2.map Qg))],1⟩) _ m ad (wkA [] [] [0]) ?_;intro j an c;unfold q47 at c;refine qf<|qc<|U J<|O _ J<|U J<|Qr J<|O _ J<|q9 ?_;refine qo J c (fun _ c=>?_) (fun _ c=>?_)
  ·refine qm<|qf<|q8 c fun ae a c=>?_;refine Qn (fun k=>k = ae) (fun k=>⟨[(0,.d (.sl 1 (f.map (eI .i64)))),(1,.d (.sl 1 (g.map eB))),(5,.hs 0 2 0 k.length),(6,q7 j.1)],[(0,.dat 2 (k.map Qg))],1⟩) qd ?_ ?_
   ·refine qf<|qc<|U J<|U J<|q8 a fun ao af a=>Qh af J<|O _ J<|O _ J<|q9 ?_;refine qo J a (fun _ a=>?_) (fun _ a=>?_)
    ·refine Qe ?_;obtain rfl:=qt a;exact ⟨_,J,wkA [(0,0)] [] []⟩
    refine qm<|qc<|U J<|O _ J<|qa J<|q9<|qf<|Ql [q6,q6,q6,q6,q6,q6,qu 0,q6,q6,q6,q6,q6,q6,q6,q6] qh<|U J<|O _ J<|q8 a fun ag b a=>?_;refine Qc 13 (fun A st=>∃ n o p q s t u v w x y z,st = A [(36,Q0 ag),(35,z),(34,y),(33,x),(32,w),(31,v),(30,u),(29,t),(28,s),(27,q),(26,p),(25,o),(24,n)]) ?_ ?_
    ·refine Qa J J b (fun b=>?_) (fun b=>?_)
     ·refine U J<|U J<|O _ J<|q8 b fun ap aa b=>qx aa J J<|O _ J<|Qd _ aa J<|U J<|U J<|q8 b fun aq ah b=>Qh ah J<|O _ J<|O _ J<|O _ J<|q9 ?_;cases b;exact ⟨_,_,_,_,_,_,_,_,_,_,_,_,J⟩
     refine qb J<|qb J<|qb J<|qb J<|qb J<|qb J<|qb J<|qb J<|qb J<|qb J<|qb J<|O _ J<|q9 ?_;cases b;exact ⟨_,_,_,_,_,_,_,_,_,_,_,_,J⟩
    rintro _ ⟨n,o,p,q,s,t,u,v,w,x,y,z,rfl⟩;refine q9 ?_;refine qo J a (fun _ a=>?_) (fun _ a=>?_)
    ·refine qz<|U J<|U J<|O _ J<|U J<|U J<|O _ J<|q8 a fun ab ai a=>Qh ai J<|O _ J<|q8 a fun aj ac a=>qx ac J J<|O _ J<|K3 (ds:=[qg ab]) ({Lo:=aj.Lo,Hi:=ab} : qj) ac J J J J J J J J (leb J) J<|qy ?_;obtain rfl:=qt a;exact ⟨_,J,wkE [(0,0)] [] [] J ⟨qn J,qn J,⟨_,J,K6 qd J Q1 (ltd J)⟩,qn J,trivial⟩ ⟨Qq J J,trivial⟩⟩
    refine Ql [q6,(some [0,1],[0,2]),(some [],[1]),q6,q6,q6,q6,q6,q6,q6,q6,q6,q6,q6] qh<|U J<|U J<|U J<|q8 a fun ar ak a=>Qh ak J<|O _ J<|U J<|U J<|O _ J<|q8 a fun au al a=>Qh al J<|O _ J<|O _ J<|Qs _ _ J<|q8 a fun av am a=>Kt _ am J J J J J J J (Kq J J) J J J J<|qa J<|qy ?_;obtain rfl:=qt a;exact ⟨_,J,wkA [(0,2)] [] []⟩
   intro k hb;subst hb;refine qz<|U J<|O _ J<|qa J<|qy<|⟨_,qp c,wkA [(0,0)] [] []⟩
  refine Qe ?_;refine ⟨_,qp c,fun hm=>?_⟩;subst hm;exact ⟨_,J,wkA [(0,0)] [] []⟩
 intro h hb;subst hb;refine qc<|U J<|qa J<|qv ?_;obtain rfl:=qt l;exact finD (.inr J) J (Z9 J J) (.refl _)
theorem qwj (c : List qj) (f : List qj) (r : Bool) (b : q6k c f = some r) : Pure Tryz.prog tab 131 [.sl 2 (c.map Qg),.sl 2 (f.map Qg)] (.bool r):=by
 unfold q6k at b;refine Qp Tryz.func131 J qh qh J<|qc<|qa J<|q9<|qf<|qc<|U J<|Qr J<|U J<|Qr J<|O _ J<|q9 ?_;refine qo J b (fun _ b=>?_) (fun _ b=>?_)
 ·refine qc<|qa J<|qv ?_;cases b;exact Q8 _ J
 refine qm<|qf<|qc<|qa J<|q9<|q8 b fun h k b=>?_;refine Qn (fun g=>.inl g = h) (fun g=>⟨[],[],0⟩) qd ?_ ?_
 ·refine Qk (qcs c f) (fun j=>⟨[(0,.d (.sl 2 (c.map Qg))),(1,.d (.sl 2 (f.map Qg))),(5,q7 j)],[],0⟩) _ h k (wkA [] [] []) ?_;intro j n a;unfold qcs at a;refine qf<|qc<|U J<|U J<|Qr J<|O _ J<|q9 ?_;refine qo J a (fun _ a=>?_) (fun _ a=>?_)
  ·refine qm<|qf<|Q7<|qf<|Ql [q6,q6,q6,q6,q6,q6,q6,q6,q6] qh<|U J<|U J<|q8 a fun o l a=>Qh l J<|O _ J<|U J<|U J<|q8 a fun p m a=>Qh m J<|O _ J<|O _ J<|q9 ?_;refine qo J a (fun _ a=>?_) (fun _ a=>?_)
   ·refine qc<|qa J<|qv ?_;refine ⟨_,qp a,fun hm=>?_⟩;subst hm;cases b;exact Q8 _ J
   refine qm<|Qm<|Qo<|qz<|U J<|O _ J<|qa J<|qy<|⟨_,qp a,wkA [] [] []⟩
  refine Qe ?_;refine ⟨_,qp a,fun hm=>?_⟩;subst hm;exact ⟨_,J,wkA [] [] []⟩
 intro g hb;subst hb;refine qc<|qa J<|qv ?_;cases b;exact Q8 _ J
theorem qgt (j : Int) (f : List qi) (g : List qi) (r : List qi) (n : Jq j f g = some r) : Pure Tryz.prog tab 103 [qg j,.sl 4 (f.map qw),.sl 4 (g.map qw)] (.sl 4 (r.map qw)):=by
 unfold Jq at n;refine Qp Tryz.func103 J qh qh J<|qc<|qa J<|qs<|U J<|U J<|q8 n fun k h2 n=>Q4 (qwo f g k h2) J<|U J<|U J<|q8 n fun l h4 n=>Q4 (qwq f g l h4) J<|qa J<|qa J<|qs<|qa J<|qs<|qa J<|qs<|qa J<|q9<|qf<|qc<|qa J<|q9<|q8 n fun aa an n=>?_;refine Qn (fun t=>t = aa) (fun t=>⟨[(9,.hs 0 4 0 t.length)],[(0,.dat 4 (t.map qw))],1⟩) qd ?_ ?_
 ·refine Qk (q39 k l f g j) (fun a=>⟨[(0,q7 j),(1,.d (.sl 4 (f.map qw))),(2,.d (.sl 4 (g.map qw))),(7,.d (.sl 1 (k.map (eI .i64)))),(8,.d (.sl 1 (l.map (eI .i64)))),(9,.hs 0 4 0 a.2.2.2.length),(10,.d (.sl 2 (a.1.map Qg))),(11,q7 a.2.1),(12,q7 a.2.2.1)],[(0,.dat 4 (a.2.2.2.map qw))],1⟩) _ aa an (wkA [] [] [0]) ?_;intro a bs o;unfold q39 at o;refine qf<|qc<|U J<|O _ J<|U J<|Qr J<|O _ J<|q9 ?_;refine qo J o (fun _ o=>?_) (fun _ o=>?_)
  ·refine qm<|qf<|q8 o fun ao h o=>?_;refine Qn (fun p=>p = ao) (fun p=>⟨[(0,q7 j),(1,.d (.sl 4 (f.map qw))),(2,.d (.sl 4 (g.map qw))),(7,.d (.sl 1 (k.map (eI .i64)))),(8,.d (.sl 1 (l.map (eI .i64)))),(9,.hs 0 4 0 p.2.2.length),(10,.d (.sl 2 (p.1.map Qg))),(11,q7 p.2.1),(12,q7 a.2.2.1)],[(0,.dat 4 (p.2.2.map qw))],1⟩) qd ?_ ?_
   ·refine qc<|qa J<|q9<|qf<|qc<|qa J<|q9<|q8 h fun ab ap h=>?_;refine Qn (fun q=>q = ab) (fun q=>⟨[(0,q7 j),(1,.d (.sl 4 (f.map qw))),(2,.d (.sl 4 (g.map qw))),(7,.d (.sl 1 (k.map (eI .i64)))),(8,.d (.sl 1 (l.map (eI .i64)))),(9,.hs 0 4 0 a.2.2.2.length),(10,.d (.sl 2 (a.1.map Qg))),(11,q7 a.2.1),(12,q7 a.2.2.1),(13,.hs 1 1 0 q.length)],[(0,.dat 4 (a.2.2.2.map qw)),(1,.dat 1 (q.map eB))],2⟩) qd ?_ ?_
    ·refine Qk (q4a l k a f g j) (fun w=>⟨[(0,q7 j),(1,.d (.sl 4 (f.map qw))),(2,.d (.sl 4 (g.map qw))),(7,.d (.sl 1 (k.map (eI .i64)))),(8,.d (.sl 1 (l.map (eI .i64)))),(9,.hs 0 4 0 a.2.2.2.length),(10,.d (.sl 2 (a.1.map Qg))),(11,q7 a.2.1),(12,q7 a.2.2.1),(13,.hs 1 1 0 w.2.length),(14,q7 w.1)],[(0,.dat 4 (a.2.2.2.map qw)),(1,.dat 1 (w.2.map eB))],2⟩) _ ab ap (wkA [(0,0)] [] [1]) ?_;intro w bt b;unfold q4a at b;refine qf<|qc<|U J<|U J<|Qr J<|O _ J<|q9 ?_;refine qo J b (fun _ b=>?_) (fun _ b=>?_)
     ·refine qm<|qf<|Q7<|Ql [q6,(some [1,2],[1,3]),(some [],[2]),q6,q6,q6,q6,q6,q6,q6,q6,q6,q6,q6,q6,q6,q6,q6,q6,q6,q6,q6,q6,q6,q6,q6] qh<|U J<|U J<|U J<|U J<|U J<|q8 b fun aq ar b=>Qh ar J<|O _ J<|U J<|U J<|q8 b fun au av b=>Qh av J<|O _ J<|q8 b fun ac aw b=>Q4 (qms f aq au ac aw) J<|U J<|U J<|U J<|q8 b fun ax ay b=>Qh ay J<|O _ J<|U J<|U J<|q8 b fun az ba b=>Qh ba J<|O _ J<|q8 b fun ad bb b=>Q4 (qms g ax az ad bb) J<|q8 b fun bc bd b=>Q4 (qwi j ac ad bc bd) J<|Qs _ _ J<|q8 b fun bu be b=>Kt _ be J J J J J J J (Kq J J) J J J J<|qa J<|qy<|Qo ?_;refine qz<|U J<|O _ J<|qa J<|qy<|⟨_,qp b,wkA [(0,0),(1,3)] [] []⟩
     refine Qe ?_;refine ⟨_,qp b,fun hm=>?_⟩;subst hm;exact ⟨_,J,wkA [(0,0),(1,1)] [] []⟩
    intro q hb;subst hb;refine qf ?_;refine Y8 (st':=⟨[(0,q7 j),(1,.d (.sl 4 (f.map qw))),(2,.d (.sl 4 (g.map qw))),(7,.d (.sl 1 (k.map (eI .i64)))),(8,.d (.sl 1 (l.map (eI .i64)))),(9,.hs 0 4 0 a.2.2.2.length),(10,.d (.sl 2 (a.1.map Qg))),(11,q7 a.2.1),(12,q7 a.2.2.1),(13,.d (.sl 1 (q.map eB)))],[(0,.dat 4 (a.2.2.2.map qw))],1⟩) (wkA [(0,0)] [1] []) ?_ qd;refine qz<|U J<|U J<|q8 h fun u bf h=>Q4 (qwg l q u bf) J<|qa J<|q9<|qf<|qc<|U J<|O _ J<|q8 h fun bg s h=>?_;refine Qc 5 (fun A st=>∃ ae af ag ah,st = A [(71,Q0 bg),(70,ah),(69,ag),(68,af),(67,ae)]) ?_ ?_
    ·refine Qa J J s (fun s=>?_) (fun s=>?_)
     ·refine U J<|U J<|q8 s fun bh bi s=>Q4 (qwj u a.1 bh bi) J<|O _ J<|q9 ?_;cases s;exact ⟨_,_,_,_,J⟩
     refine qb J<|qb J<|qb J<|O _ J<|q9 ?_;cases s;exact ⟨_,_,_,_,J⟩
    rintro _ ⟨ae,af,ag,ah,rfl⟩;refine q9 ?_;refine qo J h (fun _ h=>?_) (fun _ h=>?_)
    ·refine qf<|qc<|U J<|qa J<|q9<|q8 h fun ai bj h=>?_;refine Qn (fun v=>v = ai) (fun v=>⟨[(0,q7 j),(1,.d (.sl 4 (f.map qw))),(2,.d (.sl 4 (g.map qw))),(7,.d (.sl 1 (k.map (eI .i64)))),(8,.d (.sl 1 (l.map (eI .i64)))),(9,.hs 0 4 0 v.length),(10,.d (.sl 2 (a.1.map Qg))),(11,q7 a.2.1),(12,q7 a.2.2.1)],[(0,.dat 4 (v.map qw))],1⟩) qd ?_ ?_
     ·refine Qk (q4b k a) (fun x=>⟨[(0,q7 j),(1,.d (.sl 4 (f.map qw))),(2,.d (.sl 4 (g.map qw))),(7,.d (.sl 1 (k.map (eI .i64)))),(8,.d (.sl 1 (l.map (eI .i64)))),(9,.hs 0 4 0 x.2.length),(10,.d (.sl 2 (a.1.map Qg))),(11,q7 a.2.1),(12,q7 a.2.2.1),(16,q7 x.1)],[(0,.dat 4 (x.2.map qw))],1⟩) _ ai bj (wkA [(0,0)] [] []) ?_;intro x bv m;unfold q4b at m;refine qf<|qc<|U J<|U J<|O _ J<|O _ J<|q9 ?_;refine qo J m (fun _ m=>?_) (fun _ m=>?_)
      ·refine qm<|qf<|Q7<|qz<|U J<|U J<|U J<|U J<|O _ J<|q8 m fun aj bk m=>Qh bk J<|O _ J<|q8 m fun z ak m=>qx ak J J<|O _ J<|K3 (ds:=[qg aj]) ({X0:=z.X0,Y0:=z.Y0,X1:=aj,Y1:=z.Y1} : qi) ak J J J J J J J J (leb J) J<|qy<|Qo<|qz<|U J<|O _ J<|qa J<|qy<|⟨_,qp m,wkE [(0,0)] [] [] J ⟨qn J,qn J,qn J,qn J,qn J,⟨_,J,K6 qd J Q1 (ltd J)⟩,qn J,qn J,qn J,qn J,trivial⟩ ⟨Qq J J,trivial⟩⟩
      refine Qe ?_;refine ⟨_,qp m,fun hm=>?_⟩;subst hm;exact ⟨_,J,wkA [(0,0)] [] []⟩
     intro v hb;subst hb;refine Qe ?_;obtain rfl:=qt h;exact ⟨_,J,wkA [(0,0)] [] []⟩
    refine qm<|qc<|U J<|O _ J<|U J<|qa J<|qa J<|qs<|qa J<|q9<|q8 h fun bl bm h=>Q7<|Qk (q6m u k a) (fun y=>⟨[(0,q7 j),(1,.d (.sl 4 (f.map qw))),(2,.d (.sl 4 (g.map qw))),(7,.d (.sl 1 (k.map (eI .i64)))),(8,.d (.sl 1 (l.map (eI .i64)))),(9,.hs 0 4 0 y.2.length),(10,.d (.sl 2 (u.map Qg))),(11,q7 (a.2.2.2.length : Int)),(12,q7 a.2.2.1),(15,.d (.sl 2 (u.map Qg))),(17,q7 y.1)],[(0,.dat 4 (y.2.map qw))],1⟩) _ bl bm (wkA [(0,0)] [] []) ?_;intro y bw c;unfold q6m at c;refine qf<|qc<|U J<|U J<|Qr J<|O _ J<|q9 ?_;refine qo J c (fun _ c=>?_) (fun _ c=>?_)
    ·refine qm<|qf<|Q7<|Ql [q6,(some [0,1],[0,2]),(some [],[1]),q6,q6,q6,q6,q6,q6,q6,q6,q6,q6,q6,q6,q6,q6,q6,q6,q6,q6,q6,q6,q6] qh<|U J<|U J<|U J<|q8 c fun bz bn c=>Qh bn J<|O _ J<|U J<|U J<|q8 c fun ca bo c=>Qh bo J<|O _ J<|O _ J<|U J<|U J<|O _ J<|q8 c fun cb bp c=>Qh bp J<|O _ J<|U J<|U J<|q8 c fun cc bq c=>Qh bq J<|O _ J<|O _ J<|O _ J<|Qs _ _ J<|q8 c fun cd br c=>Kt _ br J J J J J J J (Kq J J) J J J J<|qa J<|qy<|Qo<|qz<|U J<|O _ J<|qa J<|qy<|⟨_,qp c,wkA [(0,2)] [] []⟩
    refine Qe ?_;refine ⟨_,qp c,fun hm=>?_⟩;subst hm;obtain rfl:=qt h;exact ⟨_,J,wkA [(0,0)] [] []⟩
   intro p hb;subst hb;refine qz<|U J<|O _ J<|qa J<|qy<|⟨_,qp o,wkA [(0,0)] [] []⟩
  refine Qe ?_;refine ⟨_,qp o,fun hm=>?_⟩;subst hm;exact ⟨_,J,wkA [(0,0)] [] []⟩
 intro t hb;subst hb;refine qc<|U J<|qa J<|qv ?_;obtain rfl:=qt n;exact finD (.inr J) J (Z9 J J) (.refl _)
theorem qwm (c : List qi) (f : List qi) (r : Bool) (b : q6o c f = some r) : Pure Tryz.prog tab 105 [.sl 4 (c.map qw),.sl 4 (f.map qw)] (.bool r):=by
 unfold q6o at b;refine Qp Tryz.func105 J qh qh J<|qc<|qa J<|q9<|qf<|qc<|U J<|Qr J<|U J<|Qr J<|O _ J<|q9 ?_;refine qo J b (fun _ b=>?_) (fun _ b=>?_)
 ·refine qc<|qa J<|qv ?_;cases b;exact Q8 _ J
 refine qm<|qf<|qc<|qa J<|q9<|q8 b fun h k b=>?_;refine Qn (fun g=>.inl g = h) (fun g=>⟨[],[],0⟩) qd ?_ ?_
 ·refine Qk (qct c f) (fun j=>⟨[(0,.d (.sl 4 (c.map qw))),(1,.d (.sl 4 (f.map qw))),(5,q7 j)],[],0⟩) _ h k (wkA [] [] []) ?_;intro j n a;unfold qct at a;refine qf<|qc<|U J<|U J<|Qr J<|O _ J<|q9 ?_;refine qo J a (fun _ a=>?_) (fun _ a=>?_)
  ·refine qm<|qf<|Q7<|qf<|Ql [q6,q6,q6,q6,q6,q6,q6,q6,q6] qh<|U J<|U J<|q8 a fun o l a=>Qh l J<|O _ J<|U J<|U J<|q8 a fun p m a=>Qh m J<|O _ J<|O _ J<|q9 ?_;refine qo J a (fun _ a=>?_) (fun _ a=>?_)
   ·refine qc<|qa J<|qv ?_;refine ⟨_,qp a,fun hm=>?_⟩;subst hm;cases b;exact Q8 _ J
   refine qm<|Qm<|Qo<|qz<|U J<|O _ J<|qa J<|qy<|⟨_,qp a,wkA [] [] []⟩
  refine Qe ?_;refine ⟨_,qp a,fun hm=>?_⟩;subst hm;exact ⟨_,J,wkA [] [] []⟩
 intro g hb;subst hb;refine qc<|qa J<|qv ?_;cases b;exact Q8 _ J
theorem qwy (l : Int) (f : List qe) (g : List qe) (r : List qe × Bool) (o : q4j l f g = some r) : Pure Tryz.prog tab 75 [qg l,.sl 6 (f.map Q5),.sl 6 (g.map Q5)] (.tup [.sl 6 (r.1.map Q5),.bool r.2]):=by
 unfold q4j at o;refine Qp Tryz.func75 J qh qh J<|qc<|qa J<|qa J<|qs<|U J<|U J<|q8 o fun m h2 o=>Q4 (qww f g m h2) J<|qa J<|qs<|qa J<|qs<|qa J<|qs<|qa J<|q9<|qf<|qc<|qa J<|q9<|q8 o fun y bh o=>?_;refine Qn (fun s=>.inl s = y) (fun s=>⟨[(9,.hs 0 6 0 s.length)],[(0,.dat 6 (s.map Q5))],1⟩) qd ?_ ?_
 ·refine Qk (q27 m f g l) (fun c=>⟨[(0,q7 l),(1,.d (.sl 6 (f.map Q5))),(2,.d (.sl 6 (g.map Q5))),(8,.d (.sl 1 (m.map (eI .i64)))),(9,.hs 0 6 0 c.2.2.2.length),(10,.d (.sl 4 (c.1.map qw))),(11,q7 c.2.1),(12,q7 c.2.2.1)],[(0,.dat 6 (c.2.2.2.map Q5))],1⟩) _ y bh (wkA [] [] [0]) ?_;intro c cs n;unfold q27 at n;refine qf<|qc<|U J<|O _ J<|U J<|Qr J<|O _ J<|q9 ?_;refine qo J n (fun _ n=>?_) (fun _ n=>?_)
  ·refine qm<|qf<|q8 n fun bi a n=>?_;refine Qn (fun p=>.inl p = bi) (fun p=>⟨[(0,q7 l),(1,.d (.sl 6 (f.map Q5))),(2,.d (.sl 6 (g.map Q5))),(8,.d (.sl 1 (m.map (eI .i64)))),(9,.hs 0 6 0 p.2.2.length),(10,.d (.sl 4 (p.1.map qw))),(11,q7 p.2.1),(12,q7 c.2.2.1)],[(0,.dat 6 (p.2.2.map Q5))],1⟩) qd ?_ ?_
   ·refine qf<|Ql [q6,q6,q6,q6,q6,q6,q6,q6,q6,q6,q6,q6,q6,q6,q6] qh<|U J<|U J<|U J<|U J<|q8 a fun bj bk a=>Qh bk J<|O _ J<|q8 a fun z bl a=>Q4 (qcv f bj z bl) J<|U J<|U J<|U J<|q8 a fun bm bn a=>Qh bn J<|O _ J<|q8 a fun aa bo a=>Q4 (qcv g bm aa bo) J<|q8 a fun t bp a=>Q4 (qgt l z aa t bp) J<|qa J<|q9<|qf<|qc<|U J<|Qr J<|O _ J<|q8 a fun bq h a=>?_;refine Qc 11 (fun A st=>∃ ab ac ad ae af ag ah ai aj ak,st = A [(53,Q0 bq),(52,ak),(51,aj),(50,ai),(49,ah),(48,ag),(47,af),(46,ae),(45,ad),(44,ac),(43,ab)]) ?_ ?_
    ·refine Qa J J h (fun h=>?_) (fun h=>?_)
     ·refine qb J<|qb J<|qb J<|qb J<|qb J<|qb J<|qb J<|qb J<|qb J<|O _ J<|q9 ?_;cases h;exact ⟨_,_,_,_,_,_,_,_,_,_,J⟩
     refine U J<|U J<|U J<|q8 h fun br bs h=>Qh bs J<|O _ J<|q8 h fun al bt h=>Q4 (qcv f br al bt) J<|q8 h fun bu bv h=>Q4 (q6i (.cons (.refl _) (.cons (.refl _) (.cons (.nil _) .nil))) (qgt 2 al [] bu bv)) J<|Qr J<|O _ J<|O _ J<|q9 ?_;cases h;exact ⟨_,_,_,_,_,_,_,_,_,_,J⟩
    rintro _ ⟨ab,ac,ad,ae,af,ag,ah,ai,aj,ak,rfl⟩;refine q8 a fun bw j a=>?_;refine Qc 11 (fun A st=>∃ am an ao ap aq ar au av aw ax,st = A [(64,Q0 bw),(63,ax),(62,aw),(61,av),(60,au),(59,ar),(58,aq),(57,ap),(56,ao),(55,an),(54,am)]) ?_ ?_
    ·refine Qa J J j (fun j=>?_) (fun j=>?_)
     ·refine qb J<|qb J<|qb J<|qb J<|qb J<|qb J<|qb J<|qb J<|qb J<|O _ J<|q9 ?_;cases j;exact ⟨_,_,_,_,_,_,_,_,_,_,J⟩
     refine U J<|U J<|U J<|q8 j fun bz ca j=>Qh ca J<|O _ J<|q8 j fun ay cb j=>Q4 (qcv g bz ay cb) J<|q8 j fun cc cd j=>Q4 (q6i (.cons (.refl _) (.cons (.refl _) (.cons (.nil _) .nil))) (qgt 2 ay [] cc cd)) J<|Qr J<|O _ J<|O _ J<|q9 ?_;cases j;exact ⟨_,_,_,_,_,_,_,_,_,_,J⟩
    rintro _ ⟨am,an,ao,ap,aq,ar,au,av,aw,ax,rfl⟩;refine q9 ?_;refine qo J a (fun _ a=>?_) (fun _ a=>?_)
    ·refine qc<|qa J<|qa J<|qv ?_;obtain rfl:=qt a;refine ⟨_,qp n,fun hm=>?_⟩;subst hm;obtain rfl:=qt o;exact finD (.inr J) J J (Yq (.cons (.nil _) (.cons (.refl _) .nil)))
    refine qm<|qf<|qc<|U J<|O _ J<|q8 a fun ce q a=>?_;refine Qc 5 (fun A st=>∃ az ba bb bc,st = A [(71,Q0 ce),(70,bc),(69,bb),(68,ba),(67,az)]) ?_ ?_
    ·refine Qa J J q (fun q=>?_) (fun q=>?_)
     ·refine U J<|U J<|q8 q fun cf cg q=>Q4 (qwm t c.1 cf cg) J<|O _ J<|q9 ?_;cases q;exact ⟨_,_,_,_,J⟩
     refine qb J<|qb J<|qb J<|O _ J<|q9 ?_;cases q;exact ⟨_,_,_,_,J⟩
    rintro _ ⟨az,ba,bb,bc,rfl⟩;refine q9 ?_;refine qo J a (fun _ a=>?_) (fun _ a=>?_)
    ·refine qf<|qc<|U J<|qa J<|q9<|q8 a fun bd ch a=>?_;refine Qn (fun u=>u = bd) (fun u=>⟨[(0,q7 l),(1,.d (.sl 6 (f.map Q5))),(2,.d (.sl 6 (g.map Q5))),(8,.d (.sl 1 (m.map (eI .i64)))),(9,.hs 0 6 0 u.length),(10,.d (.sl 4 (c.1.map qw))),(11,q7 c.2.1),(12,q7 c.2.2.1)],[(0,.dat 6 (u.map Q5))],1⟩) qd ?_ ?_
     ·refine Qk (q4k m c) (fun v=>⟨[(0,q7 l),(1,.d (.sl 6 (f.map Q5))),(2,.d (.sl 6 (g.map Q5))),(8,.d (.sl 1 (m.map (eI .i64)))),(9,.hs 0 6 0 v.2.length),(10,.d (.sl 4 (c.1.map qw))),(11,q7 c.2.1),(12,q7 c.2.2.1),(14,q7 v.1)],[(0,.dat 6 (v.2.map Q5))],1⟩) _ bd ch (wkA [(0,0)] [] []) ?_;intro v ct k;unfold q4k at k;refine qf<|qc<|U J<|U J<|O _ J<|O _ J<|q9 ?_;refine qo J k (fun _ k=>?_) (fun _ k=>?_)
      ·refine qm<|qf<|Q7<|qz<|U J<|U J<|U J<|U J<|O _ J<|q8 k fun be ci k=>Qh ci J<|O _ J<|q8 k fun x bf k=>qx bf J J<|O _ J<|O _ J<|K3 (ds:=[qg be]) ({Lo:=x.Lo,Hi:=({X:=x.Hi.X,Y:=x.Hi.Y,Z:=be} : Q6)} : qe) bf J J J J J J J J (leb J) J<|qy<|Qo<|qz<|U J<|O _ J<|qa J<|qy<|⟨_,qp k,wkE [(0,0)] [] [] J ⟨qn J,qn J,qn J,qn J,⟨_,J,K6 qd J Q1 (ltd J)⟩,qn J,qn J,qn J,qn J,trivial⟩ ⟨Qq J J,trivial⟩⟩
      refine Qe ?_;refine ⟨_,qp k,fun hm=>?_⟩;subst hm;exact ⟨_,J,wkA [(0,0)] [] []⟩
     intro u hb;subst hb;refine Qe ?_;obtain rfl:=qt a;exact ⟨_,J,wkA [(0,0)] [] []⟩
    refine qm<|qc<|U J<|O _ J<|U J<|qa J<|qa J<|qs<|qa J<|q9<|q8 a fun cj ck a=>Q7<|Qk (q6s t m c) (fun w=>⟨[(0,q7 l),(1,.d (.sl 6 (f.map Q5))),(2,.d (.sl 6 (g.map Q5))),(8,.d (.sl 1 (m.map (eI .i64)))),(9,.hs 0 6 0 w.2.length),(10,.d (.sl 4 (t.map qw))),(11,q7 (c.2.2.2.length : Int)),(12,q7 c.2.2.1),(13,.d (.sl 4 (t.map qw))),(15,q7 w.1)],[(0,.dat 6 (w.2.map Q5))],1⟩) _ cj ck (wkA [(0,0)] [] []) ?_;intro w cu b;unfold q6s at b;refine qf<|qc<|U J<|U J<|Qr J<|O _ J<|q9 ?_;refine qo J b (fun _ b=>?_) (fun _ b=>?_)
    ·refine qm<|qf<|Q7<|Ql [q6,(some [0,1],[0,2]),(some [],[1]),q6,q6,q6,q6,q6,q6,q6,q6,q6,q6,q6,q6,q6,q6,q6,q6,q6,q6,q6,q6,q6,q6,q6,q6,q6,q6,q6,q6,q6,q6,q6,q6,q6] qh<|U J<|U J<|U J<|q8 b fun cv cl b=>Qh cl J<|O _ J<|O _ J<|U J<|U J<|q8 b fun cw cm b=>Qh cm J<|O _ J<|O _ J<|U J<|U J<|q8 b fun cx cn b=>Qh cn J<|O _ J<|O _ J<|U J<|U J<|q8 b fun cy co b=>Qh co J<|O _ J<|O _ J<|U J<|U J<|q8 b fun cz cp b=>Qh cp J<|O _ J<|O _ J<|U J<|U J<|O _ J<|q8 b fun da cq b=>Qh cq J ?_;refine O _ J<|O _ J<|O _ J<|Qs _ _ J<|q8 b fun dc cr b=>Kt _ cr J J J J J J J (Kq J J) J J J J<|qa J<|qy<|Qo<|qz<|U J<|O _ J<|qa J<|qy<|⟨_,qp b,wkA [(0,2)] [] []⟩
    refine Qe ?_;refine ⟨_,qp b,fun hm=>?_⟩;subst hm;obtain rfl:=qt a;exact ⟨_,J,wkA [(0,0)] [] []⟩
   intro p hb;subst hb;refine qz<|U J<|O _ J<|qa J<|qy<|⟨_,qp n,wkA [(0,0)] [] []⟩
  refine Qe ?_;refine ⟨_,qp n,fun hm=>?_⟩;subst hm;exact ⟨_,J,wkA [(0,0)] [] []⟩
 intro s hb;subst hb;refine qc<|U J<|U J<|O _ J<|O _ J<|qa J<|qa J<|qv ?_;obtain rfl:=qt o;exact finD (.inr J) J (q8m (Jn (Z9 J J) (Jn J J))) (.refl _)
theorem qgu (c : List qe) (r : Int) (a : q4g c = some r) : Pure Tryz.prog tab 52 [.sl 6 (c.map Q5)] (qg r):=by
 unfold q4g at a;refine Qp Tryz.func52 J qh qh J<|qc<|qa J<|q9<|qf<|qc<|U J<|Qr J<|O _ J<|q9 ?_;refine qo J a (fun _ a=>?_) (fun _ a=>?_)
 ·refine qc<|qa J<|qv ?_;cases a;exact Q8 _ J
 refine qm<|qf<|qc<|qa J<|q9<|q8 a fun h q a=>?_;refine Qn (fun g=>.inl g = h) (fun g=>⟨[(0,.d (.sl 6 (c.map Q5)))],[],0⟩) qd ?_ ?_
 ·refine Qk (q6r c) (fun j=>⟨[(0,.d (.sl 6 (c.map Q5))),(3,q7 j)],[],0⟩) _ h q (wkA [] [] []) ?_;intro j aa b;unfold q6r at b;refine qf<|qc<|U J<|U J<|Qr J<|O _ J<|q9 ?_;refine qo J b (fun _ b=>?_) (fun _ b=>?_)
  ·refine qm<|qf<|Q7<|qc<|U J<|U J<|q8 b fun s t b=>Qh t J<|O _ J<|q8 b fun u v b=>Q4 (qx1 s u v) J<|O _ J<|q9 ?_;refine qo J b (fun _ b=>?_) (fun _ b=>?_)
   ·refine qc<|qa J<|qv ?_;refine ⟨_,qp b,fun hm=>?_⟩;subst hm;cases a;exact Q8 _ J
   refine qm<|Qm<|Qo<|qz<|U J<|O _ J<|qa J<|qy<|⟨_,qp b,wkA [] [] []⟩
  refine Qe ?_;refine ⟨_,qp b,fun hm=>?_⟩;subst hm;exact ⟨_,J,wkA [] [] []⟩
 intro g hb;subst hb;refine qc<|U J<|q8 a fun k w a=>Q4 (q6i (.cons (.refl _) (.cons (.refl _) (.cons (.nil _) .nil))) (qwy 2 c [] k w)) J<|U J<|O _ J<|O _ J<|qa J<|qa J<|q9<|qf<|qc<|U J<|O _ J<|q8 a fun x f a=>?_;refine Qc 6 (fun A st=>∃ l m n o p,st = A [(33,Q0 x),(32,p),(31,o),(30,n),(29,m),(28,l)]) ?_ ?_
 ·refine Qa J J f (fun f=>?_) (fun f=>?_)
  ·refine qb J<|qb J<|qb J<|qb J<|O _ J<|q9 ?_;cases f;exact ⟨_,_,_,_,_,J⟩
  refine U J<|U J<|q8 f fun y z f=>Q4 (qcx k.1 c y z) J<|O _ J<|O _ J<|q9 ?_;cases f;exact ⟨_,_,_,_,_,J⟩
 rintro _ ⟨l,m,n,o,p,rfl⟩;refine q9 ?_;refine qo J a (fun _ a=>?_) (fun _ a=>?_)
 ·refine qc<|qa J<|qv ?_;cases a;exact Q8 _ J
 refine qm<|qc<|qa J<|qv ?_;cases a;exact Q8 _ J
theorem qwt (b : List qe) (c : List qe) (r : Int) (a : q9s b c = some r) : Pure Tryz.prog tab 25 [.sl 6 (b.map Q5),.sl 6 (c.map Q5)] (qg r):=by
 unfold q9s at a;refine Qp Tryz.func25 J qh qh J<|qc<|qa J<|q9<|qf<|qc<|U J<|q8 a fun d f a=>Q4 (qgu b d f) J<|O _ J<|q9 ?_;refine qo J a (fun _ a=>?_) (fun _ a=>?_)
 ·refine qc<|U J<|q8 a fun g h a=>Q4 (qgu b g h) J<|qa J<|qv ?_;cases a;exact Q8 _ J
 refine qm<|qc<|U J<|q8 a fun j k a=>Q4 (qgu c j k) J<|qa J<|qv ?_;cases a;exact Q8 _ J
theorem qtv (d : List qe) (f : List qe) (r : Bool) (b : q9c d f = some r) : Pure Tryz.prog tab 7 [.sl 6 (d.map Q5),.sl 6 (f.map Q5)] (.bool r):=by
 unfold q9c at b;refine Qp Tryz.func7 J qh qh J<|qc<|qa J<|qs<|U J<|Qr J<|O _ J<|q8 b fun q c b=>?_;refine Qc 5 (fun A st=>∃ g h j k,st = A [(12,Q0 q),(11,k),(10,j),(9,h),(8,g)]) ?_ ?_
 ·refine Qa J J c (fun c=>?_) (fun c=>?_)
  ·refine U J<|Qr J<|O _ J<|O _ J<|q9 ?_;cases c;exact ⟨_,_,_,_,J⟩
  refine qb J<|qb J<|qb J<|O _ J<|q9 ?_;cases c;exact ⟨_,_,_,_,J⟩
 rintro _ ⟨g,h,j,k,rfl⟩;refine q8 b fun s a b=>?_;refine Qc 6 (fun A st=>∃ l m n o p,st = A [(18,Q0 s),(17,p),(16,o),(15,n),(14,m),(13,l)]) ?_ ?_
 ·refine Qa J J a (fun a=>?_) (fun a=>?_)
  ·refine U J<|U J<|q8 a fun t u a=>Q4 (qwt d f t u) J<|O _ J<|O _ J<|q9 ?_;cases a;exact ⟨_,_,_,_,_,J⟩
  refine qb J<|qb J<|qb J<|qb J<|O _ J<|q9 ?_;cases a;exact ⟨_,_,_,_,_,J⟩
 rintro _ ⟨l,m,n,o,p,rfl⟩;refine qa J<|qv ?_;cases b;exact Q8 _ J
theorem qhc (a : List qe) (r : List (List qe) × Int) (f : q53 a = some r) : Pure Tryz.prog tab 8 [.sl 6 (a.map Q5)] (.tup [.sl 1 (r.1.map K4),qg r.2]):=by
 unfold q53 at f;refine Qp Tryz.func8 J qh qh J<|qc<|qa J<|qa J<|q9<|qf<|qc<|U J<|q8 f fun r1 h2 f=>Q4 (q2e a r1 h2) J<|qa J<|qs<|U J<|O _ J<|q9 ?_;refine qo J f (fun _ f=>?_) (fun _ f=>?_)
 ·refine qc<|U J<|qa J<|qa J<|qv ?_;obtain rfl:=qt f;exact finD (.inr J) J J (Yq (.cons (.nil _) (.cons (.refl _) .nil)))
 refine qm<|qc<|Qs _ _ J<|qa J<|q9<|qf<|qc<|U J<|Qr J<|U J<|q9<|q8 f fun z h7 f=>?_;refine Qn (fun x=>x = z) (fun x=>⟨[(0,.d (.sl 6 (a.map Q5))),(5,.mp 0)],[(0,.mp (mrow (fun n : Int=>DV.int .i64 n) DV.bool x))],1⟩) qd ?_ ?_
 ·refine Qk (q54 a) (fun v=>⟨[(0,.d (.sl 6 (a.map Q5))),(5,.mp 0),(21,q7 (a.length : Int)),(22,q7 v.1)],[(0,.mp (mrow (fun n : Int=>DV.int .i64 n) DV.bool v.2))],1⟩) _ z h7 (wkA [(0,0)] [] []) ?_;intro v y3 q;unfold q54 at q;refine qc<|O _ J<|q9<|qf ?_;refine qo J q (fun _ q=>?_) (fun _ q=>?_)
  ·refine qm<|qf<|Q7<|qc<|U J<|qa J<|q9<|qz<|U J<|U J<|quz (ek:=(fun n : Int=>DV.int .i64 n)) (ev:=DV.bool) (es:=v.2) q9a v.1 true J J J J J J J J<|qy<|Qo<|qz<|O _ J<|U J<|qy<|⟨_,qp q,wkA [(0,0)] [] []⟩
  refine Qe ?_;refine ⟨_,qp q,fun hm=>?_⟩;subst hm;exact ⟨_,J,wkA [(0,0)] [] []⟩
 intro x hb;subst hb;refine qc<|qa J<|q9<|qf<|qc<|U J<|Qr J<|U J<|q9<|q8 f fun aa ar f=>?_;refine Qn (fun w=>w = aa) (fun w=>⟨[(7,.hs 0 1 0 w.length)],[(0,.dat 1 (w.map K4))],1⟩) qd ?_ ?_
 ·refine Qk (q3l a) (fun b=>⟨[(0,.d (.sl 6 (a.map Q5))),(5,.mp 0),(7,.hs 1 1 0 b.2.2.length),(29,q7 (a.length : Int)),(30,q7 b.1)],[(0,.mp (mrow (fun n : Int=>DV.int .i64 n) DV.bool b.2.1)),(1,.dat 1 (b.2.2.map K4))],2⟩) _ aa ar (wkA [(0,0)] [] [1]) ?_;intro b bn m;unfold q3l at m;refine qc<|O _ J<|q9<|qf ?_;refine qo J m (fun _ m=>?_) (fun _ m=>?_)
  ·refine qm<|qf<|q8 m fun au c m=>?_;refine Qn (fun s=>s = au) (fun s=>⟨[(0,.d (.sl 6 (a.map Q5))),(5,.mp 0),(7,.hs 1 1 0 s.2.length),(29,q7 (a.length : Int)),(30,q7 b.1)],[(0,.mp (mrow (fun n : Int=>DV.int .i64 n) DV.bool s.1)),(1,.dat 1 (s.2.map K4))],2⟩) qd ?_ ?_
   ·refine qc<|U J<|qa J<|q9<|qf<|qc<|U J<|U J<|qm5 (ek:=(fun n : Int=>DV.int .i64 n)) (ev:=DV.bool) (es:=b.2.1) q9a false b.1 J J J J J J J<|O _ J<|q9 ?_;refine qo J c (fun _ c=>?_) (fun _ c=>?_)
    ·refine Qe ?_;obtain rfl:=qt c;exact ⟨_,J,wkA [(0,0),(1,1)] [] []⟩
    refine qm<|qc<|U J<|U J<|qm3 (ek:=(fun n : Int=>DV.int .i64 n)) (ev:=DV.bool) (es:=b.2.1) q9a b.1 J J J J J J<|qs<|U J<|U J<|q8 c fun bo av c=>Qh av J<|O _ J<|Qs _ _ J<|qa J<|q9<|qf<|qc<|qa J<|q9<|q8 c fun ab aw c=>?_;refine Qn (fun k=>k = ab) (fun k=>⟨[(0,.d (.sl 6 (a.map Q5))),(5,.mp 0),(7,.hs 1 1 0 b.2.2.length),(9,.hs 2 6 0 k.2.length),(29,q7 (a.length : Int)),(30,q7 b.1)],[(0,.mp (mrow (fun n : Int=>DV.int .i64 n) DV.bool k.1)),(1,.dat 1 (b.2.2.map K4)),(2,.dat 6 (k.2.map Q5))],3⟩) qd ?_ ?_
    ·refine Qk (q3m a) (fun l=>⟨[(0,.d (.sl 6 (a.map Q5))),(5,.mp 0),(7,.hs 1 1 0 b.2.2.length),(9,.hs 2 6 0 l.2.2.length),(10,q7 l.1),(29,q7 (a.length : Int)),(30,q7 b.1)],[(0,.mp (mrow (fun n : Int=>DV.int .i64 n) DV.bool l.2.1)),(1,.dat 1 (b.2.2.map K4)),(2,.dat 6 (l.2.2.map Q5))],3⟩) _ ab aw (wkA [(0,0),(1,1),(2,2)] [] []) ?_;intro l bp o;unfold q3m at o;refine qf<|qc<|U J<|U J<|O _ J<|O _ J<|q9 ?_;refine qo J o (fun _ o=>?_) (fun _ o=>?_)
     ·refine qm<|qf<|q8 o fun ax y o=>?_;refine Qn (fun t=>t = ax) (fun t=>⟨[(0,.d (.sl 6 (a.map Q5))),(5,.mp 0),(7,.hs 1 1 0 b.2.2.length),(9,.hs 2 6 0 t.2.length),(10,q7 l.1),(29,q7 (a.length : Int)),(30,q7 b.1)],[(0,.mp (mrow (fun n : Int=>DV.int .i64 n) DV.bool t.1)),(1,.dat 1 (b.2.2.map K4)),(2,.dat 6 (t.2.map Q5))],3⟩) qd ?_ ?_
      ·refine qc<|U J<|Qr J<|U J<|q9<|q8 y fun ay az y=>Q7<|Qk (q2f a l) (fun j=>⟨[(0,.d (.sl 6 (a.map Q5))),(5,.mp 0),(7,.hs 1 1 0 b.2.2.length),(9,.hs 2 6 0 j.2.2.length),(10,q7 l.1),(29,q7 (a.length : Int)),(30,q7 b.1),(51,q7 (a.length : Int)),(52,q7 j.1)],[(0,.mp (mrow (fun n : Int=>DV.int .i64 n) DV.bool j.2.1)),(1,.dat 1 (b.2.2.map K4)),(2,.dat 6 (j.2.2.map Q5))],3⟩) _ ay az (wkA [(0,0),(1,1),(2,2)] [] []) ?_;intro j bq p;unfold q2f at p;refine qc<|O _ J<|q9<|qf ?_;refine qo J p (fun _ p=>?_) (fun _ p=>?_)
       ·refine qm<|qf<|q8 p fun ba g p=>?_;refine Qn (fun u=>u = ba) (fun u=>⟨[(0,.d (.sl 6 (a.map Q5))),(5,.mp 0),(7,.hs 1 1 0 b.2.2.length),(9,.hs 2 6 0 u.2.length),(10,q7 l.1),(29,q7 (a.length : Int)),(30,q7 b.1),(51,q7 (a.length : Int)),(52,q7 j.1)],[(0,.mp (mrow (fun n : Int=>DV.int .i64 n) DV.bool u.1)),(1,.dat 1 (b.2.2.map K4)),(2,.dat 6 (u.2.map Q5))],3⟩) qd ?_ ?_
        ·refine qc<|U J<|qa J<|q9<|qf<|Ql [q6,q6,q6,q6,q6,q6,q6,qu 2,q6,q6,q6,q6,qu 0,q6,q6] qh<|U J<|U J<|qm5 (ek:=(fun n : Int=>DV.int .i64 n)) (ev:=DV.bool) (es:=j.2.1) q9a false j.1 J J J J J J J<|q8 g fun bb h g=>?_;refine Qc 12 (fun A st=>∃ ac ad ae af ag ah ai aj ak al am,st = A [(69,Q0 bb),(68,am),(67,al),(66,ak),(65,aj),(64,ai),(63,ah),(62,ag),(61,af),(60,ae),(59,ad),(58,ac)]) ?_ ?_
         ·refine Qa J J h (fun h=>?_) (fun h=>?_)
          ·refine U J<|U J<|q8 h fun bc an h=>qx an J J<|Qd _ an J<|U J<|U J<|q8 h fun bd be h=>Qh be J<|O _ J<|q8 h fun bf bg h=>Q4 (qoa bc bd bf bg) J<|O _ J<|O _ J<|q9 ?_;cases h;exact ⟨_,_,_,_,_,_,_,_,_,_,_,J⟩
          refine qb J<|qb J<|qb J<|qb J<|qb J<|qb J<|qb J<|qb J<|qb J<|qb J<|O _ J<|q9 ?_;cases h;exact ⟨_,_,_,_,_,_,_,_,_,_,_,J⟩
         rintro _ ⟨ac,ad,ae,af,ag,ah,ai,aj,ak,al,am,rfl⟩;refine q9 ?_;refine qo J g (fun _ g=>?_) (fun _ g=>?_)
         ·refine qc<|U J<|U J<|U J<|q8 g fun br bh g=>Qh bh J<|O _ J<|Qs _ _ J<|q8 g fun bs bi g=>Kt _ bi J J J J J J J (Kq J J) J J J J<|qa J<|q9<|qz<|U J<|U J<|qm3 (ek:=(fun n : Int=>DV.int .i64 n)) (ev:=DV.bool) (es:=j.2.1) q9a j.1 J J J J J J<|qy ?_;obtain rfl:=qt g;exact ⟨_,J,wkA [(0,0),(1,1),(2,4)] [] []⟩
         refine qm<|Qm ?_;obtain rfl:=qt g;exact ⟨_,J,wkA [(0,0),(1,1),(2,2)] [] []⟩
        intro u hb;subst hb;refine qz<|O _ J<|U J<|qy<|⟨_,qp p,wkA [(0,0),(1,1),(2,2)] [] []⟩
       refine Qe ?_;refine ⟨_,qp p,fun hm=>?_⟩;subst hm;obtain rfl:=qt y;exact ⟨_,J,wkA [(0,0),(1,1),(2,2)] [] []⟩
      intro t hb;subst hb;refine qz<|U J<|O _ J<|qa J<|qy<|⟨_,qp o,wkA [(0,0),(1,1),(2,2)] [] []⟩
     refine Qe ?_;refine ⟨_,qp o,fun hm=>?_⟩;subst hm;exact ⟨_,J,wkA [(0,0),(1,1),(2,2)] [] []⟩
    intro k hb;subst hb;refine qf ?_;refine Y8 (st':=⟨[(0,.d (.sl 6 (a.map Q5))),(5,.mp 0),(7,.hs 1 1 0 b.2.2.length),(9,.d (.sl 6 (k.2.map Q5))),(29,q7 (a.length : Int)),(30,q7 b.1)],[(0,.mp (mrow (fun n : Int=>DV.int .i64 n) DV.bool k.1)),(1,.dat 1 (b.2.2.map K4))],2⟩) (wkA [(0,0),(1,1)] [2] []) ?_ qd;refine qz<|U J<|q8 c fun bj bk c=>Q4 (q52 k.2 bj bk) J<|U J<|O _ J<|O _ J<|qa J<|qa J<|q9<|qz<|U J<|U J<|Qs _ _ J<|q8 c fun bt bl c=>Kt _ bl J J J J J J J (Kq J J) J J J J<|qa J<|qy ?_;obtain rfl:=qt c;exact ⟨_,J,wkA [(0,0),(1,3)] [] []⟩
   intro s hb;subst hb;refine qz<|O _ J<|U J<|qy<|⟨_,qp m,wkA [(0,0),(1,1)] [] []⟩
  refine Qe ?_;refine ⟨_,qp m,fun hm=>?_⟩;subst hm;exact ⟨_,J,wkA [(0,1)] [] []⟩
 intro w hb;subst hb;refine qc<|U J<|qa J<|qa J<|qv ?_;obtain rfl:=qt f;exact finD (.inr J) J (q8m (Jn (Z9 J J) (Jn J J))) (.refl _)
theorem q12g (p0 : List qi→List qi→Option (List qi × Int)) (b : List qe) (c : List qe) (p0F : FuncId) (p0C : List DV) (p0Ok : ∀ (x0 : List qi) (x1 : List qi) (r : List qi × Int),p0 x0 x1 = some r→Pure Tryz.prog tab p0F ([.sl 4 (x0.map qw),.sl 4 (x1.map qw)] ++ p0C) (.tup [.sl 4 (r.1.map qw),qg r.2])) (r : List qe × Int) (n : qb1 p0 b c = some r) : Pure Tryz.prog tab 34 [.agg [.fn p0F p0C],.sl 1 ([b,c].map K4)] (.tup [.sl 6 (r.1.map Q5),qg r.2]):=by
 unfold qb1 at n;refine Qp Tryz.func34 J qh qh J<|qc<|Qs _ _ J<|K2 J J<|K2 J J<|qs<|K2 J J<|q9<|qf<|qc<|U J<|q8 n fun br j n=>?_;refine q6e [.d (.sl 1 ([b,c].map K4))] (fun f=>f = br) (fun f=>⟨[(2,.ref 0 1 0 0),(4,.ref 1 1 0 0),(5,.ref 2 1 0 0),(6,.ref 3 4 0 0),(14,.fn 85 [.ref 4 1 0 0,.ref 5 1 0 0])],[(0,.dat 1 [[.fn p0F p0C]]),(1,.dat 1 [[.nilsl]]),(2,.dat 1 [[qg 0]]),(3,.dat 4 [[.nilsl,.nilsl,qg 0,qg 0]]),(4,.cel 1 [[.d (.sl 1 (f.map (eI .i64)))]]),(5,.dat 1 [[.sl 1 ([b,c].map K4)]])],6⟩) J J Tryz.func58 J qh qh J ?_ ?_
 ·refine qc<|Qs _ _ J<|qa J<|qs<|K2 J J<|q9<|qf<|qc<|O _ J<|q6f 2 J J J J J<|U J<|q9<|Q7<|Yn<|qc<|O _ J<|q9<|qf<|Zn J<|qm<|qf<|q8 j fun bs ac j=>?_;refine Qn (fun ad=>ad = bs) (fun ad=>⟨[(1,.ref 4 1 0 0),(3,.ref 5 1 0 0),(8,.d (.sl 1 ([b,c].map K4))),(9,q7 2),(10,q7 0)],[(0,.dat 1 [[.fn p0F p0C]]),(1,.dat 1 [[.nilsl]]),(2,.dat 1 [[qg 0]]),(3,.dat 4 [[.nilsl,.nilsl,qg 0,qg 0]]),(4,.dat 1 [[.sl 1 ([b,c].map K4)]]),(5,.cel 1 [[.hs 6 1 0 ad.length]]),(6,.dat 1 (ad.map (eI .i64)))],7⟩) qd ?_ ?_
  ·refine qc<|q8 ac fun aw bt ac=>Qh bt J<|O _ J<|qa J<|qs<|U J<|Qr J<|U J<|q9<|q8 ac fun bu bv ac=>Q7<|Qk (qdj aw) (fun aq=>⟨[(1,.ref 4 1 0 0),(3,.ref 5 1 0 0),(8,.d (.sl 1 ([b,c].map K4))),(9,q7 2),(10,q7 0),(14,.d (.sl 6 (aw.map Q5))),(15,q7 (aw.length : Int)),(16,q7 aq.1)],[(0,.dat 1 [[.fn p0F p0C]]),(1,.dat 1 [[.nilsl]]),(2,.dat 1 [[qg 0]]),(3,.dat 4 [[.nilsl,.nilsl,qg 0,qg 0]]),(4,.dat 1 [[.sl 1 ([b,c].map K4)]]),(5,.cel 1 [[.hs 6 1 0 aq.2.length]]),(6,.dat 1 (aq.2.map (eI .i64)))],7⟩) _ bu bv (wkA [(4,4),(5,5)] [] [6]) ?_;intro aq ds t;unfold qdj at t;refine qc<|O _ J<|q9<|qf ?_;refine qo J t (fun _ t=>?_) (fun _ t=>?_)
   ·refine qm<|qf<|Q7<|qc<|q8 t fun dt bw t=>Qh bw J<|O _ J<|K2 J J<|Qi 7 _ J<|q9<|qz<|O _ J<|O _ J<|O _ J<|O _ J<|O _ J<|O _ J<|O _ J<|Qs _ _ J<|q8 t fun du bz t=>Kt _ bz J J J J J J J (Kq J J) J J J J<|Qi 5 _ J<|qy<|Qo<|qz<|O _ J<|U J<|qy<|⟨_,qp t,wkA [(4,4),(5,5),(6,9)] [] []⟩
   refine Qe ?_;refine ⟨_,qp t,fun hm=>?_⟩;subst hm;obtain rfl:=qt ac;exact ⟨_,J,wkA [(4,4),(5,5),(6,6)] [] []⟩
  intro ad hb;subst hb;refine qz<|O _ J<|U J<|q9<|Yn<|qc<|O _ J<|q9<|qf<|Zn J<|qm<|qf<|q8 j fun ca ae j=>?_;refine Qn (fun v=>v = ca) (fun v=>⟨[(1,.ref 4 1 0 0),(3,.ref 5 1 0 0),(8,.d (.sl 1 ([b,c].map K4))),(9,q7 2),(10,q7 1)],[(0,.dat 1 [[.fn p0F p0C]]),(1,.dat 1 [[.nilsl]]),(2,.dat 1 [[qg 0]]),(3,.dat 4 [[.nilsl,.nilsl,qg 0,qg 0]]),(4,.dat 1 [[.sl 1 ([b,c].map K4)]]),(5,.cel 1 [[.hs 6 1 0 v.length]]),(6,.dat 1 (v.map (eI .i64)))],7⟩) qd ?_ ?_
  ·refine qc<|q8 ae fun ax cb ae=>Qh cb J<|O _ J<|qa J<|qs<|U J<|Qr J<|U J<|q9<|q8 ae fun cc cd ae=>Q7<|Qk (qdk ax) (fun ar=>⟨[(1,.ref 4 1 0 0),(3,.ref 5 1 0 0),(8,.d (.sl 1 ([b,c].map K4))),(9,q7 2),(10,q7 1),(14,.d (.sl 6 (ax.map Q5))),(15,q7 (ax.length : Int)),(16,q7 ar.1)],[(0,.dat 1 [[.fn p0F p0C]]),(1,.dat 1 [[.nilsl]]),(2,.dat 1 [[qg 0]]),(3,.dat 4 [[.nilsl,.nilsl,qg 0,qg 0]]),(4,.dat 1 [[.sl 1 ([b,c].map K4)]]),(5,.cel 1 [[.hs 6 1 0 ar.2.length]]),(6,.dat 1 (ar.2.map (eI .i64)))],7⟩) _ cc cd (wkA [(4,4),(5,5),(6,6)] [] []) ?_;intro ar dv u;unfold qdk at u;refine qc<|O _ J<|q9<|qf ?_;refine qo J u (fun _ u=>?_) (fun _ u=>?_)
   ·refine qm<|qf<|Q7<|qc<|q8 u fun dw ce u=>Qh ce J<|O _ J<|K2 J J<|Qi 7 _ J<|q9<|qz<|O _ J<|O _ J<|O _ J<|O _ J<|O _ J<|O _ J<|O _ J<|Qs _ _ J<|q8 u fun dx cf u=>Kt _ cf J J J J J J J (Kq J J) J J J J<|Qi 5 _ J<|qy<|Qo<|qz<|O _ J<|U J<|qy<|⟨_,qp u,wkA [(4,4),(5,5),(6,9)] [] []⟩
   refine Qe ?_;refine ⟨_,qp u,fun hm=>?_⟩;subst hm;obtain rfl:=qt ae;exact ⟨_,J,wkA [(4,4),(5,5),(6,6)] [] []⟩
  intro v hb;subst hb;refine qz<|O _ J<|U J<|q9<|Yn<|qc<|O _ J<|q9<|qf<|Zm J<|Qe<|U4<|qc<|O _ J<|q8 j fun ay cg j=>q8 j fun dy ch j=>?_;have ci:=Kk ch;refine K9 [(0,6)] [(0,1),(1,1),(2,1),(3,1),(4,1),(5,1),(6,0)] _ (.d (.tup [])) 1 [(6,.dat 1 (ay.map (eI .i64))),(0,.dat 1 [[.fn p0F p0C]]),(1,.dat 1 [[.nilsl]]),(2,.dat 1 [[qg 0]]),(3,.dat 4 [[.nilsl,.nilsl,qg 0,qg 0]]),(4,.dat 1 [[.sl 1 ([b,c].map K4)]]),(5,.cel 1 [[.hs 6 1 0 v.length]])] 7 (qdd v ay cg)<|qs<|O _ J<|q8 j fun af cj j=>q8 j fun dz ck j=>?_;have fa:=Kk ck;refine q8 j fun fb cl j=>?_;have cm:=qdz cl;refine Ua [(0,6)] [(0,1),(1,1),(2,1),(3,1),(4,1),(5,1),(6,0)] [.hs 6 1 0 v.length] (.hs 6 1 af.1.1 af.1.2) [(6,.dat 1 (af.2.map (eI .i64)))] [(6,.dat 1 (af.2.map (eI .i64))),(0,.dat 1 [[.fn p0F p0C]]),(1,.dat 1 [[.nilsl]]),(2,.dat 1 [[qg 0]]),(3,.dat 4 [[.nilsl,.nilsl,qg 0,qg 0]]),(4,.dat 1 [[.sl 1 ([b,c].map K4)]]),(5,.cel 1 [[.hs 6 1 0 v.length]])] 7 (qd6 ay af cj) J J J (Yi [(0,6)] [] [] J ⟨⟨_,J,K6 (by simp [ci]) J Q1 (ltd J)⟩,trivial⟩ ⟨Qq J J,trivial⟩) (Yi [(0,1),(1,1),(2,1),(3,1),(4,1),(5,1),(6,0)] [] [] J ⟨⟨_,J,.hs J Q1 (ltd J)⟩,trivial⟩ ⟨Qq J J,trivial⟩) J ⟨.inl J,.inr ⟨J,J⟩,.inr ⟨J,J⟩,.inr ⟨J,J⟩,.inr ⟨J,J⟩,.inr ⟨J,J⟩,.inr ⟨J,J⟩,trivial⟩<|Qi 5 _ J<|qs<|O _ J<|qa J<|qv ?_;refine ⟨.inr J,_,J,?_⟩;obtain rfl:=qt j;exact ⟨_,J,wkE [(0,0),(1,1),(2,2),(3,3),(4,5),(5,4)] [6] [] J ⟨⟨_,J,.ref J Q1 (ltd J)⟩,⟨_,J,.ref J Q1 (ltd J)⟩,⟨_,J,.ref J Q1 (ltd J)⟩,⟨_,J,.ref J Q1 (ltd J)⟩,⟨_,J,(q2p (.cons (.ref J Q1 (ltd J)) (.cons (.ref J Q1 (ltd J)) .nil)))⟩,trivial⟩ ⟨Qq J J,Qq J J,Qq J J,Qq J J,⟨ltd J,.inr ⟨Q1,_,J,Jv (.cons (qe1 cm J Q1) J .nil)⟩⟩,Qq J J,trivial⟩⟩
 intro f hb;subst hb;refine q9<|Q7<|q8 n fun cn au n=>?_;refine q9x (fun w=>.inl w = cn) (fun w=>⟨[(4,.ref 0 1 0 0),(5,.ref 1 1 0 0),(6,.ref 2 4 0 0)],[(0,.dat 1 [[.nilsl]]),(1,.dat 1 [[qg 0]]),(2,.cel 4 [[.hs 3 6 0 w.2.2.2.length,.d (.sl 4 (w.1.map qw)),q7 w.2.1,q7 w.2.2.1]]),(3,.dat 6 (w.2.2.2.map Q5))],4⟩) ?_ ?_
 ·refine Y8 (st':=⟨[(2,.ref 0 1 0 0),(4,.ref 1 1 0 0),(5,.ref 2 1 0 0),(6,.ref 3 4 0 0),(14,.fn 85 [.ref 4 1 0 0,.ref 5 1 0 0])],[(0,.dat 1 [[.fn p0F p0C]]),(1,.dat 1 [[.nilsl]]),(2,.dat 1 [[qg 0]]),(3,.dat 4 [[.nilsl,.nilsl,qg 0,qg 0]]),(4,.cel 1 [[.d (.sl 1 (f.map (eI .i64)))]]),(5,.dat 1 [[.sl 1 ([b,c].map K4)]])],6⟩) (wkA [(0,0),(1,1),(2,2),(3,3),(4,4),(5,5)] [] []) ?_ qd;refine q9y _ (.inl J) Tryz.func85 J qh qh J ?_;intro A1597 B1598 hA1597 hB1598;refine qc<|qa J<|q9<|q8 au fun co cp au=>Q7<|Qk (q5a f b c p0) (fun a=>⟨[(0,.yld 6),(1,.ref 4 1 0 0),(2,.ref 5 1 0 0),(4,q7 a.1)],[(0,.dat 1 [[.fn p0F p0C]]),(1,.dat 1 [[.nilsl]]),(2,.dat 1 [[qg 0]]),(3,.cel 4 [[.hs 7 6 0 a.2.2.2.2.length,.d (.sl 4 (a.2.1.map qw)),q7 a.2.2.1,q7 a.2.2.2.1]]),(4,.cel 1 [[.d (.sl 1 (f.map (eI .i64)))]]),(5,.dat 1 [[.sl 1 ([b,c].map K4)]]),(6,.loop [(2,.ref 0 1 0 0),(4,.ref 1 1 0 0),(5,.ref 2 1 0 0),(6,.ref 3 4 0 0),(14,.fn 85 [.ref 4 1 0 0,.ref 5 1 0 0])] [15] A1597 B1598 .ready none),(7,.dat 6 (a.2.2.2.2.map Q5))],8⟩) _ co cp (wkA [] [] [7]) ?_;intro a fc g;unfold q5a at g;refine qf<|qc<|U J<|O _ J<|Qr J<|O _ J<|q9 ?_;refine qo J g (fun _ g=>?_) (fun _ g=>?_)
  ·refine qm<|qf<|Q7<|qf<|Ql [Qv 9,(some [],[9]),q6,(some [],[8]),q6,qu 5,q6,q6,q6,qu 4,q6,q6,q6,q6,qu 4] qh<|O _ J<|U J<|O _ J<|q8 g fun k cq g=>Qh cq J<|O _ J<|O _ J<|U J<|q8 g fun l cr g=>Qh cr J<|O _ J<|O _ J<|q6f 2 J J J J J<|Qs _ _ J<|O _ J<|K2 J J<|Qi 9 _ J<|q9<|qf<|qc<|O _ J<|q6f 2 J J J J J<|U J<|q9<|Q7<|Yn<|qc<|O _ J<|q9<|qf<|Zn J<|qm<|qf<|q8 g fun cs ag g=>?_;refine Qn (fun h=>h = cs) (fun h=>⟨[(0,.yld 6),(1,.ref 4 1 0 0),(2,.ref 5 1 0 0),(4,q7 a.1),(5,.ref 7 3 0 0),(29,.d (.sl 1 ([b,c].map K4))),(30,q7 2),(31,q7 0)],[(0,.dat 1 [[.fn p0F p0C]]),(1,.dat 1 [[.nilsl]]),(2,.dat 1 [[qg 0]]),(3,.cel 4 [[.hs 8 6 0 a.2.2.2.2.length,.d (.sl 4 (a.2.1.map qw)),q7 a.2.2.1,q7 a.2.2.2.1]]),(4,.cel 1 [[.d (.sl 1 (f.map (eI .i64)))]]),(5,.dat 1 [[.sl 1 ([b,c].map K4)]]),(6,.loop [(2,.ref 0 1 0 0),(4,.ref 1 1 0 0),(5,.ref 2 1 0 0),(6,.ref 3 4 0 0),(14,.fn 85 [.ref 4 1 0 0,.ref 5 1 0 0])] [15] A1597 B1598 .ready none),(7,.cel 3 [[q7 k,q7 l,.hs 9 1 0 2]]),(8,.dat 6 (a.2.2.2.2.map Q5)),(9,.cel 1 [[.hs 10 4 0 h.length],[.d (.nilsl)]]),(10,.dat 4 (h.map qw))],11⟩) qd ?_ ?_
   ·refine qc<|U J<|q8 ag fun ah ct ag=>Qh ct J<|O _ J<|qa J<|qa J<|qs<|U J<|Qr J<|U J<|q9<|q8 ag fun cu cv ag=>Q7<|Qk (qdl ah k) (fun ai=>⟨[(0,.yld 6),(1,.ref 4 1 0 0),(2,.ref 5 1 0 0),(4,q7 a.1),(5,.ref 7 3 0 0),(6,q7 0),(29,.d (.sl 1 ([b,c].map K4))),(30,q7 2),(31,q7 0),(36,.d (.sl 6 (ah.map Q5))),(37,q7 (ah.length : Int)),(38,q7 ai.1)],[(0,.dat 1 [[.fn p0F p0C]]),(1,.dat 1 [[.nilsl]]),(2,.dat 1 [[qg 0]]),(3,.cel 4 [[.hs 8 6 0 a.2.2.2.2.length,.d (.sl 4 (a.2.1.map qw)),q7 a.2.2.1,q7 a.2.2.2.1]]),(4,.cel 1 [[.d (.sl 1 (f.map (eI .i64)))]]),(5,.dat 1 [[.sl 1 ([b,c].map K4)]]),(6,.loop [(2,.ref 0 1 0 0),(4,.ref 1 1 0 0),(5,.ref 2 1 0 0),(6,.ref 3 4 0 0),(14,.fn 85 [.ref 4 1 0 0,.ref 5 1 0 0])] [15] A1597 B1598 .ready none),(7,.cel 3 [[q7 k,q7 l,.hs 9 1 0 2]]),(8,.dat 6 (a.2.2.2.2.map Q5)),(9,.cel 1 [[.hs 10 4 0 ai.2.length],[.d (.nilsl)]]),(10,.dat 4 (ai.2.map qw))],11⟩) _ cu cv (wkA [(7,9),(8,7),(9,8)] [] [10]) ?_;intro ai fd x;unfold qdl at x;refine qc<|O _ J<|q9<|qf ?_;refine qo J x (fun _ x=>?_) (fun _ x=>?_)
    ·refine qm<|qf<|q8 x fun cw o x=>?_;refine Qn (fun aj=>aj = cw) (fun aj=>⟨[(0,.yld 6),(1,.ref 4 1 0 0),(2,.ref 5 1 0 0),(4,q7 a.1),(5,.ref 7 3 0 0),(6,q7 0),(29,.d (.sl 1 ([b,c].map K4))),(30,q7 2),(31,q7 0),(36,.d (.sl 6 (ah.map Q5))),(37,q7 (ah.length : Int)),(38,q7 ai.1)],[(0,.dat 1 [[.fn p0F p0C]]),(1,.dat 1 [[.nilsl]]),(2,.dat 1 [[qg 0]]),(3,.cel 4 [[.hs 8 6 0 a.2.2.2.2.length,.d (.sl 4 (a.2.1.map qw)),q7 a.2.2.1,q7 a.2.2.2.1]]),(4,.cel 1 [[.d (.sl 1 (f.map (eI .i64)))]]),(5,.dat 1 [[.sl 1 ([b,c].map K4)]]),(6,.loop [(2,.ref 0 1 0 0),(4,.ref 1 1 0 0),(5,.ref 2 1 0 0),(6,.ref 3 4 0 0),(14,.fn 85 [.ref 4 1 0 0,.ref 5 1 0 0])] [15] A1597 B1598 .ready none),(7,.cel 3 [[q7 k,q7 l,.hs 9 1 0 2]]),(8,.dat 6 (a.2.2.2.2.map Q5)),(9,.cel 1 [[.hs 10 4 0 aj.length],[.d (.nilsl)]]),(10,.dat 4 (aj.map qw))],11⟩) qd ?_ ?_
     ·refine qc<|q8 o fun fe cx o=>Qh cx J<|O _ J<|K2 J J<|Qi 11 _ J<|qs<|O _ J<|O _ J<|O _ J<|O _ J<|O _ J<|O _ J<|q8 o fun cy ak o=>?_;refine Qc 8 (fun A st=>∃ bb bc bd be bf bg bh,st = A [(55,Q0 cy),(54,bh),(53,bg),(52,bf),(51,be),(50,bd),(49,bc),(48,bb)]) ?_ ?_
      ·refine Qa J J ak (fun ak=>?_) (fun ak=>?_)
       ·refine O _ J<|O _ J<|O _ J<|O _ J<|O _ J<|O _ J<|O _ J<|q9 ?_;cases ak;exact ⟨_,_,_,_,_,_,_,J⟩
       refine qb J<|qb J<|qb J<|qb J<|qb J<|qb J<|O _ J<|q9 ?_;cases ak;exact ⟨_,_,_,_,_,_,_,J⟩
      rintro _ ⟨bb,bc,bd,be,bf,bg,bh,rfl⟩;refine q9 ?_;refine qo J o (fun _ o=>?_) (fun _ o=>?_)
      ·refine Ql [Qv 9,q6,(some [10,12],[10,13]),(some [],[12]),q6,qu 11,q6,q6,qu 11,q6,q6,qu 11,q6,q6,qu 11,q6,q6,qu 9,q6,q6,qu 7,q6,q6,qu 7,q6] qh<|O _ J<|O _ J<|U J<|O _ J<|O _ J<|U J<|O _ J<|O _ J<|O _ J<|O _ J<|O _ J<|O _ J<|O _ J<|O _ J<|O _ J<|O _ J<|O _ J<|O _ J<|O _ J<|O _ J<|O _ J<|Qs _ _ J<|q8 o fun ff cz o=>Kt _ cz J J J J J J J (Kq J J) J J J J<|O _ J<|Qi 9 _ J<|qy ?_;obtain rfl:=qt o;exact ⟨_,J,wkA [(7,7),(8,8),(9,9),(10,13)] [] []⟩
      refine qm<|Qm ?_;obtain rfl:=qt o;exact ⟨_,J,wkA [(7,7),(8,8),(9,9),(10,10)] [] []⟩
     intro aj hb;subst hb;refine qz<|O _ J<|U J<|qy<|⟨_,qp x,wkA [(7,7),(8,8),(9,9),(10,10)] [] []⟩
    refine Qe ?_;refine ⟨_,qp x,fun hm=>?_⟩;subst hm;obtain rfl:=qt ag;exact ⟨_,J,wkA [(7,7),(8,8),(9,9),(10,10)] [] []⟩
   intro h hb;subst hb;refine qz<|O _ J<|U J<|q9<|Yn<|qc<|O _ J<|q9<|qf<|Zn J<|qm<|qf<|q8 g fun da al g=>?_;refine Qn (fun p=>p = da) (fun p=>⟨[(0,.yld 6),(1,.ref 4 1 0 0),(2,.ref 5 1 0 0),(4,q7 a.1),(5,.ref 7 3 0 0),(29,.d (.sl 1 ([b,c].map K4))),(30,q7 2),(31,q7 1)],[(0,.dat 1 [[.fn p0F p0C]]),(1,.dat 1 [[.nilsl]]),(2,.dat 1 [[qg 0]]),(3,.cel 4 [[.hs 8 6 0 a.2.2.2.2.length,.d (.sl 4 (a.2.1.map qw)),q7 a.2.2.1,q7 a.2.2.2.1]]),(4,.cel 1 [[.d (.sl 1 (f.map (eI .i64)))]]),(5,.dat 1 [[.sl 1 ([b,c].map K4)]]),(6,.loop [(2,.ref 0 1 0 0),(4,.ref 1 1 0 0),(5,.ref 2 1 0 0),(6,.ref 3 4 0 0),(14,.fn 85 [.ref 4 1 0 0,.ref 5 1 0 0])] [15] A1597 B1598 .ready none),(7,.cel 3 [[q7 k,q7 l,.hs 9 1 0 2]]),(8,.dat 6 (a.2.2.2.2.map Q5)),(9,.cel 1 [[.hs 10 4 0 h.length],[.hs 11 4 0 p.length]]),(10,.dat 4 (h.map qw)),(11,.dat 4 (p.map qw))],12⟩) qd ?_ ?_
   ·refine qc<|U J<|q8 al fun am dc al=>Qh dc J<|O _ J<|qa J<|qa J<|qs<|U J<|Qr J<|U J<|q9<|q8 al fun dd de al=>Q7<|Qk (qdm am k) (fun an=>⟨[(0,.yld 6),(1,.ref 4 1 0 0),(2,.ref 5 1 0 0),(4,q7 a.1),(5,.ref 7 3 0 0),(6,q7 1),(29,.d (.sl 1 ([b,c].map K4))),(30,q7 2),(31,q7 1),(36,.d (.sl 6 (am.map Q5))),(37,q7 (am.length : Int)),(38,q7 an.1)],[(0,.dat 1 [[.fn p0F p0C]]),(1,.dat 1 [[.nilsl]]),(2,.dat 1 [[qg 0]]),(3,.cel 4 [[.hs 8 6 0 a.2.2.2.2.length,.d (.sl 4 (a.2.1.map qw)),q7 a.2.2.1,q7 a.2.2.2.1]]),(4,.cel 1 [[.d (.sl 1 (f.map (eI .i64)))]]),(5,.dat 1 [[.sl 1 ([b,c].map K4)]]),(6,.loop [(2,.ref 0 1 0 0),(4,.ref 1 1 0 0),(5,.ref 2 1 0 0),(6,.ref 3 4 0 0),(14,.fn 85 [.ref 4 1 0 0,.ref 5 1 0 0])] [15] A1597 B1598 .ready none),(7,.cel 3 [[q7 k,q7 l,.hs 9 1 0 2]]),(8,.dat 6 (a.2.2.2.2.map Q5)),(9,.cel 1 [[.hs 10 4 0 h.length],[.hs 11 4 0 an.2.length]]),(10,.dat 4 (h.map qw)),(11,.dat 4 (an.2.map qw))],12⟩) _ dd de (wkA [(7,7),(8,8),(9,9),(10,10)] [] [11]) ?_;intro an fg y;unfold qdm at y;refine qc<|O _ J<|q9<|qf ?_;refine qo J y (fun _ y=>?_) (fun _ y=>?_)
    ·refine qm<|qf<|q8 y fun df q y=>?_;refine Qn (fun ao=>ao = df) (fun ao=>⟨[(0,.yld 6),(1,.ref 4 1 0 0),(2,.ref 5 1 0 0),(4,q7 a.1),(5,.ref 7 3 0 0),(6,q7 1),(29,.d (.sl 1 ([b,c].map K4))),(30,q7 2),(31,q7 1),(36,.d (.sl 6 (am.map Q5))),(37,q7 (am.length : Int)),(38,q7 an.1)],[(0,.dat 1 [[.fn p0F p0C]]),(1,.dat 1 [[.nilsl]]),(2,.dat 1 [[qg 0]]),(3,.cel 4 [[.hs 8 6 0 a.2.2.2.2.length,.d (.sl 4 (a.2.1.map qw)),q7 a.2.2.1,q7 a.2.2.2.1]]),(4,.cel 1 [[.d (.sl 1 (f.map (eI .i64)))]]),(5,.dat 1 [[.sl 1 ([b,c].map K4)]]),(6,.loop [(2,.ref 0 1 0 0),(4,.ref 1 1 0 0),(5,.ref 2 1 0 0),(6,.ref 3 4 0 0),(14,.fn 85 [.ref 4 1 0 0,.ref 5 1 0 0])] [15] A1597 B1598 .ready none),(7,.cel 3 [[q7 k,q7 l,.hs 9 1 0 2]]),(8,.dat 6 (a.2.2.2.2.map Q5)),(9,.cel 1 [[.hs 10 4 0 h.length],[.hs 11 4 0 ao.length]]),(10,.dat 4 (h.map qw)),(11,.dat 4 (ao.map qw))],12⟩) qd ?_ ?_
     ·refine qc<|q8 q fun fh dg q=>Qh dg J<|O _ J<|K2 J J<|Qi 12 _ J<|qs<|O _ J<|O _ J<|O _ J<|O _ J<|O _ J<|O _ J<|q8 q fun dh ap q=>?_;refine Qc 8 (fun A st=>∃ bi bj bk bl bm bn bo,st = A [(55,Q0 dh),(54,bo),(53,bn),(52,bm),(51,bl),(50,bk),(49,bj),(48,bi)]) ?_ ?_
      ·refine Qa J J ap (fun ap=>?_) (fun ap=>?_)
       ·refine O _ J<|O _ J<|O _ J<|O _ J<|O _ J<|O _ J<|O _ J<|q9 ?_;cases ap;exact ⟨_,_,_,_,_,_,_,J⟩
       refine qb J<|qb J<|qb J<|qb J<|qb J<|qb J<|O _ J<|q9 ?_;cases ap;exact ⟨_,_,_,_,_,_,_,J⟩
      rintro _ ⟨bi,bj,bk,bl,bm,bn,bo,rfl⟩;refine q9 ?_;refine qo J q (fun _ q=>?_) (fun _ q=>?_)
      ·refine Ql [Qv 9,q6,(some [11,13],[11,14]),(some [],[13]),q6,qu 12,q6,q6,qu 12,q6,q6,qu 12,q6,q6,qu 12,q6,q6,qu 9,q6,q6,qu 7,q6,q6,qu 7,q6] qh<|O _ J<|O _ J<|U J<|O _ J<|O _ J<|U J<|O _ J<|O _ J<|O _ J<|O _ J<|O _ J<|O _ J<|O _ J<|O _ J<|O _ J<|O _ J<|O _ J<|O _ J<|O _ J<|O _ J<|O _ J<|Qs _ _ J<|q8 q fun fi dj q=>Kt _ dj J J J J J J J (Kq J J) J J J J<|O _ J<|Qi 9 _ J<|qy ?_;obtain rfl:=qt q;exact ⟨_,J,wkA [(7,7),(8,8),(9,9),(10,10),(11,14)] [] []⟩
      refine qm<|Qm ?_;obtain rfl:=qt q;exact ⟨_,J,wkA [(7,7),(8,8),(9,9),(10,10),(11,11)] [] []⟩
     intro ao hb;subst hb;refine qz<|O _ J<|U J<|qy<|⟨_,qp y,wkA [(7,7),(8,8),(9,9),(10,10),(11,11)] [] []⟩
    refine Qe ?_;refine ⟨_,qp y,fun hm=>?_⟩;subst hm;obtain rfl:=qt al;exact ⟨_,J,wkA [(7,7),(8,8),(9,9),(10,10),(11,11)] [] []⟩
   intro p hb;subst hb;refine qz<|O _ J<|U J<|q9<|Yn<|qc<|O _ J<|q9<|qf<|Zm J<|Qe<|U4<|qf ?_;refine Y8 (st':=⟨[(0,.yld 6),(1,.ref 4 1 0 0),(2,.ref 5 1 0 0),(4,q7 a.1),(5,.ref 7 3 0 0)],[(0,.dat 1 [[.fn p0F p0C]]),(1,.dat 1 [[.nilsl]]),(2,.dat 1 [[qg 0]]),(3,.cel 4 [[.hs 8 6 0 a.2.2.2.2.length,.d (.sl 4 (a.2.1.map qw)),q7 a.2.2.1,q7 a.2.2.2.1]]),(4,.cel 1 [[.d (.sl 1 (f.map (eI .i64)))]]),(5,.dat 1 [[.sl 1 ([b,c].map K4)]]),(6,.loop [(2,.ref 0 1 0 0),(4,.ref 1 1 0 0),(5,.ref 2 1 0 0),(6,.ref 3 4 0 0),(14,.fn 85 [.ref 4 1 0 0,.ref 5 1 0 0])] [15] A1597 B1598 .ready none),(7,.cel 3 [[q7 k,q7 l,.hs 9 1 0 2]]),(8,.dat 6 (a.2.2.2.2.map Q5)),(9,.cel 1 [[.d (.sl 4 (h.map qw))],[.hs 10 4 0 p.length]]),(10,.dat 4 (p.map qw))],11⟩) (wkA [(7,7),(8,8),(9,9),(10,11)] [10] []) ?_ qd;refine Y8 (st':=⟨[(0,.yld 6),(1,.ref 4 1 0 0),(2,.ref 5 1 0 0),(4,q7 a.1),(5,.ref 7 3 0 0)],[(0,.dat 1 [[.fn p0F p0C]]),(1,.dat 1 [[.nilsl]]),(2,.dat 1 [[qg 0]]),(3,.cel 4 [[.hs 8 6 0 a.2.2.2.2.length,.d (.sl 4 (a.2.1.map qw)),q7 a.2.2.1,q7 a.2.2.2.1]]),(4,.cel 1 [[.d (.sl 1 (f.map (eI .i64)))]]),(5,.dat 1 [[.sl 1 ([b,c].map K4)]]),(6,.loop [(2,.ref 0 1 0 0),(4,.ref 1 1 0 0),(5,.ref 2 1 0 0),(6,.ref 3 4 0 0),(14,.fn 85 [.ref 4 1 0 0,.ref 5 1 0 0])] [15] A1597 B1598 .ready none),(7,.cel 3 [[q7 k,q7 l,.hs 9 1 0 2]]),(8,.dat 6 (a.2.2.2.2.map Q5)),(9,.cel 1 [[.d (.sl 4 (h.map qw))],[.d (.sl 4 (p.map qw))]])],10⟩) (wkA [(7,7),(8,8),(9,9)] [10] []) ?_ qd;refine qz<|U J<|O _ J<|q8 g fun dk s g=>?_;refine q9j (fun z=>.inl z = dk) (fun z=>⟨[(0,.yld 6),(1,.ref 4 1 0 0),(2,.ref 5 1 0 0),(4,q7 a.1),(84,Q0 true)],[(0,.dat 1 [[.fn p0F p0C]]),(1,.dat 1 [[.nilsl]]),(2,.dat 1 [[qg 0]]),(3,.cel 4 [[.hs 7 6 0 z.2.2.2.length,.d (.sl 4 (z.1.map qw)),q7 z.2.1,q7 z.2.2.1]]),(4,.cel 1 [[.d (.sl 1 (f.map (eI .i64)))]]),(5,.dat 1 [[.sl 1 ([b,c].map K4)]]),(6,.loop [(2,.ref 0 1 0 0),(4,.ref 1 1 0 0),(5,.ref 2 1 0 0),(6,.ref 3 4 0 0),(14,.fn 85 [.ref 4 1 0 0,.ref 5 1 0 0])] [15] A1597 B1598 .ready none),(7,.dat 6 (z.2.2.2.map Q5))],8⟩) hA1597 hB1598 J J J J J J ?_ ?_
   ·refine qz<|K2 J J<|Qi 10 _ J<|qy ?_;refine ⟨J,_,J,?_⟩;refine Q7<|qc<|O _ J<|O _ J<|O _ J<|O _ J<|q8 s fun bp dl s=>Q4 (qgv h bp dl) J<|U J<|O _ J<|O _ J<|qa J<|qa J<|q9<|qf<|qc<|O _ J<|O _ J<|O _ J<|O _ J<|U J<|q9<|Q7<|Yn<|qc<|O _ J<|q9<|qf<|Zn J<|qm<|qf<|q8 s fun dm m s=>?_;refine Qn (fun aa=>aa = dm) (fun aa=>⟨[(2,.ref 0 1 0 0),(4,.ref 1 1 0 0),(5,.ref 2 1 0 0),(6,.ref 3 4 0 0),(7,.ref 10 3 0 0),(8,.d (.sl 4 (aa.1.map qw))),(9,q7 aa.2),(26,.hs 9 1 1 1),(27,q7 1),(28,q7 0)],[(0,.dat 1 [[.fn p0F p0C]]),(1,.dat 1 [[.nilsl]]),(2,.dat 1 [[qg 0]]),(3,.cel 4 [[.hs 8 6 0 a.2.2.2.2.length,.d (.sl 4 (a.2.1.map qw)),q7 a.2.2.1,q7 a.2.2.2.1]]),(4,.cel 1 [[.d (.sl 1 (f.map (eI .i64)))]]),(5,.dat 1 [[.sl 1 ([b,c].map K4)]]),(6,.loop [(2,.ref 0 1 0 0),(4,.ref 1 1 0 0),(5,.ref 2 1 0 0),(6,.ref 3 4 0 0),(14,.fn 85 [.ref 4 1 0 0,.ref 5 1 0 0])] [15] A1597 B1598 .busy none),(7,.cel 3 [[q7 k,q7 l,.hs 9 1 0 2]]),(8,.dat 6 (a.2.2.2.2.map Q5)),(9,.cel 1 [[.d (.sl 4 (h.map qw))],[.d (.sl 4 (p.map qw))]]),(10,.cel 3 [[q7 k,q7 l,.hs 9 1 0 2]])],11⟩) qd ?_ ?_
    ·refine qc<|O _ J<|O _ J<|qa J<|qs<|U J<|O _ J<|q9 ?_;refine qo J m (fun _ m=>?_) (fun _ m=>?_)
     ·refine qc<|qa J<|qs<|U J<|q8 m fun bq dn m=>Q4 (qgv p bq dn) J<|U J<|O _ J<|O _ J<|qa J<|qa J<|qs<|U J<|O _ J<|q9 ?_;refine qo J m (fun _ m=>?_) (fun _ m=>?_)
      ·refine qz<|O _ J<|O _ J<|U J<|U J<|q8 m fun dp dq m=>Ys _ (p0Ok bp.1 bq.1 dp dq) J J J (.inl J)<|U J<|O _ J<|O _ J<|qa J<|qa J<|qy ?_;obtain rfl:=qt m;exact ⟨_,J,wkA [(10,10)] [] []⟩
      refine qm<|Qm ?_;obtain rfl:=qt m;exact ⟨_,J,wkA [(10,10)] [] []⟩
     refine qm<|Qm ?_;obtain rfl:=qt m;exact ⟨_,J,wkA [(10,10)] [] []⟩
    intro aa hb;subst hb;refine qz<|O _ J<|U J<|q9<|Yn<|qc<|O _ J<|q9<|qf<|Zm J<|Qe<|U4<|qf<|qc<|U J<|O _ J<|q9 ?_;refine qo J s (fun _ s=>?_) (fun _ s=>?_)
    ·refine qc<|U J<|Qi 1 _ J<|Qi 2 _ J<|qv ?_;obtain rfl:=qt s;refine ⟨_,J,?_⟩;refine O _ J<|q9<|Zn J<|q29 ?_;refine ⟨_,qp g,fun hm=>?_⟩;subst hm;refine ⟨.inr J,_,J,_,_,.ret,J,Q1,?_⟩;refine qea ?_;obtain rfl:=qt au;obtain rfl:=qt n;exact finD (.inr J) J J (Yq (.cons (.nil _) (.cons (.refl _) .nil)))
    refine qm<|qz<|O _ J<|O _ J<|O _ J<|O _ J<|U J<|q8 s fun ab dr s=>K9 [(0,3),(1,8)] [(0,3),(1,3),(2,3),(3,0),(4,3),(5,3),(6,3),(7,3),(8,1),(9,3),(10,3),(11,2)] _ (.d (.tup [])) 2 [(3,.cel 4 [[.hs 11 6 0 ab.2.2.2.length,.d (.sl 4 (ab.1.map qw)),q7 ab.2.1,q7 ab.2.2.1]]),(11,.dat 6 (ab.2.2.2.map Q5)),(0,.dat 1 [[.fn p0F p0C]]),(1,.dat 1 [[.nilsl]]),(2,.dat 1 [[qg 0]]),(4,.cel 1 [[.d (.sl 1 (f.map (eI .i64)))]]),(5,.dat 1 [[.sl 1 ([b,c].map K4)]]),(6,.loop [(2,.ref 0 1 0 0),(4,.ref 1 1 0 0),(5,.ref 2 1 0 0),(6,.ref 3 4 0 0),(14,.fn 85 [.ref 4 1 0 0,.ref 5 1 0 0])] [15] A1597 B1598 .busy none),(7,.cel 3 [[q7 k,q7 l,.hs 9 1 0 2]]),(9,.cel 1 [[.d (.sl 4 (h.map qw))],[.d (.sl 4 (p.map qw))]]),(10,.cel 3 [[q7 k,q7 l,.hs 9 1 0 2]])] 12 (qo8 a.2.2.2.2 a.2.1 a.2.2.1 a.2.2.2.1 k l aa.1 ab dr)<|qy<|Qo<|Qm ?_;refine ⟨_,J,?_⟩;obtain rfl:=qt s;exact ⟨_,J,wkA [(7,11)] [] []⟩
   intro z hb;subst hb;refine O _ J<|q9<|Zm J<|qm<|Qm<|Qo<|qz<|U J<|O _ J<|qa J<|qy<|⟨_,qp g,wkA [(7,7)] [] []⟩
  refine Qe ?_;refine ⟨_,qp g,fun hm=>?_⟩;subst hm;refine ⟨.inl J,_,J,_,_,.nor,J,Q1,?_⟩;refine q8r<|Qm ?_;obtain rfl:=qt au;exact ⟨_,J,wkA [(0,1),(1,2),(2,3),(3,7)] [] []⟩
 intro w st hb hw;subst hb;refine Y8 hw ?_ qd;refine qf<|qc<|O _ J<|O _ J<|O _ J<|O _ J<|q9 ?_;refine qo J n (fun _ n=>?_) (fun _ n=>?_)
 ·refine qc<|Qi 0 _ J<|Qi 1 _ J<|qv ?_;obtain rfl:=qt n;exact finD (.inr J) J J (Yq (.cons (.nil _) (.cons (.refl _) .nil)))
 refine qm<|qc<|O _ J<|O _ J<|Qi 0 _ J<|Qi 1 _ J<|qv ?_;obtain rfl:=qt n;exact finD (.inr J) J (q8m (Jn (Z9 J J) (Jn J J))) (.refl _)
theorem qoc (b : List qe) (c : List qe) (d : List qi→List qi→Option (List qi × Int)) (p2F : FuncId) (p2C : List DV) (p2Ok : ∀ (f : List qi) (g : List qi) (r : List qi × Int),d f g = some r→Pure Tryz.prog tab p2F ([.sl 4 (f.map qw),.sl 4 (g.map qw)] ++ p2C) (.tup [.sl 4 (r.1.map qw),qg r.2])) (r : List qe × Int) (a : q8c b c d = some r) : Pure Tryz.prog tab 28 [.sl 6 (b.map Q5),.sl 6 (c.map Q5),.agg [.fn p2F p2C]] (.tup [.sl 6 (r.1.map Q5),qg r.2]):=by
 unfold q8c at a;refine Qp Tryz.func28 J qh qh J<|qc<|Qs _ _ J<|qa J<|qa J<|q9<|qf<|qc<|U J<|q8 a fun h j a=>Q4 (q2e b h j) J<|qa J<|qs<|U J<|O _ J<|q9 ?_;refine qo J a (fun _ a=>?_) (fun _ a=>?_)
 ·refine qc<|U J<|qa J<|qa J<|qv ?_;obtain rfl:=qt a;exact finD (.inr J) J J (Yq (.cons (.nil _) (.cons (.refl _) .nil)))
 refine qm<|qf<|qc<|U J<|q8 a fun k l a=>Q4 (q2e c k l) J<|qa J<|qs<|U J<|O _ J<|q9 ?_;refine qo J a (fun _ a=>?_) (fun _ a=>?_)
 ·refine qc<|U J<|qa J<|qa J<|qv ?_;obtain rfl:=qt a;exact finD (.inr J) J J (Yq (.cons (.nil _) (.cons (.refl _) .nil)))
 refine qm<|qc<|O _ J<|U J<|U J<|q44 (es:=1) ([b,c].map K4) J J J J J<|q8 a fun m n a=>Q4 (q12g d b c p2F p2C p2Ok m n) J<|O _ J<|O _ J<|qa J<|qa J<|qv ?_;cases a;exact Q8 _ J
theorem qzg (b : List qi) (f : qi→Option Bool) (p1F : FuncId) (p1C : List DV) (p1Ok : ∀ (h : qi) (r : Bool),f h = some r→Pure Tryz.prog tab p1F ([.agg (qw h)] ++ p1C) (.bool r)) (r : Int) (c : qdc b f = some r) : Pure Tryz.prog tab 153 [.sl 4 (b.map qw),.fn p1F p1C] (qg r):=by
 unfold qdc at c;refine Qp Tryz.func153 J qh qh J<|qc<|qa J<|q9<|qf<|qc<|U J<|Qr J<|U J<|q9<|q8 c fun j l c=>?_;refine Qn (fun g=>.inl g = j) (fun g=>⟨[],[],0⟩) qd ?_ ?_
 ·refine Qk (q4q b f) (fun k=>⟨[(0,.d (.sl 4 (b.map qw))),(1,.d (.fn p1F p1C)),(7,q7 (b.length : Int)),(8,q7 k)],[],0⟩) _ j l (wkA [] [] []) ?_;intro k q a;unfold q4q at a;refine qc<|O _ J<|q9<|qf ?_;refine qo J a (fun _ a=>?_) (fun _ a=>?_)
  ·refine qm<|qf<|Q7<|qc<|U J<|qa J<|qs<|U J<|U J<|U J<|q8 a fun m n a=>Qh n J<|O _ J<|q8 a fun o p a=>Ys _ (p1Ok m o p) J J J (.inl J)<|q9 ?_;refine qo J a (fun _ a=>?_) (fun _ a=>?_)
   ·refine qc<|U J<|qa J<|qv ?_;refine ⟨_,qp a,fun hm=>?_⟩;subst hm;cases c;exact Q8 _ J
   refine qm<|Qm<|Qo<|qz<|O _ J<|U J<|qy<|⟨_,qp a,wkA [] [] []⟩
  refine Qe ?_;refine ⟨_,qp a,fun hm=>?_⟩;subst hm;exact ⟨_,J,wkA [] [] []⟩
 intro g hb;subst hb;refine qc<|qa J<|qv ?_;cases c;exact Q8 _ J
theorem qza (b : List qi) (c : qi→Option Bool) (p1F : FuncId) (p1C : List DV) (p1Ok : ∀ (d : qi) (r : Bool),c d = some r→Pure Tryz.prog tab p1F ([.agg (qw d)] ++ p1C) (.bool r)) (r : Bool) (a : qa4 b c = some r) : Pure Tryz.prog tab 132 [.sl 4 (b.map qw),.fn p1F p1C] (.bool r):=by
 unfold qa4 at a;refine Qp Tryz.func132 J qh qh J<|qc<|qa J<|qs<|U J<|U J<|q8 a fun f g a=>Q4 (qzg b c p1F p1C p1Ok f g) J<|O _ J<|qa J<|qv ?_;cases a;exact Q8 _ J
theorem qx5 (b : qi) (r : Bool) (a : q3a b = some r) : Pure Tryz.prog tab 133 [.agg (qw b)] (.bool r):=by
 unfold q3a at a;refine Qp Tryz.func133 J qh qh J<|qc<|Qs _ _ J<|qa J<|qs<|O _ J<|q8 a fun c d a=>Q4 (qn1 b c d) J<|O _ J<|qa J<|qv ?_;cases a;exact Q8 _ J
theorem qmv (c : List qi) (r : Int) (a : q6u c = some r) : Pure Tryz.prog tab 106 [.sl 4 (c.map qw)] (qg r):=by
 unfold q6u at a;refine Qp Tryz.func106 J qh qh J<|qc<|qa J<|q9<|qf<|qc<|U J<|Qr J<|O _ J<|q9 ?_;refine qo J a (fun _ a=>?_) (fun _ a=>?_)
 ·refine qc<|qa J<|qv ?_;cases a;exact Q8 _ J
 refine qm<|qf<|qc<|U J<|q8 a fun m n a=>Q4 (qza c (fun d=>q3a d) 133 [] (fun d r hr=>qx5 d r hr) m n) J<|q9 ?_;refine qo J a (fun _ a=>?_) (fun _ a=>?_)
 ·refine qc<|qa J<|qv ?_;cases a;exact Q8 _ J
 refine qm<|qf<|qc<|U J<|q8 a fun f o a=>Q4 (qn0 c f o) J<|U J<|O _ J<|O _ J<|qa J<|qa J<|qs<|U J<|O _ J<|q8 a fun p b a=>?_;refine Qc 6 (fun A st=>∃ g h j k l,st = A [(22,Q0 p),(21,l),(20,k),(19,j),(18,h),(17,g)]) ?_ ?_
 ·refine Qa J J b (fun b=>?_) (fun b=>?_)
  ·refine qb J<|qb J<|qb J<|qb J<|O _ J<|q9 ?_;cases b;exact ⟨_,_,_,_,_,J⟩
  refine U J<|U J<|q8 b fun q s b=>Q4 (qnq f.1 c q s) J<|O _ J<|O _ J<|q9 ?_;cases b;exact ⟨_,_,_,_,_,J⟩
 rintro _ ⟨g,h,j,k,l,rfl⟩;refine q9 ?_;refine qo J a (fun _ a=>?_) (fun _ a=>?_)
 ·refine qc<|qa J<|qv ?_;cases a;exact Q8 _ J
 refine qm<|qc<|qa J<|qv ?_;cases a;exact Q8 _ J
theorem qxd (b : List qi) (c : List qi) (r : Int) (a : q9v b c = some r) : Pure Tryz.prog tab 76 [.sl 4 (b.map qw),.sl 4 (c.map qw)] (qg r):=by
 unfold q9v at a;refine Qp Tryz.func76 J qh qh J<|qc<|qa J<|q9<|qf<|qc<|U J<|q8 a fun d f a=>Q4 (qmv b d f) J<|qa J<|qs<|U J<|O _ J<|q9 ?_;refine qo J a (fun _ a=>?_) (fun _ a=>?_)
 ·refine qc<|U J<|qa J<|qv ?_;cases a;exact Q8 _ J
 refine qm<|qc<|U J<|q8 a fun g h a=>Q4 (qmv c g h) J<|qa J<|qv ?_;cases a;exact Q8 _ J
end Go.Proofs.YtiejlbckgihckaaGreat
