/- W_Alld -/
import Derived.Test.YtmnfbjlabfeneaaGreatK17
namespace Go.Proofs.YtmnfbjlabfeneaaGreat
open Go Go.Am Go.Sh
set_option maxHeartbeats 8000000
set_option maxRecDepth 100000
theorem q11x (g : List qg) (r : qg × Int) (a : qaf g = some r) : Pure Tryz.prog tab 49 [.sl 6 (g.map Q6)] (.tup [.agg (Q6 r.1),qd r.2]):=by
 unfold qaf at a;refine Qr Tryz.func49 J qh qh J<|qc<|Qt J J<|qa J<|q9<|qf<|qc<|U J<|q8 a fun k l a=>Q5 (qde g k l) J<|qa J<|qt<|U J<|O _ J<|q9 ?_;refine qo J a (fun _ a=>?_) (fun _ a=>?_)
 ·refine qc<|O _ J<|U J<|Qe 0 _ J<|qa J<|qv ?_;cases a;exact Q8 _ J
 refine qm<|qf<|qc<|U J<|Qx J<|O _ J<|q9 ?_;refine qo J a (fun _ a=>?_) (fun _ a=>?_)
 ·refine qc<|O _ J<|Qe 0 _ J<|qa J<|qv ?_;cases a;exact Q8 _ J
 refine qm<|qc<|U J<|q8 a fun p m a=>Ql m J<|O _ J<|Qt J J<|Qe 1 _ J<|q9<|qf<|qc<|U J<|Qx J<|U J<|q9<|q8 a fun j n a=>?_;refine Qn (fun c=>c = j) (fun c=>⟨[(2,.ref 0 6 0 0),(5,.ref 1 6 0 0)],[(0,.dat 6 [[qd 0,qd 0,qd 0,qd 0,qd 0,qd 0]]),(1,.dat 6 [[qd c.1,qd c.2.1,qd c.2.2.1,qd c.2.2.2.1,qd c.2.2.2.2.1,qd c.2.2.2.2.2]])],2⟩) qe ?_ ?_
 ·refine Qj (q4w g) (fun b=>⟨[(2,.ref 0 6 0 0),(5,.ref 1 6 0 0),(21,.d (.sl 6 (g.map Q6))),(22,q7 (g.length : Int)),(23,q7 b.1)],[(0,.dat 6 [[qd 0,qd 0,qd 0,qd 0,qd 0,qd 0]]),(1,.dat 6 [[qd b.2.1,qd b.2.2.1,qd b.2.2.2.1,qd b.2.2.2.2.1,qd b.2.2.2.2.2.1,qd b.2.2.2.2.2.2]])],2⟩) _ j n (wkA [(0,0),(1,1)] [] []) ?_;intro b q f;unfold q4w at f;refine qc<|O _ J<|q9<|qf ?_;refine qo J f (fun _ f=>?_) (fun _ f=>?_)
  ·refine qm<|qf<|Q7<|qc<|q8 f fun h o f=>Ql o J<|O _ J<|Qt J J<|Qe 2 _ J<|qt<|O _ J<|O _ J<|O _ J<|O _ J<|O _ J<|O _ J<|q43 (r:=min b.2.1 h.Lo.X) J J (by simp only [q40];rfl)<|O _ J<|O _ J<|O _ J<|O _ J<|O _ J<|O _ J<|q43 (r:=min b.2.2.1 h.Lo.Y) J J (by simp only [q40];rfl)<|O _ J<|O _ J<|O _ J<|O _ J<|O _ J<|O _ J<|q43 (r:=min b.2.2.2.1 h.Lo.Z) J J (by simp only [q40];rfl)<|O _ J<|O _ J<|Qe 1 _ J<|q9<|Q3<|O _ J<|O _ J<|O _ J<|O _ J ?_;refine O _ J<|O _ J<|q42 (r:=max b.2.2.2.2.1 h.Hi.X) J J (by simp only [q3z];rfl)<|O _ J<|O _ J<|O _ J<|O _ J<|O _ J<|O _ J<|q42 (r:=max b.2.2.2.2.2.1 h.Hi.Y) J J (by simp only [q3z];rfl)<|O _ J<|O _ J<|O _ J<|O _ J<|O _ J<|O _ J<|q42 (r:=max b.2.2.2.2.2.2 h.Hi.Z) J J (by simp only [q3z];rfl)<|O _ J<|O _ J<|Qe 1 _ J<|qz<|Qq<|Q3<|O _ J<|U J<|qz<|⟨_,qq f,wkA [(0,0),(1,1)] [] []⟩
  refine Qh ?_;refine ⟨_,qq f,fun hm=>?_⟩;subst hm;exact ⟨_,J,wkA [(0,0),(1,1)] [] []⟩
 intro c hb;subst hb;refine qc<|O _ J<|Qe 0 _ J<|qa J<|qv ?_;cases a;exact Q8 _ J
theorem qoe (a : Int) (b : Int) (f : Int) (g : qg) (h : Int) (j : ql) (r : Int × Int) (c : q7w a b f g h j = some r) : Pure Tryz.prog tab 50 [qd a,qd b,qd f,.box (Q6 g),.box [qd h],.box (K4 j)] (.tup [qd r.1,qd r.2]):=by
 unfold q7w at c;refine Qr Tryz.func50 J qh qh J<|qc<|qa J<|qa J<|qt<|O _ J<|O _ J<|O _ J<|O _ J<|O _ J<|U J<|O _ J<|O _ J<|O _ J<|q8 c fun d k c=>quh k J J J<|qa J<|qt<|U J<|U J<|U J<|O _ J<|q43 (r:=min a (w64 (a - d))) J J (by simp only [q40];rfl)<|O _ J<|q42 (r:=max (w64 ((min a (w64 (a - d))) - 2)) (-510)) J J (by simp only [q3z];rfl)<|U J<|U J<|U J<|O _ J<|q42 (r:=max b (w64 (b - d))) J J (by simp only [q3z];rfl)<|O _ J<|q43 (r:=min (w64 ((max b (w64 (b - d))) + 2)) 510) J J (by simp only [q40];rfl)<|qa J<|qa J<|qv ?_;cases c;exact Q8 _ J
theorem qog (k : List qg) (l : Int) (c : ql) (r : List qi × Int) (b : q3e k l c = some r) : Pure Tryz.prog tab 18 [.sl 6 (k.map Q6),qd l,.agg (K4 c)] (.tup [.sl 4 (r.1.map qy),qd r.2]):=by
 unfold q3e at b;refine Qr Tryz.func18 J qh qh J<|qc<|Qp _ _ J<|Qp _ _ J<|qa J<|qa J<|q9<|qf<|qc<|U J<|O _ J<|q8 b fun r1 h2 b=>Q5 (qay k c r1 h2) J<|qa J<|qt<|U J<|O _ J<|q9 ?_;refine qo J b (fun _ b=>?_) (fun _ b=>?_)
 ·refine qc<|U J<|qa J<|qa J<|qv ?_;obtain rfl:=qu b;exact finD (.inr J) J J (Yw (.cons (.nil _) (.cons (.refl _) .nil)))
 refine qm<|qf<|qc<|O _ J<|O _ J<|q8 b fun c3 y b=>?_;refine Qc 4 (fun A st=>∃ j5 j6 j7,st = A [(38,Q1 c3),(37,j7),(36,j6),(35,j5)]) ?_ ?_
 ·refine Qd J J y (fun y=>?_) (fun y=>?_)
  ·refine qb J<|qb J<|O _ J<|q9 ?_;cases y;exact ⟨_,_,_,J⟩
  refine O _ J<|O _ J<|O _ J<|q9 ?_;cases y;exact ⟨_,_,_,J⟩
 rintro _ ⟨j5,j6,j7,rfl⟩;refine q8 b fun c8 z b=>?_;refine Qc 5 (fun A st=>∃ al am an ao,st = A [(43,Q1 c8),(42,ao),(41,an),(40,am),(39,al)]) ?_ ?_
 ·refine Qd J J z (fun z=>?_) (fun z=>?_)
  ·refine qb J<|qb J<|qb J<|O _ J<|q9 ?_;cases z;exact ⟨_,_,_,_,J⟩
  refine O _ J<|O _ J<|O _ J<|O _ J<|q9 ?_;cases z;exact ⟨_,_,_,_,J⟩
 rintro _ ⟨al,am,an,ao,rfl⟩;refine q9 ?_;refine qo J b (fun _ b=>?_) (fun _ b=>?_)
 ·refine qc<|qa J<|qa J<|qv ?_;obtain rfl:=qu b;exact finD (.inr J) J J (Yw (.cons (.nil _) (.cons (.refl _) .nil)))
 refine qm<|qc<|U J<|q8 b fun m ce b=>Q5 (q11x k m ce) J<|U J<|O _ J<|O _ J<|Qt J J<|Qe 2 _ J<|qa J<|q9<|qf<|qc<|U J<|O _ J<|q8 b fun cf aa b=>?_;refine Qc 7 (fun A st=>∃ ap aq ar au av aw,st = A [(57,Q1 cf),(56,aw),(55,av),(54,au),(53,ar),(52,aq),(51,ap)]) ?_ ?_
 ·refine Qd J J aa (fun aa=>?_) (fun aa=>?_)
  ·refine qb J<|qb J<|qb J<|qb J<|qb J<|O _ J<|q9 ?_;cases aa;exact ⟨_,_,_,_,_,_,J⟩
  refine O _ J<|O _ J<|O _ J<|O _ J<|O _ J<|O _ J<|q9 ?_;cases aa;exact ⟨_,_,_,_,_,_,J⟩
 rintro _ ⟨ap,aq,ar,au,av,aw,rfl⟩;refine q9 ?_;refine qo J b (fun _ b=>?_) (fun _ b=>?_)
 ·refine qc<|qa J<|qa J<|qv ?_;obtain rfl:=qu b;exact finD (.inr J) J J (Yw (.cons (.nil _) (.cons (.refl _) .nil)))
 refine qm<|qc<|O _ J<|qa J<|qt<|U J<|O _ J<|O _ J<|O _ J<|O _ J<|O _ J<|O _ J<|O _ J<|O _ J<|q8 b fun n cg b=>q2t [q7 m.1.Lo.X,q7 m.1.Hi.X,q7 c.X,.ref 2 6 0 0,.ref 0 1 0 0,.ref 1 3 0 0] (qoe m.1.Lo.X m.1.Hi.X c.X m.1 l c n cg) J J J (.inr J)<|U J<|O _ J<|O _ J<|qa J<|qa J<|qt<|U J<|O _ J<|O _ J<|O _ J<|O _ J<|O _ J<|O _ J<|O _ J<|O _ J<|q8 b fun f ch b=>q2t [q7 m.1.Lo.Y,q7 m.1.Hi.Y,q7 c.Y,.ref 2 6 0 0,.ref 0 1 0 0,.ref 1 3 0 0] (qoe m.1.Lo.Y m.1.Hi.Y c.Y m.1 l c f ch) J J J (.inr J)<|U J<|O _ J<|O _ J<|qa J<|qa J<|qt<|qa J ?_;refine qt<|qa J<|qt<|U J<|qa J<|qa J<|q9<|qf<|qc<|U J<|qa J<|q9<|q8 b fun ax ci b=>?_;refine Qn (fun ab=>ab = ax) (fun ab=>⟨[(16,.hs 0 4 0 ab.length)],[(0,.dat 4 (ab.map qy))],1⟩) qe ?_ ?_
 ·refine Qj (q3f n f l c k) (fun a=>⟨[(0,.d (.sl 6 (k.map Q6))),(4,.ref 0 1 0 0),(5,.ref 1 3 0 0),(13,q7 n.2),(14,q7 f.1),(15,q7 f.2),(16,.hs 2 4 0 a.2.2.1.length),(17,.hs 3 2 0 a.2.2.2.length),(18,q7 a.1),(19,q7 a.2.1),(20,q7 a.2.1)],[(0,.dat 1 [[qd l]]),(1,.dat 3 [(K4 c)]),(2,.dat 4 (a.2.2.1.map qy)),(3,.dat 2 (a.2.2.2.map Qi))],4⟩) _ ax ci (wkA [(0,0),(1,1)] [] [2,3]) ?_;intro a cz j;unfold q3f at j;refine qf<|qc<|U J<|U J<|O _ J<|q9 ?_;refine qo J j (fun _ j=>?_) (fun _ j=>?_)
  ·refine qm<|qf<|Q7<|qc<|qa J<|q9<|qf<|qc<|U J<|qa J<|q9<|q8 j fun ay cj j=>?_;refine Qn (fun h=>h = ay) (fun h=>⟨[(0,.d (.sl 6 (k.map Q6))),(4,.ref 0 1 0 0),(5,.ref 1 3 0 0),(13,q7 n.2),(14,q7 f.1),(15,q7 f.2),(16,.hs 2 4 0 a.2.2.1.length),(17,.hs 3 2 0 a.2.2.2.length),(18,q7 a.1),(19,q7 a.2.1),(20,q7 a.2.1),(21,.hs 4 2 0 h.length)],[(0,.dat 1 [[qd l]]),(1,.dat 3 [(K4 c)]),(2,.dat 4 (a.2.2.1.map qy)),(3,.dat 2 (a.2.2.2.map Qi)),(4,.dat 2 (h.map Qi))],5⟩) qe ?_ ?_
   ·refine Qj (q3g f a l c k) (fun x=>⟨[(0,.d (.sl 6 (k.map Q6))),(4,.ref 0 1 0 0),(5,.ref 1 3 0 0),(13,q7 n.2),(14,q7 f.1),(15,q7 f.2),(16,.hs 2 4 0 a.2.2.1.length),(17,.hs 3 2 0 a.2.2.2.length),(18,q7 a.1),(19,q7 a.2.1),(20,q7 a.2.1),(21,.hs 4 2 0 x.2.length),(22,q7 x.1)],[(0,.dat 1 [[qd l]]),(1,.dat 3 [(K4 c)]),(2,.dat 4 (a.2.2.1.map qy)),(3,.dat 2 (a.2.2.2.map Qi)),(4,.dat 2 (x.2.map Qi))],5⟩) _ ay cj (wkA [(0,0),(1,1),(2,2),(3,3)] [] [4]) ?_;intro x da p;unfold q3g at p;refine qf<|qc<|U J<|U J<|O _ J<|q9 ?_;refine qo J p (fun _ p=>?_) (fun _ p=>?_)
    ·refine qm<|qf<|q8 p fun ck g p=>?_;refine Qn (fun ac=>ac = ck) (fun ac=>⟨[(0,.d (.sl 6 (k.map Q6))),(4,.ref 0 1 0 0),(5,.ref 1 3 0 0),(13,q7 n.2),(14,q7 f.1),(15,q7 f.2),(16,.hs 2 4 0 a.2.2.1.length),(17,.hs 3 2 0 a.2.2.2.length),(18,q7 a.1),(19,q7 a.2.1),(20,q7 a.2.1),(21,.hs 4 2 0 ac.length),(22,q7 x.1)],[(0,.dat 1 [[qd l]]),(1,.dat 3 [(K4 c)]),(2,.dat 4 (a.2.2.1.map qy)),(3,.dat 2 (a.2.2.2.map Qi)),(4,.dat 2 (ac.map Qi))],5⟩) qe ?_ ?_
     ·refine qf<|qc<|U J<|O _ J<|O _ J<|U J<|O _ J<|O _ J<|O _ J<|O _ J<|O _ J<|O _ J<|O _ J<|U J<|q8 g fun cl cm g=>Q5 (qhf ({p_:=({X:=w64 ((w64 (2 * a.2.1)) + 1),Y:=w64 ((w64 (2 * x.1)) + 1),Z:=w64 (2 * l)} : ql),d_:=c} : Yd) k cl cm) J<|q9 ?_;refine qo J g (fun _ g=>?_) (fun _ g=>?_)
      ·refine Qh ?_;obtain rfl:=qu g;exact ⟨_,J,wkA [(0,0),(1,1),(2,2),(3,3),(4,4)] [] []⟩
      refine qm<|qc<|U J<|O _ J<|qa J<|qt<|U J<|O _ J<|q8 g fun cn t g=>?_;refine Qc 10 (fun A st=>∃ az ba bb bc bd be bf bg bh,st = A [(124,Q1 cn),(123,bh),(122,bg),(121,bf),(120,be),(119,bd),(118,bc),(117,bb),(116,ba),(115,az)]) ?_ ?_
      ·refine Qd J J t (fun t=>?_) (fun t=>?_)
       ·refine U J<|U J<|O _ J<|q8 t fun dc bi t=>Q2 bi J J<|O _ J<|Qg _ bi J<|U J<|O _ J<|O _ J<|q9 ?_;cases t;exact ⟨_,_,_,_,_,_,_,_,_,J⟩
       refine qb J<|qb J<|qb J<|qb J<|qb J<|qb J<|qb J<|qb J<|O _ J<|q9 ?_;cases t;exact ⟨_,_,_,_,_,_,_,_,_,J⟩
      rintro _ ⟨az,ba,bb,bc,bd,be,bf,bg,bh,rfl⟩;refine q9 ?_;refine qo J g (fun _ g=>?_) (fun _ g=>?_)
      ·refine Q3<|U J<|U J<|O _ J<|q8 g fun bj bk g=>Q2 bk J J<|O _ J<|Qg _ bk J<|O _ J<|q8 g fun co bl g=>Q2 bl J J<|O _ J<|K0 (ds:=[qd (w64 (bj.Hi + 1))]) ({Lo:=co.Lo,Hi:=w64 (bj.Hi + 1)} : qj) bl J J J J J J J J (leb J) J<|qz ?_;obtain rfl:=qu g;exact ⟨_,J,wkE [(0,0),(1,1),(2,2),(3,3),(4,4)] [] [] J ⟨qp J,⟨_,J,.ref J qw (ltd J)⟩,⟨_,J,.ref J qw (ltd J)⟩,qp J,qp J,qp J,⟨_,J,.hs J qw (ltd J)⟩,⟨_,J,.hs J qw (ltd J)⟩,qp J,qp J,qp J,⟨_,J,K3 qe J qw (ltd J)⟩,qp J,trivial⟩ ⟨Qo J J,Qo J J,Qo J J,Qo J J,Qo J J,trivial⟩⟩
      refine Q3<|U J<|U J<|U J<|O _ J<|O _ J<|Qp _ _ J<|q8 g fun dd cp g=>Kv _ cp J J J J J J J (Ku J J) J J J J<|qa J<|qz ?_;obtain rfl:=qu g;exact ⟨_,J,wkA [(0,0),(1,1),(2,2),(3,3),(4,6)] [] []⟩
     intro ac hb;subst hb;refine Q3<|U J<|O _ J<|qa J<|qz<|⟨_,qq p,wkA [(0,0),(1,1),(2,2),(3,3),(4,4)] [] []⟩
    refine Qh ?_;refine ⟨_,qq p,fun hm=>?_⟩;subst hm;exact ⟨_,J,wkA [(0,0),(1,1),(2,2),(3,3),(4,4)] [] []⟩
   intro h hb;subst hb;refine qf<|qc<|U J<|O _ J<|O _ J<|q8 j fun cq ad j=>?_;refine Qc 5 (fun A st=>∃ bm bn bo bp,st = A [(148,Q1 cq),(147,bp),(146,bo),(145,bn),(144,bm)]) ?_ ?_
   ·refine Qd J J ad (fun ad=>?_) (fun ad=>?_)
    ·refine qb J<|qb J<|qb J<|O _ J<|q9 ?_;cases ad;exact ⟨_,_,_,_,J⟩
    refine U J<|U J<|O _ J<|O _ J<|q9 ?_;cases ad;exact ⟨_,_,_,_,J⟩
   rintro _ ⟨bm,bn,bo,bp,rfl⟩;refine q8 j fun cr u j=>?_;refine Qc 6 (fun A st=>∃ bq br bs bt bu,st = A [(154,Q1 cr),(153,bu),(152,bt),(151,bs),(150,br),(149,bq)]) ?_ ?_
   ·refine Qd J J u (fun u=>?_) (fun u=>?_)
    ·refine qb J<|qb J<|qb J<|qb J<|O _ J<|q9 ?_;cases u;exact ⟨_,_,_,_,_,J⟩
    refine U J<|U J<|q8 u fun cs ct u=>q2t [.hs 3 2 0 a.2.2.2.length,.hs 4 2 0 h.length] (qnj a.2.2.2 h cs ct) J J (J2 (Zl J J) (J2 (Zl J J) J)) (.inr J)<|O _ J<|O _ J<|q9 ?_;cases u;exact ⟨_,_,_,_,_,J⟩
   rintro _ ⟨bq,br,bs,bt,bu,rfl⟩;refine q9<|q8 j fun cu v j=>?_;refine Yn (fun q=>q = cu) (fun q=>⟨[(0,.d (.sl 6 (k.map Q6))),(4,.ref 0 1 0 0),(5,.ref 1 3 0 0),(13,q7 n.2),(14,q7 f.1),(15,q7 f.2),(16,.hs 2 4 0 q.2.length),(18,q7 q.1),(20,q7 a.2.1),(21,.hs 3 2 0 h.length)],[(0,.dat 1 [[qd l]]),(1,.dat 3 [(K4 c)]),(2,.dat 4 (q.2.map qy)),(3,.dat 2 (h.map Qi))],4⟩) qe ?_ ?_
   ·refine qo J v (fun _ v=>?_) (fun _ v=>?_)
    ·refine qc<|U J<|O _ J<|qa J<|qt<|U J<|O _ J<|U J<|q9<|q8 v fun cv cw v=>Q7<|Qj (q7x h a) (fun af=>⟨[(0,.d (.sl 6 (k.map Q6))),(4,.ref 0 1 0 0),(5,.ref 1 3 0 0),(13,q7 n.2),(14,q7 f.1),(15,q7 f.2),(16,.hs 2 4 0 af.2.length),(18,q7 (a.2.2.1.length : Int)),(20,q7 a.2.1),(21,.hs 3 2 0 h.length),(157,.hs 3 2 0 h.length),(158,q7 (h.length : Int)),(159,q7 af.1)],[(0,.dat 1 [[qd l]]),(1,.dat 3 [(K4 c)]),(2,.dat 4 (af.2.map qy)),(3,.dat 2 (h.map Qi))],4⟩) _ cv cw (wkA [(0,0),(1,1),(2,2),(3,4)] [] []) ?_;intro af de o;unfold q7x at o;refine qc<|O _ J<|q9<|qf ?_;refine qo J o (fun _ o=>?_) (fun _ o=>?_)
     ·refine qm<|qf<|Q7<|qc<|q8 o fun df bv o=>Q2 bv J J<|Qg _ bv J<|Qt J J<|Qe 4 _ J<|q9<|Q3<|U J<|U J<|O _ J<|O _ J<|U J<|O _ J<|O _ J<|O _ J<|Qp _ _ J<|q8 o fun dg cx o=>Kv _ cx J J J J J J J (Ku J J) J J J J<|qa J<|qz<|Qq<|Q3<|O _ J<|U J<|qz<|⟨_,qq o,wkA [(0,0),(1,1),(2,6),(3,3)] [] []⟩
     refine Qh ?_;refine ⟨_,qq o,fun hm=>?_⟩;subst hm;obtain rfl:=qu v;exact ⟨_,J,wkA [(0,0),(1,1),(2,2),(3,3)] [] []⟩
    refine qm<|Qk ?_;obtain rfl:=qu v;exact ⟨_,J,wkA [(0,0),(1,1),(2,2),(3,4)] [] []⟩
   intro q hb;subst hb;refine qf<|qc<|U J<|qa J<|q9<|q8 j fun bw cy j=>?_;refine Qn (fun ae=>ae = bw) (fun ae=>⟨[(0,.d (.sl 6 (k.map Q6))),(4,.ref 0 1 0 0),(5,.ref 1 3 0 0),(13,q7 n.2),(14,q7 f.1),(15,q7 f.2),(16,.hs 2 4 0 ae.length),(18,q7 q.1),(20,q7 a.2.1),(21,.hs 3 2 0 h.length)],[(0,.dat 1 [[qd l]]),(1,.dat 3 [(K4 c)]),(2,.dat 4 (ae.map qy)),(3,.dat 2 (h.map Qi))],4⟩) qe ?_ ?_
   ·refine Qj (q10 a) (fun ag=>⟨[(0,.d (.sl 6 (k.map Q6))),(4,.ref 0 1 0 0),(5,.ref 1 3 0 0),(13,q7 n.2),(14,q7 f.1),(15,q7 f.2),(16,.hs 2 4 0 ag.2.length),(18,q7 q.1),(20,q7 a.2.1),(21,.hs 3 2 0 h.length),(26,q7 ag.1)],[(0,.dat 1 [[qd l]]),(1,.dat 3 [(K4 c)]),(2,.dat 4 (ag.2.map qy)),(3,.dat 2 (h.map Qi))],4⟩) _ bw cy (wkA [(0,0),(1,1),(2,2),(3,3)] [] []) ?_;intro ag dh s;unfold q10 at s;refine qf<|qc<|U J<|U J<|O _ J<|O _ J<|q9 ?_;refine qo J s (fun _ s=>?_) (fun _ s=>?_)
    ·refine qm<|qf<|Q7<|Q3<|U J<|U J<|U J<|O _ J<|q8 s fun ah bz s=>Q2 bz J J<|O _ J<|K0 (ds:=[qd (w64 (a.2.1 + 1))]) ({X0:=ah.X0,Y0:=ah.Y0,X1:=w64 (a.2.1 + 1),Y1:=ah.Y1} : qi) bz J J J J J J J J (leb J) J<|qz<|Qq<|Q3<|U J<|O _ J<|qa J<|qz<|⟨_,qq s,wkE [(0,0),(1,1),(2,2),(3,3)] [] [] J ⟨qp J,⟨_,J,.ref J qw (ltd J)⟩,⟨_,J,.ref J qw (ltd J)⟩,qp J,qp J,qp J,⟨_,J,K3 qe J qw (ltd J)⟩,qp J,qp J,⟨_,J,.hs J qw (ltd J)⟩,qp J,trivial⟩ ⟨Qo J J,Qo J J,Qo J J,Qo J J,trivial⟩⟩
    refine Qh ?_;refine ⟨_,qq s,fun hm=>?_⟩;subst hm;exact ⟨_,J,wkA [(0,0),(1,1),(2,2),(3,3)] [] []⟩
   intro ae hb;subst hb;refine Q3<|U J<|U J<|O _ J<|qa J<|qa J<|qz<|Qq<|Q3<|U J<|O _ J<|qa J<|qz<|⟨_,qq j,wkA [(0,0),(1,1),(2,2),(3,3)] [] []⟩
  refine Qh ?_;refine ⟨_,qq j,fun hm=>?_⟩;subst hm;exact ⟨_,J,wkA [(0,2)] [] []⟩
 intro ab hb;subst hb;refine qf<|qc<|U J<|O _ J<|O _ J<|q9 ?_;refine qo J b (fun _ b=>?_) (fun _ b=>?_)
 ·refine qc<|qa J<|qa J<|qv ?_;obtain rfl:=qu b;exact finD (.inr J) J J (Yw (.cons (.nil _) (.cons (.refl _) .nil)))
 refine qm<|qc<|U J<|qa J<|qa J<|qv ?_;obtain rfl:=qu b;exact finD (.inr J) J (q85 (Zu (Zl J J) (Zu J J))) (.refl _)
theorem qok (a : Yd) (r : Bool) (c : q81 a = some r) : Pure Tryz.prog tab 56 [.agg [qd a.p_.X,qd a.p_.Y,qd a.p_.Z,qd a.d_.X,qd a.d_.Y,qd a.d_.Z]] (.bool r):=by
 unfold q81 at c;refine Qr Tryz.func56 J qh qh J<|qc<|Qp _ _ J<|qa J<|qt<|O _ J<|O _ J<|q8 c fun h u c=>Q5 (q7y a.p_ h u) J<|Qt J J<|Qe 1 _ J<|q9<|qf<|qc<|O _ J<|O _ J<|q8 c fun f v c=>Q5 (q7y a.d_ f v) J<|U J<|q9<|q8 c fun k x c=>?_;refine Qn (fun j=>.inl j = k) (fun j=>⟨[(1,.ref 0 6 0 0)],[(0,.dat 6 [[qd a.p_.X,qd a.p_.Y,qd a.p_.Z,qd a.d_.X,qd a.d_.Y,qd a.d_.Z]])],1⟩) qe ?_ ?_
 ·refine Qj (qdq f h) (fun l=>⟨[(1,.ref 0 6 0 0),(3,.ref 1 3 0 0),(11,.d (.agg [qd f.1,qd f.2.1,qd f.2.2])),(12,q7 l)],[(0,.dat 6 [[qd a.p_.X,qd a.p_.Y,qd a.p_.Z,qd a.d_.X,qd a.d_.Y,qd a.d_.Z]]),(1,.dat 3 [[h.1,h.2.1,h.2.2].flatMap (eI .i64)])],2⟩) _ k x (wkA [(0,0),(1,1)] [] []) ?_;intro l ae b;unfold qdq at b;refine qc<|O _ J<|q9<|qf ?_;refine qo J b (fun _ b=>?_) (fun _ b=>?_)
  ·refine qm<|qf<|Q7<|qc<|U J<|q8 b fun y z b=>qcd (enc:=(eI .i64)) [f.1,f.2.1,f.2.2] (q7 y) z (fun _=>rfl) J J J J J J<|qa J<|qa J<|qt<|U J<|O _ J<|q8 b fun aa g b=>?_;refine Qc 7 (fun A st=>∃ m n o p q s,st = A [(24,Q1 aa),(23,s),(22,q),(21,p),(20,o),(19,n),(18,m)]) ?_ ?_
   ·refine Qd J J g (fun g=>?_) (fun g=>?_)
    ·refine U J<|q8 g fun ab t g=>q1o t J J J J J<|q2s (enc:=(eI .i64)) (q7 ab) t (fun _=>rfl) J J J J J J<|O _ J<|O _ J<|O _ J<|q9 ?_;cases g;exact ⟨_,_,_,_,_,_,J⟩
    refine qb J<|qb J<|qb J<|qb J<|qb J<|O _ J<|q9 ?_;cases g;exact ⟨_,_,_,_,_,_,J⟩
   rintro _ ⟨m,n,o,p,q,s,rfl⟩;refine q9 ?_;refine qo J b (fun _ b=>?_) (fun _ b=>?_)
   ·refine qc<|qa J<|qv ?_;refine ⟨_,qq b,fun hm=>?_⟩;subst hm;cases c;exact Q8 _ J
   refine qm<|Qk<|Qq<|Q3<|O _ J<|U J<|qz<|⟨_,qq b,wkA [(0,0),(1,1)] [] []⟩
  refine Qh ?_;refine ⟨_,qq b,fun hm=>?_⟩;subst hm;exact ⟨_,J,wkA [(0,0)] [] []⟩
 intro j hb;subst hb;refine qc<|O _ J<|O _ J<|q8 c fun ac ad c=>Q5 (qdp a.p_ 240 ac ad) J<|qa J<|qv ?_;cases c;exact Q8 _ J
theorem qhe (c : List qg) (d : ql) (b : ql) (r : Bool × Int) (a : q53 c d b = some r) : Pure Tryz.prog tab 21 [.sl 6 (c.map Q6),.agg (K4 d),.agg (K4 b)] (.tup [.bool r.1,qd r.2]):=by
 unfold q53 at a;refine Qr Tryz.func21 J qh qh J<|qc<|Qp _ _ J<|Qp _ _ J<|qa J<|qa J<|q9<|qf<|qc<|U J<|O _ J<|q8 a fun f g a=>Q5 (qay c b f g) J<|qa J<|qt<|U J<|O _ J<|q9 ?_;refine qo J a (fun _ a=>?_) (fun _ a=>?_)
 ·refine qc<|U J<|qa J<|qa J<|qv ?_;cases a;exact Q8 _ J
 refine qm<|qc<|O _ J<|O _ J<|O _ J<|Qt J J<|Qe 2 _ J<|q9<|qf<|qc<|O _ J<|q8 a fun h j a=>Q5 (qok ({p_:=d,d_:=b} : Yd) h j) J<|O _ J<|q9 ?_;refine qo J a (fun _ a=>?_) (fun _ a=>?_)
 ·refine qc<|qa J<|qa J<|qv ?_;cases a;exact Q8 _ J
 refine qm<|qc<|O _ J<|U J<|q8 a fun k l a=>Q5 (qhf ({p_:=d,d_:=b} : Yd) c k l) J<|qa J<|qa J<|qv ?_;cases a;exact Q8 _ J
theorem qwf (b : ql) (f : ql) (r : Bool) (c : q99 b f = some r) : Pure Tryz.prog tab 29 [.agg (K4 b),.agg (K4 f)] (.bool r):=by
 unfold q99 at c;refine Qr Tryz.func29 J qh qh J<|qc<|Qp _ _ J<|Qp _ _ J<|qa J<|q9<|qf<|qc<|qa J<|q9<|q8 c fun j q c=>?_;refine Qn (fun h=>.inl h = j) (fun h=>⟨[(2,.ref 0 3 0 0)],[(0,.dat 3 [(K4 b)])],1⟩) qe ?_ ?_
 ·refine Qj (qcs f b) (fun g=>⟨[(2,.ref 0 3 0 0),(3,.ref 1 3 0 0),(5,q7 g)],[(0,.dat 3 [(K4 b)]),(1,.dat 3 [(K4 f)])],2⟩) _ j q (wkA [(0,0),(1,1)] [] []) ?_;intro g aa a;unfold qcs at a;refine qf<|qc<|U J<|O _ J<|q9 ?_;refine qo J a (fun _ a=>?_) (fun _ a=>?_)
  ·refine qm<|qf<|Q7<|qc<|O _ J<|U J<|q8 a fun s t a=>Q5 (qmj f g s t) J<|O _ J<|q8 a fun u d a=>?_;refine Qc 7 (fun A st=>∃ k l m n o p,st = A [(20,Q1 u),(19,p),(18,o),(17,n),(16,m),(15,l),(14,k)]) ?_ ?_
   ·refine Qd J J d (fun d=>?_) (fun d=>?_)
    ·refine O _ J<|U J<|q8 d fun v x d=>Q5 (qmj b g v x) J<|O _ J<|O _ J<|O _ J<|q9 ?_;cases d;exact ⟨_,_,_,_,_,_,J⟩
    refine qb J<|qb J<|qb J<|qb J<|qb J<|O _ J<|q9 ?_;cases d;exact ⟨_,_,_,_,_,_,J⟩
   rintro _ ⟨k,l,m,n,o,p,rfl⟩;refine q9 ?_;refine qo J a (fun _ a=>?_) (fun _ a=>?_)
   ·refine qc<|qa J<|qv ?_;refine ⟨_,qq a,fun hm=>?_⟩;subst hm;cases c;exact Q8 _ J
   refine qm<|Qk<|Qq<|Q3<|U J<|O _ J<|qa J<|qz<|⟨_,qq a,wkA [(0,0),(1,1)] [] []⟩
  refine Qh ?_;refine ⟨_,qq a,fun hm=>?_⟩;subst hm;exact ⟨_,J,wkA [(0,0)] [] []⟩
 intro h hb;subst hb;refine qc<|O _ J<|q8 c fun y z c=>Q5 (q67 b 240 y z) J<|qa J<|qv ?_;cases c;exact Q8 _ J
theorem qmo (b : Int) (r : Int) (a : q6a b = some r) : Pure Tryz.prog tab 98 [qd b] (.int .u64 r):=by
 unfold q6a at a;refine Qr Tryz.func98 J qh qh J<|qc<|qa J<|q9<|qf<|qc<|U J<|O _ J<|q9 ?_;refine qo J a (fun _ a=>?_) (fun _ a=>?_)
 ·refine qc<|U J<|O _ J<|O _ J<|qa J<|qv ?_;cases a;exact Q8 _ J
 refine qm<|qc<|U J<|O _ J<|qa J<|qv ?_;cases a;exact Q8 _ J
theorem qwk (g : Int) (h : Int) (r : Int) (b : q9c g h = some r) : Pure Tryz.prog tab 99 [.int .u64 g,.int .u64 h] (.int .u64 r):=by
 unfold q9c at b;refine Qr Tryz.func99 J qh qh J<|qc<|qa J<|q9<|qf<|q8 b fun j k b=>?_;refine Qn (fun c=>c = j) (fun c=>⟨[(0,.d (.int .u64 c))],[],0⟩) qe ?_ ?_
 ·refine Qj (q69) (fun f=>⟨[(0,.d (.int .u64 f.1)),(1,.d (.int .u64 f.2))],[],0⟩) _ j k (wkA [] [] []) ?_;intro f m a;unfold q69 at a;refine qf<|qc<|U J<|O _ J<|q9 ?_;refine qo J a (fun _ a=>?_) (fun _ a=>?_)
  ·refine qm<|Q7<|Qm [q6,q6,q6,q6,q6,q6] qh<|U J<|U J<|U J<|q8 a fun n l a=>qui l J J J<|qa J<|qa J<|qz<|Qq<|Qk<|⟨_,qq a,wkA [] [] []⟩
  refine Qh ?_;refine ⟨_,qq a,fun hm=>?_⟩;subst hm;exact ⟨_,J,wkA [] [] []⟩
 intro c hb;subst hb;refine qc<|U J<|qa J<|qv ?_;cases b;exact Q8 _ J
theorem qwi (f : Int) (g : Int) (r : Y3 × Int) (a : q9b f g = some r) : Pure Tryz.prog tab 60 [qd f,qd g] (.tup [.agg (qbq r.1),qd r.2]):=by
 unfold q9b at a;refine Qr Tryz.func60 J qh qh J<|qc<|Qt J J<|qa J<|q9<|qf<|qc<|U J<|O _ J<|q9 ?_;refine qo J a (fun _ a=>?_) (fun _ a=>?_)
 ·refine qc<|O _ J<|Qe 0 _ J<|qa J<|qv ?_;cases a;exact Q8 _ J
 refine qm<|qc<|U J<|q8 a fun h n a=>Q5 (qmo f h n) J<|U J<|q8 a fun j o a=>Q5 (qmo g j o) J<|qa J<|qa J<|qt<|U J<|U J<|q8 a fun p q a=>Q5 (qwk h j p q) J<|qa J<|q9<|qf<|Qm [q6,q6,q6,q6,q6,q6,q6,q6] qh<|U J<|U J<|q8 a fun y s a=>qlw s J J J<|U J<|U J<|q8 a fun t u a=>qlw u J J J<|qa J<|qa J<|q9<|qf<|qc<|U J<|O _ J<|q8 a fun v b a=>?_;refine Qc 4 (fun A st=>∃ k l m,st = A [(31,Q1 v),(30,m),(29,l),(28,k)]) ?_ ?_
 ·refine Qd J J b (fun b=>?_) (fun b=>?_)
  ·refine qb J<|qb J<|O _ J<|q9 ?_;cases b;exact ⟨_,_,_,J⟩
  refine U J<|O _ J<|O _ J<|q9 ?_;cases b;exact ⟨_,_,_,J⟩
 rintro _ ⟨k,l,m,rfl⟩;refine q9 ?_;refine qo J a (fun _ a=>?_) (fun _ a=>?_)
 ·refine qc<|O _ J<|Qe 0 _ J<|qa J<|qv ?_;cases a;exact Q8 _ J
 refine qm<|qc<|U J<|O _ J<|U J<|O _ J<|O _ J<|Qt J J<|Qe 1 _ J<|q9<|qf<|qc<|U J<|O _ J<|U J<|O _ J<|O _ J<|q9<|q8 a fun x c a=>?_;refine Yn (fun d=>d = x) (fun d=>⟨[(4,.ref 0 2 0 0),(9,.ref 1 2 0 0)],[(0,.dat 2 [[qd 0,qd 0]]),(1,.dat 2 [[qd d,qd (w64 t)]])],2⟩) qe ?_ ?_
 ·refine qo J c (fun _ c=>?_) (fun _ c=>?_)
  ·refine Q3<|O _ J<|O _ J<|O _ J<|O _ J<|Qe 1 _ J<|qz ?_;obtain rfl:=qu c;exact ⟨_,J,wkA [(0,0),(1,1)] [] []⟩
  refine qm<|Qk ?_;obtain rfl:=qu c;exact ⟨_,J,wkA [(0,0),(1,1)] [] []⟩
 intro d hb;subst hb;refine qc<|O _ J<|Qe 0 _ J<|qa J<|qv ?_;cases a;exact Q8 _ J
theorem qhc (g : List qg) (c : ql) (b : ql) (r : Y3 × Int) (a : q3c g c b = some r) : Pure Tryz.prog tab 23 [.sl 6 (g.map Q6),.agg (K4 c),.agg (K4 b)] (.tup [.agg (qbq r.1),qd r.2]):=by
 unfold q3c at a;refine Qr Tryz.func23 J qh qh J<|qc<|Qp _ _ J<|Qp _ _ J<|Qt J J<|qa J<|q9<|qf<|qc<|U J<|O _ J<|q8 a fun r1 h2 a=>Q5 (qay g b r1 h2) J<|qa J<|qt<|U J<|O _ J<|q9 ?_;refine qo J a (fun _ a=>?_) (fun _ a=>?_)
 ·refine qc<|O _ J<|U J<|Qe 2 _ J<|qa J<|qv ?_;cases a;exact Q8 _ J
 refine qm<|qc<|O _ J<|O _ J<|O _ J<|Qt J J<|Qe 3 _ J<|q9<|qf<|qc<|O _ J<|q8 a fun r3 h4 a=>Q5 (qok ({p_:=c,d_:=b} : Yd) r3 h4) J<|O _ J<|q9 ?_;refine qo J a (fun _ a=>?_) (fun _ a=>?_)
 ·refine qc<|O _ J<|Qe 2 _ J<|qa J<|qv ?_;cases a;exact Q8 _ J
 refine qm<|qc<|Qt J J<|qt<|qa J<|qt<|O _ J<|O _ J<|qa J<|q9<|qf<|qc<|U J<|Qx J<|U J<|q9<|q8 a fun o ai a=>?_;refine Qn (fun h=>h = o) (fun h=>⟨[(6,.ref 0 2 0 0),(10,.ref 1 2 0 0),(11,Q1 h.1)],[(0,.dat 2 [[qd 0,qd 0]]),(1,.dat 2 [[qd h.2.1,qd h.2.2]])],2⟩) qe ?_ ?_
 ·refine Qj (q27 g c b) (fun j=>⟨[(6,.ref 0 2 0 0),(10,.ref 1 2 0 0),(11,Q1 j.1),(12,.d (.bfn 58 [.agg [qd c.X,qd c.Y,qd c.Z,qd b.X,qd b.Y,qd b.Z]])),(33,.d (.sl 6 (g.map Q6))),(34,q7 (g.length : Int)),(35,q7 j.2.1)],[(0,.dat 2 [[qd 0,qd 0]]),(1,.dat 2 [[qd j.2.2.1,qd j.2.2.2]])],2⟩) _ o ai (wkA [(0,2),(1,4)] [] []) ?_;intro j av k;unfold q27 at k;refine qc<|O _ J<|q9<|qf ?_;refine qo J k (fun _ k=>?_) (fun _ k=>?_)
  ·refine qm<|qf<|q8 k fun aj f k=>?_;refine Qn (fun n=>n = aj) (fun n=>⟨[(6,.ref 0 2 0 0),(10,.ref 1 2 0 0),(11,Q1 n.1),(12,.d (.bfn 58 [.agg [qd c.X,qd c.Y,qd c.Z,qd b.X,qd b.Y,qd b.Z]])),(33,.d (.sl 6 (g.map Q6))),(34,q7 (g.length : Int)),(35,q7 j.2.1)],[(0,.dat 2 [[qd 0,qd 0]]),(1,.dat 2 [[qd n.2.1,qd n.2.2]])],2⟩) qe ?_ ?_
   ·refine qc<|q8 f fun ak al f=>Ql al J<|O _ J<|Qt J J<|Qe 2 _ J<|qt<|U J<|O _ J<|q8 f fun p am f=>Q5 (qol ({p_:=c,d_:=b} : Yd) ak p am) J<|U J<|O _ J<|O _ J<|Qt J J<|Qe 3 _ J<|qa J<|qt<|U J<|q8 f fun an l f=>?_;refine Qc 9 (fun A st=>∃ q s t u v x y z,st = A [(54,Q1 an),(53,z),(52,y),(51,x),(50,v),(49,u),(48,t),(47,s),(46,q)]) ?_ ?_
    ·refine Qd J J l (fun l=>?_) (fun l=>?_)
     ·refine U J<|O _ J<|q8 l fun ao m l=>?_;refine Qc 5 (fun A st=>∃ aa ab ac ad,st = A [(53,Q1 ao),(52,ad),(51,ac),(50,ab),(49,aa)]) ?_ ?_
      ·refine Qd J J m (fun m=>?_) (fun m=>?_)
       ·refine qb J<|qb J<|qb J<|O _ J<|q9 ?_;cases m;exact ⟨_,_,_,_,J⟩
       refine O _ J<|O _ J<|q8 m fun ap aq m=>Q5 (qdr p.1 ({num_:=j.2.2.1,den_:=j.2.2.2} : Kx) ap aq) J<|O _ J<|q9 ?_;cases m;exact ⟨_,_,_,_,J⟩
      rintro _ ⟨aa,ab,ac,ad,rfl⟩;refine O _ J<|q9 ?_;cases l;exact ⟨_,_,_,_,_,_,_,_,J⟩
     refine qb J<|qb J<|qb J<|qb J<|qb J<|qb J<|qb J<|O _ J<|q9 ?_;cases l;exact ⟨_,_,_,_,_,_,_,_,J⟩
    rintro _ ⟨q,s,t,u,v,x,y,z,rfl⟩;refine q9 ?_;refine qo J f (fun _ f=>?_) (fun _ f=>?_)
    ·refine Q3<|O _ J<|Qe 1 _ J<|qa J<|qz ?_;obtain rfl:=qu f;exact ⟨_,J,wkA [(0,0),(1,1)] [] []⟩
    refine qm<|Qk ?_;obtain rfl:=qu f;exact ⟨_,J,wkA [(0,0),(1,1)] [] []⟩
   intro n hb;subst hb;refine Q3<|O _ J<|U J<|qz<|⟨_,qq k,wkA [(0,0),(1,1)] [] []⟩
  refine Qh ?_;refine ⟨_,qq k,fun hm=>?_⟩;subst hm;exact ⟨_,J,wkA [(0,0),(1,1)] [] []⟩
 intro h hb;subst hb;refine qf<|qc<|U J<|O _ J<|q9 ?_;refine qo J a (fun _ a=>?_) (fun _ a=>?_)
 ·refine qc<|O _ J<|Qe 0 _ J<|qa J<|qv ?_;cases a;exact Q8 _ J
 refine qm<|qc<|O _ J<|O _ J<|O _ J<|O _ J<|q8 a fun ar au a=>Q5 (qwi h.2.1 h.2.2 ar au) J<|O _ J<|O _ J<|Qe 0 _ J<|qa J<|qv ?_;cases a;exact Q8 _ J
theorem qky (a : Int) (b : Int) (c : Int) (d : Int) (f : Int) (g : Int) (r : qg) (h : q5l a b c d f g = some r) : Pure Tryz.prog tab 25 [qd a,qd b,qd c,qd d,qd f,qd g] (.agg (Q6 r)):=by
 unfold q5l at h;refine Qr Tryz.func25 J qh qh J<|qc<|Qt J J<|qt<|U J<|U J<|U J<|O _ J<|U J<|U J<|U J<|O _ J<|O _ J<|Qe 0 _ J<|qv ?_;cases h;exact Q8 _ J
theorem q3y (a : Int) (b : Int) (c : Int) (r : ql) (d : Uv a b c = some r) : Pure Tryz.prog tab 26 [qd a,qd b,qd c] (.agg (K4 r)):=by
 unfold Uv at d;refine Qr Tryz.func26 J qh qh J<|qc<|Qt J J<|qt<|U J<|U J<|U J<|O _ J<|Qe 0 _ J<|qv ?_;cases d;exact Q8 _ J
theorem ql0 (a : Int) (b : Int) (c : Int) (d : Int) (r : List qi) (f : q8t a b c d = some r) : Pure Tryz.prog tab 61 [qd a,qd b,qd c,qd d] (.sl 4 (r.map qy)):=by
 unfold q8t at f;refine Qr Tryz.func61 J qh qh J<|qc<|qa J<|qt<|U J<|U J<|U J<|U J<|O _ J<|Qp _ _ J<|qa J<|qv ?_;obtain rfl:=qu f;exact finD (.inr J) J (Zl J J) (.refl _)
theorem qt6 (r : Bool) (a : q8s = some r) : Pure Tryz.prog tab 27 [] (.bool r):=by
 unfold q8s at a;refine Qr Tryz.func27 J qh qh J<|qc<|qa J<|qt<|q8 a fun b h2 a=>Q5 (qky 0 0 0 1 1 1 b h2) J<|Qp (.hs 0 6 0 [b].length) (.dat 6 ([b].map Q6)) J<|qa J<|q9<|qf ?_;refine Ya (st':=⟨[(1,.d (.sl 6 ([b].map Q6)))],[],0⟩) (wkA [] [0] []) ?_ qe;refine Q3<|U J<|q8 a fun t h4 a=>Q5 (q3y (-3) 1 1 t h4) J<|q8 a fun u h6 a=>Q5 (q3y 1 0 0 u h6) J<|q8 a fun r7 h8 a=>Q5 (qhc [b] t u r7 h8) J<|U J<|O _ J<|O _ J<|Qt J J<|Qe 0 _ J<|qa J<|qt<|U J<|q8 a fun v bz a=>Q5 (q3y 1 0 1 v bz) J<|q8 a fun ca cb a=>Q5 (q12z [b] v ca cb) J<|U J<|O _ J<|O _ J<|O _ J<|qa J<|qa J<|qa J<|qt<|U J<|O _ J<|q8 a fun x cc a=>Q5 (q3y 1 0 1 x cc) J<|q8 a fun cd ce a=>Q5 (qod [b] ({X:=0,Y:=0,Z:=0} : ql) 0 x cd ce) J<|U J<|O _ J<|O _ J<|qa J<|qa J<|qt ?_;refine U J<|O _ J<|q8 a fun y cf a=>Q5 (q3y 1 0 1 y cf) J<|q8 a fun cg ch a=>Q5 (qod [b] ({X:=0,Y:=0,Z:=0} : ql) 4 y cg ch) J<|U J<|O _ J<|O _ J<|qa J<|qa J<|qt<|U J<|q8 a fun z ci a=>Q5 (q3y 0 0 1 z ci) J<|q8 a fun aa cj a=>Q5 (qog [b] 0 z aa cj) J<|U J<|O _ J<|O _ J<|qa J<|qa J<|qt<|q8 a fun s ck a=>Q5 (qky 0 0 1 1 1 2 s ck) J<|qg9 (es:=6) ([s].map Q6) J J J J J<|q8 a fun ab cl a=>Q5 (q3y 1 0 1 ab cl) J<|q8 a fun ac cm a=>Q5 (qog [s] 0 ab ac cm) J<|U J<|O _ J<|O _ J<|qa J<|qa J<|qt<|U J<|O _ J<|q8 a fun cn g a=>?_;refine Qc 5 (fun A st=>∃ ad ae af ag,st = A [(64,Q1 cn),(63,ag),(62,af),(61,ae),(60,ad)]) ?_ ?_
 ·refine Qd J J g (fun g=>?_) (fun g=>?_)
  ·refine O _ J<|O _ J<|O _ J<|O _ J<|q9 ?_;cases g;exact ⟨_,_,_,_,J⟩
  refine qb J<|qb J<|qb J<|O _ J<|q9 ?_;cases g;exact ⟨_,_,_,_,J⟩
 rintro _ ⟨ad,ae,af,ag,rfl⟩;refine q8 a fun co h a=>?_;refine Qc 4 (fun A st=>∃ ah ai aj,st = A [(68,Q1 co),(67,aj),(66,ai),(65,ah)]) ?_ ?_
 ·refine Qd J J h (fun h=>?_) (fun h=>?_)
  ·refine U J<|O _ J<|O _ J<|q9 ?_;cases h;exact ⟨_,_,_,J⟩
  refine qb J<|qb J<|O _ J<|q9 ?_;cases h;exact ⟨_,_,_,J⟩
 rintro _ ⟨ah,ai,aj,rfl⟩;refine q8 a fun cp j a=>?_;refine Qc 4 (fun A st=>∃ ak al am,st = A [(72,Q1 cp),(71,am),(70,al),(69,ak)]) ?_ ?_
 ·refine Qd J J j (fun j=>?_) (fun j=>?_)
  ·refine U J<|O _ J<|O _ J<|q9 ?_;cases j;exact ⟨_,_,_,J⟩
  refine qb J<|qb J<|O _ J<|q9 ?_;cases j;exact ⟨_,_,_,J⟩
 rintro _ ⟨ak,al,am,rfl⟩;refine q8 a fun cq k a=>?_;refine Qc 4 (fun A st=>∃ an ao ap,st = A [(76,Q1 cq),(75,ap),(74,ao),(73,an)]) ?_ ?_
 ·refine Qd J J k (fun k=>?_) (fun k=>?_)
  ·refine U J<|O _ J<|O _ J<|q9 ?_;cases k;exact ⟨_,_,_,J⟩
  refine qb J<|qb J<|O _ J<|q9 ?_;cases k;exact ⟨_,_,_,J⟩
 rintro _ ⟨an,ao,ap,rfl⟩;refine q8 a fun cr l a=>?_;refine Qc 4 (fun A st=>∃ aq ar au,st = A [(80,Q1 cr),(79,au),(78,ar),(77,aq)]) ?_ ?_
 ·refine Qd J J l (fun l=>?_) (fun l=>?_)
  ·refine U J<|O _ J<|O _ J<|q9 ?_;cases l;exact ⟨_,_,_,J⟩
  refine qb J<|qb J<|O _ J<|q9 ?_;cases l;exact ⟨_,_,_,J⟩
 rintro _ ⟨aq,ar,au,rfl⟩;refine q8 a fun cs m a=>?_;refine Qc 3 (fun A st=>∃ av aw,st = A [(83,Q1 cs),(82,aw),(81,av)]) ?_ ?_
 ·refine Qd J J m (fun m=>?_) (fun m=>?_)
  ·refine U J<|O _ J<|q9 ?_;cases m;exact ⟨_,_,J⟩
  refine qb J<|O _ J<|q9 ?_;cases m;exact ⟨_,_,J⟩
 rintro _ ⟨av,aw,rfl⟩;refine q8 a fun ct n a=>?_;refine Qc 4 (fun A st=>∃ ax ay az,st = A [(87,Q1 ct),(86,az),(85,ay),(84,ax)]) ?_ ?_
 ·refine Qd J J n (fun n=>?_) (fun n=>?_)
  ·refine U J<|O _ J<|O _ J<|q9 ?_;cases n;exact ⟨_,_,_,J⟩
  refine qb J<|qb J<|O _ J<|q9 ?_;cases n;exact ⟨_,_,_,J⟩
 rintro _ ⟨ax,ay,az,rfl⟩;refine q8 a fun cu o a=>?_;refine Qc 3 (fun A st=>∃ ba bb,st = A [(90,Q1 cu),(89,bb),(88,ba)]) ?_ ?_
 ·refine Qd J J o (fun o=>?_) (fun o=>?_)
  ·refine U J<|O _ J<|q9 ?_;cases o;exact ⟨_,_,J⟩
  refine qb J<|O _ J<|q9 ?_;cases o;exact ⟨_,_,J⟩
 rintro _ ⟨ba,bb,rfl⟩;refine q8 a fun cv p a=>?_;refine Qc 4 (fun A st=>∃ bc bd be,st = A [(94,Q1 cv),(93,be),(92,bd),(91,bc)]) ?_ ?_
 ·refine Qd J J p (fun p=>?_) (fun p=>?_)
  ·refine U J<|O _ J<|O _ J<|q9 ?_;cases p;exact ⟨_,_,_,J⟩
  refine qb J<|qb J<|O _ J<|q9 ?_;cases p;exact ⟨_,_,_,J⟩
 rintro _ ⟨bc,bd,be,rfl⟩;refine q8 a fun cw c a=>?_;refine Qc 5 (fun A st=>∃ bf bg bh bi,st = A [(99,Q1 cw),(98,bi),(97,bh),(96,bg),(95,bf)]) ?_ ?_
 ·refine Qd J J c (fun c=>?_) (fun c=>?_)
  ·refine U J<|q8 c fun bj cx c=>Q5 (ql0 0 0 1 1 bj cx) J<|q8 c fun cy cz c=>Q5 (qgl aa.1 bj cy cz) J<|O _ J<|q9 ?_;cases c;exact ⟨_,_,_,_,J⟩
  refine qb J<|qb J<|qb J<|O _ J<|q9 ?_;cases c;exact ⟨_,_,_,_,J⟩
 rintro _ ⟨bf,bg,bh,bi,rfl⟩;refine q8 a fun da q a=>?_;refine Qc 4 (fun A st=>∃ bk bl bm,st = A [(103,Q1 da),(102,bm),(101,bl),(100,bk)]) ?_ ?_
 ·refine Qd J J q (fun q=>?_) (fun q=>?_)
  ·refine U J<|O _ J<|O _ J<|q9 ?_;cases q;exact ⟨_,_,_,J⟩
  refine qb J<|qb J<|O _ J<|q9 ?_;cases q;exact ⟨_,_,_,J⟩
 rintro _ ⟨bk,bl,bm,rfl⟩;refine q8 a fun dc f a=>?_;refine Qc 5 (fun A st=>∃ bn bo bp bq,st = A [(108,Q1 dc),(107,bq),(106,bp),(105,bo),(104,bn)]) ?_ ?_
 ·refine Qd J J f (fun f=>?_) (fun f=>?_)
  ·refine U J<|q8 f fun br dd f=>Q5 (ql0 (-2) 0 0 1 br dd) J<|q8 f fun de df f=>Q5 (qgl ac.1 br de df) J<|O _ J<|q9 ?_;cases f;exact ⟨_,_,_,_,J⟩
  refine qb J<|qb J<|qb J<|O _ J<|q9 ?_;cases f;exact ⟨_,_,_,_,J⟩
 rintro _ ⟨bn,bo,bp,bq,rfl⟩;refine qa J<|qv ?_;cases a;exact Q8 _ J
theorem qkz (d : List qg) (f : ql) (r : Bool) (c : q5m d f = some r) : Pure Tryz.prog tab 28 [.sl 6 (d.map Q6),.agg (K4 f)] (.bool r):=by
 unfold q5m at c;refine Qr Tryz.func28 J qh qh J<|qc<|Qp _ _ J<|qa J<|qt<|U J<|Qx J<|O _ J<|q8 c fun p a c=>?_;refine Qc 4 (fun A st=>∃ g h j,st = A [(11,Q1 p),(10,j),(9,h),(8,g)]) ?_ ?_
 ·refine Qd J J a (fun a=>?_) (fun a=>?_)
  ·refine U J<|q8 a fun q s a=>Q5 (qwg d q s) J<|O _ J<|q9 ?_;cases a;exact ⟨_,_,_,J⟩
  refine qb J<|qb J<|O _ J<|q9 ?_;cases a;exact ⟨_,_,_,J⟩
 rintro _ ⟨g,h,j,rfl⟩;refine q8 c fun t b c=>?_;refine Qc 6 (fun A st=>∃ k l m n o,st = A [(17,Q1 t),(16,o),(15,n),(14,m),(13,l),(12,k)]) ?_ ?_
 ·refine Qd J J b (fun b=>?_) (fun b=>?_)
  ·refine U J<|O _ J<|q8 b fun u v b=>Q5 (qwd d f u v) J<|O _ J<|O _ J<|q9 ?_;cases b;exact ⟨_,_,_,_,_,J⟩
  refine qb J<|qb J<|qb J<|qb J<|O _ J<|q9 ?_;cases b;exact ⟨_,_,_,_,_,J⟩
 rintro _ ⟨k,l,m,n,o,rfl⟩;refine qa J<|qv ?_;cases c;exact Q8 _ J
end Go.Proofs.YtmnfbjlabfeneaaGreat
