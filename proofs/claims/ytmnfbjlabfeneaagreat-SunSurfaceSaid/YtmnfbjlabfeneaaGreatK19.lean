/- W_Alld W_All -/
import Derived.Test.YtmnfbjlabfeneaaGreatK18
namespace Go.Proofs.YtmnfbjlabfeneaaGreat
open Go Go.Am Go.Sh
set_option maxHeartbeats 8000000
set_option maxRecDepth 100000
theorem q14y (g : List qf) (r : qf × Int) (a : qb6 g = some r) : Pure Tryz.prog tab 49 [.sl 6 (g.map Q6)] (.tup [.agg (Q6 r.1),qd r.2]):=by
 unfold qb6 at a;refine Qk Tryz.func49 J qi qi J<|qc<|Qr J J<|qa J<|q8<|qg<|qc<|U J<|q7 a fun k l a=>Q1 (qe8 g k l) J<|qa J<|qt<|U J<|O _ J<|q8 ?_;refine qn J a (fun _ a=>?_) (fun _ a=>?_)
 ·refine qc<|O _ J<|U J<|Qd 0 _ J<|qa J<|qu ?_;cases a;exact Q7 _ J
 refine qp<|qg<|qc<|U J<|Qx J<|O _ J<|q8 ?_;refine qn J a (fun _ a=>?_) (fun _ a=>?_)
 ·refine qc<|O _ J<|Qd 0 _ J<|qa J<|qu ?_;cases a;exact Q7 _ J
 refine qp<|qc<|U J<|q7 a fun p m a=>Qn m J<|O _ J<|Qr J J<|Qd 1 _ J<|q8<|qg<|qc<|U J<|Qx J<|U J<|q8<|q7 a fun j n a=>?_;refine Qo (fun c=>c = j) (fun c=>⟨[(2,.ref 0 6 0 0),(5,.ref 1 6 0 0)],[(0,.dat 6 [[qd 0,qd 0,qd 0,qd 0,qd 0,qd 0]]),(1,.dat 6 [[qd c.1,qd c.2.1,qd c.2.2.1,qd c.2.2.2.1,qd c.2.2.2.2.1,qd c.2.2.2.2.2]])],2⟩) qe ?_ ?_
 ·refine Qm (q5e g) (fun b=>⟨[(2,.ref 0 6 0 0),(5,.ref 1 6 0 0),(21,.d (.sl 6 (g.map Q6))),(22,q9 (g.length : Int)),(23,q9 b.1)],[(0,.dat 6 [[qd 0,qd 0,qd 0,qd 0,qd 0,qd 0]]),(1,.dat 6 [[qd b.2.1,qd b.2.2.1,qd b.2.2.2.1,qd b.2.2.2.2.1,qd b.2.2.2.2.2.1,qd b.2.2.2.2.2.2]])],2⟩) _ j n (wkA [(0,0),(1,1)] [] []) ?_;intro b q f;unfold q5e at f;refine qc<|O _ J<|q8<|qg ?_;refine qn J f (fun _ f=>?_) (fun _ f=>?_)
  ·refine qp<|qg<|Qc<|qc<|q7 f fun h o f=>Qn o J<|O _ J<|Qr J J<|Qd 2 _ J<|qt<|O _ J<|O _ J<|O _ J<|O _ J<|O _ J<|O _ J<|J8 (r:=min b.2.1 h.Lo.X) J J (by simp only [J6];rfl)<|O _ J<|O _ J<|O _ J<|O _ J<|O _ J<|O _ J<|J8 (r:=min b.2.2.1 h.Lo.Y) J J (by simp only [J6];rfl)<|O _ J<|O _ J<|O _ J<|O _ J<|O _ J<|O _ J<|J8 (r:=min b.2.2.2.1 h.Lo.Z) J J (by simp only [J6];rfl)<|O _ J<|O _ J<|Qd 1 _ J<|q8<|Q5<|O _ J<|O _ J<|O _ J<|O _ J ?_;refine O _ J<|O _ J<|J7 (r:=max b.2.2.2.2.1 h.Hi.X) J J (by simp only [J5];rfl)<|O _ J<|O _ J<|O _ J<|O _ J<|O _ J<|O _ J<|J7 (r:=max b.2.2.2.2.2.1 h.Hi.Y) J J (by simp only [J5];rfl)<|O _ J<|O _ J<|O _ J<|O _ J<|O _ J<|O _ J<|J7 (r:=max b.2.2.2.2.2.2 h.Hi.Z) J J (by simp only [J5];rfl)<|O _ J<|O _ J<|Qd 1 _ J<|Q4<|Qp<|Q5<|O _ J<|U J<|Q4<|⟨_,qr f,wkA [(0,0),(1,1)] [] []⟩
  refine Qh ?_;refine ⟨_,qr f,fun hm=>?_⟩;subst hm;exact ⟨_,J,wkA [(0,0),(1,1)] [] []⟩
 intro c hb;subst hb;refine qc<|O _ J<|Qd 0 _ J<|qa J<|qu ?_;cases a;exact Q7 _ J
theorem qqb (a : Int) (b : Int) (f : Int) (g : qf) (h : Int) (j : qh) (r : Int × Int) (c : q8k a b f g h j = some r) : Pure Tryz.prog tab 50 [qd a,qd b,qd f,.box (Q6 g),.box [qd h],.box (Qs j)] (.tup [qd r.1,qd r.2]):=by
 unfold q8k at c;refine Qk Tryz.func50 J qi qi J<|qc<|qa J<|qa J<|qt<|O _ J<|O _ J<|O _ J<|O _ J<|O _ J<|U J<|O _ J<|O _ J<|O _ J<|q7 c fun d k c=>qxf k J J J<|qa J<|qt<|U J<|U J<|U J<|O _ J<|J8 (r:=min a (w64 (a - d))) J J (by simp only [J6];rfl)<|O _ J<|J7 (r:=max (w64 ((min a (w64 (a - d))) - 2)) (-510)) J J (by simp only [J5];rfl)<|U J<|U J<|U J<|O _ J<|J7 (r:=max b (w64 (b - d))) J J (by simp only [J5];rfl)<|O _ J<|J8 (r:=min (w64 ((max b (w64 (b - d))) + 2)) 510) J J (by simp only [J6];rfl)<|qa J<|qa J<|qu ?_;cases c;exact Q7 _ J
theorem qqd (k : List qf) (l : Int) (c : qh) (r : List ql × Int) (b : q3s k l c = some r) : Pure Tryz.prog tab 18 [.sl 6 (k.map Q6),qd l,.agg (Qs c)] (.tup [.sl 4 (r.1.map Qg),qd r.2]):=by
 unfold q3s at b;refine Qk Tryz.func18 J qi qi J<|qc<|Qj _ _ J<|Qj _ _ J<|qa J<|qa J<|q8<|qg<|qc<|U J<|O _ J<|q7 b fun r1 h2 b=>Q1 (qek k c r1 h2) J<|qa J<|qt<|U J<|O _ J<|q8 ?_;refine qn J b (fun _ b=>?_) (fun _ b=>?_)
 ·refine qc<|U J<|qa J<|qa J<|qu ?_;obtain rfl:=qw b;exact finD (.inr J) J J (Zo (.cons (.nil _) (.cons (.refl _) .nil)))
 refine qp<|qg<|qc<|O _ J<|O _ J<|q7 b fun c3 y b=>?_;refine Q9 4 (fun A st=>∃ j5 j6 j7,st = A [(38,Q2 c3),(37,j7),(36,j6),(35,j5)]) ?_ ?_
 ·refine Qa J J y (fun y=>?_) (fun y=>?_)
  ·refine qb J<|qb J<|O _ J<|q8 ?_;cases y;exact ⟨_,_,_,J⟩
  refine O _ J<|O _ J<|O _ J<|q8 ?_;cases y;exact ⟨_,_,_,J⟩
 rintro _ ⟨j5,j6,j7,rfl⟩;refine q7 b fun c8 z b=>?_;refine Q9 5 (fun A st=>∃ al am an ao,st = A [(43,Q2 c8),(42,ao),(41,an),(40,am),(39,al)]) ?_ ?_
 ·refine Qa J J z (fun z=>?_) (fun z=>?_)
  ·refine qb J<|qb J<|qb J<|O _ J<|q8 ?_;cases z;exact ⟨_,_,_,_,J⟩
  refine O _ J<|O _ J<|O _ J<|O _ J<|q8 ?_;cases z;exact ⟨_,_,_,_,J⟩
 rintro _ ⟨al,am,an,ao,rfl⟩;refine q8 ?_;refine qn J b (fun _ b=>?_) (fun _ b=>?_)
 ·refine qc<|qa J<|qa J<|qu ?_;obtain rfl:=qw b;exact finD (.inr J) J J (Zo (.cons (.nil _) (.cons (.refl _) .nil)))
 refine qp<|qc<|U J<|q7 b fun m ce b=>Q1 (q14y k m ce) J<|U J<|O _ J<|O _ J<|Qr J J<|Qd 2 _ J<|qa J<|q8<|qg<|qc<|U J<|O _ J<|q7 b fun cf aa b=>?_;refine Q9 7 (fun A st=>∃ ap aq ar au av aw,st = A [(57,Q2 cf),(56,aw),(55,av),(54,au),(53,ar),(52,aq),(51,ap)]) ?_ ?_
 ·refine Qa J J aa (fun aa=>?_) (fun aa=>?_)
  ·refine qb J<|qb J<|qb J<|qb J<|qb J<|O _ J<|q8 ?_;cases aa;exact ⟨_,_,_,_,_,_,J⟩
  refine O _ J<|O _ J<|O _ J<|O _ J<|O _ J<|O _ J<|q8 ?_;cases aa;exact ⟨_,_,_,_,_,_,J⟩
 rintro _ ⟨ap,aq,ar,au,av,aw,rfl⟩;refine q8 ?_;refine qn J b (fun _ b=>?_) (fun _ b=>?_)
 ·refine qc<|qa J<|qa J<|qu ?_;obtain rfl:=qw b;exact finD (.inr J) J J (Zo (.cons (.nil _) (.cons (.refl _) .nil)))
 refine qp<|qc<|O _ J<|qa J<|qt<|U J<|O _ J<|O _ J<|O _ J<|O _ J<|O _ J<|O _ J<|O _ J<|O _ J<|q7 b fun n cg b=>q37 [q9 m.1.Lo.X,q9 m.1.Hi.X,q9 c.X,.ref 2 6 0 0,.ref 0 1 0 0,.ref 1 3 0 0] (qqb m.1.Lo.X m.1.Hi.X c.X m.1 l c n cg) J J J (.inr J)<|U J<|O _ J<|O _ J<|qa J<|qa J<|qt<|U J<|O _ J<|O _ J<|O _ J<|O _ J<|O _ J<|O _ J<|O _ J<|O _ J<|q7 b fun f ch b=>q37 [q9 m.1.Lo.Y,q9 m.1.Hi.Y,q9 c.Y,.ref 2 6 0 0,.ref 0 1 0 0,.ref 1 3 0 0] (qqb m.1.Lo.Y m.1.Hi.Y c.Y m.1 l c f ch) J J J (.inr J)<|U J<|O _ J<|O _ J<|qa J<|qa J<|qt<|qa J ?_;refine qt<|qa J<|qt<|U J<|qa J<|qa J<|q8<|qg<|qc<|U J<|qa J<|q8<|q7 b fun ax ci b=>?_;refine Qo (fun ab=>ab = ax) (fun ab=>⟨[(16,.hs 0 4 0 ab.length)],[(0,.dat 4 (ab.map Qg))],1⟩) qe ?_ ?_
 ·refine Qm (q3t n f l c k) (fun a=>⟨[(0,.d (.sl 6 (k.map Q6))),(4,.ref 0 1 0 0),(5,.ref 1 3 0 0),(13,q9 n.2),(14,q9 f.1),(15,q9 f.2),(16,.hs 2 4 0 a.2.2.1.length),(17,.hs 3 2 0 a.2.2.2.length),(18,q9 a.1),(19,q9 a.2.1),(20,q9 a.2.1)],[(0,.dat 1 [[qd l]]),(1,.dat 3 [(Qs c)]),(2,.dat 4 (a.2.2.1.map Qg)),(3,.dat 2 (a.2.2.2.map Qv))],4⟩) _ ax ci (wkA [(0,0),(1,1)] [] [2,3]) ?_;intro a cz j;unfold q3t at j;refine qg<|qc<|U J<|U J<|O _ J<|q8 ?_;refine qn J j (fun _ j=>?_) (fun _ j=>?_)
  ·refine qp<|qg<|Qc<|qc<|qa J<|q8<|qg<|qc<|U J<|qa J<|q8<|q7 j fun ay cj j=>?_;refine Qo (fun h=>h = ay) (fun h=>⟨[(0,.d (.sl 6 (k.map Q6))),(4,.ref 0 1 0 0),(5,.ref 1 3 0 0),(13,q9 n.2),(14,q9 f.1),(15,q9 f.2),(16,.hs 2 4 0 a.2.2.1.length),(17,.hs 3 2 0 a.2.2.2.length),(18,q9 a.1),(19,q9 a.2.1),(20,q9 a.2.1),(21,.hs 4 2 0 h.length)],[(0,.dat 1 [[qd l]]),(1,.dat 3 [(Qs c)]),(2,.dat 4 (a.2.2.1.map Qg)),(3,.dat 2 (a.2.2.2.map Qv)),(4,.dat 2 (h.map Qv))],5⟩) qe ?_ ?_
   ·refine Qm (q3u f a l c k) (fun x=>⟨[(0,.d (.sl 6 (k.map Q6))),(4,.ref 0 1 0 0),(5,.ref 1 3 0 0),(13,q9 n.2),(14,q9 f.1),(15,q9 f.2),(16,.hs 2 4 0 a.2.2.1.length),(17,.hs 3 2 0 a.2.2.2.length),(18,q9 a.1),(19,q9 a.2.1),(20,q9 a.2.1),(21,.hs 4 2 0 x.2.length),(22,q9 x.1)],[(0,.dat 1 [[qd l]]),(1,.dat 3 [(Qs c)]),(2,.dat 4 (a.2.2.1.map Qg)),(3,.dat 2 (a.2.2.2.map Qv)),(4,.dat 2 (x.2.map Qv))],5⟩) _ ay cj (wkA [(0,0),(1,1),(2,2),(3,3)] [] [4]) ?_;intro x da p;unfold q3u at p;refine qg<|qc<|U J<|U J<|O _ J<|q8 ?_;refine qn J p (fun _ p=>?_) (fun _ p=>?_)
    ·refine qp<|qg<|q7 p fun ck g p=>?_;refine Qo (fun ac=>ac = ck) (fun ac=>⟨[(0,.d (.sl 6 (k.map Q6))),(4,.ref 0 1 0 0),(5,.ref 1 3 0 0),(13,q9 n.2),(14,q9 f.1),(15,q9 f.2),(16,.hs 2 4 0 a.2.2.1.length),(17,.hs 3 2 0 a.2.2.2.length),(18,q9 a.1),(19,q9 a.2.1),(20,q9 a.2.1),(21,.hs 4 2 0 ac.length),(22,q9 x.1)],[(0,.dat 1 [[qd l]]),(1,.dat 3 [(Qs c)]),(2,.dat 4 (a.2.2.1.map Qg)),(3,.dat 2 (a.2.2.2.map Qv)),(4,.dat 2 (ac.map Qv))],5⟩) qe ?_ ?_
     ·refine qg<|qc<|U J<|O _ J<|O _ J<|U J<|O _ J<|O _ J<|O _ J<|O _ J<|O _ J<|O _ J<|O _ J<|U J<|q7 g fun cl cm g=>Q1 (qqg ({p_:=({X:=w64 ((w64 (2 * a.2.1)) + 1),Y:=w64 ((w64 (2 * x.1)) + 1),Z:=w64 (2 * l)} : qh),d_:=c} : Yw) k cl cm) J<|q8 ?_;refine qn J g (fun _ g=>?_) (fun _ g=>?_)
      ·refine Qh ?_;obtain rfl:=qw g;exact ⟨_,J,wkA [(0,0),(1,1),(2,2),(3,3),(4,4)] [] []⟩
      refine qp<|qc<|U J<|O _ J<|qa J<|qt<|U J<|O _ J<|q7 g fun cn t g=>?_;refine Q9 10 (fun A st=>∃ az ba bb bc bd be bf bg bh,st = A [(124,Q2 cn),(123,bh),(122,bg),(121,bf),(120,be),(119,bd),(118,bc),(117,bb),(116,ba),(115,az)]) ?_ ?_
      ·refine Qa J J t (fun t=>?_) (fun t=>?_)
       ·refine U J<|U J<|O _ J<|q7 t fun dc bi t=>Q0 bi J J<|O _ J<|Qf _ bi J<|U J<|O _ J<|O _ J<|q8 ?_;cases t;exact ⟨_,_,_,_,_,_,_,_,_,J⟩
       refine qb J<|qb J<|qb J<|qb J<|qb J<|qb J<|qb J<|qb J<|O _ J<|q8 ?_;cases t;exact ⟨_,_,_,_,_,_,_,_,_,J⟩
      rintro _ ⟨az,ba,bb,bc,bd,be,bf,bg,bh,rfl⟩;refine q8 ?_;refine qn J g (fun _ g=>?_) (fun _ g=>?_)
      ·refine Q5<|U J<|U J<|O _ J<|q7 g fun bj bk g=>Q0 bk J J<|O _ J<|Qf _ bk J<|O _ J<|q7 g fun co bl g=>Q0 bl J J<|O _ J<|Qz (ds:=[qd (w64 (bj.Hi + 1))]) ({Lo:=co.Lo,Hi:=w64 (bj.Hi + 1)} : qo) bl J J J J J J J J (leb J) J<|Q4 ?_;obtain rfl:=qw g;exact ⟨_,J,wkE [(0,0),(1,1),(2,2),(3,3),(4,4)] [] [] J ⟨qm J,⟨_,J,.ref J Q3 (ltd J)⟩,⟨_,J,.ref J Q3 (ltd J)⟩,qm J,qm J,qm J,⟨_,J,.hs J Q3 (ltd J)⟩,⟨_,J,.hs J Q3 (ltd J)⟩,qm J,qm J,qm J,⟨_,J,K3 qe J Q3 (ltd J)⟩,qm J,trivial⟩ ⟨Qq J J,Qq J J,Qq J J,Qq J J,Qq J J,trivial⟩⟩
      refine Q5<|U J<|U J<|U J<|O _ J<|O _ J<|Qj _ _ J<|q7 g fun dd cp g=>Yh _ cp J J J J J J J (Yf J J) J J J J<|qa J<|Q4 ?_;obtain rfl:=qw g;exact ⟨_,J,wkA [(0,0),(1,1),(2,2),(3,3),(4,6)] [] []⟩
     intro ac hb;subst hb;refine Q5<|U J<|O _ J<|qa J<|Q4<|⟨_,qr p,wkA [(0,0),(1,1),(2,2),(3,3),(4,4)] [] []⟩
    refine Qh ?_;refine ⟨_,qr p,fun hm=>?_⟩;subst hm;exact ⟨_,J,wkA [(0,0),(1,1),(2,2),(3,3),(4,4)] [] []⟩
   intro h hb;subst hb;refine qg<|qc<|U J<|O _ J<|O _ J<|q7 j fun cq ad j=>?_;refine Q9 5 (fun A st=>∃ bm bn bo bp,st = A [(148,Q2 cq),(147,bp),(146,bo),(145,bn),(144,bm)]) ?_ ?_
   ·refine Qa J J ad (fun ad=>?_) (fun ad=>?_)
    ·refine qb J<|qb J<|qb J<|O _ J<|q8 ?_;cases ad;exact ⟨_,_,_,_,J⟩
    refine U J<|U J<|O _ J<|O _ J<|q8 ?_;cases ad;exact ⟨_,_,_,_,J⟩
   rintro _ ⟨bm,bn,bo,bp,rfl⟩;refine q7 j fun cr u j=>?_;refine Q9 6 (fun A st=>∃ bq br bs bt bu,st = A [(154,Q2 cr),(153,bu),(152,bt),(151,bs),(150,br),(149,bq)]) ?_ ?_
   ·refine Qa J J u (fun u=>?_) (fun u=>?_)
    ·refine qb J<|qb J<|qb J<|qb J<|O _ J<|q8 ?_;cases u;exact ⟨_,_,_,_,_,J⟩
    refine U J<|U J<|q7 u fun cs ct u=>q37 [.hs 3 2 0 a.2.2.2.length,.hs 4 2 0 h.length] (qp8 a.2.2.2 h cs ct) J J (Je (Jb J J) (Je (Jb J J) J)) (.inr J)<|O _ J<|O _ J<|q8 ?_;cases u;exact ⟨_,_,_,_,_,J⟩
   rintro _ ⟨bq,br,bs,bt,bu,rfl⟩;refine q8<|q7 j fun cu v j=>?_;refine Y2 (fun q=>q = cu) (fun q=>⟨[(0,.d (.sl 6 (k.map Q6))),(4,.ref 0 1 0 0),(5,.ref 1 3 0 0),(13,q9 n.2),(14,q9 f.1),(15,q9 f.2),(16,.hs 2 4 0 q.2.length),(18,q9 q.1),(20,q9 a.2.1),(21,.hs 3 2 0 h.length)],[(0,.dat 1 [[qd l]]),(1,.dat 3 [(Qs c)]),(2,.dat 4 (q.2.map Qg)),(3,.dat 2 (h.map Qv))],4⟩) qe ?_ ?_
   ·refine qn J v (fun _ v=>?_) (fun _ v=>?_)
    ·refine qc<|U J<|O _ J<|qa J<|qt<|U J<|O _ J<|U J<|q8<|q7 v fun cv cw v=>Qc<|Qm (q8l h a) (fun af=>⟨[(0,.d (.sl 6 (k.map Q6))),(4,.ref 0 1 0 0),(5,.ref 1 3 0 0),(13,q9 n.2),(14,q9 f.1),(15,q9 f.2),(16,.hs 2 4 0 af.2.length),(18,q9 (a.2.2.1.length : Int)),(20,q9 a.2.1),(21,.hs 3 2 0 h.length),(157,.hs 3 2 0 h.length),(158,q9 (h.length : Int)),(159,q9 af.1)],[(0,.dat 1 [[qd l]]),(1,.dat 3 [(Qs c)]),(2,.dat 4 (af.2.map Qg)),(3,.dat 2 (h.map Qv))],4⟩) _ cv cw (wkA [(0,0),(1,1),(2,2),(3,4)] [] []) ?_;intro af de o;unfold q8l at o;refine qc<|O _ J<|q8<|qg ?_;refine qn J o (fun _ o=>?_) (fun _ o=>?_)
     ·refine qp<|qg<|Qc<|qc<|q7 o fun df bv o=>Q0 bv J J<|Qf _ bv J<|Qr J J<|Qd 4 _ J<|q8<|Q5<|U J<|U J<|O _ J<|O _ J<|U J<|O _ J<|O _ J<|O _ J<|Qj _ _ J<|q7 o fun dg cx o=>Yh _ cx J J J J J J J (Yf J J) J J J J<|qa J<|Q4<|Qp<|Q5<|O _ J<|U J<|Q4<|⟨_,qr o,wkA [(0,0),(1,1),(2,6),(3,3)] [] []⟩
     refine Qh ?_;refine ⟨_,qr o,fun hm=>?_⟩;subst hm;obtain rfl:=qw v;exact ⟨_,J,wkA [(0,0),(1,1),(2,2),(3,3)] [] []⟩
    refine qp<|Ql ?_;obtain rfl:=qw v;exact ⟨_,J,wkA [(0,0),(1,1),(2,2),(3,4)] [] []⟩
   intro q hb;subst hb;refine qg<|qc<|U J<|qa J<|q8<|q7 j fun bw cy j=>?_;refine Qo (fun ae=>ae = bw) (fun ae=>⟨[(0,.d (.sl 6 (k.map Q6))),(4,.ref 0 1 0 0),(5,.ref 1 3 0 0),(13,q9 n.2),(14,q9 f.1),(15,q9 f.2),(16,.hs 2 4 0 ae.length),(18,q9 q.1),(20,q9 a.2.1),(21,.hs 3 2 0 h.length)],[(0,.dat 1 [[qd l]]),(1,.dat 3 [(Qs c)]),(2,.dat 4 (ae.map Qg)),(3,.dat 2 (h.map Qv))],4⟩) qe ?_ ?_
   ·refine Qm (q1h a) (fun ag=>⟨[(0,.d (.sl 6 (k.map Q6))),(4,.ref 0 1 0 0),(5,.ref 1 3 0 0),(13,q9 n.2),(14,q9 f.1),(15,q9 f.2),(16,.hs 2 4 0 ag.2.length),(18,q9 q.1),(20,q9 a.2.1),(21,.hs 3 2 0 h.length),(26,q9 ag.1)],[(0,.dat 1 [[qd l]]),(1,.dat 3 [(Qs c)]),(2,.dat 4 (ag.2.map Qg)),(3,.dat 2 (h.map Qv))],4⟩) _ bw cy (wkA [(0,0),(1,1),(2,2),(3,3)] [] []) ?_;intro ag dh s;unfold q1h at s;refine qg<|qc<|U J<|U J<|O _ J<|O _ J<|q8 ?_;refine qn J s (fun _ s=>?_) (fun _ s=>?_)
    ·refine qp<|qg<|Qc<|Q5<|U J<|U J<|U J<|O _ J<|q7 s fun ah bz s=>Q0 bz J J<|O _ J<|Qz (ds:=[qd (w64 (a.2.1 + 1))]) ({X0:=ah.X0,Y0:=ah.Y0,X1:=w64 (a.2.1 + 1),Y1:=ah.Y1} : ql) bz J J J J J J J J (leb J) J<|Q4<|Qp<|Q5<|U J<|O _ J<|qa J<|Q4<|⟨_,qr s,wkE [(0,0),(1,1),(2,2),(3,3)] [] [] J ⟨qm J,⟨_,J,.ref J Q3 (ltd J)⟩,⟨_,J,.ref J Q3 (ltd J)⟩,qm J,qm J,qm J,⟨_,J,K3 qe J Q3 (ltd J)⟩,qm J,qm J,⟨_,J,.hs J Q3 (ltd J)⟩,qm J,trivial⟩ ⟨Qq J J,Qq J J,Qq J J,Qq J J,trivial⟩⟩
    refine Qh ?_;refine ⟨_,qr s,fun hm=>?_⟩;subst hm;exact ⟨_,J,wkA [(0,0),(1,1),(2,2),(3,3)] [] []⟩
   intro ae hb;subst hb;refine Q5<|U J<|U J<|O _ J<|qa J<|qa J<|Q4<|Qp<|Q5<|U J<|O _ J<|qa J<|Q4<|⟨_,qr j,wkA [(0,0),(1,1),(2,2),(3,3)] [] []⟩
  refine Qh ?_;refine ⟨_,qr j,fun hm=>?_⟩;subst hm;exact ⟨_,J,wkA [(0,2)] [] []⟩
 intro ab hb;subst hb;refine qg<|qc<|U J<|O _ J<|O _ J<|q8 ?_;refine qn J b (fun _ b=>?_) (fun _ b=>?_)
 ·refine qc<|qa J<|qa J<|qu ?_;obtain rfl:=qw b;exact finD (.inr J) J J (Zo (.cons (.nil _) (.cons (.refl _) .nil)))
 refine qp<|qc<|U J<|qa J<|qa J<|qu ?_;obtain rfl:=qw b;exact finD (.inr J) J (qeq (q1a (Jb J J) (q1a J J))) (.refl _)
theorem q16a (a : Yw) (r : Bool) (c : qbp a = some r) : Pure Tryz.prog tab 56 [.agg [qd a.p_.X,qd a.p_.Y,qd a.p_.Z,qd a.d_.X,qd a.d_.Y,qd a.d_.Z]] (.bool r):=by
 unfold qbp at c;refine Qk Tryz.func56 J qi qi J<|qc<|Qj _ _ J<|qa J<|qt<|O _ J<|O _ J<|q7 c fun h u c=>Q1 (q8m a.p_ h u) J<|Qr J J<|Qd 1 _ J<|q8<|qg<|qc<|O _ J<|O _ J<|q7 c fun f v c=>Q1 (q8m a.d_ f v) J<|U J<|q8<|q7 c fun k x c=>?_;refine Qo (fun j=>.inl j = k) (fun j=>⟨[(1,.ref 0 6 0 0)],[(0,.dat 6 [[qd a.p_.X,qd a.p_.Y,qd a.p_.Z,qd a.d_.X,qd a.d_.Y,qd a.d_.Z]])],1⟩) qe ?_ ?_
 ·refine Qm (qen f h) (fun l=>⟨[(1,.ref 0 6 0 0),(3,.ref 1 3 0 0),(11,.d (.agg [qd f.1,qd f.2.1,qd f.2.2])),(12,q9 l)],[(0,.dat 6 [[qd a.p_.X,qd a.p_.Y,qd a.p_.Z,qd a.d_.X,qd a.d_.Y,qd a.d_.Z]]),(1,.dat 3 [[h.1,h.2.1,h.2.2].flatMap (eI .i64)])],2⟩) _ k x (wkA [(0,0),(1,1)] [] []) ?_;intro l ae b;unfold qen at b;refine qc<|O _ J<|q8<|qg ?_;refine qn J b (fun _ b=>?_) (fun _ b=>?_)
  ·refine qp<|qg<|Qc<|qc<|U J<|q7 b fun y z b=>qd6 (enc:=(eI .i64)) [f.1,f.2.1,f.2.2] (q9 y) z (fun _=>rfl) J J J J J J<|qa J<|qa J<|qt<|U J<|O _ J<|q7 b fun aa g b=>?_;refine Q9 7 (fun A st=>∃ m n o p q s,st = A [(24,Q2 aa),(23,s),(22,q),(21,p),(20,o),(19,n),(18,m)]) ?_ ?_
   ·refine Qa J J g (fun g=>?_) (fun g=>?_)
    ·refine U J<|q7 g fun ab t g=>q23 t J J J J J<|q36 (enc:=(eI .i64)) (q9 ab) t (fun _=>rfl) J J J J J J<|O _ J<|O _ J<|O _ J<|q8 ?_;cases g;exact ⟨_,_,_,_,_,_,J⟩
    refine qb J<|qb J<|qb J<|qb J<|qb J<|O _ J<|q8 ?_;cases g;exact ⟨_,_,_,_,_,_,J⟩
   rintro _ ⟨m,n,o,p,q,s,rfl⟩;refine q8 ?_;refine qn J b (fun _ b=>?_) (fun _ b=>?_)
   ·refine qc<|qa J<|qu ?_;refine ⟨_,qr b,fun hm=>?_⟩;subst hm;cases c;exact Q7 _ J
   refine qp<|Ql<|Qp<|Q5<|O _ J<|U J<|Q4<|⟨_,qr b,wkA [(0,0),(1,1)] [] []⟩
  refine Qh ?_;refine ⟨_,qr b,fun hm=>?_⟩;subst hm;exact ⟨_,J,wkA [(0,0)] [] []⟩
 intro j hb;subst hb;refine qc<|O _ J<|O _ J<|q7 c fun ac ad c=>Q1 (qem a.p_ 240 ac ad) J<|qa J<|qu ?_;cases c;exact Q7 _ J
theorem qzm (b : qh) (f : qh) (r : Bool) (c : q9y b f = some r) : Pure Tryz.prog tab 29 [.agg (Qs b),.agg (Qs f)] (.bool r):=by
 unfold q9y at c;refine Qk Tryz.func29 J qi qi J<|qc<|Qj _ _ J<|Qj _ _ J<|qa J<|q8<|qg<|qc<|qa J<|q8<|q7 c fun j q c=>?_;refine Qo (fun h=>.inl h = j) (fun h=>⟨[(2,.ref 0 3 0 0)],[(0,.dat 3 [(Qs b)])],1⟩) qe ?_ ?_
 ·refine Qm (qdq f b) (fun g=>⟨[(2,.ref 0 3 0 0),(3,.ref 1 3 0 0),(5,q9 g)],[(0,.dat 3 [(Qs b)]),(1,.dat 3 [(Qs f)])],2⟩) _ j q (wkA [(0,0),(1,1)] [] []) ?_;intro g aa a;unfold qdq at a;refine qg<|qc<|U J<|O _ J<|q8 ?_;refine qn J a (fun _ a=>?_) (fun _ a=>?_)
  ·refine qp<|qg<|Qc<|qc<|O _ J<|U J<|q7 a fun s t a=>Q1 (qoa f g s t) J<|O _ J<|q7 a fun u d a=>?_;refine Q9 7 (fun A st=>∃ k l m n o p,st = A [(20,Q2 u),(19,p),(18,o),(17,n),(16,m),(15,l),(14,k)]) ?_ ?_
   ·refine Qa J J d (fun d=>?_) (fun d=>?_)
    ·refine O _ J<|U J<|q7 d fun v x d=>Q1 (qoa b g v x) J<|O _ J<|O _ J<|O _ J<|q8 ?_;cases d;exact ⟨_,_,_,_,_,_,J⟩
    refine qb J<|qb J<|qb J<|qb J<|qb J<|O _ J<|q8 ?_;cases d;exact ⟨_,_,_,_,_,_,J⟩
   rintro _ ⟨k,l,m,n,o,p,rfl⟩;refine q8 ?_;refine qn J a (fun _ a=>?_) (fun _ a=>?_)
   ·refine qc<|qa J<|qu ?_;refine ⟨_,qr a,fun hm=>?_⟩;subst hm;cases c;exact Q7 _ J
   refine qp<|Ql<|Qp<|Q5<|U J<|O _ J<|qa J<|Q4<|⟨_,qr a,wkA [(0,0),(1,1)] [] []⟩
  refine Qh ?_;refine ⟨_,qr a,fun hm=>?_⟩;subst hm;exact ⟨_,J,wkA [(0,0)] [] []⟩
 intro h hb;subst hb;refine qc<|O _ J<|q7 c fun y z c=>Q1 (q72 b 240 y z) J<|qa J<|qu ?_;cases c;exact Q7 _ J
theorem qof (b : Int) (r : Int) (a : q75 b = some r) : Pure Tryz.prog tab 98 [qd b] (.int .u64 r):=by
 unfold q75 at a;refine Qk Tryz.func98 J qi qi J<|qc<|qa J<|q8<|qg<|qc<|U J<|O _ J<|q8 ?_;refine qn J a (fun _ a=>?_) (fun _ a=>?_)
 ·refine qc<|U J<|O _ J<|O _ J<|qa J<|qu ?_;cases a;exact Q7 _ J
 refine qp<|qc<|U J<|O _ J<|qa J<|qu ?_;cases a;exact Q7 _ J
theorem qzr (g : Int) (h : Int) (r : Int) (b : qa1 g h = some r) : Pure Tryz.prog tab 99 [.int .u64 g,.int .u64 h] (.int .u64 r):=by
 unfold qa1 at b;refine Qk Tryz.func99 J qi qi J<|qc<|qa J<|q8<|qg<|q7 b fun j k b=>?_;refine Qo (fun c=>c = j) (fun c=>⟨[(0,.d (.int .u64 c))],[],0⟩) qe ?_ ?_
 ·refine Qm (q74) (fun f=>⟨[(0,.d (.int .u64 f.1)),(1,.d (.int .u64 f.2))],[],0⟩) _ j k (wkA [] [] []) ?_;intro f m a;unfold q74 at a;refine qg<|qc<|U J<|O _ J<|q8 ?_;refine qn J a (fun _ a=>?_) (fun _ a=>?_)
  ·refine qp<|Qc<|Qi [q6,q6,q6,q6,q6,q6] qi<|U J<|U J<|U J<|q7 a fun n l a=>qxg l J J J<|qa J<|qa J<|Q4<|Qp<|Ql<|⟨_,qr a,wkA [] [] []⟩
  refine Qh ?_;refine ⟨_,qr a,fun hm=>?_⟩;subst hm;exact ⟨_,J,wkA [] [] []⟩
 intro c hb;subst hb;refine qc<|U J<|qa J<|qu ?_;cases b;exact Q7 _ J
theorem qzp (f : Int) (g : Int) (r : Yk × Int) (a : qa0 f g = some r) : Pure Tryz.prog tab 60 [qd f,qd g] (.tup [.agg (qkj r.1),qd r.2]):=by
 unfold qa0 at a;refine Qk Tryz.func60 J qi qi J<|qc<|Qr J J<|qa J<|q8<|qg<|qc<|U J<|O _ J<|q8 ?_;refine qn J a (fun _ a=>?_) (fun _ a=>?_)
 ·refine qc<|O _ J<|Qd 0 _ J<|qa J<|qu ?_;cases a;exact Q7 _ J
 refine qp<|qc<|U J<|q7 a fun h n a=>Q1 (qof f h n) J<|U J<|q7 a fun j o a=>Q1 (qof g j o) J<|qa J<|qa J<|qt<|U J<|U J<|q7 a fun p q a=>Q1 (qzr h j p q) J<|qa J<|q8<|qg<|Qi [q6,q6,q6,q6,q6,q6,q6,q6] qi<|U J<|U J<|q7 a fun y s a=>qnl s J J J<|U J<|U J<|q7 a fun t u a=>qnl u J J J<|qa J<|qa J<|q8<|qg<|qc<|U J<|O _ J<|q7 a fun v b a=>?_;refine Q9 4 (fun A st=>∃ k l m,st = A [(31,Q2 v),(30,m),(29,l),(28,k)]) ?_ ?_
 ·refine Qa J J b (fun b=>?_) (fun b=>?_)
  ·refine qb J<|qb J<|O _ J<|q8 ?_;cases b;exact ⟨_,_,_,J⟩
  refine U J<|O _ J<|O _ J<|q8 ?_;cases b;exact ⟨_,_,_,J⟩
 rintro _ ⟨k,l,m,rfl⟩;refine q8 ?_;refine qn J a (fun _ a=>?_) (fun _ a=>?_)
 ·refine qc<|O _ J<|Qd 0 _ J<|qa J<|qu ?_;cases a;exact Q7 _ J
 refine qp<|qc<|U J<|O _ J<|U J<|O _ J<|O _ J<|Qr J J<|Qd 1 _ J<|q8<|qg<|qc<|U J<|O _ J<|U J<|O _ J<|O _ J<|q8<|q7 a fun x c a=>?_;refine Y2 (fun d=>d = x) (fun d=>⟨[(4,.ref 0 2 0 0),(9,.ref 1 2 0 0)],[(0,.dat 2 [[qd 0,qd 0]]),(1,.dat 2 [[qd d,qd (w64 t)]])],2⟩) qe ?_ ?_
 ·refine qn J c (fun _ c=>?_) (fun _ c=>?_)
  ·refine Q5<|O _ J<|O _ J<|O _ J<|O _ J<|Qd 1 _ J<|Q4 ?_;obtain rfl:=qw c;exact ⟨_,J,wkA [(0,0),(1,1)] [] []⟩
  refine qp<|Ql ?_;obtain rfl:=qw c;exact ⟨_,J,wkA [(0,0),(1,1)] [] []⟩
 intro d hb;subst hb;refine qc<|O _ J<|Qd 0 _ J<|qa J<|qu ?_;cases a;exact Q7 _ J
theorem qim (g : List qf) (c : qh) (b : qh) (r : Yk × Int) (a : q3q g c b = some r) : Pure Tryz.prog tab 23 [.sl 6 (g.map Q6),.agg (Qs c),.agg (Qs b)] (.tup [.agg (qkj r.1),qd r.2]):=by
 unfold q3q at a;refine Qk Tryz.func23 J qi qi J<|qc<|Qj _ _ J<|Qj _ _ J<|Qr J J<|qa J<|q8<|qg<|qc<|U J<|O _ J<|q7 a fun r1 h2 a=>Q1 (qek g b r1 h2) J<|qa J<|qt<|U J<|O _ J<|q8 ?_;refine qn J a (fun _ a=>?_) (fun _ a=>?_)
 ·refine qc<|O _ J<|U J<|Qd 2 _ J<|qa J<|qu ?_;cases a;exact Q7 _ J
 refine qp<|qc<|O _ J<|O _ J<|O _ J<|Qr J J<|Qd 3 _ J<|q8<|qg<|qc<|O _ J<|q7 a fun r3 h4 a=>Q1 (q16a ({p_:=c,d_:=b} : Yw) r3 h4) J<|O _ J<|q8 ?_;refine qn J a (fun _ a=>?_) (fun _ a=>?_)
 ·refine qc<|O _ J<|Qd 2 _ J<|qa J<|qu ?_;cases a;exact Q7 _ J
 refine qp<|qc<|Qr J J<|qt<|qa J<|qt<|O _ J<|O _ J<|qa J<|q8<|qg<|qc<|U J<|Qx J<|U J<|q8<|q7 a fun o ai a=>?_;refine Qo (fun h=>h = o) (fun h=>⟨[(6,.ref 0 2 0 0),(10,.ref 1 2 0 0),(11,Q2 h.1)],[(0,.dat 2 [[qd 0,qd 0]]),(1,.dat 2 [[qd h.2.1,qd h.2.2]])],2⟩) qe ?_ ?_
 ·refine Qm (q2l g c b) (fun j=>⟨[(6,.ref 0 2 0 0),(10,.ref 1 2 0 0),(11,Q2 j.1),(12,.d (.bfn 58 [.agg [qd c.X,qd c.Y,qd c.Z,qd b.X,qd b.Y,qd b.Z]])),(33,.d (.sl 6 (g.map Q6))),(34,q9 (g.length : Int)),(35,q9 j.2.1)],[(0,.dat 2 [[qd 0,qd 0]]),(1,.dat 2 [[qd j.2.2.1,qd j.2.2.2]])],2⟩) _ o ai (wkA [(0,2),(1,4)] [] []) ?_;intro j av k;unfold q2l at k;refine qc<|O _ J<|q8<|qg ?_;refine qn J k (fun _ k=>?_) (fun _ k=>?_)
  ·refine qp<|qg<|q7 k fun aj f k=>?_;refine Qo (fun n=>n = aj) (fun n=>⟨[(6,.ref 0 2 0 0),(10,.ref 1 2 0 0),(11,Q2 n.1),(12,.d (.bfn 58 [.agg [qd c.X,qd c.Y,qd c.Z,qd b.X,qd b.Y,qd b.Z]])),(33,.d (.sl 6 (g.map Q6))),(34,q9 (g.length : Int)),(35,q9 j.2.1)],[(0,.dat 2 [[qd 0,qd 0]]),(1,.dat 2 [[qd n.2.1,qd n.2.2]])],2⟩) qe ?_ ?_
   ·refine qc<|q7 f fun ak al f=>Qn al J<|O _ J<|Qr J J<|Qd 2 _ J<|qt<|U J<|O _ J<|q7 f fun p am f=>Q1 (qqh ({p_:=c,d_:=b} : Yw) ak p am) J<|U J<|O _ J<|O _ J<|Qr J J<|Qd 3 _ J<|qa J<|qt<|U J<|q7 f fun an l f=>?_;refine Q9 9 (fun A st=>∃ q s t u v x y z,st = A [(54,Q2 an),(53,z),(52,y),(51,x),(50,v),(49,u),(48,t),(47,s),(46,q)]) ?_ ?_
    ·refine Qa J J l (fun l=>?_) (fun l=>?_)
     ·refine U J<|O _ J<|q7 l fun ao m l=>?_;refine Q9 5 (fun A st=>∃ aa ab ac ad,st = A [(53,Q2 ao),(52,ad),(51,ac),(50,ab),(49,aa)]) ?_ ?_
      ·refine Qa J J m (fun m=>?_) (fun m=>?_)
       ·refine qb J<|qb J<|qb J<|O _ J<|q8 ?_;cases m;exact ⟨_,_,_,_,J⟩
       refine O _ J<|O _ J<|q7 m fun ap aq m=>Q1 (qeo p.1 ({num_:=j.2.2.1,den_:=j.2.2.2} : Kx) ap aq) J<|O _ J<|q8 ?_;cases m;exact ⟨_,_,_,_,J⟩
      rintro _ ⟨aa,ab,ac,ad,rfl⟩;refine O _ J<|q8 ?_;cases l;exact ⟨_,_,_,_,_,_,_,_,J⟩
     refine qb J<|qb J<|qb J<|qb J<|qb J<|qb J<|qb J<|O _ J<|q8 ?_;cases l;exact ⟨_,_,_,_,_,_,_,_,J⟩
    rintro _ ⟨q,s,t,u,v,x,y,z,rfl⟩;refine q8 ?_;refine qn J f (fun _ f=>?_) (fun _ f=>?_)
    ·refine Q5<|O _ J<|Qd 1 _ J<|qa J<|Q4 ?_;obtain rfl:=qw f;exact ⟨_,J,wkA [(0,0),(1,1)] [] []⟩
    refine qp<|Ql ?_;obtain rfl:=qw f;exact ⟨_,J,wkA [(0,0),(1,1)] [] []⟩
   intro n hb;subst hb;refine Q5<|O _ J<|U J<|Q4<|⟨_,qr k,wkA [(0,0),(1,1)] [] []⟩
  refine Qh ?_;refine ⟨_,qr k,fun hm=>?_⟩;subst hm;exact ⟨_,J,wkA [(0,0),(1,1)] [] []⟩
 intro h hb;subst hb;refine qg<|qc<|U J<|O _ J<|q8 ?_;refine qn J a (fun _ a=>?_) (fun _ a=>?_)
 ·refine qc<|O _ J<|Qd 0 _ J<|qa J<|qu ?_;cases a;exact Q7 _ J
 refine qp<|qc<|O _ J<|O _ J<|O _ J<|O _ J<|q7 a fun ar au a=>Q1 (qzp h.2.1 h.2.2 ar au) J<|O _ J<|O _ J<|Qd 0 _ J<|qa J<|qu ?_;cases a;exact Q7 _ J
theorem qmn (a : Int) (b : Int) (c : Int) (d : Int) (f : Int) (g : Int) (r : qf) (h : q6h a b c d f g = some r) : Pure Tryz.prog tab 25 [qd a,qd b,qd c,qd d,qd f,qd g] (.agg (Q6 r)):=by
 unfold q6h at h;refine Qk Tryz.func25 J qi qi J<|qc<|Qr J J<|qt<|U J<|U J<|U J<|O _ J<|U J<|U J<|U J<|O _ J<|O _ J<|Qd 0 _ J<|qu ?_;cases h;exact Q7 _ J
theorem q4j (a : Int) (b : Int) (c : Int) (r : qh) (d : q18 a b c = some r) : Pure Tryz.prog tab 26 [qd a,qd b,qd c] (.agg (Qs r)):=by
 unfold q18 at d;refine Qk Tryz.func26 J qi qi J<|qc<|Qr J J<|qt<|U J<|U J<|U J<|O _ J<|Qd 0 _ J<|qu ?_;cases d;exact Q7 _ J
theorem qmp (a : Int) (b : Int) (c : Int) (d : Int) (r : List ql) (f : q9g a b c d = some r) : Pure Tryz.prog tab 61 [qd a,qd b,qd c,qd d] (.sl 4 (r.map Qg)):=by
 unfold q9g at f;refine Qk Tryz.func61 J qi qi J<|qc<|qa J<|qt<|U J<|U J<|U J<|U J<|O _ J<|Qj _ _ J<|qa J<|qu ?_;obtain rfl:=qw f;exact finD (.inr J) J (Jb J J) (.refl _)
theorem qmm (r : Bool) (a : q6g = some r) : Pure Tryz.prog tab 27 [] (.bool r):=by
 unfold q6g at a;refine Qk Tryz.func27 J qi qi J<|qc<|qa J<|qt<|q7 a fun b h2 a=>Q1 (qmn 0 0 0 1 1 1 b h2) J<|Qj (.hs 0 6 0 [b].length) (.dat 6 ([b].map Q6)) J<|qa J<|q8<|qg ?_;refine Za (st':=⟨[(1,.d (.sl 6 ([b].map Q6)))],[],0⟩) (wkA [] [0] []) ?_ qe;refine Q5<|U J<|q7 a fun t h4 a=>Q1 (q4j (-3) 1 1 t h4) J<|q7 a fun u h6 a=>Q1 (q4j 1 0 0 u h6) J<|q7 a fun r7 h8 a=>Q1 (qim [b] t u r7 h8) J<|U J<|O _ J<|O _ J<|Qr J J<|Qd 0 _ J<|qa J<|qt<|U J<|q7 a fun v bz a=>Q1 (q4j 1 0 1 v bz) J<|q7 a fun ca cb a=>Q1 (qbo [b] v ca cb) J<|U J<|O _ J<|O _ J<|O _ J<|qa J<|qa J<|qa J<|qt<|U J<|O _ J<|q7 a fun x cc a=>Q1 (q4j 1 0 1 x cc) J<|q7 a fun cd ce a=>Q1 (qqa [b] ({X:=0,Y:=0,Z:=0} : qh) 0 x cd ce) J<|U J<|O _ J<|O _ J<|qa J<|qa J<|qt ?_;refine U J<|O _ J<|q7 a fun y cf a=>Q1 (q4j 1 0 1 y cf) J<|q7 a fun cg ch a=>Q1 (qqa [b] ({X:=0,Y:=0,Z:=0} : qh) 4 y cg ch) J<|U J<|O _ J<|O _ J<|qa J<|qa J<|qt<|U J<|q7 a fun z ci a=>Q1 (q4j 0 0 1 z ci) J<|q7 a fun aa cj a=>Q1 (qqd [b] 0 z aa cj) J<|U J<|O _ J<|O _ J<|qa J<|qa J<|qt<|q7 a fun s ck a=>Q1 (qmn 0 0 1 1 1 2 s ck) J<|qh0 (es:=6) ([s].map Q6) J J J J J<|q7 a fun ab cl a=>Q1 (q4j 1 0 1 ab cl) J<|q7 a fun ac cm a=>Q1 (qqd [s] 0 ab ac cm) J<|U J<|O _ J<|O _ J<|qa J<|qa J<|qt<|U J<|O _ J<|q7 a fun cn g a=>?_;refine Q9 5 (fun A st=>∃ ad ae af ag,st = A [(64,Q2 cn),(63,ag),(62,af),(61,ae),(60,ad)]) ?_ ?_
 ·refine Qa J J g (fun g=>?_) (fun g=>?_)
  ·refine O _ J<|O _ J<|O _ J<|O _ J<|q8 ?_;cases g;exact ⟨_,_,_,_,J⟩
  refine qb J<|qb J<|qb J<|O _ J<|q8 ?_;cases g;exact ⟨_,_,_,_,J⟩
 rintro _ ⟨ad,ae,af,ag,rfl⟩;refine q7 a fun co h a=>?_;refine Q9 4 (fun A st=>∃ ah ai aj,st = A [(68,Q2 co),(67,aj),(66,ai),(65,ah)]) ?_ ?_
 ·refine Qa J J h (fun h=>?_) (fun h=>?_)
  ·refine U J<|O _ J<|O _ J<|q8 ?_;cases h;exact ⟨_,_,_,J⟩
  refine qb J<|qb J<|O _ J<|q8 ?_;cases h;exact ⟨_,_,_,J⟩
 rintro _ ⟨ah,ai,aj,rfl⟩;refine q7 a fun cp j a=>?_;refine Q9 4 (fun A st=>∃ ak al am,st = A [(72,Q2 cp),(71,am),(70,al),(69,ak)]) ?_ ?_
 ·refine Qa J J j (fun j=>?_) (fun j=>?_)
  ·refine U J<|O _ J<|O _ J<|q8 ?_;cases j;exact ⟨_,_,_,J⟩
  refine qb J<|qb J<|O _ J<|q8 ?_;cases j;exact ⟨_,_,_,J⟩
 rintro _ ⟨ak,al,am,rfl⟩;refine q7 a fun cq k a=>?_;refine Q9 4 (fun A st=>∃ an ao ap,st = A [(76,Q2 cq),(75,ap),(74,ao),(73,an)]) ?_ ?_
 ·refine Qa J J k (fun k=>?_) (fun k=>?_)
  ·refine U J<|O _ J<|O _ J<|q8 ?_;cases k;exact ⟨_,_,_,J⟩
  refine qb J<|qb J<|O _ J<|q8 ?_;cases k;exact ⟨_,_,_,J⟩
 rintro _ ⟨an,ao,ap,rfl⟩;refine q7 a fun cr l a=>?_;refine Q9 4 (fun A st=>∃ aq ar au,st = A [(80,Q2 cr),(79,au),(78,ar),(77,aq)]) ?_ ?_
 ·refine Qa J J l (fun l=>?_) (fun l=>?_)
  ·refine U J<|O _ J<|O _ J<|q8 ?_;cases l;exact ⟨_,_,_,J⟩
  refine qb J<|qb J<|O _ J<|q8 ?_;cases l;exact ⟨_,_,_,J⟩
 rintro _ ⟨aq,ar,au,rfl⟩;refine q7 a fun cs m a=>?_;refine Q9 3 (fun A st=>∃ av aw,st = A [(83,Q2 cs),(82,aw),(81,av)]) ?_ ?_
 ·refine Qa J J m (fun m=>?_) (fun m=>?_)
  ·refine U J<|O _ J<|q8 ?_;cases m;exact ⟨_,_,J⟩
  refine qb J<|O _ J<|q8 ?_;cases m;exact ⟨_,_,J⟩
 rintro _ ⟨av,aw,rfl⟩;refine q7 a fun ct n a=>?_;refine Q9 4 (fun A st=>∃ ax ay az,st = A [(87,Q2 ct),(86,az),(85,ay),(84,ax)]) ?_ ?_
 ·refine Qa J J n (fun n=>?_) (fun n=>?_)
  ·refine U J<|O _ J<|O _ J<|q8 ?_;cases n;exact ⟨_,_,_,J⟩
  refine qb J<|qb J<|O _ J<|q8 ?_;cases n;exact ⟨_,_,_,J⟩
 rintro _ ⟨ax,ay,az,rfl⟩;refine q7 a fun cu o a=>?_;refine Q9 3 (fun A st=>∃ ba bb,st = A [(90,Q2 cu),(89,bb),(88,ba)]) ?_ ?_
 ·refine Qa J J o (fun o=>?_) (fun o=>?_)
  ·refine U J<|O _ J<|q8 ?_;cases o;exact ⟨_,_,J⟩
  refine qb J<|O _ J<|q8 ?_;cases o;exact ⟨_,_,J⟩
 rintro _ ⟨ba,bb,rfl⟩;refine q7 a fun cv p a=>?_;refine Q9 4 (fun A st=>∃ bc bd be,st = A [(94,Q2 cv),(93,be),(92,bd),(91,bc)]) ?_ ?_
 ·refine Qa J J p (fun p=>?_) (fun p=>?_)
  ·refine U J<|O _ J<|O _ J<|q8 ?_;cases p;exact ⟨_,_,_,J⟩
  refine qb J<|qb J<|O _ J<|q8 ?_;cases p;exact ⟨_,_,_,J⟩
 rintro _ ⟨bc,bd,be,rfl⟩;refine q7 a fun cw c a=>?_;refine Q9 5 (fun A st=>∃ bf bg bh bi,st = A [(99,Q2 cw),(98,bi),(97,bh),(96,bg),(95,bf)]) ?_ ?_
 ·refine Qa J J c (fun c=>?_) (fun c=>?_)
  ·refine U J<|q7 c fun bj cx c=>Q1 (qmp 0 0 1 1 bj cx) J<|q7 c fun cy cz c=>Q1 (qhf aa.1 bj cy cz) J<|O _ J<|q8 ?_;cases c;exact ⟨_,_,_,_,J⟩
  refine qb J<|qb J<|qb J<|O _ J<|q8 ?_;cases c;exact ⟨_,_,_,_,J⟩
 rintro _ ⟨bf,bg,bh,bi,rfl⟩;refine q7 a fun da q a=>?_;refine Q9 4 (fun A st=>∃ bk bl bm,st = A [(103,Q2 da),(102,bm),(101,bl),(100,bk)]) ?_ ?_
 ·refine Qa J J q (fun q=>?_) (fun q=>?_)
  ·refine U J<|O _ J<|O _ J<|q8 ?_;cases q;exact ⟨_,_,_,J⟩
  refine qb J<|qb J<|O _ J<|q8 ?_;cases q;exact ⟨_,_,_,J⟩
 rintro _ ⟨bk,bl,bm,rfl⟩;refine q7 a fun dc f a=>?_;refine Q9 5 (fun A st=>∃ bn bo bp bq,st = A [(108,Q2 dc),(107,bq),(106,bp),(105,bo),(104,bn)]) ?_ ?_
 ·refine Qa J J f (fun f=>?_) (fun f=>?_)
  ·refine U J<|q7 f fun br dd f=>Q1 (qmp (-2) 0 0 1 br dd) J<|q7 f fun de df f=>Q1 (qhf ac.1 br de df) J<|O _ J<|q8 ?_;cases f;exact ⟨_,_,_,_,J⟩
  refine qb J<|qb J<|qb J<|O _ J<|q8 ?_;cases f;exact ⟨_,_,_,_,J⟩
 rintro _ ⟨bn,bo,bp,bq,rfl⟩;refine qa J<|qu ?_;cases a;exact Q7 _ J
theorem qmo (d : List qf) (f : qh) (r : Bool) (c : q6i d f = some r) : Pure Tryz.prog tab 28 [.sl 6 (d.map Q6),.agg (Qs f)] (.bool r):=by
 unfold q6i at c;refine Qk Tryz.func28 J qi qi J<|qc<|Qj _ _ J<|qa J<|qt<|U J<|Qx J<|O _ J<|q7 c fun p a c=>?_;refine Q9 4 (fun A st=>∃ g h j,st = A [(11,Q2 p),(10,j),(9,h),(8,g)]) ?_ ?_
 ·refine Qa J J a (fun a=>?_) (fun a=>?_)
  ·refine U J<|q7 a fun q s a=>Q1 (qzn d q s) J<|O _ J<|q8 ?_;cases a;exact ⟨_,_,_,J⟩
  refine qb J<|qb J<|O _ J<|q8 ?_;cases a;exact ⟨_,_,_,J⟩
 rintro _ ⟨g,h,j,rfl⟩;refine q7 c fun t b c=>?_;refine Q9 6 (fun A st=>∃ k l m n o,st = A [(17,Q2 t),(16,o),(15,n),(14,m),(13,l),(12,k)]) ?_ ?_
 ·refine Qa J J b (fun b=>?_) (fun b=>?_)
  ·refine U J<|O _ J<|q7 b fun u v b=>Q1 (qzk d f u v) J<|O _ J<|O _ J<|q8 ?_;cases b;exact ⟨_,_,_,_,_,J⟩
  refine qb J<|qb J<|qb J<|qb J<|O _ J<|q8 ?_;cases b;exact ⟨_,_,_,_,_,J⟩
 rintro _ ⟨k,l,m,n,o,rfl⟩;refine qa J<|qu ?_;cases c;exact Q7 _ J
theorem q15c (a : qf) (r : Int × Int × Int) (b : qe9 a = some r) : Pure Tryz.prog tab 68 [.agg (Q6 a)] (.tup [qd r.1,qd r.2.1,qd r.2.2]):=by
 unfold qe9 at b;refine Qk Tryz.func68 J qi qi J<|qc<|Qj _ _ J<|qa J<|qa J<|qa J<|q8<|qg<|Qi [q6,q6,q6,q6,qx 0,q6,q6,qx 0,q6,q6,q6,qx 0,q6,q6,qx 0,q6,q6,q6,qx 0,q6,q6,qx 0,q6,q6] qi<|O _ J<|O _ J<|O _ J<|O _ J<|O _ J<|O _ J<|O _ J<|O _ J<|O _ J<|O _ J<|O _ J<|O _ J<|O _ J<|O _ J<|O _ J<|O _ J<|O _ J<|O _ J<|O _ J<|O _ J<|O _ J<|qa J<|qa J<|qa J<|qu ?_;cases b;exact Q7 _ J
theorem q158 (b : qf) (c : qf) (r : Int) (a : qbb b c = some r) : Pure Tryz.prog tab 69 [.agg (Q6 b),.agg (Q6 c)] (qd r):=by
 unfold qbb at a;refine Qk Tryz.func69 J qi qi J<|qc<|Qj _ _ J<|Qj _ _ J<|qa J<|qt<|O _ J<|O _ J<|O _ J<|O _ J<|O _ J<|O _ J<|J8 (r:=min b.Hi.X c.Hi.X) J J (by simp only [J6];rfl)<|O _ J<|O _ J<|O _ J<|O _ J<|O _ J<|O _ J<|J7 (r:=max b.Lo.X c.Lo.X) J J (by simp only [J5];rfl)<|O _ J<|qa J<|qt<|O _ J<|O _ J<|O _ J<|O _ J<|O _ J<|O _ J<|J8 (r:=min b.Hi.Y c.Hi.Y) J J (by simp only [J6];rfl)<|O _ J<|O _ J<|O _ J<|O _ J<|O _ J<|O _ J<|J7 (r:=max b.Lo.Y c.Lo.Y) J J (by simp only [J5];rfl)<|O _ J<|qa J<|qt ?_;refine O _ J<|O _ J<|O _ J<|O _ J<|O _ J<|O _ J<|J8 (r:=min b.Hi.Z c.Hi.Z) J J (by simp only [J6];rfl)<|O _ J<|O _ J<|O _ J<|O _ J<|O _ J<|O _ J<|J7 (r:=max b.Lo.Z c.Lo.Z) J J (by simp only [J5];rfl)<|O _ J<|qa J<|q8<|qg<|Qc<|qc<|U J<|O _ J<|q7 a fun af d a=>?_;refine Q9 4 (fun A st=>∃ l m n,st = A [(59,Q2 af),(58,n),(57,m),(56,l)]) ?_ ?_
 ·refine Qa J J d (fun d=>?_) (fun d=>?_)
  ·refine U J<|O _ J<|O _ J<|q8 ?_;cases d;exact ⟨_,_,_,J⟩
  refine qb J<|qb J<|O _ J<|q8 ?_;cases d;exact ⟨_,_,_,J⟩
 rintro _ ⟨l,m,n,rfl⟩;refine q7 a fun ag f a=>?_;refine Q9 4 (fun A st=>∃ o p q,st = A [(63,Q2 ag),(62,q),(61,p),(60,o)]) ?_ ?_
 ·refine Qa J J f (fun f=>?_) (fun f=>?_)
  ·refine U J<|O _ J<|O _ J<|q8 ?_;cases f;exact ⟨_,_,_,J⟩
  refine qb J<|qb J<|O _ J<|q8 ?_;cases f;exact ⟨_,_,_,J⟩
 rintro _ ⟨o,p,q,rfl⟩;refine qa J<|q8 ?_;refine qn J a (fun _ a=>?_) (fun _ a=>?_)
 ·refine qc<|U J<|U J<|O _ J<|qa J<|qu ?_;cases a;exact Q7 _ J
 refine qc<|U J<|O _ J<|q7 a fun ah g a=>?_;refine Q9 4 (fun A st=>∃ s t u,st = A [(73,Q2 ah),(72,u),(71,t),(70,s)]) ?_ ?_
 ·refine Qa J J g (fun g=>?_) (fun g=>?_)
  ·refine U J<|O _ J<|O _ J<|q8 ?_;cases g;exact ⟨_,_,_,J⟩
  refine qb J<|qb J<|O _ J<|q8 ?_;cases g;exact ⟨_,_,_,J⟩
 rintro _ ⟨s,t,u,rfl⟩;refine q7 a fun ai h a=>?_;refine Q9 4 (fun A st=>∃ v x y,st = A [(77,Q2 ai),(76,y),(75,x),(74,v)]) ?_ ?_
 ·refine Qa J J h (fun h=>?_) (fun h=>?_)
  ·refine U J<|O _ J<|O _ J<|q8 ?_;cases h;exact ⟨_,_,_,J⟩
  refine qb J<|qb J<|O _ J<|q8 ?_;cases h;exact ⟨_,_,_,J⟩
 rintro _ ⟨v,x,y,rfl⟩;refine qa J<|q8 ?_;refine qn J a (fun _ a=>?_) (fun _ a=>?_)
 ·refine qc<|U J<|U J<|O _ J<|qa J<|qu ?_;cases a;exact Q7 _ J
 refine qc<|U J<|O _ J<|q7 a fun aj j a=>?_;refine Q9 4 (fun A st=>∃ z aa ab,st = A [(87,Q2 aj),(86,ab),(85,aa),(84,z)]) ?_ ?_
 ·refine Qa J J j (fun j=>?_) (fun j=>?_)
  ·refine U J<|O _ J<|O _ J<|q8 ?_;cases j;exact ⟨_,_,_,J⟩
  refine qb J<|qb J<|O _ J<|q8 ?_;cases j;exact ⟨_,_,_,J⟩
 rintro _ ⟨z,aa,ab,rfl⟩;refine q7 a fun ak k a=>?_;refine Q9 4 (fun A st=>∃ ac ad ae,st = A [(91,Q2 ak),(90,ae),(89,ad),(88,ac)]) ?_ ?_
 ·refine Qa J J k (fun k=>?_) (fun k=>?_)
  ·refine U J<|O _ J<|O _ J<|q8 ?_;cases k;exact ⟨_,_,_,J⟩
  refine qb J<|qb J<|O _ J<|q8 ?_;cases k;exact ⟨_,_,_,J⟩
 rintro _ ⟨ac,ad,ae,rfl⟩;refine qa J<|q8 ?_;refine qn J a (fun _ a=>?_) (fun _ a=>?_)
 ·refine qc<|U J<|U J<|O _ J<|qa J<|qu ?_;cases a;exact Q7 _ J
 refine qp<|Ql<|Qp<|qc<|qa J<|qu ?_;cases a;exact Q7 _ J
theorem q154 (a : List qf) (r : Int × Int) (b : qb9 a = some r) : Pure Tryz.prog tab 35 [.sl 6 (a.map Q6)] (.tup [qd r.1,qd r.2]):=by
 unfold qb9 at b;refine Qk Tryz.func35 J qi qi J<|qc<|qa J<|qa J<|q8<|qg<|qc<|U J<|q7 b fun p q b=>Q1 (qe8 a p q) J<|qa J<|qt<|U J<|O _ J<|q8 ?_;refine qn J b (fun _ b=>?_) (fun _ b=>?_)
 ·refine qc<|U J<|qa J<|qa J<|qu ?_;cases b;exact Q7 _ J
 refine qp<|qc<|qa J<|q8<|qg<|qc<|U J<|Qx J<|U J<|q8<|q7 b fun o s b=>?_;refine Qo (fun j=>j = o) (fun j=>⟨[(5,q9 j)],[],0⟩) qe ?_ ?_
 ·refine Qm (q5g a) (fun h=>⟨[(0,.d (.sl 6 (a.map Q6))),(5,q9 h.1),(18,.d (.sl 6 (a.map Q6))),(19,q9 (a.length : Int)),(20,q9 h.2)],[],0⟩) _ o s (wkA [] [] []) ?_;intro h af g;unfold q5g at g;refine qc<|O _ J<|q8<|qg ?_;refine qn J g (fun _ g=>?_) (fun _ g=>?_)
  ·refine qp<|qg<|q7 g fun t f g=>?_;refine Qo (fun k=>k = t) (fun k=>⟨[(0,.d (.sl 6 (a.map Q6))),(5,q9 k),(18,.d (.sl 6 (a.map Q6))),(19,q9 (a.length : Int)),(20,q9 h.2)],[],0⟩) qe ?_ ?_
   ·refine qc<|U J<|q7 f fun l u f=>Qn u J<|O _ J<|Qr J J<|qa J<|Qd 0 _ J<|qt<|O _ J<|q7 f fun v x f=>Q1 (q15c l v x) J<|U J<|O _ J<|O _ J<|O _ J<|qa J<|qa J<|qa J<|qt<|U J<|U J<|U J<|O _ J<|U J<|U J<|O _ J<|O _ J<|U J<|U J<|O _ J<|O _ J<|O _ J<|O _ J<|qa J<|qt<|U J<|U J<|q7 f fun m y f=>qxj (enc:=Q6) y J J J J J (fun _=>rfl) (q5z J) ?_;refine Qx J<|U J<|q8<|q7 f fun z aa f=>Qc<|Qm (q5h m l) (fun n=>⟨[(0,.d (.sl 6 (a.map Q6))),(5,q9 n.1),(7,.ref 0 6 0 0),(18,.d (.sl 6 (a.map Q6))),(19,q9 (a.length : Int)),(20,q9 h.2),(47,.d (.sl 6 (m.map Q6))),(48,q9 (m.length : Int)),(49,q9 n.2)],[(0,.dat 6 [(Q6 l)])],1⟩) _ z aa (wkA [(0,0)] [] []) ?_;intro n ag c;unfold q5h at c;refine qc<|O _ J<|q8<|qg ?_;refine qn J c (fun _ c=>?_) (fun _ c=>?_)
    ·refine qp<|qg<|Qc<|qc<|q7 c fun ab ac c=>Qn ac J<|O _ J<|Qr J J<|Qd 1 _ J<|q8<|Q5<|U J<|O _ J<|O _ J<|q7 c fun ad ae c=>Q1 (q158 l ab ad ae) J<|O _ J<|O _ J<|qa J<|Q4<|Qp<|Q5<|O _ J<|U J<|Q4<|⟨_,qr c,wkA [(0,0)] [] []⟩
    refine Qh ?_;refine ⟨_,qr c,fun hm=>?_⟩;subst hm;obtain rfl:=qw f;exact ⟨_,J,wkA [] [] []⟩
   intro k hb;subst hb;refine Q5<|O _ J<|U J<|Q4<|⟨_,qr g,wkA [] [] []⟩
  refine Qh ?_;refine ⟨_,qr g,fun hm=>?_⟩;subst hm;exact ⟨_,J,wkA [] [] []⟩
 intro j hb;subst hb;refine qc<|U J<|qa J<|qa J<|qu ?_;cases b;exact Q7 _ J
end Go.Proofs.YtmnfbjlabfeneaaGreat
namespace Go.Proofs.YtmnfbjlabfeneaaGreat
open Go Go.Am Go.Sh
set_option maxHeartbeats 8000000
set_option maxRecDepth 100000
theorem q17k (c : List qf) (b : qh) (r : Bool) (a : qcz c b = some r) : Pure Tryz.prog tab 8 [.sl 6 (c.map Q6),.agg (Qs b)] (.bool r):=by
 unfold qcz at a;refine Qk Tryz.func8 J qi qi J<|qc<|Qj _ _ J<|qa J<|qt<|q7 a fun p h2 a=>Q1 (qmm p h2) J<|qa J<|q8<|qg<|qc<|U J<|O _ J<|q7 a fun r3 h4 a=>Q1 (qmo c b r3 h4) J<|O _ J<|q7 a fun c5 f a=>?_;refine Q9 4 (fun A st=>∃ v x y,st = A [(26,Q2 c5),(25,y),(24,x),(23,v)]) ?_ ?_
 ·refine Qa J J f (fun f=>?_) (fun f=>?_)
  ·refine qb J<|qb J<|O _ J<|q8 ?_;cases f;exact ⟨_,_,_,J⟩
  refine U J<|O _ J<|O _ J<|q8 ?_;cases f;exact ⟨_,_,_,J⟩
 rintro _ ⟨v,x,y,rfl⟩;refine q8 ?_;refine qn J a (fun _ a=>?_) (fun _ a=>?_)
 ·refine qc<|U J<|qa J<|qu ?_;cases a;exact Q7 _ J
 refine qp<|qc<|U J<|O _ J<|q7 a fun q bg a=>Q1 (qbo c b q bg) J<|U J<|O _ J<|O _ J<|O _ J<|qa J<|qa J<|qa J<|qt<|U J<|O _ J<|q7 a fun z bh a=>Q1 (qdl (-1) b z bh) J<|q7 a fun bi bj a=>Q1 (qbo c z bi bj) J<|U J<|O _ J<|O _ J<|O _ J<|qa J<|qa J<|qa J<|qt<|U J<|q7 a fun bk bl a=>Q1 (q154 c bk bl) J<|U J<|O _ J<|O _ J<|qa J<|qa J<|q8<|qg<|qc<|U J ?_;refine O _ J<|q7 a fun bm g a=>?_;refine Q9 4 (fun A st=>∃ aa ab ac,st = A [(53,Q2 bm),(52,ac),(51,ab),(50,aa)]) ?_ ?_
 ·refine Qa J J g (fun g=>?_) (fun g=>?_)
  ·refine qb J<|qb J<|O _ J<|q8 ?_;cases g;exact ⟨_,_,_,J⟩
  refine U J<|O _ J<|O _ J<|q8 ?_;cases g;exact ⟨_,_,_,J⟩
 rintro _ ⟨aa,ab,ac,rfl⟩;refine q7 a fun bn h a=>?_;refine Q9 4 (fun A st=>∃ ad ae af,st = A [(57,Q2 bn),(56,af),(55,ae),(54,ad)]) ?_ ?_
 ·refine Qa J J h (fun h=>?_) (fun h=>?_)
  ·refine qb J<|qb J<|O _ J<|q8 ?_;cases h;exact ⟨_,_,_,J⟩
  refine U J<|O _ J<|O _ J<|q8 ?_;cases h;exact ⟨_,_,_,J⟩
 rintro _ ⟨ad,ae,af,rfl⟩;refine q7 a fun bo j a=>?_;refine Q9 7 (fun A st=>∃ ag ah ai aj ak al,st = A [(64,Q2 bo),(63,al),(62,ak),(61,aj),(60,ai),(59,ah),(58,ag)]) ?_ ?_
 ·refine Qa J J j (fun j=>?_) (fun j=>?_)
  ·refine qb J<|qb J<|qb J<|qb J<|qb J<|O _ J<|q8 ?_;cases j;exact ⟨_,_,_,_,_,_,J⟩
  refine U J<|U J<|O _ J<|U J<|O _ J<|O _ J<|q8 ?_;cases j;exact ⟨_,_,_,_,_,_,J⟩
 rintro _ ⟨ag,ah,ai,aj,ak,al,rfl⟩;refine q7 a fun bp k a=>?_;refine Q9 7 (fun A st=>∃ am an ao ap aq ar,st = A [(71,Q2 bp),(70,ar),(69,aq),(68,ap),(67,ao),(66,an),(65,am)]) ?_ ?_
 ·refine Qa J J k (fun k=>?_) (fun k=>?_)
  ·refine qb J<|qb J<|qb J<|qb J<|qb J<|O _ J<|q8 ?_;cases k;exact ⟨_,_,_,_,_,_,J⟩
  refine U J<|U J<|O _ J<|U J<|O _ J<|O _ J<|q8 ?_;cases k;exact ⟨_,_,_,_,_,_,J⟩
 rintro _ ⟨am,an,ao,ap,aq,ar,rfl⟩;refine q8 ?_;refine qn J a (fun _ a=>?_) (fun _ a=>?_)
 ·refine qc<|qa J<|qu ?_;cases a;exact Q7 _ J
 refine qp<|qg<|qc<|U J<|Qx J<|O _ J<|q8 ?_;refine qn J a (fun _ a=>?_) (fun _ a=>?_)
 ·refine qc<|U J<|qa J<|qu ?_;cases a;exact Q7 _ J
 refine qp<|qg<|Qi [q6,q6,q6,q6,q6,q6,q6,q6,q6,q6,q6,q6,q6,q6,q6,q6,q6,q6,q6,q6,q6,q6,q6,q6,q6,q6,q6,q6,q6,q6,q6,q6,q6,q6,q6,q6] qi<|U J<|q7 a fun au bq a=>Qn bq J<|O _ J<|O _ J<|O _ J<|U J<|q7 a fun av br a=>Qn br J<|O _ J<|O _ J<|O _ J<|O _ J<|U J<|q7 a fun aw bs a=>Qn bs J<|O _ J<|O _ J<|O _ J<|U J<|q7 a fun ax bt a=>Qn bt J<|O _ J<|O _ J<|O _ J<|O _ J<|U J<|q7 a fun bu bv a=>Qn bv J<|O _ J<|O _ J<|O _ J<|U J<|q7 a fun bw bz a=>Qn bz J<|O _ J<|O _ J ?_;refine O _ J<|O _ J<|qa J<|qa J<|qa J<|qt<|qa J<|q8<|qg<|qc<|O _ J<|O _ J<|O _ J<|q8<|q7 a fun ca l a=>?_;refine Y2 (fun s=>s = ca) (fun s=>⟨[(3,.ref 0 3 0 0),(5,Q2 p),(6,q9 q.1),(14,.d (qd (w64 (au.Hi.X - av.Lo.X)))),(15,.d (qd (w64 (aw.Hi.Y - ax.Lo.Y)))),(16,.d (qd (w64 (bu.Hi.Z - bw.Lo.Z)))),(17,q9 s)],[(0,.dat 3 [(Qs b)])],1⟩) qe ?_ ?_
 ·refine qn J l (fun _ l=>?_) (fun _ l=>?_)
  ·refine Q5<|U J<|U J<|U J<|O _ J<|O _ J<|qa J<|Q4 ?_;obtain rfl:=qw l;exact ⟨_,J,wkA [(0,0)] [] []⟩
  refine qp<|Ql ?_;obtain rfl:=qw l;exact ⟨_,J,wkA [(0,0)] [] []⟩
 intro s hb;subst hb;refine qg<|qc<|O _ J<|O _ J<|O _ J<|q8<|q7 a fun cb m a=>?_;refine Y2 (fun t=>t = cb) (fun t=>⟨[(3,.ref 0 3 0 0),(5,Q2 p),(6,q9 q.1),(14,.d (qd (w64 (au.Hi.X - av.Lo.X)))),(15,.d (qd (w64 (aw.Hi.Y - ax.Lo.Y)))),(17,q9 t)],[(0,.dat 3 [(Qs b)])],1⟩) qe ?_ ?_
 ·refine qn J m (fun _ m=>?_) (fun _ m=>?_)
  ·refine Q5<|U J<|U J<|U J<|O _ J<|O _ J<|qa J<|Q4 ?_;obtain rfl:=qw m;exact ⟨_,J,wkA [(0,0)] [] []⟩
  refine qp<|Ql ?_;obtain rfl:=qw m;exact ⟨_,J,wkA [(0,0)] [] []⟩
 intro t hb;subst hb;refine qg<|qc<|O _ J<|O _ J<|O _ J<|q8<|q7 a fun cc n a=>?_;refine Y2 (fun u=>u = cc) (fun u=>⟨[(5,Q2 p),(6,q9 q.1),(17,q9 u)],[],0⟩) qe ?_ ?_
 ·refine qn J n (fun _ n=>?_) (fun _ n=>?_)
  ·refine Q5<|U J<|U J<|U J<|O _ J<|O _ J<|qa J<|Q4 ?_;obtain rfl:=qw n;exact ⟨_,J,wkA [] [] []⟩
  refine qp<|Ql ?_;obtain rfl:=qw n;exact ⟨_,J,wkA [] [] []⟩
 intro u hb;subst hb;refine qc<|U J<|q7 a fun cd o a=>?_;refine Q9 5 (fun A st=>∃ ay az ba bb,st = A [(138,Q2 cd),(137,bb),(136,ba),(135,az),(134,ay)]) ?_ ?_
 ·refine Qa J J o (fun o=>?_) (fun o=>?_)
  ·refine U J<|U J<|O _ J<|O _ J<|q8 ?_;cases o;exact ⟨_,_,_,_,J⟩
  refine qb J<|qb J<|qb J<|O _ J<|q8 ?_;cases o;exact ⟨_,_,_,_,J⟩
 rintro _ ⟨ay,az,ba,bb,rfl⟩;refine qa J<|qu ?_;cases a;exact Q7 _ J
theorem qfz (a : qh) (d : Int) (r : Bool) (c : q4b a d = some r) : Pure Tryz.prog tab 106 [.agg (Qs a),qd d] (.bool r):=by
 unfold q4b at c;refine Qk Tryz.func106 J qi qi J<|qc<|Qj _ _ J<|qa J<|qt<|O _ J<|O _ J<|O _ J<|O _ J<|O _ J<|O _ J<|J8 (r:=min (min a.X a.Y) a.Z) J J (by simp only [J6];rfl)<|U J<|O _ J<|q7 c fun p b c=>?_;refine Q9 10 (fun A st=>∃ f g h j k l m n o,st = A [(23,Q2 p),(22,o),(21,n),(20,m),(19,l),(18,k),(17,j),(16,h),(15,g),(14,f)]) ?_ ?_
 ·refine Qa J J b (fun b=>?_) (fun b=>?_)
  ·refine O _ J<|O _ J<|O _ J<|O _ J<|O _ J<|O _ J<|J7 (r:=max (max a.X a.Y) a.Z) J J (by simp only [J5];rfl)<|O _ J<|O _ J<|q8 ?_;cases b;exact ⟨_,_,_,_,_,_,_,_,_,J⟩
  refine qb J<|qb J<|qb J<|qb J<|qb J<|qb J<|qb J<|qb J<|O _ J<|q8 ?_;cases b;exact ⟨_,_,_,_,_,_,_,_,_,J⟩
 rintro _ ⟨f,g,h,j,k,l,m,n,o,rfl⟩;refine qa J<|qu ?_;cases c;exact Q7 _ J
theorem qlk (c : Kv) (r : Int) (a : q6a c = some r) : Pure Tryz.prog tab 72 [.agg [.int .u8 c.Turn,qd c.At.X,qd c.At.Y,qd c.At.Z]] (qd r):=by
 unfold q6a at a;refine Qk Tryz.func72 J qi qi J<|qc<|Qj _ _ J<|qa J<|q8<|qg<|qc<|O _ J<|O _ J<|O _ J<|q7 a fun k b a=>?_;refine Q9 6 (fun A st=>∃ d f g h j,st = A [(11,Q2 k),(10,j),(9,h),(8,g),(7,f),(6,d)]) ?_ ?_
 ·refine Qa J J b (fun b=>?_) (fun b=>?_)
  ·refine qb J<|qb J<|qb J<|qb J<|O _ J<|q8 ?_;cases b;exact ⟨_,_,_,_,_,J⟩
  refine O _ J<|O _ J<|q7 b fun l m b=>Q1 (qfz c.At (-1000000) l m) J<|O _ J<|O _ J<|q8 ?_;cases b;exact ⟨_,_,_,_,_,J⟩
 rintro _ ⟨d,f,g,h,j,rfl⟩;refine q8 ?_;refine qn J a (fun _ a=>?_) (fun _ a=>?_)
 ·refine qc<|qa J<|qu ?_;cases a;exact Q7 _ J
 refine qp<|qc<|qa J<|qu ?_;cases a;exact Q7 _ J
theorem qll (b : Int) (r : qh) (a : qcp b = some r) : Pure Tryz.prog tab 144 [.int .u8 b] (.agg (Qs r)):=by
 unfold qcp at a;refine Qk Tryz.func144 J qi qi J<|qc<|Qr J J<|qt<|U J<|O _ J<|O _ J<|O _ J<|O _ J<|qa J<|q8<|qg<|qc<|U J<|O _ J<|q8<|Qc<|qc<|O _ J<|qa J<|q8 ?_;refine qn J a (fun _ a=>?_) (fun _ a=>?_)
 ·refine qc<|U J<|O _ J<|Qd 0 _ J<|qu ?_;cases a;exact Q7 _ J
 refine qc<|O _ J<|qa J<|q8 ?_;refine qn J a (fun _ a=>?_) (fun _ a=>?_)
 ·refine qc<|U J<|O _ J<|Qd 0 _ J<|qu ?_;cases a;exact Q7 _ J
 refine qp<|Ql<|Qp<|qc<|U J<|O _ J<|Qd 0 _ J<|qu ?_;cases a;exact Q7 _ J
theorem qur (a : qh) (b : qh) (r : qh) (c : qfy a b = some r) : Pure Tryz.prog tab 145 [.agg (Qs a),.agg (Qs b)] (.agg (Qs r)):=by
 unfold qfy at c;refine Qk Tryz.func145 J qi qi J<|qc<|Qj _ _ J<|Qj _ _ J<|Qr J J<|qt<|O _ J<|O _ J<|O _ J<|O _ J<|O _ J<|O _ J<|O _ J<|O _ J<|O _ J<|O _ J<|O _ J<|O _ J<|O _ J<|O _ J<|O _ J<|O _ J<|O _ J<|O _ J<|O _ J<|O _ J<|O _ J<|O _ J<|O _ J<|O _ J<|O _ J<|O _ J<|O _ J<|O _ J<|O _ J<|O _ J<|O _ J<|O _ J<|O _ J<|O _ J ?_;refine Qd 2 _ J<|qu ?_;cases c;exact Q7 _ J
theorem quq (f : Int) (r : (qh × qh × qh)) (a : q9b f = some r) : Pure Tryz.prog tab 127 [.int .u8 f] (.agg [qd r.1.X,qd r.1.Y,qd r.1.Z,qd r.2.1.X,qd r.2.1.Y,qd r.2.1.Z,qd r.2.2.X,qd r.2.2.Y,qd r.2.2.Z]):=by
 unfold q9b at a;refine Qk Tryz.func127 J qi qi J<|qc<|Qr J J<|qt<|U J<|O _ J<|qa J<|qt<|U J<|O _ J<|qa J<|q8<|qg<|qc<|U J<|U J<|O _ J<|O _ J<|O _ J<|q8<|q7 a fun j b a=>?_;refine Y2 (fun c=>c = j) (fun c=>⟨[(2,.ref 0 9 0 0),(3,.d (.int .u8 (IntKind.wrap .u8 (Int.tdiv f 4)))),(4,.d (.int .u8 c))],[(0,.dat 9 [[qd 0,qd 0,qd 0,qd 0,qd 0,qd 0,qd 0,qd 0,qd 0]])],1⟩) qe ?_ ?_
 ·refine qn J b (fun _ b=>?_) (fun _ b=>?_)
  ·refine Q5<|U J<|O _ J<|qa J<|Q4 ?_;obtain rfl:=qw b;exact ⟨_,J,wkA [(0,0)] [] []⟩
  refine qp<|Ql ?_;obtain rfl:=qw b;exact ⟨_,J,wkA [(0,0)] [] []⟩
 intro c hb;subst hb;refine qc<|U J<|q7 a fun g k a=>Q1 (qll (IntKind.wrap .u8 (Int.tdiv f 4)) g k) J<|U J<|q7 a fun h l a=>Q1 (qll c h l) J<|Qr J J<|Qr J J<|Qd 1 _ J<|Qd 2 _ J<|q8<|qg<|Qi [Qt 0,q6,q6,qx 2,qx 1,qx 2,qx 1] qi<|O _ J<|O _ J<|O _ J<|O _ J<|q7 a fun m n a=>Q1 (qur g h m n) J<|O _ J<|Qd 0 _ J<|qu ?_;cases a;exact Q7 _ J
theorem quv (a : qh × qh × qh) (b : qh) (r : qh) (c : q9d a b = some r) : Pure Tryz.prog tab 126 [.agg [qd a.1.X,qd a.1.Y,qd a.1.Z,qd a.2.1.X,qd a.2.1.Y,qd a.2.1.Z,qd a.2.2.X,qd a.2.2.Y,qd a.2.2.Z],.agg (Qs b)] (.agg (Qs r)):=by
 unfold q9d at c;refine Qk Tryz.func126 J qi qi J<|qc<|Qj _ _ J<|Qj _ _ J<|Qr J J<|qt<|O _ J<|O _ J<|O _ J<|O _ J<|O _ J<|O _ J<|O _ J<|O _ J<|O _ J<|O _ J<|O _ J<|O _ J<|O _ J<|O _ J<|O _ J<|O _ J<|O _ J<|O _ J<|O _ J<|O _ J<|O _ J<|O _ J<|O _ J<|O _ J<|O _ J<|O _ J<|O _ J<|O _ J<|O _ J<|O _ J<|O _ J<|O _ J<|O _ J<|O _ J ?_;refine O _ J<|O _ J<|O _ J<|O _ J<|O _ J<|O _ J<|O _ J<|O _ J<|O _ J<|O _ J<|O _ J<|O _ J<|O _ J<|O _ J<|O _ J<|O _ J<|O _ J<|O _ J<|O _ J<|O _ J<|O _ J<|O _ J<|O _ J<|O _ J<|O _ J<|O _ J<|O _ J<|Qd 2 _ J<|qu ?_;cases c;exact Q7 _ J
theorem qut (a : Kv) (c : qh) (r : qh) (b : q9c a c = some r) : Pure Tryz.prog tab 107 [.agg [.int .u8 a.Turn,qd a.At.X,qd a.At.Y,qd a.At.Z],.agg (Qs c)] (.agg (Qs r)):=by
 unfold q9c at b;refine Qk Tryz.func107 J qi qi J<|qc<|Qj _ _ J<|Qj _ _ J<|Qr J J<|q8<|qg<|Qi [Qt 1,q6,qx 1,q6,qx 0,q6] qi<|O _ J<|O _ J<|q7 b fun d f b=>Q1 (quq a.Turn d f) J<|O _ J<|q7 b fun g h b=>Q1 (quv d c g h) J<|Qd 1 _ J<|qt<|O _ J<|O _ J<|O _ J<|O _ J<|O _ J<|O _ J<|O _ J<|O _ J<|O _ J<|O _ J<|O _ J<|O _ J<|O _ J<|O _ J<|O _ J<|O _ J<|O _ J<|O _ J<|O _ J<|Qd 2 _ J<|qu ?_;cases b;exact Q7 _ J
theorem qli (b : Kv) (c : qh) (r : qh × Int) (a : q69 b c = some r) : Pure Tryz.prog tab 73 [.agg [.int .u8 b.Turn,qd b.At.X,qd b.At.Y,qd b.At.Z],.agg (Qs c)] (.tup [.agg (Qs r.1),qd r.2]):=by
 unfold q69 at a;refine Qk Tryz.func73 J qi qi J<|qc<|Qj _ _ J<|Qj _ _ J<|Qr J J<|qa J<|q8<|qg<|qc<|O _ J<|q7 a fun f g a=>Q1 (qlk b f g) J<|qa J<|qt<|U J<|O _ J<|q8 ?_;refine qn J a (fun _ a=>?_) (fun _ a=>?_)
 ·refine qc<|O _ J<|U J<|Qd 2 _ J<|qa J<|qu ?_;cases a;exact Q7 _ J
 refine qp<|qg<|qc<|O _ J<|q7 a fun h j a=>Q1 (qfz c (-1000000) h j) J<|O _ J<|q8 ?_;refine qn J a (fun _ a=>?_) (fun _ a=>?_)
 ·refine qc<|O _ J<|Qd 2 _ J<|qa J<|qu ?_;cases a;exact Q7 _ J
 refine qp<|qc<|O _ J<|O _ J<|q7 a fun d k a=>Q1 (qut b c d k) J<|Qd 1 _ J<|q8<|qg<|qc<|O _ J<|q7 a fun l m a=>Q1 (qfz d (-1000000) l m) J<|O _ J<|q8 ?_;refine qn J a (fun _ a=>?_) (fun _ a=>?_)
 ·refine qc<|O _ J<|Qd 2 _ J<|qa J<|qu ?_;cases a;exact Q7 _ J
 refine qp<|qc<|O _ J<|Qd 2 _ J<|qa J<|qu ?_;cases a;exact Q7 _ J
theorem q123 (b : List qf) (f : qf→Option Bool) (p1F : FuncId) (p1C : List DV) (p1Ok : ∀ (h : qf) (r : Bool),f h = some r→Pure Tryz.prog tab p1F ([.agg (Q6 h)] ++ p1C) (.bool r)) (r : Int) (c : qe3 b f = some r) : Pure Tryz.prog tab 128 [.sl 6 (b.map Q6),.fn p1F p1C] (qd r):=by
 unfold qe3 at c;refine Qk Tryz.func128 J qi qi J<|qc<|qa J<|q8<|qg<|qc<|U J<|Qx J<|U J<|q8<|q7 c fun j l c=>?_;refine Qo (fun g=>.inl g = j) (fun g=>⟨[],[],0⟩) qe ?_ ?_
 ·refine Qm (q52 b f) (fun k=>⟨[(0,.d (.sl 6 (b.map Q6))),(1,.d (.fn p1F p1C)),(7,q9 (b.length : Int)),(8,q9 k)],[],0⟩) _ j l (wkA [] [] []) ?_;intro k q a;unfold q52 at a;refine qc<|O _ J<|q8<|qg ?_;refine qn J a (fun _ a=>?_) (fun _ a=>?_)
  ·refine qp<|qg<|Qc<|qc<|U J<|qa J<|qt<|U J<|U J<|U J<|q7 a fun m n a=>Qn n J<|O _ J<|q7 a fun o p a=>Z8 _ (p1Ok m o p) J J J (.inl J)<|q8 ?_;refine qn J a (fun _ a=>?_) (fun _ a=>?_)
   ·refine qc<|U J<|qa J<|qu ?_;refine ⟨_,qr a,fun hm=>?_⟩;subst hm;cases c;exact Q7 _ J
   refine qp<|Ql<|Qp<|Q5<|O _ J<|U J<|Q4<|⟨_,qr a,wkA [] [] []⟩
  refine Qh ?_;refine ⟨_,qr a,fun hm=>?_⟩;subst hm;exact ⟨_,J,wkA [] [] []⟩
 intro g hb;subst hb;refine qc<|qa J<|qu ?_;cases c;exact Q7 _ J
theorem q11y (b : List qf) (c : qf→Option Bool) (p1F : FuncId) (p1C : List DV) (p1Ok : ∀ (d : qf) (r : Bool),c d = some r→Pure Tryz.prog tab p1F ([.agg (Q6 d)] ++ p1C) (.bool r)) (r : Bool) (a : qaa b c = some r) : Pure Tryz.prog tab 108 [.sl 6 (b.map Q6),.fn p1F p1C] (.bool r):=by
 unfold qaa at a;refine Qk Tryz.func108 J qi qi J<|qc<|qa J<|qt<|U J<|U J<|q7 a fun f g a=>Q1 (q123 b c p1F p1C p1Ok f g) J<|O _ J<|qa J<|qu ?_;cases a;exact Q7 _ J
theorem q14z (b : qf) (r : Bool) (a : q3o b = some r) : Pure Tryz.prog tab 109 [.agg (Q6 b)] (.bool r):=by
 unfold q3o at a;refine Qk Tryz.func109 J qi qi J<|qc<|Qj _ _ J<|qa J<|qt<|O _ J<|q7 a fun c d a=>Q1 (qpm b c d) J<|O _ J<|qa J<|qu ?_;cases a;exact Q7 _ J
theorem q151 (b : List qf) (r : List qf × Int) (a : qb7 b = some r) : Pure Tryz.prog tab 74 [.sl 6 (b.map Q6)] (.tup [.sl 6 (r.1.map Q6),qd r.2]):=by
 unfold qb7 at a;refine Qk Tryz.func74 J qi qi J<|qc<|qa J<|qa J<|q8<|qg<|qc<|U J<|Qx J<|O _ J<|q8 ?_;refine qn J a (fun _ a=>?_) (fun _ a=>?_)
 ·refine qc<|qa J<|qa J<|qu ?_;obtain rfl:=qw a;exact finD (.inr J) J J (Zo (.cons (.nil _) (.cons (.refl _) .nil)))
 refine qp<|qg<|qc<|U J<|q7 a fun d f a=>Q1 (q11y b (fun c=>q3o c) 109 [] (fun c r hr=>q14z c r hr) d f) J<|q8 ?_;refine qn J a (fun _ a=>?_) (fun _ a=>?_)
 ·refine qc<|qa J<|qa J<|qu ?_;obtain rfl:=qw a;exact finD (.inr J) J J (Zo (.cons (.nil _) (.cons (.refl _) .nil)))
 refine qp<|qc<|O _ J<|U J<|qh0 (es:=1) ([b].map Yp) J J J J J<|q7 a fun g h a=>Q1 (qpn b g h) J<|O _ J<|O _ J<|qa J<|qa J<|qu ?_;cases a;exact Q7 _ J
theorem q152 (j : List qf) (c : Kv) (r : List qf × Int) (b : qb8 j c = some r) : Pure Tryz.prog tab 37 [.sl 6 (j.map Q6),.agg [.int .u8 c.Turn,qd c.At.X,qd c.At.Y,qd c.At.Z]] (.tup [.sl 6 (r.1.map Q6),qd r.2]):=by
 unfold qb8 at b;refine Qk Tryz.func37 J qi qi J<|qc<|Qj _ _ J<|qa J<|qa J<|q8<|qg<|qc<|U J<|q7 b fun s t b=>Q1 (qe8 j s t) J<|qa J<|qt<|U J<|O _ J<|q8 ?_;refine qn J b (fun _ b=>?_) (fun _ b=>?_)
 ·refine qc<|U J<|qa J<|qa J<|qu ?_;obtain rfl:=qw b;exact finD (.inr J) J J (Zo (.cons (.nil _) (.cons (.refl _) .nil)))
 refine qp<|qg<|qc<|O _ J<|q7 b fun u v b=>Q1 (qlk c u v) J<|qa J<|qt<|U J<|O _ J<|q8 ?_;refine qn J b (fun _ b=>?_) (fun _ b=>?_)
 ·refine qc<|U J<|qa J<|qa J<|qu ?_;obtain rfl:=qw b;exact finD (.inr J) J J (Zo (.cons (.nil _) (.cons (.refl _) .nil)))
 refine qp<|qc<|qa J<|q8<|qg<|qc<|U J<|Qx J<|U J<|q8<|q7 b fun m x b=>?_;refine Qo (fun f=>.inl f = m) (fun f=>⟨[(8,.hs 0 6 0 f.length)],[(0,.dat 6 (f.map Q6))],1⟩) qe ?_ ?_
 ·refine Qm (q5f j c) (fun l=>⟨[(3,.ref 0 4 0 0),(8,.hs 1 6 0 l.2.length),(25,.d (.sl 6 (j.map Q6))),(26,q9 (j.length : Int)),(27,q9 l.1)],[(0,.dat 4 [[.int .u8 c.Turn,qd c.At.X,qd c.At.Y,qd c.At.Z]]),(1,.dat 6 (l.2.map Q6))],2⟩) _ m x (wkA [(0,0)] [] [1]) ?_;intro l af a;unfold q5f at a;refine qc<|O _ J<|q8<|qg ?_;refine qn J a (fun _ a=>?_) (fun _ a=>?_)
  ·refine qp<|qg<|Qc<|qc<|q7 a fun n y a=>Qn y J<|O _ J<|Qr J J<|Qd 2 _ J<|qt<|O _ J<|O _ J<|O _ J<|q7 a fun g z a=>Q1 (qli c n.Lo g z) J<|U J<|O _ J<|O _ J<|Qr J J<|Qd 3 _ J<|qa J<|qt<|O _ J<|O _ J<|O _ J<|q7 a fun h aa a=>Q1 (qli c n.Hi h aa) J<|U J<|O _ J<|O _ J<|Qr J J<|Qd 4 _ J<|qa J<|q8<|qg<|qc<|U J<|O _ J<|q7 a fun ab k a=>?_;refine Q9 4 (fun A st=>∃ o p q,st = A [(50,Q2 ab),(49,q),(48,p),(47,o)]) ?_ ?_
   ·refine Qa J J k (fun k=>?_) (fun k=>?_)
    ·refine qb J<|qb J<|O _ J<|q8 ?_;cases k;exact ⟨_,_,_,J⟩
    refine U J<|O _ J<|O _ J<|q8 ?_;cases k;exact ⟨_,_,_,J⟩
   rintro _ ⟨o,p,q,rfl⟩;refine q8 ?_;refine qn J a (fun _ a=>?_) (fun _ a=>?_)
   ·refine qc<|qa J<|qa J<|qu ?_;refine ⟨_,qr a,fun hm=>?_⟩;subst hm;obtain rfl:=qw b;exact finD (.inr J) J J (Zo (.cons (.nil _) (.cons (.refl _) .nil)))
   refine qp<|Q5<|U J<|O _ J<|O _ J<|O _ J<|O _ J<|J8 (r:=min g.1.X h.1.X) J J (by simp only [J6];rfl)<|O _ J<|O _ J<|O _ J<|O _ J<|J8 (r:=min g.1.Y h.1.Y) J J (by simp only [J6];rfl)<|O _ J<|O _ J<|O _ J<|O _ J<|J8 (r:=min g.1.Z h.1.Z) J J (by simp only [J6];rfl)<|O _ J<|O _ J<|O _ J<|O _ J<|O _ J<|J7 (r:=max g.1.X h.1.X) J J (by simp only [J5];rfl)<|O _ J<|O _ J<|O _ J<|O _ J<|J7 (r:=max g.1.Y h.1.Y) J J (by simp only [J5];rfl)<|O _ J<|O _ J<|O _ J<|O _ J<|J7 (r:=max g.1.Z h.1.Z) J J (by simp only [J5];rfl)<|O _ J<|O _ J<|Qj _ _ J<|q7 a fun ag ac a=>Yh _ ac J J J J J J J (Yf J J) J J J J<|qa J ?_;refine Q4<|Qp<|Q5<|O _ J<|U J<|Q4<|⟨_,qr a,wkA [(0,0),(1,6)] [] []⟩
  refine Qh ?_;refine ⟨_,qr a,fun hm=>?_⟩;subst hm;exact ⟨_,J,wkA [(0,1)] [] []⟩
 intro f hb;subst hb;refine qg ?_;refine Za (st':=⟨[(8,.d (.sl 6 (f.map Q6)))],[],0⟩) (wkA [] [0] []) ?_ qe;refine Q5<|U J<|q7 b fun ad ae b=>Q1 (q151 f ad ae) J<|O _ J<|O _ J<|qa J<|qa J<|qu ?_;cases b;exact Q7 _ J
theorem qz3 (a : qh) (b : qh) (r : qh) (c : qdj a b = some r) : Pure Tryz.prog tab 110 [.agg (Qs a),.agg (Qs b)] (.agg (Qs r)):=by
 unfold qdj at c;refine Qk Tryz.func110 J qi qi J<|qc<|Qj _ _ J<|Qj _ _ J<|Qr J J<|qt<|O _ J<|O _ J<|O _ J<|O _ J<|O _ J<|O _ J<|O _ J<|O _ J<|O _ J<|O _ J<|O _ J<|O _ J<|O _ J<|O _ J<|O _ J<|O _ J<|O _ J<|O _ J<|O _ J<|O _ J<|O _ J<|O _ J<|O _ J<|O _ J<|O _ J<|O _ J<|O _ J<|O _ J<|O _ J<|O _ J<|O _ J<|O _ J<|O _ J<|O _ J ?_;refine Qd 2 _ J<|qu ?_;cases c;exact Q7 _ J
theorem qz5 (b : Int) (r : (qh × qh × qh)) (a : q9s b = some r) : Pure Tryz.prog tab 77 [qd b] (.agg [qd r.1.X,qd r.1.Y,qd r.1.Z,qd r.2.1.X,qd r.2.1.Y,qd r.2.1.Z,qd r.2.2.X,qd r.2.2.Y,qd r.2.2.Z]):=by
 unfold q9s at a;refine Qk Tryz.func77 J qi qi J<|qc<|Qr J J<|qt<|U J<|O _ J<|qa J<|qt<|qa J<|q8<|qg<|qc<|qa J<|q8<|q7 a fun k p a=>?_;refine Qo (fun g=>g = k) (fun g=>⟨[(0,q9 b),(2,.ref 0 9 0 0),(3,.d (qd (w64 (Int.tdiv b 4)))),(4,.hs 1 1 0 g.length)],[(0,.dat 9 [[qd 0,qd 0,qd 0,qd 0,qd 0,qd 0,qd 0,qd 0,qd 0]]),(1,.dat 1 (g.map (eI .i64)))],2⟩) qe ?_ ?_
 ·refine Qm (q9t b) (fun h=>⟨[(0,q9 b),(2,.ref 0 9 0 0),(3,.d (qd (w64 (Int.tdiv b 4)))),(4,.hs 1 1 0 h.2.length),(5,q9 h.1)],[(0,.dat 9 [[qd 0,qd 0,qd 0,qd 0,qd 0,qd 0,qd 0,qd 0,qd 0]]),(1,.dat 1 (h.2.map (eI .i64)))],2⟩) _ k p (wkA [(0,0)] [] [1]) ?_;intro h y8 c;unfold q9t at c;refine qg<|qc<|U J<|O _ J<|q8 ?_;refine qn J c (fun _ c=>?_) (fun _ c=>?_)
  ·refine qp<|qg<|q7 c fun q f c=>?_;refine Qo (fun j=>j = q) (fun j=>⟨[(0,q9 b),(2,.ref 0 9 0 0),(3,.d (qd (w64 (Int.tdiv b 4)))),(4,.hs 1 1 0 j.length),(5,q9 h.1)],[(0,.dat 9 [[qd 0,qd 0,qd 0,qd 0,qd 0,qd 0,qd 0,qd 0,qd 0]]),(1,.dat 1 (j.map (eI .i64)))],2⟩) qe ?_ ?_
   ·refine qc<|U J<|O _ J<|U J<|O _ J<|O _ J<|q8 ?_;refine qn J f (fun _ f=>?_) (fun _ f=>?_)
    ·refine Q5<|U J<|U J<|Qj _ _ J<|q7 f fun ad s f=>Yh _ s J J J J J J J (Yf J J) J J J J<|qa J<|Q4 ?_;obtain rfl:=qw f;exact ⟨_,J,wkA [(0,0),(1,3)] [] []⟩
    refine qp<|Ql ?_;obtain rfl:=qw f;exact ⟨_,J,wkA [(0,0),(1,1)] [] []⟩
   intro j hb;subst hb;refine Q5<|U J<|O _ J<|qa J<|Q4<|⟨_,qr c,wkA [(0,0),(1,1)] [] []⟩
  refine Qh ?_;refine ⟨_,qr c,fun hm=>?_⟩;subst hm;exact ⟨_,J,wkA [(0,0),(1,1)] [] []⟩
 intro g hb;subst hb;refine qc<|U J<|U J<|O _ J<|q7 a fun l m a=>Q0 m J J<|Qf _ m J<|qa J<|qt<|U J<|q7 a fun t u a=>Q1 (qdk (w64 (Int.tdiv b 4)) t u) J<|U J<|q7 a fun v x a=>Q1 (qdk l v x) J<|U J<|q7 a fun n y a=>Q1 (qdk (w64 (Int.tdiv b 4)) n y) J<|U J<|q7 a fun o z a=>Q1 (qdk l o z) J<|q7 a fun aa ab a=>Q1 (qz3 n o aa ab) J<|O _ J<|Qd 0 _ J<|qu ?_;cases a;exact Q7 _ J
theorem qz8 (a : qh × qh × qh) (c : qh) (r : qh) (b : q9u a c = some r) : Pure Tryz.prog tab 76 [.agg [qd a.1.X,qd a.1.Y,qd a.1.Z,qd a.2.1.X,qd a.2.1.Y,qd a.2.1.Z,qd a.2.2.X,qd a.2.2.Y,qd a.2.2.Z],.agg (Qs c)] (.agg (Qs r)):=by
 unfold q9u at b;refine Qk Tryz.func76 J qi qi J<|qc<|Qj _ _ J<|Qj _ _ J<|Qr J J<|q8<|qg<|Qi [Qt 2,q6,q6,q6,qx 0,q6,qx 1,q6,q6,qx 0,q6,qx 1,q6,q6,qx 0,q6,qx 1,q6] qi<|O _ J<|O _ J<|O _ J<|O _ J<|q7 b fun d j b=>Q1 (qdl c.X a.1 d j) J<|O _ J<|O _ J<|O _ J<|O _ J<|q7 b fun f k b=>Q1 (qdl c.Y a.2.1 f k) J<|O _ J<|O _ J<|O _ J<|O _ J<|q7 b fun g l b=>Q1 (qdl c.Z a.2.2 g l) J<|q7 b fun h m b=>Q1 (qhg f g h m) J<|q7 b fun n o b=>Q1 (qhg d h n o) J<|Qd 2 _ J<|qu ?_;cases b;exact Q7 _ J
theorem qob (b : Kv) (c : qh) (r : qh) (a : q4v b c = some r) : Pure Tryz.prog tab 38 [.agg [.int .u8 b.Turn,qd b.At.X,qd b.At.Y,qd b.At.Z],.agg (Qs c)] (.agg (Qs r)):=by
 unfold q4v at a;refine Qk Tryz.func38 J qi qi J<|qc<|Qj _ _ J<|Qj _ _ J<|Qr J J<|q8<|qg<|Qi [Qt 2,q6,qx 0,q6,q6,qx 1,q6,q6,qx 0,q6] qi<|O _ J<|O _ J<|O _ J<|q7 a fun d g a=>Q1 (qz5 (w64 b.Turn) d g) J<|O _ J<|q7 a fun f h a=>Q1 (qz8 d c f h) J<|O _ J<|O _ J<|q7 a fun j k a=>Q1 (qhg f b.At j k) J<|Qd 2 _ J<|qu ?_;cases a;exact Q7 _ J
theorem q17l (d : List qf) (f : qh) (b : qh) (g : Int) (r : Bool) (a : qd0 d f b g = some r) : Pure Tryz.prog tab 10 [.sl 6 (d.map Q6),.agg (Qs f),.agg (Qs b),.int .u8 g] (.bool r):=by
 unfold qd0 at a;refine Qk Tryz.func10 J qi qi J<|qc<|Qj _ _ J<|Qj _ _ J<|qa J<|qt<|q7 a fun r1 h2 a=>Q1 (qmm r1 h2) J<|qa J<|q8<|qg<|qc<|U J<|O _ J<|q7 a fun r3 h4 a=>Q1 (qmo d b r3 h4) J<|O _ J<|q7 a fun c7 c a=>?_;refine Q9 6 (fun A st=>∃ u v x y z,st = A [(35,Q2 c7),(34,z),(33,y),(32,x),(31,v),(30,u)]) ?_ ?_
 ·refine Qa J J c (fun c=>?_) (fun c=>?_)
  ·refine qb J<|qb J<|qb J<|qb J<|O _ J<|q8 ?_;cases c;exact ⟨_,_,_,_,_,J⟩
  refine O _ J<|O _ J<|q7 c fun bn bo c=>Q1 (qzm f b bn bo) J<|O _ J<|O _ J<|q8 ?_;cases c;exact ⟨_,_,_,_,_,J⟩
 rintro _ ⟨u,v,x,y,z,rfl⟩;refine q7 a fun bp h a=>?_;refine Q9 4 (fun A st=>∃ aa ab ac,st = A [(39,Q2 bp),(38,ac),(37,ab),(36,aa)]) ?_ ?_
 ·refine Qa J J h (fun h=>?_) (fun h=>?_)
  ·refine qb J<|qb J<|O _ J<|q8 ?_;cases h;exact ⟨_,_,_,J⟩
  refine U J<|O _ J<|O _ J<|q8 ?_;cases h;exact ⟨_,_,_,J⟩
 rintro _ ⟨aa,ab,ac,rfl⟩;refine q7 a fun bq j a=>?_;refine Q9 4 (fun A st=>∃ ad ae af,st = A [(43,Q2 bq),(42,af),(41,ae),(40,ad)]) ?_ ?_
 ·refine Qa J J j (fun j=>?_) (fun j=>?_)
  ·refine qb J<|qb J<|O _ J<|q8 ?_;cases j;exact ⟨_,_,_,J⟩
  refine U J<|O _ J<|O _ J<|q8 ?_;cases j;exact ⟨_,_,_,J⟩
 rintro _ ⟨ad,ae,af,rfl⟩;refine q8 ?_;refine qn J a (fun _ a=>?_) (fun _ a=>?_)
 ·refine qc<|U J<|qa J<|qu ?_;cases a;exact Q7 _ J
 refine qp<|qc<|U J<|O _ J<|Qr J J<|Qd 2 _ J<|qt<|U J<|O _ J<|q7 a fun s br a=>Q1 (q152 d ({Turn:=g,At:=({X:=0,Y:=0,Z:=0} : qh)} : Kv) s br) J<|U J<|O _ J<|O _ J<|qa J<|qa J<|q8<|qg<|qc<|U J<|O _ J<|q8 ?_;refine qn J a (fun _ a=>?_) (fun _ a=>?_)
 ·refine qc<|U J<|q7 a fun bs k a=>?_;refine Q9 4 (fun A st=>∃ ag ah ai,st = A [(59,Q2 bs),(58,ai),(57,ah),(56,ag)]) ?_ ?_
  ·refine Qa J J k (fun k=>?_) (fun k=>?_)
   ·refine U J<|O _ J<|O _ J<|q8 ?_;cases k;exact ⟨_,_,_,J⟩
   refine qb J<|qb J<|O _ J<|q8 ?_;cases k;exact ⟨_,_,_,J⟩
  rintro _ ⟨ag,ah,ai,rfl⟩;refine qa J<|qu ?_;cases a;exact Q7 _ J
 refine qp<|qg<|Qi [Qt 4,Qt 3,(some [],[4]),(some [],[3]),q6,qx 1,qx 2,q6,qx 0,qx 2] qi<|O _ J<|O _ J<|q7 a fun aj bt a=>Q1 (qob ({Turn:=g,At:=({X:=0,Y:=0,Z:=0} : qh)} : Kv) f aj bt) J<|O _ J<|O _ J<|q7 a fun t bu a=>Q1 (qob ({Turn:=g,At:=({X:=0,Y:=0,Z:=0} : qh)} : Kv) b t bu) J<|Qr J J<|Qr J J<|Qd 3 _ J<|Qd 4 _ J<|qt<|U J<|O _ J<|O _ J<|q7 a fun bv bw a=>Q1 (qim d f b bv bw) J<|U J<|O _ J<|O _ J<|Qr J J<|Qd 5 _ J<|qa J<|qt<|U J<|O _ J<|O _ J<|q7 a fun bz ca a=>Q1 (qim s.1 aj t bz ca) J<|U J<|O _ J<|O _ J<|Qr J J<|Qd 6 _ J<|qa J<|qt ?_;refine U J<|O _ J<|q7 a fun cb cc a=>Q1 (qbo d b cb cc) J<|U J<|O _ J<|O _ J<|O _ J<|qa J<|qa J<|qa J<|qt<|U J<|O _ J<|q7 a fun cd ce a=>Q1 (qbo s.1 t cd ce) J<|U J<|O _ J<|O _ J<|O _ J<|qa J<|qa J<|qa J<|qt<|U J<|q7 a fun cf l a=>?_;refine Q9 5 (fun A st=>∃ ak al am an,st = A [(99,Q2 cf),(98,an),(97,am),(96,al),(95,ak)]) ?_ ?_
 ·refine Qa J J l (fun l=>?_) (fun l=>?_)
  ·refine U J<|U J<|O _ J<|O _ J<|q8 ?_;cases l;exact ⟨_,_,_,_,J⟩
  refine qb J<|qb J<|qb J<|O _ J<|q8 ?_;cases l;exact ⟨_,_,_,_,J⟩
 rintro _ ⟨ak,al,am,an,rfl⟩;refine q7 a fun cg m a=>?_;refine Q9 5 (fun A st=>∃ ao ap aq ar,st = A [(104,Q2 cg),(103,ar),(102,aq),(101,ap),(100,ao)]) ?_ ?_
 ·refine Qa J J m (fun m=>?_) (fun m=>?_)
  ·refine O _ J<|O _ J<|O _ J<|O _ J<|q8 ?_;cases m;exact ⟨_,_,_,_,J⟩
  refine qb J<|qb J<|qb J<|O _ J<|q8 ?_;cases m;exact ⟨_,_,_,_,J⟩
 rintro _ ⟨ao,ap,aq,ar,rfl⟩;refine q7 a fun ch n a=>?_;refine Q9 4 (fun A st=>∃ au av aw,st = A [(108,Q2 ch),(107,aw),(106,av),(105,au)]) ?_ ?_
 ·refine Qa J J n (fun n=>?_) (fun n=>?_)
  ·refine U J<|O _ J<|O _ J<|q8 ?_;cases n;exact ⟨_,_,_,J⟩
  refine qb J<|qb J<|O _ J<|q8 ?_;cases n;exact ⟨_,_,_,J⟩
 rintro _ ⟨au,av,aw,rfl⟩;refine q7 a fun ci o a=>?_;refine Q9 4 (fun A st=>∃ ax ay az,st = A [(112,Q2 ci),(111,az),(110,ay),(109,ax)]) ?_ ?_
 ·refine Qa J J o (fun o=>?_) (fun o=>?_)
  ·refine U J<|O _ J<|O _ J<|q8 ?_;cases o;exact ⟨_,_,_,J⟩
  refine qb J<|qb J<|O _ J<|q8 ?_;cases o;exact ⟨_,_,_,J⟩
 rintro _ ⟨ax,ay,az,rfl⟩;refine q7 a fun cj p a=>?_;refine Q9 5 (fun A st=>∃ ba bb bc bd,st = A [(117,Q2 cj),(116,bd),(115,bc),(114,bb),(113,ba)]) ?_ ?_
 ·refine Qa J J p (fun p=>?_) (fun p=>?_)
  ·refine U J<|U J<|O _ J<|O _ J<|q8 ?_;cases p;exact ⟨_,_,_,_,J⟩
  refine qb J<|qb J<|qb J<|O _ J<|q8 ?_;cases p;exact ⟨_,_,_,_,J⟩
 rintro _ ⟨ba,bb,bc,bd,rfl⟩;refine q7 a fun ck q a=>?_;refine Q9 5 (fun A st=>∃ be bf bg bh,st = A [(122,Q2 ck),(121,bh),(120,bg),(119,bf),(118,be)]) ?_ ?_
 ·refine Qa J J q (fun q=>?_) (fun q=>?_)
  ·refine U J<|U J<|O _ J<|O _ J<|q8 ?_;cases q;exact ⟨_,_,_,_,J⟩
  refine qb J<|qb J<|qb J<|O _ J<|q8 ?_;cases q;exact ⟨_,_,_,_,J⟩
 rintro _ ⟨be,bf,bg,bh,rfl⟩;refine qa J<|qu ?_;cases a;exact Q7 _ J
end Go.Proofs.YtmnfbjlabfeneaaGreat
