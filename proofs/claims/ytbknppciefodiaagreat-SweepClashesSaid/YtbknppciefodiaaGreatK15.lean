/- W_Alla -/
import Derived.Test.YtbknppciefodiaaGreatK14
namespace Go.Proofs.YtbknppciefodiaaGreat
open Go Go.Am Go.Sh
set_option maxHeartbeats 8000000
set_option maxRecDepth 100000
theorem q2k (h : Qb) (j : Int) (r : Bool) (a : Zt h j = some r) : Pure Tryz.prog tab 27 [.agg [q9 h.X,q9 h.Y,q9 h.Z],q9 j] (.bool r):=by
 unfold Zt at a
 refine Qf Tryz.func27 J qh qh J<|qc<|Qj _ _ J<|qb J<|qp<|G _ J<|G _ J<|O J<|G _ J ?_
 obtain ⟨c1,b,a⟩:=q6 a
 refine Q2 6 (fun A st=>∃ k l m n o,st = A [(14,qu c1),(13,o),(12,n),(11,m),(10,l),(9,k)]) ?_ ?_
 ·refine Q0 J J b (fun b=>?_) (fun b=>?_)
  ·refine G _ J<|G _ J<|O J<|G _ J<|G _ J<|qa ?_
   obtain rfl:=qd b
   exact ⟨_,_,_,_,_,J⟩
  refine q8 J<|q8 J<|q8 J<|q8 J<|G _ J<|qa ?_
  obtain rfl:=qd b
  exact ⟨_,_,_,_,_,J⟩
 rintro _ ⟨k,l,m,n,o,rfl⟩
 obtain ⟨c8,c,a⟩:=q6 a
 refine Q2 6 (fun A st=>∃ p q s t u,st = A [(20,qu c8),(19,u),(18,t),(17,s),(16,q),(15,p)]) ?_ ?_
 ·refine Q0 J J c (fun c=>?_) (fun c=>?_)
  ·refine G _ J<|G _ J<|O J<|G _ J<|G _ J<|qa ?_
   obtain rfl:=qd c
   exact ⟨_,_,_,_,_,J⟩
  refine q8 J<|q8 J<|q8 J<|q8 J<|G _ J<|qa ?_
  obtain rfl:=qd c
  exact ⟨_,_,_,_,_,J⟩
 rintro _ ⟨p,q,s,t,u,rfl⟩
 obtain ⟨aj,d,a⟩:=q6 a
 refine Q2 5 (fun A st=>∃ v w x y,st = A [(25,qu aj),(24,y),(23,x),(22,w),(21,v)]) ?_ ?_
 ·refine Q0 J J d (fun d=>?_) (fun d=>?_)
  ·refine G _ J<|G _ J<|G _ J<|G _ J<|qa ?_
   obtain rfl:=qd d
   exact ⟨_,_,_,_,J⟩
  refine q8 J<|q8 J<|q8 J<|G _ J<|qa ?_
  obtain rfl:=qd d
  exact ⟨_,_,_,_,J⟩
 rintro _ ⟨v,w,x,y,rfl⟩
 obtain ⟨ak,f,a⟩:=q6 a
 refine Q2 5 (fun A st=>∃ z aa ab ac,st = A [(30,qu ak),(29,ac),(28,ab),(27,aa),(26,z)]) ?_ ?_
 ·refine Q0 J J f (fun f=>?_) (fun f=>?_)
  ·refine G _ J<|G _ J<|G _ J<|G _ J<|qa ?_
   obtain rfl:=qd f
   exact ⟨_,_,_,_,J⟩
  refine q8 J<|q8 J<|q8 J<|G _ J<|qa ?_
  obtain rfl:=qd f
  exact ⟨_,_,_,_,J⟩
 rintro _ ⟨z,aa,ab,ac,rfl⟩
 obtain ⟨al,g,a⟩:=q6 a
 refine Q2 5 (fun A st=>∃ ad ae af ag,st = A [(35,qu al),(34,ag),(33,af),(32,ae),(31,ad)]) ?_ ?_
 ·refine Q0 J J g (fun g=>?_) (fun g=>?_)
  ·refine G _ J<|G _ J<|G _ J<|G _ J<|qa ?_
   obtain rfl:=qd g
   exact ⟨_,_,_,_,J⟩
  refine q8 J<|q8 J<|q8 J<|G _ J<|qa ?_
  obtain rfl:=qd g
  exact ⟨_,_,_,_,J⟩
 rintro _ ⟨ad,ae,af,ag,rfl⟩
 refine qb J<|qo ?_
 obtain rfl:=qd a
 exact qy _ J
theorem qvr (b : Qn) (k : List (List qg)) (r : Bool) (c : q5t b k = some r) : Pure Tryz.prog tab 10 [.agg [.sl 7 (b.Lines.map Kb),.sl 5 (b.Marks.map Kj),.int .u8 b.End.Frame.Turn,q9 b.End.Frame.At.X,q9 b.End.Frame.At.Y,q9 b.End.Frame.At.Z,q9 b.End.Drawn],.sl 1 (k.map Ql)] (.bool r):=by
 unfold q5t at c
 refine Qf Tryz.func10 J qh qh J<|qc<|Qj _ _ J<|qb J<|qa<|qf<|qc<|G _ J<|G _ J<|Qa J<|G _ J ?_
 obtain ⟨c1,l,c⟩:=q6 c
 refine Q2 6 (fun A st=>∃ q s t u v,st = A [(18,qu c1),(17,v),(16,u),(15,t),(14,s),(13,q)]) ?_ ?_
 ·refine Q0 J J l (fun l=>?_) (fun l=>?_)
  ·refine q8 J<|q8 J<|q8 J<|q8 J<|G _ J<|qa ?_
   obtain rfl:=qd l
   exact ⟨_,_,_,_,_,J⟩
  refine G _ J<|G _ J<|Qa J<|G _ J<|G _ J<|qa ?_
  obtain rfl:=qd l
  exact ⟨_,_,_,_,_,J⟩
 rintro _ ⟨q,s,t,u,v,rfl⟩
 obtain ⟨c8,m,c⟩:=q6 c
 refine Q2 5 (fun A st=>∃ w x y z,st = A [(23,qu c8),(22,z),(21,y),(20,x),(19,w)]) ?_ ?_
 ·refine Q0 J J m (fun m=>?_) (fun m=>?_)
  ·refine q8 J<|q8 J<|q8 J<|G _ J<|qa ?_
   obtain rfl:=qd m
   exact ⟨_,_,_,_,J⟩
  refine O J<|Qa J<|G _ J<|G _ J<|qa ?_
  obtain rfl:=qd m
  exact ⟨_,_,_,_,J⟩
 rintro _ ⟨w,x,y,z,rfl⟩
 refine qa ?_
 refine qm J c (fun _ c=>?_) (fun _ c=>?_)
 ·refine qc<|qb J<|qo ?_
  obtain rfl:=qd c
  exact qy _ J
 refine qk<|qf<|qc<|qb J<|qa ?_
 obtain ⟨aa,bt,c⟩:=q6 c
 refine Qc (fun o=>.inl o = aa) (fun o=>⟨[(1,.d (.sl 1 (k.map Ql)))],[],0⟩) qe ?_ ?_
 ·refine Q5 (q5u b) (fun ab=>⟨[(1,.d (.sl 1 (k.map Ql))),(2,.ref 0 7 0 0),(5,q7 ab)],[(0,.dat 7 [[.sl 7 (b.Lines.map Kb),.sl 5 (b.Marks.map Kj),.int .u8 b.End.Frame.Turn,q9 b.End.Frame.At.X,q9 b.End.Frame.At.Y,q9 b.End.Frame.At.Z,q9 b.End.Drawn]])],1⟩) 0 aa bt (wkA [(0,0)] [] []) ?_
  intro ab cg a
  unfold q5u at a
  refine qf<|qc<|O J<|G _ J<|G _ J<|Qa J<|G _ J<|qa ?_
  refine qm J a (fun _ a=>?_) (fun _ a=>?_)
  ·refine qk<|qf<|qx<|qf<|Q9 [Qm 2,Qm 1,(some [],[2]),(some [],[1]),U,U,U,U,qq 0,U,U,U,U,U,qq 0,U] qh<|G _ J<|G _ J<|O J ?_
   obtain ⟨g,bu,a⟩:=q6 a
   refine Q1 bu J<|G _ J<|G _ J<|G _ J<|G _ J<|O J ?_
   obtain ⟨h,bv,a⟩:=q6 a
   refine Q1 bv J<|G _ J<|G _ J<|Qv J J<|Qv J J<|Qd 1 _ J<|Qd 2 _ J<|qp<|G _ J ?_
   obtain ⟨bw,bz,a⟩:=q6 a
   refine qz (q2k g.From (-2000000) bw bz) J<|G _ J ?_
   obtain ⟨ca,j,a⟩:=q6 a
   refine Q2 5 (fun A st=>∃ ac ad ae af,st = A [(50,qu ca),(49,af),(48,ae),(47,ad),(46,ac)]) ?_ ?_
   ·refine Q0 J J j (fun j=>?_) (fun j=>?_)
    ·refine q8 J<|q8 J<|q8 J<|G _ J<|qa ?_
     obtain rfl:=qd j
     exact ⟨_,_,_,_,J⟩
    refine G _ J ?_
    obtain ⟨cb,cc,j⟩:=q6 j
    refine qz (q2k h.To (-2000000) cb cc) J<|G _ J<|G _ J<|qa ?_
    obtain rfl:=qd j
    exact ⟨_,_,_,_,J⟩
   rintro _ ⟨ac,ad,ae,af,rfl⟩
   obtain ⟨cd,n,a⟩:=q6 a
   refine Q2 34 (fun A st=>∃ ag ah ai aj ak al am an ao ap aq ar au av aw ax ay az ba bb bc bd be bf bg bh bi bj bk bl bm bn bo,st = A [(84,qu cd),(83,bo),(82,bn),(81,bm),(80,bl),(79,bk),(78,bj),(77,bi),(76,bh),(75,bg),(74,bf),(73,be),(72,bd),(71,bc),(70,bb),(69,ba),(68,az),(67,ay),(66,ax),(65,aw),(64,av),(63,au),(62,ar),(61,aq),(60,ap),(59,ao),(58,an),(57,am),(56,al),(55,ak),(54,aj),(53,ai),(52,ah),(51,ag)]) ?_ ?_
   ·refine Q0 J J n (fun n=>?_) (fun n=>?_)
    ·refine q8 J<|q8 J<|q8 J<|q8 J<|q8 J<|q8 J<|q8 J<|q8 J<|q8 J<|q8 J<|q8 J<|q8 J<|q8 J<|q8 J<|q8 J<|q8 J<|q8 J<|q8 J<|q8 J<|q8 J<|q8 J<|q8 J<|q8 J<|q8 J<|q8 J<|q8 J<|q8 J<|q8 J<|q8 J<|q8 J<|q8 J<|q8 J<|G _ J<|qa ?_
     obtain rfl:=qd n
     exact ⟨_,_,_,_,_,_,_,_,_,_,_,_,_,_,_,_,_,_,_,_,_,_,_,_,_,_,_,_,_,_,_,_,_,J⟩
    refine G _ J<|G _ J<|G _ J<|G _ J<|G _ J<|G _ J<|G _ J<|G _ J<|G _ J<|G _ J<|G _ J<|G _ J<|G _ J<|G _ J<|G _ J<|G _ J<|G _ J<|G _ J<|G _ J<|G _ J<|G _ J<|G _ J<|G _ J<|G _ J<|G _ J<|G _ J<|G _ J<|G _ J<|G _ J<|G _ J<|U9 (r:=max (max (max (max (max (w64 (g.From.X - h.To.X)) (w64 (h.To.X - g.From.X))) (w64 (g.From.Y - h.To.Y))) (w64 (h.To.Y - g.From.Y))) (w64 (g.From.Z - h.To.Z))) (w64 (h.To.Z - g.From.Z))) J J (by simp only [U7];rfl)<|G _ J<|G _ J<|qa ?_
    obtain rfl:=qd n
    exact ⟨_,_,_,_,_,_,_,_,_,_,_,_,_,_,_,_,_,_,_,_,_,_,_,_,_,_,_,_,_,_,_,_,_,J⟩
   rintro _ ⟨ag,ah,ai,aj,ak,al,am,an,ao,ap,aq,ar,au,av,aw,ax,ay,az,ba,bb,bc,bd,be,bf,bg,bh,bi,bj,bk,bl,bm,bn,bo,rfl⟩
   refine qa ?_
   refine qm J a (fun _ a=>?_) (fun _ a=>?_)
   ·refine qc<|qb J<|qo ?_
    refine ⟨_,(Option.some.inj a).symm,fun hm=>?_⟩
    subst hm
    obtain rfl:=qd c
    exact qy _ J
   refine qk<|Q7<|Qg<|qt<|O J<|G _ J<|qb J<|qr ?_
   exact ⟨_,(Option.some.inj a).symm,wkA [(0,0)] [] []⟩
  refine Q3 ?_
  refine ⟨_,(Option.some.inj a).symm,fun hm=>?_⟩
  subst hm
  exact ⟨_,J,wkA [] [] []⟩
 intro o hb
 subst hb
 refine qf<|qc<|qb J<|qa ?_
 obtain ⟨bp,ce,c⟩:=q6 c
 refine Qc (fun p=>.inl p = bp) (fun p=>⟨[],[],0⟩) qe ?_ ?_
 ·refine Q5 (q5v k) (fun bq=>⟨[(1,.d (.sl 1 (k.map Ql))),(8,q7 bq)],[],0⟩) 0 bp ce (wkA [] [] []) ?_
  intro bq ch f
  unfold q5v at f
  refine qf<|qc<|O J<|O J<|Qa J<|G _ J<|qa ?_
  refine qm J f (fun _ f=>?_) (fun _ f=>?_)
  ·refine qk<|qf<|qx<|qc<|O J<|O J ?_
   obtain ⟨ci,cf,f⟩:=q6 f
   refine Q1 cf J<|G _ J<|Qa J<|G _ J<|qa ?_
   refine qm J f (fun _ f=>?_) (fun _ f=>?_)
   ·refine qc<|qb J<|qo ?_
    refine ⟨_,(Option.some.inj f).symm,fun hm=>?_⟩
    subst hm
    obtain rfl:=qd c
    exact qy _ J
   refine qk<|Q7<|Qg<|qt<|O J<|G _ J<|qb J<|qr ?_
   exact ⟨_,(Option.some.inj f).symm,wkA [] [] []⟩
  refine Q3 ?_
  refine ⟨_,(Option.some.inj f).symm,fun hm=>?_⟩
  subst hm
  exact ⟨_,J,wkA [] [] []⟩
 intro p hb
 subst hb
 refine qc<|qb J<|qo ?_
 obtain rfl:=qd c
 exact qy _ J
theorem qy6 (c : List Qx) (g : Qx→Option Bool) (p1F : FuncId) (p1C : List DV) (p1Ok : ∀ (b : Qx) (r : Bool),g b = some r→Pure Tryz.prog tab p1F ([.agg [q9 b.From.X,q9 b.From.Y,q9 b.From.Z,q9 b.To.X,q9 b.To.Y,q9 b.To.Z,q9 b.Depth]] ++ p1C) (.bool r)) (r : Int) (f : qcs c g = some r) : Pure Tryz.prog tab 96 [.sl 7 (c.map Kb),.fn p1F p1C] (q9 r):=by
 unfold qcs at f
 refine Qf Tryz.func96 J qh qh J<|qc<|qb J<|qa<|qf<|qc<|O J<|Qa J<|O J<|qa ?_
 obtain ⟨j,l,f⟩:=q6 f
 refine Qc (fun h=>.inl h = j) (fun h=>⟨[],[],0⟩) qe ?_ ?_
 ·refine Q5 (q6e c g) (fun k=>⟨[(0,.d (.sl 7 (c.map Kb))),(1,.d (.fn p1F p1C)),(7,q7 (c.length : Int)),(8,q7 k)],[],0⟩) 0 j l (wkA [] [] []) ?_
  intro k q a
  unfold q6e at a
  refine qc<|G _ J<|qa<|qf ?_
  refine qm J a (fun _ a=>?_) (fun _ a=>?_)
  ·refine qk<|qf<|qx<|qc<|O J<|qb J<|qp<|O J<|O J<|O J ?_
   obtain ⟨m,n,a⟩:=q6 a
   refine Q1 n J<|G _ J ?_
   obtain ⟨o,p,a⟩:=q6 a
   refine Y7 _ (p1Ok m o p) J J J (.inl J)<|qa ?_
   refine qm J a (fun _ a=>?_) (fun _ a=>?_)
   ·refine qc<|O J<|qb J<|qo ?_
    refine ⟨_,(Option.some.inj a).symm,fun hm=>?_⟩
    subst hm
    obtain rfl:=qd f
    exact qy _ J
   refine qk<|Q7<|Qg<|qt<|G _ J<|O J<|qr ?_
   exact ⟨_,(Option.some.inj a).symm,wkA [] [] []⟩
  refine Q3 ?_
  refine ⟨_,(Option.some.inj a).symm,fun hm=>?_⟩
  subst hm
  exact ⟨_,J,wkA [] [] []⟩
 intro h hb
 subst hb
 refine qc<|qb J<|qo ?_
 obtain rfl:=qd f
 exact qy _ J
theorem qmr (c : List Qx) (d : Qx→Option Bool) (p1F : FuncId) (p1C : List DV) (p1Ok : ∀ (a : Qx) (r : Bool),d a = some r→Pure Tryz.prog tab p1F ([.agg [q9 a.From.X,q9 a.From.Y,q9 a.From.Z,q9 a.To.X,q9 a.To.Y,q9 a.To.Z,q9 a.Depth]] ++ p1C) (.bool r)) (r : Bool) (b : q6c c d = some r) : Pure Tryz.prog tab 65 [.sl 7 (c.map Kb),.fn p1F p1C] (.bool r):=by
 unfold q6c at b
 refine Qf Tryz.func65 J qh qh J<|qc<|qb J<|qp<|O J<|O J ?_
 obtain ⟨f,g,b⟩:=q6 b
 refine qz (qy6 c d p1F p1C p1Ok f g) J<|G _ J<|qb J<|qo ?_
 obtain rfl:=qd b
 exact qy _ J
theorem qo4 (a : Qb) (r : Bool) (c : qb2 a = some r) : Pure Tryz.prog tab 88 [.agg [q9 a.X,q9 a.Y,q9 a.Z]] (.bool r):=by
 unfold qb2 at c
 refine Qf Tryz.func88 J qh qh J<|qc<|Qj _ _ J<|qb J<|qp<|G _ J<|G _ J<|G _ J<|G _ J<|G _ J<|G _ J<|q2g (r:=min (min a.X a.Y) a.Z) J J (by simp only [q2e];rfl)<|G _ J ?_
 obtain ⟨o,b,c⟩:=q6 c
 refine Q2 10 (fun A st=>∃ d f g h j k l m n,st = A [(20,qu o),(19,n),(18,m),(17,l),(16,k),(15,j),(14,h),(13,g),(12,f),(11,d)]) ?_ ?_
 ·refine Q0 J J b (fun b=>?_) (fun b=>?_)
  ·refine G _ J<|G _ J<|G _ J<|G _ J<|G _ J<|G _ J<|U9 (r:=max (max a.X a.Y) a.Z) J J (by simp only [U7];rfl)<|G _ J<|G _ J<|qa ?_
   obtain rfl:=qd b
   exact ⟨_,_,_,_,_,_,_,_,_,J⟩
  refine q8 J<|q8 J<|q8 J<|q8 J<|q8 J<|q8 J<|q8 J<|q8 J<|G _ J<|qa ?_
  obtain rfl:=qd b
  exact ⟨_,_,_,_,_,_,_,_,_,J⟩
 rintro _ ⟨d,f,g,h,j,k,l,m,n,rfl⟩
 refine qb J<|qo ?_
 obtain rfl:=qd c
 exact qy _ J
theorem q12q (a : Qx) (r : Bool) (b : q7x a = some r) : Pure Tryz.prog tab 87 [.agg [q9 a.From.X,q9 a.From.Y,q9 a.From.Z,q9 a.To.X,q9 a.To.Y,q9 a.To.Z,q9 a.Depth]] (.bool r):=by
 unfold q7x at b
 refine Qf Tryz.func87 J qh qh J<|qc<|Qj _ _ J<|qb J<|qp<|qb J<|qa<|qf<|qc<|G _ J<|G _ J<|G _ J<|G _ J<|G _ J<|G _ J<|G _ J<|G _ J<|G _ J<|G _ J<|G _ J<|G _ J<|G _ J<|G _ J<|G _ J<|G _ J<|G _ J<|G _ J<|G _ J<|G _ J<|G _ J<|G _ J<|O J<|qa ?_
 obtain ⟨m,w,b⟩:=q6 b
 refine Qc (fun j=>j = m) (fun j=>⟨[(1,.ref 0 7 0 0),(3,q7 j)],[(0,.dat 7 [[q9 a.From.X,q9 a.From.Y,q9 a.From.Z,q9 a.To.X,q9 a.To.Y,q9 a.To.Z,q9 a.Depth]])],1⟩) qe ?_ ?_
 ·refine Q5 (Uu a) (fun k=>⟨[(1,.ref 0 7 0 0),(3,q7 k.1),(27,.d (.agg [q9 (w64 (a.To.X - a.From.X)),q9 (w64 (a.To.Y - a.From.Y)),q9 (w64 (a.To.Z - a.From.Z))])),(28,q7 k.2)],[(0,.dat 7 [[q9 a.From.X,q9 a.From.Y,q9 a.From.Z,q9 a.To.X,q9 a.To.Y,q9 a.To.Z,q9 a.Depth]])],1⟩) (0,0) m w (wkA [(0,0)] [] []) ?_
  intro k y6 c
  unfold Uu at c
  refine qc<|G _ J<|qa<|qf ?_
  refine qm J c (fun _ c=>?_) (fun _ c=>?_)
  ·refine qk<|qf ?_
   obtain ⟨x,f,c⟩:=q6 c
   refine Qc (fun l=>l = x) (fun l=>⟨[(1,.ref 0 7 0 0),(3,q7 l),(27,.d (.agg [q9 (w64 (a.To.X - a.From.X)),q9 (w64 (a.To.Y - a.From.Y)),q9 (w64 (a.To.Z - a.From.Z))])),(28,q7 k.2)],[(0,.dat 7 [[q9 a.From.X,q9 a.From.Y,q9 a.From.Z,q9 a.To.X,q9 a.To.Y,q9 a.To.Z,q9 a.Depth]])],1⟩) qe ?_ ?_
   ·refine qc ?_
    obtain ⟨y,z,f⟩:=q6 f
    refine qtf (enc:=(eI .i64)) [w64 (a.To.X - a.From.X),w64 (a.To.Y - a.From.Y),w64 (a.To.Z - a.From.Z)] (q7 y) z (fun _=>rfl) J J J J J J<|qb J<|qp<|O J<|G _ J<|qa ?_
    refine qm J f (fun _ f=>?_) (fun _ f=>?_)
    ·refine qt<|O J<|G _ J<|qb J<|qr ?_
     obtain rfl:=qd f
     exact ⟨_,J,wkA [(0,0)] [] []⟩
    refine qk<|Q7 ?_
    obtain rfl:=qd f
    exact ⟨_,J,wkA [(0,0)] [] []⟩
   intro l hb
   subst hb
   refine qt<|G _ J<|O J<|qr ?_
   exact ⟨_,(Option.some.inj c).symm,wkA [(0,0)] [] []⟩
  refine Q3 ?_
  refine ⟨_,(Option.some.inj c).symm,fun hm=>?_⟩
  subst hm
  exact ⟨_,J,wkA [(0,0)] [] []⟩
 intro j hb
 subst hb
 refine qc<|G _ J<|G _ J ?_
 obtain ⟨aa,ab,b⟩:=q6 b
 refine qz (qo4 a.From aa ab) J<|G _ J ?_
 obtain ⟨ac,g,b⟩:=q6 b
 refine Q2 6 (fun A st=>∃ n o p q s,st = A [(45,qu ac),(44,s),(43,q),(42,p),(41,o),(40,n)]) ?_ ?_
 ·refine Q0 J J g (fun g=>?_) (fun g=>?_)
  ·refine q8 J<|q8 J<|q8 J<|q8 J<|G _ J<|qa ?_
   obtain rfl:=qd g
   exact ⟨_,_,_,_,_,J⟩
  refine G _ J<|G _ J ?_
  obtain ⟨ad,ae,g⟩:=q6 g
  refine qz (qo4 a.To ad ae) J<|G _ J<|G _ J<|qa ?_
  obtain rfl:=qd g
  exact ⟨_,_,_,_,_,J⟩
 rintro _ ⟨n,o,p,q,s,rfl⟩
 obtain ⟨af,h,b⟩:=q6 b
 refine Q2 4 (fun A st=>∃ t u v,st = A [(49,qu af),(48,v),(47,u),(46,t)]) ?_ ?_
 ·refine Q0 J J h (fun h=>?_) (fun h=>?_)
  ·refine q8 J<|q8 J<|G _ J<|qa ?_
   obtain rfl:=qd h
   exact ⟨_,_,_,J⟩
  refine O J<|G _ J<|G _ J<|qa ?_
  obtain rfl:=qd h
  exact ⟨_,_,_,J⟩
 rintro _ ⟨t,u,v,rfl⟩
 refine qb J<|qo ?_
 obtain rfl:=qd b
 exact qy _ J
theorem qy7 (c : List Yn) (g : Yn→Option Bool) (p1F : FuncId) (p1C : List DV) (p1Ok : ∀ (b : Yn) (r : Bool),g b = some r→Pure Tryz.prog tab p1F ([.agg [.int .u8 b.Name,.int .u8 b.Frame.Turn,q9 b.Frame.At.X,q9 b.Frame.At.Y,q9 b.Frame.At.Z]] ++ p1C) (.bool r)) (r : Int) (f : qct c g = some r) : Pure Tryz.prog tab 115 [.sl 5 (c.map Kj),.fn p1F p1C] (q9 r):=by
 unfold qct at f
 refine Qf Tryz.func115 J qh qh J<|qc<|qb J<|qa<|qf<|qc<|O J<|Qa J<|O J<|qa ?_
 obtain ⟨j,l,f⟩:=q6 f
 refine Qc (fun h=>.inl h = j) (fun h=>⟨[],[],0⟩) qe ?_ ?_
 ·refine Q5 (q6f c g) (fun k=>⟨[(0,.d (.sl 5 (c.map Kj))),(1,.d (.fn p1F p1C)),(7,q7 (c.length : Int)),(8,q7 k)],[],0⟩) 0 j l (wkA [] [] []) ?_
  intro k q a
  unfold q6f at a
  refine qc<|G _ J<|qa<|qf ?_
  refine qm J a (fun _ a=>?_) (fun _ a=>?_)
  ·refine qk<|qf<|qx<|qc<|O J<|qb J<|qp<|O J<|O J<|O J ?_
   obtain ⟨m,n,a⟩:=q6 a
   refine Q1 n J<|G _ J ?_
   obtain ⟨o,p,a⟩:=q6 a
   refine Y7 _ (p1Ok m o p) J J J (.inl J)<|qa ?_
   refine qm J a (fun _ a=>?_) (fun _ a=>?_)
   ·refine qc<|O J<|qb J<|qo ?_
    refine ⟨_,(Option.some.inj a).symm,fun hm=>?_⟩
    subst hm
    obtain rfl:=qd f
    exact qy _ J
   refine qk<|Q7<|Qg<|qt<|G _ J<|O J<|qr ?_
   exact ⟨_,(Option.some.inj a).symm,wkA [] [] []⟩
  refine Q3 ?_
  refine ⟨_,(Option.some.inj a).symm,fun hm=>?_⟩
  subst hm
  exact ⟨_,J,wkA [] [] []⟩
 intro h hb
 subst hb
 refine qc<|qb J<|qo ?_
 obtain rfl:=qd f
 exact qy _ J
theorem qxz (c : List Yn) (d : Yn→Option Bool) (p1F : FuncId) (p1C : List DV) (p1Ok : ∀ (a : Yn) (r : Bool),d a = some r→Pure Tryz.prog tab p1F ([.agg [.int .u8 a.Name,.int .u8 a.Frame.Turn,q9 a.Frame.At.X,q9 a.Frame.At.Y,q9 a.Frame.At.Z]] ++ p1C) (.bool r)) (r : Bool) (b : q9d c d = some r) : Pure Tryz.prog tab 89 [.sl 5 (c.map Kj),.fn p1F p1C] (.bool r):=by
 unfold q9d at b
 refine Qf Tryz.func89 J qh qh J<|qc<|qb J<|qp<|O J<|O J ?_
 obtain ⟨f,g,b⟩:=q6 b
 refine qz (qy7 c d p1F p1C p1Ok f g) J<|G _ J<|qb J<|qo ?_
 obtain rfl:=qd b
 exact qy _ J
theorem qri (a : Qb) (d : Int) (r : Bool) (c : q8l a d = some r) : Pure Tryz.prog tab 91 [.agg [q9 a.X,q9 a.Y,q9 a.Z],q9 d] (.bool r):=by
 unfold q8l at c
 refine Qf Tryz.func91 J qh qh J<|qc<|Qj _ _ J<|qb J<|qp<|G _ J<|G _ J<|G _ J<|G _ J<|G _ J<|G _ J<|q2g (r:=min (min a.X a.Y) a.Z) J J (by simp only [q2e];rfl)<|O J<|G _ J ?_
 obtain ⟨p,b,c⟩:=q6 c
 refine Q2 10 (fun A st=>∃ f g h j k l m n o,st = A [(23,qu p),(22,o),(21,n),(20,m),(19,l),(18,k),(17,j),(16,h),(15,g),(14,f)]) ?_ ?_
 ·refine Q0 J J b (fun b=>?_) (fun b=>?_)
  ·refine G _ J<|G _ J<|G _ J<|G _ J<|G _ J<|G _ J<|U9 (r:=max (max a.X a.Y) a.Z) J J (by simp only [U7];rfl)<|G _ J<|G _ J<|qa ?_
   obtain rfl:=qd b
   exact ⟨_,_,_,_,_,_,_,_,_,J⟩
  refine q8 J<|q8 J<|q8 J<|q8 J<|q8 J<|q8 J<|q8 J<|q8 J<|G _ J<|qa ?_
  obtain rfl:=qd b
  exact ⟨_,_,_,_,_,_,_,_,_,J⟩
 rintro _ ⟨f,g,h,j,k,l,m,n,o,rfl⟩
 refine qb J<|qo ?_
 obtain rfl:=qd c
 exact qy _ J
theorem qjc (c : Y5) (r : Int) (a : q4y c = some r) : Pure Tryz.prog tab 61 [.agg [.int .u8 c.Turn,q9 c.At.X,q9 c.At.Y,q9 c.At.Z]] (q9 r):=by
 unfold q4y at a
 refine Qf Tryz.func61 J qh qh J<|qc<|Qj _ _ J<|qb J<|qa<|qf<|qc<|G _ J<|G _ J<|G _ J ?_
 obtain ⟨k,b,a⟩:=q6 a
 refine Q2 6 (fun A st=>∃ d f g h j,st = A [(11,qu k),(10,j),(9,h),(8,g),(7,f),(6,d)]) ?_ ?_
 ·refine Q0 J J b (fun b=>?_) (fun b=>?_)
  ·refine q8 J<|q8 J<|q8 J<|q8 J<|G _ J<|qa ?_
   obtain rfl:=qd b
   exact ⟨_,_,_,_,_,J⟩
  refine G _ J<|G _ J ?_
  obtain ⟨l,m,b⟩:=q6 b
  refine qz (qri c.At (-1000000) l m) J<|G _ J<|G _ J<|qa ?_
  obtain rfl:=qd b
  exact ⟨_,_,_,_,_,J⟩
 rintro _ ⟨d,f,g,h,j,rfl⟩
 refine qa ?_
 refine qm J a (fun _ a=>?_) (fun _ a=>?_)
 ·refine qc<|qb J<|qo ?_
  obtain rfl:=qd a
  exact qy _ J
 refine qk<|qc<|qb J<|qo ?_
 obtain rfl:=qd a
 exact qy _ J
theorem q12r (a : Yn) (r : Bool) (b : q7y a = some r) : Pure Tryz.prog tab 90 [.agg [.int .u8 a.Name,.int .u8 a.Frame.Turn,q9 a.Frame.At.X,q9 a.Frame.At.Y,q9 a.Frame.At.Z]] (.bool r):=by
 unfold q7y at b
 refine Qf Tryz.func90 J qh qh J<|qc<|Qj _ _ J<|qb J<|qp<|G _ J<|G _ J ?_
 obtain ⟨c,d,b⟩:=q6 b
 refine qz (qjc a.Frame c d) J<|G _ J<|qb J<|qo ?_
 obtain rfl:=qd b
 exact qy _ J
theorem q12s (b : Qn) (r : Int) (a : qb1 b = some r) : Pure Tryz.prog tab 60 [.agg [.sl 7 (b.Lines.map Kb),.sl 5 (b.Marks.map Kj),.int .u8 b.End.Frame.Turn,q9 b.End.Frame.At.X,q9 b.End.Frame.At.Y,q9 b.End.Frame.At.Z,q9 b.End.Drawn]] (q9 r):=by
 unfold qb1 at a
 refine Qf Tryz.func60 J qh qh J<|qc<|Qj _ _ J<|qb J<|qp<|G _ J<|G _ J ?_
 obtain ⟨r1,h2,a⟩:=q6 a
 refine qz (qmr b.Lines (fun c=>q7x c) 87 [] (fun c r hr=>q12q c r hr) r1 h2) J<|qb J<|qp<|G _ J<|G _ J ?_
 obtain ⟨r3,h4,a⟩:=q6 a
 refine qz (qxz b.Marks (fun c=>q7y c) 90 [] (fun c r hr=>q12r c r hr) r3 h4) J<|qb J<|qa<|qf<|qc<|O J ?_
 obtain ⟨c5,f,a⟩:=q6 a
 refine Q2 3 (fun A st=>∃ h j,st = A [(14,qu c5),(13,j),(12,h)]) ?_ ?_
 ·refine Q0 J J f (fun f=>?_) (fun f=>?_)
  ·refine q8 J<|G _ J<|qa ?_
   obtain rfl:=qd f
   exact ⟨_,_,J⟩
  refine O J<|G _ J<|qa ?_
  obtain rfl:=qd f
  exact ⟨_,_,J⟩
 rintro _ ⟨h,j,rfl⟩
 obtain ⟨af,d,a⟩:=q6 a
 refine Q2 7 (fun A st=>∃ k l m n o p,st = A [(21,qu af),(20,p),(19,o),(18,n),(17,m),(16,l),(15,k)]) ?_ ?_
 ·refine Q0 J J d (fun d=>?_) (fun d=>?_)
  ·refine q8 J<|q8 J<|q8 J<|q8 J<|q8 J<|G _ J<|qa ?_
   obtain rfl:=qd d
   exact ⟨_,_,_,_,_,_,J⟩
  refine G _ J<|G _ J<|G _ J ?_
  obtain ⟨ag,ah,d⟩:=q6 d
  refine qz (qjc b.End.Frame ag ah) J<|G _ J<|G _ J<|qa ?_
  obtain rfl:=qd d
  exact ⟨_,_,_,_,_,_,J⟩
 rintro _ ⟨k,l,m,n,o,p,rfl⟩
 obtain ⟨ai,g,a⟩:=q6 a
 refine Q2 10 (fun A st=>∃ q s t u v w x y z,st = A [(31,qu ai),(30,z),(29,y),(28,x),(27,w),(26,v),(25,u),(24,t),(23,s),(22,q)]) ?_ ?_
 ·refine Q0 J J g (fun g=>?_) (fun g=>?_)
  ·refine q8 J<|q8 J<|q8 J<|q8 J<|q8 J<|q8 J<|q8 J<|q8 J<|G _ J<|qa ?_
   obtain rfl:=qd g
   exact ⟨_,_,_,_,_,_,_,_,_,J⟩
  refine G _ J<|G _ J<|Qa J<|G _ J<|G _ J<|Qa J<|U9 (r:=max (b.Lines.length : Int) (b.Marks.length : Int)) J J (by simp only [U7];rfl)<|G _ J<|G _ J<|qa ?_
  obtain rfl:=qd g
  exact ⟨_,_,_,_,_,_,_,_,_,J⟩
 rintro _ ⟨q,s,t,u,v,w,x,y,z,rfl⟩
 refine qa ?_
 refine qm J a (fun _ a=>?_) (fun _ a=>?_)
 ·refine qc<|qb J<|qo ?_
  obtain rfl:=qd a
  exact qy _ J
 refine qk<|qc<|qb J<|qo ?_
 obtain rfl:=qd a
 exact qy _ J
theorem qgq (a : Int) (r : Int) (b : q7z a = some r) : Pure Tryz.prog tab 69 [q9 a] (q9 r):=by
 unfold q7z at b
 refine Qf Tryz.func69 J qh qh J<|qc<|qb J<|qp<|O J<|O J<|G _ J<|U9 (r:=max a (w64 (0 - a))) J J (by simp only [U7];rfl)<|qb J<|qo ?_
 obtain rfl:=qd b
 exact qy _ J
theorem qo3 (b : Qn) (r : Int × Int) (c : q4n b = some r) : Pure Tryz.prog tab 43 [.agg [.sl 7 (b.Lines.map Kb),.sl 5 (b.Marks.map Kj),.int .u8 b.End.Frame.Turn,q9 b.End.Frame.At.X,q9 b.End.Frame.At.Y,q9 b.End.Frame.At.Z,q9 b.End.Drawn]] (.tup [q9 r.1,q9 r.2]):=by
 unfold q4n at c
 refine Qf Tryz.func43 J qh qh J<|qc<|Qj _ _ J<|qb J<|qb J<|qa<|qf<|qc<|G _ J ?_
 obtain ⟨k,l,c⟩:=q6 c
 refine qz (q12s b k l) J<|qb J<|qp<|O J<|G _ J<|qa ?_
 refine qm J c (fun _ c=>?_) (fun _ c=>?_)
 ·refine qc<|O J<|qb J<|qb J<|qo ?_
  obtain rfl:=qd c
  exact qy _ J
 refine qk<|qc<|qb J<|qa<|qf<|qc<|G _ J<|G _ J<|Qa J<|O J<|qa ?_
 obtain ⟨j,m,c⟩:=q6 c
 refine Qc (fun g=>g = j) (fun g=>⟨[(5,q7 g)],[],0⟩) qe ?_ ?_
 ·refine Q5 (q7w b) (fun h=>⟨[(5,q7 h.1),(14,.d (.sl 7 (b.Lines.map Kb))),(15,q7 (b.Lines.length : Int)),(16,q7 h.2)],[],0⟩) (0,0) j m (wkA [] [] []) ?_
  intro h v a
  unfold q7w at a
  refine qc<|G _ J<|qa<|qf ?_
  refine qm J a (fun _ a=>?_) (fun _ a=>?_)
  ·refine qk<|qf<|qx<|qc ?_
   obtain ⟨f,n,a⟩:=q6 a
   refine Q1 n J<|G _ J<|Qv J J<|Qd 0 _ J<|qa<|Q9 [U,U,U,U,U,qq 0,U,U,qq 0,U,U,U,U,U,qq 0,U,U,qq 0,U,U,U,U,qq 0,U,U,qq 0,U,U,U] qh<|O J<|G _ J<|G _ J<|G _ J<|G _ J<|G _ J<|G _ J<|G _ J ?_
   obtain ⟨o,p,a⟩:=q6 a
   refine qz (qgq (w64 (f.To.X - f.From.X)) o p) J<|G _ J<|G _ J<|G _ J<|G _ J<|G _ J<|G _ J<|G _ J ?_
   obtain ⟨q,s,a⟩:=q6 a
   refine qz (qgq (w64 (f.To.Y - f.From.Y)) q s) J<|G _ J<|G _ J<|G _ J<|G _ J<|G _ J<|G _ J<|G _ J<|G _ J ?_
   obtain ⟨t,u,a⟩:=q6 a
   refine qz (qgq (w64 (f.To.Z - f.From.Z)) t u) J<|G _ J<|G _ J<|qb J<|qr<|Qg<|qt<|G _ J<|O J<|qr ?_
   exact ⟨_,(Option.some.inj a).symm,wkA [] [] []⟩
  refine Q3 ?_
  refine ⟨_,(Option.some.inj a).symm,fun hm=>?_⟩
  subst hm
  exact ⟨_,J,wkA [] [] []⟩
 intro g hb
 subst hb
 refine qc<|O J<|qb J<|qb J<|qo ?_
 obtain rfl:=qd c
 exact qy _ J
theorem qya (c : List qg) (g : qg→Option Bool) (p1F : FuncId) (p1C : List DV) (p1Ok : ∀ (b : qg) (r : Bool),g b = some r→Pure Tryz.prog tab p1F ([.agg [q9 b.Lo.X,q9 b.Lo.Y,q9 b.Lo.Z,q9 b.Hi.X,q9 b.Hi.Y,q9 b.Hi.Z]] ++ p1C) (.bool r)) (r : Int) (f : q9i c g = some r) : Pure Tryz.prog tab 85 [.sl 6 (c.map Q6),.fn p1F p1C] (q9 r):=by
 unfold q9i at f
 refine Qf Tryz.func85 J qh qh J<|qc<|qb J<|qa<|qf<|qc<|O J<|Qa J<|O J<|qa ?_
 obtain ⟨j,l,f⟩:=q6 f
 refine Qc (fun h=>.inl h = j) (fun h=>⟨[],[],0⟩) qe ?_ ?_
 ·refine Q5 (Us c g) (fun k=>⟨[(0,.d (.sl 6 (c.map Q6))),(1,.d (.fn p1F p1C)),(7,q7 (c.length : Int)),(8,q7 k)],[],0⟩) 0 j l (wkA [] [] []) ?_
  intro k q a
  unfold Us at a
  refine qc<|G _ J<|qa<|qf ?_
  refine qm J a (fun _ a=>?_) (fun _ a=>?_)
  ·refine qk<|qf<|qx<|qc<|O J<|qb J<|qp<|O J<|O J<|O J ?_
   obtain ⟨m,n,a⟩:=q6 a
   refine Q1 n J<|G _ J ?_
   obtain ⟨o,p,a⟩:=q6 a
   refine Y7 _ (p1Ok m o p) J J J (.inl J)<|qa ?_
   refine qm J a (fun _ a=>?_) (fun _ a=>?_)
   ·refine qc<|O J<|qb J<|qo ?_
    refine ⟨_,(Option.some.inj a).symm,fun hm=>?_⟩
    subst hm
    obtain rfl:=qd f
    exact qy _ J
   refine qk<|Q7<|Qg<|qt<|G _ J<|O J<|qr ?_
   exact ⟨_,(Option.some.inj a).symm,wkA [] [] []⟩
  refine Q3 ?_
  refine ⟨_,(Option.some.inj a).symm,fun hm=>?_⟩
  subst hm
  exact ⟨_,J,wkA [] [] []⟩
 intro h hb
 subst hb
 refine qc<|qb J<|qo ?_
 obtain rfl:=qd f
 exact qy _ J
theorem qgc (c : List qg) (d : qg→Option Bool) (p1F : FuncId) (p1C : List DV) (p1Ok : ∀ (a : qg) (r : Bool),d a = some r→Pure Tryz.prog tab p1F ([.agg [q9 a.Lo.X,q9 a.Lo.Y,q9 a.Lo.Z,q9 a.Hi.X,q9 a.Hi.Y,q9 a.Hi.Z]] ++ p1C) (.bool r)) (r : Bool) (b : q1k c d = some r) : Pure Tryz.prog tab 57 [.sl 6 (c.map Q6),.fn p1F p1C] (.bool r):=by
 unfold q1k at b
 refine Qf Tryz.func57 J qh qh J<|qc<|qb J<|qp<|O J<|O J ?_
 obtain ⟨f,g,b⟩:=q6 b
 refine qz (qya c d p1F p1C p1Ok f g) J<|G _ J<|qb J<|qo ?_
 obtain rfl:=qd b
 exact qy _ J
theorem qn4 (a : Qb) (r : Bool) (c : q7g a = some r) : Pure Tryz.prog tab 97 [.agg [q9 a.X,q9 a.Y,q9 a.Z]] (.bool r):=by
 unfold q7g at c
 refine Qf Tryz.func97 J qh qh J<|qc<|Qj _ _ J<|qb J<|qp<|G _ J<|G _ J<|G _ J<|G _ J<|G _ J<|G _ J<|q2g (r:=min (min a.X a.Y) a.Z) J J (by simp only [q2e];rfl)<|G _ J ?_
 obtain ⟨o,b,c⟩:=q6 c
 refine Q2 10 (fun A st=>∃ d f g h j k l m n,st = A [(20,qu o),(19,n),(18,m),(17,l),(16,k),(15,j),(14,h),(13,g),(12,f),(11,d)]) ?_ ?_
 ·refine Q0 J J b (fun b=>?_) (fun b=>?_)
  ·refine G _ J<|G _ J<|G _ J<|G _ J<|G _ J<|G _ J<|U9 (r:=max (max a.X a.Y) a.Z) J J (by simp only [U7];rfl)<|G _ J<|G _ J<|qa ?_
   obtain rfl:=qd b
   exact ⟨_,_,_,_,_,_,_,_,_,J⟩
  refine q8 J<|q8 J<|q8 J<|q8 J<|q8 J<|q8 J<|q8 J<|q8 J<|G _ J<|qa ?_
  obtain rfl:=qd b
  exact ⟨_,_,_,_,_,_,_,_,_,J⟩
 rintro _ ⟨d,f,g,h,j,k,l,m,n,rfl⟩
 refine qb J<|qo ?_
 obtain rfl:=qd c
 exact qy _ J
theorem qn7 (b : qg) (r : Bool) (a : q7i b = some r) : Pure Tryz.prog tab 71 [.agg [q9 b.Lo.X,q9 b.Lo.Y,q9 b.Lo.Z,q9 b.Hi.X,q9 b.Hi.Y,q9 b.Hi.Z]] (.bool r):=by
 unfold q7i at a
 refine Qf Tryz.func71 J qh qh J<|qc<|Qj _ _ J<|qb J<|qp<|G _ J<|G _ J<|G _ J<|G _ J<|G _ J<|G _ J<|G _ J ?_
 obtain ⟨c1,f,a⟩:=q6 a
 refine Q2 9 (fun A st=>∃ h j k l m n o p,st = A [(18,qu c1),(17,p),(16,o),(15,n),(14,m),(13,l),(12,k),(11,j),(10,h)]) ?_ ?_
 ·refine Q0 J J f (fun f=>?_) (fun f=>?_)
  ·refine G _ J<|G _ J<|G _ J<|G _ J<|G _ J<|G _ J<|G _ J<|G _ J<|qa ?_
   obtain rfl:=qd f
   exact ⟨_,_,_,_,_,_,_,_,J⟩
  refine q8 J<|q8 J<|q8 J<|q8 J<|q8 J<|q8 J<|q8 J<|G _ J<|qa ?_
  obtain rfl:=qd f
  exact ⟨_,_,_,_,_,_,_,_,J⟩
 rintro _ ⟨h,j,k,l,m,n,o,p,rfl⟩
 obtain ⟨ai,g,a⟩:=q6 a
 refine Q2 9 (fun A st=>∃ q s t u v w x y,st = A [(27,qu ai),(26,y),(25,x),(24,w),(23,v),(22,u),(21,t),(20,s),(19,q)]) ?_ ?_
 ·refine Q0 J J g (fun g=>?_) (fun g=>?_)
  ·refine G _ J<|G _ J<|G _ J<|G _ J<|G _ J<|G _ J<|G _ J<|G _ J<|qa ?_
   obtain rfl:=qd g
   exact ⟨_,_,_,_,_,_,_,_,J⟩
  refine q8 J<|q8 J<|q8 J<|q8 J<|q8 J<|q8 J<|q8 J<|G _ J<|qa ?_
  obtain rfl:=qd g
  exact ⟨_,_,_,_,_,_,_,_,J⟩
 rintro _ ⟨q,s,t,u,v,w,x,y,rfl⟩
 obtain ⟨aj,c,a⟩:=q6 a
 refine Q2 5 (fun A st=>∃ z aa ab ac,st = A [(32,qu aj),(31,ac),(30,ab),(29,aa),(28,z)]) ?_ ?_
 ·refine Q0 J J c (fun c=>?_) (fun c=>?_)
  ·refine G _ J<|G _ J ?_
   obtain ⟨ak,al,c⟩:=q6 c
   refine qz (qn4 b.Lo ak al) J<|G _ J<|qa ?_
   obtain rfl:=qd c
   exact ⟨_,_,_,_,J⟩
  refine q8 J<|q8 J<|q8 J<|G _ J<|qa ?_
  obtain rfl:=qd c
  exact ⟨_,_,_,_,J⟩
 rintro _ ⟨z,aa,ab,ac,rfl⟩
 obtain ⟨am,d,a⟩:=q6 a
 refine Q2 5 (fun A st=>∃ ad ae af ag,st = A [(37,qu am),(36,ag),(35,af),(34,ae),(33,ad)]) ?_ ?_
 ·refine Q0 J J d (fun d=>?_) (fun d=>?_)
  ·refine G _ J<|G _ J ?_
   obtain ⟨an,ao,d⟩:=q6 d
   refine qz (qn4 b.Hi an ao) J<|G _ J<|qa ?_
   obtain rfl:=qd d
   exact ⟨_,_,_,_,J⟩
  refine q8 J<|q8 J<|q8 J<|G _ J<|qa ?_
  obtain rfl:=qd d
  exact ⟨_,_,_,_,J⟩
 rintro _ ⟨ad,ae,af,ag,rfl⟩
 refine qb J<|qo ?_
 obtain rfl:=qd a
 exact qy _ J
theorem q10z (a : qg) (r : Bool) (b : q2v a = some r) : Pure Tryz.prog tab 70 [.agg [q9 a.Lo.X,q9 a.Lo.Y,q9 a.Lo.Z,q9 a.Hi.X,q9 a.Hi.Y,q9 a.Hi.Z]] (.bool r):=by
 unfold q2v at b
 refine Qf Tryz.func70 J qh qh J<|qc<|Qj _ _ J<|qb J<|qp<|G _ J ?_
 obtain ⟨c,d,b⟩:=q6 b
 refine qz (qn7 a c d) J<|G _ J<|qb J<|qo ?_
 obtain rfl:=qd b
 exact qy _ J
theorem qsr (k : Int) (r : Int) (a : q2d k = some r) : Pure Tryz.prog tab 156 [.int .u64 k] (q9 r):=by
 unfold q2d at a
 refine Qf Tryz.func156 J qh qh J<|qc<|qb J<|qa<|qf<|qc<|O J<|G _ J<|qa ?_
 obtain ⟨l,b,a⟩:=q6 a
 refine Yk (fun c=>c = l) (fun c=>⟨[(0,.d (.int .u64 c.1)),(2,q7 c.2)],[],0⟩) qe ?_ ?_
 ·refine qm J b (fun _ b=>?_) (fun _ b=>?_)
  ·refine qc<|O J<|G _ J<|qb J<|qa<|qt<|qb J<|qr ?_
   obtain rfl:=qd b
   exact ⟨_,J,wkA [] [] []⟩
  refine qk<|Q7 ?_
  obtain rfl:=qd b
  exact ⟨_,J,wkA [] [] []⟩
 intro c hb
 subst hb
 refine qf<|qc<|O J<|G _ J<|qa ?_
 obtain ⟨m,f,a⟩:=q6 a
 refine Yk (fun g=>g = m) (fun g=>⟨[(0,.d (.int .u64 g.1)),(2,q7 g.2)],[],0⟩) qe ?_ ?_
 ·refine qm J f (fun _ f=>?_) (fun _ f=>?_)
  ·refine qc<|O J<|G _ J<|qb J<|qa<|qt<|O J<|G _ J<|qb J<|qr ?_
   obtain rfl:=qd f
   exact ⟨_,J,wkA [] [] []⟩
  refine qk<|Q7 ?_
  obtain rfl:=qd f
  exact ⟨_,J,wkA [] [] []⟩
 intro g hb
 subst hb
 refine qf<|qc<|O J<|G _ J<|qa ?_
 obtain ⟨n,h,a⟩:=q6 a
 refine Yk (fun j=>j = n) (fun j=>⟨[(0,.d (.int .u64 j.1)),(2,q7 j.2)],[],0⟩) qe ?_ ?_
 ·refine qm J h (fun _ h=>?_) (fun _ h=>?_)
  ·refine qc<|O J<|G _ J<|qb J<|qa<|qt<|O J<|G _ J<|qb J<|qr ?_
   obtain rfl:=qd h
   exact ⟨_,J,wkA [] [] []⟩
  refine qk<|Q7 ?_
  obtain rfl:=qd h
  exact ⟨_,J,wkA [] [] []⟩
 intro j hb
 subst hb
 refine qc<|O J<|O J<|G _ J ?_
 obtain ⟨p,o,a⟩:=q6 a
 refine qtg qd8 o J J J J J<|G _ J<|G _ J<|qb J<|qo ?_
 obtain rfl:=qd a
 exact qy _ J
theorem qfb (b : Int) (r : Int) (a : Up b = some r) : Pure Tryz.prog tab 136 [.int .u64 b] (q9 r):=by
 unfold Up at a
 refine Qf Tryz.func136 J qh qh J<|qc<|qb J<|qa<|qf<|Z2 J<|qk<|qc<|O J ?_
 obtain ⟨c,d,a⟩:=q6 a
 refine qz (qsr b c d) J<|qb J<|qo ?_
 obtain rfl:=qd a
 exact qy _ J
theorem qi5 (a : Int) (r : Bool) (b : q89 a = some r) : Pure Tryz.prog tab 170 [q9 a] (.bool r):=by
 unfold q89 at b
 refine Qf Tryz.func170 J qh qh J<|qc<|qb J<|qp<|O J<|O J<|G _ J<|qb J<|qo ?_
 obtain rfl:=qd b
 exact qy _ J
theorem Zn (d : Int) (f : Int) (r : Bool) (a : Yw d f = some r) : Pure Tryz.prog tab 152 [q9 d,q9 f] (.bool r):=by
 unfold Yw at a
 refine Qf Tryz.func152 J qh qh J<|qc<|qb J<|qp<|O J ?_
 obtain ⟨p,q,a⟩:=q6 a
 refine qz (qi5 d p q) J ?_
 obtain ⟨s,b,a⟩:=q6 a
 refine Q2 5 (fun A st=>∃ g h j k,st = A [(11,qu s),(10,k),(9,j),(8,h),(7,g)]) ?_ ?_
 ·refine Q0 J J b (fun b=>?_) (fun b=>?_)
  ·refine O J ?_
   obtain ⟨t,u,b⟩:=q6 b
   refine qz (qi5 f t u) J<|G _ J<|G _ J<|qa ?_
   obtain rfl:=qd b
   exact ⟨_,_,_,_,J⟩
  refine q8 J<|q8 J<|q8 J<|G _ J<|qa ?_
  obtain rfl:=qd b
  exact ⟨_,_,_,_,J⟩
 rintro _ ⟨g,h,j,k,rfl⟩
 obtain ⟨v,c,a⟩:=q6 a
 refine Q2 5 (fun A st=>∃ l m n o,st = A [(16,qu v),(15,o),(14,n),(13,m),(12,l)]) ?_ ?_
 ·refine Q0 J J c (fun c=>?_) (fun c=>?_)
  ·refine q8 J<|q8 J<|q8 J<|G _ J<|qa ?_
   obtain rfl:=qd c
   exact ⟨_,_,_,_,J⟩
  refine O J<|O J<|G _ J<|G _ J<|qa ?_
  obtain rfl:=qd c
  exact ⟨_,_,_,_,J⟩
 rintro _ ⟨l,m,n,o,rfl⟩
 refine qb J<|qo ?_
 obtain rfl:=qd a
 exact qy _ J
theorem qyl (k : List Int) (c : Int) (h : Int) (r : List Int) (l : q6n  k c h = some r) : K0 Tryz.prog tab 146 [.hs 0 1 0 k.length,q7 c,q7 h] [(0,.dat 1 (k.map (eI .i64)))] 1 (.d (.tup [])) [(0,.dat 1 (r.map (eI .i64)))] 1:=by
 unfold q6n at l
 refine Kh Tryz.func146 J qh qh J<|qc<|O J<|G _ J<|qb J<|qa ?_
 obtain ⟨ai,aj,l⟩:=q6 l
 refine qx<|Q5 (q6o h c) (fun f=>⟨[(0,.hs 0 1 0 f.2.length),(1,q7 c),(2,q7 h),(6,q7 f.1)],[(0,.dat 1 (f.2.map (eI .i64)))],1⟩) (w64 (c + 1),k) ai aj (wkA [] [] []) ?_
 intro f au g
 unfold q6o at g
 refine qf<|qc<|O J<|O J<|G _ J<|qa ?_
 refine qm J g (fun _ g=>?_) (fun _ g=>?_)
 ·refine qk<|qf ?_
  obtain ⟨ak,n,g⟩:=q6 g
  refine Qc (fun j=>j = ak) (fun j=>⟨[(0,.hs 0 1 0 j.length),(1,q7 c),(2,q7 h),(6,q7 f.1)],[(0,.dat 1 (j.map (eI .i64)))],1⟩) qe ?_ ?_
  ·refine qc<|O J<|qb J<|qa ?_
   obtain ⟨al,am,n⟩:=q6 n
   refine qx<|Q5 (q6p c) (fun m=>⟨[(0,.hs 0 1 0 m.2.length),(1,q7 c),(2,q7 h),(6,q7 f.1),(7,q7 m.1)],[(0,.dat 1 (m.2.map (eI .i64)))],1⟩) (f.1,f.2) al am (wkA [] [] []) ?_
   intro m av a
   unfold q6p at a
   refine qf<|qf<|Q9 [U,U,qq 0,U,U,U,U,qq 0,U,U,U,U,U,U,U] qh<|O J<|O J<|G _ J ?_
   obtain ⟨an,b,a⟩:=q6 a
   refine Q2 12 (fun A st=>∃ o p q s t u v w x y z,st = A [(30,qu an),(29,z),(28,y),(27,x),(26,w),(25,v),(24,u),(23,t),(22,s),(21,q),(20,p),(19,o)]) ?_ ?_
   ·refine Q0 J J b (fun b=>?_) (fun b=>?_)
    ·refine O J<|O J ?_
     obtain ⟨ao,aa,b⟩:=q6 b
     refine qv aa J J<|Q4 _ aa J<|O J<|O J<|G _ J ?_
     obtain ⟨ap,ab,b⟩:=q6 b
     refine qv ab J J<|Q4 _ ab J ?_
     obtain ⟨aq,ar,b⟩:=q6 b
     refine qz (Zn ao ap aq ar) J<|G _ J<|qa ?_
     obtain rfl:=qd b
     exact ⟨_,_,_,_,_,_,_,_,_,_,_,J⟩
    refine q8 J<|q8 J<|q8 J<|q8 J<|q8 J<|q8 J<|q8 J<|q8 J<|q8 J<|q8 J<|G _ J<|qa ?_
    obtain rfl:=qd b
    exact ⟨_,_,_,_,_,_,_,_,_,_,_,J⟩
   rintro _ ⟨o,p,q,s,t,u,v,w,x,y,z,rfl⟩
   refine qa ?_
   refine qm J a (fun _ a=>?_) (fun _ a=>?_)
   ·refine qk<|qf<|qx<|Q9 [Qm 0,U,Qm 0,U,qq 0,U,U,U,qq 0,U,U,U,U,U,U,U,U,U] qh<|O J<|O J<|O J<|O J<|G _ J<|O J<|O J<|G _ J ?_
    obtain ⟨ac,ad,a⟩:=q6 a
    refine qv ad J J<|Q4 _ ad J<|O J<|O J ?_
    obtain ⟨ae,af,a⟩:=q6 a
    refine qv af J J<|Q4 _ af J ?_
    obtain ⟨aw,ag,a⟩:=q6 a
    refine qv ag J J<|Qw (ds:=[q9 ac]) ac ag J J J J J J J J (leb J) J ?_
    obtain ⟨ax,ah,a⟩:=q6 a
    refine qv ah qe J<|Qw (ds:=[q9 ae]) ae ah J J J J J J J J (leb J) J<|qr<|Qg<|qt<|O J<|G _ J<|qb J<|qr ?_
    exact ⟨_,(Option.some.inj a).symm,wkE [] [] [] J ⟨⟨_,J,Qy qe J qs (ltd J)⟩,qn J,qn J,qn J,qn J,trivial⟩ ⟨Qk J J,trivial⟩⟩
   refine Q3 ?_
   refine ⟨_,(Option.some.inj a).symm,fun hm=>?_⟩
   subst hm
   obtain rfl:=qd n
   exact ⟨_,J,wkA [] [] []⟩
  intro j hb
  subst hb
  refine qt<|O J<|G _ J<|qb J<|qr ?_
  exact ⟨_,(Option.some.inj g).symm,wkA [] [] []⟩
 refine Q3 ?_
 refine ⟨_,(Option.some.inj g).symm,fun hm=>?_⟩
 subst hm
 obtain rfl:=qd l
 exact ⟨.inl J,_,J,wkA [] [] []⟩
theorem qmx (k : List Int) (m : Int) (f : Int) (g : Int) (r : List Int) (h : q49  k m f g = some r) : K0 Tryz.prog tab 165 [.hs 0 1 0 k.length,q7 m,q7 f,q7 g] [(0,.dat 1 (k.map (eI .i64)))] 1 (.d (.tup [])) [(0,.dat 1 (r.map (eI .i64)))] 1:=by
 unfold q49 at h
 refine Kh Tryz.func165 J qh qh J<|qc<|O J<|qb J<|qa ?_
 obtain ⟨an,ao,h⟩:=q6 h
 refine qx<|Q5 (q7b f g) (fun c=>⟨[(0,.hs 0 1 0 c.2.length),(2,q7 f),(3,q7 g),(8,q7 c.1)],[(0,.dat 1 (c.2.map (eI .i64)))],1⟩) (m,k) an ao (wkA [] [] []) ?_
 intro c bb a
 unfold q7b at a
 refine qx<|qc<|O J<|G _ J<|G _ J<|qb J<|qa<|qf<|qc<|O J<|O J<|G _ J<|qa ?_
 refine qm J a (fun _ a=>?_) (fun _ a=>?_)
 ·refine Q3 ?_
  refine ⟨_,(Option.some.inj a).symm,fun hm=>?_⟩
  subst hm
  obtain rfl:=qd h
  exact ⟨.inl J,_,J,wkA [] [] []⟩
 refine qk<|qf<|qf<|Q9 [U,U,qq 0,U,U,U,U,U,U,qq 0,U,U,U,U,U,U,U,U,U,U] qh<|O J<|G _ J<|O J<|G _ J ?_
 obtain ⟨ap,b,a⟩:=q6 a
 refine Q2 16 (fun A st=>∃ n o p q s t u v w x y z aa ab ac,st = A [(36,qu ap),(35,ac),(34,ab),(33,aa),(32,z),(31,y),(30,x),(29,w),(28,v),(27,u),(26,t),(25,s),(24,q),(23,p),(22,o),(21,n)]) ?_ ?_
 ·refine Q0 J J b (fun b=>?_) (fun b=>?_)
  ·refine O J<|O J<|O J<|G _ J ?_
   obtain ⟨aq,ad,b⟩:=q6 b
   refine qv ad J J<|Q4 _ ad J<|O J<|O J<|O J<|G _ J<|G _ J ?_
   obtain ⟨ar,ae,b⟩:=q6 b
   refine qv ae J J<|Q4 _ ae J ?_
   obtain ⟨au,av,b⟩:=q6 b
   refine qz (Zn aq ar au av) J<|G _ J<|qa ?_
   obtain rfl:=qd b
   exact ⟨_,_,_,_,_,_,_,_,_,_,_,_,_,_,_,J⟩
  refine q8 J<|q8 J<|q8 J<|q8 J<|q8 J<|q8 J<|q8 J<|q8 J<|q8 J<|q8 J<|q8 J<|q8 J<|q8 J<|q8 J<|G _ J<|qa ?_
  obtain rfl:=qd b
  exact ⟨_,_,_,_,_,_,_,_,_,_,_,_,_,_,_,J⟩
 rintro _ ⟨n,o,p,q,s,t,u,v,w,x,y,z,aa,ab,ac,rfl⟩
 refine qa ?_
 obtain ⟨aw,j,a⟩:=q6 a
 refine Yk (fun l=>l = aw) (fun l=>⟨[(0,.hs 0 1 0 c.2.length),(2,q7 f),(3,q7 g),(8,q7 c.1),(9,q7 l)],[(0,.dat 1 (c.2.map (eI .i64)))],1⟩) qe ?_ ?_
 ·refine qm J j (fun _ j=>?_) (fun _ j=>?_)
  ·refine qt<|O J<|G _ J<|qb J<|qr ?_
   obtain rfl:=qd j
   exact ⟨_,J,wkA [] [] []⟩
  refine qk<|Q7 ?_
  obtain rfl:=qd j
  exact ⟨_,J,wkA [] [] []⟩
 intro l hb
 subst hb
 refine qf<|qf<|Q9 [U,U,qq 0,U,U,U,U,U,qq 0,U,U,U,U,U] qh<|O J<|O J<|O J<|G _ J ?_
 obtain ⟨ax,af,a⟩:=q6 a
 refine qv af J J<|Q4 _ af J<|O J<|O J<|O J<|G _ J ?_
 obtain ⟨ay,ag,a⟩:=q6 a
 refine qv ag J J<|Q4 _ ag J ?_
 obtain ⟨az,ba,a⟩:=q6 a
 refine qz (Zn ax ay az ba) J<|G _ J<|qa ?_
 refine qm J a (fun _ a=>?_) (fun _ a=>?_)
 ·refine Uq ?_
  refine ⟨_,(Option.some.inj a).symm,fun hm=>?_⟩
  subst hm
  obtain rfl:=qd h
  exact ⟨.inr J,_,J,wkA [] [] []⟩
 refine qk<|qf<|Q9 [Qm 0,U,Qm 0,U,qq 0,U,U,U,U,U,qq 0,U,U,U,U,U,U,U,U,U,U,U,U,U] qh<|O J<|O J<|O J<|G _ J<|O J<|O J<|O J<|G _ J<|O J<|O J<|O J<|G _ J ?_
 obtain ⟨ah,ai,a⟩:=q6 a
 refine qv ai J J<|Q4 _ ai J<|O J<|O J<|O J<|G _ J ?_
 obtain ⟨aj,ak,a⟩:=q6 a
 refine qv ak J J<|Q4 _ ak J ?_
 obtain ⟨bc,al,a⟩:=q6 a
 refine qv al J J<|Qw (ds:=[q9 ah]) ah al J J J J J J J J (leb J) J ?_
 obtain ⟨bd,am,a⟩:=q6 a
 refine qv am qe J<|Qw (ds:=[q9 aj]) aj am J J J J J J J J (leb J) J<|qa<|qt<|O J<|qb J<|qr<|Qg<|Q7 ?_
 exact ⟨_,(Option.some.inj a).symm,wkE [] [] [] J ⟨⟨_,J,Qy qe J qs (ltd J)⟩,qn J,qn J,qn J,trivial⟩ ⟨Qk J J,trivial⟩⟩
theorem qyj (l : List Int) (b : Int) (g : Int) (r : List Int) (h : q6k  l b g = some r) : K0 Tryz.prog tab 147 [.hs 0 1 0 l.length,q7 b,q7 g] [(0,.dat 1 (l.map (eI .i64)))] 1 (.d (.tup [])) [(0,.dat 1 (r.map (eI .i64)))] 1:=by
 unfold q6k at h
 refine Kh Tryz.func147 J qh qh J<|qc<|O J<|qb J<|qp<|qb J<|qp<|O J<|O J<|G _ J<|qb J<|qa<|qf<|qc<|O J<|G _ J<|G _ J<|qb J<|qa ?_
 obtain ⟨p,w,h⟩:=q6 h
 refine Qc (fun j=>j = p) (fun j=>⟨[(0,.hs 0 1 0 j.length),(6,q7 b),(7,q7 0),(8,.d (q9 (w64 (g - b))))],[(0,.dat 1 (j.map (eI .i64)))],1⟩) qe ?_ ?_
 ·refine Q5 (q6l g b) (fun k=>⟨[(0,.hs 0 1 0 k.2.length),(6,q7 b),(7,q7 0),(8,.d (q9 (w64 (g - b)))),(9,q7 k.1)],[(0,.dat 1 (k.2.map (eI .i64)))],1⟩) (w64 (Int.tdiv (w64 ((w64 (g - b)) - 1)) 2),l) p w (wkA [] [] []) ?_
  intro k af c
  unfold q6l at c
  refine qf<|qc<|O J<|G _ J<|qa ?_
  refine qm J c (fun _ c=>?_) (fun _ c=>?_)
  ·refine qk<|qf<|qx<|qt<|O J<|O J<|O J<|O J ?_
   obtain ⟨q,x,c⟩:=q6 c
   obtain ⟨ag,y,c⟩:=q6 c
   have z:=Kd y
   refine K1 [(0,0)] [(0,0)] _ (.d (.tup [])) 1 [(0,.dat 1 (q.map (eI .i64)))] 1 (qmx k.2 k.1 (w64 (g - b)) b q x)<|qr<|Qg<|qt<|O J<|G _ J<|qb J<|qr ?_
   exact ⟨_,(Option.some.inj c).symm,wkE [] [] [] J ⟨⟨_,J,Qy (by simp [z]) J qs (ltd J)⟩,qn J,qn J,qn J,qn J,trivial⟩ ⟨Qk J J,trivial⟩⟩
  refine Q3 ?_
  refine ⟨_,(Option.some.inj c).symm,fun hm=>?_⟩
  subst hm
  exact ⟨_,J,wkA [] [] []⟩
 intro j hb
 subst hb
 refine qc<|O J<|G _ J<|qb J<|qa ?_
 obtain ⟨aa,ab,h⟩:=q6 h
 refine qx<|Q5 (q6m b) (fun f=>⟨[(0,.hs 0 1 0 f.2.length),(6,q7 b),(7,q7 0),(10,q7 f.1)],[(0,.dat 1 (f.2.map (eI .i64)))],1⟩) (w64 ((w64 (g - b)) - 1),j) aa ab (wkA [] [] []) ?_
 intro f ah a
 unfold q6m at a
 refine qf<|qc<|O J<|G _ J<|qa ?_
 refine qm J a (fun _ a=>?_) (fun _ a=>?_)
 ·refine qk<|qf<|qx<|qf<|Q9 [Qm 0,U,Qm 0,U,qq 0,U,U,U,qq 0,U,U,U,U,U,U,U,U,U,U,U] qh<|O J<|O J<|O J<|O J<|O J<|G _ J<|O J<|O J<|O J<|G _ J ?_
  obtain ⟨m,s,a⟩:=q6 a
  refine qv s J J<|Q4 _ s J<|O J<|O J ?_
  obtain ⟨n,t,a⟩:=q6 a
  refine qv t J J<|Q4 _ t J ?_
  obtain ⟨ai,u,a⟩:=q6 a
  refine qv u J J<|Qw (ds:=[q9 m]) m u J J J J J J J J (leb J) J ?_
  obtain ⟨aj,v,a⟩:=q6 a
  refine qv v qe J<|Qw (ds:=[q9 n]) n v J J J J J J J J (leb J) J<|qa<|qt<|O J<|O J<|O J<|O J ?_
  obtain ⟨o,ac,a⟩:=q6 a
  obtain ⟨ak,ad,a⟩:=q6 a
  have ae:=Kd ad
  refine Jq [(0,0)] [(0,0)] [.hs 0 1 0 f.2.length,q7 0,q7 f.1,q7 b] (.d (.tup [])) [(0,.dat 1 (o.map (eI .i64)))] [(0,.dat 1 (o.map (eI .i64)))] 1 (qmx ((f.2.set b.toNat m).set (w64 (b + f.1)).toNat n) 0 f.1 b o ac) J J J (Y9 [(0,0)] [] [] J ⟨⟨_,J,Qy qe J qs (ltd J)⟩,qn J,qn J,qn J,trivial⟩ ⟨Qk J J,trivial⟩) (Y9 [(0,0)] [] [] J ⟨qn J,trivial⟩ ⟨Qk J J,trivial⟩) J ⟨.inl J,trivial⟩<|qr<|Qg<|qt<|O J<|G _ J<|qb J<|qr ?_
  exact ⟨_,(Option.some.inj a).symm,wkE [] [] [] J ⟨⟨_,J,Qy (by simp [ae]) J qs (ltd J)⟩,qn J,qn J,qn J,trivial⟩ ⟨Qk J J,trivial⟩⟩
 refine Q3 ?_
 refine ⟨_,(Option.some.inj a).symm,fun hm=>?_⟩
 subst hm
 obtain rfl:=qd h
 exact ⟨.inl J,_,J,wkA [] [] []⟩
theorem qgh (b : List Int) (c : Int) (f : Int) (g : Int) (r : Int × Int × Int) (a : q2u  b c f g = some r) : K0 Tryz.prog tab 174 [.d (.sl 1 (b.map (eI .i64))),q7 c,q7 f,.ref 0 1 0 0] [(0,.dat 1 [[q9 g]])] 1 (.d (.tup [q9 r.1,q9 r.2.1])) [(0,.dat 1 [[q9 r.2.2]])] 1:=by
 unfold q2u at a
 refine Kh Tryz.func174 J qh qh J<|qc<|qb J<|qb J<|qa<|qf<|qf<|Q9 [U,U,U,U,U,U,U,U,U] qh<|O J<|O J ?_
 obtain ⟨h,j,a⟩:=q6 a
 refine Q1 j J<|G _ J<|O J<|O J ?_
 obtain ⟨k,l,a⟩:=q6 a
 refine Q1 l J<|G _ J ?_
 obtain ⟨m,n,a⟩:=q6 a
 refine qz (Zn h k m n) J<|qa ?_
 refine qm J a (fun _ a=>?_) (fun _ a=>?_)
 ·refine qc<|O J<|G _ J<|G _ J<|G _ J<|G _ J<|Qd 0 _ J<|qp<|O J<|O J<|qb J<|qb J<|qo ?_
  obtain rfl:=qd a
  exact ⟨.inr J,_,J,wkA [] [] []⟩
 refine qk<|qc<|O J<|O J<|qb J<|qb J<|qo ?_
 obtain rfl:=qd a
 exact ⟨.inr J,_,J,wkA [] [] []⟩
theorem qmu (f : List Int) (h : Int) (j : Int) (k : Int) (l : Int) (r : Int × Int) (a : q43  f h j k l = some r) : K0 Tryz.prog tab 169 [.d (.sl 1 (f.map (eI .i64))),q7 h,q7 j,q7 k,.ref 0 1 0 0] [(0,.dat 1 [[q9 l]])] 1 (q7 r.1) [(0,.dat 1 [[q9 r.2]])] 1:=by
 unfold q43 at a
 refine Kh Tryz.func169 J qh qh J<|qc<|qb J<|qp<|O J<|O J<|O J<|O J ?_
 obtain ⟨b,m,a⟩:=q6 a
 refine K1 [(0,0)] [(0,0)] _ (.d (.tup [q9 b.1,q9 b.2.1])) 1 [(0,.dat 1 [[q9 b.2.2]])] 1 (qgh f h j l b m)<|O J<|G _ J<|G _ J<|qb J<|qb J<|qp<|O J<|O J<|O J<|O J ?_
 obtain ⟨c,n,a⟩:=q6 a
 refine K1 [(0,0)] [(0,0)] _ (.d (.tup [q9 c.1,q9 c.2.1])) 1 [(0,.dat 1 [[q9 c.2.2]])] 1 (qgh f b.2.1 k b.2.2 c n)<|O J<|G _ J<|G _ J<|qb J<|qb J<|qp<|O J<|O J<|O J<|O J ?_
 obtain ⟨g,o,a⟩:=q6 a
 refine K1 [(0,0)] [(0,0)] _ (.d (.tup [q9 g.1,q9 g.2.1])) 1 [(0,.dat 1 [[q9 g.2.2]])] 1 (qgh f b.1 c.1 c.2.2 g o)<|O J<|G _ J<|G _ J<|qb J<|qb J<|qp<|O J<|qb J<|qo ?_
 obtain rfl:=qd a
 exact ⟨.inr J,_,J,wkA [] [] []⟩
theorem qgf (c : List Int) (a : Int) (f : Int) (r : Int × Int) (b : q2t  c a f = some r) : K0 Tryz.prog tab 168 [.d (.sl 1 (c.map (eI .i64))),q7 a,.ref 0 1 0 0] [(0,.dat 1 [[q9 f]])] 1 (q7 r.1) [(0,.dat 1 [[q9 r.2]])] 1:=by
 unfold q2t at b
 refine Kh Tryz.func168 J qh qh J<|qc<|qb J<|qp<|O J<|O J<|G _ J<|O J<|O J<|G _ J<|O J ?_
 obtain ⟨g,h,b⟩:=q6 b
 refine K1 [(0,0)] [(0,0)] _ (q7 g.1) 1 [(0,.dat 1 [[q9 g.2]])] 1 (qmu c (w64 (a - 1)) a (w64 (a + 1)) f g h)<|qb J<|qo ?_
 obtain rfl:=qd b
 exact ⟨.inr J,_,J,wkA [] [] []⟩
theorem qyh (h : List Int) (g : Int) (j : Int) (r : Int × Int) (a : q6j h g j = some r) : Pure Tryz.prog tab 149 [.sl 1 (h.map (eI .i64)),q9 g,q9 j] (.tup [q9 r.1,q9 r.2]):=by
 unfold q6j at a
 refine Qf Tryz.func149 J qh qh J<|qc<|qb J<|qb J<|qp<|O J<|O J<|G _ J<|qb J<|qp<|Qv J J<|qp<|O J<|O J<|G _ J<|G _ J<|G _ J<|qb J<|qp<|O J<|O J<|G _ J<|G _ J<|G _ J<|qb J<|qp<|O J<|O J<|G _ J<|G _ J<|G _ J<|qb J<|qa<|qf<|qc<|O J<|G _ J<|qa ?_
 obtain ⟨p,f,a⟩:=q6 a
 refine Yk (fun k=>k = p) (fun k=>⟨[(9,.ref 0 1 0 0),(11,q7 k.1)],[(0,.dat 1 [[q9 k.2]])],1⟩) qe ?_ ?_
 ·refine qm J f (fun _ f=>?_) (fun _ f=>?_)
  ·refine qf<|qc<|O J<|G _ J<|qa ?_
   obtain ⟨q,b,f⟩:=q6 f
   refine Yk (fun c=>c = q) (fun c=>⟨[(0,.d (.sl 1 (h.map (eI .i64)))),(9,.ref 0 1 0 0),(10,q7 c.1),(11,q7 c.2.1),(12,q7 c.2.2.1)],[(0,.dat 1 [[q9 c.2.2.2]])],1⟩) qe ?_ ?_
   ·refine qm J b (fun _ b=>?_) (fun _ b=>?_)
    ·refine qc<|O J<|O J ?_
     obtain ⟨l,s,b⟩:=q6 b
     refine K1 [(0,0)] [(0,0)] _ (q7 l.1) 1 [(0,.dat 1 [[q9 l.2]])] 1 (qgf h (w64 (g + (w64 ((w64 (Int.tdiv (w64 (j - g)) 4)) * 1)))) 0 l s)<|qb J<|qp<|O J<|O J ?_
     obtain ⟨m,t,b⟩:=q6 b
     refine K1 [(0,0)] [(0,0)] _ (q7 m.1) 1 [(0,.dat 1 [[q9 m.2]])] 1 (qgf h (w64 (g + (w64 ((w64 (Int.tdiv (w64 (j - g)) 4)) * 2)))) l.2 m t)<|qb J<|qa<|qt<|O J<|O J ?_
     obtain ⟨n,u,b⟩:=q6 b
     refine K1 [(0,0)] [(0,0)] _ (q7 n.1) 1 [(0,.dat 1 [[q9 n.2]])] 1 (qgf h (w64 (g + (w64 ((w64 (Int.tdiv (w64 (j - g)) 4)) * 3)))) m.2 n u)<|qb J<|qr ?_
     obtain rfl:=qd b
     exact ⟨_,J,wkA [(0,0)] [] []⟩
    refine qk<|Q7 ?_
    obtain rfl:=qd b
    exact ⟨_,J,wkA [(0,0)] [] []⟩
   intro c hb
   subst hb
   refine qt<|O J<|O J<|O J<|O J ?_
   obtain ⟨o,v,f⟩:=q6 f
   refine K1 [(0,0)] [(0,0)] _ (q7 o.1) 1 [(0,.dat 1 [[q9 o.2]])] 1 (qmu h c.1 c.2.1 c.2.2.1 c.2.2.2 o v)<|qb J<|qr ?_
   obtain rfl:=qd f
   exact ⟨_,J,wkA [(0,0)] [] []⟩
  refine qk<|Q7 ?_
  obtain rfl:=qd f
  exact ⟨_,J,wkA [(0,0)] [] []⟩
 intro k hb
 subst hb
 refine qc<|G _ J<|qa<|qx<|qc<|G _ J<|qb J<|qa ?_
 refine qm J a (fun _ a=>?_) (fun _ a=>?_)
 ·refine qc<|O J<|qb J<|qb J<|qo ?_
  obtain rfl:=qd a
  exact qy _ J
 refine qc<|G _ J<|qb J<|qa ?_
 refine qm J a (fun _ a=>?_) (fun _ a=>?_)
 ·refine qc<|O J<|qb J<|qb J<|qo ?_
  obtain rfl:=qd a
  exact qy _ J
 refine qc<|O J<|qb J<|qb J<|qo ?_
 obtain rfl:=qd a
 exact qy _ J
theorem qyx (c : List Int) (g : Int) (h : Int) (r : List Int) (f : q79  c g h = some r) : K0 Tryz.prog tab 150 [.hs 0 1 0 c.length,q7 g,q7 h] [(0,.dat 1 (c.map (eI .i64)))] 1 (.d (.tup [])) [(0,.dat 1 (r.map (eI .i64)))] 1:=by
 unfold q79 at f
 refine Kh Tryz.func150 J qh qh J<|qc<|O J<|qb J<|qp<|O J<|G _ J<|qb J<|qa ?_
 obtain ⟨p,q,f⟩:=q6 f
 refine qx<|Q5 (qa9) (fun b=>⟨[(0,.hs 0 1 0 b.2.2.length),(6,q7 b.1),(7,q7 b.2.1)],[(0,.dat 1 (b.2.2.map (eI .i64)))],1⟩) (g,w64 (h - 1),c) p q (wkA [] [] []) ?_
 intro b s a
 unfold qa9 at a
 refine qf<|qc<|O J<|O J<|G _ J<|qa ?_
 refine qm J a (fun _ a=>?_) (fun _ a=>?_)
 ·refine qk<|qx<|qf<|Q9 [Qm 0,U,Qm 0,U,qq 0,U,U,U,qq 0,U,U,U,U,U,U,U] qh<|O J<|O J<|O J<|O J<|O J<|O J ?_
  obtain ⟨j,k,a⟩:=q6 a
  refine qv k J J<|Q4 _ k J<|O J<|O J ?_
  obtain ⟨l,m,a⟩:=q6 a
  refine qv m J J<|Q4 _ m J ?_
  obtain ⟨t,n,a⟩:=q6 a
  refine qv n J J<|Qw (ds:=[q9 j]) j n J J J J J J J J (leb J) J ?_
  obtain ⟨u,o,a⟩:=q6 a
  refine qv o qe J<|Qw (ds:=[q9 l]) l o J J J J J J J J (leb J) J<|qp<|O J<|G _ J<|qb J<|qa<|qt<|O J<|G _ J<|qb J<|qr<|Qg<|Q7 ?_
  exact ⟨_,(Option.some.inj a).symm,wkE [] [] [] J ⟨⟨_,J,Qy qe J qs (ltd J)⟩,qn J,qn J,trivial⟩ ⟨Qk J J,trivial⟩⟩
 refine Q3 ?_
 refine ⟨_,(Option.some.inj a).symm,fun hm=>?_⟩
 subst hm
 obtain rfl:=qd f
 exact ⟨.inl J,_,J,wkA [] [] []⟩
theorem qyn (q : List Int) (h : Int) (f : Int) (r : Bool × List Int) (n : q45  q h f = some r) : K0 Tryz.prog tab 151 [.hs 0 1 0 q.length,q7 h,q7 f] [(0,.dat 1 (q.map (eI .i64)))] 1 (qu r.1) [(0,.dat 1 (r.2.map (eI .i64)))] 1:=by
 unfold q45 at n
 refine Kh Tryz.func151 J qh qh J<|qc<|qb J<|qp<|O J<|G _ J<|qb J<|qa<|qf<|qc<|qb J<|qa ?_
 obtain ⟨z,bk,n⟩:=q6 n
 refine Qc (fun s=>.inl s = z) (fun s=>⟨[],[(0,.dat 1 (s.map (eI .i64)))],1⟩) qe ?_ ?_
 ·refine Q5 (q46 f h) (fun d=>⟨[(0,.hs 0 1 0 d.2.2.length),(1,q7 h),(2,q7 f),(7,q7 d.1),(8,q7 d.2.1)],[(0,.dat 1 (d.2.2.map (eI .i64)))],1⟩) (w64 (h + 1),0,q) z bk (wkA [] [] []) ?_
  intro d ch k
  unfold q46 at k
  refine qf<|qc<|O J<|G _ J<|qa ?_
  refine qm J k (fun _ k=>?_) (fun _ k=>?_)
  ·refine qk<|qf ?_
   obtain ⟨bl,a,k⟩:=q6 k
   refine Qc (fun o=>.inl o = bl) (fun o=>⟨[(0,.hs 0 1 0 o.2.length),(1,q7 h),(2,q7 f),(7,q7 o.1),(8,q7 d.2.1)],[(0,.dat 1 (o.2.map (eI .i64)))],1⟩) qe ?_ ?_
   ·refine qf ?_
    obtain ⟨aa,bm,a⟩:=q6 a
    refine Qc (fun g=>g = aa) (fun g=>⟨[(0,.hs 0 1 0 d.2.2.length),(1,q7 h),(2,q7 f),(7,q7 g),(8,q7 d.2.1)],[(0,.dat 1 (d.2.2.map (eI .i64)))],1⟩) qe ?_ ?_
    ·refine Q5 (q6t f d) (fun ab=>⟨[(0,.hs 0 1 0 d.2.2.length),(1,q7 h),(2,q7 f),(7,q7 ab),(8,q7 d.2.1)],[(0,.dat 1 (d.2.2.map (eI .i64)))],1⟩) d.1 aa bm (wkA [] [] []) ?_
     intro ab ci l
     unfold q6t at l
     refine qf<|qf<|Q9 [U,U,U,qq 0,U,U,U,U,qq 0,U,U,U,U,U,U,U] qh<|O J<|O J<|G _ J ?_
     obtain ⟨bn,j,l⟩:=q6 l
     refine Q2 13 (fun A st=>∃ ac ad ae af ag ah ai aj ak al am an,st = A [(32,qu bn),(31,an),(30,am),(29,al),(28,ak),(27,aj),(26,ai),(25,ah),(24,ag),(23,af),(22,ae),(21,ad),(20,ac)]) ?_ ?_
     ·refine Q0 J J j (fun j=>?_) (fun j=>?_)
      ·refine O J<|O J ?_
       obtain ⟨bo,ao,j⟩:=q6 j
       refine qv ao J J<|Q4 _ ao J<|O J<|O J<|G _ J ?_
       obtain ⟨bp,ap,j⟩:=q6 j
       refine qv ap J J<|Q4 _ ap J ?_
       obtain ⟨bq,br,j⟩:=q6 j
       refine qz (Zn bo bp bq br) J<|G _ J<|G _ J<|qa ?_
       obtain rfl:=qd j
       exact ⟨_,_,_,_,_,_,_,_,_,_,_,_,J⟩
      refine q8 J<|q8 J<|q8 J<|q8 J<|q8 J<|q8 J<|q8 J<|q8 J<|q8 J<|q8 J<|q8 J<|G _ J<|qa ?_
      obtain rfl:=qd j
      exact ⟨_,_,_,_,_,_,_,_,_,_,_,_,J⟩
     rintro _ ⟨ac,ad,ae,af,ag,ah,ai,aj,ak,al,am,an,rfl⟩
     refine qa ?_
     refine qm J l (fun _ l=>?_) (fun _ l=>?_)
     ·refine qk<|qx<|qt<|O J<|G _ J<|qb J<|qr<|Qg<|Q7 ?_
      exact ⟨_,(Option.some.inj l).symm,wkA [] [] []⟩
     refine Q3 ?_
     refine ⟨_,(Option.some.inj l).symm,fun hm=>?_⟩
     subst hm
     exact ⟨_,J,wkA [] [] []⟩
    intro g hb
    subst hb
    refine qf<|qc<|O J<|O J<|G _ J<|qa ?_
    refine qm J a (fun _ a=>?_) (fun _ a=>?_)
    ·refine qc<|qb J<|qo ?_
     obtain rfl:=qd a
     refine ⟨_,(Option.some.inj k).symm,fun hm=>?_⟩
     subst hm
     obtain rfl:=qd n
     exact ⟨.inr J,_,J,wkA [] [] []⟩
    refine qk<|qf<|qc<|O J<|O J<|G _ J<|G _ J<|qa ?_
    refine qm J a (fun _ a=>?_) (fun _ a=>?_)
    ·refine qc<|qb J<|qo ?_
     obtain rfl:=qd a
     refine ⟨_,(Option.some.inj k).symm,fun hm=>?_⟩
     subst hm
     obtain rfl:=qd n
     exact ⟨.inr J,_,J,wkA [] [] []⟩
    refine qk<|qf<|Q9 [Qm 0,U,Qm 0,U,qq 0,U,U,U,qq 0,U,U,U,U,U,U,U,U,U] qh<|O J<|O J<|O J<|O J<|G _ J<|O J<|O J<|G _ J ?_
    obtain ⟨v,aq,a⟩:=q6 a
    refine qv aq J J<|Q4 _ aq J<|O J<|O J ?_
    obtain ⟨w,ar,a⟩:=q6 a
    refine qv ar J J<|Q4 _ ar J ?_
    obtain ⟨cj,au,a⟩:=q6 a
    refine qv au J J<|Qw (ds:=[q9 v]) v au J J J J J J J J (leb J) J ?_
    obtain ⟨ck,av,a⟩:=q6 a
    refine qv av qe J<|Qw (ds:=[q9 w]) w av J J J J J J J J (leb J) J<|qa<|qf<|qc<|O J<|O J<|G _ J<|G _ J<|qa ?_
    obtain ⟨bs,m,a⟩:=q6 a
    refine Yk (fun p=>p = bs) (fun p=>⟨[(0,.hs 0 1 0 p.length),(1,q7 h),(2,q7 f),(7,q7 g),(8,q7 d.2.1)],[(0,.dat 1 (p.map (eI .i64)))],1⟩) qe ?_ ?_
    ·refine qm J m (fun _ m=>?_) (fun _ m=>?_)
     ·refine qc<|O J<|G _ J<|qb J<|qa ?_
      obtain ⟨bt,bu,m⟩:=q6 m
      refine qx<|Q5 (q9w) (fun t=>⟨[(0,.hs 0 1 0 t.2.length),(1,q7 h),(2,q7 f),(7,q7 g),(8,q7 d.2.1),(9,q7 t.1)],[(0,.dat 1 (t.2.map (eI .i64)))],1⟩) (w64 (g - 1),(d.2.2.set g.toNat v).set (w64 (g - 1)).toNat w) bt bu (wkE [] [] [] J ⟨⟨_,J,Qy qe J qs (ltd J)⟩,qn J,qn J,qn J,qn J,qn J,trivial⟩ ⟨Qk J J,trivial⟩) ?_
      intro t cm b
      unfold q9w at b
      refine qf<|qc<|O J<|G _ J<|qa ?_
      refine qm J b (fun _ b=>?_) (fun _ b=>?_)
      ·refine qk<|qf<|qx<|qf<|qf<|Q9 [U,U,qq 0,U,U,U,U,qq 0,U,U,U] qh<|O J<|O J ?_
       obtain ⟨bv,aw,b⟩:=q6 b
       refine qv aw J J<|Q4 _ aw J<|O J<|O J<|G _ J ?_
       obtain ⟨bw,ax,b⟩:=q6 b
       refine qv ax J J<|Q4 _ ax J ?_
       obtain ⟨bz,ca,b⟩:=q6 b
       refine qz (Zn bv bw bz ca) J<|G _ J<|qa ?_
       refine qm J b (fun _ b=>?_) (fun _ b=>?_)
       ·refine Q3 ?_
        refine ⟨_,(Option.some.inj b).symm,fun hm=>?_⟩
        subst hm
        obtain rfl:=qd m
        exact ⟨_,J,wkA [] [] []⟩
       refine qk<|Q9 [Qm 0,U,Qm 0,U,qq 0,U,U,U,qq 0,U,U,U,U,U,U,U,U,U] qh<|O J<|O J<|O J<|O J<|G _ J<|O J<|O J<|G _ J ?_
       obtain ⟨ay,az,b⟩:=q6 b
       refine qv az J J<|Q4 _ az J<|O J<|O J ?_
       obtain ⟨x,ba,b⟩:=q6 b
       refine qv ba J J<|Q4 (q7 x) ba J ?_
       obtain ⟨cn,bb,b⟩:=q6 b
       refine qv bb J J<|Qw (ds:=[q9 ay]) ay bb J J J J J J J J (leb J) J ?_
       obtain ⟨co,bc,b⟩:=q6 b
       refine qv bc qe J<|Qw (ds:=[q9 x]) x bc J J J J J J J J (leb J) J<|qr<|Qg<|qt<|O J<|G _ J<|qb J<|qr ?_
       exact ⟨_,(Option.some.inj b).symm,wkE [] [] [] J ⟨⟨_,J,Qy qe J qs (ltd J)⟩,qn J,qn J,qn J,qn J,qn J,trivial⟩ ⟨Qk J J,trivial⟩⟩
      refine Q3 ?_
      refine ⟨_,(Option.some.inj b).symm,fun hm=>?_⟩
      subst hm
      obtain rfl:=qd m
      exact ⟨_,J,wkA [] [] []⟩
     refine qk<|Q7 ?_
     obtain rfl:=qd m
     exact ⟨_,J,wkE [] [] [] J ⟨⟨_,J,Qy qe J qs (ltd J)⟩,qn J,qn J,qn J,qn J,trivial⟩ ⟨Qk J J,trivial⟩⟩
    intro p hb
    subst hb
    refine qc<|O J<|O J<|G _ J<|G _ J<|qa ?_
    refine qm J a (fun _ a=>?_) (fun _ a=>?_)
    ·refine qc<|O J<|G _ J<|qb J<|qa ?_
     obtain ⟨cb,cc,a⟩:=q6 a
     refine qx<|Q5 (q6u f g) (fun u=>⟨[(0,.hs 0 1 0 u.2.length),(1,q7 h),(2,q7 f),(7,q7 g),(8,q7 d.2.1),(10,q7 u.1)],[(0,.dat 1 (u.2.map (eI .i64)))],1⟩) (w64 (g + 1),p) cb cc (wkA [] [] []) ?_
     intro u cp c
     unfold q6u at c
     refine qf<|qc<|O J<|O J<|G _ J<|qa ?_
     refine qm J c (fun _ c=>?_) (fun _ c=>?_)
     ·refine qk<|qf<|qx<|qf<|qf<|Q9 [U,U,qq 0,U,U,U,U,qq 0,U,U,U] qh<|O J<|O J ?_
      obtain ⟨cd,bd,c⟩:=q6 c
      refine qv bd J J<|Q4 _ bd J<|O J<|O J<|G _ J ?_
      obtain ⟨ce,be,c⟩:=q6 c
      refine qv be J J<|Q4 _ be J ?_
      obtain ⟨cf,cg,c⟩:=q6 c
      refine qz (Zn cd ce cf cg) J<|G _ J<|qa ?_
      refine qm J c (fun _ c=>?_) (fun _ c=>?_)
      ·refine Q3 ?_
       refine ⟨_,(Option.some.inj c).symm,fun hm=>?_⟩
       subst hm
       obtain rfl:=qd a
       exact ⟨_,J,wkA [] [] []⟩
      refine qk<|Q9 [Qm 0,U,Qm 0,U,qq 0,U,U,U,qq 0,U,U,U,U,U,U,U,U,U] qh<|O J<|O J<|O J<|O J<|G _ J<|O J<|O J<|G _ J ?_
      obtain ⟨bf,bg,c⟩:=q6 c
      refine qv bg J J<|Q4 _ bg J<|O J<|O J ?_
      obtain ⟨y,bh,c⟩:=q6 c
      refine qv bh J J<|Q4 (q7 y) bh J ?_
      obtain ⟨cq,bi,c⟩:=q6 c
      refine qv bi J J<|Qw (ds:=[q9 bf]) bf bi J J J J J J J J (leb J) J ?_
      obtain ⟨cr,bj,c⟩:=q6 c
      refine qv bj qe J<|Qw (ds:=[q9 y]) y bj J J J J J J J J (leb J) J<|qr<|Qg<|qt<|O J<|G _ J<|qb J<|qr ?_
      exact ⟨_,(Option.some.inj c).symm,wkE [] [] [] J ⟨⟨_,J,Qy qe J qs (ltd J)⟩,qn J,qn J,qn J,qn J,qn J,trivial⟩ ⟨Qk J J,trivial⟩⟩
     refine Q3 ?_
     refine ⟨_,(Option.some.inj c).symm,fun hm=>?_⟩
     subst hm
     obtain rfl:=qd a
     exact ⟨_,J,wkA [] [] []⟩
    refine qk<|Q7 ?_
    obtain rfl:=qd a
    exact ⟨_,J,wkA [] [] []⟩
   intro o hb
   subst hb
   refine qt<|O J<|G _ J<|qb J<|qr ?_
   exact ⟨_,(Option.some.inj k).symm,wkA [] [] []⟩
  refine Q3 ?_
  refine ⟨_,(Option.some.inj k).symm,fun hm=>?_⟩
  subst hm
  exact ⟨_,J,wkA [] [] []⟩
 intro s hb
 subst hb
 refine qc<|qb J<|qo ?_
 obtain rfl:=qd n
 exact ⟨.inr J,_,J,wkA [] [] []⟩
theorem qyq (m : List Int) (c : Int) (o : Int) (p : Int) (r : Int × List Int) (d : q6v  m c o p = some r) : K0 Tryz.prog tab 153 [.hs 0 1 0 m.length,q7 c,q7 o,q7 p] [(0,.dat 1 (m.map (eI .i64)))] 1 (q7 r.1) [(0,.dat 1 (r.2.map (eI .i64)))] 1:=by
 unfold q6v at d
 refine Kh Tryz.func153 J qh qh J<|qc<|qb J<|qa<|qf<|Q9 [Qm 0,U,Qm 0,U,qq 0,U,U,U,qq 0,U,U,U,U,U,U,U] qh<|O J<|O J<|O J<|O J<|O J<|O J ?_
 obtain ⟨q,u,d⟩:=q6 d
 refine qv u J J<|Q4 _ u J<|O J<|O J ?_
 obtain ⟨s,v,d⟩:=q6 d
 refine qv v J J<|Q4 _ v J ?_
 obtain ⟨bw,w,d⟩:=q6 d
 refine qv w J J<|Qw (ds:=[q9 q]) q w J J J J J J J J (leb J) J ?_
 obtain ⟨bz,x,d⟩:=q6 d
 refine qv x qe J<|Qw (ds:=[q9 s]) s x J J J J J J J J (leb J) J<|qp<|O J<|G _ J<|O J<|G _ J<|qb J<|qb J<|qa<|qf ?_
 obtain ⟨y,bj,d⟩:=q6 d
 refine Qc (fun l=>l = y) (fun l=>⟨[(9,q7 l.1)],[(0,.dat 1 (l.2.map (eI .i64)))],1⟩) qe ?_ ?_
 ·refine Q5 (q6w c) (fun a=>⟨[(0,.hs 0 1 0 a.2.2.length),(1,q7 c),(9,q7 a.1),(10,q7 a.2.1)],[(0,.dat 1 (a.2.2.map (eI .i64)))],1⟩) (w64 (c + 1),w64 (o - 1),(m.set c.toNat q).set p.toNat s) y bj (wkE [] [] [] J ⟨⟨_,J,Qy qe J qs (ltd J)⟩,qn J,qn J,qn J,trivial⟩ ⟨Qk J J,trivial⟩) ?_
  intro a ca b
  unfold q6w at b
  refine qx<|qf ?_
  obtain ⟨z,bk,b⟩:=q6 b
  refine Qc (fun k=>k = z) (fun k=>⟨[(0,.hs 0 1 0 a.2.2.length),(1,q7 c),(9,q7 k),(10,q7 a.2.1)],[(0,.dat 1 (a.2.2.map (eI .i64)))],1⟩) qe ?_ ?_
  ·refine Q5 (q6x a c) (fun aa=>⟨[(0,.hs 0 1 0 a.2.2.length),(1,q7 c),(9,q7 aa),(10,q7 a.2.1)],[(0,.dat 1 (a.2.2.map (eI .i64)))],1⟩) a.1 z bk (wkA [] [] []) ?_
   intro aa cb h
   unfold q6x at h
   refine qf<|qf<|Q9 [U,U,U,qq 0,U,U,U,qq 0,U,U,U,U,U,U,U] qh<|O J<|O J<|G _ J ?_
   obtain ⟨bl,f,h⟩:=q6 h
   refine Q2 12 (fun A st=>∃ ab ac ad ae af ag ah ai aj ak al,st = A [(43,qu bl),(42,al),(41,ak),(40,aj),(39,ai),(38,ah),(37,ag),(36,af),(35,ae),(34,ad),(33,ac),(32,ab)]) ?_ ?_
   ·refine Q0 J J f (fun f=>?_) (fun f=>?_)
    ·refine O J<|O J ?_
     obtain ⟨bm,am,f⟩:=q6 f
     refine qv am J J<|Q4 _ am J<|O J<|O J ?_
     obtain ⟨bn,an,f⟩:=q6 f
     refine qv an J J<|Q4 _ an J ?_
     obtain ⟨bo,bp,f⟩:=q6 f
     refine qz (Zn bm bn bo bp) J<|G _ J<|G _ J<|qa ?_
     obtain rfl:=qd f
     exact ⟨_,_,_,_,_,_,_,_,_,_,_,J⟩
    refine q8 J<|q8 J<|q8 J<|q8 J<|q8 J<|q8 J<|q8 J<|q8 J<|q8 J<|q8 J<|G _ J<|qa ?_
    obtain rfl:=qd f
    exact ⟨_,_,_,_,_,_,_,_,_,_,_,J⟩
   rintro _ ⟨ab,ac,ad,ae,af,ag,ah,ai,aj,ak,al,rfl⟩
   refine qa ?_
   refine qm J h (fun _ h=>?_) (fun _ h=>?_)
   ·refine qk<|qx<|qt<|O J<|G _ J<|qb J<|qr<|Qg<|Q7 ?_
    exact ⟨_,(Option.some.inj h).symm,wkA [] [] []⟩
   refine Q3 ?_
   refine ⟨_,(Option.some.inj h).symm,fun hm=>?_⟩
   subst hm
   exact ⟨_,J,wkA [] [] []⟩
  intro k hb
  subst hb
  refine qf ?_
  obtain ⟨ao,bq,b⟩:=q6 b
  refine Qc (fun n=>n = ao) (fun n=>⟨[(0,.hs 0 1 0 a.2.2.length),(1,q7 c),(9,q7 k),(10,q7 n)],[(0,.dat 1 (a.2.2.map (eI .i64)))],1⟩) qe ?_ ?_
  ·refine Q5 (q6y k a c) (fun ap=>⟨[(0,.hs 0 1 0 a.2.2.length),(1,q7 c),(9,q7 k),(10,q7 ap)],[(0,.dat 1 (a.2.2.map (eI .i64)))],1⟩) a.2.1 ao bq (wkA [] [] []) ?_
   intro ap cc j
   unfold q6y at j
   refine qf<|qf<|Q9 [U,U,qq 0,U,U,U,qq 0,U,U,U,U,U,U,U] qh<|O J<|O J<|G _ J ?_
   obtain ⟨br,g,j⟩:=q6 j
   refine Q2 11 (fun A st=>∃ aq ar au av aw ax ay az ba bb,st = A [(59,qu br),(58,bb),(57,ba),(56,az),(55,ay),(54,ax),(53,aw),(52,av),(51,au),(50,ar),(49,aq)]) ?_ ?_
   ·refine Q0 J J g (fun g=>?_) (fun g=>?_)
    ·refine O J<|O J ?_
     obtain ⟨bs,bc,g⟩:=q6 g
     refine qv bc J J<|Q4 _ bc J<|O J<|O J ?_
     obtain ⟨bt,bd,g⟩:=q6 g
     refine qv bd J J<|Q4 _ bd J ?_
     obtain ⟨bu,bv,g⟩:=q6 g
     refine qz (Zn bs bt bu bv) J<|G _ J<|qa ?_
     obtain rfl:=qd g
     exact ⟨_,_,_,_,_,_,_,_,_,_,J⟩
    refine q8 J<|q8 J<|q8 J<|q8 J<|q8 J<|q8 J<|q8 J<|q8 J<|q8 J<|G _ J<|qa ?_
    obtain rfl:=qd g
    exact ⟨_,_,_,_,_,_,_,_,_,_,J⟩
   rintro _ ⟨aq,ar,au,av,aw,ax,ay,az,ba,bb,rfl⟩
   refine qa ?_
   refine qm J j (fun _ j=>?_) (fun _ j=>?_)
   ·refine qk<|qx<|qt<|O J<|G _ J<|qb J<|qr<|Qg<|Q7 ?_
    exact ⟨_,(Option.some.inj j).symm,wkA [] [] []⟩
   refine Q3 ?_
   refine ⟨_,(Option.some.inj j).symm,fun hm=>?_⟩
   subst hm
   exact ⟨_,J,wkA [] [] []⟩
  intro n hb
  subst hb
  refine qf<|qc<|O J<|O J<|G _ J<|qa ?_
  refine qm J b (fun _ b=>?_) (fun _ b=>?_)
  ·refine Q3 ?_
   refine ⟨_,(Option.some.inj b).symm,fun hm=>?_⟩
   subst hm
   exact ⟨_,J,wkA [] [] []⟩
  refine qk<|qf<|Q9 [Qm 0,U,Qm 0,U,qq 0,U,U,U,qq 0,U,U,U,U,U,U,U] qh<|O J<|O J<|O J<|O J<|O J<|O J ?_
  obtain ⟨be,bf,b⟩:=q6 b
  refine qv bf J J<|Q4 _ bf J<|O J<|O J ?_
  obtain ⟨t,bg,b⟩:=q6 b
  refine qv bg J J<|Q4 (q7 t) bg J ?_
  obtain ⟨cd,bh,b⟩:=q6 b
  refine qv bh J J<|Qw (ds:=[q9 be]) be bh J J J J J J J J (leb J) J ?_
  obtain ⟨ce,bi,b⟩:=q6 b
  refine qv bi qe J<|Qw (ds:=[q9 t]) t bi J J J J J J J J (leb J) J<|qp<|O J<|G _ J<|qb J<|qa<|qt<|O J<|G _ J<|qb J<|qr<|Qg<|Q7 ?_
  exact ⟨_,(Option.some.inj b).symm,wkE [] [] [] J ⟨⟨_,J,Qy qe J qs (ltd J)⟩,qn J,qn J,qn J,trivial⟩ ⟨Qk J J,trivial⟩⟩
 intro l hb
 subst hb
 refine qc<|O J<|qb J<|qo ?_
 obtain rfl:=qd d
 exact ⟨.inr J,_,J,wkA [] [] []⟩
theorem qyr (g : List Int) (b : Int) (s : Int) (k : Int) (r : Int × Bool × List Int) (a : q6z  g b s k = some r) : K0 Tryz.prog tab 154 [.hs 0 1 0 g.length,q7 b,q7 s,q7 k] [(0,.dat 1 (g.map (eI .i64)))] 1 (.d (.tup [q9 r.1,.bool r.2.1])) [(0,.dat 1 (r.2.2.map (eI .i64)))] 1:=by
 unfold q6z at a
 refine Kh Tryz.func154 J qh qh J<|qc<|qb J<|qb J<|qa<|qf<|Q9 [Qm 0,U,Qm 0,U,qq 0,U,U,U,qq 0,U,U,U,U,U,U,U] qh<|O J<|O J<|O J<|O J<|O J<|O J ?_
 obtain ⟨h,ao,a⟩:=q6 a
 refine qv ao J J<|Q4 (q7 h) ao J<|O J<|O J ?_
 obtain ⟨j,ap,a⟩:=q6 a
 refine qv ap J J<|Q4 (q7 j) ap J ?_
 obtain ⟨fs,aq,a⟩:=q6 a
 refine qv aq J J<|Qw (ds:=[q9 h]) h aq J J J J J J J J (leb J) J ?_
 obtain ⟨ft,ar,a⟩:=q6 a
 refine qv ar qe J<|Qw (ds:=[q9 j]) j ar J J J J J J J J (leb J) J<|qp<|O J<|G (.d (q9 (w64 (b + 1)))) J<|O J<|G (.d (q9 (w64 (s - 1)))) J<|qb J<|qb J<|qa<|qf ?_
 obtain ⟨au,fe,a⟩:=q6 a
 refine Qc (fun l=>l = au) (fun (l : Int)=>⟨[(0,.hs 0 1 0 ((g.set b.toNat h).set k.toNat j).length),(1,q7 b),(10,q7 l),(11,.d (q9 (w64 (s - 1))))],[(0,.dat 1 (((g.set b.toNat h).set k.toNat j).map (eI .i64)))],1⟩) qe ?_ ?_
 ·refine Q5 (q70 s g b h k j) (fun (aa : Int)=>⟨[(0,.hs 0 1 0 ((g.set b.toNat h).set k.toNat j).length),(1,q7 b),(10,q7 aa),(11,.d (q9 (w64 (s - 1))))],[(0,.dat 1 (((g.set b.toNat h).set k.toNat j).map (eI .i64)))],1⟩) (w64 (b + 1)) au fe (wkE [] [] [] J ⟨⟨_,J,Qy qe J qs (ltd J)⟩,qn J,qn J,qn J,trivial⟩ ⟨Qk J J,trivial⟩) ?_
  intro aa fu t
  unfold q70 at t
  refine qf<|qf<|Q9 [U,U,qq 0,U,U,U,qq 0,U,U,U,U,U,U,U] qh<|O J<|O J<|G (.d (.bool (decide (aa≤(w64 (s - 1)))))) J ?_
  obtain ⟨ff,m,t⟩:=q6 t
  refine Q2 11 (fun A st=>∃ (av aw ax ay az ba bb bc bd be : V),st = A [(43,qu ff),(42,be),(41,bd),(40,bc),(39,bb),(38,ba),(37,az),(36,ay),(35,ax),(34,aw),(33,av)]) ?_ ?_
  ·refine Q0 J J m (fun m=>?_) (fun m=>?_)
   ·refine O J<|O J ?_
    obtain ⟨bf,bg,m⟩:=q6 m
    refine qv bg J J<|Q4 (q7 bf) bg J<|O J<|O J ?_
    obtain ⟨bh,bi,m⟩:=q6 m
    refine qv bi J J<|Q4 (q7 bh) bi J ?_
    obtain ⟨bj,fg,m⟩:=q6 m
    refine qz (Zn bf bh bj fg) J<|G (qu bj) J<|qa ?_
    obtain rfl:=qd m
    exact ⟨_,_,_,_,_,_,_,_,_,_,J⟩
   refine q8 J<|q8 J<|q8 J<|q8 J<|q8 J<|q8 J<|q8 J<|q8 J<|q8 J<|G (qu false) J<|qa ?_
   obtain rfl:=qd m
   exact ⟨_,_,_,_,_,_,_,_,_,_,J⟩
  rintro _ ⟨av,aw,ax,ay,az,ba,bb,bc,bd,be,rfl⟩
  refine qa ?_
  refine qm J t (fun _ t=>?_) (fun _ t=>?_)
  ·refine qk<|qx<|qt<|O J<|G (.d (q9 (w64 (aa + 1)))) J<|qb J<|qr<|Qg<|Q7 ?_
   exact ⟨_,(Option.some.inj t).symm,wkA [] [] []⟩
  refine Q3 ?_
  refine ⟨_,(Option.some.inj t).symm,fun hm=>?_⟩
  subst hm
  exact ⟨_,J,wkA [] [] []⟩
 intro l hb
 subst hb
 refine qf ?_
 obtain ⟨bk,fh,a⟩:=q6 a
 refine Qc (fun u=>u = bk) (fun (u : Int)=>⟨[(0,.hs 0 1 0 ((g.set b.toNat h).set k.toNat j).length),(1,q7 b),(10,q7 l),(11,q7 u)],[(0,.dat 1 (((g.set b.toNat h).set k.toNat j).map (eI .i64)))],1⟩) qe ?_ ?_
 ·refine Q5 (q71 l g b h k j) (fun (ab : Int)=>⟨[(0,.hs 0 1 0 ((g.set b.toNat h).set k.toNat j).length),(1,q7 b),(10,q7 l),(11,q7 ab)],[(0,.dat 1 (((g.set b.toNat h).set k.toNat j).map (eI .i64)))],1⟩) (w64 (s - 1)) bk fh (wkA [] [] []) ?_
  intro ab fv v
  unfold q71 at v
  refine qf<|qf<|Q9 [U,U,U,qq 0,U,U,U,qq 0,U,U,U,U,U,U,U] qh<|O J<|O J<|G (.d (.bool (decide (l≤ab)))) J ?_
  obtain ⟨fi,n,v⟩:=q6 v
  refine Q2 12 (fun A st=>∃ (bl bm bn bo bp bq br bs bt bu bv : V),st = A [(60,qu fi),(59,bv),(58,bu),(57,bt),(56,bs),(55,br),(54,bq),(53,bp),(52,bo),(51,bn),(50,bm),(49,bl)]) ?_ ?_
  ·refine Q0 J J n (fun n=>?_) (fun n=>?_)
   ·refine O J<|O J ?_
    obtain ⟨bw,bz,n⟩:=q6 n
    refine qv bz J J<|Q4 (q7 bw) bz J<|O J<|O J ?_
    obtain ⟨ca,cb,n⟩:=q6 n
    refine qv cb J J<|Q4 (q7 ca) cb J ?_
    obtain ⟨ag,fj,n⟩:=q6 n
    refine qz (Zn bw ca ag fj) J<|G (qu (!ag)) J<|G (qu (!ag)) J<|qa ?_
    obtain rfl:=qd n
    exact ⟨_,_,_,_,_,_,_,_,_,_,_,J⟩
   refine q8 J<|q8 J<|q8 J<|q8 J<|q8 J<|q8 J<|q8 J<|q8 J<|q8 J<|q8 J<|G (qu false) J<|qa ?_
   obtain rfl:=qd n
   exact ⟨_,_,_,_,_,_,_,_,_,_,_,J⟩
  rintro _ ⟨bl,bm,bn,bo,bp,bq,br,bs,bt,bu,bv,rfl⟩
  refine qa ?_
  refine qm J v (fun _ v=>?_) (fun _ v=>?_)
  ·refine qk<|qx<|qt<|O J<|G (.d (q9 (w64 (ab - 1)))) J<|qb J<|qr<|Qg<|Q7 ?_
   exact ⟨_,(Option.some.inj v).symm,wkA [] [] []⟩
  refine Q3 ?_
  refine ⟨_,(Option.some.inj v).symm,fun hm=>?_⟩
  subst hm
  exact ⟨_,J,wkA [] [] []⟩
 intro u hb
 subst hb
 refine qf<|qc<|O J<|O J<|G (.d (.bool (decide (l > u)))) J<|qa ?_
 refine qm J a (fun _ a=>?_) (fun _ a=>?_)
 ·refine qf<|Q9 [Qm 0,U,Qm 0,U,qq 0,U,U,U,qq 0,U,U,U,U,U,U,U] qh<|O J<|O J<|O J<|O J<|O J<|O J ?_
  obtain ⟨ah,cc,a⟩:=q6 a
  refine qv cc J J<|Q4 (q7 ah) cc J<|O J<|O J ?_
  obtain ⟨ai,cd,a⟩:=q6 a
  refine qv cd J J<|Q4 (q7 ai) cd J ?_
  obtain ⟨fw,ce,a⟩:=q6 a
  refine qv ce J J<|Qw (ds:=[q9 ah]) ah ce J J J J J J J J (leb J) J ?_
  obtain ⟨fx,cf,a⟩:=q6 a
  refine qv cf qe J<|Qw (ds:=[q9 ai]) ai cf J J J J J J J J (leb J) J<|qp<|O J<|qb J<|qb J<|qo ?_
  obtain rfl:=qd a
  exact ⟨.inr J,_,J,wkA [] [] []⟩
 refine qk<|qf<|Q9 [Qm 0,U,Qm 0,U,qq 0,U,U,U,qq 0,U,U,U,U,U,U,U] qh<|O J<|O J<|O J<|O J<|O J<|O J ?_
 obtain ⟨ac,cg,a⟩:=q6 a
 refine qv cg J J<|Q4 (q7 ac) cg J<|O J<|O J ?_
 obtain ⟨ad,ch,a⟩:=q6 a
 refine qv ch J J<|Q4 (q7 ad) ch J ?_
 obtain ⟨fy,ci,a⟩:=q6 a
 refine qv ci J J<|Qw (ds:=[q9 ac]) ac ci J J J J J J J J (leb J) J ?_
 obtain ⟨fz,cj,a⟩:=q6 a
 refine qv cj qe J<|Qw (ds:=[q9 ad]) ad cj J J J J J J J J (leb J) J<|qp<|O J<|G (.d (q9 (w64 (l + 1)))) J<|qb J<|qp<|O J<|G (.d (q9 (w64 (u - 1)))) J<|qb J<|qa<|qf ?_
 obtain ⟨ck,fk,a⟩:=q6 a
 refine Qc (fun y=>y = ck) (fun (y : Int × List Int)=>⟨[(0,.hs 0 1 0 y.2.length),(1,q7 b),(11,q7 y.1)],[(0,.dat 1 (y.2.map (eI .i64)))],1⟩) qe ?_ ?_
 ·refine Q5 (q72 b) (fun (c : Int × Int × List Int)=>⟨[(0,.hs 0 1 0 c.2.2.length),(1,q7 b),(10,q7 c.1),(11,q7 c.2.1)],[(0,.dat 1 (c.2.2.map (eI .i64)))],1⟩) (w64 (l + 1),w64 (u - 1),(((g.set b.toNat h).set k.toNat j).set l.toNat ac).set u.toNat ad) ck fk (wkE [] [] [] J ⟨⟨_,J,Qy qe J qs (ltd J)⟩,qn J,qn J,qn J,trivial⟩ ⟨Qk J J,trivial⟩) ?_
  intro c ga f
  unfold q72 at f
  refine qx<|qf ?_
  obtain ⟨cm,fl,f⟩:=q6 f
  refine Qc (fun q=>q = cm) (fun (q : Int)=>⟨[(0,.hs 0 1 0 c.2.2.length),(1,q7 b),(10,q7 q),(11,q7 c.2.1)],[(0,.dat 1 (c.2.2.map (eI .i64)))],1⟩) qe ?_ ?_
  ·refine Q5 (q73 c b) (fun (ae : Int)=>⟨[(0,.hs 0 1 0 c.2.2.length),(1,q7 b),(10,q7 ae),(11,q7 c.2.1)],[(0,.dat 1 (c.2.2.map (eI .i64)))],1⟩) c.1 cm fl (wkA [] [] []) ?_
   intro ae gb w
   unfold q73 at w
   refine qf<|qf<|Q9 [U,U,qq 0,U,U,U,qq 0,U,U,U,U,U,U,U] qh<|O J<|O J<|G (.d (.bool (decide (ae≤c.2.1)))) J ?_
   obtain ⟨fm,o,w⟩:=q6 w
   refine Q2 11 (fun A st=>∃ (cn co cp cq cr cs ct cu cv cw : V),st = A [(112,qu fm),(111,cw),(110,cv),(109,cu),(108,ct),(107,cs),(106,cr),(105,cq),(104,cp),(103,co),(102,cn)]) ?_ ?_
   ·refine Q0 J J o (fun o=>?_) (fun o=>?_)
    ·refine O J<|O J ?_
     obtain ⟨cx,cy,o⟩:=q6 o
     refine qv cy J J<|Q4 (q7 cx) cy J<|O J<|O J ?_
     obtain ⟨cz,da,o⟩:=q6 o
     refine qv da J J<|Q4 (q7 cz) da J ?_
     obtain ⟨dc,fn,o⟩:=q6 o
     refine qz (Zn cx cz dc fn) J<|G (qu dc) J<|qa ?_
     obtain rfl:=qd o
     exact ⟨_,_,_,_,_,_,_,_,_,_,J⟩
    refine q8 J<|q8 J<|q8 J<|q8 J<|q8 J<|q8 J<|q8 J<|q8 J<|q8 J<|G (qu false) J<|qa ?_
    obtain rfl:=qd o
    exact ⟨_,_,_,_,_,_,_,_,_,_,J⟩
   rintro _ ⟨cn,co,cp,cq,cr,cs,ct,cu,cv,cw,rfl⟩
   refine qa ?_
   refine qm J w (fun _ w=>?_) (fun _ w=>?_)
   ·refine qk<|qx<|qt<|O J<|G (.d (q9 (w64 (ae + 1)))) J<|qb J<|qr<|Qg<|Q7 ?_
    exact ⟨_,(Option.some.inj w).symm,wkA [] [] []⟩
   refine Q3 ?_
   refine ⟨_,(Option.some.inj w).symm,fun hm=>?_⟩
   subst hm
   exact ⟨_,J,wkA [] [] []⟩
  intro q hb
  subst hb
  refine qf ?_
  obtain ⟨dd,fo,f⟩:=q6 f
  refine Qc (fun z=>z = dd) (fun (z : Int)=>⟨[(0,.hs 0 1 0 c.2.2.length),(1,q7 b),(10,q7 q),(11,q7 z)],[(0,.dat 1 (c.2.2.map (eI .i64)))],1⟩) qe ?_ ?_
  ·refine Q5 (q74 q c b) (fun (af : Int)=>⟨[(0,.hs 0 1 0 c.2.2.length),(1,q7 b),(10,q7 q),(11,q7 af)],[(0,.dat 1 (c.2.2.map (eI .i64)))],1⟩) c.2.1 dd fo (wkA [] [] []) ?_
   intro af gc x
   unfold q74 at x
   refine qf<|qf<|Q9 [U,U,U,qq 0,U,U,U,qq 0,U,U,U,U,U,U,U] qh<|O J<|O J<|G (.d (.bool (decide (q≤af)))) J ?_
   obtain ⟨fq,p,x⟩:=q6 x
   refine Q2 12 (fun A st=>∃ (de df dg dh dj dk dl dm dn dp dq : V),st = A [(129,qu fq),(128,dq),(127,dp),(126,dn),(125,dm),(124,dl),(123,dk),(122,dj),(121,dh),(120,dg),(119,df),(118,de)]) ?_ ?_
   ·refine Q0 J J p (fun p=>?_) (fun p=>?_)
    ·refine O J<|O J ?_
     obtain ⟨dr,dt,p⟩:=q6 p
     refine qv dt J J<|Q4 (q7 dr) dt J<|O J<|O J ?_
     obtain ⟨du,dv,p⟩:=q6 p
     refine qv dv J J<|Q4 (q7 du) dv J ?_
     obtain ⟨aj,fr,p⟩:=q6 p
     refine qz (Zn dr du aj fr) J<|G (qu (!aj)) J<|G (qu (!aj)) J<|qa ?_
     obtain rfl:=qd p
     exact ⟨_,_,_,_,_,_,_,_,_,_,_,J⟩
    refine q8 J<|q8 J<|q8 J<|q8 J<|q8 J<|q8 J<|q8 J<|q8 J<|q8 J<|q8 J<|G (qu false) J<|qa ?_
    obtain rfl:=qd p
    exact ⟨_,_,_,_,_,_,_,_,_,_,_,J⟩
   rintro _ ⟨de,df,dg,dh,dj,dk,dl,dm,dn,dp,dq,rfl⟩
   refine qa ?_
   refine qm J x (fun _ x=>?_) (fun _ x=>?_)
   ·refine qk<|qx<|qt<|O J<|G (.d (q9 (w64 (af - 1)))) J<|qb J<|qr<|Qg<|Q7 ?_
    exact ⟨_,(Option.some.inj x).symm,wkA [] [] []⟩
   refine Q3 ?_
   refine ⟨_,(Option.some.inj x).symm,fun hm=>?_⟩
   subst hm
   exact ⟨_,J,wkA [] [] []⟩
  intro z hb
  subst hb
  refine qf<|qc<|O J<|O J<|G (.d (.bool (decide (q > z)))) J<|qa ?_
  refine qm J f (fun _ f=>?_) (fun _ f=>?_)
  ·refine Q3 ?_
   refine ⟨_,(Option.some.inj f).symm,fun hm=>?_⟩
   subst hm
   exact ⟨_,J,wkA [] [] []⟩
  refine qk<|qf<|Q9 [Qm 0,U,Qm 0,U,qq 0,U,U,U,qq 0,U,U,U,U,U,U,U] qh<|O J<|O J<|O J<|O J<|O J<|O J ?_
  obtain ⟨ak,dw,f⟩:=q6 f
  refine qv dw J J<|Q4 (q7 ak) dw J<|O J<|O J ?_
  obtain ⟨al,dx,f⟩:=q6 f
  refine qv dx J J<|Q4 (q7 al) dx J ?_
  obtain ⟨gd,dy,f⟩:=q6 f
  refine qv dy J J<|Qw (ds:=[q9 ak]) ak dy J J J J J J J J (leb J) J ?_
  obtain ⟨ge,dz,f⟩:=q6 f
  refine qv dz qe J<|Qw (ds:=[q9 al]) al dz J J J J J J J J (leb J) J<|qp<|O J<|G (.d (q9 (w64 (q + 1)))) J<|qb J<|qa<|qt<|O J<|G (.d (q9 (w64 (z - 1)))) J<|qb J<|qr<|Qg<|Q7 ?_
  exact ⟨_,(Option.some.inj f).symm,wkE [] [] [] J ⟨⟨_,J,Qy qe J qs (ltd J)⟩,qn J,qn J,qn J,trivial⟩ ⟨Qk J J,trivial⟩⟩
 intro y hb
 subst hb
 refine qf<|Q9 [Qm 0,U,Qm 0,U,qq 0,U,U,U,qq 0,U,U,U,U,U,U,U] qh<|O J<|O J<|O J<|O J<|O J<|O J ?_
 obtain ⟨am,fa,a⟩:=q6 a
 refine qv fa J J<|Q4 (q7 am) fa J<|O J<|O J ?_
 obtain ⟨an,fb,a⟩:=q6 a
 refine qv fb J J<|Q4 (q7 an) fb J ?_
 obtain ⟨gf,fc,a⟩:=q6 a
 refine qv fc J J<|Qw (ds:=[q9 am]) am fc J J J J J J J J (leb J) J ?_
 obtain ⟨gg,fd,a⟩:=q6 a
 refine qv fd qe J<|Qw (ds:=[q9 an]) an fd J J J J J J J J (leb J) J<|qp<|O J<|qb J<|qb J<|qo ?_
 obtain rfl:=qd a
 exact ⟨.inr J,_,J,wkA [] [] []⟩
theorem qmv (b : Int) (r : Int) (a : q1l b = some r) : Pure Tryz.prog tab 166 [q9 b] (.int .u64 r):=by
 unfold q1l at a
 refine Qf Tryz.func166 J qh qh J<|qc<|qb J<|qp<|O J<|G _ J ?_
 obtain ⟨c,d,a⟩:=q6 a
 refine qz (qfb (IntKind.wrap .u64 b) c d) J ?_
 obtain ⟨g,f,a⟩:=q6 a
 refine qto f J J J<|qb J<|qo ?_
 obtain rfl:=qd a
 exact qy _ J
theorem qmy (a : Int) (r : Int) (b : q1m  a = some r) : K0 Tryz.prog tab 167 [.ref 0 1 0 0] [(0,.dat 1 [[.int .u64 a]])] 1 (.d (.int .u64 r)) [(0,.dat 1 [[.int .u64 r]])] 1:=by
 unfold q1m at b
 refine Kh Tryz.func167 J qh qh J<|qc<|qb J<|qa<|qf<|Q9 [Qm 0,U,U,U,qq 0,U,U,qq 0,U,U] qh<|O J<|G _ J<|G _ J<|O J<|G _ J<|G _ J<|G _ J<|G _ J<|G _ J<|Qd 0 _ J<|qa<|qf<|Q9 [Qm 0,U,U,U,qq 0,U,U,qq 0,U,U] qh<|O J<|G _ J<|G _ J<|O J<|G _ J<|G _ J<|G _ J<|G _ J<|G _ J<|Qd 0 _ J<|qa<|qf<|Q9 [Qm 0,U,U,U,qq 0,U,U,qq 0,U,U] qh<|O J<|G _ J<|G _ J<|O J<|G _ J<|G _ J<|G _ J<|G _ J ?_
 refine G _ J<|Qd 0 _ J<|qp<|O J<|G _ J<|G _ J<|qb J<|qo ?_
 obtain rfl:=qd b
 exact ⟨.inr J,_,J,wkA [] [] []⟩
theorem qyf (j : List Int) (b : Int) (g : Int) (r : List Int) (c : q6h  j b g = some r) : K0 Tryz.prog tab 148 [.hs 0 1 0 j.length,q7 b,q7 g] [(0,.dat 1 (j.map (eI .i64)))] 1 (.d (.tup [])) [(0,.dat 1 (r.map (eI .i64)))] 1:=by
 unfold q6h at c
 refine Kh Tryz.func148 J qh qh J<|qc<|O J<|O J<|G _ J<|qb J<|qp<|O J<|G _ J<|qa ?_
 refine qm J c (fun _ c=>?_) (fun _ c=>?_)
 ·refine qc<|O J<|G _ J<|Qv J J<|Qd 1 _ J<|qp<|O J ?_
  obtain ⟨k,u,c⟩:=q6 c
  refine qz (qmv (w64 (g - b)) k u) J<|qb J<|qp<|O J<|O J<|G _ J<|G _ J<|G _ J<|G _ J<|qb J<|qa ?_
  obtain ⟨v,w,c⟩:=q6 c
  refine qx<|Q5 (q6i b g k) (fun f=>⟨[(0,.hs 0 1 0 f.2.1.length),(1,q7 b),(6,.d (q9 (w64 (g - b)))),(7,.ref 1 1 0 0),(8,.d (.int .u64 k)),(9,q7 f.1)],[(0,.dat 1 (f.2.1.map (eI .i64))),(1,.dat 1 [[.int .u64 f.2.2]])],2⟩) (w64 ((w64 (b + (w64 ((w64 (Int.tdiv (w64 (g - b)) 4)) * 2)))) - 1),j,IntKind.wrap .u64 (w64 (g - b))) v w (wkA [(1,1)] [] []) ?_
  intro f z a
  unfold q6i at a
  refine qf<|qc<|O J<|O J<|O J<|G _ J<|G _ J<|G _ J<|G _ J<|G _ J<|qa ?_
  refine qm J a (fun _ a=>?_) (fun _ a=>?_)
  ·refine qk<|qf<|qx<|qc ?_
   obtain ⟨l,x,a⟩:=q6 a
   refine K1 [(0,1)] [(0,1),(1,0)] _ (.d (.int .u64 l)) 1 [(1,.dat 1 [[.int .u64 l]]),(0,.dat 1 (f.2.1.map (eI .i64)))] 2 (qmy f.2.2 l x)<|O J<|G _ J<|G _ J<|G _ J<|qb J<|qa<|qf<|qc<|O J<|O J<|G _ J<|qa ?_
   obtain ⟨y,h,a⟩:=q6 a
   refine Yk (fun m=>m = y) (fun m=>⟨[(0,.hs 0 1 0 f.2.1.length),(1,q7 b),(6,.d (q9 (w64 (g - b)))),(7,.ref 1 1 0 0),(8,.d (.int .u64 k)),(9,q7 f.1),(10,q7 m)],[(0,.dat 1 (f.2.1.map (eI .i64))),(1,.dat 1 [[.int .u64 l]])],2⟩) qe ?_ ?_
   ·refine qm J h (fun _ h=>?_) (fun _ h=>?_)
    ·refine qt<|O J<|O J<|G _ J<|qb J<|qr ?_
     obtain rfl:=qd h
     exact ⟨_,J,wkA [(1,1)] [] []⟩
    refine qk<|Q7 ?_
    obtain rfl:=qd h
    exact ⟨_,J,wkA [(1,1)] [] []⟩
   intro m hb
   subst hb
   refine Q9 [Qm 0,U,Qm 0,U,qq 0,U,U,U,qq 0,U,U,U,U,U,U,U,U,U,U,U] qh<|O J<|O J<|O J<|O J<|O J<|G _ J<|O J<|O J<|O J<|G _ J ?_
   obtain ⟨n,o,a⟩:=q6 a
   refine qv o J J<|Q4 _ o J<|O J<|O J ?_
   obtain ⟨p,q,a⟩:=q6 a
   refine qv q J J<|Q4 _ q J ?_
   obtain ⟨aa,s,a⟩:=q6 a
   refine qv s J J<|Qw (ds:=[q9 n]) n s J J J J J J J J (leb J) J ?_
   obtain ⟨ab,t,a⟩:=q6 a
   refine qv t qe J<|Qw (ds:=[q9 p]) p t J J J J J J J J (leb J) J<|qr<|Qg<|qt<|O J<|G _ J<|qb J<|qr ?_
   exact ⟨_,(Option.some.inj a).symm,wkE [(1,1)] [] [] J ⟨⟨_,J,Qy qe J qs (ltd J)⟩,qn J,qn J,⟨_,J,.ref J qs (ltd J)⟩,qn J,qn J,trivial⟩ ⟨Qk J J,Qk J J,trivial⟩⟩
  refine Q3 ?_
  refine ⟨_,(Option.some.inj a).symm,fun hm=>?_⟩
  subst hm
  obtain rfl:=qd c
  exact ⟨.inl J,_,J,wkA [] [] []⟩
 refine qk<|Q7 ?_
 obtain rfl:=qd c
 exact ⟨.inl J,_,J,wkA [] [] []⟩
theorem qyu (rec : List Int→Int→Int→Int→Option (List Int)) (hrec : ∀ (n : List Int) (o : Int) (p : Int) (q : Int) (r : List Int),rec n o p q = some r→K0 Tryz.prog tab 135 [.hs 0 1 0 n.length,q7 o,q7 p,q7 q] [(0,.dat 1 (n.map (eI .i64)))] 1 (.d (.tup [])) [(0,.dat 1 (r.map (eI .i64)))] 1) (n : List Int) (o : Int) (p : Int) (q : Int) (r : List Int) (s : q48 rec  n o p q = some r) : K0 Tryz.prog tab 135 [.hs 0 1 0 n.length,q7 o,q7 p,q7 q] [(0,.dat 1 (n.map (eI .i64)))] 1 (.d (.tup [])) [(0,.dat 1 (r.map (eI .i64)))] 1:=by
 unfold q48 at s
 refine Kh Tryz.func135 J qh qh J<|qc<|qb J<|qp<|qb J<|qa ?_
 obtain ⟨az,ba,s⟩:=q6 s
 refine qx<|Q5 (q47 rec) (fun b=>⟨[(0,.hs 0 1 0 b.2.2.2.2.2.length),(1,q7 b.1),(2,q7 b.2.1),(3,q7 b.2.2.1),(8,qu b.2.2.2.1),(9,qu b.2.2.2.2.1)],[(0,.dat 1 (b.2.2.2.2.2.map (eI .i64)))],1⟩) (o,p,q,true,true,n) az ba (wkA [] [] []) ?_
 intro b co a
 unfold q47 at a
 refine qx<|qc<|O J<|O J<|G _ J<|qb J<|qa<|qf<|qc<|O J<|G _ J<|qa ?_
 refine qm J a (fun _ a=>?_) (fun _ a=>?_)
 ·refine qc<|O J<|O J<|O J ?_
  obtain ⟨aa,bb,a⟩:=q6 a
  obtain ⟨cp,bc,a⟩:=q6 a
  have cq:=Kd bc
  refine K1 [(0,0)] [(0,0)] _ (.d (.tup [])) 1 [(0,.dat 1 (aa.map (eI .i64)))] 1 (qyl b.2.2.2.2.2 b.1 b.2.1 aa bb)<|qo ?_
  refine ⟨_,(Option.some.inj a).symm,fun hm=>?_⟩
  subst hm
  obtain rfl:=qd s
  exact ⟨.inr J,_,J,wkA [] [] []⟩
 refine qk<|qf<|qc<|O J<|G _ J<|qa ?_
 refine qm J a (fun _ a=>?_) (fun _ a=>?_)
 ·refine qc<|O J<|O J<|O J ?_
  obtain ⟨ab,bd,a⟩:=q6 a
  obtain ⟨cr,be,a⟩:=q6 a
  have cs:=Kd be
  refine K1 [(0,0)] [(0,0)] _ (.d (.tup [])) 1 [(0,.dat 1 (ab.map (eI .i64)))] 1 (qyj b.2.2.2.2.2 b.1 b.2.1 ab bd)<|qo ?_
  refine ⟨_,(Option.some.inj a).symm,fun hm=>?_⟩
  subst hm
  obtain rfl:=qd s
  exact ⟨.inr J,_,J,wkA [] [] []⟩
 refine qk<|qf<|qc<|O J<|G _ J<|qa ?_
 obtain ⟨bf,k,a⟩:=q6 a
 refine Yk (fun c=>c = bf) (fun c=>⟨[(0,.hs 0 1 0 c.2.length),(1,q7 b.1),(2,q7 b.2.1),(3,q7 c.1),(8,qu b.2.2.2.1),(9,qu b.2.2.2.2.1),(10,.d (q9 (w64 (b.2.1 - b.1))))],[(0,.dat 1 (c.2.map (eI .i64)))],1⟩) qe ?_ ?_
 ·refine qm J k (fun _ k=>?_) (fun _ k=>?_)
  ·refine qc<|O J<|O J<|O J ?_
   obtain ⟨ac,bg,k⟩:=q6 k
   obtain ⟨ct,bh,k⟩:=q6 k
   have bi:=Kd bh
   refine K1 [(0,0)] [(0,0)] _ (.d (.tup [])) 1 [(0,.dat 1 (ac.map (eI .i64)))] 1 (qyf b.2.2.2.2.2 b.1 b.2.1 ac bg)<|qa<|qt<|O J<|G _ J<|qb J<|qr ?_
   obtain rfl:=qd k
   exact ⟨_,J,wkE [] [] [] J ⟨⟨_,J,Qy (by simp [bi]) J qs (ltd J)⟩,qn J,qn J,qn J,qn J,qn J,qn J,trivial⟩ ⟨Qk J J,trivial⟩⟩
  refine qk<|Q7 ?_
  obtain rfl:=qd k
  exact ⟨_,J,wkA [] [] []⟩
 intro c hb
 subst hb
 refine qc<|O J<|O J<|O J ?_
 obtain ⟨bj,bk,a⟩:=q6 a
 refine q2h [.hs 0 1 0 c.2.length,q7 b.1,q7 b.2.1] (qyh c.2 b.1 b.2.1 bj bk) J J (Zc (Z6 J J) (Zc J (Zc J J))) (.inr J)<|O J<|G _ J<|G _ J<|qb J<|qb J<|qa<|qf<|qc<|O J<|G _ J<|qa ?_
 obtain ⟨bl,l,a⟩:=q6 a
 refine Yk (fun g=>g = bl) (fun g=>⟨[(0,.hs 0 1 0 g.2.2.length),(1,q7 b.1),(2,q7 b.2.1),(3,q7 c.1),(8,qu b.2.2.2.1),(9,qu b.2.2.2.2.1),(10,.d (q9 (w64 (b.2.1 - b.1)))),(11,q7 g.1),(12,q7 g.2.1)],[(0,.dat 1 (g.2.2.map (eI .i64)))],1⟩) qe ?_ ?_
 ·refine qm J l (fun _ l=>?_) (fun _ l=>?_)
  ·refine qc<|O J<|O J<|O J ?_
   obtain ⟨ad,bm,l⟩:=q6 l
   obtain ⟨cu,bn,l⟩:=q6 l
   have bo:=Kd bn
   refine K1 [(0,0)] [(0,0)] _ (.d (.tup [])) 1 [(0,.dat 1 (ad.map (eI .i64)))] 1 (qyx c.2 b.1 b.2.1 ad bm)<|qp<|O J<|G _ J<|O J<|O J<|G _ J<|G _ J<|qb J<|qa<|qt<|qb J<|qr ?_
   obtain rfl:=qd l
   exact ⟨_,J,wkE [] [] [] J ⟨⟨_,J,Qy (by simp [bo]) J qs (ltd J)⟩,qn J,qn J,qn J,qn J,qn J,qn J,qn J,qn J,trivial⟩ ⟨Qk J J,trivial⟩⟩
  refine qk<|Q7 ?_
  obtain rfl:=qd l
  exact ⟨_,J,wkA [] [] []⟩
 intro g hb
 subst hb
 refine qf<|qc<|O J ?_
 obtain ⟨bp,t,a⟩:=q6 a
 refine Q2 3 (fun A st=>∃ ae af,st = A [(64,qu bp),(63,af),(62,ae)]) ?_ ?_
 ·refine Q0 J J t (fun t=>?_) (fun t=>?_)
  ·refine O J<|G _ J<|qa ?_
   obtain rfl:=qd t
   exact ⟨_,_,J⟩
  refine q8 J<|G _ J<|qa ?_
  obtain rfl:=qd t
  exact ⟨_,_,J⟩
 rintro _ ⟨ae,af,rfl⟩
 obtain ⟨bq,u,a⟩:=q6 a
 refine Q2 4 (fun A st=>∃ ag ah ai,st = A [(68,qu bq),(67,ai),(66,ah),(65,ag)]) ?_ ?_
 ·refine Q0 J J u (fun u=>?_) (fun u=>?_)
  ·refine O J<|G _ J<|G _ J<|qa ?_
   obtain rfl:=qd u
   exact ⟨_,_,_,J⟩
  refine q8 J<|q8 J<|G _ J<|qa ?_
  obtain rfl:=qd u
  exact ⟨_,_,_,J⟩
 rintro _ ⟨ag,ah,ai,rfl⟩
 refine qa ?_
 obtain ⟨br,f,a⟩:=q6 a
 refine Yk (fun m=>.inl m = br) (fun m=>⟨[(0,.hs 0 1 0 m.length),(1,q7 b.1),(2,q7 b.2.1),(3,q7 c.1),(8,qu b.2.2.2.1),(9,qu b.2.2.2.2.1),(10,.d (q9 (w64 (b.2.1 - b.1)))),(11,q7 g.1)],[(0,.dat 1 (m.map (eI .i64)))],1⟩) qe ?_ ?_
 ·refine qm J f (fun _ f=>?_) (fun _ f=>?_)
  ·refine qc<|O J<|O J<|O J ?_
   obtain ⟨w,bs,f⟩:=q6 f
   obtain ⟨cv,bt,f⟩:=q6 f
   have bu:=Kd bt
   refine K1 [(0,0)] [(0,0)] _ (qu w.1) 1 [(0,.dat 1 (w.2.map (eI .i64)))] 1 (qyn g.2.2 b.1 b.2.1 w bs)<|qa ?_
   refine qm J f (fun _ f=>?_) (fun _ f=>?_)
   ·refine Uq ?_
    obtain rfl:=qd f
    refine ⟨_,(Option.some.inj a).symm,fun hm=>?_⟩
    subst hm
    obtain rfl:=qd s
    exact ⟨.inr J,_,J,wkA [] [] []⟩
   refine qk<|Q7 ?_
   obtain rfl:=qd f
   exact ⟨_,J,wkE [] [] [] J ⟨⟨_,J,Qy (by simp [bu]) J qs (ltd J)⟩,qn J,qn J,qn J,qn J,qn J,qn J,qn J,trivial⟩ ⟨Qk J J,trivial⟩⟩
  refine qk<|Q7 ?_
  obtain rfl:=qd f
  exact ⟨_,J,wkA [] [] []⟩
 intro m hb
 subst hb
 refine qf<|qf<|Q9 [U,U,U,qq 0,U,U,U,qq 0,U,U,U,U,U,U,U] qh<|O J<|G _ J ?_
 obtain ⟨bv,h,a⟩:=q6 a
 refine Q2 13 (fun A st=>∃ aj ak al am an ao ap aq ar au av aw,st = A [(87,qu bv),(86,aw),(85,av),(84,au),(83,ar),(82,aq),(81,ap),(80,ao),(79,an),(78,am),(77,al),(76,ak),(75,aj)]) ?_ ?_
 ·refine Q0 J J h (fun h=>?_) (fun h=>?_)
  ·refine O J<|O J<|G _ J ?_
   obtain ⟨bw,ax,h⟩:=q6 h
   refine qv ax J J<|Q4 _ ax J<|O J<|O J ?_
   obtain ⟨bz,ay,h⟩:=q6 h
   refine qv ay J J<|Q4 _ ay J ?_
   obtain ⟨ca,cb,h⟩:=q6 h
   refine qz (Zn bw bz ca cb) J<|G _ J<|G _ J<|qa ?_
   obtain rfl:=qd h
   exact ⟨_,_,_,_,_,_,_,_,_,_,_,_,J⟩
  refine q8 J<|q8 J<|q8 J<|q8 J<|q8 J<|q8 J<|q8 J<|q8 J<|q8 J<|q8 J<|q8 J<|G _ J<|qa ?_
  obtain rfl:=qd h
  exact ⟨_,_,_,_,_,_,_,_,_,_,_,_,J⟩
 rintro _ ⟨aj,ak,al,am,an,ao,ap,aq,ar,au,av,aw,rfl⟩
 refine qa ?_
 refine qm J a (fun _ a=>?_) (fun _ a=>?_)
 ·refine qc<|O J<|O J<|O J<|O J ?_
  obtain ⟨x,cc,a⟩:=q6 a
  obtain ⟨cw,cd,a⟩:=q6 a
  have ce:=Kd cd
  refine K1 [(0,0)] [(0,0)] _ (q7 x.1) 1 [(0,.dat 1 (x.2.map (eI .i64)))] 1 (qyq m b.1 b.2.1 g.1 x cc)<|qb J<|qp<|O J<|qb J<|qa<|Q3<|Jk<|Q7 ?_
  exact ⟨_,(Option.some.inj a).symm,wkE [] [] [] J ⟨⟨_,J,Qy (by simp [ce]) J qs (ltd J)⟩,qn J,qn J,qn J,qn J,qn J,trivial⟩ ⟨Qk J J,trivial⟩⟩
 refine qk<|qc<|O J<|O J<|O J<|O J ?_
 obtain ⟨j,cf,a⟩:=q6 a
 obtain ⟨cx,cg,a⟩:=q6 a
 have v:=Kd cg
 refine K1 [(0,0)] [(0,0)] _ (.d (.tup [q9 j.1,.bool j.2.1])) 1 [(0,.dat 1 (j.2.2.map (eI .i64)))] 1 (qyr m b.1 b.2.1 g.1 j cf)<|O J<|G _ J<|G _ J<|qb J<|qb J<|qp<|O J<|qb J<|qp<|O J<|O J<|G _ J<|O J<|O J<|G _ J<|qb J<|qb J<|qp<|O J<|G _ J<|qb J<|qp<|O J<|O J<|G _ J<|qa ?_
 refine qm J a (fun _ a=>?_) (fun _ a=>?_)
 ·refine qc<|O J<|O J<|G _ J<|qb J<|qp<|O J<|O J<|O J<|O J ?_
  obtain ⟨y,ch,a⟩:=q6 a
  obtain ⟨cy,ci,a⟩:=q6 a
  have cj:=Kd ci
  refine Jq [(0,0)] [(0,0)] [.hs 0 1 0 m.length,q7 b.1,q7 j.1,q7 c.1] (.d (.tup [])) [(0,.dat 1 (y.map (eI .i64)))] [(0,.dat 1 (y.map (eI .i64)))] 1 (hrec j.2.2 b.1 j.1 c.1 y ch) J J J (Y9 [(0,0)] [] [] J ⟨⟨_,J,Qy (by simp [v]) J qs (ltd J)⟩,qn J,qn J,qn J,trivial⟩ ⟨Qk J J,trivial⟩) (Y9 [(0,0)] [] [] J ⟨qn J,trivial⟩ ⟨Qk J J,trivial⟩) J ⟨.inl J,trivial⟩<|qa<|qt<|O J<|G _ J<|qb J<|qr<|Qg<|Q7 ?_
  exact ⟨_,(Option.some.inj a).symm,wkE [] [] [] J ⟨⟨_,J,Qy (by simp [v,cj]) J qs (ltd J)⟩,qn J,qn J,qn J,qn J,qn J,trivial⟩ ⟨Qk J J,trivial⟩⟩
 refine qc<|O J<|O J<|G _ J<|qb J<|qp<|O J<|O J<|G _ J<|O J<|O J ?_
 obtain ⟨z,ck,a⟩:=q6 a
 obtain ⟨cz,cm,a⟩:=q6 a
 have cn:=Kd cm
 refine Jq [(0,0)] [(0,0)] [.hs 0 1 0 m.length,.d (q9 (w64 (j.1 + 1))),q7 b.2.1,q7 c.1] (.d (.tup [])) [(0,.dat 1 (z.map (eI .i64)))] [(0,.dat 1 (z.map (eI .i64)))] 1 (hrec j.2.2 (w64 (j.1 + 1)) b.2.1 c.1 z ck) J J J (Y9 [(0,0)] [] [] J ⟨⟨_,J,Qy (by simp [v]) J qs (ltd J)⟩,qn J,qn J,qn J,trivial⟩ ⟨Qk J J,trivial⟩) (Y9 [(0,0)] [] [] J ⟨qn J,trivial⟩ ⟨Qk J J,trivial⟩) J ⟨.inl J,trivial⟩<|qa<|qt<|O J<|qb J<|qr<|Qg<|Q7 ?_
 exact ⟨_,(Option.some.inj a).symm,wkE [] [] [] J ⟨⟨_,J,Qy (by simp [v,cn]) J qs (ltd J)⟩,qn J,qn J,qn J,qn J,qn J,trivial⟩ ⟨Qk J J,trivial⟩⟩
theorem qyv (n : Nat) : ∀ (a : List Int) (b : Int) (c : Int) (f : Int) (r : List Int),q78 n  a b c f = some r→K0 Tryz.prog tab 135 [.hs 0 1 0 a.length,q7 b,q7 c,q7 f] [(0,.dat 1 (a.map (eI .i64)))] 1 (.d (.tup [])) [(0,.dat 1 (r.map (eI .i64)))] 1:=by
 induction n with
 | zero=>intro a b c f r g;cases g
 | succ n ih=>intro a b c f r g;exact qyu (q78 n )   ih a b c f r g
theorem qcw (b : List Int) (r : List Int) (a : Jt  b = some r) : K0 Tryz.prog tab 120 [.hs 0 1 0 b.length] [(0,.dat 1 (b.map (eI .i64)))] 1 (.d (.tup [])) [(0,.dat 1 (r.map (eI .i64)))] 1:=by
 unfold Jt at a
 refine Kh Tryz.func120 J qh qh J<|qc<|O J<|G _ J<|qb J<|qa<|qt<|O J<|O J<|O J<|G _ J ?_
 obtain ⟨f,h,a⟩:=q6 a
 refine qz (qfb (IntKind.wrap .u64 (b.length : Int)) f h) J ?_
 obtain ⟨g,c,a⟩:=q6 a
 obtain ⟨l,j,a⟩:=q6 a
 have m:=Kd j
 obtain ⟨k,c⟩:=qf6 c
 refine K1 [(0,0)] [(0,0)] _ (.d (.tup [])) 1 [(0,.dat 1 (g.map (eI .i64)))] 1 (qyv k b 0 (b.length : Int) f g c)<|qr ?_
 obtain rfl:=qd a
 exact ⟨.inl J,_,J,wkA [] [] []⟩
theorem qcn (c : List Int) (r : (Nat × Nat) × List Int) (d : Ur  c = some r) : K0 Tryz.prog tab 121 [.hs 0 1 0 c.length] [(0,.dat 1 (c.map (eI .i64)))] 1 (.hs 0 1 r.1.1 r.1.2) [(0,.dat 1 (r.2.map (eI .i64)))] 1:=by
 unfold Ur at d
 refine Kh Tryz.func121 J qh qh J<|qc<|qb J<|qa<|qf<|qc<|O J<|G _ J<|G _ J<|qa ?_
 refine qm J d (fun _ d=>?_) (fun _ d=>?_)
 ·refine qc<|O J<|qb J<|qo ?_
  obtain rfl:=qd d
  exact ⟨.inr J,_,J,wkA [] [] []⟩
 refine qk<|qf<|qc<|qb J<|qa ?_
 obtain ⟨n,z,d⟩:=q6 d
 refine Qc (fun k=>.inl k = n) (fun k=>⟨[(0,.hs 0 1 0 c.length)],[(0,.dat 1 (c.map (eI .i64)))],1⟩) qe ?_ ?_
 ·refine Q5 (J7 c) (fun l=>⟨[(0,.hs 0 1 0 c.length),(3,q7 l)],[(0,.dat 1 (c.map (eI .i64)))],1⟩) 1 n z (wkA [] [] []) ?_
  intro l af a
  unfold J7 at a
  refine qf<|qc<|O J<|O J<|G _ J<|G _ J<|qa ?_
  refine qm J a (fun _ a=>?_) (fun _ a=>?_)
  ·refine qk<|qf<|qx<|qf<|Q9 [U,qq 0,U,U,U,U,qq 0,U,U,U] qh<|O J<|O J ?_
   obtain ⟨ag,o,a⟩:=q6 a
   refine qv o J J<|Q4 _ o J<|O J<|O J<|G _ J ?_
   obtain ⟨ah,p,a⟩:=q6 a
   refine qv p J J<|Q4 _ p J<|G _ J<|qa ?_
   refine qm J a (fun _ a=>?_) (fun _ a=>?_)
   ·refine qc<|O J<|O J ?_
    obtain ⟨aa,ab,a⟩:=q6 a
    refine q8t ab J J J J J (q86 J) (fun _=>rfl)<|qb J<|qa<|qf<|qc<|qb J<|qa ?_
    obtain ⟨q,ac,a⟩:=q6 a
    refine Qc (fun f=>f = q) (fun f=>⟨[(0,.hs 0 1 0 f.2.length),(3,q7 f.1)],[(0,.dat 1 (f.2.map (eI .i64)))],1⟩) qe ?_ ?_
    ·refine Q5 (q1j) (fun g=>⟨[(0,.hs 0 1 0 g.2.2.2.length),(3,q7 g.1),(4,.hs 0 1 g.2.1.1 g.2.1.2),(5,q7 g.2.2.1)],[(0,.dat 1 (g.2.2.2.map (eI .i64)))],1⟩) (l,aa,1,c) q ac (wkA [] [] []) ?_
     intro g ai h
     unfold q1j at h
     refine qf<|qc<|O J<|O J<|G _ J<|G _ J<|qa ?_
     refine qm J h (fun _ h=>?_) (fun _ h=>?_)
     ·refine qk<|qf ?_
      obtain ⟨ad,b,h⟩:=q6 h
      refine Qc (fun j=>j = ad) (fun j=>⟨[(0,.hs 0 1 0 j.2.2.length),(3,q7 j.1),(4,.hs 0 1 j.2.1.1 j.2.1.2),(5,q7 g.2.2.1)],[(0,.dat 1 (j.2.2.map (eI .i64)))],1⟩) qe ?_ ?_
      ·refine qf<|Q9 [U,qq 0,U,U,U,U,qq 0,U,U,U] qh<|O J<|O J ?_
       obtain ⟨aj,s,b⟩:=q6 b
       refine qfo s J J J J J J<|Q4 _ (qf0 s) J<|O J<|O J<|G _ J ?_
       obtain ⟨ak,t,b⟩:=q6 b
       refine qfo t J J J J J J<|Q4 _ (qf0 t) J<|G _ J<|qa ?_
       refine qm J b (fun _ b=>?_) (fun _ b=>?_)
       ·refine qc<|O J<|O J<|O J<|O J ?_
        obtain ⟨u,v,b⟩:=q6 b
        refine qfo v J J J J J J<|Q4 _ (qf0 v) J ?_
        obtain ⟨al,x,b⟩:=q6 b
        refine qv x J J<|Qw (ds:=[q9 u]) u x J J J J J J J J (leb J) J<|qa<|qt<|O J<|G _ J<|qb J<|qr ?_
        obtain rfl:=qd b
        exact ⟨_,J,wkE [] [] [] J ⟨⟨_,J,Qy qe J qs (ltd J)⟩,qn J,⟨_,J,.hs J qs (ltd J)⟩,qn J,trivial⟩ ⟨Qk J J,trivial⟩⟩
       refine qk<|Q7 ?_
       obtain rfl:=qd b
       exact ⟨_,J,wkA [] [] []⟩
      intro j hb
      subst hb
      refine qt<|O J<|G _ J<|qb J<|qr ?_
      exact ⟨_,(Option.some.inj h).symm,wkA [] [] []⟩
     refine Q3 ?_
     refine ⟨_,(Option.some.inj h).symm,fun hm=>?_⟩
     subst hm
     exact ⟨_,J,wkA [] [] []⟩
    intro f hb
    subst hb
    refine qc<|O J<|O J ?_
    obtain ⟨y,m,a⟩:=q6 a
    refine q8t m J J J J J (q86 J) (fun _=>rfl)<|qta (w:=y) (xs:=f.2) (enc:=(eI .i64)) 0 (qan m) J J J J J J J ?_
    have am:=@qi4 _ f.2 y 0 (qan m)
    refine qp<|O J<|O J ?_
    obtain ⟨an,ae,a⟩:=q6 a
    refine q8t ae J J J J J (fun _=>rfl) (q86 J)<|qb J<|qo ?_
    refine ⟨_,(Option.some.inj a).symm,fun hm=>?_⟩
    subst hm
    obtain rfl:=qd d
    exact ⟨.inr J,_,J,wkA [] [] []⟩
   refine qk<|Q7<|Qg<|qt<|O J<|G _ J<|qb J<|qr ?_
   exact ⟨_,(Option.some.inj a).symm,wkA [] [] []⟩
  refine Q3 ?_
  refine ⟨_,(Option.some.inj a).symm,fun hm=>?_⟩
  subst hm
  exact ⟨_,J,wkA [] [] []⟩
 intro k hb
 subst hb
 refine qc<|O J<|qb J<|qo ?_
 obtain rfl:=qd d
 exact ⟨.inr J,_,J,wkA [] [] []⟩
theorem qy8 (b : List qi) (g : qi→Option Bool) (p1F : FuncId) (p1C : List DV) (p1Ok : ∀ (c : qi) (r : Bool),g c = some r→Pure Tryz.prog tab p1F ([.agg [q9 c.X0,q9 c.Y0,q9 c.X1,q9 c.Y1]] ++ p1C) (.bool r)) (r : Int) (f : qcu b g = some r) : Pure Tryz.prog tab 137 [.sl 4 (b.map qw),.fn p1F p1C] (q9 r):=by
 unfold qcu at f
 refine Qf Tryz.func137 J qh qh J<|qc<|qb J<|qa<|qf<|qc<|O J<|Qa J<|O J<|qa ?_
 obtain ⟨j,l,f⟩:=q6 f
 refine Qc (fun h=>.inl h = j) (fun h=>⟨[],[],0⟩) qe ?_ ?_
 ·refine Q5 (q40 b g) (fun k=>⟨[(0,.d (.sl 4 (b.map qw))),(1,.d (.fn p1F p1C)),(7,q7 (b.length : Int)),(8,q7 k)],[],0⟩) 0 j l (wkA [] [] []) ?_
  intro k q a
  unfold q40 at a
  refine qc<|G _ J<|qa<|qf ?_
  refine qm J a (fun _ a=>?_) (fun _ a=>?_)
  ·refine qk<|qf<|qx<|qc<|O J<|qb J<|qp<|O J<|O J<|O J ?_
   obtain ⟨m,n,a⟩:=q6 a
   refine Q1 n J<|G _ J ?_
   obtain ⟨o,p,a⟩:=q6 a
   refine Y7 _ (p1Ok m o p) J J J (.inl J)<|qa ?_
   refine qm J a (fun _ a=>?_) (fun _ a=>?_)
   ·refine qc<|O J<|qb J<|qo ?_
    refine ⟨_,(Option.some.inj a).symm,fun hm=>?_⟩
    subst hm
    obtain rfl:=qd f
    exact qy _ J
   refine qk<|Q7<|Qg<|qt<|G _ J<|O J<|qr ?_
   exact ⟨_,(Option.some.inj a).symm,wkA [] [] []⟩
  refine Q3 ?_
  refine ⟨_,(Option.some.inj a).symm,fun hm=>?_⟩
  subst hm
  exact ⟨_,J,wkA [] [] []⟩
 intro h hb
 subst hb
 refine qc<|qb J<|qo ?_
 obtain rfl:=qd f
 exact qy _ J
theorem qy0 (c : List qi) (d : qi→Option Bool) (p1F : FuncId) (p1C : List DV) (p1Ok : ∀ (a : qi) (r : Bool),d a = some r→Pure Tryz.prog tab p1F ([.agg [q9 a.X0,q9 a.Y0,q9 a.X1,q9 a.Y1]] ++ p1C) (.bool r)) (r : Bool) (b : q9e c d = some r) : Pure Tryz.prog tab 123 [.sl 4 (c.map qw),.fn p1F p1C] (.bool r):=by
 unfold q9e at b
 refine Qf Tryz.func123 J qh qh J<|qc<|qb J<|qp<|O J<|O J ?_
 obtain ⟨f,g,b⟩:=q6 b
 refine qz (qy8 c d p1F p1C p1Ok f g) J<|G _ J<|qb J<|qo ?_
 obtain rfl:=qd b
 exact qy _ J
theorem qce (c : Int) (r : Bool) (b : q2n c = some r) : Pure Tryz.prog tab 138 [q9 c] (.bool r):=by
 unfold q2n at b
 refine Qf Tryz.func138 J qh qh J<|qc<|qb J<|qp<|O J<|G _ J ?_
 obtain ⟨h,a,b⟩:=q6 b
 refine Q2 4 (fun A st=>∃ d f g,st = A [(8,qu h),(7,g),(6,f),(5,d)]) ?_ ?_
 ·refine Q0 J J a (fun a=>?_) (fun a=>?_)
  ·refine O J<|G _ J<|G _ J<|qa ?_
   obtain rfl:=qd a
   exact ⟨_,_,_,J⟩
  refine q8 J<|q8 J<|G _ J<|qa ?_
  obtain rfl:=qd a
  exact ⟨_,_,_,J⟩
 rintro _ ⟨d,f,g,rfl⟩
 refine qb J<|qo ?_
 obtain rfl:=qd b
 exact qy _ J
theorem qm0 (b : qi) (r : Bool) (a : q66 b = some r) : Pure Tryz.prog tab 125 [.agg [q9 b.X0,q9 b.Y0,q9 b.X1,q9 b.Y1]] (.bool r):=by
 unfold q66 at a
 refine Qf Tryz.func125 J qh qh J<|qc<|Qj _ _ J<|qb J<|qp<|G _ J<|G _ J<|G _ J<|G _ J<|G _ J ?_
 obtain ⟨c1,h,a⟩:=q6 a
 refine Q2 7 (fun A st=>∃ j k l m n o,st = A [(14,qu c1),(13,o),(12,n),(11,m),(10,l),(9,k),(8,j)]) ?_ ?_
 ·refine Q0 J J h (fun h=>?_) (fun h=>?_)
  ·refine G _ J<|G _ J<|G _ J<|G _ J<|G _ J<|G _ J<|qa ?_
   obtain rfl:=qd h
   exact ⟨_,_,_,_,_,_,J⟩
  refine q8 J<|q8 J<|q8 J<|q8 J<|q8 J<|G _ J<|qa ?_
  obtain rfl:=qd h
  exact ⟨_,_,_,_,_,_,J⟩
 rintro _ ⟨j,k,l,m,n,o,rfl⟩
 obtain ⟨ah,c,a⟩:=q6 a
 refine Q2 5 (fun A st=>∃ p q s t,st = A [(19,qu ah),(18,t),(17,s),(16,q),(15,p)]) ?_ ?_
 ·refine Q0 J J c (fun c=>?_) (fun c=>?_)
  ·refine G _ J<|G _ J ?_
   obtain ⟨ai,aj,c⟩:=q6 c
   refine qz (qce b.X0 ai aj) J<|G _ J<|qa ?_
   obtain rfl:=qd c
   exact ⟨_,_,_,_,J⟩
  refine q8 J<|q8 J<|q8 J<|G _ J<|qa ?_
  obtain rfl:=qd c
  exact ⟨_,_,_,_,J⟩
 rintro _ ⟨p,q,s,t,rfl⟩
 obtain ⟨ak,d,a⟩:=q6 a
 refine Q2 5 (fun A st=>∃ u v w x,st = A [(24,qu ak),(23,x),(22,w),(21,v),(20,u)]) ?_ ?_
 ·refine Q0 J J d (fun d=>?_) (fun d=>?_)
  ·refine G _ J<|G _ J ?_
   obtain ⟨al,am,d⟩:=q6 d
   refine qz (qce b.X1 al am) J<|G _ J<|qa ?_
   obtain rfl:=qd d
   exact ⟨_,_,_,_,J⟩
  refine q8 J<|q8 J<|q8 J<|G _ J<|qa ?_
  obtain rfl:=qd d
  exact ⟨_,_,_,_,J⟩
 rintro _ ⟨u,v,w,x,rfl⟩
 obtain ⟨an,f,a⟩:=q6 a
 refine Q2 5 (fun A st=>∃ y z aa ab,st = A [(29,qu an),(28,ab),(27,aa),(26,z),(25,y)]) ?_ ?_
 ·refine Q0 J J f (fun f=>?_) (fun f=>?_)
  ·refine G _ J<|G _ J ?_
   obtain ⟨ao,ap,f⟩:=q6 f
   refine qz (qce b.Y0 ao ap) J<|G _ J<|qa ?_
   obtain rfl:=qd f
   exact ⟨_,_,_,_,J⟩
  refine q8 J<|q8 J<|q8 J<|G _ J<|qa ?_
  obtain rfl:=qd f
  exact ⟨_,_,_,_,J⟩
 rintro _ ⟨y,z,aa,ab,rfl⟩
 obtain ⟨aq,g,a⟩:=q6 a
 refine Q2 5 (fun A st=>∃ ac ad ae af,st = A [(34,qu aq),(33,af),(32,ae),(31,ad),(30,ac)]) ?_ ?_
 ·refine Q0 J J g (fun g=>?_) (fun g=>?_)
  ·refine G _ J<|G _ J ?_
   obtain ⟨ar,au,g⟩:=q6 g
   refine qz (qce b.Y1 ar au) J<|G _ J<|qa ?_
   obtain rfl:=qd g
   exact ⟨_,_,_,_,J⟩
  refine q8 J<|q8 J<|q8 J<|G _ J<|qa ?_
  obtain rfl:=qd g
  exact ⟨_,_,_,_,J⟩
 rintro _ ⟨ac,ad,ae,af,rfl⟩
 refine qb J<|qo ?_
 obtain rfl:=qd a
 exact qy _ J
theorem qvw (a : qi) (r : Bool) (b : q2m a = some r) : Pure Tryz.prog tab 124 [.agg [q9 a.X0,q9 a.Y0,q9 a.X1,q9 a.Y1]] (.bool r):=by
 unfold q2m at b
 refine Qf Tryz.func124 J qh qh J<|qc<|Qj _ _ J<|qb J<|qp<|G _ J ?_
 obtain ⟨c,d,b⟩:=q6 b
 refine qz (qm0 a c d) J<|G _ J<|qb J<|qo ?_
 obtain rfl:=qd b
 exact qy _ J
theorem qyb (b : List qj) (f : qj→Option Bool) (p1F : FuncId) (p1C : List DV) (p1Ok : ∀ (g : qj) (r : Bool),f g = some r→Pure Tryz.prog tab p1F ([.agg [q9 g.Lo,q9 g.Hi]] ++ p1C) (.bool r)) (r : Int) (c : q9j b f = some r) : Pure Tryz.prog tab 171 [.sl 2 (b.map Q8),.fn p1F p1C] (q9 r):=by
 unfold q9j at c
 refine Qf Tryz.func171 J qh qh J<|qc<|qb J<|qa<|qf<|qc<|O J<|Qa J<|O J<|qa ?_
 obtain ⟨j,l,c⟩:=q6 c
 refine Qc (fun h=>.inl h = j) (fun h=>⟨[],[],0⟩) qe ?_ ?_
 ·refine Q5 (q2s b f) (fun k=>⟨[(0,.d (.sl 2 (b.map Q8))),(1,.d (.fn p1F p1C)),(7,q7 (b.length : Int)),(8,q7 k)],[],0⟩) 0 j l (wkA [] [] []) ?_
  intro k q a
  unfold q2s at a
  refine qc<|G _ J<|qa<|qf ?_
  refine qm J a (fun _ a=>?_) (fun _ a=>?_)
  ·refine qk<|qf<|qx<|qc<|O J<|qb J<|qp<|O J<|O J<|O J ?_
   obtain ⟨m,n,a⟩:=q6 a
   refine Q1 n J<|G _ J ?_
   obtain ⟨o,p,a⟩:=q6 a
   refine Y7 _ (p1Ok m o p) J J J (.inl J)<|qa ?_
   refine qm J a (fun _ a=>?_) (fun _ a=>?_)
   ·refine qc<|O J<|qb J<|qo ?_
    refine ⟨_,(Option.some.inj a).symm,fun hm=>?_⟩
    subst hm
    obtain rfl:=qd c
    exact qy _ J
   refine qk<|Q7<|Qg<|qt<|G _ J<|O J<|qr ?_
   exact ⟨_,(Option.some.inj a).symm,wkA [] [] []⟩
  refine Q3 ?_
  refine ⟨_,(Option.some.inj a).symm,fun hm=>?_⟩
  subst hm
  exact ⟨_,J,wkA [] [] []⟩
 intro h hb
 subst hb
 refine qc<|qb J<|qo ?_
 obtain rfl:=qd c
 exact qy _ J
theorem qy2 (b : List qj) (c : qj→Option Bool) (p1F : FuncId) (p1C : List DV) (p1Ok : ∀ (d : qj) (r : Bool),c d = some r→Pure Tryz.prog tab p1F ([.agg [q9 d.Lo,q9 d.Hi]] ++ p1C) (.bool r)) (r : Bool) (a : q9g b c = some r) : Pure Tryz.prog tab 158 [.sl 2 (b.map Q8),.fn p1F p1C] (.bool r):=by
 unfold q9g at a
 refine Qf Tryz.func158 J qh qh J<|qc<|qb J<|qp<|O J<|O J ?_
 obtain ⟨f,g,a⟩:=q6 a
 refine qz (qyb b c p1F p1C p1Ok f g) J<|G _ J<|qb J<|qo ?_
 obtain rfl:=qd a
 exact qy _ J
theorem qni (d : qj) (r : Bool) (a : q2z d = some r) : Pure Tryz.prog tab 143 [.agg [q9 d.Lo,q9 d.Hi]] (.bool r):=by
 unfold q2z at a
 refine Qf Tryz.func143 J qh qh J<|qc<|Qj _ _ J<|qb J<|qp<|G _ J<|G _ J<|G _ J<|G _ J<|G _ J ?_
 obtain ⟨o,b,a⟩:=q6 a
 refine Q2 5 (fun A st=>∃ f g h j,st = A [(12,qu o),(11,j),(10,h),(9,g),(8,f)]) ?_ ?_
 ·refine Q0 J J b (fun b=>?_) (fun b=>?_)
  ·refine G _ J<|G _ J<|G _ J<|G _ J<|qa ?_
   obtain rfl:=qd b
   exact ⟨_,_,_,_,J⟩
  refine q8 J<|q8 J<|q8 J<|G _ J<|qa ?_
  obtain rfl:=qd b
  exact ⟨_,_,_,_,J⟩
 rintro _ ⟨f,g,h,j,rfl⟩
 obtain ⟨p,c,a⟩:=q6 a
 refine Q2 5 (fun A st=>∃ k l m n,st = A [(17,qu p),(16,n),(15,m),(14,l),(13,k)]) ?_ ?_
 ·refine Q0 J J c (fun c=>?_) (fun c=>?_)
  ·refine G _ J<|G _ J<|G _ J<|G _ J<|qa ?_
   obtain rfl:=qd c
   exact ⟨_,_,_,_,J⟩
  refine q8 J<|q8 J<|q8 J<|G _ J<|qa ?_
  obtain rfl:=qd c
  exact ⟨_,_,_,_,J⟩
 rintro _ ⟨k,l,m,n,rfl⟩
 refine qb J<|qo ?_
 obtain rfl:=qd a
 exact qy _ J
theorem q11i (a : qj) (r : Bool) (b : qd5 a = some r) : Pure Tryz.prog tab 159 [.agg [q9 a.Lo,q9 a.Hi]] (.bool r):=by
 unfold qd5 at b
 refine Qf Tryz.func159 J qh qh J<|qc<|Qj _ _ J<|qb J<|qp<|G _ J ?_
 obtain ⟨c,d,b⟩:=q6 b
 refine qz (qni a c d) J<|G _ J<|qb J<|qo ?_
 obtain rfl:=qd b
 exact qy _ J
theorem q11p (a : ql) (b : ql) (r : Int) (c : qaj a b = some r) : Pure Tryz.prog tab 163 [.agg [q9 a.at_,q9 a.list_,q9 a.by_],.agg [q9 b.at_,q9 b.list_,q9 b.by_]] (q9 r):=by
 unfold qaj at c
 refine Qf Tryz.func163 J qh qh J<|qc<|Qj _ _ J<|Qj _ _ J<|qb J<|qp<|G _ J<|G _ J<|G _ J<|G _ J<|G _ J<|qb J<|qo ?_
 obtain rfl:=qd c
 exact qy _ J
theorem qyk (k : ql→ql→Option Int) (q1F : FuncId) (q1C : List DV) (q1Ok : ∀ (l : ql) (m : ql) (r : Int),k l m = some r→Pure Tryz.prog tab q1F ([.agg [q9 l.at_,q9 l.list_,q9 l.by_],.agg [q9 m.at_,q9 m.list_,q9 m.by_]] ++ q1C) (q9 r)) (n : List ql) (c : Int) (h : Int) (r : List ql) (o : q9q k n c h = some r) : K0 Tryz.prog tab 175 [.hs 0 3 0 n.length,q7 c,q7 h,.d (.fn q1F q1C)] [(0,.dat 3 (n.map Qh))] 1 (.d (.tup [])) [(0,.dat 3 (r.map Qh))] 1:=by
 unfold q9q at o
 refine Kh Tryz.func175 J qh qh J<|qc<|O J<|G _ J<|qb J<|qa ?_
 obtain ⟨al,am,o⟩:=q6 o
 refine qx<|Q5 (q9r h c k) (fun f=>⟨[(0,.hs 0 3 0 f.2.length),(1,q7 c),(2,q7 h),(3,.d (.fn q1F q1C)),(8,q7 f.1)],[(0,.dat 3 (f.2.map Qh))],1⟩) (w64 (c + 1),n) al am (wkA [] [] []) ?_
 intro f az g
 unfold q9r at g
 refine qf<|qc<|O J<|O J<|G _ J<|qa ?_
 refine qm J g (fun _ g=>?_) (fun _ g=>?_)
 ·refine qk<|qf ?_
  obtain ⟨an,q,g⟩:=q6 g
  refine Qc (fun j=>j = an) (fun j=>⟨[(0,.hs 0 3 0 j.length),(1,q7 c),(2,q7 h),(3,.d (.fn q1F q1C)),(8,q7 f.1)],[(0,.dat 3 (j.map Qh))],1⟩) qe ?_ ?_
  ·refine qc<|O J<|qb J<|qa ?_
   obtain ⟨ao,ap,q⟩:=q6 q
   refine qx<|Q5 (q9s c k) (fun p=>⟨[(0,.hs 0 3 0 p.2.length),(1,q7 c),(2,q7 h),(3,.d (.fn q1F q1C)),(8,q7 f.1),(9,q7 p.1)],[(0,.dat 3 (p.2.map Qh))],1⟩) (f.1,f.2) ao ap (wkA [] [] []) ?_
   intro p ba a
   unfold q9s at a
   refine qf<|qf<|Q9 [U,U,U,qq 0,U,U,U,U,qq 0,U,U,U,U,U,U,U,U] qh<|O J<|O J<|G _ J ?_
   obtain ⟨aq,b,a⟩:=q6 a
   refine Q2 14 (fun A st=>∃ s t u v w x y z aa ab ac ad ae,st = A [(34,qu aq),(33,ae),(32,ad),(31,ac),(30,ab),(29,aa),(28,z),(27,y),(26,x),(25,w),(24,v),(23,u),(22,t),(21,s)]) ?_ ?_
   ·refine Q0 J J b (fun b=>?_) (fun b=>?_)
    ·refine O J<|O J<|O J ?_
     obtain ⟨ar,af,b⟩:=q6 b
     refine qv af J J<|Q4 _ af J<|O J<|O J<|G _ J ?_
     obtain ⟨au,ag,b⟩:=q6 b
     refine qv ag J J<|Q4 _ ag J ?_
     obtain ⟨av,aw,b⟩:=q6 b
     refine Y7 _ (q1Ok ar au av aw) J J J (.inl J)<|G _ J<|G _ J<|qa ?_
     obtain rfl:=qd b
     exact ⟨_,_,_,_,_,_,_,_,_,_,_,_,_,J⟩
    refine q8 J<|q8 J<|q8 J<|q8 J<|q8 J<|q8 J<|q8 J<|q8 J<|q8 J<|q8 J<|q8 J<|q8 J<|G _ J<|qa ?_
    obtain rfl:=qd b
    exact ⟨_,_,_,_,_,_,_,_,_,_,_,_,_,J⟩
   rintro _ ⟨s,t,u,v,w,x,y,z,aa,ab,ac,ad,ae,rfl⟩
   refine qa ?_
   refine qm J a (fun _ a=>?_) (fun _ a=>?_)
   ·refine qk<|qf<|qx<|Q9 [Qm 0,U,Qm 0,U,qq 0,U,U,U,qq 0,U,U,U,U,U,U,U,U,U] qh<|O J<|O J<|O J<|O J<|G _ J<|O J<|O J<|G _ J ?_
    obtain ⟨ax,ah,a⟩:=q6 a
    refine qv ah J J<|Q4 _ ah J<|O J<|O J ?_
    obtain ⟨ay,ai,a⟩:=q6 a
    refine qv ai J J<|Q4 _ ai J ?_
    obtain ⟨bb,aj,a⟩:=q6 a
    refine qv aj J J<|Qw ax aj J J J J J J J J (leb J) J ?_
    obtain ⟨bc,ak,a⟩:=q6 a
    refine qv ak qe J<|Qw ay ak J J J J J J J J (leb J) J<|qr<|Qg<|qt<|O J<|G _ J<|qb J<|qr ?_
    exact ⟨_,(Option.some.inj a).symm,wkE [] [] [] J ⟨⟨_,J,Qy qe J qs (ltd J)⟩,qn J,qn J,qn J,qn J,qn J,trivial⟩ ⟨Qk J J,trivial⟩⟩
   refine Q3 ?_
   refine ⟨_,(Option.some.inj a).symm,fun hm=>?_⟩
   subst hm
   obtain rfl:=qd q
   exact ⟨_,J,wkA [] [] []⟩
  intro j hb
  subst hb
  refine qt<|O J<|G _ J<|qb J<|qr ?_
  exact ⟨_,(Option.some.inj g).symm,wkA [] [] []⟩
 refine Q3 ?_
 refine ⟨_,(Option.some.inj g).symm,fun hm=>?_⟩
 subst hm
 obtain rfl:=qd o
 exact ⟨.inl J,_,J,wkA [] [] []⟩
theorem qmw (o : ql→ql→Option Int) (q1F : FuncId) (q1C : List DV) (q1Ok : ∀ (k : ql) (l : ql) (r : Int),o k l = some r→Pure Tryz.prog tab q1F ([.agg [q9 k.at_,q9 k.list_,q9 k.by_],.agg [q9 l.at_,q9 l.list_,q9 l.by_]] ++ q1C) (q9 r)) (m : List ql) (p : Int) (f : Int) (g : Int) (r : List ql) (h : q7a o m p f g = some r) : K0 Tryz.prog tab 183 [.hs 0 3 0 m.length,q7 p,q7 f,q7 g,.d (.fn q1F q1C)] [(0,.dat 3 (m.map Qh))] 1 (.d (.tup [])) [(0,.dat 3 (r.map Qh))] 1:=by
 unfold q7a at h
 refine Kh Tryz.func183 J qh qh J<|qc<|O J<|qb J<|qa ?_
 obtain ⟨aq,ar,h⟩:=q6 h
 refine qx<|Q5 (qaa f g o) (fun c=>⟨[(0,.hs 0 3 0 c.2.length),(2,q7 f),(3,q7 g),(4,.d (.fn q1F q1C)),(10,q7 c.1)],[(0,.dat 3 (c.2.map Qh))],1⟩) (p,m) aq ar (wkA [] [] []) ?_
 intro c bg a
 unfold qaa at a
 refine qx<|qc<|O J<|G _ J<|G _ J<|qb J<|qa<|qf<|qc<|O J<|O J<|G _ J<|qa ?_
 refine qm J a (fun _ a=>?_) (fun _ a=>?_)
 ·refine Q3 ?_
  refine ⟨_,(Option.some.inj a).symm,fun hm=>?_⟩
  subst hm
  obtain rfl:=qd h
  exact ⟨.inl J,_,J,wkA [] [] []⟩
 refine qk<|qf<|qf<|Q9 [U,U,U,qq 0,U,U,U,U,U,U,qq 0,U,U,U,U,U,U,U,U,U,U,U] qh<|O J<|G _ J<|O J<|G _ J ?_
 obtain ⟨au,b,a⟩:=q6 a
 refine Q2 18 (fun A st=>∃ q s t u v w x y z aa ab ac ad ae af ag ah,st = A [(40,qu au),(39,ah),(38,ag),(37,af),(36,ae),(35,ad),(34,ac),(33,ab),(32,aa),(31,z),(30,y),(29,x),(28,w),(27,v),(26,u),(25,t),(24,s),(23,q)]) ?_ ?_
 ·refine Q0 J J b (fun b=>?_) (fun b=>?_)
  ·refine O J<|O J<|O J<|O J<|G _ J ?_
   obtain ⟨av,ai,b⟩:=q6 b
   refine qv ai J J<|Q4 _ ai J<|O J<|O J<|O J<|G _ J<|G _ J ?_
   obtain ⟨aw,aj,b⟩:=q6 b
   refine qv aj J J<|Q4 _ aj J ?_
   obtain ⟨ax,ay,b⟩:=q6 b
   refine Y7 _ (q1Ok av aw ax ay) J J J (.inl J)<|G _ J<|G _ J<|qa ?_
   obtain rfl:=qd b
   exact ⟨_,_,_,_,_,_,_,_,_,_,_,_,_,_,_,_,_,J⟩
  refine q8 J<|q8 J<|q8 J<|q8 J<|q8 J<|q8 J<|q8 J<|q8 J<|q8 J<|q8 J<|q8 J<|q8 J<|q8 J<|q8 J<|q8 J<|q8 J<|G _ J<|qa ?_
  obtain rfl:=qd b
  exact ⟨_,_,_,_,_,_,_,_,_,_,_,_,_,_,_,_,_,J⟩
 rintro _ ⟨q,s,t,u,v,w,x,y,z,aa,ab,ac,ad,ae,af,ag,ah,rfl⟩
 refine qa ?_
 obtain ⟨az,j,a⟩:=q6 a
 refine Yk (fun n=>n = az) (fun n=>⟨[(0,.hs 0 3 0 c.2.length),(2,q7 f),(3,q7 g),(4,.d (.fn q1F q1C)),(10,q7 c.1),(11,q7 n)],[(0,.dat 3 (c.2.map Qh))],1⟩) qe ?_ ?_
 ·refine qm J j (fun _ j=>?_) (fun _ j=>?_)
  ·refine qt<|O J<|G _ J<|qb J<|qr ?_
   obtain rfl:=qd j
   exact ⟨_,J,wkA [] [] []⟩
  refine qk<|Q7 ?_
  obtain rfl:=qd j
  exact ⟨_,J,wkA [] [] []⟩
 intro n hb
 subst hb
 refine qf<|qf<|Q9 [U,U,U,qq 0,U,U,U,U,U,qq 0,U,U,U,U,U,U] qh<|O J<|O J<|O J<|O J<|G _ J ?_
 obtain ⟨ba,ak,a⟩:=q6 a
 refine qv ak J J<|Q4 _ ak J<|O J<|O J<|O J<|G _ J ?_
 obtain ⟨bb,al,a⟩:=q6 a
 refine qv al J J<|Q4 _ al J ?_
 obtain ⟨bc,bd,a⟩:=q6 a
 refine Y7 _ (q1Ok ba bb bc bd) J J J (.inl J)<|G _ J<|G _ J<|qa ?_
 refine qm J a (fun _ a=>?_) (fun _ a=>?_)
 ·refine Uq ?_
  refine ⟨_,(Option.some.inj a).symm,fun hm=>?_⟩
  subst hm
  obtain rfl:=qd h
  exact ⟨.inr J,_,J,wkA [] [] []⟩
 refine qk<|qf<|Q9 [Qm 0,U,Qm 0,U,qq 0,U,U,U,U,U,qq 0,U,U,U,U,U,U,U,U,U,U,U,U,U] qh<|O J<|O J<|O J<|G _ J<|O J<|O J<|O J<|G _ J<|O J<|O J<|O J<|G _ J ?_
 obtain ⟨be,am,a⟩:=q6 a
 refine qv am J J<|Q4 _ am J<|O J<|O J<|O J<|G _ J ?_
 obtain ⟨bf,an,a⟩:=q6 a
 refine qv an J J<|Q4 _ an J ?_
 obtain ⟨bh,ao,a⟩:=q6 a
 refine qv ao J J<|Qw be ao J J J J J J J J (leb J) J ?_
 obtain ⟨bi,ap,a⟩:=q6 a
 refine qv ap qe J<|Qw bf ap J J J J J J J J (leb J) J<|qa<|qt<|O J<|qb J<|qr<|Qg<|Q7 ?_
 exact ⟨_,(Option.some.inj a).symm,wkE [] [] [] J ⟨⟨_,J,Qy qe J qs (ltd J)⟩,qn J,qn J,qn J,qn J,trivial⟩ ⟨Qk J J,trivial⟩⟩
theorem qyi (h : ql→ql→Option Int) (q1F : FuncId) (q1C : List DV) (q1Ok : ∀ (m : ql) (n : ql) (r : Int),h m n = some r→Pure Tryz.prog tab q1F ([.agg [q9 m.at_,q9 m.list_,q9 m.by_],.agg [q9 n.at_,q9 n.list_,q9 n.by_]] ++ q1C) (q9 r)) (o : List ql) (b : Int) (g : Int) (r : List ql) (j : q9n h o b g = some r) : K0 Tryz.prog tab 176 [.hs 0 3 0 o.length,q7 b,q7 g,.d (.fn q1F q1C)] [(0,.dat 3 (o.map Qh))] 1 (.d (.tup [])) [(0,.dat 3 (r.map Qh))] 1:=by
 unfold q9n at j
 refine Kh Tryz.func176 J qh qh J<|qc<|O J<|qb J<|qp<|qb J<|qp<|O J<|O J<|G _ J<|qb J<|qa<|qf<|qc<|O J<|G _ J<|G _ J<|qb J<|qa ?_
 obtain ⟨q,z,j⟩:=q6 j
 refine Qc (fun k=>k = q) (fun k=>⟨[(0,.hs 0 3 0 k.length),(3,.d (.fn q1F q1C)),(8,q7 b),(9,q7 0),(10,.d (q9 (w64 (g - b))))],[(0,.dat 3 (k.map Qh))],1⟩) qe ?_ ?_
 ·refine Q5 (q9o h g b) (fun l=>⟨[(0,.hs 0 3 0 l.2.length),(3,.d (.fn q1F q1C)),(8,q7 b),(9,q7 0),(10,.d (q9 (w64 (g - b)))),(11,q7 l.1)],[(0,.dat 3 (l.2.map Qh))],1⟩) (w64 (Int.tdiv (w64 ((w64 (g - b)) - 1)) 2),o) q z (wkA [] [] []) ?_
  intro l ai c
  unfold q9o at c
  refine qf<|qc<|O J<|G _ J<|qa ?_
  refine qm J c (fun _ c=>?_) (fun _ c=>?_)
  ·refine qk<|qf<|qx<|qt<|O J<|O J<|O J<|O J<|O J ?_
   obtain ⟨s,aa,c⟩:=q6 c
   obtain ⟨aj,ab,c⟩:=q6 c
   have ac:=Kd ab
   refine K1 [(0,0)] [(0,0)] _ (.d (.tup [])) 1 [(0,.dat 3 (s.map Qh))] 1 (qmw h q1F q1C q1Ok l.2 l.1 (w64 (g - b)) b s aa)<|qr<|Qg<|qt<|O J<|G _ J<|qb J<|qr ?_
   exact ⟨_,(Option.some.inj c).symm,wkE [] [] [] J ⟨⟨_,J,Qy (by simp [ac]) J qs (ltd J)⟩,qn J,qn J,qn J,qn J,qn J,trivial⟩ ⟨Qk J J,trivial⟩⟩
  refine Q3 ?_
  refine ⟨_,(Option.some.inj c).symm,fun hm=>?_⟩
  subst hm
  exact ⟨_,J,wkA [] [] []⟩
 intro k hb
 subst hb
 refine qc<|O J<|G _ J<|qb J<|qa ?_
 obtain ⟨ad,ae,j⟩:=q6 j
 refine qx<|Q5 (q9p b h) (fun f=>⟨[(0,.hs 0 3 0 f.2.length),(3,.d (.fn q1F q1C)),(8,q7 b),(9,q7 0),(12,q7 f.1)],[(0,.dat 3 (f.2.map Qh))],1⟩) (w64 ((w64 (g - b)) - 1),k) ad ae (wkA [] [] []) ?_
 intro f ak a
 unfold q9p at a
 refine qf<|qc<|O J<|G _ J<|qa ?_
 refine qm J a (fun _ a=>?_) (fun _ a=>?_)
 ·refine qk<|qf<|qx<|qf<|Q9 [Qm 0,U,Qm 0,U,qq 0,U,U,U,qq 0,U,U,U,U,U,U,U,U,U,U,U] qh<|O J<|O J<|O J<|O J<|O J<|G _ J<|O J<|O J<|O J<|G _ J ?_
  obtain ⟨t,u,a⟩:=q6 a
  refine qv u J J<|Q4 _ u J<|O J<|O J ?_
  obtain ⟨v,w,a⟩:=q6 a
  refine qv w J J<|Q4 _ w J ?_
  obtain ⟨al,x,a⟩:=q6 a
  refine qv x J J<|Qw t x J J J J J J J J (leb J) J ?_
  obtain ⟨am,y,a⟩:=q6 a
  refine qv y qe J<|Qw v y J J J J J J J J (leb J) J<|qa<|qt<|O J<|O J<|O J<|O J<|O J ?_
  obtain ⟨p,af,a⟩:=q6 a
  obtain ⟨an,ag,a⟩:=q6 a
  have ah:=Kd ag
  refine Jq [(0,0)] [(0,0)] [.hs 0 3 0 f.2.length,q7 0,q7 f.1,q7 b,.d (.fn q1F q1C)] (.d (.tup [])) [(0,.dat 3 (p.map Qh))] [(0,.dat 3 (p.map Qh))] 1 (qmw h q1F q1C q1Ok ((f.2.set b.toNat t).set (w64 (b + f.1)).toNat v) 0 f.1 b p af) J J J (Y9 [(0,0)] [] [] J ⟨⟨_,J,Qy qe J qs (ltd J)⟩,qn J,qn J,qn J,qn J,trivial⟩ ⟨Qk J J,trivial⟩) (Y9 [(0,0)] [] [] J ⟨qn J,trivial⟩ ⟨Qk J J,trivial⟩) J ⟨.inl J,trivial⟩<|qr<|Qg<|qt<|O J<|G _ J<|qb J<|qr ?_
  exact ⟨_,(Option.some.inj a).symm,wkE [] [] [] J ⟨⟨_,J,Qy (by simp [ah]) J qs (ltd J)⟩,qn J,qn J,qn J,qn J,trivial⟩ ⟨Qk J J,trivial⟩⟩
 refine Q3 ?_
 refine ⟨_,(Option.some.inj a).symm,fun hm=>?_⟩
 subst hm
 obtain rfl:=qd j
 exact ⟨.inl J,_,J,wkA [] [] []⟩
theorem qgg (f : ql→ql→Option Int) (q1F : FuncId) (q1C : List DV) (q1Ok : ∀ (b : ql) (c : ql) (r : Int),f b c = some r→Pure Tryz.prog tab q1F ([.agg [q9 b.at_,q9 b.list_,q9 b.by_],.agg [q9 c.at_,q9 c.list_,q9 c.by_]] ++ q1C) (q9 r)) (g : List ql) (h : Int) (j : Int) (k : Int) (r : Int × Int × Int) (a : q44 f g h j k = some r) : K0 Tryz.prog tab 186 [.d (.sl 3 (g.map Qh)),q7 h,q7 j,.ref 0 1 0 0,.d (.fn q1F q1C)] [(0,.dat 1 [[q9 k]])] 1 (.d (.tup [q9 r.1,q9 r.2.1])) [(0,.dat 1 [[q9 r.2.2]])] 1:=by
 unfold q44 at a
 refine Kh Tryz.func186 J qh qh J<|qc<|qb J<|qb J<|qa<|qf<|qf<|Q9 [U,U,U,U,U,U,U,U,U,U,U] qh<|O J<|O J<|O J ?_
 obtain ⟨l,m,a⟩:=q6 a
 refine Q1 m J<|G _ J<|O J<|O J ?_
 obtain ⟨n,o,a⟩:=q6 a
 refine Q1 o J<|G _ J ?_
 obtain ⟨p,q,a⟩:=q6 a
 refine Y7 _ (q1Ok l n p q) J J J (.inl J)<|G _ J<|qa ?_
 refine qm J a (fun _ a=>?_) (fun _ a=>?_)
 ·refine qc<|O J<|G _ J<|G _ J<|G _ J<|G _ J<|Qd 0 _ J<|qp<|O J<|O J<|qb J<|qb J<|qo ?_
  obtain rfl:=qd a
  exact ⟨.inr J,_,J,wkA [] [] []⟩
 refine qk<|qc<|O J<|O J<|qb J<|qb J<|qo ?_
 obtain rfl:=qd a
 exact ⟨.inr J,_,J,wkA [] [] []⟩
theorem qmt (f : ql→ql→Option Int) (q1F : FuncId) (q1C : List DV) (q1Ok : ∀ (h : ql) (j : ql) (r : Int),f h j = some r→Pure Tryz.prog tab q1F ([.agg [q9 h.at_,q9 h.list_,q9 h.by_],.agg [q9 j.at_,q9 j.list_,q9 j.by_]] ++ q1C) (q9 r)) (g : List ql) (l : Int) (m : Int) (n : Int) (o : Int) (r : Int × Int) (a : q6q f g l m n o = some r) : K0 Tryz.prog tab 185 [.d (.sl 3 (g.map Qh)),q7 l,q7 m,q7 n,.ref 0 1 0 0,.d (.fn q1F q1C)] [(0,.dat 1 [[q9 o]])] 1 (q7 r.1) [(0,.dat 1 [[q9 r.2]])] 1:=by
 unfold q6q at a
 refine Kh Tryz.func185 J qh qh J<|qc<|qb J<|qp<|O J<|O J<|O J<|O J<|O J ?_
 obtain ⟨b,p,a⟩:=q6 a
 refine K1 [(0,0)] [(0,0)] _ (.d (.tup [q9 b.1,q9 b.2.1])) 1 [(0,.dat 1 [[q9 b.2.2]])] 1 (qgg f q1F q1C q1Ok g l m o b p)<|O J<|G _ J<|G _ J<|qb J<|qb J<|qp<|O J<|O J<|O J<|O J<|O J ?_
 obtain ⟨c,q,a⟩:=q6 a
 refine K1 [(0,0)] [(0,0)] _ (.d (.tup [q9 c.1,q9 c.2.1])) 1 [(0,.dat 1 [[q9 c.2.2]])] 1 (qgg f q1F q1C q1Ok g b.2.1 n b.2.2 c q)<|O J<|G _ J<|G _ J<|qb J<|qb J<|qp<|O J<|O J<|O J<|O J<|O J ?_
 obtain ⟨k,s,a⟩:=q6 a
 refine K1 [(0,0)] [(0,0)] _ (.d (.tup [q9 k.1,q9 k.2.1])) 1 [(0,.dat 1 [[q9 k.2.2]])] 1 (qgg f q1F q1C q1Ok g b.1 c.1 c.2.2 k s)<|O J<|G _ J<|G _ J<|qb J<|qb J<|qp<|O J<|qb J<|qo ?_
 obtain rfl:=qd a
 exact ⟨.inr J,_,J,wkA [] [] []⟩
theorem qge (g : ql→ql→Option Int) (q1F : FuncId) (q1C : List DV) (q1Ok : ∀ (b : ql) (c : ql) (r : Int),g b c = some r→Pure Tryz.prog tab q1F ([.agg [q9 b.at_,q9 b.list_,q9 b.by_],.agg [q9 c.at_,q9 c.list_,q9 c.by_]] ++ q1C) (q9 r)) (h : List ql) (a : Int) (j : Int) (r : Int × Int) (f : q42 g h a j = some r) : K0 Tryz.prog tab 184 [.d (.sl 3 (h.map Qh)),q7 a,.ref 0 1 0 0,.d (.fn q1F q1C)] [(0,.dat 1 [[q9 j]])] 1 (q7 r.1) [(0,.dat 1 [[q9 r.2]])] 1:=by
 unfold q42 at f
 refine Kh Tryz.func184 J qh qh J<|qc<|qb J<|qp<|O J<|O J<|G _ J<|O J<|O J<|G _ J<|O J<|O J ?_
 obtain ⟨k,l,f⟩:=q6 f
 refine K1 [(0,0)] [(0,0)] _ (q7 k.1) 1 [(0,.dat 1 [[q9 k.2]])] 1 (qmt g q1F q1C q1Ok h (w64 (a - 1)) a (w64 (a + 1)) j k l)<|qb J<|qo ?_
 obtain rfl:=qd f
 exact ⟨.inr J,_,J,wkA [] [] []⟩
end Go.Proofs.YtbknppciefodiaaGreat
