/- W_Alla -/
import Derived.Test.YtbknppciefodiaaGreatK14
namespace Go.Proofs.YtbknppciefodiaaGreat
open Go Go.Am Go.Sh
set_option maxHeartbeats 8000000
set_option maxRecDepth 100000
theorem q32 (h : Qa) (j : Int) (r : Bool) (a : J7 h j = some r) : Pure Tryz.prog tab 27 [.agg [q8 h.X,q8 h.Y,q8 h.Z],q8 j] (.bool r):=by
 unfold J7 at a
 refine Qo Tryz.func27 J qh qh J<|qc<|Qs _ _ J<|qa J<|qt<|G _ J<|G _ J<|O J<|G _ J ?_
 obtain ⟨c1,b,a⟩:=q7 a
 refine Qb 6 (fun A st=>∃ k l m n o,st = A [(14,Q0 c1),(13,o),(12,n),(11,m),(10,l),(9,k)]) ?_ ?_
 ·refine Q9 J J b (fun b=>?_) (fun b=>?_)
  ·refine G _ J<|G _ J<|O J<|G _ J<|G _ J<|q9 ?_
   obtain rfl:=qd b
   exact ⟨_,_,_,_,_,J⟩
  refine qb J<|qb J<|qb J<|qb J<|G _ J<|q9 ?_
  obtain rfl:=qd b
  exact ⟨_,_,_,_,_,J⟩
 rintro _ ⟨k,l,m,n,o,rfl⟩
 obtain ⟨c8,c,a⟩:=q7 a
 refine Qb 6 (fun A st=>∃ p q s t u,st = A [(20,Q0 c8),(19,u),(18,t),(17,s),(16,q),(15,p)]) ?_ ?_
 ·refine Q9 J J c (fun c=>?_) (fun c=>?_)
  ·refine G _ J<|G _ J<|O J<|G _ J<|G _ J<|q9 ?_
   obtain rfl:=qd c
   exact ⟨_,_,_,_,_,J⟩
  refine qb J<|qb J<|qb J<|qb J<|G _ J<|q9 ?_
  obtain rfl:=qd c
  exact ⟨_,_,_,_,_,J⟩
 rintro _ ⟨p,q,s,t,u,rfl⟩
 obtain ⟨aj,d,a⟩:=q7 a
 refine Qb 5 (fun A st=>∃ v w x y,st = A [(25,Q0 aj),(24,y),(23,x),(22,w),(21,v)]) ?_ ?_
 ·refine Q9 J J d (fun d=>?_) (fun d=>?_)
  ·refine G _ J<|G _ J<|G _ J<|G _ J<|q9 ?_
   obtain rfl:=qd d
   exact ⟨_,_,_,_,J⟩
  refine qb J<|qb J<|qb J<|G _ J<|q9 ?_
  obtain rfl:=qd d
  exact ⟨_,_,_,_,J⟩
 rintro _ ⟨v,w,x,y,rfl⟩
 obtain ⟨ak,f,a⟩:=q7 a
 refine Qb 5 (fun A st=>∃ z aa ab ac,st = A [(30,Q0 ak),(29,ac),(28,ab),(27,aa),(26,z)]) ?_ ?_
 ·refine Q9 J J f (fun f=>?_) (fun f=>?_)
  ·refine G _ J<|G _ J<|G _ J<|G _ J<|q9 ?_
   obtain rfl:=qd f
   exact ⟨_,_,_,_,J⟩
  refine qb J<|qb J<|qb J<|G _ J<|q9 ?_
  obtain rfl:=qd f
  exact ⟨_,_,_,_,J⟩
 rintro _ ⟨z,aa,ab,ac,rfl⟩
 obtain ⟨al,g,a⟩:=q7 a
 refine Qb 5 (fun A st=>∃ ad ae af ag,st = A [(35,Q0 al),(34,ag),(33,af),(32,ae),(31,ad)]) ?_ ?_
 ·refine Q9 J J g (fun g=>?_) (fun g=>?_)
  ·refine G _ J<|G _ J<|G _ J<|G _ J<|q9 ?_
   obtain rfl:=qd g
   exact ⟨_,_,_,_,J⟩
  refine qb J<|qb J<|qb J<|G _ J<|q9 ?_
  obtain rfl:=qd g
  exact ⟨_,_,_,_,J⟩
 rintro _ ⟨ad,ae,af,ag,rfl⟩
 refine qa J<|qs ?_
 obtain rfl:=qd a
 exact Q5 _ J
theorem qwe (b : Qp) (k : List (List qg)) (r : Bool) (c : q69 b k = some r) : Pure Tryz.prog tab 10 [.agg [.sl 7 (b.Lines.map Kb),.sl 5 (b.Marks.map Km),.int .u8 b.End.Frame.Turn,q8 b.End.Frame.At.X,q8 b.End.Frame.At.Y,q8 b.End.Frame.At.Z,q8 b.End.Drawn],.sl 1 (k.map Qq)] (.bool r):=by
 unfold q69 at c
 refine Qo Tryz.func10 J qh qh J<|qc<|Qs _ _ J<|qa J<|q9<|qf<|qc<|G _ J<|G _ J<|Qi J<|G _ J ?_
 obtain ⟨c1,l,c⟩:=q7 c
 refine Qb 6 (fun A st=>∃ q s t u v,st = A [(18,Q0 c1),(17,v),(16,u),(15,t),(14,s),(13,q)]) ?_ ?_
 ·refine Q9 J J l (fun l=>?_) (fun l=>?_)
  ·refine qb J<|qb J<|qb J<|qb J<|G _ J<|q9 ?_
   obtain rfl:=qd l
   exact ⟨_,_,_,_,_,J⟩
  refine G _ J<|G _ J<|Qi J<|G _ J<|G _ J<|q9 ?_
  obtain rfl:=qd l
  exact ⟨_,_,_,_,_,J⟩
 rintro _ ⟨q,s,t,u,v,rfl⟩
 obtain ⟨c8,m,c⟩:=q7 c
 refine Qb 5 (fun A st=>∃ w x y z,st = A [(23,Q0 c8),(22,z),(21,y),(20,x),(19,w)]) ?_ ?_
 ·refine Q9 J J m (fun m=>?_) (fun m=>?_)
  ·refine qb J<|qb J<|qb J<|G _ J<|q9 ?_
   obtain rfl:=qd m
   exact ⟨_,_,_,_,J⟩
  refine O J<|Qi J<|G _ J<|G _ J<|q9 ?_
  obtain rfl:=qd m
  exact ⟨_,_,_,_,J⟩
 rintro _ ⟨w,x,y,z,rfl⟩
 refine q9 ?_
 refine qo J c (fun _ c=>?_) (fun _ c=>?_)
 ·refine qc<|qa J<|qs ?_
  obtain rfl:=qd c
  exact Q5 _ J
 refine ql<|qf<|qc<|qa J<|q9 ?_
 obtain ⟨aa,bt,c⟩:=q7 c
 refine Qk (fun o=>.inl o = aa) (fun o=>⟨[(1,.d (.sl 1 (k.map Qq)))],[],0⟩) qe ?_ ?_
 ·refine Qe (q6a b) (fun ab=>⟨[(1,.d (.sl 1 (k.map Qq))),(2,.ref 0 7 0 0),(5,q6 ab)],[(0,.dat 7 [[.sl 7 (b.Lines.map Kb),.sl 5 (b.Marks.map Km),.int .u8 b.End.Frame.Turn,q8 b.End.Frame.At.X,q8 b.End.Frame.At.Y,q8 b.End.Frame.At.Z,q8 b.End.Drawn]])],1⟩) 0 aa bt (wkA [(0,0)] [] []) ?_
  intro ab cg a
  unfold q6a at a
  refine qf<|qc<|O J<|G _ J<|G _ J<|Qi J<|G _ J<|q9 ?_
  refine qo J a (fun _ a=>?_) (fun _ a=>?_)
  ·refine ql<|qf<|Q3<|qf<|Qj [Qv 2,Qv 1,(some [],[2]),(some [],[1]),U,U,U,U,qu 0,U,U,U,U,U,qu 0,U] qh<|G _ J<|G _ J<|O J ?_
   obtain ⟨g,bu,a⟩:=q7 a
   refine Qc bu J<|G _ J<|G _ J<|G _ J<|G _ J<|O J ?_
   obtain ⟨h,bv,a⟩:=q7 a
   refine Qc bv J<|G _ J<|G _ J<|K4 J J<|K4 J J<|Ql 1 _ J<|Ql 2 _ J<|qt<|G _ J ?_
   obtain ⟨bw,bz,a⟩:=q7 a
   refine Q4 (q32 g.From (-2000000) bw bz) J<|G _ J ?_
   obtain ⟨ca,j,a⟩:=q7 a
   refine Qb 5 (fun A st=>∃ ac ad ae af,st = A [(50,Q0 ca),(49,af),(48,ae),(47,ad),(46,ac)]) ?_ ?_
   ·refine Q9 J J j (fun j=>?_) (fun j=>?_)
    ·refine qb J<|qb J<|qb J<|G _ J<|q9 ?_
     obtain rfl:=qd j
     exact ⟨_,_,_,_,J⟩
    refine G _ J ?_
    obtain ⟨cb,cc,j⟩:=q7 j
    refine Q4 (q32 h.To (-2000000) cb cc) J<|G _ J<|G _ J<|q9 ?_
    obtain rfl:=qd j
    exact ⟨_,_,_,_,J⟩
   rintro _ ⟨ac,ad,ae,af,rfl⟩
   obtain ⟨cd,n,a⟩:=q7 a
   refine Qb 34 (fun A st=>∃ ag ah ai aj ak al am an ao ap aq ar au av aw ax ay az ba bb bc bd be bf bg bh bi bj bk bl bm bn bo,st = A [(84,Q0 cd),(83,bo),(82,bn),(81,bm),(80,bl),(79,bk),(78,bj),(77,bi),(76,bh),(75,bg),(74,bf),(73,be),(72,bd),(71,bc),(70,bb),(69,ba),(68,az),(67,ay),(66,ax),(65,aw),(64,av),(63,au),(62,ar),(61,aq),(60,ap),(59,ao),(58,an),(57,am),(56,al),(55,ak),(54,aj),(53,ai),(52,ah),(51,ag)]) ?_ ?_
   ·refine Q9 J J n (fun n=>?_) (fun n=>?_)
    ·refine qb J<|qb J<|qb J<|qb J<|qb J<|qb J<|qb J<|qb J<|qb J<|qb J<|qb J<|qb J<|qb J<|qb J<|qb J<|qb J<|qb J<|qb J<|qb J<|qb J<|qb J<|qb J<|qb J<|qb J<|qb J<|qb J<|qb J<|qb J<|qb J<|qb J<|qb J<|qb J<|G _ J<|q9 ?_
     obtain rfl:=qd n
     exact ⟨_,_,_,_,_,_,_,_,_,_,_,_,_,_,_,_,_,_,_,_,_,_,_,_,_,_,_,_,_,_,_,_,_,J⟩
    refine G _ J<|G _ J<|G _ J<|G _ J<|G _ J<|G _ J<|G _ J<|G _ J<|G _ J<|G _ J<|G _ J<|G _ J<|G _ J<|G _ J<|G _ J<|G _ J<|G _ J<|G _ J<|G _ J<|G _ J<|G _ J<|G _ J<|G _ J<|G _ J<|G _ J<|G _ J<|G _ J<|G _ J<|G _ J<|G _ J<|Um (r:=max (max (max (max (max (w64 (g.From.X - h.To.X)) (w64 (h.To.X - g.From.X))) (w64 (g.From.Y - h.To.Y))) (w64 (h.To.Y - g.From.Y))) (w64 (g.From.Z - h.To.Z))) (w64 (h.To.Z - g.From.Z))) J J (by simp only [Uk];rfl)<|G _ J<|G _ J<|q9 ?_
    obtain rfl:=qd n
    exact ⟨_,_,_,_,_,_,_,_,_,_,_,_,_,_,_,_,_,_,_,_,_,_,_,_,_,_,_,_,_,_,_,_,_,J⟩
   rintro _ ⟨ag,ah,ai,aj,ak,al,am,an,ao,ap,aq,ar,au,av,aw,ax,ay,az,ba,bb,bc,bd,be,bf,bg,bh,bi,bj,bk,bl,bm,bn,bo,rfl⟩
   refine q9 ?_
   refine qo J a (fun _ a=>?_) (fun _ a=>?_)
   ·refine qc<|qa J<|qs ?_
    refine ⟨_,qm a,fun hm=>?_⟩
    subst hm
    obtain rfl:=qd c
    exact Q5 _ J
   refine ql<|Qf<|Qn<|qw<|O J<|G _ J<|qa J<|qv ?_
   exact ⟨_,qm a,wkA [(0,0)] [] []⟩
  refine Q8 ?_
  refine ⟨_,qm a,fun hm=>?_⟩
  subst hm
  exact ⟨_,J,wkA [] [] []⟩
 intro o hb
 subst hb
 refine qf<|qc<|qa J<|q9 ?_
 obtain ⟨bp,ce,c⟩:=q7 c
 refine Qk (fun p=>.inl p = bp) (fun p=>⟨[],[],0⟩) qe ?_ ?_
 ·refine Qe (q6b k) (fun bq=>⟨[(1,.d (.sl 1 (k.map Qq))),(8,q6 bq)],[],0⟩) 0 bp ce (wkA [] [] []) ?_
  intro bq ch f
  unfold q6b at f
  refine qf<|qc<|O J<|O J<|Qi J<|G _ J<|q9 ?_
  refine qo J f (fun _ f=>?_) (fun _ f=>?_)
  ·refine ql<|qf<|Q3<|qc<|O J<|O J ?_
   obtain ⟨ci,cf,f⟩:=q7 f
   refine Qc cf J<|G _ J<|Qi J<|G _ J<|q9 ?_
   refine qo J f (fun _ f=>?_) (fun _ f=>?_)
   ·refine qc<|qa J<|qs ?_
    refine ⟨_,qm f,fun hm=>?_⟩
    subst hm
    obtain rfl:=qd c
    exact Q5 _ J
   refine ql<|Qf<|Qn<|qw<|O J<|G _ J<|qa J<|qv ?_
   exact ⟨_,qm f,wkA [] [] []⟩
  refine Q8 ?_
  refine ⟨_,qm f,fun hm=>?_⟩
  subst hm
  exact ⟨_,J,wkA [] [] []⟩
 intro p hb
 subst hb
 refine qc<|qa J<|qs ?_
 obtain rfl:=qd c
 exact Q5 _ J
theorem qys (c : List Qy) (g : Qy→Option Bool) (p1F : FuncId) (p1C : List DV) (p1Ok : ∀ (b : Qy) (r : Bool),g b = some r→Pure Tryz.prog tab p1F ([.agg [q8 b.From.X,q8 b.From.Y,q8 b.From.Z,q8 b.To.X,q8 b.To.Y,q8 b.To.Z,q8 b.Depth]] ++ p1C) (.bool r)) (r : Int) (f : qd8 c g = some r) : Pure Tryz.prog tab 96 [.sl 7 (c.map Kb),.fn p1F p1C] (q8 r):=by
 unfold qd8 at f
 refine Qo Tryz.func96 J qh qh J<|qc<|qa J<|q9<|qf<|qc<|O J<|Qi J<|O J<|q9 ?_
 obtain ⟨j,l,f⟩:=q7 f
 refine Qk (fun h=>.inl h = j) (fun h=>⟨[],[],0⟩) qe ?_ ?_
 ·refine Qe (q6u c g) (fun k=>⟨[(0,.d (.sl 7 (c.map Kb))),(1,.d (.fn p1F p1C)),(7,q6 (c.length : Int)),(8,q6 k)],[],0⟩) 0 j l (wkA [] [] []) ?_
  intro k q a
  unfold q6u at a
  refine qc<|G _ J<|q9<|qf ?_
  refine qo J a (fun _ a=>?_) (fun _ a=>?_)
  ·refine ql<|qf<|Q3<|qc<|O J<|qa J<|qt<|O J<|O J<|O J ?_
   obtain ⟨m,n,a⟩:=q7 a
   refine Qc n J<|G _ J ?_
   obtain ⟨o,p,a⟩:=q7 a
   refine Yk _ (p1Ok m o p) J J J (.inl J)<|q9 ?_
   refine qo J a (fun _ a=>?_) (fun _ a=>?_)
   ·refine qc<|O J<|qa J<|qs ?_
    refine ⟨_,qm a,fun hm=>?_⟩
    subst hm
    obtain rfl:=qd f
    exact Q5 _ J
   refine ql<|Qf<|Qn<|qw<|G _ J<|O J<|qv ?_
   exact ⟨_,qm a,wkA [] [] []⟩
  refine Q8 ?_
  refine ⟨_,qm a,fun hm=>?_⟩
  subst hm
  exact ⟨_,J,wkA [] [] []⟩
 intro h hb
 subst hb
 refine qc<|qa J<|qs ?_
 obtain rfl:=qd f
 exact Q5 _ J
theorem qnb (c : List Qy) (d : Qy→Option Bool) (p1F : FuncId) (p1C : List DV) (p1Ok : ∀ (a : Qy) (r : Bool),d a = some r→Pure Tryz.prog tab p1F ([.agg [q8 a.From.X,q8 a.From.Y,q8 a.From.Z,q8 a.To.X,q8 a.To.Y,q8 a.To.Z,q8 a.Depth]] ++ p1C) (.bool r)) (r : Bool) (b : q6s c d = some r) : Pure Tryz.prog tab 65 [.sl 7 (c.map Kb),.fn p1F p1C] (.bool r):=by
 unfold q6s at b
 refine Qo Tryz.func65 J qh qh J<|qc<|qa J<|qt<|O J<|O J ?_
 obtain ⟨f,g,b⟩:=q7 b
 refine Q4 (qys c d p1F p1C p1Ok f g) J<|G _ J<|qa J<|qs ?_
 obtain rfl:=qd b
 exact Q5 _ J
theorem qon (a : Qa) (r : Bool) (c : qbe a = some r) : Pure Tryz.prog tab 88 [.agg [q8 a.X,q8 a.Y,q8 a.Z]] (.bool r):=by
 unfold qbe at c
 refine Qo Tryz.func88 J qh qh J<|qc<|Qs _ _ J<|qa J<|qt<|G _ J<|G _ J<|G _ J<|G _ J<|G _ J<|G _ J<|q2y (r:=min (min a.X a.Y) a.Z) J J (by simp only [q2w];rfl)<|G _ J ?_
 obtain ⟨o,b,c⟩:=q7 c
 refine Qb 10 (fun A st=>∃ d f g h j k l m n,st = A [(20,Q0 o),(19,n),(18,m),(17,l),(16,k),(15,j),(14,h),(13,g),(12,f),(11,d)]) ?_ ?_
 ·refine Q9 J J b (fun b=>?_) (fun b=>?_)
  ·refine G _ J<|G _ J<|G _ J<|G _ J<|G _ J<|G _ J<|Um (r:=max (max a.X a.Y) a.Z) J J (by simp only [Uk];rfl)<|G _ J<|G _ J<|q9 ?_
   obtain rfl:=qd b
   exact ⟨_,_,_,_,_,_,_,_,_,J⟩
  refine qb J<|qb J<|qb J<|qb J<|qb J<|qb J<|qb J<|qb J<|G _ J<|q9 ?_
  obtain rfl:=qd b
  exact ⟨_,_,_,_,_,_,_,_,_,J⟩
 rintro _ ⟨d,f,g,h,j,k,l,m,n,rfl⟩
 refine qa J<|qs ?_
 obtain rfl:=qd c
 exact Q5 _ J
theorem q138 (a : Qy) (r : Bool) (b : q8a a = some r) : Pure Tryz.prog tab 87 [.agg [q8 a.From.X,q8 a.From.Y,q8 a.From.Z,q8 a.To.X,q8 a.To.Y,q8 a.To.Z,q8 a.Depth]] (.bool r):=by
 unfold q8a at b
 refine Qo Tryz.func87 J qh qh J<|qc<|Qs _ _ J<|qa J<|qt<|qa J<|q9<|qf<|qc<|G _ J<|G _ J<|G _ J<|G _ J<|G _ J<|G _ J<|G _ J<|G _ J<|G _ J<|G _ J<|G _ J<|G _ J<|G _ J<|G _ J<|G _ J<|G _ J<|G _ J<|G _ J<|G _ J<|G _ J<|G _ J<|G _ J<|O J<|q9 ?_
 obtain ⟨m,w,b⟩:=q7 b
 refine Qk (fun j=>j = m) (fun j=>⟨[(1,.ref 0 7 0 0),(3,q6 j)],[(0,.dat 7 [[q8 a.From.X,q8 a.From.Y,q8 a.From.Z,q8 a.To.X,q8 a.To.Y,q8 a.To.Z,q8 a.Depth]])],1⟩) qe ?_ ?_
 ·refine Qe (q1a a) (fun k=>⟨[(1,.ref 0 7 0 0),(3,q6 k.1),(27,.d (.agg [q8 (w64 (a.To.X - a.From.X)),q8 (w64 (a.To.Y - a.From.Y)),q8 (w64 (a.To.Z - a.From.Z))])),(28,q6 k.2)],[(0,.dat 7 [[q8 a.From.X,q8 a.From.Y,q8 a.From.Z,q8 a.To.X,q8 a.To.Y,q8 a.To.Z,q8 a.Depth]])],1⟩) (0,0) m w (wkA [(0,0)] [] []) ?_
  intro k y6 c
  unfold q1a at c
  refine qc<|G _ J<|q9<|qf ?_
  refine qo J c (fun _ c=>?_) (fun _ c=>?_)
  ·refine ql<|qf ?_
   obtain ⟨x,f,c⟩:=q7 c
   refine Qk (fun l=>l = x) (fun l=>⟨[(1,.ref 0 7 0 0),(3,q6 l),(27,.d (.agg [q8 (w64 (a.To.X - a.From.X)),q8 (w64 (a.To.Y - a.From.Y)),q8 (w64 (a.To.Z - a.From.Z))])),(28,q6 k.2)],[(0,.dat 7 [[q8 a.From.X,q8 a.From.Y,q8 a.From.Z,q8 a.To.X,q8 a.To.Y,q8 a.To.Z,q8 a.Depth]])],1⟩) qe ?_ ?_
   ·refine qc ?_
    obtain ⟨y,z,f⟩:=q7 f
    refine qu1 (enc:=(eI .i64)) [w64 (a.To.X - a.From.X),w64 (a.To.Y - a.From.Y),w64 (a.To.Z - a.From.Z)] (q6 y) z (fun _=>rfl) J J J J J J<|qa J<|qt<|O J<|G _ J<|q9 ?_
    refine qo J f (fun _ f=>?_) (fun _ f=>?_)
    ·refine qw<|O J<|G _ J<|qa J<|qv ?_
     obtain rfl:=qd f
     exact ⟨_,J,wkA [(0,0)] [] []⟩
    refine ql<|Qf ?_
    obtain rfl:=qd f
    exact ⟨_,J,wkA [(0,0)] [] []⟩
   intro l hb
   subst hb
   refine qw<|G _ J<|O J<|qv ?_
   exact ⟨_,qm c,wkA [(0,0)] [] []⟩
  refine Q8 ?_
  refine ⟨_,qm c,fun hm=>?_⟩
  subst hm
  exact ⟨_,J,wkA [(0,0)] [] []⟩
 intro j hb
 subst hb
 refine qc<|G _ J<|G _ J ?_
 obtain ⟨aa,ab,b⟩:=q7 b
 refine Q4 (qon a.From aa ab) J<|G _ J ?_
 obtain ⟨ac,g,b⟩:=q7 b
 refine Qb 6 (fun A st=>∃ n o p q s,st = A [(45,Q0 ac),(44,s),(43,q),(42,p),(41,o),(40,n)]) ?_ ?_
 ·refine Q9 J J g (fun g=>?_) (fun g=>?_)
  ·refine qb J<|qb J<|qb J<|qb J<|G _ J<|q9 ?_
   obtain rfl:=qd g
   exact ⟨_,_,_,_,_,J⟩
  refine G _ J<|G _ J ?_
  obtain ⟨ad,ae,g⟩:=q7 g
  refine Q4 (qon a.To ad ae) J<|G _ J<|G _ J<|q9 ?_
  obtain rfl:=qd g
  exact ⟨_,_,_,_,_,J⟩
 rintro _ ⟨n,o,p,q,s,rfl⟩
 obtain ⟨af,h,b⟩:=q7 b
 refine Qb 4 (fun A st=>∃ t u v,st = A [(49,Q0 af),(48,v),(47,u),(46,t)]) ?_ ?_
 ·refine Q9 J J h (fun h=>?_) (fun h=>?_)
  ·refine qb J<|qb J<|G _ J<|q9 ?_
   obtain rfl:=qd h
   exact ⟨_,_,_,J⟩
  refine O J<|G _ J<|G _ J<|q9 ?_
  obtain rfl:=qd h
  exact ⟨_,_,_,J⟩
 rintro _ ⟨t,u,v,rfl⟩
 refine qa J<|qs ?_
 obtain rfl:=qd b
 exact Q5 _ J
theorem qyt (c : List Z2) (g : Z2→Option Bool) (p1F : FuncId) (p1C : List DV) (p1Ok : ∀ (b : Z2) (r : Bool),g b = some r→Pure Tryz.prog tab p1F ([.agg [.int .u8 b.Name,.int .u8 b.Frame.Turn,q8 b.Frame.At.X,q8 b.Frame.At.Y,q8 b.Frame.At.Z]] ++ p1C) (.bool r)) (r : Int) (f : qd9 c g = some r) : Pure Tryz.prog tab 115 [.sl 5 (c.map Km),.fn p1F p1C] (q8 r):=by
 unfold qd9 at f
 refine Qo Tryz.func115 J qh qh J<|qc<|qa J<|q9<|qf<|qc<|O J<|Qi J<|O J<|q9 ?_
 obtain ⟨j,l,f⟩:=q7 f
 refine Qk (fun h=>.inl h = j) (fun h=>⟨[],[],0⟩) qe ?_ ?_
 ·refine Qe (q6v c g) (fun k=>⟨[(0,.d (.sl 5 (c.map Km))),(1,.d (.fn p1F p1C)),(7,q6 (c.length : Int)),(8,q6 k)],[],0⟩) 0 j l (wkA [] [] []) ?_
  intro k q a
  unfold q6v at a
  refine qc<|G _ J<|q9<|qf ?_
  refine qo J a (fun _ a=>?_) (fun _ a=>?_)
  ·refine ql<|qf<|Q3<|qc<|O J<|qa J<|qt<|O J<|O J<|O J ?_
   obtain ⟨m,n,a⟩:=q7 a
   refine Qc n J<|G _ J ?_
   obtain ⟨o,p,a⟩:=q7 a
   refine Yk _ (p1Ok m o p) J J J (.inl J)<|q9 ?_
   refine qo J a (fun _ a=>?_) (fun _ a=>?_)
   ·refine qc<|O J<|qa J<|qs ?_
    refine ⟨_,qm a,fun hm=>?_⟩
    subst hm
    obtain rfl:=qd f
    exact Q5 _ J
   refine ql<|Qf<|Qn<|qw<|G _ J<|O J<|qv ?_
   exact ⟨_,qm a,wkA [] [] []⟩
  refine Q8 ?_
  refine ⟨_,qm a,fun hm=>?_⟩
  subst hm
  exact ⟨_,J,wkA [] [] []⟩
 intro h hb
 subst hb
 refine qc<|qa J<|qs ?_
 obtain rfl:=qd f
 exact Q5 _ J
theorem qyl (c : List Z2) (d : Z2→Option Bool) (p1F : FuncId) (p1C : List DV) (p1Ok : ∀ (a : Z2) (r : Bool),d a = some r→Pure Tryz.prog tab p1F ([.agg [.int .u8 a.Name,.int .u8 a.Frame.Turn,q8 a.Frame.At.X,q8 a.Frame.At.Y,q8 a.Frame.At.Z]] ++ p1C) (.bool r)) (r : Bool) (b : q9q c d = some r) : Pure Tryz.prog tab 89 [.sl 5 (c.map Km),.fn p1F p1C] (.bool r):=by
 unfold q9q at b
 refine Qo Tryz.func89 J qh qh J<|qc<|qa J<|qt<|O J<|O J ?_
 obtain ⟨f,g,b⟩:=q7 b
 refine Q4 (qyt c d p1F p1C p1Ok f g) J<|G _ J<|qa J<|qs ?_
 obtain rfl:=qd b
 exact Q5 _ J
theorem qs1 (a : Qa) (d : Int) (r : Bool) (c : q8y a d = some r) : Pure Tryz.prog tab 91 [.agg [q8 a.X,q8 a.Y,q8 a.Z],q8 d] (.bool r):=by
 unfold q8y at c
 refine Qo Tryz.func91 J qh qh J<|qc<|Qs _ _ J<|qa J<|qt<|G _ J<|G _ J<|G _ J<|G _ J<|G _ J<|G _ J<|q2y (r:=min (min a.X a.Y) a.Z) J J (by simp only [q2w];rfl)<|O J<|G _ J ?_
 obtain ⟨p,b,c⟩:=q7 c
 refine Qb 10 (fun A st=>∃ f g h j k l m n o,st = A [(23,Q0 p),(22,o),(21,n),(20,m),(19,l),(18,k),(17,j),(16,h),(15,g),(14,f)]) ?_ ?_
 ·refine Q9 J J b (fun b=>?_) (fun b=>?_)
  ·refine G _ J<|G _ J<|G _ J<|G _ J<|G _ J<|G _ J<|Um (r:=max (max a.X a.Y) a.Z) J J (by simp only [Uk];rfl)<|G _ J<|G _ J<|q9 ?_
   obtain rfl:=qd b
   exact ⟨_,_,_,_,_,_,_,_,_,J⟩
  refine qb J<|qb J<|qb J<|qb J<|qb J<|qb J<|qb J<|qb J<|G _ J<|q9 ?_
  obtain rfl:=qd b
  exact ⟨_,_,_,_,_,_,_,_,_,J⟩
 rintro _ ⟨f,g,h,j,k,l,m,n,o,rfl⟩
 refine qa J<|qs ?_
 obtain rfl:=qd c
 exact Q5 _ J
theorem qk0 (c : Kl) (r : Int) (a : q5f c = some r) : Pure Tryz.prog tab 61 [.agg [.int .u8 c.Turn,q8 c.At.X,q8 c.At.Y,q8 c.At.Z]] (q8 r):=by
 unfold q5f at a
 refine Qo Tryz.func61 J qh qh J<|qc<|Qs _ _ J<|qa J<|q9<|qf<|qc<|G _ J<|G _ J<|G _ J ?_
 obtain ⟨k,b,a⟩:=q7 a
 refine Qb 6 (fun A st=>∃ d f g h j,st = A [(11,Q0 k),(10,j),(9,h),(8,g),(7,f),(6,d)]) ?_ ?_
 ·refine Q9 J J b (fun b=>?_) (fun b=>?_)
  ·refine qb J<|qb J<|qb J<|qb J<|G _ J<|q9 ?_
   obtain rfl:=qd b
   exact ⟨_,_,_,_,_,J⟩
  refine G _ J<|G _ J ?_
  obtain ⟨l,m,b⟩:=q7 b
  refine Q4 (qs1 c.At (-1000000) l m) J<|G _ J<|G _ J<|q9 ?_
  obtain rfl:=qd b
  exact ⟨_,_,_,_,_,J⟩
 rintro _ ⟨d,f,g,h,j,rfl⟩
 refine q9 ?_
 refine qo J a (fun _ a=>?_) (fun _ a=>?_)
 ·refine qc<|qa J<|qs ?_
  obtain rfl:=qd a
  exact Q5 _ J
 refine ql<|qc<|qa J<|qs ?_
 obtain rfl:=qd a
 exact Q5 _ J
theorem q139 (a : Z2) (r : Bool) (b : q8b a = some r) : Pure Tryz.prog tab 90 [.agg [.int .u8 a.Name,.int .u8 a.Frame.Turn,q8 a.Frame.At.X,q8 a.Frame.At.Y,q8 a.Frame.At.Z]] (.bool r):=by
 unfold q8b at b
 refine Qo Tryz.func90 J qh qh J<|qc<|Qs _ _ J<|qa J<|qt<|G _ J<|G _ J ?_
 obtain ⟨c,d,b⟩:=q7 b
 refine Q4 (qk0 a.Frame c d) J<|G _ J<|qa J<|qs ?_
 obtain rfl:=qd b
 exact Q5 _ J
theorem q13a (b : Qp) (r : Int) (a : qbd b = some r) : Pure Tryz.prog tab 60 [.agg [.sl 7 (b.Lines.map Kb),.sl 5 (b.Marks.map Km),.int .u8 b.End.Frame.Turn,q8 b.End.Frame.At.X,q8 b.End.Frame.At.Y,q8 b.End.Frame.At.Z,q8 b.End.Drawn]] (q8 r):=by
 unfold qbd at a
 refine Qo Tryz.func60 J qh qh J<|qc<|Qs _ _ J<|qa J<|qt<|G _ J<|G _ J ?_
 obtain ⟨r1,h2,a⟩:=q7 a
 refine Q4 (qnb b.Lines (fun c=>q8a c) 87 [] (fun c r hr=>q138 c r hr) r1 h2) J<|qa J<|qt<|G _ J<|G _ J ?_
 obtain ⟨r3,h4,a⟩:=q7 a
 refine Q4 (qyl b.Marks (fun c=>q8b c) 90 [] (fun c r hr=>q139 c r hr) r3 h4) J<|qa J<|q9<|qf<|qc<|O J ?_
 obtain ⟨c5,f,a⟩:=q7 a
 refine Qb 3 (fun A st=>∃ h j,st = A [(14,Q0 c5),(13,j),(12,h)]) ?_ ?_
 ·refine Q9 J J f (fun f=>?_) (fun f=>?_)
  ·refine qb J<|G _ J<|q9 ?_
   obtain rfl:=qd f
   exact ⟨_,_,J⟩
  refine O J<|G _ J<|q9 ?_
  obtain rfl:=qd f
  exact ⟨_,_,J⟩
 rintro _ ⟨h,j,rfl⟩
 obtain ⟨af,d,a⟩:=q7 a
 refine Qb 7 (fun A st=>∃ k l m n o p,st = A [(21,Q0 af),(20,p),(19,o),(18,n),(17,m),(16,l),(15,k)]) ?_ ?_
 ·refine Q9 J J d (fun d=>?_) (fun d=>?_)
  ·refine qb J<|qb J<|qb J<|qb J<|qb J<|G _ J<|q9 ?_
   obtain rfl:=qd d
   exact ⟨_,_,_,_,_,_,J⟩
  refine G _ J<|G _ J<|G _ J ?_
  obtain ⟨ag,ah,d⟩:=q7 d
  refine Q4 (qk0 b.End.Frame ag ah) J<|G _ J<|G _ J<|q9 ?_
  obtain rfl:=qd d
  exact ⟨_,_,_,_,_,_,J⟩
 rintro _ ⟨k,l,m,n,o,p,rfl⟩
 obtain ⟨ai,g,a⟩:=q7 a
 refine Qb 10 (fun A st=>∃ q s t u v w x y z,st = A [(31,Q0 ai),(30,z),(29,y),(28,x),(27,w),(26,v),(25,u),(24,t),(23,s),(22,q)]) ?_ ?_
 ·refine Q9 J J g (fun g=>?_) (fun g=>?_)
  ·refine qb J<|qb J<|qb J<|qb J<|qb J<|qb J<|qb J<|qb J<|G _ J<|q9 ?_
   obtain rfl:=qd g
   exact ⟨_,_,_,_,_,_,_,_,_,J⟩
  refine G _ J<|G _ J<|Qi J<|G _ J<|G _ J<|Qi J<|Um (r:=max (b.Lines.length : Int) (b.Marks.length : Int)) J J (by simp only [Uk];rfl)<|G _ J<|G _ J<|q9 ?_
  obtain rfl:=qd g
  exact ⟨_,_,_,_,_,_,_,_,_,J⟩
 rintro _ ⟨q,s,t,u,v,w,x,y,z,rfl⟩
 refine q9 ?_
 refine qo J a (fun _ a=>?_) (fun _ a=>?_)
 ·refine qc<|qa J<|qs ?_
  obtain rfl:=qd a
  exact Q5 _ J
 refine ql<|qc<|qa J<|qs ?_
 obtain rfl:=qd a
 exact Q5 _ J
theorem qhb (a : Int) (r : Int) (b : q8c a = some r) : Pure Tryz.prog tab 69 [q8 a] (q8 r):=by
 unfold q8c at b
 refine Qo Tryz.func69 J qh qh J<|qc<|qa J<|qt<|O J<|O J<|G _ J<|Um (r:=max a (w64 (0 - a))) J J (by simp only [Uk];rfl)<|qa J<|qs ?_
 obtain rfl:=qd b
 exact Q5 _ J
theorem qom (b : Qp) (r : Int × Int) (c : q54 b = some r) : Pure Tryz.prog tab 43 [.agg [.sl 7 (b.Lines.map Kb),.sl 5 (b.Marks.map Km),.int .u8 b.End.Frame.Turn,q8 b.End.Frame.At.X,q8 b.End.Frame.At.Y,q8 b.End.Frame.At.Z,q8 b.End.Drawn]] (.tup [q8 r.1,q8 r.2]):=by
 unfold q54 at c
 refine Qo Tryz.func43 J qh qh J<|qc<|Qs _ _ J<|qa J<|qa J<|q9<|qf<|qc<|G _ J ?_
 obtain ⟨k,l,c⟩:=q7 c
 refine Q4 (q13a b k l) J<|qa J<|qt<|O J<|G _ J<|q9 ?_
 refine qo J c (fun _ c=>?_) (fun _ c=>?_)
 ·refine qc<|O J<|qa J<|qa J<|qs ?_
  obtain rfl:=qd c
  exact Q5 _ J
 refine ql<|qc<|qa J<|q9<|qf<|qc<|G _ J<|G _ J<|Qi J<|O J<|q9 ?_
 obtain ⟨j,m,c⟩:=q7 c
 refine Qk (fun g=>g = j) (fun g=>⟨[(5,q6 g)],[],0⟩) qe ?_ ?_
 ·refine Qe (q89 b) (fun h=>⟨[(5,q6 h.1),(14,.d (.sl 7 (b.Lines.map Kb))),(15,q6 (b.Lines.length : Int)),(16,q6 h.2)],[],0⟩) (0,0) j m (wkA [] [] []) ?_
  intro h v a
  unfold q89 at a
  refine qc<|G _ J<|q9<|qf ?_
  refine qo J a (fun _ a=>?_) (fun _ a=>?_)
  ·refine ql<|qf<|Q3<|qc ?_
   obtain ⟨f,n,a⟩:=q7 a
   refine Qc n J<|G _ J<|K4 J J<|Ql 0 _ J<|q9<|Qj [U,U,U,U,U,qu 0,U,U,qu 0,U,U,U,U,U,qu 0,U,U,qu 0,U,U,U,U,qu 0,U,U,qu 0,U,U,U] qh<|O J<|G _ J<|G _ J<|G _ J<|G _ J<|G _ J<|G _ J<|G _ J ?_
   obtain ⟨o,p,a⟩:=q7 a
   refine Q4 (qhb (w64 (f.To.X - f.From.X)) o p) J<|G _ J<|G _ J<|G _ J<|G _ J<|G _ J<|G _ J<|G _ J ?_
   obtain ⟨q,s,a⟩:=q7 a
   refine Q4 (qhb (w64 (f.To.Y - f.From.Y)) q s) J<|G _ J<|G _ J<|G _ J<|G _ J<|G _ J<|G _ J<|G _ J<|G _ J ?_
   obtain ⟨t,u,a⟩:=q7 a
   refine Q4 (qhb (w64 (f.To.Z - f.From.Z)) t u) J<|G _ J<|G _ J<|qa J<|qv<|Qn<|qw<|G _ J<|O J<|qv ?_
   exact ⟨_,qm a,wkA [] [] []⟩
  refine Q8 ?_
  refine ⟨_,qm a,fun hm=>?_⟩
  subst hm
  exact ⟨_,J,wkA [] [] []⟩
 intro g hb
 subst hb
 refine qc<|O J<|qa J<|qa J<|qs ?_
 obtain rfl:=qd c
 exact Q5 _ J
theorem qyw (c : List qg) (g : qg→Option Bool) (p1F : FuncId) (p1C : List DV) (p1Ok : ∀ (b : qg) (r : Bool),g b = some r→Pure Tryz.prog tab p1F ([.agg [q8 b.Lo.X,q8 b.Lo.Y,q8 b.Lo.Z,q8 b.Hi.X,q8 b.Hi.Y,q8 b.Hi.Z]] ++ p1C) (.bool r)) (r : Int) (f : q9v c g = some r) : Pure Tryz.prog tab 85 [.sl 6 (c.map Qg),.fn p1F p1C] (q8 r):=by
 unfold q9v at f
 refine Qo Tryz.func85 J qh qh J<|qc<|qa J<|q9<|qf<|qc<|O J<|Qi J<|O J<|q9 ?_
 obtain ⟨j,l,f⟩:=q7 f
 refine Qk (fun h=>.inl h = j) (fun h=>⟨[],[],0⟩) qe ?_ ?_
 ·refine Qe (q17 c g) (fun k=>⟨[(0,.d (.sl 6 (c.map Qg))),(1,.d (.fn p1F p1C)),(7,q6 (c.length : Int)),(8,q6 k)],[],0⟩) 0 j l (wkA [] [] []) ?_
  intro k q a
  unfold q17 at a
  refine qc<|G _ J<|q9<|qf ?_
  refine qo J a (fun _ a=>?_) (fun _ a=>?_)
  ·refine ql<|qf<|Q3<|qc<|O J<|qa J<|qt<|O J<|O J<|O J ?_
   obtain ⟨m,n,a⟩:=q7 a
   refine Qc n J<|G _ J ?_
   obtain ⟨o,p,a⟩:=q7 a
   refine Yk _ (p1Ok m o p) J J J (.inl J)<|q9 ?_
   refine qo J a (fun _ a=>?_) (fun _ a=>?_)
   ·refine qc<|O J<|qa J<|qs ?_
    refine ⟨_,qm a,fun hm=>?_⟩
    subst hm
    obtain rfl:=qd f
    exact Q5 _ J
   refine ql<|Qf<|Qn<|qw<|G _ J<|O J<|qv ?_
   exact ⟨_,qm a,wkA [] [] []⟩
  refine Q8 ?_
  refine ⟨_,qm a,fun hm=>?_⟩
  subst hm
  exact ⟨_,J,wkA [] [] []⟩
 intro h hb
 subst hb
 refine qc<|qa J<|qs ?_
 obtain rfl:=qd f
 exact Q5 _ J
theorem qgu (c : List qg) (d : qg→Option Bool) (p1F : FuncId) (p1C : List DV) (p1Ok : ∀ (a : qg) (r : Bool),d a = some r→Pure Tryz.prog tab p1F ([.agg [q8 a.Lo.X,q8 a.Lo.Y,q8 a.Lo.Z,q8 a.Hi.X,q8 a.Hi.Y,q8 a.Hi.Z]] ++ p1C) (.bool r)) (r : Bool) (b : q20 c d = some r) : Pure Tryz.prog tab 57 [.sl 6 (c.map Qg),.fn p1F p1C] (.bool r):=by
 unfold q20 at b
 refine Qo Tryz.func57 J qh qh J<|qc<|qa J<|qt<|O J<|O J ?_
 obtain ⟨f,g,b⟩:=q7 b
 refine Q4 (qyw c d p1F p1C p1Ok f g) J<|G _ J<|qa J<|qs ?_
 obtain rfl:=qd b
 exact Q5 _ J
theorem qnq (a : Qa) (r : Bool) (c : q7x a = some r) : Pure Tryz.prog tab 97 [.agg [q8 a.X,q8 a.Y,q8 a.Z]] (.bool r):=by
 unfold q7x at c
 refine Qo Tryz.func97 J qh qh J<|qc<|Qs _ _ J<|qa J<|qt<|G _ J<|G _ J<|G _ J<|G _ J<|G _ J<|G _ J<|q2y (r:=min (min a.X a.Y) a.Z) J J (by simp only [q2w];rfl)<|G _ J ?_
 obtain ⟨o,b,c⟩:=q7 c
 refine Qb 10 (fun A st=>∃ d f g h j k l m n,st = A [(20,Q0 o),(19,n),(18,m),(17,l),(16,k),(15,j),(14,h),(13,g),(12,f),(11,d)]) ?_ ?_
 ·refine Q9 J J b (fun b=>?_) (fun b=>?_)
  ·refine G _ J<|G _ J<|G _ J<|G _ J<|G _ J<|G _ J<|Um (r:=max (max a.X a.Y) a.Z) J J (by simp only [Uk];rfl)<|G _ J<|G _ J<|q9 ?_
   obtain rfl:=qd b
   exact ⟨_,_,_,_,_,_,_,_,_,J⟩
  refine qb J<|qb J<|qb J<|qb J<|qb J<|qb J<|qb J<|qb J<|G _ J<|q9 ?_
  obtain rfl:=qd b
  exact ⟨_,_,_,_,_,_,_,_,_,J⟩
 rintro _ ⟨d,f,g,h,j,k,l,m,n,rfl⟩
 refine qa J<|qs ?_
 obtain rfl:=qd c
 exact Q5 _ J
theorem qns (b : qg) (r : Bool) (a : q7y b = some r) : Pure Tryz.prog tab 71 [.agg [q8 b.Lo.X,q8 b.Lo.Y,q8 b.Lo.Z,q8 b.Hi.X,q8 b.Hi.Y,q8 b.Hi.Z]] (.bool r):=by
 unfold q7y at a
 refine Qo Tryz.func71 J qh qh J<|qc<|Qs _ _ J<|qa J<|qt<|G _ J<|G _ J<|G _ J<|G _ J<|G _ J<|G _ J<|G _ J ?_
 obtain ⟨c1,f,a⟩:=q7 a
 refine Qb 9 (fun A st=>∃ h j k l m n o p,st = A [(18,Q0 c1),(17,p),(16,o),(15,n),(14,m),(13,l),(12,k),(11,j),(10,h)]) ?_ ?_
 ·refine Q9 J J f (fun f=>?_) (fun f=>?_)
  ·refine G _ J<|G _ J<|G _ J<|G _ J<|G _ J<|G _ J<|G _ J<|G _ J<|q9 ?_
   obtain rfl:=qd f
   exact ⟨_,_,_,_,_,_,_,_,J⟩
  refine qb J<|qb J<|qb J<|qb J<|qb J<|qb J<|qb J<|G _ J<|q9 ?_
  obtain rfl:=qd f
  exact ⟨_,_,_,_,_,_,_,_,J⟩
 rintro _ ⟨h,j,k,l,m,n,o,p,rfl⟩
 obtain ⟨ai,g,a⟩:=q7 a
 refine Qb 9 (fun A st=>∃ q s t u v w x y,st = A [(27,Q0 ai),(26,y),(25,x),(24,w),(23,v),(22,u),(21,t),(20,s),(19,q)]) ?_ ?_
 ·refine Q9 J J g (fun g=>?_) (fun g=>?_)
  ·refine G _ J<|G _ J<|G _ J<|G _ J<|G _ J<|G _ J<|G _ J<|G _ J<|q9 ?_
   obtain rfl:=qd g
   exact ⟨_,_,_,_,_,_,_,_,J⟩
  refine qb J<|qb J<|qb J<|qb J<|qb J<|qb J<|qb J<|G _ J<|q9 ?_
  obtain rfl:=qd g
  exact ⟨_,_,_,_,_,_,_,_,J⟩
 rintro _ ⟨q,s,t,u,v,w,x,y,rfl⟩
 obtain ⟨aj,c,a⟩:=q7 a
 refine Qb 5 (fun A st=>∃ z aa ab ac,st = A [(32,Q0 aj),(31,ac),(30,ab),(29,aa),(28,z)]) ?_ ?_
 ·refine Q9 J J c (fun c=>?_) (fun c=>?_)
  ·refine G _ J<|G _ J ?_
   obtain ⟨ak,al,c⟩:=q7 c
   refine Q4 (qnq b.Lo ak al) J<|G _ J<|q9 ?_
   obtain rfl:=qd c
   exact ⟨_,_,_,_,J⟩
  refine qb J<|qb J<|qb J<|G _ J<|q9 ?_
  obtain rfl:=qd c
  exact ⟨_,_,_,_,J⟩
 rintro _ ⟨z,aa,ab,ac,rfl⟩
 obtain ⟨am,d,a⟩:=q7 a
 refine Qb 5 (fun A st=>∃ ad ae af ag,st = A [(37,Q0 am),(36,ag),(35,af),(34,ae),(33,ad)]) ?_ ?_
 ·refine Q9 J J d (fun d=>?_) (fun d=>?_)
  ·refine G _ J<|G _ J ?_
   obtain ⟨an,ao,d⟩:=q7 d
   refine Q4 (qnq b.Hi an ao) J<|G _ J<|q9 ?_
   obtain rfl:=qd d
   exact ⟨_,_,_,_,J⟩
  refine qb J<|qb J<|qb J<|G _ J<|q9 ?_
  obtain rfl:=qd d
  exact ⟨_,_,_,_,J⟩
 rintro _ ⟨ad,ae,af,ag,rfl⟩
 refine qa J<|qs ?_
 obtain rfl:=qd a
 exact Q5 _ J
theorem q11l (a : qg) (r : Bool) (b : q3d a = some r) : Pure Tryz.prog tab 70 [.agg [q8 a.Lo.X,q8 a.Lo.Y,q8 a.Lo.Z,q8 a.Hi.X,q8 a.Hi.Y,q8 a.Hi.Z]] (.bool r):=by
 unfold q3d at b
 refine Qo Tryz.func70 J qh qh J<|qc<|Qs _ _ J<|qa J<|qt<|G _ J ?_
 obtain ⟨c,d,b⟩:=q7 b
 refine Q4 (qns a c d) J<|G _ J<|qa J<|qs ?_
 obtain rfl:=qd b
 exact Q5 _ J
theorem qtf (k : Int) (r : Int) (a : q2v k = some r) : Pure Tryz.prog tab 156 [.int .u64 k] (q8 r):=by
 unfold q2v at a
 refine Qo Tryz.func156 J qh qh J<|qc<|qa J<|q9<|qf<|qc<|O J<|G _ J<|q9 ?_
 obtain ⟨l,b,a⟩:=q7 a
 refine Yw (fun c=>c = l) (fun c=>⟨[(0,.d (.int .u64 c.1)),(2,q6 c.2)],[],0⟩) qe ?_ ?_
 ·refine qo J b (fun _ b=>?_) (fun _ b=>?_)
  ·refine qc<|O J<|G _ J<|qa J<|q9<|qw<|qa J<|qv ?_
   obtain rfl:=qd b
   exact ⟨_,J,wkA [] [] []⟩
  refine ql<|Qf ?_
  obtain rfl:=qd b
  exact ⟨_,J,wkA [] [] []⟩
 intro c hb
 subst hb
 refine qf<|qc<|O J<|G _ J<|q9 ?_
 obtain ⟨m,f,a⟩:=q7 a
 refine Yw (fun g=>g = m) (fun g=>⟨[(0,.d (.int .u64 g.1)),(2,q6 g.2)],[],0⟩) qe ?_ ?_
 ·refine qo J f (fun _ f=>?_) (fun _ f=>?_)
  ·refine qc<|O J<|G _ J<|qa J<|q9<|qw<|O J<|G _ J<|qa J<|qv ?_
   obtain rfl:=qd f
   exact ⟨_,J,wkA [] [] []⟩
  refine ql<|Qf ?_
  obtain rfl:=qd f
  exact ⟨_,J,wkA [] [] []⟩
 intro g hb
 subst hb
 refine qf<|qc<|O J<|G _ J<|q9 ?_
 obtain ⟨n,h,a⟩:=q7 a
 refine Yw (fun j=>j = n) (fun j=>⟨[(0,.d (.int .u64 j.1)),(2,q6 j.2)],[],0⟩) qe ?_ ?_
 ·refine qo J h (fun _ h=>?_) (fun _ h=>?_)
  ·refine qc<|O J<|G _ J<|qa J<|q9<|qw<|O J<|G _ J<|qa J<|qv ?_
   obtain rfl:=qd h
   exact ⟨_,J,wkA [] [] []⟩
  refine ql<|Qf ?_
  obtain rfl:=qd h
  exact ⟨_,J,wkA [] [] []⟩
 intro j hb
 subst hb
 refine qc<|O J<|O J<|G _ J ?_
 obtain ⟨p,o,a⟩:=q7 a
 refine qu2 qdn o J J J J J<|G _ J<|G _ J<|qa J<|qs ?_
 obtain rfl:=qd a
 exact Q5 _ J
theorem qft (b : Int) (r : Int) (a : q14 b = some r) : Pure Tryz.prog tab 136 [.int .u64 b] (q8 r):=by
 unfold q14 at a
 refine Qo Tryz.func136 J qh qh J<|qc<|qa J<|q9<|qf<|Zf J<|ql<|qc<|O J ?_
 obtain ⟨c,d,a⟩:=q7 a
 refine Q4 (qtf b c d) J<|qa J<|qs ?_
 obtain rfl:=qd a
 exact Q5 _ J
theorem qit (a : Int) (r : Bool) (b : q8m a = some r) : Pure Tryz.prog tab 170 [q8 a] (.bool r):=by
 unfold q8m at b
 refine Qo Tryz.func170 J qh qh J<|qc<|qa J<|qt<|O J<|O J<|G _ J<|qa J<|qs ?_
 obtain rfl:=qd b
 exact Q5 _ J
theorem J0 (d : Int) (f : Int) (r : Bool) (a : Zc d f = some r) : Pure Tryz.prog tab 152 [q8 d,q8 f] (.bool r):=by
 unfold Zc at a
 refine Qo Tryz.func152 J qh qh J<|qc<|qa J<|qt<|O J ?_
 obtain ⟨p,q,a⟩:=q7 a
 refine Q4 (qit d p q) J ?_
 obtain ⟨s,b,a⟩:=q7 a
 refine Qb 5 (fun A st=>∃ g h j k,st = A [(11,Q0 s),(10,k),(9,j),(8,h),(7,g)]) ?_ ?_
 ·refine Q9 J J b (fun b=>?_) (fun b=>?_)
  ·refine O J ?_
   obtain ⟨t,u,b⟩:=q7 b
   refine Q4 (qit f t u) J<|G _ J<|G _ J<|q9 ?_
   obtain rfl:=qd b
   exact ⟨_,_,_,_,J⟩
  refine qb J<|qb J<|qb J<|G _ J<|q9 ?_
  obtain rfl:=qd b
  exact ⟨_,_,_,_,J⟩
 rintro _ ⟨g,h,j,k,rfl⟩
 obtain ⟨v,c,a⟩:=q7 a
 refine Qb 5 (fun A st=>∃ l m n o,st = A [(16,Q0 v),(15,o),(14,n),(13,m),(12,l)]) ?_ ?_
 ·refine Q9 J J c (fun c=>?_) (fun c=>?_)
  ·refine qb J<|qb J<|qb J<|G _ J<|q9 ?_
   obtain rfl:=qd c
   exact ⟨_,_,_,_,J⟩
  refine O J<|O J<|G _ J<|G _ J<|q9 ?_
  obtain rfl:=qd c
  exact ⟨_,_,_,_,J⟩
 rintro _ ⟨l,m,n,o,rfl⟩
 refine qa J<|qs ?_
 obtain rfl:=qd a
 exact Q5 _ J
theorem qz7 (k : List Int) (c : Int) (h : Int) (r : List Int) (l : q73  k c h = some r) : K8 Tryz.prog tab 146 [.hs 0 1 0 k.length,q6 c,q6 h] [(0,.dat 1 (k.map (eI .i64)))] 1 (.d (.tup [])) [(0,.dat 1 (r.map (eI .i64)))] 1:=by
 unfold q73 at l
 refine Kr Tryz.func146 J qh qh J<|qc<|O J<|G _ J<|qa J<|q9 ?_
 obtain ⟨ai,aj,l⟩:=q7 l
 refine Q3<|Qe (q74 h c) (fun f=>⟨[(0,.hs 0 1 0 f.2.length),(1,q6 c),(2,q6 h),(6,q6 f.1)],[(0,.dat 1 (f.2.map (eI .i64)))],1⟩) (w64 (c + 1),k) ai aj (wkA [] [] []) ?_
 intro f au g
 unfold q74 at g
 refine qf<|qc<|O J<|O J<|G _ J<|q9 ?_
 refine qo J g (fun _ g=>?_) (fun _ g=>?_)
 ·refine ql<|qf ?_
  obtain ⟨ak,n,g⟩:=q7 g
  refine Qk (fun j=>j = ak) (fun j=>⟨[(0,.hs 0 1 0 j.length),(1,q6 c),(2,q6 h),(6,q6 f.1)],[(0,.dat 1 (j.map (eI .i64)))],1⟩) qe ?_ ?_
  ·refine qc<|O J<|qa J<|q9 ?_
   obtain ⟨al,am,n⟩:=q7 n
   refine Q3<|Qe (q75 c) (fun m=>⟨[(0,.hs 0 1 0 m.2.length),(1,q6 c),(2,q6 h),(6,q6 f.1),(7,q6 m.1)],[(0,.dat 1 (m.2.map (eI .i64)))],1⟩) (f.1,f.2) al am (wkA [] [] []) ?_
   intro m av a
   unfold q75 at a
   refine qf<|qf<|Qj [U,U,qu 0,U,U,U,U,qu 0,U,U,U,U,U,U,U] qh<|O J<|O J<|G _ J ?_
   obtain ⟨an,b,a⟩:=q7 a
   refine Qb 12 (fun A st=>∃ o p q s t u v w x y z,st = A [(30,Q0 an),(29,z),(28,y),(27,x),(26,w),(25,v),(24,u),(23,t),(22,s),(21,q),(20,p),(19,o)]) ?_ ?_
   ·refine Q9 J J b (fun b=>?_) (fun b=>?_)
    ·refine O J<|O J ?_
     obtain ⟨ao,aa,b⟩:=q7 b
     refine qz aa J J<|Qd _ aa J<|O J<|O J<|G _ J ?_
     obtain ⟨ap,ab,b⟩:=q7 b
     refine qz ab J J<|Qd _ ab J ?_
     obtain ⟨aq,ar,b⟩:=q7 b
     refine Q4 (J0 ao ap aq ar) J<|G _ J<|q9 ?_
     obtain rfl:=qd b
     exact ⟨_,_,_,_,_,_,_,_,_,_,_,J⟩
    refine qb J<|qb J<|qb J<|qb J<|qb J<|qb J<|qb J<|qb J<|qb J<|qb J<|G _ J<|q9 ?_
    obtain rfl:=qd b
    exact ⟨_,_,_,_,_,_,_,_,_,_,_,J⟩
   rintro _ ⟨o,p,q,s,t,u,v,w,x,y,z,rfl⟩
   refine q9 ?_
   refine qo J a (fun _ a=>?_) (fun _ a=>?_)
   ·refine ql<|qf<|Q3<|Qj [Qv 0,U,Qv 0,U,qu 0,U,U,U,qu 0,U,U,U,U,U,U,U,U,U] qh<|O J<|O J<|O J<|O J<|G _ J<|O J<|O J<|G _ J ?_
    obtain ⟨ac,ad,a⟩:=q7 a
    refine qz ad J J<|Qd _ ad J<|O J<|O J ?_
    obtain ⟨ae,af,a⟩:=q7 a
    refine qz af J J<|Qd _ af J ?_
    obtain ⟨aw,ag,a⟩:=q7 a
    refine qz ag J J<|K5 (ds:=[q8 ac]) ac ag J J J J J J J J (leb J) J ?_
    obtain ⟨ax,ah,a⟩:=q7 a
    refine qz ah qe J<|K5 (ds:=[q8 ae]) ae ah J J J J J J J J (leb J) J<|qv<|Qn<|qw<|O J<|G _ J<|qa J<|qv ?_
    exact ⟨_,qm a,wkE [] [] [] J ⟨⟨_,J,K6 qe J qx (ltd J)⟩,qr J,qr J,qr J,qr J,trivial⟩ ⟨Qt J J,trivial⟩⟩
   refine Q8 ?_
   refine ⟨_,qm a,fun hm=>?_⟩
   subst hm
   obtain rfl:=qd n
   exact ⟨_,J,wkA [] [] []⟩
  intro j hb
  subst hb
  refine qw<|O J<|G _ J<|qa J<|qv ?_
  exact ⟨_,qm g,wkA [] [] []⟩
 refine Q8 ?_
 refine ⟨_,qm g,fun hm=>?_⟩
 subst hm
 obtain rfl:=qd l
 exact ⟨.inl J,_,J,wkA [] [] []⟩
theorem qnh (k : List Int) (m : Int) (f : Int) (g : Int) (r : List Int) (h : q4s  k m f g = some r) : K8 Tryz.prog tab 165 [.hs 0 1 0 k.length,q6 m,q6 f,q6 g] [(0,.dat 1 (k.map (eI .i64)))] 1 (.d (.tup [])) [(0,.dat 1 (r.map (eI .i64)))] 1:=by
 unfold q4s at h
 refine Kr Tryz.func165 J qh qh J<|qc<|O J<|qa J<|q9 ?_
 obtain ⟨an,ao,h⟩:=q7 h
 refine Q3<|Qe (q7r f g) (fun c=>⟨[(0,.hs 0 1 0 c.2.length),(2,q6 f),(3,q6 g),(8,q6 c.1)],[(0,.dat 1 (c.2.map (eI .i64)))],1⟩) (m,k) an ao (wkA [] [] []) ?_
 intro c bb a
 unfold q7r at a
 refine Q3<|qc<|O J<|G _ J<|G _ J<|qa J<|q9<|qf<|qc<|O J<|O J<|G _ J<|q9 ?_
 refine qo J a (fun _ a=>?_) (fun _ a=>?_)
 ·refine Q8 ?_
  refine ⟨_,qm a,fun hm=>?_⟩
  subst hm
  obtain rfl:=qd h
  exact ⟨.inl J,_,J,wkA [] [] []⟩
 refine ql<|qf<|qf<|Qj [U,U,qu 0,U,U,U,U,U,U,qu 0,U,U,U,U,U,U,U,U,U,U] qh<|O J<|G _ J<|O J<|G _ J ?_
 obtain ⟨ap,b,a⟩:=q7 a
 refine Qb 16 (fun A st=>∃ n o p q s t u v w x y z aa ab ac,st = A [(36,Q0 ap),(35,ac),(34,ab),(33,aa),(32,z),(31,y),(30,x),(29,w),(28,v),(27,u),(26,t),(25,s),(24,q),(23,p),(22,o),(21,n)]) ?_ ?_
 ·refine Q9 J J b (fun b=>?_) (fun b=>?_)
  ·refine O J<|O J<|O J<|G _ J ?_
   obtain ⟨aq,ad,b⟩:=q7 b
   refine qz ad J J<|Qd _ ad J<|O J<|O J<|O J<|G _ J<|G _ J ?_
   obtain ⟨ar,ae,b⟩:=q7 b
   refine qz ae J J<|Qd _ ae J ?_
   obtain ⟨au,av,b⟩:=q7 b
   refine Q4 (J0 aq ar au av) J<|G _ J<|q9 ?_
   obtain rfl:=qd b
   exact ⟨_,_,_,_,_,_,_,_,_,_,_,_,_,_,_,J⟩
  refine qb J<|qb J<|qb J<|qb J<|qb J<|qb J<|qb J<|qb J<|qb J<|qb J<|qb J<|qb J<|qb J<|qb J<|G _ J<|q9 ?_
  obtain rfl:=qd b
  exact ⟨_,_,_,_,_,_,_,_,_,_,_,_,_,_,_,J⟩
 rintro _ ⟨n,o,p,q,s,t,u,v,w,x,y,z,aa,ab,ac,rfl⟩
 refine q9 ?_
 obtain ⟨aw,j,a⟩:=q7 a
 refine Yw (fun l=>l = aw) (fun l=>⟨[(0,.hs 0 1 0 c.2.length),(2,q6 f),(3,q6 g),(8,q6 c.1),(9,q6 l)],[(0,.dat 1 (c.2.map (eI .i64)))],1⟩) qe ?_ ?_
 ·refine qo J j (fun _ j=>?_) (fun _ j=>?_)
  ·refine qw<|O J<|G _ J<|qa J<|qv ?_
   obtain rfl:=qd j
   exact ⟨_,J,wkA [] [] []⟩
  refine ql<|Qf ?_
  obtain rfl:=qd j
  exact ⟨_,J,wkA [] [] []⟩
 intro l hb
 subst hb
 refine qf<|qf<|Qj [U,U,qu 0,U,U,U,U,U,qu 0,U,U,U,U,U] qh<|O J<|O J<|O J<|G _ J ?_
 obtain ⟨ax,af,a⟩:=q7 a
 refine qz af J J<|Qd _ af J<|O J<|O J<|O J<|G _ J ?_
 obtain ⟨ay,ag,a⟩:=q7 a
 refine qz ag J J<|Qd _ ag J ?_
 obtain ⟨az,ba,a⟩:=q7 a
 refine Q4 (J0 ax ay az ba) J<|G _ J<|q9 ?_
 refine qo J a (fun _ a=>?_) (fun _ a=>?_)
 ·refine q15 ?_
  refine ⟨_,qm a,fun hm=>?_⟩
  subst hm
  obtain rfl:=qd h
  exact ⟨.inr J,_,J,wkA [] [] []⟩
 refine ql<|qf<|Qj [Qv 0,U,Qv 0,U,qu 0,U,U,U,U,U,qu 0,U,U,U,U,U,U,U,U,U,U,U,U,U] qh<|O J<|O J<|O J<|G _ J<|O J<|O J<|O J<|G _ J<|O J<|O J<|O J<|G _ J ?_
 obtain ⟨ah,ai,a⟩:=q7 a
 refine qz ai J J<|Qd _ ai J<|O J<|O J<|O J<|G _ J ?_
 obtain ⟨aj,ak,a⟩:=q7 a
 refine qz ak J J<|Qd _ ak J ?_
 obtain ⟨bc,al,a⟩:=q7 a
 refine qz al J J<|K5 (ds:=[q8 ah]) ah al J J J J J J J J (leb J) J ?_
 obtain ⟨bd,am,a⟩:=q7 a
 refine qz am qe J<|K5 (ds:=[q8 aj]) aj am J J J J J J J J (leb J) J<|q9<|qw<|O J<|qa J<|qv<|Qn<|Qf ?_
 exact ⟨_,qm a,wkE [] [] [] J ⟨⟨_,J,K6 qe J qx (ltd J)⟩,qr J,qr J,qr J,trivial⟩ ⟨Qt J J,trivial⟩⟩
theorem qz5 (l : List Int) (b : Int) (g : Int) (r : List Int) (h : q70  l b g = some r) : K8 Tryz.prog tab 147 [.hs 0 1 0 l.length,q6 b,q6 g] [(0,.dat 1 (l.map (eI .i64)))] 1 (.d (.tup [])) [(0,.dat 1 (r.map (eI .i64)))] 1:=by
 unfold q70 at h
 refine Kr Tryz.func147 J qh qh J<|qc<|O J<|qa J<|qt<|qa J<|qt<|O J<|O J<|G _ J<|qa J<|q9<|qf<|qc<|O J<|G _ J<|G _ J<|qa J<|q9 ?_
 obtain ⟨p,w,h⟩:=q7 h
 refine Qk (fun j=>j = p) (fun j=>⟨[(0,.hs 0 1 0 j.length),(6,q6 b),(7,q6 0),(8,.d (q8 (w64 (g - b))))],[(0,.dat 1 (j.map (eI .i64)))],1⟩) qe ?_ ?_
 ·refine Qe (q71 g b) (fun k=>⟨[(0,.hs 0 1 0 k.2.length),(6,q6 b),(7,q6 0),(8,.d (q8 (w64 (g - b)))),(9,q6 k.1)],[(0,.dat 1 (k.2.map (eI .i64)))],1⟩) (w64 (Int.tdiv (w64 ((w64 (g - b)) - 1)) 2),l) p w (wkA [] [] []) ?_
  intro k af c
  unfold q71 at c
  refine qf<|qc<|O J<|G _ J<|q9 ?_
  refine qo J c (fun _ c=>?_) (fun _ c=>?_)
  ·refine ql<|qf<|Q3<|qw<|O J<|O J<|O J<|O J ?_
   obtain ⟨q,x,c⟩:=q7 c
   obtain ⟨ag,y,c⟩:=q7 c
   have z:=Kn y
   refine K9 [(0,0)] [(0,0)] _ (.d (.tup [])) 1 [(0,.dat 1 (q.map (eI .i64)))] 1 (qnh k.2 k.1 (w64 (g - b)) b q x)<|qv<|Qn<|qw<|O J<|G _ J<|qa J<|qv ?_
   exact ⟨_,qm c,wkE [] [] [] J ⟨⟨_,J,K6 (by simp [z]) J qx (ltd J)⟩,qr J,qr J,qr J,qr J,trivial⟩ ⟨Qt J J,trivial⟩⟩
  refine Q8 ?_
  refine ⟨_,qm c,fun hm=>?_⟩
  subst hm
  exact ⟨_,J,wkA [] [] []⟩
 intro j hb
 subst hb
 refine qc<|O J<|G _ J<|qa J<|q9 ?_
 obtain ⟨aa,ab,h⟩:=q7 h
 refine Q3<|Qe (q72 b) (fun f=>⟨[(0,.hs 0 1 0 f.2.length),(6,q6 b),(7,q6 0),(10,q6 f.1)],[(0,.dat 1 (f.2.map (eI .i64)))],1⟩) (w64 ((w64 (g - b)) - 1),j) aa ab (wkA [] [] []) ?_
 intro f ah a
 unfold q72 at a
 refine qf<|qc<|O J<|G _ J<|q9 ?_
 refine qo J a (fun _ a=>?_) (fun _ a=>?_)
 ·refine ql<|qf<|Q3<|qf<|Qj [Qv 0,U,Qv 0,U,qu 0,U,U,U,qu 0,U,U,U,U,U,U,U,U,U,U,U] qh<|O J<|O J<|O J<|O J<|O J<|G _ J<|O J<|O J<|O J<|G _ J ?_
  obtain ⟨m,s,a⟩:=q7 a
  refine qz s J J<|Qd _ s J<|O J<|O J ?_
  obtain ⟨n,t,a⟩:=q7 a
  refine qz t J J<|Qd _ t J ?_
  obtain ⟨ai,u,a⟩:=q7 a
  refine qz u J J<|K5 (ds:=[q8 m]) m u J J J J J J J J (leb J) J ?_
  obtain ⟨aj,v,a⟩:=q7 a
  refine qz v qe J<|K5 (ds:=[q8 n]) n v J J J J J J J J (leb J) J<|q9<|qw<|O J<|O J<|O J<|O J ?_
  obtain ⟨o,ac,a⟩:=q7 a
  obtain ⟨ak,ad,a⟩:=q7 a
  have ae:=Kn ad
  refine U1 [(0,0)] [(0,0)] [.hs 0 1 0 f.2.length,q6 0,q6 f.1,q6 b] (.d (.tup [])) [(0,.dat 1 (o.map (eI .i64)))] [(0,.dat 1 (o.map (eI .i64)))] 1 (qnh ((f.2.set b.toNat m).set (w64 (b + f.1)).toNat n) 0 f.1 b o ac) J J J (Ym [(0,0)] [] [] J ⟨⟨_,J,K6 qe J qx (ltd J)⟩,qr J,qr J,qr J,trivial⟩ ⟨Qt J J,trivial⟩) (Ym [(0,0)] [] [] J ⟨qr J,trivial⟩ ⟨Qt J J,trivial⟩) J ⟨.inl J,trivial⟩<|qv<|Qn<|qw<|O J<|G _ J<|qa J<|qv ?_
  exact ⟨_,qm a,wkE [] [] [] J ⟨⟨_,J,K6 (by simp [ae]) J qx (ltd J)⟩,qr J,qr J,qr J,trivial⟩ ⟨Qt J J,trivial⟩⟩
 refine Q8 ?_
 refine ⟨_,qm a,fun hm=>?_⟩
 subst hm
 obtain rfl:=qd h
 exact ⟨.inl J,_,J,wkA [] [] []⟩
theorem qgz (b : List Int) (c : Int) (f : Int) (g : Int) (r : Int × Int × Int) (a : q3c  b c f g = some r) : K8 Tryz.prog tab 174 [.d (.sl 1 (b.map (eI .i64))),q6 c,q6 f,.ref 0 1 0 0] [(0,.dat 1 [[q8 g]])] 1 (.d (.tup [q8 r.1,q8 r.2.1])) [(0,.dat 1 [[q8 r.2.2]])] 1:=by
 unfold q3c at a
 refine Kr Tryz.func174 J qh qh J<|qc<|qa J<|qa J<|q9<|qf<|qf<|Qj [U,U,U,U,U,U,U,U,U] qh<|O J<|O J ?_
 obtain ⟨h,j,a⟩:=q7 a
 refine Qc j J<|G _ J<|O J<|O J ?_
 obtain ⟨k,l,a⟩:=q7 a
 refine Qc l J<|G _ J ?_
 obtain ⟨m,n,a⟩:=q7 a
 refine Q4 (J0 h k m n) J<|q9 ?_
 refine qo J a (fun _ a=>?_) (fun _ a=>?_)
 ·refine qc<|O J<|G _ J<|G _ J<|G _ J<|G _ J<|Ql 0 _ J<|qt<|O J<|O J<|qa J<|qa J<|qs ?_
  obtain rfl:=qd a
  exact ⟨.inr J,_,J,wkA [] [] []⟩
 refine ql<|qc<|O J<|O J<|qa J<|qa J<|qs ?_
 obtain rfl:=qd a
 exact ⟨.inr J,_,J,wkA [] [] []⟩
theorem qne (f : List Int) (h : Int) (j : Int) (k : Int) (l : Int) (r : Int × Int) (a : q4m  f h j k l = some r) : K8 Tryz.prog tab 169 [.d (.sl 1 (f.map (eI .i64))),q6 h,q6 j,q6 k,.ref 0 1 0 0] [(0,.dat 1 [[q8 l]])] 1 (q6 r.1) [(0,.dat 1 [[q8 r.2]])] 1:=by
 unfold q4m at a
 refine Kr Tryz.func169 J qh qh J<|qc<|qa J<|qt<|O J<|O J<|O J<|O J ?_
 obtain ⟨b,m,a⟩:=q7 a
 refine K9 [(0,0)] [(0,0)] _ (.d (.tup [q8 b.1,q8 b.2.1])) 1 [(0,.dat 1 [[q8 b.2.2]])] 1 (qgz f h j l b m)<|O J<|G _ J<|G _ J<|qa J<|qa J<|qt<|O J<|O J<|O J<|O J ?_
 obtain ⟨c,n,a⟩:=q7 a
 refine K9 [(0,0)] [(0,0)] _ (.d (.tup [q8 c.1,q8 c.2.1])) 1 [(0,.dat 1 [[q8 c.2.2]])] 1 (qgz f b.2.1 k b.2.2 c n)<|O J<|G _ J<|G _ J<|qa J<|qa J<|qt<|O J<|O J<|O J<|O J ?_
 obtain ⟨g,o,a⟩:=q7 a
 refine K9 [(0,0)] [(0,0)] _ (.d (.tup [q8 g.1,q8 g.2.1])) 1 [(0,.dat 1 [[q8 g.2.2]])] 1 (qgz f b.1 c.1 c.2.2 g o)<|O J<|G _ J<|G _ J<|qa J<|qa J<|qt<|O J<|qa J<|qs ?_
 obtain rfl:=qd a
 exact ⟨.inr J,_,J,wkA [] [] []⟩
theorem qgx (c : List Int) (a : Int) (f : Int) (r : Int × Int) (b : q3b  c a f = some r) : K8 Tryz.prog tab 168 [.d (.sl 1 (c.map (eI .i64))),q6 a,.ref 0 1 0 0] [(0,.dat 1 [[q8 f]])] 1 (q6 r.1) [(0,.dat 1 [[q8 r.2]])] 1:=by
 unfold q3b at b
 refine Kr Tryz.func168 J qh qh J<|qc<|qa J<|qt<|O J<|O J<|G _ J<|O J<|O J<|G _ J<|O J ?_
 obtain ⟨g,h,b⟩:=q7 b
 refine K9 [(0,0)] [(0,0)] _ (q6 g.1) 1 [(0,.dat 1 [[q8 g.2]])] 1 (qne c (w64 (a - 1)) a (w64 (a + 1)) f g h)<|qa J<|qs ?_
 obtain rfl:=qd b
 exact ⟨.inr J,_,J,wkA [] [] []⟩
theorem qz3 (h : List Int) (g : Int) (j : Int) (r : Int × Int) (a : q6z h g j = some r) : Pure Tryz.prog tab 149 [.sl 1 (h.map (eI .i64)),q8 g,q8 j] (.tup [q8 r.1,q8 r.2]):=by
 unfold q6z at a
 refine Qo Tryz.func149 J qh qh J<|qc<|qa J<|qa J<|qt<|O J<|O J<|G _ J<|qa J<|qt<|K4 J J<|qt<|O J<|O J<|G _ J<|G _ J<|G _ J<|qa J<|qt<|O J<|O J<|G _ J<|G _ J<|G _ J<|qa J<|qt<|O J<|O J<|G _ J<|G _ J<|G _ J<|qa J<|q9<|qf<|qc<|O J<|G _ J<|q9 ?_
 obtain ⟨p,f,a⟩:=q7 a
 refine Yw (fun k=>k = p) (fun k=>⟨[(9,.ref 0 1 0 0),(11,q6 k.1)],[(0,.dat 1 [[q8 k.2]])],1⟩) qe ?_ ?_
 ·refine qo J f (fun _ f=>?_) (fun _ f=>?_)
  ·refine qf<|qc<|O J<|G _ J<|q9 ?_
   obtain ⟨q,b,f⟩:=q7 f
   refine Yw (fun c=>c = q) (fun c=>⟨[(0,.d (.sl 1 (h.map (eI .i64)))),(9,.ref 0 1 0 0),(10,q6 c.1),(11,q6 c.2.1),(12,q6 c.2.2.1)],[(0,.dat 1 [[q8 c.2.2.2]])],1⟩) qe ?_ ?_
   ·refine qo J b (fun _ b=>?_) (fun _ b=>?_)
    ·refine qc<|O J<|O J ?_
     obtain ⟨l,s,b⟩:=q7 b
     refine K9 [(0,0)] [(0,0)] _ (q6 l.1) 1 [(0,.dat 1 [[q8 l.2]])] 1 (qgx h (w64 (g + (w64 ((w64 (Int.tdiv (w64 (j - g)) 4)) * 1)))) 0 l s)<|qa J<|qt<|O J<|O J ?_
     obtain ⟨m,t,b⟩:=q7 b
     refine K9 [(0,0)] [(0,0)] _ (q6 m.1) 1 [(0,.dat 1 [[q8 m.2]])] 1 (qgx h (w64 (g + (w64 ((w64 (Int.tdiv (w64 (j - g)) 4)) * 2)))) l.2 m t)<|qa J<|q9<|qw<|O J<|O J ?_
     obtain ⟨n,u,b⟩:=q7 b
     refine K9 [(0,0)] [(0,0)] _ (q6 n.1) 1 [(0,.dat 1 [[q8 n.2]])] 1 (qgx h (w64 (g + (w64 ((w64 (Int.tdiv (w64 (j - g)) 4)) * 3)))) m.2 n u)<|qa J<|qv ?_
     obtain rfl:=qd b
     exact ⟨_,J,wkA [(0,0)] [] []⟩
    refine ql<|Qf ?_
    obtain rfl:=qd b
    exact ⟨_,J,wkA [(0,0)] [] []⟩
   intro c hb
   subst hb
   refine qw<|O J<|O J<|O J<|O J ?_
   obtain ⟨o,v,f⟩:=q7 f
   refine K9 [(0,0)] [(0,0)] _ (q6 o.1) 1 [(0,.dat 1 [[q8 o.2]])] 1 (qne h c.1 c.2.1 c.2.2.1 c.2.2.2 o v)<|qa J<|qv ?_
   obtain rfl:=qd f
   exact ⟨_,J,wkA [(0,0)] [] []⟩
  refine ql<|Qf ?_
  obtain rfl:=qd f
  exact ⟨_,J,wkA [(0,0)] [] []⟩
 intro k hb
 subst hb
 refine qc<|G _ J<|q9<|Q3<|qc<|G _ J<|qa J<|q9 ?_
 refine qo J a (fun _ a=>?_) (fun _ a=>?_)
 ·refine qc<|O J<|qa J<|qa J<|qs ?_
  obtain rfl:=qd a
  exact Q5 _ J
 refine qc<|G _ J<|qa J<|q9 ?_
 refine qo J a (fun _ a=>?_) (fun _ a=>?_)
 ·refine qc<|O J<|qa J<|qa J<|qs ?_
  obtain rfl:=qd a
  exact Q5 _ J
 refine qc<|O J<|qa J<|qa J<|qs ?_
 obtain rfl:=qd a
 exact Q5 _ J
theorem qzj (c : List Int) (g : Int) (h : Int) (r : List Int) (f : q7p  c g h = some r) : K8 Tryz.prog tab 150 [.hs 0 1 0 c.length,q6 g,q6 h] [(0,.dat 1 (c.map (eI .i64)))] 1 (.d (.tup [])) [(0,.dat 1 (r.map (eI .i64)))] 1:=by
 unfold q7p at f
 refine Kr Tryz.func150 J qh qh J<|qc<|O J<|qa J<|qt<|O J<|G _ J<|qa J<|q9 ?_
 obtain ⟨p,q,f⟩:=q7 f
 refine Q3<|Qe (qam) (fun b=>⟨[(0,.hs 0 1 0 b.2.2.length),(6,q6 b.1),(7,q6 b.2.1)],[(0,.dat 1 (b.2.2.map (eI .i64)))],1⟩) (g,w64 (h - 1),c) p q (wkA [] [] []) ?_
 intro b s a
 unfold qam at a
 refine qf<|qc<|O J<|O J<|G _ J<|q9 ?_
 refine qo J a (fun _ a=>?_) (fun _ a=>?_)
 ·refine ql<|Q3<|qf<|Qj [Qv 0,U,Qv 0,U,qu 0,U,U,U,qu 0,U,U,U,U,U,U,U] qh<|O J<|O J<|O J<|O J<|O J<|O J ?_
  obtain ⟨j,k,a⟩:=q7 a
  refine qz k J J<|Qd _ k J<|O J<|O J ?_
  obtain ⟨l,m,a⟩:=q7 a
  refine qz m J J<|Qd _ m J ?_
  obtain ⟨t,n,a⟩:=q7 a
  refine qz n J J<|K5 (ds:=[q8 j]) j n J J J J J J J J (leb J) J ?_
  obtain ⟨u,o,a⟩:=q7 a
  refine qz o qe J<|K5 (ds:=[q8 l]) l o J J J J J J J J (leb J) J<|qt<|O J<|G _ J<|qa J<|q9<|qw<|O J<|G _ J<|qa J<|qv<|Qn<|Qf ?_
  exact ⟨_,qm a,wkE [] [] [] J ⟨⟨_,J,K6 qe J qx (ltd J)⟩,qr J,qr J,trivial⟩ ⟨Qt J J,trivial⟩⟩
 refine Q8 ?_
 refine ⟨_,qm a,fun hm=>?_⟩
 subst hm
 obtain rfl:=qd f
 exact ⟨.inl J,_,J,wkA [] [] []⟩
theorem qz9 (q : List Int) (h : Int) (f : Int) (r : Bool × List Int) (n : q4o  q h f = some r) : K8 Tryz.prog tab 151 [.hs 0 1 0 q.length,q6 h,q6 f] [(0,.dat 1 (q.map (eI .i64)))] 1 (Q0 r.1) [(0,.dat 1 (r.2.map (eI .i64)))] 1:=by
 unfold q4o at n
 refine Kr Tryz.func151 J qh qh J<|qc<|qa J<|qt<|O J<|G _ J<|qa J<|q9<|qf<|qc<|qa J<|q9 ?_
 obtain ⟨z,bk,n⟩:=q7 n
 refine Qk (fun s=>.inl s = z) (fun s=>⟨[],[(0,.dat 1 (s.map (eI .i64)))],1⟩) qe ?_ ?_
 ·refine Qe (q4p f h) (fun d=>⟨[(0,.hs 0 1 0 d.2.2.length),(1,q6 h),(2,q6 f),(7,q6 d.1),(8,q6 d.2.1)],[(0,.dat 1 (d.2.2.map (eI .i64)))],1⟩) (w64 (h + 1),0,q) z bk (wkA [] [] []) ?_
  intro d ch k
  unfold q4p at k
  refine qf<|qc<|O J<|G _ J<|q9 ?_
  refine qo J k (fun _ k=>?_) (fun _ k=>?_)
  ·refine ql<|qf ?_
   obtain ⟨bl,a,k⟩:=q7 k
   refine Qk (fun o=>.inl o = bl) (fun o=>⟨[(0,.hs 0 1 0 o.2.length),(1,q6 h),(2,q6 f),(7,q6 o.1),(8,q6 d.2.1)],[(0,.dat 1 (o.2.map (eI .i64)))],1⟩) qe ?_ ?_
   ·refine qf ?_
    obtain ⟨aa,bm,a⟩:=q7 a
    refine Qk (fun g=>g = aa) (fun g=>⟨[(0,.hs 0 1 0 d.2.2.length),(1,q6 h),(2,q6 f),(7,q6 g),(8,q6 d.2.1)],[(0,.dat 1 (d.2.2.map (eI .i64)))],1⟩) qe ?_ ?_
    ·refine Qe (q79 f d) (fun ab=>⟨[(0,.hs 0 1 0 d.2.2.length),(1,q6 h),(2,q6 f),(7,q6 ab),(8,q6 d.2.1)],[(0,.dat 1 (d.2.2.map (eI .i64)))],1⟩) d.1 aa bm (wkA [] [] []) ?_
     intro ab ci l
     unfold q79 at l
     refine qf<|qf<|Qj [U,U,U,qu 0,U,U,U,U,qu 0,U,U,U,U,U,U,U] qh<|O J<|O J<|G _ J ?_
     obtain ⟨bn,j,l⟩:=q7 l
     refine Qb 13 (fun A st=>∃ ac ad ae af ag ah ai aj ak al am an,st = A [(32,Q0 bn),(31,an),(30,am),(29,al),(28,ak),(27,aj),(26,ai),(25,ah),(24,ag),(23,af),(22,ae),(21,ad),(20,ac)]) ?_ ?_
     ·refine Q9 J J j (fun j=>?_) (fun j=>?_)
      ·refine O J<|O J ?_
       obtain ⟨bo,ao,j⟩:=q7 j
       refine qz ao J J<|Qd _ ao J<|O J<|O J<|G _ J ?_
       obtain ⟨bp,ap,j⟩:=q7 j
       refine qz ap J J<|Qd _ ap J ?_
       obtain ⟨bq,br,j⟩:=q7 j
       refine Q4 (J0 bo bp bq br) J<|G _ J<|G _ J<|q9 ?_
       obtain rfl:=qd j
       exact ⟨_,_,_,_,_,_,_,_,_,_,_,_,J⟩
      refine qb J<|qb J<|qb J<|qb J<|qb J<|qb J<|qb J<|qb J<|qb J<|qb J<|qb J<|G _ J<|q9 ?_
      obtain rfl:=qd j
      exact ⟨_,_,_,_,_,_,_,_,_,_,_,_,J⟩
     rintro _ ⟨ac,ad,ae,af,ag,ah,ai,aj,ak,al,am,an,rfl⟩
     refine q9 ?_
     refine qo J l (fun _ l=>?_) (fun _ l=>?_)
     ·refine ql<|Q3<|qw<|O J<|G _ J<|qa J<|qv<|Qn<|Qf ?_
      exact ⟨_,qm l,wkA [] [] []⟩
     refine Q8 ?_
     refine ⟨_,qm l,fun hm=>?_⟩
     subst hm
     exact ⟨_,J,wkA [] [] []⟩
    intro g hb
    subst hb
    refine qf<|qc<|O J<|O J<|G _ J<|q9 ?_
    refine qo J a (fun _ a=>?_) (fun _ a=>?_)
    ·refine qc<|qa J<|qs ?_
     obtain rfl:=qd a
     refine ⟨_,qm k,fun hm=>?_⟩
     subst hm
     obtain rfl:=qd n
     exact ⟨.inr J,_,J,wkA [] [] []⟩
    refine ql<|qf<|qc<|O J<|O J<|G _ J<|G _ J<|q9 ?_
    refine qo J a (fun _ a=>?_) (fun _ a=>?_)
    ·refine qc<|qa J<|qs ?_
     obtain rfl:=qd a
     refine ⟨_,qm k,fun hm=>?_⟩
     subst hm
     obtain rfl:=qd n
     exact ⟨.inr J,_,J,wkA [] [] []⟩
    refine ql<|qf<|Qj [Qv 0,U,Qv 0,U,qu 0,U,U,U,qu 0,U,U,U,U,U,U,U,U,U] qh<|O J<|O J<|O J<|O J<|G _ J<|O J<|O J<|G _ J ?_
    obtain ⟨v,aq,a⟩:=q7 a
    refine qz aq J J<|Qd _ aq J<|O J<|O J ?_
    obtain ⟨w,ar,a⟩:=q7 a
    refine qz ar J J<|Qd _ ar J ?_
    obtain ⟨cj,au,a⟩:=q7 a
    refine qz au J J<|K5 (ds:=[q8 v]) v au J J J J J J J J (leb J) J ?_
    obtain ⟨ck,av,a⟩:=q7 a
    refine qz av qe J<|K5 (ds:=[q8 w]) w av J J J J J J J J (leb J) J<|q9<|qf<|qc<|O J<|O J<|G _ J<|G _ J<|q9 ?_
    obtain ⟨bs,m,a⟩:=q7 a
    refine Yw (fun p=>p = bs) (fun p=>⟨[(0,.hs 0 1 0 p.length),(1,q6 h),(2,q6 f),(7,q6 g),(8,q6 d.2.1)],[(0,.dat 1 (p.map (eI .i64)))],1⟩) qe ?_ ?_
    ·refine qo J m (fun _ m=>?_) (fun _ m=>?_)
     ·refine qc<|O J<|G _ J<|qa J<|q9 ?_
      obtain ⟨bt,bu,m⟩:=q7 m
      refine Q3<|Qe (qa9) (fun t=>⟨[(0,.hs 0 1 0 t.2.length),(1,q6 h),(2,q6 f),(7,q6 g),(8,q6 d.2.1),(9,q6 t.1)],[(0,.dat 1 (t.2.map (eI .i64)))],1⟩) (w64 (g - 1),(d.2.2.set g.toNat v).set (w64 (g - 1)).toNat w) bt bu (wkE [] [] [] J ⟨⟨_,J,K6 qe J qx (ltd J)⟩,qr J,qr J,qr J,qr J,qr J,trivial⟩ ⟨Qt J J,trivial⟩) ?_
      intro t cm b
      unfold qa9 at b
      refine qf<|qc<|O J<|G _ J<|q9 ?_
      refine qo J b (fun _ b=>?_) (fun _ b=>?_)
      ·refine ql<|qf<|Q3<|qf<|qf<|Qj [U,U,qu 0,U,U,U,U,qu 0,U,U,U] qh<|O J<|O J ?_
       obtain ⟨bv,aw,b⟩:=q7 b
       refine qz aw J J<|Qd _ aw J<|O J<|O J<|G _ J ?_
       obtain ⟨bw,ax,b⟩:=q7 b
       refine qz ax J J<|Qd _ ax J ?_
       obtain ⟨bz,ca,b⟩:=q7 b
       refine Q4 (J0 bv bw bz ca) J<|G _ J<|q9 ?_
       refine qo J b (fun _ b=>?_) (fun _ b=>?_)
       ·refine Q8 ?_
        refine ⟨_,qm b,fun hm=>?_⟩
        subst hm
        obtain rfl:=qd m
        exact ⟨_,J,wkA [] [] []⟩
       refine ql<|Qj [Qv 0,U,Qv 0,U,qu 0,U,U,U,qu 0,U,U,U,U,U,U,U,U,U] qh<|O J<|O J<|O J<|O J<|G _ J<|O J<|O J<|G _ J ?_
       obtain ⟨ay,az,b⟩:=q7 b
       refine qz az J J<|Qd _ az J<|O J<|O J ?_
       obtain ⟨x,ba,b⟩:=q7 b
       refine qz ba J J<|Qd (q6 x) ba J ?_
       obtain ⟨cn,bb,b⟩:=q7 b
       refine qz bb J J<|K5 (ds:=[q8 ay]) ay bb J J J J J J J J (leb J) J ?_
       obtain ⟨co,bc,b⟩:=q7 b
       refine qz bc qe J<|K5 (ds:=[q8 x]) x bc J J J J J J J J (leb J) J<|qv<|Qn<|qw<|O J<|G _ J<|qa J<|qv ?_
       exact ⟨_,qm b,wkE [] [] [] J ⟨⟨_,J,K6 qe J qx (ltd J)⟩,qr J,qr J,qr J,qr J,qr J,trivial⟩ ⟨Qt J J,trivial⟩⟩
      refine Q8 ?_
      refine ⟨_,qm b,fun hm=>?_⟩
      subst hm
      obtain rfl:=qd m
      exact ⟨_,J,wkA [] [] []⟩
     refine ql<|Qf ?_
     obtain rfl:=qd m
     exact ⟨_,J,wkE [] [] [] J ⟨⟨_,J,K6 qe J qx (ltd J)⟩,qr J,qr J,qr J,qr J,trivial⟩ ⟨Qt J J,trivial⟩⟩
    intro p hb
    subst hb
    refine qc<|O J<|O J<|G _ J<|G _ J<|q9 ?_
    refine qo J a (fun _ a=>?_) (fun _ a=>?_)
    ·refine qc<|O J<|G _ J<|qa J<|q9 ?_
     obtain ⟨cb,cc,a⟩:=q7 a
     refine Q3<|Qe (q7a f g) (fun u=>⟨[(0,.hs 0 1 0 u.2.length),(1,q6 h),(2,q6 f),(7,q6 g),(8,q6 d.2.1),(10,q6 u.1)],[(0,.dat 1 (u.2.map (eI .i64)))],1⟩) (w64 (g + 1),p) cb cc (wkA [] [] []) ?_
     intro u cp c
     unfold q7a at c
     refine qf<|qc<|O J<|O J<|G _ J<|q9 ?_
     refine qo J c (fun _ c=>?_) (fun _ c=>?_)
     ·refine ql<|qf<|Q3<|qf<|qf<|Qj [U,U,qu 0,U,U,U,U,qu 0,U,U,U] qh<|O J<|O J ?_
      obtain ⟨cd,bd,c⟩:=q7 c
      refine qz bd J J<|Qd _ bd J<|O J<|O J<|G _ J ?_
      obtain ⟨ce,be,c⟩:=q7 c
      refine qz be J J<|Qd _ be J ?_
      obtain ⟨cf,cg,c⟩:=q7 c
      refine Q4 (J0 cd ce cf cg) J<|G _ J<|q9 ?_
      refine qo J c (fun _ c=>?_) (fun _ c=>?_)
      ·refine Q8 ?_
       refine ⟨_,qm c,fun hm=>?_⟩
       subst hm
       obtain rfl:=qd a
       exact ⟨_,J,wkA [] [] []⟩
      refine ql<|Qj [Qv 0,U,Qv 0,U,qu 0,U,U,U,qu 0,U,U,U,U,U,U,U,U,U] qh<|O J<|O J<|O J<|O J<|G _ J<|O J<|O J<|G _ J ?_
      obtain ⟨bf,bg,c⟩:=q7 c
      refine qz bg J J<|Qd _ bg J<|O J<|O J ?_
      obtain ⟨y,bh,c⟩:=q7 c
      refine qz bh J J<|Qd (q6 y) bh J ?_
      obtain ⟨cq,bi,c⟩:=q7 c
      refine qz bi J J<|K5 (ds:=[q8 bf]) bf bi J J J J J J J J (leb J) J ?_
      obtain ⟨cr,bj,c⟩:=q7 c
      refine qz bj qe J<|K5 (ds:=[q8 y]) y bj J J J J J J J J (leb J) J<|qv<|Qn<|qw<|O J<|G _ J<|qa J<|qv ?_
      exact ⟨_,qm c,wkE [] [] [] J ⟨⟨_,J,K6 qe J qx (ltd J)⟩,qr J,qr J,qr J,qr J,qr J,trivial⟩ ⟨Qt J J,trivial⟩⟩
     refine Q8 ?_
     refine ⟨_,qm c,fun hm=>?_⟩
     subst hm
     obtain rfl:=qd a
     exact ⟨_,J,wkA [] [] []⟩
    refine ql<|Qf ?_
    obtain rfl:=qd a
    exact ⟨_,J,wkA [] [] []⟩
   intro o hb
   subst hb
   refine qw<|O J<|G _ J<|qa J<|qv ?_
   exact ⟨_,qm k,wkA [] [] []⟩
  refine Q8 ?_
  refine ⟨_,qm k,fun hm=>?_⟩
  subst hm
  exact ⟨_,J,wkA [] [] []⟩
 intro s hb
 subst hb
 refine qc<|qa J<|qs ?_
 obtain rfl:=qd n
 exact ⟨.inr J,_,J,wkA [] [] []⟩
theorem qzc (m : List Int) (c : Int) (o : Int) (p : Int) (r : Int × List Int) (d : q7b  m c o p = some r) : K8 Tryz.prog tab 153 [.hs 0 1 0 m.length,q6 c,q6 o,q6 p] [(0,.dat 1 (m.map (eI .i64)))] 1 (q6 r.1) [(0,.dat 1 (r.2.map (eI .i64)))] 1:=by
 unfold q7b at d
 refine Kr Tryz.func153 J qh qh J<|qc<|qa J<|q9<|qf<|Qj [Qv 0,U,Qv 0,U,qu 0,U,U,U,qu 0,U,U,U,U,U,U,U] qh<|O J<|O J<|O J<|O J<|O J<|O J ?_
 obtain ⟨q,u,d⟩:=q7 d
 refine qz u J J<|Qd _ u J<|O J<|O J ?_
 obtain ⟨s,v,d⟩:=q7 d
 refine qz v J J<|Qd _ v J ?_
 obtain ⟨bw,w,d⟩:=q7 d
 refine qz w J J<|K5 (ds:=[q8 q]) q w J J J J J J J J (leb J) J ?_
 obtain ⟨bz,x,d⟩:=q7 d
 refine qz x qe J<|K5 (ds:=[q8 s]) s x J J J J J J J J (leb J) J<|qt<|O J<|G _ J<|O J<|G _ J<|qa J<|qa J<|q9<|qf ?_
 obtain ⟨y,bj,d⟩:=q7 d
 refine Qk (fun l=>l = y) (fun l=>⟨[(9,q6 l.1)],[(0,.dat 1 (l.2.map (eI .i64)))],1⟩) qe ?_ ?_
 ·refine Qe (q7c c) (fun a=>⟨[(0,.hs 0 1 0 a.2.2.length),(1,q6 c),(9,q6 a.1),(10,q6 a.2.1)],[(0,.dat 1 (a.2.2.map (eI .i64)))],1⟩) (w64 (c + 1),w64 (o - 1),(m.set c.toNat q).set p.toNat s) y bj (wkE [] [] [] J ⟨⟨_,J,K6 qe J qx (ltd J)⟩,qr J,qr J,qr J,trivial⟩ ⟨Qt J J,trivial⟩) ?_
  intro a ca b
  unfold q7c at b
  refine Q3<|qf ?_
  obtain ⟨z,bk,b⟩:=q7 b
  refine Qk (fun k=>k = z) (fun k=>⟨[(0,.hs 0 1 0 a.2.2.length),(1,q6 c),(9,q6 k),(10,q6 a.2.1)],[(0,.dat 1 (a.2.2.map (eI .i64)))],1⟩) qe ?_ ?_
  ·refine Qe (q7d a c) (fun aa=>⟨[(0,.hs 0 1 0 a.2.2.length),(1,q6 c),(9,q6 aa),(10,q6 a.2.1)],[(0,.dat 1 (a.2.2.map (eI .i64)))],1⟩) a.1 z bk (wkA [] [] []) ?_
   intro aa cb h
   unfold q7d at h
   refine qf<|qf<|Qj [U,U,U,qu 0,U,U,U,qu 0,U,U,U,U,U,U,U] qh<|O J<|O J<|G _ J ?_
   obtain ⟨bl,f,h⟩:=q7 h
   refine Qb 12 (fun A st=>∃ ab ac ad ae af ag ah ai aj ak al,st = A [(43,Q0 bl),(42,al),(41,ak),(40,aj),(39,ai),(38,ah),(37,ag),(36,af),(35,ae),(34,ad),(33,ac),(32,ab)]) ?_ ?_
   ·refine Q9 J J f (fun f=>?_) (fun f=>?_)
    ·refine O J<|O J ?_
     obtain ⟨bm,am,f⟩:=q7 f
     refine qz am J J<|Qd _ am J<|O J<|O J ?_
     obtain ⟨bn,an,f⟩:=q7 f
     refine qz an J J<|Qd _ an J ?_
     obtain ⟨bo,bp,f⟩:=q7 f
     refine Q4 (J0 bm bn bo bp) J<|G _ J<|G _ J<|q9 ?_
     obtain rfl:=qd f
     exact ⟨_,_,_,_,_,_,_,_,_,_,_,J⟩
    refine qb J<|qb J<|qb J<|qb J<|qb J<|qb J<|qb J<|qb J<|qb J<|qb J<|G _ J<|q9 ?_
    obtain rfl:=qd f
    exact ⟨_,_,_,_,_,_,_,_,_,_,_,J⟩
   rintro _ ⟨ab,ac,ad,ae,af,ag,ah,ai,aj,ak,al,rfl⟩
   refine q9 ?_
   refine qo J h (fun _ h=>?_) (fun _ h=>?_)
   ·refine ql<|Q3<|qw<|O J<|G _ J<|qa J<|qv<|Qn<|Qf ?_
    exact ⟨_,qm h,wkA [] [] []⟩
   refine Q8 ?_
   refine ⟨_,qm h,fun hm=>?_⟩
   subst hm
   exact ⟨_,J,wkA [] [] []⟩
  intro k hb
  subst hb
  refine qf ?_
  obtain ⟨ao,bq,b⟩:=q7 b
  refine Qk (fun n=>n = ao) (fun n=>⟨[(0,.hs 0 1 0 a.2.2.length),(1,q6 c),(9,q6 k),(10,q6 n)],[(0,.dat 1 (a.2.2.map (eI .i64)))],1⟩) qe ?_ ?_
  ·refine Qe (q7e k a c) (fun ap=>⟨[(0,.hs 0 1 0 a.2.2.length),(1,q6 c),(9,q6 k),(10,q6 ap)],[(0,.dat 1 (a.2.2.map (eI .i64)))],1⟩) a.2.1 ao bq (wkA [] [] []) ?_
   intro ap cc j
   unfold q7e at j
   refine qf<|qf<|Qj [U,U,qu 0,U,U,U,qu 0,U,U,U,U,U,U,U] qh<|O J<|O J<|G _ J ?_
   obtain ⟨br,g,j⟩:=q7 j
   refine Qb 11 (fun A st=>∃ aq ar au av aw ax ay az ba bb,st = A [(59,Q0 br),(58,bb),(57,ba),(56,az),(55,ay),(54,ax),(53,aw),(52,av),(51,au),(50,ar),(49,aq)]) ?_ ?_
   ·refine Q9 J J g (fun g=>?_) (fun g=>?_)
    ·refine O J<|O J ?_
     obtain ⟨bs,bc,g⟩:=q7 g
     refine qz bc J J<|Qd _ bc J<|O J<|O J ?_
     obtain ⟨bt,bd,g⟩:=q7 g
     refine qz bd J J<|Qd _ bd J ?_
     obtain ⟨bu,bv,g⟩:=q7 g
     refine Q4 (J0 bs bt bu bv) J<|G _ J<|q9 ?_
     obtain rfl:=qd g
     exact ⟨_,_,_,_,_,_,_,_,_,_,J⟩
    refine qb J<|qb J<|qb J<|qb J<|qb J<|qb J<|qb J<|qb J<|qb J<|G _ J<|q9 ?_
    obtain rfl:=qd g
    exact ⟨_,_,_,_,_,_,_,_,_,_,J⟩
   rintro _ ⟨aq,ar,au,av,aw,ax,ay,az,ba,bb,rfl⟩
   refine q9 ?_
   refine qo J j (fun _ j=>?_) (fun _ j=>?_)
   ·refine ql<|Q3<|qw<|O J<|G _ J<|qa J<|qv<|Qn<|Qf ?_
    exact ⟨_,qm j,wkA [] [] []⟩
   refine Q8 ?_
   refine ⟨_,qm j,fun hm=>?_⟩
   subst hm
   exact ⟨_,J,wkA [] [] []⟩
  intro n hb
  subst hb
  refine qf<|qc<|O J<|O J<|G _ J<|q9 ?_
  refine qo J b (fun _ b=>?_) (fun _ b=>?_)
  ·refine Q8 ?_
   refine ⟨_,qm b,fun hm=>?_⟩
   subst hm
   exact ⟨_,J,wkA [] [] []⟩
  refine ql<|qf<|Qj [Qv 0,U,Qv 0,U,qu 0,U,U,U,qu 0,U,U,U,U,U,U,U] qh<|O J<|O J<|O J<|O J<|O J<|O J ?_
  obtain ⟨be,bf,b⟩:=q7 b
  refine qz bf J J<|Qd _ bf J<|O J<|O J ?_
  obtain ⟨t,bg,b⟩:=q7 b
  refine qz bg J J<|Qd (q6 t) bg J ?_
  obtain ⟨cd,bh,b⟩:=q7 b
  refine qz bh J J<|K5 (ds:=[q8 be]) be bh J J J J J J J J (leb J) J ?_
  obtain ⟨ce,bi,b⟩:=q7 b
  refine qz bi qe J<|K5 (ds:=[q8 t]) t bi J J J J J J J J (leb J) J<|qt<|O J<|G _ J<|qa J<|q9<|qw<|O J<|G _ J<|qa J<|qv<|Qn<|Qf ?_
  exact ⟨_,qm b,wkE [] [] [] J ⟨⟨_,J,K6 qe J qx (ltd J)⟩,qr J,qr J,qr J,trivial⟩ ⟨Qt J J,trivial⟩⟩
 intro l hb
 subst hb
 refine qc<|O J<|qa J<|qs ?_
 obtain rfl:=qd d
 exact ⟨.inr J,_,J,wkA [] [] []⟩
theorem qzd (g : List Int) (b : Int) (s : Int) (k : Int) (r : Int × Bool × List Int) (a : q7f  g b s k = some r) : K8 Tryz.prog tab 154 [.hs 0 1 0 g.length,q6 b,q6 s,q6 k] [(0,.dat 1 (g.map (eI .i64)))] 1 (.d (.tup [q8 r.1,.bool r.2.1])) [(0,.dat 1 (r.2.2.map (eI .i64)))] 1:=by
 unfold q7f at a
 refine Kr Tryz.func154 J qh qh J<|qc<|qa J<|qa J<|q9<|qf<|Qj [Qv 0,U,Qv 0,U,qu 0,U,U,U,qu 0,U,U,U,U,U,U,U] qh<|O J<|O J<|O J<|O J<|O J<|O J ?_
 obtain ⟨h,ao,a⟩:=q7 a
 refine qz ao J J<|Qd (q6 h) ao J<|O J<|O J ?_
 obtain ⟨j,ap,a⟩:=q7 a
 refine qz ap J J<|Qd (q6 j) ap J ?_
 obtain ⟨fs,aq,a⟩:=q7 a
 refine qz aq J J<|K5 (ds:=[q8 h]) h aq J J J J J J J J (leb J) J ?_
 obtain ⟨ft,ar,a⟩:=q7 a
 refine qz ar qe J<|K5 (ds:=[q8 j]) j ar J J J J J J J J (leb J) J<|qt<|O J<|G (.d (q8 (w64 (b + 1)))) J<|O J<|G (.d (q8 (w64 (s - 1)))) J<|qa J<|qa J<|q9<|qf ?_
 obtain ⟨au,fe,a⟩:=q7 a
 refine Qk (fun l=>l = au) (fun (l : Int)=>⟨[(0,.hs 0 1 0 ((g.set b.toNat h).set k.toNat j).length),(1,q6 b),(10,q6 l),(11,.d (q8 (w64 (s - 1))))],[(0,.dat 1 (((g.set b.toNat h).set k.toNat j).map (eI .i64)))],1⟩) qe ?_ ?_
 ·refine Qe (q7g s g b h k j) (fun (aa : Int)=>⟨[(0,.hs 0 1 0 ((g.set b.toNat h).set k.toNat j).length),(1,q6 b),(10,q6 aa),(11,.d (q8 (w64 (s - 1))))],[(0,.dat 1 (((g.set b.toNat h).set k.toNat j).map (eI .i64)))],1⟩) (w64 (b + 1)) au fe (wkE [] [] [] J ⟨⟨_,J,K6 qe J qx (ltd J)⟩,qr J,qr J,qr J,trivial⟩ ⟨Qt J J,trivial⟩) ?_
  intro aa fu t
  unfold q7g at t
  refine qf<|qf<|Qj [U,U,qu 0,U,U,U,qu 0,U,U,U,U,U,U,U] qh<|O J<|O J<|G (.d (.bool (decide (aa≤(w64 (s - 1)))))) J ?_
  obtain ⟨ff,m,t⟩:=q7 t
  refine Qb 11 (fun A st=>∃ (av aw ax ay az ba bb bc bd be : V),st = A [(43,Q0 ff),(42,be),(41,bd),(40,bc),(39,bb),(38,ba),(37,az),(36,ay),(35,ax),(34,aw),(33,av)]) ?_ ?_
  ·refine Q9 J J m (fun m=>?_) (fun m=>?_)
   ·refine O J<|O J ?_
    obtain ⟨bf,bg,m⟩:=q7 m
    refine qz bg J J<|Qd (q6 bf) bg J<|O J<|O J ?_
    obtain ⟨bh,bi,m⟩:=q7 m
    refine qz bi J J<|Qd (q6 bh) bi J ?_
    obtain ⟨bj,fg,m⟩:=q7 m
    refine Q4 (J0 bf bh bj fg) J<|G (Q0 bj) J<|q9 ?_
    obtain rfl:=qd m
    exact ⟨_,_,_,_,_,_,_,_,_,_,J⟩
   refine qb J<|qb J<|qb J<|qb J<|qb J<|qb J<|qb J<|qb J<|qb J<|G (Q0 false) J<|q9 ?_
   obtain rfl:=qd m
   exact ⟨_,_,_,_,_,_,_,_,_,_,J⟩
  rintro _ ⟨av,aw,ax,ay,az,ba,bb,bc,bd,be,rfl⟩
  refine q9 ?_
  refine qo J t (fun _ t=>?_) (fun _ t=>?_)
  ·refine ql<|Q3<|qw<|O J<|G (.d (q8 (w64 (aa + 1)))) J<|qa J<|qv<|Qn<|Qf ?_
   exact ⟨_,qm t,wkA [] [] []⟩
  refine Q8 ?_
  refine ⟨_,qm t,fun hm=>?_⟩
  subst hm
  exact ⟨_,J,wkA [] [] []⟩
 intro l hb
 subst hb
 refine qf ?_
 obtain ⟨bk,fh,a⟩:=q7 a
 refine Qk (fun u=>u = bk) (fun (u : Int)=>⟨[(0,.hs 0 1 0 ((g.set b.toNat h).set k.toNat j).length),(1,q6 b),(10,q6 l),(11,q6 u)],[(0,.dat 1 (((g.set b.toNat h).set k.toNat j).map (eI .i64)))],1⟩) qe ?_ ?_
 ·refine Qe (q7h l g b h k j) (fun (ab : Int)=>⟨[(0,.hs 0 1 0 ((g.set b.toNat h).set k.toNat j).length),(1,q6 b),(10,q6 l),(11,q6 ab)],[(0,.dat 1 (((g.set b.toNat h).set k.toNat j).map (eI .i64)))],1⟩) (w64 (s - 1)) bk fh (wkA [] [] []) ?_
  intro ab fv v
  unfold q7h at v
  refine qf<|qf<|Qj [U,U,U,qu 0,U,U,U,qu 0,U,U,U,U,U,U,U] qh<|O J<|O J<|G (.d (.bool (decide (l≤ab)))) J ?_
  obtain ⟨fi,n,v⟩:=q7 v
  refine Qb 12 (fun A st=>∃ (bl bm bn bo bp bq br bs bt bu bv : V),st = A [(60,Q0 fi),(59,bv),(58,bu),(57,bt),(56,bs),(55,br),(54,bq),(53,bp),(52,bo),(51,bn),(50,bm),(49,bl)]) ?_ ?_
  ·refine Q9 J J n (fun n=>?_) (fun n=>?_)
   ·refine O J<|O J ?_
    obtain ⟨bw,bz,n⟩:=q7 n
    refine qz bz J J<|Qd (q6 bw) bz J<|O J<|O J ?_
    obtain ⟨ca,cb,n⟩:=q7 n
    refine qz cb J J<|Qd (q6 ca) cb J ?_
    obtain ⟨ag,fj,n⟩:=q7 n
    refine Q4 (J0 bw ca ag fj) J<|G (Q0 (!ag)) J<|G (Q0 (!ag)) J<|q9 ?_
    obtain rfl:=qd n
    exact ⟨_,_,_,_,_,_,_,_,_,_,_,J⟩
   refine qb J<|qb J<|qb J<|qb J<|qb J<|qb J<|qb J<|qb J<|qb J<|qb J<|G (Q0 false) J<|q9 ?_
   obtain rfl:=qd n
   exact ⟨_,_,_,_,_,_,_,_,_,_,_,J⟩
  rintro _ ⟨bl,bm,bn,bo,bp,bq,br,bs,bt,bu,bv,rfl⟩
  refine q9 ?_
  refine qo J v (fun _ v=>?_) (fun _ v=>?_)
  ·refine ql<|Q3<|qw<|O J<|G (.d (q8 (w64 (ab - 1)))) J<|qa J<|qv<|Qn<|Qf ?_
   exact ⟨_,qm v,wkA [] [] []⟩
  refine Q8 ?_
  refine ⟨_,qm v,fun hm=>?_⟩
  subst hm
  exact ⟨_,J,wkA [] [] []⟩
 intro u hb
 subst hb
 refine qf<|qc<|O J<|O J<|G (.d (.bool (decide (l > u)))) J<|q9 ?_
 refine qo J a (fun _ a=>?_) (fun _ a=>?_)
 ·refine qf<|Qj [Qv 0,U,Qv 0,U,qu 0,U,U,U,qu 0,U,U,U,U,U,U,U] qh<|O J<|O J<|O J<|O J<|O J<|O J ?_
  obtain ⟨ah,cc,a⟩:=q7 a
  refine qz cc J J<|Qd (q6 ah) cc J<|O J<|O J ?_
  obtain ⟨ai,cd,a⟩:=q7 a
  refine qz cd J J<|Qd (q6 ai) cd J ?_
  obtain ⟨fw,ce,a⟩:=q7 a
  refine qz ce J J<|K5 (ds:=[q8 ah]) ah ce J J J J J J J J (leb J) J ?_
  obtain ⟨fx,cf,a⟩:=q7 a
  refine qz cf qe J<|K5 (ds:=[q8 ai]) ai cf J J J J J J J J (leb J) J<|qt<|O J<|qa J<|qa J<|qs ?_
  obtain rfl:=qd a
  exact ⟨.inr J,_,J,wkA [] [] []⟩
 refine ql<|qf<|Qj [Qv 0,U,Qv 0,U,qu 0,U,U,U,qu 0,U,U,U,U,U,U,U] qh<|O J<|O J<|O J<|O J<|O J<|O J ?_
 obtain ⟨ac,cg,a⟩:=q7 a
 refine qz cg J J<|Qd (q6 ac) cg J<|O J<|O J ?_
 obtain ⟨ad,ch,a⟩:=q7 a
 refine qz ch J J<|Qd (q6 ad) ch J ?_
 obtain ⟨fy,ci,a⟩:=q7 a
 refine qz ci J J<|K5 (ds:=[q8 ac]) ac ci J J J J J J J J (leb J) J ?_
 obtain ⟨fz,cj,a⟩:=q7 a
 refine qz cj qe J<|K5 (ds:=[q8 ad]) ad cj J J J J J J J J (leb J) J<|qt<|O J<|G (.d (q8 (w64 (l + 1)))) J<|qa J<|qt<|O J<|G (.d (q8 (w64 (u - 1)))) J<|qa J<|q9<|qf ?_
 obtain ⟨ck,fk,a⟩:=q7 a
 refine Qk (fun y=>y = ck) (fun (y : Int × List Int)=>⟨[(0,.hs 0 1 0 y.2.length),(1,q6 b),(11,q6 y.1)],[(0,.dat 1 (y.2.map (eI .i64)))],1⟩) qe ?_ ?_
 ·refine Qe (q7i b) (fun (c : Int × Int × List Int)=>⟨[(0,.hs 0 1 0 c.2.2.length),(1,q6 b),(10,q6 c.1),(11,q6 c.2.1)],[(0,.dat 1 (c.2.2.map (eI .i64)))],1⟩) (w64 (l + 1),w64 (u - 1),(((g.set b.toNat h).set k.toNat j).set l.toNat ac).set u.toNat ad) ck fk (wkE [] [] [] J ⟨⟨_,J,K6 qe J qx (ltd J)⟩,qr J,qr J,qr J,trivial⟩ ⟨Qt J J,trivial⟩) ?_
  intro c ga f
  unfold q7i at f
  refine Q3<|qf ?_
  obtain ⟨cm,fl,f⟩:=q7 f
  refine Qk (fun q=>q = cm) (fun (q : Int)=>⟨[(0,.hs 0 1 0 c.2.2.length),(1,q6 b),(10,q6 q),(11,q6 c.2.1)],[(0,.dat 1 (c.2.2.map (eI .i64)))],1⟩) qe ?_ ?_
  ·refine Qe (q7j c b) (fun (ae : Int)=>⟨[(0,.hs 0 1 0 c.2.2.length),(1,q6 b),(10,q6 ae),(11,q6 c.2.1)],[(0,.dat 1 (c.2.2.map (eI .i64)))],1⟩) c.1 cm fl (wkA [] [] []) ?_
   intro ae gb w
   unfold q7j at w
   refine qf<|qf<|Qj [U,U,qu 0,U,U,U,qu 0,U,U,U,U,U,U,U] qh<|O J<|O J<|G (.d (.bool (decide (ae≤c.2.1)))) J ?_
   obtain ⟨fm,o,w⟩:=q7 w
   refine Qb 11 (fun A st=>∃ (cn co cp cq cr cs ct cu cv cw : V),st = A [(112,Q0 fm),(111,cw),(110,cv),(109,cu),(108,ct),(107,cs),(106,cr),(105,cq),(104,cp),(103,co),(102,cn)]) ?_ ?_
   ·refine Q9 J J o (fun o=>?_) (fun o=>?_)
    ·refine O J<|O J ?_
     obtain ⟨cx,cy,o⟩:=q7 o
     refine qz cy J J<|Qd (q6 cx) cy J<|O J<|O J ?_
     obtain ⟨cz,da,o⟩:=q7 o
     refine qz da J J<|Qd (q6 cz) da J ?_
     obtain ⟨dc,fn,o⟩:=q7 o
     refine Q4 (J0 cx cz dc fn) J<|G (Q0 dc) J<|q9 ?_
     obtain rfl:=qd o
     exact ⟨_,_,_,_,_,_,_,_,_,_,J⟩
    refine qb J<|qb J<|qb J<|qb J<|qb J<|qb J<|qb J<|qb J<|qb J<|G (Q0 false) J<|q9 ?_
    obtain rfl:=qd o
    exact ⟨_,_,_,_,_,_,_,_,_,_,J⟩
   rintro _ ⟨cn,co,cp,cq,cr,cs,ct,cu,cv,cw,rfl⟩
   refine q9 ?_
   refine qo J w (fun _ w=>?_) (fun _ w=>?_)
   ·refine ql<|Q3<|qw<|O J<|G (.d (q8 (w64 (ae + 1)))) J<|qa J<|qv<|Qn<|Qf ?_
    exact ⟨_,qm w,wkA [] [] []⟩
   refine Q8 ?_
   refine ⟨_,qm w,fun hm=>?_⟩
   subst hm
   exact ⟨_,J,wkA [] [] []⟩
  intro q hb
  subst hb
  refine qf ?_
  obtain ⟨dd,fo,f⟩:=q7 f
  refine Qk (fun z=>z = dd) (fun (z : Int)=>⟨[(0,.hs 0 1 0 c.2.2.length),(1,q6 b),(10,q6 q),(11,q6 z)],[(0,.dat 1 (c.2.2.map (eI .i64)))],1⟩) qe ?_ ?_
  ·refine Qe (q7k q c b) (fun (af : Int)=>⟨[(0,.hs 0 1 0 c.2.2.length),(1,q6 b),(10,q6 q),(11,q6 af)],[(0,.dat 1 (c.2.2.map (eI .i64)))],1⟩) c.2.1 dd fo (wkA [] [] []) ?_
   intro af gc x
   unfold q7k at x
   refine qf<|qf<|Qj [U,U,U,qu 0,U,U,U,qu 0,U,U,U,U,U,U,U] qh<|O J<|O J<|G (.d (.bool (decide (q≤af)))) J ?_
   obtain ⟨fq,p,x⟩:=q7 x
   refine Qb 12 (fun A st=>∃ (de df dg dh dj dk dl dm dn dp dq : V),st = A [(129,Q0 fq),(128,dq),(127,dp),(126,dn),(125,dm),(124,dl),(123,dk),(122,dj),(121,dh),(120,dg),(119,df),(118,de)]) ?_ ?_
   ·refine Q9 J J p (fun p=>?_) (fun p=>?_)
    ·refine O J<|O J ?_
     obtain ⟨dr,dt,p⟩:=q7 p
     refine qz dt J J<|Qd (q6 dr) dt J<|O J<|O J ?_
     obtain ⟨du,dv,p⟩:=q7 p
     refine qz dv J J<|Qd (q6 du) dv J ?_
     obtain ⟨aj,fr,p⟩:=q7 p
     refine Q4 (J0 dr du aj fr) J<|G (Q0 (!aj)) J<|G (Q0 (!aj)) J<|q9 ?_
     obtain rfl:=qd p
     exact ⟨_,_,_,_,_,_,_,_,_,_,_,J⟩
    refine qb J<|qb J<|qb J<|qb J<|qb J<|qb J<|qb J<|qb J<|qb J<|qb J<|G (Q0 false) J<|q9 ?_
    obtain rfl:=qd p
    exact ⟨_,_,_,_,_,_,_,_,_,_,_,J⟩
   rintro _ ⟨de,df,dg,dh,dj,dk,dl,dm,dn,dp,dq,rfl⟩
   refine q9 ?_
   refine qo J x (fun _ x=>?_) (fun _ x=>?_)
   ·refine ql<|Q3<|qw<|O J<|G (.d (q8 (w64 (af - 1)))) J<|qa J<|qv<|Qn<|Qf ?_
    exact ⟨_,qm x,wkA [] [] []⟩
   refine Q8 ?_
   refine ⟨_,qm x,fun hm=>?_⟩
   subst hm
   exact ⟨_,J,wkA [] [] []⟩
  intro z hb
  subst hb
  refine qf<|qc<|O J<|O J<|G (.d (.bool (decide (q > z)))) J<|q9 ?_
  refine qo J f (fun _ f=>?_) (fun _ f=>?_)
  ·refine Q8 ?_
   refine ⟨_,qm f,fun hm=>?_⟩
   subst hm
   exact ⟨_,J,wkA [] [] []⟩
  refine ql<|qf<|Qj [Qv 0,U,Qv 0,U,qu 0,U,U,U,qu 0,U,U,U,U,U,U,U] qh<|O J<|O J<|O J<|O J<|O J<|O J ?_
  obtain ⟨ak,dw,f⟩:=q7 f
  refine qz dw J J<|Qd (q6 ak) dw J<|O J<|O J ?_
  obtain ⟨al,dx,f⟩:=q7 f
  refine qz dx J J<|Qd (q6 al) dx J ?_
  obtain ⟨gd,dy,f⟩:=q7 f
  refine qz dy J J<|K5 (ds:=[q8 ak]) ak dy J J J J J J J J (leb J) J ?_
  obtain ⟨ge,dz,f⟩:=q7 f
  refine qz dz qe J<|K5 (ds:=[q8 al]) al dz J J J J J J J J (leb J) J<|qt<|O J<|G (.d (q8 (w64 (q + 1)))) J<|qa J<|q9<|qw<|O J<|G (.d (q8 (w64 (z - 1)))) J<|qa J<|qv<|Qn<|Qf ?_
  exact ⟨_,qm f,wkE [] [] [] J ⟨⟨_,J,K6 qe J qx (ltd J)⟩,qr J,qr J,qr J,trivial⟩ ⟨Qt J J,trivial⟩⟩
 intro y hb
 subst hb
 refine qf<|Qj [Qv 0,U,Qv 0,U,qu 0,U,U,U,qu 0,U,U,U,U,U,U,U] qh<|O J<|O J<|O J<|O J<|O J<|O J ?_
 obtain ⟨am,fa,a⟩:=q7 a
 refine qz fa J J<|Qd (q6 am) fa J<|O J<|O J ?_
 obtain ⟨an,fb,a⟩:=q7 a
 refine qz fb J J<|Qd (q6 an) fb J ?_
 obtain ⟨gf,fc,a⟩:=q7 a
 refine qz fc J J<|K5 (ds:=[q8 am]) am fc J J J J J J J J (leb J) J ?_
 obtain ⟨gg,fd,a⟩:=q7 a
 refine qz fd qe J<|K5 (ds:=[q8 an]) an fd J J J J J J J J (leb J) J<|qt<|O J<|qa J<|qa J<|qs ?_
 obtain rfl:=qd a
 exact ⟨.inr J,_,J,wkA [] [] []⟩
theorem qnf (b : Int) (r : Int) (a : q21 b = some r) : Pure Tryz.prog tab 166 [q8 b] (.int .u64 r):=by
 unfold q21 at a
 refine Qo Tryz.func166 J qh qh J<|qc<|qa J<|qt<|O J<|G _ J ?_
 obtain ⟨c,d,a⟩:=q7 a
 refine Q4 (qft (IntKind.wrap .u64 b) c d) J ?_
 obtain ⟨g,f,a⟩:=q7 a
 refine qua f J J J<|qa J<|qs ?_
 obtain rfl:=qd a
 exact Q5 _ J
theorem qni (a : Int) (r : Int) (b : q22  a = some r) : K8 Tryz.prog tab 167 [.ref 0 1 0 0] [(0,.dat 1 [[.int .u64 a]])] 1 (.d (.int .u64 r)) [(0,.dat 1 [[.int .u64 r]])] 1:=by
 unfold q22 at b
 refine Kr Tryz.func167 J qh qh J<|qc<|qa J<|q9<|qf<|Qj [Qv 0,U,U,U,qu 0,U,U,qu 0,U,U] qh<|O J<|G _ J<|G _ J<|O J<|G _ J<|G _ J<|G _ J<|G _ J<|G _ J<|Ql 0 _ J<|q9<|qf<|Qj [Qv 0,U,U,U,qu 0,U,U,qu 0,U,U] qh<|O J<|G _ J<|G _ J<|O J<|G _ J<|G _ J<|G _ J<|G _ J<|G _ J<|Ql 0 _ J<|q9<|qf<|Qj [Qv 0,U,U,U,qu 0,U,U,qu 0,U,U] qh<|O J<|G _ J<|G _ J<|O J<|G _ J<|G _ J<|G _ J<|G _ J ?_
 refine G _ J<|Ql 0 _ J<|qt<|O J<|G _ J<|G _ J<|qa J<|qs ?_
 obtain rfl:=qd b
 exact ⟨.inr J,_,J,wkA [] [] []⟩
theorem qz1 (j : List Int) (b : Int) (g : Int) (r : List Int) (c : q6x  j b g = some r) : K8 Tryz.prog tab 148 [.hs 0 1 0 j.length,q6 b,q6 g] [(0,.dat 1 (j.map (eI .i64)))] 1 (.d (.tup [])) [(0,.dat 1 (r.map (eI .i64)))] 1:=by
 unfold q6x at c
 refine Kr Tryz.func148 J qh qh J<|qc<|O J<|O J<|G _ J<|qa J<|qt<|O J<|G _ J<|q9 ?_
 refine qo J c (fun _ c=>?_) (fun _ c=>?_)
 ·refine qc<|O J<|G _ J<|K4 J J<|Ql 1 _ J<|qt<|O J ?_
  obtain ⟨k,u,c⟩:=q7 c
  refine Q4 (qnf (w64 (g - b)) k u) J<|qa J<|qt<|O J<|O J<|G _ J<|G _ J<|G _ J<|G _ J<|qa J<|q9 ?_
  obtain ⟨v,w,c⟩:=q7 c
  refine Q3<|Qe (q6y b g k) (fun f=>⟨[(0,.hs 0 1 0 f.2.1.length),(1,q6 b),(6,.d (q8 (w64 (g - b)))),(7,.ref 1 1 0 0),(8,.d (.int .u64 k)),(9,q6 f.1)],[(0,.dat 1 (f.2.1.map (eI .i64))),(1,.dat 1 [[.int .u64 f.2.2]])],2⟩) (w64 ((w64 (b + (w64 ((w64 (Int.tdiv (w64 (g - b)) 4)) * 2)))) - 1),j,IntKind.wrap .u64 (w64 (g - b))) v w (wkA [(1,1)] [] []) ?_
  intro f z a
  unfold q6y at a
  refine qf<|qc<|O J<|O J<|O J<|G _ J<|G _ J<|G _ J<|G _ J<|G _ J<|q9 ?_
  refine qo J a (fun _ a=>?_) (fun _ a=>?_)
  ·refine ql<|qf<|Q3<|qc ?_
   obtain ⟨l,x,a⟩:=q7 a
   refine K9 [(0,1)] [(0,1),(1,0)] _ (.d (.int .u64 l)) 1 [(1,.dat 1 [[.int .u64 l]]),(0,.dat 1 (f.2.1.map (eI .i64)))] 2 (qni f.2.2 l x)<|O J<|G _ J<|G _ J<|G _ J<|qa J<|q9<|qf<|qc<|O J<|O J<|G _ J<|q9 ?_
   obtain ⟨y,h,a⟩:=q7 a
   refine Yw (fun m=>m = y) (fun m=>⟨[(0,.hs 0 1 0 f.2.1.length),(1,q6 b),(6,.d (q8 (w64 (g - b)))),(7,.ref 1 1 0 0),(8,.d (.int .u64 k)),(9,q6 f.1),(10,q6 m)],[(0,.dat 1 (f.2.1.map (eI .i64))),(1,.dat 1 [[.int .u64 l]])],2⟩) qe ?_ ?_
   ·refine qo J h (fun _ h=>?_) (fun _ h=>?_)
    ·refine qw<|O J<|O J<|G _ J<|qa J<|qv ?_
     obtain rfl:=qd h
     exact ⟨_,J,wkA [(1,1)] [] []⟩
    refine ql<|Qf ?_
    obtain rfl:=qd h
    exact ⟨_,J,wkA [(1,1)] [] []⟩
   intro m hb
   subst hb
   refine Qj [Qv 0,U,Qv 0,U,qu 0,U,U,U,qu 0,U,U,U,U,U,U,U,U,U,U,U] qh<|O J<|O J<|O J<|O J<|O J<|G _ J<|O J<|O J<|O J<|G _ J ?_
   obtain ⟨n,o,a⟩:=q7 a
   refine qz o J J<|Qd _ o J<|O J<|O J ?_
   obtain ⟨p,q,a⟩:=q7 a
   refine qz q J J<|Qd _ q J ?_
   obtain ⟨aa,s,a⟩:=q7 a
   refine qz s J J<|K5 (ds:=[q8 n]) n s J J J J J J J J (leb J) J ?_
   obtain ⟨ab,t,a⟩:=q7 a
   refine qz t qe J<|K5 (ds:=[q8 p]) p t J J J J J J J J (leb J) J<|qv<|Qn<|qw<|O J<|G _ J<|qa J<|qv ?_
   exact ⟨_,qm a,wkE [(1,1)] [] [] J ⟨⟨_,J,K6 qe J qx (ltd J)⟩,qr J,qr J,⟨_,J,.ref J qx (ltd J)⟩,qr J,qr J,trivial⟩ ⟨Qt J J,Qt J J,trivial⟩⟩
  refine Q8 ?_
  refine ⟨_,qm a,fun hm=>?_⟩
  subst hm
  obtain rfl:=qd c
  exact ⟨.inl J,_,J,wkA [] [] []⟩
 refine ql<|Qf ?_
 obtain rfl:=qd c
 exact ⟨.inl J,_,J,wkA [] [] []⟩
theorem qzg (rec : List Int→Int→Int→Int→Option (List Int)) (hrec : ∀ (n : List Int) (o : Int) (p : Int) (q : Int) (r : List Int),rec n o p q = some r→K8 Tryz.prog tab 135 [.hs 0 1 0 n.length,q6 o,q6 p,q6 q] [(0,.dat 1 (n.map (eI .i64)))] 1 (.d (.tup [])) [(0,.dat 1 (r.map (eI .i64)))] 1) (n : List Int) (o : Int) (p : Int) (q : Int) (r : List Int) (s : q4r rec  n o p q = some r) : K8 Tryz.prog tab 135 [.hs 0 1 0 n.length,q6 o,q6 p,q6 q] [(0,.dat 1 (n.map (eI .i64)))] 1 (.d (.tup [])) [(0,.dat 1 (r.map (eI .i64)))] 1:=by
 unfold q4r at s
 refine Kr Tryz.func135 J qh qh J<|qc<|qa J<|qt<|qa J<|q9 ?_
 obtain ⟨az,ba,s⟩:=q7 s
 refine Q3<|Qe (q4q rec) (fun b=>⟨[(0,.hs 0 1 0 b.2.2.2.2.2.length),(1,q6 b.1),(2,q6 b.2.1),(3,q6 b.2.2.1),(8,Q0 b.2.2.2.1),(9,Q0 b.2.2.2.2.1)],[(0,.dat 1 (b.2.2.2.2.2.map (eI .i64)))],1⟩) (o,p,q,true,true,n) az ba (wkA [] [] []) ?_
 intro b co a
 unfold q4q at a
 refine Q3<|qc<|O J<|O J<|G _ J<|qa J<|q9<|qf<|qc<|O J<|G _ J<|q9 ?_
 refine qo J a (fun _ a=>?_) (fun _ a=>?_)
 ·refine qc<|O J<|O J<|O J ?_
  obtain ⟨aa,bb,a⟩:=q7 a
  obtain ⟨cp,bc,a⟩:=q7 a
  have cq:=Kn bc
  refine K9 [(0,0)] [(0,0)] _ (.d (.tup [])) 1 [(0,.dat 1 (aa.map (eI .i64)))] 1 (qz7 b.2.2.2.2.2 b.1 b.2.1 aa bb)<|qs ?_
  refine ⟨_,qm a,fun hm=>?_⟩
  subst hm
  obtain rfl:=qd s
  exact ⟨.inr J,_,J,wkA [] [] []⟩
 refine ql<|qf<|qc<|O J<|G _ J<|q9 ?_
 refine qo J a (fun _ a=>?_) (fun _ a=>?_)
 ·refine qc<|O J<|O J<|O J ?_
  obtain ⟨ab,bd,a⟩:=q7 a
  obtain ⟨cr,be,a⟩:=q7 a
  have cs:=Kn be
  refine K9 [(0,0)] [(0,0)] _ (.d (.tup [])) 1 [(0,.dat 1 (ab.map (eI .i64)))] 1 (qz5 b.2.2.2.2.2 b.1 b.2.1 ab bd)<|qs ?_
  refine ⟨_,qm a,fun hm=>?_⟩
  subst hm
  obtain rfl:=qd s
  exact ⟨.inr J,_,J,wkA [] [] []⟩
 refine ql<|qf<|qc<|O J<|G _ J<|q9 ?_
 obtain ⟨bf,k,a⟩:=q7 a
 refine Yw (fun c=>c = bf) (fun c=>⟨[(0,.hs 0 1 0 c.2.length),(1,q6 b.1),(2,q6 b.2.1),(3,q6 c.1),(8,Q0 b.2.2.2.1),(9,Q0 b.2.2.2.2.1),(10,.d (q8 (w64 (b.2.1 - b.1))))],[(0,.dat 1 (c.2.map (eI .i64)))],1⟩) qe ?_ ?_
 ·refine qo J k (fun _ k=>?_) (fun _ k=>?_)
  ·refine qc<|O J<|O J<|O J ?_
   obtain ⟨ac,bg,k⟩:=q7 k
   obtain ⟨ct,bh,k⟩:=q7 k
   have bi:=Kn bh
   refine K9 [(0,0)] [(0,0)] _ (.d (.tup [])) 1 [(0,.dat 1 (ac.map (eI .i64)))] 1 (qz1 b.2.2.2.2.2 b.1 b.2.1 ac bg)<|q9<|qw<|O J<|G _ J<|qa J<|qv ?_
   obtain rfl:=qd k
   exact ⟨_,J,wkE [] [] [] J ⟨⟨_,J,K6 (by simp [bi]) J qx (ltd J)⟩,qr J,qr J,qr J,qr J,qr J,qr J,trivial⟩ ⟨Qt J J,trivial⟩⟩
  refine ql<|Qf ?_
  obtain rfl:=qd k
  exact ⟨_,J,wkA [] [] []⟩
 intro c hb
 subst hb
 refine qc<|O J<|O J<|O J ?_
 obtain ⟨bj,bk,a⟩:=q7 a
 refine q2z [.hs 0 1 0 c.2.length,q6 b.1,q6 b.2.1] (qz3 c.2 b.1 b.2.1 bj bk) J J (Zp (Zi J J) (Zp J (Zp J J))) (.inr J)<|O J<|G _ J<|G _ J<|qa J<|qa J<|q9<|qf<|qc<|O J<|G _ J<|q9 ?_
 obtain ⟨bl,l,a⟩:=q7 a
 refine Yw (fun g=>g = bl) (fun g=>⟨[(0,.hs 0 1 0 g.2.2.length),(1,q6 b.1),(2,q6 b.2.1),(3,q6 c.1),(8,Q0 b.2.2.2.1),(9,Q0 b.2.2.2.2.1),(10,.d (q8 (w64 (b.2.1 - b.1)))),(11,q6 g.1),(12,q6 g.2.1)],[(0,.dat 1 (g.2.2.map (eI .i64)))],1⟩) qe ?_ ?_
 ·refine qo J l (fun _ l=>?_) (fun _ l=>?_)
  ·refine qc<|O J<|O J<|O J ?_
   obtain ⟨ad,bm,l⟩:=q7 l
   obtain ⟨cu,bn,l⟩:=q7 l
   have bo:=Kn bn
   refine K9 [(0,0)] [(0,0)] _ (.d (.tup [])) 1 [(0,.dat 1 (ad.map (eI .i64)))] 1 (qzj c.2 b.1 b.2.1 ad bm)<|qt<|O J<|G _ J<|O J<|O J<|G _ J<|G _ J<|qa J<|q9<|qw<|qa J<|qv ?_
   obtain rfl:=qd l
   exact ⟨_,J,wkE [] [] [] J ⟨⟨_,J,K6 (by simp [bo]) J qx (ltd J)⟩,qr J,qr J,qr J,qr J,qr J,qr J,qr J,qr J,trivial⟩ ⟨Qt J J,trivial⟩⟩
  refine ql<|Qf ?_
  obtain rfl:=qd l
  exact ⟨_,J,wkA [] [] []⟩
 intro g hb
 subst hb
 refine qf<|qc<|O J ?_
 obtain ⟨bp,t,a⟩:=q7 a
 refine Qb 3 (fun A st=>∃ ae af,st = A [(64,Q0 bp),(63,af),(62,ae)]) ?_ ?_
 ·refine Q9 J J t (fun t=>?_) (fun t=>?_)
  ·refine O J<|G _ J<|q9 ?_
   obtain rfl:=qd t
   exact ⟨_,_,J⟩
  refine qb J<|G _ J<|q9 ?_
  obtain rfl:=qd t
  exact ⟨_,_,J⟩
 rintro _ ⟨ae,af,rfl⟩
 obtain ⟨bq,u,a⟩:=q7 a
 refine Qb 4 (fun A st=>∃ ag ah ai,st = A [(68,Q0 bq),(67,ai),(66,ah),(65,ag)]) ?_ ?_
 ·refine Q9 J J u (fun u=>?_) (fun u=>?_)
  ·refine O J<|G _ J<|G _ J<|q9 ?_
   obtain rfl:=qd u
   exact ⟨_,_,_,J⟩
  refine qb J<|qb J<|G _ J<|q9 ?_
  obtain rfl:=qd u
  exact ⟨_,_,_,J⟩
 rintro _ ⟨ag,ah,ai,rfl⟩
 refine q9 ?_
 obtain ⟨br,f,a⟩:=q7 a
 refine Yw (fun m=>.inl m = br) (fun m=>⟨[(0,.hs 0 1 0 m.length),(1,q6 b.1),(2,q6 b.2.1),(3,q6 c.1),(8,Q0 b.2.2.2.1),(9,Q0 b.2.2.2.2.1),(10,.d (q8 (w64 (b.2.1 - b.1)))),(11,q6 g.1)],[(0,.dat 1 (m.map (eI .i64)))],1⟩) qe ?_ ?_
 ·refine qo J f (fun _ f=>?_) (fun _ f=>?_)
  ·refine qc<|O J<|O J<|O J ?_
   obtain ⟨w,bs,f⟩:=q7 f
   obtain ⟨cv,bt,f⟩:=q7 f
   have bu:=Kn bt
   refine K9 [(0,0)] [(0,0)] _ (Q0 w.1) 1 [(0,.dat 1 (w.2.map (eI .i64)))] 1 (qz9 g.2.2 b.1 b.2.1 w bs)<|q9 ?_
   refine qo J f (fun _ f=>?_) (fun _ f=>?_)
   ·refine q15 ?_
    obtain rfl:=qd f
    refine ⟨_,qm a,fun hm=>?_⟩
    subst hm
    obtain rfl:=qd s
    exact ⟨.inr J,_,J,wkA [] [] []⟩
   refine ql<|Qf ?_
   obtain rfl:=qd f
   exact ⟨_,J,wkE [] [] [] J ⟨⟨_,J,K6 (by simp [bu]) J qx (ltd J)⟩,qr J,qr J,qr J,qr J,qr J,qr J,qr J,trivial⟩ ⟨Qt J J,trivial⟩⟩
  refine ql<|Qf ?_
  obtain rfl:=qd f
  exact ⟨_,J,wkA [] [] []⟩
 intro m hb
 subst hb
 refine qf<|qf<|Qj [U,U,U,qu 0,U,U,U,qu 0,U,U,U,U,U,U,U] qh<|O J<|G _ J ?_
 obtain ⟨bv,h,a⟩:=q7 a
 refine Qb 13 (fun A st=>∃ aj ak al am an ao ap aq ar au av aw,st = A [(87,Q0 bv),(86,aw),(85,av),(84,au),(83,ar),(82,aq),(81,ap),(80,ao),(79,an),(78,am),(77,al),(76,ak),(75,aj)]) ?_ ?_
 ·refine Q9 J J h (fun h=>?_) (fun h=>?_)
  ·refine O J<|O J<|G _ J ?_
   obtain ⟨bw,ax,h⟩:=q7 h
   refine qz ax J J<|Qd _ ax J<|O J<|O J ?_
   obtain ⟨bz,ay,h⟩:=q7 h
   refine qz ay J J<|Qd _ ay J ?_
   obtain ⟨ca,cb,h⟩:=q7 h
   refine Q4 (J0 bw bz ca cb) J<|G _ J<|G _ J<|q9 ?_
   obtain rfl:=qd h
   exact ⟨_,_,_,_,_,_,_,_,_,_,_,_,J⟩
  refine qb J<|qb J<|qb J<|qb J<|qb J<|qb J<|qb J<|qb J<|qb J<|qb J<|qb J<|G _ J<|q9 ?_
  obtain rfl:=qd h
  exact ⟨_,_,_,_,_,_,_,_,_,_,_,_,J⟩
 rintro _ ⟨aj,ak,al,am,an,ao,ap,aq,ar,au,av,aw,rfl⟩
 refine q9 ?_
 refine qo J a (fun _ a=>?_) (fun _ a=>?_)
 ·refine qc<|O J<|O J<|O J<|O J ?_
  obtain ⟨x,cc,a⟩:=q7 a
  obtain ⟨cw,cd,a⟩:=q7 a
  have ce:=Kn cd
  refine K9 [(0,0)] [(0,0)] _ (q6 x.1) 1 [(0,.dat 1 (x.2.map (eI .i64)))] 1 (qzc m b.1 b.2.1 g.1 x cc)<|qa J<|qt<|O J<|qa J<|q9<|Q8<|Jw<|Qf ?_
  exact ⟨_,qm a,wkE [] [] [] J ⟨⟨_,J,K6 (by simp [ce]) J qx (ltd J)⟩,qr J,qr J,qr J,qr J,qr J,trivial⟩ ⟨Qt J J,trivial⟩⟩
 refine ql<|qc<|O J<|O J<|O J<|O J ?_
 obtain ⟨j,cf,a⟩:=q7 a
 obtain ⟨cx,cg,a⟩:=q7 a
 have v:=Kn cg
 refine K9 [(0,0)] [(0,0)] _ (.d (.tup [q8 j.1,.bool j.2.1])) 1 [(0,.dat 1 (j.2.2.map (eI .i64)))] 1 (qzd m b.1 b.2.1 g.1 j cf)<|O J<|G _ J<|G _ J<|qa J<|qa J<|qt<|O J<|qa J<|qt<|O J<|O J<|G _ J<|O J<|O J<|G _ J<|qa J<|qa J<|qt<|O J<|G _ J<|qa J<|qt<|O J<|O J<|G _ J<|q9 ?_
 refine qo J a (fun _ a=>?_) (fun _ a=>?_)
 ·refine qc<|O J<|O J<|G _ J<|qa J<|qt<|O J<|O J<|O J<|O J ?_
  obtain ⟨y,ch,a⟩:=q7 a
  obtain ⟨cy,ci,a⟩:=q7 a
  have cj:=Kn ci
  refine U1 [(0,0)] [(0,0)] [.hs 0 1 0 m.length,q6 b.1,q6 j.1,q6 c.1] (.d (.tup [])) [(0,.dat 1 (y.map (eI .i64)))] [(0,.dat 1 (y.map (eI .i64)))] 1 (hrec j.2.2 b.1 j.1 c.1 y ch) J J J (Ym [(0,0)] [] [] J ⟨⟨_,J,K6 (by simp [v]) J qx (ltd J)⟩,qr J,qr J,qr J,trivial⟩ ⟨Qt J J,trivial⟩) (Ym [(0,0)] [] [] J ⟨qr J,trivial⟩ ⟨Qt J J,trivial⟩) J ⟨.inl J,trivial⟩<|q9<|qw<|O J<|G _ J<|qa J<|qv<|Qn<|Qf ?_
  exact ⟨_,qm a,wkE [] [] [] J ⟨⟨_,J,K6 (by simp [v,cj]) J qx (ltd J)⟩,qr J,qr J,qr J,qr J,qr J,trivial⟩ ⟨Qt J J,trivial⟩⟩
 refine qc<|O J<|O J<|G _ J<|qa J<|qt<|O J<|O J<|G _ J<|O J<|O J ?_
 obtain ⟨z,ck,a⟩:=q7 a
 obtain ⟨cz,cm,a⟩:=q7 a
 have cn:=Kn cm
 refine U1 [(0,0)] [(0,0)] [.hs 0 1 0 m.length,.d (q8 (w64 (j.1 + 1))),q6 b.2.1,q6 c.1] (.d (.tup [])) [(0,.dat 1 (z.map (eI .i64)))] [(0,.dat 1 (z.map (eI .i64)))] 1 (hrec j.2.2 (w64 (j.1 + 1)) b.2.1 c.1 z ck) J J J (Ym [(0,0)] [] [] J ⟨⟨_,J,K6 (by simp [v]) J qx (ltd J)⟩,qr J,qr J,qr J,trivial⟩ ⟨Qt J J,trivial⟩) (Ym [(0,0)] [] [] J ⟨qr J,trivial⟩ ⟨Qt J J,trivial⟩) J ⟨.inl J,trivial⟩<|q9<|qw<|O J<|qa J<|qv<|Qn<|Qf ?_
 exact ⟨_,qm a,wkE [] [] [] J ⟨⟨_,J,K6 (by simp [v,cn]) J qx (ltd J)⟩,qr J,qr J,qr J,qr J,qr J,trivial⟩ ⟨Qt J J,trivial⟩⟩
theorem qzh (n : Nat) : ∀ (a : List Int) (b : Int) (c : Int) (f : Int) (r : List Int),q7o n  a b c f = some r→K8 Tryz.prog tab 135 [.hs 0 1 0 a.length,q6 b,q6 c,q6 f] [(0,.dat 1 (a.map (eI .i64)))] 1 (.d (.tup [])) [(0,.dat 1 (r.map (eI .i64)))] 1:=by
 induction n with
 | zero=>intro a b c f r g;cases g
 | succ n ih=>intro a b c f r g;exact qzg (q7o n )   ih a b c f r g
theorem qdc (b : List Int) (r : List Int) (a : U4  b = some r) : K8 Tryz.prog tab 120 [.hs 0 1 0 b.length] [(0,.dat 1 (b.map (eI .i64)))] 1 (.d (.tup [])) [(0,.dat 1 (r.map (eI .i64)))] 1:=by
 unfold U4 at a
 refine Kr Tryz.func120 J qh qh J<|qc<|O J<|G _ J<|qa J<|q9<|qw<|O J<|O J<|O J<|G _ J ?_
 obtain ⟨f,h,a⟩:=q7 a
 refine Q4 (qft (IntKind.wrap .u64 (b.length : Int)) f h) J ?_
 obtain ⟨g,c,a⟩:=q7 a
 obtain ⟨l,j,a⟩:=q7 a
 have m:=Kn j
 obtain ⟨k,c⟩:=qfo c
 refine K9 [(0,0)] [(0,0)] _ (.d (.tup [])) 1 [(0,.dat 1 (g.map (eI .i64)))] 1 (qzh k b 0 (b.length : Int) f g c)<|qv ?_
 obtain rfl:=qd a
 exact ⟨.inl J,_,J,wkA [] [] []⟩
theorem qd3 (c : List Int) (r : (Nat × Nat) × List Int) (d : q16  c = some r) : K8 Tryz.prog tab 121 [.hs 0 1 0 c.length] [(0,.dat 1 (c.map (eI .i64)))] 1 (.hs 0 1 r.1.1 r.1.2) [(0,.dat 1 (r.2.map (eI .i64)))] 1:=by
 unfold q16 at d
 refine Kr Tryz.func121 J qh qh J<|qc<|qa J<|q9<|qf<|qc<|O J<|G _ J<|G _ J<|q9 ?_
 refine qo J d (fun _ d=>?_) (fun _ d=>?_)
 ·refine qc<|O J<|qa J<|qs ?_
  obtain rfl:=qd d
  exact ⟨.inr J,_,J,wkA [] [] []⟩
 refine ql<|qf<|qc<|qa J<|q9 ?_
 obtain ⟨n,z,d⟩:=q7 d
 refine Qk (fun k=>.inl k = n) (fun k=>⟨[(0,.hs 0 1 0 c.length)],[(0,.dat 1 (c.map (eI .i64)))],1⟩) qe ?_ ?_
 ·refine Qe (Jk c) (fun l=>⟨[(0,.hs 0 1 0 c.length),(3,q6 l)],[(0,.dat 1 (c.map (eI .i64)))],1⟩) 1 n z (wkA [] [] []) ?_
  intro l af a
  unfold Jk at a
  refine qf<|qc<|O J<|O J<|G _ J<|G _ J<|q9 ?_
  refine qo J a (fun _ a=>?_) (fun _ a=>?_)
  ·refine ql<|qf<|Q3<|qf<|Qj [U,qu 0,U,U,U,U,qu 0,U,U,U] qh<|O J<|O J ?_
   obtain ⟨ag,o,a⟩:=q7 a
   refine qz o J J<|Qd _ o J<|O J<|O J<|G _ J ?_
   obtain ⟨ah,p,a⟩:=q7 a
   refine qz p J J<|Qd _ p J<|G _ J<|q9 ?_
   refine qo J a (fun _ a=>?_) (fun _ a=>?_)
   ·refine qc<|O J<|O J ?_
    obtain ⟨aa,ab,a⟩:=q7 a
    refine q96 ab J J J J J (q3m J) (fun _=>rfl)<|qa J<|q9<|qf<|qc<|qa J<|q9 ?_
    obtain ⟨q,ac,a⟩:=q7 a
    refine Qk (fun f=>f = q) (fun f=>⟨[(0,.hs 0 1 0 f.2.length),(3,q6 f.1)],[(0,.dat 1 (f.2.map (eI .i64)))],1⟩) qe ?_ ?_
    ·refine Qe (q1z) (fun g=>⟨[(0,.hs 0 1 0 g.2.2.2.length),(3,q6 g.1),(4,.hs 0 1 g.2.1.1 g.2.1.2),(5,q6 g.2.2.1)],[(0,.dat 1 (g.2.2.2.map (eI .i64)))],1⟩) (l,aa,1,c) q ac (wkA [] [] []) ?_
     intro g ai h
     unfold q1z at h
     refine qf<|qc<|O J<|O J<|G _ J<|G _ J<|q9 ?_
     refine qo J h (fun _ h=>?_) (fun _ h=>?_)
     ·refine ql<|qf ?_
      obtain ⟨ad,b,h⟩:=q7 h
      refine Qk (fun j=>j = ad) (fun j=>⟨[(0,.hs 0 1 0 j.2.2.length),(3,q6 j.1),(4,.hs 0 1 j.2.1.1 j.2.1.2),(5,q6 g.2.2.1)],[(0,.dat 1 (j.2.2.map (eI .i64)))],1⟩) qe ?_ ?_
      ·refine qf<|Qj [U,qu 0,U,U,U,U,qu 0,U,U,U] qh<|O J<|O J ?_
       obtain ⟨aj,s,b⟩:=q7 b
       refine qg6 s J J J J J J<|Qd _ (qfh s) J<|O J<|O J<|G _ J ?_
       obtain ⟨ak,t,b⟩:=q7 b
       refine qg6 t J J J J J J<|Qd _ (qfh t) J<|G _ J<|q9 ?_
       refine qo J b (fun _ b=>?_) (fun _ b=>?_)
       ·refine qc<|O J<|O J<|O J<|O J ?_
        obtain ⟨u,v,b⟩:=q7 b
        refine qg6 v J J J J J J<|Qd _ (qfh v) J ?_
        obtain ⟨al,x,b⟩:=q7 b
        refine qz x J J<|K5 (ds:=[q8 u]) u x J J J J J J J J (leb J) J<|q9<|qw<|O J<|G _ J<|qa J<|qv ?_
        obtain rfl:=qd b
        exact ⟨_,J,wkE [] [] [] J ⟨⟨_,J,K6 qe J qx (ltd J)⟩,qr J,⟨_,J,.hs J qx (ltd J)⟩,qr J,trivial⟩ ⟨Qt J J,trivial⟩⟩
       refine ql<|Qf ?_
       obtain rfl:=qd b
       exact ⟨_,J,wkA [] [] []⟩
      intro j hb
      subst hb
      refine qw<|O J<|G _ J<|qa J<|qv ?_
      exact ⟨_,qm h,wkA [] [] []⟩
     refine Q8 ?_
     refine ⟨_,qm h,fun hm=>?_⟩
     subst hm
     exact ⟨_,J,wkA [] [] []⟩
    intro f hb
    subst hb
    refine qc<|O J<|O J ?_
    obtain ⟨y,m,a⟩:=q7 a
    refine q96 m J J J J J (q3m J) (fun _=>rfl)<|qtw (w:=y) (xs:=f.2) (enc:=(eI .i64)) 0 (qb0 m) J J J J J J J ?_
    have am:=@qis _ f.2 y 0 (qb0 m)
    refine qt<|O J<|O J ?_
    obtain ⟨an,ae,a⟩:=q7 a
    refine q96 ae J J J J J (fun _=>rfl) (q3m J)<|qa J<|qs ?_
    refine ⟨_,qm a,fun hm=>?_⟩
    subst hm
    obtain rfl:=qd d
    exact ⟨.inr J,_,J,wkA [] [] []⟩
   refine ql<|Qf<|Qn<|qw<|O J<|G _ J<|qa J<|qv ?_
   exact ⟨_,qm a,wkA [] [] []⟩
  refine Q8 ?_
  refine ⟨_,qm a,fun hm=>?_⟩
  subst hm
  exact ⟨_,J,wkA [] [] []⟩
 intro k hb
 subst hb
 refine qc<|O J<|qa J<|qs ?_
 obtain rfl:=qd d
 exact ⟨.inr J,_,J,wkA [] [] []⟩
theorem qyu (b : List qi) (g : qi→Option Bool) (p1F : FuncId) (p1C : List DV) (p1Ok : ∀ (c : qi) (r : Bool),g c = some r→Pure Tryz.prog tab p1F ([.agg [q8 c.X0,q8 c.Y0,q8 c.X1,q8 c.Y1]] ++ p1C) (.bool r)) (r : Int) (f : qda b g = some r) : Pure Tryz.prog tab 137 [.sl 4 (b.map Q2),.fn p1F p1C] (q8 r):=by
 unfold qda at f
 refine Qo Tryz.func137 J qh qh J<|qc<|qa J<|q9<|qf<|qc<|O J<|Qi J<|O J<|q9 ?_
 obtain ⟨j,l,f⟩:=q7 f
 refine Qk (fun h=>.inl h = j) (fun h=>⟨[],[],0⟩) qe ?_ ?_
 ·refine Qe (q4j b g) (fun k=>⟨[(0,.d (.sl 4 (b.map Q2))),(1,.d (.fn p1F p1C)),(7,q6 (b.length : Int)),(8,q6 k)],[],0⟩) 0 j l (wkA [] [] []) ?_
  intro k q a
  unfold q4j at a
  refine qc<|G _ J<|q9<|qf ?_
  refine qo J a (fun _ a=>?_) (fun _ a=>?_)
  ·refine ql<|qf<|Q3<|qc<|O J<|qa J<|qt<|O J<|O J<|O J ?_
   obtain ⟨m,n,a⟩:=q7 a
   refine Qc n J<|G _ J ?_
   obtain ⟨o,p,a⟩:=q7 a
   refine Yk _ (p1Ok m o p) J J J (.inl J)<|q9 ?_
   refine qo J a (fun _ a=>?_) (fun _ a=>?_)
   ·refine qc<|O J<|qa J<|qs ?_
    refine ⟨_,qm a,fun hm=>?_⟩
    subst hm
    obtain rfl:=qd f
    exact Q5 _ J
   refine ql<|Qf<|Qn<|qw<|G _ J<|O J<|qv ?_
   exact ⟨_,qm a,wkA [] [] []⟩
  refine Q8 ?_
  refine ⟨_,qm a,fun hm=>?_⟩
  subst hm
  exact ⟨_,J,wkA [] [] []⟩
 intro h hb
 subst hb
 refine qc<|qa J<|qs ?_
 obtain rfl:=qd f
 exact Q5 _ J
theorem qym (c : List qi) (d : qi→Option Bool) (p1F : FuncId) (p1C : List DV) (p1Ok : ∀ (a : qi) (r : Bool),d a = some r→Pure Tryz.prog tab p1F ([.agg [q8 a.X0,q8 a.Y0,q8 a.X1,q8 a.Y1]] ++ p1C) (.bool r)) (r : Bool) (b : q9r c d = some r) : Pure Tryz.prog tab 123 [.sl 4 (c.map Q2),.fn p1F p1C] (.bool r):=by
 unfold q9r at b
 refine Qo Tryz.func123 J qh qh J<|qc<|qa J<|qt<|O J<|O J ?_
 obtain ⟨f,g,b⟩:=q7 b
 refine Q4 (qyu c d p1F p1C p1Ok f g) J<|G _ J<|qa J<|qs ?_
 obtain rfl:=qd b
 exact Q5 _ J
theorem qcv (c : Int) (r : Bool) (b : q35 c = some r) : Pure Tryz.prog tab 138 [q8 c] (.bool r):=by
 unfold q35 at b
 refine Qo Tryz.func138 J qh qh J<|qc<|qa J<|qt<|O J<|G _ J ?_
 obtain ⟨h,a,b⟩:=q7 b
 refine Qb 4 (fun A st=>∃ d f g,st = A [(8,Q0 h),(7,g),(6,f),(5,d)]) ?_ ?_
 ·refine Q9 J J a (fun a=>?_) (fun a=>?_)
  ·refine O J<|G _ J<|G _ J<|q9 ?_
   obtain rfl:=qd a
   exact ⟨_,_,_,J⟩
  refine qb J<|qb J<|G _ J<|q9 ?_
  obtain rfl:=qd a
  exact ⟨_,_,_,J⟩
 rintro _ ⟨d,f,g,rfl⟩
 refine qa J<|qs ?_
 obtain rfl:=qd b
 exact Q5 _ J
theorem qmk (b : qi) (r : Bool) (a : q6m b = some r) : Pure Tryz.prog tab 125 [.agg [q8 b.X0,q8 b.Y0,q8 b.X1,q8 b.Y1]] (.bool r):=by
 unfold q6m at a
 refine Qo Tryz.func125 J qh qh J<|qc<|Qs _ _ J<|qa J<|qt<|G _ J<|G _ J<|G _ J<|G _ J<|G _ J ?_
 obtain ⟨c1,h,a⟩:=q7 a
 refine Qb 7 (fun A st=>∃ j k l m n o,st = A [(14,Q0 c1),(13,o),(12,n),(11,m),(10,l),(9,k),(8,j)]) ?_ ?_
 ·refine Q9 J J h (fun h=>?_) (fun h=>?_)
  ·refine G _ J<|G _ J<|G _ J<|G _ J<|G _ J<|G _ J<|q9 ?_
   obtain rfl:=qd h
   exact ⟨_,_,_,_,_,_,J⟩
  refine qb J<|qb J<|qb J<|qb J<|qb J<|G _ J<|q9 ?_
  obtain rfl:=qd h
  exact ⟨_,_,_,_,_,_,J⟩
 rintro _ ⟨j,k,l,m,n,o,rfl⟩
 obtain ⟨ah,c,a⟩:=q7 a
 refine Qb 5 (fun A st=>∃ p q s t,st = A [(19,Q0 ah),(18,t),(17,s),(16,q),(15,p)]) ?_ ?_
 ·refine Q9 J J c (fun c=>?_) (fun c=>?_)
  ·refine G _ J<|G _ J ?_
   obtain ⟨ai,aj,c⟩:=q7 c
   refine Q4 (qcv b.X0 ai aj) J<|G _ J<|q9 ?_
   obtain rfl:=qd c
   exact ⟨_,_,_,_,J⟩
  refine qb J<|qb J<|qb J<|G _ J<|q9 ?_
  obtain rfl:=qd c
  exact ⟨_,_,_,_,J⟩
 rintro _ ⟨p,q,s,t,rfl⟩
 obtain ⟨ak,d,a⟩:=q7 a
 refine Qb 5 (fun A st=>∃ u v w x,st = A [(24,Q0 ak),(23,x),(22,w),(21,v),(20,u)]) ?_ ?_
 ·refine Q9 J J d (fun d=>?_) (fun d=>?_)
  ·refine G _ J<|G _ J ?_
   obtain ⟨al,am,d⟩:=q7 d
   refine Q4 (qcv b.X1 al am) J<|G _ J<|q9 ?_
   obtain rfl:=qd d
   exact ⟨_,_,_,_,J⟩
  refine qb J<|qb J<|qb J<|G _ J<|q9 ?_
  obtain rfl:=qd d
  exact ⟨_,_,_,_,J⟩
 rintro _ ⟨u,v,w,x,rfl⟩
 obtain ⟨an,f,a⟩:=q7 a
 refine Qb 5 (fun A st=>∃ y z aa ab,st = A [(29,Q0 an),(28,ab),(27,aa),(26,z),(25,y)]) ?_ ?_
 ·refine Q9 J J f (fun f=>?_) (fun f=>?_)
  ·refine G _ J<|G _ J ?_
   obtain ⟨ao,ap,f⟩:=q7 f
   refine Q4 (qcv b.Y0 ao ap) J<|G _ J<|q9 ?_
   obtain rfl:=qd f
   exact ⟨_,_,_,_,J⟩
  refine qb J<|qb J<|qb J<|G _ J<|q9 ?_
  obtain rfl:=qd f
  exact ⟨_,_,_,_,J⟩
 rintro _ ⟨y,z,aa,ab,rfl⟩
 obtain ⟨aq,g,a⟩:=q7 a
 refine Qb 5 (fun A st=>∃ ac ad ae af,st = A [(34,Q0 aq),(33,af),(32,ae),(31,ad),(30,ac)]) ?_ ?_
 ·refine Q9 J J g (fun g=>?_) (fun g=>?_)
  ·refine G _ J<|G _ J ?_
   obtain ⟨ar,au,g⟩:=q7 g
   refine Q4 (qcv b.Y1 ar au) J<|G _ J<|q9 ?_
   obtain rfl:=qd g
   exact ⟨_,_,_,_,J⟩
  refine qb J<|qb J<|qb J<|G _ J<|q9 ?_
  obtain rfl:=qd g
  exact ⟨_,_,_,_,J⟩
 rintro _ ⟨ac,ad,ae,af,rfl⟩
 refine qa J<|qs ?_
 obtain rfl:=qd a
 exact Q5 _ J
theorem qwj (a : qi) (r : Bool) (b : q34 a = some r) : Pure Tryz.prog tab 124 [.agg [q8 a.X0,q8 a.Y0,q8 a.X1,q8 a.Y1]] (.bool r):=by
 unfold q34 at b
 refine Qo Tryz.func124 J qh qh J<|qc<|Qs _ _ J<|qa J<|qt<|G _ J ?_
 obtain ⟨c,d,b⟩:=q7 b
 refine Q4 (qmk a c d) J<|G _ J<|qa J<|qs ?_
 obtain rfl:=qd b
 exact Q5 _ J
theorem qyx (b : List qk) (f : qk→Option Bool) (p1F : FuncId) (p1C : List DV) (p1Ok : ∀ (g : qk) (r : Bool),f g = some r→Pure Tryz.prog tab p1F ([.agg [q8 g.Lo,q8 g.Hi]] ++ p1C) (.bool r)) (r : Int) (c : q9w b f = some r) : Pure Tryz.prog tab 171 [.sl 2 (b.map Qh),.fn p1F p1C] (q8 r):=by
 unfold q9w at c
 refine Qo Tryz.func171 J qh qh J<|qc<|qa J<|q9<|qf<|qc<|O J<|Qi J<|O J<|q9 ?_
 obtain ⟨j,l,c⟩:=q7 c
 refine Qk (fun h=>.inl h = j) (fun h=>⟨[],[],0⟩) qe ?_ ?_
 ·refine Qe (q3a b f) (fun k=>⟨[(0,.d (.sl 2 (b.map Qh))),(1,.d (.fn p1F p1C)),(7,q6 (b.length : Int)),(8,q6 k)],[],0⟩) 0 j l (wkA [] [] []) ?_
  intro k q a
  unfold q3a at a
  refine qc<|G _ J<|q9<|qf ?_
  refine qo J a (fun _ a=>?_) (fun _ a=>?_)
  ·refine ql<|qf<|Q3<|qc<|O J<|qa J<|qt<|O J<|O J<|O J ?_
   obtain ⟨m,n,a⟩:=q7 a
   refine Qc n J<|G _ J ?_
   obtain ⟨o,p,a⟩:=q7 a
   refine Yk _ (p1Ok m o p) J J J (.inl J)<|q9 ?_
   refine qo J a (fun _ a=>?_) (fun _ a=>?_)
   ·refine qc<|O J<|qa J<|qs ?_
    refine ⟨_,qm a,fun hm=>?_⟩
    subst hm
    obtain rfl:=qd c
    exact Q5 _ J
   refine ql<|Qf<|Qn<|qw<|G _ J<|O J<|qv ?_
   exact ⟨_,qm a,wkA [] [] []⟩
  refine Q8 ?_
  refine ⟨_,qm a,fun hm=>?_⟩
  subst hm
  exact ⟨_,J,wkA [] [] []⟩
 intro h hb
 subst hb
 refine qc<|qa J<|qs ?_
 obtain rfl:=qd c
 exact Q5 _ J
theorem qyo (b : List qk) (c : qk→Option Bool) (p1F : FuncId) (p1C : List DV) (p1Ok : ∀ (d : qk) (r : Bool),c d = some r→Pure Tryz.prog tab p1F ([.agg [q8 d.Lo,q8 d.Hi]] ++ p1C) (.bool r)) (r : Bool) (a : q9t b c = some r) : Pure Tryz.prog tab 158 [.sl 2 (b.map Qh),.fn p1F p1C] (.bool r):=by
 unfold q9t at a
 refine Qo Tryz.func158 J qh qh J<|qc<|qa J<|qt<|O J<|O J ?_
 obtain ⟨f,g,a⟩:=q7 a
 refine Q4 (qyx b c p1F p1C p1Ok f g) J<|G _ J<|qa J<|qs ?_
 obtain rfl:=qd a
 exact Q5 _ J
theorem qo2 (d : qk) (r : Bool) (a : q3h d = some r) : Pure Tryz.prog tab 143 [.agg [q8 d.Lo,q8 d.Hi]] (.bool r):=by
 unfold q3h at a
 refine Qo Tryz.func143 J qh qh J<|qc<|Qs _ _ J<|qa J<|qt<|G _ J<|G _ J<|G _ J<|G _ J<|G _ J ?_
 obtain ⟨o,b,a⟩:=q7 a
 refine Qb 5 (fun A st=>∃ f g h j,st = A [(12,Q0 o),(11,j),(10,h),(9,g),(8,f)]) ?_ ?_
 ·refine Q9 J J b (fun b=>?_) (fun b=>?_)
  ·refine G _ J<|G _ J<|G _ J<|G _ J<|q9 ?_
   obtain rfl:=qd b
   exact ⟨_,_,_,_,J⟩
  refine qb J<|qb J<|qb J<|G _ J<|q9 ?_
  obtain rfl:=qd b
  exact ⟨_,_,_,_,J⟩
 rintro _ ⟨f,g,h,j,rfl⟩
 obtain ⟨p,c,a⟩:=q7 a
 refine Qb 5 (fun A st=>∃ k l m n,st = A [(17,Q0 p),(16,n),(15,m),(14,l),(13,k)]) ?_ ?_
 ·refine Q9 J J c (fun c=>?_) (fun c=>?_)
  ·refine G _ J<|G _ J<|G _ J<|G _ J<|q9 ?_
   obtain rfl:=qd c
   exact ⟨_,_,_,_,J⟩
  refine qb J<|qb J<|qb J<|G _ J<|q9 ?_
  obtain rfl:=qd c
  exact ⟨_,_,_,_,J⟩
 rintro _ ⟨k,l,m,n,rfl⟩
 refine qa J<|qs ?_
 obtain rfl:=qd a
 exact Q5 _ J
theorem q121 (a : qk) (r : Bool) (b : qdl a = some r) : Pure Tryz.prog tab 159 [.agg [q8 a.Lo,q8 a.Hi]] (.bool r):=by
 unfold qdl at b
 refine Qo Tryz.func159 J qh qh J<|qc<|Qs _ _ J<|qa J<|qt<|G _ J ?_
 obtain ⟨c,d,b⟩:=q7 b
 refine Q4 (qo2 a c d) J<|G _ J<|qa J<|qs ?_
 obtain rfl:=qd b
 exact Q5 _ J
theorem q127 (a : qn) (b : qn) (r : Int) (c : qaw a b = some r) : Pure Tryz.prog tab 163 [.agg [q8 a.at_,q8 a.list_,q8 a.by_],.agg [q8 b.at_,q8 b.list_,q8 b.by_]] (q8 r):=by
 unfold qaw at c
 refine Qo Tryz.func163 J qh qh J<|qc<|Qs _ _ J<|Qs _ _ J<|qa J<|qt<|G _ J<|G _ J<|G _ J<|G _ J<|G _ J<|qa J<|qs ?_
 obtain rfl:=qd c
 exact Q5 _ J
theorem qz6 (k : qn→qn→Option Int) (q1F : FuncId) (q1C : List DV) (q1Ok : ∀ (l : qn) (m : qn) (r : Int),k l m = some r→Pure Tryz.prog tab q1F ([.agg [q8 l.at_,q8 l.list_,q8 l.by_],.agg [q8 m.at_,q8 m.list_,q8 m.by_]] ++ q1C) (q8 r)) (n : List qn) (c : Int) (h : Int) (r : List qn) (o : qa3 k n c h = some r) : K8 Tryz.prog tab 175 [.hs 0 3 0 n.length,q6 c,q6 h,.d (.fn q1F q1C)] [(0,.dat 3 (n.map Qr))] 1 (.d (.tup [])) [(0,.dat 3 (r.map Qr))] 1:=by
 unfold qa3 at o
 refine Kr Tryz.func175 J qh qh J<|qc<|O J<|G _ J<|qa J<|q9 ?_
 obtain ⟨al,am,o⟩:=q7 o
 refine Q3<|Qe (qa4 h c k) (fun f=>⟨[(0,.hs 0 3 0 f.2.length),(1,q6 c),(2,q6 h),(3,.d (.fn q1F q1C)),(8,q6 f.1)],[(0,.dat 3 (f.2.map Qr))],1⟩) (w64 (c + 1),n) al am (wkA [] [] []) ?_
 intro f az g
 unfold qa4 at g
 refine qf<|qc<|O J<|O J<|G _ J<|q9 ?_
 refine qo J g (fun _ g=>?_) (fun _ g=>?_)
 ·refine ql<|qf ?_
  obtain ⟨an,q,g⟩:=q7 g
  refine Qk (fun j=>j = an) (fun j=>⟨[(0,.hs 0 3 0 j.length),(1,q6 c),(2,q6 h),(3,.d (.fn q1F q1C)),(8,q6 f.1)],[(0,.dat 3 (j.map Qr))],1⟩) qe ?_ ?_
  ·refine qc<|O J<|qa J<|q9 ?_
   obtain ⟨ao,ap,q⟩:=q7 q
   refine Q3<|Qe (qa5 c k) (fun p=>⟨[(0,.hs 0 3 0 p.2.length),(1,q6 c),(2,q6 h),(3,.d (.fn q1F q1C)),(8,q6 f.1),(9,q6 p.1)],[(0,.dat 3 (p.2.map Qr))],1⟩) (f.1,f.2) ao ap (wkA [] [] []) ?_
   intro p ba a
   unfold qa5 at a
   refine qf<|qf<|Qj [U,U,U,qu 0,U,U,U,U,qu 0,U,U,U,U,U,U,U,U] qh<|O J<|O J<|G _ J ?_
   obtain ⟨aq,b,a⟩:=q7 a
   refine Qb 14 (fun A st=>∃ s t u v w x y z aa ab ac ad ae,st = A [(34,Q0 aq),(33,ae),(32,ad),(31,ac),(30,ab),(29,aa),(28,z),(27,y),(26,x),(25,w),(24,v),(23,u),(22,t),(21,s)]) ?_ ?_
   ·refine Q9 J J b (fun b=>?_) (fun b=>?_)
    ·refine O J<|O J<|O J ?_
     obtain ⟨ar,af,b⟩:=q7 b
     refine qz af J J<|Qd _ af J<|O J<|O J<|G _ J ?_
     obtain ⟨au,ag,b⟩:=q7 b
     refine qz ag J J<|Qd _ ag J ?_
     obtain ⟨av,aw,b⟩:=q7 b
     refine Yk _ (q1Ok ar au av aw) J J J (.inl J)<|G _ J<|G _ J<|q9 ?_
     obtain rfl:=qd b
     exact ⟨_,_,_,_,_,_,_,_,_,_,_,_,_,J⟩
    refine qb J<|qb J<|qb J<|qb J<|qb J<|qb J<|qb J<|qb J<|qb J<|qb J<|qb J<|qb J<|G _ J<|q9 ?_
    obtain rfl:=qd b
    exact ⟨_,_,_,_,_,_,_,_,_,_,_,_,_,J⟩
   rintro _ ⟨s,t,u,v,w,x,y,z,aa,ab,ac,ad,ae,rfl⟩
   refine q9 ?_
   refine qo J a (fun _ a=>?_) (fun _ a=>?_)
   ·refine ql<|qf<|Q3<|Qj [Qv 0,U,Qv 0,U,qu 0,U,U,U,qu 0,U,U,U,U,U,U,U,U,U] qh<|O J<|O J<|O J<|O J<|G _ J<|O J<|O J<|G _ J ?_
    obtain ⟨ax,ah,a⟩:=q7 a
    refine qz ah J J<|Qd _ ah J<|O J<|O J ?_
    obtain ⟨ay,ai,a⟩:=q7 a
    refine qz ai J J<|Qd _ ai J ?_
    obtain ⟨bb,aj,a⟩:=q7 a
    refine qz aj J J<|K5 ax aj J J J J J J J J (leb J) J ?_
    obtain ⟨bc,ak,a⟩:=q7 a
    refine qz ak qe J<|K5 ay ak J J J J J J J J (leb J) J<|qv<|Qn<|qw<|O J<|G _ J<|qa J<|qv ?_
    exact ⟨_,qm a,wkE [] [] [] J ⟨⟨_,J,K6 qe J qx (ltd J)⟩,qr J,qr J,qr J,qr J,qr J,trivial⟩ ⟨Qt J J,trivial⟩⟩
   refine Q8 ?_
   refine ⟨_,qm a,fun hm=>?_⟩
   subst hm
   obtain rfl:=qd q
   exact ⟨_,J,wkA [] [] []⟩
  intro j hb
  subst hb
  refine qw<|O J<|G _ J<|qa J<|qv ?_
  exact ⟨_,qm g,wkA [] [] []⟩
 refine Q8 ?_
 refine ⟨_,qm g,fun hm=>?_⟩
 subst hm
 obtain rfl:=qd o
 exact ⟨.inl J,_,J,wkA [] [] []⟩
theorem qng (o : qn→qn→Option Int) (q1F : FuncId) (q1C : List DV) (q1Ok : ∀ (k : qn) (l : qn) (r : Int),o k l = some r→Pure Tryz.prog tab q1F ([.agg [q8 k.at_,q8 k.list_,q8 k.by_],.agg [q8 l.at_,q8 l.list_,q8 l.by_]] ++ q1C) (q8 r)) (m : List qn) (p : Int) (f : Int) (g : Int) (r : List qn) (h : q7q o m p f g = some r) : K8 Tryz.prog tab 183 [.hs 0 3 0 m.length,q6 p,q6 f,q6 g,.d (.fn q1F q1C)] [(0,.dat 3 (m.map Qr))] 1 (.d (.tup [])) [(0,.dat 3 (r.map Qr))] 1:=by
 unfold q7q at h
 refine Kr Tryz.func183 J qh qh J<|qc<|O J<|qa J<|q9 ?_
 obtain ⟨aq,ar,h⟩:=q7 h
 refine Q3<|Qe (qan f g o) (fun c=>⟨[(0,.hs 0 3 0 c.2.length),(2,q6 f),(3,q6 g),(4,.d (.fn q1F q1C)),(10,q6 c.1)],[(0,.dat 3 (c.2.map Qr))],1⟩) (p,m) aq ar (wkA [] [] []) ?_
 intro c bg a
 unfold qan at a
 refine Q3<|qc<|O J<|G _ J<|G _ J<|qa J<|q9<|qf<|qc<|O J<|O J<|G _ J<|q9 ?_
 refine qo J a (fun _ a=>?_) (fun _ a=>?_)
 ·refine Q8 ?_
  refine ⟨_,qm a,fun hm=>?_⟩
  subst hm
  obtain rfl:=qd h
  exact ⟨.inl J,_,J,wkA [] [] []⟩
 refine ql<|qf<|qf<|Qj [U,U,U,qu 0,U,U,U,U,U,U,qu 0,U,U,U,U,U,U,U,U,U,U,U] qh<|O J<|G _ J<|O J<|G _ J ?_
 obtain ⟨au,b,a⟩:=q7 a
 refine Qb 18 (fun A st=>∃ q s t u v w x y z aa ab ac ad ae af ag ah,st = A [(40,Q0 au),(39,ah),(38,ag),(37,af),(36,ae),(35,ad),(34,ac),(33,ab),(32,aa),(31,z),(30,y),(29,x),(28,w),(27,v),(26,u),(25,t),(24,s),(23,q)]) ?_ ?_
 ·refine Q9 J J b (fun b=>?_) (fun b=>?_)
  ·refine O J<|O J<|O J<|O J<|G _ J ?_
   obtain ⟨av,ai,b⟩:=q7 b
   refine qz ai J J<|Qd _ ai J<|O J<|O J<|O J<|G _ J<|G _ J ?_
   obtain ⟨aw,aj,b⟩:=q7 b
   refine qz aj J J<|Qd _ aj J ?_
   obtain ⟨ax,ay,b⟩:=q7 b
   refine Yk _ (q1Ok av aw ax ay) J J J (.inl J)<|G _ J<|G _ J<|q9 ?_
   obtain rfl:=qd b
   exact ⟨_,_,_,_,_,_,_,_,_,_,_,_,_,_,_,_,_,J⟩
  refine qb J<|qb J<|qb J<|qb J<|qb J<|qb J<|qb J<|qb J<|qb J<|qb J<|qb J<|qb J<|qb J<|qb J<|qb J<|qb J<|G _ J<|q9 ?_
  obtain rfl:=qd b
  exact ⟨_,_,_,_,_,_,_,_,_,_,_,_,_,_,_,_,_,J⟩
 rintro _ ⟨q,s,t,u,v,w,x,y,z,aa,ab,ac,ad,ae,af,ag,ah,rfl⟩
 refine q9 ?_
 obtain ⟨az,j,a⟩:=q7 a
 refine Yw (fun n=>n = az) (fun n=>⟨[(0,.hs 0 3 0 c.2.length),(2,q6 f),(3,q6 g),(4,.d (.fn q1F q1C)),(10,q6 c.1),(11,q6 n)],[(0,.dat 3 (c.2.map Qr))],1⟩) qe ?_ ?_
 ·refine qo J j (fun _ j=>?_) (fun _ j=>?_)
  ·refine qw<|O J<|G _ J<|qa J<|qv ?_
   obtain rfl:=qd j
   exact ⟨_,J,wkA [] [] []⟩
  refine ql<|Qf ?_
  obtain rfl:=qd j
  exact ⟨_,J,wkA [] [] []⟩
 intro n hb
 subst hb
 refine qf<|qf<|Qj [U,U,U,qu 0,U,U,U,U,U,qu 0,U,U,U,U,U,U] qh<|O J<|O J<|O J<|O J<|G _ J ?_
 obtain ⟨ba,ak,a⟩:=q7 a
 refine qz ak J J<|Qd _ ak J<|O J<|O J<|O J<|G _ J ?_
 obtain ⟨bb,al,a⟩:=q7 a
 refine qz al J J<|Qd _ al J ?_
 obtain ⟨bc,bd,a⟩:=q7 a
 refine Yk _ (q1Ok ba bb bc bd) J J J (.inl J)<|G _ J<|G _ J<|q9 ?_
 refine qo J a (fun _ a=>?_) (fun _ a=>?_)
 ·refine q15 ?_
  refine ⟨_,qm a,fun hm=>?_⟩
  subst hm
  obtain rfl:=qd h
  exact ⟨.inr J,_,J,wkA [] [] []⟩
 refine ql<|qf<|Qj [Qv 0,U,Qv 0,U,qu 0,U,U,U,U,U,qu 0,U,U,U,U,U,U,U,U,U,U,U,U,U] qh<|O J<|O J<|O J<|G _ J<|O J<|O J<|O J<|G _ J<|O J<|O J<|O J<|G _ J ?_
 obtain ⟨be,am,a⟩:=q7 a
 refine qz am J J<|Qd _ am J<|O J<|O J<|O J<|G _ J ?_
 obtain ⟨bf,an,a⟩:=q7 a
 refine qz an J J<|Qd _ an J ?_
 obtain ⟨bh,ao,a⟩:=q7 a
 refine qz ao J J<|K5 be ao J J J J J J J J (leb J) J ?_
 obtain ⟨bi,ap,a⟩:=q7 a
 refine qz ap qe J<|K5 bf ap J J J J J J J J (leb J) J<|q9<|qw<|O J<|qa J<|qv<|Qn<|Qf ?_
 exact ⟨_,qm a,wkE [] [] [] J ⟨⟨_,J,K6 qe J qx (ltd J)⟩,qr J,qr J,qr J,qr J,trivial⟩ ⟨Qt J J,trivial⟩⟩
theorem qz4 (h : qn→qn→Option Int) (q1F : FuncId) (q1C : List DV) (q1Ok : ∀ (m : qn) (n : qn) (r : Int),h m n = some r→Pure Tryz.prog tab q1F ([.agg [q8 m.at_,q8 m.list_,q8 m.by_],.agg [q8 n.at_,q8 n.list_,q8 n.by_]] ++ q1C) (q8 r)) (o : List qn) (b : Int) (g : Int) (r : List qn) (j : qa0 h o b g = some r) : K8 Tryz.prog tab 176 [.hs 0 3 0 o.length,q6 b,q6 g,.d (.fn q1F q1C)] [(0,.dat 3 (o.map Qr))] 1 (.d (.tup [])) [(0,.dat 3 (r.map Qr))] 1:=by
 unfold qa0 at j
 refine Kr Tryz.func176 J qh qh J<|qc<|O J<|qa J<|qt<|qa J<|qt<|O J<|O J<|G _ J<|qa J<|q9<|qf<|qc<|O J<|G _ J<|G _ J<|qa J<|q9 ?_
 obtain ⟨q,z,j⟩:=q7 j
 refine Qk (fun k=>k = q) (fun k=>⟨[(0,.hs 0 3 0 k.length),(3,.d (.fn q1F q1C)),(8,q6 b),(9,q6 0),(10,.d (q8 (w64 (g - b))))],[(0,.dat 3 (k.map Qr))],1⟩) qe ?_ ?_
 ·refine Qe (qa1 h g b) (fun l=>⟨[(0,.hs 0 3 0 l.2.length),(3,.d (.fn q1F q1C)),(8,q6 b),(9,q6 0),(10,.d (q8 (w64 (g - b)))),(11,q6 l.1)],[(0,.dat 3 (l.2.map Qr))],1⟩) (w64 (Int.tdiv (w64 ((w64 (g - b)) - 1)) 2),o) q z (wkA [] [] []) ?_
  intro l ai c
  unfold qa1 at c
  refine qf<|qc<|O J<|G _ J<|q9 ?_
  refine qo J c (fun _ c=>?_) (fun _ c=>?_)
  ·refine ql<|qf<|Q3<|qw<|O J<|O J<|O J<|O J<|O J ?_
   obtain ⟨s,aa,c⟩:=q7 c
   obtain ⟨aj,ab,c⟩:=q7 c
   have ac:=Kn ab
   refine K9 [(0,0)] [(0,0)] _ (.d (.tup [])) 1 [(0,.dat 3 (s.map Qr))] 1 (qng h q1F q1C q1Ok l.2 l.1 (w64 (g - b)) b s aa)<|qv<|Qn<|qw<|O J<|G _ J<|qa J<|qv ?_
   exact ⟨_,qm c,wkE [] [] [] J ⟨⟨_,J,K6 (by simp [ac]) J qx (ltd J)⟩,qr J,qr J,qr J,qr J,qr J,trivial⟩ ⟨Qt J J,trivial⟩⟩
  refine Q8 ?_
  refine ⟨_,qm c,fun hm=>?_⟩
  subst hm
  exact ⟨_,J,wkA [] [] []⟩
 intro k hb
 subst hb
 refine qc<|O J<|G _ J<|qa J<|q9 ?_
 obtain ⟨ad,ae,j⟩:=q7 j
 refine Q3<|Qe (qa2 b h) (fun f=>⟨[(0,.hs 0 3 0 f.2.length),(3,.d (.fn q1F q1C)),(8,q6 b),(9,q6 0),(12,q6 f.1)],[(0,.dat 3 (f.2.map Qr))],1⟩) (w64 ((w64 (g - b)) - 1),k) ad ae (wkA [] [] []) ?_
 intro f ak a
 unfold qa2 at a
 refine qf<|qc<|O J<|G _ J<|q9 ?_
 refine qo J a (fun _ a=>?_) (fun _ a=>?_)
 ·refine ql<|qf<|Q3<|qf<|Qj [Qv 0,U,Qv 0,U,qu 0,U,U,U,qu 0,U,U,U,U,U,U,U,U,U,U,U] qh<|O J<|O J<|O J<|O J<|O J<|G _ J<|O J<|O J<|O J<|G _ J ?_
  obtain ⟨t,u,a⟩:=q7 a
  refine qz u J J<|Qd _ u J<|O J<|O J ?_
  obtain ⟨v,w,a⟩:=q7 a
  refine qz w J J<|Qd _ w J ?_
  obtain ⟨al,x,a⟩:=q7 a
  refine qz x J J<|K5 t x J J J J J J J J (leb J) J ?_
  obtain ⟨am,y,a⟩:=q7 a
  refine qz y qe J<|K5 v y J J J J J J J J (leb J) J<|q9<|qw<|O J<|O J<|O J<|O J<|O J ?_
  obtain ⟨p,af,a⟩:=q7 a
  obtain ⟨an,ag,a⟩:=q7 a
  have ah:=Kn ag
  refine U1 [(0,0)] [(0,0)] [.hs 0 3 0 f.2.length,q6 0,q6 f.1,q6 b,.d (.fn q1F q1C)] (.d (.tup [])) [(0,.dat 3 (p.map Qr))] [(0,.dat 3 (p.map Qr))] 1 (qng h q1F q1C q1Ok ((f.2.set b.toNat t).set (w64 (b + f.1)).toNat v) 0 f.1 b p af) J J J (Ym [(0,0)] [] [] J ⟨⟨_,J,K6 qe J qx (ltd J)⟩,qr J,qr J,qr J,qr J,trivial⟩ ⟨Qt J J,trivial⟩) (Ym [(0,0)] [] [] J ⟨qr J,trivial⟩ ⟨Qt J J,trivial⟩) J ⟨.inl J,trivial⟩<|qv<|Qn<|qw<|O J<|G _ J<|qa J<|qv ?_
  exact ⟨_,qm a,wkE [] [] [] J ⟨⟨_,J,K6 (by simp [ah]) J qx (ltd J)⟩,qr J,qr J,qr J,qr J,trivial⟩ ⟨Qt J J,trivial⟩⟩
 refine Q8 ?_
 refine ⟨_,qm a,fun hm=>?_⟩
 subst hm
 obtain rfl:=qd j
 exact ⟨.inl J,_,J,wkA [] [] []⟩
theorem qgy (f : qn→qn→Option Int) (q1F : FuncId) (q1C : List DV) (q1Ok : ∀ (b : qn) (c : qn) (r : Int),f b c = some r→Pure Tryz.prog tab q1F ([.agg [q8 b.at_,q8 b.list_,q8 b.by_],.agg [q8 c.at_,q8 c.list_,q8 c.by_]] ++ q1C) (q8 r)) (g : List qn) (h : Int) (j : Int) (k : Int) (r : Int × Int × Int) (a : q4n f g h j k = some r) : K8 Tryz.prog tab 186 [.d (.sl 3 (g.map Qr)),q6 h,q6 j,.ref 0 1 0 0,.d (.fn q1F q1C)] [(0,.dat 1 [[q8 k]])] 1 (.d (.tup [q8 r.1,q8 r.2.1])) [(0,.dat 1 [[q8 r.2.2]])] 1:=by
 unfold q4n at a
 refine Kr Tryz.func186 J qh qh J<|qc<|qa J<|qa J<|q9<|qf<|qf<|Qj [U,U,U,U,U,U,U,U,U,U,U] qh<|O J<|O J<|O J ?_
 obtain ⟨l,m,a⟩:=q7 a
 refine Qc m J<|G _ J<|O J<|O J ?_
 obtain ⟨n,o,a⟩:=q7 a
 refine Qc o J<|G _ J ?_
 obtain ⟨p,q,a⟩:=q7 a
 refine Yk _ (q1Ok l n p q) J J J (.inl J)<|G _ J<|q9 ?_
 refine qo J a (fun _ a=>?_) (fun _ a=>?_)
 ·refine qc<|O J<|G _ J<|G _ J<|G _ J<|G _ J<|Ql 0 _ J<|qt<|O J<|O J<|qa J<|qa J<|qs ?_
  obtain rfl:=qd a
  exact ⟨.inr J,_,J,wkA [] [] []⟩
 refine ql<|qc<|O J<|O J<|qa J<|qa J<|qs ?_
 obtain rfl:=qd a
 exact ⟨.inr J,_,J,wkA [] [] []⟩
theorem qnd (f : qn→qn→Option Int) (q1F : FuncId) (q1C : List DV) (q1Ok : ∀ (h : qn) (j : qn) (r : Int),f h j = some r→Pure Tryz.prog tab q1F ([.agg [q8 h.at_,q8 h.list_,q8 h.by_],.agg [q8 j.at_,q8 j.list_,q8 j.by_]] ++ q1C) (q8 r)) (g : List qn) (l : Int) (m : Int) (n : Int) (o : Int) (r : Int × Int) (a : q76 f g l m n o = some r) : K8 Tryz.prog tab 185 [.d (.sl 3 (g.map Qr)),q6 l,q6 m,q6 n,.ref 0 1 0 0,.d (.fn q1F q1C)] [(0,.dat 1 [[q8 o]])] 1 (q6 r.1) [(0,.dat 1 [[q8 r.2]])] 1:=by
 unfold q76 at a
 refine Kr Tryz.func185 J qh qh J<|qc<|qa J<|qt<|O J<|O J<|O J<|O J<|O J ?_
 obtain ⟨b,p,a⟩:=q7 a
 refine K9 [(0,0)] [(0,0)] _ (.d (.tup [q8 b.1,q8 b.2.1])) 1 [(0,.dat 1 [[q8 b.2.2]])] 1 (qgy f q1F q1C q1Ok g l m o b p)<|O J<|G _ J<|G _ J<|qa J<|qa J<|qt<|O J<|O J<|O J<|O J<|O J ?_
 obtain ⟨c,q,a⟩:=q7 a
 refine K9 [(0,0)] [(0,0)] _ (.d (.tup [q8 c.1,q8 c.2.1])) 1 [(0,.dat 1 [[q8 c.2.2]])] 1 (qgy f q1F q1C q1Ok g b.2.1 n b.2.2 c q)<|O J<|G _ J<|G _ J<|qa J<|qa J<|qt<|O J<|O J<|O J<|O J<|O J ?_
 obtain ⟨k,s,a⟩:=q7 a
 refine K9 [(0,0)] [(0,0)] _ (.d (.tup [q8 k.1,q8 k.2.1])) 1 [(0,.dat 1 [[q8 k.2.2]])] 1 (qgy f q1F q1C q1Ok g b.1 c.1 c.2.2 k s)<|O J<|G _ J<|G _ J<|qa J<|qa J<|qt<|O J<|qa J<|qs ?_
 obtain rfl:=qd a
 exact ⟨.inr J,_,J,wkA [] [] []⟩
theorem qgw (g : qn→qn→Option Int) (q1F : FuncId) (q1C : List DV) (q1Ok : ∀ (b : qn) (c : qn) (r : Int),g b c = some r→Pure Tryz.prog tab q1F ([.agg [q8 b.at_,q8 b.list_,q8 b.by_],.agg [q8 c.at_,q8 c.list_,q8 c.by_]] ++ q1C) (q8 r)) (h : List qn) (a : Int) (j : Int) (r : Int × Int) (f : q4l g h a j = some r) : K8 Tryz.prog tab 184 [.d (.sl 3 (h.map Qr)),q6 a,.ref 0 1 0 0,.d (.fn q1F q1C)] [(0,.dat 1 [[q8 j]])] 1 (q6 r.1) [(0,.dat 1 [[q8 r.2]])] 1:=by
 unfold q4l at f
 refine Kr Tryz.func184 J qh qh J<|qc<|qa J<|qt<|O J<|O J<|G _ J<|O J<|O J<|G _ J<|O J<|O J ?_
 obtain ⟨k,l,f⟩:=q7 f
 refine K9 [(0,0)] [(0,0)] _ (q6 k.1) 1 [(0,.dat 1 [[q8 k.2]])] 1 (qnd g q1F q1C q1Ok h (w64 (a - 1)) a (w64 (a + 1)) j k l)<|qa J<|qs ?_
 obtain rfl:=qd f
 exact ⟨.inr J,_,J,wkA [] [] []⟩
end Go.Proofs.YtbknppciefodiaaGreat
