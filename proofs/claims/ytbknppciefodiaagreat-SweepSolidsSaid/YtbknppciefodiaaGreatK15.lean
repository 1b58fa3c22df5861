/- W_Alla -/
import Derived.Test.YtbknppciefodiaaGreatK14
namespace Go.Proofs.YtbknppciefodiaaGreat
open Go Go.Am Go.Sh
set_option maxHeartbeats 8000000
set_option maxRecDepth 100000
theorem q41 (h : Qb) (j : Int) (r : Bool) (a : Jg h j = some r) : Pure Tryz.prog tab 27 [.agg [q7 h.X,q7 h.Y,q7 h.Z],q7 j] (.bool r):=by
 unfold Jg at a;refine Qo Tryz.func27 J qh qh J<|qc<|Qq _ _ J<|qb J<|qu<|O _ J<|O _ J<|U J<|O _ J<|q8 a fun c1 b a=>?_;refine Qe 6 (fun A st=>∃ k l m n o,st = A [(14,Q1 c1),(13,o),(12,n),(11,m),(10,l),(9,k)]) ?_ ?_
 ·refine Qf J J b (fun b=>?_) (fun b=>?_)
  ·refine O _ J<|O _ J<|U J<|O _ J<|O _ J<|qa ?_;cases b;exact ⟨_,_,_,_,_,J⟩
  refine qd J<|qd J<|qd J<|qd J<|O _ J<|qa ?_;cases b;exact ⟨_,_,_,_,_,J⟩
 rintro _ ⟨k,l,m,n,o,rfl⟩;refine q8 a fun c8 c a=>?_;refine Qe 6 (fun A st=>∃ p q s t u,st = A [(20,Q1 c8),(19,u),(18,t),(17,s),(16,q),(15,p)]) ?_ ?_
 ·refine Qf J J c (fun c=>?_) (fun c=>?_)
  ·refine O _ J<|O _ J<|U J<|O _ J<|O _ J<|qa ?_;cases c;exact ⟨_,_,_,_,_,J⟩
  refine qd J<|qd J<|qd J<|qd J<|O _ J<|qa ?_;cases c;exact ⟨_,_,_,_,_,J⟩
 rintro _ ⟨p,q,s,t,u,rfl⟩;refine q8 a fun aj d a=>?_;refine Qe 5 (fun A st=>∃ v w x y,st = A [(25,Q1 aj),(24,y),(23,x),(22,w),(21,v)]) ?_ ?_
 ·refine Qf J J d (fun d=>?_) (fun d=>?_)
  ·refine O _ J<|O _ J<|O _ J<|O _ J<|qa ?_;cases d;exact ⟨_,_,_,_,J⟩
  refine qd J<|qd J<|qd J<|O _ J<|qa ?_;cases d;exact ⟨_,_,_,_,J⟩
 rintro _ ⟨v,w,x,y,rfl⟩;refine q8 a fun ak f a=>?_;refine Qe 5 (fun A st=>∃ z aa ab ac,st = A [(30,Q1 ak),(29,ac),(28,ab),(27,aa),(26,z)]) ?_ ?_
 ·refine Qf J J f (fun f=>?_) (fun f=>?_)
  ·refine O _ J<|O _ J<|O _ J<|O _ J<|qa ?_;cases f;exact ⟨_,_,_,_,J⟩
  refine qd J<|qd J<|qd J<|O _ J<|qa ?_;cases f;exact ⟨_,_,_,_,J⟩
 rintro _ ⟨z,aa,ab,ac,rfl⟩;refine q8 a fun al g a=>?_;refine Qe 5 (fun A st=>∃ ad ae af ag,st = A [(35,Q1 al),(34,ag),(33,af),(32,ae),(31,ad)]) ?_ ?_
 ·refine Qf J J g (fun g=>?_) (fun g=>?_)
  ·refine O _ J<|O _ J<|O _ J<|O _ J<|qa ?_;cases g;exact ⟨_,_,_,_,J⟩
  refine qd J<|qd J<|qd J<|O _ J<|qa ?_;cases g;exact ⟨_,_,_,_,J⟩
 rintro _ ⟨ad,ae,af,ag,rfl⟩;refine qb J<|qs ?_;cases a;exact Q5 _ J
theorem qvm (b : K5) (k : List (List qg)) (r : Bool) (c : q69 b k = some r) : Pure Tryz.prog tab 10 [.agg [.sl 7 (b.Lines.map Kc),.sl 5 (b.Marks.map Kf),.int .u8 b.End.Frame.Turn,q7 b.End.Frame.At.X,q7 b.End.Frame.At.Y,q7 b.End.Frame.At.Z,q7 b.End.Drawn],.sl 1 (k.map Qp)] (.bool r):=by
 unfold q69 at c;refine Qo Tryz.func10 J qh qh J<|qc<|Qq _ _ J<|qb J<|qa<|qe<|qc<|O _ J<|O _ J<|Qh J<|O _ J<|q8 c fun c1 l c=>?_;refine Qe 6 (fun A st=>∃ q s t u v,st = A [(18,Q1 c1),(17,v),(16,u),(15,t),(14,s),(13,q)]) ?_ ?_
 ·refine Qf J J l (fun l=>?_) (fun l=>?_)
  ·refine qd J<|qd J<|qd J<|qd J<|O _ J<|qa ?_;cases l;exact ⟨_,_,_,_,_,J⟩
  refine O _ J<|O _ J<|Qh J<|O _ J<|O _ J<|qa ?_;cases l;exact ⟨_,_,_,_,_,J⟩
 rintro _ ⟨q,s,t,u,v,rfl⟩;refine q8 c fun c8 m c=>?_;refine Qe 5 (fun A st=>∃ w x y z,st = A [(23,Q1 c8),(22,z),(21,y),(20,x),(19,w)]) ?_ ?_
 ·refine Qf J J m (fun m=>?_) (fun m=>?_)
  ·refine qd J<|qd J<|qd J<|O _ J<|qa ?_;cases m;exact ⟨_,_,_,_,J⟩
  refine U J<|Qh J<|O _ J<|O _ J<|qa ?_;cases m;exact ⟨_,_,_,_,J⟩
 rintro _ ⟨w,x,y,z,rfl⟩;refine qa ?_;refine qn J c (fun _ c=>?_) (fun _ c=>?_)
 ·refine qc<|qb J<|qs ?_;cases c;exact Q5 _ J
 refine qk<|qe<|qc<|qb J<|qa<|q8 c fun aa bt c=>?_;refine Qi (fun o=>.inl o = aa) (fun o=>⟨[(1,.d (.sl 1 (k.map Qp)))],[],0⟩) qf ?_ ?_
 ·refine Qd (q6a b) (fun ab=>⟨[(1,.d (.sl 1 (k.map Qp))),(2,.ref 0 7 0 0),(5,q9 ab)],[(0,.dat 7 [[.sl 7 (b.Lines.map Kc),.sl 5 (b.Marks.map Kf),.int .u8 b.End.Frame.Turn,q7 b.End.Frame.At.X,q7 b.End.Frame.At.Y,q7 b.End.Frame.At.Z,q7 b.End.Drawn]])],1⟩) 0 aa bt (wkA [(0,0)] [] []) ?_;intro ab cf a;unfold q6a at a;refine qe<|qc<|U J<|O _ J<|O _ J<|Qh J<|O _ J<|qa ?_;refine qn J a (fun _ a=>?_) (fun _ a=>?_)
  ·refine qk<|qe<|Q3<|qe<|Qj [Qv 2,Qv 1,(some [],[2]),(some [],[1]),q0,q0,q0,q0,qt 0,q0,q0,q0,q0,q0,qt 0,q0] qh<|O _ J<|O _ J<|U J<|q8 a fun g bu a=>Q9 bu J<|O _ J<|O _ J<|O _ J<|O _ J<|U J<|q8 a fun h bv a=>Q9 bv J<|O _ J<|O _ J<|Qz J J<|Qz J J<|Qm 1 _ J<|Qm 2 _ J<|qu<|O _ J<|q8 a fun bw bx a=>Q4 (q41 g.From (-2000000) bw bx) J<|O _ J<|q8 a fun bz j a=>?_;refine Qe 5 (fun A st=>∃ ac ad ae af,st = A [(50,Q1 bz),(49,af),(48,ae),(47,ad),(46,ac)]) ?_ ?_
   ·refine Qf J J j (fun j=>?_) (fun j=>?_)
    ·refine qd J<|qd J<|qd J<|O _ J<|qa ?_;cases j;exact ⟨_,_,_,_,J⟩
    refine O _ J<|q8 j fun ca cb j=>Q4 (q41 h.To (-2000000) ca cb) J<|O _ J<|O _ J<|qa ?_;cases j;exact ⟨_,_,_,_,J⟩
   rintro _ ⟨ac,ad,ae,af,rfl⟩;refine q8 a fun cc n a=>?_;refine Qe 34 (fun A st=>∃ ag ah ai aj ak al am an ao ap aq ar au av aw ax ay az ba bb bc bd be bf bg bh bi bj bk bl bm bn bo,st = A [(84,Q1 cc),(83,bo),(82,bn),(81,bm),(80,bl),(79,bk),(78,bj),(77,bi),(76,bh),(75,bg),(74,bf),(73,be),(72,bd),(71,bc),(70,bb),(69,ba),(68,az),(67,ay),(66,ax),(65,aw),(64,av),(63,au),(62,ar),(61,aq),(60,ap),(59,ao),(58,an),(57,am),(56,al),(55,ak),(54,aj),(53,ai),(52,ah),(51,ag)]) ?_ ?_
   ·refine Qf J J n (fun n=>?_) (fun n=>?_)
    ·refine qd J<|qd J<|qd J<|qd J<|qd J<|qd J<|qd J<|qd J<|qd J<|qd J<|qd J<|qd J<|qd J<|qd J<|qd J<|qd J<|qd J<|qd J<|qd J<|qd J<|qd J<|qd J<|qd J<|qd J<|qd J<|qd J<|qd J<|qd J<|qd J<|qd J<|qd J<|qd J<|O _ J<|qa ?_;cases n;exact ⟨_,_,_,_,_,_,_,_,_,_,_,_,_,_,_,_,_,_,_,_,_,_,_,_,_,_,_,_,_,_,_,_,_,J⟩
    refine O _ J<|O _ J<|O _ J<|O _ J<|O _ J<|O _ J<|O _ J<|O _ J<|O _ J<|O _ J<|O _ J<|O _ J<|O _ J<|O _ J<|O _ J<|O _ J<|O _ J<|O _ J<|O _ J<|O _ J<|O _ J<|O _ J<|O _ J<|O _ J<|O _ J<|O _ J<|O _ J<|O _ J<|O _ J<|O _ J<|Uy (r:=max (max (max (max (max (w64 (g.From.X - h.To.X)) (w64 (h.To.X - g.From.X))) (w64 (g.From.Y - h.To.Y))) (w64 (h.To.Y - g.From.Y))) (w64 (g.From.Z - h.To.Z))) (w64 (h.To.Z - g.From.Z))) J J (by simp only [Ux];rfl)<|O _ J<|O _ J<|qa ?_;cases n;exact ⟨_,_,_,_,_,_,_,_,_,_,_,_,_,_,_,_,_,_,_,_,_,_,_,_,_,_,_,_,_,_,_,_,_,J⟩
   rintro _ ⟨ag,ah,ai,aj,ak,al,am,an,ao,ap,aq,ar,au,av,aw,ax,ay,az,ba,bb,bc,bd,be,bf,bg,bh,bi,bj,bk,bl,bm,bn,bo,rfl⟩;refine qa ?_;refine qn J a (fun _ a=>?_) (fun _ a=>?_)
   ·refine qc<|qb J<|qs ?_;refine ⟨_,qm a,fun hm=>?_⟩;subst hm;cases c;exact Q5 _ J
   refine qk<|Qg<|Qn<|qw<|U J<|O _ J<|qb J<|qv<|⟨_,qm a,wkA [(0,0)] [] []⟩
  refine Q8 ?_;refine ⟨_,qm a,fun hm=>?_⟩;subst hm;exact ⟨_,J,wkA [] [] []⟩
 intro o hb;subst hb;refine qe<|qc<|qb J<|qa<|q8 c fun bp cd c=>?_;refine Qi (fun p=>.inl p = bp) (fun p=>⟨[],[],0⟩) qf ?_ ?_
 ·refine Qd (q6b k) (fun bq=>⟨[(1,.d (.sl 1 (k.map Qp))),(8,q9 bq)],[],0⟩) 0 bp cd (wkA [] [] []) ?_;intro bq cg f;unfold q6b at f;refine qe<|qc<|U J<|U J<|Qh J<|O _ J<|qa ?_;refine qn J f (fun _ f=>?_) (fun _ f=>?_)
  ·refine qk<|qe<|Q3<|qc<|U J<|U J<|q8 f fun ch ce f=>Q9 ce J<|O _ J<|Qh J<|O _ J<|qa ?_;refine qn J f (fun _ f=>?_) (fun _ f=>?_)
   ·refine qc<|qb J<|qs ?_;refine ⟨_,qm f,fun hm=>?_⟩;subst hm;cases c;exact Q5 _ J
   refine qk<|Qg<|Qn<|qw<|U J<|O _ J<|qb J<|qv<|⟨_,qm f,wkA [] [] []⟩
  refine Q8 ?_;refine ⟨_,qm f,fun hm=>?_⟩;subst hm;exact ⟨_,J,wkA [] [] []⟩
 intro p hb;subst hb;refine qc<|qb J<|qs ?_;cases c;exact Q5 _ J
theorem qy8 (c : List K7) (g : K7→Option Bool) (p1F : FuncId) (p1C : List DV) (p1Ok : ∀ (b : K7) (r : Bool),g b = some r→Pure Tryz.prog tab p1F ([.agg [q7 b.From.X,q7 b.From.Y,q7 b.From.Z,q7 b.To.X,q7 b.To.Y,q7 b.To.Z,q7 b.Depth]] ++ p1C) (.bool r)) (r : Int) (f : qdl c g = some r) : Pure Tryz.prog tab 96 [.sl 7 (c.map Kc),.fn p1F p1C] (q7 r):=by
 unfold qdl at f;refine Qo Tryz.func96 J qh qh J<|qc<|qb J<|qa<|qe<|qc<|U J<|Qh J<|U J<|qa<|q8 f fun j l f=>?_;refine Qi (fun h=>.inl h = j) (fun h=>⟨[],[],0⟩) qf ?_ ?_
 ·refine Qd (q6v c g) (fun k=>⟨[(0,.d (.sl 7 (c.map Kc))),(1,.d (.fn p1F p1C)),(7,q9 (c.length : Int)),(8,q9 k)],[],0⟩) 0 j l (wkA [] [] []) ?_;intro k q a;unfold q6v at a;refine qc<|O _ J<|qa<|qe ?_;refine qn J a (fun _ a=>?_) (fun _ a=>?_)
  ·refine qk<|qe<|Q3<|qc<|U J<|qb J<|qu<|U J<|U J<|U J<|q8 a fun m n a=>Q9 n J<|O _ J<|q8 a fun o p a=>Yi _ (p1Ok m o p) J J J (.inl J)<|qa ?_;refine qn J a (fun _ a=>?_) (fun _ a=>?_)
   ·refine qc<|U J<|qb J<|qs ?_;refine ⟨_,qm a,fun hm=>?_⟩;subst hm;cases f;exact Q5 _ J
   refine qk<|Qg<|Qn<|qw<|O _ J<|U J<|qv<|⟨_,qm a,wkA [] [] []⟩
  refine Q8 ?_;refine ⟨_,qm a,fun hm=>?_⟩;subst hm;exact ⟨_,J,wkA [] [] []⟩
 intro h hb;subst hb;refine qc<|qb J<|qs ?_;cases f;exact Q5 _ J
theorem qnb (c : List K7) (d : K7→Option Bool) (p1F : FuncId) (p1C : List DV) (p1Ok : ∀ (a : K7) (r : Bool),d a = some r→Pure Tryz.prog tab p1F ([.agg [q7 a.From.X,q7 a.From.Y,q7 a.From.Z,q7 a.To.X,q7 a.To.Y,q7 a.To.Z,q7 a.Depth]] ++ p1C) (.bool r)) (r : Bool) (b : q6t c d = some r) : Pure Tryz.prog tab 65 [.sl 7 (c.map Kc),.fn p1F p1C] (.bool r):=by
 unfold q6t at b;refine Qo Tryz.func65 J qh qh J<|qc<|qb J<|qu<|U J<|U J<|q8 b fun f g b=>Q4 (qy8 c d p1F p1C p1Ok f g) J<|O _ J<|qb J<|qs ?_;cases b;exact Q5 _ J
theorem qod (a : Qb) (r : Bool) (c : qbm a = some r) : Pure Tryz.prog tab 88 [.agg [q7 a.X,q7 a.Y,q7 a.Z]] (.bool r):=by
 unfold qbm at c;refine Qo Tryz.func88 J qh qh J<|qc<|Qq _ _ J<|qb J<|qu<|O _ J<|O _ J<|O _ J<|O _ J<|O _ J<|O _ J<|q1r (r:=min (min a.X a.Y) a.Z) J J (by simp only [q1o];rfl)<|O _ J<|q8 c fun o b c=>?_;refine Qe 10 (fun A st=>∃ d f g h j k l m n,st = A [(20,Q1 o),(19,n),(18,m),(17,l),(16,k),(15,j),(14,h),(13,g),(12,f),(11,d)]) ?_ ?_
 ·refine Qf J J b (fun b=>?_) (fun b=>?_)
  ·refine O _ J<|O _ J<|O _ J<|O _ J<|O _ J<|O _ J<|Uy (r:=max (max a.X a.Y) a.Z) J J (by simp only [Ux];rfl)<|O _ J<|O _ J<|qa ?_;cases b;exact ⟨_,_,_,_,_,_,_,_,_,J⟩
  refine qd J<|qd J<|qd J<|qd J<|qd J<|qd J<|qd J<|qd J<|O _ J<|qa ?_;cases b;exact ⟨_,_,_,_,_,_,_,_,_,J⟩
 rintro _ ⟨d,f,g,h,j,k,l,m,n,rfl⟩;refine qb J<|qs ?_;cases c;exact Q5 _ J
theorem q12p (a : K7) (r : Bool) (b : q89 a = some r) : Pure Tryz.prog tab 87 [.agg [q7 a.From.X,q7 a.From.Y,q7 a.From.Z,q7 a.To.X,q7 a.To.Y,q7 a.To.Z,q7 a.Depth]] (.bool r):=by
 unfold q89 at b;refine Qo Tryz.func87 J qh qh J<|qc<|Qq _ _ J<|qb J<|qu<|qb J<|qa<|qe<|qc<|O _ J<|O _ J<|O _ J<|O _ J<|O _ J<|O _ J<|O _ J<|O _ J<|O _ J<|O _ J<|O _ J<|O _ J<|O _ J<|O _ J<|O _ J<|O _ J<|O _ J<|O _ J<|O _ J<|O _ J<|O _ J<|O _ J<|U J<|qa<|q8 b fun m w b=>?_;refine Qi (fun j=>j = m) (fun j=>⟨[(1,.ref 0 7 0 0),(3,q9 j)],[(0,.dat 7 [[q7 a.From.X,q7 a.From.Y,q7 a.From.Z,q7 a.To.X,q7 a.To.Y,q7 a.To.Z,q7 a.Depth]])],1⟩) qf ?_ ?_
 ·refine Qd (q13 a) (fun k=>⟨[(1,.ref 0 7 0 0),(3,q9 k.1),(27,.d (.agg [q7 (w64 (a.To.X - a.From.X)),q7 (w64 (a.To.Y - a.From.Y)),q7 (w64 (a.To.Z - a.From.Z))])),(28,q9 k.2)],[(0,.dat 7 [[q7 a.From.X,q7 a.From.Y,q7 a.From.Z,q7 a.To.X,q7 a.To.Y,q7 a.To.Z,q7 a.Depth]])],1⟩) (0,0) m w (wkA [(0,0)] [] []) ?_;intro k y6 c;unfold q13 at c;refine qc<|O _ J<|qa<|qe ?_;refine qn J c (fun _ c=>?_) (fun _ c=>?_)
  ·refine qk<|qe<|q8 c fun x f c=>?_;refine Qi (fun l=>l = x) (fun l=>⟨[(1,.ref 0 7 0 0),(3,q9 l),(27,.d (.agg [q7 (w64 (a.To.X - a.From.X)),q7 (w64 (a.To.Y - a.From.Y)),q7 (w64 (a.To.Z - a.From.Z))])),(28,q9 k.2)],[(0,.dat 7 [[q7 a.From.X,q7 a.From.Y,q7 a.From.Z,q7 a.To.X,q7 a.To.Y,q7 a.To.Z,q7 a.Depth]])],1⟩) qf ?_ ?_
   ·refine qc<|q8 f fun y z f=>qte (enc:=(eI .i64)) [w64 (a.To.X - a.From.X),w64 (a.To.Y - a.From.Y),w64 (a.To.Z - a.From.Z)] (q9 y) z (fun _=>rfl) J J J J J J<|qb J<|qu<|U J<|O _ J<|qa ?_;refine qn J f (fun _ f=>?_) (fun _ f=>?_)
    ·refine qw<|U J<|O _ J<|qb J<|qv ?_;cases f;exact ⟨_,J,wkA [(0,0)] [] []⟩
    refine qk<|Qg ?_;cases f;exact ⟨_,J,wkA [(0,0)] [] []⟩
   intro l hb;subst hb;refine qw<|O _ J<|U J<|qv<|⟨_,qm c,wkA [(0,0)] [] []⟩
  refine Q8 ?_;refine ⟨_,qm c,fun hm=>?_⟩;subst hm;exact ⟨_,J,wkA [(0,0)] [] []⟩
 intro j hb;subst hb;refine qc<|O _ J<|O _ J<|q8 b fun aa ab b=>Q4 (qod a.From aa ab) J<|O _ J<|q8 b fun ac g b=>?_;refine Qe 6 (fun A st=>∃ n o p q s,st = A [(45,Q1 ac),(44,s),(43,q),(42,p),(41,o),(40,n)]) ?_ ?_
 ·refine Qf J J g (fun g=>?_) (fun g=>?_)
  ·refine qd J<|qd J<|qd J<|qd J<|O _ J<|qa ?_;cases g;exact ⟨_,_,_,_,_,J⟩
  refine O _ J<|O _ J<|q8 g fun ad ae g=>Q4 (qod a.To ad ae) J<|O _ J<|O _ J<|qa ?_;cases g;exact ⟨_,_,_,_,_,J⟩
 rintro _ ⟨n,o,p,q,s,rfl⟩;refine q8 b fun af h b=>?_;refine Qe 4 (fun A st=>∃ t u v,st = A [(49,Q1 af),(48,v),(47,u),(46,t)]) ?_ ?_
 ·refine Qf J J h (fun h=>?_) (fun h=>?_)
  ·refine qd J<|qd J<|O _ J<|qa ?_;cases h;exact ⟨_,_,_,J⟩
  refine U J<|O _ J<|O _ J<|qa ?_;cases h;exact ⟨_,_,_,J⟩
 rintro _ ⟨t,u,v,rfl⟩;refine qb J<|qs ?_;cases b;exact Q5 _ J
theorem qy9 (c : List Yw) (g : Yw→Option Bool) (p1F : FuncId) (p1C : List DV) (p1Ok : ∀ (b : Yw) (r : Bool),g b = some r→Pure Tryz.prog tab p1F ([.agg [.int .u8 b.Name,.int .u8 b.Frame.Turn,q7 b.Frame.At.X,q7 b.Frame.At.Y,q7 b.Frame.At.Z]] ++ p1C) (.bool r)) (r : Int) (f : qdm c g = some r) : Pure Tryz.prog tab 115 [.sl 5 (c.map Kf),.fn p1F p1C] (q7 r):=by
 unfold qdm at f;refine Qo Tryz.func115 J qh qh J<|qc<|qb J<|qa<|qe<|qc<|U J<|Qh J<|U J<|qa<|q8 f fun j l f=>?_;refine Qi (fun h=>.inl h = j) (fun h=>⟨[],[],0⟩) qf ?_ ?_
 ·refine Qd (q6w c g) (fun k=>⟨[(0,.d (.sl 5 (c.map Kf))),(1,.d (.fn p1F p1C)),(7,q9 (c.length : Int)),(8,q9 k)],[],0⟩) 0 j l (wkA [] [] []) ?_;intro k q a;unfold q6w at a;refine qc<|O _ J<|qa<|qe ?_;refine qn J a (fun _ a=>?_) (fun _ a=>?_)
  ·refine qk<|qe<|Q3<|qc<|U J<|qb J<|qu<|U J<|U J<|U J<|q8 a fun m n a=>Q9 n J<|O _ J<|q8 a fun o p a=>Yi _ (p1Ok m o p) J J J (.inl J)<|qa ?_;refine qn J a (fun _ a=>?_) (fun _ a=>?_)
   ·refine qc<|U J<|qb J<|qs ?_;refine ⟨_,qm a,fun hm=>?_⟩;subst hm;cases f;exact Q5 _ J
   refine qk<|Qg<|Qn<|qw<|O _ J<|U J<|qv<|⟨_,qm a,wkA [] [] []⟩
  refine Q8 ?_;refine ⟨_,qm a,fun hm=>?_⟩;subst hm;exact ⟨_,J,wkA [] [] []⟩
 intro h hb;subst hb;refine qc<|qb J<|qs ?_;cases f;exact Q5 _ J
theorem qy1 (c : List Yw) (d : Yw→Option Bool) (p1F : FuncId) (p1C : List DV) (p1Ok : ∀ (a : Yw) (r : Bool),d a = some r→Pure Tryz.prog tab p1F ([.agg [.int .u8 a.Name,.int .u8 a.Frame.Turn,q7 a.Frame.At.X,q7 a.Frame.At.Y,q7 a.Frame.At.Z]] ++ p1C) (.bool r)) (r : Bool) (b : q9w c d = some r) : Pure Tryz.prog tab 89 [.sl 5 (c.map Kf),.fn p1F p1C] (.bool r):=by
 unfold q9w at b;refine Qo Tryz.func89 J qh qh J<|qc<|qb J<|qu<|U J<|U J<|q8 b fun f g b=>Q4 (qy9 c d p1F p1C p1Ok f g) J<|O _ J<|qb J<|qs ?_;cases b;exact Q5 _ J
theorem qrk (a : Qb) (d : Int) (r : Bool) (c : q8z a d = some r) : Pure Tryz.prog tab 91 [.agg [q7 a.X,q7 a.Y,q7 a.Z],q7 d] (.bool r):=by
 unfold q8z at c;refine Qo Tryz.func91 J qh qh J<|qc<|Qq _ _ J<|qb J<|qu<|O _ J<|O _ J<|O _ J<|O _ J<|O _ J<|O _ J<|q1r (r:=min (min a.X a.Y) a.Z) J J (by simp only [q1o];rfl)<|U J<|O _ J<|q8 c fun p b c=>?_;refine Qe 10 (fun A st=>∃ f g h j k l m n o,st = A [(23,Q1 p),(22,o),(21,n),(20,m),(19,l),(18,k),(17,j),(16,h),(15,g),(14,f)]) ?_ ?_
 ·refine Qf J J b (fun b=>?_) (fun b=>?_)
  ·refine O _ J<|O _ J<|O _ J<|O _ J<|O _ J<|O _ J<|Uy (r:=max (max a.X a.Y) a.Z) J J (by simp only [Ux];rfl)<|O _ J<|O _ J<|qa ?_;cases b;exact ⟨_,_,_,_,_,_,_,_,_,J⟩
  refine qd J<|qd J<|qd J<|qd J<|qd J<|qd J<|qd J<|qd J<|O _ J<|qa ?_;cases b;exact ⟨_,_,_,_,_,_,_,_,_,J⟩
 rintro _ ⟨f,g,h,j,k,l,m,n,o,rfl⟩;refine qb J<|qs ?_;cases c;exact Q5 _ J
theorem qjv (c : Ju) (r : Int) (a : q5b c = some r) : Pure Tryz.prog tab 61 [.agg [.int .u8 c.Turn,q7 c.At.X,q7 c.At.Y,q7 c.At.Z]] (q7 r):=by
 unfold q5b at a;refine Qo Tryz.func61 J qh qh J<|qc<|Qq _ _ J<|qb J<|qa<|qe<|qc<|O _ J<|O _ J<|O _ J<|q8 a fun k b a=>?_;refine Qe 6 (fun A st=>∃ d f g h j,st = A [(11,Q1 k),(10,j),(9,h),(8,g),(7,f),(6,d)]) ?_ ?_
 ·refine Qf J J b (fun b=>?_) (fun b=>?_)
  ·refine qd J<|qd J<|qd J<|qd J<|O _ J<|qa ?_;cases b;exact ⟨_,_,_,_,_,J⟩
  refine O _ J<|O _ J<|q8 b fun l m b=>Q4 (qrk c.At (-1000000) l m) J<|O _ J<|O _ J<|qa ?_;cases b;exact ⟨_,_,_,_,_,J⟩
 rintro _ ⟨d,f,g,h,j,rfl⟩;refine qa ?_;refine qn J a (fun _ a=>?_) (fun _ a=>?_)
 ·refine qc<|qb J<|qs ?_;cases a;exact Q5 _ J
 refine qk<|qc<|qb J<|qs ?_;cases a;exact Q5 _ J
theorem q12q (a : Yw) (r : Bool) (b : q8a a = some r) : Pure Tryz.prog tab 90 [.agg [.int .u8 a.Name,.int .u8 a.Frame.Turn,q7 a.Frame.At.X,q7 a.Frame.At.Y,q7 a.Frame.At.Z]] (.bool r):=by
 unfold q8a at b;refine Qo Tryz.func90 J qh qh J<|qc<|Qq _ _ J<|qb J<|qu<|O _ J<|O _ J<|q8 b fun c d b=>Q4 (qjv a.Frame c d) J<|O _ J<|qb J<|qs ?_;cases b;exact Q5 _ J
theorem q12r (b : K5) (r : Int) (a : qbl b = some r) : Pure Tryz.prog tab 60 [.agg [.sl 7 (b.Lines.map Kc),.sl 5 (b.Marks.map Kf),.int .u8 b.End.Frame.Turn,q7 b.End.Frame.At.X,q7 b.End.Frame.At.Y,q7 b.End.Frame.At.Z,q7 b.End.Drawn]] (q7 r):=by
 unfold qbl at a;refine Qo Tryz.func60 J qh qh J<|qc<|Qq _ _ J<|qb J<|qu<|O _ J<|O _ J<|q8 a fun r1 h2 a=>Q4 (qnb b.Lines (fun c=>q89 c) 87 [] (fun c r hr=>q12p c r hr) r1 h2) J<|qb J<|qu<|O _ J<|O _ J<|q8 a fun r3 h4 a=>Q4 (qy1 b.Marks (fun c=>q8a c) 90 [] (fun c r hr=>q12q c r hr) r3 h4) J<|qb J<|qa<|qe<|qc<|U J<|q8 a fun c5 f a=>?_;refine Qe 3 (fun A st=>∃ h j,st = A [(14,Q1 c5),(13,j),(12,h)]) ?_ ?_
 ·refine Qf J J f (fun f=>?_) (fun f=>?_)
  ·refine qd J<|O _ J<|qa ?_;cases f;exact ⟨_,_,J⟩
  refine U J<|O _ J<|qa ?_;cases f;exact ⟨_,_,J⟩
 rintro _ ⟨h,j,rfl⟩;refine q8 a fun af d a=>?_;refine Qe 7 (fun A st=>∃ k l m n o p,st = A [(21,Q1 af),(20,p),(19,o),(18,n),(17,m),(16,l),(15,k)]) ?_ ?_
 ·refine Qf J J d (fun d=>?_) (fun d=>?_)
  ·refine qd J<|qd J<|qd J<|qd J<|qd J<|O _ J<|qa ?_;cases d;exact ⟨_,_,_,_,_,_,J⟩
  refine O _ J<|O _ J<|O _ J<|q8 d fun ag ah d=>Q4 (qjv b.End.Frame ag ah) J<|O _ J<|O _ J<|qa ?_;cases d;exact ⟨_,_,_,_,_,_,J⟩
 rintro _ ⟨k,l,m,n,o,p,rfl⟩;refine q8 a fun ai g a=>?_;refine Qe 10 (fun A st=>∃ q s t u v w x y z,st = A [(31,Q1 ai),(30,z),(29,y),(28,x),(27,w),(26,v),(25,u),(24,t),(23,s),(22,q)]) ?_ ?_
 ·refine Qf J J g (fun g=>?_) (fun g=>?_)
  ·refine qd J<|qd J<|qd J<|qd J<|qd J<|qd J<|qd J<|qd J<|O _ J<|qa ?_;cases g;exact ⟨_,_,_,_,_,_,_,_,_,J⟩
  refine O _ J<|O _ J<|Qh J<|O _ J<|O _ J<|Qh J<|Uy (r:=max (b.Lines.length : Int) (b.Marks.length : Int)) J J (by simp only [Ux];rfl)<|O _ J<|O _ J<|qa ?_;cases g;exact ⟨_,_,_,_,_,_,_,_,_,J⟩
 rintro _ ⟨q,s,t,u,v,w,x,y,z,rfl⟩;refine qa ?_;refine qn J a (fun _ a=>?_) (fun _ a=>?_)
 ·refine qc<|qb J<|qs ?_;cases a;exact Q5 _ J
 refine qk<|qc<|qb J<|qs ?_;cases a;exact Q5 _ J
theorem qhk (a : Int) (r : Int) (b : q8b a = some r) : Pure Tryz.prog tab 69 [q7 a] (q7 r):=by
 unfold q8b at b;refine Qo Tryz.func69 J qh qh J<|qc<|qb J<|qu<|U J<|U J<|O _ J<|Uy (r:=max a (w64 (0 - a))) J J (by simp only [Ux];rfl)<|qb J<|qs ?_;cases b;exact Q5 _ J
theorem q12o (b : K5) (r : Int × Int) (c : qbk b = some r) : Pure Tryz.prog tab 43 [.agg [.sl 7 (b.Lines.map Kc),.sl 5 (b.Marks.map Kf),.int .u8 b.End.Frame.Turn,q7 b.End.Frame.At.X,q7 b.End.Frame.At.Y,q7 b.End.Frame.At.Z,q7 b.End.Drawn]] (.tup [q7 r.1,q7 r.2]):=by
 unfold qbk at c;refine Qo Tryz.func43 J qh qh J<|qc<|Qq _ _ J<|qb J<|qb J<|qa<|qe<|qc<|O _ J<|q8 c fun k l c=>Q4 (q12r b k l) J<|qb J<|qu<|U J<|O _ J<|qa ?_;refine qn J c (fun _ c=>?_) (fun _ c=>?_)
 ·refine qc<|U J<|qb J<|qb J<|qs ?_;cases c;exact Q5 _ J
 refine qk<|qc<|qb J<|qa<|qe<|qc<|O _ J<|O _ J<|Qh J<|U J<|qa<|q8 c fun j m c=>?_;refine Qi (fun g=>g = j) (fun g=>⟨[(5,q9 g)],[],0⟩) qf ?_ ?_
 ·refine Qd (q88 b) (fun h=>⟨[(5,q9 h.1),(14,.d (.sl 7 (b.Lines.map Kc))),(15,q9 (b.Lines.length : Int)),(16,q9 h.2)],[],0⟩) (0,0) j m (wkA [] [] []) ?_;intro h v a;unfold q88 at a;refine qc<|O _ J<|qa<|qe ?_;refine qn J a (fun _ a=>?_) (fun _ a=>?_)
  ·refine qk<|qe<|Q3<|qc<|q8 a fun f n a=>Q9 n J<|O _ J<|Qz J J<|Qm 0 _ J<|qa<|Qj [q0,q0,q0,q0,q0,qt 0,q0,q0,qt 0,q0,q0,q0,q0,q0,qt 0,q0,q0,qt 0,q0,q0,q0,q0,qt 0,q0,q0,qt 0,q0,q0,q0] qh<|U J<|O _ J<|O _ J<|O _ J<|O _ J<|O _ J<|O _ J<|O _ J<|q8 a fun o p a=>Q4 (qhk (w64 (f.To.X - f.From.X)) o p) J<|O _ J<|O _ J<|O _ J<|O _ J<|O _ J<|O _ J<|O _ J<|q8 a fun q s a=>Q4 (qhk (w64 (f.To.Y - f.From.Y)) q s) J<|O _ J<|O _ J<|O _ J<|O _ J<|O _ J<|O _ J<|O _ J<|O _ J<|q8 a fun t u a=>Q4 (qhk (w64 (f.To.Z - f.From.Z)) t u) J ?_;refine O _ J<|O _ J<|qb J<|qv<|Qn<|qw<|O _ J<|U J<|qv<|⟨_,qm a,wkA [] [] []⟩
  refine Q8 ?_;refine ⟨_,qm a,fun hm=>?_⟩;subst hm;exact ⟨_,J,wkA [] [] []⟩
 intro g hb;subst hb;refine qc<|U J<|qb J<|qb J<|qs ?_;cases c;exact Q5 _ J
theorem qyc (c : List qg) (g : qg→Option Bool) (p1F : FuncId) (p1C : List DV) (p1Ok : ∀ (b : qg) (r : Bool),g b = some r→Pure Tryz.prog tab p1F ([.agg [q7 b.Lo.X,q7 b.Lo.Y,q7 b.Lo.Z,q7 b.Hi.X,q7 b.Hi.Y,q7 b.Hi.Z]] ++ p1C) (.bool r)) (r : Int) (f : qa1 c g = some r) : Pure Tryz.prog tab 85 [.sl 6 (c.map Qa),.fn p1F p1C] (q7 r):=by
 unfold qa1 at f;refine Qo Tryz.func85 J qh qh J<|qc<|qb J<|qa<|qe<|qc<|U J<|Qh J<|U J<|qa<|q8 f fun j l f=>?_;refine Qi (fun h=>.inl h = j) (fun h=>⟨[],[],0⟩) qf ?_ ?_
 ·refine Qd (q11 c g) (fun k=>⟨[(0,.d (.sl 6 (c.map Qa))),(1,.d (.fn p1F p1C)),(7,q9 (c.length : Int)),(8,q9 k)],[],0⟩) 0 j l (wkA [] [] []) ?_;intro k q a;unfold q11 at a;refine qc<|O _ J<|qa<|qe ?_;refine qn J a (fun _ a=>?_) (fun _ a=>?_)
  ·refine qk<|qe<|Q3<|qc<|U J<|qb J<|qu<|U J<|U J<|U J<|q8 a fun m n a=>Q9 n J<|O _ J<|q8 a fun o p a=>Yi _ (p1Ok m o p) J J J (.inl J)<|qa ?_;refine qn J a (fun _ a=>?_) (fun _ a=>?_)
   ·refine qc<|U J<|qb J<|qs ?_;refine ⟨_,qm a,fun hm=>?_⟩;subst hm;cases f;exact Q5 _ J
   refine qk<|Qg<|Qn<|qw<|O _ J<|U J<|qv<|⟨_,qm a,wkA [] [] []⟩
  refine Q8 ?_;refine ⟨_,qm a,fun hm=>?_⟩;subst hm;exact ⟨_,J,wkA [] [] []⟩
 intro h hb;subst hb;refine qc<|qb J<|qs ?_;cases f;exact Q5 _ J
theorem qh7 (c : List qg) (d : qg→Option Bool) (p1F : FuncId) (p1C : List DV) (p1Ok : ∀ (a : qg) (r : Bool),d a = some r→Pure Tryz.prog tab p1F ([.agg [q7 a.Lo.X,q7 a.Lo.Y,q7 a.Lo.Z,q7 a.Hi.X,q7 a.Hi.Y,q7 a.Hi.Z]] ++ p1C) (.bool r)) (r : Bool) (b : q1x c d = some r) : Pure Tryz.prog tab 57 [.sl 6 (c.map Qa),.fn p1F p1C] (.bool r):=by
 unfold q1x at b;refine Qo Tryz.func57 J qh qh J<|qc<|qb J<|qu<|U J<|U J<|q8 b fun f g b=>Q4 (qyc c d p1F p1C p1Ok f g) J<|O _ J<|qb J<|qs ?_;cases b;exact Q5 _ J
theorem qnp (a : Qb) (r : Bool) (c : q7w a = some r) : Pure Tryz.prog tab 97 [.agg [q7 a.X,q7 a.Y,q7 a.Z]] (.bool r):=by
 unfold q7w at c;refine Qo Tryz.func97 J qh qh J<|qc<|Qq _ _ J<|qb J<|qu<|O _ J<|O _ J<|O _ J<|O _ J<|O _ J<|O _ J<|q1r (r:=min (min a.X a.Y) a.Z) J J (by simp only [q1o];rfl)<|O _ J<|q8 c fun o b c=>?_;refine Qe 10 (fun A st=>∃ d f g h j k l m n,st = A [(20,Q1 o),(19,n),(18,m),(17,l),(16,k),(15,j),(14,h),(13,g),(12,f),(11,d)]) ?_ ?_
 ·refine Qf J J b (fun b=>?_) (fun b=>?_)
  ·refine O _ J<|O _ J<|O _ J<|O _ J<|O _ J<|O _ J<|Uy (r:=max (max a.X a.Y) a.Z) J J (by simp only [Ux];rfl)<|O _ J<|O _ J<|qa ?_;cases b;exact ⟨_,_,_,_,_,_,_,_,_,J⟩
  refine qd J<|qd J<|qd J<|qd J<|qd J<|qd J<|qd J<|qd J<|O _ J<|qa ?_;cases b;exact ⟨_,_,_,_,_,_,_,_,_,J⟩
 rintro _ ⟨d,f,g,h,j,k,l,m,n,rfl⟩;refine qb J<|qs ?_;cases c;exact Q5 _ J
theorem qnr (b : qg) (r : Bool) (a : q7x b = some r) : Pure Tryz.prog tab 71 [.agg [q7 b.Lo.X,q7 b.Lo.Y,q7 b.Lo.Z,q7 b.Hi.X,q7 b.Hi.Y,q7 b.Hi.Z]] (.bool r):=by
 unfold q7x at a;refine Qo Tryz.func71 J qh qh J<|qc<|Qq _ _ J<|qb J<|qu<|O _ J<|O _ J<|O _ J<|O _ J<|O _ J<|O _ J<|O _ J<|q8 a fun c1 f a=>?_;refine Qe 9 (fun A st=>∃ h j k l m n o p,st = A [(18,Q1 c1),(17,p),(16,o),(15,n),(14,m),(13,l),(12,k),(11,j),(10,h)]) ?_ ?_
 ·refine Qf J J f (fun f=>?_) (fun f=>?_)
  ·refine O _ J<|O _ J<|O _ J<|O _ J<|O _ J<|O _ J<|O _ J<|O _ J<|qa ?_;cases f;exact ⟨_,_,_,_,_,_,_,_,J⟩
  refine qd J<|qd J<|qd J<|qd J<|qd J<|qd J<|qd J<|O _ J<|qa ?_;cases f;exact ⟨_,_,_,_,_,_,_,_,J⟩
 rintro _ ⟨h,j,k,l,m,n,o,p,rfl⟩;refine q8 a fun ai g a=>?_;refine Qe 9 (fun A st=>∃ q s t u v w x y,st = A [(27,Q1 ai),(26,y),(25,x),(24,w),(23,v),(22,u),(21,t),(20,s),(19,q)]) ?_ ?_
 ·refine Qf J J g (fun g=>?_) (fun g=>?_)
  ·refine O _ J<|O _ J<|O _ J<|O _ J<|O _ J<|O _ J<|O _ J<|O _ J<|qa ?_;cases g;exact ⟨_,_,_,_,_,_,_,_,J⟩
  refine qd J<|qd J<|qd J<|qd J<|qd J<|qd J<|qd J<|O _ J<|qa ?_;cases g;exact ⟨_,_,_,_,_,_,_,_,J⟩
 rintro _ ⟨q,s,t,u,v,w,x,y,rfl⟩;refine q8 a fun aj c a=>?_;refine Qe 5 (fun A st=>∃ z aa ab ac,st = A [(32,Q1 aj),(31,ac),(30,ab),(29,aa),(28,z)]) ?_ ?_
 ·refine Qf J J c (fun c=>?_) (fun c=>?_)
  ·refine O _ J<|O _ J<|q8 c fun ak al c=>Q4 (qnp b.Lo ak al) J<|O _ J<|qa ?_;cases c;exact ⟨_,_,_,_,J⟩
  refine qd J<|qd J<|qd J<|O _ J<|qa ?_;cases c;exact ⟨_,_,_,_,J⟩
 rintro _ ⟨z,aa,ab,ac,rfl⟩;refine q8 a fun am d a=>?_;refine Qe 5 (fun A st=>∃ ad ae af ag,st = A [(37,Q1 am),(36,ag),(35,af),(34,ae),(33,ad)]) ?_ ?_
 ·refine Qf J J d (fun d=>?_) (fun d=>?_)
  ·refine O _ J<|O _ J<|q8 d fun an ao d=>Q4 (qnp b.Hi an ao) J<|O _ J<|qa ?_;cases d;exact ⟨_,_,_,_,J⟩
  refine qd J<|qd J<|qd J<|O _ J<|qa ?_;cases d;exact ⟨_,_,_,_,J⟩
 rintro _ ⟨ad,ae,af,ag,rfl⟩;refine qb J<|qs ?_;cases a;exact Q5 _ J
theorem q111 (a : qg) (r : Bool) (b : q34 a = some r) : Pure Tryz.prog tab 70 [.agg [q7 a.Lo.X,q7 a.Lo.Y,q7 a.Lo.Z,q7 a.Hi.X,q7 a.Hi.Y,q7 a.Hi.Z]] (.bool r):=by
 unfold q34 at b;refine Qo Tryz.func70 J qh qh J<|qc<|Qq _ _ J<|qb J<|qu<|O _ J<|q8 b fun c d b=>Q4 (qnr a c d) J<|O _ J<|qb J<|qs ?_;cases b;exact Q5 _ J
theorem qss (k : Int) (r : Int) (a : q2p k = some r) : Pure Tryz.prog tab 156 [.int .u64 k] (q7 r):=by
 unfold q2p at a;refine Qo Tryz.func156 J qh qh J<|qc<|qb J<|qa<|qe<|qc<|U J<|O _ J<|qa<|q8 a fun l b a=>?_;refine Ys (fun c=>c = l) (fun c=>⟨[(0,.d (.int .u64 c.1)),(2,q9 c.2)],[],0⟩) qf ?_ ?_
 ·refine qn J b (fun _ b=>?_) (fun _ b=>?_)
  ·refine qc<|U J<|O _ J<|qb J<|qa<|qw<|qb J<|qv ?_;cases b;exact ⟨_,J,wkA [] [] []⟩
  refine qk<|Qg ?_;cases b;exact ⟨_,J,wkA [] [] []⟩
 intro c hb;subst hb;refine qe<|qc<|U J<|O _ J<|qa<|q8 a fun m f a=>?_;refine Ys (fun g=>g = m) (fun g=>⟨[(0,.d (.int .u64 g.1)),(2,q9 g.2)],[],0⟩) qf ?_ ?_
 ·refine qn J f (fun _ f=>?_) (fun _ f=>?_)
  ·refine qc<|U J<|O _ J<|qb J<|qa<|qw<|U J<|O _ J<|qb J<|qv ?_;cases f;exact ⟨_,J,wkA [] [] []⟩
  refine qk<|Qg ?_;cases f;exact ⟨_,J,wkA [] [] []⟩
 intro g hb;subst hb;refine qe<|qc<|U J<|O _ J<|qa<|q8 a fun n h a=>?_;refine Ys (fun j=>j = n) (fun j=>⟨[(0,.d (.int .u64 j.1)),(2,q9 j.2)],[],0⟩) qf ?_ ?_
 ·refine qn J h (fun _ h=>?_) (fun _ h=>?_)
  ·refine qc<|U J<|O _ J<|qb J<|qa<|qw<|U J<|O _ J<|qb J<|qv ?_;cases h;exact ⟨_,J,wkA [] [] []⟩
  refine qk<|Qg ?_;cases h;exact ⟨_,J,wkA [] [] []⟩
 intro j hb;subst hb;refine qc<|U J<|U J<|O _ J<|q8 a fun p o a=>qtf qdz o J J J J J<|O _ J<|O _ J<|qb J<|qs ?_;cases a;exact Q5 _ J
theorem qfz (b : Int) (r : Int) (a : Uw b = some r) : Pure Tryz.prog tab 136 [.int .u64 b] (q7 r):=by
 unfold Uw at a;refine Qo Tryz.func136 J qh qh J<|qc<|qb J<|qa<|qe<|Ze J<|qk<|qc<|U J<|q8 a fun c d a=>Q4 (qss b c d) J<|qb J<|qs ?_;cases a;exact Q5 _ J
theorem qir (a : Int) (r : Bool) (b : q8m a = some r) : Pure Tryz.prog tab 170 [q7 a] (.bool r):=by
 unfold q8m at b;refine Qo Tryz.func170 J qh qh J<|qc<|qb J<|qu<|U J<|U J<|O _ J<|qb J<|qs ?_;cases b;exact Q5 _ J
theorem Zx (d : Int) (f : Int) (r : Bool) (a : Zb d f = some r) : Pure Tryz.prog tab 152 [q7 d,q7 f] (.bool r):=by
 unfold Zb at a;refine Qo Tryz.func152 J qh qh J<|qc<|qb J<|qu<|U J<|q8 a fun p q a=>Q4 (qir d p q) J<|q8 a fun s b a=>?_;refine Qe 5 (fun A st=>∃ g h j k,st = A [(11,Q1 s),(10,k),(9,j),(8,h),(7,g)]) ?_ ?_
 ·refine Qf J J b (fun b=>?_) (fun b=>?_)
  ·refine U J<|q8 b fun t u b=>Q4 (qir f t u) J<|O _ J<|O _ J<|qa ?_;cases b;exact ⟨_,_,_,_,J⟩
  refine qd J<|qd J<|qd J<|O _ J<|qa ?_;cases b;exact ⟨_,_,_,_,J⟩
 rintro _ ⟨g,h,j,k,rfl⟩;refine q8 a fun v c a=>?_;refine Qe 5 (fun A st=>∃ l m n o,st = A [(16,Q1 v),(15,o),(14,n),(13,m),(12,l)]) ?_ ?_
 ·refine Qf J J c (fun c=>?_) (fun c=>?_)
  ·refine qd J<|qd J<|qd J<|O _ J<|qa ?_;cases c;exact ⟨_,_,_,_,J⟩
  refine U J<|U J<|O _ J<|O _ J<|qa ?_;cases c;exact ⟨_,_,_,_,J⟩
 rintro _ ⟨l,m,n,o,rfl⟩;refine qb J<|qs ?_;cases a;exact Q5 _ J
theorem qyn (k : List Int) (c : Int) (h : Int) (r : List Int) (l : q74  k c h = some r) : K9 Tryz.prog tab 146 [.hs 0 1 0 k.length,q9 c,q9 h] [(0,.dat 1 (k.map (eI .i64)))] 1 (.d (.tup [])) [(0,.dat 1 (r.map (eI .i64)))] 1:=by
 unfold q74 at l;refine Kv Tryz.func146 J qh qh J<|qc<|U J<|O _ J<|qb J<|qa<|q8 l fun ai aj l=>Q3<|Qd (q75 h c) (fun f=>⟨[(0,.hs 0 1 0 f.2.length),(1,q9 c),(2,q9 h),(6,q9 f.1)],[(0,.dat 1 (f.2.map (eI .i64)))],1⟩) (w64 (c + 1),k) ai aj (wkA [] [] []) ?_;intro f au g;unfold q75 at g;refine qe<|qc<|U J<|U J<|O _ J<|qa ?_;refine qn J g (fun _ g=>?_) (fun _ g=>?_)
 ·refine qk<|qe<|q8 g fun ak n g=>?_;refine Qi (fun j=>j = ak) (fun j=>⟨[(0,.hs 0 1 0 j.length),(1,q9 c),(2,q9 h),(6,q9 f.1)],[(0,.dat 1 (j.map (eI .i64)))],1⟩) qf ?_ ?_
  ·refine qc<|U J<|qb J<|qa<|q8 n fun al am n=>Q3<|Qd (q76 c) (fun m=>⟨[(0,.hs 0 1 0 m.2.length),(1,q9 c),(2,q9 h),(6,q9 f.1),(7,q9 m.1)],[(0,.dat 1 (m.2.map (eI .i64)))],1⟩) (f.1,f.2) al am (wkA [] [] []) ?_;intro m av a;unfold q76 at a;refine qe<|qe<|Qj [q0,q0,qt 0,q0,q0,q0,q0,qt 0,q0,q0,q0,q0,q0,q0,q0] qh<|U J<|U J<|O _ J<|q8 a fun an b a=>?_;refine Qe 12 (fun A st=>∃ o p q s t u v w x y z,st = A [(30,Q1 an),(29,z),(28,y),(27,x),(26,w),(25,v),(24,u),(23,t),(22,s),(21,q),(20,p),(19,o)]) ?_ ?_
   ·refine Qf J J b (fun b=>?_) (fun b=>?_)
    ·refine U J<|U J<|q8 b fun ao aa b=>qz aa J J<|Qc _ aa J<|U J<|U J<|O _ J<|q8 b fun ap ab b=>qz ab J J<|Qc _ ab J<|q8 b fun aq ar b=>Q4 (Zx ao ap aq ar) J<|O _ J<|qa ?_;cases b;exact ⟨_,_,_,_,_,_,_,_,_,_,_,J⟩
    refine qd J<|qd J<|qd J<|qd J<|qd J<|qd J<|qd J<|qd J<|qd J<|qd J<|O _ J<|qa ?_;cases b;exact ⟨_,_,_,_,_,_,_,_,_,_,_,J⟩
   rintro _ ⟨o,p,q,s,t,u,v,w,x,y,z,rfl⟩;refine qa ?_;refine qn J a (fun _ a=>?_) (fun _ a=>?_)
   ·refine qk<|qe<|Q3<|Qj [Qv 0,q0,Qv 0,q0,qt 0,q0,q0,q0,qt 0,q0,q0,q0,q0,q0,q0,q0,q0,q0] qh<|U J<|U J<|U J<|U J<|O _ J<|U J<|U J<|O _ J<|q8 a fun ac ad a=>qz ad J J<|Qc _ ad J<|U J<|U J<|q8 a fun ae af a=>qz af J J<|Qc _ af J<|q8 a fun aw ag a=>qz ag J J<|K4 (ds:=[q7 ac]) ac ag J J J J J J J J (leb J) J<|q8 a fun ax ah a=>qz ah qf J<|K4 (ds:=[q7 ae]) ae ah J J J J J J J J (leb J) J<|qv<|Qn<|qw<|U J<|O _ J<|qb J<|qv<|⟨_,qm a,wkE [] [] [] J ⟨⟨_,J,K6 qf J Q2 (ltd J)⟩,qr J,qr J,qr J,qr J,trivial⟩ ⟨Qt J J,trivial⟩⟩
   refine Q8 ?_;refine ⟨_,qm a,fun hm=>?_⟩;subst hm;cases n;exact ⟨_,J,wkA [] [] []⟩
  intro j hb;subst hb;refine qw<|U J<|O _ J<|qb J<|qv<|⟨_,qm g,wkA [] [] []⟩
 refine Q8 ?_;refine ⟨_,qm g,fun hm=>?_⟩;subst hm;cases l;exact ⟨.inl J,_,J,wkA [] [] []⟩
theorem qnh (k : List Int) (m : Int) (f : Int) (g : Int) (r : List Int) (h : q4o  k m f g = some r) : K9 Tryz.prog tab 165 [.hs 0 1 0 k.length,q9 m,q9 f,q9 g] [(0,.dat 1 (k.map (eI .i64)))] 1 (.d (.tup [])) [(0,.dat 1 (r.map (eI .i64)))] 1:=by
 unfold q4o at h;refine Kv Tryz.func165 J qh qh J<|qc<|U J<|qb J<|qa<|q8 h fun an ao h=>Q3<|Qd (q7s f g) (fun c=>⟨[(0,.hs 0 1 0 c.2.length),(2,q9 f),(3,q9 g),(8,q9 c.1)],[(0,.dat 1 (c.2.map (eI .i64)))],1⟩) (m,k) an ao (wkA [] [] []) ?_;intro c bb a;unfold q7s at a;refine Q3<|qc<|U J<|O _ J<|O _ J<|qb J<|qa<|qe<|qc<|U J<|U J<|O _ J<|qa ?_;refine qn J a (fun _ a=>?_) (fun _ a=>?_)
 ·refine Q8 ?_;refine ⟨_,qm a,fun hm=>?_⟩;subst hm;cases h;exact ⟨.inl J,_,J,wkA [] [] []⟩
 refine qk<|qe<|qe<|Qj [q0,q0,qt 0,q0,q0,q0,q0,q0,q0,qt 0,q0,q0,q0,q0,q0,q0,q0,q0,q0,q0] qh<|U J<|O _ J<|U J<|O _ J<|q8 a fun ap b a=>?_;refine Qe 16 (fun A st=>∃ n o p q s t u v w x y z aa ab ac,st = A [(36,Q1 ap),(35,ac),(34,ab),(33,aa),(32,z),(31,y),(30,x),(29,w),(28,v),(27,u),(26,t),(25,s),(24,q),(23,p),(22,o),(21,n)]) ?_ ?_
 ·refine Qf J J b (fun b=>?_) (fun b=>?_)
  ·refine U J<|U J<|U J<|O _ J<|q8 b fun aq ad b=>qz ad J J<|Qc _ ad J<|U J<|U J<|U J<|O _ J<|O _ J<|q8 b fun ar ae b=>qz ae J J<|Qc _ ae J<|q8 b fun au av b=>Q4 (Zx aq ar au av) J<|O _ J<|qa ?_;cases b;exact ⟨_,_,_,_,_,_,_,_,_,_,_,_,_,_,_,J⟩
  refine qd J<|qd J<|qd J<|qd J<|qd J<|qd J<|qd J<|qd J<|qd J<|qd J<|qd J<|qd J<|qd J<|qd J<|O _ J<|qa ?_;cases b;exact ⟨_,_,_,_,_,_,_,_,_,_,_,_,_,_,_,J⟩
 rintro _ ⟨n,o,p,q,s,t,u,v,w,x,y,z,aa,ab,ac,rfl⟩;refine qa<|q8 a fun aw j a=>?_;refine Ys (fun l=>l = aw) (fun l=>⟨[(0,.hs 0 1 0 c.2.length),(2,q9 f),(3,q9 g),(8,q9 c.1),(9,q9 l)],[(0,.dat 1 (c.2.map (eI .i64)))],1⟩) qf ?_ ?_
 ·refine qn J j (fun _ j=>?_) (fun _ j=>?_)
  ·refine qw<|U J<|O _ J<|qb J<|qv ?_;cases j;exact ⟨_,J,wkA [] [] []⟩
  refine qk<|Qg ?_;cases j;exact ⟨_,J,wkA [] [] []⟩
 intro l hb;subst hb;refine qe<|qe<|Qj [q0,q0,qt 0,q0,q0,q0,q0,q0,qt 0,q0,q0,q0,q0,q0] qh<|U J<|U J<|U J<|O _ J<|q8 a fun ax af a=>qz af J J<|Qc _ af J<|U J<|U J<|U J<|O _ J<|q8 a fun ay ag a=>qz ag J J<|Qc _ ag J<|q8 a fun az ba a=>Q4 (Zx ax ay az ba) J<|O _ J<|qa ?_;refine qn J a (fun _ a=>?_) (fun _ a=>?_)
 ·refine Uz ?_;refine ⟨_,qm a,fun hm=>?_⟩;subst hm;cases h;exact ⟨.inr J,_,J,wkA [] [] []⟩
 refine qk<|qe<|Qj [Qv 0,q0,Qv 0,q0,qt 0,q0,q0,q0,q0,q0,qt 0,q0,q0,q0,q0,q0,q0,q0,q0,q0,q0,q0,q0,q0] qh<|U J<|U J<|U J<|O _ J<|U J<|U J<|U J<|O _ J<|U J<|U J<|U J<|O _ J<|q8 a fun ah ai a=>qz ai J J<|Qc _ ai J<|U J<|U J<|U J<|O _ J<|q8 a fun aj ak a=>qz ak J J<|Qc _ ak J<|q8 a fun bc al a=>qz al J J<|K4 (ds:=[q7 ah]) ah al J J J J J J J J (leb J) J<|q8 a fun bd am a=>qz am qf J<|K4 (ds:=[q7 aj]) aj am J J J J J J J J (leb J) J<|qa<|qw<|U J<|qb J<|qv<|Qn<|Qg<|⟨_,qm a,wkE [] [] [] J ⟨⟨_,J,K6 qf J Q2 (ltd J)⟩,qr J,qr J,qr J,trivial⟩ ⟨Qt J J,trivial⟩⟩
theorem qyl (l : List Int) (b : Int) (g : Int) (r : List Int) (h : q71  l b g = some r) : K9 Tryz.prog tab 147 [.hs 0 1 0 l.length,q9 b,q9 g] [(0,.dat 1 (l.map (eI .i64)))] 1 (.d (.tup [])) [(0,.dat 1 (r.map (eI .i64)))] 1:=by
 unfold q71 at h;refine Kv Tryz.func147 J qh qh J<|qc<|U J<|qb J<|qu<|qb J<|qu<|U J<|U J<|O _ J<|qb J<|qa<|qe<|qc<|U J<|O _ J<|O _ J<|qb J<|qa<|q8 h fun p w h=>?_;refine Qi (fun j=>j = p) (fun j=>⟨[(0,.hs 0 1 0 j.length),(6,q9 b),(7,q9 0),(8,.d (q7 (w64 (g - b))))],[(0,.dat 1 (j.map (eI .i64)))],1⟩) qf ?_ ?_
 ·refine Qd (q72 g b) (fun k=>⟨[(0,.hs 0 1 0 k.2.length),(6,q9 b),(7,q9 0),(8,.d (q7 (w64 (g - b)))),(9,q9 k.1)],[(0,.dat 1 (k.2.map (eI .i64)))],1⟩) (w64 (Int.tdiv (w64 ((w64 (g - b)) - 1)) 2),l) p w (wkA [] [] []) ?_;intro k af c;unfold q72 at c;refine qe<|qc<|U J<|O _ J<|qa ?_;refine qn J c (fun _ c=>?_) (fun _ c=>?_)
  ·refine qk<|qe<|Q3<|qw<|U J<|U J<|U J<|U J<|q8 c fun q x c=>q8 c fun ag y c=>?_;have z:=Kq y;refine Ka [(0,0)] [(0,0)] _ (.d (.tup [])) 1 [(0,.dat 1 (q.map (eI .i64)))] 1 (qnh k.2 k.1 (w64 (g - b)) b q x)<|qv<|Qn<|qw<|U J<|O _ J<|qb J<|qv<|⟨_,qm c,wkE [] [] [] J ⟨⟨_,J,K6 (by simp [z]) J Q2 (ltd J)⟩,qr J,qr J,qr J,qr J,trivial⟩ ⟨Qt J J,trivial⟩⟩
  refine Q8 ?_;refine ⟨_,qm c,fun hm=>?_⟩;subst hm;exact ⟨_,J,wkA [] [] []⟩
 intro j hb;subst hb;refine qc<|U J<|O _ J<|qb J<|qa<|q8 h fun aa ab h=>Q3<|Qd (q73 b) (fun f=>⟨[(0,.hs 0 1 0 f.2.length),(6,q9 b),(7,q9 0),(10,q9 f.1)],[(0,.dat 1 (f.2.map (eI .i64)))],1⟩) (w64 ((w64 (g - b)) - 1),j) aa ab (wkA [] [] []) ?_;intro f ah a;unfold q73 at a;refine qe<|qc<|U J<|O _ J<|qa ?_;refine qn J a (fun _ a=>?_) (fun _ a=>?_)
 ·refine qk<|qe<|Q3<|qe<|Qj [Qv 0,q0,Qv 0,q0,qt 0,q0,q0,q0,qt 0,q0,q0,q0,q0,q0,q0,q0,q0,q0,q0,q0] qh<|U J<|U J<|U J<|U J<|U J<|O _ J<|U J<|U J<|U J<|O _ J<|q8 a fun m s a=>qz s J J<|Qc _ s J<|U J<|U J<|q8 a fun n t a=>qz t J J<|Qc _ t J<|q8 a fun ai u a=>qz u J J<|K4 (ds:=[q7 m]) m u J J J J J J J J (leb J) J<|q8 a fun aj v a=>qz v qf J<|K4 (ds:=[q7 n]) n v J J J J J J J J (leb J) J<|qa<|qw<|U J<|U J<|U J<|U J<|q8 a fun o ac a=>q8 a fun ak ad a=>?_;have ae:=Kq ad;refine Jz [(0,0)] [(0,0)] [.hs 0 1 0 f.2.length,q9 0,q9 f.1,q9 b] (.d (.tup [])) [(0,.dat 1 (o.map (eI .i64)))] [(0,.dat 1 (o.map (eI .i64)))] 1 (qnh ((f.2.set b.toNat m).set (w64 (b + f.1)).toNat n) 0 f.1 b o ac) J J J (Yk [(0,0)] [] [] J ⟨⟨_,J,K6 qf J Q2 (ltd J)⟩,qr J,qr J,qr J,trivial⟩ ⟨Qt J J,trivial⟩) (Yk [(0,0)] [] [] J ⟨qr J,trivial⟩ ⟨Qt J J,trivial⟩) J ⟨.inl J,trivial⟩<|qv<|Qn<|qw<|U J<|O _ J<|qb J<|qv<|⟨_,qm a,wkE [] [] [] J ⟨⟨_,J,K6 (by simp [ae]) J Q2 (ltd J)⟩,qr J,qr J,qr J,trivial⟩ ⟨Qt J J,trivial⟩⟩
 refine Q8 ?_;refine ⟨_,qm a,fun hm=>?_⟩;subst hm;cases h;exact ⟨.inl J,_,J,wkA [] [] []⟩
theorem qhc (b : List Int) (c : Int) (f : Int) (g : Int) (r : Int × Int × Int) (a : q33  b c f g = some r) : K9 Tryz.prog tab 174 [.d (.sl 1 (b.map (eI .i64))),q9 c,q9 f,.ref 0 1 0 0] [(0,.dat 1 [[q7 g]])] 1 (.d (.tup [q7 r.1,q7 r.2.1])) [(0,.dat 1 [[q7 r.2.2]])] 1:=by
 unfold q33 at a;refine Kv Tryz.func174 J qh qh J<|qc<|qb J<|qb J<|qa<|qe<|qe<|Qj [q0,q0,q0,q0,q0,q0,q0,q0,q0] qh<|U J<|U J<|q8 a fun h j a=>Q9 j J<|O _ J<|U J<|U J<|q8 a fun k l a=>Q9 l J<|O _ J<|q8 a fun m n a=>Q4 (Zx h k m n) J<|qa ?_;refine qn J a (fun _ a=>?_) (fun _ a=>?_)
 ·refine qc<|U J<|O _ J<|O _ J<|O _ J<|O _ J<|Qm 0 _ J<|qu<|U J<|U J<|qb J<|qb J<|qs ?_;cases a;exact ⟨.inr J,_,J,wkA [] [] []⟩
 refine qk<|qc<|U J<|U J<|qb J<|qb J<|qs ?_;cases a;exact ⟨.inr J,_,J,wkA [] [] []⟩
theorem qne (f : List Int) (h : Int) (j : Int) (k : Int) (l : Int) (r : Int × Int) (a : q4i  f h j k l = some r) : K9 Tryz.prog tab 169 [.d (.sl 1 (f.map (eI .i64))),q9 h,q9 j,q9 k,.ref 0 1 0 0] [(0,.dat 1 [[q7 l]])] 1 (q9 r.1) [(0,.dat 1 [[q7 r.2]])] 1:=by
 unfold q4i at a;refine Kv Tryz.func169 J qh qh J<|qc<|qb J<|qu<|U J<|U J<|U J<|U J<|q8 a fun b m a=>Ka [(0,0)] [(0,0)] _ (.d (.tup [q7 b.1,q7 b.2.1])) 1 [(0,.dat 1 [[q7 b.2.2]])] 1 (qhc f h j l b m)<|U J<|O _ J<|O _ J<|qb J<|qb J<|qu<|U J<|U J<|U J<|U J<|q8 a fun c n a=>Ka [(0,0)] [(0,0)] _ (.d (.tup [q7 c.1,q7 c.2.1])) 1 [(0,.dat 1 [[q7 c.2.2]])] 1 (qhc f b.2.1 k b.2.2 c n)<|U J<|O _ J<|O _ J<|qb J<|qb J<|qu<|U J<|U J<|U J<|U J<|q8 a fun g o a=>Ka [(0,0)] [(0,0)] _ (.d (.tup [q7 g.1,q7 g.2.1])) 1 [(0,.dat 1 [[q7 g.2.2]])] 1 (qhc f b.1 c.1 c.2.2 g o)<|U J<|O _ J<|O _ J<|qb J<|qb J<|qu ?_;refine U J<|qb J<|qs ?_;cases a;exact ⟨.inr J,_,J,wkA [] [] []⟩
theorem qha (c : List Int) (a : Int) (f : Int) (r : Int × Int) (b : q32  c a f = some r) : K9 Tryz.prog tab 168 [.d (.sl 1 (c.map (eI .i64))),q9 a,.ref 0 1 0 0] [(0,.dat 1 [[q7 f]])] 1 (q9 r.1) [(0,.dat 1 [[q7 r.2]])] 1:=by
 unfold q32 at b;refine Kv Tryz.func168 J qh qh J<|qc<|qb J<|qu<|U J<|U J<|O _ J<|U J<|U J<|O _ J<|U J<|q8 b fun g h b=>Ka [(0,0)] [(0,0)] _ (q9 g.1) 1 [(0,.dat 1 [[q7 g.2]])] 1 (qne c (w64 (a - 1)) a (w64 (a + 1)) f g h)<|qb J<|qs ?_;cases b;exact ⟨.inr J,_,J,wkA [] [] []⟩
theorem qyj (h : List Int) (g : Int) (j : Int) (r : Int × Int) (a : q70 h g j = some r) : Pure Tryz.prog tab 149 [.sl 1 (h.map (eI .i64)),q7 g,q7 j] (.tup [q7 r.1,q7 r.2]):=by
 unfold q70 at a;refine Qo Tryz.func149 J qh qh J<|qc<|qb J<|qb J<|qu<|U J<|U J<|O _ J<|qb J<|qu<|Qz J J<|qu<|U J<|U J<|O _ J<|O _ J<|O _ J<|qb J<|qu<|U J<|U J<|O _ J<|O _ J<|O _ J<|qb J<|qu<|U J<|U J<|O _ J<|O _ J<|O _ J<|qb J<|qa<|qe<|qc<|U J<|O _ J<|qa<|q8 a fun p f a=>?_;refine Ys (fun k=>k = p) (fun k=>⟨[(9,.ref 0 1 0 0),(11,q9 k.1)],[(0,.dat 1 [[q7 k.2]])],1⟩) qf ?_ ?_
 ·refine qn J f (fun _ f=>?_) (fun _ f=>?_)
  ·refine qe<|qc<|U J<|O _ J<|qa<|q8 f fun q b f=>?_;refine Ys (fun c=>c = q) (fun c=>⟨[(0,.d (.sl 1 (h.map (eI .i64)))),(9,.ref 0 1 0 0),(10,q9 c.1),(11,q9 c.2.1),(12,q9 c.2.2.1)],[(0,.dat 1 [[q7 c.2.2.2]])],1⟩) qf ?_ ?_
   ·refine qn J b (fun _ b=>?_) (fun _ b=>?_)
    ·refine qc<|U J<|U J<|q8 b fun l s b=>Ka [(0,0)] [(0,0)] _ (q9 l.1) 1 [(0,.dat 1 [[q7 l.2]])] 1 (qha h (w64 (g + (w64 ((w64 (Int.tdiv (w64 (j - g)) 4)) * 1)))) 0 l s)<|qb J<|qu<|U J<|U J<|q8 b fun m t b=>Ka [(0,0)] [(0,0)] _ (q9 m.1) 1 [(0,.dat 1 [[q7 m.2]])] 1 (qha h (w64 (g + (w64 ((w64 (Int.tdiv (w64 (j - g)) 4)) * 2)))) l.2 m t)<|qb J<|qa<|qw<|U J<|U J<|q8 b fun n u b=>Ka [(0,0)] [(0,0)] _ (q9 n.1) 1 [(0,.dat 1 [[q7 n.2]])] 1 (qha h (w64 (g + (w64 ((w64 (Int.tdiv (w64 (j - g)) 4)) * 3)))) m.2 n u)<|qb J<|qv ?_;cases b;exact ⟨_,J,wkA [(0,0)] [] []⟩
    refine qk<|Qg ?_;cases b;exact ⟨_,J,wkA [(0,0)] [] []⟩
   intro c hb;subst hb;refine qw<|U J<|U J<|U J<|U J<|q8 f fun o v f=>Ka [(0,0)] [(0,0)] _ (q9 o.1) 1 [(0,.dat 1 [[q7 o.2]])] 1 (qne h c.1 c.2.1 c.2.2.1 c.2.2.2 o v)<|qb J<|qv ?_;cases f;exact ⟨_,J,wkA [(0,0)] [] []⟩
  refine qk<|Qg ?_;cases f;exact ⟨_,J,wkA [(0,0)] [] []⟩
 intro k hb;subst hb;refine qc<|O _ J<|qa<|Q3<|qc<|O _ J<|qb J<|qa ?_;refine qn J a (fun _ a=>?_) (fun _ a=>?_)
 ·refine qc<|U J<|qb J<|qb J<|qs ?_;cases a;exact Q5 _ J
 refine qc<|O _ J<|qb J<|qa ?_;refine qn J a (fun _ a=>?_) (fun _ a=>?_)
 ·refine qc<|U J<|qb J<|qb J<|qs ?_;cases a;exact Q5 _ J
 refine qc<|U J<|qb J<|qb J<|qs ?_;cases a;exact Q5 _ J
theorem qyz (c : List Int) (g : Int) (h : Int) (r : List Int) (f : q7q  c g h = some r) : K9 Tryz.prog tab 150 [.hs 0 1 0 c.length,q9 g,q9 h] [(0,.dat 1 (c.map (eI .i64)))] 1 (.d (.tup [])) [(0,.dat 1 (r.map (eI .i64)))] 1:=by
 unfold q7q at f;refine Kv Tryz.func150 J qh qh J<|qc<|U J<|qb J<|qu<|U J<|O _ J<|qb J<|qa<|q8 f fun p q f=>Q3<|Qd (qas) (fun b=>⟨[(0,.hs 0 1 0 b.2.2.length),(6,q9 b.1),(7,q9 b.2.1)],[(0,.dat 1 (b.2.2.map (eI .i64)))],1⟩) (g,w64 (h - 1),c) p q (wkA [] [] []) ?_;intro b s a;unfold qas at a;refine qe<|qc<|U J<|U J<|O _ J<|qa ?_;refine qn J a (fun _ a=>?_) (fun _ a=>?_)
 ·refine qk<|Q3<|qe<|Qj [Qv 0,q0,Qv 0,q0,qt 0,q0,q0,q0,qt 0,q0,q0,q0,q0,q0,q0,q0] qh<|U J<|U J<|U J<|U J<|U J<|U J<|q8 a fun j k a=>qz k J J<|Qc _ k J<|U J<|U J<|q8 a fun l m a=>qz m J J<|Qc _ m J<|q8 a fun t n a=>qz n J J<|K4 (ds:=[q7 j]) j n J J J J J J J J (leb J) J<|q8 a fun u o a=>qz o qf J<|K4 (ds:=[q7 l]) l o J J J J J J J J (leb J) J<|qu<|U J<|O _ J<|qb J<|qa<|qw<|U J<|O _ J<|qb J<|qv<|Qn<|Qg<|⟨_,qm a,wkE [] [] [] J ⟨⟨_,J,K6 qf J Q2 (ltd J)⟩,qr J,qr J,trivial⟩ ⟨Qt J J,trivial⟩⟩
 refine Q8 ?_;refine ⟨_,qm a,fun hm=>?_⟩;subst hm;cases f;exact ⟨.inl J,_,J,wkA [] [] []⟩
theorem qyp (q : List Int) (h : Int) (f : Int) (r : Bool × List Int) (n : q4k  q h f = some r) : K9 Tryz.prog tab 151 [.hs 0 1 0 q.length,q9 h,q9 f] [(0,.dat 1 (q.map (eI .i64)))] 1 (Q1 r.1) [(0,.dat 1 (r.2.map (eI .i64)))] 1:=by
 unfold q4k at n;refine Kv Tryz.func151 J qh qh J<|qc<|qb J<|qu<|U J<|O _ J<|qb J<|qa<|qe<|qc<|qb J<|qa<|q8 n fun z bk n=>?_;refine Qi (fun s=>.inl s = z) (fun s=>⟨[],[(0,.dat 1 (s.map (eI .i64)))],1⟩) qf ?_ ?_
 ·refine Qd (q4l f h) (fun d=>⟨[(0,.hs 0 1 0 d.2.2.length),(1,q9 h),(2,q9 f),(7,q9 d.1),(8,q9 d.2.1)],[(0,.dat 1 (d.2.2.map (eI .i64)))],1⟩) (w64 (h + 1),0,q) z bk (wkA [] [] []) ?_;intro d cg k;unfold q4l at k;refine qe<|qc<|U J<|O _ J<|qa ?_;refine qn J k (fun _ k=>?_) (fun _ k=>?_)
  ·refine qk<|qe<|q8 k fun bl a k=>?_;refine Qi (fun o=>.inl o = bl) (fun o=>⟨[(0,.hs 0 1 0 o.2.length),(1,q9 h),(2,q9 f),(7,q9 o.1),(8,q9 d.2.1)],[(0,.dat 1 (o.2.map (eI .i64)))],1⟩) qf ?_ ?_
   ·refine qe<|q8 a fun aa bm a=>?_;refine Qi (fun g=>g = aa) (fun g=>⟨[(0,.hs 0 1 0 d.2.2.length),(1,q9 h),(2,q9 f),(7,q9 g),(8,q9 d.2.1)],[(0,.dat 1 (d.2.2.map (eI .i64)))],1⟩) qf ?_ ?_
    ·refine Qd (q7a f d) (fun ab=>⟨[(0,.hs 0 1 0 d.2.2.length),(1,q9 h),(2,q9 f),(7,q9 ab),(8,q9 d.2.1)],[(0,.dat 1 (d.2.2.map (eI .i64)))],1⟩) d.1 aa bm (wkA [] [] []) ?_;intro ab ch l;unfold q7a at l;refine qe<|qe<|Qj [q0,q0,q0,qt 0,q0,q0,q0,q0,qt 0,q0,q0,q0,q0,q0,q0,q0] qh<|U J<|U J<|O _ J<|q8 l fun bn j l=>?_;refine Qe 13 (fun A st=>∃ ac ad ae af ag ah ai aj ak al am an,st = A [(32,Q1 bn),(31,an),(30,am),(29,al),(28,ak),(27,aj),(26,ai),(25,ah),(24,ag),(23,af),(22,ae),(21,ad),(20,ac)]) ?_ ?_
     ·refine Qf J J j (fun j=>?_) (fun j=>?_)
      ·refine U J<|U J<|q8 j fun bo ao j=>qz ao J J<|Qc _ ao J<|U J<|U J<|O _ J<|q8 j fun bp ap j=>qz ap J J<|Qc _ ap J<|q8 j fun bq br j=>Q4 (Zx bo bp bq br) J<|O _ J<|O _ J<|qa ?_;cases j;exact ⟨_,_,_,_,_,_,_,_,_,_,_,_,J⟩
      refine qd J<|qd J<|qd J<|qd J<|qd J<|qd J<|qd J<|qd J<|qd J<|qd J<|qd J<|O _ J<|qa ?_;cases j;exact ⟨_,_,_,_,_,_,_,_,_,_,_,_,J⟩
     rintro _ ⟨ac,ad,ae,af,ag,ah,ai,aj,ak,al,am,an,rfl⟩;refine qa ?_;refine qn J l (fun _ l=>?_) (fun _ l=>?_)
     ·refine qk<|Q3<|qw<|U J<|O _ J<|qb J<|qv<|Qn<|Qg<|⟨_,qm l,wkA [] [] []⟩
     refine Q8 ?_;refine ⟨_,qm l,fun hm=>?_⟩;subst hm;exact ⟨_,J,wkA [] [] []⟩
    intro g hb;subst hb;refine qe<|qc<|U J<|U J<|O _ J<|qa ?_;refine qn J a (fun _ a=>?_) (fun _ a=>?_)
    ·refine qc<|qb J<|qs ?_;cases a;refine ⟨_,qm k,fun hm=>?_⟩;subst hm;cases n;exact ⟨.inr J,_,J,wkA [] [] []⟩
    refine qk<|qe<|qc<|U J<|U J<|O _ J<|O _ J<|qa ?_;refine qn J a (fun _ a=>?_) (fun _ a=>?_)
    ·refine qc<|qb J<|qs ?_;cases a;refine ⟨_,qm k,fun hm=>?_⟩;subst hm;cases n;exact ⟨.inr J,_,J,wkA [] [] []⟩
    refine qk<|qe<|Qj [Qv 0,q0,Qv 0,q0,qt 0,q0,q0,q0,qt 0,q0,q0,q0,q0,q0,q0,q0,q0,q0] qh<|U J<|U J<|U J<|U J<|O _ J<|U J<|U J<|O _ J<|q8 a fun v aq a=>qz aq J J<|Qc _ aq J<|U J<|U J<|q8 a fun w ar a=>qz ar J J<|Qc _ ar J<|q8 a fun ci au a=>qz au J J<|K4 (ds:=[q7 v]) v au J J J J J J J J (leb J) J<|q8 a fun cj av a=>qz av qf J<|K4 (ds:=[q7 w]) w av J J J J J J J J (leb J) J<|qa<|qe<|qc<|U J<|U J<|O _ J<|O _ J<|qa<|q8 a fun bs m a=>?_;refine Ys (fun p=>p = bs) (fun p=>⟨[(0,.hs 0 1 0 p.length),(1,q9 h),(2,q9 f),(7,q9 g),(8,q9 d.2.1)],[(0,.dat 1 (p.map (eI .i64)))],1⟩) qf ?_ ?_
    ·refine qn J m (fun _ m=>?_) (fun _ m=>?_)
     ·refine qc<|U J<|O _ J<|qb J<|qa<|q8 m fun bt bu m=>Q3<|Qd (qaf) (fun t=>⟨[(0,.hs 0 1 0 t.2.length),(1,q9 h),(2,q9 f),(7,q9 g),(8,q9 d.2.1),(9,q9 t.1)],[(0,.dat 1 (t.2.map (eI .i64)))],1⟩) (w64 (g - 1),(d.2.2.set g.toNat v).set (w64 (g - 1)).toNat w) bt bu (wkE [] [] [] J ⟨⟨_,J,K6 qf J Q2 (ltd J)⟩,qr J,qr J,qr J,qr J,qr J,trivial⟩ ⟨Qt J J,trivial⟩) ?_;intro t ck b;unfold qaf at b;refine qe<|qc<|U J<|O _ J<|qa ?_;refine qn J b (fun _ b=>?_) (fun _ b=>?_)
      ·refine qk<|qe<|Q3<|qe<|qe<|Qj [q0,q0,qt 0,q0,q0,q0,q0,qt 0,q0,q0,q0] qh<|U J<|U J<|q8 b fun bv aw b=>qz aw J J<|Qc _ aw J<|U J<|U J<|O _ J<|q8 b fun bw ax b=>qz ax J J<|Qc _ ax J<|q8 b fun bx bz b=>Q4 (Zx bv bw bx bz) J<|O _ J<|qa ?_;refine qn J b (fun _ b=>?_) (fun _ b=>?_)
       ·refine Q8 ?_;refine ⟨_,qm b,fun hm=>?_⟩;subst hm;cases m;exact ⟨_,J,wkA [] [] []⟩
       refine qk<|Qj [Qv 0,q0,Qv 0,q0,qt 0,q0,q0,q0,qt 0,q0,q0,q0,q0,q0,q0,q0,q0,q0] qh<|U J<|U J<|U J<|U J<|O _ J<|U J<|U J<|O _ J<|q8 b fun ay az b=>qz az J J<|Qc _ az J<|U J<|U J<|q8 b fun x ba b=>qz ba J J<|Qc (q9 x) ba J<|q8 b fun cm bb b=>qz bb J J<|K4 (ds:=[q7 ay]) ay bb J J J J J J J J (leb J) J<|q8 b fun cn bc b=>qz bc qf J<|K4 (ds:=[q7 x]) x bc J J J J J J J J (leb J) J<|qv<|Qn<|qw<|U J<|O _ J<|qb J<|qv<|⟨_,qm b,wkE [] [] [] J ⟨⟨_,J,K6 qf J Q2 (ltd J)⟩,qr J,qr J,qr J,qr J,qr J,trivial⟩ ⟨Qt J J,trivial⟩⟩
      refine Q8 ?_;refine ⟨_,qm b,fun hm=>?_⟩;subst hm;cases m;exact ⟨_,J,wkA [] [] []⟩
     refine qk<|Qg ?_;cases m;exact ⟨_,J,wkE [] [] [] J ⟨⟨_,J,K6 qf J Q2 (ltd J)⟩,qr J,qr J,qr J,qr J,trivial⟩ ⟨Qt J J,trivial⟩⟩
    intro p hb;subst hb;refine qc<|U J<|U J<|O _ J<|O _ J<|qa ?_;refine qn J a (fun _ a=>?_) (fun _ a=>?_)
    ·refine qc<|U J<|O _ J<|qb J<|qa<|q8 a fun ca cb a=>Q3<|Qd (q7b f g) (fun u=>⟨[(0,.hs 0 1 0 u.2.length),(1,q9 h),(2,q9 f),(7,q9 g),(8,q9 d.2.1),(10,q9 u.1)],[(0,.dat 1 (u.2.map (eI .i64)))],1⟩) (w64 (g + 1),p) ca cb (wkA [] [] []) ?_;intro u co c;unfold q7b at c;refine qe<|qc<|U J<|U J<|O _ J<|qa ?_;refine qn J c (fun _ c=>?_) (fun _ c=>?_)
     ·refine qk<|qe<|Q3<|qe<|qe<|Qj [q0,q0,qt 0,q0,q0,q0,q0,qt 0,q0,q0,q0] qh<|U J<|U J<|q8 c fun cc bd c=>qz bd J J<|Qc _ bd J<|U J<|U J<|O _ J<|q8 c fun cd be c=>qz be J J<|Qc _ be J<|q8 c fun ce cf c=>Q4 (Zx cc cd ce cf) J<|O _ J<|qa ?_;refine qn J c (fun _ c=>?_) (fun _ c=>?_)
      ·refine Q8 ?_;refine ⟨_,qm c,fun hm=>?_⟩;subst hm;cases a;exact ⟨_,J,wkA [] [] []⟩
      refine qk<|Qj [Qv 0,q0,Qv 0,q0,qt 0,q0,q0,q0,qt 0,q0,q0,q0,q0,q0,q0,q0,q0,q0] qh<|U J<|U J<|U J<|U J<|O _ J<|U J<|U J<|O _ J<|q8 c fun bf bg c=>qz bg J J<|Qc _ bg J<|U J<|U J<|q8 c fun y bh c=>qz bh J J<|Qc (q9 y) bh J<|q8 c fun cp bi c=>qz bi J J<|K4 (ds:=[q7 bf]) bf bi J J J J J J J J (leb J) J<|q8 c fun cq bj c=>qz bj qf J<|K4 (ds:=[q7 y]) y bj J J J J J J J J (leb J) J<|qv<|Qn<|qw<|U J<|O _ J<|qb J<|qv<|⟨_,qm c,wkE [] [] [] J ⟨⟨_,J,K6 qf J Q2 (ltd J)⟩,qr J,qr J,qr J,qr J,qr J,trivial⟩ ⟨Qt J J,trivial⟩⟩
     refine Q8 ?_;refine ⟨_,qm c,fun hm=>?_⟩;subst hm;cases a;exact ⟨_,J,wkA [] [] []⟩
    refine qk<|Qg ?_;cases a;exact ⟨_,J,wkA [] [] []⟩
   intro o hb;subst hb;refine qw<|U J<|O _ J<|qb J<|qv<|⟨_,qm k,wkA [] [] []⟩
  refine Q8 ?_;refine ⟨_,qm k,fun hm=>?_⟩;subst hm;exact ⟨_,J,wkA [] [] []⟩
 intro s hb;subst hb;refine qc<|qb J<|qs ?_;cases n;exact ⟨.inr J,_,J,wkA [] [] []⟩
theorem qys (m : List Int) (c : Int) (o : Int) (p : Int) (r : Int × List Int) (d : q7c  m c o p = some r) : K9 Tryz.prog tab 153 [.hs 0 1 0 m.length,q9 c,q9 o,q9 p] [(0,.dat 1 (m.map (eI .i64)))] 1 (q9 r.1) [(0,.dat 1 (r.2.map (eI .i64)))] 1:=by
 unfold q7c at d;refine Kv Tryz.func153 J qh qh J<|qc<|qb J<|qa<|qe<|Qj [Qv 0,q0,Qv 0,q0,qt 0,q0,q0,q0,qt 0,q0,q0,q0,q0,q0,q0,q0] qh<|U J<|U J<|U J<|U J<|U J<|U J<|q8 d fun q u d=>qz u J J<|Qc _ u J<|U J<|U J<|q8 d fun s v d=>qz v J J<|Qc _ v J<|q8 d fun bw w d=>qz w J J<|K4 (ds:=[q7 q]) q w J J J J J J J J (leb J) J<|q8 d fun bx x d=>qz x qf J<|K4 (ds:=[q7 s]) s x J J J J J J J J (leb J) J<|qu<|U J<|O _ J<|U J<|O _ J<|qb J<|qb J<|qa<|qe<|q8 d fun y bj d=>?_;refine Qi (fun l=>l = y) (fun l=>⟨[(9,q9 l.1)],[(0,.dat 1 (l.2.map (eI .i64)))],1⟩) qf ?_ ?_
 ·refine Qd (q7d c) (fun a=>⟨[(0,.hs 0 1 0 a.2.2.length),(1,q9 c),(9,q9 a.1),(10,q9 a.2.1)],[(0,.dat 1 (a.2.2.map (eI .i64)))],1⟩) (w64 (c + 1),w64 (o - 1),(m.set c.toNat q).set p.toNat s) y bj (wkE [] [] [] J ⟨⟨_,J,K6 qf J Q2 (ltd J)⟩,qr J,qr J,qr J,trivial⟩ ⟨Qt J J,trivial⟩) ?_;intro a bz b;unfold q7d at b;refine Q3<|qe<|q8 b fun z bk b=>?_;refine Qi (fun k=>k = z) (fun k=>⟨[(0,.hs 0 1 0 a.2.2.length),(1,q9 c),(9,q9 k),(10,q9 a.2.1)],[(0,.dat 1 (a.2.2.map (eI .i64)))],1⟩) qf ?_ ?_
  ·refine Qd (q7e a c) (fun aa=>⟨[(0,.hs 0 1 0 a.2.2.length),(1,q9 c),(9,q9 aa),(10,q9 a.2.1)],[(0,.dat 1 (a.2.2.map (eI .i64)))],1⟩) a.1 z bk (wkA [] [] []) ?_;intro aa ca h;unfold q7e at h;refine qe<|qe<|Qj [q0,q0,q0,qt 0,q0,q0,q0,qt 0,q0,q0,q0,q0,q0,q0,q0] qh<|U J<|U J<|O _ J<|q8 h fun bl f h=>?_;refine Qe 12 (fun A st=>∃ ab ac ad ae af ag ah ai aj ak al,st = A [(43,Q1 bl),(42,al),(41,ak),(40,aj),(39,ai),(38,ah),(37,ag),(36,af),(35,ae),(34,ad),(33,ac),(32,ab)]) ?_ ?_
   ·refine Qf J J f (fun f=>?_) (fun f=>?_)
    ·refine U J<|U J<|q8 f fun bm am f=>qz am J J<|Qc _ am J<|U J<|U J<|q8 f fun bn an f=>qz an J J<|Qc _ an J<|q8 f fun bo bp f=>Q4 (Zx bm bn bo bp) J<|O _ J<|O _ J<|qa ?_;cases f;exact ⟨_,_,_,_,_,_,_,_,_,_,_,J⟩
    refine qd J<|qd J<|qd J<|qd J<|qd J<|qd J<|qd J<|qd J<|qd J<|qd J<|O _ J<|qa ?_;cases f;exact ⟨_,_,_,_,_,_,_,_,_,_,_,J⟩
   rintro _ ⟨ab,ac,ad,ae,af,ag,ah,ai,aj,ak,al,rfl⟩;refine qa ?_;refine qn J h (fun _ h=>?_) (fun _ h=>?_)
   ·refine qk<|Q3<|qw<|U J<|O _ J<|qb J<|qv<|Qn<|Qg<|⟨_,qm h,wkA [] [] []⟩
   refine Q8 ?_;refine ⟨_,qm h,fun hm=>?_⟩;subst hm;exact ⟨_,J,wkA [] [] []⟩
  intro k hb;subst hb;refine qe<|q8 b fun ao bq b=>?_;refine Qi (fun n=>n = ao) (fun n=>⟨[(0,.hs 0 1 0 a.2.2.length),(1,q9 c),(9,q9 k),(10,q9 n)],[(0,.dat 1 (a.2.2.map (eI .i64)))],1⟩) qf ?_ ?_
  ·refine Qd (q7f k a c) (fun ap=>⟨[(0,.hs 0 1 0 a.2.2.length),(1,q9 c),(9,q9 k),(10,q9 ap)],[(0,.dat 1 (a.2.2.map (eI .i64)))],1⟩) a.2.1 ao bq (wkA [] [] []) ?_;intro ap cb j;unfold q7f at j;refine qe<|qe<|Qj [q0,q0,qt 0,q0,q0,q0,qt 0,q0,q0,q0,q0,q0,q0,q0] qh<|U J<|U J<|O _ J<|q8 j fun br g j=>?_;refine Qe 11 (fun A st=>∃ aq ar au av aw ax ay az ba bb,st = A [(59,Q1 br),(58,bb),(57,ba),(56,az),(55,ay),(54,ax),(53,aw),(52,av),(51,au),(50,ar),(49,aq)]) ?_ ?_
   ·refine Qf J J g (fun g=>?_) (fun g=>?_)
    ·refine U J<|U J<|q8 g fun bs bc g=>qz bc J J<|Qc _ bc J<|U J<|U J<|q8 g fun bt bd g=>qz bd J J<|Qc _ bd J<|q8 g fun bu bv g=>Q4 (Zx bs bt bu bv) J<|O _ J<|qa ?_;cases g;exact ⟨_,_,_,_,_,_,_,_,_,_,J⟩
    refine qd J<|qd J<|qd J<|qd J<|qd J<|qd J<|qd J<|qd J<|qd J<|O _ J<|qa ?_;cases g;exact ⟨_,_,_,_,_,_,_,_,_,_,J⟩
   rintro _ ⟨aq,ar,au,av,aw,ax,ay,az,ba,bb,rfl⟩;refine qa ?_;refine qn J j (fun _ j=>?_) (fun _ j=>?_)
   ·refine qk<|Q3<|qw<|U J<|O _ J<|qb J<|qv<|Qn<|Qg<|⟨_,qm j,wkA [] [] []⟩
   refine Q8 ?_;refine ⟨_,qm j,fun hm=>?_⟩;subst hm;exact ⟨_,J,wkA [] [] []⟩
  intro n hb;subst hb;refine qe<|qc<|U J<|U J<|O _ J<|qa ?_;refine qn J b (fun _ b=>?_) (fun _ b=>?_)
  ·refine Q8 ?_;refine ⟨_,qm b,fun hm=>?_⟩;subst hm;exact ⟨_,J,wkA [] [] []⟩
  refine qk<|qe<|Qj [Qv 0,q0,Qv 0,q0,qt 0,q0,q0,q0,qt 0,q0,q0,q0,q0,q0,q0,q0] qh<|U J<|U J<|U J<|U J<|U J<|U J<|q8 b fun be bf b=>qz bf J J<|Qc _ bf J<|U J<|U J<|q8 b fun t bg b=>qz bg J J<|Qc (q9 t) bg J<|q8 b fun cc bh b=>qz bh J J<|K4 (ds:=[q7 be]) be bh J J J J J J J J (leb J) J<|q8 b fun cd bi b=>qz bi qf J<|K4 (ds:=[q7 t]) t bi J J J J J J J J (leb J) J<|qu<|U J<|O _ J<|qb J<|qa<|qw<|U J<|O _ J<|qb J<|qv<|Qn<|Qg<|⟨_,qm b,wkE [] [] [] J ⟨⟨_,J,K6 qf J Q2 (ltd J)⟩,qr J,qr J,qr J,trivial⟩ ⟨Qt J J,trivial⟩⟩
 intro l hb;subst hb;refine qc<|U J<|qb J<|qs ?_;cases d;exact ⟨.inr J,_,J,wkA [] [] []⟩
theorem qyt (g : List Int) (b : Int) (s : Int) (k : Int) (r : Int × Bool × List Int) (a : q7g  g b s k = some r) : K9 Tryz.prog tab 154 [.hs 0 1 0 g.length,q9 b,q9 s,q9 k] [(0,.dat 1 (g.map (eI .i64)))] 1 (.d (.tup [q7 r.1,.bool r.2.1])) [(0,.dat 1 (r.2.2.map (eI .i64)))] 1:=by
 unfold q7g at a;refine Kv Tryz.func154 J qh qh J<|qc<|qb J<|qb J<|qa<|qe<|Qj [Qv 0,q0,Qv 0,q0,qt 0,q0,q0,q0,qt 0,q0,q0,q0,q0,q0,q0,q0] qh<|U J<|U J<|U J<|U J<|U J<|U J<|q8 a fun h ao a=>qz ao J J<|Qc (q9 h) ao J<|U J<|U J<|q8 a fun j ap a=>qz ap J J<|Qc (q9 j) ap J<|q8 a fun fr aq a=>qz aq J J<|K4 (ds:=[q7 h]) h aq J J J J J J J J (leb J) J<|q8 a fun fs ar a=>qz ar qf J<|K4 (ds:=[q7 j]) j ar J J J J J J J J (leb J) J<|qu<|U J<|O (.d (q7 (w64 (b + 1)))) J<|U J<|O (.d (q7 (w64 (s - 1)))) J<|qb J<|qb J<|qa<|qe<|q8 a fun au fd a=>?_;refine Qi (fun l=>l = au) (fun (l : Int)=>⟨[(0,.hs 0 1 0 ((g.set b.toNat h).set k.toNat j).length),(1,q9 b),(10,q9 l),(11,.d (q7 (w64 (s - 1))))],[(0,.dat 1 (((g.set b.toNat h).set k.toNat j).map (eI .i64)))],1⟩) qf ?_ ?_
 ·refine Qd (q7h s g b h k j) (fun (aa : Int)=>⟨[(0,.hs 0 1 0 ((g.set b.toNat h).set k.toNat j).length),(1,q9 b),(10,q9 aa),(11,.d (q7 (w64 (s - 1))))],[(0,.dat 1 (((g.set b.toNat h).set k.toNat j).map (eI .i64)))],1⟩) (w64 (b + 1)) au fd (wkE [] [] [] J ⟨⟨_,J,K6 qf J Q2 (ltd J)⟩,qr J,qr J,qr J,trivial⟩ ⟨Qt J J,trivial⟩) ?_;intro aa ft t;unfold q7h at t;refine qe<|qe<|Qj [q0,q0,qt 0,q0,q0,q0,qt 0,q0,q0,q0,q0,q0,q0,q0] qh<|U J<|U J<|O (.d (.bool (decide (aa≤(w64 (s - 1)))))) J<|q8 t fun fe m t=>?_;refine Qe 11 (fun A st=>∃ (av aw ax ay az ba bb bc bd be : V),st = A [(43,Q1 fe),(42,be),(41,bd),(40,bc),(39,bb),(38,ba),(37,az),(36,ay),(35,ax),(34,aw),(33,av)]) ?_ ?_
  ·refine Qf J J m (fun m=>?_) (fun m=>?_)
   ·refine U J<|U J<|q8 m fun bf bg m=>qz bg J J<|Qc (q9 bf) bg J<|U J<|U J<|q8 m fun bh bi m=>qz bi J J<|Qc (q9 bh) bi J<|q8 m fun bj ff m=>Q4 (Zx bf bh bj ff) J<|O (Q1 bj) J<|qa ?_;cases m;exact ⟨_,_,_,_,_,_,_,_,_,_,J⟩
   refine qd J<|qd J<|qd J<|qd J<|qd J<|qd J<|qd J<|qd J<|qd J<|O (Q1 false) J<|qa ?_;cases m;exact ⟨_,_,_,_,_,_,_,_,_,_,J⟩
  rintro _ ⟨av,aw,ax,ay,az,ba,bb,bc,bd,be,rfl⟩;refine qa ?_;refine qn J t (fun _ t=>?_) (fun _ t=>?_)
  ·refine qk<|Q3<|qw<|U J<|O (.d (q7 (w64 (aa + 1)))) J<|qb J<|qv<|Qn<|Qg<|⟨_,qm t,wkA [] [] []⟩
  refine Q8 ?_;refine ⟨_,qm t,fun hm=>?_⟩;subst hm;exact ⟨_,J,wkA [] [] []⟩
 intro l hb;subst hb;refine qe<|q8 a fun bk fg a=>?_;refine Qi (fun u=>u = bk) (fun (u : Int)=>⟨[(0,.hs 0 1 0 ((g.set b.toNat h).set k.toNat j).length),(1,q9 b),(10,q9 l),(11,q9 u)],[(0,.dat 1 (((g.set b.toNat h).set k.toNat j).map (eI .i64)))],1⟩) qf ?_ ?_
 ·refine Qd (q7i l g b h k j) (fun (ab : Int)=>⟨[(0,.hs 0 1 0 ((g.set b.toNat h).set k.toNat j).length),(1,q9 b),(10,q9 l),(11,q9 ab)],[(0,.dat 1 (((g.set b.toNat h).set k.toNat j).map (eI .i64)))],1⟩) (w64 (s - 1)) bk fg (wkA [] [] []) ?_;intro ab fu v;unfold q7i at v;refine qe<|qe<|Qj [q0,q0,q0,qt 0,q0,q0,q0,qt 0,q0,q0,q0,q0,q0,q0,q0] qh<|U J<|U J<|O (.d (.bool (decide (l≤ab)))) J<|q8 v fun fh n v=>?_;refine Qe 12 (fun A st=>∃ (bl bm bn bo bp bq br bs bt bu bv : V),st = A [(60,Q1 fh),(59,bv),(58,bu),(57,bt),(56,bs),(55,br),(54,bq),(53,bp),(52,bo),(51,bn),(50,bm),(49,bl)]) ?_ ?_
  ·refine Qf J J n (fun n=>?_) (fun n=>?_)
   ·refine U J<|U J<|q8 n fun bw bx n=>qz bx J J<|Qc (q9 bw) bx J<|U J<|U J<|q8 n fun bz ca n=>qz ca J J<|Qc (q9 bz) ca J<|q8 n fun ag fi n=>Q4 (Zx bw bz ag fi) J<|O (Q1 (!ag)) J<|O (Q1 (!ag)) J<|qa ?_;cases n;exact ⟨_,_,_,_,_,_,_,_,_,_,_,J⟩
   refine qd J<|qd J<|qd J<|qd J<|qd J<|qd J<|qd J<|qd J<|qd J<|qd J<|O (Q1 false) J<|qa ?_;cases n;exact ⟨_,_,_,_,_,_,_,_,_,_,_,J⟩
  rintro _ ⟨bl,bm,bn,bo,bp,bq,br,bs,bt,bu,bv,rfl⟩;refine qa ?_;refine qn J v (fun _ v=>?_) (fun _ v=>?_)
  ·refine qk<|Q3<|qw<|U J<|O (.d (q7 (w64 (ab - 1)))) J<|qb J<|qv<|Qn<|Qg<|⟨_,qm v,wkA [] [] []⟩
  refine Q8 ?_;refine ⟨_,qm v,fun hm=>?_⟩;subst hm;exact ⟨_,J,wkA [] [] []⟩
 intro u hb;subst hb;refine qe<|qc<|U J<|U J<|O (.d (.bool (decide (l > u)))) J<|qa ?_;refine qn J a (fun _ a=>?_) (fun _ a=>?_)
 ·refine qe<|Qj [Qv 0,q0,Qv 0,q0,qt 0,q0,q0,q0,qt 0,q0,q0,q0,q0,q0,q0,q0] qh<|U J<|U J<|U J<|U J<|U J<|U J<|q8 a fun ah cb a=>qz cb J J<|Qc (q9 ah) cb J<|U J<|U J<|q8 a fun ai cc a=>qz cc J J<|Qc (q9 ai) cc J<|q8 a fun fv cd a=>qz cd J J<|K4 (ds:=[q7 ah]) ah cd J J J J J J J J (leb J) J<|q8 a fun fw ce a=>qz ce qf J<|K4 (ds:=[q7 ai]) ai ce J J J J J J J J (leb J) J<|qu<|U J<|qb J<|qb J<|qs ?_;cases a;exact ⟨.inr J,_,J,wkA [] [] []⟩
 refine qk<|qe<|Qj [Qv 0,q0,Qv 0,q0,qt 0,q0,q0,q0,qt 0,q0,q0,q0,q0,q0,q0,q0] qh<|U J<|U J<|U J<|U J<|U J<|U J<|q8 a fun ac cf a=>qz cf J J<|Qc (q9 ac) cf J<|U J<|U J<|q8 a fun ad cg a=>qz cg J J<|Qc (q9 ad) cg J<|q8 a fun fx ch a=>qz ch J J<|K4 (ds:=[q7 ac]) ac ch J J J J J J J J (leb J) J<|q8 a fun fy ci a=>qz ci qf J<|K4 (ds:=[q7 ad]) ad ci J J J J J J J J (leb J) J<|qu<|U J<|O (.d (q7 (w64 (l + 1)))) J<|qb J<|qu<|U J<|O (.d (q7 (w64 (u - 1)))) J<|qb J<|qa<|qe<|q8 a fun cj fj a=>?_;refine Qi (fun y=>y = cj) (fun (y : Int × List Int)=>⟨[(0,.hs 0 1 0 y.2.length),(1,q9 b),(11,q9 y.1)],[(0,.dat 1 (y.2.map (eI .i64)))],1⟩) qf ?_ ?_
 ·refine Qd (q7j b) (fun (c : Int × Int × List Int)=>⟨[(0,.hs 0 1 0 c.2.2.length),(1,q9 b),(10,q9 c.1),(11,q9 c.2.1)],[(0,.dat 1 (c.2.2.map (eI .i64)))],1⟩) (w64 (l + 1),w64 (u - 1),(((g.set b.toNat h).set k.toNat j).set l.toNat ac).set u.toNat ad) cj fj (wkE [] [] [] J ⟨⟨_,J,K6 qf J Q2 (ltd J)⟩,qr J,qr J,qr J,trivial⟩ ⟨Qt J J,trivial⟩) ?_;intro c fz f;unfold q7j at f;refine Q3<|qe<|q8 f fun ck fk f=>?_;refine Qi (fun q=>q = ck) (fun (q : Int)=>⟨[(0,.hs 0 1 0 c.2.2.length),(1,q9 b),(10,q9 q),(11,q9 c.2.1)],[(0,.dat 1 (c.2.2.map (eI .i64)))],1⟩) qf ?_ ?_
  ·refine Qd (q7k c b) (fun (ae : Int)=>⟨[(0,.hs 0 1 0 c.2.2.length),(1,q9 b),(10,q9 ae),(11,q9 c.2.1)],[(0,.dat 1 (c.2.2.map (eI .i64)))],1⟩) c.1 ck fk (wkA [] [] []) ?_;intro ae ga w;unfold q7k at w;refine qe<|qe<|Qj [q0,q0,qt 0,q0,q0,q0,qt 0,q0,q0,q0,q0,q0,q0,q0] qh<|U J<|U J<|O (.d (.bool (decide (ae≤c.2.1)))) J<|q8 w fun fl o w=>?_;refine Qe 11 (fun A st=>∃ (cm cn co cp cq cr cs ct cu cv : V),st = A [(112,Q1 fl),(111,cv),(110,cu),(109,ct),(108,cs),(107,cr),(106,cq),(105,cp),(104,co),(103,cn),(102,cm)]) ?_ ?_
   ·refine Qf J J o (fun o=>?_) (fun o=>?_)
    ·refine U J<|U J<|q8 o fun cw cx o=>qz cx J J<|Qc (q9 cw) cx J<|U J<|U J<|q8 o fun cy cz o=>qz cz J J<|Qc (q9 cy) cz J<|q8 o fun da fm o=>Q4 (Zx cw cy da fm) J<|O (Q1 da) J<|qa ?_;cases o;exact ⟨_,_,_,_,_,_,_,_,_,_,J⟩
    refine qd J<|qd J<|qd J<|qd J<|qd J<|qd J<|qd J<|qd J<|qd J<|O (Q1 false) J<|qa ?_;cases o;exact ⟨_,_,_,_,_,_,_,_,_,_,J⟩
   rintro _ ⟨cm,cn,co,cp,cq,cr,cs,ct,cu,cv,rfl⟩;refine qa ?_;refine qn J w (fun _ w=>?_) (fun _ w=>?_)
   ·refine qk<|Q3<|qw<|U J<|O (.d (q7 (w64 (ae + 1)))) J<|qb J<|qv<|Qn<|Qg<|⟨_,qm w,wkA [] [] []⟩
   refine Q8 ?_;refine ⟨_,qm w,fun hm=>?_⟩;subst hm;exact ⟨_,J,wkA [] [] []⟩
  intro q hb;subst hb;refine qe<|q8 f fun dc fn f=>?_;refine Qi (fun z=>z = dc) (fun (z : Int)=>⟨[(0,.hs 0 1 0 c.2.2.length),(1,q9 b),(10,q9 q),(11,q9 z)],[(0,.dat 1 (c.2.2.map (eI .i64)))],1⟩) qf ?_ ?_
  ·refine Qd (q7l q c b) (fun (af : Int)=>⟨[(0,.hs 0 1 0 c.2.2.length),(1,q9 b),(10,q9 q),(11,q9 af)],[(0,.dat 1 (c.2.2.map (eI .i64)))],1⟩) c.2.1 dc fn (wkA [] [] []) ?_;intro af gb x;unfold q7l at x;refine qe<|qe<|Qj [q0,q0,q0,qt 0,q0,q0,q0,qt 0,q0,q0,q0,q0,q0,q0,q0] qh<|U J<|U J<|O (.d (.bool (decide (q≤af)))) J<|q8 x fun fo p x=>?_;refine Qe 12 (fun A st=>∃ (dd de df dg dh dj dk dl dm dn dp : V),st = A [(129,Q1 fo),(128,dp),(127,dn),(126,dm),(125,dl),(124,dk),(123,dj),(122,dh),(121,dg),(120,df),(119,de),(118,dd)]) ?_ ?_
   ·refine Qf J J p (fun p=>?_) (fun p=>?_)
    ·refine U J<|U J<|q8 p fun dq dr p=>qz dr J J<|Qc (q9 dq) dr J<|U J<|U J<|q8 p fun dt du p=>qz du J J<|Qc (q9 dt) du J<|q8 p fun aj fq p=>Q4 (Zx dq dt aj fq) J<|O (Q1 (!aj)) J<|O (Q1 (!aj)) J<|qa ?_;cases p;exact ⟨_,_,_,_,_,_,_,_,_,_,_,J⟩
    refine qd J<|qd J<|qd J<|qd J<|qd J<|qd J<|qd J<|qd J<|qd J<|qd J<|O (Q1 false) J<|qa ?_;cases p;exact ⟨_,_,_,_,_,_,_,_,_,_,_,J⟩
   rintro _ ⟨dd,de,df,dg,dh,dj,dk,dl,dm,dn,dp,rfl⟩;refine qa ?_;refine qn J x (fun _ x=>?_) (fun _ x=>?_)
   ·refine qk<|Q3<|qw<|U J<|O (.d (q7 (w64 (af - 1)))) J<|qb J<|qv<|Qn<|Qg<|⟨_,qm x,wkA [] [] []⟩
   refine Q8 ?_;refine ⟨_,qm x,fun hm=>?_⟩;subst hm;exact ⟨_,J,wkA [] [] []⟩
  intro z hb;subst hb;refine qe<|qc<|U J<|U J<|O (.d (.bool (decide (q > z)))) J<|qa ?_;refine qn J f (fun _ f=>?_) (fun _ f=>?_)
  ·refine Q8 ?_;refine ⟨_,qm f,fun hm=>?_⟩;subst hm;exact ⟨_,J,wkA [] [] []⟩
  refine qk<|qe<|Qj [Qv 0,q0,Qv 0,q0,qt 0,q0,q0,q0,qt 0,q0,q0,q0,q0,q0,q0,q0] qh<|U J<|U J<|U J<|U J<|U J<|U J<|q8 f fun ak dv f=>qz dv J J<|Qc (q9 ak) dv J<|U J<|U J<|q8 f fun al dw f=>qz dw J J<|Qc (q9 al) dw J<|q8 f fun gc dx f=>qz dx J J<|K4 (ds:=[q7 ak]) ak dx J J J J J J J J (leb J) J<|q8 f fun gd dy f=>qz dy qf J<|K4 (ds:=[q7 al]) al dy J J J J J J J J (leb J) J<|qu<|U J<|O (.d (q7 (w64 (q + 1)))) J<|qb J<|qa<|qw<|U J<|O (.d (q7 (w64 (z - 1)))) J<|qb J<|qv<|Qn<|Qg<|⟨_,qm f,wkE [] [] [] J ⟨⟨_,J,K6 qf J Q2 (ltd J)⟩,qr J,qr J,qr J,trivial⟩ ⟨Qt J J,trivial⟩⟩
 intro y hb;subst hb;refine qe<|Qj [Qv 0,q0,Qv 0,q0,qt 0,q0,q0,q0,qt 0,q0,q0,q0,q0,q0,q0,q0] qh<|U J<|U J<|U J<|U J<|U J<|U J<|q8 a fun am dz a=>qz dz J J<|Qc (q9 am) dz J<|U J<|U J<|q8 a fun an fa a=>qz fa J J<|Qc (q9 an) fa J<|q8 a fun ge fb a=>qz fb J J<|K4 (ds:=[q7 am]) am fb J J J J J J J J (leb J) J<|q8 a fun gf fc a=>qz fc qf J<|K4 (ds:=[q7 an]) an fc J J J J J J J J (leb J) J<|qu<|U J<|qb J<|qb J<|qs ?_;cases a;exact ⟨.inr J,_,J,wkA [] [] []⟩
theorem qnf (b : Int) (r : Int) (a : q1y b = some r) : Pure Tryz.prog tab 166 [q7 b] (.int .u64 r):=by
 unfold q1y at a;refine Qo Tryz.func166 J qh qh J<|qc<|qb J<|qu<|U J<|O _ J<|q8 a fun c d a=>Q4 (qfz (IntKind.wrap .u64 b) c d) J<|q8 a fun g f a=>qtn f J J J<|qb J<|qs ?_;cases a;exact Q5 _ J
theorem qni (a : Int) (r : Int) (b : q1z  a = some r) : K9 Tryz.prog tab 167 [.ref 0 1 0 0] [(0,.dat 1 [[.int .u64 a]])] 1 (.d (.int .u64 r)) [(0,.dat 1 [[.int .u64 r]])] 1:=by
 unfold q1z at b;refine Kv Tryz.func167 J qh qh J<|qc<|qb J<|qa<|qe<|Qj [Qv 0,q0,q0,q0,qt 0,q0,q0,qt 0,q0,q0] qh<|U J<|O _ J<|O _ J<|U J<|O _ J<|O _ J<|O _ J<|O _ J<|O _ J<|Qm 0 _ J<|qa<|qe<|Qj [Qv 0,q0,q0,q0,qt 0,q0,q0,qt 0,q0,q0] qh<|U J<|O _ J<|O _ J<|U J<|O _ J<|O _ J<|O _ J<|O _ J<|O _ J<|Qm 0 _ J<|qa<|qe<|Qj [Qv 0,q0,q0,q0,qt 0,q0,q0,qt 0,q0,q0] qh<|U J<|O _ J<|O _ J<|U J<|O _ J<|O _ J<|O _ J<|O _ J ?_;refine O _ J<|Qm 0 _ J<|qu<|U J<|O _ J<|O _ J<|qb J<|qs ?_;cases b;exact ⟨.inr J,_,J,wkA [] [] []⟩
theorem qyh (j : List Int) (b : Int) (g : Int) (r : List Int) (c : q6y  j b g = some r) : K9 Tryz.prog tab 148 [.hs 0 1 0 j.length,q9 b,q9 g] [(0,.dat 1 (j.map (eI .i64)))] 1 (.d (.tup [])) [(0,.dat 1 (r.map (eI .i64)))] 1:=by
 unfold q6y at c;refine Kv Tryz.func148 J qh qh J<|qc<|U J<|U J<|O _ J<|qb J<|qu<|U J<|O _ J<|qa ?_;refine qn J c (fun _ c=>?_) (fun _ c=>?_)
 ·refine qc<|U J<|O _ J<|Qz J J<|Qm 1 _ J<|qu<|U J<|q8 c fun k u c=>Q4 (qnf (w64 (g - b)) k u) J<|qb J<|qu<|U J<|U J<|O _ J<|O _ J<|O _ J<|O _ J<|qb J<|qa<|q8 c fun v w c=>Q3<|Qd (q6z b g k) (fun f=>⟨[(0,.hs 0 1 0 f.2.1.length),(1,q9 b),(6,.d (q7 (w64 (g - b)))),(7,.ref 1 1 0 0),(8,.d (.int .u64 k)),(9,q9 f.1)],[(0,.dat 1 (f.2.1.map (eI .i64))),(1,.dat 1 [[.int .u64 f.2.2]])],2⟩) (w64 ((w64 (b + (w64 ((w64 (Int.tdiv (w64 (g - b)) 4)) * 2)))) - 1),j,IntKind.wrap .u64 (w64 (g - b))) v w (wkA [(1,1)] [] []) ?_;intro f z a;unfold q6z at a;refine qe<|qc<|U J<|U J<|U J<|O _ J<|O _ J<|O _ J<|O _ J<|O _ J<|qa ?_;refine qn J a (fun _ a=>?_) (fun _ a=>?_)
  ·refine qk<|qe<|Q3<|qc<|q8 a fun l x a=>Ka [(0,1)] [(0,1),(1,0)] _ (.d (.int .u64 l)) 1 [(1,.dat 1 [[.int .u64 l]]),(0,.dat 1 (f.2.1.map (eI .i64)))] 2 (qni f.2.2 l x)<|U J<|O _ J<|O _ J<|O _ J<|qb J<|qa<|qe<|qc<|U J<|U J<|O _ J<|qa<|q8 a fun y h a=>?_;refine Ys (fun m=>m = y) (fun m=>⟨[(0,.hs 0 1 0 f.2.1.length),(1,q9 b),(6,.d (q7 (w64 (g - b)))),(7,.ref 1 1 0 0),(8,.d (.int .u64 k)),(9,q9 f.1),(10,q9 m)],[(0,.dat 1 (f.2.1.map (eI .i64))),(1,.dat 1 [[.int .u64 l]])],2⟩) qf ?_ ?_
   ·refine qn J h (fun _ h=>?_) (fun _ h=>?_)
    ·refine qw<|U J<|U J<|O _ J<|qb J<|qv ?_;cases h;exact ⟨_,J,wkA [(1,1)] [] []⟩
    refine qk<|Qg ?_;cases h;exact ⟨_,J,wkA [(1,1)] [] []⟩
   intro m hb;subst hb;refine Qj [Qv 0,q0,Qv 0,q0,qt 0,q0,q0,q0,qt 0,q0,q0,q0,q0,q0,q0,q0,q0,q0,q0,q0] qh<|U J<|U J<|U J<|U J<|U J<|O _ J<|U J<|U J<|U J<|O _ J<|q8 a fun n o a=>qz o J J<|Qc _ o J<|U J<|U J<|q8 a fun p q a=>qz q J J<|Qc _ q J<|q8 a fun aa s a=>qz s J J<|K4 (ds:=[q7 n]) n s J J J J J J J J (leb J) J<|q8 a fun ab t a=>qz t qf J<|K4 (ds:=[q7 p]) p t J J J J J J J J (leb J) J<|qv<|Qn<|qw<|U J<|O _ J<|qb J<|qv<|⟨_,qm a,wkE [(1,1)] [] [] J ⟨⟨_,J,K6 qf J Q2 (ltd J)⟩,qr J,qr J,⟨_,J,.ref J Q2 (ltd J)⟩,qr J,qr J,trivial⟩ ⟨Qt J J,Qt J J,trivial⟩⟩
  refine Q8 ?_;refine ⟨_,qm a,fun hm=>?_⟩;subst hm;cases c;exact ⟨.inl J,_,J,wkA [] [] []⟩
 refine qk<|Qg ?_;cases c;exact ⟨.inl J,_,J,wkA [] [] []⟩
theorem qyw (rec : List Int→Int→Int→Int→Option (List Int)) (hrec : ∀ (n : List Int) (o : Int) (p : Int) (q : Int) (r : List Int),rec n o p q = some r→K9 Tryz.prog tab 135 [.hs 0 1 0 n.length,q9 o,q9 p,q9 q] [(0,.dat 1 (n.map (eI .i64)))] 1 (.d (.tup [])) [(0,.dat 1 (r.map (eI .i64)))] 1) (n : List Int) (o : Int) (p : Int) (q : Int) (r : List Int) (s : q4n rec  n o p q = some r) : K9 Tryz.prog tab 135 [.hs 0 1 0 n.length,q9 o,q9 p,q9 q] [(0,.dat 1 (n.map (eI .i64)))] 1 (.d (.tup [])) [(0,.dat 1 (r.map (eI .i64)))] 1:=by
 unfold q4n at s;refine Kv Tryz.func135 J qh qh J<|qc<|qb J<|qu<|qb J<|qa<|q8 s fun az ba s=>Q3<|Qd (q4m rec) (fun b=>⟨[(0,.hs 0 1 0 b.2.2.2.2.2.length),(1,q9 b.1),(2,q9 b.2.1),(3,q9 b.2.2.1),(8,Q1 b.2.2.2.1),(9,Q1 b.2.2.2.2.1)],[(0,.dat 1 (b.2.2.2.2.2.map (eI .i64)))],1⟩) (o,p,q,true,true,n) az ba (wkA [] [] []) ?_;intro b cn a;unfold q4m at a;refine Q3<|qc<|U J<|U J<|O _ J<|qb J<|qa<|qe<|qc<|U J<|O _ J<|qa ?_;refine qn J a (fun _ a=>?_) (fun _ a=>?_)
 ·refine qc<|U J<|U J<|U J<|q8 a fun aa bb a=>q8 a fun co bc a=>?_;have cp:=Kq bc;refine Ka [(0,0)] [(0,0)] _ (.d (.tup [])) 1 [(0,.dat 1 (aa.map (eI .i64)))] 1 (qyn b.2.2.2.2.2 b.1 b.2.1 aa bb)<|qs ?_;refine ⟨_,qm a,fun hm=>?_⟩;subst hm;cases s;exact ⟨.inr J,_,J,wkA [] [] []⟩
 refine qk<|qe<|qc<|U J<|O _ J<|qa ?_;refine qn J a (fun _ a=>?_) (fun _ a=>?_)
 ·refine qc<|U J<|U J<|U J<|q8 a fun ab bd a=>q8 a fun cq be a=>?_;have cr:=Kq be;refine Ka [(0,0)] [(0,0)] _ (.d (.tup [])) 1 [(0,.dat 1 (ab.map (eI .i64)))] 1 (qyl b.2.2.2.2.2 b.1 b.2.1 ab bd)<|qs ?_;refine ⟨_,qm a,fun hm=>?_⟩;subst hm;cases s;exact ⟨.inr J,_,J,wkA [] [] []⟩
 refine qk<|qe<|qc<|U J<|O _ J<|qa<|q8 a fun bf k a=>?_;refine Ys (fun c=>c = bf) (fun c=>⟨[(0,.hs 0 1 0 c.2.length),(1,q9 b.1),(2,q9 b.2.1),(3,q9 c.1),(8,Q1 b.2.2.2.1),(9,Q1 b.2.2.2.2.1),(10,.d (q7 (w64 (b.2.1 - b.1))))],[(0,.dat 1 (c.2.map (eI .i64)))],1⟩) qf ?_ ?_
 ·refine qn J k (fun _ k=>?_) (fun _ k=>?_)
  ·refine qc<|U J<|U J<|U J<|q8 k fun ac bg k=>q8 k fun cs bh k=>?_;have bi:=Kq bh;refine Ka [(0,0)] [(0,0)] _ (.d (.tup [])) 1 [(0,.dat 1 (ac.map (eI .i64)))] 1 (qyh b.2.2.2.2.2 b.1 b.2.1 ac bg)<|qa<|qw<|U J<|O _ J<|qb J<|qv ?_;cases k;exact ⟨_,J,wkE [] [] [] J ⟨⟨_,J,K6 (by simp [bi]) J Q2 (ltd J)⟩,qr J,qr J,qr J,qr J,qr J,qr J,trivial⟩ ⟨Qt J J,trivial⟩⟩
  refine qk<|Qg ?_;cases k;exact ⟨_,J,wkA [] [] []⟩
 intro c hb;subst hb;refine qc<|U J<|U J<|U J<|q8 a fun bj bk a=>q98 [.hs 0 1 0 c.2.length,q9 b.1,q9 b.2.1] (qyj c.2 b.1 b.2.1 bj bk) J J (U6 (Zm J J) (U6 J (U6 J J))) (.inr J)<|U J<|O _ J<|O _ J<|qb J<|qb J<|qa<|qe<|qc<|U J<|O _ J<|qa<|q8 a fun bl l a=>?_;refine Ys (fun g=>g = bl) (fun g=>⟨[(0,.hs 0 1 0 g.2.2.length),(1,q9 b.1),(2,q9 b.2.1),(3,q9 c.1),(8,Q1 b.2.2.2.1),(9,Q1 b.2.2.2.2.1),(10,.d (q7 (w64 (b.2.1 - b.1)))),(11,q9 g.1),(12,q9 g.2.1)],[(0,.dat 1 (g.2.2.map (eI .i64)))],1⟩) qf ?_ ?_
 ·refine qn J l (fun _ l=>?_) (fun _ l=>?_)
  ·refine qc<|U J<|U J<|U J<|q8 l fun ad bm l=>q8 l fun ct bn l=>?_;have bo:=Kq bn;refine Ka [(0,0)] [(0,0)] _ (.d (.tup [])) 1 [(0,.dat 1 (ad.map (eI .i64)))] 1 (qyz c.2 b.1 b.2.1 ad bm)<|qu<|U J<|O _ J<|U J<|U J<|O _ J<|O _ J<|qb J<|qa<|qw<|qb J<|qv ?_;cases l;exact ⟨_,J,wkE [] [] [] J ⟨⟨_,J,K6 (by simp [bo]) J Q2 (ltd J)⟩,qr J,qr J,qr J,qr J,qr J,qr J,qr J,qr J,trivial⟩ ⟨Qt J J,trivial⟩⟩
  refine qk<|Qg ?_;cases l;exact ⟨_,J,wkA [] [] []⟩
 intro g hb;subst hb;refine qe<|qc<|U J<|q8 a fun bp t a=>?_;refine Qe 3 (fun A st=>∃ ae af,st = A [(64,Q1 bp),(63,af),(62,ae)]) ?_ ?_
 ·refine Qf J J t (fun t=>?_) (fun t=>?_)
  ·refine U J<|O _ J<|qa ?_;cases t;exact ⟨_,_,J⟩
  refine qd J<|O _ J<|qa ?_;cases t;exact ⟨_,_,J⟩
 rintro _ ⟨ae,af,rfl⟩;refine q8 a fun bq u a=>?_;refine Qe 4 (fun A st=>∃ ag ah ai,st = A [(68,Q1 bq),(67,ai),(66,ah),(65,ag)]) ?_ ?_
 ·refine Qf J J u (fun u=>?_) (fun u=>?_)
  ·refine U J<|O _ J<|O _ J<|qa ?_;cases u;exact ⟨_,_,_,J⟩
  refine qd J<|qd J<|O _ J<|qa ?_;cases u;exact ⟨_,_,_,J⟩
 rintro _ ⟨ag,ah,ai,rfl⟩;refine qa<|q8 a fun br f a=>?_;refine Ys (fun m=>.inl m = br) (fun m=>⟨[(0,.hs 0 1 0 m.length),(1,q9 b.1),(2,q9 b.2.1),(3,q9 c.1),(8,Q1 b.2.2.2.1),(9,Q1 b.2.2.2.2.1),(10,.d (q7 (w64 (b.2.1 - b.1)))),(11,q9 g.1)],[(0,.dat 1 (m.map (eI .i64)))],1⟩) qf ?_ ?_
 ·refine qn J f (fun _ f=>?_) (fun _ f=>?_)
  ·refine qc<|U J<|U J<|U J<|q8 f fun w bs f=>q8 f fun cu bt f=>?_;have bu:=Kq bt;refine Ka [(0,0)] [(0,0)] _ (Q1 w.1) 1 [(0,.dat 1 (w.2.map (eI .i64)))] 1 (qyp g.2.2 b.1 b.2.1 w bs)<|qa ?_;refine qn J f (fun _ f=>?_) (fun _ f=>?_)
   ·refine Uz ?_;cases f;refine ⟨_,qm a,fun hm=>?_⟩;subst hm;cases s;exact ⟨.inr J,_,J,wkA [] [] []⟩
   refine qk<|Qg ?_;cases f;exact ⟨_,J,wkE [] [] [] J ⟨⟨_,J,K6 (by simp [bu]) J Q2 (ltd J)⟩,qr J,qr J,qr J,qr J,qr J,qr J,qr J,trivial⟩ ⟨Qt J J,trivial⟩⟩
  refine qk<|Qg ?_;cases f;exact ⟨_,J,wkA [] [] []⟩
 intro m hb;subst hb;refine qe<|qe<|Qj [q0,q0,q0,qt 0,q0,q0,q0,qt 0,q0,q0,q0,q0,q0,q0,q0] qh<|U J<|O _ J<|q8 a fun bv h a=>?_;refine Qe 13 (fun A st=>∃ aj ak al am an ao ap aq ar au av aw,st = A [(87,Q1 bv),(86,aw),(85,av),(84,au),(83,ar),(82,aq),(81,ap),(80,ao),(79,an),(78,am),(77,al),(76,ak),(75,aj)]) ?_ ?_
 ·refine Qf J J h (fun h=>?_) (fun h=>?_)
  ·refine U J<|U J<|O _ J<|q8 h fun bw ax h=>qz ax J J<|Qc _ ax J<|U J<|U J<|q8 h fun bx ay h=>qz ay J J<|Qc _ ay J<|q8 h fun bz ca h=>Q4 (Zx bw bx bz ca) J<|O _ J<|O _ J<|qa ?_;cases h;exact ⟨_,_,_,_,_,_,_,_,_,_,_,_,J⟩
  refine qd J<|qd J<|qd J<|qd J<|qd J<|qd J<|qd J<|qd J<|qd J<|qd J<|qd J<|O _ J<|qa ?_;cases h;exact ⟨_,_,_,_,_,_,_,_,_,_,_,_,J⟩
 rintro _ ⟨aj,ak,al,am,an,ao,ap,aq,ar,au,av,aw,rfl⟩;refine qa ?_;refine qn J a (fun _ a=>?_) (fun _ a=>?_)
 ·refine qc<|U J<|U J<|U J<|U J<|q8 a fun x cb a=>q8 a fun cv cc a=>?_;have cd:=Kq cc;refine Ka [(0,0)] [(0,0)] _ (q9 x.1) 1 [(0,.dat 1 (x.2.map (eI .i64)))] 1 (qys m b.1 b.2.1 g.1 x cb)<|qb J<|qu<|U J<|qb J<|qa<|Q8<|Jv<|Qg<|⟨_,qm a,wkE [] [] [] J ⟨⟨_,J,K6 (by simp [cd]) J Q2 (ltd J)⟩,qr J,qr J,qr J,qr J,qr J,trivial⟩ ⟨Qt J J,trivial⟩⟩
 refine qk<|qc<|U J<|U J<|U J<|U J<|q8 a fun j ce a=>q8 a fun cw cf a=>?_;have v:=Kq cf;refine Ka [(0,0)] [(0,0)] _ (.d (.tup [q7 j.1,.bool j.2.1])) 1 [(0,.dat 1 (j.2.2.map (eI .i64)))] 1 (qyt m b.1 b.2.1 g.1 j ce)<|U J<|O _ J<|O _ J<|qb J<|qb J<|qu<|U J<|qb J<|qu<|U J<|U J<|O _ J<|U J<|U J<|O _ J<|qb J<|qb J<|qu<|U J<|O _ J<|qb J<|qu<|U J<|U J<|O _ J<|qa ?_;refine qn J a (fun _ a=>?_) (fun _ a=>?_)
 ·refine qc<|U J<|U J<|O _ J<|qb J<|qu<|U J<|U J<|U J<|U J<|q8 a fun y cg a=>q8 a fun cx ch a=>?_;have ci:=Kq ch;refine Jz [(0,0)] [(0,0)] [.hs 0 1 0 m.length,q9 b.1,q9 j.1,q9 c.1] (.d (.tup [])) [(0,.dat 1 (y.map (eI .i64)))] [(0,.dat 1 (y.map (eI .i64)))] 1 (hrec j.2.2 b.1 j.1 c.1 y cg) J J J (Yk [(0,0)] [] [] J ⟨⟨_,J,K6 (by simp [v]) J Q2 (ltd J)⟩,qr J,qr J,qr J,trivial⟩ ⟨Qt J J,trivial⟩) (Yk [(0,0)] [] [] J ⟨qr J,trivial⟩ ⟨Qt J J,trivial⟩) J ⟨.inl J,trivial⟩<|qa<|qw<|U J<|O _ J<|qb J<|qv<|Qn<|Qg<|⟨_,qm a,wkE [] [] [] J ⟨⟨_,J,K6 (by simp [v,ci]) J Q2 (ltd J)⟩,qr J,qr J,qr J,qr J,qr J,trivial⟩ ⟨Qt J J,trivial⟩⟩
 refine qc<|U J<|U J<|O _ J<|qb J<|qu<|U J<|U J<|O _ J<|U J<|U J<|q8 a fun z cj a=>q8 a fun cy ck a=>?_;have cm:=Kq ck;refine Jz [(0,0)] [(0,0)] [.hs 0 1 0 m.length,.d (q7 (w64 (j.1 + 1))),q9 b.2.1,q9 c.1] (.d (.tup [])) [(0,.dat 1 (z.map (eI .i64)))] [(0,.dat 1 (z.map (eI .i64)))] 1 (hrec j.2.2 (w64 (j.1 + 1)) b.2.1 c.1 z cj) J J J (Yk [(0,0)] [] [] J ⟨⟨_,J,K6 (by simp [v]) J Q2 (ltd J)⟩,qr J,qr J,qr J,trivial⟩ ⟨Qt J J,trivial⟩) (Yk [(0,0)] [] [] J ⟨qr J,trivial⟩ ⟨Qt J J,trivial⟩) J ⟨.inl J,trivial⟩<|qa<|qw<|U J<|qb J<|qv<|Qn<|Qg<|⟨_,qm a,wkE [] [] [] J ⟨⟨_,J,K6 (by simp [v,cm]) J Q2 (ltd J)⟩,qr J,qr J,qr J,qr J,qr J,trivial⟩ ⟨Qt J J,trivial⟩⟩
theorem qyx (n : Nat) : ∀ (a : List Int) (b : Int) (c : Int) (f : Int) (r : List Int),q7p n  a b c f = some r→K9 Tryz.prog tab 135 [.hs 0 1 0 a.length,q9 b,q9 c,q9 f] [(0,.dat 1 (a.map (eI .i64)))] 1 (.d (.tup [])) [(0,.dat 1 (r.map (eI .i64)))] 1:=by
 induction n with
 | zero=>intro a b c f r g;cases g
 | succ n ih=>intro a b c f r g;exact qyw (q7p n )   ih a b c f r g
theorem qdp (b : List Int) (r : List Int) (a : U3  b = some r) : K9 Tryz.prog tab 120 [.hs 0 1 0 b.length] [(0,.dat 1 (b.map (eI .i64)))] 1 (.d (.tup [])) [(0,.dat 1 (r.map (eI .i64)))] 1:=by
 unfold U3 at a;refine Kv Tryz.func120 J qh qh J<|qc<|U J<|O _ J<|qb J<|qa<|qw<|U J<|U J<|U J<|O _ J<|q8 a fun f h a=>Q4 (qfz (IntKind.wrap .u64 (b.length : Int)) f h) J<|q8 a fun g c a=>q8 a fun l j a=>?_;have m:=Kq j;obtain ⟨k,c⟩:=qfu c;refine Ka [(0,0)] [(0,0)] _ (.d (.tup [])) 1 [(0,.dat 1 (g.map (eI .i64)))] 1 (qyx k b 0 (b.length : Int) f g c)<|qv ?_;cases a;exact ⟨.inl J,_,J,wkA [] [] []⟩
theorem qdg (c : List Int) (r : (Nat × Nat) × List Int) (d : q10  c = some r) : K9 Tryz.prog tab 121 [.hs 0 1 0 c.length] [(0,.dat 1 (c.map (eI .i64)))] 1 (.hs 0 1 r.1.1 r.1.2) [(0,.dat 1 (r.2.map (eI .i64)))] 1:=by
 unfold q10 at d;refine Kv Tryz.func121 J qh qh J<|qc<|qb J<|qa<|qe<|qc<|U J<|O _ J<|O _ J<|qa ?_;refine qn J d (fun _ d=>?_) (fun _ d=>?_)
 ·refine qc<|U J<|qb J<|qs ?_;cases d;exact ⟨.inr J,_,J,wkA [] [] []⟩
 refine qk<|qe<|qc<|qb J<|qa<|q8 d fun n z d=>?_;refine Qi (fun k=>.inl k = n) (fun k=>⟨[(0,.hs 0 1 0 c.length)],[(0,.dat 1 (c.map (eI .i64)))],1⟩) qf ?_ ?_
 ·refine Qd (Ji c) (fun l=>⟨[(0,.hs 0 1 0 c.length),(3,q9 l)],[(0,.dat 1 (c.map (eI .i64)))],1⟩) 1 n z (wkA [] [] []) ?_;intro l af a;unfold Ji at a;refine qe<|qc<|U J<|U J<|O _ J<|O _ J<|qa ?_;refine qn J a (fun _ a=>?_) (fun _ a=>?_)
  ·refine qk<|qe<|Q3<|qe<|Qj [q0,qt 0,q0,q0,q0,q0,qt 0,q0,q0,q0] qh<|U J<|U J<|q8 a fun ag o a=>qz o J J<|Qc _ o J<|U J<|U J<|O _ J<|q8 a fun ah p a=>qz p J J<|Qc _ p J<|O _ J<|qa ?_;refine qn J a (fun _ a=>?_) (fun _ a=>?_)
   ·refine qc<|U J<|U J<|q8 a fun aa ab a=>q99 ab J J J J J (q8k J) (fun _=>rfl)<|qb J<|qa<|qe<|qc<|qb J<|qa<|q8 a fun q ac a=>?_;refine Qi (fun f=>f = q) (fun f=>⟨[(0,.hs 0 1 0 f.2.length),(3,q9 f.1)],[(0,.dat 1 (f.2.map (eI .i64)))],1⟩) qf ?_ ?_
    ·refine Qd (q1w) (fun g=>⟨[(0,.hs 0 1 0 g.2.2.2.length),(3,q9 g.1),(4,.hs 0 1 g.2.1.1 g.2.1.2),(5,q9 g.2.2.1)],[(0,.dat 1 (g.2.2.2.map (eI .i64)))],1⟩) (l,aa,1,c) q ac (wkA [] [] []) ?_;intro g ai h;unfold q1w at h;refine qe<|qc<|U J<|U J<|O _ J<|O _ J<|qa ?_;refine qn J h (fun _ h=>?_) (fun _ h=>?_)
     ·refine qk<|qe<|q8 h fun ad b h=>?_;refine Qi (fun j=>j = ad) (fun j=>⟨[(0,.hs 0 1 0 j.2.2.length),(3,q9 j.1),(4,.hs 0 1 j.2.1.1 j.2.1.2),(5,q9 g.2.2.1)],[(0,.dat 1 (j.2.2.map (eI .i64)))],1⟩) qf ?_ ?_
      ·refine qe<|Qj [q0,qt 0,q0,q0,q0,q0,qt 0,q0,q0,q0] qh<|U J<|U J<|q8 b fun aj s b=>qgf s J J J J J J<|Qc _ (qfq s) J<|U J<|U J<|O _ J<|q8 b fun ak t b=>qgf t J J J J J J<|Qc _ (qfq t) J<|O _ J<|qa ?_;refine qn J b (fun _ b=>?_) (fun _ b=>?_)
       ·refine qc<|U J<|U J<|U J<|U J<|q8 b fun u v b=>qgf v J J J J J J<|Qc _ (qfq v) J<|q8 b fun al x b=>qz x J J<|K4 (ds:=[q7 u]) u x J J J J J J J J (leb J) J<|qa<|qw<|U J<|O _ J<|qb J<|qv ?_;cases b;exact ⟨_,J,wkE [] [] [] J ⟨⟨_,J,K6 qf J Q2 (ltd J)⟩,qr J,⟨_,J,.hs J Q2 (ltd J)⟩,qr J,trivial⟩ ⟨Qt J J,trivial⟩⟩
       refine qk<|Qg ?_;cases b;exact ⟨_,J,wkA [] [] []⟩
      intro j hb;subst hb;refine qw<|U J<|O _ J<|qb J<|qv<|⟨_,qm h,wkA [] [] []⟩
     refine Q8 ?_;refine ⟨_,qm h,fun hm=>?_⟩;subst hm;exact ⟨_,J,wkA [] [] []⟩
    intro f hb;subst hb;refine qc<|U J<|U J<|q8 a fun y m a=>q99 m J J J J J (q8k J) (fun _=>rfl)<|qt9 (w:=y) (xs:=f.2) (enc:=(eI .i64)) 0 (qb6 m) J J J J J J J ?_;have am:=@qiq _ f.2 y 0 (qb6 m);refine qu<|U J<|U J<|q8 a fun an ae a=>q99 ae J J J J J (fun _=>rfl) (q8k J)<|qb J<|qs ?_;refine ⟨_,qm a,fun hm=>?_⟩;subst hm;cases d;exact ⟨.inr J,_,J,wkA [] [] []⟩
   refine qk<|Qg<|Qn<|qw<|U J<|O _ J<|qb J<|qv<|⟨_,qm a,wkA [] [] []⟩
  refine Q8 ?_;refine ⟨_,qm a,fun hm=>?_⟩;subst hm;exact ⟨_,J,wkA [] [] []⟩
 intro k hb;subst hb;refine qc<|U J<|qb J<|qs ?_;cases d;exact ⟨.inr J,_,J,wkA [] [] []⟩
theorem qya (b : List qi) (g : qi→Option Bool) (p1F : FuncId) (p1C : List DV) (p1Ok : ∀ (c : qi) (r : Bool),g c = some r→Pure Tryz.prog tab p1F ([.agg [q7 c.X0,q7 c.Y0,q7 c.X1,q7 c.Y1]] ++ p1C) (.bool r)) (r : Int) (f : qdn b g = some r) : Pure Tryz.prog tab 137 [.sl 4 (b.map Q0),.fn p1F p1C] (q7 r):=by
 unfold qdn at f;refine Qo Tryz.func137 J qh qh J<|qc<|qb J<|qa<|qe<|qc<|U J<|Qh J<|U J<|qa<|q8 f fun j l f=>?_;refine Qi (fun h=>.inl h = j) (fun h=>⟨[],[],0⟩) qf ?_ ?_
 ·refine Qd (q4f b g) (fun k=>⟨[(0,.d (.sl 4 (b.map Q0))),(1,.d (.fn p1F p1C)),(7,q9 (b.length : Int)),(8,q9 k)],[],0⟩) 0 j l (wkA [] [] []) ?_;intro k q a;unfold q4f at a;refine qc<|O _ J<|qa<|qe ?_;refine qn J a (fun _ a=>?_) (fun _ a=>?_)
  ·refine qk<|qe<|Q3<|qc<|U J<|qb J<|qu<|U J<|U J<|U J<|q8 a fun m n a=>Q9 n J<|O _ J<|q8 a fun o p a=>Yi _ (p1Ok m o p) J J J (.inl J)<|qa ?_;refine qn J a (fun _ a=>?_) (fun _ a=>?_)
   ·refine qc<|U J<|qb J<|qs ?_;refine ⟨_,qm a,fun hm=>?_⟩;subst hm;cases f;exact Q5 _ J
   refine qk<|Qg<|Qn<|qw<|O _ J<|U J<|qv<|⟨_,qm a,wkA [] [] []⟩
  refine Q8 ?_;refine ⟨_,qm a,fun hm=>?_⟩;subst hm;exact ⟨_,J,wkA [] [] []⟩
 intro h hb;subst hb;refine qc<|qb J<|qs ?_;cases f;exact Q5 _ J
theorem qy2 (c : List qi) (d : qi→Option Bool) (p1F : FuncId) (p1C : List DV) (p1Ok : ∀ (a : qi) (r : Bool),d a = some r→Pure Tryz.prog tab p1F ([.agg [q7 a.X0,q7 a.Y0,q7 a.X1,q7 a.Y1]] ++ p1C) (.bool r)) (r : Bool) (b : q9x c d = some r) : Pure Tryz.prog tab 123 [.sl 4 (c.map Q0),.fn p1F p1C] (.bool r):=by
 unfold q9x at b;refine Qo Tryz.func123 J qh qh J<|qc<|qb J<|qu<|U J<|U J<|q8 b fun f g b=>Q4 (qya c d p1F p1C p1Ok f g) J<|O _ J<|qb J<|qs ?_;cases b;exact Q5 _ J
theorem qd3 (c : Int) (r : Bool) (b : q2w c = some r) : Pure Tryz.prog tab 138 [q7 c] (.bool r):=by
 unfold q2w at b;refine Qo Tryz.func138 J qh qh J<|qc<|qb J<|qu<|U J<|O _ J<|q8 b fun h a b=>?_;refine Qe 4 (fun A st=>∃ d f g,st = A [(8,Q1 h),(7,g),(6,f),(5,d)]) ?_ ?_
 ·refine Qf J J a (fun a=>?_) (fun a=>?_)
  ·refine U J<|O _ J<|O _ J<|qa ?_;cases a;exact ⟨_,_,_,J⟩
  refine qd J<|qd J<|O _ J<|qa ?_;cases a;exact ⟨_,_,_,J⟩
 rintro _ ⟨d,f,g,rfl⟩;refine qb J<|qs ?_;cases b;exact Q5 _ J
theorem qmm (b : qi) (r : Bool) (a : q6n b = some r) : Pure Tryz.prog tab 125 [.agg [q7 b.X0,q7 b.Y0,q7 b.X1,q7 b.Y1]] (.bool r):=by
 unfold q6n at a;refine Qo Tryz.func125 J qh qh J<|qc<|Qq _ _ J<|qb J<|qu<|O _ J<|O _ J<|O _ J<|O _ J<|O _ J<|q8 a fun c1 h a=>?_;refine Qe 7 (fun A st=>∃ j k l m n o,st = A [(14,Q1 c1),(13,o),(12,n),(11,m),(10,l),(9,k),(8,j)]) ?_ ?_
 ·refine Qf J J h (fun h=>?_) (fun h=>?_)
  ·refine O _ J<|O _ J<|O _ J<|O _ J<|O _ J<|O _ J<|qa ?_;cases h;exact ⟨_,_,_,_,_,_,J⟩
  refine qd J<|qd J<|qd J<|qd J<|qd J<|O _ J<|qa ?_;cases h;exact ⟨_,_,_,_,_,_,J⟩
 rintro _ ⟨j,k,l,m,n,o,rfl⟩;refine q8 a fun ah c a=>?_;refine Qe 5 (fun A st=>∃ p q s t,st = A [(19,Q1 ah),(18,t),(17,s),(16,q),(15,p)]) ?_ ?_
 ·refine Qf J J c (fun c=>?_) (fun c=>?_)
  ·refine O _ J<|O _ J<|q8 c fun ai aj c=>Q4 (qd3 b.X0 ai aj) J<|O _ J<|qa ?_;cases c;exact ⟨_,_,_,_,J⟩
  refine qd J<|qd J<|qd J<|O _ J<|qa ?_;cases c;exact ⟨_,_,_,_,J⟩
 rintro _ ⟨p,q,s,t,rfl⟩;refine q8 a fun ak d a=>?_;refine Qe 5 (fun A st=>∃ u v w x,st = A [(24,Q1 ak),(23,x),(22,w),(21,v),(20,u)]) ?_ ?_
 ·refine Qf J J d (fun d=>?_) (fun d=>?_)
  ·refine O _ J<|O _ J<|q8 d fun al am d=>Q4 (qd3 b.X1 al am) J<|O _ J<|qa ?_;cases d;exact ⟨_,_,_,_,J⟩
  refine qd J<|qd J<|qd J<|O _ J<|qa ?_;cases d;exact ⟨_,_,_,_,J⟩
 rintro _ ⟨u,v,w,x,rfl⟩;refine q8 a fun an f a=>?_;refine Qe 5 (fun A st=>∃ y z aa ab,st = A [(29,Q1 an),(28,ab),(27,aa),(26,z),(25,y)]) ?_ ?_
 ·refine Qf J J f (fun f=>?_) (fun f=>?_)
  ·refine O _ J<|O _ J<|q8 f fun ao ap f=>Q4 (qd3 b.Y0 ao ap) J<|O _ J<|qa ?_;cases f;exact ⟨_,_,_,_,J⟩
  refine qd J<|qd J<|qd J<|O _ J<|qa ?_;cases f;exact ⟨_,_,_,_,J⟩
 rintro _ ⟨y,z,aa,ab,rfl⟩;refine q8 a fun aq g a=>?_;refine Qe 5 (fun A st=>∃ ac ad ae af,st = A [(34,Q1 aq),(33,af),(32,ae),(31,ad),(30,ac)]) ?_ ?_
 ·refine Qf J J g (fun g=>?_) (fun g=>?_)
  ·refine O _ J<|O _ J<|q8 g fun ar au g=>Q4 (qd3 b.Y1 ar au) J<|O _ J<|qa ?_;cases g;exact ⟨_,_,_,_,J⟩
  refine qd J<|qd J<|qd J<|O _ J<|qa ?_;cases g;exact ⟨_,_,_,_,J⟩
 rintro _ ⟨ac,ad,ae,af,rfl⟩;refine qb J<|qs ?_;cases a;exact Q5 _ J
theorem qvy (a : qi) (r : Bool) (b : q2v a = some r) : Pure Tryz.prog tab 124 [.agg [q7 a.X0,q7 a.Y0,q7 a.X1,q7 a.Y1]] (.bool r):=by
 unfold q2v at b;refine Qo Tryz.func124 J qh qh J<|qc<|Qq _ _ J<|qb J<|qu<|O _ J<|q8 b fun c d b=>Q4 (qmm a c d) J<|O _ J<|qb J<|qs ?_;cases b;exact Q5 _ J
theorem qyd (b : List ql) (f : ql→Option Bool) (p1F : FuncId) (p1C : List DV) (p1Ok : ∀ (g : ql) (r : Bool),f g = some r→Pure Tryz.prog tab p1F ([.agg [q7 g.Lo,q7 g.Hi]] ++ p1C) (.bool r)) (r : Int) (c : qa2 b f = some r) : Pure Tryz.prog tab 171 [.sl 2 (b.map Ql),.fn p1F p1C] (q7 r):=by
 unfold qa2 at c;refine Qo Tryz.func171 J qh qh J<|qc<|qb J<|qa<|qe<|qc<|U J<|Qh J<|U J<|qa<|q8 c fun j l c=>?_;refine Qi (fun h=>.inl h = j) (fun h=>⟨[],[],0⟩) qf ?_ ?_
 ·refine Qd (q31 b f) (fun k=>⟨[(0,.d (.sl 2 (b.map Ql))),(1,.d (.fn p1F p1C)),(7,q9 (b.length : Int)),(8,q9 k)],[],0⟩) 0 j l (wkA [] [] []) ?_;intro k q a;unfold q31 at a;refine qc<|O _ J<|qa<|qe ?_;refine qn J a (fun _ a=>?_) (fun _ a=>?_)
  ·refine qk<|qe<|Q3<|qc<|U J<|qb J<|qu<|U J<|U J<|U J<|q8 a fun m n a=>Q9 n J<|O _ J<|q8 a fun o p a=>Yi _ (p1Ok m o p) J J J (.inl J)<|qa ?_;refine qn J a (fun _ a=>?_) (fun _ a=>?_)
   ·refine qc<|U J<|qb J<|qs ?_;refine ⟨_,qm a,fun hm=>?_⟩;subst hm;cases c;exact Q5 _ J
   refine qk<|Qg<|Qn<|qw<|O _ J<|U J<|qv<|⟨_,qm a,wkA [] [] []⟩
  refine Q8 ?_;refine ⟨_,qm a,fun hm=>?_⟩;subst hm;exact ⟨_,J,wkA [] [] []⟩
 intro h hb;subst hb;refine qc<|qb J<|qs ?_;cases c;exact Q5 _ J
theorem qy4 (b : List ql) (c : ql→Option Bool) (p1F : FuncId) (p1C : List DV) (p1Ok : ∀ (d : ql) (r : Bool),c d = some r→Pure Tryz.prog tab p1F ([.agg [q7 d.Lo,q7 d.Hi]] ++ p1C) (.bool r)) (r : Bool) (a : q9z b c = some r) : Pure Tryz.prog tab 158 [.sl 2 (b.map Ql),.fn p1F p1C] (.bool r):=by
 unfold q9z at a;refine Qo Tryz.func158 J qh qh J<|qc<|qb J<|qu<|U J<|U J<|q8 a fun f g a=>Q4 (qyd b c p1F p1C p1Ok f g) J<|O _ J<|qb J<|qs ?_;cases a;exact Q5 _ J
theorem qo1 (d : ql) (r : Bool) (a : q38 d = some r) : Pure Tryz.prog tab 143 [.agg [q7 d.Lo,q7 d.Hi]] (.bool r):=by
 unfold q38 at a;refine Qo Tryz.func143 J qh qh J<|qc<|Qq _ _ J<|qb J<|qu<|O _ J<|O _ J<|O _ J<|O _ J<|O _ J<|q8 a fun o b a=>?_;refine Qe 5 (fun A st=>∃ f g h j,st = A [(12,Q1 o),(11,j),(10,h),(9,g),(8,f)]) ?_ ?_
 ·refine Qf J J b (fun b=>?_) (fun b=>?_)
  ·refine O _ J<|O _ J<|O _ J<|O _ J<|qa ?_;cases b;exact ⟨_,_,_,_,J⟩
  refine qd J<|qd J<|qd J<|O _ J<|qa ?_;cases b;exact ⟨_,_,_,_,J⟩
 rintro _ ⟨f,g,h,j,rfl⟩;refine q8 a fun p c a=>?_;refine Qe 5 (fun A st=>∃ k l m n,st = A [(17,Q1 p),(16,n),(15,m),(14,l),(13,k)]) ?_ ?_
 ·refine Qf J J c (fun c=>?_) (fun c=>?_)
  ·refine O _ J<|O _ J<|O _ J<|O _ J<|qa ?_;cases c;exact ⟨_,_,_,_,J⟩
  refine qd J<|qd J<|qd J<|O _ J<|qa ?_;cases c;exact ⟨_,_,_,_,J⟩
 rintro _ ⟨k,l,m,n,rfl⟩;refine qb J<|qs ?_;cases a;exact Q5 _ J
theorem q11g (a : ql) (r : Bool) (b : qdw a = some r) : Pure Tryz.prog tab 159 [.agg [q7 a.Lo,q7 a.Hi]] (.bool r):=by
 unfold qdw at b;refine Qo Tryz.func159 J qh qh J<|qc<|Qq _ _ J<|qb J<|qu<|O _ J<|q8 b fun c d b=>Q4 (qo1 a c d) J<|O _ J<|qb J<|qs ?_;cases b;exact Q5 _ J
theorem q11m (a : qo) (b : qo) (r : Int) (c : qb1 a b = some r) : Pure Tryz.prog tab 163 [.agg [q7 a.at_,q7 a.list_,q7 a.by_],.agg [q7 b.at_,q7 b.list_,q7 b.by_]] (q7 r):=by
 unfold qb1 at c;refine Qo Tryz.func163 J qh qh J<|qc<|Qq _ _ J<|Qq _ _ J<|qb J<|qu<|O _ J<|O _ J<|O _ J<|O _ J<|O _ J<|qb J<|qs ?_;cases c;exact Q5 _ J
theorem qym (k : qo→qo→Option Int) (q1F : FuncId) (q1C : List DV) (q1Ok : ∀ (l : qo) (m : qo) (r : Int),k l m = some r→Pure Tryz.prog tab q1F ([.agg [q7 l.at_,q7 l.list_,q7 l.by_],.agg [q7 m.at_,q7 m.list_,q7 m.by_]] ++ q1C) (q7 r)) (n : List qo) (c : Int) (h : Int) (r : List qo) (o : qa9 k n c h = some r) : K9 Tryz.prog tab 175 [.hs 0 3 0 n.length,q9 c,q9 h,.d (.fn q1F q1C)] [(0,.dat 3 (n.map Qr))] 1 (.d (.tup [])) [(0,.dat 3 (r.map Qr))] 1:=by
 unfold qa9 at o;refine Kv Tryz.func175 J qh qh J<|qc<|U J<|O _ J<|qb J<|qa<|q8 o fun al am o=>Q3<|Qd (qaa h c k) (fun f=>⟨[(0,.hs 0 3 0 f.2.length),(1,q9 c),(2,q9 h),(3,.d (.fn q1F q1C)),(8,q9 f.1)],[(0,.dat 3 (f.2.map Qr))],1⟩) (w64 (c + 1),n) al am (wkA [] [] []) ?_;intro f az g;unfold qaa at g;refine qe<|qc<|U J<|U J<|O _ J<|qa ?_;refine qn J g (fun _ g=>?_) (fun _ g=>?_)
 ·refine qk<|qe<|q8 g fun an q g=>?_;refine Qi (fun j=>j = an) (fun j=>⟨[(0,.hs 0 3 0 j.length),(1,q9 c),(2,q9 h),(3,.d (.fn q1F q1C)),(8,q9 f.1)],[(0,.dat 3 (j.map Qr))],1⟩) qf ?_ ?_
  ·refine qc<|U J<|qb J<|qa<|q8 q fun ao ap q=>Q3<|Qd (qab c k) (fun p=>⟨[(0,.hs 0 3 0 p.2.length),(1,q9 c),(2,q9 h),(3,.d (.fn q1F q1C)),(8,q9 f.1),(9,q9 p.1)],[(0,.dat 3 (p.2.map Qr))],1⟩) (f.1,f.2) ao ap (wkA [] [] []) ?_;intro p ba a;unfold qab at a;refine qe<|qe<|Qj [q0,q0,q0,qt 0,q0,q0,q0,q0,qt 0,q0,q0,q0,q0,q0,q0,q0,q0] qh<|U J<|U J<|O _ J<|q8 a fun aq b a=>?_;refine Qe 14 (fun A st=>∃ s t u v w x y z aa ab ac ad ae,st = A [(34,Q1 aq),(33,ae),(32,ad),(31,ac),(30,ab),(29,aa),(28,z),(27,y),(26,x),(25,w),(24,v),(23,u),(22,t),(21,s)]) ?_ ?_
   ·refine Qf J J b (fun b=>?_) (fun b=>?_)
    ·refine U J<|U J<|U J<|q8 b fun ar af b=>qz af J J<|Qc _ af J<|U J<|U J<|O _ J<|q8 b fun au ag b=>qz ag J J<|Qc _ ag J<|q8 b fun av aw b=>Yi _ (q1Ok ar au av aw) J J J (.inl J)<|O _ J<|O _ J<|qa ?_;cases b;exact ⟨_,_,_,_,_,_,_,_,_,_,_,_,_,J⟩
    refine qd J<|qd J<|qd J<|qd J<|qd J<|qd J<|qd J<|qd J<|qd J<|qd J<|qd J<|qd J<|O _ J<|qa ?_;cases b;exact ⟨_,_,_,_,_,_,_,_,_,_,_,_,_,J⟩
   rintro _ ⟨s,t,u,v,w,x,y,z,aa,ab,ac,ad,ae,rfl⟩;refine qa ?_;refine qn J a (fun _ a=>?_) (fun _ a=>?_)
   ·refine qk<|qe<|Q3<|Qj [Qv 0,q0,Qv 0,q0,qt 0,q0,q0,q0,qt 0,q0,q0,q0,q0,q0,q0,q0,q0,q0] qh<|U J<|U J<|U J<|U J<|O _ J<|U J<|U J<|O _ J<|q8 a fun ax ah a=>qz ah J J<|Qc _ ah J<|U J<|U J<|q8 a fun ay ai a=>qz ai J J<|Qc _ ai J<|q8 a fun bb aj a=>qz aj J J<|K4 ax aj J J J J J J J J (leb J) J<|q8 a fun bc ak a=>qz ak qf J<|K4 ay ak J J J J J J J J (leb J) J<|qv<|Qn<|qw<|U J<|O _ J<|qb J<|qv<|⟨_,qm a,wkE [] [] [] J ⟨⟨_,J,K6 qf J Q2 (ltd J)⟩,qr J,qr J,qr J,qr J,qr J,trivial⟩ ⟨Qt J J,trivial⟩⟩
   refine Q8 ?_;refine ⟨_,qm a,fun hm=>?_⟩;subst hm;cases q;exact ⟨_,J,wkA [] [] []⟩
  intro j hb;subst hb;refine qw<|U J<|O _ J<|qb J<|qv<|⟨_,qm g,wkA [] [] []⟩
 refine Q8 ?_;refine ⟨_,qm g,fun hm=>?_⟩;subst hm;cases o;exact ⟨.inl J,_,J,wkA [] [] []⟩
theorem qng (o : qo→qo→Option Int) (q1F : FuncId) (q1C : List DV) (q1Ok : ∀ (k : qo) (l : qo) (r : Int),o k l = some r→Pure Tryz.prog tab q1F ([.agg [q7 k.at_,q7 k.list_,q7 k.by_],.agg [q7 l.at_,q7 l.list_,q7 l.by_]] ++ q1C) (q7 r)) (m : List qo) (p : Int) (f : Int) (g : Int) (r : List qo) (h : q7r o m p f g = some r) : K9 Tryz.prog tab 183 [.hs 0 3 0 m.length,q9 p,q9 f,q9 g,.d (.fn q1F q1C)] [(0,.dat 3 (m.map Qr))] 1 (.d (.tup [])) [(0,.dat 3 (r.map Qr))] 1:=by
 unfold q7r at h;refine Kv Tryz.func183 J qh qh J<|qc<|U J<|qb J<|qa<|q8 h fun aq ar h=>Q3<|Qd (qat f g o) (fun c=>⟨[(0,.hs 0 3 0 c.2.length),(2,q9 f),(3,q9 g),(4,.d (.fn q1F q1C)),(10,q9 c.1)],[(0,.dat 3 (c.2.map Qr))],1⟩) (p,m) aq ar (wkA [] [] []) ?_;intro c bg a;unfold qat at a;refine Q3<|qc<|U J<|O _ J<|O _ J<|qb J<|qa<|qe<|qc<|U J<|U J<|O _ J<|qa ?_;refine qn J a (fun _ a=>?_) (fun _ a=>?_)
 ·refine Q8 ?_;refine ⟨_,qm a,fun hm=>?_⟩;subst hm;cases h;exact ⟨.inl J,_,J,wkA [] [] []⟩
 refine qk<|qe<|qe<|Qj [q0,q0,q0,qt 0,q0,q0,q0,q0,q0,q0,qt 0,q0,q0,q0,q0,q0,q0,q0,q0,q0,q0,q0] qh<|U J<|O _ J<|U J<|O _ J<|q8 a fun au b a=>?_;refine Qe 18 (fun A st=>∃ q s t u v w x y z aa ab ac ad ae af ag ah,st = A [(40,Q1 au),(39,ah),(38,ag),(37,af),(36,ae),(35,ad),(34,ac),(33,ab),(32,aa),(31,z),(30,y),(29,x),(28,w),(27,v),(26,u),(25,t),(24,s),(23,q)]) ?_ ?_
 ·refine Qf J J b (fun b=>?_) (fun b=>?_)
  ·refine U J<|U J<|U J<|U J<|O _ J<|q8 b fun av ai b=>qz ai J J<|Qc _ ai J<|U J<|U J<|U J<|O _ J<|O _ J<|q8 b fun aw aj b=>qz aj J J<|Qc _ aj J<|q8 b fun ax ay b=>Yi _ (q1Ok av aw ax ay) J J J (.inl J)<|O _ J<|O _ J<|qa ?_;cases b;exact ⟨_,_,_,_,_,_,_,_,_,_,_,_,_,_,_,_,_,J⟩
  refine qd J<|qd J<|qd J<|qd J<|qd J<|qd J<|qd J<|qd J<|qd J<|qd J<|qd J<|qd J<|qd J<|qd J<|qd J<|qd J<|O _ J<|qa ?_;cases b;exact ⟨_,_,_,_,_,_,_,_,_,_,_,_,_,_,_,_,_,J⟩
 rintro _ ⟨q,s,t,u,v,w,x,y,z,aa,ab,ac,ad,ae,af,ag,ah,rfl⟩;refine qa<|q8 a fun az j a=>?_;refine Ys (fun n=>n = az) (fun n=>⟨[(0,.hs 0 3 0 c.2.length),(2,q9 f),(3,q9 g),(4,.d (.fn q1F q1C)),(10,q9 c.1),(11,q9 n)],[(0,.dat 3 (c.2.map Qr))],1⟩) qf ?_ ?_
 ·refine qn J j (fun _ j=>?_) (fun _ j=>?_)
  ·refine qw<|U J<|O _ J<|qb J<|qv ?_;cases j;exact ⟨_,J,wkA [] [] []⟩
  refine qk<|Qg ?_;cases j;exact ⟨_,J,wkA [] [] []⟩
 intro n hb;subst hb;refine qe<|qe<|Qj [q0,q0,q0,qt 0,q0,q0,q0,q0,q0,qt 0,q0,q0,q0,q0,q0,q0] qh<|U J<|U J<|U J<|U J<|O _ J<|q8 a fun ba ak a=>qz ak J J<|Qc _ ak J<|U J<|U J<|U J<|O _ J<|q8 a fun bb al a=>qz al J J<|Qc _ al J<|q8 a fun bc bd a=>Yi _ (q1Ok ba bb bc bd) J J J (.inl J)<|O _ J<|O _ J<|qa ?_;refine qn J a (fun _ a=>?_) (fun _ a=>?_)
 ·refine Uz ?_;refine ⟨_,qm a,fun hm=>?_⟩;subst hm;cases h;exact ⟨.inr J,_,J,wkA [] [] []⟩
 refine qk<|qe<|Qj [Qv 0,q0,Qv 0,q0,qt 0,q0,q0,q0,q0,q0,qt 0,q0,q0,q0,q0,q0,q0,q0,q0,q0,q0,q0,q0,q0] qh<|U J<|U J<|U J<|O _ J<|U J<|U J<|U J<|O _ J<|U J<|U J<|U J<|O _ J<|q8 a fun be am a=>qz am J J<|Qc _ am J<|U J<|U J<|U J<|O _ J<|q8 a fun bf an a=>qz an J J<|Qc _ an J<|q8 a fun bh ao a=>qz ao J J<|K4 be ao J J J J J J J J (leb J) J<|q8 a fun bi ap a=>qz ap qf J<|K4 bf ap J J J J J J J J (leb J) J<|qa<|qw<|U J<|qb J<|qv<|Qn<|Qg<|⟨_,qm a,wkE [] [] [] J ⟨⟨_,J,K6 qf J Q2 (ltd J)⟩,qr J,qr J,qr J,qr J,trivial⟩ ⟨Qt J J,trivial⟩⟩
theorem qyk (h : qo→qo→Option Int) (q1F : FuncId) (q1C : List DV) (q1Ok : ∀ (m : qo) (n : qo) (r : Int),h m n = some r→Pure Tryz.prog tab q1F ([.agg [q7 m.at_,q7 m.list_,q7 m.by_],.agg [q7 n.at_,q7 n.list_,q7 n.by_]] ++ q1C) (q7 r)) (o : List qo) (b : Int) (g : Int) (r : List qo) (j : qa6 h o b g = some r) : K9 Tryz.prog tab 176 [.hs 0 3 0 o.length,q9 b,q9 g,.d (.fn q1F q1C)] [(0,.dat 3 (o.map Qr))] 1 (.d (.tup [])) [(0,.dat 3 (r.map Qr))] 1:=by
 unfold qa6 at j;refine Kv Tryz.func176 J qh qh J<|qc<|U J<|qb J<|qu<|qb J<|qu<|U J<|U J<|O _ J<|qb J<|qa<|qe<|qc<|U J<|O _ J<|O _ J<|qb J<|qa<|q8 j fun q z j=>?_;refine Qi (fun k=>k = q) (fun k=>⟨[(0,.hs 0 3 0 k.length),(3,.d (.fn q1F q1C)),(8,q9 b),(9,q9 0),(10,.d (q7 (w64 (g - b))))],[(0,.dat 3 (k.map Qr))],1⟩) qf ?_ ?_
 ·refine Qd (qa7 h g b) (fun l=>⟨[(0,.hs 0 3 0 l.2.length),(3,.d (.fn q1F q1C)),(8,q9 b),(9,q9 0),(10,.d (q7 (w64 (g - b)))),(11,q9 l.1)],[(0,.dat 3 (l.2.map Qr))],1⟩) (w64 (Int.tdiv (w64 ((w64 (g - b)) - 1)) 2),o) q z (wkA [] [] []) ?_;intro l ai c;unfold qa7 at c;refine qe<|qc<|U J<|O _ J<|qa ?_;refine qn J c (fun _ c=>?_) (fun _ c=>?_)
  ·refine qk<|qe<|Q3<|qw<|U J<|U J<|U J<|U J<|U J<|q8 c fun s aa c=>q8 c fun aj ab c=>?_;have ac:=Kq ab;refine Ka [(0,0)] [(0,0)] _ (.d (.tup [])) 1 [(0,.dat 3 (s.map Qr))] 1 (qng h q1F q1C q1Ok l.2 l.1 (w64 (g - b)) b s aa)<|qv<|Qn<|qw<|U J<|O _ J<|qb J<|qv<|⟨_,qm c,wkE [] [] [] J ⟨⟨_,J,K6 (by simp [ac]) J Q2 (ltd J)⟩,qr J,qr J,qr J,qr J,qr J,trivial⟩ ⟨Qt J J,trivial⟩⟩
  refine Q8 ?_;refine ⟨_,qm c,fun hm=>?_⟩;subst hm;exact ⟨_,J,wkA [] [] []⟩
 intro k hb;subst hb;refine qc<|U J<|O _ J<|qb J<|qa<|q8 j fun ad ae j=>Q3<|Qd (qa8 b h) (fun f=>⟨[(0,.hs 0 3 0 f.2.length),(3,.d (.fn q1F q1C)),(8,q9 b),(9,q9 0),(12,q9 f.1)],[(0,.dat 3 (f.2.map Qr))],1⟩) (w64 ((w64 (g - b)) - 1),k) ad ae (wkA [] [] []) ?_;intro f ak a;unfold qa8 at a;refine qe<|qc<|U J<|O _ J<|qa ?_;refine qn J a (fun _ a=>?_) (fun _ a=>?_)
 ·refine qk<|qe<|Q3<|qe<|Qj [Qv 0,q0,Qv 0,q0,qt 0,q0,q0,q0,qt 0,q0,q0,q0,q0,q0,q0,q0,q0,q0,q0,q0] qh<|U J<|U J<|U J<|U J<|U J<|O _ J<|U J<|U J<|U J<|O _ J<|q8 a fun t u a=>qz u J J<|Qc _ u J<|U J<|U J<|q8 a fun v w a=>qz w J J<|Qc _ w J<|q8 a fun al x a=>qz x J J<|K4 t x J J J J J J J J (leb J) J<|q8 a fun am y a=>qz y qf J<|K4 v y J J J J J J J J (leb J) J<|qa<|qw<|U J<|U J<|U J<|U J<|U J<|q8 a fun p af a=>q8 a fun an ag a=>?_;have ah:=Kq ag;refine Jz [(0,0)] [(0,0)] [.hs 0 3 0 f.2.length,q9 0,q9 f.1,q9 b,.d (.fn q1F q1C)] (.d (.tup [])) [(0,.dat 3 (p.map Qr))] [(0,.dat 3 (p.map Qr))] 1 (qng h q1F q1C q1Ok ((f.2.set b.toNat t).set (w64 (b + f.1)).toNat v) 0 f.1 b p af) J J J (Yk [(0,0)] [] [] J ⟨⟨_,J,K6 qf J Q2 (ltd J)⟩,qr J,qr J,qr J,qr J,trivial⟩ ⟨Qt J J,trivial⟩) (Yk [(0,0)] [] [] J ⟨qr J,trivial⟩ ⟨Qt J J,trivial⟩) J ⟨.inl J,trivial⟩<|qv<|Qn<|qw<|U J<|O _ J<|qb J<|qv<|⟨_,qm a,wkE [] [] [] J ⟨⟨_,J,K6 (by simp [ah]) J Q2 (ltd J)⟩,qr J,qr J,qr J,qr J,trivial⟩ ⟨Qt J J,trivial⟩⟩
 refine Q8 ?_;refine ⟨_,qm a,fun hm=>?_⟩;subst hm;cases j;exact ⟨.inl J,_,J,wkA [] [] []⟩
theorem qhb (f : qo→qo→Option Int) (q1F : FuncId) (q1C : List DV) (q1Ok : ∀ (b : qo) (c : qo) (r : Int),f b c = some r→Pure Tryz.prog tab q1F ([.agg [q7 b.at_,q7 b.list_,q7 b.by_],.agg [q7 c.at_,q7 c.list_,q7 c.by_]] ++ q1C) (q7 r)) (g : List qo) (h : Int) (j : Int) (k : Int) (r : Int × Int × Int) (a : q4j f g h j k = some r) : K9 Tryz.prog tab 186 [.d (.sl 3 (g.map Qr)),q9 h,q9 j,.ref 0 1 0 0,.d (.fn q1F q1C)] [(0,.dat 1 [[q7 k]])] 1 (.d (.tup [q7 r.1,q7 r.2.1])) [(0,.dat 1 [[q7 r.2.2]])] 1:=by
 unfold q4j at a;refine Kv Tryz.func186 J qh qh J<|qc<|qb J<|qb J<|qa<|qe<|qe<|Qj [q0,q0,q0,q0,q0,q0,q0,q0,q0,q0,q0] qh<|U J<|U J<|U J<|q8 a fun l m a=>Q9 m J<|O _ J<|U J<|U J<|q8 a fun n o a=>Q9 o J<|O _ J<|q8 a fun p q a=>Yi _ (q1Ok l n p q) J J J (.inl J)<|O _ J<|qa ?_;refine qn J a (fun _ a=>?_) (fun _ a=>?_)
 ·refine qc<|U J<|O _ J<|O _ J<|O _ J<|O _ J<|Qm 0 _ J<|qu<|U J<|U J<|qb J<|qb J<|qs ?_;cases a;exact ⟨.inr J,_,J,wkA [] [] []⟩
 refine qk<|qc<|U J<|U J<|qb J<|qb J<|qs ?_;cases a;exact ⟨.inr J,_,J,wkA [] [] []⟩
theorem qnd (f : qo→qo→Option Int) (q1F : FuncId) (q1C : List DV) (q1Ok : ∀ (h : qo) (j : qo) (r : Int),f h j = some r→Pure Tryz.prog tab q1F ([.agg [q7 h.at_,q7 h.list_,q7 h.by_],.agg [q7 j.at_,q7 j.list_,q7 j.by_]] ++ q1C) (q7 r)) (g : List qo) (l : Int) (m : Int) (n : Int) (o : Int) (r : Int × Int) (a : q77 f g l m n o = some r) : K9 Tryz.prog tab 185 [.d (.sl 3 (g.map Qr)),q9 l,q9 m,q9 n,.ref 0 1 0 0,.d (.fn q1F q1C)] [(0,.dat 1 [[q7 o]])] 1 (q9 r.1) [(0,.dat 1 [[q7 r.2]])] 1:=by
 unfold q77 at a;refine Kv Tryz.func185 J qh qh J<|qc<|qb J<|qu<|U J<|U J<|U J<|U J<|U J<|q8 a fun b p a=>Ka [(0,0)] [(0,0)] _ (.d (.tup [q7 b.1,q7 b.2.1])) 1 [(0,.dat 1 [[q7 b.2.2]])] 1 (qhb f q1F q1C q1Ok g l m o b p)<|U J<|O _ J<|O _ J<|qb J<|qb J<|qu<|U J<|U J<|U J<|U J<|U J<|q8 a fun c q a=>Ka [(0,0)] [(0,0)] _ (.d (.tup [q7 c.1,q7 c.2.1])) 1 [(0,.dat 1 [[q7 c.2.2]])] 1 (qhb f q1F q1C q1Ok g b.2.1 n b.2.2 c q)<|U J<|O _ J<|O _ J<|qb J<|qb J<|qu<|U J<|U J<|U J<|U J<|U J<|q8 a fun k s a=>Ka [(0,0)] [(0,0)] _ (.d (.tup [q7 k.1,q7 k.2.1])) 1 [(0,.dat 1 [[q7 k.2.2]])] 1 (qhb f q1F q1C q1Ok g b.1 c.1 c.2.2 k s)<|U J<|O _ J<|O _ J ?_;refine qb J<|qb J<|qu<|U J<|qb J<|qs ?_;cases a;exact ⟨.inr J,_,J,wkA [] [] []⟩
theorem qh9 (g : qo→qo→Option Int) (q1F : FuncId) (q1C : List DV) (q1Ok : ∀ (b : qo) (c : qo) (r : Int),g b c = some r→Pure Tryz.prog tab q1F ([.agg [q7 b.at_,q7 b.list_,q7 b.by_],.agg [q7 c.at_,q7 c.list_,q7 c.by_]] ++ q1C) (q7 r)) (h : List qo) (a : Int) (j : Int) (r : Int × Int) (f : q4h g h a j = some r) : K9 Tryz.prog tab 184 [.d (.sl 3 (h.map Qr)),q9 a,.ref 0 1 0 0,.d (.fn q1F q1C)] [(0,.dat 1 [[q7 j]])] 1 (q9 r.1) [(0,.dat 1 [[q7 r.2]])] 1:=by
 unfold q4h at f;refine Kv Tryz.func184 J qh qh J<|qc<|qb J<|qu<|U J<|U J<|O _ J<|U J<|U J<|O _ J<|U J<|U J<|q8 f fun k l f=>Ka [(0,0)] [(0,0)] _ (q9 k.1) 1 [(0,.dat 1 [[q7 k.2]])] 1 (qnd g q1F q1C q1Ok h (w64 (a - 1)) a (w64 (a + 1)) j k l)<|qb J<|qs ?_;cases f;exact ⟨.inr J,_,J,wkA [] [] []⟩
end Go.Proofs.YtbknppciefodiaaGreat
