/- W_Alla -/
import Derived.Test.YtbknppciefodiaaGreatK15
namespace Go.Proofs.YtbknppciefodiaaGreat
open Go Go.Am Go.Sh
set_option maxHeartbeats 8000000
set_option maxRecDepth 100000
theorem q3g (h : qw) (j : Int) (r : Bool) (a : Jd h j = some r) : Pure Tryz.prog tab 27 [.agg [q7 h.X,q7 h.Y,q7 h.Z],q7 j] (.bool r):=by
 unfold Jd at a;refine Qn Tryz.func27 J qi qi J<|qe<|Ql _ _ J<|qc J<|qu<|O _ J<|O _ J<|U J<|O _ J<|q8 a fun c1 b a=>?_;refine Qd 6 (fun A st=>∃ k l m n o,st = A [(14,Q1 c1),(13,o),(12,n),(11,m),(10,l),(9,k)]) ?_ ?_
 ·refine Qa J J b (fun b=>?_) (fun b=>?_)
  ·refine O _ J<|O _ J<|U J<|O _ J<|O _ J<|qa ?_;cases b;exact ⟨_,_,_,_,_,J⟩
  refine qd J<|qd J<|qd J<|qd J<|O _ J<|qa ?_;cases b;exact ⟨_,_,_,_,_,J⟩
 rintro _ ⟨k,l,m,n,o,rfl⟩;refine q8 a fun c8 c a=>?_;refine Qd 6 (fun A st=>∃ p q s t u,st = A [(20,Q1 c8),(19,u),(18,t),(17,s),(16,q),(15,p)]) ?_ ?_
 ·refine Qa J J c (fun c=>?_) (fun c=>?_)
  ·refine O _ J<|O _ J<|U J<|O _ J<|O _ J<|qa ?_;cases c;exact ⟨_,_,_,_,_,J⟩
  refine qd J<|qd J<|qd J<|qd J<|O _ J<|qa ?_;cases c;exact ⟨_,_,_,_,_,J⟩
 rintro _ ⟨p,q,s,t,u,rfl⟩;refine q8 a fun aj d a=>?_;refine Qd 5 (fun A st=>∃ v w x y,st = A [(25,Q1 aj),(24,y),(23,x),(22,w),(21,v)]) ?_ ?_
 ·refine Qa J J d (fun d=>?_) (fun d=>?_)
  ·refine O _ J<|O _ J<|O _ J<|O _ J<|qa ?_;cases d;exact ⟨_,_,_,_,J⟩
  refine qd J<|qd J<|qd J<|O _ J<|qa ?_;cases d;exact ⟨_,_,_,_,J⟩
 rintro _ ⟨v,w,x,y,rfl⟩;refine q8 a fun ak f a=>?_;refine Qd 5 (fun A st=>∃ z aa ab ac,st = A [(30,Q1 ak),(29,ac),(28,ab),(27,aa),(26,z)]) ?_ ?_
 ·refine Qa J J f (fun f=>?_) (fun f=>?_)
  ·refine O _ J<|O _ J<|O _ J<|O _ J<|qa ?_;cases f;exact ⟨_,_,_,_,J⟩
  refine qd J<|qd J<|qd J<|O _ J<|qa ?_;cases f;exact ⟨_,_,_,_,J⟩
 rintro _ ⟨z,aa,ab,ac,rfl⟩;refine q8 a fun al g a=>?_;refine Qd 5 (fun A st=>∃ ad ae af ag,st = A [(35,Q1 al),(34,ag),(33,af),(32,ae),(31,ad)]) ?_ ?_
 ·refine Qa J J g (fun g=>?_) (fun g=>?_)
  ·refine O _ J<|O _ J<|O _ J<|O _ J<|qa ?_;cases g;exact ⟨_,_,_,_,J⟩
  refine qd J<|qd J<|qd J<|O _ J<|qa ?_;cases g;exact ⟨_,_,_,_,J⟩
 rintro _ ⟨ad,ae,af,ag,rfl⟩;refine qc J<|qs ?_;cases a;exact Q6 _ J
theorem qz1 (b : Qr) (k : List (List qh)) (r : Bool) (c : q70 b k = some r) : Pure Tryz.prog tab 10 [.agg [.sl 7 (b.Lines.map Kb),.sl 5 (b.Marks.map Kf),.int .u8 b.End.Frame.Turn,q7 b.End.Frame.At.X,q7 b.End.Frame.At.Y,q7 b.End.Frame.At.Z,q7 b.End.Drawn],.sl 1 (k.map Qt)] (.bool r):=by
 unfold q70 at c;refine Qn Tryz.func10 J qi qi J<|qe<|Ql _ _ J<|qc J<|qa<|qf<|qe<|O _ J<|O _ J<|Qp J<|O _ J<|q8 c fun c1 l c=>?_;refine Qd 6 (fun A st=>∃ q s t u v,st = A [(18,Q1 c1),(17,v),(16,u),(15,t),(14,s),(13,q)]) ?_ ?_
 ·refine Qa J J l (fun l=>?_) (fun l=>?_)
  ·refine qd J<|qd J<|qd J<|qd J<|O _ J<|qa ?_;cases l;exact ⟨_,_,_,_,_,J⟩
  refine O _ J<|O _ J<|Qp J<|O _ J<|O _ J<|qa ?_;cases l;exact ⟨_,_,_,_,_,J⟩
 rintro _ ⟨q,s,t,u,v,rfl⟩;refine q8 c fun c8 m c=>?_;refine Qd 5 (fun A st=>∃ w x y z,st = A [(23,Q1 c8),(22,z),(21,y),(20,x),(19,w)]) ?_ ?_
 ·refine Qa J J m (fun m=>?_) (fun m=>?_)
  ·refine qd J<|qd J<|qd J<|O _ J<|qa ?_;cases m;exact ⟨_,_,_,_,J⟩
  refine U J<|Qp J<|O _ J<|O _ J<|qa ?_;cases m;exact ⟨_,_,_,_,J⟩
 rintro _ ⟨w,x,y,z,rfl⟩;refine qa ?_;refine qm J c (fun _ c=>?_) (fun _ c=>?_)
 ·refine qe<|qc J<|qs ?_;cases c;exact Q6 _ J
 refine ql<|qf<|qe<|qc J<|qa<|q8 c fun aa bt c=>?_;refine Qm (fun o=>.inl o = aa) (fun o=>⟨[(1,.d (.sl 1 (k.map Qt)))],[],0⟩) qg ?_ ?_
 ·refine Qi (q71 b) (fun ab=>⟨[(1,.d (.sl 1 (k.map Qt))),(2,.ref 0 7 0 0),(5,q9 ab)],[(0,.dat 7 [[.sl 7 (b.Lines.map Kb),.sl 5 (b.Marks.map Kf),.int .u8 b.End.Frame.Turn,q7 b.End.Frame.At.X,q7 b.End.Frame.At.Y,q7 b.End.Frame.At.Z,q7 b.End.Drawn]])],1⟩) 0 aa bt (wkA [(0,0)] [] []) ?_;intro ab cg a;unfold q71 at a;refine qf<|qe<|U J<|O _ J<|O _ J<|Qp J<|O _ J<|qa ?_;refine qm J a (fun _ a=>?_) (fun _ a=>?_)
  ·refine ql<|qf<|Q7<|qf<|Qk [Qx 2,Qx 1,(some [],[2]),(some [],[1]),q0,q0,q0,q0,qv 0,q0,q0,q0,q0,q0,qv 0,q0] qi<|O _ J<|O _ J<|U J<|q8 a fun g bu a=>Qe bu J<|O _ J<|O _ J<|O _ J<|O _ J<|U J<|q8 a fun h bv a=>Qe bv J<|O _ J<|O _ J<|Qw J J<|Qw J J<|Q8 1 _ J<|Q8 2 _ J<|qu<|O _ J<|q8 a fun bw bz a=>Q4 (q3g g.From (-2000000) bw bz) J<|O _ J<|q8 a fun ca j a=>?_;refine Qd 5 (fun A st=>∃ ac ad ae af,st = A [(50,Q1 ca),(49,af),(48,ae),(47,ad),(46,ac)]) ?_ ?_
   ·refine Qa J J j (fun j=>?_) (fun j=>?_)
    ·refine qd J<|qd J<|qd J<|O _ J<|qa ?_;cases j;exact ⟨_,_,_,_,J⟩
    refine O _ J<|q8 j fun cb cc j=>Q4 (q3g h.To (-2000000) cb cc) J<|O _ J<|O _ J<|qa ?_;cases j;exact ⟨_,_,_,_,J⟩
   rintro _ ⟨ac,ad,ae,af,rfl⟩;refine q8 a fun cd n a=>?_;refine Qd 34 (fun A st=>∃ ag ah ai aj ak al am an ao ap aq ar au av aw ax ay az ba bb bc bd be bf bg bh bi bj bk bl bm bn bo,st = A [(84,Q1 cd),(83,bo),(82,bn),(81,bm),(80,bl),(79,bk),(78,bj),(77,bi),(76,bh),(75,bg),(74,bf),(73,be),(72,bd),(71,bc),(70,bb),(69,ba),(68,az),(67,ay),(66,ax),(65,aw),(64,av),(63,au),(62,ar),(61,aq),(60,ap),(59,ao),(58,an),(57,am),(56,al),(55,ak),(54,aj),(53,ai),(52,ah),(51,ag)]) ?_ ?_
   ·refine Qa J J n (fun n=>?_) (fun n=>?_)
    ·refine qd J<|qd J<|qd J<|qd J<|qd J<|qd J<|qd J<|qd J<|qd J<|qd J<|qd J<|qd J<|qd J<|qd J<|qd J<|qd J<|qd J<|qd J<|qd J<|qd J<|qd J<|qd J<|qd J<|qd J<|qd J<|qd J<|qd J<|qd J<|qd J<|qd J<|qd J<|qd J<|O _ J<|qa ?_;cases n;exact ⟨_,_,_,_,_,_,_,_,_,_,_,_,_,_,_,_,_,_,_,_,_,_,_,_,_,_,_,_,_,_,_,_,_,J⟩
    refine O _ J<|O _ J<|O _ J<|O _ J<|O _ J<|O _ J<|O _ J<|O _ J<|O _ J<|O _ J<|O _ J<|O _ J<|O _ J<|O _ J<|O _ J<|O _ J<|O _ J<|O _ J<|O _ J<|O _ J<|O _ J<|O _ J<|O _ J<|O _ J<|O _ J<|O _ J<|O _ J<|O _ J<|O _ J<|O _ J<|Jc (r:=max (max (max (max (max (w64 (g.From.X - h.To.X)) (w64 (h.To.X - g.From.X))) (w64 (g.From.Y - h.To.Y))) (w64 (h.To.Y - g.From.Y))) (w64 (g.From.Z - h.To.Z))) (w64 (h.To.Z - g.From.Z))) J J (by simp only [Jb];rfl)<|O _ J<|O _ J<|qa ?_;cases n;exact ⟨_,_,_,_,_,_,_,_,_,_,_,_,_,_,_,_,_,_,_,_,_,_,_,_,_,_,_,_,_,_,_,_,_,J⟩
   rintro _ ⟨ag,ah,ai,aj,ak,al,am,an,ao,ap,aq,ar,au,av,aw,ax,ay,az,ba,bb,bc,bd,be,bf,bg,bh,bi,bj,bk,bl,bm,bn,bo,rfl⟩;refine qa ?_;refine qm J a (fun _ a=>?_) (fun _ a=>?_)
   ·refine qe<|qc J<|qs ?_;refine ⟨_,qo a,fun hm=>?_⟩;subst hm;cases c;exact Q6 _ J
   refine ql<|Qj<|Qq<|qy<|U J<|O _ J<|qc J<|qx<|⟨_,qo a,wkA [(0,0)] [] []⟩
  refine Qb ?_;refine ⟨_,qo a,fun hm=>?_⟩;subst hm;exact ⟨_,J,wkA [] [] []⟩
 intro o hb;subst hb;refine qf<|qe<|qc J<|qa<|q8 c fun bp ce c=>?_;refine Qm (fun p=>.inl p = bp) (fun p=>⟨[],[],0⟩) qg ?_ ?_
 ·refine Qi (q72 k) (fun bq=>⟨[(1,.d (.sl 1 (k.map Qt))),(8,q9 bq)],[],0⟩) 0 bp ce (wkA [] [] []) ?_;intro bq ch f;unfold q72 at f;refine qf<|qe<|U J<|U J<|Qp J<|O _ J<|qa ?_;refine qm J f (fun _ f=>?_) (fun _ f=>?_)
  ·refine ql<|qf<|Q7<|qe<|U J<|U J<|q8 f fun ci cf f=>Qe cf J<|O _ J<|Qp J<|O _ J<|qa ?_;refine qm J f (fun _ f=>?_) (fun _ f=>?_)
   ·refine qe<|qc J<|qs ?_;refine ⟨_,qo f,fun hm=>?_⟩;subst hm;cases c;exact Q6 _ J
   refine ql<|Qj<|Qq<|qy<|U J<|O _ J<|qc J<|qx<|⟨_,qo f,wkA [] [] []⟩
  refine Qb ?_;refine ⟨_,qo f,fun hm=>?_⟩;subst hm;exact ⟨_,J,wkA [] [] []⟩
 intro p hb;subst hb;refine qe<|qc J<|qs ?_;cases c;exact Q6 _ J
theorem q11f (c : List K3) (g : K3→Option Bool) (p1F : FuncId) (p1C : List DV) (p1Ok : ∀ (b : K3) (r : Bool),g b = some r→Pure Tryz.prog tab p1F ([.agg [q7 b.From.X,q7 b.From.Y,q7 b.From.Z,q7 b.To.X,q7 b.To.Y,q7 b.To.Z,q7 b.Depth]] ++ p1C) (.bool r)) (r : Int) (f : qee c g = some r) : Pure Tryz.prog tab 96 [.sl 7 (c.map Kb),.fn p1F p1C] (q7 r):=by
 unfold qee at f;refine Qn Tryz.func96 J qi qi J<|qe<|qc J<|qa<|qf<|qe<|U J<|Qp J<|U J<|qa<|q8 f fun j l f=>?_;refine Qm (fun h=>.inl h = j) (fun h=>⟨[],[],0⟩) qg ?_ ?_
 ·refine Qi (q7j c g) (fun k=>⟨[(0,.d (.sl 7 (c.map Kb))),(1,.d (.fn p1F p1C)),(7,q9 (c.length : Int)),(8,q9 k)],[],0⟩) 0 j l (wkA [] [] []) ?_;intro k q a;unfold q7j at a;refine qe<|O _ J<|qa<|qf ?_;refine qm J a (fun _ a=>?_) (fun _ a=>?_)
  ·refine ql<|qf<|Q7<|qe<|U J<|qc J<|qu<|U J<|U J<|U J<|q8 a fun m n a=>Qe n J<|O _ J<|q8 a fun o p a=>Yn _ (p1Ok m o p) J J J (.inl J)<|qa ?_;refine qm J a (fun _ a=>?_) (fun _ a=>?_)
   ·refine qe<|U J<|qc J<|qs ?_;refine ⟨_,qo a,fun hm=>?_⟩;subst hm;cases f;exact Q6 _ J
   refine ql<|Qj<|Qq<|qy<|O _ J<|U J<|qx<|⟨_,qo a,wkA [] [] []⟩
  refine Qb ?_;refine ⟨_,qo a,fun hm=>?_⟩;subst hm;exact ⟨_,J,wkA [] [] []⟩
 intro h hb;subst hb;refine qe<|qc J<|qs ?_;cases f;exact Q6 _ J
theorem qp2 (c : List K3) (d : K3→Option Bool) (p1F : FuncId) (p1C : List DV) (p1Ok : ∀ (a : K3) (r : Bool),d a = some r→Pure Tryz.prog tab p1F ([.agg [q7 a.From.X,q7 a.From.Y,q7 a.From.Z,q7 a.To.X,q7 a.To.Y,q7 a.To.Z,q7 a.Depth]] ++ p1C) (.bool r)) (r : Bool) (b : q7h c d = some r) : Pure Tryz.prog tab 65 [.sl 7 (c.map Kb),.fn p1F p1C] (.bool r):=by
 unfold q7h at b;refine Qn Tryz.func65 J qi qi J<|qe<|qc J<|qu<|U J<|U J<|q8 b fun f g b=>Q4 (q11f c d p1F p1C p1Ok f g) J<|O _ J<|qc J<|qs ?_;cases b;exact Q6 _ J
theorem qqr (a : qw) (r : Bool) (c : qcb a = some r) : Pure Tryz.prog tab 88 [.agg [q7 a.X,q7 a.Y,q7 a.Z]] (.bool r):=by
 unfold qcb at c;refine Qn Tryz.func88 J qi qi J<|qe<|Ql _ _ J<|qc J<|qu<|O _ J<|O _ J<|O _ J<|O _ J<|O _ J<|O _ J<|Uu (r:=min (min a.X a.Y) a.Z) J J (by simp only [Us];rfl)<|O _ J<|q8 c fun o b c=>?_;refine Qd 10 (fun A st=>∃ d f g h j k l m n,st = A [(20,Q1 o),(19,n),(18,m),(17,l),(16,k),(15,j),(14,h),(13,g),(12,f),(11,d)]) ?_ ?_
 ·refine Qa J J b (fun b=>?_) (fun b=>?_)
  ·refine O _ J<|O _ J<|O _ J<|O _ J<|O _ J<|O _ J<|Jc (r:=max (max a.X a.Y) a.Z) J J (by simp only [Jb];rfl)<|O _ J<|O _ J<|qa ?_;cases b;exact ⟨_,_,_,_,_,_,_,_,_,J⟩
  refine qd J<|qd J<|qd J<|qd J<|qd J<|qd J<|qd J<|qd J<|O _ J<|qa ?_;cases b;exact ⟨_,_,_,_,_,_,_,_,_,J⟩
 rintro _ ⟨d,f,g,h,j,k,l,m,n,rfl⟩;refine qc J<|qs ?_;cases c;exact Q6 _ J
theorem q15x (a : K3) (r : Bool) (b : q97 a = some r) : Pure Tryz.prog tab 87 [.agg [q7 a.From.X,q7 a.From.Y,q7 a.From.Z,q7 a.To.X,q7 a.To.Y,q7 a.To.Z,q7 a.Depth]] (.bool r):=by
 unfold q97 at b;refine Qn Tryz.func87 J qi qi J<|qe<|Ql _ _ J<|qc J<|qu<|qc J<|qa<|qf<|qe<|O _ J<|O _ J<|O _ J<|O _ J<|O _ J<|O _ J<|O _ J<|O _ J<|O _ J<|O _ J<|O _ J<|O _ J<|O _ J<|O _ J<|O _ J<|O _ J<|O _ J<|O _ J<|O _ J<|O _ J<|O _ J<|O _ J<|U J<|qa<|q8 b fun m w b=>?_;refine Qm (fun j=>j = m) (fun j=>⟨[(1,.ref 0 7 0 0),(3,q9 j)],[(0,.dat 7 [[q7 a.From.X,q7 a.From.Y,q7 a.From.Z,q7 a.To.X,q7 a.To.Y,q7 a.To.Z,q7 a.Depth]])],1⟩) qg ?_ ?_
 ·refine Qi (q1l a) (fun k=>⟨[(1,.ref 0 7 0 0),(3,q9 k.1),(27,.d (.agg [q7 (w64 (a.To.X - a.From.X)),q7 (w64 (a.To.Y - a.From.Y)),q7 (w64 (a.To.Z - a.From.Z))])),(28,q9 k.2)],[(0,.dat 7 [[q7 a.From.X,q7 a.From.Y,q7 a.From.Z,q7 a.To.X,q7 a.To.Y,q7 a.To.Z,q7 a.Depth]])],1⟩) (0,0) m w (wkA [(0,0)] [] []) ?_;intro k y6 c;unfold q1l at c;refine qe<|O _ J<|qa<|qf ?_;refine qm J c (fun _ c=>?_) (fun _ c=>?_)
  ·refine ql<|qf<|q8 c fun x f c=>?_;refine Qm (fun l=>l = x) (fun l=>⟨[(1,.ref 0 7 0 0),(3,q9 l),(27,.d (.agg [q7 (w64 (a.To.X - a.From.X)),q7 (w64 (a.To.Y - a.From.Y)),q7 (w64 (a.To.Z - a.From.Z))])),(28,q9 k.2)],[(0,.dat 7 [[q7 a.From.X,q7 a.From.Y,q7 a.From.Z,q7 a.To.X,q7 a.To.Y,q7 a.To.Z,q7 a.Depth]])],1⟩) qg ?_ ?_
   ·refine qe<|q8 f fun y z f=>qwr (enc:=(eI .i64)) [w64 (a.To.X - a.From.X),w64 (a.To.Y - a.From.Y),w64 (a.To.Z - a.From.Z)] (q9 y) z (fun _=>rfl) J J J J J J<|qc J<|qu<|U J<|O _ J<|qa ?_;refine qm J f (fun _ f=>?_) (fun _ f=>?_)
    ·refine qy<|U J<|O _ J<|qc J<|qx ?_;cases f;exact ⟨_,J,wkA [(0,0)] [] []⟩
    refine ql<|Qj ?_;cases f;exact ⟨_,J,wkA [(0,0)] [] []⟩
   intro l hb;subst hb;refine qy<|O _ J<|U J<|qx<|⟨_,qo c,wkA [(0,0)] [] []⟩
  refine Qb ?_;refine ⟨_,qo c,fun hm=>?_⟩;subst hm;exact ⟨_,J,wkA [(0,0)] [] []⟩
 intro j hb;subst hb;refine qe<|O _ J<|O _ J<|q8 b fun aa ab b=>Q4 (qqr a.From aa ab) J<|O _ J<|q8 b fun ac g b=>?_;refine Qd 6 (fun A st=>∃ n o p q s,st = A [(45,Q1 ac),(44,s),(43,q),(42,p),(41,o),(40,n)]) ?_ ?_
 ·refine Qa J J g (fun g=>?_) (fun g=>?_)
  ·refine qd J<|qd J<|qd J<|qd J<|O _ J<|qa ?_;cases g;exact ⟨_,_,_,_,_,J⟩
  refine O _ J<|O _ J<|q8 g fun ad ae g=>Q4 (qqr a.To ad ae) J<|O _ J<|O _ J<|qa ?_;cases g;exact ⟨_,_,_,_,_,J⟩
 rintro _ ⟨n,o,p,q,s,rfl⟩;refine q8 b fun af h b=>?_;refine Qd 4 (fun A st=>∃ t u v,st = A [(49,Q1 af),(48,v),(47,u),(46,t)]) ?_ ?_
 ·refine Qa J J h (fun h=>?_) (fun h=>?_)
  ·refine qd J<|qd J<|O _ J<|qa ?_;cases h;exact ⟨_,_,_,J⟩
  refine U J<|O _ J<|O _ J<|qa ?_;cases h;exact ⟨_,_,_,J⟩
 rintro _ ⟨t,u,v,rfl⟩;refine qc J<|qs ?_;cases b;exact Q6 _ J
theorem q11g (c : List Yf) (g : Yf→Option Bool) (p1F : FuncId) (p1C : List DV) (p1Ok : ∀ (b : Yf) (r : Bool),g b = some r→Pure Tryz.prog tab p1F ([.agg [.int .u8 b.Name,.int .u8 b.Frame.Turn,q7 b.Frame.At.X,q7 b.Frame.At.Y,q7 b.Frame.At.Z]] ++ p1C) (.bool r)) (r : Int) (f : qef c g = some r) : Pure Tryz.prog tab 115 [.sl 5 (c.map Kf),.fn p1F p1C] (q7 r):=by
 unfold qef at f;refine Qn Tryz.func115 J qi qi J<|qe<|qc J<|qa<|qf<|qe<|U J<|Qp J<|U J<|qa<|q8 f fun j l f=>?_;refine Qm (fun h=>.inl h = j) (fun h=>⟨[],[],0⟩) qg ?_ ?_
 ·refine Qi (q7k c g) (fun k=>⟨[(0,.d (.sl 5 (c.map Kf))),(1,.d (.fn p1F p1C)),(7,q9 (c.length : Int)),(8,q9 k)],[],0⟩) 0 j l (wkA [] [] []) ?_;intro k q a;unfold q7k at a;refine qe<|O _ J<|qa<|qf ?_;refine qm J a (fun _ a=>?_) (fun _ a=>?_)
  ·refine ql<|qf<|Q7<|qe<|U J<|qc J<|qu<|U J<|U J<|U J<|q8 a fun m n a=>Qe n J<|O _ J<|q8 a fun o p a=>Yn _ (p1Ok m o p) J J J (.inl J)<|qa ?_;refine qm J a (fun _ a=>?_) (fun _ a=>?_)
   ·refine qe<|U J<|qc J<|qs ?_;refine ⟨_,qo a,fun hm=>?_⟩;subst hm;cases f;exact Q6 _ J
   refine ql<|Qj<|Qq<|qy<|O _ J<|U J<|qx<|⟨_,qo a,wkA [] [] []⟩
  refine Qb ?_;refine ⟨_,qo a,fun hm=>?_⟩;subst hm;exact ⟨_,J,wkA [] [] []⟩
 intro h hb;subst hb;refine qe<|qc J<|qs ?_;cases f;exact Q6 _ J
theorem q118 (c : List Yf) (d : Yf→Option Bool) (p1F : FuncId) (p1C : List DV) (p1Ok : ∀ (a : Yf) (r : Bool),d a = some r→Pure Tryz.prog tab p1F ([.agg [.int .u8 a.Name,.int .u8 a.Frame.Turn,q7 a.Frame.At.X,q7 a.Frame.At.Y,q7 a.Frame.At.Z]] ++ p1C) (.bool r)) (r : Bool) (b : qao c d = some r) : Pure Tryz.prog tab 89 [.sl 5 (c.map Kf),.fn p1F p1C] (.bool r):=by
 unfold qao at b;refine Qn Tryz.func89 J qi qi J<|qe<|qc J<|qu<|U J<|U J<|q8 b fun f g b=>Q4 (q11g c d p1F p1C p1Ok f g) J<|O _ J<|qc J<|qs ?_;cases b;exact Q6 _ J
theorem qgi (a : qw) (d : Int) (r : Bool) (c : q48 a d = some r) : Pure Tryz.prog tab 91 [.agg [q7 a.X,q7 a.Y,q7 a.Z],q7 d] (.bool r):=by
 unfold q48 at c;refine Qn Tryz.func91 J qi qi J<|qe<|Ql _ _ J<|qc J<|qu<|O _ J<|O _ J<|O _ J<|O _ J<|O _ J<|O _ J<|Uu (r:=min (min a.X a.Y) a.Z) J J (by simp only [Us];rfl)<|U J<|O _ J<|q8 c fun p b c=>?_;refine Qd 10 (fun A st=>∃ f g h j k l m n o,st = A [(23,Q1 p),(22,o),(21,n),(20,m),(19,l),(18,k),(17,j),(16,h),(15,g),(14,f)]) ?_ ?_
 ·refine Qa J J b (fun b=>?_) (fun b=>?_)
  ·refine O _ J<|O _ J<|O _ J<|O _ J<|O _ J<|O _ J<|Jc (r:=max (max a.X a.Y) a.Z) J J (by simp only [Jb];rfl)<|O _ J<|O _ J<|qa ?_;cases b;exact ⟨_,_,_,_,_,_,_,_,_,J⟩
  refine qd J<|qd J<|qd J<|qd J<|qd J<|qd J<|qd J<|qd J<|O _ J<|qa ?_;cases b;exact ⟨_,_,_,_,_,_,_,_,_,J⟩
 rintro _ ⟨f,g,h,j,k,l,m,n,o,rfl⟩;refine qc J<|qs ?_;cases c;exact Q6 _ J
theorem q2v (c : K0) (r : Int) (a : U7 c = some r) : Pure Tryz.prog tab 61 [.agg [.int .u8 c.Turn,q7 c.At.X,q7 c.At.Y,q7 c.At.Z]] (q7 r):=by
 unfold U7 at a;refine Qn Tryz.func61 J qi qi J<|qe<|Ql _ _ J<|qc J<|qa<|qf<|qe<|O _ J<|O _ J<|O _ J<|q8 a fun k b a=>?_;refine Qd 6 (fun A st=>∃ d f g h j,st = A [(11,Q1 k),(10,j),(9,h),(8,g),(7,f),(6,d)]) ?_ ?_
 ·refine Qa J J b (fun b=>?_) (fun b=>?_)
  ·refine qd J<|qd J<|qd J<|qd J<|O _ J<|qa ?_;cases b;exact ⟨_,_,_,_,_,J⟩
  refine O _ J<|O _ J<|q8 b fun l m b=>Q4 (qgi c.At (-1000000) l m) J<|O _ J<|O _ J<|qa ?_;cases b;exact ⟨_,_,_,_,_,J⟩
 rintro _ ⟨d,f,g,h,j,rfl⟩;refine qa ?_;refine qm J a (fun _ a=>?_) (fun _ a=>?_)
 ·refine qe<|qc J<|qs ?_;cases a;exact Q6 _ J
 refine ql<|qe<|qc J<|qs ?_;cases a;exact Q6 _ J
theorem q15y (a : Yf) (r : Bool) (b : q98 a = some r) : Pure Tryz.prog tab 90 [.agg [.int .u8 a.Name,.int .u8 a.Frame.Turn,q7 a.Frame.At.X,q7 a.Frame.At.Y,q7 a.Frame.At.Z]] (.bool r):=by
 unfold q98 at b;refine Qn Tryz.func90 J qi qi J<|qe<|Ql _ _ J<|qc J<|qu<|O _ J<|O _ J<|q8 b fun c d b=>Q4 (q2v a.Frame c d) J<|O _ J<|qc J<|qs ?_;cases b;exact Q6 _ J
theorem qqq (b : Qr) (r : Int) (a : q96 b = some r) : Pure Tryz.prog tab 60 [.agg [.sl 7 (b.Lines.map Kb),.sl 5 (b.Marks.map Kf),.int .u8 b.End.Frame.Turn,q7 b.End.Frame.At.X,q7 b.End.Frame.At.Y,q7 b.End.Frame.At.Z,q7 b.End.Drawn]] (q7 r):=by
 unfold q96 at a;refine Qn Tryz.func60 J qi qi J<|qe<|Ql _ _ J<|qc J<|qu<|O _ J<|O _ J<|q8 a fun r1 h2 a=>Q4 (qp2 b.Lines (fun c=>q97 c) 87 [] (fun c r hr=>q15x c r hr) r1 h2) J<|qc J<|qu<|O _ J<|O _ J<|q8 a fun r3 h4 a=>Q4 (q118 b.Marks (fun c=>q98 c) 90 [] (fun c r hr=>q15y c r hr) r3 h4) J<|qc J<|qa<|qf<|qe<|U J<|q8 a fun c5 f a=>?_;refine Qd 3 (fun A st=>∃ h j,st = A [(14,Q1 c5),(13,j),(12,h)]) ?_ ?_
 ·refine Qa J J f (fun f=>?_) (fun f=>?_)
  ·refine qd J<|O _ J<|qa ?_;cases f;exact ⟨_,_,J⟩
  refine U J<|O _ J<|qa ?_;cases f;exact ⟨_,_,J⟩
 rintro _ ⟨h,j,rfl⟩;refine q8 a fun af d a=>?_;refine Qd 7 (fun A st=>∃ k l m n o p,st = A [(21,Q1 af),(20,p),(19,o),(18,n),(17,m),(16,l),(15,k)]) ?_ ?_
 ·refine Qa J J d (fun d=>?_) (fun d=>?_)
  ·refine qd J<|qd J<|qd J<|qd J<|qd J<|O _ J<|qa ?_;cases d;exact ⟨_,_,_,_,_,_,J⟩
  refine O _ J<|O _ J<|O _ J<|q8 d fun ag ah d=>Q4 (q2v b.End.Frame ag ah) J<|O _ J<|O _ J<|qa ?_;cases d;exact ⟨_,_,_,_,_,_,J⟩
 rintro _ ⟨k,l,m,n,o,p,rfl⟩;refine q8 a fun ai g a=>?_;refine Qd 10 (fun A st=>∃ q s t u v w x y z,st = A [(31,Q1 ai),(30,z),(29,y),(28,x),(27,w),(26,v),(25,u),(24,t),(23,s),(22,q)]) ?_ ?_
 ·refine Qa J J g (fun g=>?_) (fun g=>?_)
  ·refine qd J<|qd J<|qd J<|qd J<|qd J<|qd J<|qd J<|qd J<|O _ J<|qa ?_;cases g;exact ⟨_,_,_,_,_,_,_,_,_,J⟩
  refine O _ J<|O _ J<|Qp J<|O _ J<|O _ J<|Qp J<|Jc (r:=max (b.Lines.length : Int) (b.Marks.length : Int)) J J (by simp only [Jb];rfl)<|O _ J<|O _ J<|qa ?_;cases g;exact ⟨_,_,_,_,_,_,_,_,_,J⟩
 rintro _ ⟨q,s,t,u,v,w,x,y,z,rfl⟩;refine qa ?_;refine qm J a (fun _ a=>?_) (fun _ a=>?_)
 ·refine qe<|qc J<|qs ?_;cases a;exact Q6 _ J
 refine ql<|qe<|qc J<|qs ?_;cases a;exact Q6 _ J
theorem qj1 (a : Int) (r : Int) (b : q99 a = some r) : Pure Tryz.prog tab 69 [q7 a] (q7 r):=by
 unfold q99 at b;refine Qn Tryz.func69 J qi qi J<|qe<|qc J<|qu<|U J<|U J<|O _ J<|Jc (r:=max a (w64 (0 - a))) J J (by simp only [Jb];rfl)<|qc J<|qs ?_;cases b;exact Q6 _ J
theorem qqp (b : Qr) (r : Int × Int) (c : q5k b = some r) : Pure Tryz.prog tab 43 [.agg [.sl 7 (b.Lines.map Kb),.sl 5 (b.Marks.map Kf),.int .u8 b.End.Frame.Turn,q7 b.End.Frame.At.X,q7 b.End.Frame.At.Y,q7 b.End.Frame.At.Z,q7 b.End.Drawn]] (.tup [q7 r.1,q7 r.2]):=by
 unfold q5k at c;refine Qn Tryz.func43 J qi qi J<|qe<|Ql _ _ J<|qc J<|qc J<|qa<|qf<|qe<|O _ J<|q8 c fun k l c=>Q4 (qqq b k l) J<|qc J<|qu<|U J<|O _ J<|qa ?_;refine qm J c (fun _ c=>?_) (fun _ c=>?_)
 ·refine qe<|U J<|qc J<|qc J<|qs ?_;cases c;exact Q6 _ J
 refine ql<|qe<|qc J<|qa<|qf<|qe<|O _ J<|O _ J<|Qp J<|U J<|qa<|q8 c fun j m c=>?_;refine Qm (fun g=>g = j) (fun g=>⟨[(5,q9 g)],[],0⟩) qg ?_ ?_
 ·refine Qi (q93 b) (fun h=>⟨[(5,q9 h.1),(14,.d (.sl 7 (b.Lines.map Kb))),(15,q9 (b.Lines.length : Int)),(16,q9 h.2)],[],0⟩) (0,0) j m (wkA [] [] []) ?_;intro h v a;unfold q93 at a;refine qe<|O _ J<|qa<|qf ?_;refine qm J a (fun _ a=>?_) (fun _ a=>?_)
  ·refine ql<|qf<|Q7<|qe<|q8 a fun f n a=>Qe n J<|O _ J<|Qw J J<|Q8 0 _ J<|qa<|Qk [q0,q0,q0,q0,q0,qv 0,q0,q0,qv 0,q0,q0,q0,q0,q0,qv 0,q0,q0,qv 0,q0,q0,q0,q0,qv 0,q0,q0,qv 0,q0,q0,q0] qi<|U J<|O _ J<|O _ J<|O _ J<|O _ J<|O _ J<|O _ J<|O _ J<|q8 a fun o p a=>Q4 (qj1 (w64 (f.To.X - f.From.X)) o p) J<|O _ J<|O _ J<|O _ J<|O _ J<|O _ J<|O _ J<|O _ J<|q8 a fun q s a=>Q4 (qj1 (w64 (f.To.Y - f.From.Y)) q s) J<|O _ J<|O _ J<|O _ J<|O _ J<|O _ J<|O _ J<|O _ J<|O _ J<|q8 a fun t u a=>Q4 (qj1 (w64 (f.To.Z - f.From.Z)) t u) J ?_;refine O _ J<|O _ J<|qc J<|qx<|Qq<|qy<|O _ J<|U J<|qx<|⟨_,qo a,wkA [] [] []⟩
  refine Qb ?_;refine ⟨_,qo a,fun hm=>?_⟩;subst hm;exact ⟨_,J,wkA [] [] []⟩
 intro g hb;subst hb;refine qe<|U J<|qc J<|qc J<|qs ?_;cases c;exact Q6 _ J
theorem q11j (c : List qh) (g : qh→Option Bool) (p1F : FuncId) (p1C : List DV) (p1Ok : ∀ (b : qh) (r : Bool),g b = some r→Pure Tryz.prog tab p1F ([.agg [q7 b.Lo.X,q7 b.Lo.Y,q7 b.Lo.Z,q7 b.Hi.X,q7 b.Hi.Y,q7 b.Hi.Z]] ++ p1C) (.bool r)) (r : Int) (f : qat c g = some r) : Pure Tryz.prog tab 85 [.sl 6 (c.map Qh),.fn p1F p1C] (q7 r):=by
 unfold qat at f;refine Qn Tryz.func85 J qi qi J<|qe<|qc J<|qa<|qf<|qe<|U J<|Qp J<|U J<|qa<|q8 f fun j l f=>?_;refine Qm (fun h=>.inl h = j) (fun h=>⟨[],[],0⟩) qg ?_ ?_
 ·refine Qi (q1i c g) (fun k=>⟨[(0,.d (.sl 6 (c.map Qh))),(1,.d (.fn p1F p1C)),(7,q9 (c.length : Int)),(8,q9 k)],[],0⟩) 0 j l (wkA [] [] []) ?_;intro k q a;unfold q1i at a;refine qe<|O _ J<|qa<|qf ?_;refine qm J a (fun _ a=>?_) (fun _ a=>?_)
  ·refine ql<|qf<|Q7<|qe<|U J<|qc J<|qu<|U J<|U J<|U J<|q8 a fun m n a=>Qe n J<|O _ J<|q8 a fun o p a=>Yn _ (p1Ok m o p) J J J (.inl J)<|qa ?_;refine qm J a (fun _ a=>?_) (fun _ a=>?_)
   ·refine qe<|U J<|qc J<|qs ?_;refine ⟨_,qo a,fun hm=>?_⟩;subst hm;cases f;exact Q6 _ J
   refine ql<|Qj<|Qq<|qy<|O _ J<|U J<|qx<|⟨_,qo a,wkA [] [] []⟩
  refine Qb ?_;refine ⟨_,qo a,fun hm=>?_⟩;subst hm;exact ⟨_,J,wkA [] [] []⟩
 intro h hb;subst hb;refine qe<|qc J<|qs ?_;cases f;exact Q6 _ J
theorem qig (c : List qh) (d : qh→Option Bool) (p1F : FuncId) (p1C : List DV) (p1Ok : ∀ (a : qh) (r : Bool),d a = some r→Pure Tryz.prog tab p1F ([.agg [q7 a.Lo.X,q7 a.Lo.Y,q7 a.Lo.Z,q7 a.Hi.X,q7 a.Hi.Y,q7 a.Hi.Z]] ++ p1C) (.bool r)) (r : Bool) (b : q2a c d = some r) : Pure Tryz.prog tab 57 [.sl 6 (c.map Qh),.fn p1F p1C] (.bool r):=by
 unfold q2a at b;refine Qn Tryz.func57 J qi qi J<|qe<|qc J<|qu<|U J<|U J<|q8 b fun f g b=>Q4 (q11j c d p1F p1C p1Ok f g) J<|O _ J<|qc J<|qs ?_;cases b;exact Q6 _ J
theorem qpj (a : qw) (r : Bool) (c : q8o a = some r) : Pure Tryz.prog tab 97 [.agg [q7 a.X,q7 a.Y,q7 a.Z]] (.bool r):=by
 unfold q8o at c;refine Qn Tryz.func97 J qi qi J<|qe<|Ql _ _ J<|qc J<|qu<|O _ J<|O _ J<|O _ J<|O _ J<|O _ J<|O _ J<|Uu (r:=min (min a.X a.Y) a.Z) J J (by simp only [Us];rfl)<|O _ J<|q8 c fun o b c=>?_;refine Qd 10 (fun A st=>∃ d f g h j k l m n,st = A [(20,Q1 o),(19,n),(18,m),(17,l),(16,k),(15,j),(14,h),(13,g),(12,f),(11,d)]) ?_ ?_
 ·refine Qa J J b (fun b=>?_) (fun b=>?_)
  ·refine O _ J<|O _ J<|O _ J<|O _ J<|O _ J<|O _ J<|Jc (r:=max (max a.X a.Y) a.Z) J J (by simp only [Jb];rfl)<|O _ J<|O _ J<|qa ?_;cases b;exact ⟨_,_,_,_,_,_,_,_,_,J⟩
  refine qd J<|qd J<|qd J<|qd J<|qd J<|qd J<|qd J<|qd J<|O _ J<|qa ?_;cases b;exact ⟨_,_,_,_,_,_,_,_,_,J⟩
 rintro _ ⟨d,f,g,h,j,k,l,m,n,rfl⟩;refine qc J<|qs ?_;cases c;exact Q6 _ J
theorem qpl (b : qh) (r : Bool) (a : q8p b = some r) : Pure Tryz.prog tab 71 [.agg [q7 b.Lo.X,q7 b.Lo.Y,q7 b.Lo.Z,q7 b.Hi.X,q7 b.Hi.Y,q7 b.Hi.Z]] (.bool r):=by
 unfold q8p at a;refine Qn Tryz.func71 J qi qi J<|qe<|Ql _ _ J<|qc J<|qu<|O _ J<|O _ J<|O _ J<|O _ J<|O _ J<|O _ J<|O _ J<|q8 a fun c1 f a=>?_;refine Qd 9 (fun A st=>∃ h j k l m n o p,st = A [(18,Q1 c1),(17,p),(16,o),(15,n),(14,m),(13,l),(12,k),(11,j),(10,h)]) ?_ ?_
 ·refine Qa J J f (fun f=>?_) (fun f=>?_)
  ·refine O _ J<|O _ J<|O _ J<|O _ J<|O _ J<|O _ J<|O _ J<|O _ J<|qa ?_;cases f;exact ⟨_,_,_,_,_,_,_,_,J⟩
  refine qd J<|qd J<|qd J<|qd J<|qd J<|qd J<|qd J<|O _ J<|qa ?_;cases f;exact ⟨_,_,_,_,_,_,_,_,J⟩
 rintro _ ⟨h,j,k,l,m,n,o,p,rfl⟩;refine q8 a fun ai g a=>?_;refine Qd 9 (fun A st=>∃ q s t u v w x y,st = A [(27,Q1 ai),(26,y),(25,x),(24,w),(23,v),(22,u),(21,t),(20,s),(19,q)]) ?_ ?_
 ·refine Qa J J g (fun g=>?_) (fun g=>?_)
  ·refine O _ J<|O _ J<|O _ J<|O _ J<|O _ J<|O _ J<|O _ J<|O _ J<|qa ?_;cases g;exact ⟨_,_,_,_,_,_,_,_,J⟩
  refine qd J<|qd J<|qd J<|qd J<|qd J<|qd J<|qd J<|O _ J<|qa ?_;cases g;exact ⟨_,_,_,_,_,_,_,_,J⟩
 rintro _ ⟨q,s,t,u,v,w,x,y,rfl⟩;refine q8 a fun aj c a=>?_;refine Qd 5 (fun A st=>∃ z aa ab ac,st = A [(32,Q1 aj),(31,ac),(30,ab),(29,aa),(28,z)]) ?_ ?_
 ·refine Qa J J c (fun c=>?_) (fun c=>?_)
  ·refine O _ J<|O _ J<|q8 c fun ak al c=>Q4 (qpj b.Lo ak al) J<|O _ J<|qa ?_;cases c;exact ⟨_,_,_,_,J⟩
  refine qd J<|qd J<|qd J<|O _ J<|qa ?_;cases c;exact ⟨_,_,_,_,J⟩
 rintro _ ⟨z,aa,ab,ac,rfl⟩;refine q8 a fun am d a=>?_;refine Qd 5 (fun A st=>∃ ad ae af ag,st = A [(37,Q1 am),(36,ag),(35,af),(34,ae),(33,ad)]) ?_ ?_
 ·refine Qa J J d (fun d=>?_) (fun d=>?_)
  ·refine O _ J<|O _ J<|q8 d fun an ao d=>Q4 (qpj b.Hi an ao) J<|O _ J<|qa ?_;cases d;exact ⟨_,_,_,_,J⟩
  refine qd J<|qd J<|qd J<|O _ J<|qa ?_;cases d;exact ⟨_,_,_,_,J⟩
 rintro _ ⟨ad,ae,af,ag,rfl⟩;refine qc J<|qs ?_;cases a;exact Q6 _ J
theorem q148 (a : qh) (r : Bool) (b : q3r a = some r) : Pure Tryz.prog tab 70 [.agg [q7 a.Lo.X,q7 a.Lo.Y,q7 a.Lo.Z,q7 a.Hi.X,q7 a.Hi.Y,q7 a.Hi.Z]] (.bool r):=by
 unfold q3r at b;refine Qn Tryz.func70 J qi qi J<|qe<|Ql _ _ J<|qc J<|qu<|O _ J<|q8 b fun c d b=>Q4 (qpl a c d) J<|O _ J<|qc J<|qs ?_;cases b;exact Q6 _ J
theorem qw2 (k : Int) (r : Int) (a : q3b k = some r) : Pure Tryz.prog tab 156 [.int .u64 k] (q7 r):=by
 unfold q3b at a;refine Qn Tryz.func156 J qi qi J<|qe<|qc J<|qa<|qf<|qe<|U J<|O _ J<|qa<|q8 a fun l b a=>?_;refine Yu (fun c=>c = l) (fun c=>⟨[(0,.d (.int .u64 c.1)),(2,q9 c.2)],[],0⟩) qg ?_ ?_
 ·refine qm J b (fun _ b=>?_) (fun _ b=>?_)
  ·refine qe<|U J<|O _ J<|qc J<|qa<|qy<|qc J<|qx ?_;cases b;exact ⟨_,J,wkA [] [] []⟩
  refine ql<|Qj ?_;cases b;exact ⟨_,J,wkA [] [] []⟩
 intro c hb;subst hb;refine qf<|qe<|U J<|O _ J<|qa<|q8 a fun m f a=>?_;refine Yu (fun g=>g = m) (fun g=>⟨[(0,.d (.int .u64 g.1)),(2,q9 g.2)],[],0⟩) qg ?_ ?_
 ·refine qm J f (fun _ f=>?_) (fun _ f=>?_)
  ·refine qe<|U J<|O _ J<|qc J<|qa<|qy<|U J<|O _ J<|qc J<|qx ?_;cases f;exact ⟨_,J,wkA [] [] []⟩
  refine ql<|Qj ?_;cases f;exact ⟨_,J,wkA [] [] []⟩
 intro g hb;subst hb;refine qf<|qe<|U J<|O _ J<|qa<|q8 a fun n h a=>?_;refine Yu (fun j=>j = n) (fun j=>⟨[(0,.d (.int .u64 j.1)),(2,q9 j.2)],[],0⟩) qg ?_ ?_
 ·refine qm J h (fun _ h=>?_) (fun _ h=>?_)
  ·refine qe<|U J<|O _ J<|qc J<|qa<|qy<|U J<|O _ J<|qc J<|qx ?_;cases h;exact ⟨_,J,wkA [] [] []⟩
  refine ql<|Qj ?_;cases h;exact ⟨_,J,wkA [] [] []⟩
 intro j hb;subst hb;refine qe<|U J<|U J<|O _ J<|q8 a fun p o a=>qws qes o J J J J J<|O _ J<|O _ J<|qc J<|qs ?_;cases a;exact Q6 _ J
theorem qh7 (b : Int) (r : Int) (a : q1d b = some r) : Pure Tryz.prog tab 136 [.int .u64 b] (q7 r):=by
 unfold q1d at a;refine Qn Tryz.func136 J qi qi J<|qe<|qc J<|qa<|qf<|Zj J<|ql<|qe<|U J<|q8 a fun c d a=>Q4 (qw2 b c d) J<|qc J<|qs ?_;cases a;exact Q6 _ J
theorem qkg (a : Int) (r : Bool) (b : q9k a = some r) : Pure Tryz.prog tab 170 [q7 a] (.bool r):=by
 unfold q9k at b;refine Qn Tryz.func170 J qi qi J<|qe<|qc J<|qu<|U J<|U J<|O _ J<|qc J<|qs ?_;cases b;exact Q6 _ J
theorem J6 (d : Int) (f : Int) (r : Bool) (a : Zf d f = some r) : Pure Tryz.prog tab 152 [q7 d,q7 f] (.bool r):=by
 unfold Zf at a;refine Qn Tryz.func152 J qi qi J<|qe<|qc J<|qu<|U J<|q8 a fun p q a=>Q4 (qkg d p q) J<|q8 a fun s b a=>?_;refine Qd 5 (fun A st=>∃ g h j k,st = A [(11,Q1 s),(10,k),(9,j),(8,h),(7,g)]) ?_ ?_
 ·refine Qa J J b (fun b=>?_) (fun b=>?_)
  ·refine U J<|q8 b fun t u b=>Q4 (qkg f t u) J<|O _ J<|O _ J<|qa ?_;cases b;exact ⟨_,_,_,_,J⟩
  refine qd J<|qd J<|qd J<|O _ J<|qa ?_;cases b;exact ⟨_,_,_,_,J⟩
 rintro _ ⟨g,h,j,k,rfl⟩;refine q8 a fun v c a=>?_;refine Qd 5 (fun A st=>∃ l m n o,st = A [(16,Q1 v),(15,o),(14,n),(13,m),(12,l)]) ?_ ?_
 ·refine Qa J J c (fun c=>?_) (fun c=>?_)
  ·refine qd J<|qd J<|qd J<|O _ J<|qa ?_;cases c;exact ⟨_,_,_,_,J⟩
  refine U J<|U J<|O _ J<|O _ J<|qa ?_;cases c;exact ⟨_,_,_,_,J⟩
 rintro _ ⟨l,m,n,o,rfl⟩;refine qc J<|qs ?_;cases a;exact Q6 _ J
theorem q11u (k : List Int) (c : Int) (h : Int) (r : List Int) (l : q7s  k c h = some r) : Ka Tryz.prog tab 146 [.hs 0 1 0 k.length,q9 c,q9 h] [(0,.dat 1 (k.map (eI .i64)))] 1 (.d (.tup [])) [(0,.dat 1 (r.map (eI .i64)))] 1:=by
 unfold q7s at l;refine Ky Tryz.func146 J qi qi J<|qe<|U J<|O _ J<|qc J<|qa<|q8 l fun ai aj l=>Q7<|Qi (q7t h c) (fun f=>⟨[(0,.hs 0 1 0 f.2.length),(1,q9 c),(2,q9 h),(6,q9 f.1)],[(0,.dat 1 (f.2.map (eI .i64)))],1⟩) (w64 (c + 1),k) ai aj (wkA [] [] []) ?_;intro f au g;unfold q7t at g;refine qf<|qe<|U J<|U J<|O _ J<|qa ?_;refine qm J g (fun _ g=>?_) (fun _ g=>?_)
 ·refine ql<|qf<|q8 g fun ak n g=>?_;refine Qm (fun j=>j = ak) (fun j=>⟨[(0,.hs 0 1 0 j.length),(1,q9 c),(2,q9 h),(6,q9 f.1)],[(0,.dat 1 (j.map (eI .i64)))],1⟩) qg ?_ ?_
  ·refine qe<|U J<|qc J<|qa<|q8 n fun al am n=>Q7<|Qi (q7u c) (fun m=>⟨[(0,.hs 0 1 0 m.2.length),(1,q9 c),(2,q9 h),(6,q9 f.1),(7,q9 m.1)],[(0,.dat 1 (m.2.map (eI .i64)))],1⟩) (f.1,f.2) al am (wkA [] [] []) ?_;intro m av a;unfold q7u at a;refine qf<|qf<|Qk [q0,q0,qv 0,q0,q0,q0,q0,qv 0,q0,q0,q0,q0,q0,q0,q0] qi<|U J<|U J<|O _ J<|q8 a fun an b a=>?_;refine Qd 12 (fun A st=>∃ o p q s t u v w x y z,st = A [(30,Q1 an),(29,z),(28,y),(27,x),(26,w),(25,v),(24,u),(23,t),(22,s),(21,q),(20,p),(19,o)]) ?_ ?_
   ·refine Qa J J b (fun b=>?_) (fun b=>?_)
    ·refine U J<|U J<|q8 b fun ao aa b=>Q2 aa J J<|Qf _ aa J<|U J<|U J<|O _ J<|q8 b fun ap ab b=>Q2 ab J J<|Qf _ ab J<|q8 b fun aq ar b=>Q4 (J6 ao ap aq ar) J<|O _ J<|qa ?_;cases b;exact ⟨_,_,_,_,_,_,_,_,_,_,_,J⟩
    refine qd J<|qd J<|qd J<|qd J<|qd J<|qd J<|qd J<|qd J<|qd J<|qd J<|O _ J<|qa ?_;cases b;exact ⟨_,_,_,_,_,_,_,_,_,_,_,J⟩
   rintro _ ⟨o,p,q,s,t,u,v,w,x,y,z,rfl⟩;refine qa ?_;refine qm J a (fun _ a=>?_) (fun _ a=>?_)
   ·refine ql<|qf<|Q7<|Qk [Qx 0,q0,Qx 0,q0,qv 0,q0,q0,q0,qv 0,q0,q0,q0,q0,q0,q0,q0,q0,q0] qi<|U J<|U J<|U J<|U J<|O _ J<|U J<|U J<|O _ J<|q8 a fun ac ad a=>Q2 ad J J<|Qf _ ad J<|U J<|U J<|q8 a fun ae af a=>Q2 af J J<|Qf _ af J<|q8 a fun aw ag a=>Q2 ag J J<|K7 (ds:=[q7 ac]) ac ag J J J J J J J J (leb J) J<|q8 a fun ax ah a=>Q2 ah qg J<|K7 (ds:=[q7 ae]) ae ah J J J J J J J J (leb J) J<|qx<|Qq<|qy<|U J<|O _ J<|qc J<|qx<|⟨_,qo a,wkE [] [] [] J ⟨⟨_,J,K8 qg J qz (ltd J)⟩,qt J,qt J,qt J,qt J,trivial⟩ ⟨Qu J J,trivial⟩⟩
   refine Qb ?_;refine ⟨_,qo a,fun hm=>?_⟩;subst hm;cases n;exact ⟨_,J,wkA [] [] []⟩
  intro j hb;subst hb;refine qy<|U J<|O _ J<|qc J<|qx<|⟨_,qo g,wkA [] [] []⟩
 refine Qb ?_;refine ⟨_,qo g,fun hm=>?_⟩;subst hm;cases l;exact ⟨.inl J,_,J,wkA [] [] []⟩
theorem qp8 (k : List Int) (m : Int) (f : Int) (g : Int) (r : List Int) (h : q58  k m f g = some r) : Ka Tryz.prog tab 165 [.hs 0 1 0 k.length,q9 m,q9 f,q9 g] [(0,.dat 1 (k.map (eI .i64)))] 1 (.d (.tup [])) [(0,.dat 1 (r.map (eI .i64)))] 1:=by
 unfold q58 at h;refine Ky Tryz.func165 J qi qi J<|qe<|U J<|qc J<|qa<|q8 h fun an ao h=>Q7<|Qi (q8g f g) (fun c=>⟨[(0,.hs 0 1 0 c.2.length),(2,q9 f),(3,q9 g),(8,q9 c.1)],[(0,.dat 1 (c.2.map (eI .i64)))],1⟩) (m,k) an ao (wkA [] [] []) ?_;intro c bb a;unfold q8g at a;refine Q7<|qe<|U J<|O _ J<|O _ J<|qc J<|qa<|qf<|qe<|U J<|U J<|O _ J<|qa ?_;refine qm J a (fun _ a=>?_) (fun _ a=>?_)
 ·refine Qb ?_;refine ⟨_,qo a,fun hm=>?_⟩;subst hm;cases h;exact ⟨.inl J,_,J,wkA [] [] []⟩
 refine ql<|qf<|qf<|Qk [q0,q0,qv 0,q0,q0,q0,q0,q0,q0,qv 0,q0,q0,q0,q0,q0,q0,q0,q0,q0,q0] qi<|U J<|O _ J<|U J<|O _ J<|q8 a fun ap b a=>?_;refine Qd 16 (fun A st=>∃ n o p q s t u v w x y z aa ab ac,st = A [(36,Q1 ap),(35,ac),(34,ab),(33,aa),(32,z),(31,y),(30,x),(29,w),(28,v),(27,u),(26,t),(25,s),(24,q),(23,p),(22,o),(21,n)]) ?_ ?_
 ·refine Qa J J b (fun b=>?_) (fun b=>?_)
  ·refine U J<|U J<|U J<|O _ J<|q8 b fun aq ad b=>Q2 ad J J<|Qf _ ad J<|U J<|U J<|U J<|O _ J<|O _ J<|q8 b fun ar ae b=>Q2 ae J J<|Qf _ ae J<|q8 b fun au av b=>Q4 (J6 aq ar au av) J<|O _ J<|qa ?_;cases b;exact ⟨_,_,_,_,_,_,_,_,_,_,_,_,_,_,_,J⟩
  refine qd J<|qd J<|qd J<|qd J<|qd J<|qd J<|qd J<|qd J<|qd J<|qd J<|qd J<|qd J<|qd J<|qd J<|O _ J<|qa ?_;cases b;exact ⟨_,_,_,_,_,_,_,_,_,_,_,_,_,_,_,J⟩
 rintro _ ⟨n,o,p,q,s,t,u,v,w,x,y,z,aa,ab,ac,rfl⟩;refine qa<|q8 a fun aw j a=>?_;refine Yu (fun l=>l = aw) (fun l=>⟨[(0,.hs 0 1 0 c.2.length),(2,q9 f),(3,q9 g),(8,q9 c.1),(9,q9 l)],[(0,.dat 1 (c.2.map (eI .i64)))],1⟩) qg ?_ ?_
 ·refine qm J j (fun _ j=>?_) (fun _ j=>?_)
  ·refine qy<|U J<|O _ J<|qc J<|qx ?_;cases j;exact ⟨_,J,wkA [] [] []⟩
  refine ql<|Qj ?_;cases j;exact ⟨_,J,wkA [] [] []⟩
 intro l hb;subst hb;refine qf<|qf<|Qk [q0,q0,qv 0,q0,q0,q0,q0,q0,qv 0,q0,q0,q0,q0,q0] qi<|U J<|U J<|U J<|O _ J<|q8 a fun ax af a=>Q2 af J J<|Qf _ af J<|U J<|U J<|U J<|O _ J<|q8 a fun ay ag a=>Q2 ag J J<|Qf _ ag J<|q8 a fun az ba a=>Q4 (J6 ax ay az ba) J<|O _ J<|qa ?_;refine qm J a (fun _ a=>?_) (fun _ a=>?_)
 ·refine q1g ?_;refine ⟨_,qo a,fun hm=>?_⟩;subst hm;cases h;exact ⟨.inr J,_,J,wkA [] [] []⟩
 refine ql<|qf<|Qk [Qx 0,q0,Qx 0,q0,qv 0,q0,q0,q0,q0,q0,qv 0,q0,q0,q0,q0,q0,q0,q0,q0,q0,q0,q0,q0,q0] qi<|U J<|U J<|U J<|O _ J<|U J<|U J<|U J<|O _ J<|U J<|U J<|U J<|O _ J<|q8 a fun ah ai a=>Q2 ai J J<|Qf _ ai J<|U J<|U J<|U J<|O _ J<|q8 a fun aj ak a=>Q2 ak J J<|Qf _ ak J<|q8 a fun bc al a=>Q2 al J J<|K7 (ds:=[q7 ah]) ah al J J J J J J J J (leb J) J<|q8 a fun bd am a=>Q2 am qg J<|K7 (ds:=[q7 aj]) aj am J J J J J J J J (leb J) J<|qa<|qy<|U J<|qc J<|qx<|Qq<|Qj<|⟨_,qo a,wkE [] [] [] J ⟨⟨_,J,K8 qg J qz (ltd J)⟩,qt J,qt J,qt J,trivial⟩ ⟨Qu J J,trivial⟩⟩
theorem q11s (l : List Int) (b : Int) (g : Int) (r : List Int) (h : q7p  l b g = some r) : Ka Tryz.prog tab 147 [.hs 0 1 0 l.length,q9 b,q9 g] [(0,.dat 1 (l.map (eI .i64)))] 1 (.d (.tup [])) [(0,.dat 1 (r.map (eI .i64)))] 1:=by
 unfold q7p at h;refine Ky Tryz.func147 J qi qi J<|qe<|U J<|qc J<|qu<|qc J<|qu<|U J<|U J<|O _ J<|qc J<|qa<|qf<|qe<|U J<|O _ J<|O _ J<|qc J<|qa<|q8 h fun p w h=>?_;refine Qm (fun j=>j = p) (fun j=>⟨[(0,.hs 0 1 0 j.length),(6,q9 b),(7,q9 0),(8,.d (q7 (w64 (g - b))))],[(0,.dat 1 (j.map (eI .i64)))],1⟩) qg ?_ ?_
 ·refine Qi (q7q g b) (fun k=>⟨[(0,.hs 0 1 0 k.2.length),(6,q9 b),(7,q9 0),(8,.d (q7 (w64 (g - b)))),(9,q9 k.1)],[(0,.dat 1 (k.2.map (eI .i64)))],1⟩) (w64 (Int.tdiv (w64 ((w64 (g - b)) - 1)) 2),l) p w (wkA [] [] []) ?_;intro k af c;unfold q7q at c;refine qf<|qe<|U J<|O _ J<|qa ?_;refine qm J c (fun _ c=>?_) (fun _ c=>?_)
  ·refine ql<|qf<|Q7<|qy<|U J<|U J<|U J<|U J<|q8 c fun q x c=>q8 c fun ag y c=>?_;have z:=Kr y;refine Kc [(0,0)] [(0,0)] _ (.d (.tup [])) 1 [(0,.dat 1 (q.map (eI .i64)))] 1 (qp8 k.2 k.1 (w64 (g - b)) b q x)<|qx<|Qq<|qy<|U J<|O _ J<|qc J<|qx<|⟨_,qo c,wkE [] [] [] J ⟨⟨_,J,K8 (by simp [z]) J qz (ltd J)⟩,qt J,qt J,qt J,qt J,trivial⟩ ⟨Qu J J,trivial⟩⟩
  refine Qb ?_;refine ⟨_,qo c,fun hm=>?_⟩;subst hm;exact ⟨_,J,wkA [] [] []⟩
 intro j hb;subst hb;refine qe<|U J<|O _ J<|qc J<|qa<|q8 h fun aa ab h=>Q7<|Qi (q7r b) (fun f=>⟨[(0,.hs 0 1 0 f.2.length),(6,q9 b),(7,q9 0),(10,q9 f.1)],[(0,.dat 1 (f.2.map (eI .i64)))],1⟩) (w64 ((w64 (g - b)) - 1),j) aa ab (wkA [] [] []) ?_;intro f ah a;unfold q7r at a;refine qf<|qe<|U J<|O _ J<|qa ?_;refine qm J a (fun _ a=>?_) (fun _ a=>?_)
 ·refine ql<|qf<|Q7<|qf<|Qk [Qx 0,q0,Qx 0,q0,qv 0,q0,q0,q0,qv 0,q0,q0,q0,q0,q0,q0,q0,q0,q0,q0,q0] qi<|U J<|U J<|U J<|U J<|U J<|O _ J<|U J<|U J<|U J<|O _ J<|q8 a fun m s a=>Q2 s J J<|Qf _ s J<|U J<|U J<|q8 a fun n t a=>Q2 t J J<|Qf _ t J<|q8 a fun ai u a=>Q2 u J J<|K7 (ds:=[q7 m]) m u J J J J J J J J (leb J) J<|q8 a fun aj v a=>Q2 v qg J<|K7 (ds:=[q7 n]) n v J J J J J J J J (leb J) J<|qa<|qy<|U J<|U J<|U J<|U J<|q8 a fun o ac a=>q8 a fun ak ad a=>?_;have ae:=Kr ad;refine Ua [(0,0)] [(0,0)] [.hs 0 1 0 f.2.length,q9 0,q9 f.1,q9 b] (.d (.tup [])) [(0,.dat 1 (o.map (eI .i64)))] [(0,.dat 1 (o.map (eI .i64)))] 1 (qp8 ((f.2.set b.toNat m).set (w64 (b + f.1)).toNat n) 0 f.1 b o ac) J J J (Yp [(0,0)] [] [] J ⟨⟨_,J,K8 qg J qz (ltd J)⟩,qt J,qt J,qt J,trivial⟩ ⟨Qu J J,trivial⟩) (Yp [(0,0)] [] [] J ⟨qt J,trivial⟩ ⟨Qu J J,trivial⟩) J ⟨.inl J,trivial⟩<|qx<|Qq<|qy<|U J<|O _ J<|qc J<|qx<|⟨_,qo a,wkE [] [] [] J ⟨⟨_,J,K8 (by simp [ae]) J qz (ltd J)⟩,qt J,qt J,qt J,trivial⟩ ⟨Qu J J,trivial⟩⟩
 refine Qb ?_;refine ⟨_,qo a,fun hm=>?_⟩;subst hm;cases h;exact ⟨.inl J,_,J,wkA [] [] []⟩
theorem qil (b : List Int) (c : Int) (f : Int) (g : Int) (r : Int × Int × Int) (a : q3q  b c f g = some r) : Ka Tryz.prog tab 174 [.d (.sl 1 (b.map (eI .i64))),q9 c,q9 f,.ref 0 1 0 0] [(0,.dat 1 [[q7 g]])] 1 (.d (.tup [q7 r.1,q7 r.2.1])) [(0,.dat 1 [[q7 r.2.2]])] 1:=by
 unfold q3q at a;refine Ky Tryz.func174 J qi qi J<|qe<|qc J<|qc J<|qa<|qf<|qf<|Qk [q0,q0,q0,q0,q0,q0,q0,q0,q0] qi<|U J<|U J<|q8 a fun h j a=>Qe j J<|O _ J<|U J<|U J<|q8 a fun k l a=>Qe l J<|O _ J<|q8 a fun m n a=>Q4 (J6 h k m n) J<|qa ?_;refine qm J a (fun _ a=>?_) (fun _ a=>?_)
 ·refine qe<|U J<|O _ J<|O _ J<|O _ J<|O _ J<|Q8 0 _ J<|qu<|U J<|U J<|qc J<|qc J<|qs ?_;cases a;exact ⟨.inr J,_,J,wkA [] [] []⟩
 refine ql<|qe<|U J<|U J<|qc J<|qc J<|qs ?_;cases a;exact ⟨.inr J,_,J,wkA [] [] []⟩
theorem qp5 (f : List Int) (h : Int) (j : Int) (k : Int) (l : Int) (r : Int × Int) (a : q52  f h j k l = some r) : Ka Tryz.prog tab 169 [.d (.sl 1 (f.map (eI .i64))),q9 h,q9 j,q9 k,.ref 0 1 0 0] [(0,.dat 1 [[q7 l]])] 1 (q9 r.1) [(0,.dat 1 [[q7 r.2]])] 1:=by
 unfold q52 at a;refine Ky Tryz.func169 J qi qi J<|qe<|qc J<|qu<|U J<|U J<|U J<|U J<|q8 a fun b m a=>Kc [(0,0)] [(0,0)] _ (.d (.tup [q7 b.1,q7 b.2.1])) 1 [(0,.dat 1 [[q7 b.2.2]])] 1 (qil f h j l b m)<|U J<|O _ J<|O _ J<|qc J<|qc J<|qu<|U J<|U J<|U J<|U J<|q8 a fun c n a=>Kc [(0,0)] [(0,0)] _ (.d (.tup [q7 c.1,q7 c.2.1])) 1 [(0,.dat 1 [[q7 c.2.2]])] 1 (qil f b.2.1 k b.2.2 c n)<|U J<|O _ J<|O _ J<|qc J<|qc J<|qu<|U J<|U J<|U J<|U J<|q8 a fun g o a=>Kc [(0,0)] [(0,0)] _ (.d (.tup [q7 g.1,q7 g.2.1])) 1 [(0,.dat 1 [[q7 g.2.2]])] 1 (qil f b.1 c.1 c.2.2 g o)<|U J<|O _ J<|O _ J<|qc J<|qc J<|qu ?_;refine U J<|qc J<|qs ?_;cases a;exact ⟨.inr J,_,J,wkA [] [] []⟩
theorem qij (c : List Int) (a : Int) (f : Int) (r : Int × Int) (b : q3p  c a f = some r) : Ka Tryz.prog tab 168 [.d (.sl 1 (c.map (eI .i64))),q9 a,.ref 0 1 0 0] [(0,.dat 1 [[q7 f]])] 1 (q9 r.1) [(0,.dat 1 [[q7 r.2]])] 1:=by
 unfold q3p at b;refine Ky Tryz.func168 J qi qi J<|qe<|qc J<|qu<|U J<|U J<|O _ J<|U J<|U J<|O _ J<|U J<|q8 b fun g h b=>Kc [(0,0)] [(0,0)] _ (q9 g.1) 1 [(0,.dat 1 [[q7 g.2]])] 1 (qp5 c (w64 (a - 1)) a (w64 (a + 1)) f g h)<|qc J<|qs ?_;cases b;exact ⟨.inr J,_,J,wkA [] [] []⟩
theorem q11q (h : List Int) (g : Int) (j : Int) (r : Int × Int) (a : q7o h g j = some r) : Pure Tryz.prog tab 149 [.sl 1 (h.map (eI .i64)),q7 g,q7 j] (.tup [q7 r.1,q7 r.2]):=by
 unfold q7o at a;refine Qn Tryz.func149 J qi qi J<|qe<|qc J<|qc J<|qu<|U J<|U J<|O _ J<|qc J<|qu<|Qw J J<|qu<|U J<|U J<|O _ J<|O _ J<|O _ J<|qc J<|qu<|U J<|U J<|O _ J<|O _ J<|O _ J<|qc J<|qu<|U J<|U J<|O _ J<|O _ J<|O _ J<|qc J<|qa<|qf<|qe<|U J<|O _ J<|qa<|q8 a fun p f a=>?_;refine Yu (fun k=>k = p) (fun k=>⟨[(9,.ref 0 1 0 0),(11,q9 k.1)],[(0,.dat 1 [[q7 k.2]])],1⟩) qg ?_ ?_
 ·refine qm J f (fun _ f=>?_) (fun _ f=>?_)
  ·refine qf<|qe<|U J<|O _ J<|qa<|q8 f fun q b f=>?_;refine Yu (fun c=>c = q) (fun c=>⟨[(0,.d (.sl 1 (h.map (eI .i64)))),(9,.ref 0 1 0 0),(10,q9 c.1),(11,q9 c.2.1),(12,q9 c.2.2.1)],[(0,.dat 1 [[q7 c.2.2.2]])],1⟩) qg ?_ ?_
   ·refine qm J b (fun _ b=>?_) (fun _ b=>?_)
    ·refine qe<|U J<|U J<|q8 b fun l s b=>Kc [(0,0)] [(0,0)] _ (q9 l.1) 1 [(0,.dat 1 [[q7 l.2]])] 1 (qij h (w64 (g + (w64 ((w64 (Int.tdiv (w64 (j - g)) 4)) * 1)))) 0 l s)<|qc J<|qu<|U J<|U J<|q8 b fun m t b=>Kc [(0,0)] [(0,0)] _ (q9 m.1) 1 [(0,.dat 1 [[q7 m.2]])] 1 (qij h (w64 (g + (w64 ((w64 (Int.tdiv (w64 (j - g)) 4)) * 2)))) l.2 m t)<|qc J<|qa<|qy<|U J<|U J<|q8 b fun n u b=>Kc [(0,0)] [(0,0)] _ (q9 n.1) 1 [(0,.dat 1 [[q7 n.2]])] 1 (qij h (w64 (g + (w64 ((w64 (Int.tdiv (w64 (j - g)) 4)) * 3)))) m.2 n u)<|qc J<|qx ?_;cases b;exact ⟨_,J,wkA [(0,0)] [] []⟩
    refine ql<|Qj ?_;cases b;exact ⟨_,J,wkA [(0,0)] [] []⟩
   intro c hb;subst hb;refine qy<|U J<|U J<|U J<|U J<|q8 f fun o v f=>Kc [(0,0)] [(0,0)] _ (q9 o.1) 1 [(0,.dat 1 [[q7 o.2]])] 1 (qp5 h c.1 c.2.1 c.2.2.1 c.2.2.2 o v)<|qc J<|qx ?_;cases f;exact ⟨_,J,wkA [(0,0)] [] []⟩
  refine ql<|Qj ?_;cases f;exact ⟨_,J,wkA [(0,0)] [] []⟩
 intro k hb;subst hb;refine qe<|O _ J<|qa<|Q7<|qe<|O _ J<|qc J<|qa ?_;refine qm J a (fun _ a=>?_) (fun _ a=>?_)
 ·refine qe<|U J<|qc J<|qc J<|qs ?_;cases a;exact Q6 _ J
 refine qe<|O _ J<|qc J<|qa ?_;refine qm J a (fun _ a=>?_) (fun _ a=>?_)
 ·refine qe<|U J<|qc J<|qc J<|qs ?_;cases a;exact Q6 _ J
 refine qe<|U J<|qc J<|qc J<|qs ?_;cases a;exact Q6 _ J
theorem q126 (c : List Int) (g : Int) (h : Int) (r : List Int) (f : q8e  c g h = some r) : Ka Tryz.prog tab 150 [.hs 0 1 0 c.length,q9 g,q9 h] [(0,.dat 1 (c.map (eI .i64)))] 1 (.d (.tup [])) [(0,.dat 1 (r.map (eI .i64)))] 1:=by
 unfold q8e at f;refine Ky Tryz.func150 J qi qi J<|qe<|U J<|qc J<|qu<|U J<|O _ J<|qc J<|qa<|q8 f fun p q f=>Q7<|Qi (qbk) (fun b=>⟨[(0,.hs 0 1 0 b.2.2.length),(6,q9 b.1),(7,q9 b.2.1)],[(0,.dat 1 (b.2.2.map (eI .i64)))],1⟩) (g,w64 (h - 1),c) p q (wkA [] [] []) ?_;intro b s a;unfold qbk at a;refine qf<|qe<|U J<|U J<|O _ J<|qa ?_;refine qm J a (fun _ a=>?_) (fun _ a=>?_)
 ·refine ql<|Q7<|qf<|Qk [Qx 0,q0,Qx 0,q0,qv 0,q0,q0,q0,qv 0,q0,q0,q0,q0,q0,q0,q0] qi<|U J<|U J<|U J<|U J<|U J<|U J<|q8 a fun j k a=>Q2 k J J<|Qf _ k J<|U J<|U J<|q8 a fun l m a=>Q2 m J J<|Qf _ m J<|q8 a fun t n a=>Q2 n J J<|K7 (ds:=[q7 j]) j n J J J J J J J J (leb J) J<|q8 a fun u o a=>Q2 o qg J<|K7 (ds:=[q7 l]) l o J J J J J J J J (leb J) J<|qu<|U J<|O _ J<|qc J<|qa<|qy<|U J<|O _ J<|qc J<|qx<|Qq<|Qj<|⟨_,qo a,wkE [] [] [] J ⟨⟨_,J,K8 qg J qz (ltd J)⟩,qt J,qt J,trivial⟩ ⟨Qu J J,trivial⟩⟩
 refine Qb ?_;refine ⟨_,qo a,fun hm=>?_⟩;subst hm;cases f;exact ⟨.inl J,_,J,wkA [] [] []⟩
theorem q11w (q : List Int) (h : Int) (f : Int) (r : Bool × List Int) (n : q54  q h f = some r) : Ka Tryz.prog tab 151 [.hs 0 1 0 q.length,q9 h,q9 f] [(0,.dat 1 (q.map (eI .i64)))] 1 (Q1 r.1) [(0,.dat 1 (r.2.map (eI .i64)))] 1:=by
 unfold q54 at n;refine Ky Tryz.func151 J qi qi J<|qe<|qc J<|qu<|U J<|O _ J<|qc J<|qa<|qf<|qe<|qc J<|qa<|q8 n fun z bk n=>?_;refine Qm (fun s=>.inl s = z) (fun s=>⟨[],[(0,.dat 1 (s.map (eI .i64)))],1⟩) qg ?_ ?_
 ·refine Qi (q55 f h) (fun d=>⟨[(0,.hs 0 1 0 d.2.2.length),(1,q9 h),(2,q9 f),(7,q9 d.1),(8,q9 d.2.1)],[(0,.dat 1 (d.2.2.map (eI .i64)))],1⟩) (w64 (h + 1),0,q) z bk (wkA [] [] []) ?_;intro d ch k;unfold q55 at k;refine qf<|qe<|U J<|O _ J<|qa ?_;refine qm J k (fun _ k=>?_) (fun _ k=>?_)
  ·refine ql<|qf<|q8 k fun bl a k=>?_;refine Qm (fun o=>.inl o = bl) (fun o=>⟨[(0,.hs 0 1 0 o.2.length),(1,q9 h),(2,q9 f),(7,q9 o.1),(8,q9 d.2.1)],[(0,.dat 1 (o.2.map (eI .i64)))],1⟩) qg ?_ ?_
   ·refine qf<|q8 a fun aa bm a=>?_;refine Qm (fun g=>g = aa) (fun g=>⟨[(0,.hs 0 1 0 d.2.2.length),(1,q9 h),(2,q9 f),(7,q9 g),(8,q9 d.2.1)],[(0,.dat 1 (d.2.2.map (eI .i64)))],1⟩) qg ?_ ?_
    ·refine Qi (q7y f d) (fun ab=>⟨[(0,.hs 0 1 0 d.2.2.length),(1,q9 h),(2,q9 f),(7,q9 ab),(8,q9 d.2.1)],[(0,.dat 1 (d.2.2.map (eI .i64)))],1⟩) d.1 aa bm (wkA [] [] []) ?_;intro ab ci l;unfold q7y at l;refine qf<|qf<|Qk [q0,q0,q0,qv 0,q0,q0,q0,q0,qv 0,q0,q0,q0,q0,q0,q0,q0] qi<|U J<|U J<|O _ J<|q8 l fun bn j l=>?_;refine Qd 13 (fun A st=>∃ ac ad ae af ag ah ai aj ak al am an,st = A [(32,Q1 bn),(31,an),(30,am),(29,al),(28,ak),(27,aj),(26,ai),(25,ah),(24,ag),(23,af),(22,ae),(21,ad),(20,ac)]) ?_ ?_
     ·refine Qa J J j (fun j=>?_) (fun j=>?_)
      ·refine U J<|U J<|q8 j fun bo ao j=>Q2 ao J J<|Qf _ ao J<|U J<|U J<|O _ J<|q8 j fun bp ap j=>Q2 ap J J<|Qf _ ap J<|q8 j fun bq br j=>Q4 (J6 bo bp bq br) J<|O _ J<|O _ J<|qa ?_;cases j;exact ⟨_,_,_,_,_,_,_,_,_,_,_,_,J⟩
      refine qd J<|qd J<|qd J<|qd J<|qd J<|qd J<|qd J<|qd J<|qd J<|qd J<|qd J<|O _ J<|qa ?_;cases j;exact ⟨_,_,_,_,_,_,_,_,_,_,_,_,J⟩
     rintro _ ⟨ac,ad,ae,af,ag,ah,ai,aj,ak,al,am,an,rfl⟩;refine qa ?_;refine qm J l (fun _ l=>?_) (fun _ l=>?_)
     ·refine ql<|Q7<|qy<|U J<|O _ J<|qc J<|qx<|Qq<|Qj<|⟨_,qo l,wkA [] [] []⟩
     refine Qb ?_;refine ⟨_,qo l,fun hm=>?_⟩;subst hm;exact ⟨_,J,wkA [] [] []⟩
    intro g hb;subst hb;refine qf<|qe<|U J<|U J<|O _ J<|qa ?_;refine qm J a (fun _ a=>?_) (fun _ a=>?_)
    ·refine qe<|qc J<|qs ?_;cases a;refine ⟨_,qo k,fun hm=>?_⟩;subst hm;cases n;exact ⟨.inr J,_,J,wkA [] [] []⟩
    refine ql<|qf<|qe<|U J<|U J<|O _ J<|O _ J<|qa ?_;refine qm J a (fun _ a=>?_) (fun _ a=>?_)
    ·refine qe<|qc J<|qs ?_;cases a;refine ⟨_,qo k,fun hm=>?_⟩;subst hm;cases n;exact ⟨.inr J,_,J,wkA [] [] []⟩
    refine ql<|qf<|Qk [Qx 0,q0,Qx 0,q0,qv 0,q0,q0,q0,qv 0,q0,q0,q0,q0,q0,q0,q0,q0,q0] qi<|U J<|U J<|U J<|U J<|O _ J<|U J<|U J<|O _ J<|q8 a fun v aq a=>Q2 aq J J<|Qf _ aq J<|U J<|U J<|q8 a fun w ar a=>Q2 ar J J<|Qf _ ar J<|q8 a fun cj au a=>Q2 au J J<|K7 (ds:=[q7 v]) v au J J J J J J J J (leb J) J<|q8 a fun ck av a=>Q2 av qg J<|K7 (ds:=[q7 w]) w av J J J J J J J J (leb J) J<|qa<|qf<|qe<|U J<|U J<|O _ J<|O _ J<|qa<|q8 a fun bs m a=>?_;refine Yu (fun p=>p = bs) (fun p=>⟨[(0,.hs 0 1 0 p.length),(1,q9 h),(2,q9 f),(7,q9 g),(8,q9 d.2.1)],[(0,.dat 1 (p.map (eI .i64)))],1⟩) qg ?_ ?_
    ·refine qm J m (fun _ m=>?_) (fun _ m=>?_)
     ·refine qe<|U J<|O _ J<|qc J<|qa<|q8 m fun bt bu m=>Q7<|Qi (qb7) (fun t=>⟨[(0,.hs 0 1 0 t.2.length),(1,q9 h),(2,q9 f),(7,q9 g),(8,q9 d.2.1),(9,q9 t.1)],[(0,.dat 1 (t.2.map (eI .i64)))],1⟩) (w64 (g - 1),(d.2.2.set g.toNat v).set (w64 (g - 1)).toNat w) bt bu (wkE [] [] [] J ⟨⟨_,J,K8 qg J qz (ltd J)⟩,qt J,qt J,qt J,qt J,qt J,trivial⟩ ⟨Qu J J,trivial⟩) ?_;intro t cm b;unfold qb7 at b;refine qf<|qe<|U J<|O _ J<|qa ?_;refine qm J b (fun _ b=>?_) (fun _ b=>?_)
      ·refine ql<|qf<|Q7<|qf<|qf<|Qk [q0,q0,qv 0,q0,q0,q0,q0,qv 0,q0,q0,q0] qi<|U J<|U J<|q8 b fun bv aw b=>Q2 aw J J<|Qf _ aw J<|U J<|U J<|O _ J<|q8 b fun bw ax b=>Q2 ax J J<|Qf _ ax J<|q8 b fun bz ca b=>Q4 (J6 bv bw bz ca) J<|O _ J<|qa ?_;refine qm J b (fun _ b=>?_) (fun _ b=>?_)
       ·refine Qb ?_;refine ⟨_,qo b,fun hm=>?_⟩;subst hm;cases m;exact ⟨_,J,wkA [] [] []⟩
       refine ql<|Qk [Qx 0,q0,Qx 0,q0,qv 0,q0,q0,q0,qv 0,q0,q0,q0,q0,q0,q0,q0,q0,q0] qi<|U J<|U J<|U J<|U J<|O _ J<|U J<|U J<|O _ J<|q8 b fun ay az b=>Q2 az J J<|Qf _ az J<|U J<|U J<|q8 b fun x ba b=>Q2 ba J J<|Qf (q9 x) ba J<|q8 b fun cn bb b=>Q2 bb J J<|K7 (ds:=[q7 ay]) ay bb J J J J J J J J (leb J) J<|q8 b fun co bc b=>Q2 bc qg J<|K7 (ds:=[q7 x]) x bc J J J J J J J J (leb J) J<|qx<|Qq<|qy<|U J<|O _ J<|qc J<|qx<|⟨_,qo b,wkE [] [] [] J ⟨⟨_,J,K8 qg J qz (ltd J)⟩,qt J,qt J,qt J,qt J,qt J,trivial⟩ ⟨Qu J J,trivial⟩⟩
      refine Qb ?_;refine ⟨_,qo b,fun hm=>?_⟩;subst hm;cases m;exact ⟨_,J,wkA [] [] []⟩
     refine ql<|Qj ?_;cases m;exact ⟨_,J,wkE [] [] [] J ⟨⟨_,J,K8 qg J qz (ltd J)⟩,qt J,qt J,qt J,qt J,trivial⟩ ⟨Qu J J,trivial⟩⟩
    intro p hb;subst hb;refine qe<|U J<|U J<|O _ J<|O _ J<|qa ?_;refine qm J a (fun _ a=>?_) (fun _ a=>?_)
    ·refine qe<|U J<|O _ J<|qc J<|qa<|q8 a fun cb cc a=>Q7<|Qi (q7z f g) (fun u=>⟨[(0,.hs 0 1 0 u.2.length),(1,q9 h),(2,q9 f),(7,q9 g),(8,q9 d.2.1),(10,q9 u.1)],[(0,.dat 1 (u.2.map (eI .i64)))],1⟩) (w64 (g + 1),p) cb cc (wkA [] [] []) ?_;intro u cp c;unfold q7z at c;refine qf<|qe<|U J<|U J<|O _ J<|qa ?_;refine qm J c (fun _ c=>?_) (fun _ c=>?_)
     ·refine ql<|qf<|Q7<|qf<|qf<|Qk [q0,q0,qv 0,q0,q0,q0,q0,qv 0,q0,q0,q0] qi<|U J<|U J<|q8 c fun cd bd c=>Q2 bd J J<|Qf _ bd J<|U J<|U J<|O _ J<|q8 c fun ce be c=>Q2 be J J<|Qf _ be J<|q8 c fun cf cg c=>Q4 (J6 cd ce cf cg) J<|O _ J<|qa ?_;refine qm J c (fun _ c=>?_) (fun _ c=>?_)
      ·refine Qb ?_;refine ⟨_,qo c,fun hm=>?_⟩;subst hm;cases a;exact ⟨_,J,wkA [] [] []⟩
      refine ql<|Qk [Qx 0,q0,Qx 0,q0,qv 0,q0,q0,q0,qv 0,q0,q0,q0,q0,q0,q0,q0,q0,q0] qi<|U J<|U J<|U J<|U J<|O _ J<|U J<|U J<|O _ J<|q8 c fun bf bg c=>Q2 bg J J<|Qf _ bg J<|U J<|U J<|q8 c fun y bh c=>Q2 bh J J<|Qf (q9 y) bh J<|q8 c fun cq bi c=>Q2 bi J J<|K7 (ds:=[q7 bf]) bf bi J J J J J J J J (leb J) J<|q8 c fun cr bj c=>Q2 bj qg J<|K7 (ds:=[q7 y]) y bj J J J J J J J J (leb J) J<|qx<|Qq<|qy<|U J<|O _ J<|qc J<|qx<|⟨_,qo c,wkE [] [] [] J ⟨⟨_,J,K8 qg J qz (ltd J)⟩,qt J,qt J,qt J,qt J,qt J,trivial⟩ ⟨Qu J J,trivial⟩⟩
     refine Qb ?_;refine ⟨_,qo c,fun hm=>?_⟩;subst hm;cases a;exact ⟨_,J,wkA [] [] []⟩
    refine ql<|Qj ?_;cases a;exact ⟨_,J,wkA [] [] []⟩
   intro o hb;subst hb;refine qy<|U J<|O _ J<|qc J<|qx<|⟨_,qo k,wkA [] [] []⟩
  refine Qb ?_;refine ⟨_,qo k,fun hm=>?_⟩;subst hm;exact ⟨_,J,wkA [] [] []⟩
 intro s hb;subst hb;refine qe<|qc J<|qs ?_;cases n;exact ⟨.inr J,_,J,wkA [] [] []⟩
theorem q11z (m : List Int) (c : Int) (o : Int) (p : Int) (r : Int × List Int) (d : q80  m c o p = some r) : Ka Tryz.prog tab 153 [.hs 0 1 0 m.length,q9 c,q9 o,q9 p] [(0,.dat 1 (m.map (eI .i64)))] 1 (q9 r.1) [(0,.dat 1 (r.2.map (eI .i64)))] 1:=by
 unfold q80 at d;refine Ky Tryz.func153 J qi qi J<|qe<|qc J<|qa<|qf<|Qk [Qx 0,q0,Qx 0,q0,qv 0,q0,q0,q0,qv 0,q0,q0,q0,q0,q0,q0,q0] qi<|U J<|U J<|U J<|U J<|U J<|U J<|q8 d fun q u d=>Q2 u J J<|Qf _ u J<|U J<|U J<|q8 d fun s v d=>Q2 v J J<|Qf _ v J<|q8 d fun bw w d=>Q2 w J J<|K7 (ds:=[q7 q]) q w J J J J J J J J (leb J) J<|q8 d fun bz x d=>Q2 x qg J<|K7 (ds:=[q7 s]) s x J J J J J J J J (leb J) J<|qu<|U J<|O _ J<|U J<|O _ J<|qc J<|qc J<|qa<|qf<|q8 d fun y bj d=>?_;refine Qm (fun l=>l = y) (fun l=>⟨[(9,q9 l.1)],[(0,.dat 1 (l.2.map (eI .i64)))],1⟩) qg ?_ ?_
 ·refine Qi (q81 c) (fun a=>⟨[(0,.hs 0 1 0 a.2.2.length),(1,q9 c),(9,q9 a.1),(10,q9 a.2.1)],[(0,.dat 1 (a.2.2.map (eI .i64)))],1⟩) (w64 (c + 1),w64 (o - 1),(m.set c.toNat q).set p.toNat s) y bj (wkE [] [] [] J ⟨⟨_,J,K8 qg J qz (ltd J)⟩,qt J,qt J,qt J,trivial⟩ ⟨Qu J J,trivial⟩) ?_;intro a ca b;unfold q81 at b;refine Q7<|qf<|q8 b fun z bk b=>?_;refine Qm (fun k=>k = z) (fun k=>⟨[(0,.hs 0 1 0 a.2.2.length),(1,q9 c),(9,q9 k),(10,q9 a.2.1)],[(0,.dat 1 (a.2.2.map (eI .i64)))],1⟩) qg ?_ ?_
  ·refine Qi (q82 a c) (fun aa=>⟨[(0,.hs 0 1 0 a.2.2.length),(1,q9 c),(9,q9 aa),(10,q9 a.2.1)],[(0,.dat 1 (a.2.2.map (eI .i64)))],1⟩) a.1 z bk (wkA [] [] []) ?_;intro aa cb h;unfold q82 at h;refine qf<|qf<|Qk [q0,q0,q0,qv 0,q0,q0,q0,qv 0,q0,q0,q0,q0,q0,q0,q0] qi<|U J<|U J<|O _ J<|q8 h fun bl f h=>?_;refine Qd 12 (fun A st=>∃ ab ac ad ae af ag ah ai aj ak al,st = A [(43,Q1 bl),(42,al),(41,ak),(40,aj),(39,ai),(38,ah),(37,ag),(36,af),(35,ae),(34,ad),(33,ac),(32,ab)]) ?_ ?_
   ·refine Qa J J f (fun f=>?_) (fun f=>?_)
    ·refine U J<|U J<|q8 f fun bm am f=>Q2 am J J<|Qf _ am J<|U J<|U J<|q8 f fun bn an f=>Q2 an J J<|Qf _ an J<|q8 f fun bo bp f=>Q4 (J6 bm bn bo bp) J<|O _ J<|O _ J<|qa ?_;cases f;exact ⟨_,_,_,_,_,_,_,_,_,_,_,J⟩
    refine qd J<|qd J<|qd J<|qd J<|qd J<|qd J<|qd J<|qd J<|qd J<|qd J<|O _ J<|qa ?_;cases f;exact ⟨_,_,_,_,_,_,_,_,_,_,_,J⟩
   rintro _ ⟨ab,ac,ad,ae,af,ag,ah,ai,aj,ak,al,rfl⟩;refine qa ?_;refine qm J h (fun _ h=>?_) (fun _ h=>?_)
   ·refine ql<|Q7<|qy<|U J<|O _ J<|qc J<|qx<|Qq<|Qj<|⟨_,qo h,wkA [] [] []⟩
   refine Qb ?_;refine ⟨_,qo h,fun hm=>?_⟩;subst hm;exact ⟨_,J,wkA [] [] []⟩
  intro k hb;subst hb;refine qf<|q8 b fun ao bq b=>?_;refine Qm (fun n=>n = ao) (fun n=>⟨[(0,.hs 0 1 0 a.2.2.length),(1,q9 c),(9,q9 k),(10,q9 n)],[(0,.dat 1 (a.2.2.map (eI .i64)))],1⟩) qg ?_ ?_
  ·refine Qi (q83 k a c) (fun ap=>⟨[(0,.hs 0 1 0 a.2.2.length),(1,q9 c),(9,q9 k),(10,q9 ap)],[(0,.dat 1 (a.2.2.map (eI .i64)))],1⟩) a.2.1 ao bq (wkA [] [] []) ?_;intro ap cc j;unfold q83 at j;refine qf<|qf<|Qk [q0,q0,qv 0,q0,q0,q0,qv 0,q0,q0,q0,q0,q0,q0,q0] qi<|U J<|U J<|O _ J<|q8 j fun br g j=>?_;refine Qd 11 (fun A st=>∃ aq ar au av aw ax ay az ba bb,st = A [(59,Q1 br),(58,bb),(57,ba),(56,az),(55,ay),(54,ax),(53,aw),(52,av),(51,au),(50,ar),(49,aq)]) ?_ ?_
   ·refine Qa J J g (fun g=>?_) (fun g=>?_)
    ·refine U J<|U J<|q8 g fun bs bc g=>Q2 bc J J<|Qf _ bc J<|U J<|U J<|q8 g fun bt bd g=>Q2 bd J J<|Qf _ bd J<|q8 g fun bu bv g=>Q4 (J6 bs bt bu bv) J<|O _ J<|qa ?_;cases g;exact ⟨_,_,_,_,_,_,_,_,_,_,J⟩
    refine qd J<|qd J<|qd J<|qd J<|qd J<|qd J<|qd J<|qd J<|qd J<|O _ J<|qa ?_;cases g;exact ⟨_,_,_,_,_,_,_,_,_,_,J⟩
   rintro _ ⟨aq,ar,au,av,aw,ax,ay,az,ba,bb,rfl⟩;refine qa ?_;refine qm J j (fun _ j=>?_) (fun _ j=>?_)
   ·refine ql<|Q7<|qy<|U J<|O _ J<|qc J<|qx<|Qq<|Qj<|⟨_,qo j,wkA [] [] []⟩
   refine Qb ?_;refine ⟨_,qo j,fun hm=>?_⟩;subst hm;exact ⟨_,J,wkA [] [] []⟩
  intro n hb;subst hb;refine qf<|qe<|U J<|U J<|O _ J<|qa ?_;refine qm J b (fun _ b=>?_) (fun _ b=>?_)
  ·refine Qb ?_;refine ⟨_,qo b,fun hm=>?_⟩;subst hm;exact ⟨_,J,wkA [] [] []⟩
  refine ql<|qf<|Qk [Qx 0,q0,Qx 0,q0,qv 0,q0,q0,q0,qv 0,q0,q0,q0,q0,q0,q0,q0] qi<|U J<|U J<|U J<|U J<|U J<|U J<|q8 b fun be bf b=>Q2 bf J J<|Qf _ bf J<|U J<|U J<|q8 b fun t bg b=>Q2 bg J J<|Qf (q9 t) bg J<|q8 b fun cd bh b=>Q2 bh J J<|K7 (ds:=[q7 be]) be bh J J J J J J J J (leb J) J<|q8 b fun ce bi b=>Q2 bi qg J<|K7 (ds:=[q7 t]) t bi J J J J J J J J (leb J) J<|qu<|U J<|O _ J<|qc J<|qa<|qy<|U J<|O _ J<|qc J<|qx<|Qq<|Qj<|⟨_,qo b,wkE [] [] [] J ⟨⟨_,J,K8 qg J qz (ltd J)⟩,qt J,qt J,qt J,trivial⟩ ⟨Qu J J,trivial⟩⟩
 intro l hb;subst hb;refine qe<|U J<|qc J<|qs ?_;cases d;exact ⟨.inr J,_,J,wkA [] [] []⟩
theorem q120 (g : List Int) (b : Int) (s : Int) (k : Int) (r : Int × Bool × List Int) (a : q84  g b s k = some r) : Ka Tryz.prog tab 154 [.hs 0 1 0 g.length,q9 b,q9 s,q9 k] [(0,.dat 1 (g.map (eI .i64)))] 1 (.d (.tup [q7 r.1,.bool r.2.1])) [(0,.dat 1 (r.2.2.map (eI .i64)))] 1:=by
 unfold q84 at a;refine Ky Tryz.func154 J qi qi J<|qe<|qc J<|qc J<|qa<|qf<|Qk [Qx 0,q0,Qx 0,q0,qv 0,q0,q0,q0,qv 0,q0,q0,q0,q0,q0,q0,q0] qi<|U J<|U J<|U J<|U J<|U J<|U J<|q8 a fun h ao a=>Q2 ao J J<|Qf (q9 h) ao J<|U J<|U J<|q8 a fun j ap a=>Q2 ap J J<|Qf (q9 j) ap J<|q8 a fun fs aq a=>Q2 aq J J<|K7 (ds:=[q7 h]) h aq J J J J J J J J (leb J) J<|q8 a fun ft ar a=>Q2 ar qg J<|K7 (ds:=[q7 j]) j ar J J J J J J J J (leb J) J<|qu<|U J<|O (.d (q7 (w64 (b + 1)))) J<|U J<|O (.d (q7 (w64 (s - 1)))) J<|qc J<|qc J<|qa<|qf<|q8 a fun au fe a=>?_;refine Qm (fun l=>l = au) (fun (l : Int)=>⟨[(0,.hs 0 1 0 ((g.set b.toNat h).set k.toNat j).length),(1,q9 b),(10,q9 l),(11,.d (q7 (w64 (s - 1))))],[(0,.dat 1 (((g.set b.toNat h).set k.toNat j).map (eI .i64)))],1⟩) qg ?_ ?_
 ·refine Qi (q85 s g b h k j) (fun (aa : Int)=>⟨[(0,.hs 0 1 0 ((g.set b.toNat h).set k.toNat j).length),(1,q9 b),(10,q9 aa),(11,.d (q7 (w64 (s - 1))))],[(0,.dat 1 (((g.set b.toNat h).set k.toNat j).map (eI .i64)))],1⟩) (w64 (b + 1)) au fe (wkE [] [] [] J ⟨⟨_,J,K8 qg J qz (ltd J)⟩,qt J,qt J,qt J,trivial⟩ ⟨Qu J J,trivial⟩) ?_;intro aa fu t;unfold q85 at t;refine qf<|qf<|Qk [q0,q0,qv 0,q0,q0,q0,qv 0,q0,q0,q0,q0,q0,q0,q0] qi<|U J<|U J<|O (.d (.bool (decide (aa≤(w64 (s - 1)))))) J<|q8 t fun ff m t=>?_;refine Qd 11 (fun A st=>∃ (av aw ax ay az ba bb bc bd be : V),st = A [(43,Q1 ff),(42,be),(41,bd),(40,bc),(39,bb),(38,ba),(37,az),(36,ay),(35,ax),(34,aw),(33,av)]) ?_ ?_
  ·refine Qa J J m (fun m=>?_) (fun m=>?_)
   ·refine U J<|U J<|q8 m fun bf bg m=>Q2 bg J J<|Qf (q9 bf) bg J<|U J<|U J<|q8 m fun bh bi m=>Q2 bi J J<|Qf (q9 bh) bi J<|q8 m fun bj fg m=>Q4 (J6 bf bh bj fg) J<|O (Q1 bj) J<|qa ?_;cases m;exact ⟨_,_,_,_,_,_,_,_,_,_,J⟩
   refine qd J<|qd J<|qd J<|qd J<|qd J<|qd J<|qd J<|qd J<|qd J<|O (Q1 false) J<|qa ?_;cases m;exact ⟨_,_,_,_,_,_,_,_,_,_,J⟩
  rintro _ ⟨av,aw,ax,ay,az,ba,bb,bc,bd,be,rfl⟩;refine qa ?_;refine qm J t (fun _ t=>?_) (fun _ t=>?_)
  ·refine ql<|Q7<|qy<|U J<|O (.d (q7 (w64 (aa + 1)))) J<|qc J<|qx<|Qq<|Qj<|⟨_,qo t,wkA [] [] []⟩
  refine Qb ?_;refine ⟨_,qo t,fun hm=>?_⟩;subst hm;exact ⟨_,J,wkA [] [] []⟩
 intro l hb;subst hb;refine qf<|q8 a fun bk fh a=>?_;refine Qm (fun u=>u = bk) (fun (u : Int)=>⟨[(0,.hs 0 1 0 ((g.set b.toNat h).set k.toNat j).length),(1,q9 b),(10,q9 l),(11,q9 u)],[(0,.dat 1 (((g.set b.toNat h).set k.toNat j).map (eI .i64)))],1⟩) qg ?_ ?_
 ·refine Qi (q86 l g b h k j) (fun (ab : Int)=>⟨[(0,.hs 0 1 0 ((g.set b.toNat h).set k.toNat j).length),(1,q9 b),(10,q9 l),(11,q9 ab)],[(0,.dat 1 (((g.set b.toNat h).set k.toNat j).map (eI .i64)))],1⟩) (w64 (s - 1)) bk fh (wkA [] [] []) ?_;intro ab fv v;unfold q86 at v;refine qf<|qf<|Qk [q0,q0,q0,qv 0,q0,q0,q0,qv 0,q0,q0,q0,q0,q0,q0,q0] qi<|U J<|U J<|O (.d (.bool (decide (l≤ab)))) J<|q8 v fun fi n v=>?_;refine Qd 12 (fun A st=>∃ (bl bm bn bo bp bq br bs bt bu bv : V),st = A [(60,Q1 fi),(59,bv),(58,bu),(57,bt),(56,bs),(55,br),(54,bq),(53,bp),(52,bo),(51,bn),(50,bm),(49,bl)]) ?_ ?_
  ·refine Qa J J n (fun n=>?_) (fun n=>?_)
   ·refine U J<|U J<|q8 n fun bw bz n=>Q2 bz J J<|Qf (q9 bw) bz J<|U J<|U J<|q8 n fun ca cb n=>Q2 cb J J<|Qf (q9 ca) cb J<|q8 n fun ag fj n=>Q4 (J6 bw ca ag fj) J<|O (Q1 (!ag)) J<|O (Q1 (!ag)) J<|qa ?_;cases n;exact ⟨_,_,_,_,_,_,_,_,_,_,_,J⟩
   refine qd J<|qd J<|qd J<|qd J<|qd J<|qd J<|qd J<|qd J<|qd J<|qd J<|O (Q1 false) J<|qa ?_;cases n;exact ⟨_,_,_,_,_,_,_,_,_,_,_,J⟩
  rintro _ ⟨bl,bm,bn,bo,bp,bq,br,bs,bt,bu,bv,rfl⟩;refine qa ?_;refine qm J v (fun _ v=>?_) (fun _ v=>?_)
  ·refine ql<|Q7<|qy<|U J<|O (.d (q7 (w64 (ab - 1)))) J<|qc J<|qx<|Qq<|Qj<|⟨_,qo v,wkA [] [] []⟩
  refine Qb ?_;refine ⟨_,qo v,fun hm=>?_⟩;subst hm;exact ⟨_,J,wkA [] [] []⟩
 intro u hb;subst hb;refine qf<|qe<|U J<|U J<|O (.d (.bool (decide (l > u)))) J<|qa ?_;refine qm J a (fun _ a=>?_) (fun _ a=>?_)
 ·refine qf<|Qk [Qx 0,q0,Qx 0,q0,qv 0,q0,q0,q0,qv 0,q0,q0,q0,q0,q0,q0,q0] qi<|U J<|U J<|U J<|U J<|U J<|U J<|q8 a fun ah cc a=>Q2 cc J J<|Qf (q9 ah) cc J<|U J<|U J<|q8 a fun ai cd a=>Q2 cd J J<|Qf (q9 ai) cd J<|q8 a fun fw ce a=>Q2 ce J J<|K7 (ds:=[q7 ah]) ah ce J J J J J J J J (leb J) J<|q8 a fun fx cf a=>Q2 cf qg J<|K7 (ds:=[q7 ai]) ai cf J J J J J J J J (leb J) J<|qu<|U J<|qc J<|qc J<|qs ?_;cases a;exact ⟨.inr J,_,J,wkA [] [] []⟩
 refine ql<|qf<|Qk [Qx 0,q0,Qx 0,q0,qv 0,q0,q0,q0,qv 0,q0,q0,q0,q0,q0,q0,q0] qi<|U J<|U J<|U J<|U J<|U J<|U J<|q8 a fun ac cg a=>Q2 cg J J<|Qf (q9 ac) cg J<|U J<|U J<|q8 a fun ad ch a=>Q2 ch J J<|Qf (q9 ad) ch J<|q8 a fun fy ci a=>Q2 ci J J<|K7 (ds:=[q7 ac]) ac ci J J J J J J J J (leb J) J<|q8 a fun fz cj a=>Q2 cj qg J<|K7 (ds:=[q7 ad]) ad cj J J J J J J J J (leb J) J<|qu<|U J<|O (.d (q7 (w64 (l + 1)))) J<|qc J<|qu<|U J<|O (.d (q7 (w64 (u - 1)))) J<|qc J<|qa<|qf<|q8 a fun ck fk a=>?_;refine Qm (fun y=>y = ck) (fun (y : Int × List Int)=>⟨[(0,.hs 0 1 0 y.2.length),(1,q9 b),(11,q9 y.1)],[(0,.dat 1 (y.2.map (eI .i64)))],1⟩) qg ?_ ?_
 ·refine Qi (q87 b) (fun (c : Int × Int × List Int)=>⟨[(0,.hs 0 1 0 c.2.2.length),(1,q9 b),(10,q9 c.1),(11,q9 c.2.1)],[(0,.dat 1 (c.2.2.map (eI .i64)))],1⟩) (w64 (l + 1),w64 (u - 1),(((g.set b.toNat h).set k.toNat j).set l.toNat ac).set u.toNat ad) ck fk (wkE [] [] [] J ⟨⟨_,J,K8 qg J qz (ltd J)⟩,qt J,qt J,qt J,trivial⟩ ⟨Qu J J,trivial⟩) ?_;intro c ga f;unfold q87 at f;refine Q7<|qf<|q8 f fun cm fl f=>?_;refine Qm (fun q=>q = cm) (fun (q : Int)=>⟨[(0,.hs 0 1 0 c.2.2.length),(1,q9 b),(10,q9 q),(11,q9 c.2.1)],[(0,.dat 1 (c.2.2.map (eI .i64)))],1⟩) qg ?_ ?_
  ·refine Qi (q88 c b) (fun (ae : Int)=>⟨[(0,.hs 0 1 0 c.2.2.length),(1,q9 b),(10,q9 ae),(11,q9 c.2.1)],[(0,.dat 1 (c.2.2.map (eI .i64)))],1⟩) c.1 cm fl (wkA [] [] []) ?_;intro ae gb w;unfold q88 at w;refine qf<|qf<|Qk [q0,q0,qv 0,q0,q0,q0,qv 0,q0,q0,q0,q0,q0,q0,q0] qi<|U J<|U J<|O (.d (.bool (decide (ae≤c.2.1)))) J<|q8 w fun fm o w=>?_;refine Qd 11 (fun A st=>∃ (cn co cp cq cr cs ct cu cv cw : V),st = A [(112,Q1 fm),(111,cw),(110,cv),(109,cu),(108,ct),(107,cs),(106,cr),(105,cq),(104,cp),(103,co),(102,cn)]) ?_ ?_
   ·refine Qa J J o (fun o=>?_) (fun o=>?_)
    ·refine U J<|U J<|q8 o fun cx cy o=>Q2 cy J J<|Qf (q9 cx) cy J<|U J<|U J<|q8 o fun cz da o=>Q2 da J J<|Qf (q9 cz) da J<|q8 o fun dc fn o=>Q4 (J6 cx cz dc fn) J<|O (Q1 dc) J<|qa ?_;cases o;exact ⟨_,_,_,_,_,_,_,_,_,_,J⟩
    refine qd J<|qd J<|qd J<|qd J<|qd J<|qd J<|qd J<|qd J<|qd J<|O (Q1 false) J<|qa ?_;cases o;exact ⟨_,_,_,_,_,_,_,_,_,_,J⟩
   rintro _ ⟨cn,co,cp,cq,cr,cs,ct,cu,cv,cw,rfl⟩;refine qa ?_;refine qm J w (fun _ w=>?_) (fun _ w=>?_)
   ·refine ql<|Q7<|qy<|U J<|O (.d (q7 (w64 (ae + 1)))) J<|qc J<|qx<|Qq<|Qj<|⟨_,qo w,wkA [] [] []⟩
   refine Qb ?_;refine ⟨_,qo w,fun hm=>?_⟩;subst hm;exact ⟨_,J,wkA [] [] []⟩
  intro q hb;subst hb;refine qf<|q8 f fun dd fo f=>?_;refine Qm (fun z=>z = dd) (fun (z : Int)=>⟨[(0,.hs 0 1 0 c.2.2.length),(1,q9 b),(10,q9 q),(11,q9 z)],[(0,.dat 1 (c.2.2.map (eI .i64)))],1⟩) qg ?_ ?_
  ·refine Qi (q89 q c b) (fun (af : Int)=>⟨[(0,.hs 0 1 0 c.2.2.length),(1,q9 b),(10,q9 q),(11,q9 af)],[(0,.dat 1 (c.2.2.map (eI .i64)))],1⟩) c.2.1 dd fo (wkA [] [] []) ?_;intro af gc x;unfold q89 at x;refine qf<|qf<|Qk [q0,q0,q0,qv 0,q0,q0,q0,qv 0,q0,q0,q0,q0,q0,q0,q0] qi<|U J<|U J<|O (.d (.bool (decide (q≤af)))) J<|q8 x fun fq p x=>?_;refine Qd 12 (fun A st=>∃ (de df dg dh dj dk dl dm dn dp dq : V),st = A [(129,Q1 fq),(128,dq),(127,dp),(126,dn),(125,dm),(124,dl),(123,dk),(122,dj),(121,dh),(120,dg),(119,df),(118,de)]) ?_ ?_
   ·refine Qa J J p (fun p=>?_) (fun p=>?_)
    ·refine U J<|U J<|q8 p fun dr dt p=>Q2 dt J J<|Qf (q9 dr) dt J<|U J<|U J<|q8 p fun du dv p=>Q2 dv J J<|Qf (q9 du) dv J<|q8 p fun aj fr p=>Q4 (J6 dr du aj fr) J<|O (Q1 (!aj)) J<|O (Q1 (!aj)) J<|qa ?_;cases p;exact ⟨_,_,_,_,_,_,_,_,_,_,_,J⟩
    refine qd J<|qd J<|qd J<|qd J<|qd J<|qd J<|qd J<|qd J<|qd J<|qd J<|O (Q1 false) J<|qa ?_;cases p;exact ⟨_,_,_,_,_,_,_,_,_,_,_,J⟩
   rintro _ ⟨de,df,dg,dh,dj,dk,dl,dm,dn,dp,dq,rfl⟩;refine qa ?_;refine qm J x (fun _ x=>?_) (fun _ x=>?_)
   ·refine ql<|Q7<|qy<|U J<|O (.d (q7 (w64 (af - 1)))) J<|qc J<|qx<|Qq<|Qj<|⟨_,qo x,wkA [] [] []⟩
   refine Qb ?_;refine ⟨_,qo x,fun hm=>?_⟩;subst hm;exact ⟨_,J,wkA [] [] []⟩
  intro z hb;subst hb;refine qf<|qe<|U J<|U J<|O (.d (.bool (decide (q > z)))) J<|qa ?_;refine qm J f (fun _ f=>?_) (fun _ f=>?_)
  ·refine Qb ?_;refine ⟨_,qo f,fun hm=>?_⟩;subst hm;exact ⟨_,J,wkA [] [] []⟩
  refine ql<|qf<|Qk [Qx 0,q0,Qx 0,q0,qv 0,q0,q0,q0,qv 0,q0,q0,q0,q0,q0,q0,q0] qi<|U J<|U J<|U J<|U J<|U J<|U J<|q8 f fun ak dw f=>Q2 dw J J<|Qf (q9 ak) dw J<|U J<|U J<|q8 f fun al dx f=>Q2 dx J J<|Qf (q9 al) dx J<|q8 f fun gd dy f=>Q2 dy J J<|K7 (ds:=[q7 ak]) ak dy J J J J J J J J (leb J) J<|q8 f fun ge dz f=>Q2 dz qg J<|K7 (ds:=[q7 al]) al dz J J J J J J J J (leb J) J<|qu<|U J<|O (.d (q7 (w64 (q + 1)))) J<|qc J<|qa<|qy<|U J<|O (.d (q7 (w64 (z - 1)))) J<|qc J<|qx<|Qq<|Qj<|⟨_,qo f,wkE [] [] [] J ⟨⟨_,J,K8 qg J qz (ltd J)⟩,qt J,qt J,qt J,trivial⟩ ⟨Qu J J,trivial⟩⟩
 intro y hb;subst hb;refine qf<|Qk [Qx 0,q0,Qx 0,q0,qv 0,q0,q0,q0,qv 0,q0,q0,q0,q0,q0,q0,q0] qi<|U J<|U J<|U J<|U J<|U J<|U J<|q8 a fun am fa a=>Q2 fa J J<|Qf (q9 am) fa J<|U J<|U J<|q8 a fun an fb a=>Q2 fb J J<|Qf (q9 an) fb J<|q8 a fun gf fc a=>Q2 fc J J<|K7 (ds:=[q7 am]) am fc J J J J J J J J (leb J) J<|q8 a fun gg fd a=>Q2 fd qg J<|K7 (ds:=[q7 an]) an fd J J J J J J J J (leb J) J<|qu<|U J<|qc J<|qc J<|qs ?_;cases a;exact ⟨.inr J,_,J,wkA [] [] []⟩
theorem qp6 (b : Int) (r : Int) (a : q2b b = some r) : Pure Tryz.prog tab 166 [q7 b] (.int .u64 r):=by
 unfold q2b at a;refine Qn Tryz.func166 J qi qi J<|qe<|qc J<|qu<|U J<|O _ J<|q8 a fun c d a=>Q4 (qh7 (IntKind.wrap .u64 b) c d) J<|q8 a fun g f a=>qx1 f J J J<|qc J<|qs ?_;cases a;exact Q6 _ J
theorem qp9 (a : Int) (r : Int) (b : q2c  a = some r) : Ka Tryz.prog tab 167 [.ref 0 1 0 0] [(0,.dat 1 [[.int .u64 a]])] 1 (.d (.int .u64 r)) [(0,.dat 1 [[.int .u64 r]])] 1:=by
 unfold q2c at b;refine Ky Tryz.func167 J qi qi J<|qe<|qc J<|qa<|qf<|Qk [Qx 0,q0,q0,q0,qv 0,q0,q0,qv 0,q0,q0] qi<|U J<|O _ J<|O _ J<|U J<|O _ J<|O _ J<|O _ J<|O _ J<|O _ J<|Q8 0 _ J<|qa<|qf<|Qk [Qx 0,q0,q0,q0,qv 0,q0,q0,qv 0,q0,q0] qi<|U J<|O _ J<|O _ J<|U J<|O _ J<|O _ J<|O _ J<|O _ J<|O _ J<|Q8 0 _ J<|qa<|qf<|Qk [Qx 0,q0,q0,q0,qv 0,q0,q0,qv 0,q0,q0] qi<|U J<|O _ J<|O _ J<|U J<|O _ J<|O _ J<|O _ J<|O _ J ?_;refine O _ J<|Q8 0 _ J<|qu<|U J<|O _ J<|O _ J<|qc J<|qs ?_;cases b;exact ⟨.inr J,_,J,wkA [] [] []⟩
theorem q11o (j : List Int) (b : Int) (g : Int) (r : List Int) (c : q7m  j b g = some r) : Ka Tryz.prog tab 148 [.hs 0 1 0 j.length,q9 b,q9 g] [(0,.dat 1 (j.map (eI .i64)))] 1 (.d (.tup [])) [(0,.dat 1 (r.map (eI .i64)))] 1:=by
 unfold q7m at c;refine Ky Tryz.func148 J qi qi J<|qe<|U J<|U J<|O _ J<|qc J<|qu<|U J<|O _ J<|qa ?_;refine qm J c (fun _ c=>?_) (fun _ c=>?_)
 ·refine qe<|U J<|O _ J<|Qw J J<|Q8 1 _ J<|qu<|U J<|q8 c fun k u c=>Q4 (qp6 (w64 (g - b)) k u) J<|qc J<|qu<|U J<|U J<|O _ J<|O _ J<|O _ J<|O _ J<|qc J<|qa<|q8 c fun v w c=>Q7<|Qi (q7n b g k) (fun f=>⟨[(0,.hs 0 1 0 f.2.1.length),(1,q9 b),(6,.d (q7 (w64 (g - b)))),(7,.ref 1 1 0 0),(8,.d (.int .u64 k)),(9,q9 f.1)],[(0,.dat 1 (f.2.1.map (eI .i64))),(1,.dat 1 [[.int .u64 f.2.2]])],2⟩) (w64 ((w64 (b + (w64 ((w64 (Int.tdiv (w64 (g - b)) 4)) * 2)))) - 1),j,IntKind.wrap .u64 (w64 (g - b))) v w (wkA [(1,1)] [] []) ?_;intro f z a;unfold q7n at a;refine qf<|qe<|U J<|U J<|U J<|O _ J<|O _ J<|O _ J<|O _ J<|O _ J<|qa ?_;refine qm J a (fun _ a=>?_) (fun _ a=>?_)
  ·refine ql<|qf<|Q7<|qe<|q8 a fun l x a=>Kc [(0,1)] [(0,1),(1,0)] _ (.d (.int .u64 l)) 1 [(1,.dat 1 [[.int .u64 l]]),(0,.dat 1 (f.2.1.map (eI .i64)))] 2 (qp9 f.2.2 l x)<|U J<|O _ J<|O _ J<|O _ J<|qc J<|qa<|qf<|qe<|U J<|U J<|O _ J<|qa<|q8 a fun y h a=>?_;refine Yu (fun m=>m = y) (fun m=>⟨[(0,.hs 0 1 0 f.2.1.length),(1,q9 b),(6,.d (q7 (w64 (g - b)))),(7,.ref 1 1 0 0),(8,.d (.int .u64 k)),(9,q9 f.1),(10,q9 m)],[(0,.dat 1 (f.2.1.map (eI .i64))),(1,.dat 1 [[.int .u64 l]])],2⟩) qg ?_ ?_
   ·refine qm J h (fun _ h=>?_) (fun _ h=>?_)
    ·refine qy<|U J<|U J<|O _ J<|qc J<|qx ?_;cases h;exact ⟨_,J,wkA [(1,1)] [] []⟩
    refine ql<|Qj ?_;cases h;exact ⟨_,J,wkA [(1,1)] [] []⟩
   intro m hb;subst hb;refine Qk [Qx 0,q0,Qx 0,q0,qv 0,q0,q0,q0,qv 0,q0,q0,q0,q0,q0,q0,q0,q0,q0,q0,q0] qi<|U J<|U J<|U J<|U J<|U J<|O _ J<|U J<|U J<|U J<|O _ J<|q8 a fun n o a=>Q2 o J J<|Qf _ o J<|U J<|U J<|q8 a fun p q a=>Q2 q J J<|Qf _ q J<|q8 a fun aa s a=>Q2 s J J<|K7 (ds:=[q7 n]) n s J J J J J J J J (leb J) J<|q8 a fun ab t a=>Q2 t qg J<|K7 (ds:=[q7 p]) p t J J J J J J J J (leb J) J<|qx<|Qq<|qy<|U J<|O _ J<|qc J<|qx<|⟨_,qo a,wkE [(1,1)] [] [] J ⟨⟨_,J,K8 qg J qz (ltd J)⟩,qt J,qt J,⟨_,J,.ref J qz (ltd J)⟩,qt J,qt J,trivial⟩ ⟨Qu J J,Qu J J,trivial⟩⟩
  refine Qb ?_;refine ⟨_,qo a,fun hm=>?_⟩;subst hm;cases c;exact ⟨.inl J,_,J,wkA [] [] []⟩
 refine ql<|Qj ?_;cases c;exact ⟨.inl J,_,J,wkA [] [] []⟩
theorem q123 (rec : List Int→Int→Int→Int→Option (List Int)) (hrec : ∀ (n : List Int) (o : Int) (p : Int) (q : Int) (r : List Int),rec n o p q = some r→Ka Tryz.prog tab 135 [.hs 0 1 0 n.length,q9 o,q9 p,q9 q] [(0,.dat 1 (n.map (eI .i64)))] 1 (.d (.tup [])) [(0,.dat 1 (r.map (eI .i64)))] 1) (n : List Int) (o : Int) (p : Int) (q : Int) (r : List Int) (s : q57 rec  n o p q = some r) : Ka Tryz.prog tab 135 [.hs 0 1 0 n.length,q9 o,q9 p,q9 q] [(0,.dat 1 (n.map (eI .i64)))] 1 (.d (.tup [])) [(0,.dat 1 (r.map (eI .i64)))] 1:=by
 unfold q57 at s;refine Ky Tryz.func135 J qi qi J<|qe<|qc J<|qu<|qc J<|qa<|q8 s fun az ba s=>Q7<|Qi (q56 rec) (fun b=>⟨[(0,.hs 0 1 0 b.2.2.2.2.2.length),(1,q9 b.1),(2,q9 b.2.1),(3,q9 b.2.2.1),(8,Q1 b.2.2.2.1),(9,Q1 b.2.2.2.2.1)],[(0,.dat 1 (b.2.2.2.2.2.map (eI .i64)))],1⟩) (o,p,q,true,true,n) az ba (wkA [] [] []) ?_;intro b co a;unfold q56 at a;refine Q7<|qe<|U J<|U J<|O _ J<|qc J<|qa<|qf<|qe<|U J<|O _ J<|qa ?_;refine qm J a (fun _ a=>?_) (fun _ a=>?_)
 ·refine qe<|U J<|U J<|U J<|q8 a fun aa bb a=>q8 a fun cp bc a=>?_;have cq:=Kr bc;refine Kc [(0,0)] [(0,0)] _ (.d (.tup [])) 1 [(0,.dat 1 (aa.map (eI .i64)))] 1 (q11u b.2.2.2.2.2 b.1 b.2.1 aa bb)<|qs ?_;refine ⟨_,qo a,fun hm=>?_⟩;subst hm;cases s;exact ⟨.inr J,_,J,wkA [] [] []⟩
 refine ql<|qf<|qe<|U J<|O _ J<|qa ?_;refine qm J a (fun _ a=>?_) (fun _ a=>?_)
 ·refine qe<|U J<|U J<|U J<|q8 a fun ab bd a=>q8 a fun cr be a=>?_;have cs:=Kr be;refine Kc [(0,0)] [(0,0)] _ (.d (.tup [])) 1 [(0,.dat 1 (ab.map (eI .i64)))] 1 (q11s b.2.2.2.2.2 b.1 b.2.1 ab bd)<|qs ?_;refine ⟨_,qo a,fun hm=>?_⟩;subst hm;cases s;exact ⟨.inr J,_,J,wkA [] [] []⟩
 refine ql<|qf<|qe<|U J<|O _ J<|qa<|q8 a fun bf k a=>?_;refine Yu (fun c=>c = bf) (fun c=>⟨[(0,.hs 0 1 0 c.2.length),(1,q9 b.1),(2,q9 b.2.1),(3,q9 c.1),(8,Q1 b.2.2.2.1),(9,Q1 b.2.2.2.2.1),(10,.d (q7 (w64 (b.2.1 - b.1))))],[(0,.dat 1 (c.2.map (eI .i64)))],1⟩) qg ?_ ?_
 ·refine qm J k (fun _ k=>?_) (fun _ k=>?_)
  ·refine qe<|U J<|U J<|U J<|q8 k fun ac bg k=>q8 k fun ct bh k=>?_;have bi:=Kr bh;refine Kc [(0,0)] [(0,0)] _ (.d (.tup [])) 1 [(0,.dat 1 (ac.map (eI .i64)))] 1 (q11o b.2.2.2.2.2 b.1 b.2.1 ac bg)<|qa<|qy<|U J<|O _ J<|qc J<|qx ?_;cases k;exact ⟨_,J,wkE [] [] [] J ⟨⟨_,J,K8 (by simp [bi]) J qz (ltd J)⟩,qt J,qt J,qt J,qt J,qt J,qt J,trivial⟩ ⟨Qu J J,trivial⟩⟩
  refine ql<|Qj ?_;cases k;exact ⟨_,J,wkA [] [] []⟩
 intro c hb;subst hb;refine qe<|U J<|U J<|U J<|q8 a fun bj bk a=>q3d [.hs 0 1 0 c.2.length,q9 b.1,q9 b.2.1] (q11q c.2 b.1 b.2.1 bj bk) J J (Zu (Z6 J J) (Zu J (Zu J J))) (.inr J)<|U J<|O _ J<|O _ J<|qc J<|qc J<|qa<|qf<|qe<|U J<|O _ J<|qa<|q8 a fun bl l a=>?_;refine Yu (fun g=>g = bl) (fun g=>⟨[(0,.hs 0 1 0 g.2.2.length),(1,q9 b.1),(2,q9 b.2.1),(3,q9 c.1),(8,Q1 b.2.2.2.1),(9,Q1 b.2.2.2.2.1),(10,.d (q7 (w64 (b.2.1 - b.1)))),(11,q9 g.1),(12,q9 g.2.1)],[(0,.dat 1 (g.2.2.map (eI .i64)))],1⟩) qg ?_ ?_
 ·refine qm J l (fun _ l=>?_) (fun _ l=>?_)
  ·refine qe<|U J<|U J<|U J<|q8 l fun ad bm l=>q8 l fun cu bn l=>?_;have bo:=Kr bn;refine Kc [(0,0)] [(0,0)] _ (.d (.tup [])) 1 [(0,.dat 1 (ad.map (eI .i64)))] 1 (q126 c.2 b.1 b.2.1 ad bm)<|qu<|U J<|O _ J<|U J<|U J<|O _ J<|O _ J<|qc J<|qa<|qy<|qc J<|qx ?_;cases l;exact ⟨_,J,wkE [] [] [] J ⟨⟨_,J,K8 (by simp [bo]) J qz (ltd J)⟩,qt J,qt J,qt J,qt J,qt J,qt J,qt J,qt J,trivial⟩ ⟨Qu J J,trivial⟩⟩
  refine ql<|Qj ?_;cases l;exact ⟨_,J,wkA [] [] []⟩
 intro g hb;subst hb;refine qf<|qe<|U J<|q8 a fun bp t a=>?_;refine Qd 3 (fun A st=>∃ ae af,st = A [(64,Q1 bp),(63,af),(62,ae)]) ?_ ?_
 ·refine Qa J J t (fun t=>?_) (fun t=>?_)
  ·refine U J<|O _ J<|qa ?_;cases t;exact ⟨_,_,J⟩
  refine qd J<|O _ J<|qa ?_;cases t;exact ⟨_,_,J⟩
 rintro _ ⟨ae,af,rfl⟩;refine q8 a fun bq u a=>?_;refine Qd 4 (fun A st=>∃ ag ah ai,st = A [(68,Q1 bq),(67,ai),(66,ah),(65,ag)]) ?_ ?_
 ·refine Qa J J u (fun u=>?_) (fun u=>?_)
  ·refine U J<|O _ J<|O _ J<|qa ?_;cases u;exact ⟨_,_,_,J⟩
  refine qd J<|qd J<|O _ J<|qa ?_;cases u;exact ⟨_,_,_,J⟩
 rintro _ ⟨ag,ah,ai,rfl⟩;refine qa<|q8 a fun br f a=>?_;refine Yu (fun m=>.inl m = br) (fun m=>⟨[(0,.hs 0 1 0 m.length),(1,q9 b.1),(2,q9 b.2.1),(3,q9 c.1),(8,Q1 b.2.2.2.1),(9,Q1 b.2.2.2.2.1),(10,.d (q7 (w64 (b.2.1 - b.1)))),(11,q9 g.1)],[(0,.dat 1 (m.map (eI .i64)))],1⟩) qg ?_ ?_
 ·refine qm J f (fun _ f=>?_) (fun _ f=>?_)
  ·refine qe<|U J<|U J<|U J<|q8 f fun w bs f=>q8 f fun cv bt f=>?_;have bu:=Kr bt;refine Kc [(0,0)] [(0,0)] _ (Q1 w.1) 1 [(0,.dat 1 (w.2.map (eI .i64)))] 1 (q11w g.2.2 b.1 b.2.1 w bs)<|qa ?_;refine qm J f (fun _ f=>?_) (fun _ f=>?_)
   ·refine q1g ?_;cases f;refine ⟨_,qo a,fun hm=>?_⟩;subst hm;cases s;exact ⟨.inr J,_,J,wkA [] [] []⟩
   refine ql<|Qj ?_;cases f;exact ⟨_,J,wkE [] [] [] J ⟨⟨_,J,K8 (by simp [bu]) J qz (ltd J)⟩,qt J,qt J,qt J,qt J,qt J,qt J,qt J,trivial⟩ ⟨Qu J J,trivial⟩⟩
  refine ql<|Qj ?_;cases f;exact ⟨_,J,wkA [] [] []⟩
 intro m hb;subst hb;refine qf<|qf<|Qk [q0,q0,q0,qv 0,q0,q0,q0,qv 0,q0,q0,q0,q0,q0,q0,q0] qi<|U J<|O _ J<|q8 a fun bv h a=>?_;refine Qd 13 (fun A st=>∃ aj ak al am an ao ap aq ar au av aw,st = A [(87,Q1 bv),(86,aw),(85,av),(84,au),(83,ar),(82,aq),(81,ap),(80,ao),(79,an),(78,am),(77,al),(76,ak),(75,aj)]) ?_ ?_
 ·refine Qa J J h (fun h=>?_) (fun h=>?_)
  ·refine U J<|U J<|O _ J<|q8 h fun bw ax h=>Q2 ax J J<|Qf _ ax J<|U J<|U J<|q8 h fun bz ay h=>Q2 ay J J<|Qf _ ay J<|q8 h fun ca cb h=>Q4 (J6 bw bz ca cb) J<|O _ J<|O _ J<|qa ?_;cases h;exact ⟨_,_,_,_,_,_,_,_,_,_,_,_,J⟩
  refine qd J<|qd J<|qd J<|qd J<|qd J<|qd J<|qd J<|qd J<|qd J<|qd J<|qd J<|O _ J<|qa ?_;cases h;exact ⟨_,_,_,_,_,_,_,_,_,_,_,_,J⟩
 rintro _ ⟨aj,ak,al,am,an,ao,ap,aq,ar,au,av,aw,rfl⟩;refine qa ?_;refine qm J a (fun _ a=>?_) (fun _ a=>?_)
 ·refine qe<|U J<|U J<|U J<|U J<|q8 a fun x cc a=>q8 a fun cw cd a=>?_;have ce:=Kr cd;refine Kc [(0,0)] [(0,0)] _ (q9 x.1) 1 [(0,.dat 1 (x.2.map (eI .i64)))] 1 (q11z m b.1 b.2.1 g.1 x cc)<|qc J<|qu<|U J<|qc J<|qa<|Qb<|U3<|Qj<|⟨_,qo a,wkE [] [] [] J ⟨⟨_,J,K8 (by simp [ce]) J qz (ltd J)⟩,qt J,qt J,qt J,qt J,qt J,trivial⟩ ⟨Qu J J,trivial⟩⟩
 refine ql<|qe<|U J<|U J<|U J<|U J<|q8 a fun j cf a=>q8 a fun cx cg a=>?_;have v:=Kr cg;refine Kc [(0,0)] [(0,0)] _ (.d (.tup [q7 j.1,.bool j.2.1])) 1 [(0,.dat 1 (j.2.2.map (eI .i64)))] 1 (q120 m b.1 b.2.1 g.1 j cf)<|U J<|O _ J<|O _ J<|qc J<|qc J<|qu<|U J<|qc J<|qu<|U J<|U J<|O _ J<|U J<|U J<|O _ J<|qc J<|qc J<|qu<|U J<|O _ J<|qc J<|qu<|U J<|U J<|O _ J<|qa ?_;refine qm J a (fun _ a=>?_) (fun _ a=>?_)
 ·refine qe<|U J<|U J<|O _ J<|qc J<|qu<|U J<|U J<|U J<|U J<|q8 a fun y ch a=>q8 a fun cy ci a=>?_;have cj:=Kr ci;refine Ua [(0,0)] [(0,0)] [.hs 0 1 0 m.length,q9 b.1,q9 j.1,q9 c.1] (.d (.tup [])) [(0,.dat 1 (y.map (eI .i64)))] [(0,.dat 1 (y.map (eI .i64)))] 1 (hrec j.2.2 b.1 j.1 c.1 y ch) J J J (Yp [(0,0)] [] [] J ⟨⟨_,J,K8 (by simp [v]) J qz (ltd J)⟩,qt J,qt J,qt J,trivial⟩ ⟨Qu J J,trivial⟩) (Yp [(0,0)] [] [] J ⟨qt J,trivial⟩ ⟨Qu J J,trivial⟩) J ⟨.inl J,trivial⟩<|qa<|qy<|U J<|O _ J<|qc J<|qx<|Qq<|Qj<|⟨_,qo a,wkE [] [] [] J ⟨⟨_,J,K8 (by simp [v,cj]) J qz (ltd J)⟩,qt J,qt J,qt J,qt J,qt J,trivial⟩ ⟨Qu J J,trivial⟩⟩
 refine qe<|U J<|U J<|O _ J<|qc J<|qu<|U J<|U J<|O _ J<|U J<|U J<|q8 a fun z ck a=>q8 a fun cz cm a=>?_;have cn:=Kr cm;refine Ua [(0,0)] [(0,0)] [.hs 0 1 0 m.length,.d (q7 (w64 (j.1 + 1))),q9 b.2.1,q9 c.1] (.d (.tup [])) [(0,.dat 1 (z.map (eI .i64)))] [(0,.dat 1 (z.map (eI .i64)))] 1 (hrec j.2.2 (w64 (j.1 + 1)) b.2.1 c.1 z ck) J J J (Yp [(0,0)] [] [] J ⟨⟨_,J,K8 (by simp [v]) J qz (ltd J)⟩,qt J,qt J,qt J,trivial⟩ ⟨Qu J J,trivial⟩) (Yp [(0,0)] [] [] J ⟨qt J,trivial⟩ ⟨Qu J J,trivial⟩) J ⟨.inl J,trivial⟩<|qa<|qy<|U J<|qc J<|qx<|Qq<|Qj<|⟨_,qo a,wkE [] [] [] J ⟨⟨_,J,K8 (by simp [v,cn]) J qz (ltd J)⟩,qt J,qt J,qt J,qt J,qt J,trivial⟩ ⟨Qu J J,trivial⟩⟩
theorem q124 (n : Nat) : ∀ (a : List Int) (b : Int) (c : Int) (f : Int) (r : List Int),q8d n  a b c f = some r→Ka Tryz.prog tab 135 [.hs 0 1 0 a.length,q9 b,q9 c,q9 f] [(0,.dat 1 (a.map (eI .i64)))] 1 (.d (.tup [])) [(0,.dat 1 (r.map (eI .i64)))] 1:=by
 induction n with
 | zero=>intro a b c f r g;cases g
 | succ n ih=>intro a b c f r g;exact q123 (q8d n )   ih a b c f r g
theorem qei (b : List Int) (r : List Int) (a : Ud  b = some r) : Ka Tryz.prog tab 120 [.hs 0 1 0 b.length] [(0,.dat 1 (b.map (eI .i64)))] 1 (.d (.tup [])) [(0,.dat 1 (r.map (eI .i64)))] 1:=by
 unfold Ud at a;refine Ky Tryz.func120 J qi qi J<|qe<|U J<|O _ J<|qc J<|qa<|qy<|U J<|U J<|U J<|O _ J<|q8 a fun f h a=>Q4 (qh7 (IntKind.wrap .u64 (b.length : Int)) f h) J<|q8 a fun g c a=>q8 a fun l j a=>?_;have m:=Kr j;obtain ⟨k,c⟩:=qh2 c;refine Kc [(0,0)] [(0,0)] _ (.d (.tup [])) 1 [(0,.dat 1 (g.map (eI .i64)))] 1 (q124 k b 0 (b.length : Int) f g c)<|qx ?_;cases a;exact ⟨.inl J,_,J,wkA [] [] []⟩
theorem qe9 (c : List Int) (r : (Nat × Nat) × List Int) (d : q1h  c = some r) : Ka Tryz.prog tab 121 [.hs 0 1 0 c.length] [(0,.dat 1 (c.map (eI .i64)))] 1 (.hs 0 1 r.1.1 r.1.2) [(0,.dat 1 (r.2.map (eI .i64)))] 1:=by
 unfold q1h at d;refine Ky Tryz.func121 J qi qi J<|qe<|qc J<|qa<|qf<|qe<|U J<|O _ J<|O _ J<|qa ?_;refine qm J d (fun _ d=>?_) (fun _ d=>?_)
 ·refine qe<|U J<|qc J<|qs ?_;cases d;exact ⟨.inr J,_,J,wkA [] [] []⟩
 refine ql<|qf<|qe<|qc J<|qa<|q8 d fun n z d=>?_;refine Qm (fun k=>.inl k = n) (fun k=>⟨[(0,.hs 0 1 0 c.length)],[(0,.dat 1 (c.map (eI .i64)))],1⟩) qg ?_ ?_
 ·refine Qi (Jr c) (fun l=>⟨[(0,.hs 0 1 0 c.length),(3,q9 l)],[(0,.dat 1 (c.map (eI .i64)))],1⟩) 1 n z (wkA [] [] []) ?_;intro l af a;unfold Jr at a;refine qf<|qe<|U J<|U J<|O _ J<|O _ J<|qa ?_;refine qm J a (fun _ a=>?_) (fun _ a=>?_)
  ·refine ql<|qf<|Q7<|qf<|Qk [q0,qv 0,q0,q0,q0,q0,qv 0,q0,q0,q0] qi<|U J<|U J<|q8 a fun ag o a=>Q2 o J J<|Qf _ o J<|U J<|U J<|O _ J<|q8 a fun ah p a=>Q2 p J J<|Qf _ p J<|O _ J<|qa ?_;refine qm J a (fun _ a=>?_) (fun _ a=>?_)
   ·refine qe<|U J<|U J<|q8 a fun aa ab a=>qa5 ab J J J J J (q9g J) (fun _=>rfl)<|qc J<|qa<|qf<|qe<|qc J<|qa<|q8 a fun q ac a=>?_;refine Qm (fun f=>f = q) (fun f=>⟨[(0,.hs 0 1 0 f.2.length),(3,q9 f.1)],[(0,.dat 1 (f.2.map (eI .i64)))],1⟩) qg ?_ ?_
    ·refine Qi (q29) (fun g=>⟨[(0,.hs 0 1 0 g.2.2.2.length),(3,q9 g.1),(4,.hs 0 1 g.2.1.1 g.2.1.2),(5,q9 g.2.2.1)],[(0,.dat 1 (g.2.2.2.map (eI .i64)))],1⟩) (l,aa,1,c) q ac (wkA [] [] []) ?_;intro g ai h;unfold q29 at h;refine qf<|qe<|U J<|U J<|O _ J<|O _ J<|qa ?_;refine qm J h (fun _ h=>?_) (fun _ h=>?_)
     ·refine ql<|qf<|q8 h fun ad b h=>?_;refine Qm (fun j=>j = ad) (fun j=>⟨[(0,.hs 0 1 0 j.2.2.length),(3,q9 j.1),(4,.hs 0 1 j.2.1.1 j.2.1.2),(5,q9 g.2.2.1)],[(0,.dat 1 (j.2.2.map (eI .i64)))],1⟩) qg ?_ ?_
      ·refine qf<|Qk [q0,qv 0,q0,q0,q0,q0,qv 0,q0,q0,q0] qi<|U J<|U J<|q8 b fun aj s b=>qhk s J J J J J J<|Qf _ (qgv s) J<|U J<|U J<|O _ J<|q8 b fun ak t b=>qhk t J J J J J J<|Qf _ (qgv t) J<|O _ J<|qa ?_;refine qm J b (fun _ b=>?_) (fun _ b=>?_)
       ·refine qe<|U J<|U J<|U J<|U J<|q8 b fun u v b=>qhk v J J J J J J<|Qf _ (qgv v) J<|q8 b fun al x b=>Q2 x J J<|K7 (ds:=[q7 u]) u x J J J J J J J J (leb J) J<|qa<|qy<|U J<|O _ J<|qc J<|qx ?_;cases b;exact ⟨_,J,wkE [] [] [] J ⟨⟨_,J,K8 qg J qz (ltd J)⟩,qt J,⟨_,J,.hs J qz (ltd J)⟩,qt J,trivial⟩ ⟨Qu J J,trivial⟩⟩
       refine ql<|Qj ?_;cases b;exact ⟨_,J,wkA [] [] []⟩
      intro j hb;subst hb;refine qy<|U J<|O _ J<|qc J<|qx<|⟨_,qo h,wkA [] [] []⟩
     refine Qb ?_;refine ⟨_,qo h,fun hm=>?_⟩;subst hm;exact ⟨_,J,wkA [] [] []⟩
    intro f hb;subst hb;refine qe<|U J<|U J<|q8 a fun y m a=>qa5 m J J J J J (q9g J) (fun _=>rfl)<|qwm (w:=y) (xs:=f.2) (enc:=(eI .i64)) 0 (qby m) J J J J J J J ?_;have am:=@qkf _ f.2 y 0 (qby m);refine qu<|U J<|U J<|q8 a fun an ae a=>qa5 ae J J J J J (fun _=>rfl) (q9g J)<|qc J<|qs ?_;refine ⟨_,qo a,fun hm=>?_⟩;subst hm;cases d;exact ⟨.inr J,_,J,wkA [] [] []⟩
   refine ql<|Qj<|Qq<|qy<|U J<|O _ J<|qc J<|qx<|⟨_,qo a,wkA [] [] []⟩
  refine Qb ?_;refine ⟨_,qo a,fun hm=>?_⟩;subst hm;exact ⟨_,J,wkA [] [] []⟩
 intro k hb;subst hb;refine qe<|U J<|qc J<|qs ?_;cases d;exact ⟨.inr J,_,J,wkA [] [] []⟩
theorem q11h (b : List qj) (g : qj→Option Bool) (p1F : FuncId) (p1C : List DV) (p1Ok : ∀ (c : qj) (r : Bool),g c = some r→Pure Tryz.prog tab p1F ([.agg [q7 c.X0,q7 c.Y0,q7 c.X1,q7 c.Y1]] ++ p1C) (.bool r)) (r : Int) (f : qeg b g = some r) : Pure Tryz.prog tab 137 [.sl 4 (b.map Q5),.fn p1F p1C] (q7 r):=by
 unfold qeg at f;refine Qn Tryz.func137 J qi qi J<|qe<|qc J<|qa<|qf<|qe<|U J<|Qp J<|U J<|qa<|q8 f fun j l f=>?_;refine Qm (fun h=>.inl h = j) (fun h=>⟨[],[],0⟩) qg ?_ ?_
 ·refine Qi (q4z b g) (fun k=>⟨[(0,.d (.sl 4 (b.map Q5))),(1,.d (.fn p1F p1C)),(7,q9 (b.length : Int)),(8,q9 k)],[],0⟩) 0 j l (wkA [] [] []) ?_;intro k q a;unfold q4z at a;refine qe<|O _ J<|qa<|qf ?_;refine qm J a (fun _ a=>?_) (fun _ a=>?_)
  ·refine ql<|qf<|Q7<|qe<|U J<|qc J<|qu<|U J<|U J<|U J<|q8 a fun m n a=>Qe n J<|O _ J<|q8 a fun o p a=>Yn _ (p1Ok m o p) J J J (.inl J)<|qa ?_;refine qm J a (fun _ a=>?_) (fun _ a=>?_)
   ·refine qe<|U J<|qc J<|qs ?_;refine ⟨_,qo a,fun hm=>?_⟩;subst hm;cases f;exact Q6 _ J
   refine ql<|Qj<|Qq<|qy<|O _ J<|U J<|qx<|⟨_,qo a,wkA [] [] []⟩
  refine Qb ?_;refine ⟨_,qo a,fun hm=>?_⟩;subst hm;exact ⟨_,J,wkA [] [] []⟩
 intro h hb;subst hb;refine qe<|qc J<|qs ?_;cases f;exact Q6 _ J
theorem q119 (c : List qj) (d : qj→Option Bool) (p1F : FuncId) (p1C : List DV) (p1Ok : ∀ (a : qj) (r : Bool),d a = some r→Pure Tryz.prog tab p1F ([.agg [q7 a.X0,q7 a.Y0,q7 a.X1,q7 a.Y1]] ++ p1C) (.bool r)) (r : Bool) (b : qap c d = some r) : Pure Tryz.prog tab 123 [.sl 4 (c.map Q5),.fn p1F p1C] (.bool r):=by
 unfold qap at b;refine Qn Tryz.func123 J qi qi J<|qe<|qc J<|qu<|U J<|U J<|q8 b fun f g b=>Q4 (q11h c d p1F p1C p1Ok f g) J<|O _ J<|qc J<|qs ?_;cases b;exact Q6 _ J
theorem qe0 (c : Int) (r : Bool) (b : q3j c = some r) : Pure Tryz.prog tab 138 [q7 c] (.bool r):=by
 unfold q3j at b;refine Qn Tryz.func138 J qi qi J<|qe<|qc J<|qu<|U J<|O _ J<|q8 b fun h a b=>?_;refine Qd 4 (fun A st=>∃ d f g,st = A [(8,Q1 h),(7,g),(6,f),(5,d)]) ?_ ?_
 ·refine Qa J J a (fun a=>?_) (fun a=>?_)
  ·refine U J<|O _ J<|O _ J<|qa ?_;cases a;exact ⟨_,_,_,J⟩
  refine qd J<|qd J<|O _ J<|qa ?_;cases a;exact ⟨_,_,_,J⟩
 rintro _ ⟨d,f,g,rfl⟩;refine qc J<|qs ?_;cases b;exact Q6 _ J
theorem qoc (b : qj) (r : Bool) (a : q7b b = some r) : Pure Tryz.prog tab 125 [.agg [q7 b.X0,q7 b.Y0,q7 b.X1,q7 b.Y1]] (.bool r):=by
 unfold q7b at a;refine Qn Tryz.func125 J qi qi J<|qe<|Ql _ _ J<|qc J<|qu<|O _ J<|O _ J<|O _ J<|O _ J<|O _ J<|q8 a fun c1 h a=>?_;refine Qd 7 (fun A st=>∃ j k l m n o,st = A [(14,Q1 c1),(13,o),(12,n),(11,m),(10,l),(9,k),(8,j)]) ?_ ?_
 ·refine Qa J J h (fun h=>?_) (fun h=>?_)
  ·refine O _ J<|O _ J<|O _ J<|O _ J<|O _ J<|O _ J<|qa ?_;cases h;exact ⟨_,_,_,_,_,_,J⟩
  refine qd J<|qd J<|qd J<|qd J<|qd J<|O _ J<|qa ?_;cases h;exact ⟨_,_,_,_,_,_,J⟩
 rintro _ ⟨j,k,l,m,n,o,rfl⟩;refine q8 a fun ah c a=>?_;refine Qd 5 (fun A st=>∃ p q s t,st = A [(19,Q1 ah),(18,t),(17,s),(16,q),(15,p)]) ?_ ?_
 ·refine Qa J J c (fun c=>?_) (fun c=>?_)
  ·refine O _ J<|O _ J<|q8 c fun ai aj c=>Q4 (qe0 b.X0 ai aj) J<|O _ J<|qa ?_;cases c;exact ⟨_,_,_,_,J⟩
  refine qd J<|qd J<|qd J<|O _ J<|qa ?_;cases c;exact ⟨_,_,_,_,J⟩
 rintro _ ⟨p,q,s,t,rfl⟩;refine q8 a fun ak d a=>?_;refine Qd 5 (fun A st=>∃ u v w x,st = A [(24,Q1 ak),(23,x),(22,w),(21,v),(20,u)]) ?_ ?_
 ·refine Qa J J d (fun d=>?_) (fun d=>?_)
  ·refine O _ J<|O _ J<|q8 d fun al am d=>Q4 (qe0 b.X1 al am) J<|O _ J<|qa ?_;cases d;exact ⟨_,_,_,_,J⟩
  refine qd J<|qd J<|qd J<|O _ J<|qa ?_;cases d;exact ⟨_,_,_,_,J⟩
 rintro _ ⟨u,v,w,x,rfl⟩;refine q8 a fun an f a=>?_;refine Qd 5 (fun A st=>∃ y z aa ab,st = A [(29,Q1 an),(28,ab),(27,aa),(26,z),(25,y)]) ?_ ?_
 ·refine Qa J J f (fun f=>?_) (fun f=>?_)
  ·refine O _ J<|O _ J<|q8 f fun ao ap f=>Q4 (qe0 b.Y0 ao ap) J<|O _ J<|qa ?_;cases f;exact ⟨_,_,_,_,J⟩
  refine qd J<|qd J<|qd J<|O _ J<|qa ?_;cases f;exact ⟨_,_,_,_,J⟩
 rintro _ ⟨y,z,aa,ab,rfl⟩;refine q8 a fun aq g a=>?_;refine Qd 5 (fun A st=>∃ ac ad ae af,st = A [(34,Q1 aq),(33,af),(32,ae),(31,ad),(30,ac)]) ?_ ?_
 ·refine Qa J J g (fun g=>?_) (fun g=>?_)
  ·refine O _ J<|O _ J<|q8 g fun ar au g=>Q4 (qe0 b.Y1 ar au) J<|O _ J<|qa ?_;cases g;exact ⟨_,_,_,_,J⟩
  refine qd J<|qd J<|qd J<|O _ J<|qa ?_;cases g;exact ⟨_,_,_,_,J⟩
 rintro _ ⟨ac,ad,ae,af,rfl⟩;refine qc J<|qs ?_;cases a;exact Q6 _ J
theorem qz6 (a : qj) (r : Bool) (b : q3i a = some r) : Pure Tryz.prog tab 124 [.agg [q7 a.X0,q7 a.Y0,q7 a.X1,q7 a.Y1]] (.bool r):=by
 unfold q3i at b;refine Qn Tryz.func124 J qi qi J<|qe<|Ql _ _ J<|qc J<|qu<|O _ J<|q8 b fun c d b=>Q4 (qoc a c d) J<|O _ J<|qc J<|qs ?_;cases b;exact Q6 _ J
theorem q11k (b : List qn) (f : qn→Option Bool) (p1F : FuncId) (p1C : List DV) (p1Ok : ∀ (g : qn) (r : Bool),f g = some r→Pure Tryz.prog tab p1F ([.agg [q7 g.Lo,q7 g.Hi]] ++ p1C) (.bool r)) (r : Int) (c : qau b f = some r) : Pure Tryz.prog tab 171 [.sl 2 (b.map Qo),.fn p1F p1C] (q7 r):=by
 unfold qau at c;refine Qn Tryz.func171 J qi qi J<|qe<|qc J<|qa<|qf<|qe<|U J<|Qp J<|U J<|qa<|q8 c fun j l c=>?_;refine Qm (fun h=>.inl h = j) (fun h=>⟨[],[],0⟩) qg ?_ ?_
 ·refine Qi (q3o b f) (fun k=>⟨[(0,.d (.sl 2 (b.map Qo))),(1,.d (.fn p1F p1C)),(7,q9 (b.length : Int)),(8,q9 k)],[],0⟩) 0 j l (wkA [] [] []) ?_;intro k q a;unfold q3o at a;refine qe<|O _ J<|qa<|qf ?_;refine qm J a (fun _ a=>?_) (fun _ a=>?_)
  ·refine ql<|qf<|Q7<|qe<|U J<|qc J<|qu<|U J<|U J<|U J<|q8 a fun m n a=>Qe n J<|O _ J<|q8 a fun o p a=>Yn _ (p1Ok m o p) J J J (.inl J)<|qa ?_;refine qm J a (fun _ a=>?_) (fun _ a=>?_)
   ·refine qe<|U J<|qc J<|qs ?_;refine ⟨_,qo a,fun hm=>?_⟩;subst hm;cases c;exact Q6 _ J
   refine ql<|Qj<|Qq<|qy<|O _ J<|U J<|qx<|⟨_,qo a,wkA [] [] []⟩
  refine Qb ?_;refine ⟨_,qo a,fun hm=>?_⟩;subst hm;exact ⟨_,J,wkA [] [] []⟩
 intro h hb;subst hb;refine qe<|qc J<|qs ?_;cases c;exact Q6 _ J
theorem q11b (b : List qn) (c : qn→Option Bool) (p1F : FuncId) (p1C : List DV) (p1Ok : ∀ (d : qn) (r : Bool),c d = some r→Pure Tryz.prog tab p1F ([.agg [q7 d.Lo,q7 d.Hi]] ++ p1C) (.bool r)) (r : Bool) (a : qar b c = some r) : Pure Tryz.prog tab 158 [.sl 2 (b.map Qo),.fn p1F p1C] (.bool r):=by
 unfold qar at a;refine Qn Tryz.func158 J qi qi J<|qe<|qc J<|qu<|U J<|U J<|q8 a fun f g a=>Q4 (q11k b c p1F p1C p1Ok f g) J<|O _ J<|qc J<|qs ?_;cases a;exact Q6 _ J
theorem qpv (d : qn) (r : Bool) (a : q3v d = some r) : Pure Tryz.prog tab 143 [.agg [q7 d.Lo,q7 d.Hi]] (.bool r):=by
 unfold q3v at a;refine Qn Tryz.func143 J qi qi J<|qe<|Ql _ _ J<|qc J<|qu<|O _ J<|O _ J<|O _ J<|O _ J<|O _ J<|q8 a fun o b a=>?_;refine Qd 5 (fun A st=>∃ f g h j,st = A [(12,Q1 o),(11,j),(10,h),(9,g),(8,f)]) ?_ ?_
 ·refine Qa J J b (fun b=>?_) (fun b=>?_)
  ·refine O _ J<|O _ J<|O _ J<|O _ J<|qa ?_;cases b;exact ⟨_,_,_,_,J⟩
  refine qd J<|qd J<|qd J<|O _ J<|qa ?_;cases b;exact ⟨_,_,_,_,J⟩
 rintro _ ⟨f,g,h,j,rfl⟩;refine q8 a fun p c a=>?_;refine Qd 5 (fun A st=>∃ k l m n,st = A [(17,Q1 p),(16,n),(15,m),(14,l),(13,k)]) ?_ ?_
 ·refine Qa J J c (fun c=>?_) (fun c=>?_)
  ·refine O _ J<|O _ J<|O _ J<|O _ J<|qa ?_;cases c;exact ⟨_,_,_,_,J⟩
  refine qd J<|qd J<|qd J<|O _ J<|qa ?_;cases c;exact ⟨_,_,_,_,J⟩
 rintro _ ⟨k,l,m,n,rfl⟩;refine qc J<|qs ?_;cases a;exact Q6 _ J
theorem q14n (a : qn) (r : Bool) (b : qeq a = some r) : Pure Tryz.prog tab 159 [.agg [q7 a.Lo,q7 a.Hi]] (.bool r):=by
 unfold qeq at b;refine Qn Tryz.func159 J qi qi J<|qe<|Ql _ _ J<|qc J<|qu<|O _ J<|q8 b fun c d b=>Q4 (qpv a c d) J<|O _ J<|qc J<|qs ?_;cases b;exact Q6 _ J
theorem q14t (a : qq) (b : qq) (r : Int) (c : qbu a b = some r) : Pure Tryz.prog tab 163 [.agg [q7 a.at_,q7 a.list_,q7 a.by_],.agg [q7 b.at_,q7 b.list_,q7 b.by_]] (q7 r):=by
 unfold qbu at c;refine Qn Tryz.func163 J qi qi J<|qe<|Ql _ _ J<|Ql _ _ J<|qc J<|qu<|O _ J<|O _ J<|O _ J<|O _ J<|O _ J<|qc J<|qs ?_;cases c;exact Q6 _ J
theorem q11t (k : qq→qq→Option Int) (q1F : FuncId) (q1C : List DV) (q1Ok : ∀ (l : qq) (m : qq) (r : Int),k l m = some r→Pure Tryz.prog tab q1F ([.agg [q7 l.at_,q7 l.list_,q7 l.by_],.agg [q7 m.at_,q7 m.list_,q7 m.by_]] ++ q1C) (q7 r)) (n : List qq) (c : Int) (h : Int) (r : List qq) (o : qb1 k n c h = some r) : Ka Tryz.prog tab 175 [.hs 0 3 0 n.length,q9 c,q9 h,.d (.fn q1F q1C)] [(0,.dat 3 (n.map Qs))] 1 (.d (.tup [])) [(0,.dat 3 (r.map Qs))] 1:=by
 unfold qb1 at o;refine Ky Tryz.func175 J qi qi J<|qe<|U J<|O _ J<|qc J<|qa<|q8 o fun al am o=>Q7<|Qi (qb2 h c k) (fun f=>⟨[(0,.hs 0 3 0 f.2.length),(1,q9 c),(2,q9 h),(3,.d (.fn q1F q1C)),(8,q9 f.1)],[(0,.dat 3 (f.2.map Qs))],1⟩) (w64 (c + 1),n) al am (wkA [] [] []) ?_;intro f az g;unfold qb2 at g;refine qf<|qe<|U J<|U J<|O _ J<|qa ?_;refine qm J g (fun _ g=>?_) (fun _ g=>?_)
 ·refine ql<|qf<|q8 g fun an q g=>?_;refine Qm (fun j=>j = an) (fun j=>⟨[(0,.hs 0 3 0 j.length),(1,q9 c),(2,q9 h),(3,.d (.fn q1F q1C)),(8,q9 f.1)],[(0,.dat 3 (j.map Qs))],1⟩) qg ?_ ?_
  ·refine qe<|U J<|qc J<|qa<|q8 q fun ao ap q=>Q7<|Qi (qb3 c k) (fun p=>⟨[(0,.hs 0 3 0 p.2.length),(1,q9 c),(2,q9 h),(3,.d (.fn q1F q1C)),(8,q9 f.1),(9,q9 p.1)],[(0,.dat 3 (p.2.map Qs))],1⟩) (f.1,f.2) ao ap (wkA [] [] []) ?_;intro p ba a;unfold qb3 at a;refine qf<|qf<|Qk [q0,q0,q0,qv 0,q0,q0,q0,q0,qv 0,q0,q0,q0,q0,q0,q0,q0,q0] qi<|U J<|U J<|O _ J<|q8 a fun aq b a=>?_;refine Qd 14 (fun A st=>∃ s t u v w x y z aa ab ac ad ae,st = A [(34,Q1 aq),(33,ae),(32,ad),(31,ac),(30,ab),(29,aa),(28,z),(27,y),(26,x),(25,w),(24,v),(23,u),(22,t),(21,s)]) ?_ ?_
   ·refine Qa J J b (fun b=>?_) (fun b=>?_)
    ·refine U J<|U J<|U J<|q8 b fun ar af b=>Q2 af J J<|Qf _ af J<|U J<|U J<|O _ J<|q8 b fun au ag b=>Q2 ag J J<|Qf _ ag J<|q8 b fun av aw b=>Yn _ (q1Ok ar au av aw) J J J (.inl J)<|O _ J<|O _ J<|qa ?_;cases b;exact ⟨_,_,_,_,_,_,_,_,_,_,_,_,_,J⟩
    refine qd J<|qd J<|qd J<|qd J<|qd J<|qd J<|qd J<|qd J<|qd J<|qd J<|qd J<|qd J<|O _ J<|qa ?_;cases b;exact ⟨_,_,_,_,_,_,_,_,_,_,_,_,_,J⟩
   rintro _ ⟨s,t,u,v,w,x,y,z,aa,ab,ac,ad,ae,rfl⟩;refine qa ?_;refine qm J a (fun _ a=>?_) (fun _ a=>?_)
   ·refine ql<|qf<|Q7<|Qk [Qx 0,q0,Qx 0,q0,qv 0,q0,q0,q0,qv 0,q0,q0,q0,q0,q0,q0,q0,q0,q0] qi<|U J<|U J<|U J<|U J<|O _ J<|U J<|U J<|O _ J<|q8 a fun ax ah a=>Q2 ah J J<|Qf _ ah J<|U J<|U J<|q8 a fun ay ai a=>Q2 ai J J<|Qf _ ai J<|q8 a fun bb aj a=>Q2 aj J J<|K7 ax aj J J J J J J J J (leb J) J<|q8 a fun bc ak a=>Q2 ak qg J<|K7 ay ak J J J J J J J J (leb J) J<|qx<|Qq<|qy<|U J<|O _ J<|qc J<|qx<|⟨_,qo a,wkE [] [] [] J ⟨⟨_,J,K8 qg J qz (ltd J)⟩,qt J,qt J,qt J,qt J,qt J,trivial⟩ ⟨Qu J J,trivial⟩⟩
   refine Qb ?_;refine ⟨_,qo a,fun hm=>?_⟩;subst hm;cases q;exact ⟨_,J,wkA [] [] []⟩
  intro j hb;subst hb;refine qy<|U J<|O _ J<|qc J<|qx<|⟨_,qo g,wkA [] [] []⟩
 refine Qb ?_;refine ⟨_,qo g,fun hm=>?_⟩;subst hm;cases o;exact ⟨.inl J,_,J,wkA [] [] []⟩
theorem qp7 (o : qq→qq→Option Int) (q1F : FuncId) (q1C : List DV) (q1Ok : ∀ (k : qq) (l : qq) (r : Int),o k l = some r→Pure Tryz.prog tab q1F ([.agg [q7 k.at_,q7 k.list_,q7 k.by_],.agg [q7 l.at_,q7 l.list_,q7 l.by_]] ++ q1C) (q7 r)) (m : List qq) (p : Int) (f : Int) (g : Int) (r : List qq) (h : q8f o m p f g = some r) : Ka Tryz.prog tab 183 [.hs 0 3 0 m.length,q9 p,q9 f,q9 g,.d (.fn q1F q1C)] [(0,.dat 3 (m.map Qs))] 1 (.d (.tup [])) [(0,.dat 3 (r.map Qs))] 1:=by
 unfold q8f at h;refine Ky Tryz.func183 J qi qi J<|qe<|U J<|qc J<|qa<|q8 h fun aq ar h=>Q7<|Qi (qbl f g o) (fun c=>⟨[(0,.hs 0 3 0 c.2.length),(2,q9 f),(3,q9 g),(4,.d (.fn q1F q1C)),(10,q9 c.1)],[(0,.dat 3 (c.2.map Qs))],1⟩) (p,m) aq ar (wkA [] [] []) ?_;intro c bg a;unfold qbl at a;refine Q7<|qe<|U J<|O _ J<|O _ J<|qc J<|qa<|qf<|qe<|U J<|U J<|O _ J<|qa ?_;refine qm J a (fun _ a=>?_) (fun _ a=>?_)
 ·refine Qb ?_;refine ⟨_,qo a,fun hm=>?_⟩;subst hm;cases h;exact ⟨.inl J,_,J,wkA [] [] []⟩
 refine ql<|qf<|qf<|Qk [q0,q0,q0,qv 0,q0,q0,q0,q0,q0,q0,qv 0,q0,q0,q0,q0,q0,q0,q0,q0,q0,q0,q0] qi<|U J<|O _ J<|U J<|O _ J<|q8 a fun au b a=>?_;refine Qd 18 (fun A st=>∃ q s t u v w x y z aa ab ac ad ae af ag ah,st = A [(40,Q1 au),(39,ah),(38,ag),(37,af),(36,ae),(35,ad),(34,ac),(33,ab),(32,aa),(31,z),(30,y),(29,x),(28,w),(27,v),(26,u),(25,t),(24,s),(23,q)]) ?_ ?_
 ·refine Qa J J b (fun b=>?_) (fun b=>?_)
  ·refine U J<|U J<|U J<|U J<|O _ J<|q8 b fun av ai b=>Q2 ai J J<|Qf _ ai J<|U J<|U J<|U J<|O _ J<|O _ J<|q8 b fun aw aj b=>Q2 aj J J<|Qf _ aj J<|q8 b fun ax ay b=>Yn _ (q1Ok av aw ax ay) J J J (.inl J)<|O _ J<|O _ J<|qa ?_;cases b;exact ⟨_,_,_,_,_,_,_,_,_,_,_,_,_,_,_,_,_,J⟩
  refine qd J<|qd J<|qd J<|qd J<|qd J<|qd J<|qd J<|qd J<|qd J<|qd J<|qd J<|qd J<|qd J<|qd J<|qd J<|qd J<|O _ J<|qa ?_;cases b;exact ⟨_,_,_,_,_,_,_,_,_,_,_,_,_,_,_,_,_,J⟩
 rintro _ ⟨q,s,t,u,v,w,x,y,z,aa,ab,ac,ad,ae,af,ag,ah,rfl⟩;refine qa<|q8 a fun az j a=>?_;refine Yu (fun n=>n = az) (fun n=>⟨[(0,.hs 0 3 0 c.2.length),(2,q9 f),(3,q9 g),(4,.d (.fn q1F q1C)),(10,q9 c.1),(11,q9 n)],[(0,.dat 3 (c.2.map Qs))],1⟩) qg ?_ ?_
 ·refine qm J j (fun _ j=>?_) (fun _ j=>?_)
  ·refine qy<|U J<|O _ J<|qc J<|qx ?_;cases j;exact ⟨_,J,wkA [] [] []⟩
  refine ql<|Qj ?_;cases j;exact ⟨_,J,wkA [] [] []⟩
 intro n hb;subst hb;refine qf<|qf<|Qk [q0,q0,q0,qv 0,q0,q0,q0,q0,q0,qv 0,q0,q0,q0,q0,q0,q0] qi<|U J<|U J<|U J<|U J<|O _ J<|q8 a fun ba ak a=>Q2 ak J J<|Qf _ ak J<|U J<|U J<|U J<|O _ J<|q8 a fun bb al a=>Q2 al J J<|Qf _ al J<|q8 a fun bc bd a=>Yn _ (q1Ok ba bb bc bd) J J J (.inl J)<|O _ J<|O _ J<|qa ?_;refine qm J a (fun _ a=>?_) (fun _ a=>?_)
 ·refine q1g ?_;refine ⟨_,qo a,fun hm=>?_⟩;subst hm;cases h;exact ⟨.inr J,_,J,wkA [] [] []⟩
 refine ql<|qf<|Qk [Qx 0,q0,Qx 0,q0,qv 0,q0,q0,q0,q0,q0,qv 0,q0,q0,q0,q0,q0,q0,q0,q0,q0,q0,q0,q0,q0] qi<|U J<|U J<|U J<|O _ J<|U J<|U J<|U J<|O _ J<|U J<|U J<|U J<|O _ J<|q8 a fun be am a=>Q2 am J J<|Qf _ am J<|U J<|U J<|U J<|O _ J<|q8 a fun bf an a=>Q2 an J J<|Qf _ an J<|q8 a fun bh ao a=>Q2 ao J J<|K7 be ao J J J J J J J J (leb J) J<|q8 a fun bi ap a=>Q2 ap qg J<|K7 bf ap J J J J J J J J (leb J) J<|qa<|qy<|U J<|qc J<|qx<|Qq<|Qj<|⟨_,qo a,wkE [] [] [] J ⟨⟨_,J,K8 qg J qz (ltd J)⟩,qt J,qt J,qt J,qt J,trivial⟩ ⟨Qu J J,trivial⟩⟩
theorem q11r (h : qq→qq→Option Int) (q1F : FuncId) (q1C : List DV) (q1Ok : ∀ (m : qq) (n : qq) (r : Int),h m n = some r→Pure Tryz.prog tab q1F ([.agg [q7 m.at_,q7 m.list_,q7 m.by_],.agg [q7 n.at_,q7 n.list_,q7 n.by_]] ++ q1C) (q7 r)) (o : List qq) (b : Int) (g : Int) (r : List qq) (j : qay h o b g = some r) : Ka Tryz.prog tab 176 [.hs 0 3 0 o.length,q9 b,q9 g,.d (.fn q1F q1C)] [(0,.dat 3 (o.map Qs))] 1 (.d (.tup [])) [(0,.dat 3 (r.map Qs))] 1:=by
 unfold qay at j;refine Ky Tryz.func176 J qi qi J<|qe<|U J<|qc J<|qu<|qc J<|qu<|U J<|U J<|O _ J<|qc J<|qa<|qf<|qe<|U J<|O _ J<|O _ J<|qc J<|qa<|q8 j fun q z j=>?_;refine Qm (fun k=>k = q) (fun k=>⟨[(0,.hs 0 3 0 k.length),(3,.d (.fn q1F q1C)),(8,q9 b),(9,q9 0),(10,.d (q7 (w64 (g - b))))],[(0,.dat 3 (k.map Qs))],1⟩) qg ?_ ?_
 ·refine Qi (qaz h g b) (fun l=>⟨[(0,.hs 0 3 0 l.2.length),(3,.d (.fn q1F q1C)),(8,q9 b),(9,q9 0),(10,.d (q7 (w64 (g - b)))),(11,q9 l.1)],[(0,.dat 3 (l.2.map Qs))],1⟩) (w64 (Int.tdiv (w64 ((w64 (g - b)) - 1)) 2),o) q z (wkA [] [] []) ?_;intro l ai c;unfold qaz at c;refine qf<|qe<|U J<|O _ J<|qa ?_;refine qm J c (fun _ c=>?_) (fun _ c=>?_)
  ·refine ql<|qf<|Q7<|qy<|U J<|U J<|U J<|U J<|U J<|q8 c fun s aa c=>q8 c fun aj ab c=>?_;have ac:=Kr ab;refine Kc [(0,0)] [(0,0)] _ (.d (.tup [])) 1 [(0,.dat 3 (s.map Qs))] 1 (qp7 h q1F q1C q1Ok l.2 l.1 (w64 (g - b)) b s aa)<|qx<|Qq<|qy<|U J<|O _ J<|qc J<|qx<|⟨_,qo c,wkE [] [] [] J ⟨⟨_,J,K8 (by simp [ac]) J qz (ltd J)⟩,qt J,qt J,qt J,qt J,qt J,trivial⟩ ⟨Qu J J,trivial⟩⟩
  refine Qb ?_;refine ⟨_,qo c,fun hm=>?_⟩;subst hm;exact ⟨_,J,wkA [] [] []⟩
 intro k hb;subst hb;refine qe<|U J<|O _ J<|qc J<|qa<|q8 j fun ad ae j=>Q7<|Qi (qb0 b h) (fun f=>⟨[(0,.hs 0 3 0 f.2.length),(3,.d (.fn q1F q1C)),(8,q9 b),(9,q9 0),(12,q9 f.1)],[(0,.dat 3 (f.2.map Qs))],1⟩) (w64 ((w64 (g - b)) - 1),k) ad ae (wkA [] [] []) ?_;intro f ak a;unfold qb0 at a;refine qf<|qe<|U J<|O _ J<|qa ?_;refine qm J a (fun _ a=>?_) (fun _ a=>?_)
 ·refine ql<|qf<|Q7<|qf<|Qk [Qx 0,q0,Qx 0,q0,qv 0,q0,q0,q0,qv 0,q0,q0,q0,q0,q0,q0,q0,q0,q0,q0,q0] qi<|U J<|U J<|U J<|U J<|U J<|O _ J<|U J<|U J<|U J<|O _ J<|q8 a fun t u a=>Q2 u J J<|Qf _ u J<|U J<|U J<|q8 a fun v w a=>Q2 w J J<|Qf _ w J<|q8 a fun al x a=>Q2 x J J<|K7 t x J J J J J J J J (leb J) J<|q8 a fun am y a=>Q2 y qg J<|K7 v y J J J J J J J J (leb J) J<|qa<|qy<|U J<|U J<|U J<|U J<|U J<|q8 a fun p af a=>q8 a fun an ag a=>?_;have ah:=Kr ag;refine Ua [(0,0)] [(0,0)] [.hs 0 3 0 f.2.length,q9 0,q9 f.1,q9 b,.d (.fn q1F q1C)] (.d (.tup [])) [(0,.dat 3 (p.map Qs))] [(0,.dat 3 (p.map Qs))] 1 (qp7 h q1F q1C q1Ok ((f.2.set b.toNat t).set (w64 (b + f.1)).toNat v) 0 f.1 b p af) J J J (Yp [(0,0)] [] [] J ⟨⟨_,J,K8 qg J qz (ltd J)⟩,qt J,qt J,qt J,qt J,trivial⟩ ⟨Qu J J,trivial⟩) (Yp [(0,0)] [] [] J ⟨qt J,trivial⟩ ⟨Qu J J,trivial⟩) J ⟨.inl J,trivial⟩<|qx<|Qq<|qy<|U J<|O _ J<|qc J<|qx<|⟨_,qo a,wkE [] [] [] J ⟨⟨_,J,K8 (by simp [ah]) J qz (ltd J)⟩,qt J,qt J,qt J,qt J,trivial⟩ ⟨Qu J J,trivial⟩⟩
 refine Qb ?_;refine ⟨_,qo a,fun hm=>?_⟩;subst hm;cases j;exact ⟨.inl J,_,J,wkA [] [] []⟩
theorem qik (f : qq→qq→Option Int) (q1F : FuncId) (q1C : List DV) (q1Ok : ∀ (b : qq) (c : qq) (r : Int),f b c = some r→Pure Tryz.prog tab q1F ([.agg [q7 b.at_,q7 b.list_,q7 b.by_],.agg [q7 c.at_,q7 c.list_,q7 c.by_]] ++ q1C) (q7 r)) (g : List qq) (h : Int) (j : Int) (k : Int) (r : Int × Int × Int) (a : q53 f g h j k = some r) : Ka Tryz.prog tab 186 [.d (.sl 3 (g.map Qs)),q9 h,q9 j,.ref 0 1 0 0,.d (.fn q1F q1C)] [(0,.dat 1 [[q7 k]])] 1 (.d (.tup [q7 r.1,q7 r.2.1])) [(0,.dat 1 [[q7 r.2.2]])] 1:=by
 unfold q53 at a;refine Ky Tryz.func186 J qi qi J<|qe<|qc J<|qc J<|qa<|qf<|qf<|Qk [q0,q0,q0,q0,q0,q0,q0,q0,q0,q0,q0] qi<|U J<|U J<|U J<|q8 a fun l m a=>Qe m J<|O _ J<|U J<|U J<|q8 a fun n o a=>Qe o J<|O _ J<|q8 a fun p q a=>Yn _ (q1Ok l n p q) J J J (.inl J)<|O _ J<|qa ?_;refine qm J a (fun _ a=>?_) (fun _ a=>?_)
 ·refine qe<|U J<|O _ J<|O _ J<|O _ J<|O _ J<|Q8 0 _ J<|qu<|U J<|U J<|qc J<|qc J<|qs ?_;cases a;exact ⟨.inr J,_,J,wkA [] [] []⟩
 refine ql<|qe<|U J<|U J<|qc J<|qc J<|qs ?_;cases a;exact ⟨.inr J,_,J,wkA [] [] []⟩
theorem qp4 (f : qq→qq→Option Int) (q1F : FuncId) (q1C : List DV) (q1Ok : ∀ (h : qq) (j : qq) (r : Int),f h j = some r→Pure Tryz.prog tab q1F ([.agg [q7 h.at_,q7 h.list_,q7 h.by_],.agg [q7 j.at_,q7 j.list_,q7 j.by_]] ++ q1C) (q7 r)) (g : List qq) (l : Int) (m : Int) (n : Int) (o : Int) (r : Int × Int) (a : q7v f g l m n o = some r) : Ka Tryz.prog tab 185 [.d (.sl 3 (g.map Qs)),q9 l,q9 m,q9 n,.ref 0 1 0 0,.d (.fn q1F q1C)] [(0,.dat 1 [[q7 o]])] 1 (q9 r.1) [(0,.dat 1 [[q7 r.2]])] 1:=by
 unfold q7v at a;refine Ky Tryz.func185 J qi qi J<|qe<|qc J<|qu<|U J<|U J<|U J<|U J<|U J<|q8 a fun b p a=>Kc [(0,0)] [(0,0)] _ (.d (.tup [q7 b.1,q7 b.2.1])) 1 [(0,.dat 1 [[q7 b.2.2]])] 1 (qik f q1F q1C q1Ok g l m o b p)<|U J<|O _ J<|O _ J<|qc J<|qc J<|qu<|U J<|U J<|U J<|U J<|U J<|q8 a fun c q a=>Kc [(0,0)] [(0,0)] _ (.d (.tup [q7 c.1,q7 c.2.1])) 1 [(0,.dat 1 [[q7 c.2.2]])] 1 (qik f q1F q1C q1Ok g b.2.1 n b.2.2 c q)<|U J<|O _ J<|O _ J<|qc J<|qc J<|qu<|U J<|U J<|U J<|U J<|U J<|q8 a fun k s a=>Kc [(0,0)] [(0,0)] _ (.d (.tup [q7 k.1,q7 k.2.1])) 1 [(0,.dat 1 [[q7 k.2.2]])] 1 (qik f q1F q1C q1Ok g b.1 c.1 c.2.2 k s)<|U J<|O _ J<|O _ J ?_;refine qc J<|qc J<|qu<|U J<|qc J<|qs ?_;cases a;exact ⟨.inr J,_,J,wkA [] [] []⟩
theorem qii (g : qq→qq→Option Int) (q1F : FuncId) (q1C : List DV) (q1Ok : ∀ (b : qq) (c : qq) (r : Int),g b c = some r→Pure Tryz.prog tab q1F ([.agg [q7 b.at_,q7 b.list_,q7 b.by_],.agg [q7 c.at_,q7 c.list_,q7 c.by_]] ++ q1C) (q7 r)) (h : List qq) (a : Int) (j : Int) (r : Int × Int) (f : q51 g h a j = some r) : Ka Tryz.prog tab 184 [.d (.sl 3 (h.map Qs)),q9 a,.ref 0 1 0 0,.d (.fn q1F q1C)] [(0,.dat 1 [[q7 j]])] 1 (q9 r.1) [(0,.dat 1 [[q7 r.2]])] 1:=by
 unfold q51 at f;refine Ky Tryz.func184 J qi qi J<|qe<|qc J<|qu<|U J<|U J<|O _ J<|U J<|U J<|O _ J<|U J<|U J<|q8 f fun k l f=>Kc [(0,0)] [(0,0)] _ (q9 k.1) 1 [(0,.dat 1 [[q7 k.2]])] 1 (qp4 g q1F q1C q1Ok h (w64 (a - 1)) a (w64 (a + 1)) j k l)<|qc J<|qs ?_;cases f;exact ⟨.inr J,_,J,wkA [] [] []⟩
end Go.Proofs.YtbknppciefodiaaGreat
