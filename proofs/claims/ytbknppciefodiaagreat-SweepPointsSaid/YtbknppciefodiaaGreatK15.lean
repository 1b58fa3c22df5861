/- W_Alla -/
import Derived.Test.YtbknppciefodiaaGreatK14
namespace Go.Proofs.YtbknppciefodiaaGreat
open Go Go.Am Go.Sh
set_option maxHeartbeats 8000000
set_option maxRecDepth 100000
theorem q1v (h : Q3) (j : Int) (r : Bool) (a : Zv h j = some r) : Pure Tryz.prog tab 27 [.agg [q7 h.X,q7 h.Y,q7 h.Z],q7 j] (.bool r):=by
 unfold Zv at a;refine Qn Tryz.func27 J qh qh J<|qd<|Qo _ _ J<|qc J<|qt<|O _ J<|O _ J<|U J<|O _ J<|q8 a fun c1 b a=>?_;refine Qb 6 (fun A st=>∃ k l m n o,st = A [(14,qz c1),(13,o),(12,n),(11,m),(10,l),(9,k)]) ?_ ?_
 ·refine Q9 J J b (fun b=>?_) (fun b=>?_)
  ·refine O _ J<|O _ J<|U J<|O _ J<|O _ J<|qa ?_;cases b;exact ⟨_,_,_,_,_,J⟩
  refine qb J<|qb J<|qb J<|qb J<|O _ J<|qa ?_;cases b;exact ⟨_,_,_,_,_,J⟩
 rintro _ ⟨k,l,m,n,o,rfl⟩;refine q8 a fun c8 c a=>?_;refine Qb 6 (fun A st=>∃ p q s t u,st = A [(20,qz c8),(19,u),(18,t),(17,s),(16,q),(15,p)]) ?_ ?_
 ·refine Q9 J J c (fun c=>?_) (fun c=>?_)
  ·refine O _ J<|O _ J<|U J<|O _ J<|O _ J<|qa ?_;cases c;exact ⟨_,_,_,_,_,J⟩
  refine qb J<|qb J<|qb J<|qb J<|O _ J<|qa ?_;cases c;exact ⟨_,_,_,_,_,J⟩
 rintro _ ⟨p,q,s,t,u,rfl⟩;refine q8 a fun aj d a=>?_;refine Qb 5 (fun A st=>∃ v w x y,st = A [(25,qz aj),(24,y),(23,x),(22,w),(21,v)]) ?_ ?_
 ·refine Q9 J J d (fun d=>?_) (fun d=>?_)
  ·refine O _ J<|O _ J<|O _ J<|O _ J<|qa ?_;cases d;exact ⟨_,_,_,_,J⟩
  refine qb J<|qb J<|qb J<|O _ J<|qa ?_;cases d;exact ⟨_,_,_,_,J⟩
 rintro _ ⟨v,w,x,y,rfl⟩;refine q8 a fun ak f a=>?_;refine Qb 5 (fun A st=>∃ z aa ab ac,st = A [(30,qz ak),(29,ac),(28,ab),(27,aa),(26,z)]) ?_ ?_
 ·refine Q9 J J f (fun f=>?_) (fun f=>?_)
  ·refine O _ J<|O _ J<|O _ J<|O _ J<|qa ?_;cases f;exact ⟨_,_,_,_,J⟩
  refine qb J<|qb J<|qb J<|O _ J<|qa ?_;cases f;exact ⟨_,_,_,_,J⟩
 rintro _ ⟨z,aa,ab,ac,rfl⟩;refine q8 a fun al g a=>?_;refine Qb 5 (fun A st=>∃ ad ae af ag,st = A [(35,qz al),(34,ag),(33,af),(32,ae),(31,ad)]) ?_ ?_
 ·refine Q9 J J g (fun g=>?_) (fun g=>?_)
  ·refine O _ J<|O _ J<|O _ J<|O _ J<|qa ?_;cases g;exact ⟨_,_,_,_,J⟩
  refine qb J<|qb J<|qb J<|O _ J<|qa ?_;cases g;exact ⟨_,_,_,_,J⟩
 rintro _ ⟨ad,ae,af,ag,rfl⟩;refine qc J<|qs ?_;cases a;exact Q6 _ J
theorem qwn (b : Qv) (k : List (List qg)) (r : Bool) (c : q66 b k = some r) : Pure Tryz.prog tab 10 [.agg [.sl 7 (b.Lines.map Kf),.sl 5 (b.Marks.map Km),.int .u8 b.End.Frame.Turn,q7 b.End.Frame.At.X,q7 b.End.Frame.At.Y,q7 b.End.Frame.At.Z,q7 b.End.Drawn],.sl 1 (k.map Qr)] (.bool r):=by
 unfold q66 at c;refine Qn Tryz.func10 J qh qh J<|qd<|Qo _ _ J<|qc J<|qa<|qf<|qd<|O _ J<|O _ J<|Qm J<|O _ J<|q8 c fun c1 l c=>?_;refine Qb 6 (fun A st=>∃ q s t u v,st = A [(18,qz c1),(17,v),(16,u),(15,t),(14,s),(13,q)]) ?_ ?_
 ·refine Q9 J J l (fun l=>?_) (fun l=>?_)
  ·refine qb J<|qb J<|qb J<|qb J<|O _ J<|qa ?_;cases l;exact ⟨_,_,_,_,_,J⟩
  refine O _ J<|O _ J<|Qm J<|O _ J<|O _ J<|qa ?_;cases l;exact ⟨_,_,_,_,_,J⟩
 rintro _ ⟨q,s,t,u,v,rfl⟩;refine q8 c fun c8 m c=>?_;refine Qb 5 (fun A st=>∃ w x y z,st = A [(23,qz c8),(22,z),(21,y),(20,x),(19,w)]) ?_ ?_
 ·refine Q9 J J m (fun m=>?_) (fun m=>?_)
  ·refine qb J<|qb J<|qb J<|O _ J<|qa ?_;cases m;exact ⟨_,_,_,_,J⟩
  refine U J<|Qm J<|O _ J<|O _ J<|qa ?_;cases m;exact ⟨_,_,_,_,J⟩
 rintro _ ⟨w,x,y,z,rfl⟩;refine qa ?_;refine qo J c (fun _ c=>?_) (fun _ c=>?_)
 ·refine qd<|qc J<|qs ?_;cases c;exact Q6 _ J
 refine ql<|qf<|qd<|qc J<|qa<|q8 c fun aa bt c=>?_;refine Qj (fun o=>.inl o = aa) (fun o=>⟨[(1,.d (.sl 1 (k.map Qr)))],[],0⟩) qe ?_ ?_
 ·refine Qf (q67 b) (fun ab=>⟨[(1,.d (.sl 1 (k.map Qr))),(2,.ref 0 7 0 0),(5,q9 ab)],[(0,.dat 7 [[.sl 7 (b.Lines.map Kf),.sl 5 (b.Marks.map Km),.int .u8 b.End.Frame.Turn,q7 b.End.Frame.At.X,q7 b.End.Frame.At.Y,q7 b.End.Frame.At.Z,q7 b.End.Drawn]])],1⟩) 0 aa bt (wkA [(0,0)] [] []) ?_;intro ab cg a;unfold q67 at a;refine qf<|qd<|U J<|O _ J<|O _ J<|Qm J<|O _ J<|qa ?_;refine qo J a (fun _ a=>?_) (fun _ a=>?_)
  ·refine ql<|qf<|Q4<|qf<|Qi [Qu 2,Qu 1,(some [],[2]),(some [],[1]),q0,q0,q0,q0,qu 0,q0,q0,q0,q0,q0,qu 0,q0] qh<|O _ J<|O _ J<|U J<|q8 a fun g bu a=>Qc bu J<|O _ J<|O _ J<|O _ J<|O _ J<|U J<|q8 a fun h bv a=>Qc bv J<|O _ J<|O _ J<|K2 J J<|K2 J J<|Ql 1 _ J<|Ql 2 _ J<|qt<|O _ J<|q8 a fun bw bz a=>Q5 (q1v g.From (-2000000) bw bz) J<|O _ J<|q8 a fun ca j a=>?_;refine Qb 5 (fun A st=>∃ ac ad ae af,st = A [(50,qz ca),(49,af),(48,ae),(47,ad),(46,ac)]) ?_ ?_
   ·refine Q9 J J j (fun j=>?_) (fun j=>?_)
    ·refine qb J<|qb J<|qb J<|O _ J<|qa ?_;cases j;exact ⟨_,_,_,_,J⟩
    refine O _ J<|q8 j fun cb cc j=>Q5 (q1v h.To (-2000000) cb cc) J<|O _ J<|O _ J<|qa ?_;cases j;exact ⟨_,_,_,_,J⟩
   rintro _ ⟨ac,ad,ae,af,rfl⟩;refine q8 a fun cd n a=>?_;refine Qb 34 (fun A st=>∃ ag ah ai aj ak al am an ao ap aq ar au av aw ax ay az ba bb bc bd be bf bg bh bi bj bk bl bm bn bo,st = A [(84,qz cd),(83,bo),(82,bn),(81,bm),(80,bl),(79,bk),(78,bj),(77,bi),(76,bh),(75,bg),(74,bf),(73,be),(72,bd),(71,bc),(70,bb),(69,ba),(68,az),(67,ay),(66,ax),(65,aw),(64,av),(63,au),(62,ar),(61,aq),(60,ap),(59,ao),(58,an),(57,am),(56,al),(55,ak),(54,aj),(53,ai),(52,ah),(51,ag)]) ?_ ?_
   ·refine Q9 J J n (fun n=>?_) (fun n=>?_)
    ·refine qb J<|qb J<|qb J<|qb J<|qb J<|qb J<|qb J<|qb J<|qb J<|qb J<|qb J<|qb J<|qb J<|qb J<|qb J<|qb J<|qb J<|qb J<|qb J<|qb J<|qb J<|qb J<|qb J<|qb J<|qb J<|qb J<|qb J<|qb J<|qb J<|qb J<|qb J<|qb J<|O _ J<|qa ?_;cases n;exact ⟨_,_,_,_,_,_,_,_,_,_,_,_,_,_,_,_,_,_,_,_,_,_,_,_,_,_,_,_,_,_,_,_,_,J⟩
    refine O _ J<|O _ J<|O _ J<|O _ J<|O _ J<|O _ J<|O _ J<|O _ J<|O _ J<|O _ J<|O _ J<|O _ J<|O _ J<|O _ J<|O _ J<|O _ J<|O _ J<|O _ J<|O _ J<|O _ J<|O _ J<|O _ J<|O _ J<|O _ J<|O _ J<|O _ J<|O _ J<|O _ J<|O _ J<|O _ J<|U4 (r:=max (max (max (max (max (w64 (g.From.X - h.To.X)) (w64 (h.To.X - g.From.X))) (w64 (g.From.Y - h.To.Y))) (w64 (h.To.Y - g.From.Y))) (w64 (g.From.Z - h.To.Z))) (w64 (h.To.Z - g.From.Z))) J J (by simp only [U2];rfl)<|O _ J<|O _ J<|qa ?_;cases n;exact ⟨_,_,_,_,_,_,_,_,_,_,_,_,_,_,_,_,_,_,_,_,_,_,_,_,_,_,_,_,_,_,_,_,_,J⟩
   rintro _ ⟨ag,ah,ai,aj,ak,al,am,an,ao,ap,aq,ar,au,av,aw,ax,ay,az,ba,bb,bc,bd,be,bf,bg,bh,bi,bj,bk,bl,bm,bn,bo,rfl⟩;refine qa ?_;refine qo J a (fun _ a=>?_) (fun _ a=>?_)
   ·refine qd<|qc J<|qs ?_;refine ⟨_,qm a,fun hm=>?_⟩;subst hm;cases c;exact Q6 _ J
   refine ql<|Qh<|Qp<|qw<|U J<|O _ J<|qc J<|qv<|⟨_,qm a,wkA [(0,0)] [] []⟩
  refine Qa ?_;refine ⟨_,qm a,fun hm=>?_⟩;subst hm;exact ⟨_,J,wkA [] [] []⟩
 intro o hb;subst hb;refine qf<|qd<|qc J<|qa<|q8 c fun bp ce c=>?_;refine Qj (fun p=>.inl p = bp) (fun p=>⟨[],[],0⟩) qe ?_ ?_
 ·refine Qf (q68 k) (fun bq=>⟨[(1,.d (.sl 1 (k.map Qr))),(8,q9 bq)],[],0⟩) 0 bp ce (wkA [] [] []) ?_;intro bq ch f;unfold q68 at f;refine qf<|qd<|U J<|U J<|Qm J<|O _ J<|qa ?_;refine qo J f (fun _ f=>?_) (fun _ f=>?_)
  ·refine ql<|qf<|Q4<|qd<|U J<|U J<|q8 f fun ci cf f=>Qc cf J<|O _ J<|Qm J<|O _ J<|qa ?_;refine qo J f (fun _ f=>?_) (fun _ f=>?_)
   ·refine qd<|qc J<|qs ?_;refine ⟨_,qm f,fun hm=>?_⟩;subst hm;cases c;exact Q6 _ J
   refine ql<|Qh<|Qp<|qw<|U J<|O _ J<|qc J<|qv<|⟨_,qm f,wkA [] [] []⟩
  refine Qa ?_;refine ⟨_,qm f,fun hm=>?_⟩;subst hm;exact ⟨_,J,wkA [] [] []⟩
 intro p hb;subst hb;refine qd<|qc J<|qs ?_;cases c;exact Q6 _ J
theorem qz4 (c : List K1) (g : K1→Option Bool) (p1F : FuncId) (p1C : List DV) (p1Ok : ∀ (b : K1) (r : Bool),g b = some r→Pure Tryz.prog tab p1F ([.agg [q7 b.From.X,q7 b.From.Y,q7 b.From.Z,q7 b.To.X,q7 b.To.Y,q7 b.To.Z,q7 b.Depth]] ++ p1C) (.bool r)) (r : Int) (f : qdm c g = some r) : Pure Tryz.prog tab 96 [.sl 7 (c.map Kf),.fn p1F p1C] (q7 r):=by
 unfold qdm at f;refine Qn Tryz.func96 J qh qh J<|qd<|qc J<|qa<|qf<|qd<|U J<|Qm J<|U J<|qa<|q8 f fun j l f=>?_;refine Qj (fun h=>.inl h = j) (fun h=>⟨[],[],0⟩) qe ?_ ?_
 ·refine Qf (q6q c g) (fun k=>⟨[(0,.d (.sl 7 (c.map Kf))),(1,.d (.fn p1F p1C)),(7,q9 (c.length : Int)),(8,q9 k)],[],0⟩) 0 j l (wkA [] [] []) ?_;intro k q a;unfold q6q at a;refine qd<|O _ J<|qa<|qf ?_;refine qo J a (fun _ a=>?_) (fun _ a=>?_)
  ·refine ql<|qf<|Q4<|qd<|U J<|qc J<|qt<|U J<|U J<|U J<|q8 a fun m n a=>Qc n J<|O _ J<|q8 a fun o p a=>Yk _ (p1Ok m o p) J J J (.inl J)<|qa ?_;refine qo J a (fun _ a=>?_) (fun _ a=>?_)
   ·refine qd<|U J<|qc J<|qs ?_;refine ⟨_,qm a,fun hm=>?_⟩;subst hm;cases f;exact Q6 _ J
   refine ql<|Qh<|Qp<|qw<|O _ J<|U J<|qv<|⟨_,qm a,wkA [] [] []⟩
  refine Qa ?_;refine ⟨_,qm a,fun hm=>?_⟩;subst hm;exact ⟨_,J,wkA [] [] []⟩
 intro h hb;subst hb;refine qd<|qc J<|qs ?_;cases f;exact Q6 _ J
theorem qnj (c : List K1) (d : K1→Option Bool) (p1F : FuncId) (p1C : List DV) (p1Ok : ∀ (a : K1) (r : Bool),d a = some r→Pure Tryz.prog tab p1F ([.agg [q7 a.From.X,q7 a.From.Y,q7 a.From.Z,q7 a.To.X,q7 a.To.Y,q7 a.To.Z,q7 a.Depth]] ++ p1C) (.bool r)) (r : Bool) (b : q6o c d = some r) : Pure Tryz.prog tab 65 [.sl 7 (c.map Kf),.fn p1F p1C] (.bool r):=by
 unfold q6o at b;refine Qn Tryz.func65 J qh qh J<|qd<|qc J<|qt<|U J<|U J<|q8 b fun f g b=>Q5 (qz4 c d p1F p1C p1Ok f g) J<|O _ J<|qc J<|qs ?_;cases b;exact Q6 _ J
theorem qow (a : Q3) (r : Bool) (c : qbm a = some r) : Pure Tryz.prog tab 88 [.agg [q7 a.X,q7 a.Y,q7 a.Z]] (.bool r):=by
 unfold qbm at c;refine Qn Tryz.func88 J qh qh J<|qd<|Qo _ _ J<|qc J<|qt<|O _ J<|O _ J<|O _ J<|O _ J<|O _ J<|O _ J<|q1s (r:=min (min a.X a.Y) a.Z) J J (by simp only [q1p];rfl)<|O _ J<|q8 c fun o b c=>?_;refine Qb 10 (fun A st=>∃ d f g h j k l m n,st = A [(20,qz o),(19,n),(18,m),(17,l),(16,k),(15,j),(14,h),(13,g),(12,f),(11,d)]) ?_ ?_
 ·refine Q9 J J b (fun b=>?_) (fun b=>?_)
  ·refine O _ J<|O _ J<|O _ J<|O _ J<|O _ J<|O _ J<|U4 (r:=max (max a.X a.Y) a.Z) J J (by simp only [U2];rfl)<|O _ J<|O _ J<|qa ?_;cases b;exact ⟨_,_,_,_,_,_,_,_,_,J⟩
  refine qb J<|qb J<|qb J<|qb J<|qb J<|qb J<|qb J<|qb J<|O _ J<|qa ?_;cases b;exact ⟨_,_,_,_,_,_,_,_,_,J⟩
 rintro _ ⟨d,f,g,h,j,k,l,m,n,rfl⟩;refine qc J<|qs ?_;cases c;exact Q6 _ J
theorem q13v (a : K1) (r : Bool) (b : q89 a = some r) : Pure Tryz.prog tab 87 [.agg [q7 a.From.X,q7 a.From.Y,q7 a.From.Z,q7 a.To.X,q7 a.To.Y,q7 a.To.Z,q7 a.Depth]] (.bool r):=by
 unfold q89 at b;refine Qn Tryz.func87 J qh qh J<|qd<|Qo _ _ J<|qc J<|qt<|qc J<|qa<|qf<|qd<|O _ J<|O _ J<|O _ J<|O _ J<|O _ J<|O _ J<|O _ J<|O _ J<|O _ J<|O _ J<|O _ J<|O _ J<|O _ J<|O _ J<|O _ J<|O _ J<|O _ J<|O _ J<|O _ J<|O _ J<|O _ J<|O _ J<|U J<|qa<|q8 b fun m w b=>?_;refine Qj (fun j=>j = m) (fun j=>⟨[(1,.ref 0 7 0 0),(3,q9 j)],[(0,.dat 7 [[q7 a.From.X,q7 a.From.Y,q7 a.From.Z,q7 a.To.X,q7 a.To.Y,q7 a.To.Z,q7 a.Depth]])],1⟩) qe ?_ ?_
 ·refine Qf (q16 a) (fun k=>⟨[(1,.ref 0 7 0 0),(3,q9 k.1),(27,.d (.agg [q7 (w64 (a.To.X - a.From.X)),q7 (w64 (a.To.Y - a.From.Y)),q7 (w64 (a.To.Z - a.From.Z))])),(28,q9 k.2)],[(0,.dat 7 [[q7 a.From.X,q7 a.From.Y,q7 a.From.Z,q7 a.To.X,q7 a.To.Y,q7 a.To.Z,q7 a.Depth]])],1⟩) (0,0) m w (wkA [(0,0)] [] []) ?_;intro k y6 c;unfold q16 at c;refine qd<|O _ J<|qa<|qf ?_;refine qo J c (fun _ c=>?_) (fun _ c=>?_)
  ·refine ql<|qf<|q8 c fun x f c=>?_;refine Qj (fun l=>l = x) (fun l=>⟨[(1,.ref 0 7 0 0),(3,q9 l),(27,.d (.agg [q7 (w64 (a.To.X - a.From.X)),q7 (w64 (a.To.Y - a.From.Y)),q7 (w64 (a.To.Z - a.From.Z))])),(28,q9 k.2)],[(0,.dat 7 [[q7 a.From.X,q7 a.From.Y,q7 a.From.Z,q7 a.To.X,q7 a.To.Y,q7 a.To.Z,q7 a.Depth]])],1⟩) qe ?_ ?_
   ·refine qd<|q8 f fun y z f=>qu6 (enc:=(eI .i64)) [w64 (a.To.X - a.From.X),w64 (a.To.Y - a.From.Y),w64 (a.To.Z - a.From.Z)] (q9 y) z (fun _=>rfl) J J J J J J<|qc J<|qt<|U J<|O _ J<|qa ?_;refine qo J f (fun _ f=>?_) (fun _ f=>?_)
    ·refine qw<|U J<|O _ J<|qc J<|qv ?_;cases f;exact ⟨_,J,wkA [(0,0)] [] []⟩
    refine ql<|Qh ?_;cases f;exact ⟨_,J,wkA [(0,0)] [] []⟩
   intro l hb;subst hb;refine qw<|O _ J<|U J<|qv<|⟨_,qm c,wkA [(0,0)] [] []⟩
  refine Qa ?_;refine ⟨_,qm c,fun hm=>?_⟩;subst hm;exact ⟨_,J,wkA [(0,0)] [] []⟩
 intro j hb;subst hb;refine qd<|O _ J<|O _ J<|q8 b fun aa ab b=>Q5 (qow a.From aa ab) J<|O _ J<|q8 b fun ac g b=>?_;refine Qb 6 (fun A st=>∃ n o p q s,st = A [(45,qz ac),(44,s),(43,q),(42,p),(41,o),(40,n)]) ?_ ?_
 ·refine Q9 J J g (fun g=>?_) (fun g=>?_)
  ·refine qb J<|qb J<|qb J<|qb J<|O _ J<|qa ?_;cases g;exact ⟨_,_,_,_,_,J⟩
  refine O _ J<|O _ J<|q8 g fun ad ae g=>Q5 (qow a.To ad ae) J<|O _ J<|O _ J<|qa ?_;cases g;exact ⟨_,_,_,_,_,J⟩
 rintro _ ⟨n,o,p,q,s,rfl⟩;refine q8 b fun af h b=>?_;refine Qb 4 (fun A st=>∃ t u v,st = A [(49,qz af),(48,v),(47,u),(46,t)]) ?_ ?_
 ·refine Q9 J J h (fun h=>?_) (fun h=>?_)
  ·refine qb J<|qb J<|O _ J<|qa ?_;cases h;exact ⟨_,_,_,J⟩
  refine U J<|O _ J<|O _ J<|qa ?_;cases h;exact ⟨_,_,_,J⟩
 rintro _ ⟨t,u,v,rfl⟩;refine qc J<|qs ?_;cases b;exact Q6 _ J
theorem qz5 (c : List Yy) (g : Yy→Option Bool) (p1F : FuncId) (p1C : List DV) (p1Ok : ∀ (b : Yy) (r : Bool),g b = some r→Pure Tryz.prog tab p1F ([.agg [.int .u8 b.Name,.int .u8 b.Frame.Turn,q7 b.Frame.At.X,q7 b.Frame.At.Y,q7 b.Frame.At.Z]] ++ p1C) (.bool r)) (r : Int) (f : qdn c g = some r) : Pure Tryz.prog tab 115 [.sl 5 (c.map Km),.fn p1F p1C] (q7 r):=by
 unfold qdn at f;refine Qn Tryz.func115 J qh qh J<|qd<|qc J<|qa<|qf<|qd<|U J<|Qm J<|U J<|qa<|q8 f fun j l f=>?_;refine Qj (fun h=>.inl h = j) (fun h=>⟨[],[],0⟩) qe ?_ ?_
 ·refine Qf (q6r c g) (fun k=>⟨[(0,.d (.sl 5 (c.map Km))),(1,.d (.fn p1F p1C)),(7,q9 (c.length : Int)),(8,q9 k)],[],0⟩) 0 j l (wkA [] [] []) ?_;intro k q a;unfold q6r at a;refine qd<|O _ J<|qa<|qf ?_;refine qo J a (fun _ a=>?_) (fun _ a=>?_)
  ·refine ql<|qf<|Q4<|qd<|U J<|qc J<|qt<|U J<|U J<|U J<|q8 a fun m n a=>Qc n J<|O _ J<|q8 a fun o p a=>Yk _ (p1Ok m o p) J J J (.inl J)<|qa ?_;refine qo J a (fun _ a=>?_) (fun _ a=>?_)
   ·refine qd<|U J<|qc J<|qs ?_;refine ⟨_,qm a,fun hm=>?_⟩;subst hm;cases f;exact Q6 _ J
   refine ql<|Qh<|Qp<|qw<|O _ J<|U J<|qv<|⟨_,qm a,wkA [] [] []⟩
  refine Qa ?_;refine ⟨_,qm a,fun hm=>?_⟩;subst hm;exact ⟨_,J,wkA [] [] []⟩
 intro h hb;subst hb;refine qd<|qc J<|qs ?_;cases f;exact Q6 _ J
theorem qyx (c : List Yy) (d : Yy→Option Bool) (p1F : FuncId) (p1C : List DV) (p1Ok : ∀ (a : Yy) (r : Bool),d a = some r→Pure Tryz.prog tab p1F ([.agg [.int .u8 a.Name,.int .u8 a.Frame.Turn,q7 a.Frame.At.X,q7 a.Frame.At.Y,q7 a.Frame.At.Z]] ++ p1C) (.bool r)) (r : Bool) (b : q9v c d = some r) : Pure Tryz.prog tab 89 [.sl 5 (c.map Km),.fn p1F p1C] (.bool r):=by
 unfold q9v at b;refine Qn Tryz.func89 J qh qh J<|qd<|qc J<|qt<|U J<|U J<|q8 b fun f g b=>Q5 (qz5 c d p1F p1C p1Ok f g) J<|O _ J<|qc J<|qs ?_;cases b;exact Q6 _ J
theorem qs7 (a : Q3) (d : Int) (r : Bool) (c : q8z a d = some r) : Pure Tryz.prog tab 91 [.agg [q7 a.X,q7 a.Y,q7 a.Z],q7 d] (.bool r):=by
 unfold q8z at c;refine Qn Tryz.func91 J qh qh J<|qd<|Qo _ _ J<|qc J<|qt<|O _ J<|O _ J<|O _ J<|O _ J<|O _ J<|O _ J<|q1s (r:=min (min a.X a.Y) a.Z) J J (by simp only [q1p];rfl)<|U J<|O _ J<|q8 c fun p b c=>?_;refine Qb 10 (fun A st=>∃ f g h j k l m n o,st = A [(23,qz p),(22,o),(21,n),(20,m),(19,l),(18,k),(17,j),(16,h),(15,g),(14,f)]) ?_ ?_
 ·refine Q9 J J b (fun b=>?_) (fun b=>?_)
  ·refine O _ J<|O _ J<|O _ J<|O _ J<|O _ J<|O _ J<|U4 (r:=max (max a.X a.Y) a.Z) J J (by simp only [U2];rfl)<|O _ J<|O _ J<|qa ?_;cases b;exact ⟨_,_,_,_,_,_,_,_,_,J⟩
  refine qb J<|qb J<|qb J<|qb J<|qb J<|qb J<|qb J<|qb J<|O _ J<|qa ?_;cases b;exact ⟨_,_,_,_,_,_,_,_,_,J⟩
 rintro _ ⟨f,g,h,j,k,l,m,n,o,rfl⟩;refine qc J<|qs ?_;cases c;exact Q6 _ J
theorem qk5 (c : Yg) (r : Int) (a : q58 c = some r) : Pure Tryz.prog tab 61 [.agg [.int .u8 c.Turn,q7 c.At.X,q7 c.At.Y,q7 c.At.Z]] (q7 r):=by
 unfold q58 at a;refine Qn Tryz.func61 J qh qh J<|qd<|Qo _ _ J<|qc J<|qa<|qf<|qd<|O _ J<|O _ J<|O _ J<|q8 a fun k b a=>?_;refine Qb 6 (fun A st=>∃ d f g h j,st = A [(11,qz k),(10,j),(9,h),(8,g),(7,f),(6,d)]) ?_ ?_
 ·refine Q9 J J b (fun b=>?_) (fun b=>?_)
  ·refine qb J<|qb J<|qb J<|qb J<|O _ J<|qa ?_;cases b;exact ⟨_,_,_,_,_,J⟩
  refine O _ J<|O _ J<|q8 b fun l m b=>Q5 (qs7 c.At (-1000000) l m) J<|O _ J<|O _ J<|qa ?_;cases b;exact ⟨_,_,_,_,_,J⟩
 rintro _ ⟨d,f,g,h,j,rfl⟩;refine qa ?_;refine qo J a (fun _ a=>?_) (fun _ a=>?_)
 ·refine qd<|qc J<|qs ?_;cases a;exact Q6 _ J
 refine ql<|qd<|qc J<|qs ?_;cases a;exact Q6 _ J
theorem q13w (a : Yy) (r : Bool) (b : q8a a = some r) : Pure Tryz.prog tab 90 [.agg [.int .u8 a.Name,.int .u8 a.Frame.Turn,q7 a.Frame.At.X,q7 a.Frame.At.Y,q7 a.Frame.At.Z]] (.bool r):=by
 unfold q8a at b;refine Qn Tryz.func90 J qh qh J<|qd<|Qo _ _ J<|qc J<|qt<|O _ J<|O _ J<|q8 b fun c d b=>Q5 (qk5 a.Frame c d) J<|O _ J<|qc J<|qs ?_;cases b;exact Q6 _ J
theorem q13x (b : Qv) (r : Int) (a : qbl b = some r) : Pure Tryz.prog tab 60 [.agg [.sl 7 (b.Lines.map Kf),.sl 5 (b.Marks.map Km),.int .u8 b.End.Frame.Turn,q7 b.End.Frame.At.X,q7 b.End.Frame.At.Y,q7 b.End.Frame.At.Z,q7 b.End.Drawn]] (q7 r):=by
 unfold qbl at a;refine Qn Tryz.func60 J qh qh J<|qd<|Qo _ _ J<|qc J<|qt<|O _ J<|O _ J<|q8 a fun r1 h2 a=>Q5 (qnj b.Lines (fun c=>q89 c) 87 [] (fun c r hr=>q13v c r hr) r1 h2) J<|qc J<|qt<|O _ J<|O _ J<|q8 a fun r3 h4 a=>Q5 (qyx b.Marks (fun c=>q8a c) 90 [] (fun c r hr=>q13w c r hr) r3 h4) J<|qc J<|qa<|qf<|qd<|U J<|q8 a fun c5 f a=>?_;refine Qb 3 (fun A st=>∃ h j,st = A [(14,qz c5),(13,j),(12,h)]) ?_ ?_
 ·refine Q9 J J f (fun f=>?_) (fun f=>?_)
  ·refine qb J<|O _ J<|qa ?_;cases f;exact ⟨_,_,J⟩
  refine U J<|O _ J<|qa ?_;cases f;exact ⟨_,_,J⟩
 rintro _ ⟨h,j,rfl⟩;refine q8 a fun af d a=>?_;refine Qb 7 (fun A st=>∃ k l m n o p,st = A [(21,qz af),(20,p),(19,o),(18,n),(17,m),(16,l),(15,k)]) ?_ ?_
 ·refine Q9 J J d (fun d=>?_) (fun d=>?_)
  ·refine qb J<|qb J<|qb J<|qb J<|qb J<|O _ J<|qa ?_;cases d;exact ⟨_,_,_,_,_,_,J⟩
  refine O _ J<|O _ J<|O _ J<|q8 d fun ag ah d=>Q5 (qk5 b.End.Frame ag ah) J<|O _ J<|O _ J<|qa ?_;cases d;exact ⟨_,_,_,_,_,_,J⟩
 rintro _ ⟨k,l,m,n,o,p,rfl⟩;refine q8 a fun ai g a=>?_;refine Qb 10 (fun A st=>∃ q s t u v w x y z,st = A [(31,qz ai),(30,z),(29,y),(28,x),(27,w),(26,v),(25,u),(24,t),(23,s),(22,q)]) ?_ ?_
 ·refine Q9 J J g (fun g=>?_) (fun g=>?_)
  ·refine qb J<|qb J<|qb J<|qb J<|qb J<|qb J<|qb J<|qb J<|O _ J<|qa ?_;cases g;exact ⟨_,_,_,_,_,_,_,_,_,J⟩
  refine O _ J<|O _ J<|Qm J<|O _ J<|O _ J<|Qm J<|U4 (r:=max (b.Lines.length : Int) (b.Marks.length : Int)) J J (by simp only [U2];rfl)<|O _ J<|O _ J<|qa ?_;cases g;exact ⟨_,_,_,_,_,_,_,_,_,J⟩
 rintro _ ⟨q,s,t,u,v,w,x,y,z,rfl⟩;refine qa ?_;refine qo J a (fun _ a=>?_) (fun _ a=>?_)
 ·refine qd<|qc J<|qs ?_;cases a;exact Q6 _ J
 refine ql<|qd<|qc J<|qs ?_;cases a;exact Q6 _ J
theorem qhl (a : Int) (r : Int) (b : q8b a = some r) : Pure Tryz.prog tab 69 [q7 a] (q7 r):=by
 unfold q8b at b;refine Qn Tryz.func69 J qh qh J<|qd<|qc J<|qt<|U J<|U J<|O _ J<|U4 (r:=max a (w64 (0 - a))) J J (by simp only [U2];rfl)<|qc J<|qs ?_;cases b;exact Q6 _ J
theorem qov (b : Qv) (r : Int × Int) (c : q4x b = some r) : Pure Tryz.prog tab 43 [.agg [.sl 7 (b.Lines.map Kf),.sl 5 (b.Marks.map Km),.int .u8 b.End.Frame.Turn,q7 b.End.Frame.At.X,q7 b.End.Frame.At.Y,q7 b.End.Frame.At.Z,q7 b.End.Drawn]] (.tup [q7 r.1,q7 r.2]):=by
 unfold q4x at c;refine Qn Tryz.func43 J qh qh J<|qd<|Qo _ _ J<|qc J<|qc J<|qa<|qf<|qd<|O _ J<|q8 c fun k l c=>Q5 (q13x b k l) J<|qc J<|qt<|U J<|O _ J<|qa ?_;refine qo J c (fun _ c=>?_) (fun _ c=>?_)
 ·refine qd<|U J<|qc J<|qc J<|qs ?_;cases c;exact Q6 _ J
 refine ql<|qd<|qc J<|qa<|qf<|qd<|O _ J<|O _ J<|Qm J<|U J<|qa<|q8 c fun j m c=>?_;refine Qj (fun g=>g = j) (fun g=>⟨[(5,q9 g)],[],0⟩) qe ?_ ?_
 ·refine Qf (q88 b) (fun h=>⟨[(5,q9 h.1),(14,.d (.sl 7 (b.Lines.map Kf))),(15,q9 (b.Lines.length : Int)),(16,q9 h.2)],[],0⟩) (0,0) j m (wkA [] [] []) ?_;intro h v a;unfold q88 at a;refine qd<|O _ J<|qa<|qf ?_;refine qo J a (fun _ a=>?_) (fun _ a=>?_)
  ·refine ql<|qf<|Q4<|qd<|q8 a fun f n a=>Qc n J<|O _ J<|K2 J J<|Ql 0 _ J<|qa<|Qi [q0,q0,q0,q0,q0,qu 0,q0,q0,qu 0,q0,q0,q0,q0,q0,qu 0,q0,q0,qu 0,q0,q0,q0,q0,qu 0,q0,q0,qu 0,q0,q0,q0] qh<|U J<|O _ J<|O _ J<|O _ J<|O _ J<|O _ J<|O _ J<|O _ J<|q8 a fun o p a=>Q5 (qhl (w64 (f.To.X - f.From.X)) o p) J<|O _ J<|O _ J<|O _ J<|O _ J<|O _ J<|O _ J<|O _ J<|q8 a fun q s a=>Q5 (qhl (w64 (f.To.Y - f.From.Y)) q s) J<|O _ J<|O _ J<|O _ J<|O _ J<|O _ J<|O _ J<|O _ J<|O _ J<|q8 a fun t u a=>Q5 (qhl (w64 (f.To.Z - f.From.Z)) t u) J ?_;refine O _ J<|O _ J<|qc J<|qv<|Qp<|qw<|O _ J<|U J<|qv<|⟨_,qm a,wkA [] [] []⟩
  refine Qa ?_;refine ⟨_,qm a,fun hm=>?_⟩;subst hm;exact ⟨_,J,wkA [] [] []⟩
 intro g hb;subst hb;refine qd<|U J<|qc J<|qc J<|qs ?_;cases c;exact Q6 _ J
theorem qz8 (c : List qg) (g : qg→Option Bool) (p1F : FuncId) (p1C : List DV) (p1Ok : ∀ (b : qg) (r : Bool),g b = some r→Pure Tryz.prog tab p1F ([.agg [q7 b.Lo.X,q7 b.Lo.Y,q7 b.Lo.Z,q7 b.Hi.X,q7 b.Hi.Y,q7 b.Hi.Z]] ++ p1C) (.bool r)) (r : Int) (f : q6s c g = some r) : Pure Tryz.prog tab 85 [.sl 6 (c.map Qe),.fn p1F p1C] (q7 r):=by
 unfold q6s at f;refine Qn Tryz.func85 J qh qh J<|qd<|qc J<|qa<|qf<|qd<|U J<|Qm J<|U J<|qa<|q8 f fun j l f=>?_;refine Qj (fun h=>.inl h = j) (fun h=>⟨[],[],0⟩) qe ?_ ?_
 ·refine Qf (Jk c g) (fun k=>⟨[(0,.d (.sl 6 (c.map Qe))),(1,.d (.fn p1F p1C)),(7,q9 (c.length : Int)),(8,q9 k)],[],0⟩) 0 j l (wkA [] [] []) ?_;intro k q a;unfold Jk at a;refine qd<|O _ J<|qa<|qf ?_;refine qo J a (fun _ a=>?_) (fun _ a=>?_)
  ·refine ql<|qf<|Q4<|qd<|U J<|qc J<|qt<|U J<|U J<|U J<|q8 a fun m n a=>Qc n J<|O _ J<|q8 a fun o p a=>Yk _ (p1Ok m o p) J J J (.inl J)<|qa ?_;refine qo J a (fun _ a=>?_) (fun _ a=>?_)
   ·refine qd<|U J<|qc J<|qs ?_;refine ⟨_,qm a,fun hm=>?_⟩;subst hm;cases f;exact Q6 _ J
   refine ql<|Qh<|Qp<|qw<|O _ J<|U J<|qv<|⟨_,qm a,wkA [] [] []⟩
  refine Qa ?_;refine ⟨_,qm a,fun hm=>?_⟩;subst hm;exact ⟨_,J,wkA [] [] []⟩
 intro h hb;subst hb;refine qd<|qc J<|qs ?_;cases f;exact Q6 _ J
theorem qdh (c : List qg) (d : qg→Option Bool) (p1F : FuncId) (p1C : List DV) (p1Ok : ∀ (a : qg) (r : Bool),d a = some r→Pure Tryz.prog tab p1F ([.agg [q7 a.Lo.X,q7 a.Lo.Y,q7 a.Lo.Z,q7 a.Hi.X,q7 a.Hi.Y,q7 a.Hi.Z]] ++ p1C) (.bool r)) (r : Bool) (b : Un c d = some r) : Pure Tryz.prog tab 57 [.sl 6 (c.map Qe),.fn p1F p1C] (.bool r):=by
 unfold Un at b;refine Qn Tryz.func57 J qh qh J<|qd<|qc J<|qt<|U J<|U J<|q8 b fun f g b=>Q5 (qz8 c d p1F p1C p1Ok f g) J<|O _ J<|qc J<|qs ?_;cases b;exact Q6 _ J
theorem qnw (a : Q3) (r : Bool) (c : q7u a = some r) : Pure Tryz.prog tab 97 [.agg [q7 a.X,q7 a.Y,q7 a.Z]] (.bool r):=by
 unfold q7u at c;refine Qn Tryz.func97 J qh qh J<|qd<|Qo _ _ J<|qc J<|qt<|O _ J<|O _ J<|O _ J<|O _ J<|O _ J<|O _ J<|q1s (r:=min (min a.X a.Y) a.Z) J J (by simp only [q1p];rfl)<|O _ J<|q8 c fun o b c=>?_;refine Qb 10 (fun A st=>∃ d f g h j k l m n,st = A [(20,qz o),(19,n),(18,m),(17,l),(16,k),(15,j),(14,h),(13,g),(12,f),(11,d)]) ?_ ?_
 ·refine Q9 J J b (fun b=>?_) (fun b=>?_)
  ·refine O _ J<|O _ J<|O _ J<|O _ J<|O _ J<|O _ J<|U4 (r:=max (max a.X a.Y) a.Z) J J (by simp only [U2];rfl)<|O _ J<|O _ J<|qa ?_;cases b;exact ⟨_,_,_,_,_,_,_,_,_,J⟩
  refine qb J<|qb J<|qb J<|qb J<|qb J<|qb J<|qb J<|qb J<|O _ J<|qa ?_;cases b;exact ⟨_,_,_,_,_,_,_,_,_,J⟩
 rintro _ ⟨d,f,g,h,j,k,l,m,n,rfl⟩;refine qc J<|qs ?_;cases c;exact Q6 _ J
theorem qny (b : qg) (r : Bool) (a : q7v b = some r) : Pure Tryz.prog tab 71 [.agg [q7 b.Lo.X,q7 b.Lo.Y,q7 b.Lo.Z,q7 b.Hi.X,q7 b.Hi.Y,q7 b.Hi.Z]] (.bool r):=by
 unfold q7v at a;refine Qn Tryz.func71 J qh qh J<|qd<|Qo _ _ J<|qc J<|qt<|O _ J<|O _ J<|O _ J<|O _ J<|O _ J<|O _ J<|O _ J<|q8 a fun c1 f a=>?_;refine Qb 9 (fun A st=>∃ h j k l m n o p,st = A [(18,qz c1),(17,p),(16,o),(15,n),(14,m),(13,l),(12,k),(11,j),(10,h)]) ?_ ?_
 ·refine Q9 J J f (fun f=>?_) (fun f=>?_)
  ·refine O _ J<|O _ J<|O _ J<|O _ J<|O _ J<|O _ J<|O _ J<|O _ J<|qa ?_;cases f;exact ⟨_,_,_,_,_,_,_,_,J⟩
  refine qb J<|qb J<|qb J<|qb J<|qb J<|qb J<|qb J<|O _ J<|qa ?_;cases f;exact ⟨_,_,_,_,_,_,_,_,J⟩
 rintro _ ⟨h,j,k,l,m,n,o,p,rfl⟩;refine q8 a fun ai g a=>?_;refine Qb 9 (fun A st=>∃ q s t u v w x y,st = A [(27,qz ai),(26,y),(25,x),(24,w),(23,v),(22,u),(21,t),(20,s),(19,q)]) ?_ ?_
 ·refine Q9 J J g (fun g=>?_) (fun g=>?_)
  ·refine O _ J<|O _ J<|O _ J<|O _ J<|O _ J<|O _ J<|O _ J<|O _ J<|qa ?_;cases g;exact ⟨_,_,_,_,_,_,_,_,J⟩
  refine qb J<|qb J<|qb J<|qb J<|qb J<|qb J<|qb J<|O _ J<|qa ?_;cases g;exact ⟨_,_,_,_,_,_,_,_,J⟩
 rintro _ ⟨q,s,t,u,v,w,x,y,rfl⟩;refine q8 a fun aj c a=>?_;refine Qb 5 (fun A st=>∃ z aa ab ac,st = A [(32,qz aj),(31,ac),(30,ab),(29,aa),(28,z)]) ?_ ?_
 ·refine Q9 J J c (fun c=>?_) (fun c=>?_)
  ·refine O _ J<|O _ J<|q8 c fun ak al c=>Q5 (qnw b.Lo ak al) J<|O _ J<|qa ?_;cases c;exact ⟨_,_,_,_,J⟩
  refine qb J<|qb J<|qb J<|O _ J<|qa ?_;cases c;exact ⟨_,_,_,_,J⟩
 rintro _ ⟨z,aa,ab,ac,rfl⟩;refine q8 a fun am d a=>?_;refine Qb 5 (fun A st=>∃ ad ae af ag,st = A [(37,qz am),(36,ag),(35,af),(34,ae),(33,ad)]) ?_ ?_
 ·refine Q9 J J d (fun d=>?_) (fun d=>?_)
  ·refine O _ J<|O _ J<|q8 d fun an ao d=>Q5 (qnw b.Hi an ao) J<|O _ J<|qa ?_;cases d;exact ⟨_,_,_,_,J⟩
  refine qb J<|qb J<|qb J<|O _ J<|qa ?_;cases d;exact ⟨_,_,_,_,J⟩
 rintro _ ⟨ad,ae,af,ag,rfl⟩;refine qc J<|qs ?_;cases a;exact Q6 _ J
theorem q11x (a : qg) (r : Bool) (b : q37 a = some r) : Pure Tryz.prog tab 70 [.agg [q7 a.Lo.X,q7 a.Lo.Y,q7 a.Lo.Z,q7 a.Hi.X,q7 a.Hi.Y,q7 a.Hi.Z]] (.bool r):=by
 unfold q37 at b;refine Qn Tryz.func70 J qh qh J<|qd<|Qo _ _ J<|qc J<|qt<|O _ J<|q8 b fun c d b=>Q5 (qny a c d) J<|O _ J<|qc J<|qs ?_;cases b;exact Q6 _ J
theorem qtl (k : Int) (r : Int) (a : q2t k = some r) : Pure Tryz.prog tab 156 [.int .u64 k] (q7 r):=by
 unfold q2t at a;refine Qn Tryz.func156 J qh qh J<|qd<|qc J<|qa<|qf<|qd<|U J<|O _ J<|qa<|q8 a fun l b a=>?_;refine Yu (fun c=>c = l) (fun c=>⟨[(0,.d (.int .u64 c.1)),(2,q9 c.2)],[],0⟩) qe ?_ ?_
 ·refine qo J b (fun _ b=>?_) (fun _ b=>?_)
  ·refine qd<|U J<|O _ J<|qc J<|qa<|qw<|qc J<|qv ?_;cases b;exact ⟨_,J,wkA [] [] []⟩
  refine ql<|Qh ?_;cases b;exact ⟨_,J,wkA [] [] []⟩
 intro c hb;subst hb;refine qf<|qd<|U J<|O _ J<|qa<|q8 a fun m f a=>?_;refine Yu (fun g=>g = m) (fun g=>⟨[(0,.d (.int .u64 g.1)),(2,q9 g.2)],[],0⟩) qe ?_ ?_
 ·refine qo J f (fun _ f=>?_) (fun _ f=>?_)
  ·refine qd<|U J<|O _ J<|qc J<|qa<|qw<|U J<|O _ J<|qc J<|qv ?_;cases f;exact ⟨_,J,wkA [] [] []⟩
  refine ql<|Qh ?_;cases f;exact ⟨_,J,wkA [] [] []⟩
 intro g hb;subst hb;refine qf<|qd<|U J<|O _ J<|qa<|q8 a fun n h a=>?_;refine Yu (fun j=>j = n) (fun j=>⟨[(0,.d (.int .u64 j.1)),(2,q9 j.2)],[],0⟩) qe ?_ ?_
 ·refine qo J h (fun _ h=>?_) (fun _ h=>?_)
  ·refine qd<|U J<|O _ J<|qc J<|qa<|qw<|U J<|O _ J<|qc J<|qv ?_;cases h;exact ⟨_,J,wkA [] [] []⟩
  refine ql<|Qh ?_;cases h;exact ⟨_,J,wkA [] [] []⟩
 intro j hb;subst hb;refine qd<|U J<|U J<|O _ J<|q8 a fun p o a=>qu7 qe1 o J J J J J<|O _ J<|O _ J<|qc J<|qs ?_;cases a;exact Q6 _ J
theorem qg3 (b : Int) (r : Int) (a : q12 b = some r) : Pure Tryz.prog tab 136 [.int .u64 b] (q7 r):=by
 unfold q12 at a;refine Qn Tryz.func136 J qh qh J<|qd<|qc J<|qa<|qf<|Zf J<|ql<|qd<|U J<|q8 a fun c d a=>Q5 (qtl b c d) J<|qc J<|qs ?_;cases a;exact Q6 _ J
theorem qiz (a : Int) (r : Bool) (b : q8n a = some r) : Pure Tryz.prog tab 170 [q7 a] (.bool r):=by
 unfold q8n at b;refine Qn Tryz.func170 J qh qh J<|qd<|qc J<|qt<|U J<|U J<|O _ J<|qc J<|qs ?_;cases b;exact Q6 _ J
theorem J0 (d : Int) (f : Int) (r : Bool) (a : Zc d f = some r) : Pure Tryz.prog tab 152 [q7 d,q7 f] (.bool r):=by
 unfold Zc at a;refine Qn Tryz.func152 J qh qh J<|qd<|qc J<|qt<|U J<|q8 a fun p q a=>Q5 (qiz d p q) J<|q8 a fun s b a=>?_;refine Qb 5 (fun A st=>∃ g h j k,st = A [(11,qz s),(10,k),(9,j),(8,h),(7,g)]) ?_ ?_
 ·refine Q9 J J b (fun b=>?_) (fun b=>?_)
  ·refine U J<|q8 b fun t u b=>Q5 (qiz f t u) J<|O _ J<|O _ J<|qa ?_;cases b;exact ⟨_,_,_,_,J⟩
  refine qb J<|qb J<|qb J<|O _ J<|qa ?_;cases b;exact ⟨_,_,_,_,J⟩
 rintro _ ⟨g,h,j,k,rfl⟩;refine q8 a fun v c a=>?_;refine Qb 5 (fun A st=>∃ l m n o,st = A [(16,qz v),(15,o),(14,n),(13,m),(12,l)]) ?_ ?_
 ·refine Q9 J J c (fun c=>?_) (fun c=>?_)
  ·refine qb J<|qb J<|qb J<|O _ J<|qa ?_;cases c;exact ⟨_,_,_,_,J⟩
  refine U J<|U J<|O _ J<|O _ J<|qa ?_;cases c;exact ⟨_,_,_,_,J⟩
 rintro _ ⟨l,m,n,o,rfl⟩;refine qc J<|qs ?_;cases a;exact Q6 _ J
theorem qzj (k : List Int) (c : Int) (h : Int) (r : List Int) (l : q70  k c h = some r) : K9 Tryz.prog tab 146 [.hs 0 1 0 k.length,q9 c,q9 h] [(0,.dat 1 (k.map (eI .i64)))] 1 (.d (.tup [])) [(0,.dat 1 (r.map (eI .i64)))] 1:=by
 unfold q70 at l;refine Ks Tryz.func146 J qh qh J<|qd<|U J<|O _ J<|qc J<|qa<|q8 l fun ai aj l=>Q4<|Qf (q71 h c) (fun f=>⟨[(0,.hs 0 1 0 f.2.length),(1,q9 c),(2,q9 h),(6,q9 f.1)],[(0,.dat 1 (f.2.map (eI .i64)))],1⟩) (w64 (c + 1),k) ai aj (wkA [] [] []) ?_;intro f au g;unfold q71 at g;refine qf<|qd<|U J<|U J<|O _ J<|qa ?_;refine qo J g (fun _ g=>?_) (fun _ g=>?_)
 ·refine ql<|qf<|q8 g fun ak n g=>?_;refine Qj (fun j=>j = ak) (fun j=>⟨[(0,.hs 0 1 0 j.length),(1,q9 c),(2,q9 h),(6,q9 f.1)],[(0,.dat 1 (j.map (eI .i64)))],1⟩) qe ?_ ?_
  ·refine qd<|U J<|qc J<|qa<|q8 n fun al am n=>Q4<|Qf (q72 c) (fun m=>⟨[(0,.hs 0 1 0 m.2.length),(1,q9 c),(2,q9 h),(6,q9 f.1),(7,q9 m.1)],[(0,.dat 1 (m.2.map (eI .i64)))],1⟩) (f.1,f.2) al am (wkA [] [] []) ?_;intro m av a;unfold q72 at a;refine qf<|qf<|Qi [q0,q0,qu 0,q0,q0,q0,q0,qu 0,q0,q0,q0,q0,q0,q0,q0] qh<|U J<|U J<|O _ J<|q8 a fun an b a=>?_;refine Qb 12 (fun A st=>∃ o p q s t u v w x y z,st = A [(30,qz an),(29,z),(28,y),(27,x),(26,w),(25,v),(24,u),(23,t),(22,s),(21,q),(20,p),(19,o)]) ?_ ?_
   ·refine Q9 J J b (fun b=>?_) (fun b=>?_)
    ·refine U J<|U J<|q8 b fun ao aa b=>Q0 aa J J<|Qd _ aa J<|U J<|U J<|O _ J<|q8 b fun ap ab b=>Q0 ab J J<|Qd _ ab J<|q8 b fun aq ar b=>Q5 (J0 ao ap aq ar) J<|O _ J<|qa ?_;cases b;exact ⟨_,_,_,_,_,_,_,_,_,_,_,J⟩
    refine qb J<|qb J<|qb J<|qb J<|qb J<|qb J<|qb J<|qb J<|qb J<|qb J<|O _ J<|qa ?_;cases b;exact ⟨_,_,_,_,_,_,_,_,_,_,_,J⟩
   rintro _ ⟨o,p,q,s,t,u,v,w,x,y,z,rfl⟩;refine qa ?_;refine qo J a (fun _ a=>?_) (fun _ a=>?_)
   ·refine ql<|qf<|Q4<|Qi [Qu 0,q0,Qu 0,q0,qu 0,q0,q0,q0,qu 0,q0,q0,q0,q0,q0,q0,q0,q0,q0] qh<|U J<|U J<|U J<|U J<|O _ J<|U J<|U J<|O _ J<|q8 a fun ac ad a=>Q0 ad J J<|Qd _ ad J<|U J<|U J<|q8 a fun ae af a=>Q0 af J J<|Qd _ af J<|q8 a fun aw ag a=>Q0 ag J J<|K5 (ds:=[q7 ac]) ac ag J J J J J J J J (leb J) J<|q8 a fun ax ah a=>Q0 ah qe J<|K5 (ds:=[q7 ae]) ae ah J J J J J J J J (leb J) J<|qv<|Qp<|qw<|U J<|O _ J<|qc J<|qv<|⟨_,qm a,wkE [] [] [] J ⟨⟨_,J,K7 qe J qx (ltd J)⟩,qq J,qq J,qq J,qq J,trivial⟩ ⟨Qs J J,trivial⟩⟩
   refine Qa ?_;refine ⟨_,qm a,fun hm=>?_⟩;subst hm;cases n;exact ⟨_,J,wkA [] [] []⟩
  intro j hb;subst hb;refine qw<|U J<|O _ J<|qc J<|qv<|⟨_,qm g,wkA [] [] []⟩
 refine Qa ?_;refine ⟨_,qm g,fun hm=>?_⟩;subst hm;cases l;exact ⟨.inl J,_,J,wkA [] [] []⟩
theorem qnp (k : List Int) (m : Int) (f : Int) (g : Int) (r : List Int) (h : q4k  k m f g = some r) : K9 Tryz.prog tab 165 [.hs 0 1 0 k.length,q9 m,q9 f,q9 g] [(0,.dat 1 (k.map (eI .i64)))] 1 (.d (.tup [])) [(0,.dat 1 (r.map (eI .i64)))] 1:=by
 unfold q4k at h;refine Ks Tryz.func165 J qh qh J<|qd<|U J<|qc J<|qa<|q8 h fun an ao h=>Q4<|Qf (q7o f g) (fun c=>⟨[(0,.hs 0 1 0 c.2.length),(2,q9 f),(3,q9 g),(8,q9 c.1)],[(0,.dat 1 (c.2.map (eI .i64)))],1⟩) (m,k) an ao (wkA [] [] []) ?_;intro c bb a;unfold q7o at a;refine Q4<|qd<|U J<|O _ J<|O _ J<|qc J<|qa<|qf<|qd<|U J<|U J<|O _ J<|qa ?_;refine qo J a (fun _ a=>?_) (fun _ a=>?_)
 ·refine Qa ?_;refine ⟨_,qm a,fun hm=>?_⟩;subst hm;cases h;exact ⟨.inl J,_,J,wkA [] [] []⟩
 refine ql<|qf<|qf<|Qi [q0,q0,qu 0,q0,q0,q0,q0,q0,q0,qu 0,q0,q0,q0,q0,q0,q0,q0,q0,q0,q0] qh<|U J<|O _ J<|U J<|O _ J<|q8 a fun ap b a=>?_;refine Qb 16 (fun A st=>∃ n o p q s t u v w x y z aa ab ac,st = A [(36,qz ap),(35,ac),(34,ab),(33,aa),(32,z),(31,y),(30,x),(29,w),(28,v),(27,u),(26,t),(25,s),(24,q),(23,p),(22,o),(21,n)]) ?_ ?_
 ·refine Q9 J J b (fun b=>?_) (fun b=>?_)
  ·refine U J<|U J<|U J<|O _ J<|q8 b fun aq ad b=>Q0 ad J J<|Qd _ ad J<|U J<|U J<|U J<|O _ J<|O _ J<|q8 b fun ar ae b=>Q0 ae J J<|Qd _ ae J<|q8 b fun au av b=>Q5 (J0 aq ar au av) J<|O _ J<|qa ?_;cases b;exact ⟨_,_,_,_,_,_,_,_,_,_,_,_,_,_,_,J⟩
  refine qb J<|qb J<|qb J<|qb J<|qb J<|qb J<|qb J<|qb J<|qb J<|qb J<|qb J<|qb J<|qb J<|qb J<|O _ J<|qa ?_;cases b;exact ⟨_,_,_,_,_,_,_,_,_,_,_,_,_,_,_,J⟩
 rintro _ ⟨n,o,p,q,s,t,u,v,w,x,y,z,aa,ab,ac,rfl⟩;refine qa<|q8 a fun aw j a=>?_;refine Yu (fun l=>l = aw) (fun l=>⟨[(0,.hs 0 1 0 c.2.length),(2,q9 f),(3,q9 g),(8,q9 c.1),(9,q9 l)],[(0,.dat 1 (c.2.map (eI .i64)))],1⟩) qe ?_ ?_
 ·refine qo J j (fun _ j=>?_) (fun _ j=>?_)
  ·refine qw<|U J<|O _ J<|qc J<|qv ?_;cases j;exact ⟨_,J,wkA [] [] []⟩
  refine ql<|Qh ?_;cases j;exact ⟨_,J,wkA [] [] []⟩
 intro l hb;subst hb;refine qf<|qf<|Qi [q0,q0,qu 0,q0,q0,q0,q0,q0,qu 0,q0,q0,q0,q0,q0] qh<|U J<|U J<|U J<|O _ J<|q8 a fun ax af a=>Q0 af J J<|Qd _ af J<|U J<|U J<|U J<|O _ J<|q8 a fun ay ag a=>Q0 ag J J<|Qd _ ag J<|q8 a fun az ba a=>Q5 (J0 ax ay az ba) J<|O _ J<|qa ?_;refine qo J a (fun _ a=>?_) (fun _ a=>?_)
 ·refine q13 ?_;refine ⟨_,qm a,fun hm=>?_⟩;subst hm;cases h;exact ⟨.inr J,_,J,wkA [] [] []⟩
 refine ql<|qf<|Qi [Qu 0,q0,Qu 0,q0,qu 0,q0,q0,q0,q0,q0,qu 0,q0,q0,q0,q0,q0,q0,q0,q0,q0,q0,q0,q0,q0] qh<|U J<|U J<|U J<|O _ J<|U J<|U J<|U J<|O _ J<|U J<|U J<|U J<|O _ J<|q8 a fun ah ai a=>Q0 ai J J<|Qd _ ai J<|U J<|U J<|U J<|O _ J<|q8 a fun aj ak a=>Q0 ak J J<|Qd _ ak J<|q8 a fun bc al a=>Q0 al J J<|K5 (ds:=[q7 ah]) ah al J J J J J J J J (leb J) J<|q8 a fun bd am a=>Q0 am qe J<|K5 (ds:=[q7 aj]) aj am J J J J J J J J (leb J) J<|qa<|qw<|U J<|qc J<|qv<|Qp<|Qh<|⟨_,qm a,wkE [] [] [] J ⟨⟨_,J,K7 qe J qx (ltd J)⟩,qq J,qq J,qq J,trivial⟩ ⟨Qs J J,trivial⟩⟩
theorem qzh (l : List Int) (b : Int) (g : Int) (r : List Int) (h : q6x  l b g = some r) : K9 Tryz.prog tab 147 [.hs 0 1 0 l.length,q9 b,q9 g] [(0,.dat 1 (l.map (eI .i64)))] 1 (.d (.tup [])) [(0,.dat 1 (r.map (eI .i64)))] 1:=by
 unfold q6x at h;refine Ks Tryz.func147 J qh qh J<|qd<|U J<|qc J<|qt<|qc J<|qt<|U J<|U J<|O _ J<|qc J<|qa<|qf<|qd<|U J<|O _ J<|O _ J<|qc J<|qa<|q8 h fun p w h=>?_;refine Qj (fun j=>j = p) (fun j=>⟨[(0,.hs 0 1 0 j.length),(6,q9 b),(7,q9 0),(8,.d (q7 (w64 (g - b))))],[(0,.dat 1 (j.map (eI .i64)))],1⟩) qe ?_ ?_
 ·refine Qf (q6y g b) (fun k=>⟨[(0,.hs 0 1 0 k.2.length),(6,q9 b),(7,q9 0),(8,.d (q7 (w64 (g - b)))),(9,q9 k.1)],[(0,.dat 1 (k.2.map (eI .i64)))],1⟩) (w64 (Int.tdiv (w64 ((w64 (g - b)) - 1)) 2),l) p w (wkA [] [] []) ?_;intro k af c;unfold q6y at c;refine qf<|qd<|U J<|O _ J<|qa ?_;refine qo J c (fun _ c=>?_) (fun _ c=>?_)
  ·refine ql<|qf<|Q4<|qw<|U J<|U J<|U J<|U J<|q8 c fun q x c=>q8 c fun ag y c=>?_;have z:=Kn y;refine Ka [(0,0)] [(0,0)] _ (.d (.tup [])) 1 [(0,.dat 1 (q.map (eI .i64)))] 1 (qnp k.2 k.1 (w64 (g - b)) b q x)<|qv<|Qp<|qw<|U J<|O _ J<|qc J<|qv<|⟨_,qm c,wkE [] [] [] J ⟨⟨_,J,K7 (by simp [z]) J qx (ltd J)⟩,qq J,qq J,qq J,qq J,trivial⟩ ⟨Qs J J,trivial⟩⟩
  refine Qa ?_;refine ⟨_,qm c,fun hm=>?_⟩;subst hm;exact ⟨_,J,wkA [] [] []⟩
 intro j hb;subst hb;refine qd<|U J<|O _ J<|qc J<|qa<|q8 h fun aa ab h=>Q4<|Qf (q6z b) (fun f=>⟨[(0,.hs 0 1 0 f.2.length),(6,q9 b),(7,q9 0),(10,q9 f.1)],[(0,.dat 1 (f.2.map (eI .i64)))],1⟩) (w64 ((w64 (g - b)) - 1),j) aa ab (wkA [] [] []) ?_;intro f ah a;unfold q6z at a;refine qf<|qd<|U J<|O _ J<|qa ?_;refine qo J a (fun _ a=>?_) (fun _ a=>?_)
 ·refine ql<|qf<|Q4<|qf<|Qi [Qu 0,q0,Qu 0,q0,qu 0,q0,q0,q0,qu 0,q0,q0,q0,q0,q0,q0,q0,q0,q0,q0,q0] qh<|U J<|U J<|U J<|U J<|U J<|O _ J<|U J<|U J<|U J<|O _ J<|q8 a fun m s a=>Q0 s J J<|Qd _ s J<|U J<|U J<|q8 a fun n t a=>Q0 t J J<|Qd _ t J<|q8 a fun ai u a=>Q0 u J J<|K5 (ds:=[q7 m]) m u J J J J J J J J (leb J) J<|q8 a fun aj v a=>Q0 v qe J<|K5 (ds:=[q7 n]) n v J J J J J J J J (leb J) J<|qa<|qw<|U J<|U J<|U J<|U J<|q8 a fun o ac a=>q8 a fun ak ad a=>?_;have ae:=Kn ad;refine U3 [(0,0)] [(0,0)] [.hs 0 1 0 f.2.length,q9 0,q9 f.1,q9 b] (.d (.tup [])) [(0,.dat 1 (o.map (eI .i64)))] [(0,.dat 1 (o.map (eI .i64)))] 1 (qnp ((f.2.set b.toNat m).set (w64 (b + f.1)).toNat n) 0 f.1 b o ac) J J J (Ym [(0,0)] [] [] J ⟨⟨_,J,K7 qe J qx (ltd J)⟩,qq J,qq J,qq J,trivial⟩ ⟨Qs J J,trivial⟩) (Ym [(0,0)] [] [] J ⟨qq J,trivial⟩ ⟨Qs J J,trivial⟩) J ⟨.inl J,trivial⟩<|qv<|Qp<|qw<|U J<|O _ J<|qc J<|qv<|⟨_,qm a,wkE [] [] [] J ⟨⟨_,J,K7 (by simp [ae]) J qx (ltd J)⟩,qq J,qq J,qq J,trivial⟩ ⟨Qs J J,trivial⟩⟩
 refine Qa ?_;refine ⟨_,qm a,fun hm=>?_⟩;subst hm;cases h;exact ⟨.inl J,_,J,wkA [] [] []⟩
theorem qha (b : List Int) (c : Int) (f : Int) (g : Int) (r : Int × Int × Int) (a : q36  b c f g = some r) : K9 Tryz.prog tab 174 [.d (.sl 1 (b.map (eI .i64))),q9 c,q9 f,.ref 0 1 0 0] [(0,.dat 1 [[q7 g]])] 1 (.d (.tup [q7 r.1,q7 r.2.1])) [(0,.dat 1 [[q7 r.2.2]])] 1:=by
 unfold q36 at a;refine Ks Tryz.func174 J qh qh J<|qd<|qc J<|qc J<|qa<|qf<|qf<|Qi [q0,q0,q0,q0,q0,q0,q0,q0,q0] qh<|U J<|U J<|q8 a fun h j a=>Qc j J<|O _ J<|U J<|U J<|q8 a fun k l a=>Qc l J<|O _ J<|q8 a fun m n a=>Q5 (J0 h k m n) J<|qa ?_;refine qo J a (fun _ a=>?_) (fun _ a=>?_)
 ·refine qd<|U J<|O _ J<|O _ J<|O _ J<|O _ J<|Ql 0 _ J<|qt<|U J<|U J<|qc J<|qc J<|qs ?_;cases a;exact ⟨.inr J,_,J,wkA [] [] []⟩
 refine ql<|qd<|U J<|U J<|qc J<|qc J<|qs ?_;cases a;exact ⟨.inr J,_,J,wkA [] [] []⟩
theorem qnm (f : List Int) (h : Int) (j : Int) (k : Int) (l : Int) (r : Int × Int) (a : q4e  f h j k l = some r) : K9 Tryz.prog tab 169 [.d (.sl 1 (f.map (eI .i64))),q9 h,q9 j,q9 k,.ref 0 1 0 0] [(0,.dat 1 [[q7 l]])] 1 (q9 r.1) [(0,.dat 1 [[q7 r.2]])] 1:=by
 unfold q4e at a;refine Ks Tryz.func169 J qh qh J<|qd<|qc J<|qt<|U J<|U J<|U J<|U J<|q8 a fun b m a=>Ka [(0,0)] [(0,0)] _ (.d (.tup [q7 b.1,q7 b.2.1])) 1 [(0,.dat 1 [[q7 b.2.2]])] 1 (qha f h j l b m)<|U J<|O _ J<|O _ J<|qc J<|qc J<|qt<|U J<|U J<|U J<|U J<|q8 a fun c n a=>Ka [(0,0)] [(0,0)] _ (.d (.tup [q7 c.1,q7 c.2.1])) 1 [(0,.dat 1 [[q7 c.2.2]])] 1 (qha f b.2.1 k b.2.2 c n)<|U J<|O _ J<|O _ J<|qc J<|qc J<|qt<|U J<|U J<|U J<|U J<|q8 a fun g o a=>Ka [(0,0)] [(0,0)] _ (.d (.tup [q7 g.1,q7 g.2.1])) 1 [(0,.dat 1 [[q7 g.2.2]])] 1 (qha f b.1 c.1 c.2.2 g o)<|U J<|O _ J<|O _ J<|qc J<|qc J<|qt ?_;refine U J<|qc J<|qs ?_;cases a;exact ⟨.inr J,_,J,wkA [] [] []⟩
theorem qh8 (c : List Int) (a : Int) (f : Int) (r : Int × Int) (b : q35  c a f = some r) : K9 Tryz.prog tab 168 [.d (.sl 1 (c.map (eI .i64))),q9 a,.ref 0 1 0 0] [(0,.dat 1 [[q7 f]])] 1 (q9 r.1) [(0,.dat 1 [[q7 r.2]])] 1:=by
 unfold q35 at b;refine Ks Tryz.func168 J qh qh J<|qd<|qc J<|qt<|U J<|U J<|O _ J<|U J<|U J<|O _ J<|U J<|q8 b fun g h b=>Ka [(0,0)] [(0,0)] _ (q9 g.1) 1 [(0,.dat 1 [[q7 g.2]])] 1 (qnm c (w64 (a - 1)) a (w64 (a + 1)) f g h)<|qc J<|qs ?_;cases b;exact ⟨.inr J,_,J,wkA [] [] []⟩
theorem qzf (h : List Int) (g : Int) (j : Int) (r : Int × Int) (a : q6w h g j = some r) : Pure Tryz.prog tab 149 [.sl 1 (h.map (eI .i64)),q7 g,q7 j] (.tup [q7 r.1,q7 r.2]):=by
 unfold q6w at a;refine Qn Tryz.func149 J qh qh J<|qd<|qc J<|qc J<|qt<|U J<|U J<|O _ J<|qc J<|qt<|K2 J J<|qt<|U J<|U J<|O _ J<|O _ J<|O _ J<|qc J<|qt<|U J<|U J<|O _ J<|O _ J<|O _ J<|qc J<|qt<|U J<|U J<|O _ J<|O _ J<|O _ J<|qc J<|qa<|qf<|qd<|U J<|O _ J<|qa<|q8 a fun p f a=>?_;refine Yu (fun k=>k = p) (fun k=>⟨[(9,.ref 0 1 0 0),(11,q9 k.1)],[(0,.dat 1 [[q7 k.2]])],1⟩) qe ?_ ?_
 ·refine qo J f (fun _ f=>?_) (fun _ f=>?_)
  ·refine qf<|qd<|U J<|O _ J<|qa<|q8 f fun q b f=>?_;refine Yu (fun c=>c = q) (fun c=>⟨[(0,.d (.sl 1 (h.map (eI .i64)))),(9,.ref 0 1 0 0),(10,q9 c.1),(11,q9 c.2.1),(12,q9 c.2.2.1)],[(0,.dat 1 [[q7 c.2.2.2]])],1⟩) qe ?_ ?_
   ·refine qo J b (fun _ b=>?_) (fun _ b=>?_)
    ·refine qd<|U J<|U J<|q8 b fun l s b=>Ka [(0,0)] [(0,0)] _ (q9 l.1) 1 [(0,.dat 1 [[q7 l.2]])] 1 (qh8 h (w64 (g + (w64 ((w64 (Int.tdiv (w64 (j - g)) 4)) * 1)))) 0 l s)<|qc J<|qt<|U J<|U J<|q8 b fun m t b=>Ka [(0,0)] [(0,0)] _ (q9 m.1) 1 [(0,.dat 1 [[q7 m.2]])] 1 (qh8 h (w64 (g + (w64 ((w64 (Int.tdiv (w64 (j - g)) 4)) * 2)))) l.2 m t)<|qc J<|qa<|qw<|U J<|U J<|q8 b fun n u b=>Ka [(0,0)] [(0,0)] _ (q9 n.1) 1 [(0,.dat 1 [[q7 n.2]])] 1 (qh8 h (w64 (g + (w64 ((w64 (Int.tdiv (w64 (j - g)) 4)) * 3)))) m.2 n u)<|qc J<|qv ?_;cases b;exact ⟨_,J,wkA [(0,0)] [] []⟩
    refine ql<|Qh ?_;cases b;exact ⟨_,J,wkA [(0,0)] [] []⟩
   intro c hb;subst hb;refine qw<|U J<|U J<|U J<|U J<|q8 f fun o v f=>Ka [(0,0)] [(0,0)] _ (q9 o.1) 1 [(0,.dat 1 [[q7 o.2]])] 1 (qnm h c.1 c.2.1 c.2.2.1 c.2.2.2 o v)<|qc J<|qv ?_;cases f;exact ⟨_,J,wkA [(0,0)] [] []⟩
  refine ql<|Qh ?_;cases f;exact ⟨_,J,wkA [(0,0)] [] []⟩
 intro k hb;subst hb;refine qd<|O _ J<|qa<|Q4<|qd<|O _ J<|qc J<|qa ?_;refine qo J a (fun _ a=>?_) (fun _ a=>?_)
 ·refine qd<|U J<|qc J<|qc J<|qs ?_;cases a;exact Q6 _ J
 refine qd<|O _ J<|qc J<|qa ?_;refine qo J a (fun _ a=>?_) (fun _ a=>?_)
 ·refine qd<|U J<|qc J<|qc J<|qs ?_;cases a;exact Q6 _ J
 refine qd<|U J<|qc J<|qc J<|qs ?_;cases a;exact Q6 _ J
theorem qzv (c : List Int) (g : Int) (h : Int) (r : List Int) (f : q7m  c g h = some r) : K9 Tryz.prog tab 150 [.hs 0 1 0 c.length,q9 g,q9 h] [(0,.dat 1 (c.map (eI .i64)))] 1 (.d (.tup [])) [(0,.dat 1 (r.map (eI .i64)))] 1:=by
 unfold q7m at f;refine Ks Tryz.func150 J qh qh J<|qd<|U J<|qc J<|qt<|U J<|O _ J<|qc J<|qa<|q8 f fun p q f=>Q4<|Qf (qaq) (fun b=>⟨[(0,.hs 0 1 0 b.2.2.length),(6,q9 b.1),(7,q9 b.2.1)],[(0,.dat 1 (b.2.2.map (eI .i64)))],1⟩) (g,w64 (h - 1),c) p q (wkA [] [] []) ?_;intro b s a;unfold qaq at a;refine qf<|qd<|U J<|U J<|O _ J<|qa ?_;refine qo J a (fun _ a=>?_) (fun _ a=>?_)
 ·refine ql<|Q4<|qf<|Qi [Qu 0,q0,Qu 0,q0,qu 0,q0,q0,q0,qu 0,q0,q0,q0,q0,q0,q0,q0] qh<|U J<|U J<|U J<|U J<|U J<|U J<|q8 a fun j k a=>Q0 k J J<|Qd _ k J<|U J<|U J<|q8 a fun l m a=>Q0 m J J<|Qd _ m J<|q8 a fun t n a=>Q0 n J J<|K5 (ds:=[q7 j]) j n J J J J J J J J (leb J) J<|q8 a fun u o a=>Q0 o qe J<|K5 (ds:=[q7 l]) l o J J J J J J J J (leb J) J<|qt<|U J<|O _ J<|qc J<|qa<|qw<|U J<|O _ J<|qc J<|qv<|Qp<|Qh<|⟨_,qm a,wkE [] [] [] J ⟨⟨_,J,K7 qe J qx (ltd J)⟩,qq J,qq J,trivial⟩ ⟨Qs J J,trivial⟩⟩
 refine Qa ?_;refine ⟨_,qm a,fun hm=>?_⟩;subst hm;cases f;exact ⟨.inl J,_,J,wkA [] [] []⟩
theorem qzl (q : List Int) (h : Int) (f : Int) (r : Bool × List Int) (n : q4g  q h f = some r) : K9 Tryz.prog tab 151 [.hs 0 1 0 q.length,q9 h,q9 f] [(0,.dat 1 (q.map (eI .i64)))] 1 (qz r.1) [(0,.dat 1 (r.2.map (eI .i64)))] 1:=by
 unfold q4g at n;refine Ks Tryz.func151 J qh qh J<|qd<|qc J<|qt<|U J<|O _ J<|qc J<|qa<|qf<|qd<|qc J<|qa<|q8 n fun z bk n=>?_;refine Qj (fun s=>.inl s = z) (fun s=>⟨[],[(0,.dat 1 (s.map (eI .i64)))],1⟩) qe ?_ ?_
 ·refine Qf (q4h f h) (fun d=>⟨[(0,.hs 0 1 0 d.2.2.length),(1,q9 h),(2,q9 f),(7,q9 d.1),(8,q9 d.2.1)],[(0,.dat 1 (d.2.2.map (eI .i64)))],1⟩) (w64 (h + 1),0,q) z bk (wkA [] [] []) ?_;intro d ch k;unfold q4h at k;refine qf<|qd<|U J<|O _ J<|qa ?_;refine qo J k (fun _ k=>?_) (fun _ k=>?_)
  ·refine ql<|qf<|q8 k fun bl a k=>?_;refine Qj (fun o=>.inl o = bl) (fun o=>⟨[(0,.hs 0 1 0 o.2.length),(1,q9 h),(2,q9 f),(7,q9 o.1),(8,q9 d.2.1)],[(0,.dat 1 (o.2.map (eI .i64)))],1⟩) qe ?_ ?_
   ·refine qf<|q8 a fun aa bm a=>?_;refine Qj (fun g=>g = aa) (fun g=>⟨[(0,.hs 0 1 0 d.2.2.length),(1,q9 h),(2,q9 f),(7,q9 g),(8,q9 d.2.1)],[(0,.dat 1 (d.2.2.map (eI .i64)))],1⟩) qe ?_ ?_
    ·refine Qf (q76 f d) (fun ab=>⟨[(0,.hs 0 1 0 d.2.2.length),(1,q9 h),(2,q9 f),(7,q9 ab),(8,q9 d.2.1)],[(0,.dat 1 (d.2.2.map (eI .i64)))],1⟩) d.1 aa bm (wkA [] [] []) ?_;intro ab ci l;unfold q76 at l;refine qf<|qf<|Qi [q0,q0,q0,qu 0,q0,q0,q0,q0,qu 0,q0,q0,q0,q0,q0,q0,q0] qh<|U J<|U J<|O _ J<|q8 l fun bn j l=>?_;refine Qb 13 (fun A st=>∃ ac ad ae af ag ah ai aj ak al am an,st = A [(32,qz bn),(31,an),(30,am),(29,al),(28,ak),(27,aj),(26,ai),(25,ah),(24,ag),(23,af),(22,ae),(21,ad),(20,ac)]) ?_ ?_
     ·refine Q9 J J j (fun j=>?_) (fun j=>?_)
      ·refine U J<|U J<|q8 j fun bo ao j=>Q0 ao J J<|Qd _ ao J<|U J<|U J<|O _ J<|q8 j fun bp ap j=>Q0 ap J J<|Qd _ ap J<|q8 j fun bq br j=>Q5 (J0 bo bp bq br) J<|O _ J<|O _ J<|qa ?_;cases j;exact ⟨_,_,_,_,_,_,_,_,_,_,_,_,J⟩
      refine qb J<|qb J<|qb J<|qb J<|qb J<|qb J<|qb J<|qb J<|qb J<|qb J<|qb J<|O _ J<|qa ?_;cases j;exact ⟨_,_,_,_,_,_,_,_,_,_,_,_,J⟩
     rintro _ ⟨ac,ad,ae,af,ag,ah,ai,aj,ak,al,am,an,rfl⟩;refine qa ?_;refine qo J l (fun _ l=>?_) (fun _ l=>?_)
     ·refine ql<|Q4<|qw<|U J<|O _ J<|qc J<|qv<|Qp<|Qh<|⟨_,qm l,wkA [] [] []⟩
     refine Qa ?_;refine ⟨_,qm l,fun hm=>?_⟩;subst hm;exact ⟨_,J,wkA [] [] []⟩
    intro g hb;subst hb;refine qf<|qd<|U J<|U J<|O _ J<|qa ?_;refine qo J a (fun _ a=>?_) (fun _ a=>?_)
    ·refine qd<|qc J<|qs ?_;cases a;refine ⟨_,qm k,fun hm=>?_⟩;subst hm;cases n;exact ⟨.inr J,_,J,wkA [] [] []⟩
    refine ql<|qf<|qd<|U J<|U J<|O _ J<|O _ J<|qa ?_;refine qo J a (fun _ a=>?_) (fun _ a=>?_)
    ·refine qd<|qc J<|qs ?_;cases a;refine ⟨_,qm k,fun hm=>?_⟩;subst hm;cases n;exact ⟨.inr J,_,J,wkA [] [] []⟩
    refine ql<|qf<|Qi [Qu 0,q0,Qu 0,q0,qu 0,q0,q0,q0,qu 0,q0,q0,q0,q0,q0,q0,q0,q0,q0] qh<|U J<|U J<|U J<|U J<|O _ J<|U J<|U J<|O _ J<|q8 a fun v aq a=>Q0 aq J J<|Qd _ aq J<|U J<|U J<|q8 a fun w ar a=>Q0 ar J J<|Qd _ ar J<|q8 a fun cj au a=>Q0 au J J<|K5 (ds:=[q7 v]) v au J J J J J J J J (leb J) J<|q8 a fun ck av a=>Q0 av qe J<|K5 (ds:=[q7 w]) w av J J J J J J J J (leb J) J<|qa<|qf<|qd<|U J<|U J<|O _ J<|O _ J<|qa<|q8 a fun bs m a=>?_;refine Yu (fun p=>p = bs) (fun p=>⟨[(0,.hs 0 1 0 p.length),(1,q9 h),(2,q9 f),(7,q9 g),(8,q9 d.2.1)],[(0,.dat 1 (p.map (eI .i64)))],1⟩) qe ?_ ?_
    ·refine qo J m (fun _ m=>?_) (fun _ m=>?_)
     ·refine qd<|U J<|O _ J<|qc J<|qa<|q8 m fun bt bu m=>Q4<|Qf (qad) (fun t=>⟨[(0,.hs 0 1 0 t.2.length),(1,q9 h),(2,q9 f),(7,q9 g),(8,q9 d.2.1),(9,q9 t.1)],[(0,.dat 1 (t.2.map (eI .i64)))],1⟩) (w64 (g - 1),(d.2.2.set g.toNat v).set (w64 (g - 1)).toNat w) bt bu (wkE [] [] [] J ⟨⟨_,J,K7 qe J qx (ltd J)⟩,qq J,qq J,qq J,qq J,qq J,trivial⟩ ⟨Qs J J,trivial⟩) ?_;intro t cm b;unfold qad at b;refine qf<|qd<|U J<|O _ J<|qa ?_;refine qo J b (fun _ b=>?_) (fun _ b=>?_)
      ·refine ql<|qf<|Q4<|qf<|qf<|Qi [q0,q0,qu 0,q0,q0,q0,q0,qu 0,q0,q0,q0] qh<|U J<|U J<|q8 b fun bv aw b=>Q0 aw J J<|Qd _ aw J<|U J<|U J<|O _ J<|q8 b fun bw ax b=>Q0 ax J J<|Qd _ ax J<|q8 b fun bz ca b=>Q5 (J0 bv bw bz ca) J<|O _ J<|qa ?_;refine qo J b (fun _ b=>?_) (fun _ b=>?_)
       ·refine Qa ?_;refine ⟨_,qm b,fun hm=>?_⟩;subst hm;cases m;exact ⟨_,J,wkA [] [] []⟩
       refine ql<|Qi [Qu 0,q0,Qu 0,q0,qu 0,q0,q0,q0,qu 0,q0,q0,q0,q0,q0,q0,q0,q0,q0] qh<|U J<|U J<|U J<|U J<|O _ J<|U J<|U J<|O _ J<|q8 b fun ay az b=>Q0 az J J<|Qd _ az J<|U J<|U J<|q8 b fun x ba b=>Q0 ba J J<|Qd (q9 x) ba J<|q8 b fun cn bb b=>Q0 bb J J<|K5 (ds:=[q7 ay]) ay bb J J J J J J J J (leb J) J<|q8 b fun co bc b=>Q0 bc qe J<|K5 (ds:=[q7 x]) x bc J J J J J J J J (leb J) J<|qv<|Qp<|qw<|U J<|O _ J<|qc J<|qv<|⟨_,qm b,wkE [] [] [] J ⟨⟨_,J,K7 qe J qx (ltd J)⟩,qq J,qq J,qq J,qq J,qq J,trivial⟩ ⟨Qs J J,trivial⟩⟩
      refine Qa ?_;refine ⟨_,qm b,fun hm=>?_⟩;subst hm;cases m;exact ⟨_,J,wkA [] [] []⟩
     refine ql<|Qh ?_;cases m;exact ⟨_,J,wkE [] [] [] J ⟨⟨_,J,K7 qe J qx (ltd J)⟩,qq J,qq J,qq J,qq J,trivial⟩ ⟨Qs J J,trivial⟩⟩
    intro p hb;subst hb;refine qd<|U J<|U J<|O _ J<|O _ J<|qa ?_;refine qo J a (fun _ a=>?_) (fun _ a=>?_)
    ·refine qd<|U J<|O _ J<|qc J<|qa<|q8 a fun cb cc a=>Q4<|Qf (q77 f g) (fun u=>⟨[(0,.hs 0 1 0 u.2.length),(1,q9 h),(2,q9 f),(7,q9 g),(8,q9 d.2.1),(10,q9 u.1)],[(0,.dat 1 (u.2.map (eI .i64)))],1⟩) (w64 (g + 1),p) cb cc (wkA [] [] []) ?_;intro u cp c;unfold q77 at c;refine qf<|qd<|U J<|U J<|O _ J<|qa ?_;refine qo J c (fun _ c=>?_) (fun _ c=>?_)
     ·refine ql<|qf<|Q4<|qf<|qf<|Qi [q0,q0,qu 0,q0,q0,q0,q0,qu 0,q0,q0,q0] qh<|U J<|U J<|q8 c fun cd bd c=>Q0 bd J J<|Qd _ bd J<|U J<|U J<|O _ J<|q8 c fun ce be c=>Q0 be J J<|Qd _ be J<|q8 c fun cf cg c=>Q5 (J0 cd ce cf cg) J<|O _ J<|qa ?_;refine qo J c (fun _ c=>?_) (fun _ c=>?_)
      ·refine Qa ?_;refine ⟨_,qm c,fun hm=>?_⟩;subst hm;cases a;exact ⟨_,J,wkA [] [] []⟩
      refine ql<|Qi [Qu 0,q0,Qu 0,q0,qu 0,q0,q0,q0,qu 0,q0,q0,q0,q0,q0,q0,q0,q0,q0] qh<|U J<|U J<|U J<|U J<|O _ J<|U J<|U J<|O _ J<|q8 c fun bf bg c=>Q0 bg J J<|Qd _ bg J<|U J<|U J<|q8 c fun y bh c=>Q0 bh J J<|Qd (q9 y) bh J<|q8 c fun cq bi c=>Q0 bi J J<|K5 (ds:=[q7 bf]) bf bi J J J J J J J J (leb J) J<|q8 c fun cr bj c=>Q0 bj qe J<|K5 (ds:=[q7 y]) y bj J J J J J J J J (leb J) J<|qv<|Qp<|qw<|U J<|O _ J<|qc J<|qv<|⟨_,qm c,wkE [] [] [] J ⟨⟨_,J,K7 qe J qx (ltd J)⟩,qq J,qq J,qq J,qq J,qq J,trivial⟩ ⟨Qs J J,trivial⟩⟩
     refine Qa ?_;refine ⟨_,qm c,fun hm=>?_⟩;subst hm;cases a;exact ⟨_,J,wkA [] [] []⟩
    refine ql<|Qh ?_;cases a;exact ⟨_,J,wkA [] [] []⟩
   intro o hb;subst hb;refine qw<|U J<|O _ J<|qc J<|qv<|⟨_,qm k,wkA [] [] []⟩
  refine Qa ?_;refine ⟨_,qm k,fun hm=>?_⟩;subst hm;exact ⟨_,J,wkA [] [] []⟩
 intro s hb;subst hb;refine qd<|qc J<|qs ?_;cases n;exact ⟨.inr J,_,J,wkA [] [] []⟩
theorem qzo (m : List Int) (c : Int) (o : Int) (p : Int) (r : Int × List Int) (d : q78  m c o p = some r) : K9 Tryz.prog tab 153 [.hs 0 1 0 m.length,q9 c,q9 o,q9 p] [(0,.dat 1 (m.map (eI .i64)))] 1 (q9 r.1) [(0,.dat 1 (r.2.map (eI .i64)))] 1:=by
 unfold q78 at d;refine Ks Tryz.func153 J qh qh J<|qd<|qc J<|qa<|qf<|Qi [Qu 0,q0,Qu 0,q0,qu 0,q0,q0,q0,qu 0,q0,q0,q0,q0,q0,q0,q0] qh<|U J<|U J<|U J<|U J<|U J<|U J<|q8 d fun q u d=>Q0 u J J<|Qd _ u J<|U J<|U J<|q8 d fun s v d=>Q0 v J J<|Qd _ v J<|q8 d fun bw w d=>Q0 w J J<|K5 (ds:=[q7 q]) q w J J J J J J J J (leb J) J<|q8 d fun bz x d=>Q0 x qe J<|K5 (ds:=[q7 s]) s x J J J J J J J J (leb J) J<|qt<|U J<|O _ J<|U J<|O _ J<|qc J<|qc J<|qa<|qf<|q8 d fun y bj d=>?_;refine Qj (fun l=>l = y) (fun l=>⟨[(9,q9 l.1)],[(0,.dat 1 (l.2.map (eI .i64)))],1⟩) qe ?_ ?_
 ·refine Qf (q79 c) (fun a=>⟨[(0,.hs 0 1 0 a.2.2.length),(1,q9 c),(9,q9 a.1),(10,q9 a.2.1)],[(0,.dat 1 (a.2.2.map (eI .i64)))],1⟩) (w64 (c + 1),w64 (o - 1),(m.set c.toNat q).set p.toNat s) y bj (wkE [] [] [] J ⟨⟨_,J,K7 qe J qx (ltd J)⟩,qq J,qq J,qq J,trivial⟩ ⟨Qs J J,trivial⟩) ?_;intro a ca b;unfold q79 at b;refine Q4<|qf<|q8 b fun z bk b=>?_;refine Qj (fun k=>k = z) (fun k=>⟨[(0,.hs 0 1 0 a.2.2.length),(1,q9 c),(9,q9 k),(10,q9 a.2.1)],[(0,.dat 1 (a.2.2.map (eI .i64)))],1⟩) qe ?_ ?_
  ·refine Qf (q7a a c) (fun aa=>⟨[(0,.hs 0 1 0 a.2.2.length),(1,q9 c),(9,q9 aa),(10,q9 a.2.1)],[(0,.dat 1 (a.2.2.map (eI .i64)))],1⟩) a.1 z bk (wkA [] [] []) ?_;intro aa cb h;unfold q7a at h;refine qf<|qf<|Qi [q0,q0,q0,qu 0,q0,q0,q0,qu 0,q0,q0,q0,q0,q0,q0,q0] qh<|U J<|U J<|O _ J<|q8 h fun bl f h=>?_;refine Qb 12 (fun A st=>∃ ab ac ad ae af ag ah ai aj ak al,st = A [(43,qz bl),(42,al),(41,ak),(40,aj),(39,ai),(38,ah),(37,ag),(36,af),(35,ae),(34,ad),(33,ac),(32,ab)]) ?_ ?_
   ·refine Q9 J J f (fun f=>?_) (fun f=>?_)
    ·refine U J<|U J<|q8 f fun bm am f=>Q0 am J J<|Qd _ am J<|U J<|U J<|q8 f fun bn an f=>Q0 an J J<|Qd _ an J<|q8 f fun bo bp f=>Q5 (J0 bm bn bo bp) J<|O _ J<|O _ J<|qa ?_;cases f;exact ⟨_,_,_,_,_,_,_,_,_,_,_,J⟩
    refine qb J<|qb J<|qb J<|qb J<|qb J<|qb J<|qb J<|qb J<|qb J<|qb J<|O _ J<|qa ?_;cases f;exact ⟨_,_,_,_,_,_,_,_,_,_,_,J⟩
   rintro _ ⟨ab,ac,ad,ae,af,ag,ah,ai,aj,ak,al,rfl⟩;refine qa ?_;refine qo J h (fun _ h=>?_) (fun _ h=>?_)
   ·refine ql<|Q4<|qw<|U J<|O _ J<|qc J<|qv<|Qp<|Qh<|⟨_,qm h,wkA [] [] []⟩
   refine Qa ?_;refine ⟨_,qm h,fun hm=>?_⟩;subst hm;exact ⟨_,J,wkA [] [] []⟩
  intro k hb;subst hb;refine qf<|q8 b fun ao bq b=>?_;refine Qj (fun n=>n = ao) (fun n=>⟨[(0,.hs 0 1 0 a.2.2.length),(1,q9 c),(9,q9 k),(10,q9 n)],[(0,.dat 1 (a.2.2.map (eI .i64)))],1⟩) qe ?_ ?_
  ·refine Qf (q7b k a c) (fun ap=>⟨[(0,.hs 0 1 0 a.2.2.length),(1,q9 c),(9,q9 k),(10,q9 ap)],[(0,.dat 1 (a.2.2.map (eI .i64)))],1⟩) a.2.1 ao bq (wkA [] [] []) ?_;intro ap cc j;unfold q7b at j;refine qf<|qf<|Qi [q0,q0,qu 0,q0,q0,q0,qu 0,q0,q0,q0,q0,q0,q0,q0] qh<|U J<|U J<|O _ J<|q8 j fun br g j=>?_;refine Qb 11 (fun A st=>∃ aq ar au av aw ax ay az ba bb,st = A [(59,qz br),(58,bb),(57,ba),(56,az),(55,ay),(54,ax),(53,aw),(52,av),(51,au),(50,ar),(49,aq)]) ?_ ?_
   ·refine Q9 J J g (fun g=>?_) (fun g=>?_)
    ·refine U J<|U J<|q8 g fun bs bc g=>Q0 bc J J<|Qd _ bc J<|U J<|U J<|q8 g fun bt bd g=>Q0 bd J J<|Qd _ bd J<|q8 g fun bu bv g=>Q5 (J0 bs bt bu bv) J<|O _ J<|qa ?_;cases g;exact ⟨_,_,_,_,_,_,_,_,_,_,J⟩
    refine qb J<|qb J<|qb J<|qb J<|qb J<|qb J<|qb J<|qb J<|qb J<|O _ J<|qa ?_;cases g;exact ⟨_,_,_,_,_,_,_,_,_,_,J⟩
   rintro _ ⟨aq,ar,au,av,aw,ax,ay,az,ba,bb,rfl⟩;refine qa ?_;refine qo J j (fun _ j=>?_) (fun _ j=>?_)
   ·refine ql<|Q4<|qw<|U J<|O _ J<|qc J<|qv<|Qp<|Qh<|⟨_,qm j,wkA [] [] []⟩
   refine Qa ?_;refine ⟨_,qm j,fun hm=>?_⟩;subst hm;exact ⟨_,J,wkA [] [] []⟩
  intro n hb;subst hb;refine qf<|qd<|U J<|U J<|O _ J<|qa ?_;refine qo J b (fun _ b=>?_) (fun _ b=>?_)
  ·refine Qa ?_;refine ⟨_,qm b,fun hm=>?_⟩;subst hm;exact ⟨_,J,wkA [] [] []⟩
  refine ql<|qf<|Qi [Qu 0,q0,Qu 0,q0,qu 0,q0,q0,q0,qu 0,q0,q0,q0,q0,q0,q0,q0] qh<|U J<|U J<|U J<|U J<|U J<|U J<|q8 b fun be bf b=>Q0 bf J J<|Qd _ bf J<|U J<|U J<|q8 b fun t bg b=>Q0 bg J J<|Qd (q9 t) bg J<|q8 b fun cd bh b=>Q0 bh J J<|K5 (ds:=[q7 be]) be bh J J J J J J J J (leb J) J<|q8 b fun ce bi b=>Q0 bi qe J<|K5 (ds:=[q7 t]) t bi J J J J J J J J (leb J) J<|qt<|U J<|O _ J<|qc J<|qa<|qw<|U J<|O _ J<|qc J<|qv<|Qp<|Qh<|⟨_,qm b,wkE [] [] [] J ⟨⟨_,J,K7 qe J qx (ltd J)⟩,qq J,qq J,qq J,trivial⟩ ⟨Qs J J,trivial⟩⟩
 intro l hb;subst hb;refine qd<|U J<|qc J<|qs ?_;cases d;exact ⟨.inr J,_,J,wkA [] [] []⟩
theorem qzp (g : List Int) (b : Int) (s : Int) (k : Int) (r : Int × Bool × List Int) (a : q7c  g b s k = some r) : K9 Tryz.prog tab 154 [.hs 0 1 0 g.length,q9 b,q9 s,q9 k] [(0,.dat 1 (g.map (eI .i64)))] 1 (.d (.tup [q7 r.1,.bool r.2.1])) [(0,.dat 1 (r.2.2.map (eI .i64)))] 1:=by
 unfold q7c at a;refine Ks Tryz.func154 J qh qh J<|qd<|qc J<|qc J<|qa<|qf<|Qi [Qu 0,q0,Qu 0,q0,qu 0,q0,q0,q0,qu 0,q0,q0,q0,q0,q0,q0,q0] qh<|U J<|U J<|U J<|U J<|U J<|U J<|q8 a fun h ao a=>Q0 ao J J<|Qd (q9 h) ao J<|U J<|U J<|q8 a fun j ap a=>Q0 ap J J<|Qd (q9 j) ap J<|q8 a fun fs aq a=>Q0 aq J J<|K5 (ds:=[q7 h]) h aq J J J J J J J J (leb J) J<|q8 a fun ft ar a=>Q0 ar qe J<|K5 (ds:=[q7 j]) j ar J J J J J J J J (leb J) J<|qt<|U J<|O (.d (q7 (w64 (b + 1)))) J<|U J<|O (.d (q7 (w64 (s - 1)))) J<|qc J<|qc J<|qa<|qf<|q8 a fun au fe a=>?_;refine Qj (fun l=>l = au) (fun (l : Int)=>⟨[(0,.hs 0 1 0 ((g.set b.toNat h).set k.toNat j).length),(1,q9 b),(10,q9 l),(11,.d (q7 (w64 (s - 1))))],[(0,.dat 1 (((g.set b.toNat h).set k.toNat j).map (eI .i64)))],1⟩) qe ?_ ?_
 ·refine Qf (q7d s g b h k j) (fun (aa : Int)=>⟨[(0,.hs 0 1 0 ((g.set b.toNat h).set k.toNat j).length),(1,q9 b),(10,q9 aa),(11,.d (q7 (w64 (s - 1))))],[(0,.dat 1 (((g.set b.toNat h).set k.toNat j).map (eI .i64)))],1⟩) (w64 (b + 1)) au fe (wkE [] [] [] J ⟨⟨_,J,K7 qe J qx (ltd J)⟩,qq J,qq J,qq J,trivial⟩ ⟨Qs J J,trivial⟩) ?_;intro aa fu t;unfold q7d at t;refine qf<|qf<|Qi [q0,q0,qu 0,q0,q0,q0,qu 0,q0,q0,q0,q0,q0,q0,q0] qh<|U J<|U J<|O (.d (.bool (decide (aa≤(w64 (s - 1)))))) J<|q8 t fun ff m t=>?_;refine Qb 11 (fun A st=>∃ (av aw ax ay az ba bb bc bd be : V),st = A [(43,qz ff),(42,be),(41,bd),(40,bc),(39,bb),(38,ba),(37,az),(36,ay),(35,ax),(34,aw),(33,av)]) ?_ ?_
  ·refine Q9 J J m (fun m=>?_) (fun m=>?_)
   ·refine U J<|U J<|q8 m fun bf bg m=>Q0 bg J J<|Qd (q9 bf) bg J<|U J<|U J<|q8 m fun bh bi m=>Q0 bi J J<|Qd (q9 bh) bi J<|q8 m fun bj fg m=>Q5 (J0 bf bh bj fg) J<|O (qz bj) J<|qa ?_;cases m;exact ⟨_,_,_,_,_,_,_,_,_,_,J⟩
   refine qb J<|qb J<|qb J<|qb J<|qb J<|qb J<|qb J<|qb J<|qb J<|O (qz false) J<|qa ?_;cases m;exact ⟨_,_,_,_,_,_,_,_,_,_,J⟩
  rintro _ ⟨av,aw,ax,ay,az,ba,bb,bc,bd,be,rfl⟩;refine qa ?_;refine qo J t (fun _ t=>?_) (fun _ t=>?_)
  ·refine ql<|Q4<|qw<|U J<|O (.d (q7 (w64 (aa + 1)))) J<|qc J<|qv<|Qp<|Qh<|⟨_,qm t,wkA [] [] []⟩
  refine Qa ?_;refine ⟨_,qm t,fun hm=>?_⟩;subst hm;exact ⟨_,J,wkA [] [] []⟩
 intro l hb;subst hb;refine qf<|q8 a fun bk fh a=>?_;refine Qj (fun u=>u = bk) (fun (u : Int)=>⟨[(0,.hs 0 1 0 ((g.set b.toNat h).set k.toNat j).length),(1,q9 b),(10,q9 l),(11,q9 u)],[(0,.dat 1 (((g.set b.toNat h).set k.toNat j).map (eI .i64)))],1⟩) qe ?_ ?_
 ·refine Qf (q7e l g b h k j) (fun (ab : Int)=>⟨[(0,.hs 0 1 0 ((g.set b.toNat h).set k.toNat j).length),(1,q9 b),(10,q9 l),(11,q9 ab)],[(0,.dat 1 (((g.set b.toNat h).set k.toNat j).map (eI .i64)))],1⟩) (w64 (s - 1)) bk fh (wkA [] [] []) ?_;intro ab fv v;unfold q7e at v;refine qf<|qf<|Qi [q0,q0,q0,qu 0,q0,q0,q0,qu 0,q0,q0,q0,q0,q0,q0,q0] qh<|U J<|U J<|O (.d (.bool (decide (l≤ab)))) J<|q8 v fun fi n v=>?_;refine Qb 12 (fun A st=>∃ (bl bm bn bo bp bq br bs bt bu bv : V),st = A [(60,qz fi),(59,bv),(58,bu),(57,bt),(56,bs),(55,br),(54,bq),(53,bp),(52,bo),(51,bn),(50,bm),(49,bl)]) ?_ ?_
  ·refine Q9 J J n (fun n=>?_) (fun n=>?_)
   ·refine U J<|U J<|q8 n fun bw bz n=>Q0 bz J J<|Qd (q9 bw) bz J<|U J<|U J<|q8 n fun ca cb n=>Q0 cb J J<|Qd (q9 ca) cb J<|q8 n fun ag fj n=>Q5 (J0 bw ca ag fj) J<|O (qz (!ag)) J<|O (qz (!ag)) J<|qa ?_;cases n;exact ⟨_,_,_,_,_,_,_,_,_,_,_,J⟩
   refine qb J<|qb J<|qb J<|qb J<|qb J<|qb J<|qb J<|qb J<|qb J<|qb J<|O (qz false) J<|qa ?_;cases n;exact ⟨_,_,_,_,_,_,_,_,_,_,_,J⟩
  rintro _ ⟨bl,bm,bn,bo,bp,bq,br,bs,bt,bu,bv,rfl⟩;refine qa ?_;refine qo J v (fun _ v=>?_) (fun _ v=>?_)
  ·refine ql<|Q4<|qw<|U J<|O (.d (q7 (w64 (ab - 1)))) J<|qc J<|qv<|Qp<|Qh<|⟨_,qm v,wkA [] [] []⟩
  refine Qa ?_;refine ⟨_,qm v,fun hm=>?_⟩;subst hm;exact ⟨_,J,wkA [] [] []⟩
 intro u hb;subst hb;refine qf<|qd<|U J<|U J<|O (.d (.bool (decide (l > u)))) J<|qa ?_;refine qo J a (fun _ a=>?_) (fun _ a=>?_)
 ·refine qf<|Qi [Qu 0,q0,Qu 0,q0,qu 0,q0,q0,q0,qu 0,q0,q0,q0,q0,q0,q0,q0] qh<|U J<|U J<|U J<|U J<|U J<|U J<|q8 a fun ah cc a=>Q0 cc J J<|Qd (q9 ah) cc J<|U J<|U J<|q8 a fun ai cd a=>Q0 cd J J<|Qd (q9 ai) cd J<|q8 a fun fw ce a=>Q0 ce J J<|K5 (ds:=[q7 ah]) ah ce J J J J J J J J (leb J) J<|q8 a fun fx cf a=>Q0 cf qe J<|K5 (ds:=[q7 ai]) ai cf J J J J J J J J (leb J) J<|qt<|U J<|qc J<|qc J<|qs ?_;cases a;exact ⟨.inr J,_,J,wkA [] [] []⟩
 refine ql<|qf<|Qi [Qu 0,q0,Qu 0,q0,qu 0,q0,q0,q0,qu 0,q0,q0,q0,q0,q0,q0,q0] qh<|U J<|U J<|U J<|U J<|U J<|U J<|q8 a fun ac cg a=>Q0 cg J J<|Qd (q9 ac) cg J<|U J<|U J<|q8 a fun ad ch a=>Q0 ch J J<|Qd (q9 ad) ch J<|q8 a fun fy ci a=>Q0 ci J J<|K5 (ds:=[q7 ac]) ac ci J J J J J J J J (leb J) J<|q8 a fun fz cj a=>Q0 cj qe J<|K5 (ds:=[q7 ad]) ad cj J J J J J J J J (leb J) J<|qt<|U J<|O (.d (q7 (w64 (l + 1)))) J<|qc J<|qt<|U J<|O (.d (q7 (w64 (u - 1)))) J<|qc J<|qa<|qf<|q8 a fun ck fk a=>?_;refine Qj (fun y=>y = ck) (fun (y : Int × List Int)=>⟨[(0,.hs 0 1 0 y.2.length),(1,q9 b),(11,q9 y.1)],[(0,.dat 1 (y.2.map (eI .i64)))],1⟩) qe ?_ ?_
 ·refine Qf (q7f b) (fun (c : Int × Int × List Int)=>⟨[(0,.hs 0 1 0 c.2.2.length),(1,q9 b),(10,q9 c.1),(11,q9 c.2.1)],[(0,.dat 1 (c.2.2.map (eI .i64)))],1⟩) (w64 (l + 1),w64 (u - 1),(((g.set b.toNat h).set k.toNat j).set l.toNat ac).set u.toNat ad) ck fk (wkE [] [] [] J ⟨⟨_,J,K7 qe J qx (ltd J)⟩,qq J,qq J,qq J,trivial⟩ ⟨Qs J J,trivial⟩) ?_;intro c ga f;unfold q7f at f;refine Q4<|qf<|q8 f fun cm fl f=>?_;refine Qj (fun q=>q = cm) (fun (q : Int)=>⟨[(0,.hs 0 1 0 c.2.2.length),(1,q9 b),(10,q9 q),(11,q9 c.2.1)],[(0,.dat 1 (c.2.2.map (eI .i64)))],1⟩) qe ?_ ?_
  ·refine Qf (q7g c b) (fun (ae : Int)=>⟨[(0,.hs 0 1 0 c.2.2.length),(1,q9 b),(10,q9 ae),(11,q9 c.2.1)],[(0,.dat 1 (c.2.2.map (eI .i64)))],1⟩) c.1 cm fl (wkA [] [] []) ?_;intro ae gb w;unfold q7g at w;refine qf<|qf<|Qi [q0,q0,qu 0,q0,q0,q0,qu 0,q0,q0,q0,q0,q0,q0,q0] qh<|U J<|U J<|O (.d (.bool (decide (ae≤c.2.1)))) J<|q8 w fun fm o w=>?_;refine Qb 11 (fun A st=>∃ (cn co cp cq cr cs ct cu cv cw : V),st = A [(112,qz fm),(111,cw),(110,cv),(109,cu),(108,ct),(107,cs),(106,cr),(105,cq),(104,cp),(103,co),(102,cn)]) ?_ ?_
   ·refine Q9 J J o (fun o=>?_) (fun o=>?_)
    ·refine U J<|U J<|q8 o fun cx cy o=>Q0 cy J J<|Qd (q9 cx) cy J<|U J<|U J<|q8 o fun cz da o=>Q0 da J J<|Qd (q9 cz) da J<|q8 o fun dc fn o=>Q5 (J0 cx cz dc fn) J<|O (qz dc) J<|qa ?_;cases o;exact ⟨_,_,_,_,_,_,_,_,_,_,J⟩
    refine qb J<|qb J<|qb J<|qb J<|qb J<|qb J<|qb J<|qb J<|qb J<|O (qz false) J<|qa ?_;cases o;exact ⟨_,_,_,_,_,_,_,_,_,_,J⟩
   rintro _ ⟨cn,co,cp,cq,cr,cs,ct,cu,cv,cw,rfl⟩;refine qa ?_;refine qo J w (fun _ w=>?_) (fun _ w=>?_)
   ·refine ql<|Q4<|qw<|U J<|O (.d (q7 (w64 (ae + 1)))) J<|qc J<|qv<|Qp<|Qh<|⟨_,qm w,wkA [] [] []⟩
   refine Qa ?_;refine ⟨_,qm w,fun hm=>?_⟩;subst hm;exact ⟨_,J,wkA [] [] []⟩
  intro q hb;subst hb;refine qf<|q8 f fun dd fo f=>?_;refine Qj (fun z=>z = dd) (fun (z : Int)=>⟨[(0,.hs 0 1 0 c.2.2.length),(1,q9 b),(10,q9 q),(11,q9 z)],[(0,.dat 1 (c.2.2.map (eI .i64)))],1⟩) qe ?_ ?_
  ·refine Qf (q7h q c b) (fun (af : Int)=>⟨[(0,.hs 0 1 0 c.2.2.length),(1,q9 b),(10,q9 q),(11,q9 af)],[(0,.dat 1 (c.2.2.map (eI .i64)))],1⟩) c.2.1 dd fo (wkA [] [] []) ?_;intro af gc x;unfold q7h at x;refine qf<|qf<|Qi [q0,q0,q0,qu 0,q0,q0,q0,qu 0,q0,q0,q0,q0,q0,q0,q0] qh<|U J<|U J<|O (.d (.bool (decide (q≤af)))) J<|q8 x fun fq p x=>?_;refine Qb 12 (fun A st=>∃ (de df dg dh dj dk dl dm dn dp dq : V),st = A [(129,qz fq),(128,dq),(127,dp),(126,dn),(125,dm),(124,dl),(123,dk),(122,dj),(121,dh),(120,dg),(119,df),(118,de)]) ?_ ?_
   ·refine Q9 J J p (fun p=>?_) (fun p=>?_)
    ·refine U J<|U J<|q8 p fun dr dt p=>Q0 dt J J<|Qd (q9 dr) dt J<|U J<|U J<|q8 p fun du dv p=>Q0 dv J J<|Qd (q9 du) dv J<|q8 p fun aj fr p=>Q5 (J0 dr du aj fr) J<|O (qz (!aj)) J<|O (qz (!aj)) J<|qa ?_;cases p;exact ⟨_,_,_,_,_,_,_,_,_,_,_,J⟩
    refine qb J<|qb J<|qb J<|qb J<|qb J<|qb J<|qb J<|qb J<|qb J<|qb J<|O (qz false) J<|qa ?_;cases p;exact ⟨_,_,_,_,_,_,_,_,_,_,_,J⟩
   rintro _ ⟨de,df,dg,dh,dj,dk,dl,dm,dn,dp,dq,rfl⟩;refine qa ?_;refine qo J x (fun _ x=>?_) (fun _ x=>?_)
   ·refine ql<|Q4<|qw<|U J<|O (.d (q7 (w64 (af - 1)))) J<|qc J<|qv<|Qp<|Qh<|⟨_,qm x,wkA [] [] []⟩
   refine Qa ?_;refine ⟨_,qm x,fun hm=>?_⟩;subst hm;exact ⟨_,J,wkA [] [] []⟩
  intro z hb;subst hb;refine qf<|qd<|U J<|U J<|O (.d (.bool (decide (q > z)))) J<|qa ?_;refine qo J f (fun _ f=>?_) (fun _ f=>?_)
  ·refine Qa ?_;refine ⟨_,qm f,fun hm=>?_⟩;subst hm;exact ⟨_,J,wkA [] [] []⟩
  refine ql<|qf<|Qi [Qu 0,q0,Qu 0,q0,qu 0,q0,q0,q0,qu 0,q0,q0,q0,q0,q0,q0,q0] qh<|U J<|U J<|U J<|U J<|U J<|U J<|q8 f fun ak dw f=>Q0 dw J J<|Qd (q9 ak) dw J<|U J<|U J<|q8 f fun al dx f=>Q0 dx J J<|Qd (q9 al) dx J<|q8 f fun gd dy f=>Q0 dy J J<|K5 (ds:=[q7 ak]) ak dy J J J J J J J J (leb J) J<|q8 f fun ge dz f=>Q0 dz qe J<|K5 (ds:=[q7 al]) al dz J J J J J J J J (leb J) J<|qt<|U J<|O (.d (q7 (w64 (q + 1)))) J<|qc J<|qa<|qw<|U J<|O (.d (q7 (w64 (z - 1)))) J<|qc J<|qv<|Qp<|Qh<|⟨_,qm f,wkE [] [] [] J ⟨⟨_,J,K7 qe J qx (ltd J)⟩,qq J,qq J,qq J,trivial⟩ ⟨Qs J J,trivial⟩⟩
 intro y hb;subst hb;refine qf<|Qi [Qu 0,q0,Qu 0,q0,qu 0,q0,q0,q0,qu 0,q0,q0,q0,q0,q0,q0,q0] qh<|U J<|U J<|U J<|U J<|U J<|U J<|q8 a fun am fa a=>Q0 fa J J<|Qd (q9 am) fa J<|U J<|U J<|q8 a fun an fb a=>Q0 fb J J<|Qd (q9 an) fb J<|q8 a fun gf fc a=>Q0 fc J J<|K5 (ds:=[q7 am]) am fc J J J J J J J J (leb J) J<|q8 a fun gg fd a=>Q0 fd qe J<|K5 (ds:=[q7 an]) an fd J J J J J J J J (leb J) J<|qt<|U J<|qc J<|qc J<|qs ?_;cases a;exact ⟨.inr J,_,J,wkA [] [] []⟩
theorem qnn (b : Int) (r : Int) (a : q20 b = some r) : Pure Tryz.prog tab 166 [q7 b] (.int .u64 r):=by
 unfold q20 at a;refine Qn Tryz.func166 J qh qh J<|qd<|qc J<|qt<|U J<|O _ J<|q8 a fun c d a=>Q5 (qg3 (IntKind.wrap .u64 b) c d) J<|q8 a fun g f a=>quf f J J J<|qc J<|qs ?_;cases a;exact Q6 _ J
theorem qnq (a : Int) (r : Int) (b : q21  a = some r) : K9 Tryz.prog tab 167 [.ref 0 1 0 0] [(0,.dat 1 [[.int .u64 a]])] 1 (.d (.int .u64 r)) [(0,.dat 1 [[.int .u64 r]])] 1:=by
 unfold q21 at b;refine Ks Tryz.func167 J qh qh J<|qd<|qc J<|qa<|qf<|Qi [Qu 0,q0,q0,q0,qu 0,q0,q0,qu 0,q0,q0] qh<|U J<|O _ J<|O _ J<|U J<|O _ J<|O _ J<|O _ J<|O _ J<|O _ J<|Ql 0 _ J<|qa<|qf<|Qi [Qu 0,q0,q0,q0,qu 0,q0,q0,qu 0,q0,q0] qh<|U J<|O _ J<|O _ J<|U J<|O _ J<|O _ J<|O _ J<|O _ J<|O _ J<|Ql 0 _ J<|qa<|qf<|Qi [Qu 0,q0,q0,q0,qu 0,q0,q0,qu 0,q0,q0] qh<|U J<|O _ J<|O _ J<|U J<|O _ J<|O _ J<|O _ J<|O _ J ?_;refine O _ J<|Ql 0 _ J<|qt<|U J<|O _ J<|O _ J<|qc J<|qs ?_;cases b;exact ⟨.inr J,_,J,wkA [] [] []⟩
theorem qzd (j : List Int) (b : Int) (g : Int) (r : List Int) (c : q6u  j b g = some r) : K9 Tryz.prog tab 148 [.hs 0 1 0 j.length,q9 b,q9 g] [(0,.dat 1 (j.map (eI .i64)))] 1 (.d (.tup [])) [(0,.dat 1 (r.map (eI .i64)))] 1:=by
 unfold q6u at c;refine Ks Tryz.func148 J qh qh J<|qd<|U J<|U J<|O _ J<|qc J<|qt<|U J<|O _ J<|qa ?_;refine qo J c (fun _ c=>?_) (fun _ c=>?_)
 ·refine qd<|U J<|O _ J<|K2 J J<|Ql 1 _ J<|qt<|U J<|q8 c fun k u c=>Q5 (qnn (w64 (g - b)) k u) J<|qc J<|qt<|U J<|U J<|O _ J<|O _ J<|O _ J<|O _ J<|qc J<|qa<|q8 c fun v w c=>Q4<|Qf (q6v b g k) (fun f=>⟨[(0,.hs 0 1 0 f.2.1.length),(1,q9 b),(6,.d (q7 (w64 (g - b)))),(7,.ref 1 1 0 0),(8,.d (.int .u64 k)),(9,q9 f.1)],[(0,.dat 1 (f.2.1.map (eI .i64))),(1,.dat 1 [[.int .u64 f.2.2]])],2⟩) (w64 ((w64 (b + (w64 ((w64 (Int.tdiv (w64 (g - b)) 4)) * 2)))) - 1),j,IntKind.wrap .u64 (w64 (g - b))) v w (wkA [(1,1)] [] []) ?_;intro f z a;unfold q6v at a;refine qf<|qd<|U J<|U J<|U J<|O _ J<|O _ J<|O _ J<|O _ J<|O _ J<|qa ?_;refine qo J a (fun _ a=>?_) (fun _ a=>?_)
  ·refine ql<|qf<|Q4<|qd<|q8 a fun l x a=>Ka [(0,1)] [(0,1),(1,0)] _ (.d (.int .u64 l)) 1 [(1,.dat 1 [[.int .u64 l]]),(0,.dat 1 (f.2.1.map (eI .i64)))] 2 (qnq f.2.2 l x)<|U J<|O _ J<|O _ J<|O _ J<|qc J<|qa<|qf<|qd<|U J<|U J<|O _ J<|qa<|q8 a fun y h a=>?_;refine Yu (fun m=>m = y) (fun m=>⟨[(0,.hs 0 1 0 f.2.1.length),(1,q9 b),(6,.d (q7 (w64 (g - b)))),(7,.ref 1 1 0 0),(8,.d (.int .u64 k)),(9,q9 f.1),(10,q9 m)],[(0,.dat 1 (f.2.1.map (eI .i64))),(1,.dat 1 [[.int .u64 l]])],2⟩) qe ?_ ?_
   ·refine qo J h (fun _ h=>?_) (fun _ h=>?_)
    ·refine qw<|U J<|U J<|O _ J<|qc J<|qv ?_;cases h;exact ⟨_,J,wkA [(1,1)] [] []⟩
    refine ql<|Qh ?_;cases h;exact ⟨_,J,wkA [(1,1)] [] []⟩
   intro m hb;subst hb;refine Qi [Qu 0,q0,Qu 0,q0,qu 0,q0,q0,q0,qu 0,q0,q0,q0,q0,q0,q0,q0,q0,q0,q0,q0] qh<|U J<|U J<|U J<|U J<|U J<|O _ J<|U J<|U J<|U J<|O _ J<|q8 a fun n o a=>Q0 o J J<|Qd _ o J<|U J<|U J<|q8 a fun p q a=>Q0 q J J<|Qd _ q J<|q8 a fun aa s a=>Q0 s J J<|K5 (ds:=[q7 n]) n s J J J J J J J J (leb J) J<|q8 a fun ab t a=>Q0 t qe J<|K5 (ds:=[q7 p]) p t J J J J J J J J (leb J) J<|qv<|Qp<|qw<|U J<|O _ J<|qc J<|qv<|⟨_,qm a,wkE [(1,1)] [] [] J ⟨⟨_,J,K7 qe J qx (ltd J)⟩,qq J,qq J,⟨_,J,.ref J qx (ltd J)⟩,qq J,qq J,trivial⟩ ⟨Qs J J,Qs J J,trivial⟩⟩
  refine Qa ?_;refine ⟨_,qm a,fun hm=>?_⟩;subst hm;cases c;exact ⟨.inl J,_,J,wkA [] [] []⟩
 refine ql<|Qh ?_;cases c;exact ⟨.inl J,_,J,wkA [] [] []⟩
theorem qzs (rec : List Int→Int→Int→Int→Option (List Int)) (hrec : ∀ (n : List Int) (o : Int) (p : Int) (q : Int) (r : List Int),rec n o p q = some r→K9 Tryz.prog tab 135 [.hs 0 1 0 n.length,q9 o,q9 p,q9 q] [(0,.dat 1 (n.map (eI .i64)))] 1 (.d (.tup [])) [(0,.dat 1 (r.map (eI .i64)))] 1) (n : List Int) (o : Int) (p : Int) (q : Int) (r : List Int) (s : q4j rec  n o p q = some r) : K9 Tryz.prog tab 135 [.hs 0 1 0 n.length,q9 o,q9 p,q9 q] [(0,.dat 1 (n.map (eI .i64)))] 1 (.d (.tup [])) [(0,.dat 1 (r.map (eI .i64)))] 1:=by
 unfold q4j at s;refine Ks Tryz.func135 J qh qh J<|qd<|qc J<|qt<|qc J<|qa<|q8 s fun az ba s=>Q4<|Qf (q4i rec) (fun b=>⟨[(0,.hs 0 1 0 b.2.2.2.2.2.length),(1,q9 b.1),(2,q9 b.2.1),(3,q9 b.2.2.1),(8,qz b.2.2.2.1),(9,qz b.2.2.2.2.1)],[(0,.dat 1 (b.2.2.2.2.2.map (eI .i64)))],1⟩) (o,p,q,true,true,n) az ba (wkA [] [] []) ?_;intro b co a;unfold q4i at a;refine Q4<|qd<|U J<|U J<|O _ J<|qc J<|qa<|qf<|qd<|U J<|O _ J<|qa ?_;refine qo J a (fun _ a=>?_) (fun _ a=>?_)
 ·refine qd<|U J<|U J<|U J<|q8 a fun aa bb a=>q8 a fun cp bc a=>?_;have cq:=Kn bc;refine Ka [(0,0)] [(0,0)] _ (.d (.tup [])) 1 [(0,.dat 1 (aa.map (eI .i64)))] 1 (qzj b.2.2.2.2.2 b.1 b.2.1 aa bb)<|qs ?_;refine ⟨_,qm a,fun hm=>?_⟩;subst hm;cases s;exact ⟨.inr J,_,J,wkA [] [] []⟩
 refine ql<|qf<|qd<|U J<|O _ J<|qa ?_;refine qo J a (fun _ a=>?_) (fun _ a=>?_)
 ·refine qd<|U J<|U J<|U J<|q8 a fun ab bd a=>q8 a fun cr be a=>?_;have cs:=Kn be;refine Ka [(0,0)] [(0,0)] _ (.d (.tup [])) 1 [(0,.dat 1 (ab.map (eI .i64)))] 1 (qzh b.2.2.2.2.2 b.1 b.2.1 ab bd)<|qs ?_;refine ⟨_,qm a,fun hm=>?_⟩;subst hm;cases s;exact ⟨.inr J,_,J,wkA [] [] []⟩
 refine ql<|qf<|qd<|U J<|O _ J<|qa<|q8 a fun bf k a=>?_;refine Yu (fun c=>c = bf) (fun c=>⟨[(0,.hs 0 1 0 c.2.length),(1,q9 b.1),(2,q9 b.2.1),(3,q9 c.1),(8,qz b.2.2.2.1),(9,qz b.2.2.2.2.1),(10,.d (q7 (w64 (b.2.1 - b.1))))],[(0,.dat 1 (c.2.map (eI .i64)))],1⟩) qe ?_ ?_
 ·refine qo J k (fun _ k=>?_) (fun _ k=>?_)
  ·refine qd<|U J<|U J<|U J<|q8 k fun ac bg k=>q8 k fun ct bh k=>?_;have bi:=Kn bh;refine Ka [(0,0)] [(0,0)] _ (.d (.tup [])) 1 [(0,.dat 1 (ac.map (eI .i64)))] 1 (qzd b.2.2.2.2.2 b.1 b.2.1 ac bg)<|qa<|qw<|U J<|O _ J<|qc J<|qv ?_;cases k;exact ⟨_,J,wkE [] [] [] J ⟨⟨_,J,K7 (by simp [bi]) J qx (ltd J)⟩,qq J,qq J,qq J,qq J,qq J,qq J,trivial⟩ ⟨Qs J J,trivial⟩⟩
  refine ql<|Qh ?_;cases k;exact ⟨_,J,wkA [] [] []⟩
 intro c hb;subst hb;refine qd<|U J<|U J<|U J<|q8 a fun bj bk a=>q1t [.hs 0 1 0 c.2.length,q9 b.1,q9 b.2.1] (qzf c.2 b.1 b.2.1 bj bk) J J (Zb (Za J J) (Zb J (Zb J J))) (.inr J)<|U J<|O _ J<|O _ J<|qc J<|qc J<|qa<|qf<|qd<|U J<|O _ J<|qa<|q8 a fun bl l a=>?_;refine Yu (fun g=>g = bl) (fun g=>⟨[(0,.hs 0 1 0 g.2.2.length),(1,q9 b.1),(2,q9 b.2.1),(3,q9 c.1),(8,qz b.2.2.2.1),(9,qz b.2.2.2.2.1),(10,.d (q7 (w64 (b.2.1 - b.1)))),(11,q9 g.1),(12,q9 g.2.1)],[(0,.dat 1 (g.2.2.map (eI .i64)))],1⟩) qe ?_ ?_
 ·refine qo J l (fun _ l=>?_) (fun _ l=>?_)
  ·refine qd<|U J<|U J<|U J<|q8 l fun ad bm l=>q8 l fun cu bn l=>?_;have bo:=Kn bn;refine Ka [(0,0)] [(0,0)] _ (.d (.tup [])) 1 [(0,.dat 1 (ad.map (eI .i64)))] 1 (qzv c.2 b.1 b.2.1 ad bm)<|qt<|U J<|O _ J<|U J<|U J<|O _ J<|O _ J<|qc J<|qa<|qw<|qc J<|qv ?_;cases l;exact ⟨_,J,wkE [] [] [] J ⟨⟨_,J,K7 (by simp [bo]) J qx (ltd J)⟩,qq J,qq J,qq J,qq J,qq J,qq J,qq J,qq J,trivial⟩ ⟨Qs J J,trivial⟩⟩
  refine ql<|Qh ?_;cases l;exact ⟨_,J,wkA [] [] []⟩
 intro g hb;subst hb;refine qf<|qd<|U J<|q8 a fun bp t a=>?_;refine Qb 3 (fun A st=>∃ ae af,st = A [(64,qz bp),(63,af),(62,ae)]) ?_ ?_
 ·refine Q9 J J t (fun t=>?_) (fun t=>?_)
  ·refine U J<|O _ J<|qa ?_;cases t;exact ⟨_,_,J⟩
  refine qb J<|O _ J<|qa ?_;cases t;exact ⟨_,_,J⟩
 rintro _ ⟨ae,af,rfl⟩;refine q8 a fun bq u a=>?_;refine Qb 4 (fun A st=>∃ ag ah ai,st = A [(68,qz bq),(67,ai),(66,ah),(65,ag)]) ?_ ?_
 ·refine Q9 J J u (fun u=>?_) (fun u=>?_)
  ·refine U J<|O _ J<|O _ J<|qa ?_;cases u;exact ⟨_,_,_,J⟩
  refine qb J<|qb J<|O _ J<|qa ?_;cases u;exact ⟨_,_,_,J⟩
 rintro _ ⟨ag,ah,ai,rfl⟩;refine qa<|q8 a fun br f a=>?_;refine Yu (fun m=>.inl m = br) (fun m=>⟨[(0,.hs 0 1 0 m.length),(1,q9 b.1),(2,q9 b.2.1),(3,q9 c.1),(8,qz b.2.2.2.1),(9,qz b.2.2.2.2.1),(10,.d (q7 (w64 (b.2.1 - b.1)))),(11,q9 g.1)],[(0,.dat 1 (m.map (eI .i64)))],1⟩) qe ?_ ?_
 ·refine qo J f (fun _ f=>?_) (fun _ f=>?_)
  ·refine qd<|U J<|U J<|U J<|q8 f fun w bs f=>q8 f fun cv bt f=>?_;have bu:=Kn bt;refine Ka [(0,0)] [(0,0)] _ (qz w.1) 1 [(0,.dat 1 (w.2.map (eI .i64)))] 1 (qzl g.2.2 b.1 b.2.1 w bs)<|qa ?_;refine qo J f (fun _ f=>?_) (fun _ f=>?_)
   ·refine q13 ?_;cases f;refine ⟨_,qm a,fun hm=>?_⟩;subst hm;cases s;exact ⟨.inr J,_,J,wkA [] [] []⟩
   refine ql<|Qh ?_;cases f;exact ⟨_,J,wkE [] [] [] J ⟨⟨_,J,K7 (by simp [bu]) J qx (ltd J)⟩,qq J,qq J,qq J,qq J,qq J,qq J,qq J,trivial⟩ ⟨Qs J J,trivial⟩⟩
  refine ql<|Qh ?_;cases f;exact ⟨_,J,wkA [] [] []⟩
 intro m hb;subst hb;refine qf<|qf<|Qi [q0,q0,q0,qu 0,q0,q0,q0,qu 0,q0,q0,q0,q0,q0,q0,q0] qh<|U J<|O _ J<|q8 a fun bv h a=>?_;refine Qb 13 (fun A st=>∃ aj ak al am an ao ap aq ar au av aw,st = A [(87,qz bv),(86,aw),(85,av),(84,au),(83,ar),(82,aq),(81,ap),(80,ao),(79,an),(78,am),(77,al),(76,ak),(75,aj)]) ?_ ?_
 ·refine Q9 J J h (fun h=>?_) (fun h=>?_)
  ·refine U J<|U J<|O _ J<|q8 h fun bw ax h=>Q0 ax J J<|Qd _ ax J<|U J<|U J<|q8 h fun bz ay h=>Q0 ay J J<|Qd _ ay J<|q8 h fun ca cb h=>Q5 (J0 bw bz ca cb) J<|O _ J<|O _ J<|qa ?_;cases h;exact ⟨_,_,_,_,_,_,_,_,_,_,_,_,J⟩
  refine qb J<|qb J<|qb J<|qb J<|qb J<|qb J<|qb J<|qb J<|qb J<|qb J<|qb J<|O _ J<|qa ?_;cases h;exact ⟨_,_,_,_,_,_,_,_,_,_,_,_,J⟩
 rintro _ ⟨aj,ak,al,am,an,ao,ap,aq,ar,au,av,aw,rfl⟩;refine qa ?_;refine qo J a (fun _ a=>?_) (fun _ a=>?_)
 ·refine qd<|U J<|U J<|U J<|U J<|q8 a fun x cc a=>q8 a fun cw cd a=>?_;have ce:=Kn cd;refine Ka [(0,0)] [(0,0)] _ (q9 x.1) 1 [(0,.dat 1 (x.2.map (eI .i64)))] 1 (qzo m b.1 b.2.1 g.1 x cc)<|qc J<|qt<|U J<|qc J<|qa<|Qa<|Jx<|Qh<|⟨_,qm a,wkE [] [] [] J ⟨⟨_,J,K7 (by simp [ce]) J qx (ltd J)⟩,qq J,qq J,qq J,qq J,qq J,trivial⟩ ⟨Qs J J,trivial⟩⟩
 refine ql<|qd<|U J<|U J<|U J<|U J<|q8 a fun j cf a=>q8 a fun cx cg a=>?_;have v:=Kn cg;refine Ka [(0,0)] [(0,0)] _ (.d (.tup [q7 j.1,.bool j.2.1])) 1 [(0,.dat 1 (j.2.2.map (eI .i64)))] 1 (qzp m b.1 b.2.1 g.1 j cf)<|U J<|O _ J<|O _ J<|qc J<|qc J<|qt<|U J<|qc J<|qt<|U J<|U J<|O _ J<|U J<|U J<|O _ J<|qc J<|qc J<|qt<|U J<|O _ J<|qc J<|qt<|U J<|U J<|O _ J<|qa ?_;refine qo J a (fun _ a=>?_) (fun _ a=>?_)
 ·refine qd<|U J<|U J<|O _ J<|qc J<|qt<|U J<|U J<|U J<|U J<|q8 a fun y ch a=>q8 a fun cy ci a=>?_;have cj:=Kn ci;refine U3 [(0,0)] [(0,0)] [.hs 0 1 0 m.length,q9 b.1,q9 j.1,q9 c.1] (.d (.tup [])) [(0,.dat 1 (y.map (eI .i64)))] [(0,.dat 1 (y.map (eI .i64)))] 1 (hrec j.2.2 b.1 j.1 c.1 y ch) J J J (Ym [(0,0)] [] [] J ⟨⟨_,J,K7 (by simp [v]) J qx (ltd J)⟩,qq J,qq J,qq J,trivial⟩ ⟨Qs J J,trivial⟩) (Ym [(0,0)] [] [] J ⟨qq J,trivial⟩ ⟨Qs J J,trivial⟩) J ⟨.inl J,trivial⟩<|qa<|qw<|U J<|O _ J<|qc J<|qv<|Qp<|Qh<|⟨_,qm a,wkE [] [] [] J ⟨⟨_,J,K7 (by simp [v,cj]) J qx (ltd J)⟩,qq J,qq J,qq J,qq J,qq J,trivial⟩ ⟨Qs J J,trivial⟩⟩
 refine qd<|U J<|U J<|O _ J<|qc J<|qt<|U J<|U J<|O _ J<|U J<|U J<|q8 a fun z ck a=>q8 a fun cz cm a=>?_;have cn:=Kn cm;refine U3 [(0,0)] [(0,0)] [.hs 0 1 0 m.length,.d (q7 (w64 (j.1 + 1))),q9 b.2.1,q9 c.1] (.d (.tup [])) [(0,.dat 1 (z.map (eI .i64)))] [(0,.dat 1 (z.map (eI .i64)))] 1 (hrec j.2.2 (w64 (j.1 + 1)) b.2.1 c.1 z ck) J J J (Ym [(0,0)] [] [] J ⟨⟨_,J,K7 (by simp [v]) J qx (ltd J)⟩,qq J,qq J,qq J,trivial⟩ ⟨Qs J J,trivial⟩) (Ym [(0,0)] [] [] J ⟨qq J,trivial⟩ ⟨Qs J J,trivial⟩) J ⟨.inl J,trivial⟩<|qa<|qw<|U J<|qc J<|qv<|Qp<|Qh<|⟨_,qm a,wkE [] [] [] J ⟨⟨_,J,K7 (by simp [v,cn]) J qx (ltd J)⟩,qq J,qq J,qq J,qq J,qq J,trivial⟩ ⟨Qs J J,trivial⟩⟩
theorem qzt (n : Nat) : ∀ (a : List Int) (b : Int) (c : Int) (f : Int) (r : List Int),q7l n  a b c f = some r→K9 Tryz.prog tab 135 [.hs 0 1 0 a.length,q9 b,q9 c,q9 f] [(0,.dat 1 (a.map (eI .i64)))] 1 (.d (.tup [])) [(0,.dat 1 (r.map (eI .i64)))] 1:=by
 induction n with
 | zero=>intro a b c f r g;cases g
 | succ n ih=>intro a b c f r g;exact qzs (q7l n )   ih a b c f r g
theorem qdq (b : List Int) (r : List Int) (a : U7  b = some r) : K9 Tryz.prog tab 120 [.hs 0 1 0 b.length] [(0,.dat 1 (b.map (eI .i64)))] 1 (.d (.tup [])) [(0,.dat 1 (r.map (eI .i64)))] 1:=by
 unfold U7 at a;refine Ks Tryz.func120 J qh qh J<|qd<|U J<|O _ J<|qc J<|qa<|qw<|U J<|U J<|U J<|O _ J<|q8 a fun f h a=>Q5 (qg3 (IntKind.wrap .u64 (b.length : Int)) f h) J<|q8 a fun g c a=>q8 a fun l j a=>?_;have m:=Kn j;obtain ⟨k,c⟩:=qfy c;refine Ka [(0,0)] [(0,0)] _ (.d (.tup [])) 1 [(0,.dat 1 (g.map (eI .i64)))] 1 (qzt k b 0 (b.length : Int) f g c)<|qv ?_;cases a;exact ⟨.inl J,_,J,wkA [] [] []⟩
theorem qdg (c : List Int) (r : (Nat × Nat) × List Int) (d : q14  c = some r) : K9 Tryz.prog tab 121 [.hs 0 1 0 c.length] [(0,.dat 1 (c.map (eI .i64)))] 1 (.hs 0 1 r.1.1 r.1.2) [(0,.dat 1 (r.2.map (eI .i64)))] 1:=by
 unfold q14 at d;refine Ks Tryz.func121 J qh qh J<|qd<|qc J<|qa<|qf<|qd<|U J<|O _ J<|O _ J<|qa ?_;refine qo J d (fun _ d=>?_) (fun _ d=>?_)
 ·refine qd<|U J<|qc J<|qs ?_;cases d;exact ⟨.inr J,_,J,wkA [] [] []⟩
 refine ql<|qf<|qd<|qc J<|qa<|q8 d fun n z d=>?_;refine Qj (fun k=>.inl k = n) (fun k=>⟨[(0,.hs 0 1 0 c.length)],[(0,.dat 1 (c.map (eI .i64)))],1⟩) qe ?_ ?_
 ·refine Qf (Jj c) (fun l=>⟨[(0,.hs 0 1 0 c.length),(3,q9 l)],[(0,.dat 1 (c.map (eI .i64)))],1⟩) 1 n z (wkA [] [] []) ?_;intro l af a;unfold Jj at a;refine qf<|qd<|U J<|U J<|O _ J<|O _ J<|qa ?_;refine qo J a (fun _ a=>?_) (fun _ a=>?_)
  ·refine ql<|qf<|Q4<|qf<|Qi [q0,qu 0,q0,q0,q0,q0,qu 0,q0,q0,q0] qh<|U J<|U J<|q8 a fun ag o a=>Q0 o J J<|Qd _ o J<|U J<|U J<|O _ J<|q8 a fun ah p a=>Q0 p J J<|Qd _ p J<|O _ J<|qa ?_;refine qo J a (fun _ a=>?_) (fun _ a=>?_)
   ·refine qd<|U J<|U J<|q8 a fun aa ab a=>q98 ab J J J J J (q8j J) (fun _=>rfl)<|qc J<|qa<|qf<|qd<|qc J<|qa<|q8 a fun q ac a=>?_;refine Qj (fun f=>f = q) (fun f=>⟨[(0,.hs 0 1 0 f.2.length),(3,q9 f.1)],[(0,.dat 1 (f.2.map (eI .i64)))],1⟩) qe ?_ ?_
    ·refine Qf (q1z) (fun g=>⟨[(0,.hs 0 1 0 g.2.2.2.length),(3,q9 g.1),(4,.hs 0 1 g.2.1.1 g.2.1.2),(5,q9 g.2.2.1)],[(0,.dat 1 (g.2.2.2.map (eI .i64)))],1⟩) (l,aa,1,c) q ac (wkA [] [] []) ?_;intro g ai h;unfold q1z at h;refine qf<|qd<|U J<|U J<|O _ J<|O _ J<|qa ?_;refine qo J h (fun _ h=>?_) (fun _ h=>?_)
     ·refine ql<|qf<|q8 h fun ad b h=>?_;refine Qj (fun j=>j = ad) (fun j=>⟨[(0,.hs 0 1 0 j.2.2.length),(3,q9 j.1),(4,.hs 0 1 j.2.1.1 j.2.1.2),(5,q9 g.2.2.1)],[(0,.dat 1 (j.2.2.map (eI .i64)))],1⟩) qe ?_ ?_
      ·refine qf<|Qi [q0,qu 0,q0,q0,q0,q0,qu 0,q0,q0,q0] qh<|U J<|U J<|q8 b fun aj s b=>qgg s J J J J J J<|Qd _ (qfs s) J<|U J<|U J<|O _ J<|q8 b fun ak t b=>qgg t J J J J J J<|Qd _ (qfs t) J<|O _ J<|qa ?_;refine qo J b (fun _ b=>?_) (fun _ b=>?_)
       ·refine qd<|U J<|U J<|U J<|U J<|q8 b fun u v b=>qgg v J J J J J J<|Qd _ (qfs v) J<|q8 b fun al x b=>Q0 x J J<|K5 (ds:=[q7 u]) u x J J J J J J J J (leb J) J<|qa<|qw<|U J<|O _ J<|qc J<|qv ?_;cases b;exact ⟨_,J,wkE [] [] [] J ⟨⟨_,J,K7 qe J qx (ltd J)⟩,qq J,⟨_,J,.hs J qx (ltd J)⟩,qq J,trivial⟩ ⟨Qs J J,trivial⟩⟩
       refine ql<|Qh ?_;cases b;exact ⟨_,J,wkA [] [] []⟩
      intro j hb;subst hb;refine qw<|U J<|O _ J<|qc J<|qv<|⟨_,qm h,wkA [] [] []⟩
     refine Qa ?_;refine ⟨_,qm h,fun hm=>?_⟩;subst hm;exact ⟨_,J,wkA [] [] []⟩
    intro f hb;subst hb;refine qd<|U J<|U J<|q8 a fun y m a=>q98 m J J J J J (q8j J) (fun _=>rfl)<|qu1 (w:=y) (xs:=f.2) (enc:=(eI .i64)) 0 (qb8 m) J J J J J J J ?_;have am:=@qiy _ f.2 y 0 (qb8 m);refine qt<|U J<|U J<|q8 a fun an ae a=>q98 ae J J J J J (fun _=>rfl) (q8j J)<|qc J<|qs ?_;refine ⟨_,qm a,fun hm=>?_⟩;subst hm;cases d;exact ⟨.inr J,_,J,wkA [] [] []⟩
   refine ql<|Qh<|Qp<|qw<|U J<|O _ J<|qc J<|qv<|⟨_,qm a,wkA [] [] []⟩
  refine Qa ?_;refine ⟨_,qm a,fun hm=>?_⟩;subst hm;exact ⟨_,J,wkA [] [] []⟩
 intro k hb;subst hb;refine qd<|U J<|qc J<|qs ?_;cases d;exact ⟨.inr J,_,J,wkA [] [] []⟩
theorem qz6 (b : List qi) (g : qi→Option Bool) (p1F : FuncId) (p1C : List DV) (p1Ok : ∀ (c : qi) (r : Bool),g c = some r→Pure Tryz.prog tab p1F ([.agg [q7 c.X0,q7 c.Y0,q7 c.X1,q7 c.Y1]] ++ p1C) (.bool r)) (r : Int) (f : qdo b g = some r) : Pure Tryz.prog tab 137 [.sl 4 (b.map Q2),.fn p1F p1C] (q7 r):=by
 unfold qdo at f;refine Qn Tryz.func137 J qh qh J<|qd<|qc J<|qa<|qf<|qd<|U J<|Qm J<|U J<|qa<|q8 f fun j l f=>?_;refine Qj (fun h=>.inl h = j) (fun h=>⟨[],[],0⟩) qe ?_ ?_
 ·refine Qf (q4b b g) (fun k=>⟨[(0,.d (.sl 4 (b.map Q2))),(1,.d (.fn p1F p1C)),(7,q9 (b.length : Int)),(8,q9 k)],[],0⟩) 0 j l (wkA [] [] []) ?_;intro k q a;unfold q4b at a;refine qd<|O _ J<|qa<|qf ?_;refine qo J a (fun _ a=>?_) (fun _ a=>?_)
  ·refine ql<|qf<|Q4<|qd<|U J<|qc J<|qt<|U J<|U J<|U J<|q8 a fun m n a=>Qc n J<|O _ J<|q8 a fun o p a=>Yk _ (p1Ok m o p) J J J (.inl J)<|qa ?_;refine qo J a (fun _ a=>?_) (fun _ a=>?_)
   ·refine qd<|U J<|qc J<|qs ?_;refine ⟨_,qm a,fun hm=>?_⟩;subst hm;cases f;exact Q6 _ J
   refine ql<|Qh<|Qp<|qw<|O _ J<|U J<|qv<|⟨_,qm a,wkA [] [] []⟩
  refine Qa ?_;refine ⟨_,qm a,fun hm=>?_⟩;subst hm;exact ⟨_,J,wkA [] [] []⟩
 intro h hb;subst hb;refine qd<|qc J<|qs ?_;cases f;exact Q6 _ J
theorem qyy (c : List qi) (d : qi→Option Bool) (p1F : FuncId) (p1C : List DV) (p1Ok : ∀ (a : qi) (r : Bool),d a = some r→Pure Tryz.prog tab p1F ([.agg [q7 a.X0,q7 a.Y0,q7 a.X1,q7 a.Y1]] ++ p1C) (.bool r)) (r : Bool) (b : q9w c d = some r) : Pure Tryz.prog tab 123 [.sl 4 (c.map Q2),.fn p1F p1C] (.bool r):=by
 unfold q9w at b;refine Qn Tryz.func123 J qh qh J<|qd<|qc J<|qt<|U J<|U J<|q8 b fun f g b=>Q5 (qz6 c d p1F p1C p1Ok f g) J<|O _ J<|qc J<|qs ?_;cases b;exact Q6 _ J
theorem qd6 (c : Int) (r : Bool) (b : q2z c = some r) : Pure Tryz.prog tab 138 [q7 c] (.bool r):=by
 unfold q2z at b;refine Qn Tryz.func138 J qh qh J<|qd<|qc J<|qt<|U J<|O _ J<|q8 b fun h a b=>?_;refine Qb 4 (fun A st=>∃ d f g,st = A [(8,qz h),(7,g),(6,f),(5,d)]) ?_ ?_
 ·refine Q9 J J a (fun a=>?_) (fun a=>?_)
  ·refine U J<|O _ J<|O _ J<|qa ?_;cases a;exact ⟨_,_,_,J⟩
  refine qb J<|qb J<|O _ J<|qa ?_;cases a;exact ⟨_,_,_,J⟩
 rintro _ ⟨d,f,g,rfl⟩;refine qc J<|qs ?_;cases b;exact Q6 _ J
theorem qmt (b : qi) (r : Bool) (a : q6i b = some r) : Pure Tryz.prog tab 125 [.agg [q7 b.X0,q7 b.Y0,q7 b.X1,q7 b.Y1]] (.bool r):=by
 unfold q6i at a;refine Qn Tryz.func125 J qh qh J<|qd<|Qo _ _ J<|qc J<|qt<|O _ J<|O _ J<|O _ J<|O _ J<|O _ J<|q8 a fun c1 h a=>?_;refine Qb 7 (fun A st=>∃ j k l m n o,st = A [(14,qz c1),(13,o),(12,n),(11,m),(10,l),(9,k),(8,j)]) ?_ ?_
 ·refine Q9 J J h (fun h=>?_) (fun h=>?_)
  ·refine O _ J<|O _ J<|O _ J<|O _ J<|O _ J<|O _ J<|qa ?_;cases h;exact ⟨_,_,_,_,_,_,J⟩
  refine qb J<|qb J<|qb J<|qb J<|qb J<|O _ J<|qa ?_;cases h;exact ⟨_,_,_,_,_,_,J⟩
 rintro _ ⟨j,k,l,m,n,o,rfl⟩;refine q8 a fun ah c a=>?_;refine Qb 5 (fun A st=>∃ p q s t,st = A [(19,qz ah),(18,t),(17,s),(16,q),(15,p)]) ?_ ?_
 ·refine Q9 J J c (fun c=>?_) (fun c=>?_)
  ·refine O _ J<|O _ J<|q8 c fun ai aj c=>Q5 (qd6 b.X0 ai aj) J<|O _ J<|qa ?_;cases c;exact ⟨_,_,_,_,J⟩
  refine qb J<|qb J<|qb J<|O _ J<|qa ?_;cases c;exact ⟨_,_,_,_,J⟩
 rintro _ ⟨p,q,s,t,rfl⟩;refine q8 a fun ak d a=>?_;refine Qb 5 (fun A st=>∃ u v w x,st = A [(24,qz ak),(23,x),(22,w),(21,v),(20,u)]) ?_ ?_
 ·refine Q9 J J d (fun d=>?_) (fun d=>?_)
  ·refine O _ J<|O _ J<|q8 d fun al am d=>Q5 (qd6 b.X1 al am) J<|O _ J<|qa ?_;cases d;exact ⟨_,_,_,_,J⟩
  refine qb J<|qb J<|qb J<|O _ J<|qa ?_;cases d;exact ⟨_,_,_,_,J⟩
 rintro _ ⟨u,v,w,x,rfl⟩;refine q8 a fun an f a=>?_;refine Qb 5 (fun A st=>∃ y z aa ab,st = A [(29,qz an),(28,ab),(27,aa),(26,z),(25,y)]) ?_ ?_
 ·refine Q9 J J f (fun f=>?_) (fun f=>?_)
  ·refine O _ J<|O _ J<|q8 f fun ao ap f=>Q5 (qd6 b.Y0 ao ap) J<|O _ J<|qa ?_;cases f;exact ⟨_,_,_,_,J⟩
  refine qb J<|qb J<|qb J<|O _ J<|qa ?_;cases f;exact ⟨_,_,_,_,J⟩
 rintro _ ⟨y,z,aa,ab,rfl⟩;refine q8 a fun aq g a=>?_;refine Qb 5 (fun A st=>∃ ac ad ae af,st = A [(34,qz aq),(33,af),(32,ae),(31,ad),(30,ac)]) ?_ ?_
 ·refine Q9 J J g (fun g=>?_) (fun g=>?_)
  ·refine O _ J<|O _ J<|q8 g fun ar au g=>Q5 (qd6 b.Y1 ar au) J<|O _ J<|qa ?_;cases g;exact ⟨_,_,_,_,J⟩
  refine qb J<|qb J<|qb J<|O _ J<|qa ?_;cases g;exact ⟨_,_,_,_,J⟩
 rintro _ ⟨ac,ad,ae,af,rfl⟩;refine qc J<|qs ?_;cases a;exact Q6 _ J
theorem qwu (a : qi) (r : Bool) (b : q2y a = some r) : Pure Tryz.prog tab 124 [.agg [q7 a.X0,q7 a.Y0,q7 a.X1,q7 a.Y1]] (.bool r):=by
 unfold q2y at b;refine Qn Tryz.func124 J qh qh J<|qd<|Qo _ _ J<|qc J<|qt<|O _ J<|q8 b fun c d b=>Q5 (qmt a c d) J<|O _ J<|qc J<|qs ?_;cases b;exact Q6 _ J
theorem qz9 (b : List qk) (f : qk→Option Bool) (p1F : FuncId) (p1C : List DV) (p1Ok : ∀ (g : qk) (r : Bool),f g = some r→Pure Tryz.prog tab p1F ([.agg [q7 g.Lo,q7 g.Hi]] ++ p1C) (.bool r)) (r : Int) (c : qa0 b f = some r) : Pure Tryz.prog tab 171 [.sl 2 (b.map Qk),.fn p1F p1C] (q7 r):=by
 unfold qa0 at c;refine Qn Tryz.func171 J qh qh J<|qd<|qc J<|qa<|qf<|qd<|U J<|Qm J<|U J<|qa<|q8 c fun j l c=>?_;refine Qj (fun h=>.inl h = j) (fun h=>⟨[],[],0⟩) qe ?_ ?_
 ·refine Qf (q34 b f) (fun k=>⟨[(0,.d (.sl 2 (b.map Qk))),(1,.d (.fn p1F p1C)),(7,q9 (b.length : Int)),(8,q9 k)],[],0⟩) 0 j l (wkA [] [] []) ?_;intro k q a;unfold q34 at a;refine qd<|O _ J<|qa<|qf ?_;refine qo J a (fun _ a=>?_) (fun _ a=>?_)
  ·refine ql<|qf<|Q4<|qd<|U J<|qc J<|qt<|U J<|U J<|U J<|q8 a fun m n a=>Qc n J<|O _ J<|q8 a fun o p a=>Yk _ (p1Ok m o p) J J J (.inl J)<|qa ?_;refine qo J a (fun _ a=>?_) (fun _ a=>?_)
   ·refine qd<|U J<|qc J<|qs ?_;refine ⟨_,qm a,fun hm=>?_⟩;subst hm;cases c;exact Q6 _ J
   refine ql<|Qh<|Qp<|qw<|O _ J<|U J<|qv<|⟨_,qm a,wkA [] [] []⟩
  refine Qa ?_;refine ⟨_,qm a,fun hm=>?_⟩;subst hm;exact ⟨_,J,wkA [] [] []⟩
 intro h hb;subst hb;refine qd<|qc J<|qs ?_;cases c;exact Q6 _ J
theorem qz0 (b : List qk) (c : qk→Option Bool) (p1F : FuncId) (p1C : List DV) (p1Ok : ∀ (d : qk) (r : Bool),c d = some r→Pure Tryz.prog tab p1F ([.agg [q7 d.Lo,q7 d.Hi]] ++ p1C) (.bool r)) (r : Bool) (a : q9y b c = some r) : Pure Tryz.prog tab 158 [.sl 2 (b.map Qk),.fn p1F p1C] (.bool r):=by
 unfold q9y at a;refine Qn Tryz.func158 J qh qh J<|qd<|qc J<|qt<|U J<|U J<|q8 a fun f g a=>Q5 (qz9 b c p1F p1C p1Ok f g) J<|O _ J<|qc J<|qs ?_;cases a;exact Q6 _ J
theorem qo8 (d : qk) (r : Bool) (a : q3b d = some r) : Pure Tryz.prog tab 143 [.agg [q7 d.Lo,q7 d.Hi]] (.bool r):=by
 unfold q3b at a;refine Qn Tryz.func143 J qh qh J<|qd<|Qo _ _ J<|qc J<|qt<|O _ J<|O _ J<|O _ J<|O _ J<|O _ J<|q8 a fun o b a=>?_;refine Qb 5 (fun A st=>∃ f g h j,st = A [(12,qz o),(11,j),(10,h),(9,g),(8,f)]) ?_ ?_
 ·refine Q9 J J b (fun b=>?_) (fun b=>?_)
  ·refine O _ J<|O _ J<|O _ J<|O _ J<|qa ?_;cases b;exact ⟨_,_,_,_,J⟩
  refine qb J<|qb J<|qb J<|O _ J<|qa ?_;cases b;exact ⟨_,_,_,_,J⟩
 rintro _ ⟨f,g,h,j,rfl⟩;refine q8 a fun p c a=>?_;refine Qb 5 (fun A st=>∃ k l m n,st = A [(17,qz p),(16,n),(15,m),(14,l),(13,k)]) ?_ ?_
 ·refine Q9 J J c (fun c=>?_) (fun c=>?_)
  ·refine O _ J<|O _ J<|O _ J<|O _ J<|qa ?_;cases c;exact ⟨_,_,_,_,J⟩
  refine qb J<|qb J<|qb J<|O _ J<|qa ?_;cases c;exact ⟨_,_,_,_,J⟩
 rintro _ ⟨k,l,m,n,rfl⟩;refine qc J<|qs ?_;cases a;exact Q6 _ J
theorem q12j (a : qk) (r : Bool) (b : qdz a = some r) : Pure Tryz.prog tab 159 [.agg [q7 a.Lo,q7 a.Hi]] (.bool r):=by
 unfold qdz at b;refine Qn Tryz.func159 J qh qh J<|qd<|Qo _ _ J<|qc J<|qt<|O _ J<|q8 b fun c d b=>Q5 (qo8 a c d) J<|O _ J<|qc J<|qs ?_;cases b;exact Q6 _ J
theorem q12p (a : qn) (b : qn) (r : Int) (c : qb2 a b = some r) : Pure Tryz.prog tab 163 [.agg [q7 a.at_,q7 a.list_,q7 a.by_],.agg [q7 b.at_,q7 b.list_,q7 b.by_]] (q7 r):=by
 unfold qb2 at c;refine Qn Tryz.func163 J qh qh J<|qd<|Qo _ _ J<|Qo _ _ J<|qc J<|qt<|O _ J<|O _ J<|O _ J<|O _ J<|O _ J<|qc J<|qs ?_;cases c;exact Q6 _ J
theorem qzi (k : qn→qn→Option Int) (q1F : FuncId) (q1C : List DV) (q1Ok : ∀ (l : qn) (m : qn) (r : Int),k l m = some r→Pure Tryz.prog tab q1F ([.agg [q7 l.at_,q7 l.list_,q7 l.by_],.agg [q7 m.at_,q7 m.list_,q7 m.by_]] ++ q1C) (q7 r)) (n : List qn) (c : Int) (h : Int) (r : List qn) (o : qa7 k n c h = some r) : K9 Tryz.prog tab 175 [.hs 0 3 0 n.length,q9 c,q9 h,.d (.fn q1F q1C)] [(0,.dat 3 (n.map Qq))] 1 (.d (.tup [])) [(0,.dat 3 (r.map Qq))] 1:=by
 unfold qa7 at o;refine Ks Tryz.func175 J qh qh J<|qd<|U J<|O _ J<|qc J<|qa<|q8 o fun al am o=>Q4<|Qf (qa8 h c k) (fun f=>⟨[(0,.hs 0 3 0 f.2.length),(1,q9 c),(2,q9 h),(3,.d (.fn q1F q1C)),(8,q9 f.1)],[(0,.dat 3 (f.2.map Qq))],1⟩) (w64 (c + 1),n) al am (wkA [] [] []) ?_;intro f az g;unfold qa8 at g;refine qf<|qd<|U J<|U J<|O _ J<|qa ?_;refine qo J g (fun _ g=>?_) (fun _ g=>?_)
 ·refine ql<|qf<|q8 g fun an q g=>?_;refine Qj (fun j=>j = an) (fun j=>⟨[(0,.hs 0 3 0 j.length),(1,q9 c),(2,q9 h),(3,.d (.fn q1F q1C)),(8,q9 f.1)],[(0,.dat 3 (j.map Qq))],1⟩) qe ?_ ?_
  ·refine qd<|U J<|qc J<|qa<|q8 q fun ao ap q=>Q4<|Qf (qa9 c k) (fun p=>⟨[(0,.hs 0 3 0 p.2.length),(1,q9 c),(2,q9 h),(3,.d (.fn q1F q1C)),(8,q9 f.1),(9,q9 p.1)],[(0,.dat 3 (p.2.map Qq))],1⟩) (f.1,f.2) ao ap (wkA [] [] []) ?_;intro p ba a;unfold qa9 at a;refine qf<|qf<|Qi [q0,q0,q0,qu 0,q0,q0,q0,q0,qu 0,q0,q0,q0,q0,q0,q0,q0,q0] qh<|U J<|U J<|O _ J<|q8 a fun aq b a=>?_;refine Qb 14 (fun A st=>∃ s t u v w x y z aa ab ac ad ae,st = A [(34,qz aq),(33,ae),(32,ad),(31,ac),(30,ab),(29,aa),(28,z),(27,y),(26,x),(25,w),(24,v),(23,u),(22,t),(21,s)]) ?_ ?_
   ·refine Q9 J J b (fun b=>?_) (fun b=>?_)
    ·refine U J<|U J<|U J<|q8 b fun ar af b=>Q0 af J J<|Qd _ af J<|U J<|U J<|O _ J<|q8 b fun au ag b=>Q0 ag J J<|Qd _ ag J<|q8 b fun av aw b=>Yk _ (q1Ok ar au av aw) J J J (.inl J)<|O _ J<|O _ J<|qa ?_;cases b;exact ⟨_,_,_,_,_,_,_,_,_,_,_,_,_,J⟩
    refine qb J<|qb J<|qb J<|qb J<|qb J<|qb J<|qb J<|qb J<|qb J<|qb J<|qb J<|qb J<|O _ J<|qa ?_;cases b;exact ⟨_,_,_,_,_,_,_,_,_,_,_,_,_,J⟩
   rintro _ ⟨s,t,u,v,w,x,y,z,aa,ab,ac,ad,ae,rfl⟩;refine qa ?_;refine qo J a (fun _ a=>?_) (fun _ a=>?_)
   ·refine ql<|qf<|Q4<|Qi [Qu 0,q0,Qu 0,q0,qu 0,q0,q0,q0,qu 0,q0,q0,q0,q0,q0,q0,q0,q0,q0] qh<|U J<|U J<|U J<|U J<|O _ J<|U J<|U J<|O _ J<|q8 a fun ax ah a=>Q0 ah J J<|Qd _ ah J<|U J<|U J<|q8 a fun ay ai a=>Q0 ai J J<|Qd _ ai J<|q8 a fun bb aj a=>Q0 aj J J<|K5 ax aj J J J J J J J J (leb J) J<|q8 a fun bc ak a=>Q0 ak qe J<|K5 ay ak J J J J J J J J (leb J) J<|qv<|Qp<|qw<|U J<|O _ J<|qc J<|qv<|⟨_,qm a,wkE [] [] [] J ⟨⟨_,J,K7 qe J qx (ltd J)⟩,qq J,qq J,qq J,qq J,qq J,trivial⟩ ⟨Qs J J,trivial⟩⟩
   refine Qa ?_;refine ⟨_,qm a,fun hm=>?_⟩;subst hm;cases q;exact ⟨_,J,wkA [] [] []⟩
  intro j hb;subst hb;refine qw<|U J<|O _ J<|qc J<|qv<|⟨_,qm g,wkA [] [] []⟩
 refine Qa ?_;refine ⟨_,qm g,fun hm=>?_⟩;subst hm;cases o;exact ⟨.inl J,_,J,wkA [] [] []⟩
theorem qno (o : qn→qn→Option Int) (q1F : FuncId) (q1C : List DV) (q1Ok : ∀ (k : qn) (l : qn) (r : Int),o k l = some r→Pure Tryz.prog tab q1F ([.agg [q7 k.at_,q7 k.list_,q7 k.by_],.agg [q7 l.at_,q7 l.list_,q7 l.by_]] ++ q1C) (q7 r)) (m : List qn) (p : Int) (f : Int) (g : Int) (r : List qn) (h : q7n o m p f g = some r) : K9 Tryz.prog tab 183 [.hs 0 3 0 m.length,q9 p,q9 f,q9 g,.d (.fn q1F q1C)] [(0,.dat 3 (m.map Qq))] 1 (.d (.tup [])) [(0,.dat 3 (r.map Qq))] 1:=by
 unfold q7n at h;refine Ks Tryz.func183 J qh qh J<|qd<|U J<|qc J<|qa<|q8 h fun aq ar h=>Q4<|Qf (qar f g o) (fun c=>⟨[(0,.hs 0 3 0 c.2.length),(2,q9 f),(3,q9 g),(4,.d (.fn q1F q1C)),(10,q9 c.1)],[(0,.dat 3 (c.2.map Qq))],1⟩) (p,m) aq ar (wkA [] [] []) ?_;intro c bg a;unfold qar at a;refine Q4<|qd<|U J<|O _ J<|O _ J<|qc J<|qa<|qf<|qd<|U J<|U J<|O _ J<|qa ?_;refine qo J a (fun _ a=>?_) (fun _ a=>?_)
 ·refine Qa ?_;refine ⟨_,qm a,fun hm=>?_⟩;subst hm;cases h;exact ⟨.inl J,_,J,wkA [] [] []⟩
 refine ql<|qf<|qf<|Qi [q0,q0,q0,qu 0,q0,q0,q0,q0,q0,q0,qu 0,q0,q0,q0,q0,q0,q0,q0,q0,q0,q0,q0] qh<|U J<|O _ J<|U J<|O _ J<|q8 a fun au b a=>?_;refine Qb 18 (fun A st=>∃ q s t u v w x y z aa ab ac ad ae af ag ah,st = A [(40,qz au),(39,ah),(38,ag),(37,af),(36,ae),(35,ad),(34,ac),(33,ab),(32,aa),(31,z),(30,y),(29,x),(28,w),(27,v),(26,u),(25,t),(24,s),(23,q)]) ?_ ?_
 ·refine Q9 J J b (fun b=>?_) (fun b=>?_)
  ·refine U J<|U J<|U J<|U J<|O _ J<|q8 b fun av ai b=>Q0 ai J J<|Qd _ ai J<|U J<|U J<|U J<|O _ J<|O _ J<|q8 b fun aw aj b=>Q0 aj J J<|Qd _ aj J<|q8 b fun ax ay b=>Yk _ (q1Ok av aw ax ay) J J J (.inl J)<|O _ J<|O _ J<|qa ?_;cases b;exact ⟨_,_,_,_,_,_,_,_,_,_,_,_,_,_,_,_,_,J⟩
  refine qb J<|qb J<|qb J<|qb J<|qb J<|qb J<|qb J<|qb J<|qb J<|qb J<|qb J<|qb J<|qb J<|qb J<|qb J<|qb J<|O _ J<|qa ?_;cases b;exact ⟨_,_,_,_,_,_,_,_,_,_,_,_,_,_,_,_,_,J⟩
 rintro _ ⟨q,s,t,u,v,w,x,y,z,aa,ab,ac,ad,ae,af,ag,ah,rfl⟩;refine qa<|q8 a fun az j a=>?_;refine Yu (fun n=>n = az) (fun n=>⟨[(0,.hs 0 3 0 c.2.length),(2,q9 f),(3,q9 g),(4,.d (.fn q1F q1C)),(10,q9 c.1),(11,q9 n)],[(0,.dat 3 (c.2.map Qq))],1⟩) qe ?_ ?_
 ·refine qo J j (fun _ j=>?_) (fun _ j=>?_)
  ·refine qw<|U J<|O _ J<|qc J<|qv ?_;cases j;exact ⟨_,J,wkA [] [] []⟩
  refine ql<|Qh ?_;cases j;exact ⟨_,J,wkA [] [] []⟩
 intro n hb;subst hb;refine qf<|qf<|Qi [q0,q0,q0,qu 0,q0,q0,q0,q0,q0,qu 0,q0,q0,q0,q0,q0,q0] qh<|U J<|U J<|U J<|U J<|O _ J<|q8 a fun ba ak a=>Q0 ak J J<|Qd _ ak J<|U J<|U J<|U J<|O _ J<|q8 a fun bb al a=>Q0 al J J<|Qd _ al J<|q8 a fun bc bd a=>Yk _ (q1Ok ba bb bc bd) J J J (.inl J)<|O _ J<|O _ J<|qa ?_;refine qo J a (fun _ a=>?_) (fun _ a=>?_)
 ·refine q13 ?_;refine ⟨_,qm a,fun hm=>?_⟩;subst hm;cases h;exact ⟨.inr J,_,J,wkA [] [] []⟩
 refine ql<|qf<|Qi [Qu 0,q0,Qu 0,q0,qu 0,q0,q0,q0,q0,q0,qu 0,q0,q0,q0,q0,q0,q0,q0,q0,q0,q0,q0,q0,q0] qh<|U J<|U J<|U J<|O _ J<|U J<|U J<|U J<|O _ J<|U J<|U J<|U J<|O _ J<|q8 a fun be am a=>Q0 am J J<|Qd _ am J<|U J<|U J<|U J<|O _ J<|q8 a fun bf an a=>Q0 an J J<|Qd _ an J<|q8 a fun bh ao a=>Q0 ao J J<|K5 be ao J J J J J J J J (leb J) J<|q8 a fun bi ap a=>Q0 ap qe J<|K5 bf ap J J J J J J J J (leb J) J<|qa<|qw<|U J<|qc J<|qv<|Qp<|Qh<|⟨_,qm a,wkE [] [] [] J ⟨⟨_,J,K7 qe J qx (ltd J)⟩,qq J,qq J,qq J,qq J,trivial⟩ ⟨Qs J J,trivial⟩⟩
theorem qzg (h : qn→qn→Option Int) (q1F : FuncId) (q1C : List DV) (q1Ok : ∀ (m : qn) (n : qn) (r : Int),h m n = some r→Pure Tryz.prog tab q1F ([.agg [q7 m.at_,q7 m.list_,q7 m.by_],.agg [q7 n.at_,q7 n.list_,q7 n.by_]] ++ q1C) (q7 r)) (o : List qn) (b : Int) (g : Int) (r : List qn) (j : qa4 h o b g = some r) : K9 Tryz.prog tab 176 [.hs 0 3 0 o.length,q9 b,q9 g,.d (.fn q1F q1C)] [(0,.dat 3 (o.map Qq))] 1 (.d (.tup [])) [(0,.dat 3 (r.map Qq))] 1:=by
 unfold qa4 at j;refine Ks Tryz.func176 J qh qh J<|qd<|U J<|qc J<|qt<|qc J<|qt<|U J<|U J<|O _ J<|qc J<|qa<|qf<|qd<|U J<|O _ J<|O _ J<|qc J<|qa<|q8 j fun q z j=>?_;refine Qj (fun k=>k = q) (fun k=>⟨[(0,.hs 0 3 0 k.length),(3,.d (.fn q1F q1C)),(8,q9 b),(9,q9 0),(10,.d (q7 (w64 (g - b))))],[(0,.dat 3 (k.map Qq))],1⟩) qe ?_ ?_
 ·refine Qf (qa5 h g b) (fun l=>⟨[(0,.hs 0 3 0 l.2.length),(3,.d (.fn q1F q1C)),(8,q9 b),(9,q9 0),(10,.d (q7 (w64 (g - b)))),(11,q9 l.1)],[(0,.dat 3 (l.2.map Qq))],1⟩) (w64 (Int.tdiv (w64 ((w64 (g - b)) - 1)) 2),o) q z (wkA [] [] []) ?_;intro l ai c;unfold qa5 at c;refine qf<|qd<|U J<|O _ J<|qa ?_;refine qo J c (fun _ c=>?_) (fun _ c=>?_)
  ·refine ql<|qf<|Q4<|qw<|U J<|U J<|U J<|U J<|U J<|q8 c fun s aa c=>q8 c fun aj ab c=>?_;have ac:=Kn ab;refine Ka [(0,0)] [(0,0)] _ (.d (.tup [])) 1 [(0,.dat 3 (s.map Qq))] 1 (qno h q1F q1C q1Ok l.2 l.1 (w64 (g - b)) b s aa)<|qv<|Qp<|qw<|U J<|O _ J<|qc J<|qv<|⟨_,qm c,wkE [] [] [] J ⟨⟨_,J,K7 (by simp [ac]) J qx (ltd J)⟩,qq J,qq J,qq J,qq J,qq J,trivial⟩ ⟨Qs J J,trivial⟩⟩
  refine Qa ?_;refine ⟨_,qm c,fun hm=>?_⟩;subst hm;exact ⟨_,J,wkA [] [] []⟩
 intro k hb;subst hb;refine qd<|U J<|O _ J<|qc J<|qa<|q8 j fun ad ae j=>Q4<|Qf (qa6 b h) (fun f=>⟨[(0,.hs 0 3 0 f.2.length),(3,.d (.fn q1F q1C)),(8,q9 b),(9,q9 0),(12,q9 f.1)],[(0,.dat 3 (f.2.map Qq))],1⟩) (w64 ((w64 (g - b)) - 1),k) ad ae (wkA [] [] []) ?_;intro f ak a;unfold qa6 at a;refine qf<|qd<|U J<|O _ J<|qa ?_;refine qo J a (fun _ a=>?_) (fun _ a=>?_)
 ·refine ql<|qf<|Q4<|qf<|Qi [Qu 0,q0,Qu 0,q0,qu 0,q0,q0,q0,qu 0,q0,q0,q0,q0,q0,q0,q0,q0,q0,q0,q0] qh<|U J<|U J<|U J<|U J<|U J<|O _ J<|U J<|U J<|U J<|O _ J<|q8 a fun t u a=>Q0 u J J<|Qd _ u J<|U J<|U J<|q8 a fun v w a=>Q0 w J J<|Qd _ w J<|q8 a fun al x a=>Q0 x J J<|K5 t x J J J J J J J J (leb J) J<|q8 a fun am y a=>Q0 y qe J<|K5 v y J J J J J J J J (leb J) J<|qa<|qw<|U J<|U J<|U J<|U J<|U J<|q8 a fun p af a=>q8 a fun an ag a=>?_;have ah:=Kn ag;refine U3 [(0,0)] [(0,0)] [.hs 0 3 0 f.2.length,q9 0,q9 f.1,q9 b,.d (.fn q1F q1C)] (.d (.tup [])) [(0,.dat 3 (p.map Qq))] [(0,.dat 3 (p.map Qq))] 1 (qno h q1F q1C q1Ok ((f.2.set b.toNat t).set (w64 (b + f.1)).toNat v) 0 f.1 b p af) J J J (Ym [(0,0)] [] [] J ⟨⟨_,J,K7 qe J qx (ltd J)⟩,qq J,qq J,qq J,qq J,trivial⟩ ⟨Qs J J,trivial⟩) (Ym [(0,0)] [] [] J ⟨qq J,trivial⟩ ⟨Qs J J,trivial⟩) J ⟨.inl J,trivial⟩<|qv<|Qp<|qw<|U J<|O _ J<|qc J<|qv<|⟨_,qm a,wkE [] [] [] J ⟨⟨_,J,K7 (by simp [ah]) J qx (ltd J)⟩,qq J,qq J,qq J,qq J,trivial⟩ ⟨Qs J J,trivial⟩⟩
 refine Qa ?_;refine ⟨_,qm a,fun hm=>?_⟩;subst hm;cases j;exact ⟨.inl J,_,J,wkA [] [] []⟩
theorem qh9 (f : qn→qn→Option Int) (q1F : FuncId) (q1C : List DV) (q1Ok : ∀ (b : qn) (c : qn) (r : Int),f b c = some r→Pure Tryz.prog tab q1F ([.agg [q7 b.at_,q7 b.list_,q7 b.by_],.agg [q7 c.at_,q7 c.list_,q7 c.by_]] ++ q1C) (q7 r)) (g : List qn) (h : Int) (j : Int) (k : Int) (r : Int × Int × Int) (a : q4f f g h j k = some r) : K9 Tryz.prog tab 186 [.d (.sl 3 (g.map Qq)),q9 h,q9 j,.ref 0 1 0 0,.d (.fn q1F q1C)] [(0,.dat 1 [[q7 k]])] 1 (.d (.tup [q7 r.1,q7 r.2.1])) [(0,.dat 1 [[q7 r.2.2]])] 1:=by
 unfold q4f at a;refine Ks Tryz.func186 J qh qh J<|qd<|qc J<|qc J<|qa<|qf<|qf<|Qi [q0,q0,q0,q0,q0,q0,q0,q0,q0,q0,q0] qh<|U J<|U J<|U J<|q8 a fun l m a=>Qc m J<|O _ J<|U J<|U J<|q8 a fun n o a=>Qc o J<|O _ J<|q8 a fun p q a=>Yk _ (q1Ok l n p q) J J J (.inl J)<|O _ J<|qa ?_;refine qo J a (fun _ a=>?_) (fun _ a=>?_)
 ·refine qd<|U J<|O _ J<|O _ J<|O _ J<|O _ J<|Ql 0 _ J<|qt<|U J<|U J<|qc J<|qc J<|qs ?_;cases a;exact ⟨.inr J,_,J,wkA [] [] []⟩
 refine ql<|qd<|U J<|U J<|qc J<|qc J<|qs ?_;cases a;exact ⟨.inr J,_,J,wkA [] [] []⟩
theorem qnl (f : qn→qn→Option Int) (q1F : FuncId) (q1C : List DV) (q1Ok : ∀ (h : qn) (j : qn) (r : Int),f h j = some r→Pure Tryz.prog tab q1F ([.agg [q7 h.at_,q7 h.list_,q7 h.by_],.agg [q7 j.at_,q7 j.list_,q7 j.by_]] ++ q1C) (q7 r)) (g : List qn) (l : Int) (m : Int) (n : Int) (o : Int) (r : Int × Int) (a : q73 f g l m n o = some r) : K9 Tryz.prog tab 185 [.d (.sl 3 (g.map Qq)),q9 l,q9 m,q9 n,.ref 0 1 0 0,.d (.fn q1F q1C)] [(0,.dat 1 [[q7 o]])] 1 (q9 r.1) [(0,.dat 1 [[q7 r.2]])] 1:=by
 unfold q73 at a;refine Ks Tryz.func185 J qh qh J<|qd<|qc J<|qt<|U J<|U J<|U J<|U J<|U J<|q8 a fun b p a=>Ka [(0,0)] [(0,0)] _ (.d (.tup [q7 b.1,q7 b.2.1])) 1 [(0,.dat 1 [[q7 b.2.2]])] 1 (qh9 f q1F q1C q1Ok g l m o b p)<|U J<|O _ J<|O _ J<|qc J<|qc J<|qt<|U J<|U J<|U J<|U J<|U J<|q8 a fun c q a=>Ka [(0,0)] [(0,0)] _ (.d (.tup [q7 c.1,q7 c.2.1])) 1 [(0,.dat 1 [[q7 c.2.2]])] 1 (qh9 f q1F q1C q1Ok g b.2.1 n b.2.2 c q)<|U J<|O _ J<|O _ J<|qc J<|qc J<|qt<|U J<|U J<|U J<|U J<|U J<|q8 a fun k s a=>Ka [(0,0)] [(0,0)] _ (.d (.tup [q7 k.1,q7 k.2.1])) 1 [(0,.dat 1 [[q7 k.2.2]])] 1 (qh9 f q1F q1C q1Ok g b.1 c.1 c.2.2 k s)<|U J<|O _ J<|O _ J ?_;refine qc J<|qc J<|qt<|U J<|qc J<|qs ?_;cases a;exact ⟨.inr J,_,J,wkA [] [] []⟩
theorem qh7 (g : qn→qn→Option Int) (q1F : FuncId) (q1C : List DV) (q1Ok : ∀ (b : qn) (c : qn) (r : Int),g b c = some r→Pure Tryz.prog tab q1F ([.agg [q7 b.at_,q7 b.list_,q7 b.by_],.agg [q7 c.at_,q7 c.list_,q7 c.by_]] ++ q1C) (q7 r)) (h : List qn) (a : Int) (j : Int) (r : Int × Int) (f : q4d g h a j = some r) : K9 Tryz.prog tab 184 [.d (.sl 3 (h.map Qq)),q9 a,.ref 0 1 0 0,.d (.fn q1F q1C)] [(0,.dat 1 [[q7 j]])] 1 (q9 r.1) [(0,.dat 1 [[q7 r.2]])] 1:=by
 unfold q4d at f;refine Ks Tryz.func184 J qh qh J<|qd<|qc J<|qt<|U J<|U J<|O _ J<|U J<|U J<|O _ J<|U J<|U J<|q8 f fun k l f=>Ka [(0,0)] [(0,0)] _ (q9 k.1) 1 [(0,.dat 1 [[q7 k.2]])] 1 (qnl g q1F q1C q1Ok h (w64 (a - 1)) a (w64 (a + 1)) j k l)<|qc J<|qs ?_;cases f;exact ⟨.inr J,_,J,wkA [] [] []⟩
end Go.Proofs.YtbknppciefodiaaGreat
