/- W_Alla -/
import Derived.Test.YtbknppciefodiaaGreatK14
namespace Go.Proofs.YtbknppciefodiaaGreat
open Go Go.Am Go.Sh
set_option maxHeartbeats 8000000
set_option maxRecDepth 100000
theorem qvn (c : List Qo) (g : Qo→Option Bool) (p1F : FuncId) (p1C : List DV) (p1Ok : ∀ (b : Qo) (r : Bool),g b = some r→Pure Tryz.prog tab p1F ([.agg [q8 b.From.X,q8 b.From.Y,q8 b.From.Z,q8 b.To.X,q8 b.To.Y,q8 b.To.Z,q8 b.Depth]] ++ p1C) (.bool r)) (r : Int) (f : qbi c g = some r) : Pure Tryz.prog tab 96 [.sl 7 (c.map Kd),.fn p1F p1C] (q8 r):=by
 unfold qbi at f;refine Qq Tryz.func96 J qh qh J<|qc<|qb J<|qa<|qf<|qc<|U J<|Qz J<|U J<|qa<|q9 f fun j l f=>?_;refine Qv (fun h=>.inl h = j) (fun h=>⟨[],[],0⟩) qe ?_ ?_
 ·refine Qm (q5f c g) (fun k=>⟨[(0,.d (.sl 7 (c.map Kd))),(1,.d (.fn p1F p1C)),(7,q7 (c.length : Int)),(8,q7 k)],[],0⟩) 0 j l (wkA [] [] []) ?_;intro k q a;unfold q5f at a;refine qc<|O _ J<|qa<|qf ?_;refine qr J a (fun _ a=>?_) (fun _ a=>?_)
  ·refine qq<|qf<|Q5<|qc<|U J<|qb J<|qt<|U J<|U J<|U J<|q9 a fun m n a=>K2 n J<|O _ J<|q9 a fun o p a=>Yf _ (p1Ok m o p) J J J (.inl J)<|qa ?_;refine qr J a (fun _ a=>?_) (fun _ a=>?_)
   ·refine qc<|U J<|qb J<|qx ?_;refine ⟨_,qs a,fun hm=>?_⟩;subst hm;cases f;exact Q8 _ J
   refine qq<|Qd<|Qr<|Q0<|O _ J<|U J<|Q1<|⟨_,qs a,wkA [] [] []⟩
  refine Qb ?_;refine ⟨_,qs a,fun hm=>?_⟩;subst hm;exact ⟨_,J,wkA [] [] []⟩
 intro h hb;subst hb;refine qc<|qb J<|qx ?_;cases f;exact Q8 _ J
theorem ql4 (c : List Qo) (d : Qo→Option Bool) (p1F : FuncId) (p1C : List DV) (p1Ok : ∀ (a : Qo) (r : Bool),d a = some r→Pure Tryz.prog tab p1F ([.agg [q8 a.From.X,q8 a.From.Y,q8 a.From.Z,q8 a.To.X,q8 a.To.Y,q8 a.To.Z,q8 a.Depth]] ++ p1C) (.bool r)) (r : Bool) (b : q5d c d = some r) : Pure Tryz.prog tab 65 [.sl 7 (c.map Kd),.fn p1F p1C] (.bool r):=by
 unfold q5d at b;refine Qq Tryz.func65 J qh qh J<|qc<|qb J<|qt<|U J<|U J<|q9 b fun f g b=>Q4 (qvn c d p1F p1C p1Ok f g) J<|O _ J<|qb J<|qx ?_;cases b;exact Q8 _ J
theorem qmi (a : qz) (r : Bool) (c : q9y a = some r) : Pure Tryz.prog tab 88 [.agg [q8 a.X,q8 a.Y,q8 a.Z]] (.bool r):=by
 unfold q9y at c;refine Qq Tryz.func88 J qh qh J<|qc<|Qu _ _ J<|qb J<|qt<|O _ J<|O _ J<|O _ J<|O _ J<|O _ J<|O _ J<|q2r (r:=min (min a.X a.Y) a.Z) J J (by simp only [q2p];rfl)<|O _ J<|q9 c fun o b c=>?_;refine Qi 10 (fun A st=>∃ d f g h j k l m n,st = A [(20,qw o),(19,n),(18,m),(17,l),(16,k),(15,j),(14,h),(13,g),(12,f),(11,d)]) ?_ ?_
 ·refine Qg J J b (fun b=>?_) (fun b=>?_)
  ·refine O _ J<|O _ J<|O _ J<|O _ J<|O _ J<|O _ J<|q1m (r:=max (max a.X a.Y) a.Z) J J (by simp only [q1k];rfl)<|O _ J<|O _ J<|qa ?_;cases b;exact ⟨_,_,_,_,_,_,_,_,_,J⟩
  refine qd J<|qd J<|qd J<|qd J<|qd J<|qd J<|qd J<|qd J<|O _ J<|qa ?_;cases b;exact ⟨_,_,_,_,_,_,_,_,_,J⟩
 rintro _ ⟨d,f,g,h,j,k,l,m,n,rfl⟩;refine qb J<|qx ?_;cases c;exact Q8 _ J
theorem q102 (a : Qo) (r : Bool) (b : q6u a = some r) : Pure Tryz.prog tab 87 [.agg [q8 a.From.X,q8 a.From.Y,q8 a.From.Z,q8 a.To.X,q8 a.To.Y,q8 a.To.Z,q8 a.Depth]] (.bool r):=by
 unfold q6u at b;refine Qq Tryz.func87 J qh qh J<|qc<|Qu _ _ J<|qb J<|qt<|qb J<|qa<|qf<|qc<|O _ J<|O _ J<|O _ J<|O _ J<|O _ J<|O _ J<|O _ J<|O _ J<|O _ J<|O _ J<|O _ J<|O _ J<|O _ J<|O _ J<|O _ J<|O _ J<|O _ J<|O _ J<|O _ J<|O _ J<|O _ J<|O _ J<|U J<|qa<|q9 b fun m w b=>?_;refine Qv (fun j=>j = m) (fun j=>⟨[(1,.ref 0 7 0 0),(3,q7 j)],[(0,.dat 7 [[q8 a.From.X,q8 a.From.Y,q8 a.From.Z,q8 a.To.X,q8 a.To.Y,q8 a.To.Z,q8 a.Depth]])],1⟩) qe ?_ ?_
 ·refine Qm (q11 a) (fun k=>⟨[(1,.ref 0 7 0 0),(3,q7 k.1),(27,.d (.agg [q8 (w64 (a.To.X - a.From.X)),q8 (w64 (a.To.Y - a.From.Y)),q8 (w64 (a.To.Z - a.From.Z))])),(28,q7 k.2)],[(0,.dat 7 [[q8 a.From.X,q8 a.From.Y,q8 a.From.Z,q8 a.To.X,q8 a.To.Y,q8 a.To.Z,q8 a.Depth]])],1⟩) (0,0) m w (wkA [(0,0)] [] []) ?_;intro k y6 c;unfold q11 at c;refine qc<|O _ J<|qa<|qf ?_;refine qr J c (fun _ c=>?_) (fun _ c=>?_)
  ·refine qq<|qf<|q9 c fun x f c=>?_;refine Qv (fun l=>l = x) (fun l=>⟨[(1,.ref 0 7 0 0),(3,q7 l),(27,.d (.agg [q8 (w64 (a.To.X - a.From.X)),q8 (w64 (a.To.Y - a.From.Y)),q8 (w64 (a.To.Z - a.From.Z))])),(28,q7 k.2)],[(0,.dat 7 [[q8 a.From.X,q8 a.From.Y,q8 a.From.Z,q8 a.To.X,q8 a.To.Y,q8 a.To.Z,q8 a.Depth]])],1⟩) qe ?_ ?_
   ·refine qc<|q9 f fun y z f=>qrl (enc:=(eI .i64)) [w64 (a.To.X - a.From.X),w64 (a.To.Y - a.From.Y),w64 (a.To.Z - a.From.Z)] (q7 y) z (fun _=>rfl) J J J J J J<|qb J<|qt<|U J<|O _ J<|qa ?_;refine qr J f (fun _ f=>?_) (fun _ f=>?_)
    ·refine Q0<|U J<|O _ J<|qb J<|Q1 ?_;obtain rfl:=qv f;exact ⟨_,J,wkA [(0,0)] [] []⟩
    refine qq<|Qd ?_;obtain rfl:=qv f;exact ⟨_,J,wkA [(0,0)] [] []⟩
   intro l hb;subst hb;refine Q0<|O _ J<|U J<|Q1<|⟨_,qs c,wkA [(0,0)] [] []⟩
  refine Qb ?_;refine ⟨_,qs c,fun hm=>?_⟩;subst hm;exact ⟨_,J,wkA [(0,0)] [] []⟩
 intro j hb;subst hb;refine qc<|O _ J<|O _ J<|q9 b fun aa ab b=>Q4 (qmi a.From aa ab) J<|O _ J<|q9 b fun ac g b=>?_;refine Qi 6 (fun A st=>∃ n o p q s,st = A [(45,qw ac),(44,s),(43,q),(42,p),(41,o),(40,n)]) ?_ ?_
 ·refine Qg J J g (fun g=>?_) (fun g=>?_)
  ·refine qd J<|qd J<|qd J<|qd J<|O _ J<|qa ?_;cases g;exact ⟨_,_,_,_,_,J⟩
  refine O _ J<|O _ J<|q9 g fun ad ae g=>Q4 (qmi a.To ad ae) J<|O _ J<|O _ J<|qa ?_;cases g;exact ⟨_,_,_,_,_,J⟩
 rintro _ ⟨n,o,p,q,s,rfl⟩;refine q9 b fun af h b=>?_;refine Qi 4 (fun A st=>∃ t u v,st = A [(49,qw af),(48,v),(47,u),(46,t)]) ?_ ?_
 ·refine Qg J J h (fun h=>?_) (fun h=>?_)
  ·refine qd J<|qd J<|O _ J<|qa ?_;cases h;exact ⟨_,_,_,J⟩
  refine U J<|O _ J<|O _ J<|qa ?_;cases h;exact ⟨_,_,_,J⟩
 rintro _ ⟨t,u,v,rfl⟩;refine qb J<|qx ?_;cases b;exact Q8 _ J
theorem qvo (c : List Yt) (g : Yt→Option Bool) (p1F : FuncId) (p1C : List DV) (p1Ok : ∀ (b : Yt) (r : Bool),g b = some r→Pure Tryz.prog tab p1F ([.agg [.int .u8 b.Name,.int .u8 b.Frame.Turn,q8 b.Frame.At.X,q8 b.Frame.At.Y,q8 b.Frame.At.Z]] ++ p1C) (.bool r)) (r : Int) (f : qbj c g = some r) : Pure Tryz.prog tab 115 [.sl 5 (c.map Yv),.fn p1F p1C] (q8 r):=by
 unfold qbj at f;refine Qq Tryz.func115 J qh qh J<|qc<|qb J<|qa<|qf<|qc<|U J<|Qz J<|U J<|qa<|q9 f fun j l f=>?_;refine Qv (fun h=>.inl h = j) (fun h=>⟨[],[],0⟩) qe ?_ ?_
 ·refine Qm (q5g c g) (fun k=>⟨[(0,.d (.sl 5 (c.map Yv))),(1,.d (.fn p1F p1C)),(7,q7 (c.length : Int)),(8,q7 k)],[],0⟩) 0 j l (wkA [] [] []) ?_;intro k q a;unfold q5g at a;refine qc<|O _ J<|qa<|qf ?_;refine qr J a (fun _ a=>?_) (fun _ a=>?_)
  ·refine qq<|qf<|Q5<|qc<|U J<|qb J<|qt<|U J<|U J<|U J<|q9 a fun m n a=>K2 n J<|O _ J<|q9 a fun o p a=>Yf _ (p1Ok m o p) J J J (.inl J)<|qa ?_;refine qr J a (fun _ a=>?_) (fun _ a=>?_)
   ·refine qc<|U J<|qb J<|qx ?_;refine ⟨_,qs a,fun hm=>?_⟩;subst hm;cases f;exact Q8 _ J
   refine qq<|Qd<|Qr<|Q0<|O _ J<|U J<|Q1<|⟨_,qs a,wkA [] [] []⟩
  refine Qb ?_;refine ⟨_,qs a,fun hm=>?_⟩;subst hm;exact ⟨_,J,wkA [] [] []⟩
 intro h hb;subst hb;refine qc<|qb J<|qx ?_;cases f;exact Q8 _ J
theorem qvg (c : List Yt) (d : Yt→Option Bool) (p1F : FuncId) (p1C : List DV) (p1Ok : ∀ (a : Yt) (r : Bool),d a = some r→Pure Tryz.prog tab p1F ([.agg [.int .u8 a.Name,.int .u8 a.Frame.Turn,q8 a.Frame.At.X,q8 a.Frame.At.Y,q8 a.Frame.At.Z]] ++ p1C) (.bool r)) (r : Bool) (b : q89 c d = some r) : Pure Tryz.prog tab 89 [.sl 5 (c.map Yv),.fn p1F p1C] (.bool r):=by
 unfold q89 at b;refine Qq Tryz.func89 J qh qh J<|qc<|qb J<|qt<|U J<|U J<|q9 b fun f g b=>Q4 (qvo c d p1F p1C p1Ok f g) J<|O _ J<|qb J<|qx ?_;cases b;exact Q8 _ J
theorem qps (a : qz) (d : Int) (r : Bool) (c : q7k a d = some r) : Pure Tryz.prog tab 91 [.agg [q8 a.X,q8 a.Y,q8 a.Z],q8 d] (.bool r):=by
 unfold q7k at c;refine Qq Tryz.func91 J qh qh J<|qc<|Qu _ _ J<|qb J<|qt<|O _ J<|O _ J<|O _ J<|O _ J<|O _ J<|O _ J<|q2r (r:=min (min a.X a.Y) a.Z) J J (by simp only [q2p];rfl)<|U J<|O _ J<|q9 c fun p b c=>?_;refine Qi 10 (fun A st=>∃ f g h j k l m n o,st = A [(23,qw p),(22,o),(21,n),(20,m),(19,l),(18,k),(17,j),(16,h),(15,g),(14,f)]) ?_ ?_
 ·refine Qg J J b (fun b=>?_) (fun b=>?_)
  ·refine O _ J<|O _ J<|O _ J<|O _ J<|O _ J<|O _ J<|q1m (r:=max (max a.X a.Y) a.Z) J J (by simp only [q1k];rfl)<|O _ J<|O _ J<|qa ?_;cases b;exact ⟨_,_,_,_,_,_,_,_,_,J⟩
  refine qd J<|qd J<|qd J<|qd J<|qd J<|qd J<|qd J<|qd J<|O _ J<|qa ?_;cases b;exact ⟨_,_,_,_,_,_,_,_,_,J⟩
 rintro _ ⟨f,g,h,j,k,l,m,n,o,rfl⟩;refine qb J<|qx ?_;cases c;exact Q8 _ J
theorem qhy (c : Kg) (r : Int) (a : q4k c = some r) : Pure Tryz.prog tab 61 [.agg [.int .u8 c.Turn,q8 c.At.X,q8 c.At.Y,q8 c.At.Z]] (q8 r):=by
 unfold q4k at a;refine Qq Tryz.func61 J qh qh J<|qc<|Qu _ _ J<|qb J<|qa<|qf<|qc<|O _ J<|O _ J<|O _ J<|q9 a fun k b a=>?_;refine Qi 6 (fun A st=>∃ d f g h j,st = A [(11,qw k),(10,j),(9,h),(8,g),(7,f),(6,d)]) ?_ ?_
 ·refine Qg J J b (fun b=>?_) (fun b=>?_)
  ·refine qd J<|qd J<|qd J<|qd J<|O _ J<|qa ?_;cases b;exact ⟨_,_,_,_,_,J⟩
  refine O _ J<|O _ J<|q9 b fun l m b=>Q4 (qps c.At (-1000000) l m) J<|O _ J<|O _ J<|qa ?_;cases b;exact ⟨_,_,_,_,_,J⟩
 rintro _ ⟨d,f,g,h,j,rfl⟩;refine qa ?_;refine qr J a (fun _ a=>?_) (fun _ a=>?_)
 ·refine qc<|qb J<|qx ?_;cases a;exact Q8 _ J
 refine qq<|qc<|qb J<|qx ?_;cases a;exact Q8 _ J
theorem q103 (a : Yt) (r : Bool) (b : q6v a = some r) : Pure Tryz.prog tab 90 [.agg [.int .u8 a.Name,.int .u8 a.Frame.Turn,q8 a.Frame.At.X,q8 a.Frame.At.Y,q8 a.Frame.At.Z]] (.bool r):=by
 unfold q6v at b;refine Qq Tryz.func90 J qh qh J<|qc<|Qu _ _ J<|qb J<|qt<|O _ J<|O _ J<|q9 b fun c d b=>Q4 (qhy a.Frame c d) J<|O _ J<|qb J<|qx ?_;cases b;exact Q8 _ J
theorem q104 (b : Qw) (r : Int) (a : q9x b = some r) : Pure Tryz.prog tab 60 [.agg [.sl 7 (b.Lines.map Kd),.sl 5 (b.Marks.map Yv),.int .u8 b.End.Frame.Turn,q8 b.End.Frame.At.X,q8 b.End.Frame.At.Y,q8 b.End.Frame.At.Z,q8 b.End.Drawn]] (q8 r):=by
 unfold q9x at a;refine Qq Tryz.func60 J qh qh J<|qc<|Qu _ _ J<|qb J<|qt<|O _ J<|O _ J<|q9 a fun r1 h2 a=>Q4 (ql4 b.Lines (fun c=>q6u c) 87 [] (fun c r hr=>q102 c r hr) r1 h2) J<|qb J<|qt<|O _ J<|O _ J<|q9 a fun r3 h4 a=>Q4 (qvg b.Marks (fun c=>q6v c) 90 [] (fun c r hr=>q103 c r hr) r3 h4) J<|qb J<|qa<|qf<|qc<|U J<|q9 a fun c5 f a=>?_;refine Qi 3 (fun A st=>∃ h j,st = A [(14,qw c5),(13,j),(12,h)]) ?_ ?_
 ·refine Qg J J f (fun f=>?_) (fun f=>?_)
  ·refine qd J<|O _ J<|qa ?_;cases f;exact ⟨_,_,J⟩
  refine U J<|O _ J<|qa ?_;cases f;exact ⟨_,_,J⟩
 rintro _ ⟨h,j,rfl⟩;refine q9 a fun af d a=>?_;refine Qi 7 (fun A st=>∃ k l m n o p,st = A [(21,qw af),(20,p),(19,o),(18,n),(17,m),(16,l),(15,k)]) ?_ ?_
 ·refine Qg J J d (fun d=>?_) (fun d=>?_)
  ·refine qd J<|qd J<|qd J<|qd J<|qd J<|O _ J<|qa ?_;cases d;exact ⟨_,_,_,_,_,_,J⟩
  refine O _ J<|O _ J<|O _ J<|q9 d fun ag ah d=>Q4 (qhy b.End.Frame ag ah) J<|O _ J<|O _ J<|qa ?_;cases d;exact ⟨_,_,_,_,_,_,J⟩
 rintro _ ⟨k,l,m,n,o,p,rfl⟩;refine q9 a fun ai g a=>?_;refine Qi 10 (fun A st=>∃ q s t u v w x y z,st = A [(31,qw ai),(30,z),(29,y),(28,x),(27,w),(26,v),(25,u),(24,t),(23,s),(22,q)]) ?_ ?_
 ·refine Qg J J g (fun g=>?_) (fun g=>?_)
  ·refine qd J<|qd J<|qd J<|qd J<|qd J<|qd J<|qd J<|qd J<|O _ J<|qa ?_;cases g;exact ⟨_,_,_,_,_,_,_,_,_,J⟩
  refine O _ J<|O _ J<|Qz J<|O _ J<|O _ J<|Qz J<|q1m (r:=max (b.Lines.length : Int) (b.Marks.length : Int)) J J (by simp only [q1k];rfl)<|O _ J<|O _ J<|qa ?_;cases g;exact ⟨_,_,_,_,_,_,_,_,_,J⟩
 rintro _ ⟨q,s,t,u,v,w,x,y,z,rfl⟩;refine qa ?_;refine qr J a (fun _ a=>?_) (fun _ a=>?_)
 ·refine qc<|qb J<|qx ?_;cases a;exact Q8 _ J
 refine qq<|qc<|qb J<|qx ?_;cases a;exact Q8 _ J
theorem qfj (a : Int) (r : Int) (b : q6w a = some r) : Pure Tryz.prog tab 69 [q8 a] (q8 r):=by
 unfold q6w at b;refine Qq Tryz.func69 J qh qh J<|qc<|qb J<|qt<|U J<|U J<|O _ J<|q1m (r:=max a (w64 (0 - a))) J J (by simp only [q1k];rfl)<|qb J<|qx ?_;cases b;exact Q8 _ J
theorem qmh (b : Qw) (r : Int × Int) (c : q49 b = some r) : Pure Tryz.prog tab 43 [.agg [.sl 7 (b.Lines.map Kd),.sl 5 (b.Marks.map Yv),.int .u8 b.End.Frame.Turn,q8 b.End.Frame.At.X,q8 b.End.Frame.At.Y,q8 b.End.Frame.At.Z,q8 b.End.Drawn]] (.tup [q8 r.1,q8 r.2]):=by
 unfold q49 at c;refine Qq Tryz.func43 J qh qh J<|qc<|Qu _ _ J<|qb J<|qb J<|qa<|qf<|qc<|O _ J<|q9 c fun k l c=>Q4 (q104 b k l) J<|qb J<|qt<|U J<|O _ J<|qa ?_;refine qr J c (fun _ c=>?_) (fun _ c=>?_)
 ·refine qc<|U J<|qb J<|qb J<|qx ?_;cases c;exact Q8 _ J
 refine qq<|qc<|qb J<|qa<|qf<|qc<|O _ J<|O _ J<|Qz J<|U J<|qa<|q9 c fun j m c=>?_;refine Qv (fun g=>g = j) (fun g=>⟨[(5,q7 g)],[],0⟩) qe ?_ ?_
 ·refine Qm (q6t b) (fun h=>⟨[(5,q7 h.1),(14,.d (.sl 7 (b.Lines.map Kd))),(15,q7 (b.Lines.length : Int)),(16,q7 h.2)],[],0⟩) (0,0) j m (wkA [] [] []) ?_;intro h v a;unfold q6t at a;refine qc<|O _ J<|qa<|qf ?_;refine qr J a (fun _ a=>?_) (fun _ a=>?_)
  ·refine qq<|qf<|Q5<|qc<|q9 a fun f n a=>K2 n J<|O _ J<|K0 J J<|Qc 0 _ J<|qa<|Ql [q6,q6,q6,q6,q6,qu 0,q6,q6,qu 0,q6,q6,q6,q6,q6,qu 0,q6,q6,qu 0,q6,q6,q6,q6,qu 0,q6,q6,qu 0,q6,q6,q6] qh<|U J<|O _ J<|O _ J<|O _ J<|O _ J<|O _ J<|O _ J<|O _ J<|q9 a fun o p a=>Q4 (qfj (w64 (f.To.X - f.From.X)) o p) J<|O _ J<|O _ J<|O _ J<|O _ J<|O _ J<|O _ J<|O _ J<|q9 a fun q s a=>Q4 (qfj (w64 (f.To.Y - f.From.Y)) q s) J<|O _ J<|O _ J<|O _ J<|O _ J<|O _ J<|O _ J<|O _ J<|O _ J<|q9 a fun t u a=>Q4 (qfj (w64 (f.To.Z - f.From.Z)) t u) J ?_;refine O _ J<|O _ J<|qb J<|Q1<|Qr<|Q0<|O _ J<|U J<|Q1<|⟨_,qs a,wkA [] [] []⟩
  refine Qb ?_;refine ⟨_,qs a,fun hm=>?_⟩;subst hm;exact ⟨_,J,wkA [] [] []⟩
 intro g hb;subst hb;refine qc<|U J<|qb J<|qb J<|qx ?_;cases c;exact Q8 _ J
theorem qvr (c : List qg) (g : qg→Option Bool) (p1F : FuncId) (p1C : List DV) (p1Ok : ∀ (b : qg) (r : Bool),g b = some r→Pure Tryz.prog tab p1F ([.agg [q8 b.Lo.X,q8 b.Lo.Y,q8 b.Lo.Z,q8 b.Hi.X,q8 b.Hi.Y,q8 b.Hi.Z]] ++ p1C) (.bool r)) (r : Int) (f : q8e c g = some r) : Pure Tryz.prog tab 85 [.sl 6 (c.map Qa),.fn p1F p1C] (q8 r):=by
 unfold q8e at f;refine Qq Tryz.func85 J qh qh J<|qc<|qb J<|qa<|qf<|qc<|U J<|Qz J<|U J<|qa<|q9 f fun j l f=>?_;refine Qv (fun h=>.inl h = j) (fun h=>⟨[],[],0⟩) qe ?_ ?_
 ·refine Qm (Uw c g) (fun k=>⟨[(0,.d (.sl 6 (c.map Qa))),(1,.d (.fn p1F p1C)),(7,q7 (c.length : Int)),(8,q7 k)],[],0⟩) 0 j l (wkA [] [] []) ?_;intro k q a;unfold Uw at a;refine qc<|O _ J<|qa<|qf ?_;refine qr J a (fun _ a=>?_) (fun _ a=>?_)
  ·refine qq<|qf<|Q5<|qc<|U J<|qb J<|qt<|U J<|U J<|U J<|q9 a fun m n a=>K2 n J<|O _ J<|q9 a fun o p a=>Yf _ (p1Ok m o p) J J J (.inl J)<|qa ?_;refine qr J a (fun _ a=>?_) (fun _ a=>?_)
   ·refine qc<|U J<|qb J<|qx ?_;refine ⟨_,qs a,fun hm=>?_⟩;subst hm;cases f;exact Q8 _ J
   refine qq<|Qd<|Qr<|Q0<|O _ J<|U J<|Q1<|⟨_,qs a,wkA [] [] []⟩
  refine Qb ?_;refine ⟨_,qs a,fun hm=>?_⟩;subst hm;exact ⟨_,J,wkA [] [] []⟩
 intro h hb;subst hb;refine qc<|qb J<|qx ?_;cases f;exact Q8 _ J
theorem qf3 (c : List qg) (d : qg→Option Bool) (p1F : FuncId) (p1C : List DV) (p1Ok : ∀ (a : qg) (r : Bool),d a = some r→Pure Tryz.prog tab p1F ([.agg [q8 a.Lo.X,q8 a.Lo.Y,q8 a.Lo.Z,q8 a.Hi.X,q8 a.Hi.Y,q8 a.Hi.Z]] ++ p1C) (.bool r)) (r : Bool) (b : q1r c d = some r) : Pure Tryz.prog tab 57 [.sl 6 (c.map Qa),.fn p1F p1C] (.bool r):=by
 unfold q1r at b;refine Qq Tryz.func57 J qh qh J<|qc<|qb J<|qt<|U J<|U J<|q9 b fun f g b=>Q4 (qvr c d p1F p1C p1Ok f g) J<|O _ J<|qb J<|qx ?_;cases b;exact Q8 _ J
theorem qlh (a : qz) (r : Bool) (c : q6h a = some r) : Pure Tryz.prog tab 97 [.agg [q8 a.X,q8 a.Y,q8 a.Z]] (.bool r):=by
 unfold q6h at c;refine Qq Tryz.func97 J qh qh J<|qc<|Qu _ _ J<|qb J<|qt<|O _ J<|O _ J<|O _ J<|O _ J<|O _ J<|O _ J<|q2r (r:=min (min a.X a.Y) a.Z) J J (by simp only [q2p];rfl)<|O _ J<|q9 c fun o b c=>?_;refine Qi 10 (fun A st=>∃ d f g h j k l m n,st = A [(20,qw o),(19,n),(18,m),(17,l),(16,k),(15,j),(14,h),(13,g),(12,f),(11,d)]) ?_ ?_
 ·refine Qg J J b (fun b=>?_) (fun b=>?_)
  ·refine O _ J<|O _ J<|O _ J<|O _ J<|O _ J<|O _ J<|q1m (r:=max (max a.X a.Y) a.Z) J J (by simp only [q1k];rfl)<|O _ J<|O _ J<|qa ?_;cases b;exact ⟨_,_,_,_,_,_,_,_,_,J⟩
  refine qd J<|qd J<|qd J<|qd J<|qd J<|qd J<|qd J<|qd J<|O _ J<|qa ?_;cases b;exact ⟨_,_,_,_,_,_,_,_,_,J⟩
 rintro _ ⟨d,f,g,h,j,k,l,m,n,rfl⟩;refine qb J<|qx ?_;cases c;exact Q8 _ J
theorem qlj (b : qg) (r : Bool) (a : q6i b = some r) : Pure Tryz.prog tab 71 [.agg [q8 b.Lo.X,q8 b.Lo.Y,q8 b.Lo.Z,q8 b.Hi.X,q8 b.Hi.Y,q8 b.Hi.Z]] (.bool r):=by
 unfold q6i at a;refine Qq Tryz.func71 J qh qh J<|qc<|Qu _ _ J<|qb J<|qt<|O _ J<|O _ J<|O _ J<|O _ J<|O _ J<|O _ J<|O _ J<|q9 a fun c1 f a=>?_;refine Qi 9 (fun A st=>∃ h j k l m n o p,st = A [(18,qw c1),(17,p),(16,o),(15,n),(14,m),(13,l),(12,k),(11,j),(10,h)]) ?_ ?_
 ·refine Qg J J f (fun f=>?_) (fun f=>?_)
  ·refine O _ J<|O _ J<|O _ J<|O _ J<|O _ J<|O _ J<|O _ J<|O _ J<|qa ?_;cases f;exact ⟨_,_,_,_,_,_,_,_,J⟩
  refine qd J<|qd J<|qd J<|qd J<|qd J<|qd J<|qd J<|O _ J<|qa ?_;cases f;exact ⟨_,_,_,_,_,_,_,_,J⟩
 rintro _ ⟨h,j,k,l,m,n,o,p,rfl⟩;refine q9 a fun ai g a=>?_;refine Qi 9 (fun A st=>∃ q s t u v w x y,st = A [(27,qw ai),(26,y),(25,x),(24,w),(23,v),(22,u),(21,t),(20,s),(19,q)]) ?_ ?_
 ·refine Qg J J g (fun g=>?_) (fun g=>?_)
  ·refine O _ J<|O _ J<|O _ J<|O _ J<|O _ J<|O _ J<|O _ J<|O _ J<|qa ?_;cases g;exact ⟨_,_,_,_,_,_,_,_,J⟩
  refine qd J<|qd J<|qd J<|qd J<|qd J<|qd J<|qd J<|O _ J<|qa ?_;cases g;exact ⟨_,_,_,_,_,_,_,_,J⟩
 rintro _ ⟨q,s,t,u,v,w,x,y,rfl⟩;refine q9 a fun aj c a=>?_;refine Qi 5 (fun A st=>∃ z aa ab ac,st = A [(32,qw aj),(31,ac),(30,ab),(29,aa),(28,z)]) ?_ ?_
 ·refine Qg J J c (fun c=>?_) (fun c=>?_)
  ·refine O _ J<|O _ J<|q9 c fun ak al c=>Q4 (qlh b.Lo ak al) J<|O _ J<|qa ?_;cases c;exact ⟨_,_,_,_,J⟩
  refine qd J<|qd J<|qd J<|O _ J<|qa ?_;cases c;exact ⟨_,_,_,_,J⟩
 rintro _ ⟨z,aa,ab,ac,rfl⟩;refine q9 a fun am d a=>?_;refine Qi 5 (fun A st=>∃ ad ae af ag,st = A [(37,qw am),(36,ag),(35,af),(34,ae),(33,ad)]) ?_ ?_
 ·refine Qg J J d (fun d=>?_) (fun d=>?_)
  ·refine O _ J<|O _ J<|q9 d fun an ao d=>Q4 (qlh b.Hi an ao) J<|O _ J<|qa ?_;cases d;exact ⟨_,_,_,_,J⟩
  refine qd J<|qd J<|qd J<|O _ J<|qa ?_;cases d;exact ⟨_,_,_,_,J⟩
 rintro _ ⟨ad,ae,af,ag,rfl⟩;refine qb J<|qx ?_;cases a;exact Q8 _ J
theorem qyg (a : qg) (r : Bool) (b : q32 a = some r) : Pure Tryz.prog tab 70 [.agg [q8 a.Lo.X,q8 a.Lo.Y,q8 a.Lo.Z,q8 a.Hi.X,q8 a.Hi.Y,q8 a.Hi.Z]] (.bool r):=by
 unfold q32 at b;refine Qq Tryz.func70 J qh qh J<|qc<|Qu _ _ J<|qb J<|qt<|O _ J<|q9 b fun c d b=>Q4 (qlj a c d) J<|O _ J<|qb J<|qx ?_;cases b;exact Q8 _ J
theorem qqz (k : Int) (r : Int) (a : q2o k = some r) : Pure Tryz.prog tab 156 [.int .u64 k] (q8 r):=by
 unfold q2o at a;refine Qq Tryz.func156 J qh qh J<|qc<|qb J<|qa<|qf<|qc<|U J<|O _ J<|qa<|q9 a fun l b a=>?_;refine Z6 (fun c=>c = l) (fun c=>⟨[(0,.d (.int .u64 c.1)),(2,q7 c.2)],[],0⟩) qe ?_ ?_
 ·refine qr J b (fun _ b=>?_) (fun _ b=>?_)
  ·refine qc<|U J<|O _ J<|qb J<|qa<|Q0<|qb J<|Q1 ?_;obtain rfl:=qv b;exact ⟨_,J,wkA [] [] []⟩
  refine qq<|Qd ?_;obtain rfl:=qv b;exact ⟨_,J,wkA [] [] []⟩
 intro c hb;subst hb;refine qf<|qc<|U J<|O _ J<|qa<|q9 a fun m f a=>?_;refine Z6 (fun g=>g = m) (fun g=>⟨[(0,.d (.int .u64 g.1)),(2,q7 g.2)],[],0⟩) qe ?_ ?_
 ·refine qr J f (fun _ f=>?_) (fun _ f=>?_)
  ·refine qc<|U J<|O _ J<|qb J<|qa<|Q0<|U J<|O _ J<|qb J<|Q1 ?_;obtain rfl:=qv f;exact ⟨_,J,wkA [] [] []⟩
  refine qq<|Qd ?_;obtain rfl:=qv f;exact ⟨_,J,wkA [] [] []⟩
 intro g hb;subst hb;refine qf<|qc<|U J<|O _ J<|qa<|q9 a fun n h a=>?_;refine Z6 (fun j=>j = n) (fun j=>⟨[(0,.d (.int .u64 j.1)),(2,q7 j.2)],[],0⟩) qe ?_ ?_
 ·refine qr J h (fun _ h=>?_) (fun _ h=>?_)
  ·refine qc<|U J<|O _ J<|qb J<|qa<|Q0<|U J<|O _ J<|qb J<|Q1 ?_;obtain rfl:=qv h;exact ⟨_,J,wkA [] [] []⟩
  refine qq<|Qd ?_;obtain rfl:=qv h;exact ⟨_,J,wkA [] [] []⟩
 intro j hb;subst hb;refine qc<|U J<|U J<|O _ J<|q9 a fun p o a=>qrm qby o J J J J J<|O _ J<|O _ J<|qb J<|qx ?_;cases a;exact Q8 _ J
theorem qe3 (b : Int) (r : Int) (a : Ut b = some r) : Pure Tryz.prog tab 136 [.int .u64 b] (q8 r):=by
 unfold Ut at a;refine Qq Tryz.func136 J qh qh J<|qc<|qb J<|qa<|qf<|Zb J<|qq<|qc<|U J<|q9 a fun c d a=>Q4 (qqz b c d) J<|qb J<|qx ?_;cases a;exact Q8 _ J
theorem qgq (a : Int) (r : Bool) (b : q79 a = some r) : Pure Tryz.prog tab 170 [q8 a] (.bool r):=by
 unfold q79 at b;refine Qq Tryz.func170 J qh qh J<|qc<|qb J<|qt<|U J<|U J<|O _ J<|qb J<|qx ?_;cases b;exact Q8 _ J
theorem Zw (d : Int) (f : Int) (r : Bool) (a : Z8 d f = some r) : Pure Tryz.prog tab 152 [q8 d,q8 f] (.bool r):=by
 unfold Z8 at a;refine Qq Tryz.func152 J qh qh J<|qc<|qb J<|qt<|U J<|q9 a fun p q a=>Q4 (qgq d p q) J<|q9 a fun s b a=>?_;refine Qi 5 (fun A st=>∃ g h j k,st = A [(11,qw s),(10,k),(9,j),(8,h),(7,g)]) ?_ ?_
 ·refine Qg J J b (fun b=>?_) (fun b=>?_)
  ·refine U J<|q9 b fun t u b=>Q4 (qgq f t u) J<|O _ J<|O _ J<|qa ?_;cases b;exact ⟨_,_,_,_,J⟩
  refine qd J<|qd J<|qd J<|O _ J<|qa ?_;cases b;exact ⟨_,_,_,_,J⟩
 rintro _ ⟨g,h,j,k,rfl⟩;refine q9 a fun v c a=>?_;refine Qi 5 (fun A st=>∃ l m n o,st = A [(16,qw v),(15,o),(14,n),(13,m),(12,l)]) ?_ ?_
 ·refine Qg J J c (fun c=>?_) (fun c=>?_)
  ·refine qd J<|qd J<|qd J<|O _ J<|qa ?_;cases c;exact ⟨_,_,_,_,J⟩
  refine U J<|U J<|O _ J<|O _ J<|qa ?_;cases c;exact ⟨_,_,_,_,J⟩
 rintro _ ⟨l,m,n,o,rfl⟩;refine qb J<|qx ?_;cases a;exact Q8 _ J
theorem qw2 (k : List Int) (c : Int) (h : Int) (r : List Int) (l : q5o  k c h = some r) : K9 Tryz.prog tab 146 [.hs 0 1 0 k.length,q7 c,q7 h] [(0,.dat 1 (k.map (eI .i64)))] 1 (.d (.tup [])) [(0,.dat 1 (r.map (eI .i64)))] 1:=by
 unfold q5o at l;refine Kr Tryz.func146 J qh qh J<|qc<|U J<|O _ J<|qb J<|qa<|q9 l fun ai aj l=>Q5<|Qm (q5p h c) (fun f=>⟨[(0,.hs 0 1 0 f.2.length),(1,q7 c),(2,q7 h),(6,q7 f.1)],[(0,.dat 1 (f.2.map (eI .i64)))],1⟩) (w64 (c + 1),k) ai aj (wkA [] [] []) ?_;intro f au g;unfold q5p at g;refine qf<|qc<|U J<|U J<|O _ J<|qa ?_;refine qr J g (fun _ g=>?_) (fun _ g=>?_)
 ·refine qq<|qf<|q9 g fun ak n g=>?_;refine Qv (fun j=>j = ak) (fun j=>⟨[(0,.hs 0 1 0 j.length),(1,q7 c),(2,q7 h),(6,q7 f.1)],[(0,.dat 1 (j.map (eI .i64)))],1⟩) qe ?_ ?_
  ·refine qc<|U J<|qb J<|qa<|q9 n fun al am n=>Q5<|Qm (q5q c) (fun m=>⟨[(0,.hs 0 1 0 m.2.length),(1,q7 c),(2,q7 h),(6,q7 f.1),(7,q7 m.1)],[(0,.dat 1 (m.2.map (eI .i64)))],1⟩) (f.1,f.2) al am (wkA [] [] []) ?_;intro m av a;unfold q5q at a;refine qf<|qf<|Ql [q6,q6,qu 0,q6,q6,q6,q6,qu 0,q6,q6,q6,q6,q6,q6,q6] qh<|U J<|U J<|O _ J<|q9 a fun an b a=>?_;refine Qi 12 (fun A st=>∃ o p q s t u v w x y z,st = A [(30,qw an),(29,z),(28,y),(27,x),(26,w),(25,v),(24,u),(23,t),(22,s),(21,q),(20,p),(19,o)]) ?_ ?_
   ·refine Qg J J b (fun b=>?_) (fun b=>?_)
    ·refine U J<|U J<|q9 b fun ao aa b=>qy aa J J<|Q7 _ aa J<|U J<|U J<|O _ J<|q9 b fun ap ab b=>qy ab J J<|Q7 _ ab J<|q9 b fun aq ar b=>Q4 (Zw ao ap aq ar) J<|O _ J<|qa ?_;cases b;exact ⟨_,_,_,_,_,_,_,_,_,_,_,J⟩
    refine qd J<|qd J<|qd J<|qd J<|qd J<|qd J<|qd J<|qd J<|qd J<|qd J<|O _ J<|qa ?_;cases b;exact ⟨_,_,_,_,_,_,_,_,_,_,_,J⟩
   rintro _ ⟨o,p,q,s,t,u,v,w,x,y,z,rfl⟩;refine qa ?_;refine qr J a (fun _ a=>?_) (fun _ a=>?_)
   ·refine qq<|qf<|Q5<|Ql [Qs 0,q6,Qs 0,q6,qu 0,q6,q6,q6,qu 0,q6,q6,q6,q6,q6,q6,q6,q6,q6] qh<|U J<|U J<|U J<|U J<|O _ J<|U J<|U J<|O _ J<|q9 a fun ac ad a=>qy ad J J<|Q7 _ ad J<|U J<|U J<|q9 a fun ae af a=>qy af J J<|Q7 _ af J<|q9 a fun aw ag a=>qy ag J J<|K3 (ds:=[q8 ac]) ac ag J J J J J J J J (leb J) J<|q9 a fun ax ah a=>qy ah qe J<|K3 (ds:=[q8 ae]) ae ah J J J J J J J J (leb J) J<|Q1<|Qr<|Q0<|U J<|O _ J<|qb J<|Q1<|⟨_,qs a,wkE [] [] [] J ⟨⟨_,J,K7 qe J qo (ltd J)⟩,qp J,qp J,qp J,qp J,trivial⟩ ⟨Qn J J,trivial⟩⟩
   refine Qb ?_;refine ⟨_,qs a,fun hm=>?_⟩;subst hm;obtain rfl:=qv n;exact ⟨_,J,wkA [] [] []⟩
  intro j hb;subst hb;refine Q0<|U J<|O _ J<|qb J<|Q1<|⟨_,qs g,wkA [] [] []⟩
 refine Qb ?_;refine ⟨_,qs g,fun hm=>?_⟩;subst hm;obtain rfl:=qv l;exact ⟨.inl J,_,J,wkA [] [] []⟩
theorem qla (k : List Int) (m : Int) (f : Int) (g : Int) (r : List Int) (h : q3y  k m f g = some r) : K9 Tryz.prog tab 165 [.hs 0 1 0 k.length,q7 m,q7 f,q7 g] [(0,.dat 1 (k.map (eI .i64)))] 1 (.d (.tup [])) [(0,.dat 1 (r.map (eI .i64)))] 1:=by
 unfold q3y at h;refine Kr Tryz.func165 J qh qh J<|qc<|U J<|qb J<|qa<|q9 h fun an ao h=>Q5<|Qm (q6c f g) (fun c=>⟨[(0,.hs 0 1 0 c.2.length),(2,q7 f),(3,q7 g),(8,q7 c.1)],[(0,.dat 1 (c.2.map (eI .i64)))],1⟩) (m,k) an ao (wkA [] [] []) ?_;intro c bb a;unfold q6c at a;refine Q5<|qc<|U J<|O _ J<|O _ J<|qb J<|qa<|qf<|qc<|U J<|U J<|O _ J<|qa ?_;refine qr J a (fun _ a=>?_) (fun _ a=>?_)
 ·refine Qb ?_;refine ⟨_,qs a,fun hm=>?_⟩;subst hm;obtain rfl:=qv h;exact ⟨.inl J,_,J,wkA [] [] []⟩
 refine qq<|qf<|qf<|Ql [q6,q6,qu 0,q6,q6,q6,q6,q6,q6,qu 0,q6,q6,q6,q6,q6,q6,q6,q6,q6,q6] qh<|U J<|O _ J<|U J<|O _ J<|q9 a fun ap b a=>?_;refine Qi 16 (fun A st=>∃ n o p q s t u v w x y z aa ab ac,st = A [(36,qw ap),(35,ac),(34,ab),(33,aa),(32,z),(31,y),(30,x),(29,w),(28,v),(27,u),(26,t),(25,s),(24,q),(23,p),(22,o),(21,n)]) ?_ ?_
 ·refine Qg J J b (fun b=>?_) (fun b=>?_)
  ·refine U J<|U J<|U J<|O _ J<|q9 b fun aq ad b=>qy ad J J<|Q7 _ ad J<|U J<|U J<|U J<|O _ J<|O _ J<|q9 b fun ar ae b=>qy ae J J<|Q7 _ ae J<|q9 b fun au av b=>Q4 (Zw aq ar au av) J<|O _ J<|qa ?_;cases b;exact ⟨_,_,_,_,_,_,_,_,_,_,_,_,_,_,_,J⟩
  refine qd J<|qd J<|qd J<|qd J<|qd J<|qd J<|qd J<|qd J<|qd J<|qd J<|qd J<|qd J<|qd J<|qd J<|O _ J<|qa ?_;cases b;exact ⟨_,_,_,_,_,_,_,_,_,_,_,_,_,_,_,J⟩
 rintro _ ⟨n,o,p,q,s,t,u,v,w,x,y,z,aa,ab,ac,rfl⟩;refine qa<|q9 a fun aw j a=>?_;refine Z6 (fun l=>l = aw) (fun l=>⟨[(0,.hs 0 1 0 c.2.length),(2,q7 f),(3,q7 g),(8,q7 c.1),(9,q7 l)],[(0,.dat 1 (c.2.map (eI .i64)))],1⟩) qe ?_ ?_
 ·refine qr J j (fun _ j=>?_) (fun _ j=>?_)
  ·refine Q0<|U J<|O _ J<|qb J<|Q1 ?_;obtain rfl:=qv j;exact ⟨_,J,wkA [] [] []⟩
  refine qq<|Qd ?_;obtain rfl:=qv j;exact ⟨_,J,wkA [] [] []⟩
 intro l hb;subst hb;refine qf<|qf<|Ql [q6,q6,qu 0,q6,q6,q6,q6,q6,qu 0,q6,q6,q6,q6,q6] qh<|U J<|U J<|U J<|O _ J<|q9 a fun ax af a=>qy af J J<|Q7 _ af J<|U J<|U J<|U J<|O _ J<|q9 a fun ay ag a=>qy ag J J<|Q7 _ ag J<|q9 a fun az ba a=>Q4 (Zw ax ay az ba) J<|O _ J<|qa ?_;refine qr J a (fun _ a=>?_) (fun _ a=>?_)
 ·refine Uu ?_;refine ⟨_,qs a,fun hm=>?_⟩;subst hm;obtain rfl:=qv h;exact ⟨.inr J,_,J,wkA [] [] []⟩
 refine qq<|qf<|Ql [Qs 0,q6,Qs 0,q6,qu 0,q6,q6,q6,q6,q6,qu 0,q6,q6,q6,q6,q6,q6,q6,q6,q6,q6,q6,q6,q6] qh<|U J<|U J<|U J<|O _ J<|U J<|U J<|U J<|O _ J<|U J<|U J<|U J<|O _ J<|q9 a fun ah ai a=>qy ai J J<|Q7 _ ai J<|U J<|U J<|U J<|O _ J<|q9 a fun aj ak a=>qy ak J J<|Q7 _ ak J<|q9 a fun bc al a=>qy al J J<|K3 (ds:=[q8 ah]) ah al J J J J J J J J (leb J) J<|q9 a fun bd am a=>qy am qe J<|K3 (ds:=[q8 aj]) aj am J J J J J J J J (leb J) J<|qa<|Q0<|U J<|qb J<|Q1<|Qr<|Qd<|⟨_,qs a,wkE [] [] [] J ⟨⟨_,J,K7 qe J qo (ltd J)⟩,qp J,qp J,qp J,trivial⟩ ⟨Qn J J,trivial⟩⟩
theorem qw0 (l : List Int) (b : Int) (g : Int) (r : List Int) (h : q5l  l b g = some r) : K9 Tryz.prog tab 147 [.hs 0 1 0 l.length,q7 b,q7 g] [(0,.dat 1 (l.map (eI .i64)))] 1 (.d (.tup [])) [(0,.dat 1 (r.map (eI .i64)))] 1:=by
 unfold q5l at h;refine Kr Tryz.func147 J qh qh J<|qc<|U J<|qb J<|qt<|qb J<|qt<|U J<|U J<|O _ J<|qb J<|qa<|qf<|qc<|U J<|O _ J<|O _ J<|qb J<|qa<|q9 h fun p w h=>?_;refine Qv (fun j=>j = p) (fun j=>⟨[(0,.hs 0 1 0 j.length),(6,q7 b),(7,q7 0),(8,.d (q8 (w64 (g - b))))],[(0,.dat 1 (j.map (eI .i64)))],1⟩) qe ?_ ?_
 ·refine Qm (q5m g b) (fun k=>⟨[(0,.hs 0 1 0 k.2.length),(6,q7 b),(7,q7 0),(8,.d (q8 (w64 (g - b)))),(9,q7 k.1)],[(0,.dat 1 (k.2.map (eI .i64)))],1⟩) (w64 (Int.tdiv (w64 ((w64 (g - b)) - 1)) 2),l) p w (wkA [] [] []) ?_;intro k af c;unfold q5m at c;refine qf<|qc<|U J<|O _ J<|qa ?_;refine qr J c (fun _ c=>?_) (fun _ c=>?_)
  ·refine qq<|qf<|Q5<|Q0<|U J<|U J<|U J<|U J<|q9 c fun q x c=>q9 c fun ag y c=>?_;have z:=Kn y;refine Ka [(0,0)] [(0,0)] _ (.d (.tup [])) 1 [(0,.dat 1 (q.map (eI .i64)))] 1 (qla k.2 k.1 (w64 (g - b)) b q x)<|Q1<|Qr<|Q0<|U J<|O _ J<|qb J<|Q1<|⟨_,qs c,wkE [] [] [] J ⟨⟨_,J,K7 (by simp [z]) J qo (ltd J)⟩,qp J,qp J,qp J,qp J,trivial⟩ ⟨Qn J J,trivial⟩⟩
  refine Qb ?_;refine ⟨_,qs c,fun hm=>?_⟩;subst hm;exact ⟨_,J,wkA [] [] []⟩
 intro j hb;subst hb;refine qc<|U J<|O _ J<|qb J<|qa<|q9 h fun aa ab h=>Q5<|Qm (q5n b) (fun f=>⟨[(0,.hs 0 1 0 f.2.length),(6,q7 b),(7,q7 0),(10,q7 f.1)],[(0,.dat 1 (f.2.map (eI .i64)))],1⟩) (w64 ((w64 (g - b)) - 1),j) aa ab (wkA [] [] []) ?_;intro f ah a;unfold q5n at a;refine qf<|qc<|U J<|O _ J<|qa ?_;refine qr J a (fun _ a=>?_) (fun _ a=>?_)
 ·refine qq<|qf<|Q5<|qf<|Ql [Qs 0,q6,Qs 0,q6,qu 0,q6,q6,q6,qu 0,q6,q6,q6,q6,q6,q6,q6,q6,q6,q6,q6] qh<|U J<|U J<|U J<|U J<|U J<|O _ J<|U J<|U J<|U J<|O _ J<|q9 a fun m s a=>qy s J J<|Q7 _ s J<|U J<|U J<|q9 a fun n t a=>qy t J J<|Q7 _ t J<|q9 a fun ai u a=>qy u J J<|K3 (ds:=[q8 m]) m u J J J J J J J J (leb J) J<|q9 a fun aj v a=>qy v qe J<|K3 (ds:=[q8 n]) n v J J J J J J J J (leb J) J<|qa<|Q0<|U J<|U J<|U J<|U J<|q9 a fun o ac a=>q9 a fun ak ad a=>?_;have ae:=Kn ad;refine Jy [(0,0)] [(0,0)] [.hs 0 1 0 f.2.length,q7 0,q7 f.1,q7 b] (.d (.tup [])) [(0,.dat 1 (o.map (eI .i64)))] [(0,.dat 1 (o.map (eI .i64)))] 1 (qla ((f.2.set b.toNat m).set (w64 (b + f.1)).toNat n) 0 f.1 b o ac) J J J (Yh [(0,0)] [] [] J ⟨⟨_,J,K7 qe J qo (ltd J)⟩,qp J,qp J,qp J,trivial⟩ ⟨Qn J J,trivial⟩) (Yh [(0,0)] [] [] J ⟨qp J,trivial⟩ ⟨Qn J J,trivial⟩) J ⟨.inl J,trivial⟩<|Q1<|Qr<|Q0<|U J<|O _ J<|qb J<|Q1<|⟨_,qs a,wkE [] [] [] J ⟨⟨_,J,K7 (by simp [ae]) J qo (ltd J)⟩,qp J,qp J,qp J,trivial⟩ ⟨Qn J J,trivial⟩⟩
 refine Qb ?_;refine ⟨_,qs a,fun hm=>?_⟩;subst hm;obtain rfl:=qv h;exact ⟨.inl J,_,J,wkA [] [] []⟩
theorem qf8 (b : List Int) (c : Int) (f : Int) (g : Int) (r : Int × Int × Int) (a : q31  b c f g = some r) : K9 Tryz.prog tab 174 [.d (.sl 1 (b.map (eI .i64))),q7 c,q7 f,.ref 0 1 0 0] [(0,.dat 1 [[q8 g]])] 1 (.d (.tup [q8 r.1,q8 r.2.1])) [(0,.dat 1 [[q8 r.2.2]])] 1:=by
 unfold q31 at a;refine Kr Tryz.func174 J qh qh J<|qc<|qb J<|qb J<|qa<|qf<|qf<|Ql [q6,q6,q6,q6,q6,q6,q6,q6,q6] qh<|U J<|U J<|q9 a fun h j a=>K2 j J<|O _ J<|U J<|U J<|q9 a fun k l a=>K2 l J<|O _ J<|q9 a fun m n a=>Q4 (Zw h k m n) J<|qa ?_;refine qr J a (fun _ a=>?_) (fun _ a=>?_)
 ·refine qc<|U J<|O _ J<|O _ J<|O _ J<|O _ J<|Qc 0 _ J<|qt<|U J<|U J<|qb J<|qb J<|qx ?_;obtain rfl:=qv a;exact ⟨.inr J,_,J,wkA [] [] []⟩
 refine qq<|qc<|U J<|U J<|qb J<|qb J<|qx ?_;obtain rfl:=qv a;exact ⟨.inr J,_,J,wkA [] [] []⟩
theorem ql7 (f : List Int) (h : Int) (j : Int) (k : Int) (l : Int) (r : Int × Int) (a : q3s  f h j k l = some r) : K9 Tryz.prog tab 169 [.d (.sl 1 (f.map (eI .i64))),q7 h,q7 j,q7 k,.ref 0 1 0 0] [(0,.dat 1 [[q8 l]])] 1 (q7 r.1) [(0,.dat 1 [[q8 r.2]])] 1:=by
 unfold q3s at a;refine Kr Tryz.func169 J qh qh J<|qc<|qb J<|qt<|U J<|U J<|U J<|U J<|q9 a fun b m a=>Ka [(0,0)] [(0,0)] _ (.d (.tup [q8 b.1,q8 b.2.1])) 1 [(0,.dat 1 [[q8 b.2.2]])] 1 (qf8 f h j l b m)<|U J<|O _ J<|O _ J<|qb J<|qb J<|qt<|U J<|U J<|U J<|U J<|q9 a fun c n a=>Ka [(0,0)] [(0,0)] _ (.d (.tup [q8 c.1,q8 c.2.1])) 1 [(0,.dat 1 [[q8 c.2.2]])] 1 (qf8 f b.2.1 k b.2.2 c n)<|U J<|O _ J<|O _ J<|qb J<|qb J<|qt<|U J<|U J<|U J<|U J<|q9 a fun g o a=>Ka [(0,0)] [(0,0)] _ (.d (.tup [q8 g.1,q8 g.2.1])) 1 [(0,.dat 1 [[q8 g.2.2]])] 1 (qf8 f b.1 c.1 c.2.2 g o)<|U J<|O _ J<|O _ J<|qb J<|qb J<|qt ?_;refine U J<|qb J<|qx ?_;obtain rfl:=qv a;exact ⟨.inr J,_,J,wkA [] [] []⟩
theorem qf6 (c : List Int) (a : Int) (f : Int) (r : Int × Int) (b : q30  c a f = some r) : K9 Tryz.prog tab 168 [.d (.sl 1 (c.map (eI .i64))),q7 a,.ref 0 1 0 0] [(0,.dat 1 [[q8 f]])] 1 (q7 r.1) [(0,.dat 1 [[q8 r.2]])] 1:=by
 unfold q30 at b;refine Kr Tryz.func168 J qh qh J<|qc<|qb J<|qt<|U J<|U J<|O _ J<|U J<|U J<|O _ J<|U J<|q9 b fun g h b=>Ka [(0,0)] [(0,0)] _ (q7 g.1) 1 [(0,.dat 1 [[q8 g.2]])] 1 (ql7 c (w64 (a - 1)) a (w64 (a + 1)) f g h)<|qb J<|qx ?_;obtain rfl:=qv b;exact ⟨.inr J,_,J,wkA [] [] []⟩
theorem qvy (h : List Int) (g : Int) (j : Int) (r : Int × Int) (a : q5k h g j = some r) : Pure Tryz.prog tab 149 [.sl 1 (h.map (eI .i64)),q8 g,q8 j] (.tup [q8 r.1,q8 r.2]):=by
 unfold q5k at a;refine Qq Tryz.func149 J qh qh J<|qc<|qb J<|qb J<|qt<|U J<|U J<|O _ J<|qb J<|qt<|K0 J J<|qt<|U J<|U J<|O _ J<|O _ J<|O _ J<|qb J<|qt<|U J<|U J<|O _ J<|O _ J<|O _ J<|qb J<|qt<|U J<|U J<|O _ J<|O _ J<|O _ J<|qb J<|qa<|qf<|qc<|U J<|O _ J<|qa<|q9 a fun p f a=>?_;refine Z6 (fun k=>k = p) (fun k=>⟨[(9,.ref 0 1 0 0),(11,q7 k.1)],[(0,.dat 1 [[q8 k.2]])],1⟩) qe ?_ ?_
 ·refine qr J f (fun _ f=>?_) (fun _ f=>?_)
  ·refine qf<|qc<|U J<|O _ J<|qa<|q9 f fun q b f=>?_;refine Z6 (fun c=>c = q) (fun c=>⟨[(0,.d (.sl 1 (h.map (eI .i64)))),(9,.ref 0 1 0 0),(10,q7 c.1),(11,q7 c.2.1),(12,q7 c.2.2.1)],[(0,.dat 1 [[q8 c.2.2.2]])],1⟩) qe ?_ ?_
   ·refine qr J b (fun _ b=>?_) (fun _ b=>?_)
    ·refine qc<|U J<|U J<|q9 b fun l s b=>Ka [(0,0)] [(0,0)] _ (q7 l.1) 1 [(0,.dat 1 [[q8 l.2]])] 1 (qf6 h (w64 (g + (w64 ((w64 (Int.tdiv (w64 (j - g)) 4)) * 1)))) 0 l s)<|qb J<|qt<|U J<|U J<|q9 b fun m t b=>Ka [(0,0)] [(0,0)] _ (q7 m.1) 1 [(0,.dat 1 [[q8 m.2]])] 1 (qf6 h (w64 (g + (w64 ((w64 (Int.tdiv (w64 (j - g)) 4)) * 2)))) l.2 m t)<|qb J<|qa<|Q0<|U J<|U J<|q9 b fun n u b=>Ka [(0,0)] [(0,0)] _ (q7 n.1) 1 [(0,.dat 1 [[q8 n.2]])] 1 (qf6 h (w64 (g + (w64 ((w64 (Int.tdiv (w64 (j - g)) 4)) * 3)))) m.2 n u)<|qb J<|Q1 ?_;obtain rfl:=qv b;exact ⟨_,J,wkA [(0,0)] [] []⟩
    refine qq<|Qd ?_;obtain rfl:=qv b;exact ⟨_,J,wkA [(0,0)] [] []⟩
   intro c hb;subst hb;refine Q0<|U J<|U J<|U J<|U J<|q9 f fun o v f=>Ka [(0,0)] [(0,0)] _ (q7 o.1) 1 [(0,.dat 1 [[q8 o.2]])] 1 (ql7 h c.1 c.2.1 c.2.2.1 c.2.2.2 o v)<|qb J<|Q1 ?_;obtain rfl:=qv f;exact ⟨_,J,wkA [(0,0)] [] []⟩
  refine qq<|Qd ?_;obtain rfl:=qv f;exact ⟨_,J,wkA [(0,0)] [] []⟩
 intro k hb;subst hb;refine qc<|O _ J<|qa<|Q5<|qc<|O _ J<|qb J<|qa ?_;refine qr J a (fun _ a=>?_) (fun _ a=>?_)
 ·refine qc<|U J<|qb J<|qb J<|qx ?_;cases a;exact Q8 _ J
 refine qc<|O _ J<|qb J<|qa ?_;refine qr J a (fun _ a=>?_) (fun _ a=>?_)
 ·refine qc<|U J<|qb J<|qb J<|qx ?_;cases a;exact Q8 _ J
 refine qc<|U J<|qb J<|qb J<|qx ?_;cases a;exact Q8 _ J
theorem qwe (c : List Int) (g : Int) (h : Int) (r : List Int) (f : q6a  c g h = some r) : K9 Tryz.prog tab 150 [.hs 0 1 0 c.length,q7 g,q7 h] [(0,.dat 1 (c.map (eI .i64)))] 1 (.d (.tup [])) [(0,.dat 1 (r.map (eI .i64)))] 1:=by
 unfold q6a at f;refine Kr Tryz.func150 J qh qh J<|qc<|U J<|qb J<|qt<|U J<|O _ J<|qb J<|qa<|q9 f fun p q f=>Q5<|Qm (q95) (fun b=>⟨[(0,.hs 0 1 0 b.2.2.length),(6,q7 b.1),(7,q7 b.2.1)],[(0,.dat 1 (b.2.2.map (eI .i64)))],1⟩) (g,w64 (h - 1),c) p q (wkA [] [] []) ?_;intro b s a;unfold q95 at a;refine qf<|qc<|U J<|U J<|O _ J<|qa ?_;refine qr J a (fun _ a=>?_) (fun _ a=>?_)
 ·refine qq<|Q5<|qf<|Ql [Qs 0,q6,Qs 0,q6,qu 0,q6,q6,q6,qu 0,q6,q6,q6,q6,q6,q6,q6] qh<|U J<|U J<|U J<|U J<|U J<|U J<|q9 a fun j k a=>qy k J J<|Q7 _ k J<|U J<|U J<|q9 a fun l m a=>qy m J J<|Q7 _ m J<|q9 a fun t n a=>qy n J J<|K3 (ds:=[q8 j]) j n J J J J J J J J (leb J) J<|q9 a fun u o a=>qy o qe J<|K3 (ds:=[q8 l]) l o J J J J J J J J (leb J) J<|qt<|U J<|O _ J<|qb J<|qa<|Q0<|U J<|O _ J<|qb J<|Q1<|Qr<|Qd<|⟨_,qs a,wkE [] [] [] J ⟨⟨_,J,K7 qe J qo (ltd J)⟩,qp J,qp J,trivial⟩ ⟨Qn J J,trivial⟩⟩
 refine Qb ?_;refine ⟨_,qs a,fun hm=>?_⟩;subst hm;obtain rfl:=qv f;exact ⟨.inl J,_,J,wkA [] [] []⟩
theorem qw4 (q : List Int) (h : Int) (f : Int) (r : Bool × List Int) (n : q3u  q h f = some r) : K9 Tryz.prog tab 151 [.hs 0 1 0 q.length,q7 h,q7 f] [(0,.dat 1 (q.map (eI .i64)))] 1 (qw r.1) [(0,.dat 1 (r.2.map (eI .i64)))] 1:=by
 unfold q3u at n;refine Kr Tryz.func151 J qh qh J<|qc<|qb J<|qt<|U J<|O _ J<|qb J<|qa<|qf<|qc<|qb J<|qa<|q9 n fun z bk n=>?_;refine Qv (fun s=>.inl s = z) (fun s=>⟨[],[(0,.dat 1 (s.map (eI .i64)))],1⟩) qe ?_ ?_
 ·refine Qm (q3v f h) (fun d=>⟨[(0,.hs 0 1 0 d.2.2.length),(1,q7 h),(2,q7 f),(7,q7 d.1),(8,q7 d.2.1)],[(0,.dat 1 (d.2.2.map (eI .i64)))],1⟩) (w64 (h + 1),0,q) z bk (wkA [] [] []) ?_;intro d ch k;unfold q3v at k;refine qf<|qc<|U J<|O _ J<|qa ?_;refine qr J k (fun _ k=>?_) (fun _ k=>?_)
  ·refine qq<|qf<|q9 k fun bl a k=>?_;refine Qv (fun o=>.inl o = bl) (fun o=>⟨[(0,.hs 0 1 0 o.2.length),(1,q7 h),(2,q7 f),(7,q7 o.1),(8,q7 d.2.1)],[(0,.dat 1 (o.2.map (eI .i64)))],1⟩) qe ?_ ?_
   ·refine qf<|q9 a fun aa bm a=>?_;refine Qv (fun g=>g = aa) (fun g=>⟨[(0,.hs 0 1 0 d.2.2.length),(1,q7 h),(2,q7 f),(7,q7 g),(8,q7 d.2.1)],[(0,.dat 1 (d.2.2.map (eI .i64)))],1⟩) qe ?_ ?_
    ·refine Qm (q5u f d) (fun ab=>⟨[(0,.hs 0 1 0 d.2.2.length),(1,q7 h),(2,q7 f),(7,q7 ab),(8,q7 d.2.1)],[(0,.dat 1 (d.2.2.map (eI .i64)))],1⟩) d.1 aa bm (wkA [] [] []) ?_;intro ab ci l;unfold q5u at l;refine qf<|qf<|Ql [q6,q6,q6,qu 0,q6,q6,q6,q6,qu 0,q6,q6,q6,q6,q6,q6,q6] qh<|U J<|U J<|O _ J<|q9 l fun bn j l=>?_;refine Qi 13 (fun A st=>∃ ac ad ae af ag ah ai aj ak al am an,st = A [(32,qw bn),(31,an),(30,am),(29,al),(28,ak),(27,aj),(26,ai),(25,ah),(24,ag),(23,af),(22,ae),(21,ad),(20,ac)]) ?_ ?_
     ·refine Qg J J j (fun j=>?_) (fun j=>?_)
      ·refine U J<|U J<|q9 j fun bo ao j=>qy ao J J<|Q7 _ ao J<|U J<|U J<|O _ J<|q9 j fun bp ap j=>qy ap J J<|Q7 _ ap J<|q9 j fun bq br j=>Q4 (Zw bo bp bq br) J<|O _ J<|O _ J<|qa ?_;cases j;exact ⟨_,_,_,_,_,_,_,_,_,_,_,_,J⟩
      refine qd J<|qd J<|qd J<|qd J<|qd J<|qd J<|qd J<|qd J<|qd J<|qd J<|qd J<|O _ J<|qa ?_;cases j;exact ⟨_,_,_,_,_,_,_,_,_,_,_,_,J⟩
     rintro _ ⟨ac,ad,ae,af,ag,ah,ai,aj,ak,al,am,an,rfl⟩;refine qa ?_;refine qr J l (fun _ l=>?_) (fun _ l=>?_)
     ·refine qq<|Q5<|Q0<|U J<|O _ J<|qb J<|Q1<|Qr<|Qd<|⟨_,qs l,wkA [] [] []⟩
     refine Qb ?_;refine ⟨_,qs l,fun hm=>?_⟩;subst hm;exact ⟨_,J,wkA [] [] []⟩
    intro g hb;subst hb;refine qf<|qc<|U J<|U J<|O _ J<|qa ?_;refine qr J a (fun _ a=>?_) (fun _ a=>?_)
    ·refine qc<|qb J<|qx ?_;obtain rfl:=qv a;refine ⟨_,qs k,fun hm=>?_⟩;subst hm;obtain rfl:=qv n;exact ⟨.inr J,_,J,wkA [] [] []⟩
    refine qq<|qf<|qc<|U J<|U J<|O _ J<|O _ J<|qa ?_;refine qr J a (fun _ a=>?_) (fun _ a=>?_)
    ·refine qc<|qb J<|qx ?_;obtain rfl:=qv a;refine ⟨_,qs k,fun hm=>?_⟩;subst hm;obtain rfl:=qv n;exact ⟨.inr J,_,J,wkA [] [] []⟩
    refine qq<|qf<|Ql [Qs 0,q6,Qs 0,q6,qu 0,q6,q6,q6,qu 0,q6,q6,q6,q6,q6,q6,q6,q6,q6] qh<|U J<|U J<|U J<|U J<|O _ J<|U J<|U J<|O _ J<|q9 a fun v aq a=>qy aq J J<|Q7 _ aq J<|U J<|U J<|q9 a fun w ar a=>qy ar J J<|Q7 _ ar J<|q9 a fun cj au a=>qy au J J<|K3 (ds:=[q8 v]) v au J J J J J J J J (leb J) J<|q9 a fun ck av a=>qy av qe J<|K3 (ds:=[q8 w]) w av J J J J J J J J (leb J) J<|qa<|qf<|qc<|U J<|U J<|O _ J<|O _ J<|qa<|q9 a fun bs m a=>?_;refine Z6 (fun p=>p = bs) (fun p=>⟨[(0,.hs 0 1 0 p.length),(1,q7 h),(2,q7 f),(7,q7 g),(8,q7 d.2.1)],[(0,.dat 1 (p.map (eI .i64)))],1⟩) qe ?_ ?_
    ·refine qr J m (fun _ m=>?_) (fun _ m=>?_)
     ·refine qc<|U J<|O _ J<|qb J<|qa<|q9 m fun bt bu m=>Q5<|Qm (q8s) (fun t=>⟨[(0,.hs 0 1 0 t.2.length),(1,q7 h),(2,q7 f),(7,q7 g),(8,q7 d.2.1),(9,q7 t.1)],[(0,.dat 1 (t.2.map (eI .i64)))],1⟩) (w64 (g - 1),(d.2.2.set g.toNat v).set (w64 (g - 1)).toNat w) bt bu (wkE [] [] [] J ⟨⟨_,J,K7 qe J qo (ltd J)⟩,qp J,qp J,qp J,qp J,qp J,trivial⟩ ⟨Qn J J,trivial⟩) ?_;intro t cm b;unfold q8s at b;refine qf<|qc<|U J<|O _ J<|qa ?_;refine qr J b (fun _ b=>?_) (fun _ b=>?_)
      ·refine qq<|qf<|Q5<|qf<|qf<|Ql [q6,q6,qu 0,q6,q6,q6,q6,qu 0,q6,q6,q6] qh<|U J<|U J<|q9 b fun bv aw b=>qy aw J J<|Q7 _ aw J<|U J<|U J<|O _ J<|q9 b fun bw ax b=>qy ax J J<|Q7 _ ax J<|q9 b fun bz ca b=>Q4 (Zw bv bw bz ca) J<|O _ J<|qa ?_;refine qr J b (fun _ b=>?_) (fun _ b=>?_)
       ·refine Qb ?_;refine ⟨_,qs b,fun hm=>?_⟩;subst hm;obtain rfl:=qv m;exact ⟨_,J,wkA [] [] []⟩
       refine qq<|Ql [Qs 0,q6,Qs 0,q6,qu 0,q6,q6,q6,qu 0,q6,q6,q6,q6,q6,q6,q6,q6,q6] qh<|U J<|U J<|U J<|U J<|O _ J<|U J<|U J<|O _ J<|q9 b fun ay az b=>qy az J J<|Q7 _ az J<|U J<|U J<|q9 b fun x ba b=>qy ba J J<|Q7 (q7 x) ba J<|q9 b fun cn bb b=>qy bb J J<|K3 (ds:=[q8 ay]) ay bb J J J J J J J J (leb J) J<|q9 b fun co bc b=>qy bc qe J<|K3 (ds:=[q8 x]) x bc J J J J J J J J (leb J) J<|Q1<|Qr<|Q0<|U J<|O _ J<|qb J<|Q1<|⟨_,qs b,wkE [] [] [] J ⟨⟨_,J,K7 qe J qo (ltd J)⟩,qp J,qp J,qp J,qp J,qp J,trivial⟩ ⟨Qn J J,trivial⟩⟩
      refine Qb ?_;refine ⟨_,qs b,fun hm=>?_⟩;subst hm;obtain rfl:=qv m;exact ⟨_,J,wkA [] [] []⟩
     refine qq<|Qd ?_;obtain rfl:=qv m;exact ⟨_,J,wkE [] [] [] J ⟨⟨_,J,K7 qe J qo (ltd J)⟩,qp J,qp J,qp J,qp J,trivial⟩ ⟨Qn J J,trivial⟩⟩
    intro p hb;subst hb;refine qc<|U J<|U J<|O _ J<|O _ J<|qa ?_;refine qr J a (fun _ a=>?_) (fun _ a=>?_)
    ·refine qc<|U J<|O _ J<|qb J<|qa<|q9 a fun cb cc a=>Q5<|Qm (q5v f g) (fun u=>⟨[(0,.hs 0 1 0 u.2.length),(1,q7 h),(2,q7 f),(7,q7 g),(8,q7 d.2.1),(10,q7 u.1)],[(0,.dat 1 (u.2.map (eI .i64)))],1⟩) (w64 (g + 1),p) cb cc (wkA [] [] []) ?_;intro u cp c;unfold q5v at c;refine qf<|qc<|U J<|U J<|O _ J<|qa ?_;refine qr J c (fun _ c=>?_) (fun _ c=>?_)
     ·refine qq<|qf<|Q5<|qf<|qf<|Ql [q6,q6,qu 0,q6,q6,q6,q6,qu 0,q6,q6,q6] qh<|U J<|U J<|q9 c fun cd bd c=>qy bd J J<|Q7 _ bd J<|U J<|U J<|O _ J<|q9 c fun ce be c=>qy be J J<|Q7 _ be J<|q9 c fun cf cg c=>Q4 (Zw cd ce cf cg) J<|O _ J<|qa ?_;refine qr J c (fun _ c=>?_) (fun _ c=>?_)
      ·refine Qb ?_;refine ⟨_,qs c,fun hm=>?_⟩;subst hm;obtain rfl:=qv a;exact ⟨_,J,wkA [] [] []⟩
      refine qq<|Ql [Qs 0,q6,Qs 0,q6,qu 0,q6,q6,q6,qu 0,q6,q6,q6,q6,q6,q6,q6,q6,q6] qh<|U J<|U J<|U J<|U J<|O _ J<|U J<|U J<|O _ J<|q9 c fun bf bg c=>qy bg J J<|Q7 _ bg J<|U J<|U J<|q9 c fun y bh c=>qy bh J J<|Q7 (q7 y) bh J<|q9 c fun cq bi c=>qy bi J J<|K3 (ds:=[q8 bf]) bf bi J J J J J J J J (leb J) J<|q9 c fun cr bj c=>qy bj qe J<|K3 (ds:=[q8 y]) y bj J J J J J J J J (leb J) J<|Q1<|Qr<|Q0<|U J<|O _ J<|qb J<|Q1<|⟨_,qs c,wkE [] [] [] J ⟨⟨_,J,K7 qe J qo (ltd J)⟩,qp J,qp J,qp J,qp J,qp J,trivial⟩ ⟨Qn J J,trivial⟩⟩
     refine Qb ?_;refine ⟨_,qs c,fun hm=>?_⟩;subst hm;obtain rfl:=qv a;exact ⟨_,J,wkA [] [] []⟩
    refine qq<|Qd ?_;obtain rfl:=qv a;exact ⟨_,J,wkA [] [] []⟩
   intro o hb;subst hb;refine Q0<|U J<|O _ J<|qb J<|Q1<|⟨_,qs k,wkA [] [] []⟩
  refine Qb ?_;refine ⟨_,qs k,fun hm=>?_⟩;subst hm;exact ⟨_,J,wkA [] [] []⟩
 intro s hb;subst hb;refine qc<|qb J<|qx ?_;obtain rfl:=qv n;exact ⟨.inr J,_,J,wkA [] [] []⟩
theorem qw7 (m : List Int) (c : Int) (o : Int) (p : Int) (r : Int × List Int) (d : q5w  m c o p = some r) : K9 Tryz.prog tab 153 [.hs 0 1 0 m.length,q7 c,q7 o,q7 p] [(0,.dat 1 (m.map (eI .i64)))] 1 (q7 r.1) [(0,.dat 1 (r.2.map (eI .i64)))] 1:=by
 unfold q5w at d;refine Kr Tryz.func153 J qh qh J<|qc<|qb J<|qa<|qf<|Ql [Qs 0,q6,Qs 0,q6,qu 0,q6,q6,q6,qu 0,q6,q6,q6,q6,q6,q6,q6] qh<|U J<|U J<|U J<|U J<|U J<|U J<|q9 d fun q u d=>qy u J J<|Q7 _ u J<|U J<|U J<|q9 d fun s v d=>qy v J J<|Q7 _ v J<|q9 d fun bw w d=>qy w J J<|K3 (ds:=[q8 q]) q w J J J J J J J J (leb J) J<|q9 d fun bz x d=>qy x qe J<|K3 (ds:=[q8 s]) s x J J J J J J J J (leb J) J<|qt<|U J<|O _ J<|U J<|O _ J<|qb J<|qb J<|qa<|qf<|q9 d fun y bj d=>?_;refine Qv (fun l=>l = y) (fun l=>⟨[(9,q7 l.1)],[(0,.dat 1 (l.2.map (eI .i64)))],1⟩) qe ?_ ?_
 ·refine Qm (q5x c) (fun a=>⟨[(0,.hs 0 1 0 a.2.2.length),(1,q7 c),(9,q7 a.1),(10,q7 a.2.1)],[(0,.dat 1 (a.2.2.map (eI .i64)))],1⟩) (w64 (c + 1),w64 (o - 1),(m.set c.toNat q).set p.toNat s) y bj (wkE [] [] [] J ⟨⟨_,J,K7 qe J qo (ltd J)⟩,qp J,qp J,qp J,trivial⟩ ⟨Qn J J,trivial⟩) ?_;intro a ca b;unfold q5x at b;refine Q5<|qf<|q9 b fun z bk b=>?_;refine Qv (fun k=>k = z) (fun k=>⟨[(0,.hs 0 1 0 a.2.2.length),(1,q7 c),(9,q7 k),(10,q7 a.2.1)],[(0,.dat 1 (a.2.2.map (eI .i64)))],1⟩) qe ?_ ?_
  ·refine Qm (q5y a c) (fun aa=>⟨[(0,.hs 0 1 0 a.2.2.length),(1,q7 c),(9,q7 aa),(10,q7 a.2.1)],[(0,.dat 1 (a.2.2.map (eI .i64)))],1⟩) a.1 z bk (wkA [] [] []) ?_;intro aa cb h;unfold q5y at h;refine qf<|qf<|Ql [q6,q6,q6,qu 0,q6,q6,q6,qu 0,q6,q6,q6,q6,q6,q6,q6] qh<|U J<|U J<|O _ J<|q9 h fun bl f h=>?_;refine Qi 12 (fun A st=>∃ ab ac ad ae af ag ah ai aj ak al,st = A [(43,qw bl),(42,al),(41,ak),(40,aj),(39,ai),(38,ah),(37,ag),(36,af),(35,ae),(34,ad),(33,ac),(32,ab)]) ?_ ?_
   ·refine Qg J J f (fun f=>?_) (fun f=>?_)
    ·refine U J<|U J<|q9 f fun bm am f=>qy am J J<|Q7 _ am J<|U J<|U J<|q9 f fun bn an f=>qy an J J<|Q7 _ an J<|q9 f fun bo bp f=>Q4 (Zw bm bn bo bp) J<|O _ J<|O _ J<|qa ?_;cases f;exact ⟨_,_,_,_,_,_,_,_,_,_,_,J⟩
    refine qd J<|qd J<|qd J<|qd J<|qd J<|qd J<|qd J<|qd J<|qd J<|qd J<|O _ J<|qa ?_;cases f;exact ⟨_,_,_,_,_,_,_,_,_,_,_,J⟩
   rintro _ ⟨ab,ac,ad,ae,af,ag,ah,ai,aj,ak,al,rfl⟩;refine qa ?_;refine qr J h (fun _ h=>?_) (fun _ h=>?_)
   ·refine qq<|Q5<|Q0<|U J<|O _ J<|qb J<|Q1<|Qr<|Qd<|⟨_,qs h,wkA [] [] []⟩
   refine Qb ?_;refine ⟨_,qs h,fun hm=>?_⟩;subst hm;exact ⟨_,J,wkA [] [] []⟩
  intro k hb;subst hb;refine qf<|q9 b fun ao bq b=>?_;refine Qv (fun n=>n = ao) (fun n=>⟨[(0,.hs 0 1 0 a.2.2.length),(1,q7 c),(9,q7 k),(10,q7 n)],[(0,.dat 1 (a.2.2.map (eI .i64)))],1⟩) qe ?_ ?_
  ·refine Qm (q5z k a c) (fun ap=>⟨[(0,.hs 0 1 0 a.2.2.length),(1,q7 c),(9,q7 k),(10,q7 ap)],[(0,.dat 1 (a.2.2.map (eI .i64)))],1⟩) a.2.1 ao bq (wkA [] [] []) ?_;intro ap cc j;unfold q5z at j;refine qf<|qf<|Ql [q6,q6,qu 0,q6,q6,q6,qu 0,q6,q6,q6,q6,q6,q6,q6] qh<|U J<|U J<|O _ J<|q9 j fun br g j=>?_;refine Qi 11 (fun A st=>∃ aq ar au av aw ax ay az ba bb,st = A [(59,qw br),(58,bb),(57,ba),(56,az),(55,ay),(54,ax),(53,aw),(52,av),(51,au),(50,ar),(49,aq)]) ?_ ?_
   ·refine Qg J J g (fun g=>?_) (fun g=>?_)
    ·refine U J<|U J<|q9 g fun bs bc g=>qy bc J J<|Q7 _ bc J<|U J<|U J<|q9 g fun bt bd g=>qy bd J J<|Q7 _ bd J<|q9 g fun bu bv g=>Q4 (Zw bs bt bu bv) J<|O _ J<|qa ?_;cases g;exact ⟨_,_,_,_,_,_,_,_,_,_,J⟩
    refine qd J<|qd J<|qd J<|qd J<|qd J<|qd J<|qd J<|qd J<|qd J<|O _ J<|qa ?_;cases g;exact ⟨_,_,_,_,_,_,_,_,_,_,J⟩
   rintro _ ⟨aq,ar,au,av,aw,ax,ay,az,ba,bb,rfl⟩;refine qa ?_;refine qr J j (fun _ j=>?_) (fun _ j=>?_)
   ·refine qq<|Q5<|Q0<|U J<|O _ J<|qb J<|Q1<|Qr<|Qd<|⟨_,qs j,wkA [] [] []⟩
   refine Qb ?_;refine ⟨_,qs j,fun hm=>?_⟩;subst hm;exact ⟨_,J,wkA [] [] []⟩
  intro n hb;subst hb;refine qf<|qc<|U J<|U J<|O _ J<|qa ?_;refine qr J b (fun _ b=>?_) (fun _ b=>?_)
  ·refine Qb ?_;refine ⟨_,qs b,fun hm=>?_⟩;subst hm;exact ⟨_,J,wkA [] [] []⟩
  refine qq<|qf<|Ql [Qs 0,q6,Qs 0,q6,qu 0,q6,q6,q6,qu 0,q6,q6,q6,q6,q6,q6,q6] qh<|U J<|U J<|U J<|U J<|U J<|U J<|q9 b fun be bf b=>qy bf J J<|Q7 _ bf J<|U J<|U J<|q9 b fun t bg b=>qy bg J J<|Q7 (q7 t) bg J<|q9 b fun cd bh b=>qy bh J J<|K3 (ds:=[q8 be]) be bh J J J J J J J J (leb J) J<|q9 b fun ce bi b=>qy bi qe J<|K3 (ds:=[q8 t]) t bi J J J J J J J J (leb J) J<|qt<|U J<|O _ J<|qb J<|qa<|Q0<|U J<|O _ J<|qb J<|Q1<|Qr<|Qd<|⟨_,qs b,wkE [] [] [] J ⟨⟨_,J,K7 qe J qo (ltd J)⟩,qp J,qp J,qp J,trivial⟩ ⟨Qn J J,trivial⟩⟩
 intro l hb;subst hb;refine qc<|U J<|qb J<|qx ?_;obtain rfl:=qv d;exact ⟨.inr J,_,J,wkA [] [] []⟩
theorem qw8 (g : List Int) (b : Int) (s : Int) (k : Int) (r : Int × Bool × List Int) (a : q60  g b s k = some r) : K9 Tryz.prog tab 154 [.hs 0 1 0 g.length,q7 b,q7 s,q7 k] [(0,.dat 1 (g.map (eI .i64)))] 1 (.d (.tup [q8 r.1,.bool r.2.1])) [(0,.dat 1 (r.2.2.map (eI .i64)))] 1:=by
 unfold q60 at a;refine Kr Tryz.func154 J qh qh J<|qc<|qb J<|qb J<|qa<|qf<|Ql [Qs 0,q6,Qs 0,q6,qu 0,q6,q6,q6,qu 0,q6,q6,q6,q6,q6,q6,q6] qh<|U J<|U J<|U J<|U J<|U J<|U J<|q9 a fun h ao a=>qy ao J J<|Q7 (q7 h) ao J<|U J<|U J<|q9 a fun j ap a=>qy ap J J<|Q7 (q7 j) ap J<|q9 a fun fs aq a=>qy aq J J<|K3 (ds:=[q8 h]) h aq J J J J J J J J (leb J) J<|q9 a fun ft ar a=>qy ar qe J<|K3 (ds:=[q8 j]) j ar J J J J J J J J (leb J) J<|qt<|U J<|O (.d (q8 (w64 (b + 1)))) J<|U J<|O (.d (q8 (w64 (s - 1)))) J<|qb J<|qb J<|qa<|qf<|q9 a fun au fe a=>?_;refine Qv (fun l=>l = au) (fun (l : Int)=>⟨[(0,.hs 0 1 0 ((g.set b.toNat h).set k.toNat j).length),(1,q7 b),(10,q7 l),(11,.d (q8 (w64 (s - 1))))],[(0,.dat 1 (((g.set b.toNat h).set k.toNat j).map (eI .i64)))],1⟩) qe ?_ ?_
 ·refine Qm (q61 s g b h k j) (fun (aa : Int)=>⟨[(0,.hs 0 1 0 ((g.set b.toNat h).set k.toNat j).length),(1,q7 b),(10,q7 aa),(11,.d (q8 (w64 (s - 1))))],[(0,.dat 1 (((g.set b.toNat h).set k.toNat j).map (eI .i64)))],1⟩) (w64 (b + 1)) au fe (wkE [] [] [] J ⟨⟨_,J,K7 qe J qo (ltd J)⟩,qp J,qp J,qp J,trivial⟩ ⟨Qn J J,trivial⟩) ?_;intro aa fu t;unfold q61 at t;refine qf<|qf<|Ql [q6,q6,qu 0,q6,q6,q6,qu 0,q6,q6,q6,q6,q6,q6,q6] qh<|U J<|U J<|O (.d (.bool (decide (aa≤(w64 (s - 1)))))) J<|q9 t fun ff m t=>?_;refine Qi 11 (fun A st=>∃ (av aw ax ay az ba bb bc bd be : V),st = A [(43,qw ff),(42,be),(41,bd),(40,bc),(39,bb),(38,ba),(37,az),(36,ay),(35,ax),(34,aw),(33,av)]) ?_ ?_
  ·refine Qg J J m (fun m=>?_) (fun m=>?_)
   ·refine U J<|U J<|q9 m fun bf bg m=>qy bg J J<|Q7 (q7 bf) bg J<|U J<|U J<|q9 m fun bh bi m=>qy bi J J<|Q7 (q7 bh) bi J<|q9 m fun bj fg m=>Q4 (Zw bf bh bj fg) J<|O (qw bj) J<|qa ?_;cases m;exact ⟨_,_,_,_,_,_,_,_,_,_,J⟩
   refine qd J<|qd J<|qd J<|qd J<|qd J<|qd J<|qd J<|qd J<|qd J<|O (qw false) J<|qa ?_;cases m;exact ⟨_,_,_,_,_,_,_,_,_,_,J⟩
  rintro _ ⟨av,aw,ax,ay,az,ba,bb,bc,bd,be,rfl⟩;refine qa ?_;refine qr J t (fun _ t=>?_) (fun _ t=>?_)
  ·refine qq<|Q5<|Q0<|U J<|O (.d (q8 (w64 (aa + 1)))) J<|qb J<|Q1<|Qr<|Qd<|⟨_,qs t,wkA [] [] []⟩
  refine Qb ?_;refine ⟨_,qs t,fun hm=>?_⟩;subst hm;exact ⟨_,J,wkA [] [] []⟩
 intro l hb;subst hb;refine qf<|q9 a fun bk fh a=>?_;refine Qv (fun u=>u = bk) (fun (u : Int)=>⟨[(0,.hs 0 1 0 ((g.set b.toNat h).set k.toNat j).length),(1,q7 b),(10,q7 l),(11,q7 u)],[(0,.dat 1 (((g.set b.toNat h).set k.toNat j).map (eI .i64)))],1⟩) qe ?_ ?_
 ·refine Qm (q62 l g b h k j) (fun (ab : Int)=>⟨[(0,.hs 0 1 0 ((g.set b.toNat h).set k.toNat j).length),(1,q7 b),(10,q7 l),(11,q7 ab)],[(0,.dat 1 (((g.set b.toNat h).set k.toNat j).map (eI .i64)))],1⟩) (w64 (s - 1)) bk fh (wkA [] [] []) ?_;intro ab fv v;unfold q62 at v;refine qf<|qf<|Ql [q6,q6,q6,qu 0,q6,q6,q6,qu 0,q6,q6,q6,q6,q6,q6,q6] qh<|U J<|U J<|O (.d (.bool (decide (l≤ab)))) J<|q9 v fun fi n v=>?_;refine Qi 12 (fun A st=>∃ (bl bm bn bo bp bq br bs bt bu bv : V),st = A [(60,qw fi),(59,bv),(58,bu),(57,bt),(56,bs),(55,br),(54,bq),(53,bp),(52,bo),(51,bn),(50,bm),(49,bl)]) ?_ ?_
  ·refine Qg J J n (fun n=>?_) (fun n=>?_)
   ·refine U J<|U J<|q9 n fun bw bz n=>qy bz J J<|Q7 (q7 bw) bz J<|U J<|U J<|q9 n fun ca cb n=>qy cb J J<|Q7 (q7 ca) cb J<|q9 n fun ag fj n=>Q4 (Zw bw ca ag fj) J<|O (qw (!ag)) J<|O (qw (!ag)) J<|qa ?_;cases n;exact ⟨_,_,_,_,_,_,_,_,_,_,_,J⟩
   refine qd J<|qd J<|qd J<|qd J<|qd J<|qd J<|qd J<|qd J<|qd J<|qd J<|O (qw false) J<|qa ?_;cases n;exact ⟨_,_,_,_,_,_,_,_,_,_,_,J⟩
  rintro _ ⟨bl,bm,bn,bo,bp,bq,br,bs,bt,bu,bv,rfl⟩;refine qa ?_;refine qr J v (fun _ v=>?_) (fun _ v=>?_)
  ·refine qq<|Q5<|Q0<|U J<|O (.d (q8 (w64 (ab - 1)))) J<|qb J<|Q1<|Qr<|Qd<|⟨_,qs v,wkA [] [] []⟩
  refine Qb ?_;refine ⟨_,qs v,fun hm=>?_⟩;subst hm;exact ⟨_,J,wkA [] [] []⟩
 intro u hb;subst hb;refine qf<|qc<|U J<|U J<|O (.d (.bool (decide (l > u)))) J<|qa ?_;refine qr J a (fun _ a=>?_) (fun _ a=>?_)
 ·refine qf<|Ql [Qs 0,q6,Qs 0,q6,qu 0,q6,q6,q6,qu 0,q6,q6,q6,q6,q6,q6,q6] qh<|U J<|U J<|U J<|U J<|U J<|U J<|q9 a fun ah cc a=>qy cc J J<|Q7 (q7 ah) cc J<|U J<|U J<|q9 a fun ai cd a=>qy cd J J<|Q7 (q7 ai) cd J<|q9 a fun fw ce a=>qy ce J J<|K3 (ds:=[q8 ah]) ah ce J J J J J J J J (leb J) J<|q9 a fun fx cf a=>qy cf qe J<|K3 (ds:=[q8 ai]) ai cf J J J J J J J J (leb J) J<|qt<|U J<|qb J<|qb J<|qx ?_;obtain rfl:=qv a;exact ⟨.inr J,_,J,wkA [] [] []⟩
 refine qq<|qf<|Ql [Qs 0,q6,Qs 0,q6,qu 0,q6,q6,q6,qu 0,q6,q6,q6,q6,q6,q6,q6] qh<|U J<|U J<|U J<|U J<|U J<|U J<|q9 a fun ac cg a=>qy cg J J<|Q7 (q7 ac) cg J<|U J<|U J<|q9 a fun ad ch a=>qy ch J J<|Q7 (q7 ad) ch J<|q9 a fun fy ci a=>qy ci J J<|K3 (ds:=[q8 ac]) ac ci J J J J J J J J (leb J) J<|q9 a fun fz cj a=>qy cj qe J<|K3 (ds:=[q8 ad]) ad cj J J J J J J J J (leb J) J<|qt<|U J<|O (.d (q8 (w64 (l + 1)))) J<|qb J<|qt<|U J<|O (.d (q8 (w64 (u - 1)))) J<|qb J<|qa<|qf<|q9 a fun ck fk a=>?_;refine Qv (fun y=>y = ck) (fun (y : Int × List Int)=>⟨[(0,.hs 0 1 0 y.2.length),(1,q7 b),(11,q7 y.1)],[(0,.dat 1 (y.2.map (eI .i64)))],1⟩) qe ?_ ?_
 ·refine Qm (q63 b) (fun (c : Int × Int × List Int)=>⟨[(0,.hs 0 1 0 c.2.2.length),(1,q7 b),(10,q7 c.1),(11,q7 c.2.1)],[(0,.dat 1 (c.2.2.map (eI .i64)))],1⟩) (w64 (l + 1),w64 (u - 1),(((g.set b.toNat h).set k.toNat j).set l.toNat ac).set u.toNat ad) ck fk (wkE [] [] [] J ⟨⟨_,J,K7 qe J qo (ltd J)⟩,qp J,qp J,qp J,trivial⟩ ⟨Qn J J,trivial⟩) ?_;intro c ga f;unfold q63 at f;refine Q5<|qf<|q9 f fun cm fl f=>?_;refine Qv (fun q=>q = cm) (fun (q : Int)=>⟨[(0,.hs 0 1 0 c.2.2.length),(1,q7 b),(10,q7 q),(11,q7 c.2.1)],[(0,.dat 1 (c.2.2.map (eI .i64)))],1⟩) qe ?_ ?_
  ·refine Qm (q64 c b) (fun (ae : Int)=>⟨[(0,.hs 0 1 0 c.2.2.length),(1,q7 b),(10,q7 ae),(11,q7 c.2.1)],[(0,.dat 1 (c.2.2.map (eI .i64)))],1⟩) c.1 cm fl (wkA [] [] []) ?_;intro ae gb w;unfold q64 at w;refine qf<|qf<|Ql [q6,q6,qu 0,q6,q6,q6,qu 0,q6,q6,q6,q6,q6,q6,q6] qh<|U J<|U J<|O (.d (.bool (decide (ae≤c.2.1)))) J<|q9 w fun fm o w=>?_;refine Qi 11 (fun A st=>∃ (cn co cp cq cr cs ct cu cv cw : V),st = A [(112,qw fm),(111,cw),(110,cv),(109,cu),(108,ct),(107,cs),(106,cr),(105,cq),(104,cp),(103,co),(102,cn)]) ?_ ?_
   ·refine Qg J J o (fun o=>?_) (fun o=>?_)
    ·refine U J<|U J<|q9 o fun cx cy o=>qy cy J J<|Q7 (q7 cx) cy J<|U J<|U J<|q9 o fun cz da o=>qy da J J<|Q7 (q7 cz) da J<|q9 o fun dc fn o=>Q4 (Zw cx cz dc fn) J<|O (qw dc) J<|qa ?_;cases o;exact ⟨_,_,_,_,_,_,_,_,_,_,J⟩
    refine qd J<|qd J<|qd J<|qd J<|qd J<|qd J<|qd J<|qd J<|qd J<|O (qw false) J<|qa ?_;cases o;exact ⟨_,_,_,_,_,_,_,_,_,_,J⟩
   rintro _ ⟨cn,co,cp,cq,cr,cs,ct,cu,cv,cw,rfl⟩;refine qa ?_;refine qr J w (fun _ w=>?_) (fun _ w=>?_)
   ·refine qq<|Q5<|Q0<|U J<|O (.d (q8 (w64 (ae + 1)))) J<|qb J<|Q1<|Qr<|Qd<|⟨_,qs w,wkA [] [] []⟩
   refine Qb ?_;refine ⟨_,qs w,fun hm=>?_⟩;subst hm;exact ⟨_,J,wkA [] [] []⟩
  intro q hb;subst hb;refine qf<|q9 f fun dd fo f=>?_;refine Qv (fun z=>z = dd) (fun (z : Int)=>⟨[(0,.hs 0 1 0 c.2.2.length),(1,q7 b),(10,q7 q),(11,q7 z)],[(0,.dat 1 (c.2.2.map (eI .i64)))],1⟩) qe ?_ ?_
  ·refine Qm (q65 q c b) (fun (af : Int)=>⟨[(0,.hs 0 1 0 c.2.2.length),(1,q7 b),(10,q7 q),(11,q7 af)],[(0,.dat 1 (c.2.2.map (eI .i64)))],1⟩) c.2.1 dd fo (wkA [] [] []) ?_;intro af gc x;unfold q65 at x;refine qf<|qf<|Ql [q6,q6,q6,qu 0,q6,q6,q6,qu 0,q6,q6,q6,q6,q6,q6,q6] qh<|U J<|U J<|O (.d (.bool (decide (q≤af)))) J<|q9 x fun fq p x=>?_;refine Qi 12 (fun A st=>∃ (de df dg dh dj dk dl dm dn dp dq : V),st = A [(129,qw fq),(128,dq),(127,dp),(126,dn),(125,dm),(124,dl),(123,dk),(122,dj),(121,dh),(120,dg),(119,df),(118,de)]) ?_ ?_
   ·refine Qg J J p (fun p=>?_) (fun p=>?_)
    ·refine U J<|U J<|q9 p fun dr dt p=>qy dt J J<|Q7 (q7 dr) dt J<|U J<|U J<|q9 p fun du dv p=>qy dv J J<|Q7 (q7 du) dv J<|q9 p fun aj fr p=>Q4 (Zw dr du aj fr) J<|O (qw (!aj)) J<|O (qw (!aj)) J<|qa ?_;cases p;exact ⟨_,_,_,_,_,_,_,_,_,_,_,J⟩
    refine qd J<|qd J<|qd J<|qd J<|qd J<|qd J<|qd J<|qd J<|qd J<|qd J<|O (qw false) J<|qa ?_;cases p;exact ⟨_,_,_,_,_,_,_,_,_,_,_,J⟩
   rintro _ ⟨de,df,dg,dh,dj,dk,dl,dm,dn,dp,dq,rfl⟩;refine qa ?_;refine qr J x (fun _ x=>?_) (fun _ x=>?_)
   ·refine qq<|Q5<|Q0<|U J<|O (.d (q8 (w64 (af - 1)))) J<|qb J<|Q1<|Qr<|Qd<|⟨_,qs x,wkA [] [] []⟩
   refine Qb ?_;refine ⟨_,qs x,fun hm=>?_⟩;subst hm;exact ⟨_,J,wkA [] [] []⟩
  intro z hb;subst hb;refine qf<|qc<|U J<|U J<|O (.d (.bool (decide (q > z)))) J<|qa ?_;refine qr J f (fun _ f=>?_) (fun _ f=>?_)
  ·refine Qb ?_;refine ⟨_,qs f,fun hm=>?_⟩;subst hm;exact ⟨_,J,wkA [] [] []⟩
  refine qq<|qf<|Ql [Qs 0,q6,Qs 0,q6,qu 0,q6,q6,q6,qu 0,q6,q6,q6,q6,q6,q6,q6] qh<|U J<|U J<|U J<|U J<|U J<|U J<|q9 f fun ak dw f=>qy dw J J<|Q7 (q7 ak) dw J<|U J<|U J<|q9 f fun al dx f=>qy dx J J<|Q7 (q7 al) dx J<|q9 f fun gd dy f=>qy dy J J<|K3 (ds:=[q8 ak]) ak dy J J J J J J J J (leb J) J<|q9 f fun ge dz f=>qy dz qe J<|K3 (ds:=[q8 al]) al dz J J J J J J J J (leb J) J<|qt<|U J<|O (.d (q8 (w64 (q + 1)))) J<|qb J<|qa<|Q0<|U J<|O (.d (q8 (w64 (z - 1)))) J<|qb J<|Q1<|Qr<|Qd<|⟨_,qs f,wkE [] [] [] J ⟨⟨_,J,K7 qe J qo (ltd J)⟩,qp J,qp J,qp J,trivial⟩ ⟨Qn J J,trivial⟩⟩
 intro y hb;subst hb;refine qf<|Ql [Qs 0,q6,Qs 0,q6,qu 0,q6,q6,q6,qu 0,q6,q6,q6,q6,q6,q6,q6] qh<|U J<|U J<|U J<|U J<|U J<|U J<|q9 a fun am fa a=>qy fa J J<|Q7 (q7 am) fa J<|U J<|U J<|q9 a fun an fb a=>qy fb J J<|Q7 (q7 an) fb J<|q9 a fun gf fc a=>qy fc J J<|K3 (ds:=[q8 am]) am fc J J J J J J J J (leb J) J<|q9 a fun gg fd a=>qy fd qe J<|K3 (ds:=[q8 an]) an fd J J J J J J J J (leb J) J<|qt<|U J<|qb J<|qb J<|qx ?_;obtain rfl:=qv a;exact ⟨.inr J,_,J,wkA [] [] []⟩
theorem ql8 (b : Int) (r : Int) (a : q1s b = some r) : Pure Tryz.prog tab 166 [q8 b] (.int .u64 r):=by
 unfold q1s at a;refine Qq Tryz.func166 J qh qh J<|qc<|qb J<|qt<|U J<|O _ J<|q9 a fun c d a=>Q4 (qe3 (IntKind.wrap .u64 b) c d) J<|q9 a fun g f a=>qrv f J J J<|qb J<|qx ?_;cases a;exact Q8 _ J
theorem qlb (a : Int) (r : Int) (b : q1t  a = some r) : K9 Tryz.prog tab 167 [.ref 0 1 0 0] [(0,.dat 1 [[.int .u64 a]])] 1 (.d (.int .u64 r)) [(0,.dat 1 [[.int .u64 r]])] 1:=by
 unfold q1t at b;refine Kr Tryz.func167 J qh qh J<|qc<|qb J<|qa<|qf<|Ql [Qs 0,q6,q6,q6,qu 0,q6,q6,qu 0,q6,q6] qh<|U J<|O _ J<|O _ J<|U J<|O _ J<|O _ J<|O _ J<|O _ J<|O _ J<|Qc 0 _ J<|qa<|qf<|Ql [Qs 0,q6,q6,q6,qu 0,q6,q6,qu 0,q6,q6] qh<|U J<|O _ J<|O _ J<|U J<|O _ J<|O _ J<|O _ J<|O _ J<|O _ J<|Qc 0 _ J<|qa<|qf<|Ql [Qs 0,q6,q6,q6,qu 0,q6,q6,qu 0,q6,q6] qh<|U J<|O _ J<|O _ J<|U J<|O _ J<|O _ J<|O _ J<|O _ J ?_;refine O _ J<|Qc 0 _ J<|qt<|U J<|O _ J<|O _ J<|qb J<|qx ?_;obtain rfl:=qv b;exact ⟨.inr J,_,J,wkA [] [] []⟩
theorem qvw (j : List Int) (b : Int) (g : Int) (r : List Int) (c : q5i  j b g = some r) : K9 Tryz.prog tab 148 [.hs 0 1 0 j.length,q7 b,q7 g] [(0,.dat 1 (j.map (eI .i64)))] 1 (.d (.tup [])) [(0,.dat 1 (r.map (eI .i64)))] 1:=by
 unfold q5i at c;refine Kr Tryz.func148 J qh qh J<|qc<|U J<|U J<|O _ J<|qb J<|qt<|U J<|O _ J<|qa ?_;refine qr J c (fun _ c=>?_) (fun _ c=>?_)
 ·refine qc<|U J<|O _ J<|K0 J J<|Qc 1 _ J<|qt<|U J<|q9 c fun k u c=>Q4 (ql8 (w64 (g - b)) k u) J<|qb J<|qt<|U J<|U J<|O _ J<|O _ J<|O _ J<|O _ J<|qb J<|qa<|q9 c fun v w c=>Q5<|Qm (q5j b g k) (fun f=>⟨[(0,.hs 0 1 0 f.2.1.length),(1,q7 b),(6,.d (q8 (w64 (g - b)))),(7,.ref 1 1 0 0),(8,.d (.int .u64 k)),(9,q7 f.1)],[(0,.dat 1 (f.2.1.map (eI .i64))),(1,.dat 1 [[.int .u64 f.2.2]])],2⟩) (w64 ((w64 (b + (w64 ((w64 (Int.tdiv (w64 (g - b)) 4)) * 2)))) - 1),j,IntKind.wrap .u64 (w64 (g - b))) v w (wkA [(1,1)] [] []) ?_;intro f z a;unfold q5j at a;refine qf<|qc<|U J<|U J<|U J<|O _ J<|O _ J<|O _ J<|O _ J<|O _ J<|qa ?_;refine qr J a (fun _ a=>?_) (fun _ a=>?_)
  ·refine qq<|qf<|Q5<|qc<|q9 a fun l x a=>Ka [(0,1)] [(0,1),(1,0)] _ (.d (.int .u64 l)) 1 [(1,.dat 1 [[.int .u64 l]]),(0,.dat 1 (f.2.1.map (eI .i64)))] 2 (qlb f.2.2 l x)<|U J<|O _ J<|O _ J<|O _ J<|qb J<|qa<|qf<|qc<|U J<|U J<|O _ J<|qa<|q9 a fun y h a=>?_;refine Z6 (fun m=>m = y) (fun m=>⟨[(0,.hs 0 1 0 f.2.1.length),(1,q7 b),(6,.d (q8 (w64 (g - b)))),(7,.ref 1 1 0 0),(8,.d (.int .u64 k)),(9,q7 f.1),(10,q7 m)],[(0,.dat 1 (f.2.1.map (eI .i64))),(1,.dat 1 [[.int .u64 l]])],2⟩) qe ?_ ?_
   ·refine qr J h (fun _ h=>?_) (fun _ h=>?_)
    ·refine Q0<|U J<|U J<|O _ J<|qb J<|Q1 ?_;obtain rfl:=qv h;exact ⟨_,J,wkA [(1,1)] [] []⟩
    refine qq<|Qd ?_;obtain rfl:=qv h;exact ⟨_,J,wkA [(1,1)] [] []⟩
   intro m hb;subst hb;refine Ql [Qs 0,q6,Qs 0,q6,qu 0,q6,q6,q6,qu 0,q6,q6,q6,q6,q6,q6,q6,q6,q6,q6,q6] qh<|U J<|U J<|U J<|U J<|U J<|O _ J<|U J<|U J<|U J<|O _ J<|q9 a fun n o a=>qy o J J<|Q7 _ o J<|U J<|U J<|q9 a fun p q a=>qy q J J<|Q7 _ q J<|q9 a fun aa s a=>qy s J J<|K3 (ds:=[q8 n]) n s J J J J J J J J (leb J) J<|q9 a fun ab t a=>qy t qe J<|K3 (ds:=[q8 p]) p t J J J J J J J J (leb J) J<|Q1<|Qr<|Q0<|U J<|O _ J<|qb J<|Q1<|⟨_,qs a,wkE [(1,1)] [] [] J ⟨⟨_,J,K7 qe J qo (ltd J)⟩,qp J,qp J,⟨_,J,.ref J qo (ltd J)⟩,qp J,qp J,trivial⟩ ⟨Qn J J,Qn J J,trivial⟩⟩
  refine Qb ?_;refine ⟨_,qs a,fun hm=>?_⟩;subst hm;obtain rfl:=qv c;exact ⟨.inl J,_,J,wkA [] [] []⟩
 refine qq<|Qd ?_;obtain rfl:=qv c;exact ⟨.inl J,_,J,wkA [] [] []⟩
theorem qwb (rec : List Int→Int→Int→Int→Option (List Int)) (hrec : ∀ (n : List Int) (o : Int) (p : Int) (q : Int) (r : List Int),rec n o p q = some r→K9 Tryz.prog tab 135 [.hs 0 1 0 n.length,q7 o,q7 p,q7 q] [(0,.dat 1 (n.map (eI .i64)))] 1 (.d (.tup [])) [(0,.dat 1 (r.map (eI .i64)))] 1) (n : List Int) (o : Int) (p : Int) (q : Int) (r : List Int) (s : q3x rec  n o p q = some r) : K9 Tryz.prog tab 135 [.hs 0 1 0 n.length,q7 o,q7 p,q7 q] [(0,.dat 1 (n.map (eI .i64)))] 1 (.d (.tup [])) [(0,.dat 1 (r.map (eI .i64)))] 1:=by
 unfold q3x at s;refine Kr Tryz.func135 J qh qh J<|qc<|qb J<|qt<|qb J<|qa<|q9 s fun az ba s=>Q5<|Qm (q3w rec) (fun b=>⟨[(0,.hs 0 1 0 b.2.2.2.2.2.length),(1,q7 b.1),(2,q7 b.2.1),(3,q7 b.2.2.1),(8,qw b.2.2.2.1),(9,qw b.2.2.2.2.1)],[(0,.dat 1 (b.2.2.2.2.2.map (eI .i64)))],1⟩) (o,p,q,true,true,n) az ba (wkA [] [] []) ?_;intro b co a;unfold q3w at a;refine Q5<|qc<|U J<|U J<|O _ J<|qb J<|qa<|qf<|qc<|U J<|O _ J<|qa ?_;refine qr J a (fun _ a=>?_) (fun _ a=>?_)
 ·refine qc<|U J<|U J<|U J<|q9 a fun aa bb a=>q9 a fun cp bc a=>?_;have cq:=Kn bc;refine Ka [(0,0)] [(0,0)] _ (.d (.tup [])) 1 [(0,.dat 1 (aa.map (eI .i64)))] 1 (qw2 b.2.2.2.2.2 b.1 b.2.1 aa bb)<|qx ?_;refine ⟨_,qs a,fun hm=>?_⟩;subst hm;obtain rfl:=qv s;exact ⟨.inr J,_,J,wkA [] [] []⟩
 refine qq<|qf<|qc<|U J<|O _ J<|qa ?_;refine qr J a (fun _ a=>?_) (fun _ a=>?_)
 ·refine qc<|U J<|U J<|U J<|q9 a fun ab bd a=>q9 a fun cr be a=>?_;have cs:=Kn be;refine Ka [(0,0)] [(0,0)] _ (.d (.tup [])) 1 [(0,.dat 1 (ab.map (eI .i64)))] 1 (qw0 b.2.2.2.2.2 b.1 b.2.1 ab bd)<|qx ?_;refine ⟨_,qs a,fun hm=>?_⟩;subst hm;obtain rfl:=qv s;exact ⟨.inr J,_,J,wkA [] [] []⟩
 refine qq<|qf<|qc<|U J<|O _ J<|qa<|q9 a fun bf k a=>?_;refine Z6 (fun c=>c = bf) (fun c=>⟨[(0,.hs 0 1 0 c.2.length),(1,q7 b.1),(2,q7 b.2.1),(3,q7 c.1),(8,qw b.2.2.2.1),(9,qw b.2.2.2.2.1),(10,.d (q8 (w64 (b.2.1 - b.1))))],[(0,.dat 1 (c.2.map (eI .i64)))],1⟩) qe ?_ ?_
 ·refine qr J k (fun _ k=>?_) (fun _ k=>?_)
  ·refine qc<|U J<|U J<|U J<|q9 k fun ac bg k=>q9 k fun ct bh k=>?_;have bi:=Kn bh;refine Ka [(0,0)] [(0,0)] _ (.d (.tup [])) 1 [(0,.dat 1 (ac.map (eI .i64)))] 1 (qvw b.2.2.2.2.2 b.1 b.2.1 ac bg)<|qa<|Q0<|U J<|O _ J<|qb J<|Q1 ?_;obtain rfl:=qv k;exact ⟨_,J,wkE [] [] [] J ⟨⟨_,J,K7 (by simp [bi]) J qo (ltd J)⟩,qp J,qp J,qp J,qp J,qp J,qp J,trivial⟩ ⟨Qn J J,trivial⟩⟩
  refine qq<|Qd ?_;obtain rfl:=qv k;exact ⟨_,J,wkA [] [] []⟩
 intro c hb;subst hb;refine qc<|U J<|U J<|U J<|q9 a fun bj bk a=>q2s [.hs 0 1 0 c.2.length,q7 b.1,q7 b.2.1] (qvy c.2 b.1 b.2.1 bj bk) J J (Zn (Jh J J) (Zn J (Zn J J))) (.inr J)<|U J<|O _ J<|O _ J<|qb J<|qb J<|qa<|qf<|qc<|U J<|O _ J<|qa<|q9 a fun bl l a=>?_;refine Z6 (fun g=>g = bl) (fun g=>⟨[(0,.hs 0 1 0 g.2.2.length),(1,q7 b.1),(2,q7 b.2.1),(3,q7 c.1),(8,qw b.2.2.2.1),(9,qw b.2.2.2.2.1),(10,.d (q8 (w64 (b.2.1 - b.1)))),(11,q7 g.1),(12,q7 g.2.1)],[(0,.dat 1 (g.2.2.map (eI .i64)))],1⟩) qe ?_ ?_
 ·refine qr J l (fun _ l=>?_) (fun _ l=>?_)
  ·refine qc<|U J<|U J<|U J<|q9 l fun ad bm l=>q9 l fun cu bn l=>?_;have bo:=Kn bn;refine Ka [(0,0)] [(0,0)] _ (.d (.tup [])) 1 [(0,.dat 1 (ad.map (eI .i64)))] 1 (qwe c.2 b.1 b.2.1 ad bm)<|qt<|U J<|O _ J<|U J<|U J<|O _ J<|O _ J<|qb J<|qa<|Q0<|qb J<|Q1 ?_;obtain rfl:=qv l;exact ⟨_,J,wkE [] [] [] J ⟨⟨_,J,K7 (by simp [bo]) J qo (ltd J)⟩,qp J,qp J,qp J,qp J,qp J,qp J,qp J,qp J,trivial⟩ ⟨Qn J J,trivial⟩⟩
  refine qq<|Qd ?_;obtain rfl:=qv l;exact ⟨_,J,wkA [] [] []⟩
 intro g hb;subst hb;refine qf<|qc<|U J<|q9 a fun bp t a=>?_;refine Qi 3 (fun A st=>∃ ae af,st = A [(64,qw bp),(63,af),(62,ae)]) ?_ ?_
 ·refine Qg J J t (fun t=>?_) (fun t=>?_)
  ·refine U J<|O _ J<|qa ?_;cases t;exact ⟨_,_,J⟩
  refine qd J<|O _ J<|qa ?_;cases t;exact ⟨_,_,J⟩
 rintro _ ⟨ae,af,rfl⟩;refine q9 a fun bq u a=>?_;refine Qi 4 (fun A st=>∃ ag ah ai,st = A [(68,qw bq),(67,ai),(66,ah),(65,ag)]) ?_ ?_
 ·refine Qg J J u (fun u=>?_) (fun u=>?_)
  ·refine U J<|O _ J<|O _ J<|qa ?_;cases u;exact ⟨_,_,_,J⟩
  refine qd J<|qd J<|O _ J<|qa ?_;cases u;exact ⟨_,_,_,J⟩
 rintro _ ⟨ag,ah,ai,rfl⟩;refine qa<|q9 a fun br f a=>?_;refine Z6 (fun m=>.inl m = br) (fun m=>⟨[(0,.hs 0 1 0 m.length),(1,q7 b.1),(2,q7 b.2.1),(3,q7 c.1),(8,qw b.2.2.2.1),(9,qw b.2.2.2.2.1),(10,.d (q8 (w64 (b.2.1 - b.1)))),(11,q7 g.1)],[(0,.dat 1 (m.map (eI .i64)))],1⟩) qe ?_ ?_
 ·refine qr J f (fun _ f=>?_) (fun _ f=>?_)
  ·refine qc<|U J<|U J<|U J<|q9 f fun w bs f=>q9 f fun cv bt f=>?_;have bu:=Kn bt;refine Ka [(0,0)] [(0,0)] _ (qw w.1) 1 [(0,.dat 1 (w.2.map (eI .i64)))] 1 (qw4 g.2.2 b.1 b.2.1 w bs)<|qa ?_;refine qr J f (fun _ f=>?_) (fun _ f=>?_)
   ·refine Uu ?_;obtain rfl:=qv f;refine ⟨_,qs a,fun hm=>?_⟩;subst hm;obtain rfl:=qv s;exact ⟨.inr J,_,J,wkA [] [] []⟩
   refine qq<|Qd ?_;obtain rfl:=qv f;exact ⟨_,J,wkE [] [] [] J ⟨⟨_,J,K7 (by simp [bu]) J qo (ltd J)⟩,qp J,qp J,qp J,qp J,qp J,qp J,qp J,trivial⟩ ⟨Qn J J,trivial⟩⟩
  refine qq<|Qd ?_;obtain rfl:=qv f;exact ⟨_,J,wkA [] [] []⟩
 intro m hb;subst hb;refine qf<|qf<|Ql [q6,q6,q6,qu 0,q6,q6,q6,qu 0,q6,q6,q6,q6,q6,q6,q6] qh<|U J<|O _ J<|q9 a fun bv h a=>?_;refine Qi 13 (fun A st=>∃ aj ak al am an ao ap aq ar au av aw,st = A [(87,qw bv),(86,aw),(85,av),(84,au),(83,ar),(82,aq),(81,ap),(80,ao),(79,an),(78,am),(77,al),(76,ak),(75,aj)]) ?_ ?_
 ·refine Qg J J h (fun h=>?_) (fun h=>?_)
  ·refine U J<|U J<|O _ J<|q9 h fun bw ax h=>qy ax J J<|Q7 _ ax J<|U J<|U J<|q9 h fun bz ay h=>qy ay J J<|Q7 _ ay J<|q9 h fun ca cb h=>Q4 (Zw bw bz ca cb) J<|O _ J<|O _ J<|qa ?_;cases h;exact ⟨_,_,_,_,_,_,_,_,_,_,_,_,J⟩
  refine qd J<|qd J<|qd J<|qd J<|qd J<|qd J<|qd J<|qd J<|qd J<|qd J<|qd J<|O _ J<|qa ?_;cases h;exact ⟨_,_,_,_,_,_,_,_,_,_,_,_,J⟩
 rintro _ ⟨aj,ak,al,am,an,ao,ap,aq,ar,au,av,aw,rfl⟩;refine qa ?_;refine qr J a (fun _ a=>?_) (fun _ a=>?_)
 ·refine qc<|U J<|U J<|U J<|U J<|q9 a fun x cc a=>q9 a fun cw cd a=>?_;have ce:=Kn cd;refine Ka [(0,0)] [(0,0)] _ (q7 x.1) 1 [(0,.dat 1 (x.2.map (eI .i64)))] 1 (qw7 m b.1 b.2.1 g.1 x cc)<|qb J<|qt<|U J<|qb J<|qa<|Qb<|Jq<|Qd<|⟨_,qs a,wkE [] [] [] J ⟨⟨_,J,K7 (by simp [ce]) J qo (ltd J)⟩,qp J,qp J,qp J,qp J,qp J,trivial⟩ ⟨Qn J J,trivial⟩⟩
 refine qq<|qc<|U J<|U J<|U J<|U J<|q9 a fun j cf a=>q9 a fun cx cg a=>?_;have v:=Kn cg;refine Ka [(0,0)] [(0,0)] _ (.d (.tup [q8 j.1,.bool j.2.1])) 1 [(0,.dat 1 (j.2.2.map (eI .i64)))] 1 (qw8 m b.1 b.2.1 g.1 j cf)<|U J<|O _ J<|O _ J<|qb J<|qb J<|qt<|U J<|qb J<|qt<|U J<|U J<|O _ J<|U J<|U J<|O _ J<|qb J<|qb J<|qt<|U J<|O _ J<|qb J<|qt<|U J<|U J<|O _ J<|qa ?_;refine qr J a (fun _ a=>?_) (fun _ a=>?_)
 ·refine qc<|U J<|U J<|O _ J<|qb J<|qt<|U J<|U J<|U J<|U J<|q9 a fun y ch a=>q9 a fun cy ci a=>?_;have cj:=Kn ci;refine Jy [(0,0)] [(0,0)] [.hs 0 1 0 m.length,q7 b.1,q7 j.1,q7 c.1] (.d (.tup [])) [(0,.dat 1 (y.map (eI .i64)))] [(0,.dat 1 (y.map (eI .i64)))] 1 (hrec j.2.2 b.1 j.1 c.1 y ch) J J J (Yh [(0,0)] [] [] J ⟨⟨_,J,K7 (by simp [v]) J qo (ltd J)⟩,qp J,qp J,qp J,trivial⟩ ⟨Qn J J,trivial⟩) (Yh [(0,0)] [] [] J ⟨qp J,trivial⟩ ⟨Qn J J,trivial⟩) J ⟨.inl J,trivial⟩<|qa<|Q0<|U J<|O _ J<|qb J<|Q1<|Qr<|Qd<|⟨_,qs a,wkE [] [] [] J ⟨⟨_,J,K7 (by simp [v,cj]) J qo (ltd J)⟩,qp J,qp J,qp J,qp J,qp J,trivial⟩ ⟨Qn J J,trivial⟩⟩
 refine qc<|U J<|U J<|O _ J<|qb J<|qt<|U J<|U J<|O _ J<|U J<|U J<|q9 a fun z ck a=>q9 a fun cz cm a=>?_;have cn:=Kn cm;refine Jy [(0,0)] [(0,0)] [.hs 0 1 0 m.length,.d (q8 (w64 (j.1 + 1))),q7 b.2.1,q7 c.1] (.d (.tup [])) [(0,.dat 1 (z.map (eI .i64)))] [(0,.dat 1 (z.map (eI .i64)))] 1 (hrec j.2.2 (w64 (j.1 + 1)) b.2.1 c.1 z ck) J J J (Yh [(0,0)] [] [] J ⟨⟨_,J,K7 (by simp [v]) J qo (ltd J)⟩,qp J,qp J,qp J,trivial⟩ ⟨Qn J J,trivial⟩) (Yh [(0,0)] [] [] J ⟨qp J,trivial⟩ ⟨Qn J J,trivial⟩) J ⟨.inl J,trivial⟩<|qa<|Q0<|U J<|qb J<|Q1<|Qr<|Qd<|⟨_,qs a,wkE [] [] [] J ⟨⟨_,J,K7 (by simp [v,cn]) J qo (ltd J)⟩,qp J,qp J,qp J,qp J,qp J,trivial⟩ ⟨Qn J J,trivial⟩⟩
theorem qwc (n : Nat) : ∀ (a : List Int) (b : Int) (c : Int) (f : Int) (r : List Int),q69 n  a b c f = some r→K9 Tryz.prog tab 135 [.hs 0 1 0 a.length,q7 b,q7 c,q7 f] [(0,.dat 1 (a.map (eI .i64)))] 1 (.d (.tup [])) [(0,.dat 1 (r.map (eI .i64)))] 1:=by
 induction n with
 | zero=>intro a b c f r g;cases g
 | succ n ih=>intro a b c f r g;exact qwb (q69 n )   ih a b c f r g
theorem qbm (b : List Int) (r : List Int) (a : U0  b = some r) : K9 Tryz.prog tab 120 [.hs 0 1 0 b.length] [(0,.dat 1 (b.map (eI .i64)))] 1 (.d (.tup [])) [(0,.dat 1 (r.map (eI .i64)))] 1:=by
 unfold U0 at a;refine Kr Tryz.func120 J qh qh J<|qc<|U J<|O _ J<|qb J<|qa<|Q0<|U J<|U J<|U J<|O _ J<|q9 a fun f h a=>Q4 (qe3 (IntKind.wrap .u64 (b.length : Int)) f h) J<|q9 a fun g c a=>q9 a fun l j a=>?_;have m:=Kn j;obtain ⟨k,c⟩:=qdx c;refine Ka [(0,0)] [(0,0)] _ (.d (.tup [])) 1 [(0,.dat 1 (g.map (eI .i64)))] 1 (qwc k b 0 (b.length : Int) f g c)<|Q1 ?_;obtain rfl:=qv a;exact ⟨.inl J,_,J,wkA [] [] []⟩
theorem qbd (c : List Int) (r : (Nat × Nat) × List Int) (d : Uv  c = some r) : K9 Tryz.prog tab 121 [.hs 0 1 0 c.length] [(0,.dat 1 (c.map (eI .i64)))] 1 (.hs 0 1 r.1.1 r.1.2) [(0,.dat 1 (r.2.map (eI .i64)))] 1:=by
 unfold Uv at d;refine Kr Tryz.func121 J qh qh J<|qc<|qb J<|qa<|qf<|qc<|U J<|O _ J<|O _ J<|qa ?_;refine qr J d (fun _ d=>?_) (fun _ d=>?_)
 ·refine qc<|U J<|qb J<|qx ?_;obtain rfl:=qv d;exact ⟨.inr J,_,J,wkA [] [] []⟩
 refine qq<|qf<|qc<|qb J<|qa<|q9 d fun n z d=>?_;refine Qv (fun k=>.inl k = n) (fun k=>⟨[(0,.hs 0 1 0 c.length)],[(0,.dat 1 (c.map (eI .i64)))],1⟩) qe ?_ ?_
 ·refine Qm (Jf c) (fun l=>⟨[(0,.hs 0 1 0 c.length),(3,q7 l)],[(0,.dat 1 (c.map (eI .i64)))],1⟩) 1 n z (wkA [] [] []) ?_;intro l af a;unfold Jf at a;refine qf<|qc<|U J<|U J<|O _ J<|O _ J<|qa ?_;refine qr J a (fun _ a=>?_) (fun _ a=>?_)
  ·refine qq<|qf<|Q5<|qf<|Ql [q6,qu 0,q6,q6,q6,q6,qu 0,q6,q6,q6] qh<|U J<|U J<|q9 a fun ag o a=>qy o J J<|Q7 _ o J<|U J<|U J<|O _ J<|q9 a fun ah p a=>qy p J J<|Q7 _ p J<|O _ J<|qa ?_;refine qr J a (fun _ a=>?_) (fun _ a=>?_)
   ·refine qc<|U J<|U J<|q9 a fun aa ab a=>qej ab J J J J J (qco J) (fun _=>rfl)<|qb J<|qa<|qf<|qc<|qb J<|qa<|q9 a fun q ac a=>?_;refine Qv (fun f=>f = q) (fun f=>⟨[(0,.hs 0 1 0 f.2.length),(3,q7 f.1)],[(0,.dat 1 (f.2.map (eI .i64)))],1⟩) qe ?_ ?_
    ·refine Qm (q1q) (fun g=>⟨[(0,.hs 0 1 0 g.2.2.2.length),(3,q7 g.1),(4,.hs 0 1 g.2.1.1 g.2.1.2),(5,q7 g.2.2.1)],[(0,.dat 1 (g.2.2.2.map (eI .i64)))],1⟩) (l,aa,1,c) q ac (wkA [] [] []) ?_;intro g ai h;unfold q1q at h;refine qf<|qc<|U J<|U J<|O _ J<|O _ J<|qa ?_;refine qr J h (fun _ h=>?_) (fun _ h=>?_)
     ·refine qq<|qf<|q9 h fun ad b h=>?_;refine Qv (fun j=>j = ad) (fun j=>⟨[(0,.hs 0 1 0 j.2.2.length),(3,q7 j.1),(4,.hs 0 1 j.2.1.1 j.2.1.2),(5,q7 g.2.2.1)],[(0,.dat 1 (j.2.2.map (eI .i64)))],1⟩) qe ?_ ?_
      ·refine qf<|Ql [q6,qu 0,q6,q6,q6,q6,qu 0,q6,q6,q6] qh<|U J<|U J<|q9 b fun aj s b=>qeg s J J J J J J<|Q7 _ (qdu s) J<|U J<|U J<|O _ J<|q9 b fun ak t b=>qeg t J J J J J J<|Q7 _ (qdu t) J<|O _ J<|qa ?_;refine qr J b (fun _ b=>?_) (fun _ b=>?_)
       ·refine qc<|U J<|U J<|U J<|U J<|q9 b fun u v b=>qeg v J J J J J J<|Q7 _ (qdu v) J<|q9 b fun al x b=>qy x J J<|K3 (ds:=[q8 u]) u x J J J J J J J J (leb J) J<|qa<|Q0<|U J<|O _ J<|qb J<|Q1 ?_;obtain rfl:=qv b;exact ⟨_,J,wkE [] [] [] J ⟨⟨_,J,K7 qe J qo (ltd J)⟩,qp J,⟨_,J,.hs J qo (ltd J)⟩,qp J,trivial⟩ ⟨Qn J J,trivial⟩⟩
       refine qq<|Qd ?_;obtain rfl:=qv b;exact ⟨_,J,wkA [] [] []⟩
      intro j hb;subst hb;refine Q0<|U J<|O _ J<|qb J<|Q1<|⟨_,qs h,wkA [] [] []⟩
     refine Qb ?_;refine ⟨_,qs h,fun hm=>?_⟩;subst hm;exact ⟨_,J,wkA [] [] []⟩
    intro f hb;subst hb;refine qc<|U J<|U J<|q9 a fun y m a=>qej m J J J J J (qco J) (fun _=>rfl)<|qrh (w:=y) (xs:=f.2) (enc:=(eI .i64)) 0 (qlv m) J J J J J J J ?_;have am:=@qgp _ f.2 y 0 (qlv m);refine qt<|U J<|U J<|q9 a fun an ae a=>qej ae J J J J J (fun _=>rfl) (qco J)<|qb J<|qx ?_;refine ⟨_,qs a,fun hm=>?_⟩;subst hm;obtain rfl:=qv d;exact ⟨.inr J,_,J,wkA [] [] []⟩
   refine qq<|Qd<|Qr<|Q0<|U J<|O _ J<|qb J<|Q1<|⟨_,qs a,wkA [] [] []⟩
  refine Qb ?_;refine ⟨_,qs a,fun hm=>?_⟩;subst hm;exact ⟨_,J,wkA [] [] []⟩
 intro k hb;subst hb;refine qc<|U J<|qb J<|qx ?_;obtain rfl:=qv d;exact ⟨.inr J,_,J,wkA [] [] []⟩
theorem qvp (b : List qk) (g : qk→Option Bool) (p1F : FuncId) (p1C : List DV) (p1Ok : ∀ (c : qk) (r : Bool),g c = some r→Pure Tryz.prog tab p1F ([.agg [q8 c.X0,q8 c.Y0,q8 c.X1,q8 c.Y1]] ++ p1C) (.bool r)) (r : Int) (f : qbk b g = some r) : Pure Tryz.prog tab 137 [.sl 4 (b.map Q6),.fn p1F p1C] (q8 r):=by
 unfold qbk at f;refine Qq Tryz.func137 J qh qh J<|qc<|qb J<|qa<|qf<|qc<|U J<|Qz J<|U J<|qa<|q9 f fun j l f=>?_;refine Qv (fun h=>.inl h = j) (fun h=>⟨[],[],0⟩) qe ?_ ?_
 ·refine Qm (q3p b g) (fun k=>⟨[(0,.d (.sl 4 (b.map Q6))),(1,.d (.fn p1F p1C)),(7,q7 (b.length : Int)),(8,q7 k)],[],0⟩) 0 j l (wkA [] [] []) ?_;intro k q a;unfold q3p at a;refine qc<|O _ J<|qa<|qf ?_;refine qr J a (fun _ a=>?_) (fun _ a=>?_)
  ·refine qq<|qf<|Q5<|qc<|U J<|qb J<|qt<|U J<|U J<|U J<|q9 a fun m n a=>K2 n J<|O _ J<|q9 a fun o p a=>Yf _ (p1Ok m o p) J J J (.inl J)<|qa ?_;refine qr J a (fun _ a=>?_) (fun _ a=>?_)
   ·refine qc<|U J<|qb J<|qx ?_;refine ⟨_,qs a,fun hm=>?_⟩;subst hm;cases f;exact Q8 _ J
   refine qq<|Qd<|Qr<|Q0<|O _ J<|U J<|Q1<|⟨_,qs a,wkA [] [] []⟩
  refine Qb ?_;refine ⟨_,qs a,fun hm=>?_⟩;subst hm;exact ⟨_,J,wkA [] [] []⟩
 intro h hb;subst hb;refine qc<|qb J<|qx ?_;cases f;exact Q8 _ J
theorem qvh (c : List qk) (d : qk→Option Bool) (p1F : FuncId) (p1C : List DV) (p1Ok : ∀ (a : qk) (r : Bool),d a = some r→Pure Tryz.prog tab p1F ([.agg [q8 a.X0,q8 a.Y0,q8 a.X1,q8 a.Y1]] ++ p1C) (.bool r)) (r : Bool) (b : q8a c d = some r) : Pure Tryz.prog tab 123 [.sl 4 (c.map Q6),.fn p1F p1C] (.bool r):=by
 unfold q8a at b;refine Qq Tryz.func123 J qh qh J<|qc<|qb J<|qt<|U J<|U J<|q9 b fun f g b=>Q4 (qvp c d p1F p1C p1Ok f g) J<|O _ J<|qb J<|qx ?_;cases b;exact Q8 _ J
theorem qb3 (c : Int) (r : Bool) (b : q2v c = some r) : Pure Tryz.prog tab 138 [q8 c] (.bool r):=by
 unfold q2v at b;refine Qq Tryz.func138 J qh qh J<|qc<|qb J<|qt<|U J<|O _ J<|q9 b fun h a b=>?_;refine Qi 4 (fun A st=>∃ d f g,st = A [(8,qw h),(7,g),(6,f),(5,d)]) ?_ ?_
 ·refine Qg J J a (fun a=>?_) (fun a=>?_)
  ·refine U J<|O _ J<|O _ J<|qa ?_;cases a;exact ⟨_,_,_,J⟩
  refine qd J<|qd J<|O _ J<|qa ?_;cases a;exact ⟨_,_,_,J⟩
 rintro _ ⟨d,f,g,rfl⟩;refine qb J<|qx ?_;cases b;exact Q8 _ J
theorem qkf (b : qk) (r : Bool) (a : q57 b = some r) : Pure Tryz.prog tab 125 [.agg [q8 b.X0,q8 b.Y0,q8 b.X1,q8 b.Y1]] (.bool r):=by
 unfold q57 at a;refine Qq Tryz.func125 J qh qh J<|qc<|Qu _ _ J<|qb J<|qt<|O _ J<|O _ J<|O _ J<|O _ J<|O _ J<|q9 a fun c1 h a=>?_;refine Qi 7 (fun A st=>∃ j k l m n o,st = A [(14,qw c1),(13,o),(12,n),(11,m),(10,l),(9,k),(8,j)]) ?_ ?_
 ·refine Qg J J h (fun h=>?_) (fun h=>?_)
  ·refine O _ J<|O _ J<|O _ J<|O _ J<|O _ J<|O _ J<|qa ?_;cases h;exact ⟨_,_,_,_,_,_,J⟩
  refine qd J<|qd J<|qd J<|qd J<|qd J<|O _ J<|qa ?_;cases h;exact ⟨_,_,_,_,_,_,J⟩
 rintro _ ⟨j,k,l,m,n,o,rfl⟩;refine q9 a fun ah c a=>?_;refine Qi 5 (fun A st=>∃ p q s t,st = A [(19,qw ah),(18,t),(17,s),(16,q),(15,p)]) ?_ ?_
 ·refine Qg J J c (fun c=>?_) (fun c=>?_)
  ·refine O _ J<|O _ J<|q9 c fun ai aj c=>Q4 (qb3 b.X0 ai aj) J<|O _ J<|qa ?_;cases c;exact ⟨_,_,_,_,J⟩
  refine qd J<|qd J<|qd J<|O _ J<|qa ?_;cases c;exact ⟨_,_,_,_,J⟩
 rintro _ ⟨p,q,s,t,rfl⟩;refine q9 a fun ak d a=>?_;refine Qi 5 (fun A st=>∃ u v w x,st = A [(24,qw ak),(23,x),(22,w),(21,v),(20,u)]) ?_ ?_
 ·refine Qg J J d (fun d=>?_) (fun d=>?_)
  ·refine O _ J<|O _ J<|q9 d fun al am d=>Q4 (qb3 b.X1 al am) J<|O _ J<|qa ?_;cases d;exact ⟨_,_,_,_,J⟩
  refine qd J<|qd J<|qd J<|O _ J<|qa ?_;cases d;exact ⟨_,_,_,_,J⟩
 rintro _ ⟨u,v,w,x,rfl⟩;refine q9 a fun an f a=>?_;refine Qi 5 (fun A st=>∃ y z aa ab,st = A [(29,qw an),(28,ab),(27,aa),(26,z),(25,y)]) ?_ ?_
 ·refine Qg J J f (fun f=>?_) (fun f=>?_)
  ·refine O _ J<|O _ J<|q9 f fun ao ap f=>Q4 (qb3 b.Y0 ao ap) J<|O _ J<|qa ?_;cases f;exact ⟨_,_,_,_,J⟩
  refine qd J<|qd J<|qd J<|O _ J<|qa ?_;cases f;exact ⟨_,_,_,_,J⟩
 rintro _ ⟨y,z,aa,ab,rfl⟩;refine q9 a fun aq g a=>?_;refine Qi 5 (fun A st=>∃ ac ad ae af,st = A [(34,qw aq),(33,af),(32,ae),(31,ad),(30,ac)]) ?_ ?_
 ·refine Qg J J g (fun g=>?_) (fun g=>?_)
  ·refine O _ J<|O _ J<|q9 g fun ar au g=>Q4 (qb3 b.Y1 ar au) J<|O _ J<|qa ?_;cases g;exact ⟨_,_,_,_,J⟩
  refine qd J<|qd J<|qd J<|O _ J<|qa ?_;cases g;exact ⟨_,_,_,_,J⟩
 rintro _ ⟨ac,ad,ae,af,rfl⟩;refine qb J<|qx ?_;cases a;exact Q8 _ J
theorem qtf (a : qk) (r : Bool) (b : q2u a = some r) : Pure Tryz.prog tab 124 [.agg [q8 a.X0,q8 a.Y0,q8 a.X1,q8 a.Y1]] (.bool r):=by
 unfold q2u at b;refine Qq Tryz.func124 J qh qh J<|qc<|Qu _ _ J<|qb J<|qt<|O _ J<|q9 b fun c d b=>Q4 (qkf a c d) J<|O _ J<|qb J<|qx ?_;cases b;exact Q8 _ J
theorem qvs (b : List qj) (f : qj→Option Bool) (p1F : FuncId) (p1C : List DV) (p1Ok : ∀ (g : qj) (r : Bool),f g = some r→Pure Tryz.prog tab p1F ([.agg [q8 g.Lo,q8 g.Hi]] ++ p1C) (.bool r)) (r : Int) (c : q8f b f = some r) : Pure Tryz.prog tab 171 [.sl 2 (b.map Qj),.fn p1F p1C] (q8 r):=by
 unfold q8f at c;refine Qq Tryz.func171 J qh qh J<|qc<|qb J<|qa<|qf<|qc<|U J<|Qz J<|U J<|qa<|q9 c fun j l c=>?_;refine Qv (fun h=>.inl h = j) (fun h=>⟨[],[],0⟩) qe ?_ ?_
 ·refine Qm (q2z b f) (fun k=>⟨[(0,.d (.sl 2 (b.map Qj))),(1,.d (.fn p1F p1C)),(7,q7 (b.length : Int)),(8,q7 k)],[],0⟩) 0 j l (wkA [] [] []) ?_;intro k q a;unfold q2z at a;refine qc<|O _ J<|qa<|qf ?_;refine qr J a (fun _ a=>?_) (fun _ a=>?_)
  ·refine qq<|qf<|Q5<|qc<|U J<|qb J<|qt<|U J<|U J<|U J<|q9 a fun m n a=>K2 n J<|O _ J<|q9 a fun o p a=>Yf _ (p1Ok m o p) J J J (.inl J)<|qa ?_;refine qr J a (fun _ a=>?_) (fun _ a=>?_)
   ·refine qc<|U J<|qb J<|qx ?_;refine ⟨_,qs a,fun hm=>?_⟩;subst hm;cases c;exact Q8 _ J
   refine qq<|Qd<|Qr<|Q0<|O _ J<|U J<|Q1<|⟨_,qs a,wkA [] [] []⟩
  refine Qb ?_;refine ⟨_,qs a,fun hm=>?_⟩;subst hm;exact ⟨_,J,wkA [] [] []⟩
 intro h hb;subst hb;refine qc<|qb J<|qx ?_;cases c;exact Q8 _ J
theorem qvj (b : List qj) (c : qj→Option Bool) (p1F : FuncId) (p1C : List DV) (p1Ok : ∀ (d : qj) (r : Bool),c d = some r→Pure Tryz.prog tab p1F ([.agg [q8 d.Lo,q8 d.Hi]] ++ p1C) (.bool r)) (r : Bool) (a : q8c b c = some r) : Pure Tryz.prog tab 158 [.sl 2 (b.map Qj),.fn p1F p1C] (.bool r):=by
 unfold q8c at a;refine Qq Tryz.func158 J qh qh J<|qc<|qb J<|qt<|U J<|U J<|q9 a fun f g a=>Q4 (qvs b c p1F p1C p1Ok f g) J<|O _ J<|qb J<|qx ?_;cases a;exact Q8 _ J
theorem qlt (d : qj) (r : Bool) (a : q36 d = some r) : Pure Tryz.prog tab 143 [.agg [q8 d.Lo,q8 d.Hi]] (.bool r):=by
 unfold q36 at a;refine Qq Tryz.func143 J qh qh J<|qc<|Qu _ _ J<|qb J<|qt<|O _ J<|O _ J<|O _ J<|O _ J<|O _ J<|q9 a fun o b a=>?_;refine Qi 5 (fun A st=>∃ f g h j,st = A [(12,qw o),(11,j),(10,h),(9,g),(8,f)]) ?_ ?_
 ·refine Qg J J b (fun b=>?_) (fun b=>?_)
  ·refine O _ J<|O _ J<|O _ J<|O _ J<|qa ?_;cases b;exact ⟨_,_,_,_,J⟩
  refine qd J<|qd J<|qd J<|O _ J<|qa ?_;cases b;exact ⟨_,_,_,_,J⟩
 rintro _ ⟨f,g,h,j,rfl⟩;refine q9 a fun p c a=>?_;refine Qi 5 (fun A st=>∃ k l m n,st = A [(17,qw p),(16,n),(15,m),(14,l),(13,k)]) ?_ ?_
 ·refine Qg J J c (fun c=>?_) (fun c=>?_)
  ·refine O _ J<|O _ J<|O _ J<|O _ J<|qa ?_;cases c;exact ⟨_,_,_,_,J⟩
  refine qd J<|qd J<|qd J<|O _ J<|qa ?_;cases c;exact ⟨_,_,_,_,J⟩
 rintro _ ⟨k,l,m,n,rfl⟩;refine qb J<|qx ?_;cases a;exact Q8 _ J
theorem qyy (a : qj) (r : Bool) (b : qbv a = some r) : Pure Tryz.prog tab 159 [.agg [q8 a.Lo,q8 a.Hi]] (.bool r):=by
 unfold qbv at b;refine Qq Tryz.func159 J qh qh J<|qc<|Qu _ _ J<|qb J<|qt<|O _ J<|q9 b fun c d b=>Q4 (qlt a c d) J<|O _ J<|qb J<|qx ?_;cases b;exact Q8 _ J
theorem qz4 (a : qi) (b : qi) (r : Int) (c : q9g a b = some r) : Pure Tryz.prog tab 163 [.agg [q8 a.at_,q8 a.list_,q8 a.by_],.agg [q8 b.at_,q8 b.list_,q8 b.by_]] (q8 r):=by
 unfold q9g at c;refine Qq Tryz.func163 J qh qh J<|qc<|Qu _ _ J<|Qu _ _ J<|qb J<|qt<|O _ J<|O _ J<|O _ J<|O _ J<|O _ J<|qb J<|qx ?_;cases c;exact Q8 _ J
theorem qw1 (k : qi→qi→Option Int) (q1F : FuncId) (q1C : List DV) (q1Ok : ∀ (l : qi) (m : qi) (r : Int),k l m = some r→Pure Tryz.prog tab q1F ([.agg [q8 l.at_,q8 l.list_,q8 l.by_],.agg [q8 m.at_,q8 m.list_,q8 m.by_]] ++ q1C) (q8 r)) (n : List qi) (c : Int) (h : Int) (r : List qi) (o : q8m k n c h = some r) : K9 Tryz.prog tab 175 [.hs 0 3 0 n.length,q7 c,q7 h,.d (.fn q1F q1C)] [(0,.dat 3 (n.map Qf))] 1 (.d (.tup [])) [(0,.dat 3 (r.map Qf))] 1:=by
 unfold q8m at o;refine Kr Tryz.func175 J qh qh J<|qc<|U J<|O _ J<|qb J<|qa<|q9 o fun al am o=>Q5<|Qm (q8n h c k) (fun f=>⟨[(0,.hs 0 3 0 f.2.length),(1,q7 c),(2,q7 h),(3,.d (.fn q1F q1C)),(8,q7 f.1)],[(0,.dat 3 (f.2.map Qf))],1⟩) (w64 (c + 1),n) al am (wkA [] [] []) ?_;intro f az g;unfold q8n at g;refine qf<|qc<|U J<|U J<|O _ J<|qa ?_;refine qr J g (fun _ g=>?_) (fun _ g=>?_)
 ·refine qq<|qf<|q9 g fun an q g=>?_;refine Qv (fun j=>j = an) (fun j=>⟨[(0,.hs 0 3 0 j.length),(1,q7 c),(2,q7 h),(3,.d (.fn q1F q1C)),(8,q7 f.1)],[(0,.dat 3 (j.map Qf))],1⟩) qe ?_ ?_
  ·refine qc<|U J<|qb J<|qa<|q9 q fun ao ap q=>Q5<|Qm (q8o c k) (fun p=>⟨[(0,.hs 0 3 0 p.2.length),(1,q7 c),(2,q7 h),(3,.d (.fn q1F q1C)),(8,q7 f.1),(9,q7 p.1)],[(0,.dat 3 (p.2.map Qf))],1⟩) (f.1,f.2) ao ap (wkA [] [] []) ?_;intro p ba a;unfold q8o at a;refine qf<|qf<|Ql [q6,q6,q6,qu 0,q6,q6,q6,q6,qu 0,q6,q6,q6,q6,q6,q6,q6,q6] qh<|U J<|U J<|O _ J<|q9 a fun aq b a=>?_;refine Qi 14 (fun A st=>∃ s t u v w x y z aa ab ac ad ae,st = A [(34,qw aq),(33,ae),(32,ad),(31,ac),(30,ab),(29,aa),(28,z),(27,y),(26,x),(25,w),(24,v),(23,u),(22,t),(21,s)]) ?_ ?_
   ·refine Qg J J b (fun b=>?_) (fun b=>?_)
    ·refine U J<|U J<|U J<|q9 b fun ar af b=>qy af J J<|Q7 _ af J<|U J<|U J<|O _ J<|q9 b fun au ag b=>qy ag J J<|Q7 _ ag J<|q9 b fun av aw b=>Yf _ (q1Ok ar au av aw) J J J (.inl J)<|O _ J<|O _ J<|qa ?_;cases b;exact ⟨_,_,_,_,_,_,_,_,_,_,_,_,_,J⟩
    refine qd J<|qd J<|qd J<|qd J<|qd J<|qd J<|qd J<|qd J<|qd J<|qd J<|qd J<|qd J<|O _ J<|qa ?_;cases b;exact ⟨_,_,_,_,_,_,_,_,_,_,_,_,_,J⟩
   rintro _ ⟨s,t,u,v,w,x,y,z,aa,ab,ac,ad,ae,rfl⟩;refine qa ?_;refine qr J a (fun _ a=>?_) (fun _ a=>?_)
   ·refine qq<|qf<|Q5<|Ql [Qs 0,q6,Qs 0,q6,qu 0,q6,q6,q6,qu 0,q6,q6,q6,q6,q6,q6,q6,q6,q6] qh<|U J<|U J<|U J<|U J<|O _ J<|U J<|U J<|O _ J<|q9 a fun ax ah a=>qy ah J J<|Q7 _ ah J<|U J<|U J<|q9 a fun ay ai a=>qy ai J J<|Q7 _ ai J<|q9 a fun bb aj a=>qy aj J J<|K3 ax aj J J J J J J J J (leb J) J<|q9 a fun bc ak a=>qy ak qe J<|K3 ay ak J J J J J J J J (leb J) J<|Q1<|Qr<|Q0<|U J<|O _ J<|qb J<|Q1<|⟨_,qs a,wkE [] [] [] J ⟨⟨_,J,K7 qe J qo (ltd J)⟩,qp J,qp J,qp J,qp J,qp J,trivial⟩ ⟨Qn J J,trivial⟩⟩
   refine Qb ?_;refine ⟨_,qs a,fun hm=>?_⟩;subst hm;obtain rfl:=qv q;exact ⟨_,J,wkA [] [] []⟩
  intro j hb;subst hb;refine Q0<|U J<|O _ J<|qb J<|Q1<|⟨_,qs g,wkA [] [] []⟩
 refine Qb ?_;refine ⟨_,qs g,fun hm=>?_⟩;subst hm;obtain rfl:=qv o;exact ⟨.inl J,_,J,wkA [] [] []⟩
theorem ql9 (o : qi→qi→Option Int) (q1F : FuncId) (q1C : List DV) (q1Ok : ∀ (k : qi) (l : qi) (r : Int),o k l = some r→Pure Tryz.prog tab q1F ([.agg [q8 k.at_,q8 k.list_,q8 k.by_],.agg [q8 l.at_,q8 l.list_,q8 l.by_]] ++ q1C) (q8 r)) (m : List qi) (p : Int) (f : Int) (g : Int) (r : List qi) (h : q6b o m p f g = some r) : K9 Tryz.prog tab 183 [.hs 0 3 0 m.length,q7 p,q7 f,q7 g,.d (.fn q1F q1C)] [(0,.dat 3 (m.map Qf))] 1 (.d (.tup [])) [(0,.dat 3 (r.map Qf))] 1:=by
 unfold q6b at h;refine Kr Tryz.func183 J qh qh J<|qc<|U J<|qb J<|qa<|q9 h fun aq ar h=>Q5<|Qm (q96 f g o) (fun c=>⟨[(0,.hs 0 3 0 c.2.length),(2,q7 f),(3,q7 g),(4,.d (.fn q1F q1C)),(10,q7 c.1)],[(0,.dat 3 (c.2.map Qf))],1⟩) (p,m) aq ar (wkA [] [] []) ?_;intro c bg a;unfold q96 at a;refine Q5<|qc<|U J<|O _ J<|O _ J<|qb J<|qa<|qf<|qc<|U J<|U J<|O _ J<|qa ?_;refine qr J a (fun _ a=>?_) (fun _ a=>?_)
 ·refine Qb ?_;refine ⟨_,qs a,fun hm=>?_⟩;subst hm;obtain rfl:=qv h;exact ⟨.inl J,_,J,wkA [] [] []⟩
 refine qq<|qf<|qf<|Ql [q6,q6,q6,qu 0,q6,q6,q6,q6,q6,q6,qu 0,q6,q6,q6,q6,q6,q6,q6,q6,q6,q6,q6] qh<|U J<|O _ J<|U J<|O _ J<|q9 a fun au b a=>?_;refine Qi 18 (fun A st=>∃ q s t u v w x y z aa ab ac ad ae af ag ah,st = A [(40,qw au),(39,ah),(38,ag),(37,af),(36,ae),(35,ad),(34,ac),(33,ab),(32,aa),(31,z),(30,y),(29,x),(28,w),(27,v),(26,u),(25,t),(24,s),(23,q)]) ?_ ?_
 ·refine Qg J J b (fun b=>?_) (fun b=>?_)
  ·refine U J<|U J<|U J<|U J<|O _ J<|q9 b fun av ai b=>qy ai J J<|Q7 _ ai J<|U J<|U J<|U J<|O _ J<|O _ J<|q9 b fun aw aj b=>qy aj J J<|Q7 _ aj J<|q9 b fun ax ay b=>Yf _ (q1Ok av aw ax ay) J J J (.inl J)<|O _ J<|O _ J<|qa ?_;cases b;exact ⟨_,_,_,_,_,_,_,_,_,_,_,_,_,_,_,_,_,J⟩
  refine qd J<|qd J<|qd J<|qd J<|qd J<|qd J<|qd J<|qd J<|qd J<|qd J<|qd J<|qd J<|qd J<|qd J<|qd J<|qd J<|O _ J<|qa ?_;cases b;exact ⟨_,_,_,_,_,_,_,_,_,_,_,_,_,_,_,_,_,J⟩
 rintro _ ⟨q,s,t,u,v,w,x,y,z,aa,ab,ac,ad,ae,af,ag,ah,rfl⟩;refine qa<|q9 a fun az j a=>?_;refine Z6 (fun n=>n = az) (fun n=>⟨[(0,.hs 0 3 0 c.2.length),(2,q7 f),(3,q7 g),(4,.d (.fn q1F q1C)),(10,q7 c.1),(11,q7 n)],[(0,.dat 3 (c.2.map Qf))],1⟩) qe ?_ ?_
 ·refine qr J j (fun _ j=>?_) (fun _ j=>?_)
  ·refine Q0<|U J<|O _ J<|qb J<|Q1 ?_;obtain rfl:=qv j;exact ⟨_,J,wkA [] [] []⟩
  refine qq<|Qd ?_;obtain rfl:=qv j;exact ⟨_,J,wkA [] [] []⟩
 intro n hb;subst hb;refine qf<|qf<|Ql [q6,q6,q6,qu 0,q6,q6,q6,q6,q6,qu 0,q6,q6,q6,q6,q6,q6] qh<|U J<|U J<|U J<|U J<|O _ J<|q9 a fun ba ak a=>qy ak J J<|Q7 _ ak J<|U J<|U J<|U J<|O _ J<|q9 a fun bb al a=>qy al J J<|Q7 _ al J<|q9 a fun bc bd a=>Yf _ (q1Ok ba bb bc bd) J J J (.inl J)<|O _ J<|O _ J<|qa ?_;refine qr J a (fun _ a=>?_) (fun _ a=>?_)
 ·refine Uu ?_;refine ⟨_,qs a,fun hm=>?_⟩;subst hm;obtain rfl:=qv h;exact ⟨.inr J,_,J,wkA [] [] []⟩
 refine qq<|qf<|Ql [Qs 0,q6,Qs 0,q6,qu 0,q6,q6,q6,q6,q6,qu 0,q6,q6,q6,q6,q6,q6,q6,q6,q6,q6,q6,q6,q6] qh<|U J<|U J<|U J<|O _ J<|U J<|U J<|U J<|O _ J<|U J<|U J<|U J<|O _ J<|q9 a fun be am a=>qy am J J<|Q7 _ am J<|U J<|U J<|U J<|O _ J<|q9 a fun bf an a=>qy an J J<|Q7 _ an J<|q9 a fun bh ao a=>qy ao J J<|K3 be ao J J J J J J J J (leb J) J<|q9 a fun bi ap a=>qy ap qe J<|K3 bf ap J J J J J J J J (leb J) J<|qa<|Q0<|U J<|qb J<|Q1<|Qr<|Qd<|⟨_,qs a,wkE [] [] [] J ⟨⟨_,J,K7 qe J qo (ltd J)⟩,qp J,qp J,qp J,qp J,trivial⟩ ⟨Qn J J,trivial⟩⟩
theorem qvz (h : qi→qi→Option Int) (q1F : FuncId) (q1C : List DV) (q1Ok : ∀ (m : qi) (n : qi) (r : Int),h m n = some r→Pure Tryz.prog tab q1F ([.agg [q8 m.at_,q8 m.list_,q8 m.by_],.agg [q8 n.at_,q8 n.list_,q8 n.by_]] ++ q1C) (q8 r)) (o : List qi) (b : Int) (g : Int) (r : List qi) (j : q8j h o b g = some r) : K9 Tryz.prog tab 176 [.hs 0 3 0 o.length,q7 b,q7 g,.d (.fn q1F q1C)] [(0,.dat 3 (o.map Qf))] 1 (.d (.tup [])) [(0,.dat 3 (r.map Qf))] 1:=by
 unfold q8j at j;refine Kr Tryz.func176 J qh qh J<|qc<|U J<|qb J<|qt<|qb J<|qt<|U J<|U J<|O _ J<|qb J<|qa<|qf<|qc<|U J<|O _ J<|O _ J<|qb J<|qa<|q9 j fun q z j=>?_;refine Qv (fun k=>k = q) (fun k=>⟨[(0,.hs 0 3 0 k.length),(3,.d (.fn q1F q1C)),(8,q7 b),(9,q7 0),(10,.d (q8 (w64 (g - b))))],[(0,.dat 3 (k.map Qf))],1⟩) qe ?_ ?_
 ·refine Qm (q8k h g b) (fun l=>⟨[(0,.hs 0 3 0 l.2.length),(3,.d (.fn q1F q1C)),(8,q7 b),(9,q7 0),(10,.d (q8 (w64 (g - b)))),(11,q7 l.1)],[(0,.dat 3 (l.2.map Qf))],1⟩) (w64 (Int.tdiv (w64 ((w64 (g - b)) - 1)) 2),o) q z (wkA [] [] []) ?_;intro l ai c;unfold q8k at c;refine qf<|qc<|U J<|O _ J<|qa ?_;refine qr J c (fun _ c=>?_) (fun _ c=>?_)
  ·refine qq<|qf<|Q5<|Q0<|U J<|U J<|U J<|U J<|U J<|q9 c fun s aa c=>q9 c fun aj ab c=>?_;have ac:=Kn ab;refine Ka [(0,0)] [(0,0)] _ (.d (.tup [])) 1 [(0,.dat 3 (s.map Qf))] 1 (ql9 h q1F q1C q1Ok l.2 l.1 (w64 (g - b)) b s aa)<|Q1<|Qr<|Q0<|U J<|O _ J<|qb J<|Q1<|⟨_,qs c,wkE [] [] [] J ⟨⟨_,J,K7 (by simp [ac]) J qo (ltd J)⟩,qp J,qp J,qp J,qp J,qp J,trivial⟩ ⟨Qn J J,trivial⟩⟩
  refine Qb ?_;refine ⟨_,qs c,fun hm=>?_⟩;subst hm;exact ⟨_,J,wkA [] [] []⟩
 intro k hb;subst hb;refine qc<|U J<|O _ J<|qb J<|qa<|q9 j fun ad ae j=>Q5<|Qm (q8l b h) (fun f=>⟨[(0,.hs 0 3 0 f.2.length),(3,.d (.fn q1F q1C)),(8,q7 b),(9,q7 0),(12,q7 f.1)],[(0,.dat 3 (f.2.map Qf))],1⟩) (w64 ((w64 (g - b)) - 1),k) ad ae (wkA [] [] []) ?_;intro f ak a;unfold q8l at a;refine qf<|qc<|U J<|O _ J<|qa ?_;refine qr J a (fun _ a=>?_) (fun _ a=>?_)
 ·refine qq<|qf<|Q5<|qf<|Ql [Qs 0,q6,Qs 0,q6,qu 0,q6,q6,q6,qu 0,q6,q6,q6,q6,q6,q6,q6,q6,q6,q6,q6] qh<|U J<|U J<|U J<|U J<|U J<|O _ J<|U J<|U J<|U J<|O _ J<|q9 a fun t u a=>qy u J J<|Q7 _ u J<|U J<|U J<|q9 a fun v w a=>qy w J J<|Q7 _ w J<|q9 a fun al x a=>qy x J J<|K3 t x J J J J J J J J (leb J) J<|q9 a fun am y a=>qy y qe J<|K3 v y J J J J J J J J (leb J) J<|qa<|Q0<|U J<|U J<|U J<|U J<|U J<|q9 a fun p af a=>q9 a fun an ag a=>?_;have ah:=Kn ag;refine Jy [(0,0)] [(0,0)] [.hs 0 3 0 f.2.length,q7 0,q7 f.1,q7 b,.d (.fn q1F q1C)] (.d (.tup [])) [(0,.dat 3 (p.map Qf))] [(0,.dat 3 (p.map Qf))] 1 (ql9 h q1F q1C q1Ok ((f.2.set b.toNat t).set (w64 (b + f.1)).toNat v) 0 f.1 b p af) J J J (Yh [(0,0)] [] [] J ⟨⟨_,J,K7 qe J qo (ltd J)⟩,qp J,qp J,qp J,qp J,trivial⟩ ⟨Qn J J,trivial⟩) (Yh [(0,0)] [] [] J ⟨qp J,trivial⟩ ⟨Qn J J,trivial⟩) J ⟨.inl J,trivial⟩<|Q1<|Qr<|Q0<|U J<|O _ J<|qb J<|Q1<|⟨_,qs a,wkE [] [] [] J ⟨⟨_,J,K7 (by simp [ah]) J qo (ltd J)⟩,qp J,qp J,qp J,qp J,trivial⟩ ⟨Qn J J,trivial⟩⟩
 refine Qb ?_;refine ⟨_,qs a,fun hm=>?_⟩;subst hm;obtain rfl:=qv j;exact ⟨.inl J,_,J,wkA [] [] []⟩
theorem qf7 (f : qi→qi→Option Int) (q1F : FuncId) (q1C : List DV) (q1Ok : ∀ (b : qi) (c : qi) (r : Int),f b c = some r→Pure Tryz.prog tab q1F ([.agg [q8 b.at_,q8 b.list_,q8 b.by_],.agg [q8 c.at_,q8 c.list_,q8 c.by_]] ++ q1C) (q8 r)) (g : List qi) (h : Int) (j : Int) (k : Int) (r : Int × Int × Int) (a : q3t f g h j k = some r) : K9 Tryz.prog tab 186 [.d (.sl 3 (g.map Qf)),q7 h,q7 j,.ref 0 1 0 0,.d (.fn q1F q1C)] [(0,.dat 1 [[q8 k]])] 1 (.d (.tup [q8 r.1,q8 r.2.1])) [(0,.dat 1 [[q8 r.2.2]])] 1:=by
 unfold q3t at a;refine Kr Tryz.func186 J qh qh J<|qc<|qb J<|qb J<|qa<|qf<|qf<|Ql [q6,q6,q6,q6,q6,q6,q6,q6,q6,q6,q6] qh<|U J<|U J<|U J<|q9 a fun l m a=>K2 m J<|O _ J<|U J<|U J<|q9 a fun n o a=>K2 o J<|O _ J<|q9 a fun p q a=>Yf _ (q1Ok l n p q) J J J (.inl J)<|O _ J<|qa ?_;refine qr J a (fun _ a=>?_) (fun _ a=>?_)
 ·refine qc<|U J<|O _ J<|O _ J<|O _ J<|O _ J<|Qc 0 _ J<|qt<|U J<|U J<|qb J<|qb J<|qx ?_;obtain rfl:=qv a;exact ⟨.inr J,_,J,wkA [] [] []⟩
 refine qq<|qc<|U J<|U J<|qb J<|qb J<|qx ?_;obtain rfl:=qv a;exact ⟨.inr J,_,J,wkA [] [] []⟩
theorem ql6 (f : qi→qi→Option Int) (q1F : FuncId) (q1C : List DV) (q1Ok : ∀ (h : qi) (j : qi) (r : Int),f h j = some r→Pure Tryz.prog tab q1F ([.agg [q8 h.at_,q8 h.list_,q8 h.by_],.agg [q8 j.at_,q8 j.list_,q8 j.by_]] ++ q1C) (q8 r)) (g : List qi) (l : Int) (m : Int) (n : Int) (o : Int) (r : Int × Int) (a : q5r f g l m n o = some r) : K9 Tryz.prog tab 185 [.d (.sl 3 (g.map Qf)),q7 l,q7 m,q7 n,.ref 0 1 0 0,.d (.fn q1F q1C)] [(0,.dat 1 [[q8 o]])] 1 (q7 r.1) [(0,.dat 1 [[q8 r.2]])] 1:=by
 unfold q5r at a;refine Kr Tryz.func185 J qh qh J<|qc<|qb J<|qt<|U J<|U J<|U J<|U J<|U J<|q9 a fun b p a=>Ka [(0,0)] [(0,0)] _ (.d (.tup [q8 b.1,q8 b.2.1])) 1 [(0,.dat 1 [[q8 b.2.2]])] 1 (qf7 f q1F q1C q1Ok g l m o b p)<|U J<|O _ J<|O _ J<|qb J<|qb J<|qt<|U J<|U J<|U J<|U J<|U J<|q9 a fun c q a=>Ka [(0,0)] [(0,0)] _ (.d (.tup [q8 c.1,q8 c.2.1])) 1 [(0,.dat 1 [[q8 c.2.2]])] 1 (qf7 f q1F q1C q1Ok g b.2.1 n b.2.2 c q)<|U J<|O _ J<|O _ J<|qb J<|qb J<|qt<|U J<|U J<|U J<|U J<|U J<|q9 a fun k s a=>Ka [(0,0)] [(0,0)] _ (.d (.tup [q8 k.1,q8 k.2.1])) 1 [(0,.dat 1 [[q8 k.2.2]])] 1 (qf7 f q1F q1C q1Ok g b.1 c.1 c.2.2 k s)<|U J<|O _ J<|O _ J ?_;refine qb J<|qb J<|qt<|U J<|qb J<|qx ?_;obtain rfl:=qv a;exact ⟨.inr J,_,J,wkA [] [] []⟩
theorem qf5 (g : qi→qi→Option Int) (q1F : FuncId) (q1C : List DV) (q1Ok : ∀ (b : qi) (c : qi) (r : Int),g b c = some r→Pure Tryz.prog tab q1F ([.agg [q8 b.at_,q8 b.list_,q8 b.by_],.agg [q8 c.at_,q8 c.list_,q8 c.by_]] ++ q1C) (q8 r)) (h : List qi) (a : Int) (j : Int) (r : Int × Int) (f : q3r g h a j = some r) : K9 Tryz.prog tab 184 [.d (.sl 3 (h.map Qf)),q7 a,.ref 0 1 0 0,.d (.fn q1F q1C)] [(0,.dat 1 [[q8 j]])] 1 (q7 r.1) [(0,.dat 1 [[q8 r.2]])] 1:=by
 unfold q3r at f;refine Kr Tryz.func184 J qh qh J<|qc<|qb J<|qt<|U J<|U J<|O _ J<|U J<|U J<|O _ J<|U J<|U J<|q9 f fun k l f=>Ka [(0,0)] [(0,0)] _ (q7 k.1) 1 [(0,.dat 1 [[q8 k.2]])] 1 (ql6 g q1F q1C q1Ok h (w64 (a - 1)) a (w64 (a + 1)) j k l)<|qb J<|qx ?_;obtain rfl:=qv f;exact ⟨.inr J,_,J,wkA [] [] []⟩
end Go.Proofs.YtbknppciefodiaaGreat
