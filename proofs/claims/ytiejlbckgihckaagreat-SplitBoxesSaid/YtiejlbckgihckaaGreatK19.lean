/- W_All -/
import Derived.Test.YtiejlbckgihckaaGreatK18
namespace Go.Proofs.YtiejlbckgihckaaGreat
open Go Go.Am Go.Sh
set_option maxHeartbeats 8000000
set_option maxRecDepth 100000
theorem qqg (a : qm × qm × qm) (r : Int) (c : q7v a = some r) : Pure Tryz.prog tab 124 [.agg [qb a.1.X,qb a.1.Y,qb a.1.Z,qb a.2.1.X,qb a.2.1.Y,qb a.2.1.Z,qb a.2.2.X,qb a.2.2.Y,qb a.2.2.Z]] (.int .u8 r):=by
 unfold q7v at c;refine Qn Tryz.func124 J qg qg J<|qc<|Qq _ _ J<|qa J<|q9<|qf<|qc<|U J<|q9<|q8 c fun h j c=>?_;refine Qt (fun f=>.inl f = h) (fun f=>⟨[],[],0⟩) qe ?_ ?_
 ·refine Qo (q50 a) (fun g=>⟨[(1,.ref 0 9 0 0),(4,.d (.int .u8 g))],[(0,.dat 9 [[qb a.1.X,qb a.1.Y,qb a.1.Z,qb a.2.1.X,qb a.2.1.Y,qb a.2.1.Z,qb a.2.2.X,qb a.2.2.Y,qb a.2.2.Z]])],1⟩) _ h j (wkA [(0,0)] [] []) ?_;intro g m b;unfold q50 at b;refine qc<|O _ J<|q9<|qf ?_;refine qo J b (fun _ b=>?_) (fun _ b=>?_)
  ·refine ql<|qf<|Q4<|qc<|U J<|qa J<|q9<|qf<|Qj [q6,qv 0,q6,q6] qg<|U J<|q8 b fun k l b=>Qd (qax g k l) J<|O _ J<|O _ J<|q9 ?_;refine qo J b (fun _ b=>?_) (fun _ b=>?_)
   ·refine qc<|U J<|qa J<|qq ?_;refine ⟨_,qr b,fun hm=>?_⟩;subst hm;cases c;exact Q6 _ J
   refine ql<|Qh<|Qm<|Q0<|O _ J<|U J<|qz<|⟨_,qr b,wkA [(0,0)] [] []⟩
  refine Qf ?_;refine ⟨_,qr b,fun hm=>?_⟩;subst hm;exact ⟨_,J,wkA [] [] []⟩
 intro f hb;subst hb;refine qc<|qa J<|qq ?_;cases c;exact Q6 _ J
theorem qqh (a : Ki) (b : Ki) (r : Ki) (c : q7w a b = some r) : Pure Tryz.prog tab 101 [.agg [.int .u8 a.Turn,qb a.At.X,qb a.At.Y,qb a.At.Z],.agg [.int .u8 b.Turn,qb b.At.X,qb b.At.Y,qb b.At.Z]] (.agg [.int .u8 r.Turn,qb r.At.X,qb r.At.Y,qb r.At.Z]):=by
 unfold q7w at c;refine Qn Tryz.func101 J qg qg J<|qc<|Qq _ _ J<|Qq _ _ J<|Qs J J<|q9<|qf<|Qj [Qp 4,Qp 3,(some [],[4]),(some [],[3]),q6,qv 1,q6,q6,qv 0,q6] qg<|O _ J<|O _ J<|q8 c fun q s c=>Qd (qax a.Turn q s) J<|O _ J<|O _ J<|q8 c fun f t c=>Qd (qax b.Turn f t) J<|Qs J J<|Qs J J<|Q7 3 _ J<|Q7 4 _ J<|q9<|qf<|qc<|U J<|q9<|q8 c fun m u c=>?_;refine Qt (fun j=>j = m) (fun j=>⟨[(2,.ref 0 4 0 0),(3,.ref 1 4 0 0),(4,.ref 2 4 0 0),(5,.ref 3 9 0 0)],[(0,.dat 4 [[.int .u8 a.Turn,qb a.At.X,qb a.At.Y,qb a.At.Z]]),(1,.dat 4 [[.int .u8 b.Turn,qb b.At.X,qb b.At.Y,qb b.At.Z]]),(2,.dat 4 [[.int .u8 0,qb 0,qb 0,qb 0]]),(3,.dat 9 [j.flatMap Y6])],4⟩) qe ?_ ?_
 ·refine Qo (q26 f) (fun l=>⟨[(2,.ref 0 4 0 0),(3,.ref 1 4 0 0),(4,.ref 2 4 0 0),(5,.ref 3 9 0 0),(6,.ref 4 9 0 0),(14,q7 l.1)],[(0,.dat 4 [[.int .u8 a.Turn,qb a.At.X,qb a.At.Y,qb a.At.Z]]),(1,.dat 4 [[.int .u8 b.Turn,qb b.At.X,qb b.At.Y,qb b.At.Z]]),(2,.dat 4 [[.int .u8 0,qb 0,qb 0,qb 0]]),(3,.dat 9 [l.2.flatMap Y6]),(4,.dat 9 [[qb f.1.X,qb f.1.Y,qb f.1.Z,qb f.2.1.X,qb f.2.1.Y,qb f.2.1.Z,qb f.2.2.X,qb f.2.2.Y,qb f.2.2.Z]])],5⟩) _ m u (wkA [(0,0),(1,1),(2,2),(3,3),(4,4)] [] []) ?_;intro l ab g;unfold q26 at g;refine qc<|O _ J<|q9<|qf ?_;refine qo J g (fun _ g=>?_) (fun _ g=>?_)
  ·refine ql<|qf<|Q4<|qc<|U J<|qa J<|q9<|Qj [Qp 3,q6,q6,qv 3,q6,q6,qv 4,q6] qg<|U J<|O _ J<|U J<|q8 g fun k n g=>q2l n J J J J J<|q85 (enc:=Y6) (.d (.agg [qb k.X,qb k.Y,qb k.Z])) n (fun _=>rfl) J J J J J J<|q8 g fun o v g=>Qd (qiq f k o v) J<|q8 g fun ac p g=>q2l p J J J J J<|qf6 (enc:=Y6) o p (fun _=>rfl) J J J J J J J J<|qz<|Qm<|Q0<|O _ J<|U J<|qz<|⟨_,qr g,wkA [(0,0),(1,1),(2,2),(3,3),(4,4)] [] []⟩
  refine Qf ?_;refine ⟨_,qr g,fun hm=>?_⟩;subst hm;exact ⟨_,J,wkA [(0,0),(1,1),(2,2),(3,3)] [] []⟩
 intro j hb;subst hb;refine qf<|Qj [Qp 2,q6,q6,qv 0,q6,qv 1,q6,qv 3] qg<|q8 c fun h w c=>qk9 (enc:=Y6) (.d (.agg [qb h.1.X,qb h.1.Y,qb h.1.Z,qb h.2.1.X,qb h.2.1.Y,qb h.2.1.Z,qb h.2.2.X,qb h.2.2.Y,qb h.2.2.Z])) (qnm w) J J J J J J<|q8 c fun x y c=>Qd (qqg h x y) J<|O _ J<|O _ J<|O _ J<|q8 c fun z aa c=>Qd (qip b a.At z aa) J<|O _ J<|Q7 2 _ J<|qq ?_;cases c;exact Q6 _ J
theorem qqe (b : Ki) (c : Ki) (r : Ki × Int) (a : q7u b c = some r) : Pure Tryz.prog tab 73 [.agg [.int .u8 b.Turn,qb b.At.X,qb b.At.Y,qb b.At.Z],.agg [.int .u8 c.Turn,qb c.At.X,qb c.At.Y,qb c.At.Z]] (.tup [.agg [.int .u8 r.1.Turn,qb r.1.At.X,qb r.1.At.Y,qb r.1.At.Z],qb r.2]):=by
 unfold q7u at a;refine Qn Tryz.func73 J qg qg J<|qc<|Qq _ _ J<|Qq _ _ J<|Qs J J<|qa J<|q9<|qf<|qc<|O _ J<|q8 a fun f g a=>Qd (q7t b f g) J<|qa J<|qu<|U J<|O _ J<|q9 ?_;refine qo J a (fun _ a=>?_) (fun _ a=>?_)
 ·refine qc<|O _ J<|U J<|Q7 2 _ J<|qa J<|qq ?_;cases a;exact Q6 _ J
 refine ql<|qf<|qc<|O _ J<|q8 a fun h j a=>Qd (q7t c h j) J<|qa J<|qu<|U J<|O _ J<|q9 ?_;refine qo J a (fun _ a=>?_) (fun _ a=>?_)
 ·refine qc<|O _ J<|U J<|Q7 2 _ J<|qa J<|qq ?_;cases a;exact Q6 _ J
 refine ql<|qc<|O _ J<|O _ J<|q8 a fun d k a=>Qd (qqh b c d k) J<|Qs J J<|Q7 3 _ J<|q9<|qf<|qc<|O _ J<|q8 a fun l m a=>Qd (q7t d l m) J<|O _ J<|q9 ?_;refine qo J a (fun _ a=>?_) (fun _ a=>?_)
 ·refine qc<|O _ J<|Q7 2 _ J<|qa J<|qq ?_;cases a;exact Q6 _ J
 refine ql<|qc<|O _ J<|Q7 2 _ J<|qa J<|qq ?_;cases a;exact Q6 _ J
theorem qil (c : Kb) (d : qm) (g : qm) (f : Int) (r : Kb × Int) (a : q23 c d g f = some r) : Pure Tryz.prog tab 49 [.agg (J3 c),.agg (Y6 d),.agg (Y6 g),.int .u8 f] (.tup [.agg (J3 r.1),qb r.2]):=by
 unfold q23 at a;refine Qn Tryz.func49 J qg qg J<|qc<|Qq _ _ J<|Qq _ _ J<|Qq _ _ J<|Qs J J<|qa J<|q9<|qf<|qc<|O _ J<|q8 a fun m n a=>Qd (qim c m n) J<|qa J<|qu<|U J<|O _ J<|q9 ?_;refine qo J a (fun _ a=>?_) (fun _ a=>?_)
 ·refine qc<|O _ J<|U J<|Q7 3 _ J<|qa J<|qq ?_;cases a;exact Q6 _ J
 refine ql<|qc<|U J<|O _ J<|O _ J<|Qs J J<|Q7 4 _ J<|q9<|qf<|qc<|O _ J<|q8 a fun o p a=>Qd (q7t ({Turn:=f,At:=d} : Ki) o p) J<|O _ J<|q8 a fun q b a=>?_;refine Qg 5 (fun A st=>∃ h j k l,st = A [(29,Q3 q),(28,l),(27,k),(26,j),(25,h)]) ?_ ?_
 ·refine Qe J J b (fun b=>?_) (fun b=>?_)
  ·refine qd J<|qd J<|qd J<|O _ J<|q9 ?_;cases b;exact ⟨_,_,_,_,J⟩
  refine O _ J<|q8 b fun s t b=>Qd (qaz g 0 s t) J<|O _ J<|O _ J<|q9 ?_;cases b;exact ⟨_,_,_,_,J⟩
 rintro _ ⟨h,j,k,l,rfl⟩;refine q9 ?_;refine qo J a (fun _ a=>?_) (fun _ a=>?_)
 ·refine qc<|O _ J<|Q7 3 _ J<|qa J<|qq ?_;cases a;exact Q6 _ J
 refine ql<|qc<|O _ J<|O _ J<|O _ J<|q8 a fun u v a=>Qd (qqe ({Turn:=f,At:=d} : Ki) c.Frame u v) J<|U J<|O _ J<|O _ J<|Q7 4 _ J<|qa J<|q9<|qf<|qc<|U J<|O _ J<|q9 ?_;refine qo J a (fun _ a=>?_) (fun _ a=>?_)
 ·refine qc<|O _ J<|U J<|Q7 3 _ J<|qa J<|qq ?_;cases a;exact Q6 _ J
 refine ql<|qc<|O _ J<|O _ J<|O _ J<|Q7 3 _ J<|qa J<|qq ?_;cases a;exact Q6 _ J
theorem qml (d : qm) (f : Int) (g : Int) (r : qm) (c : q78 d f g = some r) : Pure Tryz.prog tab 50 [.agg (Y6 d),qb f,qb g] (.agg (Y6 r)):=by
 unfold q78 at c;refine Qn Tryz.func50 J qg qg J<|qc<|Qq _ _ J<|Qs J J<|q9<|qf<|qc<|U J<|q9<|q8 c fun h a c=>?_;refine Qt (fun b=>b = h) (fun b=>⟨[(3,.ref 0 3 0 0),(6,.ref 1 3 0 0)],[(0,.dat 3 [[qb b.1,qb b.2.1,qb b.2.2]]),(1,.dat 3 [[qb 0,qb 0,qb 0]])],2⟩) qe ?_ ?_
 ·refine qc<|O _ J<|qa J<|q9 ?_;refine qo J a (fun _ a=>?_) (fun _ a=>?_)
  ·refine Q0<|U J<|O _ J<|Q7 0 _ J<|qz ?_;obtain rfl:=qt a;exact ⟨_,J,wkA [(0,0),(1,1)] [] []⟩
  refine qc<|O _ J<|qa J<|q9 ?_;refine qo J a (fun _ a=>?_) (fun _ a=>?_)
  ·refine Q0<|U J<|O _ J<|Q7 0 _ J<|qz ?_;obtain rfl:=qt a;exact ⟨_,J,wkA [(0,0),(1,1)] [] []⟩
  refine Q0<|U J<|O _ J<|Q7 0 _ J<|qz ?_;obtain rfl:=qt a;exact ⟨_,J,wkA [(0,0),(1,1)] [] []⟩
 intro b hb;subst hb;refine qc<|O _ J<|Q7 1 _ J<|qq ?_;cases c;exact Q6 _ J
theorem q10l (c : Kb) (h : Int) (j : List Int) (r : List Kb × Int) (a : q4m c h j = some r) : Pure Tryz.prog tab 23 [.agg (J3 c),qb h,.sl 1 (j.map (eI .i64))] (.tup [.sl 7 (r.1.map J3),qb r.2]):=by
 unfold q4m at a;refine Qn Tryz.func23 J qg qg J<|qc<|Qq _ _ J<|qa J<|qa J<|qu<|O _ J<|O _ J<|O _ J<|q8 a fun f h2 a=>Qd (qil c ({X:=0,Y:=0,Z:=0} : qm) ({X:=0,Y:=0,Z:=0} : qm) 0 f h2) J<|U J<|O _ J<|O _ J<|Qs J J<|Q7 1 _ J<|qa J<|qu<|O _ J<|O _ J<|Qs J J<|Q7 2 _ J<|q9<|qf<|qc<|U J<|O _ J<|q8 a fun c3 k a=>?_;refine Qg 10 (fun A st=>∃ p q s t u v w x y,st = A [(37,Q3 c3),(36,y),(35,x),(34,w),(33,v),(32,u),(31,t),(30,s),(29,q),(28,p)]) ?_ ?_
 ·refine Qe J J k (fun k=>?_) (fun k=>?_)
  ·refine qd J<|qd J<|qd J<|qd J<|qd J<|qd J<|qd J<|qd J<|O _ J<|q9 ?_;cases k;exact ⟨_,_,_,_,_,_,_,_,_,J⟩
  refine O _ J<|O _ J<|O _ J<|O _ J<|O _ J<|O _ J<|q5e (r:=min (min c.Size.X c.Size.Y) c.Size.Z) J J (by simp only [q59];rfl)<|O _ J<|O _ J<|q9 ?_;cases k;exact ⟨_,_,_,_,_,_,_,_,_,J⟩
 rintro _ ⟨p,q,s,t,u,v,w,x,y,rfl⟩;refine q8 a fun aq l a=>?_;refine Qg 10 (fun A st=>∃ z aa ab ac ad ae af ag ah,st = A [(47,Q3 aq),(46,ah),(45,ag),(44,af),(43,ae),(42,ad),(41,ac),(40,ab),(39,aa),(38,z)]) ?_ ?_
 ·refine Qe J J l (fun l=>?_) (fun l=>?_)
  ·refine qd J<|qd J<|qd J<|qd J<|qd J<|qd J<|qd J<|qd J<|O _ J<|q9 ?_;cases l;exact ⟨_,_,_,_,_,_,_,_,_,J⟩
  refine O _ J<|O _ J<|O _ J<|O _ J<|O _ J<|O _ J<|q3q (r:=max (max c.Size.X c.Size.Y) c.Size.Z) J J (by simp only [q3p];rfl)<|O _ J<|O _ J<|q9 ?_;cases l;exact ⟨_,_,_,_,_,_,_,_,_,J⟩
 rintro _ ⟨z,aa,ab,ac,ad,ae,af,ag,ah,rfl⟩;refine q9 ?_;refine qo J a (fun _ a=>?_) (fun _ a=>?_)
 ·refine qc<|qa J<|qa J<|qq ?_;obtain rfl:=qt a;exact finD (.inr J) J J (Y4 (.cons (.nil _) (.cons (.refl _) .nil)))
 refine ql<|qf<|qc<|U J<|O _ J<|q8 a fun ar m a=>?_;refine Qg 4 (fun A st=>∃ ai aj ak,st = A [(53,Q3 ar),(52,ak),(51,aj),(50,ai)]) ?_ ?_
 ·refine Qe J J m (fun m=>?_) (fun m=>?_)
  ·refine qd J<|qd J<|O _ J<|q9 ?_;cases m;exact ⟨_,_,_,J⟩
  refine U J<|O _ J<|O _ J<|q9 ?_;cases m;exact ⟨_,_,_,J⟩
 rintro _ ⟨ai,aj,ak,rfl⟩;refine q9 ?_;refine qo J a (fun _ a=>?_) (fun _ a=>?_)
 ·refine qc<|qa J<|qa J<|qq ?_;obtain rfl:=qt a;exact finD (.inr J) J J (Y4 (.cons (.nil _) (.cons (.refl _) .nil)))
 refine ql<|qc<|U J<|q8 a fun o au a=>Qd (qmj j o au) J<|U J<|O _ J<|O _ J<|qa J<|qa J<|q9<|qf<|qc<|U J<|O _ J<|q9 ?_;refine qo J a (fun _ a=>?_) (fun _ a=>?_)
 ·refine qc<|U J<|qa J<|qa J<|qq ?_;obtain rfl:=qt a;exact finD (.inr J) J J (Y4 (.cons (.nil _) (.cons (.refl _) .nil)))
 refine ql<|qf<|qf<|Qj [q6,q6,q6,q6,qv 2,q6,qv 2,q6,qv 2,q6,q6,q6,q6,q6,q6] qg<|U J<|U J<|Qz J<|q8 a fun bi av a=>K1 av J<|O _ J<|O _ J<|O _ J<|O _ J<|O _ J<|O _ J<|O _ J<|O _ J<|U J<|q8 a fun aw ax a=>qk8 (enc:=(eI .i64)) [c.Size.X,c.Size.Y,c.Size.Z] (q7 aw) ax (fun _=>rfl) J J J J J J<|O _ J<|q9 ?_;refine qo J a (fun _ a=>?_) (fun _ a=>?_)
 ·refine qc<|qa J<|qa J<|qq ?_;obtain rfl:=qt a;exact finD (.inr J) J J (Y4 (.cons (.nil _) (.cons (.refl _) .nil)))
 refine ql<|qc<|qa J<|q9<|qf<|qc<|U J<|Qz J<|U J<|q9<|q8 a fun al ay a=>?_;refine Qt (fun n=>.inl n = al) (fun n=>⟨[(12,.hs 0 7 0 n.length)],[(0,.dat 7 (n.map J3))],1⟩) qe ?_ ?_
 ·refine Qo (Ud j o h c f) (fun g=>⟨[(1,q7 h),(8,.ref 0 7 0 0),(10,.ref 1 3 0 0),(11,.d (.sl 1 (o.1.map (eI .i64)))),(12,.hs 2 7 0 g.2.2.2.2.length),(77,.d (.sl 1 (j.map (eI .i64)))),(78,q7 (j.length : Int)),(79,q7 g.1)],[(0,.dat 7 [[.int .u8 f.1.Frame.Turn,qb f.1.Frame.At.X,qb f.1.Frame.At.Y,qb f.1.Frame.At.Z,qb g.2.1,qb g.2.2.1,qb g.2.2.2.1]]),(1,.dat 3 [(Y6 c.Size)]),(2,.dat 7 (g.2.2.2.2.map J3))],3⟩) _ al ay (wkA [(0,1),(1,2)] [] [2]) ?_;intro g bj b;unfold Ud at b;refine qc<|O _ J<|q9<|qf ?_;refine qo J b (fun _ b=>?_) (fun _ b=>?_)
  ·refine ql<|qf<|Q4<|qc<|U J<|q8 b fun az ba b=>K1 ba J<|O _ J<|qa J<|qa J<|qu<|O _ J<|O _ J<|Q7 0 _ J<|q9<|qf<|Qj [q6,Qp 3,(some [],[3]),q6,q6,q6,q6,q6,q6,q6,qv 1,q6,q6,q6,q6,q6,q6,q6,qv 0] qg<|O _ J<|O _ J<|U J<|U J<|U J<|q8 b fun bb bc b=>K1 bc J<|O _ J<|q8 b fun am bd b=>Qd (qml ({X:=0,Y:=0,Z:=0} : qm) h bb am bd) J<|O _ J<|U J<|U J<|q8 b fun an be b=>Qd (qml c.Size h az an be) J<|q8 b fun bf bg b=>Qd (qil ({Frame:=f.1.Frame,Size:=c.Size} : Kb) am an 0 bf bg) J<|U J<|O _ J<|O _ J<|Qs J J<|Q7 3 _ J<|qa J ?_;refine q9<|qf<|qc<|U J<|O _ J<|q9 ?_;refine qo J b (fun _ b=>?_) (fun _ b=>?_)
   ·refine qc<|U J<|qa J<|qa J<|qq ?_;refine ⟨_,qr b,fun hm=>?_⟩;subst hm;obtain rfl:=qt a;exact finD (.inr J) J J (Y4 (.cons (.nil _) (.cons (.refl _) .nil)))
   refine ql<|Q0<|U J<|O _ J<|Qq _ _ J<|q8 b fun bk bh b=>Yz _ bh J J J J J J J (Yy J J) J J J J<|qa J<|qz<|Qm<|Q0<|O _ J<|U J<|qz<|⟨_,qr b,wkA [(0,0),(1,1),(2,5)] [] []⟩
  refine Qf ?_;refine ⟨_,qr b,fun hm=>?_⟩;subst hm;exact ⟨_,J,wkA [(0,2)] [] []⟩
 intro n hb;subst hb;refine qc<|U J<|qa J<|qa J<|qq ?_;obtain rfl:=qt a;exact finD (.inr J) J (q32 (Zu (Zk J J) (Zu J J))) (.refl _)
theorem q120 (l : Kb) (p1 : Int) (j : List Int) (r : Bool) (a : qb6 l p1 j = some r) : Pure Tryz.prog tab 5 [.agg (J3 l),qb p1,.sl 1 (j.map (eI .i64))] (.bool r):=by
 unfold qb6 at a;refine Qn Tryz.func5 J qg qg J<|qc<|Qq _ _ J<|qa J<|qu<|q8 a fun z h2 a=>Qd (qra z h2) J<|qa J<|q9<|qf<|qc<|O _ J<|q8 a fun r3 h4 a=>Qd (qtz l r3 h4) J<|O _ J<|q8 a fun c5 m a=>?_;refine Qg 4 (fun A st=>∃ j7 j8 j9,st = A [(26,Q3 c5),(25,j9),(24,j8),(23,j7)]) ?_ ?_
 ·refine Qe J J m (fun m=>?_) (fun m=>?_)
  ·refine qd J<|qd J<|O _ J<|q9 ?_;cases m;exact ⟨_,_,_,J⟩
  refine U J<|O _ J<|O _ J<|q9 ?_;cases m;exact ⟨_,_,_,J⟩
 rintro _ ⟨j7,j8,j9,rfl⟩;refine q8 a fun ch n a=>?_;refine Qg 4 (fun A st=>∃ af ag ah,st = A [(30,Q3 ch),(29,ah),(28,ag),(27,af)]) ?_ ?_
 ·refine Qe J J n (fun n=>?_) (fun n=>?_)
  ·refine qd J<|qd J<|O _ J<|q9 ?_;cases n;exact ⟨_,_,_,J⟩
  refine U J<|O _ J<|O _ J<|q9 ?_;cases n;exact ⟨_,_,_,J⟩
 rintro _ ⟨af,ag,ah,rfl⟩;refine q8 a fun ci o a=>?_;refine Qg 5 (fun A st=>∃ ai aj ak al,st = A [(35,Q3 ci),(34,al),(33,ak),(32,aj),(31,ai)]) ?_ ?_
 ·refine Qe J J o (fun o=>?_) (fun o=>?_)
  ·refine qd J<|qd J<|qd J<|O _ J<|q9 ?_;cases o;exact ⟨_,_,_,_,J⟩
  refine U J<|Qz J<|O _ J<|O _ J<|q9 ?_;cases o;exact ⟨_,_,_,_,J⟩
 rintro _ ⟨ai,aj,ak,al,rfl⟩;refine q8 a fun cj p a=>?_;refine Qg 4 (fun A st=>∃ am an ao,st = A [(39,Q3 cj),(38,ao),(37,an),(36,am)]) ?_ ?_
 ·refine Qe J J p (fun p=>?_) (fun p=>?_)
  ·refine qd J<|qd J<|O _ J<|q9 ?_;cases p;exact ⟨_,_,_,J⟩
  refine U J<|O _ J<|O _ J<|q9 ?_;cases p;exact ⟨_,_,_,J⟩
 rintro _ ⟨am,an,ao,rfl⟩;refine q9 ?_;refine qo J a (fun _ a=>?_) (fun _ a=>?_)
 ·refine qc<|U J<|qa J<|qq ?_;cases a;exact Q6 _ J
 refine ql<|qc<|O _ J<|q8 a fun k ck a=>Qd (qik l k ck) J<|U J<|O _ J<|O _ J<|Qs J J<|Q7 1 _ J<|qa J<|qu<|O _ J<|U J<|U J<|q8 a fun aa cl a=>Qd (q10l l p1 j aa cl) J<|U J<|O _ J<|O _ J<|qa J<|qa J<|q9<|qf<|qc<|U J<|O _ J<|q8 a fun cm q a=>?_;refine Qg 4 (fun A st=>∃ ap aq ar,st = A [(58,Q3 cm),(57,ar),(56,aq),(55,ap)]) ?_ ?_
 ·refine Qe J J q (fun q=>?_) (fun q=>?_)
  ·refine qd J<|qd J<|O _ J<|q9 ?_;cases q;exact ⟨_,_,_,J⟩
  refine U J<|O _ J<|O _ J<|q9 ?_;cases q;exact ⟨_,_,_,J⟩
 rintro _ ⟨ap,aq,ar,rfl⟩;refine q9 ?_;refine qo J a (fun _ a=>?_) (fun _ a=>?_)
 ·refine qc<|U J<|q8 a fun cn c a=>?_;refine Qg 16 (fun A st=>∃ au av aw ax ay az ba bb bc bd be bf bg bh bi,st = A [(75,Q3 cn),(74,bi),(73,bh),(72,bg),(71,bf),(70,be),(69,bd),(68,bc),(67,bb),(66,ba),(65,az),(64,ay),(63,ax),(62,aw),(61,av),(60,au)]) ?_ ?_
  ·refine Qe J J c (fun c=>?_) (fun c=>?_)
   ·refine U J<|O _ J<|q8 c fun co s c=>?_;refine Qg 4 (fun A st=>∃ bj bk bl,st = A [(66,Q3 co),(65,bl),(64,bk),(63,bj)]) ?_ ?_
    ·refine Qe J J s (fun s=>?_) (fun s=>?_)
     ·refine qd J<|qd J<|O _ J<|q9 ?_;cases s;exact ⟨_,_,_,J⟩
     refine U J<|O _ J<|O _ J<|q9 ?_;cases s;exact ⟨_,_,_,J⟩
    rintro _ ⟨bj,bk,bl,rfl⟩;refine q8 c fun cp t c=>?_;refine Qg 4 (fun A st=>∃ bm bn bo,st = A [(70,Q3 cp),(69,bo),(68,bn),(67,bm)]) ?_ ?_
    ·refine Qe J J t (fun t=>?_) (fun t=>?_)
     ·refine qd J<|qd J<|O _ J<|q9 ?_;cases t;exact ⟨_,_,_,J⟩
     refine U J<|O _ J<|O _ J<|q9 ?_;cases t;exact ⟨_,_,_,J⟩
    rintro _ ⟨bm,bn,bo,rfl⟩;refine q8 c fun cq u c=>?_;refine Qg 4 (fun A st=>∃ bp bq br,st = A [(74,Q3 cq),(73,br),(72,bq),(71,bp)]) ?_ ?_
    ·refine Qe J J u (fun u=>?_) (fun u=>?_)
     ·refine qd J<|qd J<|O _ J<|q9 ?_;cases u;exact ⟨_,_,_,J⟩
     refine U J<|O _ J<|O _ J<|q9 ?_;cases u;exact ⟨_,_,_,J⟩
    rintro _ ⟨bp,bq,br,rfl⟩;refine O _ J<|q9 ?_;cases c;exact ⟨_,_,_,_,_,_,_,_,_,_,_,_,_,_,_,J⟩
   refine qd J<|qd J<|qd J<|qd J<|qd J<|qd J<|qd J<|qd J<|qd J<|qd J<|qd J<|qd J<|qd J<|qd J<|O _ J<|q9 ?_;cases c;exact ⟨_,_,_,_,_,_,_,_,_,_,_,_,_,_,_,J⟩
  rintro _ ⟨au,av,aw,ax,ay,az,ba,bb,bc,bd,be,bf,bg,bh,bi,rfl⟩;refine qa J<|qq ?_;cases a;exact Q6 _ J
 refine ql<|qc<|qa J<|qu<|qa J<|q9<|qf<|qc<|qa J<|q9<|q8 a fun bs cr a=>?_;refine Qt (fun g=>.inl g = bs) (fun g=>⟨[(2,.d (.sl 1 (j.map (eI .i64)))),(7,Q3 z),(8,.ref 0 6 0 0),(12,.d (.sl 6 (g.1.map Qw))),(13,q7 g.2)],[(0,.dat 6 [(Qw k.1)])],1⟩) qe ?_ ?_
 ·refine Qo (q2j aa) (fun h=>⟨[(2,.d (.sl 1 (j.map (eI .i64)))),(7,Q3 z),(8,.ref 0 6 0 0),(10,.d (.sl 7 (aa.1.map J3))),(12,.d (.sl 6 (h.1.map Qw))),(13,q7 h.2.1),(14,q7 h.2.2)],[(0,.dat 6 [(Qw k.1)])],1⟩) _ bs cr (wkA [(0,1)] [] []) ?_;intro h df f;unfold q2j at f;refine qf<|qc<|U J<|U J<|Qz J<|O _ J<|q9 ?_;refine qo J f (fun _ f=>?_) (fun _ f=>?_)
  ·refine ql<|qf<|q8 f fun cs b f=>?_;refine Qt (fun v=>.inl v = cs) (fun v=>⟨[(2,.d (.sl 1 (j.map (eI .i64)))),(7,Q3 z),(8,.ref 0 6 0 0),(10,.d (.sl 7 (aa.1.map J3))),(12,.d (.sl 6 (v.1.map Qw))),(13,q7 v.2),(14,q7 h.2.2)],[(0,.dat 6 [(Qw k.1)])],1⟩) qe ?_ ?_
   ·refine qc<|U J<|U J<|q8 b fun ct cu b=>K1 cu J<|O _ J<|q8 b fun w cv b=>Qd (qik ct w cv) J<|U J<|O _ J<|O _ J<|Qs J J<|Q7 1 _ J<|qa J<|q9<|qf<|qc<|U J<|O _ J<|q9 ?_;refine qo J b (fun _ b=>?_) (fun _ b=>?_)
    ·refine Qf ?_;obtain rfl:=qt b;exact ⟨_,J,wkA [(0,0)] [] []⟩
    refine ql<|qf<|qc<|U J<|O _ J<|q9 ?_;refine qo J b (fun _ b=>?_) (fun _ b=>?_)
    ·refine qc<|qa J<|qq ?_;obtain rfl:=qt b;refine ⟨_,qr f,fun hm=>?_⟩;subst hm;cases a;exact Q6 _ J
    refine ql<|qc<|U J<|O _ J<|q5c (es:=6) ([w.1].map Qw) J J J J J<|q8 b fun cw cx b=>Qd (qzq h.1 [w.1] cw cx) J<|U J<|O _ J<|O _ J<|qa J<|qa J<|q9<|qf<|qc<|U J<|O _ J<|q8 b fun cy x b=>?_;refine Qg 5 (fun A st=>∃ bt bu bv bw,st = A [(107,Q3 cy),(106,bw),(105,bv),(104,bu),(103,bt)]) ?_ ?_
    ·refine Qe J J x (fun x=>?_) (fun x=>?_)
     ·refine qd J<|qd J<|qd J<|O _ J<|q9 ?_;cases x;exact ⟨_,_,_,_,J⟩
     refine U J<|Qz J<|O _ J<|O _ J<|q9 ?_;cases x;exact ⟨_,_,_,_,J⟩
    rintro _ ⟨bt,bu,bv,bw,rfl⟩;refine q9 ?_;refine qo J b (fun _ b=>?_) (fun _ b=>?_)
    ·refine qc<|qa J<|qq ?_;obtain rfl:=qt b;refine ⟨_,qr f,fun hm=>?_⟩;subst hm;cases a;exact Q6 _ J
    refine ql<|qc<|U J<|O _ J<|q5c (es:=6) ([w.1].map Qw) J J J J J<|q8 b fun cz da b=>Qd (qzs h.1 [w.1] cz da) J<|U J<|O _ J<|O _ J<|qa J<|qa J<|q9<|qf<|qc<|U J<|O _ J<|q9 ?_;refine qo J b (fun _ b=>?_) (fun _ b=>?_)
    ·refine qc<|qa J<|qq ?_;obtain rfl:=qt b;refine ⟨_,qr f,fun hm=>?_⟩;subst hm;cases a;exact Q6 _ J
    refine ql<|Q0<|U J<|O _ J<|qa J<|qz ?_;obtain rfl:=qt b;exact ⟨_,J,wkA [(0,0)] [] []⟩
   intro v hb;subst hb;refine Q0<|U J<|O _ J<|qa J<|qz<|⟨_,qr f,wkA [(0,0)] [] []⟩
  refine Qf ?_;refine ⟨_,qr f,fun hm=>?_⟩;subst hm;exact ⟨_,J,wkA [(0,0)] [] []⟩
 intro g hb;subst hb;refine qc<|U J ?_;refine Qe J J a (fun a=>?_) (fun a=>?_)
 ·refine U J<|O _ J<|Qq _ _ J<|q8 a fun dc dd a=>q3r [.d (.sl 6 (g.1.map Qw)),.hs 1 6 0 [k.1].length] (qu0 g.1 [k.1] dc dd) J J (Zw J (Zw (Zk J J) J)) (.inr J)<|O _ J<|q8 a fun de y a=>?_;refine Qg 6 (fun A st=>∃ bx bz ca cb cc,st = A [(131,Q3 de),(130,cc),(129,cb),(128,ca),(127,bz),(126,bx)]) ?_ ?_
  ·refine Qe J J y (fun y=>?_) (fun y=>?_)
   ·refine U J<|U J<|Qz J<|O _ J<|O _ J<|q9 ?_;cases y;exact ⟨_,_,_,_,_,J⟩
   refine qd J<|qd J<|qd J<|qd J<|O _ J<|q9 ?_;cases y;exact ⟨_,_,_,_,_,J⟩
  rintro _ ⟨bx,bz,ca,cb,cc,rfl⟩;refine qa J<|qq ?_;cases a;exact Q6 _ J
 refine qd J<|qd J<|qd J<|qd J<|O _ J<|U J<|qd J<|qd J<|qd J<|qd J<|O _ J<|qa J<|qq ?_;cases a;exact Q6 _ J
end Go.Proofs.YtiejlbckgihckaaGreat
