/- W_Allc -/
import Derived.Test.YtmnfbjlabfeneaaGreatK16
namespace Go.Proofs.YtmnfbjlabfeneaaGreat
open Go Go.Am Go.Sh
set_option maxHeartbeats 8000000
set_option maxRecDepth 100000
theorem qq4 (c : List qh) (b : qg) (d : qg) (f : qg) (r : Bool) (a : q9d c b d f = some r) : Pure Tryz.prog tab 44 [.sl 6 (c.map Q1),.agg (Qh b),.agg (Qh d),.agg (Qh f)] (.bool r):=by
 unfold q9d at a;refine Qm Tryz.func44 J qi qi J<|qc<|Qj _ _ J<|Qj _ _ J<|Qj _ _ J<|qa J<|q8<|qf<|qc<|O _ J<|O _ J<|O _ J<|O _ J<|O _ J<|O _ J<|O _ J<|O _ J<|O _ J<|O _ J<|O _ J<|O _ J<|O _ J<|O _ J<|O _ J<|O _ J<|O _ J<|O _ J<|q8 ?_;refine qm J a (fun _ a=>?_) (fun _ a=>?_)
 ·refine qc<|qa J<|qw ?_;cases a;exact Q8 _ J
 refine qn<|qf<|Qk [Qv 3,(some [],[3]),q6,q6,Q2 1,q6,q6,Q2 0,Q2 0] qi<|O _ J<|O _ J<|q7 a fun g k a=>qv (qce b b g k) J<|O _ J<|O _ J<|q7 a fun h l a=>qv (qce ({X:=1,Y:=1,Z:=1} : qg) d h l) J<|q7 a fun j m a=>qv (qce g h j m) J<|Qt J J<|Qd 3 _ J<|qx<|O _ J<|O _ J<|O _ J<|U J<|q7 a fun n o a=>qv (qio ({p_:=j,d_:=f} : Yg) c n o) J<|qa J<|qw ?_;cases a;exact Q8 _ J
theorem qcb (f : List qh) (g : qg) (k : Int) (h : qg) (r : Bool × Int) (a : Uy f g k h = some r) : Pure Tryz.prog tab 13 [.sl 6 (f.map Q1),.agg (Qh g),.int .u8 k,.agg (Qh h)] (.tup [.bool r.1,qd r.2]):=by
 unfold Uy at a;refine Qm Tryz.func13 J qi qi J<|qc<|Qj _ _ J<|Qj _ _ J<|qa J<|qa J<|q8<|qf<|qc<|U J<|O _ J<|q7 a fun t u a=>qv (qcd f h t u) J<|qa J<|qx<|U J<|O _ J<|q8 ?_;refine qm J a (fun _ a=>?_) (fun _ a=>?_)
 ·refine qc<|U J<|qa J<|qa J<|qw ?_;cases a;exact Q8 _ J
 refine qn<|qf<|qc<|U J<|O _ J<|q8 ?_;refine qm J a (fun _ a=>?_) (fun _ a=>?_)
 ·refine qc<|qa J<|qa J<|qw ?_;cases a;exact Q8 _ J
 refine qn<|qc<|q7 a fun c v a=>qv (qq7 c v) J<|U J<|q7 a fun j x a=>qdt (enc:=Qh) [c.1,c.2.1,c.2.2.1,c.2.2.2.1,c.2.2.2.2.1,c.2.2.2.2.2] (.d (.agg (Qh j))) x (fun _=>rfl) J J J J J J<|Qt J J<|Qd 2 _ J<|q8<|qf<|qc<|U J<|O _ J<|q7 a fun y z a=>qv (qii f g y z) J<|O _ J<|q7 a fun aa b a=>?_;refine Q9 7 (fun A st=>∃ l m n o p q,st = A [(33,ql aa),(32,q),(31,p),(30,o),(29,n),(28,m),(27,l)]) ?_ ?_
 ·refine Qa J J b (fun b=>?_) (fun b=>?_)
  ·refine qb J<|qb J<|qb J<|qb J<|qb J<|O _ J<|q8 ?_;cases b;exact ⟨_,_,_,_,_,_,J⟩
  refine U J<|O _ J<|O _ J<|q7 b fun s ab b=>qv (qce g j s ab) J<|q7 b fun ac ad b=>qv (qii f s ac ad) J<|O _ J<|q8 ?_;cases b;exact ⟨_,_,_,_,_,_,J⟩
 rintro _ ⟨l,m,n,o,p,q,rfl⟩;refine q8 ?_;refine qm J a (fun _ a=>?_) (fun _ a=>?_)
 ·refine qc<|qa J<|qa J<|qw ?_;cases a;exact Q8 _ J
 refine qn<|qc<|U J<|O _ J<|O _ J<|O _ J<|q7 a fun ae af a=>qv (qq4 f g j h ae af) J<|qa J<|qa J<|qw ?_;cases a;exact Q8 _ J
theorem qo3 (h : qg) (j : Int) (r : Bool) (a : q76 h j = some r) : Pure Tryz.prog tab 129 [.agg (Qh h),qd j] (.bool r):=by
 unfold q76 at a;refine Qm Tryz.func129 J qi qi J<|qc<|Qj _ _ J<|qa J<|qx<|O _ J<|O _ J<|U J<|O _ J<|q7 a fun c1 b a=>?_;refine Q9 6 (fun A st=>∃ k l m n o,st = A [(14,ql c1),(13,o),(12,n),(11,m),(10,l),(9,k)]) ?_ ?_
 ·refine Qa J J b (fun b=>?_) (fun b=>?_)
  ·refine O _ J<|O _ J<|U J<|O _ J<|O _ J<|q8 ?_;cases b;exact ⟨_,_,_,_,_,J⟩
  refine qb J<|qb J<|qb J<|qb J<|O _ J<|q8 ?_;cases b;exact ⟨_,_,_,_,_,J⟩
 rintro _ ⟨k,l,m,n,o,rfl⟩;refine q7 a fun c8 c a=>?_;refine Q9 6 (fun A st=>∃ p q s t u,st = A [(20,ql c8),(19,u),(18,t),(17,s),(16,q),(15,p)]) ?_ ?_
 ·refine Qa J J c (fun c=>?_) (fun c=>?_)
  ·refine O _ J<|O _ J<|U J<|O _ J<|O _ J<|q8 ?_;cases c;exact ⟨_,_,_,_,_,J⟩
  refine qb J<|qb J<|qb J<|qb J<|O _ J<|q8 ?_;cases c;exact ⟨_,_,_,_,_,J⟩
 rintro _ ⟨p,q,s,t,u,rfl⟩;refine q7 a fun ak d a=>?_;refine Q9 5 (fun A st=>∃ v x y z,st = A [(25,ql ak),(24,z),(23,y),(22,x),(21,v)]) ?_ ?_
 ·refine Qa J J d (fun d=>?_) (fun d=>?_)
  ·refine O _ J<|O _ J<|O _ J<|O _ J<|q8 ?_;cases d;exact ⟨_,_,_,_,J⟩
  refine qb J<|qb J<|qb J<|O _ J<|q8 ?_;cases d;exact ⟨_,_,_,_,J⟩
 rintro _ ⟨v,x,y,z,rfl⟩;refine q7 a fun al f a=>?_;refine Q9 5 (fun A st=>∃ aa ab ac ad,st = A [(30,ql al),(29,ad),(28,ac),(27,ab),(26,aa)]) ?_ ?_
 ·refine Qa J J f (fun f=>?_) (fun f=>?_)
  ·refine O _ J<|O _ J<|O _ J<|O _ J<|q8 ?_;cases f;exact ⟨_,_,_,_,J⟩
  refine qb J<|qb J<|qb J<|O _ J<|q8 ?_;cases f;exact ⟨_,_,_,_,J⟩
 rintro _ ⟨aa,ab,ac,ad,rfl⟩;refine q7 a fun am g a=>?_;refine Q9 5 (fun A st=>∃ ae af ag ah,st = A [(35,ql am),(34,ah),(33,ag),(32,af),(31,ae)]) ?_ ?_
 ·refine Qa J J g (fun g=>?_) (fun g=>?_)
  ·refine O _ J<|O _ J<|O _ J<|O _ J<|q8 ?_;cases g;exact ⟨_,_,_,_,J⟩
  refine qb J<|qb J<|qb J<|O _ J<|q8 ?_;cases g;exact ⟨_,_,_,_,J⟩
 rintro _ ⟨ae,af,ag,ah,rfl⟩;refine qa J<|qw ?_;cases a;exact Q8 _ J
theorem qxy (g : qh) (r : Bool) (a : qal g = some r) : Pure Tryz.prog tab 112 [.agg (Q1 g)] (.bool r):=by
 unfold qal at a;refine Qm Tryz.func112 J qi qi J<|qc<|Qj _ _ J<|qa J<|qx<|O _ J<|O _ J<|q7 a fun r1 h2 a=>qv (qo3 g.Lo (-1000000) r1 h2) J<|q7 a fun c5 b a=>?_;refine Q9 5 (fun A st=>∃ h j k l,st = A [(11,ql c5),(10,l),(9,k),(8,j),(7,h)]) ?_ ?_
 ·refine Qa J J b (fun b=>?_) (fun b=>?_)
  ·refine O _ J<|O _ J<|q7 b fun ap aq b=>qv (qo3 g.Hi (-1000000) ap aq) J<|O _ J<|q8 ?_;cases b;exact ⟨_,_,_,_,J⟩
  refine qb J<|qb J<|qb J<|O _ J<|q8 ?_;cases b;exact ⟨_,_,_,_,J⟩
 rintro _ ⟨h,j,k,l,rfl⟩;refine qa J<|qx<|U J<|q7 a fun ar c a=>?_;refine Q9 9 (fun A st=>∃ m n o p q s t u,st = A [(21,ql ar),(20,u),(19,t),(18,s),(17,q),(16,p),(15,o),(14,n),(13,m)]) ?_ ?_
 ·refine Qa J J c (fun c=>?_) (fun c=>?_)
  ·refine O _ J<|O _ J<|O _ J<|O _ J<|O _ J<|O _ J<|O _ J<|O _ J<|q8 ?_;cases c;exact ⟨_,_,_,_,_,_,_,_,J⟩
  refine qb J<|qb J<|qb J<|qb J<|qb J<|qb J<|qb J<|O _ J<|q8 ?_;cases c;exact ⟨_,_,_,_,_,_,_,_,J⟩
 rintro _ ⟨m,n,o,p,q,s,t,u,rfl⟩;refine q7 a fun au d a=>?_;refine Q9 9 (fun A st=>∃ v x y z aa ab ac ad,st = A [(30,ql au),(29,ad),(28,ac),(27,ab),(26,aa),(25,z),(24,y),(23,x),(22,v)]) ?_ ?_
 ·refine Qa J J d (fun d=>?_) (fun d=>?_)
  ·refine O _ J<|O _ J<|O _ J<|O _ J<|O _ J<|O _ J<|O _ J<|O _ J<|q8 ?_;cases d;exact ⟨_,_,_,_,_,_,_,_,J⟩
  refine qb J<|qb J<|qb J<|qb J<|qb J<|qb J<|qb J<|O _ J<|q8 ?_;cases d;exact ⟨_,_,_,_,_,_,_,_,J⟩
 rintro _ ⟨v,x,y,z,aa,ab,ac,ad,rfl⟩;refine q7 a fun av f a=>?_;refine Q9 9 (fun A st=>∃ ae af ag ah ai aj ak al,st = A [(39,ql av),(38,al),(37,ak),(36,aj),(35,ai),(34,ah),(33,ag),(32,af),(31,ae)]) ?_ ?_
 ·refine Qa J J f (fun f=>?_) (fun f=>?_)
  ·refine O _ J<|O _ J<|O _ J<|O _ J<|O _ J<|O _ J<|O _ J<|O _ J<|q8 ?_;cases f;exact ⟨_,_,_,_,_,_,_,_,J⟩
  refine qb J<|qb J<|qb J<|qb J<|qb J<|qb J<|qb J<|O _ J<|q8 ?_;cases f;exact ⟨_,_,_,_,_,_,_,_,J⟩
 rintro _ ⟨ae,af,ag,ah,ai,aj,ak,al,rfl⟩;refine qa J<|qw ?_;cases a;exact Q8 _ J
theorem qhz (g : List Int) (r : List Int) (n : J3 g = some r) : Pure Tryz.prog tab 115 [.sl 1 (g.map (eI .i64))] (.sl 1 (r.map (eI .i64))):=by
 unfold J3 at n;refine Qm Tryz.func115 J qi qi J<|qc<|qa J<|qx<|qa J<|q8<|qf<|qc<|qa J<|q8<|q7 n fun s bb n=>?_;refine Qn (fun l=>l = s) (fun l=>⟨[(3,.hs 0 1 0 l.length)],[(0,.dat 1 (l.map (eI .i64)))],1⟩) qe ?_ ?_
 ·refine Ql (q5c g) (fun b=>⟨[(0,.d (.sl 1 (g.map (eI .i64)))),(3,.hs 0 1 0 b.2.length),(4,q9 b.1)],[(0,.dat 1 (b.2.map (eI .i64)))],1⟩) _ s bb (wkA [] [] [0]) ?_;intro b bk h;unfold q5c at h;refine qf<|qc<|U J<|U J<|K1 J<|O _ J<|q8 ?_;refine qm J h (fun _ h=>?_) (fun _ h=>?_)
  ·refine qn<|qf<|q7 h fun bc a h=>?_;refine Qn (fun m=>m = bc) (fun m=>⟨[(0,.d (.sl 1 (g.map (eI .i64)))),(3,.hs 0 1 0 m.length),(4,q9 b.1)],[(0,.dat 1 (m.map (eI .i64)))],1⟩) qe ?_ ?_
   ·refine qc<|U J<|O _ J<|qa J<|q8<|qf<|q7 a fun t bd a=>?_;refine Qn (fun o=>o = t) (fun o=>⟨[(0,.d (.sl 1 (g.map (eI .i64)))),(3,.hs 0 1 0 b.2.length),(4,q9 b.1),(5,q9 o)],[(0,.dat 1 (b.2.map (eI .i64)))],1⟩) qe ?_ ?_
    ·refine Ql (q5d b g) (fun u=>⟨[(0,.d (.sl 1 (g.map (eI .i64)))),(3,.hs 0 1 0 b.2.length),(4,q9 b.1),(5,q9 u)],[(0,.dat 1 (b.2.map (eI .i64)))],1⟩) _ t bd (wkA [(0,0)] [] []) ?_;intro u bl j;unfold q5d at j;refine qf<|qf<|Qk [q6,q6,q6,q6,q6,q6,Q2 0,q6,q6,q6,q6,q6,q6,q6] qi<|U J<|O _ J<|q7 j fun be c j=>?_;refine Q9 12 (fun A st=>∃ v x y z aa ab ac ad ae af ag,st = A [(27,ql be),(26,ag),(25,af),(24,ae),(23,ad),(22,ac),(21,ab),(20,aa),(19,z),(18,y),(17,x),(16,v)]) ?_ ?_
     ·refine Qa J J c (fun c=>?_) (fun c=>?_)
      ·refine U J<|U J<|O _ J<|q7 c fun bm ah c=>Q5 ah J J<|Qi _ ah J<|U J<|U J<|q7 c fun bn bf c=>Qq bf J<|O _ J<|O _ J<|O _ J<|q8 ?_;cases c;exact ⟨_,_,_,_,_,_,_,_,_,_,_,J⟩
      refine qb J<|qb J<|qb J<|qb J<|qb J<|qb J<|qb J<|qb J<|qb J<|qb J<|O _ J<|q8 ?_;cases c;exact ⟨_,_,_,_,_,_,_,_,_,_,_,J⟩
     rintro _ ⟨v,x,y,z,aa,ab,ac,ad,ae,af,ag,rfl⟩;refine q8 ?_;refine qm J j (fun _ j=>?_) (fun _ j=>?_)
     ·refine qn<|Qc<|Q6<|U J<|O _ J<|qa J<|Q4<|Qs<|Qo<|⟨_,qt j,wkA [(0,0)] [] []⟩
     refine Qf ?_;refine ⟨_,qt j,fun hm=>?_⟩;subst hm;exact ⟨_,J,wkA [(0,0)] [] []⟩
    intro o hb;subst hb;refine qf<|qf<|Qk [q6,q6,q6,q6,q6,q6,Q2 0,q6,q6,q6,q6,q6,q6,q6] qi<|U J<|O _ J<|q7 a fun bg f a=>?_;refine Q9 12 (fun A st=>∃ ai aj ak al am an ao ap aq ar au,st = A [(43,ql bg),(42,au),(41,ar),(40,aq),(39,ap),(38,ao),(37,an),(36,am),(35,al),(34,ak),(33,aj),(32,ai)]) ?_ ?_
    ·refine Qa J J f (fun f=>?_) (fun f=>?_)
     ·refine U J<|U J<|O _ J<|q7 f fun bo av f=>Q5 av J J<|Qi _ av J<|U J<|U J<|q7 f fun bp bh f=>Qq bh J<|O _ J<|O _ J<|O _ J<|q8 ?_;cases f;exact ⟨_,_,_,_,_,_,_,_,_,_,_,J⟩
     refine qb J<|qb J<|qb J<|qb J<|qb J<|qb J<|qb J<|qb J<|qb J<|qb J<|O _ J<|q8 ?_;cases f;exact ⟨_,_,_,_,_,_,_,_,_,_,_,J⟩
    rintro _ ⟨ai,aj,ak,al,am,an,ao,ap,aq,ar,au,rfl⟩;refine q8 ?_;refine qm J a (fun _ a=>?_) (fun _ a=>?_)
    ·refine Qf ?_;obtain rfl:=Q0 a;exact ⟨_,J,wkA [(0,0)] [] []⟩
    refine qn<|qc<|U J<|Qj _ _ J<|q7 a fun p bi a=>Ye _ bi J J J J J J J (Yi J J) J J J J<|qa J<|q8<|qf<|Qk [Qv 2,q6,q6,q6,q6,q6,q6,q6] qi<|U J<|U J<|O _ J<|q7 a fun aw q a=>qa9 q J J J J J (q9n J) (fun _=>rfl)<|U J<|U J<|q7 a fun k ax a=>qa9 ax J J J J J (q9n J) (fun _=>rfl)<|qvp (w:=aw) (xs:=p) (ys:=(p.drop k.1).take k.2) (enc:=(eI .i64)) (.hs 2 1 k.1 k.2) (qc8 q) J J J J J J (qso (qc8 ax) J) J J J J ?_;have ay:=@qkc _ p ((p.drop k.1).take k.2) aw (qc8 q);refine q8<|Q6<|U J<|U J<|U J<|U J<|q7 a fun az bj a=>Qq bj J<|O _ J<|q7 a fun bq ba a=>Q5 ba (by simp [ay]) J<|K2 (ds:=[qd az]) az ba J J J J J J J J (leb J) J<|Q4 ?_;obtain rfl:=Q0 a;exact ⟨_,J,wkE [(0,2)] [] [] J ⟨qo J,⟨_,J,K5 (by simp [ay]) J qr (ltd J)⟩,qo J,trivial⟩ ⟨Qp J J,trivial⟩⟩
   intro m hb;subst hb;refine Q6<|U J<|O _ J<|qa J<|Q4<|⟨_,qt h,wkA [(0,0)] [] []⟩
  refine Qf ?_;refine ⟨_,qt h,fun hm=>?_⟩;subst hm;exact ⟨_,J,wkA [(0,0)] [] []⟩
 intro l hb;subst hb;refine qc<|U J<|qa J<|qw ?_;obtain rfl:=Q0 n;exact finD (.inr J) J (Yk J J) (.refl _)
theorem qxp (j : List qh) (g : List qh) (r : List Int) (c : qah j g = some r) : Pure Tryz.prog tab 130 [.sl 6 (j.map Q1),.sl 6 (g.map Q1)] (.sl 1 (r.map (eI .i64))):=by
 unfold qah at c;refine Qm Tryz.func130 J qi qi J<|qc<|qa J<|qx<|qa J<|q8<|qf<|qc<|qa J<|q8<|q7 c fun m o c=>?_;refine Qn (fun h=>h = m) (fun h=>⟨[(1,.d (.sl 6 (g.map Q1))),(5,.hs 0 1 0 h.length)],[(0,.dat 1 (h.map (eI .i64)))],1⟩) qe ?_ ?_
 ·refine Ql (q5g j) (fun k=>⟨[(0,.d (.sl 6 (j.map Q1))),(1,.d (.sl 6 (g.map Q1))),(5,.hs 0 1 0 k.2.length),(6,q9 k.1)],[(0,.dat 1 (k.2.map (eI .i64)))],1⟩) _ m o (wkA [] [] [0]) ?_;intro k aa a;unfold q5g at a;refine qf<|qc<|U J<|U J<|K1 J<|O _ J<|q8 ?_;refine qm J a (fun _ a=>?_) (fun _ a=>?_)
  ·refine qn<|qf<|Qc<|Qk [q6,(some [0,1],[0,2]),(some [],[1]),q6,q6,q6,q6,q6,q6,q6,q6,q6,q6,q6,q6,q6] qi<|U J<|U J<|U J<|q7 a fun ab p a=>Qq p J<|O _ J<|O _ J<|O _ J<|U J<|U J<|q7 a fun ac q a=>Qq q J<|O _ J<|O _ J<|O _ J<|Qj _ _ J<|q7 a fun ad s a=>Ye _ s J J J J J J J (Yi J J) J J J J<|qa J<|Q4<|Qs<|Q6<|U J<|O _ J<|qa J<|Q4<|⟨_,qt a,wkA [(0,2)] [] []⟩
  refine Qf ?_;refine ⟨_,qt a,fun hm=>?_⟩;subst hm;exact ⟨_,J,wkA [(0,0)] [] []⟩
 intro h hb;subst hb;refine qf<|qc<|qa J<|q8<|q7 c fun n t c=>?_;refine Qn (fun f=>f = n) (fun f=>⟨[(5,.hs 0 1 0 f.length)],[(0,.dat 1 (f.map (eI .i64)))],1⟩) qe ?_ ?_
 ·refine Ql (q5h g) (fun l=>⟨[(1,.d (.sl 6 (g.map Q1))),(5,.hs 0 1 0 l.2.length),(7,q9 l.1)],[(0,.dat 1 (l.2.map (eI .i64)))],1⟩) _ n t (wkA [(0,0)] [] []) ?_;intro l ae b;unfold q5h at b;refine qf<|qc<|U J<|U J<|K1 J<|O _ J<|q8 ?_;refine qm J b (fun _ b=>?_) (fun _ b=>?_)
  ·refine qn<|qf<|Qc<|Qk [q6,(some [0,1],[0,2]),(some [],[1]),q6,q6,q6,q6,q6,q6,q6,q6,q6,q6,q6,q6,q6] qi<|U J<|U J<|U J<|q7 b fun af u b=>Qq u J<|O _ J<|O _ J<|O _ J<|U J<|U J<|q7 b fun ag v b=>Qq v J<|O _ J<|O _ J<|O _ J<|Qj _ _ J<|q7 b fun ah x b=>Ye _ x J J J J J J J (Yi J J) J J J J<|qa J<|Q4<|Qs<|Q6<|U J<|O _ J<|qa J<|Q4<|⟨_,qt b,wkA [(0,2)] [] []⟩
  refine Qf ?_;refine ⟨_,qt b,fun hm=>?_⟩;subst hm;exact ⟨_,J,wkA [(0,0)] [] []⟩
 intro f hb;subst hb;refine qf ?_;refine Yx (st':=⟨[(5,.d (.sl 1 (f.map (eI .i64))))],[],0⟩) (wkA [] [0] []) ?_ qe;refine Q6<|U J<|q7 c fun y z c=>qv (qhz f y z) J<|qa J<|qw ?_;cases c;exact Q8 _ J
theorem qec (f : List qh) (g : Int) (r : List qk) (l : U8 f g = some r) : Pure Tryz.prog tab 131 [.sl 6 (f.map Q1),qd g] (.sl 4 (r.map Qe)):=by
 unfold U8 at l;refine Qm Tryz.func131 J qi qi J<|qc<|qa J<|qx<|qa J<|q8<|qf<|qc<|qa J<|q8<|q7 l fun m y l=>?_;refine Qn (fun h=>h = m) (fun h=>⟨[(5,.hs 0 4 0 h.length)],[(0,.dat 4 (h.map Qe))],1⟩) qe ?_ ?_
 ·refine Ql (q77 f g) (fun j=>⟨[(0,.d (.sl 6 (f.map Q1))),(1,q9 g),(5,.hs 0 4 0 j.2.length),(6,q9 j.1)],[(0,.dat 4 (j.2.map Qe))],1⟩) _ m y (wkA [] [] [0]) ?_;intro j ai b;unfold q77 at b;refine qf<|qc<|U J<|U J<|K1 J<|O _ J<|q8 ?_;refine qm J b (fun _ b=>?_) (fun _ b=>?_)
  ·refine qn<|qf<|q7 b fun z a b=>?_;refine Qn (fun k=>k = z) (fun k=>⟨[(0,.d (.sl 6 (f.map Q1))),(1,q9 g),(5,.hs 0 4 0 k.length),(6,q9 j.1)],[(0,.dat 4 (k.map Qe))],1⟩) qe ?_ ?_
   ·refine qc<|U J<|U J<|q7 a fun aj aa a=>Qq aa J<|O _ J<|O _ J<|O _ J<|U J<|O _ J<|q7 a fun ab c a=>?_;refine Q9 10 (fun A st=>∃ n o p q s t u v x,st = A [(30,ql ab),(29,x),(28,v),(27,u),(26,t),(25,s),(24,q),(23,p),(22,o),(21,n)]) ?_ ?_
    ·refine Qa J J c (fun c=>?_) (fun c=>?_)
     ·refine U J<|U J<|U J<|q7 c fun ak ac c=>Qq ac J<|O _ J<|O _ J<|O _ J<|O _ J<|O _ J<|q8 ?_;cases c;exact ⟨_,_,_,_,_,_,_,_,_,J⟩
     refine qb J<|qb J<|qb J<|qb J<|qb J<|qb J<|qb J<|qb J<|O _ J<|q8 ?_;cases c;exact ⟨_,_,_,_,_,_,_,_,_,J⟩
    rintro _ ⟨n,o,p,q,s,t,u,v,x,rfl⟩;refine q8 ?_;refine qm J a (fun _ a=>?_) (fun _ a=>?_)
    ·refine Qk [q6,(some [0,1],[0,2]),(some [],[1]),q6,q6,q6,q6,q6,q6,q6,q6,q6,q6,q6,q6,q6,q6,q6,q6,q6,q6,q6,q6,q6,q6,q6,q6,q6,q6] qi<|U J<|U J<|U J<|q7 a fun al ad a=>Qq ad J<|O _ J<|O _ J<|O _ J<|U J<|U J<|q7 a fun am ae a=>Qq ae J<|O _ J<|O _ J<|O _ J<|U J<|U J<|q7 a fun an af a=>Qq af J<|O _ J<|O _ J<|O _ J<|U J<|U J<|q7 a fun ao ag a=>Qq ag J<|O _ J<|O _ J<|O _ J<|O _ J<|Qj _ _ J<|q7 a fun ap ah a=>Ye _ ah J J J J J J J (Yi J J) J J J J<|qa J<|Q4 ?_;obtain rfl:=Q0 a;exact ⟨_,J,wkA [(0,2)] [] []⟩
    refine qn<|Qo ?_;obtain rfl:=Q0 a;exact ⟨_,J,wkA [(0,0)] [] []⟩
   intro k hb;subst hb;refine Q6<|U J<|O _ J<|qa J<|Q4<|⟨_,qt b,wkA [(0,0)] [] []⟩
  refine Qf ?_;refine ⟨_,qt b,fun hm=>?_⟩;subst hm;exact ⟨_,J,wkA [(0,0)] [] []⟩
 intro h hb;subst hb;refine qc<|U J<|qa J<|qw ?_;obtain rfl:=Q0 l;exact finD (.inr J) J (Yk J J) (.refl _)
theorem qxg (j : List qk) (g : List qk) (r : List Int) (c : q5e j g = some r) : Pure Tryz.prog tab 91 [.sl 4 (j.map Qe),.sl 4 (g.map Qe)] (.sl 1 (r.map (eI .i64))):=by
 unfold q5e at c;refine Qm Tryz.func91 J qi qi J<|qc<|qa J<|qx<|qa J<|q8<|qf<|qc<|qa J<|q8<|q7 c fun m o c=>?_;refine Qn (fun h=>h = m) (fun h=>⟨[(1,.d (.sl 4 (g.map Qe))),(5,.hs 0 1 0 h.length)],[(0,.dat 1 (h.map (eI .i64)))],1⟩) qe ?_ ?_
 ·refine Ql (Uo j) (fun k=>⟨[(0,.d (.sl 4 (j.map Qe))),(1,.d (.sl 4 (g.map Qe))),(5,.hs 0 1 0 k.2.length),(6,q9 k.1)],[(0,.dat 1 (k.2.map (eI .i64)))],1⟩) _ m o (wkA [] [] [0]) ?_;intro k aa a;unfold Uo at a;refine qf<|qc<|U J<|U J<|K1 J<|O _ J<|q8 ?_;refine qm J a (fun _ a=>?_) (fun _ a=>?_)
  ·refine qn<|qf<|Qc<|Qk [q6,(some [0,1],[0,2]),(some [],[1]),q6,q6,q6,q6,q6,q6,q6,q6,q6,q6,q6] qi<|U J<|U J<|U J<|q7 a fun ab p a=>Qq p J<|O _ J<|O _ J<|U J<|U J<|q7 a fun ac q a=>Qq q J<|O _ J<|O _ J<|Qj _ _ J<|q7 a fun ad s a=>Ye _ s J J J J J J J (Yi J J) J J J J<|qa J<|Q4<|Qs<|Q6<|U J<|O _ J<|qa J<|Q4<|⟨_,qt a,wkA [(0,2)] [] []⟩
  refine Qf ?_;refine ⟨_,qt a,fun hm=>?_⟩;subst hm;exact ⟨_,J,wkA [(0,0)] [] []⟩
 intro h hb;subst hb;refine qf<|qc<|qa J<|q8<|q7 c fun n t c=>?_;refine Qn (fun f=>f = n) (fun f=>⟨[(5,.hs 0 1 0 f.length)],[(0,.dat 1 (f.map (eI .i64)))],1⟩) qe ?_ ?_
 ·refine Ql (Up g) (fun l=>⟨[(1,.d (.sl 4 (g.map Qe))),(5,.hs 0 1 0 l.2.length),(7,q9 l.1)],[(0,.dat 1 (l.2.map (eI .i64)))],1⟩) _ n t (wkA [(0,0)] [] []) ?_;intro l ae b;unfold Up at b;refine qf<|qc<|U J<|U J<|K1 J<|O _ J<|q8 ?_;refine qm J b (fun _ b=>?_) (fun _ b=>?_)
  ·refine qn<|qf<|Qc<|Qk [q6,(some [0,1],[0,2]),(some [],[1]),q6,q6,q6,q6,q6,q6,q6,q6,q6,q6,q6] qi<|U J<|U J<|U J<|q7 b fun af u b=>Qq u J<|O _ J<|O _ J<|U J<|U J<|q7 b fun ag v b=>Qq v J<|O _ J<|O _ J<|Qj _ _ J<|q7 b fun ah x b=>Ye _ x J J J J J J J (Yi J J) J J J J<|qa J<|Q4<|Qs<|Q6<|U J<|O _ J<|qa J<|Q4<|⟨_,qt b,wkA [(0,2)] [] []⟩
  refine Qf ?_;refine ⟨_,qt b,fun hm=>?_⟩;subst hm;exact ⟨_,J,wkA [(0,0)] [] []⟩
 intro f hb;subst hb;refine qf ?_;refine Yx (st':=⟨[(5,.d (.sl 1 (f.map (eI .i64))))],[],0⟩) (wkA [] [0] []) ?_ qe;refine Q6<|U J<|q7 c fun y z c=>qv (qhz f y z) J<|qa J<|qw ?_;cases c;exact Q8 _ J
theorem qxj (j : List qk) (g : List qk) (r : List Int) (c : q5f j g = some r) : Pure Tryz.prog tab 92 [.sl 4 (j.map Qe),.sl 4 (g.map Qe)] (.sl 1 (r.map (eI .i64))):=by
 unfold q5f at c;refine Qm Tryz.func92 J qi qi J<|qc<|qa J<|qx<|qa J<|q8<|qf<|qc<|qa J<|q8<|q7 c fun m o c=>?_;refine Qn (fun h=>h = m) (fun h=>⟨[(1,.d (.sl 4 (g.map Qe))),(5,.hs 0 1 0 h.length)],[(0,.dat 1 (h.map (eI .i64)))],1⟩) qe ?_ ?_
 ·refine Ql (Uq j) (fun k=>⟨[(0,.d (.sl 4 (j.map Qe))),(1,.d (.sl 4 (g.map Qe))),(5,.hs 0 1 0 k.2.length),(6,q9 k.1)],[(0,.dat 1 (k.2.map (eI .i64)))],1⟩) _ m o (wkA [] [] [0]) ?_;intro k aa a;unfold Uq at a;refine qf<|qc<|U J<|U J<|K1 J<|O _ J<|q8 ?_;refine qm J a (fun _ a=>?_) (fun _ a=>?_)
  ·refine qn<|qf<|Qc<|Qk [q6,(some [0,1],[0,2]),(some [],[1]),q6,q6,q6,q6,q6,q6,q6,q6,q6,q6,q6] qi<|U J<|U J<|U J<|q7 a fun ab p a=>Qq p J<|O _ J<|O _ J<|U J<|U J<|q7 a fun ac q a=>Qq q J<|O _ J<|O _ J<|Qj _ _ J<|q7 a fun ad s a=>Ye _ s J J J J J J J (Yi J J) J J J J<|qa J<|Q4<|Qs<|Q6<|U J<|O _ J<|qa J<|Q4<|⟨_,qt a,wkA [(0,2)] [] []⟩
  refine Qf ?_;refine ⟨_,qt a,fun hm=>?_⟩;subst hm;exact ⟨_,J,wkA [(0,0)] [] []⟩
 intro h hb;subst hb;refine qf<|qc<|qa J<|q8<|q7 c fun n t c=>?_;refine Qn (fun f=>f = n) (fun f=>⟨[(5,.hs 0 1 0 f.length)],[(0,.dat 1 (f.map (eI .i64)))],1⟩) qe ?_ ?_
 ·refine Ql (Ur g) (fun l=>⟨[(1,.d (.sl 4 (g.map Qe))),(5,.hs 0 1 0 l.2.length),(7,q9 l.1)],[(0,.dat 1 (l.2.map (eI .i64)))],1⟩) _ n t (wkA [(0,0)] [] []) ?_;intro l ae b;unfold Ur at b;refine qf<|qc<|U J<|U J<|K1 J<|O _ J<|q8 ?_;refine qm J b (fun _ b=>?_) (fun _ b=>?_)
  ·refine qn<|qf<|Qc<|Qk [q6,(some [0,1],[0,2]),(some [],[1]),q6,q6,q6,q6,q6,q6,q6,q6,q6,q6,q6] qi<|U J<|U J<|U J<|q7 b fun af u b=>Qq u J<|O _ J<|O _ J<|U J<|U J<|q7 b fun ag v b=>Qq v J<|O _ J<|O _ J<|Qj _ _ J<|q7 b fun ah x b=>Ye _ x J J J J J J J (Yi J J) J J J J<|qa J<|Q4<|Qs<|Q6<|U J<|O _ J<|qa J<|Q4<|⟨_,qt b,wkA [(0,2)] [] []⟩
  refine Qf ?_;refine ⟨_,qt b,fun hm=>?_⟩;subst hm;exact ⟨_,J,wkA [(0,0)] [] []⟩
 intro f hb;subst hb;refine qf ?_;refine Yx (st':=⟨[(5,.d (.sl 1 (f.map (eI .i64))))],[],0⟩) (wkA [] [0] []) ?_ qe;refine Q6<|U J<|q7 c fun y z c=>qv (qhz f y z) J<|qa J<|qw ?_;cases c;exact Q8 _ J
theorem qo1 (h : List qk) (j : Int) (k : Int) (r : Bool) (g : q74 h j k = some r) : Pure Tryz.prog tab 94 [.sl 4 (h.map Qe),qd j,qd k] (.bool r):=by
 unfold q74 at g;refine Qm Tryz.func94 J qi qi J<|qc<|qa J<|q8<|qf<|qc<|qa J<|q8<|q7 g fun m ao g=>?_;refine Qn (fun l=>.inl l = m) (fun l=>⟨[],[],0⟩) qe ?_ ?_
 ·refine Ql (q3y h j k) (fun n=>⟨[(0,.d (.sl 4 (h.map Qe))),(1,q9 j),(2,q9 k),(7,q9 n)],[],0⟩) _ m ao (wkA [] [] []) ?_;intro n ay a;unfold q3y at a;refine qf<|qc<|U J<|U J<|K1 J<|O _ J<|q8 ?_;refine qm J a (fun _ a=>?_) (fun _ a=>?_)
  ·refine qn<|qf<|Qc<|qc<|U J<|U J<|q7 a fun az ap a=>Qq ap J<|O _ J<|O _ J<|U J<|O _ J<|q7 a fun aq b a=>?_;refine Q9 9 (fun A st=>∃ o p q s t u v x,st = A [(29,ql aq),(28,x),(27,v),(26,u),(25,t),(24,s),(23,q),(22,p),(21,o)]) ?_ ?_
   ·refine Qa J J b (fun b=>?_) (fun b=>?_)
    ·refine U J<|U J<|U J<|q7 b fun ba ar b=>Qq ar J<|O _ J<|O _ J<|O _ J<|O _ J<|q8 ?_;cases b;exact ⟨_,_,_,_,_,_,_,_,J⟩
    refine qb J<|qb J<|qb J<|qb J<|qb J<|qb J<|qb J<|O _ J<|q8 ?_;cases b;exact ⟨_,_,_,_,_,_,_,_,J⟩
   rintro _ ⟨o,p,q,s,t,u,v,x,rfl⟩;refine q7 a fun au c a=>?_;refine Q9 9 (fun A st=>∃ y z aa ab ac ad ae af,st = A [(38,ql au),(37,af),(36,ae),(35,ad),(34,ac),(33,ab),(32,aa),(31,z),(30,y)]) ?_ ?_
   ·refine Qa J J c (fun c=>?_) (fun c=>?_)
    ·refine U J<|U J<|q7 c fun bb av c=>Qq av J<|O _ J<|O _ J<|U J<|O _ J<|O _ J<|q8 ?_;cases c;exact ⟨_,_,_,_,_,_,_,_,J⟩
    refine qb J<|qb J<|qb J<|qb J<|qb J<|qb J<|qb J<|O _ J<|q8 ?_;cases c;exact ⟨_,_,_,_,_,_,_,_,J⟩
   rintro _ ⟨y,z,aa,ab,ac,ad,ae,af,rfl⟩;refine q7 a fun aw f a=>?_;refine Q9 9 (fun A st=>∃ ag ah ai aj ak al am an,st = A [(47,ql aw),(46,an),(45,am),(44,al),(43,ak),(42,aj),(41,ai),(40,ah),(39,ag)]) ?_ ?_
   ·refine Qa J J f (fun f=>?_) (fun f=>?_)
    ·refine U J<|U J<|U J<|q7 f fun bc ax f=>Qq ax J<|O _ J<|O _ J<|O _ J<|O _ J<|q8 ?_;cases f;exact ⟨_,_,_,_,_,_,_,_,J⟩
    refine qb J<|qb J<|qb J<|qb J<|qb J<|qb J<|qb J<|O _ J<|q8 ?_;cases f;exact ⟨_,_,_,_,_,_,_,_,J⟩
   rintro _ ⟨ag,ah,ai,aj,ak,al,am,an,rfl⟩;refine q8 ?_;refine qm J a (fun _ a=>?_) (fun _ a=>?_)
   ·refine qc<|qa J<|qw ?_;refine ⟨_,qt a,fun hm=>?_⟩;subst hm;cases g;exact Q8 _ J
   refine qn<|Qo<|Qs<|Q6<|U J<|O _ J<|qa J<|Q4<|⟨_,qt a,wkA [] [] []⟩
  refine Qf ?_;refine ⟨_,qt a,fun hm=>?_⟩;subst hm;exact ⟨_,J,wkA [] [] []⟩
 intro l hb;subst hb;refine qc<|qa J<|qw ?_;cases g;exact Q8 _ J
theorem qx9 (f : Int) (g : Bool) (h : Bool) (r : Bool) (a : q73 f g h = some r) : Pure Tryz.prog tab 93 [qd f,.bool g,.bool h] (.bool r):=by
 unfold q73 at a;refine Qm Tryz.func93 J qi qi J<|qc<|qa J<|q8<|qf<|qc<|U J<|O _ J<|q8 ?_;refine qm J a (fun _ a=>?_) (fun _ a=>?_)
 ·refine qc<|U J<|q7 a fun q b a=>?_;refine Q9 3 (fun A st=>∃ j k,st = A [(12,ql q),(11,k),(10,j)]) ?_ ?_
  ·refine Qa J J b (fun b=>?_) (fun b=>?_)
   ·refine U J<|O _ J<|q8 ?_;cases b;exact ⟨_,_,J⟩
   refine qb J<|O _ J<|q8 ?_;cases b;exact ⟨_,_,J⟩
  rintro _ ⟨j,k,rfl⟩;refine qa J<|qw ?_;cases a;exact Q8 _ J
 refine qn<|qf<|qc<|U J<|O _ J<|q8 ?_;refine qm J a (fun _ a=>?_) (fun _ a=>?_)
 ·refine qc<|U J<|q7 a fun s c a=>?_;refine Q9 3 (fun A st=>∃ l m,st = A [(18,ql s),(17,m),(16,l)]) ?_ ?_
  ·refine Qa J J c (fun c=>?_) (fun c=>?_)
   ·refine qb J<|O _ J<|q8 ?_;cases c;exact ⟨_,_,J⟩
   refine U J<|O _ J<|q8 ?_;cases c;exact ⟨_,_,J⟩
  rintro _ ⟨l,m,rfl⟩;refine qa J<|qw ?_;cases a;exact Q8 _ J
 refine qn<|qc<|U J<|q7 a fun t d a=>?_;refine Q9 4 (fun A st=>∃ n o p,st = A [(23,ql t),(22,p),(21,o),(20,n)]) ?_ ?_
 ·refine Qa J J d (fun d=>?_) (fun d=>?_)
  ·refine U J<|O _ J<|O _ J<|q8 ?_;cases d;exact ⟨_,_,_,J⟩
  refine qb J<|qb J<|O _ J<|q8 ?_;cases d;exact ⟨_,_,_,J⟩
 rintro _ ⟨n,o,p,rfl⟩;refine qa J<|qw ?_;cases a;exact Q8 _ J
theorem qx7 (f : List Int) (g : List Bool) (r : List qu) (l : q3w f g = some r) : Pure Tryz.prog tab 95 [.sl 1 (f.map (eI .i64)),.sl 1 (g.map eB)] (.sl 2 (r.map Qy)):=by
 unfold q3w at l;refine Qm Tryz.func95 J qi qi J<|qc<|qa J<|qx<|qa J<|q8<|qf<|qc<|qa J<|q8<|q7 l fun m ae l=>?_;refine Qn (fun h=>h = m) (fun h=>⟨[(5,.hs 0 2 0 h.length)],[(0,.dat 2 (h.map Qy))],1⟩) qe ?_ ?_
 ·refine Ql (q5b f g) (fun j=>⟨[(0,.d (.sl 1 (f.map (eI .i64)))),(1,.d (.sl 1 (g.map eB))),(5,.hs 0 2 0 j.2.length),(6,q9 j.1)],[(0,.dat 2 (j.2.map Qy))],1⟩) _ m ae (wkA [] [] [0]) ?_;intro j ao c;unfold q5b at c;refine qf<|qc<|U J<|O _ J<|U J<|K1 J<|O _ J<|q8 ?_;refine qm J c (fun _ c=>?_) (fun _ c=>?_)
  ·refine qn<|qf<|q7 c fun af a c=>?_;refine Qn (fun k=>k = af) (fun k=>⟨[(0,.d (.sl 1 (f.map (eI .i64)))),(1,.d (.sl 1 (g.map eB))),(5,.hs 0 2 0 k.length),(6,q9 j.1)],[(0,.dat 2 (k.map Qy))],1⟩) qe ?_ ?_
   ·refine qf<|qc<|U J<|U J<|q7 a fun ap ag a=>Qq ag J<|O _ J<|O _ J<|q8 ?_;refine qm J a (fun _ a=>?_) (fun _ a=>?_)
    ·refine Qf ?_;obtain rfl:=Q0 a;exact ⟨_,J,wkA [(0,0)] [] []⟩
    refine qn<|qc<|U J<|O _ J<|qa J<|q8<|qf<|Qk [q6,q6,q6,q6,q6,q6,Q2 0,q6,q6,q6,q6,q6,q6,q6,q6] qi<|U J<|O _ J<|q7 a fun ah b a=>?_;refine Q9 13 (fun A st=>∃ n o p q s t u v x y z aa,st = A [(36,ql ah),(35,aa),(34,z),(33,y),(32,x),(31,v),(30,u),(29,t),(28,s),(27,q),(26,p),(25,o),(24,n)]) ?_ ?_
    ·refine Qa J J b (fun b=>?_) (fun b=>?_)
     ·refine U J<|U J<|O _ J<|q7 b fun aq ab b=>Q5 ab J J<|O _ J<|Qi _ ab J<|U J<|U J<|q7 b fun ar ai b=>Qq ai J<|O _ J<|O _ J<|O _ J<|q8 ?_;cases b;exact ⟨_,_,_,_,_,_,_,_,_,_,_,_,J⟩
     refine qb J<|qb J<|qb J<|qb J<|qb J<|qb J<|qb J<|qb J<|qb J<|qb J<|qb J<|O _ J<|q8 ?_;cases b;exact ⟨_,_,_,_,_,_,_,_,_,_,_,_,J⟩
    rintro _ ⟨n,o,p,q,s,t,u,v,x,y,z,aa,rfl⟩;refine q8 ?_;refine qm J a (fun _ a=>?_) (fun _ a=>?_)
    ·refine Q6<|U J<|U J<|O _ J<|U J<|U J<|O _ J<|q7 a fun ac aj a=>Qq aj J<|O _ J<|q7 a fun ak ad a=>Q5 ad J J<|O _ J<|K2 (ds:=[qd ac]) ({Lo:=ak.Lo,Hi:=ac} : qu) ad J J J J J J J J (leb J) J<|Q4 ?_;obtain rfl:=Q0 a;exact ⟨_,J,wkE [(0,0)] [] [] J ⟨qo J,qo J,⟨_,J,K5 qe J qr (ltd J)⟩,qo J,trivial⟩ ⟨Qp J J,trivial⟩⟩
    refine Qk [q6,(some [0,1],[0,2]),(some [],[1]),q6,q6,q6,q6,q6,q6,q6,q6,q6,q6,q6] qi<|U J<|U J<|U J<|q7 a fun au al a=>Qq al J<|O _ J<|U J<|U J<|O _ J<|q7 a fun av am a=>Qq am J<|O _ J<|O _ J<|Qj _ _ J<|q7 a fun aw an a=>Ye _ an J J J J J J J (Yi J J) J J J J<|qa J<|Q4 ?_;obtain rfl:=Q0 a;exact ⟨_,J,wkA [(0,2)] [] []⟩
   intro k hb;subst hb;refine Q6<|U J<|O _ J<|qa J<|Q4<|⟨_,qt c,wkA [(0,0)] [] []⟩
  refine Qf ?_;refine ⟨_,qt c,fun hm=>?_⟩;subst hm;exact ⟨_,J,wkA [(0,0)] [] []⟩
 intro h hb;subst hb;refine qc<|U J<|qa J<|qw ?_;obtain rfl:=Q0 l;exact finD (.inr J) J (Yk J J) (.refl _)
theorem qxa (c : List qu) (f : List qu) (r : Bool) (b : q3x c f = some r) : Pure Tryz.prog tab 96 [.sl 2 (c.map Qy),.sl 2 (f.map Qy)] (.bool r):=by
 unfold q3x at b;refine Qm Tryz.func96 J qi qi J<|qc<|qa J<|q8<|qf<|qc<|U J<|K1 J<|U J<|K1 J<|O _ J<|q8 ?_;refine qm J b (fun _ b=>?_) (fun _ b=>?_)
 ·refine qc<|qa J<|qw ?_;cases b;exact Q8 _ J
 refine qn<|qf<|qc<|qa J<|q8<|q7 b fun h k b=>?_;refine Qn (fun g=>.inl g = h) (fun g=>⟨[],[],0⟩) qe ?_ ?_
 ·refine Ql (qe4 c f) (fun j=>⟨[(0,.d (.sl 2 (c.map Qy))),(1,.d (.sl 2 (f.map Qy))),(5,q9 j)],[],0⟩) _ h k (wkA [] [] []) ?_;intro j n a;unfold qe4 at a;refine qf<|qc<|U J<|U J<|K1 J<|O _ J<|q8 ?_;refine qm J a (fun _ a=>?_) (fun _ a=>?_)
  ·refine qn<|qf<|Qc<|qf<|Qk [q6,q6,q6,q6,q6,q6,q6,q6,q6] qi<|U J<|U J<|q7 a fun o l a=>Qq l J<|O _ J<|U J<|U J<|q7 a fun p m a=>Qq m J<|O _ J<|O _ J<|q8 ?_;refine qm J a (fun _ a=>?_) (fun _ a=>?_)
   ·refine qc<|qa J<|qw ?_;refine ⟨_,qt a,fun hm=>?_⟩;subst hm;cases b;exact Q8 _ J
   refine qn<|Qo<|Qs<|Q6<|U J<|O _ J<|qa J<|Q4<|⟨_,qt a,wkA [] [] []⟩
  refine Qf ?_;refine ⟨_,qt a,fun hm=>?_⟩;subst hm;exact ⟨_,J,wkA [] [] []⟩
 intro g hb;subst hb;refine qc<|qa J<|qw ?_;cases b;exact Q8 _ J
theorem qe6 (j : Int) (f : List qk) (g : List qk) (r : List qk) (n : Zo j f g = some r) : Pure Tryz.prog tab 55 [qd j,.sl 4 (f.map Qe),.sl 4 (g.map Qe)] (.sl 4 (r.map Qe)):=by
 unfold Zo at n;refine Qm Tryz.func55 J qi qi J<|qc<|qa J<|qx<|U J<|U J<|q7 n fun k h2 n=>qv (qxg f g k h2) J<|U J<|U J<|q7 n fun l h4 n=>qv (qxj f g l h4) J<|qa J<|qa J<|qx<|qa J<|qx<|qa J<|qx<|qa J<|q8<|qf<|qc<|qa J<|q8<|q7 n fun ab ao n=>?_;refine Qn (fun t=>t = ab) (fun t=>⟨[(9,.hs 0 4 0 t.length)],[(0,.dat 4 (t.map Qe))],1⟩) qe ?_ ?_
 ·refine Ql (Jn k l f g j) (fun a=>⟨[(0,q9 j),(1,.d (.sl 4 (f.map Qe))),(2,.d (.sl 4 (g.map Qe))),(7,.d (.sl 1 (k.map (eI .i64)))),(8,.d (.sl 1 (l.map (eI .i64)))),(9,.hs 0 4 0 a.2.2.2.length),(10,.d (.sl 2 (a.1.map Qy))),(11,q9 a.2.1),(12,q9 a.2.2.1)],[(0,.dat 4 (a.2.2.2.map Qe))],1⟩) _ ab ao (wkA [] [] [0]) ?_;intro a bt o;unfold Jn at o;refine qf<|qc<|U J<|O _ J<|U J<|K1 J<|O _ J<|q8 ?_;refine qm J o (fun _ o=>?_) (fun _ o=>?_)
  ·refine qn<|qf<|q7 o fun ap h o=>?_;refine Qn (fun p=>p = ap) (fun p=>⟨[(0,q9 j),(1,.d (.sl 4 (f.map Qe))),(2,.d (.sl 4 (g.map Qe))),(7,.d (.sl 1 (k.map (eI .i64)))),(8,.d (.sl 1 (l.map (eI .i64)))),(9,.hs 0 4 0 p.2.2.length),(10,.d (.sl 2 (p.1.map Qy))),(11,q9 p.2.1),(12,q9 a.2.2.1)],[(0,.dat 4 (p.2.2.map Qe))],1⟩) qe ?_ ?_
   ·refine qc<|qa J<|q8<|qf<|qc<|qa J<|q8<|q7 h fun ac aq h=>?_;refine Qn (fun q=>q = ac) (fun q=>⟨[(0,q9 j),(1,.d (.sl 4 (f.map Qe))),(2,.d (.sl 4 (g.map Qe))),(7,.d (.sl 1 (k.map (eI .i64)))),(8,.d (.sl 1 (l.map (eI .i64)))),(9,.hs 0 4 0 a.2.2.2.length),(10,.d (.sl 2 (a.1.map Qy))),(11,q9 a.2.1),(12,q9 a.2.2.1),(13,.hs 1 1 0 q.length)],[(0,.dat 4 (a.2.2.2.map Qe)),(1,.dat 1 (q.map eB))],2⟩) qe ?_ ?_
    ·refine Ql (Um l k a f g j) (fun x=>⟨[(0,q9 j),(1,.d (.sl 4 (f.map Qe))),(2,.d (.sl 4 (g.map Qe))),(7,.d (.sl 1 (k.map (eI .i64)))),(8,.d (.sl 1 (l.map (eI .i64)))),(9,.hs 0 4 0 a.2.2.2.length),(10,.d (.sl 2 (a.1.map Qy))),(11,q9 a.2.1),(12,q9 a.2.2.1),(13,.hs 1 1 0 x.2.length),(14,q9 x.1)],[(0,.dat 4 (a.2.2.2.map Qe)),(1,.dat 1 (x.2.map eB))],2⟩) _ ac aq (wkA [(0,0)] [] [1]) ?_;intro x bu b;unfold Um at b;refine qf<|qc<|U J<|U J<|K1 J<|O _ J<|q8 ?_;refine qm J b (fun _ b=>?_) (fun _ b=>?_)
     ·refine qn<|qf<|Qc<|Qk [q6,(some [1,2],[1,3]),(some [],[2]),q6,q6,q6,q6,q6,q6,q6,q6,q6,q6,q6,q6,q6,q6,q6,q6,q6,q6,q6,q6,q6,q6,q6] qi<|U J<|U J<|U J<|U J<|U J<|q7 b fun ar au b=>Qq au J<|O _ J<|U J<|U J<|q7 b fun av aw b=>Qq aw J<|O _ J<|q7 b fun ad ax b=>qv (qo1 f ar av ad ax) J<|U J<|U J<|U J<|q7 b fun ay az b=>Qq az J<|O _ J<|U J<|U J<|q7 b fun ba bb b=>Qq bb J<|O _ J<|q7 b fun ae bc b=>qv (qo1 g ay ba ae bc) J<|q7 b fun bd be b=>qv (qx9 j ad ae bd be) J<|Qj _ _ J<|q7 b fun bv bf b=>Ye _ bf J J J J J J J (Yi J J) J J J J<|qa J<|Q4<|Qs ?_;refine Q6<|U J<|O _ J<|qa J<|Q4<|⟨_,qt b,wkA [(0,0),(1,3)] [] []⟩
     refine Qf ?_;refine ⟨_,qt b,fun hm=>?_⟩;subst hm;exact ⟨_,J,wkA [(0,0),(1,1)] [] []⟩
    intro q hb;subst hb;refine qf ?_;refine Yx (st':=⟨[(0,q9 j),(1,.d (.sl 4 (f.map Qe))),(2,.d (.sl 4 (g.map Qe))),(7,.d (.sl 1 (k.map (eI .i64)))),(8,.d (.sl 1 (l.map (eI .i64)))),(9,.hs 0 4 0 a.2.2.2.length),(10,.d (.sl 2 (a.1.map Qy))),(11,q9 a.2.1),(12,q9 a.2.2.1),(13,.d (.sl 1 (q.map eB)))],[(0,.dat 4 (a.2.2.2.map Qe))],1⟩) (wkA [(0,0)] [1] []) ?_ qe;refine Q6<|U J<|U J<|q7 h fun u bg h=>qv (qx7 l q u bg) J<|qa J<|q8<|qf<|qc<|U J<|O _ J<|q7 h fun bh s h=>?_;refine Q9 5 (fun A st=>∃ af ag ah ai,st = A [(71,ql bh),(70,ai),(69,ah),(68,ag),(67,af)]) ?_ ?_
    ·refine Qa J J s (fun s=>?_) (fun s=>?_)
     ·refine U J<|U J<|q7 s fun bi bj s=>qv (qxa u a.1 bi bj) J<|O _ J<|q8 ?_;cases s;exact ⟨_,_,_,_,J⟩
     refine qb J<|qb J<|qb J<|O _ J<|q8 ?_;cases s;exact ⟨_,_,_,_,J⟩
    rintro _ ⟨af,ag,ah,ai,rfl⟩;refine q8 ?_;refine qm J h (fun _ h=>?_) (fun _ h=>?_)
    ·refine qf<|qc<|U J<|qa J<|q8<|q7 h fun aj bk h=>?_;refine Qn (fun v=>v = aj) (fun v=>⟨[(0,q9 j),(1,.d (.sl 4 (f.map Qe))),(2,.d (.sl 4 (g.map Qe))),(7,.d (.sl 1 (k.map (eI .i64)))),(8,.d (.sl 1 (l.map (eI .i64)))),(9,.hs 0 4 0 v.length),(10,.d (.sl 2 (a.1.map Qy))),(11,q9 a.2.1),(12,q9 a.2.2.1)],[(0,.dat 4 (v.map Qe))],1⟩) qe ?_ ?_
     ·refine Ql (Un k a) (fun y=>⟨[(0,q9 j),(1,.d (.sl 4 (f.map Qe))),(2,.d (.sl 4 (g.map Qe))),(7,.d (.sl 1 (k.map (eI .i64)))),(8,.d (.sl 1 (l.map (eI .i64)))),(9,.hs 0 4 0 y.2.length),(10,.d (.sl 2 (a.1.map Qy))),(11,q9 a.2.1),(12,q9 a.2.2.1),(16,q9 y.1)],[(0,.dat 4 (y.2.map Qe))],1⟩) _ aj bk (wkA [(0,0)] [] []) ?_;intro y bw m;unfold Un at m;refine qf<|qc<|U J<|U J<|O _ J<|O _ J<|q8 ?_;refine qm J m (fun _ m=>?_) (fun _ m=>?_)
      ·refine qn<|qf<|Qc<|Q6<|U J<|U J<|U J<|U J<|O _ J<|q7 m fun ak bl m=>Qq bl J<|O _ J<|q7 m fun aa al m=>Q5 al J J<|O _ J<|K2 (ds:=[qd ak]) ({X0:=aa.X0,Y0:=aa.Y0,X1:=ak,Y1:=aa.Y1} : qk) al J J J J J J J J (leb J) J<|Q4<|Qs<|Q6<|U J<|O _ J<|qa J<|Q4<|⟨_,qt m,wkE [(0,0)] [] [] J ⟨qo J,qo J,qo J,qo J,qo J,⟨_,J,K5 qe J qr (ltd J)⟩,qo J,qo J,qo J,qo J,trivial⟩ ⟨Qp J J,trivial⟩⟩
      refine Qf ?_;refine ⟨_,qt m,fun hm=>?_⟩;subst hm;exact ⟨_,J,wkA [(0,0)] [] []⟩
     intro v hb;subst hb;refine Qf ?_;obtain rfl:=Q0 h;exact ⟨_,J,wkA [(0,0)] [] []⟩
    refine qn<|qc<|U J<|O _ J<|U J<|qa J<|qa J<|qx<|qa J<|q8<|q7 h fun bm bn h=>Qc<|Ql (q2i u k a) (fun z=>⟨[(0,q9 j),(1,.d (.sl 4 (f.map Qe))),(2,.d (.sl 4 (g.map Qe))),(7,.d (.sl 1 (k.map (eI .i64)))),(8,.d (.sl 1 (l.map (eI .i64)))),(9,.hs 0 4 0 z.2.length),(10,.d (.sl 2 (u.map Qy))),(11,q9 (a.2.2.2.length : Int)),(12,q9 a.2.2.1),(15,.d (.sl 2 (u.map Qy))),(17,q9 z.1)],[(0,.dat 4 (z.2.map Qe))],1⟩) _ bm bn (wkA [(0,0)] [] []) ?_;intro z bz c;unfold q2i at c;refine qf<|qc<|U J<|U J<|K1 J<|O _ J<|q8 ?_;refine qm J c (fun _ c=>?_) (fun _ c=>?_)
    ·refine qn<|qf<|Qc<|Qk [q6,(some [0,1],[0,2]),(some [],[1]),q6,q6,q6,q6,q6,q6,q6,q6,q6,q6,q6,q6,q6,q6,q6,q6,q6,q6,q6,q6,q6] qi<|U J<|U J<|U J<|q7 c fun ca bo c=>Qq bo J<|O _ J<|U J<|U J<|q7 c fun cb bp c=>Qq bp J<|O _ J<|O _ J<|U J<|U J<|O _ J<|q7 c fun cc bq c=>Qq bq J<|O _ J<|U J<|U J<|q7 c fun cd br c=>Qq br J<|O _ J<|O _ J<|O _ J<|Qj _ _ J<|q7 c fun ce bs c=>Ye _ bs J J J J J J J (Yi J J) J J J J<|qa J<|Q4<|Qs<|Q6<|U J<|O _ J<|qa J<|Q4<|⟨_,qt c,wkA [(0,2)] [] []⟩
    refine Qf ?_;refine ⟨_,qt c,fun hm=>?_⟩;subst hm;obtain rfl:=Q0 h;exact ⟨_,J,wkA [(0,0)] [] []⟩
   intro p hb;subst hb;refine Q6<|U J<|O _ J<|qa J<|Q4<|⟨_,qt o,wkA [(0,0)] [] []⟩
  refine Qf ?_;refine ⟨_,qt o,fun hm=>?_⟩;subst hm;exact ⟨_,J,wkA [(0,0)] [] []⟩
 intro t hb;subst hb;refine qc<|U J<|qa J<|qw ?_;obtain rfl:=Q0 n;exact finD (.inr J) J (Yk J J) (.refl _)
theorem qe8 (c : List qk) (f : List qk) (r : Bool) (b : q2j c f = some r) : Pure Tryz.prog tab 20 [.sl 4 (c.map Qe),.sl 4 (f.map Qe)] (.bool r):=by
 unfold q2j at b;refine Qm Tryz.func20 J qi qi J<|qc<|qa J<|q8<|qf<|qc<|U J<|K1 J<|U J<|K1 J<|O _ J<|q8 ?_;refine qm J b (fun _ b=>?_) (fun _ b=>?_)
 ·refine qc<|qa J<|qw ?_;cases b;exact Q8 _ J
 refine qn<|qf<|qc<|qa J<|q8<|q7 b fun h k b=>?_;refine Qn (fun g=>.inl g = h) (fun g=>⟨[],[],0⟩) qe ?_ ?_
 ·refine Ql (qe7 c f) (fun j=>⟨[(0,.d (.sl 4 (c.map Qe))),(1,.d (.sl 4 (f.map Qe))),(5,q9 j)],[],0⟩) _ h k (wkA [] [] []) ?_;intro j n a;unfold qe7 at a;refine qf<|qc<|U J<|U J<|K1 J<|O _ J<|q8 ?_;refine qm J a (fun _ a=>?_) (fun _ a=>?_)
  ·refine qn<|qf<|Qc<|qf<|Qk [q6,q6,q6,q6,q6,q6,q6,q6,q6] qi<|U J<|U J<|q7 a fun o l a=>Qq l J<|O _ J<|U J<|U J<|q7 a fun p m a=>Qq m J<|O _ J<|O _ J<|q8 ?_;refine qm J a (fun _ a=>?_) (fun _ a=>?_)
   ·refine qc<|qa J<|qw ?_;refine ⟨_,qt a,fun hm=>?_⟩;subst hm;cases b;exact Q8 _ J
   refine qn<|Qo<|Qs<|Q6<|U J<|O _ J<|qa J<|Q4<|⟨_,qt a,wkA [] [] []⟩
  refine Qf ?_;refine ⟨_,qt a,fun hm=>?_⟩;subst hm;exact ⟨_,J,wkA [] [] []⟩
 intro g hb;subst hb;refine qc<|qa J<|qw ?_;cases b;exact Q8 _ J
theorem qxt (l : Int) (f : List qh) (g : List qh) (r : List qh × Bool) (o : q5i l f g = some r) : Pure Tryz.prog tab 113 [qd l,.sl 6 (f.map Q1),.sl 6 (g.map Q1)] (.tup [.sl 6 (r.1.map Q1),.bool r.2]):=by
 unfold q5i at o;refine Qm Tryz.func113 J qi qi J<|qc<|qa J<|qa J<|qx<|U J<|U J<|q7 o fun m h2 o=>qv (qxp f g m h2) J<|qa J<|qx<|qa J<|qx<|qa J<|qx<|qa J<|q8<|qf<|qc<|qa J<|q8<|q7 o fun z bi o=>?_;refine Qn (fun s=>.inl s = z) (fun s=>⟨[(9,.hs 0 6 0 s.length)],[(0,.dat 6 (s.map Q1))],1⟩) qe ?_ ?_
 ·refine Ql (q2k m f g l) (fun c=>⟨[(0,q9 l),(1,.d (.sl 6 (f.map Q1))),(2,.d (.sl 6 (g.map Q1))),(8,.d (.sl 1 (m.map (eI .i64)))),(9,.hs 0 6 0 c.2.2.2.length),(10,.d (.sl 4 (c.1.map Qe))),(11,q9 c.2.1),(12,q9 c.2.2.1)],[(0,.dat 6 (c.2.2.2.map Q1))],1⟩) _ z bi (wkA [] [] [0]) ?_;intro c ct n;unfold q2k at n;refine qf<|qc<|U J<|O _ J<|U J<|K1 J<|O _ J<|q8 ?_;refine qm J n (fun _ n=>?_) (fun _ n=>?_)
  ·refine qn<|qf<|q7 n fun bj a n=>?_;refine Qn (fun p=>.inl p = bj) (fun p=>⟨[(0,q9 l),(1,.d (.sl 6 (f.map Q1))),(2,.d (.sl 6 (g.map Q1))),(8,.d (.sl 1 (m.map (eI .i64)))),(9,.hs 0 6 0 p.2.2.length),(10,.d (.sl 4 (p.1.map Qe))),(11,q9 p.2.1),(12,q9 c.2.2.1)],[(0,.dat 6 (p.2.2.map Q1))],1⟩) qe ?_ ?_
   ·refine qf<|Qk [q6,q6,q6,q6,q6,q6,q6,q6,q6,q6,q6,q6,q6,q6,q6] qi<|U J<|U J<|U J<|U J<|q7 a fun bk bl a=>Qq bl J<|O _ J<|q7 a fun aa bm a=>qv (qec f bk aa bm) J<|U J<|U J<|U J<|q7 a fun bn bo a=>Qq bo J<|O _ J<|q7 a fun ab bp a=>qv (qec g bn ab bp) J<|q7 a fun t bq a=>qv (qe6 l aa ab t bq) J<|qa J<|q8<|qf<|qc<|U J<|K1 J<|O _ J<|q7 a fun br h a=>?_;refine Q9 11 (fun A st=>∃ ac ad ae af ag ah ai aj ak al,st = A [(53,ql br),(52,al),(51,ak),(50,aj),(49,ai),(48,ah),(47,ag),(46,af),(45,ae),(44,ad),(43,ac)]) ?_ ?_
    ·refine Qa J J h (fun h=>?_) (fun h=>?_)
     ·refine qb J<|qb J<|qb J<|qb J<|qb J<|qb J<|qb J<|qb J<|qb J<|O _ J<|q8 ?_;cases h;exact ⟨_,_,_,_,_,_,_,_,_,_,J⟩
     refine U J<|U J<|U J<|q7 h fun bs bt h=>Qq bt J<|O _ J<|q7 h fun am bu h=>qv (qec f bs am bu) J<|q7 h fun bv bw h=>qv (q70 (.cons (.refl _) (.cons (.refl _) (.cons (.nil _) .nil))) (qe6 2 am [] bv bw)) J<|K1 J<|O _ J<|O _ J<|q8 ?_;cases h;exact ⟨_,_,_,_,_,_,_,_,_,_,J⟩
    rintro _ ⟨ac,ad,ae,af,ag,ah,ai,aj,ak,al,rfl⟩;refine q7 a fun bz j a=>?_;refine Q9 11 (fun A st=>∃ an ao ap aq ar au av aw ax ay,st = A [(64,ql bz),(63,ay),(62,ax),(61,aw),(60,av),(59,au),(58,ar),(57,aq),(56,ap),(55,ao),(54,an)]) ?_ ?_
    ·refine Qa J J j (fun j=>?_) (fun j=>?_)
     ·refine qb J<|qb J<|qb J<|qb J<|qb J<|qb J<|qb J<|qb J<|qb J<|O _ J<|q8 ?_;cases j;exact ⟨_,_,_,_,_,_,_,_,_,_,J⟩
     refine U J<|U J<|U J<|q7 j fun ca cb j=>Qq cb J<|O _ J<|q7 j fun az cc j=>qv (qec g ca az cc) J<|q7 j fun cd ce j=>qv (q70 (.cons (.refl _) (.cons (.refl _) (.cons (.nil _) .nil))) (qe6 2 az [] cd ce)) J<|K1 J<|O _ J<|O _ J<|q8 ?_;cases j;exact ⟨_,_,_,_,_,_,_,_,_,_,J⟩
    rintro _ ⟨an,ao,ap,aq,ar,au,av,aw,ax,ay,rfl⟩;refine q8 ?_;refine qm J a (fun _ a=>?_) (fun _ a=>?_)
    ·refine qc<|qa J<|qa J<|qw ?_;obtain rfl:=Q0 a;refine ⟨_,qt n,fun hm=>?_⟩;subst hm;obtain rfl:=Q0 o;exact finD (.inr J) J J (Zv (.cons (.nil _) (.cons (.refl _) .nil)))
    refine qn<|qf<|qc<|U J<|O _ J<|q7 a fun cf q a=>?_;refine Q9 5 (fun A st=>∃ ba bb bc bd,st = A [(71,ql cf),(70,bd),(69,bc),(68,bb),(67,ba)]) ?_ ?_
    ·refine Qa J J q (fun q=>?_) (fun q=>?_)
     ·refine U J<|U J<|q7 q fun cg ch q=>qv (qe8 t c.1 cg ch) J<|O _ J<|q8 ?_;cases q;exact ⟨_,_,_,_,J⟩
     refine qb J<|qb J<|qb J<|O _ J<|q8 ?_;cases q;exact ⟨_,_,_,_,J⟩
    rintro _ ⟨ba,bb,bc,bd,rfl⟩;refine q8 ?_;refine qm J a (fun _ a=>?_) (fun _ a=>?_)
    ·refine qf<|qc<|U J<|qa J<|q8<|q7 a fun be ci a=>?_;refine Qn (fun u=>u = be) (fun u=>⟨[(0,q9 l),(1,.d (.sl 6 (f.map Q1))),(2,.d (.sl 6 (g.map Q1))),(8,.d (.sl 1 (m.map (eI .i64)))),(9,.hs 0 6 0 u.length),(10,.d (.sl 4 (c.1.map Qe))),(11,q9 c.2.1),(12,q9 c.2.2.1)],[(0,.dat 6 (u.map Q1))],1⟩) qe ?_ ?_
     ·refine Ql (q5j m c) (fun v=>⟨[(0,q9 l),(1,.d (.sl 6 (f.map Q1))),(2,.d (.sl 6 (g.map Q1))),(8,.d (.sl 1 (m.map (eI .i64)))),(9,.hs 0 6 0 v.2.length),(10,.d (.sl 4 (c.1.map Qe))),(11,q9 c.2.1),(12,q9 c.2.2.1),(14,q9 v.1)],[(0,.dat 6 (v.2.map Q1))],1⟩) _ be ci (wkA [(0,0)] [] []) ?_;intro v cu k;unfold q5j at k;refine qf<|qc<|U J<|U J<|O _ J<|O _ J<|q8 ?_;refine qm J k (fun _ k=>?_) (fun _ k=>?_)
      ·refine qn<|qf<|Qc<|Q6<|U J<|U J<|U J<|U J<|O _ J<|q7 k fun bf cj k=>Qq cj J<|O _ J<|q7 k fun y bg k=>Q5 bg J J<|O _ J<|O _ J<|K2 (ds:=[qd bf]) ({Lo:=y.Lo,Hi:=({X:=y.Hi.X,Y:=y.Hi.Y,Z:=bf} : qg)} : qh) bg J J J J J J J J (leb J) J<|Q4<|Qs<|Q6<|U J<|O _ J<|qa J<|Q4<|⟨_,qt k,wkE [(0,0)] [] [] J ⟨qo J,qo J,qo J,qo J,⟨_,J,K5 qe J qr (ltd J)⟩,qo J,qo J,qo J,qo J,trivial⟩ ⟨Qp J J,trivial⟩⟩
      refine Qf ?_;refine ⟨_,qt k,fun hm=>?_⟩;subst hm;exact ⟨_,J,wkA [(0,0)] [] []⟩
     intro u hb;subst hb;refine Qf ?_;obtain rfl:=Q0 a;exact ⟨_,J,wkA [(0,0)] [] []⟩
    refine qn<|qc<|U J<|O _ J<|U J<|qa J<|qa J<|qx<|qa J<|q8<|q7 a fun ck cl a=>Qc<|Ql (q7c t m c) (fun x=>⟨[(0,q9 l),(1,.d (.sl 6 (f.map Q1))),(2,.d (.sl 6 (g.map Q1))),(8,.d (.sl 1 (m.map (eI .i64)))),(9,.hs 0 6 0 x.2.length),(10,.d (.sl 4 (t.map Qe))),(11,q9 (c.2.2.2.length : Int)),(12,q9 c.2.2.1),(13,.d (.sl 4 (t.map Qe))),(15,q9 x.1)],[(0,.dat 6 (x.2.map Q1))],1⟩) _ ck cl (wkA [(0,0)] [] []) ?_;intro x cv b;unfold q7c at b;refine qf<|qc<|U J<|U J<|K1 J<|O _ J<|q8 ?_;refine qm J b (fun _ b=>?_) (fun _ b=>?_)
    ·refine qn<|qf<|Qc<|Qk [q6,(some [0,1],[0,2]),(some [],[1]),q6,q6,q6,q6,q6,q6,q6,q6,q6,q6,q6,q6,q6,q6,q6,q6,q6,q6,q6,q6,q6,q6,q6,q6,q6,q6,q6,q6,q6,q6,q6,q6,q6] qi<|U J<|U J<|U J<|q7 b fun cw cm b=>Qq cm J<|O _ J<|O _ J<|U J<|U J<|q7 b fun cx cn b=>Qq cn J<|O _ J<|O _ J<|U J<|U J<|q7 b fun cy co b=>Qq co J<|O _ J<|O _ J<|U J<|U J<|q7 b fun cz cp b=>Qq cp J<|O _ J<|O _ J<|U J<|U J<|q7 b fun da cq b=>Qq cq J<|O _ J<|O _ J<|U J<|U J<|O _ J<|q7 b fun dc cr b=>Qq cr J ?_;refine O _ J<|O _ J<|O _ J<|Qj _ _ J<|q7 b fun dd cs b=>Ye _ cs J J J J J J J (Yi J J) J J J J<|qa J<|Q4<|Qs<|Q6<|U J<|O _ J<|qa J<|Q4<|⟨_,qt b,wkA [(0,2)] [] []⟩
    refine Qf ?_;refine ⟨_,qt b,fun hm=>?_⟩;subst hm;obtain rfl:=Q0 a;exact ⟨_,J,wkA [(0,0)] [] []⟩
   intro p hb;subst hb;refine Q6<|U J<|O _ J<|qa J<|Q4<|⟨_,qt n,wkA [(0,0)] [] []⟩
  refine Qf ?_;refine ⟨_,qt n,fun hm=>?_⟩;subst hm;exact ⟨_,J,wkA [(0,0)] [] []⟩
 intro s hb;subst hb;refine qc<|U J<|U J<|O _ J<|O _ J<|qa J<|qa J<|qw ?_;obtain rfl:=Q0 o;exact finD (.inr J) J (qf8 (q1i (Yk J J) (q1i J J))) (.refl _)
theorem qo7 (c : List qh) (f : List qh) (r : Bool) (b : qaj c f = some r) : Pure Tryz.prog tab 17 [.sl 6 (c.map Q1),.sl 6 (f.map Q1)] (.bool r):=by
 unfold qaj at b;refine Qm Tryz.func17 J qi qi J<|qc<|qa J<|q8<|qf<|qc<|U J<|K1 J<|U J<|K1 J<|O _ J<|q8 ?_;refine qm J b (fun _ b=>?_) (fun _ b=>?_)
 ·refine qc<|qa J<|qw ?_;cases b;exact Q8 _ J
 refine qn<|qf<|qc<|qa J<|q8<|q7 b fun h k b=>?_;refine Qn (fun g=>.inl g = h) (fun g=>⟨[],[],0⟩) qe ?_ ?_
 ·refine Ql (qed c f) (fun j=>⟨[(0,.d (.sl 6 (c.map Q1))),(1,.d (.sl 6 (f.map Q1))),(5,q9 j)],[],0⟩) _ h k (wkA [] [] []) ?_;intro j n a;unfold qed at a;refine qf<|qc<|U J<|U J<|K1 J<|O _ J<|q8 ?_;refine qm J a (fun _ a=>?_) (fun _ a=>?_)
  ·refine qn<|qf<|Qc<|qf<|Qk [q6,q6,q6,q6,q6,q6,q6,q6,q6] qi<|U J<|U J<|q7 a fun o l a=>Qq l J<|O _ J<|U J<|U J<|q7 a fun p m a=>Qq m J<|O _ J<|O _ J<|q8 ?_;refine qm J a (fun _ a=>?_) (fun _ a=>?_)
   ·refine qc<|qa J<|qw ?_;refine ⟨_,qt a,fun hm=>?_⟩;subst hm;cases b;exact Q8 _ J
   refine qn<|Qo<|Qs<|Q6<|U J<|O _ J<|qa J<|Q4<|⟨_,qt a,wkA [] [] []⟩
  refine Qf ?_;refine ⟨_,qt a,fun hm=>?_⟩;subst hm;exact ⟨_,J,wkA [] [] []⟩
 intro g hb;subst hb;refine qc<|qa J<|qw ?_;cases b;exact Q8 _ J
theorem qo4 (c : List qh) (r : Int) (a : q78 c = some r) : Pure Tryz.prog tab 82 [.sl 6 (c.map Q1)] (qd r):=by
 unfold q78 at a;refine Qm Tryz.func82 J qi qi J<|qc<|qa J<|q8<|qf<|qc<|U J<|K1 J<|O _ J<|q8 ?_;refine qm J a (fun _ a=>?_) (fun _ a=>?_)
 ·refine qc<|qa J<|qw ?_;cases a;exact Q8 _ J
 refine qn<|qf<|qc<|qa J<|q8<|q7 a fun h q a=>?_;refine Qn (fun g=>.inl g = h) (fun g=>⟨[(0,.d (.sl 6 (c.map Q1)))],[],0⟩) qe ?_ ?_
 ·refine Ql (q79 c) (fun j=>⟨[(0,.d (.sl 6 (c.map Q1))),(3,q9 j)],[],0⟩) _ h q (wkA [] [] []) ?_;intro j ab b;unfold q79 at b;refine qf<|qc<|U J<|U J<|K1 J<|O _ J<|q8 ?_;refine qm J b (fun _ b=>?_) (fun _ b=>?_)
  ·refine qn<|qf<|Qc<|qc<|U J<|U J<|q7 b fun s t b=>Qq t J<|O _ J<|q7 b fun u v b=>qv (qxy s u v) J<|O _ J<|q8 ?_;refine qm J b (fun _ b=>?_) (fun _ b=>?_)
   ·refine qc<|qa J<|qw ?_;refine ⟨_,qt b,fun hm=>?_⟩;subst hm;cases a;exact Q8 _ J
   refine qn<|Qo<|Qs<|Q6<|U J<|O _ J<|qa J<|Q4<|⟨_,qt b,wkA [] [] []⟩
  refine Qf ?_;refine ⟨_,qt b,fun hm=>?_⟩;subst hm;exact ⟨_,J,wkA [] [] []⟩
 intro g hb;subst hb;refine qc<|U J<|q7 a fun k x a=>qv (q70 (.cons (.refl _) (.cons (.refl _) (.cons (.nil _) .nil))) (qxt 2 c [] k x)) J<|U J<|O _ J<|O _ J<|qa J<|qa J<|q8<|qf<|qc<|U J<|O _ J<|q7 a fun y f a=>?_;refine Q9 6 (fun A st=>∃ l m n o p,st = A [(33,ql y),(32,p),(31,o),(30,n),(29,m),(28,l)]) ?_ ?_
 ·refine Qa J J f (fun f=>?_) (fun f=>?_)
  ·refine qb J<|qb J<|qb J<|qb J<|O _ J<|q8 ?_;cases f;exact ⟨_,_,_,_,_,J⟩
  refine U J<|U J<|q7 f fun z aa f=>qv (qo7 k.1 c z aa) J<|O _ J<|O _ J<|q8 ?_;cases f;exact ⟨_,_,_,_,_,J⟩
 rintro _ ⟨l,m,n,o,p,rfl⟩;refine q8 ?_;refine qm J a (fun _ a=>?_) (fun _ a=>?_)
 ·refine qc<|qa J<|qw ?_;cases a;exact Q8 _ J
 refine qn<|qc<|qa J<|qw ?_;cases a;exact Q8 _ J
theorem q5k (g : List qh) (h : qg) (r : Int) (a : Us g h = some r) : Pure Tryz.prog tab 45 [.sl 6 (g.map Q1),.agg (Qh h)] (qd r):=by
 unfold Us at a;refine Qm Tryz.func45 J qi qi J<|qc<|Qj _ _ J<|qa J<|q8<|qf<|qc<|U J<|q7 a fun r1 h2 a=>qv (qo4 g r1 h2) J<|O _ J<|q8 ?_;refine qm J a (fun _ a=>?_) (fun _ a=>?_)
 ·refine qc<|U J<|q7 a fun r5 h6 a=>qv (qo4 g r5 h6) J<|qa J<|qw ?_;cases a;exact Q8 _ J
 refine qn<|qf<|qc<|qa J<|q8<|q7 a fun m ba a=>?_;refine Qn (fun l=>.inl l = m) (fun l=>⟨[(3,.ref 0 3 0 0)],[(0,.dat 3 [(Qh h)])],1⟩) qe ?_ ?_
 ·refine Ql (q7e g) (fun n=>⟨[(0,.d (.sl 6 (g.map Q1))),(3,.ref 0 3 0 0),(5,q9 n)],[(0,.dat 3 [(Qh h)])],1⟩) _ m ba (wkA [(0,0)] [] []) ?_;intro n bp b;unfold q7e at b;refine qf<|qc<|U J<|U J<|K1 J<|O _ J<|q8 ?_;refine qm J b (fun _ b=>?_) (fun _ b=>?_)
  ·refine qn<|qf<|Qc<|qc<|U J<|U J<|q7 b fun bb bc b=>Qq bc J<|O _ J<|O _ J<|q7 b fun bd be b=>qv (q7h bb.Lo 30 bd be) J<|O _ J<|q7 b fun bf c b=>?_;refine Q9 9 (fun A st=>∃ o p q s t u v x,st = A [(32,ql bf),(31,x),(30,v),(29,u),(28,t),(27,s),(26,q),(25,p),(24,o)]) ?_ ?_
   ·refine Qa J J c (fun c=>?_) (fun c=>?_)
    ·refine qb J<|qb J<|qb J<|qb J<|qb J<|qb J<|qb J<|O _ J<|q8 ?_;cases c;exact ⟨_,_,_,_,_,_,_,_,J⟩
    refine U J<|U J<|q7 c fun bg bh c=>Qq bh J<|O _ J<|O _ J<|q7 c fun bi bj c=>qv (q7h bg.Hi 30 bi bj) J<|O _ J<|O _ J<|q8 ?_;cases c;exact ⟨_,_,_,_,_,_,_,_,J⟩
   rintro _ ⟨o,p,q,s,t,u,v,x,rfl⟩;refine q8 ?_;refine qm J b (fun _ b=>?_) (fun _ b=>?_)
   ·refine qc<|qa J<|qw ?_;refine ⟨_,qt b,fun hm=>?_⟩;subst hm;cases a;exact Q8 _ J
   refine qn<|Qo<|Qs<|Q6<|U J<|O _ J<|qa J<|Q4<|⟨_,qt b,wkA [(0,0)] [] []⟩
  refine Qf ?_;refine ⟨_,qt b,fun hm=>?_⟩;subst hm;exact ⟨_,J,wkA [(0,0)] [] []⟩
 intro l hb;subst hb;refine qf<|qc<|O _ J<|q7 a fun bk bl a=>qv (q7h h 8 bk bl) J<|O _ J<|q7 a fun bm f a=>?_;refine Q9 15 (fun A st=>∃ y z aa ab ac ad ae af ag ah ai aj ak al,st = A [(50,ql bm),(49,al),(48,ak),(47,aj),(46,ai),(45,ah),(44,ag),(43,af),(42,ae),(41,ad),(40,ac),(39,ab),(38,aa),(37,z),(36,y)]) ?_ ?_
 ·refine Qa J J f (fun f=>?_) (fun f=>?_)
  ·refine qb J<|qb J<|qb J<|qb J<|qb J<|qb J<|qb J<|qb J<|qb J<|qb J<|qb J<|qb J<|qb J<|O _ J<|q8 ?_;cases f;exact ⟨_,_,_,_,_,_,_,_,_,_,_,_,_,_,J⟩
  refine O _ J<|O _ J<|O _ J<|q7 f fun bn j f=>?_;refine Q9 5 (fun A st=>∃ am an ao ap,st = A [(44,ql bn),(43,ap),(42,ao),(41,an),(40,am)]) ?_ ?_
  ·refine Qa J J j (fun j=>?_) (fun j=>?_)
   ·refine O _ J<|O _ J<|O _ J<|O _ J<|q8 ?_;cases j;exact ⟨_,_,_,_,J⟩
   refine qb J<|qb J<|qb J<|O _ J<|q8 ?_;cases j;exact ⟨_,_,_,_,J⟩
  rintro _ ⟨am,an,ao,ap,rfl⟩;refine q7 f fun bo k f=>?_;refine Q9 5 (fun A st=>∃ aq ar au av,st = A [(49,ql bo),(48,av),(47,au),(46,ar),(45,aq)]) ?_ ?_
  ·refine Qa J J k (fun k=>?_) (fun k=>?_)
   ·refine O _ J<|O _ J<|O _ J<|O _ J<|q8 ?_;cases k;exact ⟨_,_,_,_,J⟩
   refine qb J<|qb J<|qb J<|O _ J<|q8 ?_;cases k;exact ⟨_,_,_,_,J⟩
  rintro _ ⟨aq,ar,au,av,rfl⟩;refine O _ J<|q8 ?_;cases f;exact ⟨_,_,_,_,_,_,_,_,_,_,_,_,_,_,J⟩
 rintro _ ⟨y,z,aa,ab,ac,ad,ae,af,ag,ah,ai,aj,ak,al,rfl⟩;refine q8 ?_;refine qm J a (fun _ a=>?_) (fun _ a=>?_)
 ·refine qc<|qa J<|qw ?_;cases a;exact Q8 _ J
 refine qn<|qc<|qa J<|qw ?_;cases a;exact Q8 _ J
theorem qxr (h : qh) (j : qg) (r : Bool) (a : qai h j = some r) : Pure Tryz.prog tab 114 [.agg (Q1 h),.agg (Qh j)] (.bool r):=by
 unfold qai at a;refine Qm Tryz.func114 J qi qi J<|qc<|Qj _ _ J<|Qj _ _ J<|qa J<|qx<|O _ J<|O _ J<|O _ J<|O _ J<|O _ J<|O _ J<|q7 a fun c1 b a=>?_;refine Q9 8 (fun A st=>∃ k l m n o p q,st = A [(18,ql c1),(17,q),(16,p),(15,o),(14,n),(13,m),(12,l),(11,k)]) ?_ ?_
 ·refine Qa J J b (fun b=>?_) (fun b=>?_)
  ·refine O _ J<|O _ J<|O _ J<|O _ J<|O _ J<|O _ J<|O _ J<|q8 ?_;cases b;exact ⟨_,_,_,_,_,_,_,J⟩
  refine qb J<|qb J<|qb J<|qb J<|qb J<|qb J<|O _ J<|q8 ?_;cases b;exact ⟨_,_,_,_,_,_,_,J⟩
 rintro _ ⟨k,l,m,n,o,p,q,rfl⟩;refine q7 a fun ay c a=>?_;refine Q9 8 (fun A st=>∃ s t u v x y z,st = A [(26,ql ay),(25,z),(24,y),(23,x),(22,v),(21,u),(20,t),(19,s)]) ?_ ?_
 ·refine Qa J J c (fun c=>?_) (fun c=>?_)
  ·refine O _ J<|O _ J<|O _ J<|O _ J<|O _ J<|O _ J<|O _ J<|q8 ?_;cases c;exact ⟨_,_,_,_,_,_,_,J⟩
  refine qb J<|qb J<|qb J<|qb J<|qb J<|qb J<|O _ J<|q8 ?_;cases c;exact ⟨_,_,_,_,_,_,_,J⟩
 rintro _ ⟨s,t,u,v,x,y,z,rfl⟩;refine q7 a fun az d a=>?_;refine Q9 8 (fun A st=>∃ aa ab ac ad ae af ag,st = A [(34,ql az),(33,ag),(32,af),(31,ae),(30,ad),(29,ac),(28,ab),(27,aa)]) ?_ ?_
 ·refine Qa J J d (fun d=>?_) (fun d=>?_)
  ·refine O _ J<|O _ J<|O _ J<|O _ J<|O _ J<|O _ J<|O _ J<|q8 ?_;cases d;exact ⟨_,_,_,_,_,_,_,J⟩
  refine qb J<|qb J<|qb J<|qb J<|qb J<|qb J<|O _ J<|q8 ?_;cases d;exact ⟨_,_,_,_,_,_,_,J⟩
 rintro _ ⟨aa,ab,ac,ad,ae,af,ag,rfl⟩;refine q7 a fun ba f a=>?_;refine Q9 8 (fun A st=>∃ ah ai aj ak al am an,st = A [(42,ql ba),(41,an),(40,am),(39,al),(38,ak),(37,aj),(36,ai),(35,ah)]) ?_ ?_
 ·refine Qa J J f (fun f=>?_) (fun f=>?_)
  ·refine O _ J<|O _ J<|O _ J<|O _ J<|O _ J<|O _ J<|O _ J<|q8 ?_;cases f;exact ⟨_,_,_,_,_,_,_,J⟩
  refine qb J<|qb J<|qb J<|qb J<|qb J<|qb J<|O _ J<|q8 ?_;cases f;exact ⟨_,_,_,_,_,_,_,J⟩
 rintro _ ⟨ah,ai,aj,ak,al,am,an,rfl⟩;refine q7 a fun bb g a=>?_;refine Q9 8 (fun A st=>∃ ao ap aq ar au av aw,st = A [(50,ql bb),(49,aw),(48,av),(47,au),(46,ar),(45,aq),(44,ap),(43,ao)]) ?_ ?_
 ·refine Qa J J g (fun g=>?_) (fun g=>?_)
  ·refine O _ J<|O _ J<|O _ J<|O _ J<|O _ J<|O _ J<|O _ J<|q8 ?_;cases g;exact ⟨_,_,_,_,_,_,_,J⟩
  refine qb J<|qb J<|qb J<|qb J<|qb J<|qb J<|O _ J<|q8 ?_;cases g;exact ⟨_,_,_,_,_,_,_,J⟩
 rintro _ ⟨ao,ap,aq,ar,au,av,aw,rfl⟩;refine qa J<|qw ?_;cases a;exact Q8 _ J
theorem qo6 (f : List qh) (b : qg) (r : Bool) (c : q7a f b = some r) : Pure Tryz.prog tab 83 [.sl 6 (f.map Q1),.agg (Qh b)] (.bool r):=by
 unfold q7a at c;refine Qm Tryz.func83 J qi qi J<|qc<|Qj _ _ J<|qa J<|q8<|qf<|qc<|qa J<|q8<|q7 c fun h k c=>?_;refine Qn (fun g=>.inl g = h) (fun g=>⟨[],[],0⟩) qe ?_ ?_
 ·refine Ql (q7b f b) (fun j=>⟨[(0,.d (.sl 6 (f.map Q1))),(3,.ref 0 3 0 0),(5,q9 j)],[(0,.dat 3 [(Qh b)])],1⟩) _ h k (wkA [(0,0)] [] []) ?_;intro j p a;unfold q7b at a;refine qf<|qc<|U J<|U J<|K1 J<|O _ J<|q8 ?_;refine qm J a (fun _ a=>?_) (fun _ a=>?_)
  ·refine qn<|qf<|Qc<|qf<|Qk [q6,Q2 0,q6,q6,q6,q6] qi<|U J<|U J<|q7 a fun l m a=>Qq m J<|O _ J<|O _ J<|q7 a fun n o a=>qv (qxr l b n o) J<|q8 ?_;refine qm J a (fun _ a=>?_) (fun _ a=>?_)
   ·refine qc<|qa J<|qw ?_;refine ⟨_,qt a,fun hm=>?_⟩;subst hm;cases c;exact Q8 _ J
   refine qn<|Qo<|Qs<|Q6<|U J<|O _ J<|qa J<|Q4<|⟨_,qt a,wkA [(0,0)] [] []⟩
  refine Qf ?_;refine ⟨_,qt a,fun hm=>?_⟩;subst hm;exact ⟨_,J,wkA [] [] []⟩
 intro g hb;subst hb;refine qc<|qa J<|qw ?_;cases c;exact Q8 _ J
theorem qo2 (d : Int) (r : qg) (a : qag d = some r) : Pure Tryz.prog tab 84 [qd d] (.agg (Qh r)):=by
 unfold qag at a;refine Qm Tryz.func84 J qi qi J<|qc<|Qt J J<|qx<|qa J<|q8<|qf<|qc<|U J<|O _ J<|O _ J<|q8<|q7 a fun f b a=>?_;refine Y9 (fun c=>c = f) (fun c=>⟨[(0,q9 d),(2,.ref 0 3 0 0),(3,q9 c)],[(0,.dat 3 [[qd 0,qd 0,qd 0]])],1⟩) qe ?_ ?_
 ·refine qm J b (fun _ b=>?_) (fun _ b=>?_)
  ·refine Q6<|qa J<|Q4 ?_;obtain rfl:=Q0 b;exact ⟨_,J,wkA [(0,0)] [] []⟩
  refine qn<|Qo ?_;obtain rfl:=Q0 b;exact ⟨_,J,wkA [(0,0)] [] []⟩
 intro c hb;subst hb;refine qf<|qc<|U J<|O _ J<|q8 ?_;refine qm J a (fun _ a=>?_) (fun _ a=>?_)
 ·refine qc<|U J<|O _ J<|Qd 0 _ J<|qw ?_;cases a;exact Q8 _ J
 refine qn<|qf<|qc<|U J<|O _ J<|q8 ?_;refine qm J a (fun _ a=>?_) (fun _ a=>?_)
 ·refine qc<|U J<|O _ J<|Qd 0 _ J<|qw ?_;cases a;exact Q8 _ J
 refine qn<|qc<|U J<|O _ J<|Qd 0 _ J<|qw ?_;cases a;exact Q8 _ J
theorem qi0 (a : qg) (b : qg) (r : qg) (c : q3z a b = some r) : Pure Tryz.prog tab 75 [.agg (Qh a),.agg (Qh b)] (.agg (Qh r)):=by
 unfold q3z at c;refine Qm Tryz.func75 J qi qi J<|qc<|Qj _ _ J<|Qj _ _ J<|Qt J J<|qx<|O _ J<|O _ J<|O _ J<|O _ J<|O _ J<|O _ J<|O _ J<|O _ J<|O _ J<|O _ J<|O _ J<|O _ J<|O _ J<|O _ J<|O _ J<|O _ J<|Qd 2 _ J<|qw ?_;cases c;exact Q8 _ J
theorem qo9 (c : List qh) (d : qg) (f : Int) (r : Bool) (b : q7f c d f = some r) : Pure Tryz.prog tab 46 [.sl 6 (c.map Q1),.agg (Qh d),qd f] (.bool r):=by
 unfold q7f at b;refine Qm Tryz.func46 J qi qi J<|qc<|Qj _ _ J<|qa J<|q8<|qf<|Qk [q6,q6,q6,q6,q6,q6,q6,Q2 0,q6,q6,q6,Q2 0,q6] qi<|U J<|O _ J<|q7 b fun s t b=>qv (qo6 c d s t) J<|q7 b fun u a b=>?_;refine Q9 9 (fun A st=>∃ g h j k l m n o,st = A [(18,ql u),(17,o),(16,n),(15,m),(14,l),(13,k),(12,j),(11,h),(10,g)]) ?_ ?_
 ·refine Qa J J a (fun a=>?_) (fun a=>?_)
  ·refine U J<|O _ J<|U J<|q7 a fun p v a=>qv (qo2 f p v) J<|q7 a fun q x a=>qv (qi0 d p q x) J<|q7 a fun y z a=>qv (qo6 c q y z) J<|O _ J<|O _ J<|q8 ?_;cases a;exact ⟨_,_,_,_,_,_,_,_,J⟩
  refine qb J<|qb J<|qb J<|qb J<|qb J<|qb J<|qb J<|O _ J<|q8 ?_;cases a;exact ⟨_,_,_,_,_,_,_,_,J⟩
 rintro _ ⟨g,h,j,k,l,m,n,o,rfl⟩;refine qa J<|qw ?_;cases b;exact Q8 _ J
theorem qxk (a : qg) (b : qg) (r : Int) (c : qe9 a b = some r) : Pure Tryz.prog tab 85 [.agg (Qh a),.agg (Qh b)] (qd r):=by
 unfold qe9 at c;refine Qm Tryz.func85 J qi qi J<|qc<|Qj _ _ J<|Qj _ _ J<|qa J<|qx<|O _ J<|O _ J<|O _ J<|O _ J<|O _ J<|O _ J<|O _ J<|O _ J<|O _ J<|O _ J<|O _ J<|O _ J<|O _ J<|O _ J<|O _ J<|O _ J<|O _ J<|qa J<|qw ?_;cases c;exact Q8 _ J
theorem qxm (a : Int) (b : qg) (r : qg) (c : qea a b = some r) : Pure Tryz.prog tab 34 [qd a,.agg (Qh b)] (.agg (Qh r)):=by
 unfold qea at c;refine Qm Tryz.func34 J qi qi J<|qc<|Qj _ _ J<|Qt J J<|qx<|U J<|O _ J<|O _ J<|O _ J<|U J<|O _ J<|O _ J<|O _ J<|U J<|O _ J<|O _ J<|O _ J<|O _ J<|Qd 1 _ J<|qw ?_;cases c;exact Q8 _ J
theorem qnw (f : Int) (g : Int) (r : Int) (a : q5a f g = some r) : Pure Tryz.prog tab 63 [qd f,qd g] (qd r):=by
 unfold q5a at a;refine Qm Tryz.func63 J qi qi J<|qc<|qa J<|q8<|qf<|q7 a fun h j a=>?_;refine Qn (fun c=>c = h) (fun c=>⟨[(0,q9 c)],[],0⟩) qe ?_ ?_
 ·refine Ql (q72) (fun d=>⟨[(0,q9 d.1),(1,q9 d.2)],[],0⟩) _ h j (wkA [] [] []) ?_;intro d l b;unfold q72 at b;refine qf<|qc<|U J<|O _ J<|q8 ?_;refine qm J b (fun _ b=>?_) (fun _ b=>?_)
  ·refine qn<|Qc<|Qk [q6,q6,q6,q6,q6,q6] qi<|U J<|U J<|U J<|q7 b fun m k b=>qvy k J J J<|qa J<|qa J<|Q4<|Qs<|Qo<|⟨_,qt b,wkA [] [] []⟩
  refine Qf ?_;refine ⟨_,qt b,fun hm=>?_⟩;subst hm;exact ⟨_,J,wkA [] [] []⟩
 intro c hb;subst hb;refine qf<|qc<|U J<|O _ J<|q8 ?_;refine qm J a (fun _ a=>?_) (fun _ a=>?_)
 ·refine qc<|U J<|O _ J<|qa J<|qw ?_;cases a;exact Q8 _ J
 refine qn<|qc<|U J<|qa J<|qw ?_;cases a;exact Q8 _ J
theorem qdy (g : Qr) (r : Int) (a : q2h g = some r) : Pure Tryz.prog tab 64 [.agg (Kp g)] (qd r):=by
 unfold q2h at a;refine Qm Tryz.func64 J qi qi J<|qc<|Qj _ _ J<|qa J<|q8<|qf<|qc<|O _ J<|O _ J<|O _ J<|q7 a fun c1 c a=>?_;refine Q9 5 (fun A st=>∃ h j k l,st = A [(10,ql c1),(9,l),(8,k),(7,j),(6,h)]) ?_ ?_
 ·refine Qa J J c (fun c=>?_) (fun c=>?_)
  ·refine qb J<|qb J<|qb J<|O _ J<|q8 ?_;cases c;exact ⟨_,_,_,_,J⟩
  refine O _ J<|O _ J<|O _ J<|O _ J<|q8 ?_;cases c;exact ⟨_,_,_,_,J⟩
 rintro _ ⟨h,j,k,l,rfl⟩;refine q7 a fun c7 d a=>?_;refine Q9 5 (fun A st=>∃ m n o p,st = A [(15,ql c7),(14,p),(13,o),(12,n),(11,m)]) ?_ ?_
 ·refine Qa J J d (fun d=>?_) (fun d=>?_)
  ·refine qb J<|qb J<|qb J<|O _ J<|q8 ?_;cases d;exact ⟨_,_,_,_,J⟩
  refine O _ J<|O _ J<|O _ J<|O _ J<|q8 ?_;cases d;exact ⟨_,_,_,_,J⟩
 rintro _ ⟨m,n,o,p,rfl⟩;refine q7 a fun af f a=>?_;refine Q9 5 (fun A st=>∃ q s t u,st = A [(20,ql af),(19,u),(18,t),(17,s),(16,q)]) ?_ ?_
 ·refine Qa J J f (fun f=>?_) (fun f=>?_)
  ·refine qb J<|qb J<|qb J<|O _ J<|q8 ?_;cases f;exact ⟨_,_,_,_,J⟩
  refine O _ J<|O _ J<|O _ J<|O _ J<|q8 ?_;cases f;exact ⟨_,_,_,_,J⟩
 rintro _ ⟨q,s,t,u,rfl⟩;refine q7 a fun ag b a=>?_;refine Q9 8 (fun A st=>∃ v x y z aa ab ac,st = A [(28,ql ag),(27,ac),(26,ab),(25,aa),(24,z),(23,y),(22,x),(21,v)]) ?_ ?_
 ·refine Qa J J b (fun b=>?_) (fun b=>?_)
  ·refine qb J<|qb J<|qb J<|qb J<|qb J<|qb J<|O _ J<|q8 ?_;cases b;exact ⟨_,_,_,_,_,_,_,J⟩
  refine O _ J<|O _ J<|O _ J<|O _ J<|q7 b fun ah ai b=>qv (qnw g.Num g.Den ah ai) J<|O _ J<|O _ J<|q8 ?_;cases b;exact ⟨_,_,_,_,_,_,_,J⟩
 rintro _ ⟨v,x,y,z,aa,ab,ac,rfl⟩;refine q8 ?_;refine qm J a (fun _ a=>?_) (fun _ a=>?_)
 ·refine qc<|qa J<|qw ?_;cases a;exact Q8 _ J
 refine qn<|qc<|qa J<|qw ?_;cases a;exact Q8 _ J
theorem qe0 (h : Int) (j : Int) (r : Qr × Int) (a : q3v h j = some r) : Pure Tryz.prog tab 30 [qd h,qd j] (.tup [.agg (Kp r.1),qd r.2]):=by
 unfold q3v at a;refine Qm Tryz.func30 J qi qi J<|qc<|Qt J J<|qa J<|q8<|qf<|qc<|U J<|O _ J<|q8 ?_;refine qm J a (fun _ a=>?_) (fun _ a=>?_)
 ·refine qc<|O _ J<|Qd 0 _ J<|qa J<|qw ?_;cases a;exact Q8 _ J
 refine qn<|qf<|qc<|U J<|O _ J<|q7 a fun v c a=>?_;refine Q9 4 (fun A st=>∃ k l m,st = A [(16,ql v),(15,m),(14,l),(13,k)]) ?_ ?_
 ·refine Qa J J c (fun c=>?_) (fun c=>?_)
  ·refine U J<|O _ J<|O _ J<|q8 ?_;cases c;exact ⟨_,_,_,J⟩
  refine qb J<|qb J<|O _ J<|q8 ?_;cases c;exact ⟨_,_,_,J⟩
 rintro _ ⟨k,l,m,rfl⟩;refine q8 ?_;refine qm J a (fun _ a=>?_) (fun _ a=>?_)
 ·refine qc<|O _ J<|Qd 0 _ J<|qa J<|qw ?_;cases a;exact Q8 _ J
 refine qn<|qf<|qc<|U J<|O _ J<|q7 a fun x d a=>?_;refine Q9 4 (fun A st=>∃ n o p,st = A [(23,ql x),(22,p),(21,o),(20,n)]) ?_ ?_
 ·refine Qa J J d (fun d=>?_) (fun d=>?_)
  ·refine qb J<|qb J<|O _ J<|q8 ?_;cases d;exact ⟨_,_,_,J⟩
  refine U J<|O _ J<|O _ J<|q8 ?_;cases d;exact ⟨_,_,_,J⟩
 rintro _ ⟨n,o,p,rfl⟩;refine q8 ?_;refine qm J a (fun _ a=>?_) (fun _ a=>?_)
 ·refine qf<|qc<|U J<|O _ J<|O _ J<|q7 a fun y f a=>?_;refine Q9 5 (fun A st=>∃ q s t u,st = A [(31,ql y),(30,u),(29,t),(28,s),(27,q)]) ?_ ?_
  ·refine Qa J J f (fun f=>?_) (fun f=>?_)
   ·refine U J<|O _ J<|O _ J<|O _ J<|q8 ?_;cases f;exact ⟨_,_,_,_,J⟩
   refine qb J<|qb J<|qb J<|O _ J<|q8 ?_;cases f;exact ⟨_,_,_,_,J⟩
  rintro _ ⟨q,s,t,u,rfl⟩;refine q8 ?_;refine qm J a (fun _ a=>?_) (fun _ a=>?_)
  ·refine qc<|U J<|O _ J<|U J<|O _ J ?_;cases a
  refine qn<|qc<|O _ J<|Qd 0 _ J<|qa J<|qw ?_;cases a;exact Q8 _ J
 refine qn<|qf<|qc<|U J<|O _ J<|q8<|q7 a fun z g a=>?_;refine Y9 (fun b=>b = z) (fun b=>⟨[(0,q9 b.1),(1,q9 b.2),(4,.ref 0 2 0 0)],[(0,.dat 2 [[qd 0,qd 0]])],1⟩) qe ?_ ?_
 ·refine qm J g (fun _ g=>?_) (fun _ g=>?_)
  ·refine Q6<|U J<|O _ J<|U J<|O _ J<|qa J<|qa J<|Q4 ?_;obtain rfl:=Q0 g;exact ⟨_,J,wkA [(0,0)] [] []⟩
  refine qn<|Qo ?_;obtain rfl:=Q0 g;exact ⟨_,J,wkA [(0,0)] [] []⟩
 intro b hb;subst hb;refine qc<|U J<|U J<|q7 a fun aa ab a=>qv (qnw b.1 b.2 aa ab) J<|qa J<|q8<|qf<|Qk [Qv 1,(some [],[1]),q6,q6,q6,q6,q6,q6,q6] qi<|U J<|U J<|q7 a fun ac ad a=>qa8 ad J J J<|U J<|U J<|q7 a fun ae af a=>qa8 af J J J<|O _ J<|Qt J J<|Qd 1 _ J<|q8<|qf<|qc<|O _ J<|q7 a fun ag ah a=>qv (qdy ({Num:=ac,Den:=ae} : Qr) ag ah) J<|O _ J<|q8 ?_;refine qm J a (fun _ a=>?_) (fun _ a=>?_)
 ·refine qc<|O _ J<|Qd 0 _ J<|qa J<|qw ?_;cases a;exact Q8 _ J
 refine qn<|qc<|O _ J<|Qd 0 _ J<|qa J<|qw ?_;cases a;exact Q8 _ J
theorem qei (b : Int) (c : Int) (r : Qr) (a : q44 b c = some r) : Pure Tryz.prog tab 89 [qd b,qd c] (.agg (Kp r)):=by
 unfold q44 at a;refine Qm Tryz.func89 J qi qi J<|qc<|Qt J J<|qx<|U J<|U J<|q7 a fun d f a=>qv (qe0 b c d f) J<|U J<|O _ J<|O _ J<|Qt J J<|Qd 1 _ J<|qa J<|qx<|O _ J<|Qd 0 _ J<|qw ?_;cases a;exact Q8 _ J
theorem q1k (b : qg) (c : Int) (r : Int) (a : Ya b c = some r) : Pure Tryz.prog tab 62 [.agg (Qh b),qd c] (qd r):=by
 unfold Ya at a;refine Qm Tryz.func62 J qi qi J<|qc<|Qj _ _ J<|qa J<|q8<|qf<|qc<|U J<|O _ J<|q8 ?_;refine qm J a (fun _ a=>?_) (fun _ a=>?_)
 ·refine qc<|O _ J<|O _ J<|qa J<|qw ?_;cases a;exact Q8 _ J
 refine qn<|qf<|qc<|U J<|O _ J<|q8 ?_;refine qm J a (fun _ a=>?_) (fun _ a=>?_)
 ·refine qc<|O _ J<|O _ J<|qa J<|qw ?_;cases a;exact Q8 _ J
 refine qn<|qc<|O _ J<|O _ J<|qa J<|qw ?_;cases a;exact Q8 _ J
theorem qnu (a : Qr) (b : Qr) (r : Bool) (c : q71 a b = some r) : Pure Tryz.prog tab 33 [.agg (Kp a),.agg (Kp b)] (.bool r):=by
 unfold q71 at c;refine Qm Tryz.func33 J qi qi J<|qc<|Qj _ _ J<|Qj _ _ J<|qa J<|qx<|O _ J<|O _ J<|O _ J<|O _ J<|O _ J<|O _ J<|O _ J<|O _ J<|O _ J<|O _ J<|O _ J<|qa J<|qw ?_;cases c;exact Q8 _ J
theorem qy9 (c : qh) (d : qg) (g : qg) (r : List Qr) (p : qar c d g = some r) : Pure Tryz.prog tab 88 [.agg (Q1 c),.agg (Qh d),.agg (Qh g)] (.sl 2 (r.map Kp)):=by
 unfold qar at p;refine Qm Tryz.func88 J qi qi J<|qc<|Qj _ _ J<|Qj _ _ J<|Qj _ _ J<|qa J<|qx<|q7 p fun r1 h2 p=>qv (qei 0 1 r1 h2) J<|Qj _ _ J<|qa J<|q8<|qf<|qc<|qa J<|q8<|q7 p fun z aq p=>?_;refine Qn (fun t=>t = z) (fun t=>⟨[(7,.hs 0 2 0 t.length)],[(0,.dat 2 (t.map Kp))],1⟩) qe ?_ ?_
 ·refine Ql (q7n g c d) (fun b=>⟨[(3,.ref 0 6 0 0),(4,.ref 1 3 0 0),(5,.ref 2 3 0 0),(7,.hs 3 2 0 b.2.length),(8,q9 b.1)],[(0,.dat 6 [(Q1 c)]),(1,.dat 3 [(Qh d)]),(2,.dat 3 [(Qh g)]),(3,.dat 2 (b.2.map Kp))],4⟩) _ z aq (wkA [(0,0),(1,1),(2,2),(3,3)] [] []) ?_;intro b bm l;unfold q7n at l;refine qf<|qc<|U J<|O _ J<|q8 ?_;refine qm J l (fun _ l=>?_) (fun _ l=>?_)
  ·refine qn<|qf<|q7 l fun ar j l=>?_;refine Qn (fun u=>u = ar) (fun u=>⟨[(3,.ref 0 6 0 0),(4,.ref 1 3 0 0),(5,.ref 2 3 0 0),(7,.hs 3 2 0 u.length),(8,q9 b.1)],[(0,.dat 6 [(Q1 c)]),(1,.dat 3 [(Qh d)]),(2,.dat 3 [(Qh g)]),(3,.dat 2 (u.map Kp))],4⟩) qe ?_ ?_
   ·refine qc<|O _ J<|U J<|q7 j fun m au j=>qv (q1k g b.1 m au) J<|qa J<|q8<|qf<|qc<|U J<|O _ J<|q8 ?_;refine qm J j (fun _ j=>?_) (fun _ j=>?_)
    ·refine Qf ?_;obtain rfl:=Q0 j;exact ⟨_,J,wkA [(0,0),(1,1),(2,2),(3,3)] [] []⟩
    refine qn<|qc<|qa J<|q8<|q7 j fun av aw j=>Qc<|Ql (q7o c b d m) (fun h=>⟨[(3,.ref 0 6 0 0),(4,.ref 1 3 0 0),(5,.ref 2 3 0 0),(7,.hs 3 2 0 h.2.length),(8,q9 b.1),(9,q9 m),(10,q9 h.1)],[(0,.dat 6 [(Q1 c)]),(1,.dat 3 [(Qh d)]),(2,.dat 3 [(Qh g)]),(3,.dat 2 (h.2.map Kp))],4⟩) _ av aw (wkA [(0,0),(1,1),(2,2),(3,3)] [] []) ?_;intro h bn n;unfold q7o at n;refine qf<|qc<|U J<|O _ J<|q8 ?_;refine qm J n (fun _ n=>?_) (fun _ n=>?_)
    ·refine qn<|qf<|q7 n fun ax a n=>?_;refine Qn (fun v=>v = ax) (fun v=>⟨[(3,.ref 0 6 0 0),(4,.ref 1 3 0 0),(5,.ref 2 3 0 0),(7,.hs 3 2 0 v.length),(8,q9 b.1),(9,q9 m),(10,q9 h.1)],[(0,.dat 6 [(Q1 c)]),(1,.dat 3 [(Qh d)]),(2,.dat 3 [(Qh g)]),(3,.dat 2 (v.map Kp))],4⟩) qe ?_ ?_
     ·refine qc<|O _ J<|O _ J<|U J<|q7 a fun ay az a=>qv (q1k c.Lo b.1 ay az) J<|qa J<|q8<|qf<|qc<|U J<|O _ J<|q8<|q7 a fun ba o a=>?_;refine Y9 (fun x=>x = ba) (fun x=>⟨[(3,.ref 0 6 0 0),(4,.ref 1 3 0 0),(5,.ref 2 3 0 0),(7,.hs 3 2 0 h.2.length),(8,q9 b.1),(9,q9 m),(10,q9 h.1),(11,q9 x)],[(0,.dat 6 [(Q1 c)]),(1,.dat 3 [(Qh d)]),(2,.dat 3 [(Qh g)]),(3,.dat 2 (h.2.map Kp))],4⟩) qe ?_ ?_
      ·refine qm J o (fun _ o=>?_) (fun _ o=>?_)
       ·refine Q6<|O _ J<|O _ J<|U J<|q7 o fun bb bc o=>qv (q1k c.Hi b.1 bb bc) J<|qa J<|Q4 ?_;obtain rfl:=Q0 o;exact ⟨_,J,wkA [(0,0),(1,1),(2,2),(3,3)] [] []⟩
       refine qn<|Qo ?_;obtain rfl:=Q0 o;exact ⟨_,J,wkA [(0,0),(1,1),(2,2),(3,3)] [] []⟩
      intro x hb;subst hb;refine qc<|U J<|O _ J<|O _ J<|U J<|q7 a fun aa bd a=>qv (q1k d b.1 aa bd) J<|O _ J<|U J<|O _ J<|q7 a fun q be a=>qv (qei (w64 ((w64 (2 * x)) - aa)) (w64 (2 * m)) q be) J<|Qt J J<|Qd 4 _ J<|q8<|qf<|qc<|O _ J<|O _ J<|O _ J<|q8 ?_;refine qm J a (fun _ a=>?_) (fun _ a=>?_)
      ·refine Qf ?_;obtain rfl:=Q0 a;exact ⟨_,J,wkA [(0,0),(1,1),(2,2),(3,3)] [] []⟩
      refine qn<|qc<|U J<|O _ J<|qa J<|qx<|U J<|O _ J<|Qj _ _ J<|q7 a fun bo bf a=>Ye _ bf J J J J J J J (Yi J J) J J J J<|qa J<|q8<|qf<|q7 a fun ab bg a=>?_;refine Qn (fun s=>s = ab) (fun s=>⟨[(3,.ref 0 6 0 0),(4,.ref 1 3 0 0),(5,.ref 2 3 0 0),(7,.hs 3 2 0 s.2.length),(8,q9 b.1),(9,q9 m),(10,q9 h.1),(12,.ref 4 2 0 0),(13,q9 s.1)],[(0,.dat 6 [(Q1 c)]),(1,.dat 3 [(Qh d)]),(2,.dat 3 [(Qh g)]),(3,.dat 2 (s.2.map Kp)),(4,.dat 2 [(Kp q)])],5⟩) qe ?_ ?_
      ·refine Ql (Ut q) (fun y=>⟨[(3,.ref 0 6 0 0),(4,.ref 1 3 0 0),(5,.ref 2 3 0 0),(7,.hs 3 2 0 y.2.length),(8,q9 b.1),(9,q9 m),(10,q9 h.1),(12,.ref 4 2 0 0),(13,q9 y.1)],[(0,.dat 6 [(Q1 c)]),(1,.dat 3 [(Qh d)]),(2,.dat 3 [(Qh g)]),(3,.dat 2 (y.2.map Kp)),(4,.dat 2 [(Kp q)])],5⟩) _ ab bg (wkA [(0,0),(1,1),(2,2),(3,6),(4,4)] [] []) ?_;intro y bp f;unfold Ut at f;refine qf<|qf<|Qk [q6,q6,Q2 3,q6,q6,q6,q6,Q2 4,q6,q6,q6] qi<|U J<|O _ J<|q7 f fun bh k f=>?_;refine Q9 9 (fun A st=>∃ ac ad ae af ag ah ai aj,st = A [(67,ql bh),(66,aj),(65,ai),(64,ah),(63,ag),(62,af),(61,ae),(60,ad),(59,ac)]) ?_ ?_
       ·refine Qa J J k (fun k=>?_) (fun k=>?_)
        ·refine O _ J<|U J<|U J<|O _ J<|q7 k fun bi ak k=>Q5 ak J J<|Qi _ ak J<|q7 k fun bj bk k=>qv (qnu q bi bj bk) J<|O _ J<|q8 ?_;cases k;exact ⟨_,_,_,_,_,_,_,_,J⟩
        refine qb J<|qb J<|qb J<|qb J<|qb J<|qb J<|qb J<|O _ J<|q8 ?_;cases k;exact ⟨_,_,_,_,_,_,_,_,J⟩
       rintro _ ⟨ac,ad,ae,af,ag,ah,ai,aj,rfl⟩;refine q8 ?_;refine qm J f (fun _ f=>?_) (fun _ f=>?_)
       ·refine qn<|Qc<|qc<|U J<|U J<|U J<|U J<|O _ J<|q7 f fun bl al f=>Q5 al J J<|Qi _ al J<|q7 f fun bq am f=>Q5 am J J<|K2 bl am J J J J J J J J (leb J) J<|q8<|Q6<|U J<|O _ J<|qa J<|Q4<|Qs<|Qo<|⟨_,qt f,wkE [(0,0),(1,1),(2,2),(3,3),(4,4)] [] [] J ⟨⟨_,J,.ref J qr (ltd J)⟩,⟨_,J,.ref J qr (ltd J)⟩,⟨_,J,.ref J qr (ltd J)⟩,⟨_,J,K5 qe J qr (ltd J)⟩,qo J,qo J,qo J,⟨_,J,.ref J qr (ltd J)⟩,qo J,trivial⟩ ⟨Qp J J,Qp J J,Qp J J,Qp J J,Qp J J,trivial⟩⟩
       refine Qf ?_;refine ⟨_,qt f,fun hm=>?_⟩;subst hm;exact ⟨_,J,wkA [(0,0),(1,1),(2,2),(3,3),(4,4)] [] []⟩
      intro s hb;subst hb;refine Q6<|U J<|U J<|O _ J<|q7 a fun br an a=>Q5 an J J<|K2 q an J J J J J J J J (leb J) J<|Q4 ?_;obtain rfl:=Q0 a;exact ⟨_,J,wkE [(0,0),(1,1),(2,2),(3,3)] [] [] J ⟨⟨_,J,.ref J qr (ltd J)⟩,⟨_,J,.ref J qr (ltd J)⟩,⟨_,J,.ref J qr (ltd J)⟩,⟨_,J,K5 qe J qr (ltd J)⟩,qo J,qo J,qo J,trivial⟩ ⟨Qp J J,Qp J J,Qp J J,Qp J J,trivial⟩⟩
     intro v hb;subst hb;refine Q6<|U J<|O _ J<|qa J<|Q4<|⟨_,qt n,wkA [(0,0),(1,1),(2,2),(3,3)] [] []⟩
    refine Qf ?_;refine ⟨_,qt n,fun hm=>?_⟩;subst hm;obtain rfl:=Q0 j;exact ⟨_,J,wkA [(0,0),(1,1),(2,2),(3,3)] [] []⟩
   intro u hb;subst hb;refine Q6<|U J<|O _ J<|qa J<|Q4<|⟨_,qt l,wkA [(0,0),(1,1),(2,2),(3,3)] [] []⟩
  refine Qf ?_;refine ⟨_,qt l,fun hm=>?_⟩;subst hm;exact ⟨_,J,wkA [(0,3)] [] []⟩
 intro t hb;subst hb;refine qc<|U J<|qa J<|qw ?_;obtain rfl:=Q0 p;exact finD (.inr J) J (Yk J J) (.refl _)
theorem qdx (b : Qr) (c : Qr) (r : Int) (a : q3u b c = some r) : Pure Tryz.prog tab 66 [.agg (Kp b),.agg (Kp c)] (qd r):=by
 unfold q3u at a;refine Qm Tryz.func66 J qi qi J<|qc<|Qj _ _ J<|Qj _ _ J<|qa J<|q8<|qf<|qc<|O _ J<|q7 a fun d f a=>qv (qdy b d f) J<|O _ J<|q8 ?_;refine qm J a (fun _ a=>?_) (fun _ a=>?_)
 ·refine qc<|O _ J<|q7 a fun g h a=>qv (qdy b g h) J<|qa J<|qw ?_;cases a;exact Q8 _ J
 refine qn<|qc<|O _ J<|q7 a fun j k a=>qv (qdy c j k) J<|qa J<|qw ?_;cases a;exact Q8 _ J
theorem qhu (b : Qr) (c : Qr) (r : Qr × Int) (a : q59 b c = some r) : Pure Tryz.prog tab 32 [.agg (Kp b),.agg (Kp c)] (.tup [.agg (Kp r.1),qd r.2]):=by
 unfold q59 at a;refine Qm Tryz.func32 J qi qi J<|qc<|Qj _ _ J<|Qj _ _ J<|Qt J J<|qa J<|q8<|qf<|qc<|O _ J<|O _ J<|q7 a fun d f a=>qv (qdx b c d f) J<|O _ J<|q8 ?_;refine qm J a (fun _ a=>?_) (fun _ a=>?_)
 ·refine qc<|O _ J<|O _ J<|O _ J<|q7 a fun g h a=>qv (qdx b c g h) J<|Qd 2 _ J<|qa J<|qw ?_;cases a;exact Q8 _ J
 refine qn<|qc<|O _ J<|O _ J<|O _ J<|O _ J<|O _ J<|O _ J<|O _ J<|O _ J<|O _ J<|O _ J<|O _ J<|O _ J<|O _ J<|O _ J<|O _ J<|O _ J<|q7 a fun j k a=>qv (qe0 (w64 ((w64 (b.Num * c.Den)) + (w64 (c.Num * b.Den)))) (w64 (b.Den * c.Den)) j k) J<|O _ J<|O _ J<|Qd 2 _ J<|qa J<|qw ?_;cases a;exact Q8 _ J
theorem qx6 (b : Qr) (c : Qr) (r : Qr × Int) (a : qab b c = some r) : Pure Tryz.prog tab 90 [.agg (Kp b),.agg (Kp c)] (.tup [.agg (Kp r.1),qd r.2]):=by
 unfold qab at a;refine Qm Tryz.func90 J qi qi J<|qc<|Qj _ _ J<|Qj _ _ J<|Qt J J<|qa J<|q8<|qf<|qc<|O _ J<|O _ J<|q7 a fun d f a=>qv (qdx b c d f) J<|O _ J<|q8 ?_;refine qm J a (fun _ a=>?_) (fun _ a=>?_)
 ·refine qc<|O _ J<|O _ J<|O _ J<|q7 a fun g h a=>qv (qdx b c g h) J<|Qd 2 _ J<|qa J<|qw ?_;cases a;exact Q8 _ J
 refine qn<|qc<|O _ J<|O _ J<|O _ J<|O _ J<|O _ J<|O _ J<|O _ J<|O _ J<|O _ J<|O _ J<|q7 a fun j k a=>qv (qe0 (w64 (b.Num * c.Num)) (w64 (b.Den * c.Den)) j k) J<|O _ J<|O _ J<|Qd 2 _ J<|qa J<|qw ?_;cases a;exact Q8 _ J
theorem qod (b : qh) (d : qg) (f : qg) (j : Qr) (r : Bool) (g : q7j b d f j = some r) : Pure Tryz.prog tab 65 [.agg (Q1 b),.agg (Qh d),.agg (Qh f),.agg (Kp j)] (.bool r):=by
 unfold q7j at g;refine Qm Tryz.func65 J qi qi J<|qc<|Qj _ _ J<|Qj _ _ J<|Qj _ _ J<|Qj _ _ J<|qa J<|q8<|qf<|qc<|qa J<|q8<|q7 g fun l q g=>?_;refine Qn (fun k=>.inl k = l) (fun k=>⟨[],[],0⟩) qe ?_ ?_
 ·refine Ql (q7k d f b j) (fun c=>⟨[(4,.ref 0 6 0 0),(5,.ref 1 3 0 0),(6,.ref 2 3 0 0),(7,.ref 3 2 0 0),(9,q9 c)],[(0,.dat 6 [(Q1 b)]),(1,.dat 3 [(Qh d)]),(2,.dat 3 [(Qh f)]),(3,.dat 2 [(Kp j)])],4⟩) _ l q (wkA [(0,0),(1,1),(2,2),(3,3)] [] []) ?_;intro c ac a;unfold q7k at a;refine qf<|qc<|U J<|O _ J<|q8 ?_;refine qm J a (fun _ a=>?_) (fun _ a=>?_)
  ·refine qn<|qf<|Qc<|qf<|Qk [q6,q6,q6,Q2 3,q6,q6,q6,q6,Q2 2,q6,Q2 3,q6,q6,q6,Q2 1] qi<|O _ J<|U J<|q7 a fun s t a=>qv (q1k d c s t) J<|O _ J<|O _ J<|O _ J<|O _ J<|U J<|q7 a fun u v a=>qv (q1k f c u v) J<|O _ J<|O _ J<|O _ J<|O _ J<|O _ J<|qa J<|q8<|qf<|Qk [q6,q6,q6,Q2 3,q6,q6,q6,q6,Q2 0,q6,q6,Q2 3,q6,q6,q6,q6,Q2 0,q6] qi<|O _ J<|O _ J<|U J<|q7 a fun x y a=>qv (q1k b.Lo c x y) J<|O _ J<|O _ J<|O _ J<|O _ J<|O _ J<|O _ J<|U J<|q7 a fun z aa a=>qv (q1k b.Hi c z aa) J<|O _ J ?_;refine O _ J<|O _ J<|O _ J<|qa J<|qa J<|qx<|U J<|U J<|O _ J<|q7 a fun ab h a=>?_;refine Q9 5 (fun A st=>∃ m n o p,st = A [(54,ql ab),(53,p),(52,o),(51,n),(50,m)]) ?_ ?_
   ·refine Qa J J h (fun h=>?_) (fun h=>?_)
    ·refine qb J<|qb J<|qb J<|O _ J<|q8 ?_;cases h;exact ⟨_,_,_,_,J⟩
    refine U J<|U J<|O _ J<|O _ J<|q8 ?_;cases h;exact ⟨_,_,_,_,J⟩
   rintro _ ⟨m,n,o,p,rfl⟩;refine q8 ?_;refine qm J a (fun _ a=>?_) (fun _ a=>?_)
   ·refine qc<|qa J<|qw ?_;refine ⟨_,qt a,fun hm=>?_⟩;subst hm;cases g;exact Q8 _ J
   refine qn<|Qo<|Qs<|Q6<|U J<|O _ J<|qa J<|Q4<|⟨_,qt a,wkA [(0,0),(1,1),(2,2),(3,3)] [] []⟩
  refine Qf ?_;refine ⟨_,qt a,fun hm=>?_⟩;subst hm;exact ⟨_,J,wkA [] [] []⟩
 intro k hb;subst hb;refine qc<|qa J<|qw ?_;cases g;exact Q8 _ J
theorem qob (b : qh) (c : qg) (f : qg) (r : Qr × Bool) (g : q7g b c f = some r) : Pure Tryz.prog tab 54 [.agg (Q1 b),.agg (Qh c),.agg (Qh f)] (.tup [.agg (Kp r.1),.bool r.2]):=by
 unfold q7g at g;refine Qm Tryz.func54 J qi qi J<|qc<|Qj _ _ J<|Qj _ _ J<|Qj _ _ J<|Qt J J<|qa J<|qx<|O _ J<|O _ J<|O _ J<|q7 g fun k t g=>qv (qy9 b c f k t) J<|qa J<|q8<|qf<|qc<|qa J<|q8<|q7 g fun n u g=>?_;refine Qn (fun l=>.inl l = n) (fun l=>⟨[(6,.ref 0 2 0 0)],[(0,.dat 2 [[qd 0,qd 0]])],1⟩) qe ?_ ?_
 ·refine Ql (q40 k b c f) (fun m=>⟨[(3,.ref 0 6 0 0),(4,.ref 1 3 0 0),(5,.ref 2 3 0 0),(6,.ref 3 2 0 0),(8,.d (.sl 2 (k.map Kp))),(9,q9 m)],[(0,.dat 6 [(Q1 b)]),(1,.dat 3 [(Qh c)]),(2,.dat 3 [(Qh f)]),(3,.dat 2 [[qd 0,qd 0]])],4⟩) _ n u (wkA [(0,0),(1,1),(2,2),(3,3)] [] []) ?_;intro m al a;unfold q40 at a;refine qf<|qc<|U J<|U J<|K1 J<|O _ J<|q8 ?_;refine qm J a (fun _ a=>?_) (fun _ a=>?_)
  ·refine qn<|qf<|Qc<|qf<|Qk [q6,Qv 4,(some [],[4]),q6,q6,q6,q6,q6,q6,q6,q6,q6] qi<|U J<|U J<|q7 a fun v x a=>Qq x J<|O _ J<|q7 a fun o y a=>qv (qei 1 1 o y) J<|q7 a fun z aa a=>qv (qhu v o z aa) J<|U J<|O _ J<|O _ J<|Qt J J<|Qd 4 _ J<|qa J<|q8<|qf<|qc<|U J<|O _ J<|U J<|K1 J<|O _ J<|q8<|q7 a fun ab h a=>?_;refine Y9 (fun j=>j = ab) (fun j=>⟨[(3,.ref 0 6 0 0),(4,.ref 1 3 0 0),(5,.ref 2 3 0 0),(6,.ref 3 2 0 0),(8,.d (.sl 2 (k.map Kp))),(9,q9 m),(10,.ref 4 2 0 0)],[(0,.dat 6 [(Q1 b)]),(1,.dat 3 [(Qh c)]),(2,.dat 3 [(Qh f)]),(3,.dat 2 [[qd 0,qd 0]]),(4,.dat 2 [[qd j.1,qd j.2]])],5⟩) qe ?_ ?_
   ·refine qm J h (fun _ h=>?_) (fun _ h=>?_)
    ·refine Q6<|U J<|U J<|O _ J<|q7 h fun am ac h=>Qq ac J<|O _ J<|Qd 4 _ J<|Q4 ?_;obtain rfl:=Q0 h;exact ⟨_,J,wkA [(0,0),(1,1),(2,2),(3,3),(4,4)] [] []⟩
    refine qn<|Qo ?_;obtain rfl:=Q0 h;exact ⟨_,J,wkA [(0,0),(1,1),(2,2),(3,3),(4,4)] [] []⟩
   intro j hb;subst hb;refine qf<|Qk [q6,Qv 5,(some [],[5]),q6,q6,q6,q6,Q2 4,q6,q6,q6,q6] qi<|U J<|U J<|q7 a fun ad ae a=>Qq ae J<|O _ J<|O _ J<|q7 a fun p af a=>qv (qhu ad ({Num:=j.1,Den:=j.2} : Qr) p af) J<|U J<|O _ J<|O _ J<|Qt J J<|Qd 5 _ J<|qa J<|q8<|qf<|Qk [q6,Qv 6,(some [],[6]),q6,q6,q6,q6,q6,Q2 5] qi<|O _ J<|q7 a fun q ag a=>qv (qei 1 2 q ag) J<|q7 a fun s ah a=>qv (qx6 p.1 q s ah) J<|U J<|O _ J<|O _ J<|Qt J J<|Qd 6 _ J<|qa J<|qx<|O _ J<|O _ J<|O _ J<|O _ J<|q7 a fun ai aj a=>qv (qod b c f s.1 ai aj) J<|q8 ?_;refine qm J a (fun _ a=>?_) (fun _ a=>?_)
   ·refine qc<|U J<|U J<|q7 a fun an ak a=>Qq ak J<|O _ J<|Qd 3 _ J<|qa J<|qw ?_;refine ⟨_,qt a,fun hm=>?_⟩;subst hm;cases g;exact Q8 _ J
   refine qn<|Qo<|Qs<|Q6<|U J<|O _ J<|qa J<|Q4<|⟨_,qt a,wkA [(0,0),(1,1),(2,2),(3,3)] [] []⟩
  refine Qf ?_;refine ⟨_,qt a,fun hm=>?_⟩;subst hm;exact ⟨_,J,wkA [(0,3)] [] []⟩
 intro l hb;subst hb;refine qc<|O _ J<|Qd 0 _ J<|qa J<|qw ?_;cases g;exact Q8 _ J
theorem qy0 (g : List qh) (b : qg) (c : qg) (r : Bool) (f : qam g b c = some r) : Pure Tryz.prog tab 57 [.sl 6 (g.map Q1),.agg (Qh b),.agg (Qh c)] (.bool r):=by
 unfold qam at f;refine Qm Tryz.func57 J qi qi J<|qc<|Qj _ _ J<|Qj _ _ J<|qa J<|q8<|qf<|qc<|qa J<|q8<|q7 f fun j l f=>?_;refine Qn (fun h=>.inl h = j) (fun h=>⟨[],[],0⟩) qe ?_ ?_
 ·refine Ql (q7d g b c) (fun k=>⟨[(0,.d (.sl 6 (g.map Q1))),(4,.ref 0 3 0 0),(5,.ref 1 3 0 0),(7,q9 k)],[(0,.dat 3 [(Qh b)]),(1,.dat 3 [(Qh c)])],2⟩) _ j l (wkA [(0,0),(1,1)] [] []) ?_;intro k q a;unfold q7d at a;refine qf<|qc<|U J<|U J<|K1 J<|O _ J<|q8 ?_;refine qm J a (fun _ a=>?_) (fun _ a=>?_)
  ·refine qn<|qf<|Qc<|qf<|Qk [q6,Qv 2,(some [],[2]),q6,q6,q6,q6,Q2 1,Q2 0,q6,q6,q6,q6] qi<|U J<|U J<|q7 a fun m n a=>Qq n J<|O _ J<|O _ J<|O _ J<|q7 a fun o p a=>qv (qob m b c o p) J<|U J<|O _ J<|O _ J<|Qt J J<|Qd 2 _ J<|qa J<|qx<|U J<|q8 ?_;refine qm J a (fun _ a=>?_) (fun _ a=>?_)
   ·refine qc<|qa J<|qw ?_;refine ⟨_,qt a,fun hm=>?_⟩;subst hm;cases f;exact Q8 _ J
   refine qn<|Qo<|Qs<|Q6<|U J<|O _ J<|qa J<|Q4<|⟨_,qt a,wkA [(0,0),(1,1)] [] []⟩
  refine Qf ?_;refine ⟨_,qt a,fun hm=>?_⟩;subst hm;exact ⟨_,J,wkA [] [] []⟩
 intro h hb;subst hb;refine qc<|qa J<|qw ?_;cases f;exact Q8 _ J
theorem qof (c : List qh) (d : qg) (f : Int) (b : qg) (r : Bool) (a : q7l c d f b = some r) : Pure Tryz.prog tab 47 [.sl 6 (c.map Q1),.agg (Qh d),qd f,.agg (Qh b)] (.bool r):=by
 unfold q7l at a;refine Qm Tryz.func47 J qi qi J<|qc<|Qj _ _ J<|Qj _ _ J<|qa J<|qx<|U J<|q7 a fun g l a=>qv (qo2 f g l) J<|Qt J J<|Qd 2 _ J<|q8<|qf<|qc<|O _ J<|O _ J<|q7 a fun m n a=>qv (qxk g b m n) J<|O _ J<|q8 ?_;refine qm J a (fun _ a=>?_) (fun _ a=>?_)
 ·refine qc<|qa J<|qw ?_;cases a;exact Q8 _ J
 refine qn<|qf<|Qk [Qv 3,(some [],[3]),q6,q6,Q2 2,q6,q6,Q2 0] qi<|O _ J<|q7 a fun h o a=>qv (qxm 2 d h o) J<|O _ J<|O _ J<|q7 a fun j p a=>qv (qi0 ({X:=1,Y:=1,Z:=1} : qg) g j p) J<|q7 a fun k q a=>qv (qi0 h j k q) J<|Qt J J<|Qd 3 _ J<|qx<|U J<|O _ J<|O _ J<|q7 a fun s t a=>qv (qy0 c k b s t) J<|O _ J<|qa J<|qw ?_;cases a;exact Q8 _ J
theorem qy6 (b : List qh) (d : qg) (f : Int) (c : qg) (r : Bool × Int) (a : qap b d f c = some r) : Pure Tryz.prog tab 14 [.sl 6 (b.map Q1),.agg (Qh d),.int .u8 f,.agg (Qh c)] (.tup [.bool r.1,qd r.2]):=by
 unfold qap at a;refine Qm Tryz.func14 J qi qi J<|qc<|Qj _ _ J<|Qj _ _ J<|qa J<|qa J<|q8<|qf<|qc<|U J<|O _ J<|q7 a fun g h a=>qv (q5k b c g h) J<|O _ J<|q8 ?_;refine qm J a (fun _ a=>?_) (fun _ a=>?_)
 ·refine qc<|U J<|O _ J<|q7 a fun j k a=>qv (q5k b c j k) J<|qa J<|qa J<|qw ?_;cases a;exact Q8 _ J
 refine qn<|qf<|qc<|U J<|O _ J<|q8 ?_;refine qm J a (fun _ a=>?_) (fun _ a=>?_)
 ·refine qc<|qa J<|qa J<|qw ?_;cases a;exact Q8 _ J
 refine qn<|qf<|qc<|U J<|O _ J<|U J<|O _ J<|q7 a fun l m a=>qv (qo9 b d (w64 f) l m) J<|O _ J<|q8 ?_;refine qm J a (fun _ a=>?_) (fun _ a=>?_)
 ·refine qc<|qa J<|qa J<|qw ?_;cases a;exact Q8 _ J
 refine qn<|qc<|U J<|O _ J<|U J<|O _ J<|O _ J<|q7 a fun n o a=>qv (qof b d (w64 f) c n o) J<|qa J<|qa J<|qw ?_;cases a;exact Q8 _ J
theorem qf3 (a : List qh) (c : qg) (r : Int × Int × Int) (j : q2w a c = some r) : Pure Tryz.prog tab 15 [.sl 6 (a.map Q1),.agg (Qh c)] (.tup [qd r.1,qd r.2.1,qd r.2.2]):=by
 unfold q2w at j;refine Qm Tryz.func15 J qi qi J<|qc<|Qj _ _ J<|Qj _ _ J<|Qt J J<|Qt J J<|qa J<|q8<|qf<|qc<|O _ J<|O _ J<|q7 j fun r1 h2 j=>qv (qcd a c r1 h2) J<|qa J<|qx<|U J<|O _ J<|q8 ?_;refine qm J j (fun _ j=>?_) (fun _ j=>?_)
 ·refine qc<|U J<|Qd 2 _ J<|Qd 3 _ J<|qa J<|qw ?_;cases j;exact Q8 _ J
 refine qn<|qf<|qc<|O _ J<|q7 j fun m4 h3 j=>?_;refine qds [.d (.sl 6 (a.map Q1))] (fun b5=>b5 = m4) (fun b5=>⟨[(2,.ref 0 1 0 0),(3,.ref 1 3 0 0),(4,.ref 2 1 0 0),(5,.ref 3 1 0 0),(6,q9 0),(18,.fn 86 [.ref 4 1 0 0])],[(0,.dat 1 [[.sl 6 (a.map Q1)]]),(1,.dat 3 [(Qh c)]),(2,.dat 1 [[qd 0]]),(3,.dat 1 [[qd 0]]),(4,.dat 1 [[.sl 6 (a.map Q1)]])],5⟩) J J Tryz.func48 J qi qi J ?_ ?_
 ·refine qc<|Qj _ _ J<|qa J<|qx<|O _ J<|qa J<|qw ?_;refine ⟨.inr J,_,J,?_⟩;obtain rfl:=Q0 h3;exact ⟨_,J,wkA [(0,0),(1,1),(2,2),(3,3),(4,4)] [] []⟩
 intro b5 hb;subst hb;refine q8<|Qc<|q7 j fun an ae j=>?_;refine qel (fun t=>t = an) (fun t=>⟨[(4,.ref 0 1 0 0),(5,.ref 1 1 0 0)],[(0,.dat 1 [[qd t.1]]),(1,.dat 1 [[qd t.2]])],2⟩) ?_ ?_
 ·refine Yx (st':=⟨[(2,.ref 0 1 0 0),(3,.ref 1 3 0 0),(4,.ref 2 1 0 0),(5,.ref 3 1 0 0),(6,q9 0),(18,.fn 86 [.ref 4 1 0 0])],[(0,.dat 1 [[.sl 6 (a.map Q1)]]),(1,.dat 3 [(Qh c)]),(2,.dat 1 [[qd 0]]),(3,.dat 1 [[qd 0]]),(4,.dat 1 [[.sl 6 (a.map Q1)]])],5⟩) (wkA [(0,0),(1,1),(2,2),(3,3),(4,4)] [] []) ?_ qe;refine qem _ (.inl J) Tryz.func86 J qi qi J ?_;intro A1841 B1842 hA1841 hB1842;refine qz1<|qf<|qyz<|qc<|O _ J<|K1 J<|U J<|q8<|q7 ae fun ao ap ae=>Qc<|Ql (q2x a c) (fun k=>⟨[(0,.yld 5),(8,.d (.sl 6 (a.map Q1))),(9,q9 (a.length : Int)),(10,q9 k.1)],[(0,.dat 1 [[.sl 6 (a.map Q1)]]),(1,.dat 3 [(Qh c)]),(2,.dat 1 [[qd k.2.1]]),(3,.dat 1 [[qd k.2.2]]),(4,.dat 1 [[.sl 6 (a.map Q1)]]),(5,.loop [(2,.ref 0 1 0 0),(3,.ref 1 3 0 0),(4,.ref 2 1 0 0),(5,.ref 3 1 0 0),(6,q9 0),(18,.fn 86 [.ref 4 1 0 0])] [19] A1841 B1842 .ready none)],6⟩) _ ao ap (wkA [] [] []) ?_;intro k bn n;unfold q2x at n;refine qc<|O _ J<|q8<|qf ?_;refine qm J n (fun _ n=>?_) (fun _ n=>?_)
  ·refine qn<|qf<|q7 n fun aq u n=>?_;refine Qn (fun v=>v = aq) (fun v=>⟨[(0,.yld 5),(8,.d (.sl 6 (a.map Q1))),(9,q9 (a.length : Int)),(10,q9 k.1)],[(0,.dat 1 [[.sl 6 (a.map Q1)]]),(1,.dat 3 [(Qh c)]),(2,.dat 1 [[qd v.1]]),(3,.dat 1 [[qd v.2]]),(4,.dat 1 [[.sl 6 (a.map Q1)]]),(5,.loop [(2,.ref 0 1 0 0),(3,.ref 1 3 0 0),(4,.ref 2 1 0 0),(5,.ref 3 1 0 0),(6,q9 0),(18,.fn 86 [.ref 4 1 0 0])] [19] A1841 B1842 .ready none)],6⟩) qe ?_ ?_
   ·refine qc<|q7 u fun l ar u=>Qq ar J<|O _ J<|Qt J J<|Qd 6 _ J<|qx<|O _ J<|O _ J<|O _ J<|qa J<|q8<|q7 u fun au av u=>Qc<|Ql (q2y l a c) (fun g=>⟨[(0,.yld 5),(4,.ref 6 6 0 0),(5,q9 g.1),(8,.d (.sl 6 (a.map Q1))),(9,q9 (a.length : Int)),(10,q9 k.1)],[(0,.dat 1 [[.sl 6 (a.map Q1)]]),(1,.dat 3 [(Qh c)]),(2,.dat 1 [[qd g.2.1]]),(3,.dat 1 [[qd g.2.2]]),(4,.dat 1 [[.sl 6 (a.map Q1)]]),(5,.loop [(2,.ref 0 1 0 0),(3,.ref 1 3 0 0),(4,.ref 2 1 0 0),(5,.ref 3 1 0 0),(6,q9 0),(18,.fn 86 [.ref 4 1 0 0])] [19] A1841 B1842 .ready none),(6,.dat 6 [(Q1 l)])],7⟩) _ au av (wkA [(6,6)] [] []) ?_;intro g bo o;unfold q2y at o;refine qf<|qc<|U J<|O _ J<|O _ J<|O _ J<|O _ J<|q8 ?_;refine qm J o (fun _ o=>?_) (fun _ o=>?_)
    ·refine qn<|qf<|q7 o fun aw af o=>?_;refine Qn (fun x=>x = aw) (fun x=>⟨[(0,.yld 5),(4,.ref 6 6 0 0),(5,q9 g.1),(8,.d (.sl 6 (a.map Q1))),(9,q9 (a.length : Int)),(10,q9 k.1)],[(0,.dat 1 [[.sl 6 (a.map Q1)]]),(1,.dat 3 [(Qh c)]),(2,.dat 1 [[qd x.1]]),(3,.dat 1 [[qd x.2]]),(4,.dat 1 [[.sl 6 (a.map Q1)]]),(5,.loop [(2,.ref 0 1 0 0),(3,.ref 1 3 0 0),(4,.ref 2 1 0 0),(5,.ref 3 1 0 0),(6,q9 0),(18,.fn 86 [.ref 4 1 0 0])] [19] A1841 B1842 .ready none),(6,.dat 6 [(Q1 l)])],7⟩) qe ?_ ?_
     ·refine qc<|O _ J<|O _ J<|O _ J<|qa J<|q8<|q7 af fun ax ay af=>Qc<|Ql (q2z l g a c) (fun h=>⟨[(0,.yld 5),(4,.ref 6 6 0 0),(5,q9 g.1),(6,q9 h.1),(8,.d (.sl 6 (a.map Q1))),(9,q9 (a.length : Int)),(10,q9 k.1)],[(0,.dat 1 [[.sl 6 (a.map Q1)]]),(1,.dat 3 [(Qh c)]),(2,.dat 1 [[qd h.2.1]]),(3,.dat 1 [[qd h.2.2]]),(4,.dat 1 [[.sl 6 (a.map Q1)]]),(5,.loop [(2,.ref 0 1 0 0),(3,.ref 1 3 0 0),(4,.ref 2 1 0 0),(5,.ref 3 1 0 0),(6,q9 0),(18,.fn 86 [.ref 4 1 0 0])] [19] A1841 B1842 .ready none),(6,.dat 6 [(Q1 l)])],7⟩) _ ax ay (wkA [(6,6)] [] []) ?_;intro h bp p;unfold q2z at p;refine qf<|qc<|U J<|O _ J<|O _ J<|O _ J<|O _ J<|q8 ?_;refine qm J p (fun _ p=>?_) (fun _ p=>?_)
      ·refine qn<|qf<|q7 p fun az ag p=>?_;refine Qn (fun y=>y = az) (fun y=>⟨[(0,.yld 5),(4,.ref 6 6 0 0),(5,q9 g.1),(6,q9 h.1),(8,.d (.sl 6 (a.map Q1))),(9,q9 (a.length : Int)),(10,q9 k.1)],[(0,.dat 1 [[.sl 6 (a.map Q1)]]),(1,.dat 3 [(Qh c)]),(2,.dat 1 [[qd y.1]]),(3,.dat 1 [[qd y.2]]),(4,.dat 1 [[.sl 6 (a.map Q1)]]),(5,.loop [(2,.ref 0 1 0 0),(3,.ref 1 3 0 0),(4,.ref 2 1 0 0),(5,.ref 3 1 0 0),(6,q9 0),(18,.fn 86 [.ref 4 1 0 0])] [19] A1841 B1842 .ready none),(6,.dat 6 [(Q1 l)])],7⟩) qe ?_ ?_
       ·refine qc<|O _ J<|O _ J<|O _ J<|qa J<|q8<|q7 ag fun ba bb ag=>Qc<|Ql (q30 l g h a c) (fun m=>⟨[(0,.yld 5),(4,.ref 6 6 0 0),(5,q9 g.1),(6,q9 h.1),(7,q9 m.1),(8,.d (.sl 6 (a.map Q1))),(9,q9 (a.length : Int)),(10,q9 k.1)],[(0,.dat 1 [[.sl 6 (a.map Q1)]]),(1,.dat 3 [(Qh c)]),(2,.dat 1 [[qd m.2.1]]),(3,.dat 1 [[qd m.2.2]]),(4,.dat 1 [[.sl 6 (a.map Q1)]]),(5,.loop [(2,.ref 0 1 0 0),(3,.ref 1 3 0 0),(4,.ref 2 1 0 0),(5,.ref 3 1 0 0),(6,q9 0),(18,.fn 86 [.ref 4 1 0 0])] [19] A1841 B1842 .ready none),(6,.dat 6 [(Q1 l)])],7⟩) _ ba bb (wkA [(6,6)] [] []) ?_;intro m bq q;unfold q30 at q;refine qf<|qc<|U J<|O _ J<|O _ J<|O _ J<|O _ J<|q8 ?_;refine qm J q (fun _ q=>?_) (fun _ q=>?_)
        ·refine qn<|qf<|Qc<|qc<|U J<|U J<|U J<|U J<|O _ J<|q7 q fun bc z q=>?_;refine qdu (fun aa=>aa = bc) (fun aa=>⟨[(0,.yld 5),(4,.ref 6 6 0 0),(5,q9 g.1),(6,q9 h.1),(7,q9 m.1),(8,.d (.sl 6 (a.map Q1))),(9,q9 (a.length : Int)),(10,q9 k.1),(49,ql true)],[(0,.dat 1 [[.sl 6 (a.map Q1)]]),(1,.dat 3 [(Qh c)]),(2,.dat 1 [[qd aa.1]]),(3,.dat 1 [[qd aa.2]]),(4,.dat 1 [[.sl 6 (a.map Q1)]]),(5,.loop [(2,.ref 0 1 0 0),(3,.ref 1 3 0 0),(4,.ref 2 1 0 0),(5,.ref 3 1 0 0),(6,q9 0),(18,.fn 86 [.ref 4 1 0 0])] [19] A1841 B1842 .ready none),(6,.dat 6 [(Q1 l)])],7⟩) hA1841 hB1842 J J J J J J ?_ ?_
         ·refine Q6<|Qt J J<|Qd 7 _ J<|Q4 ?_;refine ⟨J,_,J,?_⟩;refine Qc<|qc<|q7 z fun b bd z=>qv (qq7 b bd) J<|U J<|q8<|q7 z fun be bf z=>Qc<|Ql (q31 b g h m a c) (fun ab=>⟨[(2,.ref 0 1 0 0),(3,.ref 1 3 0 0),(4,.ref 2 1 0 0),(5,.ref 3 1 0 0),(8,.ref 7 3 0 0),(20,.d (.agg [qd b.1.X,qd b.1.Y,qd b.1.Z,qd b.2.1.X,qd b.2.1.Y,qd b.2.1.Z,qd b.2.2.1.X,qd b.2.2.1.Y,qd b.2.2.1.Z,qd b.2.2.2.1.X,qd b.2.2.2.1.Y,qd b.2.2.2.1.Z,qd b.2.2.2.2.1.X,qd b.2.2.2.2.1.Y,qd b.2.2.2.2.1.Z,qd b.2.2.2.2.2.X,qd b.2.2.2.2.2.Y,qd b.2.2.2.2.2.Z])),(21,q9 ab.1)],[(0,.dat 1 [[.sl 6 (a.map Q1)]]),(1,.dat 3 [(Qh c)]),(2,.dat 1 [[qd ab.2.1]]),(3,.dat 1 [[qd ab.2.2]]),(4,.dat 1 [[.sl 6 (a.map Q1)]]),(5,.loop [(2,.ref 0 1 0 0),(3,.ref 1 3 0 0),(4,.ref 2 1 0 0),(5,.ref 3 1 0 0),(6,q9 0),(18,.fn 86 [.ref 4 1 0 0])] [19] A1841 B1842 .busy none),(6,.dat 6 [(Q1 l)]),(7,.dat 3 [[qd g.1,qd h.1,qd m.1]])],8⟩) _ be bf (wkA [(7,7)] [] []) ?_;intro ab br s;unfold q31 at s;refine qc<|O _ J<|q8<|qf ?_;refine qm J s (fun _ s=>?_) (fun _ s=>?_)
          ·refine qn<|qf<|q7 s fun bg f s=>?_;refine Qn (fun ac=>ac = bg) (fun ac=>⟨[(2,.ref 0 1 0 0),(3,.ref 1 3 0 0),(4,.ref 2 1 0 0),(5,.ref 3 1 0 0),(8,.ref 7 3 0 0),(20,.d (.agg [qd b.1.X,qd b.1.Y,qd b.1.Z,qd b.2.1.X,qd b.2.1.Y,qd b.2.1.Z,qd b.2.2.1.X,qd b.2.2.1.Y,qd b.2.2.1.Z,qd b.2.2.2.1.X,qd b.2.2.2.1.Y,qd b.2.2.2.1.Z,qd b.2.2.2.2.1.X,qd b.2.2.2.2.1.Y,qd b.2.2.2.2.1.Z,qd b.2.2.2.2.2.X,qd b.2.2.2.2.2.Y,qd b.2.2.2.2.2.Z])),(21,q9 ab.1)],[(0,.dat 1 [[.sl 6 (a.map Q1)]]),(1,.dat 3 [(Qh c)]),(2,.dat 1 [[qd ac.1]]),(3,.dat 1 [[qd ac.2]]),(4,.dat 1 [[.sl 6 (a.map Q1)]]),(5,.loop [(2,.ref 0 1 0 0),(3,.ref 1 3 0 0),(4,.ref 2 1 0 0),(5,.ref 3 1 0 0),(6,q9 0),(18,.fn 86 [.ref 4 1 0 0])] [19] A1841 B1842 .busy none),(6,.dat 6 [(Q1 l)]),(7,.dat 3 [[qd g.1,qd h.1,qd m.1]])],8⟩) qe ?_ ?_
           ·refine qc<|q7 f fun ah bh f=>qdt (enc:=Qh) [b.1,b.2.1,b.2.2.1,b.2.2.2.1,b.2.2.2.2.1,b.2.2.2.2.2] (.d (.agg (Qh ah))) bh (fun _=>rfl) J J J J J J<|Qt J J<|Qd 8 _ J<|q8<|Qc<|qf<|Qk [q6,q6,q6,Q2 8,Q2 7,Q2 0] qi<|O _ J<|O _ J<|O _ J<|q7 f fun ai bi f=>qv (qce ({X:=g.1,Y:=h.1,Z:=m.1} : qg) ah ai bi) J<|q7 f fun bj bk f=>qv (qii a ai bj bk) J<|qa J<|q8 ?_;refine qm J f (fun _ f=>?_) (fun _ f=>?_)
            ·refine qn<|Qo<|Qs<|Qo ?_;obtain rfl:=Q0 f;exact ⟨_,J,wkA [(7,7)] [] []⟩
            refine qc<|O _ J<|O _ J<|O _ J<|O _ J<|q7 f fun bl bm f=>qv (qq4 a ({X:=g.1,Y:=h.1,Z:=m.1} : qg) ah c bl bm) J<|qa J<|q8 ?_;refine qm J f (fun _ f=>?_) (fun _ f=>?_)
            ·refine Q6<|O _ J<|O _ J<|Qd 2 _ J<|Q4<|Qs<|Qo ?_;obtain rfl:=Q0 f;exact ⟨_,J,wkA [(7,7)] [] []⟩
            refine Q6<|O _ J<|O _ J<|Qd 3 _ J<|Q4<|Qs<|Qo ?_;obtain rfl:=Q0 f;exact ⟨_,J,wkA [(7,7)] [] []⟩
           intro ac hb;subst hb;refine Q6<|O _ J<|U J<|Q4<|⟨_,qt s,wkA [(7,7)] [] []⟩
          refine Qf ?_;refine ⟨_,qt s,fun hm=>?_⟩;subst hm;refine ⟨_,J,?_⟩;obtain rfl:=Q0 z;exact ⟨_,J,wkA [(6,6)] [] []⟩
         intro aa hb;subst hb;refine O _ J<|q8<|Uu J<|qn<|Qo<|Qs<|Q6<|U J<|O _ J<|qa J<|Q4<|⟨_,qt q,wkA [(6,6)] [] []⟩
        refine Qf ?_;refine ⟨_,qt q,fun hm=>?_⟩;subst hm;obtain rfl:=Q0 ag;exact ⟨_,J,wkA [(6,6)] [] []⟩
       intro y hb;subst hb;refine Q6<|U J<|O _ J<|qa J<|Q4<|⟨_,qt p,wkA [(6,6)] [] []⟩
      refine Qf ?_;refine ⟨_,qt p,fun hm=>?_⟩;subst hm;obtain rfl:=Q0 af;exact ⟨_,J,wkA [(6,6)] [] []⟩
     intro x hb;subst hb;refine Q6<|U J<|O _ J<|qa J<|Q4<|⟨_,qt o,wkA [(6,6)] [] []⟩
    refine Qf ?_;refine ⟨_,qt o,fun hm=>?_⟩;subst hm;obtain rfl:=Q0 u;exact ⟨_,J,wkA [] [] []⟩
   intro v hb;subst hb;refine Q6<|O _ J<|U J<|Q4<|⟨_,qt n,wkA [] [] []⟩
  refine Qf ?_;refine ⟨_,qt n,fun hm=>?_⟩;subst hm;refine ⟨.inl J,_,J,_,_,.nor,J,qr,?_⟩;refine qcp<|Qo ?_;obtain rfl:=Q0 ae;exact ⟨_,J,wkA [(0,2),(1,3)] [] []⟩
 intro t st hb hw;subst hb;refine Yx hw ?_ qe;refine qf<|Qk [q6,Qv 1,Qv 0,Q2 1,Q2 0] qi<|O _ J<|O _ J<|Qd 0 _ J<|Qd 1 _ J<|qa J<|qw ?_;cases j;exact Q8 _ J
end Go.Proofs.YtmnfbjlabfeneaaGreat
