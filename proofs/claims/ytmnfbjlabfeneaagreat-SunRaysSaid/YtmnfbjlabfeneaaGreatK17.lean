/- W_Allc -/
import Derived.Test.YtmnfbjlabfeneaaGreatK16
namespace Go.Proofs.YtmnfbjlabfeneaaGreat
open Go Go.Am Go.Sh
set_option maxHeartbeats 8000000
set_option maxRecDepth 100000
theorem qjm (h : Q4) (j : Int) (r : Bool) (a : q4y h j = some r) : Pure Tryz.prog tab 129 [.agg (K3 h),qf j] (.bool r):=by
 unfold q4y at a;refine Qt Tryz.func129 J qg qg J<|qc<|Qn _ _ J<|qa J<|qx<|O _ J<|O _ J<|U J<|O _ J<|q7 a fun c1 b a=>?_;refine Qf 6 (fun A st=>∃ k l m n o,st = A [(14,Q2 c1),(13,o),(12,n),(11,m),(10,l),(9,k)]) ?_ ?_
 ·refine Qg J J b (fun b=>?_) (fun b=>?_)
  ·refine O _ J<|O _ J<|U J<|O _ J<|O _ J<|q8 ?_;cases b;exact ⟨_,_,_,_,_,J⟩
  refine qb J<|qb J<|qb J<|qb J<|O _ J<|q8 ?_;cases b;exact ⟨_,_,_,_,_,J⟩
 rintro _ ⟨k,l,m,n,o,rfl⟩;refine q7 a fun c8 c a=>?_;refine Qf 6 (fun A st=>∃ p q s t u,st = A [(20,Q2 c8),(19,u),(18,t),(17,s),(16,q),(15,p)]) ?_ ?_
 ·refine Qg J J c (fun c=>?_) (fun c=>?_)
  ·refine O _ J<|O _ J<|U J<|O _ J<|O _ J<|q8 ?_;cases c;exact ⟨_,_,_,_,_,J⟩
  refine qb J<|qb J<|qb J<|qb J<|O _ J<|q8 ?_;cases c;exact ⟨_,_,_,_,_,J⟩
 rintro _ ⟨p,q,s,t,u,rfl⟩;refine q7 a fun ak d a=>?_;refine Qf 5 (fun A st=>∃ v x y z,st = A [(25,Q2 ak),(24,z),(23,y),(22,x),(21,v)]) ?_ ?_
 ·refine Qg J J d (fun d=>?_) (fun d=>?_)
  ·refine O _ J<|O _ J<|O _ J<|O _ J<|q8 ?_;cases d;exact ⟨_,_,_,_,J⟩
  refine qb J<|qb J<|qb J<|O _ J<|q8 ?_;cases d;exact ⟨_,_,_,_,J⟩
 rintro _ ⟨v,x,y,z,rfl⟩;refine q7 a fun al f a=>?_;refine Qf 5 (fun A st=>∃ aa ab ac ad,st = A [(30,Q2 al),(29,ad),(28,ac),(27,ab),(26,aa)]) ?_ ?_
 ·refine Qg J J f (fun f=>?_) (fun f=>?_)
  ·refine O _ J<|O _ J<|O _ J<|O _ J<|q8 ?_;cases f;exact ⟨_,_,_,_,J⟩
  refine qb J<|qb J<|qb J<|O _ J<|q8 ?_;cases f;exact ⟨_,_,_,_,J⟩
 rintro _ ⟨aa,ab,ac,ad,rfl⟩;refine q7 a fun am g a=>?_;refine Qf 5 (fun A st=>∃ ae af ag ah,st = A [(35,Q2 am),(34,ah),(33,ag),(32,af),(31,ae)]) ?_ ?_
 ·refine Qg J J g (fun g=>?_) (fun g=>?_)
  ·refine O _ J<|O _ J<|O _ J<|O _ J<|q8 ?_;cases g;exact ⟨_,_,_,_,J⟩
  refine qb J<|qb J<|qb J<|O _ J<|q8 ?_;cases g;exact ⟨_,_,_,_,J⟩
 rintro _ ⟨ae,af,ag,ah,rfl⟩;refine qa J<|qu ?_;cases a;exact Q5 _ J
theorem qsb (g : qj) (r : Bool) (a : q7r g = some r) : Pure Tryz.prog tab 112 [.agg (Qi g)] (.bool r):=by
 unfold q7r at a;refine Qt Tryz.func112 J qg qg J<|qc<|Qn _ _ J<|qa J<|qx<|O _ J<|O _ J<|q7 a fun r1 h2 a=>Q3 (qjm g.Lo (-1000000) r1 h2) J<|q7 a fun c5 b a=>?_;refine Qf 5 (fun A st=>∃ h j k l,st = A [(11,Q2 c5),(10,l),(9,k),(8,j),(7,h)]) ?_ ?_
 ·refine Qg J J b (fun b=>?_) (fun b=>?_)
  ·refine O _ J<|O _ J<|q7 b fun ap aq b=>Q3 (qjm g.Hi (-1000000) ap aq) J<|O _ J<|q8 ?_;cases b;exact ⟨_,_,_,_,J⟩
  refine qb J<|qb J<|qb J<|O _ J<|q8 ?_;cases b;exact ⟨_,_,_,_,J⟩
 rintro _ ⟨h,j,k,l,rfl⟩;refine qa J<|qx<|U J<|q7 a fun ar c a=>?_;refine Qf 9 (fun A st=>∃ m n o p q s t u,st = A [(21,Q2 ar),(20,u),(19,t),(18,s),(17,q),(16,p),(15,o),(14,n),(13,m)]) ?_ ?_
 ·refine Qg J J c (fun c=>?_) (fun c=>?_)
  ·refine O _ J<|O _ J<|O _ J<|O _ J<|O _ J<|O _ J<|O _ J<|O _ J<|q8 ?_;cases c;exact ⟨_,_,_,_,_,_,_,_,J⟩
  refine qb J<|qb J<|qb J<|qb J<|qb J<|qb J<|qb J<|O _ J<|q8 ?_;cases c;exact ⟨_,_,_,_,_,_,_,_,J⟩
 rintro _ ⟨m,n,o,p,q,s,t,u,rfl⟩;refine q7 a fun au d a=>?_;refine Qf 9 (fun A st=>∃ v x y z aa ab ac ad,st = A [(30,Q2 au),(29,ad),(28,ac),(27,ab),(26,aa),(25,z),(24,y),(23,x),(22,v)]) ?_ ?_
 ·refine Qg J J d (fun d=>?_) (fun d=>?_)
  ·refine O _ J<|O _ J<|O _ J<|O _ J<|O _ J<|O _ J<|O _ J<|O _ J<|q8 ?_;cases d;exact ⟨_,_,_,_,_,_,_,_,J⟩
  refine qb J<|qb J<|qb J<|qb J<|qb J<|qb J<|qb J<|O _ J<|q8 ?_;cases d;exact ⟨_,_,_,_,_,_,_,_,J⟩
 rintro _ ⟨v,x,y,z,aa,ab,ac,ad,rfl⟩;refine q7 a fun av f a=>?_;refine Qf 9 (fun A st=>∃ ae af ag ah ai aj ak al,st = A [(39,Q2 av),(38,al),(37,ak),(36,aj),(35,ai),(34,ah),(33,ag),(32,af),(31,ae)]) ?_ ?_
 ·refine Qg J J f (fun f=>?_) (fun f=>?_)
  ·refine O _ J<|O _ J<|O _ J<|O _ J<|O _ J<|O _ J<|O _ J<|O _ J<|q8 ?_;cases f;exact ⟨_,_,_,_,_,_,_,_,J⟩
  refine qb J<|qb J<|qb J<|qb J<|qb J<|qb J<|qb J<|O _ J<|q8 ?_;cases f;exact ⟨_,_,_,_,_,_,_,_,J⟩
 rintro _ ⟨ae,af,ag,ah,ai,aj,ak,al,rfl⟩;refine qa J<|qu ?_;cases a;exact Q5 _ J
theorem qe1 (g : List Int) (r : List Int) (n : Jh g = some r) : Pure Tryz.prog tab 115 [.sl 1 (g.map (eI .i64))] (.sl 1 (r.map (eI .i64))):=by
 unfold Jh at n;refine Qt Tryz.func115 J qg qg J<|qc<|qa J<|qx<|qa J<|q8<|qe<|qc<|qa J<|q8<|q7 n fun s bb n=>?_;refine Qo (fun l=>l = s) (fun l=>⟨[(3,.hs 0 1 0 l.length)],[(0,.dat 1 (l.map (eI .i64)))],1⟩) qd ?_ ?_
 ·refine Qk (q3e g) (fun b=>⟨[(0,.d (.sl 1 (g.map (eI .i64)))),(3,.hs 0 1 0 b.2.length),(4,q9 b.1)],[(0,.dat 1 (b.2.map (eI .i64)))],1⟩) _ s bb (wkA [] [] [0]) ?_;intro b bk h;unfold q3e at h;refine qe<|qc<|U J<|U J<|K0 J<|O _ J<|q8 ?_;refine ql J h (fun _ h=>?_) (fun _ h=>?_)
  ·refine qm<|qe<|q7 h fun bc a h=>?_;refine Qo (fun m=>m = bc) (fun m=>⟨[(0,.d (.sl 1 (g.map (eI .i64)))),(3,.hs 0 1 0 m.length),(4,q9 b.1)],[(0,.dat 1 (m.map (eI .i64)))],1⟩) qd ?_ ?_
   ·refine qc<|U J<|O _ J<|qa J<|q8<|qe<|q7 a fun t bd a=>?_;refine Qo (fun o=>o = t) (fun o=>⟨[(0,.d (.sl 1 (g.map (eI .i64)))),(3,.hs 0 1 0 b.2.length),(4,q9 b.1),(5,q9 o)],[(0,.dat 1 (b.2.map (eI .i64)))],1⟩) qd ?_ ?_
    ·refine Qk (q3f b g) (fun u=>⟨[(0,.d (.sl 1 (g.map (eI .i64)))),(3,.hs 0 1 0 b.2.length),(4,q9 b.1),(5,q9 u)],[(0,.dat 1 (b.2.map (eI .i64)))],1⟩) _ t bd (wkA [(0,0)] [] []) ?_;intro u bl j;unfold q3f at j;refine qe<|qe<|Qe [q0,q0,q0,q0,q0,q0,qv 0,q0,q0,q0,q0,q0,q0,q0] qg<|U J<|O _ J<|q7 j fun be c j=>?_;refine Qf 12 (fun A st=>∃ v x y z aa ab ac ad ae af ag,st = A [(27,Q2 be),(26,ag),(25,af),(24,ae),(23,ad),(22,ac),(21,ab),(20,aa),(19,z),(18,y),(17,x),(16,v)]) ?_ ?_
     ·refine Qg J J c (fun c=>?_) (fun c=>?_)
      ·refine U J<|U J<|O _ J<|q7 c fun bm ah c=>qs ah J J<|Q9 _ ah J<|U J<|U J<|q7 c fun bn bf c=>Qm bf J<|O _ J<|O _ J<|O _ J<|q8 ?_;cases c;exact ⟨_,_,_,_,_,_,_,_,_,_,_,J⟩
      refine qb J<|qb J<|qb J<|qb J<|qb J<|qb J<|qb J<|qb J<|qb J<|qb J<|O _ J<|q8 ?_;cases c;exact ⟨_,_,_,_,_,_,_,_,_,_,_,J⟩
     rintro _ ⟨v,x,y,z,aa,ab,ac,ad,ae,af,ag,rfl⟩;refine q8 ?_;refine ql J j (fun _ j=>?_) (fun _ j=>?_)
     ·refine qm<|Qa<|Q1<|U J<|O _ J<|qa J<|qz<|Qq<|Qj<|⟨_,qn j,wkA [(0,0)] [] []⟩
     refine Qc ?_;refine ⟨_,qn j,fun hm=>?_⟩;subst hm;exact ⟨_,J,wkA [(0,0)] [] []⟩
    intro o hb;subst hb;refine qe<|qe<|Qe [q0,q0,q0,q0,q0,q0,qv 0,q0,q0,q0,q0,q0,q0,q0] qg<|U J<|O _ J<|q7 a fun bg f a=>?_;refine Qf 12 (fun A st=>∃ ai aj ak al am an ao ap aq ar au,st = A [(43,Q2 bg),(42,au),(41,ar),(40,aq),(39,ap),(38,ao),(37,an),(36,am),(35,al),(34,ak),(33,aj),(32,ai)]) ?_ ?_
    ·refine Qg J J f (fun f=>?_) (fun f=>?_)
     ·refine U J<|U J<|O _ J<|q7 f fun bo av f=>qs av J J<|Q9 _ av J<|U J<|U J<|q7 f fun bp bh f=>Qm bh J<|O _ J<|O _ J<|O _ J<|q8 ?_;cases f;exact ⟨_,_,_,_,_,_,_,_,_,_,_,J⟩
     refine qb J<|qb J<|qb J<|qb J<|qb J<|qb J<|qb J<|qb J<|qb J<|qb J<|O _ J<|q8 ?_;cases f;exact ⟨_,_,_,_,_,_,_,_,_,_,_,J⟩
    rintro _ ⟨ai,aj,ak,al,am,an,ao,ap,aq,ar,au,rfl⟩;refine q8 ?_;refine ql J a (fun _ a=>?_) (fun _ a=>?_)
    ·refine Qc ?_;obtain rfl:=qw a;exact ⟨_,J,wkA [(0,0)] [] []⟩
    refine qm<|qc<|U J<|Qn _ _ J<|q7 a fun p bi a=>Yj _ bi J J J J J J J (Yh J J) J J J J<|qa J<|q8<|qe<|Qe [Qs 2,q0,q0,q0,q0,q0,q0,q0] qg<|U J<|U J<|O _ J<|q7 a fun aw q a=>q7i q J J J J J (q6z J) (fun _=>rfl)<|U J<|U J<|q7 a fun k ax a=>q7i ax J J J J J (q6z J) (fun _=>rfl)<|qq8 (w:=aw) (xs:=p) (ys:=(p.drop k.1).take k.2) (enc:=(eI .i64)) (.hs 2 1 k.1 k.2) (q9g q) J J J J J J (qng (q9g ax) J) J J J J ?_;have ay:=@qfy _ p ((p.drop k.1).take k.2) aw (q9g q);refine q8<|Q1<|U J<|U J<|U J<|U J<|q7 a fun az bj a=>Qm bj J<|O _ J<|q7 a fun bq ba a=>qs ba (by simp [ay]) J<|Qv (ds:=[qf az]) az ba J J J J J J J J (leb J) J<|qz ?_;obtain rfl:=qw a;exact ⟨_,J,wkE [(0,2)] [] [] J ⟨qk J,⟨_,J,K2 (by simp [ay]) J qt (ltd J)⟩,qk J,trivial⟩ ⟨Qp J J,trivial⟩⟩
   intro m hb;subst hb;refine Q1<|U J<|O _ J<|qa J<|qz<|⟨_,qn h,wkA [(0,0)] [] []⟩
  refine Qc ?_;refine ⟨_,qn h,fun hm=>?_⟩;subst hm;exact ⟨_,J,wkA [(0,0)] [] []⟩
 intro l hb;subst hb;refine qc<|U J<|qa J<|qu ?_;obtain rfl:=qw n;exact finD (.inr J) J (Ju J J) (.refl _)
theorem qs5 (j : List qj) (g : List qj) (r : List Int) (c : q7q j g = some r) : Pure Tryz.prog tab 130 [.sl 6 (j.map Qi),.sl 6 (g.map Qi)] (.sl 1 (r.map (eI .i64))):=by
 unfold q7q at c;refine Qt Tryz.func130 J qg qg J<|qc<|qa J<|qx<|qa J<|q8<|qe<|qc<|qa J<|q8<|q7 c fun m o c=>?_;refine Qo (fun h=>h = m) (fun h=>⟨[(1,.d (.sl 6 (g.map Qi))),(5,.hs 0 1 0 h.length)],[(0,.dat 1 (h.map (eI .i64)))],1⟩) qd ?_ ?_
 ·refine Qk (q3m j) (fun k=>⟨[(0,.d (.sl 6 (j.map Qi))),(1,.d (.sl 6 (g.map Qi))),(5,.hs 0 1 0 k.2.length),(6,q9 k.1)],[(0,.dat 1 (k.2.map (eI .i64)))],1⟩) _ m o (wkA [] [] [0]) ?_;intro k aa a;unfold q3m at a;refine qe<|qc<|U J<|U J<|K0 J<|O _ J<|q8 ?_;refine ql J a (fun _ a=>?_) (fun _ a=>?_)
  ·refine qm<|qe<|Qa<|Qe [q0,(some [0,1],[0,2]),(some [],[1]),q0,q0,q0,q0,q0,q0,q0,q0,q0,q0,q0,q0,q0] qg<|U J<|U J<|U J<|q7 a fun ab p a=>Qm p J<|O _ J<|O _ J<|O _ J<|U J<|U J<|q7 a fun ac q a=>Qm q J<|O _ J<|O _ J<|O _ J<|Qn _ _ J<|q7 a fun ad s a=>Yj _ s J J J J J J J (Yh J J) J J J J<|qa J<|qz<|Qq<|Q1<|U J<|O _ J<|qa J<|qz<|⟨_,qn a,wkA [(0,2)] [] []⟩
  refine Qc ?_;refine ⟨_,qn a,fun hm=>?_⟩;subst hm;exact ⟨_,J,wkA [(0,0)] [] []⟩
 intro h hb;subst hb;refine qe<|qc<|qa J<|q8<|q7 c fun n t c=>?_;refine Qo (fun f=>f = n) (fun f=>⟨[(5,.hs 0 1 0 f.length)],[(0,.dat 1 (f.map (eI .i64)))],1⟩) qd ?_ ?_
 ·refine Qk (q3n g) (fun l=>⟨[(1,.d (.sl 6 (g.map Qi))),(5,.hs 0 1 0 l.2.length),(7,q9 l.1)],[(0,.dat 1 (l.2.map (eI .i64)))],1⟩) _ n t (wkA [(0,0)] [] []) ?_;intro l ae b;unfold q3n at b;refine qe<|qc<|U J<|U J<|K0 J<|O _ J<|q8 ?_;refine ql J b (fun _ b=>?_) (fun _ b=>?_)
  ·refine qm<|qe<|Qa<|Qe [q0,(some [0,1],[0,2]),(some [],[1]),q0,q0,q0,q0,q0,q0,q0,q0,q0,q0,q0,q0,q0] qg<|U J<|U J<|U J<|q7 b fun af u b=>Qm u J<|O _ J<|O _ J<|O _ J<|U J<|U J<|q7 b fun ag v b=>Qm v J<|O _ J<|O _ J<|O _ J<|Qn _ _ J<|q7 b fun ah x b=>Yj _ x J J J J J J J (Yh J J) J J J J<|qa J<|qz<|Qq<|Q1<|U J<|O _ J<|qa J<|qz<|⟨_,qn b,wkA [(0,2)] [] []⟩
  refine Qc ?_;refine ⟨_,qn b,fun hm=>?_⟩;subst hm;exact ⟨_,J,wkA [(0,0)] [] []⟩
 intro f hb;subst hb;refine qe ?_;refine Ze (st':=⟨[(5,.d (.sl 1 (f.map (eI .i64))))],[],0⟩) (wkA [] [0] []) ?_ qd;refine Q1<|U J<|q7 c fun y z c=>Q3 (qe1 f y z) J<|qa J<|qu ?_;cases c;exact Q5 _ J
theorem qb1 (f : List qj) (g : Int) (r : List qq) (l : Ji f g = some r) : Pure Tryz.prog tab 131 [.sl 6 (f.map Qi),qf g] (.sl 4 (r.map Qd)):=by
 unfold Ji at l;refine Qt Tryz.func131 J qg qg J<|qc<|qa J<|qx<|qa J<|q8<|qe<|qc<|qa J<|q8<|q7 l fun m y l=>?_;refine Qo (fun h=>h = m) (fun h=>⟨[(5,.hs 0 4 0 h.length)],[(0,.dat 4 (h.map Qd))],1⟩) qd ?_ ?_
 ·refine Qk (q4z f g) (fun j=>⟨[(0,.d (.sl 6 (f.map Qi))),(1,q9 g),(5,.hs 0 4 0 j.2.length),(6,q9 j.1)],[(0,.dat 4 (j.2.map Qd))],1⟩) _ m y (wkA [] [] [0]) ?_;intro j ai b;unfold q4z at b;refine qe<|qc<|U J<|U J<|K0 J<|O _ J<|q8 ?_;refine ql J b (fun _ b=>?_) (fun _ b=>?_)
  ·refine qm<|qe<|q7 b fun z a b=>?_;refine Qo (fun k=>k = z) (fun k=>⟨[(0,.d (.sl 6 (f.map Qi))),(1,q9 g),(5,.hs 0 4 0 k.length),(6,q9 j.1)],[(0,.dat 4 (k.map Qd))],1⟩) qd ?_ ?_
   ·refine qc<|U J<|U J<|q7 a fun aj aa a=>Qm aa J<|O _ J<|O _ J<|O _ J<|U J<|O _ J<|q7 a fun ab c a=>?_;refine Qf 10 (fun A st=>∃ n o p q s t u v x,st = A [(30,Q2 ab),(29,x),(28,v),(27,u),(26,t),(25,s),(24,q),(23,p),(22,o),(21,n)]) ?_ ?_
    ·refine Qg J J c (fun c=>?_) (fun c=>?_)
     ·refine U J<|U J<|U J<|q7 c fun ak ac c=>Qm ac J<|O _ J<|O _ J<|O _ J<|O _ J<|O _ J<|q8 ?_;cases c;exact ⟨_,_,_,_,_,_,_,_,_,J⟩
     refine qb J<|qb J<|qb J<|qb J<|qb J<|qb J<|qb J<|qb J<|O _ J<|q8 ?_;cases c;exact ⟨_,_,_,_,_,_,_,_,_,J⟩
    rintro _ ⟨n,o,p,q,s,t,u,v,x,rfl⟩;refine q8 ?_;refine ql J a (fun _ a=>?_) (fun _ a=>?_)
    ·refine Qe [q0,(some [0,1],[0,2]),(some [],[1]),q0,q0,q0,q0,q0,q0,q0,q0,q0,q0,q0,q0,q0,q0,q0,q0,q0,q0,q0,q0,q0,q0,q0,q0,q0,q0] qg<|U J<|U J<|U J<|q7 a fun al ad a=>Qm ad J<|O _ J<|O _ J<|O _ J<|U J<|U J<|q7 a fun am ae a=>Qm ae J<|O _ J<|O _ J<|O _ J<|U J<|U J<|q7 a fun an af a=>Qm af J<|O _ J<|O _ J<|O _ J<|U J<|U J<|q7 a fun ao ag a=>Qm ag J<|O _ J<|O _ J<|O _ J<|O _ J<|Qn _ _ J<|q7 a fun ap ah a=>Yj _ ah J J J J J J J (Yh J J) J J J J<|qa J<|qz ?_;obtain rfl:=qw a;exact ⟨_,J,wkA [(0,2)] [] []⟩
    refine qm<|Qj ?_;obtain rfl:=qw a;exact ⟨_,J,wkA [(0,0)] [] []⟩
   intro k hb;subst hb;refine Q1<|U J<|O _ J<|qa J<|qz<|⟨_,qn b,wkA [(0,0)] [] []⟩
  refine Qc ?_;refine ⟨_,qn b,fun hm=>?_⟩;subst hm;exact ⟨_,J,wkA [(0,0)] [] []⟩
 intro h hb;subst hb;refine qc<|U J<|qa J<|qu ?_;obtain rfl:=qw l;exact finD (.inr J) J (Ju J J) (.refl _)
theorem qrz (j : List qq) (g : List qq) (r : List Int) (c : q7o j g = some r) : Pure Tryz.prog tab 91 [.sl 4 (j.map Qd),.sl 4 (g.map Qd)] (.sl 1 (r.map (eI .i64))):=by
 unfold q7o at c;refine Qt Tryz.func91 J qg qg J<|qc<|qa J<|qx<|qa J<|q8<|qe<|qc<|qa J<|q8<|q7 c fun m o c=>?_;refine Qo (fun h=>h = m) (fun h=>⟨[(1,.d (.sl 4 (g.map Qd))),(5,.hs 0 1 0 h.length)],[(0,.dat 1 (h.map (eI .i64)))],1⟩) qd ?_ ?_
 ·refine Qk (q3i j) (fun k=>⟨[(0,.d (.sl 4 (j.map Qd))),(1,.d (.sl 4 (g.map Qd))),(5,.hs 0 1 0 k.2.length),(6,q9 k.1)],[(0,.dat 1 (k.2.map (eI .i64)))],1⟩) _ m o (wkA [] [] [0]) ?_;intro k aa a;unfold q3i at a;refine qe<|qc<|U J<|U J<|K0 J<|O _ J<|q8 ?_;refine ql J a (fun _ a=>?_) (fun _ a=>?_)
  ·refine qm<|qe<|Qa<|Qe [q0,(some [0,1],[0,2]),(some [],[1]),q0,q0,q0,q0,q0,q0,q0,q0,q0,q0,q0] qg<|U J<|U J<|U J<|q7 a fun ab p a=>Qm p J<|O _ J<|O _ J<|U J<|U J<|q7 a fun ac q a=>Qm q J<|O _ J<|O _ J<|Qn _ _ J<|q7 a fun ad s a=>Yj _ s J J J J J J J (Yh J J) J J J J<|qa J<|qz<|Qq<|Q1<|U J<|O _ J<|qa J<|qz<|⟨_,qn a,wkA [(0,2)] [] []⟩
  refine Qc ?_;refine ⟨_,qn a,fun hm=>?_⟩;subst hm;exact ⟨_,J,wkA [(0,0)] [] []⟩
 intro h hb;subst hb;refine qe<|qc<|qa J<|q8<|q7 c fun n t c=>?_;refine Qo (fun f=>f = n) (fun f=>⟨[(5,.hs 0 1 0 f.length)],[(0,.dat 1 (f.map (eI .i64)))],1⟩) qd ?_ ?_
 ·refine Qk (q3j g) (fun l=>⟨[(1,.d (.sl 4 (g.map Qd))),(5,.hs 0 1 0 l.2.length),(7,q9 l.1)],[(0,.dat 1 (l.2.map (eI .i64)))],1⟩) _ n t (wkA [(0,0)] [] []) ?_;intro l ae b;unfold q3j at b;refine qe<|qc<|U J<|U J<|K0 J<|O _ J<|q8 ?_;refine ql J b (fun _ b=>?_) (fun _ b=>?_)
  ·refine qm<|qe<|Qa<|Qe [q0,(some [0,1],[0,2]),(some [],[1]),q0,q0,q0,q0,q0,q0,q0,q0,q0,q0,q0] qg<|U J<|U J<|U J<|q7 b fun af u b=>Qm u J<|O _ J<|O _ J<|U J<|U J<|q7 b fun ag v b=>Qm v J<|O _ J<|O _ J<|Qn _ _ J<|q7 b fun ah x b=>Yj _ x J J J J J J J (Yh J J) J J J J<|qa J<|qz<|Qq<|Q1<|U J<|O _ J<|qa J<|qz<|⟨_,qn b,wkA [(0,2)] [] []⟩
  refine Qc ?_;refine ⟨_,qn b,fun hm=>?_⟩;subst hm;exact ⟨_,J,wkA [(0,0)] [] []⟩
 intro f hb;subst hb;refine qe ?_;refine Ze (st':=⟨[(5,.d (.sl 1 (f.map (eI .i64))))],[],0⟩) (wkA [] [0] []) ?_ qd;refine Q1<|U J<|q7 c fun y z c=>Q3 (qe1 f y z) J<|qa J<|qu ?_;cases c;exact Q5 _ J
theorem qs1 (j : List qq) (g : List qq) (r : List Int) (c : q7p j g = some r) : Pure Tryz.prog tab 92 [.sl 4 (j.map Qd),.sl 4 (g.map Qd)] (.sl 1 (r.map (eI .i64))):=by
 unfold q7p at c;refine Qt Tryz.func92 J qg qg J<|qc<|qa J<|qx<|qa J<|q8<|qe<|qc<|qa J<|q8<|q7 c fun m o c=>?_;refine Qo (fun h=>h = m) (fun h=>⟨[(1,.d (.sl 4 (g.map Qd))),(5,.hs 0 1 0 h.length)],[(0,.dat 1 (h.map (eI .i64)))],1⟩) qd ?_ ?_
 ·refine Qk (q3k j) (fun k=>⟨[(0,.d (.sl 4 (j.map Qd))),(1,.d (.sl 4 (g.map Qd))),(5,.hs 0 1 0 k.2.length),(6,q9 k.1)],[(0,.dat 1 (k.2.map (eI .i64)))],1⟩) _ m o (wkA [] [] [0]) ?_;intro k aa a;unfold q3k at a;refine qe<|qc<|U J<|U J<|K0 J<|O _ J<|q8 ?_;refine ql J a (fun _ a=>?_) (fun _ a=>?_)
  ·refine qm<|qe<|Qa<|Qe [q0,(some [0,1],[0,2]),(some [],[1]),q0,q0,q0,q0,q0,q0,q0,q0,q0,q0,q0] qg<|U J<|U J<|U J<|q7 a fun ab p a=>Qm p J<|O _ J<|O _ J<|U J<|U J<|q7 a fun ac q a=>Qm q J<|O _ J<|O _ J<|Qn _ _ J<|q7 a fun ad s a=>Yj _ s J J J J J J J (Yh J J) J J J J<|qa J<|qz<|Qq<|Q1<|U J<|O _ J<|qa J<|qz<|⟨_,qn a,wkA [(0,2)] [] []⟩
  refine Qc ?_;refine ⟨_,qn a,fun hm=>?_⟩;subst hm;exact ⟨_,J,wkA [(0,0)] [] []⟩
 intro h hb;subst hb;refine qe<|qc<|qa J<|q8<|q7 c fun n t c=>?_;refine Qo (fun f=>f = n) (fun f=>⟨[(5,.hs 0 1 0 f.length)],[(0,.dat 1 (f.map (eI .i64)))],1⟩) qd ?_ ?_
 ·refine Qk (q3l g) (fun l=>⟨[(1,.d (.sl 4 (g.map Qd))),(5,.hs 0 1 0 l.2.length),(7,q9 l.1)],[(0,.dat 1 (l.2.map (eI .i64)))],1⟩) _ n t (wkA [(0,0)] [] []) ?_;intro l ae b;unfold q3l at b;refine qe<|qc<|U J<|U J<|K0 J<|O _ J<|q8 ?_;refine ql J b (fun _ b=>?_) (fun _ b=>?_)
  ·refine qm<|qe<|Qa<|Qe [q0,(some [0,1],[0,2]),(some [],[1]),q0,q0,q0,q0,q0,q0,q0,q0,q0,q0,q0] qg<|U J<|U J<|U J<|q7 b fun af u b=>Qm u J<|O _ J<|O _ J<|U J<|U J<|q7 b fun ag v b=>Qm v J<|O _ J<|O _ J<|Qn _ _ J<|q7 b fun ah x b=>Yj _ x J J J J J J J (Yh J J) J J J J<|qa J<|qz<|Qq<|Q1<|U J<|O _ J<|qa J<|qz<|⟨_,qn b,wkA [(0,2)] [] []⟩
  refine Qc ?_;refine ⟨_,qn b,fun hm=>?_⟩;subst hm;exact ⟨_,J,wkA [(0,0)] [] []⟩
 intro f hb;subst hb;refine qe ?_;refine Ze (st':=⟨[(5,.d (.sl 1 (f.map (eI .i64))))],[],0⟩) (wkA [] [0] []) ?_ qd;refine Q1<|U J<|q7 c fun y z c=>Q3 (qe1 f y z) J<|qa J<|qu ?_;cases c;exact Q5 _ J
theorem qjl (h : List qq) (j : Int) (k : Int) (r : Bool) (g : q4u h j k = some r) : Pure Tryz.prog tab 94 [.sl 4 (h.map Qd),qf j,qf k] (.bool r):=by
 unfold q4u at g;refine Qt Tryz.func94 J qg qg J<|qc<|qa J<|q8<|qe<|qc<|qa J<|q8<|q7 g fun m ao g=>?_;refine Qo (fun l=>.inl l = m) (fun l=>⟨[],[],0⟩) qd ?_ ?_
 ·refine Qk (q28 h j k) (fun n=>⟨[(0,.d (.sl 4 (h.map Qd))),(1,q9 j),(2,q9 k),(7,q9 n)],[],0⟩) _ m ao (wkA [] [] []) ?_;intro n ay a;unfold q28 at a;refine qe<|qc<|U J<|U J<|K0 J<|O _ J<|q8 ?_;refine ql J a (fun _ a=>?_) (fun _ a=>?_)
  ·refine qm<|qe<|Qa<|qc<|U J<|U J<|q7 a fun az ap a=>Qm ap J<|O _ J<|O _ J<|U J<|O _ J<|q7 a fun aq b a=>?_;refine Qf 9 (fun A st=>∃ o p q s t u v x,st = A [(29,Q2 aq),(28,x),(27,v),(26,u),(25,t),(24,s),(23,q),(22,p),(21,o)]) ?_ ?_
   ·refine Qg J J b (fun b=>?_) (fun b=>?_)
    ·refine U J<|U J<|U J<|q7 b fun ba ar b=>Qm ar J<|O _ J<|O _ J<|O _ J<|O _ J<|q8 ?_;cases b;exact ⟨_,_,_,_,_,_,_,_,J⟩
    refine qb J<|qb J<|qb J<|qb J<|qb J<|qb J<|qb J<|O _ J<|q8 ?_;cases b;exact ⟨_,_,_,_,_,_,_,_,J⟩
   rintro _ ⟨o,p,q,s,t,u,v,x,rfl⟩;refine q7 a fun au c a=>?_;refine Qf 9 (fun A st=>∃ y z aa ab ac ad ae af,st = A [(38,Q2 au),(37,af),(36,ae),(35,ad),(34,ac),(33,ab),(32,aa),(31,z),(30,y)]) ?_ ?_
   ·refine Qg J J c (fun c=>?_) (fun c=>?_)
    ·refine U J<|U J<|q7 c fun bb av c=>Qm av J<|O _ J<|O _ J<|U J<|O _ J<|O _ J<|q8 ?_;cases c;exact ⟨_,_,_,_,_,_,_,_,J⟩
    refine qb J<|qb J<|qb J<|qb J<|qb J<|qb J<|qb J<|O _ J<|q8 ?_;cases c;exact ⟨_,_,_,_,_,_,_,_,J⟩
   rintro _ ⟨y,z,aa,ab,ac,ad,ae,af,rfl⟩;refine q7 a fun aw f a=>?_;refine Qf 9 (fun A st=>∃ ag ah ai aj ak al am an,st = A [(47,Q2 aw),(46,an),(45,am),(44,al),(43,ak),(42,aj),(41,ai),(40,ah),(39,ag)]) ?_ ?_
   ·refine Qg J J f (fun f=>?_) (fun f=>?_)
    ·refine U J<|U J<|U J<|q7 f fun bc ax f=>Qm ax J<|O _ J<|O _ J<|O _ J<|O _ J<|q8 ?_;cases f;exact ⟨_,_,_,_,_,_,_,_,J⟩
    refine qb J<|qb J<|qb J<|qb J<|qb J<|qb J<|qb J<|O _ J<|q8 ?_;cases f;exact ⟨_,_,_,_,_,_,_,_,J⟩
   rintro _ ⟨ag,ah,ai,aj,ak,al,am,an,rfl⟩;refine q8 ?_;refine ql J a (fun _ a=>?_) (fun _ a=>?_)
   ·refine qc<|qa J<|qu ?_;refine ⟨_,qn a,fun hm=>?_⟩;subst hm;cases g;exact Q5 _ J
   refine qm<|Qj<|Qq<|Q1<|U J<|O _ J<|qa J<|qz<|⟨_,qn a,wkA [] [] []⟩
  refine Qc ?_;refine ⟨_,qn a,fun hm=>?_⟩;subst hm;exact ⟨_,J,wkA [] [] []⟩
 intro l hb;subst hb;refine qc<|qa J<|qu ?_;cases g;exact Q5 _ J
theorem qrt (f : Int) (g : Bool) (h : Bool) (r : Bool) (a : q4s f g h = some r) : Pure Tryz.prog tab 93 [qf f,.bool g,.bool h] (.bool r):=by
 unfold q4s at a;refine Qt Tryz.func93 J qg qg J<|qc<|qa J<|q8<|qe<|qc<|U J<|O _ J<|q8 ?_;refine ql J a (fun _ a=>?_) (fun _ a=>?_)
 ·refine qc<|U J<|q7 a fun q b a=>?_;refine Qf 3 (fun A st=>∃ j k,st = A [(12,Q2 q),(11,k),(10,j)]) ?_ ?_
  ·refine Qg J J b (fun b=>?_) (fun b=>?_)
   ·refine U J<|O _ J<|q8 ?_;cases b;exact ⟨_,_,J⟩
   refine qb J<|O _ J<|q8 ?_;cases b;exact ⟨_,_,J⟩
  rintro _ ⟨j,k,rfl⟩;refine qa J<|qu ?_;cases a;exact Q5 _ J
 refine qm<|qe<|qc<|U J<|O _ J<|q8 ?_;refine ql J a (fun _ a=>?_) (fun _ a=>?_)
 ·refine qc<|U J<|q7 a fun s c a=>?_;refine Qf 3 (fun A st=>∃ l m,st = A [(18,Q2 s),(17,m),(16,l)]) ?_ ?_
  ·refine Qg J J c (fun c=>?_) (fun c=>?_)
   ·refine qb J<|O _ J<|q8 ?_;cases c;exact ⟨_,_,J⟩
   refine U J<|O _ J<|q8 ?_;cases c;exact ⟨_,_,J⟩
  rintro _ ⟨l,m,rfl⟩;refine qa J<|qu ?_;cases a;exact Q5 _ J
 refine qm<|qc<|U J<|q7 a fun t d a=>?_;refine Qf 4 (fun A st=>∃ n o p,st = A [(23,Q2 t),(22,p),(21,o),(20,n)]) ?_ ?_
 ·refine Qg J J d (fun d=>?_) (fun d=>?_)
  ·refine U J<|O _ J<|O _ J<|q8 ?_;cases d;exact ⟨_,_,_,J⟩
  refine qb J<|qb J<|O _ J<|q8 ?_;cases d;exact ⟨_,_,_,J⟩
 rintro _ ⟨n,o,p,rfl⟩;refine qa J<|qu ?_;cases a;exact Q5 _ J
theorem qrr (f : List Int) (g : List Bool) (r : List qo) (l : q3c f g = some r) : Pure Tryz.prog tab 95 [.sl 1 (f.map (eI .i64)),.sl 1 (g.map eB)] (.sl 2 (r.map Qy)):=by
 unfold q3c at l;refine Qt Tryz.func95 J qg qg J<|qc<|qa J<|qx<|qa J<|q8<|qe<|qc<|qa J<|q8<|q7 l fun m ae l=>?_;refine Qo (fun h=>h = m) (fun h=>⟨[(5,.hs 0 2 0 h.length)],[(0,.dat 2 (h.map Qy))],1⟩) qd ?_ ?_
 ·refine Qk (q3d f g) (fun j=>⟨[(0,.d (.sl 1 (f.map (eI .i64)))),(1,.d (.sl 1 (g.map eB))),(5,.hs 0 2 0 j.2.length),(6,q9 j.1)],[(0,.dat 2 (j.2.map Qy))],1⟩) _ m ae (wkA [] [] [0]) ?_;intro j ao c;unfold q3d at c;refine qe<|qc<|U J<|O _ J<|U J<|K0 J<|O _ J<|q8 ?_;refine ql J c (fun _ c=>?_) (fun _ c=>?_)
  ·refine qm<|qe<|q7 c fun af a c=>?_;refine Qo (fun k=>k = af) (fun k=>⟨[(0,.d (.sl 1 (f.map (eI .i64)))),(1,.d (.sl 1 (g.map eB))),(5,.hs 0 2 0 k.length),(6,q9 j.1)],[(0,.dat 2 (k.map Qy))],1⟩) qd ?_ ?_
   ·refine qe<|qc<|U J<|U J<|q7 a fun ap ag a=>Qm ag J<|O _ J<|O _ J<|q8 ?_;refine ql J a (fun _ a=>?_) (fun _ a=>?_)
    ·refine Qc ?_;obtain rfl:=qw a;exact ⟨_,J,wkA [(0,0)] [] []⟩
    refine qm<|qc<|U J<|O _ J<|qa J<|q8<|qe<|Qe [q0,q0,q0,q0,q0,q0,qv 0,q0,q0,q0,q0,q0,q0,q0,q0] qg<|U J<|O _ J<|q7 a fun ah b a=>?_;refine Qf 13 (fun A st=>∃ n o p q s t u v x y z aa,st = A [(36,Q2 ah),(35,aa),(34,z),(33,y),(32,x),(31,v),(30,u),(29,t),(28,s),(27,q),(26,p),(25,o),(24,n)]) ?_ ?_
    ·refine Qg J J b (fun b=>?_) (fun b=>?_)
     ·refine U J<|U J<|O _ J<|q7 b fun aq ab b=>qs ab J J<|O _ J<|Q9 _ ab J<|U J<|U J<|q7 b fun ar ai b=>Qm ai J<|O _ J<|O _ J<|O _ J<|q8 ?_;cases b;exact ⟨_,_,_,_,_,_,_,_,_,_,_,_,J⟩
     refine qb J<|qb J<|qb J<|qb J<|qb J<|qb J<|qb J<|qb J<|qb J<|qb J<|qb J<|O _ J<|q8 ?_;cases b;exact ⟨_,_,_,_,_,_,_,_,_,_,_,_,J⟩
    rintro _ ⟨n,o,p,q,s,t,u,v,x,y,z,aa,rfl⟩;refine q8 ?_;refine ql J a (fun _ a=>?_) (fun _ a=>?_)
    ·refine Q1<|U J<|U J<|O _ J<|U J<|U J<|O _ J<|q7 a fun ac aj a=>Qm aj J<|O _ J<|q7 a fun ak ad a=>qs ad J J<|O _ J<|Qv (ds:=[qf ac]) ({Lo:=ak.Lo,Hi:=ac} : qo) ad J J J J J J J J (leb J) J<|qz ?_;obtain rfl:=qw a;exact ⟨_,J,wkE [(0,0)] [] [] J ⟨qk J,qk J,⟨_,J,K2 qd J qt (ltd J)⟩,qk J,trivial⟩ ⟨Qp J J,trivial⟩⟩
    refine Qe [q0,(some [0,1],[0,2]),(some [],[1]),q0,q0,q0,q0,q0,q0,q0,q0,q0,q0,q0] qg<|U J<|U J<|U J<|q7 a fun au al a=>Qm al J<|O _ J<|U J<|U J<|O _ J<|q7 a fun av am a=>Qm am J<|O _ J<|O _ J<|Qn _ _ J<|q7 a fun aw an a=>Yj _ an J J J J J J J (Yh J J) J J J J<|qa J<|qz ?_;obtain rfl:=qw a;exact ⟨_,J,wkA [(0,2)] [] []⟩
   intro k hb;subst hb;refine Q1<|U J<|O _ J<|qa J<|qz<|⟨_,qn c,wkA [(0,0)] [] []⟩
  refine Qc ?_;refine ⟨_,qn c,fun hm=>?_⟩;subst hm;exact ⟨_,J,wkA [(0,0)] [] []⟩
 intro h hb;subst hb;refine qc<|U J<|qa J<|qu ?_;obtain rfl:=qw l;exact finD (.inr J) J (Ju J J) (.refl _)
theorem qru (c : List qo) (f : List qo) (r : Bool) (b : q4t c f = some r) : Pure Tryz.prog tab 96 [.sl 2 (c.map Qy),.sl 2 (f.map Qy)] (.bool r):=by
 unfold q4t at b;refine Qt Tryz.func96 J qg qg J<|qc<|qa J<|q8<|qe<|qc<|U J<|K0 J<|U J<|K0 J<|O _ J<|q8 ?_;refine ql J b (fun _ b=>?_) (fun _ b=>?_)
 ·refine qc<|qa J<|qu ?_;cases b;exact Q5 _ J
 refine qm<|qe<|qc<|qa J<|q8<|q7 b fun h k b=>?_;refine Qo (fun g=>.inl g = h) (fun g=>⟨[],[],0⟩) qd ?_ ?_
 ·refine Qk (qay c f) (fun j=>⟨[(0,.d (.sl 2 (c.map Qy))),(1,.d (.sl 2 (f.map Qy))),(5,q9 j)],[],0⟩) _ h k (wkA [] [] []) ?_;intro j n a;unfold qay at a;refine qe<|qc<|U J<|U J<|K0 J<|O _ J<|q8 ?_;refine ql J a (fun _ a=>?_) (fun _ a=>?_)
  ·refine qm<|qe<|Qa<|qe<|Qe [q0,q0,q0,q0,q0,q0,q0,q0,q0] qg<|U J<|U J<|q7 a fun o l a=>Qm l J<|O _ J<|U J<|U J<|q7 a fun p m a=>Qm m J<|O _ J<|O _ J<|q8 ?_;refine ql J a (fun _ a=>?_) (fun _ a=>?_)
   ·refine qc<|qa J<|qu ?_;refine ⟨_,qn a,fun hm=>?_⟩;subst hm;cases b;exact Q5 _ J
   refine qm<|Qj<|Qq<|Q1<|U J<|O _ J<|qa J<|qz<|⟨_,qn a,wkA [] [] []⟩
  refine Qc ?_;refine ⟨_,qn a,fun hm=>?_⟩;subst hm;exact ⟨_,J,wkA [] [] []⟩
 intro g hb;subst hb;refine qc<|qa J<|qu ?_;cases b;exact Q5 _ J
theorem qe2 (j : Int) (f : List qq) (g : List qq) (r : List qq) (n : Zz j f g = some r) : Pure Tryz.prog tab 55 [qf j,.sl 4 (f.map Qd),.sl 4 (g.map Qd)] (.sl 4 (r.map Qd)):=by
 unfold Zz at n;refine Qt Tryz.func55 J qg qg J<|qc<|qa J<|qx<|U J<|U J<|q7 n fun k h2 n=>Q3 (qrz f g k h2) J<|U J<|U J<|q7 n fun l h4 n=>Q3 (qs1 f g l h4) J<|qa J<|qa J<|qx<|qa J<|qx<|qa J<|qx<|qa J<|q8<|qe<|qc<|qa J<|q8<|q7 n fun ab ao n=>?_;refine Qo (fun t=>t = ab) (fun t=>⟨[(9,.hs 0 4 0 t.length)],[(0,.dat 4 (t.map Qd))],1⟩) qd ?_ ?_
 ·refine Qk (q29 k l f g j) (fun a=>⟨[(0,q9 j),(1,.d (.sl 4 (f.map Qd))),(2,.d (.sl 4 (g.map Qd))),(7,.d (.sl 1 (k.map (eI .i64)))),(8,.d (.sl 1 (l.map (eI .i64)))),(9,.hs 0 4 0 a.2.2.2.length),(10,.d (.sl 2 (a.1.map Qy))),(11,q9 a.2.1),(12,q9 a.2.2.1)],[(0,.dat 4 (a.2.2.2.map Qd))],1⟩) _ ab ao (wkA [] [] [0]) ?_;intro a bt o;unfold q29 at o;refine qe<|qc<|U J<|O _ J<|U J<|K0 J<|O _ J<|q8 ?_;refine ql J o (fun _ o=>?_) (fun _ o=>?_)
  ·refine qm<|qe<|q7 o fun ap h o=>?_;refine Qo (fun p=>p = ap) (fun p=>⟨[(0,q9 j),(1,.d (.sl 4 (f.map Qd))),(2,.d (.sl 4 (g.map Qd))),(7,.d (.sl 1 (k.map (eI .i64)))),(8,.d (.sl 1 (l.map (eI .i64)))),(9,.hs 0 4 0 p.2.2.length),(10,.d (.sl 2 (p.1.map Qy))),(11,q9 p.2.1),(12,q9 a.2.2.1)],[(0,.dat 4 (p.2.2.map Qd))],1⟩) qd ?_ ?_
   ·refine qc<|qa J<|q8<|qe<|qc<|qa J<|q8<|q7 h fun ac aq h=>?_;refine Qo (fun q=>q = ac) (fun q=>⟨[(0,q9 j),(1,.d (.sl 4 (f.map Qd))),(2,.d (.sl 4 (g.map Qd))),(7,.d (.sl 1 (k.map (eI .i64)))),(8,.d (.sl 1 (l.map (eI .i64)))),(9,.hs 0 4 0 a.2.2.2.length),(10,.d (.sl 2 (a.1.map Qy))),(11,q9 a.2.1),(12,q9 a.2.2.1),(13,.hs 1 1 0 q.length)],[(0,.dat 4 (a.2.2.2.map Qd)),(1,.dat 1 (q.map eB))],2⟩) qd ?_ ?_
    ·refine Qk (q3g l k a f g j) (fun x=>⟨[(0,q9 j),(1,.d (.sl 4 (f.map Qd))),(2,.d (.sl 4 (g.map Qd))),(7,.d (.sl 1 (k.map (eI .i64)))),(8,.d (.sl 1 (l.map (eI .i64)))),(9,.hs 0 4 0 a.2.2.2.length),(10,.d (.sl 2 (a.1.map Qy))),(11,q9 a.2.1),(12,q9 a.2.2.1),(13,.hs 1 1 0 x.2.length),(14,q9 x.1)],[(0,.dat 4 (a.2.2.2.map Qd)),(1,.dat 1 (x.2.map eB))],2⟩) _ ac aq (wkA [(0,0)] [] [1]) ?_;intro x bu b;unfold q3g at b;refine qe<|qc<|U J<|U J<|K0 J<|O _ J<|q8 ?_;refine ql J b (fun _ b=>?_) (fun _ b=>?_)
     ·refine qm<|qe<|Qa<|Qe [q0,(some [1,2],[1,3]),(some [],[2]),q0,q0,q0,q0,q0,q0,q0,q0,q0,q0,q0,q0,q0,q0,q0,q0,q0,q0,q0,q0,q0,q0,q0] qg<|U J<|U J<|U J<|U J<|U J<|q7 b fun ar au b=>Qm au J<|O _ J<|U J<|U J<|q7 b fun av aw b=>Qm aw J<|O _ J<|q7 b fun ad ax b=>Q3 (qjl f ar av ad ax) J<|U J<|U J<|U J<|q7 b fun ay az b=>Qm az J<|O _ J<|U J<|U J<|q7 b fun ba bb b=>Qm bb J<|O _ J<|q7 b fun ae bc b=>Q3 (qjl g ay ba ae bc) J<|q7 b fun bd be b=>Q3 (qrt j ad ae bd be) J<|Qn _ _ J<|q7 b fun bv bf b=>Yj _ bf J J J J J J J (Yh J J) J J J J<|qa J<|qz<|Qq ?_;refine Q1<|U J<|O _ J<|qa J<|qz<|⟨_,qn b,wkA [(0,0),(1,3)] [] []⟩
     refine Qc ?_;refine ⟨_,qn b,fun hm=>?_⟩;subst hm;exact ⟨_,J,wkA [(0,0),(1,1)] [] []⟩
    intro q hb;subst hb;refine qe ?_;refine Ze (st':=⟨[(0,q9 j),(1,.d (.sl 4 (f.map Qd))),(2,.d (.sl 4 (g.map Qd))),(7,.d (.sl 1 (k.map (eI .i64)))),(8,.d (.sl 1 (l.map (eI .i64)))),(9,.hs 0 4 0 a.2.2.2.length),(10,.d (.sl 2 (a.1.map Qy))),(11,q9 a.2.1),(12,q9 a.2.2.1),(13,.d (.sl 1 (q.map eB)))],[(0,.dat 4 (a.2.2.2.map Qd))],1⟩) (wkA [(0,0)] [1] []) ?_ qd;refine Q1<|U J<|U J<|q7 h fun u bg h=>Q3 (qrr l q u bg) J<|qa J<|q8<|qe<|qc<|U J<|O _ J<|q7 h fun bh s h=>?_;refine Qf 5 (fun A st=>∃ af ag ah ai,st = A [(71,Q2 bh),(70,ai),(69,ah),(68,ag),(67,af)]) ?_ ?_
    ·refine Qg J J s (fun s=>?_) (fun s=>?_)
     ·refine U J<|U J<|q7 s fun bi bj s=>Q3 (qru u a.1 bi bj) J<|O _ J<|q8 ?_;cases s;exact ⟨_,_,_,_,J⟩
     refine qb J<|qb J<|qb J<|O _ J<|q8 ?_;cases s;exact ⟨_,_,_,_,J⟩
    rintro _ ⟨af,ag,ah,ai,rfl⟩;refine q8 ?_;refine ql J h (fun _ h=>?_) (fun _ h=>?_)
    ·refine qe<|qc<|U J<|qa J<|q8<|q7 h fun aj bk h=>?_;refine Qo (fun v=>v = aj) (fun v=>⟨[(0,q9 j),(1,.d (.sl 4 (f.map Qd))),(2,.d (.sl 4 (g.map Qd))),(7,.d (.sl 1 (k.map (eI .i64)))),(8,.d (.sl 1 (l.map (eI .i64)))),(9,.hs 0 4 0 v.length),(10,.d (.sl 2 (a.1.map Qy))),(11,q9 a.2.1),(12,q9 a.2.2.1)],[(0,.dat 4 (v.map Qd))],1⟩) qd ?_ ?_
     ·refine Qk (q3h k a) (fun y=>⟨[(0,q9 j),(1,.d (.sl 4 (f.map Qd))),(2,.d (.sl 4 (g.map Qd))),(7,.d (.sl 1 (k.map (eI .i64)))),(8,.d (.sl 1 (l.map (eI .i64)))),(9,.hs 0 4 0 y.2.length),(10,.d (.sl 2 (a.1.map Qy))),(11,q9 a.2.1),(12,q9 a.2.2.1),(16,q9 y.1)],[(0,.dat 4 (y.2.map Qd))],1⟩) _ aj bk (wkA [(0,0)] [] []) ?_;intro y bw m;unfold q3h at m;refine qe<|qc<|U J<|U J<|O _ J<|O _ J<|q8 ?_;refine ql J m (fun _ m=>?_) (fun _ m=>?_)
      ·refine qm<|qe<|Qa<|Q1<|U J<|U J<|U J<|U J<|O _ J<|q7 m fun ak bl m=>Qm bl J<|O _ J<|q7 m fun aa al m=>qs al J J<|O _ J<|Qv (ds:=[qf ak]) ({X0:=aa.X0,Y0:=aa.Y0,X1:=ak,Y1:=aa.Y1} : qq) al J J J J J J J J (leb J) J<|qz<|Qq<|Q1<|U J<|O _ J<|qa J<|qz<|⟨_,qn m,wkE [(0,0)] [] [] J ⟨qk J,qk J,qk J,qk J,qk J,⟨_,J,K2 qd J qt (ltd J)⟩,qk J,qk J,qk J,qk J,trivial⟩ ⟨Qp J J,trivial⟩⟩
      refine Qc ?_;refine ⟨_,qn m,fun hm=>?_⟩;subst hm;exact ⟨_,J,wkA [(0,0)] [] []⟩
     intro v hb;subst hb;refine Qc ?_;obtain rfl:=qw h;exact ⟨_,J,wkA [(0,0)] [] []⟩
    refine qm<|qc<|U J<|O _ J<|U J<|qa J<|qa J<|qx<|qa J<|q8<|q7 h fun bm bn h=>Qa<|Qk (q4v u k a) (fun z=>⟨[(0,q9 j),(1,.d (.sl 4 (f.map Qd))),(2,.d (.sl 4 (g.map Qd))),(7,.d (.sl 1 (k.map (eI .i64)))),(8,.d (.sl 1 (l.map (eI .i64)))),(9,.hs 0 4 0 z.2.length),(10,.d (.sl 2 (u.map Qy))),(11,q9 (a.2.2.2.length : Int)),(12,q9 a.2.2.1),(15,.d (.sl 2 (u.map Qy))),(17,q9 z.1)],[(0,.dat 4 (z.2.map Qd))],1⟩) _ bm bn (wkA [(0,0)] [] []) ?_;intro z bx c;unfold q4v at c;refine qe<|qc<|U J<|U J<|K0 J<|O _ J<|q8 ?_;refine ql J c (fun _ c=>?_) (fun _ c=>?_)
    ·refine qm<|qe<|Qa<|Qe [q0,(some [0,1],[0,2]),(some [],[1]),q0,q0,q0,q0,q0,q0,q0,q0,q0,q0,q0,q0,q0,q0,q0,q0,q0,q0,q0,q0,q0] qg<|U J<|U J<|U J<|q7 c fun bz bo c=>Qm bo J<|O _ J<|U J<|U J<|q7 c fun ca bp c=>Qm bp J<|O _ J<|O _ J<|U J<|U J<|O _ J<|q7 c fun cb bq c=>Qm bq J<|O _ J<|U J<|U J<|q7 c fun cc br c=>Qm br J<|O _ J<|O _ J<|O _ J<|Qn _ _ J<|q7 c fun cd bs c=>Yj _ bs J J J J J J J (Yh J J) J J J J<|qa J<|qz<|Qq<|Q1<|U J<|O _ J<|qa J<|qz<|⟨_,qn c,wkA [(0,2)] [] []⟩
    refine Qc ?_;refine ⟨_,qn c,fun hm=>?_⟩;subst hm;obtain rfl:=qw h;exact ⟨_,J,wkA [(0,0)] [] []⟩
   intro p hb;subst hb;refine Q1<|U J<|O _ J<|qa J<|qz<|⟨_,qn o,wkA [(0,0)] [] []⟩
  refine Qc ?_;refine ⟨_,qn o,fun hm=>?_⟩;subst hm;exact ⟨_,J,wkA [(0,0)] [] []⟩
 intro t hb;subst hb;refine qc<|U J<|qa J<|qu ?_;obtain rfl:=qw n;exact finD (.inr J) J (Ju J J) (.refl _)
theorem qrx (c : List qq) (f : List qq) (r : Bool) (b : q4x c f = some r) : Pure Tryz.prog tab 20 [.sl 4 (c.map Qd),.sl 4 (f.map Qd)] (.bool r):=by
 unfold q4x at b;refine Qt Tryz.func20 J qg qg J<|qc<|qa J<|q8<|qe<|qc<|U J<|K0 J<|U J<|K0 J<|O _ J<|q8 ?_;refine ql J b (fun _ b=>?_) (fun _ b=>?_)
 ·refine qc<|qa J<|qu ?_;cases b;exact Q5 _ J
 refine qm<|qe<|qc<|qa J<|q8<|q7 b fun h k b=>?_;refine Qo (fun g=>.inl g = h) (fun g=>⟨[],[],0⟩) qd ?_ ?_
 ·refine Qk (qaz c f) (fun j=>⟨[(0,.d (.sl 4 (c.map Qd))),(1,.d (.sl 4 (f.map Qd))),(5,q9 j)],[],0⟩) _ h k (wkA [] [] []) ?_;intro j n a;unfold qaz at a;refine qe<|qc<|U J<|U J<|K0 J<|O _ J<|q8 ?_;refine ql J a (fun _ a=>?_) (fun _ a=>?_)
  ·refine qm<|qe<|Qa<|qe<|Qe [q0,q0,q0,q0,q0,q0,q0,q0,q0] qg<|U J<|U J<|q7 a fun o l a=>Qm l J<|O _ J<|U J<|U J<|q7 a fun p m a=>Qm m J<|O _ J<|O _ J<|q8 ?_;refine ql J a (fun _ a=>?_) (fun _ a=>?_)
   ·refine qc<|qa J<|qu ?_;refine ⟨_,qn a,fun hm=>?_⟩;subst hm;cases b;exact Q5 _ J
   refine qm<|Qj<|Qq<|Q1<|U J<|O _ J<|qa J<|qz<|⟨_,qn a,wkA [] [] []⟩
  refine Qc ?_;refine ⟨_,qn a,fun hm=>?_⟩;subst hm;exact ⟨_,J,wkA [] [] []⟩
 intro g hb;subst hb;refine qc<|qa J<|qu ?_;cases b;exact Q5 _ J
theorem qs7 (l : Int) (f : List qj) (g : List qj) (r : List qj × Bool) (o : q3o l f g = some r) : Pure Tryz.prog tab 113 [qf l,.sl 6 (f.map Qi),.sl 6 (g.map Qi)] (.tup [.sl 6 (r.1.map Qi),.bool r.2]):=by
 unfold q3o at o;refine Qt Tryz.func113 J qg qg J<|qc<|qa J<|qa J<|qx<|U J<|U J<|q7 o fun m h2 o=>Q3 (qs5 f g m h2) J<|qa J<|qx<|qa J<|qx<|qa J<|qx<|qa J<|q8<|qe<|qc<|qa J<|q8<|q7 o fun z bi o=>?_;refine Qo (fun s=>.inl s = z) (fun s=>⟨[(9,.hs 0 6 0 s.length)],[(0,.dat 6 (s.map Qi))],1⟩) qd ?_ ?_
 ·refine Qk (q1e m f g l) (fun c=>⟨[(0,q9 l),(1,.d (.sl 6 (f.map Qi))),(2,.d (.sl 6 (g.map Qi))),(8,.d (.sl 1 (m.map (eI .i64)))),(9,.hs 0 6 0 c.2.2.2.length),(10,.d (.sl 4 (c.1.map Qd))),(11,q9 c.2.1),(12,q9 c.2.2.1)],[(0,.dat 6 (c.2.2.2.map Qi))],1⟩) _ z bi (wkA [] [] [0]) ?_;intro c cs n;unfold q1e at n;refine qe<|qc<|U J<|O _ J<|U J<|K0 J<|O _ J<|q8 ?_;refine ql J n (fun _ n=>?_) (fun _ n=>?_)
  ·refine qm<|qe<|q7 n fun bj a n=>?_;refine Qo (fun p=>.inl p = bj) (fun p=>⟨[(0,q9 l),(1,.d (.sl 6 (f.map Qi))),(2,.d (.sl 6 (g.map Qi))),(8,.d (.sl 1 (m.map (eI .i64)))),(9,.hs 0 6 0 p.2.2.length),(10,.d (.sl 4 (p.1.map Qd))),(11,q9 p.2.1),(12,q9 c.2.2.1)],[(0,.dat 6 (p.2.2.map Qi))],1⟩) qd ?_ ?_
   ·refine qe<|Qe [q0,q0,q0,q0,q0,q0,q0,q0,q0,q0,q0,q0,q0,q0,q0] qg<|U J<|U J<|U J<|U J<|q7 a fun bk bl a=>Qm bl J<|O _ J<|q7 a fun aa bm a=>Q3 (qb1 f bk aa bm) J<|U J<|U J<|U J<|q7 a fun bn bo a=>Qm bo J<|O _ J<|q7 a fun ab bp a=>Q3 (qb1 g bn ab bp) J<|q7 a fun t bq a=>Q3 (qe2 l aa ab t bq) J<|qa J<|q8<|qe<|qc<|U J<|K0 J<|O _ J<|q7 a fun br h a=>?_;refine Qf 11 (fun A st=>∃ ac ad ae af ag ah ai aj ak al,st = A [(53,Q2 br),(52,al),(51,ak),(50,aj),(49,ai),(48,ah),(47,ag),(46,af),(45,ae),(44,ad),(43,ac)]) ?_ ?_
    ·refine Qg J J h (fun h=>?_) (fun h=>?_)
     ·refine qb J<|qb J<|qb J<|qb J<|qb J<|qb J<|qb J<|qb J<|qb J<|O _ J<|q8 ?_;cases h;exact ⟨_,_,_,_,_,_,_,_,_,_,J⟩
     refine U J<|U J<|U J<|q7 h fun bs bt h=>Qm bt J<|O _ J<|q7 h fun am bu h=>Q3 (qb1 f bs am bu) J<|q7 h fun bv bw h=>Q3 (qas (.cons (.refl _) (.cons (.refl _) (.cons (.nil _) .nil))) (qe2 2 am [] bv bw)) J<|K0 J<|O _ J<|O _ J<|q8 ?_;cases h;exact ⟨_,_,_,_,_,_,_,_,_,_,J⟩
    rintro _ ⟨ac,ad,ae,af,ag,ah,ai,aj,ak,al,rfl⟩;refine q7 a fun bx j a=>?_;refine Qf 11 (fun A st=>∃ an ao ap aq ar au av aw ax ay,st = A [(64,Q2 bx),(63,ay),(62,ax),(61,aw),(60,av),(59,au),(58,ar),(57,aq),(56,ap),(55,ao),(54,an)]) ?_ ?_
    ·refine Qg J J j (fun j=>?_) (fun j=>?_)
     ·refine qb J<|qb J<|qb J<|qb J<|qb J<|qb J<|qb J<|qb J<|qb J<|O _ J<|q8 ?_;cases j;exact ⟨_,_,_,_,_,_,_,_,_,_,J⟩
     refine U J<|U J<|U J<|q7 j fun bz ca j=>Qm ca J<|O _ J<|q7 j fun az cb j=>Q3 (qb1 g bz az cb) J<|q7 j fun cc cd j=>Q3 (qas (.cons (.refl _) (.cons (.refl _) (.cons (.nil _) .nil))) (qe2 2 az [] cc cd)) J<|K0 J<|O _ J<|O _ J<|q8 ?_;cases j;exact ⟨_,_,_,_,_,_,_,_,_,_,J⟩
    rintro _ ⟨an,ao,ap,aq,ar,au,av,aw,ax,ay,rfl⟩;refine q8 ?_;refine ql J a (fun _ a=>?_) (fun _ a=>?_)
    ·refine qc<|qa J<|qa J<|qu ?_;obtain rfl:=qw a;refine ⟨_,qn n,fun hm=>?_⟩;subst hm;obtain rfl:=qw o;exact finD (.inr J) J J (q30 (.cons (.nil _) (.cons (.refl _) .nil)))
    refine qm<|qe<|qc<|U J<|O _ J<|q7 a fun ce q a=>?_;refine Qf 5 (fun A st=>∃ ba bb bc bd,st = A [(71,Q2 ce),(70,bd),(69,bc),(68,bb),(67,ba)]) ?_ ?_
    ·refine Qg J J q (fun q=>?_) (fun q=>?_)
     ·refine U J<|U J<|q7 q fun cf cg q=>Q3 (qrx t c.1 cf cg) J<|O _ J<|q8 ?_;cases q;exact ⟨_,_,_,_,J⟩
     refine qb J<|qb J<|qb J<|O _ J<|q8 ?_;cases q;exact ⟨_,_,_,_,J⟩
    rintro _ ⟨ba,bb,bc,bd,rfl⟩;refine q8 ?_;refine ql J a (fun _ a=>?_) (fun _ a=>?_)
    ·refine qe<|qc<|U J<|qa J<|q8<|q7 a fun be ch a=>?_;refine Qo (fun u=>u = be) (fun u=>⟨[(0,q9 l),(1,.d (.sl 6 (f.map Qi))),(2,.d (.sl 6 (g.map Qi))),(8,.d (.sl 1 (m.map (eI .i64)))),(9,.hs 0 6 0 u.length),(10,.d (.sl 4 (c.1.map Qd))),(11,q9 c.2.1),(12,q9 c.2.2.1)],[(0,.dat 6 (u.map Qi))],1⟩) qd ?_ ?_
     ·refine Qk (q3p m c) (fun v=>⟨[(0,q9 l),(1,.d (.sl 6 (f.map Qi))),(2,.d (.sl 6 (g.map Qi))),(8,.d (.sl 1 (m.map (eI .i64)))),(9,.hs 0 6 0 v.2.length),(10,.d (.sl 4 (c.1.map Qd))),(11,q9 c.2.1),(12,q9 c.2.2.1),(14,q9 v.1)],[(0,.dat 6 (v.2.map Qi))],1⟩) _ be ch (wkA [(0,0)] [] []) ?_;intro v ct k;unfold q3p at k;refine qe<|qc<|U J<|U J<|O _ J<|O _ J<|q8 ?_;refine ql J k (fun _ k=>?_) (fun _ k=>?_)
      ·refine qm<|qe<|Qa<|Q1<|U J<|U J<|U J<|U J<|O _ J<|q7 k fun bf ci k=>Qm ci J<|O _ J<|q7 k fun y bg k=>qs bg J J<|O _ J<|O _ J<|Qv (ds:=[qf bf]) ({Lo:=y.Lo,Hi:=({X:=y.Hi.X,Y:=y.Hi.Y,Z:=bf} : Q4)} : qj) bg J J J J J J J J (leb J) J<|qz<|Qq<|Q1<|U J<|O _ J<|qa J<|qz<|⟨_,qn k,wkE [(0,0)] [] [] J ⟨qk J,qk J,qk J,qk J,⟨_,J,K2 qd J qt (ltd J)⟩,qk J,qk J,qk J,qk J,trivial⟩ ⟨Qp J J,trivial⟩⟩
      refine Qc ?_;refine ⟨_,qn k,fun hm=>?_⟩;subst hm;exact ⟨_,J,wkA [(0,0)] [] []⟩
     intro u hb;subst hb;refine Qc ?_;obtain rfl:=qw a;exact ⟨_,J,wkA [(0,0)] [] []⟩
    refine qm<|qc<|U J<|O _ J<|U J<|qa J<|qa J<|qx<|qa J<|q8<|q7 a fun cj ck a=>Qa<|Qk (q52 t m c) (fun x=>⟨[(0,q9 l),(1,.d (.sl 6 (f.map Qi))),(2,.d (.sl 6 (g.map Qi))),(8,.d (.sl 1 (m.map (eI .i64)))),(9,.hs 0 6 0 x.2.length),(10,.d (.sl 4 (t.map Qd))),(11,q9 (c.2.2.2.length : Int)),(12,q9 c.2.2.1),(13,.d (.sl 4 (t.map Qd))),(15,q9 x.1)],[(0,.dat 6 (x.2.map Qi))],1⟩) _ cj ck (wkA [(0,0)] [] []) ?_;intro x cu b;unfold q52 at b;refine qe<|qc<|U J<|U J<|K0 J<|O _ J<|q8 ?_;refine ql J b (fun _ b=>?_) (fun _ b=>?_)
    ·refine qm<|qe<|Qa<|Qe [q0,(some [0,1],[0,2]),(some [],[1]),q0,q0,q0,q0,q0,q0,q0,q0,q0,q0,q0,q0,q0,q0,q0,q0,q0,q0,q0,q0,q0,q0,q0,q0,q0,q0,q0,q0,q0,q0,q0,q0,q0] qg<|U J<|U J<|U J<|q7 b fun cv cl b=>Qm cl J<|O _ J<|O _ J<|U J<|U J<|q7 b fun cw cm b=>Qm cm J<|O _ J<|O _ J<|U J<|U J<|q7 b fun cx cn b=>Qm cn J<|O _ J<|O _ J<|U J<|U J<|q7 b fun cy co b=>Qm co J<|O _ J<|O _ J<|U J<|U J<|q7 b fun cz cp b=>Qm cp J<|O _ J<|O _ J<|U J<|U J<|O _ J<|q7 b fun da cq b=>Qm cq J ?_;refine O _ J<|O _ J<|O _ J<|Qn _ _ J<|q7 b fun dc cr b=>Yj _ cr J J J J J J J (Yh J J) J J J J<|qa J<|qz<|Qq<|Q1<|U J<|O _ J<|qa J<|qz<|⟨_,qn b,wkA [(0,2)] [] []⟩
    refine Qc ?_;refine ⟨_,qn b,fun hm=>?_⟩;subst hm;obtain rfl:=qw a;exact ⟨_,J,wkA [(0,0)] [] []⟩
   intro p hb;subst hb;refine Q1<|U J<|O _ J<|qa J<|qz<|⟨_,qn n,wkA [(0,0)] [] []⟩
  refine Qc ?_;refine ⟨_,qn n,fun hm=>?_⟩;subst hm;exact ⟨_,J,wkA [(0,0)] [] []⟩
 intro s hb;subst hb;refine qc<|U J<|U J<|O _ J<|O _ J<|qa J<|qa J<|qu ?_;obtain rfl:=qw o;exact finD (.inr J) J (qem (q38 (Ju J J) (q38 J J))) (.refl _)
theorem qs9 (c : List qj) (f : List qj) (r : Bool) (b : qb2 c f = some r) : Pure Tryz.prog tab 17 [.sl 6 (c.map Qi),.sl 6 (f.map Qi)] (.bool r):=by
 unfold qb2 at b;refine Qt Tryz.func17 J qg qg J<|qc<|qa J<|q8<|qe<|qc<|U J<|K0 J<|U J<|K0 J<|O _ J<|q8 ?_;refine ql J b (fun _ b=>?_) (fun _ b=>?_)
 ·refine qc<|qa J<|qu ?_;cases b;exact Q5 _ J
 refine qm<|qe<|qc<|qa J<|q8<|q7 b fun h k b=>?_;refine Qo (fun g=>.inl g = h) (fun g=>⟨[],[],0⟩) qd ?_ ?_
 ·refine Qk (qb3 c f) (fun j=>⟨[(0,.d (.sl 6 (c.map Qi))),(1,.d (.sl 6 (f.map Qi))),(5,q9 j)],[],0⟩) _ h k (wkA [] [] []) ?_;intro j n a;unfold qb3 at a;refine qe<|qc<|U J<|U J<|K0 J<|O _ J<|q8 ?_;refine ql J a (fun _ a=>?_) (fun _ a=>?_)
  ·refine qm<|qe<|Qa<|qe<|Qe [q0,q0,q0,q0,q0,q0,q0,q0,q0] qg<|U J<|U J<|q7 a fun o l a=>Qm l J<|O _ J<|U J<|U J<|q7 a fun p m a=>Qm m J<|O _ J<|O _ J<|q8 ?_;refine ql J a (fun _ a=>?_) (fun _ a=>?_)
   ·refine qc<|qa J<|qu ?_;refine ⟨_,qn a,fun hm=>?_⟩;subst hm;cases b;exact Q5 _ J
   refine qm<|Qj<|Qq<|Q1<|U J<|O _ J<|qa J<|qz<|⟨_,qn a,wkA [] [] []⟩
  refine Qc ?_;refine ⟨_,qn a,fun hm=>?_⟩;subst hm;exact ⟨_,J,wkA [] [] []⟩
 intro g hb;subst hb;refine qc<|qa J<|qu ?_;cases b;exact Q5 _ J
theorem qjn (c : List qj) (r : Int) (a : q50 c = some r) : Pure Tryz.prog tab 82 [.sl 6 (c.map Qi)] (qf r):=by
 unfold q50 at a;refine Qt Tryz.func82 J qg qg J<|qc<|qa J<|q8<|qe<|qc<|U J<|K0 J<|O _ J<|q8 ?_;refine ql J a (fun _ a=>?_) (fun _ a=>?_)
 ·refine qc<|qa J<|qu ?_;cases a;exact Q5 _ J
 refine qm<|qe<|qc<|qa J<|q8<|q7 a fun h q a=>?_;refine Qo (fun g=>.inl g = h) (fun g=>⟨[(0,.d (.sl 6 (c.map Qi)))],[],0⟩) qd ?_ ?_
 ·refine Qk (q51 c) (fun j=>⟨[(0,.d (.sl 6 (c.map Qi))),(3,q9 j)],[],0⟩) _ h q (wkA [] [] []) ?_;intro j ab b;unfold q51 at b;refine qe<|qc<|U J<|U J<|K0 J<|O _ J<|q8 ?_;refine ql J b (fun _ b=>?_) (fun _ b=>?_)
  ·refine qm<|qe<|Qa<|qc<|U J<|U J<|q7 b fun s t b=>Qm t J<|O _ J<|q7 b fun u v b=>Q3 (qsb s u v) J<|O _ J<|q8 ?_;refine ql J b (fun _ b=>?_) (fun _ b=>?_)
   ·refine qc<|qa J<|qu ?_;refine ⟨_,qn b,fun hm=>?_⟩;subst hm;cases a;exact Q5 _ J
   refine qm<|Qj<|Qq<|Q1<|U J<|O _ J<|qa J<|qz<|⟨_,qn b,wkA [] [] []⟩
  refine Qc ?_;refine ⟨_,qn b,fun hm=>?_⟩;subst hm;exact ⟨_,J,wkA [] [] []⟩
 intro g hb;subst hb;refine qc<|U J<|q7 a fun k x a=>Q3 (qas (.cons (.refl _) (.cons (.refl _) (.cons (.nil _) .nil))) (qs7 2 c [] k x)) J<|U J<|O _ J<|O _ J<|qa J<|qa J<|q8<|qe<|qc<|U J<|O _ J<|q7 a fun y f a=>?_;refine Qf 6 (fun A st=>∃ l m n o p,st = A [(33,Q2 y),(32,p),(31,o),(30,n),(29,m),(28,l)]) ?_ ?_
 ·refine Qg J J f (fun f=>?_) (fun f=>?_)
  ·refine qb J<|qb J<|qb J<|qb J<|O _ J<|q8 ?_;cases f;exact ⟨_,_,_,_,_,J⟩
  refine U J<|U J<|q7 f fun z aa f=>Q3 (qs9 k.1 c z aa) J<|O _ J<|O _ J<|q8 ?_;cases f;exact ⟨_,_,_,_,_,J⟩
 rintro _ ⟨l,m,n,o,p,rfl⟩;refine q8 ?_;refine ql J a (fun _ a=>?_) (fun _ a=>?_)
 ·refine qc<|qa J<|qu ?_;cases a;exact Q5 _ J
 refine qm<|qc<|qa J<|qu ?_;cases a;exact Q5 _ J
theorem qb4 (g : List qj) (h : Q4) (r : Int) (a : q2a g h = some r) : Pure Tryz.prog tab 45 [.sl 6 (g.map Qi),.agg (K3 h)] (qf r):=by
 unfold q2a at a;refine Qt Tryz.func45 J qg qg J<|qc<|Qn _ _ J<|qa J<|q8<|qe<|qc<|U J<|q7 a fun r1 h2 a=>Q3 (qjn g r1 h2) J<|O _ J<|q8 ?_;refine ql J a (fun _ a=>?_) (fun _ a=>?_)
 ·refine qc<|U J<|q7 a fun r5 h6 a=>Q3 (qjn g r5 h6) J<|qa J<|qu ?_;cases a;exact Q5 _ J
 refine qm<|qe<|qc<|qa J<|q8<|q7 a fun m ba a=>?_;refine Qo (fun l=>.inl l = m) (fun l=>⟨[(3,.ref 0 3 0 0)],[(0,.dat 3 [(K3 h)])],1⟩) qd ?_ ?_
 ·refine Qk (q54 g) (fun n=>⟨[(0,.d (.sl 6 (g.map Qi))),(3,.ref 0 3 0 0),(5,q9 n)],[(0,.dat 3 [(K3 h)])],1⟩) _ m ba (wkA [(0,0)] [] []) ?_;intro n bp b;unfold q54 at b;refine qe<|qc<|U J<|U J<|K0 J<|O _ J<|q8 ?_;refine ql J b (fun _ b=>?_) (fun _ b=>?_)
  ·refine qm<|qe<|Qa<|qc<|U J<|U J<|q7 b fun bb bc b=>Qm bc J<|O _ J<|O _ J<|q7 b fun bd be b=>Q3 (q57 bb.Lo 30 bd be) J<|O _ J<|q7 b fun bf c b=>?_;refine Qf 9 (fun A st=>∃ o p q s t u v x,st = A [(32,Q2 bf),(31,x),(30,v),(29,u),(28,t),(27,s),(26,q),(25,p),(24,o)]) ?_ ?_
   ·refine Qg J J c (fun c=>?_) (fun c=>?_)
    ·refine qb J<|qb J<|qb J<|qb J<|qb J<|qb J<|qb J<|O _ J<|q8 ?_;cases c;exact ⟨_,_,_,_,_,_,_,_,J⟩
    refine U J<|U J<|q7 c fun bg bh c=>Qm bh J<|O _ J<|O _ J<|q7 c fun bi bj c=>Q3 (q57 bg.Hi 30 bi bj) J<|O _ J<|O _ J<|q8 ?_;cases c;exact ⟨_,_,_,_,_,_,_,_,J⟩
   rintro _ ⟨o,p,q,s,t,u,v,x,rfl⟩;refine q8 ?_;refine ql J b (fun _ b=>?_) (fun _ b=>?_)
   ·refine qc<|qa J<|qu ?_;refine ⟨_,qn b,fun hm=>?_⟩;subst hm;cases a;exact Q5 _ J
   refine qm<|Qj<|Qq<|Q1<|U J<|O _ J<|qa J<|qz<|⟨_,qn b,wkA [(0,0)] [] []⟩
  refine Qc ?_;refine ⟨_,qn b,fun hm=>?_⟩;subst hm;exact ⟨_,J,wkA [(0,0)] [] []⟩
 intro l hb;subst hb;refine qe<|qc<|O _ J<|q7 a fun bk bl a=>Q3 (q57 h 8 bk bl) J<|O _ J<|q7 a fun bm f a=>?_;refine Qf 15 (fun A st=>∃ y z aa ab ac ad ae af ag ah ai aj ak al,st = A [(50,Q2 bm),(49,al),(48,ak),(47,aj),(46,ai),(45,ah),(44,ag),(43,af),(42,ae),(41,ad),(40,ac),(39,ab),(38,aa),(37,z),(36,y)]) ?_ ?_
 ·refine Qg J J f (fun f=>?_) (fun f=>?_)
  ·refine qb J<|qb J<|qb J<|qb J<|qb J<|qb J<|qb J<|qb J<|qb J<|qb J<|qb J<|qb J<|qb J<|O _ J<|q8 ?_;cases f;exact ⟨_,_,_,_,_,_,_,_,_,_,_,_,_,_,J⟩
  refine O _ J<|O _ J<|O _ J<|q7 f fun bn j f=>?_;refine Qf 5 (fun A st=>∃ am an ao ap,st = A [(44,Q2 bn),(43,ap),(42,ao),(41,an),(40,am)]) ?_ ?_
  ·refine Qg J J j (fun j=>?_) (fun j=>?_)
   ·refine O _ J<|O _ J<|O _ J<|O _ J<|q8 ?_;cases j;exact ⟨_,_,_,_,J⟩
   refine qb J<|qb J<|qb J<|O _ J<|q8 ?_;cases j;exact ⟨_,_,_,_,J⟩
  rintro _ ⟨am,an,ao,ap,rfl⟩;refine q7 f fun bo k f=>?_;refine Qf 5 (fun A st=>∃ aq ar au av,st = A [(49,Q2 bo),(48,av),(47,au),(46,ar),(45,aq)]) ?_ ?_
  ·refine Qg J J k (fun k=>?_) (fun k=>?_)
   ·refine O _ J<|O _ J<|O _ J<|O _ J<|q8 ?_;cases k;exact ⟨_,_,_,_,J⟩
   refine qb J<|qb J<|qb J<|O _ J<|q8 ?_;cases k;exact ⟨_,_,_,_,J⟩
  rintro _ ⟨aq,ar,au,av,rfl⟩;refine O _ J<|q8 ?_;cases f;exact ⟨_,_,_,_,_,_,_,_,_,_,_,_,_,_,J⟩
 rintro _ ⟨y,z,aa,ab,ac,ad,ae,af,ag,ah,ai,aj,ak,al,rfl⟩;refine q8 ?_;refine ql J a (fun _ a=>?_) (fun _ a=>?_)
 ·refine qc<|qa J<|qu ?_;cases a;exact Q5 _ J
 refine qm<|qc<|qa J<|qu ?_;cases a;exact Q5 _ J
theorem qjf (f : Int) (g : Int) (r : Int) (a : q3b f g = some r) : Pure Tryz.prog tab 63 [qf f,qf g] (qf r):=by
 unfold q3b at a;refine Qt Tryz.func63 J qg qg J<|qc<|qa J<|q8<|qe<|q7 a fun h j a=>?_;refine Qo (fun c=>c = h) (fun c=>⟨[(0,q9 c)],[],0⟩) qd ?_ ?_
 ·refine Qk (q4r) (fun d=>⟨[(0,q9 d.1),(1,q9 d.2)],[],0⟩) _ h j (wkA [] [] []) ?_;intro d l b;unfold q4r at b;refine qe<|qc<|U J<|O _ J<|q8 ?_;refine ql J b (fun _ b=>?_) (fun _ b=>?_)
  ·refine qm<|Qa<|Qe [q0,q0,q0,q0,q0,q0] qg<|U J<|U J<|U J<|q7 b fun m k b=>qqi k J J J<|qa J<|qa J<|qz<|Qq<|Qj<|⟨_,qn b,wkA [] [] []⟩
  refine Qc ?_;refine ⟨_,qn b,fun hm=>?_⟩;subst hm;exact ⟨_,J,wkA [] [] []⟩
 intro c hb;subst hb;refine qe<|qc<|U J<|O _ J<|q8 ?_;refine ql J a (fun _ a=>?_) (fun _ a=>?_)
 ·refine qc<|U J<|O _ J<|qa J<|qu ?_;cases a;exact Q5 _ J
 refine qm<|qc<|U J<|qa J<|qu ?_;cases a;exact Q5 _ J
theorem qau (g : Ql) (r : Int) (a : q1d g = some r) : Pure Tryz.prog tab 64 [.agg (Kl g)] (qf r):=by
 unfold q1d at a;refine Qt Tryz.func64 J qg qg J<|qc<|Qn _ _ J<|qa J<|q8<|qe<|qc<|O _ J<|O _ J<|O _ J<|q7 a fun c1 c a=>?_;refine Qf 5 (fun A st=>∃ h j k l,st = A [(10,Q2 c1),(9,l),(8,k),(7,j),(6,h)]) ?_ ?_
 ·refine Qg J J c (fun c=>?_) (fun c=>?_)
  ·refine qb J<|qb J<|qb J<|O _ J<|q8 ?_;cases c;exact ⟨_,_,_,_,J⟩
  refine O _ J<|O _ J<|O _ J<|O _ J<|q8 ?_;cases c;exact ⟨_,_,_,_,J⟩
 rintro _ ⟨h,j,k,l,rfl⟩;refine q7 a fun c7 d a=>?_;refine Qf 5 (fun A st=>∃ m n o p,st = A [(15,Q2 c7),(14,p),(13,o),(12,n),(11,m)]) ?_ ?_
 ·refine Qg J J d (fun d=>?_) (fun d=>?_)
  ·refine qb J<|qb J<|qb J<|O _ J<|q8 ?_;cases d;exact ⟨_,_,_,_,J⟩
  refine O _ J<|O _ J<|O _ J<|O _ J<|q8 ?_;cases d;exact ⟨_,_,_,_,J⟩
 rintro _ ⟨m,n,o,p,rfl⟩;refine q7 a fun af f a=>?_;refine Qf 5 (fun A st=>∃ q s t u,st = A [(20,Q2 af),(19,u),(18,t),(17,s),(16,q)]) ?_ ?_
 ·refine Qg J J f (fun f=>?_) (fun f=>?_)
  ·refine qb J<|qb J<|qb J<|O _ J<|q8 ?_;cases f;exact ⟨_,_,_,_,J⟩
  refine O _ J<|O _ J<|O _ J<|O _ J<|q8 ?_;cases f;exact ⟨_,_,_,_,J⟩
 rintro _ ⟨q,s,t,u,rfl⟩;refine q7 a fun ag b a=>?_;refine Qf 8 (fun A st=>∃ v x y z aa ab ac,st = A [(28,Q2 ag),(27,ac),(26,ab),(25,aa),(24,z),(23,y),(22,x),(21,v)]) ?_ ?_
 ·refine Qg J J b (fun b=>?_) (fun b=>?_)
  ·refine qb J<|qb J<|qb J<|qb J<|qb J<|qb J<|O _ J<|q8 ?_;cases b;exact ⟨_,_,_,_,_,_,_,J⟩
  refine O _ J<|O _ J<|O _ J<|O _ J<|q7 b fun ah ai b=>Q3 (qjf g.Num g.Den ah ai) J<|O _ J<|O _ J<|q8 ?_;cases b;exact ⟨_,_,_,_,_,_,_,J⟩
 rintro _ ⟨v,x,y,z,aa,ab,ac,rfl⟩;refine q8 ?_;refine ql J a (fun _ a=>?_) (fun _ a=>?_)
 ·refine qc<|qa J<|qu ?_;cases a;exact Q5 _ J
 refine qm<|qc<|qa J<|qu ?_;cases a;exact Q5 _ J
theorem qdy (h : Int) (j : Int) (r : Ql × Int) (a : q3a h j = some r) : Pure Tryz.prog tab 30 [qf h,qf j] (.tup [.agg (Kl r.1),qf r.2]):=by
 unfold q3a at a;refine Qt Tryz.func30 J qg qg J<|qc<|K1 J J<|qa J<|q8<|qe<|qc<|U J<|O _ J<|q8 ?_;refine ql J a (fun _ a=>?_) (fun _ a=>?_)
 ·refine qc<|O _ J<|Qh 0 _ J<|qa J<|qu ?_;cases a;exact Q5 _ J
 refine qm<|qe<|qc<|U J<|O _ J<|q7 a fun v c a=>?_;refine Qf 4 (fun A st=>∃ k l m,st = A [(16,Q2 v),(15,m),(14,l),(13,k)]) ?_ ?_
 ·refine Qg J J c (fun c=>?_) (fun c=>?_)
  ·refine U J<|O _ J<|O _ J<|q8 ?_;cases c;exact ⟨_,_,_,J⟩
  refine qb J<|qb J<|O _ J<|q8 ?_;cases c;exact ⟨_,_,_,J⟩
 rintro _ ⟨k,l,m,rfl⟩;refine q8 ?_;refine ql J a (fun _ a=>?_) (fun _ a=>?_)
 ·refine qc<|O _ J<|Qh 0 _ J<|qa J<|qu ?_;cases a;exact Q5 _ J
 refine qm<|qe<|qc<|U J<|O _ J<|q7 a fun x d a=>?_;refine Qf 4 (fun A st=>∃ n o p,st = A [(23,Q2 x),(22,p),(21,o),(20,n)]) ?_ ?_
 ·refine Qg J J d (fun d=>?_) (fun d=>?_)
  ·refine qb J<|qb J<|O _ J<|q8 ?_;cases d;exact ⟨_,_,_,J⟩
  refine U J<|O _ J<|O _ J<|q8 ?_;cases d;exact ⟨_,_,_,J⟩
 rintro _ ⟨n,o,p,rfl⟩;refine q8 ?_;refine ql J a (fun _ a=>?_) (fun _ a=>?_)
 ·refine qe<|qc<|U J<|O _ J<|O _ J<|q7 a fun y f a=>?_;refine Qf 5 (fun A st=>∃ q s t u,st = A [(31,Q2 y),(30,u),(29,t),(28,s),(27,q)]) ?_ ?_
  ·refine Qg J J f (fun f=>?_) (fun f=>?_)
   ·refine U J<|O _ J<|O _ J<|O _ J<|q8 ?_;cases f;exact ⟨_,_,_,_,J⟩
   refine qb J<|qb J<|qb J<|O _ J<|q8 ?_;cases f;exact ⟨_,_,_,_,J⟩
  rintro _ ⟨q,s,t,u,rfl⟩;refine q8 ?_;refine ql J a (fun _ a=>?_) (fun _ a=>?_)
  ·refine qc<|U J<|O _ J<|U J<|O _ J ?_;cases a
  refine qm<|qc<|O _ J<|Qh 0 _ J<|qa J<|qu ?_;cases a;exact Q5 _ J
 refine qm<|qe<|qc<|U J<|O _ J<|q8<|q7 a fun z g a=>?_;refine Y2 (fun b=>b = z) (fun b=>⟨[(0,q9 b.1),(1,q9 b.2),(4,.ref 0 2 0 0)],[(0,.dat 2 [[qf 0,qf 0]])],1⟩) qd ?_ ?_
 ·refine ql J g (fun _ g=>?_) (fun _ g=>?_)
  ·refine Q1<|U J<|O _ J<|U J<|O _ J<|qa J<|qa J<|qz ?_;obtain rfl:=qw g;exact ⟨_,J,wkA [(0,0)] [] []⟩
  refine qm<|Qj ?_;obtain rfl:=qw g;exact ⟨_,J,wkA [(0,0)] [] []⟩
 intro b hb;subst hb;refine qc<|U J<|U J<|q7 a fun aa ab a=>Q3 (qjf b.1 b.2 aa ab) J<|qa J<|q8<|qe<|Qe [Qs 1,(some [],[1]),q0,q0,q0,q0,q0,q0,q0] qg<|U J<|U J<|q7 a fun ac ad a=>qiu ad J J J<|U J<|U J<|q7 a fun ae af a=>qiu af J J J<|O _ J<|K1 J J<|Qh 1 _ J<|q8<|qe<|qc<|O _ J<|q7 a fun ag ah a=>Q3 (qau ({Num:=ac,Den:=ae} : Ql) ag ah) J<|O _ J<|q8 ?_;refine ql J a (fun _ a=>?_) (fun _ a=>?_)
 ·refine qc<|O _ J<|Qh 0 _ J<|qa J<|qu ?_;cases a;exact Q5 _ J
 refine qm<|qc<|O _ J<|Qh 0 _ J<|qa J<|qu ?_;cases a;exact Q5 _ J
theorem qb8 (b : Int) (c : Int) (r : Ql) (a : q2c b c = some r) : Pure Tryz.prog tab 89 [qf b,qf c] (.agg (Kl r)):=by
 unfold q2c at a;refine Qt Tryz.func89 J qg qg J<|qc<|K1 J J<|qx<|U J<|U J<|q7 a fun d f a=>Q3 (qdy b c d f) J<|U J<|O _ J<|O _ J<|K1 J J<|Qh 1 _ J<|qa J<|qx<|O _ J<|Qh 0 _ J<|qu ?_;cases a;exact Q5 _ J
theorem Ue (b : Q4) (c : Int) (r : Int) (a : Kx b c = some r) : Pure Tryz.prog tab 62 [.agg (K3 b),qf c] (qf r):=by
 unfold Kx at a;refine Qt Tryz.func62 J qg qg J<|qc<|Qn _ _ J<|qa J<|q8<|qe<|qc<|U J<|O _ J<|q8 ?_;refine ql J a (fun _ a=>?_) (fun _ a=>?_)
 ·refine qc<|O _ J<|O _ J<|qa J<|qu ?_;cases a;exact Q5 _ J
 refine qm<|qe<|qc<|U J<|O _ J<|q8 ?_;refine ql J a (fun _ a=>?_) (fun _ a=>?_)
 ·refine qc<|O _ J<|O _ J<|qa J<|qu ?_;cases a;exact Q5 _ J
 refine qm<|qc<|O _ J<|O _ J<|qa J<|qu ?_;cases a;exact Q5 _ J
theorem qjd (a : Ql) (b : Ql) (r : Bool) (c : q4q a b = some r) : Pure Tryz.prog tab 33 [.agg (Kl a),.agg (Kl b)] (.bool r):=by
 unfold q4q at c;refine Qt Tryz.func33 J qg qg J<|qc<|Qn _ _ J<|Qn _ _ J<|qa J<|qx<|O _ J<|O _ J<|O _ J<|O _ J<|O _ J<|O _ J<|O _ J<|O _ J<|O _ J<|O _ J<|O _ J<|qa J<|qu ?_;cases c;exact Q5 _ J
theorem qsl (c : qj) (d : Q4) (g : Q4) (r : List Ql) (p : q7x c d g = some r) : Pure Tryz.prog tab 88 [.agg (Qi c),.agg (K3 d),.agg (K3 g)] (.sl 2 (r.map Kl)):=by
 unfold q7x at p;refine Qt Tryz.func88 J qg qg J<|qc<|Qn _ _ J<|Qn _ _ J<|Qn _ _ J<|qa J<|qx<|q7 p fun r1 h2 p=>Q3 (qb8 0 1 r1 h2) J<|Qn _ _ J<|qa J<|q8<|qe<|qc<|qa J<|q8<|q7 p fun z aq p=>?_;refine Qo (fun t=>t = z) (fun t=>⟨[(7,.hs 0 2 0 t.length)],[(0,.dat 2 (t.map Kl))],1⟩) qd ?_ ?_
 ·refine Qk (q5a g c d) (fun b=>⟨[(3,.ref 0 6 0 0),(4,.ref 1 3 0 0),(5,.ref 2 3 0 0),(7,.hs 3 2 0 b.2.length),(8,q9 b.1)],[(0,.dat 6 [(Qi c)]),(1,.dat 3 [(K3 d)]),(2,.dat 3 [(K3 g)]),(3,.dat 2 (b.2.map Kl))],4⟩) _ z aq (wkA [(0,0),(1,1),(2,2),(3,3)] [] []) ?_;intro b bm l;unfold q5a at l;refine qe<|qc<|U J<|O _ J<|q8 ?_;refine ql J l (fun _ l=>?_) (fun _ l=>?_)
  ·refine qm<|qe<|q7 l fun ar j l=>?_;refine Qo (fun u=>u = ar) (fun u=>⟨[(3,.ref 0 6 0 0),(4,.ref 1 3 0 0),(5,.ref 2 3 0 0),(7,.hs 3 2 0 u.length),(8,q9 b.1)],[(0,.dat 6 [(Qi c)]),(1,.dat 3 [(K3 d)]),(2,.dat 3 [(K3 g)]),(3,.dat 2 (u.map Kl))],4⟩) qd ?_ ?_
   ·refine qc<|O _ J<|U J<|q7 j fun m au j=>Q3 (Ue g b.1 m au) J<|qa J<|q8<|qe<|qc<|U J<|O _ J<|q8 ?_;refine ql J j (fun _ j=>?_) (fun _ j=>?_)
    ·refine Qc ?_;obtain rfl:=qw j;exact ⟨_,J,wkA [(0,0),(1,1),(2,2),(3,3)] [] []⟩
    refine qm<|qc<|qa J<|q8<|q7 j fun av aw j=>Qa<|Qk (q5b c b d m) (fun h=>⟨[(3,.ref 0 6 0 0),(4,.ref 1 3 0 0),(5,.ref 2 3 0 0),(7,.hs 3 2 0 h.2.length),(8,q9 b.1),(9,q9 m),(10,q9 h.1)],[(0,.dat 6 [(Qi c)]),(1,.dat 3 [(K3 d)]),(2,.dat 3 [(K3 g)]),(3,.dat 2 (h.2.map Kl))],4⟩) _ av aw (wkA [(0,0),(1,1),(2,2),(3,3)] [] []) ?_;intro h bn n;unfold q5b at n;refine qe<|qc<|U J<|O _ J<|q8 ?_;refine ql J n (fun _ n=>?_) (fun _ n=>?_)
    ·refine qm<|qe<|q7 n fun ax a n=>?_;refine Qo (fun v=>v = ax) (fun v=>⟨[(3,.ref 0 6 0 0),(4,.ref 1 3 0 0),(5,.ref 2 3 0 0),(7,.hs 3 2 0 v.length),(8,q9 b.1),(9,q9 m),(10,q9 h.1)],[(0,.dat 6 [(Qi c)]),(1,.dat 3 [(K3 d)]),(2,.dat 3 [(K3 g)]),(3,.dat 2 (v.map Kl))],4⟩) qd ?_ ?_
     ·refine qc<|O _ J<|O _ J<|U J<|q7 a fun ay az a=>Q3 (Ue c.Lo b.1 ay az) J<|qa J<|q8<|qe<|qc<|U J<|O _ J<|q8<|q7 a fun ba o a=>?_;refine Y2 (fun x=>x = ba) (fun x=>⟨[(3,.ref 0 6 0 0),(4,.ref 1 3 0 0),(5,.ref 2 3 0 0),(7,.hs 3 2 0 h.2.length),(8,q9 b.1),(9,q9 m),(10,q9 h.1),(11,q9 x)],[(0,.dat 6 [(Qi c)]),(1,.dat 3 [(K3 d)]),(2,.dat 3 [(K3 g)]),(3,.dat 2 (h.2.map Kl))],4⟩) qd ?_ ?_
      ·refine ql J o (fun _ o=>?_) (fun _ o=>?_)
       ·refine Q1<|O _ J<|O _ J<|U J<|q7 o fun bb bc o=>Q3 (Ue c.Hi b.1 bb bc) J<|qa J<|qz ?_;obtain rfl:=qw o;exact ⟨_,J,wkA [(0,0),(1,1),(2,2),(3,3)] [] []⟩
       refine qm<|Qj ?_;obtain rfl:=qw o;exact ⟨_,J,wkA [(0,0),(1,1),(2,2),(3,3)] [] []⟩
      intro x hb;subst hb;refine qc<|U J<|O _ J<|O _ J<|U J<|q7 a fun aa bd a=>Q3 (Ue d b.1 aa bd) J<|O _ J<|U J<|O _ J<|q7 a fun q be a=>Q3 (qb8 (w64 ((w64 (2 * x)) - aa)) (w64 (2 * m)) q be) J<|K1 J J<|Qh 4 _ J<|q8<|qe<|qc<|O _ J<|O _ J<|O _ J<|q8 ?_;refine ql J a (fun _ a=>?_) (fun _ a=>?_)
      ·refine Qc ?_;obtain rfl:=qw a;exact ⟨_,J,wkA [(0,0),(1,1),(2,2),(3,3)] [] []⟩
      refine qm<|qc<|U J<|O _ J<|qa J<|qx<|U J<|O _ J<|Qn _ _ J<|q7 a fun bo bf a=>Yj _ bf J J J J J J J (Yh J J) J J J J<|qa J<|q8<|qe<|q7 a fun ab bg a=>?_;refine Qo (fun s=>s = ab) (fun s=>⟨[(3,.ref 0 6 0 0),(4,.ref 1 3 0 0),(5,.ref 2 3 0 0),(7,.hs 3 2 0 s.2.length),(8,q9 b.1),(9,q9 m),(10,q9 h.1),(12,.ref 4 2 0 0),(13,q9 s.1)],[(0,.dat 6 [(Qi c)]),(1,.dat 3 [(K3 d)]),(2,.dat 3 [(K3 g)]),(3,.dat 2 (s.2.map Kl)),(4,.dat 2 [(Kl q)])],5⟩) qd ?_ ?_
      ·refine Qk (Js q) (fun y=>⟨[(3,.ref 0 6 0 0),(4,.ref 1 3 0 0),(5,.ref 2 3 0 0),(7,.hs 3 2 0 y.2.length),(8,q9 b.1),(9,q9 m),(10,q9 h.1),(12,.ref 4 2 0 0),(13,q9 y.1)],[(0,.dat 6 [(Qi c)]),(1,.dat 3 [(K3 d)]),(2,.dat 3 [(K3 g)]),(3,.dat 2 (y.2.map Kl)),(4,.dat 2 [(Kl q)])],5⟩) _ ab bg (wkA [(0,0),(1,1),(2,2),(3,6),(4,4)] [] []) ?_;intro y bp f;unfold Js at f;refine qe<|qe<|Qe [q0,q0,qv 3,q0,q0,q0,q0,qv 4,q0,q0,q0] qg<|U J<|O _ J<|q7 f fun bh k f=>?_;refine Qf 9 (fun A st=>∃ ac ad ae af ag ah ai aj,st = A [(67,Q2 bh),(66,aj),(65,ai),(64,ah),(63,ag),(62,af),(61,ae),(60,ad),(59,ac)]) ?_ ?_
       ·refine Qg J J k (fun k=>?_) (fun k=>?_)
        ·refine O _ J<|U J<|U J<|O _ J<|q7 k fun bi ak k=>qs ak J J<|Q9 _ ak J<|q7 k fun bj bk k=>Q3 (qjd q bi bj bk) J<|O _ J<|q8 ?_;cases k;exact ⟨_,_,_,_,_,_,_,_,J⟩
        refine qb J<|qb J<|qb J<|qb J<|qb J<|qb J<|qb J<|O _ J<|q8 ?_;cases k;exact ⟨_,_,_,_,_,_,_,_,J⟩
       rintro _ ⟨ac,ad,ae,af,ag,ah,ai,aj,rfl⟩;refine q8 ?_;refine ql J f (fun _ f=>?_) (fun _ f=>?_)
       ·refine qm<|Qa<|qc<|U J<|U J<|U J<|U J<|O _ J<|q7 f fun bl al f=>qs al J J<|Q9 _ al J<|q7 f fun bq am f=>qs am J J<|Qv bl am J J J J J J J J (leb J) J<|q8<|Q1<|U J<|O _ J<|qa J<|qz<|Qq<|Qj<|⟨_,qn f,wkE [(0,0),(1,1),(2,2),(3,3),(4,4)] [] [] J ⟨⟨_,J,.ref J qt (ltd J)⟩,⟨_,J,.ref J qt (ltd J)⟩,⟨_,J,.ref J qt (ltd J)⟩,⟨_,J,K2 qd J qt (ltd J)⟩,qk J,qk J,qk J,⟨_,J,.ref J qt (ltd J)⟩,qk J,trivial⟩ ⟨Qp J J,Qp J J,Qp J J,Qp J J,Qp J J,trivial⟩⟩
       refine Qc ?_;refine ⟨_,qn f,fun hm=>?_⟩;subst hm;exact ⟨_,J,wkA [(0,0),(1,1),(2,2),(3,3),(4,4)] [] []⟩
      intro s hb;subst hb;refine Q1<|U J<|U J<|O _ J<|q7 a fun br an a=>qs an J J<|Qv q an J J J J J J J J (leb J) J<|qz ?_;obtain rfl:=qw a;exact ⟨_,J,wkE [(0,0),(1,1),(2,2),(3,3)] [] [] J ⟨⟨_,J,.ref J qt (ltd J)⟩,⟨_,J,.ref J qt (ltd J)⟩,⟨_,J,.ref J qt (ltd J)⟩,⟨_,J,K2 qd J qt (ltd J)⟩,qk J,qk J,qk J,trivial⟩ ⟨Qp J J,Qp J J,Qp J J,Qp J J,trivial⟩⟩
     intro v hb;subst hb;refine Q1<|U J<|O _ J<|qa J<|qz<|⟨_,qn n,wkA [(0,0),(1,1),(2,2),(3,3)] [] []⟩
    refine Qc ?_;refine ⟨_,qn n,fun hm=>?_⟩;subst hm;obtain rfl:=qw j;exact ⟨_,J,wkA [(0,0),(1,1),(2,2),(3,3)] [] []⟩
   intro u hb;subst hb;refine Q1<|U J<|O _ J<|qa J<|qz<|⟨_,qn l,wkA [(0,0),(1,1),(2,2),(3,3)] [] []⟩
  refine Qc ?_;refine ⟨_,qn l,fun hm=>?_⟩;subst hm;exact ⟨_,J,wkA [(0,3)] [] []⟩
 intro t hb;subst hb;refine qc<|U J<|qa J<|qu ?_;obtain rfl:=qw p;exact finD (.inr J) J (Ju J J) (.refl _)
theorem qat (b : Ql) (c : Ql) (r : Int) (a : q27 b c = some r) : Pure Tryz.prog tab 66 [.agg (Kl b),.agg (Kl c)] (qf r):=by
 unfold q27 at a;refine Qt Tryz.func66 J qg qg J<|qc<|Qn _ _ J<|Qn _ _ J<|qa J<|q8<|qe<|qc<|O _ J<|q7 a fun d f a=>Q3 (qau b d f) J<|O _ J<|q8 ?_;refine ql J a (fun _ a=>?_) (fun _ a=>?_)
 ·refine qc<|O _ J<|q7 a fun g h a=>Q3 (qau b g h) J<|qa J<|qu ?_;cases a;exact Q5 _ J
 refine qm<|qc<|O _ J<|q7 a fun j k a=>Q3 (qau c j k) J<|qa J<|qu ?_;cases a;exact Q5 _ J
theorem qjb (b : Ql) (c : Ql) (r : Ql × Int) (a : q4p b c = some r) : Pure Tryz.prog tab 32 [.agg (Kl b),.agg (Kl c)] (.tup [.agg (Kl r.1),qf r.2]):=by
 unfold q4p at a;refine Qt Tryz.func32 J qg qg J<|qc<|Qn _ _ J<|Qn _ _ J<|K1 J J<|qa J<|q8<|qe<|qc<|O _ J<|O _ J<|q7 a fun d f a=>Q3 (qat b c d f) J<|O _ J<|q8 ?_;refine ql J a (fun _ a=>?_) (fun _ a=>?_)
 ·refine qc<|O _ J<|O _ J<|O _ J<|q7 a fun g h a=>Q3 (qat b c g h) J<|Qh 2 _ J<|qa J<|qu ?_;cases a;exact Q5 _ J
 refine qm<|qc<|O _ J<|O _ J<|O _ J<|O _ J<|O _ J<|O _ J<|O _ J<|O _ J<|O _ J<|O _ J<|O _ J<|O _ J<|O _ J<|O _ J<|O _ J<|O _ J<|q7 a fun j k a=>Q3 (qdy (w64 ((w64 (b.Num * c.Den)) + (w64 (c.Num * b.Den)))) (w64 (b.Den * c.Den)) j k) J<|O _ J<|O _ J<|Qh 2 _ J<|qa J<|qu ?_;cases a;exact Q5 _ J
theorem qrq (b : Ql) (c : Ql) (r : Ql × Int) (a : q7j b c = some r) : Pure Tryz.prog tab 90 [.agg (Kl b),.agg (Kl c)] (.tup [.agg (Kl r.1),qf r.2]):=by
 unfold q7j at a;refine Qt Tryz.func90 J qg qg J<|qc<|Qn _ _ J<|Qn _ _ J<|K1 J J<|qa J<|q8<|qe<|qc<|O _ J<|O _ J<|q7 a fun d f a=>Q3 (qat b c d f) J<|O _ J<|q8 ?_;refine ql J a (fun _ a=>?_) (fun _ a=>?_)
 ·refine qc<|O _ J<|O _ J<|O _ J<|q7 a fun g h a=>Q3 (qat b c g h) J<|Qh 2 _ J<|qa J<|qu ?_;cases a;exact Q5 _ J
 refine qm<|qc<|O _ J<|O _ J<|O _ J<|O _ J<|O _ J<|O _ J<|O _ J<|O _ J<|O _ J<|O _ J<|q7 a fun j k a=>Q3 (qdy (w64 (b.Num * c.Num)) (w64 (b.Den * c.Den)) j k) J<|O _ J<|O _ J<|Qh 2 _ J<|qa J<|qu ?_;cases a;exact Q5 _ J
theorem qsk (b : qj) (d : Q4) (f : Q4) (j : Ql) (r : Bool) (g : q7w b d f j = some r) : Pure Tryz.prog tab 65 [.agg (Qi b),.agg (K3 d),.agg (K3 f),.agg (Kl j)] (.bool r):=by
 unfold q7w at g;refine Qt Tryz.func65 J qg qg J<|qc<|Qn _ _ J<|Qn _ _ J<|Qn _ _ J<|Qn _ _ J<|qa J<|q8<|qe<|qc<|qa J<|q8<|q7 g fun l q g=>?_;refine Qo (fun k=>.inl k = l) (fun k=>⟨[],[],0⟩) qd ?_ ?_
 ·refine Qk (q59 d f b j) (fun c=>⟨[(4,.ref 0 6 0 0),(5,.ref 1 3 0 0),(6,.ref 2 3 0 0),(7,.ref 3 2 0 0),(9,q9 c)],[(0,.dat 6 [(Qi b)]),(1,.dat 3 [(K3 d)]),(2,.dat 3 [(K3 f)]),(3,.dat 2 [(Kl j)])],4⟩) _ l q (wkA [(0,0),(1,1),(2,2),(3,3)] [] []) ?_;intro c ac a;unfold q59 at a;refine qe<|qc<|U J<|O _ J<|q8 ?_;refine ql J a (fun _ a=>?_) (fun _ a=>?_)
  ·refine qm<|qe<|Qa<|qe<|Qe [q0,q0,q0,qv 3,q0,q0,q0,q0,qv 2,q0,qv 3,q0,q0,q0,qv 1] qg<|O _ J<|U J<|q7 a fun s t a=>Q3 (Ue d c s t) J<|O _ J<|O _ J<|O _ J<|O _ J<|U J<|q7 a fun u v a=>Q3 (Ue f c u v) J<|O _ J<|O _ J<|O _ J<|O _ J<|O _ J<|qa J<|q8<|qe<|Qe [q0,q0,q0,qv 3,q0,q0,q0,q0,qv 0,q0,q0,qv 3,q0,q0,q0,q0,qv 0,q0] qg<|O _ J<|O _ J<|U J<|q7 a fun x y a=>Q3 (Ue b.Lo c x y) J<|O _ J<|O _ J<|O _ J<|O _ J<|O _ J<|O _ J<|U J<|q7 a fun z aa a=>Q3 (Ue b.Hi c z aa) J<|O _ J ?_;refine O _ J<|O _ J<|O _ J<|qa J<|qa J<|qx<|U J<|U J<|O _ J<|q7 a fun ab h a=>?_;refine Qf 5 (fun A st=>∃ m n o p,st = A [(54,Q2 ab),(53,p),(52,o),(51,n),(50,m)]) ?_ ?_
   ·refine Qg J J h (fun h=>?_) (fun h=>?_)
    ·refine qb J<|qb J<|qb J<|O _ J<|q8 ?_;cases h;exact ⟨_,_,_,_,J⟩
    refine U J<|U J<|O _ J<|O _ J<|q8 ?_;cases h;exact ⟨_,_,_,_,J⟩
   rintro _ ⟨m,n,o,p,rfl⟩;refine q8 ?_;refine ql J a (fun _ a=>?_) (fun _ a=>?_)
   ·refine qc<|qa J<|qu ?_;refine ⟨_,qn a,fun hm=>?_⟩;subst hm;cases g;exact Q5 _ J
   refine qm<|Qj<|Qq<|Q1<|U J<|O _ J<|qa J<|qz<|⟨_,qn a,wkA [(0,0),(1,1),(2,2),(3,3)] [] []⟩
  refine Qc ?_;refine ⟨_,qn a,fun hm=>?_⟩;subst hm;exact ⟨_,J,wkA [] [] []⟩
 intro k hb;subst hb;refine qc<|qa J<|qu ?_;cases g;exact Q5 _ J
theorem qjs (b : qj) (c : Q4) (f : Q4) (r : Ql × Bool) (g : q56 b c f = some r) : Pure Tryz.prog tab 54 [.agg (Qi b),.agg (K3 c),.agg (K3 f)] (.tup [.agg (Kl r.1),.bool r.2]):=by
 unfold q56 at g;refine Qt Tryz.func54 J qg qg J<|qc<|Qn _ _ J<|Qn _ _ J<|Qn _ _ J<|K1 J J<|qa J<|qx<|O _ J<|O _ J<|O _ J<|q7 g fun k t g=>Q3 (qsl b c f k t) J<|qa J<|q8<|qe<|qc<|qa J<|q8<|q7 g fun n u g=>?_;refine Qo (fun l=>.inl l = n) (fun l=>⟨[(6,.ref 0 2 0 0)],[(0,.dat 2 [[qf 0,qf 0]])],1⟩) qd ?_ ?_
 ·refine Qk (q2b k b c f) (fun m=>⟨[(3,.ref 0 6 0 0),(4,.ref 1 3 0 0),(5,.ref 2 3 0 0),(6,.ref 3 2 0 0),(8,.d (.sl 2 (k.map Kl))),(9,q9 m)],[(0,.dat 6 [(Qi b)]),(1,.dat 3 [(K3 c)]),(2,.dat 3 [(K3 f)]),(3,.dat 2 [[qf 0,qf 0]])],4⟩) _ n u (wkA [(0,0),(1,1),(2,2),(3,3)] [] []) ?_;intro m al a;unfold q2b at a;refine qe<|qc<|U J<|U J<|K0 J<|O _ J<|q8 ?_;refine ql J a (fun _ a=>?_) (fun _ a=>?_)
  ·refine qm<|qe<|Qa<|qe<|Qe [q0,Qs 4,(some [],[4]),q0,q0,q0,q0,q0,q0,q0,q0,q0] qg<|U J<|U J<|q7 a fun v x a=>Qm x J<|O _ J<|q7 a fun o y a=>Q3 (qb8 1 1 o y) J<|q7 a fun z aa a=>Q3 (qjb v o z aa) J<|U J<|O _ J<|O _ J<|K1 J J<|Qh 4 _ J<|qa J<|q8<|qe<|qc<|U J<|O _ J<|U J<|K0 J<|O _ J<|q8<|q7 a fun ab h a=>?_;refine Y2 (fun j=>j = ab) (fun j=>⟨[(3,.ref 0 6 0 0),(4,.ref 1 3 0 0),(5,.ref 2 3 0 0),(6,.ref 3 2 0 0),(8,.d (.sl 2 (k.map Kl))),(9,q9 m),(10,.ref 4 2 0 0)],[(0,.dat 6 [(Qi b)]),(1,.dat 3 [(K3 c)]),(2,.dat 3 [(K3 f)]),(3,.dat 2 [[qf 0,qf 0]]),(4,.dat 2 [[qf j.1,qf j.2]])],5⟩) qd ?_ ?_
   ·refine ql J h (fun _ h=>?_) (fun _ h=>?_)
    ·refine Q1<|U J<|U J<|O _ J<|q7 h fun am ac h=>Qm ac J<|O _ J<|Qh 4 _ J<|qz ?_;obtain rfl:=qw h;exact ⟨_,J,wkA [(0,0),(1,1),(2,2),(3,3),(4,4)] [] []⟩
    refine qm<|Qj ?_;obtain rfl:=qw h;exact ⟨_,J,wkA [(0,0),(1,1),(2,2),(3,3),(4,4)] [] []⟩
   intro j hb;subst hb;refine qe<|Qe [q0,Qs 5,(some [],[5]),q0,q0,q0,q0,qv 4,q0,q0,q0,q0] qg<|U J<|U J<|q7 a fun ad ae a=>Qm ae J<|O _ J<|O _ J<|q7 a fun p af a=>Q3 (qjb ad ({Num:=j.1,Den:=j.2} : Ql) p af) J<|U J<|O _ J<|O _ J<|K1 J J<|Qh 5 _ J<|qa J<|q8<|qe<|Qe [q0,Qs 6,(some [],[6]),q0,q0,q0,q0,q0,qv 5] qg<|O _ J<|q7 a fun q ag a=>Q3 (qb8 1 2 q ag) J<|q7 a fun s ah a=>Q3 (qrq p.1 q s ah) J<|U J<|O _ J<|O _ J<|K1 J J<|Qh 6 _ J<|qa J<|qx<|O _ J<|O _ J<|O _ J<|O _ J<|q7 a fun ai aj a=>Q3 (qsk b c f s.1 ai aj) J<|q8 ?_;refine ql J a (fun _ a=>?_) (fun _ a=>?_)
   ·refine qc<|U J<|U J<|q7 a fun an ak a=>Qm ak J<|O _ J<|Qh 3 _ J<|qa J<|qu ?_;refine ⟨_,qn a,fun hm=>?_⟩;subst hm;cases g;exact Q5 _ J
   refine qm<|Qj<|Qq<|Q1<|U J<|O _ J<|qa J<|qz<|⟨_,qn a,wkA [(0,0),(1,1),(2,2),(3,3)] [] []⟩
  refine Qc ?_;refine ⟨_,qn a,fun hm=>?_⟩;subst hm;exact ⟨_,J,wkA [(0,3)] [] []⟩
 intro l hb;subst hb;refine qc<|O _ J<|Qh 0 _ J<|qa J<|qu ?_;cases g;exact Q5 _ J
theorem qsd (g : List qj) (b : Q4) (c : Q4) (r : Bool) (f : q7s g b c = some r) : Pure Tryz.prog tab 57 [.sl 6 (g.map Qi),.agg (K3 b),.agg (K3 c)] (.bool r):=by
 unfold q7s at f;refine Qt Tryz.func57 J qg qg J<|qc<|Qn _ _ J<|Qn _ _ J<|qa J<|q8<|qe<|qc<|qa J<|q8<|q7 f fun j l f=>?_;refine Qo (fun h=>.inl h = j) (fun h=>⟨[],[],0⟩) qd ?_ ?_
 ·refine Qk (q53 g b c) (fun k=>⟨[(0,.d (.sl 6 (g.map Qi))),(4,.ref 0 3 0 0),(5,.ref 1 3 0 0),(7,q9 k)],[(0,.dat 3 [(K3 b)]),(1,.dat 3 [(K3 c)])],2⟩) _ j l (wkA [(0,0),(1,1)] [] []) ?_;intro k q a;unfold q53 at a;refine qe<|qc<|U J<|U J<|K0 J<|O _ J<|q8 ?_;refine ql J a (fun _ a=>?_) (fun _ a=>?_)
  ·refine qm<|qe<|Qa<|qe<|Qe [q0,Qs 2,(some [],[2]),q0,q0,q0,q0,qv 1,qv 0,q0,q0,q0,q0] qg<|U J<|U J<|q7 a fun m n a=>Qm n J<|O _ J<|O _ J<|O _ J<|q7 a fun o p a=>Q3 (qjs m b c o p) J<|U J<|O _ J<|O _ J<|K1 J J<|Qh 2 _ J<|qa J<|qx<|U J<|q8 ?_;refine ql J a (fun _ a=>?_) (fun _ a=>?_)
   ·refine qc<|qa J<|qu ?_;refine ⟨_,qn a,fun hm=>?_⟩;subst hm;cases f;exact Q5 _ J
   refine qm<|Qj<|Qq<|Q1<|U J<|O _ J<|qa J<|qz<|⟨_,qn a,wkA [(0,0),(1,1)] [] []⟩
  refine Qc ?_;refine ⟨_,qn a,fun hm=>?_⟩;subst hm;exact ⟨_,J,wkA [] [] []⟩
 intro h hb;subst hb;refine qc<|qa J<|qu ?_;cases f;exact Q5 _ J
end Go.Proofs.YtmnfbjlabfeneaaGreat
