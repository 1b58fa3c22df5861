/- W_Holc -/
import Derived.Test.YtmekakoiicomaaaGreatK17
namespace Go.Proofs.YtmekakoiicomaaaGreat
open Go Go.Am Go.Sh
set_option maxHeartbeats 8000000
set_option maxRecDepth 100000
theorem qob (j : List qk) (k : List qf) (n : Int) (o : Int) (p : Int) (b : Int) (g : List qf) (r : List qf × Int × Int × List qk) (a : q7a  j k n o p b g = some r) : K8 Tryz.prog tab 34 [.ref 0 4 0 0,q7 p,q7 b,.d (.sl 4 (g.map qj))] [(0,.cel 4 [[.hs 1 6 0 j.length,.d (.sl 4 (k.map qj)),q7 n,q7 o]]),(1,.dat 6 (j.map Qi))] 2 (.d (.tup [])) [(0,.cel 4 [[.hs 2 6 0 r.2.2.2.length,.d (.sl 4 (r.1.map qj)),q7 r.2.1,q7 r.2.2.1]]),(2,.dat 6 (r.2.2.2.map Qi))] 3:=by
 unfold q7a at a;refine Kd Tryz.func34 J qh qh J<|qe<|qd<|U J<|K1 J<|O _ J<|q8 a fun ak l a=>?_;refine Qd 8 (fun A st=>∃ u v w x y z aa,st = A [(21,Q3 ak),(20,aa),(19,z),(18,y),(17,x),(16,w),(15,v),(14,u)]) ?_ ?_
 ·refine Qc J J l (fun l=>?_) (fun l=>?_)
  ·refine U J<|O _ J<|O _ J<|O _ J<|U J<|O _ J<|O _ J<|q9 ?_;cases l;exact ⟨_,_,_,_,_,_,_,J⟩
  refine qc J<|qc J<|qc J<|qc J<|qc J<|qc J<|O _ J<|q9 ?_;cases l;exact ⟨_,_,_,_,_,_,_,J⟩
 rintro _ ⟨u,v,w,x,y,z,aa,rfl⟩;refine q8 a fun al h a=>?_;refine Qd 8 (fun A st=>∃ ab ac ad ae af ag ah,st = A [(29,Q3 al),(28,ah),(27,ag),(26,af),(25,ae),(24,ad),(23,ac),(22,ab)]) ?_ ?_
 ·refine Qc J J h (fun h=>?_) (fun h=>?_)
  ·refine U J<|O _ J<|O _ J<|O _ J<|U J<|q8 h fun am an h=>Qa (qf2 k g am an) J<|O _ J<|q9 ?_;cases h;exact ⟨_,_,_,_,_,_,_,J⟩
  refine qc J<|qc J<|qc J<|qc J<|qc J<|qc J<|O _ J<|q9 ?_;cases h;exact ⟨_,_,_,_,_,_,_,J⟩
 rintro _ ⟨ab,ac,ad,ae,af,ag,ah,rfl⟩;refine q9 ?_;refine qo J a (fun _ a=>?_) (fun _ a=>?_)
 ·refine qe<|qd<|U J<|O _ J<|O _ J<|O _ J<|qb J<|q9<|q8 a fun ai ao a=>?_;refine Qq (fun m=>m = ai) (fun m=>⟨[(0,.ref 0 4 0 0),(2,q7 b)],[(0,.cel 4 [[.hs 1 6 0 m.length,.d (.sl 4 (k.map qj)),q7 n,q7 o]]),(1,.dat 6 (m.map Qi))],2⟩) qg ?_ ?_
  ·refine Qg (q7b b) (fun q=>⟨[(0,.ref 0 4 0 0),(2,q7 b),(8,q7 q.1)],[(0,.cel 4 [[.hs 1 6 0 q.2.length,.d (.sl 4 (k.map qj)),q7 n,q7 o]]),(1,.dat 6 (q.2.map Qi))],2⟩) _ ai ao (wkA [] [] []) ?_;intro q av f;unfold q7b at f;refine qe<|qd<|U J<|U J<|O _ J<|O _ J<|O _ J<|O _ J<|O _ J<|q9 ?_;refine qo J f (fun _ f=>?_) (fun _ f=>?_)
   ·refine qm<|qe<|Q6<|qz<|U J<|O _ J<|O _ J<|O _ J<|U J<|U J<|q8 f fun t aj f=>qt aj J J<|O _ J<|O _ J<|Qx (ds:=[qa b]) ({Lo:=t.Lo,Hi:=({X:=t.Hi.X,Y:=t.Hi.Y,Z:=b} : Q0)} : qk) aj J J J J J J J J (leb J) J<|qx<|Qp<|qz<|U J<|O _ J<|qb J<|qx<|⟨_,qp f,wkE [] [] [] J ⟨⟨_,J,.ref J qy (ltd J)⟩,qi J,qi J,trivial⟩ ⟨⟨ltd J,.inr ⟨qy,_,J,Zl (.cons (K2 qg J qy (ltd J)) J (.cons (.d (.refl _)) J (.cons (.d (.refl _)) J (.cons (.d (.refl _)) J .nil))))⟩⟩,Qf J J,trivial⟩⟩
   refine Q9 ?_;refine ⟨_,qp f,fun hm=>?_⟩;subst hm;exact ⟨_,J,wkA [] [] []⟩
  intro m hb;subst hb;refine qd<|U J<|U J<|O _ J<|O _ J<|Q8 0 _ J<|qw ?_;obtain rfl:=qr a;exact ⟨.inr J,_,J,wkA [(2,1)] [] []⟩
 refine qm<|qd<|U J<|U J<|U J<|U J<|O _ J<|O _ J<|O _ J<|O _ J<|U J<|U J<|O _ J<|O _ J<|Q8 0 _ J<|O _ J<|O _ J<|Q8 0 _ J<|O _ J<|O _ J<|Q8 0 _ J<|qs<|U J<|K1 J<|U J<|q9<|q8 a fun ap aq a=>Q6<|Qg (q7c g p b j) (fun s=>⟨[(0,.ref 0 4 0 0),(1,q7 p),(2,q7 b),(72,.d (.sl 4 (g.map qj))),(73,q7 (g.length : Int)),(74,q7 s.1)],[(0,.cel 4 [[.hs 2 6 0 s.2.length,.d (.sl 4 (g.map qj)),q7 (j.length : Int),q7 b]]),(2,.dat 6 (s.2.map Qi))],3⟩) _ ap aq (wkA [(2,1)] [] []) ?_;intro s aw c;unfold q7c at c;refine qd<|O _ J<|q9<|qe ?_;refine qo J c (fun _ c=>?_) (fun _ c=>?_)
 ·refine qm<|qe<|Q6<|qd<|q8 c fun ax ar c=>Ql ar J<|O _ J<|Qu J J<|Q8 3 _ J<|q9<|Qb [Qo 0,q0,q0,(some [2,4],[2,5]),(some [],[4]),q0,q0,q0,qq 3,q0,qq 3,q0,q0,q0,qq 3,q0,qq 3,q0,qq 0,q0,q0,q0,q0] qh<|U J<|U J<|O _ J<|O _ J<|O _ J<|O _ J<|O _ J<|O _ J<|O _ J<|U J<|O _ J<|O _ J<|O _ J<|O _ J<|O _ J<|U J<|O _ J<|O _ J<|Qw _ _ J<|q8 c fun ay au c=>Kq _ au J J J J J J J (Ko J J) J J J J<|O _ J<|O _ J<|Q8 0 _ J<|qx<|Qp<|qz<|O _ J<|U J ?_;refine qx<|⟨_,qp c,wkA [(2,5)] [] []⟩
 refine Q9 ?_;refine ⟨_,qp c,fun hm=>?_⟩;subst hm;obtain rfl:=qr a;exact ⟨.inl J,_,J,wkA [(2,2)] [] []⟩
theorem qzg (g : List Kk) (m : Int) (r : List qk × Int) (a : q5c g m = some r) : Pure Tryz.prog tab 8 [.sl 2 (g.map Jv),qa m] (.tup [.sl 6 (r.1.map Qi),qa r.2]):=by
 unfold q5c at a;refine Qz Tryz.func8 J qh qh J<|qd<|qb J<|qb J<|q9<|qe<|qd<|U J<|K1 J<|O _ J<|q9 ?_;refine qo J a (fun _ a=>?_) (fun _ a=>?_)
 ·refine qd<|qb J<|qb J<|qw ?_;obtain rfl:=qr a;exact finD (.inr J) J J (Y8 (.cons (.nil _) (.cons (.refl _) .nil)))
 refine qm<|qe<|qd<|U J<|K1 J<|U J<|q9<|q8 a fun s y a=>?_;refine Qq (fun o=>.inl o = s) (fun o=>⟨[(0,.d (.sl 2 (g.map Jv))),(1,q7 m)],[],0⟩) qg ?_ ?_
 ·refine Qg (q5d g) (fun t=>⟨[(0,.d (.sl 2 (g.map Jv))),(1,q7 m),(15,.d (.sl 2 (g.map Jv))),(16,q7 (g.length : Int)),(17,q7 t)],[],0⟩) _ s y (wkA [] [] []) ?_;intro t y17 b;unfold q5d at b;refine qd<|O _ J<|q9<|qe ?_;refine qo J b (fun _ b=>?_) (fun _ b=>?_)
  ·refine qm<|qe<|Q6<|qd<|q8 b fun z aa b=>Ql aa J<|O _ J<|Qu J J<|Q8 0 _ J<|qs<|O _ J<|O _ J<|q8 b fun ab ac b=>Qa (q7e z.Region ab ac) J<|qb J<|qs<|U J<|O _ J<|q9 ?_;refine qo J b (fun _ b=>?_) (fun _ b=>?_)
   ·refine qd<|U J<|qb J<|qb J<|qw ?_;refine ⟨_,qp b,fun hm=>?_⟩;subst hm;obtain rfl:=qr a;exact finD (.inr J) J J (Y8 (.cons (.nil _) (.cons (.refl _) .nil)))
   refine qm<|Qh<|Qp<|qz<|O _ J<|U J<|qx<|⟨_,qp b,wkA [] [] []⟩
  refine Q9 ?_;refine ⟨_,qp b,fun hm=>?_⟩;subst hm;exact ⟨_,J,wkA [] [] []⟩
 intro o hb;subst hb;refine qe<|qd<|U J<|q8 a fun ad ae a=>Qa (qi2 m ad ae) J<|O _ J<|q8 a fun af j a=>?_;refine Qd 4 (fun A st=>∃ u v w,st = A [(34,Q3 af),(33,w),(32,v),(31,u)]) ?_ ?_
 ·refine Qc J J j (fun j=>?_) (fun j=>?_)
  ·refine qc J<|qc J<|O _ J<|q9 ?_;cases j;exact ⟨_,_,_,J⟩
  refine U J<|q8 j fun ag ah j=>Qa (q11z g (fun p=>q2v p) 37 [] (fun p r hr=>qzf p r hr) ag ah) J<|O _ J<|q9 ?_;cases j;exact ⟨_,_,_,J⟩
 rintro _ ⟨u,v,w,rfl⟩;refine q9 ?_;refine qo J a (fun _ a=>?_) (fun _ a=>?_)
 ·refine qd<|qb J<|qb J<|qw ?_;obtain rfl:=qr a;exact finD (.inr J) J J (Y8 (.cons (.nil _) (.cons (.refl _) .nil)))
 refine qm<|qd<|Qu J J<|q9<|qe<|qd<|U J<|K1 J<|U J<|q9<|q8 a fun x ai a=>?_;refine Qq (fun h=>.inl h = x) (fun h=>⟨[(9,.ref 0 4 0 0)],[(0,.cel 4 [[.hs 1 6 0 h.2.2.2.length,.d (.sl 4 (h.1.map qj)),q7 h.2.1,q7 h.2.2.1]]),(1,.dat 6 (h.2.2.2.map Qi))],2⟩) qg ?_ ?_
 ·refine Qg (q5e g) (fun c=>⟨[(1,q7 c.1),(9,.ref 0 4 0 0),(35,.d (.sl 2 (g.map Jv))),(36,q7 (g.length : Int)),(37,q7 c.2.1)],[(0,.cel 4 [[.hs 1 6 0 c.2.2.2.2.2.length,.d (.sl 4 (c.2.2.1.map qj)),q7 c.2.2.2.1,q7 c.2.2.2.2.1]]),(1,.dat 6 (c.2.2.2.2.2.map Qi))],2⟩) _ x ai (wkA [(0,0)] [] [1]) ?_;intro c am f;unfold q5e at f;refine qd<|O _ J<|q9<|qe ?_;refine qo J f (fun _ f=>?_) (fun _ f=>?_)
  ·refine qm<|qe<|Q6<|qd<|q8 f fun q aj f=>Ql aj J<|O _ J<|Qu J J<|Q8 2 _ J<|q9<|qe<|qd<|U J<|O _ J<|O _ J<|O _ J<|O _ J<|q9 ?_;refine qo J f (fun _ f=>?_) (fun _ f=>?_)
   ·refine qd<|qb J<|qb J<|qw ?_;refine ⟨_,qp f,fun hm=>?_⟩;subst hm;obtain rfl:=qr a;exact finD (.inr J) J J (Y8 (.cons (.nil _) (.cons (.refl _) .nil)))
   refine qm<|qd<|U J<|U J<|O _ J<|O _ J<|O _ J<|O _ J<|O _ J<|q8 f fun k ak f=>K9 [(0,0),(1,1)] [(0,0),(1,1),(2,3),(3,2)] _ (.d (.tup [])) 2 [(0,.cel 4 [[.hs 3 6 0 k.2.2.2.length,.d (.sl 4 (k.1.map qj)),q7 k.2.1,q7 k.2.2.1]]),(3,.dat 6 (k.2.2.2.map Qi)),(2,.dat 2 [(Jv q)])] 4 (qob c.2.2.2.2.2 c.2.2.1 c.2.2.2.1 c.2.2.2.2.1 c.1 (w64 (c.1 + q.Height)) q.Region k ak)<|q9<|qz<|U J<|O _ J<|O _ J<|O _ J<|qb J<|qx<|Qp<|qz<|O _ J<|U J<|qx<|⟨_,qp f,wkA [(0,0),(1,3)] [] []⟩
  refine Q9 ?_;refine ⟨_,qp f,fun hm=>?_⟩;subst hm;exact ⟨_,J,wkA [(0,0),(1,1)] [] []⟩
 intro h hb;subst hb;refine qd<|q8 a fun al n a=>?_;refine U5 [.ref 0 4 0 0] (fun l=>l = al) (fun l=>⟨[(59,.tup [.hs 0 6 0 l.2.length,q7 l.1])],[(0,.dat 6 (l.2.map Qi))],1⟩) J J Tryz.func35 J qh qh J ?_ ?_
 ·refine qd<|qb J<|qb J<|q9<|qe<|qd<|U J<|O _ J<|O _ J<|O _ J<|O _ J<|O _ J<|q9 ?_;refine qo J n (fun _ n=>?_) (fun _ n=>?_)
  ·refine qd<|qb J<|qb J<|qw ?_;refine ⟨.inr J,_,J,?_⟩;obtain rfl:=qr n;exact ⟨_,J,wkA [] [] [0]⟩
  refine qm<|qd<|U J<|O _ J<|O _ J<|O _ J<|qb J<|qb J<|qw ?_;refine ⟨.inr J,_,J,?_⟩;obtain rfl:=qr n;exact ⟨_,J,wkA [(0,1)] [] []⟩
 intro l hb;subst hb;refine O _ J<|O _ J<|qb J<|qb J<|qw ?_;obtain rfl:=qr a;exact finD (.inr J) J (q2i (Ym (Yz J J) (Ym J J))) (.refl _)
theorem qz9 (c : List qk) (h : Int) (j : Int) (r : List ql × Int) (b : qai c h j = some r) : Pure Tryz.prog tab 27 [.sl 6 (c.map Qi),qa h,qa j] (.tup [.sl 2 (r.1.map Qj),qa r.2]):=by
 unfold qai at b;refine Qz Tryz.func27 J qh qh J<|qd<|qb J<|qb J<|q9<|qe<|qd<|U J<|q8 b fun r1 h2 b=>Qa (q8s c r1 h2) J<|qb J<|qs<|U J<|O _ J<|q9 ?_;refine qo J b (fun _ b=>?_) (fun _ b=>?_)
 ·refine qd<|U J<|qb J<|qb J<|qw ?_;obtain rfl:=qr b;exact finD (.inr J) J J (Y8 (.cons (.nil _) (.cons (.refl _) .nil)))
 refine qm<|qd<|qb J<|q9<|qe<|qd<|U J<|K1 J<|U J<|q9<|q8 b fun p al b=>?_;refine Qq (fun g=>g = p) (fun g=>⟨[(9,.hs 0 2 0 g.length)],[(0,.dat 2 (g.map Qj))],1⟩) qg ?_ ?_
 ·refine Qg (q76 c h j) (fun k=>⟨[(1,q7 h),(2,q7 j),(9,.hs 0 2 0 k.2.length),(17,.d (.sl 6 (c.map Qi))),(18,q7 (c.length : Int)),(19,q7 k.1)],[(0,.dat 2 (k.2.map Qj))],1⟩) _ p al (wkA [] [] [0]) ?_;intro k aw f;unfold q76 at f;refine qd<|O _ J<|q9<|qe ?_;refine qo J f (fun _ f=>?_) (fun _ f=>?_)
  ·refine qm<|qe<|q8 f fun am a f=>?_;refine Qq (fun l=>l = am) (fun l=>⟨[(1,q7 h),(2,q7 j),(9,.hs 0 2 0 l.length),(17,.d (.sl 6 (c.map Qi))),(18,q7 (c.length : Int)),(19,q7 k.1)],[(0,.dat 2 (l.map Qj))],1⟩) qg ?_ ?_
   ·refine qd<|q8 a fun ax an a=>Ql an J<|O _ J<|Qu J J<|Q8 1 _ J<|qs<|O _ J<|O _ J<|O _ J<|U J<|O _ J<|q8 a fun ao m a=>?_;refine Qd 7 (fun A st=>∃ q s t u v w,st = A [(34,Q3 ao),(33,w),(32,v),(31,u),(30,t),(29,s),(28,q)]) ?_ ?_
    ·refine Qc J J m (fun m=>?_) (fun m=>?_)
     ·refine U J<|O _ J<|O _ J<|O _ J<|O _ J<|O _ J<|q9 ?_;cases m;exact ⟨_,_,_,_,_,_,J⟩
     refine qc J<|qc J<|qc J<|qc J<|qc J<|O _ J<|q9 ?_;cases m;exact ⟨_,_,_,_,_,_,J⟩
    rintro _ ⟨q,s,t,u,v,w,rfl⟩;refine q8 a fun ap n a=>?_;refine Qd 7 (fun A st=>∃ x y z aa ab ac,st = A [(41,Q3 ap),(40,ac),(39,ab),(38,aa),(37,z),(36,y),(35,x)]) ?_ ?_
    ·refine Qc J J n (fun n=>?_) (fun n=>?_)
     ·refine O _ J<|O _ J<|O _ J<|U J<|O _ J<|O _ J<|q9 ?_;cases n;exact ⟨_,_,_,_,_,_,J⟩
     refine qc J<|qc J<|qc J<|qc J<|qc J<|O _ J<|q9 ?_;cases n;exact ⟨_,_,_,_,_,_,J⟩
    rintro _ ⟨x,y,z,aa,ab,ac,rfl⟩;refine q8 a fun aq o a=>?_;refine Qd 7 (fun A st=>∃ ad ae af ag ah ai,st = A [(48,Q3 aq),(47,ai),(46,ah),(45,ag),(44,af),(43,ae),(42,ad)]) ?_ ?_
    ·refine Qc J J o (fun o=>?_) (fun o=>?_)
     ·refine U J<|O _ J<|O _ J<|O _ J<|O _ J<|O _ J<|q9 ?_;cases o;exact ⟨_,_,_,_,_,_,J⟩
     refine qc J<|qc J<|qc J<|qc J<|qc J<|O _ J<|q9 ?_;cases o;exact ⟨_,_,_,_,_,_,J⟩
    rintro _ ⟨ad,ae,af,ag,ah,ai,rfl⟩;refine q9 ?_;refine qo J a (fun _ a=>?_) (fun _ a=>?_)
    ·refine qz<|U J<|O _ J<|O _ J<|O _ J<|O _ J<|O _ J<|O _ J<|O _ J<|Qw _ _ J<|q8 a fun ay ar a=>Kq _ ar J J J J J J J (Ko J J) J J J J<|qb J<|qx ?_;obtain rfl:=qr a;exact ⟨_,J,wkA [(0,3)] [] []⟩
    refine qm<|Qh ?_;obtain rfl:=qr a;exact ⟨_,J,wkA [(0,0)] [] []⟩
   intro l hb;subst hb;refine qz<|O _ J<|U J<|qx<|⟨_,qp f,wkA [(0,0)] [] []⟩
  refine Q9 ?_;refine ⟨_,qp f,fun hm=>?_⟩;subst hm;exact ⟨_,J,wkA [(0,0)] [] []⟩
 intro g hb;subst hb;refine qe ?_;refine Yb (st':=⟨[(9,.d (.sl 2 (g.map Qj)))],[],0⟩) (wkA [] [0] []) ?_ qg;refine qz<|U J<|q8 b fun au av b=>Qa (qps g au av) J<|O _ J<|O _ J<|qb J<|qb J<|qw ?_;cases b;exact Qe _ J
theorem quy (r : K0) (a : qe3 = some r) : Pure Tryz.prog tab 13 [] (.agg (Ju r)):=by
 unfold qe3 at a;refine Qz Tryz.func13 J qh qh J<|qd<|Qu J J<|qs<|O _ J<|O _ J<|Q8 0 _ J<|qw ?_;cases a;exact Qe _ J
theorem qgs (a : Q0) (d : Int) (r : Bool) (c : q4c a d = some r) : Pure Tryz.prog tab 82 [.agg (Yv a),qa d] (.bool r):=by
 unfold q4c at c;refine Qz Tryz.func82 J qh qh J<|qd<|Qw _ _ J<|qb J<|qs<|O _ J<|O _ J<|O _ J<|O _ J<|O _ J<|O _ J<|qa8 (r:=min (min a.X a.Y) a.Z) J J (by simp only [qa1];rfl)<|U J<|O _ J<|q8 c fun p b c=>?_;refine Qd 10 (fun A st=>∃ f g h j k l m n o,st = A [(23,Q3 p),(22,o),(21,n),(20,m),(19,l),(18,k),(17,j),(16,h),(15,g),(14,f)]) ?_ ?_
 ·refine Qc J J b (fun b=>?_) (fun b=>?_)
  ·refine O _ J<|O _ J<|O _ J<|O _ J<|O _ J<|O _ J<|qa7 (r:=max (max a.X a.Y) a.Z) J J (by simp only [qa0];rfl)<|O _ J<|O _ J<|q9 ?_;cases b;exact ⟨_,_,_,_,_,_,_,_,_,J⟩
  refine qc J<|qc J<|qc J<|qc J<|qc J<|qc J<|qc J<|qc J<|O _ J<|q9 ?_;cases b;exact ⟨_,_,_,_,_,_,_,_,_,J⟩
 rintro _ ⟨f,g,h,j,k,l,m,n,o,rfl⟩;refine qb J<|qw ?_;cases c;exact Qe _ J
theorem q9n (c : Ka) (r : Int) (a : q2n c = some r) : Pure Tryz.prog tab 81 [.agg [.int .u8 c.Turn,qa c.At.X,qa c.At.Y,qa c.At.Z]] (qa r):=by
 unfold q2n at a;refine Qz Tryz.func81 J qh qh J<|qd<|Qw _ _ J<|qb J<|q9<|qe<|qd<|O _ J<|O _ J<|O _ J<|q8 a fun k b a=>?_;refine Qd 6 (fun A st=>∃ d f g h j,st = A [(11,Q3 k),(10,j),(9,h),(8,g),(7,f),(6,d)]) ?_ ?_
 ·refine Qc J J b (fun b=>?_) (fun b=>?_)
  ·refine qc J<|qc J<|qc J<|qc J<|O _ J<|q9 ?_;cases b;exact ⟨_,_,_,_,_,J⟩
  refine O _ J<|O _ J<|q8 b fun l m b=>Qa (qgs c.At (-1000000) l m) J<|O _ J<|O _ J<|q9 ?_;cases b;exact ⟨_,_,_,_,_,J⟩
 rintro _ ⟨d,f,g,h,j,rfl⟩;refine q9 ?_;refine qo J a (fun _ a=>?_) (fun _ a=>?_)
 ·refine qd<|qb J<|qw ?_;cases a;exact Qe _ J
 refine qm<|qd<|qb J<|qw ?_;cases a;exact Qe _ J
theorem qtv (c : K0) (r : Int) (a : q9p c = some r) : Pure Tryz.prog tab 80 [.agg (Ju c)] (qa r):=by
 unfold q9p at a;refine Qz Tryz.func80 J qh qh J<|qd<|Qw _ _ J<|qb J<|q9<|qe<|qd<|O _ J<|O _ J<|q8 a fun k l a=>Qa (q9n c.Frame k l) J<|O _ J<|q8 a fun m b a=>?_;refine Qd 6 (fun A st=>∃ d f g h j,st = A [(12,Q3 m),(11,j),(10,h),(9,g),(8,f),(7,d)]) ?_ ?_
 ·refine Qc J J b (fun b=>?_) (fun b=>?_)
  ·refine qc J<|qc J<|qc J<|qc J<|O _ J<|q9 ?_;cases b;exact ⟨_,_,_,_,_,J⟩
  refine O _ J<|O _ J<|q8 b fun n o b=>Qa (qgs c.Size 0 n o) J<|O _ J<|O _ J<|q9 ?_;cases b;exact ⟨_,_,_,_,_,J⟩
 rintro _ ⟨d,f,g,h,j,rfl⟩;refine q9 ?_;refine qo J a (fun _ a=>?_) (fun _ a=>?_)
 ·refine qd<|qb J<|qw ?_;cases a;exact Qe _ J
 refine qm<|qd<|qb J<|qw ?_;cases a;exact Qe _ J
theorem qlh (b : Int) (r : Q0) (a : qdv b = some r) : Pure Tryz.prog tab 149 [.int .u8 b] (.agg (Yv r)):=by
 unfold qdv at a;refine Qz Tryz.func149 J qh qh J<|qd<|Qu J J<|qs<|U J<|O _ J<|O _ J<|O _ J<|O _ J<|qb J<|q9<|qe<|qd<|U J<|O _ J<|q9<|Q6<|qd<|O _ J<|qb J<|q9 ?_;refine qo J a (fun _ a=>?_) (fun _ a=>?_)
 ·refine qd<|U J<|O _ J<|Q8 0 _ J<|qw ?_;cases a;exact Qe _ J
 refine qd<|O _ J<|qb J<|q9 ?_;refine qo J a (fun _ a=>?_) (fun _ a=>?_)
 ·refine qd<|U J<|O _ J<|Q8 0 _ J<|qw ?_;cases a;exact Qe _ J
 refine qm<|Qh<|Qp<|qd<|U J<|O _ J<|Q8 0 _ J<|qw ?_;cases a;exact Qe _ J
theorem qtw (a : Q0) (b : Q0) (r : Q0) (c : qgr a b = some r) : Pure Tryz.prog tab 150 [.agg (Yv a),.agg (Yv b)] (.agg (Yv r)):=by
 unfold qgr at c;refine Qz Tryz.func150 J qh qh J<|qd<|Qw _ _ J<|Qw _ _ J<|Qu J J<|qs<|O _ J<|O _ J<|O _ J<|O _ J<|O _ J<|O _ J<|O _ J<|O _ J<|O _ J<|O _ J<|O _ J<|O _ J<|O _ J<|O _ J<|O _ J<|O _ J<|O _ J<|O _ J<|O _ J<|O _ J<|O _ J<|O _ J<|O _ J<|O _ J<|O _ J<|O _ J<|O _ J<|O _ J<|O _ J<|O _ J<|O _ J<|O _ J<|O _ J<|O _ J ?_;refine Q8 2 _ J<|qw ?_;cases c;exact Qe _ J
theorem qdu (f : Int) (r : (Q0 × Q0 × Q0)) (a : q3a f = some r) : Pure Tryz.prog tab 136 [.int .u8 f] (.agg [qa r.1.X,qa r.1.Y,qa r.1.Z,qa r.2.1.X,qa r.2.1.Y,qa r.2.1.Z,qa r.2.2.X,qa r.2.2.Y,qa r.2.2.Z]):=by
 unfold q3a at a;refine Qz Tryz.func136 J qh qh J<|qd<|Qu J J<|qs<|U J<|O _ J<|qb J<|qs<|U J<|O _ J<|qb J<|q9<|qe<|qd<|U J<|U J<|O _ J<|O _ J<|O _ J<|q9<|q8 a fun j b a=>?_;refine Ya (fun c=>c = j) (fun c=>⟨[(2,.ref 0 9 0 0),(3,.d (.int .u8 (IntKind.wrap .u8 (Int.tdiv f 4)))),(4,.d (.int .u8 c))],[(0,.dat 9 [[qa 0,qa 0,qa 0,qa 0,qa 0,qa 0,qa 0,qa 0,qa 0]])],1⟩) qg ?_ ?_
 ·refine qo J b (fun _ b=>?_) (fun _ b=>?_)
  ·refine qz<|U J<|O _ J<|qb J<|qx ?_;obtain rfl:=qr b;exact ⟨_,J,wkA [(0,0)] [] []⟩
  refine qm<|Qh ?_;obtain rfl:=qr b;exact ⟨_,J,wkA [(0,0)] [] []⟩
 intro c hb;subst hb;refine qd<|U J<|q8 a fun g k a=>Qa (qlh (IntKind.wrap .u8 (Int.tdiv f 4)) g k) J<|U J<|q8 a fun h l a=>Qa (qlh c h l) J<|Qu J J<|Qu J J<|Q8 1 _ J<|Q8 2 _ J<|q9<|qe<|Qb [Qo 0,q0,q0,qq 2,qq 1,qq 2,qq 1] qh<|O _ J<|O _ J<|O _ J<|O _ J<|q8 a fun m n a=>Qa (qtw g h m n) J<|O _ J<|Q8 0 _ J<|qw ?_;cases a;exact Qe _ J
theorem qli (a : Q0 × Q0 × Q0) (b : Q0) (r : Q0) (c : q6k a b = some r) : Pure Tryz.prog tab 137 [.agg [qa a.1.X,qa a.1.Y,qa a.1.Z,qa a.2.1.X,qa a.2.1.Y,qa a.2.1.Z,qa a.2.2.X,qa a.2.2.Y,qa a.2.2.Z],.agg (Yv b)] (.agg (Yv r)):=by
 unfold q6k at c;refine Qz Tryz.func137 J qh qh J<|qd<|Qw _ _ J<|Qw _ _ J<|Qu J J<|qs<|O _ J<|O _ J<|O _ J<|O _ J<|O _ J<|O _ J<|O _ J<|O _ J<|O _ J<|O _ J<|O _ J<|O _ J<|O _ J<|O _ J<|O _ J<|O _ J<|O _ J<|O _ J<|O _ J<|O _ J<|O _ J<|O _ J<|O _ J<|O _ J<|O _ J<|O _ J<|O _ J<|O _ J<|O _ J<|O _ J<|O _ J<|O _ J<|O _ J<|O _ J ?_;refine O _ J<|O _ J<|O _ J<|O _ J<|O _ J<|O _ J<|O _ J<|O _ J<|O _ J<|O _ J<|O _ J<|O _ J<|O _ J<|O _ J<|O _ J<|O _ J<|O _ J<|O _ J<|O _ J<|O _ J<|O _ J<|O _ J<|O _ J<|O _ J<|O _ J<|O _ J<|O _ J<|Q8 2 _ J<|qw ?_;cases c;exact Qe _ J
theorem qtz (a : Q0 × Q0 × Q0) (r : Int) (c : q9r a = some r) : Pure Tryz.prog tab 138 [.agg [qa a.1.X,qa a.1.Y,qa a.1.Z,qa a.2.1.X,qa a.2.1.Y,qa a.2.1.Z,qa a.2.2.X,qa a.2.2.Y,qa a.2.2.Z]] (.int .u8 r):=by
 unfold q9r at c;refine Qz Tryz.func138 J qh qh J<|qd<|Qw _ _ J<|qb J<|q9<|qe<|qd<|U J<|q9<|q8 c fun h j c=>?_;refine Qq (fun f=>.inl f = h) (fun f=>⟨[],[],0⟩) qg ?_ ?_
 ·refine Qg (q6j a) (fun g=>⟨[(1,.ref 0 9 0 0),(4,.d (.int .u8 g))],[(0,.dat 9 [[qa a.1.X,qa a.1.Y,qa a.1.Z,qa a.2.1.X,qa a.2.1.Y,qa a.2.1.Z,qa a.2.2.X,qa a.2.2.Y,qa a.2.2.Z]])],1⟩) _ h j (wkA [(0,0)] [] []) ?_;intro g y9 b;unfold q6j at b;refine qd<|O _ J<|q9<|qe ?_;refine qo J b (fun _ b=>?_) (fun _ b=>?_)
  ·refine qm<|qe<|Q6<|qd<|U J<|qb J<|q9<|qe<|Qb [q0,qq 0,q0,q0] qh<|U J<|q8 b fun k l b=>Qa (qdu g k l) J<|O _ J<|O _ J<|q9 ?_;refine qo J b (fun _ b=>?_) (fun _ b=>?_)
   ·refine qd<|U J<|qb J<|qw ?_;refine ⟨_,qp b,fun hm=>?_⟩;subst hm;cases c;exact Qe _ J
   refine qm<|Qh<|Qp<|qz<|O _ J<|U J<|qx<|⟨_,qp b,wkA [(0,0)] [] []⟩
  refine Q9 ?_;refine ⟨_,qp b,fun hm=>?_⟩;subst hm;exact ⟨_,J,wkA [] [] []⟩
 intro f hb;subst hb;refine qd<|qb J<|qw ?_;cases c;exact Qe _ J
theorem qty (a : Ka) (c : Q0) (r : Q0) (b : q9q a c = some r) : Pure Tryz.prog tab 139 [.agg [.int .u8 a.Turn,qa a.At.X,qa a.At.Y,qa a.At.Z],.agg (Yv c)] (.agg (Yv r)):=by
 unfold q9q at b;refine Qz Tryz.func139 J qh qh J<|qd<|Qw _ _ J<|Qw _ _ J<|Qu J J<|q9<|qe<|Qb [Qo 1,q0,qq 1,q0,qq 0,q0] qh<|O _ J<|O _ J<|q8 b fun d f b=>Qa (qdu a.Turn d f) J<|O _ J<|q8 b fun g h b=>Qa (qli d c g h) J<|Q8 1 _ J<|qs<|O _ J<|O _ J<|O _ J<|O _ J<|O _ J<|O _ J<|O _ J<|O _ J<|O _ J<|O _ J<|O _ J<|O _ J<|O _ J<|O _ J<|O _ J<|O _ J<|O _ J<|O _ J<|O _ J<|Q8 2 _ J<|qw ?_;cases b;exact Qe _ J
theorem qu0 (a : Ka) (b : Ka) (r : Ka) (c : q9s a b = some r) : Pure Tryz.prog tab 114 [.agg [.int .u8 a.Turn,qa a.At.X,qa a.At.Y,qa a.At.Z],.agg [.int .u8 b.Turn,qa b.At.X,qa b.At.Y,qa b.At.Z]] (.agg [.int .u8 r.Turn,qa r.At.X,qa r.At.Y,qa r.At.Z]):=by
 unfold q9s at c;refine Qz Tryz.func114 J qh qh J<|qd<|Qw _ _ J<|Qw _ _ J<|Qu J J<|q9<|qe<|Qb [Qo 4,Qo 3,(some [],[4]),(some [],[3]),q0,qq 1,q0,q0,qq 0,q0] qh<|O _ J<|O _ J<|q8 c fun q s c=>Qa (qdu a.Turn q s) J<|O _ J<|O _ J<|q8 c fun f t c=>Qa (qdu b.Turn f t) J<|Qu J J<|Qu J J<|Q8 3 _ J<|Q8 4 _ J<|q9<|qe<|qd<|U J<|q9<|q8 c fun m u c=>?_;refine Qq (fun j=>j = m) (fun j=>⟨[(2,.ref 0 4 0 0),(3,.ref 1 4 0 0),(4,.ref 2 4 0 0),(5,.ref 3 9 0 0)],[(0,.dat 4 [[.int .u8 a.Turn,qa a.At.X,qa a.At.Y,qa a.At.Z]]),(1,.dat 4 [[.int .u8 b.Turn,qa b.At.X,qa b.At.Y,qa b.At.Z]]),(2,.dat 4 [[.int .u8 0,qa 0,qa 0,qa 0]]),(3,.dat 9 [j.flatMap Yv])],4⟩) qg ?_ ?_
 ·refine Qg (q3b f) (fun l=>⟨[(2,.ref 0 4 0 0),(3,.ref 1 4 0 0),(4,.ref 2 4 0 0),(5,.ref 3 9 0 0),(6,.ref 4 9 0 0),(14,q7 l.1)],[(0,.dat 4 [[.int .u8 a.Turn,qa a.At.X,qa a.At.Y,qa a.At.Z]]),(1,.dat 4 [[.int .u8 b.Turn,qa b.At.X,qa b.At.Y,qa b.At.Z]]),(2,.dat 4 [[.int .u8 0,qa 0,qa 0,qa 0]]),(3,.dat 9 [l.2.flatMap Yv]),(4,.dat 9 [[qa f.1.X,qa f.1.Y,qa f.1.Z,qa f.2.1.X,qa f.2.1.Y,qa f.2.1.Z,qa f.2.2.X,qa f.2.2.Y,qa f.2.2.Z]])],5⟩) _ m u (wkA [(0,0),(1,1),(2,2),(3,3),(4,4)] [] []) ?_;intro l ab g;unfold q3b at g;refine qd<|O _ J<|q9<|qe ?_;refine qo J g (fun _ g=>?_) (fun _ g=>?_)
  ·refine qm<|qe<|Q6<|qd<|U J<|qb J<|q9<|Qb [Qo 3,q0,q0,qq 3,q0,q0,qq 4,q0] qh<|U J<|O _ J<|U J<|q8 g fun k n g=>Jj n J J J J J<|q4s (enc:=Yv) (.d (.agg [qa k.X,qa k.Y,qa k.Z])) n (fun _=>rfl) J J J J J J<|q8 g fun o v g=>Qa (qli f k o v) J<|q8 g fun ac p g=>Jj p J J J J J<|qef (enc:=Yv) o p (fun _=>rfl) J J J J J J J J<|qx<|Qp<|qz<|O _ J<|U J<|qx<|⟨_,qp g,wkA [(0,0),(1,1),(2,2),(3,3),(4,4)] [] []⟩
  refine Q9 ?_;refine ⟨_,qp g,fun hm=>?_⟩;subst hm;exact ⟨_,J,wkA [(0,0),(1,1),(2,2),(3,3)] [] []⟩
 intro j hb;subst hb;refine qe<|Qb [Qo 2,q0,q0,qq 0,q0,qq 1,q0,qq 3] qh<|q8 c fun h w c=>qni (enc:=Yv) (.d (.agg [qa h.1.X,qa h.1.Y,qa h.1.Z,qa h.2.1.X,qa h.2.1.Y,qa h.2.1.Z,qa h.2.2.X,qa h.2.2.Y,qa h.2.2.Z])) (qqx w) J J J J J J<|q8 c fun x y c=>Qa (qtz h x y) J<|O _ J<|O _ J<|O _ J<|q8 c fun z aa c=>Qa (qty b a.At z aa) J<|O _ J<|Q8 2 _ J<|qw ?_;cases c;exact Qe _ J
theorem qtu (b : Ka) (c : Ka) (r : Ka × Int) (a : q9o b c = some r) : Pure Tryz.prog tab 83 [.agg [.int .u8 b.Turn,qa b.At.X,qa b.At.Y,qa b.At.Z],.agg [.int .u8 c.Turn,qa c.At.X,qa c.At.Y,qa c.At.Z]] (.tup [.agg [.int .u8 r.1.Turn,qa r.1.At.X,qa r.1.At.Y,qa r.1.At.Z],qa r.2]):=by
 unfold q9o at a;refine Qz Tryz.func83 J qh qh J<|qd<|Qw _ _ J<|Qw _ _ J<|Qu J J<|qb J<|q9<|qe<|qd<|O _ J<|q8 a fun f g a=>Qa (q9n b f g) J<|qb J<|qs<|U J<|O _ J<|q9 ?_;refine qo J a (fun _ a=>?_) (fun _ a=>?_)
 ·refine qd<|O _ J<|U J<|Q8 2 _ J<|qb J<|qw ?_;cases a;exact Qe _ J
 refine qm<|qe<|qd<|O _ J<|q8 a fun h j a=>Qa (q9n c h j) J<|qb J<|qs<|U J<|O _ J<|q9 ?_;refine qo J a (fun _ a=>?_) (fun _ a=>?_)
 ·refine qd<|O _ J<|U J<|Q8 2 _ J<|qb J<|qw ?_;cases a;exact Qe _ J
 refine qm<|qd<|O _ J<|O _ J<|q8 a fun d k a=>Qa (qu0 b c d k) J<|Qu J J<|Q8 3 _ J<|q9<|qe<|qd<|O _ J<|q8 a fun l m a=>Qa (q9n d l m) J<|O _ J<|q9 ?_;refine qo J a (fun _ a=>?_) (fun _ a=>?_)
 ·refine qd<|O _ J<|Q8 2 _ J<|qb J<|qw ?_;cases a;exact Qe _ J
 refine qm<|qd<|O _ J<|Q8 2 _ J<|qb J<|qw ?_;cases a;exact Qe _ J
theorem qlg (c : K0) (d : Q0) (g : Q0) (f : Int) (r : K0 × Int) (a : Jx c d g f = some r) : Pure Tryz.prog tab 44 [.agg (Ju c),.agg (Yv d),.agg (Yv g),.int .u8 f] (.tup [.agg (Ju r.1),qa r.2]):=by
 unfold Jx at a;refine Qz Tryz.func44 J qh qh J<|qd<|Qw _ _ J<|Qw _ _ J<|Qw _ _ J<|Qu J J<|qb J<|q9<|qe<|qd<|O _ J<|q8 a fun m n a=>Qa (qtv c m n) J<|qb J<|qs<|U J<|O _ J<|q9 ?_;refine qo J a (fun _ a=>?_) (fun _ a=>?_)
 ·refine qd<|O _ J<|U J<|Q8 3 _ J<|qb J<|qw ?_;cases a;exact Qe _ J
 refine qm<|qd<|U J<|O _ J<|O _ J<|Qu J J<|Q8 4 _ J<|q9<|qe<|qd<|O _ J<|q8 a fun o p a=>Qa (q9n ({Turn:=f,At:=d} : Ka) o p) J<|O _ J<|q8 a fun q b a=>?_;refine Qd 5 (fun A st=>∃ h j k l,st = A [(29,Q3 q),(28,l),(27,k),(26,j),(25,h)]) ?_ ?_
 ·refine Qc J J b (fun b=>?_) (fun b=>?_)
  ·refine qc J<|qc J<|qc J<|O _ J<|q9 ?_;cases b;exact ⟨_,_,_,_,J⟩
  refine O _ J<|q8 b fun s t b=>Qa (qgs g 0 s t) J<|O _ J<|O _ J<|q9 ?_;cases b;exact ⟨_,_,_,_,J⟩
 rintro _ ⟨h,j,k,l,rfl⟩;refine q9 ?_;refine qo J a (fun _ a=>?_) (fun _ a=>?_)
 ·refine qd<|O _ J<|Q8 3 _ J<|qb J<|qw ?_;cases a;exact Qe _ J
 refine qm<|qd<|O _ J<|O _ J<|O _ J<|q8 a fun u v a=>Qa (qtu ({Turn:=f,At:=d} : Ka) c.Frame u v) J<|U J<|O _ J<|O _ J<|Q8 4 _ J<|qb J<|q9<|qe<|qd<|U J<|O _ J<|q9 ?_;refine qo J a (fun _ a=>?_) (fun _ a=>?_)
 ·refine qd<|O _ J<|U J<|Q8 3 _ J<|qb J<|qw ?_;cases a;exact Qe _ J
 refine qm<|qd<|O _ J<|O _ J<|O _ J<|Q8 3 _ J<|qb J<|qw ?_;cases a;exact Qe _ J
theorem qzi (b : K0) (r : Int) (a : qam b = some r) : Pure Tryz.prog tab 41 [.agg (Ju b)] (qa r):=by
 unfold qam at a;refine Qz Tryz.func41 J qh qh J<|qd<|Qw _ _ J<|qb J<|q9<|qe<|qd<|O _ J<|O _ J<|O _ J<|q8 a fun c d a=>Qa (qlg b ({X:=0,Y:=0,Z:=0} : Q0) ({X:=0,Y:=0,Z:=0} : Q0) 0 c d) J<|U J<|O _ J<|O _ J<|Qu J J<|Q8 1 _ J<|qb J<|qs<|U J<|O _ J<|q9 ?_;refine qo J a (fun _ a=>?_) (fun _ a=>?_)
 ·refine qd<|qb J<|qw ?_;cases a;exact Qe _ J
 refine qm<|qd<|qb J<|qw ?_;cases a;exact Qe _ J
theorem qzj (a : Q0) (g : Int) (r : Int × Q0 × Q0) (f : Ux a g = some r) : Pure Tryz.prog tab 43 [.agg [qa a.X,qa a.Y,qa a.Z],qa g] (.tup [.int .u8 r.1,.agg [qa r.2.1.X,qa r.2.1.Y,qa r.2.1.Z],.agg [qa r.2.2.X,qa r.2.2.Y,qa r.2.2.Z]]):=by
 unfold Ux at f;refine Qz Tryz.func43 J qh qh J<|qd<|Qw (.ref 0 3 0 0) (.dat 3 [[qa a.X,qa a.Y,qa a.Z]]) J<|qb J<|Qu J J<|Qu J J<|q9<|qe<|Qb [q0,q0,q0,qq 0,q0,qq 0,q0,qq 0,q0] qh<|O (.ref 0 3 0 0) J<|O (q7 a.X) J<|O (.ref 0 3 0 1) J<|O (q7 a.Y) J<|O (.ref 0 3 0 2) J<|O (q7 a.Z) J<|qb J<|qb J<|qb J<|qs<|U J<|O (.d (.agg [qa a.X,qa 0,qa 0])) J<|U J<|U J<|O (.d (.agg [qa a.Y,qa a.Z,qa 0])) J<|O (.d (.agg [.int .u8 10,qa a.X,qa 0,qa 0,qa a.Y,qa a.Z,qa 0])) J<|U J<|O (.d (.agg [qa 0,qa 0,qa a.Z])) J<|U J<|U J<|O (.d (.agg [qa a.Y,qa a.Z,qa 0])) J<|O (.d (.agg [.int .u8 11,qa 0,qa 0,qa a.Z,qa a.Y,qa a.Z,qa 0])) J<|U J<|U J<|O (.d (.agg [qa 0,qa a.Y,qa a.Z])) J<|U J<|U J<|O (.d (.agg [qa a.X,qa a.Z,qa 0])) J<|O (.d (.agg [.int .u8 3,qa 0,qa a.Y,qa a.Z,qa a.X,qa a.Z,qa 0])) J<|O (.d (.agg [qa 0,qa 0,qa 0])) J<|U J ?_;refine U J<|O (.d (.agg [qa a.X,qa a.Z,qa 0])) J<|O (.d (.agg [.int .u8 2,qa 0,qa 0,qa 0,qa a.X,qa a.Z,qa 0])) J<|U J<|O (.d (.agg [qa 0,qa 0,qa a.Z])) J<|U J<|U J<|O (.d (.agg [qa a.X,qa a.Y,qa 0])) J<|O (.d (.agg [.int .u8 0,qa 0,qa 0,qa a.Z,qa a.X,qa a.Y,qa 0])) J<|U J<|O (.d (.agg [qa 0,qa a.Y,qa 0])) J<|U J<|U J<|O (.d (.agg [qa a.X,qa a.Y,qa 0])) J<|O (.d (.agg [.int .u8 1,qa 0,qa a.Y,qa 0,qa a.X,qa a.Y,qa 0])) J<|O (.d (.agg [.int .u8 10,qa a.X,qa 0,qa 0,qa a.Y,qa a.Z,qa 0,.int .u8 11,qa 0,qa 0,qa a.Z,qa a.Y,qa a.Z,qa 0,.int .u8 3,qa 0,qa a.Y,qa a.Z,qa a.X,qa a.Z,qa 0,.int .u8 2,qa 0,qa 0,qa 0,qa a.X,qa a.Z,qa 0,.int .u8 0,qa 0,qa 0,qa a.Z,qa a.X,qa a.Y,qa 0,.int .u8 1,qa 0,qa a.Y,qa 0,qa a.X,qa a.Y,qa 0])) J<|Qu J J<|Q8 3 (.dat 42 [[({t_:=10,at_:=({X:=a.X,Y:=0,Z:=0} : Q0),flat_:=({X:=a.Y,Y:=a.Z,Z:=0} : Q0)} : Yi),({t_:=11,at_:=({X:=0,Y:=0,Z:=a.Z} : Q0),flat_:=({X:=a.Y,Y:=a.Z,Z:=0} : Q0)} : Yi),({t_:=3,at_:=({X:=0,Y:=a.Y,Z:=a.Z} : Q0),flat_:=({X:=a.X,Y:=a.Z,Z:=0} : Q0)} : Yi),({t_:=2,at_:=({X:=0,Y:=0,Z:=0} : Q0),flat_:=({X:=a.X,Y:=a.Z,Z:=0} : Q0)} : Yi),({t_:=0,at_:=({X:=0,Y:=0,Z:=a.Z} : Q0),flat_:=({X:=a.X,Y:=a.Y,Z:=0} : Q0)} : Yi),({t_:=1,at_:=({X:=0,Y:=a.Y,Z:=0} : Q0),flat_:=({X:=a.X,Y:=a.Y,Z:=0} : Q0)} : Yi)].flatMap qdn]) J<|q9<|qe<|Qb [Qo 2,Qo 1,q0,qq 3,q0,q0,q0,qq 3,q0,q0,q0,qq 3,q0,q0,q0] qh<|U J<|q8 f fun h j f=>Jj j J J J J J<|O (.ref 3 42 0 (g.toNat * 7 + 0)) J<|qhr (enc:=qdn) (.d (.int .u8 h.t_)) j (fun _=>rfl) J J J J J J<|U J<|q8 f fun b k f=>Jj k J J J J J<|O (.ref 3 42 0 (g.toNat * 7 + 1)) J<|qhr (enc:=qdn) (.d (.agg [qa b.at_.X,qa b.at_.Y,qa b.at_.Z])) k (fun _=>rfl) J J J J J J<|U J<|q8 f fun c l f=>Jj l J J J J J<|O (.ref 3 42 0 (g.toNat * 7 + 4)) J<|qhr (enc:=qdn) (.d (.agg [qa c.flat_.X,qa c.flat_.Y,qa c.flat_.Z])) l (fun _=>rfl) J J J J J J<|qb J<|Q8 1 (.dat 3 [[qa b.at_.X,qa b.at_.Y,qa b.at_.Z]]) J<|Q8 2 (.dat 3 [[qa c.flat_.X,qa c.flat_.Y,qa c.flat_.Z]]) J<|qw ?_;obtain rfl:=qr f;exact Qe (.d (.tup [.int .u8 h.t_,.agg [qa b.at_.X,qa b.at_.Y,qa b.at_.Z],.agg [qa c.flat_.X,qa c.flat_.Y,qa c.flat_.Z]])) J
theorem qza (g : Int) (h : Int) (j : Int) (k : Int) (l : Int) (b : Int) (c : Int) (d : Int) (m : List K0) (r : Int × Int × Int × Int × Int × Int × Int × Int × List K0) (a : qak  g h j k l b c d m = some r) : K8 Tryz.prog tab 42 [q7 g,.ref 0 7 0 0,.ref 1 42 0 0] [(0,.dat 7 [[.int .u8 h,qa j,qa k,qa l,qa b,qa c,qa d]]),(1,.dat 42 [m.flatMap Ju])] 2 (q7 r.1) [(0,.dat 7 [[.int .u8 r.2.1,qa r.2.2.1,qa r.2.2.2.1,qa r.2.2.2.2.1,qa r.2.2.2.2.2.1,qa r.2.2.2.2.2.2.1,qa r.2.2.2.2.2.2.2.1]]),(1,.dat 42 [r.2.2.2.2.2.2.2.2.flatMap Ju])] 2:=by
 unfold qak at a;refine Kd Tryz.func42 J qh qh J<|qd<|qb J<|qs<|O _ J<|O _ J<|U J<|q8 a fun f p a=>Qa (qzj ({X:=b,Y:=c,Z:=d} : Q0) g f p) J<|U J<|O _ J<|O _ J<|O _ J<|Qu J J<|Qu J J<|qb J<|Q8 2 _ J<|Q8 3 _ J<|qs<|U J<|O _ J<|O _ J<|O _ J<|U J<|q8 a fun n q a=>Qa (qlg ({Frame:=({Turn:=h,At:=({X:=j,Y:=k,Z:=l} : Q0)} : Ka),Size:=({X:=b,Y:=c,Z:=d} : Q0)} : K0) f.2.1 f.2.2 f.1 n q) J<|U J<|O _ J<|O _ J<|q8 a fun s o a=>Jj o J J J J J<|qef (enc:=Ju) n.1 o (fun _=>rfl) J J J J J J J J<|qb J<|qs<|U J<|qb J<|qw ?_;obtain rfl:=qr a;exact ⟨.inr J,_,J,wkA [] [] []⟩
theorem qzb (j : K0) (r : (K0 × K0 × K0 × K0 × K0 × K0) × Int) (c : qaj j = some r) : Pure Tryz.prog tab 11 [.agg (Ju j)] (.tup [.agg [.int .u8 r.1.1.Frame.Turn,qa r.1.1.Frame.At.X,qa r.1.1.Frame.At.Y,qa r.1.1.Frame.At.Z,qa r.1.1.Size.X,qa r.1.1.Size.Y,qa r.1.1.Size.Z,.int .u8 r.1.2.1.Frame.Turn,qa r.1.2.1.Frame.At.X,qa r.1.2.1.Frame.At.Y,qa r.1.2.1.Frame.At.Z,qa r.1.2.1.Size.X,qa r.1.2.1.Size.Y,qa r.1.2.1.Size.Z,.int .u8 r.1.2.2.1.Frame.Turn,qa r.1.2.2.1.Frame.At.X,qa r.1.2.2.1.Frame.At.Y,qa r.1.2.2.1.Frame.At.Z,qa r.1.2.2.1.Size.X,qa r.1.2.2.1.Size.Y,qa r.1.2.2.1.Size.Z,.int .u8 r.1.2.2.2.1.Frame.Turn,qa r.1.2.2.2.1.Frame.At.X,qa r.1.2.2.2.1.Frame.At.Y,qa r.1.2.2.2.1.Frame.At.Z,qa r.1.2.2.2.1.Size.X,qa r.1.2.2.2.1.Size.Y,qa r.1.2.2.2.1.Size.Z,.int .u8 r.1.2.2.2.2.1.Frame.Turn,qa r.1.2.2.2.2.1.Frame.At.X,qa r.1.2.2.2.2.1.Frame.At.Y,qa r.1.2.2.2.2.1.Frame.At.Z,qa r.1.2.2.2.2.1.Size.X,qa r.1.2.2.2.2.1.Size.Y,qa r.1.2.2.2.2.1.Size.Z,.int .u8 r.1.2.2.2.2.2.Frame.Turn,qa r.1.2.2.2.2.2.Frame.At.X,qa r.1.2.2.2.2.2.Frame.At.Y,qa r.1.2.2.2.2.2.Frame.At.Z,qa r.1.2.2.2.2.2.Size.X,qa r.1.2.2.2.2.2.Size.Y,qa r.1.2.2.2.2.2.Size.Z],qa r.2]):=by
 unfold qaj at c;refine Qz Tryz.func11 J qh qh J<|qd<|Qw _ _ J<|Qu J J<|qb J<|q9<|qe<|qd<|O _ J<|q8 c fun l m c=>Qa (qzi j l m) J<|qb J<|qs<|U J<|O _ J<|q9 ?_;refine qo J c (fun _ c=>?_) (fun _ c=>?_)
 ·refine qd<|O _ J<|U J<|Q8 1 _ J<|qb J<|qw ?_;cases c;exact Qe _ J
 refine qm<|qd<|Qu J J<|qs<|O _ J<|qb J<|q9<|qe<|qd<|U J<|q9<|q8 c fun k n c=>?_;refine Qq (fun h=>.inl h = k) (fun h=>⟨[(2,.ref 0 42 0 0),(5,.ref 1 42 0 0)],[(0,.dat 42 [[.int .u8 0,qa 0,qa 0,qa 0,qa 0,qa 0,qa 0,.int .u8 0,qa 0,qa 0,qa 0,qa 0,qa 0,qa 0,.int .u8 0,qa 0,qa 0,qa 0,qa 0,qa 0,qa 0,.int .u8 0,qa 0,qa 0,qa 0,qa 0,qa 0,qa 0,.int .u8 0,qa 0,qa 0,qa 0,qa 0,qa 0,qa 0,.int .u8 0,qa 0,qa 0,qa 0,qa 0,qa 0,qa 0]]),(1,.dat 42 [h.flatMap Ju])],2⟩) qg ?_ ?_
 ·refine Qg (q3i) (fun b=>⟨[(2,.ref 0 42 0 0),(5,.ref 1 42 0 0),(6,.fn 42 [.ref 2 7 0 0,.ref 1 42 0 0]),(16,q7 b.1)],[(0,.dat 42 [[.int .u8 0,qa 0,qa 0,qa 0,qa 0,qa 0,qa 0,.int .u8 0,qa 0,qa 0,qa 0,qa 0,qa 0,qa 0,.int .u8 0,qa 0,qa 0,qa 0,qa 0,qa 0,qa 0,.int .u8 0,qa 0,qa 0,qa 0,qa 0,qa 0,qa 0,.int .u8 0,qa 0,qa 0,qa 0,qa 0,qa 0,qa 0,.int .u8 0,qa 0,qa 0,qa 0,qa 0,qa 0,qa 0]]),(1,.dat 42 [b.2.1.flatMap Ju]),(2,.dat 7 [[.int .u8 b.2.2.1,qa b.2.2.2.1,qa b.2.2.2.2.1,qa b.2.2.2.2.2.1,qa b.2.2.2.2.2.2.1,qa b.2.2.2.2.2.2.2.1,qa b.2.2.2.2.2.2.2.2]])],3⟩) _ k n (wkA [(0,1),(1,2),(2,0)] [] []) ?_;intro b y11 f;unfold q3i at f;refine qd<|O _ J<|q9<|qe ?_;refine qo J f (fun _ f=>?_) (fun _ f=>?_)
  ·refine qm<|qe<|Q6<|qd<|U J<|qb J<|qs<|U J<|U J<|q8 f fun g o f=>K9 [(0,2),(1,1)] [(0,2),(1,1),(2,0)] _ (q7 g.1) 2 [(1,.dat 42 [g.2.2.2.2.2.2.2.2.flatMap Ju]),(2,.dat 7 [[.int .u8 g.2.1,qa g.2.2.1,qa g.2.2.2.1,qa g.2.2.2.2.1,qa g.2.2.2.2.2.1,qa g.2.2.2.2.2.2.1,qa g.2.2.2.2.2.2.2.1]]),(0,.dat 42 [[.int .u8 0,qa 0,qa 0,qa 0,qa 0,qa 0,qa 0,.int .u8 0,qa 0,qa 0,qa 0,qa 0,qa 0,qa 0,.int .u8 0,qa 0,qa 0,qa 0,qa 0,qa 0,qa 0,.int .u8 0,qa 0,qa 0,qa 0,qa 0,qa 0,qa 0,.int .u8 0,qa 0,qa 0,qa 0,qa 0,qa 0,qa 0,.int .u8 0,qa 0,qa 0,qa 0,qa 0,qa 0,qa 0]])] 3 (qza b.1 b.2.2.1 b.2.2.2.1 b.2.2.2.2.1 b.2.2.2.2.2.1 b.2.2.2.2.2.2.1 b.2.2.2.2.2.2.2.1 b.2.2.2.2.2.2.2.2 b.2.1 g o)<|qb J<|qs<|U J<|O _ J<|q9 ?_;refine qo J f (fun _ f=>?_) (fun _ f=>?_)
   ·refine qd<|O _ J<|U J<|Q8 0 _ J<|qb J<|qw ?_;refine ⟨_,qp f,fun hm=>?_⟩;subst hm;cases c;exact Qe _ J
   refine qm<|Qh<|Qp<|qz<|O _ J<|U J<|qx<|⟨_,qp f,wkA [(0,0),(1,1),(2,2)] [] []⟩
  refine Q9 ?_;refine ⟨_,qp f,fun hm=>?_⟩;subst hm;exact ⟨_,J,wkA [(0,0),(1,1)] [] []⟩
 intro h hb;subst hb;refine qd<|q8 c fun a p c=>qni (enc:=Ju) (.d (.agg [.int .u8 a.1.Frame.Turn,qa a.1.Frame.At.X,qa a.1.Frame.At.Y,qa a.1.Frame.At.Z,qa a.1.Size.X,qa a.1.Size.Y,qa a.1.Size.Z,.int .u8 a.2.1.Frame.Turn,qa a.2.1.Frame.At.X,qa a.2.1.Frame.At.Y,qa a.2.1.Frame.At.Z,qa a.2.1.Size.X,qa a.2.1.Size.Y,qa a.2.1.Size.Z,.int .u8 a.2.2.1.Frame.Turn,qa a.2.2.1.Frame.At.X,qa a.2.2.1.Frame.At.Y,qa a.2.2.1.Frame.At.Z,qa a.2.2.1.Size.X,qa a.2.2.1.Size.Y,qa a.2.2.1.Size.Z,.int .u8 a.2.2.2.1.Frame.Turn,qa a.2.2.2.1.Frame.At.X,qa a.2.2.2.1.Frame.At.Y,qa a.2.2.2.1.Frame.At.Z,qa a.2.2.2.1.Size.X,qa a.2.2.2.1.Size.Y,qa a.2.2.2.1.Size.Z,.int .u8 a.2.2.2.2.1.Frame.Turn,qa a.2.2.2.2.1.Frame.At.X,qa a.2.2.2.2.1.Frame.At.Y,qa a.2.2.2.2.1.Frame.At.Z,qa a.2.2.2.2.1.Size.X,qa a.2.2.2.2.1.Size.Y,qa a.2.2.2.2.1.Size.Z,.int .u8 a.2.2.2.2.2.Frame.Turn,qa a.2.2.2.2.2.Frame.At.X,qa a.2.2.2.2.2.Frame.At.Y,qa a.2.2.2.2.2.Frame.At.Z,qa a.2.2.2.2.2.Size.X,qa a.2.2.2.2.2.Size.Y,qa a.2.2.2.2.2.Size.Z])) (qqy p) J J J J J J<|Q8 0 _ J<|qb J<|qw ?_;cases c;exact Qe _ J
theorem qo4 (c : List ql) (f : List ql) (r : Bool) (b : q4y c f = some r) : Pure Tryz.prog tab 31 [.sl 2 (c.map Qj),.sl 2 (f.map Qj)] (.bool r):=by
 unfold q4y at b;refine Qz Tryz.func31 J qh qh J<|qd<|qb J<|q9<|qe<|qd<|U J<|K1 J<|U J<|K1 J<|O _ J<|q9 ?_;refine qo J b (fun _ b=>?_) (fun _ b=>?_)
 ·refine qd<|qb J<|qw ?_;cases b;exact Qe _ J
 refine qm<|qe<|qd<|qb J<|q9<|q8 b fun h k b=>?_;refine Qq (fun g=>.inl g = h) (fun g=>⟨[],[],0⟩) qg ?_ ?_
 ·refine Qg (qel c f) (fun j=>⟨[(0,.d (.sl 2 (c.map Qj))),(1,.d (.sl 2 (f.map Qj))),(5,q7 j)],[],0⟩) _ h k (wkA [] [] []) ?_;intro j y17 a;unfold qel at a;refine qe<|qd<|U J<|U J<|K1 J<|O _ J<|q9 ?_;refine qo J a (fun _ a=>?_) (fun _ a=>?_)
  ·refine qm<|qe<|Q6<|qe<|Qb [q0,q0,q0,q0,q0,q0,q0,q0,q0] qh<|U J<|U J<|q8 a fun n l a=>Ql l J<|O _ J<|U J<|U J<|q8 a fun o m a=>Ql m J<|O _ J<|O _ J<|q9 ?_;refine qo J a (fun _ a=>?_) (fun _ a=>?_)
   ·refine qd<|qb J<|qw ?_;refine ⟨_,qp a,fun hm=>?_⟩;subst hm;cases b;exact Qe _ J
   refine qm<|Qh<|Qp<|qz<|U J<|O _ J<|qb J<|qx<|⟨_,qp a,wkA [] [] []⟩
  refine Q9 ?_;refine ⟨_,qp a,fun hm=>?_⟩;subst hm;exact ⟨_,J,wkA [] [] []⟩
 intro g hb;subst hb;refine qd<|qb J<|qw ?_;cases b;exact Qe _ J
theorem qux (r : Bool) (a : q9v = some r) : Pure Tryz.prog tab 15 [] (.bool r):=by
 unfold q9v at a;refine Qz Tryz.func15 J qh qh J<|qd<|qb J<|qs<|q8 a fun s h2 a=>Qa (qh7 0 0 2 3 s h2) J<|q8 a fun t h4 a=>Qa (qze s 1 5 t h4) J<|U J<|O _ J<|O _ J<|qb J<|qb J<|qs<|U J<|q8 a fun r5 h6 a=>Qa (qpj t.1 r5 h6) J<|U J<|O _ J<|O _ J<|qb J<|qb J<|qs<|q8 a fun n h8 a=>Qa (qh7 0 0 2 2 n h8) J<|O _ J<|q8 a fun o bn a=>Qa (qh7 0 0 1 1 o bn) J<|O _ J<|qed (es:=2) ([({Region:=n,Height:=1} : Kk),({Region:=o,Height:=2} : Kk)].map Jv) J J J J J<|q8 a fun p bo a=>Qa (qzg [({Region:=n,Height:=1} : Kk),({Region:=o,Height:=2} : Kk)] 0 p bo) J<|U J<|O _ J<|O _ J<|qb J<|qb J<|qs<|U J<|q8 a fun bp bq a=>?_;refine Qa (qpj p.1 bp bq) J<|U J<|O _ J<|O _ J<|qb J<|qb J<|qs<|U J<|q8 a fun q br a=>Qa (qz9 p.1 0 0 q br) J<|U J<|O _ J<|O _ J<|qb J<|qb J<|qs<|q8 a fun u bs a=>Qa (quy u bs) J<|q8 a fun bt bu a=>Qa (qzb u bt bu) J<|U J<|O _ J<|O _ J<|Qu J J<|Q8 1 _ J<|qb J<|qs<|U J<|O _ J<|q8 a fun bv b a=>?_;refine Qd 4 (fun A st=>∃ v w x,st = A [(53,Q3 bv),(52,x),(51,w),(50,v)]) ?_ ?_
 ·refine Qc J J b (fun b=>?_) (fun b=>?_)
  ·refine U J<|O _ J<|O _ J<|q9 ?_;cases b;exact ⟨_,_,_,J⟩
  refine qc J<|qc J<|O _ J<|q9 ?_;cases b;exact ⟨_,_,_,J⟩
 rintro _ ⟨v,w,x,rfl⟩;refine q8 a fun bw c a=>?_;refine Qd 4 (fun A st=>∃ y z aa,st = A [(57,Q3 bw),(56,aa),(55,z),(54,y)]) ?_ ?_
 ·refine Qc J J c (fun c=>?_) (fun c=>?_)
  ·refine U J<|O _ J<|O _ J<|q9 ?_;cases c;exact ⟨_,_,_,J⟩
  refine qc J<|qc J<|O _ J<|q9 ?_;cases c;exact ⟨_,_,_,J⟩
 rintro _ ⟨y,z,aa,rfl⟩;refine q8 a fun bz f a=>?_;refine Qd 4 (fun A st=>∃ ab ac ad,st = A [(61,Q3 bz),(60,ad),(59,ac),(58,ab)]) ?_ ?_
 ·refine Qc J J f (fun f=>?_) (fun f=>?_)
  ·refine U J<|O _ J<|O _ J<|q9 ?_;cases f;exact ⟨_,_,_,J⟩
  refine qc J<|qc J<|O _ J<|q9 ?_;cases f;exact ⟨_,_,_,J⟩
 rintro _ ⟨ab,ac,ad,rfl⟩;refine q8 a fun ca g a=>?_;refine Qd 4 (fun A st=>∃ ae af ag,st = A [(65,Q3 ca),(64,ag),(63,af),(62,ae)]) ?_ ?_
 ·refine Qc J J g (fun g=>?_) (fun g=>?_)
  ·refine U J<|O _ J<|O _ J<|q9 ?_;cases g;exact ⟨_,_,_,J⟩
  refine qc J<|qc J<|O _ J<|q9 ?_;cases g;exact ⟨_,_,_,J⟩
 rintro _ ⟨ae,af,ag,rfl⟩;refine q8 a fun cb h a=>?_;refine Qd 4 (fun A st=>∃ ah ai aj,st = A [(69,Q3 cb),(68,aj),(67,ai),(66,ah)]) ?_ ?_
 ·refine Qc J J h (fun h=>?_) (fun h=>?_)
  ·refine U J<|O _ J<|O _ J<|q9 ?_;cases h;exact ⟨_,_,_,J⟩
  refine qc J<|qc J<|O _ J<|q9 ?_;cases h;exact ⟨_,_,_,J⟩
 rintro _ ⟨ah,ai,aj,rfl⟩;refine q8 a fun cc j a=>?_;refine Qd 4 (fun A st=>∃ ak al am,st = A [(73,Q3 cc),(72,am),(71,al),(70,ak)]) ?_ ?_
 ·refine Qc J J j (fun j=>?_) (fun j=>?_)
  ·refine U J<|O _ J<|O _ J<|q9 ?_;cases j;exact ⟨_,_,_,J⟩
  refine qc J<|qc J<|O _ J<|q9 ?_;cases j;exact ⟨_,_,_,J⟩
 rintro _ ⟨ak,al,am,rfl⟩;refine Qc J J a (fun a=>?_) (fun a=>?_)
 ·refine U J<|O _ J<|Qw _ _ J<|q8 a fun cd ce a=>q2t [.d (.sl 2 (q.1.map Qj)),.hs 2 2 0 [({Lo:=0,Hi:=3} : ql)].length] (qo4 q.1 [({Lo:=0,Hi:=3} : ql)] cd ce) J J (Za J (Za (Yz J J) J)) (.inr J)<|O _ J<|q8 a fun cf k a=>?_;refine Qd 4 (fun A st=>∃ an ao ap,st = A [(83,Q3 cf),(82,ap),(81,ao),(80,an)]) ?_ ?_
  ·refine Qc J J k (fun k=>?_) (fun k=>?_)
   ·refine U J<|O _ J<|O _ J<|q9 ?_;cases k;exact ⟨_,_,_,J⟩
   refine qc J<|qc J<|O _ J<|q9 ?_;cases k;exact ⟨_,_,_,J⟩
  rintro _ ⟨an,ao,ap,rfl⟩;refine qb J<|qs<|U J<|q8 a fun cg l a=>?_;refine Qd 9 (fun A st=>∃ aq ar au av aw ax ay az,st = A [(93,Q3 cg),(92,az),(91,ay),(90,ax),(89,aw),(88,av),(87,au),(86,ar),(85,aq)]) ?_ ?_
  ·refine Qc J J l (fun l=>?_) (fun l=>?_)
   ·refine O _ J<|O _ J<|O _ J<|O _ J<|O _ J<|O _ J<|O _ J<|O _ J<|q9 ?_;cases l;exact ⟨_,_,_,_,_,_,_,_,J⟩
   refine qc J<|qc J<|qc J<|qc J<|qc J<|qc J<|qc J<|O _ J<|q9 ?_;cases l;exact ⟨_,_,_,_,_,_,_,_,J⟩
  rintro _ ⟨aq,ar,au,av,aw,ax,ay,az,rfl⟩;refine q8 a fun ch m a=>?_;refine Qd 9 (fun A st=>∃ ba bb bc bd be bf bg bh,st = A [(102,Q3 ch),(101,bh),(100,bg),(99,bf),(98,be),(97,bd),(96,bc),(95,bb),(94,ba)]) ?_ ?_
  ·refine Qc J J m (fun m=>?_) (fun m=>?_)
   ·refine O _ J<|O _ J<|O _ J<|O _ J<|O _ J<|O _ J<|O _ J<|O _ J<|q9 ?_;cases m;exact ⟨_,_,_,_,_,_,_,_,J⟩
   refine qc J<|qc J<|qc J<|qc J<|qc J<|qc J<|qc J<|O _ J<|q9 ?_;cases m;exact ⟨_,_,_,_,_,_,_,_,J⟩
  rintro _ ⟨ba,bb,bc,bd,be,bf,bg,bh,rfl⟩;refine qb J<|qw ?_;cases a;exact Qe _ J
 refine qc J<|qc J<|qc J<|qc J<|O _ J<|U J<|qc J<|qc J<|O _ J<|qb J<|qs<|U J<|U J<|qc J<|qc J<|qc J<|qc J<|qc J<|qc J<|qc J<|O _ J<|U J<|qc J<|qc J<|qc J<|qc J<|qc J<|qc J<|qc J<|O _ J<|qb J<|qw ?_;cases a;exact Qe _ J
theorem qo8 (h : Q0) (j : Int) (r : Bool) (a : q71 h j = some r) : Pure Tryz.prog tab 85 [.agg (Yv h),qa j] (.bool r):=by
 unfold q71 at a;refine Qz Tryz.func85 J qh qh J<|qd<|Qw _ _ J<|qb J<|qs<|O _ J<|O _ J<|U J<|O _ J<|q8 a fun c1 b a=>?_;refine Qd 6 (fun A st=>∃ k l m n o,st = A [(14,Q3 c1),(13,o),(12,n),(11,m),(10,l),(9,k)]) ?_ ?_
 ·refine Qc J J b (fun b=>?_) (fun b=>?_)
  ·refine O _ J<|O _ J<|U J<|O _ J<|O _ J<|q9 ?_;cases b;exact ⟨_,_,_,_,_,J⟩
  refine qc J<|qc J<|qc J<|qc J<|O _ J<|q9 ?_;cases b;exact ⟨_,_,_,_,_,J⟩
 rintro _ ⟨k,l,m,n,o,rfl⟩;refine q8 a fun c8 c a=>?_;refine Qd 6 (fun A st=>∃ p q s t u,st = A [(20,Q3 c8),(19,u),(18,t),(17,s),(16,q),(15,p)]) ?_ ?_
 ·refine Qc J J c (fun c=>?_) (fun c=>?_)
  ·refine O _ J<|O _ J<|U J<|O _ J<|O _ J<|q9 ?_;cases c;exact ⟨_,_,_,_,_,J⟩
  refine qc J<|qc J<|qc J<|qc J<|O _ J<|q9 ?_;cases c;exact ⟨_,_,_,_,_,J⟩
 rintro _ ⟨p,q,s,t,u,rfl⟩;refine q8 a fun aj d a=>?_;refine Qd 5 (fun A st=>∃ v w x y,st = A [(25,Q3 aj),(24,y),(23,x),(22,w),(21,v)]) ?_ ?_
 ·refine Qc J J d (fun d=>?_) (fun d=>?_)
  ·refine O _ J<|O _ J<|O _ J<|O _ J<|q9 ?_;cases d;exact ⟨_,_,_,_,J⟩
  refine qc J<|qc J<|qc J<|O _ J<|q9 ?_;cases d;exact ⟨_,_,_,_,J⟩
 rintro _ ⟨v,w,x,y,rfl⟩;refine q8 a fun ak f a=>?_;refine Qd 5 (fun A st=>∃ z aa ab ac,st = A [(30,Q3 ak),(29,ac),(28,ab),(27,aa),(26,z)]) ?_ ?_
 ·refine Qc J J f (fun f=>?_) (fun f=>?_)
  ·refine O _ J<|O _ J<|O _ J<|O _ J<|q9 ?_;cases f;exact ⟨_,_,_,_,J⟩
  refine qc J<|qc J<|qc J<|O _ J<|q9 ?_;cases f;exact ⟨_,_,_,_,J⟩
 rintro _ ⟨z,aa,ab,ac,rfl⟩;refine q8 a fun al g a=>?_;refine Qd 5 (fun A st=>∃ ad ae af ag,st = A [(35,Q3 al),(34,ag),(33,af),(32,ae),(31,ad)]) ?_ ?_
 ·refine Qc J J g (fun g=>?_) (fun g=>?_)
  ·refine O _ J<|O _ J<|O _ J<|O _ J<|q9 ?_;cases g;exact ⟨_,_,_,_,J⟩
  refine qc J<|qc J<|qc J<|O _ J<|q9 ?_;cases g;exact ⟨_,_,_,_,J⟩
 rintro _ ⟨ad,ae,af,ag,rfl⟩;refine qb J<|qw ?_;cases a;exact Qe _ J
theorem qz6 (g : qk) (r : Bool) (a : qah g = some r) : Pure Tryz.prog tab 46 [.agg (Qi g)] (.bool r):=by
 unfold qah at a;refine Qz Tryz.func46 J qh qh J<|qd<|Qw _ _ J<|qb J<|qs<|O _ J<|O _ J<|q8 a fun r1 h2 a=>Qa (qo8 g.Lo (-1000000) r1 h2) J<|q8 a fun c5 b a=>?_;refine Qd 5 (fun A st=>∃ h j k l,st = A [(11,Q3 c5),(10,l),(9,k),(8,j),(7,h)]) ?_ ?_
 ·refine Qc J J b (fun b=>?_) (fun b=>?_)
  ·refine O _ J<|O _ J<|q8 b fun ao ap b=>Qa (qo8 g.Hi (-1000000) ao ap) J<|O _ J<|q9 ?_;cases b;exact ⟨_,_,_,_,J⟩
  refine qc J<|qc J<|qc J<|O _ J<|q9 ?_;cases b;exact ⟨_,_,_,_,J⟩
 rintro _ ⟨h,j,k,l,rfl⟩;refine qb J<|qs<|U J<|q8 a fun aq c a=>?_;refine Qd 9 (fun A st=>∃ m n o p q s t u,st = A [(21,Q3 aq),(20,u),(19,t),(18,s),(17,q),(16,p),(15,o),(14,n),(13,m)]) ?_ ?_
 ·refine Qc J J c (fun c=>?_) (fun c=>?_)
  ·refine O _ J<|O _ J<|O _ J<|O _ J<|O _ J<|O _ J<|O _ J<|O _ J<|q9 ?_;cases c;exact ⟨_,_,_,_,_,_,_,_,J⟩
  refine qc J<|qc J<|qc J<|qc J<|qc J<|qc J<|qc J<|O _ J<|q9 ?_;cases c;exact ⟨_,_,_,_,_,_,_,_,J⟩
 rintro _ ⟨m,n,o,p,q,s,t,u,rfl⟩;refine q8 a fun ar d a=>?_;refine Qd 9 (fun A st=>∃ v w x y z aa ab ac,st = A [(30,Q3 ar),(29,ac),(28,ab),(27,aa),(26,z),(25,y),(24,x),(23,w),(22,v)]) ?_ ?_
 ·refine Qc J J d (fun d=>?_) (fun d=>?_)
  ·refine O _ J<|O _ J<|O _ J<|O _ J<|O _ J<|O _ J<|O _ J<|O _ J<|q9 ?_;cases d;exact ⟨_,_,_,_,_,_,_,_,J⟩
  refine qc J<|qc J<|qc J<|qc J<|qc J<|qc J<|qc J<|O _ J<|q9 ?_;cases d;exact ⟨_,_,_,_,_,_,_,_,J⟩
 rintro _ ⟨v,w,x,y,z,aa,ab,ac,rfl⟩;refine q8 a fun au f a=>?_;refine Qd 9 (fun A st=>∃ ad ae af ag ah ai aj ak,st = A [(39,Q3 au),(38,ak),(37,aj),(36,ai),(35,ah),(34,ag),(33,af),(32,ae),(31,ad)]) ?_ ?_
 ·refine Qc J J f (fun f=>?_) (fun f=>?_)
  ·refine O _ J<|O _ J<|O _ J<|O _ J<|O _ J<|O _ J<|O _ J<|O _ J<|q9 ?_;cases f;exact ⟨_,_,_,_,_,_,_,_,J⟩
  refine qc J<|qc J<|qc J<|qc J<|qc J<|qc J<|qc J<|O _ J<|q9 ?_;cases f;exact ⟨_,_,_,_,_,_,_,_,J⟩
 rintro _ ⟨ad,ae,af,ag,ah,ai,aj,ak,rfl⟩;refine qb J<|qw ?_;cases a;exact Qe _ J
theorem qi0 (g : List Int) (r : List Int) (n : Uv g = some r) : Pure Tryz.prog tab 102 [.sl 1 (g.map (eI .i64))] (.sl 1 (r.map (eI .i64))):=by
 unfold Uv at n;refine Qz Tryz.func102 J qh qh J<|qd<|qb J<|qs<|qb J<|q9<|qe<|qd<|qb J<|q9<|q8 n fun s bb n=>?_;refine Qq (fun l=>l = s) (fun l=>⟨[(3,.hs 0 1 0 l.length)],[(0,.dat 1 (l.map (eI .i64)))],1⟩) qg ?_ ?_
 ·refine Qg (q4z g) (fun b=>⟨[(0,.d (.sl 1 (g.map (eI .i64)))),(3,.hs 0 1 0 b.2.length),(4,q7 b.1)],[(0,.dat 1 (b.2.map (eI .i64)))],1⟩) _ s bb (wkA [] [] [0]) ?_;intro b bk h;unfold q4z at h;refine qe<|qd<|U J<|U J<|K1 J<|O _ J<|q9 ?_;refine qo J h (fun _ h=>?_) (fun _ h=>?_)
  ·refine qm<|qe<|q8 h fun bc a h=>?_;refine Qq (fun m=>m = bc) (fun m=>⟨[(0,.d (.sl 1 (g.map (eI .i64)))),(3,.hs 0 1 0 m.length),(4,q7 b.1)],[(0,.dat 1 (m.map (eI .i64)))],1⟩) qg ?_ ?_
   ·refine qd<|U J<|O _ J<|qb J<|q9<|qe<|q8 a fun t bd a=>?_;refine Qq (fun o=>o = t) (fun o=>⟨[(0,.d (.sl 1 (g.map (eI .i64)))),(3,.hs 0 1 0 b.2.length),(4,q7 b.1),(5,q7 o)],[(0,.dat 1 (b.2.map (eI .i64)))],1⟩) qg ?_ ?_
    ·refine Qg (q50 b g) (fun u=>⟨[(0,.d (.sl 1 (g.map (eI .i64)))),(3,.hs 0 1 0 b.2.length),(4,q7 b.1),(5,q7 u)],[(0,.dat 1 (b.2.map (eI .i64)))],1⟩) _ t bd (wkA [(0,0)] [] []) ?_;intro u bl j;unfold q50 at j;refine qe<|qe<|Qb [q0,q0,q0,q0,q0,q0,qq 0,q0,q0,q0,q0,q0,q0,q0] qh<|U J<|O _ J<|q8 j fun be c j=>?_;refine Qd 12 (fun A st=>∃ v x y z aa ab ac ad ae af ag,st = A [(27,Q3 be),(26,ag),(25,af),(24,ae),(23,ad),(22,ac),(21,ab),(20,aa),(19,z),(18,y),(17,x),(16,v)]) ?_ ?_
     ·refine Qc J J c (fun c=>?_) (fun c=>?_)
      ·refine U J<|U J<|O _ J<|q8 c fun bm ah c=>qt ah J J<|Q7 _ ah J<|U J<|U J<|q8 c fun bn bf c=>Ql bf J<|O _ J<|O _ J<|O _ J<|q9 ?_;cases c;exact ⟨_,_,_,_,_,_,_,_,_,_,_,J⟩
      refine qc J<|qc J<|qc J<|qc J<|qc J<|qc J<|qc J<|qc J<|qc J<|qc J<|O _ J<|q9 ?_;cases c;exact ⟨_,_,_,_,_,_,_,_,_,_,_,J⟩
     rintro _ ⟨v,x,y,z,aa,ab,ac,ad,ae,af,ag,rfl⟩;refine q9 ?_;refine qo J j (fun _ j=>?_) (fun _ j=>?_)
     ·refine qm<|Q6<|qz<|U J<|O _ J<|qb J<|qx<|Qp<|Qh<|⟨_,qp j,wkA [(0,0)] [] []⟩
     refine Q9 ?_;refine ⟨_,qp j,fun hm=>?_⟩;subst hm;exact ⟨_,J,wkA [(0,0)] [] []⟩
    intro o hb;subst hb;refine qe<|qe<|Qb [q0,q0,q0,q0,q0,q0,qq 0,q0,q0,q0,q0,q0,q0,q0] qh<|U J<|O _ J<|q8 a fun bg f a=>?_;refine Qd 12 (fun A st=>∃ ai aj ak al am an ao ap aq ar au,st = A [(43,Q3 bg),(42,au),(41,ar),(40,aq),(39,ap),(38,ao),(37,an),(36,am),(35,al),(34,ak),(33,aj),(32,ai)]) ?_ ?_
    ·refine Qc J J f (fun f=>?_) (fun f=>?_)
     ·refine U J<|U J<|O _ J<|q8 f fun bo av f=>qt av J J<|Q7 _ av J<|U J<|U J<|q8 f fun bp bh f=>Ql bh J<|O _ J<|O _ J<|O _ J<|q9 ?_;cases f;exact ⟨_,_,_,_,_,_,_,_,_,_,_,J⟩
     refine qc J<|qc J<|qc J<|qc J<|qc J<|qc J<|qc J<|qc J<|qc J<|qc J<|O _ J<|q9 ?_;cases f;exact ⟨_,_,_,_,_,_,_,_,_,_,_,J⟩
    rintro _ ⟨ai,aj,ak,al,am,an,ao,ap,aq,ar,au,rfl⟩;refine q9 ?_;refine qo J a (fun _ a=>?_) (fun _ a=>?_)
    ·refine Q9 ?_;obtain rfl:=qr a;exact ⟨_,J,wkA [(0,0)] [] []⟩
    refine qm<|qd<|U J<|Qw _ _ J<|q8 a fun p bi a=>Kq _ bi J J J J J J J (Ko J J) J J J J<|qb J<|q9<|qe<|Qb [Qo 2,q0,q0,q0,q0,q0,q0,q0] qh<|U J<|U J<|O _ J<|q8 a fun aw q a=>q4t q J J J J J (q47 J) (fun _=>rfl)<|U J<|U J<|q8 a fun k ax a=>q4t ax J J J J J (q47 J) (fun _=>rfl)<|qx8 (w:=aw) (xs:=p) (ys:=(p.drop k.1).take k.2) (enc:=(eI .i64)) (.hs 2 1 k.1 k.2) (q66 q) J J J J J J (qst (q66 ax) J) J J J J ?_;have ay:=@qkn _ p ((p.drop k.1).take k.2) aw (q66 q);refine q9<|qz<|U J<|U J<|U J<|U J<|q8 a fun az bj a=>Ql bj J<|O _ J<|q8 a fun bq ba a=>qt ba (by simp [ay]) J<|Qx (ds:=[qa az]) az ba J J J J J J J J (leb J) J<|qx ?_;obtain rfl:=qr a;exact ⟨_,J,wkE [(0,2)] [] [] J ⟨qi J,⟨_,J,K2 (by simp [ay]) J qy (ltd J)⟩,qi J,trivial⟩ ⟨Qf J J,trivial⟩⟩
   intro m hb;subst hb;refine qz<|U J<|O _ J<|qb J<|qx<|⟨_,qp h,wkA [(0,0)] [] []⟩
  refine Q9 ?_;refine ⟨_,qp h,fun hm=>?_⟩;subst hm;exact ⟨_,J,wkA [(0,0)] [] []⟩
 intro l hb;subst hb;refine qd<|U J<|qb J<|qw ?_;obtain rfl:=qr n;exact finD (.inr J) J (Yz J J) (.refl _)
theorem qz0 (j : List qk) (g : List qk) (r : List Int) (c : qag j g = some r) : Pure Tryz.prog tab 62 [.sl 6 (j.map Qi),.sl 6 (g.map Qi)] (.sl 1 (r.map (eI .i64))):=by
 unfold qag at c;refine Qz Tryz.func62 J qh qh J<|qd<|qb J<|qs<|qb J<|q9<|qe<|qd<|qb J<|q9<|q8 c fun m o c=>?_;refine Qq (fun h=>h = m) (fun h=>⟨[(1,.d (.sl 6 (g.map Qi))),(5,.hs 0 1 0 h.length)],[(0,.dat 1 (h.map (eI .i64)))],1⟩) qg ?_ ?_
 ·refine Qg (q57 j) (fun k=>⟨[(0,.d (.sl 6 (j.map Qi))),(1,.d (.sl 6 (g.map Qi))),(5,.hs 0 1 0 k.2.length),(6,q7 k.1)],[(0,.dat 1 (k.2.map (eI .i64)))],1⟩) _ m o (wkA [] [] [0]) ?_;intro k z a;unfold q57 at a;refine qe<|qd<|U J<|U J<|K1 J<|O _ J<|q9 ?_;refine qo J a (fun _ a=>?_) (fun _ a=>?_)
  ·refine qm<|qe<|Q6<|Qb [q0,(some [0,1],[0,2]),(some [],[1]),q0,q0,q0,q0,q0,q0,q0,q0,q0,q0,q0,q0,q0] qh<|U J<|U J<|U J<|q8 a fun aa p a=>Ql p J<|O _ J<|O _ J<|O _ J<|U J<|U J<|q8 a fun ab q a=>Ql q J<|O _ J<|O _ J<|O _ J<|Qw _ _ J<|q8 a fun ac s a=>Kq _ s J J J J J J J (Ko J J) J J J J<|qb J<|qx<|Qp<|qz<|U J<|O _ J<|qb J<|qx<|⟨_,qp a,wkA [(0,2)] [] []⟩
  refine Q9 ?_;refine ⟨_,qp a,fun hm=>?_⟩;subst hm;exact ⟨_,J,wkA [(0,0)] [] []⟩
 intro h hb;subst hb;refine qe<|qd<|qb J<|q9<|q8 c fun n t c=>?_;refine Qq (fun f=>f = n) (fun f=>⟨[(5,.hs 0 1 0 f.length)],[(0,.dat 1 (f.map (eI .i64)))],1⟩) qg ?_ ?_
 ·refine Qg (q58 g) (fun l=>⟨[(1,.d (.sl 6 (g.map Qi))),(5,.hs 0 1 0 l.2.length),(7,q7 l.1)],[(0,.dat 1 (l.2.map (eI .i64)))],1⟩) _ n t (wkA [(0,0)] [] []) ?_;intro l ad b;unfold q58 at b;refine qe<|qd<|U J<|U J<|K1 J<|O _ J<|q9 ?_;refine qo J b (fun _ b=>?_) (fun _ b=>?_)
  ·refine qm<|qe<|Q6<|Qb [q0,(some [0,1],[0,2]),(some [],[1]),q0,q0,q0,q0,q0,q0,q0,q0,q0,q0,q0,q0,q0] qh<|U J<|U J<|U J<|q8 b fun ae u b=>Ql u J<|O _ J<|O _ J<|O _ J<|U J<|U J<|q8 b fun af v b=>Ql v J<|O _ J<|O _ J<|O _ J<|Qw _ _ J<|q8 b fun ag w b=>Kq _ w J J J J J J J (Ko J J) J J J J<|qb J<|qx<|Qp<|qz<|U J<|O _ J<|qb J<|qx<|⟨_,qp b,wkA [(0,2)] [] []⟩
  refine Q9 ?_;refine ⟨_,qp b,fun hm=>?_⟩;subst hm;exact ⟨_,J,wkA [(0,0)] [] []⟩
 intro f hb;subst hb;refine qe ?_;refine Yb (st':=⟨[(5,.d (.sl 1 (f.map (eI .i64))))],[],0⟩) (wkA [] [0] []) ?_ qg;refine qz<|U J<|q8 c fun x y c=>Qa (qi0 f x y) J<|qb J<|qw ?_;cases c;exact Qe _ J
theorem qeo (f : List qk) (g : Int) (r : List qf) (l : Uw f g = some r) : Pure Tryz.prog tab 66 [.sl 6 (f.map Qi),qa g] (.sl 4 (r.map qj)):=by
 unfold Uw at l;refine Qz Tryz.func66 J qh qh J<|qd<|qb J<|qs<|qb J<|q9<|qe<|qd<|qb J<|q9<|q8 l fun m x l=>?_;refine Qq (fun h=>h = m) (fun h=>⟨[(5,.hs 0 4 0 h.length)],[(0,.dat 4 (h.map qj))],1⟩) qg ?_ ?_
 ·refine Qg (q72 f g) (fun j=>⟨[(0,.d (.sl 6 (f.map Qi))),(1,q7 g),(5,.hs 0 4 0 j.2.length),(6,q7 j.1)],[(0,.dat 4 (j.2.map qj))],1⟩) _ m x (wkA [] [] [0]) ?_;intro j ah b;unfold q72 at b;refine qe<|qd<|U J<|U J<|K1 J<|O _ J<|q9 ?_;refine qo J b (fun _ b=>?_) (fun _ b=>?_)
  ·refine qm<|qe<|q8 b fun y a b=>?_;refine Qq (fun k=>k = y) (fun k=>⟨[(0,.d (.sl 6 (f.map Qi))),(1,q7 g),(5,.hs 0 4 0 k.length),(6,q7 j.1)],[(0,.dat 4 (k.map qj))],1⟩) qg ?_ ?_
   ·refine qd<|U J<|U J<|q8 a fun ai z a=>Ql z J<|O _ J<|O _ J<|O _ J<|U J<|O _ J<|q8 a fun aa c a=>?_;refine Qd 10 (fun A st=>∃ n o p q s t u v w,st = A [(30,Q3 aa),(29,w),(28,v),(27,u),(26,t),(25,s),(24,q),(23,p),(22,o),(21,n)]) ?_ ?_
    ·refine Qc J J c (fun c=>?_) (fun c=>?_)
     ·refine U J<|U J<|U J<|q8 c fun aj ab c=>Ql ab J<|O _ J<|O _ J<|O _ J<|O _ J<|O _ J<|q9 ?_;cases c;exact ⟨_,_,_,_,_,_,_,_,_,J⟩
     refine qc J<|qc J<|qc J<|qc J<|qc J<|qc J<|qc J<|qc J<|O _ J<|q9 ?_;cases c;exact ⟨_,_,_,_,_,_,_,_,_,J⟩
    rintro _ ⟨n,o,p,q,s,t,u,v,w,rfl⟩;refine q9 ?_;refine qo J a (fun _ a=>?_) (fun _ a=>?_)
    ·refine Qb [q0,(some [0,1],[0,2]),(some [],[1]),q0,q0,q0,q0,q0,q0,q0,q0,q0,q0,q0,q0,q0,q0,q0,q0,q0,q0,q0,q0,q0,q0,q0,q0,q0,q0] qh<|U J<|U J<|U J<|q8 a fun ak ac a=>Ql ac J<|O _ J<|O _ J<|O _ J<|U J<|U J<|q8 a fun al ad a=>Ql ad J<|O _ J<|O _ J<|O _ J<|U J<|U J<|q8 a fun am ae a=>Ql ae J<|O _ J<|O _ J<|O _ J<|U J<|U J<|q8 a fun an af a=>Ql af J<|O _ J<|O _ J<|O _ J<|O _ J<|Qw _ _ J<|q8 a fun ao ag a=>Kq _ ag J J J J J J J (Ko J J) J J J J<|qb J<|qx ?_;obtain rfl:=qr a;exact ⟨_,J,wkA [(0,2)] [] []⟩
    refine qm<|Qh ?_;obtain rfl:=qr a;exact ⟨_,J,wkA [(0,0)] [] []⟩
   intro k hb;subst hb;refine qz<|U J<|O _ J<|qb J<|qx<|⟨_,qp b,wkA [(0,0)] [] []⟩
  refine Q9 ?_;refine ⟨_,qp b,fun hm=>?_⟩;subst hm;exact ⟨_,J,wkA [(0,0)] [] []⟩
 intro h hb;subst hb;refine qd<|U J<|qb J<|qw ?_;obtain rfl:=qr l;exact finD (.inr J) J (Yz J J) (.refl _)
theorem qyu (j : List qf) (g : List qf) (r : List Int) (c : qae j g = some r) : Pure Tryz.prog tab 115 [.sl 4 (j.map qj),.sl 4 (g.map qj)] (.sl 1 (r.map (eI .i64))):=by
 unfold qae at c;refine Qz Tryz.func115 J qh qh J<|qd<|qb J<|qs<|qb J<|q9<|qe<|qd<|qb J<|q9<|q8 c fun m o c=>?_;refine Qq (fun h=>h = m) (fun h=>⟨[(1,.d (.sl 4 (g.map qj))),(5,.hs 0 1 0 h.length)],[(0,.dat 1 (h.map (eI .i64)))],1⟩) qg ?_ ?_
 ·refine Qg (q53 j) (fun k=>⟨[(0,.d (.sl 4 (j.map qj))),(1,.d (.sl 4 (g.map qj))),(5,.hs 0 1 0 k.2.length),(6,q7 k.1)],[(0,.dat 1 (k.2.map (eI .i64)))],1⟩) _ m o (wkA [] [] [0]) ?_;intro k z a;unfold q53 at a;refine qe<|qd<|U J<|U J<|K1 J<|O _ J<|q9 ?_;refine qo J a (fun _ a=>?_) (fun _ a=>?_)
  ·refine qm<|qe<|Q6<|Qb [q0,(some [0,1],[0,2]),(some [],[1]),q0,q0,q0,q0,q0,q0,q0,q0,q0,q0,q0] qh<|U J<|U J<|U J<|q8 a fun aa p a=>Ql p J<|O _ J<|O _ J<|U J<|U J<|q8 a fun ab q a=>Ql q J<|O _ J<|O _ J<|Qw _ _ J<|q8 a fun ac s a=>Kq _ s J J J J J J J (Ko J J) J J J J<|qb J<|qx<|Qp<|qz<|U J<|O _ J<|qb J<|qx<|⟨_,qp a,wkA [(0,2)] [] []⟩
  refine Q9 ?_;refine ⟨_,qp a,fun hm=>?_⟩;subst hm;exact ⟨_,J,wkA [(0,0)] [] []⟩
 intro h hb;subst hb;refine qe<|qd<|qb J<|q9<|q8 c fun n t c=>?_;refine Qq (fun f=>f = n) (fun f=>⟨[(5,.hs 0 1 0 f.length)],[(0,.dat 1 (f.map (eI .i64)))],1⟩) qg ?_ ?_
 ·refine Qg (q54 g) (fun l=>⟨[(1,.d (.sl 4 (g.map qj))),(5,.hs 0 1 0 l.2.length),(7,q7 l.1)],[(0,.dat 1 (l.2.map (eI .i64)))],1⟩) _ n t (wkA [(0,0)] [] []) ?_;intro l ad b;unfold q54 at b;refine qe<|qd<|U J<|U J<|K1 J<|O _ J<|q9 ?_;refine qo J b (fun _ b=>?_) (fun _ b=>?_)
  ·refine qm<|qe<|Q6<|Qb [q0,(some [0,1],[0,2]),(some [],[1]),q0,q0,q0,q0,q0,q0,q0,q0,q0,q0,q0] qh<|U J<|U J<|U J<|q8 b fun ae u b=>Ql u J<|O _ J<|O _ J<|U J<|U J<|q8 b fun af v b=>Ql v J<|O _ J<|O _ J<|Qw _ _ J<|q8 b fun ag w b=>Kq _ w J J J J J J J (Ko J J) J J J J<|qb J<|qx<|Qp<|qz<|U J<|O _ J<|qb J<|qx<|⟨_,qp b,wkA [(0,2)] [] []⟩
  refine Q9 ?_;refine ⟨_,qp b,fun hm=>?_⟩;subst hm;exact ⟨_,J,wkA [(0,0)] [] []⟩
 intro f hb;subst hb;refine qe ?_;refine Yb (st':=⟨[(5,.d (.sl 1 (f.map (eI .i64))))],[],0⟩) (wkA [] [0] []) ?_ qg;refine qz<|U J<|q8 c fun x y c=>Qa (qi0 f x y) J<|qb J<|qw ?_;cases c;exact Qe _ J
theorem qyw (j : List qf) (g : List qf) (r : List Int) (c : qaf j g = some r) : Pure Tryz.prog tab 116 [.sl 4 (j.map qj),.sl 4 (g.map qj)] (.sl 1 (r.map (eI .i64))):=by
 unfold qaf at c;refine Qz Tryz.func116 J qh qh J<|qd<|qb J<|qs<|qb J<|q9<|qe<|qd<|qb J<|q9<|q8 c fun m o c=>?_;refine Qq (fun h=>h = m) (fun h=>⟨[(1,.d (.sl 4 (g.map qj))),(5,.hs 0 1 0 h.length)],[(0,.dat 1 (h.map (eI .i64)))],1⟩) qg ?_ ?_
 ·refine Qg (q55 j) (fun k=>⟨[(0,.d (.sl 4 (j.map qj))),(1,.d (.sl 4 (g.map qj))),(5,.hs 0 1 0 k.2.length),(6,q7 k.1)],[(0,.dat 1 (k.2.map (eI .i64)))],1⟩) _ m o (wkA [] [] [0]) ?_;intro k z a;unfold q55 at a;refine qe<|qd<|U J<|U J<|K1 J<|O _ J<|q9 ?_;refine qo J a (fun _ a=>?_) (fun _ a=>?_)
  ·refine qm<|qe<|Q6<|Qb [q0,(some [0,1],[0,2]),(some [],[1]),q0,q0,q0,q0,q0,q0,q0,q0,q0,q0,q0] qh<|U J<|U J<|U J<|q8 a fun aa p a=>Ql p J<|O _ J<|O _ J<|U J<|U J<|q8 a fun ab q a=>Ql q J<|O _ J<|O _ J<|Qw _ _ J<|q8 a fun ac s a=>Kq _ s J J J J J J J (Ko J J) J J J J<|qb J<|qx<|Qp<|qz<|U J<|O _ J<|qb J<|qx<|⟨_,qp a,wkA [(0,2)] [] []⟩
  refine Q9 ?_;refine ⟨_,qp a,fun hm=>?_⟩;subst hm;exact ⟨_,J,wkA [(0,0)] [] []⟩
 intro h hb;subst hb;refine qe<|qd<|qb J<|q9<|q8 c fun n t c=>?_;refine Qq (fun f=>f = n) (fun f=>⟨[(5,.hs 0 1 0 f.length)],[(0,.dat 1 (f.map (eI .i64)))],1⟩) qg ?_ ?_
 ·refine Qg (q56 g) (fun l=>⟨[(1,.d (.sl 4 (g.map qj))),(5,.hs 0 1 0 l.2.length),(7,q7 l.1)],[(0,.dat 1 (l.2.map (eI .i64)))],1⟩) _ n t (wkA [(0,0)] [] []) ?_;intro l ad b;unfold q56 at b;refine qe<|qd<|U J<|U J<|K1 J<|O _ J<|q9 ?_;refine qo J b (fun _ b=>?_) (fun _ b=>?_)
  ·refine qm<|qe<|Q6<|Qb [q0,(some [0,1],[0,2]),(some [],[1]),q0,q0,q0,q0,q0,q0,q0,q0,q0,q0,q0] qh<|U J<|U J<|U J<|q8 b fun ae u b=>Ql u J<|O _ J<|O _ J<|U J<|U J<|q8 b fun af v b=>Ql v J<|O _ J<|O _ J<|Qw _ _ J<|q8 b fun ag w b=>Kq _ w J J J J J J J (Ko J J) J J J J<|qb J<|qx<|Qp<|qz<|U J<|O _ J<|qb J<|qx<|⟨_,qp b,wkA [(0,2)] [] []⟩
  refine Q9 ?_;refine ⟨_,qp b,fun hm=>?_⟩;subst hm;exact ⟨_,J,wkA [(0,0)] [] []⟩
 intro f hb;subst hb;refine qe ?_;refine Yb (st':=⟨[(5,.d (.sl 1 (f.map (eI .i64))))],[],0⟩) (wkA [] [0] []) ?_ qg;refine qz<|U J<|q8 c fun x y c=>Qa (qi0 f x y) J<|qb J<|qw ?_;cases c;exact Qe _ J
theorem qo7 (h : List qf) (j : Int) (k : Int) (r : Bool) (g : q6x h j k = some r) : Pure Tryz.prog tab 118 [.sl 4 (h.map qj),qa j,qa k] (.bool r):=by
 unfold q6x at g;refine Qz Tryz.func118 J qh qh J<|qd<|qb J<|q9<|qe<|qd<|qb J<|q9<|q8 g fun m an g=>?_;refine Qq (fun l=>.inl l = m) (fun l=>⟨[],[],0⟩) qg ?_ ?_
 ·refine Qg (q3g h j k) (fun n=>⟨[(0,.d (.sl 4 (h.map qj))),(1,q7 j),(2,q7 k),(7,q7 n)],[],0⟩) _ m an (wkA [] [] []) ?_;intro n ax a;unfold q3g at a;refine qe<|qd<|U J<|U J<|K1 J<|O _ J<|q9 ?_;refine qo J a (fun _ a=>?_) (fun _ a=>?_)
  ·refine qm<|qe<|Q6<|qd<|U J<|U J<|q8 a fun ay ao a=>Ql ao J<|O _ J<|O _ J<|U J<|O _ J<|q8 a fun ap b a=>?_;refine Qd 9 (fun A st=>∃ o p q s t u v w,st = A [(29,Q3 ap),(28,w),(27,v),(26,u),(25,t),(24,s),(23,q),(22,p),(21,o)]) ?_ ?_
   ·refine Qc J J b (fun b=>?_) (fun b=>?_)
    ·refine U J<|U J<|U J<|q8 b fun az aq b=>Ql aq J<|O _ J<|O _ J<|O _ J<|O _ J<|q9 ?_;cases b;exact ⟨_,_,_,_,_,_,_,_,J⟩
    refine qc J<|qc J<|qc J<|qc J<|qc J<|qc J<|qc J<|O _ J<|q9 ?_;cases b;exact ⟨_,_,_,_,_,_,_,_,J⟩
   rintro _ ⟨o,p,q,s,t,u,v,w,rfl⟩;refine q8 a fun ar c a=>?_;refine Qd 9 (fun A st=>∃ x y z aa ab ac ad ae,st = A [(38,Q3 ar),(37,ae),(36,ad),(35,ac),(34,ab),(33,aa),(32,z),(31,y),(30,x)]) ?_ ?_
   ·refine Qc J J c (fun c=>?_) (fun c=>?_)
    ·refine U J<|U J<|q8 c fun ba au c=>Ql au J<|O _ J<|O _ J<|U J<|O _ J<|O _ J<|q9 ?_;cases c;exact ⟨_,_,_,_,_,_,_,_,J⟩
    refine qc J<|qc J<|qc J<|qc J<|qc J<|qc J<|qc J<|O _ J<|q9 ?_;cases c;exact ⟨_,_,_,_,_,_,_,_,J⟩
   rintro _ ⟨x,y,z,aa,ab,ac,ad,ae,rfl⟩;refine q8 a fun av f a=>?_;refine Qd 9 (fun A st=>∃ af ag ah ai aj ak al am,st = A [(47,Q3 av),(46,am),(45,al),(44,ak),(43,aj),(42,ai),(41,ah),(40,ag),(39,af)]) ?_ ?_
   ·refine Qc J J f (fun f=>?_) (fun f=>?_)
    ·refine U J<|U J<|U J<|q8 f fun bb aw f=>Ql aw J<|O _ J<|O _ J<|O _ J<|O _ J<|q9 ?_;cases f;exact ⟨_,_,_,_,_,_,_,_,J⟩
    refine qc J<|qc J<|qc J<|qc J<|qc J<|qc J<|qc J<|O _ J<|q9 ?_;cases f;exact ⟨_,_,_,_,_,_,_,_,J⟩
   rintro _ ⟨af,ag,ah,ai,aj,ak,al,am,rfl⟩;refine q9 ?_;refine qo J a (fun _ a=>?_) (fun _ a=>?_)
   ·refine qd<|qb J<|qw ?_;refine ⟨_,qp a,fun hm=>?_⟩;subst hm;cases g;exact Qe _ J
   refine qm<|Qh<|Qp<|qz<|U J<|O _ J<|qb J<|qx<|⟨_,qp a,wkA [] [] []⟩
  refine Q9 ?_;refine ⟨_,qp a,fun hm=>?_⟩;subst hm;exact ⟨_,J,wkA [] [] []⟩
 intro l hb;subst hb;refine qd<|qb J<|qw ?_;cases g;exact Qe _ J
theorem qyp (f : Int) (g : Bool) (h : Bool) (r : Bool) (a : q6w f g h = some r) : Pure Tryz.prog tab 117 [qa f,.bool g,.bool h] (.bool r):=by
 unfold q6w at a;refine Qz Tryz.func117 J qh qh J<|qd<|qb J<|q9<|qe<|qd<|U J<|O _ J<|q9 ?_;refine qo J a (fun _ a=>?_) (fun _ a=>?_)
 ·refine qd<|U J<|q8 a fun q b a=>?_;refine Qd 3 (fun A st=>∃ j k,st = A [(12,Q3 q),(11,k),(10,j)]) ?_ ?_
  ·refine Qc J J b (fun b=>?_) (fun b=>?_)
   ·refine U J<|O _ J<|q9 ?_;cases b;exact ⟨_,_,J⟩
   refine qc J<|O _ J<|q9 ?_;cases b;exact ⟨_,_,J⟩
  rintro _ ⟨j,k,rfl⟩;refine qb J<|qw ?_;cases a;exact Qe _ J
 refine qm<|qe<|qd<|U J<|O _ J<|q9 ?_;refine qo J a (fun _ a=>?_) (fun _ a=>?_)
 ·refine qd<|U J<|q8 a fun s c a=>?_;refine Qd 3 (fun A st=>∃ l m,st = A [(18,Q3 s),(17,m),(16,l)]) ?_ ?_
  ·refine Qc J J c (fun c=>?_) (fun c=>?_)
   ·refine qc J<|O _ J<|q9 ?_;cases c;exact ⟨_,_,J⟩
   refine U J<|O _ J<|q9 ?_;cases c;exact ⟨_,_,J⟩
  rintro _ ⟨l,m,rfl⟩;refine qb J<|qw ?_;cases a;exact Qe _ J
 refine qm<|qd<|U J<|q8 a fun t d a=>?_;refine Qd 4 (fun A st=>∃ n o p,st = A [(23,Q3 t),(22,p),(21,o),(20,n)]) ?_ ?_
 ·refine Qc J J d (fun d=>?_) (fun d=>?_)
  ·refine U J<|O _ J<|O _ J<|q9 ?_;cases d;exact ⟨_,_,_,J⟩
  refine qc J<|qc J<|O _ J<|q9 ?_;cases d;exact ⟨_,_,_,J⟩
 rintro _ ⟨n,o,p,rfl⟩;refine qb J<|qw ?_;cases a;exact Qe _ J
theorem qyn (f : List Int) (g : List Bool) (r : List ql) (l : q4w f g = some r) : Pure Tryz.prog tab 64 [.sl 1 (f.map (eI .i64)),.sl 1 (g.map eB)] (.sl 2 (r.map Qj)):=by
 unfold q4w at l;refine Qz Tryz.func64 J qh qh J<|qd<|qb J<|qs<|qb J<|q9<|qe<|qd<|qb J<|q9<|q8 l fun m ad l=>?_;refine Qq (fun h=>h = m) (fun h=>⟨[(5,.hs 0 2 0 h.length)],[(0,.dat 2 (h.map Qj))],1⟩) qg ?_ ?_
 ·refine Qg (q4x f g) (fun j=>⟨[(0,.d (.sl 1 (f.map (eI .i64)))),(1,.d (.sl 1 (g.map eB))),(5,.hs 0 2 0 j.2.length),(6,q7 j.1)],[(0,.dat 2 (j.2.map Qj))],1⟩) _ m ad (wkA [] [] [0]) ?_;intro j an c;unfold q4x at c;refine qe<|qd<|U J<|O _ J<|U J<|K1 J<|O _ J<|q9 ?_;refine qo J c (fun _ c=>?_) (fun _ c=>?_)
  ·refine qm<|qe<|q8 c fun ae a c=>?_;refine Qq (fun k=>k = ae) (fun k=>⟨[(0,.d (.sl 1 (f.map (eI .i64)))),(1,.d (.sl 1 (g.map eB))),(5,.hs 0 2 0 k.length),(6,q7 j.1)],[(0,.dat 2 (k.map Qj))],1⟩) qg ?_ ?_
   ·refine qe<|qd<|U J<|U J<|q8 a fun ao af a=>Ql af J<|O _ J<|O _ J<|q9 ?_;refine qo J a (fun _ a=>?_) (fun _ a=>?_)
    ·refine Q9 ?_;obtain rfl:=qr a;exact ⟨_,J,wkA [(0,0)] [] []⟩
    refine qm<|qd<|U J<|O _ J<|qb J<|q9<|qe<|Qb [q0,q0,q0,q0,q0,q0,qq 0,q0,q0,q0,q0,q0,q0,q0,q0] qh<|U J<|O _ J<|q8 a fun ag b a=>?_;refine Qd 13 (fun A st=>∃ n o p q s t u v w x y z,st = A [(36,Q3 ag),(35,z),(34,y),(33,x),(32,w),(31,v),(30,u),(29,t),(28,s),(27,q),(26,p),(25,o),(24,n)]) ?_ ?_
    ·refine Qc J J b (fun b=>?_) (fun b=>?_)
     ·refine U J<|U J<|O _ J<|q8 b fun ap aa b=>qt aa J J<|O _ J<|Q7 _ aa J<|U J<|U J<|q8 b fun aq ah b=>Ql ah J<|O _ J<|O _ J<|O _ J<|q9 ?_;cases b;exact ⟨_,_,_,_,_,_,_,_,_,_,_,_,J⟩
     refine qc J<|qc J<|qc J<|qc J<|qc J<|qc J<|qc J<|qc J<|qc J<|qc J<|qc J<|O _ J<|q9 ?_;cases b;exact ⟨_,_,_,_,_,_,_,_,_,_,_,_,J⟩
    rintro _ ⟨n,o,p,q,s,t,u,v,w,x,y,z,rfl⟩;refine q9 ?_;refine qo J a (fun _ a=>?_) (fun _ a=>?_)
    ·refine qz<|U J<|U J<|O _ J<|U J<|U J<|O _ J<|q8 a fun ab ai a=>Ql ai J<|O _ J<|q8 a fun aj ac a=>qt ac J J<|O _ J<|Qx (ds:=[qa ab]) ({Lo:=aj.Lo,Hi:=ab} : ql) ac J J J J J J J J (leb J) J<|qx ?_;obtain rfl:=qr a;exact ⟨_,J,wkE [(0,0)] [] [] J ⟨qi J,qi J,⟨_,J,K2 qg J qy (ltd J)⟩,qi J,trivial⟩ ⟨Qf J J,trivial⟩⟩
    refine Qb [q0,(some [0,1],[0,2]),(some [],[1]),q0,q0,q0,q0,q0,q0,q0,q0,q0,q0,q0] qh<|U J<|U J<|U J<|q8 a fun ar ak a=>Ql ak J<|O _ J<|U J<|U J<|O _ J<|q8 a fun au al a=>Ql al J<|O _ J<|O _ J<|Qw _ _ J<|q8 a fun av am a=>Kq _ am J J J J J J J (Ko J J) J J J J<|qb J<|qx ?_;obtain rfl:=qr a;exact ⟨_,J,wkA [(0,2)] [] []⟩
   intro k hb;subst hb;refine qz<|U J<|O _ J<|qb J<|qx<|⟨_,qp c,wkA [(0,0)] [] []⟩
  refine Q9 ?_;refine ⟨_,qp c,fun hm=>?_⟩;subst hm;exact ⟨_,J,wkA [(0,0)] [] []⟩
 intro h hb;subst hb;refine qd<|U J<|qb J<|qw ?_;obtain rfl:=qr l;exact finD (.inr J) J (Yz J J) (.refl _)
theorem qi1 (j : Int) (f : List qf) (g : List qf) (r : List qf) (n : U7 j f g = some r) : Pure Tryz.prog tab 86 [qa j,.sl 4 (f.map qj),.sl 4 (g.map qj)] (.sl 4 (r.map qj)):=by
 unfold U7 at n;refine Qz Tryz.func86 J qh qh J<|qd<|qb J<|qs<|U J<|U J<|q8 n fun k h2 n=>Qa (qyu f g k h2) J<|U J<|U J<|q8 n fun l h4 n=>Qa (qyw f g l h4) J<|qb J<|qb J<|qs<|qb J<|qs<|qb J<|qs<|qb J<|q9<|qe<|qd<|qb J<|q9<|q8 n fun aa an n=>?_;refine Qq (fun t=>t = aa) (fun t=>⟨[(9,.hs 0 4 0 t.length)],[(0,.dat 4 (t.map qj))],1⟩) qg ?_ ?_
 ·refine Qg (q3h k l f g j) (fun a=>⟨[(0,q7 j),(1,.d (.sl 4 (f.map qj))),(2,.d (.sl 4 (g.map qj))),(7,.d (.sl 1 (k.map (eI .i64)))),(8,.d (.sl 1 (l.map (eI .i64)))),(9,.hs 0 4 0 a.2.2.2.length),(10,.d (.sl 2 (a.1.map Qj))),(11,q7 a.2.1),(12,q7 a.2.2.1)],[(0,.dat 4 (a.2.2.2.map qj))],1⟩) _ aa an (wkA [] [] [0]) ?_;intro a bs o;unfold q3h at o;refine qe<|qd<|U J<|O _ J<|U J<|K1 J<|O _ J<|q9 ?_;refine qo J o (fun _ o=>?_) (fun _ o=>?_)
  ·refine qm<|qe<|q8 o fun ao h o=>?_;refine Qq (fun p=>p = ao) (fun p=>⟨[(0,q7 j),(1,.d (.sl 4 (f.map qj))),(2,.d (.sl 4 (g.map qj))),(7,.d (.sl 1 (k.map (eI .i64)))),(8,.d (.sl 1 (l.map (eI .i64)))),(9,.hs 0 4 0 p.2.2.length),(10,.d (.sl 2 (p.1.map Qj))),(11,q7 p.2.1),(12,q7 a.2.2.1)],[(0,.dat 4 (p.2.2.map qj))],1⟩) qg ?_ ?_
   ·refine qd<|qb J<|q9<|qe<|qd<|qb J<|q9<|q8 h fun ab ap h=>?_;refine Qq (fun q=>q = ab) (fun q=>⟨[(0,q7 j),(1,.d (.sl 4 (f.map qj))),(2,.d (.sl 4 (g.map qj))),(7,.d (.sl 1 (k.map (eI .i64)))),(8,.d (.sl 1 (l.map (eI .i64)))),(9,.hs 0 4 0 a.2.2.2.length),(10,.d (.sl 2 (a.1.map Qj))),(11,q7 a.2.1),(12,q7 a.2.2.1),(13,.hs 1 1 0 q.length)],[(0,.dat 4 (a.2.2.2.map qj)),(1,.dat 1 (q.map eB))],2⟩) qg ?_ ?_
    ·refine Qg (q51 l k a f g j) (fun w=>⟨[(0,q7 j),(1,.d (.sl 4 (f.map qj))),(2,.d (.sl 4 (g.map qj))),(7,.d (.sl 1 (k.map (eI .i64)))),(8,.d (.sl 1 (l.map (eI .i64)))),(9,.hs 0 4 0 a.2.2.2.length),(10,.d (.sl 2 (a.1.map Qj))),(11,q7 a.2.1),(12,q7 a.2.2.1),(13,.hs 1 1 0 w.2.length),(14,q7 w.1)],[(0,.dat 4 (a.2.2.2.map qj)),(1,.dat 1 (w.2.map eB))],2⟩) _ ab ap (wkA [(0,0)] [] [1]) ?_;intro w bt b;unfold q51 at b;refine qe<|qd<|U J<|U J<|K1 J<|O _ J<|q9 ?_;refine qo J b (fun _ b=>?_) (fun _ b=>?_)
     ·refine qm<|qe<|Q6<|Qb [q0,(some [1,2],[1,3]),(some [],[2]),q0,q0,q0,q0,q0,q0,q0,q0,q0,q0,q0,q0,q0,q0,q0,q0,q0,q0,q0,q0,q0,q0,q0] qh<|U J<|U J<|U J<|U J<|U J<|q8 b fun aq ar b=>Ql ar J<|O _ J<|U J<|U J<|q8 b fun au av b=>Ql av J<|O _ J<|q8 b fun ac aw b=>Qa (qo7 f aq au ac aw) J<|U J<|U J<|U J<|q8 b fun ax ay b=>Ql ay J<|O _ J<|U J<|U J<|q8 b fun az ba b=>Ql ba J<|O _ J<|q8 b fun ad bb b=>Qa (qo7 g ax az ad bb) J<|q8 b fun bc bd b=>Qa (qyp j ac ad bc bd) J<|Qw _ _ J<|q8 b fun bu be b=>Kq _ be J J J J J J J (Ko J J) J J J J<|qb J<|qx<|Qp ?_;refine qz<|U J<|O _ J<|qb J<|qx<|⟨_,qp b,wkA [(0,0),(1,3)] [] []⟩
     refine Q9 ?_;refine ⟨_,qp b,fun hm=>?_⟩;subst hm;exact ⟨_,J,wkA [(0,0),(1,1)] [] []⟩
    intro q hb;subst hb;refine qe ?_;refine Yb (st':=⟨[(0,q7 j),(1,.d (.sl 4 (f.map qj))),(2,.d (.sl 4 (g.map qj))),(7,.d (.sl 1 (k.map (eI .i64)))),(8,.d (.sl 1 (l.map (eI .i64)))),(9,.hs 0 4 0 a.2.2.2.length),(10,.d (.sl 2 (a.1.map Qj))),(11,q7 a.2.1),(12,q7 a.2.2.1),(13,.d (.sl 1 (q.map eB)))],[(0,.dat 4 (a.2.2.2.map qj))],1⟩) (wkA [(0,0)] [1] []) ?_ qg;refine qz<|U J<|U J<|q8 h fun u bf h=>Qa (qyn l q u bf) J<|qb J<|q9<|qe<|qd<|U J<|O _ J<|q8 h fun bg s h=>?_;refine Qd 5 (fun A st=>∃ ae af ag ah,st = A [(71,Q3 bg),(70,ah),(69,ag),(68,af),(67,ae)]) ?_ ?_
    ·refine Qc J J s (fun s=>?_) (fun s=>?_)
     ·refine U J<|U J<|q8 s fun bh bi s=>Qa (qo4 u a.1 bh bi) J<|O _ J<|q9 ?_;cases s;exact ⟨_,_,_,_,J⟩
     refine qc J<|qc J<|qc J<|O _ J<|q9 ?_;cases s;exact ⟨_,_,_,_,J⟩
    rintro _ ⟨ae,af,ag,ah,rfl⟩;refine q9 ?_;refine qo J h (fun _ h=>?_) (fun _ h=>?_)
    ·refine qe<|qd<|U J<|qb J<|q9<|q8 h fun ai bj h=>?_;refine Qq (fun v=>v = ai) (fun v=>⟨[(0,q7 j),(1,.d (.sl 4 (f.map qj))),(2,.d (.sl 4 (g.map qj))),(7,.d (.sl 1 (k.map (eI .i64)))),(8,.d (.sl 1 (l.map (eI .i64)))),(9,.hs 0 4 0 v.length),(10,.d (.sl 2 (a.1.map Qj))),(11,q7 a.2.1),(12,q7 a.2.2.1)],[(0,.dat 4 (v.map qj))],1⟩) qg ?_ ?_
     ·refine Qg (q52 k a) (fun x=>⟨[(0,q7 j),(1,.d (.sl 4 (f.map qj))),(2,.d (.sl 4 (g.map qj))),(7,.d (.sl 1 (k.map (eI .i64)))),(8,.d (.sl 1 (l.map (eI .i64)))),(9,.hs 0 4 0 x.2.length),(10,.d (.sl 2 (a.1.map Qj))),(11,q7 a.2.1),(12,q7 a.2.2.1),(16,q7 x.1)],[(0,.dat 4 (x.2.map qj))],1⟩) _ ai bj (wkA [(0,0)] [] []) ?_;intro x bv m;unfold q52 at m;refine qe<|qd<|U J<|U J<|O _ J<|O _ J<|q9 ?_;refine qo J m (fun _ m=>?_) (fun _ m=>?_)
      ·refine qm<|qe<|Q6<|qz<|U J<|U J<|U J<|U J<|O _ J<|q8 m fun aj bk m=>Ql bk J<|O _ J<|q8 m fun z ak m=>qt ak J J<|O _ J<|Qx (ds:=[qa aj]) ({X0:=z.X0,Y0:=z.Y0,X1:=aj,Y1:=z.Y1} : qf) ak J J J J J J J J (leb J) J<|qx<|Qp<|qz<|U J<|O _ J<|qb J<|qx<|⟨_,qp m,wkE [(0,0)] [] [] J ⟨qi J,qi J,qi J,qi J,qi J,⟨_,J,K2 qg J qy (ltd J)⟩,qi J,qi J,qi J,qi J,trivial⟩ ⟨Qf J J,trivial⟩⟩
      refine Q9 ?_;refine ⟨_,qp m,fun hm=>?_⟩;subst hm;exact ⟨_,J,wkA [(0,0)] [] []⟩
     intro v hb;subst hb;refine Q9 ?_;obtain rfl:=qr h;exact ⟨_,J,wkA [(0,0)] [] []⟩
    refine qm<|qd<|U J<|O _ J<|U J<|qb J<|qb J<|qs<|qb J<|q9<|q8 h fun bl bm h=>Q6<|Qg (q6y u k a) (fun y=>⟨[(0,q7 j),(1,.d (.sl 4 (f.map qj))),(2,.d (.sl 4 (g.map qj))),(7,.d (.sl 1 (k.map (eI .i64)))),(8,.d (.sl 1 (l.map (eI .i64)))),(9,.hs 0 4 0 y.2.length),(10,.d (.sl 2 (u.map Qj))),(11,q7 (a.2.2.2.length : Int)),(12,q7 a.2.2.1),(15,.d (.sl 2 (u.map Qj))),(17,q7 y.1)],[(0,.dat 4 (y.2.map qj))],1⟩) _ bl bm (wkA [(0,0)] [] []) ?_;intro y bw c;unfold q6y at c;refine qe<|qd<|U J<|U J<|K1 J<|O _ J<|q9 ?_;refine qo J c (fun _ c=>?_) (fun _ c=>?_)
    ·refine qm<|qe<|Q6<|Qb [q0,(some [0,1],[0,2]),(some [],[1]),q0,q0,q0,q0,q0,q0,q0,q0,q0,q0,q0,q0,q0,q0,q0,q0,q0,q0,q0,q0,q0] qh<|U J<|U J<|U J<|q8 c fun bz bn c=>Ql bn J<|O _ J<|U J<|U J<|q8 c fun ca bo c=>Ql bo J<|O _ J<|O _ J<|U J<|U J<|O _ J<|q8 c fun cb bp c=>Ql bp J<|O _ J<|U J<|U J<|q8 c fun cc bq c=>Ql bq J<|O _ J<|O _ J<|O _ J<|Qw _ _ J<|q8 c fun cd br c=>Kq _ br J J J J J J J (Ko J J) J J J J<|qb J<|qx<|Qp<|qz<|U J<|O _ J<|qb J<|qx<|⟨_,qp c,wkA [(0,2)] [] []⟩
    refine Q9 ?_;refine ⟨_,qp c,fun hm=>?_⟩;subst hm;obtain rfl:=qr h;exact ⟨_,J,wkA [(0,0)] [] []⟩
   intro p hb;subst hb;refine qz<|U J<|O _ J<|qb J<|qx<|⟨_,qp o,wkA [(0,0)] [] []⟩
  refine Q9 ?_;refine ⟨_,qp o,fun hm=>?_⟩;subst hm;exact ⟨_,J,wkA [(0,0)] [] []⟩
 intro t hb;subst hb;refine qd<|U J<|qb J<|qw ?_;obtain rfl:=qr n;exact finD (.inr J) J (Yz J J) (.refl _)
theorem qys (c : List qf) (f : List qf) (r : Bool) (b : q70 c f = some r) : Pure Tryz.prog tab 30 [.sl 4 (c.map qj),.sl 4 (f.map qj)] (.bool r):=by
 unfold q70 at b;refine Qz Tryz.func30 J qh qh J<|qd<|qb J<|q9<|qe<|qd<|U J<|K1 J<|U J<|K1 J<|O _ J<|q9 ?_;refine qo J b (fun _ b=>?_) (fun _ b=>?_)
 ·refine qd<|qb J<|qw ?_;cases b;exact Qe _ J
 refine qm<|qe<|qd<|qb J<|q9<|q8 b fun h k b=>?_;refine Qq (fun g=>.inl g = h) (fun g=>⟨[],[],0⟩) qg ?_ ?_
 ·refine Qg (qem c f) (fun j=>⟨[(0,.d (.sl 4 (c.map qj))),(1,.d (.sl 4 (f.map qj))),(5,q7 j)],[],0⟩) _ h k (wkA [] [] []) ?_;intro j y17 a;unfold qem at a;refine qe<|qd<|U J<|U J<|K1 J<|O _ J<|q9 ?_;refine qo J a (fun _ a=>?_) (fun _ a=>?_)
  ·refine qm<|qe<|Q6<|qe<|Qb [q0,q0,q0,q0,q0,q0,q0,q0,q0] qh<|U J<|U J<|q8 a fun n l a=>Ql l J<|O _ J<|U J<|U J<|q8 a fun o m a=>Ql m J<|O _ J<|O _ J<|q9 ?_;refine qo J a (fun _ a=>?_) (fun _ a=>?_)
   ·refine qd<|qb J<|qw ?_;refine ⟨_,qp a,fun hm=>?_⟩;subst hm;cases b;exact Qe _ J
   refine qm<|Qh<|Qp<|qz<|U J<|O _ J<|qb J<|qx<|⟨_,qp a,wkA [] [] []⟩
  refine Q9 ?_;refine ⟨_,qp a,fun hm=>?_⟩;subst hm;exact ⟨_,J,wkA [] [] []⟩
 intro g hb;subst hb;refine qd<|qb J<|qw ?_;cases b;exact Qe _ J
theorem qz2 (l : Int) (f : List qk) (g : List qk) (r : List qk × Bool) (o : q59 l f g = some r) : Pure Tryz.prog tab 47 [qa l,.sl 6 (f.map Qi),.sl 6 (g.map Qi)] (.tup [.sl 6 (r.1.map Qi),.bool r.2]):=by
 unfold q59 at o;refine Qz Tryz.func47 J qh qh J<|qd<|qb J<|qb J<|qs<|U J<|U J<|q8 o fun m h2 o=>Qa (qz0 f g m h2) J<|qb J<|qs<|qb J<|qs<|qb J<|qs<|qb J<|q9<|qe<|qd<|qb J<|q9<|q8 o fun y bh o=>?_;refine Qq (fun s=>.inl s = y) (fun s=>⟨[(9,.hs 0 6 0 s.length)],[(0,.dat 6 (s.map Qi))],1⟩) qg ?_ ?_
 ·refine Qg (q2u m f g l) (fun c=>⟨[(0,q7 l),(1,.d (.sl 6 (f.map Qi))),(2,.d (.sl 6 (g.map Qi))),(8,.d (.sl 1 (m.map (eI .i64)))),(9,.hs 0 6 0 c.2.2.2.length),(10,.d (.sl 4 (c.1.map qj))),(11,q7 c.2.1),(12,q7 c.2.2.1)],[(0,.dat 6 (c.2.2.2.map Qi))],1⟩) _ y bh (wkA [] [] [0]) ?_;intro c cs n;unfold q2u at n;refine qe<|qd<|U J<|O _ J<|U J<|K1 J<|O _ J<|q9 ?_;refine qo J n (fun _ n=>?_) (fun _ n=>?_)
  ·refine qm<|qe<|q8 n fun bi a n=>?_;refine Qq (fun p=>.inl p = bi) (fun p=>⟨[(0,q7 l),(1,.d (.sl 6 (f.map Qi))),(2,.d (.sl 6 (g.map Qi))),(8,.d (.sl 1 (m.map (eI .i64)))),(9,.hs 0 6 0 p.2.2.length),(10,.d (.sl 4 (p.1.map qj))),(11,q7 p.2.1),(12,q7 c.2.2.1)],[(0,.dat 6 (p.2.2.map Qi))],1⟩) qg ?_ ?_
   ·refine qe<|Qb [q0,q0,q0,q0,q0,q0,q0,q0,q0,q0,q0,q0,q0,q0,q0] qh<|U J<|U J<|U J<|U J<|q8 a fun bj bk a=>Ql bk J<|O _ J<|q8 a fun z bl a=>Qa (qeo f bj z bl) J<|U J<|U J<|U J<|q8 a fun bm bn a=>Ql bn J<|O _ J<|q8 a fun aa bo a=>Qa (qeo g bm aa bo) J<|q8 a fun t bp a=>Qa (qi1 l z aa t bp) J<|qb J<|q9<|qe<|qd<|U J<|K1 J<|O _ J<|q8 a fun bq h a=>?_;refine Qd 11 (fun A st=>∃ ab ac ad ae af ag ah ai aj ak,st = A [(53,Q3 bq),(52,ak),(51,aj),(50,ai),(49,ah),(48,ag),(47,af),(46,ae),(45,ad),(44,ac),(43,ab)]) ?_ ?_
    ·refine Qc J J h (fun h=>?_) (fun h=>?_)
     ·refine qc J<|qc J<|qc J<|qc J<|qc J<|qc J<|qc J<|qc J<|qc J<|O _ J<|q9 ?_;cases h;exact ⟨_,_,_,_,_,_,_,_,_,_,J⟩
     refine U J<|U J<|U J<|q8 h fun br bs h=>Ql bs J<|O _ J<|q8 h fun al bt h=>Qa (qeo f br al bt) J<|q8 h fun bu bv h=>Qa (qa9 (.cons (.refl _) (.cons (.refl _) (.cons (.nil _) .nil))) (qi1 2 al [] bu bv)) J<|K1 J<|O _ J<|O _ J<|q9 ?_;cases h;exact ⟨_,_,_,_,_,_,_,_,_,_,J⟩
    rintro _ ⟨ab,ac,ad,ae,af,ag,ah,ai,aj,ak,rfl⟩;refine q8 a fun bw j a=>?_;refine Qd 11 (fun A st=>∃ am an ao ap aq ar au av aw ax,st = A [(64,Q3 bw),(63,ax),(62,aw),(61,av),(60,au),(59,ar),(58,aq),(57,ap),(56,ao),(55,an),(54,am)]) ?_ ?_
    ·refine Qc J J j (fun j=>?_) (fun j=>?_)
     ·refine qc J<|qc J<|qc J<|qc J<|qc J<|qc J<|qc J<|qc J<|qc J<|O _ J<|q9 ?_;cases j;exact ⟨_,_,_,_,_,_,_,_,_,_,J⟩
     refine U J<|U J<|U J<|q8 j fun bz ca j=>Ql ca J<|O _ J<|q8 j fun ay cb j=>Qa (qeo g bz ay cb) J<|q8 j fun cc cd j=>Qa (qa9 (.cons (.refl _) (.cons (.refl _) (.cons (.nil _) .nil))) (qi1 2 ay [] cc cd)) J<|K1 J<|O _ J<|O _ J<|q9 ?_;cases j;exact ⟨_,_,_,_,_,_,_,_,_,_,J⟩
    rintro _ ⟨am,an,ao,ap,aq,ar,au,av,aw,ax,rfl⟩;refine q9 ?_;refine qo J a (fun _ a=>?_) (fun _ a=>?_)
    ·refine qd<|qb J<|qb J<|qw ?_;obtain rfl:=qr a;refine ⟨_,qp n,fun hm=>?_⟩;subst hm;obtain rfl:=qr o;exact finD (.inr J) J J (Y8 (.cons (.nil _) (.cons (.refl _) .nil)))
    refine qm<|qe<|qd<|U J<|O _ J<|q8 a fun ce q a=>?_;refine Qd 5 (fun A st=>∃ az ba bb bc,st = A [(71,Q3 ce),(70,bc),(69,bb),(68,ba),(67,az)]) ?_ ?_
    ·refine Qc J J q (fun q=>?_) (fun q=>?_)
     ·refine U J<|U J<|q8 q fun cf cg q=>Qa (qys t c.1 cf cg) J<|O _ J<|q9 ?_;cases q;exact ⟨_,_,_,_,J⟩
     refine qc J<|qc J<|qc J<|O _ J<|q9 ?_;cases q;exact ⟨_,_,_,_,J⟩
    rintro _ ⟨az,ba,bb,bc,rfl⟩;refine q9 ?_;refine qo J a (fun _ a=>?_) (fun _ a=>?_)
    ·refine qe<|qd<|U J<|qb J<|q9<|q8 a fun bd ch a=>?_;refine Qq (fun u=>u = bd) (fun u=>⟨[(0,q7 l),(1,.d (.sl 6 (f.map Qi))),(2,.d (.sl 6 (g.map Qi))),(8,.d (.sl 1 (m.map (eI .i64)))),(9,.hs 0 6 0 u.length),(10,.d (.sl 4 (c.1.map qj))),(11,q7 c.2.1),(12,q7 c.2.2.1)],[(0,.dat 6 (u.map Qi))],1⟩) qg ?_ ?_
     ·refine Qg (q5a m c) (fun v=>⟨[(0,q7 l),(1,.d (.sl 6 (f.map Qi))),(2,.d (.sl 6 (g.map Qi))),(8,.d (.sl 1 (m.map (eI .i64)))),(9,.hs 0 6 0 v.2.length),(10,.d (.sl 4 (c.1.map qj))),(11,q7 c.2.1),(12,q7 c.2.2.1),(14,q7 v.1)],[(0,.dat 6 (v.2.map Qi))],1⟩) _ bd ch (wkA [(0,0)] [] []) ?_;intro v ct k;unfold q5a at k;refine qe<|qd<|U J<|U J<|O _ J<|O _ J<|q9 ?_;refine qo J k (fun _ k=>?_) (fun _ k=>?_)
      ·refine qm<|qe<|Q6<|qz<|U J<|U J<|U J<|U J<|O _ J<|q8 k fun be ci k=>Ql ci J<|O _ J<|q8 k fun x bf k=>qt bf J J<|O _ J<|O _ J<|Qx (ds:=[qa be]) ({Lo:=x.Lo,Hi:=({X:=x.Hi.X,Y:=x.Hi.Y,Z:=be} : Q0)} : qk) bf J J J J J J J J (leb J) J<|qx<|Qp<|qz<|U J<|O _ J<|qb J<|qx<|⟨_,qp k,wkE [(0,0)] [] [] J ⟨qi J,qi J,qi J,qi J,⟨_,J,K2 qg J qy (ltd J)⟩,qi J,qi J,qi J,qi J,trivial⟩ ⟨Qf J J,trivial⟩⟩
      refine Q9 ?_;refine ⟨_,qp k,fun hm=>?_⟩;subst hm;exact ⟨_,J,wkA [(0,0)] [] []⟩
     intro u hb;subst hb;refine Q9 ?_;obtain rfl:=qr a;exact ⟨_,J,wkA [(0,0)] [] []⟩
    refine qm<|qd<|U J<|O _ J<|U J<|qb J<|qb J<|qs<|qb J<|q9<|q8 a fun cj ck a=>Q6<|Qg (q75 t m c) (fun w=>⟨[(0,q7 l),(1,.d (.sl 6 (f.map Qi))),(2,.d (.sl 6 (g.map Qi))),(8,.d (.sl 1 (m.map (eI .i64)))),(9,.hs 0 6 0 w.2.length),(10,.d (.sl 4 (t.map qj))),(11,q7 (c.2.2.2.length : Int)),(12,q7 c.2.2.1),(13,.d (.sl 4 (t.map qj))),(15,q7 w.1)],[(0,.dat 6 (w.2.map Qi))],1⟩) _ cj ck (wkA [(0,0)] [] []) ?_;intro w cu b;unfold q75 at b;refine qe<|qd<|U J<|U J<|K1 J<|O _ J<|q9 ?_;refine qo J b (fun _ b=>?_) (fun _ b=>?_)
    ·refine qm<|qe<|Q6<|Qb [q0,(some [0,1],[0,2]),(some [],[1]),q0,q0,q0,q0,q0,q0,q0,q0,q0,q0,q0,q0,q0,q0,q0,q0,q0,q0,q0,q0,q0,q0,q0,q0,q0,q0,q0,q0,q0,q0,q0,q0,q0] qh<|U J<|U J<|U J<|q8 b fun cv cl b=>Ql cl J<|O _ J<|O _ J<|U J<|U J<|q8 b fun cw cm b=>Ql cm J<|O _ J<|O _ J<|U J<|U J<|q8 b fun cx cn b=>Ql cn J<|O _ J<|O _ J<|U J<|U J<|q8 b fun cy co b=>Ql co J<|O _ J<|O _ J<|U J<|U J<|q8 b fun cz cp b=>Ql cp J<|O _ J<|O _ J<|U J<|U J<|O _ J<|q8 b fun da cq b=>Ql cq J ?_;refine O _ J<|O _ J<|O _ J<|Qw _ _ J<|q8 b fun dc cr b=>Kq _ cr J J J J J J J (Ko J J) J J J J<|qb J<|qx<|Qp<|qz<|U J<|O _ J<|qb J<|qx<|⟨_,qp b,wkA [(0,2)] [] []⟩
    refine Q9 ?_;refine ⟨_,qp b,fun hm=>?_⟩;subst hm;obtain rfl:=qr a;exact ⟨_,J,wkA [(0,0)] [] []⟩
   intro p hb;subst hb;refine qz<|U J<|O _ J<|qb J<|qx<|⟨_,qp n,wkA [(0,0)] [] []⟩
  refine Q9 ?_;refine ⟨_,qp n,fun hm=>?_⟩;subst hm;exact ⟨_,J,wkA [(0,0)] [] []⟩
 intro s hb;subst hb;refine qd<|U J<|U J<|O _ J<|O _ J<|qb J<|qb J<|qw ?_;obtain rfl:=qr o;exact finD (.inr J) J (q2i (Ym (Yz J J) (Ym J J))) (.refl _)
theorem qz4 (c : List qk) (f : List qk) (r : Bool) (b : qep c f = some r) : Pure Tryz.prog tab 16 [.sl 6 (c.map Qi),.sl 6 (f.map Qi)] (.bool r):=by
 unfold qep at b;refine Qz Tryz.func16 J qh qh J<|qd<|qb J<|q9<|qe<|qd<|U J<|K1 J<|U J<|K1 J<|O _ J<|q9 ?_;refine qo J b (fun _ b=>?_) (fun _ b=>?_)
 ·refine qd<|qb J<|qw ?_;cases b;exact Qe _ J
 refine qm<|qe<|qd<|qb J<|q9<|q8 b fun h k b=>?_;refine Qq (fun g=>.inl g = h) (fun g=>⟨[],[],0⟩) qg ?_ ?_
 ·refine Qg (qeq c f) (fun j=>⟨[(0,.d (.sl 6 (c.map Qi))),(1,.d (.sl 6 (f.map Qi))),(5,q7 j)],[],0⟩) _ h k (wkA [] [] []) ?_;intro j y17 a;unfold qeq at a;refine qe<|qd<|U J<|U J<|K1 J<|O _ J<|q9 ?_;refine qo J a (fun _ a=>?_) (fun _ a=>?_)
  ·refine qm<|qe<|Q6<|qe<|Qb [q0,q0,q0,q0,q0,q0,q0,q0,q0] qh<|U J<|U J<|q8 a fun n l a=>Ql l J<|O _ J<|U J<|U J<|q8 a fun o m a=>Ql m J<|O _ J<|O _ J<|q9 ?_;refine qo J a (fun _ a=>?_) (fun _ a=>?_)
   ·refine qd<|qb J<|qw ?_;refine ⟨_,qp a,fun hm=>?_⟩;subst hm;cases b;exact Qe _ J
   refine qm<|Qh<|Qp<|qz<|U J<|O _ J<|qb J<|qx<|⟨_,qp a,wkA [] [] []⟩
  refine Q9 ?_;refine ⟨_,qp a,fun hm=>?_⟩;subst hm;exact ⟨_,J,wkA [] [] []⟩
 intro g hb;subst hb;refine qd<|qb J<|qw ?_;cases b;exact Qe _ J
theorem qo9 (c : List qk) (r : Int) (a : q73 c = some r) : Pure Tryz.prog tab 18 [.sl 6 (c.map Qi)] (qa r):=by
 unfold q73 at a;refine Qz Tryz.func18 J qh qh J<|qd<|qb J<|q9<|qe<|qd<|U J<|K1 J<|O _ J<|q9 ?_;refine qo J a (fun _ a=>?_) (fun _ a=>?_)
 ·refine qd<|qb J<|qw ?_;cases a;exact Qe _ J
 refine qm<|qe<|qd<|qb J<|q9<|q8 a fun h q a=>?_;refine Qq (fun g=>.inl g = h) (fun g=>⟨[(0,.d (.sl 6 (c.map Qi)))],[],0⟩) qg ?_ ?_
 ·refine Qg (q74 c) (fun j=>⟨[(0,.d (.sl 6 (c.map Qi))),(3,q7 j)],[],0⟩) _ h q (wkA [] [] []) ?_;intro j y17 b;unfold q74 at b;refine qe<|qd<|U J<|U J<|K1 J<|O _ J<|q9 ?_;refine qo J b (fun _ b=>?_) (fun _ b=>?_)
  ·refine qm<|qe<|Q6<|qd<|U J<|U J<|q8 b fun s t b=>Ql t J<|O _ J<|q8 b fun u v b=>Qa (qz6 s u v) J<|O _ J<|q9 ?_;refine qo J b (fun _ b=>?_) (fun _ b=>?_)
   ·refine qd<|qb J<|qw ?_;refine ⟨_,qp b,fun hm=>?_⟩;subst hm;cases a;exact Qe _ J
   refine qm<|Qh<|Qp<|qz<|U J<|O _ J<|qb J<|qx<|⟨_,qp b,wkA [] [] []⟩
  refine Q9 ?_;refine ⟨_,qp b,fun hm=>?_⟩;subst hm;exact ⟨_,J,wkA [] [] []⟩
 intro g hb;subst hb;refine qd<|U J<|q8 a fun k w a=>Qa (qa9 (.cons (.refl _) (.cons (.refl _) (.cons (.nil _) .nil))) (qz2 2 c [] k w)) J<|U J<|O _ J<|O _ J<|qb J<|qb J<|q9<|qe<|qd<|U J<|O _ J<|q8 a fun x f a=>?_;refine Qd 6 (fun A st=>∃ l m n o p,st = A [(33,Q3 x),(32,p),(31,o),(30,n),(29,m),(28,l)]) ?_ ?_
 ·refine Qc J J f (fun f=>?_) (fun f=>?_)
  ·refine qc J<|qc J<|qc J<|qc J<|O _ J<|q9 ?_;cases f;exact ⟨_,_,_,_,_,J⟩
  refine U J<|U J<|q8 f fun y z f=>Qa (qz4 k.1 c y z) J<|O _ J<|O _ J<|q9 ?_;cases f;exact ⟨_,_,_,_,_,J⟩
 rintro _ ⟨l,m,n,o,p,rfl⟩;refine q9 ?_;refine qo J a (fun _ a=>?_) (fun _ a=>?_)
 ·refine qd<|qb J<|qw ?_;cases a;exact Qe _ J
 refine qm<|qd<|qb J<|qw ?_;cases a;exact Qe _ J
theorem qx0 (c : List qf) (d : Int) (r : Int) (a : qa5 c d = some r) : Pure Tryz.prog tab 48 [.sl 4 (c.map qj),qa d] (qa r):=by
 unfold qa5 at a;refine Qz Tryz.func48 J qh qh J<|qd<|qb J<|q9<|qe<|qd<|U J<|q8 a fun j k a=>Qa (q7e c j k) J<|qb J<|qs<|U J<|O _ J<|q9 ?_;refine qo J a (fun _ a=>?_) (fun _ a=>?_)
 ·refine qd<|U J<|qb J<|qw ?_;cases a;exact Qe _ J
 refine qm<|qe<|qd<|U J<|O _ J<|q8 a fun l b a=>?_;refine Qd 4 (fun A st=>∃ f g h,st = A [(16,Q3 l),(15,h),(14,g),(13,f)]) ?_ ?_
 ·refine Qc J J b (fun b=>?_) (fun b=>?_)
  ·refine qc J<|qc J<|O _ J<|q9 ?_;cases b;exact ⟨_,_,_,J⟩
  refine U J<|O _ J<|O _ J<|q9 ?_;cases b;exact ⟨_,_,_,J⟩
 rintro _ ⟨f,g,h,rfl⟩;refine q9 ?_;refine qo J a (fun _ a=>?_) (fun _ a=>?_)
 ·refine qd<|qb J<|qw ?_;cases a;exact Qe _ J
 refine qm<|qd<|qb J<|qw ?_;cases a;exact Qe _ J
theorem qzt (g : List qf) (r : qf × Int) (a : qaq g = some r) : Pure Tryz.prog tab 87 [.sl 4 (g.map qj)] (.tup [.agg (qj r.1),qa r.2]):=by
 unfold qaq at a;refine Qz Tryz.func87 J qh qh J<|qd<|Qu J J<|qb J<|q9<|qe<|qd<|U J<|q8 a fun k l a=>Qa (q7e g k l) J<|qb J<|qs<|U J<|O _ J<|q9 ?_;refine qo J a (fun _ a=>?_) (fun _ a=>?_)
 ·refine qd<|O _ J<|U J<|Q8 0 _ J<|qb J<|qw ?_;cases a;exact Qe _ J
 refine qm<|qe<|qd<|U J<|K1 J<|O _ J<|q9 ?_;refine qo J a (fun _ a=>?_) (fun _ a=>?_)
 ·refine qd<|O _ J<|Q8 0 _ J<|qb J<|qw ?_;cases a;exact Qe _ J
 refine qm<|qd<|U J<|q8 a fun p m a=>Ql m J<|O _ J<|Qu J J<|Q8 1 _ J<|q9<|qe<|qd<|U J<|K1 J<|U J<|q9<|q8 a fun j n a=>?_;refine Qq (fun f=>f = j) (fun f=>⟨[(2,.ref 0 4 0 0),(5,.ref 1 4 0 0)],[(0,.dat 4 [[qa 0,qa 0,qa 0,qa 0]]),(1,.dat 4 [[qa f.1,qa f.2.1,qa f.2.2.1,qa f.2.2.2]])],2⟩) qg ?_ ?_
 ·refine Qg (q5g g) (fun b=>⟨[(2,.ref 0 4 0 0),(5,.ref 1 4 0 0),(21,.d (.sl 4 (g.map qj))),(22,q7 (g.length : Int)),(23,q7 b.1)],[(0,.dat 4 [[qa 0,qa 0,qa 0,qa 0]]),(1,.dat 4 [[qa b.2.1,qa b.2.2.1,qa b.2.2.2.1,qa b.2.2.2.2]])],2⟩) _ j n (wkA [(0,0),(1,1)] [] []) ?_;intro b y13 c;unfold q5g at c;refine qd<|O _ J<|q9<|qe ?_;refine qo J c (fun _ c=>?_) (fun _ c=>?_)
  ·refine qm<|qe<|Q6<|qd<|q8 c fun h o c=>Ql o J<|O _ J<|Qu J J<|Q8 2 _ J<|q9<|qz<|O _ J<|O _ J<|O _ J<|O _ J<|qa8 (r:=min b.2.1 h.X0) J J (by simp only [qa1];rfl)<|O _ J<|O _ J<|O _ J<|O _ J<|qa8 (r:=min b.2.2.1 h.Y0) J J (by simp only [qa1];rfl)<|O _ J<|O _ J<|O _ J<|O _ J<|qa7 (r:=max b.2.2.2.1 h.X1) J J (by simp only [qa0];rfl)<|O _ J<|O _ J<|O _ J<|O _ J<|qa7 (r:=max b.2.2.2.2 h.Y1) J J (by simp only [qa0];rfl)<|O _ J<|Q8 1 _ J<|qx<|Qp<|qz<|O _ J<|U J<|qx<|⟨_,qp c,wkA [(0,0),(1,1)] [] []⟩
  refine Q9 ?_;refine ⟨_,qp c,fun hm=>?_⟩;subst hm;exact ⟨_,J,wkA [(0,0),(1,1)] [] []⟩
 intro f hb;subst hb;refine qd<|O _ J<|Q8 0 _ J<|qb J<|qw ?_;cases a;exact Qe _ J
theorem qhp (b : qf) (f : List qf) (r : List qf) (a : q4q  b f = some r) : K8 Tryz.prog tab 88 [.d (.agg [qa ((b).X0),qa ((b).Y0),qa ((b).X1),qa ((b).Y1)]),.ref 0 1 0 0] [(0,.cel 1 [[.hs 1 4 0 f.length]]),(1,.dat 4 (f.map qj))] 2 (.d (.tup [])) [(0,.cel 1 [[.hs 2 4 0 r.length]]),(2,.dat 4 (r.map qj))] 3:=by
 unfold q4q at a;refine Kd Tryz.func88 J qh qh J<|qd<|Qw _ _ J<|qs<|O _ J<|O _ J<|O _ J<|O _ J<|O _ J<|q8 a fun n c a=>?_;refine Qd 7 (fun A st=>∃ g h j k l m,st = A [(14,Q3 n),(13,m),(12,l),(11,k),(10,j),(9,h),(8,g)]) ?_ ?_
 ·refine Qc J J c (fun c=>?_) (fun c=>?_)
  ·refine O _ J<|O _ J<|O _ J<|O _ J<|O _ J<|O _ J<|q9 ?_;cases c;exact ⟨_,_,_,_,_,_,J⟩
  refine qc J<|qc J<|qc J<|qc J<|qc J<|O _ J<|q9 ?_;cases c;exact ⟨_,_,_,_,_,_,J⟩
 rintro _ ⟨g,h,j,k,l,m,rfl⟩;refine q9 ?_;refine qo J a (fun _ a=>?_) (fun _ a=>?_)
 ·refine qz<|O _ J<|O _ J<|Qw _ _ J<|q8 a fun p o a=>Kq _ o J J J J J J J (Ko J J) J J J J<|Q8 0 _ J<|qx ?_;obtain rfl:=qr a;exact ⟨.inl J,_,J,wkA [(2,4)] [] []⟩
 refine qm<|Qh ?_;obtain rfl:=qr a;exact ⟨.inl J,_,J,wkA [(2,1)] [] []⟩
theorem qnd (a : qf) (b : Int) (r : qf) (c : q4p a b = some r) : Pure Tryz.prog tab 50 [.agg (qj a),qa b] (.agg (qj r)):=by
 unfold q4p at c;refine Qz Tryz.func50 J qh qh J<|qd<|Qw _ _ J<|Qu J J<|qs<|O _ J<|O _ J<|U J<|O _ J<|O _ J<|O _ J<|U J<|O _ J<|O _ J<|O _ J<|U J<|O _ J<|O _ J<|O _ J<|U J<|O _ J<|O _ J<|Q8 1 _ J<|qw ?_;cases c;exact Qe _ J
theorem qnb (c : qf) (d : qf) (r : Bool) (b : q28 c d = some r) : Pure Tryz.prog tab 52 [.agg (qj c),.box (qj d)] (.bool r):=by
 unfold q28 at b;refine Qz Tryz.func52 J qh qh J<|qd<|Qw _ _ J<|qb J<|qs<|O _ J<|O _ J<|O _ J<|O _ J<|O _ J<|q8 b fun m a b=>?_;refine Qd 7 (fun A st=>∃ f g h j k l,st = A [(15,Q3 m),(14,l),(13,k),(12,j),(11,h),(10,g),(9,f)]) ?_ ?_
 ·refine Qc J J a (fun a=>?_) (fun a=>?_)
  ·refine qc J<|qc J<|qc J<|qc J<|qc J<|O _ J<|q9 ?_;cases a;exact ⟨_,_,_,_,_,_,J⟩
  refine O _ J<|O _ J<|O _ J<|O _ J<|O _ J<|O _ J<|q9 ?_;cases a;exact ⟨_,_,_,_,_,_,J⟩
 rintro _ ⟨f,g,h,j,k,l,rfl⟩;refine qb J<|qw ?_;cases b;exact Qe _ J
theorem qx1 (a : qu) (b : qu) (r : Int) (c : qa6 a b = some r) : Pure Tryz.prog tab 143 [.agg (Qn a),.agg (Qn b)] (qa r):=by
 unfold qa6 at c;refine Qz Tryz.func143 J qh qh J<|qd<|Qw _ _ J<|Qw _ _ J<|qb J<|qs<|O _ J<|O _ J<|O _ J<|O _ J<|O _ J<|qb J<|qw ?_;cases c;exact Qe _ J
end Go.Proofs.YtmekakoiicomaaaGreat
