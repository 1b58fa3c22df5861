/- W_Hola -/
import Derived.Test.YtmekakoiicomaaaGreatK15
namespace Go.Proofs.YtmekakoiicomaaaGreat
open Go Go.Am Go.Sh
set_option maxHeartbeats 8000000
set_option maxRecDepth 100000
theorem qh7 (a : Int) (b : Int) (c : Int) (d : Int) (r : List qf) (f : q3e a b c d = some r) : Pure Tryz.prog tab 6 [qa a,qa b,qa c,qa d] (.sl 4 (r.map qj)):=by
 unfold q3e at f;refine Qz Tryz.func6 J qh qh J<|qd<|qb J<|qs<|U J<|U J<|U J<|U J<|O _ J<|Qw _ _ J<|qb J<|qw ?_;obtain rfl:=qr f;exact finD (.inr J) J (Yz J J) (.refl _)
theorem q121 (b : List qf) (f : qf→Option Bool) (p1F : FuncId) (p1C : List DV) (p1Ok : ∀ (h : qf) (r : Bool),f h = some r→Pure Tryz.prog tab p1F ([.agg (qj h)] ++ p1C) (.bool r)) (r : Int) (c : qb1 b f = some r) : Pure Tryz.prog tab 95 [.sl 4 (b.map qj),.fn p1F p1C] (qa r):=by
 unfold qb1 at c;refine Qz Tryz.func95 J qh qh J<|qd<|qb J<|q9<|qe<|qd<|U J<|K1 J<|U J<|q9<|q8 c fun j l c=>?_;refine Qq (fun g=>.inl g = j) (fun g=>⟨[],[],0⟩) qg ?_ ?_
 ·refine Qg (q2d b f) (fun k=>⟨[(0,.d (.sl 4 (b.map qj))),(1,.d (.fn p1F p1C)),(7,q7 (b.length : Int)),(8,q7 k)],[],0⟩) _ j l (wkA [] [] []) ?_;intro k y17 a;unfold q2d at a;refine qd<|O _ J<|q9<|qe ?_;refine qo J a (fun _ a=>?_) (fun _ a=>?_)
  ·refine qm<|qe<|Q6<|qd<|U J<|qb J<|qs<|U J<|U J<|U J<|q8 a fun m n a=>Ql n J<|O _ J<|q8 a fun o p a=>Kw _ (p1Ok m o p) J J J (.inl J)<|q9 ?_;refine qo J a (fun _ a=>?_) (fun _ a=>?_)
   ·refine qd<|U J<|qb J<|qw ?_;refine ⟨_,qp a,fun hm=>?_⟩;subst hm;cases c;exact Qe _ J
   refine qm<|Qh<|Qp<|qz<|O _ J<|U J<|qx<|⟨_,qp a,wkA [] [] []⟩
  refine Q9 ?_;refine ⟨_,qp a,fun hm=>?_⟩;subst hm;exact ⟨_,J,wkA [] [] []⟩
 intro g hb;subst hb;refine qd<|qb J<|qw ?_;cases c;exact Qe _ J
theorem qp6 (b : List qf) (c : qf→Option Bool) (p1F : FuncId) (p1C : List DV) (p1Ok : ∀ (d : qf) (r : Bool),c d = some r→Pure Tryz.prog tab p1F ([.agg (qj d)] ++ p1C) (.bool r)) (r : Bool) (a : q5k b c = some r) : Pure Tryz.prog tab 58 [.sl 4 (b.map qj),.fn p1F p1C] (.bool r):=by
 unfold q5k at a;refine Qz Tryz.func58 J qh qh J<|qd<|qb J<|qs<|U J<|U J<|q8 a fun f g a=>Qa (q121 b c p1F p1C p1Ok f g) J<|O _ J<|qb J<|qw ?_;cases a;exact Qe _ J
theorem qer (c : Int) (r : Bool) (b : q3m c = some r) : Pure Tryz.prog tab 107 [qa c] (.bool r):=by
 unfold q3m at b;refine Qz Tryz.func107 J qh qh J<|qd<|qb J<|qs<|U J<|O _ J<|q8 b fun h a b=>?_;refine Qd 4 (fun A st=>∃ d f g,st = A [(8,Q3 h),(7,g),(6,f),(5,d)]) ?_ ?_
 ·refine Qc J J a (fun a=>?_) (fun a=>?_)
  ·refine U J<|O _ J<|O _ J<|q9 ?_;cases a;exact ⟨_,_,_,J⟩
  refine qc J<|qc J<|O _ J<|q9 ?_;cases a;exact ⟨_,_,_,J⟩
 rintro _ ⟨d,f,g,rfl⟩;refine qb J<|qw ?_;cases b;exact Qe _ J
theorem qog (g : qf) (r : Bool) (a : q7k g = some r) : Pure Tryz.prog tab 69 [.agg (qj g)] (.bool r):=by
 unfold q7k at a;refine Qz Tryz.func69 J qh qh J<|qd<|Qw _ _ J<|qb J<|qs<|O _ J<|O _ J<|O _ J<|O _ J<|O _ J<|q8 a fun c1 h a=>?_;refine Qd 7 (fun A st=>∃ j k l m n o,st = A [(14,Q3 c1),(13,o),(12,n),(11,m),(10,l),(9,k),(8,j)]) ?_ ?_
 ·refine Qc J J h (fun h=>?_) (fun h=>?_)
  ·refine O _ J<|O _ J<|O _ J<|O _ J<|O _ J<|O _ J<|q9 ?_;cases h;exact ⟨_,_,_,_,_,_,J⟩
  refine qc J<|qc J<|qc J<|qc J<|qc J<|O _ J<|q9 ?_;cases h;exact ⟨_,_,_,_,_,_,J⟩
 rintro _ ⟨j,k,l,m,n,o,rfl⟩;refine q8 a fun ah b a=>?_;refine Qd 5 (fun A st=>∃ p q s t,st = A [(19,Q3 ah),(18,t),(17,s),(16,q),(15,p)]) ?_ ?_
 ·refine Qc J J b (fun b=>?_) (fun b=>?_)
  ·refine O _ J<|O _ J<|q8 b fun ai aj b=>Qa (qer g.X0 ai aj) J<|O _ J<|q9 ?_;cases b;exact ⟨_,_,_,_,J⟩
  refine qc J<|qc J<|qc J<|O _ J<|q9 ?_;cases b;exact ⟨_,_,_,_,J⟩
 rintro _ ⟨p,q,s,t,rfl⟩;refine q8 a fun ak c a=>?_;refine Qd 5 (fun A st=>∃ u v w x,st = A [(24,Q3 ak),(23,x),(22,w),(21,v),(20,u)]) ?_ ?_
 ·refine Qc J J c (fun c=>?_) (fun c=>?_)
  ·refine O _ J<|O _ J<|q8 c fun al am c=>Qa (qer g.X1 al am) J<|O _ J<|q9 ?_;cases c;exact ⟨_,_,_,_,J⟩
  refine qc J<|qc J<|qc J<|O _ J<|q9 ?_;cases c;exact ⟨_,_,_,_,J⟩
 rintro _ ⟨u,v,w,x,rfl⟩;refine q8 a fun an d a=>?_;refine Qd 5 (fun A st=>∃ y z aa ab,st = A [(29,Q3 an),(28,ab),(27,aa),(26,z),(25,y)]) ?_ ?_
 ·refine Qc J J d (fun d=>?_) (fun d=>?_)
  ·refine O _ J<|O _ J<|q8 d fun ao ap d=>Qa (qer g.Y0 ao ap) J<|O _ J<|q9 ?_;cases d;exact ⟨_,_,_,_,J⟩
  refine qc J<|qc J<|qc J<|O _ J<|q9 ?_;cases d;exact ⟨_,_,_,_,J⟩
 rintro _ ⟨y,z,aa,ab,rfl⟩;refine q8 a fun aq f a=>?_;refine Qd 5 (fun A st=>∃ ac ad ae af,st = A [(34,Q3 aq),(33,af),(32,ae),(31,ad),(30,ac)]) ?_ ?_
 ·refine Qc J J f (fun f=>?_) (fun f=>?_)
  ·refine O _ J<|O _ J<|q8 f fun ar au f=>Qa (qer g.Y1 ar au) J<|O _ J<|q9 ?_;cases f;exact ⟨_,_,_,_,J⟩
  refine qc J<|qc J<|qc J<|O _ J<|q9 ?_;cases f;exact ⟨_,_,_,_,J⟩
 rintro _ ⟨ac,ad,ae,af,rfl⟩;refine qb J<|qw ?_;cases a;exact Qe _ J
theorem qzn (b : qf) (r : Bool) (a : q3k b = some r) : Pure Tryz.prog tab 68 [.agg (qj b)] (.bool r):=by
 unfold q3k at a;refine Qz Tryz.func68 J qh qh J<|qd<|Qw _ _ J<|qb J<|qs<|O _ J<|q8 a fun c d a=>Qa (qog b c d) J<|O _ J<|qb J<|qw ?_;cases a;exact Qe _ J
theorem qv9 (k : Int) (r : Int) (a : q27 k = some r) : Pure Tryz.prog tab 161 [.int .u64 k] (qa r):=by
 unfold q27 at a;refine Qz Tryz.func161 J qh qh J<|qd<|qb J<|q9<|qe<|qd<|U J<|O _ J<|q9<|q8 a fun l b a=>?_;refine Ya (fun c=>c = l) (fun c=>⟨[(0,.d (.int .u64 c.1)),(2,q7 c.2)],[],0⟩) qg ?_ ?_
 ·refine qo J b (fun _ b=>?_) (fun _ b=>?_)
  ·refine qd<|U J<|O _ J<|qb J<|q9<|qz<|qb J<|qx ?_;obtain rfl:=qr b;exact ⟨_,J,wkA [] [] []⟩
  refine qm<|Qh ?_;obtain rfl:=qr b;exact ⟨_,J,wkA [] [] []⟩
 intro c hb;subst hb;refine qe<|qd<|U J<|O _ J<|q9<|q8 a fun m f a=>?_;refine Ya (fun g=>g = m) (fun g=>⟨[(0,.d (.int .u64 g.1)),(2,q7 g.2)],[],0⟩) qg ?_ ?_
 ·refine qo J f (fun _ f=>?_) (fun _ f=>?_)
  ·refine qd<|U J<|O _ J<|qb J<|q9<|qz<|U J<|O _ J<|qb J<|qx ?_;obtain rfl:=qr f;exact ⟨_,J,wkA [] [] []⟩
  refine qm<|Qh ?_;obtain rfl:=qr f;exact ⟨_,J,wkA [] [] []⟩
 intro g hb;subst hb;refine qe<|qd<|U J<|O _ J<|q9<|q8 a fun n h a=>?_;refine Ya (fun j=>j = n) (fun j=>⟨[(0,.d (.int .u64 j.1)),(2,q7 j.2)],[],0⟩) qg ?_ ?_
 ·refine qo J h (fun _ h=>?_) (fun _ h=>?_)
  ·refine qd<|U J<|O _ J<|qb J<|q9<|qz<|U J<|O _ J<|qb J<|qx ?_;obtain rfl:=qr h;exact ⟨_,J,wkA [] [] []⟩
  refine qm<|Qh ?_;obtain rfl:=qr h;exact ⟨_,J,wkA [] [] []⟩
 intro j hb;subst hb;refine qd<|U J<|U J<|O _ J<|q8 a fun p o a=>qxc qd2 o J J J J J<|O _ J<|O _ J<|qb J<|qw ?_;cases a;exact Qe _ J
theorem qe7 (b : Int) (r : Int) (a : U3 b = some r) : Pure Tryz.prog tab 141 [.int .u64 b] (qa r):=by
 unfold U3 at a;refine Qz Tryz.func141 J qh qh J<|qd<|qb J<|q9<|qe<|Zg J<|qm<|qd<|U J<|q8 a fun c d a=>Qa (qv9 b c d) J<|qb J<|qw ?_;cases a;exact Qe _ J
theorem qk3 (a : Int) (r : Bool) (b : q99 a = some r) : Pure Tryz.prog tab 170 [qa a] (.bool r):=by
 unfold q99 at b;refine Qz Tryz.func170 J qh qh J<|qd<|qb J<|qs<|U J<|U J<|O _ J<|qb J<|qw ?_;cases b;exact Qe _ J
theorem Je (d : Int) (f : Int) (r : Bool) (a : Zh d f = some r) : Pure Tryz.prog tab 157 [qa d,qa f] (.bool r):=by
 unfold Zh at a;refine Qz Tryz.func157 J qh qh J<|qd<|qb J<|qs<|U J<|q8 a fun p q a=>Qa (qk3 d p q) J<|q8 a fun s b a=>?_;refine Qd 5 (fun A st=>∃ g h j k,st = A [(11,Q3 s),(10,k),(9,j),(8,h),(7,g)]) ?_ ?_
 ·refine Qc J J b (fun b=>?_) (fun b=>?_)
  ·refine U J<|q8 b fun t u b=>Qa (qk3 f t u) J<|O _ J<|O _ J<|q9 ?_;cases b;exact ⟨_,_,_,_,J⟩
  refine qc J<|qc J<|qc J<|O _ J<|q9 ?_;cases b;exact ⟨_,_,_,_,J⟩
 rintro _ ⟨g,h,j,k,rfl⟩;refine q8 a fun v c a=>?_;refine Qd 5 (fun A st=>∃ l m n o,st = A [(16,Q3 v),(15,o),(14,n),(13,m),(12,l)]) ?_ ?_
 ·refine Qc J J c (fun c=>?_) (fun c=>?_)
  ·refine qc J<|qc J<|qc J<|O _ J<|q9 ?_;cases c;exact ⟨_,_,_,_,J⟩
  refine U J<|U J<|O _ J<|O _ J<|q9 ?_;cases c;exact ⟨_,_,_,_,J⟩
 rintro _ ⟨l,m,n,o,rfl⟩;refine qb J<|qw ?_;cases a;exact Qe _ J
theorem q12j (m : List Int) (f : Int) (g : Int) (r : List Int) (k : q7w  m f g = some r) : K8 Tryz.prog tab 151 [.hs 0 1 0 m.length,q7 f,q7 g] [(0,.dat 1 (m.map (eI .i64)))] 1 (.d (.tup [])) [(0,.dat 1 (r.map (eI .i64)))] 1:=by
 unfold q7w at k;refine Kd Tryz.func151 J qh qh J<|qd<|U J<|O _ J<|qb J<|q9<|q8 k fun ai aj k=>Q6<|Qg (q7x g f) (fun h=>⟨[(0,.hs 0 1 0 h.2.length),(1,q7 f),(2,q7 g),(6,q7 h.1)],[(0,.dat 1 (h.2.map (eI .i64)))],1⟩) _ ai aj (wkA [] [] []) ?_;intro h au c;unfold q7x at c;refine qe<|qd<|U J<|U J<|O _ J<|q9 ?_;refine qo J c (fun _ c=>?_) (fun _ c=>?_)
 ·refine qm<|qe<|q8 c fun ak n c=>?_;refine Qq (fun j=>j = ak) (fun j=>⟨[(0,.hs 0 1 0 j.length),(1,q7 f),(2,q7 g),(6,q7 h.1)],[(0,.dat 1 (j.map (eI .i64)))],1⟩) qg ?_ ?_
  ·refine qd<|U J<|qb J<|q9<|q8 n fun al am n=>Q6<|Qg (q7y f) (fun l=>⟨[(0,.hs 0 1 0 l.2.length),(1,q7 f),(2,q7 g),(6,q7 h.1),(7,q7 l.1)],[(0,.dat 1 (l.2.map (eI .i64)))],1⟩) _ al am (wkA [] [] []) ?_;intro l av a;unfold q7y at a;refine qe<|qe<|Qb [q0,q0,qq 0,q0,q0,q0,q0,qq 0,q0,q0,q0,q0,q0,q0,q0] qh<|U J<|U J<|O _ J<|q8 a fun an b a=>?_;refine Qd 12 (fun A st=>∃ o p q s t u v w x y z,st = A [(30,Q3 an),(29,z),(28,y),(27,x),(26,w),(25,v),(24,u),(23,t),(22,s),(21,q),(20,p),(19,o)]) ?_ ?_
   ·refine Qc J J b (fun b=>?_) (fun b=>?_)
    ·refine U J<|U J<|q8 b fun ao aa b=>qt aa J J<|Q7 _ aa J<|U J<|U J<|O _ J<|q8 b fun ap ab b=>qt ab J J<|Q7 _ ab J<|q8 b fun aq ar b=>Qa (Je ao ap aq ar) J<|O _ J<|q9 ?_;cases b;exact ⟨_,_,_,_,_,_,_,_,_,_,_,J⟩
    refine qc J<|qc J<|qc J<|qc J<|qc J<|qc J<|qc J<|qc J<|qc J<|qc J<|O _ J<|q9 ?_;cases b;exact ⟨_,_,_,_,_,_,_,_,_,_,_,J⟩
   rintro _ ⟨o,p,q,s,t,u,v,w,x,y,z,rfl⟩;refine q9 ?_;refine qo J a (fun _ a=>?_) (fun _ a=>?_)
   ·refine qm<|qe<|Q6<|Qb [Qo 0,q0,Qo 0,q0,qq 0,q0,q0,q0,qq 0,q0,q0,q0,q0,q0,q0,q0,q0,q0] qh<|U J<|U J<|U J<|U J<|O _ J<|U J<|U J<|O _ J<|q8 a fun ac ad a=>qt ad J J<|Q7 _ ad J<|U J<|U J<|q8 a fun ae af a=>qt af J J<|Q7 _ af J<|q8 a fun aw ag a=>qt ag J J<|Qx (ds:=[qa ac]) ac ag J J J J J J J J (leb J) J<|q8 a fun ax ah a=>qt ah qg J<|Qx (ds:=[qa ae]) ae ah J J J J J J J J (leb J) J<|qx<|Qp<|qz<|U J<|O _ J<|qb J<|qx<|⟨_,qp a,wkE [] [] [] J ⟨⟨_,J,K2 qg J qy (ltd J)⟩,qi J,qi J,qi J,qi J,trivial⟩ ⟨Qf J J,trivial⟩⟩
   refine Q9 ?_;refine ⟨_,qp a,fun hm=>?_⟩;subst hm;obtain rfl:=qr n;exact ⟨_,J,wkA [] [] []⟩
  intro j hb;subst hb;refine qz<|U J<|O _ J<|qb J<|qx<|⟨_,qp c,wkA [] [] []⟩
 refine Q9 ?_;refine ⟨_,qp c,fun hm=>?_⟩;subst hm;obtain rfl:=qr k;exact ⟨.inl J,_,J,wkA [] [] []⟩
theorem qpf (l : List Int) (m : Int) (f : Int) (g : Int) (r : List Int) (h : q5x  l m f g = some r) : K8 Tryz.prog tab 165 [.hs 0 1 0 l.length,q7 m,q7 f,q7 g] [(0,.dat 1 (l.map (eI .i64)))] 1 (.d (.tup [])) [(0,.dat 1 (r.map (eI .i64)))] 1:=by
 unfold q5x at h;refine Kd Tryz.func165 J qh qh J<|qd<|U J<|qb J<|q9<|q8 h fun an ao h=>Q6<|Qg (q8r f g) (fun c=>⟨[(0,.hs 0 1 0 c.2.length),(2,q7 f),(3,q7 g),(8,q7 c.1)],[(0,.dat 1 (c.2.map (eI .i64)))],1⟩) _ an ao (wkA [] [] []) ?_;intro c bb a;unfold q8r at a;refine Q6<|qd<|U J<|O _ J<|O _ J<|qb J<|q9<|qe<|qd<|U J<|U J<|O _ J<|q9 ?_;refine qo J a (fun _ a=>?_) (fun _ a=>?_)
 ·refine Q9 ?_;refine ⟨_,qp a,fun hm=>?_⟩;subst hm;obtain rfl:=qr h;exact ⟨.inl J,_,J,wkA [] [] []⟩
 refine qm<|qe<|qe<|Qb [q0,q0,qq 0,q0,q0,q0,q0,q0,q0,qq 0,q0,q0,q0,q0,q0,q0,q0,q0,q0,q0] qh<|U J<|O _ J<|U J<|O _ J<|q8 a fun ap b a=>?_;refine Qd 16 (fun A st=>∃ n o p q s t u v w x y z aa ab ac,st = A [(36,Q3 ap),(35,ac),(34,ab),(33,aa),(32,z),(31,y),(30,x),(29,w),(28,v),(27,u),(26,t),(25,s),(24,q),(23,p),(22,o),(21,n)]) ?_ ?_
 ·refine Qc J J b (fun b=>?_) (fun b=>?_)
  ·refine U J<|U J<|U J<|O _ J<|q8 b fun aq ad b=>qt ad J J<|Q7 _ ad J<|U J<|U J<|U J<|O _ J<|O _ J<|q8 b fun ar ae b=>qt ae J J<|Q7 _ ae J<|q8 b fun au av b=>Qa (Je aq ar au av) J<|O _ J<|q9 ?_;cases b;exact ⟨_,_,_,_,_,_,_,_,_,_,_,_,_,_,_,J⟩
  refine qc J<|qc J<|qc J<|qc J<|qc J<|qc J<|qc J<|qc J<|qc J<|qc J<|qc J<|qc J<|qc J<|qc J<|O _ J<|q9 ?_;cases b;exact ⟨_,_,_,_,_,_,_,_,_,_,_,_,_,_,_,J⟩
 rintro _ ⟨n,o,p,q,s,t,u,v,w,x,y,z,aa,ab,ac,rfl⟩;refine q9<|q8 a fun aw j a=>?_;refine Ya (fun k=>k = aw) (fun k=>⟨[(0,.hs 0 1 0 c.2.length),(2,q7 f),(3,q7 g),(8,q7 c.1),(9,q7 k)],[(0,.dat 1 (c.2.map (eI .i64)))],1⟩) qg ?_ ?_
 ·refine qo J j (fun _ j=>?_) (fun _ j=>?_)
  ·refine qz<|U J<|O _ J<|qb J<|qx ?_;obtain rfl:=qr j;exact ⟨_,J,wkA [] [] []⟩
  refine qm<|Qh ?_;obtain rfl:=qr j;exact ⟨_,J,wkA [] [] []⟩
 intro k hb;subst hb;refine qe<|qe<|Qb [q0,q0,qq 0,q0,q0,q0,q0,q0,qq 0,q0,q0,q0,q0,q0] qh<|U J<|U J<|U J<|O _ J<|q8 a fun ax af a=>qt af J J<|Q7 _ af J<|U J<|U J<|U J<|O _ J<|q8 a fun ay ag a=>qt ag J J<|Q7 _ ag J<|q8 a fun az ba a=>Qa (Je ax ay az ba) J<|O _ J<|q9 ?_;refine qo J a (fun _ a=>?_) (fun _ a=>?_)
 ·refine Uy ?_;refine ⟨_,qp a,fun hm=>?_⟩;subst hm;obtain rfl:=qr h;exact ⟨.inr J,_,J,wkA [] [] []⟩
 refine qm<|qe<|Qb [Qo 0,q0,Qo 0,q0,qq 0,q0,q0,q0,q0,q0,qq 0,q0,q0,q0,q0,q0,q0,q0,q0,q0,q0,q0,q0,q0] qh<|U J<|U J<|U J<|O _ J<|U J<|U J<|U J<|O _ J<|U J<|U J<|U J<|O _ J<|q8 a fun ah ai a=>qt ai J J<|Q7 _ ai J<|U J<|U J<|U J<|O _ J<|q8 a fun aj ak a=>qt ak J J<|Q7 _ ak J<|q8 a fun bc al a=>qt al J J<|Qx (ds:=[qa ah]) ah al J J J J J J J J (leb J) J<|q8 a fun bd am a=>qt am qg J<|Qx (ds:=[qa aj]) aj am J J J J J J J J (leb J) J<|q9<|qz<|U J<|qb J<|qx<|Qp<|Qh<|⟨_,qp a,wkE [] [] [] J ⟨⟨_,J,K2 qg J qy (ltd J)⟩,qi J,qi J,qi J,trivial⟩ ⟨Qf J J,trivial⟩⟩
theorem q12g (l : List Int) (b : Int) (g : Int) (r : List Int) (h : q7t  l b g = some r) : K8 Tryz.prog tab 152 [.hs 0 1 0 l.length,q7 b,q7 g] [(0,.dat 1 (l.map (eI .i64)))] 1 (.d (.tup [])) [(0,.dat 1 (r.map (eI .i64)))] 1:=by
 unfold q7t at h;refine Kd Tryz.func152 J qh qh J<|qd<|U J<|qb J<|qs<|qb J<|qs<|U J<|U J<|O _ J<|qb J<|q9<|qe<|qd<|U J<|O _ J<|O _ J<|qb J<|q9<|q8 h fun p w h=>?_;refine Qq (fun k=>k = p) (fun k=>⟨[(0,.hs 0 1 0 k.length),(6,q7 b),(7,q7 0),(8,.d (qa (w64 (g - b))))],[(0,.dat 1 (k.map (eI .i64)))],1⟩) qg ?_ ?_
 ·refine Qg (q7u g b) (fun j=>⟨[(0,.hs 0 1 0 j.2.length),(6,q7 b),(7,q7 0),(8,.d (qa (w64 (g - b)))),(9,q7 j.1)],[(0,.dat 1 (j.2.map (eI .i64)))],1⟩) _ p w (wkA [] [] []) ?_;intro j af c;unfold q7u at c;refine qe<|qd<|U J<|O _ J<|q9 ?_;refine qo J c (fun _ c=>?_) (fun _ c=>?_)
  ·refine qm<|qe<|Q6<|qz<|U J<|U J<|U J<|U J<|q8 c fun q x c=>q8 c fun ag y c=>?_;have z:=Ke y;refine K9 [(0,0)] [(0,0)] _ (.d (.tup [])) 1 [(0,.dat 1 (q.map (eI .i64)))] 1 (qpf j.2 j.1 (w64 (g - b)) b q x)<|qx<|Qp<|qz<|U J<|O _ J<|qb J<|qx<|⟨_,qp c,wkE [] [] [] J ⟨⟨_,J,K2 (by simp [z]) J qy (ltd J)⟩,qi J,qi J,qi J,qi J,trivial⟩ ⟨Qf J J,trivial⟩⟩
  refine Q9 ?_;refine ⟨_,qp c,fun hm=>?_⟩;subst hm;exact ⟨_,J,wkA [] [] []⟩
 intro k hb;subst hb;refine qd<|U J<|O _ J<|qb J<|q9<|q8 h fun aa ab h=>Q6<|Qg (q7v b) (fun f=>⟨[(0,.hs 0 1 0 f.2.length),(6,q7 b),(7,q7 0),(10,q7 f.1)],[(0,.dat 1 (f.2.map (eI .i64)))],1⟩) _ aa ab (wkA [] [] []) ?_;intro f ah a;unfold q7v at a;refine qe<|qd<|U J<|O _ J<|q9 ?_;refine qo J a (fun _ a=>?_) (fun _ a=>?_)
 ·refine qm<|qe<|Q6<|qe<|Qb [Qo 0,q0,Qo 0,q0,qq 0,q0,q0,q0,qq 0,q0,q0,q0,q0,q0,q0,q0,q0,q0,q0,q0] qh<|U J<|U J<|U J<|U J<|U J<|O _ J<|U J<|U J<|U J<|O _ J<|q8 a fun m s a=>qt s J J<|Q7 _ s J<|U J<|U J<|q8 a fun n t a=>qt t J J<|Q7 _ t J<|q8 a fun ai u a=>qt u J J<|Qx (ds:=[qa m]) m u J J J J J J J J (leb J) J<|q8 a fun aj v a=>qt v qg J<|Qx (ds:=[qa n]) n v J J J J J J J J (leb J) J<|q9<|qz<|U J<|U J<|U J<|U J<|q8 a fun o ac a=>q8 a fun ak ad a=>?_;have ae:=Ke ad;refine Zx [(0,0)] [(0,0)] [.hs 0 1 0 f.2.length,q7 0,q7 f.1,q7 b] (.d (.tup [])) [(0,.dat 1 (o.map (eI .i64)))] [(0,.dat 1 (o.map (eI .i64)))] 1 (qpf ((f.2.set b.toNat m).set (w64 (b + f.1)).toNat n) 0 f.1 b o ac) J J J (Y4 [(0,0)] [] [] J ⟨⟨_,J,K2 qg J qy (ltd J)⟩,qi J,qi J,qi J,trivial⟩ ⟨Qf J J,trivial⟩) (Y4 [(0,0)] [] [] J ⟨qi J,trivial⟩ ⟨Qf J J,trivial⟩) J ⟨.inl J,trivial⟩<|qx<|Qp<|qz<|U J<|O _ J<|qb J<|qx<|⟨_,qp a,wkE [] [] [] J ⟨⟨_,J,K2 (by simp [ae]) J qy (ltd J)⟩,qi J,qi J,qi J,trivial⟩ ⟨Qf J J,trivial⟩⟩
 refine Q9 ?_;refine ⟨_,qp a,fun hm=>?_⟩;subst hm;obtain rfl:=qr h;exact ⟨.inl J,_,J,wkA [] [] []⟩
theorem qik (b : List Int) (c : Int) (f : Int) (g : Int) (r : Int × Int × Int) (a : q3u  b c f g = some r) : K8 Tryz.prog tab 187 [.d (.sl 1 (b.map (eI .i64))),q7 c,q7 f,.ref 0 1 0 0] [(0,.dat 1 [[qa g]])] 1 (.d (.tup [qa r.1,qa r.2.1])) [(0,.dat 1 [[qa r.2.2]])] 1:=by
 unfold q3u at a;refine Kd Tryz.func187 J qh qh J<|qd<|qb J<|qb J<|q9<|qe<|qe<|Qb [q0,q0,q0,q0,q0,q0,q0,q0,q0] qh<|U J<|U J<|q8 a fun h j a=>Ql j J<|O _ J<|U J<|U J<|q8 a fun k l a=>Ql l J<|O _ J<|q8 a fun m n a=>Qa (Je h k m n) J<|q9 ?_;refine qo J a (fun _ a=>?_) (fun _ a=>?_)
 ·refine qd<|U J<|O _ J<|O _ J<|O _ J<|O _ J<|Q8 0 _ J<|qs<|U J<|U J<|qb J<|qb J<|qw ?_;obtain rfl:=qr a;exact ⟨.inr J,_,J,wkA [] [] []⟩
 refine qm<|qd<|U J<|U J<|qb J<|qb J<|qw ?_;obtain rfl:=qr a;exact ⟨.inr J,_,J,wkA [] [] []⟩
theorem qpc (f : List Int) (h : Int) (j : Int) (k : Int) (l : Int) (r : Int × Int) (a : q5q  f h j k l = some r) : K8 Tryz.prog tab 169 [.d (.sl 1 (f.map (eI .i64))),q7 h,q7 j,q7 k,.ref 0 1 0 0] [(0,.dat 1 [[qa l]])] 1 (q7 r.1) [(0,.dat 1 [[qa r.2]])] 1:=by
 unfold q5q at a;refine Kd Tryz.func169 J qh qh J<|qd<|qb J<|qs<|U J<|U J<|U J<|U J<|q8 a fun b m a=>K9 [(0,0)] [(0,0)] _ (.d (.tup [qa b.1,qa b.2.1])) 1 [(0,.dat 1 [[qa b.2.2]])] 1 (qik f h j l b m)<|U J<|O _ J<|O _ J<|qb J<|qb J<|qs<|U J<|U J<|U J<|U J<|q8 a fun c n a=>K9 [(0,0)] [(0,0)] _ (.d (.tup [qa c.1,qa c.2.1])) 1 [(0,.dat 1 [[qa c.2.2]])] 1 (qik f b.2.1 k b.2.2 c n)<|U J<|O _ J<|O _ J<|qb J<|qb J<|qs<|U J<|U J<|U J<|U J<|q8 a fun g o a=>K9 [(0,0)] [(0,0)] _ (.d (.tup [qa g.1,qa g.2.1])) 1 [(0,.dat 1 [[qa g.2.2]])] 1 (qik f b.1 c.1 c.2.2 g o)<|U J<|O _ J<|O _ J<|qb J<|qb J<|qs ?_;refine U J<|qb J<|qw ?_;obtain rfl:=qr a;exact ⟨.inr J,_,J,wkA [] [] []⟩
theorem qig (c : List Int) (a : Int) (f : Int) (r : Int × Int) (b : q3t  c a f = some r) : K8 Tryz.prog tab 168 [.d (.sl 1 (c.map (eI .i64))),q7 a,.ref 0 1 0 0] [(0,.dat 1 [[qa f]])] 1 (q7 r.1) [(0,.dat 1 [[qa r.2]])] 1:=by
 unfold q3t at b;refine Kd Tryz.func168 J qh qh J<|qd<|qb J<|qs<|U J<|U J<|O _ J<|U J<|U J<|O _ J<|U J<|q8 b fun g h b=>K9 [(0,0)] [(0,0)] _ (q7 g.1) 1 [(0,.dat 1 [[qa g.2]])] 1 (qpc c (w64 (a - 1)) a (w64 (a + 1)) f g h)<|qb J<|qw ?_;obtain rfl:=qr b;exact ⟨.inr J,_,J,wkA [] [] []⟩
theorem q12d (h : List Int) (g : Int) (j : Int) (r : Int × Int) (a : q7s h g j = some r) : Pure Tryz.prog tab 154 [.sl 1 (h.map (eI .i64)),qa g,qa j] (.tup [qa r.1,qa r.2]):=by
 unfold q7s at a;refine Qz Tryz.func154 J qh qh J<|qd<|qb J<|qb J<|qs<|U J<|U J<|O _ J<|qb J<|qs<|Qu J J<|qs<|U J<|U J<|O _ J<|O _ J<|O _ J<|qb J<|qs<|U J<|U J<|O _ J<|O _ J<|O _ J<|qb J<|qs<|U J<|U J<|O _ J<|O _ J<|O _ J<|qb J<|q9<|qe<|qd<|U J<|O _ J<|q9<|q8 a fun p f a=>?_;refine Ya (fun k=>k = p) (fun k=>⟨[(9,.ref 0 1 0 0),(11,q7 k.1)],[(0,.dat 1 [[qa k.2]])],1⟩) qg ?_ ?_
 ·refine qo J f (fun _ f=>?_) (fun _ f=>?_)
  ·refine qe<|qd<|U J<|O _ J<|q9<|q8 f fun q b f=>?_;refine Ya (fun c=>c = q) (fun c=>⟨[(0,.d (.sl 1 (h.map (eI .i64)))),(9,.ref 0 1 0 0),(10,q7 c.1),(11,q7 c.2.1),(12,q7 c.2.2.1)],[(0,.dat 1 [[qa c.2.2.2]])],1⟩) qg ?_ ?_
   ·refine qo J b (fun _ b=>?_) (fun _ b=>?_)
    ·refine qd<|U J<|U J<|q8 b fun l s b=>K9 [(0,0)] [(0,0)] _ (q7 l.1) 1 [(0,.dat 1 [[qa l.2]])] 1 (qig h (w64 (g + (w64 ((w64 (Int.tdiv (w64 (j - g)) 4)) * 1)))) 0 l s)<|qb J<|qs<|U J<|U J<|q8 b fun m t b=>K9 [(0,0)] [(0,0)] _ (q7 m.1) 1 [(0,.dat 1 [[qa m.2]])] 1 (qig h (w64 (g + (w64 ((w64 (Int.tdiv (w64 (j - g)) 4)) * 2)))) l.2 m t)<|qb J<|q9<|qz<|U J<|U J<|q8 b fun n u b=>K9 [(0,0)] [(0,0)] _ (q7 n.1) 1 [(0,.dat 1 [[qa n.2]])] 1 (qig h (w64 (g + (w64 ((w64 (Int.tdiv (w64 (j - g)) 4)) * 3)))) m.2 n u)<|qb J<|qx ?_;obtain rfl:=qr b;exact ⟨_,J,wkA [(0,0)] [] []⟩
    refine qm<|Qh ?_;obtain rfl:=qr b;exact ⟨_,J,wkA [(0,0)] [] []⟩
   intro c hb;subst hb;refine qz<|U J<|U J<|U J<|U J<|q8 f fun o v f=>K9 [(0,0)] [(0,0)] _ (q7 o.1) 1 [(0,.dat 1 [[qa o.2]])] 1 (qpc h c.1 c.2.1 c.2.2.1 c.2.2.2 o v)<|qb J<|qx ?_;obtain rfl:=qr f;exact ⟨_,J,wkA [(0,0)] [] []⟩
  refine qm<|Qh ?_;obtain rfl:=qr f;exact ⟨_,J,wkA [(0,0)] [] []⟩
 intro k hb;subst hb;refine qd<|O _ J<|q9<|Q6<|qd<|O _ J<|qb J<|q9 ?_;refine qo J a (fun _ a=>?_) (fun _ a=>?_)
 ·refine qd<|U J<|qb J<|qb J<|qw ?_;cases a;exact Qe _ J
 refine qd<|O _ J<|qb J<|q9 ?_;refine qo J a (fun _ a=>?_) (fun _ a=>?_)
 ·refine qd<|U J<|qb J<|qb J<|qw ?_;cases a;exact Qe _ J
 refine qd<|U J<|qb J<|qb J<|qw ?_;cases a;exact Qe _ J
theorem q131 (f : List Int) (g : Int) (h : Int) (r : List Int) (c : q8o  f g h = some r) : K8 Tryz.prog tab 155 [.hs 0 1 0 f.length,q7 g,q7 h] [(0,.dat 1 (f.map (eI .i64)))] 1 (.d (.tup [])) [(0,.dat 1 (r.map (eI .i64)))] 1:=by
 unfold q8o at c;refine Kd Tryz.func155 J qh qh J<|qd<|U J<|qb J<|qs<|U J<|O _ J<|qb J<|q9<|q8 c fun p q c=>Q6<|Qg (qci) (fun b=>⟨[(0,.hs 0 1 0 b.2.2.length),(6,q7 b.1),(7,q7 b.2.1)],[(0,.dat 1 (b.2.2.map (eI .i64)))],1⟩) _ p q (wkA [] [] []) ?_;intro b s a;unfold qci at a;refine qe<|qd<|U J<|U J<|O _ J<|q9 ?_;refine qo J a (fun _ a=>?_) (fun _ a=>?_)
 ·refine qm<|Q6<|qe<|Qb [Qo 0,q0,Qo 0,q0,qq 0,q0,q0,q0,qq 0,q0,q0,q0,q0,q0,q0,q0] qh<|U J<|U J<|U J<|U J<|U J<|U J<|q8 a fun j k a=>qt k J J<|Q7 _ k J<|U J<|U J<|q8 a fun l m a=>qt m J J<|Q7 _ m J<|q8 a fun t n a=>qt n J J<|Qx (ds:=[qa j]) j n J J J J J J J J (leb J) J<|q8 a fun u o a=>qt o qg J<|Qx (ds:=[qa l]) l o J J J J J J J J (leb J) J<|qs<|U J<|O _ J<|qb J<|q9<|qz<|U J<|O _ J<|qb J<|qx<|Qp<|Qh<|⟨_,qp a,wkE [] [] [] J ⟨⟨_,J,K2 qg J qy (ltd J)⟩,qi J,qi J,trivial⟩ ⟨Qf J J,trivial⟩⟩
 refine Q9 ?_;refine ⟨_,qp a,fun hm=>?_⟩;subst hm;obtain rfl:=qr c;exact ⟨.inl J,_,J,wkA [] [] []⟩
theorem q12m (u : List Int) (h : Int) (f : Int) (r : Bool × List Int) (n : q5t  u h f = some r) : K8 Tryz.prog tab 156 [.hs 0 1 0 u.length,q7 h,q7 f] [(0,.dat 1 (u.map (eI .i64)))] 1 (Q3 r.1) [(0,.dat 1 (r.2.map (eI .i64)))] 1:=by
 unfold q5t at n;refine Kd Tryz.func156 J qh qh J<|qd<|qb J<|qs<|U J<|O _ J<|qb J<|q9<|qe<|qd<|qb J<|q9<|q8 n fun x bk n=>?_;refine Qq (fun q=>.inl q = x) (fun q=>⟨[],[(0,.dat 1 (q.map (eI .i64)))],1⟩) qg ?_ ?_
 ·refine Qg (q5u f h) (fun d=>⟨[(0,.hs 0 1 0 d.2.2.length),(1,q7 h),(2,q7 f),(7,q7 d.1),(8,q7 d.2.1)],[(0,.dat 1 (d.2.2.map (eI .i64)))],1⟩) _ x bk (wkA [] [] []) ?_;intro d ch j;unfold q5u at j;refine qe<|qd<|U J<|O _ J<|q9 ?_;refine qo J j (fun _ j=>?_) (fun _ j=>?_)
  ·refine qm<|qe<|q8 j fun bl a j=>?_;refine Qq (fun o=>.inl o = bl) (fun o=>⟨[(0,.hs 0 1 0 o.2.length),(1,q7 h),(2,q7 f),(7,q7 o.1),(8,q7 d.2.1)],[(0,.dat 1 (o.2.map (eI .i64)))],1⟩) qg ?_ ?_
   ·refine qe<|q8 a fun y bm a=>?_;refine Qq (fun k=>k = y) (fun k=>⟨[(0,.hs 0 1 0 d.2.2.length),(1,q7 h),(2,q7 f),(7,q7 k),(8,q7 d.2.1)],[(0,.dat 1 (d.2.2.map (eI .i64)))],1⟩) qg ?_ ?_
    ·refine Qg (q85 f d) (fun z=>⟨[(0,.hs 0 1 0 d.2.2.length),(1,q7 h),(2,q7 f),(7,q7 z),(8,q7 d.2.1)],[(0,.dat 1 (d.2.2.map (eI .i64)))],1⟩) _ y bm (wkA [] [] []) ?_;intro z ci l;unfold q85 at l;refine qe<|qe<|Qb [q0,q0,q0,qq 0,q0,q0,q0,q0,qq 0,q0,q0,q0,q0,q0,q0,q0] qh<|U J<|U J<|O _ J<|q8 l fun bn g l=>?_;refine Qd 13 (fun A st=>∃ aa ab ac ad ae af ag ah ai aj ak al,st = A [(32,Q3 bn),(31,al),(30,ak),(29,aj),(28,ai),(27,ah),(26,ag),(25,af),(24,ae),(23,ad),(22,ac),(21,ab),(20,aa)]) ?_ ?_
     ·refine Qc J J g (fun g=>?_) (fun g=>?_)
      ·refine U J<|U J<|q8 g fun bo am g=>qt am J J<|Q7 _ am J<|U J<|U J<|O _ J<|q8 g fun bp an g=>qt an J J<|Q7 _ an J<|q8 g fun bq br g=>Qa (Je bo bp bq br) J<|O _ J<|O _ J<|q9 ?_;cases g;exact ⟨_,_,_,_,_,_,_,_,_,_,_,_,J⟩
      refine qc J<|qc J<|qc J<|qc J<|qc J<|qc J<|qc J<|qc J<|qc J<|qc J<|qc J<|O _ J<|q9 ?_;cases g;exact ⟨_,_,_,_,_,_,_,_,_,_,_,_,J⟩
     rintro _ ⟨aa,ab,ac,ad,ae,af,ag,ah,ai,aj,ak,al,rfl⟩;refine q9 ?_;refine qo J l (fun _ l=>?_) (fun _ l=>?_)
     ·refine qm<|Q6<|qz<|U J<|O _ J<|qb J<|qx<|Qp<|Qh<|⟨_,qp l,wkA [] [] []⟩
     refine Q9 ?_;refine ⟨_,qp l,fun hm=>?_⟩;subst hm;exact ⟨_,J,wkA [] [] []⟩
    intro k hb;subst hb;refine qe<|qd<|U J<|U J<|O _ J<|q9 ?_;refine qo J a (fun _ a=>?_) (fun _ a=>?_)
    ·refine qd<|qb J<|qw ?_;obtain rfl:=qr a;refine ⟨_,qp j,fun hm=>?_⟩;subst hm;obtain rfl:=qr n;exact ⟨.inr J,_,J,wkA [] [] []⟩
    refine qm<|qe<|qd<|U J<|U J<|O _ J<|O _ J<|q9 ?_;refine qo J a (fun _ a=>?_) (fun _ a=>?_)
    ·refine qd<|qb J<|qw ?_;obtain rfl:=qr a;refine ⟨_,qp j,fun hm=>?_⟩;subst hm;obtain rfl:=qr n;exact ⟨.inr J,_,J,wkA [] [] []⟩
    refine qm<|qe<|Qb [Qo 0,q0,Qo 0,q0,qq 0,q0,q0,q0,qq 0,q0,q0,q0,q0,q0,q0,q0,q0,q0] qh<|U J<|U J<|U J<|U J<|O _ J<|U J<|U J<|O _ J<|q8 a fun ao ap a=>qt ap J J<|Q7 _ ap J<|U J<|U J<|q8 a fun aq ar a=>qt ar J J<|Q7 _ ar J<|q8 a fun cj au a=>qt au J J<|Qx (ds:=[qa ao]) ao au J J J J J J J J (leb J) J<|q8 a fun ck av a=>qt av qg J<|Qx (ds:=[qa aq]) aq av J J J J J J J J (leb J) J<|q9<|qe<|qd<|U J<|U J<|O _ J<|O _ J<|q9<|q8 a fun bs m a=>?_;refine Ya (fun p=>p = bs) (fun p=>⟨[(0,.hs 0 1 0 p.length),(1,q7 h),(2,q7 f),(7,q7 k),(8,q7 d.2.1)],[(0,.dat 1 (p.map (eI .i64)))],1⟩) qg ?_ ?_
    ·refine qo J m (fun _ m=>?_) (fun _ m=>?_)
     ·refine qd<|U J<|O _ J<|qb J<|q9<|q8 m fun bt bu m=>Q6<|Qg (qbt) (fun s=>⟨[(0,.hs 0 1 0 s.2.length),(1,q7 h),(2,q7 f),(7,q7 k),(8,q7 d.2.1),(9,q7 s.1)],[(0,.dat 1 (s.2.map (eI .i64)))],1⟩) _ bt bu (wkE [] [] [] J ⟨⟨_,J,K2 qg J qy (ltd J)⟩,qi J,qi J,qi J,qi J,qi J,trivial⟩ ⟨Qf J J,trivial⟩) ?_;intro s cl b;unfold qbt at b;refine qe<|qd<|U J<|O _ J<|q9 ?_;refine qo J b (fun _ b=>?_) (fun _ b=>?_)
      ·refine qm<|qe<|Q6<|qe<|qe<|Qb [q0,q0,qq 0,q0,q0,q0,q0,qq 0,q0,q0,q0] qh<|U J<|U J<|q8 b fun bv aw b=>qt aw J J<|Q7 _ aw J<|U J<|U J<|O _ J<|q8 b fun bw ax b=>qt ax J J<|Q7 _ ax J<|q8 b fun bz ca b=>Qa (Je bv bw bz ca) J<|O _ J<|q9 ?_;refine qo J b (fun _ b=>?_) (fun _ b=>?_)
       ·refine Q9 ?_;refine ⟨_,qp b,fun hm=>?_⟩;subst hm;obtain rfl:=qr m;exact ⟨_,J,wkA [] [] []⟩
       refine qm<|Qb [Qo 0,q0,Qo 0,q0,qq 0,q0,q0,q0,qq 0,q0,q0,q0,q0,q0,q0,q0,q0,q0] qh<|U J<|U J<|U J<|U J<|O _ J<|U J<|U J<|O _ J<|q8 b fun ay az b=>qt az J J<|Q7 _ az J<|U J<|U J<|q8 b fun v ba b=>qt ba J J<|Q7 (q7 v) ba J<|q8 b fun cm bb b=>qt bb J J<|Qx (ds:=[qa ay]) ay bb J J J J J J J J (leb J) J<|q8 b fun cn bc b=>qt bc qg J<|Qx (ds:=[qa v]) v bc J J J J J J J J (leb J) J<|qx<|Qp<|qz<|U J<|O _ J<|qb J<|qx<|⟨_,qp b,wkE [] [] [] J ⟨⟨_,J,K2 qg J qy (ltd J)⟩,qi J,qi J,qi J,qi J,qi J,trivial⟩ ⟨Qf J J,trivial⟩⟩
      refine Q9 ?_;refine ⟨_,qp b,fun hm=>?_⟩;subst hm;obtain rfl:=qr m;exact ⟨_,J,wkA [] [] []⟩
     refine qm<|Qh ?_;obtain rfl:=qr m;exact ⟨_,J,wkE [] [] [] J ⟨⟨_,J,K2 qg J qy (ltd J)⟩,qi J,qi J,qi J,qi J,trivial⟩ ⟨Qf J J,trivial⟩⟩
    intro p hb;subst hb;refine qd<|U J<|U J<|O _ J<|O _ J<|q9 ?_;refine qo J a (fun _ a=>?_) (fun _ a=>?_)
    ·refine qd<|U J<|O _ J<|qb J<|q9<|q8 a fun cb cc a=>Q6<|Qg (q86 f k) (fun t=>⟨[(0,.hs 0 1 0 t.2.length),(1,q7 h),(2,q7 f),(7,q7 k),(8,q7 d.2.1),(10,q7 t.1)],[(0,.dat 1 (t.2.map (eI .i64)))],1⟩) _ cb cc (wkA [] [] []) ?_;intro t co c;unfold q86 at c;refine qe<|qd<|U J<|U J<|O _ J<|q9 ?_;refine qo J c (fun _ c=>?_) (fun _ c=>?_)
     ·refine qm<|qe<|Q6<|qe<|qe<|Qb [q0,q0,qq 0,q0,q0,q0,q0,qq 0,q0,q0,q0] qh<|U J<|U J<|q8 c fun cd bd c=>qt bd J J<|Q7 _ bd J<|U J<|U J<|O _ J<|q8 c fun ce be c=>qt be J J<|Q7 _ be J<|q8 c fun cf cg c=>Qa (Je cd ce cf cg) J<|O _ J<|q9 ?_;refine qo J c (fun _ c=>?_) (fun _ c=>?_)
      ·refine Q9 ?_;refine ⟨_,qp c,fun hm=>?_⟩;subst hm;obtain rfl:=qr a;exact ⟨_,J,wkA [] [] []⟩
      refine qm<|Qb [Qo 0,q0,Qo 0,q0,qq 0,q0,q0,q0,qq 0,q0,q0,q0,q0,q0,q0,q0,q0,q0] qh<|U J<|U J<|U J<|U J<|O _ J<|U J<|U J<|O _ J<|q8 c fun bf bg c=>qt bg J J<|Q7 _ bg J<|U J<|U J<|q8 c fun w bh c=>qt bh J J<|Q7 (q7 w) bh J<|q8 c fun cp bi c=>qt bi J J<|Qx (ds:=[qa bf]) bf bi J J J J J J J J (leb J) J<|q8 c fun cq bj c=>qt bj qg J<|Qx (ds:=[qa w]) w bj J J J J J J J J (leb J) J<|qx<|Qp<|qz<|U J<|O _ J<|qb J<|qx<|⟨_,qp c,wkE [] [] [] J ⟨⟨_,J,K2 qg J qy (ltd J)⟩,qi J,qi J,qi J,qi J,qi J,trivial⟩ ⟨Qf J J,trivial⟩⟩
     refine Q9 ?_;refine ⟨_,qp c,fun hm=>?_⟩;subst hm;obtain rfl:=qr a;exact ⟨_,J,wkA [] [] []⟩
    refine qm<|Qh ?_;obtain rfl:=qr a;exact ⟨_,J,wkA [] [] []⟩
   intro o hb;subst hb;refine qz<|U J<|O _ J<|qb J<|qx<|⟨_,qp j,wkA [] [] []⟩
  refine Q9 ?_;refine ⟨_,qp j,fun hm=>?_⟩;subst hm;exact ⟨_,J,wkA [] [] []⟩
 intro q hb;subst hb;refine qd<|qb J<|qw ?_;obtain rfl:=qr n;exact ⟨.inr J,_,J,wkA [] [] []⟩
theorem q12r (n : List Int) (g : Int) (p : Int) (q : Int) (r : Int × List Int) (c : q87  n g p q = some r) : K8 Tryz.prog tab 158 [.hs 0 1 0 n.length,q7 g,q7 p,q7 q] [(0,.dat 1 (n.map (eI .i64)))] 1 (q7 r.1) [(0,.dat 1 (r.2.map (eI .i64)))] 1:=by
 unfold q87 at c;refine Kd Tryz.func158 J qh qh J<|qd<|qb J<|q9<|qe<|Qb [Qo 0,q0,Qo 0,q0,qq 0,q0,q0,q0,qq 0,q0,q0,q0,q0,q0,q0,q0] qh<|U J<|U J<|U J<|U J<|U J<|U J<|q8 c fun s t c=>qt t J J<|Q7 _ t J<|U J<|U J<|q8 c fun u v c=>qt v J J<|Q7 _ v J<|q8 c fun bw w c=>qt w J J<|Qx (ds:=[qa s]) s w J J J J J J J J (leb J) J<|q8 c fun bz x c=>qt x qg J<|Qx (ds:=[qa u]) u x J J J J J J J J (leb J) J<|qs<|U J<|O _ J<|U J<|O _ J<|qb J<|qb J<|q9<|qe<|q8 c fun y bj c=>?_;refine Qq (fun l=>l = y) (fun l=>⟨[(9,q7 l.1)],[(0,.dat 1 (l.2.map (eI .i64)))],1⟩) qg ?_ ?_
 ·refine Qg (q88 g) (fun b=>⟨[(0,.hs 0 1 0 b.2.2.length),(1,q7 g),(9,q7 b.1),(10,q7 b.2.1)],[(0,.dat 1 (b.2.2.map (eI .i64)))],1⟩) _ y bj (wkE [] [] [] J ⟨⟨_,J,K2 qg J qy (ltd J)⟩,qi J,qi J,qi J,trivial⟩ ⟨Qf J J,trivial⟩) ?_;intro b ca a;unfold q88 at a;refine Q6<|qe<|q8 a fun z bk a=>?_;refine Qq (fun k=>k = z) (fun k=>⟨[(0,.hs 0 1 0 b.2.2.length),(1,q7 g),(9,q7 k),(10,q7 b.2.1)],[(0,.dat 1 (b.2.2.map (eI .i64)))],1⟩) qg ?_ ?_
  ·refine Qg (q89 b g) (fun aa=>⟨[(0,.hs 0 1 0 b.2.2.length),(1,q7 g),(9,q7 aa),(10,q7 b.2.1)],[(0,.dat 1 (b.2.2.map (eI .i64)))],1⟩) _ z bk (wkA [] [] []) ?_;intro aa cb h;unfold q89 at h;refine qe<|qe<|Qb [q0,q0,q0,qq 0,q0,q0,q0,qq 0,q0,q0,q0,q0,q0,q0,q0] qh<|U J<|U J<|O _ J<|q8 h fun bl d h=>?_;refine Qd 12 (fun A st=>∃ ab ac ad ae af ag ah ai aj ak al,st = A [(43,Q3 bl),(42,al),(41,ak),(40,aj),(39,ai),(38,ah),(37,ag),(36,af),(35,ae),(34,ad),(33,ac),(32,ab)]) ?_ ?_
   ·refine Qc J J d (fun d=>?_) (fun d=>?_)
    ·refine U J<|U J<|q8 d fun bm am d=>qt am J J<|Q7 _ am J<|U J<|U J<|q8 d fun bn an d=>qt an J J<|Q7 _ an J<|q8 d fun bo bp d=>Qa (Je bm bn bo bp) J<|O _ J<|O _ J<|q9 ?_;cases d;exact ⟨_,_,_,_,_,_,_,_,_,_,_,J⟩
    refine qc J<|qc J<|qc J<|qc J<|qc J<|qc J<|qc J<|qc J<|qc J<|qc J<|O _ J<|q9 ?_;cases d;exact ⟨_,_,_,_,_,_,_,_,_,_,_,J⟩
   rintro _ ⟨ab,ac,ad,ae,af,ag,ah,ai,aj,ak,al,rfl⟩;refine q9 ?_;refine qo J h (fun _ h=>?_) (fun _ h=>?_)
   ·refine qm<|Q6<|qz<|U J<|O _ J<|qb J<|qx<|Qp<|Qh<|⟨_,qp h,wkA [] [] []⟩
   refine Q9 ?_;refine ⟨_,qp h,fun hm=>?_⟩;subst hm;exact ⟨_,J,wkA [] [] []⟩
  intro k hb;subst hb;refine qe<|q8 a fun ao bq a=>?_;refine Qq (fun m=>m = ao) (fun m=>⟨[(0,.hs 0 1 0 b.2.2.length),(1,q7 g),(9,q7 k),(10,q7 m)],[(0,.dat 1 (b.2.2.map (eI .i64)))],1⟩) qg ?_ ?_
  ·refine Qg (q8a k b g) (fun ap=>⟨[(0,.hs 0 1 0 b.2.2.length),(1,q7 g),(9,q7 k),(10,q7 ap)],[(0,.dat 1 (b.2.2.map (eI .i64)))],1⟩) _ ao bq (wkA [] [] []) ?_;intro ap cc j;unfold q8a at j;refine qe<|qe<|Qb [q0,q0,qq 0,q0,q0,q0,qq 0,q0,q0,q0,q0,q0,q0,q0] qh<|U J<|U J<|O _ J<|q8 j fun br f j=>?_;refine Qd 11 (fun A st=>∃ aq ar au av aw ax ay az ba bb,st = A [(59,Q3 br),(58,bb),(57,ba),(56,az),(55,ay),(54,ax),(53,aw),(52,av),(51,au),(50,ar),(49,aq)]) ?_ ?_
   ·refine Qc J J f (fun f=>?_) (fun f=>?_)
    ·refine U J<|U J<|q8 f fun bs bc f=>qt bc J J<|Q7 _ bc J<|U J<|U J<|q8 f fun bt bd f=>qt bd J J<|Q7 _ bd J<|q8 f fun bu bv f=>Qa (Je bs bt bu bv) J<|O _ J<|q9 ?_;cases f;exact ⟨_,_,_,_,_,_,_,_,_,_,J⟩
    refine qc J<|qc J<|qc J<|qc J<|qc J<|qc J<|qc J<|qc J<|qc J<|O _ J<|q9 ?_;cases f;exact ⟨_,_,_,_,_,_,_,_,_,_,J⟩
   rintro _ ⟨aq,ar,au,av,aw,ax,ay,az,ba,bb,rfl⟩;refine q9 ?_;refine qo J j (fun _ j=>?_) (fun _ j=>?_)
   ·refine qm<|Q6<|qz<|U J<|O _ J<|qb J<|qx<|Qp<|Qh<|⟨_,qp j,wkA [] [] []⟩
   refine Q9 ?_;refine ⟨_,qp j,fun hm=>?_⟩;subst hm;exact ⟨_,J,wkA [] [] []⟩
  intro m hb;subst hb;refine qe<|qd<|U J<|U J<|O _ J<|q9 ?_;refine qo J a (fun _ a=>?_) (fun _ a=>?_)
  ·refine Q9 ?_;refine ⟨_,qp a,fun hm=>?_⟩;subst hm;exact ⟨_,J,wkA [] [] []⟩
  refine qm<|qe<|Qb [Qo 0,q0,Qo 0,q0,qq 0,q0,q0,q0,qq 0,q0,q0,q0,q0,q0,q0,q0] qh<|U J<|U J<|U J<|U J<|U J<|U J<|q8 a fun be bf a=>qt bf J J<|Q7 _ bf J<|U J<|U J<|q8 a fun o bg a=>qt bg J J<|Q7 (q7 o) bg J<|q8 a fun cd bh a=>qt bh J J<|Qx (ds:=[qa be]) be bh J J J J J J J J (leb J) J<|q8 a fun ce bi a=>qt bi qg J<|Qx (ds:=[qa o]) o bi J J J J J J J J (leb J) J<|qs<|U J<|O _ J<|qb J<|q9<|qz<|U J<|O _ J<|qb J<|qx<|Qp<|Qh<|⟨_,qp a,wkE [] [] [] J ⟨⟨_,J,K2 qg J qy (ltd J)⟩,qi J,qi J,qi J,trivial⟩ ⟨Qf J J,trivial⟩⟩
 intro l hb;subst hb;refine qd<|U J<|qb J<|qw ?_;obtain rfl:=qr c;exact ⟨.inr J,_,J,wkA [] [] []⟩
theorem q12s (g : List Int) (b : Int) (s : Int) (k : Int) (r : Int × Bool × List Int) (a : q8b  g b s k = some r) : K8 Tryz.prog tab 159 [.hs 0 1 0 g.length,q7 b,q7 s,q7 k] [(0,.dat 1 (g.map (eI .i64)))] 1 (.d (.tup [qa r.1,.bool r.2.1])) [(0,.dat 1 (r.2.2.map (eI .i64)))] 1:=by
 unfold q8b at a;refine Kd Tryz.func159 J qh qh J<|qd<|qb J<|qb J<|q9<|qe<|Qb [Qo 0,q0,Qo 0,q0,qq 0,q0,q0,q0,qq 0,q0,q0,q0,q0,q0,q0,q0] qh<|U J<|U J<|U J<|U J<|U J<|U J<|q8 a fun h ao a=>qt ao J J<|Q7 (q7 h) ao J<|U J<|U J<|q8 a fun j ap a=>qt ap J J<|Q7 (q7 j) ap J<|q8 a fun fr aq a=>qt aq J J<|Qx (ds:=[qa h]) h aq J J J J J J J J (leb J) J<|q8 a fun fs ar a=>qt ar qg J<|Qx (ds:=[qa j]) j ar J J J J J J J J (leb J) J<|qs<|U J<|O (.d (qa (w64 (b + 1)))) J<|U J<|O (.d (qa (w64 (s - 1)))) J<|qb J<|qb J<|q9<|qe<|q8 a fun au fd a=>?_;refine Qq (fun l=>l = au) (fun (l : Int)=>⟨[(0,.hs 0 1 0 ((g.set b.toNat h).set k.toNat j).length),(1,q7 b),(10,q7 l),(11,.d (qa (w64 (s - 1))))],[(0,.dat 1 (((g.set b.toNat h).set k.toNat j).map (eI .i64)))],1⟩) qg ?_ ?_
 ·refine Qg (q8c s g b h k j) (fun (aa : Int)=>⟨[(0,.hs 0 1 0 ((g.set b.toNat h).set k.toNat j).length),(1,q7 b),(10,q7 aa),(11,.d (qa (w64 (s - 1))))],[(0,.dat 1 (((g.set b.toNat h).set k.toNat j).map (eI .i64)))],1⟩) (w64 (b + 1)) au fd (wkE [] [] [] J ⟨⟨_,J,K2 qg J qy (ltd J)⟩,qi J,qi J,qi J,trivial⟩ ⟨Qf J J,trivial⟩) ?_;intro aa ft t;unfold q8c at t;refine qe<|qe<|Qb [q0,q0,qq 0,q0,q0,q0,qq 0,q0,q0,q0,q0,q0,q0,q0] qh<|U J<|U J<|O (.d (.bool (decide (aa≤(w64 (s - 1)))))) J<|q8 t fun fe m t=>?_;refine Qd 11 (fun A st=>∃ (av aw ax ay az ba bb bc bd be : V),st = A [(43,Q3 fe),(42,be),(41,bd),(40,bc),(39,bb),(38,ba),(37,az),(36,ay),(35,ax),(34,aw),(33,av)]) ?_ ?_
  ·refine Qc J J m (fun m=>?_) (fun m=>?_)
   ·refine U J<|U J<|q8 m fun bf bg m=>qt bg J J<|Q7 (q7 bf) bg J<|U J<|U J<|q8 m fun bh bi m=>qt bi J J<|Q7 (q7 bh) bi J<|q8 m fun bj ff m=>Qa (Je bf bh bj ff) J<|O (Q3 bj) J<|q9 ?_;cases m;exact ⟨_,_,_,_,_,_,_,_,_,_,J⟩
   refine qc J<|qc J<|qc J<|qc J<|qc J<|qc J<|qc J<|qc J<|qc J<|O (Q3 false) J<|q9 ?_;cases m;exact ⟨_,_,_,_,_,_,_,_,_,_,J⟩
  rintro _ ⟨av,aw,ax,ay,az,ba,bb,bc,bd,be,rfl⟩;refine q9 ?_;refine qo J t (fun _ t=>?_) (fun _ t=>?_)
  ·refine qm<|Q6<|qz<|U J<|O (.d (qa (w64 (aa + 1)))) J<|qb J<|qx<|Qp<|Qh<|⟨_,qp t,wkA [] [] []⟩
  refine Q9 ?_;refine ⟨_,qp t,fun hm=>?_⟩;subst hm;exact ⟨_,J,wkA [] [] []⟩
 intro l hb;subst hb;refine qe<|q8 a fun bk fg a=>?_;refine Qq (fun u=>u = bk) (fun (u : Int)=>⟨[(0,.hs 0 1 0 ((g.set b.toNat h).set k.toNat j).length),(1,q7 b),(10,q7 l),(11,q7 u)],[(0,.dat 1 (((g.set b.toNat h).set k.toNat j).map (eI .i64)))],1⟩) qg ?_ ?_
 ·refine Qg (q8d l g b h k j) (fun (ab : Int)=>⟨[(0,.hs 0 1 0 ((g.set b.toNat h).set k.toNat j).length),(1,q7 b),(10,q7 l),(11,q7 ab)],[(0,.dat 1 (((g.set b.toNat h).set k.toNat j).map (eI .i64)))],1⟩) (w64 (s - 1)) bk fg (wkA [] [] []) ?_;intro ab fu v;unfold q8d at v;refine qe<|qe<|Qb [q0,q0,q0,qq 0,q0,q0,q0,qq 0,q0,q0,q0,q0,q0,q0,q0] qh<|U J<|U J<|O (.d (.bool (decide (l≤ab)))) J<|q8 v fun fh n v=>?_;refine Qd 12 (fun A st=>∃ (bl bm bn bo bp bq br bs bt bu bv : V),st = A [(60,Q3 fh),(59,bv),(58,bu),(57,bt),(56,bs),(55,br),(54,bq),(53,bp),(52,bo),(51,bn),(50,bm),(49,bl)]) ?_ ?_
  ·refine Qc J J n (fun n=>?_) (fun n=>?_)
   ·refine U J<|U J<|q8 n fun bw bz n=>qt bz J J<|Q7 (q7 bw) bz J<|U J<|U J<|q8 n fun ca cb n=>qt cb J J<|Q7 (q7 ca) cb J<|q8 n fun ag fi n=>Qa (Je bw ca ag fi) J<|O (Q3 (!ag)) J<|O (Q3 (!ag)) J<|q9 ?_;cases n;exact ⟨_,_,_,_,_,_,_,_,_,_,_,J⟩
   refine qc J<|qc J<|qc J<|qc J<|qc J<|qc J<|qc J<|qc J<|qc J<|qc J<|O (Q3 false) J<|q9 ?_;cases n;exact ⟨_,_,_,_,_,_,_,_,_,_,_,J⟩
  rintro _ ⟨bl,bm,bn,bo,bp,bq,br,bs,bt,bu,bv,rfl⟩;refine q9 ?_;refine qo J v (fun _ v=>?_) (fun _ v=>?_)
  ·refine qm<|Q6<|qz<|U J<|O (.d (qa (w64 (ab - 1)))) J<|qb J<|qx<|Qp<|Qh<|⟨_,qp v,wkA [] [] []⟩
  refine Q9 ?_;refine ⟨_,qp v,fun hm=>?_⟩;subst hm;exact ⟨_,J,wkA [] [] []⟩
 intro u hb;subst hb;refine qe<|qd<|U J<|U J<|O (.d (.bool (decide (l > u)))) J<|q9 ?_;refine qo J a (fun _ a=>?_) (fun _ a=>?_)
 ·refine qe<|Qb [Qo 0,q0,Qo 0,q0,qq 0,q0,q0,q0,qq 0,q0,q0,q0,q0,q0,q0,q0] qh<|U J<|U J<|U J<|U J<|U J<|U J<|q8 a fun ah cc a=>qt cc J J<|Q7 (q7 ah) cc J<|U J<|U J<|q8 a fun ai cd a=>qt cd J J<|Q7 (q7 ai) cd J<|q8 a fun fv ce a=>qt ce J J<|Qx (ds:=[qa ah]) ah ce J J J J J J J J (leb J) J<|q8 a fun fw cf a=>qt cf qg J<|Qx (ds:=[qa ai]) ai cf J J J J J J J J (leb J) J<|qs<|U J<|qb J<|qb J<|qw ?_;obtain rfl:=qr a;exact ⟨.inr J,_,J,wkA [] [] []⟩
 refine qm<|qe<|Qb [Qo 0,q0,Qo 0,q0,qq 0,q0,q0,q0,qq 0,q0,q0,q0,q0,q0,q0,q0] qh<|U J<|U J<|U J<|U J<|U J<|U J<|q8 a fun ac cg a=>qt cg J J<|Q7 (q7 ac) cg J<|U J<|U J<|q8 a fun ad ch a=>qt ch J J<|Q7 (q7 ad) ch J<|q8 a fun fx ci a=>qt ci J J<|Qx (ds:=[qa ac]) ac ci J J J J J J J J (leb J) J<|q8 a fun fy cj a=>qt cj qg J<|Qx (ds:=[qa ad]) ad cj J J J J J J J J (leb J) J<|qs<|U J<|O (.d (qa (w64 (l + 1)))) J<|qb J<|qs<|U J<|O (.d (qa (w64 (u - 1)))) J<|qb J<|q9<|qe<|q8 a fun ck fj a=>?_;refine Qq (fun y=>y = ck) (fun (y : Int × List Int)=>⟨[(0,.hs 0 1 0 y.2.length),(1,q7 b),(11,q7 y.1)],[(0,.dat 1 (y.2.map (eI .i64)))],1⟩) qg ?_ ?_
 ·refine Qg (q8e b) (fun (c : Int × Int × List Int)=>⟨[(0,.hs 0 1 0 c.2.2.length),(1,q7 b),(10,q7 c.1),(11,q7 c.2.1)],[(0,.dat 1 (c.2.2.map (eI .i64)))],1⟩) (w64 (l + 1),w64 (u - 1),(((g.set b.toNat h).set k.toNat j).set l.toNat ac).set u.toNat ad) ck fj (wkE [] [] [] J ⟨⟨_,J,K2 qg J qy (ltd J)⟩,qi J,qi J,qi J,trivial⟩ ⟨Qf J J,trivial⟩) ?_;intro c fz f;unfold q8e at f;refine Q6<|qe<|q8 f fun cl fk f=>?_;refine Qq (fun q=>q = cl) (fun (q : Int)=>⟨[(0,.hs 0 1 0 c.2.2.length),(1,q7 b),(10,q7 q),(11,q7 c.2.1)],[(0,.dat 1 (c.2.2.map (eI .i64)))],1⟩) qg ?_ ?_
  ·refine Qg (q8f c b) (fun (ae : Int)=>⟨[(0,.hs 0 1 0 c.2.2.length),(1,q7 b),(10,q7 ae),(11,q7 c.2.1)],[(0,.dat 1 (c.2.2.map (eI .i64)))],1⟩) c.1 cl fk (wkA [] [] []) ?_;intro ae ga w;unfold q8f at w;refine qe<|qe<|Qb [q0,q0,qq 0,q0,q0,q0,qq 0,q0,q0,q0,q0,q0,q0,q0] qh<|U J<|U J<|O (.d (.bool (decide (ae≤c.2.1)))) J<|q8 w fun fl o w=>?_;refine Qd 11 (fun A st=>∃ (cm cn co cp cq cr cs ct cu cv : V),st = A [(112,Q3 fl),(111,cv),(110,cu),(109,ct),(108,cs),(107,cr),(106,cq),(105,cp),(104,co),(103,cn),(102,cm)]) ?_ ?_
   ·refine Qc J J o (fun o=>?_) (fun o=>?_)
    ·refine U J<|U J<|q8 o fun cw cx o=>qt cx J J<|Q7 (q7 cw) cx J<|U J<|U J<|q8 o fun cy cz o=>qt cz J J<|Q7 (q7 cy) cz J<|q8 o fun da fm o=>Qa (Je cw cy da fm) J<|O (Q3 da) J<|q9 ?_;cases o;exact ⟨_,_,_,_,_,_,_,_,_,_,J⟩
    refine qc J<|qc J<|qc J<|qc J<|qc J<|qc J<|qc J<|qc J<|qc J<|O (Q3 false) J<|q9 ?_;cases o;exact ⟨_,_,_,_,_,_,_,_,_,_,J⟩
   rintro _ ⟨cm,cn,co,cp,cq,cr,cs,ct,cu,cv,rfl⟩;refine q9 ?_;refine qo J w (fun _ w=>?_) (fun _ w=>?_)
   ·refine qm<|Q6<|qz<|U J<|O (.d (qa (w64 (ae + 1)))) J<|qb J<|qx<|Qp<|Qh<|⟨_,qp w,wkA [] [] []⟩
   refine Q9 ?_;refine ⟨_,qp w,fun hm=>?_⟩;subst hm;exact ⟨_,J,wkA [] [] []⟩
  intro q hb;subst hb;refine qe<|q8 f fun dc fn f=>?_;refine Qq (fun z=>z = dc) (fun (z : Int)=>⟨[(0,.hs 0 1 0 c.2.2.length),(1,q7 b),(10,q7 q),(11,q7 z)],[(0,.dat 1 (c.2.2.map (eI .i64)))],1⟩) qg ?_ ?_
  ·refine Qg (q8g q c b) (fun (af : Int)=>⟨[(0,.hs 0 1 0 c.2.2.length),(1,q7 b),(10,q7 q),(11,q7 af)],[(0,.dat 1 (c.2.2.map (eI .i64)))],1⟩) c.2.1 dc fn (wkA [] [] []) ?_;intro af gb x;unfold q8g at x;refine qe<|qe<|Qb [q0,q0,q0,qq 0,q0,q0,q0,qq 0,q0,q0,q0,q0,q0,q0,q0] qh<|U J<|U J<|O (.d (.bool (decide (q≤af)))) J<|q8 x fun fo p x=>?_;refine Qd 12 (fun A st=>∃ (dd de df dg dh dj dk dl dm dn dp : V),st = A [(129,Q3 fo),(128,dp),(127,dn),(126,dm),(125,dl),(124,dk),(123,dj),(122,dh),(121,dg),(120,df),(119,de),(118,dd)]) ?_ ?_
   ·refine Qc J J p (fun p=>?_) (fun p=>?_)
    ·refine U J<|U J<|q8 p fun dq dr p=>qt dr J J<|Q7 (q7 dq) dr J<|U J<|U J<|q8 p fun dt du p=>qt du J J<|Q7 (q7 dt) du J<|q8 p fun aj fq p=>Qa (Je dq dt aj fq) J<|O (Q3 (!aj)) J<|O (Q3 (!aj)) J<|q9 ?_;cases p;exact ⟨_,_,_,_,_,_,_,_,_,_,_,J⟩
    refine qc J<|qc J<|qc J<|qc J<|qc J<|qc J<|qc J<|qc J<|qc J<|qc J<|O (Q3 false) J<|q9 ?_;cases p;exact ⟨_,_,_,_,_,_,_,_,_,_,_,J⟩
   rintro _ ⟨dd,de,df,dg,dh,dj,dk,dl,dm,dn,dp,rfl⟩;refine q9 ?_;refine qo J x (fun _ x=>?_) (fun _ x=>?_)
   ·refine qm<|Q6<|qz<|U J<|O (.d (qa (w64 (af - 1)))) J<|qb J<|qx<|Qp<|Qh<|⟨_,qp x,wkA [] [] []⟩
   refine Q9 ?_;refine ⟨_,qp x,fun hm=>?_⟩;subst hm;exact ⟨_,J,wkA [] [] []⟩
  intro z hb;subst hb;refine qe<|qd<|U J<|U J<|O (.d (.bool (decide (q > z)))) J<|q9 ?_;refine qo J f (fun _ f=>?_) (fun _ f=>?_)
  ·refine Q9 ?_;refine ⟨_,qp f,fun hm=>?_⟩;subst hm;exact ⟨_,J,wkA [] [] []⟩
  refine qm<|qe<|Qb [Qo 0,q0,Qo 0,q0,qq 0,q0,q0,q0,qq 0,q0,q0,q0,q0,q0,q0,q0] qh<|U J<|U J<|U J<|U J<|U J<|U J<|q8 f fun ak dv f=>qt dv J J<|Q7 (q7 ak) dv J<|U J<|U J<|q8 f fun al dw f=>qt dw J J<|Q7 (q7 al) dw J<|q8 f fun gc dx f=>qt dx J J<|Qx (ds:=[qa ak]) ak dx J J J J J J J J (leb J) J<|q8 f fun gd dy f=>qt dy qg J<|Qx (ds:=[qa al]) al dy J J J J J J J J (leb J) J<|qs<|U J<|O (.d (qa (w64 (q + 1)))) J<|qb J<|q9<|qz<|U J<|O (.d (qa (w64 (z - 1)))) J<|qb J<|qx<|Qp<|Qh<|⟨_,qp f,wkE [] [] [] J ⟨⟨_,J,K2 qg J qy (ltd J)⟩,qi J,qi J,qi J,trivial⟩ ⟨Qf J J,trivial⟩⟩
 intro y hb;subst hb;refine qe<|Qb [Qo 0,q0,Qo 0,q0,qq 0,q0,q0,q0,qq 0,q0,q0,q0,q0,q0,q0,q0] qh<|U J<|U J<|U J<|U J<|U J<|U J<|q8 a fun am dz a=>qt dz J J<|Q7 (q7 am) dz J<|U J<|U J<|q8 a fun an fa a=>qt fa J J<|Q7 (q7 an) fa J<|q8 a fun ge fb a=>qt fb J J<|Qx (ds:=[qa am]) am fb J J J J J J J J (leb J) J<|q8 a fun gf fc a=>qt fc qg J<|Qx (ds:=[qa an]) an fc J J J J J J J J (leb J) J<|qs<|U J<|qb J<|qb J<|qw ?_;obtain rfl:=qr a;exact ⟨.inr J,_,J,wkA [] [] []⟩
theorem qih (b : Int) (r : Int) (a : q10 b = some r) : Pure Tryz.prog tab 166 [qa b] (.int .u64 r):=by
 unfold q10 at a;refine Qz Tryz.func166 J qh qh J<|qd<|qb J<|qs<|U J<|O _ J<|q8 a fun c d a=>Qa (qe7 (IntKind.wrap .u64 b) c d) J<|q8 a fun g f a=>qxh f J J J<|qb J<|qw ?_;cases a;exact Qe _ J
theorem qil (a : Int) (r : Int) (b : q11  a = some r) : K8 Tryz.prog tab 167 [.ref 0 1 0 0] [(0,.dat 1 [[.int .u64 a]])] 1 (.d (.int .u64 r)) [(0,.dat 1 [[.int .u64 r]])] 1:=by
 unfold q11 at b;refine Kd Tryz.func167 J qh qh J<|qd<|qb J<|q9<|qe<|Qb [Qo 0,q0,q0,q0,qq 0,q0,q0,qq 0,q0,q0] qh<|U J<|O _ J<|O _ J<|U J<|O _ J<|O _ J<|O _ J<|O _ J<|O _ J<|Q8 0 _ J<|q9<|qe<|Qb [Qo 0,q0,q0,q0,qq 0,q0,q0,qq 0,q0,q0] qh<|U J<|O _ J<|O _ J<|U J<|O _ J<|O _ J<|O _ J<|O _ J<|O _ J<|Q8 0 _ J<|q9<|qe<|Qb [Qo 0,q0,q0,q0,qq 0,q0,q0,qq 0,q0,q0] qh<|U J<|O _ J<|O _ J<|U J<|O _ J<|O _ J<|O _ J<|O _ J ?_;refine O _ J<|Q8 0 _ J<|qs<|U J<|O _ J<|O _ J<|qb J<|qw ?_;obtain rfl:=qr b;exact ⟨.inr J,_,J,wkA [] [] []⟩
theorem q12a (m : List Int) (f : Int) (g : Int) (r : List Int) (b : q7q  m f g = some r) : K8 Tryz.prog tab 153 [.hs 0 1 0 m.length,q7 f,q7 g] [(0,.dat 1 (m.map (eI .i64)))] 1 (.d (.tup [])) [(0,.dat 1 (r.map (eI .i64)))] 1:=by
 unfold q7q at b;refine Kd Tryz.func153 J qh qh J<|qd<|U J<|U J<|O _ J<|qb J<|qs<|U J<|O _ J<|q9 ?_;refine qo J b (fun _ b=>?_) (fun _ b=>?_)
 ·refine qd<|U J<|O _ J<|Qu J J<|Q8 1 _ J<|qs<|U J<|q8 b fun j u b=>Qa (qih (w64 (g - f)) j u) J<|qb J<|qs<|U J<|U J<|O _ J<|O _ J<|O _ J<|O _ J<|qb J<|q9<|q8 b fun v w b=>Q6<|Qg (q7r f g j) (fun c=>⟨[(0,.hs 0 1 0 c.2.1.length),(1,q7 f),(6,.d (qa (w64 (g - f)))),(7,.ref 1 1 0 0),(8,.d (.int .u64 j)),(9,q7 c.1)],[(0,.dat 1 (c.2.1.map (eI .i64))),(1,.dat 1 [[.int .u64 c.2.2]])],2⟩) _ v w (wkA [(1,1)] [] []) ?_;intro c z a;unfold q7r at a;refine qe<|qd<|U J<|U J<|U J<|O _ J<|O _ J<|O _ J<|O _ J<|O _ J<|q9 ?_;refine qo J a (fun _ a=>?_) (fun _ a=>?_)
  ·refine qm<|qe<|Q6<|qd<|q8 a fun k x a=>K9 [(0,1)] [(0,1),(1,0)] _ (.d (.int .u64 k)) 1 [(1,.dat 1 [[.int .u64 k]]),(0,.dat 1 (c.2.1.map (eI .i64)))] 2 (qil c.2.2 k x)<|U J<|O _ J<|O _ J<|O _ J<|qb J<|q9<|qe<|qd<|U J<|U J<|O _ J<|q9<|q8 a fun y h a=>?_;refine Ya (fun l=>l = y) (fun l=>⟨[(0,.hs 0 1 0 c.2.1.length),(1,q7 f),(6,.d (qa (w64 (g - f)))),(7,.ref 1 1 0 0),(8,.d (.int .u64 j)),(9,q7 c.1),(10,q7 l)],[(0,.dat 1 (c.2.1.map (eI .i64))),(1,.dat 1 [[.int .u64 k]])],2⟩) qg ?_ ?_
   ·refine qo J h (fun _ h=>?_) (fun _ h=>?_)
    ·refine qz<|U J<|U J<|O _ J<|qb J<|qx ?_;obtain rfl:=qr h;exact ⟨_,J,wkA [(1,1)] [] []⟩
    refine qm<|Qh ?_;obtain rfl:=qr h;exact ⟨_,J,wkA [(1,1)] [] []⟩
   intro l hb;subst hb;refine Qb [Qo 0,q0,Qo 0,q0,qq 0,q0,q0,q0,qq 0,q0,q0,q0,q0,q0,q0,q0,q0,q0,q0,q0] qh<|U J<|U J<|U J<|U J<|U J<|O _ J<|U J<|U J<|U J<|O _ J<|q8 a fun n o a=>qt o J J<|Q7 _ o J<|U J<|U J<|q8 a fun p q a=>qt q J J<|Q7 _ q J<|q8 a fun aa s a=>qt s J J<|Qx (ds:=[qa n]) n s J J J J J J J J (leb J) J<|q8 a fun ab t a=>qt t qg J<|Qx (ds:=[qa p]) p t J J J J J J J J (leb J) J<|qx<|Qp<|qz<|U J<|O _ J<|qb J<|qx<|⟨_,qp a,wkE [(1,1)] [] [] J ⟨⟨_,J,K2 qg J qy (ltd J)⟩,qi J,qi J,⟨_,J,.ref J qy (ltd J)⟩,qi J,qi J,trivial⟩ ⟨Qf J J,Qf J J,trivial⟩⟩
  refine Q9 ?_;refine ⟨_,qp a,fun hm=>?_⟩;subst hm;obtain rfl:=qr b;exact ⟨.inl J,_,J,wkA [] [] []⟩
 refine qm<|Qh ?_;obtain rfl:=qr b;exact ⟨.inl J,_,J,wkA [] [] []⟩
theorem q12x (rec : List Int→Int→Int→Int→Option (List Int)) (hrec : ∀ (n : List Int) (p : Int) (q : Int) (s : Int) (r : List Int),rec n p q s = some r→K8 Tryz.prog tab 140 [.hs 0 1 0 n.length,q7 p,q7 q,q7 s] [(0,.dat 1 (n.map (eI .i64)))] 1 (.d (.tup [])) [(0,.dat 1 (r.map (eI .i64)))] 1) (n : List Int) (p : Int) (q : Int) (s : Int) (r : List Int) (o : q5w rec  n p q s = some r) : K8 Tryz.prog tab 140 [.hs 0 1 0 n.length,q7 p,q7 q,q7 s] [(0,.dat 1 (n.map (eI .i64)))] 1 (.d (.tup [])) [(0,.dat 1 (r.map (eI .i64)))] 1:=by
 unfold q5w at o;refine Kd Tryz.func140 J qh qh J<|qd<|qb J<|qs<|qb J<|q9<|q8 o fun az ba o=>Q6<|Qg (q5v rec) (fun b=>⟨[(0,.hs 0 1 0 b.2.2.2.2.2.length),(1,q7 b.1),(2,q7 b.2.1),(3,q7 b.2.2.1),(8,Q3 b.2.2.2.1),(9,Q3 b.2.2.2.2.1)],[(0,.dat 1 (b.2.2.2.2.2.map (eI .i64)))],1⟩) _ az ba (wkA [] [] []) ?_;intro b cn a;unfold q5v at a;refine Q6<|qd<|U J<|U J<|O _ J<|qb J<|q9<|qe<|qd<|U J<|O _ J<|q9 ?_;refine qo J a (fun _ a=>?_) (fun _ a=>?_)
 ·refine qd<|U J<|U J<|U J<|q8 a fun aa bb a=>q8 a fun co bc a=>?_;have cp:=Ke bc;refine K9 [(0,0)] [(0,0)] _ (.d (.tup [])) 1 [(0,.dat 1 (aa.map (eI .i64)))] 1 (q12j b.2.2.2.2.2 b.1 b.2.1 aa bb)<|qw ?_;refine ⟨_,qp a,fun hm=>?_⟩;subst hm;obtain rfl:=qr o;exact ⟨.inr J,_,J,wkA [] [] []⟩
 refine qm<|qe<|qd<|U J<|O _ J<|q9 ?_;refine qo J a (fun _ a=>?_) (fun _ a=>?_)
 ·refine qd<|U J<|U J<|U J<|q8 a fun ab bd a=>q8 a fun cq be a=>?_;have cr:=Ke be;refine K9 [(0,0)] [(0,0)] _ (.d (.tup [])) 1 [(0,.dat 1 (ab.map (eI .i64)))] 1 (q12g b.2.2.2.2.2 b.1 b.2.1 ab bd)<|qw ?_;refine ⟨_,qp a,fun hm=>?_⟩;subst hm;obtain rfl:=qr o;exact ⟨.inr J,_,J,wkA [] [] []⟩
 refine qm<|qe<|qd<|U J<|O _ J<|q9<|q8 a fun bf k a=>?_;refine Ya (fun c=>c = bf) (fun c=>⟨[(0,.hs 0 1 0 c.2.length),(1,q7 b.1),(2,q7 b.2.1),(3,q7 c.1),(8,Q3 b.2.2.2.1),(9,Q3 b.2.2.2.2.1),(10,.d (qa (w64 (b.2.1 - b.1))))],[(0,.dat 1 (c.2.map (eI .i64)))],1⟩) qg ?_ ?_
 ·refine qo J k (fun _ k=>?_) (fun _ k=>?_)
  ·refine qd<|U J<|U J<|U J<|q8 k fun ac bg k=>q8 k fun cs bh k=>?_;have bi:=Ke bh;refine K9 [(0,0)] [(0,0)] _ (.d (.tup [])) 1 [(0,.dat 1 (ac.map (eI .i64)))] 1 (q12a b.2.2.2.2.2 b.1 b.2.1 ac bg)<|q9<|qz<|U J<|O _ J<|qb J<|qx ?_;obtain rfl:=qr k;exact ⟨_,J,wkE [] [] [] J ⟨⟨_,J,K2 (by simp [bi]) J qy (ltd J)⟩,qi J,qi J,qi J,qi J,qi J,qi J,trivial⟩ ⟨Qf J J,trivial⟩⟩
  refine qm<|Qh ?_;obtain rfl:=qr k;exact ⟨_,J,wkA [] [] []⟩
 intro c hb;subst hb;refine qd<|U J<|U J<|U J<|q8 a fun bj bk a=>q2t [.hs 0 1 0 c.2.length,q7 b.1,q7 b.2.1] (q12d c.2 b.1 b.2.1 bj bk) J J (Za (Yz J J) (Za J (Za J J))) (.inr J)<|U J<|O _ J<|O _ J<|qb J<|qb J<|q9<|qe<|qd<|U J<|O _ J<|q9<|q8 a fun bl l a=>?_;refine Ya (fun g=>g = bl) (fun g=>⟨[(0,.hs 0 1 0 g.2.2.length),(1,q7 b.1),(2,q7 b.2.1),(3,q7 c.1),(8,Q3 b.2.2.2.1),(9,Q3 b.2.2.2.2.1),(10,.d (qa (w64 (b.2.1 - b.1)))),(11,q7 g.1),(12,q7 g.2.1)],[(0,.dat 1 (g.2.2.map (eI .i64)))],1⟩) qg ?_ ?_
 ·refine qo J l (fun _ l=>?_) (fun _ l=>?_)
  ·refine qd<|U J<|U J<|U J<|q8 l fun ad bm l=>q8 l fun ct bn l=>?_;have bo:=Ke bn;refine K9 [(0,0)] [(0,0)] _ (.d (.tup [])) 1 [(0,.dat 1 (ad.map (eI .i64)))] 1 (q131 c.2 b.1 b.2.1 ad bm)<|qs<|U J<|O _ J<|U J<|U J<|O _ J<|O _ J<|qb J<|q9<|qz<|qb J<|qx ?_;obtain rfl:=qr l;exact ⟨_,J,wkE [] [] [] J ⟨⟨_,J,K2 (by simp [bo]) J qy (ltd J)⟩,qi J,qi J,qi J,qi J,qi J,qi J,qi J,qi J,trivial⟩ ⟨Qf J J,trivial⟩⟩
  refine qm<|Qh ?_;obtain rfl:=qr l;exact ⟨_,J,wkA [] [] []⟩
 intro g hb;subst hb;refine qe<|qd<|U J<|q8 a fun bp t a=>?_;refine Qd 3 (fun A st=>∃ ae af,st = A [(64,Q3 bp),(63,af),(62,ae)]) ?_ ?_
 ·refine Qc J J t (fun t=>?_) (fun t=>?_)
  ·refine U J<|O _ J<|q9 ?_;cases t;exact ⟨_,_,J⟩
  refine qc J<|O _ J<|q9 ?_;cases t;exact ⟨_,_,J⟩
 rintro _ ⟨ae,af,rfl⟩;refine q8 a fun bq u a=>?_;refine Qd 4 (fun A st=>∃ ag ah ai,st = A [(68,Q3 bq),(67,ai),(66,ah),(65,ag)]) ?_ ?_
 ·refine Qc J J u (fun u=>?_) (fun u=>?_)
  ·refine U J<|O _ J<|O _ J<|q9 ?_;cases u;exact ⟨_,_,_,J⟩
  refine qc J<|qc J<|O _ J<|q9 ?_;cases u;exact ⟨_,_,_,J⟩
 rintro _ ⟨ag,ah,ai,rfl⟩;refine q9<|q8 a fun br f a=>?_;refine Ya (fun m=>.inl m = br) (fun m=>⟨[(0,.hs 0 1 0 m.length),(1,q7 b.1),(2,q7 b.2.1),(3,q7 c.1),(8,Q3 b.2.2.2.1),(9,Q3 b.2.2.2.2.1),(10,.d (qa (w64 (b.2.1 - b.1)))),(11,q7 g.1)],[(0,.dat 1 (m.map (eI .i64)))],1⟩) qg ?_ ?_
 ·refine qo J f (fun _ f=>?_) (fun _ f=>?_)
  ·refine qd<|U J<|U J<|U J<|q8 f fun w bs f=>q8 f fun cu bt f=>?_;have bu:=Ke bt;refine K9 [(0,0)] [(0,0)] _ (Q3 w.1) 1 [(0,.dat 1 (w.2.map (eI .i64)))] 1 (q12m g.2.2 b.1 b.2.1 w bs)<|q9 ?_;refine qo J f (fun _ f=>?_) (fun _ f=>?_)
   ·refine Uy ?_;obtain rfl:=qr f;refine ⟨_,qp a,fun hm=>?_⟩;subst hm;obtain rfl:=qr o;exact ⟨.inr J,_,J,wkA [] [] []⟩
   refine qm<|Qh ?_;obtain rfl:=qr f;exact ⟨_,J,wkE [] [] [] J ⟨⟨_,J,K2 (by simp [bu]) J qy (ltd J)⟩,qi J,qi J,qi J,qi J,qi J,qi J,qi J,trivial⟩ ⟨Qf J J,trivial⟩⟩
  refine qm<|Qh ?_;obtain rfl:=qr f;exact ⟨_,J,wkA [] [] []⟩
 intro m hb;subst hb;refine qe<|qe<|Qb [q0,q0,q0,qq 0,q0,q0,q0,qq 0,q0,q0,q0,q0,q0,q0,q0] qh<|U J<|O _ J<|q8 a fun bv h a=>?_;refine Qd 13 (fun A st=>∃ aj ak al am an ao ap aq ar au av aw,st = A [(87,Q3 bv),(86,aw),(85,av),(84,au),(83,ar),(82,aq),(81,ap),(80,ao),(79,an),(78,am),(77,al),(76,ak),(75,aj)]) ?_ ?_
 ·refine Qc J J h (fun h=>?_) (fun h=>?_)
  ·refine U J<|U J<|O _ J<|q8 h fun bw ax h=>qt ax J J<|Q7 _ ax J<|U J<|U J<|q8 h fun bz ay h=>qt ay J J<|Q7 _ ay J<|q8 h fun ca cb h=>Qa (Je bw bz ca cb) J<|O _ J<|O _ J<|q9 ?_;cases h;exact ⟨_,_,_,_,_,_,_,_,_,_,_,_,J⟩
  refine qc J<|qc J<|qc J<|qc J<|qc J<|qc J<|qc J<|qc J<|qc J<|qc J<|qc J<|O _ J<|q9 ?_;cases h;exact ⟨_,_,_,_,_,_,_,_,_,_,_,_,J⟩
 rintro _ ⟨aj,ak,al,am,an,ao,ap,aq,ar,au,av,aw,rfl⟩;refine q9 ?_;refine qo J a (fun _ a=>?_) (fun _ a=>?_)
 ·refine qd<|U J<|U J<|U J<|U J<|q8 a fun x cc a=>q8 a fun cv cd a=>?_;have ce:=Ke cd;refine K9 [(0,0)] [(0,0)] _ (q7 x.1) 1 [(0,.dat 1 (x.2.map (eI .i64)))] 1 (q12r m b.1 b.2.1 g.1 x cc)<|qb J<|qs<|U J<|qb J<|q9<|Q9<|Jc<|Qh<|⟨_,qp a,wkE [] [] [] J ⟨⟨_,J,K2 (by simp [ce]) J qy (ltd J)⟩,qi J,qi J,qi J,qi J,qi J,trivial⟩ ⟨Qf J J,trivial⟩⟩
 refine qm<|qd<|U J<|U J<|U J<|U J<|q8 a fun j cf a=>q8 a fun cw cg a=>?_;have v:=Ke cg;refine K9 [(0,0)] [(0,0)] _ (.d (.tup [qa j.1,.bool j.2.1])) 1 [(0,.dat 1 (j.2.2.map (eI .i64)))] 1 (q12s m b.1 b.2.1 g.1 j cf)<|U J<|O _ J<|O _ J<|qb J<|qb J<|qs<|U J<|qb J<|qs<|U J<|U J<|O _ J<|U J<|U J<|O _ J<|qb J<|qb J<|qs<|U J<|O _ J<|qb J<|qs<|U J<|U J<|O _ J<|q9 ?_;refine qo J a (fun _ a=>?_) (fun _ a=>?_)
 ·refine qd<|U J<|U J<|O _ J<|qb J<|qs<|U J<|U J<|U J<|U J<|q8 a fun y ch a=>q8 a fun cx ci a=>?_;have cj:=Ke ci;refine Zx [(0,0)] [(0,0)] [.hs 0 1 0 m.length,q7 b.1,q7 j.1,q7 c.1] (.d (.tup [])) [(0,.dat 1 (y.map (eI .i64)))] [(0,.dat 1 (y.map (eI .i64)))] 1 (hrec j.2.2 b.1 j.1 c.1 y ch) J J J (Y4 [(0,0)] [] [] J ⟨⟨_,J,K2 (by simp [v]) J qy (ltd J)⟩,qi J,qi J,qi J,trivial⟩ ⟨Qf J J,trivial⟩) (Y4 [(0,0)] [] [] J ⟨qi J,trivial⟩ ⟨Qf J J,trivial⟩) J ⟨.inl J,trivial⟩<|q9<|qz<|U J<|O _ J<|qb J<|qx<|Qp<|Qh<|⟨_,qp a,wkE [] [] [] J ⟨⟨_,J,K2 (by simp [v,cj]) J qy (ltd J)⟩,qi J,qi J,qi J,qi J,qi J,trivial⟩ ⟨Qf J J,trivial⟩⟩
 refine qd<|U J<|U J<|O _ J<|qb J<|qs<|U J<|U J<|O _ J<|U J<|U J<|q8 a fun z ck a=>q8 a fun cy cl a=>?_;have cm:=Ke cl;refine Zx [(0,0)] [(0,0)] [.hs 0 1 0 m.length,.d (qa (w64 (j.1 + 1))),q7 b.2.1,q7 c.1] (.d (.tup [])) [(0,.dat 1 (z.map (eI .i64)))] [(0,.dat 1 (z.map (eI .i64)))] 1 (hrec j.2.2 (w64 (j.1 + 1)) b.2.1 c.1 z ck) J J J (Y4 [(0,0)] [] [] J ⟨⟨_,J,K2 (by simp [v]) J qy (ltd J)⟩,qi J,qi J,qi J,trivial⟩ ⟨Qf J J,trivial⟩) (Y4 [(0,0)] [] [] J ⟨qi J,trivial⟩ ⟨Qf J J,trivial⟩) J ⟨.inl J,trivial⟩<|q9<|qz<|U J<|qb J<|qx<|Qp<|Qh<|⟨_,qp a,wkE [] [] [] J ⟨⟨_,J,K2 (by simp [v,cm]) J qy (ltd J)⟩,qi J,qi J,qi J,qi J,qi J,trivial⟩ ⟨Qf J J,trivial⟩⟩
theorem q12y (n : Nat) : ∀ (a : List Int) (b : Int) (c : Int) (f : Int) (r : List Int),q8n n  a b c f = some r→K8 Tryz.prog tab 140 [.hs 0 1 0 a.length,q7 b,q7 c,q7 f] [(0,.dat 1 (a.map (eI .i64)))] 1 (.d (.tup [])) [(0,.dat 1 (r.map (eI .i64)))] 1:=by
 induction n with
 | zero=>intro a b c f r g;cases g
 | succ n ih=>intro a b c f r g;exact q12x (q8n n )   ih a b c f r g
theorem qb4 (b : List Int) (r : List Int) (a : Jm  b = some r) : K8 Tryz.prog tab 119 [.hs 0 1 0 b.length] [(0,.dat 1 (b.map (eI .i64)))] 1 (.d (.tup [])) [(0,.dat 1 (r.map (eI .i64)))] 1:=by
 unfold Jm at a;refine Kd Tryz.func119 J qh qh J<|qd<|U J<|O _ J<|qb J<|q9<|qz<|U J<|U J<|U J<|O _ J<|q8 a fun f h a=>Qa (qe7 (IntKind.wrap .u64 (b.length : Int)) f h) J<|q8 a fun g c a=>q8 a fun l j a=>?_;have m:=Ke j;obtain ⟨k,c⟩:=qe4 c;refine K9 [(0,0)] [(0,0)] _ (.d (.tup [])) 1 [(0,.dat 1 (g.map (eI .i64)))] 1 (q12y k b 0 (b.length : Int) f g c)<|qx ?_;obtain rfl:=qr a;exact ⟨.inl J,_,J,wkA [] [] []⟩
theorem qax (d : List Int) (r : (Nat × Nat) × List Int) (c : Uz  d = some r) : K8 Tryz.prog tab 120 [.hs 0 1 0 d.length] [(0,.dat 1 (d.map (eI .i64)))] 1 (.hs 0 1 r.1.1 r.1.2) [(0,.dat 1 (r.2.map (eI .i64)))] 1:=by
 unfold Uz at c;refine Kd Tryz.func120 J qh qh J<|qd<|qb J<|q9<|qe<|qd<|U J<|O _ J<|O _ J<|q9 ?_;refine qo J c (fun _ c=>?_) (fun _ c=>?_)
 ·refine qd<|U J<|qb J<|qw ?_;obtain rfl:=qr c;exact ⟨.inr J,_,J,wkA [] [] []⟩
 refine qm<|qe<|qd<|qb J<|q9<|q8 c fun m z c=>?_;refine Qq (fun k=>.inl k = m) (fun k=>⟨[(0,.hs 0 1 0 d.length)],[(0,.dat 1 (d.map (eI .i64)))],1⟩) qg ?_ ?_
 ·refine Qg (U9 d) (fun n=>⟨[(0,.hs 0 1 0 d.length),(3,q7 n)],[(0,.dat 1 (d.map (eI .i64)))],1⟩) _ m z (wkA [] [] []) ?_;intro n ae a;unfold U9 at a;refine qe<|qd<|U J<|U J<|O _ J<|O _ J<|q9 ?_;refine qo J a (fun _ a=>?_) (fun _ a=>?_)
  ·refine qm<|qe<|Q6<|qe<|Qb [q0,qq 0,q0,q0,q0,q0,qq 0,q0,q0,q0] qh<|U J<|U J<|q8 a fun af o a=>qt o J J<|Q7 _ o J<|U J<|U J<|O _ J<|q8 a fun ag p a=>qt p J J<|Q7 _ p J<|O _ J<|q9 ?_;refine qo J a (fun _ a=>?_) (fun _ a=>?_)
   ·refine qd<|U J<|U J<|q8 a fun ah aa a=>q4t aa J J J J J (q47 J) (fun _=>rfl)<|qb J<|q9<|qe<|qd<|qb J<|q9<|q8 a fun q ab a=>?_;refine Qq (fun f=>f = q) (fun f=>⟨[(0,.hs 0 1 0 f.2.length),(3,q7 f.1)],[(0,.dat 1 (f.2.map (eI .i64)))],1⟩) qg ?_ ?_
    ·refine Qg (q2z) (fun g=>⟨[(0,.hs 0 1 0 g.2.2.2.length),(3,q7 g.1),(4,.hs 0 1 g.2.1.1 g.2.1.2),(5,q7 g.2.2.1)],[(0,.dat 1 (g.2.2.2.map (eI .i64)))],1⟩) _ q ab (wkA [] [] []) ?_;intro g ai h;unfold q2z at h;refine qe<|qd<|U J<|U J<|O _ J<|O _ J<|q9 ?_;refine qo J h (fun _ h=>?_) (fun _ h=>?_)
     ·refine qm<|qe<|q8 h fun ac b h=>?_;refine Qq (fun j=>j = ac) (fun j=>⟨[(0,.hs 0 1 0 j.2.2.length),(3,q7 j.1),(4,.hs 0 1 j.2.1.1 j.2.1.2),(5,q7 g.2.2.1)],[(0,.dat 1 (j.2.2.map (eI .i64)))],1⟩) qg ?_ ?_
      ·refine qe<|Qb [q0,qq 0,q0,q0,q0,q0,qq 0,q0,q0,q0] qh<|U J<|U J<|q8 b fun aj s b=>q6u s J J J J J J<|Q7 _ (q6l s) J<|U J<|U J<|O _ J<|q8 b fun ak t b=>q6u t J J J J J J<|Q7 _ (q6l t) J<|O _ J<|q9 ?_;refine qo J b (fun _ b=>?_) (fun _ b=>?_)
       ·refine qd<|U J<|U J<|U J<|U J<|q8 b fun u v b=>q6u v J J J J J J<|Q7 _ (q6l v) J<|q8 b fun al x b=>qt x J J<|Qx (ds:=[qa u]) u x J J J J J J J J (leb J) J<|q9<|qz<|U J<|O _ J<|qb J<|qx ?_;obtain rfl:=qr b;exact ⟨_,J,wkE [] [] [] J ⟨⟨_,J,K2 qg J qy (ltd J)⟩,qi J,⟨_,J,.hs J qy (ltd J)⟩,qi J,trivial⟩ ⟨Qf J J,trivial⟩⟩
       refine qm<|Qh ?_;obtain rfl:=qr b;exact ⟨_,J,wkA [] [] []⟩
      intro j hb;subst hb;refine qz<|U J<|O _ J<|qb J<|qx<|⟨_,qp h,wkA [] [] []⟩
     refine Q9 ?_;refine ⟨_,qp h,fun hm=>?_⟩;subst hm;exact ⟨_,J,wkA [] [] []⟩
    intro f hb;subst hb;refine qd<|U J<|U J<|q8 a fun y l a=>q4t l J J J J J (q47 J) (fun _=>rfl)<|qng (w:=y) (xs:=f.2) (enc:=(eI .i64)) 0 (q66 l) J J J J J J J ?_;have am:=@qdi _ f.2 y 0 (q66 l);refine qs<|U J<|U J<|q8 a fun an ad a=>q4t ad J J J J J (fun _=>rfl) (q47 J)<|qb J<|qw ?_;refine ⟨_,qp a,fun hm=>?_⟩;subst hm;obtain rfl:=qr c;exact ⟨.inr J,_,J,wkA [] [] []⟩
   refine qm<|Qh<|Qp<|qz<|U J<|O _ J<|qb J<|qx<|⟨_,qp a,wkA [] [] []⟩
  refine Q9 ?_;refine ⟨_,qp a,fun hm=>?_⟩;subst hm;exact ⟨_,J,wkA [] [] []⟩
 intro k hb;subst hb;refine qd<|U J<|qb J<|qw ?_;obtain rfl:=qr c;exact ⟨.inr J,_,J,wkA [] [] []⟩
theorem q123 (b : List ql) (f : ql→Option Bool) (p1F : FuncId) (p1C : List DV) (p1Ok : ∀ (h : ql) (r : Bool),f h = some r→Pure Tryz.prog tab p1F ([.agg (Qj h)] ++ p1C) (.bool r)) (r : Int) (c : qb3 b f = some r) : Pure Tryz.prog tab 128 [.sl 2 (b.map Qj),.fn p1F p1C] (qa r):=by
 unfold qb3 at c;refine Qz Tryz.func128 J qh qh J<|qd<|qb J<|q9<|qe<|qd<|U J<|K1 J<|U J<|q9<|q8 c fun j l c=>?_;refine Qq (fun g=>.inl g = j) (fun g=>⟨[],[],0⟩) qg ?_ ?_
 ·refine Qg (q3s b f) (fun k=>⟨[(0,.d (.sl 2 (b.map Qj))),(1,.d (.fn p1F p1C)),(7,q7 (b.length : Int)),(8,q7 k)],[],0⟩) _ j l (wkA [] [] []) ?_;intro k y17 a;unfold q3s at a;refine qd<|O _ J<|q9<|qe ?_;refine qo J a (fun _ a=>?_) (fun _ a=>?_)
  ·refine qm<|qe<|Q6<|qd<|U J<|qb J<|qs<|U J<|U J<|U J<|q8 a fun m n a=>Ql n J<|O _ J<|q8 a fun o p a=>Kw _ (p1Ok m o p) J J J (.inl J)<|q9 ?_;refine qo J a (fun _ a=>?_) (fun _ a=>?_)
   ·refine qd<|U J<|qb J<|qw ?_;refine ⟨_,qp a,fun hm=>?_⟩;subst hm;cases c;exact Qe _ J
   refine qm<|Qh<|Qp<|qz<|O _ J<|U J<|qx<|⟨_,qp a,wkA [] [] []⟩
  refine Q9 ?_;refine ⟨_,qp a,fun hm=>?_⟩;subst hm;exact ⟨_,J,wkA [] [] []⟩
 intro g hb;subst hb;refine qd<|qb J<|qw ?_;cases c;exact Qe _ J
theorem q11y (b : List ql) (c : ql→Option Bool) (p1F : FuncId) (p1C : List DV) (p1Ok : ∀ (d : ql) (r : Bool),c d = some r→Pure Tryz.prog tab p1F ([.agg (Qj d)] ++ p1C) (.bool r)) (r : Bool) (a : qaz b c = some r) : Pure Tryz.prog tab 97 [.sl 2 (b.map Qj),.fn p1F p1C] (.bool r):=by
 unfold qaz at a;refine Qz Tryz.func97 J qh qh J<|qd<|qb J<|qs<|U J<|U J<|q8 a fun f g a=>Qa (q123 b c p1F p1C p1Ok f g) J<|O _ J<|qb J<|qw ?_;cases a;exact Qe _ J
theorem qpu (d : ql) (r : Bool) (a : q3z d = some r) : Pure Tryz.prog tab 99 [.agg (Qj d)] (.bool r):=by
 unfold q3z at a;refine Qz Tryz.func99 J qh qh J<|qd<|Qw _ _ J<|qb J<|qs<|O _ J<|O _ J<|O _ J<|O _ J<|O _ J<|q8 a fun o b a=>?_;refine Qd 5 (fun A st=>∃ f g h j,st = A [(12,Q3 o),(11,j),(10,h),(9,g),(8,f)]) ?_ ?_
 ·refine Qc J J b (fun b=>?_) (fun b=>?_)
  ·refine O _ J<|O _ J<|O _ J<|O _ J<|q9 ?_;cases b;exact ⟨_,_,_,_,J⟩
  refine qc J<|qc J<|qc J<|O _ J<|q9 ?_;cases b;exact ⟨_,_,_,_,J⟩
 rintro _ ⟨f,g,h,j,rfl⟩;refine q8 a fun p c a=>?_;refine Qd 5 (fun A st=>∃ k l m n,st = A [(17,Q3 p),(16,n),(15,m),(14,l),(13,k)]) ?_ ?_
 ·refine Qc J J c (fun c=>?_) (fun c=>?_)
  ·refine O _ J<|O _ J<|O _ J<|O _ J<|q9 ?_;cases c;exact ⟨_,_,_,_,J⟩
  refine qc J<|qc J<|qc J<|O _ J<|q9 ?_;cases c;exact ⟨_,_,_,_,J⟩
 rintro _ ⟨k,l,m,n,rfl⟩;refine qb J<|qw ?_;cases a;exact Qe _ J
theorem q15p (b : ql) (r : Bool) (a : qfe b = some r) : Pure Tryz.prog tab 98 [.agg (Qj b)] (.bool r):=by
 unfold qfe at a;refine Qz Tryz.func98 J qh qh J<|qd<|Qw _ _ J<|qb J<|qs<|O _ J<|q8 a fun c d a=>Qa (qpu b c d) J<|O _ J<|qb J<|qw ?_;cases a;exact Qe _ J
theorem q15u (a : qv) (b : qv) (r : Int) (c : qcx a b = some r) : Pure Tryz.prog tab 147 [.agg (Qk a),.agg (Qk b)] (qa r):=by
 unfold qcx at c;refine Qz Tryz.func147 J qh qh J<|qd<|Qw _ _ J<|Qw _ _ J<|qb J<|qs<|O _ J<|O _ J<|O _ J<|O _ J<|O _ J<|qb J<|qw ?_;cases c;exact Qe _ J
theorem q12i (k : qv→qv→Option Int) (q1F : FuncId) (q1C : List DV) (q1Ok : ∀ (p : qv) (q : qv) (r : Int),k p q = some r→Pure Tryz.prog tab q1F ([.agg (Qk p),.agg (Qk q)] ++ q1C) (qa r)) (n : List qv) (f : Int) (g : Int) (r : List qv) (l : qbk k n f g = some r) : K8 Tryz.prog tab 179 [.hs 0 3 0 n.length,q7 f,q7 g,.d (.fn q1F q1C)] [(0,.dat 3 (n.map Qk))] 1 (.d (.tup [])) [(0,.dat 3 (r.map Qk))] 1:=by
 unfold qbk at l;refine Kd Tryz.func179 J qh qh J<|qd<|U J<|O _ J<|qb J<|q9<|q8 l fun al am l=>Q6<|Qg (qbl g f k) (fun h=>⟨[(0,.hs 0 3 0 h.2.length),(1,q7 f),(2,q7 g),(3,.d (.fn q1F q1C)),(8,q7 h.1)],[(0,.dat 3 (h.2.map Qk))],1⟩) _ al am (wkA [] [] []) ?_;intro h az c;unfold qbl at c;refine qe<|qd<|U J<|U J<|O _ J<|q9 ?_;refine qo J c (fun _ c=>?_) (fun _ c=>?_)
 ·refine qm<|qe<|q8 c fun an o c=>?_;refine Qq (fun j=>j = an) (fun j=>⟨[(0,.hs 0 3 0 j.length),(1,q7 f),(2,q7 g),(3,.d (.fn q1F q1C)),(8,q7 h.1)],[(0,.dat 3 (j.map Qk))],1⟩) qg ?_ ?_
  ·refine qd<|U J<|qb J<|q9<|q8 o fun ao ap o=>Q6<|Qg (qbm f k) (fun m=>⟨[(0,.hs 0 3 0 m.2.length),(1,q7 f),(2,q7 g),(3,.d (.fn q1F q1C)),(8,q7 h.1),(9,q7 m.1)],[(0,.dat 3 (m.2.map Qk))],1⟩) _ ao ap (wkA [] [] []) ?_;intro m ba a;unfold qbm at a;refine qe<|qe<|Qb [q0,q0,q0,qq 0,q0,q0,q0,q0,qq 0,q0,q0,q0,q0,q0,q0,q0,q0] qh<|U J<|U J<|O _ J<|q8 a fun aq b a=>?_;refine Qd 14 (fun A st=>∃ s t u v w x y z aa ab ac ad ae,st = A [(34,Q3 aq),(33,ae),(32,ad),(31,ac),(30,ab),(29,aa),(28,z),(27,y),(26,x),(25,w),(24,v),(23,u),(22,t),(21,s)]) ?_ ?_
   ·refine Qc J J b (fun b=>?_) (fun b=>?_)
    ·refine U J<|U J<|U J<|q8 b fun ar af b=>qt af J J<|Q7 _ af J<|U J<|U J<|O _ J<|q8 b fun au ag b=>qt ag J J<|Q7 _ ag J<|q8 b fun av aw b=>Kw _ (q1Ok ar au av aw) J J J (.inl J)<|O _ J<|O _ J<|q9 ?_;cases b;exact ⟨_,_,_,_,_,_,_,_,_,_,_,_,_,J⟩
    refine qc J<|qc J<|qc J<|qc J<|qc J<|qc J<|qc J<|qc J<|qc J<|qc J<|qc J<|qc J<|O _ J<|q9 ?_;cases b;exact ⟨_,_,_,_,_,_,_,_,_,_,_,_,_,J⟩
   rintro _ ⟨s,t,u,v,w,x,y,z,aa,ab,ac,ad,ae,rfl⟩;refine q9 ?_;refine qo J a (fun _ a=>?_) (fun _ a=>?_)
   ·refine qm<|qe<|Q6<|Qb [Qo 0,q0,Qo 0,q0,qq 0,q0,q0,q0,qq 0,q0,q0,q0,q0,q0,q0,q0,q0,q0] qh<|U J<|U J<|U J<|U J<|O _ J<|U J<|U J<|O _ J<|q8 a fun ax ah a=>qt ah J J<|Q7 _ ah J<|U J<|U J<|q8 a fun ay ai a=>qt ai J J<|Q7 _ ai J<|q8 a fun bb aj a=>qt aj J J<|Qx ax aj J J J J J J J J (leb J) J<|q8 a fun bc ak a=>qt ak qg J<|Qx ay ak J J J J J J J J (leb J) J<|qx<|Qp<|qz<|U J<|O _ J<|qb J<|qx<|⟨_,qp a,wkE [] [] [] J ⟨⟨_,J,K2 qg J qy (ltd J)⟩,qi J,qi J,qi J,qi J,qi J,trivial⟩ ⟨Qf J J,trivial⟩⟩
   refine Q9 ?_;refine ⟨_,qp a,fun hm=>?_⟩;subst hm;obtain rfl:=qr o;exact ⟨_,J,wkA [] [] []⟩
  intro j hb;subst hb;refine qz<|U J<|O _ J<|qb J<|qx<|⟨_,qp c,wkA [] [] []⟩
 refine Q9 ?_;refine ⟨_,qp c,fun hm=>?_⟩;subst hm;obtain rfl:=qr l;exact ⟨.inl J,_,J,wkA [] [] []⟩
theorem qpe (l : qv→qv→Option Int) (q1F : FuncId) (q1C : List DV) (q1Ok : ∀ (n : qv) (o : qv) (r : Int),l n o = some r→Pure Tryz.prog tab q1F ([.agg (Qk n),.agg (Qk o)] ++ q1C) (qa r)) (m : List qv) (p : Int) (f : Int) (g : Int) (r : List qv) (h : q8q l m p f g = some r) : K8 Tryz.prog tab 191 [.hs 0 3 0 m.length,q7 p,q7 f,q7 g,.d (.fn q1F q1C)] [(0,.dat 3 (m.map Qk))] 1 (.d (.tup [])) [(0,.dat 3 (r.map Qk))] 1:=by
 unfold q8q at h;refine Kd Tryz.func191 J qh qh J<|qd<|U J<|qb J<|q9<|q8 h fun aq ar h=>Q6<|Qg (qck f g l) (fun c=>⟨[(0,.hs 0 3 0 c.2.length),(2,q7 f),(3,q7 g),(4,.d (.fn q1F q1C)),(10,q7 c.1)],[(0,.dat 3 (c.2.map Qk))],1⟩) _ aq ar (wkA [] [] []) ?_;intro c bg a;unfold qck at a;refine Q6<|qd<|U J<|O _ J<|O _ J<|qb J<|q9<|qe<|qd<|U J<|U J<|O _ J<|q9 ?_;refine qo J a (fun _ a=>?_) (fun _ a=>?_)
 ·refine Q9 ?_;refine ⟨_,qp a,fun hm=>?_⟩;subst hm;obtain rfl:=qr h;exact ⟨.inl J,_,J,wkA [] [] []⟩
 refine qm<|qe<|qe<|Qb [q0,q0,q0,qq 0,q0,q0,q0,q0,q0,q0,qq 0,q0,q0,q0,q0,q0,q0,q0,q0,q0,q0,q0] qh<|U J<|O _ J<|U J<|O _ J<|q8 a fun au b a=>?_;refine Qd 18 (fun A st=>∃ q s t u v w x y z aa ab ac ad ae af ag ah,st = A [(40,Q3 au),(39,ah),(38,ag),(37,af),(36,ae),(35,ad),(34,ac),(33,ab),(32,aa),(31,z),(30,y),(29,x),(28,w),(27,v),(26,u),(25,t),(24,s),(23,q)]) ?_ ?_
 ·refine Qc J J b (fun b=>?_) (fun b=>?_)
  ·refine U J<|U J<|U J<|U J<|O _ J<|q8 b fun av ai b=>qt ai J J<|Q7 _ ai J<|U J<|U J<|U J<|O _ J<|O _ J<|q8 b fun aw aj b=>qt aj J J<|Q7 _ aj J<|q8 b fun ax ay b=>Kw _ (q1Ok av aw ax ay) J J J (.inl J)<|O _ J<|O _ J<|q9 ?_;cases b;exact ⟨_,_,_,_,_,_,_,_,_,_,_,_,_,_,_,_,_,J⟩
  refine qc J<|qc J<|qc J<|qc J<|qc J<|qc J<|qc J<|qc J<|qc J<|qc J<|qc J<|qc J<|qc J<|qc J<|qc J<|qc J<|O _ J<|q9 ?_;cases b;exact ⟨_,_,_,_,_,_,_,_,_,_,_,_,_,_,_,_,_,J⟩
 rintro _ ⟨q,s,t,u,v,w,x,y,z,aa,ab,ac,ad,ae,af,ag,ah,rfl⟩;refine q9<|q8 a fun az j a=>?_;refine Ya (fun k=>k = az) (fun k=>⟨[(0,.hs 0 3 0 c.2.length),(2,q7 f),(3,q7 g),(4,.d (.fn q1F q1C)),(10,q7 c.1),(11,q7 k)],[(0,.dat 3 (c.2.map Qk))],1⟩) qg ?_ ?_
 ·refine qo J j (fun _ j=>?_) (fun _ j=>?_)
  ·refine qz<|U J<|O _ J<|qb J<|qx ?_;obtain rfl:=qr j;exact ⟨_,J,wkA [] [] []⟩
  refine qm<|Qh ?_;obtain rfl:=qr j;exact ⟨_,J,wkA [] [] []⟩
 intro k hb;subst hb;refine qe<|qe<|Qb [q0,q0,q0,qq 0,q0,q0,q0,q0,q0,qq 0,q0,q0,q0,q0,q0,q0] qh<|U J<|U J<|U J<|U J<|O _ J<|q8 a fun ba ak a=>qt ak J J<|Q7 _ ak J<|U J<|U J<|U J<|O _ J<|q8 a fun bb al a=>qt al J J<|Q7 _ al J<|q8 a fun bc bd a=>Kw _ (q1Ok ba bb bc bd) J J J (.inl J)<|O _ J<|O _ J<|q9 ?_;refine qo J a (fun _ a=>?_) (fun _ a=>?_)
 ·refine Uy ?_;refine ⟨_,qp a,fun hm=>?_⟩;subst hm;obtain rfl:=qr h;exact ⟨.inr J,_,J,wkA [] [] []⟩
 refine qm<|qe<|Qb [Qo 0,q0,Qo 0,q0,qq 0,q0,q0,q0,q0,q0,qq 0,q0,q0,q0,q0,q0,q0,q0,q0,q0,q0,q0,q0,q0] qh<|U J<|U J<|U J<|O _ J<|U J<|U J<|U J<|O _ J<|U J<|U J<|U J<|O _ J<|q8 a fun be am a=>qt am J J<|Q7 _ am J<|U J<|U J<|U J<|O _ J<|q8 a fun bf an a=>qt an J J<|Q7 _ an J<|q8 a fun bh ao a=>qt ao J J<|Qx be ao J J J J J J J J (leb J) J<|q8 a fun bi ap a=>qt ap qg J<|Qx bf ap J J J J J J J J (leb J) J<|q9<|qz<|U J<|qb J<|qx<|Qp<|Qh<|⟨_,qp a,wkE [] [] [] J ⟨⟨_,J,K2 qg J qy (ltd J)⟩,qi J,qi J,qi J,qi J,trivial⟩ ⟨Qf J J,trivial⟩⟩
theorem q12f (g : qv→qv→Option Int) (q1F : FuncId) (q1C : List DV) (q1Ok : ∀ (o : qv) (p : qv) (r : Int),g o p = some r→Pure Tryz.prog tab q1F ([.agg (Qk o),.agg (Qk p)] ++ q1C) (qa r)) (m : List qv) (b : Int) (h : Int) (r : List qv) (j : qbe g m b h = some r) : K8 Tryz.prog tab 180 [.hs 0 3 0 m.length,q7 b,q7 h,.d (.fn q1F q1C)] [(0,.dat 3 (m.map Qk))] 1 (.d (.tup [])) [(0,.dat 3 (r.map Qk))] 1:=by
 unfold qbe at j;refine Kd Tryz.func180 J qh qh J<|qd<|U J<|qb J<|qs<|qb J<|qs<|U J<|U J<|O _ J<|qb J<|q9<|qe<|qd<|U J<|O _ J<|O _ J<|qb J<|q9<|q8 j fun q z j=>?_;refine Qq (fun l=>l = q) (fun l=>⟨[(0,.hs 0 3 0 l.length),(3,.d (.fn q1F q1C)),(8,q7 b),(9,q7 0),(10,.d (qa (w64 (h - b))))],[(0,.dat 3 (l.map Qk))],1⟩) qg ?_ ?_
 ·refine Qg (qbf g h b) (fun k=>⟨[(0,.hs 0 3 0 k.2.length),(3,.d (.fn q1F q1C)),(8,q7 b),(9,q7 0),(10,.d (qa (w64 (h - b)))),(11,q7 k.1)],[(0,.dat 3 (k.2.map Qk))],1⟩) _ q z (wkA [] [] []) ?_;intro k ai c;unfold qbf at c;refine qe<|qd<|U J<|O _ J<|q9 ?_;refine qo J c (fun _ c=>?_) (fun _ c=>?_)
  ·refine qm<|qe<|Q6<|qz<|U J<|U J<|U J<|U J<|U J<|q8 c fun s aa c=>q8 c fun aj ab c=>?_;have ac:=Ke ab;refine K9 [(0,0)] [(0,0)] _ (.d (.tup [])) 1 [(0,.dat 3 (s.map Qk))] 1 (qpe g q1F q1C q1Ok k.2 k.1 (w64 (h - b)) b s aa)<|qx<|Qp<|qz<|U J<|O _ J<|qb J<|qx<|⟨_,qp c,wkE [] [] [] J ⟨⟨_,J,K2 (by simp [ac]) J qy (ltd J)⟩,qi J,qi J,qi J,qi J,qi J,trivial⟩ ⟨Qf J J,trivial⟩⟩
  refine Q9 ?_;refine ⟨_,qp c,fun hm=>?_⟩;subst hm;exact ⟨_,J,wkA [] [] []⟩
 intro l hb;subst hb;refine qd<|U J<|O _ J<|qb J<|q9<|q8 j fun ad ae j=>Q6<|Qg (qbg b g) (fun f=>⟨[(0,.hs 0 3 0 f.2.length),(3,.d (.fn q1F q1C)),(8,q7 b),(9,q7 0),(12,q7 f.1)],[(0,.dat 3 (f.2.map Qk))],1⟩) _ ad ae (wkA [] [] []) ?_;intro f ak a;unfold qbg at a;refine qe<|qd<|U J<|O _ J<|q9 ?_;refine qo J a (fun _ a=>?_) (fun _ a=>?_)
 ·refine qm<|qe<|Q6<|qe<|Qb [Qo 0,q0,Qo 0,q0,qq 0,q0,q0,q0,qq 0,q0,q0,q0,q0,q0,q0,q0,q0,q0,q0,q0] qh<|U J<|U J<|U J<|U J<|U J<|O _ J<|U J<|U J<|U J<|O _ J<|q8 a fun t u a=>qt u J J<|Q7 _ u J<|U J<|U J<|q8 a fun v w a=>qt w J J<|Q7 _ w J<|q8 a fun al x a=>qt x J J<|Qx t x J J J J J J J J (leb J) J<|q8 a fun am y a=>qt y qg J<|Qx v y J J J J J J J J (leb J) J<|q9<|qz<|U J<|U J<|U J<|U J<|U J<|q8 a fun n af a=>q8 a fun an ag a=>?_;have ah:=Ke ag;refine Zx [(0,0)] [(0,0)] [.hs 0 3 0 f.2.length,q7 0,q7 f.1,q7 b,.d (.fn q1F q1C)] (.d (.tup [])) [(0,.dat 3 (n.map Qk))] [(0,.dat 3 (n.map Qk))] 1 (qpe g q1F q1C q1Ok ((f.2.set b.toNat t).set (w64 (b + f.1)).toNat v) 0 f.1 b n af) J J J (Y4 [(0,0)] [] [] J ⟨⟨_,J,K2 qg J qy (ltd J)⟩,qi J,qi J,qi J,qi J,trivial⟩ ⟨Qf J J,trivial⟩) (Y4 [(0,0)] [] [] J ⟨qi J,trivial⟩ ⟨Qf J J,trivial⟩) J ⟨.inl J,trivial⟩<|qx<|Qp<|qz<|U J<|O _ J<|qb J<|qx<|⟨_,qp a,wkE [] [] [] J ⟨⟨_,J,K2 (by simp [ah]) J qy (ltd J)⟩,qi J,qi J,qi J,qi J,trivial⟩ ⟨Qf J J,trivial⟩⟩
 refine Q9 ?_;refine ⟨_,qp a,fun hm=>?_⟩;subst hm;obtain rfl:=qr j;exact ⟨.inl J,_,J,wkA [] [] []⟩
theorem qij (b : qv→qv→Option Int) (q1F : FuncId) (q1C : List DV) (q1Ok : ∀ (c : qv) (f : qv) (r : Int),b c f = some r→Pure Tryz.prog tab q1F ([.agg (Qk c),.agg (Qk f)] ++ q1C) (qa r)) (g : List qv) (h : Int) (j : Int) (k : Int) (r : Int × Int × Int) (a : q5s b g h j k = some r) : K8 Tryz.prog tab 195 [.d (.sl 3 (g.map Qk)),q7 h,q7 j,.ref 0 1 0 0,.d (.fn q1F q1C)] [(0,.dat 1 [[qa k]])] 1 (.d (.tup [qa r.1,qa r.2.1])) [(0,.dat 1 [[qa r.2.2]])] 1:=by
 unfold q5s at a;refine Kd Tryz.func195 J qh qh J<|qd<|qb J<|qb J<|q9<|qe<|qe<|Qb [q0,q0,q0,q0,q0,q0,q0,q0,q0,q0,q0] qh<|U J<|U J<|U J<|q8 a fun l m a=>Ql m J<|O _ J<|U J<|U J<|q8 a fun n o a=>Ql o J<|O _ J<|q8 a fun p q a=>Kw _ (q1Ok l n p q) J J J (.inl J)<|O _ J<|q9 ?_;refine qo J a (fun _ a=>?_) (fun _ a=>?_)
 ·refine qd<|U J<|O _ J<|O _ J<|O _ J<|O _ J<|Q8 0 _ J<|qs<|U J<|U J<|qb J<|qb J<|qw ?_;obtain rfl:=qr a;exact ⟨.inr J,_,J,wkA [] [] []⟩
 refine qm<|qd<|U J<|U J<|qb J<|qb J<|qw ?_;obtain rfl:=qr a;exact ⟨.inr J,_,J,wkA [] [] []⟩
theorem qpb (f : qv→qv→Option Int) (q1F : FuncId) (q1C : List DV) (q1Ok : ∀ (n : qv) (o : qv) (r : Int),f n o = some r→Pure Tryz.prog tab q1F ([.agg (Qk n),.agg (Qk o)] ++ q1C) (qa r)) (g : List qv) (j : Int) (k : Int) (l : Int) (m : Int) (r : Int × Int) (a : q80 f g j k l m = some r) : K8 Tryz.prog tab 193 [.d (.sl 3 (g.map Qk)),q7 j,q7 k,q7 l,.ref 0 1 0 0,.d (.fn q1F q1C)] [(0,.dat 1 [[qa m]])] 1 (q7 r.1) [(0,.dat 1 [[qa r.2]])] 1:=by
 unfold q80 at a;refine Kd Tryz.func193 J qh qh J<|qd<|qb J<|qs<|U J<|U J<|U J<|U J<|U J<|q8 a fun b p a=>K9 [(0,0)] [(0,0)] _ (.d (.tup [qa b.1,qa b.2.1])) 1 [(0,.dat 1 [[qa b.2.2]])] 1 (qij f q1F q1C q1Ok g j k m b p)<|U J<|O _ J<|O _ J<|qb J<|qb J<|qs<|U J<|U J<|U J<|U J<|U J<|q8 a fun c q a=>K9 [(0,0)] [(0,0)] _ (.d (.tup [qa c.1,qa c.2.1])) 1 [(0,.dat 1 [[qa c.2.2]])] 1 (qij f q1F q1C q1Ok g b.2.1 l b.2.2 c q)<|U J<|O _ J<|O _ J<|qb J<|qb J<|qs<|U J<|U J<|U J<|U J<|U J<|q8 a fun h s a=>K9 [(0,0)] [(0,0)] _ (.d (.tup [qa h.1,qa h.2.1])) 1 [(0,.dat 1 [[qa h.2.2]])] 1 (qij f q1F q1C q1Ok g b.1 c.1 c.2.2 h s)<|U J<|O _ J<|O _ J ?_;refine qb J<|qb J<|qs<|U J<|qb J<|qw ?_;obtain rfl:=qr a;exact ⟨.inr J,_,J,wkA [] [] []⟩
theorem qif (c : qv→qv→Option Int) (q1F : FuncId) (q1C : List DV) (q1Ok : ∀ (j : qv) (k : qv) (r : Int),c j k = some r→Pure Tryz.prog tab q1F ([.agg (Qk j),.agg (Qk k)] ++ q1C) (qa r)) (f : List qv) (a : Int) (g : Int) (r : Int × Int) (b : q5p c f a g = some r) : K8 Tryz.prog tab 192 [.d (.sl 3 (f.map Qk)),q7 a,.ref 0 1 0 0,.d (.fn q1F q1C)] [(0,.dat 1 [[qa g]])] 1 (q7 r.1) [(0,.dat 1 [[qa r.2]])] 1:=by
 unfold q5p at b;refine Kd Tryz.func192 J qh qh J<|qd<|qb J<|qs<|U J<|U J<|O _ J<|U J<|U J<|O _ J<|U J<|U J<|q8 b fun h l b=>K9 [(0,0)] [(0,0)] _ (q7 h.1) 1 [(0,.dat 1 [[qa h.2]])] 1 (qpb c q1F q1C q1Ok f (w64 (a - 1)) a (w64 (a + 1)) g h l)<|qb J<|qw ?_;obtain rfl:=qr b;exact ⟨.inr J,_,J,wkA [] [] []⟩
theorem q12c (h : List qv) (g : Int) (k : Int) (j : qv→qv→Option Int) (p3F : FuncId) (p3C : List DV) (p3Ok : ∀ (q : qv) (s : qv) (r : Int),j q s = some r→Pure Tryz.prog tab p3F ([.agg (Qk q),.agg (Qk s)] ++ p3C) (qa r)) (r : Int × Int) (a : qba h g k j = some r) : Pure Tryz.prog tab 182 [.sl 3 (h.map Qk),qa g,qa k,.fn p3F p3C] (.tup [qa r.1,qa r.2]):=by
 unfold qba at a;refine Qz Tryz.func182 J qh qh J<|qd<|qb J<|qb J<|qs<|U J<|U J<|O _ J<|qb J<|qs<|Qu J J<|qs<|U J<|U J<|O _ J<|O _ J<|O _ J<|qb J<|qs<|U J<|U J<|O _ J<|O _ J<|O _ J<|qb J<|qs<|U J<|U J<|O _ J<|O _ J<|O _ J<|qb J<|q9<|qe<|qd<|U J<|O _ J<|q9<|q8 a fun t f a=>?_;refine Ya (fun l=>l = t) (fun l=>⟨[(11,.ref 0 1 0 0),(13,q7 l.1)],[(0,.dat 1 [[qa l.2]])],1⟩) qg ?_ ?_
 ·refine qo J f (fun _ f=>?_) (fun _ f=>?_)
  ·refine qe<|qd<|U J<|O _ J<|q9<|q8 f fun u b f=>?_;refine Ya (fun c=>c = u) (fun c=>⟨[(0,.d (.sl 3 (h.map Qk))),(3,.d (.fn p3F p3C)),(11,.ref 0 1 0 0),(12,q7 c.1),(13,q7 c.2.1),(14,q7 c.2.2.1)],[(0,.dat 1 [[qa c.2.2.2]])],1⟩) qg ?_ ?_
   ·refine qo J b (fun _ b=>?_) (fun _ b=>?_)
    ·refine qd<|U J<|U J<|U J<|q8 b fun m v b=>K9 [(0,0)] [(0,0)] _ (q7 m.1) 1 [(0,.dat 1 [[qa m.2]])] 1 (qif j p3F p3C p3Ok h (w64 (g + (w64 ((w64 (Int.tdiv (w64 (k - g)) 4)) * 1)))) 0 m v)<|qb J<|qs<|U J<|U J<|U J<|q8 b fun n w b=>K9 [(0,0)] [(0,0)] _ (q7 n.1) 1 [(0,.dat 1 [[qa n.2]])] 1 (qif j p3F p3C p3Ok h (w64 (g + (w64 ((w64 (Int.tdiv (w64 (k - g)) 4)) * 2)))) m.2 n w)<|qb J<|q9<|qz<|U J<|U J<|U J<|q8 b fun o x b=>K9 [(0,0)] [(0,0)] _ (q7 o.1) 1 [(0,.dat 1 [[qa o.2]])] 1 (qif j p3F p3C p3Ok h (w64 (g + (w64 ((w64 (Int.tdiv (w64 (k - g)) 4)) * 3)))) n.2 o x)<|qb J<|qx ?_;obtain rfl:=qr b;exact ⟨_,J,wkA [(0,0)] [] []⟩
    refine qm<|Qh ?_;obtain rfl:=qr b;exact ⟨_,J,wkA [(0,0)] [] []⟩
   intro c hb;subst hb;refine qz<|U J<|U J<|U J<|U J<|U J<|q8 f fun p y f=>K9 [(0,0)] [(0,0)] _ (q7 p.1) 1 [(0,.dat 1 [[qa p.2]])] 1 (qpb j p3F p3C p3Ok h c.1 c.2.1 c.2.2.1 c.2.2.2 p y)<|qb J<|qx ?_;obtain rfl:=qr f;exact ⟨_,J,wkA [(0,0)] [] []⟩
  refine qm<|Qh ?_;obtain rfl:=qr f;exact ⟨_,J,wkA [(0,0)] [] []⟩
 intro l hb;subst hb;refine qd<|O _ J<|q9<|Q6<|qd<|O _ J<|qb J<|q9 ?_;refine qo J a (fun _ a=>?_) (fun _ a=>?_)
 ·refine qd<|U J<|qb J<|qb J<|qw ?_;cases a;exact Qe _ J
 refine qd<|O _ J<|qb J<|q9 ?_;refine qo J a (fun _ a=>?_) (fun _ a=>?_)
 ·refine qd<|U J<|qb J<|qb J<|qw ?_;cases a;exact Qe _ J
 refine qd<|U J<|qb J<|qb J<|qw ?_;cases a;exact Qe _ J
theorem q130 (g : qv→qv→Option Int) (q1F : FuncId) (q1C : List DV) (_q1Ok : ∀ (h : qv) (j : qv) (r : Int),g h j = some r→Pure Tryz.prog tab q1F ([.agg (Qk h),.agg (Qk j)] ++ q1C) (qa r)) (f : List qv) (k : Int) (l : Int) (r : List qv) (c : qcg g f k l = some r) : K8 Tryz.prog tab 183 [.hs 0 3 0 f.length,q7 k,q7 l,.d (.fn q1F q1C)] [(0,.dat 3 (f.map Qk))] 1 (.d (.tup [])) [(0,.dat 3 (r.map Qk))] 1:=by
 unfold qcg at c;refine Kd Tryz.func183 J qh qh J<|qd<|U J<|qb J<|qs<|U J<|O _ J<|qb J<|q9<|q8 c fun q s c=>Q6<|Qg (qch) (fun b=>⟨[(0,.hs 0 3 0 b.2.2.length),(8,q7 b.1),(9,q7 b.2.1)],[(0,.dat 3 (b.2.2.map Qk))],1⟩) _ q s (wkA [] [] []) ?_;intro b v a;unfold qch at a;refine qe<|qd<|U J<|U J<|O _ J<|q9 ?_;refine qo J a (fun _ a=>?_) (fun _ a=>?_)
 ·refine qm<|Q6<|qe<|Qb [Qo 0,q0,Qo 0,q0,qq 0,q0,q0,q0,qq 0,q0,q0,q0,q0,q0,q0,q0] qh<|U J<|U J<|U J<|U J<|U J<|U J<|q8 a fun t m a=>qt m J J<|Q7 _ m J<|U J<|U J<|q8 a fun u n a=>qt n J J<|Q7 _ n J<|q8 a fun w o a=>qt o J J<|Qx t o J J J J J J J J (leb J) J<|q8 a fun x p a=>qt p qg J<|Qx u p J J J J J J J J (leb J) J<|qs<|U J<|O _ J<|qb J<|q9<|qz<|U J<|O _ J<|qb J<|qx<|Qp<|Qh<|⟨_,qp a,wkE [] [] [] J ⟨⟨_,J,K2 qg J qy (ltd J)⟩,qi J,qi J,trivial⟩ ⟨Qf J J,trivial⟩⟩
 refine Q9 ?_;refine ⟨_,qp a,fun hm=>?_⟩;subst hm;obtain rfl:=qr c;exact ⟨.inl J,_,J,wkA [] [] []⟩
theorem q12l (o : qv→qv→Option Int) (q1F : FuncId) (q1C : List DV) (q1Ok : ∀ (x : qv) (y : qv) (r : Int),o x y = some r→Pure Tryz.prog tab q1F ([.agg (Qk x),.agg (Qk y)] ++ q1C) (qa r)) (w : List qv) (j : Int) (g : Int) (r : Bool × List qv) (p : q83 o w j g = some r) : K8 Tryz.prog tab 184 [.hs 0 3 0 w.length,q7 j,q7 g,.d (.fn q1F q1C)] [(0,.dat 3 (w.map Qk))] 1 (Q3 r.1) [(0,.dat 3 (r.2.map Qk))] 1:=by
 unfold q83 at p;refine Kd Tryz.func184 J qh qh J<|qd<|qb J<|qs<|U J<|O _ J<|qb J<|q9<|qe<|qd<|qb J<|q9<|q8 p fun z bk p=>?_;refine Qq (fun t=>.inl t = z) (fun t=>⟨[],[(0,.dat 3 (t.map Qk))],1⟩) qg ?_ ?_
 ·refine Qg (q84 g o j) (fun f=>⟨[(0,.hs 0 3 0 f.2.2.length),(1,q7 j),(2,q7 g),(3,.d (.fn q1F q1C)),(9,q7 f.1),(10,q7 f.2.1)],[(0,.dat 3 (f.2.2.map Qk))],1⟩) _ z bk (wkA [] [] []) ?_;intro f cn k;unfold q84 at k;refine qe<|qd<|U J<|O _ J<|q9 ?_;refine qo J k (fun _ k=>?_) (fun _ k=>?_)
  ·refine qm<|qe<|q8 k fun bl a k=>?_;refine Qq (fun q=>.inl q = bl) (fun q=>⟨[(0,.hs 0 3 0 q.2.length),(1,q7 j),(2,q7 g),(3,.d (.fn q1F q1C)),(9,q7 q.1),(10,q7 f.2.1)],[(0,.dat 3 (q.2.map Qk))],1⟩) qg ?_ ?_
   ·refine qe<|q8 a fun aa bm a=>?_;refine Qq (fun l=>l = aa) (fun l=>⟨[(0,.hs 0 3 0 f.2.2.length),(1,q7 j),(2,q7 g),(3,.d (.fn q1F q1C)),(9,q7 l),(10,q7 f.2.1)],[(0,.dat 3 (f.2.2.map Qk))],1⟩) qg ?_ ?_
    ·refine Qg (qbq g f o) (fun ab=>⟨[(0,.hs 0 3 0 f.2.2.length),(1,q7 j),(2,q7 g),(3,.d (.fn q1F q1C)),(9,q7 ab),(10,q7 f.2.1)],[(0,.dat 3 (f.2.2.map Qk))],1⟩) _ aa bm (wkA [] [] []) ?_;intro ab co m;unfold qbq at m;refine qe<|qe<|Qb [q0,q0,q0,q0,qq 0,q0,q0,q0,q0,qq 0,q0,q0,q0,q0,q0,q0,q0,q0] qh<|U J<|U J<|O _ J<|q8 m fun bn h m=>?_;refine Qd 15 (fun A st=>∃ ac ad ae af ag ah ai aj ak al am an ao ap,st = A [(36,Q3 bn),(35,ap),(34,ao),(33,an),(32,am),(31,al),(30,ak),(29,aj),(28,ai),(27,ah),(26,ag),(25,af),(24,ae),(23,ad),(22,ac)]) ?_ ?_
     ·refine Qc J J h (fun h=>?_) (fun h=>?_)
      ·refine U J<|U J<|U J<|q8 h fun bo aq h=>qt aq J J<|Q7 _ aq J<|U J<|U J<|O _ J<|q8 h fun bp ar h=>qt ar J J<|Q7 _ ar J<|q8 h fun bq br h=>Kw _ (q1Ok bo bp bq br) J J J (.inl J)<|O _ J<|O _ J<|O _ J<|q9 ?_;cases h;exact ⟨_,_,_,_,_,_,_,_,_,_,_,_,_,_,J⟩
      refine qc J<|qc J<|qc J<|qc J<|qc J<|qc J<|qc J<|qc J<|qc J<|qc J<|qc J<|qc J<|qc J<|O _ J<|q9 ?_;cases h;exact ⟨_,_,_,_,_,_,_,_,_,_,_,_,_,_,J⟩
     rintro _ ⟨ac,ad,ae,af,ag,ah,ai,aj,ak,al,am,an,ao,ap,rfl⟩;refine q9 ?_;refine qo J m (fun _ m=>?_) (fun _ m=>?_)
     ·refine qm<|Q6<|qz<|U J<|O _ J<|qb J<|qx<|Qp<|Qh<|⟨_,qp m,wkA [] [] []⟩
     refine Q9 ?_;refine ⟨_,qp m,fun hm=>?_⟩;subst hm;exact ⟨_,J,wkA [] [] []⟩
    intro l hb;subst hb;refine qe<|qd<|U J<|U J<|O _ J<|q9 ?_;refine qo J a (fun _ a=>?_) (fun _ a=>?_)
    ·refine qd<|qb J<|qw ?_;obtain rfl:=qr a;refine ⟨_,qp k,fun hm=>?_⟩;subst hm;obtain rfl:=qr p;exact ⟨.inr J,_,J,wkA [] [] []⟩
    refine qm<|qe<|qd<|U J<|U J<|O _ J<|O _ J<|q9 ?_;refine qo J a (fun _ a=>?_) (fun _ a=>?_)
    ·refine qd<|qb J<|qw ?_;obtain rfl:=qr a;refine ⟨_,qp k,fun hm=>?_⟩;subst hm;obtain rfl:=qr p;exact ⟨.inr J,_,J,wkA [] [] []⟩
    refine qm<|qe<|Qb [Qo 0,q0,Qo 0,q0,qq 0,q0,q0,q0,qq 0,q0,q0,q0,q0,q0,q0,q0,q0,q0] qh<|U J<|U J<|U J<|U J<|O _ J<|U J<|U J<|O _ J<|q8 a fun bs au a=>qt au J J<|Q7 _ au J<|U J<|U J<|q8 a fun bt av a=>qt av J J<|Q7 _ av J<|q8 a fun cp aw a=>qt aw J J<|Qx bs aw J J J J J J J J (leb J) J<|q8 a fun cq ax a=>qt ax qg J<|Qx bt ax J J J J J J J J (leb J) J<|q9<|qe<|qd<|U J<|U J<|O _ J<|O _ J<|q9<|q8 a fun bu n a=>?_;refine Ya (fun s=>s = bu) (fun s=>⟨[(0,.hs 0 3 0 s.length),(1,q7 j),(2,q7 g),(3,.d (.fn q1F q1C)),(9,q7 l),(10,q7 f.2.1)],[(0,.dat 3 (s.map Qk))],1⟩) qg ?_ ?_
    ·refine qo J n (fun _ n=>?_) (fun _ n=>?_)
     ·refine qd<|U J<|O _ J<|qb J<|q9<|q8 n fun bv bw n=>Q6<|Qg (qbr o) (fun u=>⟨[(0,.hs 0 3 0 u.2.length),(1,q7 j),(2,q7 g),(3,.d (.fn q1F q1C)),(9,q7 l),(10,q7 f.2.1),(11,q7 u.1)],[(0,.dat 3 (u.2.map Qk))],1⟩) _ bv bw (wkE [] [] [] J ⟨⟨_,J,K2 qg J qy (ltd J)⟩,qi J,qi J,qi J,qi J,qi J,qi J,trivial⟩ ⟨Qf J J,trivial⟩) ?_;intro u cr b;unfold qbr at b;refine qe<|qd<|U J<|O _ J<|q9 ?_;refine qo J b (fun _ b=>?_) (fun _ b=>?_)
      ·refine qm<|qe<|Q6<|qe<|qe<|Qb [q0,q0,q0,qq 0,q0,q0,q0,q0,qq 0,q0,q0,q0,q0] qh<|U J<|U J<|U J<|q8 b fun bz ay b=>qt ay J J<|Q7 _ ay J<|U J<|U J<|O _ J<|q8 b fun ca az b=>qt az J J<|Q7 _ az J<|q8 b fun cb cc b=>Kw _ (q1Ok bz ca cb cc) J J J (.inl J)<|O _ J<|O _ J<|q9 ?_;refine qo J b (fun _ b=>?_) (fun _ b=>?_)
       ·refine Q9 ?_;refine ⟨_,qp b,fun hm=>?_⟩;subst hm;obtain rfl:=qr n;exact ⟨_,J,wkA [] [] []⟩
       refine qm<|Qb [Qo 0,q0,Qo 0,q0,qq 0,q0,q0,q0,qq 0,q0,q0,q0,q0,q0,q0,q0,q0,q0] qh<|U J<|U J<|U J<|U J<|O _ J<|U J<|U J<|O _ J<|q8 b fun cd ba b=>qt ba J J<|Q7 _ ba J<|U J<|U J<|q8 b fun ce bb b=>qt bb J J<|Q7 _ bb J<|q8 b fun cs bc b=>qt bc J J<|Qx cd bc J J J J J J J J (leb J) J<|q8 b fun ct bd b=>qt bd qg J<|Qx ce bd J J J J J J J J (leb J) J<|qx<|Qp<|qz<|U J<|O _ J<|qb J<|qx<|⟨_,qp b,wkE [] [] [] J ⟨⟨_,J,K2 qg J qy (ltd J)⟩,qi J,qi J,qi J,qi J,qi J,qi J,trivial⟩ ⟨Qf J J,trivial⟩⟩
      refine Q9 ?_;refine ⟨_,qp b,fun hm=>?_⟩;subst hm;obtain rfl:=qr n;exact ⟨_,J,wkA [] [] []⟩
     refine qm<|Qh ?_;obtain rfl:=qr n;exact ⟨_,J,wkE [] [] [] J ⟨⟨_,J,K2 qg J qy (ltd J)⟩,qi J,qi J,qi J,qi J,qi J,trivial⟩ ⟨Qf J J,trivial⟩⟩
    intro s hb;subst hb;refine qd<|U J<|U J<|O _ J<|O _ J<|q9 ?_;refine qo J a (fun _ a=>?_) (fun _ a=>?_)
    ·refine qd<|U J<|O _ J<|qb J<|q9<|q8 a fun cf cg a=>Q6<|Qg (qbs g o l) (fun v=>⟨[(0,.hs 0 3 0 v.2.length),(1,q7 j),(2,q7 g),(3,.d (.fn q1F q1C)),(9,q7 l),(10,q7 f.2.1),(12,q7 v.1)],[(0,.dat 3 (v.2.map Qk))],1⟩) _ cf cg (wkA [] [] []) ?_;intro v cu c;unfold qbs at c;refine qe<|qd<|U J<|U J<|O _ J<|q9 ?_;refine qo J c (fun _ c=>?_) (fun _ c=>?_)
     ·refine qm<|qe<|Q6<|qe<|qe<|Qb [q0,q0,q0,qq 0,q0,q0,q0,q0,qq 0,q0,q0,q0,q0] qh<|U J<|U J<|U J<|q8 c fun ch be c=>qt be J J<|Q7 _ be J<|U J<|U J<|O _ J<|q8 c fun ci bf c=>qt bf J J<|Q7 _ bf J<|q8 c fun cj ck c=>Kw _ (q1Ok ch ci cj ck) J J J (.inl J)<|O _ J<|O _ J<|q9 ?_;refine qo J c (fun _ c=>?_) (fun _ c=>?_)
      ·refine Q9 ?_;refine ⟨_,qp c,fun hm=>?_⟩;subst hm;obtain rfl:=qr a;exact ⟨_,J,wkA [] [] []⟩
      refine qm<|Qb [Qo 0,q0,Qo 0,q0,qq 0,q0,q0,q0,qq 0,q0,q0,q0,q0,q0,q0,q0,q0,q0] qh<|U J<|U J<|U J<|U J<|O _ J<|U J<|U J<|O _ J<|q8 c fun cl bg c=>qt bg J J<|Q7 _ bg J<|U J<|U J<|q8 c fun cm bh c=>qt bh J J<|Q7 _ bh J<|q8 c fun cv bi c=>qt bi J J<|Qx cl bi J J J J J J J J (leb J) J<|q8 c fun cw bj c=>qt bj qg J<|Qx cm bj J J J J J J J J (leb J) J<|qx<|Qp<|qz<|U J<|O _ J<|qb J<|qx<|⟨_,qp c,wkE [] [] [] J ⟨⟨_,J,K2 qg J qy (ltd J)⟩,qi J,qi J,qi J,qi J,qi J,qi J,trivial⟩ ⟨Qf J J,trivial⟩⟩
     refine Q9 ?_;refine ⟨_,qp c,fun hm=>?_⟩;subst hm;obtain rfl:=qr a;exact ⟨_,J,wkA [] [] []⟩
    refine qm<|Qh ?_;obtain rfl:=qr a;exact ⟨_,J,wkA [] [] []⟩
   intro q hb;subst hb;refine qz<|U J<|O _ J<|qb J<|qx<|⟨_,qp k,wkA [] [] []⟩
  refine Q9 ?_;refine ⟨_,qp k,fun hm=>?_⟩;subst hm;exact ⟨_,J,wkA [] [] []⟩
 intro t hb;subst hb;refine qd<|qb J<|qw ?_;obtain rfl:=qr p;exact ⟨.inr J,_,J,wkA [] [] []⟩
theorem q12q (m : qv→qv→Option Int) (q1F : FuncId) (q1C : List DV) (q1Ok : ∀ (q : qv) (s : qv) (r : Int),m q s = some r→Pure Tryz.prog tab q1F ([.agg (Qk q),.agg (Qk s)] ++ q1C) (qa r)) (p : List qv) (h : Int) (t : Int) (u : Int) (r : Int × List qv) (c : qca m p h t u = some r) : K8 Tryz.prog tab 185 [.hs 0 3 0 p.length,q7 h,q7 t,q7 u,.d (.fn q1F q1C)] [(0,.dat 3 (p.map Qk))] 1 (q7 r.1) [(0,.dat 3 (r.2.map Qk))] 1:=by
 unfold qca at c;refine Kd Tryz.func185 J qh qh J<|qd<|qb J<|q9<|qe<|Qb [Qo 0,q0,Qo 0,q0,qq 0,q0,q0,q0,qq 0,q0,q0,q0,q0,q0,q0,q0] qh<|U J<|U J<|U J<|U J<|U J<|U J<|q8 c fun bn v c=>qt v J J<|Q7 _ v J<|U J<|U J<|q8 c fun bo w c=>qt w J J<|Q7 _ w J<|q8 c fun cg x c=>qt x J J<|Qx bn x J J J J J J J J (leb J) J<|q8 c fun ch y c=>qt y qg J<|Qx bo y J J J J J J J J (leb J) J<|qs<|U J<|O _ J<|U J<|O _ J<|qb J<|qb J<|q9<|qe<|q8 c fun z bp c=>?_;refine Qq (fun n=>n = z) (fun n=>⟨[(11,q7 n.1)],[(0,.dat 3 (n.2.map Qk))],1⟩) qg ?_ ?_
 ·refine Qg (qcb h m) (fun b=>⟨[(0,.hs 0 3 0 b.2.2.length),(1,q7 h),(4,.d (.fn q1F q1C)),(11,q7 b.1),(12,q7 b.2.1)],[(0,.dat 3 (b.2.2.map Qk))],1⟩) _ z bp (wkE [] [] [] J ⟨⟨_,J,K2 qg J qy (ltd J)⟩,qi J,qi J,qi J,qi J,trivial⟩ ⟨Qf J J,trivial⟩) ?_;intro b ci a;unfold qcb at a;refine Q6<|qe<|q8 a fun aa bq a=>?_;refine Qq (fun l=>l = aa) (fun l=>⟨[(0,.hs 0 3 0 b.2.2.length),(1,q7 h),(4,.d (.fn q1F q1C)),(11,q7 l),(12,q7 b.2.1)],[(0,.dat 3 (b.2.2.map Qk))],1⟩) qg ?_ ?_
  ·refine Qg (qcc b h m) (fun ab=>⟨[(0,.hs 0 3 0 b.2.2.length),(1,q7 h),(4,.d (.fn q1F q1C)),(11,q7 ab),(12,q7 b.2.1)],[(0,.dat 3 (b.2.2.map Qk))],1⟩) _ aa bq (wkA [] [] []) ?_;intro ab cj j;unfold qcc at j;refine qe<|qe<|Qb [q0,q0,q0,q0,qq 0,q0,q0,q0,qq 0,q0,q0,q0,q0,q0,q0,q0,q0] qh<|U J<|U J<|O _ J<|q8 j fun br f j=>?_;refine Qd 14 (fun A st=>∃ ac ad ae af ag ah ai aj ak al am an ao,st = A [(47,Q3 br),(46,ao),(45,an),(44,am),(43,al),(42,ak),(41,aj),(40,ai),(39,ah),(38,ag),(37,af),(36,ae),(35,ad),(34,ac)]) ?_ ?_
   ·refine Qc J J f (fun f=>?_) (fun f=>?_)
    ·refine U J<|U J<|U J<|q8 f fun bs ap f=>qt ap J J<|Q7 _ ap J<|U J<|U J<|q8 f fun bt aq f=>qt aq J J<|Q7 _ aq J<|q8 f fun bu bv f=>Kw _ (q1Ok bs bt bu bv) J J J (.inl J)<|O _ J<|O _ J<|O _ J<|q9 ?_;cases f;exact ⟨_,_,_,_,_,_,_,_,_,_,_,_,_,J⟩
    refine qc J<|qc J<|qc J<|qc J<|qc J<|qc J<|qc J<|qc J<|qc J<|qc J<|qc J<|qc J<|O _ J<|q9 ?_;cases f;exact ⟨_,_,_,_,_,_,_,_,_,_,_,_,_,J⟩
   rintro _ ⟨ac,ad,ae,af,ag,ah,ai,aj,ak,al,am,an,ao,rfl⟩;refine q9 ?_;refine qo J j (fun _ j=>?_) (fun _ j=>?_)
   ·refine qm<|Q6<|qz<|U J<|O _ J<|qb J<|qx<|Qp<|Qh<|⟨_,qp j,wkA [] [] []⟩
   refine Q9 ?_;refine ⟨_,qp j,fun hm=>?_⟩;subst hm;exact ⟨_,J,wkA [] [] []⟩
  intro l hb;subst hb;refine qe<|q8 a fun ar bw a=>?_;refine Qq (fun o=>o = ar) (fun o=>⟨[(0,.hs 0 3 0 b.2.2.length),(1,q7 h),(4,.d (.fn q1F q1C)),(11,q7 l),(12,q7 o)],[(0,.dat 3 (b.2.2.map Qk))],1⟩) qg ?_ ?_
  ·refine Qg (qcd l b h m) (fun au=>⟨[(0,.hs 0 3 0 b.2.2.length),(1,q7 h),(4,.d (.fn q1F q1C)),(11,q7 l),(12,q7 au)],[(0,.dat 3 (b.2.2.map Qk))],1⟩) _ ar bw (wkA [] [] []) ?_;intro au ck k;unfold qcd at k;refine qe<|qe<|Qb [q0,q0,q0,qq 0,q0,q0,q0,qq 0,q0,q0,q0,q0,q0,q0,q0,q0] qh<|U J<|U J<|O _ J<|q8 k fun bz g k=>?_;refine Qd 13 (fun A st=>∃ av aw ax ay az ba bb bc bd be bf bg,st = A [(65,Q3 bz),(64,bg),(63,bf),(62,be),(61,bd),(60,bc),(59,bb),(58,ba),(57,az),(56,ay),(55,ax),(54,aw),(53,av)]) ?_ ?_
   ·refine Qc J J g (fun g=>?_) (fun g=>?_)
    ·refine U J<|U J<|U J<|q8 g fun ca bh g=>qt bh J J<|Q7 _ bh J<|U J<|U J<|q8 g fun cb bi g=>qt bi J J<|Q7 _ bi J<|q8 g fun cc cd g=>Kw _ (q1Ok ca cb cc cd) J J J (.inl J)<|O _ J<|O _ J<|q9 ?_;cases g;exact ⟨_,_,_,_,_,_,_,_,_,_,_,_,J⟩
    refine qc J<|qc J<|qc J<|qc J<|qc J<|qc J<|qc J<|qc J<|qc J<|qc J<|qc J<|O _ J<|q9 ?_;cases g;exact ⟨_,_,_,_,_,_,_,_,_,_,_,_,J⟩
   rintro _ ⟨av,aw,ax,ay,az,ba,bb,bc,bd,be,bf,bg,rfl⟩;refine q9 ?_;refine qo J k (fun _ k=>?_) (fun _ k=>?_)
   ·refine qm<|Q6<|qz<|U J<|O _ J<|qb J<|qx<|Qp<|Qh<|⟨_,qp k,wkA [] [] []⟩
   refine Q9 ?_;refine ⟨_,qp k,fun hm=>?_⟩;subst hm;exact ⟨_,J,wkA [] [] []⟩
  intro o hb;subst hb;refine qe<|qd<|U J<|U J<|O _ J<|q9 ?_;refine qo J a (fun _ a=>?_) (fun _ a=>?_)
  ·refine Q9 ?_;refine ⟨_,qp a,fun hm=>?_⟩;subst hm;exact ⟨_,J,wkA [] [] []⟩
  refine qm<|qe<|Qb [Qo 0,q0,Qo 0,q0,qq 0,q0,q0,q0,qq 0,q0,q0,q0,q0,q0,q0,q0] qh<|U J<|U J<|U J<|U J<|U J<|U J<|q8 a fun ce bj a=>qt bj J J<|Q7 _ bj J<|U J<|U J<|q8 a fun cf bk a=>qt bk J J<|Q7 _ bk J<|q8 a fun cl bl a=>qt bl J J<|Qx ce bl J J J J J J J J (leb J) J<|q8 a fun cm bm a=>qt bm qg J<|Qx cf bm J J J J J J J J (leb J) J<|qs<|U J<|O _ J<|qb J<|q9<|qz<|U J<|O _ J<|qb J<|qx<|Qp<|Qh<|⟨_,qp a,wkE [] [] [] J ⟨⟨_,J,K2 qg J qy (ltd J)⟩,qi J,qi J,qi J,qi J,trivial⟩ ⟨Qf J J,trivial⟩⟩
 intro n hb;subst hb;refine qd<|U J<|qb J<|qw ?_;obtain rfl:=qr c;exact ⟨.inr J,_,J,wkA [] [] []⟩
end Go.Proofs.YtmekakoiicomaaaGreat
