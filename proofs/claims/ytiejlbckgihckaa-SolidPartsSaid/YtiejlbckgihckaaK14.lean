/- W_Alla -/
import Derived.Test.YtiejlbckgihckaaK13
namespace Go.Proofs.Ytiejlbckgihckaa
open Go Go.Am Go.Sh
set_option maxHeartbeats 8000000
set_option maxRecDepth 100000
theorem qqu (d : List qf) (r : Bool) (a : q7d d = some r) : Pure Try.prog tab 4 [.sl 6 (d.map Q5)] (.bool r):=by
 unfold q7d at a;refine Qy Try.func4 J qg qg J<|qd<|qa J<|qy<|O J<|Qq J<|U _ J<|q7 a fun o b a=>?_;refine Qi 5 (fun A st=>∃ f g h j,st = A [(10,Q3 o),(9,j),(8,h),(7,g),(6,f)]) ?_ ?_
 ·refine Qj J J b (fun b=>?_) (fun b=>?_)
  ·refine O J<|Qq J<|U _ J<|U _ J<|q9 ?_;cases b;exact ⟨_,_,_,_,J⟩
  refine qc J<|qc J<|qc J<|U _ J<|q9 ?_;cases b;exact ⟨_,_,_,_,J⟩
 rintro _ ⟨f,g,h,j,rfl⟩;refine q7 a fun p c a=>?_;refine Qi 5 (fun A st=>∃ k l m n,st = A [(15,Q3 p),(14,n),(13,m),(12,l),(11,k)]) ?_ ?_
 ·refine Qj J J c (fun c=>?_) (fun c=>?_)
  ·refine qc J<|qc J<|qc J<|U _ J<|q9 ?_;cases c;exact ⟨_,_,_,_,J⟩
  refine O J<|Qq J<|U _ J<|U _ J<|q9 ?_;cases c;exact ⟨_,_,_,_,J⟩
 rintro _ ⟨k,l,m,n,rfl⟩;refine qa J<|qz ?_;cases a;exact Qh _ J
theorem qt9 (b : List qf) (f : qf→Option Bool) (p1F : FuncId) (p1C : List DV) (p1Ok : ∀ (h : qf) (r : Bool),f h = some r→Pure Try.prog tab p1F ([.agg (Q5 h)] ++ p1C) (.bool r)) (r : Int) (c : qak b f = some r) : Pure Try.prog tab 27 [.sl 6 (b.map Q5),.fn p1F p1C] (qk r):=by
 unfold qak at c;refine Qy Try.func27 J qg qg J<|qd<|qa J<|q9<|qe<|qd<|O J<|Qq J<|O J<|q9<|q7 c fun j l c=>?_;refine Qf (fun g=>.inl g = j) (fun g=>⟨[],[],0⟩) qb ?_ ?_
 ·refine Qb (q3h b f) (fun k=>⟨[(0,.d (.sl 6 (b.map Q5))),(1,.d (.fn p1F p1C)),(7,q8 (b.length : Int)),(8,q8 k)],[],0⟩) _ j l (wkA [] [] []) ?_;intro k q a;unfold q3h at a;refine qd<|U _ J<|q9<|qe ?_;refine qo J a (fun _ a=>?_) (fun _ a=>?_)
  ·refine qq<|qe<|Q4<|qd<|O J<|qa J<|qy<|O J<|O J<|O J<|q7 a fun m n a=>Qd n J<|U _ J<|q7 a fun o p a=>Yo _ (p1Ok m o p) J J J (.inl J)<|q9 ?_;refine qo J a (fun _ a=>?_) (fun _ a=>?_)
   ·refine qd<|O J<|qa J<|qz ?_;refine ⟨_,qn a,fun hm=>?_⟩;subst hm;cases c;exact Qh _ J
   refine qq<|Qg<|Qm<|qx<|U _ J<|O J<|qu<|⟨_,qn a,wkA [] [] []⟩
  refine Q8 ?_;refine ⟨_,qn a,fun hm=>?_⟩;subst hm;exact ⟨_,J,wkA [] [] []⟩
 intro g hb;subst hb;refine qd<|qa J<|qz ?_;cases c;exact Qh _ J
theorem qt2 (b : List qf) (c : qf→Option Bool) (p1F : FuncId) (p1C : List DV) (p1Ok : ∀ (d : qf) (r : Bool),c d = some r→Pure Try.prog tab p1F ([.agg (Q5 d)] ++ p1C) (.bool r)) (r : Bool) (a : q7p b c = some r) : Pure Try.prog tab 14 [.sl 6 (b.map Q5),.fn p1F p1C] (.bool r):=by
 unfold q7p at a;refine Qy Try.func14 J qg qg J<|qd<|qa J<|qy<|O J<|O J<|q7 a fun f g a=>Qk (qt9 b c p1F p1C p1Ok f g) J<|U _ J<|qa J<|qz ?_;cases a;exact Qh _ J
theorem qjm (a : Qe) (r : Bool) (c : q66 a = some r) : Pure Try.prog tab 28 [.agg (qfl a)] (.bool r):=by
 unfold q66 at c;refine Qy Try.func28 J qg qg J<|qd<|K3 _ _ J<|qa J<|qy<|U _ J<|U _ J<|U _ J<|U _ J<|U _ J<|U _ J<|q2w (r:=min (min a.X a.Y) a.Z) J J (by simp only [q2u];rfl)<|U _ J<|q7 c fun o b c=>?_;refine Qi 10 (fun A st=>∃ d f g h j k l m n,st = A [(20,Q3 o),(19,n),(18,m),(17,l),(16,k),(15,j),(14,h),(13,g),(12,f),(11,d)]) ?_ ?_
 ·refine Qj J J b (fun b=>?_) (fun b=>?_)
  ·refine U _ J<|U _ J<|U _ J<|U _ J<|U _ J<|U _ J<|q2v (r:=max (max a.X a.Y) a.Z) J J (by simp only [q2t];rfl)<|U _ J<|U _ J<|q9 ?_;cases b;exact ⟨_,_,_,_,_,_,_,_,_,J⟩
  refine qc J<|qc J<|qc J<|qc J<|qc J<|qc J<|qc J<|qc J<|U _ J<|q9 ?_;cases b;exact ⟨_,_,_,_,_,_,_,_,_,J⟩
 rintro _ ⟨d,f,g,h,j,k,l,m,n,rfl⟩;refine qa J<|qz ?_;cases c;exact Qh _ J
theorem qjo (g : qf) (r : Bool) (a : q67 g = some r) : Pure Try.prog tab 16 [.agg (Q5 g)] (.bool r):=by
 unfold q67 at a;refine Qy Try.func16 J qg qg J<|qd<|K3 _ _ J<|qa J<|qy<|U _ J<|U _ J<|U _ J<|U _ J<|U _ J<|U _ J<|U _ J<|q7 a fun c1 d a=>?_;refine Qi 9 (fun A st=>∃ h j k l m n o p,st = A [(18,Q3 c1),(17,p),(16,o),(15,n),(14,m),(13,l),(12,k),(11,j),(10,h)]) ?_ ?_
 ·refine Qj J J d (fun d=>?_) (fun d=>?_)
  ·refine U _ J<|U _ J<|U _ J<|U _ J<|U _ J<|U _ J<|U _ J<|U _ J<|q9 ?_;cases d;exact ⟨_,_,_,_,_,_,_,_,J⟩
  refine qc J<|qc J<|qc J<|qc J<|qc J<|qc J<|qc J<|U _ J<|q9 ?_;cases d;exact ⟨_,_,_,_,_,_,_,_,J⟩
 rintro _ ⟨h,j,k,l,m,n,o,p,rfl⟩;refine q7 a fun ai f a=>?_;refine Qi 9 (fun A st=>∃ q s t u v w x y,st = A [(27,Q3 ai),(26,y),(25,x),(24,w),(23,v),(22,u),(21,t),(20,s),(19,q)]) ?_ ?_
 ·refine Qj J J f (fun f=>?_) (fun f=>?_)
  ·refine U _ J<|U _ J<|U _ J<|U _ J<|U _ J<|U _ J<|U _ J<|U _ J<|q9 ?_;cases f;exact ⟨_,_,_,_,_,_,_,_,J⟩
  refine qc J<|qc J<|qc J<|qc J<|qc J<|qc J<|qc J<|U _ J<|q9 ?_;cases f;exact ⟨_,_,_,_,_,_,_,_,J⟩
 rintro _ ⟨q,s,t,u,v,w,x,y,rfl⟩;refine q7 a fun aj b a=>?_;refine Qi 5 (fun A st=>∃ z aa ab ac,st = A [(32,Q3 aj),(31,ac),(30,ab),(29,aa),(28,z)]) ?_ ?_
 ·refine Qj J J b (fun b=>?_) (fun b=>?_)
  ·refine U _ J<|U _ J<|q7 b fun ak al b=>Qk (qjm g.Lo ak al) J<|U _ J<|q9 ?_;cases b;exact ⟨_,_,_,_,J⟩
  refine qc J<|qc J<|qc J<|U _ J<|q9 ?_;cases b;exact ⟨_,_,_,_,J⟩
 rintro _ ⟨z,aa,ab,ac,rfl⟩;refine q7 a fun am c a=>?_;refine Qi 5 (fun A st=>∃ ad ae af ag,st = A [(37,Q3 am),(36,ag),(35,af),(34,ae),(33,ad)]) ?_ ?_
 ·refine Qj J J c (fun c=>?_) (fun c=>?_)
  ·refine U _ J<|U _ J<|q7 c fun an ao c=>Qk (qjm g.Hi an ao) J<|U _ J<|q9 ?_;cases c;exact ⟨_,_,_,_,J⟩
  refine qc J<|qc J<|qc J<|U _ J<|q9 ?_;cases c;exact ⟨_,_,_,_,J⟩
 rintro _ ⟨ad,ae,af,ag,rfl⟩;refine qa J<|qz ?_;cases a;exact Qh _ J
theorem qvz (b : qf) (r : Bool) (a : q2a b = some r) : Pure Try.prog tab 15 [.agg (Q5 b)] (.bool r):=by
 unfold q2a at a;refine Qy Try.func15 J qg qg J<|qd<|K3 _ _ J<|qa J<|qy<|U _ J<|q7 a fun c d a=>Qk (qjo b c d) J<|U _ J<|qa J<|qz ?_;cases a;exact Qh _ J
theorem qo7 (k : Int) (r : Int) (a : q1u k = some r) : Pure Try.prog tab 67 [.int .u64 k] (qk r):=by
 unfold q1u at a;refine Qy Try.func67 J qg qg J<|qd<|qa J<|q9<|qe<|qd<|O J<|U _ J<|q9<|q7 a fun l b a=>?_;refine Yp (fun c=>c = l) (fun c=>⟨[(0,.d (.int .u64 c.1)),(2,q8 c.2)],[],0⟩) qb ?_ ?_
 ·refine qo J b (fun _ b=>?_) (fun _ b=>?_)
  ·refine qd<|O J<|U _ J<|qa J<|q9<|qx<|qa J<|qu ?_;cases b;exact ⟨_,J,wkA [] [] []⟩
  refine qq<|Qg ?_;cases b;exact ⟨_,J,wkA [] [] []⟩
 intro c hb;subst hb;refine qe<|qd<|O J<|U _ J<|q9<|q7 a fun m f a=>?_;refine Yp (fun g=>g = m) (fun g=>⟨[(0,.d (.int .u64 g.1)),(2,q8 g.2)],[],0⟩) qb ?_ ?_
 ·refine qo J f (fun _ f=>?_) (fun _ f=>?_)
  ·refine qd<|O J<|U _ J<|qa J<|q9<|qx<|O J<|U _ J<|qa J<|qu ?_;cases f;exact ⟨_,J,wkA [] [] []⟩
  refine qq<|Qg ?_;cases f;exact ⟨_,J,wkA [] [] []⟩
 intro g hb;subst hb;refine qe<|qd<|O J<|U _ J<|q9<|q7 a fun n h a=>?_;refine Yp (fun j=>j = n) (fun j=>⟨[(0,.d (.int .u64 j.1)),(2,q8 j.2)],[],0⟩) qb ?_ ?_
 ·refine qo J h (fun _ h=>?_) (fun _ h=>?_)
  ·refine qd<|O J<|U _ J<|qa J<|q9<|qx<|O J<|U _ J<|qa J<|qu ?_;cases h;exact ⟨_,J,wkA [] [] []⟩
  refine qq<|Qg ?_;cases h;exact ⟨_,J,wkA [] [] []⟩
 intro j hb;subst hb;refine qd<|O J<|O J<|U _ J<|q7 a fun p o a=>qos qap o J J J J J<|U _ J<|U _ J<|qa J<|qz ?_;cases a;exact Qh _ J
theorem qcf (b : Int) (r : Int) (a : U4 b = some r) : Pure Try.prog tab 50 [.int .u64 b] (qk r):=by
 unfold U4 at a;refine Qy Try.func50 J qg qg J<|qd<|qa J<|q9<|qe<|Ua J<|qq<|qd<|O J<|q7 a fun c d a=>Qk (qo7 b c d) J<|qa J<|qz ?_;cases a;exact Qh _ J
theorem qf1 (a : Int) (r : Bool) (b : q6i a = some r) : Pure Try.prog tab 80 [qk a] (.bool r):=by
 unfold q6i at b;refine Qy Try.func80 J qg qg J<|qd<|qa J<|qy<|O J<|O J<|U _ J<|qa J<|qz ?_;cases b;exact Qh _ J
theorem Zc (d : Int) (f : Int) (r : Bool) (a : Yq d f = some r) : Pure Try.prog tab 63 [qk d,qk f] (.bool r):=by
 unfold Yq at a;refine Qy Try.func63 J qg qg J<|qd<|qa J<|qy<|O J<|q7 a fun p q a=>Qk (qf1 d p q) J<|q7 a fun s b a=>?_;refine Qi 5 (fun A st=>∃ g h j k,st = A [(11,Q3 s),(10,k),(9,j),(8,h),(7,g)]) ?_ ?_
 ·refine Qj J J b (fun b=>?_) (fun b=>?_)
  ·refine O J<|q7 b fun t u b=>Qk (qf1 f t u) J<|U _ J<|U _ J<|q9 ?_;cases b;exact ⟨_,_,_,_,J⟩
  refine qc J<|qc J<|qc J<|U _ J<|q9 ?_;cases b;exact ⟨_,_,_,_,J⟩
 rintro _ ⟨g,h,j,k,rfl⟩;refine q7 a fun v c a=>?_;refine Qi 5 (fun A st=>∃ l m n o,st = A [(16,Q3 v),(15,o),(14,n),(13,m),(12,l)]) ?_ ?_
 ·refine Qj J J c (fun c=>?_) (fun c=>?_)
  ·refine qc J<|qc J<|qc J<|U _ J<|q9 ?_;cases c;exact ⟨_,_,_,_,J⟩
  refine O J<|O J<|U _ J<|U _ J<|q9 ?_;cases c;exact ⟨_,_,_,_,J⟩
 rintro _ ⟨l,m,n,o,rfl⟩;refine qa J<|qz ?_;cases a;exact Qh _ J
theorem qtk (m : List Int) (f : Int) (g : Int) (r : List Int) (k : q5e  m f g = some r) : K4 Try.prog tab 57 [.hs 0 1 0 m.length,q8 f,q8 g] [(0,.dat 1 (m.map (eI .i64)))] 1 (.d (.tup [])) [(0,.dat 1 (r.map (eI .i64)))] 1:=by
 unfold q5e at k;refine Ki Try.func57 J qg qg J<|qd<|O J<|U _ J<|qa J<|q9<|q7 k fun ai aj k=>Q4<|Qb (q5f g f) (fun h=>⟨[(0,.hs 0 1 0 h.2.length),(1,q8 f),(2,q8 g),(6,q8 h.1)],[(0,.dat 1 (h.2.map (eI .i64)))],1⟩) _ ai aj (wkA [] [] []) ?_;intro h au c;unfold q5f at c;refine qe<|qd<|O J<|O J<|U _ J<|q9 ?_;refine qo J c (fun _ c=>?_) (fun _ c=>?_)
 ·refine qq<|qe<|q7 c fun ak n c=>?_;refine Qf (fun j=>j = ak) (fun j=>⟨[(0,.hs 0 1 0 j.length),(1,q8 f),(2,q8 g),(6,q8 h.1)],[(0,.dat 1 (j.map (eI .i64)))],1⟩) qb ?_ ?_
  ·refine qd<|O J<|qa J<|q9<|q7 n fun al am n=>Q4<|Qb (q5g f) (fun l=>⟨[(0,.hs 0 1 0 l.2.length),(1,q8 f),(2,q8 g),(6,q8 h.1),(7,q8 l.1)],[(0,.dat 1 (l.2.map (eI .i64)))],1⟩) _ al am (wkA [] [] []) ?_;intro l av a;unfold q5g at a;refine qe<|qe<|Qa [q0,q0,qt 0,q0,q0,q0,q0,qt 0,q0,q0,q0,q0,q0,q0,q0] qg<|O J<|O J<|U _ J<|q7 a fun an b a=>?_;refine Qi 12 (fun A st=>∃ o p q s t u v w x y z,st = A [(30,Q3 an),(29,z),(28,y),(27,x),(26,w),(25,v),(24,u),(23,t),(22,s),(21,q),(20,p),(19,o)]) ?_ ?_
   ·refine Qj J J b (fun b=>?_) (fun b=>?_)
    ·refine O J<|O J<|q7 b fun ao aa b=>qr aa J J<|Q2 _ aa J<|O J<|O J<|U _ J<|q7 b fun ap ab b=>qr ab J J<|Q2 _ ab J<|q7 b fun aq ar b=>Qk (Zc ao ap aq ar) J<|U _ J<|q9 ?_;cases b;exact ⟨_,_,_,_,_,_,_,_,_,_,_,J⟩
    refine qc J<|qc J<|qc J<|qc J<|qc J<|qc J<|qc J<|qc J<|qc J<|qc J<|U _ J<|q9 ?_;cases b;exact ⟨_,_,_,_,_,_,_,_,_,_,_,J⟩
   rintro _ ⟨o,p,q,s,t,u,v,w,x,y,z,rfl⟩;refine q9 ?_;refine qo J a (fun _ a=>?_) (fun _ a=>?_)
   ·refine qq<|qe<|Q4<|Qa [Qo 0,q0,Qo 0,q0,qt 0,q0,q0,q0,qt 0,q0,q0,q0,q0,q0,q0,q0,q0,q0] qg<|O J<|O J<|O J<|O J<|U _ J<|O J<|O J<|U _ J<|q7 a fun ac ad a=>qr ad J J<|Q2 _ ad J<|O J<|O J<|q7 a fun ae af a=>qr af J J<|Q2 _ af J<|q7 a fun aw ag a=>qr ag J J<|Qt (ds:=[qk ac]) ac ag J J J J J J J J (leb J) J<|q7 a fun ax ah a=>qr ah qb J<|Qt (ds:=[qk ae]) ae ah J J J J J J J J (leb J) J<|qu<|Qm<|qx<|O J<|U _ J<|qa J<|qu<|⟨_,qn a,wkE [] [] [] J ⟨⟨_,J,Qx qb J Q0 (ltd J)⟩,qi J,qi J,qi J,qi J,trivial⟩ ⟨Qn J J,trivial⟩⟩
   refine Q8 ?_;refine ⟨_,qn a,fun hm=>?_⟩;subst hm;cases n;exact ⟨_,J,wkA [] [] []⟩
  intro j hb;subst hb;refine qx<|O J<|U _ J<|qa J<|qu<|⟨_,qn c,wkA [] [] []⟩
 refine Q8 ?_;refine ⟨_,qn c,fun hm=>?_⟩;subst hm;cases k;exact ⟨.inl J,_,J,wkA [] [] []⟩
theorem qjh (l : List Int) (m : Int) (f : Int) (g : Int) (r : List Int) (h : q3p  l m f g = some r) : K4 Try.prog tab 75 [.hs 0 1 0 l.length,q8 m,q8 f,q8 g] [(0,.dat 1 (l.map (eI .i64)))] 1 (.d (.tup [])) [(0,.dat 1 (r.map (eI .i64)))] 1:=by
 unfold q3p at h;refine Ki Try.func75 J qg qg J<|qd<|O J<|qa J<|q9<|q7 h fun an ao h=>Q4<|Qb (q62 f g) (fun c=>⟨[(0,.hs 0 1 0 c.2.length),(2,q8 f),(3,q8 g),(8,q8 c.1)],[(0,.dat 1 (c.2.map (eI .i64)))],1⟩) _ an ao (wkA [] [] []) ?_;intro c bb a;unfold q62 at a;refine Q4<|qd<|O J<|U _ J<|U _ J<|qa J<|q9<|qe<|qd<|O J<|O J<|U _ J<|q9 ?_;refine qo J a (fun _ a=>?_) (fun _ a=>?_)
 ·refine Q8 ?_;refine ⟨_,qn a,fun hm=>?_⟩;subst hm;cases h;exact ⟨.inl J,_,J,wkA [] [] []⟩
 refine qq<|qe<|qe<|Qa [q0,q0,qt 0,q0,q0,q0,q0,q0,q0,qt 0,q0,q0,q0,q0,q0,q0,q0,q0,q0,q0] qg<|O J<|U _ J<|O J<|U _ J<|q7 a fun ap b a=>?_;refine Qi 16 (fun A st=>∃ n o p q s t u v w x y z aa ab ac,st = A [(36,Q3 ap),(35,ac),(34,ab),(33,aa),(32,z),(31,y),(30,x),(29,w),(28,v),(27,u),(26,t),(25,s),(24,q),(23,p),(22,o),(21,n)]) ?_ ?_
 ·refine Qj J J b (fun b=>?_) (fun b=>?_)
  ·refine O J<|O J<|O J<|U _ J<|q7 b fun aq ad b=>qr ad J J<|Q2 _ ad J<|O J<|O J<|O J<|U _ J<|U _ J<|q7 b fun ar ae b=>qr ae J J<|Q2 _ ae J<|q7 b fun au av b=>Qk (Zc aq ar au av) J<|U _ J<|q9 ?_;cases b;exact ⟨_,_,_,_,_,_,_,_,_,_,_,_,_,_,_,J⟩
  refine qc J<|qc J<|qc J<|qc J<|qc J<|qc J<|qc J<|qc J<|qc J<|qc J<|qc J<|qc J<|qc J<|qc J<|U _ J<|q9 ?_;cases b;exact ⟨_,_,_,_,_,_,_,_,_,_,_,_,_,_,_,J⟩
 rintro _ ⟨n,o,p,q,s,t,u,v,w,x,y,z,aa,ab,ac,rfl⟩;refine q9<|q7 a fun aw j a=>?_;refine Yp (fun k=>k = aw) (fun k=>⟨[(0,.hs 0 1 0 c.2.length),(2,q8 f),(3,q8 g),(8,q8 c.1),(9,q8 k)],[(0,.dat 1 (c.2.map (eI .i64)))],1⟩) qb ?_ ?_
 ·refine qo J j (fun _ j=>?_) (fun _ j=>?_)
  ·refine qx<|O J<|U _ J<|qa J<|qu ?_;cases j;exact ⟨_,J,wkA [] [] []⟩
  refine qq<|Qg ?_;cases j;exact ⟨_,J,wkA [] [] []⟩
 intro k hb;subst hb;refine qe<|qe<|Qa [q0,q0,qt 0,q0,q0,q0,q0,q0,qt 0,q0,q0,q0,q0,q0] qg<|O J<|O J<|O J<|U _ J<|q7 a fun ax af a=>qr af J J<|Q2 _ af J<|O J<|O J<|O J<|U _ J<|q7 a fun ay ag a=>qr ag J J<|Q2 _ ag J<|q7 a fun az ba a=>Qk (Zc ax ay az ba) J<|U _ J<|q9 ?_;refine qo J a (fun _ a=>?_) (fun _ a=>?_)
 ·refine q3e ?_;refine ⟨_,qn a,fun hm=>?_⟩;subst hm;cases h;exact ⟨.inr J,_,J,wkA [] [] []⟩
 refine qq<|qe<|Qa [Qo 0,q0,Qo 0,q0,qt 0,q0,q0,q0,q0,q0,qt 0,q0,q0,q0,q0,q0,q0,q0,q0,q0,q0,q0,q0,q0] qg<|O J<|O J<|O J<|U _ J<|O J<|O J<|O J<|U _ J<|O J<|O J<|O J<|U _ J<|q7 a fun ah ai a=>qr ai J J<|Q2 _ ai J<|O J<|O J<|O J<|U _ J<|q7 a fun aj ak a=>qr ak J J<|Q2 _ ak J<|q7 a fun bc al a=>qr al J J<|Qt (ds:=[qk ah]) ah al J J J J J J J J (leb J) J<|q7 a fun bd am a=>qr am qb J<|Qt (ds:=[qk aj]) aj am J J J J J J J J (leb J) J<|q9<|qx<|O J<|qa J<|qu<|Qm<|Qg<|⟨_,qn a,wkE [] [] [] J ⟨⟨_,J,Qx qb J Q0 (ltd J)⟩,qi J,qi J,qi J,trivial⟩ ⟨Qn J J,trivial⟩⟩
theorem qti (l : List Int) (b : Int) (g : Int) (r : List Int) (h : q5b  l b g = some r) : K4 Try.prog tab 58 [.hs 0 1 0 l.length,q8 b,q8 g] [(0,.dat 1 (l.map (eI .i64)))] 1 (.d (.tup [])) [(0,.dat 1 (r.map (eI .i64)))] 1:=by
 unfold q5b at h;refine Ki Try.func58 J qg qg J<|qd<|O J<|qa J<|qy<|qa J<|qy<|O J<|O J<|U _ J<|qa J<|q9<|qe<|qd<|O J<|U _ J<|U _ J<|qa J<|q9<|q7 h fun p w h=>?_;refine Qf (fun k=>k = p) (fun k=>⟨[(0,.hs 0 1 0 k.length),(6,q8 b),(7,q8 0),(8,.d (qk (w64 (g - b))))],[(0,.dat 1 (k.map (eI .i64)))],1⟩) qb ?_ ?_
 ·refine Qb (q5c g b) (fun j=>⟨[(0,.hs 0 1 0 j.2.length),(6,q8 b),(7,q8 0),(8,.d (qk (w64 (g - b)))),(9,q8 j.1)],[(0,.dat 1 (j.2.map (eI .i64)))],1⟩) _ p w (wkA [] [] []) ?_;intro j af c;unfold q5c at c;refine qe<|qd<|O J<|U _ J<|q9 ?_;refine qo J c (fun _ c=>?_) (fun _ c=>?_)
  ·refine qq<|qe<|Q4<|qx<|O J<|O J<|O J<|O J<|q7 c fun q x c=>q7 c fun ag y c=>?_;have z:=Kl y;refine K7 [(0,0)] [(0,0)] _ (.d (.tup [])) 1 [(0,.dat 1 (q.map (eI .i64)))] 1 (qjh j.2 j.1 (w64 (g - b)) b q x)<|qu<|Qm<|qx<|O J<|U _ J<|qa J<|qu<|⟨_,qn c,wkE [] [] [] J ⟨⟨_,J,Qx (by simp [z]) J Q0 (ltd J)⟩,qi J,qi J,qi J,qi J,trivial⟩ ⟨Qn J J,trivial⟩⟩
  refine Q8 ?_;refine ⟨_,qn c,fun hm=>?_⟩;subst hm;exact ⟨_,J,wkA [] [] []⟩
 intro k hb;subst hb;refine qd<|O J<|U _ J<|qa J<|q9<|q7 h fun aa ab h=>Q4<|Qb (q5d b) (fun f=>⟨[(0,.hs 0 1 0 f.2.length),(6,q8 b),(7,q8 0),(10,q8 f.1)],[(0,.dat 1 (f.2.map (eI .i64)))],1⟩) _ aa ab (wkA [] [] []) ?_;intro f ah a;unfold q5d at a;refine qe<|qd<|O J<|U _ J<|q9 ?_;refine qo J a (fun _ a=>?_) (fun _ a=>?_)
 ·refine qq<|qe<|Q4<|qe<|Qa [Qo 0,q0,Qo 0,q0,qt 0,q0,q0,q0,qt 0,q0,q0,q0,q0,q0,q0,q0,q0,q0,q0,q0] qg<|O J<|O J<|O J<|O J<|O J<|U _ J<|O J<|O J<|O J<|U _ J<|q7 a fun m s a=>qr s J J<|Q2 _ s J<|O J<|O J<|q7 a fun n t a=>qr t J J<|Q2 _ t J<|q7 a fun ai u a=>qr u J J<|Qt (ds:=[qk m]) m u J J J J J J J J (leb J) J<|q7 a fun aj v a=>qr v qb J<|Qt (ds:=[qk n]) n v J J J J J J J J (leb J) J<|q9<|qx<|O J<|O J<|O J<|O J<|q7 a fun o ac a=>q7 a fun ak ad a=>?_;have ae:=Kl ad;refine U7 [(0,0)] [(0,0)] [.hs 0 1 0 f.2.length,q8 0,q8 f.1,q8 b] (.d (.tup [])) [(0,.dat 1 (o.map (eI .i64)))] [(0,.dat 1 (o.map (eI .i64)))] 1 (qjh ((f.2.set b.toNat m).set (w64 (b + f.1)).toNat n) 0 f.1 b o ac) J J J (Yi [(0,0)] [] [] J ⟨⟨_,J,Qx qb J Q0 (ltd J)⟩,qi J,qi J,qi J,trivial⟩ ⟨Qn J J,trivial⟩) (Yi [(0,0)] [] [] J ⟨qi J,trivial⟩ ⟨Qn J J,trivial⟩) J ⟨.inl J,trivial⟩<|qu<|Qm<|qx<|O J<|U _ J<|qa J<|qu<|⟨_,qn a,wkE [] [] [] J ⟨⟨_,J,Qx (by simp [ae]) J Q0 (ltd J)⟩,qi J,qi J,qi J,trivial⟩ ⟨Qn J J,trivial⟩⟩
 refine Q8 ?_;refine ⟨_,qn a,fun hm=>?_⟩;subst hm;cases h;exact ⟨.inl J,_,J,wkA [] [] []⟩
theorem qdq (b : List Int) (c : Int) (f : Int) (g : Int) (r : Int × Int × Int) (a : q29  b c f g = some r) : K4 Try.prog tab 84 [.d (.sl 1 (b.map (eI .i64))),q8 c,q8 f,.ref 0 1 0 0] [(0,.dat 1 [[qk g]])] 1 (.d (.tup [qk r.1,qk r.2.1])) [(0,.dat 1 [[qk r.2.2]])] 1:=by
 unfold q29 at a;refine Ki Try.func84 J qg qg J<|qd<|qa J<|qa J<|q9<|qe<|qe<|Qa [q0,q0,q0,q0,q0,q0,q0,q0,q0] qg<|O J<|O J<|q7 a fun h j a=>Qd j J<|U _ J<|O J<|O J<|q7 a fun k l a=>Qd l J<|U _ J<|q7 a fun m n a=>Qk (Zc h k m n) J<|q9 ?_;refine qo J a (fun _ a=>?_) (fun _ a=>?_)
 ·refine qd<|O J<|U _ J<|U _ J<|U _ J<|U _ J<|Qz 0 _ J<|qy<|O J<|O J<|qa J<|qa J<|qz ?_;cases a;exact ⟨.inr J,_,J,wkA [] [] []⟩
 refine qq<|qd<|O J<|O J<|qa J<|qa J<|qz ?_;cases a;exact ⟨.inr J,_,J,wkA [] [] []⟩
theorem qje (f : List Int) (h : Int) (j : Int) (k : Int) (l : Int) (r : Int × Int) (a : q3j  f h j k l = some r) : K4 Try.prog tab 79 [.d (.sl 1 (f.map (eI .i64))),q8 h,q8 j,q8 k,.ref 0 1 0 0] [(0,.dat 1 [[qk l]])] 1 (q8 r.1) [(0,.dat 1 [[qk r.2]])] 1:=by
 unfold q3j at a;refine Ki Try.func79 J qg qg J<|qd<|qa J<|qy<|O J<|O J<|O J<|O J<|q7 a fun b m a=>K7 [(0,0)] [(0,0)] _ (.d (.tup [qk b.1,qk b.2.1])) 1 [(0,.dat 1 [[qk b.2.2]])] 1 (qdq f h j l b m)<|O J<|U _ J<|U _ J<|qa J<|qa J<|qy<|O J<|O J<|O J<|O J<|q7 a fun c n a=>K7 [(0,0)] [(0,0)] _ (.d (.tup [qk c.1,qk c.2.1])) 1 [(0,.dat 1 [[qk c.2.2]])] 1 (qdq f b.2.1 k b.2.2 c n)<|O J<|U _ J<|U _ J<|qa J<|qa J<|qy<|O J<|O J<|O J<|O J<|q7 a fun g o a=>K7 [(0,0)] [(0,0)] _ (.d (.tup [qk g.1,qk g.2.1])) 1 [(0,.dat 1 [[qk g.2.2]])] 1 (qdq f b.1 c.1 c.2.2 g o)<|O J<|U _ J<|U _ J<|qa J<|qa J<|qy ?_;refine O J<|qa J<|qz ?_;cases a;exact ⟨.inr J,_,J,wkA [] [] []⟩
theorem qdo (c : List Int) (a : Int) (f : Int) (r : Int × Int) (b : q28  c a f = some r) : K4 Try.prog tab 78 [.d (.sl 1 (c.map (eI .i64))),q8 a,.ref 0 1 0 0] [(0,.dat 1 [[qk f]])] 1 (q8 r.1) [(0,.dat 1 [[qk r.2]])] 1:=by
 unfold q28 at b;refine Ki Try.func78 J qg qg J<|qd<|qa J<|qy<|O J<|O J<|U _ J<|O J<|O J<|U _ J<|O J<|q7 b fun g h b=>K7 [(0,0)] [(0,0)] _ (q8 g.1) 1 [(0,.dat 1 [[qk g.2]])] 1 (qje c (w64 (a - 1)) a (w64 (a + 1)) f g h)<|qa J<|qz ?_;cases b;exact ⟨.inr J,_,J,wkA [] [] []⟩
theorem qtg (h : List Int) (g : Int) (j : Int) (r : Int × Int) (a : q5a h g j = some r) : Pure Try.prog tab 60 [.sl 1 (h.map (eI .i64)),qk g,qk j] (.tup [qk r.1,qk r.2]):=by
 unfold q5a at a;refine Qy Try.func60 J qg qg J<|qd<|qa J<|qa J<|qy<|O J<|O J<|U _ J<|qa J<|qy<|Kn J J<|qy<|O J<|O J<|U _ J<|U _ J<|U _ J<|qa J<|qy<|O J<|O J<|U _ J<|U _ J<|U _ J<|qa J<|qy<|O J<|O J<|U _ J<|U _ J<|U _ J<|qa J<|q9<|qe<|qd<|O J<|U _ J<|q9<|q7 a fun p f a=>?_;refine Yp (fun k=>k = p) (fun k=>⟨[(9,.ref 0 1 0 0),(11,q8 k.1)],[(0,.dat 1 [[qk k.2]])],1⟩) qb ?_ ?_
 ·refine qo J f (fun _ f=>?_) (fun _ f=>?_)
  ·refine qe<|qd<|O J<|U _ J<|q9<|q7 f fun q b f=>?_;refine Yp (fun c=>c = q) (fun c=>⟨[(0,.d (.sl 1 (h.map (eI .i64)))),(9,.ref 0 1 0 0),(10,q8 c.1),(11,q8 c.2.1),(12,q8 c.2.2.1)],[(0,.dat 1 [[qk c.2.2.2]])],1⟩) qb ?_ ?_
   ·refine qo J b (fun _ b=>?_) (fun _ b=>?_)
    ·refine qd<|O J<|O J<|q7 b fun l s b=>K7 [(0,0)] [(0,0)] _ (q8 l.1) 1 [(0,.dat 1 [[qk l.2]])] 1 (qdo h (w64 (g + (w64 ((w64 (Int.tdiv (w64 (j - g)) 4)) * 1)))) 0 l s)<|qa J<|qy<|O J<|O J<|q7 b fun m t b=>K7 [(0,0)] [(0,0)] _ (q8 m.1) 1 [(0,.dat 1 [[qk m.2]])] 1 (qdo h (w64 (g + (w64 ((w64 (Int.tdiv (w64 (j - g)) 4)) * 2)))) l.2 m t)<|qa J<|q9<|qx<|O J<|O J<|q7 b fun n u b=>K7 [(0,0)] [(0,0)] _ (q8 n.1) 1 [(0,.dat 1 [[qk n.2]])] 1 (qdo h (w64 (g + (w64 ((w64 (Int.tdiv (w64 (j - g)) 4)) * 3)))) m.2 n u)<|qa J<|qu ?_;cases b;exact ⟨_,J,wkA [(0,0)] [] []⟩
    refine qq<|Qg ?_;cases b;exact ⟨_,J,wkA [(0,0)] [] []⟩
   intro c hb;subst hb;refine qx<|O J<|O J<|O J<|O J<|q7 f fun o v f=>K7 [(0,0)] [(0,0)] _ (q8 o.1) 1 [(0,.dat 1 [[qk o.2]])] 1 (qje h c.1 c.2.1 c.2.2.1 c.2.2.2 o v)<|qa J<|qu ?_;cases f;exact ⟨_,J,wkA [(0,0)] [] []⟩
  refine qq<|Qg ?_;cases f;exact ⟨_,J,wkA [(0,0)] [] []⟩
 intro k hb;subst hb;refine qd<|U _ J<|q9<|Q4<|qd<|U _ J<|qa J<|q9 ?_;refine qo J a (fun _ a=>?_) (fun _ a=>?_)
 ·refine qd<|O J<|qa J<|qa J<|qz ?_;cases a;exact Qh _ J
 refine qd<|U _ J<|qa J<|q9 ?_;refine qo J a (fun _ a=>?_) (fun _ a=>?_)
 ·refine qd<|O J<|qa J<|qa J<|qz ?_;cases a;exact Qh _ J
 refine qd<|O J<|qa J<|qa J<|qz ?_;cases a;exact Qh _ J
theorem qtw (f : List Int) (g : Int) (h : Int) (r : List Int) (c : q60  f g h = some r) : K4 Try.prog tab 61 [.hs 0 1 0 f.length,q8 g,q8 h] [(0,.dat 1 (f.map (eI .i64)))] 1 (.d (.tup [])) [(0,.dat 1 (r.map (eI .i64)))] 1:=by
 unfold q60 at c;refine Ki Try.func61 J qg qg J<|qd<|O J<|qa J<|qy<|O J<|U _ J<|qa J<|q9<|q7 c fun p q c=>Q4<|Qb (q8j) (fun b=>⟨[(0,.hs 0 1 0 b.2.2.length),(6,q8 b.1),(7,q8 b.2.1)],[(0,.dat 1 (b.2.2.map (eI .i64)))],1⟩) _ p q (wkA [] [] []) ?_;intro b s a;unfold q8j at a;refine qe<|qd<|O J<|O J<|U _ J<|q9 ?_;refine qo J a (fun _ a=>?_) (fun _ a=>?_)
 ·refine qq<|Q4<|qe<|Qa [Qo 0,q0,Qo 0,q0,qt 0,q0,q0,q0,qt 0,q0,q0,q0,q0,q0,q0,q0] qg<|O J<|O J<|O J<|O J<|O J<|O J<|q7 a fun j k a=>qr k J J<|Q2 _ k J<|O J<|O J<|q7 a fun l m a=>qr m J J<|Q2 _ m J<|q7 a fun t n a=>qr n J J<|Qt (ds:=[qk j]) j n J J J J J J J J (leb J) J<|q7 a fun u o a=>qr o qb J<|Qt (ds:=[qk l]) l o J J J J J J J J (leb J) J<|qy<|O J<|U _ J<|qa J<|q9<|qx<|O J<|U _ J<|qa J<|qu<|Qm<|Qg<|⟨_,qn a,wkE [] [] [] J ⟨⟨_,J,Qx qb J Q0 (ltd J)⟩,qi J,qi J,trivial⟩ ⟨Qn J J,trivial⟩⟩
 refine Q8 ?_;refine ⟨_,qn a,fun hm=>?_⟩;subst hm;cases c;exact ⟨.inl J,_,J,wkA [] [] []⟩
theorem qtm (u : List Int) (h : Int) (f : Int) (r : Bool × List Int) (n : q3l  u h f = some r) : K4 Try.prog tab 62 [.hs 0 1 0 u.length,q8 h,q8 f] [(0,.dat 1 (u.map (eI .i64)))] 1 (Q3 r.1) [(0,.dat 1 (r.2.map (eI .i64)))] 1:=by
 unfold q3l at n;refine Ki Try.func62 J qg qg J<|qd<|qa J<|qy<|O J<|U _ J<|qa J<|q9<|qe<|qd<|qa J<|q9<|q7 n fun x bk n=>?_;refine Qf (fun q=>.inl q = x) (fun q=>⟨[],[(0,.dat 1 (q.map (eI .i64)))],1⟩) qb ?_ ?_
 ·refine Qb (q3m f h) (fun d=>⟨[(0,.hs 0 1 0 d.2.2.length),(1,q8 h),(2,q8 f),(7,q8 d.1),(8,q8 d.2.1)],[(0,.dat 1 (d.2.2.map (eI .i64)))],1⟩) _ x bk (wkA [] [] []) ?_;intro d ch j;unfold q3m at j;refine qe<|qd<|O J<|U _ J<|q9 ?_;refine qo J j (fun _ j=>?_) (fun _ j=>?_)
  ·refine qq<|qe<|q7 j fun bl a j=>?_;refine Qf (fun o=>.inl o = bl) (fun o=>⟨[(0,.hs 0 1 0 o.2.length),(1,q8 h),(2,q8 f),(7,q8 o.1),(8,q8 d.2.1)],[(0,.dat 1 (o.2.map (eI .i64)))],1⟩) qb ?_ ?_
   ·refine qe<|q7 a fun y bm a=>?_;refine Qf (fun k=>k = y) (fun k=>⟨[(0,.hs 0 1 0 d.2.2.length),(1,q8 h),(2,q8 f),(7,q8 k),(8,q8 d.2.1)],[(0,.dat 1 (d.2.2.map (eI .i64)))],1⟩) qb ?_ ?_
    ·refine Qb (q5k f d) (fun z=>⟨[(0,.hs 0 1 0 d.2.2.length),(1,q8 h),(2,q8 f),(7,q8 z),(8,q8 d.2.1)],[(0,.dat 1 (d.2.2.map (eI .i64)))],1⟩) _ y bm (wkA [] [] []) ?_;intro z ci l;unfold q5k at l;refine qe<|qe<|Qa [q0,q0,q0,qt 0,q0,q0,q0,q0,qt 0,q0,q0,q0,q0,q0,q0,q0] qg<|O J<|O J<|U _ J<|q7 l fun bn g l=>?_;refine Qi 13 (fun A st=>∃ aa ab ac ad ae af ag ah ai aj ak al,st = A [(32,Q3 bn),(31,al),(30,ak),(29,aj),(28,ai),(27,ah),(26,ag),(25,af),(24,ae),(23,ad),(22,ac),(21,ab),(20,aa)]) ?_ ?_
     ·refine Qj J J g (fun g=>?_) (fun g=>?_)
      ·refine O J<|O J<|q7 g fun bo am g=>qr am J J<|Q2 _ am J<|O J<|O J<|U _ J<|q7 g fun bp an g=>qr an J J<|Q2 _ an J<|q7 g fun bq br g=>Qk (Zc bo bp bq br) J<|U _ J<|U _ J<|q9 ?_;cases g;exact ⟨_,_,_,_,_,_,_,_,_,_,_,_,J⟩
      refine qc J<|qc J<|qc J<|qc J<|qc J<|qc J<|qc J<|qc J<|qc J<|qc J<|qc J<|U _ J<|q9 ?_;cases g;exact ⟨_,_,_,_,_,_,_,_,_,_,_,_,J⟩
     rintro _ ⟨aa,ab,ac,ad,ae,af,ag,ah,ai,aj,ak,al,rfl⟩;refine q9 ?_;refine qo J l (fun _ l=>?_) (fun _ l=>?_)
     ·refine qq<|Q4<|qx<|O J<|U _ J<|qa J<|qu<|Qm<|Qg<|⟨_,qn l,wkA [] [] []⟩
     refine Q8 ?_;refine ⟨_,qn l,fun hm=>?_⟩;subst hm;exact ⟨_,J,wkA [] [] []⟩
    intro k hb;subst hb;refine qe<|qd<|O J<|O J<|U _ J<|q9 ?_;refine qo J a (fun _ a=>?_) (fun _ a=>?_)
    ·refine qd<|qa J<|qz ?_;cases a;refine ⟨_,qn j,fun hm=>?_⟩;subst hm;cases n;exact ⟨.inr J,_,J,wkA [] [] []⟩
    refine qq<|qe<|qd<|O J<|O J<|U _ J<|U _ J<|q9 ?_;refine qo J a (fun _ a=>?_) (fun _ a=>?_)
    ·refine qd<|qa J<|qz ?_;cases a;refine ⟨_,qn j,fun hm=>?_⟩;subst hm;cases n;exact ⟨.inr J,_,J,wkA [] [] []⟩
    refine qq<|qe<|Qa [Qo 0,q0,Qo 0,q0,qt 0,q0,q0,q0,qt 0,q0,q0,q0,q0,q0,q0,q0,q0,q0] qg<|O J<|O J<|O J<|O J<|U _ J<|O J<|O J<|U _ J<|q7 a fun ao ap a=>qr ap J J<|Q2 _ ap J<|O J<|O J<|q7 a fun aq ar a=>qr ar J J<|Q2 _ ar J<|q7 a fun cj au a=>qr au J J<|Qt (ds:=[qk ao]) ao au J J J J J J J J (leb J) J<|q7 a fun ck av a=>qr av qb J<|Qt (ds:=[qk aq]) aq av J J J J J J J J (leb J) J<|q9<|qe<|qd<|O J<|O J<|U _ J<|U _ J<|q9<|q7 a fun bs m a=>?_;refine Yp (fun p=>p = bs) (fun p=>⟨[(0,.hs 0 1 0 p.length),(1,q8 h),(2,q8 f),(7,q8 k),(8,q8 d.2.1)],[(0,.dat 1 (p.map (eI .i64)))],1⟩) qb ?_ ?_
    ·refine qo J m (fun _ m=>?_) (fun _ m=>?_)
     ·refine qd<|O J<|U _ J<|qa J<|q9<|q7 m fun bt bu m=>Q4<|Qb (q86) (fun s=>⟨[(0,.hs 0 1 0 s.2.length),(1,q8 h),(2,q8 f),(7,q8 k),(8,q8 d.2.1),(9,q8 s.1)],[(0,.dat 1 (s.2.map (eI .i64)))],1⟩) _ bt bu (wkE [] [] [] J ⟨⟨_,J,Qx qb J Q0 (ltd J)⟩,qi J,qi J,qi J,qi J,qi J,trivial⟩ ⟨Qn J J,trivial⟩) ?_;intro s cl b;unfold q86 at b;refine qe<|qd<|O J<|U _ J<|q9 ?_;refine qo J b (fun _ b=>?_) (fun _ b=>?_)
      ·refine qq<|qe<|Q4<|qe<|qe<|Qa [q0,q0,qt 0,q0,q0,q0,q0,qt 0,q0,q0,q0] qg<|O J<|O J<|q7 b fun bv aw b=>qr aw J J<|Q2 _ aw J<|O J<|O J<|U _ J<|q7 b fun bw ax b=>qr ax J J<|Q2 _ ax J<|q7 b fun bz ca b=>Qk (Zc bv bw bz ca) J<|U _ J<|q9 ?_;refine qo J b (fun _ b=>?_) (fun _ b=>?_)
       ·refine Q8 ?_;refine ⟨_,qn b,fun hm=>?_⟩;subst hm;cases m;exact ⟨_,J,wkA [] [] []⟩
       refine qq<|Qa [Qo 0,q0,Qo 0,q0,qt 0,q0,q0,q0,qt 0,q0,q0,q0,q0,q0,q0,q0,q0,q0] qg<|O J<|O J<|O J<|O J<|U _ J<|O J<|O J<|U _ J<|q7 b fun ay az b=>qr az J J<|Q2 _ az J<|O J<|O J<|q7 b fun v ba b=>qr ba J J<|Q2 (q8 v) ba J<|q7 b fun cm bb b=>qr bb J J<|Qt (ds:=[qk ay]) ay bb J J J J J J J J (leb J) J<|q7 b fun cn bc b=>qr bc qb J<|Qt (ds:=[qk v]) v bc J J J J J J J J (leb J) J<|qu<|Qm<|qx<|O J<|U _ J<|qa J<|qu<|⟨_,qn b,wkE [] [] [] J ⟨⟨_,J,Qx qb J Q0 (ltd J)⟩,qi J,qi J,qi J,qi J,qi J,trivial⟩ ⟨Qn J J,trivial⟩⟩
      refine Q8 ?_;refine ⟨_,qn b,fun hm=>?_⟩;subst hm;cases m;exact ⟨_,J,wkA [] [] []⟩
     refine qq<|Qg ?_;cases m;exact ⟨_,J,wkE [] [] [] J ⟨⟨_,J,Qx qb J Q0 (ltd J)⟩,qi J,qi J,qi J,qi J,trivial⟩ ⟨Qn J J,trivial⟩⟩
    intro p hb;subst hb;refine qd<|O J<|O J<|U _ J<|U _ J<|q9 ?_;refine qo J a (fun _ a=>?_) (fun _ a=>?_)
    ·refine qd<|O J<|U _ J<|qa J<|q9<|q7 a fun cb cc a=>Q4<|Qb (q5l f k) (fun t=>⟨[(0,.hs 0 1 0 t.2.length),(1,q8 h),(2,q8 f),(7,q8 k),(8,q8 d.2.1),(10,q8 t.1)],[(0,.dat 1 (t.2.map (eI .i64)))],1⟩) _ cb cc (wkA [] [] []) ?_;intro t co c;unfold q5l at c;refine qe<|qd<|O J<|O J<|U _ J<|q9 ?_;refine qo J c (fun _ c=>?_) (fun _ c=>?_)
     ·refine qq<|qe<|Q4<|qe<|qe<|Qa [q0,q0,qt 0,q0,q0,q0,q0,qt 0,q0,q0,q0] qg<|O J<|O J<|q7 c fun cd bd c=>qr bd J J<|Q2 _ bd J<|O J<|O J<|U _ J<|q7 c fun ce be c=>qr be J J<|Q2 _ be J<|q7 c fun cf cg c=>Qk (Zc cd ce cf cg) J<|U _ J<|q9 ?_;refine qo J c (fun _ c=>?_) (fun _ c=>?_)
      ·refine Q8 ?_;refine ⟨_,qn c,fun hm=>?_⟩;subst hm;cases a;exact ⟨_,J,wkA [] [] []⟩
      refine qq<|Qa [Qo 0,q0,Qo 0,q0,qt 0,q0,q0,q0,qt 0,q0,q0,q0,q0,q0,q0,q0,q0,q0] qg<|O J<|O J<|O J<|O J<|U _ J<|O J<|O J<|U _ J<|q7 c fun bf bg c=>qr bg J J<|Q2 _ bg J<|O J<|O J<|q7 c fun w bh c=>qr bh J J<|Q2 (q8 w) bh J<|q7 c fun cp bi c=>qr bi J J<|Qt (ds:=[qk bf]) bf bi J J J J J J J J (leb J) J<|q7 c fun cq bj c=>qr bj qb J<|Qt (ds:=[qk w]) w bj J J J J J J J J (leb J) J<|qu<|Qm<|qx<|O J<|U _ J<|qa J<|qu<|⟨_,qn c,wkE [] [] [] J ⟨⟨_,J,Qx qb J Q0 (ltd J)⟩,qi J,qi J,qi J,qi J,qi J,trivial⟩ ⟨Qn J J,trivial⟩⟩
     refine Q8 ?_;refine ⟨_,qn c,fun hm=>?_⟩;subst hm;cases a;exact ⟨_,J,wkA [] [] []⟩
    refine qq<|Qg ?_;cases a;exact ⟨_,J,wkA [] [] []⟩
   intro o hb;subst hb;refine qx<|O J<|U _ J<|qa J<|qu<|⟨_,qn j,wkA [] [] []⟩
  refine Q8 ?_;refine ⟨_,qn j,fun hm=>?_⟩;subst hm;exact ⟨_,J,wkA [] [] []⟩
 intro q hb;subst hb;refine qd<|qa J<|qz ?_;cases n;exact ⟨.inr J,_,J,wkA [] [] []⟩
theorem qtp (n : List Int) (g : Int) (p : Int) (q : Int) (r : Int × List Int) (c : q5m  n g p q = some r) : K4 Try.prog tab 64 [.hs 0 1 0 n.length,q8 g,q8 p,q8 q] [(0,.dat 1 (n.map (eI .i64)))] 1 (q8 r.1) [(0,.dat 1 (r.2.map (eI .i64)))] 1:=by
 unfold q5m at c;refine Ki Try.func64 J qg qg J<|qd<|qa J<|q9<|qe<|Qa [Qo 0,q0,Qo 0,q0,qt 0,q0,q0,q0,qt 0,q0,q0,q0,q0,q0,q0,q0] qg<|O J<|O J<|O J<|O J<|O J<|O J<|q7 c fun s t c=>qr t J J<|Q2 _ t J<|O J<|O J<|q7 c fun u v c=>qr v J J<|Q2 _ v J<|q7 c fun bw w c=>qr w J J<|Qt (ds:=[qk s]) s w J J J J J J J J (leb J) J<|q7 c fun bz x c=>qr x qb J<|Qt (ds:=[qk u]) u x J J J J J J J J (leb J) J<|qy<|O J<|U _ J<|O J<|U _ J<|qa J<|qa J<|q9<|qe<|q7 c fun y bj c=>?_;refine Qf (fun l=>l = y) (fun l=>⟨[(9,q8 l.1)],[(0,.dat 1 (l.2.map (eI .i64)))],1⟩) qb ?_ ?_
 ·refine Qb (q5n g) (fun b=>⟨[(0,.hs 0 1 0 b.2.2.length),(1,q8 g),(9,q8 b.1),(10,q8 b.2.1)],[(0,.dat 1 (b.2.2.map (eI .i64)))],1⟩) _ y bj (wkE [] [] [] J ⟨⟨_,J,Qx qb J Q0 (ltd J)⟩,qi J,qi J,qi J,trivial⟩ ⟨Qn J J,trivial⟩) ?_;intro b ca a;unfold q5n at a;refine Q4<|qe<|q7 a fun z bk a=>?_;refine Qf (fun k=>k = z) (fun k=>⟨[(0,.hs 0 1 0 b.2.2.length),(1,q8 g),(9,q8 k),(10,q8 b.2.1)],[(0,.dat 1 (b.2.2.map (eI .i64)))],1⟩) qb ?_ ?_
  ·refine Qb (q5o b g) (fun aa=>⟨[(0,.hs 0 1 0 b.2.2.length),(1,q8 g),(9,q8 aa),(10,q8 b.2.1)],[(0,.dat 1 (b.2.2.map (eI .i64)))],1⟩) _ z bk (wkA [] [] []) ?_;intro aa cb h;unfold q5o at h;refine qe<|qe<|Qa [q0,q0,q0,qt 0,q0,q0,q0,qt 0,q0,q0,q0,q0,q0,q0,q0] qg<|O J<|O J<|U _ J<|q7 h fun bl d h=>?_;refine Qi 12 (fun A st=>∃ ab ac ad ae af ag ah ai aj ak al,st = A [(43,Q3 bl),(42,al),(41,ak),(40,aj),(39,ai),(38,ah),(37,ag),(36,af),(35,ae),(34,ad),(33,ac),(32,ab)]) ?_ ?_
   ·refine Qj J J d (fun d=>?_) (fun d=>?_)
    ·refine O J<|O J<|q7 d fun bm am d=>qr am J J<|Q2 _ am J<|O J<|O J<|q7 d fun bn an d=>qr an J J<|Q2 _ an J<|q7 d fun bo bp d=>Qk (Zc bm bn bo bp) J<|U _ J<|U _ J<|q9 ?_;cases d;exact ⟨_,_,_,_,_,_,_,_,_,_,_,J⟩
    refine qc J<|qc J<|qc J<|qc J<|qc J<|qc J<|qc J<|qc J<|qc J<|qc J<|U _ J<|q9 ?_;cases d;exact ⟨_,_,_,_,_,_,_,_,_,_,_,J⟩
   rintro _ ⟨ab,ac,ad,ae,af,ag,ah,ai,aj,ak,al,rfl⟩;refine q9 ?_;refine qo J h (fun _ h=>?_) (fun _ h=>?_)
   ·refine qq<|Q4<|qx<|O J<|U _ J<|qa J<|qu<|Qm<|Qg<|⟨_,qn h,wkA [] [] []⟩
   refine Q8 ?_;refine ⟨_,qn h,fun hm=>?_⟩;subst hm;exact ⟨_,J,wkA [] [] []⟩
  intro k hb;subst hb;refine qe<|q7 a fun ao bq a=>?_;refine Qf (fun m=>m = ao) (fun m=>⟨[(0,.hs 0 1 0 b.2.2.length),(1,q8 g),(9,q8 k),(10,q8 m)],[(0,.dat 1 (b.2.2.map (eI .i64)))],1⟩) qb ?_ ?_
  ·refine Qb (q5p k b g) (fun ap=>⟨[(0,.hs 0 1 0 b.2.2.length),(1,q8 g),(9,q8 k),(10,q8 ap)],[(0,.dat 1 (b.2.2.map (eI .i64)))],1⟩) _ ao bq (wkA [] [] []) ?_;intro ap cc j;unfold q5p at j;refine qe<|qe<|Qa [q0,q0,qt 0,q0,q0,q0,qt 0,q0,q0,q0,q0,q0,q0,q0] qg<|O J<|O J<|U _ J<|q7 j fun br f j=>?_;refine Qi 11 (fun A st=>∃ aq ar au av aw ax ay az ba bb,st = A [(59,Q3 br),(58,bb),(57,ba),(56,az),(55,ay),(54,ax),(53,aw),(52,av),(51,au),(50,ar),(49,aq)]) ?_ ?_
   ·refine Qj J J f (fun f=>?_) (fun f=>?_)
    ·refine O J<|O J<|q7 f fun bs bc f=>qr bc J J<|Q2 _ bc J<|O J<|O J<|q7 f fun bt bd f=>qr bd J J<|Q2 _ bd J<|q7 f fun bu bv f=>Qk (Zc bs bt bu bv) J<|U _ J<|q9 ?_;cases f;exact ⟨_,_,_,_,_,_,_,_,_,_,J⟩
    refine qc J<|qc J<|qc J<|qc J<|qc J<|qc J<|qc J<|qc J<|qc J<|U _ J<|q9 ?_;cases f;exact ⟨_,_,_,_,_,_,_,_,_,_,J⟩
   rintro _ ⟨aq,ar,au,av,aw,ax,ay,az,ba,bb,rfl⟩;refine q9 ?_;refine qo J j (fun _ j=>?_) (fun _ j=>?_)
   ·refine qq<|Q4<|qx<|O J<|U _ J<|qa J<|qu<|Qm<|Qg<|⟨_,qn j,wkA [] [] []⟩
   refine Q8 ?_;refine ⟨_,qn j,fun hm=>?_⟩;subst hm;exact ⟨_,J,wkA [] [] []⟩
  intro m hb;subst hb;refine qe<|qd<|O J<|O J<|U _ J<|q9 ?_;refine qo J a (fun _ a=>?_) (fun _ a=>?_)
  ·refine Q8 ?_;refine ⟨_,qn a,fun hm=>?_⟩;subst hm;exact ⟨_,J,wkA [] [] []⟩
  refine qq<|qe<|Qa [Qo 0,q0,Qo 0,q0,qt 0,q0,q0,q0,qt 0,q0,q0,q0,q0,q0,q0,q0] qg<|O J<|O J<|O J<|O J<|O J<|O J<|q7 a fun be bf a=>qr bf J J<|Q2 _ bf J<|O J<|O J<|q7 a fun o bg a=>qr bg J J<|Q2 (q8 o) bg J<|q7 a fun cd bh a=>qr bh J J<|Qt (ds:=[qk be]) be bh J J J J J J J J (leb J) J<|q7 a fun ce bi a=>qr bi qb J<|Qt (ds:=[qk o]) o bi J J J J J J J J (leb J) J<|qy<|O J<|U _ J<|qa J<|q9<|qx<|O J<|U _ J<|qa J<|qu<|Qm<|Qg<|⟨_,qn a,wkE [] [] [] J ⟨⟨_,J,Qx qb J Q0 (ltd J)⟩,qi J,qi J,qi J,trivial⟩ ⟨Qn J J,trivial⟩⟩
 intro l hb;subst hb;refine qd<|O J<|qa J<|qz ?_;cases c;exact ⟨.inr J,_,J,wkA [] [] []⟩
theorem qtq (g : List Int) (b : Int) (s : Int) (k : Int) (r : Int × Bool × List Int) (a : q5q  g b s k = some r) : K4 Try.prog tab 65 [.hs 0 1 0 g.length,q8 b,q8 s,q8 k] [(0,.dat 1 (g.map (eI .i64)))] 1 (.d (.tup [qk r.1,.bool r.2.1])) [(0,.dat 1 (r.2.2.map (eI .i64)))] 1:=by
 unfold q5q at a;refine Ki Try.func65 J qg qg J<|qd<|qa J<|qa J<|q9<|qe<|Qa [Qo 0,q0,Qo 0,q0,qt 0,q0,q0,q0,qt 0,q0,q0,q0,q0,q0,q0,q0] qg<|O J<|O J<|O J<|O J<|O J<|O J<|q7 a fun h ao a=>qr ao J J<|Q2 (q8 h) ao J<|O J<|O J<|q7 a fun j ap a=>qr ap J J<|Q2 (q8 j) ap J<|q7 a fun fr aq a=>qr aq J J<|Qt (ds:=[qk h]) h aq J J J J J J J J (leb J) J<|q7 a fun fs ar a=>qr ar qb J<|Qt (ds:=[qk j]) j ar J J J J J J J J (leb J) J<|qy<|O J<|U (.d (qk (w64 (b + 1)))) J<|O J<|U (.d (qk (w64 (s - 1)))) J<|qa J<|qa J<|q9<|qe<|q7 a fun au fd a=>?_;refine Qf (fun l=>l = au) (fun (l : Int)=>⟨[(0,.hs 0 1 0 ((g.set b.toNat h).set k.toNat j).length),(1,q8 b),(10,q8 l),(11,.d (qk (w64 (s - 1))))],[(0,.dat 1 (((g.set b.toNat h).set k.toNat j).map (eI .i64)))],1⟩) qb ?_ ?_
 ·refine Qb (q5r s g b h k j) (fun (aa : Int)=>⟨[(0,.hs 0 1 0 ((g.set b.toNat h).set k.toNat j).length),(1,q8 b),(10,q8 aa),(11,.d (qk (w64 (s - 1))))],[(0,.dat 1 (((g.set b.toNat h).set k.toNat j).map (eI .i64)))],1⟩) (w64 (b + 1)) au fd (wkE [] [] [] J ⟨⟨_,J,Qx qb J Q0 (ltd J)⟩,qi J,qi J,qi J,trivial⟩ ⟨Qn J J,trivial⟩) ?_;intro aa ft t;unfold q5r at t;refine qe<|qe<|Qa [q0,q0,qt 0,q0,q0,q0,qt 0,q0,q0,q0,q0,q0,q0,q0] qg<|O J<|O J<|U (.d (.bool (decide (aa≤(w64 (s - 1)))))) J<|q7 t fun fe m t=>?_;refine Qi 11 (fun A st=>∃ (av aw ax ay az ba bb bc bd be : V),st = A [(43,Q3 fe),(42,be),(41,bd),(40,bc),(39,bb),(38,ba),(37,az),(36,ay),(35,ax),(34,aw),(33,av)]) ?_ ?_
  ·refine Qj J J m (fun m=>?_) (fun m=>?_)
   ·refine O J<|O J<|q7 m fun bf bg m=>qr bg J J<|Q2 (q8 bf) bg J<|O J<|O J<|q7 m fun bh bi m=>qr bi J J<|Q2 (q8 bh) bi J<|q7 m fun bj ff m=>Qk (Zc bf bh bj ff) J<|U (Q3 bj) J<|q9 ?_;cases m;exact ⟨_,_,_,_,_,_,_,_,_,_,J⟩
   refine qc J<|qc J<|qc J<|qc J<|qc J<|qc J<|qc J<|qc J<|qc J<|U (Q3 false) J<|q9 ?_;cases m;exact ⟨_,_,_,_,_,_,_,_,_,_,J⟩
  rintro _ ⟨av,aw,ax,ay,az,ba,bb,bc,bd,be,rfl⟩;refine q9 ?_;refine qo J t (fun _ t=>?_) (fun _ t=>?_)
  ·refine qq<|Q4<|qx<|O J<|U (.d (qk (w64 (aa + 1)))) J<|qa J<|qu<|Qm<|Qg<|⟨_,qn t,wkA [] [] []⟩
  refine Q8 ?_;refine ⟨_,qn t,fun hm=>?_⟩;subst hm;exact ⟨_,J,wkA [] [] []⟩
 intro l hb;subst hb;refine qe<|q7 a fun bk fg a=>?_;refine Qf (fun u=>u = bk) (fun (u : Int)=>⟨[(0,.hs 0 1 0 ((g.set b.toNat h).set k.toNat j).length),(1,q8 b),(10,q8 l),(11,q8 u)],[(0,.dat 1 (((g.set b.toNat h).set k.toNat j).map (eI .i64)))],1⟩) qb ?_ ?_
 ·refine Qb (q5s l g b h k j) (fun (ab : Int)=>⟨[(0,.hs 0 1 0 ((g.set b.toNat h).set k.toNat j).length),(1,q8 b),(10,q8 l),(11,q8 ab)],[(0,.dat 1 (((g.set b.toNat h).set k.toNat j).map (eI .i64)))],1⟩) (w64 (s - 1)) bk fg (wkA [] [] []) ?_;intro ab fu v;unfold q5s at v;refine qe<|qe<|Qa [q0,q0,q0,qt 0,q0,q0,q0,qt 0,q0,q0,q0,q0,q0,q0,q0] qg<|O J<|O J<|U (.d (.bool (decide (l≤ab)))) J<|q7 v fun fh n v=>?_;refine Qi 12 (fun A st=>∃ (bl bm bn bo bp bq br bs bt bu bv : V),st = A [(60,Q3 fh),(59,bv),(58,bu),(57,bt),(56,bs),(55,br),(54,bq),(53,bp),(52,bo),(51,bn),(50,bm),(49,bl)]) ?_ ?_
  ·refine Qj J J n (fun n=>?_) (fun n=>?_)
   ·refine O J<|O J<|q7 n fun bw bz n=>qr bz J J<|Q2 (q8 bw) bz J<|O J<|O J<|q7 n fun ca cb n=>qr cb J J<|Q2 (q8 ca) cb J<|q7 n fun ag fi n=>Qk (Zc bw ca ag fi) J<|U (Q3 (!ag)) J<|U (Q3 (!ag)) J<|q9 ?_;cases n;exact ⟨_,_,_,_,_,_,_,_,_,_,_,J⟩
   refine qc J<|qc J<|qc J<|qc J<|qc J<|qc J<|qc J<|qc J<|qc J<|qc J<|U (Q3 false) J<|q9 ?_;cases n;exact ⟨_,_,_,_,_,_,_,_,_,_,_,J⟩
  rintro _ ⟨bl,bm,bn,bo,bp,bq,br,bs,bt,bu,bv,rfl⟩;refine q9 ?_;refine qo J v (fun _ v=>?_) (fun _ v=>?_)
  ·refine qq<|Q4<|qx<|O J<|U (.d (qk (w64 (ab - 1)))) J<|qa J<|qu<|Qm<|Qg<|⟨_,qn v,wkA [] [] []⟩
  refine Q8 ?_;refine ⟨_,qn v,fun hm=>?_⟩;subst hm;exact ⟨_,J,wkA [] [] []⟩
 intro u hb;subst hb;refine qe<|qd<|O J<|O J<|U (.d (.bool (decide (l > u)))) J<|q9 ?_;refine qo J a (fun _ a=>?_) (fun _ a=>?_)
 ·refine qe<|Qa [Qo 0,q0,Qo 0,q0,qt 0,q0,q0,q0,qt 0,q0,q0,q0,q0,q0,q0,q0] qg<|O J<|O J<|O J<|O J<|O J<|O J<|q7 a fun ah cc a=>qr cc J J<|Q2 (q8 ah) cc J<|O J<|O J<|q7 a fun ai cd a=>qr cd J J<|Q2 (q8 ai) cd J<|q7 a fun fv ce a=>qr ce J J<|Qt (ds:=[qk ah]) ah ce J J J J J J J J (leb J) J<|q7 a fun fw cf a=>qr cf qb J<|Qt (ds:=[qk ai]) ai cf J J J J J J J J (leb J) J<|qy<|O J<|qa J<|qa J<|qz ?_;cases a;exact ⟨.inr J,_,J,wkA [] [] []⟩
 refine qq<|qe<|Qa [Qo 0,q0,Qo 0,q0,qt 0,q0,q0,q0,qt 0,q0,q0,q0,q0,q0,q0,q0] qg<|O J<|O J<|O J<|O J<|O J<|O J<|q7 a fun ac cg a=>qr cg J J<|Q2 (q8 ac) cg J<|O J<|O J<|q7 a fun ad ch a=>qr ch J J<|Q2 (q8 ad) ch J<|q7 a fun fx ci a=>qr ci J J<|Qt (ds:=[qk ac]) ac ci J J J J J J J J (leb J) J<|q7 a fun fy cj a=>qr cj qb J<|Qt (ds:=[qk ad]) ad cj J J J J J J J J (leb J) J<|qy<|O J<|U (.d (qk (w64 (l + 1)))) J<|qa J<|qy<|O J<|U (.d (qk (w64 (u - 1)))) J<|qa J<|q9<|qe<|q7 a fun ck fj a=>?_;refine Qf (fun y=>y = ck) (fun (y : Int × List Int)=>⟨[(0,.hs 0 1 0 y.2.length),(1,q8 b),(11,q8 y.1)],[(0,.dat 1 (y.2.map (eI .i64)))],1⟩) qb ?_ ?_
 ·refine Qb (q5t b) (fun (c : Int × Int × List Int)=>⟨[(0,.hs 0 1 0 c.2.2.length),(1,q8 b),(10,q8 c.1),(11,q8 c.2.1)],[(0,.dat 1 (c.2.2.map (eI .i64)))],1⟩) (w64 (l + 1),w64 (u - 1),(((g.set b.toNat h).set k.toNat j).set l.toNat ac).set u.toNat ad) ck fj (wkE [] [] [] J ⟨⟨_,J,Qx qb J Q0 (ltd J)⟩,qi J,qi J,qi J,trivial⟩ ⟨Qn J J,trivial⟩) ?_;intro c fz f;unfold q5t at f;refine Q4<|qe<|q7 f fun cl fk f=>?_;refine Qf (fun q=>q = cl) (fun (q : Int)=>⟨[(0,.hs 0 1 0 c.2.2.length),(1,q8 b),(10,q8 q),(11,q8 c.2.1)],[(0,.dat 1 (c.2.2.map (eI .i64)))],1⟩) qb ?_ ?_
  ·refine Qb (q5u c b) (fun (ae : Int)=>⟨[(0,.hs 0 1 0 c.2.2.length),(1,q8 b),(10,q8 ae),(11,q8 c.2.1)],[(0,.dat 1 (c.2.2.map (eI .i64)))],1⟩) c.1 cl fk (wkA [] [] []) ?_;intro ae ga w;unfold q5u at w;refine qe<|qe<|Qa [q0,q0,qt 0,q0,q0,q0,qt 0,q0,q0,q0,q0,q0,q0,q0] qg<|O J<|O J<|U (.d (.bool (decide (ae≤c.2.1)))) J<|q7 w fun fl o w=>?_;refine Qi 11 (fun A st=>∃ (cm cn co cp cq cr cs ct cu cv : V),st = A [(112,Q3 fl),(111,cv),(110,cu),(109,ct),(108,cs),(107,cr),(106,cq),(105,cp),(104,co),(103,cn),(102,cm)]) ?_ ?_
   ·refine Qj J J o (fun o=>?_) (fun o=>?_)
    ·refine O J<|O J<|q7 o fun cw cx o=>qr cx J J<|Q2 (q8 cw) cx J<|O J<|O J<|q7 o fun cy cz o=>qr cz J J<|Q2 (q8 cy) cz J<|q7 o fun da fm o=>Qk (Zc cw cy da fm) J<|U (Q3 da) J<|q9 ?_;cases o;exact ⟨_,_,_,_,_,_,_,_,_,_,J⟩
    refine qc J<|qc J<|qc J<|qc J<|qc J<|qc J<|qc J<|qc J<|qc J<|U (Q3 false) J<|q9 ?_;cases o;exact ⟨_,_,_,_,_,_,_,_,_,_,J⟩
   rintro _ ⟨cm,cn,co,cp,cq,cr,cs,ct,cu,cv,rfl⟩;refine q9 ?_;refine qo J w (fun _ w=>?_) (fun _ w=>?_)
   ·refine qq<|Q4<|qx<|O J<|U (.d (qk (w64 (ae + 1)))) J<|qa J<|qu<|Qm<|Qg<|⟨_,qn w,wkA [] [] []⟩
   refine Q8 ?_;refine ⟨_,qn w,fun hm=>?_⟩;subst hm;exact ⟨_,J,wkA [] [] []⟩
  intro q hb;subst hb;refine qe<|q7 f fun dc fn f=>?_;refine Qf (fun z=>z = dc) (fun (z : Int)=>⟨[(0,.hs 0 1 0 c.2.2.length),(1,q8 b),(10,q8 q),(11,q8 z)],[(0,.dat 1 (c.2.2.map (eI .i64)))],1⟩) qb ?_ ?_
  ·refine Qb (q5v q c b) (fun (af : Int)=>⟨[(0,.hs 0 1 0 c.2.2.length),(1,q8 b),(10,q8 q),(11,q8 af)],[(0,.dat 1 (c.2.2.map (eI .i64)))],1⟩) c.2.1 dc fn (wkA [] [] []) ?_;intro af gb x;unfold q5v at x;refine qe<|qe<|Qa [q0,q0,q0,qt 0,q0,q0,q0,qt 0,q0,q0,q0,q0,q0,q0,q0] qg<|O J<|O J<|U (.d (.bool (decide (q≤af)))) J<|q7 x fun fo p x=>?_;refine Qi 12 (fun A st=>∃ (dd de df dg dh dj dk dl dm dn dp : V),st = A [(129,Q3 fo),(128,dp),(127,dn),(126,dm),(125,dl),(124,dk),(123,dj),(122,dh),(121,dg),(120,df),(119,de),(118,dd)]) ?_ ?_
   ·refine Qj J J p (fun p=>?_) (fun p=>?_)
    ·refine O J<|O J<|q7 p fun dq dr p=>qr dr J J<|Q2 (q8 dq) dr J<|O J<|O J<|q7 p fun dt du p=>qr du J J<|Q2 (q8 dt) du J<|q7 p fun aj fq p=>Qk (Zc dq dt aj fq) J<|U (Q3 (!aj)) J<|U (Q3 (!aj)) J<|q9 ?_;cases p;exact ⟨_,_,_,_,_,_,_,_,_,_,_,J⟩
    refine qc J<|qc J<|qc J<|qc J<|qc J<|qc J<|qc J<|qc J<|qc J<|qc J<|U (Q3 false) J<|q9 ?_;cases p;exact ⟨_,_,_,_,_,_,_,_,_,_,_,J⟩
   rintro _ ⟨dd,de,df,dg,dh,dj,dk,dl,dm,dn,dp,rfl⟩;refine q9 ?_;refine qo J x (fun _ x=>?_) (fun _ x=>?_)
   ·refine qq<|Q4<|qx<|O J<|U (.d (qk (w64 (af - 1)))) J<|qa J<|qu<|Qm<|Qg<|⟨_,qn x,wkA [] [] []⟩
   refine Q8 ?_;refine ⟨_,qn x,fun hm=>?_⟩;subst hm;exact ⟨_,J,wkA [] [] []⟩
  intro z hb;subst hb;refine qe<|qd<|O J<|O J<|U (.d (.bool (decide (q > z)))) J<|q9 ?_;refine qo J f (fun _ f=>?_) (fun _ f=>?_)
  ·refine Q8 ?_;refine ⟨_,qn f,fun hm=>?_⟩;subst hm;exact ⟨_,J,wkA [] [] []⟩
  refine qq<|qe<|Qa [Qo 0,q0,Qo 0,q0,qt 0,q0,q0,q0,qt 0,q0,q0,q0,q0,q0,q0,q0] qg<|O J<|O J<|O J<|O J<|O J<|O J<|q7 f fun ak dv f=>qr dv J J<|Q2 (q8 ak) dv J<|O J<|O J<|q7 f fun al dw f=>qr dw J J<|Q2 (q8 al) dw J<|q7 f fun gc dx f=>qr dx J J<|Qt (ds:=[qk ak]) ak dx J J J J J J J J (leb J) J<|q7 f fun gd dy f=>qr dy qb J<|Qt (ds:=[qk al]) al dy J J J J J J J J (leb J) J<|qy<|O J<|U (.d (qk (w64 (q + 1)))) J<|qa J<|q9<|qx<|O J<|U (.d (qk (w64 (z - 1)))) J<|qa J<|qu<|Qm<|Qg<|⟨_,qn f,wkE [] [] [] J ⟨⟨_,J,Qx qb J Q0 (ltd J)⟩,qi J,qi J,qi J,trivial⟩ ⟨Qn J J,trivial⟩⟩
 intro y hb;subst hb;refine qe<|Qa [Qo 0,q0,Qo 0,q0,qt 0,q0,q0,q0,qt 0,q0,q0,q0,q0,q0,q0,q0] qg<|O J<|O J<|O J<|O J<|O J<|O J<|q7 a fun am dz a=>qr dz J J<|Q2 (q8 am) dz J<|O J<|O J<|q7 a fun an fa a=>qr fa J J<|Q2 (q8 an) fa J<|q7 a fun ge fb a=>qr fb J J<|Qt (ds:=[qk am]) am fb J J J J J J J J (leb J) J<|q7 a fun gf fc a=>qr fc qb J<|Qt (ds:=[qk an]) an fc J J J J J J J J (leb J) J<|qy<|O J<|qa J<|qa J<|qz ?_;cases a;exact ⟨.inr J,_,J,wkA [] [] []⟩
theorem qjf (b : Int) (r : Int) (a : q17 b = some r) : Pure Try.prog tab 76 [qk b] (.int .u64 r):=by
 unfold q17 at a;refine Qy Try.func76 J qg qg J<|qd<|qa J<|qy<|O J<|U _ J<|q7 a fun c d a=>Qk (qcf (IntKind.wrap .u64 b) c d) J<|q7 a fun g f a=>qoy f J J J<|qa J<|qz ?_;cases a;exact Qh _ J
theorem qji (a : Int) (r : Int) (b : q18  a = some r) : K4 Try.prog tab 77 [.ref 0 1 0 0] [(0,.dat 1 [[.int .u64 a]])] 1 (.d (.int .u64 r)) [(0,.dat 1 [[.int .u64 r]])] 1:=by
 unfold q18 at b;refine Ki Try.func77 J qg qg J<|qd<|qa J<|q9<|qe<|Qa [Qo 0,q0,q0,q0,qt 0,q0,q0,qt 0,q0,q0] qg<|O J<|U _ J<|U _ J<|O J<|U _ J<|U _ J<|U _ J<|U _ J<|U _ J<|Qz 0 _ J<|q9<|qe<|Qa [Qo 0,q0,q0,q0,qt 0,q0,q0,qt 0,q0,q0] qg<|O J<|U _ J<|U _ J<|O J<|U _ J<|U _ J<|U _ J<|U _ J<|U _ J<|Qz 0 _ J<|q9<|qe<|Qa [Qo 0,q0,q0,q0,qt 0,q0,q0,qt 0,q0,q0] qg<|O J<|U _ J<|U _ J<|O J<|U _ J<|U _ J<|U _ J<|U _ J ?_;refine U _ J<|Qz 0 _ J<|qy<|O J<|U _ J<|U _ J<|qa J<|qz ?_;cases b;exact ⟨.inr J,_,J,wkA [] [] []⟩
theorem qte (m : List Int) (f : Int) (g : Int) (r : List Int) (b : q58  m f g = some r) : K4 Try.prog tab 59 [.hs 0 1 0 m.length,q8 f,q8 g] [(0,.dat 1 (m.map (eI .i64)))] 1 (.d (.tup [])) [(0,.dat 1 (r.map (eI .i64)))] 1:=by
 unfold q58 at b;refine Ki Try.func59 J qg qg J<|qd<|O J<|O J<|U _ J<|qa J<|qy<|O J<|U _ J<|q9 ?_;refine qo J b (fun _ b=>?_) (fun _ b=>?_)
 ·refine qd<|O J<|U _ J<|Kn J J<|Qz 1 _ J<|qy<|O J<|q7 b fun j u b=>Qk (qjf (w64 (g - f)) j u) J<|qa J<|qy<|O J<|O J<|U _ J<|U _ J<|U _ J<|U _ J<|qa J<|q9<|q7 b fun v w b=>Q4<|Qb (q59 f g j) (fun c=>⟨[(0,.hs 0 1 0 c.2.1.length),(1,q8 f),(6,.d (qk (w64 (g - f)))),(7,.ref 1 1 0 0),(8,.d (.int .u64 j)),(9,q8 c.1)],[(0,.dat 1 (c.2.1.map (eI .i64))),(1,.dat 1 [[.int .u64 c.2.2]])],2⟩) _ v w (wkA [(1,1)] [] []) ?_;intro c z a;unfold q59 at a;refine qe<|qd<|O J<|O J<|O J<|U _ J<|U _ J<|U _ J<|U _ J<|U _ J<|q9 ?_;refine qo J a (fun _ a=>?_) (fun _ a=>?_)
  ·refine qq<|qe<|Q4<|qd<|q7 a fun k x a=>K7 [(0,1)] [(0,1),(1,0)] _ (.d (.int .u64 k)) 1 [(1,.dat 1 [[.int .u64 k]]),(0,.dat 1 (c.2.1.map (eI .i64)))] 2 (qji c.2.2 k x)<|O J<|U _ J<|U _ J<|U _ J<|qa J<|q9<|qe<|qd<|O J<|O J<|U _ J<|q9<|q7 a fun y h a=>?_;refine Yp (fun l=>l = y) (fun l=>⟨[(0,.hs 0 1 0 c.2.1.length),(1,q8 f),(6,.d (qk (w64 (g - f)))),(7,.ref 1 1 0 0),(8,.d (.int .u64 j)),(9,q8 c.1),(10,q8 l)],[(0,.dat 1 (c.2.1.map (eI .i64))),(1,.dat 1 [[.int .u64 k]])],2⟩) qb ?_ ?_
   ·refine qo J h (fun _ h=>?_) (fun _ h=>?_)
    ·refine qx<|O J<|O J<|U _ J<|qa J<|qu ?_;cases h;exact ⟨_,J,wkA [(1,1)] [] []⟩
    refine qq<|Qg ?_;cases h;exact ⟨_,J,wkA [(1,1)] [] []⟩
   intro l hb;subst hb;refine Qa [Qo 0,q0,Qo 0,q0,qt 0,q0,q0,q0,qt 0,q0,q0,q0,q0,q0,q0,q0,q0,q0,q0,q0] qg<|O J<|O J<|O J<|O J<|O J<|U _ J<|O J<|O J<|O J<|U _ J<|q7 a fun n o a=>qr o J J<|Q2 _ o J<|O J<|O J<|q7 a fun p q a=>qr q J J<|Q2 _ q J<|q7 a fun aa s a=>qr s J J<|Qt (ds:=[qk n]) n s J J J J J J J J (leb J) J<|q7 a fun ab t a=>qr t qb J<|Qt (ds:=[qk p]) p t J J J J J J J J (leb J) J<|qu<|Qm<|qx<|O J<|U _ J<|qa J<|qu<|⟨_,qn a,wkE [(1,1)] [] [] J ⟨⟨_,J,Qx qb J Q0 (ltd J)⟩,qi J,qi J,⟨_,J,.ref J Q0 (ltd J)⟩,qi J,qi J,trivial⟩ ⟨Qn J J,Qn J J,trivial⟩⟩
  refine Q8 ?_;refine ⟨_,qn a,fun hm=>?_⟩;subst hm;cases b;exact ⟨.inl J,_,J,wkA [] [] []⟩
 refine qq<|Qg ?_;cases b;exact ⟨.inl J,_,J,wkA [] [] []⟩
theorem qtt (rec : List Int→Int→Int→Int→Option (List Int)) (hrec : ∀ (n : List Int) (p : Int) (q : Int) (s : Int) (r : List Int),rec n p q s = some r→K4 Try.prog tab 49 [.hs 0 1 0 n.length,q8 p,q8 q,q8 s] [(0,.dat 1 (n.map (eI .i64)))] 1 (.d (.tup [])) [(0,.dat 1 (r.map (eI .i64)))] 1) (n : List Int) (p : Int) (q : Int) (s : Int) (r : List Int) (o : q3o rec  n p q s = some r) : K4 Try.prog tab 49 [.hs 0 1 0 n.length,q8 p,q8 q,q8 s] [(0,.dat 1 (n.map (eI .i64)))] 1 (.d (.tup [])) [(0,.dat 1 (r.map (eI .i64)))] 1:=by
 unfold q3o at o;refine Ki Try.func49 J qg qg J<|qd<|qa J<|qy<|qa J<|q9<|q7 o fun az ba o=>Q4<|Qb (q3n rec) (fun b=>⟨[(0,.hs 0 1 0 b.2.2.2.2.2.length),(1,q8 b.1),(2,q8 b.2.1),(3,q8 b.2.2.1),(8,Q3 b.2.2.2.1),(9,Q3 b.2.2.2.2.1)],[(0,.dat 1 (b.2.2.2.2.2.map (eI .i64)))],1⟩) _ az ba (wkA [] [] []) ?_;intro b cn a;unfold q3n at a;refine Q4<|qd<|O J<|O J<|U _ J<|qa J<|q9<|qe<|qd<|O J<|U _ J<|q9 ?_;refine qo J a (fun _ a=>?_) (fun _ a=>?_)
 ·refine qd<|O J<|O J<|O J<|q7 a fun aa bb a=>q7 a fun co bc a=>?_;have cp:=Kl bc;refine K7 [(0,0)] [(0,0)] _ (.d (.tup [])) 1 [(0,.dat 1 (aa.map (eI .i64)))] 1 (qtk b.2.2.2.2.2 b.1 b.2.1 aa bb)<|qz ?_;refine ⟨_,qn a,fun hm=>?_⟩;subst hm;cases o;exact ⟨.inr J,_,J,wkA [] [] []⟩
 refine qq<|qe<|qd<|O J<|U _ J<|q9 ?_;refine qo J a (fun _ a=>?_) (fun _ a=>?_)
 ·refine qd<|O J<|O J<|O J<|q7 a fun ab bd a=>q7 a fun cq be a=>?_;have cr:=Kl be;refine K7 [(0,0)] [(0,0)] _ (.d (.tup [])) 1 [(0,.dat 1 (ab.map (eI .i64)))] 1 (qti b.2.2.2.2.2 b.1 b.2.1 ab bd)<|qz ?_;refine ⟨_,qn a,fun hm=>?_⟩;subst hm;cases o;exact ⟨.inr J,_,J,wkA [] [] []⟩
 refine qq<|qe<|qd<|O J<|U _ J<|q9<|q7 a fun bf k a=>?_;refine Yp (fun c=>c = bf) (fun c=>⟨[(0,.hs 0 1 0 c.2.length),(1,q8 b.1),(2,q8 b.2.1),(3,q8 c.1),(8,Q3 b.2.2.2.1),(9,Q3 b.2.2.2.2.1),(10,.d (qk (w64 (b.2.1 - b.1))))],[(0,.dat 1 (c.2.map (eI .i64)))],1⟩) qb ?_ ?_
 ·refine qo J k (fun _ k=>?_) (fun _ k=>?_)
  ·refine qd<|O J<|O J<|O J<|q7 k fun ac bg k=>q7 k fun cs bh k=>?_;have bi:=Kl bh;refine K7 [(0,0)] [(0,0)] _ (.d (.tup [])) 1 [(0,.dat 1 (ac.map (eI .i64)))] 1 (qte b.2.2.2.2.2 b.1 b.2.1 ac bg)<|q9<|qx<|O J<|U _ J<|qa J<|qu ?_;cases k;exact ⟨_,J,wkE [] [] [] J ⟨⟨_,J,Qx (by simp [bi]) J Q0 (ltd J)⟩,qi J,qi J,qi J,qi J,qi J,qi J,trivial⟩ ⟨Qn J J,trivial⟩⟩
  refine qq<|Qg ?_;cases k;exact ⟨_,J,wkA [] [] []⟩
 intro c hb;subst hb;refine qd<|O J<|O J<|O J<|q7 a fun bj bk a=>qcy [.hs 0 1 0 c.2.length,q8 b.1,q8 b.2.1] (qtg c.2 b.1 b.2.1 bj bk) J J (q2h (Jc J J) (q2h J (q2h J J))) (.inr J)<|O J<|U _ J<|U _ J<|qa J<|qa J<|q9<|qe<|qd<|O J<|U _ J<|q9<|q7 a fun bl l a=>?_;refine Yp (fun g=>g = bl) (fun g=>⟨[(0,.hs 0 1 0 g.2.2.length),(1,q8 b.1),(2,q8 b.2.1),(3,q8 c.1),(8,Q3 b.2.2.2.1),(9,Q3 b.2.2.2.2.1),(10,.d (qk (w64 (b.2.1 - b.1)))),(11,q8 g.1),(12,q8 g.2.1)],[(0,.dat 1 (g.2.2.map (eI .i64)))],1⟩) qb ?_ ?_
 ·refine qo J l (fun _ l=>?_) (fun _ l=>?_)
  ·refine qd<|O J<|O J<|O J<|q7 l fun ad bm l=>q7 l fun ct bn l=>?_;have bo:=Kl bn;refine K7 [(0,0)] [(0,0)] _ (.d (.tup [])) 1 [(0,.dat 1 (ad.map (eI .i64)))] 1 (qtw c.2 b.1 b.2.1 ad bm)<|qy<|O J<|U _ J<|O J<|O J<|U _ J<|U _ J<|qa J<|q9<|qx<|qa J<|qu ?_;cases l;exact ⟨_,J,wkE [] [] [] J ⟨⟨_,J,Qx (by simp [bo]) J Q0 (ltd J)⟩,qi J,qi J,qi J,qi J,qi J,qi J,qi J,qi J,trivial⟩ ⟨Qn J J,trivial⟩⟩
  refine qq<|Qg ?_;cases l;exact ⟨_,J,wkA [] [] []⟩
 intro g hb;subst hb;refine qe<|qd<|O J<|q7 a fun bp t a=>?_;refine Qi 3 (fun A st=>∃ ae af,st = A [(64,Q3 bp),(63,af),(62,ae)]) ?_ ?_
 ·refine Qj J J t (fun t=>?_) (fun t=>?_)
  ·refine O J<|U _ J<|q9 ?_;cases t;exact ⟨_,_,J⟩
  refine qc J<|U _ J<|q9 ?_;cases t;exact ⟨_,_,J⟩
 rintro _ ⟨ae,af,rfl⟩;refine q7 a fun bq u a=>?_;refine Qi 4 (fun A st=>∃ ag ah ai,st = A [(68,Q3 bq),(67,ai),(66,ah),(65,ag)]) ?_ ?_
 ·refine Qj J J u (fun u=>?_) (fun u=>?_)
  ·refine O J<|U _ J<|U _ J<|q9 ?_;cases u;exact ⟨_,_,_,J⟩
  refine qc J<|qc J<|U _ J<|q9 ?_;cases u;exact ⟨_,_,_,J⟩
 rintro _ ⟨ag,ah,ai,rfl⟩;refine q9<|q7 a fun br f a=>?_;refine Yp (fun m=>.inl m = br) (fun m=>⟨[(0,.hs 0 1 0 m.length),(1,q8 b.1),(2,q8 b.2.1),(3,q8 c.1),(8,Q3 b.2.2.2.1),(9,Q3 b.2.2.2.2.1),(10,.d (qk (w64 (b.2.1 - b.1)))),(11,q8 g.1)],[(0,.dat 1 (m.map (eI .i64)))],1⟩) qb ?_ ?_
 ·refine qo J f (fun _ f=>?_) (fun _ f=>?_)
  ·refine qd<|O J<|O J<|O J<|q7 f fun w bs f=>q7 f fun cu bt f=>?_;have bu:=Kl bt;refine K7 [(0,0)] [(0,0)] _ (Q3 w.1) 1 [(0,.dat 1 (w.2.map (eI .i64)))] 1 (qtm g.2.2 b.1 b.2.1 w bs)<|q9 ?_;refine qo J f (fun _ f=>?_) (fun _ f=>?_)
   ·refine q3e ?_;cases f;refine ⟨_,qn a,fun hm=>?_⟩;subst hm;cases o;exact ⟨.inr J,_,J,wkA [] [] []⟩
   refine qq<|Qg ?_;cases f;exact ⟨_,J,wkE [] [] [] J ⟨⟨_,J,Qx (by simp [bu]) J Q0 (ltd J)⟩,qi J,qi J,qi J,qi J,qi J,qi J,qi J,trivial⟩ ⟨Qn J J,trivial⟩⟩
  refine qq<|Qg ?_;cases f;exact ⟨_,J,wkA [] [] []⟩
 intro m hb;subst hb;refine qe<|qe<|Qa [q0,q0,q0,qt 0,q0,q0,q0,qt 0,q0,q0,q0,q0,q0,q0,q0] qg<|O J<|U _ J<|q7 a fun bv h a=>?_;refine Qi 13 (fun A st=>∃ aj ak al am an ao ap aq ar au av aw,st = A [(87,Q3 bv),(86,aw),(85,av),(84,au),(83,ar),(82,aq),(81,ap),(80,ao),(79,an),(78,am),(77,al),(76,ak),(75,aj)]) ?_ ?_
 ·refine Qj J J h (fun h=>?_) (fun h=>?_)
  ·refine O J<|O J<|U _ J<|q7 h fun bw ax h=>qr ax J J<|Q2 _ ax J<|O J<|O J<|q7 h fun bz ay h=>qr ay J J<|Q2 _ ay J<|q7 h fun ca cb h=>Qk (Zc bw bz ca cb) J<|U _ J<|U _ J<|q9 ?_;cases h;exact ⟨_,_,_,_,_,_,_,_,_,_,_,_,J⟩
  refine qc J<|qc J<|qc J<|qc J<|qc J<|qc J<|qc J<|qc J<|qc J<|qc J<|qc J<|U _ J<|q9 ?_;cases h;exact ⟨_,_,_,_,_,_,_,_,_,_,_,_,J⟩
 rintro _ ⟨aj,ak,al,am,an,ao,ap,aq,ar,au,av,aw,rfl⟩;refine q9 ?_;refine qo J a (fun _ a=>?_) (fun _ a=>?_)
 ·refine qd<|O J<|O J<|O J<|O J<|q7 a fun x cc a=>q7 a fun cv cd a=>?_;have ce:=Kl cd;refine K7 [(0,0)] [(0,0)] _ (q8 x.1) 1 [(0,.dat 1 (x.2.map (eI .i64)))] 1 (qtp m b.1 b.2.1 g.1 x cc)<|qa J<|qy<|O J<|qa J<|q9<|Q8<|q2j<|Qg<|⟨_,qn a,wkE [] [] [] J ⟨⟨_,J,Qx (by simp [ce]) J Q0 (ltd J)⟩,qi J,qi J,qi J,qi J,qi J,trivial⟩ ⟨Qn J J,trivial⟩⟩
 refine qq<|qd<|O J<|O J<|O J<|O J<|q7 a fun j cf a=>q7 a fun cw cg a=>?_;have v:=Kl cg;refine K7 [(0,0)] [(0,0)] _ (.d (.tup [qk j.1,.bool j.2.1])) 1 [(0,.dat 1 (j.2.2.map (eI .i64)))] 1 (qtq m b.1 b.2.1 g.1 j cf)<|O J<|U _ J<|U _ J<|qa J<|qa J<|qy<|O J<|qa J<|qy<|O J<|O J<|U _ J<|O J<|O J<|U _ J<|qa J<|qa J<|qy<|O J<|U _ J<|qa J<|qy<|O J<|O J<|U _ J<|q9 ?_;refine qo J a (fun _ a=>?_) (fun _ a=>?_)
 ·refine qd<|O J<|O J<|U _ J<|qa J<|qy<|O J<|O J<|O J<|O J<|q7 a fun y ch a=>q7 a fun cx ci a=>?_;have cj:=Kl ci;refine U7 [(0,0)] [(0,0)] [.hs 0 1 0 m.length,q8 b.1,q8 j.1,q8 c.1] (.d (.tup [])) [(0,.dat 1 (y.map (eI .i64)))] [(0,.dat 1 (y.map (eI .i64)))] 1 (hrec j.2.2 b.1 j.1 c.1 y ch) J J J (Yi [(0,0)] [] [] J ⟨⟨_,J,Qx (by simp [v]) J Q0 (ltd J)⟩,qi J,qi J,qi J,trivial⟩ ⟨Qn J J,trivial⟩) (Yi [(0,0)] [] [] J ⟨qi J,trivial⟩ ⟨Qn J J,trivial⟩) J ⟨.inl J,trivial⟩<|q9<|qx<|O J<|U _ J<|qa J<|qu<|Qm<|Qg<|⟨_,qn a,wkE [] [] [] J ⟨⟨_,J,Qx (by simp [v,cj]) J Q0 (ltd J)⟩,qi J,qi J,qi J,qi J,qi J,trivial⟩ ⟨Qn J J,trivial⟩⟩
 refine qd<|O J<|O J<|U _ J<|qa J<|qy<|O J<|O J<|U _ J<|O J<|O J<|q7 a fun z ck a=>q7 a fun cy cl a=>?_;have cm:=Kl cl;refine U7 [(0,0)] [(0,0)] [.hs 0 1 0 m.length,.d (qk (w64 (j.1 + 1))),q8 b.2.1,q8 c.1] (.d (.tup [])) [(0,.dat 1 (z.map (eI .i64)))] [(0,.dat 1 (z.map (eI .i64)))] 1 (hrec j.2.2 (w64 (j.1 + 1)) b.2.1 c.1 z ck) J J J (Yi [(0,0)] [] [] J ⟨⟨_,J,Qx (by simp [v]) J Q0 (ltd J)⟩,qi J,qi J,qi J,trivial⟩ ⟨Qn J J,trivial⟩) (Yi [(0,0)] [] [] J ⟨qi J,trivial⟩ ⟨Qn J J,trivial⟩) J ⟨.inl J,trivial⟩<|q9<|qx<|O J<|qa J<|qu<|Qm<|Qg<|⟨_,qn a,wkE [] [] [] J ⟨⟨_,J,Qx (by simp [v,cm]) J Q0 (ltd J)⟩,qi J,qi J,qi J,qi J,qi J,trivial⟩ ⟨Qn J J,trivial⟩⟩
theorem qtu (n : Nat) : ∀ (a : List Int) (b : Int) (c : Int) (f : Int) (r : List Int),q5z n  a b c f = some r→K4 Try.prog tab 49 [.hs 0 1 0 a.length,q8 b,q8 c,q8 f] [(0,.dat 1 (a.map (eI .i64)))] 1 (.d (.tup [])) [(0,.dat 1 (r.map (eI .i64)))] 1:=by
 induction n with
 | zero=>intro a b c f r g;cases g
 | succ n ih=>intro a b c f r g;exact qtt (q5z n )   ih a b c f r g
theorem qjc (b : List Int) (r : List Int) (a : Ub  b = some r) : K4 Try.prog tab 41 [.hs 0 1 0 b.length] [(0,.dat 1 (b.map (eI .i64)))] 1 (.d (.tup [])) [(0,.dat 1 (r.map (eI .i64)))] 1:=by
 unfold Ub at a;refine Ki Try.func41 J qg qg J<|qd<|O J<|U _ J<|qa J<|q9<|qx<|O J<|O J<|O J<|U _ J<|q7 a fun f h a=>Qk (qcf (IntKind.wrap .u64 (b.length : Int)) f h) J<|q7 a fun g c a=>q7 a fun l j a=>?_;have m:=Kl j;obtain ⟨k,c⟩:=qcb c;refine K7 [(0,0)] [(0,0)] _ (.d (.tup [])) 1 [(0,.dat 1 (g.map (eI .i64)))] 1 (qtu k b 0 (b.length : Int) f g c)<|qu ?_;cases a;exact ⟨.inl J,_,J,wkA [] [] []⟩
theorem qjb (d : List Int) (r : (Nat × Nat) × List Int) (c : q26  d = some r) : K4 Try.prog tab 42 [.hs 0 1 0 d.length] [(0,.dat 1 (d.map (eI .i64)))] 1 (.hs 0 1 r.1.1 r.1.2) [(0,.dat 1 (r.2.map (eI .i64)))] 1:=by
 unfold q26 at c;refine Ki Try.func42 J qg qg J<|qd<|qa J<|q9<|qe<|qd<|O J<|U _ J<|U _ J<|q9 ?_;refine qo J c (fun _ c=>?_) (fun _ c=>?_)
 ·refine qd<|O J<|qa J<|qz ?_;cases c;exact ⟨.inr J,_,J,wkA [] [] []⟩
 refine qq<|qe<|qd<|qa J<|q9<|q7 c fun m z c=>?_;refine Qf (fun k=>.inl k = m) (fun k=>⟨[(0,.hs 0 1 0 d.length)],[(0,.dat 1 (d.map (eI .i64)))],1⟩) qb ?_ ?_
 ·refine Qb (Zu d) (fun n=>⟨[(0,.hs 0 1 0 d.length),(3,q8 n)],[(0,.dat 1 (d.map (eI .i64)))],1⟩) _ m z (wkA [] [] []) ?_;intro n ae a;unfold Zu at a;refine qe<|qd<|O J<|O J<|U _ J<|U _ J<|q9 ?_;refine qo J a (fun _ a=>?_) (fun _ a=>?_)
  ·refine qq<|qe<|Q4<|qe<|Qa [q0,qt 0,q0,q0,q0,q0,qt 0,q0,q0,q0] qg<|O J<|O J<|q7 a fun af o a=>qr o J J<|Q2 _ o J<|O J<|O J<|U _ J<|q7 a fun ag p a=>qr p J J<|Q2 _ p J<|U _ J<|q9 ?_;refine qo J a (fun _ a=>?_) (fun _ a=>?_)
   ·refine qd<|O J<|O J<|q7 a fun ah aa a=>q71 aa J J J J J (q6g J) (fun _=>rfl)<|qa J<|q9<|qe<|qd<|qa J<|q9<|q7 a fun q ab a=>?_;refine Qf (fun f=>f = q) (fun f=>⟨[(0,.hs 0 1 0 f.2.length),(3,q8 f.1)],[(0,.dat 1 (f.2.map (eI .i64)))],1⟩) qb ?_ ?_
    ·refine Qb (q16) (fun g=>⟨[(0,.hs 0 1 0 g.2.2.2.length),(3,q8 g.1),(4,.hs 0 1 g.2.1.1 g.2.1.2),(5,q8 g.2.2.1)],[(0,.dat 1 (g.2.2.2.map (eI .i64)))],1⟩) _ q ab (wkA [] [] []) ?_;intro g ai h;unfold q16 at h;refine qe<|qd<|O J<|O J<|U _ J<|U _ J<|q9 ?_;refine qo J h (fun _ h=>?_) (fun _ h=>?_)
     ·refine qq<|qe<|q7 h fun ac b h=>?_;refine Qf (fun j=>j = ac) (fun j=>⟨[(0,.hs 0 1 0 j.2.2.length),(3,q8 j.1),(4,.hs 0 1 j.2.1.1 j.2.1.2),(5,q8 g.2.2.1)],[(0,.dat 1 (j.2.2.map (eI .i64)))],1⟩) qb ?_ ?_
      ·refine qe<|Qa [q0,qt 0,q0,q0,q0,q0,qt 0,q0,q0,q0] qg<|O J<|O J<|q7 b fun aj s b=>qcu s J J J J J J<|Q2 _ (qc7 s) J<|O J<|O J<|U _ J<|q7 b fun ak t b=>qcu t J J J J J J<|Q2 _ (qc7 t) J<|U _ J<|q9 ?_;refine qo J b (fun _ b=>?_) (fun _ b=>?_)
       ·refine qd<|O J<|O J<|O J<|O J<|q7 b fun u v b=>qcu v J J J J J J<|Q2 _ (qc7 v) J<|q7 b fun al x b=>qr x J J<|Qt (ds:=[qk u]) u x J J J J J J J J (leb J) J<|q9<|qx<|O J<|U _ J<|qa J<|qu ?_;cases b;exact ⟨_,J,wkE [] [] [] J ⟨⟨_,J,Qx qb J Q0 (ltd J)⟩,qi J,⟨_,J,.hs J Q0 (ltd J)⟩,qi J,trivial⟩ ⟨Qn J J,trivial⟩⟩
       refine qq<|Qg ?_;cases b;exact ⟨_,J,wkA [] [] []⟩
      intro j hb;subst hb;refine qx<|O J<|U _ J<|qa J<|qu<|⟨_,qn h,wkA [] [] []⟩
     refine Q8 ?_;refine ⟨_,qn h,fun hm=>?_⟩;subst hm;exact ⟨_,J,wkA [] [] []⟩
    intro f hb;subst hb;refine qd<|O J<|O J<|q7 a fun y l a=>q71 l J J J J J (q6g J) (fun _=>rfl)<|qon (w:=y) (xs:=f.2) (enc:=(eI .i64)) 0 (q8x l) J J J J J J J ?_;have am:=@qf0 _ f.2 y 0 (q8x l);refine qy<|O J<|O J<|q7 a fun an ad a=>q71 ad J J J J J (fun _=>rfl) (q6g J)<|qa J<|qz ?_;refine ⟨_,qn a,fun hm=>?_⟩;subst hm;cases c;exact ⟨.inr J,_,J,wkA [] [] []⟩
   refine qq<|Qg<|Qm<|qx<|O J<|U _ J<|qa J<|qu<|⟨_,qn a,wkA [] [] []⟩
  refine Q8 ?_;refine ⟨_,qn a,fun hm=>?_⟩;subst hm;exact ⟨_,J,wkA [] [] []⟩
 intro k hb;subst hb;refine qd<|O J<|qa J<|qz ?_;cases c;exact ⟨.inr J,_,J,wkA [] [] []⟩
theorem qt8 (b : List ql) (f : ql→Option Bool) (p1F : FuncId) (p1C : List DV) (p1Ok : ∀ (h : ql) (r : Bool),f h = some r→Pure Try.prog tab p1F ([.agg (Q7 h)] ++ p1C) (.bool r)) (r : Int) (c : qaj b f = some r) : Pure Try.prog tab 51 [.sl 4 (b.map Q7),.fn p1F p1C] (qk r):=by
 unfold qaj at c;refine Qy Try.func51 J qg qg J<|qd<|qa J<|q9<|qe<|qd<|O J<|Qq J<|O J<|q9<|q7 c fun j l c=>?_;refine Qf (fun g=>.inl g = j) (fun g=>⟨[],[],0⟩) qb ?_ ?_
 ·refine Qb (q3g b f) (fun k=>⟨[(0,.d (.sl 4 (b.map Q7))),(1,.d (.fn p1F p1C)),(7,q8 (b.length : Int)),(8,q8 k)],[],0⟩) _ j l (wkA [] [] []) ?_;intro k q a;unfold q3g at a;refine qd<|U _ J<|q9<|qe ?_;refine qo J a (fun _ a=>?_) (fun _ a=>?_)
  ·refine qq<|qe<|Q4<|qd<|O J<|qa J<|qy<|O J<|O J<|O J<|q7 a fun m n a=>Qd n J<|U _ J<|q7 a fun o p a=>Yo _ (p1Ok m o p) J J J (.inl J)<|q9 ?_;refine qo J a (fun _ a=>?_) (fun _ a=>?_)
   ·refine qd<|O J<|qa J<|qz ?_;refine ⟨_,qn a,fun hm=>?_⟩;subst hm;cases c;exact Qh _ J
   refine qq<|Qg<|Qm<|qx<|U _ J<|O J<|qu<|⟨_,qn a,wkA [] [] []⟩
  refine Q8 ?_;refine ⟨_,qn a,fun hm=>?_⟩;subst hm;exact ⟨_,J,wkA [] [] []⟩
 intro g hb;subst hb;refine qd<|qa J<|qz ?_;cases c;exact Qh _ J
theorem qt1 (b : List ql) (c : ql→Option Bool) (p1F : FuncId) (p1C : List DV) (p1Ok : ∀ (d : ql) (r : Bool),c d = some r→Pure Try.prog tab p1F ([.agg (Q7 d)] ++ p1C) (.bool r)) (r : Bool) (a : q7o b c = some r) : Pure Try.prog tab 44 [.sl 4 (b.map Q7),.fn p1F p1C] (.bool r):=by
 unfold q7o at a;refine Qy Try.func44 J qg qg J<|qd<|qa J<|qy<|O J<|O J<|q7 a fun f g a=>Qk (qt8 b c p1F p1C p1Ok f g) J<|U _ J<|qa J<|qz ?_;cases a;exact Qh _ J
theorem qaa (c : Int) (r : Bool) (b : q21 c = some r) : Pure Try.prog tab 52 [qk c] (.bool r):=by
 unfold q21 at b;refine Qy Try.func52 J qg qg J<|qd<|qa J<|qy<|O J<|U _ J<|q7 b fun h a b=>?_;refine Qi 4 (fun A st=>∃ d f g,st = A [(8,Q3 h),(7,g),(6,f),(5,d)]) ?_ ?_
 ·refine Qj J J a (fun a=>?_) (fun a=>?_)
  ·refine O J<|U _ J<|U _ J<|q9 ?_;cases a;exact ⟨_,_,_,J⟩
  refine qc J<|qc J<|U _ J<|q9 ?_;cases a;exact ⟨_,_,_,J⟩
 rintro _ ⟨d,f,g,rfl⟩;refine qa J<|qz ?_;cases b;exact Qh _ J
theorem qrb (g : ql) (r : Bool) (a : q7j g = some r) : Pure Try.prog tab 46 [.agg (Q7 g)] (.bool r):=by
 unfold q7j at a;refine Qy Try.func46 J qg qg J<|qd<|K3 _ _ J<|qa J<|qy<|U _ J<|U _ J<|U _ J<|U _ J<|U _ J<|q7 a fun c1 h a=>?_;refine Qi 7 (fun A st=>∃ j k l m n o,st = A [(14,Q3 c1),(13,o),(12,n),(11,m),(10,l),(9,k),(8,j)]) ?_ ?_
 ·refine Qj J J h (fun h=>?_) (fun h=>?_)
  ·refine U _ J<|U _ J<|U _ J<|U _ J<|U _ J<|U _ J<|q9 ?_;cases h;exact ⟨_,_,_,_,_,_,J⟩
  refine qc J<|qc J<|qc J<|qc J<|qc J<|U _ J<|q9 ?_;cases h;exact ⟨_,_,_,_,_,_,J⟩
 rintro _ ⟨j,k,l,m,n,o,rfl⟩;refine q7 a fun ah b a=>?_;refine Qi 5 (fun A st=>∃ p q s t,st = A [(19,Q3 ah),(18,t),(17,s),(16,q),(15,p)]) ?_ ?_
 ·refine Qj J J b (fun b=>?_) (fun b=>?_)
  ·refine U _ J<|U _ J<|q7 b fun ai aj b=>Qk (qaa g.X0 ai aj) J<|U _ J<|q9 ?_;cases b;exact ⟨_,_,_,_,J⟩
  refine qc J<|qc J<|qc J<|U _ J<|q9 ?_;cases b;exact ⟨_,_,_,_,J⟩
 rintro _ ⟨p,q,s,t,rfl⟩;refine q7 a fun ak c a=>?_;refine Qi 5 (fun A st=>∃ u v w x,st = A [(24,Q3 ak),(23,x),(22,w),(21,v),(20,u)]) ?_ ?_
 ·refine Qj J J c (fun c=>?_) (fun c=>?_)
  ·refine U _ J<|U _ J<|q7 c fun al am c=>Qk (qaa g.X1 al am) J<|U _ J<|q9 ?_;cases c;exact ⟨_,_,_,_,J⟩
  refine qc J<|qc J<|qc J<|U _ J<|q9 ?_;cases c;exact ⟨_,_,_,_,J⟩
 rintro _ ⟨u,v,w,x,rfl⟩;refine q7 a fun an d a=>?_;refine Qi 5 (fun A st=>∃ y z aa ab,st = A [(29,Q3 an),(28,ab),(27,aa),(26,z),(25,y)]) ?_ ?_
 ·refine Qj J J d (fun d=>?_) (fun d=>?_)
  ·refine U _ J<|U _ J<|q7 d fun ao ap d=>Qk (qaa g.Y0 ao ap) J<|U _ J<|q9 ?_;cases d;exact ⟨_,_,_,_,J⟩
  refine qc J<|qc J<|qc J<|U _ J<|q9 ?_;cases d;exact ⟨_,_,_,_,J⟩
 rintro _ ⟨y,z,aa,ab,rfl⟩;refine q7 a fun aq f a=>?_;refine Qi 5 (fun A st=>∃ ac ad ae af,st = A [(34,Q3 aq),(33,af),(32,ae),(31,ad),(30,ac)]) ?_ ?_
 ·refine Qj J J f (fun f=>?_) (fun f=>?_)
  ·refine U _ J<|U _ J<|q7 f fun ar au f=>Qk (qaa g.Y1 ar au) J<|U _ J<|q9 ?_;cases f;exact ⟨_,_,_,_,J⟩
  refine qc J<|qc J<|qc J<|U _ J<|q9 ?_;cases f;exact ⟨_,_,_,_,J⟩
 rintro _ ⟨ac,ad,ae,af,rfl⟩;refine qa J<|qz ?_;cases a;exact Qh _ J
theorem qr4 (b : ql) (r : Bool) (a : q20 b = some r) : Pure Try.prog tab 45 [.agg (Q7 b)] (.bool r):=by
 unfold q20 at a;refine Qy Try.func45 J qg qg J<|qd<|K3 _ _ J<|qa J<|qy<|U _ J<|q7 a fun c d a=>Qk (qrb b c d) J<|U _ J<|qa J<|qz ?_;cases a;exact Qh _ J
theorem qta (b : List qm) (f : qm→Option Bool) (p1F : FuncId) (p1C : List DV) (p1Ok : ∀ (h : qm) (r : Bool),f h = some r→Pure Try.prog tab p1F ([.agg (Qu h)] ++ p1C) (.bool r)) (r : Int) (c : q7t b f = some r) : Pure Try.prog tab 81 [.sl 2 (b.map Qu),.fn p1F p1C] (qk r):=by
 unfold q7t at c;refine Qy Try.func81 J qg qg J<|qd<|qa J<|q9<|qe<|qd<|O J<|Qq J<|O J<|q9<|q7 c fun j l c=>?_;refine Qf (fun g=>.inl g = j) (fun g=>⟨[],[],0⟩) qb ?_ ?_
 ·refine Qb (q27 b f) (fun k=>⟨[(0,.d (.sl 2 (b.map Qu))),(1,.d (.fn p1F p1C)),(7,q8 (b.length : Int)),(8,q8 k)],[],0⟩) _ j l (wkA [] [] []) ?_;intro k q a;unfold q27 at a;refine qd<|U _ J<|q9<|qe ?_;refine qo J a (fun _ a=>?_) (fun _ a=>?_)
  ·refine qq<|qe<|Q4<|qd<|O J<|qa J<|qy<|O J<|O J<|O J<|q7 a fun m n a=>Qd n J<|U _ J<|q7 a fun o p a=>Yo _ (p1Ok m o p) J J J (.inl J)<|q9 ?_;refine qo J a (fun _ a=>?_) (fun _ a=>?_)
   ·refine qd<|O J<|qa J<|qz ?_;refine ⟨_,qn a,fun hm=>?_⟩;subst hm;cases c;exact Qh _ J
   refine qq<|Qg<|Qm<|qx<|U _ J<|O J<|qu<|⟨_,qn a,wkA [] [] []⟩
  refine Q8 ?_;refine ⟨_,qn a,fun hm=>?_⟩;subst hm;exact ⟨_,J,wkA [] [] []⟩
 intro g hb;subst hb;refine qd<|qa J<|qz ?_;cases c;exact Qh _ J
theorem qt3 (b : List qm) (c : qm→Option Bool) (p1F : FuncId) (p1C : List DV) (p1Ok : ∀ (d : qm) (r : Bool),c d = some r→Pure Try.prog tab p1F ([.agg (Qu d)] ++ p1C) (.bool r)) (r : Bool) (a : q7q b c = some r) : Pure Try.prog tab 69 [.sl 2 (b.map Qu),.fn p1F p1C] (.bool r):=by
 unfold q7q at a;refine Qy Try.func69 J qg qg J<|qd<|qa J<|qy<|O J<|O J<|q7 a fun f g a=>Qk (qta b c p1F p1C p1Ok f g) J<|U _ J<|qa J<|qz ?_;cases a;exact Qh _ J
theorem qwp (d : qm) (r : Bool) (a : q2e d = some r) : Pure Try.prog tab 71 [.agg (Qu d)] (.bool r):=by
 unfold q2e at a;refine Qy Try.func71 J qg qg J<|qd<|K3 _ _ J<|qa J<|qy<|U _ J<|U _ J<|U _ J<|U _ J<|U _ J<|q7 a fun o b a=>?_;refine Qi 5 (fun A st=>∃ f g h j,st = A [(12,Q3 o),(11,j),(10,h),(9,g),(8,f)]) ?_ ?_
 ·refine Qj J J b (fun b=>?_) (fun b=>?_)
  ·refine U _ J<|U _ J<|U _ J<|U _ J<|q9 ?_;cases b;exact ⟨_,_,_,_,J⟩
  refine qc J<|qc J<|qc J<|U _ J<|q9 ?_;cases b;exact ⟨_,_,_,_,J⟩
 rintro _ ⟨f,g,h,j,rfl⟩;refine q7 a fun p c a=>?_;refine Qi 5 (fun A st=>∃ k l m n,st = A [(17,Q3 p),(16,n),(15,m),(14,l),(13,k)]) ?_ ?_
 ·refine Qj J J c (fun c=>?_) (fun c=>?_)
  ·refine U _ J<|U _ J<|U _ J<|U _ J<|q9 ?_;cases c;exact ⟨_,_,_,_,J⟩
  refine qc J<|qc J<|qc J<|U _ J<|q9 ?_;cases c;exact ⟨_,_,_,_,J⟩
 rintro _ ⟨k,l,m,n,rfl⟩;refine qa J<|qz ?_;cases a;exact Qh _ J
theorem qwi (b : qm) (r : Bool) (a : qao b = some r) : Pure Try.prog tab 70 [.agg (Qu b)] (.bool r):=by
 unfold qao at a;refine Qy Try.func70 J qg qg J<|qd<|K3 _ _ J<|qa J<|qy<|U _ J<|q7 a fun c d a=>Qk (qwp b c d) J<|U _ J<|qa J<|qz ?_;cases a;exact Qh _ J
theorem qwl (a : qh) (b : qh) (r : Int) (c : q8r a b = some r) : Pure Try.prog tab 86 [.agg (Q1 a),.agg (Q1 b)] (qk r):=by
 unfold q8r at c;refine Qy Try.func86 J qg qg J<|qd<|K3 _ _ J<|K3 _ _ J<|qa J<|qy<|U _ J<|U _ J<|U _ J<|U _ J<|U _ J<|qa J<|qz ?_;cases c;exact Qh _ J
theorem qtj (k : qh→qh→Option Int) (q1F : FuncId) (q1C : List DV) (q1Ok : ∀ (p : qh) (q : qh) (r : Int),k p q = some r→Pure Try.prog tab q1F ([.agg (Q1 p),.agg (Q1 q)] ++ q1C) (qk r)) (n : List qh) (f : Int) (g : Int) (r : List qh) (l : q80 k n f g = some r) : K4 Try.prog tab 90 [.hs 0 3 0 n.length,q8 f,q8 g,.d (.fn q1F q1C)] [(0,.dat 3 (n.map Q1))] 1 (.d (.tup [])) [(0,.dat 3 (r.map Q1))] 1:=by
 unfold q80 at l;refine Ki Try.func90 J qg qg J<|qd<|O J<|U _ J<|qa J<|q9<|q7 l fun al am l=>Q4<|Qb (q81 g f k) (fun h=>⟨[(0,.hs 0 3 0 h.2.length),(1,q8 f),(2,q8 g),(3,.d (.fn q1F q1C)),(8,q8 h.1)],[(0,.dat 3 (h.2.map Q1))],1⟩) _ al am (wkA [] [] []) ?_;intro h az c;unfold q81 at c;refine qe<|qd<|O J<|O J<|U _ J<|q9 ?_;refine qo J c (fun _ c=>?_) (fun _ c=>?_)
 ·refine qq<|qe<|q7 c fun an o c=>?_;refine Qf (fun j=>j = an) (fun j=>⟨[(0,.hs 0 3 0 j.length),(1,q8 f),(2,q8 g),(3,.d (.fn q1F q1C)),(8,q8 h.1)],[(0,.dat 3 (j.map Q1))],1⟩) qb ?_ ?_
  ·refine qd<|O J<|qa J<|q9<|q7 o fun ao ap o=>Q4<|Qb (q82 f k) (fun m=>⟨[(0,.hs 0 3 0 m.2.length),(1,q8 f),(2,q8 g),(3,.d (.fn q1F q1C)),(8,q8 h.1),(9,q8 m.1)],[(0,.dat 3 (m.2.map Q1))],1⟩) _ ao ap (wkA [] [] []) ?_;intro m ba a;unfold q82 at a;refine qe<|qe<|Qa [q0,q0,q0,qt 0,q0,q0,q0,q0,qt 0,q0,q0,q0,q0,q0,q0,q0,q0] qg<|O J<|O J<|U _ J<|q7 a fun aq b a=>?_;refine Qi 14 (fun A st=>∃ s t u v w x y z aa ab ac ad ae,st = A [(34,Q3 aq),(33,ae),(32,ad),(31,ac),(30,ab),(29,aa),(28,z),(27,y),(26,x),(25,w),(24,v),(23,u),(22,t),(21,s)]) ?_ ?_
   ·refine Qj J J b (fun b=>?_) (fun b=>?_)
    ·refine O J<|O J<|O J<|q7 b fun ar af b=>qr af J J<|Q2 _ af J<|O J<|O J<|U _ J<|q7 b fun au ag b=>qr ag J J<|Q2 _ ag J<|q7 b fun av aw b=>Yo _ (q1Ok ar au av aw) J J J (.inl J)<|U _ J<|U _ J<|q9 ?_;cases b;exact ⟨_,_,_,_,_,_,_,_,_,_,_,_,_,J⟩
    refine qc J<|qc J<|qc J<|qc J<|qc J<|qc J<|qc J<|qc J<|qc J<|qc J<|qc J<|qc J<|U _ J<|q9 ?_;cases b;exact ⟨_,_,_,_,_,_,_,_,_,_,_,_,_,J⟩
   rintro _ ⟨s,t,u,v,w,x,y,z,aa,ab,ac,ad,ae,rfl⟩;refine q9 ?_;refine qo J a (fun _ a=>?_) (fun _ a=>?_)
   ·refine qq<|qe<|Q4<|Qa [Qo 0,q0,Qo 0,q0,qt 0,q0,q0,q0,qt 0,q0,q0,q0,q0,q0,q0,q0,q0,q0] qg<|O J<|O J<|O J<|O J<|U _ J<|O J<|O J<|U _ J<|q7 a fun ax ah a=>qr ah J J<|Q2 _ ah J<|O J<|O J<|q7 a fun ay ai a=>qr ai J J<|Q2 _ ai J<|q7 a fun bb aj a=>qr aj J J<|Qt ax aj J J J J J J J J (leb J) J<|q7 a fun bc ak a=>qr ak qb J<|Qt ay ak J J J J J J J J (leb J) J<|qu<|Qm<|qx<|O J<|U _ J<|qa J<|qu<|⟨_,qn a,wkE [] [] [] J ⟨⟨_,J,Qx qb J Q0 (ltd J)⟩,qi J,qi J,qi J,qi J,qi J,trivial⟩ ⟨Qn J J,trivial⟩⟩
   refine Q8 ?_;refine ⟨_,qn a,fun hm=>?_⟩;subst hm;cases o;exact ⟨_,J,wkA [] [] []⟩
  intro j hb;subst hb;refine qx<|O J<|U _ J<|qa J<|qu<|⟨_,qn c,wkA [] [] []⟩
 refine Q8 ?_;refine ⟨_,qn c,fun hm=>?_⟩;subst hm;cases l;exact ⟨.inl J,_,J,wkA [] [] []⟩
theorem qjg (l : qh→qh→Option Int) (q1F : FuncId) (q1C : List DV) (q1Ok : ∀ (n : qh) (o : qh) (r : Int),l n o = some r→Pure Try.prog tab q1F ([.agg (Q1 n),.agg (Q1 o)] ++ q1C) (qk r)) (m : List qh) (p : Int) (f : Int) (g : Int) (r : List qh) (h : q61 l m p f g = some r) : K4 Try.prog tab 98 [.hs 0 3 0 m.length,q8 p,q8 f,q8 g,.d (.fn q1F q1C)] [(0,.dat 3 (m.map Q1))] 1 (.d (.tup [])) [(0,.dat 3 (r.map Q1))] 1:=by
 unfold q61 at h;refine Ki Try.func98 J qg qg J<|qd<|O J<|qa J<|q9<|q7 h fun aq ar h=>Q4<|Qb (q8k f g l) (fun c=>⟨[(0,.hs 0 3 0 c.2.length),(2,q8 f),(3,q8 g),(4,.d (.fn q1F q1C)),(10,q8 c.1)],[(0,.dat 3 (c.2.map Q1))],1⟩) _ aq ar (wkA [] [] []) ?_;intro c bg a;unfold q8k at a;refine Q4<|qd<|O J<|U _ J<|U _ J<|qa J<|q9<|qe<|qd<|O J<|O J<|U _ J<|q9 ?_;refine qo J a (fun _ a=>?_) (fun _ a=>?_)
 ·refine Q8 ?_;refine ⟨_,qn a,fun hm=>?_⟩;subst hm;cases h;exact ⟨.inl J,_,J,wkA [] [] []⟩
 refine qq<|qe<|qe<|Qa [q0,q0,q0,qt 0,q0,q0,q0,q0,q0,q0,qt 0,q0,q0,q0,q0,q0,q0,q0,q0,q0,q0,q0] qg<|O J<|U _ J<|O J<|U _ J<|q7 a fun au b a=>?_;refine Qi 18 (fun A st=>∃ q s t u v w x y z aa ab ac ad ae af ag ah,st = A [(40,Q3 au),(39,ah),(38,ag),(37,af),(36,ae),(35,ad),(34,ac),(33,ab),(32,aa),(31,z),(30,y),(29,x),(28,w),(27,v),(26,u),(25,t),(24,s),(23,q)]) ?_ ?_
 ·refine Qj J J b (fun b=>?_) (fun b=>?_)
  ·refine O J<|O J<|O J<|O J<|U _ J<|q7 b fun av ai b=>qr ai J J<|Q2 _ ai J<|O J<|O J<|O J<|U _ J<|U _ J<|q7 b fun aw aj b=>qr aj J J<|Q2 _ aj J<|q7 b fun ax ay b=>Yo _ (q1Ok av aw ax ay) J J J (.inl J)<|U _ J<|U _ J<|q9 ?_;cases b;exact ⟨_,_,_,_,_,_,_,_,_,_,_,_,_,_,_,_,_,J⟩
  refine qc J<|qc J<|qc J<|qc J<|qc J<|qc J<|qc J<|qc J<|qc J<|qc J<|qc J<|qc J<|qc J<|qc J<|qc J<|qc J<|U _ J<|q9 ?_;cases b;exact ⟨_,_,_,_,_,_,_,_,_,_,_,_,_,_,_,_,_,J⟩
 rintro _ ⟨q,s,t,u,v,w,x,y,z,aa,ab,ac,ad,ae,af,ag,ah,rfl⟩;refine q9<|q7 a fun az j a=>?_;refine Yp (fun k=>k = az) (fun k=>⟨[(0,.hs 0 3 0 c.2.length),(2,q8 f),(3,q8 g),(4,.d (.fn q1F q1C)),(10,q8 c.1),(11,q8 k)],[(0,.dat 3 (c.2.map Q1))],1⟩) qb ?_ ?_
 ·refine qo J j (fun _ j=>?_) (fun _ j=>?_)
  ·refine qx<|O J<|U _ J<|qa J<|qu ?_;cases j;exact ⟨_,J,wkA [] [] []⟩
  refine qq<|Qg ?_;cases j;exact ⟨_,J,wkA [] [] []⟩
 intro k hb;subst hb;refine qe<|qe<|Qa [q0,q0,q0,qt 0,q0,q0,q0,q0,q0,qt 0,q0,q0,q0,q0,q0,q0] qg<|O J<|O J<|O J<|O J<|U _ J<|q7 a fun ba ak a=>qr ak J J<|Q2 _ ak J<|O J<|O J<|O J<|U _ J<|q7 a fun bb al a=>qr al J J<|Q2 _ al J<|q7 a fun bc bd a=>Yo _ (q1Ok ba bb bc bd) J J J (.inl J)<|U _ J<|U _ J<|q9 ?_;refine qo J a (fun _ a=>?_) (fun _ a=>?_)
 ·refine q3e ?_;refine ⟨_,qn a,fun hm=>?_⟩;subst hm;cases h;exact ⟨.inr J,_,J,wkA [] [] []⟩
 refine qq<|qe<|Qa [Qo 0,q0,Qo 0,q0,qt 0,q0,q0,q0,q0,q0,qt 0,q0,q0,q0,q0,q0,q0,q0,q0,q0,q0,q0,q0,q0] qg<|O J<|O J<|O J<|U _ J<|O J<|O J<|O J<|U _ J<|O J<|O J<|O J<|U _ J<|q7 a fun be am a=>qr am J J<|Q2 _ am J<|O J<|O J<|O J<|U _ J<|q7 a fun bf an a=>qr an J J<|Q2 _ an J<|q7 a fun bh ao a=>qr ao J J<|Qt be ao J J J J J J J J (leb J) J<|q7 a fun bi ap a=>qr ap qb J<|Qt bf ap J J J J J J J J (leb J) J<|q9<|qx<|O J<|qa J<|qu<|Qm<|Qg<|⟨_,qn a,wkE [] [] [] J ⟨⟨_,J,Qx qb J Q0 (ltd J)⟩,qi J,qi J,qi J,qi J,trivial⟩ ⟨Qn J J,trivial⟩⟩
theorem qth (g : qh→qh→Option Int) (q1F : FuncId) (q1C : List DV) (q1Ok : ∀ (o : qh) (p : qh) (r : Int),g o p = some r→Pure Try.prog tab q1F ([.agg (Q1 o),.agg (Q1 p)] ++ q1C) (qk r)) (m : List qh) (b : Int) (h : Int) (r : List qh) (j : q7x g m b h = some r) : K4 Try.prog tab 91 [.hs 0 3 0 m.length,q8 b,q8 h,.d (.fn q1F q1C)] [(0,.dat 3 (m.map Q1))] 1 (.d (.tup [])) [(0,.dat 3 (r.map Q1))] 1:=by
 unfold q7x at j;refine Ki Try.func91 J qg qg J<|qd<|O J<|qa J<|qy<|qa J<|qy<|O J<|O J<|U _ J<|qa J<|q9<|qe<|qd<|O J<|U _ J<|U _ J<|qa J<|q9<|q7 j fun q z j=>?_;refine Qf (fun l=>l = q) (fun l=>⟨[(0,.hs 0 3 0 l.length),(3,.d (.fn q1F q1C)),(8,q8 b),(9,q8 0),(10,.d (qk (w64 (h - b))))],[(0,.dat 3 (l.map Q1))],1⟩) qb ?_ ?_
 ·refine Qb (q7y g h b) (fun k=>⟨[(0,.hs 0 3 0 k.2.length),(3,.d (.fn q1F q1C)),(8,q8 b),(9,q8 0),(10,.d (qk (w64 (h - b)))),(11,q8 k.1)],[(0,.dat 3 (k.2.map Q1))],1⟩) _ q z (wkA [] [] []) ?_;intro k ai c;unfold q7y at c;refine qe<|qd<|O J<|U _ J<|q9 ?_;refine qo J c (fun _ c=>?_) (fun _ c=>?_)
  ·refine qq<|qe<|Q4<|qx<|O J<|O J<|O J<|O J<|O J<|q7 c fun s aa c=>q7 c fun aj ab c=>?_;have ac:=Kl ab;refine K7 [(0,0)] [(0,0)] _ (.d (.tup [])) 1 [(0,.dat 3 (s.map Q1))] 1 (qjg g q1F q1C q1Ok k.2 k.1 (w64 (h - b)) b s aa)<|qu<|Qm<|qx<|O J<|U _ J<|qa J<|qu<|⟨_,qn c,wkE [] [] [] J ⟨⟨_,J,Qx (by simp [ac]) J Q0 (ltd J)⟩,qi J,qi J,qi J,qi J,qi J,trivial⟩ ⟨Qn J J,trivial⟩⟩
  refine Q8 ?_;refine ⟨_,qn c,fun hm=>?_⟩;subst hm;exact ⟨_,J,wkA [] [] []⟩
 intro l hb;subst hb;refine qd<|O J<|U _ J<|qa J<|q9<|q7 j fun ad ae j=>Q4<|Qb (q7z b g) (fun f=>⟨[(0,.hs 0 3 0 f.2.length),(3,.d (.fn q1F q1C)),(8,q8 b),(9,q8 0),(12,q8 f.1)],[(0,.dat 3 (f.2.map Q1))],1⟩) _ ad ae (wkA [] [] []) ?_;intro f ak a;unfold q7z at a;refine qe<|qd<|O J<|U _ J<|q9 ?_;refine qo J a (fun _ a=>?_) (fun _ a=>?_)
 ·refine qq<|qe<|Q4<|qe<|Qa [Qo 0,q0,Qo 0,q0,qt 0,q0,q0,q0,qt 0,q0,q0,q0,q0,q0,q0,q0,q0,q0,q0,q0] qg<|O J<|O J<|O J<|O J<|O J<|U _ J<|O J<|O J<|O J<|U _ J<|q7 a fun t u a=>qr u J J<|Q2 _ u J<|O J<|O J<|q7 a fun v w a=>qr w J J<|Q2 _ w J<|q7 a fun al x a=>qr x J J<|Qt t x J J J J J J J J (leb J) J<|q7 a fun am y a=>qr y qb J<|Qt v y J J J J J J J J (leb J) J<|q9<|qx<|O J<|O J<|O J<|O J<|O J<|q7 a fun n af a=>q7 a fun an ag a=>?_;have ah:=Kl ag;refine U7 [(0,0)] [(0,0)] [.hs 0 3 0 f.2.length,q8 0,q8 f.1,q8 b,.d (.fn q1F q1C)] (.d (.tup [])) [(0,.dat 3 (n.map Q1))] [(0,.dat 3 (n.map Q1))] 1 (qjg g q1F q1C q1Ok ((f.2.set b.toNat t).set (w64 (b + f.1)).toNat v) 0 f.1 b n af) J J J (Yi [(0,0)] [] [] J ⟨⟨_,J,Qx qb J Q0 (ltd J)⟩,qi J,qi J,qi J,qi J,trivial⟩ ⟨Qn J J,trivial⟩) (Yi [(0,0)] [] [] J ⟨qi J,trivial⟩ ⟨Qn J J,trivial⟩) J ⟨.inl J,trivial⟩<|qu<|Qm<|qx<|O J<|U _ J<|qa J<|qu<|⟨_,qn a,wkE [] [] [] J ⟨⟨_,J,Qx (by simp [ah]) J Q0 (ltd J)⟩,qi J,qi J,qi J,qi J,trivial⟩ ⟨Qn J J,trivial⟩⟩
 refine Q8 ?_;refine ⟨_,qn a,fun hm=>?_⟩;subst hm;cases j;exact ⟨.inl J,_,J,wkA [] [] []⟩
theorem qdp (b : qh→qh→Option Int) (q1F : FuncId) (q1C : List DV) (q1Ok : ∀ (c : qh) (f : qh) (r : Int),b c f = some r→Pure Try.prog tab q1F ([.agg (Q1 c),.agg (Q1 f)] ++ q1C) (qk r)) (g : List qh) (h : Int) (j : Int) (k : Int) (r : Int × Int × Int) (a : q3k b g h j k = some r) : K4 Try.prog tab 101 [.d (.sl 3 (g.map Q1)),q8 h,q8 j,.ref 0 1 0 0,.d (.fn q1F q1C)] [(0,.dat 1 [[qk k]])] 1 (.d (.tup [qk r.1,qk r.2.1])) [(0,.dat 1 [[qk r.2.2]])] 1:=by
 unfold q3k at a;refine Ki Try.func101 J qg qg J<|qd<|qa J<|qa J<|q9<|qe<|qe<|Qa [q0,q0,q0,q0,q0,q0,q0,q0,q0,q0,q0] qg<|O J<|O J<|O J<|q7 a fun l m a=>Qd m J<|U _ J<|O J<|O J<|q7 a fun n o a=>Qd o J<|U _ J<|q7 a fun p q a=>Yo _ (q1Ok l n p q) J J J (.inl J)<|U _ J<|q9 ?_;refine qo J a (fun _ a=>?_) (fun _ a=>?_)
 ·refine qd<|O J<|U _ J<|U _ J<|U _ J<|U _ J<|Qz 0 _ J<|qy<|O J<|O J<|qa J<|qa J<|qz ?_;cases a;exact ⟨.inr J,_,J,wkA [] [] []⟩
 refine qq<|qd<|O J<|O J<|qa J<|qa J<|qz ?_;cases a;exact ⟨.inr J,_,J,wkA [] [] []⟩
theorem qjd (f : qh→qh→Option Int) (q1F : FuncId) (q1C : List DV) (q1Ok : ∀ (n : qh) (o : qh) (r : Int),f n o = some r→Pure Try.prog tab q1F ([.agg (Q1 n),.agg (Q1 o)] ++ q1C) (qk r)) (g : List qh) (j : Int) (k : Int) (l : Int) (m : Int) (r : Int × Int) (a : q5h f g j k l m = some r) : K4 Try.prog tab 100 [.d (.sl 3 (g.map Q1)),q8 j,q8 k,q8 l,.ref 0 1 0 0,.d (.fn q1F q1C)] [(0,.dat 1 [[qk m]])] 1 (q8 r.1) [(0,.dat 1 [[qk r.2]])] 1:=by
 unfold q5h at a;refine Ki Try.func100 J qg qg J<|qd<|qa J<|qy<|O J<|O J<|O J<|O J<|O J<|q7 a fun b p a=>K7 [(0,0)] [(0,0)] _ (.d (.tup [qk b.1,qk b.2.1])) 1 [(0,.dat 1 [[qk b.2.2]])] 1 (qdp f q1F q1C q1Ok g j k m b p)<|O J<|U _ J<|U _ J<|qa J<|qa J<|qy<|O J<|O J<|O J<|O J<|O J<|q7 a fun c q a=>K7 [(0,0)] [(0,0)] _ (.d (.tup [qk c.1,qk c.2.1])) 1 [(0,.dat 1 [[qk c.2.2]])] 1 (qdp f q1F q1C q1Ok g b.2.1 l b.2.2 c q)<|O J<|U _ J<|U _ J<|qa J<|qa J<|qy<|O J<|O J<|O J<|O J<|O J<|q7 a fun h s a=>K7 [(0,0)] [(0,0)] _ (.d (.tup [qk h.1,qk h.2.1])) 1 [(0,.dat 1 [[qk h.2.2]])] 1 (qdp f q1F q1C q1Ok g b.1 c.1 c.2.2 h s)<|O J<|U _ J<|U _ J ?_;refine qa J<|qa J<|qy<|O J<|qa J<|qz ?_;cases a;exact ⟨.inr J,_,J,wkA [] [] []⟩
theorem qdn (c : qh→qh→Option Int) (q1F : FuncId) (q1C : List DV) (q1Ok : ∀ (j : qh) (k : qh) (r : Int),c j k = some r→Pure Try.prog tab q1F ([.agg (Q1 j),.agg (Q1 k)] ++ q1C) (qk r)) (f : List qh) (a : Int) (g : Int) (r : Int × Int) (b : q3i c f a g = some r) : K4 Try.prog tab 99 [.d (.sl 3 (f.map Q1)),q8 a,.ref 0 1 0 0,.d (.fn q1F q1C)] [(0,.dat 1 [[qk g]])] 1 (q8 r.1) [(0,.dat 1 [[qk r.2]])] 1:=by
 unfold q3i at b;refine Ki Try.func99 J qg qg J<|qd<|qa J<|qy<|O J<|O J<|U _ J<|O J<|O J<|U _ J<|O J<|O J<|q7 b fun h l b=>K7 [(0,0)] [(0,0)] _ (q8 h.1) 1 [(0,.dat 1 [[qk h.2]])] 1 (qjd c q1F q1C q1Ok f (w64 (a - 1)) a (w64 (a + 1)) g h l)<|qa J<|qz ?_;cases b;exact ⟨.inr J,_,J,wkA [] [] []⟩
theorem qtf (h : List qh) (g : Int) (k : Int) (j : qh→qh→Option Int) (p3F : FuncId) (p3C : List DV) (p3Ok : ∀ (q : qh) (s : qh) (r : Int),j q s = some r→Pure Try.prog tab p3F ([.agg (Q1 q),.agg (Q1 s)] ++ p3C) (qk r)) (r : Int × Int) (a : q7w h g k j = some r) : Pure Try.prog tab 93 [.sl 3 (h.map Q1),qk g,qk k,.fn p3F p3C] (.tup [qk r.1,qk r.2]):=by
 unfold q7w at a;refine Qy Try.func93 J qg qg J<|qd<|qa J<|qa J<|qy<|O J<|O J<|U _ J<|qa J<|qy<|Kn J J<|qy<|O J<|O J<|U _ J<|U _ J<|U _ J<|qa J<|qy<|O J<|O J<|U _ J<|U _ J<|U _ J<|qa J<|qy<|O J<|O J<|U _ J<|U _ J<|U _ J<|qa J<|q9<|qe<|qd<|O J<|U _ J<|q9<|q7 a fun t f a=>?_;refine Yp (fun l=>l = t) (fun l=>⟨[(11,.ref 0 1 0 0),(13,q8 l.1)],[(0,.dat 1 [[qk l.2]])],1⟩) qb ?_ ?_
 ·refine qo J f (fun _ f=>?_) (fun _ f=>?_)
  ·refine qe<|qd<|O J<|U _ J<|q9<|q7 f fun u b f=>?_;refine Yp (fun c=>c = u) (fun c=>⟨[(0,.d (.sl 3 (h.map Q1))),(3,.d (.fn p3F p3C)),(11,.ref 0 1 0 0),(12,q8 c.1),(13,q8 c.2.1),(14,q8 c.2.2.1)],[(0,.dat 1 [[qk c.2.2.2]])],1⟩) qb ?_ ?_
   ·refine qo J b (fun _ b=>?_) (fun _ b=>?_)
    ·refine qd<|O J<|O J<|O J<|q7 b fun m v b=>K7 [(0,0)] [(0,0)] _ (q8 m.1) 1 [(0,.dat 1 [[qk m.2]])] 1 (qdn j p3F p3C p3Ok h (w64 (g + (w64 ((w64 (Int.tdiv (w64 (k - g)) 4)) * 1)))) 0 m v)<|qa J<|qy<|O J<|O J<|O J<|q7 b fun n w b=>K7 [(0,0)] [(0,0)] _ (q8 n.1) 1 [(0,.dat 1 [[qk n.2]])] 1 (qdn j p3F p3C p3Ok h (w64 (g + (w64 ((w64 (Int.tdiv (w64 (k - g)) 4)) * 2)))) m.2 n w)<|qa J<|q9<|qx<|O J<|O J<|O J<|q7 b fun o x b=>K7 [(0,0)] [(0,0)] _ (q8 o.1) 1 [(0,.dat 1 [[qk o.2]])] 1 (qdn j p3F p3C p3Ok h (w64 (g + (w64 ((w64 (Int.tdiv (w64 (k - g)) 4)) * 3)))) n.2 o x)<|qa J<|qu ?_;cases b;exact ⟨_,J,wkA [(0,0)] [] []⟩
    refine qq<|Qg ?_;cases b;exact ⟨_,J,wkA [(0,0)] [] []⟩
   intro c hb;subst hb;refine qx<|O J<|O J<|O J<|O J<|O J<|q7 f fun p y f=>K7 [(0,0)] [(0,0)] _ (q8 p.1) 1 [(0,.dat 1 [[qk p.2]])] 1 (qjd j p3F p3C p3Ok h c.1 c.2.1 c.2.2.1 c.2.2.2 p y)<|qa J<|qu ?_;cases f;exact ⟨_,J,wkA [(0,0)] [] []⟩
  refine qq<|Qg ?_;cases f;exact ⟨_,J,wkA [(0,0)] [] []⟩
 intro l hb;subst hb;refine qd<|U _ J<|q9<|Q4<|qd<|U _ J<|qa J<|q9 ?_;refine qo J a (fun _ a=>?_) (fun _ a=>?_)
 ·refine qd<|O J<|qa J<|qa J<|qz ?_;cases a;exact Qh _ J
 refine qd<|U _ J<|qa J<|q9 ?_;refine qo J a (fun _ a=>?_) (fun _ a=>?_)
 ·refine qd<|O J<|qa J<|qa J<|qz ?_;cases a;exact Qh _ J
 refine qd<|O J<|qa J<|qa J<|qz ?_;cases a;exact Qh _ J
theorem qtv (g : qh→qh→Option Int) (q1F : FuncId) (q1C : List DV) (_q1Ok : ∀ (h : qh) (j : qh) (r : Int),g h j = some r→Pure Try.prog tab q1F ([.agg (Q1 h),.agg (Q1 j)] ++ q1C) (qk r)) (f : List qh) (k : Int) (l : Int) (r : List qh) (c : q8h g f k l = some r) : K4 Try.prog tab 94 [.hs 0 3 0 f.length,q8 k,q8 l,.d (.fn q1F q1C)] [(0,.dat 3 (f.map Q1))] 1 (.d (.tup [])) [(0,.dat 3 (r.map Q1))] 1:=by
 unfold q8h at c;refine Ki Try.func94 J qg qg J<|qd<|O J<|qa J<|qy<|O J<|U _ J<|qa J<|q9<|q7 c fun q s c=>Q4<|Qb (q8i) (fun b=>⟨[(0,.hs 0 3 0 b.2.2.length),(8,q8 b.1),(9,q8 b.2.1)],[(0,.dat 3 (b.2.2.map Q1))],1⟩) _ q s (wkA [] [] []) ?_;intro b v a;unfold q8i at a;refine qe<|qd<|O J<|O J<|U _ J<|q9 ?_;refine qo J a (fun _ a=>?_) (fun _ a=>?_)
 ·refine qq<|Q4<|qe<|Qa [Qo 0,q0,Qo 0,q0,qt 0,q0,q0,q0,qt 0,q0,q0,q0,q0,q0,q0,q0] qg<|O J<|O J<|O J<|O J<|O J<|O J<|q7 a fun t m a=>qr m J J<|Q2 _ m J<|O J<|O J<|q7 a fun u n a=>qr n J J<|Q2 _ n J<|q7 a fun w o a=>qr o J J<|Qt t o J J J J J J J J (leb J) J<|q7 a fun x p a=>qr p qb J<|Qt u p J J J J J J J J (leb J) J<|qy<|O J<|U _ J<|qa J<|q9<|qx<|O J<|U _ J<|qa J<|qu<|Qm<|Qg<|⟨_,qn a,wkE [] [] [] J ⟨⟨_,J,Qx qb J Q0 (ltd J)⟩,qi J,qi J,trivial⟩ ⟨Qn J J,trivial⟩⟩
 refine Q8 ?_;refine ⟨_,qn a,fun hm=>?_⟩;subst hm;cases c;exact ⟨.inl J,_,J,wkA [] [] []⟩
theorem qtl (o : qh→qh→Option Int) (q1F : FuncId) (q1C : List DV) (q1Ok : ∀ (x : qh) (y : qh) (r : Int),o x y = some r→Pure Try.prog tab q1F ([.agg (Q1 x),.agg (Q1 y)] ++ q1C) (qk r)) (w : List qh) (j : Int) (g : Int) (r : Bool × List qh) (p : q5i o w j g = some r) : K4 Try.prog tab 95 [.hs 0 3 0 w.length,q8 j,q8 g,.d (.fn q1F q1C)] [(0,.dat 3 (w.map Q1))] 1 (Q3 r.1) [(0,.dat 3 (r.2.map Q1))] 1:=by
 unfold q5i at p;refine Ki Try.func95 J qg qg J<|qd<|qa J<|qy<|O J<|U _ J<|qa J<|q9<|qe<|qd<|qa J<|q9<|q7 p fun z bk p=>?_;refine Qf (fun t=>.inl t = z) (fun t=>⟨[],[(0,.dat 3 (t.map Q1))],1⟩) qb ?_ ?_
 ·refine Qb (q5j g o j) (fun f=>⟨[(0,.hs 0 3 0 f.2.2.length),(1,q8 j),(2,q8 g),(3,.d (.fn q1F q1C)),(9,q8 f.1),(10,q8 f.2.1)],[(0,.dat 3 (f.2.2.map Q1))],1⟩) _ z bk (wkA [] [] []) ?_;intro f cn k;unfold q5j at k;refine qe<|qd<|O J<|U _ J<|q9 ?_;refine qo J k (fun _ k=>?_) (fun _ k=>?_)
  ·refine qq<|qe<|q7 k fun bl a k=>?_;refine Qf (fun q=>.inl q = bl) (fun q=>⟨[(0,.hs 0 3 0 q.2.length),(1,q8 j),(2,q8 g),(3,.d (.fn q1F q1C)),(9,q8 q.1),(10,q8 f.2.1)],[(0,.dat 3 (q.2.map Q1))],1⟩) qb ?_ ?_
   ·refine qe<|q7 a fun aa bm a=>?_;refine Qf (fun l=>l = aa) (fun l=>⟨[(0,.hs 0 3 0 f.2.2.length),(1,q8 j),(2,q8 g),(3,.d (.fn q1F q1C)),(9,q8 l),(10,q8 f.2.1)],[(0,.dat 3 (f.2.2.map Q1))],1⟩) qb ?_ ?_
    ·refine Qb (q83 g f o) (fun ab=>⟨[(0,.hs 0 3 0 f.2.2.length),(1,q8 j),(2,q8 g),(3,.d (.fn q1F q1C)),(9,q8 ab),(10,q8 f.2.1)],[(0,.dat 3 (f.2.2.map Q1))],1⟩) _ aa bm (wkA [] [] []) ?_;intro ab co m;unfold q83 at m;refine qe<|qe<|Qa [q0,q0,q0,q0,qt 0,q0,q0,q0,q0,qt 0,q0,q0,q0,q0,q0,q0,q0,q0] qg<|O J<|O J<|U _ J<|q7 m fun bn h m=>?_;refine Qi 15 (fun A st=>∃ ac ad ae af ag ah ai aj ak al am an ao ap,st = A [(36,Q3 bn),(35,ap),(34,ao),(33,an),(32,am),(31,al),(30,ak),(29,aj),(28,ai),(27,ah),(26,ag),(25,af),(24,ae),(23,ad),(22,ac)]) ?_ ?_
     ·refine Qj J J h (fun h=>?_) (fun h=>?_)
      ·refine O J<|O J<|O J<|q7 h fun bo aq h=>qr aq J J<|Q2 _ aq J<|O J<|O J<|U _ J<|q7 h fun bp ar h=>qr ar J J<|Q2 _ ar J<|q7 h fun bq br h=>Yo _ (q1Ok bo bp bq br) J J J (.inl J)<|U _ J<|U _ J<|U _ J<|q9 ?_;cases h;exact ⟨_,_,_,_,_,_,_,_,_,_,_,_,_,_,J⟩
      refine qc J<|qc J<|qc J<|qc J<|qc J<|qc J<|qc J<|qc J<|qc J<|qc J<|qc J<|qc J<|qc J<|U _ J<|q9 ?_;cases h;exact ⟨_,_,_,_,_,_,_,_,_,_,_,_,_,_,J⟩
     rintro _ ⟨ac,ad,ae,af,ag,ah,ai,aj,ak,al,am,an,ao,ap,rfl⟩;refine q9 ?_;refine qo J m (fun _ m=>?_) (fun _ m=>?_)
     ·refine qq<|Q4<|qx<|O J<|U _ J<|qa J<|qu<|Qm<|Qg<|⟨_,qn m,wkA [] [] []⟩
     refine Q8 ?_;refine ⟨_,qn m,fun hm=>?_⟩;subst hm;exact ⟨_,J,wkA [] [] []⟩
    intro l hb;subst hb;refine qe<|qd<|O J<|O J<|U _ J<|q9 ?_;refine qo J a (fun _ a=>?_) (fun _ a=>?_)
    ·refine qd<|qa J<|qz ?_;cases a;refine ⟨_,qn k,fun hm=>?_⟩;subst hm;cases p;exact ⟨.inr J,_,J,wkA [] [] []⟩
    refine qq<|qe<|qd<|O J<|O J<|U _ J<|U _ J<|q9 ?_;refine qo J a (fun _ a=>?_) (fun _ a=>?_)
    ·refine qd<|qa J<|qz ?_;cases a;refine ⟨_,qn k,fun hm=>?_⟩;subst hm;cases p;exact ⟨.inr J,_,J,wkA [] [] []⟩
    refine qq<|qe<|Qa [Qo 0,q0,Qo 0,q0,qt 0,q0,q0,q0,qt 0,q0,q0,q0,q0,q0,q0,q0,q0,q0] qg<|O J<|O J<|O J<|O J<|U _ J<|O J<|O J<|U _ J<|q7 a fun bs au a=>qr au J J<|Q2 _ au J<|O J<|O J<|q7 a fun bt av a=>qr av J J<|Q2 _ av J<|q7 a fun cp aw a=>qr aw J J<|Qt bs aw J J J J J J J J (leb J) J<|q7 a fun cq ax a=>qr ax qb J<|Qt bt ax J J J J J J J J (leb J) J<|q9<|qe<|qd<|O J<|O J<|U _ J<|U _ J<|q9<|q7 a fun bu n a=>?_;refine Yp (fun s=>s = bu) (fun s=>⟨[(0,.hs 0 3 0 s.length),(1,q8 j),(2,q8 g),(3,.d (.fn q1F q1C)),(9,q8 l),(10,q8 f.2.1)],[(0,.dat 3 (s.map Q1))],1⟩) qb ?_ ?_
    ·refine qo J n (fun _ n=>?_) (fun _ n=>?_)
     ·refine qd<|O J<|U _ J<|qa J<|q9<|q7 n fun bv bw n=>Q4<|Qb (q84 o) (fun u=>⟨[(0,.hs 0 3 0 u.2.length),(1,q8 j),(2,q8 g),(3,.d (.fn q1F q1C)),(9,q8 l),(10,q8 f.2.1),(11,q8 u.1)],[(0,.dat 3 (u.2.map Q1))],1⟩) _ bv bw (wkE [] [] [] J ⟨⟨_,J,Qx qb J Q0 (ltd J)⟩,qi J,qi J,qi J,qi J,qi J,qi J,trivial⟩ ⟨Qn J J,trivial⟩) ?_;intro u cr b;unfold q84 at b;refine qe<|qd<|O J<|U _ J<|q9 ?_;refine qo J b (fun _ b=>?_) (fun _ b=>?_)
      ·refine qq<|qe<|Q4<|qe<|qe<|Qa [q0,q0,q0,qt 0,q0,q0,q0,q0,qt 0,q0,q0,q0,q0] qg<|O J<|O J<|O J<|q7 b fun bz ay b=>qr ay J J<|Q2 _ ay J<|O J<|O J<|U _ J<|q7 b fun ca az b=>qr az J J<|Q2 _ az J<|q7 b fun cb cc b=>Yo _ (q1Ok bz ca cb cc) J J J (.inl J)<|U _ J<|U _ J<|q9 ?_;refine qo J b (fun _ b=>?_) (fun _ b=>?_)
       ·refine Q8 ?_;refine ⟨_,qn b,fun hm=>?_⟩;subst hm;cases n;exact ⟨_,J,wkA [] [] []⟩
       refine qq<|Qa [Qo 0,q0,Qo 0,q0,qt 0,q0,q0,q0,qt 0,q0,q0,q0,q0,q0,q0,q0,q0,q0] qg<|O J<|O J<|O J<|O J<|U _ J<|O J<|O J<|U _ J<|q7 b fun cd ba b=>qr ba J J<|Q2 _ ba J<|O J<|O J<|q7 b fun ce bb b=>qr bb J J<|Q2 _ bb J<|q7 b fun cs bc b=>qr bc J J<|Qt cd bc J J J J J J J J (leb J) J<|q7 b fun ct bd b=>qr bd qb J<|Qt ce bd J J J J J J J J (leb J) J<|qu<|Qm<|qx<|O J<|U _ J<|qa J<|qu<|⟨_,qn b,wkE [] [] [] J ⟨⟨_,J,Qx qb J Q0 (ltd J)⟩,qi J,qi J,qi J,qi J,qi J,qi J,trivial⟩ ⟨Qn J J,trivial⟩⟩
      refine Q8 ?_;refine ⟨_,qn b,fun hm=>?_⟩;subst hm;cases n;exact ⟨_,J,wkA [] [] []⟩
     refine qq<|Qg ?_;cases n;exact ⟨_,J,wkE [] [] [] J ⟨⟨_,J,Qx qb J Q0 (ltd J)⟩,qi J,qi J,qi J,qi J,qi J,trivial⟩ ⟨Qn J J,trivial⟩⟩
    intro s hb;subst hb;refine qd<|O J<|O J<|U _ J<|U _ J<|q9 ?_;refine qo J a (fun _ a=>?_) (fun _ a=>?_)
    ·refine qd<|O J<|U _ J<|qa J<|q9<|q7 a fun cf cg a=>Q4<|Qb (q85 g o l) (fun v=>⟨[(0,.hs 0 3 0 v.2.length),(1,q8 j),(2,q8 g),(3,.d (.fn q1F q1C)),(9,q8 l),(10,q8 f.2.1),(12,q8 v.1)],[(0,.dat 3 (v.2.map Q1))],1⟩) _ cf cg (wkA [] [] []) ?_;intro v cu c;unfold q85 at c;refine qe<|qd<|O J<|O J<|U _ J<|q9 ?_;refine qo J c (fun _ c=>?_) (fun _ c=>?_)
     ·refine qq<|qe<|Q4<|qe<|qe<|Qa [q0,q0,q0,qt 0,q0,q0,q0,q0,qt 0,q0,q0,q0,q0] qg<|O J<|O J<|O J<|q7 c fun ch be c=>qr be J J<|Q2 _ be J<|O J<|O J<|U _ J<|q7 c fun ci bf c=>qr bf J J<|Q2 _ bf J<|q7 c fun cj ck c=>Yo _ (q1Ok ch ci cj ck) J J J (.inl J)<|U _ J<|U _ J<|q9 ?_;refine qo J c (fun _ c=>?_) (fun _ c=>?_)
      ·refine Q8 ?_;refine ⟨_,qn c,fun hm=>?_⟩;subst hm;cases a;exact ⟨_,J,wkA [] [] []⟩
      refine qq<|Qa [Qo 0,q0,Qo 0,q0,qt 0,q0,q0,q0,qt 0,q0,q0,q0,q0,q0,q0,q0,q0,q0] qg<|O J<|O J<|O J<|O J<|U _ J<|O J<|O J<|U _ J<|q7 c fun cl bg c=>qr bg J J<|Q2 _ bg J<|O J<|O J<|q7 c fun cm bh c=>qr bh J J<|Q2 _ bh J<|q7 c fun cv bi c=>qr bi J J<|Qt cl bi J J J J J J J J (leb J) J<|q7 c fun cw bj c=>qr bj qb J<|Qt cm bj J J J J J J J J (leb J) J<|qu<|Qm<|qx<|O J<|U _ J<|qa J<|qu<|⟨_,qn c,wkE [] [] [] J ⟨⟨_,J,Qx qb J Q0 (ltd J)⟩,qi J,qi J,qi J,qi J,qi J,qi J,trivial⟩ ⟨Qn J J,trivial⟩⟩
     refine Q8 ?_;refine ⟨_,qn c,fun hm=>?_⟩;subst hm;cases a;exact ⟨_,J,wkA [] [] []⟩
    refine qq<|Qg ?_;cases a;exact ⟨_,J,wkA [] [] []⟩
   intro q hb;subst hb;refine qx<|O J<|U _ J<|qa J<|qu<|⟨_,qn k,wkA [] [] []⟩
  refine Q8 ?_;refine ⟨_,qn k,fun hm=>?_⟩;subst hm;exact ⟨_,J,wkA [] [] []⟩
 intro t hb;subst hb;refine qd<|qa J<|qz ?_;cases p;exact ⟨.inr J,_,J,wkA [] [] []⟩
theorem qto (m : qh→qh→Option Int) (q1F : FuncId) (q1C : List DV) (q1Ok : ∀ (q : qh) (s : qh) (r : Int),m q s = some r→Pure Try.prog tab q1F ([.agg (Q1 q),.agg (Q1 s)] ++ q1C) (qk r)) (p : List qh) (h : Int) (t : Int) (u : Int) (r : Int × List qh) (c : q8d m p h t u = some r) : K4 Try.prog tab 96 [.hs 0 3 0 p.length,q8 h,q8 t,q8 u,.d (.fn q1F q1C)] [(0,.dat 3 (p.map Q1))] 1 (q8 r.1) [(0,.dat 3 (r.2.map Q1))] 1:=by
 unfold q8d at c;refine Ki Try.func96 J qg qg J<|qd<|qa J<|q9<|qe<|Qa [Qo 0,q0,Qo 0,q0,qt 0,q0,q0,q0,qt 0,q0,q0,q0,q0,q0,q0,q0] qg<|O J<|O J<|O J<|O J<|O J<|O J<|q7 c fun bn v c=>qr v J J<|Q2 _ v J<|O J<|O J<|q7 c fun bo w c=>qr w J J<|Q2 _ w J<|q7 c fun cg x c=>qr x J J<|Qt bn x J J J J J J J J (leb J) J<|q7 c fun ch y c=>qr y qb J<|Qt bo y J J J J J J J J (leb J) J<|qy<|O J<|U _ J<|O J<|U _ J<|qa J<|qa J<|q9<|qe<|q7 c fun z bp c=>?_;refine Qf (fun n=>n = z) (fun n=>⟨[(11,q8 n.1)],[(0,.dat 3 (n.2.map Q1))],1⟩) qb ?_ ?_
 ·refine Qb (q8e h m) (fun b=>⟨[(0,.hs 0 3 0 b.2.2.length),(1,q8 h),(4,.d (.fn q1F q1C)),(11,q8 b.1),(12,q8 b.2.1)],[(0,.dat 3 (b.2.2.map Q1))],1⟩) _ z bp (wkE [] [] [] J ⟨⟨_,J,Qx qb J Q0 (ltd J)⟩,qi J,qi J,qi J,qi J,trivial⟩ ⟨Qn J J,trivial⟩) ?_;intro b ci a;unfold q8e at a;refine Q4<|qe<|q7 a fun aa bq a=>?_;refine Qf (fun l=>l = aa) (fun l=>⟨[(0,.hs 0 3 0 b.2.2.length),(1,q8 h),(4,.d (.fn q1F q1C)),(11,q8 l),(12,q8 b.2.1)],[(0,.dat 3 (b.2.2.map Q1))],1⟩) qb ?_ ?_
  ·refine Qb (q8f b h m) (fun ab=>⟨[(0,.hs 0 3 0 b.2.2.length),(1,q8 h),(4,.d (.fn q1F q1C)),(11,q8 ab),(12,q8 b.2.1)],[(0,.dat 3 (b.2.2.map Q1))],1⟩) _ aa bq (wkA [] [] []) ?_;intro ab cj j;unfold q8f at j;refine qe<|qe<|Qa [q0,q0,q0,q0,qt 0,q0,q0,q0,qt 0,q0,q0,q0,q0,q0,q0,q0,q0] qg<|O J<|O J<|U _ J<|q7 j fun br f j=>?_;refine Qi 14 (fun A st=>∃ ac ad ae af ag ah ai aj ak al am an ao,st = A [(47,Q3 br),(46,ao),(45,an),(44,am),(43,al),(42,ak),(41,aj),(40,ai),(39,ah),(38,ag),(37,af),(36,ae),(35,ad),(34,ac)]) ?_ ?_
   ·refine Qj J J f (fun f=>?_) (fun f=>?_)
    ·refine O J<|O J<|O J<|q7 f fun bs ap f=>qr ap J J<|Q2 _ ap J<|O J<|O J<|q7 f fun bt aq f=>qr aq J J<|Q2 _ aq J<|q7 f fun bu bv f=>Yo _ (q1Ok bs bt bu bv) J J J (.inl J)<|U _ J<|U _ J<|U _ J<|q9 ?_;cases f;exact ⟨_,_,_,_,_,_,_,_,_,_,_,_,_,J⟩
    refine qc J<|qc J<|qc J<|qc J<|qc J<|qc J<|qc J<|qc J<|qc J<|qc J<|qc J<|qc J<|U _ J<|q9 ?_;cases f;exact ⟨_,_,_,_,_,_,_,_,_,_,_,_,_,J⟩
   rintro _ ⟨ac,ad,ae,af,ag,ah,ai,aj,ak,al,am,an,ao,rfl⟩;refine q9 ?_;refine qo J j (fun _ j=>?_) (fun _ j=>?_)
   ·refine qq<|Q4<|qx<|O J<|U _ J<|qa J<|qu<|Qm<|Qg<|⟨_,qn j,wkA [] [] []⟩
   refine Q8 ?_;refine ⟨_,qn j,fun hm=>?_⟩;subst hm;exact ⟨_,J,wkA [] [] []⟩
  intro l hb;subst hb;refine qe<|q7 a fun ar bw a=>?_;refine Qf (fun o=>o = ar) (fun o=>⟨[(0,.hs 0 3 0 b.2.2.length),(1,q8 h),(4,.d (.fn q1F q1C)),(11,q8 l),(12,q8 o)],[(0,.dat 3 (b.2.2.map Q1))],1⟩) qb ?_ ?_
  ·refine Qb (q8g l b h m) (fun au=>⟨[(0,.hs 0 3 0 b.2.2.length),(1,q8 h),(4,.d (.fn q1F q1C)),(11,q8 l),(12,q8 au)],[(0,.dat 3 (b.2.2.map Q1))],1⟩) _ ar bw (wkA [] [] []) ?_;intro au ck k;unfold q8g at k;refine qe<|qe<|Qa [q0,q0,q0,qt 0,q0,q0,q0,qt 0,q0,q0,q0,q0,q0,q0,q0,q0] qg<|O J<|O J<|U _ J<|q7 k fun bz g k=>?_;refine Qi 13 (fun A st=>∃ av aw ax ay az ba bb bc bd be bf bg,st = A [(65,Q3 bz),(64,bg),(63,bf),(62,be),(61,bd),(60,bc),(59,bb),(58,ba),(57,az),(56,ay),(55,ax),(54,aw),(53,av)]) ?_ ?_
   ·refine Qj J J g (fun g=>?_) (fun g=>?_)
    ·refine O J<|O J<|O J<|q7 g fun ca bh g=>qr bh J J<|Q2 _ bh J<|O J<|O J<|q7 g fun cb bi g=>qr bi J J<|Q2 _ bi J<|q7 g fun cc cd g=>Yo _ (q1Ok ca cb cc cd) J J J (.inl J)<|U _ J<|U _ J<|q9 ?_;cases g;exact ⟨_,_,_,_,_,_,_,_,_,_,_,_,J⟩
    refine qc J<|qc J<|qc J<|qc J<|qc J<|qc J<|qc J<|qc J<|qc J<|qc J<|qc J<|U _ J<|q9 ?_;cases g;exact ⟨_,_,_,_,_,_,_,_,_,_,_,_,J⟩
   rintro _ ⟨av,aw,ax,ay,az,ba,bb,bc,bd,be,bf,bg,rfl⟩;refine q9 ?_;refine qo J k (fun _ k=>?_) (fun _ k=>?_)
   ·refine qq<|Q4<|qx<|O J<|U _ J<|qa J<|qu<|Qm<|Qg<|⟨_,qn k,wkA [] [] []⟩
   refine Q8 ?_;refine ⟨_,qn k,fun hm=>?_⟩;subst hm;exact ⟨_,J,wkA [] [] []⟩
  intro o hb;subst hb;refine qe<|qd<|O J<|O J<|U _ J<|q9 ?_;refine qo J a (fun _ a=>?_) (fun _ a=>?_)
  ·refine Q8 ?_;refine ⟨_,qn a,fun hm=>?_⟩;subst hm;exact ⟨_,J,wkA [] [] []⟩
  refine qq<|qe<|Qa [Qo 0,q0,Qo 0,q0,qt 0,q0,q0,q0,qt 0,q0,q0,q0,q0,q0,q0,q0] qg<|O J<|O J<|O J<|O J<|O J<|O J<|q7 a fun ce bj a=>qr bj J J<|Q2 _ bj J<|O J<|O J<|q7 a fun cf bk a=>qr bk J J<|Q2 _ bk J<|q7 a fun cl bl a=>qr bl J J<|Qt ce bl J J J J J J J J (leb J) J<|q7 a fun cm bm a=>qr bm qb J<|Qt cf bm J J J J J J J J (leb J) J<|qy<|O J<|U _ J<|qa J<|q9<|qx<|O J<|U _ J<|qa J<|qu<|Qm<|Qg<|⟨_,qn a,wkE [] [] [] J ⟨⟨_,J,Qx qb J Q0 (ltd J)⟩,qi J,qi J,qi J,qi J,trivial⟩ ⟨Qn J J,trivial⟩⟩
 intro n hb;subst hb;refine qd<|O J<|qa J<|qz ?_;cases c;exact ⟨.inr J,_,J,wkA [] [] []⟩
end Go.Proofs.Ytiejlbckgihckaa
