/- W_Alla -/
import Derived.Test.YtiejlbckgihckaaGreatK14
namespace Go.Proofs.YtiejlbckgihckaaGreat
open Go Go.Am Go.Sh
set_option maxHeartbeats 8000000
set_option maxRecDepth 100000
theorem qwv (b : List qw) (f : qw→Option Bool) (p1F : FuncId) (p1C : List DV) (p1Ok : ∀ (h : qw) (r : Bool),f h = some r→Pure Tryz.prog tab p1F ([.agg (Qw h)] ++ p1C) (.bool r)) (r : Int) (c : qc4 b f = some r) : Pure Tryz.prog tab 63 [.sl 6 (b.map Qw),.fn p1F p1C] (qb r):=by
 unfold qc4 at c;refine Qn Tryz.func63 J qg qg J<|qc<|qa J<|q9<|qf<|qc<|U J<|Qz J<|U J<|q9<|q8 c fun j l c=>?_;refine Qt (fun g=>.inl g = j) (fun g=>⟨[],[],0⟩) qe ?_ ?_
 ·refine Qo (q44 b f) (fun k=>⟨[(0,.d (.sl 6 (b.map Qw))),(1,.d (.fn p1F p1C)),(7,q7 (b.length : Int)),(8,q7 k)],[],0⟩) _ j l (wkA [] [] []) ?_;intro k q a;unfold q44 at a;refine qc<|O _ J<|q9<|qf ?_;refine qo J a (fun _ a=>?_) (fun _ a=>?_)
  ·refine ql<|qf<|Q4<|qc<|U J<|qa J<|qu<|U J<|U J<|U J<|q8 a fun m n a=>K1 n J<|O _ J<|q8 a fun o p a=>Ym _ (p1Ok m o p) J J J (.inl J)<|q9 ?_;refine qo J a (fun _ a=>?_) (fun _ a=>?_)
   ·refine qc<|U J<|qa J<|qq ?_;refine ⟨_,qr a,fun hm=>?_⟩;subst hm;cases c;exact Q6 _ J
   refine ql<|Qh<|Qm<|Q0<|O _ J<|U J<|qz<|⟨_,qr a,wkA [] [] []⟩
  refine Qf ?_;refine ⟨_,qr a,fun hm=>?_⟩;subst hm;exact ⟨_,J,wkA [] [] []⟩
 intro g hb;subst hb;refine qc<|qa J<|qq ?_;cases c;exact Q6 _ J
theorem qwn (b : List qw) (c : qw→Option Bool) (p1F : FuncId) (p1C : List DV) (p1Ok : ∀ (d : qw) (r : Bool),c d = some r→Pure Tryz.prog tab p1F ([.agg (Qw d)] ++ p1C) (.bool r)) (r : Bool) (a : q8s b c = some r) : Pure Tryz.prog tab 37 [.sl 6 (b.map Qw),.fn p1F p1C] (.bool r):=by
 unfold q8s at a;refine Qn Tryz.func37 J qg qg J<|qc<|qa J<|qu<|U J<|U J<|q8 a fun f g a=>Qd (qwv b c p1F p1C p1Ok f g) J<|O _ J<|qa J<|qq ?_;cases a;exact Q6 _ J
theorem qm8 (a : qm) (r : Bool) (c : q6z a = some r) : Pure Tryz.prog tab 57 [.agg (Y6 a)] (.bool r):=by
 unfold q6z at c;refine Qn Tryz.func57 J qg qg J<|qc<|Qq _ _ J<|qa J<|qu<|O _ J<|O _ J<|O _ J<|O _ J<|O _ J<|O _ J<|q5e (r:=min (min a.X a.Y) a.Z) J J (by simp only [q59];rfl)<|O _ J<|q8 c fun o b c=>?_;refine Qg 10 (fun A st=>∃ d f g h j k l m n,st = A [(20,Q3 o),(19,n),(18,m),(17,l),(16,k),(15,j),(14,h),(13,g),(12,f),(11,d)]) ?_ ?_
 ·refine Qe J J b (fun b=>?_) (fun b=>?_)
  ·refine O _ J<|O _ J<|O _ J<|O _ J<|O _ J<|O _ J<|q3q (r:=max (max a.X a.Y) a.Z) J J (by simp only [q3p];rfl)<|O _ J<|O _ J<|q9 ?_;cases b;exact ⟨_,_,_,_,_,_,_,_,_,J⟩
  refine qd J<|qd J<|qd J<|qd J<|qd J<|qd J<|qd J<|qd J<|O _ J<|q9 ?_;cases b;exact ⟨_,_,_,_,_,_,_,_,_,J⟩
 rintro _ ⟨d,f,g,h,j,k,l,m,n,rfl⟩;refine qa J<|qq ?_;cases c;exact Q6 _ J
theorem qzw (g : qw) (r : Bool) (a : q9s g = some r) : Pure Tryz.prog tab 33 [.agg (Qw g)] (.bool r):=by
 unfold q9s at a;refine Qn Tryz.func33 J qg qg J<|qc<|Qq _ _ J<|qa J<|qu<|O _ J<|O _ J<|O _ J<|O _ J<|O _ J<|O _ J<|O _ J<|q8 a fun c1 d a=>?_;refine Qg 9 (fun A st=>∃ h j k l m n o p,st = A [(18,Q3 c1),(17,p),(16,o),(15,n),(14,m),(13,l),(12,k),(11,j),(10,h)]) ?_ ?_
 ·refine Qe J J d (fun d=>?_) (fun d=>?_)
  ·refine O _ J<|O _ J<|O _ J<|O _ J<|O _ J<|O _ J<|O _ J<|O _ J<|q9 ?_;cases d;exact ⟨_,_,_,_,_,_,_,_,J⟩
  refine qd J<|qd J<|qd J<|qd J<|qd J<|qd J<|qd J<|O _ J<|q9 ?_;cases d;exact ⟨_,_,_,_,_,_,_,_,J⟩
 rintro _ ⟨h,j,k,l,m,n,o,p,rfl⟩;refine q8 a fun ai f a=>?_;refine Qg 9 (fun A st=>∃ q s t u v w x y,st = A [(27,Q3 ai),(26,y),(25,x),(24,w),(23,v),(22,u),(21,t),(20,s),(19,q)]) ?_ ?_
 ·refine Qe J J f (fun f=>?_) (fun f=>?_)
  ·refine O _ J<|O _ J<|O _ J<|O _ J<|O _ J<|O _ J<|O _ J<|O _ J<|q9 ?_;cases f;exact ⟨_,_,_,_,_,_,_,_,J⟩
  refine qd J<|qd J<|qd J<|qd J<|qd J<|qd J<|qd J<|O _ J<|q9 ?_;cases f;exact ⟨_,_,_,_,_,_,_,_,J⟩
 rintro _ ⟨q,s,t,u,v,w,x,y,rfl⟩;refine q8 a fun aj b a=>?_;refine Qg 5 (fun A st=>∃ z aa ab ac,st = A [(32,Q3 aj),(31,ac),(30,ab),(29,aa),(28,z)]) ?_ ?_
 ·refine Qe J J b (fun b=>?_) (fun b=>?_)
  ·refine O _ J<|O _ J<|q8 b fun ak al b=>Qd (qm8 g.Lo ak al) J<|O _ J<|q9 ?_;cases b;exact ⟨_,_,_,_,J⟩
  refine qd J<|qd J<|qd J<|O _ J<|q9 ?_;cases b;exact ⟨_,_,_,_,J⟩
 rintro _ ⟨z,aa,ab,ac,rfl⟩;refine q8 a fun am c a=>?_;refine Qg 5 (fun A st=>∃ ad ae af ag,st = A [(37,Q3 am),(36,ag),(35,af),(34,ae),(33,ad)]) ?_ ?_
 ·refine Qe J J c (fun c=>?_) (fun c=>?_)
  ·refine O _ J<|O _ J<|q8 c fun an ao c=>Qd (qm8 g.Hi an ao) J<|O _ J<|q9 ?_;cases c;exact ⟨_,_,_,_,J⟩
  refine qd J<|qd J<|qd J<|O _ J<|q9 ?_;cases c;exact ⟨_,_,_,_,J⟩
 rintro _ ⟨ad,ae,af,ag,rfl⟩;refine qa J<|qq ?_;cases a;exact Q6 _ J
theorem qzn (b : qw) (r : Bool) (a : q2v b = some r) : Pure Tryz.prog tab 38 [.agg (Qw b)] (.bool r):=by
 unfold q2v at a;refine Qn Tryz.func38 J qg qg J<|qc<|Qq _ _ J<|qa J<|qu<|O _ J<|q8 a fun c d a=>Qd (qzw b c d) J<|O _ J<|qa J<|qq ?_;cases a;exact Q6 _ J
theorem qrn (k : Int) (r : Int) (a : q2k k = some r) : Pure Tryz.prog tab 146 [.int .u64 k] (qb r):=by
 unfold q2k at a;refine Qn Tryz.func146 J qg qg J<|qc<|qa J<|q9<|qf<|qc<|U J<|O _ J<|q9<|q8 a fun l b a=>?_;refine Z4 (fun c=>c = l) (fun c=>⟨[(0,.d (.int .u64 c.1)),(2,q7 c.2)],[],0⟩) qe ?_ ?_
 ·refine qo J b (fun _ b=>?_) (fun _ b=>?_)
  ·refine qc<|U J<|O _ J<|qa J<|q9<|Q0<|qa J<|qz ?_;obtain rfl:=qt b;exact ⟨_,J,wkA [] [] []⟩
  refine ql<|Qh ?_;obtain rfl:=qt b;exact ⟨_,J,wkA [] [] []⟩
 intro c hb;subst hb;refine qf<|qc<|U J<|O _ J<|q9<|q8 a fun m f a=>?_;refine Z4 (fun g=>g = m) (fun g=>⟨[(0,.d (.int .u64 g.1)),(2,q7 g.2)],[],0⟩) qe ?_ ?_
 ·refine qo J f (fun _ f=>?_) (fun _ f=>?_)
  ·refine qc<|U J<|O _ J<|qa J<|q9<|Q0<|U J<|O _ J<|qa J<|qz ?_;obtain rfl:=qt f;exact ⟨_,J,wkA [] [] []⟩
  refine ql<|Qh ?_;obtain rfl:=qt f;exact ⟨_,J,wkA [] [] []⟩
 intro g hb;subst hb;refine qf<|qc<|U J<|O _ J<|q9<|q8 a fun n h a=>?_;refine Z4 (fun j=>j = n) (fun j=>⟨[(0,.d (.int .u64 j.1)),(2,q7 j.2)],[],0⟩) qe ?_ ?_
 ·refine qo J h (fun _ h=>?_) (fun _ h=>?_)
  ·refine qc<|U J<|O _ J<|qa J<|q9<|Q0<|U J<|O _ J<|qa J<|qz ?_;obtain rfl:=qt h;exact ⟨_,J,wkA [] [] []⟩
  refine ql<|Qh ?_;obtain rfl:=qt h;exact ⟨_,J,wkA [] [] []⟩
 intro j hb;subst hb;refine qc<|U J<|U J<|O _ J<|q8 a fun p o a=>qsb qcg o J J J J J<|O _ J<|O _ J<|qa J<|qq ?_;cases a;exact Q6 _ J
theorem qeq (b : Int) (r : Int) (a : Ut b = some r) : Pure Tryz.prog tab 112 [.int .u64 b] (qb r):=by
 unfold Ut at a;refine Qn Tryz.func112 J qg qg J<|qc<|qa J<|q9<|qf<|Z2 J<|ql<|qc<|U J<|q8 a fun c d a=>Qd (qrn b c d) J<|qa J<|qq ?_;cases a;exact Q6 _ J
theorem qh7 (a : Int) (r : Bool) (b : q4t a = some r) : Pure Tryz.prog tab 123 [qb a] (.bool r):=by
 unfold q4t at b;refine Qn Tryz.func123 J qg qg J<|qc<|qa J<|qu<|U J<|U J<|O _ J<|qa J<|qq ?_;cases b;exact Q6 _ J
theorem Zx (d : Int) (f : Int) (r : Bool) (a : Yw d f = some r) : Pure Tryz.prog tab 100 [qb d,qb f] (.bool r):=by
 unfold Yw at a;refine Qn Tryz.func100 J qg qg J<|qc<|qa J<|qu<|U J<|q8 a fun p q a=>Qd (qh7 d p q) J<|q8 a fun s b a=>?_;refine Qg 5 (fun A st=>∃ g h j k,st = A [(11,Q3 s),(10,k),(9,j),(8,h),(7,g)]) ?_ ?_
 ·refine Qe J J b (fun b=>?_) (fun b=>?_)
  ·refine U J<|q8 b fun t u b=>Qd (qh7 f t u) J<|O _ J<|O _ J<|q9 ?_;cases b;exact ⟨_,_,_,_,J⟩
  refine qd J<|qd J<|qd J<|O _ J<|q9 ?_;cases b;exact ⟨_,_,_,_,J⟩
 rintro _ ⟨g,h,j,k,rfl⟩;refine q8 a fun v c a=>?_;refine Qg 5 (fun A st=>∃ l m n o,st = A [(16,Q3 v),(15,o),(14,n),(13,m),(12,l)]) ?_ ?_
 ·refine Qe J J c (fun c=>?_) (fun c=>?_)
  ·refine qd J<|qd J<|qd J<|O _ J<|q9 ?_;cases c;exact ⟨_,_,_,_,J⟩
  refine U J<|U J<|O _ J<|O _ J<|q9 ?_;cases c;exact ⟨_,_,_,_,J⟩
 rintro _ ⟨l,m,n,o,rfl⟩;refine qa J<|qq ?_;cases a;exact Q6 _ J
theorem qx9 (m : List Int) (f : Int) (g : Int) (r : List Int) (k : q66  m f g = some r) : K9 Tryz.prog tab 137 [.hs 0 1 0 m.length,q7 f,q7 g] [(0,.dat 1 (m.map (eI .i64)))] 1 (.d (.tup [])) [(0,.dat 1 (r.map (eI .i64)))] 1:=by
 unfold q66 at k;refine Kq Tryz.func137 J qg qg J<|qc<|U J<|O _ J<|qa J<|q9<|q8 k fun ai aj k=>Q4<|Qo (q67 g f) (fun h=>⟨[(0,.hs 0 1 0 h.2.length),(1,q7 f),(2,q7 g),(6,q7 h.1)],[(0,.dat 1 (h.2.map (eI .i64)))],1⟩) _ ai aj (wkA [] [] []) ?_;intro h au c;unfold q67 at c;refine qf<|qc<|U J<|U J<|O _ J<|q9 ?_;refine qo J c (fun _ c=>?_) (fun _ c=>?_)
 ·refine ql<|qf<|q8 c fun ak n c=>?_;refine Qt (fun j=>j = ak) (fun j=>⟨[(0,.hs 0 1 0 j.length),(1,q7 f),(2,q7 g),(6,q7 h.1)],[(0,.dat 1 (j.map (eI .i64)))],1⟩) qe ?_ ?_
  ·refine qc<|U J<|qa J<|q9<|q8 n fun al am n=>Q4<|Qo (q68 f) (fun l=>⟨[(0,.hs 0 1 0 l.2.length),(1,q7 f),(2,q7 g),(6,q7 h.1),(7,q7 l.1)],[(0,.dat 1 (l.2.map (eI .i64)))],1⟩) _ al am (wkA [] [] []) ?_;intro l av a;unfold q68 at a;refine qf<|qf<|Qj [q6,q6,qv 0,q6,q6,q6,q6,qv 0,q6,q6,q6,q6,q6,q6,q6] qg<|U J<|U J<|O _ J<|q8 a fun an b a=>?_;refine Qg 12 (fun A st=>∃ o p q s t u v w x y z,st = A [(30,Q3 an),(29,z),(28,y),(27,x),(26,w),(25,v),(24,u),(23,t),(22,s),(21,q),(20,p),(19,o)]) ?_ ?_
   ·refine Qe J J b (fun b=>?_) (fun b=>?_)
    ·refine U J<|U J<|q8 b fun ao aa b=>qy aa J J<|Qc _ aa J<|U J<|U J<|O _ J<|q8 b fun ap ab b=>qy ab J J<|Qc _ ab J<|q8 b fun aq ar b=>Qd (Zx ao ap aq ar) J<|O _ J<|q9 ?_;cases b;exact ⟨_,_,_,_,_,_,_,_,_,_,_,J⟩
    refine qd J<|qd J<|qd J<|qd J<|qd J<|qd J<|qd J<|qd J<|qd J<|qd J<|O _ J<|q9 ?_;cases b;exact ⟨_,_,_,_,_,_,_,_,_,_,_,J⟩
   rintro _ ⟨o,p,q,s,t,u,v,w,x,y,z,rfl⟩;refine q9 ?_;refine qo J a (fun _ a=>?_) (fun _ a=>?_)
   ·refine ql<|qf<|Q4<|Qj [Qp 0,q6,Qp 0,q6,qv 0,q6,q6,q6,qv 0,q6,q6,q6,q6,q6,q6,q6,q6,q6] qg<|U J<|U J<|U J<|U J<|O _ J<|U J<|U J<|O _ J<|q8 a fun ac ad a=>qy ad J J<|Qc _ ad J<|U J<|U J<|q8 a fun ae af a=>qy af J J<|Qc _ af J<|q8 a fun aw ag a=>qy ag J J<|K0 (ds:=[qb ac]) ac ag J J J J J J J J (leb J) J<|q8 a fun ax ah a=>qy ah qe J<|K0 (ds:=[qb ae]) ae ah J J J J J J J J (leb J) J<|qz<|Qm<|Q0<|U J<|O _ J<|qa J<|qz<|⟨_,qr a,wkE [] [] [] J ⟨⟨_,J,K4 qe J qn (ltd J)⟩,qp J,qp J,qp J,qp J,trivial⟩ ⟨Qk J J,trivial⟩⟩
   refine Qf ?_;refine ⟨_,qr a,fun hm=>?_⟩;subst hm;obtain rfl:=qt n;exact ⟨_,J,wkA [] [] []⟩
  intro j hb;subst hb;refine Q0<|U J<|O _ J<|qa J<|qz<|⟨_,qr c,wkA [] [] []⟩
 refine Qf ?_;refine ⟨_,qr c,fun hm=>?_⟩;subst hm;obtain rfl:=qt k;exact ⟨.inl J,_,J,wkA [] [] []⟩
theorem qm0 (l : List Int) (m : Int) (f : Int) (g : Int) (r : List Int) (h : q4d  l m f g = some r) : K9 Tryz.prog tab 157 [.hs 0 1 0 l.length,q7 m,q7 f,q7 g] [(0,.dat 1 (l.map (eI .i64)))] 1 (.d (.tup [])) [(0,.dat 1 (r.map (eI .i64)))] 1:=by
 unfold q4d at h;refine Kq Tryz.func157 J qg qg J<|qc<|U J<|qa J<|q9<|q8 h fun an ao h=>Q4<|Qo (q6u f g) (fun c=>⟨[(0,.hs 0 1 0 c.2.length),(2,q7 f),(3,q7 g),(8,q7 c.1)],[(0,.dat 1 (c.2.map (eI .i64)))],1⟩) _ an ao (wkA [] [] []) ?_;intro c bb a;unfold q6u at a;refine Q4<|qc<|U J<|O _ J<|O _ J<|qa J<|q9<|qf<|qc<|U J<|U J<|O _ J<|q9 ?_;refine qo J a (fun _ a=>?_) (fun _ a=>?_)
 ·refine Qf ?_;refine ⟨_,qr a,fun hm=>?_⟩;subst hm;obtain rfl:=qt h;exact ⟨.inl J,_,J,wkA [] [] []⟩
 refine ql<|qf<|qf<|Qj [q6,q6,qv 0,q6,q6,q6,q6,q6,q6,qv 0,q6,q6,q6,q6,q6,q6,q6,q6,q6,q6] qg<|U J<|O _ J<|U J<|O _ J<|q8 a fun ap b a=>?_;refine Qg 16 (fun A st=>∃ n o p q s t u v w x y z aa ab ac,st = A [(36,Q3 ap),(35,ac),(34,ab),(33,aa),(32,z),(31,y),(30,x),(29,w),(28,v),(27,u),(26,t),(25,s),(24,q),(23,p),(22,o),(21,n)]) ?_ ?_
 ·refine Qe J J b (fun b=>?_) (fun b=>?_)
  ·refine U J<|U J<|U J<|O _ J<|q8 b fun aq ad b=>qy ad J J<|Qc _ ad J<|U J<|U J<|U J<|O _ J<|O _ J<|q8 b fun ar ae b=>qy ae J J<|Qc _ ae J<|q8 b fun au av b=>Qd (Zx aq ar au av) J<|O _ J<|q9 ?_;cases b;exact ⟨_,_,_,_,_,_,_,_,_,_,_,_,_,_,_,J⟩
  refine qd J<|qd J<|qd J<|qd J<|qd J<|qd J<|qd J<|qd J<|qd J<|qd J<|qd J<|qd J<|qd J<|qd J<|O _ J<|q9 ?_;cases b;exact ⟨_,_,_,_,_,_,_,_,_,_,_,_,_,_,_,J⟩
 rintro _ ⟨n,o,p,q,s,t,u,v,w,x,y,z,aa,ab,ac,rfl⟩;refine q9<|q8 a fun aw j a=>?_;refine Z4 (fun k=>k = aw) (fun k=>⟨[(0,.hs 0 1 0 c.2.length),(2,q7 f),(3,q7 g),(8,q7 c.1),(9,q7 k)],[(0,.dat 1 (c.2.map (eI .i64)))],1⟩) qe ?_ ?_
 ·refine qo J j (fun _ j=>?_) (fun _ j=>?_)
  ·refine Q0<|U J<|O _ J<|qa J<|qz ?_;obtain rfl:=qt j;exact ⟨_,J,wkA [] [] []⟩
  refine ql<|Qh ?_;obtain rfl:=qt j;exact ⟨_,J,wkA [] [] []⟩
 intro k hb;subst hb;refine qf<|qf<|Qj [q6,q6,qv 0,q6,q6,q6,q6,q6,qv 0,q6,q6,q6,q6,q6] qg<|U J<|U J<|U J<|O _ J<|q8 a fun ax af a=>qy af J J<|Qc _ af J<|U J<|U J<|U J<|O _ J<|q8 a fun ay ag a=>qy ag J J<|Qc _ ag J<|q8 a fun az ba a=>Qd (Zx ax ay az ba) J<|O _ J<|q9 ?_;refine qo J a (fun _ a=>?_) (fun _ a=>?_)
 ·refine q1l ?_;refine ⟨_,qr a,fun hm=>?_⟩;subst hm;obtain rfl:=qt h;exact ⟨.inr J,_,J,wkA [] [] []⟩
 refine ql<|qf<|Qj [Qp 0,q6,Qp 0,q6,qv 0,q6,q6,q6,q6,q6,qv 0,q6,q6,q6,q6,q6,q6,q6,q6,q6,q6,q6,q6,q6] qg<|U J<|U J<|U J<|O _ J<|U J<|U J<|U J<|O _ J<|U J<|U J<|U J<|O _ J<|q8 a fun ah ai a=>qy ai J J<|Qc _ ai J<|U J<|U J<|U J<|O _ J<|q8 a fun aj ak a=>qy ak J J<|Qc _ ak J<|q8 a fun bc al a=>qy al J J<|K0 (ds:=[qb ah]) ah al J J J J J J J J (leb J) J<|q8 a fun bd am a=>qy am qe J<|K0 (ds:=[qb aj]) aj am J J J J J J J J (leb J) J<|q9<|Q0<|U J<|qa J<|qz<|Qm<|Qh<|⟨_,qr a,wkE [] [] [] J ⟨⟨_,J,K4 qe J qn (ltd J)⟩,qp J,qp J,qp J,trivial⟩ ⟨Qk J J,trivial⟩⟩
theorem qx7 (l : List Int) (b : Int) (g : Int) (r : List Int) (h : q63  l b g = some r) : K9 Tryz.prog tab 138 [.hs 0 1 0 l.length,q7 b,q7 g] [(0,.dat 1 (l.map (eI .i64)))] 1 (.d (.tup [])) [(0,.dat 1 (r.map (eI .i64)))] 1:=by
 unfold q63 at h;refine Kq Tryz.func138 J qg qg J<|qc<|U J<|qa J<|qu<|qa J<|qu<|U J<|U J<|O _ J<|qa J<|q9<|qf<|qc<|U J<|O _ J<|O _ J<|qa J<|q9<|q8 h fun p w h=>?_;refine Qt (fun k=>k = p) (fun k=>⟨[(0,.hs 0 1 0 k.length),(6,q7 b),(7,q7 0),(8,.d (qb (w64 (g - b))))],[(0,.dat 1 (k.map (eI .i64)))],1⟩) qe ?_ ?_
 ·refine Qo (q64 g b) (fun j=>⟨[(0,.hs 0 1 0 j.2.length),(6,q7 b),(7,q7 0),(8,.d (qb (w64 (g - b)))),(9,q7 j.1)],[(0,.dat 1 (j.2.map (eI .i64)))],1⟩) _ p w (wkA [] [] []) ?_;intro j af c;unfold q64 at c;refine qf<|qc<|U J<|O _ J<|q9 ?_;refine qo J c (fun _ c=>?_) (fun _ c=>?_)
  ·refine ql<|qf<|Q4<|Q0<|U J<|U J<|U J<|U J<|q8 c fun q x c=>q8 c fun ag y c=>?_;have z:=Km y;refine Kc [(0,0)] [(0,0)] _ (.d (.tup [])) 1 [(0,.dat 1 (q.map (eI .i64)))] 1 (qm0 j.2 j.1 (w64 (g - b)) b q x)<|qz<|Qm<|Q0<|U J<|O _ J<|qa J<|qz<|⟨_,qr c,wkE [] [] [] J ⟨⟨_,J,K4 (by simp [z]) J qn (ltd J)⟩,qp J,qp J,qp J,qp J,trivial⟩ ⟨Qk J J,trivial⟩⟩
  refine Qf ?_;refine ⟨_,qr c,fun hm=>?_⟩;subst hm;exact ⟨_,J,wkA [] [] []⟩
 intro k hb;subst hb;refine qc<|U J<|O _ J<|qa J<|q9<|q8 h fun aa ab h=>Q4<|Qo (q65 b) (fun f=>⟨[(0,.hs 0 1 0 f.2.length),(6,q7 b),(7,q7 0),(10,q7 f.1)],[(0,.dat 1 (f.2.map (eI .i64)))],1⟩) _ aa ab (wkA [] [] []) ?_;intro f ah a;unfold q65 at a;refine qf<|qc<|U J<|O _ J<|q9 ?_;refine qo J a (fun _ a=>?_) (fun _ a=>?_)
 ·refine ql<|qf<|Q4<|qf<|Qj [Qp 0,q6,Qp 0,q6,qv 0,q6,q6,q6,qv 0,q6,q6,q6,q6,q6,q6,q6,q6,q6,q6,q6] qg<|U J<|U J<|U J<|U J<|U J<|O _ J<|U J<|U J<|U J<|O _ J<|q8 a fun m s a=>qy s J J<|Qc _ s J<|U J<|U J<|q8 a fun n t a=>qy t J J<|Qc _ t J<|q8 a fun ai u a=>qy u J J<|K0 (ds:=[qb m]) m u J J J J J J J J (leb J) J<|q8 a fun aj v a=>qy v qe J<|K0 (ds:=[qb n]) n v J J J J J J J J (leb J) J<|q9<|Q0<|U J<|U J<|U J<|U J<|q8 a fun o ac a=>q8 a fun ak ad a=>?_;have ae:=Km ad;refine U1 [(0,0)] [(0,0)] [.hs 0 1 0 f.2.length,q7 0,q7 f.1,q7 b] (.d (.tup [])) [(0,.dat 1 (o.map (eI .i64)))] [(0,.dat 1 (o.map (eI .i64)))] 1 (qm0 ((f.2.set b.toNat m).set (w64 (b + f.1)).toNat n) 0 f.1 b o ac) J J J (Yi [(0,0)] [] [] J ⟨⟨_,J,K4 qe J qn (ltd J)⟩,qp J,qp J,qp J,trivial⟩ ⟨Qk J J,trivial⟩) (Yi [(0,0)] [] [] J ⟨qp J,trivial⟩ ⟨Qk J J,trivial⟩) J ⟨.inl J,trivial⟩<|qz<|Qm<|Q0<|U J<|O _ J<|qa J<|qz<|⟨_,qr a,wkE [] [] [] J ⟨⟨_,J,K4 (by simp [ae]) J qn (ltd J)⟩,qp J,qp J,qp J,trivial⟩ ⟨Qk J J,trivial⟩⟩
 refine Qf ?_;refine ⟨_,qr a,fun hm=>?_⟩;subst hm;obtain rfl:=qt h;exact ⟨.inl J,_,J,wkA [] [] []⟩
theorem qfx (b : List Int) (c : Int) (f : Int) (g : Int) (r : Int × Int × Int) (a : q2u  b c f g = some r) : K9 Tryz.prog tab 165 [.d (.sl 1 (b.map (eI .i64))),q7 c,q7 f,.ref 0 1 0 0] [(0,.dat 1 [[qb g]])] 1 (.d (.tup [qb r.1,qb r.2.1])) [(0,.dat 1 [[qb r.2.2]])] 1:=by
 unfold q2u at a;refine Kq Tryz.func165 J qg qg J<|qc<|qa J<|qa J<|q9<|qf<|qf<|Qj [q6,q6,q6,q6,q6,q6,q6,q6,q6] qg<|U J<|U J<|q8 a fun h j a=>K1 j J<|O _ J<|U J<|U J<|q8 a fun k l a=>K1 l J<|O _ J<|q8 a fun m n a=>Qd (Zx h k m n) J<|q9 ?_;refine qo J a (fun _ a=>?_) (fun _ a=>?_)
 ·refine qc<|U J<|O _ J<|O _ J<|O _ J<|O _ J<|Q7 0 _ J<|qu<|U J<|U J<|qa J<|qa J<|qq ?_;obtain rfl:=qt a;exact ⟨.inr J,_,J,wkA [] [] []⟩
 refine ql<|qc<|U J<|U J<|qa J<|qa J<|qq ?_;obtain rfl:=qt a;exact ⟨.inr J,_,J,wkA [] [] []⟩
theorem qlx (f : List Int) (h : Int) (j : Int) (k : Int) (l : Int) (r : Int × Int) (a : q47  f h j k l = some r) : K9 Tryz.prog tab 161 [.d (.sl 1 (f.map (eI .i64))),q7 h,q7 j,q7 k,.ref 0 1 0 0] [(0,.dat 1 [[qb l]])] 1 (q7 r.1) [(0,.dat 1 [[qb r.2]])] 1:=by
 unfold q47 at a;refine Kq Tryz.func161 J qg qg J<|qc<|qa J<|qu<|U J<|U J<|U J<|U J<|q8 a fun b m a=>Kc [(0,0)] [(0,0)] _ (.d (.tup [qb b.1,qb b.2.1])) 1 [(0,.dat 1 [[qb b.2.2]])] 1 (qfx f h j l b m)<|U J<|O _ J<|O _ J<|qa J<|qa J<|qu<|U J<|U J<|U J<|U J<|q8 a fun c n a=>Kc [(0,0)] [(0,0)] _ (.d (.tup [qb c.1,qb c.2.1])) 1 [(0,.dat 1 [[qb c.2.2]])] 1 (qfx f b.2.1 k b.2.2 c n)<|U J<|O _ J<|O _ J<|qa J<|qa J<|qu<|U J<|U J<|U J<|U J<|q8 a fun g o a=>Kc [(0,0)] [(0,0)] _ (.d (.tup [qb g.1,qb g.2.1])) 1 [(0,.dat 1 [[qb g.2.2]])] 1 (qfx f b.1 c.1 c.2.2 g o)<|U J<|O _ J<|O _ J<|qa J<|qa J<|qu ?_;refine U J<|qa J<|qq ?_;obtain rfl:=qt a;exact ⟨.inr J,_,J,wkA [] [] []⟩
theorem qfv (c : List Int) (a : Int) (f : Int) (r : Int × Int) (b : q2t  c a f = some r) : K9 Tryz.prog tab 160 [.d (.sl 1 (c.map (eI .i64))),q7 a,.ref 0 1 0 0] [(0,.dat 1 [[qb f]])] 1 (q7 r.1) [(0,.dat 1 [[qb r.2]])] 1:=by
 unfold q2t at b;refine Kq Tryz.func160 J qg qg J<|qc<|qa J<|qu<|U J<|U J<|O _ J<|U J<|U J<|O _ J<|U J<|q8 b fun g h b=>Kc [(0,0)] [(0,0)] _ (q7 g.1) 1 [(0,.dat 1 [[qb g.2]])] 1 (qlx c (w64 (a - 1)) a (w64 (a + 1)) f g h)<|qa J<|qq ?_;obtain rfl:=qt b;exact ⟨.inr J,_,J,wkA [] [] []⟩
theorem qx5 (h : List Int) (g : Int) (j : Int) (r : Int × Int) (a : q62 h g j = some r) : Pure Tryz.prog tab 140 [.sl 1 (h.map (eI .i64)),qb g,qb j] (.tup [qb r.1,qb r.2]):=by
 unfold q62 at a;refine Qn Tryz.func140 J qg qg J<|qc<|qa J<|qa J<|qu<|U J<|U J<|O _ J<|qa J<|qu<|Qs J J<|qu<|U J<|U J<|O _ J<|O _ J<|O _ J<|qa J<|qu<|U J<|U J<|O _ J<|O _ J<|O _ J<|qa J<|qu<|U J<|U J<|O _ J<|O _ J<|O _ J<|qa J<|q9<|qf<|qc<|U J<|O _ J<|q9<|q8 a fun p f a=>?_;refine Z4 (fun k=>k = p) (fun k=>⟨[(9,.ref 0 1 0 0),(11,q7 k.1)],[(0,.dat 1 [[qb k.2]])],1⟩) qe ?_ ?_
 ·refine qo J f (fun _ f=>?_) (fun _ f=>?_)
  ·refine qf<|qc<|U J<|O _ J<|q9<|q8 f fun q b f=>?_;refine Z4 (fun c=>c = q) (fun c=>⟨[(0,.d (.sl 1 (h.map (eI .i64)))),(9,.ref 0 1 0 0),(10,q7 c.1),(11,q7 c.2.1),(12,q7 c.2.2.1)],[(0,.dat 1 [[qb c.2.2.2]])],1⟩) qe ?_ ?_
   ·refine qo J b (fun _ b=>?_) (fun _ b=>?_)
    ·refine qc<|U J<|U J<|q8 b fun l s b=>Kc [(0,0)] [(0,0)] _ (q7 l.1) 1 [(0,.dat 1 [[qb l.2]])] 1 (qfv h (w64 (g + (w64 ((w64 (Int.tdiv (w64 (j - g)) 4)) * 1)))) 0 l s)<|qa J<|qu<|U J<|U J<|q8 b fun m t b=>Kc [(0,0)] [(0,0)] _ (q7 m.1) 1 [(0,.dat 1 [[qb m.2]])] 1 (qfv h (w64 (g + (w64 ((w64 (Int.tdiv (w64 (j - g)) 4)) * 2)))) l.2 m t)<|qa J<|q9<|Q0<|U J<|U J<|q8 b fun n u b=>Kc [(0,0)] [(0,0)] _ (q7 n.1) 1 [(0,.dat 1 [[qb n.2]])] 1 (qfv h (w64 (g + (w64 ((w64 (Int.tdiv (w64 (j - g)) 4)) * 3)))) m.2 n u)<|qa J<|qz ?_;obtain rfl:=qt b;exact ⟨_,J,wkA [(0,0)] [] []⟩
    refine ql<|Qh ?_;obtain rfl:=qt b;exact ⟨_,J,wkA [(0,0)] [] []⟩
   intro c hb;subst hb;refine Q0<|U J<|U J<|U J<|U J<|q8 f fun o v f=>Kc [(0,0)] [(0,0)] _ (q7 o.1) 1 [(0,.dat 1 [[qb o.2]])] 1 (qlx h c.1 c.2.1 c.2.2.1 c.2.2.2 o v)<|qa J<|qz ?_;obtain rfl:=qt f;exact ⟨_,J,wkA [(0,0)] [] []⟩
  refine ql<|Qh ?_;obtain rfl:=qt f;exact ⟨_,J,wkA [(0,0)] [] []⟩
 intro k hb;subst hb;refine qc<|O _ J<|q9<|Q4<|qc<|O _ J<|qa J<|q9 ?_;refine qo J a (fun _ a=>?_) (fun _ a=>?_)
 ·refine qc<|U J<|qa J<|qa J<|qq ?_;cases a;exact Q6 _ J
 refine qc<|O _ J<|qa J<|q9 ?_;refine qo J a (fun _ a=>?_) (fun _ a=>?_)
 ·refine qc<|U J<|qa J<|qa J<|qq ?_;cases a;exact Q6 _ J
 refine qc<|U J<|qa J<|qa J<|qq ?_;cases a;exact Q6 _ J
theorem qxl (f : List Int) (g : Int) (h : Int) (r : List Int) (c : q6s  f g h = some r) : K9 Tryz.prog tab 141 [.hs 0 1 0 f.length,q7 g,q7 h] [(0,.dat 1 (f.map (eI .i64)))] 1 (.d (.tup [])) [(0,.dat 1 (r.map (eI .i64)))] 1:=by
 unfold q6s at c;refine Kq Tryz.func141 J qg qg J<|qc<|U J<|qa J<|qu<|U J<|O _ J<|qa J<|q9<|q8 c fun p q c=>Q4<|Qo (q9o) (fun b=>⟨[(0,.hs 0 1 0 b.2.2.length),(6,q7 b.1),(7,q7 b.2.1)],[(0,.dat 1 (b.2.2.map (eI .i64)))],1⟩) _ p q (wkA [] [] []) ?_;intro b s a;unfold q9o at a;refine qf<|qc<|U J<|U J<|O _ J<|q9 ?_;refine qo J a (fun _ a=>?_) (fun _ a=>?_)
 ·refine ql<|Q4<|qf<|Qj [Qp 0,q6,Qp 0,q6,qv 0,q6,q6,q6,qv 0,q6,q6,q6,q6,q6,q6,q6] qg<|U J<|U J<|U J<|U J<|U J<|U J<|q8 a fun j k a=>qy k J J<|Qc _ k J<|U J<|U J<|q8 a fun l m a=>qy m J J<|Qc _ m J<|q8 a fun t n a=>qy n J J<|K0 (ds:=[qb j]) j n J J J J J J J J (leb J) J<|q8 a fun u o a=>qy o qe J<|K0 (ds:=[qb l]) l o J J J J J J J J (leb J) J<|qu<|U J<|O _ J<|qa J<|q9<|Q0<|U J<|O _ J<|qa J<|qz<|Qm<|Qh<|⟨_,qr a,wkE [] [] [] J ⟨⟨_,J,K4 qe J qn (ltd J)⟩,qp J,qp J,trivial⟩ ⟨Qk J J,trivial⟩⟩
 refine Qf ?_;refine ⟨_,qr a,fun hm=>?_⟩;subst hm;obtain rfl:=qt c;exact ⟨.inl J,_,J,wkA [] [] []⟩
theorem qxb (u : List Int) (h : Int) (f : Int) (r : Bool × List Int) (n : q49  u h f = some r) : K9 Tryz.prog tab 142 [.hs 0 1 0 u.length,q7 h,q7 f] [(0,.dat 1 (u.map (eI .i64)))] 1 (Q3 r.1) [(0,.dat 1 (r.2.map (eI .i64)))] 1:=by
 unfold q49 at n;refine Kq Tryz.func142 J qg qg J<|qc<|qa J<|qu<|U J<|O _ J<|qa J<|q9<|qf<|qc<|qa J<|q9<|q8 n fun x bk n=>?_;refine Qt (fun q=>.inl q = x) (fun q=>⟨[],[(0,.dat 1 (q.map (eI .i64)))],1⟩) qe ?_ ?_
 ·refine Qo (q4a f h) (fun d=>⟨[(0,.hs 0 1 0 d.2.2.length),(1,q7 h),(2,q7 f),(7,q7 d.1),(8,q7 d.2.1)],[(0,.dat 1 (d.2.2.map (eI .i64)))],1⟩) _ x bk (wkA [] [] []) ?_;intro d cg j;unfold q4a at j;refine qf<|qc<|U J<|O _ J<|q9 ?_;refine qo J j (fun _ j=>?_) (fun _ j=>?_)
  ·refine ql<|qf<|q8 j fun bl a j=>?_;refine Qt (fun o=>.inl o = bl) (fun o=>⟨[(0,.hs 0 1 0 o.2.length),(1,q7 h),(2,q7 f),(7,q7 o.1),(8,q7 d.2.1)],[(0,.dat 1 (o.2.map (eI .i64)))],1⟩) qe ?_ ?_
   ·refine qf<|q8 a fun y bm a=>?_;refine Qt (fun k=>k = y) (fun k=>⟨[(0,.hs 0 1 0 d.2.2.length),(1,q7 h),(2,q7 f),(7,q7 k),(8,q7 d.2.1)],[(0,.dat 1 (d.2.2.map (eI .i64)))],1⟩) qe ?_ ?_
    ·refine Qo (q6c f d) (fun z=>⟨[(0,.hs 0 1 0 d.2.2.length),(1,q7 h),(2,q7 f),(7,q7 z),(8,q7 d.2.1)],[(0,.dat 1 (d.2.2.map (eI .i64)))],1⟩) _ y bm (wkA [] [] []) ?_;intro z ch l;unfold q6c at l;refine qf<|qf<|Qj [q6,q6,q6,qv 0,q6,q6,q6,q6,qv 0,q6,q6,q6,q6,q6,q6,q6] qg<|U J<|U J<|O _ J<|q8 l fun bn g l=>?_;refine Qg 13 (fun A st=>∃ aa ab ac ad ae af ag ah ai aj ak al,st = A [(32,Q3 bn),(31,al),(30,ak),(29,aj),(28,ai),(27,ah),(26,ag),(25,af),(24,ae),(23,ad),(22,ac),(21,ab),(20,aa)]) ?_ ?_
     ·refine Qe J J g (fun g=>?_) (fun g=>?_)
      ·refine U J<|U J<|q8 g fun bo am g=>qy am J J<|Qc _ am J<|U J<|U J<|O _ J<|q8 g fun bp an g=>qy an J J<|Qc _ an J<|q8 g fun bq br g=>Qd (Zx bo bp bq br) J<|O _ J<|O _ J<|q9 ?_;cases g;exact ⟨_,_,_,_,_,_,_,_,_,_,_,_,J⟩
      refine qd J<|qd J<|qd J<|qd J<|qd J<|qd J<|qd J<|qd J<|qd J<|qd J<|qd J<|O _ J<|q9 ?_;cases g;exact ⟨_,_,_,_,_,_,_,_,_,_,_,_,J⟩
     rintro _ ⟨aa,ab,ac,ad,ae,af,ag,ah,ai,aj,ak,al,rfl⟩;refine q9 ?_;refine qo J l (fun _ l=>?_) (fun _ l=>?_)
     ·refine ql<|Q4<|Q0<|U J<|O _ J<|qa J<|qz<|Qm<|Qh<|⟨_,qr l,wkA [] [] []⟩
     refine Qf ?_;refine ⟨_,qr l,fun hm=>?_⟩;subst hm;exact ⟨_,J,wkA [] [] []⟩
    intro k hb;subst hb;refine qf<|qc<|U J<|U J<|O _ J<|q9 ?_;refine qo J a (fun _ a=>?_) (fun _ a=>?_)
    ·refine qc<|qa J<|qq ?_;obtain rfl:=qt a;refine ⟨_,qr j,fun hm=>?_⟩;subst hm;obtain rfl:=qt n;exact ⟨.inr J,_,J,wkA [] [] []⟩
    refine ql<|qf<|qc<|U J<|U J<|O _ J<|O _ J<|q9 ?_;refine qo J a (fun _ a=>?_) (fun _ a=>?_)
    ·refine qc<|qa J<|qq ?_;obtain rfl:=qt a;refine ⟨_,qr j,fun hm=>?_⟩;subst hm;obtain rfl:=qt n;exact ⟨.inr J,_,J,wkA [] [] []⟩
    refine ql<|qf<|Qj [Qp 0,q6,Qp 0,q6,qv 0,q6,q6,q6,qv 0,q6,q6,q6,q6,q6,q6,q6,q6,q6] qg<|U J<|U J<|U J<|U J<|O _ J<|U J<|U J<|O _ J<|q8 a fun ao ap a=>qy ap J J<|Qc _ ap J<|U J<|U J<|q8 a fun aq ar a=>qy ar J J<|Qc _ ar J<|q8 a fun ci au a=>qy au J J<|K0 (ds:=[qb ao]) ao au J J J J J J J J (leb J) J<|q8 a fun cj av a=>qy av qe J<|K0 (ds:=[qb aq]) aq av J J J J J J J J (leb J) J<|q9<|qf<|qc<|U J<|U J<|O _ J<|O _ J<|q9<|q8 a fun bs m a=>?_;refine Z4 (fun p=>p = bs) (fun p=>⟨[(0,.hs 0 1 0 p.length),(1,q7 h),(2,q7 f),(7,q7 k),(8,q7 d.2.1)],[(0,.dat 1 (p.map (eI .i64)))],1⟩) qe ?_ ?_
    ·refine qo J m (fun _ m=>?_) (fun _ m=>?_)
     ·refine qc<|U J<|O _ J<|qa J<|q9<|q8 m fun bt bu m=>Q4<|Qo (q9b) (fun s=>⟨[(0,.hs 0 1 0 s.2.length),(1,q7 h),(2,q7 f),(7,q7 k),(8,q7 d.2.1),(9,q7 s.1)],[(0,.dat 1 (s.2.map (eI .i64)))],1⟩) _ bt bu (wkE [] [] [] J ⟨⟨_,J,K4 qe J qn (ltd J)⟩,qp J,qp J,qp J,qp J,qp J,trivial⟩ ⟨Qk J J,trivial⟩) ?_;intro s ck b;unfold q9b at b;refine qf<|qc<|U J<|O _ J<|q9 ?_;refine qo J b (fun _ b=>?_) (fun _ b=>?_)
      ·refine ql<|qf<|Q4<|qf<|qf<|Qj [q6,q6,qv 0,q6,q6,q6,q6,qv 0,q6,q6,q6] qg<|U J<|U J<|q8 b fun bv aw b=>qy aw J J<|Qc _ aw J<|U J<|U J<|O _ J<|q8 b fun bw ax b=>qy ax J J<|Qc _ ax J<|q8 b fun bx bz b=>Qd (Zx bv bw bx bz) J<|O _ J<|q9 ?_;refine qo J b (fun _ b=>?_) (fun _ b=>?_)
       ·refine Qf ?_;refine ⟨_,qr b,fun hm=>?_⟩;subst hm;obtain rfl:=qt m;exact ⟨_,J,wkA [] [] []⟩
       refine ql<|Qj [Qp 0,q6,Qp 0,q6,qv 0,q6,q6,q6,qv 0,q6,q6,q6,q6,q6,q6,q6,q6,q6] qg<|U J<|U J<|U J<|U J<|O _ J<|U J<|U J<|O _ J<|q8 b fun ay az b=>qy az J J<|Qc _ az J<|U J<|U J<|q8 b fun v ba b=>qy ba J J<|Qc (q7 v) ba J<|q8 b fun cl bb b=>qy bb J J<|K0 (ds:=[qb ay]) ay bb J J J J J J J J (leb J) J<|q8 b fun cm bc b=>qy bc qe J<|K0 (ds:=[qb v]) v bc J J J J J J J J (leb J) J<|qz<|Qm<|Q0<|U J<|O _ J<|qa J<|qz<|⟨_,qr b,wkE [] [] [] J ⟨⟨_,J,K4 qe J qn (ltd J)⟩,qp J,qp J,qp J,qp J,qp J,trivial⟩ ⟨Qk J J,trivial⟩⟩
      refine Qf ?_;refine ⟨_,qr b,fun hm=>?_⟩;subst hm;obtain rfl:=qt m;exact ⟨_,J,wkA [] [] []⟩
     refine ql<|Qh ?_;obtain rfl:=qt m;exact ⟨_,J,wkE [] [] [] J ⟨⟨_,J,K4 qe J qn (ltd J)⟩,qp J,qp J,qp J,qp J,trivial⟩ ⟨Qk J J,trivial⟩⟩
    intro p hb;subst hb;refine qc<|U J<|U J<|O _ J<|O _ J<|q9 ?_;refine qo J a (fun _ a=>?_) (fun _ a=>?_)
    ·refine qc<|U J<|O _ J<|qa J<|q9<|q8 a fun ca cb a=>Q4<|Qo (q6d f k) (fun t=>⟨[(0,.hs 0 1 0 t.2.length),(1,q7 h),(2,q7 f),(7,q7 k),(8,q7 d.2.1),(10,q7 t.1)],[(0,.dat 1 (t.2.map (eI .i64)))],1⟩) _ ca cb (wkA [] [] []) ?_;intro t cn c;unfold q6d at c;refine qf<|qc<|U J<|U J<|O _ J<|q9 ?_;refine qo J c (fun _ c=>?_) (fun _ c=>?_)
     ·refine ql<|qf<|Q4<|qf<|qf<|Qj [q6,q6,qv 0,q6,q6,q6,q6,qv 0,q6,q6,q6] qg<|U J<|U J<|q8 c fun cc bd c=>qy bd J J<|Qc _ bd J<|U J<|U J<|O _ J<|q8 c fun cd be c=>qy be J J<|Qc _ be J<|q8 c fun ce cf c=>Qd (Zx cc cd ce cf) J<|O _ J<|q9 ?_;refine qo J c (fun _ c=>?_) (fun _ c=>?_)
      ·refine Qf ?_;refine ⟨_,qr c,fun hm=>?_⟩;subst hm;obtain rfl:=qt a;exact ⟨_,J,wkA [] [] []⟩
      refine ql<|Qj [Qp 0,q6,Qp 0,q6,qv 0,q6,q6,q6,qv 0,q6,q6,q6,q6,q6,q6,q6,q6,q6] qg<|U J<|U J<|U J<|U J<|O _ J<|U J<|U J<|O _ J<|q8 c fun bf bg c=>qy bg J J<|Qc _ bg J<|U J<|U J<|q8 c fun w bh c=>qy bh J J<|Qc (q7 w) bh J<|q8 c fun co bi c=>qy bi J J<|K0 (ds:=[qb bf]) bf bi J J J J J J J J (leb J) J<|q8 c fun cp bj c=>qy bj qe J<|K0 (ds:=[qb w]) w bj J J J J J J J J (leb J) J<|qz<|Qm<|Q0<|U J<|O _ J<|qa J<|qz<|⟨_,qr c,wkE [] [] [] J ⟨⟨_,J,K4 qe J qn (ltd J)⟩,qp J,qp J,qp J,qp J,qp J,trivial⟩ ⟨Qk J J,trivial⟩⟩
     refine Qf ?_;refine ⟨_,qr c,fun hm=>?_⟩;subst hm;obtain rfl:=qt a;exact ⟨_,J,wkA [] [] []⟩
    refine ql<|Qh ?_;obtain rfl:=qt a;exact ⟨_,J,wkA [] [] []⟩
   intro o hb;subst hb;refine Q0<|U J<|O _ J<|qa J<|qz<|⟨_,qr j,wkA [] [] []⟩
  refine Qf ?_;refine ⟨_,qr j,fun hm=>?_⟩;subst hm;exact ⟨_,J,wkA [] [] []⟩
 intro q hb;subst hb;refine qc<|qa J<|qq ?_;obtain rfl:=qt n;exact ⟨.inr J,_,J,wkA [] [] []⟩
theorem qxe (n : List Int) (g : Int) (p : Int) (q : Int) (r : Int × List Int) (c : q6e  n g p q = some r) : K9 Tryz.prog tab 143 [.hs 0 1 0 n.length,q7 g,q7 p,q7 q] [(0,.dat 1 (n.map (eI .i64)))] 1 (q7 r.1) [(0,.dat 1 (r.2.map (eI .i64)))] 1:=by
 unfold q6e at c;refine Kq Tryz.func143 J qg qg J<|qc<|qa J<|q9<|qf<|Qj [Qp 0,q6,Qp 0,q6,qv 0,q6,q6,q6,qv 0,q6,q6,q6,q6,q6,q6,q6] qg<|U J<|U J<|U J<|U J<|U J<|U J<|q8 c fun s t c=>qy t J J<|Qc _ t J<|U J<|U J<|q8 c fun u v c=>qy v J J<|Qc _ v J<|q8 c fun bw w c=>qy w J J<|K0 (ds:=[qb s]) s w J J J J J J J J (leb J) J<|q8 c fun bx x c=>qy x qe J<|K0 (ds:=[qb u]) u x J J J J J J J J (leb J) J<|qu<|U J<|O _ J<|U J<|O _ J<|qa J<|qa J<|q9<|qf<|q8 c fun y bj c=>?_;refine Qt (fun l=>l = y) (fun l=>⟨[(9,q7 l.1)],[(0,.dat 1 (l.2.map (eI .i64)))],1⟩) qe ?_ ?_
 ·refine Qo (q6f g) (fun b=>⟨[(0,.hs 0 1 0 b.2.2.length),(1,q7 g),(9,q7 b.1),(10,q7 b.2.1)],[(0,.dat 1 (b.2.2.map (eI .i64)))],1⟩) _ y bj (wkE [] [] [] J ⟨⟨_,J,K4 qe J qn (ltd J)⟩,qp J,qp J,qp J,trivial⟩ ⟨Qk J J,trivial⟩) ?_;intro b bz a;unfold q6f at a;refine Q4<|qf<|q8 a fun z bk a=>?_;refine Qt (fun k=>k = z) (fun k=>⟨[(0,.hs 0 1 0 b.2.2.length),(1,q7 g),(9,q7 k),(10,q7 b.2.1)],[(0,.dat 1 (b.2.2.map (eI .i64)))],1⟩) qe ?_ ?_
  ·refine Qo (q6g b g) (fun aa=>⟨[(0,.hs 0 1 0 b.2.2.length),(1,q7 g),(9,q7 aa),(10,q7 b.2.1)],[(0,.dat 1 (b.2.2.map (eI .i64)))],1⟩) _ z bk (wkA [] [] []) ?_;intro aa ca h;unfold q6g at h;refine qf<|qf<|Qj [q6,q6,q6,qv 0,q6,q6,q6,qv 0,q6,q6,q6,q6,q6,q6,q6] qg<|U J<|U J<|O _ J<|q8 h fun bl d h=>?_;refine Qg 12 (fun A st=>∃ ab ac ad ae af ag ah ai aj ak al,st = A [(43,Q3 bl),(42,al),(41,ak),(40,aj),(39,ai),(38,ah),(37,ag),(36,af),(35,ae),(34,ad),(33,ac),(32,ab)]) ?_ ?_
   ·refine Qe J J d (fun d=>?_) (fun d=>?_)
    ·refine U J<|U J<|q8 d fun bm am d=>qy am J J<|Qc _ am J<|U J<|U J<|q8 d fun bn an d=>qy an J J<|Qc _ an J<|q8 d fun bo bp d=>Qd (Zx bm bn bo bp) J<|O _ J<|O _ J<|q9 ?_;cases d;exact ⟨_,_,_,_,_,_,_,_,_,_,_,J⟩
    refine qd J<|qd J<|qd J<|qd J<|qd J<|qd J<|qd J<|qd J<|qd J<|qd J<|O _ J<|q9 ?_;cases d;exact ⟨_,_,_,_,_,_,_,_,_,_,_,J⟩
   rintro _ ⟨ab,ac,ad,ae,af,ag,ah,ai,aj,ak,al,rfl⟩;refine q9 ?_;refine qo J h (fun _ h=>?_) (fun _ h=>?_)
   ·refine ql<|Q4<|Q0<|U J<|O _ J<|qa J<|qz<|Qm<|Qh<|⟨_,qr h,wkA [] [] []⟩
   refine Qf ?_;refine ⟨_,qr h,fun hm=>?_⟩;subst hm;exact ⟨_,J,wkA [] [] []⟩
  intro k hb;subst hb;refine qf<|q8 a fun ao bq a=>?_;refine Qt (fun m=>m = ao) (fun m=>⟨[(0,.hs 0 1 0 b.2.2.length),(1,q7 g),(9,q7 k),(10,q7 m)],[(0,.dat 1 (b.2.2.map (eI .i64)))],1⟩) qe ?_ ?_
  ·refine Qo (q6h k b g) (fun ap=>⟨[(0,.hs 0 1 0 b.2.2.length),(1,q7 g),(9,q7 k),(10,q7 ap)],[(0,.dat 1 (b.2.2.map (eI .i64)))],1⟩) _ ao bq (wkA [] [] []) ?_;intro ap cb j;unfold q6h at j;refine qf<|qf<|Qj [q6,q6,qv 0,q6,q6,q6,qv 0,q6,q6,q6,q6,q6,q6,q6] qg<|U J<|U J<|O _ J<|q8 j fun br f j=>?_;refine Qg 11 (fun A st=>∃ aq ar au av aw ax ay az ba bb,st = A [(59,Q3 br),(58,bb),(57,ba),(56,az),(55,ay),(54,ax),(53,aw),(52,av),(51,au),(50,ar),(49,aq)]) ?_ ?_
   ·refine Qe J J f (fun f=>?_) (fun f=>?_)
    ·refine U J<|U J<|q8 f fun bs bc f=>qy bc J J<|Qc _ bc J<|U J<|U J<|q8 f fun bt bd f=>qy bd J J<|Qc _ bd J<|q8 f fun bu bv f=>Qd (Zx bs bt bu bv) J<|O _ J<|q9 ?_;cases f;exact ⟨_,_,_,_,_,_,_,_,_,_,J⟩
    refine qd J<|qd J<|qd J<|qd J<|qd J<|qd J<|qd J<|qd J<|qd J<|O _ J<|q9 ?_;cases f;exact ⟨_,_,_,_,_,_,_,_,_,_,J⟩
   rintro _ ⟨aq,ar,au,av,aw,ax,ay,az,ba,bb,rfl⟩;refine q9 ?_;refine qo J j (fun _ j=>?_) (fun _ j=>?_)
   ·refine ql<|Q4<|Q0<|U J<|O _ J<|qa J<|qz<|Qm<|Qh<|⟨_,qr j,wkA [] [] []⟩
   refine Qf ?_;refine ⟨_,qr j,fun hm=>?_⟩;subst hm;exact ⟨_,J,wkA [] [] []⟩
  intro m hb;subst hb;refine qf<|qc<|U J<|U J<|O _ J<|q9 ?_;refine qo J a (fun _ a=>?_) (fun _ a=>?_)
  ·refine Qf ?_;refine ⟨_,qr a,fun hm=>?_⟩;subst hm;exact ⟨_,J,wkA [] [] []⟩
  refine ql<|qf<|Qj [Qp 0,q6,Qp 0,q6,qv 0,q6,q6,q6,qv 0,q6,q6,q6,q6,q6,q6,q6] qg<|U J<|U J<|U J<|U J<|U J<|U J<|q8 a fun be bf a=>qy bf J J<|Qc _ bf J<|U J<|U J<|q8 a fun o bg a=>qy bg J J<|Qc (q7 o) bg J<|q8 a fun cc bh a=>qy bh J J<|K0 (ds:=[qb be]) be bh J J J J J J J J (leb J) J<|q8 a fun cd bi a=>qy bi qe J<|K0 (ds:=[qb o]) o bi J J J J J J J J (leb J) J<|qu<|U J<|O _ J<|qa J<|q9<|Q0<|U J<|O _ J<|qa J<|qz<|Qm<|Qh<|⟨_,qr a,wkE [] [] [] J ⟨⟨_,J,K4 qe J qn (ltd J)⟩,qp J,qp J,qp J,trivial⟩ ⟨Qk J J,trivial⟩⟩
 intro l hb;subst hb;refine qc<|U J<|qa J<|qq ?_;obtain rfl:=qt c;exact ⟨.inr J,_,J,wkA [] [] []⟩
theorem qxf (g : List Int) (b : Int) (s : Int) (k : Int) (r : Int × Bool × List Int) (a : q6i  g b s k = some r) : K9 Tryz.prog tab 144 [.hs 0 1 0 g.length,q7 b,q7 s,q7 k] [(0,.dat 1 (g.map (eI .i64)))] 1 (.d (.tup [qb r.1,.bool r.2.1])) [(0,.dat 1 (r.2.2.map (eI .i64)))] 1:=by
 unfold q6i at a;refine Kq Tryz.func144 J qg qg J<|qc<|qa J<|qa J<|q9<|qf<|Qj [Qp 0,q6,Qp 0,q6,qv 0,q6,q6,q6,qv 0,q6,q6,q6,q6,q6,q6,q6] qg<|U J<|U J<|U J<|U J<|U J<|U J<|q8 a fun h ao a=>qy ao J J<|Qc (q7 h) ao J<|U J<|U J<|q8 a fun j ap a=>qy ap J J<|Qc (q7 j) ap J<|q8 a fun fq aq a=>qy aq J J<|K0 (ds:=[qb h]) h aq J J J J J J J J (leb J) J<|q8 a fun fr ar a=>qy ar qe J<|K0 (ds:=[qb j]) j ar J J J J J J J J (leb J) J<|qu<|U J<|O (.d (qb (w64 (b + 1)))) J<|U J<|O (.d (qb (w64 (s - 1)))) J<|qa J<|qa J<|q9<|qf<|q8 a fun au fc a=>?_;refine Qt (fun l=>l = au) (fun (l : Int)=>⟨[(0,.hs 0 1 0 ((g.set b.toNat h).set k.toNat j).length),(1,q7 b),(10,q7 l),(11,.d (qb (w64 (s - 1))))],[(0,.dat 1 (((g.set b.toNat h).set k.toNat j).map (eI .i64)))],1⟩) qe ?_ ?_
 ·refine Qo (q6j s g b h k j) (fun (aa : Int)=>⟨[(0,.hs 0 1 0 ((g.set b.toNat h).set k.toNat j).length),(1,q7 b),(10,q7 aa),(11,.d (qb (w64 (s - 1))))],[(0,.dat 1 (((g.set b.toNat h).set k.toNat j).map (eI .i64)))],1⟩) (w64 (b + 1)) au fc (wkE [] [] [] J ⟨⟨_,J,K4 qe J qn (ltd J)⟩,qp J,qp J,qp J,trivial⟩ ⟨Qk J J,trivial⟩) ?_;intro aa fs t;unfold q6j at t;refine qf<|qf<|Qj [q6,q6,qv 0,q6,q6,q6,qv 0,q6,q6,q6,q6,q6,q6,q6] qg<|U J<|U J<|O (.d (.bool (decide (aa≤(w64 (s - 1)))))) J<|q8 t fun fd m t=>?_;refine Qg 11 (fun A st=>∃ (av aw ax ay az ba bb bc bd be : V),st = A [(43,Q3 fd),(42,be),(41,bd),(40,bc),(39,bb),(38,ba),(37,az),(36,ay),(35,ax),(34,aw),(33,av)]) ?_ ?_
  ·refine Qe J J m (fun m=>?_) (fun m=>?_)
   ·refine U J<|U J<|q8 m fun bf bg m=>qy bg J J<|Qc (q7 bf) bg J<|U J<|U J<|q8 m fun bh bi m=>qy bi J J<|Qc (q7 bh) bi J<|q8 m fun bj fe m=>Qd (Zx bf bh bj fe) J<|O (Q3 bj) J<|q9 ?_;cases m;exact ⟨_,_,_,_,_,_,_,_,_,_,J⟩
   refine qd J<|qd J<|qd J<|qd J<|qd J<|qd J<|qd J<|qd J<|qd J<|O (Q3 false) J<|q9 ?_;cases m;exact ⟨_,_,_,_,_,_,_,_,_,_,J⟩
  rintro _ ⟨av,aw,ax,ay,az,ba,bb,bc,bd,be,rfl⟩;refine q9 ?_;refine qo J t (fun _ t=>?_) (fun _ t=>?_)
  ·refine ql<|Q4<|Q0<|U J<|O (.d (qb (w64 (aa + 1)))) J<|qa J<|qz<|Qm<|Qh<|⟨_,qr t,wkA [] [] []⟩
  refine Qf ?_;refine ⟨_,qr t,fun hm=>?_⟩;subst hm;exact ⟨_,J,wkA [] [] []⟩
 intro l hb;subst hb;refine qf<|q8 a fun bk ff a=>?_;refine Qt (fun u=>u = bk) (fun (u : Int)=>⟨[(0,.hs 0 1 0 ((g.set b.toNat h).set k.toNat j).length),(1,q7 b),(10,q7 l),(11,q7 u)],[(0,.dat 1 (((g.set b.toNat h).set k.toNat j).map (eI .i64)))],1⟩) qe ?_ ?_
 ·refine Qo (q6k l g b h k j) (fun (ab : Int)=>⟨[(0,.hs 0 1 0 ((g.set b.toNat h).set k.toNat j).length),(1,q7 b),(10,q7 l),(11,q7 ab)],[(0,.dat 1 (((g.set b.toNat h).set k.toNat j).map (eI .i64)))],1⟩) (w64 (s - 1)) bk ff (wkA [] [] []) ?_;intro ab ft v;unfold q6k at v;refine qf<|qf<|Qj [q6,q6,q6,qv 0,q6,q6,q6,qv 0,q6,q6,q6,q6,q6,q6,q6] qg<|U J<|U J<|O (.d (.bool (decide (l≤ab)))) J<|q8 v fun fg n v=>?_;refine Qg 12 (fun A st=>∃ (bl bm bn bo bp bq br bs bt bu bv : V),st = A [(60,Q3 fg),(59,bv),(58,bu),(57,bt),(56,bs),(55,br),(54,bq),(53,bp),(52,bo),(51,bn),(50,bm),(49,bl)]) ?_ ?_
  ·refine Qe J J n (fun n=>?_) (fun n=>?_)
   ·refine U J<|U J<|q8 n fun bw bx n=>qy bx J J<|Qc (q7 bw) bx J<|U J<|U J<|q8 n fun bz ca n=>qy ca J J<|Qc (q7 bz) ca J<|q8 n fun ag fh n=>Qd (Zx bw bz ag fh) J<|O (Q3 (!ag)) J<|O (Q3 (!ag)) J<|q9 ?_;cases n;exact ⟨_,_,_,_,_,_,_,_,_,_,_,J⟩
   refine qd J<|qd J<|qd J<|qd J<|qd J<|qd J<|qd J<|qd J<|qd J<|qd J<|O (Q3 false) J<|q9 ?_;cases n;exact ⟨_,_,_,_,_,_,_,_,_,_,_,J⟩
  rintro _ ⟨bl,bm,bn,bo,bp,bq,br,bs,bt,bu,bv,rfl⟩;refine q9 ?_;refine qo J v (fun _ v=>?_) (fun _ v=>?_)
  ·refine ql<|Q4<|Q0<|U J<|O (.d (qb (w64 (ab - 1)))) J<|qa J<|qz<|Qm<|Qh<|⟨_,qr v,wkA [] [] []⟩
  refine Qf ?_;refine ⟨_,qr v,fun hm=>?_⟩;subst hm;exact ⟨_,J,wkA [] [] []⟩
 intro u hb;subst hb;refine qf<|qc<|U J<|U J<|O (.d (.bool (decide (l > u)))) J<|q9 ?_;refine qo J a (fun _ a=>?_) (fun _ a=>?_)
 ·refine qf<|Qj [Qp 0,q6,Qp 0,q6,qv 0,q6,q6,q6,qv 0,q6,q6,q6,q6,q6,q6,q6] qg<|U J<|U J<|U J<|U J<|U J<|U J<|q8 a fun ah cb a=>qy cb J J<|Qc (q7 ah) cb J<|U J<|U J<|q8 a fun ai cc a=>qy cc J J<|Qc (q7 ai) cc J<|q8 a fun fu cd a=>qy cd J J<|K0 (ds:=[qb ah]) ah cd J J J J J J J J (leb J) J<|q8 a fun fv ce a=>qy ce qe J<|K0 (ds:=[qb ai]) ai ce J J J J J J J J (leb J) J<|qu<|U J<|qa J<|qa J<|qq ?_;obtain rfl:=qt a;exact ⟨.inr J,_,J,wkA [] [] []⟩
 refine ql<|qf<|Qj [Qp 0,q6,Qp 0,q6,qv 0,q6,q6,q6,qv 0,q6,q6,q6,q6,q6,q6,q6] qg<|U J<|U J<|U J<|U J<|U J<|U J<|q8 a fun ac cf a=>qy cf J J<|Qc (q7 ac) cf J<|U J<|U J<|q8 a fun ad cg a=>qy cg J J<|Qc (q7 ad) cg J<|q8 a fun fw ch a=>qy ch J J<|K0 (ds:=[qb ac]) ac ch J J J J J J J J (leb J) J<|q8 a fun fx ci a=>qy ci qe J<|K0 (ds:=[qb ad]) ad ci J J J J J J J J (leb J) J<|qu<|U J<|O (.d (qb (w64 (l + 1)))) J<|qa J<|qu<|U J<|O (.d (qb (w64 (u - 1)))) J<|qa J<|q9<|qf<|q8 a fun cj fi a=>?_;refine Qt (fun y=>y = cj) (fun (y : Int × List Int)=>⟨[(0,.hs 0 1 0 y.2.length),(1,q7 b),(11,q7 y.1)],[(0,.dat 1 (y.2.map (eI .i64)))],1⟩) qe ?_ ?_
 ·refine Qo (q6l b) (fun (c : Int × Int × List Int)=>⟨[(0,.hs 0 1 0 c.2.2.length),(1,q7 b),(10,q7 c.1),(11,q7 c.2.1)],[(0,.dat 1 (c.2.2.map (eI .i64)))],1⟩) (w64 (l + 1),w64 (u - 1),(((g.set b.toNat h).set k.toNat j).set l.toNat ac).set u.toNat ad) cj fi (wkE [] [] [] J ⟨⟨_,J,K4 qe J qn (ltd J)⟩,qp J,qp J,qp J,trivial⟩ ⟨Qk J J,trivial⟩) ?_;intro c fy f;unfold q6l at f;refine Q4<|qf<|q8 f fun ck fj f=>?_;refine Qt (fun q=>q = ck) (fun (q : Int)=>⟨[(0,.hs 0 1 0 c.2.2.length),(1,q7 b),(10,q7 q),(11,q7 c.2.1)],[(0,.dat 1 (c.2.2.map (eI .i64)))],1⟩) qe ?_ ?_
  ·refine Qo (q6m c b) (fun (ae : Int)=>⟨[(0,.hs 0 1 0 c.2.2.length),(1,q7 b),(10,q7 ae),(11,q7 c.2.1)],[(0,.dat 1 (c.2.2.map (eI .i64)))],1⟩) c.1 ck fj (wkA [] [] []) ?_;intro ae fz w;unfold q6m at w;refine qf<|qf<|Qj [q6,q6,qv 0,q6,q6,q6,qv 0,q6,q6,q6,q6,q6,q6,q6] qg<|U J<|U J<|O (.d (.bool (decide (ae≤c.2.1)))) J<|q8 w fun fk o w=>?_;refine Qg 11 (fun A st=>∃ (cl cm cn co cp cq cr cs ct cu : V),st = A [(112,Q3 fk),(111,cu),(110,ct),(109,cs),(108,cr),(107,cq),(106,cp),(105,co),(104,cn),(103,cm),(102,cl)]) ?_ ?_
   ·refine Qe J J o (fun o=>?_) (fun o=>?_)
    ·refine U J<|U J<|q8 o fun cv cw o=>qy cw J J<|Qc (q7 cv) cw J<|U J<|U J<|q8 o fun cx cy o=>qy cy J J<|Qc (q7 cx) cy J<|q8 o fun cz fl o=>Qd (Zx cv cx cz fl) J<|O (Q3 cz) J<|q9 ?_;cases o;exact ⟨_,_,_,_,_,_,_,_,_,_,J⟩
    refine qd J<|qd J<|qd J<|qd J<|qd J<|qd J<|qd J<|qd J<|qd J<|O (Q3 false) J<|q9 ?_;cases o;exact ⟨_,_,_,_,_,_,_,_,_,_,J⟩
   rintro _ ⟨cl,cm,cn,co,cp,cq,cr,cs,ct,cu,rfl⟩;refine q9 ?_;refine qo J w (fun _ w=>?_) (fun _ w=>?_)
   ·refine ql<|Q4<|Q0<|U J<|O (.d (qb (w64 (ae + 1)))) J<|qa J<|qz<|Qm<|Qh<|⟨_,qr w,wkA [] [] []⟩
   refine Qf ?_;refine ⟨_,qr w,fun hm=>?_⟩;subst hm;exact ⟨_,J,wkA [] [] []⟩
  intro q hb;subst hb;refine qf<|q8 f fun da fm f=>?_;refine Qt (fun z=>z = da) (fun (z : Int)=>⟨[(0,.hs 0 1 0 c.2.2.length),(1,q7 b),(10,q7 q),(11,q7 z)],[(0,.dat 1 (c.2.2.map (eI .i64)))],1⟩) qe ?_ ?_
  ·refine Qo (q6n q c b) (fun (af : Int)=>⟨[(0,.hs 0 1 0 c.2.2.length),(1,q7 b),(10,q7 q),(11,q7 af)],[(0,.dat 1 (c.2.2.map (eI .i64)))],1⟩) c.2.1 da fm (wkA [] [] []) ?_;intro af ga x;unfold q6n at x;refine qf<|qf<|Qj [q6,q6,q6,qv 0,q6,q6,q6,qv 0,q6,q6,q6,q6,q6,q6,q6] qg<|U J<|U J<|O (.d (.bool (decide (q≤af)))) J<|q8 x fun fn p x=>?_;refine Qg 12 (fun A st=>∃ (dc dd de df dg dh dj dk dl dm dn : V),st = A [(129,Q3 fn),(128,dn),(127,dm),(126,dl),(125,dk),(124,dj),(123,dh),(122,dg),(121,df),(120,de),(119,dd),(118,dc)]) ?_ ?_
   ·refine Qe J J p (fun p=>?_) (fun p=>?_)
    ·refine U J<|U J<|q8 p fun dp dq p=>qy dq J J<|Qc (q7 dp) dq J<|U J<|U J<|q8 p fun dr dt p=>qy dt J J<|Qc (q7 dr) dt J<|q8 p fun aj fo p=>Qd (Zx dp dr aj fo) J<|O (Q3 (!aj)) J<|O (Q3 (!aj)) J<|q9 ?_;cases p;exact ⟨_,_,_,_,_,_,_,_,_,_,_,J⟩
    refine qd J<|qd J<|qd J<|qd J<|qd J<|qd J<|qd J<|qd J<|qd J<|qd J<|O (Q3 false) J<|q9 ?_;cases p;exact ⟨_,_,_,_,_,_,_,_,_,_,_,J⟩
   rintro _ ⟨dc,dd,de,df,dg,dh,dj,dk,dl,dm,dn,rfl⟩;refine q9 ?_;refine qo J x (fun _ x=>?_) (fun _ x=>?_)
   ·refine ql<|Q4<|Q0<|U J<|O (.d (qb (w64 (af - 1)))) J<|qa J<|qz<|Qm<|Qh<|⟨_,qr x,wkA [] [] []⟩
   refine Qf ?_;refine ⟨_,qr x,fun hm=>?_⟩;subst hm;exact ⟨_,J,wkA [] [] []⟩
  intro z hb;subst hb;refine qf<|qc<|U J<|U J<|O (.d (.bool (decide (q > z)))) J<|q9 ?_;refine qo J f (fun _ f=>?_) (fun _ f=>?_)
  ·refine Qf ?_;refine ⟨_,qr f,fun hm=>?_⟩;subst hm;exact ⟨_,J,wkA [] [] []⟩
  refine ql<|qf<|Qj [Qp 0,q6,Qp 0,q6,qv 0,q6,q6,q6,qv 0,q6,q6,q6,q6,q6,q6,q6] qg<|U J<|U J<|U J<|U J<|U J<|U J<|q8 f fun ak du f=>qy du J J<|Qc (q7 ak) du J<|U J<|U J<|q8 f fun al dv f=>qy dv J J<|Qc (q7 al) dv J<|q8 f fun gb dw f=>qy dw J J<|K0 (ds:=[qb ak]) ak dw J J J J J J J J (leb J) J<|q8 f fun gc dx f=>qy dx qe J<|K0 (ds:=[qb al]) al dx J J J J J J J J (leb J) J<|qu<|U J<|O (.d (qb (w64 (q + 1)))) J<|qa J<|q9<|Q0<|U J<|O (.d (qb (w64 (z - 1)))) J<|qa J<|qz<|Qm<|Qh<|⟨_,qr f,wkE [] [] [] J ⟨⟨_,J,K4 qe J qn (ltd J)⟩,qp J,qp J,qp J,trivial⟩ ⟨Qk J J,trivial⟩⟩
 intro y hb;subst hb;refine qf<|Qj [Qp 0,q6,Qp 0,q6,qv 0,q6,q6,q6,qv 0,q6,q6,q6,q6,q6,q6,q6] qg<|U J<|U J<|U J<|U J<|U J<|U J<|q8 a fun am dy a=>qy dy J J<|Qc (q7 am) dy J<|U J<|U J<|q8 a fun an dz a=>qy dz J J<|Qc (q7 an) dz J<|q8 a fun gd fa a=>qy fa J J<|K0 (ds:=[qb am]) am fa J J J J J J J J (leb J) J<|q8 a fun ge fb a=>qy fb qe J<|K0 (ds:=[qb an]) an fb J J J J J J J J (leb J) J<|qu<|U J<|qa J<|qa J<|qq ?_;obtain rfl:=qt a;exact ⟨.inr J,_,J,wkA [] [] []⟩
theorem qly (b : Int) (r : Int) (a : q1o b = some r) : Pure Tryz.prog tab 158 [qb b] (.int .u64 r):=by
 unfold q1o at a;refine Qn Tryz.func158 J qg qg J<|qc<|qa J<|qu<|U J<|O _ J<|q8 a fun c d a=>Qd (qeq (IntKind.wrap .u64 b) c d) J<|q8 a fun g f a=>qsh f J J J<|qa J<|qq ?_;cases a;exact Q6 _ J
theorem qm1 (a : Int) (r : Int) (b : q1p  a = some r) : K9 Tryz.prog tab 159 [.ref 0 1 0 0] [(0,.dat 1 [[.int .u64 a]])] 1 (.d (.int .u64 r)) [(0,.dat 1 [[.int .u64 r]])] 1:=by
 unfold q1p at b;refine Kq Tryz.func159 J qg qg J<|qc<|qa J<|q9<|qf<|Qj [Qp 0,q6,q6,q6,qv 0,q6,q6,qv 0,q6,q6] qg<|U J<|O _ J<|O _ J<|U J<|O _ J<|O _ J<|O _ J<|O _ J<|O _ J<|Q7 0 _ J<|q9<|qf<|Qj [Qp 0,q6,q6,q6,qv 0,q6,q6,qv 0,q6,q6] qg<|U J<|O _ J<|O _ J<|U J<|O _ J<|O _ J<|O _ J<|O _ J<|O _ J<|Q7 0 _ J<|q9<|qf<|Qj [Qp 0,q6,q6,q6,qv 0,q6,q6,qv 0,q6,q6] qg<|U J<|O _ J<|O _ J<|U J<|O _ J<|O _ J<|O _ J<|O _ J ?_;refine O _ J<|Q7 0 _ J<|qu<|U J<|O _ J<|O _ J<|qa J<|qq ?_;obtain rfl:=qt b;exact ⟨.inr J,_,J,wkA [] [] []⟩
theorem qx3 (m : List Int) (f : Int) (g : Int) (r : List Int) (b : q60  m f g = some r) : K9 Tryz.prog tab 139 [.hs 0 1 0 m.length,q7 f,q7 g] [(0,.dat 1 (m.map (eI .i64)))] 1 (.d (.tup [])) [(0,.dat 1 (r.map (eI .i64)))] 1:=by
 unfold q60 at b;refine Kq Tryz.func139 J qg qg J<|qc<|U J<|U J<|O _ J<|qa J<|qu<|U J<|O _ J<|q9 ?_;refine qo J b (fun _ b=>?_) (fun _ b=>?_)
 ·refine qc<|U J<|O _ J<|Qs J J<|Q7 1 _ J<|qu<|U J<|q8 b fun j u b=>Qd (qly (w64 (g - f)) j u) J<|qa J<|qu<|U J<|U J<|O _ J<|O _ J<|O _ J<|O _ J<|qa J<|q9<|q8 b fun v w b=>Q4<|Qo (q61 f g j) (fun c=>⟨[(0,.hs 0 1 0 c.2.1.length),(1,q7 f),(6,.d (qb (w64 (g - f)))),(7,.ref 1 1 0 0),(8,.d (.int .u64 j)),(9,q7 c.1)],[(0,.dat 1 (c.2.1.map (eI .i64))),(1,.dat 1 [[.int .u64 c.2.2]])],2⟩) _ v w (wkA [(1,1)] [] []) ?_;intro c z a;unfold q61 at a;refine qf<|qc<|U J<|U J<|U J<|O _ J<|O _ J<|O _ J<|O _ J<|O _ J<|q9 ?_;refine qo J a (fun _ a=>?_) (fun _ a=>?_)
  ·refine ql<|qf<|Q4<|qc<|q8 a fun k x a=>Kc [(0,1)] [(0,1),(1,0)] _ (.d (.int .u64 k)) 1 [(1,.dat 1 [[.int .u64 k]]),(0,.dat 1 (c.2.1.map (eI .i64)))] 2 (qm1 c.2.2 k x)<|U J<|O _ J<|O _ J<|O _ J<|qa J<|q9<|qf<|qc<|U J<|U J<|O _ J<|q9<|q8 a fun y h a=>?_;refine Z4 (fun l=>l = y) (fun l=>⟨[(0,.hs 0 1 0 c.2.1.length),(1,q7 f),(6,.d (qb (w64 (g - f)))),(7,.ref 1 1 0 0),(8,.d (.int .u64 j)),(9,q7 c.1),(10,q7 l)],[(0,.dat 1 (c.2.1.map (eI .i64))),(1,.dat 1 [[.int .u64 k]])],2⟩) qe ?_ ?_
   ·refine qo J h (fun _ h=>?_) (fun _ h=>?_)
    ·refine Q0<|U J<|U J<|O _ J<|qa J<|qz ?_;obtain rfl:=qt h;exact ⟨_,J,wkA [(1,1)] [] []⟩
    refine ql<|Qh ?_;obtain rfl:=qt h;exact ⟨_,J,wkA [(1,1)] [] []⟩
   intro l hb;subst hb;refine Qj [Qp 0,q6,Qp 0,q6,qv 0,q6,q6,q6,qv 0,q6,q6,q6,q6,q6,q6,q6,q6,q6,q6,q6] qg<|U J<|U J<|U J<|U J<|U J<|O _ J<|U J<|U J<|U J<|O _ J<|q8 a fun n o a=>qy o J J<|Qc _ o J<|U J<|U J<|q8 a fun p q a=>qy q J J<|Qc _ q J<|q8 a fun aa s a=>qy s J J<|K0 (ds:=[qb n]) n s J J J J J J J J (leb J) J<|q8 a fun ab t a=>qy t qe J<|K0 (ds:=[qb p]) p t J J J J J J J J (leb J) J<|qz<|Qm<|Q0<|U J<|O _ J<|qa J<|qz<|⟨_,qr a,wkE [(1,1)] [] [] J ⟨⟨_,J,K4 qe J qn (ltd J)⟩,qp J,qp J,⟨_,J,.ref J qn (ltd J)⟩,qp J,qp J,trivial⟩ ⟨Qk J J,Qk J J,trivial⟩⟩
  refine Qf ?_;refine ⟨_,qr a,fun hm=>?_⟩;subst hm;obtain rfl:=qt b;exact ⟨.inl J,_,J,wkA [] [] []⟩
 refine ql<|Qh ?_;obtain rfl:=qt b;exact ⟨.inl J,_,J,wkA [] [] []⟩
theorem qxi (rec : List Int→Int→Int→Int→Option (List Int)) (hrec : ∀ (n : List Int) (p : Int) (q : Int) (s : Int) (r : List Int),rec n p q s = some r→K9 Tryz.prog tab 111 [.hs 0 1 0 n.length,q7 p,q7 q,q7 s] [(0,.dat 1 (n.map (eI .i64)))] 1 (.d (.tup [])) [(0,.dat 1 (r.map (eI .i64)))] 1) (n : List Int) (p : Int) (q : Int) (s : Int) (r : List Int) (o : q4c rec  n p q s = some r) : K9 Tryz.prog tab 111 [.hs 0 1 0 n.length,q7 p,q7 q,q7 s] [(0,.dat 1 (n.map (eI .i64)))] 1 (.d (.tup [])) [(0,.dat 1 (r.map (eI .i64)))] 1:=by
 unfold q4c at o;refine Kq Tryz.func111 J qg qg J<|qc<|qa J<|qu<|qa J<|q9<|q8 o fun az ba o=>Q4<|Qo (q4b rec) (fun b=>⟨[(0,.hs 0 1 0 b.2.2.2.2.2.length),(1,q7 b.1),(2,q7 b.2.1),(3,q7 b.2.2.1),(8,Q3 b.2.2.2.1),(9,Q3 b.2.2.2.2.1)],[(0,.dat 1 (b.2.2.2.2.2.map (eI .i64)))],1⟩) _ az ba (wkA [] [] []) ?_;intro b cm a;unfold q4b at a;refine Q4<|qc<|U J<|U J<|O _ J<|qa J<|q9<|qf<|qc<|U J<|O _ J<|q9 ?_;refine qo J a (fun _ a=>?_) (fun _ a=>?_)
 ·refine qc<|U J<|U J<|U J<|q8 a fun aa bb a=>q8 a fun cn bc a=>?_;have co:=Km bc;refine Kc [(0,0)] [(0,0)] _ (.d (.tup [])) 1 [(0,.dat 1 (aa.map (eI .i64)))] 1 (qx9 b.2.2.2.2.2 b.1 b.2.1 aa bb)<|qq ?_;refine ⟨_,qr a,fun hm=>?_⟩;subst hm;obtain rfl:=qt o;exact ⟨.inr J,_,J,wkA [] [] []⟩
 refine ql<|qf<|qc<|U J<|O _ J<|q9 ?_;refine qo J a (fun _ a=>?_) (fun _ a=>?_)
 ·refine qc<|U J<|U J<|U J<|q8 a fun ab bd a=>q8 a fun cp be a=>?_;have cq:=Km be;refine Kc [(0,0)] [(0,0)] _ (.d (.tup [])) 1 [(0,.dat 1 (ab.map (eI .i64)))] 1 (qx7 b.2.2.2.2.2 b.1 b.2.1 ab bd)<|qq ?_;refine ⟨_,qr a,fun hm=>?_⟩;subst hm;obtain rfl:=qt o;exact ⟨.inr J,_,J,wkA [] [] []⟩
 refine ql<|qf<|qc<|U J<|O _ J<|q9<|q8 a fun bf k a=>?_;refine Z4 (fun c=>c = bf) (fun c=>⟨[(0,.hs 0 1 0 c.2.length),(1,q7 b.1),(2,q7 b.2.1),(3,q7 c.1),(8,Q3 b.2.2.2.1),(9,Q3 b.2.2.2.2.1),(10,.d (qb (w64 (b.2.1 - b.1))))],[(0,.dat 1 (c.2.map (eI .i64)))],1⟩) qe ?_ ?_
 ·refine qo J k (fun _ k=>?_) (fun _ k=>?_)
  ·refine qc<|U J<|U J<|U J<|q8 k fun ac bg k=>q8 k fun cr bh k=>?_;have bi:=Km bh;refine Kc [(0,0)] [(0,0)] _ (.d (.tup [])) 1 [(0,.dat 1 (ac.map (eI .i64)))] 1 (qx3 b.2.2.2.2.2 b.1 b.2.1 ac bg)<|q9<|Q0<|U J<|O _ J<|qa J<|qz ?_;obtain rfl:=qt k;exact ⟨_,J,wkE [] [] [] J ⟨⟨_,J,K4 (by simp [bi]) J qn (ltd J)⟩,qp J,qp J,qp J,qp J,qp J,qp J,trivial⟩ ⟨Qk J J,trivial⟩⟩
  refine ql<|Qh ?_;obtain rfl:=qt k;exact ⟨_,J,wkA [] [] []⟩
 intro c hb;subst hb;refine qc<|U J<|U J<|U J<|q8 a fun bj bk a=>q3r [.hs 0 1 0 c.2.length,q7 b.1,q7 b.2.1] (qx5 c.2 b.1 b.2.1 bj bk) J J (Zw (Zk J J) (Zw J (Zw J J))) (.inr J)<|U J<|O _ J<|O _ J<|qa J<|qa J<|q9<|qf<|qc<|U J<|O _ J<|q9<|q8 a fun bl l a=>?_;refine Z4 (fun g=>g = bl) (fun g=>⟨[(0,.hs 0 1 0 g.2.2.length),(1,q7 b.1),(2,q7 b.2.1),(3,q7 c.1),(8,Q3 b.2.2.2.1),(9,Q3 b.2.2.2.2.1),(10,.d (qb (w64 (b.2.1 - b.1)))),(11,q7 g.1),(12,q7 g.2.1)],[(0,.dat 1 (g.2.2.map (eI .i64)))],1⟩) qe ?_ ?_
 ·refine qo J l (fun _ l=>?_) (fun _ l=>?_)
  ·refine qc<|U J<|U J<|U J<|q8 l fun ad bm l=>q8 l fun cs bn l=>?_;have bo:=Km bn;refine Kc [(0,0)] [(0,0)] _ (.d (.tup [])) 1 [(0,.dat 1 (ad.map (eI .i64)))] 1 (qxl c.2 b.1 b.2.1 ad bm)<|qu<|U J<|O _ J<|U J<|U J<|O _ J<|O _ J<|qa J<|q9<|Q0<|qa J<|qz ?_;obtain rfl:=qt l;exact ⟨_,J,wkE [] [] [] J ⟨⟨_,J,K4 (by simp [bo]) J qn (ltd J)⟩,qp J,qp J,qp J,qp J,qp J,qp J,qp J,qp J,trivial⟩ ⟨Qk J J,trivial⟩⟩
  refine ql<|Qh ?_;obtain rfl:=qt l;exact ⟨_,J,wkA [] [] []⟩
 intro g hb;subst hb;refine qf<|qc<|U J<|q8 a fun bp t a=>?_;refine Qg 3 (fun A st=>∃ ae af,st = A [(64,Q3 bp),(63,af),(62,ae)]) ?_ ?_
 ·refine Qe J J t (fun t=>?_) (fun t=>?_)
  ·refine U J<|O _ J<|q9 ?_;cases t;exact ⟨_,_,J⟩
  refine qd J<|O _ J<|q9 ?_;cases t;exact ⟨_,_,J⟩
 rintro _ ⟨ae,af,rfl⟩;refine q8 a fun bq u a=>?_;refine Qg 4 (fun A st=>∃ ag ah ai,st = A [(68,Q3 bq),(67,ai),(66,ah),(65,ag)]) ?_ ?_
 ·refine Qe J J u (fun u=>?_) (fun u=>?_)
  ·refine U J<|O _ J<|O _ J<|q9 ?_;cases u;exact ⟨_,_,_,J⟩
  refine qd J<|qd J<|O _ J<|q9 ?_;cases u;exact ⟨_,_,_,J⟩
 rintro _ ⟨ag,ah,ai,rfl⟩;refine q9<|q8 a fun br f a=>?_;refine Z4 (fun m=>.inl m = br) (fun m=>⟨[(0,.hs 0 1 0 m.length),(1,q7 b.1),(2,q7 b.2.1),(3,q7 c.1),(8,Q3 b.2.2.2.1),(9,Q3 b.2.2.2.2.1),(10,.d (qb (w64 (b.2.1 - b.1)))),(11,q7 g.1)],[(0,.dat 1 (m.map (eI .i64)))],1⟩) qe ?_ ?_
 ·refine qo J f (fun _ f=>?_) (fun _ f=>?_)
  ·refine qc<|U J<|U J<|U J<|q8 f fun w bs f=>q8 f fun ct bt f=>?_;have bu:=Km bt;refine Kc [(0,0)] [(0,0)] _ (Q3 w.1) 1 [(0,.dat 1 (w.2.map (eI .i64)))] 1 (qxb g.2.2 b.1 b.2.1 w bs)<|q9 ?_;refine qo J f (fun _ f=>?_) (fun _ f=>?_)
   ·refine q1l ?_;obtain rfl:=qt f;refine ⟨_,qr a,fun hm=>?_⟩;subst hm;obtain rfl:=qt o;exact ⟨.inr J,_,J,wkA [] [] []⟩
   refine ql<|Qh ?_;obtain rfl:=qt f;exact ⟨_,J,wkE [] [] [] J ⟨⟨_,J,K4 (by simp [bu]) J qn (ltd J)⟩,qp J,qp J,qp J,qp J,qp J,qp J,qp J,trivial⟩ ⟨Qk J J,trivial⟩⟩
  refine ql<|Qh ?_;obtain rfl:=qt f;exact ⟨_,J,wkA [] [] []⟩
 intro m hb;subst hb;refine qf<|qf<|Qj [q6,q6,q6,qv 0,q6,q6,q6,qv 0,q6,q6,q6,q6,q6,q6,q6] qg<|U J<|O _ J<|q8 a fun bv h a=>?_;refine Qg 13 (fun A st=>∃ aj ak al am an ao ap aq ar au av aw,st = A [(87,Q3 bv),(86,aw),(85,av),(84,au),(83,ar),(82,aq),(81,ap),(80,ao),(79,an),(78,am),(77,al),(76,ak),(75,aj)]) ?_ ?_
 ·refine Qe J J h (fun h=>?_) (fun h=>?_)
  ·refine U J<|U J<|O _ J<|q8 h fun bw ax h=>qy ax J J<|Qc _ ax J<|U J<|U J<|q8 h fun bx ay h=>qy ay J J<|Qc _ ay J<|q8 h fun bz ca h=>Qd (Zx bw bx bz ca) J<|O _ J<|O _ J<|q9 ?_;cases h;exact ⟨_,_,_,_,_,_,_,_,_,_,_,_,J⟩
  refine qd J<|qd J<|qd J<|qd J<|qd J<|qd J<|qd J<|qd J<|qd J<|qd J<|qd J<|O _ J<|q9 ?_;cases h;exact ⟨_,_,_,_,_,_,_,_,_,_,_,_,J⟩
 rintro _ ⟨aj,ak,al,am,an,ao,ap,aq,ar,au,av,aw,rfl⟩;refine q9 ?_;refine qo J a (fun _ a=>?_) (fun _ a=>?_)
 ·refine qc<|U J<|U J<|U J<|U J<|q8 a fun x cb a=>q8 a fun cu cc a=>?_;have cd:=Km cc;refine Kc [(0,0)] [(0,0)] _ (q7 x.1) 1 [(0,.dat 1 (x.2.map (eI .i64)))] 1 (qxe m b.1 b.2.1 g.1 x cb)<|qa J<|qu<|U J<|qa J<|q9<|Qf<|Jx<|Qh<|⟨_,qr a,wkE [] [] [] J ⟨⟨_,J,K4 (by simp [cd]) J qn (ltd J)⟩,qp J,qp J,qp J,qp J,qp J,trivial⟩ ⟨Qk J J,trivial⟩⟩
 refine ql<|qc<|U J<|U J<|U J<|U J<|q8 a fun j ce a=>q8 a fun cv cf a=>?_;have v:=Km cf;refine Kc [(0,0)] [(0,0)] _ (.d (.tup [qb j.1,.bool j.2.1])) 1 [(0,.dat 1 (j.2.2.map (eI .i64)))] 1 (qxf m b.1 b.2.1 g.1 j ce)<|U J<|O _ J<|O _ J<|qa J<|qa J<|qu<|U J<|qa J<|qu<|U J<|U J<|O _ J<|U J<|U J<|O _ J<|qa J<|qa J<|qu<|U J<|O _ J<|qa J<|qu<|U J<|U J<|O _ J<|q9 ?_;refine qo J a (fun _ a=>?_) (fun _ a=>?_)
 ·refine qc<|U J<|U J<|O _ J<|qa J<|qu<|U J<|U J<|U J<|U J<|q8 a fun y cg a=>q8 a fun cw ch a=>?_;have ci:=Km ch;refine U1 [(0,0)] [(0,0)] [.hs 0 1 0 m.length,q7 b.1,q7 j.1,q7 c.1] (.d (.tup [])) [(0,.dat 1 (y.map (eI .i64)))] [(0,.dat 1 (y.map (eI .i64)))] 1 (hrec j.2.2 b.1 j.1 c.1 y cg) J J J (Yi [(0,0)] [] [] J ⟨⟨_,J,K4 (by simp [v]) J qn (ltd J)⟩,qp J,qp J,qp J,trivial⟩ ⟨Qk J J,trivial⟩) (Yi [(0,0)] [] [] J ⟨qp J,trivial⟩ ⟨Qk J J,trivial⟩) J ⟨.inl J,trivial⟩<|q9<|Q0<|U J<|O _ J<|qa J<|qz<|Qm<|Qh<|⟨_,qr a,wkE [] [] [] J ⟨⟨_,J,K4 (by simp [v,ci]) J qn (ltd J)⟩,qp J,qp J,qp J,qp J,qp J,trivial⟩ ⟨Qk J J,trivial⟩⟩
 refine qc<|U J<|U J<|O _ J<|qa J<|qu<|U J<|U J<|O _ J<|U J<|U J<|q8 a fun z cj a=>q8 a fun cx ck a=>?_;have cl:=Km ck;refine U1 [(0,0)] [(0,0)] [.hs 0 1 0 m.length,.d (qb (w64 (j.1 + 1))),q7 b.2.1,q7 c.1] (.d (.tup [])) [(0,.dat 1 (z.map (eI .i64)))] [(0,.dat 1 (z.map (eI .i64)))] 1 (hrec j.2.2 (w64 (j.1 + 1)) b.2.1 c.1 z cj) J J J (Yi [(0,0)] [] [] J ⟨⟨_,J,K4 (by simp [v]) J qn (ltd J)⟩,qp J,qp J,qp J,trivial⟩ ⟨Qk J J,trivial⟩) (Yi [(0,0)] [] [] J ⟨qp J,trivial⟩ ⟨Qk J J,trivial⟩) J ⟨.inl J,trivial⟩<|q9<|Q0<|U J<|qa J<|qz<|Qm<|Qh<|⟨_,qr a,wkE [] [] [] J ⟨⟨_,J,K4 (by simp [v,cl]) J qn (ltd J)⟩,qp J,qp J,qp J,qp J,qp J,trivial⟩ ⟨Qk J J,trivial⟩⟩
theorem qxj (n : Nat) : ∀ (a : List Int) (b : Int) (c : Int) (f : Int) (r : List Int),q6r n  a b c f = some r→K9 Tryz.prog tab 111 [.hs 0 1 0 a.length,q7 b,q7 c,q7 f] [(0,.dat 1 (a.map (eI .i64)))] 1 (.d (.tup [])) [(0,.dat 1 (r.map (eI .i64)))] 1:=by
 induction n with
 | zero=>intro a b c f r g;cases g
 | succ n ih=>intro a b c f r g;exact qxi (q6r n )   ih a b c f r g
theorem qc5 (b : List Int) (r : List Int) (a : U2  b = some r) : K9 Tryz.prog tab 83 [.hs 0 1 0 b.length] [(0,.dat 1 (b.map (eI .i64)))] 1 (.d (.tup [])) [(0,.dat 1 (r.map (eI .i64)))] 1:=by
 unfold U2 at a;refine Kq Tryz.func83 J qg qg J<|qc<|U J<|O _ J<|qa J<|q9<|Q0<|U J<|U J<|U J<|O _ J<|q8 a fun f h a=>Qd (qeq (IntKind.wrap .u64 (b.length : Int)) f h) J<|q8 a fun g c a=>q8 a fun l j a=>?_;have m:=Km j;obtain ⟨k,c⟩:=qek c;refine Kc [(0,0)] [(0,0)] _ (.d (.tup [])) 1 [(0,.dat 1 (g.map (eI .i64)))] 1 (qxj k b 0 (b.length : Int) f g c)<|qz ?_;obtain rfl:=qt a;exact ⟨.inl J,_,J,wkA [] [] []⟩
theorem qbw (d : List Int) (r : (Nat × Nat) × List Int) (c : Uv  d = some r) : K9 Tryz.prog tab 84 [.hs 0 1 0 d.length] [(0,.dat 1 (d.map (eI .i64)))] 1 (.hs 0 1 r.1.1 r.1.2) [(0,.dat 1 (r.2.map (eI .i64)))] 1:=by
 unfold Uv at c;refine Kq Tryz.func84 J qg qg J<|qc<|qa J<|q9<|qf<|qc<|U J<|O _ J<|O _ J<|q9 ?_;refine qo J c (fun _ c=>?_) (fun _ c=>?_)
 ·refine qc<|U J<|qa J<|qq ?_;obtain rfl:=qt c;exact ⟨.inr J,_,J,wkA [] [] []⟩
 refine ql<|qf<|qc<|qa J<|q9<|q8 c fun m z c=>?_;refine Qt (fun k=>.inl k = m) (fun k=>⟨[(0,.hs 0 1 0 d.length)],[(0,.dat 1 (d.map (eI .i64)))],1⟩) qe ?_ ?_
 ·refine Qo (Jl d) (fun n=>⟨[(0,.hs 0 1 0 d.length),(3,q7 n)],[(0,.dat 1 (d.map (eI .i64)))],1⟩) _ m z (wkA [] [] []) ?_;intro n ae a;unfold Jl at a;refine qf<|qc<|U J<|U J<|O _ J<|O _ J<|q9 ?_;refine qo J a (fun _ a=>?_) (fun _ a=>?_)
  ·refine ql<|qf<|Q4<|qf<|Qj [q6,qv 0,q6,q6,q6,q6,qv 0,q6,q6,q6] qg<|U J<|U J<|q8 a fun af o a=>qy o J J<|Qc _ o J<|U J<|U J<|O _ J<|q8 a fun ag p a=>qy p J J<|Qc _ p J<|O _ J<|q9 ?_;refine qo J a (fun _ a=>?_) (fun _ a=>?_)
   ·refine qc<|U J<|U J<|q8 a fun ah aa a=>q86 aa J J J J J (q39 J) (fun _=>rfl)<|qa J<|q9<|qf<|qc<|qa J<|q9<|q8 a fun q ab a=>?_;refine Qt (fun f=>f = q) (fun f=>⟨[(0,.hs 0 1 0 f.2.length),(3,q7 f.1)],[(0,.dat 1 (f.2.map (eI .i64)))],1⟩) qe ?_ ?_
    ·refine Qo (q1n) (fun g=>⟨[(0,.hs 0 1 0 g.2.2.2.length),(3,q7 g.1),(4,.hs 0 1 g.2.1.1 g.2.1.2),(5,q7 g.2.2.1)],[(0,.dat 1 (g.2.2.2.map (eI .i64)))],1⟩) _ q ab (wkA [] [] []) ?_;intro g ai h;unfold q1n at h;refine qf<|qc<|U J<|U J<|O _ J<|O _ J<|q9 ?_;refine qo J h (fun _ h=>?_) (fun _ h=>?_)
     ·refine ql<|qf<|q8 h fun ac b h=>?_;refine Qt (fun j=>j = ac) (fun j=>⟨[(0,.hs 0 1 0 j.2.2.length),(3,q7 j.1),(4,.hs 0 1 j.2.1.1 j.2.1.2),(5,q7 g.2.2.1)],[(0,.dat 1 (j.2.2.map (eI .i64)))],1⟩) qe ?_ ?_
      ·refine qf<|Qj [q6,qv 0,q6,q6,q6,q6,qv 0,q6,q6,q6] qg<|U J<|U J<|q8 b fun aj s b=>qf3 s J J J J J J<|Qc _ (qed s) J<|U J<|U J<|O _ J<|q8 b fun ak t b=>qf3 t J J J J J J<|Qc _ (qed t) J<|O _ J<|q9 ?_;refine qo J b (fun _ b=>?_) (fun _ b=>?_)
       ·refine qc<|U J<|U J<|U J<|U J<|q8 b fun u v b=>qf3 v J J J J J J<|Qc _ (qed v) J<|q8 b fun al x b=>qy x J J<|K0 (ds:=[qb u]) u x J J J J J J J J (leb J) J<|q9<|Q0<|U J<|O _ J<|qa J<|qz ?_;obtain rfl:=qt b;exact ⟨_,J,wkE [] [] [] J ⟨⟨_,J,K4 qe J qn (ltd J)⟩,qp J,⟨_,J,.hs J qn (ltd J)⟩,qp J,trivial⟩ ⟨Qk J J,trivial⟩⟩
       refine ql<|Qh ?_;obtain rfl:=qt b;exact ⟨_,J,wkA [] [] []⟩
      intro j hb;subst hb;refine Q0<|U J<|O _ J<|qa J<|qz<|⟨_,qr h,wkA [] [] []⟩
     refine Qf ?_;refine ⟨_,qr h,fun hm=>?_⟩;subst hm;exact ⟨_,J,wkA [] [] []⟩
    intro f hb;subst hb;refine qc<|U J<|U J<|q8 a fun y l a=>q86 l J J J J J (q39 J) (fun _=>rfl)<|qs7 (w:=y) (xs:=f.2) (enc:=(eI .i64)) 0 (qa4 l) J J J J J J J ?_;have am:=@qh6 _ f.2 y 0 (qa4 l);refine qu<|U J<|U J<|q8 a fun an ad a=>q86 ad J J J J J (fun _=>rfl) (q39 J)<|qa J<|qq ?_;refine ⟨_,qr a,fun hm=>?_⟩;subst hm;obtain rfl:=qt c;exact ⟨.inr J,_,J,wkA [] [] []⟩
   refine ql<|Qh<|Qm<|Q0<|U J<|O _ J<|qa J<|qz<|⟨_,qr a,wkA [] [] []⟩
  refine Qf ?_;refine ⟨_,qr a,fun hm=>?_⟩;subst hm;exact ⟨_,J,wkA [] [] []⟩
 intro k hb;subst hb;refine qc<|U J<|qa J<|qq ?_;obtain rfl:=qt c;exact ⟨.inr J,_,J,wkA [] [] []⟩
theorem qwt (b : List qk) (f : qk→Option Bool) (p1F : FuncId) (p1C : List DV) (p1Ok : ∀ (h : qk) (r : Bool),f h = some r→Pure Tryz.prog tab p1F ([.agg (Q8 h)] ++ p1C) (.bool r)) (r : Int) (c : qc2 b f = some r) : Pure Tryz.prog tab 113 [.sl 4 (b.map Q8),.fn p1F p1C] (qb r):=by
 unfold qc2 at c;refine Qn Tryz.func113 J qg qg J<|qc<|qa J<|q9<|qf<|qc<|U J<|Qz J<|U J<|q9<|q8 c fun j l c=>?_;refine Qt (fun g=>.inl g = j) (fun g=>⟨[],[],0⟩) qe ?_ ?_
 ·refine Qo (q42 b f) (fun k=>⟨[(0,.d (.sl 4 (b.map Q8))),(1,.d (.fn p1F p1C)),(7,q7 (b.length : Int)),(8,q7 k)],[],0⟩) _ j l (wkA [] [] []) ?_;intro k q a;unfold q42 at a;refine qc<|O _ J<|q9<|qf ?_;refine qo J a (fun _ a=>?_) (fun _ a=>?_)
  ·refine ql<|qf<|Q4<|qc<|U J<|qa J<|qu<|U J<|U J<|U J<|q8 a fun m n a=>K1 n J<|O _ J<|q8 a fun o p a=>Ym _ (p1Ok m o p) J J J (.inl J)<|q9 ?_;refine qo J a (fun _ a=>?_) (fun _ a=>?_)
   ·refine qc<|U J<|qa J<|qq ?_;refine ⟨_,qr a,fun hm=>?_⟩;subst hm;cases c;exact Q6 _ J
   refine ql<|Qh<|Qm<|Q0<|O _ J<|U J<|qz<|⟨_,qr a,wkA [] [] []⟩
  refine Qf ?_;refine ⟨_,qr a,fun hm=>?_⟩;subst hm;exact ⟨_,J,wkA [] [] []⟩
 intro g hb;subst hb;refine qc<|qa J<|qq ?_;cases c;exact Q6 _ J
theorem qwl (b : List qk) (c : qk→Option Bool) (p1F : FuncId) (p1C : List DV) (p1Ok : ∀ (d : qk) (r : Bool),c d = some r→Pure Tryz.prog tab p1F ([.agg (Q8 d)] ++ p1C) (.bool r)) (r : Bool) (a : q8q b c = some r) : Pure Tryz.prog tab 86 [.sl 4 (b.map Q8),.fn p1F p1C] (.bool r):=by
 unfold q8q at a;refine Qn Tryz.func86 J qg qg J<|qc<|qa J<|qu<|U J<|U J<|q8 a fun f g a=>Qd (qwt b c p1F p1C p1Ok f g) J<|O _ J<|qa J<|qq ?_;cases a;exact Q6 _ J
theorem qbn (c : Int) (r : Bool) (b : q2o c = some r) : Pure Tryz.prog tab 114 [qb c] (.bool r):=by
 unfold q2o at b;refine Qn Tryz.func114 J qg qg J<|qc<|qa J<|qu<|U J<|O _ J<|q8 b fun h a b=>?_;refine Qg 4 (fun A st=>∃ d f g,st = A [(8,Q3 h),(7,g),(6,f),(5,d)]) ?_ ?_
 ·refine Qe J J a (fun a=>?_) (fun a=>?_)
  ·refine U J<|O _ J<|O _ J<|q9 ?_;cases a;exact ⟨_,_,_,J⟩
  refine qd J<|qd J<|O _ J<|q9 ?_;cases a;exact ⟨_,_,_,J⟩
 rintro _ ⟨d,f,g,rfl⟩;refine qa J<|qq ?_;cases b;exact Q6 _ J
theorem ql5 (g : qk) (r : Bool) (a : q5r g = some r) : Pure Tryz.prog tab 88 [.agg (Q8 g)] (.bool r):=by
 unfold q5r at a;refine Qn Tryz.func88 J qg qg J<|qc<|Qq _ _ J<|qa J<|qu<|O _ J<|O _ J<|O _ J<|O _ J<|O _ J<|q8 a fun c1 h a=>?_;refine Qg 7 (fun A st=>∃ j k l m n o,st = A [(14,Q3 c1),(13,o),(12,n),(11,m),(10,l),(9,k),(8,j)]) ?_ ?_
 ·refine Qe J J h (fun h=>?_) (fun h=>?_)
  ·refine O _ J<|O _ J<|O _ J<|O _ J<|O _ J<|O _ J<|q9 ?_;cases h;exact ⟨_,_,_,_,_,_,J⟩
  refine qd J<|qd J<|qd J<|qd J<|qd J<|O _ J<|q9 ?_;cases h;exact ⟨_,_,_,_,_,_,J⟩
 rintro _ ⟨j,k,l,m,n,o,rfl⟩;refine q8 a fun ah b a=>?_;refine Qg 5 (fun A st=>∃ p q s t,st = A [(19,Q3 ah),(18,t),(17,s),(16,q),(15,p)]) ?_ ?_
 ·refine Qe J J b (fun b=>?_) (fun b=>?_)
  ·refine O _ J<|O _ J<|q8 b fun ai aj b=>Qd (qbn g.X0 ai aj) J<|O _ J<|q9 ?_;cases b;exact ⟨_,_,_,_,J⟩
  refine qd J<|qd J<|qd J<|O _ J<|q9 ?_;cases b;exact ⟨_,_,_,_,J⟩
 rintro _ ⟨p,q,s,t,rfl⟩;refine q8 a fun ak c a=>?_;refine Qg 5 (fun A st=>∃ u v w x,st = A [(24,Q3 ak),(23,x),(22,w),(21,v),(20,u)]) ?_ ?_
 ·refine Qe J J c (fun c=>?_) (fun c=>?_)
  ·refine O _ J<|O _ J<|q8 c fun al am c=>Qd (qbn g.X1 al am) J<|O _ J<|q9 ?_;cases c;exact ⟨_,_,_,_,J⟩
  refine qd J<|qd J<|qd J<|O _ J<|q9 ?_;cases c;exact ⟨_,_,_,_,J⟩
 rintro _ ⟨u,v,w,x,rfl⟩;refine q8 a fun an d a=>?_;refine Qg 5 (fun A st=>∃ y z aa ab,st = A [(29,Q3 an),(28,ab),(27,aa),(26,z),(25,y)]) ?_ ?_
 ·refine Qe J J d (fun d=>?_) (fun d=>?_)
  ·refine O _ J<|O _ J<|q8 d fun ao ap d=>Qd (qbn g.Y0 ao ap) J<|O _ J<|q9 ?_;cases d;exact ⟨_,_,_,_,J⟩
  refine qd J<|qd J<|qd J<|O _ J<|q9 ?_;cases d;exact ⟨_,_,_,_,J⟩
 rintro _ ⟨y,z,aa,ab,rfl⟩;refine q8 a fun aq f a=>?_;refine Qg 5 (fun A st=>∃ ac ad ae af,st = A [(34,Q3 aq),(33,af),(32,ae),(31,ad),(30,ac)]) ?_ ?_
 ·refine Qe J J f (fun f=>?_) (fun f=>?_)
  ·refine O _ J<|O _ J<|q8 f fun ar au f=>Qd (qbn g.Y1 ar au) J<|O _ J<|q9 ?_;cases f;exact ⟨_,_,_,_,J⟩
  refine qd J<|qd J<|qd J<|O _ J<|q9 ?_;cases f;exact ⟨_,_,_,_,J⟩
 rintro _ ⟨ac,ad,ae,af,rfl⟩;refine qa J<|qq ?_;cases a;exact Q6 _ J
theorem qu7 (b : qk) (r : Bool) (a : q2n b = some r) : Pure Tryz.prog tab 87 [.agg (Q8 b)] (.bool r):=by
 unfold q2n at a;refine Qn Tryz.func87 J qg qg J<|qc<|Qq _ _ J<|qa J<|qu<|O _ J<|q8 a fun c d a=>Qd (ql5 b c d) J<|O _ J<|qa J<|qq ?_;cases a;exact Q6 _ J
theorem qww (b : List qi) (f : qi→Option Bool) (p1F : FuncId) (p1C : List DV) (p1Ok : ∀ (h : qi) (r : Bool),f h = some r→Pure Tryz.prog tab p1F ([.agg (Qi h)] ++ p1C) (.bool r)) (r : Int) (c : q8v b f = some r) : Pure Tryz.prog tab 162 [.sl 2 (b.map Qi),.fn p1F p1C] (qb r):=by
 unfold q8v at c;refine Qn Tryz.func162 J qg qg J<|qc<|qa J<|q9<|qf<|qc<|U J<|Qz J<|U J<|q9<|q8 c fun j l c=>?_;refine Qt (fun g=>.inl g = j) (fun g=>⟨[],[],0⟩) qe ?_ ?_
 ·refine Qo (q2s b f) (fun k=>⟨[(0,.d (.sl 2 (b.map Qi))),(1,.d (.fn p1F p1C)),(7,q7 (b.length : Int)),(8,q7 k)],[],0⟩) _ j l (wkA [] [] []) ?_;intro k q a;unfold q2s at a;refine qc<|O _ J<|q9<|qf ?_;refine qo J a (fun _ a=>?_) (fun _ a=>?_)
  ·refine ql<|qf<|Q4<|qc<|U J<|qa J<|qu<|U J<|U J<|U J<|q8 a fun m n a=>K1 n J<|O _ J<|q8 a fun o p a=>Ym _ (p1Ok m o p) J J J (.inl J)<|q9 ?_;refine qo J a (fun _ a=>?_) (fun _ a=>?_)
   ·refine qc<|U J<|qa J<|qq ?_;refine ⟨_,qr a,fun hm=>?_⟩;subst hm;cases c;exact Q6 _ J
   refine ql<|Qh<|Qm<|Q0<|O _ J<|U J<|qz<|⟨_,qr a,wkA [] [] []⟩
  refine Qf ?_;refine ⟨_,qr a,fun hm=>?_⟩;subst hm;exact ⟨_,J,wkA [] [] []⟩
 intro g hb;subst hb;refine qc<|qa J<|qq ?_;cases c;exact Q6 _ J
theorem qwo (b : List qi) (c : qi→Option Bool) (p1F : FuncId) (p1C : List DV) (p1Ok : ∀ (d : qi) (r : Bool),c d = some r→Pure Tryz.prog tab p1F ([.agg (Qi d)] ++ p1C) (.bool r)) (r : Bool) (a : q8t b c = some r) : Pure Tryz.prog tab 148 [.sl 2 (b.map Qi),.fn p1F p1C] (.bool r):=by
 unfold q8t at a;refine Qn Tryz.func148 J qg qg J<|qc<|qa J<|qu<|U J<|U J<|q8 a fun f g a=>Qd (qww b c p1F p1C p1Ok f g) J<|O _ J<|qa J<|qq ?_;cases a;exact Q6 _ J
theorem qmi (d : qi) (r : Bool) (a : q2y d = some r) : Pure Tryz.prog tab 134 [.agg (Qi d)] (.bool r):=by
 unfold q2y at a;refine Qn Tryz.func134 J qg qg J<|qc<|Qq _ _ J<|qa J<|qu<|O _ J<|O _ J<|O _ J<|O _ J<|O _ J<|q8 a fun o b a=>?_;refine Qg 5 (fun A st=>∃ f g h j,st = A [(12,Q3 o),(11,j),(10,h),(9,g),(8,f)]) ?_ ?_
 ·refine Qe J J b (fun b=>?_) (fun b=>?_)
  ·refine O _ J<|O _ J<|O _ J<|O _ J<|q9 ?_;cases b;exact ⟨_,_,_,_,J⟩
  refine qd J<|qd J<|qd J<|O _ J<|q9 ?_;cases b;exact ⟨_,_,_,_,J⟩
 rintro _ ⟨f,g,h,j,rfl⟩;refine q8 a fun p c a=>?_;refine Qg 5 (fun A st=>∃ k l m n,st = A [(17,Q3 p),(16,n),(15,m),(14,l),(13,k)]) ?_ ?_
 ·refine Qe J J c (fun c=>?_) (fun c=>?_)
  ·refine O _ J<|O _ J<|O _ J<|O _ J<|q9 ?_;cases c;exact ⟨_,_,_,_,J⟩
  refine qd J<|qd J<|qd J<|O _ J<|q9 ?_;cases c;exact ⟨_,_,_,_,J⟩
 rintro _ ⟨k,l,m,n,rfl⟩;refine qa J<|qq ?_;cases a;exact Q6 _ J
theorem q103 (b : qi) (r : Bool) (a : qcc b = some r) : Pure Tryz.prog tab 149 [.agg (Qi b)] (.bool r):=by
 unfold qcc at a;refine Qn Tryz.func149 J qg qg J<|qc<|Qq _ _ J<|qa J<|qu<|O _ J<|q8 a fun c d a=>Qd (qmi b c d) J<|O _ J<|qa J<|qq ?_;cases a;exact Q6 _ J
theorem q10a (a : qj) (b : qj) (r : Int) (c : q9y a b = some r) : Pure Tryz.prog tab 155 [.agg (Qa a),.agg (Qa b)] (qb r):=by
 unfold q9y at c;refine Qn Tryz.func155 J qg qg J<|qc<|Qq _ _ J<|Qq _ _ J<|qa J<|qu<|O _ J<|O _ J<|O _ J<|O _ J<|O _ J<|qa J<|qq ?_;cases c;exact Q6 _ J
theorem qx8 (k : qj→qj→Option Int) (q1F : FuncId) (q1C : List DV) (q1Ok : ∀ (p : qj) (q : qj) (r : Int),k p q = some r→Pure Tryz.prog tab q1F ([.agg (Qa p),.agg (Qa q)] ++ q1C) (qb r)) (n : List qj) (f : Int) (g : Int) (r : List qj) (l : q95 k n f g = some r) : K9 Tryz.prog tab 166 [.hs 0 3 0 n.length,q7 f,q7 g,.d (.fn q1F q1C)] [(0,.dat 3 (n.map Qa))] 1 (.d (.tup [])) [(0,.dat 3 (r.map Qa))] 1:=by
 unfold q95 at l;refine Kq Tryz.func166 J qg qg J<|qc<|U J<|O _ J<|qa J<|q9<|q8 l fun al am l=>Q4<|Qo (q96 g f k) (fun h=>⟨[(0,.hs 0 3 0 h.2.length),(1,q7 f),(2,q7 g),(3,.d (.fn q1F q1C)),(8,q7 h.1)],[(0,.dat 3 (h.2.map Qa))],1⟩) _ al am (wkA [] [] []) ?_;intro h az c;unfold q96 at c;refine qf<|qc<|U J<|U J<|O _ J<|q9 ?_;refine qo J c (fun _ c=>?_) (fun _ c=>?_)
 ·refine ql<|qf<|q8 c fun an o c=>?_;refine Qt (fun j=>j = an) (fun j=>⟨[(0,.hs 0 3 0 j.length),(1,q7 f),(2,q7 g),(3,.d (.fn q1F q1C)),(8,q7 h.1)],[(0,.dat 3 (j.map Qa))],1⟩) qe ?_ ?_
  ·refine qc<|U J<|qa J<|q9<|q8 o fun ao ap o=>Q4<|Qo (q97 f k) (fun m=>⟨[(0,.hs 0 3 0 m.2.length),(1,q7 f),(2,q7 g),(3,.d (.fn q1F q1C)),(8,q7 h.1),(9,q7 m.1)],[(0,.dat 3 (m.2.map Qa))],1⟩) _ ao ap (wkA [] [] []) ?_;intro m ba a;unfold q97 at a;refine qf<|qf<|Qj [q6,q6,q6,qv 0,q6,q6,q6,q6,qv 0,q6,q6,q6,q6,q6,q6,q6,q6] qg<|U J<|U J<|O _ J<|q8 a fun aq b a=>?_;refine Qg 14 (fun A st=>∃ s t u v w x y z aa ab ac ad ae,st = A [(34,Q3 aq),(33,ae),(32,ad),(31,ac),(30,ab),(29,aa),(28,z),(27,y),(26,x),(25,w),(24,v),(23,u),(22,t),(21,s)]) ?_ ?_
   ·refine Qe J J b (fun b=>?_) (fun b=>?_)
    ·refine U J<|U J<|U J<|q8 b fun ar af b=>qy af J J<|Qc _ af J<|U J<|U J<|O _ J<|q8 b fun au ag b=>qy ag J J<|Qc _ ag J<|q8 b fun av aw b=>Ym _ (q1Ok ar au av aw) J J J (.inl J)<|O _ J<|O _ J<|q9 ?_;cases b;exact ⟨_,_,_,_,_,_,_,_,_,_,_,_,_,J⟩
    refine qd J<|qd J<|qd J<|qd J<|qd J<|qd J<|qd J<|qd J<|qd J<|qd J<|qd J<|qd J<|O _ J<|q9 ?_;cases b;exact ⟨_,_,_,_,_,_,_,_,_,_,_,_,_,J⟩
   rintro _ ⟨s,t,u,v,w,x,y,z,aa,ab,ac,ad,ae,rfl⟩;refine q9 ?_;refine qo J a (fun _ a=>?_) (fun _ a=>?_)
   ·refine ql<|qf<|Q4<|Qj [Qp 0,q6,Qp 0,q6,qv 0,q6,q6,q6,qv 0,q6,q6,q6,q6,q6,q6,q6,q6,q6] qg<|U J<|U J<|U J<|U J<|O _ J<|U J<|U J<|O _ J<|q8 a fun ax ah a=>qy ah J J<|Qc _ ah J<|U J<|U J<|q8 a fun ay ai a=>qy ai J J<|Qc _ ai J<|q8 a fun bb aj a=>qy aj J J<|K0 ax aj J J J J J J J J (leb J) J<|q8 a fun bc ak a=>qy ak qe J<|K0 ay ak J J J J J J J J (leb J) J<|qz<|Qm<|Q0<|U J<|O _ J<|qa J<|qz<|⟨_,qr a,wkE [] [] [] J ⟨⟨_,J,K4 qe J qn (ltd J)⟩,qp J,qp J,qp J,qp J,qp J,trivial⟩ ⟨Qk J J,trivial⟩⟩
   refine Qf ?_;refine ⟨_,qr a,fun hm=>?_⟩;subst hm;obtain rfl:=qt o;exact ⟨_,J,wkA [] [] []⟩
  intro j hb;subst hb;refine Q0<|U J<|O _ J<|qa J<|qz<|⟨_,qr c,wkA [] [] []⟩
 refine Qf ?_;refine ⟨_,qr c,fun hm=>?_⟩;subst hm;obtain rfl:=qt l;exact ⟨.inl J,_,J,wkA [] [] []⟩
theorem qlz (l : qj→qj→Option Int) (q1F : FuncId) (q1C : List DV) (q1Ok : ∀ (n : qj) (o : qj) (r : Int),l n o = some r→Pure Tryz.prog tab q1F ([.agg (Qa n),.agg (Qa o)] ++ q1C) (qb r)) (m : List qj) (p : Int) (f : Int) (g : Int) (r : List qj) (h : q6t l m p f g = some r) : K9 Tryz.prog tab 174 [.hs 0 3 0 m.length,q7 p,q7 f,q7 g,.d (.fn q1F q1C)] [(0,.dat 3 (m.map Qa))] 1 (.d (.tup [])) [(0,.dat 3 (r.map Qa))] 1:=by
 unfold q6t at h;refine Kq Tryz.func174 J qg qg J<|qc<|U J<|qa J<|q9<|q8 h fun aq ar h=>Q4<|Qo (q9p f g l) (fun c=>⟨[(0,.hs 0 3 0 c.2.length),(2,q7 f),(3,q7 g),(4,.d (.fn q1F q1C)),(10,q7 c.1)],[(0,.dat 3 (c.2.map Qa))],1⟩) _ aq ar (wkA [] [] []) ?_;intro c bg a;unfold q9p at a;refine Q4<|qc<|U J<|O _ J<|O _ J<|qa J<|q9<|qf<|qc<|U J<|U J<|O _ J<|q9 ?_;refine qo J a (fun _ a=>?_) (fun _ a=>?_)
 ·refine Qf ?_;refine ⟨_,qr a,fun hm=>?_⟩;subst hm;obtain rfl:=qt h;exact ⟨.inl J,_,J,wkA [] [] []⟩
 refine ql<|qf<|qf<|Qj [q6,q6,q6,qv 0,q6,q6,q6,q6,q6,q6,qv 0,q6,q6,q6,q6,q6,q6,q6,q6,q6,q6,q6] qg<|U J<|O _ J<|U J<|O _ J<|q8 a fun au b a=>?_;refine Qg 18 (fun A st=>∃ q s t u v w x y z aa ab ac ad ae af ag ah,st = A [(40,Q3 au),(39,ah),(38,ag),(37,af),(36,ae),(35,ad),(34,ac),(33,ab),(32,aa),(31,z),(30,y),(29,x),(28,w),(27,v),(26,u),(25,t),(24,s),(23,q)]) ?_ ?_
 ·refine Qe J J b (fun b=>?_) (fun b=>?_)
  ·refine U J<|U J<|U J<|U J<|O _ J<|q8 b fun av ai b=>qy ai J J<|Qc _ ai J<|U J<|U J<|U J<|O _ J<|O _ J<|q8 b fun aw aj b=>qy aj J J<|Qc _ aj J<|q8 b fun ax ay b=>Ym _ (q1Ok av aw ax ay) J J J (.inl J)<|O _ J<|O _ J<|q9 ?_;cases b;exact ⟨_,_,_,_,_,_,_,_,_,_,_,_,_,_,_,_,_,J⟩
  refine qd J<|qd J<|qd J<|qd J<|qd J<|qd J<|qd J<|qd J<|qd J<|qd J<|qd J<|qd J<|qd J<|qd J<|qd J<|qd J<|O _ J<|q9 ?_;cases b;exact ⟨_,_,_,_,_,_,_,_,_,_,_,_,_,_,_,_,_,J⟩
 rintro _ ⟨q,s,t,u,v,w,x,y,z,aa,ab,ac,ad,ae,af,ag,ah,rfl⟩;refine q9<|q8 a fun az j a=>?_;refine Z4 (fun k=>k = az) (fun k=>⟨[(0,.hs 0 3 0 c.2.length),(2,q7 f),(3,q7 g),(4,.d (.fn q1F q1C)),(10,q7 c.1),(11,q7 k)],[(0,.dat 3 (c.2.map Qa))],1⟩) qe ?_ ?_
 ·refine qo J j (fun _ j=>?_) (fun _ j=>?_)
  ·refine Q0<|U J<|O _ J<|qa J<|qz ?_;obtain rfl:=qt j;exact ⟨_,J,wkA [] [] []⟩
  refine ql<|Qh ?_;obtain rfl:=qt j;exact ⟨_,J,wkA [] [] []⟩
 intro k hb;subst hb;refine qf<|qf<|Qj [q6,q6,q6,qv 0,q6,q6,q6,q6,q6,qv 0,q6,q6,q6,q6,q6,q6] qg<|U J<|U J<|U J<|U J<|O _ J<|q8 a fun ba ak a=>qy ak J J<|Qc _ ak J<|U J<|U J<|U J<|O _ J<|q8 a fun bb al a=>qy al J J<|Qc _ al J<|q8 a fun bc bd a=>Ym _ (q1Ok ba bb bc bd) J J J (.inl J)<|O _ J<|O _ J<|q9 ?_;refine qo J a (fun _ a=>?_) (fun _ a=>?_)
 ·refine q1l ?_;refine ⟨_,qr a,fun hm=>?_⟩;subst hm;obtain rfl:=qt h;exact ⟨.inr J,_,J,wkA [] [] []⟩
 refine ql<|qf<|Qj [Qp 0,q6,Qp 0,q6,qv 0,q6,q6,q6,q6,q6,qv 0,q6,q6,q6,q6,q6,q6,q6,q6,q6,q6,q6,q6,q6] qg<|U J<|U J<|U J<|O _ J<|U J<|U J<|U J<|O _ J<|U J<|U J<|U J<|O _ J<|q8 a fun be am a=>qy am J J<|Qc _ am J<|U J<|U J<|U J<|O _ J<|q8 a fun bf an a=>qy an J J<|Qc _ an J<|q8 a fun bh ao a=>qy ao J J<|K0 be ao J J J J J J J J (leb J) J<|q8 a fun bi ap a=>qy ap qe J<|K0 bf ap J J J J J J J J (leb J) J<|q9<|Q0<|U J<|qa J<|qz<|Qm<|Qh<|⟨_,qr a,wkE [] [] [] J ⟨⟨_,J,K4 qe J qn (ltd J)⟩,qp J,qp J,qp J,qp J,trivial⟩ ⟨Qk J J,trivial⟩⟩
theorem qx6 (g : qj→qj→Option Int) (q1F : FuncId) (q1C : List DV) (q1Ok : ∀ (o : qj) (p : qj) (r : Int),g o p = some r→Pure Tryz.prog tab q1F ([.agg (Qa o),.agg (Qa p)] ++ q1C) (qb r)) (m : List qj) (b : Int) (h : Int) (r : List qj) (j : q92 g m b h = some r) : K9 Tryz.prog tab 167 [.hs 0 3 0 m.length,q7 b,q7 h,.d (.fn q1F q1C)] [(0,.dat 3 (m.map Qa))] 1 (.d (.tup [])) [(0,.dat 3 (r.map Qa))] 1:=by
 unfold q92 at j;refine Kq Tryz.func167 J qg qg J<|qc<|U J<|qa J<|qu<|qa J<|qu<|U J<|U J<|O _ J<|qa J<|q9<|qf<|qc<|U J<|O _ J<|O _ J<|qa J<|q9<|q8 j fun q z j=>?_;refine Qt (fun l=>l = q) (fun l=>⟨[(0,.hs 0 3 0 l.length),(3,.d (.fn q1F q1C)),(8,q7 b),(9,q7 0),(10,.d (qb (w64 (h - b))))],[(0,.dat 3 (l.map Qa))],1⟩) qe ?_ ?_
 ·refine Qo (q93 g h b) (fun k=>⟨[(0,.hs 0 3 0 k.2.length),(3,.d (.fn q1F q1C)),(8,q7 b),(9,q7 0),(10,.d (qb (w64 (h - b)))),(11,q7 k.1)],[(0,.dat 3 (k.2.map Qa))],1⟩) _ q z (wkA [] [] []) ?_;intro k ai c;unfold q93 at c;refine qf<|qc<|U J<|O _ J<|q9 ?_;refine qo J c (fun _ c=>?_) (fun _ c=>?_)
  ·refine ql<|qf<|Q4<|Q0<|U J<|U J<|U J<|U J<|U J<|q8 c fun s aa c=>q8 c fun aj ab c=>?_;have ac:=Km ab;refine Kc [(0,0)] [(0,0)] _ (.d (.tup [])) 1 [(0,.dat 3 (s.map Qa))] 1 (qlz g q1F q1C q1Ok k.2 k.1 (w64 (h - b)) b s aa)<|qz<|Qm<|Q0<|U J<|O _ J<|qa J<|qz<|⟨_,qr c,wkE [] [] [] J ⟨⟨_,J,K4 (by simp [ac]) J qn (ltd J)⟩,qp J,qp J,qp J,qp J,qp J,trivial⟩ ⟨Qk J J,trivial⟩⟩
  refine Qf ?_;refine ⟨_,qr c,fun hm=>?_⟩;subst hm;exact ⟨_,J,wkA [] [] []⟩
 intro l hb;subst hb;refine qc<|U J<|O _ J<|qa J<|q9<|q8 j fun ad ae j=>Q4<|Qo (q94 b g) (fun f=>⟨[(0,.hs 0 3 0 f.2.length),(3,.d (.fn q1F q1C)),(8,q7 b),(9,q7 0),(12,q7 f.1)],[(0,.dat 3 (f.2.map Qa))],1⟩) _ ad ae (wkA [] [] []) ?_;intro f ak a;unfold q94 at a;refine qf<|qc<|U J<|O _ J<|q9 ?_;refine qo J a (fun _ a=>?_) (fun _ a=>?_)
 ·refine ql<|qf<|Q4<|qf<|Qj [Qp 0,q6,Qp 0,q6,qv 0,q6,q6,q6,qv 0,q6,q6,q6,q6,q6,q6,q6,q6,q6,q6,q6] qg<|U J<|U J<|U J<|U J<|U J<|O _ J<|U J<|U J<|U J<|O _ J<|q8 a fun t u a=>qy u J J<|Qc _ u J<|U J<|U J<|q8 a fun v w a=>qy w J J<|Qc _ w J<|q8 a fun al x a=>qy x J J<|K0 t x J J J J J J J J (leb J) J<|q8 a fun am y a=>qy y qe J<|K0 v y J J J J J J J J (leb J) J<|q9<|Q0<|U J<|U J<|U J<|U J<|U J<|q8 a fun n af a=>q8 a fun an ag a=>?_;have ah:=Km ag;refine U1 [(0,0)] [(0,0)] [.hs 0 3 0 f.2.length,q7 0,q7 f.1,q7 b,.d (.fn q1F q1C)] (.d (.tup [])) [(0,.dat 3 (n.map Qa))] [(0,.dat 3 (n.map Qa))] 1 (qlz g q1F q1C q1Ok ((f.2.set b.toNat t).set (w64 (b + f.1)).toNat v) 0 f.1 b n af) J J J (Yi [(0,0)] [] [] J ⟨⟨_,J,K4 qe J qn (ltd J)⟩,qp J,qp J,qp J,qp J,trivial⟩ ⟨Qk J J,trivial⟩) (Yi [(0,0)] [] [] J ⟨qp J,trivial⟩ ⟨Qk J J,trivial⟩) J ⟨.inl J,trivial⟩<|qz<|Qm<|Q0<|U J<|O _ J<|qa J<|qz<|⟨_,qr a,wkE [] [] [] J ⟨⟨_,J,K4 (by simp [ah]) J qn (ltd J)⟩,qp J,qp J,qp J,qp J,trivial⟩ ⟨Qk J J,trivial⟩⟩
 refine Qf ?_;refine ⟨_,qr a,fun hm=>?_⟩;subst hm;obtain rfl:=qt j;exact ⟨.inl J,_,J,wkA [] [] []⟩
theorem qfw (b : qj→qj→Option Int) (q1F : FuncId) (q1C : List DV) (q1Ok : ∀ (c : qj) (f : qj) (r : Int),b c f = some r→Pure Tryz.prog tab q1F ([.agg (Qa c),.agg (Qa f)] ++ q1C) (qb r)) (g : List qj) (h : Int) (j : Int) (k : Int) (r : Int × Int × Int) (a : q48 b g h j k = some r) : K9 Tryz.prog tab 177 [.d (.sl 3 (g.map Qa)),q7 h,q7 j,.ref 0 1 0 0,.d (.fn q1F q1C)] [(0,.dat 1 [[qb k]])] 1 (.d (.tup [qb r.1,qb r.2.1])) [(0,.dat 1 [[qb r.2.2]])] 1:=by
 unfold q48 at a;refine Kq Tryz.func177 J qg qg J<|qc<|qa J<|qa J<|q9<|qf<|qf<|Qj [q6,q6,q6,q6,q6,q6,q6,q6,q6,q6,q6] qg<|U J<|U J<|U J<|q8 a fun l m a=>K1 m J<|O _ J<|U J<|U J<|q8 a fun n o a=>K1 o J<|O _ J<|q8 a fun p q a=>Ym _ (q1Ok l n p q) J J J (.inl J)<|O _ J<|q9 ?_;refine qo J a (fun _ a=>?_) (fun _ a=>?_)
 ·refine qc<|U J<|O _ J<|O _ J<|O _ J<|O _ J<|Q7 0 _ J<|qu<|U J<|U J<|qa J<|qa J<|qq ?_;obtain rfl:=qt a;exact ⟨.inr J,_,J,wkA [] [] []⟩
 refine ql<|qc<|U J<|U J<|qa J<|qa J<|qq ?_;obtain rfl:=qt a;exact ⟨.inr J,_,J,wkA [] [] []⟩
theorem qlw (f : qj→qj→Option Int) (q1F : FuncId) (q1C : List DV) (q1Ok : ∀ (n : qj) (o : qj) (r : Int),f n o = some r→Pure Tryz.prog tab q1F ([.agg (Qa n),.agg (Qa o)] ++ q1C) (qb r)) (g : List qj) (j : Int) (k : Int) (l : Int) (m : Int) (r : Int × Int) (a : q69 f g j k l m = some r) : K9 Tryz.prog tab 176 [.d (.sl 3 (g.map Qa)),q7 j,q7 k,q7 l,.ref 0 1 0 0,.d (.fn q1F q1C)] [(0,.dat 1 [[qb m]])] 1 (q7 r.1) [(0,.dat 1 [[qb r.2]])] 1:=by
 unfold q69 at a;refine Kq Tryz.func176 J qg qg J<|qc<|qa J<|qu<|U J<|U J<|U J<|U J<|U J<|q8 a fun b p a=>Kc [(0,0)] [(0,0)] _ (.d (.tup [qb b.1,qb b.2.1])) 1 [(0,.dat 1 [[qb b.2.2]])] 1 (qfw f q1F q1C q1Ok g j k m b p)<|U J<|O _ J<|O _ J<|qa J<|qa J<|qu<|U J<|U J<|U J<|U J<|U J<|q8 a fun c q a=>Kc [(0,0)] [(0,0)] _ (.d (.tup [qb c.1,qb c.2.1])) 1 [(0,.dat 1 [[qb c.2.2]])] 1 (qfw f q1F q1C q1Ok g b.2.1 l b.2.2 c q)<|U J<|O _ J<|O _ J<|qa J<|qa J<|qu<|U J<|U J<|U J<|U J<|U J<|q8 a fun h s a=>Kc [(0,0)] [(0,0)] _ (.d (.tup [qb h.1,qb h.2.1])) 1 [(0,.dat 1 [[qb h.2.2]])] 1 (qfw f q1F q1C q1Ok g b.1 c.1 c.2.2 h s)<|U J<|O _ J<|O _ J ?_;refine qa J<|qa J<|qu<|U J<|qa J<|qq ?_;obtain rfl:=qt a;exact ⟨.inr J,_,J,wkA [] [] []⟩
theorem qfu (c : qj→qj→Option Int) (q1F : FuncId) (q1C : List DV) (q1Ok : ∀ (j : qj) (k : qj) (r : Int),c j k = some r→Pure Tryz.prog tab q1F ([.agg (Qa j),.agg (Qa k)] ++ q1C) (qb r)) (f : List qj) (a : Int) (g : Int) (r : Int × Int) (b : q46 c f a g = some r) : K9 Tryz.prog tab 175 [.d (.sl 3 (f.map Qa)),q7 a,.ref 0 1 0 0,.d (.fn q1F q1C)] [(0,.dat 1 [[qb g]])] 1 (q7 r.1) [(0,.dat 1 [[qb r.2]])] 1:=by
 unfold q46 at b;refine Kq Tryz.func175 J qg qg J<|qc<|qa J<|qu<|U J<|U J<|O _ J<|U J<|U J<|O _ J<|U J<|U J<|q8 b fun h l b=>Kc [(0,0)] [(0,0)] _ (q7 h.1) 1 [(0,.dat 1 [[qb h.2]])] 1 (qlw c q1F q1C q1Ok f (w64 (a - 1)) a (w64 (a + 1)) g h l)<|qa J<|qq ?_;obtain rfl:=qt b;exact ⟨.inr J,_,J,wkA [] [] []⟩
theorem qx4 (h : List qj) (g : Int) (k : Int) (j : qj→qj→Option Int) (p3F : FuncId) (p3C : List DV) (p3Ok : ∀ (q : qj) (s : qj) (r : Int),j q s = some r→Pure Tryz.prog tab p3F ([.agg (Qa q),.agg (Qa s)] ++ p3C) (qb r)) (r : Int × Int) (a : q91 h g k j = some r) : Pure Tryz.prog tab 169 [.sl 3 (h.map Qa),qb g,qb k,.fn p3F p3C] (.tup [qb r.1,qb r.2]):=by
 unfold q91 at a;refine Qn Tryz.func169 J qg qg J<|qc<|qa J<|qa J<|qu<|U J<|U J<|O _ J<|qa J<|qu<|Qs J J<|qu<|U J<|U J<|O _ J<|O _ J<|O _ J<|qa J<|qu<|U J<|U J<|O _ J<|O _ J<|O _ J<|qa J<|qu<|U J<|U J<|O _ J<|O _ J<|O _ J<|qa J<|q9<|qf<|qc<|U J<|O _ J<|q9<|q8 a fun t f a=>?_;refine Z4 (fun l=>l = t) (fun l=>⟨[(11,.ref 0 1 0 0),(13,q7 l.1)],[(0,.dat 1 [[qb l.2]])],1⟩) qe ?_ ?_
 ·refine qo J f (fun _ f=>?_) (fun _ f=>?_)
  ·refine qf<|qc<|U J<|O _ J<|q9<|q8 f fun u b f=>?_;refine Z4 (fun c=>c = u) (fun c=>⟨[(0,.d (.sl 3 (h.map Qa))),(3,.d (.fn p3F p3C)),(11,.ref 0 1 0 0),(12,q7 c.1),(13,q7 c.2.1),(14,q7 c.2.2.1)],[(0,.dat 1 [[qb c.2.2.2]])],1⟩) qe ?_ ?_
   ·refine qo J b (fun _ b=>?_) (fun _ b=>?_)
    ·refine qc<|U J<|U J<|U J<|q8 b fun m v b=>Kc [(0,0)] [(0,0)] _ (q7 m.1) 1 [(0,.dat 1 [[qb m.2]])] 1 (qfu j p3F p3C p3Ok h (w64 (g + (w64 ((w64 (Int.tdiv (w64 (k - g)) 4)) * 1)))) 0 m v)<|qa J<|qu<|U J<|U J<|U J<|q8 b fun n w b=>Kc [(0,0)] [(0,0)] _ (q7 n.1) 1 [(0,.dat 1 [[qb n.2]])] 1 (qfu j p3F p3C p3Ok h (w64 (g + (w64 ((w64 (Int.tdiv (w64 (k - g)) 4)) * 2)))) m.2 n w)<|qa J<|q9<|Q0<|U J<|U J<|U J<|q8 b fun o x b=>Kc [(0,0)] [(0,0)] _ (q7 o.1) 1 [(0,.dat 1 [[qb o.2]])] 1 (qfu j p3F p3C p3Ok h (w64 (g + (w64 ((w64 (Int.tdiv (w64 (k - g)) 4)) * 3)))) n.2 o x)<|qa J<|qz ?_;obtain rfl:=qt b;exact ⟨_,J,wkA [(0,0)] [] []⟩
    refine ql<|Qh ?_;obtain rfl:=qt b;exact ⟨_,J,wkA [(0,0)] [] []⟩
   intro c hb;subst hb;refine Q0<|U J<|U J<|U J<|U J<|U J<|q8 f fun p y f=>Kc [(0,0)] [(0,0)] _ (q7 p.1) 1 [(0,.dat 1 [[qb p.2]])] 1 (qlw j p3F p3C p3Ok h c.1 c.2.1 c.2.2.1 c.2.2.2 p y)<|qa J<|qz ?_;obtain rfl:=qt f;exact ⟨_,J,wkA [(0,0)] [] []⟩
  refine ql<|Qh ?_;obtain rfl:=qt f;exact ⟨_,J,wkA [(0,0)] [] []⟩
 intro l hb;subst hb;refine qc<|O _ J<|q9<|Q4<|qc<|O _ J<|qa J<|q9 ?_;refine qo J a (fun _ a=>?_) (fun _ a=>?_)
 ·refine qc<|U J<|qa J<|qa J<|qq ?_;cases a;exact Q6 _ J
 refine qc<|O _ J<|qa J<|q9 ?_;refine qo J a (fun _ a=>?_) (fun _ a=>?_)
 ·refine qc<|U J<|qa J<|qa J<|qq ?_;cases a;exact Q6 _ J
 refine qc<|U J<|qa J<|qa J<|qq ?_;cases a;exact Q6 _ J
theorem qxk (g : qj→qj→Option Int) (q1F : FuncId) (q1C : List DV) (_q1Ok : ∀ (h : qj) (j : qj) (r : Int),g h j = some r→Pure Tryz.prog tab q1F ([.agg (Qa h),.agg (Qa j)] ++ q1C) (qb r)) (f : List qj) (k : Int) (l : Int) (r : List qj) (c : q9m g f k l = some r) : K9 Tryz.prog tab 170 [.hs 0 3 0 f.length,q7 k,q7 l,.d (.fn q1F q1C)] [(0,.dat 3 (f.map Qa))] 1 (.d (.tup [])) [(0,.dat 3 (r.map Qa))] 1:=by
 unfold q9m at c;refine Kq Tryz.func170 J qg qg J<|qc<|U J<|qa J<|qu<|U J<|O _ J<|qa J<|q9<|q8 c fun q s c=>Q4<|Qo (q9n) (fun b=>⟨[(0,.hs 0 3 0 b.2.2.length),(8,q7 b.1),(9,q7 b.2.1)],[(0,.dat 3 (b.2.2.map Qa))],1⟩) _ q s (wkA [] [] []) ?_;intro b v a;unfold q9n at a;refine qf<|qc<|U J<|U J<|O _ J<|q9 ?_;refine qo J a (fun _ a=>?_) (fun _ a=>?_)
 ·refine ql<|Q4<|qf<|Qj [Qp 0,q6,Qp 0,q6,qv 0,q6,q6,q6,qv 0,q6,q6,q6,q6,q6,q6,q6] qg<|U J<|U J<|U J<|U J<|U J<|U J<|q8 a fun t m a=>qy m J J<|Qc _ m J<|U J<|U J<|q8 a fun u n a=>qy n J J<|Qc _ n J<|q8 a fun w o a=>qy o J J<|K0 t o J J J J J J J J (leb J) J<|q8 a fun x p a=>qy p qe J<|K0 u p J J J J J J J J (leb J) J<|qu<|U J<|O _ J<|qa J<|q9<|Q0<|U J<|O _ J<|qa J<|qz<|Qm<|Qh<|⟨_,qr a,wkE [] [] [] J ⟨⟨_,J,K4 qe J qn (ltd J)⟩,qp J,qp J,trivial⟩ ⟨Qk J J,trivial⟩⟩
 refine Qf ?_;refine ⟨_,qr a,fun hm=>?_⟩;subst hm;obtain rfl:=qt c;exact ⟨.inl J,_,J,wkA [] [] []⟩
theorem qxa (o : qj→qj→Option Int) (q1F : FuncId) (q1C : List DV) (q1Ok : ∀ (x : qj) (y : qj) (r : Int),o x y = some r→Pure Tryz.prog tab q1F ([.agg (Qa x),.agg (Qa y)] ++ q1C) (qb r)) (w : List qj) (j : Int) (g : Int) (r : Bool × List qj) (p : q6a o w j g = some r) : K9 Tryz.prog tab 171 [.hs 0 3 0 w.length,q7 j,q7 g,.d (.fn q1F q1C)] [(0,.dat 3 (w.map Qa))] 1 (Q3 r.1) [(0,.dat 3 (r.2.map Qa))] 1:=by
 unfold q6a at p;refine Kq Tryz.func171 J qg qg J<|qc<|qa J<|qu<|U J<|O _ J<|qa J<|q9<|qf<|qc<|qa J<|q9<|q8 p fun z bk p=>?_;refine Qt (fun t=>.inl t = z) (fun t=>⟨[],[(0,.dat 3 (t.map Qa))],1⟩) qe ?_ ?_
 ·refine Qo (q6b g o j) (fun f=>⟨[(0,.hs 0 3 0 f.2.2.length),(1,q7 j),(2,q7 g),(3,.d (.fn q1F q1C)),(9,q7 f.1),(10,q7 f.2.1)],[(0,.dat 3 (f.2.2.map Qa))],1⟩) _ z bk (wkA [] [] []) ?_;intro f cm k;unfold q6b at k;refine qf<|qc<|U J<|O _ J<|q9 ?_;refine qo J k (fun _ k=>?_) (fun _ k=>?_)
  ·refine ql<|qf<|q8 k fun bl a k=>?_;refine Qt (fun q=>.inl q = bl) (fun q=>⟨[(0,.hs 0 3 0 q.2.length),(1,q7 j),(2,q7 g),(3,.d (.fn q1F q1C)),(9,q7 q.1),(10,q7 f.2.1)],[(0,.dat 3 (q.2.map Qa))],1⟩) qe ?_ ?_
   ·refine qf<|q8 a fun aa bm a=>?_;refine Qt (fun l=>l = aa) (fun l=>⟨[(0,.hs 0 3 0 f.2.2.length),(1,q7 j),(2,q7 g),(3,.d (.fn q1F q1C)),(9,q7 l),(10,q7 f.2.1)],[(0,.dat 3 (f.2.2.map Qa))],1⟩) qe ?_ ?_
    ·refine Qo (q98 g f o) (fun ab=>⟨[(0,.hs 0 3 0 f.2.2.length),(1,q7 j),(2,q7 g),(3,.d (.fn q1F q1C)),(9,q7 ab),(10,q7 f.2.1)],[(0,.dat 3 (f.2.2.map Qa))],1⟩) _ aa bm (wkA [] [] []) ?_;intro ab cn m;unfold q98 at m;refine qf<|qf<|Qj [q6,q6,q6,q6,qv 0,q6,q6,q6,q6,qv 0,q6,q6,q6,q6,q6,q6,q6,q6] qg<|U J<|U J<|O _ J<|q8 m fun bn h m=>?_;refine Qg 15 (fun A st=>∃ ac ad ae af ag ah ai aj ak al am an ao ap,st = A [(36,Q3 bn),(35,ap),(34,ao),(33,an),(32,am),(31,al),(30,ak),(29,aj),(28,ai),(27,ah),(26,ag),(25,af),(24,ae),(23,ad),(22,ac)]) ?_ ?_
     ·refine Qe J J h (fun h=>?_) (fun h=>?_)
      ·refine U J<|U J<|U J<|q8 h fun bo aq h=>qy aq J J<|Qc _ aq J<|U J<|U J<|O _ J<|q8 h fun bp ar h=>qy ar J J<|Qc _ ar J<|q8 h fun bq br h=>Ym _ (q1Ok bo bp bq br) J J J (.inl J)<|O _ J<|O _ J<|O _ J<|q9 ?_;cases h;exact ⟨_,_,_,_,_,_,_,_,_,_,_,_,_,_,J⟩
      refine qd J<|qd J<|qd J<|qd J<|qd J<|qd J<|qd J<|qd J<|qd J<|qd J<|qd J<|qd J<|qd J<|O _ J<|q9 ?_;cases h;exact ⟨_,_,_,_,_,_,_,_,_,_,_,_,_,_,J⟩
     rintro _ ⟨ac,ad,ae,af,ag,ah,ai,aj,ak,al,am,an,ao,ap,rfl⟩;refine q9 ?_;refine qo J m (fun _ m=>?_) (fun _ m=>?_)
     ·refine ql<|Q4<|Q0<|U J<|O _ J<|qa J<|qz<|Qm<|Qh<|⟨_,qr m,wkA [] [] []⟩
     refine Qf ?_;refine ⟨_,qr m,fun hm=>?_⟩;subst hm;exact ⟨_,J,wkA [] [] []⟩
    intro l hb;subst hb;refine qf<|qc<|U J<|U J<|O _ J<|q9 ?_;refine qo J a (fun _ a=>?_) (fun _ a=>?_)
    ·refine qc<|qa J<|qq ?_;obtain rfl:=qt a;refine ⟨_,qr k,fun hm=>?_⟩;subst hm;obtain rfl:=qt p;exact ⟨.inr J,_,J,wkA [] [] []⟩
    refine ql<|qf<|qc<|U J<|U J<|O _ J<|O _ J<|q9 ?_;refine qo J a (fun _ a=>?_) (fun _ a=>?_)
    ·refine qc<|qa J<|qq ?_;obtain rfl:=qt a;refine ⟨_,qr k,fun hm=>?_⟩;subst hm;obtain rfl:=qt p;exact ⟨.inr J,_,J,wkA [] [] []⟩
    refine ql<|qf<|Qj [Qp 0,q6,Qp 0,q6,qv 0,q6,q6,q6,qv 0,q6,q6,q6,q6,q6,q6,q6,q6,q6] qg<|U J<|U J<|U J<|U J<|O _ J<|U J<|U J<|O _ J<|q8 a fun bs au a=>qy au J J<|Qc _ au J<|U J<|U J<|q8 a fun bt av a=>qy av J J<|Qc _ av J<|q8 a fun co aw a=>qy aw J J<|K0 bs aw J J J J J J J J (leb J) J<|q8 a fun cp ax a=>qy ax qe J<|K0 bt ax J J J J J J J J (leb J) J<|q9<|qf<|qc<|U J<|U J<|O _ J<|O _ J<|q9<|q8 a fun bu n a=>?_;refine Z4 (fun s=>s = bu) (fun s=>⟨[(0,.hs 0 3 0 s.length),(1,q7 j),(2,q7 g),(3,.d (.fn q1F q1C)),(9,q7 l),(10,q7 f.2.1)],[(0,.dat 3 (s.map Qa))],1⟩) qe ?_ ?_
    ·refine qo J n (fun _ n=>?_) (fun _ n=>?_)
     ·refine qc<|U J<|O _ J<|qa J<|q9<|q8 n fun bv bw n=>Q4<|Qo (q99 o) (fun u=>⟨[(0,.hs 0 3 0 u.2.length),(1,q7 j),(2,q7 g),(3,.d (.fn q1F q1C)),(9,q7 l),(10,q7 f.2.1),(11,q7 u.1)],[(0,.dat 3 (u.2.map Qa))],1⟩) _ bv bw (wkE [] [] [] J ⟨⟨_,J,K4 qe J qn (ltd J)⟩,qp J,qp J,qp J,qp J,qp J,qp J,trivial⟩ ⟨Qk J J,trivial⟩) ?_;intro u cq b;unfold q99 at b;refine qf<|qc<|U J<|O _ J<|q9 ?_;refine qo J b (fun _ b=>?_) (fun _ b=>?_)
      ·refine ql<|qf<|Q4<|qf<|qf<|Qj [q6,q6,q6,qv 0,q6,q6,q6,q6,qv 0,q6,q6,q6,q6] qg<|U J<|U J<|U J<|q8 b fun bx ay b=>qy ay J J<|Qc _ ay J<|U J<|U J<|O _ J<|q8 b fun bz az b=>qy az J J<|Qc _ az J<|q8 b fun ca cb b=>Ym _ (q1Ok bx bz ca cb) J J J (.inl J)<|O _ J<|O _ J<|q9 ?_;refine qo J b (fun _ b=>?_) (fun _ b=>?_)
       ·refine Qf ?_;refine ⟨_,qr b,fun hm=>?_⟩;subst hm;obtain rfl:=qt n;exact ⟨_,J,wkA [] [] []⟩
       refine ql<|Qj [Qp 0,q6,Qp 0,q6,qv 0,q6,q6,q6,qv 0,q6,q6,q6,q6,q6,q6,q6,q6,q6] qg<|U J<|U J<|U J<|U J<|O _ J<|U J<|U J<|O _ J<|q8 b fun cc ba b=>qy ba J J<|Qc _ ba J<|U J<|U J<|q8 b fun cd bb b=>qy bb J J<|Qc _ bb J<|q8 b fun cr bc b=>qy bc J J<|K0 cc bc J J J J J J J J (leb J) J<|q8 b fun cs bd b=>qy bd qe J<|K0 cd bd J J J J J J J J (leb J) J<|qz<|Qm<|Q0<|U J<|O _ J<|qa J<|qz<|⟨_,qr b,wkE [] [] [] J ⟨⟨_,J,K4 qe J qn (ltd J)⟩,qp J,qp J,qp J,qp J,qp J,qp J,trivial⟩ ⟨Qk J J,trivial⟩⟩
      refine Qf ?_;refine ⟨_,qr b,fun hm=>?_⟩;subst hm;obtain rfl:=qt n;exact ⟨_,J,wkA [] [] []⟩
     refine ql<|Qh ?_;obtain rfl:=qt n;exact ⟨_,J,wkE [] [] [] J ⟨⟨_,J,K4 qe J qn (ltd J)⟩,qp J,qp J,qp J,qp J,qp J,trivial⟩ ⟨Qk J J,trivial⟩⟩
    intro s hb;subst hb;refine qc<|U J<|U J<|O _ J<|O _ J<|q9 ?_;refine qo J a (fun _ a=>?_) (fun _ a=>?_)
    ·refine qc<|U J<|O _ J<|qa J<|q9<|q8 a fun ce cf a=>Q4<|Qo (q9a g o l) (fun v=>⟨[(0,.hs 0 3 0 v.2.length),(1,q7 j),(2,q7 g),(3,.d (.fn q1F q1C)),(9,q7 l),(10,q7 f.2.1),(12,q7 v.1)],[(0,.dat 3 (v.2.map Qa))],1⟩) _ ce cf (wkA [] [] []) ?_;intro v ct c;unfold q9a at c;refine qf<|qc<|U J<|U J<|O _ J<|q9 ?_;refine qo J c (fun _ c=>?_) (fun _ c=>?_)
     ·refine ql<|qf<|Q4<|qf<|qf<|Qj [q6,q6,q6,qv 0,q6,q6,q6,q6,qv 0,q6,q6,q6,q6] qg<|U J<|U J<|U J<|q8 c fun cg be c=>qy be J J<|Qc _ be J<|U J<|U J<|O _ J<|q8 c fun ch bf c=>qy bf J J<|Qc _ bf J<|q8 c fun ci cj c=>Ym _ (q1Ok cg ch ci cj) J J J (.inl J)<|O _ J<|O _ J<|q9 ?_;refine qo J c (fun _ c=>?_) (fun _ c=>?_)
      ·refine Qf ?_;refine ⟨_,qr c,fun hm=>?_⟩;subst hm;obtain rfl:=qt a;exact ⟨_,J,wkA [] [] []⟩
      refine ql<|Qj [Qp 0,q6,Qp 0,q6,qv 0,q6,q6,q6,qv 0,q6,q6,q6,q6,q6,q6,q6,q6,q6] qg<|U J<|U J<|U J<|U J<|O _ J<|U J<|U J<|O _ J<|q8 c fun ck bg c=>qy bg J J<|Qc _ bg J<|U J<|U J<|q8 c fun cl bh c=>qy bh J J<|Qc _ bh J<|q8 c fun cu bi c=>qy bi J J<|K0 ck bi J J J J J J J J (leb J) J<|q8 c fun cv bj c=>qy bj qe J<|K0 cl bj J J J J J J J J (leb J) J<|qz<|Qm<|Q0<|U J<|O _ J<|qa J<|qz<|⟨_,qr c,wkE [] [] [] J ⟨⟨_,J,K4 qe J qn (ltd J)⟩,qp J,qp J,qp J,qp J,qp J,qp J,trivial⟩ ⟨Qk J J,trivial⟩⟩
     refine Qf ?_;refine ⟨_,qr c,fun hm=>?_⟩;subst hm;obtain rfl:=qt a;exact ⟨_,J,wkA [] [] []⟩
    refine ql<|Qh ?_;obtain rfl:=qt a;exact ⟨_,J,wkA [] [] []⟩
   intro q hb;subst hb;refine Q0<|U J<|O _ J<|qa J<|qz<|⟨_,qr k,wkA [] [] []⟩
  refine Qf ?_;refine ⟨_,qr k,fun hm=>?_⟩;subst hm;exact ⟨_,J,wkA [] [] []⟩
 intro t hb;subst hb;refine qc<|qa J<|qq ?_;obtain rfl:=qt p;exact ⟨.inr J,_,J,wkA [] [] []⟩
theorem qxd (m : qj→qj→Option Int) (q1F : FuncId) (q1C : List DV) (q1Ok : ∀ (q : qj) (s : qj) (r : Int),m q s = some r→Pure Tryz.prog tab q1F ([.agg (Qa q),.agg (Qa s)] ++ q1C) (qb r)) (p : List qj) (h : Int) (t : Int) (u : Int) (r : Int × List qj) (c : q9i m p h t u = some r) : K9 Tryz.prog tab 172 [.hs 0 3 0 p.length,q7 h,q7 t,q7 u,.d (.fn q1F q1C)] [(0,.dat 3 (p.map Qa))] 1 (q7 r.1) [(0,.dat 3 (r.2.map Qa))] 1:=by
 unfold q9i at c;refine Kq Tryz.func172 J qg qg J<|qc<|qa J<|q9<|qf<|Qj [Qp 0,q6,Qp 0,q6,qv 0,q6,q6,q6,qv 0,q6,q6,q6,q6,q6,q6,q6] qg<|U J<|U J<|U J<|U J<|U J<|U J<|q8 c fun bn v c=>qy v J J<|Qc _ v J<|U J<|U J<|q8 c fun bo w c=>qy w J J<|Qc _ w J<|q8 c fun cf x c=>qy x J J<|K0 bn x J J J J J J J J (leb J) J<|q8 c fun cg y c=>qy y qe J<|K0 bo y J J J J J J J J (leb J) J<|qu<|U J<|O _ J<|U J<|O _ J<|qa J<|qa J<|q9<|qf<|q8 c fun z bp c=>?_;refine Qt (fun n=>n = z) (fun n=>⟨[(11,q7 n.1)],[(0,.dat 3 (n.2.map Qa))],1⟩) qe ?_ ?_
 ·refine Qo (q9j h m) (fun b=>⟨[(0,.hs 0 3 0 b.2.2.length),(1,q7 h),(4,.d (.fn q1F q1C)),(11,q7 b.1),(12,q7 b.2.1)],[(0,.dat 3 (b.2.2.map Qa))],1⟩) _ z bp (wkE [] [] [] J ⟨⟨_,J,K4 qe J qn (ltd J)⟩,qp J,qp J,qp J,qp J,trivial⟩ ⟨Qk J J,trivial⟩) ?_;intro b ch a;unfold q9j at a;refine Q4<|qf<|q8 a fun aa bq a=>?_;refine Qt (fun l=>l = aa) (fun l=>⟨[(0,.hs 0 3 0 b.2.2.length),(1,q7 h),(4,.d (.fn q1F q1C)),(11,q7 l),(12,q7 b.2.1)],[(0,.dat 3 (b.2.2.map Qa))],1⟩) qe ?_ ?_
  ·refine Qo (q9k b h m) (fun ab=>⟨[(0,.hs 0 3 0 b.2.2.length),(1,q7 h),(4,.d (.fn q1F q1C)),(11,q7 ab),(12,q7 b.2.1)],[(0,.dat 3 (b.2.2.map Qa))],1⟩) _ aa bq (wkA [] [] []) ?_;intro ab ci j;unfold q9k at j;refine qf<|qf<|Qj [q6,q6,q6,q6,qv 0,q6,q6,q6,qv 0,q6,q6,q6,q6,q6,q6,q6,q6] qg<|U J<|U J<|O _ J<|q8 j fun br f j=>?_;refine Qg 14 (fun A st=>∃ ac ad ae af ag ah ai aj ak al am an ao,st = A [(47,Q3 br),(46,ao),(45,an),(44,am),(43,al),(42,ak),(41,aj),(40,ai),(39,ah),(38,ag),(37,af),(36,ae),(35,ad),(34,ac)]) ?_ ?_
   ·refine Qe J J f (fun f=>?_) (fun f=>?_)
    ·refine U J<|U J<|U J<|q8 f fun bs ap f=>qy ap J J<|Qc _ ap J<|U J<|U J<|q8 f fun bt aq f=>qy aq J J<|Qc _ aq J<|q8 f fun bu bv f=>Ym _ (q1Ok bs bt bu bv) J J J (.inl J)<|O _ J<|O _ J<|O _ J<|q9 ?_;cases f;exact ⟨_,_,_,_,_,_,_,_,_,_,_,_,_,J⟩
    refine qd J<|qd J<|qd J<|qd J<|qd J<|qd J<|qd J<|qd J<|qd J<|qd J<|qd J<|qd J<|O _ J<|q9 ?_;cases f;exact ⟨_,_,_,_,_,_,_,_,_,_,_,_,_,J⟩
   rintro _ ⟨ac,ad,ae,af,ag,ah,ai,aj,ak,al,am,an,ao,rfl⟩;refine q9 ?_;refine qo J j (fun _ j=>?_) (fun _ j=>?_)
   ·refine ql<|Q4<|Q0<|U J<|O _ J<|qa J<|qz<|Qm<|Qh<|⟨_,qr j,wkA [] [] []⟩
   refine Qf ?_;refine ⟨_,qr j,fun hm=>?_⟩;subst hm;exact ⟨_,J,wkA [] [] []⟩
  intro l hb;subst hb;refine qf<|q8 a fun ar bw a=>?_;refine Qt (fun o=>o = ar) (fun o=>⟨[(0,.hs 0 3 0 b.2.2.length),(1,q7 h),(4,.d (.fn q1F q1C)),(11,q7 l),(12,q7 o)],[(0,.dat 3 (b.2.2.map Qa))],1⟩) qe ?_ ?_
  ·refine Qo (q9l l b h m) (fun au=>⟨[(0,.hs 0 3 0 b.2.2.length),(1,q7 h),(4,.d (.fn q1F q1C)),(11,q7 l),(12,q7 au)],[(0,.dat 3 (b.2.2.map Qa))],1⟩) _ ar bw (wkA [] [] []) ?_;intro au cj k;unfold q9l at k;refine qf<|qf<|Qj [q6,q6,q6,qv 0,q6,q6,q6,qv 0,q6,q6,q6,q6,q6,q6,q6,q6] qg<|U J<|U J<|O _ J<|q8 k fun bx g k=>?_;refine Qg 13 (fun A st=>∃ av aw ax ay az ba bb bc bd be bf bg,st = A [(65,Q3 bx),(64,bg),(63,bf),(62,be),(61,bd),(60,bc),(59,bb),(58,ba),(57,az),(56,ay),(55,ax),(54,aw),(53,av)]) ?_ ?_
   ·refine Qe J J g (fun g=>?_) (fun g=>?_)
    ·refine U J<|U J<|U J<|q8 g fun bz bh g=>qy bh J J<|Qc _ bh J<|U J<|U J<|q8 g fun ca bi g=>qy bi J J<|Qc _ bi J<|q8 g fun cb cc g=>Ym _ (q1Ok bz ca cb cc) J J J (.inl J)<|O _ J<|O _ J<|q9 ?_;cases g;exact ⟨_,_,_,_,_,_,_,_,_,_,_,_,J⟩
    refine qd J<|qd J<|qd J<|qd J<|qd J<|qd J<|qd J<|qd J<|qd J<|qd J<|qd J<|O _ J<|q9 ?_;cases g;exact ⟨_,_,_,_,_,_,_,_,_,_,_,_,J⟩
   rintro _ ⟨av,aw,ax,ay,az,ba,bb,bc,bd,be,bf,bg,rfl⟩;refine q9 ?_;refine qo J k (fun _ k=>?_) (fun _ k=>?_)
   ·refine ql<|Q4<|Q0<|U J<|O _ J<|qa J<|qz<|Qm<|Qh<|⟨_,qr k,wkA [] [] []⟩
   refine Qf ?_;refine ⟨_,qr k,fun hm=>?_⟩;subst hm;exact ⟨_,J,wkA [] [] []⟩
  intro o hb;subst hb;refine qf<|qc<|U J<|U J<|O _ J<|q9 ?_;refine qo J a (fun _ a=>?_) (fun _ a=>?_)
  ·refine Qf ?_;refine ⟨_,qr a,fun hm=>?_⟩;subst hm;exact ⟨_,J,wkA [] [] []⟩
  refine ql<|qf<|Qj [Qp 0,q6,Qp 0,q6,qv 0,q6,q6,q6,qv 0,q6,q6,q6,q6,q6,q6,q6] qg<|U J<|U J<|U J<|U J<|U J<|U J<|q8 a fun cd bj a=>qy bj J J<|Qc _ bj J<|U J<|U J<|q8 a fun ce bk a=>qy bk J J<|Qc _ bk J<|q8 a fun ck bl a=>qy bl J J<|K0 cd bl J J J J J J J J (leb J) J<|q8 a fun cl bm a=>qy bm qe J<|K0 ce bm J J J J J J J J (leb J) J<|qu<|U J<|O _ J<|qa J<|q9<|Q0<|U J<|O _ J<|qa J<|qz<|Qm<|Qh<|⟨_,qr a,wkE [] [] [] J ⟨⟨_,J,K4 qe J qn (ltd J)⟩,qp J,qp J,qp J,qp J,trivial⟩ ⟨Qk J J,trivial⟩⟩
 intro n hb;subst hb;refine qc<|U J<|qa J<|qq ?_;obtain rfl:=qt c;exact ⟨.inr J,_,J,wkA [] [] []⟩
end Go.Proofs.YtiejlbckgihckaaGreat
