/- W_Alla -/
import Derived.Test.YtiejlbckgihckaaGreatK14
namespace Go.Proofs.YtiejlbckgihckaaGreat
open Go Go.Am Go.Sh
set_option maxHeartbeats 8000000
set_option maxRecDepth 100000
theorem Zy (a : Int) (b : Int) (c : Int) (d : Int) (f : Int) (g : Int) (r : qe) (h : Yr a b c d f g = some r) : Pure Tryz.prog tab 14 [qg a,qg b,qg c,qg d,qg f,qg g] (.agg (Q5 r)):=by
 unfold Yr at h;refine Qp Tryz.func14 J qh qh J<|qc<|K2 J J<|qs<|U J<|U J<|U J<|O _ J<|U J<|U J<|U J<|O _ J<|O _ J<|Qi 0 _ J<|qv ?_;cases h;exact Q8 _ J
theorem q23 (r : List qe) (a : Jk = some r) : Pure Tryz.prog tab 17 [] (.sl 6 (r.map Q5)):=by
 unfold Jk at a;refine Qp Tryz.func17 J qh qh J<|qc<|qa J<|qs<|q8 a fun b c a=>Q4 (Zy 0 0 0 2 2 1 b c) J<|q8 a fun d f a=>Q4 (Zy 0 0 1 1 2 2 d f) J<|Qs _ _ J<|qa J<|qv ?_;obtain rfl:=qt a;exact finD (.inr J) J (Z9 J J) (.refl _)
theorem qzh (b : List qe) (f : qe→Option Bool) (p1F : FuncId) (p1C : List DV) (p1Ok : ∀ (h : qe) (r : Bool),f h = some r→Pure Tryz.prog tab p1F ([.agg (Q5 h)] ++ p1C) (.bool r)) (r : Int) (c : qa7 b f = some r) : Pure Tryz.prog tab 63 [.sl 6 (b.map Q5),.fn p1F p1C] (qg r):=by
 unfold qa7 at c;refine Qp Tryz.func63 J qh qh J<|qc<|qa J<|q9<|qf<|qc<|U J<|Qr J<|U J<|q9<|q8 c fun j l c=>?_;refine Qn (fun g=>.inl g = j) (fun g=>⟨[],[],0⟩) qd ?_ ?_
 ·refine Qk (q1h b f) (fun k=>⟨[(0,.d (.sl 6 (b.map Q5))),(1,.d (.fn p1F p1C)),(7,q7 (b.length : Int)),(8,q7 k)],[],0⟩) _ j l (wkA [] [] []) ?_;intro k q a;unfold q1h at a;refine qc<|O _ J<|q9<|qf ?_;refine qo J a (fun _ a=>?_) (fun _ a=>?_)
  ·refine qm<|qf<|Q7<|qc<|U J<|qa J<|qs<|U J<|U J<|U J<|q8 a fun m n a=>Qh n J<|O _ J<|q8 a fun o p a=>Ys _ (p1Ok m o p) J J J (.inl J)<|q9 ?_;refine qo J a (fun _ a=>?_) (fun _ a=>?_)
   ·refine qc<|U J<|qa J<|qv ?_;refine ⟨_,qp a,fun hm=>?_⟩;subst hm;cases c;exact Q8 _ J
   refine qm<|Qm<|Qo<|qz<|O _ J<|U J<|qy<|⟨_,qp a,wkA [] [] []⟩
  refine Qe ?_;refine ⟨_,qp a,fun hm=>?_⟩;subst hm;exact ⟨_,J,wkA [] [] []⟩
 intro g hb;subst hb;refine qc<|qa J<|qv ?_;cases c;exact Q8 _ J
theorem qnp (b : List qe) (c : qe→Option Bool) (p1F : FuncId) (p1C : List DV) (p1Ok : ∀ (d : qe) (r : Bool),c d = some r→Pure Tryz.prog tab p1F ([.agg (Q5 d)] ++ p1C) (.bool r)) (r : Bool) (a : q4n b c = some r) : Pure Tryz.prog tab 37 [.sl 6 (b.map Q5),.fn p1F p1C] (.bool r):=by
 unfold q4n at a;refine Qp Tryz.func37 J qh qh J<|qc<|qa J<|qs<|U J<|U J<|q8 a fun f g a=>Q4 (qzh b c p1F p1C p1Ok f g) J<|O _ J<|qa J<|qv ?_;cases a;exact Q8 _ J
theorem qob (a : Q6) (r : Bool) (c : q8b a = some r) : Pure Tryz.prog tab 57 [.agg (Zq a)] (.bool r):=by
 unfold q8b at c;refine Qp Tryz.func57 J qh qh J<|qc<|Qs _ _ J<|qa J<|qs<|O _ J<|O _ J<|O _ J<|O _ J<|O _ J<|O _ J<|Ut (r:=min (min a.X a.Y) a.Z) J J (by simp only [Ur];rfl)<|O _ J<|q8 c fun o b c=>?_;refine Qc 10 (fun A st=>∃ d f g h j k l m n,st = A [(20,Q0 o),(19,n),(18,m),(17,l),(16,k),(15,j),(14,h),(13,g),(12,f),(11,d)]) ?_ ?_
 ·refine Qa J J b (fun b=>?_) (fun b=>?_)
  ·refine O _ J<|O _ J<|O _ J<|O _ J<|O _ J<|O _ J<|Us (r:=max (max a.X a.Y) a.Z) J J (by simp only [Uq];rfl)<|O _ J<|O _ J<|q9 ?_;cases b;exact ⟨_,_,_,_,_,_,_,_,_,J⟩
  refine qb J<|qb J<|qb J<|qb J<|qb J<|qb J<|qb J<|qb J<|O _ J<|q9 ?_;cases b;exact ⟨_,_,_,_,_,_,_,_,_,J⟩
 rintro _ ⟨d,f,g,h,j,k,l,m,n,rfl⟩;refine qa J<|qv ?_;cases c;exact Q8 _ J
theorem qof (g : qe) (r : Bool) (a : q8e g = some r) : Pure Tryz.prog tab 33 [.agg (Q5 g)] (.bool r):=by
 unfold q8e at a;refine Qp Tryz.func33 J qh qh J<|qc<|Qs _ _ J<|qa J<|qs<|O _ J<|O _ J<|O _ J<|O _ J<|O _ J<|O _ J<|O _ J<|q8 a fun c1 d a=>?_;refine Qc 9 (fun A st=>∃ h j k l m n o p,st = A [(18,Q0 c1),(17,p),(16,o),(15,n),(14,m),(13,l),(12,k),(11,j),(10,h)]) ?_ ?_
 ·refine Qa J J d (fun d=>?_) (fun d=>?_)
  ·refine O _ J<|O _ J<|O _ J<|O _ J<|O _ J<|O _ J<|O _ J<|O _ J<|q9 ?_;cases d;exact ⟨_,_,_,_,_,_,_,_,J⟩
  refine qb J<|qb J<|qb J<|qb J<|qb J<|qb J<|qb J<|O _ J<|q9 ?_;cases d;exact ⟨_,_,_,_,_,_,_,_,J⟩
 rintro _ ⟨h,j,k,l,m,n,o,p,rfl⟩;refine q8 a fun ai f a=>?_;refine Qc 9 (fun A st=>∃ q s t u v w x y,st = A [(27,Q0 ai),(26,y),(25,x),(24,w),(23,v),(22,u),(21,t),(20,s),(19,q)]) ?_ ?_
 ·refine Qa J J f (fun f=>?_) (fun f=>?_)
  ·refine O _ J<|O _ J<|O _ J<|O _ J<|O _ J<|O _ J<|O _ J<|O _ J<|q9 ?_;cases f;exact ⟨_,_,_,_,_,_,_,_,J⟩
  refine qb J<|qb J<|qb J<|qb J<|qb J<|qb J<|qb J<|O _ J<|q9 ?_;cases f;exact ⟨_,_,_,_,_,_,_,_,J⟩
 rintro _ ⟨q,s,t,u,v,w,x,y,rfl⟩;refine q8 a fun aj b a=>?_;refine Qc 5 (fun A st=>∃ z aa ab ac,st = A [(32,Q0 aj),(31,ac),(30,ab),(29,aa),(28,z)]) ?_ ?_
 ·refine Qa J J b (fun b=>?_) (fun b=>?_)
  ·refine O _ J<|O _ J<|q8 b fun ak al b=>Q4 (qob g.Lo ak al) J<|O _ J<|q9 ?_;cases b;exact ⟨_,_,_,_,J⟩
  refine qb J<|qb J<|qb J<|O _ J<|q9 ?_;cases b;exact ⟨_,_,_,_,J⟩
 rintro _ ⟨z,aa,ab,ac,rfl⟩;refine q8 a fun am c a=>?_;refine Qc 5 (fun A st=>∃ ad ae af ag,st = A [(37,Q0 am),(36,ag),(35,af),(34,ae),(33,ad)]) ?_ ?_
 ·refine Qa J J c (fun c=>?_) (fun c=>?_)
  ·refine O _ J<|O _ J<|q8 c fun an ao c=>Q4 (qob g.Hi an ao) J<|O _ J<|q9 ?_;cases c;exact ⟨_,_,_,_,J⟩
  refine qb J<|qb J<|qb J<|O _ J<|q9 ?_;cases c;exact ⟨_,_,_,_,J⟩
 rintro _ ⟨ad,ae,af,ag,rfl⟩;refine qa J<|qv ?_;cases a;exact Q8 _ J
theorem q126 (b : qe) (r : Bool) (a : q3j b = some r) : Pure Tryz.prog tab 38 [.agg (Q5 b)] (.bool r):=by
 unfold q3j at a;refine Qp Tryz.func38 J qh qh J<|qc<|Qs _ _ J<|qa J<|qs<|O _ J<|q8 a fun c d a=>Q4 (qof b c d) J<|O _ J<|qa J<|qv ?_;cases a;exact Q8 _ J
theorem qu7 (k : Int) (r : Int) (a : q37 k = some r) : Pure Tryz.prog tab 146 [.int .u64 k] (qg r):=by
 unfold q37 at a;refine Qp Tryz.func146 J qh qh J<|qc<|qa J<|q9<|qf<|qc<|U J<|O _ J<|q9<|q8 a fun l b a=>?_;refine Z2 (fun c=>c = l) (fun c=>⟨[(0,.d (.int .u64 c.1)),(2,q7 c.2)],[],0⟩) qd ?_ ?_
 ·refine qo J b (fun _ b=>?_) (fun _ b=>?_)
  ·refine qc<|U J<|O _ J<|qa J<|q9<|qz<|qa J<|qy ?_;obtain rfl:=qt b;exact ⟨_,J,wkA [] [] []⟩
  refine qm<|Qm ?_;obtain rfl:=qt b;exact ⟨_,J,wkA [] [] []⟩
 intro c hb;subst hb;refine qf<|qc<|U J<|O _ J<|q9<|q8 a fun m f a=>?_;refine Z2 (fun g=>g = m) (fun g=>⟨[(0,.d (.int .u64 g.1)),(2,q7 g.2)],[],0⟩) qd ?_ ?_
 ·refine qo J f (fun _ f=>?_) (fun _ f=>?_)
  ·refine qc<|U J<|O _ J<|qa J<|q9<|qz<|U J<|O _ J<|qa J<|qy ?_;obtain rfl:=qt f;exact ⟨_,J,wkA [] [] []⟩
  refine qm<|Qm ?_;obtain rfl:=qt f;exact ⟨_,J,wkA [] [] []⟩
 intro g hb;subst hb;refine qf<|qc<|U J<|O _ J<|q9<|q8 a fun n h a=>?_;refine Z2 (fun j=>j = n) (fun j=>⟨[(0,.d (.int .u64 j.1)),(2,q7 j.2)],[],0⟩) qd ?_ ?_
 ·refine qo J h (fun _ h=>?_) (fun _ h=>?_)
  ·refine qc<|U J<|O _ J<|qa J<|q9<|qz<|U J<|O _ J<|qa J<|qy ?_;obtain rfl:=qt h;exact ⟨_,J,wkA [] [] []⟩
  refine qm<|Qm ?_;obtain rfl:=qt h;exact ⟨_,J,wkA [] [] []⟩
 intro j hb;subst hb;refine qc<|U J<|U J<|O _ J<|q8 a fun p o a=>quv qdq o J J J J J<|O _ J<|O _ J<|qa J<|qv ?_;cases a;exact Q8 _ J
theorem qg2 (b : Int) (r : Int) (a : q1e b = some r) : Pure Tryz.prog tab 112 [.int .u64 b] (qg r):=by
 unfold q1e at a;refine Qp Tryz.func112 J qh qh J<|qc<|qa J<|q9<|qf<|Zm J<|qm<|qc<|U J<|q8 a fun c d a=>Q4 (qu7 b c d) J<|qa J<|qv ?_;cases a;exact Q8 _ J
theorem qiz (a : Int) (r : Bool) (b : q8w a = some r) : Pure Tryz.prog tab 123 [qg a] (.bool r):=by
 unfold q8w at b;refine Qp Tryz.func123 J qh qh J<|qc<|qa J<|qs<|U J<|U J<|O _ J<|qa J<|qv ?_;cases b;exact Q8 _ J
theorem J4 (d : Int) (f : Int) (r : Bool) (a : Zb d f = some r) : Pure Tryz.prog tab 100 [qg d,qg f] (.bool r):=by
 unfold Zb at a;refine Qp Tryz.func100 J qh qh J<|qc<|qa J<|qs<|U J<|q8 a fun p q a=>Q4 (qiz d p q) J<|q8 a fun s b a=>?_;refine Qc 5 (fun A st=>∃ g h j k,st = A [(11,Q0 s),(10,k),(9,j),(8,h),(7,g)]) ?_ ?_
 ·refine Qa J J b (fun b=>?_) (fun b=>?_)
  ·refine U J<|q8 b fun t u b=>Q4 (qiz f t u) J<|O _ J<|O _ J<|q9 ?_;cases b;exact ⟨_,_,_,_,J⟩
  refine qb J<|qb J<|qb J<|O _ J<|q9 ?_;cases b;exact ⟨_,_,_,_,J⟩
 rintro _ ⟨g,h,j,k,rfl⟩;refine q8 a fun v c a=>?_;refine Qc 5 (fun A st=>∃ l m n o,st = A [(16,Q0 v),(15,o),(14,n),(13,m),(12,l)]) ?_ ?_
 ·refine Qa J J c (fun c=>?_) (fun c=>?_)
  ·refine qb J<|qb J<|qb J<|O _ J<|q9 ?_;cases c;exact ⟨_,_,_,_,J⟩
  refine U J<|U J<|O _ J<|O _ J<|q9 ?_;cases c;exact ⟨_,_,_,_,J⟩
 rintro _ ⟨l,m,n,o,rfl⟩;refine qa J<|qv ?_;cases a;exact Q8 _ J
theorem qzs (m : List Int) (f : Int) (g : Int) (r : List Int) (k : q7e  m f g = some r) : K8 Tryz.prog tab 137 [.hs 0 1 0 m.length,q7 f,q7 g] [(0,.dat 1 (m.map (eI .i64)))] 1 (.d (.tup [])) [(0,.dat 1 (r.map (eI .i64)))] 1:=by
 unfold q7e at k;refine Kr Tryz.func137 J qh qh J<|qc<|U J<|O _ J<|qa J<|q9<|q8 k fun ai aj k=>Q7<|Qk (q7f g f) (fun h=>⟨[(0,.hs 0 1 0 h.2.length),(1,q7 f),(2,q7 g),(6,q7 h.1)],[(0,.dat 1 (h.2.map (eI .i64)))],1⟩) _ ai aj (wkA [] [] []) ?_;intro h au c;unfold q7f at c;refine qf<|qc<|U J<|U J<|O _ J<|q9 ?_;refine qo J c (fun _ c=>?_) (fun _ c=>?_)
 ·refine qm<|qf<|q8 c fun ak n c=>?_;refine Qn (fun j=>j = ak) (fun j=>⟨[(0,.hs 0 1 0 j.length),(1,q7 f),(2,q7 g),(6,q7 h.1)],[(0,.dat 1 (j.map (eI .i64)))],1⟩) qd ?_ ?_
  ·refine qc<|U J<|qa J<|q9<|q8 n fun al am n=>Q7<|Qk (q7g f) (fun l=>⟨[(0,.hs 0 1 0 l.2.length),(1,q7 f),(2,q7 g),(6,q7 h.1),(7,q7 l.1)],[(0,.dat 1 (l.2.map (eI .i64)))],1⟩) _ al am (wkA [] [] []) ?_;intro l av a;unfold q7g at a;refine qf<|qf<|Ql [q6,q6,qu 0,q6,q6,q6,q6,qu 0,q6,q6,q6,q6,q6,q6,q6] qh<|U J<|U J<|O _ J<|q8 a fun an b a=>?_;refine Qc 12 (fun A st=>∃ o p q s t u v w x y z,st = A [(30,Q0 an),(29,z),(28,y),(27,x),(26,w),(25,v),(24,u),(23,t),(22,s),(21,q),(20,p),(19,o)]) ?_ ?_
   ·refine Qa J J b (fun b=>?_) (fun b=>?_)
    ·refine U J<|U J<|q8 b fun ao aa b=>qx aa J J<|Qd _ aa J<|U J<|U J<|O _ J<|q8 b fun ap ab b=>qx ab J J<|Qd _ ab J<|q8 b fun aq ar b=>Q4 (J4 ao ap aq ar) J<|O _ J<|q9 ?_;cases b;exact ⟨_,_,_,_,_,_,_,_,_,_,_,J⟩
    refine qb J<|qb J<|qb J<|qb J<|qb J<|qb J<|qb J<|qb J<|qb J<|qb J<|O _ J<|q9 ?_;cases b;exact ⟨_,_,_,_,_,_,_,_,_,_,_,J⟩
   rintro _ ⟨o,p,q,s,t,u,v,w,x,y,z,rfl⟩;refine q9 ?_;refine qo J a (fun _ a=>?_) (fun _ a=>?_)
   ·refine qm<|qf<|Q7<|Ql [Qv 0,q6,Qv 0,q6,qu 0,q6,q6,q6,qu 0,q6,q6,q6,q6,q6,q6,q6,q6,q6] qh<|U J<|U J<|U J<|U J<|O _ J<|U J<|U J<|O _ J<|q8 a fun ac ad a=>qx ad J J<|Qd _ ad J<|U J<|U J<|q8 a fun ae af a=>qx af J J<|Qd _ af J<|q8 a fun aw ag a=>qx ag J J<|K3 (ds:=[qg ac]) ac ag J J J J J J J J (leb J) J<|q8 a fun ax ah a=>qx ah qd J<|K3 (ds:=[qg ae]) ae ah J J J J J J J J (leb J) J<|qy<|Qo<|qz<|U J<|O _ J<|qa J<|qy<|⟨_,qp a,wkE [] [] [] J ⟨⟨_,J,K6 qd J Q1 (ltd J)⟩,qn J,qn J,qn J,qn J,trivial⟩ ⟨Qq J J,trivial⟩⟩
   refine Qe ?_;refine ⟨_,qp a,fun hm=>?_⟩;subst hm;obtain rfl:=qt n;exact ⟨_,J,wkA [] [] []⟩
  intro j hb;subst hb;refine qz<|U J<|O _ J<|qa J<|qy<|⟨_,qp c,wkA [] [] []⟩
 refine Qe ?_;refine ⟨_,qp c,fun hm=>?_⟩;subst hm;obtain rfl:=qt k;exact ⟨.inl J,_,J,wkA [] [] []⟩
theorem qnv (l : List Int) (m : Int) (f : Int) (g : Int) (r : List Int) (h : q4y  l m f g = some r) : K8 Tryz.prog tab 157 [.hs 0 1 0 l.length,q7 m,q7 f,q7 g] [(0,.dat 1 (l.map (eI .i64)))] 1 (.d (.tup [])) [(0,.dat 1 (r.map (eI .i64)))] 1:=by
 unfold q4y at h;refine Kr Tryz.func157 J qh qh J<|qc<|U J<|qa J<|q9<|q8 h fun an ao h=>Q7<|Qk (q82 f g) (fun c=>⟨[(0,.hs 0 1 0 c.2.length),(2,q7 f),(3,q7 g),(8,q7 c.1)],[(0,.dat 1 (c.2.map (eI .i64)))],1⟩) _ an ao (wkA [] [] []) ?_;intro c bb a;unfold q82 at a;refine Q7<|qc<|U J<|O _ J<|O _ J<|qa J<|q9<|qf<|qc<|U J<|U J<|O _ J<|q9 ?_;refine qo J a (fun _ a=>?_) (fun _ a=>?_)
 ·refine Qe ?_;refine ⟨_,qp a,fun hm=>?_⟩;subst hm;obtain rfl:=qt h;exact ⟨.inl J,_,J,wkA [] [] []⟩
 refine qm<|qf<|qf<|Ql [q6,q6,qu 0,q6,q6,q6,q6,q6,q6,qu 0,q6,q6,q6,q6,q6,q6,q6,q6,q6,q6] qh<|U J<|O _ J<|U J<|O _ J<|q8 a fun ap b a=>?_;refine Qc 16 (fun A st=>∃ n o p q s t u v w x y z aa ab ac,st = A [(36,Q0 ap),(35,ac),(34,ab),(33,aa),(32,z),(31,y),(30,x),(29,w),(28,v),(27,u),(26,t),(25,s),(24,q),(23,p),(22,o),(21,n)]) ?_ ?_
 ·refine Qa J J b (fun b=>?_) (fun b=>?_)
  ·refine U J<|U J<|U J<|O _ J<|q8 b fun aq ad b=>qx ad J J<|Qd _ ad J<|U J<|U J<|U J<|O _ J<|O _ J<|q8 b fun ar ae b=>qx ae J J<|Qd _ ae J<|q8 b fun au av b=>Q4 (J4 aq ar au av) J<|O _ J<|q9 ?_;cases b;exact ⟨_,_,_,_,_,_,_,_,_,_,_,_,_,_,_,J⟩
  refine qb J<|qb J<|qb J<|qb J<|qb J<|qb J<|qb J<|qb J<|qb J<|qb J<|qb J<|qb J<|qb J<|qb J<|O _ J<|q9 ?_;cases b;exact ⟨_,_,_,_,_,_,_,_,_,_,_,_,_,_,_,J⟩
 rintro _ ⟨n,o,p,q,s,t,u,v,w,x,y,z,aa,ab,ac,rfl⟩;refine q9<|q8 a fun aw j a=>?_;refine Z2 (fun k=>k = aw) (fun k=>⟨[(0,.hs 0 1 0 c.2.length),(2,q7 f),(3,q7 g),(8,q7 c.1),(9,q7 k)],[(0,.dat 1 (c.2.map (eI .i64)))],1⟩) qd ?_ ?_
 ·refine qo J j (fun _ j=>?_) (fun _ j=>?_)
  ·refine qz<|U J<|O _ J<|qa J<|qy ?_;obtain rfl:=qt j;exact ⟨_,J,wkA [] [] []⟩
  refine qm<|Qm ?_;obtain rfl:=qt j;exact ⟨_,J,wkA [] [] []⟩
 intro k hb;subst hb;refine qf<|qf<|Ql [q6,q6,qu 0,q6,q6,q6,q6,q6,qu 0,q6,q6,q6,q6,q6] qh<|U J<|U J<|U J<|O _ J<|q8 a fun ax af a=>qx af J J<|Qd _ af J<|U J<|U J<|U J<|O _ J<|q8 a fun ay ag a=>qx ag J J<|Qd _ ag J<|q8 a fun az ba a=>Q4 (J4 ax ay az ba) J<|O _ J<|q9 ?_;refine qo J a (fun _ a=>?_) (fun _ a=>?_)
 ·refine q29 ?_;refine ⟨_,qp a,fun hm=>?_⟩;subst hm;obtain rfl:=qt h;exact ⟨.inr J,_,J,wkA [] [] []⟩
 refine qm<|qf<|Ql [Qv 0,q6,Qv 0,q6,qu 0,q6,q6,q6,q6,q6,qu 0,q6,q6,q6,q6,q6,q6,q6,q6,q6,q6,q6,q6,q6] qh<|U J<|U J<|U J<|O _ J<|U J<|U J<|U J<|O _ J<|U J<|U J<|U J<|O _ J<|q8 a fun ah ai a=>qx ai J J<|Qd _ ai J<|U J<|U J<|U J<|O _ J<|q8 a fun aj ak a=>qx ak J J<|Qd _ ak J<|q8 a fun bc al a=>qx al J J<|K3 (ds:=[qg ah]) ah al J J J J J J J J (leb J) J<|q8 a fun bd am a=>qx am qd J<|K3 (ds:=[qg aj]) aj am J J J J J J J J (leb J) J<|q9<|qz<|U J<|qa J<|qy<|Qo<|Qm<|⟨_,qp a,wkE [] [] [] J ⟨⟨_,J,K6 qd J Q1 (ltd J)⟩,qn J,qn J,qn J,trivial⟩ ⟨Qq J J,trivial⟩⟩
theorem qzq (l : List Int) (b : Int) (g : Int) (r : List Int) (h : q7b  l b g = some r) : K8 Tryz.prog tab 138 [.hs 0 1 0 l.length,q7 b,q7 g] [(0,.dat 1 (l.map (eI .i64)))] 1 (.d (.tup [])) [(0,.dat 1 (r.map (eI .i64)))] 1:=by
 unfold q7b at h;refine Kr Tryz.func138 J qh qh J<|qc<|U J<|qa J<|qs<|qa J<|qs<|U J<|U J<|O _ J<|qa J<|q9<|qf<|qc<|U J<|O _ J<|O _ J<|qa J<|q9<|q8 h fun p w h=>?_;refine Qn (fun k=>k = p) (fun k=>⟨[(0,.hs 0 1 0 k.length),(6,q7 b),(7,q7 0),(8,.d (qg (w64 (g - b))))],[(0,.dat 1 (k.map (eI .i64)))],1⟩) qd ?_ ?_
 ·refine Qk (q7c g b) (fun j=>⟨[(0,.hs 0 1 0 j.2.length),(6,q7 b),(7,q7 0),(8,.d (qg (w64 (g - b)))),(9,q7 j.1)],[(0,.dat 1 (j.2.map (eI .i64)))],1⟩) _ p w (wkA [] [] []) ?_;intro j af c;unfold q7c at c;refine qf<|qc<|U J<|O _ J<|q9 ?_;refine qo J c (fun _ c=>?_) (fun _ c=>?_)
  ·refine qm<|qf<|Q7<|qz<|U J<|U J<|U J<|U J<|q8 c fun q x c=>q8 c fun ag y c=>?_;have z:=Kk y;refine K9 [(0,0)] [(0,0)] _ (.d (.tup [])) 1 [(0,.dat 1 (q.map (eI .i64)))] 1 (qnv j.2 j.1 (w64 (g - b)) b q x)<|qy<|Qo<|qz<|U J<|O _ J<|qa J<|qy<|⟨_,qp c,wkE [] [] [] J ⟨⟨_,J,K6 (by simp [z]) J Q1 (ltd J)⟩,qn J,qn J,qn J,qn J,trivial⟩ ⟨Qq J J,trivial⟩⟩
  refine Qe ?_;refine ⟨_,qp c,fun hm=>?_⟩;subst hm;exact ⟨_,J,wkA [] [] []⟩
 intro k hb;subst hb;refine qc<|U J<|O _ J<|qa J<|q9<|q8 h fun aa ab h=>Q7<|Qk (q7d b) (fun f=>⟨[(0,.hs 0 1 0 f.2.length),(6,q7 b),(7,q7 0),(10,q7 f.1)],[(0,.dat 1 (f.2.map (eI .i64)))],1⟩) _ aa ab (wkA [] [] []) ?_;intro f ah a;unfold q7d at a;refine qf<|qc<|U J<|O _ J<|q9 ?_;refine qo J a (fun _ a=>?_) (fun _ a=>?_)
 ·refine qm<|qf<|Q7<|qf<|Ql [Qv 0,q6,Qv 0,q6,qu 0,q6,q6,q6,qu 0,q6,q6,q6,q6,q6,q6,q6,q6,q6,q6,q6] qh<|U J<|U J<|U J<|U J<|U J<|O _ J<|U J<|U J<|U J<|O _ J<|q8 a fun m s a=>qx s J J<|Qd _ s J<|U J<|U J<|q8 a fun n t a=>qx t J J<|Qd _ t J<|q8 a fun ai u a=>qx u J J<|K3 (ds:=[qg m]) m u J J J J J J J J (leb J) J<|q8 a fun aj v a=>qx v qd J<|K3 (ds:=[qg n]) n v J J J J J J J J (leb J) J<|q9<|qz<|U J<|U J<|U J<|U J<|q8 a fun o ac a=>q8 a fun ak ad a=>?_;have ae:=Kk ad;refine Ua [(0,0)] [(0,0)] [.hs 0 1 0 f.2.length,q7 0,q7 f.1,q7 b] (.d (.tup [])) [(0,.dat 1 (o.map (eI .i64)))] [(0,.dat 1 (o.map (eI .i64)))] 1 (qnv ((f.2.set b.toNat m).set (w64 (b + f.1)).toNat n) 0 f.1 b o ac) J J J (Yi [(0,0)] [] [] J ⟨⟨_,J,K6 qd J Q1 (ltd J)⟩,qn J,qn J,qn J,trivial⟩ ⟨Qq J J,trivial⟩) (Yi [(0,0)] [] [] J ⟨qn J,trivial⟩ ⟨Qq J J,trivial⟩) J ⟨.inl J,trivial⟩<|qy<|Qo<|qz<|U J<|O _ J<|qa J<|qy<|⟨_,qp a,wkE [] [] [] J ⟨⟨_,J,K6 (by simp [ae]) J Q1 (ltd J)⟩,qn J,qn J,qn J,trivial⟩ ⟨Qq J J,trivial⟩⟩
 refine Qe ?_;refine ⟨_,qp a,fun hm=>?_⟩;subst hm;obtain rfl:=qt h;exact ⟨.inl J,_,J,wkA [] [] []⟩
theorem qhb (b : List Int) (c : Int) (f : Int) (g : Int) (r : Int × Int × Int) (a : q3i  b c f g = some r) : K8 Tryz.prog tab 165 [.d (.sl 1 (b.map (eI .i64))),q7 c,q7 f,.ref 0 1 0 0] [(0,.dat 1 [[qg g]])] 1 (.d (.tup [qg r.1,qg r.2.1])) [(0,.dat 1 [[qg r.2.2]])] 1:=by
 unfold q3i at a;refine Kr Tryz.func165 J qh qh J<|qc<|qa J<|qa J<|q9<|qf<|qf<|Ql [q6,q6,q6,q6,q6,q6,q6,q6,q6] qh<|U J<|U J<|q8 a fun h j a=>Qh j J<|O _ J<|U J<|U J<|q8 a fun k l a=>Qh l J<|O _ J<|q8 a fun m n a=>Q4 (J4 h k m n) J<|q9 ?_;refine qo J a (fun _ a=>?_) (fun _ a=>?_)
 ·refine qc<|U J<|O _ J<|O _ J<|O _ J<|O _ J<|Qi 0 _ J<|qs<|U J<|U J<|qa J<|qa J<|qv ?_;obtain rfl:=qt a;exact ⟨.inr J,_,J,wkA [] [] []⟩
 refine qm<|qc<|U J<|U J<|qa J<|qa J<|qv ?_;obtain rfl:=qt a;exact ⟨.inr J,_,J,wkA [] [] []⟩
theorem qns (f : List Int) (h : Int) (j : Int) (k : Int) (l : Int) (r : Int × Int) (a : q4s  f h j k l = some r) : K8 Tryz.prog tab 161 [.d (.sl 1 (f.map (eI .i64))),q7 h,q7 j,q7 k,.ref 0 1 0 0] [(0,.dat 1 [[qg l]])] 1 (q7 r.1) [(0,.dat 1 [[qg r.2]])] 1:=by
 unfold q4s at a;refine Kr Tryz.func161 J qh qh J<|qc<|qa J<|qs<|U J<|U J<|U J<|U J<|q8 a fun b m a=>K9 [(0,0)] [(0,0)] _ (.d (.tup [qg b.1,qg b.2.1])) 1 [(0,.dat 1 [[qg b.2.2]])] 1 (qhb f h j l b m)<|U J<|O _ J<|O _ J<|qa J<|qa J<|qs<|U J<|U J<|U J<|U J<|q8 a fun c n a=>K9 [(0,0)] [(0,0)] _ (.d (.tup [qg c.1,qg c.2.1])) 1 [(0,.dat 1 [[qg c.2.2]])] 1 (qhb f b.2.1 k b.2.2 c n)<|U J<|O _ J<|O _ J<|qa J<|qa J<|qs<|U J<|U J<|U J<|U J<|q8 a fun g o a=>K9 [(0,0)] [(0,0)] _ (.d (.tup [qg g.1,qg g.2.1])) 1 [(0,.dat 1 [[qg g.2.2]])] 1 (qhb f b.1 c.1 c.2.2 g o)<|U J<|O _ J<|O _ J<|qa J<|qa J<|qs ?_;refine U J<|qa J<|qv ?_;obtain rfl:=qt a;exact ⟨.inr J,_,J,wkA [] [] []⟩
theorem qh9 (c : List Int) (a : Int) (f : Int) (r : Int × Int) (b : q3h  c a f = some r) : K8 Tryz.prog tab 160 [.d (.sl 1 (c.map (eI .i64))),q7 a,.ref 0 1 0 0] [(0,.dat 1 [[qg f]])] 1 (q7 r.1) [(0,.dat 1 [[qg r.2]])] 1:=by
 unfold q3h at b;refine Kr Tryz.func160 J qh qh J<|qc<|qa J<|qs<|U J<|U J<|O _ J<|U J<|U J<|O _ J<|U J<|q8 b fun g h b=>K9 [(0,0)] [(0,0)] _ (q7 g.1) 1 [(0,.dat 1 [[qg g.2]])] 1 (qns c (w64 (a - 1)) a (w64 (a + 1)) f g h)<|qa J<|qv ?_;obtain rfl:=qt b;exact ⟨.inr J,_,J,wkA [] [] []⟩
theorem qzo (h : List Int) (g : Int) (j : Int) (r : Int × Int) (a : q7a h g j = some r) : Pure Tryz.prog tab 140 [.sl 1 (h.map (eI .i64)),qg g,qg j] (.tup [qg r.1,qg r.2]):=by
 unfold q7a at a;refine Qp Tryz.func140 J qh qh J<|qc<|qa J<|qa J<|qs<|U J<|U J<|O _ J<|qa J<|qs<|K2 J J<|qs<|U J<|U J<|O _ J<|O _ J<|O _ J<|qa J<|qs<|U J<|U J<|O _ J<|O _ J<|O _ J<|qa J<|qs<|U J<|U J<|O _ J<|O _ J<|O _ J<|qa J<|q9<|qf<|qc<|U J<|O _ J<|q9<|q8 a fun p f a=>?_;refine Z2 (fun k=>k = p) (fun k=>⟨[(9,.ref 0 1 0 0),(11,q7 k.1)],[(0,.dat 1 [[qg k.2]])],1⟩) qd ?_ ?_
 ·refine qo J f (fun _ f=>?_) (fun _ f=>?_)
  ·refine qf<|qc<|U J<|O _ J<|q9<|q8 f fun q b f=>?_;refine Z2 (fun c=>c = q) (fun c=>⟨[(0,.d (.sl 1 (h.map (eI .i64)))),(9,.ref 0 1 0 0),(10,q7 c.1),(11,q7 c.2.1),(12,q7 c.2.2.1)],[(0,.dat 1 [[qg c.2.2.2]])],1⟩) qd ?_ ?_
   ·refine qo J b (fun _ b=>?_) (fun _ b=>?_)
    ·refine qc<|U J<|U J<|q8 b fun l s b=>K9 [(0,0)] [(0,0)] _ (q7 l.1) 1 [(0,.dat 1 [[qg l.2]])] 1 (qh9 h (w64 (g + (w64 ((w64 (Int.tdiv (w64 (j - g)) 4)) * 1)))) 0 l s)<|qa J<|qs<|U J<|U J<|q8 b fun m t b=>K9 [(0,0)] [(0,0)] _ (q7 m.1) 1 [(0,.dat 1 [[qg m.2]])] 1 (qh9 h (w64 (g + (w64 ((w64 (Int.tdiv (w64 (j - g)) 4)) * 2)))) l.2 m t)<|qa J<|q9<|qz<|U J<|U J<|q8 b fun n u b=>K9 [(0,0)] [(0,0)] _ (q7 n.1) 1 [(0,.dat 1 [[qg n.2]])] 1 (qh9 h (w64 (g + (w64 ((w64 (Int.tdiv (w64 (j - g)) 4)) * 3)))) m.2 n u)<|qa J<|qy ?_;obtain rfl:=qt b;exact ⟨_,J,wkA [(0,0)] [] []⟩
    refine qm<|Qm ?_;obtain rfl:=qt b;exact ⟨_,J,wkA [(0,0)] [] []⟩
   intro c hb;subst hb;refine qz<|U J<|U J<|U J<|U J<|q8 f fun o v f=>K9 [(0,0)] [(0,0)] _ (q7 o.1) 1 [(0,.dat 1 [[qg o.2]])] 1 (qns h c.1 c.2.1 c.2.2.1 c.2.2.2 o v)<|qa J<|qy ?_;obtain rfl:=qt f;exact ⟨_,J,wkA [(0,0)] [] []⟩
  refine qm<|Qm ?_;obtain rfl:=qt f;exact ⟨_,J,wkA [(0,0)] [] []⟩
 intro k hb;subst hb;refine qc<|O _ J<|q9<|Q7<|qc<|O _ J<|qa J<|q9 ?_;refine qo J a (fun _ a=>?_) (fun _ a=>?_)
 ·refine qc<|U J<|qa J<|qa J<|qv ?_;cases a;exact Q8 _ J
 refine qc<|O _ J<|qa J<|q9 ?_;refine qo J a (fun _ a=>?_) (fun _ a=>?_)
 ·refine qc<|U J<|qa J<|qa J<|qv ?_;cases a;exact Q8 _ J
 refine qc<|U J<|qa J<|qa J<|qv ?_;cases a;exact Q8 _ J
theorem q104 (f : List Int) (g : Int) (h : Int) (r : List Int) (c : q80  f g h = some r) : K8 Tryz.prog tab 141 [.hs 0 1 0 f.length,q7 g,q7 h] [(0,.dat 1 (f.map (eI .i64)))] 1 (.d (.tup [])) [(0,.dat 1 (r.map (eI .i64)))] 1:=by
 unfold q80 at c;refine Kr Tryz.func141 J qh qh J<|qc<|U J<|qa J<|qs<|U J<|O _ J<|qa J<|q9<|q8 c fun p q c=>Q7<|Qk (qay) (fun b=>⟨[(0,.hs 0 1 0 b.2.2.length),(6,q7 b.1),(7,q7 b.2.1)],[(0,.dat 1 (b.2.2.map (eI .i64)))],1⟩) _ p q (wkA [] [] []) ?_;intro b s a;unfold qay at a;refine qf<|qc<|U J<|U J<|O _ J<|q9 ?_;refine qo J a (fun _ a=>?_) (fun _ a=>?_)
 ·refine qm<|Q7<|qf<|Ql [Qv 0,q6,Qv 0,q6,qu 0,q6,q6,q6,qu 0,q6,q6,q6,q6,q6,q6,q6] qh<|U J<|U J<|U J<|U J<|U J<|U J<|q8 a fun j k a=>qx k J J<|Qd _ k J<|U J<|U J<|q8 a fun l m a=>qx m J J<|Qd _ m J<|q8 a fun t n a=>qx n J J<|K3 (ds:=[qg j]) j n J J J J J J J J (leb J) J<|q8 a fun u o a=>qx o qd J<|K3 (ds:=[qg l]) l o J J J J J J J J (leb J) J<|qs<|U J<|O _ J<|qa J<|q9<|qz<|U J<|O _ J<|qa J<|qy<|Qo<|Qm<|⟨_,qp a,wkE [] [] [] J ⟨⟨_,J,K6 qd J Q1 (ltd J)⟩,qn J,qn J,trivial⟩ ⟨Qq J J,trivial⟩⟩
 refine Qe ?_;refine ⟨_,qp a,fun hm=>?_⟩;subst hm;obtain rfl:=qt c;exact ⟨.inl J,_,J,wkA [] [] []⟩
theorem qzu (u : List Int) (h : Int) (f : Int) (r : Bool × List Int) (n : q4u  u h f = some r) : K8 Tryz.prog tab 142 [.hs 0 1 0 u.length,q7 h,q7 f] [(0,.dat 1 (u.map (eI .i64)))] 1 (Q0 r.1) [(0,.dat 1 (r.2.map (eI .i64)))] 1:=by
 unfold q4u at n;refine Kr Tryz.func142 J qh qh J<|qc<|qa J<|qs<|U J<|O _ J<|qa J<|q9<|qf<|qc<|qa J<|q9<|q8 n fun x bk n=>?_;refine Qn (fun q=>.inl q = x) (fun q=>⟨[],[(0,.dat 1 (q.map (eI .i64)))],1⟩) qd ?_ ?_
 ·refine Qk (q4v f h) (fun d=>⟨[(0,.hs 0 1 0 d.2.2.length),(1,q7 h),(2,q7 f),(7,q7 d.1),(8,q7 d.2.1)],[(0,.dat 1 (d.2.2.map (eI .i64)))],1⟩) _ x bk (wkA [] [] []) ?_;intro d ch j;unfold q4v at j;refine qf<|qc<|U J<|O _ J<|q9 ?_;refine qo J j (fun _ j=>?_) (fun _ j=>?_)
  ·refine qm<|qf<|q8 j fun bl a j=>?_;refine Qn (fun o=>.inl o = bl) (fun o=>⟨[(0,.hs 0 1 0 o.2.length),(1,q7 h),(2,q7 f),(7,q7 o.1),(8,q7 d.2.1)],[(0,.dat 1 (o.2.map (eI .i64)))],1⟩) qd ?_ ?_
   ·refine qf<|q8 a fun y bm a=>?_;refine Qn (fun k=>k = y) (fun k=>⟨[(0,.hs 0 1 0 d.2.2.length),(1,q7 h),(2,q7 f),(7,q7 k),(8,q7 d.2.1)],[(0,.dat 1 (d.2.2.map (eI .i64)))],1⟩) qd ?_ ?_
    ·refine Qk (q7k f d) (fun z=>⟨[(0,.hs 0 1 0 d.2.2.length),(1,q7 h),(2,q7 f),(7,q7 z),(8,q7 d.2.1)],[(0,.dat 1 (d.2.2.map (eI .i64)))],1⟩) _ y bm (wkA [] [] []) ?_;intro z ci l;unfold q7k at l;refine qf<|qf<|Ql [q6,q6,q6,qu 0,q6,q6,q6,q6,qu 0,q6,q6,q6,q6,q6,q6,q6] qh<|U J<|U J<|O _ J<|q8 l fun bn g l=>?_;refine Qc 13 (fun A st=>∃ aa ab ac ad ae af ag ah ai aj ak al,st = A [(32,Q0 bn),(31,al),(30,ak),(29,aj),(28,ai),(27,ah),(26,ag),(25,af),(24,ae),(23,ad),(22,ac),(21,ab),(20,aa)]) ?_ ?_
     ·refine Qa J J g (fun g=>?_) (fun g=>?_)
      ·refine U J<|U J<|q8 g fun bo am g=>qx am J J<|Qd _ am J<|U J<|U J<|O _ J<|q8 g fun bp an g=>qx an J J<|Qd _ an J<|q8 g fun bq br g=>Q4 (J4 bo bp bq br) J<|O _ J<|O _ J<|q9 ?_;cases g;exact ⟨_,_,_,_,_,_,_,_,_,_,_,_,J⟩
      refine qb J<|qb J<|qb J<|qb J<|qb J<|qb J<|qb J<|qb J<|qb J<|qb J<|qb J<|O _ J<|q9 ?_;cases g;exact ⟨_,_,_,_,_,_,_,_,_,_,_,_,J⟩
     rintro _ ⟨aa,ab,ac,ad,ae,af,ag,ah,ai,aj,ak,al,rfl⟩;refine q9 ?_;refine qo J l (fun _ l=>?_) (fun _ l=>?_)
     ·refine qm<|Q7<|qz<|U J<|O _ J<|qa J<|qy<|Qo<|Qm<|⟨_,qp l,wkA [] [] []⟩
     refine Qe ?_;refine ⟨_,qp l,fun hm=>?_⟩;subst hm;exact ⟨_,J,wkA [] [] []⟩
    intro k hb;subst hb;refine qf<|qc<|U J<|U J<|O _ J<|q9 ?_;refine qo J a (fun _ a=>?_) (fun _ a=>?_)
    ·refine qc<|qa J<|qv ?_;obtain rfl:=qt a;refine ⟨_,qp j,fun hm=>?_⟩;subst hm;obtain rfl:=qt n;exact ⟨.inr J,_,J,wkA [] [] []⟩
    refine qm<|qf<|qc<|U J<|U J<|O _ J<|O _ J<|q9 ?_;refine qo J a (fun _ a=>?_) (fun _ a=>?_)
    ·refine qc<|qa J<|qv ?_;obtain rfl:=qt a;refine ⟨_,qp j,fun hm=>?_⟩;subst hm;obtain rfl:=qt n;exact ⟨.inr J,_,J,wkA [] [] []⟩
    refine qm<|qf<|Ql [Qv 0,q6,Qv 0,q6,qu 0,q6,q6,q6,qu 0,q6,q6,q6,q6,q6,q6,q6,q6,q6] qh<|U J<|U J<|U J<|U J<|O _ J<|U J<|U J<|O _ J<|q8 a fun ao ap a=>qx ap J J<|Qd _ ap J<|U J<|U J<|q8 a fun aq ar a=>qx ar J J<|Qd _ ar J<|q8 a fun cj au a=>qx au J J<|K3 (ds:=[qg ao]) ao au J J J J J J J J (leb J) J<|q8 a fun ck av a=>qx av qd J<|K3 (ds:=[qg aq]) aq av J J J J J J J J (leb J) J<|q9<|qf<|qc<|U J<|U J<|O _ J<|O _ J<|q9<|q8 a fun bs m a=>?_;refine Z2 (fun p=>p = bs) (fun p=>⟨[(0,.hs 0 1 0 p.length),(1,q7 h),(2,q7 f),(7,q7 k),(8,q7 d.2.1)],[(0,.dat 1 (p.map (eI .i64)))],1⟩) qd ?_ ?_
    ·refine qo J m (fun _ m=>?_) (fun _ m=>?_)
     ·refine qc<|U J<|O _ J<|qa J<|q9<|q8 m fun bt bu m=>Q7<|Qk (qal) (fun s=>⟨[(0,.hs 0 1 0 s.2.length),(1,q7 h),(2,q7 f),(7,q7 k),(8,q7 d.2.1),(9,q7 s.1)],[(0,.dat 1 (s.2.map (eI .i64)))],1⟩) _ bt bu (wkE [] [] [] J ⟨⟨_,J,K6 qd J Q1 (ltd J)⟩,qn J,qn J,qn J,qn J,qn J,trivial⟩ ⟨Qq J J,trivial⟩) ?_;intro s cl b;unfold qal at b;refine qf<|qc<|U J<|O _ J<|q9 ?_;refine qo J b (fun _ b=>?_) (fun _ b=>?_)
      ·refine qm<|qf<|Q7<|qf<|qf<|Ql [q6,q6,qu 0,q6,q6,q6,q6,qu 0,q6,q6,q6] qh<|U J<|U J<|q8 b fun bv aw b=>qx aw J J<|Qd _ aw J<|U J<|U J<|O _ J<|q8 b fun bw ax b=>qx ax J J<|Qd _ ax J<|q8 b fun bz ca b=>Q4 (J4 bv bw bz ca) J<|O _ J<|q9 ?_;refine qo J b (fun _ b=>?_) (fun _ b=>?_)
       ·refine Qe ?_;refine ⟨_,qp b,fun hm=>?_⟩;subst hm;obtain rfl:=qt m;exact ⟨_,J,wkA [] [] []⟩
       refine qm<|Ql [Qv 0,q6,Qv 0,q6,qu 0,q6,q6,q6,qu 0,q6,q6,q6,q6,q6,q6,q6,q6,q6] qh<|U J<|U J<|U J<|U J<|O _ J<|U J<|U J<|O _ J<|q8 b fun ay az b=>qx az J J<|Qd _ az J<|U J<|U J<|q8 b fun v ba b=>qx ba J J<|Qd (q7 v) ba J<|q8 b fun cm bb b=>qx bb J J<|K3 (ds:=[qg ay]) ay bb J J J J J J J J (leb J) J<|q8 b fun cn bc b=>qx bc qd J<|K3 (ds:=[qg v]) v bc J J J J J J J J (leb J) J<|qy<|Qo<|qz<|U J<|O _ J<|qa J<|qy<|⟨_,qp b,wkE [] [] [] J ⟨⟨_,J,K6 qd J Q1 (ltd J)⟩,qn J,qn J,qn J,qn J,qn J,trivial⟩ ⟨Qq J J,trivial⟩⟩
      refine Qe ?_;refine ⟨_,qp b,fun hm=>?_⟩;subst hm;obtain rfl:=qt m;exact ⟨_,J,wkA [] [] []⟩
     refine qm<|Qm ?_;obtain rfl:=qt m;exact ⟨_,J,wkE [] [] [] J ⟨⟨_,J,K6 qd J Q1 (ltd J)⟩,qn J,qn J,qn J,qn J,trivial⟩ ⟨Qq J J,trivial⟩⟩
    intro p hb;subst hb;refine qc<|U J<|U J<|O _ J<|O _ J<|q9 ?_;refine qo J a (fun _ a=>?_) (fun _ a=>?_)
    ·refine qc<|U J<|O _ J<|qa J<|q9<|q8 a fun cb cc a=>Q7<|Qk (q7l f k) (fun t=>⟨[(0,.hs 0 1 0 t.2.length),(1,q7 h),(2,q7 f),(7,q7 k),(8,q7 d.2.1),(10,q7 t.1)],[(0,.dat 1 (t.2.map (eI .i64)))],1⟩) _ cb cc (wkA [] [] []) ?_;intro t co c;unfold q7l at c;refine qf<|qc<|U J<|U J<|O _ J<|q9 ?_;refine qo J c (fun _ c=>?_) (fun _ c=>?_)
     ·refine qm<|qf<|Q7<|qf<|qf<|Ql [q6,q6,qu 0,q6,q6,q6,q6,qu 0,q6,q6,q6] qh<|U J<|U J<|q8 c fun cd bd c=>qx bd J J<|Qd _ bd J<|U J<|U J<|O _ J<|q8 c fun ce be c=>qx be J J<|Qd _ be J<|q8 c fun cf cg c=>Q4 (J4 cd ce cf cg) J<|O _ J<|q9 ?_;refine qo J c (fun _ c=>?_) (fun _ c=>?_)
      ·refine Qe ?_;refine ⟨_,qp c,fun hm=>?_⟩;subst hm;obtain rfl:=qt a;exact ⟨_,J,wkA [] [] []⟩
      refine qm<|Ql [Qv 0,q6,Qv 0,q6,qu 0,q6,q6,q6,qu 0,q6,q6,q6,q6,q6,q6,q6,q6,q6] qh<|U J<|U J<|U J<|U J<|O _ J<|U J<|U J<|O _ J<|q8 c fun bf bg c=>qx bg J J<|Qd _ bg J<|U J<|U J<|q8 c fun w bh c=>qx bh J J<|Qd (q7 w) bh J<|q8 c fun cp bi c=>qx bi J J<|K3 (ds:=[qg bf]) bf bi J J J J J J J J (leb J) J<|q8 c fun cq bj c=>qx bj qd J<|K3 (ds:=[qg w]) w bj J J J J J J J J (leb J) J<|qy<|Qo<|qz<|U J<|O _ J<|qa J<|qy<|⟨_,qp c,wkE [] [] [] J ⟨⟨_,J,K6 qd J Q1 (ltd J)⟩,qn J,qn J,qn J,qn J,qn J,trivial⟩ ⟨Qq J J,trivial⟩⟩
     refine Qe ?_;refine ⟨_,qp c,fun hm=>?_⟩;subst hm;obtain rfl:=qt a;exact ⟨_,J,wkA [] [] []⟩
    refine qm<|Qm ?_;obtain rfl:=qt a;exact ⟨_,J,wkA [] [] []⟩
   intro o hb;subst hb;refine qz<|U J<|O _ J<|qa J<|qy<|⟨_,qp j,wkA [] [] []⟩
  refine Qe ?_;refine ⟨_,qp j,fun hm=>?_⟩;subst hm;exact ⟨_,J,wkA [] [] []⟩
 intro q hb;subst hb;refine qc<|qa J<|qv ?_;obtain rfl:=qt n;exact ⟨.inr J,_,J,wkA [] [] []⟩
theorem qzx (n : List Int) (g : Int) (p : Int) (q : Int) (r : Int × List Int) (c : q7m  n g p q = some r) : K8 Tryz.prog tab 143 [.hs 0 1 0 n.length,q7 g,q7 p,q7 q] [(0,.dat 1 (n.map (eI .i64)))] 1 (q7 r.1) [(0,.dat 1 (r.2.map (eI .i64)))] 1:=by
 unfold q7m at c;refine Kr Tryz.func143 J qh qh J<|qc<|qa J<|q9<|qf<|Ql [Qv 0,q6,Qv 0,q6,qu 0,q6,q6,q6,qu 0,q6,q6,q6,q6,q6,q6,q6] qh<|U J<|U J<|U J<|U J<|U J<|U J<|q8 c fun s t c=>qx t J J<|Qd _ t J<|U J<|U J<|q8 c fun u v c=>qx v J J<|Qd _ v J<|q8 c fun bw w c=>qx w J J<|K3 (ds:=[qg s]) s w J J J J J J J J (leb J) J<|q8 c fun bz x c=>qx x qd J<|K3 (ds:=[qg u]) u x J J J J J J J J (leb J) J<|qs<|U J<|O _ J<|U J<|O _ J<|qa J<|qa J<|q9<|qf<|q8 c fun y bj c=>?_;refine Qn (fun l=>l = y) (fun l=>⟨[(9,q7 l.1)],[(0,.dat 1 (l.2.map (eI .i64)))],1⟩) qd ?_ ?_
 ·refine Qk (q7n g) (fun b=>⟨[(0,.hs 0 1 0 b.2.2.length),(1,q7 g),(9,q7 b.1),(10,q7 b.2.1)],[(0,.dat 1 (b.2.2.map (eI .i64)))],1⟩) _ y bj (wkE [] [] [] J ⟨⟨_,J,K6 qd J Q1 (ltd J)⟩,qn J,qn J,qn J,trivial⟩ ⟨Qq J J,trivial⟩) ?_;intro b ca a;unfold q7n at a;refine Q7<|qf<|q8 a fun z bk a=>?_;refine Qn (fun k=>k = z) (fun k=>⟨[(0,.hs 0 1 0 b.2.2.length),(1,q7 g),(9,q7 k),(10,q7 b.2.1)],[(0,.dat 1 (b.2.2.map (eI .i64)))],1⟩) qd ?_ ?_
  ·refine Qk (q7o b g) (fun aa=>⟨[(0,.hs 0 1 0 b.2.2.length),(1,q7 g),(9,q7 aa),(10,q7 b.2.1)],[(0,.dat 1 (b.2.2.map (eI .i64)))],1⟩) _ z bk (wkA [] [] []) ?_;intro aa cb h;unfold q7o at h;refine qf<|qf<|Ql [q6,q6,q6,qu 0,q6,q6,q6,qu 0,q6,q6,q6,q6,q6,q6,q6] qh<|U J<|U J<|O _ J<|q8 h fun bl d h=>?_;refine Qc 12 (fun A st=>∃ ab ac ad ae af ag ah ai aj ak al,st = A [(43,Q0 bl),(42,al),(41,ak),(40,aj),(39,ai),(38,ah),(37,ag),(36,af),(35,ae),(34,ad),(33,ac),(32,ab)]) ?_ ?_
   ·refine Qa J J d (fun d=>?_) (fun d=>?_)
    ·refine U J<|U J<|q8 d fun bm am d=>qx am J J<|Qd _ am J<|U J<|U J<|q8 d fun bn an d=>qx an J J<|Qd _ an J<|q8 d fun bo bp d=>Q4 (J4 bm bn bo bp) J<|O _ J<|O _ J<|q9 ?_;cases d;exact ⟨_,_,_,_,_,_,_,_,_,_,_,J⟩
    refine qb J<|qb J<|qb J<|qb J<|qb J<|qb J<|qb J<|qb J<|qb J<|qb J<|O _ J<|q9 ?_;cases d;exact ⟨_,_,_,_,_,_,_,_,_,_,_,J⟩
   rintro _ ⟨ab,ac,ad,ae,af,ag,ah,ai,aj,ak,al,rfl⟩;refine q9 ?_;refine qo J h (fun _ h=>?_) (fun _ h=>?_)
   ·refine qm<|Q7<|qz<|U J<|O _ J<|qa J<|qy<|Qo<|Qm<|⟨_,qp h,wkA [] [] []⟩
   refine Qe ?_;refine ⟨_,qp h,fun hm=>?_⟩;subst hm;exact ⟨_,J,wkA [] [] []⟩
  intro k hb;subst hb;refine qf<|q8 a fun ao bq a=>?_;refine Qn (fun m=>m = ao) (fun m=>⟨[(0,.hs 0 1 0 b.2.2.length),(1,q7 g),(9,q7 k),(10,q7 m)],[(0,.dat 1 (b.2.2.map (eI .i64)))],1⟩) qd ?_ ?_
  ·refine Qk (q7p k b g) (fun ap=>⟨[(0,.hs 0 1 0 b.2.2.length),(1,q7 g),(9,q7 k),(10,q7 ap)],[(0,.dat 1 (b.2.2.map (eI .i64)))],1⟩) _ ao bq (wkA [] [] []) ?_;intro ap cc j;unfold q7p at j;refine qf<|qf<|Ql [q6,q6,qu 0,q6,q6,q6,qu 0,q6,q6,q6,q6,q6,q6,q6] qh<|U J<|U J<|O _ J<|q8 j fun br f j=>?_;refine Qc 11 (fun A st=>∃ aq ar au av aw ax ay az ba bb,st = A [(59,Q0 br),(58,bb),(57,ba),(56,az),(55,ay),(54,ax),(53,aw),(52,av),(51,au),(50,ar),(49,aq)]) ?_ ?_
   ·refine Qa J J f (fun f=>?_) (fun f=>?_)
    ·refine U J<|U J<|q8 f fun bs bc f=>qx bc J J<|Qd _ bc J<|U J<|U J<|q8 f fun bt bd f=>qx bd J J<|Qd _ bd J<|q8 f fun bu bv f=>Q4 (J4 bs bt bu bv) J<|O _ J<|q9 ?_;cases f;exact ⟨_,_,_,_,_,_,_,_,_,_,J⟩
    refine qb J<|qb J<|qb J<|qb J<|qb J<|qb J<|qb J<|qb J<|qb J<|O _ J<|q9 ?_;cases f;exact ⟨_,_,_,_,_,_,_,_,_,_,J⟩
   rintro _ ⟨aq,ar,au,av,aw,ax,ay,az,ba,bb,rfl⟩;refine q9 ?_;refine qo J j (fun _ j=>?_) (fun _ j=>?_)
   ·refine qm<|Q7<|qz<|U J<|O _ J<|qa J<|qy<|Qo<|Qm<|⟨_,qp j,wkA [] [] []⟩
   refine Qe ?_;refine ⟨_,qp j,fun hm=>?_⟩;subst hm;exact ⟨_,J,wkA [] [] []⟩
  intro m hb;subst hb;refine qf<|qc<|U J<|U J<|O _ J<|q9 ?_;refine qo J a (fun _ a=>?_) (fun _ a=>?_)
  ·refine Qe ?_;refine ⟨_,qp a,fun hm=>?_⟩;subst hm;exact ⟨_,J,wkA [] [] []⟩
  refine qm<|qf<|Ql [Qv 0,q6,Qv 0,q6,qu 0,q6,q6,q6,qu 0,q6,q6,q6,q6,q6,q6,q6] qh<|U J<|U J<|U J<|U J<|U J<|U J<|q8 a fun be bf a=>qx bf J J<|Qd _ bf J<|U J<|U J<|q8 a fun o bg a=>qx bg J J<|Qd (q7 o) bg J<|q8 a fun cd bh a=>qx bh J J<|K3 (ds:=[qg be]) be bh J J J J J J J J (leb J) J<|q8 a fun ce bi a=>qx bi qd J<|K3 (ds:=[qg o]) o bi J J J J J J J J (leb J) J<|qs<|U J<|O _ J<|qa J<|q9<|qz<|U J<|O _ J<|qa J<|qy<|Qo<|Qm<|⟨_,qp a,wkE [] [] [] J ⟨⟨_,J,K6 qd J Q1 (ltd J)⟩,qn J,qn J,qn J,trivial⟩ ⟨Qq J J,trivial⟩⟩
 intro l hb;subst hb;refine qc<|U J<|qa J<|qv ?_;obtain rfl:=qt c;exact ⟨.inr J,_,J,wkA [] [] []⟩
theorem qzy (g : List Int) (b : Int) (s : Int) (k : Int) (r : Int × Bool × List Int) (a : q7q  g b s k = some r) : K8 Tryz.prog tab 144 [.hs 0 1 0 g.length,q7 b,q7 s,q7 k] [(0,.dat 1 (g.map (eI .i64)))] 1 (.d (.tup [qg r.1,.bool r.2.1])) [(0,.dat 1 (r.2.2.map (eI .i64)))] 1:=by
 unfold q7q at a;refine Kr Tryz.func144 J qh qh J<|qc<|qa J<|qa J<|q9<|qf<|Ql [Qv 0,q6,Qv 0,q6,qu 0,q6,q6,q6,qu 0,q6,q6,q6,q6,q6,q6,q6] qh<|U J<|U J<|U J<|U J<|U J<|U J<|q8 a fun h ao a=>qx ao J J<|Qd (q7 h) ao J<|U J<|U J<|q8 a fun j ap a=>qx ap J J<|Qd (q7 j) ap J<|q8 a fun fr aq a=>qx aq J J<|K3 (ds:=[qg h]) h aq J J J J J J J J (leb J) J<|q8 a fun fs ar a=>qx ar qd J<|K3 (ds:=[qg j]) j ar J J J J J J J J (leb J) J<|qs<|U J<|O (.d (qg (w64 (b + 1)))) J<|U J<|O (.d (qg (w64 (s - 1)))) J<|qa J<|qa J<|q9<|qf<|q8 a fun au fd a=>?_;refine Qn (fun l=>l = au) (fun (l : Int)=>⟨[(0,.hs 0 1 0 ((g.set b.toNat h).set k.toNat j).length),(1,q7 b),(10,q7 l),(11,.d (qg (w64 (s - 1))))],[(0,.dat 1 (((g.set b.toNat h).set k.toNat j).map (eI .i64)))],1⟩) qd ?_ ?_
 ·refine Qk (q7r s g b h k j) (fun (aa : Int)=>⟨[(0,.hs 0 1 0 ((g.set b.toNat h).set k.toNat j).length),(1,q7 b),(10,q7 aa),(11,.d (qg (w64 (s - 1))))],[(0,.dat 1 (((g.set b.toNat h).set k.toNat j).map (eI .i64)))],1⟩) (w64 (b + 1)) au fd (wkE [] [] [] J ⟨⟨_,J,K6 qd J Q1 (ltd J)⟩,qn J,qn J,qn J,trivial⟩ ⟨Qq J J,trivial⟩) ?_;intro aa ft t;unfold q7r at t;refine qf<|qf<|Ql [q6,q6,qu 0,q6,q6,q6,qu 0,q6,q6,q6,q6,q6,q6,q6] qh<|U J<|U J<|O (.d (.bool (decide (aa≤(w64 (s - 1)))))) J<|q8 t fun fe m t=>?_;refine Qc 11 (fun A st=>∃ (av aw ax ay az ba bb bc bd be : V),st = A [(43,Q0 fe),(42,be),(41,bd),(40,bc),(39,bb),(38,ba),(37,az),(36,ay),(35,ax),(34,aw),(33,av)]) ?_ ?_
  ·refine Qa J J m (fun m=>?_) (fun m=>?_)
   ·refine U J<|U J<|q8 m fun bf bg m=>qx bg J J<|Qd (q7 bf) bg J<|U J<|U J<|q8 m fun bh bi m=>qx bi J J<|Qd (q7 bh) bi J<|q8 m fun bj ff m=>Q4 (J4 bf bh bj ff) J<|O (Q0 bj) J<|q9 ?_;cases m;exact ⟨_,_,_,_,_,_,_,_,_,_,J⟩
   refine qb J<|qb J<|qb J<|qb J<|qb J<|qb J<|qb J<|qb J<|qb J<|O (Q0 false) J<|q9 ?_;cases m;exact ⟨_,_,_,_,_,_,_,_,_,_,J⟩
  rintro _ ⟨av,aw,ax,ay,az,ba,bb,bc,bd,be,rfl⟩;refine q9 ?_;refine qo J t (fun _ t=>?_) (fun _ t=>?_)
  ·refine qm<|Q7<|qz<|U J<|O (.d (qg (w64 (aa + 1)))) J<|qa J<|qy<|Qo<|Qm<|⟨_,qp t,wkA [] [] []⟩
  refine Qe ?_;refine ⟨_,qp t,fun hm=>?_⟩;subst hm;exact ⟨_,J,wkA [] [] []⟩
 intro l hb;subst hb;refine qf<|q8 a fun bk fg a=>?_;refine Qn (fun u=>u = bk) (fun (u : Int)=>⟨[(0,.hs 0 1 0 ((g.set b.toNat h).set k.toNat j).length),(1,q7 b),(10,q7 l),(11,q7 u)],[(0,.dat 1 (((g.set b.toNat h).set k.toNat j).map (eI .i64)))],1⟩) qd ?_ ?_
 ·refine Qk (q7s l g b h k j) (fun (ab : Int)=>⟨[(0,.hs 0 1 0 ((g.set b.toNat h).set k.toNat j).length),(1,q7 b),(10,q7 l),(11,q7 ab)],[(0,.dat 1 (((g.set b.toNat h).set k.toNat j).map (eI .i64)))],1⟩) (w64 (s - 1)) bk fg (wkA [] [] []) ?_;intro ab fu v;unfold q7s at v;refine qf<|qf<|Ql [q6,q6,q6,qu 0,q6,q6,q6,qu 0,q6,q6,q6,q6,q6,q6,q6] qh<|U J<|U J<|O (.d (.bool (decide (l≤ab)))) J<|q8 v fun fh n v=>?_;refine Qc 12 (fun A st=>∃ (bl bm bn bo bp bq br bs bt bu bv : V),st = A [(60,Q0 fh),(59,bv),(58,bu),(57,bt),(56,bs),(55,br),(54,bq),(53,bp),(52,bo),(51,bn),(50,bm),(49,bl)]) ?_ ?_
  ·refine Qa J J n (fun n=>?_) (fun n=>?_)
   ·refine U J<|U J<|q8 n fun bw bz n=>qx bz J J<|Qd (q7 bw) bz J<|U J<|U J<|q8 n fun ca cb n=>qx cb J J<|Qd (q7 ca) cb J<|q8 n fun ag fi n=>Q4 (J4 bw ca ag fi) J<|O (Q0 (!ag)) J<|O (Q0 (!ag)) J<|q9 ?_;cases n;exact ⟨_,_,_,_,_,_,_,_,_,_,_,J⟩
   refine qb J<|qb J<|qb J<|qb J<|qb J<|qb J<|qb J<|qb J<|qb J<|qb J<|O (Q0 false) J<|q9 ?_;cases n;exact ⟨_,_,_,_,_,_,_,_,_,_,_,J⟩
  rintro _ ⟨bl,bm,bn,bo,bp,bq,br,bs,bt,bu,bv,rfl⟩;refine q9 ?_;refine qo J v (fun _ v=>?_) (fun _ v=>?_)
  ·refine qm<|Q7<|qz<|U J<|O (.d (qg (w64 (ab - 1)))) J<|qa J<|qy<|Qo<|Qm<|⟨_,qp v,wkA [] [] []⟩
  refine Qe ?_;refine ⟨_,qp v,fun hm=>?_⟩;subst hm;exact ⟨_,J,wkA [] [] []⟩
 intro u hb;subst hb;refine qf<|qc<|U J<|U J<|O (.d (.bool (decide (l > u)))) J<|q9 ?_;refine qo J a (fun _ a=>?_) (fun _ a=>?_)
 ·refine qf<|Ql [Qv 0,q6,Qv 0,q6,qu 0,q6,q6,q6,qu 0,q6,q6,q6,q6,q6,q6,q6] qh<|U J<|U J<|U J<|U J<|U J<|U J<|q8 a fun ah cc a=>qx cc J J<|Qd (q7 ah) cc J<|U J<|U J<|q8 a fun ai cd a=>qx cd J J<|Qd (q7 ai) cd J<|q8 a fun fv ce a=>qx ce J J<|K3 (ds:=[qg ah]) ah ce J J J J J J J J (leb J) J<|q8 a fun fw cf a=>qx cf qd J<|K3 (ds:=[qg ai]) ai cf J J J J J J J J (leb J) J<|qs<|U J<|qa J<|qa J<|qv ?_;obtain rfl:=qt a;exact ⟨.inr J,_,J,wkA [] [] []⟩
 refine qm<|qf<|Ql [Qv 0,q6,Qv 0,q6,qu 0,q6,q6,q6,qu 0,q6,q6,q6,q6,q6,q6,q6] qh<|U J<|U J<|U J<|U J<|U J<|U J<|q8 a fun ac cg a=>qx cg J J<|Qd (q7 ac) cg J<|U J<|U J<|q8 a fun ad ch a=>qx ch J J<|Qd (q7 ad) ch J<|q8 a fun fx ci a=>qx ci J J<|K3 (ds:=[qg ac]) ac ci J J J J J J J J (leb J) J<|q8 a fun fy cj a=>qx cj qd J<|K3 (ds:=[qg ad]) ad cj J J J J J J J J (leb J) J<|qs<|U J<|O (.d (qg (w64 (l + 1)))) J<|qa J<|qs<|U J<|O (.d (qg (w64 (u - 1)))) J<|qa J<|q9<|qf<|q8 a fun ck fj a=>?_;refine Qn (fun y=>y = ck) (fun (y : Int × List Int)=>⟨[(0,.hs 0 1 0 y.2.length),(1,q7 b),(11,q7 y.1)],[(0,.dat 1 (y.2.map (eI .i64)))],1⟩) qd ?_ ?_
 ·refine Qk (q7t b) (fun (c : Int × Int × List Int)=>⟨[(0,.hs 0 1 0 c.2.2.length),(1,q7 b),(10,q7 c.1),(11,q7 c.2.1)],[(0,.dat 1 (c.2.2.map (eI .i64)))],1⟩) (w64 (l + 1),w64 (u - 1),(((g.set b.toNat h).set k.toNat j).set l.toNat ac).set u.toNat ad) ck fj (wkE [] [] [] J ⟨⟨_,J,K6 qd J Q1 (ltd J)⟩,qn J,qn J,qn J,trivial⟩ ⟨Qq J J,trivial⟩) ?_;intro c fz f;unfold q7t at f;refine Q7<|qf<|q8 f fun cl fk f=>?_;refine Qn (fun q=>q = cl) (fun (q : Int)=>⟨[(0,.hs 0 1 0 c.2.2.length),(1,q7 b),(10,q7 q),(11,q7 c.2.1)],[(0,.dat 1 (c.2.2.map (eI .i64)))],1⟩) qd ?_ ?_
  ·refine Qk (q7u c b) (fun (ae : Int)=>⟨[(0,.hs 0 1 0 c.2.2.length),(1,q7 b),(10,q7 ae),(11,q7 c.2.1)],[(0,.dat 1 (c.2.2.map (eI .i64)))],1⟩) c.1 cl fk (wkA [] [] []) ?_;intro ae ga w;unfold q7u at w;refine qf<|qf<|Ql [q6,q6,qu 0,q6,q6,q6,qu 0,q6,q6,q6,q6,q6,q6,q6] qh<|U J<|U J<|O (.d (.bool (decide (ae≤c.2.1)))) J<|q8 w fun fl o w=>?_;refine Qc 11 (fun A st=>∃ (cm cn co cp cq cr cs ct cu cv : V),st = A [(112,Q0 fl),(111,cv),(110,cu),(109,ct),(108,cs),(107,cr),(106,cq),(105,cp),(104,co),(103,cn),(102,cm)]) ?_ ?_
   ·refine Qa J J o (fun o=>?_) (fun o=>?_)
    ·refine U J<|U J<|q8 o fun cw cx o=>qx cx J J<|Qd (q7 cw) cx J<|U J<|U J<|q8 o fun cy cz o=>qx cz J J<|Qd (q7 cy) cz J<|q8 o fun da fm o=>Q4 (J4 cw cy da fm) J<|O (Q0 da) J<|q9 ?_;cases o;exact ⟨_,_,_,_,_,_,_,_,_,_,J⟩
    refine qb J<|qb J<|qb J<|qb J<|qb J<|qb J<|qb J<|qb J<|qb J<|O (Q0 false) J<|q9 ?_;cases o;exact ⟨_,_,_,_,_,_,_,_,_,_,J⟩
   rintro _ ⟨cm,cn,co,cp,cq,cr,cs,ct,cu,cv,rfl⟩;refine q9 ?_;refine qo J w (fun _ w=>?_) (fun _ w=>?_)
   ·refine qm<|Q7<|qz<|U J<|O (.d (qg (w64 (ae + 1)))) J<|qa J<|qy<|Qo<|Qm<|⟨_,qp w,wkA [] [] []⟩
   refine Qe ?_;refine ⟨_,qp w,fun hm=>?_⟩;subst hm;exact ⟨_,J,wkA [] [] []⟩
  intro q hb;subst hb;refine qf<|q8 f fun dc fn f=>?_;refine Qn (fun z=>z = dc) (fun (z : Int)=>⟨[(0,.hs 0 1 0 c.2.2.length),(1,q7 b),(10,q7 q),(11,q7 z)],[(0,.dat 1 (c.2.2.map (eI .i64)))],1⟩) qd ?_ ?_
  ·refine Qk (q7v q c b) (fun (af : Int)=>⟨[(0,.hs 0 1 0 c.2.2.length),(1,q7 b),(10,q7 q),(11,q7 af)],[(0,.dat 1 (c.2.2.map (eI .i64)))],1⟩) c.2.1 dc fn (wkA [] [] []) ?_;intro af gb x;unfold q7v at x;refine qf<|qf<|Ql [q6,q6,q6,qu 0,q6,q6,q6,qu 0,q6,q6,q6,q6,q6,q6,q6] qh<|U J<|U J<|O (.d (.bool (decide (q≤af)))) J<|q8 x fun fo p x=>?_;refine Qc 12 (fun A st=>∃ (dd de df dg dh dj dk dl dm dn dp : V),st = A [(129,Q0 fo),(128,dp),(127,dn),(126,dm),(125,dl),(124,dk),(123,dj),(122,dh),(121,dg),(120,df),(119,de),(118,dd)]) ?_ ?_
   ·refine Qa J J p (fun p=>?_) (fun p=>?_)
    ·refine U J<|U J<|q8 p fun dq dr p=>qx dr J J<|Qd (q7 dq) dr J<|U J<|U J<|q8 p fun dt du p=>qx du J J<|Qd (q7 dt) du J<|q8 p fun aj fq p=>Q4 (J4 dq dt aj fq) J<|O (Q0 (!aj)) J<|O (Q0 (!aj)) J<|q9 ?_;cases p;exact ⟨_,_,_,_,_,_,_,_,_,_,_,J⟩
    refine qb J<|qb J<|qb J<|qb J<|qb J<|qb J<|qb J<|qb J<|qb J<|qb J<|O (Q0 false) J<|q9 ?_;cases p;exact ⟨_,_,_,_,_,_,_,_,_,_,_,J⟩
   rintro _ ⟨dd,de,df,dg,dh,dj,dk,dl,dm,dn,dp,rfl⟩;refine q9 ?_;refine qo J x (fun _ x=>?_) (fun _ x=>?_)
   ·refine qm<|Q7<|qz<|U J<|O (.d (qg (w64 (af - 1)))) J<|qa J<|qy<|Qo<|Qm<|⟨_,qp x,wkA [] [] []⟩
   refine Qe ?_;refine ⟨_,qp x,fun hm=>?_⟩;subst hm;exact ⟨_,J,wkA [] [] []⟩
  intro z hb;subst hb;refine qf<|qc<|U J<|U J<|O (.d (.bool (decide (q > z)))) J<|q9 ?_;refine qo J f (fun _ f=>?_) (fun _ f=>?_)
  ·refine Qe ?_;refine ⟨_,qp f,fun hm=>?_⟩;subst hm;exact ⟨_,J,wkA [] [] []⟩
  refine qm<|qf<|Ql [Qv 0,q6,Qv 0,q6,qu 0,q6,q6,q6,qu 0,q6,q6,q6,q6,q6,q6,q6] qh<|U J<|U J<|U J<|U J<|U J<|U J<|q8 f fun ak dv f=>qx dv J J<|Qd (q7 ak) dv J<|U J<|U J<|q8 f fun al dw f=>qx dw J J<|Qd (q7 al) dw J<|q8 f fun gc dx f=>qx dx J J<|K3 (ds:=[qg ak]) ak dx J J J J J J J J (leb J) J<|q8 f fun gd dy f=>qx dy qd J<|K3 (ds:=[qg al]) al dy J J J J J J J J (leb J) J<|qs<|U J<|O (.d (qg (w64 (q + 1)))) J<|qa J<|q9<|qz<|U J<|O (.d (qg (w64 (z - 1)))) J<|qa J<|qy<|Qo<|Qm<|⟨_,qp f,wkE [] [] [] J ⟨⟨_,J,K6 qd J Q1 (ltd J)⟩,qn J,qn J,qn J,trivial⟩ ⟨Qq J J,trivial⟩⟩
 intro y hb;subst hb;refine qf<|Ql [Qv 0,q6,Qv 0,q6,qu 0,q6,q6,q6,qu 0,q6,q6,q6,q6,q6,q6,q6] qh<|U J<|U J<|U J<|U J<|U J<|U J<|q8 a fun am dz a=>qx dz J J<|Qd (q7 am) dz J<|U J<|U J<|q8 a fun an fa a=>qx fa J J<|Qd (q7 an) fa J<|q8 a fun ge fb a=>qx fb J J<|K3 (ds:=[qg am]) am fb J J J J J J J J (leb J) J<|q8 a fun gf fc a=>qx fc qd J<|K3 (ds:=[qg an]) an fc J J J J J J J J (leb J) J<|qs<|U J<|qa J<|qa J<|qv ?_;obtain rfl:=qt a;exact ⟨.inr J,_,J,wkA [] [] []⟩
theorem qnt (b : Int) (r : Int) (a : q2c b = some r) : Pure Tryz.prog tab 158 [qg b] (.int .u64 r):=by
 unfold q2c at a;refine Qp Tryz.func158 J qh qh J<|qc<|qa J<|qs<|U J<|O _ J<|q8 a fun c d a=>Q4 (qg2 (IntKind.wrap .u64 b) c d) J<|q8 a fun g f a=>qv2 f J J J<|qa J<|qv ?_;cases a;exact Q8 _ J
theorem qnw (a : Int) (r : Int) (b : q2d  a = some r) : K8 Tryz.prog tab 159 [.ref 0 1 0 0] [(0,.dat 1 [[.int .u64 a]])] 1 (.d (.int .u64 r)) [(0,.dat 1 [[.int .u64 r]])] 1:=by
 unfold q2d at b;refine Kr Tryz.func159 J qh qh J<|qc<|qa J<|q9<|qf<|Ql [Qv 0,q6,q6,q6,qu 0,q6,q6,qu 0,q6,q6] qh<|U J<|O _ J<|O _ J<|U J<|O _ J<|O _ J<|O _ J<|O _ J<|O _ J<|Qi 0 _ J<|q9<|qf<|Ql [Qv 0,q6,q6,q6,qu 0,q6,q6,qu 0,q6,q6] qh<|U J<|O _ J<|O _ J<|U J<|O _ J<|O _ J<|O _ J<|O _ J<|O _ J<|Qi 0 _ J<|q9<|qf<|Ql [Qv 0,q6,q6,q6,qu 0,q6,q6,qu 0,q6,q6] qh<|U J<|O _ J<|O _ J<|U J<|O _ J<|O _ J<|O _ J<|O _ J ?_;refine O _ J<|Qi 0 _ J<|qs<|U J<|O _ J<|O _ J<|qa J<|qv ?_;obtain rfl:=qt b;exact ⟨.inr J,_,J,wkA [] [] []⟩
theorem qzm (m : List Int) (f : Int) (g : Int) (r : List Int) (b : q78  m f g = some r) : K8 Tryz.prog tab 139 [.hs 0 1 0 m.length,q7 f,q7 g] [(0,.dat 1 (m.map (eI .i64)))] 1 (.d (.tup [])) [(0,.dat 1 (r.map (eI .i64)))] 1:=by
 unfold q78 at b;refine Kr Tryz.func139 J qh qh J<|qc<|U J<|U J<|O _ J<|qa J<|qs<|U J<|O _ J<|q9 ?_;refine qo J b (fun _ b=>?_) (fun _ b=>?_)
 ·refine qc<|U J<|O _ J<|K2 J J<|Qi 1 _ J<|qs<|U J<|q8 b fun j u b=>Q4 (qnt (w64 (g - f)) j u) J<|qa J<|qs<|U J<|U J<|O _ J<|O _ J<|O _ J<|O _ J<|qa J<|q9<|q8 b fun v w b=>Q7<|Qk (q79 f g j) (fun c=>⟨[(0,.hs 0 1 0 c.2.1.length),(1,q7 f),(6,.d (qg (w64 (g - f)))),(7,.ref 1 1 0 0),(8,.d (.int .u64 j)),(9,q7 c.1)],[(0,.dat 1 (c.2.1.map (eI .i64))),(1,.dat 1 [[.int .u64 c.2.2]])],2⟩) _ v w (wkA [(1,1)] [] []) ?_;intro c z a;unfold q79 at a;refine qf<|qc<|U J<|U J<|U J<|O _ J<|O _ J<|O _ J<|O _ J<|O _ J<|q9 ?_;refine qo J a (fun _ a=>?_) (fun _ a=>?_)
  ·refine qm<|qf<|Q7<|qc<|q8 a fun k x a=>K9 [(0,1)] [(0,1),(1,0)] _ (.d (.int .u64 k)) 1 [(1,.dat 1 [[.int .u64 k]]),(0,.dat 1 (c.2.1.map (eI .i64)))] 2 (qnw c.2.2 k x)<|U J<|O _ J<|O _ J<|O _ J<|qa J<|q9<|qf<|qc<|U J<|U J<|O _ J<|q9<|q8 a fun y h a=>?_;refine Z2 (fun l=>l = y) (fun l=>⟨[(0,.hs 0 1 0 c.2.1.length),(1,q7 f),(6,.d (qg (w64 (g - f)))),(7,.ref 1 1 0 0),(8,.d (.int .u64 j)),(9,q7 c.1),(10,q7 l)],[(0,.dat 1 (c.2.1.map (eI .i64))),(1,.dat 1 [[.int .u64 k]])],2⟩) qd ?_ ?_
   ·refine qo J h (fun _ h=>?_) (fun _ h=>?_)
    ·refine qz<|U J<|U J<|O _ J<|qa J<|qy ?_;obtain rfl:=qt h;exact ⟨_,J,wkA [(1,1)] [] []⟩
    refine qm<|Qm ?_;obtain rfl:=qt h;exact ⟨_,J,wkA [(1,1)] [] []⟩
   intro l hb;subst hb;refine Ql [Qv 0,q6,Qv 0,q6,qu 0,q6,q6,q6,qu 0,q6,q6,q6,q6,q6,q6,q6,q6,q6,q6,q6] qh<|U J<|U J<|U J<|U J<|U J<|O _ J<|U J<|U J<|U J<|O _ J<|q8 a fun n o a=>qx o J J<|Qd _ o J<|U J<|U J<|q8 a fun p q a=>qx q J J<|Qd _ q J<|q8 a fun aa s a=>qx s J J<|K3 (ds:=[qg n]) n s J J J J J J J J (leb J) J<|q8 a fun ab t a=>qx t qd J<|K3 (ds:=[qg p]) p t J J J J J J J J (leb J) J<|qy<|Qo<|qz<|U J<|O _ J<|qa J<|qy<|⟨_,qp a,wkE [(1,1)] [] [] J ⟨⟨_,J,K6 qd J Q1 (ltd J)⟩,qn J,qn J,⟨_,J,.ref J Q1 (ltd J)⟩,qn J,qn J,trivial⟩ ⟨Qq J J,Qq J J,trivial⟩⟩
  refine Qe ?_;refine ⟨_,qp a,fun hm=>?_⟩;subst hm;obtain rfl:=qt b;exact ⟨.inl J,_,J,wkA [] [] []⟩
 refine qm<|Qm ?_;obtain rfl:=qt b;exact ⟨.inl J,_,J,wkA [] [] []⟩
theorem q101 (rec : List Int→Int→Int→Int→Option (List Int)) (hrec : ∀ (n : List Int) (p : Int) (q : Int) (s : Int) (r : List Int),rec n p q s = some r→K8 Tryz.prog tab 111 [.hs 0 1 0 n.length,q7 p,q7 q,q7 s] [(0,.dat 1 (n.map (eI .i64)))] 1 (.d (.tup [])) [(0,.dat 1 (r.map (eI .i64)))] 1) (n : List Int) (p : Int) (q : Int) (s : Int) (r : List Int) (o : q4x rec  n p q s = some r) : K8 Tryz.prog tab 111 [.hs 0 1 0 n.length,q7 p,q7 q,q7 s] [(0,.dat 1 (n.map (eI .i64)))] 1 (.d (.tup [])) [(0,.dat 1 (r.map (eI .i64)))] 1:=by
 unfold q4x at o;refine Kr Tryz.func111 J qh qh J<|qc<|qa J<|qs<|qa J<|q9<|q8 o fun az ba o=>Q7<|Qk (q4w rec) (fun b=>⟨[(0,.hs 0 1 0 b.2.2.2.2.2.length),(1,q7 b.1),(2,q7 b.2.1),(3,q7 b.2.2.1),(8,Q0 b.2.2.2.1),(9,Q0 b.2.2.2.2.1)],[(0,.dat 1 (b.2.2.2.2.2.map (eI .i64)))],1⟩) _ az ba (wkA [] [] []) ?_;intro b cn a;unfold q4w at a;refine Q7<|qc<|U J<|U J<|O _ J<|qa J<|q9<|qf<|qc<|U J<|O _ J<|q9 ?_;refine qo J a (fun _ a=>?_) (fun _ a=>?_)
 ·refine qc<|U J<|U J<|U J<|q8 a fun aa bb a=>q8 a fun co bc a=>?_;have cp:=Kk bc;refine K9 [(0,0)] [(0,0)] _ (.d (.tup [])) 1 [(0,.dat 1 (aa.map (eI .i64)))] 1 (qzs b.2.2.2.2.2 b.1 b.2.1 aa bb)<|qv ?_;refine ⟨_,qp a,fun hm=>?_⟩;subst hm;obtain rfl:=qt o;exact ⟨.inr J,_,J,wkA [] [] []⟩
 refine qm<|qf<|qc<|U J<|O _ J<|q9 ?_;refine qo J a (fun _ a=>?_) (fun _ a=>?_)
 ·refine qc<|U J<|U J<|U J<|q8 a fun ab bd a=>q8 a fun cq be a=>?_;have cr:=Kk be;refine K9 [(0,0)] [(0,0)] _ (.d (.tup [])) 1 [(0,.dat 1 (ab.map (eI .i64)))] 1 (qzq b.2.2.2.2.2 b.1 b.2.1 ab bd)<|qv ?_;refine ⟨_,qp a,fun hm=>?_⟩;subst hm;obtain rfl:=qt o;exact ⟨.inr J,_,J,wkA [] [] []⟩
 refine qm<|qf<|qc<|U J<|O _ J<|q9<|q8 a fun bf k a=>?_;refine Z2 (fun c=>c = bf) (fun c=>⟨[(0,.hs 0 1 0 c.2.length),(1,q7 b.1),(2,q7 b.2.1),(3,q7 c.1),(8,Q0 b.2.2.2.1),(9,Q0 b.2.2.2.2.1),(10,.d (qg (w64 (b.2.1 - b.1))))],[(0,.dat 1 (c.2.map (eI .i64)))],1⟩) qd ?_ ?_
 ·refine qo J k (fun _ k=>?_) (fun _ k=>?_)
  ·refine qc<|U J<|U J<|U J<|q8 k fun ac bg k=>q8 k fun cs bh k=>?_;have bi:=Kk bh;refine K9 [(0,0)] [(0,0)] _ (.d (.tup [])) 1 [(0,.dat 1 (ac.map (eI .i64)))] 1 (qzm b.2.2.2.2.2 b.1 b.2.1 ac bg)<|q9<|qz<|U J<|O _ J<|qa J<|qy ?_;obtain rfl:=qt k;exact ⟨_,J,wkE [] [] [] J ⟨⟨_,J,K6 (by simp [bi]) J Q1 (ltd J)⟩,qn J,qn J,qn J,qn J,qn J,qn J,trivial⟩ ⟨Qq J J,trivial⟩⟩
  refine qm<|Qm ?_;obtain rfl:=qt k;exact ⟨_,J,wkA [] [] []⟩
 intro c hb;subst hb;refine qc<|U J<|U J<|U J<|q8 a fun bj bk a=>q25 [.hs 0 1 0 c.2.length,q7 b.1,q7 b.2.1] (qzo c.2 b.1 b.2.1 bj bk) J J (Zw (Z9 J J) (Zw J (Zw J J))) (.inr J)<|U J<|O _ J<|O _ J<|qa J<|qa J<|q9<|qf<|qc<|U J<|O _ J<|q9<|q8 a fun bl l a=>?_;refine Z2 (fun g=>g = bl) (fun g=>⟨[(0,.hs 0 1 0 g.2.2.length),(1,q7 b.1),(2,q7 b.2.1),(3,q7 c.1),(8,Q0 b.2.2.2.1),(9,Q0 b.2.2.2.2.1),(10,.d (qg (w64 (b.2.1 - b.1)))),(11,q7 g.1),(12,q7 g.2.1)],[(0,.dat 1 (g.2.2.map (eI .i64)))],1⟩) qd ?_ ?_
 ·refine qo J l (fun _ l=>?_) (fun _ l=>?_)
  ·refine qc<|U J<|U J<|U J<|q8 l fun ad bm l=>q8 l fun ct bn l=>?_;have bo:=Kk bn;refine K9 [(0,0)] [(0,0)] _ (.d (.tup [])) 1 [(0,.dat 1 (ad.map (eI .i64)))] 1 (q104 c.2 b.1 b.2.1 ad bm)<|qs<|U J<|O _ J<|U J<|U J<|O _ J<|O _ J<|qa J<|q9<|qz<|qa J<|qy ?_;obtain rfl:=qt l;exact ⟨_,J,wkE [] [] [] J ⟨⟨_,J,K6 (by simp [bo]) J Q1 (ltd J)⟩,qn J,qn J,qn J,qn J,qn J,qn J,qn J,qn J,trivial⟩ ⟨Qq J J,trivial⟩⟩
  refine qm<|Qm ?_;obtain rfl:=qt l;exact ⟨_,J,wkA [] [] []⟩
 intro g hb;subst hb;refine qf<|qc<|U J<|q8 a fun bp t a=>?_;refine Qc 3 (fun A st=>∃ ae af,st = A [(64,Q0 bp),(63,af),(62,ae)]) ?_ ?_
 ·refine Qa J J t (fun t=>?_) (fun t=>?_)
  ·refine U J<|O _ J<|q9 ?_;cases t;exact ⟨_,_,J⟩
  refine qb J<|O _ J<|q9 ?_;cases t;exact ⟨_,_,J⟩
 rintro _ ⟨ae,af,rfl⟩;refine q8 a fun bq u a=>?_;refine Qc 4 (fun A st=>∃ ag ah ai,st = A [(68,Q0 bq),(67,ai),(66,ah),(65,ag)]) ?_ ?_
 ·refine Qa J J u (fun u=>?_) (fun u=>?_)
  ·refine U J<|O _ J<|O _ J<|q9 ?_;cases u;exact ⟨_,_,_,J⟩
  refine qb J<|qb J<|O _ J<|q9 ?_;cases u;exact ⟨_,_,_,J⟩
 rintro _ ⟨ag,ah,ai,rfl⟩;refine q9<|q8 a fun br f a=>?_;refine Z2 (fun m=>.inl m = br) (fun m=>⟨[(0,.hs 0 1 0 m.length),(1,q7 b.1),(2,q7 b.2.1),(3,q7 c.1),(8,Q0 b.2.2.2.1),(9,Q0 b.2.2.2.2.1),(10,.d (qg (w64 (b.2.1 - b.1)))),(11,q7 g.1)],[(0,.dat 1 (m.map (eI .i64)))],1⟩) qd ?_ ?_
 ·refine qo J f (fun _ f=>?_) (fun _ f=>?_)
  ·refine qc<|U J<|U J<|U J<|q8 f fun w bs f=>q8 f fun cu bt f=>?_;have bu:=Kk bt;refine K9 [(0,0)] [(0,0)] _ (Q0 w.1) 1 [(0,.dat 1 (w.2.map (eI .i64)))] 1 (qzu g.2.2 b.1 b.2.1 w bs)<|q9 ?_;refine qo J f (fun _ f=>?_) (fun _ f=>?_)
   ·refine q29 ?_;obtain rfl:=qt f;refine ⟨_,qp a,fun hm=>?_⟩;subst hm;obtain rfl:=qt o;exact ⟨.inr J,_,J,wkA [] [] []⟩
   refine qm<|Qm ?_;obtain rfl:=qt f;exact ⟨_,J,wkE [] [] [] J ⟨⟨_,J,K6 (by simp [bu]) J Q1 (ltd J)⟩,qn J,qn J,qn J,qn J,qn J,qn J,qn J,trivial⟩ ⟨Qq J J,trivial⟩⟩
  refine qm<|Qm ?_;obtain rfl:=qt f;exact ⟨_,J,wkA [] [] []⟩
 intro m hb;subst hb;refine qf<|qf<|Ql [q6,q6,q6,qu 0,q6,q6,q6,qu 0,q6,q6,q6,q6,q6,q6,q6] qh<|U J<|O _ J<|q8 a fun bv h a=>?_;refine Qc 13 (fun A st=>∃ aj ak al am an ao ap aq ar au av aw,st = A [(87,Q0 bv),(86,aw),(85,av),(84,au),(83,ar),(82,aq),(81,ap),(80,ao),(79,an),(78,am),(77,al),(76,ak),(75,aj)]) ?_ ?_
 ·refine Qa J J h (fun h=>?_) (fun h=>?_)
  ·refine U J<|U J<|O _ J<|q8 h fun bw ax h=>qx ax J J<|Qd _ ax J<|U J<|U J<|q8 h fun bz ay h=>qx ay J J<|Qd _ ay J<|q8 h fun ca cb h=>Q4 (J4 bw bz ca cb) J<|O _ J<|O _ J<|q9 ?_;cases h;exact ⟨_,_,_,_,_,_,_,_,_,_,_,_,J⟩
  refine qb J<|qb J<|qb J<|qb J<|qb J<|qb J<|qb J<|qb J<|qb J<|qb J<|qb J<|O _ J<|q9 ?_;cases h;exact ⟨_,_,_,_,_,_,_,_,_,_,_,_,J⟩
 rintro _ ⟨aj,ak,al,am,an,ao,ap,aq,ar,au,av,aw,rfl⟩;refine q9 ?_;refine qo J a (fun _ a=>?_) (fun _ a=>?_)
 ·refine qc<|U J<|U J<|U J<|U J<|q8 a fun x cc a=>q8 a fun cv cd a=>?_;have ce:=Kk cd;refine K9 [(0,0)] [(0,0)] _ (q7 x.1) 1 [(0,.dat 1 (x.2.map (eI .i64)))] 1 (qzx m b.1 b.2.1 g.1 x cc)<|qa J<|qs<|U J<|qa J<|q9<|Qe<|U4<|Qm<|⟨_,qp a,wkE [] [] [] J ⟨⟨_,J,K6 (by simp [ce]) J Q1 (ltd J)⟩,qn J,qn J,qn J,qn J,qn J,trivial⟩ ⟨Qq J J,trivial⟩⟩
 refine qm<|qc<|U J<|U J<|U J<|U J<|q8 a fun j cf a=>q8 a fun cw cg a=>?_;have v:=Kk cg;refine K9 [(0,0)] [(0,0)] _ (.d (.tup [qg j.1,.bool j.2.1])) 1 [(0,.dat 1 (j.2.2.map (eI .i64)))] 1 (qzy m b.1 b.2.1 g.1 j cf)<|U J<|O _ J<|O _ J<|qa J<|qa J<|qs<|U J<|qa J<|qs<|U J<|U J<|O _ J<|U J<|U J<|O _ J<|qa J<|qa J<|qs<|U J<|O _ J<|qa J<|qs<|U J<|U J<|O _ J<|q9 ?_;refine qo J a (fun _ a=>?_) (fun _ a=>?_)
 ·refine qc<|U J<|U J<|O _ J<|qa J<|qs<|U J<|U J<|U J<|U J<|q8 a fun y ch a=>q8 a fun cx ci a=>?_;have cj:=Kk ci;refine Ua [(0,0)] [(0,0)] [.hs 0 1 0 m.length,q7 b.1,q7 j.1,q7 c.1] (.d (.tup [])) [(0,.dat 1 (y.map (eI .i64)))] [(0,.dat 1 (y.map (eI .i64)))] 1 (hrec j.2.2 b.1 j.1 c.1 y ch) J J J (Yi [(0,0)] [] [] J ⟨⟨_,J,K6 (by simp [v]) J Q1 (ltd J)⟩,qn J,qn J,qn J,trivial⟩ ⟨Qq J J,trivial⟩) (Yi [(0,0)] [] [] J ⟨qn J,trivial⟩ ⟨Qq J J,trivial⟩) J ⟨.inl J,trivial⟩<|q9<|qz<|U J<|O _ J<|qa J<|qy<|Qo<|Qm<|⟨_,qp a,wkE [] [] [] J ⟨⟨_,J,K6 (by simp [v,cj]) J Q1 (ltd J)⟩,qn J,qn J,qn J,qn J,qn J,trivial⟩ ⟨Qq J J,trivial⟩⟩
 refine qc<|U J<|U J<|O _ J<|qa J<|qs<|U J<|U J<|O _ J<|U J<|U J<|q8 a fun z ck a=>q8 a fun cy cl a=>?_;have cm:=Kk cl;refine Ua [(0,0)] [(0,0)] [.hs 0 1 0 m.length,.d (qg (w64 (j.1 + 1))),q7 b.2.1,q7 c.1] (.d (.tup [])) [(0,.dat 1 (z.map (eI .i64)))] [(0,.dat 1 (z.map (eI .i64)))] 1 (hrec j.2.2 (w64 (j.1 + 1)) b.2.1 c.1 z ck) J J J (Yi [(0,0)] [] [] J ⟨⟨_,J,K6 (by simp [v]) J Q1 (ltd J)⟩,qn J,qn J,qn J,trivial⟩ ⟨Qq J J,trivial⟩) (Yi [(0,0)] [] [] J ⟨qn J,trivial⟩ ⟨Qq J J,trivial⟩) J ⟨.inl J,trivial⟩<|q9<|qz<|U J<|qa J<|qy<|Qo<|Qm<|⟨_,qp a,wkE [] [] [] J ⟨⟨_,J,K6 (by simp [v,cm]) J Q1 (ltd J)⟩,qn J,qn J,qn J,qn J,qn J,trivial⟩ ⟨Qq J J,trivial⟩⟩
theorem q102 (n : Nat) : ∀ (a : List Int) (b : Int) (c : Int) (f : Int) (r : List Int),q7z n  a b c f = some r→K8 Tryz.prog tab 111 [.hs 0 1 0 a.length,q7 b,q7 c,q7 f] [(0,.dat 1 (a.map (eI .i64)))] 1 (.d (.tup [])) [(0,.dat 1 (r.map (eI .i64)))] 1:=by
 induction n with
 | zero=>intro a b c f r g;cases g
 | succ n ih=>intro a b c f r g;exact q101 (q7z n )   ih a b c f r g
theorem qdd (b : List Int) (r : List Int) (a : Ud  b = some r) : K8 Tryz.prog tab 83 [.hs 0 1 0 b.length] [(0,.dat 1 (b.map (eI .i64)))] 1 (.d (.tup [])) [(0,.dat 1 (r.map (eI .i64)))] 1:=by
 unfold Ud at a;refine Kr Tryz.func83 J qh qh J<|qc<|U J<|O _ J<|qa J<|q9<|qz<|U J<|U J<|U J<|O _ J<|q8 a fun f h a=>Q4 (qg2 (IntKind.wrap .u64 (b.length : Int)) f h) J<|q8 a fun g c a=>q8 a fun l j a=>?_;have m:=Kk j;obtain ⟨k,c⟩:=qfw c;refine K9 [(0,0)] [(0,0)] _ (.d (.tup [])) 1 [(0,.dat 1 (g.map (eI .i64)))] 1 (q102 k b 0 (b.length : Int) f g c)<|qy ?_;obtain rfl:=qt a;exact ⟨.inl J,_,J,wkA [] [] []⟩
theorem qd6 (d : List Int) (r : (Nat × Nat) × List Int) (c : q1g  d = some r) : K8 Tryz.prog tab 84 [.hs 0 1 0 d.length] [(0,.dat 1 (d.map (eI .i64)))] 1 (.hs 0 1 r.1.1 r.1.2) [(0,.dat 1 (r.2.map (eI .i64)))] 1:=by
 unfold q1g at c;refine Kr Tryz.func84 J qh qh J<|qc<|qa J<|q9<|qf<|qc<|U J<|O _ J<|O _ J<|q9 ?_;refine qo J c (fun _ c=>?_) (fun _ c=>?_)
 ·refine qc<|U J<|qa J<|qv ?_;obtain rfl:=qt c;exact ⟨.inr J,_,J,wkA [] [] []⟩
 refine qm<|qf<|qc<|qa J<|q9<|q8 c fun m z c=>?_;refine Qn (fun k=>.inl k = m) (fun k=>⟨[(0,.hs 0 1 0 d.length)],[(0,.dat 1 (d.map (eI .i64)))],1⟩) qd ?_ ?_
 ·refine Qk (Js d) (fun n=>⟨[(0,.hs 0 1 0 d.length),(3,q7 n)],[(0,.dat 1 (d.map (eI .i64)))],1⟩) _ m z (wkA [] [] []) ?_;intro n ae a;unfold Js at a;refine qf<|qc<|U J<|U J<|O _ J<|O _ J<|q9 ?_;refine qo J a (fun _ a=>?_) (fun _ a=>?_)
  ·refine qm<|qf<|Q7<|qf<|Ql [q6,qu 0,q6,q6,q6,q6,qu 0,q6,q6,q6] qh<|U J<|U J<|q8 a fun af o a=>qx o J J<|Qd _ o J<|U J<|U J<|O _ J<|q8 a fun ag p a=>qx p J J<|Qd _ p J<|O _ J<|q9 ?_;refine qo J a (fun _ a=>?_) (fun _ a=>?_)
   ·refine qc<|U J<|U J<|q8 a fun ah aa a=>q9i aa J J J J J (q5k J) (fun _=>rfl)<|qa J<|q9<|qf<|qc<|qa J<|q9<|q8 a fun q ab a=>?_;refine Qn (fun f=>f = q) (fun f=>⟨[(0,.hs 0 1 0 f.2.length),(3,q7 f.1)],[(0,.dat 1 (f.2.map (eI .i64)))],1⟩) qd ?_ ?_
    ·refine Qk (q2b) (fun g=>⟨[(0,.hs 0 1 0 g.2.2.2.length),(3,q7 g.1),(4,.hs 0 1 g.2.1.1 g.2.1.2),(5,q7 g.2.2.1)],[(0,.dat 1 (g.2.2.2.map (eI .i64)))],1⟩) _ q ab (wkA [] [] []) ?_;intro g ai h;unfold q2b at h;refine qf<|qc<|U J<|U J<|O _ J<|O _ J<|q9 ?_;refine qo J h (fun _ h=>?_) (fun _ h=>?_)
     ·refine qm<|qf<|q8 h fun ac b h=>?_;refine Qn (fun j=>j = ac) (fun j=>⟨[(0,.hs 0 1 0 j.2.2.length),(3,q7 j.1),(4,.hs 0 1 j.2.1.1 j.2.1.2),(5,q7 g.2.2.1)],[(0,.dat 1 (j.2.2.map (eI .i64)))],1⟩) qd ?_ ?_
      ·refine qf<|Ql [q6,qu 0,q6,q6,q6,q6,qu 0,q6,q6,q6] qh<|U J<|U J<|q8 b fun aj s b=>qgg s J J J J J J<|Qd _ (qfs s) J<|U J<|U J<|O _ J<|q8 b fun ak t b=>qgg t J J J J J J<|Qd _ (qfs t) J<|O _ J<|q9 ?_;refine qo J b (fun _ b=>?_) (fun _ b=>?_)
       ·refine qc<|U J<|U J<|U J<|U J<|q8 b fun u v b=>qgg v J J J J J J<|Qd _ (qfs v) J<|q8 b fun al x b=>qx x J J<|K3 (ds:=[qg u]) u x J J J J J J J J (leb J) J<|q9<|qz<|U J<|O _ J<|qa J<|qy ?_;obtain rfl:=qt b;exact ⟨_,J,wkE [] [] [] J ⟨⟨_,J,K6 qd J Q1 (ltd J)⟩,qn J,⟨_,J,.hs J Q1 (ltd J)⟩,qn J,trivial⟩ ⟨Qq J J,trivial⟩⟩
       refine qm<|Qm ?_;obtain rfl:=qt b;exact ⟨_,J,wkA [] [] []⟩
      intro j hb;subst hb;refine qz<|U J<|O _ J<|qa J<|qy<|⟨_,qp h,wkA [] [] []⟩
     refine Qe ?_;refine ⟨_,qp h,fun hm=>?_⟩;subst hm;exact ⟨_,J,wkA [] [] []⟩
    intro f hb;subst hb;refine qc<|U J<|U J<|q8 a fun y l a=>q9i l J J J J J (q5k J) (fun _=>rfl)<|quq (w:=y) (xs:=f.2) (enc:=(eI .i64)) 0 (qb8 l) J J J J J J J ?_;have am:=@qiy _ f.2 y 0 (qb8 l);refine qs<|U J<|U J<|q8 a fun an ad a=>q9i ad J J J J J (fun _=>rfl) (q5k J)<|qa J<|qv ?_;refine ⟨_,qp a,fun hm=>?_⟩;subst hm;obtain rfl:=qt c;exact ⟨.inr J,_,J,wkA [] [] []⟩
   refine qm<|Qm<|Qo<|qz<|U J<|O _ J<|qa J<|qy<|⟨_,qp a,wkA [] [] []⟩
  refine Qe ?_;refine ⟨_,qp a,fun hm=>?_⟩;subst hm;exact ⟨_,J,wkA [] [] []⟩
 intro k hb;subst hb;refine qc<|U J<|qa J<|qv ?_;obtain rfl:=qt c;exact ⟨.inr J,_,J,wkA [] [] []⟩
theorem qzf (b : List qi) (f : qi→Option Bool) (p1F : FuncId) (p1C : List DV) (p1Ok : ∀ (h : qi) (r : Bool),f h = some r→Pure Tryz.prog tab p1F ([.agg (qw h)] ++ p1C) (.bool r)) (r : Int) (c : qdb b f = some r) : Pure Tryz.prog tab 113 [.sl 4 (b.map qw),.fn p1F p1C] (qg r):=by
 unfold qdb at c;refine Qp Tryz.func113 J qh qh J<|qc<|qa J<|q9<|qf<|qc<|U J<|Qr J<|U J<|q9<|q8 c fun j l c=>?_;refine Qn (fun g=>.inl g = j) (fun g=>⟨[],[],0⟩) qd ?_ ?_
 ·refine Qk (q4p b f) (fun k=>⟨[(0,.d (.sl 4 (b.map qw))),(1,.d (.fn p1F p1C)),(7,q7 (b.length : Int)),(8,q7 k)],[],0⟩) _ j l (wkA [] [] []) ?_;intro k q a;unfold q4p at a;refine qc<|O _ J<|q9<|qf ?_;refine qo J a (fun _ a=>?_) (fun _ a=>?_)
  ·refine qm<|qf<|Q7<|qc<|U J<|qa J<|qs<|U J<|U J<|U J<|q8 a fun m n a=>Qh n J<|O _ J<|q8 a fun o p a=>Ys _ (p1Ok m o p) J J J (.inl J)<|q9 ?_;refine qo J a (fun _ a=>?_) (fun _ a=>?_)
   ·refine qc<|U J<|qa J<|qv ?_;refine ⟨_,qp a,fun hm=>?_⟩;subst hm;cases c;exact Q8 _ J
   refine qm<|Qm<|Qo<|qz<|O _ J<|U J<|qy<|⟨_,qp a,wkA [] [] []⟩
  refine Qe ?_;refine ⟨_,qp a,fun hm=>?_⟩;subst hm;exact ⟨_,J,wkA [] [] []⟩
 intro g hb;subst hb;refine qc<|qa J<|qv ?_;cases c;exact Q8 _ J
theorem qz9 (b : List qi) (c : qi→Option Bool) (p1F : FuncId) (p1C : List DV) (p1Ok : ∀ (d : qi) (r : Bool),c d = some r→Pure Tryz.prog tab p1F ([.agg (qw d)] ++ p1C) (.bool r)) (r : Bool) (a : qa3 b c = some r) : Pure Tryz.prog tab 86 [.sl 4 (b.map qw),.fn p1F p1C] (.bool r):=by
 unfold qa3 at a;refine Qp Tryz.func86 J qh qh J<|qc<|qa J<|qs<|U J<|U J<|q8 a fun f g a=>Q4 (qzf b c p1F p1C p1Ok f g) J<|O _ J<|qa J<|qv ?_;cases a;exact Q8 _ J
theorem qcy (c : Int) (r : Bool) (b : q3c c = some r) : Pure Tryz.prog tab 114 [qg c] (.bool r):=by
 unfold q3c at b;refine Qp Tryz.func114 J qh qh J<|qc<|qa J<|qs<|U J<|O _ J<|q8 b fun h a b=>?_;refine Qc 4 (fun A st=>∃ d f g,st = A [(8,Q0 h),(7,g),(6,f),(5,d)]) ?_ ?_
 ·refine Qa J J a (fun a=>?_) (fun a=>?_)
  ·refine U J<|O _ J<|O _ J<|q9 ?_;cases a;exact ⟨_,_,_,J⟩
  refine qb J<|qb J<|O _ J<|q9 ?_;cases a;exact ⟨_,_,_,J⟩
 rintro _ ⟨d,f,g,rfl⟩;refine qa J<|qv ?_;cases b;exact Q8 _ J
theorem qn1 (g : qi) (r : Bool) (a : q72 g = some r) : Pure Tryz.prog tab 88 [.agg (qw g)] (.bool r):=by
 unfold q72 at a;refine Qp Tryz.func88 J qh qh J<|qc<|Qs _ _ J<|qa J<|qs<|O _ J<|O _ J<|O _ J<|O _ J<|O _ J<|q8 a fun c1 h a=>?_;refine Qc 7 (fun A st=>∃ j k l m n o,st = A [(14,Q0 c1),(13,o),(12,n),(11,m),(10,l),(9,k),(8,j)]) ?_ ?_
 ·refine Qa J J h (fun h=>?_) (fun h=>?_)
  ·refine O _ J<|O _ J<|O _ J<|O _ J<|O _ J<|O _ J<|q9 ?_;cases h;exact ⟨_,_,_,_,_,_,J⟩
  refine qb J<|qb J<|qb J<|qb J<|qb J<|O _ J<|q9 ?_;cases h;exact ⟨_,_,_,_,_,_,J⟩
 rintro _ ⟨j,k,l,m,n,o,rfl⟩;refine q8 a fun ah b a=>?_;refine Qc 5 (fun A st=>∃ p q s t,st = A [(19,Q0 ah),(18,t),(17,s),(16,q),(15,p)]) ?_ ?_
 ·refine Qa J J b (fun b=>?_) (fun b=>?_)
  ·refine O _ J<|O _ J<|q8 b fun ai aj b=>Q4 (qcy g.X0 ai aj) J<|O _ J<|q9 ?_;cases b;exact ⟨_,_,_,_,J⟩
  refine qb J<|qb J<|qb J<|O _ J<|q9 ?_;cases b;exact ⟨_,_,_,_,J⟩
 rintro _ ⟨p,q,s,t,rfl⟩;refine q8 a fun ak c a=>?_;refine Qc 5 (fun A st=>∃ u v w x,st = A [(24,Q0 ak),(23,x),(22,w),(21,v),(20,u)]) ?_ ?_
 ·refine Qa J J c (fun c=>?_) (fun c=>?_)
  ·refine O _ J<|O _ J<|q8 c fun al am c=>Q4 (qcy g.X1 al am) J<|O _ J<|q9 ?_;cases c;exact ⟨_,_,_,_,J⟩
  refine qb J<|qb J<|qb J<|O _ J<|q9 ?_;cases c;exact ⟨_,_,_,_,J⟩
 rintro _ ⟨u,v,w,x,rfl⟩;refine q8 a fun an d a=>?_;refine Qc 5 (fun A st=>∃ y z aa ab,st = A [(29,Q0 an),(28,ab),(27,aa),(26,z),(25,y)]) ?_ ?_
 ·refine Qa J J d (fun d=>?_) (fun d=>?_)
  ·refine O _ J<|O _ J<|q8 d fun ao ap d=>Q4 (qcy g.Y0 ao ap) J<|O _ J<|q9 ?_;cases d;exact ⟨_,_,_,_,J⟩
  refine qb J<|qb J<|qb J<|O _ J<|q9 ?_;cases d;exact ⟨_,_,_,_,J⟩
 rintro _ ⟨y,z,aa,ab,rfl⟩;refine q8 a fun aq f a=>?_;refine Qc 5 (fun A st=>∃ ac ad ae af,st = A [(34,Q0 aq),(33,af),(32,ae),(31,ad),(30,ac)]) ?_ ?_
 ·refine Qa J J f (fun f=>?_) (fun f=>?_)
  ·refine O _ J<|O _ J<|q8 f fun ar au f=>Q4 (qcy g.Y1 ar au) J<|O _ J<|q9 ?_;cases f;exact ⟨_,_,_,_,J⟩
  refine qb J<|qb J<|qb J<|O _ J<|q9 ?_;cases f;exact ⟨_,_,_,_,J⟩
 rintro _ ⟨ac,ad,ae,af,rfl⟩;refine qa J<|qv ?_;cases a;exact Q8 _ J
theorem qx7 (b : qi) (r : Bool) (a : q3b b = some r) : Pure Tryz.prog tab 87 [.agg (qw b)] (.bool r):=by
 unfold q3b at a;refine Qp Tryz.func87 J qh qh J<|qc<|Qs _ _ J<|qa J<|qs<|O _ J<|q8 a fun c d a=>Q4 (qn1 b c d) J<|O _ J<|qa J<|qv ?_;cases a;exact Q8 _ J
theorem qzi (b : List qj) (f : qj→Option Bool) (p1F : FuncId) (p1C : List DV) (p1Ok : ∀ (h : qj) (r : Bool),f h = some r→Pure Tryz.prog tab p1F ([.agg (Qg h)] ++ p1C) (.bool r)) (r : Int) (c : qa8 b f = some r) : Pure Tryz.prog tab 162 [.sl 2 (b.map Qg),.fn p1F p1C] (qg r):=by
 unfold qa8 at c;refine Qp Tryz.func162 J qh qh J<|qc<|qa J<|q9<|qf<|qc<|U J<|Qr J<|U J<|q9<|q8 c fun j l c=>?_;refine Qn (fun g=>.inl g = j) (fun g=>⟨[],[],0⟩) qd ?_ ?_
 ·refine Qk (q3g b f) (fun k=>⟨[(0,.d (.sl 2 (b.map Qg))),(1,.d (.fn p1F p1C)),(7,q7 (b.length : Int)),(8,q7 k)],[],0⟩) _ j l (wkA [] [] []) ?_;intro k q a;unfold q3g at a;refine qc<|O _ J<|q9<|qf ?_;refine qo J a (fun _ a=>?_) (fun _ a=>?_)
  ·refine qm<|qf<|Q7<|qc<|U J<|qa J<|qs<|U J<|U J<|U J<|q8 a fun m n a=>Qh n J<|O _ J<|q8 a fun o p a=>Ys _ (p1Ok m o p) J J J (.inl J)<|q9 ?_;refine qo J a (fun _ a=>?_) (fun _ a=>?_)
   ·refine qc<|U J<|qa J<|qv ?_;refine ⟨_,qp a,fun hm=>?_⟩;subst hm;cases c;exact Q8 _ J
   refine qm<|Qm<|Qo<|qz<|O _ J<|U J<|qy<|⟨_,qp a,wkA [] [] []⟩
  refine Qe ?_;refine ⟨_,qp a,fun hm=>?_⟩;subst hm;exact ⟨_,J,wkA [] [] []⟩
 intro g hb;subst hb;refine qc<|qa J<|qv ?_;cases c;exact Q8 _ J
theorem qzb (b : List qj) (c : qj→Option Bool) (p1F : FuncId) (p1C : List DV) (p1Ok : ∀ (d : qj) (r : Bool),c d = some r→Pure Tryz.prog tab p1F ([.agg (Qg d)] ++ p1C) (.bool r)) (r : Bool) (a : qa5 b c = some r) : Pure Tryz.prog tab 148 [.sl 2 (b.map Qg),.fn p1F p1C] (.bool r):=by
 unfold qa5 at a;refine Qp Tryz.func148 J qh qh J<|qc<|qa J<|qs<|U J<|U J<|q8 a fun f g a=>Q4 (qzi b c p1F p1C p1Ok f g) J<|O _ J<|qa J<|qv ?_;cases a;exact Q8 _ J
theorem qoq (d : qj) (r : Bool) (a : q3q d = some r) : Pure Tryz.prog tab 134 [.agg (Qg d)] (.bool r):=by
 unfold q3q at a;refine Qp Tryz.func134 J qh qh J<|qc<|Qs _ _ J<|qa J<|qs<|O _ J<|O _ J<|O _ J<|O _ J<|O _ J<|q8 a fun o b a=>?_;refine Qc 5 (fun A st=>∃ f g h j,st = A [(12,Q0 o),(11,j),(10,h),(9,g),(8,f)]) ?_ ?_
 ·refine Qa J J b (fun b=>?_) (fun b=>?_)
  ·refine O _ J<|O _ J<|O _ J<|O _ J<|q9 ?_;cases b;exact ⟨_,_,_,_,J⟩
  refine qb J<|qb J<|qb J<|O _ J<|q9 ?_;cases b;exact ⟨_,_,_,_,J⟩
 rintro _ ⟨f,g,h,j,rfl⟩;refine q8 a fun p c a=>?_;refine Qc 5 (fun A st=>∃ k l m n,st = A [(17,Q0 p),(16,n),(15,m),(14,l),(13,k)]) ?_ ?_
 ·refine Qa J J c (fun c=>?_) (fun c=>?_)
  ·refine O _ J<|O _ J<|O _ J<|O _ J<|q9 ?_;cases c;exact ⟨_,_,_,_,J⟩
  refine qb J<|qb J<|qb J<|O _ J<|q9 ?_;cases c;exact ⟨_,_,_,_,J⟩
 rintro _ ⟨k,l,m,n,rfl⟩;refine qa J<|qv ?_;cases a;exact Q8 _ J
theorem q12k (b : qj) (r : Bool) (a : qdn b = some r) : Pure Tryz.prog tab 149 [.agg (Qg b)] (.bool r):=by
 unfold qdn at a;refine Qp Tryz.func149 J qh qh J<|qc<|Qs _ _ J<|qa J<|qs<|O _ J<|q8 a fun c d a=>Q4 (qoq b c d) J<|O _ J<|qa J<|qv ?_;cases a;exact Q8 _ J
theorem q12r (a : ql) (b : ql) (r : Int) (c : qb4 a b = some r) : Pure Tryz.prog tab 155 [.agg (Q9 a),.agg (Q9 b)] (qg r):=by
 unfold qb4 at c;refine Qp Tryz.func155 J qh qh J<|qc<|Qs _ _ J<|Qs _ _ J<|qa J<|qs<|O _ J<|O _ J<|O _ J<|O _ J<|O _ J<|qa J<|qv ?_;cases c;exact Q8 _ J
theorem qzr (k : ql→ql→Option Int) (q1F : FuncId) (q1C : List DV) (q1Ok : ∀ (p : ql) (q : ql) (r : Int),k p q = some r→Pure Tryz.prog tab q1F ([.agg (Q9 p),.agg (Q9 q)] ++ q1C) (qg r)) (n : List ql) (f : Int) (g : Int) (r : List ql) (l : qaf k n f g = some r) : K8 Tryz.prog tab 166 [.hs 0 3 0 n.length,q7 f,q7 g,.d (.fn q1F q1C)] [(0,.dat 3 (n.map Q9))] 1 (.d (.tup [])) [(0,.dat 3 (r.map Q9))] 1:=by
 unfold qaf at l;refine Kr Tryz.func166 J qh qh J<|qc<|U J<|O _ J<|qa J<|q9<|q8 l fun al am l=>Q7<|Qk (qag g f k) (fun h=>⟨[(0,.hs 0 3 0 h.2.length),(1,q7 f),(2,q7 g),(3,.d (.fn q1F q1C)),(8,q7 h.1)],[(0,.dat 3 (h.2.map Q9))],1⟩) _ al am (wkA [] [] []) ?_;intro h az c;unfold qag at c;refine qf<|qc<|U J<|U J<|O _ J<|q9 ?_;refine qo J c (fun _ c=>?_) (fun _ c=>?_)
 ·refine qm<|qf<|q8 c fun an o c=>?_;refine Qn (fun j=>j = an) (fun j=>⟨[(0,.hs 0 3 0 j.length),(1,q7 f),(2,q7 g),(3,.d (.fn q1F q1C)),(8,q7 h.1)],[(0,.dat 3 (j.map Q9))],1⟩) qd ?_ ?_
  ·refine qc<|U J<|qa J<|q9<|q8 o fun ao ap o=>Q7<|Qk (qah f k) (fun m=>⟨[(0,.hs 0 3 0 m.2.length),(1,q7 f),(2,q7 g),(3,.d (.fn q1F q1C)),(8,q7 h.1),(9,q7 m.1)],[(0,.dat 3 (m.2.map Q9))],1⟩) _ ao ap (wkA [] [] []) ?_;intro m ba a;unfold qah at a;refine qf<|qf<|Ql [q6,q6,q6,qu 0,q6,q6,q6,q6,qu 0,q6,q6,q6,q6,q6,q6,q6,q6] qh<|U J<|U J<|O _ J<|q8 a fun aq b a=>?_;refine Qc 14 (fun A st=>∃ s t u v w x y z aa ab ac ad ae,st = A [(34,Q0 aq),(33,ae),(32,ad),(31,ac),(30,ab),(29,aa),(28,z),(27,y),(26,x),(25,w),(24,v),(23,u),(22,t),(21,s)]) ?_ ?_
   ·refine Qa J J b (fun b=>?_) (fun b=>?_)
    ·refine U J<|U J<|U J<|q8 b fun ar af b=>qx af J J<|Qd _ af J<|U J<|U J<|O _ J<|q8 b fun au ag b=>qx ag J J<|Qd _ ag J<|q8 b fun av aw b=>Ys _ (q1Ok ar au av aw) J J J (.inl J)<|O _ J<|O _ J<|q9 ?_;cases b;exact ⟨_,_,_,_,_,_,_,_,_,_,_,_,_,J⟩
    refine qb J<|qb J<|qb J<|qb J<|qb J<|qb J<|qb J<|qb J<|qb J<|qb J<|qb J<|qb J<|O _ J<|q9 ?_;cases b;exact ⟨_,_,_,_,_,_,_,_,_,_,_,_,_,J⟩
   rintro _ ⟨s,t,u,v,w,x,y,z,aa,ab,ac,ad,ae,rfl⟩;refine q9 ?_;refine qo J a (fun _ a=>?_) (fun _ a=>?_)
   ·refine qm<|qf<|Q7<|Ql [Qv 0,q6,Qv 0,q6,qu 0,q6,q6,q6,qu 0,q6,q6,q6,q6,q6,q6,q6,q6,q6] qh<|U J<|U J<|U J<|U J<|O _ J<|U J<|U J<|O _ J<|q8 a fun ax ah a=>qx ah J J<|Qd _ ah J<|U J<|U J<|q8 a fun ay ai a=>qx ai J J<|Qd _ ai J<|q8 a fun bb aj a=>qx aj J J<|K3 ax aj J J J J J J J J (leb J) J<|q8 a fun bc ak a=>qx ak qd J<|K3 ay ak J J J J J J J J (leb J) J<|qy<|Qo<|qz<|U J<|O _ J<|qa J<|qy<|⟨_,qp a,wkE [] [] [] J ⟨⟨_,J,K6 qd J Q1 (ltd J)⟩,qn J,qn J,qn J,qn J,qn J,trivial⟩ ⟨Qq J J,trivial⟩⟩
   refine Qe ?_;refine ⟨_,qp a,fun hm=>?_⟩;subst hm;obtain rfl:=qt o;exact ⟨_,J,wkA [] [] []⟩
  intro j hb;subst hb;refine qz<|U J<|O _ J<|qa J<|qy<|⟨_,qp c,wkA [] [] []⟩
 refine Qe ?_;refine ⟨_,qp c,fun hm=>?_⟩;subst hm;obtain rfl:=qt l;exact ⟨.inl J,_,J,wkA [] [] []⟩
theorem qnu (l : ql→ql→Option Int) (q1F : FuncId) (q1C : List DV) (q1Ok : ∀ (n : ql) (o : ql) (r : Int),l n o = some r→Pure Tryz.prog tab q1F ([.agg (Q9 n),.agg (Q9 o)] ++ q1C) (qg r)) (m : List ql) (p : Int) (f : Int) (g : Int) (r : List ql) (h : q81 l m p f g = some r) : K8 Tryz.prog tab 174 [.hs 0 3 0 m.length,q7 p,q7 f,q7 g,.d (.fn q1F q1C)] [(0,.dat 3 (m.map Q9))] 1 (.d (.tup [])) [(0,.dat 3 (r.map Q9))] 1:=by
 unfold q81 at h;refine Kr Tryz.func174 J qh qh J<|qc<|U J<|qa J<|q9<|q8 h fun aq ar h=>Q7<|Qk (qaz f g l) (fun c=>⟨[(0,.hs 0 3 0 c.2.length),(2,q7 f),(3,q7 g),(4,.d (.fn q1F q1C)),(10,q7 c.1)],[(0,.dat 3 (c.2.map Q9))],1⟩) _ aq ar (wkA [] [] []) ?_;intro c bg a;unfold qaz at a;refine Q7<|qc<|U J<|O _ J<|O _ J<|qa J<|q9<|qf<|qc<|U J<|U J<|O _ J<|q9 ?_;refine qo J a (fun _ a=>?_) (fun _ a=>?_)
 ·refine Qe ?_;refine ⟨_,qp a,fun hm=>?_⟩;subst hm;obtain rfl:=qt h;exact ⟨.inl J,_,J,wkA [] [] []⟩
 refine qm<|qf<|qf<|Ql [q6,q6,q6,qu 0,q6,q6,q6,q6,q6,q6,qu 0,q6,q6,q6,q6,q6,q6,q6,q6,q6,q6,q6] qh<|U J<|O _ J<|U J<|O _ J<|q8 a fun au b a=>?_;refine Qc 18 (fun A st=>∃ q s t u v w x y z aa ab ac ad ae af ag ah,st = A [(40,Q0 au),(39,ah),(38,ag),(37,af),(36,ae),(35,ad),(34,ac),(33,ab),(32,aa),(31,z),(30,y),(29,x),(28,w),(27,v),(26,u),(25,t),(24,s),(23,q)]) ?_ ?_
 ·refine Qa J J b (fun b=>?_) (fun b=>?_)
  ·refine U J<|U J<|U J<|U J<|O _ J<|q8 b fun av ai b=>qx ai J J<|Qd _ ai J<|U J<|U J<|U J<|O _ J<|O _ J<|q8 b fun aw aj b=>qx aj J J<|Qd _ aj J<|q8 b fun ax ay b=>Ys _ (q1Ok av aw ax ay) J J J (.inl J)<|O _ J<|O _ J<|q9 ?_;cases b;exact ⟨_,_,_,_,_,_,_,_,_,_,_,_,_,_,_,_,_,J⟩
  refine qb J<|qb J<|qb J<|qb J<|qb J<|qb J<|qb J<|qb J<|qb J<|qb J<|qb J<|qb J<|qb J<|qb J<|qb J<|qb J<|O _ J<|q9 ?_;cases b;exact ⟨_,_,_,_,_,_,_,_,_,_,_,_,_,_,_,_,_,J⟩
 rintro _ ⟨q,s,t,u,v,w,x,y,z,aa,ab,ac,ad,ae,af,ag,ah,rfl⟩;refine q9<|q8 a fun az j a=>?_;refine Z2 (fun k=>k = az) (fun k=>⟨[(0,.hs 0 3 0 c.2.length),(2,q7 f),(3,q7 g),(4,.d (.fn q1F q1C)),(10,q7 c.1),(11,q7 k)],[(0,.dat 3 (c.2.map Q9))],1⟩) qd ?_ ?_
 ·refine qo J j (fun _ j=>?_) (fun _ j=>?_)
  ·refine qz<|U J<|O _ J<|qa J<|qy ?_;obtain rfl:=qt j;exact ⟨_,J,wkA [] [] []⟩
  refine qm<|Qm ?_;obtain rfl:=qt j;exact ⟨_,J,wkA [] [] []⟩
 intro k hb;subst hb;refine qf<|qf<|Ql [q6,q6,q6,qu 0,q6,q6,q6,q6,q6,qu 0,q6,q6,q6,q6,q6,q6] qh<|U J<|U J<|U J<|U J<|O _ J<|q8 a fun ba ak a=>qx ak J J<|Qd _ ak J<|U J<|U J<|U J<|O _ J<|q8 a fun bb al a=>qx al J J<|Qd _ al J<|q8 a fun bc bd a=>Ys _ (q1Ok ba bb bc bd) J J J (.inl J)<|O _ J<|O _ J<|q9 ?_;refine qo J a (fun _ a=>?_) (fun _ a=>?_)
 ·refine q29 ?_;refine ⟨_,qp a,fun hm=>?_⟩;subst hm;obtain rfl:=qt h;exact ⟨.inr J,_,J,wkA [] [] []⟩
 refine qm<|qf<|Ql [Qv 0,q6,Qv 0,q6,qu 0,q6,q6,q6,q6,q6,qu 0,q6,q6,q6,q6,q6,q6,q6,q6,q6,q6,q6,q6,q6] qh<|U J<|U J<|U J<|O _ J<|U J<|U J<|U J<|O _ J<|U J<|U J<|U J<|O _ J<|q8 a fun be am a=>qx am J J<|Qd _ am J<|U J<|U J<|U J<|O _ J<|q8 a fun bf an a=>qx an J J<|Qd _ an J<|q8 a fun bh ao a=>qx ao J J<|K3 be ao J J J J J J J J (leb J) J<|q8 a fun bi ap a=>qx ap qd J<|K3 bf ap J J J J J J J J (leb J) J<|q9<|qz<|U J<|qa J<|qy<|Qo<|Qm<|⟨_,qp a,wkE [] [] [] J ⟨⟨_,J,K6 qd J Q1 (ltd J)⟩,qn J,qn J,qn J,qn J,trivial⟩ ⟨Qq J J,trivial⟩⟩
theorem qzp (g : ql→ql→Option Int) (q1F : FuncId) (q1C : List DV) (q1Ok : ∀ (o : ql) (p : ql) (r : Int),g o p = some r→Pure Tryz.prog tab q1F ([.agg (Q9 o),.agg (Q9 p)] ++ q1C) (qg r)) (m : List ql) (b : Int) (h : Int) (r : List ql) (j : qac g m b h = some r) : K8 Tryz.prog tab 167 [.hs 0 3 0 m.length,q7 b,q7 h,.d (.fn q1F q1C)] [(0,.dat 3 (m.map Q9))] 1 (.d (.tup [])) [(0,.dat 3 (r.map Q9))] 1:=by
 unfold qac at j;refine Kr Tryz.func167 J qh qh J<|qc<|U J<|qa J<|qs<|qa J<|qs<|U J<|U J<|O _ J<|qa J<|q9<|qf<|qc<|U J<|O _ J<|O _ J<|qa J<|q9<|q8 j fun q z j=>?_;refine Qn (fun l=>l = q) (fun l=>⟨[(0,.hs 0 3 0 l.length),(3,.d (.fn q1F q1C)),(8,q7 b),(9,q7 0),(10,.d (qg (w64 (h - b))))],[(0,.dat 3 (l.map Q9))],1⟩) qd ?_ ?_
 ·refine Qk (qad g h b) (fun k=>⟨[(0,.hs 0 3 0 k.2.length),(3,.d (.fn q1F q1C)),(8,q7 b),(9,q7 0),(10,.d (qg (w64 (h - b)))),(11,q7 k.1)],[(0,.dat 3 (k.2.map Q9))],1⟩) _ q z (wkA [] [] []) ?_;intro k ai c;unfold qad at c;refine qf<|qc<|U J<|O _ J<|q9 ?_;refine qo J c (fun _ c=>?_) (fun _ c=>?_)
  ·refine qm<|qf<|Q7<|qz<|U J<|U J<|U J<|U J<|U J<|q8 c fun s aa c=>q8 c fun aj ab c=>?_;have ac:=Kk ab;refine K9 [(0,0)] [(0,0)] _ (.d (.tup [])) 1 [(0,.dat 3 (s.map Q9))] 1 (qnu g q1F q1C q1Ok k.2 k.1 (w64 (h - b)) b s aa)<|qy<|Qo<|qz<|U J<|O _ J<|qa J<|qy<|⟨_,qp c,wkE [] [] [] J ⟨⟨_,J,K6 (by simp [ac]) J Q1 (ltd J)⟩,qn J,qn J,qn J,qn J,qn J,trivial⟩ ⟨Qq J J,trivial⟩⟩
  refine Qe ?_;refine ⟨_,qp c,fun hm=>?_⟩;subst hm;exact ⟨_,J,wkA [] [] []⟩
 intro l hb;subst hb;refine qc<|U J<|O _ J<|qa J<|q9<|q8 j fun ad ae j=>Q7<|Qk (qae b g) (fun f=>⟨[(0,.hs 0 3 0 f.2.length),(3,.d (.fn q1F q1C)),(8,q7 b),(9,q7 0),(12,q7 f.1)],[(0,.dat 3 (f.2.map Q9))],1⟩) _ ad ae (wkA [] [] []) ?_;intro f ak a;unfold qae at a;refine qf<|qc<|U J<|O _ J<|q9 ?_;refine qo J a (fun _ a=>?_) (fun _ a=>?_)
 ·refine qm<|qf<|Q7<|qf<|Ql [Qv 0,q6,Qv 0,q6,qu 0,q6,q6,q6,qu 0,q6,q6,q6,q6,q6,q6,q6,q6,q6,q6,q6] qh<|U J<|U J<|U J<|U J<|U J<|O _ J<|U J<|U J<|U J<|O _ J<|q8 a fun t u a=>qx u J J<|Qd _ u J<|U J<|U J<|q8 a fun v w a=>qx w J J<|Qd _ w J<|q8 a fun al x a=>qx x J J<|K3 t x J J J J J J J J (leb J) J<|q8 a fun am y a=>qx y qd J<|K3 v y J J J J J J J J (leb J) J<|q9<|qz<|U J<|U J<|U J<|U J<|U J<|q8 a fun n af a=>q8 a fun an ag a=>?_;have ah:=Kk ag;refine Ua [(0,0)] [(0,0)] [.hs 0 3 0 f.2.length,q7 0,q7 f.1,q7 b,.d (.fn q1F q1C)] (.d (.tup [])) [(0,.dat 3 (n.map Q9))] [(0,.dat 3 (n.map Q9))] 1 (qnu g q1F q1C q1Ok ((f.2.set b.toNat t).set (w64 (b + f.1)).toNat v) 0 f.1 b n af) J J J (Yi [(0,0)] [] [] J ⟨⟨_,J,K6 qd J Q1 (ltd J)⟩,qn J,qn J,qn J,qn J,trivial⟩ ⟨Qq J J,trivial⟩) (Yi [(0,0)] [] [] J ⟨qn J,trivial⟩ ⟨Qq J J,trivial⟩) J ⟨.inl J,trivial⟩<|qy<|Qo<|qz<|U J<|O _ J<|qa J<|qy<|⟨_,qp a,wkE [] [] [] J ⟨⟨_,J,K6 (by simp [ah]) J Q1 (ltd J)⟩,qn J,qn J,qn J,qn J,trivial⟩ ⟨Qq J J,trivial⟩⟩
 refine Qe ?_;refine ⟨_,qp a,fun hm=>?_⟩;subst hm;obtain rfl:=qt j;exact ⟨.inl J,_,J,wkA [] [] []⟩
theorem qha (b : ql→ql→Option Int) (q1F : FuncId) (q1C : List DV) (q1Ok : ∀ (c : ql) (f : ql) (r : Int),b c f = some r→Pure Tryz.prog tab q1F ([.agg (Q9 c),.agg (Q9 f)] ++ q1C) (qg r)) (g : List ql) (h : Int) (j : Int) (k : Int) (r : Int × Int × Int) (a : q4t b g h j k = some r) : K8 Tryz.prog tab 177 [.d (.sl 3 (g.map Q9)),q7 h,q7 j,.ref 0 1 0 0,.d (.fn q1F q1C)] [(0,.dat 1 [[qg k]])] 1 (.d (.tup [qg r.1,qg r.2.1])) [(0,.dat 1 [[qg r.2.2]])] 1:=by
 unfold q4t at a;refine Kr Tryz.func177 J qh qh J<|qc<|qa J<|qa J<|q9<|qf<|qf<|Ql [q6,q6,q6,q6,q6,q6,q6,q6,q6,q6,q6] qh<|U J<|U J<|U J<|q8 a fun l m a=>Qh m J<|O _ J<|U J<|U J<|q8 a fun n o a=>Qh o J<|O _ J<|q8 a fun p q a=>Ys _ (q1Ok l n p q) J J J (.inl J)<|O _ J<|q9 ?_;refine qo J a (fun _ a=>?_) (fun _ a=>?_)
 ·refine qc<|U J<|O _ J<|O _ J<|O _ J<|O _ J<|Qi 0 _ J<|qs<|U J<|U J<|qa J<|qa J<|qv ?_;obtain rfl:=qt a;exact ⟨.inr J,_,J,wkA [] [] []⟩
 refine qm<|qc<|U J<|U J<|qa J<|qa J<|qv ?_;obtain rfl:=qt a;exact ⟨.inr J,_,J,wkA [] [] []⟩
theorem qnr (f : ql→ql→Option Int) (q1F : FuncId) (q1C : List DV) (q1Ok : ∀ (n : ql) (o : ql) (r : Int),f n o = some r→Pure Tryz.prog tab q1F ([.agg (Q9 n),.agg (Q9 o)] ++ q1C) (qg r)) (g : List ql) (j : Int) (k : Int) (l : Int) (m : Int) (r : Int × Int) (a : q7h f g j k l m = some r) : K8 Tryz.prog tab 176 [.d (.sl 3 (g.map Q9)),q7 j,q7 k,q7 l,.ref 0 1 0 0,.d (.fn q1F q1C)] [(0,.dat 1 [[qg m]])] 1 (q7 r.1) [(0,.dat 1 [[qg r.2]])] 1:=by
 unfold q7h at a;refine Kr Tryz.func176 J qh qh J<|qc<|qa J<|qs<|U J<|U J<|U J<|U J<|U J<|q8 a fun b p a=>K9 [(0,0)] [(0,0)] _ (.d (.tup [qg b.1,qg b.2.1])) 1 [(0,.dat 1 [[qg b.2.2]])] 1 (qha f q1F q1C q1Ok g j k m b p)<|U J<|O _ J<|O _ J<|qa J<|qa J<|qs<|U J<|U J<|U J<|U J<|U J<|q8 a fun c q a=>K9 [(0,0)] [(0,0)] _ (.d (.tup [qg c.1,qg c.2.1])) 1 [(0,.dat 1 [[qg c.2.2]])] 1 (qha f q1F q1C q1Ok g b.2.1 l b.2.2 c q)<|U J<|O _ J<|O _ J<|qa J<|qa J<|qs<|U J<|U J<|U J<|U J<|U J<|q8 a fun h s a=>K9 [(0,0)] [(0,0)] _ (.d (.tup [qg h.1,qg h.2.1])) 1 [(0,.dat 1 [[qg h.2.2]])] 1 (qha f q1F q1C q1Ok g b.1 c.1 c.2.2 h s)<|U J<|O _ J<|O _ J ?_;refine qa J<|qa J<|qs<|U J<|qa J<|qv ?_;obtain rfl:=qt a;exact ⟨.inr J,_,J,wkA [] [] []⟩
theorem qh8 (c : ql→ql→Option Int) (q1F : FuncId) (q1C : List DV) (q1Ok : ∀ (j : ql) (k : ql) (r : Int),c j k = some r→Pure Tryz.prog tab q1F ([.agg (Q9 j),.agg (Q9 k)] ++ q1C) (qg r)) (f : List ql) (a : Int) (g : Int) (r : Int × Int) (b : q4r c f a g = some r) : K8 Tryz.prog tab 175 [.d (.sl 3 (f.map Q9)),q7 a,.ref 0 1 0 0,.d (.fn q1F q1C)] [(0,.dat 1 [[qg g]])] 1 (q7 r.1) [(0,.dat 1 [[qg r.2]])] 1:=by
 unfold q4r at b;refine Kr Tryz.func175 J qh qh J<|qc<|qa J<|qs<|U J<|U J<|O _ J<|U J<|U J<|O _ J<|U J<|U J<|q8 b fun h l b=>K9 [(0,0)] [(0,0)] _ (q7 h.1) 1 [(0,.dat 1 [[qg h.2]])] 1 (qnr c q1F q1C q1Ok f (w64 (a - 1)) a (w64 (a + 1)) g h l)<|qa J<|qv ?_;obtain rfl:=qt b;exact ⟨.inr J,_,J,wkA [] [] []⟩
theorem qzn (h : List ql) (g : Int) (k : Int) (j : ql→ql→Option Int) (p3F : FuncId) (p3C : List DV) (p3Ok : ∀ (q : ql) (s : ql) (r : Int),j q s = some r→Pure Tryz.prog tab p3F ([.agg (Q9 q),.agg (Q9 s)] ++ p3C) (qg r)) (r : Int × Int) (a : qab h g k j = some r) : Pure Tryz.prog tab 169 [.sl 3 (h.map Q9),qg g,qg k,.fn p3F p3C] (.tup [qg r.1,qg r.2]):=by
 unfold qab at a;refine Qp Tryz.func169 J qh qh J<|qc<|qa J<|qa J<|qs<|U J<|U J<|O _ J<|qa J<|qs<|K2 J J<|qs<|U J<|U J<|O _ J<|O _ J<|O _ J<|qa J<|qs<|U J<|U J<|O _ J<|O _ J<|O _ J<|qa J<|qs<|U J<|U J<|O _ J<|O _ J<|O _ J<|qa J<|q9<|qf<|qc<|U J<|O _ J<|q9<|q8 a fun t f a=>?_;refine Z2 (fun l=>l = t) (fun l=>⟨[(11,.ref 0 1 0 0),(13,q7 l.1)],[(0,.dat 1 [[qg l.2]])],1⟩) qd ?_ ?_
 ·refine qo J f (fun _ f=>?_) (fun _ f=>?_)
  ·refine qf<|qc<|U J<|O _ J<|q9<|q8 f fun u b f=>?_;refine Z2 (fun c=>c = u) (fun c=>⟨[(0,.d (.sl 3 (h.map Q9))),(3,.d (.fn p3F p3C)),(11,.ref 0 1 0 0),(12,q7 c.1),(13,q7 c.2.1),(14,q7 c.2.2.1)],[(0,.dat 1 [[qg c.2.2.2]])],1⟩) qd ?_ ?_
   ·refine qo J b (fun _ b=>?_) (fun _ b=>?_)
    ·refine qc<|U J<|U J<|U J<|q8 b fun m v b=>K9 [(0,0)] [(0,0)] _ (q7 m.1) 1 [(0,.dat 1 [[qg m.2]])] 1 (qh8 j p3F p3C p3Ok h (w64 (g + (w64 ((w64 (Int.tdiv (w64 (k - g)) 4)) * 1)))) 0 m v)<|qa J<|qs<|U J<|U J<|U J<|q8 b fun n w b=>K9 [(0,0)] [(0,0)] _ (q7 n.1) 1 [(0,.dat 1 [[qg n.2]])] 1 (qh8 j p3F p3C p3Ok h (w64 (g + (w64 ((w64 (Int.tdiv (w64 (k - g)) 4)) * 2)))) m.2 n w)<|qa J<|q9<|qz<|U J<|U J<|U J<|q8 b fun o x b=>K9 [(0,0)] [(0,0)] _ (q7 o.1) 1 [(0,.dat 1 [[qg o.2]])] 1 (qh8 j p3F p3C p3Ok h (w64 (g + (w64 ((w64 (Int.tdiv (w64 (k - g)) 4)) * 3)))) n.2 o x)<|qa J<|qy ?_;obtain rfl:=qt b;exact ⟨_,J,wkA [(0,0)] [] []⟩
    refine qm<|Qm ?_;obtain rfl:=qt b;exact ⟨_,J,wkA [(0,0)] [] []⟩
   intro c hb;subst hb;refine qz<|U J<|U J<|U J<|U J<|U J<|q8 f fun p y f=>K9 [(0,0)] [(0,0)] _ (q7 p.1) 1 [(0,.dat 1 [[qg p.2]])] 1 (qnr j p3F p3C p3Ok h c.1 c.2.1 c.2.2.1 c.2.2.2 p y)<|qa J<|qy ?_;obtain rfl:=qt f;exact ⟨_,J,wkA [(0,0)] [] []⟩
  refine qm<|Qm ?_;obtain rfl:=qt f;exact ⟨_,J,wkA [(0,0)] [] []⟩
 intro l hb;subst hb;refine qc<|O _ J<|q9<|Q7<|qc<|O _ J<|qa J<|q9 ?_;refine qo J a (fun _ a=>?_) (fun _ a=>?_)
 ·refine qc<|U J<|qa J<|qa J<|qv ?_;cases a;exact Q8 _ J
 refine qc<|O _ J<|qa J<|q9 ?_;refine qo J a (fun _ a=>?_) (fun _ a=>?_)
 ·refine qc<|U J<|qa J<|qa J<|qv ?_;cases a;exact Q8 _ J
 refine qc<|U J<|qa J<|qa J<|qv ?_;cases a;exact Q8 _ J
theorem q103 (g : ql→ql→Option Int) (q1F : FuncId) (q1C : List DV) (_q1Ok : ∀ (h : ql) (j : ql) (r : Int),g h j = some r→Pure Tryz.prog tab q1F ([.agg (Q9 h),.agg (Q9 j)] ++ q1C) (qg r)) (f : List ql) (k : Int) (l : Int) (r : List ql) (c : qaw g f k l = some r) : K8 Tryz.prog tab 170 [.hs 0 3 0 f.length,q7 k,q7 l,.d (.fn q1F q1C)] [(0,.dat 3 (f.map Q9))] 1 (.d (.tup [])) [(0,.dat 3 (r.map Q9))] 1:=by
 unfold qaw at c;refine Kr Tryz.func170 J qh qh J<|qc<|U J<|qa J<|qs<|U J<|O _ J<|qa J<|q9<|q8 c fun q s c=>Q7<|Qk (qax) (fun b=>⟨[(0,.hs 0 3 0 b.2.2.length),(8,q7 b.1),(9,q7 b.2.1)],[(0,.dat 3 (b.2.2.map Q9))],1⟩) _ q s (wkA [] [] []) ?_;intro b v a;unfold qax at a;refine qf<|qc<|U J<|U J<|O _ J<|q9 ?_;refine qo J a (fun _ a=>?_) (fun _ a=>?_)
 ·refine qm<|Q7<|qf<|Ql [Qv 0,q6,Qv 0,q6,qu 0,q6,q6,q6,qu 0,q6,q6,q6,q6,q6,q6,q6] qh<|U J<|U J<|U J<|U J<|U J<|U J<|q8 a fun t m a=>qx m J J<|Qd _ m J<|U J<|U J<|q8 a fun u n a=>qx n J J<|Qd _ n J<|q8 a fun w o a=>qx o J J<|K3 t o J J J J J J J J (leb J) J<|q8 a fun x p a=>qx p qd J<|K3 u p J J J J J J J J (leb J) J<|qs<|U J<|O _ J<|qa J<|q9<|qz<|U J<|O _ J<|qa J<|qy<|Qo<|Qm<|⟨_,qp a,wkE [] [] [] J ⟨⟨_,J,K6 qd J Q1 (ltd J)⟩,qn J,qn J,trivial⟩ ⟨Qq J J,trivial⟩⟩
 refine Qe ?_;refine ⟨_,qp a,fun hm=>?_⟩;subst hm;obtain rfl:=qt c;exact ⟨.inl J,_,J,wkA [] [] []⟩
theorem qzt (o : ql→ql→Option Int) (q1F : FuncId) (q1C : List DV) (q1Ok : ∀ (x : ql) (y : ql) (r : Int),o x y = some r→Pure Tryz.prog tab q1F ([.agg (Q9 x),.agg (Q9 y)] ++ q1C) (qg r)) (w : List ql) (j : Int) (g : Int) (r : Bool × List ql) (p : q7i o w j g = some r) : K8 Tryz.prog tab 171 [.hs 0 3 0 w.length,q7 j,q7 g,.d (.fn q1F q1C)] [(0,.dat 3 (w.map Q9))] 1 (Q0 r.1) [(0,.dat 3 (r.2.map Q9))] 1:=by
 unfold q7i at p;refine Kr Tryz.func171 J qh qh J<|qc<|qa J<|qs<|U J<|O _ J<|qa J<|q9<|qf<|qc<|qa J<|q9<|q8 p fun z bk p=>?_;refine Qn (fun t=>.inl t = z) (fun t=>⟨[],[(0,.dat 3 (t.map Q9))],1⟩) qd ?_ ?_
 ·refine Qk (q7j g o j) (fun f=>⟨[(0,.hs 0 3 0 f.2.2.length),(1,q7 j),(2,q7 g),(3,.d (.fn q1F q1C)),(9,q7 f.1),(10,q7 f.2.1)],[(0,.dat 3 (f.2.2.map Q9))],1⟩) _ z bk (wkA [] [] []) ?_;intro f cn k;unfold q7j at k;refine qf<|qc<|U J<|O _ J<|q9 ?_;refine qo J k (fun _ k=>?_) (fun _ k=>?_)
  ·refine qm<|qf<|q8 k fun bl a k=>?_;refine Qn (fun q=>.inl q = bl) (fun q=>⟨[(0,.hs 0 3 0 q.2.length),(1,q7 j),(2,q7 g),(3,.d (.fn q1F q1C)),(9,q7 q.1),(10,q7 f.2.1)],[(0,.dat 3 (q.2.map Q9))],1⟩) qd ?_ ?_
   ·refine qf<|q8 a fun aa bm a=>?_;refine Qn (fun l=>l = aa) (fun l=>⟨[(0,.hs 0 3 0 f.2.2.length),(1,q7 j),(2,q7 g),(3,.d (.fn q1F q1C)),(9,q7 l),(10,q7 f.2.1)],[(0,.dat 3 (f.2.2.map Q9))],1⟩) qd ?_ ?_
    ·refine Qk (qai g f o) (fun ab=>⟨[(0,.hs 0 3 0 f.2.2.length),(1,q7 j),(2,q7 g),(3,.d (.fn q1F q1C)),(9,q7 ab),(10,q7 f.2.1)],[(0,.dat 3 (f.2.2.map Q9))],1⟩) _ aa bm (wkA [] [] []) ?_;intro ab co m;unfold qai at m;refine qf<|qf<|Ql [q6,q6,q6,q6,qu 0,q6,q6,q6,q6,qu 0,q6,q6,q6,q6,q6,q6,q6,q6] qh<|U J<|U J<|O _ J<|q8 m fun bn h m=>?_;refine Qc 15 (fun A st=>∃ ac ad ae af ag ah ai aj ak al am an ao ap,st = A [(36,Q0 bn),(35,ap),(34,ao),(33,an),(32,am),(31,al),(30,ak),(29,aj),(28,ai),(27,ah),(26,ag),(25,af),(24,ae),(23,ad),(22,ac)]) ?_ ?_
     ·refine Qa J J h (fun h=>?_) (fun h=>?_)
      ·refine U J<|U J<|U J<|q8 h fun bo aq h=>qx aq J J<|Qd _ aq J<|U J<|U J<|O _ J<|q8 h fun bp ar h=>qx ar J J<|Qd _ ar J<|q8 h fun bq br h=>Ys _ (q1Ok bo bp bq br) J J J (.inl J)<|O _ J<|O _ J<|O _ J<|q9 ?_;cases h;exact ⟨_,_,_,_,_,_,_,_,_,_,_,_,_,_,J⟩
      refine qb J<|qb J<|qb J<|qb J<|qb J<|qb J<|qb J<|qb J<|qb J<|qb J<|qb J<|qb J<|qb J<|O _ J<|q9 ?_;cases h;exact ⟨_,_,_,_,_,_,_,_,_,_,_,_,_,_,J⟩
     rintro _ ⟨ac,ad,ae,af,ag,ah,ai,aj,ak,al,am,an,ao,ap,rfl⟩;refine q9 ?_;refine qo J m (fun _ m=>?_) (fun _ m=>?_)
     ·refine qm<|Q7<|qz<|U J<|O _ J<|qa J<|qy<|Qo<|Qm<|⟨_,qp m,wkA [] [] []⟩
     refine Qe ?_;refine ⟨_,qp m,fun hm=>?_⟩;subst hm;exact ⟨_,J,wkA [] [] []⟩
    intro l hb;subst hb;refine qf<|qc<|U J<|U J<|O _ J<|q9 ?_;refine qo J a (fun _ a=>?_) (fun _ a=>?_)
    ·refine qc<|qa J<|qv ?_;obtain rfl:=qt a;refine ⟨_,qp k,fun hm=>?_⟩;subst hm;obtain rfl:=qt p;exact ⟨.inr J,_,J,wkA [] [] []⟩
    refine qm<|qf<|qc<|U J<|U J<|O _ J<|O _ J<|q9 ?_;refine qo J a (fun _ a=>?_) (fun _ a=>?_)
    ·refine qc<|qa J<|qv ?_;obtain rfl:=qt a;refine ⟨_,qp k,fun hm=>?_⟩;subst hm;obtain rfl:=qt p;exact ⟨.inr J,_,J,wkA [] [] []⟩
    refine qm<|qf<|Ql [Qv 0,q6,Qv 0,q6,qu 0,q6,q6,q6,qu 0,q6,q6,q6,q6,q6,q6,q6,q6,q6] qh<|U J<|U J<|U J<|U J<|O _ J<|U J<|U J<|O _ J<|q8 a fun bs au a=>qx au J J<|Qd _ au J<|U J<|U J<|q8 a fun bt av a=>qx av J J<|Qd _ av J<|q8 a fun cp aw a=>qx aw J J<|K3 bs aw J J J J J J J J (leb J) J<|q8 a fun cq ax a=>qx ax qd J<|K3 bt ax J J J J J J J J (leb J) J<|q9<|qf<|qc<|U J<|U J<|O _ J<|O _ J<|q9<|q8 a fun bu n a=>?_;refine Z2 (fun s=>s = bu) (fun s=>⟨[(0,.hs 0 3 0 s.length),(1,q7 j),(2,q7 g),(3,.d (.fn q1F q1C)),(9,q7 l),(10,q7 f.2.1)],[(0,.dat 3 (s.map Q9))],1⟩) qd ?_ ?_
    ·refine qo J n (fun _ n=>?_) (fun _ n=>?_)
     ·refine qc<|U J<|O _ J<|qa J<|q9<|q8 n fun bv bw n=>Q7<|Qk (qaj o) (fun u=>⟨[(0,.hs 0 3 0 u.2.length),(1,q7 j),(2,q7 g),(3,.d (.fn q1F q1C)),(9,q7 l),(10,q7 f.2.1),(11,q7 u.1)],[(0,.dat 3 (u.2.map Q9))],1⟩) _ bv bw (wkE [] [] [] J ⟨⟨_,J,K6 qd J Q1 (ltd J)⟩,qn J,qn J,qn J,qn J,qn J,qn J,trivial⟩ ⟨Qq J J,trivial⟩) ?_;intro u cr b;unfold qaj at b;refine qf<|qc<|U J<|O _ J<|q9 ?_;refine qo J b (fun _ b=>?_) (fun _ b=>?_)
      ·refine qm<|qf<|Q7<|qf<|qf<|Ql [q6,q6,q6,qu 0,q6,q6,q6,q6,qu 0,q6,q6,q6,q6] qh<|U J<|U J<|U J<|q8 b fun bz ay b=>qx ay J J<|Qd _ ay J<|U J<|U J<|O _ J<|q8 b fun ca az b=>qx az J J<|Qd _ az J<|q8 b fun cb cc b=>Ys _ (q1Ok bz ca cb cc) J J J (.inl J)<|O _ J<|O _ J<|q9 ?_;refine qo J b (fun _ b=>?_) (fun _ b=>?_)
       ·refine Qe ?_;refine ⟨_,qp b,fun hm=>?_⟩;subst hm;obtain rfl:=qt n;exact ⟨_,J,wkA [] [] []⟩
       refine qm<|Ql [Qv 0,q6,Qv 0,q6,qu 0,q6,q6,q6,qu 0,q6,q6,q6,q6,q6,q6,q6,q6,q6] qh<|U J<|U J<|U J<|U J<|O _ J<|U J<|U J<|O _ J<|q8 b fun cd ba b=>qx ba J J<|Qd _ ba J<|U J<|U J<|q8 b fun ce bb b=>qx bb J J<|Qd _ bb J<|q8 b fun cs bc b=>qx bc J J<|K3 cd bc J J J J J J J J (leb J) J<|q8 b fun ct bd b=>qx bd qd J<|K3 ce bd J J J J J J J J (leb J) J<|qy<|Qo<|qz<|U J<|O _ J<|qa J<|qy<|⟨_,qp b,wkE [] [] [] J ⟨⟨_,J,K6 qd J Q1 (ltd J)⟩,qn J,qn J,qn J,qn J,qn J,qn J,trivial⟩ ⟨Qq J J,trivial⟩⟩
      refine Qe ?_;refine ⟨_,qp b,fun hm=>?_⟩;subst hm;obtain rfl:=qt n;exact ⟨_,J,wkA [] [] []⟩
     refine qm<|Qm ?_;obtain rfl:=qt n;exact ⟨_,J,wkE [] [] [] J ⟨⟨_,J,K6 qd J Q1 (ltd J)⟩,qn J,qn J,qn J,qn J,qn J,trivial⟩ ⟨Qq J J,trivial⟩⟩
    intro s hb;subst hb;refine qc<|U J<|U J<|O _ J<|O _ J<|q9 ?_;refine qo J a (fun _ a=>?_) (fun _ a=>?_)
    ·refine qc<|U J<|O _ J<|qa J<|q9<|q8 a fun cf cg a=>Q7<|Qk (qak g o l) (fun v=>⟨[(0,.hs 0 3 0 v.2.length),(1,q7 j),(2,q7 g),(3,.d (.fn q1F q1C)),(9,q7 l),(10,q7 f.2.1),(12,q7 v.1)],[(0,.dat 3 (v.2.map Q9))],1⟩) _ cf cg (wkA [] [] []) ?_;intro v cu c;unfold qak at c;refine qf<|qc<|U J<|U J<|O _ J<|q9 ?_;refine qo J c (fun _ c=>?_) (fun _ c=>?_)
     ·refine qm<|qf<|Q7<|qf<|qf<|Ql [q6,q6,q6,qu 0,q6,q6,q6,q6,qu 0,q6,q6,q6,q6] qh<|U J<|U J<|U J<|q8 c fun ch be c=>qx be J J<|Qd _ be J<|U J<|U J<|O _ J<|q8 c fun ci bf c=>qx bf J J<|Qd _ bf J<|q8 c fun cj ck c=>Ys _ (q1Ok ch ci cj ck) J J J (.inl J)<|O _ J<|O _ J<|q9 ?_;refine qo J c (fun _ c=>?_) (fun _ c=>?_)
      ·refine Qe ?_;refine ⟨_,qp c,fun hm=>?_⟩;subst hm;obtain rfl:=qt a;exact ⟨_,J,wkA [] [] []⟩
      refine qm<|Ql [Qv 0,q6,Qv 0,q6,qu 0,q6,q6,q6,qu 0,q6,q6,q6,q6,q6,q6,q6,q6,q6] qh<|U J<|U J<|U J<|U J<|O _ J<|U J<|U J<|O _ J<|q8 c fun cl bg c=>qx bg J J<|Qd _ bg J<|U J<|U J<|q8 c fun cm bh c=>qx bh J J<|Qd _ bh J<|q8 c fun cv bi c=>qx bi J J<|K3 cl bi J J J J J J J J (leb J) J<|q8 c fun cw bj c=>qx bj qd J<|K3 cm bj J J J J J J J J (leb J) J<|qy<|Qo<|qz<|U J<|O _ J<|qa J<|qy<|⟨_,qp c,wkE [] [] [] J ⟨⟨_,J,K6 qd J Q1 (ltd J)⟩,qn J,qn J,qn J,qn J,qn J,qn J,trivial⟩ ⟨Qq J J,trivial⟩⟩
     refine Qe ?_;refine ⟨_,qp c,fun hm=>?_⟩;subst hm;obtain rfl:=qt a;exact ⟨_,J,wkA [] [] []⟩
    refine qm<|Qm ?_;obtain rfl:=qt a;exact ⟨_,J,wkA [] [] []⟩
   intro q hb;subst hb;refine qz<|U J<|O _ J<|qa J<|qy<|⟨_,qp k,wkA [] [] []⟩
  refine Qe ?_;refine ⟨_,qp k,fun hm=>?_⟩;subst hm;exact ⟨_,J,wkA [] [] []⟩
 intro t hb;subst hb;refine qc<|qa J<|qv ?_;obtain rfl:=qt p;exact ⟨.inr J,_,J,wkA [] [] []⟩
theorem qzw (m : ql→ql→Option Int) (q1F : FuncId) (q1C : List DV) (q1Ok : ∀ (q : ql) (s : ql) (r : Int),m q s = some r→Pure Tryz.prog tab q1F ([.agg (Q9 q),.agg (Q9 s)] ++ q1C) (qg r)) (p : List ql) (h : Int) (t : Int) (u : Int) (r : Int × List ql) (c : qas m p h t u = some r) : K8 Tryz.prog tab 172 [.hs 0 3 0 p.length,q7 h,q7 t,q7 u,.d (.fn q1F q1C)] [(0,.dat 3 (p.map Q9))] 1 (q7 r.1) [(0,.dat 3 (r.2.map Q9))] 1:=by
 unfold qas at c;refine Kr Tryz.func172 J qh qh J<|qc<|qa J<|q9<|qf<|Ql [Qv 0,q6,Qv 0,q6,qu 0,q6,q6,q6,qu 0,q6,q6,q6,q6,q6,q6,q6] qh<|U J<|U J<|U J<|U J<|U J<|U J<|q8 c fun bn v c=>qx v J J<|Qd _ v J<|U J<|U J<|q8 c fun bo w c=>qx w J J<|Qd _ w J<|q8 c fun cg x c=>qx x J J<|K3 bn x J J J J J J J J (leb J) J<|q8 c fun ch y c=>qx y qd J<|K3 bo y J J J J J J J J (leb J) J<|qs<|U J<|O _ J<|U J<|O _ J<|qa J<|qa J<|q9<|qf<|q8 c fun z bp c=>?_;refine Qn (fun n=>n = z) (fun n=>⟨[(11,q7 n.1)],[(0,.dat 3 (n.2.map Q9))],1⟩) qd ?_ ?_
 ·refine Qk (qat h m) (fun b=>⟨[(0,.hs 0 3 0 b.2.2.length),(1,q7 h),(4,.d (.fn q1F q1C)),(11,q7 b.1),(12,q7 b.2.1)],[(0,.dat 3 (b.2.2.map Q9))],1⟩) _ z bp (wkE [] [] [] J ⟨⟨_,J,K6 qd J Q1 (ltd J)⟩,qn J,qn J,qn J,qn J,trivial⟩ ⟨Qq J J,trivial⟩) ?_;intro b ci a;unfold qat at a;refine Q7<|qf<|q8 a fun aa bq a=>?_;refine Qn (fun l=>l = aa) (fun l=>⟨[(0,.hs 0 3 0 b.2.2.length),(1,q7 h),(4,.d (.fn q1F q1C)),(11,q7 l),(12,q7 b.2.1)],[(0,.dat 3 (b.2.2.map Q9))],1⟩) qd ?_ ?_
  ·refine Qk (qau b h m) (fun ab=>⟨[(0,.hs 0 3 0 b.2.2.length),(1,q7 h),(4,.d (.fn q1F q1C)),(11,q7 ab),(12,q7 b.2.1)],[(0,.dat 3 (b.2.2.map Q9))],1⟩) _ aa bq (wkA [] [] []) ?_;intro ab cj j;unfold qau at j;refine qf<|qf<|Ql [q6,q6,q6,q6,qu 0,q6,q6,q6,qu 0,q6,q6,q6,q6,q6,q6,q6,q6] qh<|U J<|U J<|O _ J<|q8 j fun br f j=>?_;refine Qc 14 (fun A st=>∃ ac ad ae af ag ah ai aj ak al am an ao,st = A [(47,Q0 br),(46,ao),(45,an),(44,am),(43,al),(42,ak),(41,aj),(40,ai),(39,ah),(38,ag),(37,af),(36,ae),(35,ad),(34,ac)]) ?_ ?_
   ·refine Qa J J f (fun f=>?_) (fun f=>?_)
    ·refine U J<|U J<|U J<|q8 f fun bs ap f=>qx ap J J<|Qd _ ap J<|U J<|U J<|q8 f fun bt aq f=>qx aq J J<|Qd _ aq J<|q8 f fun bu bv f=>Ys _ (q1Ok bs bt bu bv) J J J (.inl J)<|O _ J<|O _ J<|O _ J<|q9 ?_;cases f;exact ⟨_,_,_,_,_,_,_,_,_,_,_,_,_,J⟩
    refine qb J<|qb J<|qb J<|qb J<|qb J<|qb J<|qb J<|qb J<|qb J<|qb J<|qb J<|qb J<|O _ J<|q9 ?_;cases f;exact ⟨_,_,_,_,_,_,_,_,_,_,_,_,_,J⟩
   rintro _ ⟨ac,ad,ae,af,ag,ah,ai,aj,ak,al,am,an,ao,rfl⟩;refine q9 ?_;refine qo J j (fun _ j=>?_) (fun _ j=>?_)
   ·refine qm<|Q7<|qz<|U J<|O _ J<|qa J<|qy<|Qo<|Qm<|⟨_,qp j,wkA [] [] []⟩
   refine Qe ?_;refine ⟨_,qp j,fun hm=>?_⟩;subst hm;exact ⟨_,J,wkA [] [] []⟩
  intro l hb;subst hb;refine qf<|q8 a fun ar bw a=>?_;refine Qn (fun o=>o = ar) (fun o=>⟨[(0,.hs 0 3 0 b.2.2.length),(1,q7 h),(4,.d (.fn q1F q1C)),(11,q7 l),(12,q7 o)],[(0,.dat 3 (b.2.2.map Q9))],1⟩) qd ?_ ?_
  ·refine Qk (qav l b h m) (fun au=>⟨[(0,.hs 0 3 0 b.2.2.length),(1,q7 h),(4,.d (.fn q1F q1C)),(11,q7 l),(12,q7 au)],[(0,.dat 3 (b.2.2.map Q9))],1⟩) _ ar bw (wkA [] [] []) ?_;intro au ck k;unfold qav at k;refine qf<|qf<|Ql [q6,q6,q6,qu 0,q6,q6,q6,qu 0,q6,q6,q6,q6,q6,q6,q6,q6] qh<|U J<|U J<|O _ J<|q8 k fun bz g k=>?_;refine Qc 13 (fun A st=>∃ av aw ax ay az ba bb bc bd be bf bg,st = A [(65,Q0 bz),(64,bg),(63,bf),(62,be),(61,bd),(60,bc),(59,bb),(58,ba),(57,az),(56,ay),(55,ax),(54,aw),(53,av)]) ?_ ?_
   ·refine Qa J J g (fun g=>?_) (fun g=>?_)
    ·refine U J<|U J<|U J<|q8 g fun ca bh g=>qx bh J J<|Qd _ bh J<|U J<|U J<|q8 g fun cb bi g=>qx bi J J<|Qd _ bi J<|q8 g fun cc cd g=>Ys _ (q1Ok ca cb cc cd) J J J (.inl J)<|O _ J<|O _ J<|q9 ?_;cases g;exact ⟨_,_,_,_,_,_,_,_,_,_,_,_,J⟩
    refine qb J<|qb J<|qb J<|qb J<|qb J<|qb J<|qb J<|qb J<|qb J<|qb J<|qb J<|O _ J<|q9 ?_;cases g;exact ⟨_,_,_,_,_,_,_,_,_,_,_,_,J⟩
   rintro _ ⟨av,aw,ax,ay,az,ba,bb,bc,bd,be,bf,bg,rfl⟩;refine q9 ?_;refine qo J k (fun _ k=>?_) (fun _ k=>?_)
   ·refine qm<|Q7<|qz<|U J<|O _ J<|qa J<|qy<|Qo<|Qm<|⟨_,qp k,wkA [] [] []⟩
   refine Qe ?_;refine ⟨_,qp k,fun hm=>?_⟩;subst hm;exact ⟨_,J,wkA [] [] []⟩
  intro o hb;subst hb;refine qf<|qc<|U J<|U J<|O _ J<|q9 ?_;refine qo J a (fun _ a=>?_) (fun _ a=>?_)
  ·refine Qe ?_;refine ⟨_,qp a,fun hm=>?_⟩;subst hm;exact ⟨_,J,wkA [] [] []⟩
  refine qm<|qf<|Ql [Qv 0,q6,Qv 0,q6,qu 0,q6,q6,q6,qu 0,q6,q6,q6,q6,q6,q6,q6] qh<|U J<|U J<|U J<|U J<|U J<|U J<|q8 a fun ce bj a=>qx bj J J<|Qd _ bj J<|U J<|U J<|q8 a fun cf bk a=>qx bk J J<|Qd _ bk J<|q8 a fun cl bl a=>qx bl J J<|K3 ce bl J J J J J J J J (leb J) J<|q8 a fun cm bm a=>qx bm qd J<|K3 cf bm J J J J J J J J (leb J) J<|qs<|U J<|O _ J<|qa J<|q9<|qz<|U J<|O _ J<|qa J<|qy<|Qo<|Qm<|⟨_,qp a,wkE [] [] [] J ⟨⟨_,J,K6 qd J Q1 (ltd J)⟩,qn J,qn J,qn J,qn J,trivial⟩ ⟨Qq J J,trivial⟩⟩
 intro n hb;subst hb;refine qc<|U J<|qa J<|qv ?_;obtain rfl:=qt c;exact ⟨.inr J,_,J,wkA [] [] []⟩
end Go.Proofs.YtiejlbckgihckaaGreat
