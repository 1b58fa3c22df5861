/- W_Alla -/
import Derived.Test.YtiejlbckgihckaaGreatK14
namespace Go.Proofs.YtiejlbckgihckaaGreat
open Go Go.Am Go.Sh
set_option maxHeartbeats 8000000
set_option maxRecDepth 100000
theorem Zt (a : Int) (b : Int) (c : Int) (d : Int) (f : Int) (g : Int) (r : qg) (h : Yl a b c d f g = some r) : Pure Tryz.prog tab 14 [qe a,qe b,qe c,qe d,qe f,qe g] (.agg (Q8 r)):=by
 unfold Yl at h;refine Qq Tryz.func14 J qh qh J<|qb<|Qv J J<|qq<|U J<|U J<|U J<|O _ J<|U J<|U J<|U J<|O _ J<|O _ J<|Qb 0 _ J<|qx ?_;cases h;exact Qc _ J
theorem q1n (r : List qg) (a : Jf = some r) : Pure Tryz.prog tab 17 [] (.sl 6 (r.map Q8)):=by
 unfold Jf at a;refine Qq Tryz.func17 J qh qh J<|qb<|qa J<|qq<|q8 a fun b c a=>Q5 (Zt 0 0 0 2 2 1 b c) J<|q8 a fun d f a=>Q5 (Zt 0 0 1 1 2 2 d f) J<|Qs _ _ J<|qa J<|qx ?_;obtain rfl:=qu a;exact finD (.inr J) J (J6 J J) (.refl _)
theorem qw5 (b : List qg) (f : qg→Option Bool) (p1F : FuncId) (p1C : List DV) (p1Ok : ∀ (h : qg) (r : Bool),f h = some r→Pure Tryz.prog tab p1F ([.agg (Q8 h)] ++ p1C) (.bool r)) (r : Int) (c : q8j b f = some r) : Pure Tryz.prog tab 63 [.sl 6 (b.map Q8),.fn p1F p1C] (qe r):=by
 unfold q8j at c;refine Qq Tryz.func63 J qh qh J<|qb<|qa J<|q9<|qf<|qb<|U J<|K5 J<|U J<|q9<|q8 c fun j l c=>?_;refine Qr (fun g=>.inl g = j) (fun g=>⟨[],[],0⟩) qc ?_ ?_
 ·refine Ql (q11 b f) (fun k=>⟨[(0,.d (.sl 6 (b.map Q8))),(1,.d (.fn p1F p1C)),(7,q7 (b.length : Int)),(8,q7 k)],[],0⟩) _ j l (wkA [] [] []) ?_;intro k q a;unfold q11 at a;refine qb<|O _ J<|q9<|qf ?_;refine qr J a (fun _ a=>?_) (fun _ a=>?_)
  ·refine qp<|qf<|Q6<|qb<|U J<|qa J<|qq<|U J<|U J<|U J<|q8 a fun m n a=>K3 n J<|O _ J<|q8 a fun o p a=>Yn _ (p1Ok m o p) J J J (.inl J)<|q9 ?_;refine qr J a (fun _ a=>?_) (fun _ a=>?_)
   ·refine qb<|U J<|qa J<|qx ?_;refine ⟨_,qt a,fun hm=>?_⟩;subst hm;cases c;exact Qc _ J
   refine qp<|Qi<|Qp<|qy<|O _ J<|U J<|qz<|⟨_,qt a,wkA [] [] []⟩
  refine Qf ?_;refine ⟨_,qt a,fun hm=>?_⟩;subst hm;exact ⟨_,J,wkA [] [] []⟩
 intro g hb;subst hb;refine qb<|qa J<|qx ?_;cases c;exact Qc _ J
theorem ql6 (b : List qg) (c : qg→Option Bool) (p1F : FuncId) (p1C : List DV) (p1Ok : ∀ (d : qg) (r : Bool),c d = some r→Pure Tryz.prog tab p1F ([.agg (Q8 d)] ++ p1C) (.bool r)) (r : Bool) (a : q3q b c = some r) : Pure Tryz.prog tab 37 [.sl 6 (b.map Q8),.fn p1F p1C] (.bool r):=by
 unfold q3q at a;refine Qq Tryz.func37 J qh qh J<|qb<|qa J<|qq<|U J<|U J<|q8 a fun f g a=>Q5 (qw5 b c p1F p1C p1Ok f g) J<|O _ J<|qa J<|qx ?_;cases a;exact Qc _ J
theorem qlq (a : Q2) (r : Bool) (c : q6w a = some r) : Pure Tryz.prog tab 57 [.agg (Zr a)] (.bool r):=by
 unfold q6w at c;refine Qq Tryz.func57 J qh qh J<|qb<|Qs _ _ J<|qa J<|qq<|O _ J<|O _ J<|O _ J<|O _ J<|O _ J<|O _ J<|Ug (r:=min (min a.X a.Y) a.Z) J J (by simp only [Ud];rfl)<|O _ J<|q8 c fun o b c=>?_;refine Qh 10 (fun A st=>∃ d f g h j k l m n,st = A [(20,Q0 o),(19,n),(18,m),(17,l),(16,k),(15,j),(14,h),(13,g),(12,f),(11,d)]) ?_ ?_
 ·refine Qg J J b (fun b=>?_) (fun b=>?_)
  ·refine O _ J<|O _ J<|O _ J<|O _ J<|O _ J<|O _ J<|Uf (r:=max (max a.X a.Y) a.Z) J J (by simp only [Uc];rfl)<|O _ J<|O _ J<|q9 ?_;cases b;exact ⟨_,_,_,_,_,_,_,_,_,J⟩
  refine qd J<|qd J<|qd J<|qd J<|qd J<|qd J<|qd J<|qd J<|O _ J<|q9 ?_;cases b;exact ⟨_,_,_,_,_,_,_,_,_,J⟩
 rintro _ ⟨d,f,g,h,j,k,l,m,n,rfl⟩;refine qa J<|qx ?_;cases c;exact Qc _ J
theorem qlu (g : qg) (r : Bool) (a : q6z g = some r) : Pure Tryz.prog tab 33 [.agg (Q8 g)] (.bool r):=by
 unfold q6z at a;refine Qq Tryz.func33 J qh qh J<|qb<|Qs _ _ J<|qa J<|qq<|O _ J<|O _ J<|O _ J<|O _ J<|O _ J<|O _ J<|O _ J<|q8 a fun c1 d a=>?_;refine Qh 9 (fun A st=>∃ h j k l m n o p,st = A [(18,Q0 c1),(17,p),(16,o),(15,n),(14,m),(13,l),(12,k),(11,j),(10,h)]) ?_ ?_
 ·refine Qg J J d (fun d=>?_) (fun d=>?_)
  ·refine O _ J<|O _ J<|O _ J<|O _ J<|O _ J<|O _ J<|O _ J<|O _ J<|q9 ?_;cases d;exact ⟨_,_,_,_,_,_,_,_,J⟩
  refine qd J<|qd J<|qd J<|qd J<|qd J<|qd J<|qd J<|O _ J<|q9 ?_;cases d;exact ⟨_,_,_,_,_,_,_,_,J⟩
 rintro _ ⟨h,j,k,l,m,n,o,p,rfl⟩;refine q8 a fun ai f a=>?_;refine Qh 9 (fun A st=>∃ q s t u v w x y,st = A [(27,Q0 ai),(26,y),(25,x),(24,w),(23,v),(22,u),(21,t),(20,s),(19,q)]) ?_ ?_
 ·refine Qg J J f (fun f=>?_) (fun f=>?_)
  ·refine O _ J<|O _ J<|O _ J<|O _ J<|O _ J<|O _ J<|O _ J<|O _ J<|q9 ?_;cases f;exact ⟨_,_,_,_,_,_,_,_,J⟩
  refine qd J<|qd J<|qd J<|qd J<|qd J<|qd J<|qd J<|O _ J<|q9 ?_;cases f;exact ⟨_,_,_,_,_,_,_,_,J⟩
 rintro _ ⟨q,s,t,u,v,w,x,y,rfl⟩;refine q8 a fun aj b a=>?_;refine Qh 5 (fun A st=>∃ z aa ab ac,st = A [(32,Q0 aj),(31,ac),(30,ab),(29,aa),(28,z)]) ?_ ?_
 ·refine Qg J J b (fun b=>?_) (fun b=>?_)
  ·refine O _ J<|O _ J<|q8 b fun ak al b=>Q5 (qlq g.Lo ak al) J<|O _ J<|q9 ?_;cases b;exact ⟨_,_,_,_,J⟩
  refine qd J<|qd J<|qd J<|O _ J<|q9 ?_;cases b;exact ⟨_,_,_,_,J⟩
 rintro _ ⟨z,aa,ab,ac,rfl⟩;refine q8 a fun am c a=>?_;refine Qh 5 (fun A st=>∃ ad ae af ag,st = A [(37,Q0 am),(36,ag),(35,af),(34,ae),(33,ad)]) ?_ ?_
 ·refine Qg J J c (fun c=>?_) (fun c=>?_)
  ·refine O _ J<|O _ J<|q8 c fun an ao c=>Q5 (qlq g.Hi an ao) J<|O _ J<|q9 ?_;cases c;exact ⟨_,_,_,_,J⟩
  refine qd J<|qd J<|qd J<|O _ J<|q9 ?_;cases c;exact ⟨_,_,_,_,J⟩
 rintro _ ⟨ad,ae,af,ag,rfl⟩;refine qa J<|qx ?_;cases a;exact Qc _ J
theorem qyu (b : qg) (r : Bool) (a : q33 b = some r) : Pure Tryz.prog tab 38 [.agg (Q8 b)] (.bool r):=by
 unfold q33 at a;refine Qq Tryz.func38 J qh qh J<|qb<|Qs _ _ J<|qa J<|qq<|O _ J<|q8 a fun c d a=>Q5 (qlu b c d) J<|O _ J<|qa J<|qx ?_;cases a;exact Qc _ J
theorem qrd (k : Int) (r : Int) (a : q2u k = some r) : Pure Tryz.prog tab 146 [.int .u64 k] (qe r):=by
 unfold q2u at a;refine Qq Tryz.func146 J qh qh J<|qb<|qa J<|q9<|qf<|qb<|U J<|O _ J<|q9<|q8 a fun l b a=>?_;refine Yu (fun c=>c = l) (fun c=>⟨[(0,.d (.int .u64 c.1)),(2,q7 c.2)],[],0⟩) qc ?_ ?_
 ·refine qr J b (fun _ b=>?_) (fun _ b=>?_)
  ·refine qb<|U J<|O _ J<|qa J<|q9<|qy<|qa J<|qz ?_;obtain rfl:=qu b;exact ⟨_,J,wkA [] [] []⟩
  refine qp<|Qi ?_;obtain rfl:=qu b;exact ⟨_,J,wkA [] [] []⟩
 intro c hb;subst hb;refine qf<|qb<|U J<|O _ J<|q9<|q8 a fun m f a=>?_;refine Yu (fun g=>g = m) (fun g=>⟨[(0,.d (.int .u64 g.1)),(2,q7 g.2)],[],0⟩) qc ?_ ?_
 ·refine qr J f (fun _ f=>?_) (fun _ f=>?_)
  ·refine qb<|U J<|O _ J<|qa J<|q9<|qy<|U J<|O _ J<|qa J<|qz ?_;obtain rfl:=qu f;exact ⟨_,J,wkA [] [] []⟩
  refine qp<|Qi ?_;obtain rfl:=qu f;exact ⟨_,J,wkA [] [] []⟩
 intro g hb;subst hb;refine qf<|qb<|U J<|O _ J<|q9<|q8 a fun n h a=>?_;refine Yu (fun j=>j = n) (fun j=>⟨[(0,.d (.int .u64 j.1)),(2,q7 j.2)],[],0⟩) qc ?_ ?_
 ·refine qr J h (fun _ h=>?_) (fun _ h=>?_)
  ·refine qb<|U J<|O _ J<|qa J<|q9<|qy<|U J<|O _ J<|qa J<|qz ?_;obtain rfl:=qu h;exact ⟨_,J,wkA [] [] []⟩
  refine qp<|Qi ?_;obtain rfl:=qu h;exact ⟨_,J,wkA [] [] []⟩
 intro j hb;subst hb;refine qb<|U J<|U J<|O _ J<|q8 a fun p o a=>qs1 qbr o J J J J J<|O _ J<|O _ J<|qa J<|qx ?_;cases a;exact Qc _ J
theorem qe0 (b : Int) (r : Int) (a : Uy b = some r) : Pure Tryz.prog tab 112 [.int .u64 b] (qe r):=by
 unfold Uy at a;refine Qq Tryz.func112 J qh qh J<|qb<|qa J<|q9<|qf<|Zi J<|qp<|qb<|U J<|q8 a fun c d a=>Q5 (qrd b c d) J<|qa J<|qx ?_;cases a;exact Qc _ J
theorem qgo (a : Int) (r : Bool) (b : q7f a = some r) : Pure Tryz.prog tab 123 [qe a] (.bool r):=by
 unfold q7f at b;refine Qq Tryz.func123 J qh qh J<|qb<|qa J<|qq<|U J<|U J<|O _ J<|qa J<|qx ?_;cases b;exact Qc _ J
theorem Zy (d : Int) (f : Int) (r : Bool) (a : Z7 d f = some r) : Pure Tryz.prog tab 100 [qe d,qe f] (.bool r):=by
 unfold Z7 at a;refine Qq Tryz.func100 J qh qh J<|qb<|qa J<|qq<|U J<|q8 a fun p q a=>Q5 (qgo d p q) J<|q8 a fun s b a=>?_;refine Qh 5 (fun A st=>∃ g h j k,st = A [(11,Q0 s),(10,k),(9,j),(8,h),(7,g)]) ?_ ?_
 ·refine Qg J J b (fun b=>?_) (fun b=>?_)
  ·refine U J<|q8 b fun t u b=>Q5 (qgo f t u) J<|O _ J<|O _ J<|q9 ?_;cases b;exact ⟨_,_,_,_,J⟩
  refine qd J<|qd J<|qd J<|O _ J<|q9 ?_;cases b;exact ⟨_,_,_,_,J⟩
 rintro _ ⟨g,h,j,k,rfl⟩;refine q8 a fun v c a=>?_;refine Qh 5 (fun A st=>∃ l m n o,st = A [(16,Q0 v),(15,o),(14,n),(13,m),(12,l)]) ?_ ?_
 ·refine Qg J J c (fun c=>?_) (fun c=>?_)
  ·refine qd J<|qd J<|qd J<|O _ J<|q9 ?_;cases c;exact ⟨_,_,_,_,J⟩
  refine U J<|U J<|O _ J<|O _ J<|q9 ?_;cases c;exact ⟨_,_,_,_,J⟩
 rintro _ ⟨l,m,n,o,rfl⟩;refine qa J<|qx ?_;cases a;exact Qc _ J
theorem qwg (m : List Int) (f : Int) (g : Int) (r : List Int) (k : q60  m f g = some r) : K8 Tryz.prog tab 137 [.hs 0 1 0 m.length,q7 f,q7 g] [(0,.dat 1 (m.map (eI .i64)))] 1 (.d (.tup [])) [(0,.dat 1 (r.map (eI .i64)))] 1:=by
 unfold q60 at k;refine Kq Tryz.func137 J qh qh J<|qb<|U J<|O _ J<|qa J<|q9<|q8 k fun ai aj k=>Q6<|Ql (q61 g f) (fun h=>⟨[(0,.hs 0 1 0 h.2.length),(1,q7 f),(2,q7 g),(6,q7 h.1)],[(0,.dat 1 (h.2.map (eI .i64)))],1⟩) _ ai aj (wkA [] [] []) ?_;intro h au c;unfold q61 at c;refine qf<|qb<|U J<|U J<|O _ J<|q9 ?_;refine qr J c (fun _ c=>?_) (fun _ c=>?_)
 ·refine qp<|qf<|q8 c fun ak n c=>?_;refine Qr (fun j=>j = ak) (fun j=>⟨[(0,.hs 0 1 0 j.length),(1,q7 f),(2,q7 g),(6,q7 h.1)],[(0,.dat 1 (j.map (eI .i64)))],1⟩) qc ?_ ?_
  ·refine qb<|U J<|qa J<|q9<|q8 n fun al am n=>Q6<|Ql (q62 f) (fun l=>⟨[(0,.hs 0 1 0 l.2.length),(1,q7 f),(2,q7 g),(6,q7 h.1),(7,q7 l.1)],[(0,.dat 1 (l.2.map (eI .i64)))],1⟩) _ al am (wkA [] [] []) ?_;intro l av a;unfold q62 at a;refine qf<|qf<|Qk [q6,q6,qs 0,q6,q6,q6,q6,qs 0,q6,q6,q6,q6,q6,q6,q6] qh<|U J<|U J<|O _ J<|q8 a fun an b a=>?_;refine Qh 12 (fun A st=>∃ o p q s t u v w x y z,st = A [(30,Q0 an),(29,z),(28,y),(27,x),(26,w),(25,v),(24,u),(23,t),(22,s),(21,q),(20,p),(19,o)]) ?_ ?_
   ·refine Qg J J b (fun b=>?_) (fun b=>?_)
    ·refine U J<|U J<|q8 b fun ao aa b=>qv aa J J<|Qa _ aa J<|U J<|U J<|O _ J<|q8 b fun ap ab b=>qv ab J J<|Qa _ ab J<|q8 b fun aq ar b=>Q5 (Zy ao ap aq ar) J<|O _ J<|q9 ?_;cases b;exact ⟨_,_,_,_,_,_,_,_,_,_,_,J⟩
    refine qd J<|qd J<|qd J<|qd J<|qd J<|qd J<|qd J<|qd J<|qd J<|qd J<|O _ J<|q9 ?_;cases b;exact ⟨_,_,_,_,_,_,_,_,_,_,_,J⟩
   rintro _ ⟨o,p,q,s,t,u,v,w,x,y,z,rfl⟩;refine q9 ?_;refine qr J a (fun _ a=>?_) (fun _ a=>?_)
   ·refine qp<|qf<|Q6<|Qk [Qo 0,q6,Qo 0,q6,qs 0,q6,q6,q6,qs 0,q6,q6,q6,q6,q6,q6,q6,q6,q6] qh<|U J<|U J<|U J<|U J<|O _ J<|U J<|U J<|O _ J<|q8 a fun ac ad a=>qv ad J J<|Qa _ ad J<|U J<|U J<|q8 a fun ae af a=>qv af J J<|Qa _ af J<|q8 a fun aw ag a=>qv ag J J<|Qz (ds:=[qe ac]) ac ag J J J J J J J J (leb J) J<|q8 a fun ax ah a=>qv ah qc J<|Qz (ds:=[qe ae]) ae ah J J J J J J J J (leb J) J<|qz<|Qp<|qy<|U J<|O _ J<|qa J<|qz<|⟨_,qt a,wkE [] [] [] J ⟨⟨_,J,K4 qc J qw (ltd J)⟩,qo J,qo J,qo J,qo J,trivial⟩ ⟨Qj J J,trivial⟩⟩
   refine Qf ?_;refine ⟨_,qt a,fun hm=>?_⟩;subst hm;obtain rfl:=qu n;exact ⟨_,J,wkA [] [] []⟩
  intro j hb;subst hb;refine qy<|U J<|O _ J<|qa J<|qz<|⟨_,qt c,wkA [] [] []⟩
 refine Qf ?_;refine ⟨_,qt c,fun hm=>?_⟩;subst hm;obtain rfl:=qu k;exact ⟨.inl J,_,J,wkA [] [] []⟩
theorem qlc (l : List Int) (m : Int) (f : Int) (g : Int) (r : List Int) (h : q41  l m f g = some r) : K8 Tryz.prog tab 157 [.hs 0 1 0 l.length,q7 m,q7 f,q7 g] [(0,.dat 1 (l.map (eI .i64)))] 1 (.d (.tup [])) [(0,.dat 1 (r.map (eI .i64)))] 1:=by
 unfold q41 at h;refine Kq Tryz.func157 J qh qh J<|qb<|U J<|qa J<|q9<|q8 h fun an ao h=>Q6<|Ql (q6o f g) (fun c=>⟨[(0,.hs 0 1 0 c.2.length),(2,q7 f),(3,q7 g),(8,q7 c.1)],[(0,.dat 1 (c.2.map (eI .i64)))],1⟩) _ an ao (wkA [] [] []) ?_;intro c bb a;unfold q6o at a;refine Q6<|qb<|U J<|O _ J<|O _ J<|qa J<|q9<|qf<|qb<|U J<|U J<|O _ J<|q9 ?_;refine qr J a (fun _ a=>?_) (fun _ a=>?_)
 ·refine Qf ?_;refine ⟨_,qt a,fun hm=>?_⟩;subst hm;obtain rfl:=qu h;exact ⟨.inl J,_,J,wkA [] [] []⟩
 refine qp<|qf<|qf<|Qk [q6,q6,qs 0,q6,q6,q6,q6,q6,q6,qs 0,q6,q6,q6,q6,q6,q6,q6,q6,q6,q6] qh<|U J<|O _ J<|U J<|O _ J<|q8 a fun ap b a=>?_;refine Qh 16 (fun A st=>∃ n o p q s t u v w x y z aa ab ac,st = A [(36,Q0 ap),(35,ac),(34,ab),(33,aa),(32,z),(31,y),(30,x),(29,w),(28,v),(27,u),(26,t),(25,s),(24,q),(23,p),(22,o),(21,n)]) ?_ ?_
 ·refine Qg J J b (fun b=>?_) (fun b=>?_)
  ·refine U J<|U J<|U J<|O _ J<|q8 b fun aq ad b=>qv ad J J<|Qa _ ad J<|U J<|U J<|U J<|O _ J<|O _ J<|q8 b fun ar ae b=>qv ae J J<|Qa _ ae J<|q8 b fun au av b=>Q5 (Zy aq ar au av) J<|O _ J<|q9 ?_;cases b;exact ⟨_,_,_,_,_,_,_,_,_,_,_,_,_,_,_,J⟩
  refine qd J<|qd J<|qd J<|qd J<|qd J<|qd J<|qd J<|qd J<|qd J<|qd J<|qd J<|qd J<|qd J<|qd J<|O _ J<|q9 ?_;cases b;exact ⟨_,_,_,_,_,_,_,_,_,_,_,_,_,_,_,J⟩
 rintro _ ⟨n,o,p,q,s,t,u,v,w,x,y,z,aa,ab,ac,rfl⟩;refine q9<|q8 a fun aw j a=>?_;refine Yu (fun k=>k = aw) (fun k=>⟨[(0,.hs 0 1 0 c.2.length),(2,q7 f),(3,q7 g),(8,q7 c.1),(9,q7 k)],[(0,.dat 1 (c.2.map (eI .i64)))],1⟩) qc ?_ ?_
 ·refine qr J j (fun _ j=>?_) (fun _ j=>?_)
  ·refine qy<|U J<|O _ J<|qa J<|qz ?_;obtain rfl:=qu j;exact ⟨_,J,wkA [] [] []⟩
  refine qp<|Qi ?_;obtain rfl:=qu j;exact ⟨_,J,wkA [] [] []⟩
 intro k hb;subst hb;refine qf<|qf<|Qk [q6,q6,qs 0,q6,q6,q6,q6,q6,qs 0,q6,q6,q6,q6,q6] qh<|U J<|U J<|U J<|O _ J<|q8 a fun ax af a=>qv af J J<|Qa _ af J<|U J<|U J<|U J<|O _ J<|q8 a fun ay ag a=>qv ag J J<|Qa _ ag J<|q8 a fun az ba a=>Q5 (Zy ax ay az ba) J<|O _ J<|q9 ?_;refine qr J a (fun _ a=>?_) (fun _ a=>?_)
 ·refine q1s ?_;refine ⟨_,qt a,fun hm=>?_⟩;subst hm;obtain rfl:=qu h;exact ⟨.inr J,_,J,wkA [] [] []⟩
 refine qp<|qf<|Qk [Qo 0,q6,Qo 0,q6,qs 0,q6,q6,q6,q6,q6,qs 0,q6,q6,q6,q6,q6,q6,q6,q6,q6,q6,q6,q6,q6] qh<|U J<|U J<|U J<|O _ J<|U J<|U J<|U J<|O _ J<|U J<|U J<|U J<|O _ J<|q8 a fun ah ai a=>qv ai J J<|Qa _ ai J<|U J<|U J<|U J<|O _ J<|q8 a fun aj ak a=>qv ak J J<|Qa _ ak J<|q8 a fun bc al a=>qv al J J<|Qz (ds:=[qe ah]) ah al J J J J J J J J (leb J) J<|q8 a fun bd am a=>qv am qc J<|Qz (ds:=[qe aj]) aj am J J J J J J J J (leb J) J<|q9<|qy<|U J<|qa J<|qz<|Qp<|Qi<|⟨_,qt a,wkE [] [] [] J ⟨⟨_,J,K4 qc J qw (ltd J)⟩,qo J,qo J,qo J,trivial⟩ ⟨Qj J J,trivial⟩⟩
theorem qwe (l : List Int) (b : Int) (g : Int) (r : List Int) (h : q5x  l b g = some r) : K8 Tryz.prog tab 138 [.hs 0 1 0 l.length,q7 b,q7 g] [(0,.dat 1 (l.map (eI .i64)))] 1 (.d (.tup [])) [(0,.dat 1 (r.map (eI .i64)))] 1:=by
 unfold q5x at h;refine Kq Tryz.func138 J qh qh J<|qb<|U J<|qa J<|qq<|qa J<|qq<|U J<|U J<|O _ J<|qa J<|q9<|qf<|qb<|U J<|O _ J<|O _ J<|qa J<|q9<|q8 h fun p w h=>?_;refine Qr (fun k=>k = p) (fun k=>⟨[(0,.hs 0 1 0 k.length),(6,q7 b),(7,q7 0),(8,.d (qe (w64 (g - b))))],[(0,.dat 1 (k.map (eI .i64)))],1⟩) qc ?_ ?_
 ·refine Ql (q5y g b) (fun j=>⟨[(0,.hs 0 1 0 j.2.length),(6,q7 b),(7,q7 0),(8,.d (qe (w64 (g - b)))),(9,q7 j.1)],[(0,.dat 1 (j.2.map (eI .i64)))],1⟩) _ p w (wkA [] [] []) ?_;intro j af c;unfold q5y at c;refine qf<|qb<|U J<|O _ J<|q9 ?_;refine qr J c (fun _ c=>?_) (fun _ c=>?_)
  ·refine qp<|qf<|Q6<|qy<|U J<|U J<|U J<|U J<|q8 c fun q x c=>q8 c fun ag y c=>?_;have z:=Ki y;refine Ka [(0,0)] [(0,0)] _ (.d (.tup [])) 1 [(0,.dat 1 (q.map (eI .i64)))] 1 (qlc j.2 j.1 (w64 (g - b)) b q x)<|qz<|Qp<|qy<|U J<|O _ J<|qa J<|qz<|⟨_,qt c,wkE [] [] [] J ⟨⟨_,J,K4 (by simp [z]) J qw (ltd J)⟩,qo J,qo J,qo J,qo J,trivial⟩ ⟨Qj J J,trivial⟩⟩
  refine Qf ?_;refine ⟨_,qt c,fun hm=>?_⟩;subst hm;exact ⟨_,J,wkA [] [] []⟩
 intro k hb;subst hb;refine qb<|U J<|O _ J<|qa J<|q9<|q8 h fun aa ab h=>Q6<|Ql (q5z b) (fun f=>⟨[(0,.hs 0 1 0 f.2.length),(6,q7 b),(7,q7 0),(10,q7 f.1)],[(0,.dat 1 (f.2.map (eI .i64)))],1⟩) _ aa ab (wkA [] [] []) ?_;intro f ah a;unfold q5z at a;refine qf<|qb<|U J<|O _ J<|q9 ?_;refine qr J a (fun _ a=>?_) (fun _ a=>?_)
 ·refine qp<|qf<|Q6<|qf<|Qk [Qo 0,q6,Qo 0,q6,qs 0,q6,q6,q6,qs 0,q6,q6,q6,q6,q6,q6,q6,q6,q6,q6,q6] qh<|U J<|U J<|U J<|U J<|U J<|O _ J<|U J<|U J<|U J<|O _ J<|q8 a fun m s a=>qv s J J<|Qa _ s J<|U J<|U J<|q8 a fun n t a=>qv t J J<|Qa _ t J<|q8 a fun ai u a=>qv u J J<|Qz (ds:=[qe m]) m u J J J J J J J J (leb J) J<|q8 a fun aj v a=>qv v qc J<|Qz (ds:=[qe n]) n v J J J J J J J J (leb J) J<|q9<|qy<|U J<|U J<|U J<|U J<|q8 a fun o ac a=>q8 a fun ak ad a=>?_;have ae:=Ki ad;refine U1 [(0,0)] [(0,0)] [.hs 0 1 0 f.2.length,q7 0,q7 f.1,q7 b] (.d (.tup [])) [(0,.dat 1 (o.map (eI .i64)))] [(0,.dat 1 (o.map (eI .i64)))] 1 (qlc ((f.2.set b.toNat m).set (w64 (b + f.1)).toNat n) 0 f.1 b o ac) J J J (Yc [(0,0)] [] [] J ⟨⟨_,J,K4 qc J qw (ltd J)⟩,qo J,qo J,qo J,trivial⟩ ⟨Qj J J,trivial⟩) (Yc [(0,0)] [] [] J ⟨qo J,trivial⟩ ⟨Qj J J,trivial⟩) J ⟨.inl J,trivial⟩<|qz<|Qp<|qy<|U J<|O _ J<|qa J<|qz<|⟨_,qt a,wkE [] [] [] J ⟨⟨_,J,K4 (by simp [ae]) J qw (ltd J)⟩,qo J,qo J,qo J,trivial⟩ ⟨Qj J J,trivial⟩⟩
 refine Qf ?_;refine ⟨_,qt a,fun hm=>?_⟩;subst hm;obtain rfl:=qu h;exact ⟨.inl J,_,J,wkA [] [] []⟩
theorem qf6 (b : List Int) (c : Int) (f : Int) (g : Int) (r : Int × Int × Int) (a : q32  b c f g = some r) : K8 Tryz.prog tab 165 [.d (.sl 1 (b.map (eI .i64))),q7 c,q7 f,.ref 0 1 0 0] [(0,.dat 1 [[qe g]])] 1 (.d (.tup [qe r.1,qe r.2.1])) [(0,.dat 1 [[qe r.2.2]])] 1:=by
 unfold q32 at a;refine Kq Tryz.func165 J qh qh J<|qb<|qa J<|qa J<|q9<|qf<|qf<|Qk [q6,q6,q6,q6,q6,q6,q6,q6,q6] qh<|U J<|U J<|q8 a fun h j a=>K3 j J<|O _ J<|U J<|U J<|q8 a fun k l a=>K3 l J<|O _ J<|q8 a fun m n a=>Q5 (Zy h k m n) J<|q9 ?_;refine qr J a (fun _ a=>?_) (fun _ a=>?_)
 ·refine qb<|U J<|O _ J<|O _ J<|O _ J<|O _ J<|Qb 0 _ J<|qq<|U J<|U J<|qa J<|qa J<|qx ?_;obtain rfl:=qu a;exact ⟨.inr J,_,J,wkA [] [] []⟩
 refine qp<|qb<|U J<|U J<|qa J<|qa J<|qx ?_;obtain rfl:=qu a;exact ⟨.inr J,_,J,wkA [] [] []⟩
theorem ql9 (f : List Int) (h : Int) (j : Int) (k : Int) (l : Int) (r : Int × Int) (a : q3v  f h j k l = some r) : K8 Tryz.prog tab 161 [.d (.sl 1 (f.map (eI .i64))),q7 h,q7 j,q7 k,.ref 0 1 0 0] [(0,.dat 1 [[qe l]])] 1 (q7 r.1) [(0,.dat 1 [[qe r.2]])] 1:=by
 unfold q3v at a;refine Kq Tryz.func161 J qh qh J<|qb<|qa J<|qq<|U J<|U J<|U J<|U J<|q8 a fun b m a=>Ka [(0,0)] [(0,0)] _ (.d (.tup [qe b.1,qe b.2.1])) 1 [(0,.dat 1 [[qe b.2.2]])] 1 (qf6 f h j l b m)<|U J<|O _ J<|O _ J<|qa J<|qa J<|qq<|U J<|U J<|U J<|U J<|q8 a fun c n a=>Ka [(0,0)] [(0,0)] _ (.d (.tup [qe c.1,qe c.2.1])) 1 [(0,.dat 1 [[qe c.2.2]])] 1 (qf6 f b.2.1 k b.2.2 c n)<|U J<|O _ J<|O _ J<|qa J<|qa J<|qq<|U J<|U J<|U J<|U J<|q8 a fun g o a=>Ka [(0,0)] [(0,0)] _ (.d (.tup [qe g.1,qe g.2.1])) 1 [(0,.dat 1 [[qe g.2.2]])] 1 (qf6 f b.1 c.1 c.2.2 g o)<|U J<|O _ J<|O _ J<|qa J<|qa J<|qq ?_;refine U J<|qa J<|qx ?_;obtain rfl:=qu a;exact ⟨.inr J,_,J,wkA [] [] []⟩
theorem qf4 (c : List Int) (a : Int) (f : Int) (r : Int × Int) (b : q31  c a f = some r) : K8 Tryz.prog tab 160 [.d (.sl 1 (c.map (eI .i64))),q7 a,.ref 0 1 0 0] [(0,.dat 1 [[qe f]])] 1 (q7 r.1) [(0,.dat 1 [[qe r.2]])] 1:=by
 unfold q31 at b;refine Kq Tryz.func160 J qh qh J<|qb<|qa J<|qq<|U J<|U J<|O _ J<|U J<|U J<|O _ J<|U J<|q8 b fun g h b=>Ka [(0,0)] [(0,0)] _ (q7 g.1) 1 [(0,.dat 1 [[qe g.2]])] 1 (ql9 c (w64 (a - 1)) a (w64 (a + 1)) f g h)<|qa J<|qx ?_;obtain rfl:=qu b;exact ⟨.inr J,_,J,wkA [] [] []⟩
theorem qwc (h : List Int) (g : Int) (j : Int) (r : Int × Int) (a : q5w h g j = some r) : Pure Tryz.prog tab 140 [.sl 1 (h.map (eI .i64)),qe g,qe j] (.tup [qe r.1,qe r.2]):=by
 unfold q5w at a;refine Qq Tryz.func140 J qh qh J<|qb<|qa J<|qa J<|qq<|U J<|U J<|O _ J<|qa J<|qq<|Qv J J<|qq<|U J<|U J<|O _ J<|O _ J<|O _ J<|qa J<|qq<|U J<|U J<|O _ J<|O _ J<|O _ J<|qa J<|qq<|U J<|U J<|O _ J<|O _ J<|O _ J<|qa J<|q9<|qf<|qb<|U J<|O _ J<|q9<|q8 a fun p f a=>?_;refine Yu (fun k=>k = p) (fun k=>⟨[(9,.ref 0 1 0 0),(11,q7 k.1)],[(0,.dat 1 [[qe k.2]])],1⟩) qc ?_ ?_
 ·refine qr J f (fun _ f=>?_) (fun _ f=>?_)
  ·refine qf<|qb<|U J<|O _ J<|q9<|q8 f fun q b f=>?_;refine Yu (fun c=>c = q) (fun c=>⟨[(0,.d (.sl 1 (h.map (eI .i64)))),(9,.ref 0 1 0 0),(10,q7 c.1),(11,q7 c.2.1),(12,q7 c.2.2.1)],[(0,.dat 1 [[qe c.2.2.2]])],1⟩) qc ?_ ?_
   ·refine qr J b (fun _ b=>?_) (fun _ b=>?_)
    ·refine qb<|U J<|U J<|q8 b fun l s b=>Ka [(0,0)] [(0,0)] _ (q7 l.1) 1 [(0,.dat 1 [[qe l.2]])] 1 (qf4 h (w64 (g + (w64 ((w64 (Int.tdiv (w64 (j - g)) 4)) * 1)))) 0 l s)<|qa J<|qq<|U J<|U J<|q8 b fun m t b=>Ka [(0,0)] [(0,0)] _ (q7 m.1) 1 [(0,.dat 1 [[qe m.2]])] 1 (qf4 h (w64 (g + (w64 ((w64 (Int.tdiv (w64 (j - g)) 4)) * 2)))) l.2 m t)<|qa J<|q9<|qy<|U J<|U J<|q8 b fun n u b=>Ka [(0,0)] [(0,0)] _ (q7 n.1) 1 [(0,.dat 1 [[qe n.2]])] 1 (qf4 h (w64 (g + (w64 ((w64 (Int.tdiv (w64 (j - g)) 4)) * 3)))) m.2 n u)<|qa J<|qz ?_;obtain rfl:=qu b;exact ⟨_,J,wkA [(0,0)] [] []⟩
    refine qp<|Qi ?_;obtain rfl:=qu b;exact ⟨_,J,wkA [(0,0)] [] []⟩
   intro c hb;subst hb;refine qy<|U J<|U J<|U J<|U J<|q8 f fun o v f=>Ka [(0,0)] [(0,0)] _ (q7 o.1) 1 [(0,.dat 1 [[qe o.2]])] 1 (ql9 h c.1 c.2.1 c.2.2.1 c.2.2.2 o v)<|qa J<|qz ?_;obtain rfl:=qu f;exact ⟨_,J,wkA [(0,0)] [] []⟩
  refine qp<|Qi ?_;obtain rfl:=qu f;exact ⟨_,J,wkA [(0,0)] [] []⟩
 intro k hb;subst hb;refine qb<|O _ J<|q9<|Q6<|qb<|O _ J<|qa J<|q9 ?_;refine qr J a (fun _ a=>?_) (fun _ a=>?_)
 ·refine qb<|U J<|qa J<|qa J<|qx ?_;cases a;exact Qc _ J
 refine qb<|O _ J<|qa J<|q9 ?_;refine qr J a (fun _ a=>?_) (fun _ a=>?_)
 ·refine qb<|U J<|qa J<|qa J<|qx ?_;cases a;exact Qc _ J
 refine qb<|U J<|qa J<|qa J<|qx ?_;cases a;exact Qc _ J
theorem qws (f : List Int) (g : Int) (h : Int) (r : List Int) (c : q6m  f g h = some r) : K8 Tryz.prog tab 141 [.hs 0 1 0 f.length,q7 g,q7 h] [(0,.dat 1 (f.map (eI .i64)))] 1 (.d (.tup [])) [(0,.dat 1 (r.map (eI .i64)))] 1:=by
 unfold q6m at c;refine Kq Tryz.func141 J qh qh J<|qb<|U J<|qa J<|qq<|U J<|O _ J<|qa J<|q9<|q8 c fun p q c=>Q6<|Ql (q9a) (fun b=>⟨[(0,.hs 0 1 0 b.2.2.length),(6,q7 b.1),(7,q7 b.2.1)],[(0,.dat 1 (b.2.2.map (eI .i64)))],1⟩) _ p q (wkA [] [] []) ?_;intro b s a;unfold q9a at a;refine qf<|qb<|U J<|U J<|O _ J<|q9 ?_;refine qr J a (fun _ a=>?_) (fun _ a=>?_)
 ·refine qp<|Q6<|qf<|Qk [Qo 0,q6,Qo 0,q6,qs 0,q6,q6,q6,qs 0,q6,q6,q6,q6,q6,q6,q6] qh<|U J<|U J<|U J<|U J<|U J<|U J<|q8 a fun j k a=>qv k J J<|Qa _ k J<|U J<|U J<|q8 a fun l m a=>qv m J J<|Qa _ m J<|q8 a fun t n a=>qv n J J<|Qz (ds:=[qe j]) j n J J J J J J J J (leb J) J<|q8 a fun u o a=>qv o qc J<|Qz (ds:=[qe l]) l o J J J J J J J J (leb J) J<|qq<|U J<|O _ J<|qa J<|q9<|qy<|U J<|O _ J<|qa J<|qz<|Qp<|Qi<|⟨_,qt a,wkE [] [] [] J ⟨⟨_,J,K4 qc J qw (ltd J)⟩,qo J,qo J,trivial⟩ ⟨Qj J J,trivial⟩⟩
 refine Qf ?_;refine ⟨_,qt a,fun hm=>?_⟩;subst hm;obtain rfl:=qu c;exact ⟨.inl J,_,J,wkA [] [] []⟩
theorem qwi (u : List Int) (h : Int) (f : Int) (r : Bool × List Int) (n : q3x  u h f = some r) : K8 Tryz.prog tab 142 [.hs 0 1 0 u.length,q7 h,q7 f] [(0,.dat 1 (u.map (eI .i64)))] 1 (Q0 r.1) [(0,.dat 1 (r.2.map (eI .i64)))] 1:=by
 unfold q3x at n;refine Kq Tryz.func142 J qh qh J<|qb<|qa J<|qq<|U J<|O _ J<|qa J<|q9<|qf<|qb<|qa J<|q9<|q8 n fun x bk n=>?_;refine Qr (fun q=>.inl q = x) (fun q=>⟨[],[(0,.dat 1 (q.map (eI .i64)))],1⟩) qc ?_ ?_
 ·refine Ql (q3y f h) (fun d=>⟨[(0,.hs 0 1 0 d.2.2.length),(1,q7 h),(2,q7 f),(7,q7 d.1),(8,q7 d.2.1)],[(0,.dat 1 (d.2.2.map (eI .i64)))],1⟩) _ x bk (wkA [] [] []) ?_;intro d ch j;unfold q3y at j;refine qf<|qb<|U J<|O _ J<|q9 ?_;refine qr J j (fun _ j=>?_) (fun _ j=>?_)
  ·refine qp<|qf<|q8 j fun bl a j=>?_;refine Qr (fun o=>.inl o = bl) (fun o=>⟨[(0,.hs 0 1 0 o.2.length),(1,q7 h),(2,q7 f),(7,q7 o.1),(8,q7 d.2.1)],[(0,.dat 1 (o.2.map (eI .i64)))],1⟩) qc ?_ ?_
   ·refine qf<|q8 a fun y bm a=>?_;refine Qr (fun k=>k = y) (fun k=>⟨[(0,.hs 0 1 0 d.2.2.length),(1,q7 h),(2,q7 f),(7,q7 k),(8,q7 d.2.1)],[(0,.dat 1 (d.2.2.map (eI .i64)))],1⟩) qc ?_ ?_
    ·refine Ql (q66 f d) (fun z=>⟨[(0,.hs 0 1 0 d.2.2.length),(1,q7 h),(2,q7 f),(7,q7 z),(8,q7 d.2.1)],[(0,.dat 1 (d.2.2.map (eI .i64)))],1⟩) _ y bm (wkA [] [] []) ?_;intro z ci l;unfold q66 at l;refine qf<|qf<|Qk [q6,q6,q6,qs 0,q6,q6,q6,q6,qs 0,q6,q6,q6,q6,q6,q6,q6] qh<|U J<|U J<|O _ J<|q8 l fun bn g l=>?_;refine Qh 13 (fun A st=>∃ aa ab ac ad ae af ag ah ai aj ak al,st = A [(32,Q0 bn),(31,al),(30,ak),(29,aj),(28,ai),(27,ah),(26,ag),(25,af),(24,ae),(23,ad),(22,ac),(21,ab),(20,aa)]) ?_ ?_
     ·refine Qg J J g (fun g=>?_) (fun g=>?_)
      ·refine U J<|U J<|q8 g fun bo am g=>qv am J J<|Qa _ am J<|U J<|U J<|O _ J<|q8 g fun bp an g=>qv an J J<|Qa _ an J<|q8 g fun bq br g=>Q5 (Zy bo bp bq br) J<|O _ J<|O _ J<|q9 ?_;cases g;exact ⟨_,_,_,_,_,_,_,_,_,_,_,_,J⟩
      refine qd J<|qd J<|qd J<|qd J<|qd J<|qd J<|qd J<|qd J<|qd J<|qd J<|qd J<|O _ J<|q9 ?_;cases g;exact ⟨_,_,_,_,_,_,_,_,_,_,_,_,J⟩
     rintro _ ⟨aa,ab,ac,ad,ae,af,ag,ah,ai,aj,ak,al,rfl⟩;refine q9 ?_;refine qr J l (fun _ l=>?_) (fun _ l=>?_)
     ·refine qp<|Q6<|qy<|U J<|O _ J<|qa J<|qz<|Qp<|Qi<|⟨_,qt l,wkA [] [] []⟩
     refine Qf ?_;refine ⟨_,qt l,fun hm=>?_⟩;subst hm;exact ⟨_,J,wkA [] [] []⟩
    intro k hb;subst hb;refine qf<|qb<|U J<|U J<|O _ J<|q9 ?_;refine qr J a (fun _ a=>?_) (fun _ a=>?_)
    ·refine qb<|qa J<|qx ?_;obtain rfl:=qu a;refine ⟨_,qt j,fun hm=>?_⟩;subst hm;obtain rfl:=qu n;exact ⟨.inr J,_,J,wkA [] [] []⟩
    refine qp<|qf<|qb<|U J<|U J<|O _ J<|O _ J<|q9 ?_;refine qr J a (fun _ a=>?_) (fun _ a=>?_)
    ·refine qb<|qa J<|qx ?_;obtain rfl:=qu a;refine ⟨_,qt j,fun hm=>?_⟩;subst hm;obtain rfl:=qu n;exact ⟨.inr J,_,J,wkA [] [] []⟩
    refine qp<|qf<|Qk [Qo 0,q6,Qo 0,q6,qs 0,q6,q6,q6,qs 0,q6,q6,q6,q6,q6,q6,q6,q6,q6] qh<|U J<|U J<|U J<|U J<|O _ J<|U J<|U J<|O _ J<|q8 a fun ao ap a=>qv ap J J<|Qa _ ap J<|U J<|U J<|q8 a fun aq ar a=>qv ar J J<|Qa _ ar J<|q8 a fun cj au a=>qv au J J<|Qz (ds:=[qe ao]) ao au J J J J J J J J (leb J) J<|q8 a fun ck av a=>qv av qc J<|Qz (ds:=[qe aq]) aq av J J J J J J J J (leb J) J<|q9<|qf<|qb<|U J<|U J<|O _ J<|O _ J<|q9<|q8 a fun bs m a=>?_;refine Yu (fun p=>p = bs) (fun p=>⟨[(0,.hs 0 1 0 p.length),(1,q7 h),(2,q7 f),(7,q7 k),(8,q7 d.2.1)],[(0,.dat 1 (p.map (eI .i64)))],1⟩) qc ?_ ?_
    ·refine qr J m (fun _ m=>?_) (fun _ m=>?_)
     ·refine qb<|U J<|O _ J<|qa J<|q9<|q8 m fun bt bu m=>Q6<|Ql (q8x) (fun s=>⟨[(0,.hs 0 1 0 s.2.length),(1,q7 h),(2,q7 f),(7,q7 k),(8,q7 d.2.1),(9,q7 s.1)],[(0,.dat 1 (s.2.map (eI .i64)))],1⟩) _ bt bu (wkE [] [] [] J ⟨⟨_,J,K4 qc J qw (ltd J)⟩,qo J,qo J,qo J,qo J,qo J,trivial⟩ ⟨Qj J J,trivial⟩) ?_;intro s cl b;unfold q8x at b;refine qf<|qb<|U J<|O _ J<|q9 ?_;refine qr J b (fun _ b=>?_) (fun _ b=>?_)
      ·refine qp<|qf<|Q6<|qf<|qf<|Qk [q6,q6,qs 0,q6,q6,q6,q6,qs 0,q6,q6,q6] qh<|U J<|U J<|q8 b fun bv aw b=>qv aw J J<|Qa _ aw J<|U J<|U J<|O _ J<|q8 b fun bw ax b=>qv ax J J<|Qa _ ax J<|q8 b fun bz ca b=>Q5 (Zy bv bw bz ca) J<|O _ J<|q9 ?_;refine qr J b (fun _ b=>?_) (fun _ b=>?_)
       ·refine Qf ?_;refine ⟨_,qt b,fun hm=>?_⟩;subst hm;obtain rfl:=qu m;exact ⟨_,J,wkA [] [] []⟩
       refine qp<|Qk [Qo 0,q6,Qo 0,q6,qs 0,q6,q6,q6,qs 0,q6,q6,q6,q6,q6,q6,q6,q6,q6] qh<|U J<|U J<|U J<|U J<|O _ J<|U J<|U J<|O _ J<|q8 b fun ay az b=>qv az J J<|Qa _ az J<|U J<|U J<|q8 b fun v ba b=>qv ba J J<|Qa (q7 v) ba J<|q8 b fun cm bb b=>qv bb J J<|Qz (ds:=[qe ay]) ay bb J J J J J J J J (leb J) J<|q8 b fun cn bc b=>qv bc qc J<|Qz (ds:=[qe v]) v bc J J J J J J J J (leb J) J<|qz<|Qp<|qy<|U J<|O _ J<|qa J<|qz<|⟨_,qt b,wkE [] [] [] J ⟨⟨_,J,K4 qc J qw (ltd J)⟩,qo J,qo J,qo J,qo J,qo J,trivial⟩ ⟨Qj J J,trivial⟩⟩
      refine Qf ?_;refine ⟨_,qt b,fun hm=>?_⟩;subst hm;obtain rfl:=qu m;exact ⟨_,J,wkA [] [] []⟩
     refine qp<|Qi ?_;obtain rfl:=qu m;exact ⟨_,J,wkE [] [] [] J ⟨⟨_,J,K4 qc J qw (ltd J)⟩,qo J,qo J,qo J,qo J,trivial⟩ ⟨Qj J J,trivial⟩⟩
    intro p hb;subst hb;refine qb<|U J<|U J<|O _ J<|O _ J<|q9 ?_;refine qr J a (fun _ a=>?_) (fun _ a=>?_)
    ·refine qb<|U J<|O _ J<|qa J<|q9<|q8 a fun cb cc a=>Q6<|Ql (q67 f k) (fun t=>⟨[(0,.hs 0 1 0 t.2.length),(1,q7 h),(2,q7 f),(7,q7 k),(8,q7 d.2.1),(10,q7 t.1)],[(0,.dat 1 (t.2.map (eI .i64)))],1⟩) _ cb cc (wkA [] [] []) ?_;intro t co c;unfold q67 at c;refine qf<|qb<|U J<|U J<|O _ J<|q9 ?_;refine qr J c (fun _ c=>?_) (fun _ c=>?_)
     ·refine qp<|qf<|Q6<|qf<|qf<|Qk [q6,q6,qs 0,q6,q6,q6,q6,qs 0,q6,q6,q6] qh<|U J<|U J<|q8 c fun cd bd c=>qv bd J J<|Qa _ bd J<|U J<|U J<|O _ J<|q8 c fun ce be c=>qv be J J<|Qa _ be J<|q8 c fun cf cg c=>Q5 (Zy cd ce cf cg) J<|O _ J<|q9 ?_;refine qr J c (fun _ c=>?_) (fun _ c=>?_)
      ·refine Qf ?_;refine ⟨_,qt c,fun hm=>?_⟩;subst hm;obtain rfl:=qu a;exact ⟨_,J,wkA [] [] []⟩
      refine qp<|Qk [Qo 0,q6,Qo 0,q6,qs 0,q6,q6,q6,qs 0,q6,q6,q6,q6,q6,q6,q6,q6,q6] qh<|U J<|U J<|U J<|U J<|O _ J<|U J<|U J<|O _ J<|q8 c fun bf bg c=>qv bg J J<|Qa _ bg J<|U J<|U J<|q8 c fun w bh c=>qv bh J J<|Qa (q7 w) bh J<|q8 c fun cp bi c=>qv bi J J<|Qz (ds:=[qe bf]) bf bi J J J J J J J J (leb J) J<|q8 c fun cq bj c=>qv bj qc J<|Qz (ds:=[qe w]) w bj J J J J J J J J (leb J) J<|qz<|Qp<|qy<|U J<|O _ J<|qa J<|qz<|⟨_,qt c,wkE [] [] [] J ⟨⟨_,J,K4 qc J qw (ltd J)⟩,qo J,qo J,qo J,qo J,qo J,trivial⟩ ⟨Qj J J,trivial⟩⟩
     refine Qf ?_;refine ⟨_,qt c,fun hm=>?_⟩;subst hm;obtain rfl:=qu a;exact ⟨_,J,wkA [] [] []⟩
    refine qp<|Qi ?_;obtain rfl:=qu a;exact ⟨_,J,wkA [] [] []⟩
   intro o hb;subst hb;refine qy<|U J<|O _ J<|qa J<|qz<|⟨_,qt j,wkA [] [] []⟩
  refine Qf ?_;refine ⟨_,qt j,fun hm=>?_⟩;subst hm;exact ⟨_,J,wkA [] [] []⟩
 intro q hb;subst hb;refine qb<|qa J<|qx ?_;obtain rfl:=qu n;exact ⟨.inr J,_,J,wkA [] [] []⟩
theorem qwl (n : List Int) (g : Int) (p : Int) (q : Int) (r : Int × List Int) (c : q68  n g p q = some r) : K8 Tryz.prog tab 143 [.hs 0 1 0 n.length,q7 g,q7 p,q7 q] [(0,.dat 1 (n.map (eI .i64)))] 1 (q7 r.1) [(0,.dat 1 (r.2.map (eI .i64)))] 1:=by
 unfold q68 at c;refine Kq Tryz.func143 J qh qh J<|qb<|qa J<|q9<|qf<|Qk [Qo 0,q6,Qo 0,q6,qs 0,q6,q6,q6,qs 0,q6,q6,q6,q6,q6,q6,q6] qh<|U J<|U J<|U J<|U J<|U J<|U J<|q8 c fun s t c=>qv t J J<|Qa _ t J<|U J<|U J<|q8 c fun u v c=>qv v J J<|Qa _ v J<|q8 c fun bw w c=>qv w J J<|Qz (ds:=[qe s]) s w J J J J J J J J (leb J) J<|q8 c fun bz x c=>qv x qc J<|Qz (ds:=[qe u]) u x J J J J J J J J (leb J) J<|qq<|U J<|O _ J<|U J<|O _ J<|qa J<|qa J<|q9<|qf<|q8 c fun y bj c=>?_;refine Qr (fun l=>l = y) (fun l=>⟨[(9,q7 l.1)],[(0,.dat 1 (l.2.map (eI .i64)))],1⟩) qc ?_ ?_
 ·refine Ql (q69 g) (fun b=>⟨[(0,.hs 0 1 0 b.2.2.length),(1,q7 g),(9,q7 b.1),(10,q7 b.2.1)],[(0,.dat 1 (b.2.2.map (eI .i64)))],1⟩) _ y bj (wkE [] [] [] J ⟨⟨_,J,K4 qc J qw (ltd J)⟩,qo J,qo J,qo J,trivial⟩ ⟨Qj J J,trivial⟩) ?_;intro b ca a;unfold q69 at a;refine Q6<|qf<|q8 a fun z bk a=>?_;refine Qr (fun k=>k = z) (fun k=>⟨[(0,.hs 0 1 0 b.2.2.length),(1,q7 g),(9,q7 k),(10,q7 b.2.1)],[(0,.dat 1 (b.2.2.map (eI .i64)))],1⟩) qc ?_ ?_
  ·refine Ql (q6a b g) (fun aa=>⟨[(0,.hs 0 1 0 b.2.2.length),(1,q7 g),(9,q7 aa),(10,q7 b.2.1)],[(0,.dat 1 (b.2.2.map (eI .i64)))],1⟩) _ z bk (wkA [] [] []) ?_;intro aa cb h;unfold q6a at h;refine qf<|qf<|Qk [q6,q6,q6,qs 0,q6,q6,q6,qs 0,q6,q6,q6,q6,q6,q6,q6] qh<|U J<|U J<|O _ J<|q8 h fun bl d h=>?_;refine Qh 12 (fun A st=>∃ ab ac ad ae af ag ah ai aj ak al,st = A [(43,Q0 bl),(42,al),(41,ak),(40,aj),(39,ai),(38,ah),(37,ag),(36,af),(35,ae),(34,ad),(33,ac),(32,ab)]) ?_ ?_
   ·refine Qg J J d (fun d=>?_) (fun d=>?_)
    ·refine U J<|U J<|q8 d fun bm am d=>qv am J J<|Qa _ am J<|U J<|U J<|q8 d fun bn an d=>qv an J J<|Qa _ an J<|q8 d fun bo bp d=>Q5 (Zy bm bn bo bp) J<|O _ J<|O _ J<|q9 ?_;cases d;exact ⟨_,_,_,_,_,_,_,_,_,_,_,J⟩
    refine qd J<|qd J<|qd J<|qd J<|qd J<|qd J<|qd J<|qd J<|qd J<|qd J<|O _ J<|q9 ?_;cases d;exact ⟨_,_,_,_,_,_,_,_,_,_,_,J⟩
   rintro _ ⟨ab,ac,ad,ae,af,ag,ah,ai,aj,ak,al,rfl⟩;refine q9 ?_;refine qr J h (fun _ h=>?_) (fun _ h=>?_)
   ·refine qp<|Q6<|qy<|U J<|O _ J<|qa J<|qz<|Qp<|Qi<|⟨_,qt h,wkA [] [] []⟩
   refine Qf ?_;refine ⟨_,qt h,fun hm=>?_⟩;subst hm;exact ⟨_,J,wkA [] [] []⟩
  intro k hb;subst hb;refine qf<|q8 a fun ao bq a=>?_;refine Qr (fun m=>m = ao) (fun m=>⟨[(0,.hs 0 1 0 b.2.2.length),(1,q7 g),(9,q7 k),(10,q7 m)],[(0,.dat 1 (b.2.2.map (eI .i64)))],1⟩) qc ?_ ?_
  ·refine Ql (q6b k b g) (fun ap=>⟨[(0,.hs 0 1 0 b.2.2.length),(1,q7 g),(9,q7 k),(10,q7 ap)],[(0,.dat 1 (b.2.2.map (eI .i64)))],1⟩) _ ao bq (wkA [] [] []) ?_;intro ap cc j;unfold q6b at j;refine qf<|qf<|Qk [q6,q6,qs 0,q6,q6,q6,qs 0,q6,q6,q6,q6,q6,q6,q6] qh<|U J<|U J<|O _ J<|q8 j fun br f j=>?_;refine Qh 11 (fun A st=>∃ aq ar au av aw ax ay az ba bb,st = A [(59,Q0 br),(58,bb),(57,ba),(56,az),(55,ay),(54,ax),(53,aw),(52,av),(51,au),(50,ar),(49,aq)]) ?_ ?_
   ·refine Qg J J f (fun f=>?_) (fun f=>?_)
    ·refine U J<|U J<|q8 f fun bs bc f=>qv bc J J<|Qa _ bc J<|U J<|U J<|q8 f fun bt bd f=>qv bd J J<|Qa _ bd J<|q8 f fun bu bv f=>Q5 (Zy bs bt bu bv) J<|O _ J<|q9 ?_;cases f;exact ⟨_,_,_,_,_,_,_,_,_,_,J⟩
    refine qd J<|qd J<|qd J<|qd J<|qd J<|qd J<|qd J<|qd J<|qd J<|O _ J<|q9 ?_;cases f;exact ⟨_,_,_,_,_,_,_,_,_,_,J⟩
   rintro _ ⟨aq,ar,au,av,aw,ax,ay,az,ba,bb,rfl⟩;refine q9 ?_;refine qr J j (fun _ j=>?_) (fun _ j=>?_)
   ·refine qp<|Q6<|qy<|U J<|O _ J<|qa J<|qz<|Qp<|Qi<|⟨_,qt j,wkA [] [] []⟩
   refine Qf ?_;refine ⟨_,qt j,fun hm=>?_⟩;subst hm;exact ⟨_,J,wkA [] [] []⟩
  intro m hb;subst hb;refine qf<|qb<|U J<|U J<|O _ J<|q9 ?_;refine qr J a (fun _ a=>?_) (fun _ a=>?_)
  ·refine Qf ?_;refine ⟨_,qt a,fun hm=>?_⟩;subst hm;exact ⟨_,J,wkA [] [] []⟩
  refine qp<|qf<|Qk [Qo 0,q6,Qo 0,q6,qs 0,q6,q6,q6,qs 0,q6,q6,q6,q6,q6,q6,q6] qh<|U J<|U J<|U J<|U J<|U J<|U J<|q8 a fun be bf a=>qv bf J J<|Qa _ bf J<|U J<|U J<|q8 a fun o bg a=>qv bg J J<|Qa (q7 o) bg J<|q8 a fun cd bh a=>qv bh J J<|Qz (ds:=[qe be]) be bh J J J J J J J J (leb J) J<|q8 a fun ce bi a=>qv bi qc J<|Qz (ds:=[qe o]) o bi J J J J J J J J (leb J) J<|qq<|U J<|O _ J<|qa J<|q9<|qy<|U J<|O _ J<|qa J<|qz<|Qp<|Qi<|⟨_,qt a,wkE [] [] [] J ⟨⟨_,J,K4 qc J qw (ltd J)⟩,qo J,qo J,qo J,trivial⟩ ⟨Qj J J,trivial⟩⟩
 intro l hb;subst hb;refine qb<|U J<|qa J<|qx ?_;obtain rfl:=qu c;exact ⟨.inr J,_,J,wkA [] [] []⟩
theorem qwm (g : List Int) (b : Int) (s : Int) (k : Int) (r : Int × Bool × List Int) (a : q6c  g b s k = some r) : K8 Tryz.prog tab 144 [.hs 0 1 0 g.length,q7 b,q7 s,q7 k] [(0,.dat 1 (g.map (eI .i64)))] 1 (.d (.tup [qe r.1,.bool r.2.1])) [(0,.dat 1 (r.2.2.map (eI .i64)))] 1:=by
 unfold q6c at a;refine Kq Tryz.func144 J qh qh J<|qb<|qa J<|qa J<|q9<|qf<|Qk [Qo 0,q6,Qo 0,q6,qs 0,q6,q6,q6,qs 0,q6,q6,q6,q6,q6,q6,q6] qh<|U J<|U J<|U J<|U J<|U J<|U J<|q8 a fun h ao a=>qv ao J J<|Qa (q7 h) ao J<|U J<|U J<|q8 a fun j ap a=>qv ap J J<|Qa (q7 j) ap J<|q8 a fun fr aq a=>qv aq J J<|Qz (ds:=[qe h]) h aq J J J J J J J J (leb J) J<|q8 a fun fs ar a=>qv ar qc J<|Qz (ds:=[qe j]) j ar J J J J J J J J (leb J) J<|qq<|U J<|O (.d (qe (w64 (b + 1)))) J<|U J<|O (.d (qe (w64 (s - 1)))) J<|qa J<|qa J<|q9<|qf<|q8 a fun au fd a=>?_;refine Qr (fun l=>l = au) (fun (l : Int)=>⟨[(0,.hs 0 1 0 ((g.set b.toNat h).set k.toNat j).length),(1,q7 b),(10,q7 l),(11,.d (qe (w64 (s - 1))))],[(0,.dat 1 (((g.set b.toNat h).set k.toNat j).map (eI .i64)))],1⟩) qc ?_ ?_
 ·refine Ql (q6d s g b h k j) (fun (aa : Int)=>⟨[(0,.hs 0 1 0 ((g.set b.toNat h).set k.toNat j).length),(1,q7 b),(10,q7 aa),(11,.d (qe (w64 (s - 1))))],[(0,.dat 1 (((g.set b.toNat h).set k.toNat j).map (eI .i64)))],1⟩) (w64 (b + 1)) au fd (wkE [] [] [] J ⟨⟨_,J,K4 qc J qw (ltd J)⟩,qo J,qo J,qo J,trivial⟩ ⟨Qj J J,trivial⟩) ?_;intro aa ft t;unfold q6d at t;refine qf<|qf<|Qk [q6,q6,qs 0,q6,q6,q6,qs 0,q6,q6,q6,q6,q6,q6,q6] qh<|U J<|U J<|O (.d (.bool (decide (aa≤(w64 (s - 1)))))) J<|q8 t fun fe m t=>?_;refine Qh 11 (fun A st=>∃ (av aw ax ay az ba bb bc bd be : V),st = A [(43,Q0 fe),(42,be),(41,bd),(40,bc),(39,bb),(38,ba),(37,az),(36,ay),(35,ax),(34,aw),(33,av)]) ?_ ?_
  ·refine Qg J J m (fun m=>?_) (fun m=>?_)
   ·refine U J<|U J<|q8 m fun bf bg m=>qv bg J J<|Qa (q7 bf) bg J<|U J<|U J<|q8 m fun bh bi m=>qv bi J J<|Qa (q7 bh) bi J<|q8 m fun bj ff m=>Q5 (Zy bf bh bj ff) J<|O (Q0 bj) J<|q9 ?_;cases m;exact ⟨_,_,_,_,_,_,_,_,_,_,J⟩
   refine qd J<|qd J<|qd J<|qd J<|qd J<|qd J<|qd J<|qd J<|qd J<|O (Q0 false) J<|q9 ?_;cases m;exact ⟨_,_,_,_,_,_,_,_,_,_,J⟩
  rintro _ ⟨av,aw,ax,ay,az,ba,bb,bc,bd,be,rfl⟩;refine q9 ?_;refine qr J t (fun _ t=>?_) (fun _ t=>?_)
  ·refine qp<|Q6<|qy<|U J<|O (.d (qe (w64 (aa + 1)))) J<|qa J<|qz<|Qp<|Qi<|⟨_,qt t,wkA [] [] []⟩
  refine Qf ?_;refine ⟨_,qt t,fun hm=>?_⟩;subst hm;exact ⟨_,J,wkA [] [] []⟩
 intro l hb;subst hb;refine qf<|q8 a fun bk fg a=>?_;refine Qr (fun u=>u = bk) (fun (u : Int)=>⟨[(0,.hs 0 1 0 ((g.set b.toNat h).set k.toNat j).length),(1,q7 b),(10,q7 l),(11,q7 u)],[(0,.dat 1 (((g.set b.toNat h).set k.toNat j).map (eI .i64)))],1⟩) qc ?_ ?_
 ·refine Ql (q6e l g b h k j) (fun (ab : Int)=>⟨[(0,.hs 0 1 0 ((g.set b.toNat h).set k.toNat j).length),(1,q7 b),(10,q7 l),(11,q7 ab)],[(0,.dat 1 (((g.set b.toNat h).set k.toNat j).map (eI .i64)))],1⟩) (w64 (s - 1)) bk fg (wkA [] [] []) ?_;intro ab fu v;unfold q6e at v;refine qf<|qf<|Qk [q6,q6,q6,qs 0,q6,q6,q6,qs 0,q6,q6,q6,q6,q6,q6,q6] qh<|U J<|U J<|O (.d (.bool (decide (l≤ab)))) J<|q8 v fun fh n v=>?_;refine Qh 12 (fun A st=>∃ (bl bm bn bo bp bq br bs bt bu bv : V),st = A [(60,Q0 fh),(59,bv),(58,bu),(57,bt),(56,bs),(55,br),(54,bq),(53,bp),(52,bo),(51,bn),(50,bm),(49,bl)]) ?_ ?_
  ·refine Qg J J n (fun n=>?_) (fun n=>?_)
   ·refine U J<|U J<|q8 n fun bw bz n=>qv bz J J<|Qa (q7 bw) bz J<|U J<|U J<|q8 n fun ca cb n=>qv cb J J<|Qa (q7 ca) cb J<|q8 n fun ag fi n=>Q5 (Zy bw ca ag fi) J<|O (Q0 (!ag)) J<|O (Q0 (!ag)) J<|q9 ?_;cases n;exact ⟨_,_,_,_,_,_,_,_,_,_,_,J⟩
   refine qd J<|qd J<|qd J<|qd J<|qd J<|qd J<|qd J<|qd J<|qd J<|qd J<|O (Q0 false) J<|q9 ?_;cases n;exact ⟨_,_,_,_,_,_,_,_,_,_,_,J⟩
  rintro _ ⟨bl,bm,bn,bo,bp,bq,br,bs,bt,bu,bv,rfl⟩;refine q9 ?_;refine qr J v (fun _ v=>?_) (fun _ v=>?_)
  ·refine qp<|Q6<|qy<|U J<|O (.d (qe (w64 (ab - 1)))) J<|qa J<|qz<|Qp<|Qi<|⟨_,qt v,wkA [] [] []⟩
  refine Qf ?_;refine ⟨_,qt v,fun hm=>?_⟩;subst hm;exact ⟨_,J,wkA [] [] []⟩
 intro u hb;subst hb;refine qf<|qb<|U J<|U J<|O (.d (.bool (decide (l > u)))) J<|q9 ?_;refine qr J a (fun _ a=>?_) (fun _ a=>?_)
 ·refine qf<|Qk [Qo 0,q6,Qo 0,q6,qs 0,q6,q6,q6,qs 0,q6,q6,q6,q6,q6,q6,q6] qh<|U J<|U J<|U J<|U J<|U J<|U J<|q8 a fun ah cc a=>qv cc J J<|Qa (q7 ah) cc J<|U J<|U J<|q8 a fun ai cd a=>qv cd J J<|Qa (q7 ai) cd J<|q8 a fun fv ce a=>qv ce J J<|Qz (ds:=[qe ah]) ah ce J J J J J J J J (leb J) J<|q8 a fun fw cf a=>qv cf qc J<|Qz (ds:=[qe ai]) ai cf J J J J J J J J (leb J) J<|qq<|U J<|qa J<|qa J<|qx ?_;obtain rfl:=qu a;exact ⟨.inr J,_,J,wkA [] [] []⟩
 refine qp<|qf<|Qk [Qo 0,q6,Qo 0,q6,qs 0,q6,q6,q6,qs 0,q6,q6,q6,q6,q6,q6,q6] qh<|U J<|U J<|U J<|U J<|U J<|U J<|q8 a fun ac cg a=>qv cg J J<|Qa (q7 ac) cg J<|U J<|U J<|q8 a fun ad ch a=>qv ch J J<|Qa (q7 ad) ch J<|q8 a fun fx ci a=>qv ci J J<|Qz (ds:=[qe ac]) ac ci J J J J J J J J (leb J) J<|q8 a fun fy cj a=>qv cj qc J<|Qz (ds:=[qe ad]) ad cj J J J J J J J J (leb J) J<|qq<|U J<|O (.d (qe (w64 (l + 1)))) J<|qa J<|qq<|U J<|O (.d (qe (w64 (u - 1)))) J<|qa J<|q9<|qf<|q8 a fun ck fj a=>?_;refine Qr (fun y=>y = ck) (fun (y : Int × List Int)=>⟨[(0,.hs 0 1 0 y.2.length),(1,q7 b),(11,q7 y.1)],[(0,.dat 1 (y.2.map (eI .i64)))],1⟩) qc ?_ ?_
 ·refine Ql (q6f b) (fun (c : Int × Int × List Int)=>⟨[(0,.hs 0 1 0 c.2.2.length),(1,q7 b),(10,q7 c.1),(11,q7 c.2.1)],[(0,.dat 1 (c.2.2.map (eI .i64)))],1⟩) (w64 (l + 1),w64 (u - 1),(((g.set b.toNat h).set k.toNat j).set l.toNat ac).set u.toNat ad) ck fj (wkE [] [] [] J ⟨⟨_,J,K4 qc J qw (ltd J)⟩,qo J,qo J,qo J,trivial⟩ ⟨Qj J J,trivial⟩) ?_;intro c fz f;unfold q6f at f;refine Q6<|qf<|q8 f fun cl fk f=>?_;refine Qr (fun q=>q = cl) (fun (q : Int)=>⟨[(0,.hs 0 1 0 c.2.2.length),(1,q7 b),(10,q7 q),(11,q7 c.2.1)],[(0,.dat 1 (c.2.2.map (eI .i64)))],1⟩) qc ?_ ?_
  ·refine Ql (q6g c b) (fun (ae : Int)=>⟨[(0,.hs 0 1 0 c.2.2.length),(1,q7 b),(10,q7 ae),(11,q7 c.2.1)],[(0,.dat 1 (c.2.2.map (eI .i64)))],1⟩) c.1 cl fk (wkA [] [] []) ?_;intro ae ga w;unfold q6g at w;refine qf<|qf<|Qk [q6,q6,qs 0,q6,q6,q6,qs 0,q6,q6,q6,q6,q6,q6,q6] qh<|U J<|U J<|O (.d (.bool (decide (ae≤c.2.1)))) J<|q8 w fun fl o w=>?_;refine Qh 11 (fun A st=>∃ (cm cn co cp cq cr cs ct cu cv : V),st = A [(112,Q0 fl),(111,cv),(110,cu),(109,ct),(108,cs),(107,cr),(106,cq),(105,cp),(104,co),(103,cn),(102,cm)]) ?_ ?_
   ·refine Qg J J o (fun o=>?_) (fun o=>?_)
    ·refine U J<|U J<|q8 o fun cw cx o=>qv cx J J<|Qa (q7 cw) cx J<|U J<|U J<|q8 o fun cy cz o=>qv cz J J<|Qa (q7 cy) cz J<|q8 o fun da fm o=>Q5 (Zy cw cy da fm) J<|O (Q0 da) J<|q9 ?_;cases o;exact ⟨_,_,_,_,_,_,_,_,_,_,J⟩
    refine qd J<|qd J<|qd J<|qd J<|qd J<|qd J<|qd J<|qd J<|qd J<|O (Q0 false) J<|q9 ?_;cases o;exact ⟨_,_,_,_,_,_,_,_,_,_,J⟩
   rintro _ ⟨cm,cn,co,cp,cq,cr,cs,ct,cu,cv,rfl⟩;refine q9 ?_;refine qr J w (fun _ w=>?_) (fun _ w=>?_)
   ·refine qp<|Q6<|qy<|U J<|O (.d (qe (w64 (ae + 1)))) J<|qa J<|qz<|Qp<|Qi<|⟨_,qt w,wkA [] [] []⟩
   refine Qf ?_;refine ⟨_,qt w,fun hm=>?_⟩;subst hm;exact ⟨_,J,wkA [] [] []⟩
  intro q hb;subst hb;refine qf<|q8 f fun dc fn f=>?_;refine Qr (fun z=>z = dc) (fun (z : Int)=>⟨[(0,.hs 0 1 0 c.2.2.length),(1,q7 b),(10,q7 q),(11,q7 z)],[(0,.dat 1 (c.2.2.map (eI .i64)))],1⟩) qc ?_ ?_
  ·refine Ql (q6h q c b) (fun (af : Int)=>⟨[(0,.hs 0 1 0 c.2.2.length),(1,q7 b),(10,q7 q),(11,q7 af)],[(0,.dat 1 (c.2.2.map (eI .i64)))],1⟩) c.2.1 dc fn (wkA [] [] []) ?_;intro af gb x;unfold q6h at x;refine qf<|qf<|Qk [q6,q6,q6,qs 0,q6,q6,q6,qs 0,q6,q6,q6,q6,q6,q6,q6] qh<|U J<|U J<|O (.d (.bool (decide (q≤af)))) J<|q8 x fun fo p x=>?_;refine Qh 12 (fun A st=>∃ (dd de df dg dh dj dk dl dm dn dp : V),st = A [(129,Q0 fo),(128,dp),(127,dn),(126,dm),(125,dl),(124,dk),(123,dj),(122,dh),(121,dg),(120,df),(119,de),(118,dd)]) ?_ ?_
   ·refine Qg J J p (fun p=>?_) (fun p=>?_)
    ·refine U J<|U J<|q8 p fun dq dr p=>qv dr J J<|Qa (q7 dq) dr J<|U J<|U J<|q8 p fun dt du p=>qv du J J<|Qa (q7 dt) du J<|q8 p fun aj fq p=>Q5 (Zy dq dt aj fq) J<|O (Q0 (!aj)) J<|O (Q0 (!aj)) J<|q9 ?_;cases p;exact ⟨_,_,_,_,_,_,_,_,_,_,_,J⟩
    refine qd J<|qd J<|qd J<|qd J<|qd J<|qd J<|qd J<|qd J<|qd J<|qd J<|O (Q0 false) J<|q9 ?_;cases p;exact ⟨_,_,_,_,_,_,_,_,_,_,_,J⟩
   rintro _ ⟨dd,de,df,dg,dh,dj,dk,dl,dm,dn,dp,rfl⟩;refine q9 ?_;refine qr J x (fun _ x=>?_) (fun _ x=>?_)
   ·refine qp<|Q6<|qy<|U J<|O (.d (qe (w64 (af - 1)))) J<|qa J<|qz<|Qp<|Qi<|⟨_,qt x,wkA [] [] []⟩
   refine Qf ?_;refine ⟨_,qt x,fun hm=>?_⟩;subst hm;exact ⟨_,J,wkA [] [] []⟩
  intro z hb;subst hb;refine qf<|qb<|U J<|U J<|O (.d (.bool (decide (q > z)))) J<|q9 ?_;refine qr J f (fun _ f=>?_) (fun _ f=>?_)
  ·refine Qf ?_;refine ⟨_,qt f,fun hm=>?_⟩;subst hm;exact ⟨_,J,wkA [] [] []⟩
  refine qp<|qf<|Qk [Qo 0,q6,Qo 0,q6,qs 0,q6,q6,q6,qs 0,q6,q6,q6,q6,q6,q6,q6] qh<|U J<|U J<|U J<|U J<|U J<|U J<|q8 f fun ak dv f=>qv dv J J<|Qa (q7 ak) dv J<|U J<|U J<|q8 f fun al dw f=>qv dw J J<|Qa (q7 al) dw J<|q8 f fun gc dx f=>qv dx J J<|Qz (ds:=[qe ak]) ak dx J J J J J J J J (leb J) J<|q8 f fun gd dy f=>qv dy qc J<|Qz (ds:=[qe al]) al dy J J J J J J J J (leb J) J<|qq<|U J<|O (.d (qe (w64 (q + 1)))) J<|qa J<|q9<|qy<|U J<|O (.d (qe (w64 (z - 1)))) J<|qa J<|qz<|Qp<|Qi<|⟨_,qt f,wkE [] [] [] J ⟨⟨_,J,K4 qc J qw (ltd J)⟩,qo J,qo J,qo J,trivial⟩ ⟨Qj J J,trivial⟩⟩
 intro y hb;subst hb;refine qf<|Qk [Qo 0,q6,Qo 0,q6,qs 0,q6,q6,q6,qs 0,q6,q6,q6,q6,q6,q6,q6] qh<|U J<|U J<|U J<|U J<|U J<|U J<|q8 a fun am dz a=>qv dz J J<|Qa (q7 am) dz J<|U J<|U J<|q8 a fun an fa a=>qv fa J J<|Qa (q7 an) fa J<|q8 a fun ge fb a=>qv fb J J<|Qz (ds:=[qe am]) am fb J J J J J J J J (leb J) J<|q8 a fun gf fc a=>qv fc qc J<|Qz (ds:=[qe an]) an fc J J J J J J J J (leb J) J<|qq<|U J<|qa J<|qa J<|qx ?_;obtain rfl:=qu a;exact ⟨.inr J,_,J,wkA [] [] []⟩
theorem qla (b : Int) (r : Int) (a : q1v b = some r) : Pure Tryz.prog tab 158 [qe b] (.int .u64 r):=by
 unfold q1v at a;refine Qq Tryz.func158 J qh qh J<|qb<|qa J<|qq<|U J<|O _ J<|q8 a fun c d a=>Q5 (qe0 (IntKind.wrap .u64 b) c d) J<|q8 a fun g f a=>qs8 f J J J<|qa J<|qx ?_;cases a;exact Qc _ J
theorem qld (a : Int) (r : Int) (b : q1w  a = some r) : K8 Tryz.prog tab 159 [.ref 0 1 0 0] [(0,.dat 1 [[.int .u64 a]])] 1 (.d (.int .u64 r)) [(0,.dat 1 [[.int .u64 r]])] 1:=by
 unfold q1w at b;refine Kq Tryz.func159 J qh qh J<|qb<|qa J<|q9<|qf<|Qk [Qo 0,q6,q6,q6,qs 0,q6,q6,qs 0,q6,q6] qh<|U J<|O _ J<|O _ J<|U J<|O _ J<|O _ J<|O _ J<|O _ J<|O _ J<|Qb 0 _ J<|q9<|qf<|Qk [Qo 0,q6,q6,q6,qs 0,q6,q6,qs 0,q6,q6] qh<|U J<|O _ J<|O _ J<|U J<|O _ J<|O _ J<|O _ J<|O _ J<|O _ J<|Qb 0 _ J<|q9<|qf<|Qk [Qo 0,q6,q6,q6,qs 0,q6,q6,qs 0,q6,q6] qh<|U J<|O _ J<|O _ J<|U J<|O _ J<|O _ J<|O _ J<|O _ J ?_;refine O _ J<|Qb 0 _ J<|qq<|U J<|O _ J<|O _ J<|qa J<|qx ?_;obtain rfl:=qu b;exact ⟨.inr J,_,J,wkA [] [] []⟩
theorem qwa (m : List Int) (f : Int) (g : Int) (r : List Int) (b : q5u  m f g = some r) : K8 Tryz.prog tab 139 [.hs 0 1 0 m.length,q7 f,q7 g] [(0,.dat 1 (m.map (eI .i64)))] 1 (.d (.tup [])) [(0,.dat 1 (r.map (eI .i64)))] 1:=by
 unfold q5u at b;refine Kq Tryz.func139 J qh qh J<|qb<|U J<|U J<|O _ J<|qa J<|qq<|U J<|O _ J<|q9 ?_;refine qr J b (fun _ b=>?_) (fun _ b=>?_)
 ·refine qb<|U J<|O _ J<|Qv J J<|Qb 1 _ J<|qq<|U J<|q8 b fun j u b=>Q5 (qla (w64 (g - f)) j u) J<|qa J<|qq<|U J<|U J<|O _ J<|O _ J<|O _ J<|O _ J<|qa J<|q9<|q8 b fun v w b=>Q6<|Ql (q5v f g j) (fun c=>⟨[(0,.hs 0 1 0 c.2.1.length),(1,q7 f),(6,.d (qe (w64 (g - f)))),(7,.ref 1 1 0 0),(8,.d (.int .u64 j)),(9,q7 c.1)],[(0,.dat 1 (c.2.1.map (eI .i64))),(1,.dat 1 [[.int .u64 c.2.2]])],2⟩) _ v w (wkA [(1,1)] [] []) ?_;intro c z a;unfold q5v at a;refine qf<|qb<|U J<|U J<|U J<|O _ J<|O _ J<|O _ J<|O _ J<|O _ J<|q9 ?_;refine qr J a (fun _ a=>?_) (fun _ a=>?_)
  ·refine qp<|qf<|Q6<|qb<|q8 a fun k x a=>Ka [(0,1)] [(0,1),(1,0)] _ (.d (.int .u64 k)) 1 [(1,.dat 1 [[.int .u64 k]]),(0,.dat 1 (c.2.1.map (eI .i64)))] 2 (qld c.2.2 k x)<|U J<|O _ J<|O _ J<|O _ J<|qa J<|q9<|qf<|qb<|U J<|U J<|O _ J<|q9<|q8 a fun y h a=>?_;refine Yu (fun l=>l = y) (fun l=>⟨[(0,.hs 0 1 0 c.2.1.length),(1,q7 f),(6,.d (qe (w64 (g - f)))),(7,.ref 1 1 0 0),(8,.d (.int .u64 j)),(9,q7 c.1),(10,q7 l)],[(0,.dat 1 (c.2.1.map (eI .i64))),(1,.dat 1 [[.int .u64 k]])],2⟩) qc ?_ ?_
   ·refine qr J h (fun _ h=>?_) (fun _ h=>?_)
    ·refine qy<|U J<|U J<|O _ J<|qa J<|qz ?_;obtain rfl:=qu h;exact ⟨_,J,wkA [(1,1)] [] []⟩
    refine qp<|Qi ?_;obtain rfl:=qu h;exact ⟨_,J,wkA [(1,1)] [] []⟩
   intro l hb;subst hb;refine Qk [Qo 0,q6,Qo 0,q6,qs 0,q6,q6,q6,qs 0,q6,q6,q6,q6,q6,q6,q6,q6,q6,q6,q6] qh<|U J<|U J<|U J<|U J<|U J<|O _ J<|U J<|U J<|U J<|O _ J<|q8 a fun n o a=>qv o J J<|Qa _ o J<|U J<|U J<|q8 a fun p q a=>qv q J J<|Qa _ q J<|q8 a fun aa s a=>qv s J J<|Qz (ds:=[qe n]) n s J J J J J J J J (leb J) J<|q8 a fun ab t a=>qv t qc J<|Qz (ds:=[qe p]) p t J J J J J J J J (leb J) J<|qz<|Qp<|qy<|U J<|O _ J<|qa J<|qz<|⟨_,qt a,wkE [(1,1)] [] [] J ⟨⟨_,J,K4 qc J qw (ltd J)⟩,qo J,qo J,⟨_,J,.ref J qw (ltd J)⟩,qo J,qo J,trivial⟩ ⟨Qj J J,Qj J J,trivial⟩⟩
  refine Qf ?_;refine ⟨_,qt a,fun hm=>?_⟩;subst hm;obtain rfl:=qu b;exact ⟨.inl J,_,J,wkA [] [] []⟩
 refine qp<|Qi ?_;obtain rfl:=qu b;exact ⟨.inl J,_,J,wkA [] [] []⟩
theorem qwp (rec : List Int→Int→Int→Int→Option (List Int)) (hrec : ∀ (n : List Int) (p : Int) (q : Int) (s : Int) (r : List Int),rec n p q s = some r→K8 Tryz.prog tab 111 [.hs 0 1 0 n.length,q7 p,q7 q,q7 s] [(0,.dat 1 (n.map (eI .i64)))] 1 (.d (.tup [])) [(0,.dat 1 (r.map (eI .i64)))] 1) (n : List Int) (p : Int) (q : Int) (s : Int) (r : List Int) (o : q40 rec  n p q s = some r) : K8 Tryz.prog tab 111 [.hs 0 1 0 n.length,q7 p,q7 q,q7 s] [(0,.dat 1 (n.map (eI .i64)))] 1 (.d (.tup [])) [(0,.dat 1 (r.map (eI .i64)))] 1:=by
 unfold q40 at o;refine Kq Tryz.func111 J qh qh J<|qb<|qa J<|qq<|qa J<|q9<|q8 o fun az ba o=>Q6<|Ql (q3z rec) (fun b=>⟨[(0,.hs 0 1 0 b.2.2.2.2.2.length),(1,q7 b.1),(2,q7 b.2.1),(3,q7 b.2.2.1),(8,Q0 b.2.2.2.1),(9,Q0 b.2.2.2.2.1)],[(0,.dat 1 (b.2.2.2.2.2.map (eI .i64)))],1⟩) _ az ba (wkA [] [] []) ?_;intro b cn a;unfold q3z at a;refine Q6<|qb<|U J<|U J<|O _ J<|qa J<|q9<|qf<|qb<|U J<|O _ J<|q9 ?_;refine qr J a (fun _ a=>?_) (fun _ a=>?_)
 ·refine qb<|U J<|U J<|U J<|q8 a fun aa bb a=>q8 a fun co bc a=>?_;have cp:=Ki bc;refine Ka [(0,0)] [(0,0)] _ (.d (.tup [])) 1 [(0,.dat 1 (aa.map (eI .i64)))] 1 (qwg b.2.2.2.2.2 b.1 b.2.1 aa bb)<|qx ?_;refine ⟨_,qt a,fun hm=>?_⟩;subst hm;obtain rfl:=qu o;exact ⟨.inr J,_,J,wkA [] [] []⟩
 refine qp<|qf<|qb<|U J<|O _ J<|q9 ?_;refine qr J a (fun _ a=>?_) (fun _ a=>?_)
 ·refine qb<|U J<|U J<|U J<|q8 a fun ab bd a=>q8 a fun cq be a=>?_;have cr:=Ki be;refine Ka [(0,0)] [(0,0)] _ (.d (.tup [])) 1 [(0,.dat 1 (ab.map (eI .i64)))] 1 (qwe b.2.2.2.2.2 b.1 b.2.1 ab bd)<|qx ?_;refine ⟨_,qt a,fun hm=>?_⟩;subst hm;obtain rfl:=qu o;exact ⟨.inr J,_,J,wkA [] [] []⟩
 refine qp<|qf<|qb<|U J<|O _ J<|q9<|q8 a fun bf k a=>?_;refine Yu (fun c=>c = bf) (fun c=>⟨[(0,.hs 0 1 0 c.2.length),(1,q7 b.1),(2,q7 b.2.1),(3,q7 c.1),(8,Q0 b.2.2.2.1),(9,Q0 b.2.2.2.2.1),(10,.d (qe (w64 (b.2.1 - b.1))))],[(0,.dat 1 (c.2.map (eI .i64)))],1⟩) qc ?_ ?_
 ·refine qr J k (fun _ k=>?_) (fun _ k=>?_)
  ·refine qb<|U J<|U J<|U J<|q8 k fun ac bg k=>q8 k fun cs bh k=>?_;have bi:=Ki bh;refine Ka [(0,0)] [(0,0)] _ (.d (.tup [])) 1 [(0,.dat 1 (ac.map (eI .i64)))] 1 (qwa b.2.2.2.2.2 b.1 b.2.1 ac bg)<|q9<|qy<|U J<|O _ J<|qa J<|qz ?_;obtain rfl:=qu k;exact ⟨_,J,wkE [] [] [] J ⟨⟨_,J,K4 (by simp [bi]) J qw (ltd J)⟩,qo J,qo J,qo J,qo J,qo J,qo J,trivial⟩ ⟨Qj J J,trivial⟩⟩
  refine qp<|Qi ?_;obtain rfl:=qu k;exact ⟨_,J,wkA [] [] []⟩
 intro c hb;subst hb;refine qb<|U J<|U J<|U J<|q8 a fun bj bk a=>q1p [.hs 0 1 0 c.2.length,q7 b.1,q7 b.2.1] (qwc c.2 b.1 b.2.1 bj bk) J J (Zq (J6 J J) (Zq J (Zq J J))) (.inr J)<|U J<|O _ J<|O _ J<|qa J<|qa J<|q9<|qf<|qb<|U J<|O _ J<|q9<|q8 a fun bl l a=>?_;refine Yu (fun g=>g = bl) (fun g=>⟨[(0,.hs 0 1 0 g.2.2.length),(1,q7 b.1),(2,q7 b.2.1),(3,q7 c.1),(8,Q0 b.2.2.2.1),(9,Q0 b.2.2.2.2.1),(10,.d (qe (w64 (b.2.1 - b.1)))),(11,q7 g.1),(12,q7 g.2.1)],[(0,.dat 1 (g.2.2.map (eI .i64)))],1⟩) qc ?_ ?_
 ·refine qr J l (fun _ l=>?_) (fun _ l=>?_)
  ·refine qb<|U J<|U J<|U J<|q8 l fun ad bm l=>q8 l fun ct bn l=>?_;have bo:=Ki bn;refine Ka [(0,0)] [(0,0)] _ (.d (.tup [])) 1 [(0,.dat 1 (ad.map (eI .i64)))] 1 (qws c.2 b.1 b.2.1 ad bm)<|qq<|U J<|O _ J<|U J<|U J<|O _ J<|O _ J<|qa J<|q9<|qy<|qa J<|qz ?_;obtain rfl:=qu l;exact ⟨_,J,wkE [] [] [] J ⟨⟨_,J,K4 (by simp [bo]) J qw (ltd J)⟩,qo J,qo J,qo J,qo J,qo J,qo J,qo J,qo J,trivial⟩ ⟨Qj J J,trivial⟩⟩
  refine qp<|Qi ?_;obtain rfl:=qu l;exact ⟨_,J,wkA [] [] []⟩
 intro g hb;subst hb;refine qf<|qb<|U J<|q8 a fun bp t a=>?_;refine Qh 3 (fun A st=>∃ ae af,st = A [(64,Q0 bp),(63,af),(62,ae)]) ?_ ?_
 ·refine Qg J J t (fun t=>?_) (fun t=>?_)
  ·refine U J<|O _ J<|q9 ?_;cases t;exact ⟨_,_,J⟩
  refine qd J<|O _ J<|q9 ?_;cases t;exact ⟨_,_,J⟩
 rintro _ ⟨ae,af,rfl⟩;refine q8 a fun bq u a=>?_;refine Qh 4 (fun A st=>∃ ag ah ai,st = A [(68,Q0 bq),(67,ai),(66,ah),(65,ag)]) ?_ ?_
 ·refine Qg J J u (fun u=>?_) (fun u=>?_)
  ·refine U J<|O _ J<|O _ J<|q9 ?_;cases u;exact ⟨_,_,_,J⟩
  refine qd J<|qd J<|O _ J<|q9 ?_;cases u;exact ⟨_,_,_,J⟩
 rintro _ ⟨ag,ah,ai,rfl⟩;refine q9<|q8 a fun br f a=>?_;refine Yu (fun m=>.inl m = br) (fun m=>⟨[(0,.hs 0 1 0 m.length),(1,q7 b.1),(2,q7 b.2.1),(3,q7 c.1),(8,Q0 b.2.2.2.1),(9,Q0 b.2.2.2.2.1),(10,.d (qe (w64 (b.2.1 - b.1)))),(11,q7 g.1)],[(0,.dat 1 (m.map (eI .i64)))],1⟩) qc ?_ ?_
 ·refine qr J f (fun _ f=>?_) (fun _ f=>?_)
  ·refine qb<|U J<|U J<|U J<|q8 f fun w bs f=>q8 f fun cu bt f=>?_;have bu:=Ki bt;refine Ka [(0,0)] [(0,0)] _ (Q0 w.1) 1 [(0,.dat 1 (w.2.map (eI .i64)))] 1 (qwi g.2.2 b.1 b.2.1 w bs)<|q9 ?_;refine qr J f (fun _ f=>?_) (fun _ f=>?_)
   ·refine q1s ?_;obtain rfl:=qu f;refine ⟨_,qt a,fun hm=>?_⟩;subst hm;obtain rfl:=qu o;exact ⟨.inr J,_,J,wkA [] [] []⟩
   refine qp<|Qi ?_;obtain rfl:=qu f;exact ⟨_,J,wkE [] [] [] J ⟨⟨_,J,K4 (by simp [bu]) J qw (ltd J)⟩,qo J,qo J,qo J,qo J,qo J,qo J,qo J,trivial⟩ ⟨Qj J J,trivial⟩⟩
  refine qp<|Qi ?_;obtain rfl:=qu f;exact ⟨_,J,wkA [] [] []⟩
 intro m hb;subst hb;refine qf<|qf<|Qk [q6,q6,q6,qs 0,q6,q6,q6,qs 0,q6,q6,q6,q6,q6,q6,q6] qh<|U J<|O _ J<|q8 a fun bv h a=>?_;refine Qh 13 (fun A st=>∃ aj ak al am an ao ap aq ar au av aw,st = A [(87,Q0 bv),(86,aw),(85,av),(84,au),(83,ar),(82,aq),(81,ap),(80,ao),(79,an),(78,am),(77,al),(76,ak),(75,aj)]) ?_ ?_
 ·refine Qg J J h (fun h=>?_) (fun h=>?_)
  ·refine U J<|U J<|O _ J<|q8 h fun bw ax h=>qv ax J J<|Qa _ ax J<|U J<|U J<|q8 h fun bz ay h=>qv ay J J<|Qa _ ay J<|q8 h fun ca cb h=>Q5 (Zy bw bz ca cb) J<|O _ J<|O _ J<|q9 ?_;cases h;exact ⟨_,_,_,_,_,_,_,_,_,_,_,_,J⟩
  refine qd J<|qd J<|qd J<|qd J<|qd J<|qd J<|qd J<|qd J<|qd J<|qd J<|qd J<|O _ J<|q9 ?_;cases h;exact ⟨_,_,_,_,_,_,_,_,_,_,_,_,J⟩
 rintro _ ⟨aj,ak,al,am,an,ao,ap,aq,ar,au,av,aw,rfl⟩;refine q9 ?_;refine qr J a (fun _ a=>?_) (fun _ a=>?_)
 ·refine qb<|U J<|U J<|U J<|U J<|q8 a fun x cc a=>q8 a fun cv cd a=>?_;have ce:=Ki cd;refine Ka [(0,0)] [(0,0)] _ (q7 x.1) 1 [(0,.dat 1 (x.2.map (eI .i64)))] 1 (qwl m b.1 b.2.1 g.1 x cc)<|qa J<|qq<|U J<|qa J<|q9<|Qf<|Jv<|Qi<|⟨_,qt a,wkE [] [] [] J ⟨⟨_,J,K4 (by simp [ce]) J qw (ltd J)⟩,qo J,qo J,qo J,qo J,qo J,trivial⟩ ⟨Qj J J,trivial⟩⟩
 refine qp<|qb<|U J<|U J<|U J<|U J<|q8 a fun j cf a=>q8 a fun cw cg a=>?_;have v:=Ki cg;refine Ka [(0,0)] [(0,0)] _ (.d (.tup [qe j.1,.bool j.2.1])) 1 [(0,.dat 1 (j.2.2.map (eI .i64)))] 1 (qwm m b.1 b.2.1 g.1 j cf)<|U J<|O _ J<|O _ J<|qa J<|qa J<|qq<|U J<|qa J<|qq<|U J<|U J<|O _ J<|U J<|U J<|O _ J<|qa J<|qa J<|qq<|U J<|O _ J<|qa J<|qq<|U J<|U J<|O _ J<|q9 ?_;refine qr J a (fun _ a=>?_) (fun _ a=>?_)
 ·refine qb<|U J<|U J<|O _ J<|qa J<|qq<|U J<|U J<|U J<|U J<|q8 a fun y ch a=>q8 a fun cx ci a=>?_;have cj:=Ki ci;refine U1 [(0,0)] [(0,0)] [.hs 0 1 0 m.length,q7 b.1,q7 j.1,q7 c.1] (.d (.tup [])) [(0,.dat 1 (y.map (eI .i64)))] [(0,.dat 1 (y.map (eI .i64)))] 1 (hrec j.2.2 b.1 j.1 c.1 y ch) J J J (Yc [(0,0)] [] [] J ⟨⟨_,J,K4 (by simp [v]) J qw (ltd J)⟩,qo J,qo J,qo J,trivial⟩ ⟨Qj J J,trivial⟩) (Yc [(0,0)] [] [] J ⟨qo J,trivial⟩ ⟨Qj J J,trivial⟩) J ⟨.inl J,trivial⟩<|q9<|qy<|U J<|O _ J<|qa J<|qz<|Qp<|Qi<|⟨_,qt a,wkE [] [] [] J ⟨⟨_,J,K4 (by simp [v,cj]) J qw (ltd J)⟩,qo J,qo J,qo J,qo J,qo J,trivial⟩ ⟨Qj J J,trivial⟩⟩
 refine qb<|U J<|U J<|O _ J<|qa J<|qq<|U J<|U J<|O _ J<|U J<|U J<|q8 a fun z ck a=>q8 a fun cy cl a=>?_;have cm:=Ki cl;refine U1 [(0,0)] [(0,0)] [.hs 0 1 0 m.length,.d (qe (w64 (j.1 + 1))),q7 b.2.1,q7 c.1] (.d (.tup [])) [(0,.dat 1 (z.map (eI .i64)))] [(0,.dat 1 (z.map (eI .i64)))] 1 (hrec j.2.2 (w64 (j.1 + 1)) b.2.1 c.1 z ck) J J J (Yc [(0,0)] [] [] J ⟨⟨_,J,K4 (by simp [v]) J qw (ltd J)⟩,qo J,qo J,qo J,trivial⟩ ⟨Qj J J,trivial⟩) (Yc [(0,0)] [] [] J ⟨qo J,trivial⟩ ⟨Qj J J,trivial⟩) J ⟨.inl J,trivial⟩<|q9<|qy<|U J<|qa J<|qz<|Qp<|Qi<|⟨_,qt a,wkE [] [] [] J ⟨⟨_,J,K4 (by simp [v,cm]) J qw (ltd J)⟩,qo J,qo J,qo J,qo J,qo J,trivial⟩ ⟨Qj J J,trivial⟩⟩
theorem qwq (n : Nat) : ∀ (a : List Int) (b : Int) (c : Int) (f : Int) (r : List Int),q6l n  a b c f = some r→K8 Tryz.prog tab 111 [.hs 0 1 0 a.length,q7 b,q7 c,q7 f] [(0,.dat 1 (a.map (eI .i64)))] 1 (.d (.tup [])) [(0,.dat 1 (r.map (eI .i64)))] 1:=by
 induction n with
 | zero=>intro a b c f r g;cases g
 | succ n ih=>intro a b c f r g;exact qwp (q6l n )   ih a b c f r g
theorem qbf (b : List Int) (r : List Int) (a : U3  b = some r) : K8 Tryz.prog tab 83 [.hs 0 1 0 b.length] [(0,.dat 1 (b.map (eI .i64)))] 1 (.d (.tup [])) [(0,.dat 1 (r.map (eI .i64)))] 1:=by
 unfold U3 at a;refine Kq Tryz.func83 J qh qh J<|qb<|U J<|O _ J<|qa J<|q9<|qy<|U J<|U J<|U J<|O _ J<|q8 a fun f h a=>Q5 (qe0 (IntKind.wrap .u64 (b.length : Int)) f h) J<|q8 a fun g c a=>q8 a fun l j a=>?_;have m:=Ki j;obtain ⟨k,c⟩:=qdu c;refine Ka [(0,0)] [(0,0)] _ (.d (.tup [])) 1 [(0,.dat 1 (g.map (eI .i64)))] 1 (qwq k b 0 (b.length : Int) f g c)<|qz ?_;obtain rfl:=qu a;exact ⟨.inl J,_,J,wkA [] [] []⟩
theorem qb8 (d : List Int) (r : (Nat × Nat) × List Int) (c : q10  d = some r) : K8 Tryz.prog tab 84 [.hs 0 1 0 d.length] [(0,.dat 1 (d.map (eI .i64)))] 1 (.hs 0 1 r.1.1 r.1.2) [(0,.dat 1 (r.2.map (eI .i64)))] 1:=by
 unfold q10 at c;refine Kq Tryz.func84 J qh qh J<|qb<|qa J<|q9<|qf<|qb<|U J<|O _ J<|O _ J<|q9 ?_;refine qr J c (fun _ c=>?_) (fun _ c=>?_)
 ·refine qb<|U J<|qa J<|qx ?_;obtain rfl:=qu c;exact ⟨.inr J,_,J,wkA [] [] []⟩
 refine qp<|qf<|qb<|qa J<|q9<|q8 c fun m z c=>?_;refine Qr (fun k=>.inl k = m) (fun k=>⟨[(0,.hs 0 1 0 d.length)],[(0,.dat 1 (d.map (eI .i64)))],1⟩) qc ?_ ?_
 ·refine Ql (Jk d) (fun n=>⟨[(0,.hs 0 1 0 d.length),(3,q7 n)],[(0,.dat 1 (d.map (eI .i64)))],1⟩) _ m z (wkA [] [] []) ?_;intro n ae a;unfold Jk at a;refine qf<|qb<|U J<|U J<|O _ J<|O _ J<|q9 ?_;refine qr J a (fun _ a=>?_) (fun _ a=>?_)
  ·refine qp<|qf<|Q6<|qf<|Qk [q6,qs 0,q6,q6,q6,q6,qs 0,q6,q6,q6] qh<|U J<|U J<|q8 a fun af o a=>qv o J J<|Qa _ o J<|U J<|U J<|O _ J<|q8 a fun ag p a=>qv p J J<|Qa _ p J<|O _ J<|q9 ?_;refine qr J a (fun _ a=>?_) (fun _ a=>?_)
   ·refine qb<|U J<|U J<|q8 a fun ah aa a=>qeh aa J J J J J (qa4 J) (fun _=>rfl)<|qa J<|q9<|qf<|qb<|qa J<|q9<|q8 a fun q ab a=>?_;refine Qr (fun f=>f = q) (fun f=>⟨[(0,.hs 0 1 0 f.2.length),(3,q7 f.1)],[(0,.dat 1 (f.2.map (eI .i64)))],1⟩) qc ?_ ?_
    ·refine Ql (q1u) (fun g=>⟨[(0,.hs 0 1 0 g.2.2.2.length),(3,q7 g.1),(4,.hs 0 1 g.2.1.1 g.2.1.2),(5,q7 g.2.2.1)],[(0,.dat 1 (g.2.2.2.map (eI .i64)))],1⟩) _ q ab (wkA [] [] []) ?_;intro g ai h;unfold q1u at h;refine qf<|qb<|U J<|U J<|O _ J<|O _ J<|q9 ?_;refine qr J h (fun _ h=>?_) (fun _ h=>?_)
     ·refine qp<|qf<|q8 h fun ac b h=>?_;refine Qr (fun j=>j = ac) (fun j=>⟨[(0,.hs 0 1 0 j.2.2.length),(3,q7 j.1),(4,.hs 0 1 j.2.1.1 j.2.1.2),(5,q7 g.2.2.1)],[(0,.dat 1 (j.2.2.map (eI .i64)))],1⟩) qc ?_ ?_
      ·refine qf<|Qk [q6,qs 0,q6,q6,q6,q6,qs 0,q6,q6,q6] qh<|U J<|U J<|q8 b fun aj s b=>qee s J J J J J J<|Qa _ (qdq s) J<|U J<|U J<|O _ J<|q8 b fun ak t b=>qee t J J J J J J<|Qa _ (qdq t) J<|O _ J<|q9 ?_;refine qr J b (fun _ b=>?_) (fun _ b=>?_)
       ·refine qb<|U J<|U J<|U J<|U J<|q8 b fun u v b=>qee v J J J J J J<|Qa _ (qdq v) J<|q8 b fun al x b=>qv x J J<|Qz (ds:=[qe u]) u x J J J J J J J J (leb J) J<|q9<|qy<|U J<|O _ J<|qa J<|qz ?_;obtain rfl:=qu b;exact ⟨_,J,wkE [] [] [] J ⟨⟨_,J,K4 qc J qw (ltd J)⟩,qo J,⟨_,J,.hs J qw (ltd J)⟩,qo J,trivial⟩ ⟨Qj J J,trivial⟩⟩
       refine qp<|Qi ?_;obtain rfl:=qu b;exact ⟨_,J,wkA [] [] []⟩
      intro j hb;subst hb;refine qy<|U J<|O _ J<|qa J<|qz<|⟨_,qt h,wkA [] [] []⟩
     refine Qf ?_;refine ⟨_,qt h,fun hm=>?_⟩;subst hm;exact ⟨_,J,wkA [] [] []⟩
    intro f hb;subst hb;refine qb<|U J<|U J<|q8 a fun y l a=>qeh l J J J J J (qa4 J) (fun _=>rfl)<|qrx (w:=y) (xs:=f.2) (enc:=(eI .i64)) 0 (qm8 l) J J J J J J J ?_;have am:=@qgn _ f.2 y 0 (qm8 l);refine qq<|U J<|U J<|q8 a fun an ad a=>qeh ad J J J J J (fun _=>rfl) (qa4 J)<|qa J<|qx ?_;refine ⟨_,qt a,fun hm=>?_⟩;subst hm;obtain rfl:=qu c;exact ⟨.inr J,_,J,wkA [] [] []⟩
   refine qp<|Qi<|Qp<|qy<|U J<|O _ J<|qa J<|qz<|⟨_,qt a,wkA [] [] []⟩
  refine Qf ?_;refine ⟨_,qt a,fun hm=>?_⟩;subst hm;exact ⟨_,J,wkA [] [] []⟩
 intro k hb;subst hb;refine qb<|U J<|qa J<|qx ?_;obtain rfl:=qu c;exact ⟨.inr J,_,J,wkA [] [] []⟩
theorem qw3 (b : List qk) (f : qk→Option Bool) (p1F : FuncId) (p1C : List DV) (p1Ok : ∀ (h : qk) (r : Bool),f h = some r→Pure Tryz.prog tab p1F ([.agg (Q4 h)] ++ p1C) (.bool r)) (r : Int) (c : qbd b f = some r) : Pure Tryz.prog tab 113 [.sl 4 (b.map Q4),.fn p1F p1C] (qe r):=by
 unfold qbd at c;refine Qq Tryz.func113 J qh qh J<|qb<|qa J<|q9<|qf<|qb<|U J<|K5 J<|U J<|q9<|q8 c fun j l c=>?_;refine Qr (fun g=>.inl g = j) (fun g=>⟨[],[],0⟩) qc ?_ ?_
 ·refine Ql (q3s b f) (fun k=>⟨[(0,.d (.sl 4 (b.map Q4))),(1,.d (.fn p1F p1C)),(7,q7 (b.length : Int)),(8,q7 k)],[],0⟩) _ j l (wkA [] [] []) ?_;intro k q a;unfold q3s at a;refine qb<|O _ J<|q9<|qf ?_;refine qr J a (fun _ a=>?_) (fun _ a=>?_)
  ·refine qp<|qf<|Q6<|qb<|U J<|qa J<|qq<|U J<|U J<|U J<|q8 a fun m n a=>K3 n J<|O _ J<|q8 a fun o p a=>Yn _ (p1Ok m o p) J J J (.inl J)<|q9 ?_;refine qr J a (fun _ a=>?_) (fun _ a=>?_)
   ·refine qb<|U J<|qa J<|qx ?_;refine ⟨_,qt a,fun hm=>?_⟩;subst hm;cases c;exact Qc _ J
   refine qp<|Qi<|Qp<|qy<|O _ J<|U J<|qz<|⟨_,qt a,wkA [] [] []⟩
  refine Qf ?_;refine ⟨_,qt a,fun hm=>?_⟩;subst hm;exact ⟨_,J,wkA [] [] []⟩
 intro g hb;subst hb;refine qb<|qa J<|qx ?_;cases c;exact Qc _ J
theorem qvx (b : List qk) (c : qk→Option Bool) (p1F : FuncId) (p1C : List DV) (p1Ok : ∀ (d : qk) (r : Bool),c d = some r→Pure Tryz.prog tab p1F ([.agg (Q4 d)] ++ p1C) (.bool r)) (r : Bool) (a : q8f b c = some r) : Pure Tryz.prog tab 86 [.sl 4 (b.map Q4),.fn p1F p1C] (.bool r):=by
 unfold q8f at a;refine Qq Tryz.func86 J qh qh J<|qb<|qa J<|qq<|U J<|U J<|q8 a fun f g a=>Q5 (qw3 b c p1F p1C p1Ok f g) J<|O _ J<|qa J<|qx ?_;cases a;exact Qc _ J
theorem qaz (c : Int) (r : Bool) (b : q2x c = some r) : Pure Tryz.prog tab 114 [qe c] (.bool r):=by
 unfold q2x at b;refine Qq Tryz.func114 J qh qh J<|qb<|qa J<|qq<|U J<|O _ J<|q8 b fun h a b=>?_;refine Qh 4 (fun A st=>∃ d f g,st = A [(8,Q0 h),(7,g),(6,f),(5,d)]) ?_ ?_
 ·refine Qg J J a (fun a=>?_) (fun a=>?_)
  ·refine U J<|O _ J<|O _ J<|q9 ?_;cases a;exact ⟨_,_,_,J⟩
  refine qd J<|qd J<|O _ J<|q9 ?_;cases a;exact ⟨_,_,_,J⟩
 rintro _ ⟨d,f,g,rfl⟩;refine qa J<|qx ?_;cases b;exact Qc _ J
theorem qkk (g : qk) (r : Bool) (a : q5o g = some r) : Pure Tryz.prog tab 88 [.agg (Q4 g)] (.bool r):=by
 unfold q5o at a;refine Qq Tryz.func88 J qh qh J<|qb<|Qs _ _ J<|qa J<|qq<|O _ J<|O _ J<|O _ J<|O _ J<|O _ J<|q8 a fun c1 h a=>?_;refine Qh 7 (fun A st=>∃ j k l m n o,st = A [(14,Q0 c1),(13,o),(12,n),(11,m),(10,l),(9,k),(8,j)]) ?_ ?_
 ·refine Qg J J h (fun h=>?_) (fun h=>?_)
  ·refine O _ J<|O _ J<|O _ J<|O _ J<|O _ J<|O _ J<|q9 ?_;cases h;exact ⟨_,_,_,_,_,_,J⟩
  refine qd J<|qd J<|qd J<|qd J<|qd J<|O _ J<|q9 ?_;cases h;exact ⟨_,_,_,_,_,_,J⟩
 rintro _ ⟨j,k,l,m,n,o,rfl⟩;refine q8 a fun ah b a=>?_;refine Qh 5 (fun A st=>∃ p q s t,st = A [(19,Q0 ah),(18,t),(17,s),(16,q),(15,p)]) ?_ ?_
 ·refine Qg J J b (fun b=>?_) (fun b=>?_)
  ·refine O _ J<|O _ J<|q8 b fun ai aj b=>Q5 (qaz g.X0 ai aj) J<|O _ J<|q9 ?_;cases b;exact ⟨_,_,_,_,J⟩
  refine qd J<|qd J<|qd J<|O _ J<|q9 ?_;cases b;exact ⟨_,_,_,_,J⟩
 rintro _ ⟨p,q,s,t,rfl⟩;refine q8 a fun ak c a=>?_;refine Qh 5 (fun A st=>∃ u v w x,st = A [(24,Q0 ak),(23,x),(22,w),(21,v),(20,u)]) ?_ ?_
 ·refine Qg J J c (fun c=>?_) (fun c=>?_)
  ·refine O _ J<|O _ J<|q8 c fun al am c=>Q5 (qaz g.X1 al am) J<|O _ J<|q9 ?_;cases c;exact ⟨_,_,_,_,J⟩
  refine qd J<|qd J<|qd J<|O _ J<|q9 ?_;cases c;exact ⟨_,_,_,_,J⟩
 rintro _ ⟨u,v,w,x,rfl⟩;refine q8 a fun an d a=>?_;refine Qh 5 (fun A st=>∃ y z aa ab,st = A [(29,Q0 an),(28,ab),(27,aa),(26,z),(25,y)]) ?_ ?_
 ·refine Qg J J d (fun d=>?_) (fun d=>?_)
  ·refine O _ J<|O _ J<|q8 d fun ao ap d=>Q5 (qaz g.Y0 ao ap) J<|O _ J<|q9 ?_;cases d;exact ⟨_,_,_,_,J⟩
  refine qd J<|qd J<|qd J<|O _ J<|q9 ?_;cases d;exact ⟨_,_,_,_,J⟩
 rintro _ ⟨y,z,aa,ab,rfl⟩;refine q8 a fun aq f a=>?_;refine Qh 5 (fun A st=>∃ ac ad ae af,st = A [(34,Q0 aq),(33,af),(32,ae),(31,ad),(30,ac)]) ?_ ?_
 ·refine Qg J J f (fun f=>?_) (fun f=>?_)
  ·refine O _ J<|O _ J<|q8 f fun ar au f=>Q5 (qaz g.Y1 ar au) J<|O _ J<|q9 ?_;cases f;exact ⟨_,_,_,_,J⟩
  refine qd J<|qd J<|qd J<|O _ J<|q9 ?_;cases f;exact ⟨_,_,_,_,J⟩
 rintro _ ⟨ac,ad,ae,af,rfl⟩;refine qa J<|qx ?_;cases a;exact Qc _ J
theorem qty (b : qk) (r : Bool) (a : q2w b = some r) : Pure Tryz.prog tab 87 [.agg (Q4 b)] (.bool r):=by
 unfold q2w at a;refine Qq Tryz.func87 J qh qh J<|qb<|Qs _ _ J<|qa J<|qq<|O _ J<|q8 a fun c d a=>Q5 (qkk b c d) J<|O _ J<|qa J<|qx ?_;cases a;exact Qc _ J
theorem qw6 (b : List qi) (f : qi→Option Bool) (p1F : FuncId) (p1C : List DV) (p1Ok : ∀ (h : qi) (r : Bool),f h = some r→Pure Tryz.prog tab p1F ([.agg (Qd h)] ++ p1C) (.bool r)) (r : Int) (c : q8k b f = some r) : Pure Tryz.prog tab 162 [.sl 2 (b.map Qd),.fn p1F p1C] (qe r):=by
 unfold q8k at c;refine Qq Tryz.func162 J qh qh J<|qb<|qa J<|q9<|qf<|qb<|U J<|K5 J<|U J<|q9<|q8 c fun j l c=>?_;refine Qr (fun g=>.inl g = j) (fun g=>⟨[],[],0⟩) qc ?_ ?_
 ·refine Ql (q30 b f) (fun k=>⟨[(0,.d (.sl 2 (b.map Qd))),(1,.d (.fn p1F p1C)),(7,q7 (b.length : Int)),(8,q7 k)],[],0⟩) _ j l (wkA [] [] []) ?_;intro k q a;unfold q30 at a;refine qb<|O _ J<|q9<|qf ?_;refine qr J a (fun _ a=>?_) (fun _ a=>?_)
  ·refine qp<|qf<|Q6<|qb<|U J<|qa J<|qq<|U J<|U J<|U J<|q8 a fun m n a=>K3 n J<|O _ J<|q8 a fun o p a=>Yn _ (p1Ok m o p) J J J (.inl J)<|q9 ?_;refine qr J a (fun _ a=>?_) (fun _ a=>?_)
   ·refine qb<|U J<|qa J<|qx ?_;refine ⟨_,qt a,fun hm=>?_⟩;subst hm;cases c;exact Qc _ J
   refine qp<|Qi<|Qp<|qy<|O _ J<|U J<|qz<|⟨_,qt a,wkA [] [] []⟩
  refine Qf ?_;refine ⟨_,qt a,fun hm=>?_⟩;subst hm;exact ⟨_,J,wkA [] [] []⟩
 intro g hb;subst hb;refine qb<|qa J<|qx ?_;cases c;exact Qc _ J
theorem qvz (b : List qi) (c : qi→Option Bool) (p1F : FuncId) (p1C : List DV) (p1Ok : ∀ (d : qi) (r : Bool),c d = some r→Pure Tryz.prog tab p1F ([.agg (Qd d)] ++ p1C) (.bool r)) (r : Bool) (a : q8h b c = some r) : Pure Tryz.prog tab 148 [.sl 2 (b.map Qd),.fn p1F p1C] (.bool r):=by
 unfold q8h at a;refine Qq Tryz.func148 J qh qh J<|qb<|qa J<|qq<|U J<|U J<|q8 a fun f g a=>Q5 (qw6 b c p1F p1C p1Ok f g) J<|O _ J<|qa J<|qx ?_;cases a;exact Qc _ J
theorem qm5 (d : qi) (r : Bool) (a : q39 d = some r) : Pure Tryz.prog tab 134 [.agg (Qd d)] (.bool r):=by
 unfold q39 at a;refine Qq Tryz.func134 J qh qh J<|qb<|Qs _ _ J<|qa J<|qq<|O _ J<|O _ J<|O _ J<|O _ J<|O _ J<|q8 a fun o b a=>?_;refine Qh 5 (fun A st=>∃ f g h j,st = A [(12,Q0 o),(11,j),(10,h),(9,g),(8,f)]) ?_ ?_
 ·refine Qg J J b (fun b=>?_) (fun b=>?_)
  ·refine O _ J<|O _ J<|O _ J<|O _ J<|q9 ?_;cases b;exact ⟨_,_,_,_,J⟩
  refine qd J<|qd J<|qd J<|O _ J<|q9 ?_;cases b;exact ⟨_,_,_,_,J⟩
 rintro _ ⟨f,g,h,j,rfl⟩;refine q8 a fun p c a=>?_;refine Qh 5 (fun A st=>∃ k l m n,st = A [(17,Q0 p),(16,n),(15,m),(14,l),(13,k)]) ?_ ?_
 ·refine Qg J J c (fun c=>?_) (fun c=>?_)
  ·refine O _ J<|O _ J<|O _ J<|O _ J<|q9 ?_;cases c;exact ⟨_,_,_,_,J⟩
  refine qd J<|qd J<|qd J<|O _ J<|q9 ?_;cases c;exact ⟨_,_,_,_,J⟩
 rintro _ ⟨k,l,m,n,rfl⟩;refine qa J<|qx ?_;cases a;exact Qc _ J
theorem qzd (b : qi) (r : Bool) (a : qbn b = some r) : Pure Tryz.prog tab 149 [.agg (Qd b)] (.bool r):=by
 unfold qbn at a;refine Qq Tryz.func149 J qh qh J<|qb<|Qs _ _ J<|qa J<|qq<|O _ J<|q8 a fun c d a=>Q5 (qm5 b c d) J<|O _ J<|qa J<|qx ?_;cases a;exact Qc _ J
theorem qzk (a : qj) (b : qj) (r : Int) (c : q9j a b = some r) : Pure Tryz.prog tab 155 [.agg (Q7 a),.agg (Q7 b)] (qe r):=by
 unfold q9j at c;refine Qq Tryz.func155 J qh qh J<|qb<|Qs _ _ J<|Qs _ _ J<|qa J<|qq<|O _ J<|O _ J<|O _ J<|O _ J<|O _ J<|qa J<|qx ?_;cases c;exact Qc _ J
theorem qwf (k : qj→qj→Option Int) (q1F : FuncId) (q1C : List DV) (q1Ok : ∀ (p : qj) (q : qj) (r : Int),k p q = some r→Pure Tryz.prog tab q1F ([.agg (Q7 p),.agg (Q7 q)] ++ q1C) (qe r)) (n : List qj) (f : Int) (g : Int) (r : List qj) (l : q8r k n f g = some r) : K8 Tryz.prog tab 166 [.hs 0 3 0 n.length,q7 f,q7 g,.d (.fn q1F q1C)] [(0,.dat 3 (n.map Q7))] 1 (.d (.tup [])) [(0,.dat 3 (r.map Q7))] 1:=by
 unfold q8r at l;refine Kq Tryz.func166 J qh qh J<|qb<|U J<|O _ J<|qa J<|q9<|q8 l fun al am l=>Q6<|Ql (q8s g f k) (fun h=>⟨[(0,.hs 0 3 0 h.2.length),(1,q7 f),(2,q7 g),(3,.d (.fn q1F q1C)),(8,q7 h.1)],[(0,.dat 3 (h.2.map Q7))],1⟩) _ al am (wkA [] [] []) ?_;intro h az c;unfold q8s at c;refine qf<|qb<|U J<|U J<|O _ J<|q9 ?_;refine qr J c (fun _ c=>?_) (fun _ c=>?_)
 ·refine qp<|qf<|q8 c fun an o c=>?_;refine Qr (fun j=>j = an) (fun j=>⟨[(0,.hs 0 3 0 j.length),(1,q7 f),(2,q7 g),(3,.d (.fn q1F q1C)),(8,q7 h.1)],[(0,.dat 3 (j.map Q7))],1⟩) qc ?_ ?_
  ·refine qb<|U J<|qa J<|q9<|q8 o fun ao ap o=>Q6<|Ql (q8t f k) (fun m=>⟨[(0,.hs 0 3 0 m.2.length),(1,q7 f),(2,q7 g),(3,.d (.fn q1F q1C)),(8,q7 h.1),(9,q7 m.1)],[(0,.dat 3 (m.2.map Q7))],1⟩) _ ao ap (wkA [] [] []) ?_;intro m ba a;unfold q8t at a;refine qf<|qf<|Qk [q6,q6,q6,qs 0,q6,q6,q6,q6,qs 0,q6,q6,q6,q6,q6,q6,q6,q6] qh<|U J<|U J<|O _ J<|q8 a fun aq b a=>?_;refine Qh 14 (fun A st=>∃ s t u v w x y z aa ab ac ad ae,st = A [(34,Q0 aq),(33,ae),(32,ad),(31,ac),(30,ab),(29,aa),(28,z),(27,y),(26,x),(25,w),(24,v),(23,u),(22,t),(21,s)]) ?_ ?_
   ·refine Qg J J b (fun b=>?_) (fun b=>?_)
    ·refine U J<|U J<|U J<|q8 b fun ar af b=>qv af J J<|Qa _ af J<|U J<|U J<|O _ J<|q8 b fun au ag b=>qv ag J J<|Qa _ ag J<|q8 b fun av aw b=>Yn _ (q1Ok ar au av aw) J J J (.inl J)<|O _ J<|O _ J<|q9 ?_;cases b;exact ⟨_,_,_,_,_,_,_,_,_,_,_,_,_,J⟩
    refine qd J<|qd J<|qd J<|qd J<|qd J<|qd J<|qd J<|qd J<|qd J<|qd J<|qd J<|qd J<|O _ J<|q9 ?_;cases b;exact ⟨_,_,_,_,_,_,_,_,_,_,_,_,_,J⟩
   rintro _ ⟨s,t,u,v,w,x,y,z,aa,ab,ac,ad,ae,rfl⟩;refine q9 ?_;refine qr J a (fun _ a=>?_) (fun _ a=>?_)
   ·refine qp<|qf<|Q6<|Qk [Qo 0,q6,Qo 0,q6,qs 0,q6,q6,q6,qs 0,q6,q6,q6,q6,q6,q6,q6,q6,q6] qh<|U J<|U J<|U J<|U J<|O _ J<|U J<|U J<|O _ J<|q8 a fun ax ah a=>qv ah J J<|Qa _ ah J<|U J<|U J<|q8 a fun ay ai a=>qv ai J J<|Qa _ ai J<|q8 a fun bb aj a=>qv aj J J<|Qz ax aj J J J J J J J J (leb J) J<|q8 a fun bc ak a=>qv ak qc J<|Qz ay ak J J J J J J J J (leb J) J<|qz<|Qp<|qy<|U J<|O _ J<|qa J<|qz<|⟨_,qt a,wkE [] [] [] J ⟨⟨_,J,K4 qc J qw (ltd J)⟩,qo J,qo J,qo J,qo J,qo J,trivial⟩ ⟨Qj J J,trivial⟩⟩
   refine Qf ?_;refine ⟨_,qt a,fun hm=>?_⟩;subst hm;obtain rfl:=qu o;exact ⟨_,J,wkA [] [] []⟩
  intro j hb;subst hb;refine qy<|U J<|O _ J<|qa J<|qz<|⟨_,qt c,wkA [] [] []⟩
 refine Qf ?_;refine ⟨_,qt c,fun hm=>?_⟩;subst hm;obtain rfl:=qu l;exact ⟨.inl J,_,J,wkA [] [] []⟩
theorem qlb (l : qj→qj→Option Int) (q1F : FuncId) (q1C : List DV) (q1Ok : ∀ (n : qj) (o : qj) (r : Int),l n o = some r→Pure Tryz.prog tab q1F ([.agg (Q7 n),.agg (Q7 o)] ++ q1C) (qe r)) (m : List qj) (p : Int) (f : Int) (g : Int) (r : List qj) (h : q6n l m p f g = some r) : K8 Tryz.prog tab 174 [.hs 0 3 0 m.length,q7 p,q7 f,q7 g,.d (.fn q1F q1C)] [(0,.dat 3 (m.map Q7))] 1 (.d (.tup [])) [(0,.dat 3 (r.map Q7))] 1:=by
 unfold q6n at h;refine Kq Tryz.func174 J qh qh J<|qb<|U J<|qa J<|q9<|q8 h fun aq ar h=>Q6<|Ql (q9b f g l) (fun c=>⟨[(0,.hs 0 3 0 c.2.length),(2,q7 f),(3,q7 g),(4,.d (.fn q1F q1C)),(10,q7 c.1)],[(0,.dat 3 (c.2.map Q7))],1⟩) _ aq ar (wkA [] [] []) ?_;intro c bg a;unfold q9b at a;refine Q6<|qb<|U J<|O _ J<|O _ J<|qa J<|q9<|qf<|qb<|U J<|U J<|O _ J<|q9 ?_;refine qr J a (fun _ a=>?_) (fun _ a=>?_)
 ·refine Qf ?_;refine ⟨_,qt a,fun hm=>?_⟩;subst hm;obtain rfl:=qu h;exact ⟨.inl J,_,J,wkA [] [] []⟩
 refine qp<|qf<|qf<|Qk [q6,q6,q6,qs 0,q6,q6,q6,q6,q6,q6,qs 0,q6,q6,q6,q6,q6,q6,q6,q6,q6,q6,q6] qh<|U J<|O _ J<|U J<|O _ J<|q8 a fun au b a=>?_;refine Qh 18 (fun A st=>∃ q s t u v w x y z aa ab ac ad ae af ag ah,st = A [(40,Q0 au),(39,ah),(38,ag),(37,af),(36,ae),(35,ad),(34,ac),(33,ab),(32,aa),(31,z),(30,y),(29,x),(28,w),(27,v),(26,u),(25,t),(24,s),(23,q)]) ?_ ?_
 ·refine Qg J J b (fun b=>?_) (fun b=>?_)
  ·refine U J<|U J<|U J<|U J<|O _ J<|q8 b fun av ai b=>qv ai J J<|Qa _ ai J<|U J<|U J<|U J<|O _ J<|O _ J<|q8 b fun aw aj b=>qv aj J J<|Qa _ aj J<|q8 b fun ax ay b=>Yn _ (q1Ok av aw ax ay) J J J (.inl J)<|O _ J<|O _ J<|q9 ?_;cases b;exact ⟨_,_,_,_,_,_,_,_,_,_,_,_,_,_,_,_,_,J⟩
  refine qd J<|qd J<|qd J<|qd J<|qd J<|qd J<|qd J<|qd J<|qd J<|qd J<|qd J<|qd J<|qd J<|qd J<|qd J<|qd J<|O _ J<|q9 ?_;cases b;exact ⟨_,_,_,_,_,_,_,_,_,_,_,_,_,_,_,_,_,J⟩
 rintro _ ⟨q,s,t,u,v,w,x,y,z,aa,ab,ac,ad,ae,af,ag,ah,rfl⟩;refine q9<|q8 a fun az j a=>?_;refine Yu (fun k=>k = az) (fun k=>⟨[(0,.hs 0 3 0 c.2.length),(2,q7 f),(3,q7 g),(4,.d (.fn q1F q1C)),(10,q7 c.1),(11,q7 k)],[(0,.dat 3 (c.2.map Q7))],1⟩) qc ?_ ?_
 ·refine qr J j (fun _ j=>?_) (fun _ j=>?_)
  ·refine qy<|U J<|O _ J<|qa J<|qz ?_;obtain rfl:=qu j;exact ⟨_,J,wkA [] [] []⟩
  refine qp<|Qi ?_;obtain rfl:=qu j;exact ⟨_,J,wkA [] [] []⟩
 intro k hb;subst hb;refine qf<|qf<|Qk [q6,q6,q6,qs 0,q6,q6,q6,q6,q6,qs 0,q6,q6,q6,q6,q6,q6] qh<|U J<|U J<|U J<|U J<|O _ J<|q8 a fun ba ak a=>qv ak J J<|Qa _ ak J<|U J<|U J<|U J<|O _ J<|q8 a fun bb al a=>qv al J J<|Qa _ al J<|q8 a fun bc bd a=>Yn _ (q1Ok ba bb bc bd) J J J (.inl J)<|O _ J<|O _ J<|q9 ?_;refine qr J a (fun _ a=>?_) (fun _ a=>?_)
 ·refine q1s ?_;refine ⟨_,qt a,fun hm=>?_⟩;subst hm;obtain rfl:=qu h;exact ⟨.inr J,_,J,wkA [] [] []⟩
 refine qp<|qf<|Qk [Qo 0,q6,Qo 0,q6,qs 0,q6,q6,q6,q6,q6,qs 0,q6,q6,q6,q6,q6,q6,q6,q6,q6,q6,q6,q6,q6] qh<|U J<|U J<|U J<|O _ J<|U J<|U J<|U J<|O _ J<|U J<|U J<|U J<|O _ J<|q8 a fun be am a=>qv am J J<|Qa _ am J<|U J<|U J<|U J<|O _ J<|q8 a fun bf an a=>qv an J J<|Qa _ an J<|q8 a fun bh ao a=>qv ao J J<|Qz be ao J J J J J J J J (leb J) J<|q8 a fun bi ap a=>qv ap qc J<|Qz bf ap J J J J J J J J (leb J) J<|q9<|qy<|U J<|qa J<|qz<|Qp<|Qi<|⟨_,qt a,wkE [] [] [] J ⟨⟨_,J,K4 qc J qw (ltd J)⟩,qo J,qo J,qo J,qo J,trivial⟩ ⟨Qj J J,trivial⟩⟩
theorem qwd (g : qj→qj→Option Int) (q1F : FuncId) (q1C : List DV) (q1Ok : ∀ (o : qj) (p : qj) (r : Int),g o p = some r→Pure Tryz.prog tab q1F ([.agg (Q7 o),.agg (Q7 p)] ++ q1C) (qe r)) (m : List qj) (b : Int) (h : Int) (r : List qj) (j : q8o g m b h = some r) : K8 Tryz.prog tab 167 [.hs 0 3 0 m.length,q7 b,q7 h,.d (.fn q1F q1C)] [(0,.dat 3 (m.map Q7))] 1 (.d (.tup [])) [(0,.dat 3 (r.map Q7))] 1:=by
 unfold q8o at j;refine Kq Tryz.func167 J qh qh J<|qb<|U J<|qa J<|qq<|qa J<|qq<|U J<|U J<|O _ J<|qa J<|q9<|qf<|qb<|U J<|O _ J<|O _ J<|qa J<|q9<|q8 j fun q z j=>?_;refine Qr (fun l=>l = q) (fun l=>⟨[(0,.hs 0 3 0 l.length),(3,.d (.fn q1F q1C)),(8,q7 b),(9,q7 0),(10,.d (qe (w64 (h - b))))],[(0,.dat 3 (l.map Q7))],1⟩) qc ?_ ?_
 ·refine Ql (q8p g h b) (fun k=>⟨[(0,.hs 0 3 0 k.2.length),(3,.d (.fn q1F q1C)),(8,q7 b),(9,q7 0),(10,.d (qe (w64 (h - b)))),(11,q7 k.1)],[(0,.dat 3 (k.2.map Q7))],1⟩) _ q z (wkA [] [] []) ?_;intro k ai c;unfold q8p at c;refine qf<|qb<|U J<|O _ J<|q9 ?_;refine qr J c (fun _ c=>?_) (fun _ c=>?_)
  ·refine qp<|qf<|Q6<|qy<|U J<|U J<|U J<|U J<|U J<|q8 c fun s aa c=>q8 c fun aj ab c=>?_;have ac:=Ki ab;refine Ka [(0,0)] [(0,0)] _ (.d (.tup [])) 1 [(0,.dat 3 (s.map Q7))] 1 (qlb g q1F q1C q1Ok k.2 k.1 (w64 (h - b)) b s aa)<|qz<|Qp<|qy<|U J<|O _ J<|qa J<|qz<|⟨_,qt c,wkE [] [] [] J ⟨⟨_,J,K4 (by simp [ac]) J qw (ltd J)⟩,qo J,qo J,qo J,qo J,qo J,trivial⟩ ⟨Qj J J,trivial⟩⟩
  refine Qf ?_;refine ⟨_,qt c,fun hm=>?_⟩;subst hm;exact ⟨_,J,wkA [] [] []⟩
 intro l hb;subst hb;refine qb<|U J<|O _ J<|qa J<|q9<|q8 j fun ad ae j=>Q6<|Ql (q8q b g) (fun f=>⟨[(0,.hs 0 3 0 f.2.length),(3,.d (.fn q1F q1C)),(8,q7 b),(9,q7 0),(12,q7 f.1)],[(0,.dat 3 (f.2.map Q7))],1⟩) _ ad ae (wkA [] [] []) ?_;intro f ak a;unfold q8q at a;refine qf<|qb<|U J<|O _ J<|q9 ?_;refine qr J a (fun _ a=>?_) (fun _ a=>?_)
 ·refine qp<|qf<|Q6<|qf<|Qk [Qo 0,q6,Qo 0,q6,qs 0,q6,q6,q6,qs 0,q6,q6,q6,q6,q6,q6,q6,q6,q6,q6,q6] qh<|U J<|U J<|U J<|U J<|U J<|O _ J<|U J<|U J<|U J<|O _ J<|q8 a fun t u a=>qv u J J<|Qa _ u J<|U J<|U J<|q8 a fun v w a=>qv w J J<|Qa _ w J<|q8 a fun al x a=>qv x J J<|Qz t x J J J J J J J J (leb J) J<|q8 a fun am y a=>qv y qc J<|Qz v y J J J J J J J J (leb J) J<|q9<|qy<|U J<|U J<|U J<|U J<|U J<|q8 a fun n af a=>q8 a fun an ag a=>?_;have ah:=Ki ag;refine U1 [(0,0)] [(0,0)] [.hs 0 3 0 f.2.length,q7 0,q7 f.1,q7 b,.d (.fn q1F q1C)] (.d (.tup [])) [(0,.dat 3 (n.map Q7))] [(0,.dat 3 (n.map Q7))] 1 (qlb g q1F q1C q1Ok ((f.2.set b.toNat t).set (w64 (b + f.1)).toNat v) 0 f.1 b n af) J J J (Yc [(0,0)] [] [] J ⟨⟨_,J,K4 qc J qw (ltd J)⟩,qo J,qo J,qo J,qo J,trivial⟩ ⟨Qj J J,trivial⟩) (Yc [(0,0)] [] [] J ⟨qo J,trivial⟩ ⟨Qj J J,trivial⟩) J ⟨.inl J,trivial⟩<|qz<|Qp<|qy<|U J<|O _ J<|qa J<|qz<|⟨_,qt a,wkE [] [] [] J ⟨⟨_,J,K4 (by simp [ah]) J qw (ltd J)⟩,qo J,qo J,qo J,qo J,trivial⟩ ⟨Qj J J,trivial⟩⟩
 refine Qf ?_;refine ⟨_,qt a,fun hm=>?_⟩;subst hm;obtain rfl:=qu j;exact ⟨.inl J,_,J,wkA [] [] []⟩
theorem qf5 (b : qj→qj→Option Int) (q1F : FuncId) (q1C : List DV) (q1Ok : ∀ (c : qj) (f : qj) (r : Int),b c f = some r→Pure Tryz.prog tab q1F ([.agg (Q7 c),.agg (Q7 f)] ++ q1C) (qe r)) (g : List qj) (h : Int) (j : Int) (k : Int) (r : Int × Int × Int) (a : q3w b g h j k = some r) : K8 Tryz.prog tab 177 [.d (.sl 3 (g.map Q7)),q7 h,q7 j,.ref 0 1 0 0,.d (.fn q1F q1C)] [(0,.dat 1 [[qe k]])] 1 (.d (.tup [qe r.1,qe r.2.1])) [(0,.dat 1 [[qe r.2.2]])] 1:=by
 unfold q3w at a;refine Kq Tryz.func177 J qh qh J<|qb<|qa J<|qa J<|q9<|qf<|qf<|Qk [q6,q6,q6,q6,q6,q6,q6,q6,q6,q6,q6] qh<|U J<|U J<|U J<|q8 a fun l m a=>K3 m J<|O _ J<|U J<|U J<|q8 a fun n o a=>K3 o J<|O _ J<|q8 a fun p q a=>Yn _ (q1Ok l n p q) J J J (.inl J)<|O _ J<|q9 ?_;refine qr J a (fun _ a=>?_) (fun _ a=>?_)
 ·refine qb<|U J<|O _ J<|O _ J<|O _ J<|O _ J<|Qb 0 _ J<|qq<|U J<|U J<|qa J<|qa J<|qx ?_;obtain rfl:=qu a;exact ⟨.inr J,_,J,wkA [] [] []⟩
 refine qp<|qb<|U J<|U J<|qa J<|qa J<|qx ?_;obtain rfl:=qu a;exact ⟨.inr J,_,J,wkA [] [] []⟩
theorem ql8 (f : qj→qj→Option Int) (q1F : FuncId) (q1C : List DV) (q1Ok : ∀ (n : qj) (o : qj) (r : Int),f n o = some r→Pure Tryz.prog tab q1F ([.agg (Q7 n),.agg (Q7 o)] ++ q1C) (qe r)) (g : List qj) (j : Int) (k : Int) (l : Int) (m : Int) (r : Int × Int) (a : q63 f g j k l m = some r) : K8 Tryz.prog tab 176 [.d (.sl 3 (g.map Q7)),q7 j,q7 k,q7 l,.ref 0 1 0 0,.d (.fn q1F q1C)] [(0,.dat 1 [[qe m]])] 1 (q7 r.1) [(0,.dat 1 [[qe r.2]])] 1:=by
 unfold q63 at a;refine Kq Tryz.func176 J qh qh J<|qb<|qa J<|qq<|U J<|U J<|U J<|U J<|U J<|q8 a fun b p a=>Ka [(0,0)] [(0,0)] _ (.d (.tup [qe b.1,qe b.2.1])) 1 [(0,.dat 1 [[qe b.2.2]])] 1 (qf5 f q1F q1C q1Ok g j k m b p)<|U J<|O _ J<|O _ J<|qa J<|qa J<|qq<|U J<|U J<|U J<|U J<|U J<|q8 a fun c q a=>Ka [(0,0)] [(0,0)] _ (.d (.tup [qe c.1,qe c.2.1])) 1 [(0,.dat 1 [[qe c.2.2]])] 1 (qf5 f q1F q1C q1Ok g b.2.1 l b.2.2 c q)<|U J<|O _ J<|O _ J<|qa J<|qa J<|qq<|U J<|U J<|U J<|U J<|U J<|q8 a fun h s a=>Ka [(0,0)] [(0,0)] _ (.d (.tup [qe h.1,qe h.2.1])) 1 [(0,.dat 1 [[qe h.2.2]])] 1 (qf5 f q1F q1C q1Ok g b.1 c.1 c.2.2 h s)<|U J<|O _ J<|O _ J ?_;refine qa J<|qa J<|qq<|U J<|qa J<|qx ?_;obtain rfl:=qu a;exact ⟨.inr J,_,J,wkA [] [] []⟩
theorem qf3 (c : qj→qj→Option Int) (q1F : FuncId) (q1C : List DV) (q1Ok : ∀ (j : qj) (k : qj) (r : Int),c j k = some r→Pure Tryz.prog tab q1F ([.agg (Q7 j),.agg (Q7 k)] ++ q1C) (qe r)) (f : List qj) (a : Int) (g : Int) (r : Int × Int) (b : q3u c f a g = some r) : K8 Tryz.prog tab 175 [.d (.sl 3 (f.map Q7)),q7 a,.ref 0 1 0 0,.d (.fn q1F q1C)] [(0,.dat 1 [[qe g]])] 1 (q7 r.1) [(0,.dat 1 [[qe r.2]])] 1:=by
 unfold q3u at b;refine Kq Tryz.func175 J qh qh J<|qb<|qa J<|qq<|U J<|U J<|O _ J<|U J<|U J<|O _ J<|U J<|U J<|q8 b fun h l b=>Ka [(0,0)] [(0,0)] _ (q7 h.1) 1 [(0,.dat 1 [[qe h.2]])] 1 (ql8 c q1F q1C q1Ok f (w64 (a - 1)) a (w64 (a + 1)) g h l)<|qa J<|qx ?_;obtain rfl:=qu b;exact ⟨.inr J,_,J,wkA [] [] []⟩
theorem qwb (h : List qj) (g : Int) (k : Int) (j : qj→qj→Option Int) (p3F : FuncId) (p3C : List DV) (p3Ok : ∀ (q : qj) (s : qj) (r : Int),j q s = some r→Pure Tryz.prog tab p3F ([.agg (Q7 q),.agg (Q7 s)] ++ p3C) (qe r)) (r : Int × Int) (a : q8n h g k j = some r) : Pure Tryz.prog tab 169 [.sl 3 (h.map Q7),qe g,qe k,.fn p3F p3C] (.tup [qe r.1,qe r.2]):=by
 unfold q8n at a;refine Qq Tryz.func169 J qh qh J<|qb<|qa J<|qa J<|qq<|U J<|U J<|O _ J<|qa J<|qq<|Qv J J<|qq<|U J<|U J<|O _ J<|O _ J<|O _ J<|qa J<|qq<|U J<|U J<|O _ J<|O _ J<|O _ J<|qa J<|qq<|U J<|U J<|O _ J<|O _ J<|O _ J<|qa J<|q9<|qf<|qb<|U J<|O _ J<|q9<|q8 a fun t f a=>?_;refine Yu (fun l=>l = t) (fun l=>⟨[(11,.ref 0 1 0 0),(13,q7 l.1)],[(0,.dat 1 [[qe l.2]])],1⟩) qc ?_ ?_
 ·refine qr J f (fun _ f=>?_) (fun _ f=>?_)
  ·refine qf<|qb<|U J<|O _ J<|q9<|q8 f fun u b f=>?_;refine Yu (fun c=>c = u) (fun c=>⟨[(0,.d (.sl 3 (h.map Q7))),(3,.d (.fn p3F p3C)),(11,.ref 0 1 0 0),(12,q7 c.1),(13,q7 c.2.1),(14,q7 c.2.2.1)],[(0,.dat 1 [[qe c.2.2.2]])],1⟩) qc ?_ ?_
   ·refine qr J b (fun _ b=>?_) (fun _ b=>?_)
    ·refine qb<|U J<|U J<|U J<|q8 b fun m v b=>Ka [(0,0)] [(0,0)] _ (q7 m.1) 1 [(0,.dat 1 [[qe m.2]])] 1 (qf3 j p3F p3C p3Ok h (w64 (g + (w64 ((w64 (Int.tdiv (w64 (k - g)) 4)) * 1)))) 0 m v)<|qa J<|qq<|U J<|U J<|U J<|q8 b fun n w b=>Ka [(0,0)] [(0,0)] _ (q7 n.1) 1 [(0,.dat 1 [[qe n.2]])] 1 (qf3 j p3F p3C p3Ok h (w64 (g + (w64 ((w64 (Int.tdiv (w64 (k - g)) 4)) * 2)))) m.2 n w)<|qa J<|q9<|qy<|U J<|U J<|U J<|q8 b fun o x b=>Ka [(0,0)] [(0,0)] _ (q7 o.1) 1 [(0,.dat 1 [[qe o.2]])] 1 (qf3 j p3F p3C p3Ok h (w64 (g + (w64 ((w64 (Int.tdiv (w64 (k - g)) 4)) * 3)))) n.2 o x)<|qa J<|qz ?_;obtain rfl:=qu b;exact ⟨_,J,wkA [(0,0)] [] []⟩
    refine qp<|Qi ?_;obtain rfl:=qu b;exact ⟨_,J,wkA [(0,0)] [] []⟩
   intro c hb;subst hb;refine qy<|U J<|U J<|U J<|U J<|U J<|q8 f fun p y f=>Ka [(0,0)] [(0,0)] _ (q7 p.1) 1 [(0,.dat 1 [[qe p.2]])] 1 (ql8 j p3F p3C p3Ok h c.1 c.2.1 c.2.2.1 c.2.2.2 p y)<|qa J<|qz ?_;obtain rfl:=qu f;exact ⟨_,J,wkA [(0,0)] [] []⟩
  refine qp<|Qi ?_;obtain rfl:=qu f;exact ⟨_,J,wkA [(0,0)] [] []⟩
 intro l hb;subst hb;refine qb<|O _ J<|q9<|Q6<|qb<|O _ J<|qa J<|q9 ?_;refine qr J a (fun _ a=>?_) (fun _ a=>?_)
 ·refine qb<|U J<|qa J<|qa J<|qx ?_;cases a;exact Qc _ J
 refine qb<|O _ J<|qa J<|q9 ?_;refine qr J a (fun _ a=>?_) (fun _ a=>?_)
 ·refine qb<|U J<|qa J<|qa J<|qx ?_;cases a;exact Qc _ J
 refine qb<|U J<|qa J<|qa J<|qx ?_;cases a;exact Qc _ J
theorem qwr (g : qj→qj→Option Int) (q1F : FuncId) (q1C : List DV) (_q1Ok : ∀ (h : qj) (j : qj) (r : Int),g h j = some r→Pure Tryz.prog tab q1F ([.agg (Q7 h),.agg (Q7 j)] ++ q1C) (qe r)) (f : List qj) (k : Int) (l : Int) (r : List qj) (c : q98 g f k l = some r) : K8 Tryz.prog tab 170 [.hs 0 3 0 f.length,q7 k,q7 l,.d (.fn q1F q1C)] [(0,.dat 3 (f.map Q7))] 1 (.d (.tup [])) [(0,.dat 3 (r.map Q7))] 1:=by
 unfold q98 at c;refine Kq Tryz.func170 J qh qh J<|qb<|U J<|qa J<|qq<|U J<|O _ J<|qa J<|q9<|q8 c fun q s c=>Q6<|Ql (q99) (fun b=>⟨[(0,.hs 0 3 0 b.2.2.length),(8,q7 b.1),(9,q7 b.2.1)],[(0,.dat 3 (b.2.2.map Q7))],1⟩) _ q s (wkA [] [] []) ?_;intro b v a;unfold q99 at a;refine qf<|qb<|U J<|U J<|O _ J<|q9 ?_;refine qr J a (fun _ a=>?_) (fun _ a=>?_)
 ·refine qp<|Q6<|qf<|Qk [Qo 0,q6,Qo 0,q6,qs 0,q6,q6,q6,qs 0,q6,q6,q6,q6,q6,q6,q6] qh<|U J<|U J<|U J<|U J<|U J<|U J<|q8 a fun t m a=>qv m J J<|Qa _ m J<|U J<|U J<|q8 a fun u n a=>qv n J J<|Qa _ n J<|q8 a fun w o a=>qv o J J<|Qz t o J J J J J J J J (leb J) J<|q8 a fun x p a=>qv p qc J<|Qz u p J J J J J J J J (leb J) J<|qq<|U J<|O _ J<|qa J<|q9<|qy<|U J<|O _ J<|qa J<|qz<|Qp<|Qi<|⟨_,qt a,wkE [] [] [] J ⟨⟨_,J,K4 qc J qw (ltd J)⟩,qo J,qo J,trivial⟩ ⟨Qj J J,trivial⟩⟩
 refine Qf ?_;refine ⟨_,qt a,fun hm=>?_⟩;subst hm;obtain rfl:=qu c;exact ⟨.inl J,_,J,wkA [] [] []⟩
theorem qwh (o : qj→qj→Option Int) (q1F : FuncId) (q1C : List DV) (q1Ok : ∀ (x : qj) (y : qj) (r : Int),o x y = some r→Pure Tryz.prog tab q1F ([.agg (Q7 x),.agg (Q7 y)] ++ q1C) (qe r)) (w : List qj) (j : Int) (g : Int) (r : Bool × List qj) (p : q64 o w j g = some r) : K8 Tryz.prog tab 171 [.hs 0 3 0 w.length,q7 j,q7 g,.d (.fn q1F q1C)] [(0,.dat 3 (w.map Q7))] 1 (Q0 r.1) [(0,.dat 3 (r.2.map Q7))] 1:=by
 unfold q64 at p;refine Kq Tryz.func171 J qh qh J<|qb<|qa J<|qq<|U J<|O _ J<|qa J<|q9<|qf<|qb<|qa J<|q9<|q8 p fun z bk p=>?_;refine Qr (fun t=>.inl t = z) (fun t=>⟨[],[(0,.dat 3 (t.map Q7))],1⟩) qc ?_ ?_
 ·refine Ql (q65 g o j) (fun f=>⟨[(0,.hs 0 3 0 f.2.2.length),(1,q7 j),(2,q7 g),(3,.d (.fn q1F q1C)),(9,q7 f.1),(10,q7 f.2.1)],[(0,.dat 3 (f.2.2.map Q7))],1⟩) _ z bk (wkA [] [] []) ?_;intro f cn k;unfold q65 at k;refine qf<|qb<|U J<|O _ J<|q9 ?_;refine qr J k (fun _ k=>?_) (fun _ k=>?_)
  ·refine qp<|qf<|q8 k fun bl a k=>?_;refine Qr (fun q=>.inl q = bl) (fun q=>⟨[(0,.hs 0 3 0 q.2.length),(1,q7 j),(2,q7 g),(3,.d (.fn q1F q1C)),(9,q7 q.1),(10,q7 f.2.1)],[(0,.dat 3 (q.2.map Q7))],1⟩) qc ?_ ?_
   ·refine qf<|q8 a fun aa bm a=>?_;refine Qr (fun l=>l = aa) (fun l=>⟨[(0,.hs 0 3 0 f.2.2.length),(1,q7 j),(2,q7 g),(3,.d (.fn q1F q1C)),(9,q7 l),(10,q7 f.2.1)],[(0,.dat 3 (f.2.2.map Q7))],1⟩) qc ?_ ?_
    ·refine Ql (q8u g f o) (fun ab=>⟨[(0,.hs 0 3 0 f.2.2.length),(1,q7 j),(2,q7 g),(3,.d (.fn q1F q1C)),(9,q7 ab),(10,q7 f.2.1)],[(0,.dat 3 (f.2.2.map Q7))],1⟩) _ aa bm (wkA [] [] []) ?_;intro ab co m;unfold q8u at m;refine qf<|qf<|Qk [q6,q6,q6,q6,qs 0,q6,q6,q6,q6,qs 0,q6,q6,q6,q6,q6,q6,q6,q6] qh<|U J<|U J<|O _ J<|q8 m fun bn h m=>?_;refine Qh 15 (fun A st=>∃ ac ad ae af ag ah ai aj ak al am an ao ap,st = A [(36,Q0 bn),(35,ap),(34,ao),(33,an),(32,am),(31,al),(30,ak),(29,aj),(28,ai),(27,ah),(26,ag),(25,af),(24,ae),(23,ad),(22,ac)]) ?_ ?_
     ·refine Qg J J h (fun h=>?_) (fun h=>?_)
      ·refine U J<|U J<|U J<|q8 h fun bo aq h=>qv aq J J<|Qa _ aq J<|U J<|U J<|O _ J<|q8 h fun bp ar h=>qv ar J J<|Qa _ ar J<|q8 h fun bq br h=>Yn _ (q1Ok bo bp bq br) J J J (.inl J)<|O _ J<|O _ J<|O _ J<|q9 ?_;cases h;exact ⟨_,_,_,_,_,_,_,_,_,_,_,_,_,_,J⟩
      refine qd J<|qd J<|qd J<|qd J<|qd J<|qd J<|qd J<|qd J<|qd J<|qd J<|qd J<|qd J<|qd J<|O _ J<|q9 ?_;cases h;exact ⟨_,_,_,_,_,_,_,_,_,_,_,_,_,_,J⟩
     rintro _ ⟨ac,ad,ae,af,ag,ah,ai,aj,ak,al,am,an,ao,ap,rfl⟩;refine q9 ?_;refine qr J m (fun _ m=>?_) (fun _ m=>?_)
     ·refine qp<|Q6<|qy<|U J<|O _ J<|qa J<|qz<|Qp<|Qi<|⟨_,qt m,wkA [] [] []⟩
     refine Qf ?_;refine ⟨_,qt m,fun hm=>?_⟩;subst hm;exact ⟨_,J,wkA [] [] []⟩
    intro l hb;subst hb;refine qf<|qb<|U J<|U J<|O _ J<|q9 ?_;refine qr J a (fun _ a=>?_) (fun _ a=>?_)
    ·refine qb<|qa J<|qx ?_;obtain rfl:=qu a;refine ⟨_,qt k,fun hm=>?_⟩;subst hm;obtain rfl:=qu p;exact ⟨.inr J,_,J,wkA [] [] []⟩
    refine qp<|qf<|qb<|U J<|U J<|O _ J<|O _ J<|q9 ?_;refine qr J a (fun _ a=>?_) (fun _ a=>?_)
    ·refine qb<|qa J<|qx ?_;obtain rfl:=qu a;refine ⟨_,qt k,fun hm=>?_⟩;subst hm;obtain rfl:=qu p;exact ⟨.inr J,_,J,wkA [] [] []⟩
    refine qp<|qf<|Qk [Qo 0,q6,Qo 0,q6,qs 0,q6,q6,q6,qs 0,q6,q6,q6,q6,q6,q6,q6,q6,q6] qh<|U J<|U J<|U J<|U J<|O _ J<|U J<|U J<|O _ J<|q8 a fun bs au a=>qv au J J<|Qa _ au J<|U J<|U J<|q8 a fun bt av a=>qv av J J<|Qa _ av J<|q8 a fun cp aw a=>qv aw J J<|Qz bs aw J J J J J J J J (leb J) J<|q8 a fun cq ax a=>qv ax qc J<|Qz bt ax J J J J J J J J (leb J) J<|q9<|qf<|qb<|U J<|U J<|O _ J<|O _ J<|q9<|q8 a fun bu n a=>?_;refine Yu (fun s=>s = bu) (fun s=>⟨[(0,.hs 0 3 0 s.length),(1,q7 j),(2,q7 g),(3,.d (.fn q1F q1C)),(9,q7 l),(10,q7 f.2.1)],[(0,.dat 3 (s.map Q7))],1⟩) qc ?_ ?_
    ·refine qr J n (fun _ n=>?_) (fun _ n=>?_)
     ·refine qb<|U J<|O _ J<|qa J<|q9<|q8 n fun bv bw n=>Q6<|Ql (q8v o) (fun u=>⟨[(0,.hs 0 3 0 u.2.length),(1,q7 j),(2,q7 g),(3,.d (.fn q1F q1C)),(9,q7 l),(10,q7 f.2.1),(11,q7 u.1)],[(0,.dat 3 (u.2.map Q7))],1⟩) _ bv bw (wkE [] [] [] J ⟨⟨_,J,K4 qc J qw (ltd J)⟩,qo J,qo J,qo J,qo J,qo J,qo J,trivial⟩ ⟨Qj J J,trivial⟩) ?_;intro u cr b;unfold q8v at b;refine qf<|qb<|U J<|O _ J<|q9 ?_;refine qr J b (fun _ b=>?_) (fun _ b=>?_)
      ·refine qp<|qf<|Q6<|qf<|qf<|Qk [q6,q6,q6,qs 0,q6,q6,q6,q6,qs 0,q6,q6,q6,q6] qh<|U J<|U J<|U J<|q8 b fun bz ay b=>qv ay J J<|Qa _ ay J<|U J<|U J<|O _ J<|q8 b fun ca az b=>qv az J J<|Qa _ az J<|q8 b fun cb cc b=>Yn _ (q1Ok bz ca cb cc) J J J (.inl J)<|O _ J<|O _ J<|q9 ?_;refine qr J b (fun _ b=>?_) (fun _ b=>?_)
       ·refine Qf ?_;refine ⟨_,qt b,fun hm=>?_⟩;subst hm;obtain rfl:=qu n;exact ⟨_,J,wkA [] [] []⟩
       refine qp<|Qk [Qo 0,q6,Qo 0,q6,qs 0,q6,q6,q6,qs 0,q6,q6,q6,q6,q6,q6,q6,q6,q6] qh<|U J<|U J<|U J<|U J<|O _ J<|U J<|U J<|O _ J<|q8 b fun cd ba b=>qv ba J J<|Qa _ ba J<|U J<|U J<|q8 b fun ce bb b=>qv bb J J<|Qa _ bb J<|q8 b fun cs bc b=>qv bc J J<|Qz cd bc J J J J J J J J (leb J) J<|q8 b fun ct bd b=>qv bd qc J<|Qz ce bd J J J J J J J J (leb J) J<|qz<|Qp<|qy<|U J<|O _ J<|qa J<|qz<|⟨_,qt b,wkE [] [] [] J ⟨⟨_,J,K4 qc J qw (ltd J)⟩,qo J,qo J,qo J,qo J,qo J,qo J,trivial⟩ ⟨Qj J J,trivial⟩⟩
      refine Qf ?_;refine ⟨_,qt b,fun hm=>?_⟩;subst hm;obtain rfl:=qu n;exact ⟨_,J,wkA [] [] []⟩
     refine qp<|Qi ?_;obtain rfl:=qu n;exact ⟨_,J,wkE [] [] [] J ⟨⟨_,J,K4 qc J qw (ltd J)⟩,qo J,qo J,qo J,qo J,qo J,trivial⟩ ⟨Qj J J,trivial⟩⟩
    intro s hb;subst hb;refine qb<|U J<|U J<|O _ J<|O _ J<|q9 ?_;refine qr J a (fun _ a=>?_) (fun _ a=>?_)
    ·refine qb<|U J<|O _ J<|qa J<|q9<|q8 a fun cf cg a=>Q6<|Ql (q8w g o l) (fun v=>⟨[(0,.hs 0 3 0 v.2.length),(1,q7 j),(2,q7 g),(3,.d (.fn q1F q1C)),(9,q7 l),(10,q7 f.2.1),(12,q7 v.1)],[(0,.dat 3 (v.2.map Q7))],1⟩) _ cf cg (wkA [] [] []) ?_;intro v cu c;unfold q8w at c;refine qf<|qb<|U J<|U J<|O _ J<|q9 ?_;refine qr J c (fun _ c=>?_) (fun _ c=>?_)
     ·refine qp<|qf<|Q6<|qf<|qf<|Qk [q6,q6,q6,qs 0,q6,q6,q6,q6,qs 0,q6,q6,q6,q6] qh<|U J<|U J<|U J<|q8 c fun ch be c=>qv be J J<|Qa _ be J<|U J<|U J<|O _ J<|q8 c fun ci bf c=>qv bf J J<|Qa _ bf J<|q8 c fun cj ck c=>Yn _ (q1Ok ch ci cj ck) J J J (.inl J)<|O _ J<|O _ J<|q9 ?_;refine qr J c (fun _ c=>?_) (fun _ c=>?_)
      ·refine Qf ?_;refine ⟨_,qt c,fun hm=>?_⟩;subst hm;obtain rfl:=qu a;exact ⟨_,J,wkA [] [] []⟩
      refine qp<|Qk [Qo 0,q6,Qo 0,q6,qs 0,q6,q6,q6,qs 0,q6,q6,q6,q6,q6,q6,q6,q6,q6] qh<|U J<|U J<|U J<|U J<|O _ J<|U J<|U J<|O _ J<|q8 c fun cl bg c=>qv bg J J<|Qa _ bg J<|U J<|U J<|q8 c fun cm bh c=>qv bh J J<|Qa _ bh J<|q8 c fun cv bi c=>qv bi J J<|Qz cl bi J J J J J J J J (leb J) J<|q8 c fun cw bj c=>qv bj qc J<|Qz cm bj J J J J J J J J (leb J) J<|qz<|Qp<|qy<|U J<|O _ J<|qa J<|qz<|⟨_,qt c,wkE [] [] [] J ⟨⟨_,J,K4 qc J qw (ltd J)⟩,qo J,qo J,qo J,qo J,qo J,qo J,trivial⟩ ⟨Qj J J,trivial⟩⟩
     refine Qf ?_;refine ⟨_,qt c,fun hm=>?_⟩;subst hm;obtain rfl:=qu a;exact ⟨_,J,wkA [] [] []⟩
    refine qp<|Qi ?_;obtain rfl:=qu a;exact ⟨_,J,wkA [] [] []⟩
   intro q hb;subst hb;refine qy<|U J<|O _ J<|qa J<|qz<|⟨_,qt k,wkA [] [] []⟩
  refine Qf ?_;refine ⟨_,qt k,fun hm=>?_⟩;subst hm;exact ⟨_,J,wkA [] [] []⟩
 intro t hb;subst hb;refine qb<|qa J<|qx ?_;obtain rfl:=qu p;exact ⟨.inr J,_,J,wkA [] [] []⟩
theorem qwk (m : qj→qj→Option Int) (q1F : FuncId) (q1C : List DV) (q1Ok : ∀ (q : qj) (s : qj) (r : Int),m q s = some r→Pure Tryz.prog tab q1F ([.agg (Q7 q),.agg (Q7 s)] ++ q1C) (qe r)) (p : List qj) (h : Int) (t : Int) (u : Int) (r : Int × List qj) (c : q94 m p h t u = some r) : K8 Tryz.prog tab 172 [.hs 0 3 0 p.length,q7 h,q7 t,q7 u,.d (.fn q1F q1C)] [(0,.dat 3 (p.map Q7))] 1 (q7 r.1) [(0,.dat 3 (r.2.map Q7))] 1:=by
 unfold q94 at c;refine Kq Tryz.func172 J qh qh J<|qb<|qa J<|q9<|qf<|Qk [Qo 0,q6,Qo 0,q6,qs 0,q6,q6,q6,qs 0,q6,q6,q6,q6,q6,q6,q6] qh<|U J<|U J<|U J<|U J<|U J<|U J<|q8 c fun bn v c=>qv v J J<|Qa _ v J<|U J<|U J<|q8 c fun bo w c=>qv w J J<|Qa _ w J<|q8 c fun cg x c=>qv x J J<|Qz bn x J J J J J J J J (leb J) J<|q8 c fun ch y c=>qv y qc J<|Qz bo y J J J J J J J J (leb J) J<|qq<|U J<|O _ J<|U J<|O _ J<|qa J<|qa J<|q9<|qf<|q8 c fun z bp c=>?_;refine Qr (fun n=>n = z) (fun n=>⟨[(11,q7 n.1)],[(0,.dat 3 (n.2.map Q7))],1⟩) qc ?_ ?_
 ·refine Ql (q95 h m) (fun b=>⟨[(0,.hs 0 3 0 b.2.2.length),(1,q7 h),(4,.d (.fn q1F q1C)),(11,q7 b.1),(12,q7 b.2.1)],[(0,.dat 3 (b.2.2.map Q7))],1⟩) _ z bp (wkE [] [] [] J ⟨⟨_,J,K4 qc J qw (ltd J)⟩,qo J,qo J,qo J,qo J,trivial⟩ ⟨Qj J J,trivial⟩) ?_;intro b ci a;unfold q95 at a;refine Q6<|qf<|q8 a fun aa bq a=>?_;refine Qr (fun l=>l = aa) (fun l=>⟨[(0,.hs 0 3 0 b.2.2.length),(1,q7 h),(4,.d (.fn q1F q1C)),(11,q7 l),(12,q7 b.2.1)],[(0,.dat 3 (b.2.2.map Q7))],1⟩) qc ?_ ?_
  ·refine Ql (q96 b h m) (fun ab=>⟨[(0,.hs 0 3 0 b.2.2.length),(1,q7 h),(4,.d (.fn q1F q1C)),(11,q7 ab),(12,q7 b.2.1)],[(0,.dat 3 (b.2.2.map Q7))],1⟩) _ aa bq (wkA [] [] []) ?_;intro ab cj j;unfold q96 at j;refine qf<|qf<|Qk [q6,q6,q6,q6,qs 0,q6,q6,q6,qs 0,q6,q6,q6,q6,q6,q6,q6,q6] qh<|U J<|U J<|O _ J<|q8 j fun br f j=>?_;refine Qh 14 (fun A st=>∃ ac ad ae af ag ah ai aj ak al am an ao,st = A [(47,Q0 br),(46,ao),(45,an),(44,am),(43,al),(42,ak),(41,aj),(40,ai),(39,ah),(38,ag),(37,af),(36,ae),(35,ad),(34,ac)]) ?_ ?_
   ·refine Qg J J f (fun f=>?_) (fun f=>?_)
    ·refine U J<|U J<|U J<|q8 f fun bs ap f=>qv ap J J<|Qa _ ap J<|U J<|U J<|q8 f fun bt aq f=>qv aq J J<|Qa _ aq J<|q8 f fun bu bv f=>Yn _ (q1Ok bs bt bu bv) J J J (.inl J)<|O _ J<|O _ J<|O _ J<|q9 ?_;cases f;exact ⟨_,_,_,_,_,_,_,_,_,_,_,_,_,J⟩
    refine qd J<|qd J<|qd J<|qd J<|qd J<|qd J<|qd J<|qd J<|qd J<|qd J<|qd J<|qd J<|O _ J<|q9 ?_;cases f;exact ⟨_,_,_,_,_,_,_,_,_,_,_,_,_,J⟩
   rintro _ ⟨ac,ad,ae,af,ag,ah,ai,aj,ak,al,am,an,ao,rfl⟩;refine q9 ?_;refine qr J j (fun _ j=>?_) (fun _ j=>?_)
   ·refine qp<|Q6<|qy<|U J<|O _ J<|qa J<|qz<|Qp<|Qi<|⟨_,qt j,wkA [] [] []⟩
   refine Qf ?_;refine ⟨_,qt j,fun hm=>?_⟩;subst hm;exact ⟨_,J,wkA [] [] []⟩
  intro l hb;subst hb;refine qf<|q8 a fun ar bw a=>?_;refine Qr (fun o=>o = ar) (fun o=>⟨[(0,.hs 0 3 0 b.2.2.length),(1,q7 h),(4,.d (.fn q1F q1C)),(11,q7 l),(12,q7 o)],[(0,.dat 3 (b.2.2.map Q7))],1⟩) qc ?_ ?_
  ·refine Ql (q97 l b h m) (fun au=>⟨[(0,.hs 0 3 0 b.2.2.length),(1,q7 h),(4,.d (.fn q1F q1C)),(11,q7 l),(12,q7 au)],[(0,.dat 3 (b.2.2.map Q7))],1⟩) _ ar bw (wkA [] [] []) ?_;intro au ck k;unfold q97 at k;refine qf<|qf<|Qk [q6,q6,q6,qs 0,q6,q6,q6,qs 0,q6,q6,q6,q6,q6,q6,q6,q6] qh<|U J<|U J<|O _ J<|q8 k fun bz g k=>?_;refine Qh 13 (fun A st=>∃ av aw ax ay az ba bb bc bd be bf bg,st = A [(65,Q0 bz),(64,bg),(63,bf),(62,be),(61,bd),(60,bc),(59,bb),(58,ba),(57,az),(56,ay),(55,ax),(54,aw),(53,av)]) ?_ ?_
   ·refine Qg J J g (fun g=>?_) (fun g=>?_)
    ·refine U J<|U J<|U J<|q8 g fun ca bh g=>qv bh J J<|Qa _ bh J<|U J<|U J<|q8 g fun cb bi g=>qv bi J J<|Qa _ bi J<|q8 g fun cc cd g=>Yn _ (q1Ok ca cb cc cd) J J J (.inl J)<|O _ J<|O _ J<|q9 ?_;cases g;exact ⟨_,_,_,_,_,_,_,_,_,_,_,_,J⟩
    refine qd J<|qd J<|qd J<|qd J<|qd J<|qd J<|qd J<|qd J<|qd J<|qd J<|qd J<|O _ J<|q9 ?_;cases g;exact ⟨_,_,_,_,_,_,_,_,_,_,_,_,J⟩
   rintro _ ⟨av,aw,ax,ay,az,ba,bb,bc,bd,be,bf,bg,rfl⟩;refine q9 ?_;refine qr J k (fun _ k=>?_) (fun _ k=>?_)
   ·refine qp<|Q6<|qy<|U J<|O _ J<|qa J<|qz<|Qp<|Qi<|⟨_,qt k,wkA [] [] []⟩
   refine Qf ?_;refine ⟨_,qt k,fun hm=>?_⟩;subst hm;exact ⟨_,J,wkA [] [] []⟩
  intro o hb;subst hb;refine qf<|qb<|U J<|U J<|O _ J<|q9 ?_;refine qr J a (fun _ a=>?_) (fun _ a=>?_)
  ·refine Qf ?_;refine ⟨_,qt a,fun hm=>?_⟩;subst hm;exact ⟨_,J,wkA [] [] []⟩
  refine qp<|qf<|Qk [Qo 0,q6,Qo 0,q6,qs 0,q6,q6,q6,qs 0,q6,q6,q6,q6,q6,q6,q6] qh<|U J<|U J<|U J<|U J<|U J<|U J<|q8 a fun ce bj a=>qv bj J J<|Qa _ bj J<|U J<|U J<|q8 a fun cf bk a=>qv bk J J<|Qa _ bk J<|q8 a fun cl bl a=>qv bl J J<|Qz ce bl J J J J J J J J (leb J) J<|q8 a fun cm bm a=>qv bm qc J<|Qz cf bm J J J J J J J J (leb J) J<|qq<|U J<|O _ J<|qa J<|q9<|qy<|U J<|O _ J<|qa J<|qz<|Qp<|Qi<|⟨_,qt a,wkE [] [] [] J ⟨⟨_,J,K4 qc J qw (ltd J)⟩,qo J,qo J,qo J,qo J,trivial⟩ ⟨Qj J J,trivial⟩⟩
 intro n hb;subst hb;refine qb<|U J<|qa J<|qx ?_;obtain rfl:=qu c;exact ⟨.inr J,_,J,wkA [] [] []⟩
end Go.Proofs.YtiejlbckgihckaaGreat
