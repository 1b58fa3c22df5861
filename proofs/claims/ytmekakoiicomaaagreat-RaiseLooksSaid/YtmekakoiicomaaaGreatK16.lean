/- W_Looka -/
import Derived.Test.YtmekakoiicomaaaGreatK15
namespace Go.Proofs.YtmekakoiicomaaaGreat
open Go Go.Am Go.Sh
set_option maxHeartbeats 8000000
set_option maxRecDepth 100000
theorem qxc (d : List qk) (r : Bool) (a : q9y d = some r) : Pure Tryz.prog tab 24 [.sl 6 (d.map Qn)] (.bool r):=by
 unfold q9y at a;refine K2 Tryz.func24 J qh qh J<|qc<|qa J<|qw<|O J<|Qw J<|U _ J<|q7 a fun o b a=>?_;refine Qh 5 (fun A st=>∃ f g h j,st = A [(10,Q5 o),(9,j),(8,h),(7,g),(6,f)]) ?_ ?_
 ·refine Qi J J b (fun b=>?_) (fun b=>?_)
  ·refine O J<|Qw J<|U _ J<|U _ J<|q9 ?_;cases b;exact ⟨_,_,_,_,J⟩
  refine qb J<|qb J<|qb J<|U _ J<|q9 ?_;cases b;exact ⟨_,_,_,_,J⟩
 rintro _ ⟨f,g,h,j,rfl⟩;refine q7 a fun p c a=>?_;refine Qh 5 (fun A st=>∃ k l m n,st = A [(15,Q5 p),(14,n),(13,m),(12,l),(11,k)]) ?_ ?_
 ·refine Qi J J c (fun c=>?_) (fun c=>?_)
  ·refine qb J<|qb J<|qb J<|U _ J<|q9 ?_;cases c;exact ⟨_,_,_,_,J⟩
  refine O J<|Qw J<|U _ J<|U _ J<|q9 ?_;cases c;exact ⟨_,_,_,_,J⟩
 rintro _ ⟨k,l,m,n,rfl⟩;refine qa J<|Q2 ?_;cases a;exact Qo _ J
theorem qxl (b : List qk) (r : List qk) (a : q6t b = some r) : Pure Tryz.prog tab 25 [.sl 6 (b.map Qn)] (.sl 6 (r.map Qn)):=by
 unfold q6t at a;refine K2 Tryz.func25 J qh qh J<|qc<|qa J<|qw<|K6 _ _ J<|O J<|q7 a fun d c a=>Kl _ c J J J J J J J qj3 J J J J<|qa J<|Q2 ?_;obtain rfl:=qt a;exact finD (.inr J) J (Zn J J) (.refl _)
theorem q109 (b : List qk) (f : qk→Option Bool) (p1F : FuncId) (p1C : List DV) (p1Ok : ∀ (h : qk) (r : Bool),f h = some r→Pure Tryz.prog tab p1F ([.agg (Qn h)] ++ p1C) (.bool r)) (r : Int) (c : qeb b f = some r) : Pure Tryz.prog tab 94 [.sl 6 (b.map Qn),.fn p1F p1C] (qg r):=by
 unfold qeb at c;refine K2 Tryz.func94 J qh qh J<|qc<|qa J<|q9<|qf<|qc<|O J<|Qw J<|O J<|q9<|q7 c fun j l c=>?_;refine Qm (fun g=>.inl g = j) (fun g=>⟨[],[],0⟩) qe ?_ ?_
 ·refine Qb (q4z b f) (fun k=>⟨[(0,.d (.sl 6 (b.map Qn))),(1,.d (.fn p1F p1C)),(7,q8 (b.length : Int)),(8,q8 k)],[],0⟩) _ j l (wkA [] [] []) ?_;intro k q a;unfold q4z at a;refine qc<|U _ J<|q9<|qf ?_;refine qn J a (fun _ a=>?_) (fun _ a=>?_)
  ·refine qo<|qf<|Q6<|qc<|O J<|qa J<|qw<|O J<|O J<|O J<|q7 a fun m n a=>Qa n J<|U _ J<|q7 a fun o p a=>Kt _ (p1Ok m o p) J J J (.inl J)<|q9 ?_;refine qn J a (fun _ a=>?_) (fun _ a=>?_)
   ·refine qc<|O J<|qa J<|Q2 ?_;refine ⟨_,ql a,fun hm=>?_⟩;subst hm;cases c;exact Qo _ J
   refine qo<|Qj<|Qk<|Q0<|U _ J<|O J<|qv<|⟨_,ql a,wkA [] [] []⟩
  refine Q7 ?_;refine ⟨_,ql a,fun hm=>?_⟩;subst hm;exact ⟨_,J,wkA [] [] []⟩
 intro g hb;subst hb;refine qc<|qa J<|Q2 ?_;cases c;exact Qo _ J
theorem q105 (b : List qk) (c : qk→Option Bool) (p1F : FuncId) (p1C : List DV) (p1Ok : ∀ (d : qk) (r : Bool),c d = some r→Pure Tryz.prog tab p1F ([.agg (Qn d)] ++ p1C) (.bool r)) (r : Bool) (a : qaj b c = some r) : Pure Tryz.prog tab 56 [.sl 6 (b.map Qn),.fn p1F p1C] (.bool r):=by
 unfold qaj at a;refine K2 Tryz.func56 J qh qh J<|qc<|qa J<|qw<|O J<|O J<|q7 a fun f g a=>Q9 (q109 b c p1F p1C p1Ok f g) J<|U _ J<|qa J<|Q2 ?_;cases a;exact Qo _ J
theorem qo4 (a : K7) (r : Bool) (c : q8h a = some r) : Pure Tryz.prog tab 111 [.agg (q91 a)] (.bool r):=by
 unfold q8h at c;refine K2 Tryz.func111 J qh qh J<|qc<|K6 _ _ J<|qa J<|qw<|U _ J<|U _ J<|U _ J<|U _ J<|U _ J<|U _ J<|q69 (r:=min (min a.X a.Y) a.Z) J J (by simp only [q61];rfl)<|U _ J<|q7 c fun o b c=>?_;refine Qh 10 (fun A st=>∃ d f g h j k l m n,st = A [(20,Q5 o),(19,n),(18,m),(17,l),(16,k),(15,j),(14,h),(13,g),(12,f),(11,d)]) ?_ ?_
 ·refine Qi J J b (fun b=>?_) (fun b=>?_)
  ·refine U _ J<|U _ J<|U _ J<|U _ J<|U _ J<|U _ J<|q68 (r:=max (max a.X a.Y) a.Z) J J (by simp only [q60];rfl)<|U _ J<|U _ J<|q9 ?_;cases b;exact ⟨_,_,_,_,_,_,_,_,_,J⟩
  refine qb J<|qb J<|qb J<|qb J<|qb J<|qb J<|qb J<|qb J<|U _ J<|q9 ?_;cases b;exact ⟨_,_,_,_,_,_,_,_,_,J⟩
 rintro _ ⟨d,f,g,h,j,k,l,m,n,rfl⟩;refine qa J<|Q2 ?_;cases c;exact Qo _ J
theorem q13g (g : qk) (r : Bool) (a : qc5 g = some r) : Pure Tryz.prog tab 74 [.agg (Qn g)] (.bool r):=by
 unfold qc5 at a;refine K2 Tryz.func74 J qh qh J<|qc<|K6 _ _ J<|qa J<|qw<|U _ J<|U _ J<|U _ J<|U _ J<|U _ J<|U _ J<|U _ J<|q7 a fun c1 d a=>?_;refine Qh 9 (fun A st=>∃ h j k l m n o p,st = A [(18,Q5 c1),(17,p),(16,o),(15,n),(14,m),(13,l),(12,k),(11,j),(10,h)]) ?_ ?_
 ·refine Qi J J d (fun d=>?_) (fun d=>?_)
  ·refine U _ J<|U _ J<|U _ J<|U _ J<|U _ J<|U _ J<|U _ J<|U _ J<|q9 ?_;cases d;exact ⟨_,_,_,_,_,_,_,_,J⟩
  refine qb J<|qb J<|qb J<|qb J<|qb J<|qb J<|qb J<|U _ J<|q9 ?_;cases d;exact ⟨_,_,_,_,_,_,_,_,J⟩
 rintro _ ⟨h,j,k,l,m,n,o,p,rfl⟩;refine q7 a fun ai f a=>?_;refine Qh 9 (fun A st=>∃ q s t u v w x y,st = A [(27,Q5 ai),(26,y),(25,x),(24,w),(23,v),(22,u),(21,t),(20,s),(19,q)]) ?_ ?_
 ·refine Qi J J f (fun f=>?_) (fun f=>?_)
  ·refine U _ J<|U _ J<|U _ J<|U _ J<|U _ J<|U _ J<|U _ J<|U _ J<|q9 ?_;cases f;exact ⟨_,_,_,_,_,_,_,_,J⟩
  refine qb J<|qb J<|qb J<|qb J<|qb J<|qb J<|qb J<|U _ J<|q9 ?_;cases f;exact ⟨_,_,_,_,_,_,_,_,J⟩
 rintro _ ⟨q,s,t,u,v,w,x,y,rfl⟩;refine q7 a fun aj b a=>?_;refine Qh 5 (fun A st=>∃ z aa ab ac,st = A [(32,Q5 aj),(31,ac),(30,ab),(29,aa),(28,z)]) ?_ ?_
 ·refine Qi J J b (fun b=>?_) (fun b=>?_)
  ·refine U _ J<|U _ J<|q7 b fun ak al b=>Q9 (qo4 g.Lo ak al) J<|U _ J<|q9 ?_;cases b;exact ⟨_,_,_,_,J⟩
  refine qb J<|qb J<|qb J<|U _ J<|q9 ?_;cases b;exact ⟨_,_,_,_,J⟩
 rintro _ ⟨z,aa,ab,ac,rfl⟩;refine q7 a fun am c a=>?_;refine Qh 5 (fun A st=>∃ ad ae af ag,st = A [(37,Q5 am),(36,ag),(35,af),(34,ae),(33,ad)]) ?_ ?_
 ·refine Qi J J c (fun c=>?_) (fun c=>?_)
  ·refine U _ J<|U _ J<|q7 c fun an ao c=>Q9 (qo4 g.Hi an ao) J<|U _ J<|q9 ?_;cases c;exact ⟨_,_,_,_,J⟩
  refine qb J<|qb J<|qb J<|U _ J<|q9 ?_;cases c;exact ⟨_,_,_,_,J⟩
 rintro _ ⟨ad,ae,af,ag,rfl⟩;refine qa J<|Q2 ?_;cases a;exact Qo _ J
theorem q13a (b : qk) (r : Bool) (a : q3n b = some r) : Pure Tryz.prog tab 73 [.agg (Qn b)] (.bool r):=by
 unfold q3n at a;refine K2 Tryz.func73 J qh qh J<|qc<|K6 _ _ J<|qa J<|qw<|U _ J<|q7 a fun c d a=>Q9 (q13g b c d) J<|U _ J<|qa J<|Q2 ?_;cases a;exact Qo _ J
theorem qtj (k : Int) (r : Int) (a : q1x k = some r) : Pure Tryz.prog tab 161 [.int .u64 k] (qg r):=by
 unfold q1x at a;refine K2 Tryz.func161 J qh qh J<|qc<|qa J<|q9<|qf<|qc<|O J<|U _ J<|q9<|q7 a fun l b a=>?_;refine Y2 (fun c=>c = l) (fun c=>⟨[(0,.d (.int .u64 c.1)),(2,q8 c.2)],[],0⟩) qe ?_ ?_
 ·refine qn J b (fun _ b=>?_) (fun _ b=>?_)
  ·refine qc<|O J<|U _ J<|qa J<|q9<|Q0<|qa J<|qv ?_;obtain rfl:=qt b;exact ⟨_,J,wkA [] [] []⟩
  refine qo<|Qj ?_;obtain rfl:=qt b;exact ⟨_,J,wkA [] [] []⟩
 intro c hb;subst hb;refine qf<|qc<|O J<|U _ J<|q9<|q7 a fun m f a=>?_;refine Y2 (fun g=>g = m) (fun g=>⟨[(0,.d (.int .u64 g.1)),(2,q8 g.2)],[],0⟩) qe ?_ ?_
 ·refine qn J f (fun _ f=>?_) (fun _ f=>?_)
  ·refine qc<|O J<|U _ J<|qa J<|q9<|Q0<|O J<|U _ J<|qa J<|qv ?_;obtain rfl:=qt f;exact ⟨_,J,wkA [] [] []⟩
  refine qo<|Qj ?_;obtain rfl:=qt f;exact ⟨_,J,wkA [] [] []⟩
 intro g hb;subst hb;refine qf<|qc<|O J<|U _ J<|q9<|q7 a fun n h a=>?_;refine Y2 (fun j=>j = n) (fun j=>⟨[(0,.d (.int .u64 j.1)),(2,q8 j.2)],[],0⟩) qe ?_ ?_
 ·refine qn J h (fun _ h=>?_) (fun _ h=>?_)
  ·refine qc<|O J<|U _ J<|qa J<|q9<|Q0<|O J<|U _ J<|qa J<|qv ?_;obtain rfl:=qt h;exact ⟨_,J,wkA [] [] []⟩
  refine qo<|Qj ?_;obtain rfl:=qt h;exact ⟨_,J,wkA [] [] []⟩
 intro j hb;subst hb;refine qc<|O J<|O J<|U _ J<|q7 a fun p o a=>qvi qcd o J J J J J<|U _ J<|U _ J<|qa J<|Q2 ?_;cases a;exact Qo _ J
theorem qdi (b : Int) (r : Int) (a : Jp b = some r) : Pure Tryz.prog tab 141 [.int .u64 b] (qg r):=by
 unfold Jp at a;refine K2 Tryz.func141 J qh qh J<|qc<|qa J<|q9<|qf<|Uh J<|qo<|qc<|O J<|q7 a fun c d a=>Q9 (qtj b c d) J<|qa J<|Q2 ?_;cases a;exact Qo _ J
theorem qir (a : Int) (r : Bool) (b : q8u a = some r) : Pure Tryz.prog tab 170 [qg a] (.bool r):=by
 unfold q8u at b;refine K2 Tryz.func170 J qh qh J<|qc<|qa J<|qw<|O J<|O J<|U _ J<|qa J<|Q2 ?_;cases b;exact Qo _ J
theorem Zz (d : Int) (f : Int) (r : Bool) (a : Z5 d f = some r) : Pure Tryz.prog tab 157 [qg d,qg f] (.bool r):=by
 unfold Z5 at a;refine K2 Tryz.func157 J qh qh J<|qc<|qa J<|qw<|O J<|q7 a fun p q a=>Q9 (qir d p q) J<|q7 a fun s b a=>?_;refine Qh 5 (fun A st=>∃ g h j k,st = A [(11,Q5 s),(10,k),(9,j),(8,h),(7,g)]) ?_ ?_
 ·refine Qi J J b (fun b=>?_) (fun b=>?_)
  ·refine O J<|q7 b fun t u b=>Q9 (qir f t u) J<|U _ J<|U _ J<|q9 ?_;cases b;exact ⟨_,_,_,_,J⟩
  refine qb J<|qb J<|qb J<|U _ J<|q9 ?_;cases b;exact ⟨_,_,_,_,J⟩
 rintro _ ⟨g,h,j,k,rfl⟩;refine q7 a fun v c a=>?_;refine Qh 5 (fun A st=>∃ l m n o,st = A [(16,Q5 v),(15,o),(14,n),(13,m),(12,l)]) ?_ ?_
 ·refine Qi J J c (fun c=>?_) (fun c=>?_)
  ·refine qb J<|qb J<|qb J<|U _ J<|q9 ?_;cases c;exact ⟨_,_,_,_,J⟩
  refine O J<|O J<|U _ J<|U _ J<|q9 ?_;cases c;exact ⟨_,_,_,_,J⟩
 rintro _ ⟨l,m,n,o,rfl⟩;refine qa J<|Q2 ?_;cases a;exact Qo _ J
theorem q10p (m : List Int) (f : Int) (g : Int) (r : List Int) (k : q7i  m f g = some r) : K4 Tryz.prog tab 151 [.hs 0 1 0 m.length,q8 f,q8 g] [(0,.dat 1 (m.map (eI .i64)))] 1 (.d (.tup [])) [(0,.dat 1 (r.map (eI .i64)))] 1:=by
 unfold q7i at k;refine Kb Tryz.func151 J qh qh J<|qc<|O J<|U _ J<|qa J<|q9<|q7 k fun ai aj k=>Q6<|Qb (q7j g f) (fun h=>⟨[(0,.hs 0 1 0 h.2.length),(1,q8 f),(2,q8 g),(6,q8 h.1)],[(0,.dat 1 (h.2.map (eI .i64)))],1⟩) _ ai aj (wkA [] [] []) ?_;intro h au c;unfold q7j at c;refine qf<|qc<|O J<|O J<|U _ J<|q9 ?_;refine qn J c (fun _ c=>?_) (fun _ c=>?_)
 ·refine qo<|qf<|q7 c fun ak n c=>?_;refine Qm (fun j=>j = ak) (fun j=>⟨[(0,.hs 0 1 0 j.length),(1,q8 f),(2,q8 g),(6,q8 h.1)],[(0,.dat 1 (j.map (eI .i64)))],1⟩) qe ?_ ?_
  ·refine qc<|O J<|qa J<|q9<|q7 n fun al am n=>Q6<|Qb (q7k f) (fun l=>⟨[(0,.hs 0 1 0 l.2.length),(1,q8 f),(2,q8 g),(6,q8 h.1),(7,q8 l.1)],[(0,.dat 1 (l.2.map (eI .i64)))],1⟩) _ al am (wkA [] [] []) ?_;intro l av a;unfold q7k at a;refine qf<|qf<|Q8 [q0,q0,qu 0,q0,q0,q0,q0,qu 0,q0,q0,q0,q0,q0,q0,q0] qh<|O J<|O J<|U _ J<|q7 a fun an b a=>?_;refine Qh 12 (fun A st=>∃ o p q s t u v w x y z,st = A [(30,Q5 an),(29,z),(28,y),(27,x),(26,w),(25,v),(24,u),(23,t),(22,s),(21,q),(20,p),(19,o)]) ?_ ?_
   ·refine Qi J J b (fun b=>?_) (fun b=>?_)
    ·refine O J<|O J<|q7 b fun ao aa b=>qs aa J J<|Q4 _ aa J<|O J<|O J<|U _ J<|q7 b fun ap ab b=>qs ab J J<|Q4 _ ab J<|q7 b fun aq ar b=>Q9 (Zz ao ap aq ar) J<|U _ J<|q9 ?_;cases b;exact ⟨_,_,_,_,_,_,_,_,_,_,_,J⟩
    refine qb J<|qb J<|qb J<|qb J<|qb J<|qb J<|qb J<|qb J<|qb J<|qb J<|U _ J<|q9 ?_;cases b;exact ⟨_,_,_,_,_,_,_,_,_,_,_,J⟩
   rintro _ ⟨o,p,q,s,t,u,v,w,x,y,z,rfl⟩;refine q9 ?_;refine qn J a (fun _ a=>?_) (fun _ a=>?_)
   ·refine qo<|qf<|Q6<|Q8 [Qp 0,q0,Qp 0,q0,qu 0,q0,q0,q0,qu 0,q0,q0,q0,q0,q0,q0,q0,q0,q0] qh<|O J<|O J<|O J<|O J<|U _ J<|O J<|O J<|U _ J<|q7 a fun ac ad a=>qs ad J J<|Q4 _ ad J<|O J<|O J<|q7 a fun ae af a=>qs af J J<|Q4 _ af J<|q7 a fun aw ag a=>qs ag J J<|Qr (ds:=[qg ac]) ac ag J J J J J J J J (leb J) J<|q7 a fun ax ah a=>qs ah qe J<|Qr (ds:=[qg ae]) ae ah J J J J J J J J (leb J) J<|qv<|Qk<|Q0<|O J<|U _ J<|qa J<|qv<|⟨_,ql a,wkE [] [] [] J ⟨⟨_,J,Qz qe J Q1 (ltd J)⟩,qi J,qi J,qi J,qi J,trivial⟩ ⟨Qf J J,trivial⟩⟩
   refine Q7 ?_;refine ⟨_,ql a,fun hm=>?_⟩;subst hm;obtain rfl:=qt n;exact ⟨_,J,wkA [] [] []⟩
  intro j hb;subst hb;refine Q0<|O J<|U _ J<|qa J<|qv<|⟨_,ql c,wkA [] [] []⟩
 refine Q7 ?_;refine ⟨_,ql c,fun hm=>?_⟩;subst hm;obtain rfl:=qt k;exact ⟨.inl J,_,J,wkA [] [] []⟩
theorem qo0 (l : List Int) (m : Int) (f : Int) (g : Int) (r : List Int) (h : q59  l m f g = some r) : K4 Tryz.prog tab 165 [.hs 0 1 0 l.length,q8 m,q8 f,q8 g] [(0,.dat 1 (l.map (eI .i64)))] 1 (.d (.tup [])) [(0,.dat 1 (r.map (eI .i64)))] 1:=by
 unfold q59 at h;refine Kb Tryz.func165 J qh qh J<|qc<|O J<|qa J<|q9<|q7 h fun an ao h=>Q6<|Qb (q8d f g) (fun c=>⟨[(0,.hs 0 1 0 c.2.length),(2,q8 f),(3,q8 g),(8,q8 c.1)],[(0,.dat 1 (c.2.map (eI .i64)))],1⟩) _ an ao (wkA [] [] []) ?_;intro c bb a;unfold q8d at a;refine Q6<|qc<|O J<|U _ J<|U _ J<|qa J<|q9<|qf<|qc<|O J<|O J<|U _ J<|q9 ?_;refine qn J a (fun _ a=>?_) (fun _ a=>?_)
 ·refine Q7 ?_;refine ⟨_,ql a,fun hm=>?_⟩;subst hm;obtain rfl:=qt h;exact ⟨.inl J,_,J,wkA [] [] []⟩
 refine qo<|qf<|qf<|Q8 [q0,q0,qu 0,q0,q0,q0,q0,q0,q0,qu 0,q0,q0,q0,q0,q0,q0,q0,q0,q0,q0] qh<|O J<|U _ J<|O J<|U _ J<|q7 a fun ap b a=>?_;refine Qh 16 (fun A st=>∃ n o p q s t u v w x y z aa ab ac,st = A [(36,Q5 ap),(35,ac),(34,ab),(33,aa),(32,z),(31,y),(30,x),(29,w),(28,v),(27,u),(26,t),(25,s),(24,q),(23,p),(22,o),(21,n)]) ?_ ?_
 ·refine Qi J J b (fun b=>?_) (fun b=>?_)
  ·refine O J<|O J<|O J<|U _ J<|q7 b fun aq ad b=>qs ad J J<|Q4 _ ad J<|O J<|O J<|O J<|U _ J<|U _ J<|q7 b fun ar ae b=>qs ae J J<|Q4 _ ae J<|q7 b fun au av b=>Q9 (Zz aq ar au av) J<|U _ J<|q9 ?_;cases b;exact ⟨_,_,_,_,_,_,_,_,_,_,_,_,_,_,_,J⟩
  refine qb J<|qb J<|qb J<|qb J<|qb J<|qb J<|qb J<|qb J<|qb J<|qb J<|qb J<|qb J<|qb J<|qb J<|U _ J<|q9 ?_;cases b;exact ⟨_,_,_,_,_,_,_,_,_,_,_,_,_,_,_,J⟩
 rintro _ ⟨n,o,p,q,s,t,u,v,w,x,y,z,aa,ab,ac,rfl⟩;refine q9<|q7 a fun aw j a=>?_;refine Y2 (fun k=>k = aw) (fun k=>⟨[(0,.hs 0 1 0 c.2.length),(2,q8 f),(3,q8 g),(8,q8 c.1),(9,q8 k)],[(0,.dat 1 (c.2.map (eI .i64)))],1⟩) qe ?_ ?_
 ·refine qn J j (fun _ j=>?_) (fun _ j=>?_)
  ·refine Q0<|O J<|U _ J<|qa J<|qv ?_;obtain rfl:=qt j;exact ⟨_,J,wkA [] [] []⟩
  refine qo<|Qj ?_;obtain rfl:=qt j;exact ⟨_,J,wkA [] [] []⟩
 intro k hb;subst hb;refine qf<|qf<|Q8 [q0,q0,qu 0,q0,q0,q0,q0,q0,qu 0,q0,q0,q0,q0,q0] qh<|O J<|O J<|O J<|U _ J<|q7 a fun ax af a=>qs af J J<|Q4 _ af J<|O J<|O J<|O J<|U _ J<|q7 a fun ay ag a=>qs ag J J<|Q4 _ ag J<|q7 a fun az ba a=>Q9 (Zz ax ay az ba) J<|U _ J<|q9 ?_;refine qn J a (fun _ a=>?_) (fun _ a=>?_)
 ·refine q23 ?_;refine ⟨_,ql a,fun hm=>?_⟩;subst hm;obtain rfl:=qt h;exact ⟨.inr J,_,J,wkA [] [] []⟩
 refine qo<|qf<|Q8 [Qp 0,q0,Qp 0,q0,qu 0,q0,q0,q0,q0,q0,qu 0,q0,q0,q0,q0,q0,q0,q0,q0,q0,q0,q0,q0,q0] qh<|O J<|O J<|O J<|U _ J<|O J<|O J<|O J<|U _ J<|O J<|O J<|O J<|U _ J<|q7 a fun ah ai a=>qs ai J J<|Q4 _ ai J<|O J<|O J<|O J<|U _ J<|q7 a fun aj ak a=>qs ak J J<|Q4 _ ak J<|q7 a fun bc al a=>qs al J J<|Qr (ds:=[qg ah]) ah al J J J J J J J J (leb J) J<|q7 a fun bd am a=>qs am qe J<|Qr (ds:=[qg aj]) aj am J J J J J J J J (leb J) J<|q9<|Q0<|O J<|qa J<|qv<|Qk<|Qj<|⟨_,ql a,wkE [] [] [] J ⟨⟨_,J,Qz qe J Q1 (ltd J)⟩,qi J,qi J,qi J,trivial⟩ ⟨Qf J J,trivial⟩⟩
theorem q10m (l : List Int) (b : Int) (g : Int) (r : List Int) (h : q7f  l b g = some r) : K4 Tryz.prog tab 152 [.hs 0 1 0 l.length,q8 b,q8 g] [(0,.dat 1 (l.map (eI .i64)))] 1 (.d (.tup [])) [(0,.dat 1 (r.map (eI .i64)))] 1:=by
 unfold q7f at h;refine Kb Tryz.func152 J qh qh J<|qc<|O J<|qa J<|qw<|qa J<|qw<|O J<|O J<|U _ J<|qa J<|q9<|qf<|qc<|O J<|U _ J<|U _ J<|qa J<|q9<|q7 h fun p w h=>?_;refine Qm (fun k=>k = p) (fun k=>⟨[(0,.hs 0 1 0 k.length),(6,q8 b),(7,q8 0),(8,.d (qg (w64 (g - b))))],[(0,.dat 1 (k.map (eI .i64)))],1⟩) qe ?_ ?_
 ·refine Qb (q7g g b) (fun j=>⟨[(0,.hs 0 1 0 j.2.length),(6,q8 b),(7,q8 0),(8,.d (qg (w64 (g - b)))),(9,q8 j.1)],[(0,.dat 1 (j.2.map (eI .i64)))],1⟩) _ p w (wkA [] [] []) ?_;intro j af c;unfold q7g at c;refine qf<|qc<|O J<|U _ J<|q9 ?_;refine qn J c (fun _ c=>?_) (fun _ c=>?_)
  ·refine qo<|qf<|Q6<|Q0<|O J<|O J<|O J<|O J<|q7 c fun q x c=>q7 c fun ag y c=>?_;have z:=Kd y;refine K8 [(0,0)] [(0,0)] _ (.d (.tup [])) 1 [(0,.dat 1 (q.map (eI .i64)))] 1 (qo0 j.2 j.1 (w64 (g - b)) b q x)<|qv<|Qk<|Q0<|O J<|U _ J<|qa J<|qv<|⟨_,ql c,wkE [] [] [] J ⟨⟨_,J,Qz (by simp [z]) J Q1 (ltd J)⟩,qi J,qi J,qi J,qi J,trivial⟩ ⟨Qf J J,trivial⟩⟩
  refine Q7 ?_;refine ⟨_,ql c,fun hm=>?_⟩;subst hm;exact ⟨_,J,wkA [] [] []⟩
 intro k hb;subst hb;refine qc<|O J<|U _ J<|qa J<|q9<|q7 h fun aa ab h=>Q6<|Qb (q7h b) (fun f=>⟨[(0,.hs 0 1 0 f.2.length),(6,q8 b),(7,q8 0),(10,q8 f.1)],[(0,.dat 1 (f.2.map (eI .i64)))],1⟩) _ aa ab (wkA [] [] []) ?_;intro f ah a;unfold q7h at a;refine qf<|qc<|O J<|U _ J<|q9 ?_;refine qn J a (fun _ a=>?_) (fun _ a=>?_)
 ·refine qo<|qf<|Q6<|qf<|Q8 [Qp 0,q0,Qp 0,q0,qu 0,q0,q0,q0,qu 0,q0,q0,q0,q0,q0,q0,q0,q0,q0,q0,q0] qh<|O J<|O J<|O J<|O J<|O J<|U _ J<|O J<|O J<|O J<|U _ J<|q7 a fun m s a=>qs s J J<|Q4 _ s J<|O J<|O J<|q7 a fun n t a=>qs t J J<|Q4 _ t J<|q7 a fun ai u a=>qs u J J<|Qr (ds:=[qg m]) m u J J J J J J J J (leb J) J<|q7 a fun aj v a=>qs v qe J<|Qr (ds:=[qg n]) n v J J J J J J J J (leb J) J<|q9<|Q0<|O J<|O J<|O J<|O J<|q7 a fun o ac a=>q7 a fun ak ad a=>?_;have ae:=Kd ad;refine J5 [(0,0)] [(0,0)] [.hs 0 1 0 f.2.length,q8 0,q8 f.1,q8 b] (.d (.tup [])) [(0,.dat 1 (o.map (eI .i64)))] [(0,.dat 1 (o.map (eI .i64)))] 1 (qo0 ((f.2.set b.toNat m).set (w64 (b + f.1)).toNat n) 0 f.1 b o ac) J J J (Y7 [(0,0)] [] [] J ⟨⟨_,J,Qz qe J Q1 (ltd J)⟩,qi J,qi J,qi J,trivial⟩ ⟨Qf J J,trivial⟩) (Y7 [(0,0)] [] [] J ⟨qi J,trivial⟩ ⟨Qf J J,trivial⟩) J ⟨.inl J,trivial⟩<|qv<|Qk<|Q0<|O J<|U _ J<|qa J<|qv<|⟨_,ql a,wkE [] [] [] J ⟨⟨_,J,Qz (by simp [ae]) J Q1 (ltd J)⟩,qi J,qi J,qi J,trivial⟩ ⟨Qf J J,trivial⟩⟩
 refine Q7 ?_;refine ⟨_,ql a,fun hm=>?_⟩;subst hm;obtain rfl:=qt h;exact ⟨.inl J,_,J,wkA [] [] []⟩
theorem qhc (b : List Int) (c : Int) (f : Int) (g : Int) (r : Int × Int × Int) (a : q3m  b c f g = some r) : K4 Tryz.prog tab 187 [.d (.sl 1 (b.map (eI .i64))),q8 c,q8 f,.ref 0 1 0 0] [(0,.dat 1 [[qg g]])] 1 (.d (.tup [qg r.1,qg r.2.1])) [(0,.dat 1 [[qg r.2.2]])] 1:=by
 unfold q3m at a;refine Kb Tryz.func187 J qh qh J<|qc<|qa J<|qa J<|q9<|qf<|qf<|Q8 [q0,q0,q0,q0,q0,q0,q0,q0,q0] qh<|O J<|O J<|q7 a fun h j a=>Qa j J<|U _ J<|O J<|O J<|q7 a fun k l a=>Qa l J<|U _ J<|q7 a fun m n a=>Q9 (Zz h k m n) J<|q9 ?_;refine qn J a (fun _ a=>?_) (fun _ a=>?_)
 ·refine qc<|O J<|U _ J<|U _ J<|U _ J<|U _ J<|Qv 0 _ J<|qw<|O J<|O J<|qa J<|qa J<|Q2 ?_;obtain rfl:=qt a;exact ⟨.inr J,_,J,wkA [] [] []⟩
 refine qo<|qc<|O J<|O J<|qa J<|qa J<|Q2 ?_;obtain rfl:=qt a;exact ⟨.inr J,_,J,wkA [] [] []⟩
theorem qnx (f : List Int) (h : Int) (j : Int) (k : Int) (l : Int) (r : Int × Int) (a : q52  f h j k l = some r) : K4 Tryz.prog tab 169 [.d (.sl 1 (f.map (eI .i64))),q8 h,q8 j,q8 k,.ref 0 1 0 0] [(0,.dat 1 [[qg l]])] 1 (q8 r.1) [(0,.dat 1 [[qg r.2]])] 1:=by
 unfold q52 at a;refine Kb Tryz.func169 J qh qh J<|qc<|qa J<|qw<|O J<|O J<|O J<|O J<|q7 a fun b m a=>K8 [(0,0)] [(0,0)] _ (.d (.tup [qg b.1,qg b.2.1])) 1 [(0,.dat 1 [[qg b.2.2]])] 1 (qhc f h j l b m)<|O J<|U _ J<|U _ J<|qa J<|qa J<|qw<|O J<|O J<|O J<|O J<|q7 a fun c n a=>K8 [(0,0)] [(0,0)] _ (.d (.tup [qg c.1,qg c.2.1])) 1 [(0,.dat 1 [[qg c.2.2]])] 1 (qhc f b.2.1 k b.2.2 c n)<|O J<|U _ J<|U _ J<|qa J<|qa J<|qw<|O J<|O J<|O J<|O J<|q7 a fun g o a=>K8 [(0,0)] [(0,0)] _ (.d (.tup [qg g.1,qg g.2.1])) 1 [(0,.dat 1 [[qg g.2.2]])] 1 (qhc f b.1 c.1 c.2.2 g o)<|O J<|U _ J<|U _ J<|qa J<|qa J<|qw ?_;refine O J<|qa J<|Q2 ?_;obtain rfl:=qt a;exact ⟨.inr J,_,J,wkA [] [] []⟩
theorem qh8 (c : List Int) (a : Int) (f : Int) (r : Int × Int) (b : q3l  c a f = some r) : K4 Tryz.prog tab 168 [.d (.sl 1 (c.map (eI .i64))),q8 a,.ref 0 1 0 0] [(0,.dat 1 [[qg f]])] 1 (q8 r.1) [(0,.dat 1 [[qg r.2]])] 1:=by
 unfold q3l at b;refine Kb Tryz.func168 J qh qh J<|qc<|qa J<|qw<|O J<|O J<|U _ J<|O J<|O J<|U _ J<|O J<|q7 b fun g h b=>K8 [(0,0)] [(0,0)] _ (q8 g.1) 1 [(0,.dat 1 [[qg g.2]])] 1 (qnx c (w64 (a - 1)) a (w64 (a + 1)) f g h)<|qa J<|Q2 ?_;obtain rfl:=qt b;exact ⟨.inr J,_,J,wkA [] [] []⟩
theorem q10j (h : List Int) (g : Int) (j : Int) (r : Int × Int) (a : q7e h g j = some r) : Pure Tryz.prog tab 154 [.sl 1 (h.map (eI .i64)),qg g,qg j] (.tup [qg r.1,qg r.2]):=by
 unfold q7e at a;refine K2 Tryz.func154 J qh qh J<|qc<|qa J<|qa J<|qw<|O J<|O J<|U _ J<|qa J<|qw<|K9 J J<|qw<|O J<|O J<|U _ J<|U _ J<|U _ J<|qa J<|qw<|O J<|O J<|U _ J<|U _ J<|U _ J<|qa J<|qw<|O J<|O J<|U _ J<|U _ J<|U _ J<|qa J<|q9<|qf<|qc<|O J<|U _ J<|q9<|q7 a fun p f a=>?_;refine Y2 (fun k=>k = p) (fun k=>⟨[(9,.ref 0 1 0 0),(11,q8 k.1)],[(0,.dat 1 [[qg k.2]])],1⟩) qe ?_ ?_
 ·refine qn J f (fun _ f=>?_) (fun _ f=>?_)
  ·refine qf<|qc<|O J<|U _ J<|q9<|q7 f fun q b f=>?_;refine Y2 (fun c=>c = q) (fun c=>⟨[(0,.d (.sl 1 (h.map (eI .i64)))),(9,.ref 0 1 0 0),(10,q8 c.1),(11,q8 c.2.1),(12,q8 c.2.2.1)],[(0,.dat 1 [[qg c.2.2.2]])],1⟩) qe ?_ ?_
   ·refine qn J b (fun _ b=>?_) (fun _ b=>?_)
    ·refine qc<|O J<|O J<|q7 b fun l s b=>K8 [(0,0)] [(0,0)] _ (q8 l.1) 1 [(0,.dat 1 [[qg l.2]])] 1 (qh8 h (w64 (g + (w64 ((w64 (Int.tdiv (w64 (j - g)) 4)) * 1)))) 0 l s)<|qa J<|qw<|O J<|O J<|q7 b fun m t b=>K8 [(0,0)] [(0,0)] _ (q8 m.1) 1 [(0,.dat 1 [[qg m.2]])] 1 (qh8 h (w64 (g + (w64 ((w64 (Int.tdiv (w64 (j - g)) 4)) * 2)))) l.2 m t)<|qa J<|q9<|Q0<|O J<|O J<|q7 b fun n u b=>K8 [(0,0)] [(0,0)] _ (q8 n.1) 1 [(0,.dat 1 [[qg n.2]])] 1 (qh8 h (w64 (g + (w64 ((w64 (Int.tdiv (w64 (j - g)) 4)) * 3)))) m.2 n u)<|qa J<|qv ?_;obtain rfl:=qt b;exact ⟨_,J,wkA [(0,0)] [] []⟩
    refine qo<|Qj ?_;obtain rfl:=qt b;exact ⟨_,J,wkA [(0,0)] [] []⟩
   intro c hb;subst hb;refine Q0<|O J<|O J<|O J<|O J<|q7 f fun o v f=>K8 [(0,0)] [(0,0)] _ (q8 o.1) 1 [(0,.dat 1 [[qg o.2]])] 1 (qnx h c.1 c.2.1 c.2.2.1 c.2.2.2 o v)<|qa J<|qv ?_;obtain rfl:=qt f;exact ⟨_,J,wkA [(0,0)] [] []⟩
  refine qo<|Qj ?_;obtain rfl:=qt f;exact ⟨_,J,wkA [(0,0)] [] []⟩
 intro k hb;subst hb;refine qc<|U _ J<|q9<|Q6<|qc<|U _ J<|qa J<|q9 ?_;refine qn J a (fun _ a=>?_) (fun _ a=>?_)
 ·refine qc<|O J<|qa J<|qa J<|Q2 ?_;cases a;exact Qo _ J
 refine qc<|U _ J<|qa J<|q9 ?_;refine qn J a (fun _ a=>?_) (fun _ a=>?_)
 ·refine qc<|O J<|qa J<|qa J<|Q2 ?_;cases a;exact Qo _ J
 refine qc<|O J<|qa J<|qa J<|Q2 ?_;cases a;exact Qo _ J
theorem q117 (f : List Int) (g : Int) (h : Int) (r : List Int) (c : q8a  f g h = some r) : K4 Tryz.prog tab 155 [.hs 0 1 0 f.length,q8 g,q8 h] [(0,.dat 1 (f.map (eI .i64)))] 1 (.d (.tup [])) [(0,.dat 1 (r.map (eI .i64)))] 1:=by
 unfold q8a at c;refine Kb Tryz.func155 J qh qh J<|qc<|O J<|qa J<|qw<|O J<|U _ J<|qa J<|q9<|q7 c fun p q c=>Q6<|Qb (qbz) (fun b=>⟨[(0,.hs 0 1 0 b.2.2.length),(6,q8 b.1),(7,q8 b.2.1)],[(0,.dat 1 (b.2.2.map (eI .i64)))],1⟩) _ p q (wkA [] [] []) ?_;intro b s a;unfold qbz at a;refine qf<|qc<|O J<|O J<|U _ J<|q9 ?_;refine qn J a (fun _ a=>?_) (fun _ a=>?_)
 ·refine qo<|Q6<|qf<|Q8 [Qp 0,q0,Qp 0,q0,qu 0,q0,q0,q0,qu 0,q0,q0,q0,q0,q0,q0,q0] qh<|O J<|O J<|O J<|O J<|O J<|O J<|q7 a fun j k a=>qs k J J<|Q4 _ k J<|O J<|O J<|q7 a fun l m a=>qs m J J<|Q4 _ m J<|q7 a fun t n a=>qs n J J<|Qr (ds:=[qg j]) j n J J J J J J J J (leb J) J<|q7 a fun u o a=>qs o qe J<|Qr (ds:=[qg l]) l o J J J J J J J J (leb J) J<|qw<|O J<|U _ J<|qa J<|q9<|Q0<|O J<|U _ J<|qa J<|qv<|Qk<|Qj<|⟨_,ql a,wkE [] [] [] J ⟨⟨_,J,Qz qe J Q1 (ltd J)⟩,qi J,qi J,trivial⟩ ⟨Qf J J,trivial⟩⟩
 refine Q7 ?_;refine ⟨_,ql a,fun hm=>?_⟩;subst hm;obtain rfl:=qt c;exact ⟨.inl J,_,J,wkA [] [] []⟩
theorem q10s (u : List Int) (h : Int) (f : Int) (r : Bool × List Int) (n : q55  u h f = some r) : K4 Tryz.prog tab 156 [.hs 0 1 0 u.length,q8 h,q8 f] [(0,.dat 1 (u.map (eI .i64)))] 1 (Q5 r.1) [(0,.dat 1 (r.2.map (eI .i64)))] 1:=by
 unfold q55 at n;refine Kb Tryz.func156 J qh qh J<|qc<|qa J<|qw<|O J<|U _ J<|qa J<|q9<|qf<|qc<|qa J<|q9<|q7 n fun x bk n=>?_;refine Qm (fun q=>.inl q = x) (fun q=>⟨[],[(0,.dat 1 (q.map (eI .i64)))],1⟩) qe ?_ ?_
 ·refine Qb (q56 f h) (fun d=>⟨[(0,.hs 0 1 0 d.2.2.length),(1,q8 h),(2,q8 f),(7,q8 d.1),(8,q8 d.2.1)],[(0,.dat 1 (d.2.2.map (eI .i64)))],1⟩) _ x bk (wkA [] [] []) ?_;intro d cg j;unfold q56 at j;refine qf<|qc<|O J<|U _ J<|q9 ?_;refine qn J j (fun _ j=>?_) (fun _ j=>?_)
  ·refine qo<|qf<|q7 j fun bl a j=>?_;refine Qm (fun o=>.inl o = bl) (fun o=>⟨[(0,.hs 0 1 0 o.2.length),(1,q8 h),(2,q8 f),(7,q8 o.1),(8,q8 d.2.1)],[(0,.dat 1 (o.2.map (eI .i64)))],1⟩) qe ?_ ?_
   ·refine qf<|q7 a fun y bm a=>?_;refine Qm (fun k=>k = y) (fun k=>⟨[(0,.hs 0 1 0 d.2.2.length),(1,q8 h),(2,q8 f),(7,q8 k),(8,q8 d.2.1)],[(0,.dat 1 (d.2.2.map (eI .i64)))],1⟩) qe ?_ ?_
    ·refine Qb (q7r f d) (fun z=>⟨[(0,.hs 0 1 0 d.2.2.length),(1,q8 h),(2,q8 f),(7,q8 z),(8,q8 d.2.1)],[(0,.dat 1 (d.2.2.map (eI .i64)))],1⟩) _ y bm (wkA [] [] []) ?_;intro z ch l;unfold q7r at l;refine qf<|qf<|Q8 [q0,q0,q0,qu 0,q0,q0,q0,q0,qu 0,q0,q0,q0,q0,q0,q0,q0] qh<|O J<|O J<|U _ J<|q7 l fun bn g l=>?_;refine Qh 13 (fun A st=>∃ aa ab ac ad ae af ag ah ai aj ak al,st = A [(32,Q5 bn),(31,al),(30,ak),(29,aj),(28,ai),(27,ah),(26,ag),(25,af),(24,ae),(23,ad),(22,ac),(21,ab),(20,aa)]) ?_ ?_
     ·refine Qi J J g (fun g=>?_) (fun g=>?_)
      ·refine O J<|O J<|q7 g fun bo am g=>qs am J J<|Q4 _ am J<|O J<|O J<|U _ J<|q7 g fun bp an g=>qs an J J<|Q4 _ an J<|q7 g fun bq br g=>Q9 (Zz bo bp bq br) J<|U _ J<|U _ J<|q9 ?_;cases g;exact ⟨_,_,_,_,_,_,_,_,_,_,_,_,J⟩
      refine qb J<|qb J<|qb J<|qb J<|qb J<|qb J<|qb J<|qb J<|qb J<|qb J<|qb J<|U _ J<|q9 ?_;cases g;exact ⟨_,_,_,_,_,_,_,_,_,_,_,_,J⟩
     rintro _ ⟨aa,ab,ac,ad,ae,af,ag,ah,ai,aj,ak,al,rfl⟩;refine q9 ?_;refine qn J l (fun _ l=>?_) (fun _ l=>?_)
     ·refine qo<|Q6<|Q0<|O J<|U _ J<|qa J<|qv<|Qk<|Qj<|⟨_,ql l,wkA [] [] []⟩
     refine Q7 ?_;refine ⟨_,ql l,fun hm=>?_⟩;subst hm;exact ⟨_,J,wkA [] [] []⟩
    intro k hb;subst hb;refine qf<|qc<|O J<|O J<|U _ J<|q9 ?_;refine qn J a (fun _ a=>?_) (fun _ a=>?_)
    ·refine qc<|qa J<|Q2 ?_;obtain rfl:=qt a;refine ⟨_,ql j,fun hm=>?_⟩;subst hm;obtain rfl:=qt n;exact ⟨.inr J,_,J,wkA [] [] []⟩
    refine qo<|qf<|qc<|O J<|O J<|U _ J<|U _ J<|q9 ?_;refine qn J a (fun _ a=>?_) (fun _ a=>?_)
    ·refine qc<|qa J<|Q2 ?_;obtain rfl:=qt a;refine ⟨_,ql j,fun hm=>?_⟩;subst hm;obtain rfl:=qt n;exact ⟨.inr J,_,J,wkA [] [] []⟩
    refine qo<|qf<|Q8 [Qp 0,q0,Qp 0,q0,qu 0,q0,q0,q0,qu 0,q0,q0,q0,q0,q0,q0,q0,q0,q0] qh<|O J<|O J<|O J<|O J<|U _ J<|O J<|O J<|U _ J<|q7 a fun ao ap a=>qs ap J J<|Q4 _ ap J<|O J<|O J<|q7 a fun aq ar a=>qs ar J J<|Q4 _ ar J<|q7 a fun ci au a=>qs au J J<|Qr (ds:=[qg ao]) ao au J J J J J J J J (leb J) J<|q7 a fun cj av a=>qs av qe J<|Qr (ds:=[qg aq]) aq av J J J J J J J J (leb J) J<|q9<|qf<|qc<|O J<|O J<|U _ J<|U _ J<|q9<|q7 a fun bs m a=>?_;refine Y2 (fun p=>p = bs) (fun p=>⟨[(0,.hs 0 1 0 p.length),(1,q8 h),(2,q8 f),(7,q8 k),(8,q8 d.2.1)],[(0,.dat 1 (p.map (eI .i64)))],1⟩) qe ?_ ?_
    ·refine qn J m (fun _ m=>?_) (fun _ m=>?_)
     ·refine qc<|O J<|U _ J<|qa J<|q9<|q7 m fun bt bu m=>Q6<|Qb (qba) (fun s=>⟨[(0,.hs 0 1 0 s.2.length),(1,q8 h),(2,q8 f),(7,q8 k),(8,q8 d.2.1),(9,q8 s.1)],[(0,.dat 1 (s.2.map (eI .i64)))],1⟩) _ bt bu (wkE [] [] [] J ⟨⟨_,J,Qz qe J Q1 (ltd J)⟩,qi J,qi J,qi J,qi J,qi J,trivial⟩ ⟨Qf J J,trivial⟩) ?_;intro s ck b;unfold qba at b;refine qf<|qc<|O J<|U _ J<|q9 ?_;refine qn J b (fun _ b=>?_) (fun _ b=>?_)
      ·refine qo<|qf<|Q6<|qf<|qf<|Q8 [q0,q0,qu 0,q0,q0,q0,q0,qu 0,q0,q0,q0] qh<|O J<|O J<|q7 b fun bv aw b=>qs aw J J<|Q4 _ aw J<|O J<|O J<|U _ J<|q7 b fun bw ax b=>qs ax J J<|Q4 _ ax J<|q7 b fun bx bz b=>Q9 (Zz bv bw bx bz) J<|U _ J<|q9 ?_;refine qn J b (fun _ b=>?_) (fun _ b=>?_)
       ·refine Q7 ?_;refine ⟨_,ql b,fun hm=>?_⟩;subst hm;obtain rfl:=qt m;exact ⟨_,J,wkA [] [] []⟩
       refine qo<|Q8 [Qp 0,q0,Qp 0,q0,qu 0,q0,q0,q0,qu 0,q0,q0,q0,q0,q0,q0,q0,q0,q0] qh<|O J<|O J<|O J<|O J<|U _ J<|O J<|O J<|U _ J<|q7 b fun ay az b=>qs az J J<|Q4 _ az J<|O J<|O J<|q7 b fun v ba b=>qs ba J J<|Q4 (q8 v) ba J<|q7 b fun cl bb b=>qs bb J J<|Qr (ds:=[qg ay]) ay bb J J J J J J J J (leb J) J<|q7 b fun cm bc b=>qs bc qe J<|Qr (ds:=[qg v]) v bc J J J J J J J J (leb J) J<|qv<|Qk<|Q0<|O J<|U _ J<|qa J<|qv<|⟨_,ql b,wkE [] [] [] J ⟨⟨_,J,Qz qe J Q1 (ltd J)⟩,qi J,qi J,qi J,qi J,qi J,trivial⟩ ⟨Qf J J,trivial⟩⟩
      refine Q7 ?_;refine ⟨_,ql b,fun hm=>?_⟩;subst hm;obtain rfl:=qt m;exact ⟨_,J,wkA [] [] []⟩
     refine qo<|Qj ?_;obtain rfl:=qt m;exact ⟨_,J,wkE [] [] [] J ⟨⟨_,J,Qz qe J Q1 (ltd J)⟩,qi J,qi J,qi J,qi J,trivial⟩ ⟨Qf J J,trivial⟩⟩
    intro p hb;subst hb;refine qc<|O J<|O J<|U _ J<|U _ J<|q9 ?_;refine qn J a (fun _ a=>?_) (fun _ a=>?_)
    ·refine qc<|O J<|U _ J<|qa J<|q9<|q7 a fun ca cb a=>Q6<|Qb (q7s f k) (fun t=>⟨[(0,.hs 0 1 0 t.2.length),(1,q8 h),(2,q8 f),(7,q8 k),(8,q8 d.2.1),(10,q8 t.1)],[(0,.dat 1 (t.2.map (eI .i64)))],1⟩) _ ca cb (wkA [] [] []) ?_;intro t cn c;unfold q7s at c;refine qf<|qc<|O J<|O J<|U _ J<|q9 ?_;refine qn J c (fun _ c=>?_) (fun _ c=>?_)
     ·refine qo<|qf<|Q6<|qf<|qf<|Q8 [q0,q0,qu 0,q0,q0,q0,q0,qu 0,q0,q0,q0] qh<|O J<|O J<|q7 c fun cc bd c=>qs bd J J<|Q4 _ bd J<|O J<|O J<|U _ J<|q7 c fun cd be c=>qs be J J<|Q4 _ be J<|q7 c fun ce cf c=>Q9 (Zz cc cd ce cf) J<|U _ J<|q9 ?_;refine qn J c (fun _ c=>?_) (fun _ c=>?_)
      ·refine Q7 ?_;refine ⟨_,ql c,fun hm=>?_⟩;subst hm;obtain rfl:=qt a;exact ⟨_,J,wkA [] [] []⟩
      refine qo<|Q8 [Qp 0,q0,Qp 0,q0,qu 0,q0,q0,q0,qu 0,q0,q0,q0,q0,q0,q0,q0,q0,q0] qh<|O J<|O J<|O J<|O J<|U _ J<|O J<|O J<|U _ J<|q7 c fun bf bg c=>qs bg J J<|Q4 _ bg J<|O J<|O J<|q7 c fun w bh c=>qs bh J J<|Q4 (q8 w) bh J<|q7 c fun co bi c=>qs bi J J<|Qr (ds:=[qg bf]) bf bi J J J J J J J J (leb J) J<|q7 c fun cp bj c=>qs bj qe J<|Qr (ds:=[qg w]) w bj J J J J J J J J (leb J) J<|qv<|Qk<|Q0<|O J<|U _ J<|qa J<|qv<|⟨_,ql c,wkE [] [] [] J ⟨⟨_,J,Qz qe J Q1 (ltd J)⟩,qi J,qi J,qi J,qi J,qi J,trivial⟩ ⟨Qf J J,trivial⟩⟩
     refine Q7 ?_;refine ⟨_,ql c,fun hm=>?_⟩;subst hm;obtain rfl:=qt a;exact ⟨_,J,wkA [] [] []⟩
    refine qo<|Qj ?_;obtain rfl:=qt a;exact ⟨_,J,wkA [] [] []⟩
   intro o hb;subst hb;refine Q0<|O J<|U _ J<|qa J<|qv<|⟨_,ql j,wkA [] [] []⟩
  refine Q7 ?_;refine ⟨_,ql j,fun hm=>?_⟩;subst hm;exact ⟨_,J,wkA [] [] []⟩
 intro q hb;subst hb;refine qc<|qa J<|Q2 ?_;obtain rfl:=qt n;exact ⟨.inr J,_,J,wkA [] [] []⟩
theorem q10x (n : List Int) (g : Int) (p : Int) (q : Int) (r : Int × List Int) (c : q7t  n g p q = some r) : K4 Tryz.prog tab 158 [.hs 0 1 0 n.length,q8 g,q8 p,q8 q] [(0,.dat 1 (n.map (eI .i64)))] 1 (q8 r.1) [(0,.dat 1 (r.2.map (eI .i64)))] 1:=by
 unfold q7t at c;refine Kb Tryz.func158 J qh qh J<|qc<|qa J<|q9<|qf<|Q8 [Qp 0,q0,Qp 0,q0,qu 0,q0,q0,q0,qu 0,q0,q0,q0,q0,q0,q0,q0] qh<|O J<|O J<|O J<|O J<|O J<|O J<|q7 c fun s t c=>qs t J J<|Q4 _ t J<|O J<|O J<|q7 c fun u v c=>qs v J J<|Q4 _ v J<|q7 c fun bw w c=>qs w J J<|Qr (ds:=[qg s]) s w J J J J J J J J (leb J) J<|q7 c fun bx x c=>qs x qe J<|Qr (ds:=[qg u]) u x J J J J J J J J (leb J) J<|qw<|O J<|U _ J<|O J<|U _ J<|qa J<|qa J<|q9<|qf<|q7 c fun y bj c=>?_;refine Qm (fun l=>l = y) (fun l=>⟨[(9,q8 l.1)],[(0,.dat 1 (l.2.map (eI .i64)))],1⟩) qe ?_ ?_
 ·refine Qb (q7u g) (fun b=>⟨[(0,.hs 0 1 0 b.2.2.length),(1,q8 g),(9,q8 b.1),(10,q8 b.2.1)],[(0,.dat 1 (b.2.2.map (eI .i64)))],1⟩) _ y bj (wkE [] [] [] J ⟨⟨_,J,Qz qe J Q1 (ltd J)⟩,qi J,qi J,qi J,trivial⟩ ⟨Qf J J,trivial⟩) ?_;intro b bz a;unfold q7u at a;refine Q6<|qf<|q7 a fun z bk a=>?_;refine Qm (fun k=>k = z) (fun k=>⟨[(0,.hs 0 1 0 b.2.2.length),(1,q8 g),(9,q8 k),(10,q8 b.2.1)],[(0,.dat 1 (b.2.2.map (eI .i64)))],1⟩) qe ?_ ?_
  ·refine Qb (q7v b g) (fun aa=>⟨[(0,.hs 0 1 0 b.2.2.length),(1,q8 g),(9,q8 aa),(10,q8 b.2.1)],[(0,.dat 1 (b.2.2.map (eI .i64)))],1⟩) _ z bk (wkA [] [] []) ?_;intro aa ca h;unfold q7v at h;refine qf<|qf<|Q8 [q0,q0,q0,qu 0,q0,q0,q0,qu 0,q0,q0,q0,q0,q0,q0,q0] qh<|O J<|O J<|U _ J<|q7 h fun bl d h=>?_;refine Qh 12 (fun A st=>∃ ab ac ad ae af ag ah ai aj ak al,st = A [(43,Q5 bl),(42,al),(41,ak),(40,aj),(39,ai),(38,ah),(37,ag),(36,af),(35,ae),(34,ad),(33,ac),(32,ab)]) ?_ ?_
   ·refine Qi J J d (fun d=>?_) (fun d=>?_)
    ·refine O J<|O J<|q7 d fun bm am d=>qs am J J<|Q4 _ am J<|O J<|O J<|q7 d fun bn an d=>qs an J J<|Q4 _ an J<|q7 d fun bo bp d=>Q9 (Zz bm bn bo bp) J<|U _ J<|U _ J<|q9 ?_;cases d;exact ⟨_,_,_,_,_,_,_,_,_,_,_,J⟩
    refine qb J<|qb J<|qb J<|qb J<|qb J<|qb J<|qb J<|qb J<|qb J<|qb J<|U _ J<|q9 ?_;cases d;exact ⟨_,_,_,_,_,_,_,_,_,_,_,J⟩
   rintro _ ⟨ab,ac,ad,ae,af,ag,ah,ai,aj,ak,al,rfl⟩;refine q9 ?_;refine qn J h (fun _ h=>?_) (fun _ h=>?_)
   ·refine qo<|Q6<|Q0<|O J<|U _ J<|qa J<|qv<|Qk<|Qj<|⟨_,ql h,wkA [] [] []⟩
   refine Q7 ?_;refine ⟨_,ql h,fun hm=>?_⟩;subst hm;exact ⟨_,J,wkA [] [] []⟩
  intro k hb;subst hb;refine qf<|q7 a fun ao bq a=>?_;refine Qm (fun m=>m = ao) (fun m=>⟨[(0,.hs 0 1 0 b.2.2.length),(1,q8 g),(9,q8 k),(10,q8 m)],[(0,.dat 1 (b.2.2.map (eI .i64)))],1⟩) qe ?_ ?_
  ·refine Qb (q7w k b g) (fun ap=>⟨[(0,.hs 0 1 0 b.2.2.length),(1,q8 g),(9,q8 k),(10,q8 ap)],[(0,.dat 1 (b.2.2.map (eI .i64)))],1⟩) _ ao bq (wkA [] [] []) ?_;intro ap cb j;unfold q7w at j;refine qf<|qf<|Q8 [q0,q0,qu 0,q0,q0,q0,qu 0,q0,q0,q0,q0,q0,q0,q0] qh<|O J<|O J<|U _ J<|q7 j fun br f j=>?_;refine Qh 11 (fun A st=>∃ aq ar au av aw ax ay az ba bb,st = A [(59,Q5 br),(58,bb),(57,ba),(56,az),(55,ay),(54,ax),(53,aw),(52,av),(51,au),(50,ar),(49,aq)]) ?_ ?_
   ·refine Qi J J f (fun f=>?_) (fun f=>?_)
    ·refine O J<|O J<|q7 f fun bs bc f=>qs bc J J<|Q4 _ bc J<|O J<|O J<|q7 f fun bt bd f=>qs bd J J<|Q4 _ bd J<|q7 f fun bu bv f=>Q9 (Zz bs bt bu bv) J<|U _ J<|q9 ?_;cases f;exact ⟨_,_,_,_,_,_,_,_,_,_,J⟩
    refine qb J<|qb J<|qb J<|qb J<|qb J<|qb J<|qb J<|qb J<|qb J<|U _ J<|q9 ?_;cases f;exact ⟨_,_,_,_,_,_,_,_,_,_,J⟩
   rintro _ ⟨aq,ar,au,av,aw,ax,ay,az,ba,bb,rfl⟩;refine q9 ?_;refine qn J j (fun _ j=>?_) (fun _ j=>?_)
   ·refine qo<|Q6<|Q0<|O J<|U _ J<|qa J<|qv<|Qk<|Qj<|⟨_,ql j,wkA [] [] []⟩
   refine Q7 ?_;refine ⟨_,ql j,fun hm=>?_⟩;subst hm;exact ⟨_,J,wkA [] [] []⟩
  intro m hb;subst hb;refine qf<|qc<|O J<|O J<|U _ J<|q9 ?_;refine qn J a (fun _ a=>?_) (fun _ a=>?_)
  ·refine Q7 ?_;refine ⟨_,ql a,fun hm=>?_⟩;subst hm;exact ⟨_,J,wkA [] [] []⟩
  refine qo<|qf<|Q8 [Qp 0,q0,Qp 0,q0,qu 0,q0,q0,q0,qu 0,q0,q0,q0,q0,q0,q0,q0] qh<|O J<|O J<|O J<|O J<|O J<|O J<|q7 a fun be bf a=>qs bf J J<|Q4 _ bf J<|O J<|O J<|q7 a fun o bg a=>qs bg J J<|Q4 (q8 o) bg J<|q7 a fun cc bh a=>qs bh J J<|Qr (ds:=[qg be]) be bh J J J J J J J J (leb J) J<|q7 a fun cd bi a=>qs bi qe J<|Qr (ds:=[qg o]) o bi J J J J J J J J (leb J) J<|qw<|O J<|U _ J<|qa J<|q9<|Q0<|O J<|U _ J<|qa J<|qv<|Qk<|Qj<|⟨_,ql a,wkE [] [] [] J ⟨⟨_,J,Qz qe J Q1 (ltd J)⟩,qi J,qi J,qi J,trivial⟩ ⟨Qf J J,trivial⟩⟩
 intro l hb;subst hb;refine qc<|O J<|qa J<|Q2 ?_;obtain rfl:=qt c;exact ⟨.inr J,_,J,wkA [] [] []⟩
theorem q10y (g : List Int) (b : Int) (s : Int) (k : Int) (r : Int × Bool × List Int) (a : q7x  g b s k = some r) : K4 Tryz.prog tab 159 [.hs 0 1 0 g.length,q8 b,q8 s,q8 k] [(0,.dat 1 (g.map (eI .i64)))] 1 (.d (.tup [qg r.1,.bool r.2.1])) [(0,.dat 1 (r.2.2.map (eI .i64)))] 1:=by
 unfold q7x at a;refine Kb Tryz.func159 J qh qh J<|qc<|qa J<|qa J<|q9<|qf<|Q8 [Qp 0,q0,Qp 0,q0,qu 0,q0,q0,q0,qu 0,q0,q0,q0,q0,q0,q0,q0] qh<|O J<|O J<|O J<|O J<|O J<|O J<|q7 a fun h ao a=>qs ao J J<|Q4 (q8 h) ao J<|O J<|O J<|q7 a fun j ap a=>qs ap J J<|Q4 (q8 j) ap J<|q7 a fun fq aq a=>qs aq J J<|Qr (ds:=[qg h]) h aq J J J J J J J J (leb J) J<|q7 a fun fr ar a=>qs ar qe J<|Qr (ds:=[qg j]) j ar J J J J J J J J (leb J) J<|qw<|O J<|U (.d (qg (w64 (b + 1)))) J<|O J<|U (.d (qg (w64 (s - 1)))) J<|qa J<|qa J<|q9<|qf<|q7 a fun au fc a=>?_;refine Qm (fun l=>l = au) (fun (l : Int)=>⟨[(0,.hs 0 1 0 ((g.set b.toNat h).set k.toNat j).length),(1,q8 b),(10,q8 l),(11,.d (qg (w64 (s - 1))))],[(0,.dat 1 (((g.set b.toNat h).set k.toNat j).map (eI .i64)))],1⟩) qe ?_ ?_
 ·refine Qb (q7y s g b h k j) (fun (aa : Int)=>⟨[(0,.hs 0 1 0 ((g.set b.toNat h).set k.toNat j).length),(1,q8 b),(10,q8 aa),(11,.d (qg (w64 (s - 1))))],[(0,.dat 1 (((g.set b.toNat h).set k.toNat j).map (eI .i64)))],1⟩) (w64 (b + 1)) au fc (wkE [] [] [] J ⟨⟨_,J,Qz qe J Q1 (ltd J)⟩,qi J,qi J,qi J,trivial⟩ ⟨Qf J J,trivial⟩) ?_;intro aa fs t;unfold q7y at t;refine qf<|qf<|Q8 [q0,q0,qu 0,q0,q0,q0,qu 0,q0,q0,q0,q0,q0,q0,q0] qh<|O J<|O J<|U (.d (.bool (decide (aa≤(w64 (s - 1)))))) J<|q7 t fun fd m t=>?_;refine Qh 11 (fun A st=>∃ (av aw ax ay az ba bb bc bd be : V),st = A [(43,Q5 fd),(42,be),(41,bd),(40,bc),(39,bb),(38,ba),(37,az),(36,ay),(35,ax),(34,aw),(33,av)]) ?_ ?_
  ·refine Qi J J m (fun m=>?_) (fun m=>?_)
   ·refine O J<|O J<|q7 m fun bf bg m=>qs bg J J<|Q4 (q8 bf) bg J<|O J<|O J<|q7 m fun bh bi m=>qs bi J J<|Q4 (q8 bh) bi J<|q7 m fun bj fe m=>Q9 (Zz bf bh bj fe) J<|U (Q5 bj) J<|q9 ?_;cases m;exact ⟨_,_,_,_,_,_,_,_,_,_,J⟩
   refine qb J<|qb J<|qb J<|qb J<|qb J<|qb J<|qb J<|qb J<|qb J<|U (Q5 false) J<|q9 ?_;cases m;exact ⟨_,_,_,_,_,_,_,_,_,_,J⟩
  rintro _ ⟨av,aw,ax,ay,az,ba,bb,bc,bd,be,rfl⟩;refine q9 ?_;refine qn J t (fun _ t=>?_) (fun _ t=>?_)
  ·refine qo<|Q6<|Q0<|O J<|U (.d (qg (w64 (aa + 1)))) J<|qa J<|qv<|Qk<|Qj<|⟨_,ql t,wkA [] [] []⟩
  refine Q7 ?_;refine ⟨_,ql t,fun hm=>?_⟩;subst hm;exact ⟨_,J,wkA [] [] []⟩
 intro l hb;subst hb;refine qf<|q7 a fun bk ff a=>?_;refine Qm (fun u=>u = bk) (fun (u : Int)=>⟨[(0,.hs 0 1 0 ((g.set b.toNat h).set k.toNat j).length),(1,q8 b),(10,q8 l),(11,q8 u)],[(0,.dat 1 (((g.set b.toNat h).set k.toNat j).map (eI .i64)))],1⟩) qe ?_ ?_
 ·refine Qb (q7z l g b h k j) (fun (ab : Int)=>⟨[(0,.hs 0 1 0 ((g.set b.toNat h).set k.toNat j).length),(1,q8 b),(10,q8 l),(11,q8 ab)],[(0,.dat 1 (((g.set b.toNat h).set k.toNat j).map (eI .i64)))],1⟩) (w64 (s - 1)) bk ff (wkA [] [] []) ?_;intro ab ft v;unfold q7z at v;refine qf<|qf<|Q8 [q0,q0,q0,qu 0,q0,q0,q0,qu 0,q0,q0,q0,q0,q0,q0,q0] qh<|O J<|O J<|U (.d (.bool (decide (l≤ab)))) J<|q7 v fun fg n v=>?_;refine Qh 12 (fun A st=>∃ (bl bm bn bo bp bq br bs bt bu bv : V),st = A [(60,Q5 fg),(59,bv),(58,bu),(57,bt),(56,bs),(55,br),(54,bq),(53,bp),(52,bo),(51,bn),(50,bm),(49,bl)]) ?_ ?_
  ·refine Qi J J n (fun n=>?_) (fun n=>?_)
   ·refine O J<|O J<|q7 n fun bw bx n=>qs bx J J<|Q4 (q8 bw) bx J<|O J<|O J<|q7 n fun bz ca n=>qs ca J J<|Q4 (q8 bz) ca J<|q7 n fun ag fh n=>Q9 (Zz bw bz ag fh) J<|U (Q5 (!ag)) J<|U (Q5 (!ag)) J<|q9 ?_;cases n;exact ⟨_,_,_,_,_,_,_,_,_,_,_,J⟩
   refine qb J<|qb J<|qb J<|qb J<|qb J<|qb J<|qb J<|qb J<|qb J<|qb J<|U (Q5 false) J<|q9 ?_;cases n;exact ⟨_,_,_,_,_,_,_,_,_,_,_,J⟩
  rintro _ ⟨bl,bm,bn,bo,bp,bq,br,bs,bt,bu,bv,rfl⟩;refine q9 ?_;refine qn J v (fun _ v=>?_) (fun _ v=>?_)
  ·refine qo<|Q6<|Q0<|O J<|U (.d (qg (w64 (ab - 1)))) J<|qa J<|qv<|Qk<|Qj<|⟨_,ql v,wkA [] [] []⟩
  refine Q7 ?_;refine ⟨_,ql v,fun hm=>?_⟩;subst hm;exact ⟨_,J,wkA [] [] []⟩
 intro u hb;subst hb;refine qf<|qc<|O J<|O J<|U (.d (.bool (decide (l > u)))) J<|q9 ?_;refine qn J a (fun _ a=>?_) (fun _ a=>?_)
 ·refine qf<|Q8 [Qp 0,q0,Qp 0,q0,qu 0,q0,q0,q0,qu 0,q0,q0,q0,q0,q0,q0,q0] qh<|O J<|O J<|O J<|O J<|O J<|O J<|q7 a fun ah cb a=>qs cb J J<|Q4 (q8 ah) cb J<|O J<|O J<|q7 a fun ai cc a=>qs cc J J<|Q4 (q8 ai) cc J<|q7 a fun fu cd a=>qs cd J J<|Qr (ds:=[qg ah]) ah cd J J J J J J J J (leb J) J<|q7 a fun fv ce a=>qs ce qe J<|Qr (ds:=[qg ai]) ai ce J J J J J J J J (leb J) J<|qw<|O J<|qa J<|qa J<|Q2 ?_;obtain rfl:=qt a;exact ⟨.inr J,_,J,wkA [] [] []⟩
 refine qo<|qf<|Q8 [Qp 0,q0,Qp 0,q0,qu 0,q0,q0,q0,qu 0,q0,q0,q0,q0,q0,q0,q0] qh<|O J<|O J<|O J<|O J<|O J<|O J<|q7 a fun ac cf a=>qs cf J J<|Q4 (q8 ac) cf J<|O J<|O J<|q7 a fun ad cg a=>qs cg J J<|Q4 (q8 ad) cg J<|q7 a fun fw ch a=>qs ch J J<|Qr (ds:=[qg ac]) ac ch J J J J J J J J (leb J) J<|q7 a fun fx ci a=>qs ci qe J<|Qr (ds:=[qg ad]) ad ci J J J J J J J J (leb J) J<|qw<|O J<|U (.d (qg (w64 (l + 1)))) J<|qa J<|qw<|O J<|U (.d (qg (w64 (u - 1)))) J<|qa J<|q9<|qf<|q7 a fun cj fi a=>?_;refine Qm (fun y=>y = cj) (fun (y : Int × List Int)=>⟨[(0,.hs 0 1 0 y.2.length),(1,q8 b),(11,q8 y.1)],[(0,.dat 1 (y.2.map (eI .i64)))],1⟩) qe ?_ ?_
 ·refine Qb (q80 b) (fun (c : Int × Int × List Int)=>⟨[(0,.hs 0 1 0 c.2.2.length),(1,q8 b),(10,q8 c.1),(11,q8 c.2.1)],[(0,.dat 1 (c.2.2.map (eI .i64)))],1⟩) (w64 (l + 1),w64 (u - 1),(((g.set b.toNat h).set k.toNat j).set l.toNat ac).set u.toNat ad) cj fi (wkE [] [] [] J ⟨⟨_,J,Qz qe J Q1 (ltd J)⟩,qi J,qi J,qi J,trivial⟩ ⟨Qf J J,trivial⟩) ?_;intro c fy f;unfold q80 at f;refine Q6<|qf<|q7 f fun ck fj f=>?_;refine Qm (fun q=>q = ck) (fun (q : Int)=>⟨[(0,.hs 0 1 0 c.2.2.length),(1,q8 b),(10,q8 q),(11,q8 c.2.1)],[(0,.dat 1 (c.2.2.map (eI .i64)))],1⟩) qe ?_ ?_
  ·refine Qb (q81 c b) (fun (ae : Int)=>⟨[(0,.hs 0 1 0 c.2.2.length),(1,q8 b),(10,q8 ae),(11,q8 c.2.1)],[(0,.dat 1 (c.2.2.map (eI .i64)))],1⟩) c.1 ck fj (wkA [] [] []) ?_;intro ae fz w;unfold q81 at w;refine qf<|qf<|Q8 [q0,q0,qu 0,q0,q0,q0,qu 0,q0,q0,q0,q0,q0,q0,q0] qh<|O J<|O J<|U (.d (.bool (decide (ae≤c.2.1)))) J<|q7 w fun fk o w=>?_;refine Qh 11 (fun A st=>∃ (cl cm cn co cp cq cr cs ct cu : V),st = A [(112,Q5 fk),(111,cu),(110,ct),(109,cs),(108,cr),(107,cq),(106,cp),(105,co),(104,cn),(103,cm),(102,cl)]) ?_ ?_
   ·refine Qi J J o (fun o=>?_) (fun o=>?_)
    ·refine O J<|O J<|q7 o fun cv cw o=>qs cw J J<|Q4 (q8 cv) cw J<|O J<|O J<|q7 o fun cx cy o=>qs cy J J<|Q4 (q8 cx) cy J<|q7 o fun cz fl o=>Q9 (Zz cv cx cz fl) J<|U (Q5 cz) J<|q9 ?_;cases o;exact ⟨_,_,_,_,_,_,_,_,_,_,J⟩
    refine qb J<|qb J<|qb J<|qb J<|qb J<|qb J<|qb J<|qb J<|qb J<|U (Q5 false) J<|q9 ?_;cases o;exact ⟨_,_,_,_,_,_,_,_,_,_,J⟩
   rintro _ ⟨cl,cm,cn,co,cp,cq,cr,cs,ct,cu,rfl⟩;refine q9 ?_;refine qn J w (fun _ w=>?_) (fun _ w=>?_)
   ·refine qo<|Q6<|Q0<|O J<|U (.d (qg (w64 (ae + 1)))) J<|qa J<|qv<|Qk<|Qj<|⟨_,ql w,wkA [] [] []⟩
   refine Q7 ?_;refine ⟨_,ql w,fun hm=>?_⟩;subst hm;exact ⟨_,J,wkA [] [] []⟩
  intro q hb;subst hb;refine qf<|q7 f fun da fm f=>?_;refine Qm (fun z=>z = da) (fun (z : Int)=>⟨[(0,.hs 0 1 0 c.2.2.length),(1,q8 b),(10,q8 q),(11,q8 z)],[(0,.dat 1 (c.2.2.map (eI .i64)))],1⟩) qe ?_ ?_
  ·refine Qb (q82 q c b) (fun (af : Int)=>⟨[(0,.hs 0 1 0 c.2.2.length),(1,q8 b),(10,q8 q),(11,q8 af)],[(0,.dat 1 (c.2.2.map (eI .i64)))],1⟩) c.2.1 da fm (wkA [] [] []) ?_;intro af ga x;unfold q82 at x;refine qf<|qf<|Q8 [q0,q0,q0,qu 0,q0,q0,q0,qu 0,q0,q0,q0,q0,q0,q0,q0] qh<|O J<|O J<|U (.d (.bool (decide (q≤af)))) J<|q7 x fun fn p x=>?_;refine Qh 12 (fun A st=>∃ (dc dd de df dg dh dj dk dl dm dn : V),st = A [(129,Q5 fn),(128,dn),(127,dm),(126,dl),(125,dk),(124,dj),(123,dh),(122,dg),(121,df),(120,de),(119,dd),(118,dc)]) ?_ ?_
   ·refine Qi J J p (fun p=>?_) (fun p=>?_)
    ·refine O J<|O J<|q7 p fun dp dq p=>qs dq J J<|Q4 (q8 dp) dq J<|O J<|O J<|q7 p fun dr dt p=>qs dt J J<|Q4 (q8 dr) dt J<|q7 p fun aj fo p=>Q9 (Zz dp dr aj fo) J<|U (Q5 (!aj)) J<|U (Q5 (!aj)) J<|q9 ?_;cases p;exact ⟨_,_,_,_,_,_,_,_,_,_,_,J⟩
    refine qb J<|qb J<|qb J<|qb J<|qb J<|qb J<|qb J<|qb J<|qb J<|qb J<|U (Q5 false) J<|q9 ?_;cases p;exact ⟨_,_,_,_,_,_,_,_,_,_,_,J⟩
   rintro _ ⟨dc,dd,de,df,dg,dh,dj,dk,dl,dm,dn,rfl⟩;refine q9 ?_;refine qn J x (fun _ x=>?_) (fun _ x=>?_)
   ·refine qo<|Q6<|Q0<|O J<|U (.d (qg (w64 (af - 1)))) J<|qa J<|qv<|Qk<|Qj<|⟨_,ql x,wkA [] [] []⟩
   refine Q7 ?_;refine ⟨_,ql x,fun hm=>?_⟩;subst hm;exact ⟨_,J,wkA [] [] []⟩
  intro z hb;subst hb;refine qf<|qc<|O J<|O J<|U (.d (.bool (decide (q > z)))) J<|q9 ?_;refine qn J f (fun _ f=>?_) (fun _ f=>?_)
  ·refine Q7 ?_;refine ⟨_,ql f,fun hm=>?_⟩;subst hm;exact ⟨_,J,wkA [] [] []⟩
  refine qo<|qf<|Q8 [Qp 0,q0,Qp 0,q0,qu 0,q0,q0,q0,qu 0,q0,q0,q0,q0,q0,q0,q0] qh<|O J<|O J<|O J<|O J<|O J<|O J<|q7 f fun ak du f=>qs du J J<|Q4 (q8 ak) du J<|O J<|O J<|q7 f fun al dv f=>qs dv J J<|Q4 (q8 al) dv J<|q7 f fun gb dw f=>qs dw J J<|Qr (ds:=[qg ak]) ak dw J J J J J J J J (leb J) J<|q7 f fun gc dx f=>qs dx qe J<|Qr (ds:=[qg al]) al dx J J J J J J J J (leb J) J<|qw<|O J<|U (.d (qg (w64 (q + 1)))) J<|qa J<|q9<|Q0<|O J<|U (.d (qg (w64 (z - 1)))) J<|qa J<|qv<|Qk<|Qj<|⟨_,ql f,wkE [] [] [] J ⟨⟨_,J,Qz qe J Q1 (ltd J)⟩,qi J,qi J,qi J,trivial⟩ ⟨Qf J J,trivial⟩⟩
 intro y hb;subst hb;refine qf<|Q8 [Qp 0,q0,Qp 0,q0,qu 0,q0,q0,q0,qu 0,q0,q0,q0,q0,q0,q0,q0] qh<|O J<|O J<|O J<|O J<|O J<|O J<|q7 a fun am dy a=>qs dy J J<|Q4 (q8 am) dy J<|O J<|O J<|q7 a fun an dz a=>qs dz J J<|Q4 (q8 an) dz J<|q7 a fun gd fa a=>qs fa J J<|Qr (ds:=[qg am]) am fa J J J J J J J J (leb J) J<|q7 a fun ge fb a=>qs fb qe J<|Qr (ds:=[qg an]) an fb J J J J J J J J (leb J) J<|qw<|O J<|qa J<|qa J<|Q2 ?_;obtain rfl:=qt a;exact ⟨.inr J,_,J,wkA [] [] []⟩
theorem qh9 (b : Int) (r : Int) (a : Uk b = some r) : Pure Tryz.prog tab 166 [qg b] (.int .u64 r):=by
 unfold Uk at a;refine K2 Tryz.func166 J qh qh J<|qc<|qa J<|qw<|O J<|U _ J<|q7 a fun c d a=>Q9 (qdi (IntKind.wrap .u64 b) c d) J<|q7 a fun g f a=>qvn f J J J<|qa J<|Q2 ?_;cases a;exact Qo _ J
theorem qhd (a : Int) (r : Int) (b : Ul  a = some r) : K4 Tryz.prog tab 167 [.ref 0 1 0 0] [(0,.dat 1 [[.int .u64 a]])] 1 (.d (.int .u64 r)) [(0,.dat 1 [[.int .u64 r]])] 1:=by
 unfold Ul at b;refine Kb Tryz.func167 J qh qh J<|qc<|qa J<|q9<|qf<|Q8 [Qp 0,q0,q0,q0,qu 0,q0,q0,qu 0,q0,q0] qh<|O J<|U _ J<|U _ J<|O J<|U _ J<|U _ J<|U _ J<|U _ J<|U _ J<|Qv 0 _ J<|q9<|qf<|Q8 [Qp 0,q0,q0,q0,qu 0,q0,q0,qu 0,q0,q0] qh<|O J<|U _ J<|U _ J<|O J<|U _ J<|U _ J<|U _ J<|U _ J<|U _ J<|Qv 0 _ J<|q9<|qf<|Q8 [Qp 0,q0,q0,q0,qu 0,q0,q0,qu 0,q0,q0] qh<|O J<|U _ J<|U _ J<|O J<|U _ J<|U _ J<|U _ J<|U _ J ?_;refine U _ J<|Qv 0 _ J<|qw<|O J<|U _ J<|U _ J<|qa J<|Q2 ?_;obtain rfl:=qt b;exact ⟨.inr J,_,J,wkA [] [] []⟩
theorem q10g (m : List Int) (f : Int) (g : Int) (r : List Int) (b : q7c  m f g = some r) : K4 Tryz.prog tab 153 [.hs 0 1 0 m.length,q8 f,q8 g] [(0,.dat 1 (m.map (eI .i64)))] 1 (.d (.tup [])) [(0,.dat 1 (r.map (eI .i64)))] 1:=by
 unfold q7c at b;refine Kb Tryz.func153 J qh qh J<|qc<|O J<|O J<|U _ J<|qa J<|qw<|O J<|U _ J<|q9 ?_;refine qn J b (fun _ b=>?_) (fun _ b=>?_)
 ·refine qc<|O J<|U _ J<|K9 J J<|Qv 1 _ J<|qw<|O J<|q7 b fun j u b=>Q9 (qh9 (w64 (g - f)) j u) J<|qa J<|qw<|O J<|O J<|U _ J<|U _ J<|U _ J<|U _ J<|qa J<|q9<|q7 b fun v w b=>Q6<|Qb (q7d f g j) (fun c=>⟨[(0,.hs 0 1 0 c.2.1.length),(1,q8 f),(6,.d (qg (w64 (g - f)))),(7,.ref 1 1 0 0),(8,.d (.int .u64 j)),(9,q8 c.1)],[(0,.dat 1 (c.2.1.map (eI .i64))),(1,.dat 1 [[.int .u64 c.2.2]])],2⟩) _ v w (wkA [(1,1)] [] []) ?_;intro c z a;unfold q7d at a;refine qf<|qc<|O J<|O J<|O J<|U _ J<|U _ J<|U _ J<|U _ J<|U _ J<|q9 ?_;refine qn J a (fun _ a=>?_) (fun _ a=>?_)
  ·refine qo<|qf<|Q6<|qc<|q7 a fun k x a=>K8 [(0,1)] [(0,1),(1,0)] _ (.d (.int .u64 k)) 1 [(1,.dat 1 [[.int .u64 k]]),(0,.dat 1 (c.2.1.map (eI .i64)))] 2 (qhd c.2.2 k x)<|O J<|U _ J<|U _ J<|U _ J<|qa J<|q9<|qf<|qc<|O J<|O J<|U _ J<|q9<|q7 a fun y h a=>?_;refine Y2 (fun l=>l = y) (fun l=>⟨[(0,.hs 0 1 0 c.2.1.length),(1,q8 f),(6,.d (qg (w64 (g - f)))),(7,.ref 1 1 0 0),(8,.d (.int .u64 j)),(9,q8 c.1),(10,q8 l)],[(0,.dat 1 (c.2.1.map (eI .i64))),(1,.dat 1 [[.int .u64 k]])],2⟩) qe ?_ ?_
   ·refine qn J h (fun _ h=>?_) (fun _ h=>?_)
    ·refine Q0<|O J<|O J<|U _ J<|qa J<|qv ?_;obtain rfl:=qt h;exact ⟨_,J,wkA [(1,1)] [] []⟩
    refine qo<|Qj ?_;obtain rfl:=qt h;exact ⟨_,J,wkA [(1,1)] [] []⟩
   intro l hb;subst hb;refine Q8 [Qp 0,q0,Qp 0,q0,qu 0,q0,q0,q0,qu 0,q0,q0,q0,q0,q0,q0,q0,q0,q0,q0,q0] qh<|O J<|O J<|O J<|O J<|O J<|U _ J<|O J<|O J<|O J<|U _ J<|q7 a fun n o a=>qs o J J<|Q4 _ o J<|O J<|O J<|q7 a fun p q a=>qs q J J<|Q4 _ q J<|q7 a fun aa s a=>qs s J J<|Qr (ds:=[qg n]) n s J J J J J J J J (leb J) J<|q7 a fun ab t a=>qs t qe J<|Qr (ds:=[qg p]) p t J J J J J J J J (leb J) J<|qv<|Qk<|Q0<|O J<|U _ J<|qa J<|qv<|⟨_,ql a,wkE [(1,1)] [] [] J ⟨⟨_,J,Qz qe J Q1 (ltd J)⟩,qi J,qi J,⟨_,J,.ref J Q1 (ltd J)⟩,qi J,qi J,trivial⟩ ⟨Qf J J,Qf J J,trivial⟩⟩
  refine Q7 ?_;refine ⟨_,ql a,fun hm=>?_⟩;subst hm;obtain rfl:=qt b;exact ⟨.inl J,_,J,wkA [] [] []⟩
 refine qo<|Qj ?_;obtain rfl:=qt b;exact ⟨.inl J,_,J,wkA [] [] []⟩
theorem q113 (rec : List Int→Int→Int→Int→Option (List Int)) (hrec : ∀ (n : List Int) (p : Int) (q : Int) (s : Int) (r : List Int),rec n p q s = some r→K4 Tryz.prog tab 140 [.hs 0 1 0 n.length,q8 p,q8 q,q8 s] [(0,.dat 1 (n.map (eI .i64)))] 1 (.d (.tup [])) [(0,.dat 1 (r.map (eI .i64)))] 1) (n : List Int) (p : Int) (q : Int) (s : Int) (r : List Int) (o : q58 rec  n p q s = some r) : K4 Tryz.prog tab 140 [.hs 0 1 0 n.length,q8 p,q8 q,q8 s] [(0,.dat 1 (n.map (eI .i64)))] 1 (.d (.tup [])) [(0,.dat 1 (r.map (eI .i64)))] 1:=by
 unfold q58 at o;refine Kb Tryz.func140 J qh qh J<|qc<|qa J<|qw<|qa J<|q9<|q7 o fun az ba o=>Q6<|Qb (q57 rec) (fun b=>⟨[(0,.hs 0 1 0 b.2.2.2.2.2.length),(1,q8 b.1),(2,q8 b.2.1),(3,q8 b.2.2.1),(8,Q5 b.2.2.2.1),(9,Q5 b.2.2.2.2.1)],[(0,.dat 1 (b.2.2.2.2.2.map (eI .i64)))],1⟩) _ az ba (wkA [] [] []) ?_;intro b cm a;unfold q57 at a;refine Q6<|qc<|O J<|O J<|U _ J<|qa J<|q9<|qf<|qc<|O J<|U _ J<|q9 ?_;refine qn J a (fun _ a=>?_) (fun _ a=>?_)
 ·refine qc<|O J<|O J<|O J<|q7 a fun aa bb a=>q7 a fun cn bc a=>?_;have co:=Kd bc;refine K8 [(0,0)] [(0,0)] _ (.d (.tup [])) 1 [(0,.dat 1 (aa.map (eI .i64)))] 1 (q10p b.2.2.2.2.2 b.1 b.2.1 aa bb)<|Q2 ?_;refine ⟨_,ql a,fun hm=>?_⟩;subst hm;obtain rfl:=qt o;exact ⟨.inr J,_,J,wkA [] [] []⟩
 refine qo<|qf<|qc<|O J<|U _ J<|q9 ?_;refine qn J a (fun _ a=>?_) (fun _ a=>?_)
 ·refine qc<|O J<|O J<|O J<|q7 a fun ab bd a=>q7 a fun cp be a=>?_;have cq:=Kd be;refine K8 [(0,0)] [(0,0)] _ (.d (.tup [])) 1 [(0,.dat 1 (ab.map (eI .i64)))] 1 (q10m b.2.2.2.2.2 b.1 b.2.1 ab bd)<|Q2 ?_;refine ⟨_,ql a,fun hm=>?_⟩;subst hm;obtain rfl:=qt o;exact ⟨.inr J,_,J,wkA [] [] []⟩
 refine qo<|qf<|qc<|O J<|U _ J<|q9<|q7 a fun bf k a=>?_;refine Y2 (fun c=>c = bf) (fun c=>⟨[(0,.hs 0 1 0 c.2.length),(1,q8 b.1),(2,q8 b.2.1),(3,q8 c.1),(8,Q5 b.2.2.2.1),(9,Q5 b.2.2.2.2.1),(10,.d (qg (w64 (b.2.1 - b.1))))],[(0,.dat 1 (c.2.map (eI .i64)))],1⟩) qe ?_ ?_
 ·refine qn J k (fun _ k=>?_) (fun _ k=>?_)
  ·refine qc<|O J<|O J<|O J<|q7 k fun ac bg k=>q7 k fun cr bh k=>?_;have bi:=Kd bh;refine K8 [(0,0)] [(0,0)] _ (.d (.tup [])) 1 [(0,.dat 1 (ac.map (eI .i64)))] 1 (q10g b.2.2.2.2.2 b.1 b.2.1 ac bg)<|q9<|Q0<|O J<|U _ J<|qa J<|qv ?_;obtain rfl:=qt k;exact ⟨_,J,wkE [] [] [] J ⟨⟨_,J,Qz (by simp [bi]) J Q1 (ltd J)⟩,qi J,qi J,qi J,qi J,qi J,qi J,trivial⟩ ⟨Qf J J,trivial⟩⟩
  refine qo<|Qj ?_;obtain rfl:=qt k;exact ⟨_,J,wkA [] [] []⟩
 intro c hb;subst hb;refine qc<|O J<|O J<|O J<|q7 a fun bj bk a=>q6a [.hs 0 1 0 c.2.length,q8 b.1,q8 b.2.1] (q10j c.2 b.1 b.2.1 bj bk) J J (Jd (Zn J J) (Jd J (Jd J J))) (.inr J)<|O J<|U _ J<|U _ J<|qa J<|qa J<|q9<|qf<|qc<|O J<|U _ J<|q9<|q7 a fun bl l a=>?_;refine Y2 (fun g=>g = bl) (fun g=>⟨[(0,.hs 0 1 0 g.2.2.length),(1,q8 b.1),(2,q8 b.2.1),(3,q8 c.1),(8,Q5 b.2.2.2.1),(9,Q5 b.2.2.2.2.1),(10,.d (qg (w64 (b.2.1 - b.1)))),(11,q8 g.1),(12,q8 g.2.1)],[(0,.dat 1 (g.2.2.map (eI .i64)))],1⟩) qe ?_ ?_
 ·refine qn J l (fun _ l=>?_) (fun _ l=>?_)
  ·refine qc<|O J<|O J<|O J<|q7 l fun ad bm l=>q7 l fun cs bn l=>?_;have bo:=Kd bn;refine K8 [(0,0)] [(0,0)] _ (.d (.tup [])) 1 [(0,.dat 1 (ad.map (eI .i64)))] 1 (q117 c.2 b.1 b.2.1 ad bm)<|qw<|O J<|U _ J<|O J<|O J<|U _ J<|U _ J<|qa J<|q9<|Q0<|qa J<|qv ?_;obtain rfl:=qt l;exact ⟨_,J,wkE [] [] [] J ⟨⟨_,J,Qz (by simp [bo]) J Q1 (ltd J)⟩,qi J,qi J,qi J,qi J,qi J,qi J,qi J,qi J,trivial⟩ ⟨Qf J J,trivial⟩⟩
  refine qo<|Qj ?_;obtain rfl:=qt l;exact ⟨_,J,wkA [] [] []⟩
 intro g hb;subst hb;refine qf<|qc<|O J<|q7 a fun bp t a=>?_;refine Qh 3 (fun A st=>∃ ae af,st = A [(64,Q5 bp),(63,af),(62,ae)]) ?_ ?_
 ·refine Qi J J t (fun t=>?_) (fun t=>?_)
  ·refine O J<|U _ J<|q9 ?_;cases t;exact ⟨_,_,J⟩
  refine qb J<|U _ J<|q9 ?_;cases t;exact ⟨_,_,J⟩
 rintro _ ⟨ae,af,rfl⟩;refine q7 a fun bq u a=>?_;refine Qh 4 (fun A st=>∃ ag ah ai,st = A [(68,Q5 bq),(67,ai),(66,ah),(65,ag)]) ?_ ?_
 ·refine Qi J J u (fun u=>?_) (fun u=>?_)
  ·refine O J<|U _ J<|U _ J<|q9 ?_;cases u;exact ⟨_,_,_,J⟩
  refine qb J<|qb J<|U _ J<|q9 ?_;cases u;exact ⟨_,_,_,J⟩
 rintro _ ⟨ag,ah,ai,rfl⟩;refine q9<|q7 a fun br f a=>?_;refine Y2 (fun m=>.inl m = br) (fun m=>⟨[(0,.hs 0 1 0 m.length),(1,q8 b.1),(2,q8 b.2.1),(3,q8 c.1),(8,Q5 b.2.2.2.1),(9,Q5 b.2.2.2.2.1),(10,.d (qg (w64 (b.2.1 - b.1)))),(11,q8 g.1)],[(0,.dat 1 (m.map (eI .i64)))],1⟩) qe ?_ ?_
 ·refine qn J f (fun _ f=>?_) (fun _ f=>?_)
  ·refine qc<|O J<|O J<|O J<|q7 f fun w bs f=>q7 f fun ct bt f=>?_;have bu:=Kd bt;refine K8 [(0,0)] [(0,0)] _ (Q5 w.1) 1 [(0,.dat 1 (w.2.map (eI .i64)))] 1 (q10s g.2.2 b.1 b.2.1 w bs)<|q9 ?_;refine qn J f (fun _ f=>?_) (fun _ f=>?_)
   ·refine q23 ?_;obtain rfl:=qt f;refine ⟨_,ql a,fun hm=>?_⟩;subst hm;obtain rfl:=qt o;exact ⟨.inr J,_,J,wkA [] [] []⟩
   refine qo<|Qj ?_;obtain rfl:=qt f;exact ⟨_,J,wkE [] [] [] J ⟨⟨_,J,Qz (by simp [bu]) J Q1 (ltd J)⟩,qi J,qi J,qi J,qi J,qi J,qi J,qi J,trivial⟩ ⟨Qf J J,trivial⟩⟩
  refine qo<|Qj ?_;obtain rfl:=qt f;exact ⟨_,J,wkA [] [] []⟩
 intro m hb;subst hb;refine qf<|qf<|Q8 [q0,q0,q0,qu 0,q0,q0,q0,qu 0,q0,q0,q0,q0,q0,q0,q0] qh<|O J<|U _ J<|q7 a fun bv h a=>?_;refine Qh 13 (fun A st=>∃ aj ak al am an ao ap aq ar au av aw,st = A [(87,Q5 bv),(86,aw),(85,av),(84,au),(83,ar),(82,aq),(81,ap),(80,ao),(79,an),(78,am),(77,al),(76,ak),(75,aj)]) ?_ ?_
 ·refine Qi J J h (fun h=>?_) (fun h=>?_)
  ·refine O J<|O J<|U _ J<|q7 h fun bw ax h=>qs ax J J<|Q4 _ ax J<|O J<|O J<|q7 h fun bx ay h=>qs ay J J<|Q4 _ ay J<|q7 h fun bz ca h=>Q9 (Zz bw bx bz ca) J<|U _ J<|U _ J<|q9 ?_;cases h;exact ⟨_,_,_,_,_,_,_,_,_,_,_,_,J⟩
  refine qb J<|qb J<|qb J<|qb J<|qb J<|qb J<|qb J<|qb J<|qb J<|qb J<|qb J<|U _ J<|q9 ?_;cases h;exact ⟨_,_,_,_,_,_,_,_,_,_,_,_,J⟩
 rintro _ ⟨aj,ak,al,am,an,ao,ap,aq,ar,au,av,aw,rfl⟩;refine q9 ?_;refine qn J a (fun _ a=>?_) (fun _ a=>?_)
 ·refine qc<|O J<|O J<|O J<|O J<|q7 a fun x cb a=>q7 a fun cu cc a=>?_;have cd:=Kd cc;refine K8 [(0,0)] [(0,0)] _ (q8 x.1) 1 [(0,.dat 1 (x.2.map (eI .i64)))] 1 (q10x m b.1 b.2.1 g.1 x cb)<|qa J<|qw<|O J<|qa J<|q9<|Q7<|q28<|Qj<|⟨_,ql a,wkE [] [] [] J ⟨⟨_,J,Qz (by simp [cd]) J Q1 (ltd J)⟩,qi J,qi J,qi J,qi J,qi J,trivial⟩ ⟨Qf J J,trivial⟩⟩
 refine qo<|qc<|O J<|O J<|O J<|O J<|q7 a fun j ce a=>q7 a fun cv cf a=>?_;have v:=Kd cf;refine K8 [(0,0)] [(0,0)] _ (.d (.tup [qg j.1,.bool j.2.1])) 1 [(0,.dat 1 (j.2.2.map (eI .i64)))] 1 (q10y m b.1 b.2.1 g.1 j ce)<|O J<|U _ J<|U _ J<|qa J<|qa J<|qw<|O J<|qa J<|qw<|O J<|O J<|U _ J<|O J<|O J<|U _ J<|qa J<|qa J<|qw<|O J<|U _ J<|qa J<|qw<|O J<|O J<|U _ J<|q9 ?_;refine qn J a (fun _ a=>?_) (fun _ a=>?_)
 ·refine qc<|O J<|O J<|U _ J<|qa J<|qw<|O J<|O J<|O J<|O J<|q7 a fun y cg a=>q7 a fun cw ch a=>?_;have ci:=Kd ch;refine J5 [(0,0)] [(0,0)] [.hs 0 1 0 m.length,q8 b.1,q8 j.1,q8 c.1] (.d (.tup [])) [(0,.dat 1 (y.map (eI .i64)))] [(0,.dat 1 (y.map (eI .i64)))] 1 (hrec j.2.2 b.1 j.1 c.1 y cg) J J J (Y7 [(0,0)] [] [] J ⟨⟨_,J,Qz (by simp [v]) J Q1 (ltd J)⟩,qi J,qi J,qi J,trivial⟩ ⟨Qf J J,trivial⟩) (Y7 [(0,0)] [] [] J ⟨qi J,trivial⟩ ⟨Qf J J,trivial⟩) J ⟨.inl J,trivial⟩<|q9<|Q0<|O J<|U _ J<|qa J<|qv<|Qk<|Qj<|⟨_,ql a,wkE [] [] [] J ⟨⟨_,J,Qz (by simp [v,ci]) J Q1 (ltd J)⟩,qi J,qi J,qi J,qi J,qi J,trivial⟩ ⟨Qf J J,trivial⟩⟩
 refine qc<|O J<|O J<|U _ J<|qa J<|qw<|O J<|O J<|U _ J<|O J<|O J<|q7 a fun z cj a=>q7 a fun cx ck a=>?_;have cl:=Kd ck;refine J5 [(0,0)] [(0,0)] [.hs 0 1 0 m.length,.d (qg (w64 (j.1 + 1))),q8 b.2.1,q8 c.1] (.d (.tup [])) [(0,.dat 1 (z.map (eI .i64)))] [(0,.dat 1 (z.map (eI .i64)))] 1 (hrec j.2.2 (w64 (j.1 + 1)) b.2.1 c.1 z cj) J J J (Y7 [(0,0)] [] [] J ⟨⟨_,J,Qz (by simp [v]) J Q1 (ltd J)⟩,qi J,qi J,qi J,trivial⟩ ⟨Qf J J,trivial⟩) (Y7 [(0,0)] [] [] J ⟨qi J,trivial⟩ ⟨Qf J J,trivial⟩) J ⟨.inl J,trivial⟩<|q9<|Q0<|O J<|qa J<|qv<|Qk<|Qj<|⟨_,ql a,wkE [] [] [] J ⟨⟨_,J,Qz (by simp [v,cl]) J Q1 (ltd J)⟩,qi J,qi J,qi J,qi J,qi J,trivial⟩ ⟨Qf J J,trivial⟩⟩
theorem q114 (n : Nat) : ∀ (a : List Int) (b : Int) (c : Int) (f : Int) (r : List Int),q89 n  a b c f = some r→K4 Tryz.prog tab 140 [.hs 0 1 0 a.length,q8 b,q8 c,q8 f] [(0,.dat 1 (a.map (eI .i64)))] 1 (.d (.tup [])) [(0,.dat 1 (r.map (eI .i64)))] 1:=by
 induction n with
 | zero=>intro a b c f r g;cases g
 | succ n ih=>intro a b c f r g;exact q113 (q89 n )   ih a b c f r g
theorem qh5 (b : List Int) (r : List Int) (a : Uj  b = some r) : K4 Tryz.prog tab 119 [.hs 0 1 0 b.length] [(0,.dat 1 (b.map (eI .i64)))] 1 (.d (.tup [])) [(0,.dat 1 (r.map (eI .i64)))] 1:=by
 unfold Uj at a;refine Kb Tryz.func119 J qh qh J<|qc<|O J<|U _ J<|qa J<|q9<|Q0<|O J<|O J<|O J<|U _ J<|q7 a fun f h a=>Q9 (qdi (IntKind.wrap .u64 (b.length : Int)) f h) J<|q7 a fun g c a=>q7 a fun l j a=>?_;have m:=Kd j;obtain ⟨k,c⟩:=qdf c;refine K8 [(0,0)] [(0,0)] _ (.d (.tup [])) 1 [(0,.dat 1 (g.map (eI .i64)))] 1 (q114 k b 0 (b.length : Int) f g c)<|qv ?_;obtain rfl:=qt a;exact ⟨.inl J,_,J,wkA [] [] []⟩
theorem qh2 (d : List Int) (r : (Nat × Nat) × List Int) (c : q24  d = some r) : K4 Tryz.prog tab 120 [.hs 0 1 0 d.length] [(0,.dat 1 (d.map (eI .i64)))] 1 (.hs 0 1 r.1.1 r.1.2) [(0,.dat 1 (r.2.map (eI .i64)))] 1:=by
 unfold q24 at c;refine Kb Tryz.func120 J qh qh J<|qc<|qa J<|q9<|qf<|qc<|O J<|U _ J<|U _ J<|q9 ?_;refine qn J c (fun _ c=>?_) (fun _ c=>?_)
 ·refine qc<|O J<|qa J<|Q2 ?_;obtain rfl:=qt c;exact ⟨.inr J,_,J,wkA [] [] []⟩
 refine qo<|qf<|qc<|qa J<|q9<|q7 c fun m z c=>?_;refine Qm (fun k=>.inl k = m) (fun k=>⟨[(0,.hs 0 1 0 d.length)],[(0,.dat 1 (d.map (eI .i64)))],1⟩) qe ?_ ?_
 ·refine Qb (Jt d) (fun n=>⟨[(0,.hs 0 1 0 d.length),(3,q8 n)],[(0,.dat 1 (d.map (eI .i64)))],1⟩) _ m z (wkA [] [] []) ?_;intro n ae a;unfold Jt at a;refine qf<|qc<|O J<|O J<|U _ J<|U _ J<|q9 ?_;refine qn J a (fun _ a=>?_) (fun _ a=>?_)
  ·refine qo<|qf<|Q6<|qf<|Q8 [q0,qu 0,q0,q0,q0,q0,qu 0,q0,q0,q0] qh<|O J<|O J<|q7 a fun af o a=>qs o J J<|Q4 _ o J<|O J<|O J<|U _ J<|q7 a fun ag p a=>qs p J J<|Q4 _ p J<|U _ J<|q9 ?_;refine qn J a (fun _ a=>?_) (fun _ a=>?_)
   ·refine qc<|O J<|O J<|q7 a fun ah aa a=>q4e aa J J J J J (q3v J) (fun _=>rfl)<|qa J<|q9<|qf<|qc<|qa J<|q9<|q7 a fun q ab a=>?_;refine Qm (fun f=>f = q) (fun f=>⟨[(0,.hs 0 1 0 f.2.length),(3,q8 f.1)],[(0,.dat 1 (f.2.map (eI .i64)))],1⟩) qe ?_ ?_
    ·refine Qb (q2p) (fun g=>⟨[(0,.hs 0 1 0 g.2.2.2.length),(3,q8 g.1),(4,.hs 0 1 g.2.1.1 g.2.1.2),(5,q8 g.2.2.1)],[(0,.dat 1 (g.2.2.2.map (eI .i64)))],1⟩) _ q ab (wkA [] [] []) ?_;intro g ai h;unfold q2p at h;refine qf<|qc<|O J<|O J<|U _ J<|U _ J<|q9 ?_;refine qn J h (fun _ h=>?_) (fun _ h=>?_)
     ·refine qo<|qf<|q7 h fun ac b h=>?_;refine Qm (fun j=>j = ac) (fun j=>⟨[(0,.hs 0 1 0 j.2.2.length),(3,q8 j.1),(4,.hs 0 1 j.2.1.1 j.2.1.2),(5,q8 g.2.2.1)],[(0,.dat 1 (j.2.2.map (eI .i64)))],1⟩) qe ?_ ?_
      ·refine qf<|Q8 [q0,qu 0,q0,q0,q0,q0,qu 0,q0,q0,q0] qh<|O J<|O J<|q7 b fun aj s b=>q66 s J J J J J J<|Q4 _ (q5v s) J<|O J<|O J<|U _ J<|q7 b fun ak t b=>q66 t J J J J J J<|Q4 _ (q5v t) J<|U _ J<|q9 ?_;refine qn J b (fun _ b=>?_) (fun _ b=>?_)
       ·refine qc<|O J<|O J<|O J<|O J<|q7 b fun u v b=>q66 v J J J J J J<|Q4 _ (q5v v) J<|q7 b fun al x b=>qs x J J<|Qr (ds:=[qg u]) u x J J J J J J J J (leb J) J<|q9<|Q0<|O J<|U _ J<|qa J<|qv ?_;obtain rfl:=qt b;exact ⟨_,J,wkE [] [] [] J ⟨⟨_,J,Qz qe J Q1 (ltd J)⟩,qi J,⟨_,J,.hs J Q1 (ltd J)⟩,qi J,trivial⟩ ⟨Qf J J,trivial⟩⟩
       refine qo<|Qj ?_;obtain rfl:=qt b;exact ⟨_,J,wkA [] [] []⟩
      intro j hb;subst hb;refine Q0<|O J<|U _ J<|qa J<|qv<|⟨_,ql h,wkA [] [] []⟩
     refine Q7 ?_;refine ⟨_,ql h,fun hm=>?_⟩;subst hm;exact ⟨_,J,wkA [] [] []⟩
    intro f hb;subst hb;refine qc<|O J<|O J<|q7 a fun y l a=>q4e l J J J J J (q3v J) (fun _=>rfl)<|qlz (w:=y) (xs:=f.2) (enc:=(eI .i64)) 0 (q5i l) J J J J J J J ?_;have am:=@qcu _ f.2 y 0 (q5i l);refine qw<|O J<|O J<|q7 a fun an ad a=>q4e ad J J J J J (fun _=>rfl) (q3v J)<|qa J<|Q2 ?_;refine ⟨_,ql a,fun hm=>?_⟩;subst hm;obtain rfl:=qt c;exact ⟨.inr J,_,J,wkA [] [] []⟩
   refine qo<|Qj<|Qk<|Q0<|O J<|U _ J<|qa J<|qv<|⟨_,ql a,wkA [] [] []⟩
  refine Q7 ?_;refine ⟨_,ql a,fun hm=>?_⟩;subst hm;exact ⟨_,J,wkA [] [] []⟩
 intro k hb;subst hb;refine qc<|O J<|qa J<|Q2 ?_;obtain rfl:=qt c;exact ⟨.inr J,_,J,wkA [] [] []⟩
theorem qnu (b : List qd) (f : qd→Option Bool) (p1F : FuncId) (p1C : List DV) (p1Ok : ∀ (h : qd) (r : Bool),f h = some r→Pure Tryz.prog tab p1F ([.agg (qm h)] ++ p1C) (.bool r)) (r : Int) (c : q4x b f = some r) : Pure Tryz.prog tab 89 [.sl 4 (b.map qm),.fn p1F p1C] (qg r):=by
 unfold q4x at c;refine K2 Tryz.func89 J qh qh J<|qc<|qa J<|q9<|qf<|qc<|O J<|Qw J<|O J<|q9<|q7 c fun j l c=>?_;refine Qm (fun g=>.inl g = j) (fun g=>⟨[],[],0⟩) qe ?_ ?_
 ·refine Qb (q1c b f) (fun k=>⟨[(0,.d (.sl 4 (b.map qm))),(1,.d (.fn p1F p1C)),(7,q8 (b.length : Int)),(8,q8 k)],[],0⟩) _ j l (wkA [] [] []) ?_;intro k q a;unfold q1c at a;refine qc<|U _ J<|q9<|qf ?_;refine qn J a (fun _ a=>?_) (fun _ a=>?_)
  ·refine qo<|qf<|Q6<|qc<|O J<|qa J<|qw<|O J<|O J<|O J<|q7 a fun m n a=>Qa n J<|U _ J<|q7 a fun o p a=>Kt _ (p1Ok m o p) J J J (.inl J)<|q9 ?_;refine qn J a (fun _ a=>?_) (fun _ a=>?_)
   ·refine qc<|O J<|qa J<|Q2 ?_;refine ⟨_,ql a,fun hm=>?_⟩;subst hm;cases c;exact Qo _ J
   refine qo<|Qj<|Qk<|Q0<|U _ J<|O J<|qv<|⟨_,ql a,wkA [] [] []⟩
  refine Q7 ?_;refine ⟨_,ql a,fun hm=>?_⟩;subst hm;exact ⟨_,J,wkA [] [] []⟩
 intro g hb;subst hb;refine qc<|qa J<|Q2 ?_;cases c;exact Qo _ J
theorem q103 (b : List qd) (c : qd→Option Bool) (p1F : FuncId) (p1C : List DV) (p1Ok : ∀ (d : qd) (r : Bool),c d = some r→Pure Tryz.prog tab p1F ([.agg (qm d)] ++ p1C) (.bool r)) (r : Bool) (a : qah b c = some r) : Pure Tryz.prog tab 78 [.sl 4 (b.map qm),.fn p1F p1C] (.bool r):=by
 unfold qah at a;refine K2 Tryz.func78 J qh qh J<|qc<|qa J<|qw<|O J<|O J<|q7 a fun f g a=>Q9 (qnu b c p1F p1C p1Ok f g) J<|U _ J<|qa J<|Q2 ?_;cases a;exact Qo _ J
theorem qe0 (c : Int) (r : Bool) (b : q3d c = some r) : Pure Tryz.prog tab 107 [qg c] (.bool r):=by
 unfold q3d at b;refine K2 Tryz.func107 J qh qh J<|qc<|qa J<|qw<|O J<|U _ J<|q7 b fun h a b=>?_;refine Qh 4 (fun A st=>∃ d f g,st = A [(8,Q5 h),(7,g),(6,f),(5,d)]) ?_ ?_
 ·refine Qi J J a (fun a=>?_) (fun a=>?_)
  ·refine O J<|U _ J<|U _ J<|q9 ?_;cases a;exact ⟨_,_,_,J⟩
  refine qb J<|qb J<|U _ J<|q9 ?_;cases a;exact ⟨_,_,_,J⟩
 rintro _ ⟨d,f,g,rfl⟩;refine qa J<|Q2 ?_;cases b;exact Qo _ J
theorem qn9 (g : qd) (r : Bool) (a : q76 g = some r) : Pure Tryz.prog tab 69 [.agg (qm g)] (.bool r):=by
 unfold q76 at a;refine K2 Tryz.func69 J qh qh J<|qc<|K6 _ _ J<|qa J<|qw<|U _ J<|U _ J<|U _ J<|U _ J<|U _ J<|q7 a fun c1 h a=>?_;refine Qh 7 (fun A st=>∃ j k l m n o,st = A [(14,Q5 c1),(13,o),(12,n),(11,m),(10,l),(9,k),(8,j)]) ?_ ?_
 ·refine Qi J J h (fun h=>?_) (fun h=>?_)
  ·refine U _ J<|U _ J<|U _ J<|U _ J<|U _ J<|U _ J<|q9 ?_;cases h;exact ⟨_,_,_,_,_,_,J⟩
  refine qb J<|qb J<|qb J<|qb J<|qb J<|U _ J<|q9 ?_;cases h;exact ⟨_,_,_,_,_,_,J⟩
 rintro _ ⟨j,k,l,m,n,o,rfl⟩;refine q7 a fun ah b a=>?_;refine Qh 5 (fun A st=>∃ p q s t,st = A [(19,Q5 ah),(18,t),(17,s),(16,q),(15,p)]) ?_ ?_
 ·refine Qi J J b (fun b=>?_) (fun b=>?_)
  ·refine U _ J<|U _ J<|q7 b fun ai aj b=>Q9 (qe0 g.X0 ai aj) J<|U _ J<|q9 ?_;cases b;exact ⟨_,_,_,_,J⟩
  refine qb J<|qb J<|qb J<|U _ J<|q9 ?_;cases b;exact ⟨_,_,_,_,J⟩
 rintro _ ⟨p,q,s,t,rfl⟩;refine q7 a fun ak c a=>?_;refine Qh 5 (fun A st=>∃ u v w x,st = A [(24,Q5 ak),(23,x),(22,w),(21,v),(20,u)]) ?_ ?_
 ·refine Qi J J c (fun c=>?_) (fun c=>?_)
  ·refine U _ J<|U _ J<|q7 c fun al am c=>Q9 (qe0 g.X1 al am) J<|U _ J<|q9 ?_;cases c;exact ⟨_,_,_,_,J⟩
  refine qb J<|qb J<|qb J<|U _ J<|q9 ?_;cases c;exact ⟨_,_,_,_,J⟩
 rintro _ ⟨u,v,w,x,rfl⟩;refine q7 a fun an d a=>?_;refine Qh 5 (fun A st=>∃ y z aa ab,st = A [(29,Q5 an),(28,ab),(27,aa),(26,z),(25,y)]) ?_ ?_
 ·refine Qi J J d (fun d=>?_) (fun d=>?_)
  ·refine U _ J<|U _ J<|q7 d fun ao ap d=>Q9 (qe0 g.Y0 ao ap) J<|U _ J<|q9 ?_;cases d;exact ⟨_,_,_,_,J⟩
  refine qb J<|qb J<|qb J<|U _ J<|q9 ?_;cases d;exact ⟨_,_,_,_,J⟩
 rintro _ ⟨y,z,aa,ab,rfl⟩;refine q7 a fun aq f a=>?_;refine Qh 5 (fun A st=>∃ ac ad ae af,st = A [(34,Q5 aq),(33,af),(32,ae),(31,ad),(30,ac)]) ?_ ?_
 ·refine Qi J J f (fun f=>?_) (fun f=>?_)
  ·refine U _ J<|U _ J<|q7 f fun ar au f=>Q9 (qe0 g.Y1 ar au) J<|U _ J<|q9 ?_;cases f;exact ⟨_,_,_,_,J⟩
  refine qb J<|qb J<|qb J<|U _ J<|q9 ?_;cases f;exact ⟨_,_,_,_,J⟩
 rintro _ ⟨ac,ad,ae,af,rfl⟩;refine qa J<|Q2 ?_;cases a;exact Qo _ J
theorem qy7 (b : qd) (r : Bool) (a : q3c b = some r) : Pure Tryz.prog tab 79 [.agg (qm b)] (.bool r):=by
 unfold q3c at a;refine K2 Tryz.func79 J qh qh J<|qc<|K6 _ _ J<|qa J<|qw<|U _ J<|q7 a fun c d a=>Q9 (qn9 b c d) J<|U _ J<|qa J<|Q2 ?_;cases a;exact Qo _ J
theorem q10a (b : List qp) (f : qp→Option Bool) (p1F : FuncId) (p1C : List DV) (p1Ok : ∀ (h : qp) (r : Bool),f h = some r→Pure Tryz.prog tab p1F ([.agg (Qx h)] ++ p1C) (.bool r)) (r : Int) (c : qal b f = some r) : Pure Tryz.prog tab 128 [.sl 2 (b.map Qx),.fn p1F p1C] (qg r):=by
 unfold qal at c;refine K2 Tryz.func128 J qh qh J<|qc<|qa J<|q9<|qf<|qc<|O J<|Qw J<|O J<|q9<|q7 c fun j l c=>?_;refine Qm (fun g=>.inl g = j) (fun g=>⟨[],[],0⟩) qe ?_ ?_
 ·refine Qb (q3k b f) (fun k=>⟨[(0,.d (.sl 2 (b.map Qx))),(1,.d (.fn p1F p1C)),(7,q8 (b.length : Int)),(8,q8 k)],[],0⟩) _ j l (wkA [] [] []) ?_;intro k q a;unfold q3k at a;refine qc<|U _ J<|q9<|qf ?_;refine qn J a (fun _ a=>?_) (fun _ a=>?_)
  ·refine qo<|qf<|Q6<|qc<|O J<|qa J<|qw<|O J<|O J<|O J<|q7 a fun m n a=>Qa n J<|U _ J<|q7 a fun o p a=>Kt _ (p1Ok m o p) J J J (.inl J)<|q9 ?_;refine qn J a (fun _ a=>?_) (fun _ a=>?_)
   ·refine qc<|O J<|qa J<|Q2 ?_;refine ⟨_,ql a,fun hm=>?_⟩;subst hm;cases c;exact Qo _ J
   refine qo<|Qj<|Qk<|Q0<|U _ J<|O J<|qv<|⟨_,ql a,wkA [] [] []⟩
  refine Q7 ?_;refine ⟨_,ql a,fun hm=>?_⟩;subst hm;exact ⟨_,J,wkA [] [] []⟩
 intro g hb;subst hb;refine qc<|qa J<|Q2 ?_;cases c;exact Qo _ J
theorem q106 (b : List qp) (c : qp→Option Bool) (p1F : FuncId) (p1C : List DV) (p1Ok : ∀ (d : qp) (r : Bool),c d = some r→Pure Tryz.prog tab p1F ([.agg (Qx d)] ++ p1C) (.bool r)) (r : Bool) (a : qak b c = some r) : Pure Tryz.prog tab 97 [.sl 2 (b.map Qx),.fn p1F p1C] (.bool r):=by
 unfold qak at a;refine K2 Tryz.func97 J qh qh J<|qc<|qa J<|qw<|O J<|O J<|q7 a fun f g a=>Q9 (q10a b c p1F p1C p1Ok f g) J<|U _ J<|qa J<|Q2 ?_;cases a;exact Qo _ J
theorem q13s (d : qp) (r : Bool) (a : q3p d = some r) : Pure Tryz.prog tab 99 [.agg (Qx d)] (.bool r):=by
 unfold q3p at a;refine K2 Tryz.func99 J qh qh J<|qc<|K6 _ _ J<|qa J<|qw<|U _ J<|U _ J<|U _ J<|U _ J<|U _ J<|q7 a fun o b a=>?_;refine Qh 5 (fun A st=>∃ f g h j,st = A [(12,Q5 o),(11,j),(10,h),(9,g),(8,f)]) ?_ ?_
 ·refine Qi J J b (fun b=>?_) (fun b=>?_)
  ·refine U _ J<|U _ J<|U _ J<|U _ J<|q9 ?_;cases b;exact ⟨_,_,_,_,J⟩
  refine qb J<|qb J<|qb J<|U _ J<|q9 ?_;cases b;exact ⟨_,_,_,_,J⟩
 rintro _ ⟨f,g,h,j,rfl⟩;refine q7 a fun p c a=>?_;refine Qh 5 (fun A st=>∃ k l m n,st = A [(17,Q5 p),(16,n),(15,m),(14,l),(13,k)]) ?_ ?_
 ·refine Qi J J c (fun c=>?_) (fun c=>?_)
  ·refine U _ J<|U _ J<|U _ J<|U _ J<|q9 ?_;cases c;exact ⟨_,_,_,_,J⟩
  refine qb J<|qb J<|qb J<|U _ J<|q9 ?_;cases c;exact ⟨_,_,_,_,J⟩
 rintro _ ⟨k,l,m,n,rfl⟩;refine qa J<|Q2 ?_;cases a;exact Qo _ J
theorem q13m (b : qp) (r : Bool) (a : qee b = some r) : Pure Tryz.prog tab 98 [.agg (Qx b)] (.bool r):=by
 unfold qee at a;refine K2 Tryz.func98 J qh qh J<|qc<|K6 _ _ J<|qa J<|qw<|U _ J<|q7 a fun c d a=>Q9 (q13s b c d) J<|U _ J<|qa J<|Q2 ?_;cases a;exact Qo _ J
theorem q13o (a : qr) (b : qr) (r : Int) (c : qc9 a b = some r) : Pure Tryz.prog tab 147 [.agg (Qd a),.agg (Qd b)] (qg r):=by
 unfold qc9 at c;refine K2 Tryz.func147 J qh qh J<|qc<|K6 _ _ J<|K6 _ _ J<|qa J<|qw<|U _ J<|U _ J<|U _ J<|U _ J<|U _ J<|qa J<|Q2 ?_;cases c;exact Qo _ J
theorem q10o (k : qr→qr→Option Int) (q1F : FuncId) (q1C : List DV) (q1Ok : ∀ (p : qr) (q : qr) (r : Int),k p q = some r→Pure Tryz.prog tab q1F ([.agg (Qd p),.agg (Qd q)] ++ q1C) (qg r)) (n : List qr) (f : Int) (g : Int) (r : List qr) (l : qb1 k n f g = some r) : K4 Tryz.prog tab 179 [.hs 0 3 0 n.length,q8 f,q8 g,.d (.fn q1F q1C)] [(0,.dat 3 (n.map Qd))] 1 (.d (.tup [])) [(0,.dat 3 (r.map Qd))] 1:=by
 unfold qb1 at l;refine Kb Tryz.func179 J qh qh J<|qc<|O J<|U _ J<|qa J<|q9<|q7 l fun al am l=>Q6<|Qb (qb2 g f k) (fun h=>⟨[(0,.hs 0 3 0 h.2.length),(1,q8 f),(2,q8 g),(3,.d (.fn q1F q1C)),(8,q8 h.1)],[(0,.dat 3 (h.2.map Qd))],1⟩) _ al am (wkA [] [] []) ?_;intro h az c;unfold qb2 at c;refine qf<|qc<|O J<|O J<|U _ J<|q9 ?_;refine qn J c (fun _ c=>?_) (fun _ c=>?_)
 ·refine qo<|qf<|q7 c fun an o c=>?_;refine Qm (fun j=>j = an) (fun j=>⟨[(0,.hs 0 3 0 j.length),(1,q8 f),(2,q8 g),(3,.d (.fn q1F q1C)),(8,q8 h.1)],[(0,.dat 3 (j.map Qd))],1⟩) qe ?_ ?_
  ·refine qc<|O J<|qa J<|q9<|q7 o fun ao ap o=>Q6<|Qb (qb3 f k) (fun m=>⟨[(0,.hs 0 3 0 m.2.length),(1,q8 f),(2,q8 g),(3,.d (.fn q1F q1C)),(8,q8 h.1),(9,q8 m.1)],[(0,.dat 3 (m.2.map Qd))],1⟩) _ ao ap (wkA [] [] []) ?_;intro m ba a;unfold qb3 at a;refine qf<|qf<|Q8 [q0,q0,q0,qu 0,q0,q0,q0,q0,qu 0,q0,q0,q0,q0,q0,q0,q0,q0] qh<|O J<|O J<|U _ J<|q7 a fun aq b a=>?_;refine Qh 14 (fun A st=>∃ s t u v w x y z aa ab ac ad ae,st = A [(34,Q5 aq),(33,ae),(32,ad),(31,ac),(30,ab),(29,aa),(28,z),(27,y),(26,x),(25,w),(24,v),(23,u),(22,t),(21,s)]) ?_ ?_
   ·refine Qi J J b (fun b=>?_) (fun b=>?_)
    ·refine O J<|O J<|O J<|q7 b fun ar af b=>qs af J J<|Q4 _ af J<|O J<|O J<|U _ J<|q7 b fun au ag b=>qs ag J J<|Q4 _ ag J<|q7 b fun av aw b=>Kt _ (q1Ok ar au av aw) J J J (.inl J)<|U _ J<|U _ J<|q9 ?_;cases b;exact ⟨_,_,_,_,_,_,_,_,_,_,_,_,_,J⟩
    refine qb J<|qb J<|qb J<|qb J<|qb J<|qb J<|qb J<|qb J<|qb J<|qb J<|qb J<|qb J<|U _ J<|q9 ?_;cases b;exact ⟨_,_,_,_,_,_,_,_,_,_,_,_,_,J⟩
   rintro _ ⟨s,t,u,v,w,x,y,z,aa,ab,ac,ad,ae,rfl⟩;refine q9 ?_;refine qn J a (fun _ a=>?_) (fun _ a=>?_)
   ·refine qo<|qf<|Q6<|Q8 [Qp 0,q0,Qp 0,q0,qu 0,q0,q0,q0,qu 0,q0,q0,q0,q0,q0,q0,q0,q0,q0] qh<|O J<|O J<|O J<|O J<|U _ J<|O J<|O J<|U _ J<|q7 a fun ax ah a=>qs ah J J<|Q4 _ ah J<|O J<|O J<|q7 a fun ay ai a=>qs ai J J<|Q4 _ ai J<|q7 a fun bb aj a=>qs aj J J<|Qr ax aj J J J J J J J J (leb J) J<|q7 a fun bc ak a=>qs ak qe J<|Qr ay ak J J J J J J J J (leb J) J<|qv<|Qk<|Q0<|O J<|U _ J<|qa J<|qv<|⟨_,ql a,wkE [] [] [] J ⟨⟨_,J,Qz qe J Q1 (ltd J)⟩,qi J,qi J,qi J,qi J,qi J,trivial⟩ ⟨Qf J J,trivial⟩⟩
   refine Q7 ?_;refine ⟨_,ql a,fun hm=>?_⟩;subst hm;obtain rfl:=qt o;exact ⟨_,J,wkA [] [] []⟩
  intro j hb;subst hb;refine Q0<|O J<|U _ J<|qa J<|qv<|⟨_,ql c,wkA [] [] []⟩
 refine Q7 ?_;refine ⟨_,ql c,fun hm=>?_⟩;subst hm;obtain rfl:=qt l;exact ⟨.inl J,_,J,wkA [] [] []⟩
theorem qnz (l : qr→qr→Option Int) (q1F : FuncId) (q1C : List DV) (q1Ok : ∀ (n : qr) (o : qr) (r : Int),l n o = some r→Pure Tryz.prog tab q1F ([.agg (Qd n),.agg (Qd o)] ++ q1C) (qg r)) (m : List qr) (p : Int) (f : Int) (g : Int) (r : List qr) (h : q8c l m p f g = some r) : K4 Tryz.prog tab 191 [.hs 0 3 0 m.length,q8 p,q8 f,q8 g,.d (.fn q1F q1C)] [(0,.dat 3 (m.map Qd))] 1 (.d (.tup [])) [(0,.dat 3 (r.map Qd))] 1:=by
 unfold q8c at h;refine Kb Tryz.func191 J qh qh J<|qc<|O J<|qa J<|q9<|q7 h fun aq ar h=>Q6<|Qb (qc1 f g l) (fun c=>⟨[(0,.hs 0 3 0 c.2.length),(2,q8 f),(3,q8 g),(4,.d (.fn q1F q1C)),(10,q8 c.1)],[(0,.dat 3 (c.2.map Qd))],1⟩) _ aq ar (wkA [] [] []) ?_;intro c bg a;unfold qc1 at a;refine Q6<|qc<|O J<|U _ J<|U _ J<|qa J<|q9<|qf<|qc<|O J<|O J<|U _ J<|q9 ?_;refine qn J a (fun _ a=>?_) (fun _ a=>?_)
 ·refine Q7 ?_;refine ⟨_,ql a,fun hm=>?_⟩;subst hm;obtain rfl:=qt h;exact ⟨.inl J,_,J,wkA [] [] []⟩
 refine qo<|qf<|qf<|Q8 [q0,q0,q0,qu 0,q0,q0,q0,q0,q0,q0,qu 0,q0,q0,q0,q0,q0,q0,q0,q0,q0,q0,q0] qh<|O J<|U _ J<|O J<|U _ J<|q7 a fun au b a=>?_;refine Qh 18 (fun A st=>∃ q s t u v w x y z aa ab ac ad ae af ag ah,st = A [(40,Q5 au),(39,ah),(38,ag),(37,af),(36,ae),(35,ad),(34,ac),(33,ab),(32,aa),(31,z),(30,y),(29,x),(28,w),(27,v),(26,u),(25,t),(24,s),(23,q)]) ?_ ?_
 ·refine Qi J J b (fun b=>?_) (fun b=>?_)
  ·refine O J<|O J<|O J<|O J<|U _ J<|q7 b fun av ai b=>qs ai J J<|Q4 _ ai J<|O J<|O J<|O J<|U _ J<|U _ J<|q7 b fun aw aj b=>qs aj J J<|Q4 _ aj J<|q7 b fun ax ay b=>Kt _ (q1Ok av aw ax ay) J J J (.inl J)<|U _ J<|U _ J<|q9 ?_;cases b;exact ⟨_,_,_,_,_,_,_,_,_,_,_,_,_,_,_,_,_,J⟩
  refine qb J<|qb J<|qb J<|qb J<|qb J<|qb J<|qb J<|qb J<|qb J<|qb J<|qb J<|qb J<|qb J<|qb J<|qb J<|qb J<|U _ J<|q9 ?_;cases b;exact ⟨_,_,_,_,_,_,_,_,_,_,_,_,_,_,_,_,_,J⟩
 rintro _ ⟨q,s,t,u,v,w,x,y,z,aa,ab,ac,ad,ae,af,ag,ah,rfl⟩;refine q9<|q7 a fun az j a=>?_;refine Y2 (fun k=>k = az) (fun k=>⟨[(0,.hs 0 3 0 c.2.length),(2,q8 f),(3,q8 g),(4,.d (.fn q1F q1C)),(10,q8 c.1),(11,q8 k)],[(0,.dat 3 (c.2.map Qd))],1⟩) qe ?_ ?_
 ·refine qn J j (fun _ j=>?_) (fun _ j=>?_)
  ·refine Q0<|O J<|U _ J<|qa J<|qv ?_;obtain rfl:=qt j;exact ⟨_,J,wkA [] [] []⟩
  refine qo<|Qj ?_;obtain rfl:=qt j;exact ⟨_,J,wkA [] [] []⟩
 intro k hb;subst hb;refine qf<|qf<|Q8 [q0,q0,q0,qu 0,q0,q0,q0,q0,q0,qu 0,q0,q0,q0,q0,q0,q0] qh<|O J<|O J<|O J<|O J<|U _ J<|q7 a fun ba ak a=>qs ak J J<|Q4 _ ak J<|O J<|O J<|O J<|U _ J<|q7 a fun bb al a=>qs al J J<|Q4 _ al J<|q7 a fun bc bd a=>Kt _ (q1Ok ba bb bc bd) J J J (.inl J)<|U _ J<|U _ J<|q9 ?_;refine qn J a (fun _ a=>?_) (fun _ a=>?_)
 ·refine q23 ?_;refine ⟨_,ql a,fun hm=>?_⟩;subst hm;obtain rfl:=qt h;exact ⟨.inr J,_,J,wkA [] [] []⟩
 refine qo<|qf<|Q8 [Qp 0,q0,Qp 0,q0,qu 0,q0,q0,q0,q0,q0,qu 0,q0,q0,q0,q0,q0,q0,q0,q0,q0,q0,q0,q0,q0] qh<|O J<|O J<|O J<|U _ J<|O J<|O J<|O J<|U _ J<|O J<|O J<|O J<|U _ J<|q7 a fun be am a=>qs am J J<|Q4 _ am J<|O J<|O J<|O J<|U _ J<|q7 a fun bf an a=>qs an J J<|Q4 _ an J<|q7 a fun bh ao a=>qs ao J J<|Qr be ao J J J J J J J J (leb J) J<|q7 a fun bi ap a=>qs ap qe J<|Qr bf ap J J J J J J J J (leb J) J<|q9<|Q0<|O J<|qa J<|qv<|Qk<|Qj<|⟨_,ql a,wkE [] [] [] J ⟨⟨_,J,Qz qe J Q1 (ltd J)⟩,qi J,qi J,qi J,qi J,trivial⟩ ⟨Qf J J,trivial⟩⟩
theorem q10l (g : qr→qr→Option Int) (q1F : FuncId) (q1C : List DV) (q1Ok : ∀ (o : qr) (p : qr) (r : Int),g o p = some r→Pure Tryz.prog tab q1F ([.agg (Qd o),.agg (Qd p)] ++ q1C) (qg r)) (m : List qr) (b : Int) (h : Int) (r : List qr) (j : qav g m b h = some r) : K4 Tryz.prog tab 180 [.hs 0 3 0 m.length,q8 b,q8 h,.d (.fn q1F q1C)] [(0,.dat 3 (m.map Qd))] 1 (.d (.tup [])) [(0,.dat 3 (r.map Qd))] 1:=by
 unfold qav at j;refine Kb Tryz.func180 J qh qh J<|qc<|O J<|qa J<|qw<|qa J<|qw<|O J<|O J<|U _ J<|qa J<|q9<|qf<|qc<|O J<|U _ J<|U _ J<|qa J<|q9<|q7 j fun q z j=>?_;refine Qm (fun l=>l = q) (fun l=>⟨[(0,.hs 0 3 0 l.length),(3,.d (.fn q1F q1C)),(8,q8 b),(9,q8 0),(10,.d (qg (w64 (h - b))))],[(0,.dat 3 (l.map Qd))],1⟩) qe ?_ ?_
 ·refine Qb (qaw g h b) (fun k=>⟨[(0,.hs 0 3 0 k.2.length),(3,.d (.fn q1F q1C)),(8,q8 b),(9,q8 0),(10,.d (qg (w64 (h - b)))),(11,q8 k.1)],[(0,.dat 3 (k.2.map Qd))],1⟩) _ q z (wkA [] [] []) ?_;intro k ai c;unfold qaw at c;refine qf<|qc<|O J<|U _ J<|q9 ?_;refine qn J c (fun _ c=>?_) (fun _ c=>?_)
  ·refine qo<|qf<|Q6<|Q0<|O J<|O J<|O J<|O J<|O J<|q7 c fun s aa c=>q7 c fun aj ab c=>?_;have ac:=Kd ab;refine K8 [(0,0)] [(0,0)] _ (.d (.tup [])) 1 [(0,.dat 3 (s.map Qd))] 1 (qnz g q1F q1C q1Ok k.2 k.1 (w64 (h - b)) b s aa)<|qv<|Qk<|Q0<|O J<|U _ J<|qa J<|qv<|⟨_,ql c,wkE [] [] [] J ⟨⟨_,J,Qz (by simp [ac]) J Q1 (ltd J)⟩,qi J,qi J,qi J,qi J,qi J,trivial⟩ ⟨Qf J J,trivial⟩⟩
  refine Q7 ?_;refine ⟨_,ql c,fun hm=>?_⟩;subst hm;exact ⟨_,J,wkA [] [] []⟩
 intro l hb;subst hb;refine qc<|O J<|U _ J<|qa J<|q9<|q7 j fun ad ae j=>Q6<|Qb (qax b g) (fun f=>⟨[(0,.hs 0 3 0 f.2.length),(3,.d (.fn q1F q1C)),(8,q8 b),(9,q8 0),(12,q8 f.1)],[(0,.dat 3 (f.2.map Qd))],1⟩) _ ad ae (wkA [] [] []) ?_;intro f ak a;unfold qax at a;refine qf<|qc<|O J<|U _ J<|q9 ?_;refine qn J a (fun _ a=>?_) (fun _ a=>?_)
 ·refine qo<|qf<|Q6<|qf<|Q8 [Qp 0,q0,Qp 0,q0,qu 0,q0,q0,q0,qu 0,q0,q0,q0,q0,q0,q0,q0,q0,q0,q0,q0] qh<|O J<|O J<|O J<|O J<|O J<|U _ J<|O J<|O J<|O J<|U _ J<|q7 a fun t u a=>qs u J J<|Q4 _ u J<|O J<|O J<|q7 a fun v w a=>qs w J J<|Q4 _ w J<|q7 a fun al x a=>qs x J J<|Qr t x J J J J J J J J (leb J) J<|q7 a fun am y a=>qs y qe J<|Qr v y J J J J J J J J (leb J) J<|q9<|Q0<|O J<|O J<|O J<|O J<|O J<|q7 a fun n af a=>q7 a fun an ag a=>?_;have ah:=Kd ag;refine J5 [(0,0)] [(0,0)] [.hs 0 3 0 f.2.length,q8 0,q8 f.1,q8 b,.d (.fn q1F q1C)] (.d (.tup [])) [(0,.dat 3 (n.map Qd))] [(0,.dat 3 (n.map Qd))] 1 (qnz g q1F q1C q1Ok ((f.2.set b.toNat t).set (w64 (b + f.1)).toNat v) 0 f.1 b n af) J J J (Y7 [(0,0)] [] [] J ⟨⟨_,J,Qz qe J Q1 (ltd J)⟩,qi J,qi J,qi J,qi J,trivial⟩ ⟨Qf J J,trivial⟩) (Y7 [(0,0)] [] [] J ⟨qi J,trivial⟩ ⟨Qf J J,trivial⟩) J ⟨.inl J,trivial⟩<|qv<|Qk<|Q0<|O J<|U _ J<|qa J<|qv<|⟨_,ql a,wkE [] [] [] J ⟨⟨_,J,Qz (by simp [ah]) J Q1 (ltd J)⟩,qi J,qi J,qi J,qi J,trivial⟩ ⟨Qf J J,trivial⟩⟩
 refine Q7 ?_;refine ⟨_,ql a,fun hm=>?_⟩;subst hm;obtain rfl:=qt j;exact ⟨.inl J,_,J,wkA [] [] []⟩
theorem qhb (b : qr→qr→Option Int) (q1F : FuncId) (q1C : List DV) (q1Ok : ∀ (c : qr) (f : qr) (r : Int),b c f = some r→Pure Tryz.prog tab q1F ([.agg (Qd c),.agg (Qd f)] ++ q1C) (qg r)) (g : List qr) (h : Int) (j : Int) (k : Int) (r : Int × Int × Int) (a : q54 b g h j k = some r) : K4 Tryz.prog tab 195 [.d (.sl 3 (g.map Qd)),q8 h,q8 j,.ref 0 1 0 0,.d (.fn q1F q1C)] [(0,.dat 1 [[qg k]])] 1 (.d (.tup [qg r.1,qg r.2.1])) [(0,.dat 1 [[qg r.2.2]])] 1:=by
 unfold q54 at a;refine Kb Tryz.func195 J qh qh J<|qc<|qa J<|qa J<|q9<|qf<|qf<|Q8 [q0,q0,q0,q0,q0,q0,q0,q0,q0,q0,q0] qh<|O J<|O J<|O J<|q7 a fun l m a=>Qa m J<|U _ J<|O J<|O J<|q7 a fun n o a=>Qa o J<|U _ J<|q7 a fun p q a=>Kt _ (q1Ok l n p q) J J J (.inl J)<|U _ J<|q9 ?_;refine qn J a (fun _ a=>?_) (fun _ a=>?_)
 ·refine qc<|O J<|U _ J<|U _ J<|U _ J<|U _ J<|Qv 0 _ J<|qw<|O J<|O J<|qa J<|qa J<|Q2 ?_;obtain rfl:=qt a;exact ⟨.inr J,_,J,wkA [] [] []⟩
 refine qo<|qc<|O J<|O J<|qa J<|qa J<|Q2 ?_;obtain rfl:=qt a;exact ⟨.inr J,_,J,wkA [] [] []⟩
theorem qnw (f : qr→qr→Option Int) (q1F : FuncId) (q1C : List DV) (q1Ok : ∀ (n : qr) (o : qr) (r : Int),f n o = some r→Pure Tryz.prog tab q1F ([.agg (Qd n),.agg (Qd o)] ++ q1C) (qg r)) (g : List qr) (j : Int) (k : Int) (l : Int) (m : Int) (r : Int × Int) (a : q7m f g j k l m = some r) : K4 Tryz.prog tab 193 [.d (.sl 3 (g.map Qd)),q8 j,q8 k,q8 l,.ref 0 1 0 0,.d (.fn q1F q1C)] [(0,.dat 1 [[qg m]])] 1 (q8 r.1) [(0,.dat 1 [[qg r.2]])] 1:=by
 unfold q7m at a;refine Kb Tryz.func193 J qh qh J<|qc<|qa J<|qw<|O J<|O J<|O J<|O J<|O J<|q7 a fun b p a=>K8 [(0,0)] [(0,0)] _ (.d (.tup [qg b.1,qg b.2.1])) 1 [(0,.dat 1 [[qg b.2.2]])] 1 (qhb f q1F q1C q1Ok g j k m b p)<|O J<|U _ J<|U _ J<|qa J<|qa J<|qw<|O J<|O J<|O J<|O J<|O J<|q7 a fun c q a=>K8 [(0,0)] [(0,0)] _ (.d (.tup [qg c.1,qg c.2.1])) 1 [(0,.dat 1 [[qg c.2.2]])] 1 (qhb f q1F q1C q1Ok g b.2.1 l b.2.2 c q)<|O J<|U _ J<|U _ J<|qa J<|qa J<|qw<|O J<|O J<|O J<|O J<|O J<|q7 a fun h s a=>K8 [(0,0)] [(0,0)] _ (.d (.tup [qg h.1,qg h.2.1])) 1 [(0,.dat 1 [[qg h.2.2]])] 1 (qhb f q1F q1C q1Ok g b.1 c.1 c.2.2 h s)<|O J<|U _ J<|U _ J ?_;refine qa J<|qa J<|qw<|O J<|qa J<|Q2 ?_;obtain rfl:=qt a;exact ⟨.inr J,_,J,wkA [] [] []⟩
theorem qh7 (c : qr→qr→Option Int) (q1F : FuncId) (q1C : List DV) (q1Ok : ∀ (j : qr) (k : qr) (r : Int),c j k = some r→Pure Tryz.prog tab q1F ([.agg (Qd j),.agg (Qd k)] ++ q1C) (qg r)) (f : List qr) (a : Int) (g : Int) (r : Int × Int) (b : q51 c f a g = some r) : K4 Tryz.prog tab 192 [.d (.sl 3 (f.map Qd)),q8 a,.ref 0 1 0 0,.d (.fn q1F q1C)] [(0,.dat 1 [[qg g]])] 1 (q8 r.1) [(0,.dat 1 [[qg r.2]])] 1:=by
 unfold q51 at b;refine Kb Tryz.func192 J qh qh J<|qc<|qa J<|qw<|O J<|O J<|U _ J<|O J<|O J<|U _ J<|O J<|O J<|q7 b fun h l b=>K8 [(0,0)] [(0,0)] _ (q8 h.1) 1 [(0,.dat 1 [[qg h.2]])] 1 (qnw c q1F q1C q1Ok f (w64 (a - 1)) a (w64 (a + 1)) g h l)<|qa J<|Q2 ?_;obtain rfl:=qt b;exact ⟨.inr J,_,J,wkA [] [] []⟩
theorem q10i (h : List qr) (g : Int) (k : Int) (j : qr→qr→Option Int) (p3F : FuncId) (p3C : List DV) (p3Ok : ∀ (q : qr) (s : qr) (r : Int),j q s = some r→Pure Tryz.prog tab p3F ([.agg (Qd q),.agg (Qd s)] ++ p3C) (qg r)) (r : Int × Int) (a : qar h g k j = some r) : Pure Tryz.prog tab 182 [.sl 3 (h.map Qd),qg g,qg k,.fn p3F p3C] (.tup [qg r.1,qg r.2]):=by
 unfold qar at a;refine K2 Tryz.func182 J qh qh J<|qc<|qa J<|qa J<|qw<|O J<|O J<|U _ J<|qa J<|qw<|K9 J J<|qw<|O J<|O J<|U _ J<|U _ J<|U _ J<|qa J<|qw<|O J<|O J<|U _ J<|U _ J<|U _ J<|qa J<|qw<|O J<|O J<|U _ J<|U _ J<|U _ J<|qa J<|q9<|qf<|qc<|O J<|U _ J<|q9<|q7 a fun t f a=>?_;refine Y2 (fun l=>l = t) (fun l=>⟨[(11,.ref 0 1 0 0),(13,q8 l.1)],[(0,.dat 1 [[qg l.2]])],1⟩) qe ?_ ?_
 ·refine qn J f (fun _ f=>?_) (fun _ f=>?_)
  ·refine qf<|qc<|O J<|U _ J<|q9<|q7 f fun u b f=>?_;refine Y2 (fun c=>c = u) (fun c=>⟨[(0,.d (.sl 3 (h.map Qd))),(3,.d (.fn p3F p3C)),(11,.ref 0 1 0 0),(12,q8 c.1),(13,q8 c.2.1),(14,q8 c.2.2.1)],[(0,.dat 1 [[qg c.2.2.2]])],1⟩) qe ?_ ?_
   ·refine qn J b (fun _ b=>?_) (fun _ b=>?_)
    ·refine qc<|O J<|O J<|O J<|q7 b fun m v b=>K8 [(0,0)] [(0,0)] _ (q8 m.1) 1 [(0,.dat 1 [[qg m.2]])] 1 (qh7 j p3F p3C p3Ok h (w64 (g + (w64 ((w64 (Int.tdiv (w64 (k - g)) 4)) * 1)))) 0 m v)<|qa J<|qw<|O J<|O J<|O J<|q7 b fun n w b=>K8 [(0,0)] [(0,0)] _ (q8 n.1) 1 [(0,.dat 1 [[qg n.2]])] 1 (qh7 j p3F p3C p3Ok h (w64 (g + (w64 ((w64 (Int.tdiv (w64 (k - g)) 4)) * 2)))) m.2 n w)<|qa J<|q9<|Q0<|O J<|O J<|O J<|q7 b fun o x b=>K8 [(0,0)] [(0,0)] _ (q8 o.1) 1 [(0,.dat 1 [[qg o.2]])] 1 (qh7 j p3F p3C p3Ok h (w64 (g + (w64 ((w64 (Int.tdiv (w64 (k - g)) 4)) * 3)))) n.2 o x)<|qa J<|qv ?_;obtain rfl:=qt b;exact ⟨_,J,wkA [(0,0)] [] []⟩
    refine qo<|Qj ?_;obtain rfl:=qt b;exact ⟨_,J,wkA [(0,0)] [] []⟩
   intro c hb;subst hb;refine Q0<|O J<|O J<|O J<|O J<|O J<|q7 f fun p y f=>K8 [(0,0)] [(0,0)] _ (q8 p.1) 1 [(0,.dat 1 [[qg p.2]])] 1 (qnw j p3F p3C p3Ok h c.1 c.2.1 c.2.2.1 c.2.2.2 p y)<|qa J<|qv ?_;obtain rfl:=qt f;exact ⟨_,J,wkA [(0,0)] [] []⟩
  refine qo<|Qj ?_;obtain rfl:=qt f;exact ⟨_,J,wkA [(0,0)] [] []⟩
 intro l hb;subst hb;refine qc<|U _ J<|q9<|Q6<|qc<|U _ J<|qa J<|q9 ?_;refine qn J a (fun _ a=>?_) (fun _ a=>?_)
 ·refine qc<|O J<|qa J<|qa J<|Q2 ?_;cases a;exact Qo _ J
 refine qc<|U _ J<|qa J<|q9 ?_;refine qn J a (fun _ a=>?_) (fun _ a=>?_)
 ·refine qc<|O J<|qa J<|qa J<|Q2 ?_;cases a;exact Qo _ J
 refine qc<|O J<|qa J<|qa J<|Q2 ?_;cases a;exact Qo _ J
theorem q116 (g : qr→qr→Option Int) (q1F : FuncId) (q1C : List DV) (_q1Ok : ∀ (h : qr) (j : qr) (r : Int),g h j = some r→Pure Tryz.prog tab q1F ([.agg (Qd h),.agg (Qd j)] ++ q1C) (qg r)) (f : List qr) (k : Int) (l : Int) (r : List qr) (c : qbx g f k l = some r) : K4 Tryz.prog tab 183 [.hs 0 3 0 f.length,q8 k,q8 l,.d (.fn q1F q1C)] [(0,.dat 3 (f.map Qd))] 1 (.d (.tup [])) [(0,.dat 3 (r.map Qd))] 1:=by
 unfold qbx at c;refine Kb Tryz.func183 J qh qh J<|qc<|O J<|qa J<|qw<|O J<|U _ J<|qa J<|q9<|q7 c fun q s c=>Q6<|Qb (qby) (fun b=>⟨[(0,.hs 0 3 0 b.2.2.length),(8,q8 b.1),(9,q8 b.2.1)],[(0,.dat 3 (b.2.2.map Qd))],1⟩) _ q s (wkA [] [] []) ?_;intro b v a;unfold qby at a;refine qf<|qc<|O J<|O J<|U _ J<|q9 ?_;refine qn J a (fun _ a=>?_) (fun _ a=>?_)
 ·refine qo<|Q6<|qf<|Q8 [Qp 0,q0,Qp 0,q0,qu 0,q0,q0,q0,qu 0,q0,q0,q0,q0,q0,q0,q0] qh<|O J<|O J<|O J<|O J<|O J<|O J<|q7 a fun t m a=>qs m J J<|Q4 _ m J<|O J<|O J<|q7 a fun u n a=>qs n J J<|Q4 _ n J<|q7 a fun w o a=>qs o J J<|Qr t o J J J J J J J J (leb J) J<|q7 a fun x p a=>qs p qe J<|Qr u p J J J J J J J J (leb J) J<|qw<|O J<|U _ J<|qa J<|q9<|Q0<|O J<|U _ J<|qa J<|qv<|Qk<|Qj<|⟨_,ql a,wkE [] [] [] J ⟨⟨_,J,Qz qe J Q1 (ltd J)⟩,qi J,qi J,trivial⟩ ⟨Qf J J,trivial⟩⟩
 refine Q7 ?_;refine ⟨_,ql a,fun hm=>?_⟩;subst hm;obtain rfl:=qt c;exact ⟨.inl J,_,J,wkA [] [] []⟩
theorem q10r (o : qr→qr→Option Int) (q1F : FuncId) (q1C : List DV) (q1Ok : ∀ (x : qr) (y : qr) (r : Int),o x y = some r→Pure Tryz.prog tab q1F ([.agg (Qd x),.agg (Qd y)] ++ q1C) (qg r)) (w : List qr) (j : Int) (g : Int) (r : Bool × List qr) (p : q7p o w j g = some r) : K4 Tryz.prog tab 184 [.hs 0 3 0 w.length,q8 j,q8 g,.d (.fn q1F q1C)] [(0,.dat 3 (w.map Qd))] 1 (Q5 r.1) [(0,.dat 3 (r.2.map Qd))] 1:=by
 unfold q7p at p;refine Kb Tryz.func184 J qh qh J<|qc<|qa J<|qw<|O J<|U _ J<|qa J<|q9<|qf<|qc<|qa J<|q9<|q7 p fun z bk p=>?_;refine Qm (fun t=>.inl t = z) (fun t=>⟨[],[(0,.dat 3 (t.map Qd))],1⟩) qe ?_ ?_
 ·refine Qb (q7q g o j) (fun f=>⟨[(0,.hs 0 3 0 f.2.2.length),(1,q8 j),(2,q8 g),(3,.d (.fn q1F q1C)),(9,q8 f.1),(10,q8 f.2.1)],[(0,.dat 3 (f.2.2.map Qd))],1⟩) _ z bk (wkA [] [] []) ?_;intro f cm k;unfold q7q at k;refine qf<|qc<|O J<|U _ J<|q9 ?_;refine qn J k (fun _ k=>?_) (fun _ k=>?_)
  ·refine qo<|qf<|q7 k fun bl a k=>?_;refine Qm (fun q=>.inl q = bl) (fun q=>⟨[(0,.hs 0 3 0 q.2.length),(1,q8 j),(2,q8 g),(3,.d (.fn q1F q1C)),(9,q8 q.1),(10,q8 f.2.1)],[(0,.dat 3 (q.2.map Qd))],1⟩) qe ?_ ?_
   ·refine qf<|q7 a fun aa bm a=>?_;refine Qm (fun l=>l = aa) (fun l=>⟨[(0,.hs 0 3 0 f.2.2.length),(1,q8 j),(2,q8 g),(3,.d (.fn q1F q1C)),(9,q8 l),(10,q8 f.2.1)],[(0,.dat 3 (f.2.2.map Qd))],1⟩) qe ?_ ?_
    ·refine Qb (qb7 g f o) (fun ab=>⟨[(0,.hs 0 3 0 f.2.2.length),(1,q8 j),(2,q8 g),(3,.d (.fn q1F q1C)),(9,q8 ab),(10,q8 f.2.1)],[(0,.dat 3 (f.2.2.map Qd))],1⟩) _ aa bm (wkA [] [] []) ?_;intro ab cn m;unfold qb7 at m;refine qf<|qf<|Q8 [q0,q0,q0,q0,qu 0,q0,q0,q0,q0,qu 0,q0,q0,q0,q0,q0,q0,q0,q0] qh<|O J<|O J<|U _ J<|q7 m fun bn h m=>?_;refine Qh 15 (fun A st=>∃ ac ad ae af ag ah ai aj ak al am an ao ap,st = A [(36,Q5 bn),(35,ap),(34,ao),(33,an),(32,am),(31,al),(30,ak),(29,aj),(28,ai),(27,ah),(26,ag),(25,af),(24,ae),(23,ad),(22,ac)]) ?_ ?_
     ·refine Qi J J h (fun h=>?_) (fun h=>?_)
      ·refine O J<|O J<|O J<|q7 h fun bo aq h=>qs aq J J<|Q4 _ aq J<|O J<|O J<|U _ J<|q7 h fun bp ar h=>qs ar J J<|Q4 _ ar J<|q7 h fun bq br h=>Kt _ (q1Ok bo bp bq br) J J J (.inl J)<|U _ J<|U _ J<|U _ J<|q9 ?_;cases h;exact ⟨_,_,_,_,_,_,_,_,_,_,_,_,_,_,J⟩
      refine qb J<|qb J<|qb J<|qb J<|qb J<|qb J<|qb J<|qb J<|qb J<|qb J<|qb J<|qb J<|qb J<|U _ J<|q9 ?_;cases h;exact ⟨_,_,_,_,_,_,_,_,_,_,_,_,_,_,J⟩
     rintro _ ⟨ac,ad,ae,af,ag,ah,ai,aj,ak,al,am,an,ao,ap,rfl⟩;refine q9 ?_;refine qn J m (fun _ m=>?_) (fun _ m=>?_)
     ·refine qo<|Q6<|Q0<|O J<|U _ J<|qa J<|qv<|Qk<|Qj<|⟨_,ql m,wkA [] [] []⟩
     refine Q7 ?_;refine ⟨_,ql m,fun hm=>?_⟩;subst hm;exact ⟨_,J,wkA [] [] []⟩
    intro l hb;subst hb;refine qf<|qc<|O J<|O J<|U _ J<|q9 ?_;refine qn J a (fun _ a=>?_) (fun _ a=>?_)
    ·refine qc<|qa J<|Q2 ?_;obtain rfl:=qt a;refine ⟨_,ql k,fun hm=>?_⟩;subst hm;obtain rfl:=qt p;exact ⟨.inr J,_,J,wkA [] [] []⟩
    refine qo<|qf<|qc<|O J<|O J<|U _ J<|U _ J<|q9 ?_;refine qn J a (fun _ a=>?_) (fun _ a=>?_)
    ·refine qc<|qa J<|Q2 ?_;obtain rfl:=qt a;refine ⟨_,ql k,fun hm=>?_⟩;subst hm;obtain rfl:=qt p;exact ⟨.inr J,_,J,wkA [] [] []⟩
    refine qo<|qf<|Q8 [Qp 0,q0,Qp 0,q0,qu 0,q0,q0,q0,qu 0,q0,q0,q0,q0,q0,q0,q0,q0,q0] qh<|O J<|O J<|O J<|O J<|U _ J<|O J<|O J<|U _ J<|q7 a fun bs au a=>qs au J J<|Q4 _ au J<|O J<|O J<|q7 a fun bt av a=>qs av J J<|Q4 _ av J<|q7 a fun co aw a=>qs aw J J<|Qr bs aw J J J J J J J J (leb J) J<|q7 a fun cp ax a=>qs ax qe J<|Qr bt ax J J J J J J J J (leb J) J<|q9<|qf<|qc<|O J<|O J<|U _ J<|U _ J<|q9<|q7 a fun bu n a=>?_;refine Y2 (fun s=>s = bu) (fun s=>⟨[(0,.hs 0 3 0 s.length),(1,q8 j),(2,q8 g),(3,.d (.fn q1F q1C)),(9,q8 l),(10,q8 f.2.1)],[(0,.dat 3 (s.map Qd))],1⟩) qe ?_ ?_
    ·refine qn J n (fun _ n=>?_) (fun _ n=>?_)
     ·refine qc<|O J<|U _ J<|qa J<|q9<|q7 n fun bv bw n=>Q6<|Qb (qb8 o) (fun u=>⟨[(0,.hs 0 3 0 u.2.length),(1,q8 j),(2,q8 g),(3,.d (.fn q1F q1C)),(9,q8 l),(10,q8 f.2.1),(11,q8 u.1)],[(0,.dat 3 (u.2.map Qd))],1⟩) _ bv bw (wkE [] [] [] J ⟨⟨_,J,Qz qe J Q1 (ltd J)⟩,qi J,qi J,qi J,qi J,qi J,qi J,trivial⟩ ⟨Qf J J,trivial⟩) ?_;intro u cq b;unfold qb8 at b;refine qf<|qc<|O J<|U _ J<|q9 ?_;refine qn J b (fun _ b=>?_) (fun _ b=>?_)
      ·refine qo<|qf<|Q6<|qf<|qf<|Q8 [q0,q0,q0,qu 0,q0,q0,q0,q0,qu 0,q0,q0,q0,q0] qh<|O J<|O J<|O J<|q7 b fun bx ay b=>qs ay J J<|Q4 _ ay J<|O J<|O J<|U _ J<|q7 b fun bz az b=>qs az J J<|Q4 _ az J<|q7 b fun ca cb b=>Kt _ (q1Ok bx bz ca cb) J J J (.inl J)<|U _ J<|U _ J<|q9 ?_;refine qn J b (fun _ b=>?_) (fun _ b=>?_)
       ·refine Q7 ?_;refine ⟨_,ql b,fun hm=>?_⟩;subst hm;obtain rfl:=qt n;exact ⟨_,J,wkA [] [] []⟩
       refine qo<|Q8 [Qp 0,q0,Qp 0,q0,qu 0,q0,q0,q0,qu 0,q0,q0,q0,q0,q0,q0,q0,q0,q0] qh<|O J<|O J<|O J<|O J<|U _ J<|O J<|O J<|U _ J<|q7 b fun cc ba b=>qs ba J J<|Q4 _ ba J<|O J<|O J<|q7 b fun cd bb b=>qs bb J J<|Q4 _ bb J<|q7 b fun cr bc b=>qs bc J J<|Qr cc bc J J J J J J J J (leb J) J<|q7 b fun cs bd b=>qs bd qe J<|Qr cd bd J J J J J J J J (leb J) J<|qv<|Qk<|Q0<|O J<|U _ J<|qa J<|qv<|⟨_,ql b,wkE [] [] [] J ⟨⟨_,J,Qz qe J Q1 (ltd J)⟩,qi J,qi J,qi J,qi J,qi J,qi J,trivial⟩ ⟨Qf J J,trivial⟩⟩
      refine Q7 ?_;refine ⟨_,ql b,fun hm=>?_⟩;subst hm;obtain rfl:=qt n;exact ⟨_,J,wkA [] [] []⟩
     refine qo<|Qj ?_;obtain rfl:=qt n;exact ⟨_,J,wkE [] [] [] J ⟨⟨_,J,Qz qe J Q1 (ltd J)⟩,qi J,qi J,qi J,qi J,qi J,trivial⟩ ⟨Qf J J,trivial⟩⟩
    intro s hb;subst hb;refine qc<|O J<|O J<|U _ J<|U _ J<|q9 ?_;refine qn J a (fun _ a=>?_) (fun _ a=>?_)
    ·refine qc<|O J<|U _ J<|qa J<|q9<|q7 a fun ce cf a=>Q6<|Qb (qb9 g o l) (fun v=>⟨[(0,.hs 0 3 0 v.2.length),(1,q8 j),(2,q8 g),(3,.d (.fn q1F q1C)),(9,q8 l),(10,q8 f.2.1),(12,q8 v.1)],[(0,.dat 3 (v.2.map Qd))],1⟩) _ ce cf (wkA [] [] []) ?_;intro v ct c;unfold qb9 at c;refine qf<|qc<|O J<|O J<|U _ J<|q9 ?_;refine qn J c (fun _ c=>?_) (fun _ c=>?_)
     ·refine qo<|qf<|Q6<|qf<|qf<|Q8 [q0,q0,q0,qu 0,q0,q0,q0,q0,qu 0,q0,q0,q0,q0] qh<|O J<|O J<|O J<|q7 c fun cg be c=>qs be J J<|Q4 _ be J<|O J<|O J<|U _ J<|q7 c fun ch bf c=>qs bf J J<|Q4 _ bf J<|q7 c fun ci cj c=>Kt _ (q1Ok cg ch ci cj) J J J (.inl J)<|U _ J<|U _ J<|q9 ?_;refine qn J c (fun _ c=>?_) (fun _ c=>?_)
      ·refine Q7 ?_;refine ⟨_,ql c,fun hm=>?_⟩;subst hm;obtain rfl:=qt a;exact ⟨_,J,wkA [] [] []⟩
      refine qo<|Q8 [Qp 0,q0,Qp 0,q0,qu 0,q0,q0,q0,qu 0,q0,q0,q0,q0,q0,q0,q0,q0,q0] qh<|O J<|O J<|O J<|O J<|U _ J<|O J<|O J<|U _ J<|q7 c fun ck bg c=>qs bg J J<|Q4 _ bg J<|O J<|O J<|q7 c fun cl bh c=>qs bh J J<|Q4 _ bh J<|q7 c fun cu bi c=>qs bi J J<|Qr ck bi J J J J J J J J (leb J) J<|q7 c fun cv bj c=>qs bj qe J<|Qr cl bj J J J J J J J J (leb J) J<|qv<|Qk<|Q0<|O J<|U _ J<|qa J<|qv<|⟨_,ql c,wkE [] [] [] J ⟨⟨_,J,Qz qe J Q1 (ltd J)⟩,qi J,qi J,qi J,qi J,qi J,qi J,trivial⟩ ⟨Qf J J,trivial⟩⟩
     refine Q7 ?_;refine ⟨_,ql c,fun hm=>?_⟩;subst hm;obtain rfl:=qt a;exact ⟨_,J,wkA [] [] []⟩
    refine qo<|Qj ?_;obtain rfl:=qt a;exact ⟨_,J,wkA [] [] []⟩
   intro q hb;subst hb;refine Q0<|O J<|U _ J<|qa J<|qv<|⟨_,ql k,wkA [] [] []⟩
  refine Q7 ?_;refine ⟨_,ql k,fun hm=>?_⟩;subst hm;exact ⟨_,J,wkA [] [] []⟩
 intro t hb;subst hb;refine qc<|qa J<|Q2 ?_;obtain rfl:=qt p;exact ⟨.inr J,_,J,wkA [] [] []⟩
theorem q10w (m : qr→qr→Option Int) (q1F : FuncId) (q1C : List DV) (q1Ok : ∀ (q : qr) (s : qr) (r : Int),m q s = some r→Pure Tryz.prog tab q1F ([.agg (Qd q),.agg (Qd s)] ++ q1C) (qg r)) (p : List qr) (h : Int) (t : Int) (u : Int) (r : Int × List qr) (c : qbr m p h t u = some r) : K4 Tryz.prog tab 185 [.hs 0 3 0 p.length,q8 h,q8 t,q8 u,.d (.fn q1F q1C)] [(0,.dat 3 (p.map Qd))] 1 (q8 r.1) [(0,.dat 3 (r.2.map Qd))] 1:=by
 unfold qbr at c;refine Kb Tryz.func185 J qh qh J<|qc<|qa J<|q9<|qf<|Q8 [Qp 0,q0,Qp 0,q0,qu 0,q0,q0,q0,qu 0,q0,q0,q0,q0,q0,q0,q0] qh<|O J<|O J<|O J<|O J<|O J<|O J<|q7 c fun bn v c=>qs v J J<|Q4 _ v J<|O J<|O J<|q7 c fun bo w c=>qs w J J<|Q4 _ w J<|q7 c fun cf x c=>qs x J J<|Qr bn x J J J J J J J J (leb J) J<|q7 c fun cg y c=>qs y qe J<|Qr bo y J J J J J J J J (leb J) J<|qw<|O J<|U _ J<|O J<|U _ J<|qa J<|qa J<|q9<|qf<|q7 c fun z bp c=>?_;refine Qm (fun n=>n = z) (fun n=>⟨[(11,q8 n.1)],[(0,.dat 3 (n.2.map Qd))],1⟩) qe ?_ ?_
 ·refine Qb (qbs h m) (fun b=>⟨[(0,.hs 0 3 0 b.2.2.length),(1,q8 h),(4,.d (.fn q1F q1C)),(11,q8 b.1),(12,q8 b.2.1)],[(0,.dat 3 (b.2.2.map Qd))],1⟩) _ z bp (wkE [] [] [] J ⟨⟨_,J,Qz qe J Q1 (ltd J)⟩,qi J,qi J,qi J,qi J,trivial⟩ ⟨Qf J J,trivial⟩) ?_;intro b ch a;unfold qbs at a;refine Q6<|qf<|q7 a fun aa bq a=>?_;refine Qm (fun l=>l = aa) (fun l=>⟨[(0,.hs 0 3 0 b.2.2.length),(1,q8 h),(4,.d (.fn q1F q1C)),(11,q8 l),(12,q8 b.2.1)],[(0,.dat 3 (b.2.2.map Qd))],1⟩) qe ?_ ?_
  ·refine Qb (qbt b h m) (fun ab=>⟨[(0,.hs 0 3 0 b.2.2.length),(1,q8 h),(4,.d (.fn q1F q1C)),(11,q8 ab),(12,q8 b.2.1)],[(0,.dat 3 (b.2.2.map Qd))],1⟩) _ aa bq (wkA [] [] []) ?_;intro ab ci j;unfold qbt at j;refine qf<|qf<|Q8 [q0,q0,q0,q0,qu 0,q0,q0,q0,qu 0,q0,q0,q0,q0,q0,q0,q0,q0] qh<|O J<|O J<|U _ J<|q7 j fun br f j=>?_;refine Qh 14 (fun A st=>∃ ac ad ae af ag ah ai aj ak al am an ao,st = A [(47,Q5 br),(46,ao),(45,an),(44,am),(43,al),(42,ak),(41,aj),(40,ai),(39,ah),(38,ag),(37,af),(36,ae),(35,ad),(34,ac)]) ?_ ?_
   ·refine Qi J J f (fun f=>?_) (fun f=>?_)
    ·refine O J<|O J<|O J<|q7 f fun bs ap f=>qs ap J J<|Q4 _ ap J<|O J<|O J<|q7 f fun bt aq f=>qs aq J J<|Q4 _ aq J<|q7 f fun bu bv f=>Kt _ (q1Ok bs bt bu bv) J J J (.inl J)<|U _ J<|U _ J<|U _ J<|q9 ?_;cases f;exact ⟨_,_,_,_,_,_,_,_,_,_,_,_,_,J⟩
    refine qb J<|qb J<|qb J<|qb J<|qb J<|qb J<|qb J<|qb J<|qb J<|qb J<|qb J<|qb J<|U _ J<|q9 ?_;cases f;exact ⟨_,_,_,_,_,_,_,_,_,_,_,_,_,J⟩
   rintro _ ⟨ac,ad,ae,af,ag,ah,ai,aj,ak,al,am,an,ao,rfl⟩;refine q9 ?_;refine qn J j (fun _ j=>?_) (fun _ j=>?_)
   ·refine qo<|Q6<|Q0<|O J<|U _ J<|qa J<|qv<|Qk<|Qj<|⟨_,ql j,wkA [] [] []⟩
   refine Q7 ?_;refine ⟨_,ql j,fun hm=>?_⟩;subst hm;exact ⟨_,J,wkA [] [] []⟩
  intro l hb;subst hb;refine qf<|q7 a fun ar bw a=>?_;refine Qm (fun o=>o = ar) (fun o=>⟨[(0,.hs 0 3 0 b.2.2.length),(1,q8 h),(4,.d (.fn q1F q1C)),(11,q8 l),(12,q8 o)],[(0,.dat 3 (b.2.2.map Qd))],1⟩) qe ?_ ?_
  ·refine Qb (qbu l b h m) (fun au=>⟨[(0,.hs 0 3 0 b.2.2.length),(1,q8 h),(4,.d (.fn q1F q1C)),(11,q8 l),(12,q8 au)],[(0,.dat 3 (b.2.2.map Qd))],1⟩) _ ar bw (wkA [] [] []) ?_;intro au cj k;unfold qbu at k;refine qf<|qf<|Q8 [q0,q0,q0,qu 0,q0,q0,q0,qu 0,q0,q0,q0,q0,q0,q0,q0,q0] qh<|O J<|O J<|U _ J<|q7 k fun bx g k=>?_;refine Qh 13 (fun A st=>∃ av aw ax ay az ba bb bc bd be bf bg,st = A [(65,Q5 bx),(64,bg),(63,bf),(62,be),(61,bd),(60,bc),(59,bb),(58,ba),(57,az),(56,ay),(55,ax),(54,aw),(53,av)]) ?_ ?_
   ·refine Qi J J g (fun g=>?_) (fun g=>?_)
    ·refine O J<|O J<|O J<|q7 g fun bz bh g=>qs bh J J<|Q4 _ bh J<|O J<|O J<|q7 g fun ca bi g=>qs bi J J<|Q4 _ bi J<|q7 g fun cb cc g=>Kt _ (q1Ok bz ca cb cc) J J J (.inl J)<|U _ J<|U _ J<|q9 ?_;cases g;exact ⟨_,_,_,_,_,_,_,_,_,_,_,_,J⟩
    refine qb J<|qb J<|qb J<|qb J<|qb J<|qb J<|qb J<|qb J<|qb J<|qb J<|qb J<|U _ J<|q9 ?_;cases g;exact ⟨_,_,_,_,_,_,_,_,_,_,_,_,J⟩
   rintro _ ⟨av,aw,ax,ay,az,ba,bb,bc,bd,be,bf,bg,rfl⟩;refine q9 ?_;refine qn J k (fun _ k=>?_) (fun _ k=>?_)
   ·refine qo<|Q6<|Q0<|O J<|U _ J<|qa J<|qv<|Qk<|Qj<|⟨_,ql k,wkA [] [] []⟩
   refine Q7 ?_;refine ⟨_,ql k,fun hm=>?_⟩;subst hm;exact ⟨_,J,wkA [] [] []⟩
  intro o hb;subst hb;refine qf<|qc<|O J<|O J<|U _ J<|q9 ?_;refine qn J a (fun _ a=>?_) (fun _ a=>?_)
  ·refine Q7 ?_;refine ⟨_,ql a,fun hm=>?_⟩;subst hm;exact ⟨_,J,wkA [] [] []⟩
  refine qo<|qf<|Q8 [Qp 0,q0,Qp 0,q0,qu 0,q0,q0,q0,qu 0,q0,q0,q0,q0,q0,q0,q0] qh<|O J<|O J<|O J<|O J<|O J<|O J<|q7 a fun cd bj a=>qs bj J J<|Q4 _ bj J<|O J<|O J<|q7 a fun ce bk a=>qs bk J J<|Q4 _ bk J<|q7 a fun ck bl a=>qs bl J J<|Qr cd bl J J J J J J J J (leb J) J<|q7 a fun cl bm a=>qs bm qe J<|Qr ce bm J J J J J J J J (leb J) J<|qw<|O J<|U _ J<|qa J<|q9<|Q0<|O J<|U _ J<|qa J<|qv<|Qk<|Qj<|⟨_,ql a,wkE [] [] [] J ⟨⟨_,J,Qz qe J Q1 (ltd J)⟩,qi J,qi J,qi J,qi J,trivial⟩ ⟨Qf J J,trivial⟩⟩
 intro n hb;subst hb;refine qc<|O J<|qa J<|Q2 ?_;obtain rfl:=qt c;exact ⟨.inr J,_,J,wkA [] [] []⟩
end Go.Proofs.YtmekakoiicomaaaGreat
