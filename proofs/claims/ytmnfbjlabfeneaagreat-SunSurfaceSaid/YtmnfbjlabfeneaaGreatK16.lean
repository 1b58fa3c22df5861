/- W_Alla -/
import Derived.Test.YtmnfbjlabfeneaaGreatK15
namespace Go.Proofs.YtmnfbjlabfeneaaGreat
open Go Go.Am Go.Sh
set_option maxHeartbeats 8000000
set_option maxRecDepth 100000
theorem q72 (h : qh) (j : Int) (r : Bool) (a : q1d h j = some r) : Pure Tryz.prog tab 39 [.agg (Qs h),qd j] (.bool r):=by
 unfold q1d at a;refine Qk Tryz.func39 J qi qi J<|qc<|Qj _ _ J<|qa J<|qt<|O _ J<|O _ J<|U J<|O _ J<|O _ J<|q7 a fun c1 b a=>?_;refine Q9 6 (fun A st=>∃ k l m n o,st = A [(15,Q2 c1),(14,o),(13,n),(12,m),(11,l),(10,k)]) ?_ ?_
 ·refine Qa J J b (fun b=>?_) (fun b=>?_)
  ·refine O _ J<|O _ J<|U J<|O _ J<|O _ J<|q8 ?_;cases b;exact ⟨_,_,_,_,_,J⟩
  refine qb J<|qb J<|qb J<|qb J<|O _ J<|q8 ?_;cases b;exact ⟨_,_,_,_,_,J⟩
 rintro _ ⟨k,l,m,n,o,rfl⟩;refine q7 a fun c8 c a=>?_;refine Q9 7 (fun A st=>∃ p q s t u v,st = A [(22,Q2 c8),(21,v),(20,u),(19,t),(18,s),(17,q),(16,p)]) ?_ ?_
 ·refine Qa J J c (fun c=>?_) (fun c=>?_)
  ·refine O _ J<|O _ J<|U J<|O _ J<|O _ J<|O _ J<|q8 ?_;cases c;exact ⟨_,_,_,_,_,_,J⟩
  refine qb J<|qb J<|qb J<|qb J<|qb J<|O _ J<|q8 ?_;cases c;exact ⟨_,_,_,_,_,_,J⟩
 rintro _ ⟨p,q,s,t,u,v,rfl⟩;refine q7 a fun ap d a=>?_;refine Q9 6 (fun A st=>∃ x y z aa ab,st = A [(28,Q2 ap),(27,ab),(26,aa),(25,z),(24,y),(23,x)]) ?_ ?_
 ·refine Qa J J d (fun d=>?_) (fun d=>?_)
  ·refine O _ J<|O _ J<|U J<|O _ J<|O _ J<|q8 ?_;cases d;exact ⟨_,_,_,_,_,J⟩
  refine qb J<|qb J<|qb J<|qb J<|O _ J<|q8 ?_;cases d;exact ⟨_,_,_,_,_,J⟩
 rintro _ ⟨x,y,z,aa,ab,rfl⟩;refine q7 a fun aq f a=>?_;refine Q9 7 (fun A st=>∃ ac ad ae af ag ah,st = A [(35,Q2 aq),(34,ah),(33,ag),(32,af),(31,ae),(30,ad),(29,ac)]) ?_ ?_
 ·refine Qa J J f (fun f=>?_) (fun f=>?_)
  ·refine O _ J<|O _ J<|U J<|O _ J<|O _ J<|O _ J<|q8 ?_;cases f;exact ⟨_,_,_,_,_,_,J⟩
  refine qb J<|qb J<|qb J<|qb J<|qb J<|O _ J<|q8 ?_;cases f;exact ⟨_,_,_,_,_,_,J⟩
 rintro _ ⟨ac,ad,ae,af,ag,ah,rfl⟩;refine q7 a fun ar g a=>?_;refine Q9 6 (fun A st=>∃ ai aj ak al am,st = A [(41,Q2 ar),(40,am),(39,al),(38,ak),(37,aj),(36,ai)]) ?_ ?_
 ·refine Qa J J g (fun g=>?_) (fun g=>?_)
  ·refine O _ J<|O _ J<|U J<|O _ J<|O _ J<|q8 ?_;cases g;exact ⟨_,_,_,_,_,J⟩
  refine qb J<|qb J<|qb J<|qb J<|O _ J<|q8 ?_;cases g;exact ⟨_,_,_,_,_,J⟩
 rintro _ ⟨ai,aj,ak,al,am,rfl⟩;refine qa J<|qu ?_;cases a;exact Q7 _ J
theorem qzn (f : List qf) (r : Bool) (b : q9z f = some r) : Pure Tryz.prog tab 11 [.sl 6 (f.map Q6)] (.bool r):=by
 unfold q9z at b;refine Qk Tryz.func11 J qi qi J<|qc<|qa J<|q8<|qg<|qc<|U J<|Qx J<|O _ J<|q8 ?_;refine qn J b (fun _ b=>?_) (fun _ b=>?_)
 ·refine qc<|U J<|Qx J<|O _ J<|qa J<|qu ?_;cases b;exact Q7 _ J
 refine qp<|qg<|qc<|qa J<|q8<|q7 b fun h t b=>?_;refine Qo (fun g=>.inl g = h) (fun g=>⟨[(0,.d (.sl 6 (f.map Q6)))],[],0⟩) qe ?_ ?_
 ·refine Qm (q73 f) (fun j=>⟨[(0,.d (.sl 6 (f.map Q6))),(3,q9 j)],[],0⟩) _ h t (wkA [] [] []) ?_;intro j ae a;unfold q73 at a;refine qg<|qc<|U J<|U J<|Qx J<|O _ J<|q8 ?_;refine qn J a (fun _ a=>?_) (fun _ a=>?_)
  ·refine qp<|qg<|Qc<|qc<|U J<|U J<|q7 a fun u v a=>Qn v J<|O _ J<|O _ J<|q7 a fun x y a=>Q1 (q72 u.Lo 9 x y) J<|O _ J<|q7 a fun z c a=>?_;refine Q9 9 (fun A st=>∃ k l m n o p q s,st = A [(31,Q2 z),(30,s),(29,q),(28,p),(27,o),(26,n),(25,m),(24,l),(23,k)]) ?_ ?_
   ·refine Qa J J c (fun c=>?_) (fun c=>?_)
    ·refine qb J<|qb J<|qb J<|qb J<|qb J<|qb J<|qb J<|O _ J<|q8 ?_;cases c;exact ⟨_,_,_,_,_,_,_,_,J⟩
    refine U J<|U J<|q7 c fun aa ab c=>Qn ab J<|O _ J<|O _ J<|q7 c fun ac ad c=>Q1 (q72 aa.Hi 9 ac ad) J<|O _ J<|O _ J<|q8 ?_;cases c;exact ⟨_,_,_,_,_,_,_,_,J⟩
   rintro _ ⟨k,l,m,n,o,p,q,s,rfl⟩;refine q8 ?_;refine qn J a (fun _ a=>?_) (fun _ a=>?_)
   ·refine qc<|qa J<|qu ?_;refine ⟨_,qr a,fun hm=>?_⟩;subst hm;cases b;exact Q7 _ J
   refine qp<|Ql<|Qp<|Q5<|U J<|O _ J<|qa J<|Q4<|⟨_,qr a,wkA [] [] []⟩
  refine Qh ?_;refine ⟨_,qr a,fun hm=>?_⟩;subst hm;exact ⟨_,J,wkA [] [] []⟩
 intro g hb;subst hb;refine qc<|U J<|Qx J<|O _ J<|qa J<|qu ?_;cases b;exact Q7 _ J
theorem q125 (b : List qf) (f : qf→Option Bool) (p1F : FuncId) (p1C : List DV) (p1Ok : ∀ (h : qf) (r : Bool),f h = some r→Pure Tryz.prog tab p1F ([.agg (Q6 h)] ++ p1C) (.bool r)) (r : Int) (c : q7f b f = some r) : Pure Tryz.prog tab 111 [.sl 6 (b.map Q6),.fn p1F p1C] (qd r):=by
 unfold q7f at c;refine Qk Tryz.func111 J qi qi J<|qc<|qa J<|q8<|qg<|qc<|U J<|Qx J<|U J<|q8<|q7 c fun j l c=>?_;refine Qo (fun g=>.inl g = j) (fun g=>⟨[],[],0⟩) qe ?_ ?_
 ·refine Qm (Js b f) (fun k=>⟨[(0,.d (.sl 6 (b.map Q6))),(1,.d (.fn p1F p1C)),(7,q9 (b.length : Int)),(8,q9 k)],[],0⟩) _ j l (wkA [] [] []) ?_;intro k q a;unfold Js at a;refine qc<|O _ J<|q8<|qg ?_;refine qn J a (fun _ a=>?_) (fun _ a=>?_)
  ·refine qp<|qg<|Qc<|qc<|U J<|qa J<|qt<|U J<|U J<|U J<|q7 a fun m n a=>Qn n J<|O _ J<|q7 a fun o p a=>Z8 _ (p1Ok m o p) J J J (.inl J)<|q8 ?_;refine qn J a (fun _ a=>?_) (fun _ a=>?_)
   ·refine qc<|U J<|qa J<|qu ?_;refine ⟨_,qr a,fun hm=>?_⟩;subst hm;cases c;exact Q7 _ J
   refine qp<|Ql<|Qp<|Q5<|O _ J<|U J<|Q4<|⟨_,qr a,wkA [] [] []⟩
  refine Qh ?_;refine ⟨_,qr a,fun hm=>?_⟩;subst hm;exact ⟨_,J,wkA [] [] []⟩
 intro g hb;subst hb;refine qc<|qa J<|qu ?_;cases c;exact Q7 _ J
theorem qdz (b : List qf) (c : qf→Option Bool) (p1F : FuncId) (p1C : List DV) (p1Ok : ∀ (d : qf) (r : Bool),c d = some r→Pure Tryz.prog tab p1F ([.agg (Q6 d)] ++ p1C) (.bool r)) (r : Bool) (a : Um b c = some r) : Pure Tryz.prog tab 78 [.sl 6 (b.map Q6),.fn p1F p1C] (.bool r):=by
 unfold Um at a;refine Qk Tryz.func78 J qi qi J<|qc<|qa J<|qt<|U J<|U J<|q7 a fun f g a=>Q1 (q125 b c p1F p1C p1Ok f g) J<|O _ J<|qa J<|qu ?_;cases a;exact Q7 _ J
theorem qpk (a : qh) (r : Bool) (c : q8e a = some r) : Pure Tryz.prog tab 116 [.agg (Qs a)] (.bool r):=by
 unfold q8e at c;refine Qk Tryz.func116 J qi qi J<|qc<|Qj _ _ J<|qa J<|qt<|O _ J<|O _ J<|O _ J<|O _ J<|O _ J<|O _ J<|J8 (r:=min (min a.X a.Y) a.Z) J J (by simp only [J6];rfl)<|O _ J<|q7 c fun o b c=>?_;refine Q9 10 (fun A st=>∃ d f g h j k l m n,st = A [(20,Q2 o),(19,n),(18,m),(17,l),(16,k),(15,j),(14,h),(13,g),(12,f),(11,d)]) ?_ ?_
 ·refine Qa J J b (fun b=>?_) (fun b=>?_)
  ·refine O _ J<|O _ J<|O _ J<|O _ J<|O _ J<|O _ J<|J7 (r:=max (max a.X a.Y) a.Z) J J (by simp only [J5];rfl)<|O _ J<|O _ J<|q8 ?_;cases b;exact ⟨_,_,_,_,_,_,_,_,_,J⟩
  refine qb J<|qb J<|qb J<|qb J<|qb J<|qb J<|qb J<|qb J<|O _ J<|q8 ?_;cases b;exact ⟨_,_,_,_,_,_,_,_,_,J⟩
 rintro _ ⟨d,f,g,h,j,k,l,m,n,rfl⟩;refine qa J<|qu ?_;cases c;exact Q7 _ J
theorem qpm (g : qf) (r : Bool) (a : q8f g = some r) : Pure Tryz.prog tab 101 [.agg (Q6 g)] (.bool r):=by
 unfold q8f at a;refine Qk Tryz.func101 J qi qi J<|qc<|Qj _ _ J<|qa J<|qt<|O _ J<|O _ J<|O _ J<|O _ J<|O _ J<|O _ J<|O _ J<|q7 a fun c1 d a=>?_;refine Q9 9 (fun A st=>∃ h j k l m n o p,st = A [(18,Q2 c1),(17,p),(16,o),(15,n),(14,m),(13,l),(12,k),(11,j),(10,h)]) ?_ ?_
 ·refine Qa J J d (fun d=>?_) (fun d=>?_)
  ·refine O _ J<|O _ J<|O _ J<|O _ J<|O _ J<|O _ J<|O _ J<|O _ J<|q8 ?_;cases d;exact ⟨_,_,_,_,_,_,_,_,J⟩
  refine qb J<|qb J<|qb J<|qb J<|qb J<|qb J<|qb J<|O _ J<|q8 ?_;cases d;exact ⟨_,_,_,_,_,_,_,_,J⟩
 rintro _ ⟨h,j,k,l,m,n,o,p,rfl⟩;refine q7 a fun aj f a=>?_;refine Q9 9 (fun A st=>∃ q s t u v x y z,st = A [(27,Q2 aj),(26,z),(25,y),(24,x),(23,v),(22,u),(21,t),(20,s),(19,q)]) ?_ ?_
 ·refine Qa J J f (fun f=>?_) (fun f=>?_)
  ·refine O _ J<|O _ J<|O _ J<|O _ J<|O _ J<|O _ J<|O _ J<|O _ J<|q8 ?_;cases f;exact ⟨_,_,_,_,_,_,_,_,J⟩
  refine qb J<|qb J<|qb J<|qb J<|qb J<|qb J<|qb J<|O _ J<|q8 ?_;cases f;exact ⟨_,_,_,_,_,_,_,_,J⟩
 rintro _ ⟨q,s,t,u,v,x,y,z,rfl⟩;refine q7 a fun ak b a=>?_;refine Q9 5 (fun A st=>∃ aa ab ac ad,st = A [(32,Q2 ak),(31,ad),(30,ac),(29,ab),(28,aa)]) ?_ ?_
 ·refine Qa J J b (fun b=>?_) (fun b=>?_)
  ·refine O _ J<|O _ J<|q7 b fun al am b=>Q1 (qpk g.Lo al am) J<|O _ J<|q8 ?_;cases b;exact ⟨_,_,_,_,J⟩
  refine qb J<|qb J<|qb J<|O _ J<|q8 ?_;cases b;exact ⟨_,_,_,_,J⟩
 rintro _ ⟨aa,ab,ac,ad,rfl⟩;refine q7 a fun an c a=>?_;refine Q9 5 (fun A st=>∃ ae af ag ah,st = A [(37,Q2 an),(36,ah),(35,ag),(34,af),(33,ae)]) ?_ ?_
 ·refine Qa J J c (fun c=>?_) (fun c=>?_)
  ·refine O _ J<|O _ J<|q7 c fun ao ap c=>Q1 (qpk g.Hi ao ap) J<|O _ J<|q8 ?_;cases c;exact ⟨_,_,_,_,J⟩
  refine qb J<|qb J<|qb J<|O _ J<|q8 ?_;cases c;exact ⟨_,_,_,_,J⟩
 rintro _ ⟨ae,af,ag,ah,rfl⟩;refine qa J<|qu ?_;cases a;exact Q7 _ J
theorem q14u (b : qf) (r : Bool) (a : q3n b = some r) : Pure Tryz.prog tab 100 [.agg (Q6 b)] (.bool r):=by
 unfold q3n at a;refine Qk Tryz.func100 J qi qi J<|qc<|Qj _ _ J<|qa J<|qt<|O _ J<|q7 a fun c d a=>Q1 (qpm b c d) J<|O _ J<|qa J<|qu ?_;cases a;exact Q7 _ J
theorem qwm (k : Int) (r : Int) (a : q35 k = some r) : Pure Tryz.prog tab 167 [.int .u64 k] (qd r):=by
 unfold q35 at a;refine Qk Tryz.func167 J qi qi J<|qc<|qa J<|q8<|qg<|qc<|U J<|O _ J<|q8<|q7 a fun l b a=>?_;refine Y2 (fun c=>c = l) (fun c=>⟨[(0,.d (.int .u64 c.1)),(2,q9 c.2)],[],0⟩) qe ?_ ?_
 ·refine qn J b (fun _ b=>?_) (fun _ b=>?_)
  ·refine qc<|U J<|O _ J<|qa J<|q8<|Q5<|qa J<|Q4 ?_;obtain rfl:=qw b;exact ⟨_,J,wkA [] [] []⟩
  refine qp<|Ql ?_;obtain rfl:=qw b;exact ⟨_,J,wkA [] [] []⟩
 intro c hb;subst hb;refine qg<|qc<|U J<|O _ J<|q8<|q7 a fun m f a=>?_;refine Y2 (fun g=>g = m) (fun g=>⟨[(0,.d (.int .u64 g.1)),(2,q9 g.2)],[],0⟩) qe ?_ ?_
 ·refine qn J f (fun _ f=>?_) (fun _ f=>?_)
  ·refine qc<|U J<|O _ J<|qa J<|q8<|Q5<|U J<|O _ J<|qa J<|Q4 ?_;obtain rfl:=qw f;exact ⟨_,J,wkA [] [] []⟩
  refine qp<|Ql ?_;obtain rfl:=qw f;exact ⟨_,J,wkA [] [] []⟩
 intro g hb;subst hb;refine qg<|qc<|U J<|O _ J<|q8<|q7 a fun n h a=>?_;refine Y2 (fun j=>j = n) (fun j=>⟨[(0,.d (.int .u64 j.1)),(2,q9 j.2)],[],0⟩) qe ?_ ?_
 ·refine qn J h (fun _ h=>?_) (fun _ h=>?_)
  ·refine qc<|U J<|O _ J<|qa J<|q8<|Q5<|U J<|O _ J<|qa J<|Q4 ?_;obtain rfl:=qw h;exact ⟨_,J,wkA [] [] []⟩
  refine qp<|Ql ?_;obtain rfl:=qw h;exact ⟨_,J,wkA [] [] []⟩
 intro j hb;subst hb;refine qc<|U J<|U J<|O _ J<|q7 a fun p o a=>qxa qec o J J J J J<|O _ J<|O _ J<|qa J<|qu ?_;cases a;exact Q7 _ J
theorem qgo (b : Int) (r : Int) (a : q19 b = some r) : Pure Tryz.prog tab 147 [.int .u64 b] (qd r):=by
 unfold q19 at a;refine Qk Tryz.func147 J qi qi J<|qc<|qa J<|q8<|qg<|Ul J<|qp<|qc<|U J<|q7 a fun c d a=>Q1 (qwm b c d) J<|qa J<|qu ?_;cases a;exact Q7 _ J
theorem qjy (a : Int) (r : Bool) (b : q90 a = some r) : Pure Tryz.prog tab 181 [qd a] (.bool r):=by
 unfold q90 at b;refine Qk Tryz.func181 J qi qi J<|qc<|qa J<|qt<|U J<|U J<|O _ J<|qa J<|qu ?_;cases b;exact Q7 _ J
theorem Zz (d : Int) (f : Int) (r : Bool) (a : Zc d f = some r) : Pure Tryz.prog tab 163 [qd d,qd f] (.bool r):=by
 unfold Zc at a;refine Qk Tryz.func163 J qi qi J<|qc<|qa J<|qt<|U J<|q7 a fun p q a=>Q1 (qjy d p q) J<|q7 a fun s b a=>?_;refine Q9 5 (fun A st=>∃ g h j k,st = A [(11,Q2 s),(10,k),(9,j),(8,h),(7,g)]) ?_ ?_
 ·refine Qa J J b (fun b=>?_) (fun b=>?_)
  ·refine U J<|q7 b fun t u b=>Q1 (qjy f t u) J<|O _ J<|O _ J<|q8 ?_;cases b;exact ⟨_,_,_,_,J⟩
  refine qb J<|qb J<|qb J<|O _ J<|q8 ?_;cases b;exact ⟨_,_,_,_,J⟩
 rintro _ ⟨g,h,j,k,rfl⟩;refine q7 a fun v c a=>?_;refine Q9 5 (fun A st=>∃ l m n o,st = A [(16,Q2 v),(15,o),(14,n),(13,m),(12,l)]) ?_ ?_
 ·refine Qa J J c (fun c=>?_) (fun c=>?_)
  ·refine qb J<|qb J<|qb J<|O _ J<|q8 ?_;cases c;exact ⟨_,_,_,_,J⟩
  refine U J<|U J<|O _ J<|O _ J<|q8 ?_;cases c;exact ⟨_,_,_,_,J⟩
 rintro _ ⟨l,m,n,o,rfl⟩;refine qa J<|qu ?_;cases a;exact Q7 _ J
theorem q12g (m : List Int) (f : Int) (g : Int) (r : List Int) (k : q7n  m f g = some r) : K5 Tryz.prog tab 157 [.hs 0 1 0 m.length,q9 f,q9 g] [(0,.dat 1 (m.map (eI .i64)))] 1 (.d (.tup [])) [(0,.dat 1 (r.map (eI .i64)))] 1:=by
 unfold q7n at k;refine Kl Tryz.func157 J qi qi J<|qc<|U J<|O _ J<|qa J<|q8<|q7 k fun aj ak k=>Qc<|Qm (q7o g f) (fun h=>⟨[(0,.hs 0 1 0 h.2.length),(1,q9 f),(2,q9 g),(6,q9 h.1)],[(0,.dat 1 (h.2.map (eI .i64)))],1⟩) _ aj ak (wkA [] [] []) ?_;intro h av c;unfold q7o at c;refine qg<|qc<|U J<|U J<|O _ J<|q8 ?_;refine qn J c (fun _ c=>?_) (fun _ c=>?_)
 ·refine qp<|qg<|q7 c fun al n c=>?_;refine Qo (fun j=>j = al) (fun j=>⟨[(0,.hs 0 1 0 j.length),(1,q9 f),(2,q9 g),(6,q9 h.1)],[(0,.dat 1 (j.map (eI .i64)))],1⟩) qe ?_ ?_
  ·refine qc<|U J<|qa J<|q8<|q7 n fun am an n=>Qc<|Qm (q7p f) (fun l=>⟨[(0,.hs 0 1 0 l.2.length),(1,q9 f),(2,q9 g),(6,q9 h.1),(7,q9 l.1)],[(0,.dat 1 (l.2.map (eI .i64)))],1⟩) _ am an (wkA [] [] []) ?_;intro l aw a;unfold q7p at a;refine qg<|qg<|Qi [q6,q6,qx 0,q6,q6,q6,q6,qx 0,q6,q6,q6,q6,q6,q6,q6] qi<|U J<|U J<|O _ J<|q7 a fun ao b a=>?_;refine Q9 12 (fun A st=>∃ o p q s t u v x y z aa,st = A [(30,Q2 ao),(29,aa),(28,z),(27,y),(26,x),(25,v),(24,u),(23,t),(22,s),(21,q),(20,p),(19,o)]) ?_ ?_
   ·refine Qa J J b (fun b=>?_) (fun b=>?_)
    ·refine U J<|U J<|q7 b fun ap ab b=>Q0 ab J J<|Qf _ ab J<|U J<|U J<|O _ J<|q7 b fun aq ac b=>Q0 ac J J<|Qf _ ac J<|q7 b fun ar au b=>Q1 (Zz ap aq ar au) J<|O _ J<|q8 ?_;cases b;exact ⟨_,_,_,_,_,_,_,_,_,_,_,J⟩
    refine qb J<|qb J<|qb J<|qb J<|qb J<|qb J<|qb J<|qb J<|qb J<|qb J<|O _ J<|q8 ?_;cases b;exact ⟨_,_,_,_,_,_,_,_,_,_,_,J⟩
   rintro _ ⟨o,p,q,s,t,u,v,x,y,z,aa,rfl⟩;refine q8 ?_;refine qn J a (fun _ a=>?_) (fun _ a=>?_)
   ·refine qp<|qg<|Qc<|Qi [Qt 0,q6,Qt 0,q6,qx 0,q6,q6,q6,qx 0,q6,q6,q6,q6,q6,q6,q6,q6,q6] qi<|U J<|U J<|U J<|U J<|O _ J<|U J<|U J<|O _ J<|q7 a fun ad ae a=>Q0 ae J J<|Qf _ ae J<|U J<|U J<|q7 a fun af ag a=>Q0 ag J J<|Qf _ ag J<|q7 a fun ax ah a=>Q0 ah J J<|Qz (ds:=[qd ad]) ad ah J J J J J J J J (leb J) J<|q7 a fun ay ai a=>Q0 ai qe J<|Qz (ds:=[qd af]) af ai J J J J J J J J (leb J) J<|Q4<|Qp<|Q5<|U J<|O _ J<|qa J<|Q4<|⟨_,qr a,wkE [] [] [] J ⟨⟨_,J,K3 qe J Q3 (ltd J)⟩,qm J,qm J,qm J,qm J,trivial⟩ ⟨Qq J J,trivial⟩⟩
   refine Qh ?_;refine ⟨_,qr a,fun hm=>?_⟩;subst hm;obtain rfl:=qw n;exact ⟨_,J,wkA [] [] []⟩
  intro j hb;subst hb;refine Q5<|U J<|O _ J<|qa J<|Q4<|⟨_,qr c,wkA [] [] []⟩
 refine Qh ?_;refine ⟨_,qr c,fun hm=>?_⟩;subst hm;obtain rfl:=qw k;exact ⟨.inl J,_,J,wkA [] [] []⟩
theorem qpe (l : List Int) (m : Int) (f : Int) (g : Int) (r : List Int) (h : q5b  l m f g = some r) : K5 Tryz.prog tab 176 [.hs 0 1 0 l.length,q9 m,q9 f,q9 g] [(0,.dat 1 (l.map (eI .i64)))] 1 (.d (.tup [])) [(0,.dat 1 (r.map (eI .i64)))] 1:=by
 unfold q5b at h;refine Kl Tryz.func176 J qi qi J<|qc<|U J<|qa J<|q8<|q7 h fun ao ap h=>Qc<|Qm (q8b f g) (fun c=>⟨[(0,.hs 0 1 0 c.2.length),(2,q9 f),(3,q9 g),(8,q9 c.1)],[(0,.dat 1 (c.2.map (eI .i64)))],1⟩) _ ao ap (wkA [] [] []) ?_;intro c bc a;unfold q8b at a;refine Qc<|qc<|U J<|O _ J<|O _ J<|qa J<|q8<|qg<|qc<|U J<|U J<|O _ J<|q8 ?_;refine qn J a (fun _ a=>?_) (fun _ a=>?_)
 ·refine Qh ?_;refine ⟨_,qr a,fun hm=>?_⟩;subst hm;obtain rfl:=qw h;exact ⟨.inl J,_,J,wkA [] [] []⟩
 refine qp<|qg<|qg<|Qi [q6,q6,qx 0,q6,q6,q6,q6,q6,q6,qx 0,q6,q6,q6,q6,q6,q6,q6,q6,q6,q6] qi<|U J<|O _ J<|U J<|O _ J<|q7 a fun aq b a=>?_;refine Q9 16 (fun A st=>∃ n o p q s t u v x y z aa ab ac ad,st = A [(36,Q2 aq),(35,ad),(34,ac),(33,ab),(32,aa),(31,z),(30,y),(29,x),(28,v),(27,u),(26,t),(25,s),(24,q),(23,p),(22,o),(21,n)]) ?_ ?_
 ·refine Qa J J b (fun b=>?_) (fun b=>?_)
  ·refine U J<|U J<|U J<|O _ J<|q7 b fun ar ae b=>Q0 ae J J<|Qf _ ae J<|U J<|U J<|U J<|O _ J<|O _ J<|q7 b fun au af b=>Q0 af J J<|Qf _ af J<|q7 b fun av aw b=>Q1 (Zz ar au av aw) J<|O _ J<|q8 ?_;cases b;exact ⟨_,_,_,_,_,_,_,_,_,_,_,_,_,_,_,J⟩
  refine qb J<|qb J<|qb J<|qb J<|qb J<|qb J<|qb J<|qb J<|qb J<|qb J<|qb J<|qb J<|qb J<|qb J<|O _ J<|q8 ?_;cases b;exact ⟨_,_,_,_,_,_,_,_,_,_,_,_,_,_,_,J⟩
 rintro _ ⟨n,o,p,q,s,t,u,v,x,y,z,aa,ab,ac,ad,rfl⟩;refine q8<|q7 a fun ax j a=>?_;refine Y2 (fun k=>k = ax) (fun k=>⟨[(0,.hs 0 1 0 c.2.length),(2,q9 f),(3,q9 g),(8,q9 c.1),(9,q9 k)],[(0,.dat 1 (c.2.map (eI .i64)))],1⟩) qe ?_ ?_
 ·refine qn J j (fun _ j=>?_) (fun _ j=>?_)
  ·refine Q5<|U J<|O _ J<|qa J<|Q4 ?_;obtain rfl:=qw j;exact ⟨_,J,wkA [] [] []⟩
  refine qp<|Ql ?_;obtain rfl:=qw j;exact ⟨_,J,wkA [] [] []⟩
 intro k hb;subst hb;refine qg<|qg<|Qi [q6,q6,qx 0,q6,q6,q6,q6,q6,qx 0,q6,q6,q6,q6,q6] qi<|U J<|U J<|U J<|O _ J<|q7 a fun ay ag a=>Q0 ag J J<|Qf _ ag J<|U J<|U J<|U J<|O _ J<|q7 a fun az ah a=>Q0 ah J J<|Qf _ ah J<|q7 a fun ba bb a=>Q1 (Zz ay az ba bb) J<|O _ J<|q8 ?_;refine qn J a (fun _ a=>?_) (fun _ a=>?_)
 ·refine q51 ?_;refine ⟨_,qr a,fun hm=>?_⟩;subst hm;obtain rfl:=qw h;exact ⟨.inr J,_,J,wkA [] [] []⟩
 refine qp<|qg<|Qi [Qt 0,q6,Qt 0,q6,qx 0,q6,q6,q6,q6,q6,qx 0,q6,q6,q6,q6,q6,q6,q6,q6,q6,q6,q6,q6,q6] qi<|U J<|U J<|U J<|O _ J<|U J<|U J<|U J<|O _ J<|U J<|U J<|U J<|O _ J<|q7 a fun ai aj a=>Q0 aj J J<|Qf _ aj J<|U J<|U J<|U J<|O _ J<|q7 a fun ak al a=>Q0 al J J<|Qf _ al J<|q7 a fun bd am a=>Q0 am J J<|Qz (ds:=[qd ai]) ai am J J J J J J J J (leb J) J<|q7 a fun be an a=>Q0 an qe J<|Qz (ds:=[qd ak]) ak an J J J J J J J J (leb J) J<|q8<|Q5<|U J<|qa J<|Q4<|Qp<|Ql<|⟨_,qr a,wkE [] [] [] J ⟨⟨_,J,K3 qe J Q3 (ltd J)⟩,qm J,qm J,qm J,trivial⟩ ⟨Qq J J,trivial⟩⟩
theorem q12e (l : List Int) (b : Int) (g : Int) (r : List Int) (h : q7k  l b g = some r) : K5 Tryz.prog tab 158 [.hs 0 1 0 l.length,q9 b,q9 g] [(0,.dat 1 (l.map (eI .i64)))] 1 (.d (.tup [])) [(0,.dat 1 (r.map (eI .i64)))] 1:=by
 unfold q7k at h;refine Kl Tryz.func158 J qi qi J<|qc<|U J<|qa J<|qt<|qa J<|qt<|U J<|U J<|O _ J<|qa J<|q8<|qg<|qc<|U J<|O _ J<|O _ J<|qa J<|q8<|q7 h fun p x h=>?_;refine Qo (fun k=>k = p) (fun k=>⟨[(0,.hs 0 1 0 k.length),(6,q9 b),(7,q9 0),(8,.d (qd (w64 (g - b))))],[(0,.dat 1 (k.map (eI .i64)))],1⟩) qe ?_ ?_
 ·refine Qm (q7l g b) (fun j=>⟨[(0,.hs 0 1 0 j.2.length),(6,q9 b),(7,q9 0),(8,.d (qd (w64 (g - b)))),(9,q9 j.1)],[(0,.dat 1 (j.2.map (eI .i64)))],1⟩) _ p x (wkA [] [] []) ?_;intro j ag c;unfold q7l at c;refine qg<|qc<|U J<|O _ J<|q8 ?_;refine qn J c (fun _ c=>?_) (fun _ c=>?_)
  ·refine qp<|qg<|Qc<|Q5<|U J<|U J<|U J<|U J<|q7 c fun q y c=>q7 c fun ah z c=>?_;have aa:=Ks z;refine K8 [(0,0)] [(0,0)] _ (.d (.tup [])) 1 [(0,.dat 1 (q.map (eI .i64)))] 1 (qpe j.2 j.1 (w64 (g - b)) b q y)<|Q4<|Qp<|Q5<|U J<|O _ J<|qa J<|Q4<|⟨_,qr c,wkE [] [] [] J ⟨⟨_,J,K3 (by simp [aa]) J Q3 (ltd J)⟩,qm J,qm J,qm J,qm J,trivial⟩ ⟨Qq J J,trivial⟩⟩
  refine Qh ?_;refine ⟨_,qr c,fun hm=>?_⟩;subst hm;exact ⟨_,J,wkA [] [] []⟩
 intro k hb;subst hb;refine qc<|U J<|O _ J<|qa J<|q8<|q7 h fun ab ac h=>Qc<|Qm (q7m b) (fun f=>⟨[(0,.hs 0 1 0 f.2.length),(6,q9 b),(7,q9 0),(10,q9 f.1)],[(0,.dat 1 (f.2.map (eI .i64)))],1⟩) _ ab ac (wkA [] [] []) ?_;intro f ai a;unfold q7m at a;refine qg<|qc<|U J<|O _ J<|q8 ?_;refine qn J a (fun _ a=>?_) (fun _ a=>?_)
 ·refine qp<|qg<|Qc<|qg<|Qi [Qt 0,q6,Qt 0,q6,qx 0,q6,q6,q6,qx 0,q6,q6,q6,q6,q6,q6,q6,q6,q6,q6,q6] qi<|U J<|U J<|U J<|U J<|U J<|O _ J<|U J<|U J<|U J<|O _ J<|q7 a fun m s a=>Q0 s J J<|Qf _ s J<|U J<|U J<|q7 a fun n t a=>Q0 t J J<|Qf _ t J<|q7 a fun aj u a=>Q0 u J J<|Qz (ds:=[qd m]) m u J J J J J J J J (leb J) J<|q7 a fun ak v a=>Q0 v qe J<|Qz (ds:=[qd n]) n v J J J J J J J J (leb J) J<|q8<|Q5<|U J<|U J<|U J<|U J<|q7 a fun o ad a=>q7 a fun al ae a=>?_;have af:=Ks ae;refine q1b [(0,0)] [(0,0)] [.hs 0 1 0 f.2.length,q9 0,q9 f.1,q9 b] (.d (.tup [])) [(0,.dat 1 (o.map (eI .i64)))] [(0,.dat 1 (o.map (eI .i64)))] 1 (qpe ((f.2.set b.toNat m).set (w64 (b + f.1)).toNat n) 0 f.1 b o ad) J J J (Yz [(0,0)] [] [] J ⟨⟨_,J,K3 qe J Q3 (ltd J)⟩,qm J,qm J,qm J,trivial⟩ ⟨Qq J J,trivial⟩) (Yz [(0,0)] [] [] J ⟨qm J,trivial⟩ ⟨Qq J J,trivial⟩) J ⟨.inl J,trivial⟩<|Q4<|Qp<|Q5<|U J<|O _ J<|qa J<|Q4<|⟨_,qr a,wkE [] [] [] J ⟨⟨_,J,K3 (by simp [af]) J Q3 (ltd J)⟩,qm J,qm J,qm J,trivial⟩ ⟨Qq J J,trivial⟩⟩
 refine Qh ?_;refine ⟨_,qr a,fun hm=>?_⟩;subst hm;obtain rfl:=qw h;exact ⟨.inl J,_,J,wkA [] [] []⟩
theorem qi5 (b : List Int) (c : Int) (f : Int) (g : Int) (r : Int × Int × Int) (a : q3l  b c f g = some r) : K5 Tryz.prog tab 185 [.d (.sl 1 (b.map (eI .i64))),q9 c,q9 f,.ref 0 1 0 0] [(0,.dat 1 [[qd g]])] 1 (.d (.tup [qd r.1,qd r.2.1])) [(0,.dat 1 [[qd r.2.2]])] 1:=by
 unfold q3l at a;refine Kl Tryz.func185 J qi qi J<|qc<|qa J<|qa J<|q8<|qg<|qg<|Qi [q6,q6,q6,q6,q6,q6,q6,q6,q6] qi<|U J<|U J<|q7 a fun h j a=>Qn j J<|O _ J<|U J<|U J<|q7 a fun k l a=>Qn l J<|O _ J<|q7 a fun m n a=>Q1 (Zz h k m n) J<|q8 ?_;refine qn J a (fun _ a=>?_) (fun _ a=>?_)
 ·refine qc<|U J<|O _ J<|O _ J<|O _ J<|O _ J<|Qd 0 _ J<|qt<|U J<|U J<|qa J<|qa J<|qu ?_;obtain rfl:=qw a;exact ⟨.inr J,_,J,wkA [] [] []⟩
 refine qp<|qc<|U J<|U J<|qa J<|qa J<|qu ?_;obtain rfl:=qw a;exact ⟨.inr J,_,J,wkA [] [] []⟩
theorem qpb (f : List Int) (h : Int) (j : Int) (k : Int) (l : Int) (r : Int × Int) (a : q55  f h j k l = some r) : K5 Tryz.prog tab 180 [.d (.sl 1 (f.map (eI .i64))),q9 h,q9 j,q9 k,.ref 0 1 0 0] [(0,.dat 1 [[qd l]])] 1 (q9 r.1) [(0,.dat 1 [[qd r.2]])] 1:=by
 unfold q55 at a;refine Kl Tryz.func180 J qi qi J<|qc<|qa J<|qt<|U J<|U J<|U J<|U J<|q7 a fun b m a=>K8 [(0,0)] [(0,0)] _ (.d (.tup [qd b.1,qd b.2.1])) 1 [(0,.dat 1 [[qd b.2.2]])] 1 (qi5 f h j l b m)<|U J<|O _ J<|O _ J<|qa J<|qa J<|qt<|U J<|U J<|U J<|U J<|q7 a fun c n a=>K8 [(0,0)] [(0,0)] _ (.d (.tup [qd c.1,qd c.2.1])) 1 [(0,.dat 1 [[qd c.2.2]])] 1 (qi5 f b.2.1 k b.2.2 c n)<|U J<|O _ J<|O _ J<|qa J<|qa J<|qt<|U J<|U J<|U J<|U J<|q7 a fun g o a=>K8 [(0,0)] [(0,0)] _ (.d (.tup [qd g.1,qd g.2.1])) 1 [(0,.dat 1 [[qd g.2.2]])] 1 (qi5 f b.1 c.1 c.2.2 g o)<|U J<|O _ J<|O _ J<|qa J<|qa J<|qt ?_;refine U J<|qa J<|qu ?_;obtain rfl:=qw a;exact ⟨.inr J,_,J,wkA [] [] []⟩
theorem qi3 (c : List Int) (a : Int) (f : Int) (r : Int × Int) (b : q3k  c a f = some r) : K5 Tryz.prog tab 179 [.d (.sl 1 (c.map (eI .i64))),q9 a,.ref 0 1 0 0] [(0,.dat 1 [[qd f]])] 1 (q9 r.1) [(0,.dat 1 [[qd r.2]])] 1:=by
 unfold q3k at b;refine Kl Tryz.func179 J qi qi J<|qc<|qa J<|qt<|U J<|U J<|O _ J<|U J<|U J<|O _ J<|U J<|q7 b fun g h b=>K8 [(0,0)] [(0,0)] _ (q9 g.1) 1 [(0,.dat 1 [[qd g.2]])] 1 (qpb c (w64 (a - 1)) a (w64 (a + 1)) f g h)<|qa J<|qu ?_;obtain rfl:=qw b;exact ⟨.inr J,_,J,wkA [] [] []⟩
theorem q12c (h : List Int) (g : Int) (j : Int) (r : Int × Int) (a : q7j h g j = some r) : Pure Tryz.prog tab 160 [.sl 1 (h.map (eI .i64)),qd g,qd j] (.tup [qd r.1,qd r.2]):=by
 unfold q7j at a;refine Qk Tryz.func160 J qi qi J<|qc<|qa J<|qa J<|qt<|U J<|U J<|O _ J<|qa J<|qt<|Qr J J<|qt<|U J<|U J<|O _ J<|O _ J<|O _ J<|qa J<|qt<|U J<|U J<|O _ J<|O _ J<|O _ J<|qa J<|qt<|U J<|U J<|O _ J<|O _ J<|O _ J<|qa J<|q8<|qg<|qc<|U J<|O _ J<|q8<|q7 a fun p f a=>?_;refine Y2 (fun k=>k = p) (fun k=>⟨[(9,.ref 0 1 0 0),(11,q9 k.1)],[(0,.dat 1 [[qd k.2]])],1⟩) qe ?_ ?_
 ·refine qn J f (fun _ f=>?_) (fun _ f=>?_)
  ·refine qg<|qc<|U J<|O _ J<|q8<|q7 f fun q b f=>?_;refine Y2 (fun c=>c = q) (fun c=>⟨[(0,.d (.sl 1 (h.map (eI .i64)))),(9,.ref 0 1 0 0),(10,q9 c.1),(11,q9 c.2.1),(12,q9 c.2.2.1)],[(0,.dat 1 [[qd c.2.2.2]])],1⟩) qe ?_ ?_
   ·refine qn J b (fun _ b=>?_) (fun _ b=>?_)
    ·refine qc<|U J<|U J<|q7 b fun l s b=>K8 [(0,0)] [(0,0)] _ (q9 l.1) 1 [(0,.dat 1 [[qd l.2]])] 1 (qi3 h (w64 (g + (w64 ((w64 (Int.tdiv (w64 (j - g)) 4)) * 1)))) 0 l s)<|qa J<|qt<|U J<|U J<|q7 b fun m t b=>K8 [(0,0)] [(0,0)] _ (q9 m.1) 1 [(0,.dat 1 [[qd m.2]])] 1 (qi3 h (w64 (g + (w64 ((w64 (Int.tdiv (w64 (j - g)) 4)) * 2)))) l.2 m t)<|qa J<|q8<|Q5<|U J<|U J<|q7 b fun n u b=>K8 [(0,0)] [(0,0)] _ (q9 n.1) 1 [(0,.dat 1 [[qd n.2]])] 1 (qi3 h (w64 (g + (w64 ((w64 (Int.tdiv (w64 (j - g)) 4)) * 3)))) m.2 n u)<|qa J<|Q4 ?_;obtain rfl:=qw b;exact ⟨_,J,wkA [(0,0)] [] []⟩
    refine qp<|Ql ?_;obtain rfl:=qw b;exact ⟨_,J,wkA [(0,0)] [] []⟩
   intro c hb;subst hb;refine Q5<|U J<|U J<|U J<|U J<|q7 f fun o v f=>K8 [(0,0)] [(0,0)] _ (q9 o.1) 1 [(0,.dat 1 [[qd o.2]])] 1 (qpb h c.1 c.2.1 c.2.2.1 c.2.2.2 o v)<|qa J<|Q4 ?_;obtain rfl:=qw f;exact ⟨_,J,wkA [(0,0)] [] []⟩
  refine qp<|Ql ?_;obtain rfl:=qw f;exact ⟨_,J,wkA [(0,0)] [] []⟩
 intro k hb;subst hb;refine qc<|O _ J<|q8<|Qc<|qc<|O _ J<|qa J<|q8 ?_;refine qn J a (fun _ a=>?_) (fun _ a=>?_)
 ·refine qc<|U J<|qa J<|qa J<|qu ?_;cases a;exact Q7 _ J
 refine qc<|O _ J<|qa J<|q8 ?_;refine qn J a (fun _ a=>?_) (fun _ a=>?_)
 ·refine qc<|U J<|qa J<|qa J<|qu ?_;cases a;exact Q7 _ J
 refine qc<|U J<|qa J<|qa J<|qu ?_;cases a;exact Q7 _ J
theorem q12s (f : List Int) (g : Int) (h : Int) (r : List Int) (c : q89  f g h = some r) : K5 Tryz.prog tab 161 [.hs 0 1 0 f.length,q9 g,q9 h] [(0,.dat 1 (f.map (eI .i64)))] 1 (.d (.tup [])) [(0,.dat 1 (r.map (eI .i64)))] 1:=by
 unfold q89 at c;refine Kl Tryz.func161 J qi qi J<|qc<|U J<|qa J<|qt<|U J<|O _ J<|qa J<|q8<|q7 c fun p q c=>Qc<|Qm (qb4) (fun b=>⟨[(0,.hs 0 1 0 b.2.2.length),(6,q9 b.1),(7,q9 b.2.1)],[(0,.dat 1 (b.2.2.map (eI .i64)))],1⟩) _ p q (wkA [] [] []) ?_;intro b s a;unfold qb4 at a;refine qg<|qc<|U J<|U J<|O _ J<|q8 ?_;refine qn J a (fun _ a=>?_) (fun _ a=>?_)
 ·refine qp<|Qc<|qg<|Qi [Qt 0,q6,Qt 0,q6,qx 0,q6,q6,q6,qx 0,q6,q6,q6,q6,q6,q6,q6] qi<|U J<|U J<|U J<|U J<|U J<|U J<|q7 a fun j k a=>Q0 k J J<|Qf _ k J<|U J<|U J<|q7 a fun l m a=>Q0 m J J<|Qf _ m J<|q7 a fun t n a=>Q0 n J J<|Qz (ds:=[qd j]) j n J J J J J J J J (leb J) J<|q7 a fun u o a=>Q0 o qe J<|Qz (ds:=[qd l]) l o J J J J J J J J (leb J) J<|qt<|U J<|O _ J<|qa J<|q8<|Q5<|U J<|O _ J<|qa J<|Q4<|Qp<|Ql<|⟨_,qr a,wkE [] [] [] J ⟨⟨_,J,K3 qe J Q3 (ltd J)⟩,qm J,qm J,trivial⟩ ⟨Qq J J,trivial⟩⟩
 refine Qh ?_;refine ⟨_,qr a,fun hm=>?_⟩;subst hm;obtain rfl:=qw c;exact ⟨.inl J,_,J,wkA [] [] []⟩
theorem q12i (u : List Int) (h : Int) (f : Int) (r : Bool × List Int) (n : q57  u h f = some r) : K5 Tryz.prog tab 162 [.hs 0 1 0 u.length,q9 h,q9 f] [(0,.dat 1 (u.map (eI .i64)))] 1 (Q2 r.1) [(0,.dat 1 (r.2.map (eI .i64)))] 1:=by
 unfold q57 at n;refine Kl Tryz.func162 J qi qi J<|qc<|qa J<|qt<|U J<|O _ J<|qa J<|q8<|qg<|qc<|qa J<|q8<|q7 n fun y bl n=>?_;refine Qo (fun q=>.inl q = y) (fun q=>⟨[],[(0,.dat 1 (q.map (eI .i64)))],1⟩) qe ?_ ?_
 ·refine Qm (q58 f h) (fun d=>⟨[(0,.hs 0 1 0 d.2.2.length),(1,q9 h),(2,q9 f),(7,q9 d.1),(8,q9 d.2.1)],[(0,.dat 1 (d.2.2.map (eI .i64)))],1⟩) _ y bl (wkA [] [] []) ?_;intro d ci j;unfold q58 at j;refine qg<|qc<|U J<|O _ J<|q8 ?_;refine qn J j (fun _ j=>?_) (fun _ j=>?_)
  ·refine qp<|qg<|q7 j fun bm a j=>?_;refine Qo (fun o=>.inl o = bm) (fun o=>⟨[(0,.hs 0 1 0 o.2.length),(1,q9 h),(2,q9 f),(7,q9 o.1),(8,q9 d.2.1)],[(0,.dat 1 (o.2.map (eI .i64)))],1⟩) qe ?_ ?_
   ·refine qg<|q7 a fun z bn a=>?_;refine Qo (fun k=>k = z) (fun k=>⟨[(0,.hs 0 1 0 d.2.2.length),(1,q9 h),(2,q9 f),(7,q9 k),(8,q9 d.2.1)],[(0,.dat 1 (d.2.2.map (eI .i64)))],1⟩) qe ?_ ?_
    ·refine Qm (q7t f d) (fun aa=>⟨[(0,.hs 0 1 0 d.2.2.length),(1,q9 h),(2,q9 f),(7,q9 aa),(8,q9 d.2.1)],[(0,.dat 1 (d.2.2.map (eI .i64)))],1⟩) _ z bn (wkA [] [] []) ?_;intro aa cj l;unfold q7t at l;refine qg<|qg<|Qi [q6,q6,q6,qx 0,q6,q6,q6,q6,qx 0,q6,q6,q6,q6,q6,q6,q6] qi<|U J<|U J<|O _ J<|q7 l fun bo g l=>?_;refine Q9 13 (fun A st=>∃ ab ac ad ae af ag ah ai aj ak al am,st = A [(32,Q2 bo),(31,am),(30,al),(29,ak),(28,aj),(27,ai),(26,ah),(25,ag),(24,af),(23,ae),(22,ad),(21,ac),(20,ab)]) ?_ ?_
     ·refine Qa J J g (fun g=>?_) (fun g=>?_)
      ·refine U J<|U J<|q7 g fun bp an g=>Q0 an J J<|Qf _ an J<|U J<|U J<|O _ J<|q7 g fun bq ao g=>Q0 ao J J<|Qf _ ao J<|q7 g fun br bs g=>Q1 (Zz bp bq br bs) J<|O _ J<|O _ J<|q8 ?_;cases g;exact ⟨_,_,_,_,_,_,_,_,_,_,_,_,J⟩
      refine qb J<|qb J<|qb J<|qb J<|qb J<|qb J<|qb J<|qb J<|qb J<|qb J<|qb J<|O _ J<|q8 ?_;cases g;exact ⟨_,_,_,_,_,_,_,_,_,_,_,_,J⟩
     rintro _ ⟨ab,ac,ad,ae,af,ag,ah,ai,aj,ak,al,am,rfl⟩;refine q8 ?_;refine qn J l (fun _ l=>?_) (fun _ l=>?_)
     ·refine qp<|Qc<|Q5<|U J<|O _ J<|qa J<|Q4<|Qp<|Ql<|⟨_,qr l,wkA [] [] []⟩
     refine Qh ?_;refine ⟨_,qr l,fun hm=>?_⟩;subst hm;exact ⟨_,J,wkA [] [] []⟩
    intro k hb;subst hb;refine qg<|qc<|U J<|U J<|O _ J<|q8 ?_;refine qn J a (fun _ a=>?_) (fun _ a=>?_)
    ·refine qc<|qa J<|qu ?_;obtain rfl:=qw a;refine ⟨_,qr j,fun hm=>?_⟩;subst hm;obtain rfl:=qw n;exact ⟨.inr J,_,J,wkA [] [] []⟩
    refine qp<|qg<|qc<|U J<|U J<|O _ J<|O _ J<|q8 ?_;refine qn J a (fun _ a=>?_) (fun _ a=>?_)
    ·refine qc<|qa J<|qu ?_;obtain rfl:=qw a;refine ⟨_,qr j,fun hm=>?_⟩;subst hm;obtain rfl:=qw n;exact ⟨.inr J,_,J,wkA [] [] []⟩
    refine qp<|qg<|Qi [Qt 0,q6,Qt 0,q6,qx 0,q6,q6,q6,qx 0,q6,q6,q6,q6,q6,q6,q6,q6,q6] qi<|U J<|U J<|U J<|U J<|O _ J<|U J<|U J<|O _ J<|q7 a fun ap aq a=>Q0 aq J J<|Qf _ aq J<|U J<|U J<|q7 a fun ar au a=>Q0 au J J<|Qf _ au J<|q7 a fun ck av a=>Q0 av J J<|Qz (ds:=[qd ap]) ap av J J J J J J J J (leb J) J<|q7 a fun cl aw a=>Q0 aw qe J<|Qz (ds:=[qd ar]) ar aw J J J J J J J J (leb J) J<|q8<|qg<|qc<|U J<|U J<|O _ J<|O _ J<|q8<|q7 a fun bt m a=>?_;refine Y2 (fun p=>p = bt) (fun p=>⟨[(0,.hs 0 1 0 p.length),(1,q9 h),(2,q9 f),(7,q9 k),(8,q9 d.2.1)],[(0,.dat 1 (p.map (eI .i64)))],1⟩) qe ?_ ?_
    ·refine qn J m (fun _ m=>?_) (fun _ m=>?_)
     ·refine qc<|U J<|O _ J<|qa J<|q8<|q7 m fun bu bv m=>Qc<|Qm (qar) (fun s=>⟨[(0,.hs 0 1 0 s.2.length),(1,q9 h),(2,q9 f),(7,q9 k),(8,q9 d.2.1),(9,q9 s.1)],[(0,.dat 1 (s.2.map (eI .i64)))],1⟩) _ bu bv (wkE [] [] [] J ⟨⟨_,J,K3 qe J Q3 (ltd J)⟩,qm J,qm J,qm J,qm J,qm J,trivial⟩ ⟨Qq J J,trivial⟩) ?_;intro s cm b;unfold qar at b;refine qg<|qc<|U J<|O _ J<|q8 ?_;refine qn J b (fun _ b=>?_) (fun _ b=>?_)
      ·refine qp<|qg<|Qc<|qg<|qg<|Qi [q6,q6,qx 0,q6,q6,q6,q6,qx 0,q6,q6,q6] qi<|U J<|U J<|q7 b fun bw ax b=>Q0 ax J J<|Qf _ ax J<|U J<|U J<|O _ J<|q7 b fun bz ay b=>Q0 ay J J<|Qf _ ay J<|q7 b fun ca cb b=>Q1 (Zz bw bz ca cb) J<|O _ J<|q8 ?_;refine qn J b (fun _ b=>?_) (fun _ b=>?_)
       ·refine Qh ?_;refine ⟨_,qr b,fun hm=>?_⟩;subst hm;obtain rfl:=qw m;exact ⟨_,J,wkA [] [] []⟩
       refine qp<|Qi [Qt 0,q6,Qt 0,q6,qx 0,q6,q6,q6,qx 0,q6,q6,q6,q6,q6,q6,q6,q6,q6] qi<|U J<|U J<|U J<|U J<|O _ J<|U J<|U J<|O _ J<|q7 b fun az ba b=>Q0 ba J J<|Qf _ ba J<|U J<|U J<|q7 b fun v bb b=>Q0 bb J J<|Qf (q9 v) bb J<|q7 b fun cn bc b=>Q0 bc J J<|Qz (ds:=[qd az]) az bc J J J J J J J J (leb J) J<|q7 b fun co bd b=>Q0 bd qe J<|Qz (ds:=[qd v]) v bd J J J J J J J J (leb J) J<|Q4<|Qp<|Q5<|U J<|O _ J<|qa J<|Q4<|⟨_,qr b,wkE [] [] [] J ⟨⟨_,J,K3 qe J Q3 (ltd J)⟩,qm J,qm J,qm J,qm J,qm J,trivial⟩ ⟨Qq J J,trivial⟩⟩
      refine Qh ?_;refine ⟨_,qr b,fun hm=>?_⟩;subst hm;obtain rfl:=qw m;exact ⟨_,J,wkA [] [] []⟩
     refine qp<|Ql ?_;obtain rfl:=qw m;exact ⟨_,J,wkE [] [] [] J ⟨⟨_,J,K3 qe J Q3 (ltd J)⟩,qm J,qm J,qm J,qm J,trivial⟩ ⟨Qq J J,trivial⟩⟩
    intro p hb;subst hb;refine qc<|U J<|U J<|O _ J<|O _ J<|q8 ?_;refine qn J a (fun _ a=>?_) (fun _ a=>?_)
    ·refine qc<|U J<|O _ J<|qa J<|q8<|q7 a fun cc cd a=>Qc<|Qm (q7u f k) (fun t=>⟨[(0,.hs 0 1 0 t.2.length),(1,q9 h),(2,q9 f),(7,q9 k),(8,q9 d.2.1),(10,q9 t.1)],[(0,.dat 1 (t.2.map (eI .i64)))],1⟩) _ cc cd (wkA [] [] []) ?_;intro t cp c;unfold q7u at c;refine qg<|qc<|U J<|U J<|O _ J<|q8 ?_;refine qn J c (fun _ c=>?_) (fun _ c=>?_)
     ·refine qp<|qg<|Qc<|qg<|qg<|Qi [q6,q6,qx 0,q6,q6,q6,q6,qx 0,q6,q6,q6] qi<|U J<|U J<|q7 c fun ce be c=>Q0 be J J<|Qf _ be J<|U J<|U J<|O _ J<|q7 c fun cf bf c=>Q0 bf J J<|Qf _ bf J<|q7 c fun cg ch c=>Q1 (Zz ce cf cg ch) J<|O _ J<|q8 ?_;refine qn J c (fun _ c=>?_) (fun _ c=>?_)
      ·refine Qh ?_;refine ⟨_,qr c,fun hm=>?_⟩;subst hm;obtain rfl:=qw a;exact ⟨_,J,wkA [] [] []⟩
      refine qp<|Qi [Qt 0,q6,Qt 0,q6,qx 0,q6,q6,q6,qx 0,q6,q6,q6,q6,q6,q6,q6,q6,q6] qi<|U J<|U J<|U J<|U J<|O _ J<|U J<|U J<|O _ J<|q7 c fun bg bh c=>Q0 bh J J<|Qf _ bh J<|U J<|U J<|q7 c fun x bi c=>Q0 bi J J<|Qf (q9 x) bi J<|q7 c fun cq bj c=>Q0 bj J J<|Qz (ds:=[qd bg]) bg bj J J J J J J J J (leb J) J<|q7 c fun cr bk c=>Q0 bk qe J<|Qz (ds:=[qd x]) x bk J J J J J J J J (leb J) J<|Q4<|Qp<|Q5<|U J<|O _ J<|qa J<|Q4<|⟨_,qr c,wkE [] [] [] J ⟨⟨_,J,K3 qe J Q3 (ltd J)⟩,qm J,qm J,qm J,qm J,qm J,trivial⟩ ⟨Qq J J,trivial⟩⟩
     refine Qh ?_;refine ⟨_,qr c,fun hm=>?_⟩;subst hm;obtain rfl:=qw a;exact ⟨_,J,wkA [] [] []⟩
    refine qp<|Ql ?_;obtain rfl:=qw a;exact ⟨_,J,wkA [] [] []⟩
   intro o hb;subst hb;refine Q5<|U J<|O _ J<|qa J<|Q4<|⟨_,qr j,wkA [] [] []⟩
  refine Qh ?_;refine ⟨_,qr j,fun hm=>?_⟩;subst hm;exact ⟨_,J,wkA [] [] []⟩
 intro q hb;subst hb;refine qc<|qa J<|qu ?_;obtain rfl:=qw n;exact ⟨.inr J,_,J,wkA [] [] []⟩
theorem q12l (n : List Int) (g : Int) (p : Int) (q : Int) (r : Int × List Int) (c : q7v  n g p q = some r) : K5 Tryz.prog tab 164 [.hs 0 1 0 n.length,q9 g,q9 p,q9 q] [(0,.dat 1 (n.map (eI .i64)))] 1 (q9 r.1) [(0,.dat 1 (r.2.map (eI .i64)))] 1:=by
 unfold q7v at c;refine Kl Tryz.func164 J qi qi J<|qc<|qa J<|q8<|qg<|Qi [Qt 0,q6,Qt 0,q6,qx 0,q6,q6,q6,qx 0,q6,q6,q6,q6,q6,q6,q6] qi<|U J<|U J<|U J<|U J<|U J<|U J<|q7 c fun s t c=>Q0 t J J<|Qf _ t J<|U J<|U J<|q7 c fun u v c=>Q0 v J J<|Qf _ v J<|q7 c fun bz x c=>Q0 x J J<|Qz (ds:=[qd s]) s x J J J J J J J J (leb J) J<|q7 c fun ca y c=>Q0 y qe J<|Qz (ds:=[qd u]) u y J J J J J J J J (leb J) J<|qt<|U J<|O _ J<|U J<|O _ J<|qa J<|qa J<|q8<|qg<|q7 c fun z bk c=>?_;refine Qo (fun l=>l = z) (fun l=>⟨[(9,q9 l.1)],[(0,.dat 1 (l.2.map (eI .i64)))],1⟩) qe ?_ ?_
 ·refine Qm (q7w g) (fun b=>⟨[(0,.hs 0 1 0 b.2.2.length),(1,q9 g),(9,q9 b.1),(10,q9 b.2.1)],[(0,.dat 1 (b.2.2.map (eI .i64)))],1⟩) _ z bk (wkE [] [] [] J ⟨⟨_,J,K3 qe J Q3 (ltd J)⟩,qm J,qm J,qm J,trivial⟩ ⟨Qq J J,trivial⟩) ?_;intro b cb a;unfold q7w at a;refine Qc<|qg<|q7 a fun aa bl a=>?_;refine Qo (fun k=>k = aa) (fun k=>⟨[(0,.hs 0 1 0 b.2.2.length),(1,q9 g),(9,q9 k),(10,q9 b.2.1)],[(0,.dat 1 (b.2.2.map (eI .i64)))],1⟩) qe ?_ ?_
  ·refine Qm (q7x b g) (fun ab=>⟨[(0,.hs 0 1 0 b.2.2.length),(1,q9 g),(9,q9 ab),(10,q9 b.2.1)],[(0,.dat 1 (b.2.2.map (eI .i64)))],1⟩) _ aa bl (wkA [] [] []) ?_;intro ab cc h;unfold q7x at h;refine qg<|qg<|Qi [q6,q6,q6,qx 0,q6,q6,q6,qx 0,q6,q6,q6,q6,q6,q6,q6] qi<|U J<|U J<|O _ J<|q7 h fun bm d h=>?_;refine Q9 12 (fun A st=>∃ ac ad ae af ag ah ai aj ak al am,st = A [(43,Q2 bm),(42,am),(41,al),(40,ak),(39,aj),(38,ai),(37,ah),(36,ag),(35,af),(34,ae),(33,ad),(32,ac)]) ?_ ?_
   ·refine Qa J J d (fun d=>?_) (fun d=>?_)
    ·refine U J<|U J<|q7 d fun bn an d=>Q0 an J J<|Qf _ an J<|U J<|U J<|q7 d fun bo ao d=>Q0 ao J J<|Qf _ ao J<|q7 d fun bp bq d=>Q1 (Zz bn bo bp bq) J<|O _ J<|O _ J<|q8 ?_;cases d;exact ⟨_,_,_,_,_,_,_,_,_,_,_,J⟩
    refine qb J<|qb J<|qb J<|qb J<|qb J<|qb J<|qb J<|qb J<|qb J<|qb J<|O _ J<|q8 ?_;cases d;exact ⟨_,_,_,_,_,_,_,_,_,_,_,J⟩
   rintro _ ⟨ac,ad,ae,af,ag,ah,ai,aj,ak,al,am,rfl⟩;refine q8 ?_;refine qn J h (fun _ h=>?_) (fun _ h=>?_)
   ·refine qp<|Qc<|Q5<|U J<|O _ J<|qa J<|Q4<|Qp<|Ql<|⟨_,qr h,wkA [] [] []⟩
   refine Qh ?_;refine ⟨_,qr h,fun hm=>?_⟩;subst hm;exact ⟨_,J,wkA [] [] []⟩
  intro k hb;subst hb;refine qg<|q7 a fun ap br a=>?_;refine Qo (fun m=>m = ap) (fun m=>⟨[(0,.hs 0 1 0 b.2.2.length),(1,q9 g),(9,q9 k),(10,q9 m)],[(0,.dat 1 (b.2.2.map (eI .i64)))],1⟩) qe ?_ ?_
  ·refine Qm (q7y k b g) (fun aq=>⟨[(0,.hs 0 1 0 b.2.2.length),(1,q9 g),(9,q9 k),(10,q9 aq)],[(0,.dat 1 (b.2.2.map (eI .i64)))],1⟩) _ ap br (wkA [] [] []) ?_;intro aq cd j;unfold q7y at j;refine qg<|qg<|Qi [q6,q6,qx 0,q6,q6,q6,qx 0,q6,q6,q6,q6,q6,q6,q6] qi<|U J<|U J<|O _ J<|q7 j fun bs f j=>?_;refine Q9 11 (fun A st=>∃ ar au av aw ax ay az ba bb bc,st = A [(59,Q2 bs),(58,bc),(57,bb),(56,ba),(55,az),(54,ay),(53,ax),(52,aw),(51,av),(50,au),(49,ar)]) ?_ ?_
   ·refine Qa J J f (fun f=>?_) (fun f=>?_)
    ·refine U J<|U J<|q7 f fun bt bd f=>Q0 bd J J<|Qf _ bd J<|U J<|U J<|q7 f fun bu be f=>Q0 be J J<|Qf _ be J<|q7 f fun bv bw f=>Q1 (Zz bt bu bv bw) J<|O _ J<|q8 ?_;cases f;exact ⟨_,_,_,_,_,_,_,_,_,_,J⟩
    refine qb J<|qb J<|qb J<|qb J<|qb J<|qb J<|qb J<|qb J<|qb J<|O _ J<|q8 ?_;cases f;exact ⟨_,_,_,_,_,_,_,_,_,_,J⟩
   rintro _ ⟨ar,au,av,aw,ax,ay,az,ba,bb,bc,rfl⟩;refine q8 ?_;refine qn J j (fun _ j=>?_) (fun _ j=>?_)
   ·refine qp<|Qc<|Q5<|U J<|O _ J<|qa J<|Q4<|Qp<|Ql<|⟨_,qr j,wkA [] [] []⟩
   refine Qh ?_;refine ⟨_,qr j,fun hm=>?_⟩;subst hm;exact ⟨_,J,wkA [] [] []⟩
  intro m hb;subst hb;refine qg<|qc<|U J<|U J<|O _ J<|q8 ?_;refine qn J a (fun _ a=>?_) (fun _ a=>?_)
  ·refine Qh ?_;refine ⟨_,qr a,fun hm=>?_⟩;subst hm;exact ⟨_,J,wkA [] [] []⟩
  refine qp<|qg<|Qi [Qt 0,q6,Qt 0,q6,qx 0,q6,q6,q6,qx 0,q6,q6,q6,q6,q6,q6,q6] qi<|U J<|U J<|U J<|U J<|U J<|U J<|q7 a fun bf bg a=>Q0 bg J J<|Qf _ bg J<|U J<|U J<|q7 a fun o bh a=>Q0 bh J J<|Qf (q9 o) bh J<|q7 a fun ce bi a=>Q0 bi J J<|Qz (ds:=[qd bf]) bf bi J J J J J J J J (leb J) J<|q7 a fun cf bj a=>Q0 bj qe J<|Qz (ds:=[qd o]) o bj J J J J J J J J (leb J) J<|qt<|U J<|O _ J<|qa J<|q8<|Q5<|U J<|O _ J<|qa J<|Q4<|Qp<|Ql<|⟨_,qr a,wkE [] [] [] J ⟨⟨_,J,K3 qe J Q3 (ltd J)⟩,qm J,qm J,qm J,trivial⟩ ⟨Qq J J,trivial⟩⟩
 intro l hb;subst hb;refine qc<|U J<|qa J<|qu ?_;obtain rfl:=qw c;exact ⟨.inr J,_,J,wkA [] [] []⟩
theorem q12m (g : List Int) (b : Int) (s : Int) (k : Int) (r : Int × Bool × List Int) (a : q7z  g b s k = some r) : K5 Tryz.prog tab 165 [.hs 0 1 0 g.length,q9 b,q9 s,q9 k] [(0,.dat 1 (g.map (eI .i64)))] 1 (.d (.tup [qd r.1,.bool r.2.1])) [(0,.dat 1 (r.2.2.map (eI .i64)))] 1:=by
 unfold q7z at a;refine Kl Tryz.func165 J qi qi J<|qc<|qa J<|qa J<|q8<|qg<|Qi [Qt 0,q6,Qt 0,q6,qx 0,q6,q6,q6,qx 0,q6,q6,q6,q6,q6,q6,q6] qi<|U J<|U J<|U J<|U J<|U J<|U J<|q7 a fun h ap a=>Q0 ap J J<|Qf (q9 h) ap J<|U J<|U J<|q7 a fun j aq a=>Q0 aq J J<|Qf (q9 j) aq J<|q7 a fun fu ar a=>Q0 ar J J<|Qz (ds:=[qd h]) h ar J J J J J J J J (leb J) J<|q7 a fun fv au a=>Q0 au qe J<|Qz (ds:=[qd j]) j au J J J J J J J J (leb J) J<|qt<|U J<|O (.d (qd (w64 (b + 1)))) J<|U J<|O (.d (qd (w64 (s - 1)))) J<|qa J<|qa J<|q8<|qg<|q7 a fun av fe a=>?_;refine Qo (fun l=>l = av) (fun (l : Int)=>⟨[(0,.hs 0 1 0 ((g.set b.toNat h).set k.toNat j).length),(1,q9 b),(10,q9 l),(11,.d (qd (w64 (s - 1))))],[(0,.dat 1 (((g.set b.toNat h).set k.toNat j).map (eI .i64)))],1⟩) qe ?_ ?_
 ·refine Qm (q80 s g b h k j) (fun (ab : Int)=>⟨[(0,.hs 0 1 0 ((g.set b.toNat h).set k.toNat j).length),(1,q9 b),(10,q9 ab),(11,.d (qd (w64 (s - 1))))],[(0,.dat 1 (((g.set b.toNat h).set k.toNat j).map (eI .i64)))],1⟩) (w64 (b + 1)) av fe (wkE [] [] [] J ⟨⟨_,J,K3 qe J Q3 (ltd J)⟩,qm J,qm J,qm J,trivial⟩ ⟨Qq J J,trivial⟩) ?_;intro ab fw t;unfold q80 at t;refine qg<|qg<|Qi [q6,q6,qx 0,q6,q6,q6,qx 0,q6,q6,q6,q6,q6,q6,q6] qi<|U J<|U J<|O (.d (.bool (decide (ab≤(w64 (s - 1)))))) J<|q7 t fun ff m t=>?_;refine Q9 11 (fun A st=>∃ (aw ax ay az ba bb bc bd be bf : V),st = A [(43,Q2 ff),(42,bf),(41,be),(40,bd),(39,bc),(38,bb),(37,ba),(36,az),(35,ay),(34,ax),(33,aw)]) ?_ ?_
  ·refine Qa J J m (fun m=>?_) (fun m=>?_)
   ·refine U J<|U J<|q7 m fun bg bh m=>Q0 bh J J<|Qf (q9 bg) bh J<|U J<|U J<|q7 m fun bi bj m=>Q0 bj J J<|Qf (q9 bi) bj J<|q7 m fun bk fg m=>Q1 (Zz bg bi bk fg) J<|O (Q2 bk) J<|q8 ?_;cases m;exact ⟨_,_,_,_,_,_,_,_,_,_,J⟩
   refine qb J<|qb J<|qb J<|qb J<|qb J<|qb J<|qb J<|qb J<|qb J<|O (Q2 false) J<|q8 ?_;cases m;exact ⟨_,_,_,_,_,_,_,_,_,_,J⟩
  rintro _ ⟨aw,ax,ay,az,ba,bb,bc,bd,be,bf,rfl⟩;refine q8 ?_;refine qn J t (fun _ t=>?_) (fun _ t=>?_)
  ·refine qp<|Qc<|Q5<|U J<|O (.d (qd (w64 (ab + 1)))) J<|qa J<|Q4<|Qp<|Ql<|⟨_,qr t,wkA [] [] []⟩
  refine Qh ?_;refine ⟨_,qr t,fun hm=>?_⟩;subst hm;exact ⟨_,J,wkA [] [] []⟩
 intro l hb;subst hb;refine qg<|q7 a fun bl fh a=>?_;refine Qo (fun u=>u = bl) (fun (u : Int)=>⟨[(0,.hs 0 1 0 ((g.set b.toNat h).set k.toNat j).length),(1,q9 b),(10,q9 l),(11,q9 u)],[(0,.dat 1 (((g.set b.toNat h).set k.toNat j).map (eI .i64)))],1⟩) qe ?_ ?_
 ·refine Qm (q81 l g b h k j) (fun (ac : Int)=>⟨[(0,.hs 0 1 0 ((g.set b.toNat h).set k.toNat j).length),(1,q9 b),(10,q9 l),(11,q9 ac)],[(0,.dat 1 (((g.set b.toNat h).set k.toNat j).map (eI .i64)))],1⟩) (w64 (s - 1)) bl fh (wkA [] [] []) ?_;intro ac fx v;unfold q81 at v;refine qg<|qg<|Qi [q6,q6,q6,qx 0,q6,q6,q6,qx 0,q6,q6,q6,q6,q6,q6,q6] qi<|U J<|U J<|O (.d (.bool (decide (l≤ac)))) J<|q7 v fun fi n v=>?_;refine Q9 12 (fun A st=>∃ (bm bn bo bp bq br bs bt bu bv bw : V),st = A [(60,Q2 fi),(59,bw),(58,bv),(57,bu),(56,bt),(55,bs),(54,br),(53,bq),(52,bp),(51,bo),(50,bn),(49,bm)]) ?_ ?_
  ·refine Qa J J n (fun n=>?_) (fun n=>?_)
   ·refine U J<|U J<|q7 n fun bz ca n=>Q0 ca J J<|Qf (q9 bz) ca J<|U J<|U J<|q7 n fun cb cc n=>Q0 cc J J<|Qf (q9 cb) cc J<|q7 n fun ah fj n=>Q1 (Zz bz cb ah fj) J<|O (Q2 (!ah)) J<|O (Q2 (!ah)) J<|q8 ?_;cases n;exact ⟨_,_,_,_,_,_,_,_,_,_,_,J⟩
   refine qb J<|qb J<|qb J<|qb J<|qb J<|qb J<|qb J<|qb J<|qb J<|qb J<|O (Q2 false) J<|q8 ?_;cases n;exact ⟨_,_,_,_,_,_,_,_,_,_,_,J⟩
  rintro _ ⟨bm,bn,bo,bp,bq,br,bs,bt,bu,bv,bw,rfl⟩;refine q8 ?_;refine qn J v (fun _ v=>?_) (fun _ v=>?_)
  ·refine qp<|Qc<|Q5<|U J<|O (.d (qd (w64 (ac - 1)))) J<|qa J<|Q4<|Qp<|Ql<|⟨_,qr v,wkA [] [] []⟩
  refine Qh ?_;refine ⟨_,qr v,fun hm=>?_⟩;subst hm;exact ⟨_,J,wkA [] [] []⟩
 intro u hb;subst hb;refine qg<|qc<|U J<|U J<|O (.d (.bool (decide (l > u)))) J<|q8 ?_;refine qn J a (fun _ a=>?_) (fun _ a=>?_)
 ·refine qg<|Qi [Qt 0,q6,Qt 0,q6,qx 0,q6,q6,q6,qx 0,q6,q6,q6,q6,q6,q6,q6] qi<|U J<|U J<|U J<|U J<|U J<|U J<|q7 a fun ai cd a=>Q0 cd J J<|Qf (q9 ai) cd J<|U J<|U J<|q7 a fun aj ce a=>Q0 ce J J<|Qf (q9 aj) ce J<|q7 a fun fy cf a=>Q0 cf J J<|Qz (ds:=[qd ai]) ai cf J J J J J J J J (leb J) J<|q7 a fun fz cg a=>Q0 cg qe J<|Qz (ds:=[qd aj]) aj cg J J J J J J J J (leb J) J<|qt<|U J<|qa J<|qa J<|qu ?_;obtain rfl:=qw a;exact ⟨.inr J,_,J,wkA [] [] []⟩
 refine qp<|qg<|Qi [Qt 0,q6,Qt 0,q6,qx 0,q6,q6,q6,qx 0,q6,q6,q6,q6,q6,q6,q6] qi<|U J<|U J<|U J<|U J<|U J<|U J<|q7 a fun ad ch a=>Q0 ch J J<|Qf (q9 ad) ch J<|U J<|U J<|q7 a fun ae ci a=>Q0 ci J J<|Qf (q9 ae) ci J<|q7 a fun ga cj a=>Q0 cj J J<|Qz (ds:=[qd ad]) ad cj J J J J J J J J (leb J) J<|q7 a fun gb ck a=>Q0 ck qe J<|Qz (ds:=[qd ae]) ae ck J J J J J J J J (leb J) J<|qt<|U J<|O (.d (qd (w64 (l + 1)))) J<|qa J<|qt<|U J<|O (.d (qd (w64 (u - 1)))) J<|qa J<|q8<|qg<|q7 a fun cl fk a=>?_;refine Qo (fun z=>z = cl) (fun (z : Int × List Int)=>⟨[(0,.hs 0 1 0 z.2.length),(1,q9 b),(11,q9 z.1)],[(0,.dat 1 (z.2.map (eI .i64)))],1⟩) qe ?_ ?_
 ·refine Qm (q82 b) (fun (c : Int × Int × List Int)=>⟨[(0,.hs 0 1 0 c.2.2.length),(1,q9 b),(10,q9 c.1),(11,q9 c.2.1)],[(0,.dat 1 (c.2.2.map (eI .i64)))],1⟩) (w64 (l + 1),w64 (u - 1),(((g.set b.toNat h).set k.toNat j).set l.toNat ad).set u.toNat ae) cl fk (wkE [] [] [] J ⟨⟨_,J,K3 qe J Q3 (ltd J)⟩,qm J,qm J,qm J,trivial⟩ ⟨Qq J J,trivial⟩) ?_;intro c gc f;unfold q82 at f;refine Qc<|qg<|q7 f fun cm fm f=>?_;refine Qo (fun q=>q = cm) (fun (q : Int)=>⟨[(0,.hs 0 1 0 c.2.2.length),(1,q9 b),(10,q9 q),(11,q9 c.2.1)],[(0,.dat 1 (c.2.2.map (eI .i64)))],1⟩) qe ?_ ?_
  ·refine Qm (q83 c b) (fun (af : Int)=>⟨[(0,.hs 0 1 0 c.2.2.length),(1,q9 b),(10,q9 af),(11,q9 c.2.1)],[(0,.dat 1 (c.2.2.map (eI .i64)))],1⟩) c.1 cm fm (wkA [] [] []) ?_;intro af gd x;unfold q83 at x;refine qg<|qg<|Qi [q6,q6,qx 0,q6,q6,q6,qx 0,q6,q6,q6,q6,q6,q6,q6] qi<|U J<|U J<|O (.d (.bool (decide (af≤c.2.1)))) J<|q7 x fun fn o x=>?_;refine Q9 11 (fun A st=>∃ (cn co cp cq cr cs ct cu cv cw : V),st = A [(112,Q2 fn),(111,cw),(110,cv),(109,cu),(108,ct),(107,cs),(106,cr),(105,cq),(104,cp),(103,co),(102,cn)]) ?_ ?_
   ·refine Qa J J o (fun o=>?_) (fun o=>?_)
    ·refine U J<|U J<|q7 o fun cx cy o=>Q0 cy J J<|Qf (q9 cx) cy J<|U J<|U J<|q7 o fun cz da o=>Q0 da J J<|Qf (q9 cz) da J<|q7 o fun dc fo o=>Q1 (Zz cx cz dc fo) J<|O (Q2 dc) J<|q8 ?_;cases o;exact ⟨_,_,_,_,_,_,_,_,_,_,J⟩
    refine qb J<|qb J<|qb J<|qb J<|qb J<|qb J<|qb J<|qb J<|qb J<|O (Q2 false) J<|q8 ?_;cases o;exact ⟨_,_,_,_,_,_,_,_,_,_,J⟩
   rintro _ ⟨cn,co,cp,cq,cr,cs,ct,cu,cv,cw,rfl⟩;refine q8 ?_;refine qn J x (fun _ x=>?_) (fun _ x=>?_)
   ·refine qp<|Qc<|Q5<|U J<|O (.d (qd (w64 (af + 1)))) J<|qa J<|Q4<|Qp<|Ql<|⟨_,qr x,wkA [] [] []⟩
   refine Qh ?_;refine ⟨_,qr x,fun hm=>?_⟩;subst hm;exact ⟨_,J,wkA [] [] []⟩
  intro q hb;subst hb;refine qg<|q7 f fun dd fq f=>?_;refine Qo (fun aa=>aa = dd) (fun (aa : Int)=>⟨[(0,.hs 0 1 0 c.2.2.length),(1,q9 b),(10,q9 q),(11,q9 aa)],[(0,.dat 1 (c.2.2.map (eI .i64)))],1⟩) qe ?_ ?_
  ·refine Qm (q84 q c b) (fun (ag : Int)=>⟨[(0,.hs 0 1 0 c.2.2.length),(1,q9 b),(10,q9 q),(11,q9 ag)],[(0,.dat 1 (c.2.2.map (eI .i64)))],1⟩) c.2.1 dd fq (wkA [] [] []) ?_;intro ag ge y;unfold q84 at y;refine qg<|qg<|Qi [q6,q6,q6,qx 0,q6,q6,q6,qx 0,q6,q6,q6,q6,q6,q6,q6] qi<|U J<|U J<|O (.d (.bool (decide (q≤ag)))) J<|q7 y fun fs p y=>?_;refine Q9 12 (fun A st=>∃ (de df dg dh dj dk dl dm dn dp dq : V),st = A [(129,Q2 fs),(128,dq),(127,dp),(126,dn),(125,dm),(124,dl),(123,dk),(122,dj),(121,dh),(120,dg),(119,df),(118,de)]) ?_ ?_
   ·refine Qa J J p (fun p=>?_) (fun p=>?_)
    ·refine U J<|U J<|q7 p fun dr dt p=>Q0 dt J J<|Qf (q9 dr) dt J<|U J<|U J<|q7 p fun du dv p=>Q0 dv J J<|Qf (q9 du) dv J<|q7 p fun ak ft p=>Q1 (Zz dr du ak ft) J<|O (Q2 (!ak)) J<|O (Q2 (!ak)) J<|q8 ?_;cases p;exact ⟨_,_,_,_,_,_,_,_,_,_,_,J⟩
    refine qb J<|qb J<|qb J<|qb J<|qb J<|qb J<|qb J<|qb J<|qb J<|qb J<|O (Q2 false) J<|q8 ?_;cases p;exact ⟨_,_,_,_,_,_,_,_,_,_,_,J⟩
   rintro _ ⟨de,df,dg,dh,dj,dk,dl,dm,dn,dp,dq,rfl⟩;refine q8 ?_;refine qn J y (fun _ y=>?_) (fun _ y=>?_)
   ·refine qp<|Qc<|Q5<|U J<|O (.d (qd (w64 (ag - 1)))) J<|qa J<|Q4<|Qp<|Ql<|⟨_,qr y,wkA [] [] []⟩
   refine Qh ?_;refine ⟨_,qr y,fun hm=>?_⟩;subst hm;exact ⟨_,J,wkA [] [] []⟩
  intro aa hb;subst hb;refine qg<|qc<|U J<|U J<|O (.d (.bool (decide (q > aa)))) J<|q8 ?_;refine qn J f (fun _ f=>?_) (fun _ f=>?_)
  ·refine Qh ?_;refine ⟨_,qr f,fun hm=>?_⟩;subst hm;exact ⟨_,J,wkA [] [] []⟩
  refine qp<|qg<|Qi [Qt 0,q6,Qt 0,q6,qx 0,q6,q6,q6,qx 0,q6,q6,q6,q6,q6,q6,q6] qi<|U J<|U J<|U J<|U J<|U J<|U J<|q7 f fun al dw f=>Q0 dw J J<|Qf (q9 al) dw J<|U J<|U J<|q7 f fun am dx f=>Q0 dx J J<|Qf (q9 am) dx J<|q7 f fun gf dy f=>Q0 dy J J<|Qz (ds:=[qd al]) al dy J J J J J J J J (leb J) J<|q7 f fun gg dz f=>Q0 dz qe J<|Qz (ds:=[qd am]) am dz J J J J J J J J (leb J) J<|qt<|U J<|O (.d (qd (w64 (q + 1)))) J<|qa J<|q8<|Q5<|U J<|O (.d (qd (w64 (aa - 1)))) J<|qa J<|Q4<|Qp<|Ql<|⟨_,qr f,wkE [] [] [] J ⟨⟨_,J,K3 qe J Q3 (ltd J)⟩,qm J,qm J,qm J,trivial⟩ ⟨Qq J J,trivial⟩⟩
 intro z hb;subst hb;refine qg<|Qi [Qt 0,q6,Qt 0,q6,qx 0,q6,q6,q6,qx 0,q6,q6,q6,q6,q6,q6,q6] qi<|U J<|U J<|U J<|U J<|U J<|U J<|q7 a fun an fa a=>Q0 fa J J<|Qf (q9 an) fa J<|U J<|U J<|q7 a fun ao fb a=>Q0 fb J J<|Qf (q9 ao) fb J<|q7 a fun gh fc a=>Q0 fc J J<|Qz (ds:=[qd an]) an fc J J J J J J J J (leb J) J<|q7 a fun gi fd a=>Q0 fd qe J<|Qz (ds:=[qd ao]) ao fd J J J J J J J J (leb J) J<|qt<|U J<|qa J<|qa J<|qu ?_;obtain rfl:=qw a;exact ⟨.inr J,_,J,wkA [] [] []⟩
theorem qpc (b : Int) (r : Int) (a : q2b b = some r) : Pure Tryz.prog tab 177 [qd b] (.int .u64 r):=by
 unfold q2b at a;refine Qk Tryz.func177 J qi qi J<|qc<|qa J<|qt<|U J<|O _ J<|q7 a fun c d a=>Q1 (qgo (IntKind.wrap .u64 b) c d) J<|q7 a fun g f a=>qxh f J J J<|qa J<|qu ?_;cases a;exact Q7 _ J
theorem qpf (a : Int) (r : Int) (b : q2c  a = some r) : K5 Tryz.prog tab 178 [.ref 0 1 0 0] [(0,.dat 1 [[.int .u64 a]])] 1 (.d (.int .u64 r)) [(0,.dat 1 [[.int .u64 r]])] 1:=by
 unfold q2c at b;refine Kl Tryz.func178 J qi qi J<|qc<|qa J<|q8<|qg<|Qi [Qt 0,q6,q6,q6,qx 0,q6,q6,qx 0,q6,q6] qi<|U J<|O _ J<|O _ J<|U J<|O _ J<|O _ J<|O _ J<|O _ J<|O _ J<|Qd 0 _ J<|q8<|qg<|Qi [Qt 0,q6,q6,q6,qx 0,q6,q6,qx 0,q6,q6] qi<|U J<|O _ J<|O _ J<|U J<|O _ J<|O _ J<|O _ J<|O _ J<|O _ J<|Qd 0 _ J<|q8<|qg<|Qi [Qt 0,q6,q6,q6,qx 0,q6,q6,qx 0,q6,q6] qi<|U J<|O _ J<|O _ J<|U J<|O _ J<|O _ J<|O _ J<|O _ J ?_;refine O _ J<|Qd 0 _ J<|qt<|U J<|O _ J<|O _ J<|qa J<|qu ?_;obtain rfl:=qw b;exact ⟨.inr J,_,J,wkA [] [] []⟩
theorem q12a (m : List Int) (f : Int) (g : Int) (r : List Int) (b : q7h  m f g = some r) : K5 Tryz.prog tab 159 [.hs 0 1 0 m.length,q9 f,q9 g] [(0,.dat 1 (m.map (eI .i64)))] 1 (.d (.tup [])) [(0,.dat 1 (r.map (eI .i64)))] 1:=by
 unfold q7h at b;refine Kl Tryz.func159 J qi qi J<|qc<|U J<|U J<|O _ J<|qa J<|qt<|U J<|O _ J<|q8 ?_;refine qn J b (fun _ b=>?_) (fun _ b=>?_)
 ·refine qc<|U J<|O _ J<|Qr J J<|Qd 1 _ J<|qt<|U J<|q7 b fun j u b=>Q1 (qpc (w64 (g - f)) j u) J<|qa J<|qt<|U J<|U J<|O _ J<|O _ J<|O _ J<|O _ J<|qa J<|q8<|q7 b fun v x b=>Qc<|Qm (q7i f g j) (fun c=>⟨[(0,.hs 0 1 0 c.2.1.length),(1,q9 f),(6,.d (qd (w64 (g - f)))),(7,.ref 1 1 0 0),(8,.d (.int .u64 j)),(9,q9 c.1)],[(0,.dat 1 (c.2.1.map (eI .i64))),(1,.dat 1 [[.int .u64 c.2.2]])],2⟩) _ v x (wkA [(1,1)] [] []) ?_;intro c aa a;unfold q7i at a;refine qg<|qc<|U J<|U J<|U J<|O _ J<|O _ J<|O _ J<|O _ J<|O _ J<|q8 ?_;refine qn J a (fun _ a=>?_) (fun _ a=>?_)
  ·refine qp<|qg<|Qc<|qc<|q7 a fun k y a=>K8 [(0,1)] [(0,1),(1,0)] _ (.d (.int .u64 k)) 1 [(1,.dat 1 [[.int .u64 k]]),(0,.dat 1 (c.2.1.map (eI .i64)))] 2 (qpf c.2.2 k y)<|U J<|O _ J<|O _ J<|O _ J<|qa J<|q8<|qg<|qc<|U J<|U J<|O _ J<|q8<|q7 a fun z h a=>?_;refine Y2 (fun l=>l = z) (fun l=>⟨[(0,.hs 0 1 0 c.2.1.length),(1,q9 f),(6,.d (qd (w64 (g - f)))),(7,.ref 1 1 0 0),(8,.d (.int .u64 j)),(9,q9 c.1),(10,q9 l)],[(0,.dat 1 (c.2.1.map (eI .i64))),(1,.dat 1 [[.int .u64 k]])],2⟩) qe ?_ ?_
   ·refine qn J h (fun _ h=>?_) (fun _ h=>?_)
    ·refine Q5<|U J<|U J<|O _ J<|qa J<|Q4 ?_;obtain rfl:=qw h;exact ⟨_,J,wkA [(1,1)] [] []⟩
    refine qp<|Ql ?_;obtain rfl:=qw h;exact ⟨_,J,wkA [(1,1)] [] []⟩
   intro l hb;subst hb;refine Qi [Qt 0,q6,Qt 0,q6,qx 0,q6,q6,q6,qx 0,q6,q6,q6,q6,q6,q6,q6,q6,q6,q6,q6] qi<|U J<|U J<|U J<|U J<|U J<|O _ J<|U J<|U J<|U J<|O _ J<|q7 a fun n o a=>Q0 o J J<|Qf _ o J<|U J<|U J<|q7 a fun p q a=>Q0 q J J<|Qf _ q J<|q7 a fun ab s a=>Q0 s J J<|Qz (ds:=[qd n]) n s J J J J J J J J (leb J) J<|q7 a fun ac t a=>Q0 t qe J<|Qz (ds:=[qd p]) p t J J J J J J J J (leb J) J<|Q4<|Qp<|Q5<|U J<|O _ J<|qa J<|Q4<|⟨_,qr a,wkE [(1,1)] [] [] J ⟨⟨_,J,K3 qe J Q3 (ltd J)⟩,qm J,qm J,⟨_,J,.ref J Q3 (ltd J)⟩,qm J,qm J,trivial⟩ ⟨Qq J J,Qq J J,trivial⟩⟩
  refine Qh ?_;refine ⟨_,qr a,fun hm=>?_⟩;subst hm;obtain rfl:=qw b;exact ⟨.inl J,_,J,wkA [] [] []⟩
 refine qp<|Ql ?_;obtain rfl:=qw b;exact ⟨.inl J,_,J,wkA [] [] []⟩
theorem q12p (rec : List Int→Int→Int→Int→Option (List Int)) (hrec : ∀ (n : List Int) (p : Int) (q : Int) (s : Int) (r : List Int),rec n p q s = some r→K5 Tryz.prog tab 146 [.hs 0 1 0 n.length,q9 p,q9 q,q9 s] [(0,.dat 1 (n.map (eI .i64)))] 1 (.d (.tup [])) [(0,.dat 1 (r.map (eI .i64)))] 1) (n : List Int) (p : Int) (q : Int) (s : Int) (r : List Int) (o : q5a rec  n p q s = some r) : K5 Tryz.prog tab 146 [.hs 0 1 0 n.length,q9 p,q9 q,q9 s] [(0,.dat 1 (n.map (eI .i64)))] 1 (.d (.tup [])) [(0,.dat 1 (r.map (eI .i64)))] 1:=by
 unfold q5a at o;refine Kl Tryz.func146 J qi qi J<|qc<|qa J<|qt<|qa J<|q8<|q7 o fun ba bb o=>Qc<|Qm (q59 rec) (fun b=>⟨[(0,.hs 0 1 0 b.2.2.2.2.2.length),(1,q9 b.1),(2,q9 b.2.1),(3,q9 b.2.2.1),(8,Q2 b.2.2.2.1),(9,Q2 b.2.2.2.2.1)],[(0,.dat 1 (b.2.2.2.2.2.map (eI .i64)))],1⟩) _ ba bb (wkA [] [] []) ?_;intro b co a;unfold q59 at a;refine Qc<|qc<|U J<|U J<|O _ J<|qa J<|q8<|qg<|qc<|U J<|O _ J<|q8 ?_;refine qn J a (fun _ a=>?_) (fun _ a=>?_)
 ·refine qc<|U J<|U J<|U J<|q7 a fun ab bc a=>q7 a fun cp bd a=>?_;have cq:=Ks bd;refine K8 [(0,0)] [(0,0)] _ (.d (.tup [])) 1 [(0,.dat 1 (ab.map (eI .i64)))] 1 (q12g b.2.2.2.2.2 b.1 b.2.1 ab bc)<|qu ?_;refine ⟨_,qr a,fun hm=>?_⟩;subst hm;obtain rfl:=qw o;exact ⟨.inr J,_,J,wkA [] [] []⟩
 refine qp<|qg<|qc<|U J<|O _ J<|q8 ?_;refine qn J a (fun _ a=>?_) (fun _ a=>?_)
 ·refine qc<|U J<|U J<|U J<|q7 a fun ac be a=>q7 a fun cr bf a=>?_;have cs:=Ks bf;refine K8 [(0,0)] [(0,0)] _ (.d (.tup [])) 1 [(0,.dat 1 (ac.map (eI .i64)))] 1 (q12e b.2.2.2.2.2 b.1 b.2.1 ac be)<|qu ?_;refine ⟨_,qr a,fun hm=>?_⟩;subst hm;obtain rfl:=qw o;exact ⟨.inr J,_,J,wkA [] [] []⟩
 refine qp<|qg<|qc<|U J<|O _ J<|q8<|q7 a fun bg k a=>?_;refine Y2 (fun c=>c = bg) (fun c=>⟨[(0,.hs 0 1 0 c.2.length),(1,q9 b.1),(2,q9 b.2.1),(3,q9 c.1),(8,Q2 b.2.2.2.1),(9,Q2 b.2.2.2.2.1),(10,.d (qd (w64 (b.2.1 - b.1))))],[(0,.dat 1 (c.2.map (eI .i64)))],1⟩) qe ?_ ?_
 ·refine qn J k (fun _ k=>?_) (fun _ k=>?_)
  ·refine qc<|U J<|U J<|U J<|q7 k fun ad bh k=>q7 k fun ct bi k=>?_;have bj:=Ks bi;refine K8 [(0,0)] [(0,0)] _ (.d (.tup [])) 1 [(0,.dat 1 (ad.map (eI .i64)))] 1 (q12a b.2.2.2.2.2 b.1 b.2.1 ad bh)<|q8<|Q5<|U J<|O _ J<|qa J<|Q4 ?_;obtain rfl:=qw k;exact ⟨_,J,wkE [] [] [] J ⟨⟨_,J,K3 (by simp [bj]) J Q3 (ltd J)⟩,qm J,qm J,qm J,qm J,qm J,qm J,trivial⟩ ⟨Qq J J,trivial⟩⟩
  refine qp<|Ql ?_;obtain rfl:=qw k;exact ⟨_,J,wkA [] [] []⟩
 intro c hb;subst hb;refine qc<|U J<|U J<|U J<|q7 a fun bk bl a=>q37 [.hs 0 1 0 c.2.length,q9 b.1,q9 b.2.1] (q12c c.2 b.1 b.2.1 bk bl) J J (Je (Jb J J) (Je J (Je J J))) (.inr J)<|U J<|O _ J<|O _ J<|qa J<|qa J<|q8<|qg<|qc<|U J<|O _ J<|q8<|q7 a fun bm l a=>?_;refine Y2 (fun g=>g = bm) (fun g=>⟨[(0,.hs 0 1 0 g.2.2.length),(1,q9 b.1),(2,q9 b.2.1),(3,q9 c.1),(8,Q2 b.2.2.2.1),(9,Q2 b.2.2.2.2.1),(10,.d (qd (w64 (b.2.1 - b.1)))),(11,q9 g.1),(12,q9 g.2.1)],[(0,.dat 1 (g.2.2.map (eI .i64)))],1⟩) qe ?_ ?_
 ·refine qn J l (fun _ l=>?_) (fun _ l=>?_)
  ·refine qc<|U J<|U J<|U J<|q7 l fun ae bn l=>q7 l fun cu bo l=>?_;have bp:=Ks bo;refine K8 [(0,0)] [(0,0)] _ (.d (.tup [])) 1 [(0,.dat 1 (ae.map (eI .i64)))] 1 (q12s c.2 b.1 b.2.1 ae bn)<|qt<|U J<|O _ J<|U J<|U J<|O _ J<|O _ J<|qa J<|q8<|Q5<|qa J<|Q4 ?_;obtain rfl:=qw l;exact ⟨_,J,wkE [] [] [] J ⟨⟨_,J,K3 (by simp [bp]) J Q3 (ltd J)⟩,qm J,qm J,qm J,qm J,qm J,qm J,qm J,qm J,trivial⟩ ⟨Qq J J,trivial⟩⟩
  refine qp<|Ql ?_;obtain rfl:=qw l;exact ⟨_,J,wkA [] [] []⟩
 intro g hb;subst hb;refine qg<|qc<|U J<|q7 a fun bq t a=>?_;refine Q9 3 (fun A st=>∃ af ag,st = A [(64,Q2 bq),(63,ag),(62,af)]) ?_ ?_
 ·refine Qa J J t (fun t=>?_) (fun t=>?_)
  ·refine U J<|O _ J<|q8 ?_;cases t;exact ⟨_,_,J⟩
  refine qb J<|O _ J<|q8 ?_;cases t;exact ⟨_,_,J⟩
 rintro _ ⟨af,ag,rfl⟩;refine q7 a fun br u a=>?_;refine Q9 4 (fun A st=>∃ ah ai aj,st = A [(68,Q2 br),(67,aj),(66,ai),(65,ah)]) ?_ ?_
 ·refine Qa J J u (fun u=>?_) (fun u=>?_)
  ·refine U J<|O _ J<|O _ J<|q8 ?_;cases u;exact ⟨_,_,_,J⟩
  refine qb J<|qb J<|O _ J<|q8 ?_;cases u;exact ⟨_,_,_,J⟩
 rintro _ ⟨ah,ai,aj,rfl⟩;refine q8<|q7 a fun bs f a=>?_;refine Y2 (fun m=>.inl m = bs) (fun m=>⟨[(0,.hs 0 1 0 m.length),(1,q9 b.1),(2,q9 b.2.1),(3,q9 c.1),(8,Q2 b.2.2.2.1),(9,Q2 b.2.2.2.2.1),(10,.d (qd (w64 (b.2.1 - b.1)))),(11,q9 g.1)],[(0,.dat 1 (m.map (eI .i64)))],1⟩) qe ?_ ?_
 ·refine qn J f (fun _ f=>?_) (fun _ f=>?_)
  ·refine qc<|U J<|U J<|U J<|q7 f fun x bt f=>q7 f fun cv bu f=>?_;have bv:=Ks bu;refine K8 [(0,0)] [(0,0)] _ (Q2 x.1) 1 [(0,.dat 1 (x.2.map (eI .i64)))] 1 (q12i g.2.2 b.1 b.2.1 x bt)<|q8 ?_;refine qn J f (fun _ f=>?_) (fun _ f=>?_)
   ·refine q51 ?_;obtain rfl:=qw f;refine ⟨_,qr a,fun hm=>?_⟩;subst hm;obtain rfl:=qw o;exact ⟨.inr J,_,J,wkA [] [] []⟩
   refine qp<|Ql ?_;obtain rfl:=qw f;exact ⟨_,J,wkE [] [] [] J ⟨⟨_,J,K3 (by simp [bv]) J Q3 (ltd J)⟩,qm J,qm J,qm J,qm J,qm J,qm J,qm J,trivial⟩ ⟨Qq J J,trivial⟩⟩
  refine qp<|Ql ?_;obtain rfl:=qw f;exact ⟨_,J,wkA [] [] []⟩
 intro m hb;subst hb;refine qg<|qg<|Qi [q6,q6,q6,qx 0,q6,q6,q6,qx 0,q6,q6,q6,q6,q6,q6,q6] qi<|U J<|O _ J<|q7 a fun bw h a=>?_;refine Q9 13 (fun A st=>∃ ak al am an ao ap aq ar au av aw ax,st = A [(87,Q2 bw),(86,ax),(85,aw),(84,av),(83,au),(82,ar),(81,aq),(80,ap),(79,ao),(78,an),(77,am),(76,al),(75,ak)]) ?_ ?_
 ·refine Qa J J h (fun h=>?_) (fun h=>?_)
  ·refine U J<|U J<|O _ J<|q7 h fun bz ay h=>Q0 ay J J<|Qf _ ay J<|U J<|U J<|q7 h fun ca az h=>Q0 az J J<|Qf _ az J<|q7 h fun cb cc h=>Q1 (Zz bz ca cb cc) J<|O _ J<|O _ J<|q8 ?_;cases h;exact ⟨_,_,_,_,_,_,_,_,_,_,_,_,J⟩
  refine qb J<|qb J<|qb J<|qb J<|qb J<|qb J<|qb J<|qb J<|qb J<|qb J<|qb J<|O _ J<|q8 ?_;cases h;exact ⟨_,_,_,_,_,_,_,_,_,_,_,_,J⟩
 rintro _ ⟨ak,al,am,an,ao,ap,aq,ar,au,av,aw,ax,rfl⟩;refine q8 ?_;refine qn J a (fun _ a=>?_) (fun _ a=>?_)
 ·refine qc<|U J<|U J<|U J<|U J<|q7 a fun y cd a=>q7 a fun cw ce a=>?_;have cf:=Ks ce;refine K8 [(0,0)] [(0,0)] _ (q9 y.1) 1 [(0,.dat 1 (y.2.map (eI .i64)))] 1 (q12l m b.1 b.2.1 g.1 y cd)<|qa J<|qt<|U J<|qa J<|q8<|Qh<|q43<|Ql<|⟨_,qr a,wkE [] [] [] J ⟨⟨_,J,K3 (by simp [cf]) J Q3 (ltd J)⟩,qm J,qm J,qm J,qm J,qm J,trivial⟩ ⟨Qq J J,trivial⟩⟩
 refine qp<|qc<|U J<|U J<|U J<|U J<|q7 a fun j cg a=>q7 a fun cx ch a=>?_;have v:=Ks ch;refine K8 [(0,0)] [(0,0)] _ (.d (.tup [qd j.1,.bool j.2.1])) 1 [(0,.dat 1 (j.2.2.map (eI .i64)))] 1 (q12m m b.1 b.2.1 g.1 j cg)<|U J<|O _ J<|O _ J<|qa J<|qa J<|qt<|U J<|qa J<|qt<|U J<|U J<|O _ J<|U J<|U J<|O _ J<|qa J<|qa J<|qt<|U J<|O _ J<|qa J<|qt<|U J<|U J<|O _ J<|q8 ?_;refine qn J a (fun _ a=>?_) (fun _ a=>?_)
 ·refine qc<|U J<|U J<|O _ J<|qa J<|qt<|U J<|U J<|U J<|U J<|q7 a fun z ci a=>q7 a fun cy cj a=>?_;have ck:=Ks cj;refine q1b [(0,0)] [(0,0)] [.hs 0 1 0 m.length,q9 b.1,q9 j.1,q9 c.1] (.d (.tup [])) [(0,.dat 1 (z.map (eI .i64)))] [(0,.dat 1 (z.map (eI .i64)))] 1 (hrec j.2.2 b.1 j.1 c.1 z ci) J J J (Yz [(0,0)] [] [] J ⟨⟨_,J,K3 (by simp [v]) J Q3 (ltd J)⟩,qm J,qm J,qm J,trivial⟩ ⟨Qq J J,trivial⟩) (Yz [(0,0)] [] [] J ⟨qm J,trivial⟩ ⟨Qq J J,trivial⟩) J ⟨.inl J,trivial⟩<|q8<|Q5<|U J<|O _ J<|qa J<|Q4<|Qp<|Ql<|⟨_,qr a,wkE [] [] [] J ⟨⟨_,J,K3 (by simp [v,ck]) J Q3 (ltd J)⟩,qm J,qm J,qm J,qm J,qm J,trivial⟩ ⟨Qq J J,trivial⟩⟩
 refine qc<|U J<|U J<|O _ J<|qa J<|qt<|U J<|U J<|O _ J<|U J<|U J<|q7 a fun aa cl a=>q7 a fun cz cm a=>?_;have cn:=Ks cm;refine q1b [(0,0)] [(0,0)] [.hs 0 1 0 m.length,.d (qd (w64 (j.1 + 1))),q9 b.2.1,q9 c.1] (.d (.tup [])) [(0,.dat 1 (aa.map (eI .i64)))] [(0,.dat 1 (aa.map (eI .i64)))] 1 (hrec j.2.2 (w64 (j.1 + 1)) b.2.1 c.1 aa cl) J J J (Yz [(0,0)] [] [] J ⟨⟨_,J,K3 (by simp [v]) J Q3 (ltd J)⟩,qm J,qm J,qm J,trivial⟩ ⟨Qq J J,trivial⟩) (Yz [(0,0)] [] [] J ⟨qm J,trivial⟩ ⟨Qq J J,trivial⟩) J ⟨.inl J,trivial⟩<|q8<|Q5<|U J<|qa J<|Q4<|Qp<|Ql<|⟨_,qr a,wkE [] [] [] J ⟨⟨_,J,K3 (by simp [v,cn]) J Q3 (ltd J)⟩,qm J,qm J,qm J,qm J,qm J,trivial⟩ ⟨Qq J J,trivial⟩⟩
theorem q12q (n : Nat) : ∀ (a : List Int) (b : Int) (c : Int) (f : Int) (r : List Int),q88 n  a b c f = some r→K5 Tryz.prog tab 146 [.hs 0 1 0 a.length,q9 b,q9 c,q9 f] [(0,.dat 1 (a.map (eI .i64)))] 1 (.d (.tup [])) [(0,.dat 1 (r.map (eI .i64)))] 1:=by
 induction n with
 | zero=>intro a b c f r g;cases g
 | succ n ih=>intro a b c f r g;exact q12p (q88 n )   ih a b c f r g
theorem qp9 (b : List Int) (r : List Int) (a : q1e  b = some r) : K5 Tryz.prog tab 132 [.hs 0 1 0 b.length] [(0,.dat 1 (b.map (eI .i64)))] 1 (.d (.tup [])) [(0,.dat 1 (r.map (eI .i64)))] 1:=by
 unfold q1e at a;refine Kl Tryz.func132 J qi qi J<|qc<|U J<|O _ J<|qa J<|q8<|Q5<|U J<|U J<|U J<|O _ J<|q7 a fun f h a=>Q1 (qgo (IntKind.wrap .u64 (b.length : Int)) f h) J<|q7 a fun g c a=>q7 a fun l j a=>?_;have m:=Ks j;obtain ⟨k,c⟩:=qgk c;refine K8 [(0,0)] [(0,0)] _ (.d (.tup [])) 1 [(0,.dat 1 (g.map (eI .i64)))] 1 (q12q k b 0 (b.length : Int) f g c)<|Q4 ?_;obtain rfl:=qw a;exact ⟨.inl J,_,J,wkA [] [] []⟩
theorem qp7 (d : List Int) (r : (Nat × Nat) × List Int) (c : q3i  d = some r) : K5 Tryz.prog tab 133 [.hs 0 1 0 d.length] [(0,.dat 1 (d.map (eI .i64)))] 1 (.hs 0 1 r.1.1 r.1.2) [(0,.dat 1 (r.2.map (eI .i64)))] 1:=by
 unfold q3i at c;refine Kl Tryz.func133 J qi qi J<|qc<|qa J<|q8<|qg<|qc<|U J<|O _ J<|O _ J<|q8 ?_;refine qn J c (fun _ c=>?_) (fun _ c=>?_)
 ·refine qc<|U J<|qa J<|qu ?_;obtain rfl:=qw c;exact ⟨.inr J,_,J,wkA [] [] []⟩
 refine qp<|qg<|qc<|qa J<|q8<|q7 c fun m z c=>?_;refine Qo (fun k=>.inl k = m) (fun k=>⟨[(0,.hs 0 1 0 d.length)],[(0,.dat 1 (d.map (eI .i64)))],1⟩) qe ?_ ?_
 ·refine Qm (Jr d) (fun n=>⟨[(0,.hs 0 1 0 d.length),(3,q9 n)],[(0,.dat 1 (d.map (eI .i64)))],1⟩) _ m z (wkA [] [] []) ?_;intro n ae a;unfold Jr at a;refine qg<|qc<|U J<|U J<|O _ J<|O _ J<|q8 ?_;refine qn J a (fun _ a=>?_) (fun _ a=>?_)
  ·refine qp<|qg<|Qc<|qg<|Qi [q6,qx 0,q6,q6,q6,q6,qx 0,q6,q6,q6] qi<|U J<|U J<|q7 a fun af o a=>Q0 o J J<|Qf _ o J<|U J<|U J<|O _ J<|q7 a fun ag p a=>Q0 p J J<|Qf _ p J<|O _ J<|q8 ?_;refine qn J a (fun _ a=>?_) (fun _ a=>?_)
   ·refine qc<|U J<|U J<|q7 a fun ah aa a=>q9l aa J J J J J (q5z J) (fun _=>rfl)<|qa J<|q8<|qg<|qc<|qa J<|q8<|q7 a fun q ab a=>?_;refine Qo (fun f=>f = q) (fun f=>⟨[(0,.hs 0 1 0 f.2.length),(3,q9 f.1)],[(0,.dat 1 (f.2.map (eI .i64)))],1⟩) qe ?_ ?_
    ·refine Qm (q2a) (fun g=>⟨[(0,.hs 0 1 0 g.2.2.2.length),(3,q9 g.1),(4,.hs 0 1 g.2.1.1 g.2.1.2),(5,q9 g.2.2.1)],[(0,.dat 1 (g.2.2.2.map (eI .i64)))],1⟩) _ q ab (wkA [] [] []) ?_;intro g ai h;unfold q2a at h;refine qg<|qc<|U J<|U J<|O _ J<|O _ J<|q8 ?_;refine qn J h (fun _ h=>?_) (fun _ h=>?_)
     ·refine qp<|qg<|q7 h fun ac b h=>?_;refine Qo (fun j=>j = ac) (fun j=>⟨[(0,.hs 0 1 0 j.2.2.length),(3,q9 j.1),(4,.hs 0 1 j.2.1.1 j.2.1.2),(5,q9 g.2.2.1)],[(0,.dat 1 (j.2.2.map (eI .i64)))],1⟩) qe ?_ ?_
      ·refine qg<|Qi [q6,qx 0,q6,q6,q6,q6,qx 0,q6,q6,q6] qi<|U J<|U J<|q7 b fun aj s b=>qh1 s J J J J J J<|Qf _ (qgc s) J<|U J<|U J<|O _ J<|q7 b fun ak t b=>qh1 t J J J J J J<|Qf _ (qgc t) J<|O _ J<|q8 ?_;refine qn J b (fun _ b=>?_) (fun _ b=>?_)
       ·refine qc<|U J<|U J<|U J<|U J<|q7 b fun u v b=>qh1 v J J J J J J<|Qf _ (qgc v) J<|q7 b fun al x b=>Q0 x J J<|Qz (ds:=[qd u]) u x J J J J J J J J (leb J) J<|q8<|Q5<|U J<|O _ J<|qa J<|Q4 ?_;obtain rfl:=qw b;exact ⟨_,J,wkE [] [] [] J ⟨⟨_,J,K3 qe J Q3 (ltd J)⟩,qm J,⟨_,J,.hs J Q3 (ltd J)⟩,qm J,trivial⟩ ⟨Qq J J,trivial⟩⟩
       refine qp<|Ql ?_;obtain rfl:=qw b;exact ⟨_,J,wkA [] [] []⟩
      intro j hb;subst hb;refine Q5<|U J<|O _ J<|qa J<|Q4<|⟨_,qr h,wkA [] [] []⟩
     refine Qh ?_;refine ⟨_,qr h,fun hm=>?_⟩;subst hm;exact ⟨_,J,wkA [] [] []⟩
    intro f hb;subst hb;refine qc<|U J<|U J<|q7 a fun y l a=>q9l l J J J J J (q5z J) (fun _=>rfl)<|qx5 (w:=y) (xs:=f.2) (enc:=(eI .i64)) 0 (qbk l) J J J J J J J ?_;have am:=@qjx _ f.2 y 0 (qbk l);refine qt<|U J<|U J<|q7 a fun an ad a=>q9l ad J J J J J (fun _=>rfl) (q5z J)<|qa J<|qu ?_;refine ⟨_,qr a,fun hm=>?_⟩;subst hm;obtain rfl:=qw c;exact ⟨.inr J,_,J,wkA [] [] []⟩
   refine qp<|Ql<|Qp<|Q5<|U J<|O _ J<|qa J<|Q4<|⟨_,qr a,wkA [] [] []⟩
  refine Qh ?_;refine ⟨_,qr a,fun hm=>?_⟩;subst hm;exact ⟨_,J,wkA [] [] []⟩
 intro k hb;subst hb;refine qc<|U J<|qa J<|qu ?_;obtain rfl:=qw c;exact ⟨.inr J,_,J,wkA [] [] []⟩
theorem q124 (b : List ql) (f : ql→Option Bool) (p1F : FuncId) (p1C : List DV) (p1Ok : ∀ (h : ql) (r : Bool),f h = some r→Pure Tryz.prog tab p1F ([.agg (Qg h)] ++ p1C) (.bool r)) (r : Int) (c : qe4 b f = some r) : Pure Tryz.prog tab 148 [.sl 4 (b.map Qg),.fn p1F p1C] (qd r):=by
 unfold qe4 at c;refine Qk Tryz.func148 J qi qi J<|qc<|qa J<|q8<|qg<|qc<|U J<|Qx J<|U J<|q8<|q7 c fun j l c=>?_;refine Qo (fun g=>.inl g = j) (fun g=>⟨[],[],0⟩) qe ?_ ?_
 ·refine Qm (q53 b f) (fun k=>⟨[(0,.d (.sl 4 (b.map Qg))),(1,.d (.fn p1F p1C)),(7,q9 (b.length : Int)),(8,q9 k)],[],0⟩) _ j l (wkA [] [] []) ?_;intro k q a;unfold q53 at a;refine qc<|O _ J<|q8<|qg ?_;refine qn J a (fun _ a=>?_) (fun _ a=>?_)
  ·refine qp<|qg<|Qc<|qc<|U J<|qa J<|qt<|U J<|U J<|U J<|q7 a fun m n a=>Qn n J<|O _ J<|q7 a fun o p a=>Z8 _ (p1Ok m o p) J J J (.inl J)<|q8 ?_;refine qn J a (fun _ a=>?_) (fun _ a=>?_)
   ·refine qc<|U J<|qa J<|qu ?_;refine ⟨_,qr a,fun hm=>?_⟩;subst hm;cases c;exact Q7 _ J
   refine qp<|Ql<|Qp<|Q5<|O _ J<|U J<|Q4<|⟨_,qr a,wkA [] [] []⟩
  refine Qh ?_;refine ⟨_,qr a,fun hm=>?_⟩;subst hm;exact ⟨_,J,wkA [] [] []⟩
 intro g hb;subst hb;refine qc<|qa J<|qu ?_;cases c;exact Q7 _ J
theorem q11z (b : List ql) (c : ql→Option Bool) (p1F : FuncId) (p1C : List DV) (p1Ok : ∀ (d : ql) (r : Bool),c d = some r→Pure Tryz.prog tab p1F ([.agg (Qg d)] ++ p1C) (.bool r)) (r : Bool) (a : qab b c = some r) : Pure Tryz.prog tab 135 [.sl 4 (b.map Qg),.fn p1F p1C] (.bool r):=by
 unfold qab at a;refine Qk Tryz.func135 J qi qi J<|qc<|qa J<|qt<|U J<|U J<|q7 a fun f g a=>Q1 (q124 b c p1F p1C p1Ok f g) J<|O _ J<|qa J<|qu ?_;cases a;exact Q7 _ J
theorem qds (c : Int) (r : Bool) (b : q3c c = some r) : Pure Tryz.prog tab 149 [qd c] (.bool r):=by
 unfold q3c at b;refine Qk Tryz.func149 J qi qi J<|qc<|qa J<|qt<|U J<|O _ J<|q7 b fun h a b=>?_;refine Q9 4 (fun A st=>∃ d f g,st = A [(8,Q2 h),(7,g),(6,f),(5,d)]) ?_ ?_
 ·refine Qa J J a (fun a=>?_) (fun a=>?_)
  ·refine U J<|O _ J<|O _ J<|q8 ?_;cases a;exact ⟨_,_,_,J⟩
  refine qb J<|qb J<|O _ J<|q8 ?_;cases a;exact ⟨_,_,_,J⟩
 rintro _ ⟨d,f,g,rfl⟩;refine qa J<|qu ?_;cases b;exact Q7 _ J
theorem q101 (g : ql) (r : Bool) (a : qa4 g = some r) : Pure Tryz.prog tab 137 [.agg (Qg g)] (.bool r):=by
 unfold qa4 at a;refine Qk Tryz.func137 J qi qi J<|qc<|Qj _ _ J<|qa J<|qt<|O _ J<|O _ J<|O _ J<|O _ J<|O _ J<|q7 a fun c1 h a=>?_;refine Q9 7 (fun A st=>∃ j k l m n o,st = A [(14,Q2 c1),(13,o),(12,n),(11,m),(10,l),(9,k),(8,j)]) ?_ ?_
 ·refine Qa J J h (fun h=>?_) (fun h=>?_)
  ·refine O _ J<|O _ J<|O _ J<|O _ J<|O _ J<|O _ J<|q8 ?_;cases h;exact ⟨_,_,_,_,_,_,J⟩
  refine qb J<|qb J<|qb J<|qb J<|qb J<|O _ J<|q8 ?_;cases h;exact ⟨_,_,_,_,_,_,J⟩
 rintro _ ⟨j,k,l,m,n,o,rfl⟩;refine q7 a fun ai b a=>?_;refine Q9 5 (fun A st=>∃ p q s t,st = A [(19,Q2 ai),(18,t),(17,s),(16,q),(15,p)]) ?_ ?_
 ·refine Qa J J b (fun b=>?_) (fun b=>?_)
  ·refine O _ J<|O _ J<|q7 b fun aj ak b=>Q1 (qds g.X0 aj ak) J<|O _ J<|q8 ?_;cases b;exact ⟨_,_,_,_,J⟩
  refine qb J<|qb J<|qb J<|O _ J<|q8 ?_;cases b;exact ⟨_,_,_,_,J⟩
 rintro _ ⟨p,q,s,t,rfl⟩;refine q7 a fun al c a=>?_;refine Q9 5 (fun A st=>∃ u v x y,st = A [(24,Q2 al),(23,y),(22,x),(21,v),(20,u)]) ?_ ?_
 ·refine Qa J J c (fun c=>?_) (fun c=>?_)
  ·refine O _ J<|O _ J<|q7 c fun am an c=>Q1 (qds g.X1 am an) J<|O _ J<|q8 ?_;cases c;exact ⟨_,_,_,_,J⟩
  refine qb J<|qb J<|qb J<|O _ J<|q8 ?_;cases c;exact ⟨_,_,_,_,J⟩
 rintro _ ⟨u,v,x,y,rfl⟩;refine q7 a fun ao d a=>?_;refine Q9 5 (fun A st=>∃ z aa ab ac,st = A [(29,Q2 ao),(28,ac),(27,ab),(26,aa),(25,z)]) ?_ ?_
 ·refine Qa J J d (fun d=>?_) (fun d=>?_)
  ·refine O _ J<|O _ J<|q7 d fun ap aq d=>Q1 (qds g.Y0 ap aq) J<|O _ J<|q8 ?_;cases d;exact ⟨_,_,_,_,J⟩
  refine qb J<|qb J<|qb J<|O _ J<|q8 ?_;cases d;exact ⟨_,_,_,_,J⟩
 rintro _ ⟨z,aa,ab,ac,rfl⟩;refine q7 a fun ar f a=>?_;refine Q9 5 (fun A st=>∃ ad ae af ag,st = A [(34,Q2 ar),(33,ag),(32,af),(31,ae),(30,ad)]) ?_ ?_
 ·refine Qa J J f (fun f=>?_) (fun f=>?_)
  ·refine O _ J<|O _ J<|q7 f fun au av f=>Q1 (qds g.Y1 au av) J<|O _ J<|q8 ?_;cases f;exact ⟨_,_,_,_,J⟩
  refine qb J<|qb J<|qb J<|O _ J<|q8 ?_;cases f;exact ⟨_,_,_,_,J⟩
 rintro _ ⟨ad,ae,af,ag,rfl⟩;refine qa J<|qu ?_;cases a;exact Q7 _ J
theorem qzu (b : ql) (r : Bool) (a : q3b b = some r) : Pure Tryz.prog tab 136 [.agg (Qg b)] (.bool r):=by
 unfold q3b at a;refine Qk Tryz.func136 J qi qi J<|qc<|Qj _ _ J<|qa J<|qt<|O _ J<|q7 a fun c d a=>Q1 (q101 b c d) J<|O _ J<|qa J<|qu ?_;cases a;exact Q7 _ J
theorem q126 (b : List qo) (f : qo→Option Bool) (p1F : FuncId) (p1C : List DV) (p1Ok : ∀ (h : qo) (r : Bool),f h = some r→Pure Tryz.prog tab p1F ([.agg (Qv h)] ++ p1C) (.bool r)) (r : Int) (c : qae b f = some r) : Pure Tryz.prog tab 182 [.sl 2 (b.map Qv),.fn p1F p1C] (qd r):=by
 unfold qae at c;refine Qk Tryz.func182 J qi qi J<|qc<|qa J<|q8<|qg<|qc<|U J<|Qx J<|U J<|q8<|q7 c fun j l c=>?_;refine Qo (fun g=>.inl g = j) (fun g=>⟨[],[],0⟩) qe ?_ ?_
 ·refine Qm (q3j b f) (fun k=>⟨[(0,.d (.sl 2 (b.map Qv))),(1,.d (.fn p1F p1C)),(7,q9 (b.length : Int)),(8,q9 k)],[],0⟩) _ j l (wkA [] [] []) ?_;intro k q a;unfold q3j at a;refine qc<|O _ J<|q8<|qg ?_;refine qn J a (fun _ a=>?_) (fun _ a=>?_)
  ·refine qp<|qg<|Qc<|qc<|U J<|qa J<|qt<|U J<|U J<|U J<|q7 a fun m n a=>Qn n J<|O _ J<|q7 a fun o p a=>Z8 _ (p1Ok m o p) J J J (.inl J)<|q8 ?_;refine qn J a (fun _ a=>?_) (fun _ a=>?_)
   ·refine qc<|U J<|qa J<|qu ?_;refine ⟨_,qr a,fun hm=>?_⟩;subst hm;cases c;exact Q7 _ J
   refine qp<|Ql<|Qp<|Q5<|O _ J<|U J<|Q4<|⟨_,qr a,wkA [] [] []⟩
  refine Qh ?_;refine ⟨_,qr a,fun hm=>?_⟩;subst hm;exact ⟨_,J,wkA [] [] []⟩
 intro g hb;subst hb;refine qc<|qa J<|qu ?_;cases c;exact Q7 _ J
theorem q120 (b : List qo) (c : qo→Option Bool) (p1F : FuncId) (p1C : List DV) (p1Ok : ∀ (d : qo) (r : Bool),c d = some r→Pure Tryz.prog tab p1F ([.agg (Qv d)] ++ p1C) (.bool r)) (r : Bool) (a : qac b c = some r) : Pure Tryz.prog tab 169 [.sl 2 (b.map Qv),.fn p1F p1C] (.bool r):=by
 unfold qac at a;refine Qk Tryz.func169 J qi qi J<|qc<|qa J<|qt<|U J<|U J<|q7 a fun f g a=>Q1 (q126 b c p1F p1C p1Ok f g) J<|O _ J<|qa J<|qu ?_;cases a;exact Q7 _ J
theorem q15o (d : qo) (r : Bool) (a : q3p d = some r) : Pure Tryz.prog tab 154 [.agg (Qv d)] (.bool r):=by
 unfold q3p at a;refine Qk Tryz.func154 J qi qi J<|qc<|Qj _ _ J<|qa J<|qt<|O _ J<|O _ J<|O _ J<|O _ J<|O _ J<|q7 a fun o b a=>?_;refine Q9 5 (fun A st=>∃ f g h j,st = A [(12,Q2 o),(11,j),(10,h),(9,g),(8,f)]) ?_ ?_
 ·refine Qa J J b (fun b=>?_) (fun b=>?_)
  ·refine O _ J<|O _ J<|O _ J<|O _ J<|q8 ?_;cases b;exact ⟨_,_,_,_,J⟩
  refine qb J<|qb J<|qb J<|O _ J<|q8 ?_;cases b;exact ⟨_,_,_,_,J⟩
 rintro _ ⟨f,g,h,j,rfl⟩;refine q7 a fun p c a=>?_;refine Q9 5 (fun A st=>∃ k l m n,st = A [(17,Q2 p),(16,n),(15,m),(14,l),(13,k)]) ?_ ?_
 ·refine Qa J J c (fun c=>?_) (fun c=>?_)
  ·refine O _ J<|O _ J<|O _ J<|O _ J<|q8 ?_;cases c;exact ⟨_,_,_,_,J⟩
  refine qb J<|qb J<|qb J<|O _ J<|q8 ?_;cases c;exact ⟨_,_,_,_,J⟩
 rintro _ ⟨k,l,m,n,rfl⟩;refine qa J<|qu ?_;cases a;exact Q7 _ J
theorem q15h (b : qo) (r : Bool) (a : qeb b = some r) : Pure Tryz.prog tab 170 [.agg (Qv b)] (.bool r):=by
 unfold qeb at a;refine Qk Tryz.func170 J qi qi J<|qc<|Qj _ _ J<|qa J<|qt<|O _ J<|q7 a fun c d a=>Q1 (q15o b c d) J<|O _ J<|qa J<|qu ?_;cases a;exact Q7 _ J
theorem q15k (a : qk) (b : qk) (r : Int) (c : qbe a b = some r) : Pure Tryz.prog tab 174 [.agg (Qe a),.agg (Qe b)] (qd r):=by
 unfold qbe at c;refine Qk Tryz.func174 J qi qi J<|qc<|Qj _ _ J<|Qj _ _ J<|qa J<|qt<|O _ J<|O _ J<|O _ J<|O _ J<|O _ J<|qa J<|qu ?_;cases c;exact Q7 _ J
theorem q12f (k : qk→qk→Option Int) (q1F : FuncId) (q1C : List DV) (q1Ok : ∀ (p : qk) (q : qk) (r : Int),k p q = some r→Pure Tryz.prog tab q1F ([.agg (Qe p),.agg (Qe q)] ++ q1C) (qd r)) (n : List qk) (f : Int) (g : Int) (r : List qk) (l : qal k n f g = some r) : K5 Tryz.prog tab 186 [.hs 0 3 0 n.length,q9 f,q9 g,.d (.fn q1F q1C)] [(0,.dat 3 (n.map Qe))] 1 (.d (.tup [])) [(0,.dat 3 (r.map Qe))] 1:=by
 unfold qal at l;refine Kl Tryz.func186 J qi qi J<|qc<|U J<|O _ J<|qa J<|q8<|q7 l fun am an l=>Qc<|Qm (qam g f k) (fun h=>⟨[(0,.hs 0 3 0 h.2.length),(1,q9 f),(2,q9 g),(3,.d (.fn q1F q1C)),(8,q9 h.1)],[(0,.dat 3 (h.2.map Qe))],1⟩) _ am an (wkA [] [] []) ?_;intro h ba c;unfold qam at c;refine qg<|qc<|U J<|U J<|O _ J<|q8 ?_;refine qn J c (fun _ c=>?_) (fun _ c=>?_)
 ·refine qp<|qg<|q7 c fun ao o c=>?_;refine Qo (fun j=>j = ao) (fun j=>⟨[(0,.hs 0 3 0 j.length),(1,q9 f),(2,q9 g),(3,.d (.fn q1F q1C)),(8,q9 h.1)],[(0,.dat 3 (j.map Qe))],1⟩) qe ?_ ?_
  ·refine qc<|U J<|qa J<|q8<|q7 o fun ap aq o=>Qc<|Qm (qan f k) (fun m=>⟨[(0,.hs 0 3 0 m.2.length),(1,q9 f),(2,q9 g),(3,.d (.fn q1F q1C)),(8,q9 h.1),(9,q9 m.1)],[(0,.dat 3 (m.2.map Qe))],1⟩) _ ap aq (wkA [] [] []) ?_;intro m bb a;unfold qan at a;refine qg<|qg<|Qi [q6,q6,q6,qx 0,q6,q6,q6,q6,qx 0,q6,q6,q6,q6,q6,q6,q6,q6] qi<|U J<|U J<|O _ J<|q7 a fun ar b a=>?_;refine Q9 14 (fun A st=>∃ s t u v x y z aa ab ac ad ae af,st = A [(34,Q2 ar),(33,af),(32,ae),(31,ad),(30,ac),(29,ab),(28,aa),(27,z),(26,y),(25,x),(24,v),(23,u),(22,t),(21,s)]) ?_ ?_
   ·refine Qa J J b (fun b=>?_) (fun b=>?_)
    ·refine U J<|U J<|U J<|q7 b fun au ag b=>Q0 ag J J<|Qf _ ag J<|U J<|U J<|O _ J<|q7 b fun av ah b=>Q0 ah J J<|Qf _ ah J<|q7 b fun aw ax b=>Z8 _ (q1Ok au av aw ax) J J J (.inl J)<|O _ J<|O _ J<|q8 ?_;cases b;exact ⟨_,_,_,_,_,_,_,_,_,_,_,_,_,J⟩
    refine qb J<|qb J<|qb J<|qb J<|qb J<|qb J<|qb J<|qb J<|qb J<|qb J<|qb J<|qb J<|O _ J<|q8 ?_;cases b;exact ⟨_,_,_,_,_,_,_,_,_,_,_,_,_,J⟩
   rintro _ ⟨s,t,u,v,x,y,z,aa,ab,ac,ad,ae,af,rfl⟩;refine q8 ?_;refine qn J a (fun _ a=>?_) (fun _ a=>?_)
   ·refine qp<|qg<|Qc<|Qi [Qt 0,q6,Qt 0,q6,qx 0,q6,q6,q6,qx 0,q6,q6,q6,q6,q6,q6,q6,q6,q6] qi<|U J<|U J<|U J<|U J<|O _ J<|U J<|U J<|O _ J<|q7 a fun ay ai a=>Q0 ai J J<|Qf _ ai J<|U J<|U J<|q7 a fun az aj a=>Q0 aj J J<|Qf _ aj J<|q7 a fun bc ak a=>Q0 ak J J<|Qz ay ak J J J J J J J J (leb J) J<|q7 a fun bd al a=>Q0 al qe J<|Qz az al J J J J J J J J (leb J) J<|Q4<|Qp<|Q5<|U J<|O _ J<|qa J<|Q4<|⟨_,qr a,wkE [] [] [] J ⟨⟨_,J,K3 qe J Q3 (ltd J)⟩,qm J,qm J,qm J,qm J,qm J,trivial⟩ ⟨Qq J J,trivial⟩⟩
   refine Qh ?_;refine ⟨_,qr a,fun hm=>?_⟩;subst hm;obtain rfl:=qw o;exact ⟨_,J,wkA [] [] []⟩
  intro j hb;subst hb;refine Q5<|U J<|O _ J<|qa J<|Q4<|⟨_,qr c,wkA [] [] []⟩
 refine Qh ?_;refine ⟨_,qr c,fun hm=>?_⟩;subst hm;obtain rfl:=qw l;exact ⟨.inl J,_,J,wkA [] [] []⟩
theorem qpd (l : qk→qk→Option Int) (q1F : FuncId) (q1C : List DV) (q1Ok : ∀ (n : qk) (o : qk) (r : Int),l n o = some r→Pure Tryz.prog tab q1F ([.agg (Qe n),.agg (Qe o)] ++ q1C) (qd r)) (m : List qk) (p : Int) (f : Int) (g : Int) (r : List qk) (h : q8a l m p f g = some r) : K5 Tryz.prog tab 194 [.hs 0 3 0 m.length,q9 p,q9 f,q9 g,.d (.fn q1F q1C)] [(0,.dat 3 (m.map Qe))] 1 (.d (.tup [])) [(0,.dat 3 (r.map Qe))] 1:=by
 unfold q8a at h;refine Kl Tryz.func194 J qi qi J<|qc<|U J<|qa J<|q8<|q7 h fun ar au h=>Qc<|Qm (qb5 f g l) (fun c=>⟨[(0,.hs 0 3 0 c.2.length),(2,q9 f),(3,q9 g),(4,.d (.fn q1F q1C)),(10,q9 c.1)],[(0,.dat 3 (c.2.map Qe))],1⟩) _ ar au (wkA [] [] []) ?_;intro c bh a;unfold qb5 at a;refine Qc<|qc<|U J<|O _ J<|O _ J<|qa J<|q8<|qg<|qc<|U J<|U J<|O _ J<|q8 ?_;refine qn J a (fun _ a=>?_) (fun _ a=>?_)
 ·refine Qh ?_;refine ⟨_,qr a,fun hm=>?_⟩;subst hm;obtain rfl:=qw h;exact ⟨.inl J,_,J,wkA [] [] []⟩
 refine qp<|qg<|qg<|Qi [q6,q6,q6,qx 0,q6,q6,q6,q6,q6,q6,qx 0,q6,q6,q6,q6,q6,q6,q6,q6,q6,q6,q6] qi<|U J<|O _ J<|U J<|O _ J<|q7 a fun av b a=>?_;refine Q9 18 (fun A st=>∃ q s t u v x y z aa ab ac ad ae af ag ah ai,st = A [(40,Q2 av),(39,ai),(38,ah),(37,ag),(36,af),(35,ae),(34,ad),(33,ac),(32,ab),(31,aa),(30,z),(29,y),(28,x),(27,v),(26,u),(25,t),(24,s),(23,q)]) ?_ ?_
 ·refine Qa J J b (fun b=>?_) (fun b=>?_)
  ·refine U J<|U J<|U J<|U J<|O _ J<|q7 b fun aw aj b=>Q0 aj J J<|Qf _ aj J<|U J<|U J<|U J<|O _ J<|O _ J<|q7 b fun ax ak b=>Q0 ak J J<|Qf _ ak J<|q7 b fun ay az b=>Z8 _ (q1Ok aw ax ay az) J J J (.inl J)<|O _ J<|O _ J<|q8 ?_;cases b;exact ⟨_,_,_,_,_,_,_,_,_,_,_,_,_,_,_,_,_,J⟩
  refine qb J<|qb J<|qb J<|qb J<|qb J<|qb J<|qb J<|qb J<|qb J<|qb J<|qb J<|qb J<|qb J<|qb J<|qb J<|qb J<|O _ J<|q8 ?_;cases b;exact ⟨_,_,_,_,_,_,_,_,_,_,_,_,_,_,_,_,_,J⟩
 rintro _ ⟨q,s,t,u,v,x,y,z,aa,ab,ac,ad,ae,af,ag,ah,ai,rfl⟩;refine q8<|q7 a fun ba j a=>?_;refine Y2 (fun k=>k = ba) (fun k=>⟨[(0,.hs 0 3 0 c.2.length),(2,q9 f),(3,q9 g),(4,.d (.fn q1F q1C)),(10,q9 c.1),(11,q9 k)],[(0,.dat 3 (c.2.map Qe))],1⟩) qe ?_ ?_
 ·refine qn J j (fun _ j=>?_) (fun _ j=>?_)
  ·refine Q5<|U J<|O _ J<|qa J<|Q4 ?_;obtain rfl:=qw j;exact ⟨_,J,wkA [] [] []⟩
  refine qp<|Ql ?_;obtain rfl:=qw j;exact ⟨_,J,wkA [] [] []⟩
 intro k hb;subst hb;refine qg<|qg<|Qi [q6,q6,q6,qx 0,q6,q6,q6,q6,q6,qx 0,q6,q6,q6,q6,q6,q6] qi<|U J<|U J<|U J<|U J<|O _ J<|q7 a fun bb al a=>Q0 al J J<|Qf _ al J<|U J<|U J<|U J<|O _ J<|q7 a fun bc am a=>Q0 am J J<|Qf _ am J<|q7 a fun bd be a=>Z8 _ (q1Ok bb bc bd be) J J J (.inl J)<|O _ J<|O _ J<|q8 ?_;refine qn J a (fun _ a=>?_) (fun _ a=>?_)
 ·refine q51 ?_;refine ⟨_,qr a,fun hm=>?_⟩;subst hm;obtain rfl:=qw h;exact ⟨.inr J,_,J,wkA [] [] []⟩
 refine qp<|qg<|Qi [Qt 0,q6,Qt 0,q6,qx 0,q6,q6,q6,q6,q6,qx 0,q6,q6,q6,q6,q6,q6,q6,q6,q6,q6,q6,q6,q6] qi<|U J<|U J<|U J<|O _ J<|U J<|U J<|U J<|O _ J<|U J<|U J<|U J<|O _ J<|q7 a fun bf an a=>Q0 an J J<|Qf _ an J<|U J<|U J<|U J<|O _ J<|q7 a fun bg ao a=>Q0 ao J J<|Qf _ ao J<|q7 a fun bi ap a=>Q0 ap J J<|Qz bf ap J J J J J J J J (leb J) J<|q7 a fun bj aq a=>Q0 aq qe J<|Qz bg aq J J J J J J J J (leb J) J<|q8<|Q5<|U J<|qa J<|Q4<|Qp<|Ql<|⟨_,qr a,wkE [] [] [] J ⟨⟨_,J,K3 qe J Q3 (ltd J)⟩,qm J,qm J,qm J,qm J,trivial⟩ ⟨Qq J J,trivial⟩⟩
theorem q12d (g : qk→qk→Option Int) (q1F : FuncId) (q1C : List DV) (q1Ok : ∀ (o : qk) (p : qk) (r : Int),g o p = some r→Pure Tryz.prog tab q1F ([.agg (Qe o),.agg (Qe p)] ++ q1C) (qd r)) (m : List qk) (b : Int) (h : Int) (r : List qk) (j : qai g m b h = some r) : K5 Tryz.prog tab 187 [.hs 0 3 0 m.length,q9 b,q9 h,.d (.fn q1F q1C)] [(0,.dat 3 (m.map Qe))] 1 (.d (.tup [])) [(0,.dat 3 (r.map Qe))] 1:=by
 unfold qai at j;refine Kl Tryz.func187 J qi qi J<|qc<|U J<|qa J<|qt<|qa J<|qt<|U J<|U J<|O _ J<|qa J<|q8<|qg<|qc<|U J<|O _ J<|O _ J<|qa J<|q8<|q7 j fun q aa j=>?_;refine Qo (fun l=>l = q) (fun l=>⟨[(0,.hs 0 3 0 l.length),(3,.d (.fn q1F q1C)),(8,q9 b),(9,q9 0),(10,.d (qd (w64 (h - b))))],[(0,.dat 3 (l.map Qe))],1⟩) qe ?_ ?_
 ·refine Qm (qaj g h b) (fun k=>⟨[(0,.hs 0 3 0 k.2.length),(3,.d (.fn q1F q1C)),(8,q9 b),(9,q9 0),(10,.d (qd (w64 (h - b)))),(11,q9 k.1)],[(0,.dat 3 (k.2.map Qe))],1⟩) _ q aa (wkA [] [] []) ?_;intro k aj c;unfold qaj at c;refine qg<|qc<|U J<|O _ J<|q8 ?_;refine qn J c (fun _ c=>?_) (fun _ c=>?_)
  ·refine qp<|qg<|Qc<|Q5<|U J<|U J<|U J<|U J<|U J<|q7 c fun s ab c=>q7 c fun ak ac c=>?_;have ad:=Ks ac;refine K8 [(0,0)] [(0,0)] _ (.d (.tup [])) 1 [(0,.dat 3 (s.map Qe))] 1 (qpd g q1F q1C q1Ok k.2 k.1 (w64 (h - b)) b s ab)<|Q4<|Qp<|Q5<|U J<|O _ J<|qa J<|Q4<|⟨_,qr c,wkE [] [] [] J ⟨⟨_,J,K3 (by simp [ad]) J Q3 (ltd J)⟩,qm J,qm J,qm J,qm J,qm J,trivial⟩ ⟨Qq J J,trivial⟩⟩
  refine Qh ?_;refine ⟨_,qr c,fun hm=>?_⟩;subst hm;exact ⟨_,J,wkA [] [] []⟩
 intro l hb;subst hb;refine qc<|U J<|O _ J<|qa J<|q8<|q7 j fun ae af j=>Qc<|Qm (qak b g) (fun f=>⟨[(0,.hs 0 3 0 f.2.length),(3,.d (.fn q1F q1C)),(8,q9 b),(9,q9 0),(12,q9 f.1)],[(0,.dat 3 (f.2.map Qe))],1⟩) _ ae af (wkA [] [] []) ?_;intro f al a;unfold qak at a;refine qg<|qc<|U J<|O _ J<|q8 ?_;refine qn J a (fun _ a=>?_) (fun _ a=>?_)
 ·refine qp<|qg<|Qc<|qg<|Qi [Qt 0,q6,Qt 0,q6,qx 0,q6,q6,q6,qx 0,q6,q6,q6,q6,q6,q6,q6,q6,q6,q6,q6] qi<|U J<|U J<|U J<|U J<|U J<|O _ J<|U J<|U J<|U J<|O _ J<|q7 a fun t u a=>Q0 u J J<|Qf _ u J<|U J<|U J<|q7 a fun v x a=>Q0 x J J<|Qf _ x J<|q7 a fun am y a=>Q0 y J J<|Qz t y J J J J J J J J (leb J) J<|q7 a fun an z a=>Q0 z qe J<|Qz v z J J J J J J J J (leb J) J<|q8<|Q5<|U J<|U J<|U J<|U J<|U J<|q7 a fun n ag a=>q7 a fun ao ah a=>?_;have ai:=Ks ah;refine q1b [(0,0)] [(0,0)] [.hs 0 3 0 f.2.length,q9 0,q9 f.1,q9 b,.d (.fn q1F q1C)] (.d (.tup [])) [(0,.dat 3 (n.map Qe))] [(0,.dat 3 (n.map Qe))] 1 (qpd g q1F q1C q1Ok ((f.2.set b.toNat t).set (w64 (b + f.1)).toNat v) 0 f.1 b n ag) J J J (Yz [(0,0)] [] [] J ⟨⟨_,J,K3 qe J Q3 (ltd J)⟩,qm J,qm J,qm J,qm J,trivial⟩ ⟨Qq J J,trivial⟩) (Yz [(0,0)] [] [] J ⟨qm J,trivial⟩ ⟨Qq J J,trivial⟩) J ⟨.inl J,trivial⟩<|Q4<|Qp<|Q5<|U J<|O _ J<|qa J<|Q4<|⟨_,qr a,wkE [] [] [] J ⟨⟨_,J,K3 (by simp [ai]) J Q3 (ltd J)⟩,qm J,qm J,qm J,qm J,trivial⟩ ⟨Qq J J,trivial⟩⟩
 refine Qh ?_;refine ⟨_,qr a,fun hm=>?_⟩;subst hm;obtain rfl:=qw j;exact ⟨.inl J,_,J,wkA [] [] []⟩
theorem qi4 (b : qk→qk→Option Int) (q1F : FuncId) (q1C : List DV) (q1Ok : ∀ (c : qk) (f : qk) (r : Int),b c f = some r→Pure Tryz.prog tab q1F ([.agg (Qe c),.agg (Qe f)] ++ q1C) (qd r)) (g : List qk) (h : Int) (j : Int) (k : Int) (r : Int × Int × Int) (a : q56 b g h j k = some r) : K5 Tryz.prog tab 197 [.d (.sl 3 (g.map Qe)),q9 h,q9 j,.ref 0 1 0 0,.d (.fn q1F q1C)] [(0,.dat 1 [[qd k]])] 1 (.d (.tup [qd r.1,qd r.2.1])) [(0,.dat 1 [[qd r.2.2]])] 1:=by
 unfold q56 at a;refine Kl Tryz.func197 J qi qi J<|qc<|qa J<|qa J<|q8<|qg<|qg<|Qi [q6,q6,q6,q6,q6,q6,q6,q6,q6,q6,q6] qi<|U J<|U J<|U J<|q7 a fun l m a=>Qn m J<|O _ J<|U J<|U J<|q7 a fun n o a=>Qn o J<|O _ J<|q7 a fun p q a=>Z8 _ (q1Ok l n p q) J J J (.inl J)<|O _ J<|q8 ?_;refine qn J a (fun _ a=>?_) (fun _ a=>?_)
 ·refine qc<|U J<|O _ J<|O _ J<|O _ J<|O _ J<|Qd 0 _ J<|qt<|U J<|U J<|qa J<|qa J<|qu ?_;obtain rfl:=qw a;exact ⟨.inr J,_,J,wkA [] [] []⟩
 refine qp<|qc<|U J<|U J<|qa J<|qa J<|qu ?_;obtain rfl:=qw a;exact ⟨.inr J,_,J,wkA [] [] []⟩
theorem qpa (f : qk→qk→Option Int) (q1F : FuncId) (q1C : List DV) (q1Ok : ∀ (n : qk) (o : qk) (r : Int),f n o = some r→Pure Tryz.prog tab q1F ([.agg (Qe n),.agg (Qe o)] ++ q1C) (qd r)) (g : List qk) (j : Int) (k : Int) (l : Int) (m : Int) (r : Int × Int) (a : q7q f g j k l m = some r) : K5 Tryz.prog tab 196 [.d (.sl 3 (g.map Qe)),q9 j,q9 k,q9 l,.ref 0 1 0 0,.d (.fn q1F q1C)] [(0,.dat 1 [[qd m]])] 1 (q9 r.1) [(0,.dat 1 [[qd r.2]])] 1:=by
 unfold q7q at a;refine Kl Tryz.func196 J qi qi J<|qc<|qa J<|qt<|U J<|U J<|U J<|U J<|U J<|q7 a fun b p a=>K8 [(0,0)] [(0,0)] _ (.d (.tup [qd b.1,qd b.2.1])) 1 [(0,.dat 1 [[qd b.2.2]])] 1 (qi4 f q1F q1C q1Ok g j k m b p)<|U J<|O _ J<|O _ J<|qa J<|qa J<|qt<|U J<|U J<|U J<|U J<|U J<|q7 a fun c q a=>K8 [(0,0)] [(0,0)] _ (.d (.tup [qd c.1,qd c.2.1])) 1 [(0,.dat 1 [[qd c.2.2]])] 1 (qi4 f q1F q1C q1Ok g b.2.1 l b.2.2 c q)<|U J<|O _ J<|O _ J<|qa J<|qa J<|qt<|U J<|U J<|U J<|U J<|U J<|q7 a fun h s a=>K8 [(0,0)] [(0,0)] _ (.d (.tup [qd h.1,qd h.2.1])) 1 [(0,.dat 1 [[qd h.2.2]])] 1 (qi4 f q1F q1C q1Ok g b.1 c.1 c.2.2 h s)<|U J<|O _ J<|O _ J ?_;refine qa J<|qa J<|qt<|U J<|qa J<|qu ?_;obtain rfl:=qw a;exact ⟨.inr J,_,J,wkA [] [] []⟩
theorem qi2 (c : qk→qk→Option Int) (q1F : FuncId) (q1C : List DV) (q1Ok : ∀ (j : qk) (k : qk) (r : Int),c j k = some r→Pure Tryz.prog tab q1F ([.agg (Qe j),.agg (Qe k)] ++ q1C) (qd r)) (f : List qk) (a : Int) (g : Int) (r : Int × Int) (b : q54 c f a g = some r) : K5 Tryz.prog tab 195 [.d (.sl 3 (f.map Qe)),q9 a,.ref 0 1 0 0,.d (.fn q1F q1C)] [(0,.dat 1 [[qd g]])] 1 (q9 r.1) [(0,.dat 1 [[qd r.2]])] 1:=by
 unfold q54 at b;refine Kl Tryz.func195 J qi qi J<|qc<|qa J<|qt<|U J<|U J<|O _ J<|U J<|U J<|O _ J<|U J<|U J<|q7 b fun h l b=>K8 [(0,0)] [(0,0)] _ (q9 h.1) 1 [(0,.dat 1 [[qd h.2]])] 1 (qpa c q1F q1C q1Ok f (w64 (a - 1)) a (w64 (a + 1)) g h l)<|qa J<|qu ?_;obtain rfl:=qw b;exact ⟨.inr J,_,J,wkA [] [] []⟩
theorem q12b (h : List qk) (g : Int) (k : Int) (j : qk→qk→Option Int) (p3F : FuncId) (p3C : List DV) (p3Ok : ∀ (q : qk) (s : qk) (r : Int),j q s = some r→Pure Tryz.prog tab p3F ([.agg (Qe q),.agg (Qe s)] ++ p3C) (qd r)) (r : Int × Int) (a : qah h g k j = some r) : Pure Tryz.prog tab 189 [.sl 3 (h.map Qe),qd g,qd k,.fn p3F p3C] (.tup [qd r.1,qd r.2]):=by
 unfold qah at a;refine Qk Tryz.func189 J qi qi J<|qc<|qa J<|qa J<|qt<|U J<|U J<|O _ J<|qa J<|qt<|Qr J J<|qt<|U J<|U J<|O _ J<|O _ J<|O _ J<|qa J<|qt<|U J<|U J<|O _ J<|O _ J<|O _ J<|qa J<|qt<|U J<|U J<|O _ J<|O _ J<|O _ J<|qa J<|q8<|qg<|qc<|U J<|O _ J<|q8<|q7 a fun t f a=>?_;refine Y2 (fun l=>l = t) (fun l=>⟨[(11,.ref 0 1 0 0),(13,q9 l.1)],[(0,.dat 1 [[qd l.2]])],1⟩) qe ?_ ?_
 ·refine qn J f (fun _ f=>?_) (fun _ f=>?_)
  ·refine qg<|qc<|U J<|O _ J<|q8<|q7 f fun u b f=>?_;refine Y2 (fun c=>c = u) (fun c=>⟨[(0,.d (.sl 3 (h.map Qe))),(3,.d (.fn p3F p3C)),(11,.ref 0 1 0 0),(12,q9 c.1),(13,q9 c.2.1),(14,q9 c.2.2.1)],[(0,.dat 1 [[qd c.2.2.2]])],1⟩) qe ?_ ?_
   ·refine qn J b (fun _ b=>?_) (fun _ b=>?_)
    ·refine qc<|U J<|U J<|U J<|q7 b fun m v b=>K8 [(0,0)] [(0,0)] _ (q9 m.1) 1 [(0,.dat 1 [[qd m.2]])] 1 (qi2 j p3F p3C p3Ok h (w64 (g + (w64 ((w64 (Int.tdiv (w64 (k - g)) 4)) * 1)))) 0 m v)<|qa J<|qt<|U J<|U J<|U J<|q7 b fun n x b=>K8 [(0,0)] [(0,0)] _ (q9 n.1) 1 [(0,.dat 1 [[qd n.2]])] 1 (qi2 j p3F p3C p3Ok h (w64 (g + (w64 ((w64 (Int.tdiv (w64 (k - g)) 4)) * 2)))) m.2 n x)<|qa J<|q8<|Q5<|U J<|U J<|U J<|q7 b fun o y b=>K8 [(0,0)] [(0,0)] _ (q9 o.1) 1 [(0,.dat 1 [[qd o.2]])] 1 (qi2 j p3F p3C p3Ok h (w64 (g + (w64 ((w64 (Int.tdiv (w64 (k - g)) 4)) * 3)))) n.2 o y)<|qa J<|Q4 ?_;obtain rfl:=qw b;exact ⟨_,J,wkA [(0,0)] [] []⟩
    refine qp<|Ql ?_;obtain rfl:=qw b;exact ⟨_,J,wkA [(0,0)] [] []⟩
   intro c hb;subst hb;refine Q5<|U J<|U J<|U J<|U J<|U J<|q7 f fun p z f=>K8 [(0,0)] [(0,0)] _ (q9 p.1) 1 [(0,.dat 1 [[qd p.2]])] 1 (qpa j p3F p3C p3Ok h c.1 c.2.1 c.2.2.1 c.2.2.2 p z)<|qa J<|Q4 ?_;obtain rfl:=qw f;exact ⟨_,J,wkA [(0,0)] [] []⟩
  refine qp<|Ql ?_;obtain rfl:=qw f;exact ⟨_,J,wkA [(0,0)] [] []⟩
 intro l hb;subst hb;refine qc<|O _ J<|q8<|Qc<|qc<|O _ J<|qa J<|q8 ?_;refine qn J a (fun _ a=>?_) (fun _ a=>?_)
 ·refine qc<|U J<|qa J<|qa J<|qu ?_;cases a;exact Q7 _ J
 refine qc<|O _ J<|qa J<|q8 ?_;refine qn J a (fun _ a=>?_) (fun _ a=>?_)
 ·refine qc<|U J<|qa J<|qa J<|qu ?_;cases a;exact Q7 _ J
 refine qc<|U J<|qa J<|qa J<|qu ?_;cases a;exact Q7 _ J
theorem q12r (g : qk→qk→Option Int) (q1F : FuncId) (q1C : List DV) (_q1Ok : ∀ (h : qk) (j : qk) (r : Int),g h j = some r→Pure Tryz.prog tab q1F ([.agg (Qe h),.agg (Qe j)] ++ q1C) (qd r)) (f : List qk) (k : Int) (l : Int) (r : List qk) (c : qb2 g f k l = some r) : K5 Tryz.prog tab 190 [.hs 0 3 0 f.length,q9 k,q9 l,.d (.fn q1F q1C)] [(0,.dat 3 (f.map Qe))] 1 (.d (.tup [])) [(0,.dat 3 (r.map Qe))] 1:=by
 unfold qb2 at c;refine Kl Tryz.func190 J qi qi J<|qc<|U J<|qa J<|qt<|U J<|O _ J<|qa J<|q8<|q7 c fun q s c=>Qc<|Qm (qb3) (fun b=>⟨[(0,.hs 0 3 0 b.2.2.length),(8,q9 b.1),(9,q9 b.2.1)],[(0,.dat 3 (b.2.2.map Qe))],1⟩) _ q s (wkA [] [] []) ?_;intro b v a;unfold qb3 at a;refine qg<|qc<|U J<|U J<|O _ J<|q8 ?_;refine qn J a (fun _ a=>?_) (fun _ a=>?_)
 ·refine qp<|Qc<|qg<|Qi [Qt 0,q6,Qt 0,q6,qx 0,q6,q6,q6,qx 0,q6,q6,q6,q6,q6,q6,q6] qi<|U J<|U J<|U J<|U J<|U J<|U J<|q7 a fun t m a=>Q0 m J J<|Qf _ m J<|U J<|U J<|q7 a fun u n a=>Q0 n J J<|Qf _ n J<|q7 a fun x o a=>Q0 o J J<|Qz t o J J J J J J J J (leb J) J<|q7 a fun y p a=>Q0 p qe J<|Qz u p J J J J J J J J (leb J) J<|qt<|U J<|O _ J<|qa J<|q8<|Q5<|U J<|O _ J<|qa J<|Q4<|Qp<|Ql<|⟨_,qr a,wkE [] [] [] J ⟨⟨_,J,K3 qe J Q3 (ltd J)⟩,qm J,qm J,trivial⟩ ⟨Qq J J,trivial⟩⟩
 refine Qh ?_;refine ⟨_,qr a,fun hm=>?_⟩;subst hm;obtain rfl:=qw c;exact ⟨.inl J,_,J,wkA [] [] []⟩
theorem q12h (o : qk→qk→Option Int) (q1F : FuncId) (q1C : List DV) (q1Ok : ∀ (y : qk) (z : qk) (r : Int),o y z = some r→Pure Tryz.prog tab q1F ([.agg (Qe y),.agg (Qe z)] ++ q1C) (qd r)) (x : List qk) (j : Int) (g : Int) (r : Bool × List qk) (p : q7r o x j g = some r) : K5 Tryz.prog tab 191 [.hs 0 3 0 x.length,q9 j,q9 g,.d (.fn q1F q1C)] [(0,.dat 3 (x.map Qe))] 1 (Q2 r.1) [(0,.dat 3 (r.2.map Qe))] 1:=by
 unfold q7r at p;refine Kl Tryz.func191 J qi qi J<|qc<|qa J<|qt<|U J<|O _ J<|qa J<|q8<|qg<|qc<|qa J<|q8<|q7 p fun aa bl p=>?_;refine Qo (fun t=>.inl t = aa) (fun t=>⟨[],[(0,.dat 3 (t.map Qe))],1⟩) qe ?_ ?_
 ·refine Qm (q7s g o j) (fun f=>⟨[(0,.hs 0 3 0 f.2.2.length),(1,q9 j),(2,q9 g),(3,.d (.fn q1F q1C)),(9,q9 f.1),(10,q9 f.2.1)],[(0,.dat 3 (f.2.2.map Qe))],1⟩) _ aa bl (wkA [] [] []) ?_;intro f co k;unfold q7s at k;refine qg<|qc<|U J<|O _ J<|q8 ?_;refine qn J k (fun _ k=>?_) (fun _ k=>?_)
  ·refine qp<|qg<|q7 k fun bm a k=>?_;refine Qo (fun q=>.inl q = bm) (fun q=>⟨[(0,.hs 0 3 0 q.2.length),(1,q9 j),(2,q9 g),(3,.d (.fn q1F q1C)),(9,q9 q.1),(10,q9 f.2.1)],[(0,.dat 3 (q.2.map Qe))],1⟩) qe ?_ ?_
   ·refine qg<|q7 a fun ab bn a=>?_;refine Qo (fun l=>l = ab) (fun l=>⟨[(0,.hs 0 3 0 f.2.2.length),(1,q9 j),(2,q9 g),(3,.d (.fn q1F q1C)),(9,q9 l),(10,q9 f.2.1)],[(0,.dat 3 (f.2.2.map Qe))],1⟩) qe ?_ ?_
    ·refine Qm (qao g f o) (fun ac=>⟨[(0,.hs 0 3 0 f.2.2.length),(1,q9 j),(2,q9 g),(3,.d (.fn q1F q1C)),(9,q9 ac),(10,q9 f.2.1)],[(0,.dat 3 (f.2.2.map Qe))],1⟩) _ ab bn (wkA [] [] []) ?_;intro ac cp m;unfold qao at m;refine qg<|qg<|Qi [q6,q6,q6,q6,qx 0,q6,q6,q6,q6,qx 0,q6,q6,q6,q6,q6,q6,q6,q6] qi<|U J<|U J<|O _ J<|q7 m fun bo h m=>?_;refine Q9 15 (fun A st=>∃ ad ae af ag ah ai aj ak al am an ao ap aq,st = A [(36,Q2 bo),(35,aq),(34,ap),(33,ao),(32,an),(31,am),(30,al),(29,ak),(28,aj),(27,ai),(26,ah),(25,ag),(24,af),(23,ae),(22,ad)]) ?_ ?_
     ·refine Qa J J h (fun h=>?_) (fun h=>?_)
      ·refine U J<|U J<|U J<|q7 h fun bp ar h=>Q0 ar J J<|Qf _ ar J<|U J<|U J<|O _ J<|q7 h fun bq au h=>Q0 au J J<|Qf _ au J<|q7 h fun br bs h=>Z8 _ (q1Ok bp bq br bs) J J J (.inl J)<|O _ J<|O _ J<|O _ J<|q8 ?_;cases h;exact ⟨_,_,_,_,_,_,_,_,_,_,_,_,_,_,J⟩
      refine qb J<|qb J<|qb J<|qb J<|qb J<|qb J<|qb J<|qb J<|qb J<|qb J<|qb J<|qb J<|qb J<|O _ J<|q8 ?_;cases h;exact ⟨_,_,_,_,_,_,_,_,_,_,_,_,_,_,J⟩
     rintro _ ⟨ad,ae,af,ag,ah,ai,aj,ak,al,am,an,ao,ap,aq,rfl⟩;refine q8 ?_;refine qn J m (fun _ m=>?_) (fun _ m=>?_)
     ·refine qp<|Qc<|Q5<|U J<|O _ J<|qa J<|Q4<|Qp<|Ql<|⟨_,qr m,wkA [] [] []⟩
     refine Qh ?_;refine ⟨_,qr m,fun hm=>?_⟩;subst hm;exact ⟨_,J,wkA [] [] []⟩
    intro l hb;subst hb;refine qg<|qc<|U J<|U J<|O _ J<|q8 ?_;refine qn J a (fun _ a=>?_) (fun _ a=>?_)
    ·refine qc<|qa J<|qu ?_;obtain rfl:=qw a;refine ⟨_,qr k,fun hm=>?_⟩;subst hm;obtain rfl:=qw p;exact ⟨.inr J,_,J,wkA [] [] []⟩
    refine qp<|qg<|qc<|U J<|U J<|O _ J<|O _ J<|q8 ?_;refine qn J a (fun _ a=>?_) (fun _ a=>?_)
    ·refine qc<|qa J<|qu ?_;obtain rfl:=qw a;refine ⟨_,qr k,fun hm=>?_⟩;subst hm;obtain rfl:=qw p;exact ⟨.inr J,_,J,wkA [] [] []⟩
    refine qp<|qg<|Qi [Qt 0,q6,Qt 0,q6,qx 0,q6,q6,q6,qx 0,q6,q6,q6,q6,q6,q6,q6,q6,q6] qi<|U J<|U J<|U J<|U J<|O _ J<|U J<|U J<|O _ J<|q7 a fun bt av a=>Q0 av J J<|Qf _ av J<|U J<|U J<|q7 a fun bu aw a=>Q0 aw J J<|Qf _ aw J<|q7 a fun cq ax a=>Q0 ax J J<|Qz bt ax J J J J J J J J (leb J) J<|q7 a fun cr ay a=>Q0 ay qe J<|Qz bu ay J J J J J J J J (leb J) J<|q8<|qg<|qc<|U J<|U J<|O _ J<|O _ J<|q8<|q7 a fun bv n a=>?_;refine Y2 (fun s=>s = bv) (fun s=>⟨[(0,.hs 0 3 0 s.length),(1,q9 j),(2,q9 g),(3,.d (.fn q1F q1C)),(9,q9 l),(10,q9 f.2.1)],[(0,.dat 3 (s.map Qe))],1⟩) qe ?_ ?_
    ·refine qn J n (fun _ n=>?_) (fun _ n=>?_)
     ·refine qc<|U J<|O _ J<|qa J<|q8<|q7 n fun bw bz n=>Qc<|Qm (qap o) (fun u=>⟨[(0,.hs 0 3 0 u.2.length),(1,q9 j),(2,q9 g),(3,.d (.fn q1F q1C)),(9,q9 l),(10,q9 f.2.1),(11,q9 u.1)],[(0,.dat 3 (u.2.map Qe))],1⟩) _ bw bz (wkE [] [] [] J ⟨⟨_,J,K3 qe J Q3 (ltd J)⟩,qm J,qm J,qm J,qm J,qm J,qm J,trivial⟩ ⟨Qq J J,trivial⟩) ?_;intro u cs b;unfold qap at b;refine qg<|qc<|U J<|O _ J<|q8 ?_;refine qn J b (fun _ b=>?_) (fun _ b=>?_)
      ·refine qp<|qg<|Qc<|qg<|qg<|Qi [q6,q6,q6,qx 0,q6,q6,q6,q6,qx 0,q6,q6,q6,q6] qi<|U J<|U J<|U J<|q7 b fun ca az b=>Q0 az J J<|Qf _ az J<|U J<|U J<|O _ J<|q7 b fun cb ba b=>Q0 ba J J<|Qf _ ba J<|q7 b fun cc cd b=>Z8 _ (q1Ok ca cb cc cd) J J J (.inl J)<|O _ J<|O _ J<|q8 ?_;refine qn J b (fun _ b=>?_) (fun _ b=>?_)
       ·refine Qh ?_;refine ⟨_,qr b,fun hm=>?_⟩;subst hm;obtain rfl:=qw n;exact ⟨_,J,wkA [] [] []⟩
       refine qp<|Qi [Qt 0,q6,Qt 0,q6,qx 0,q6,q6,q6,qx 0,q6,q6,q6,q6,q6,q6,q6,q6,q6] qi<|U J<|U J<|U J<|U J<|O _ J<|U J<|U J<|O _ J<|q7 b fun ce bb b=>Q0 bb J J<|Qf _ bb J<|U J<|U J<|q7 b fun cf bc b=>Q0 bc J J<|Qf _ bc J<|q7 b fun ct bd b=>Q0 bd J J<|Qz ce bd J J J J J J J J (leb J) J<|q7 b fun cu be b=>Q0 be qe J<|Qz cf be J J J J J J J J (leb J) J<|Q4<|Qp<|Q5<|U J<|O _ J<|qa J<|Q4<|⟨_,qr b,wkE [] [] [] J ⟨⟨_,J,K3 qe J Q3 (ltd J)⟩,qm J,qm J,qm J,qm J,qm J,qm J,trivial⟩ ⟨Qq J J,trivial⟩⟩
      refine Qh ?_;refine ⟨_,qr b,fun hm=>?_⟩;subst hm;obtain rfl:=qw n;exact ⟨_,J,wkA [] [] []⟩
     refine qp<|Ql ?_;obtain rfl:=qw n;exact ⟨_,J,wkE [] [] [] J ⟨⟨_,J,K3 qe J Q3 (ltd J)⟩,qm J,qm J,qm J,qm J,qm J,trivial⟩ ⟨Qq J J,trivial⟩⟩
    intro s hb;subst hb;refine qc<|U J<|U J<|O _ J<|O _ J<|q8 ?_;refine qn J a (fun _ a=>?_) (fun _ a=>?_)
    ·refine qc<|U J<|O _ J<|qa J<|q8<|q7 a fun cg ch a=>Qc<|Qm (qaq g o l) (fun v=>⟨[(0,.hs 0 3 0 v.2.length),(1,q9 j),(2,q9 g),(3,.d (.fn q1F q1C)),(9,q9 l),(10,q9 f.2.1),(12,q9 v.1)],[(0,.dat 3 (v.2.map Qe))],1⟩) _ cg ch (wkA [] [] []) ?_;intro v cv c;unfold qaq at c;refine qg<|qc<|U J<|U J<|O _ J<|q8 ?_;refine qn J c (fun _ c=>?_) (fun _ c=>?_)
     ·refine qp<|qg<|Qc<|qg<|qg<|Qi [q6,q6,q6,qx 0,q6,q6,q6,q6,qx 0,q6,q6,q6,q6] qi<|U J<|U J<|U J<|q7 c fun ci bf c=>Q0 bf J J<|Qf _ bf J<|U J<|U J<|O _ J<|q7 c fun cj bg c=>Q0 bg J J<|Qf _ bg J<|q7 c fun ck cl c=>Z8 _ (q1Ok ci cj ck cl) J J J (.inl J)<|O _ J<|O _ J<|q8 ?_;refine qn J c (fun _ c=>?_) (fun _ c=>?_)
      ·refine Qh ?_;refine ⟨_,qr c,fun hm=>?_⟩;subst hm;obtain rfl:=qw a;exact ⟨_,J,wkA [] [] []⟩
      refine qp<|Qi [Qt 0,q6,Qt 0,q6,qx 0,q6,q6,q6,qx 0,q6,q6,q6,q6,q6,q6,q6,q6,q6] qi<|U J<|U J<|U J<|U J<|O _ J<|U J<|U J<|O _ J<|q7 c fun cm bh c=>Q0 bh J J<|Qf _ bh J<|U J<|U J<|q7 c fun cn bi c=>Q0 bi J J<|Qf _ bi J<|q7 c fun cw bj c=>Q0 bj J J<|Qz cm bj J J J J J J J J (leb J) J<|q7 c fun cx bk c=>Q0 bk qe J<|Qz cn bk J J J J J J J J (leb J) J<|Q4<|Qp<|Q5<|U J<|O _ J<|qa J<|Q4<|⟨_,qr c,wkE [] [] [] J ⟨⟨_,J,K3 qe J Q3 (ltd J)⟩,qm J,qm J,qm J,qm J,qm J,qm J,trivial⟩ ⟨Qq J J,trivial⟩⟩
     refine Qh ?_;refine ⟨_,qr c,fun hm=>?_⟩;subst hm;obtain rfl:=qw a;exact ⟨_,J,wkA [] [] []⟩
    refine qp<|Ql ?_;obtain rfl:=qw a;exact ⟨_,J,wkA [] [] []⟩
   intro q hb;subst hb;refine Q5<|U J<|O _ J<|qa J<|Q4<|⟨_,qr k,wkA [] [] []⟩
  refine Qh ?_;refine ⟨_,qr k,fun hm=>?_⟩;subst hm;exact ⟨_,J,wkA [] [] []⟩
 intro t hb;subst hb;refine qc<|qa J<|qu ?_;obtain rfl:=qw p;exact ⟨.inr J,_,J,wkA [] [] []⟩
end Go.Proofs.YtmnfbjlabfeneaaGreat
