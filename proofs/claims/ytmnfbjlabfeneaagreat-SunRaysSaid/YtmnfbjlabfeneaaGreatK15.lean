/- W_Alla -/
import Derived.Test.YtmnfbjlabfeneaaGreatK14
namespace Go.Proofs.YtmnfbjlabfeneaaGreat
open Go Go.Am Go.Sh
set_option maxHeartbeats 8000000
set_option maxRecDepth 100000
theorem q57 (h : Q4) (j : Int) (r : Bool) (a : Uf h j = some r) : Pure Tryz.prog tab 39 [.agg (K3 h),qf j] (.bool r):=by
 unfold Uf at a;refine Qt Tryz.func39 J qg qg J<|qc<|Qn _ _ J<|qa J<|qx<|O _ J<|O _ J<|U J<|O _ J<|O _ J<|q7 a fun c1 b a=>?_;refine Qf 6 (fun A st=>∃ k l m n o,st = A [(15,Q2 c1),(14,o),(13,n),(12,m),(11,l),(10,k)]) ?_ ?_
 ·refine Qg J J b (fun b=>?_) (fun b=>?_)
  ·refine O _ J<|O _ J<|U J<|O _ J<|O _ J<|q8 ?_;cases b;exact ⟨_,_,_,_,_,J⟩
  refine qb J<|qb J<|qb J<|qb J<|O _ J<|q8 ?_;cases b;exact ⟨_,_,_,_,_,J⟩
 rintro _ ⟨k,l,m,n,o,rfl⟩;refine q7 a fun c8 c a=>?_;refine Qf 7 (fun A st=>∃ p q s t u v,st = A [(22,Q2 c8),(21,v),(20,u),(19,t),(18,s),(17,q),(16,p)]) ?_ ?_
 ·refine Qg J J c (fun c=>?_) (fun c=>?_)
  ·refine O _ J<|O _ J<|U J<|O _ J<|O _ J<|O _ J<|q8 ?_;cases c;exact ⟨_,_,_,_,_,_,J⟩
  refine qb J<|qb J<|qb J<|qb J<|qb J<|O _ J<|q8 ?_;cases c;exact ⟨_,_,_,_,_,_,J⟩
 rintro _ ⟨p,q,s,t,u,v,rfl⟩;refine q7 a fun ap d a=>?_;refine Qf 6 (fun A st=>∃ x y z aa ab,st = A [(28,Q2 ap),(27,ab),(26,aa),(25,z),(24,y),(23,x)]) ?_ ?_
 ·refine Qg J J d (fun d=>?_) (fun d=>?_)
  ·refine O _ J<|O _ J<|U J<|O _ J<|O _ J<|q8 ?_;cases d;exact ⟨_,_,_,_,_,J⟩
  refine qb J<|qb J<|qb J<|qb J<|O _ J<|q8 ?_;cases d;exact ⟨_,_,_,_,_,J⟩
 rintro _ ⟨x,y,z,aa,ab,rfl⟩;refine q7 a fun aq f a=>?_;refine Qf 7 (fun A st=>∃ ac ad ae af ag ah,st = A [(35,Q2 aq),(34,ah),(33,ag),(32,af),(31,ae),(30,ad),(29,ac)]) ?_ ?_
 ·refine Qg J J f (fun f=>?_) (fun f=>?_)
  ·refine O _ J<|O _ J<|U J<|O _ J<|O _ J<|O _ J<|q8 ?_;cases f;exact ⟨_,_,_,_,_,_,J⟩
  refine qb J<|qb J<|qb J<|qb J<|qb J<|O _ J<|q8 ?_;cases f;exact ⟨_,_,_,_,_,_,J⟩
 rintro _ ⟨ac,ad,ae,af,ag,ah,rfl⟩;refine q7 a fun ar g a=>?_;refine Qf 6 (fun A st=>∃ ai aj ak al am,st = A [(41,Q2 ar),(40,am),(39,al),(38,ak),(37,aj),(36,ai)]) ?_ ?_
 ·refine Qg J J g (fun g=>?_) (fun g=>?_)
  ·refine O _ J<|O _ J<|U J<|O _ J<|O _ J<|q8 ?_;cases g;exact ⟨_,_,_,_,_,J⟩
  refine qb J<|qb J<|qb J<|qb J<|O _ J<|q8 ?_;cases g;exact ⟨_,_,_,_,_,J⟩
 rintro _ ⟨ai,aj,ak,al,am,rfl⟩;refine qa J<|qu ?_;cases a;exact Q5 _ J
theorem qsi (f : List qj) (r : Bool) (b : q7v f = some r) : Pure Tryz.prog tab 11 [.sl 6 (f.map Qi)] (.bool r):=by
 unfold q7v at b;refine Qt Tryz.func11 J qg qg J<|qc<|qa J<|q8<|qe<|qc<|U J<|K0 J<|O _ J<|q8 ?_;refine ql J b (fun _ b=>?_) (fun _ b=>?_)
 ·refine qc<|U J<|K0 J<|O _ J<|qa J<|qu ?_;cases b;exact Q5 _ J
 refine qm<|qe<|qc<|qa J<|q8<|q7 b fun h t b=>?_;refine Qo (fun g=>.inl g = h) (fun g=>⟨[(0,.d (.sl 6 (f.map Qi)))],[],0⟩) qd ?_ ?_
 ·refine Qk (q58 f) (fun j=>⟨[(0,.d (.sl 6 (f.map Qi))),(3,q9 j)],[],0⟩) _ h t (wkA [] [] []) ?_;intro j ae a;unfold q58 at a;refine qe<|qc<|U J<|U J<|K0 J<|O _ J<|q8 ?_;refine ql J a (fun _ a=>?_) (fun _ a=>?_)
  ·refine qm<|qe<|Qa<|qc<|U J<|U J<|q7 a fun u v a=>Qm v J<|O _ J<|O _ J<|q7 a fun x y a=>Q3 (q57 u.Lo 9 x y) J<|O _ J<|q7 a fun z c a=>?_;refine Qf 9 (fun A st=>∃ k l m n o p q s,st = A [(31,Q2 z),(30,s),(29,q),(28,p),(27,o),(26,n),(25,m),(24,l),(23,k)]) ?_ ?_
   ·refine Qg J J c (fun c=>?_) (fun c=>?_)
    ·refine qb J<|qb J<|qb J<|qb J<|qb J<|qb J<|qb J<|O _ J<|q8 ?_;cases c;exact ⟨_,_,_,_,_,_,_,_,J⟩
    refine U J<|U J<|q7 c fun aa ab c=>Qm ab J<|O _ J<|O _ J<|q7 c fun ac ad c=>Q3 (q57 aa.Hi 9 ac ad) J<|O _ J<|O _ J<|q8 ?_;cases c;exact ⟨_,_,_,_,_,_,_,_,J⟩
   rintro _ ⟨k,l,m,n,o,p,q,s,rfl⟩;refine q8 ?_;refine ql J a (fun _ a=>?_) (fun _ a=>?_)
   ·refine qc<|qa J<|qu ?_;refine ⟨_,qn a,fun hm=>?_⟩;subst hm;cases b;exact Q5 _ J
   refine qm<|Qj<|Qq<|Q1<|U J<|O _ J<|qa J<|qz<|⟨_,qn a,wkA [] [] []⟩
  refine Qc ?_;refine ⟨_,qn a,fun hm=>?_⟩;subst hm;exact ⟨_,J,wkA [] [] []⟩
 intro g hb;subst hb;refine qc<|U J<|K0 J<|O _ J<|qa J<|qu ?_;cases b;exact Q5 _ J
theorem quw (b : List qj) (f : qj→Option Bool) (p1F : FuncId) (p1C : List DV) (p1Ok : ∀ (h : qj) (r : Bool),f h = some r→Pure Tryz.prog tab p1F ([.agg (Qi h)] ++ p1C) (.bool r)) (r : Int) (c : q8b b f = some r) : Pure Tryz.prog tab 111 [.sl 6 (b.map Qi),.fn p1F p1C] (qf r):=by
 unfold q8b at c;refine Qt Tryz.func111 J qg qg J<|qc<|qa J<|q8<|qe<|qc<|U J<|K0 J<|U J<|q8<|q7 c fun j l c=>?_;refine Qo (fun g=>.inl g = j) (fun g=>⟨[],[],0⟩) qd ?_ ?_
 ·refine Qk (Ui b f) (fun k=>⟨[(0,.d (.sl 6 (b.map Qi))),(1,.d (.fn p1F p1C)),(7,q9 (b.length : Int)),(8,q9 k)],[],0⟩) _ j l (wkA [] [] []) ?_;intro k q a;unfold Ui at a;refine qc<|O _ J<|q8<|qe ?_;refine ql J a (fun _ a=>?_) (fun _ a=>?_)
  ·refine qm<|qe<|Qa<|qc<|U J<|qa J<|qx<|U J<|U J<|U J<|q7 a fun m n a=>Qm n J<|O _ J<|q7 a fun o p a=>Yw _ (p1Ok m o p) J J J (.inl J)<|q8 ?_;refine ql J a (fun _ a=>?_) (fun _ a=>?_)
   ·refine qc<|U J<|qa J<|qu ?_;refine ⟨_,qn a,fun hm=>?_⟩;subst hm;cases c;exact Q5 _ J
   refine qm<|Qj<|Qq<|Q1<|O _ J<|U J<|qz<|⟨_,qn a,wkA [] [] []⟩
  refine Qc ?_;refine ⟨_,qn a,fun hm=>?_⟩;subst hm;exact ⟨_,J,wkA [] [] []⟩
 intro g hb;subst hb;refine qc<|qa J<|qu ?_;cases c;exact Q5 _ J
theorem qed (b : List qj) (c : qj→Option Bool) (p1F : FuncId) (p1C : List DV) (p1Ok : ∀ (d : qj) (r : Bool),c d = some r→Pure Tryz.prog tab p1F ([.agg (Qi d)] ++ p1C) (.bool r)) (r : Bool) (a : q1j b c = some r) : Pure Tryz.prog tab 78 [.sl 6 (b.map Qi),.fn p1F p1C] (.bool r):=by
 unfold q1j at a;refine Qt Tryz.func78 J qg qg J<|qc<|qa J<|qx<|U J<|U J<|q7 a fun f g a=>Q3 (quw b c p1F p1C p1Ok f g) J<|O _ J<|qa J<|qu ?_;cases a;exact Q5 _ J
theorem qks (a : Q4) (r : Bool) (c : q6k a = some r) : Pure Tryz.prog tab 116 [.agg (K3 a)] (.bool r):=by
 unfold q6k at c;refine Qt Tryz.func116 J qg qg J<|qc<|Qn _ _ J<|qa J<|qx<|O _ J<|O _ J<|O _ J<|O _ J<|O _ J<|O _ J<|qit (r:=min (min a.X a.Y) a.Z) J J (by simp only [qic];rfl)<|O _ J<|q7 c fun o b c=>?_;refine Qf 10 (fun A st=>∃ d f g h j k l m n,st = A [(20,Q2 o),(19,n),(18,m),(17,l),(16,k),(15,j),(14,h),(13,g),(12,f),(11,d)]) ?_ ?_
 ·refine Qg J J b (fun b=>?_) (fun b=>?_)
  ·refine O _ J<|O _ J<|O _ J<|O _ J<|O _ J<|O _ J<|qis (r:=max (max a.X a.Y) a.Z) J J (by simp only [qib];rfl)<|O _ J<|O _ J<|q8 ?_;cases b;exact ⟨_,_,_,_,_,_,_,_,_,J⟩
  refine qb J<|qb J<|qb J<|qb J<|qb J<|qb J<|qb J<|qb J<|O _ J<|q8 ?_;cases b;exact ⟨_,_,_,_,_,_,_,_,_,J⟩
 rintro _ ⟨d,f,g,h,j,k,l,m,n,rfl⟩;refine qa J<|qu ?_;cases c;exact Q5 _ J
theorem qxt (g : qj) (r : Bool) (a : q96 g = some r) : Pure Tryz.prog tab 101 [.agg (Qi g)] (.bool r):=by
 unfold q96 at a;refine Qt Tryz.func101 J qg qg J<|qc<|Qn _ _ J<|qa J<|qx<|O _ J<|O _ J<|O _ J<|O _ J<|O _ J<|O _ J<|O _ J<|q7 a fun c1 d a=>?_;refine Qf 9 (fun A st=>∃ h j k l m n o p,st = A [(18,Q2 c1),(17,p),(16,o),(15,n),(14,m),(13,l),(12,k),(11,j),(10,h)]) ?_ ?_
 ·refine Qg J J d (fun d=>?_) (fun d=>?_)
  ·refine O _ J<|O _ J<|O _ J<|O _ J<|O _ J<|O _ J<|O _ J<|O _ J<|q8 ?_;cases d;exact ⟨_,_,_,_,_,_,_,_,J⟩
  refine qb J<|qb J<|qb J<|qb J<|qb J<|qb J<|qb J<|O _ J<|q8 ?_;cases d;exact ⟨_,_,_,_,_,_,_,_,J⟩
 rintro _ ⟨h,j,k,l,m,n,o,p,rfl⟩;refine q7 a fun aj f a=>?_;refine Qf 9 (fun A st=>∃ q s t u v x y z,st = A [(27,Q2 aj),(26,z),(25,y),(24,x),(23,v),(22,u),(21,t),(20,s),(19,q)]) ?_ ?_
 ·refine Qg J J f (fun f=>?_) (fun f=>?_)
  ·refine O _ J<|O _ J<|O _ J<|O _ J<|O _ J<|O _ J<|O _ J<|O _ J<|q8 ?_;cases f;exact ⟨_,_,_,_,_,_,_,_,J⟩
  refine qb J<|qb J<|qb J<|qb J<|qb J<|qb J<|qb J<|O _ J<|q8 ?_;cases f;exact ⟨_,_,_,_,_,_,_,_,J⟩
 rintro _ ⟨q,s,t,u,v,x,y,z,rfl⟩;refine q7 a fun ak b a=>?_;refine Qf 5 (fun A st=>∃ aa ab ac ad,st = A [(32,Q2 ak),(31,ad),(30,ac),(29,ab),(28,aa)]) ?_ ?_
 ·refine Qg J J b (fun b=>?_) (fun b=>?_)
  ·refine O _ J<|O _ J<|q7 b fun al am b=>Q3 (qks g.Lo al am) J<|O _ J<|q8 ?_;cases b;exact ⟨_,_,_,_,J⟩
  refine qb J<|qb J<|qb J<|O _ J<|q8 ?_;cases b;exact ⟨_,_,_,_,J⟩
 rintro _ ⟨aa,ab,ac,ad,rfl⟩;refine q7 a fun an c a=>?_;refine Qf 5 (fun A st=>∃ ae af ag ah,st = A [(37,Q2 an),(36,ah),(35,ag),(34,af),(33,ae)]) ?_ ?_
 ·refine Qg J J c (fun c=>?_) (fun c=>?_)
  ·refine O _ J<|O _ J<|q7 c fun ao ap c=>Q3 (qks g.Hi ao ap) J<|O _ J<|q8 ?_;cases c;exact ⟨_,_,_,_,J⟩
  refine qb J<|qb J<|qb J<|O _ J<|q8 ?_;cases c;exact ⟨_,_,_,_,J⟩
 rintro _ ⟨ae,af,ag,ah,rfl⟩;refine qa J<|qu ?_;cases a;exact Q5 _ J
theorem qxl (b : qj) (r : Bool) (a : q2o b = some r) : Pure Tryz.prog tab 100 [.agg (Qi b)] (.bool r):=by
 unfold q2o at a;refine Qt Tryz.func100 J qg qg J<|qc<|Qn _ _ J<|qa J<|qx<|O _ J<|q7 a fun c d a=>Q3 (qxt b c d) J<|O _ J<|qa J<|qu ?_;cases a;exact Q5 _ J
theorem qpp (k : Int) (r : Int) (a : q25 k = some r) : Pure Tryz.prog tab 167 [.int .u64 k] (qf r):=by
 unfold q25 at a;refine Qt Tryz.func167 J qg qg J<|qc<|qa J<|q8<|qe<|qc<|U J<|O _ J<|q8<|q7 a fun l b a=>?_;refine Y2 (fun c=>c = l) (fun c=>⟨[(0,.d (.int .u64 c.1)),(2,q9 c.2)],[],0⟩) qd ?_ ?_
 ·refine ql J b (fun _ b=>?_) (fun _ b=>?_)
  ·refine qc<|U J<|O _ J<|qa J<|q8<|Q1<|qa J<|qz ?_;obtain rfl:=qw b;exact ⟨_,J,wkA [] [] []⟩
  refine qm<|Qj ?_;obtain rfl:=qw b;exact ⟨_,J,wkA [] [] []⟩
 intro c hb;subst hb;refine qe<|qc<|U J<|O _ J<|q8<|q7 a fun m f a=>?_;refine Y2 (fun g=>g = m) (fun g=>⟨[(0,.d (.int .u64 g.1)),(2,q9 g.2)],[],0⟩) qd ?_ ?_
 ·refine ql J f (fun _ f=>?_) (fun _ f=>?_)
  ·refine qc<|U J<|O _ J<|qa J<|q8<|Q1<|U J<|O _ J<|qa J<|qz ?_;obtain rfl:=qw f;exact ⟨_,J,wkA [] [] []⟩
  refine qm<|Qj ?_;obtain rfl:=qw f;exact ⟨_,J,wkA [] [] []⟩
 intro g hb;subst hb;refine qe<|qc<|U J<|O _ J<|q8<|q7 a fun n h a=>?_;refine Y2 (fun j=>j = n) (fun j=>⟨[(0,.d (.int .u64 j.1)),(2,q9 j.2)],[],0⟩) qd ?_ ?_
 ·refine ql J h (fun _ h=>?_) (fun _ h=>?_)
  ·refine qc<|U J<|O _ J<|qa J<|q8<|Q1<|U J<|O _ J<|qa J<|qz ?_;obtain rfl:=qw h;exact ⟨_,J,wkA [] [] []⟩
  refine qm<|Qj ?_;obtain rfl:=qw h;exact ⟨_,J,wkA [] [] []⟩
 intro j hb;subst hb;refine qc<|U J<|U J<|O _ J<|q7 a fun p o a=>qqd qbm o J J J J J<|O _ J<|O _ J<|qa J<|qu ?_;cases a;exact Q5 _ J
theorem qdc (b : Int) (r : Int) (a : Uc b = some r) : Pure Tryz.prog tab 147 [.int .u64 b] (qf r):=by
 unfold Uc at a;refine Qt Tryz.func147 J qg qg J<|qc<|qa J<|q8<|qe<|Uh J<|qm<|qc<|U J<|q7 a fun c d a=>Q3 (qpp b c d) J<|qa J<|qu ?_;cases a;exact Q5 _ J
theorem qfk (a : Int) (r : Bool) (b : q71 a = some r) : Pure Tryz.prog tab 181 [qf a] (.bool r):=by
 unfold q71 at b;refine Qt Tryz.func181 J qg qg J<|qc<|qa J<|qx<|U J<|U J<|O _ J<|qa J<|qu ?_;cases b;exact Q5 _ J
theorem Zg (d : Int) (f : Int) (r : Bool) (a : Yt d f = some r) : Pure Tryz.prog tab 163 [qf d,qf f] (.bool r):=by
 unfold Yt at a;refine Qt Tryz.func163 J qg qg J<|qc<|qa J<|qx<|U J<|q7 a fun p q a=>Q3 (qfk d p q) J<|q7 a fun s b a=>?_;refine Qf 5 (fun A st=>∃ g h j k,st = A [(11,Q2 s),(10,k),(9,j),(8,h),(7,g)]) ?_ ?_
 ·refine Qg J J b (fun b=>?_) (fun b=>?_)
  ·refine U J<|q7 b fun t u b=>Q3 (qfk f t u) J<|O _ J<|O _ J<|q8 ?_;cases b;exact ⟨_,_,_,_,J⟩
  refine qb J<|qb J<|qb J<|O _ J<|q8 ?_;cases b;exact ⟨_,_,_,_,J⟩
 rintro _ ⟨g,h,j,k,rfl⟩;refine q7 a fun v c a=>?_;refine Qf 5 (fun A st=>∃ l m n o,st = A [(16,Q2 v),(15,o),(14,n),(13,m),(12,l)]) ?_ ?_
 ·refine Qg J J c (fun c=>?_) (fun c=>?_)
  ·refine qb J<|qb J<|qb J<|O _ J<|q8 ?_;cases c;exact ⟨_,_,_,_,J⟩
  refine U J<|U J<|O _ J<|O _ J<|q8 ?_;cases c;exact ⟨_,_,_,_,J⟩
 rintro _ ⟨l,m,n,o,rfl⟩;refine qa J<|qu ?_;cases a;exact Q5 _ J
theorem qv7 (m : List Int) (f : Int) (g : Int) (r : List Int) (k : q5t  m f g = some r) : K6 Tryz.prog tab 157 [.hs 0 1 0 m.length,q9 f,q9 g] [(0,.dat 1 (m.map (eI .i64)))] 1 (.d (.tup [])) [(0,.dat 1 (r.map (eI .i64)))] 1:=by
 unfold q5t at k;refine Kj Tryz.func157 J qg qg J<|qc<|U J<|O _ J<|qa J<|q8<|q7 k fun aj ak k=>Qa<|Qk (q5u g f) (fun h=>⟨[(0,.hs 0 1 0 h.2.length),(1,q9 f),(2,q9 g),(6,q9 h.1)],[(0,.dat 1 (h.2.map (eI .i64)))],1⟩) _ aj ak (wkA [] [] []) ?_;intro h av c;unfold q5u at c;refine qe<|qc<|U J<|U J<|O _ J<|q8 ?_;refine ql J c (fun _ c=>?_) (fun _ c=>?_)
 ·refine qm<|qe<|q7 c fun al n c=>?_;refine Qo (fun j=>j = al) (fun j=>⟨[(0,.hs 0 1 0 j.length),(1,q9 f),(2,q9 g),(6,q9 h.1)],[(0,.dat 1 (j.map (eI .i64)))],1⟩) qd ?_ ?_
  ·refine qc<|U J<|qa J<|q8<|q7 n fun am an n=>Qa<|Qk (q5v f) (fun l=>⟨[(0,.hs 0 1 0 l.2.length),(1,q9 f),(2,q9 g),(6,q9 h.1),(7,q9 l.1)],[(0,.dat 1 (l.2.map (eI .i64)))],1⟩) _ am an (wkA [] [] []) ?_;intro l aw a;unfold q5v at a;refine qe<|qe<|Qe [q0,q0,qv 0,q0,q0,q0,q0,qv 0,q0,q0,q0,q0,q0,q0,q0] qg<|U J<|U J<|O _ J<|q7 a fun ao b a=>?_;refine Qf 12 (fun A st=>∃ o p q s t u v x y z aa,st = A [(30,Q2 ao),(29,aa),(28,z),(27,y),(26,x),(25,v),(24,u),(23,t),(22,s),(21,q),(20,p),(19,o)]) ?_ ?_
   ·refine Qg J J b (fun b=>?_) (fun b=>?_)
    ·refine U J<|U J<|q7 b fun ap ab b=>qs ab J J<|Q9 _ ab J<|U J<|U J<|O _ J<|q7 b fun aq ac b=>qs ac J J<|Q9 _ ac J<|q7 b fun ar au b=>Q3 (Zg ap aq ar au) J<|O _ J<|q8 ?_;cases b;exact ⟨_,_,_,_,_,_,_,_,_,_,_,J⟩
    refine qb J<|qb J<|qb J<|qb J<|qb J<|qb J<|qb J<|qb J<|qb J<|qb J<|O _ J<|q8 ?_;cases b;exact ⟨_,_,_,_,_,_,_,_,_,_,_,J⟩
   rintro _ ⟨o,p,q,s,t,u,v,x,y,z,aa,rfl⟩;refine q8 ?_;refine ql J a (fun _ a=>?_) (fun _ a=>?_)
   ·refine qm<|qe<|Qa<|Qe [Qs 0,q0,Qs 0,q0,qv 0,q0,q0,q0,qv 0,q0,q0,q0,q0,q0,q0,q0,q0,q0] qg<|U J<|U J<|U J<|U J<|O _ J<|U J<|U J<|O _ J<|q7 a fun ad ae a=>qs ae J J<|Q9 _ ae J<|U J<|U J<|q7 a fun af ag a=>qs ag J J<|Q9 _ ag J<|q7 a fun ax ah a=>qs ah J J<|Qv (ds:=[qf ad]) ad ah J J J J J J J J (leb J) J<|q7 a fun ay ai a=>qs ai qd J<|Qv (ds:=[qf af]) af ai J J J J J J J J (leb J) J<|qz<|Qq<|Q1<|U J<|O _ J<|qa J<|qz<|⟨_,qn a,wkE [] [] [] J ⟨⟨_,J,K2 qd J qt (ltd J)⟩,qk J,qk J,qk J,qk J,trivial⟩ ⟨Qp J J,trivial⟩⟩
   refine Qc ?_;refine ⟨_,qn a,fun hm=>?_⟩;subst hm;obtain rfl:=qw n;exact ⟨_,J,wkA [] [] []⟩
  intro j hb;subst hb;refine Q1<|U J<|O _ J<|qa J<|qz<|⟨_,qn c,wkA [] [] []⟩
 refine Qc ?_;refine ⟨_,qn c,fun hm=>?_⟩;subst hm;obtain rfl:=qw k;exact ⟨.inl J,_,J,wkA [] [] []⟩
theorem qkn (l : List Int) (m : Int) (f : Int) (g : Int) (r : List Int) (h : q40  l m f g = some r) : K6 Tryz.prog tab 176 [.hs 0 1 0 l.length,q9 m,q9 f,q9 g] [(0,.dat 1 (l.map (eI .i64)))] 1 (.d (.tup [])) [(0,.dat 1 (r.map (eI .i64)))] 1:=by
 unfold q40 at h;refine Kj Tryz.func176 J qg qg J<|qc<|U J<|qa J<|q8<|q7 h fun ao ap h=>Qa<|Qk (q6h f g) (fun c=>⟨[(0,.hs 0 1 0 c.2.length),(2,q9 f),(3,q9 g),(8,q9 c.1)],[(0,.dat 1 (c.2.map (eI .i64)))],1⟩) _ ao ap (wkA [] [] []) ?_;intro c bc a;unfold q6h at a;refine Qa<|qc<|U J<|O _ J<|O _ J<|qa J<|q8<|qe<|qc<|U J<|U J<|O _ J<|q8 ?_;refine ql J a (fun _ a=>?_) (fun _ a=>?_)
 ·refine Qc ?_;refine ⟨_,qn a,fun hm=>?_⟩;subst hm;obtain rfl:=qw h;exact ⟨.inl J,_,J,wkA [] [] []⟩
 refine qm<|qe<|qe<|Qe [q0,q0,qv 0,q0,q0,q0,q0,q0,q0,qv 0,q0,q0,q0,q0,q0,q0,q0,q0,q0,q0] qg<|U J<|O _ J<|U J<|O _ J<|q7 a fun aq b a=>?_;refine Qf 16 (fun A st=>∃ n o p q s t u v x y z aa ab ac ad,st = A [(36,Q2 aq),(35,ad),(34,ac),(33,ab),(32,aa),(31,z),(30,y),(29,x),(28,v),(27,u),(26,t),(25,s),(24,q),(23,p),(22,o),(21,n)]) ?_ ?_
 ·refine Qg J J b (fun b=>?_) (fun b=>?_)
  ·refine U J<|U J<|U J<|O _ J<|q7 b fun ar ae b=>qs ae J J<|Q9 _ ae J<|U J<|U J<|U J<|O _ J<|O _ J<|q7 b fun au af b=>qs af J J<|Q9 _ af J<|q7 b fun av aw b=>Q3 (Zg ar au av aw) J<|O _ J<|q8 ?_;cases b;exact ⟨_,_,_,_,_,_,_,_,_,_,_,_,_,_,_,J⟩
  refine qb J<|qb J<|qb J<|qb J<|qb J<|qb J<|qb J<|qb J<|qb J<|qb J<|qb J<|qb J<|qb J<|qb J<|O _ J<|q8 ?_;cases b;exact ⟨_,_,_,_,_,_,_,_,_,_,_,_,_,_,_,J⟩
 rintro _ ⟨n,o,p,q,s,t,u,v,x,y,z,aa,ab,ac,ad,rfl⟩;refine q8<|q7 a fun ax j a=>?_;refine Y2 (fun k=>k = ax) (fun k=>⟨[(0,.hs 0 1 0 c.2.length),(2,q9 f),(3,q9 g),(8,q9 c.1),(9,q9 k)],[(0,.dat 1 (c.2.map (eI .i64)))],1⟩) qd ?_ ?_
 ·refine ql J j (fun _ j=>?_) (fun _ j=>?_)
  ·refine Q1<|U J<|O _ J<|qa J<|qz ?_;obtain rfl:=qw j;exact ⟨_,J,wkA [] [] []⟩
  refine qm<|Qj ?_;obtain rfl:=qw j;exact ⟨_,J,wkA [] [] []⟩
 intro k hb;subst hb;refine qe<|qe<|Qe [q0,q0,qv 0,q0,q0,q0,q0,q0,qv 0,q0,q0,q0,q0,q0] qg<|U J<|U J<|U J<|O _ J<|q7 a fun ay ag a=>qs ag J J<|Q9 _ ag J<|U J<|U J<|U J<|O _ J<|q7 a fun az ah a=>qs ah J J<|Q9 _ ah J<|q7 a fun ba bb a=>Q3 (Zg ay az ba bb) J<|O _ J<|q8 ?_;refine ql J a (fun _ a=>?_) (fun _ a=>?_)
 ·refine q3r ?_;refine ⟨_,qn a,fun hm=>?_⟩;subst hm;obtain rfl:=qw h;exact ⟨.inr J,_,J,wkA [] [] []⟩
 refine qm<|qe<|Qe [Qs 0,q0,Qs 0,q0,qv 0,q0,q0,q0,q0,q0,qv 0,q0,q0,q0,q0,q0,q0,q0,q0,q0,q0,q0,q0,q0] qg<|U J<|U J<|U J<|O _ J<|U J<|U J<|U J<|O _ J<|U J<|U J<|U J<|O _ J<|q7 a fun ai aj a=>qs aj J J<|Q9 _ aj J<|U J<|U J<|U J<|O _ J<|q7 a fun ak al a=>qs al J J<|Q9 _ al J<|q7 a fun bd am a=>qs am J J<|Qv (ds:=[qf ai]) ai am J J J J J J J J (leb J) J<|q7 a fun be an a=>qs an qd J<|Qv (ds:=[qf ak]) ak an J J J J J J J J (leb J) J<|q8<|Q1<|U J<|qa J<|qz<|Qq<|Qj<|⟨_,qn a,wkE [] [] [] J ⟨⟨_,J,K2 qd J qt (ltd J)⟩,qk J,qk J,qk J,trivial⟩ ⟨Qp J J,trivial⟩⟩
theorem qv5 (l : List Int) (b : Int) (g : Int) (r : List Int) (h : q5q  l b g = some r) : K6 Tryz.prog tab 158 [.hs 0 1 0 l.length,q9 b,q9 g] [(0,.dat 1 (l.map (eI .i64)))] 1 (.d (.tup [])) [(0,.dat 1 (r.map (eI .i64)))] 1:=by
 unfold q5q at h;refine Kj Tryz.func158 J qg qg J<|qc<|U J<|qa J<|qx<|qa J<|qx<|U J<|U J<|O _ J<|qa J<|q8<|qe<|qc<|U J<|O _ J<|O _ J<|qa J<|q8<|q7 h fun p x h=>?_;refine Qo (fun k=>k = p) (fun k=>⟨[(0,.hs 0 1 0 k.length),(6,q9 b),(7,q9 0),(8,.d (qf (w64 (g - b))))],[(0,.dat 1 (k.map (eI .i64)))],1⟩) qd ?_ ?_
 ·refine Qk (q5r g b) (fun j=>⟨[(0,.hs 0 1 0 j.2.length),(6,q9 b),(7,q9 0),(8,.d (qf (w64 (g - b)))),(9,q9 j.1)],[(0,.dat 1 (j.2.map (eI .i64)))],1⟩) _ p x (wkA [] [] []) ?_;intro j ag c;unfold q5r at c;refine qe<|qc<|U J<|O _ J<|q8 ?_;refine ql J c (fun _ c=>?_) (fun _ c=>?_)
  ·refine qm<|qe<|Qa<|Q1<|U J<|U J<|U J<|U J<|q7 c fun q y c=>q7 c fun ah z c=>?_;have aa:=Ko z;refine K9 [(0,0)] [(0,0)] _ (.d (.tup [])) 1 [(0,.dat 1 (q.map (eI .i64)))] 1 (qkn j.2 j.1 (w64 (g - b)) b q y)<|qz<|Qq<|Q1<|U J<|O _ J<|qa J<|qz<|⟨_,qn c,wkE [] [] [] J ⟨⟨_,J,K2 (by simp [aa]) J qt (ltd J)⟩,qk J,qk J,qk J,qk J,trivial⟩ ⟨Qp J J,trivial⟩⟩
  refine Qc ?_;refine ⟨_,qn c,fun hm=>?_⟩;subst hm;exact ⟨_,J,wkA [] [] []⟩
 intro k hb;subst hb;refine qc<|U J<|O _ J<|qa J<|q8<|q7 h fun ab ac h=>Qa<|Qk (q5s b) (fun f=>⟨[(0,.hs 0 1 0 f.2.length),(6,q9 b),(7,q9 0),(10,q9 f.1)],[(0,.dat 1 (f.2.map (eI .i64)))],1⟩) _ ab ac (wkA [] [] []) ?_;intro f ai a;unfold q5s at a;refine qe<|qc<|U J<|O _ J<|q8 ?_;refine ql J a (fun _ a=>?_) (fun _ a=>?_)
 ·refine qm<|qe<|Qa<|qe<|Qe [Qs 0,q0,Qs 0,q0,qv 0,q0,q0,q0,qv 0,q0,q0,q0,q0,q0,q0,q0,q0,q0,q0,q0] qg<|U J<|U J<|U J<|U J<|U J<|O _ J<|U J<|U J<|U J<|O _ J<|q7 a fun m s a=>qs s J J<|Q9 _ s J<|U J<|U J<|q7 a fun n t a=>qs t J J<|Q9 _ t J<|q7 a fun aj u a=>qs u J J<|Qv (ds:=[qf m]) m u J J J J J J J J (leb J) J<|q7 a fun ak v a=>qs v qd J<|Qv (ds:=[qf n]) n v J J J J J J J J (leb J) J<|q8<|Q1<|U J<|U J<|U J<|U J<|q7 a fun o ad a=>q7 a fun al ae a=>?_;have af:=Ko ae;refine Ud [(0,0)] [(0,0)] [.hs 0 1 0 f.2.length,q9 0,q9 f.1,q9 b] (.d (.tup [])) [(0,.dat 1 (o.map (eI .i64)))] [(0,.dat 1 (o.map (eI .i64)))] 1 (qkn ((f.2.set b.toNat m).set (w64 (b + f.1)).toNat n) 0 f.1 b o ad) J J J (Yn [(0,0)] [] [] J ⟨⟨_,J,K2 qd J qt (ltd J)⟩,qk J,qk J,qk J,trivial⟩ ⟨Qp J J,trivial⟩) (Yn [(0,0)] [] [] J ⟨qk J,trivial⟩ ⟨Qp J J,trivial⟩) J ⟨.inl J,trivial⟩<|qz<|Qq<|Q1<|U J<|O _ J<|qa J<|qz<|⟨_,qn a,wkE [] [] [] J ⟨⟨_,J,K2 (by simp [af]) J qt (ltd J)⟩,qk J,qk J,qk J,trivial⟩ ⟨Qp J J,trivial⟩⟩
 refine Qc ?_;refine ⟨_,qn a,fun hm=>?_⟩;subst hm;obtain rfl:=qw h;exact ⟨.inl J,_,J,wkA [] [] []⟩
theorem qei (b : List Int) (c : Int) (f : Int) (g : Int) (r : Int × Int × Int) (a : q2n  b c f g = some r) : K6 Tryz.prog tab 185 [.d (.sl 1 (b.map (eI .i64))),q9 c,q9 f,.ref 0 1 0 0] [(0,.dat 1 [[qf g]])] 1 (.d (.tup [qf r.1,qf r.2.1])) [(0,.dat 1 [[qf r.2.2]])] 1:=by
 unfold q2n at a;refine Kj Tryz.func185 J qg qg J<|qc<|qa J<|qa J<|q8<|qe<|qe<|Qe [q0,q0,q0,q0,q0,q0,q0,q0,q0] qg<|U J<|U J<|q7 a fun h j a=>Qm j J<|O _ J<|U J<|U J<|q7 a fun k l a=>Qm l J<|O _ J<|q7 a fun m n a=>Q3 (Zg h k m n) J<|q8 ?_;refine ql J a (fun _ a=>?_) (fun _ a=>?_)
 ·refine qc<|U J<|O _ J<|O _ J<|O _ J<|O _ J<|Qh 0 _ J<|qx<|U J<|U J<|qa J<|qa J<|qu ?_;obtain rfl:=qw a;exact ⟨.inr J,_,J,wkA [] [] []⟩
 refine qm<|qc<|U J<|U J<|qa J<|qa J<|qu ?_;obtain rfl:=qw a;exact ⟨.inr J,_,J,wkA [] [] []⟩
theorem qkk (f : List Int) (h : Int) (j : Int) (k : Int) (l : Int) (r : Int × Int) (a : q3u  f h j k l = some r) : K6 Tryz.prog tab 180 [.d (.sl 1 (f.map (eI .i64))),q9 h,q9 j,q9 k,.ref 0 1 0 0] [(0,.dat 1 [[qf l]])] 1 (q9 r.1) [(0,.dat 1 [[qf r.2]])] 1:=by
 unfold q3u at a;refine Kj Tryz.func180 J qg qg J<|qc<|qa J<|qx<|U J<|U J<|U J<|U J<|q7 a fun b m a=>K9 [(0,0)] [(0,0)] _ (.d (.tup [qf b.1,qf b.2.1])) 1 [(0,.dat 1 [[qf b.2.2]])] 1 (qei f h j l b m)<|U J<|O _ J<|O _ J<|qa J<|qa J<|qx<|U J<|U J<|U J<|U J<|q7 a fun c n a=>K9 [(0,0)] [(0,0)] _ (.d (.tup [qf c.1,qf c.2.1])) 1 [(0,.dat 1 [[qf c.2.2]])] 1 (qei f b.2.1 k b.2.2 c n)<|U J<|O _ J<|O _ J<|qa J<|qa J<|qx<|U J<|U J<|U J<|U J<|q7 a fun g o a=>K9 [(0,0)] [(0,0)] _ (.d (.tup [qf g.1,qf g.2.1])) 1 [(0,.dat 1 [[qf g.2.2]])] 1 (qei f b.1 c.1 c.2.2 g o)<|U J<|O _ J<|O _ J<|qa J<|qa J<|qx ?_;refine U J<|qa J<|qu ?_;obtain rfl:=qw a;exact ⟨.inr J,_,J,wkA [] [] []⟩
theorem qeg (c : List Int) (a : Int) (f : Int) (r : Int × Int) (b : q2m  c a f = some r) : K6 Tryz.prog tab 179 [.d (.sl 1 (c.map (eI .i64))),q9 a,.ref 0 1 0 0] [(0,.dat 1 [[qf f]])] 1 (q9 r.1) [(0,.dat 1 [[qf r.2]])] 1:=by
 unfold q2m at b;refine Kj Tryz.func179 J qg qg J<|qc<|qa J<|qx<|U J<|U J<|O _ J<|U J<|U J<|O _ J<|U J<|q7 b fun g h b=>K9 [(0,0)] [(0,0)] _ (q9 g.1) 1 [(0,.dat 1 [[qf g.2]])] 1 (qkk c (w64 (a - 1)) a (w64 (a + 1)) f g h)<|qa J<|qu ?_;obtain rfl:=qw b;exact ⟨.inr J,_,J,wkA [] [] []⟩
theorem qv3 (h : List Int) (g : Int) (j : Int) (r : Int × Int) (a : q5p h g j = some r) : Pure Tryz.prog tab 160 [.sl 1 (h.map (eI .i64)),qf g,qf j] (.tup [qf r.1,qf r.2]):=by
 unfold q5p at a;refine Qt Tryz.func160 J qg qg J<|qc<|qa J<|qa J<|qx<|U J<|U J<|O _ J<|qa J<|qx<|K1 J J<|qx<|U J<|U J<|O _ J<|O _ J<|O _ J<|qa J<|qx<|U J<|U J<|O _ J<|O _ J<|O _ J<|qa J<|qx<|U J<|U J<|O _ J<|O _ J<|O _ J<|qa J<|q8<|qe<|qc<|U J<|O _ J<|q8<|q7 a fun p f a=>?_;refine Y2 (fun k=>k = p) (fun k=>⟨[(9,.ref 0 1 0 0),(11,q9 k.1)],[(0,.dat 1 [[qf k.2]])],1⟩) qd ?_ ?_
 ·refine ql J f (fun _ f=>?_) (fun _ f=>?_)
  ·refine qe<|qc<|U J<|O _ J<|q8<|q7 f fun q b f=>?_;refine Y2 (fun c=>c = q) (fun c=>⟨[(0,.d (.sl 1 (h.map (eI .i64)))),(9,.ref 0 1 0 0),(10,q9 c.1),(11,q9 c.2.1),(12,q9 c.2.2.1)],[(0,.dat 1 [[qf c.2.2.2]])],1⟩) qd ?_ ?_
   ·refine ql J b (fun _ b=>?_) (fun _ b=>?_)
    ·refine qc<|U J<|U J<|q7 b fun l s b=>K9 [(0,0)] [(0,0)] _ (q9 l.1) 1 [(0,.dat 1 [[qf l.2]])] 1 (qeg h (w64 (g + (w64 ((w64 (Int.tdiv (w64 (j - g)) 4)) * 1)))) 0 l s)<|qa J<|qx<|U J<|U J<|q7 b fun m t b=>K9 [(0,0)] [(0,0)] _ (q9 m.1) 1 [(0,.dat 1 [[qf m.2]])] 1 (qeg h (w64 (g + (w64 ((w64 (Int.tdiv (w64 (j - g)) 4)) * 2)))) l.2 m t)<|qa J<|q8<|Q1<|U J<|U J<|q7 b fun n u b=>K9 [(0,0)] [(0,0)] _ (q9 n.1) 1 [(0,.dat 1 [[qf n.2]])] 1 (qeg h (w64 (g + (w64 ((w64 (Int.tdiv (w64 (j - g)) 4)) * 3)))) m.2 n u)<|qa J<|qz ?_;obtain rfl:=qw b;exact ⟨_,J,wkA [(0,0)] [] []⟩
    refine qm<|Qj ?_;obtain rfl:=qw b;exact ⟨_,J,wkA [(0,0)] [] []⟩
   intro c hb;subst hb;refine Q1<|U J<|U J<|U J<|U J<|q7 f fun o v f=>K9 [(0,0)] [(0,0)] _ (q9 o.1) 1 [(0,.dat 1 [[qf o.2]])] 1 (qkk h c.1 c.2.1 c.2.2.1 c.2.2.2 o v)<|qa J<|qz ?_;obtain rfl:=qw f;exact ⟨_,J,wkA [(0,0)] [] []⟩
  refine qm<|Qj ?_;obtain rfl:=qw f;exact ⟨_,J,wkA [(0,0)] [] []⟩
 intro k hb;subst hb;refine qc<|O _ J<|q8<|Qa<|qc<|O _ J<|qa J<|q8 ?_;refine ql J a (fun _ a=>?_) (fun _ a=>?_)
 ·refine qc<|U J<|qa J<|qa J<|qu ?_;cases a;exact Q5 _ J
 refine qc<|O _ J<|qa J<|q8 ?_;refine ql J a (fun _ a=>?_) (fun _ a=>?_)
 ·refine qc<|U J<|qa J<|qa J<|qu ?_;cases a;exact Q5 _ J
 refine qc<|U J<|qa J<|qa J<|qu ?_;cases a;exact Q5 _ J
theorem qvj (f : List Int) (g : Int) (h : Int) (r : List Int) (c : q6f  f g h = some r) : K6 Tryz.prog tab 161 [.hs 0 1 0 f.length,q9 g,q9 h] [(0,.dat 1 (f.map (eI .i64)))] 1 (.d (.tup [])) [(0,.dat 1 (r.map (eI .i64)))] 1:=by
 unfold q6f at c;refine Kj Tryz.func161 J qg qg J<|qc<|U J<|qa J<|qx<|U J<|O _ J<|qa J<|q8<|q7 c fun p q c=>Qa<|Qk (q92) (fun b=>⟨[(0,.hs 0 1 0 b.2.2.length),(6,q9 b.1),(7,q9 b.2.1)],[(0,.dat 1 (b.2.2.map (eI .i64)))],1⟩) _ p q (wkA [] [] []) ?_;intro b s a;unfold q92 at a;refine qe<|qc<|U J<|U J<|O _ J<|q8 ?_;refine ql J a (fun _ a=>?_) (fun _ a=>?_)
 ·refine qm<|Qa<|qe<|Qe [Qs 0,q0,Qs 0,q0,qv 0,q0,q0,q0,qv 0,q0,q0,q0,q0,q0,q0,q0] qg<|U J<|U J<|U J<|U J<|U J<|U J<|q7 a fun j k a=>qs k J J<|Q9 _ k J<|U J<|U J<|q7 a fun l m a=>qs m J J<|Q9 _ m J<|q7 a fun t n a=>qs n J J<|Qv (ds:=[qf j]) j n J J J J J J J J (leb J) J<|q7 a fun u o a=>qs o qd J<|Qv (ds:=[qf l]) l o J J J J J J J J (leb J) J<|qx<|U J<|O _ J<|qa J<|q8<|Q1<|U J<|O _ J<|qa J<|qz<|Qq<|Qj<|⟨_,qn a,wkE [] [] [] J ⟨⟨_,J,K2 qd J qt (ltd J)⟩,qk J,qk J,trivial⟩ ⟨Qp J J,trivial⟩⟩
 refine Qc ?_;refine ⟨_,qn a,fun hm=>?_⟩;subst hm;obtain rfl:=qw c;exact ⟨.inl J,_,J,wkA [] [] []⟩
theorem qv9 (u : List Int) (h : Int) (f : Int) (r : Bool × List Int) (n : q3w  u h f = some r) : K6 Tryz.prog tab 162 [.hs 0 1 0 u.length,q9 h,q9 f] [(0,.dat 1 (u.map (eI .i64)))] 1 (Q2 r.1) [(0,.dat 1 (r.2.map (eI .i64)))] 1:=by
 unfold q3w at n;refine Kj Tryz.func162 J qg qg J<|qc<|qa J<|qx<|U J<|O _ J<|qa J<|q8<|qe<|qc<|qa J<|q8<|q7 n fun y bl n=>?_;refine Qo (fun q=>.inl q = y) (fun q=>⟨[],[(0,.dat 1 (q.map (eI .i64)))],1⟩) qd ?_ ?_
 ·refine Qk (q3x f h) (fun d=>⟨[(0,.hs 0 1 0 d.2.2.length),(1,q9 h),(2,q9 f),(7,q9 d.1),(8,q9 d.2.1)],[(0,.dat 1 (d.2.2.map (eI .i64)))],1⟩) _ y bl (wkA [] [] []) ?_;intro d ch j;unfold q3x at j;refine qe<|qc<|U J<|O _ J<|q8 ?_;refine ql J j (fun _ j=>?_) (fun _ j=>?_)
  ·refine qm<|qe<|q7 j fun bm a j=>?_;refine Qo (fun o=>.inl o = bm) (fun o=>⟨[(0,.hs 0 1 0 o.2.length),(1,q9 h),(2,q9 f),(7,q9 o.1),(8,q9 d.2.1)],[(0,.dat 1 (o.2.map (eI .i64)))],1⟩) qd ?_ ?_
   ·refine qe<|q7 a fun z bn a=>?_;refine Qo (fun k=>k = z) (fun k=>⟨[(0,.hs 0 1 0 d.2.2.length),(1,q9 h),(2,q9 f),(7,q9 k),(8,q9 d.2.1)],[(0,.dat 1 (d.2.2.map (eI .i64)))],1⟩) qd ?_ ?_
    ·refine Qk (q5z f d) (fun aa=>⟨[(0,.hs 0 1 0 d.2.2.length),(1,q9 h),(2,q9 f),(7,q9 aa),(8,q9 d.2.1)],[(0,.dat 1 (d.2.2.map (eI .i64)))],1⟩) _ z bn (wkA [] [] []) ?_;intro aa ci l;unfold q5z at l;refine qe<|qe<|Qe [q0,q0,q0,qv 0,q0,q0,q0,q0,qv 0,q0,q0,q0,q0,q0,q0,q0] qg<|U J<|U J<|O _ J<|q7 l fun bo g l=>?_;refine Qf 13 (fun A st=>∃ ab ac ad ae af ag ah ai aj ak al am,st = A [(32,Q2 bo),(31,am),(30,al),(29,ak),(28,aj),(27,ai),(26,ah),(25,ag),(24,af),(23,ae),(22,ad),(21,ac),(20,ab)]) ?_ ?_
     ·refine Qg J J g (fun g=>?_) (fun g=>?_)
      ·refine U J<|U J<|q7 g fun bp an g=>qs an J J<|Q9 _ an J<|U J<|U J<|O _ J<|q7 g fun bq ao g=>qs ao J J<|Q9 _ ao J<|q7 g fun br bs g=>Q3 (Zg bp bq br bs) J<|O _ J<|O _ J<|q8 ?_;cases g;exact ⟨_,_,_,_,_,_,_,_,_,_,_,_,J⟩
      refine qb J<|qb J<|qb J<|qb J<|qb J<|qb J<|qb J<|qb J<|qb J<|qb J<|qb J<|O _ J<|q8 ?_;cases g;exact ⟨_,_,_,_,_,_,_,_,_,_,_,_,J⟩
     rintro _ ⟨ab,ac,ad,ae,af,ag,ah,ai,aj,ak,al,am,rfl⟩;refine q8 ?_;refine ql J l (fun _ l=>?_) (fun _ l=>?_)
     ·refine qm<|Qa<|Q1<|U J<|O _ J<|qa J<|qz<|Qq<|Qj<|⟨_,qn l,wkA [] [] []⟩
     refine Qc ?_;refine ⟨_,qn l,fun hm=>?_⟩;subst hm;exact ⟨_,J,wkA [] [] []⟩
    intro k hb;subst hb;refine qe<|qc<|U J<|U J<|O _ J<|q8 ?_;refine ql J a (fun _ a=>?_) (fun _ a=>?_)
    ·refine qc<|qa J<|qu ?_;obtain rfl:=qw a;refine ⟨_,qn j,fun hm=>?_⟩;subst hm;obtain rfl:=qw n;exact ⟨.inr J,_,J,wkA [] [] []⟩
    refine qm<|qe<|qc<|U J<|U J<|O _ J<|O _ J<|q8 ?_;refine ql J a (fun _ a=>?_) (fun _ a=>?_)
    ·refine qc<|qa J<|qu ?_;obtain rfl:=qw a;refine ⟨_,qn j,fun hm=>?_⟩;subst hm;obtain rfl:=qw n;exact ⟨.inr J,_,J,wkA [] [] []⟩
    refine qm<|qe<|Qe [Qs 0,q0,Qs 0,q0,qv 0,q0,q0,q0,qv 0,q0,q0,q0,q0,q0,q0,q0,q0,q0] qg<|U J<|U J<|U J<|U J<|O _ J<|U J<|U J<|O _ J<|q7 a fun ap aq a=>qs aq J J<|Q9 _ aq J<|U J<|U J<|q7 a fun ar au a=>qs au J J<|Q9 _ au J<|q7 a fun cj av a=>qs av J J<|Qv (ds:=[qf ap]) ap av J J J J J J J J (leb J) J<|q7 a fun ck aw a=>qs aw qd J<|Qv (ds:=[qf ar]) ar aw J J J J J J J J (leb J) J<|q8<|qe<|qc<|U J<|U J<|O _ J<|O _ J<|q8<|q7 a fun bt m a=>?_;refine Y2 (fun p=>p = bt) (fun p=>⟨[(0,.hs 0 1 0 p.length),(1,q9 h),(2,q9 f),(7,q9 k),(8,q9 d.2.1)],[(0,.dat 1 (p.map (eI .i64)))],1⟩) qd ?_ ?_
    ·refine ql J m (fun _ m=>?_) (fun _ m=>?_)
     ·refine qc<|U J<|O _ J<|qa J<|q8<|q7 m fun bu bv m=>Qa<|Qk (q8p) (fun s=>⟨[(0,.hs 0 1 0 s.2.length),(1,q9 h),(2,q9 f),(7,q9 k),(8,q9 d.2.1),(9,q9 s.1)],[(0,.dat 1 (s.2.map (eI .i64)))],1⟩) _ bu bv (wkE [] [] [] J ⟨⟨_,J,K2 qd J qt (ltd J)⟩,qk J,qk J,qk J,qk J,qk J,trivial⟩ ⟨Qp J J,trivial⟩) ?_;intro s cl b;unfold q8p at b;refine qe<|qc<|U J<|O _ J<|q8 ?_;refine ql J b (fun _ b=>?_) (fun _ b=>?_)
      ·refine qm<|qe<|Qa<|qe<|qe<|Qe [q0,q0,qv 0,q0,q0,q0,q0,qv 0,q0,q0,q0] qg<|U J<|U J<|q7 b fun bw ax b=>qs ax J J<|Q9 _ ax J<|U J<|U J<|O _ J<|q7 b fun bx ay b=>qs ay J J<|Q9 _ ay J<|q7 b fun bz ca b=>Q3 (Zg bw bx bz ca) J<|O _ J<|q8 ?_;refine ql J b (fun _ b=>?_) (fun _ b=>?_)
       ·refine Qc ?_;refine ⟨_,qn b,fun hm=>?_⟩;subst hm;obtain rfl:=qw m;exact ⟨_,J,wkA [] [] []⟩
       refine qm<|Qe [Qs 0,q0,Qs 0,q0,qv 0,q0,q0,q0,qv 0,q0,q0,q0,q0,q0,q0,q0,q0,q0] qg<|U J<|U J<|U J<|U J<|O _ J<|U J<|U J<|O _ J<|q7 b fun az ba b=>qs ba J J<|Q9 _ ba J<|U J<|U J<|q7 b fun v bb b=>qs bb J J<|Q9 (q9 v) bb J<|q7 b fun cm bc b=>qs bc J J<|Qv (ds:=[qf az]) az bc J J J J J J J J (leb J) J<|q7 b fun cn bd b=>qs bd qd J<|Qv (ds:=[qf v]) v bd J J J J J J J J (leb J) J<|qz<|Qq<|Q1<|U J<|O _ J<|qa J<|qz<|⟨_,qn b,wkE [] [] [] J ⟨⟨_,J,K2 qd J qt (ltd J)⟩,qk J,qk J,qk J,qk J,qk J,trivial⟩ ⟨Qp J J,trivial⟩⟩
      refine Qc ?_;refine ⟨_,qn b,fun hm=>?_⟩;subst hm;obtain rfl:=qw m;exact ⟨_,J,wkA [] [] []⟩
     refine qm<|Qj ?_;obtain rfl:=qw m;exact ⟨_,J,wkE [] [] [] J ⟨⟨_,J,K2 qd J qt (ltd J)⟩,qk J,qk J,qk J,qk J,trivial⟩ ⟨Qp J J,trivial⟩⟩
    intro p hb;subst hb;refine qc<|U J<|U J<|O _ J<|O _ J<|q8 ?_;refine ql J a (fun _ a=>?_) (fun _ a=>?_)
    ·refine qc<|U J<|O _ J<|qa J<|q8<|q7 a fun cb cc a=>Qa<|Qk (q60 f k) (fun t=>⟨[(0,.hs 0 1 0 t.2.length),(1,q9 h),(2,q9 f),(7,q9 k),(8,q9 d.2.1),(10,q9 t.1)],[(0,.dat 1 (t.2.map (eI .i64)))],1⟩) _ cb cc (wkA [] [] []) ?_;intro t co c;unfold q60 at c;refine qe<|qc<|U J<|U J<|O _ J<|q8 ?_;refine ql J c (fun _ c=>?_) (fun _ c=>?_)
     ·refine qm<|qe<|Qa<|qe<|qe<|Qe [q0,q0,qv 0,q0,q0,q0,q0,qv 0,q0,q0,q0] qg<|U J<|U J<|q7 c fun cd be c=>qs be J J<|Q9 _ be J<|U J<|U J<|O _ J<|q7 c fun ce bf c=>qs bf J J<|Q9 _ bf J<|q7 c fun cf cg c=>Q3 (Zg cd ce cf cg) J<|O _ J<|q8 ?_;refine ql J c (fun _ c=>?_) (fun _ c=>?_)
      ·refine Qc ?_;refine ⟨_,qn c,fun hm=>?_⟩;subst hm;obtain rfl:=qw a;exact ⟨_,J,wkA [] [] []⟩
      refine qm<|Qe [Qs 0,q0,Qs 0,q0,qv 0,q0,q0,q0,qv 0,q0,q0,q0,q0,q0,q0,q0,q0,q0] qg<|U J<|U J<|U J<|U J<|O _ J<|U J<|U J<|O _ J<|q7 c fun bg bh c=>qs bh J J<|Q9 _ bh J<|U J<|U J<|q7 c fun x bi c=>qs bi J J<|Q9 (q9 x) bi J<|q7 c fun cp bj c=>qs bj J J<|Qv (ds:=[qf bg]) bg bj J J J J J J J J (leb J) J<|q7 c fun cq bk c=>qs bk qd J<|Qv (ds:=[qf x]) x bk J J J J J J J J (leb J) J<|qz<|Qq<|Q1<|U J<|O _ J<|qa J<|qz<|⟨_,qn c,wkE [] [] [] J ⟨⟨_,J,K2 qd J qt (ltd J)⟩,qk J,qk J,qk J,qk J,qk J,trivial⟩ ⟨Qp J J,trivial⟩⟩
     refine Qc ?_;refine ⟨_,qn c,fun hm=>?_⟩;subst hm;obtain rfl:=qw a;exact ⟨_,J,wkA [] [] []⟩
    refine qm<|Qj ?_;obtain rfl:=qw a;exact ⟨_,J,wkA [] [] []⟩
   intro o hb;subst hb;refine Q1<|U J<|O _ J<|qa J<|qz<|⟨_,qn j,wkA [] [] []⟩
  refine Qc ?_;refine ⟨_,qn j,fun hm=>?_⟩;subst hm;exact ⟨_,J,wkA [] [] []⟩
 intro q hb;subst hb;refine qc<|qa J<|qu ?_;obtain rfl:=qw n;exact ⟨.inr J,_,J,wkA [] [] []⟩
theorem qvc (n : List Int) (g : Int) (p : Int) (q : Int) (r : Int × List Int) (c : q61  n g p q = some r) : K6 Tryz.prog tab 164 [.hs 0 1 0 n.length,q9 g,q9 p,q9 q] [(0,.dat 1 (n.map (eI .i64)))] 1 (q9 r.1) [(0,.dat 1 (r.2.map (eI .i64)))] 1:=by
 unfold q61 at c;refine Kj Tryz.func164 J qg qg J<|qc<|qa J<|q8<|qe<|Qe [Qs 0,q0,Qs 0,q0,qv 0,q0,q0,q0,qv 0,q0,q0,q0,q0,q0,q0,q0] qg<|U J<|U J<|U J<|U J<|U J<|U J<|q7 c fun s t c=>qs t J J<|Q9 _ t J<|U J<|U J<|q7 c fun u v c=>qs v J J<|Q9 _ v J<|q7 c fun bx x c=>qs x J J<|Qv (ds:=[qf s]) s x J J J J J J J J (leb J) J<|q7 c fun bz y c=>qs y qd J<|Qv (ds:=[qf u]) u y J J J J J J J J (leb J) J<|qx<|U J<|O _ J<|U J<|O _ J<|qa J<|qa J<|q8<|qe<|q7 c fun z bk c=>?_;refine Qo (fun l=>l = z) (fun l=>⟨[(9,q9 l.1)],[(0,.dat 1 (l.2.map (eI .i64)))],1⟩) qd ?_ ?_
 ·refine Qk (q62 g) (fun b=>⟨[(0,.hs 0 1 0 b.2.2.length),(1,q9 g),(9,q9 b.1),(10,q9 b.2.1)],[(0,.dat 1 (b.2.2.map (eI .i64)))],1⟩) _ z bk (wkE [] [] [] J ⟨⟨_,J,K2 qd J qt (ltd J)⟩,qk J,qk J,qk J,trivial⟩ ⟨Qp J J,trivial⟩) ?_;intro b ca a;unfold q62 at a;refine Qa<|qe<|q7 a fun aa bl a=>?_;refine Qo (fun k=>k = aa) (fun k=>⟨[(0,.hs 0 1 0 b.2.2.length),(1,q9 g),(9,q9 k),(10,q9 b.2.1)],[(0,.dat 1 (b.2.2.map (eI .i64)))],1⟩) qd ?_ ?_
  ·refine Qk (q63 b g) (fun ab=>⟨[(0,.hs 0 1 0 b.2.2.length),(1,q9 g),(9,q9 ab),(10,q9 b.2.1)],[(0,.dat 1 (b.2.2.map (eI .i64)))],1⟩) _ aa bl (wkA [] [] []) ?_;intro ab cb h;unfold q63 at h;refine qe<|qe<|Qe [q0,q0,q0,qv 0,q0,q0,q0,qv 0,q0,q0,q0,q0,q0,q0,q0] qg<|U J<|U J<|O _ J<|q7 h fun bm d h=>?_;refine Qf 12 (fun A st=>∃ ac ad ae af ag ah ai aj ak al am,st = A [(43,Q2 bm),(42,am),(41,al),(40,ak),(39,aj),(38,ai),(37,ah),(36,ag),(35,af),(34,ae),(33,ad),(32,ac)]) ?_ ?_
   ·refine Qg J J d (fun d=>?_) (fun d=>?_)
    ·refine U J<|U J<|q7 d fun bn an d=>qs an J J<|Q9 _ an J<|U J<|U J<|q7 d fun bo ao d=>qs ao J J<|Q9 _ ao J<|q7 d fun bp bq d=>Q3 (Zg bn bo bp bq) J<|O _ J<|O _ J<|q8 ?_;cases d;exact ⟨_,_,_,_,_,_,_,_,_,_,_,J⟩
    refine qb J<|qb J<|qb J<|qb J<|qb J<|qb J<|qb J<|qb J<|qb J<|qb J<|O _ J<|q8 ?_;cases d;exact ⟨_,_,_,_,_,_,_,_,_,_,_,J⟩
   rintro _ ⟨ac,ad,ae,af,ag,ah,ai,aj,ak,al,am,rfl⟩;refine q8 ?_;refine ql J h (fun _ h=>?_) (fun _ h=>?_)
   ·refine qm<|Qa<|Q1<|U J<|O _ J<|qa J<|qz<|Qq<|Qj<|⟨_,qn h,wkA [] [] []⟩
   refine Qc ?_;refine ⟨_,qn h,fun hm=>?_⟩;subst hm;exact ⟨_,J,wkA [] [] []⟩
  intro k hb;subst hb;refine qe<|q7 a fun ap br a=>?_;refine Qo (fun m=>m = ap) (fun m=>⟨[(0,.hs 0 1 0 b.2.2.length),(1,q9 g),(9,q9 k),(10,q9 m)],[(0,.dat 1 (b.2.2.map (eI .i64)))],1⟩) qd ?_ ?_
  ·refine Qk (q64 k b g) (fun aq=>⟨[(0,.hs 0 1 0 b.2.2.length),(1,q9 g),(9,q9 k),(10,q9 aq)],[(0,.dat 1 (b.2.2.map (eI .i64)))],1⟩) _ ap br (wkA [] [] []) ?_;intro aq cc j;unfold q64 at j;refine qe<|qe<|Qe [q0,q0,qv 0,q0,q0,q0,qv 0,q0,q0,q0,q0,q0,q0,q0] qg<|U J<|U J<|O _ J<|q7 j fun bs f j=>?_;refine Qf 11 (fun A st=>∃ ar au av aw ax ay az ba bb bc,st = A [(59,Q2 bs),(58,bc),(57,bb),(56,ba),(55,az),(54,ay),(53,ax),(52,aw),(51,av),(50,au),(49,ar)]) ?_ ?_
   ·refine Qg J J f (fun f=>?_) (fun f=>?_)
    ·refine U J<|U J<|q7 f fun bt bd f=>qs bd J J<|Q9 _ bd J<|U J<|U J<|q7 f fun bu be f=>qs be J J<|Q9 _ be J<|q7 f fun bv bw f=>Q3 (Zg bt bu bv bw) J<|O _ J<|q8 ?_;cases f;exact ⟨_,_,_,_,_,_,_,_,_,_,J⟩
    refine qb J<|qb J<|qb J<|qb J<|qb J<|qb J<|qb J<|qb J<|qb J<|O _ J<|q8 ?_;cases f;exact ⟨_,_,_,_,_,_,_,_,_,_,J⟩
   rintro _ ⟨ar,au,av,aw,ax,ay,az,ba,bb,bc,rfl⟩;refine q8 ?_;refine ql J j (fun _ j=>?_) (fun _ j=>?_)
   ·refine qm<|Qa<|Q1<|U J<|O _ J<|qa J<|qz<|Qq<|Qj<|⟨_,qn j,wkA [] [] []⟩
   refine Qc ?_;refine ⟨_,qn j,fun hm=>?_⟩;subst hm;exact ⟨_,J,wkA [] [] []⟩
  intro m hb;subst hb;refine qe<|qc<|U J<|U J<|O _ J<|q8 ?_;refine ql J a (fun _ a=>?_) (fun _ a=>?_)
  ·refine Qc ?_;refine ⟨_,qn a,fun hm=>?_⟩;subst hm;exact ⟨_,J,wkA [] [] []⟩
  refine qm<|qe<|Qe [Qs 0,q0,Qs 0,q0,qv 0,q0,q0,q0,qv 0,q0,q0,q0,q0,q0,q0,q0] qg<|U J<|U J<|U J<|U J<|U J<|U J<|q7 a fun bf bg a=>qs bg J J<|Q9 _ bg J<|U J<|U J<|q7 a fun o bh a=>qs bh J J<|Q9 (q9 o) bh J<|q7 a fun cd bi a=>qs bi J J<|Qv (ds:=[qf bf]) bf bi J J J J J J J J (leb J) J<|q7 a fun ce bj a=>qs bj qd J<|Qv (ds:=[qf o]) o bj J J J J J J J J (leb J) J<|qx<|U J<|O _ J<|qa J<|q8<|Q1<|U J<|O _ J<|qa J<|qz<|Qq<|Qj<|⟨_,qn a,wkE [] [] [] J ⟨⟨_,J,K2 qd J qt (ltd J)⟩,qk J,qk J,qk J,trivial⟩ ⟨Qp J J,trivial⟩⟩
 intro l hb;subst hb;refine qc<|U J<|qa J<|qu ?_;obtain rfl:=qw c;exact ⟨.inr J,_,J,wkA [] [] []⟩
theorem qvd (g : List Int) (b : Int) (s : Int) (k : Int) (r : Int × Bool × List Int) (a : q65  g b s k = some r) : K6 Tryz.prog tab 165 [.hs 0 1 0 g.length,q9 b,q9 s,q9 k] [(0,.dat 1 (g.map (eI .i64)))] 1 (.d (.tup [qf r.1,.bool r.2.1])) [(0,.dat 1 (r.2.2.map (eI .i64)))] 1:=by
 unfold q65 at a;refine Kj Tryz.func165 J qg qg J<|qc<|qa J<|qa J<|q8<|qe<|Qe [Qs 0,q0,Qs 0,q0,qv 0,q0,q0,q0,qv 0,q0,q0,q0,q0,q0,q0,q0] qg<|U J<|U J<|U J<|U J<|U J<|U J<|q7 a fun h ap a=>qs ap J J<|Q9 (q9 h) ap J<|U J<|U J<|q7 a fun j aq a=>qs aq J J<|Q9 (q9 j) aq J<|q7 a fun fs ar a=>qs ar J J<|Qv (ds:=[qf h]) h ar J J J J J J J J (leb J) J<|q7 a fun ft au a=>qs au qd J<|Qv (ds:=[qf j]) j au J J J J J J J J (leb J) J<|qx<|U J<|O (.d (qf (w64 (b + 1)))) J<|U J<|O (.d (qf (w64 (s - 1)))) J<|qa J<|qa J<|q8<|qe<|q7 a fun av fd a=>?_;refine Qo (fun l=>l = av) (fun (l : Int)=>⟨[(0,.hs 0 1 0 ((g.set b.toNat h).set k.toNat j).length),(1,q9 b),(10,q9 l),(11,.d (qf (w64 (s - 1))))],[(0,.dat 1 (((g.set b.toNat h).set k.toNat j).map (eI .i64)))],1⟩) qd ?_ ?_
 ·refine Qk (q66 s g b h k j) (fun (ab : Int)=>⟨[(0,.hs 0 1 0 ((g.set b.toNat h).set k.toNat j).length),(1,q9 b),(10,q9 ab),(11,.d (qf (w64 (s - 1))))],[(0,.dat 1 (((g.set b.toNat h).set k.toNat j).map (eI .i64)))],1⟩) (w64 (b + 1)) av fd (wkE [] [] [] J ⟨⟨_,J,K2 qd J qt (ltd J)⟩,qk J,qk J,qk J,trivial⟩ ⟨Qp J J,trivial⟩) ?_;intro ab fu t;unfold q66 at t;refine qe<|qe<|Qe [q0,q0,qv 0,q0,q0,q0,qv 0,q0,q0,q0,q0,q0,q0,q0] qg<|U J<|U J<|O (.d (.bool (decide (ab≤(w64 (s - 1)))))) J<|q7 t fun fe m t=>?_;refine Qf 11 (fun A st=>∃ (aw ax ay az ba bb bc bd be bf : V),st = A [(43,Q2 fe),(42,bf),(41,be),(40,bd),(39,bc),(38,bb),(37,ba),(36,az),(35,ay),(34,ax),(33,aw)]) ?_ ?_
  ·refine Qg J J m (fun m=>?_) (fun m=>?_)
   ·refine U J<|U J<|q7 m fun bg bh m=>qs bh J J<|Q9 (q9 bg) bh J<|U J<|U J<|q7 m fun bi bj m=>qs bj J J<|Q9 (q9 bi) bj J<|q7 m fun bk ff m=>Q3 (Zg bg bi bk ff) J<|O (Q2 bk) J<|q8 ?_;cases m;exact ⟨_,_,_,_,_,_,_,_,_,_,J⟩
   refine qb J<|qb J<|qb J<|qb J<|qb J<|qb J<|qb J<|qb J<|qb J<|O (Q2 false) J<|q8 ?_;cases m;exact ⟨_,_,_,_,_,_,_,_,_,_,J⟩
  rintro _ ⟨aw,ax,ay,az,ba,bb,bc,bd,be,bf,rfl⟩;refine q8 ?_;refine ql J t (fun _ t=>?_) (fun _ t=>?_)
  ·refine qm<|Qa<|Q1<|U J<|O (.d (qf (w64 (ab + 1)))) J<|qa J<|qz<|Qq<|Qj<|⟨_,qn t,wkA [] [] []⟩
  refine Qc ?_;refine ⟨_,qn t,fun hm=>?_⟩;subst hm;exact ⟨_,J,wkA [] [] []⟩
 intro l hb;subst hb;refine qe<|q7 a fun bl fg a=>?_;refine Qo (fun u=>u = bl) (fun (u : Int)=>⟨[(0,.hs 0 1 0 ((g.set b.toNat h).set k.toNat j).length),(1,q9 b),(10,q9 l),(11,q9 u)],[(0,.dat 1 (((g.set b.toNat h).set k.toNat j).map (eI .i64)))],1⟩) qd ?_ ?_
 ·refine Qk (q67 l g b h k j) (fun (ac : Int)=>⟨[(0,.hs 0 1 0 ((g.set b.toNat h).set k.toNat j).length),(1,q9 b),(10,q9 l),(11,q9 ac)],[(0,.dat 1 (((g.set b.toNat h).set k.toNat j).map (eI .i64)))],1⟩) (w64 (s - 1)) bl fg (wkA [] [] []) ?_;intro ac fv v;unfold q67 at v;refine qe<|qe<|Qe [q0,q0,q0,qv 0,q0,q0,q0,qv 0,q0,q0,q0,q0,q0,q0,q0] qg<|U J<|U J<|O (.d (.bool (decide (l≤ac)))) J<|q7 v fun fh n v=>?_;refine Qf 12 (fun A st=>∃ (bm bn bo bp bq br bs bt bu bv bw : V),st = A [(60,Q2 fh),(59,bw),(58,bv),(57,bu),(56,bt),(55,bs),(54,br),(53,bq),(52,bp),(51,bo),(50,bn),(49,bm)]) ?_ ?_
  ·refine Qg J J n (fun n=>?_) (fun n=>?_)
   ·refine U J<|U J<|q7 n fun bx bz n=>qs bz J J<|Q9 (q9 bx) bz J<|U J<|U J<|q7 n fun ca cb n=>qs cb J J<|Q9 (q9 ca) cb J<|q7 n fun ah fi n=>Q3 (Zg bx ca ah fi) J<|O (Q2 (!ah)) J<|O (Q2 (!ah)) J<|q8 ?_;cases n;exact ⟨_,_,_,_,_,_,_,_,_,_,_,J⟩
   refine qb J<|qb J<|qb J<|qb J<|qb J<|qb J<|qb J<|qb J<|qb J<|qb J<|O (Q2 false) J<|q8 ?_;cases n;exact ⟨_,_,_,_,_,_,_,_,_,_,_,J⟩
  rintro _ ⟨bm,bn,bo,bp,bq,br,bs,bt,bu,bv,bw,rfl⟩;refine q8 ?_;refine ql J v (fun _ v=>?_) (fun _ v=>?_)
  ·refine qm<|Qa<|Q1<|U J<|O (.d (qf (w64 (ac - 1)))) J<|qa J<|qz<|Qq<|Qj<|⟨_,qn v,wkA [] [] []⟩
  refine Qc ?_;refine ⟨_,qn v,fun hm=>?_⟩;subst hm;exact ⟨_,J,wkA [] [] []⟩
 intro u hb;subst hb;refine qe<|qc<|U J<|U J<|O (.d (.bool (decide (l > u)))) J<|q8 ?_;refine ql J a (fun _ a=>?_) (fun _ a=>?_)
 ·refine qe<|Qe [Qs 0,q0,Qs 0,q0,qv 0,q0,q0,q0,qv 0,q0,q0,q0,q0,q0,q0,q0] qg<|U J<|U J<|U J<|U J<|U J<|U J<|q7 a fun ai cc a=>qs cc J J<|Q9 (q9 ai) cc J<|U J<|U J<|q7 a fun aj cd a=>qs cd J J<|Q9 (q9 aj) cd J<|q7 a fun fw ce a=>qs ce J J<|Qv (ds:=[qf ai]) ai ce J J J J J J J J (leb J) J<|q7 a fun fx cf a=>qs cf qd J<|Qv (ds:=[qf aj]) aj cf J J J J J J J J (leb J) J<|qx<|U J<|qa J<|qa J<|qu ?_;obtain rfl:=qw a;exact ⟨.inr J,_,J,wkA [] [] []⟩
 refine qm<|qe<|Qe [Qs 0,q0,Qs 0,q0,qv 0,q0,q0,q0,qv 0,q0,q0,q0,q0,q0,q0,q0] qg<|U J<|U J<|U J<|U J<|U J<|U J<|q7 a fun ad cg a=>qs cg J J<|Q9 (q9 ad) cg J<|U J<|U J<|q7 a fun ae ch a=>qs ch J J<|Q9 (q9 ae) ch J<|q7 a fun fy ci a=>qs ci J J<|Qv (ds:=[qf ad]) ad ci J J J J J J J J (leb J) J<|q7 a fun fz cj a=>qs cj qd J<|Qv (ds:=[qf ae]) ae cj J J J J J J J J (leb J) J<|qx<|U J<|O (.d (qf (w64 (l + 1)))) J<|qa J<|qx<|U J<|O (.d (qf (w64 (u - 1)))) J<|qa J<|q8<|qe<|q7 a fun ck fj a=>?_;refine Qo (fun z=>z = ck) (fun (z : Int × List Int)=>⟨[(0,.hs 0 1 0 z.2.length),(1,q9 b),(11,q9 z.1)],[(0,.dat 1 (z.2.map (eI .i64)))],1⟩) qd ?_ ?_
 ·refine Qk (q68 b) (fun (c : Int × Int × List Int)=>⟨[(0,.hs 0 1 0 c.2.2.length),(1,q9 b),(10,q9 c.1),(11,q9 c.2.1)],[(0,.dat 1 (c.2.2.map (eI .i64)))],1⟩) (w64 (l + 1),w64 (u - 1),(((g.set b.toNat h).set k.toNat j).set l.toNat ad).set u.toNat ae) ck fj (wkE [] [] [] J ⟨⟨_,J,K2 qd J qt (ltd J)⟩,qk J,qk J,qk J,trivial⟩ ⟨Qp J J,trivial⟩) ?_;intro c ga f;unfold q68 at f;refine Qa<|qe<|q7 f fun cl fk f=>?_;refine Qo (fun q=>q = cl) (fun (q : Int)=>⟨[(0,.hs 0 1 0 c.2.2.length),(1,q9 b),(10,q9 q),(11,q9 c.2.1)],[(0,.dat 1 (c.2.2.map (eI .i64)))],1⟩) qd ?_ ?_
  ·refine Qk (q69 c b) (fun (af : Int)=>⟨[(0,.hs 0 1 0 c.2.2.length),(1,q9 b),(10,q9 af),(11,q9 c.2.1)],[(0,.dat 1 (c.2.2.map (eI .i64)))],1⟩) c.1 cl fk (wkA [] [] []) ?_;intro af gb x;unfold q69 at x;refine qe<|qe<|Qe [q0,q0,qv 0,q0,q0,q0,qv 0,q0,q0,q0,q0,q0,q0,q0] qg<|U J<|U J<|O (.d (.bool (decide (af≤c.2.1)))) J<|q7 x fun fl o x=>?_;refine Qf 11 (fun A st=>∃ (cm cn co cp cq cr cs ct cu cv : V),st = A [(112,Q2 fl),(111,cv),(110,cu),(109,ct),(108,cs),(107,cr),(106,cq),(105,cp),(104,co),(103,cn),(102,cm)]) ?_ ?_
   ·refine Qg J J o (fun o=>?_) (fun o=>?_)
    ·refine U J<|U J<|q7 o fun cw cx o=>qs cx J J<|Q9 (q9 cw) cx J<|U J<|U J<|q7 o fun cy cz o=>qs cz J J<|Q9 (q9 cy) cz J<|q7 o fun da fm o=>Q3 (Zg cw cy da fm) J<|O (Q2 da) J<|q8 ?_;cases o;exact ⟨_,_,_,_,_,_,_,_,_,_,J⟩
    refine qb J<|qb J<|qb J<|qb J<|qb J<|qb J<|qb J<|qb J<|qb J<|O (Q2 false) J<|q8 ?_;cases o;exact ⟨_,_,_,_,_,_,_,_,_,_,J⟩
   rintro _ ⟨cm,cn,co,cp,cq,cr,cs,ct,cu,cv,rfl⟩;refine q8 ?_;refine ql J x (fun _ x=>?_) (fun _ x=>?_)
   ·refine qm<|Qa<|Q1<|U J<|O (.d (qf (w64 (af + 1)))) J<|qa J<|qz<|Qq<|Qj<|⟨_,qn x,wkA [] [] []⟩
   refine Qc ?_;refine ⟨_,qn x,fun hm=>?_⟩;subst hm;exact ⟨_,J,wkA [] [] []⟩
  intro q hb;subst hb;refine qe<|q7 f fun dc fn f=>?_;refine Qo (fun aa=>aa = dc) (fun (aa : Int)=>⟨[(0,.hs 0 1 0 c.2.2.length),(1,q9 b),(10,q9 q),(11,q9 aa)],[(0,.dat 1 (c.2.2.map (eI .i64)))],1⟩) qd ?_ ?_
  ·refine Qk (q6a q c b) (fun (ag : Int)=>⟨[(0,.hs 0 1 0 c.2.2.length),(1,q9 b),(10,q9 q),(11,q9 ag)],[(0,.dat 1 (c.2.2.map (eI .i64)))],1⟩) c.2.1 dc fn (wkA [] [] []) ?_;intro ag gc y;unfold q6a at y;refine qe<|qe<|Qe [q0,q0,q0,qv 0,q0,q0,q0,qv 0,q0,q0,q0,q0,q0,q0,q0] qg<|U J<|U J<|O (.d (.bool (decide (q≤ag)))) J<|q7 y fun fo p y=>?_;refine Qf 12 (fun A st=>∃ (dd de df dg dh dj dk dl dm dn dp : V),st = A [(129,Q2 fo),(128,dp),(127,dn),(126,dm),(125,dl),(124,dk),(123,dj),(122,dh),(121,dg),(120,df),(119,de),(118,dd)]) ?_ ?_
   ·refine Qg J J p (fun p=>?_) (fun p=>?_)
    ·refine U J<|U J<|q7 p fun dq dr p=>qs dr J J<|Q9 (q9 dq) dr J<|U J<|U J<|q7 p fun dt du p=>qs du J J<|Q9 (q9 dt) du J<|q7 p fun ak fq p=>Q3 (Zg dq dt ak fq) J<|O (Q2 (!ak)) J<|O (Q2 (!ak)) J<|q8 ?_;cases p;exact ⟨_,_,_,_,_,_,_,_,_,_,_,J⟩
    refine qb J<|qb J<|qb J<|qb J<|qb J<|qb J<|qb J<|qb J<|qb J<|qb J<|O (Q2 false) J<|q8 ?_;cases p;exact ⟨_,_,_,_,_,_,_,_,_,_,_,J⟩
   rintro _ ⟨dd,de,df,dg,dh,dj,dk,dl,dm,dn,dp,rfl⟩;refine q8 ?_;refine ql J y (fun _ y=>?_) (fun _ y=>?_)
   ·refine qm<|Qa<|Q1<|U J<|O (.d (qf (w64 (ag - 1)))) J<|qa J<|qz<|Qq<|Qj<|⟨_,qn y,wkA [] [] []⟩
   refine Qc ?_;refine ⟨_,qn y,fun hm=>?_⟩;subst hm;exact ⟨_,J,wkA [] [] []⟩
  intro aa hb;subst hb;refine qe<|qc<|U J<|U J<|O (.d (.bool (decide (q > aa)))) J<|q8 ?_;refine ql J f (fun _ f=>?_) (fun _ f=>?_)
  ·refine Qc ?_;refine ⟨_,qn f,fun hm=>?_⟩;subst hm;exact ⟨_,J,wkA [] [] []⟩
  refine qm<|qe<|Qe [Qs 0,q0,Qs 0,q0,qv 0,q0,q0,q0,qv 0,q0,q0,q0,q0,q0,q0,q0] qg<|U J<|U J<|U J<|U J<|U J<|U J<|q7 f fun al dv f=>qs dv J J<|Q9 (q9 al) dv J<|U J<|U J<|q7 f fun am dw f=>qs dw J J<|Q9 (q9 am) dw J<|q7 f fun gd dx f=>qs dx J J<|Qv (ds:=[qf al]) al dx J J J J J J J J (leb J) J<|q7 f fun ge dy f=>qs dy qd J<|Qv (ds:=[qf am]) am dy J J J J J J J J (leb J) J<|qx<|U J<|O (.d (qf (w64 (q + 1)))) J<|qa J<|q8<|Q1<|U J<|O (.d (qf (w64 (aa - 1)))) J<|qa J<|qz<|Qq<|Qj<|⟨_,qn f,wkE [] [] [] J ⟨⟨_,J,K2 qd J qt (ltd J)⟩,qk J,qk J,qk J,trivial⟩ ⟨Qp J J,trivial⟩⟩
 intro z hb;subst hb;refine qe<|Qe [Qs 0,q0,Qs 0,q0,qv 0,q0,q0,q0,qv 0,q0,q0,q0,q0,q0,q0,q0] qg<|U J<|U J<|U J<|U J<|U J<|U J<|q7 a fun an dz a=>qs dz J J<|Q9 (q9 an) dz J<|U J<|U J<|q7 a fun ao fa a=>qs fa J J<|Q9 (q9 ao) fa J<|q7 a fun gf fb a=>qs fb J J<|Qv (ds:=[qf an]) an fb J J J J J J J J (leb J) J<|q7 a fun gg fc a=>qs fc qd J<|Qv (ds:=[qf ao]) ao fc J J J J J J J J (leb J) J<|qx<|U J<|qa J<|qa J<|qu ?_;obtain rfl:=qw a;exact ⟨.inr J,_,J,wkA [] [] []⟩
theorem qkl (b : Int) (r : Int) (a : q1k b = some r) : Pure Tryz.prog tab 177 [qf b] (.int .u64 r):=by
 unfold q1k at a;refine Qt Tryz.func177 J qg qg J<|qc<|qa J<|qx<|U J<|O _ J<|q7 a fun c d a=>Q3 (qdc (IntKind.wrap .u64 b) c d) J<|q7 a fun g f a=>qqk f J J J<|qa J<|qu ?_;cases a;exact Q5 _ J
theorem qko (a : Int) (r : Int) (b : q1l  a = some r) : K6 Tryz.prog tab 178 [.ref 0 1 0 0] [(0,.dat 1 [[.int .u64 a]])] 1 (.d (.int .u64 r)) [(0,.dat 1 [[.int .u64 r]])] 1:=by
 unfold q1l at b;refine Kj Tryz.func178 J qg qg J<|qc<|qa J<|q8<|qe<|Qe [Qs 0,q0,q0,q0,qv 0,q0,q0,qv 0,q0,q0] qg<|U J<|O _ J<|O _ J<|U J<|O _ J<|O _ J<|O _ J<|O _ J<|O _ J<|Qh 0 _ J<|q8<|qe<|Qe [Qs 0,q0,q0,q0,qv 0,q0,q0,qv 0,q0,q0] qg<|U J<|O _ J<|O _ J<|U J<|O _ J<|O _ J<|O _ J<|O _ J<|O _ J<|Qh 0 _ J<|q8<|qe<|Qe [Qs 0,q0,q0,q0,qv 0,q0,q0,qv 0,q0,q0] qg<|U J<|O _ J<|O _ J<|U J<|O _ J<|O _ J<|O _ J<|O _ J ?_;refine O _ J<|Qh 0 _ J<|qx<|U J<|O _ J<|O _ J<|qa J<|qu ?_;obtain rfl:=qw b;exact ⟨.inr J,_,J,wkA [] [] []⟩
theorem qv1 (m : List Int) (f : Int) (g : Int) (r : List Int) (b : q5n  m f g = some r) : K6 Tryz.prog tab 159 [.hs 0 1 0 m.length,q9 f,q9 g] [(0,.dat 1 (m.map (eI .i64)))] 1 (.d (.tup [])) [(0,.dat 1 (r.map (eI .i64)))] 1:=by
 unfold q5n at b;refine Kj Tryz.func159 J qg qg J<|qc<|U J<|U J<|O _ J<|qa J<|qx<|U J<|O _ J<|q8 ?_;refine ql J b (fun _ b=>?_) (fun _ b=>?_)
 ·refine qc<|U J<|O _ J<|K1 J J<|Qh 1 _ J<|qx<|U J<|q7 b fun j u b=>Q3 (qkl (w64 (g - f)) j u) J<|qa J<|qx<|U J<|U J<|O _ J<|O _ J<|O _ J<|O _ J<|qa J<|q8<|q7 b fun v x b=>Qa<|Qk (q5o f g j) (fun c=>⟨[(0,.hs 0 1 0 c.2.1.length),(1,q9 f),(6,.d (qf (w64 (g - f)))),(7,.ref 1 1 0 0),(8,.d (.int .u64 j)),(9,q9 c.1)],[(0,.dat 1 (c.2.1.map (eI .i64))),(1,.dat 1 [[.int .u64 c.2.2]])],2⟩) _ v x (wkA [(1,1)] [] []) ?_;intro c aa a;unfold q5o at a;refine qe<|qc<|U J<|U J<|U J<|O _ J<|O _ J<|O _ J<|O _ J<|O _ J<|q8 ?_;refine ql J a (fun _ a=>?_) (fun _ a=>?_)
  ·refine qm<|qe<|Qa<|qc<|q7 a fun k y a=>K9 [(0,1)] [(0,1),(1,0)] _ (.d (.int .u64 k)) 1 [(1,.dat 1 [[.int .u64 k]]),(0,.dat 1 (c.2.1.map (eI .i64)))] 2 (qko c.2.2 k y)<|U J<|O _ J<|O _ J<|O _ J<|qa J<|q8<|qe<|qc<|U J<|U J<|O _ J<|q8<|q7 a fun z h a=>?_;refine Y2 (fun l=>l = z) (fun l=>⟨[(0,.hs 0 1 0 c.2.1.length),(1,q9 f),(6,.d (qf (w64 (g - f)))),(7,.ref 1 1 0 0),(8,.d (.int .u64 j)),(9,q9 c.1),(10,q9 l)],[(0,.dat 1 (c.2.1.map (eI .i64))),(1,.dat 1 [[.int .u64 k]])],2⟩) qd ?_ ?_
   ·refine ql J h (fun _ h=>?_) (fun _ h=>?_)
    ·refine Q1<|U J<|U J<|O _ J<|qa J<|qz ?_;obtain rfl:=qw h;exact ⟨_,J,wkA [(1,1)] [] []⟩
    refine qm<|Qj ?_;obtain rfl:=qw h;exact ⟨_,J,wkA [(1,1)] [] []⟩
   intro l hb;subst hb;refine Qe [Qs 0,q0,Qs 0,q0,qv 0,q0,q0,q0,qv 0,q0,q0,q0,q0,q0,q0,q0,q0,q0,q0,q0] qg<|U J<|U J<|U J<|U J<|U J<|O _ J<|U J<|U J<|U J<|O _ J<|q7 a fun n o a=>qs o J J<|Q9 _ o J<|U J<|U J<|q7 a fun p q a=>qs q J J<|Q9 _ q J<|q7 a fun ab s a=>qs s J J<|Qv (ds:=[qf n]) n s J J J J J J J J (leb J) J<|q7 a fun ac t a=>qs t qd J<|Qv (ds:=[qf p]) p t J J J J J J J J (leb J) J<|qz<|Qq<|Q1<|U J<|O _ J<|qa J<|qz<|⟨_,qn a,wkE [(1,1)] [] [] J ⟨⟨_,J,K2 qd J qt (ltd J)⟩,qk J,qk J,⟨_,J,.ref J qt (ltd J)⟩,qk J,qk J,trivial⟩ ⟨Qp J J,Qp J J,trivial⟩⟩
  refine Qc ?_;refine ⟨_,qn a,fun hm=>?_⟩;subst hm;obtain rfl:=qw b;exact ⟨.inl J,_,J,wkA [] [] []⟩
 refine qm<|Qj ?_;obtain rfl:=qw b;exact ⟨.inl J,_,J,wkA [] [] []⟩
theorem qvg (rec : List Int→Int→Int→Int→Option (List Int)) (hrec : ∀ (n : List Int) (p : Int) (q : Int) (s : Int) (r : List Int),rec n p q s = some r→K6 Tryz.prog tab 146 [.hs 0 1 0 n.length,q9 p,q9 q,q9 s] [(0,.dat 1 (n.map (eI .i64)))] 1 (.d (.tup [])) [(0,.dat 1 (r.map (eI .i64)))] 1) (n : List Int) (p : Int) (q : Int) (s : Int) (r : List Int) (o : q3z rec  n p q s = some r) : K6 Tryz.prog tab 146 [.hs 0 1 0 n.length,q9 p,q9 q,q9 s] [(0,.dat 1 (n.map (eI .i64)))] 1 (.d (.tup [])) [(0,.dat 1 (r.map (eI .i64)))] 1:=by
 unfold q3z at o;refine Kj Tryz.func146 J qg qg J<|qc<|qa J<|qx<|qa J<|q8<|q7 o fun ba bb o=>Qa<|Qk (q3y rec) (fun b=>⟨[(0,.hs 0 1 0 b.2.2.2.2.2.length),(1,q9 b.1),(2,q9 b.2.1),(3,q9 b.2.2.1),(8,Q2 b.2.2.2.1),(9,Q2 b.2.2.2.2.1)],[(0,.dat 1 (b.2.2.2.2.2.map (eI .i64)))],1⟩) _ ba bb (wkA [] [] []) ?_;intro b cn a;unfold q3y at a;refine Qa<|qc<|U J<|U J<|O _ J<|qa J<|q8<|qe<|qc<|U J<|O _ J<|q8 ?_;refine ql J a (fun _ a=>?_) (fun _ a=>?_)
 ·refine qc<|U J<|U J<|U J<|q7 a fun ab bc a=>q7 a fun co bd a=>?_;have cp:=Ko bd;refine K9 [(0,0)] [(0,0)] _ (.d (.tup [])) 1 [(0,.dat 1 (ab.map (eI .i64)))] 1 (qv7 b.2.2.2.2.2 b.1 b.2.1 ab bc)<|qu ?_;refine ⟨_,qn a,fun hm=>?_⟩;subst hm;obtain rfl:=qw o;exact ⟨.inr J,_,J,wkA [] [] []⟩
 refine qm<|qe<|qc<|U J<|O _ J<|q8 ?_;refine ql J a (fun _ a=>?_) (fun _ a=>?_)
 ·refine qc<|U J<|U J<|U J<|q7 a fun ac be a=>q7 a fun cq bf a=>?_;have cr:=Ko bf;refine K9 [(0,0)] [(0,0)] _ (.d (.tup [])) 1 [(0,.dat 1 (ac.map (eI .i64)))] 1 (qv5 b.2.2.2.2.2 b.1 b.2.1 ac be)<|qu ?_;refine ⟨_,qn a,fun hm=>?_⟩;subst hm;obtain rfl:=qw o;exact ⟨.inr J,_,J,wkA [] [] []⟩
 refine qm<|qe<|qc<|U J<|O _ J<|q8<|q7 a fun bg k a=>?_;refine Y2 (fun c=>c = bg) (fun c=>⟨[(0,.hs 0 1 0 c.2.length),(1,q9 b.1),(2,q9 b.2.1),(3,q9 c.1),(8,Q2 b.2.2.2.1),(9,Q2 b.2.2.2.2.1),(10,.d (qf (w64 (b.2.1 - b.1))))],[(0,.dat 1 (c.2.map (eI .i64)))],1⟩) qd ?_ ?_
 ·refine ql J k (fun _ k=>?_) (fun _ k=>?_)
  ·refine qc<|U J<|U J<|U J<|q7 k fun ad bh k=>q7 k fun cs bi k=>?_;have bj:=Ko bi;refine K9 [(0,0)] [(0,0)] _ (.d (.tup [])) 1 [(0,.dat 1 (ad.map (eI .i64)))] 1 (qv1 b.2.2.2.2.2 b.1 b.2.1 ad bh)<|q8<|Q1<|U J<|O _ J<|qa J<|qz ?_;obtain rfl:=qw k;exact ⟨_,J,wkE [] [] [] J ⟨⟨_,J,K2 (by simp [bj]) J qt (ltd J)⟩,qk J,qk J,qk J,qk J,qk J,qk J,trivial⟩ ⟨Qp J J,trivial⟩⟩
  refine qm<|Qj ?_;obtain rfl:=qw k;exact ⟨_,J,wkA [] [] []⟩
 intro c hb;subst hb;refine qc<|U J<|U J<|U J<|q7 a fun bk bl a=>qap [.hs 0 1 0 c.2.length,q9 b.1,q9 b.2.1] (qv3 c.2 b.1 b.2.1 bk bl) J J (Uq (Ju J J) (Uq J (Uq J J))) (.inr J)<|U J<|O _ J<|O _ J<|qa J<|qa J<|q8<|qe<|qc<|U J<|O _ J<|q8<|q7 a fun bm l a=>?_;refine Y2 (fun g=>g = bm) (fun g=>⟨[(0,.hs 0 1 0 g.2.2.length),(1,q9 b.1),(2,q9 b.2.1),(3,q9 c.1),(8,Q2 b.2.2.2.1),(9,Q2 b.2.2.2.2.1),(10,.d (qf (w64 (b.2.1 - b.1)))),(11,q9 g.1),(12,q9 g.2.1)],[(0,.dat 1 (g.2.2.map (eI .i64)))],1⟩) qd ?_ ?_
 ·refine ql J l (fun _ l=>?_) (fun _ l=>?_)
  ·refine qc<|U J<|U J<|U J<|q7 l fun ae bn l=>q7 l fun ct bo l=>?_;have bp:=Ko bo;refine K9 [(0,0)] [(0,0)] _ (.d (.tup [])) 1 [(0,.dat 1 (ae.map (eI .i64)))] 1 (qvj c.2 b.1 b.2.1 ae bn)<|qx<|U J<|O _ J<|U J<|U J<|O _ J<|O _ J<|qa J<|q8<|Q1<|qa J<|qz ?_;obtain rfl:=qw l;exact ⟨_,J,wkE [] [] [] J ⟨⟨_,J,K2 (by simp [bp]) J qt (ltd J)⟩,qk J,qk J,qk J,qk J,qk J,qk J,qk J,qk J,trivial⟩ ⟨Qp J J,trivial⟩⟩
  refine qm<|Qj ?_;obtain rfl:=qw l;exact ⟨_,J,wkA [] [] []⟩
 intro g hb;subst hb;refine qe<|qc<|U J<|q7 a fun bq t a=>?_;refine Qf 3 (fun A st=>∃ af ag,st = A [(64,Q2 bq),(63,ag),(62,af)]) ?_ ?_
 ·refine Qg J J t (fun t=>?_) (fun t=>?_)
  ·refine U J<|O _ J<|q8 ?_;cases t;exact ⟨_,_,J⟩
  refine qb J<|O _ J<|q8 ?_;cases t;exact ⟨_,_,J⟩
 rintro _ ⟨af,ag,rfl⟩;refine q7 a fun br u a=>?_;refine Qf 4 (fun A st=>∃ ah ai aj,st = A [(68,Q2 br),(67,aj),(66,ai),(65,ah)]) ?_ ?_
 ·refine Qg J J u (fun u=>?_) (fun u=>?_)
  ·refine U J<|O _ J<|O _ J<|q8 ?_;cases u;exact ⟨_,_,_,J⟩
  refine qb J<|qb J<|O _ J<|q8 ?_;cases u;exact ⟨_,_,_,J⟩
 rintro _ ⟨ah,ai,aj,rfl⟩;refine q8<|q7 a fun bs f a=>?_;refine Y2 (fun m=>.inl m = bs) (fun m=>⟨[(0,.hs 0 1 0 m.length),(1,q9 b.1),(2,q9 b.2.1),(3,q9 c.1),(8,Q2 b.2.2.2.1),(9,Q2 b.2.2.2.2.1),(10,.d (qf (w64 (b.2.1 - b.1)))),(11,q9 g.1)],[(0,.dat 1 (m.map (eI .i64)))],1⟩) qd ?_ ?_
 ·refine ql J f (fun _ f=>?_) (fun _ f=>?_)
  ·refine qc<|U J<|U J<|U J<|q7 f fun x bt f=>q7 f fun cu bu f=>?_;have bv:=Ko bu;refine K9 [(0,0)] [(0,0)] _ (Q2 x.1) 1 [(0,.dat 1 (x.2.map (eI .i64)))] 1 (qv9 g.2.2 b.1 b.2.1 x bt)<|q8 ?_;refine ql J f (fun _ f=>?_) (fun _ f=>?_)
   ·refine q3r ?_;obtain rfl:=qw f;refine ⟨_,qn a,fun hm=>?_⟩;subst hm;obtain rfl:=qw o;exact ⟨.inr J,_,J,wkA [] [] []⟩
   refine qm<|Qj ?_;obtain rfl:=qw f;exact ⟨_,J,wkE [] [] [] J ⟨⟨_,J,K2 (by simp [bv]) J qt (ltd J)⟩,qk J,qk J,qk J,qk J,qk J,qk J,qk J,trivial⟩ ⟨Qp J J,trivial⟩⟩
  refine qm<|Qj ?_;obtain rfl:=qw f;exact ⟨_,J,wkA [] [] []⟩
 intro m hb;subst hb;refine qe<|qe<|Qe [q0,q0,q0,qv 0,q0,q0,q0,qv 0,q0,q0,q0,q0,q0,q0,q0] qg<|U J<|O _ J<|q7 a fun bw h a=>?_;refine Qf 13 (fun A st=>∃ ak al am an ao ap aq ar au av aw ax,st = A [(87,Q2 bw),(86,ax),(85,aw),(84,av),(83,au),(82,ar),(81,aq),(80,ap),(79,ao),(78,an),(77,am),(76,al),(75,ak)]) ?_ ?_
 ·refine Qg J J h (fun h=>?_) (fun h=>?_)
  ·refine U J<|U J<|O _ J<|q7 h fun bx ay h=>qs ay J J<|Q9 _ ay J<|U J<|U J<|q7 h fun bz az h=>qs az J J<|Q9 _ az J<|q7 h fun ca cb h=>Q3 (Zg bx bz ca cb) J<|O _ J<|O _ J<|q8 ?_;cases h;exact ⟨_,_,_,_,_,_,_,_,_,_,_,_,J⟩
  refine qb J<|qb J<|qb J<|qb J<|qb J<|qb J<|qb J<|qb J<|qb J<|qb J<|qb J<|O _ J<|q8 ?_;cases h;exact ⟨_,_,_,_,_,_,_,_,_,_,_,_,J⟩
 rintro _ ⟨ak,al,am,an,ao,ap,aq,ar,au,av,aw,ax,rfl⟩;refine q8 ?_;refine ql J a (fun _ a=>?_) (fun _ a=>?_)
 ·refine qc<|U J<|U J<|U J<|U J<|q7 a fun y cc a=>q7 a fun cv cd a=>?_;have ce:=Ko cd;refine K9 [(0,0)] [(0,0)] _ (q9 y.1) 1 [(0,.dat 1 (y.2.map (eI .i64)))] 1 (qvc m b.1 b.2.1 g.1 y cc)<|qa J<|qx<|U J<|qa J<|q8<|Qc<|q2w<|Qj<|⟨_,qn a,wkE [] [] [] J ⟨⟨_,J,K2 (by simp [ce]) J qt (ltd J)⟩,qk J,qk J,qk J,qk J,qk J,trivial⟩ ⟨Qp J J,trivial⟩⟩
 refine qm<|qc<|U J<|U J<|U J<|U J<|q7 a fun j cf a=>q7 a fun cw cg a=>?_;have v:=Ko cg;refine K9 [(0,0)] [(0,0)] _ (.d (.tup [qf j.1,.bool j.2.1])) 1 [(0,.dat 1 (j.2.2.map (eI .i64)))] 1 (qvd m b.1 b.2.1 g.1 j cf)<|U J<|O _ J<|O _ J<|qa J<|qa J<|qx<|U J<|qa J<|qx<|U J<|U J<|O _ J<|U J<|U J<|O _ J<|qa J<|qa J<|qx<|U J<|O _ J<|qa J<|qx<|U J<|U J<|O _ J<|q8 ?_;refine ql J a (fun _ a=>?_) (fun _ a=>?_)
 ·refine qc<|U J<|U J<|O _ J<|qa J<|qx<|U J<|U J<|U J<|U J<|q7 a fun z ch a=>q7 a fun cx ci a=>?_;have cj:=Ko ci;refine Ud [(0,0)] [(0,0)] [.hs 0 1 0 m.length,q9 b.1,q9 j.1,q9 c.1] (.d (.tup [])) [(0,.dat 1 (z.map (eI .i64)))] [(0,.dat 1 (z.map (eI .i64)))] 1 (hrec j.2.2 b.1 j.1 c.1 z ch) J J J (Yn [(0,0)] [] [] J ⟨⟨_,J,K2 (by simp [v]) J qt (ltd J)⟩,qk J,qk J,qk J,trivial⟩ ⟨Qp J J,trivial⟩) (Yn [(0,0)] [] [] J ⟨qk J,trivial⟩ ⟨Qp J J,trivial⟩) J ⟨.inl J,trivial⟩<|q8<|Q1<|U J<|O _ J<|qa J<|qz<|Qq<|Qj<|⟨_,qn a,wkE [] [] [] J ⟨⟨_,J,K2 (by simp [v,cj]) J qt (ltd J)⟩,qk J,qk J,qk J,qk J,qk J,trivial⟩ ⟨Qp J J,trivial⟩⟩
 refine qc<|U J<|U J<|O _ J<|qa J<|qx<|U J<|U J<|O _ J<|U J<|U J<|q7 a fun aa ck a=>q7 a fun cy cl a=>?_;have cm:=Ko cl;refine Ud [(0,0)] [(0,0)] [.hs 0 1 0 m.length,.d (qf (w64 (j.1 + 1))),q9 b.2.1,q9 c.1] (.d (.tup [])) [(0,.dat 1 (aa.map (eI .i64)))] [(0,.dat 1 (aa.map (eI .i64)))] 1 (hrec j.2.2 (w64 (j.1 + 1)) b.2.1 c.1 aa ck) J J J (Yn [(0,0)] [] [] J ⟨⟨_,J,K2 (by simp [v]) J qt (ltd J)⟩,qk J,qk J,qk J,trivial⟩ ⟨Qp J J,trivial⟩) (Yn [(0,0)] [] [] J ⟨qk J,trivial⟩ ⟨Qp J J,trivial⟩) J ⟨.inl J,trivial⟩<|q8<|Q1<|U J<|qa J<|qz<|Qq<|Qj<|⟨_,qn a,wkE [] [] [] J ⟨⟨_,J,K2 (by simp [v,cm]) J qt (ltd J)⟩,qk J,qk J,qk J,qk J,qk J,trivial⟩ ⟨Qp J J,trivial⟩⟩
theorem qvh (n : Nat) : ∀ (a : List Int) (b : Int) (c : Int) (f : Int) (r : List Int),q6e n  a b c f = some r→K6 Tryz.prog tab 146 [.hs 0 1 0 a.length,q9 b,q9 c,q9 f] [(0,.dat 1 (a.map (eI .i64)))] 1 (.d (.tup [])) [(0,.dat 1 (r.map (eI .i64)))] 1:=by
 induction n with
 | zero=>intro a b c f r g;cases g
 | succ n ih=>intro a b c f r g;exact qvg (q6e n )   ih a b c f r g
theorem qki (b : List Int) (r : List Int) (a : Uj  b = some r) : K6 Tryz.prog tab 132 [.hs 0 1 0 b.length] [(0,.dat 1 (b.map (eI .i64)))] 1 (.d (.tup [])) [(0,.dat 1 (r.map (eI .i64)))] 1:=by
 unfold Uj at a;refine Kj Tryz.func132 J qg qg J<|qc<|U J<|O _ J<|qa J<|q8<|Q1<|U J<|U J<|U J<|O _ J<|q7 a fun f h a=>Q3 (qdc (IntKind.wrap .u64 (b.length : Int)) f h) J<|q7 a fun g c a=>q7 a fun l j a=>?_;have m:=Ko j;obtain ⟨k,c⟩:=qd7 c;refine K9 [(0,0)] [(0,0)] _ (.d (.tup [])) 1 [(0,.dat 1 (g.map (eI .i64)))] 1 (qvh k b 0 (b.length : Int) f g c)<|qz ?_;obtain rfl:=qw a;exact ⟨.inl J,_,J,wkA [] [] []⟩
theorem qkh (d : List Int) (r : (Nat × Nat) × List Int) (c : q2k  d = some r) : K6 Tryz.prog tab 133 [.hs 0 1 0 d.length] [(0,.dat 1 (d.map (eI .i64)))] 1 (.hs 0 1 r.1.1 r.1.2) [(0,.dat 1 (r.2.map (eI .i64)))] 1:=by
 unfold q2k at c;refine Kj Tryz.func133 J qg qg J<|qc<|qa J<|q8<|qe<|qc<|U J<|O _ J<|O _ J<|q8 ?_;refine ql J c (fun _ c=>?_) (fun _ c=>?_)
 ·refine qc<|U J<|qa J<|qu ?_;obtain rfl:=qw c;exact ⟨.inr J,_,J,wkA [] [] []⟩
 refine qm<|qe<|qc<|qa J<|q8<|q7 c fun m z c=>?_;refine Qo (fun k=>.inl k = m) (fun k=>⟨[(0,.hs 0 1 0 d.length)],[(0,.dat 1 (d.map (eI .i64)))],1⟩) qd ?_ ?_
 ·refine Qk (J0 d) (fun n=>⟨[(0,.hs 0 1 0 d.length),(3,q9 n)],[(0,.dat 1 (d.map (eI .i64)))],1⟩) _ m z (wkA [] [] []) ?_;intro n ae a;unfold J0 at a;refine qe<|qc<|U J<|U J<|O _ J<|O _ J<|q8 ?_;refine ql J a (fun _ a=>?_) (fun _ a=>?_)
  ·refine qm<|qe<|Qa<|qe<|Qe [q0,qv 0,q0,q0,q0,q0,qv 0,q0,q0,q0] qg<|U J<|U J<|q7 a fun af o a=>qs o J J<|Q9 _ o J<|U J<|U J<|O _ J<|q7 a fun ag p a=>qs p J J<|Q9 _ p J<|O _ J<|q8 ?_;refine ql J a (fun _ a=>?_) (fun _ a=>?_)
   ·refine qc<|U J<|U J<|q7 a fun ah aa a=>q7i aa J J J J J (q6z J) (fun _=>rfl)<|qa J<|q8<|qe<|qc<|qa J<|q8<|q7 a fun q ab a=>?_;refine Qo (fun f=>f = q) (fun f=>⟨[(0,.hs 0 1 0 f.2.length),(3,q9 f.1)],[(0,.dat 1 (f.2.map (eI .i64)))],1⟩) qd ?_ ?_
    ·refine Qk (q1i) (fun g=>⟨[(0,.hs 0 1 0 g.2.2.2.length),(3,q9 g.1),(4,.hs 0 1 g.2.1.1 g.2.1.2),(5,q9 g.2.2.1)],[(0,.dat 1 (g.2.2.2.map (eI .i64)))],1⟩) _ q ab (wkA [] [] []) ?_;intro g ai h;unfold q1i at h;refine qe<|qc<|U J<|U J<|O _ J<|O _ J<|q8 ?_;refine ql J h (fun _ h=>?_) (fun _ h=>?_)
     ·refine qm<|qe<|q7 h fun ac b h=>?_;refine Qo (fun j=>j = ac) (fun j=>⟨[(0,.hs 0 1 0 j.2.2.length),(3,q9 j.1),(4,.hs 0 1 j.2.1.1 j.2.1.2),(5,q9 g.2.2.1)],[(0,.dat 1 (j.2.2.map (eI .i64)))],1⟩) qd ?_ ?_
      ·refine qe<|Qe [q0,qv 0,q0,q0,q0,q0,qv 0,q0,q0,q0] qg<|U J<|U J<|q7 b fun aj s b=>qdn s J J J J J J<|Q9 _ (qd3 s) J<|U J<|U J<|O _ J<|q7 b fun ak t b=>qdn t J J J J J J<|Q9 _ (qd3 t) J<|O _ J<|q8 ?_;refine ql J b (fun _ b=>?_) (fun _ b=>?_)
       ·refine qc<|U J<|U J<|U J<|U J<|q7 b fun u v b=>qdn v J J J J J J<|Q9 _ (qd3 v) J<|q7 b fun al x b=>qs x J J<|Qv (ds:=[qf u]) u x J J J J J J J J (leb J) J<|q8<|Q1<|U J<|O _ J<|qa J<|qz ?_;obtain rfl:=qw b;exact ⟨_,J,wkE [] [] [] J ⟨⟨_,J,K2 qd J qt (ltd J)⟩,qk J,⟨_,J,.hs J qt (ltd J)⟩,qk J,trivial⟩ ⟨Qp J J,trivial⟩⟩
       refine qm<|Qj ?_;obtain rfl:=qw b;exact ⟨_,J,wkA [] [] []⟩
      intro j hb;subst hb;refine Q1<|U J<|O _ J<|qa J<|qz<|⟨_,qn h,wkA [] [] []⟩
     refine Qc ?_;refine ⟨_,qn h,fun hm=>?_⟩;subst hm;exact ⟨_,J,wkA [] [] []⟩
    intro f hb;subst hb;refine qc<|U J<|U J<|q7 a fun y l a=>q7i l J J J J J (q6z J) (fun _=>rfl)<|qq7 (w:=y) (xs:=f.2) (enc:=(eI .i64)) 0 (q9g l) J J J J J J J ?_;have am:=@qfj _ f.2 y 0 (q9g l);refine qx<|U J<|U J<|q7 a fun an ad a=>q7i ad J J J J J (fun _=>rfl) (q6z J)<|qa J<|qu ?_;refine ⟨_,qn a,fun hm=>?_⟩;subst hm;obtain rfl:=qw c;exact ⟨.inr J,_,J,wkA [] [] []⟩
   refine qm<|Qj<|Qq<|Q1<|U J<|O _ J<|qa J<|qz<|⟨_,qn a,wkA [] [] []⟩
  refine Qc ?_;refine ⟨_,qn a,fun hm=>?_⟩;subst hm;exact ⟨_,J,wkA [] [] []⟩
 intro k hb;subst hb;refine qc<|U J<|qa J<|qu ?_;obtain rfl:=qw c;exact ⟨.inr J,_,J,wkA [] [] []⟩
theorem quv (b : List qq) (f : qq→Option Bool) (p1F : FuncId) (p1C : List DV) (p1Ok : ∀ (h : qq) (r : Bool),f h = some r→Pure Tryz.prog tab p1F ([.agg (Qd h)] ++ p1C) (.bool r)) (r : Int) (c : qbh b f = some r) : Pure Tryz.prog tab 148 [.sl 4 (b.map Qd),.fn p1F p1C] (qf r):=by
 unfold qbh at c;refine Qt Tryz.func148 J qg qg J<|qc<|qa J<|q8<|qe<|qc<|U J<|K0 J<|U J<|q8<|q7 c fun j l c=>?_;refine Qo (fun g=>.inl g = j) (fun g=>⟨[],[],0⟩) qd ?_ ?_
 ·refine Qk (q3s b f) (fun k=>⟨[(0,.d (.sl 4 (b.map Qd))),(1,.d (.fn p1F p1C)),(7,q9 (b.length : Int)),(8,q9 k)],[],0⟩) _ j l (wkA [] [] []) ?_;intro k q a;unfold q3s at a;refine qc<|O _ J<|q8<|qe ?_;refine ql J a (fun _ a=>?_) (fun _ a=>?_)
  ·refine qm<|qe<|Qa<|qc<|U J<|qa J<|qx<|U J<|U J<|U J<|q7 a fun m n a=>Qm n J<|O _ J<|q7 a fun o p a=>Yw _ (p1Ok m o p) J J J (.inl J)<|q8 ?_;refine ql J a (fun _ a=>?_) (fun _ a=>?_)
   ·refine qc<|U J<|qa J<|qu ?_;refine ⟨_,qn a,fun hm=>?_⟩;subst hm;cases c;exact Q5 _ J
   refine qm<|Qj<|Qq<|Q1<|O _ J<|U J<|qz<|⟨_,qn a,wkA [] [] []⟩
  refine Qc ?_;refine ⟨_,qn a,fun hm=>?_⟩;subst hm;exact ⟨_,J,wkA [] [] []⟩
 intro g hb;subst hb;refine qc<|qa J<|qu ?_;cases c;exact Q5 _ J
theorem quq (b : List qq) (c : qq→Option Bool) (p1F : FuncId) (p1C : List DV) (p1Ok : ∀ (d : qq) (r : Bool),c d = some r→Pure Tryz.prog tab p1F ([.agg (Qd d)] ++ p1C) (.bool r)) (r : Bool) (a : q87 b c = some r) : Pure Tryz.prog tab 135 [.sl 4 (b.map Qd),.fn p1F p1C] (.bool r):=by
 unfold q87 at a;refine Qt Tryz.func135 J qg qg J<|qc<|qa J<|qx<|U J<|U J<|q7 a fun f g a=>Q3 (quv b c p1F p1C p1Ok f g) J<|O _ J<|qa J<|qu ?_;cases a;exact Q5 _ J
theorem qb9 (c : Int) (r : Bool) (b : q2e c = some r) : Pure Tryz.prog tab 149 [qf c] (.bool r):=by
 unfold q2e at b;refine Qt Tryz.func149 J qg qg J<|qc<|qa J<|qx<|U J<|O _ J<|q7 b fun h a b=>?_;refine Qf 4 (fun A st=>∃ d f g,st = A [(8,Q2 h),(7,g),(6,f),(5,d)]) ?_ ?_
 ·refine Qg J J a (fun a=>?_) (fun a=>?_)
  ·refine U J<|O _ J<|O _ J<|q8 ?_;cases a;exact ⟨_,_,_,J⟩
  refine qb J<|qb J<|O _ J<|q8 ?_;cases a;exact ⟨_,_,_,J⟩
 rintro _ ⟨d,f,g,rfl⟩;refine qa J<|qu ?_;cases b;exact Q5 _ J
theorem qsz (g : qq) (r : Bool) (a : q83 g = some r) : Pure Tryz.prog tab 137 [.agg (Qd g)] (.bool r):=by
 unfold q83 at a;refine Qt Tryz.func137 J qg qg J<|qc<|Qn _ _ J<|qa J<|qx<|O _ J<|O _ J<|O _ J<|O _ J<|O _ J<|q7 a fun c1 h a=>?_;refine Qf 7 (fun A st=>∃ j k l m n o,st = A [(14,Q2 c1),(13,o),(12,n),(11,m),(10,l),(9,k),(8,j)]) ?_ ?_
 ·refine Qg J J h (fun h=>?_) (fun h=>?_)
  ·refine O _ J<|O _ J<|O _ J<|O _ J<|O _ J<|O _ J<|q8 ?_;cases h;exact ⟨_,_,_,_,_,_,J⟩
  refine qb J<|qb J<|qb J<|qb J<|qb J<|O _ J<|q8 ?_;cases h;exact ⟨_,_,_,_,_,_,J⟩
 rintro _ ⟨j,k,l,m,n,o,rfl⟩;refine q7 a fun ai b a=>?_;refine Qf 5 (fun A st=>∃ p q s t,st = A [(19,Q2 ai),(18,t),(17,s),(16,q),(15,p)]) ?_ ?_
 ·refine Qg J J b (fun b=>?_) (fun b=>?_)
  ·refine O _ J<|O _ J<|q7 b fun aj ak b=>Q3 (qb9 g.X0 aj ak) J<|O _ J<|q8 ?_;cases b;exact ⟨_,_,_,_,J⟩
  refine qb J<|qb J<|qb J<|O _ J<|q8 ?_;cases b;exact ⟨_,_,_,_,J⟩
 rintro _ ⟨p,q,s,t,rfl⟩;refine q7 a fun al c a=>?_;refine Qf 5 (fun A st=>∃ u v x y,st = A [(24,Q2 al),(23,y),(22,x),(21,v),(20,u)]) ?_ ?_
 ·refine Qg J J c (fun c=>?_) (fun c=>?_)
  ·refine O _ J<|O _ J<|q7 c fun am an c=>Q3 (qb9 g.X1 am an) J<|O _ J<|q8 ?_;cases c;exact ⟨_,_,_,_,J⟩
  refine qb J<|qb J<|qb J<|O _ J<|q8 ?_;cases c;exact ⟨_,_,_,_,J⟩
 rintro _ ⟨u,v,x,y,rfl⟩;refine q7 a fun ao d a=>?_;refine Qf 5 (fun A st=>∃ z aa ab ac,st = A [(29,Q2 ao),(28,ac),(27,ab),(26,aa),(25,z)]) ?_ ?_
 ·refine Qg J J d (fun d=>?_) (fun d=>?_)
  ·refine O _ J<|O _ J<|q7 d fun ap aq d=>Q3 (qb9 g.Y0 ap aq) J<|O _ J<|q8 ?_;cases d;exact ⟨_,_,_,_,J⟩
  refine qb J<|qb J<|qb J<|O _ J<|q8 ?_;cases d;exact ⟨_,_,_,_,J⟩
 rintro _ ⟨z,aa,ab,ac,rfl⟩;refine q7 a fun ar f a=>?_;refine Qf 5 (fun A st=>∃ ad ae af ag,st = A [(34,Q2 ar),(33,ag),(32,af),(31,ae),(30,ad)]) ?_ ?_
 ·refine Qg J J f (fun f=>?_) (fun f=>?_)
  ·refine O _ J<|O _ J<|q7 f fun au av f=>Q3 (qb9 g.Y1 au av) J<|O _ J<|q8 ?_;cases f;exact ⟨_,_,_,_,J⟩
  refine qb J<|qb J<|qb J<|O _ J<|q8 ?_;cases f;exact ⟨_,_,_,_,J⟩
 rintro _ ⟨ad,ae,af,ag,rfl⟩;refine qa J<|qu ?_;cases a;exact Q5 _ J
theorem qss (b : qq) (r : Bool) (a : q2d b = some r) : Pure Tryz.prog tab 136 [.agg (Qd b)] (.bool r):=by
 unfold q2d at a;refine Qt Tryz.func136 J qg qg J<|qc<|Qn _ _ J<|qa J<|qx<|O _ J<|q7 a fun c d a=>Q3 (qsz b c d) J<|O _ J<|qa J<|qu ?_;cases a;exact Q5 _ J
theorem qux (b : List qo) (f : qo→Option Bool) (p1F : FuncId) (p1C : List DV) (p1Ok : ∀ (h : qo) (r : Bool),f h = some r→Pure Tryz.prog tab p1F ([.agg (Qy h)] ++ p1C) (.bool r)) (r : Int) (c : q8c b f = some r) : Pure Tryz.prog tab 182 [.sl 2 (b.map Qy),.fn p1F p1C] (qf r):=by
 unfold q8c at c;refine Qt Tryz.func182 J qg qg J<|qc<|qa J<|q8<|qe<|qc<|U J<|K0 J<|U J<|q8<|q7 c fun j l c=>?_;refine Qo (fun g=>.inl g = j) (fun g=>⟨[],[],0⟩) qd ?_ ?_
 ·refine Qk (q2l b f) (fun k=>⟨[(0,.d (.sl 2 (b.map Qy))),(1,.d (.fn p1F p1C)),(7,q9 (b.length : Int)),(8,q9 k)],[],0⟩) _ j l (wkA [] [] []) ?_;intro k q a;unfold q2l at a;refine qc<|O _ J<|q8<|qe ?_;refine ql J a (fun _ a=>?_) (fun _ a=>?_)
  ·refine qm<|qe<|Qa<|qc<|U J<|qa J<|qx<|U J<|U J<|U J<|q7 a fun m n a=>Qm n J<|O _ J<|q7 a fun o p a=>Yw _ (p1Ok m o p) J J J (.inl J)<|q8 ?_;refine ql J a (fun _ a=>?_) (fun _ a=>?_)
   ·refine qc<|U J<|qa J<|qu ?_;refine ⟨_,qn a,fun hm=>?_⟩;subst hm;cases c;exact Q5 _ J
   refine qm<|Qj<|Qq<|Q1<|O _ J<|U J<|qz<|⟨_,qn a,wkA [] [] []⟩
  refine Qc ?_;refine ⟨_,qn a,fun hm=>?_⟩;subst hm;exact ⟨_,J,wkA [] [] []⟩
 intro g hb;subst hb;refine qc<|qa J<|qu ?_;cases c;exact Q5 _ J
theorem qur (b : List qo) (c : qo→Option Bool) (p1F : FuncId) (p1C : List DV) (p1Ok : ∀ (d : qo) (r : Bool),c d = some r→Pure Tryz.prog tab p1F ([.agg (Qy d)] ++ p1C) (.bool r)) (r : Bool) (a : q88 b c = some r) : Pure Tryz.prog tab 169 [.sl 2 (b.map Qy),.fn p1F p1C] (.bool r):=by
 unfold q88 at a;refine Qt Tryz.func169 J qg qg J<|qc<|qa J<|qx<|U J<|U J<|q7 a fun f g a=>Q3 (qux b c p1F p1C p1Ok f g) J<|O _ J<|qa J<|qu ?_;cases a;exact Q5 _ J
theorem qy6 (d : qo) (r : Bool) (a : q2p d = some r) : Pure Tryz.prog tab 154 [.agg (Qy d)] (.bool r):=by
 unfold q2p at a;refine Qt Tryz.func154 J qg qg J<|qc<|Qn _ _ J<|qa J<|qx<|O _ J<|O _ J<|O _ J<|O _ J<|O _ J<|q7 a fun o b a=>?_;refine Qf 5 (fun A st=>∃ f g h j,st = A [(12,Q2 o),(11,j),(10,h),(9,g),(8,f)]) ?_ ?_
 ·refine Qg J J b (fun b=>?_) (fun b=>?_)
  ·refine O _ J<|O _ J<|O _ J<|O _ J<|q8 ?_;cases b;exact ⟨_,_,_,_,J⟩
  refine qb J<|qb J<|qb J<|O _ J<|q8 ?_;cases b;exact ⟨_,_,_,_,J⟩
 rintro _ ⟨f,g,h,j,rfl⟩;refine q7 a fun p c a=>?_;refine Qf 5 (fun A st=>∃ k l m n,st = A [(17,Q2 p),(16,n),(15,m),(14,l),(13,k)]) ?_ ?_
 ·refine Qg J J c (fun c=>?_) (fun c=>?_)
  ·refine O _ J<|O _ J<|O _ J<|O _ J<|q8 ?_;cases c;exact ⟨_,_,_,_,J⟩
  refine qb J<|qb J<|qb J<|O _ J<|q8 ?_;cases c;exact ⟨_,_,_,_,J⟩
 rintro _ ⟨k,l,m,n,rfl⟩;refine qa J<|qu ?_;cases a;exact Q5 _ J
theorem qxz (b : qo) (r : Bool) (a : qbl b = some r) : Pure Tryz.prog tab 170 [.agg (Qy b)] (.bool r):=by
 unfold qbl at a;refine Qt Tryz.func170 J qg qg J<|qc<|Qn _ _ J<|qa J<|qx<|O _ J<|q7 a fun c d a=>Q3 (qy6 b c d) J<|O _ J<|qa J<|qu ?_;cases a;exact Q5 _ J
theorem qy2 (a : qi) (b : qi) (r : Int) (c : q9a a b = some r) : Pure Tryz.prog tab 174 [.agg (Q7 a),.agg (Q7 b)] (qf r):=by
 unfold q9a at c;refine Qt Tryz.func174 J qg qg J<|qc<|Qn _ _ J<|Qn _ _ J<|qa J<|qx<|O _ J<|O _ J<|O _ J<|O _ J<|O _ J<|qa J<|qu ?_;cases c;exact Q5 _ J
theorem qv6 (k : qi→qi→Option Int) (q1F : FuncId) (q1C : List DV) (q1Ok : ∀ (p : qi) (q : qi) (r : Int),k p q = some r→Pure Tryz.prog tab q1F ([.agg (Q7 p),.agg (Q7 q)] ++ q1C) (qf r)) (n : List qi) (f : Int) (g : Int) (r : List qi) (l : q8j k n f g = some r) : K6 Tryz.prog tab 186 [.hs 0 3 0 n.length,q9 f,q9 g,.d (.fn q1F q1C)] [(0,.dat 3 (n.map Q7))] 1 (.d (.tup [])) [(0,.dat 3 (r.map Q7))] 1:=by
 unfold q8j at l;refine Kj Tryz.func186 J qg qg J<|qc<|U J<|O _ J<|qa J<|q8<|q7 l fun am an l=>Qa<|Qk (q8k g f k) (fun h=>⟨[(0,.hs 0 3 0 h.2.length),(1,q9 f),(2,q9 g),(3,.d (.fn q1F q1C)),(8,q9 h.1)],[(0,.dat 3 (h.2.map Q7))],1⟩) _ am an (wkA [] [] []) ?_;intro h ba c;unfold q8k at c;refine qe<|qc<|U J<|U J<|O _ J<|q8 ?_;refine ql J c (fun _ c=>?_) (fun _ c=>?_)
 ·refine qm<|qe<|q7 c fun ao o c=>?_;refine Qo (fun j=>j = ao) (fun j=>⟨[(0,.hs 0 3 0 j.length),(1,q9 f),(2,q9 g),(3,.d (.fn q1F q1C)),(8,q9 h.1)],[(0,.dat 3 (j.map Q7))],1⟩) qd ?_ ?_
  ·refine qc<|U J<|qa J<|q8<|q7 o fun ap aq o=>Qa<|Qk (q8l f k) (fun m=>⟨[(0,.hs 0 3 0 m.2.length),(1,q9 f),(2,q9 g),(3,.d (.fn q1F q1C)),(8,q9 h.1),(9,q9 m.1)],[(0,.dat 3 (m.2.map Q7))],1⟩) _ ap aq (wkA [] [] []) ?_;intro m bb a;unfold q8l at a;refine qe<|qe<|Qe [q0,q0,q0,qv 0,q0,q0,q0,q0,qv 0,q0,q0,q0,q0,q0,q0,q0,q0] qg<|U J<|U J<|O _ J<|q7 a fun ar b a=>?_;refine Qf 14 (fun A st=>∃ s t u v x y z aa ab ac ad ae af,st = A [(34,Q2 ar),(33,af),(32,ae),(31,ad),(30,ac),(29,ab),(28,aa),(27,z),(26,y),(25,x),(24,v),(23,u),(22,t),(21,s)]) ?_ ?_
   ·refine Qg J J b (fun b=>?_) (fun b=>?_)
    ·refine U J<|U J<|U J<|q7 b fun au ag b=>qs ag J J<|Q9 _ ag J<|U J<|U J<|O _ J<|q7 b fun av ah b=>qs ah J J<|Q9 _ ah J<|q7 b fun aw ax b=>Yw _ (q1Ok au av aw ax) J J J (.inl J)<|O _ J<|O _ J<|q8 ?_;cases b;exact ⟨_,_,_,_,_,_,_,_,_,_,_,_,_,J⟩
    refine qb J<|qb J<|qb J<|qb J<|qb J<|qb J<|qb J<|qb J<|qb J<|qb J<|qb J<|qb J<|O _ J<|q8 ?_;cases b;exact ⟨_,_,_,_,_,_,_,_,_,_,_,_,_,J⟩
   rintro _ ⟨s,t,u,v,x,y,z,aa,ab,ac,ad,ae,af,rfl⟩;refine q8 ?_;refine ql J a (fun _ a=>?_) (fun _ a=>?_)
   ·refine qm<|qe<|Qa<|Qe [Qs 0,q0,Qs 0,q0,qv 0,q0,q0,q0,qv 0,q0,q0,q0,q0,q0,q0,q0,q0,q0] qg<|U J<|U J<|U J<|U J<|O _ J<|U J<|U J<|O _ J<|q7 a fun ay ai a=>qs ai J J<|Q9 _ ai J<|U J<|U J<|q7 a fun az aj a=>qs aj J J<|Q9 _ aj J<|q7 a fun bc ak a=>qs ak J J<|Qv ay ak J J J J J J J J (leb J) J<|q7 a fun bd al a=>qs al qd J<|Qv az al J J J J J J J J (leb J) J<|qz<|Qq<|Q1<|U J<|O _ J<|qa J<|qz<|⟨_,qn a,wkE [] [] [] J ⟨⟨_,J,K2 qd J qt (ltd J)⟩,qk J,qk J,qk J,qk J,qk J,trivial⟩ ⟨Qp J J,trivial⟩⟩
   refine Qc ?_;refine ⟨_,qn a,fun hm=>?_⟩;subst hm;obtain rfl:=qw o;exact ⟨_,J,wkA [] [] []⟩
  intro j hb;subst hb;refine Q1<|U J<|O _ J<|qa J<|qz<|⟨_,qn c,wkA [] [] []⟩
 refine Qc ?_;refine ⟨_,qn c,fun hm=>?_⟩;subst hm;obtain rfl:=qw l;exact ⟨.inl J,_,J,wkA [] [] []⟩
theorem qkm (l : qi→qi→Option Int) (q1F : FuncId) (q1C : List DV) (q1Ok : ∀ (n : qi) (o : qi) (r : Int),l n o = some r→Pure Tryz.prog tab q1F ([.agg (Q7 n),.agg (Q7 o)] ++ q1C) (qf r)) (m : List qi) (p : Int) (f : Int) (g : Int) (r : List qi) (h : q6g l m p f g = some r) : K6 Tryz.prog tab 194 [.hs 0 3 0 m.length,q9 p,q9 f,q9 g,.d (.fn q1F q1C)] [(0,.dat 3 (m.map Q7))] 1 (.d (.tup [])) [(0,.dat 3 (r.map Q7))] 1:=by
 unfold q6g at h;refine Kj Tryz.func194 J qg qg J<|qc<|U J<|qa J<|q8<|q7 h fun ar au h=>Qa<|Qk (q93 f g l) (fun c=>⟨[(0,.hs 0 3 0 c.2.length),(2,q9 f),(3,q9 g),(4,.d (.fn q1F q1C)),(10,q9 c.1)],[(0,.dat 3 (c.2.map Q7))],1⟩) _ ar au (wkA [] [] []) ?_;intro c bh a;unfold q93 at a;refine Qa<|qc<|U J<|O _ J<|O _ J<|qa J<|q8<|qe<|qc<|U J<|U J<|O _ J<|q8 ?_;refine ql J a (fun _ a=>?_) (fun _ a=>?_)
 ·refine Qc ?_;refine ⟨_,qn a,fun hm=>?_⟩;subst hm;obtain rfl:=qw h;exact ⟨.inl J,_,J,wkA [] [] []⟩
 refine qm<|qe<|qe<|Qe [q0,q0,q0,qv 0,q0,q0,q0,q0,q0,q0,qv 0,q0,q0,q0,q0,q0,q0,q0,q0,q0,q0,q0] qg<|U J<|O _ J<|U J<|O _ J<|q7 a fun av b a=>?_;refine Qf 18 (fun A st=>∃ q s t u v x y z aa ab ac ad ae af ag ah ai,st = A [(40,Q2 av),(39,ai),(38,ah),(37,ag),(36,af),(35,ae),(34,ad),(33,ac),(32,ab),(31,aa),(30,z),(29,y),(28,x),(27,v),(26,u),(25,t),(24,s),(23,q)]) ?_ ?_
 ·refine Qg J J b (fun b=>?_) (fun b=>?_)
  ·refine U J<|U J<|U J<|U J<|O _ J<|q7 b fun aw aj b=>qs aj J J<|Q9 _ aj J<|U J<|U J<|U J<|O _ J<|O _ J<|q7 b fun ax ak b=>qs ak J J<|Q9 _ ak J<|q7 b fun ay az b=>Yw _ (q1Ok aw ax ay az) J J J (.inl J)<|O _ J<|O _ J<|q8 ?_;cases b;exact ⟨_,_,_,_,_,_,_,_,_,_,_,_,_,_,_,_,_,J⟩
  refine qb J<|qb J<|qb J<|qb J<|qb J<|qb J<|qb J<|qb J<|qb J<|qb J<|qb J<|qb J<|qb J<|qb J<|qb J<|qb J<|O _ J<|q8 ?_;cases b;exact ⟨_,_,_,_,_,_,_,_,_,_,_,_,_,_,_,_,_,J⟩
 rintro _ ⟨q,s,t,u,v,x,y,z,aa,ab,ac,ad,ae,af,ag,ah,ai,rfl⟩;refine q8<|q7 a fun ba j a=>?_;refine Y2 (fun k=>k = ba) (fun k=>⟨[(0,.hs 0 3 0 c.2.length),(2,q9 f),(3,q9 g),(4,.d (.fn q1F q1C)),(10,q9 c.1),(11,q9 k)],[(0,.dat 3 (c.2.map Q7))],1⟩) qd ?_ ?_
 ·refine ql J j (fun _ j=>?_) (fun _ j=>?_)
  ·refine Q1<|U J<|O _ J<|qa J<|qz ?_;obtain rfl:=qw j;exact ⟨_,J,wkA [] [] []⟩
  refine qm<|Qj ?_;obtain rfl:=qw j;exact ⟨_,J,wkA [] [] []⟩
 intro k hb;subst hb;refine qe<|qe<|Qe [q0,q0,q0,qv 0,q0,q0,q0,q0,q0,qv 0,q0,q0,q0,q0,q0,q0] qg<|U J<|U J<|U J<|U J<|O _ J<|q7 a fun bb al a=>qs al J J<|Q9 _ al J<|U J<|U J<|U J<|O _ J<|q7 a fun bc am a=>qs am J J<|Q9 _ am J<|q7 a fun bd be a=>Yw _ (q1Ok bb bc bd be) J J J (.inl J)<|O _ J<|O _ J<|q8 ?_;refine ql J a (fun _ a=>?_) (fun _ a=>?_)
 ·refine q3r ?_;refine ⟨_,qn a,fun hm=>?_⟩;subst hm;obtain rfl:=qw h;exact ⟨.inr J,_,J,wkA [] [] []⟩
 refine qm<|qe<|Qe [Qs 0,q0,Qs 0,q0,qv 0,q0,q0,q0,q0,q0,qv 0,q0,q0,q0,q0,q0,q0,q0,q0,q0,q0,q0,q0,q0] qg<|U J<|U J<|U J<|O _ J<|U J<|U J<|U J<|O _ J<|U J<|U J<|U J<|O _ J<|q7 a fun bf an a=>qs an J J<|Q9 _ an J<|U J<|U J<|U J<|O _ J<|q7 a fun bg ao a=>qs ao J J<|Q9 _ ao J<|q7 a fun bi ap a=>qs ap J J<|Qv bf ap J J J J J J J J (leb J) J<|q7 a fun bj aq a=>qs aq qd J<|Qv bg aq J J J J J J J J (leb J) J<|q8<|Q1<|U J<|qa J<|qz<|Qq<|Qj<|⟨_,qn a,wkE [] [] [] J ⟨⟨_,J,K2 qd J qt (ltd J)⟩,qk J,qk J,qk J,qk J,trivial⟩ ⟨Qp J J,trivial⟩⟩
theorem qv4 (g : qi→qi→Option Int) (q1F : FuncId) (q1C : List DV) (q1Ok : ∀ (o : qi) (p : qi) (r : Int),g o p = some r→Pure Tryz.prog tab q1F ([.agg (Q7 o),.agg (Q7 p)] ++ q1C) (qf r)) (m : List qi) (b : Int) (h : Int) (r : List qi) (j : q8g g m b h = some r) : K6 Tryz.prog tab 187 [.hs 0 3 0 m.length,q9 b,q9 h,.d (.fn q1F q1C)] [(0,.dat 3 (m.map Q7))] 1 (.d (.tup [])) [(0,.dat 3 (r.map Q7))] 1:=by
 unfold q8g at j;refine Kj Tryz.func187 J qg qg J<|qc<|U J<|qa J<|qx<|qa J<|qx<|U J<|U J<|O _ J<|qa J<|q8<|qe<|qc<|U J<|O _ J<|O _ J<|qa J<|q8<|q7 j fun q aa j=>?_;refine Qo (fun l=>l = q) (fun l=>⟨[(0,.hs 0 3 0 l.length),(3,.d (.fn q1F q1C)),(8,q9 b),(9,q9 0),(10,.d (qf (w64 (h - b))))],[(0,.dat 3 (l.map Q7))],1⟩) qd ?_ ?_
 ·refine Qk (q8h g h b) (fun k=>⟨[(0,.hs 0 3 0 k.2.length),(3,.d (.fn q1F q1C)),(8,q9 b),(9,q9 0),(10,.d (qf (w64 (h - b)))),(11,q9 k.1)],[(0,.dat 3 (k.2.map Q7))],1⟩) _ q aa (wkA [] [] []) ?_;intro k aj c;unfold q8h at c;refine qe<|qc<|U J<|O _ J<|q8 ?_;refine ql J c (fun _ c=>?_) (fun _ c=>?_)
  ·refine qm<|qe<|Qa<|Q1<|U J<|U J<|U J<|U J<|U J<|q7 c fun s ab c=>q7 c fun ak ac c=>?_;have ad:=Ko ac;refine K9 [(0,0)] [(0,0)] _ (.d (.tup [])) 1 [(0,.dat 3 (s.map Q7))] 1 (qkm g q1F q1C q1Ok k.2 k.1 (w64 (h - b)) b s ab)<|qz<|Qq<|Q1<|U J<|O _ J<|qa J<|qz<|⟨_,qn c,wkE [] [] [] J ⟨⟨_,J,K2 (by simp [ad]) J qt (ltd J)⟩,qk J,qk J,qk J,qk J,qk J,trivial⟩ ⟨Qp J J,trivial⟩⟩
  refine Qc ?_;refine ⟨_,qn c,fun hm=>?_⟩;subst hm;exact ⟨_,J,wkA [] [] []⟩
 intro l hb;subst hb;refine qc<|U J<|O _ J<|qa J<|q8<|q7 j fun ae af j=>Qa<|Qk (q8i b g) (fun f=>⟨[(0,.hs 0 3 0 f.2.length),(3,.d (.fn q1F q1C)),(8,q9 b),(9,q9 0),(12,q9 f.1)],[(0,.dat 3 (f.2.map Q7))],1⟩) _ ae af (wkA [] [] []) ?_;intro f al a;unfold q8i at a;refine qe<|qc<|U J<|O _ J<|q8 ?_;refine ql J a (fun _ a=>?_) (fun _ a=>?_)
 ·refine qm<|qe<|Qa<|qe<|Qe [Qs 0,q0,Qs 0,q0,qv 0,q0,q0,q0,qv 0,q0,q0,q0,q0,q0,q0,q0,q0,q0,q0,q0] qg<|U J<|U J<|U J<|U J<|U J<|O _ J<|U J<|U J<|U J<|O _ J<|q7 a fun t u a=>qs u J J<|Q9 _ u J<|U J<|U J<|q7 a fun v x a=>qs x J J<|Q9 _ x J<|q7 a fun am y a=>qs y J J<|Qv t y J J J J J J J J (leb J) J<|q7 a fun an z a=>qs z qd J<|Qv v z J J J J J J J J (leb J) J<|q8<|Q1<|U J<|U J<|U J<|U J<|U J<|q7 a fun n ag a=>q7 a fun ao ah a=>?_;have ai:=Ko ah;refine Ud [(0,0)] [(0,0)] [.hs 0 3 0 f.2.length,q9 0,q9 f.1,q9 b,.d (.fn q1F q1C)] (.d (.tup [])) [(0,.dat 3 (n.map Q7))] [(0,.dat 3 (n.map Q7))] 1 (qkm g q1F q1C q1Ok ((f.2.set b.toNat t).set (w64 (b + f.1)).toNat v) 0 f.1 b n ag) J J J (Yn [(0,0)] [] [] J ⟨⟨_,J,K2 qd J qt (ltd J)⟩,qk J,qk J,qk J,qk J,trivial⟩ ⟨Qp J J,trivial⟩) (Yn [(0,0)] [] [] J ⟨qk J,trivial⟩ ⟨Qp J J,trivial⟩) J ⟨.inl J,trivial⟩<|qz<|Qq<|Q1<|U J<|O _ J<|qa J<|qz<|⟨_,qn a,wkE [] [] [] J ⟨⟨_,J,K2 (by simp [ai]) J qt (ltd J)⟩,qk J,qk J,qk J,qk J,trivial⟩ ⟨Qp J J,trivial⟩⟩
 refine Qc ?_;refine ⟨_,qn a,fun hm=>?_⟩;subst hm;obtain rfl:=qw j;exact ⟨.inl J,_,J,wkA [] [] []⟩
theorem qeh (b : qi→qi→Option Int) (q1F : FuncId) (q1C : List DV) (q1Ok : ∀ (c : qi) (f : qi) (r : Int),b c f = some r→Pure Tryz.prog tab q1F ([.agg (Q7 c),.agg (Q7 f)] ++ q1C) (qf r)) (g : List qi) (h : Int) (j : Int) (k : Int) (r : Int × Int × Int) (a : q3v b g h j k = some r) : K6 Tryz.prog tab 197 [.d (.sl 3 (g.map Q7)),q9 h,q9 j,.ref 0 1 0 0,.d (.fn q1F q1C)] [(0,.dat 1 [[qf k]])] 1 (.d (.tup [qf r.1,qf r.2.1])) [(0,.dat 1 [[qf r.2.2]])] 1:=by
 unfold q3v at a;refine Kj Tryz.func197 J qg qg J<|qc<|qa J<|qa J<|q8<|qe<|qe<|Qe [q0,q0,q0,q0,q0,q0,q0,q0,q0,q0,q0] qg<|U J<|U J<|U J<|q7 a fun l m a=>Qm m J<|O _ J<|U J<|U J<|q7 a fun n o a=>Qm o J<|O _ J<|q7 a fun p q a=>Yw _ (q1Ok l n p q) J J J (.inl J)<|O _ J<|q8 ?_;refine ql J a (fun _ a=>?_) (fun _ a=>?_)
 ·refine qc<|U J<|O _ J<|O _ J<|O _ J<|O _ J<|Qh 0 _ J<|qx<|U J<|U J<|qa J<|qa J<|qu ?_;obtain rfl:=qw a;exact ⟨.inr J,_,J,wkA [] [] []⟩
 refine qm<|qc<|U J<|U J<|qa J<|qa J<|qu ?_;obtain rfl:=qw a;exact ⟨.inr J,_,J,wkA [] [] []⟩
theorem qkj (f : qi→qi→Option Int) (q1F : FuncId) (q1C : List DV) (q1Ok : ∀ (n : qi) (o : qi) (r : Int),f n o = some r→Pure Tryz.prog tab q1F ([.agg (Q7 n),.agg (Q7 o)] ++ q1C) (qf r)) (g : List qi) (j : Int) (k : Int) (l : Int) (m : Int) (r : Int × Int) (a : q5w f g j k l m = some r) : K6 Tryz.prog tab 196 [.d (.sl 3 (g.map Q7)),q9 j,q9 k,q9 l,.ref 0 1 0 0,.d (.fn q1F q1C)] [(0,.dat 1 [[qf m]])] 1 (q9 r.1) [(0,.dat 1 [[qf r.2]])] 1:=by
 unfold q5w at a;refine Kj Tryz.func196 J qg qg J<|qc<|qa J<|qx<|U J<|U J<|U J<|U J<|U J<|q7 a fun b p a=>K9 [(0,0)] [(0,0)] _ (.d (.tup [qf b.1,qf b.2.1])) 1 [(0,.dat 1 [[qf b.2.2]])] 1 (qeh f q1F q1C q1Ok g j k m b p)<|U J<|O _ J<|O _ J<|qa J<|qa J<|qx<|U J<|U J<|U J<|U J<|U J<|q7 a fun c q a=>K9 [(0,0)] [(0,0)] _ (.d (.tup [qf c.1,qf c.2.1])) 1 [(0,.dat 1 [[qf c.2.2]])] 1 (qeh f q1F q1C q1Ok g b.2.1 l b.2.2 c q)<|U J<|O _ J<|O _ J<|qa J<|qa J<|qx<|U J<|U J<|U J<|U J<|U J<|q7 a fun h s a=>K9 [(0,0)] [(0,0)] _ (.d (.tup [qf h.1,qf h.2.1])) 1 [(0,.dat 1 [[qf h.2.2]])] 1 (qeh f q1F q1C q1Ok g b.1 c.1 c.2.2 h s)<|U J<|O _ J<|O _ J ?_;refine qa J<|qa J<|qx<|U J<|qa J<|qu ?_;obtain rfl:=qw a;exact ⟨.inr J,_,J,wkA [] [] []⟩
theorem qef (c : qi→qi→Option Int) (q1F : FuncId) (q1C : List DV) (q1Ok : ∀ (j : qi) (k : qi) (r : Int),c j k = some r→Pure Tryz.prog tab q1F ([.agg (Q7 j),.agg (Q7 k)] ++ q1C) (qf r)) (f : List qi) (a : Int) (g : Int) (r : Int × Int) (b : q3t c f a g = some r) : K6 Tryz.prog tab 195 [.d (.sl 3 (f.map Q7)),q9 a,.ref 0 1 0 0,.d (.fn q1F q1C)] [(0,.dat 1 [[qf g]])] 1 (q9 r.1) [(0,.dat 1 [[qf r.2]])] 1:=by
 unfold q3t at b;refine Kj Tryz.func195 J qg qg J<|qc<|qa J<|qx<|U J<|U J<|O _ J<|U J<|U J<|O _ J<|U J<|U J<|q7 b fun h l b=>K9 [(0,0)] [(0,0)] _ (q9 h.1) 1 [(0,.dat 1 [[qf h.2]])] 1 (qkj c q1F q1C q1Ok f (w64 (a - 1)) a (w64 (a + 1)) g h l)<|qa J<|qu ?_;obtain rfl:=qw b;exact ⟨.inr J,_,J,wkA [] [] []⟩
theorem qv2 (h : List qi) (g : Int) (k : Int) (j : qi→qi→Option Int) (p3F : FuncId) (p3C : List DV) (p3Ok : ∀ (q : qi) (s : qi) (r : Int),j q s = some r→Pure Tryz.prog tab p3F ([.agg (Q7 q),.agg (Q7 s)] ++ p3C) (qf r)) (r : Int × Int) (a : q8f h g k j = some r) : Pure Tryz.prog tab 189 [.sl 3 (h.map Q7),qf g,qf k,.fn p3F p3C] (.tup [qf r.1,qf r.2]):=by
 unfold q8f at a;refine Qt Tryz.func189 J qg qg J<|qc<|qa J<|qa J<|qx<|U J<|U J<|O _ J<|qa J<|qx<|K1 J J<|qx<|U J<|U J<|O _ J<|O _ J<|O _ J<|qa J<|qx<|U J<|U J<|O _ J<|O _ J<|O _ J<|qa J<|qx<|U J<|U J<|O _ J<|O _ J<|O _ J<|qa J<|q8<|qe<|qc<|U J<|O _ J<|q8<|q7 a fun t f a=>?_;refine Y2 (fun l=>l = t) (fun l=>⟨[(11,.ref 0 1 0 0),(13,q9 l.1)],[(0,.dat 1 [[qf l.2]])],1⟩) qd ?_ ?_
 ·refine ql J f (fun _ f=>?_) (fun _ f=>?_)
  ·refine qe<|qc<|U J<|O _ J<|q8<|q7 f fun u b f=>?_;refine Y2 (fun c=>c = u) (fun c=>⟨[(0,.d (.sl 3 (h.map Q7))),(3,.d (.fn p3F p3C)),(11,.ref 0 1 0 0),(12,q9 c.1),(13,q9 c.2.1),(14,q9 c.2.2.1)],[(0,.dat 1 [[qf c.2.2.2]])],1⟩) qd ?_ ?_
   ·refine ql J b (fun _ b=>?_) (fun _ b=>?_)
    ·refine qc<|U J<|U J<|U J<|q7 b fun m v b=>K9 [(0,0)] [(0,0)] _ (q9 m.1) 1 [(0,.dat 1 [[qf m.2]])] 1 (qef j p3F p3C p3Ok h (w64 (g + (w64 ((w64 (Int.tdiv (w64 (k - g)) 4)) * 1)))) 0 m v)<|qa J<|qx<|U J<|U J<|U J<|q7 b fun n x b=>K9 [(0,0)] [(0,0)] _ (q9 n.1) 1 [(0,.dat 1 [[qf n.2]])] 1 (qef j p3F p3C p3Ok h (w64 (g + (w64 ((w64 (Int.tdiv (w64 (k - g)) 4)) * 2)))) m.2 n x)<|qa J<|q8<|Q1<|U J<|U J<|U J<|q7 b fun o y b=>K9 [(0,0)] [(0,0)] _ (q9 o.1) 1 [(0,.dat 1 [[qf o.2]])] 1 (qef j p3F p3C p3Ok h (w64 (g + (w64 ((w64 (Int.tdiv (w64 (k - g)) 4)) * 3)))) n.2 o y)<|qa J<|qz ?_;obtain rfl:=qw b;exact ⟨_,J,wkA [(0,0)] [] []⟩
    refine qm<|Qj ?_;obtain rfl:=qw b;exact ⟨_,J,wkA [(0,0)] [] []⟩
   intro c hb;subst hb;refine Q1<|U J<|U J<|U J<|U J<|U J<|q7 f fun p z f=>K9 [(0,0)] [(0,0)] _ (q9 p.1) 1 [(0,.dat 1 [[qf p.2]])] 1 (qkj j p3F p3C p3Ok h c.1 c.2.1 c.2.2.1 c.2.2.2 p z)<|qa J<|qz ?_;obtain rfl:=qw f;exact ⟨_,J,wkA [(0,0)] [] []⟩
  refine qm<|Qj ?_;obtain rfl:=qw f;exact ⟨_,J,wkA [(0,0)] [] []⟩
 intro l hb;subst hb;refine qc<|O _ J<|q8<|Qa<|qc<|O _ J<|qa J<|q8 ?_;refine ql J a (fun _ a=>?_) (fun _ a=>?_)
 ·refine qc<|U J<|qa J<|qa J<|qu ?_;cases a;exact Q5 _ J
 refine qc<|O _ J<|qa J<|q8 ?_;refine ql J a (fun _ a=>?_) (fun _ a=>?_)
 ·refine qc<|U J<|qa J<|qa J<|qu ?_;cases a;exact Q5 _ J
 refine qc<|U J<|qa J<|qa J<|qu ?_;cases a;exact Q5 _ J
theorem qvi (g : qi→qi→Option Int) (q1F : FuncId) (q1C : List DV) (_q1Ok : ∀ (h : qi) (j : qi) (r : Int),g h j = some r→Pure Tryz.prog tab q1F ([.agg (Q7 h),.agg (Q7 j)] ++ q1C) (qf r)) (f : List qi) (k : Int) (l : Int) (r : List qi) (c : q90 g f k l = some r) : K6 Tryz.prog tab 190 [.hs 0 3 0 f.length,q9 k,q9 l,.d (.fn q1F q1C)] [(0,.dat 3 (f.map Q7))] 1 (.d (.tup [])) [(0,.dat 3 (r.map Q7))] 1:=by
 unfold q90 at c;refine Kj Tryz.func190 J qg qg J<|qc<|U J<|qa J<|qx<|U J<|O _ J<|qa J<|q8<|q7 c fun q s c=>Qa<|Qk (q91) (fun b=>⟨[(0,.hs 0 3 0 b.2.2.length),(8,q9 b.1),(9,q9 b.2.1)],[(0,.dat 3 (b.2.2.map Q7))],1⟩) _ q s (wkA [] [] []) ?_;intro b v a;unfold q91 at a;refine qe<|qc<|U J<|U J<|O _ J<|q8 ?_;refine ql J a (fun _ a=>?_) (fun _ a=>?_)
 ·refine qm<|Qa<|qe<|Qe [Qs 0,q0,Qs 0,q0,qv 0,q0,q0,q0,qv 0,q0,q0,q0,q0,q0,q0,q0] qg<|U J<|U J<|U J<|U J<|U J<|U J<|q7 a fun t m a=>qs m J J<|Q9 _ m J<|U J<|U J<|q7 a fun u n a=>qs n J J<|Q9 _ n J<|q7 a fun x o a=>qs o J J<|Qv t o J J J J J J J J (leb J) J<|q7 a fun y p a=>qs p qd J<|Qv u p J J J J J J J J (leb J) J<|qx<|U J<|O _ J<|qa J<|q8<|Q1<|U J<|O _ J<|qa J<|qz<|Qq<|Qj<|⟨_,qn a,wkE [] [] [] J ⟨⟨_,J,K2 qd J qt (ltd J)⟩,qk J,qk J,trivial⟩ ⟨Qp J J,trivial⟩⟩
 refine Qc ?_;refine ⟨_,qn a,fun hm=>?_⟩;subst hm;obtain rfl:=qw c;exact ⟨.inl J,_,J,wkA [] [] []⟩
theorem qv8 (o : qi→qi→Option Int) (q1F : FuncId) (q1C : List DV) (q1Ok : ∀ (y : qi) (z : qi) (r : Int),o y z = some r→Pure Tryz.prog tab q1F ([.agg (Q7 y),.agg (Q7 z)] ++ q1C) (qf r)) (x : List qi) (j : Int) (g : Int) (r : Bool × List qi) (p : q5x o x j g = some r) : K6 Tryz.prog tab 191 [.hs 0 3 0 x.length,q9 j,q9 g,.d (.fn q1F q1C)] [(0,.dat 3 (x.map Q7))] 1 (Q2 r.1) [(0,.dat 3 (r.2.map Q7))] 1:=by
 unfold q5x at p;refine Kj Tryz.func191 J qg qg J<|qc<|qa J<|qx<|U J<|O _ J<|qa J<|q8<|qe<|qc<|qa J<|q8<|q7 p fun aa bl p=>?_;refine Qo (fun t=>.inl t = aa) (fun t=>⟨[],[(0,.dat 3 (t.map Q7))],1⟩) qd ?_ ?_
 ·refine Qk (q5y g o j) (fun f=>⟨[(0,.hs 0 3 0 f.2.2.length),(1,q9 j),(2,q9 g),(3,.d (.fn q1F q1C)),(9,q9 f.1),(10,q9 f.2.1)],[(0,.dat 3 (f.2.2.map Q7))],1⟩) _ aa bl (wkA [] [] []) ?_;intro f cn k;unfold q5y at k;refine qe<|qc<|U J<|O _ J<|q8 ?_;refine ql J k (fun _ k=>?_) (fun _ k=>?_)
  ·refine qm<|qe<|q7 k fun bm a k=>?_;refine Qo (fun q=>.inl q = bm) (fun q=>⟨[(0,.hs 0 3 0 q.2.length),(1,q9 j),(2,q9 g),(3,.d (.fn q1F q1C)),(9,q9 q.1),(10,q9 f.2.1)],[(0,.dat 3 (q.2.map Q7))],1⟩) qd ?_ ?_
   ·refine qe<|q7 a fun ab bn a=>?_;refine Qo (fun l=>l = ab) (fun l=>⟨[(0,.hs 0 3 0 f.2.2.length),(1,q9 j),(2,q9 g),(3,.d (.fn q1F q1C)),(9,q9 l),(10,q9 f.2.1)],[(0,.dat 3 (f.2.2.map Q7))],1⟩) qd ?_ ?_
    ·refine Qk (q8m g f o) (fun ac=>⟨[(0,.hs 0 3 0 f.2.2.length),(1,q9 j),(2,q9 g),(3,.d (.fn q1F q1C)),(9,q9 ac),(10,q9 f.2.1)],[(0,.dat 3 (f.2.2.map Q7))],1⟩) _ ab bn (wkA [] [] []) ?_;intro ac co m;unfold q8m at m;refine qe<|qe<|Qe [q0,q0,q0,q0,qv 0,q0,q0,q0,q0,qv 0,q0,q0,q0,q0,q0,q0,q0,q0] qg<|U J<|U J<|O _ J<|q7 m fun bo h m=>?_;refine Qf 15 (fun A st=>∃ ad ae af ag ah ai aj ak al am an ao ap aq,st = A [(36,Q2 bo),(35,aq),(34,ap),(33,ao),(32,an),(31,am),(30,al),(29,ak),(28,aj),(27,ai),(26,ah),(25,ag),(24,af),(23,ae),(22,ad)]) ?_ ?_
     ·refine Qg J J h (fun h=>?_) (fun h=>?_)
      ·refine U J<|U J<|U J<|q7 h fun bp ar h=>qs ar J J<|Q9 _ ar J<|U J<|U J<|O _ J<|q7 h fun bq au h=>qs au J J<|Q9 _ au J<|q7 h fun br bs h=>Yw _ (q1Ok bp bq br bs) J J J (.inl J)<|O _ J<|O _ J<|O _ J<|q8 ?_;cases h;exact ⟨_,_,_,_,_,_,_,_,_,_,_,_,_,_,J⟩
      refine qb J<|qb J<|qb J<|qb J<|qb J<|qb J<|qb J<|qb J<|qb J<|qb J<|qb J<|qb J<|qb J<|O _ J<|q8 ?_;cases h;exact ⟨_,_,_,_,_,_,_,_,_,_,_,_,_,_,J⟩
     rintro _ ⟨ad,ae,af,ag,ah,ai,aj,ak,al,am,an,ao,ap,aq,rfl⟩;refine q8 ?_;refine ql J m (fun _ m=>?_) (fun _ m=>?_)
     ·refine qm<|Qa<|Q1<|U J<|O _ J<|qa J<|qz<|Qq<|Qj<|⟨_,qn m,wkA [] [] []⟩
     refine Qc ?_;refine ⟨_,qn m,fun hm=>?_⟩;subst hm;exact ⟨_,J,wkA [] [] []⟩
    intro l hb;subst hb;refine qe<|qc<|U J<|U J<|O _ J<|q8 ?_;refine ql J a (fun _ a=>?_) (fun _ a=>?_)
    ·refine qc<|qa J<|qu ?_;obtain rfl:=qw a;refine ⟨_,qn k,fun hm=>?_⟩;subst hm;obtain rfl:=qw p;exact ⟨.inr J,_,J,wkA [] [] []⟩
    refine qm<|qe<|qc<|U J<|U J<|O _ J<|O _ J<|q8 ?_;refine ql J a (fun _ a=>?_) (fun _ a=>?_)
    ·refine qc<|qa J<|qu ?_;obtain rfl:=qw a;refine ⟨_,qn k,fun hm=>?_⟩;subst hm;obtain rfl:=qw p;exact ⟨.inr J,_,J,wkA [] [] []⟩
    refine qm<|qe<|Qe [Qs 0,q0,Qs 0,q0,qv 0,q0,q0,q0,qv 0,q0,q0,q0,q0,q0,q0,q0,q0,q0] qg<|U J<|U J<|U J<|U J<|O _ J<|U J<|U J<|O _ J<|q7 a fun bt av a=>qs av J J<|Q9 _ av J<|U J<|U J<|q7 a fun bu aw a=>qs aw J J<|Q9 _ aw J<|q7 a fun cp ax a=>qs ax J J<|Qv bt ax J J J J J J J J (leb J) J<|q7 a fun cq ay a=>qs ay qd J<|Qv bu ay J J J J J J J J (leb J) J<|q8<|qe<|qc<|U J<|U J<|O _ J<|O _ J<|q8<|q7 a fun bv n a=>?_;refine Y2 (fun s=>s = bv) (fun s=>⟨[(0,.hs 0 3 0 s.length),(1,q9 j),(2,q9 g),(3,.d (.fn q1F q1C)),(9,q9 l),(10,q9 f.2.1)],[(0,.dat 3 (s.map Q7))],1⟩) qd ?_ ?_
    ·refine ql J n (fun _ n=>?_) (fun _ n=>?_)
     ·refine qc<|U J<|O _ J<|qa J<|q8<|q7 n fun bw bx n=>Qa<|Qk (q8n o) (fun u=>⟨[(0,.hs 0 3 0 u.2.length),(1,q9 j),(2,q9 g),(3,.d (.fn q1F q1C)),(9,q9 l),(10,q9 f.2.1),(11,q9 u.1)],[(0,.dat 3 (u.2.map Q7))],1⟩) _ bw bx (wkE [] [] [] J ⟨⟨_,J,K2 qd J qt (ltd J)⟩,qk J,qk J,qk J,qk J,qk J,qk J,trivial⟩ ⟨Qp J J,trivial⟩) ?_;intro u cr b;unfold q8n at b;refine qe<|qc<|U J<|O _ J<|q8 ?_;refine ql J b (fun _ b=>?_) (fun _ b=>?_)
      ·refine qm<|qe<|Qa<|qe<|qe<|Qe [q0,q0,q0,qv 0,q0,q0,q0,q0,qv 0,q0,q0,q0,q0] qg<|U J<|U J<|U J<|q7 b fun bz az b=>qs az J J<|Q9 _ az J<|U J<|U J<|O _ J<|q7 b fun ca ba b=>qs ba J J<|Q9 _ ba J<|q7 b fun cb cc b=>Yw _ (q1Ok bz ca cb cc) J J J (.inl J)<|O _ J<|O _ J<|q8 ?_;refine ql J b (fun _ b=>?_) (fun _ b=>?_)
       ·refine Qc ?_;refine ⟨_,qn b,fun hm=>?_⟩;subst hm;obtain rfl:=qw n;exact ⟨_,J,wkA [] [] []⟩
       refine qm<|Qe [Qs 0,q0,Qs 0,q0,qv 0,q0,q0,q0,qv 0,q0,q0,q0,q0,q0,q0,q0,q0,q0] qg<|U J<|U J<|U J<|U J<|O _ J<|U J<|U J<|O _ J<|q7 b fun cd bb b=>qs bb J J<|Q9 _ bb J<|U J<|U J<|q7 b fun ce bc b=>qs bc J J<|Q9 _ bc J<|q7 b fun cs bd b=>qs bd J J<|Qv cd bd J J J J J J J J (leb J) J<|q7 b fun ct be b=>qs be qd J<|Qv ce be J J J J J J J J (leb J) J<|qz<|Qq<|Q1<|U J<|O _ J<|qa J<|qz<|⟨_,qn b,wkE [] [] [] J ⟨⟨_,J,K2 qd J qt (ltd J)⟩,qk J,qk J,qk J,qk J,qk J,qk J,trivial⟩ ⟨Qp J J,trivial⟩⟩
      refine Qc ?_;refine ⟨_,qn b,fun hm=>?_⟩;subst hm;obtain rfl:=qw n;exact ⟨_,J,wkA [] [] []⟩
     refine qm<|Qj ?_;obtain rfl:=qw n;exact ⟨_,J,wkE [] [] [] J ⟨⟨_,J,K2 qd J qt (ltd J)⟩,qk J,qk J,qk J,qk J,qk J,trivial⟩ ⟨Qp J J,trivial⟩⟩
    intro s hb;subst hb;refine qc<|U J<|U J<|O _ J<|O _ J<|q8 ?_;refine ql J a (fun _ a=>?_) (fun _ a=>?_)
    ·refine qc<|U J<|O _ J<|qa J<|q8<|q7 a fun cf cg a=>Qa<|Qk (q8o g o l) (fun v=>⟨[(0,.hs 0 3 0 v.2.length),(1,q9 j),(2,q9 g),(3,.d (.fn q1F q1C)),(9,q9 l),(10,q9 f.2.1),(12,q9 v.1)],[(0,.dat 3 (v.2.map Q7))],1⟩) _ cf cg (wkA [] [] []) ?_;intro v cu c;unfold q8o at c;refine qe<|qc<|U J<|U J<|O _ J<|q8 ?_;refine ql J c (fun _ c=>?_) (fun _ c=>?_)
     ·refine qm<|qe<|Qa<|qe<|qe<|Qe [q0,q0,q0,qv 0,q0,q0,q0,q0,qv 0,q0,q0,q0,q0] qg<|U J<|U J<|U J<|q7 c fun ch bf c=>qs bf J J<|Q9 _ bf J<|U J<|U J<|O _ J<|q7 c fun ci bg c=>qs bg J J<|Q9 _ bg J<|q7 c fun cj ck c=>Yw _ (q1Ok ch ci cj ck) J J J (.inl J)<|O _ J<|O _ J<|q8 ?_;refine ql J c (fun _ c=>?_) (fun _ c=>?_)
      ·refine Qc ?_;refine ⟨_,qn c,fun hm=>?_⟩;subst hm;obtain rfl:=qw a;exact ⟨_,J,wkA [] [] []⟩
      refine qm<|Qe [Qs 0,q0,Qs 0,q0,qv 0,q0,q0,q0,qv 0,q0,q0,q0,q0,q0,q0,q0,q0,q0] qg<|U J<|U J<|U J<|U J<|O _ J<|U J<|U J<|O _ J<|q7 c fun cl bh c=>qs bh J J<|Q9 _ bh J<|U J<|U J<|q7 c fun cm bi c=>qs bi J J<|Q9 _ bi J<|q7 c fun cv bj c=>qs bj J J<|Qv cl bj J J J J J J J J (leb J) J<|q7 c fun cw bk c=>qs bk qd J<|Qv cm bk J J J J J J J J (leb J) J<|qz<|Qq<|Q1<|U J<|O _ J<|qa J<|qz<|⟨_,qn c,wkE [] [] [] J ⟨⟨_,J,K2 qd J qt (ltd J)⟩,qk J,qk J,qk J,qk J,qk J,qk J,trivial⟩ ⟨Qp J J,trivial⟩⟩
     refine Qc ?_;refine ⟨_,qn c,fun hm=>?_⟩;subst hm;obtain rfl:=qw a;exact ⟨_,J,wkA [] [] []⟩
    refine qm<|Qj ?_;obtain rfl:=qw a;exact ⟨_,J,wkA [] [] []⟩
   intro q hb;subst hb;refine Q1<|U J<|O _ J<|qa J<|qz<|⟨_,qn k,wkA [] [] []⟩
  refine Qc ?_;refine ⟨_,qn k,fun hm=>?_⟩;subst hm;exact ⟨_,J,wkA [] [] []⟩
 intro t hb;subst hb;refine qc<|qa J<|qu ?_;obtain rfl:=qw p;exact ⟨.inr J,_,J,wkA [] [] []⟩
end Go.Proofs.YtmnfbjlabfeneaaGreat
