/- W_Alla -/
import Derived.Test.YtmnfbjlabfeneaaGreatK14
namespace Go.Proofs.YtmnfbjlabfeneaaGreat
open Go Go.Am Go.Sh
set_option maxHeartbeats 8000000
set_option maxRecDepth 100000
theorem q67 (h : ql) (j : Int) (r : Bool) (a : Ux h j = some r) : Pure Tryz.prog tab 39 [.agg (K4 h),qd j] (.bool r):=by
 unfold Ux at a;refine Qr Tryz.func39 J qh qh J<|qc<|Qp _ _ J<|qa J<|qt<|O _ J<|O _ J<|U J<|O _ J<|O _ J<|q8 a fun c1 b a=>?_;refine Qc 6 (fun A st=>∃ k l m n o,st = A [(15,Q1 c1),(14,o),(13,n),(12,m),(11,l),(10,k)]) ?_ ?_
 ·refine Qd J J b (fun b=>?_) (fun b=>?_)
  ·refine O _ J<|O _ J<|U J<|O _ J<|O _ J<|q9 ?_;cases b;exact ⟨_,_,_,_,_,J⟩
  refine qb J<|qb J<|qb J<|qb J<|O _ J<|q9 ?_;cases b;exact ⟨_,_,_,_,_,J⟩
 rintro _ ⟨k,l,m,n,o,rfl⟩;refine q8 a fun c8 c a=>?_;refine Qc 7 (fun A st=>∃ p q s t u v,st = A [(22,Q1 c8),(21,v),(20,u),(19,t),(18,s),(17,q),(16,p)]) ?_ ?_
 ·refine Qd J J c (fun c=>?_) (fun c=>?_)
  ·refine O _ J<|O _ J<|U J<|O _ J<|O _ J<|O _ J<|q9 ?_;cases c;exact ⟨_,_,_,_,_,_,J⟩
  refine qb J<|qb J<|qb J<|qb J<|qb J<|O _ J<|q9 ?_;cases c;exact ⟨_,_,_,_,_,_,J⟩
 rintro _ ⟨p,q,s,t,u,v,rfl⟩;refine q8 a fun ap d a=>?_;refine Qc 6 (fun A st=>∃ x y z aa ab,st = A [(28,Q1 ap),(27,ab),(26,aa),(25,z),(24,y),(23,x)]) ?_ ?_
 ·refine Qd J J d (fun d=>?_) (fun d=>?_)
  ·refine O _ J<|O _ J<|U J<|O _ J<|O _ J<|q9 ?_;cases d;exact ⟨_,_,_,_,_,J⟩
  refine qb J<|qb J<|qb J<|qb J<|O _ J<|q9 ?_;cases d;exact ⟨_,_,_,_,_,J⟩
 rintro _ ⟨x,y,z,aa,ab,rfl⟩;refine q8 a fun aq f a=>?_;refine Qc 7 (fun A st=>∃ ac ad ae af ag ah,st = A [(35,Q1 aq),(34,ah),(33,ag),(32,af),(31,ae),(30,ad),(29,ac)]) ?_ ?_
 ·refine Qd J J f (fun f=>?_) (fun f=>?_)
  ·refine O _ J<|O _ J<|U J<|O _ J<|O _ J<|O _ J<|q9 ?_;cases f;exact ⟨_,_,_,_,_,_,J⟩
  refine qb J<|qb J<|qb J<|qb J<|qb J<|O _ J<|q9 ?_;cases f;exact ⟨_,_,_,_,_,_,J⟩
 rintro _ ⟨ac,ad,ae,af,ag,ah,rfl⟩;refine q8 a fun ar g a=>?_;refine Qc 6 (fun A st=>∃ ai aj ak al am,st = A [(41,Q1 ar),(40,am),(39,al),(38,ak),(37,aj),(36,ai)]) ?_ ?_
 ·refine Qd J J g (fun g=>?_) (fun g=>?_)
  ·refine O _ J<|O _ J<|U J<|O _ J<|O _ J<|q9 ?_;cases g;exact ⟨_,_,_,_,_,J⟩
  refine qb J<|qb J<|qb J<|qb J<|O _ J<|q9 ?_;cases g;exact ⟨_,_,_,_,_,J⟩
 rintro _ ⟨ai,aj,ak,al,am,rfl⟩;refine qa J<|qv ?_;cases a;exact Q8 _ J
theorem qwg (f : List qg) (r : Bool) (b : q9a f = some r) : Pure Tryz.prog tab 11 [.sl 6 (f.map Q6)] (.bool r):=by
 unfold q9a at b;refine Qr Tryz.func11 J qh qh J<|qc<|qa J<|q9<|qf<|qc<|U J<|Qx J<|O _ J<|q9 ?_;refine qo J b (fun _ b=>?_) (fun _ b=>?_)
 ·refine qc<|U J<|Qx J<|O _ J<|qa J<|qv ?_;cases b;exact Q8 _ J
 refine qm<|qf<|qc<|qa J<|q9<|q8 b fun h t b=>?_;refine Qn (fun g=>.inl g = h) (fun g=>⟨[(0,.d (.sl 6 (f.map Q6)))],[],0⟩) qe ?_ ?_
 ·refine Qj (q68 f) (fun j=>⟨[(0,.d (.sl 6 (f.map Q6))),(3,q7 j)],[],0⟩) _ h t (wkA [] [] []) ?_;intro j ae a;unfold q68 at a;refine qf<|qc<|U J<|U J<|Qx J<|O _ J<|q9 ?_;refine qo J a (fun _ a=>?_) (fun _ a=>?_)
  ·refine qm<|qf<|Q7<|qc<|U J<|U J<|q8 a fun u v a=>Ql v J<|O _ J<|O _ J<|q8 a fun x y a=>Q5 (q67 u.Lo 9 x y) J<|O _ J<|q8 a fun z c a=>?_;refine Qc 9 (fun A st=>∃ k l m n o p q s,st = A [(31,Q1 z),(30,s),(29,q),(28,p),(27,o),(26,n),(25,m),(24,l),(23,k)]) ?_ ?_
   ·refine Qd J J c (fun c=>?_) (fun c=>?_)
    ·refine qb J<|qb J<|qb J<|qb J<|qb J<|qb J<|qb J<|O _ J<|q9 ?_;cases c;exact ⟨_,_,_,_,_,_,_,_,J⟩
    refine U J<|U J<|q8 c fun aa ab c=>Ql ab J<|O _ J<|O _ J<|q8 c fun ac ad c=>Q5 (q67 aa.Hi 9 ac ad) J<|O _ J<|O _ J<|q9 ?_;cases c;exact ⟨_,_,_,_,_,_,_,_,J⟩
   rintro _ ⟨k,l,m,n,o,p,q,s,rfl⟩;refine q9 ?_;refine qo J a (fun _ a=>?_) (fun _ a=>?_)
   ·refine qc<|qa J<|qv ?_;refine ⟨_,qq a,fun hm=>?_⟩;subst hm;cases b;exact Q8 _ J
   refine qm<|Qk<|Qq<|Q3<|U J<|O _ J<|qa J<|qz<|⟨_,qq a,wkA [] [] []⟩
  refine Qh ?_;refine ⟨_,qq a,fun hm=>?_⟩;subst hm;exact ⟨_,J,wkA [] [] []⟩
 intro g hb;subst hb;refine qc<|U J<|Qx J<|O _ J<|qa J<|qv ?_;cases b;exact Q8 _ J
theorem qz4 (b : List qg) (f : qg→Option Bool) (p1F : FuncId) (p1C : List DV) (p1Ok : ∀ (h : qg) (r : Bool),f h = some r→Pure Tryz.prog tab p1F ([.agg (Q6 h)] ++ p1C) (.bool r)) (r : Int) (c : q6q b f = some r) : Pure Tryz.prog tab 111 [.sl 6 (b.map Q6),.fn p1F p1C] (qd r):=by
 unfold q6q at c;refine Qr Tryz.func111 J qh qh J<|qc<|qa J<|q9<|qf<|qc<|U J<|Qx J<|U J<|q9<|q8 c fun j l c=>?_;refine Qn (fun g=>.inl g = j) (fun g=>⟨[],[],0⟩) qe ?_ ?_
 ·refine Qj (Jh b f) (fun k=>⟨[(0,.d (.sl 6 (b.map Q6))),(1,.d (.fn p1F p1C)),(7,q7 (b.length : Int)),(8,q7 k)],[],0⟩) _ j l (wkA [] [] []) ?_;intro k q a;unfold Jh at a;refine qc<|O _ J<|q9<|qf ?_;refine qo J a (fun _ a=>?_) (fun _ a=>?_)
  ·refine qm<|qf<|Q7<|qc<|U J<|qa J<|qt<|U J<|U J<|U J<|q8 a fun m n a=>Ql n J<|O _ J<|q8 a fun o p a=>Yu _ (p1Ok m o p) J J J (.inl J)<|q9 ?_;refine qo J a (fun _ a=>?_) (fun _ a=>?_)
   ·refine qc<|U J<|qa J<|qv ?_;refine ⟨_,qq a,fun hm=>?_⟩;subst hm;cases c;exact Q8 _ J
   refine qm<|Qk<|Qq<|Q3<|O _ J<|U J<|qz<|⟨_,qq a,wkA [] [] []⟩
  refine Qh ?_;refine ⟨_,qq a,fun hm=>?_⟩;subst hm;exact ⟨_,J,wkA [] [] []⟩
 intro g hb;subst hb;refine qc<|qa J<|qv ?_;cases c;exact Q8 _ J
theorem qd5 (b : List qg) (c : qg→Option Bool) (p1F : FuncId) (p1C : List DV) (p1Ok : ∀ (d : qg) (r : Bool),c d = some r→Pure Tryz.prog tab p1F ([.agg (Q6 d)] ++ p1C) (.bool r)) (r : Bool) (a : Ud b c = some r) : Pure Tryz.prog tab 78 [.sl 6 (b.map Q6),.fn p1F p1C] (.bool r):=by
 unfold Ud at a;refine Qr Tryz.func78 J qh qh J<|qc<|qa J<|qt<|U J<|U J<|q8 a fun f g a=>Q5 (qz4 b c p1F p1C p1Ok f g) J<|O _ J<|qa J<|qv ?_;cases a;exact Q8 _ J
theorem qnv (a : ql) (r : Bool) (c : q7q a = some r) : Pure Tryz.prog tab 116 [.agg (K4 a)] (.bool r):=by
 unfold q7q at c;refine Qr Tryz.func116 J qh qh J<|qc<|Qp _ _ J<|qa J<|qt<|O _ J<|O _ J<|O _ J<|O _ J<|O _ J<|O _ J<|q43 (r:=min (min a.X a.Y) a.Z) J J (by simp only [q40];rfl)<|O _ J<|q8 c fun o b c=>?_;refine Qc 10 (fun A st=>∃ d f g h j k l m n,st = A [(20,Q1 o),(19,n),(18,m),(17,l),(16,k),(15,j),(14,h),(13,g),(12,f),(11,d)]) ?_ ?_
 ·refine Qd J J b (fun b=>?_) (fun b=>?_)
  ·refine O _ J<|O _ J<|O _ J<|O _ J<|O _ J<|O _ J<|q42 (r:=max (max a.X a.Y) a.Z) J J (by simp only [q3z];rfl)<|O _ J<|O _ J<|q9 ?_;cases b;exact ⟨_,_,_,_,_,_,_,_,_,J⟩
  refine qb J<|qb J<|qb J<|qb J<|qb J<|qb J<|qb J<|qb J<|O _ J<|q9 ?_;cases b;exact ⟨_,_,_,_,_,_,_,_,_,J⟩
 rintro _ ⟨d,f,g,h,j,k,l,m,n,rfl⟩;refine qa J<|qv ?_;cases c;exact Q8 _ J
theorem q124 (g : qg) (r : Bool) (a : qai g = some r) : Pure Tryz.prog tab 101 [.agg (Q6 g)] (.bool r):=by
 unfold qai at a;refine Qr Tryz.func101 J qh qh J<|qc<|Qp _ _ J<|qa J<|qt<|O _ J<|O _ J<|O _ J<|O _ J<|O _ J<|O _ J<|O _ J<|q8 a fun c1 d a=>?_;refine Qc 9 (fun A st=>∃ h j k l m n o p,st = A [(18,Q1 c1),(17,p),(16,o),(15,n),(14,m),(13,l),(12,k),(11,j),(10,h)]) ?_ ?_
 ·refine Qd J J d (fun d=>?_) (fun d=>?_)
  ·refine O _ J<|O _ J<|O _ J<|O _ J<|O _ J<|O _ J<|O _ J<|O _ J<|q9 ?_;cases d;exact ⟨_,_,_,_,_,_,_,_,J⟩
  refine qb J<|qb J<|qb J<|qb J<|qb J<|qb J<|qb J<|O _ J<|q9 ?_;cases d;exact ⟨_,_,_,_,_,_,_,_,J⟩
 rintro _ ⟨h,j,k,l,m,n,o,p,rfl⟩;refine q8 a fun aj f a=>?_;refine Qc 9 (fun A st=>∃ q s t u v x y z,st = A [(27,Q1 aj),(26,z),(25,y),(24,x),(23,v),(22,u),(21,t),(20,s),(19,q)]) ?_ ?_
 ·refine Qd J J f (fun f=>?_) (fun f=>?_)
  ·refine O _ J<|O _ J<|O _ J<|O _ J<|O _ J<|O _ J<|O _ J<|O _ J<|q9 ?_;cases f;exact ⟨_,_,_,_,_,_,_,_,J⟩
  refine qb J<|qb J<|qb J<|qb J<|qb J<|qb J<|qb J<|O _ J<|q9 ?_;cases f;exact ⟨_,_,_,_,_,_,_,_,J⟩
 rintro _ ⟨q,s,t,u,v,x,y,z,rfl⟩;refine q8 a fun ak b a=>?_;refine Qc 5 (fun A st=>∃ aa ab ac ad,st = A [(32,Q1 ak),(31,ad),(30,ac),(29,ab),(28,aa)]) ?_ ?_
 ·refine Qd J J b (fun b=>?_) (fun b=>?_)
  ·refine O _ J<|O _ J<|q8 b fun al am b=>Q5 (qnv g.Lo al am) J<|O _ J<|q9 ?_;cases b;exact ⟨_,_,_,_,J⟩
  refine qb J<|qb J<|qb J<|O _ J<|q9 ?_;cases b;exact ⟨_,_,_,_,J⟩
 rintro _ ⟨aa,ab,ac,ad,rfl⟩;refine q8 a fun an c a=>?_;refine Qc 5 (fun A st=>∃ ae af ag ah,st = A [(37,Q1 an),(36,ah),(35,ag),(34,af),(33,ae)]) ?_ ?_
 ·refine Qd J J c (fun c=>?_) (fun c=>?_)
  ·refine O _ J<|O _ J<|q8 c fun ao ap c=>Q5 (qnv g.Hi ao ap) J<|O _ J<|q9 ?_;cases c;exact ⟨_,_,_,_,J⟩
  refine qb J<|qb J<|qb J<|O _ J<|q9 ?_;cases c;exact ⟨_,_,_,_,J⟩
 rintro _ ⟨ae,af,ag,ah,rfl⟩;refine qa J<|qv ?_;cases a;exact Q8 _ J
theorem q11t (b : qg) (r : Bool) (a : q38 b = some r) : Pure Tryz.prog tab 100 [.agg (Q6 b)] (.bool r):=by
 unfold q38 at a;refine Qr Tryz.func100 J qh qh J<|qc<|Qp _ _ J<|qa J<|qt<|O _ J<|q8 a fun c d a=>Q5 (q124 b c d) J<|O _ J<|qa J<|qv ?_;cases a;exact Q8 _ J
theorem qtm (k : Int) (r : Int) (a : q2r k = some r) : Pure Tryz.prog tab 167 [.int .u64 k] (qd r):=by
 unfold q2r at a;refine Qr Tryz.func167 J qh qh J<|qc<|qa J<|q9<|qf<|qc<|U J<|O _ J<|q9<|q8 a fun l b a=>?_;refine Yn (fun c=>c = l) (fun c=>⟨[(0,.d (.int .u64 c.1)),(2,q7 c.2)],[],0⟩) qe ?_ ?_
 ·refine qo J b (fun _ b=>?_) (fun _ b=>?_)
  ·refine qc<|U J<|O _ J<|qa J<|q9<|Q3<|qa J<|qz ?_;obtain rfl:=qu b;exact ⟨_,J,wkA [] [] []⟩
  refine qm<|Qk ?_;obtain rfl:=qu b;exact ⟨_,J,wkA [] [] []⟩
 intro c hb;subst hb;refine qf<|qc<|U J<|O _ J<|q9<|q8 a fun m f a=>?_;refine Yn (fun g=>g = m) (fun g=>⟨[(0,.d (.int .u64 g.1)),(2,q7 g.2)],[],0⟩) qe ?_ ?_
 ·refine qo J f (fun _ f=>?_) (fun _ f=>?_)
  ·refine qc<|U J<|O _ J<|qa J<|q9<|Q3<|U J<|O _ J<|qa J<|qz ?_;obtain rfl:=qu f;exact ⟨_,J,wkA [] [] []⟩
  refine qm<|Qk ?_;obtain rfl:=qu f;exact ⟨_,J,wkA [] [] []⟩
 intro g hb;subst hb;refine qf<|qc<|U J<|O _ J<|q9<|q8 a fun n h a=>?_;refine Yn (fun j=>j = n) (fun j=>⟨[(0,.d (.int .u64 j.1)),(2,q7 j.2)],[],0⟩) qe ?_ ?_
 ·refine qo J h (fun _ h=>?_) (fun _ h=>?_)
  ·refine qc<|U J<|O _ J<|qa J<|q9<|Q3<|U J<|O _ J<|qa J<|qz ?_;obtain rfl:=qu h;exact ⟨_,J,wkA [] [] []⟩
  refine qm<|Qk ?_;obtain rfl:=qu h;exact ⟨_,J,wkA [] [] []⟩
 intro j hb;subst hb;refine qc<|U J<|U J<|O _ J<|q8 a fun p o a=>quc qdl o J J J J J<|O _ J<|O _ J<|qa J<|qv ?_;cases a;exact Q8 _ J
theorem qfy (b : Int) (r : Int) (a : Uw b = some r) : Pure Tryz.prog tab 147 [.int .u64 b] (qd r):=by
 unfold Uw at a;refine Qr Tryz.func147 J qh qh J<|qc<|qa J<|q9<|qf<|Z8 J<|qm<|qc<|U J<|q8 a fun c d a=>Q5 (qtm b c d) J<|qa J<|qv ?_;cases a;exact Q8 _ J
theorem qij (a : Int) (r : Bool) (b : q8e a = some r) : Pure Tryz.prog tab 181 [qd a] (.bool r):=by
 unfold q8e at b;refine Qr Tryz.func181 J qh qh J<|qc<|qa J<|qt<|U J<|U J<|O _ J<|qa J<|qv ?_;cases b;exact Q8 _ J
theorem Zq (d : Int) (f : Int) (r : Bool) (a : Z5 d f = some r) : Pure Tryz.prog tab 163 [qd d,qd f] (.bool r):=by
 unfold Z5 at a;refine Qr Tryz.func163 J qh qh J<|qc<|qa J<|qt<|U J<|q8 a fun p q a=>Q5 (qij d p q) J<|q8 a fun s b a=>?_;refine Qc 5 (fun A st=>∃ g h j k,st = A [(11,Q1 s),(10,k),(9,j),(8,h),(7,g)]) ?_ ?_
 ·refine Qd J J b (fun b=>?_) (fun b=>?_)
  ·refine U J<|q8 b fun t u b=>Q5 (qij f t u) J<|O _ J<|O _ J<|q9 ?_;cases b;exact ⟨_,_,_,_,J⟩
  refine qb J<|qb J<|qb J<|O _ J<|q9 ?_;cases b;exact ⟨_,_,_,_,J⟩
 rintro _ ⟨g,h,j,k,rfl⟩;refine q8 a fun v c a=>?_;refine Qc 5 (fun A st=>∃ l m n o,st = A [(16,Q1 v),(15,o),(14,n),(13,m),(12,l)]) ?_ ?_
 ·refine Qd J J c (fun c=>?_) (fun c=>?_)
  ·refine qb J<|qb J<|qb J<|O _ J<|q9 ?_;cases c;exact ⟨_,_,_,_,J⟩
  refine U J<|U J<|O _ J<|O _ J<|q9 ?_;cases c;exact ⟨_,_,_,_,J⟩
 rintro _ ⟨l,m,n,o,rfl⟩;refine qa J<|qv ?_;cases a;exact Q8 _ J
theorem qzf (m : List Int) (f : Int) (g : Int) (r : List Int) (k : q6y  m f g = some r) : K6 Tryz.prog tab 157 [.hs 0 1 0 m.length,q7 f,q7 g] [(0,.dat 1 (m.map (eI .i64)))] 1 (.d (.tup [])) [(0,.dat 1 (r.map (eI .i64)))] 1:=by
 unfold q6y at k;refine Kn Tryz.func157 J qh qh J<|qc<|U J<|O _ J<|qa J<|q9<|q8 k fun aj ak k=>Q7<|Qj (q6z g f) (fun h=>⟨[(0,.hs 0 1 0 h.2.length),(1,q7 f),(2,q7 g),(6,q7 h.1)],[(0,.dat 1 (h.2.map (eI .i64)))],1⟩) _ aj ak (wkA [] [] []) ?_;intro h av c;unfold q6z at c;refine qf<|qc<|U J<|U J<|O _ J<|q9 ?_;refine qo J c (fun _ c=>?_) (fun _ c=>?_)
 ·refine qm<|qf<|q8 c fun al n c=>?_;refine Qn (fun j=>j = al) (fun j=>⟨[(0,.hs 0 1 0 j.length),(1,q7 f),(2,q7 g),(6,q7 h.1)],[(0,.dat 1 (j.map (eI .i64)))],1⟩) qe ?_ ?_
  ·refine qc<|U J<|qa J<|q9<|q8 n fun am an n=>Q7<|Qj (q70 f) (fun l=>⟨[(0,.hs 0 1 0 l.2.length),(1,q7 f),(2,q7 g),(6,q7 h.1),(7,q7 l.1)],[(0,.dat 1 (l.2.map (eI .i64)))],1⟩) _ am an (wkA [] [] []) ?_;intro l aw a;unfold q70 at a;refine qf<|qf<|Qm [q6,q6,qx 0,q6,q6,q6,q6,qx 0,q6,q6,q6,q6,q6,q6,q6] qh<|U J<|U J<|O _ J<|q8 a fun ao b a=>?_;refine Qc 12 (fun A st=>∃ o p q s t u v x y z aa,st = A [(30,Q1 ao),(29,aa),(28,z),(27,y),(26,x),(25,v),(24,u),(23,t),(22,s),(21,q),(20,p),(19,o)]) ?_ ?_
   ·refine Qd J J b (fun b=>?_) (fun b=>?_)
    ·refine U J<|U J<|q8 b fun ap ab b=>Q2 ab J J<|Qg _ ab J<|U J<|U J<|O _ J<|q8 b fun aq ac b=>Q2 ac J J<|Qg _ ac J<|q8 b fun ar au b=>Q5 (Zq ap aq ar au) J<|O _ J<|q9 ?_;cases b;exact ⟨_,_,_,_,_,_,_,_,_,_,_,J⟩
    refine qb J<|qb J<|qb J<|qb J<|qb J<|qb J<|qb J<|qb J<|qb J<|qb J<|O _ J<|q9 ?_;cases b;exact ⟨_,_,_,_,_,_,_,_,_,_,_,J⟩
   rintro _ ⟨o,p,q,s,t,u,v,x,y,z,aa,rfl⟩;refine q9 ?_;refine qo J a (fun _ a=>?_) (fun _ a=>?_)
   ·refine qm<|qf<|Q7<|Qm [Qu 0,q6,Qu 0,q6,qx 0,q6,q6,q6,qx 0,q6,q6,q6,q6,q6,q6,q6,q6,q6] qh<|U J<|U J<|U J<|U J<|O _ J<|U J<|U J<|O _ J<|q8 a fun ad ae a=>Q2 ae J J<|Qg _ ae J<|U J<|U J<|q8 a fun af ag a=>Q2 ag J J<|Qg _ ag J<|q8 a fun ax ah a=>Q2 ah J J<|K0 (ds:=[qd ad]) ad ah J J J J J J J J (leb J) J<|q8 a fun ay ai a=>Q2 ai qe J<|K0 (ds:=[qd af]) af ai J J J J J J J J (leb J) J<|qz<|Qq<|Q3<|U J<|O _ J<|qa J<|qz<|⟨_,qq a,wkE [] [] [] J ⟨⟨_,J,K3 qe J qw (ltd J)⟩,qp J,qp J,qp J,qp J,trivial⟩ ⟨Qo J J,trivial⟩⟩
   refine Qh ?_;refine ⟨_,qq a,fun hm=>?_⟩;subst hm;obtain rfl:=qu n;exact ⟨_,J,wkA [] [] []⟩
  intro j hb;subst hb;refine Q3<|U J<|O _ J<|qa J<|qz<|⟨_,qq c,wkA [] [] []⟩
 refine Qh ?_;refine ⟨_,qq c,fun hm=>?_⟩;subst hm;obtain rfl:=qu k;exact ⟨.inl J,_,J,wkA [] [] []⟩
theorem qno (l : List Int) (m : Int) (f : Int) (g : Int) (r : List Int) (h : q4t  l m f g = some r) : K6 Tryz.prog tab 176 [.hs 0 1 0 l.length,q7 m,q7 f,q7 g] [(0,.dat 1 (l.map (eI .i64)))] 1 (.d (.tup [])) [(0,.dat 1 (r.map (eI .i64)))] 1:=by
 unfold q4t at h;refine Kn Tryz.func176 J qh qh J<|qc<|U J<|qa J<|q9<|q8 h fun ao ap h=>Q7<|Qj (q7m f g) (fun c=>⟨[(0,.hs 0 1 0 c.2.length),(2,q7 f),(3,q7 g),(8,q7 c.1)],[(0,.dat 1 (c.2.map (eI .i64)))],1⟩) _ ao ap (wkA [] [] []) ?_;intro c bc a;unfold q7m at a;refine Q7<|qc<|U J<|O _ J<|O _ J<|qa J<|q9<|qf<|qc<|U J<|U J<|O _ J<|q9 ?_;refine qo J a (fun _ a=>?_) (fun _ a=>?_)
 ·refine Qh ?_;refine ⟨_,qq a,fun hm=>?_⟩;subst hm;obtain rfl:=qu h;exact ⟨.inl J,_,J,wkA [] [] []⟩
 refine qm<|qf<|qf<|Qm [q6,q6,qx 0,q6,q6,q6,q6,q6,q6,qx 0,q6,q6,q6,q6,q6,q6,q6,q6,q6,q6] qh<|U J<|O _ J<|U J<|O _ J<|q8 a fun aq b a=>?_;refine Qc 16 (fun A st=>∃ n o p q s t u v x y z aa ab ac ad,st = A [(36,Q1 aq),(35,ad),(34,ac),(33,ab),(32,aa),(31,z),(30,y),(29,x),(28,v),(27,u),(26,t),(25,s),(24,q),(23,p),(22,o),(21,n)]) ?_ ?_
 ·refine Qd J J b (fun b=>?_) (fun b=>?_)
  ·refine U J<|U J<|U J<|O _ J<|q8 b fun ar ae b=>Q2 ae J J<|Qg _ ae J<|U J<|U J<|U J<|O _ J<|O _ J<|q8 b fun au af b=>Q2 af J J<|Qg _ af J<|q8 b fun av aw b=>Q5 (Zq ar au av aw) J<|O _ J<|q9 ?_;cases b;exact ⟨_,_,_,_,_,_,_,_,_,_,_,_,_,_,_,J⟩
  refine qb J<|qb J<|qb J<|qb J<|qb J<|qb J<|qb J<|qb J<|qb J<|qb J<|qb J<|qb J<|qb J<|qb J<|O _ J<|q9 ?_;cases b;exact ⟨_,_,_,_,_,_,_,_,_,_,_,_,_,_,_,J⟩
 rintro _ ⟨n,o,p,q,s,t,u,v,x,y,z,aa,ab,ac,ad,rfl⟩;refine q9<|q8 a fun ax j a=>?_;refine Yn (fun k=>k = ax) (fun k=>⟨[(0,.hs 0 1 0 c.2.length),(2,q7 f),(3,q7 g),(8,q7 c.1),(9,q7 k)],[(0,.dat 1 (c.2.map (eI .i64)))],1⟩) qe ?_ ?_
 ·refine qo J j (fun _ j=>?_) (fun _ j=>?_)
  ·refine Q3<|U J<|O _ J<|qa J<|qz ?_;obtain rfl:=qu j;exact ⟨_,J,wkA [] [] []⟩
  refine qm<|Qk ?_;obtain rfl:=qu j;exact ⟨_,J,wkA [] [] []⟩
 intro k hb;subst hb;refine qf<|qf<|Qm [q6,q6,qx 0,q6,q6,q6,q6,q6,qx 0,q6,q6,q6,q6,q6] qh<|U J<|U J<|U J<|O _ J<|q8 a fun ay ag a=>Q2 ag J J<|Qg _ ag J<|U J<|U J<|U J<|O _ J<|q8 a fun az ah a=>Q2 ah J J<|Qg _ ah J<|q8 a fun ba bb a=>Q5 (Zq ay az ba bb) J<|O _ J<|q9 ?_;refine qo J a (fun _ a=>?_) (fun _ a=>?_)
 ·refine q1t ?_;refine ⟨_,qq a,fun hm=>?_⟩;subst hm;obtain rfl:=qu h;exact ⟨.inr J,_,J,wkA [] [] []⟩
 refine qm<|qf<|Qm [Qu 0,q6,Qu 0,q6,qx 0,q6,q6,q6,q6,q6,qx 0,q6,q6,q6,q6,q6,q6,q6,q6,q6,q6,q6,q6,q6] qh<|U J<|U J<|U J<|O _ J<|U J<|U J<|U J<|O _ J<|U J<|U J<|U J<|O _ J<|q8 a fun ai aj a=>Q2 aj J J<|Qg _ aj J<|U J<|U J<|U J<|O _ J<|q8 a fun ak al a=>Q2 al J J<|Qg _ al J<|q8 a fun bd am a=>Q2 am J J<|K0 (ds:=[qd ai]) ai am J J J J J J J J (leb J) J<|q8 a fun be an a=>Q2 an qe J<|K0 (ds:=[qd ak]) ak an J J J J J J J J (leb J) J<|q9<|Q3<|U J<|qa J<|qz<|Qq<|Qk<|⟨_,qq a,wkE [] [] [] J ⟨⟨_,J,K3 qe J qw (ltd J)⟩,qp J,qp J,qp J,trivial⟩ ⟨Qo J J,trivial⟩⟩
theorem qzd (l : List Int) (b : Int) (g : Int) (r : List Int) (h : q6v  l b g = some r) : K6 Tryz.prog tab 158 [.hs 0 1 0 l.length,q7 b,q7 g] [(0,.dat 1 (l.map (eI .i64)))] 1 (.d (.tup [])) [(0,.dat 1 (r.map (eI .i64)))] 1:=by
 unfold q6v at h;refine Kn Tryz.func158 J qh qh J<|qc<|U J<|qa J<|qt<|qa J<|qt<|U J<|U J<|O _ J<|qa J<|q9<|qf<|qc<|U J<|O _ J<|O _ J<|qa J<|q9<|q8 h fun p x h=>?_;refine Qn (fun k=>k = p) (fun k=>⟨[(0,.hs 0 1 0 k.length),(6,q7 b),(7,q7 0),(8,.d (qd (w64 (g - b))))],[(0,.dat 1 (k.map (eI .i64)))],1⟩) qe ?_ ?_
 ·refine Qj (q6w g b) (fun j=>⟨[(0,.hs 0 1 0 j.2.length),(6,q7 b),(7,q7 0),(8,.d (qd (w64 (g - b)))),(9,q7 j.1)],[(0,.dat 1 (j.2.map (eI .i64)))],1⟩) _ p x (wkA [] [] []) ?_;intro j ag c;unfold q6w at c;refine qf<|qc<|U J<|O _ J<|q9 ?_;refine qo J c (fun _ c=>?_) (fun _ c=>?_)
  ·refine qm<|qf<|Q7<|Q3<|U J<|U J<|U J<|U J<|q8 c fun q y c=>q8 c fun ah z c=>?_;have aa:=Kh z;refine K7 [(0,0)] [(0,0)] _ (.d (.tup [])) 1 [(0,.dat 1 (q.map (eI .i64)))] 1 (qno j.2 j.1 (w64 (g - b)) b q y)<|qz<|Qq<|Q3<|U J<|O _ J<|qa J<|qz<|⟨_,qq c,wkE [] [] [] J ⟨⟨_,J,K3 (by simp [aa]) J qw (ltd J)⟩,qp J,qp J,qp J,qp J,trivial⟩ ⟨Qo J J,trivial⟩⟩
  refine Qh ?_;refine ⟨_,qq c,fun hm=>?_⟩;subst hm;exact ⟨_,J,wkA [] [] []⟩
 intro k hb;subst hb;refine qc<|U J<|O _ J<|qa J<|q9<|q8 h fun ab ac h=>Q7<|Qj (q6x b) (fun f=>⟨[(0,.hs 0 1 0 f.2.length),(6,q7 b),(7,q7 0),(10,q7 f.1)],[(0,.dat 1 (f.2.map (eI .i64)))],1⟩) _ ab ac (wkA [] [] []) ?_;intro f ai a;unfold q6x at a;refine qf<|qc<|U J<|O _ J<|q9 ?_;refine qo J a (fun _ a=>?_) (fun _ a=>?_)
 ·refine qm<|qf<|Q7<|qf<|Qm [Qu 0,q6,Qu 0,q6,qx 0,q6,q6,q6,qx 0,q6,q6,q6,q6,q6,q6,q6,q6,q6,q6,q6] qh<|U J<|U J<|U J<|U J<|U J<|O _ J<|U J<|U J<|U J<|O _ J<|q8 a fun m s a=>Q2 s J J<|Qg _ s J<|U J<|U J<|q8 a fun n t a=>Q2 t J J<|Qg _ t J<|q8 a fun aj u a=>Q2 u J J<|K0 (ds:=[qd m]) m u J J J J J J J J (leb J) J<|q8 a fun ak v a=>Q2 v qe J<|K0 (ds:=[qd n]) n v J J J J J J J J (leb J) J<|q9<|Q3<|U J<|U J<|U J<|U J<|q8 a fun o ad a=>q8 a fun al ae a=>?_;have af:=Kh ae;refine Jz [(0,0)] [(0,0)] [.hs 0 1 0 f.2.length,q7 0,q7 f.1,q7 b] (.d (.tup [])) [(0,.dat 1 (o.map (eI .i64)))] [(0,.dat 1 (o.map (eI .i64)))] 1 (qno ((f.2.set b.toNat m).set (w64 (b + f.1)).toNat n) 0 f.1 b o ad) J J J (Yh [(0,0)] [] [] J ⟨⟨_,J,K3 qe J qw (ltd J)⟩,qp J,qp J,qp J,trivial⟩ ⟨Qo J J,trivial⟩) (Yh [(0,0)] [] [] J ⟨qp J,trivial⟩ ⟨Qo J J,trivial⟩) J ⟨.inl J,trivial⟩<|qz<|Qq<|Q3<|U J<|O _ J<|qa J<|qz<|⟨_,qq a,wkE [] [] [] J ⟨⟨_,J,K3 (by simp [af]) J qw (ltd J)⟩,qp J,qp J,qp J,trivial⟩ ⟨Qo J J,trivial⟩⟩
 refine Qh ?_;refine ⟨_,qq a,fun hm=>?_⟩;subst hm;obtain rfl:=qu h;exact ⟨.inl J,_,J,wkA [] [] []⟩
theorem qh2 (b : List Int) (c : Int) (f : Int) (g : Int) (r : Int × Int × Int) (a : q36  b c f g = some r) : K6 Tryz.prog tab 185 [.d (.sl 1 (b.map (eI .i64))),q7 c,q7 f,.ref 0 1 0 0] [(0,.dat 1 [[qd g]])] 1 (.d (.tup [qd r.1,qd r.2.1])) [(0,.dat 1 [[qd r.2.2]])] 1:=by
 unfold q36 at a;refine Kn Tryz.func185 J qh qh J<|qc<|qa J<|qa J<|q9<|qf<|qf<|Qm [q6,q6,q6,q6,q6,q6,q6,q6,q6] qh<|U J<|U J<|q8 a fun h j a=>Ql j J<|O _ J<|U J<|U J<|q8 a fun k l a=>Ql l J<|O _ J<|q8 a fun m n a=>Q5 (Zq h k m n) J<|q9 ?_;refine qo J a (fun _ a=>?_) (fun _ a=>?_)
 ·refine qc<|U J<|O _ J<|O _ J<|O _ J<|O _ J<|Qe 0 _ J<|qt<|U J<|U J<|qa J<|qa J<|qv ?_;obtain rfl:=qu a;exact ⟨.inr J,_,J,wkA [] [] []⟩
 refine qm<|qc<|U J<|U J<|qa J<|qa J<|qv ?_;obtain rfl:=qu a;exact ⟨.inr J,_,J,wkA [] [] []⟩
theorem qnl (f : List Int) (h : Int) (j : Int) (k : Int) (l : Int) (r : Int × Int) (a : q4n  f h j k l = some r) : K6 Tryz.prog tab 180 [.d (.sl 1 (f.map (eI .i64))),q7 h,q7 j,q7 k,.ref 0 1 0 0] [(0,.dat 1 [[qd l]])] 1 (q7 r.1) [(0,.dat 1 [[qd r.2]])] 1:=by
 unfold q4n at a;refine Kn Tryz.func180 J qh qh J<|qc<|qa J<|qt<|U J<|U J<|U J<|U J<|q8 a fun b m a=>K7 [(0,0)] [(0,0)] _ (.d (.tup [qd b.1,qd b.2.1])) 1 [(0,.dat 1 [[qd b.2.2]])] 1 (qh2 f h j l b m)<|U J<|O _ J<|O _ J<|qa J<|qa J<|qt<|U J<|U J<|U J<|U J<|q8 a fun c n a=>K7 [(0,0)] [(0,0)] _ (.d (.tup [qd c.1,qd c.2.1])) 1 [(0,.dat 1 [[qd c.2.2]])] 1 (qh2 f b.2.1 k b.2.2 c n)<|U J<|O _ J<|O _ J<|qa J<|qa J<|qt<|U J<|U J<|U J<|U J<|q8 a fun g o a=>K7 [(0,0)] [(0,0)] _ (.d (.tup [qd g.1,qd g.2.1])) 1 [(0,.dat 1 [[qd g.2.2]])] 1 (qh2 f b.1 c.1 c.2.2 g o)<|U J<|O _ J<|O _ J<|qa J<|qa J<|qt ?_;refine U J<|qa J<|qv ?_;obtain rfl:=qu a;exact ⟨.inr J,_,J,wkA [] [] []⟩
theorem qh0 (c : List Int) (a : Int) (f : Int) (r : Int × Int) (b : q35  c a f = some r) : K6 Tryz.prog tab 179 [.d (.sl 1 (c.map (eI .i64))),q7 a,.ref 0 1 0 0] [(0,.dat 1 [[qd f]])] 1 (q7 r.1) [(0,.dat 1 [[qd r.2]])] 1:=by
 unfold q35 at b;refine Kn Tryz.func179 J qh qh J<|qc<|qa J<|qt<|U J<|U J<|O _ J<|U J<|U J<|O _ J<|U J<|q8 b fun g h b=>K7 [(0,0)] [(0,0)] _ (q7 g.1) 1 [(0,.dat 1 [[qd g.2]])] 1 (qnl c (w64 (a - 1)) a (w64 (a + 1)) f g h)<|qa J<|qv ?_;obtain rfl:=qu b;exact ⟨.inr J,_,J,wkA [] [] []⟩
theorem qzb (h : List Int) (g : Int) (j : Int) (r : Int × Int) (a : q6u h g j = some r) : Pure Tryz.prog tab 160 [.sl 1 (h.map (eI .i64)),qd g,qd j] (.tup [qd r.1,qd r.2]):=by
 unfold q6u at a;refine Qr Tryz.func160 J qh qh J<|qc<|qa J<|qa J<|qt<|U J<|U J<|O _ J<|qa J<|qt<|Qt J J<|qt<|U J<|U J<|O _ J<|O _ J<|O _ J<|qa J<|qt<|U J<|U J<|O _ J<|O _ J<|O _ J<|qa J<|qt<|U J<|U J<|O _ J<|O _ J<|O _ J<|qa J<|q9<|qf<|qc<|U J<|O _ J<|q9<|q8 a fun p f a=>?_;refine Yn (fun k=>k = p) (fun k=>⟨[(9,.ref 0 1 0 0),(11,q7 k.1)],[(0,.dat 1 [[qd k.2]])],1⟩) qe ?_ ?_
 ·refine qo J f (fun _ f=>?_) (fun _ f=>?_)
  ·refine qf<|qc<|U J<|O _ J<|q9<|q8 f fun q b f=>?_;refine Yn (fun c=>c = q) (fun c=>⟨[(0,.d (.sl 1 (h.map (eI .i64)))),(9,.ref 0 1 0 0),(10,q7 c.1),(11,q7 c.2.1),(12,q7 c.2.2.1)],[(0,.dat 1 [[qd c.2.2.2]])],1⟩) qe ?_ ?_
   ·refine qo J b (fun _ b=>?_) (fun _ b=>?_)
    ·refine qc<|U J<|U J<|q8 b fun l s b=>K7 [(0,0)] [(0,0)] _ (q7 l.1) 1 [(0,.dat 1 [[qd l.2]])] 1 (qh0 h (w64 (g + (w64 ((w64 (Int.tdiv (w64 (j - g)) 4)) * 1)))) 0 l s)<|qa J<|qt<|U J<|U J<|q8 b fun m t b=>K7 [(0,0)] [(0,0)] _ (q7 m.1) 1 [(0,.dat 1 [[qd m.2]])] 1 (qh0 h (w64 (g + (w64 ((w64 (Int.tdiv (w64 (j - g)) 4)) * 2)))) l.2 m t)<|qa J<|q9<|Q3<|U J<|U J<|q8 b fun n u b=>K7 [(0,0)] [(0,0)] _ (q7 n.1) 1 [(0,.dat 1 [[qd n.2]])] 1 (qh0 h (w64 (g + (w64 ((w64 (Int.tdiv (w64 (j - g)) 4)) * 3)))) m.2 n u)<|qa J<|qz ?_;obtain rfl:=qu b;exact ⟨_,J,wkA [(0,0)] [] []⟩
    refine qm<|Qk ?_;obtain rfl:=qu b;exact ⟨_,J,wkA [(0,0)] [] []⟩
   intro c hb;subst hb;refine Q3<|U J<|U J<|U J<|U J<|q8 f fun o v f=>K7 [(0,0)] [(0,0)] _ (q7 o.1) 1 [(0,.dat 1 [[qd o.2]])] 1 (qnl h c.1 c.2.1 c.2.2.1 c.2.2.2 o v)<|qa J<|qz ?_;obtain rfl:=qu f;exact ⟨_,J,wkA [(0,0)] [] []⟩
  refine qm<|Qk ?_;obtain rfl:=qu f;exact ⟨_,J,wkA [(0,0)] [] []⟩
 intro k hb;subst hb;refine qc<|O _ J<|q9<|Q7<|qc<|O _ J<|qa J<|q9 ?_;refine qo J a (fun _ a=>?_) (fun _ a=>?_)
 ·refine qc<|U J<|qa J<|qa J<|qv ?_;cases a;exact Q8 _ J
 refine qc<|O _ J<|qa J<|q9 ?_;refine qo J a (fun _ a=>?_) (fun _ a=>?_)
 ·refine qc<|U J<|qa J<|qa J<|qv ?_;cases a;exact Q8 _ J
 refine qc<|U J<|qa J<|qa J<|qv ?_;cases a;exact Q8 _ J
theorem qzr (f : List Int) (g : Int) (h : Int) (r : List Int) (c : q7k  f g h = some r) : K6 Tryz.prog tab 161 [.hs 0 1 0 f.length,q7 g,q7 h] [(0,.dat 1 (f.map (eI .i64)))] 1 (.d (.tup [])) [(0,.dat 1 (r.map (eI .i64)))] 1:=by
 unfold q7k at c;refine Kn Tryz.func161 J qh qh J<|qc<|U J<|qa J<|qt<|U J<|O _ J<|qa J<|q9<|q8 c fun p q c=>Q7<|Qj (qad) (fun b=>⟨[(0,.hs 0 1 0 b.2.2.length),(6,q7 b.1),(7,q7 b.2.1)],[(0,.dat 1 (b.2.2.map (eI .i64)))],1⟩) _ p q (wkA [] [] []) ?_;intro b s a;unfold qad at a;refine qf<|qc<|U J<|U J<|O _ J<|q9 ?_;refine qo J a (fun _ a=>?_) (fun _ a=>?_)
 ·refine qm<|Q7<|qf<|Qm [Qu 0,q6,Qu 0,q6,qx 0,q6,q6,q6,qx 0,q6,q6,q6,q6,q6,q6,q6] qh<|U J<|U J<|U J<|U J<|U J<|U J<|q8 a fun j k a=>Q2 k J J<|Qg _ k J<|U J<|U J<|q8 a fun l m a=>Q2 m J J<|Qg _ m J<|q8 a fun t n a=>Q2 n J J<|K0 (ds:=[qd j]) j n J J J J J J J J (leb J) J<|q8 a fun u o a=>Q2 o qe J<|K0 (ds:=[qd l]) l o J J J J J J J J (leb J) J<|qt<|U J<|O _ J<|qa J<|q9<|Q3<|U J<|O _ J<|qa J<|qz<|Qq<|Qk<|⟨_,qq a,wkE [] [] [] J ⟨⟨_,J,K3 qe J qw (ltd J)⟩,qp J,qp J,trivial⟩ ⟨Qo J J,trivial⟩⟩
 refine Qh ?_;refine ⟨_,qq a,fun hm=>?_⟩;subst hm;obtain rfl:=qu c;exact ⟨.inl J,_,J,wkA [] [] []⟩
theorem qzh (u : List Int) (h : Int) (f : Int) (r : Bool × List Int) (n : q4p  u h f = some r) : K6 Tryz.prog tab 162 [.hs 0 1 0 u.length,q7 h,q7 f] [(0,.dat 1 (u.map (eI .i64)))] 1 (Q1 r.1) [(0,.dat 1 (r.2.map (eI .i64)))] 1:=by
 unfold q4p at n;refine Kn Tryz.func162 J qh qh J<|qc<|qa J<|qt<|U J<|O _ J<|qa J<|q9<|qf<|qc<|qa J<|q9<|q8 n fun y bl n=>?_;refine Qn (fun q=>.inl q = y) (fun q=>⟨[],[(0,.dat 1 (q.map (eI .i64)))],1⟩) qe ?_ ?_
 ·refine Qj (q4q f h) (fun d=>⟨[(0,.hs 0 1 0 d.2.2.length),(1,q7 h),(2,q7 f),(7,q7 d.1),(8,q7 d.2.1)],[(0,.dat 1 (d.2.2.map (eI .i64)))],1⟩) _ y bl (wkA [] [] []) ?_;intro d ci j;unfold q4q at j;refine qf<|qc<|U J<|O _ J<|q9 ?_;refine qo J j (fun _ j=>?_) (fun _ j=>?_)
  ·refine qm<|qf<|q8 j fun bm a j=>?_;refine Qn (fun o=>.inl o = bm) (fun o=>⟨[(0,.hs 0 1 0 o.2.length),(1,q7 h),(2,q7 f),(7,q7 o.1),(8,q7 d.2.1)],[(0,.dat 1 (o.2.map (eI .i64)))],1⟩) qe ?_ ?_
   ·refine qf<|q8 a fun z bn a=>?_;refine Qn (fun k=>k = z) (fun k=>⟨[(0,.hs 0 1 0 d.2.2.length),(1,q7 h),(2,q7 f),(7,q7 k),(8,q7 d.2.1)],[(0,.dat 1 (d.2.2.map (eI .i64)))],1⟩) qe ?_ ?_
    ·refine Qj (q74 f d) (fun aa=>⟨[(0,.hs 0 1 0 d.2.2.length),(1,q7 h),(2,q7 f),(7,q7 aa),(8,q7 d.2.1)],[(0,.dat 1 (d.2.2.map (eI .i64)))],1⟩) _ z bn (wkA [] [] []) ?_;intro aa cj l;unfold q74 at l;refine qf<|qf<|Qm [q6,q6,q6,qx 0,q6,q6,q6,q6,qx 0,q6,q6,q6,q6,q6,q6,q6] qh<|U J<|U J<|O _ J<|q8 l fun bo g l=>?_;refine Qc 13 (fun A st=>∃ ab ac ad ae af ag ah ai aj ak al am,st = A [(32,Q1 bo),(31,am),(30,al),(29,ak),(28,aj),(27,ai),(26,ah),(25,ag),(24,af),(23,ae),(22,ad),(21,ac),(20,ab)]) ?_ ?_
     ·refine Qd J J g (fun g=>?_) (fun g=>?_)
      ·refine U J<|U J<|q8 g fun bp an g=>Q2 an J J<|Qg _ an J<|U J<|U J<|O _ J<|q8 g fun bq ao g=>Q2 ao J J<|Qg _ ao J<|q8 g fun br bs g=>Q5 (Zq bp bq br bs) J<|O _ J<|O _ J<|q9 ?_;cases g;exact ⟨_,_,_,_,_,_,_,_,_,_,_,_,J⟩
      refine qb J<|qb J<|qb J<|qb J<|qb J<|qb J<|qb J<|qb J<|qb J<|qb J<|qb J<|O _ J<|q9 ?_;cases g;exact ⟨_,_,_,_,_,_,_,_,_,_,_,_,J⟩
     rintro _ ⟨ab,ac,ad,ae,af,ag,ah,ai,aj,ak,al,am,rfl⟩;refine q9 ?_;refine qo J l (fun _ l=>?_) (fun _ l=>?_)
     ·refine qm<|Q7<|Q3<|U J<|O _ J<|qa J<|qz<|Qq<|Qk<|⟨_,qq l,wkA [] [] []⟩
     refine Qh ?_;refine ⟨_,qq l,fun hm=>?_⟩;subst hm;exact ⟨_,J,wkA [] [] []⟩
    intro k hb;subst hb;refine qf<|qc<|U J<|U J<|O _ J<|q9 ?_;refine qo J a (fun _ a=>?_) (fun _ a=>?_)
    ·refine qc<|qa J<|qv ?_;obtain rfl:=qu a;refine ⟨_,qq j,fun hm=>?_⟩;subst hm;obtain rfl:=qu n;exact ⟨.inr J,_,J,wkA [] [] []⟩
    refine qm<|qf<|qc<|U J<|U J<|O _ J<|O _ J<|q9 ?_;refine qo J a (fun _ a=>?_) (fun _ a=>?_)
    ·refine qc<|qa J<|qv ?_;obtain rfl:=qu a;refine ⟨_,qq j,fun hm=>?_⟩;subst hm;obtain rfl:=qu n;exact ⟨.inr J,_,J,wkA [] [] []⟩
    refine qm<|qf<|Qm [Qu 0,q6,Qu 0,q6,qx 0,q6,q6,q6,qx 0,q6,q6,q6,q6,q6,q6,q6,q6,q6] qh<|U J<|U J<|U J<|U J<|O _ J<|U J<|U J<|O _ J<|q8 a fun ap aq a=>Q2 aq J J<|Qg _ aq J<|U J<|U J<|q8 a fun ar au a=>Q2 au J J<|Qg _ au J<|q8 a fun ck av a=>Q2 av J J<|K0 (ds:=[qd ap]) ap av J J J J J J J J (leb J) J<|q8 a fun cl aw a=>Q2 aw qe J<|K0 (ds:=[qd ar]) ar aw J J J J J J J J (leb J) J<|q9<|qf<|qc<|U J<|U J<|O _ J<|O _ J<|q9<|q8 a fun bt m a=>?_;refine Yn (fun p=>p = bt) (fun p=>⟨[(0,.hs 0 1 0 p.length),(1,q7 h),(2,q7 f),(7,q7 k),(8,q7 d.2.1)],[(0,.dat 1 (p.map (eI .i64)))],1⟩) qe ?_ ?_
    ·refine qo J m (fun _ m=>?_) (fun _ m=>?_)
     ·refine qc<|U J<|O _ J<|qa J<|q9<|q8 m fun bu bv m=>Q7<|Qj (qa0) (fun s=>⟨[(0,.hs 0 1 0 s.2.length),(1,q7 h),(2,q7 f),(7,q7 k),(8,q7 d.2.1),(9,q7 s.1)],[(0,.dat 1 (s.2.map (eI .i64)))],1⟩) _ bu bv (wkE [] [] [] J ⟨⟨_,J,K3 qe J qw (ltd J)⟩,qp J,qp J,qp J,qp J,qp J,trivial⟩ ⟨Qo J J,trivial⟩) ?_;intro s cm b;unfold qa0 at b;refine qf<|qc<|U J<|O _ J<|q9 ?_;refine qo J b (fun _ b=>?_) (fun _ b=>?_)
      ·refine qm<|qf<|Q7<|qf<|qf<|Qm [q6,q6,qx 0,q6,q6,q6,q6,qx 0,q6,q6,q6] qh<|U J<|U J<|q8 b fun bw ax b=>Q2 ax J J<|Qg _ ax J<|U J<|U J<|O _ J<|q8 b fun bz ay b=>Q2 ay J J<|Qg _ ay J<|q8 b fun ca cb b=>Q5 (Zq bw bz ca cb) J<|O _ J<|q9 ?_;refine qo J b (fun _ b=>?_) (fun _ b=>?_)
       ·refine Qh ?_;refine ⟨_,qq b,fun hm=>?_⟩;subst hm;obtain rfl:=qu m;exact ⟨_,J,wkA [] [] []⟩
       refine qm<|Qm [Qu 0,q6,Qu 0,q6,qx 0,q6,q6,q6,qx 0,q6,q6,q6,q6,q6,q6,q6,q6,q6] qh<|U J<|U J<|U J<|U J<|O _ J<|U J<|U J<|O _ J<|q8 b fun az ba b=>Q2 ba J J<|Qg _ ba J<|U J<|U J<|q8 b fun v bb b=>Q2 bb J J<|Qg (q7 v) bb J<|q8 b fun cn bc b=>Q2 bc J J<|K0 (ds:=[qd az]) az bc J J J J J J J J (leb J) J<|q8 b fun co bd b=>Q2 bd qe J<|K0 (ds:=[qd v]) v bd J J J J J J J J (leb J) J<|qz<|Qq<|Q3<|U J<|O _ J<|qa J<|qz<|⟨_,qq b,wkE [] [] [] J ⟨⟨_,J,K3 qe J qw (ltd J)⟩,qp J,qp J,qp J,qp J,qp J,trivial⟩ ⟨Qo J J,trivial⟩⟩
      refine Qh ?_;refine ⟨_,qq b,fun hm=>?_⟩;subst hm;obtain rfl:=qu m;exact ⟨_,J,wkA [] [] []⟩
     refine qm<|Qk ?_;obtain rfl:=qu m;exact ⟨_,J,wkE [] [] [] J ⟨⟨_,J,K3 qe J qw (ltd J)⟩,qp J,qp J,qp J,qp J,trivial⟩ ⟨Qo J J,trivial⟩⟩
    intro p hb;subst hb;refine qc<|U J<|U J<|O _ J<|O _ J<|q9 ?_;refine qo J a (fun _ a=>?_) (fun _ a=>?_)
    ·refine qc<|U J<|O _ J<|qa J<|q9<|q8 a fun cc cd a=>Q7<|Qj (q75 f k) (fun t=>⟨[(0,.hs 0 1 0 t.2.length),(1,q7 h),(2,q7 f),(7,q7 k),(8,q7 d.2.1),(10,q7 t.1)],[(0,.dat 1 (t.2.map (eI .i64)))],1⟩) _ cc cd (wkA [] [] []) ?_;intro t cp c;unfold q75 at c;refine qf<|qc<|U J<|U J<|O _ J<|q9 ?_;refine qo J c (fun _ c=>?_) (fun _ c=>?_)
     ·refine qm<|qf<|Q7<|qf<|qf<|Qm [q6,q6,qx 0,q6,q6,q6,q6,qx 0,q6,q6,q6] qh<|U J<|U J<|q8 c fun ce be c=>Q2 be J J<|Qg _ be J<|U J<|U J<|O _ J<|q8 c fun cf bf c=>Q2 bf J J<|Qg _ bf J<|q8 c fun cg ch c=>Q5 (Zq ce cf cg ch) J<|O _ J<|q9 ?_;refine qo J c (fun _ c=>?_) (fun _ c=>?_)
      ·refine Qh ?_;refine ⟨_,qq c,fun hm=>?_⟩;subst hm;obtain rfl:=qu a;exact ⟨_,J,wkA [] [] []⟩
      refine qm<|Qm [Qu 0,q6,Qu 0,q6,qx 0,q6,q6,q6,qx 0,q6,q6,q6,q6,q6,q6,q6,q6,q6] qh<|U J<|U J<|U J<|U J<|O _ J<|U J<|U J<|O _ J<|q8 c fun bg bh c=>Q2 bh J J<|Qg _ bh J<|U J<|U J<|q8 c fun x bi c=>Q2 bi J J<|Qg (q7 x) bi J<|q8 c fun cq bj c=>Q2 bj J J<|K0 (ds:=[qd bg]) bg bj J J J J J J J J (leb J) J<|q8 c fun cr bk c=>Q2 bk qe J<|K0 (ds:=[qd x]) x bk J J J J J J J J (leb J) J<|qz<|Qq<|Q3<|U J<|O _ J<|qa J<|qz<|⟨_,qq c,wkE [] [] [] J ⟨⟨_,J,K3 qe J qw (ltd J)⟩,qp J,qp J,qp J,qp J,qp J,trivial⟩ ⟨Qo J J,trivial⟩⟩
     refine Qh ?_;refine ⟨_,qq c,fun hm=>?_⟩;subst hm;obtain rfl:=qu a;exact ⟨_,J,wkA [] [] []⟩
    refine qm<|Qk ?_;obtain rfl:=qu a;exact ⟨_,J,wkA [] [] []⟩
   intro o hb;subst hb;refine Q3<|U J<|O _ J<|qa J<|qz<|⟨_,qq j,wkA [] [] []⟩
  refine Qh ?_;refine ⟨_,qq j,fun hm=>?_⟩;subst hm;exact ⟨_,J,wkA [] [] []⟩
 intro q hb;subst hb;refine qc<|qa J<|qv ?_;obtain rfl:=qu n;exact ⟨.inr J,_,J,wkA [] [] []⟩
theorem qzk (n : List Int) (g : Int) (p : Int) (q : Int) (r : Int × List Int) (c : q76  n g p q = some r) : K6 Tryz.prog tab 164 [.hs 0 1 0 n.length,q7 g,q7 p,q7 q] [(0,.dat 1 (n.map (eI .i64)))] 1 (q7 r.1) [(0,.dat 1 (r.2.map (eI .i64)))] 1:=by
 unfold q76 at c;refine Kn Tryz.func164 J qh qh J<|qc<|qa J<|q9<|qf<|Qm [Qu 0,q6,Qu 0,q6,qx 0,q6,q6,q6,qx 0,q6,q6,q6,q6,q6,q6,q6] qh<|U J<|U J<|U J<|U J<|U J<|U J<|q8 c fun s t c=>Q2 t J J<|Qg _ t J<|U J<|U J<|q8 c fun u v c=>Q2 v J J<|Qg _ v J<|q8 c fun bz x c=>Q2 x J J<|K0 (ds:=[qd s]) s x J J J J J J J J (leb J) J<|q8 c fun ca y c=>Q2 y qe J<|K0 (ds:=[qd u]) u y J J J J J J J J (leb J) J<|qt<|U J<|O _ J<|U J<|O _ J<|qa J<|qa J<|q9<|qf<|q8 c fun z bk c=>?_;refine Qn (fun l=>l = z) (fun l=>⟨[(9,q7 l.1)],[(0,.dat 1 (l.2.map (eI .i64)))],1⟩) qe ?_ ?_
 ·refine Qj (q77 g) (fun b=>⟨[(0,.hs 0 1 0 b.2.2.length),(1,q7 g),(9,q7 b.1),(10,q7 b.2.1)],[(0,.dat 1 (b.2.2.map (eI .i64)))],1⟩) _ z bk (wkE [] [] [] J ⟨⟨_,J,K3 qe J qw (ltd J)⟩,qp J,qp J,qp J,trivial⟩ ⟨Qo J J,trivial⟩) ?_;intro b cb a;unfold q77 at a;refine Q7<|qf<|q8 a fun aa bl a=>?_;refine Qn (fun k=>k = aa) (fun k=>⟨[(0,.hs 0 1 0 b.2.2.length),(1,q7 g),(9,q7 k),(10,q7 b.2.1)],[(0,.dat 1 (b.2.2.map (eI .i64)))],1⟩) qe ?_ ?_
  ·refine Qj (q78 b g) (fun ab=>⟨[(0,.hs 0 1 0 b.2.2.length),(1,q7 g),(9,q7 ab),(10,q7 b.2.1)],[(0,.dat 1 (b.2.2.map (eI .i64)))],1⟩) _ aa bl (wkA [] [] []) ?_;intro ab cc h;unfold q78 at h;refine qf<|qf<|Qm [q6,q6,q6,qx 0,q6,q6,q6,qx 0,q6,q6,q6,q6,q6,q6,q6] qh<|U J<|U J<|O _ J<|q8 h fun bm d h=>?_;refine Qc 12 (fun A st=>∃ ac ad ae af ag ah ai aj ak al am,st = A [(43,Q1 bm),(42,am),(41,al),(40,ak),(39,aj),(38,ai),(37,ah),(36,ag),(35,af),(34,ae),(33,ad),(32,ac)]) ?_ ?_
   ·refine Qd J J d (fun d=>?_) (fun d=>?_)
    ·refine U J<|U J<|q8 d fun bn an d=>Q2 an J J<|Qg _ an J<|U J<|U J<|q8 d fun bo ao d=>Q2 ao J J<|Qg _ ao J<|q8 d fun bp bq d=>Q5 (Zq bn bo bp bq) J<|O _ J<|O _ J<|q9 ?_;cases d;exact ⟨_,_,_,_,_,_,_,_,_,_,_,J⟩
    refine qb J<|qb J<|qb J<|qb J<|qb J<|qb J<|qb J<|qb J<|qb J<|qb J<|O _ J<|q9 ?_;cases d;exact ⟨_,_,_,_,_,_,_,_,_,_,_,J⟩
   rintro _ ⟨ac,ad,ae,af,ag,ah,ai,aj,ak,al,am,rfl⟩;refine q9 ?_;refine qo J h (fun _ h=>?_) (fun _ h=>?_)
   ·refine qm<|Q7<|Q3<|U J<|O _ J<|qa J<|qz<|Qq<|Qk<|⟨_,qq h,wkA [] [] []⟩
   refine Qh ?_;refine ⟨_,qq h,fun hm=>?_⟩;subst hm;exact ⟨_,J,wkA [] [] []⟩
  intro k hb;subst hb;refine qf<|q8 a fun ap br a=>?_;refine Qn (fun m=>m = ap) (fun m=>⟨[(0,.hs 0 1 0 b.2.2.length),(1,q7 g),(9,q7 k),(10,q7 m)],[(0,.dat 1 (b.2.2.map (eI .i64)))],1⟩) qe ?_ ?_
  ·refine Qj (q79 k b g) (fun aq=>⟨[(0,.hs 0 1 0 b.2.2.length),(1,q7 g),(9,q7 k),(10,q7 aq)],[(0,.dat 1 (b.2.2.map (eI .i64)))],1⟩) _ ap br (wkA [] [] []) ?_;intro aq cd j;unfold q79 at j;refine qf<|qf<|Qm [q6,q6,qx 0,q6,q6,q6,qx 0,q6,q6,q6,q6,q6,q6,q6] qh<|U J<|U J<|O _ J<|q8 j fun bs f j=>?_;refine Qc 11 (fun A st=>∃ ar au av aw ax ay az ba bb bc,st = A [(59,Q1 bs),(58,bc),(57,bb),(56,ba),(55,az),(54,ay),(53,ax),(52,aw),(51,av),(50,au),(49,ar)]) ?_ ?_
   ·refine Qd J J f (fun f=>?_) (fun f=>?_)
    ·refine U J<|U J<|q8 f fun bt bd f=>Q2 bd J J<|Qg _ bd J<|U J<|U J<|q8 f fun bu be f=>Q2 be J J<|Qg _ be J<|q8 f fun bv bw f=>Q5 (Zq bt bu bv bw) J<|O _ J<|q9 ?_;cases f;exact ⟨_,_,_,_,_,_,_,_,_,_,J⟩
    refine qb J<|qb J<|qb J<|qb J<|qb J<|qb J<|qb J<|qb J<|qb J<|O _ J<|q9 ?_;cases f;exact ⟨_,_,_,_,_,_,_,_,_,_,J⟩
   rintro _ ⟨ar,au,av,aw,ax,ay,az,ba,bb,bc,rfl⟩;refine q9 ?_;refine qo J j (fun _ j=>?_) (fun _ j=>?_)
   ·refine qm<|Q7<|Q3<|U J<|O _ J<|qa J<|qz<|Qq<|Qk<|⟨_,qq j,wkA [] [] []⟩
   refine Qh ?_;refine ⟨_,qq j,fun hm=>?_⟩;subst hm;exact ⟨_,J,wkA [] [] []⟩
  intro m hb;subst hb;refine qf<|qc<|U J<|U J<|O _ J<|q9 ?_;refine qo J a (fun _ a=>?_) (fun _ a=>?_)
  ·refine Qh ?_;refine ⟨_,qq a,fun hm=>?_⟩;subst hm;exact ⟨_,J,wkA [] [] []⟩
  refine qm<|qf<|Qm [Qu 0,q6,Qu 0,q6,qx 0,q6,q6,q6,qx 0,q6,q6,q6,q6,q6,q6,q6] qh<|U J<|U J<|U J<|U J<|U J<|U J<|q8 a fun bf bg a=>Q2 bg J J<|Qg _ bg J<|U J<|U J<|q8 a fun o bh a=>Q2 bh J J<|Qg (q7 o) bh J<|q8 a fun ce bi a=>Q2 bi J J<|K0 (ds:=[qd bf]) bf bi J J J J J J J J (leb J) J<|q8 a fun cf bj a=>Q2 bj qe J<|K0 (ds:=[qd o]) o bj J J J J J J J J (leb J) J<|qt<|U J<|O _ J<|qa J<|q9<|Q3<|U J<|O _ J<|qa J<|qz<|Qq<|Qk<|⟨_,qq a,wkE [] [] [] J ⟨⟨_,J,K3 qe J qw (ltd J)⟩,qp J,qp J,qp J,trivial⟩ ⟨Qo J J,trivial⟩⟩
 intro l hb;subst hb;refine qc<|U J<|qa J<|qv ?_;obtain rfl:=qu c;exact ⟨.inr J,_,J,wkA [] [] []⟩
theorem qzl (g : List Int) (b : Int) (s : Int) (k : Int) (r : Int × Bool × List Int) (a : q7a  g b s k = some r) : K6 Tryz.prog tab 165 [.hs 0 1 0 g.length,q7 b,q7 s,q7 k] [(0,.dat 1 (g.map (eI .i64)))] 1 (.d (.tup [qd r.1,.bool r.2.1])) [(0,.dat 1 (r.2.2.map (eI .i64)))] 1:=by
 unfold q7a at a;refine Kn Tryz.func165 J qh qh J<|qc<|qa J<|qa J<|q9<|qf<|Qm [Qu 0,q6,Qu 0,q6,qx 0,q6,q6,q6,qx 0,q6,q6,q6,q6,q6,q6,q6] qh<|U J<|U J<|U J<|U J<|U J<|U J<|q8 a fun h ap a=>Q2 ap J J<|Qg (q7 h) ap J<|U J<|U J<|q8 a fun j aq a=>Q2 aq J J<|Qg (q7 j) aq J<|q8 a fun fu ar a=>Q2 ar J J<|K0 (ds:=[qd h]) h ar J J J J J J J J (leb J) J<|q8 a fun fv au a=>Q2 au qe J<|K0 (ds:=[qd j]) j au J J J J J J J J (leb J) J<|qt<|U J<|O (.d (qd (w64 (b + 1)))) J<|U J<|O (.d (qd (w64 (s - 1)))) J<|qa J<|qa J<|q9<|qf<|q8 a fun av fe a=>?_;refine Qn (fun l=>l = av) (fun (l : Int)=>⟨[(0,.hs 0 1 0 ((g.set b.toNat h).set k.toNat j).length),(1,q7 b),(10,q7 l),(11,.d (qd (w64 (s - 1))))],[(0,.dat 1 (((g.set b.toNat h).set k.toNat j).map (eI .i64)))],1⟩) qe ?_ ?_
 ·refine Qj (q7b s g b h k j) (fun (ab : Int)=>⟨[(0,.hs 0 1 0 ((g.set b.toNat h).set k.toNat j).length),(1,q7 b),(10,q7 ab),(11,.d (qd (w64 (s - 1))))],[(0,.dat 1 (((g.set b.toNat h).set k.toNat j).map (eI .i64)))],1⟩) (w64 (b + 1)) av fe (wkE [] [] [] J ⟨⟨_,J,K3 qe J qw (ltd J)⟩,qp J,qp J,qp J,trivial⟩ ⟨Qo J J,trivial⟩) ?_;intro ab fw t;unfold q7b at t;refine qf<|qf<|Qm [q6,q6,qx 0,q6,q6,q6,qx 0,q6,q6,q6,q6,q6,q6,q6] qh<|U J<|U J<|O (.d (.bool (decide (ab≤(w64 (s - 1)))))) J<|q8 t fun ff m t=>?_;refine Qc 11 (fun A st=>∃ (aw ax ay az ba bb bc bd be bf : V),st = A [(43,Q1 ff),(42,bf),(41,be),(40,bd),(39,bc),(38,bb),(37,ba),(36,az),(35,ay),(34,ax),(33,aw)]) ?_ ?_
  ·refine Qd J J m (fun m=>?_) (fun m=>?_)
   ·refine U J<|U J<|q8 m fun bg bh m=>Q2 bh J J<|Qg (q7 bg) bh J<|U J<|U J<|q8 m fun bi bj m=>Q2 bj J J<|Qg (q7 bi) bj J<|q8 m fun bk fg m=>Q5 (Zq bg bi bk fg) J<|O (Q1 bk) J<|q9 ?_;cases m;exact ⟨_,_,_,_,_,_,_,_,_,_,J⟩
   refine qb J<|qb J<|qb J<|qb J<|qb J<|qb J<|qb J<|qb J<|qb J<|O (Q1 false) J<|q9 ?_;cases m;exact ⟨_,_,_,_,_,_,_,_,_,_,J⟩
  rintro _ ⟨aw,ax,ay,az,ba,bb,bc,bd,be,bf,rfl⟩;refine q9 ?_;refine qo J t (fun _ t=>?_) (fun _ t=>?_)
  ·refine qm<|Q7<|Q3<|U J<|O (.d (qd (w64 (ab + 1)))) J<|qa J<|qz<|Qq<|Qk<|⟨_,qq t,wkA [] [] []⟩
  refine Qh ?_;refine ⟨_,qq t,fun hm=>?_⟩;subst hm;exact ⟨_,J,wkA [] [] []⟩
 intro l hb;subst hb;refine qf<|q8 a fun bl fh a=>?_;refine Qn (fun u=>u = bl) (fun (u : Int)=>⟨[(0,.hs 0 1 0 ((g.set b.toNat h).set k.toNat j).length),(1,q7 b),(10,q7 l),(11,q7 u)],[(0,.dat 1 (((g.set b.toNat h).set k.toNat j).map (eI .i64)))],1⟩) qe ?_ ?_
 ·refine Qj (q7c l g b h k j) (fun (ac : Int)=>⟨[(0,.hs 0 1 0 ((g.set b.toNat h).set k.toNat j).length),(1,q7 b),(10,q7 l),(11,q7 ac)],[(0,.dat 1 (((g.set b.toNat h).set k.toNat j).map (eI .i64)))],1⟩) (w64 (s - 1)) bl fh (wkA [] [] []) ?_;intro ac fx v;unfold q7c at v;refine qf<|qf<|Qm [q6,q6,q6,qx 0,q6,q6,q6,qx 0,q6,q6,q6,q6,q6,q6,q6] qh<|U J<|U J<|O (.d (.bool (decide (l≤ac)))) J<|q8 v fun fi n v=>?_;refine Qc 12 (fun A st=>∃ (bm bn bo bp bq br bs bt bu bv bw : V),st = A [(60,Q1 fi),(59,bw),(58,bv),(57,bu),(56,bt),(55,bs),(54,br),(53,bq),(52,bp),(51,bo),(50,bn),(49,bm)]) ?_ ?_
  ·refine Qd J J n (fun n=>?_) (fun n=>?_)
   ·refine U J<|U J<|q8 n fun bz ca n=>Q2 ca J J<|Qg (q7 bz) ca J<|U J<|U J<|q8 n fun cb cc n=>Q2 cc J J<|Qg (q7 cb) cc J<|q8 n fun ah fj n=>Q5 (Zq bz cb ah fj) J<|O (Q1 (!ah)) J<|O (Q1 (!ah)) J<|q9 ?_;cases n;exact ⟨_,_,_,_,_,_,_,_,_,_,_,J⟩
   refine qb J<|qb J<|qb J<|qb J<|qb J<|qb J<|qb J<|qb J<|qb J<|qb J<|O (Q1 false) J<|q9 ?_;cases n;exact ⟨_,_,_,_,_,_,_,_,_,_,_,J⟩
  rintro _ ⟨bm,bn,bo,bp,bq,br,bs,bt,bu,bv,bw,rfl⟩;refine q9 ?_;refine qo J v (fun _ v=>?_) (fun _ v=>?_)
  ·refine qm<|Q7<|Q3<|U J<|O (.d (qd (w64 (ac - 1)))) J<|qa J<|qz<|Qq<|Qk<|⟨_,qq v,wkA [] [] []⟩
  refine Qh ?_;refine ⟨_,qq v,fun hm=>?_⟩;subst hm;exact ⟨_,J,wkA [] [] []⟩
 intro u hb;subst hb;refine qf<|qc<|U J<|U J<|O (.d (.bool (decide (l > u)))) J<|q9 ?_;refine qo J a (fun _ a=>?_) (fun _ a=>?_)
 ·refine qf<|Qm [Qu 0,q6,Qu 0,q6,qx 0,q6,q6,q6,qx 0,q6,q6,q6,q6,q6,q6,q6] qh<|U J<|U J<|U J<|U J<|U J<|U J<|q8 a fun ai cd a=>Q2 cd J J<|Qg (q7 ai) cd J<|U J<|U J<|q8 a fun aj ce a=>Q2 ce J J<|Qg (q7 aj) ce J<|q8 a fun fy cf a=>Q2 cf J J<|K0 (ds:=[qd ai]) ai cf J J J J J J J J (leb J) J<|q8 a fun fz cg a=>Q2 cg qe J<|K0 (ds:=[qd aj]) aj cg J J J J J J J J (leb J) J<|qt<|U J<|qa J<|qa J<|qv ?_;obtain rfl:=qu a;exact ⟨.inr J,_,J,wkA [] [] []⟩
 refine qm<|qf<|Qm [Qu 0,q6,Qu 0,q6,qx 0,q6,q6,q6,qx 0,q6,q6,q6,q6,q6,q6,q6] qh<|U J<|U J<|U J<|U J<|U J<|U J<|q8 a fun ad ch a=>Q2 ch J J<|Qg (q7 ad) ch J<|U J<|U J<|q8 a fun ae ci a=>Q2 ci J J<|Qg (q7 ae) ci J<|q8 a fun ga cj a=>Q2 cj J J<|K0 (ds:=[qd ad]) ad cj J J J J J J J J (leb J) J<|q8 a fun gb ck a=>Q2 ck qe J<|K0 (ds:=[qd ae]) ae ck J J J J J J J J (leb J) J<|qt<|U J<|O (.d (qd (w64 (l + 1)))) J<|qa J<|qt<|U J<|O (.d (qd (w64 (u - 1)))) J<|qa J<|q9<|qf<|q8 a fun cl fk a=>?_;refine Qn (fun z=>z = cl) (fun (z : Int × List Int)=>⟨[(0,.hs 0 1 0 z.2.length),(1,q7 b),(11,q7 z.1)],[(0,.dat 1 (z.2.map (eI .i64)))],1⟩) qe ?_ ?_
 ·refine Qj (q7d b) (fun (c : Int × Int × List Int)=>⟨[(0,.hs 0 1 0 c.2.2.length),(1,q7 b),(10,q7 c.1),(11,q7 c.2.1)],[(0,.dat 1 (c.2.2.map (eI .i64)))],1⟩) (w64 (l + 1),w64 (u - 1),(((g.set b.toNat h).set k.toNat j).set l.toNat ad).set u.toNat ae) cl fk (wkE [] [] [] J ⟨⟨_,J,K3 qe J qw (ltd J)⟩,qp J,qp J,qp J,trivial⟩ ⟨Qo J J,trivial⟩) ?_;intro c gc f;unfold q7d at f;refine Q7<|qf<|q8 f fun cm fm f=>?_;refine Qn (fun q=>q = cm) (fun (q : Int)=>⟨[(0,.hs 0 1 0 c.2.2.length),(1,q7 b),(10,q7 q),(11,q7 c.2.1)],[(0,.dat 1 (c.2.2.map (eI .i64)))],1⟩) qe ?_ ?_
  ·refine Qj (q7e c b) (fun (af : Int)=>⟨[(0,.hs 0 1 0 c.2.2.length),(1,q7 b),(10,q7 af),(11,q7 c.2.1)],[(0,.dat 1 (c.2.2.map (eI .i64)))],1⟩) c.1 cm fm (wkA [] [] []) ?_;intro af gd x;unfold q7e at x;refine qf<|qf<|Qm [q6,q6,qx 0,q6,q6,q6,qx 0,q6,q6,q6,q6,q6,q6,q6] qh<|U J<|U J<|O (.d (.bool (decide (af≤c.2.1)))) J<|q8 x fun fn o x=>?_;refine Qc 11 (fun A st=>∃ (cn co cp cq cr cs ct cu cv cw : V),st = A [(112,Q1 fn),(111,cw),(110,cv),(109,cu),(108,ct),(107,cs),(106,cr),(105,cq),(104,cp),(103,co),(102,cn)]) ?_ ?_
   ·refine Qd J J o (fun o=>?_) (fun o=>?_)
    ·refine U J<|U J<|q8 o fun cx cy o=>Q2 cy J J<|Qg (q7 cx) cy J<|U J<|U J<|q8 o fun cz da o=>Q2 da J J<|Qg (q7 cz) da J<|q8 o fun dc fo o=>Q5 (Zq cx cz dc fo) J<|O (Q1 dc) J<|q9 ?_;cases o;exact ⟨_,_,_,_,_,_,_,_,_,_,J⟩
    refine qb J<|qb J<|qb J<|qb J<|qb J<|qb J<|qb J<|qb J<|qb J<|O (Q1 false) J<|q9 ?_;cases o;exact ⟨_,_,_,_,_,_,_,_,_,_,J⟩
   rintro _ ⟨cn,co,cp,cq,cr,cs,ct,cu,cv,cw,rfl⟩;refine q9 ?_;refine qo J x (fun _ x=>?_) (fun _ x=>?_)
   ·refine qm<|Q7<|Q3<|U J<|O (.d (qd (w64 (af + 1)))) J<|qa J<|qz<|Qq<|Qk<|⟨_,qq x,wkA [] [] []⟩
   refine Qh ?_;refine ⟨_,qq x,fun hm=>?_⟩;subst hm;exact ⟨_,J,wkA [] [] []⟩
  intro q hb;subst hb;refine qf<|q8 f fun dd fq f=>?_;refine Qn (fun aa=>aa = dd) (fun (aa : Int)=>⟨[(0,.hs 0 1 0 c.2.2.length),(1,q7 b),(10,q7 q),(11,q7 aa)],[(0,.dat 1 (c.2.2.map (eI .i64)))],1⟩) qe ?_ ?_
  ·refine Qj (q7f q c b) (fun (ag : Int)=>⟨[(0,.hs 0 1 0 c.2.2.length),(1,q7 b),(10,q7 q),(11,q7 ag)],[(0,.dat 1 (c.2.2.map (eI .i64)))],1⟩) c.2.1 dd fq (wkA [] [] []) ?_;intro ag ge y;unfold q7f at y;refine qf<|qf<|Qm [q6,q6,q6,qx 0,q6,q6,q6,qx 0,q6,q6,q6,q6,q6,q6,q6] qh<|U J<|U J<|O (.d (.bool (decide (q≤ag)))) J<|q8 y fun fs p y=>?_;refine Qc 12 (fun A st=>∃ (de df dg dh dj dk dl dm dn dp dq : V),st = A [(129,Q1 fs),(128,dq),(127,dp),(126,dn),(125,dm),(124,dl),(123,dk),(122,dj),(121,dh),(120,dg),(119,df),(118,de)]) ?_ ?_
   ·refine Qd J J p (fun p=>?_) (fun p=>?_)
    ·refine U J<|U J<|q8 p fun dr dt p=>Q2 dt J J<|Qg (q7 dr) dt J<|U J<|U J<|q8 p fun du dv p=>Q2 dv J J<|Qg (q7 du) dv J<|q8 p fun ak ft p=>Q5 (Zq dr du ak ft) J<|O (Q1 (!ak)) J<|O (Q1 (!ak)) J<|q9 ?_;cases p;exact ⟨_,_,_,_,_,_,_,_,_,_,_,J⟩
    refine qb J<|qb J<|qb J<|qb J<|qb J<|qb J<|qb J<|qb J<|qb J<|qb J<|O (Q1 false) J<|q9 ?_;cases p;exact ⟨_,_,_,_,_,_,_,_,_,_,_,J⟩
   rintro _ ⟨de,df,dg,dh,dj,dk,dl,dm,dn,dp,dq,rfl⟩;refine q9 ?_;refine qo J y (fun _ y=>?_) (fun _ y=>?_)
   ·refine qm<|Q7<|Q3<|U J<|O (.d (qd (w64 (ag - 1)))) J<|qa J<|qz<|Qq<|Qk<|⟨_,qq y,wkA [] [] []⟩
   refine Qh ?_;refine ⟨_,qq y,fun hm=>?_⟩;subst hm;exact ⟨_,J,wkA [] [] []⟩
  intro aa hb;subst hb;refine qf<|qc<|U J<|U J<|O (.d (.bool (decide (q > aa)))) J<|q9 ?_;refine qo J f (fun _ f=>?_) (fun _ f=>?_)
  ·refine Qh ?_;refine ⟨_,qq f,fun hm=>?_⟩;subst hm;exact ⟨_,J,wkA [] [] []⟩
  refine qm<|qf<|Qm [Qu 0,q6,Qu 0,q6,qx 0,q6,q6,q6,qx 0,q6,q6,q6,q6,q6,q6,q6] qh<|U J<|U J<|U J<|U J<|U J<|U J<|q8 f fun al dw f=>Q2 dw J J<|Qg (q7 al) dw J<|U J<|U J<|q8 f fun am dx f=>Q2 dx J J<|Qg (q7 am) dx J<|q8 f fun gf dy f=>Q2 dy J J<|K0 (ds:=[qd al]) al dy J J J J J J J J (leb J) J<|q8 f fun gg dz f=>Q2 dz qe J<|K0 (ds:=[qd am]) am dz J J J J J J J J (leb J) J<|qt<|U J<|O (.d (qd (w64 (q + 1)))) J<|qa J<|q9<|Q3<|U J<|O (.d (qd (w64 (aa - 1)))) J<|qa J<|qz<|Qq<|Qk<|⟨_,qq f,wkE [] [] [] J ⟨⟨_,J,K3 qe J qw (ltd J)⟩,qp J,qp J,qp J,trivial⟩ ⟨Qo J J,trivial⟩⟩
 intro z hb;subst hb;refine qf<|Qm [Qu 0,q6,Qu 0,q6,qx 0,q6,q6,q6,qx 0,q6,q6,q6,q6,q6,q6,q6] qh<|U J<|U J<|U J<|U J<|U J<|U J<|q8 a fun an fa a=>Q2 fa J J<|Qg (q7 an) fa J<|U J<|U J<|q8 a fun ao fb a=>Q2 fb J J<|Qg (q7 ao) fb J<|q8 a fun gh fc a=>Q2 fc J J<|K0 (ds:=[qd an]) an fc J J J J J J J J (leb J) J<|q8 a fun gi fd a=>Q2 fd qe J<|K0 (ds:=[qd ao]) ao fd J J J J J J J J (leb J) J<|qt<|U J<|qa J<|qa J<|qv ?_;obtain rfl:=qu a;exact ⟨.inr J,_,J,wkA [] [] []⟩
theorem qnm (b : Int) (r : Int) (a : q1w b = some r) : Pure Tryz.prog tab 177 [qd b] (.int .u64 r):=by
 unfold q1w at a;refine Qr Tryz.func177 J qh qh J<|qc<|qa J<|qt<|U J<|O _ J<|q8 a fun c d a=>Q5 (qfy (IntKind.wrap .u64 b) c d) J<|q8 a fun g f a=>quj f J J J<|qa J<|qv ?_;cases a;exact Q8 _ J
theorem qnp (a : Int) (r : Int) (b : q1x  a = some r) : K6 Tryz.prog tab 178 [.ref 0 1 0 0] [(0,.dat 1 [[.int .u64 a]])] 1 (.d (.int .u64 r)) [(0,.dat 1 [[.int .u64 r]])] 1:=by
 unfold q1x at b;refine Kn Tryz.func178 J qh qh J<|qc<|qa J<|q9<|qf<|Qm [Qu 0,q6,q6,q6,qx 0,q6,q6,qx 0,q6,q6] qh<|U J<|O _ J<|O _ J<|U J<|O _ J<|O _ J<|O _ J<|O _ J<|O _ J<|Qe 0 _ J<|q9<|qf<|Qm [Qu 0,q6,q6,q6,qx 0,q6,q6,qx 0,q6,q6] qh<|U J<|O _ J<|O _ J<|U J<|O _ J<|O _ J<|O _ J<|O _ J<|O _ J<|Qe 0 _ J<|q9<|qf<|Qm [Qu 0,q6,q6,q6,qx 0,q6,q6,qx 0,q6,q6] qh<|U J<|O _ J<|O _ J<|U J<|O _ J<|O _ J<|O _ J<|O _ J ?_;refine O _ J<|Qe 0 _ J<|qt<|U J<|O _ J<|O _ J<|qa J<|qv ?_;obtain rfl:=qu b;exact ⟨.inr J,_,J,wkA [] [] []⟩
theorem qz9 (m : List Int) (f : Int) (g : Int) (r : List Int) (b : q6s  m f g = some r) : K6 Tryz.prog tab 159 [.hs 0 1 0 m.length,q7 f,q7 g] [(0,.dat 1 (m.map (eI .i64)))] 1 (.d (.tup [])) [(0,.dat 1 (r.map (eI .i64)))] 1:=by
 unfold q6s at b;refine Kn Tryz.func159 J qh qh J<|qc<|U J<|U J<|O _ J<|qa J<|qt<|U J<|O _ J<|q9 ?_;refine qo J b (fun _ b=>?_) (fun _ b=>?_)
 ·refine qc<|U J<|O _ J<|Qt J J<|Qe 1 _ J<|qt<|U J<|q8 b fun j u b=>Q5 (qnm (w64 (g - f)) j u) J<|qa J<|qt<|U J<|U J<|O _ J<|O _ J<|O _ J<|O _ J<|qa J<|q9<|q8 b fun v x b=>Q7<|Qj (q6t f g j) (fun c=>⟨[(0,.hs 0 1 0 c.2.1.length),(1,q7 f),(6,.d (qd (w64 (g - f)))),(7,.ref 1 1 0 0),(8,.d (.int .u64 j)),(9,q7 c.1)],[(0,.dat 1 (c.2.1.map (eI .i64))),(1,.dat 1 [[.int .u64 c.2.2]])],2⟩) _ v x (wkA [(1,1)] [] []) ?_;intro c aa a;unfold q6t at a;refine qf<|qc<|U J<|U J<|U J<|O _ J<|O _ J<|O _ J<|O _ J<|O _ J<|q9 ?_;refine qo J a (fun _ a=>?_) (fun _ a=>?_)
  ·refine qm<|qf<|Q7<|qc<|q8 a fun k y a=>K7 [(0,1)] [(0,1),(1,0)] _ (.d (.int .u64 k)) 1 [(1,.dat 1 [[.int .u64 k]]),(0,.dat 1 (c.2.1.map (eI .i64)))] 2 (qnp c.2.2 k y)<|U J<|O _ J<|O _ J<|O _ J<|qa J<|q9<|qf<|qc<|U J<|U J<|O _ J<|q9<|q8 a fun z h a=>?_;refine Yn (fun l=>l = z) (fun l=>⟨[(0,.hs 0 1 0 c.2.1.length),(1,q7 f),(6,.d (qd (w64 (g - f)))),(7,.ref 1 1 0 0),(8,.d (.int .u64 j)),(9,q7 c.1),(10,q7 l)],[(0,.dat 1 (c.2.1.map (eI .i64))),(1,.dat 1 [[.int .u64 k]])],2⟩) qe ?_ ?_
   ·refine qo J h (fun _ h=>?_) (fun _ h=>?_)
    ·refine Q3<|U J<|U J<|O _ J<|qa J<|qz ?_;obtain rfl:=qu h;exact ⟨_,J,wkA [(1,1)] [] []⟩
    refine qm<|Qk ?_;obtain rfl:=qu h;exact ⟨_,J,wkA [(1,1)] [] []⟩
   intro l hb;subst hb;refine Qm [Qu 0,q6,Qu 0,q6,qx 0,q6,q6,q6,qx 0,q6,q6,q6,q6,q6,q6,q6,q6,q6,q6,q6] qh<|U J<|U J<|U J<|U J<|U J<|O _ J<|U J<|U J<|U J<|O _ J<|q8 a fun n o a=>Q2 o J J<|Qg _ o J<|U J<|U J<|q8 a fun p q a=>Q2 q J J<|Qg _ q J<|q8 a fun ab s a=>Q2 s J J<|K0 (ds:=[qd n]) n s J J J J J J J J (leb J) J<|q8 a fun ac t a=>Q2 t qe J<|K0 (ds:=[qd p]) p t J J J J J J J J (leb J) J<|qz<|Qq<|Q3<|U J<|O _ J<|qa J<|qz<|⟨_,qq a,wkE [(1,1)] [] [] J ⟨⟨_,J,K3 qe J qw (ltd J)⟩,qp J,qp J,⟨_,J,.ref J qw (ltd J)⟩,qp J,qp J,trivial⟩ ⟨Qo J J,Qo J J,trivial⟩⟩
  refine Qh ?_;refine ⟨_,qq a,fun hm=>?_⟩;subst hm;obtain rfl:=qu b;exact ⟨.inl J,_,J,wkA [] [] []⟩
 refine qm<|Qk ?_;obtain rfl:=qu b;exact ⟨.inl J,_,J,wkA [] [] []⟩
theorem qzo (rec : List Int→Int→Int→Int→Option (List Int)) (hrec : ∀ (n : List Int) (p : Int) (q : Int) (s : Int) (r : List Int),rec n p q s = some r→K6 Tryz.prog tab 146 [.hs 0 1 0 n.length,q7 p,q7 q,q7 s] [(0,.dat 1 (n.map (eI .i64)))] 1 (.d (.tup [])) [(0,.dat 1 (r.map (eI .i64)))] 1) (n : List Int) (p : Int) (q : Int) (s : Int) (r : List Int) (o : q4s rec  n p q s = some r) : K6 Tryz.prog tab 146 [.hs 0 1 0 n.length,q7 p,q7 q,q7 s] [(0,.dat 1 (n.map (eI .i64)))] 1 (.d (.tup [])) [(0,.dat 1 (r.map (eI .i64)))] 1:=by
 unfold q4s at o;refine Kn Tryz.func146 J qh qh J<|qc<|qa J<|qt<|qa J<|q9<|q8 o fun ba bb o=>Q7<|Qj (q4r rec) (fun b=>⟨[(0,.hs 0 1 0 b.2.2.2.2.2.length),(1,q7 b.1),(2,q7 b.2.1),(3,q7 b.2.2.1),(8,Q1 b.2.2.2.1),(9,Q1 b.2.2.2.2.1)],[(0,.dat 1 (b.2.2.2.2.2.map (eI .i64)))],1⟩) _ ba bb (wkA [] [] []) ?_;intro b co a;unfold q4r at a;refine Q7<|qc<|U J<|U J<|O _ J<|qa J<|q9<|qf<|qc<|U J<|O _ J<|q9 ?_;refine qo J a (fun _ a=>?_) (fun _ a=>?_)
 ·refine qc<|U J<|U J<|U J<|q8 a fun ab bc a=>q8 a fun cp bd a=>?_;have cq:=Kh bd;refine K7 [(0,0)] [(0,0)] _ (.d (.tup [])) 1 [(0,.dat 1 (ab.map (eI .i64)))] 1 (qzf b.2.2.2.2.2 b.1 b.2.1 ab bc)<|qv ?_;refine ⟨_,qq a,fun hm=>?_⟩;subst hm;obtain rfl:=qu o;exact ⟨.inr J,_,J,wkA [] [] []⟩
 refine qm<|qf<|qc<|U J<|O _ J<|q9 ?_;refine qo J a (fun _ a=>?_) (fun _ a=>?_)
 ·refine qc<|U J<|U J<|U J<|q8 a fun ac be a=>q8 a fun cr bf a=>?_;have cs:=Kh bf;refine K7 [(0,0)] [(0,0)] _ (.d (.tup [])) 1 [(0,.dat 1 (ac.map (eI .i64)))] 1 (qzd b.2.2.2.2.2 b.1 b.2.1 ac be)<|qv ?_;refine ⟨_,qq a,fun hm=>?_⟩;subst hm;obtain rfl:=qu o;exact ⟨.inr J,_,J,wkA [] [] []⟩
 refine qm<|qf<|qc<|U J<|O _ J<|q9<|q8 a fun bg k a=>?_;refine Yn (fun c=>c = bg) (fun c=>⟨[(0,.hs 0 1 0 c.2.length),(1,q7 b.1),(2,q7 b.2.1),(3,q7 c.1),(8,Q1 b.2.2.2.1),(9,Q1 b.2.2.2.2.1),(10,.d (qd (w64 (b.2.1 - b.1))))],[(0,.dat 1 (c.2.map (eI .i64)))],1⟩) qe ?_ ?_
 ·refine qo J k (fun _ k=>?_) (fun _ k=>?_)
  ·refine qc<|U J<|U J<|U J<|q8 k fun ad bh k=>q8 k fun ct bi k=>?_;have bj:=Kh bi;refine K7 [(0,0)] [(0,0)] _ (.d (.tup [])) 1 [(0,.dat 1 (ad.map (eI .i64)))] 1 (qz9 b.2.2.2.2.2 b.1 b.2.1 ad bh)<|q9<|Q3<|U J<|O _ J<|qa J<|qz ?_;obtain rfl:=qu k;exact ⟨_,J,wkE [] [] [] J ⟨⟨_,J,K3 (by simp [bj]) J qw (ltd J)⟩,qp J,qp J,qp J,qp J,qp J,qp J,trivial⟩ ⟨Qo J J,trivial⟩⟩
  refine qm<|Qk ?_;obtain rfl:=qu k;exact ⟨_,J,wkA [] [] []⟩
 intro c hb;subst hb;refine qc<|U J<|U J<|U J<|q8 a fun bk bl a=>q2t [.hs 0 1 0 c.2.length,q7 b.1,q7 b.2.1] (qzb c.2 b.1 b.2.1 bk bl) J J (J2 (Zl J J) (J2 J (J2 J J))) (.inr J)<|U J<|O _ J<|O _ J<|qa J<|qa J<|q9<|qf<|qc<|U J<|O _ J<|q9<|q8 a fun bm l a=>?_;refine Yn (fun g=>g = bm) (fun g=>⟨[(0,.hs 0 1 0 g.2.2.length),(1,q7 b.1),(2,q7 b.2.1),(3,q7 c.1),(8,Q1 b.2.2.2.1),(9,Q1 b.2.2.2.2.1),(10,.d (qd (w64 (b.2.1 - b.1)))),(11,q7 g.1),(12,q7 g.2.1)],[(0,.dat 1 (g.2.2.map (eI .i64)))],1⟩) qe ?_ ?_
 ·refine qo J l (fun _ l=>?_) (fun _ l=>?_)
  ·refine qc<|U J<|U J<|U J<|q8 l fun ae bn l=>q8 l fun cu bo l=>?_;have bp:=Kh bo;refine K7 [(0,0)] [(0,0)] _ (.d (.tup [])) 1 [(0,.dat 1 (ae.map (eI .i64)))] 1 (qzr c.2 b.1 b.2.1 ae bn)<|qt<|U J<|O _ J<|U J<|U J<|O _ J<|O _ J<|qa J<|q9<|Q3<|qa J<|qz ?_;obtain rfl:=qu l;exact ⟨_,J,wkE [] [] [] J ⟨⟨_,J,K3 (by simp [bp]) J qw (ltd J)⟩,qp J,qp J,qp J,qp J,qp J,qp J,qp J,qp J,trivial⟩ ⟨Qo J J,trivial⟩⟩
  refine qm<|Qk ?_;obtain rfl:=qu l;exact ⟨_,J,wkA [] [] []⟩
 intro g hb;subst hb;refine qf<|qc<|U J<|q8 a fun bq t a=>?_;refine Qc 3 (fun A st=>∃ af ag,st = A [(64,Q1 bq),(63,ag),(62,af)]) ?_ ?_
 ·refine Qd J J t (fun t=>?_) (fun t=>?_)
  ·refine U J<|O _ J<|q9 ?_;cases t;exact ⟨_,_,J⟩
  refine qb J<|O _ J<|q9 ?_;cases t;exact ⟨_,_,J⟩
 rintro _ ⟨af,ag,rfl⟩;refine q8 a fun br u a=>?_;refine Qc 4 (fun A st=>∃ ah ai aj,st = A [(68,Q1 br),(67,aj),(66,ai),(65,ah)]) ?_ ?_
 ·refine Qd J J u (fun u=>?_) (fun u=>?_)
  ·refine U J<|O _ J<|O _ J<|q9 ?_;cases u;exact ⟨_,_,_,J⟩
  refine qb J<|qb J<|O _ J<|q9 ?_;cases u;exact ⟨_,_,_,J⟩
 rintro _ ⟨ah,ai,aj,rfl⟩;refine q9<|q8 a fun bs f a=>?_;refine Yn (fun m=>.inl m = bs) (fun m=>⟨[(0,.hs 0 1 0 m.length),(1,q7 b.1),(2,q7 b.2.1),(3,q7 c.1),(8,Q1 b.2.2.2.1),(9,Q1 b.2.2.2.2.1),(10,.d (qd (w64 (b.2.1 - b.1)))),(11,q7 g.1)],[(0,.dat 1 (m.map (eI .i64)))],1⟩) qe ?_ ?_
 ·refine qo J f (fun _ f=>?_) (fun _ f=>?_)
  ·refine qc<|U J<|U J<|U J<|q8 f fun x bt f=>q8 f fun cv bu f=>?_;have bv:=Kh bu;refine K7 [(0,0)] [(0,0)] _ (Q1 x.1) 1 [(0,.dat 1 (x.2.map (eI .i64)))] 1 (qzh g.2.2 b.1 b.2.1 x bt)<|q9 ?_;refine qo J f (fun _ f=>?_) (fun _ f=>?_)
   ·refine q1t ?_;obtain rfl:=qu f;refine ⟨_,qq a,fun hm=>?_⟩;subst hm;obtain rfl:=qu o;exact ⟨.inr J,_,J,wkA [] [] []⟩
   refine qm<|Qk ?_;obtain rfl:=qu f;exact ⟨_,J,wkE [] [] [] J ⟨⟨_,J,K3 (by simp [bv]) J qw (ltd J)⟩,qp J,qp J,qp J,qp J,qp J,qp J,qp J,trivial⟩ ⟨Qo J J,trivial⟩⟩
  refine qm<|Qk ?_;obtain rfl:=qu f;exact ⟨_,J,wkA [] [] []⟩
 intro m hb;subst hb;refine qf<|qf<|Qm [q6,q6,q6,qx 0,q6,q6,q6,qx 0,q6,q6,q6,q6,q6,q6,q6] qh<|U J<|O _ J<|q8 a fun bw h a=>?_;refine Qc 13 (fun A st=>∃ ak al am an ao ap aq ar au av aw ax,st = A [(87,Q1 bw),(86,ax),(85,aw),(84,av),(83,au),(82,ar),(81,aq),(80,ap),(79,ao),(78,an),(77,am),(76,al),(75,ak)]) ?_ ?_
 ·refine Qd J J h (fun h=>?_) (fun h=>?_)
  ·refine U J<|U J<|O _ J<|q8 h fun bz ay h=>Q2 ay J J<|Qg _ ay J<|U J<|U J<|q8 h fun ca az h=>Q2 az J J<|Qg _ az J<|q8 h fun cb cc h=>Q5 (Zq bz ca cb cc) J<|O _ J<|O _ J<|q9 ?_;cases h;exact ⟨_,_,_,_,_,_,_,_,_,_,_,_,J⟩
  refine qb J<|qb J<|qb J<|qb J<|qb J<|qb J<|qb J<|qb J<|qb J<|qb J<|qb J<|O _ J<|q9 ?_;cases h;exact ⟨_,_,_,_,_,_,_,_,_,_,_,_,J⟩
 rintro _ ⟨ak,al,am,an,ao,ap,aq,ar,au,av,aw,ax,rfl⟩;refine q9 ?_;refine qo J a (fun _ a=>?_) (fun _ a=>?_)
 ·refine qc<|U J<|U J<|U J<|U J<|q8 a fun y cd a=>q8 a fun cw ce a=>?_;have cf:=Kh ce;refine K7 [(0,0)] [(0,0)] _ (q7 y.1) 1 [(0,.dat 1 (y.2.map (eI .i64)))] 1 (qzk m b.1 b.2.1 g.1 y cd)<|qa J<|qt<|U J<|qa J<|q9<|Qh<|Ju<|Qk<|⟨_,qq a,wkE [] [] [] J ⟨⟨_,J,K3 (by simp [cf]) J qw (ltd J)⟩,qp J,qp J,qp J,qp J,qp J,trivial⟩ ⟨Qo J J,trivial⟩⟩
 refine qm<|qc<|U J<|U J<|U J<|U J<|q8 a fun j cg a=>q8 a fun cx ch a=>?_;have v:=Kh ch;refine K7 [(0,0)] [(0,0)] _ (.d (.tup [qd j.1,.bool j.2.1])) 1 [(0,.dat 1 (j.2.2.map (eI .i64)))] 1 (qzl m b.1 b.2.1 g.1 j cg)<|U J<|O _ J<|O _ J<|qa J<|qa J<|qt<|U J<|qa J<|qt<|U J<|U J<|O _ J<|U J<|U J<|O _ J<|qa J<|qa J<|qt<|U J<|O _ J<|qa J<|qt<|U J<|U J<|O _ J<|q9 ?_;refine qo J a (fun _ a=>?_) (fun _ a=>?_)
 ·refine qc<|U J<|U J<|O _ J<|qa J<|qt<|U J<|U J<|U J<|U J<|q8 a fun z ci a=>q8 a fun cy cj a=>?_;have ck:=Kh cj;refine Jz [(0,0)] [(0,0)] [.hs 0 1 0 m.length,q7 b.1,q7 j.1,q7 c.1] (.d (.tup [])) [(0,.dat 1 (z.map (eI .i64)))] [(0,.dat 1 (z.map (eI .i64)))] 1 (hrec j.2.2 b.1 j.1 c.1 z ci) J J J (Yh [(0,0)] [] [] J ⟨⟨_,J,K3 (by simp [v]) J qw (ltd J)⟩,qp J,qp J,qp J,trivial⟩ ⟨Qo J J,trivial⟩) (Yh [(0,0)] [] [] J ⟨qp J,trivial⟩ ⟨Qo J J,trivial⟩) J ⟨.inl J,trivial⟩<|q9<|Q3<|U J<|O _ J<|qa J<|qz<|Qq<|Qk<|⟨_,qq a,wkE [] [] [] J ⟨⟨_,J,K3 (by simp [v,ck]) J qw (ltd J)⟩,qp J,qp J,qp J,qp J,qp J,trivial⟩ ⟨Qo J J,trivial⟩⟩
 refine qc<|U J<|U J<|O _ J<|qa J<|qt<|U J<|U J<|O _ J<|U J<|U J<|q8 a fun aa cl a=>q8 a fun cz cm a=>?_;have cn:=Kh cm;refine Jz [(0,0)] [(0,0)] [.hs 0 1 0 m.length,.d (qd (w64 (j.1 + 1))),q7 b.2.1,q7 c.1] (.d (.tup [])) [(0,.dat 1 (aa.map (eI .i64)))] [(0,.dat 1 (aa.map (eI .i64)))] 1 (hrec j.2.2 (w64 (j.1 + 1)) b.2.1 c.1 aa cl) J J J (Yh [(0,0)] [] [] J ⟨⟨_,J,K3 (by simp [v]) J qw (ltd J)⟩,qp J,qp J,qp J,trivial⟩ ⟨Qo J J,trivial⟩) (Yh [(0,0)] [] [] J ⟨qp J,trivial⟩ ⟨Qo J J,trivial⟩) J ⟨.inl J,trivial⟩<|q9<|Q3<|U J<|qa J<|qz<|Qq<|Qk<|⟨_,qq a,wkE [] [] [] J ⟨⟨_,J,K3 (by simp [v,cn]) J qw (ltd J)⟩,qp J,qp J,qp J,qp J,qp J,trivial⟩ ⟨Qo J J,trivial⟩⟩
theorem qzp (n : Nat) : ∀ (a : List Int) (b : Int) (c : Int) (f : Int) (r : List Int),q7j n  a b c f = some r→K6 Tryz.prog tab 146 [.hs 0 1 0 a.length,q7 b,q7 c,q7 f] [(0,.dat 1 (a.map (eI .i64)))] 1 (.d (.tup [])) [(0,.dat 1 (r.map (eI .i64)))] 1:=by
 induction n with
 | zero=>intro a b c f r g;cases g
 | succ n ih=>intro a b c f r g;exact qzo (q7j n )   ih a b c f r g
theorem qdb (b : List Int) (r : List Int) (a : U2  b = some r) : K6 Tryz.prog tab 132 [.hs 0 1 0 b.length] [(0,.dat 1 (b.map (eI .i64)))] 1 (.d (.tup [])) [(0,.dat 1 (r.map (eI .i64)))] 1:=by
 unfold U2 at a;refine Kn Tryz.func132 J qh qh J<|qc<|U J<|O _ J<|qa J<|q9<|Q3<|U J<|U J<|U J<|O _ J<|q8 a fun f h a=>Q5 (qfy (IntKind.wrap .u64 (b.length : Int)) f h) J<|q8 a fun g c a=>q8 a fun l j a=>?_;have m:=Kh j;obtain ⟨k,c⟩:=qft c;refine K7 [(0,0)] [(0,0)] _ (.d (.tup [])) 1 [(0,.dat 1 (g.map (eI .i64)))] 1 (qzp k b 0 (b.length : Int) f g c)<|qz ?_;obtain rfl:=qu a;exact ⟨.inl J,_,J,wkA [] [] []⟩
theorem qd4 (d : List Int) (r : (Nat × Nat) × List Int) (c : Uy  d = some r) : K6 Tryz.prog tab 133 [.hs 0 1 0 d.length] [(0,.dat 1 (d.map (eI .i64)))] 1 (.hs 0 1 r.1.1 r.1.2) [(0,.dat 1 (r.2.map (eI .i64)))] 1:=by
 unfold Uy at c;refine Kn Tryz.func133 J qh qh J<|qc<|qa J<|q9<|qf<|qc<|U J<|O _ J<|O _ J<|q9 ?_;refine qo J c (fun _ c=>?_) (fun _ c=>?_)
 ·refine qc<|U J<|qa J<|qv ?_;obtain rfl:=qu c;exact ⟨.inr J,_,J,wkA [] [] []⟩
 refine qm<|qf<|qc<|qa J<|q9<|q8 c fun m z c=>?_;refine Qn (fun k=>.inl k = m) (fun k=>⟨[(0,.hs 0 1 0 d.length)],[(0,.dat 1 (d.map (eI .i64)))],1⟩) qe ?_ ?_
 ·refine Qj (Jg d) (fun n=>⟨[(0,.hs 0 1 0 d.length),(3,q7 n)],[(0,.dat 1 (d.map (eI .i64)))],1⟩) _ m z (wkA [] [] []) ?_;intro n ae a;unfold Jg at a;refine qf<|qc<|U J<|U J<|O _ J<|O _ J<|q9 ?_;refine qo J a (fun _ a=>?_) (fun _ a=>?_)
  ·refine qm<|qf<|Q7<|qf<|Qm [q6,qx 0,q6,q6,q6,q6,qx 0,q6,q6,q6] qh<|U J<|U J<|q8 a fun af o a=>Q2 o J J<|Qg _ o J<|U J<|U J<|O _ J<|q8 a fun ag p a=>Q2 p J J<|Qg _ p J<|O _ J<|q9 ?_;refine qo J a (fun _ a=>?_) (fun _ a=>?_)
   ·refine qc<|U J<|U J<|q8 a fun ah aa a=>q8y aa J J J J J (q8c J) (fun _=>rfl)<|qa J<|q9<|qf<|qc<|qa J<|q9<|q8 a fun q ab a=>?_;refine Qn (fun f=>f = q) (fun f=>⟨[(0,.hs 0 1 0 f.2.length),(3,q7 f.1)],[(0,.dat 1 (f.2.map (eI .i64)))],1⟩) qe ?_ ?_
    ·refine Qj (q1v) (fun g=>⟨[(0,.hs 0 1 0 g.2.2.2.length),(3,q7 g.1),(4,.hs 0 1 g.2.1.1 g.2.1.2),(5,q7 g.2.2.1)],[(0,.dat 1 (g.2.2.2.map (eI .i64)))],1⟩) _ q ab (wkA [] [] []) ?_;intro g ai h;unfold q1v at h;refine qf<|qc<|U J<|U J<|O _ J<|O _ J<|q9 ?_;refine qo J h (fun _ h=>?_) (fun _ h=>?_)
     ·refine qm<|qf<|q8 h fun ac b h=>?_;refine Qn (fun j=>j = ac) (fun j=>⟨[(0,.hs 0 1 0 j.2.2.length),(3,q7 j.1),(4,.hs 0 1 j.2.1.1 j.2.1.2),(5,q7 g.2.2.1)],[(0,.dat 1 (j.2.2.map (eI .i64)))],1⟩) qe ?_ ?_
      ·refine qf<|Qm [q6,qx 0,q6,q6,q6,q6,qx 0,q6,q6,q6] qh<|U J<|U J<|q8 b fun aj s b=>qga s J J J J J J<|Qg _ (qfk s) J<|U J<|U J<|O _ J<|q8 b fun ak t b=>qga t J J J J J J<|Qg _ (qfk t) J<|O _ J<|q9 ?_;refine qo J b (fun _ b=>?_) (fun _ b=>?_)
       ·refine qc<|U J<|U J<|U J<|U J<|q8 b fun u v b=>qga v J J J J J J<|Qg _ (qfk v) J<|q8 b fun al x b=>Q2 x J J<|K0 (ds:=[qd u]) u x J J J J J J J J (leb J) J<|q9<|Q3<|U J<|O _ J<|qa J<|qz ?_;obtain rfl:=qu b;exact ⟨_,J,wkE [] [] [] J ⟨⟨_,J,K3 qe J qw (ltd J)⟩,qp J,⟨_,J,.hs J qw (ltd J)⟩,qp J,trivial⟩ ⟨Qo J J,trivial⟩⟩
       refine qm<|Qk ?_;obtain rfl:=qu b;exact ⟨_,J,wkA [] [] []⟩
      intro j hb;subst hb;refine Q3<|U J<|O _ J<|qa J<|qz<|⟨_,qq h,wkA [] [] []⟩
     refine Qh ?_;refine ⟨_,qq h,fun hm=>?_⟩;subst hm;exact ⟨_,J,wkA [] [] []⟩
    intro f hb;subst hb;refine qc<|U J<|U J<|q8 a fun y l a=>q8y l J J J J J (q8c J) (fun _=>rfl)<|qu7 (w:=y) (xs:=f.2) (enc:=(eI .i64)) 0 (qas l) J J J J J J J ?_;have am:=@qii _ f.2 y 0 (qas l);refine qt<|U J<|U J<|q8 a fun an ad a=>q8y ad J J J J J (fun _=>rfl) (q8c J)<|qa J<|qv ?_;refine ⟨_,qq a,fun hm=>?_⟩;subst hm;obtain rfl:=qu c;exact ⟨.inr J,_,J,wkA [] [] []⟩
   refine qm<|Qk<|Qq<|Q3<|U J<|O _ J<|qa J<|qz<|⟨_,qq a,wkA [] [] []⟩
  refine Qh ?_;refine ⟨_,qq a,fun hm=>?_⟩;subst hm;exact ⟨_,J,wkA [] [] []⟩
 intro k hb;subst hb;refine qc<|U J<|qa J<|qv ?_;obtain rfl:=qu c;exact ⟨.inr J,_,J,wkA [] [] []⟩
theorem qz2 (b : List qi) (f : qi→Option Bool) (p1F : FuncId) (p1C : List DV) (p1Ok : ∀ (h : qi) (r : Bool),f h = some r→Pure Tryz.prog tab p1F ([.agg (qy h)] ++ p1C) (.bool r)) (r : Int) (c : qd9 b f = some r) : Pure Tryz.prog tab 148 [.sl 4 (b.map qy),.fn p1F p1C] (qd r):=by
 unfold qd9 at c;refine Qr Tryz.func148 J qh qh J<|qc<|qa J<|q9<|qf<|qc<|U J<|Qx J<|U J<|q9<|q8 c fun j l c=>?_;refine Qn (fun g=>.inl g = j) (fun g=>⟨[],[],0⟩) qe ?_ ?_
 ·refine Qj (q4k b f) (fun k=>⟨[(0,.d (.sl 4 (b.map qy))),(1,.d (.fn p1F p1C)),(7,q7 (b.length : Int)),(8,q7 k)],[],0⟩) _ j l (wkA [] [] []) ?_;intro k q a;unfold q4k at a;refine qc<|O _ J<|q9<|qf ?_;refine qo J a (fun _ a=>?_) (fun _ a=>?_)
  ·refine qm<|qf<|Q7<|qc<|U J<|qa J<|qt<|U J<|U J<|U J<|q8 a fun m n a=>Ql n J<|O _ J<|q8 a fun o p a=>Yu _ (p1Ok m o p) J J J (.inl J)<|q9 ?_;refine qo J a (fun _ a=>?_) (fun _ a=>?_)
   ·refine qc<|U J<|qa J<|qv ?_;refine ⟨_,qq a,fun hm=>?_⟩;subst hm;cases c;exact Q8 _ J
   refine qm<|Qk<|Qq<|Q3<|O _ J<|U J<|qz<|⟨_,qq a,wkA [] [] []⟩
  refine Qh ?_;refine ⟨_,qq a,fun hm=>?_⟩;subst hm;exact ⟨_,J,wkA [] [] []⟩
 intro g hb;subst hb;refine qc<|qa J<|qv ?_;cases c;exact Q8 _ J
theorem qyy (b : List qi) (c : qi→Option Bool) (p1F : FuncId) (p1C : List DV) (p1Ok : ∀ (d : qi) (r : Bool),c d = some r→Pure Tryz.prog tab p1F ([.agg (qy d)] ++ p1C) (.bool r)) (r : Bool) (a : q9k b c = some r) : Pure Tryz.prog tab 135 [.sl 4 (b.map qy),.fn p1F p1C] (.bool r):=by
 unfold q9k at a;refine Qr Tryz.func135 J qh qh J<|qc<|qa J<|qt<|U J<|U J<|q8 a fun f g a=>Q5 (qz2 b c p1F p1C p1Ok f g) J<|O _ J<|qa J<|qv ?_;cases a;exact Q8 _ J
theorem qcu (c : Int) (r : Bool) (b : q2z c = some r) : Pure Tryz.prog tab 149 [qd c] (.bool r):=by
 unfold q2z at b;refine Qr Tryz.func149 J qh qh J<|qc<|qa J<|qt<|U J<|O _ J<|q8 b fun h a b=>?_;refine Qc 4 (fun A st=>∃ d f g,st = A [(8,Q1 h),(7,g),(6,f),(5,d)]) ?_ ?_
 ·refine Qd J J a (fun a=>?_) (fun a=>?_)
  ·refine U J<|O _ J<|O _ J<|q9 ?_;cases a;exact ⟨_,_,_,J⟩
  refine qb J<|qb J<|O _ J<|q9 ?_;cases a;exact ⟨_,_,_,J⟩
 rintro _ ⟨d,f,g,rfl⟩;refine qa J<|qv ?_;cases b;exact Q8 _ J
theorem qmu (g : qi) (r : Bool) (a : q6i g = some r) : Pure Tryz.prog tab 137 [.agg (qy g)] (.bool r):=by
 unfold q6i at a;refine Qr Tryz.func137 J qh qh J<|qc<|Qp _ _ J<|qa J<|qt<|O _ J<|O _ J<|O _ J<|O _ J<|O _ J<|q8 a fun c1 h a=>?_;refine Qc 7 (fun A st=>∃ j k l m n o,st = A [(14,Q1 c1),(13,o),(12,n),(11,m),(10,l),(9,k),(8,j)]) ?_ ?_
 ·refine Qd J J h (fun h=>?_) (fun h=>?_)
  ·refine O _ J<|O _ J<|O _ J<|O _ J<|O _ J<|O _ J<|q9 ?_;cases h;exact ⟨_,_,_,_,_,_,J⟩
  refine qb J<|qb J<|qb J<|qb J<|qb J<|O _ J<|q9 ?_;cases h;exact ⟨_,_,_,_,_,_,J⟩
 rintro _ ⟨j,k,l,m,n,o,rfl⟩;refine q8 a fun ai b a=>?_;refine Qc 5 (fun A st=>∃ p q s t,st = A [(19,Q1 ai),(18,t),(17,s),(16,q),(15,p)]) ?_ ?_
 ·refine Qd J J b (fun b=>?_) (fun b=>?_)
  ·refine O _ J<|O _ J<|q8 b fun aj ak b=>Q5 (qcu g.X0 aj ak) J<|O _ J<|q9 ?_;cases b;exact ⟨_,_,_,_,J⟩
  refine qb J<|qb J<|qb J<|O _ J<|q9 ?_;cases b;exact ⟨_,_,_,_,J⟩
 rintro _ ⟨p,q,s,t,rfl⟩;refine q8 a fun al c a=>?_;refine Qc 5 (fun A st=>∃ u v x y,st = A [(24,Q1 al),(23,y),(22,x),(21,v),(20,u)]) ?_ ?_
 ·refine Qd J J c (fun c=>?_) (fun c=>?_)
  ·refine O _ J<|O _ J<|q8 c fun am an c=>Q5 (qcu g.X1 am an) J<|O _ J<|q9 ?_;cases c;exact ⟨_,_,_,_,J⟩
  refine qb J<|qb J<|qb J<|O _ J<|q9 ?_;cases c;exact ⟨_,_,_,_,J⟩
 rintro _ ⟨u,v,x,y,rfl⟩;refine q8 a fun ao d a=>?_;refine Qc 5 (fun A st=>∃ z aa ab ac,st = A [(29,Q1 ao),(28,ac),(27,ab),(26,aa),(25,z)]) ?_ ?_
 ·refine Qd J J d (fun d=>?_) (fun d=>?_)
  ·refine O _ J<|O _ J<|q8 d fun ap aq d=>Q5 (qcu g.Y0 ap aq) J<|O _ J<|q9 ?_;cases d;exact ⟨_,_,_,_,J⟩
  refine qb J<|qb J<|qb J<|O _ J<|q9 ?_;cases d;exact ⟨_,_,_,_,J⟩
 rintro _ ⟨z,aa,ab,ac,rfl⟩;refine q8 a fun ar f a=>?_;refine Qc 5 (fun A st=>∃ ad ae af ag,st = A [(34,Q1 ar),(33,ag),(32,af),(31,ae),(30,ad)]) ?_ ?_
 ·refine Qd J J f (fun f=>?_) (fun f=>?_)
  ·refine O _ J<|O _ J<|q8 f fun au av f=>Q5 (qcu g.Y1 au av) J<|O _ J<|q9 ?_;cases f;exact ⟨_,_,_,_,J⟩
  refine qb J<|qb J<|qb J<|O _ J<|q9 ?_;cases f;exact ⟨_,_,_,_,J⟩
 rintro _ ⟨ad,ae,af,ag,rfl⟩;refine qa J<|qv ?_;cases a;exact Q8 _ J
theorem qwp (b : qi) (r : Bool) (a : q2y b = some r) : Pure Tryz.prog tab 136 [.agg (qy b)] (.bool r):=by
 unfold q2y at a;refine Qr Tryz.func136 J qh qh J<|qc<|Qp _ _ J<|qa J<|qt<|O _ J<|q8 a fun c d a=>Q5 (qmu b c d) J<|O _ J<|qa J<|qv ?_;cases a;exact Q8 _ J
theorem qz5 (b : List qj) (f : qj→Option Bool) (p1F : FuncId) (p1C : List DV) (p1Ok : ∀ (h : qj) (r : Bool),f h = some r→Pure Tryz.prog tab p1F ([.agg (Qi h)] ++ p1C) (.bool r)) (r : Int) (c : q9n b f = some r) : Pure Tryz.prog tab 182 [.sl 2 (b.map Qi),.fn p1F p1C] (qd r):=by
 unfold q9n at c;refine Qr Tryz.func182 J qh qh J<|qc<|qa J<|q9<|qf<|qc<|U J<|Qx J<|U J<|q9<|q8 c fun j l c=>?_;refine Qn (fun g=>.inl g = j) (fun g=>⟨[],[],0⟩) qe ?_ ?_
 ·refine Qj (q34 b f) (fun k=>⟨[(0,.d (.sl 2 (b.map Qi))),(1,.d (.fn p1F p1C)),(7,q7 (b.length : Int)),(8,q7 k)],[],0⟩) _ j l (wkA [] [] []) ?_;intro k q a;unfold q34 at a;refine qc<|O _ J<|q9<|qf ?_;refine qo J a (fun _ a=>?_) (fun _ a=>?_)
  ·refine qm<|qf<|Q7<|qc<|U J<|qa J<|qt<|U J<|U J<|U J<|q8 a fun m n a=>Ql n J<|O _ J<|q8 a fun o p a=>Yu _ (p1Ok m o p) J J J (.inl J)<|q9 ?_;refine qo J a (fun _ a=>?_) (fun _ a=>?_)
   ·refine qc<|U J<|qa J<|qv ?_;refine ⟨_,qq a,fun hm=>?_⟩;subst hm;cases c;exact Q8 _ J
   refine qm<|Qk<|Qq<|Q3<|O _ J<|U J<|qz<|⟨_,qq a,wkA [] [] []⟩
  refine Qh ?_;refine ⟨_,qq a,fun hm=>?_⟩;subst hm;exact ⟨_,J,wkA [] [] []⟩
 intro g hb;subst hb;refine qc<|qa J<|qv ?_;cases c;exact Q8 _ J
theorem qz0 (b : List qj) (c : qj→Option Bool) (p1F : FuncId) (p1C : List DV) (p1Ok : ∀ (d : qj) (r : Bool),c d = some r→Pure Tryz.prog tab p1F ([.agg (Qi d)] ++ p1C) (.bool r)) (r : Bool) (a : q9m b c = some r) : Pure Tryz.prog tab 169 [.sl 2 (b.map Qi),.fn p1F p1C] (.bool r):=by
 unfold q9m at a;refine Qr Tryz.func169 J qh qh J<|qc<|qa J<|qt<|U J<|U J<|q8 a fun f g a=>Q5 (qz5 b c p1F p1C p1Ok f g) J<|O _ J<|qa J<|qv ?_;cases a;exact Q8 _ J
theorem qo3 (d : qj) (r : Bool) (a : q3b d = some r) : Pure Tryz.prog tab 154 [.agg (Qi d)] (.bool r):=by
 unfold q3b at a;refine Qr Tryz.func154 J qh qh J<|qc<|Qp _ _ J<|qa J<|qt<|O _ J<|O _ J<|O _ J<|O _ J<|O _ J<|q8 a fun o b a=>?_;refine Qc 5 (fun A st=>∃ f g h j,st = A [(12,Q1 o),(11,j),(10,h),(9,g),(8,f)]) ?_ ?_
 ·refine Qd J J b (fun b=>?_) (fun b=>?_)
  ·refine O _ J<|O _ J<|O _ J<|O _ J<|q9 ?_;cases b;exact ⟨_,_,_,_,J⟩
  refine qb J<|qb J<|qb J<|O _ J<|q9 ?_;cases b;exact ⟨_,_,_,_,J⟩
 rintro _ ⟨f,g,h,j,rfl⟩;refine q8 a fun p c a=>?_;refine Qc 5 (fun A st=>∃ k l m n,st = A [(17,Q1 p),(16,n),(15,m),(14,l),(13,k)]) ?_ ?_
 ·refine Qd J J c (fun c=>?_) (fun c=>?_)
  ·refine O _ J<|O _ J<|O _ J<|O _ J<|q9 ?_;cases c;exact ⟨_,_,_,_,J⟩
  refine qb J<|qb J<|qb J<|O _ J<|q9 ?_;cases c;exact ⟨_,_,_,_,J⟩
 rintro _ ⟨k,l,m,n,rfl⟩;refine qa J<|qv ?_;cases a;exact Q8 _ J
theorem q12b (b : qj) (r : Bool) (a : qdj b = some r) : Pure Tryz.prog tab 170 [.agg (Qi b)] (.bool r):=by
 unfold qdj at a;refine Qr Tryz.func170 J qh qh J<|qc<|Qp _ _ J<|qa J<|qt<|O _ J<|q8 a fun c d a=>Q5 (qo3 b c d) J<|O _ J<|qa J<|qv ?_;cases a;exact Q8 _ J
theorem q12h (a : qn) (b : qn) (r : Int) (c : qao a b = some r) : Pure Tryz.prog tab 174 [.agg (Qf a),.agg (Qf b)] (qd r):=by
 unfold qao at c;refine Qr Tryz.func174 J qh qh J<|qc<|Qp _ _ J<|Qp _ _ J<|qa J<|qt<|O _ J<|O _ J<|O _ J<|O _ J<|O _ J<|qa J<|qv ?_;cases c;exact Q8 _ J
theorem qze (k : qn→qn→Option Int) (q1F : FuncId) (q1C : List DV) (q1Ok : ∀ (p : qn) (q : qn) (r : Int),k p q = some r→Pure Tryz.prog tab q1F ([.agg (Qf p),.agg (Qf q)] ++ q1C) (qd r)) (n : List qn) (f : Int) (g : Int) (r : List qn) (l : q9u k n f g = some r) : K6 Tryz.prog tab 186 [.hs 0 3 0 n.length,q7 f,q7 g,.d (.fn q1F q1C)] [(0,.dat 3 (n.map Qf))] 1 (.d (.tup [])) [(0,.dat 3 (r.map Qf))] 1:=by
 unfold q9u at l;refine Kn Tryz.func186 J qh qh J<|qc<|U J<|O _ J<|qa J<|q9<|q8 l fun am an l=>Q7<|Qj (q9v g f k) (fun h=>⟨[(0,.hs 0 3 0 h.2.length),(1,q7 f),(2,q7 g),(3,.d (.fn q1F q1C)),(8,q7 h.1)],[(0,.dat 3 (h.2.map Qf))],1⟩) _ am an (wkA [] [] []) ?_;intro h ba c;unfold q9v at c;refine qf<|qc<|U J<|U J<|O _ J<|q9 ?_;refine qo J c (fun _ c=>?_) (fun _ c=>?_)
 ·refine qm<|qf<|q8 c fun ao o c=>?_;refine Qn (fun j=>j = ao) (fun j=>⟨[(0,.hs 0 3 0 j.length),(1,q7 f),(2,q7 g),(3,.d (.fn q1F q1C)),(8,q7 h.1)],[(0,.dat 3 (j.map Qf))],1⟩) qe ?_ ?_
  ·refine qc<|U J<|qa J<|q9<|q8 o fun ap aq o=>Q7<|Qj (q9w f k) (fun m=>⟨[(0,.hs 0 3 0 m.2.length),(1,q7 f),(2,q7 g),(3,.d (.fn q1F q1C)),(8,q7 h.1),(9,q7 m.1)],[(0,.dat 3 (m.2.map Qf))],1⟩) _ ap aq (wkA [] [] []) ?_;intro m bb a;unfold q9w at a;refine qf<|qf<|Qm [q6,q6,q6,qx 0,q6,q6,q6,q6,qx 0,q6,q6,q6,q6,q6,q6,q6,q6] qh<|U J<|U J<|O _ J<|q8 a fun ar b a=>?_;refine Qc 14 (fun A st=>∃ s t u v x y z aa ab ac ad ae af,st = A [(34,Q1 ar),(33,af),(32,ae),(31,ad),(30,ac),(29,ab),(28,aa),(27,z),(26,y),(25,x),(24,v),(23,u),(22,t),(21,s)]) ?_ ?_
   ·refine Qd J J b (fun b=>?_) (fun b=>?_)
    ·refine U J<|U J<|U J<|q8 b fun au ag b=>Q2 ag J J<|Qg _ ag J<|U J<|U J<|O _ J<|q8 b fun av ah b=>Q2 ah J J<|Qg _ ah J<|q8 b fun aw ax b=>Yu _ (q1Ok au av aw ax) J J J (.inl J)<|O _ J<|O _ J<|q9 ?_;cases b;exact ⟨_,_,_,_,_,_,_,_,_,_,_,_,_,J⟩
    refine qb J<|qb J<|qb J<|qb J<|qb J<|qb J<|qb J<|qb J<|qb J<|qb J<|qb J<|qb J<|O _ J<|q9 ?_;cases b;exact ⟨_,_,_,_,_,_,_,_,_,_,_,_,_,J⟩
   rintro _ ⟨s,t,u,v,x,y,z,aa,ab,ac,ad,ae,af,rfl⟩;refine q9 ?_;refine qo J a (fun _ a=>?_) (fun _ a=>?_)
   ·refine qm<|qf<|Q7<|Qm [Qu 0,q6,Qu 0,q6,qx 0,q6,q6,q6,qx 0,q6,q6,q6,q6,q6,q6,q6,q6,q6] qh<|U J<|U J<|U J<|U J<|O _ J<|U J<|U J<|O _ J<|q8 a fun ay ai a=>Q2 ai J J<|Qg _ ai J<|U J<|U J<|q8 a fun az aj a=>Q2 aj J J<|Qg _ aj J<|q8 a fun bc ak a=>Q2 ak J J<|K0 ay ak J J J J J J J J (leb J) J<|q8 a fun bd al a=>Q2 al qe J<|K0 az al J J J J J J J J (leb J) J<|qz<|Qq<|Q3<|U J<|O _ J<|qa J<|qz<|⟨_,qq a,wkE [] [] [] J ⟨⟨_,J,K3 qe J qw (ltd J)⟩,qp J,qp J,qp J,qp J,qp J,trivial⟩ ⟨Qo J J,trivial⟩⟩
   refine Qh ?_;refine ⟨_,qq a,fun hm=>?_⟩;subst hm;obtain rfl:=qu o;exact ⟨_,J,wkA [] [] []⟩
  intro j hb;subst hb;refine Q3<|U J<|O _ J<|qa J<|qz<|⟨_,qq c,wkA [] [] []⟩
 refine Qh ?_;refine ⟨_,qq c,fun hm=>?_⟩;subst hm;obtain rfl:=qu l;exact ⟨.inl J,_,J,wkA [] [] []⟩
theorem qnn (l : qn→qn→Option Int) (q1F : FuncId) (q1C : List DV) (q1Ok : ∀ (n : qn) (o : qn) (r : Int),l n o = some r→Pure Tryz.prog tab q1F ([.agg (Qf n),.agg (Qf o)] ++ q1C) (qd r)) (m : List qn) (p : Int) (f : Int) (g : Int) (r : List qn) (h : q7l l m p f g = some r) : K6 Tryz.prog tab 194 [.hs 0 3 0 m.length,q7 p,q7 f,q7 g,.d (.fn q1F q1C)] [(0,.dat 3 (m.map Qf))] 1 (.d (.tup [])) [(0,.dat 3 (r.map Qf))] 1:=by
 unfold q7l at h;refine Kn Tryz.func194 J qh qh J<|qc<|U J<|qa J<|q9<|q8 h fun ar au h=>Q7<|Qj (qae f g l) (fun c=>⟨[(0,.hs 0 3 0 c.2.length),(2,q7 f),(3,q7 g),(4,.d (.fn q1F q1C)),(10,q7 c.1)],[(0,.dat 3 (c.2.map Qf))],1⟩) _ ar au (wkA [] [] []) ?_;intro c bh a;unfold qae at a;refine Q7<|qc<|U J<|O _ J<|O _ J<|qa J<|q9<|qf<|qc<|U J<|U J<|O _ J<|q9 ?_;refine qo J a (fun _ a=>?_) (fun _ a=>?_)
 ·refine Qh ?_;refine ⟨_,qq a,fun hm=>?_⟩;subst hm;obtain rfl:=qu h;exact ⟨.inl J,_,J,wkA [] [] []⟩
 refine qm<|qf<|qf<|Qm [q6,q6,q6,qx 0,q6,q6,q6,q6,q6,q6,qx 0,q6,q6,q6,q6,q6,q6,q6,q6,q6,q6,q6] qh<|U J<|O _ J<|U J<|O _ J<|q8 a fun av b a=>?_;refine Qc 18 (fun A st=>∃ q s t u v x y z aa ab ac ad ae af ag ah ai,st = A [(40,Q1 av),(39,ai),(38,ah),(37,ag),(36,af),(35,ae),(34,ad),(33,ac),(32,ab),(31,aa),(30,z),(29,y),(28,x),(27,v),(26,u),(25,t),(24,s),(23,q)]) ?_ ?_
 ·refine Qd J J b (fun b=>?_) (fun b=>?_)
  ·refine U J<|U J<|U J<|U J<|O _ J<|q8 b fun aw aj b=>Q2 aj J J<|Qg _ aj J<|U J<|U J<|U J<|O _ J<|O _ J<|q8 b fun ax ak b=>Q2 ak J J<|Qg _ ak J<|q8 b fun ay az b=>Yu _ (q1Ok aw ax ay az) J J J (.inl J)<|O _ J<|O _ J<|q9 ?_;cases b;exact ⟨_,_,_,_,_,_,_,_,_,_,_,_,_,_,_,_,_,J⟩
  refine qb J<|qb J<|qb J<|qb J<|qb J<|qb J<|qb J<|qb J<|qb J<|qb J<|qb J<|qb J<|qb J<|qb J<|qb J<|qb J<|O _ J<|q9 ?_;cases b;exact ⟨_,_,_,_,_,_,_,_,_,_,_,_,_,_,_,_,_,J⟩
 rintro _ ⟨q,s,t,u,v,x,y,z,aa,ab,ac,ad,ae,af,ag,ah,ai,rfl⟩;refine q9<|q8 a fun ba j a=>?_;refine Yn (fun k=>k = ba) (fun k=>⟨[(0,.hs 0 3 0 c.2.length),(2,q7 f),(3,q7 g),(4,.d (.fn q1F q1C)),(10,q7 c.1),(11,q7 k)],[(0,.dat 3 (c.2.map Qf))],1⟩) qe ?_ ?_
 ·refine qo J j (fun _ j=>?_) (fun _ j=>?_)
  ·refine Q3<|U J<|O _ J<|qa J<|qz ?_;obtain rfl:=qu j;exact ⟨_,J,wkA [] [] []⟩
  refine qm<|Qk ?_;obtain rfl:=qu j;exact ⟨_,J,wkA [] [] []⟩
 intro k hb;subst hb;refine qf<|qf<|Qm [q6,q6,q6,qx 0,q6,q6,q6,q6,q6,qx 0,q6,q6,q6,q6,q6,q6] qh<|U J<|U J<|U J<|U J<|O _ J<|q8 a fun bb al a=>Q2 al J J<|Qg _ al J<|U J<|U J<|U J<|O _ J<|q8 a fun bc am a=>Q2 am J J<|Qg _ am J<|q8 a fun bd be a=>Yu _ (q1Ok bb bc bd be) J J J (.inl J)<|O _ J<|O _ J<|q9 ?_;refine qo J a (fun _ a=>?_) (fun _ a=>?_)
 ·refine q1t ?_;refine ⟨_,qq a,fun hm=>?_⟩;subst hm;obtain rfl:=qu h;exact ⟨.inr J,_,J,wkA [] [] []⟩
 refine qm<|qf<|Qm [Qu 0,q6,Qu 0,q6,qx 0,q6,q6,q6,q6,q6,qx 0,q6,q6,q6,q6,q6,q6,q6,q6,q6,q6,q6,q6,q6] qh<|U J<|U J<|U J<|O _ J<|U J<|U J<|U J<|O _ J<|U J<|U J<|U J<|O _ J<|q8 a fun bf an a=>Q2 an J J<|Qg _ an J<|U J<|U J<|U J<|O _ J<|q8 a fun bg ao a=>Q2 ao J J<|Qg _ ao J<|q8 a fun bi ap a=>Q2 ap J J<|K0 bf ap J J J J J J J J (leb J) J<|q8 a fun bj aq a=>Q2 aq qe J<|K0 bg aq J J J J J J J J (leb J) J<|q9<|Q3<|U J<|qa J<|qz<|Qq<|Qk<|⟨_,qq a,wkE [] [] [] J ⟨⟨_,J,K3 qe J qw (ltd J)⟩,qp J,qp J,qp J,qp J,trivial⟩ ⟨Qo J J,trivial⟩⟩
theorem qzc (g : qn→qn→Option Int) (q1F : FuncId) (q1C : List DV) (q1Ok : ∀ (o : qn) (p : qn) (r : Int),g o p = some r→Pure Tryz.prog tab q1F ([.agg (Qf o),.agg (Qf p)] ++ q1C) (qd r)) (m : List qn) (b : Int) (h : Int) (r : List qn) (j : q9r g m b h = some r) : K6 Tryz.prog tab 187 [.hs 0 3 0 m.length,q7 b,q7 h,.d (.fn q1F q1C)] [(0,.dat 3 (m.map Qf))] 1 (.d (.tup [])) [(0,.dat 3 (r.map Qf))] 1:=by
 unfold q9r at j;refine Kn Tryz.func187 J qh qh J<|qc<|U J<|qa J<|qt<|qa J<|qt<|U J<|U J<|O _ J<|qa J<|q9<|qf<|qc<|U J<|O _ J<|O _ J<|qa J<|q9<|q8 j fun q aa j=>?_;refine Qn (fun l=>l = q) (fun l=>⟨[(0,.hs 0 3 0 l.length),(3,.d (.fn q1F q1C)),(8,q7 b),(9,q7 0),(10,.d (qd (w64 (h - b))))],[(0,.dat 3 (l.map Qf))],1⟩) qe ?_ ?_
 ·refine Qj (q9s g h b) (fun k=>⟨[(0,.hs 0 3 0 k.2.length),(3,.d (.fn q1F q1C)),(8,q7 b),(9,q7 0),(10,.d (qd (w64 (h - b)))),(11,q7 k.1)],[(0,.dat 3 (k.2.map Qf))],1⟩) _ q aa (wkA [] [] []) ?_;intro k aj c;unfold q9s at c;refine qf<|qc<|U J<|O _ J<|q9 ?_;refine qo J c (fun _ c=>?_) (fun _ c=>?_)
  ·refine qm<|qf<|Q7<|Q3<|U J<|U J<|U J<|U J<|U J<|q8 c fun s ab c=>q8 c fun ak ac c=>?_;have ad:=Kh ac;refine K7 [(0,0)] [(0,0)] _ (.d (.tup [])) 1 [(0,.dat 3 (s.map Qf))] 1 (qnn g q1F q1C q1Ok k.2 k.1 (w64 (h - b)) b s ab)<|qz<|Qq<|Q3<|U J<|O _ J<|qa J<|qz<|⟨_,qq c,wkE [] [] [] J ⟨⟨_,J,K3 (by simp [ad]) J qw (ltd J)⟩,qp J,qp J,qp J,qp J,qp J,trivial⟩ ⟨Qo J J,trivial⟩⟩
  refine Qh ?_;refine ⟨_,qq c,fun hm=>?_⟩;subst hm;exact ⟨_,J,wkA [] [] []⟩
 intro l hb;subst hb;refine qc<|U J<|O _ J<|qa J<|q9<|q8 j fun ae af j=>Q7<|Qj (q9t b g) (fun f=>⟨[(0,.hs 0 3 0 f.2.length),(3,.d (.fn q1F q1C)),(8,q7 b),(9,q7 0),(12,q7 f.1)],[(0,.dat 3 (f.2.map Qf))],1⟩) _ ae af (wkA [] [] []) ?_;intro f al a;unfold q9t at a;refine qf<|qc<|U J<|O _ J<|q9 ?_;refine qo J a (fun _ a=>?_) (fun _ a=>?_)
 ·refine qm<|qf<|Q7<|qf<|Qm [Qu 0,q6,Qu 0,q6,qx 0,q6,q6,q6,qx 0,q6,q6,q6,q6,q6,q6,q6,q6,q6,q6,q6] qh<|U J<|U J<|U J<|U J<|U J<|O _ J<|U J<|U J<|U J<|O _ J<|q8 a fun t u a=>Q2 u J J<|Qg _ u J<|U J<|U J<|q8 a fun v x a=>Q2 x J J<|Qg _ x J<|q8 a fun am y a=>Q2 y J J<|K0 t y J J J J J J J J (leb J) J<|q8 a fun an z a=>Q2 z qe J<|K0 v z J J J J J J J J (leb J) J<|q9<|Q3<|U J<|U J<|U J<|U J<|U J<|q8 a fun n ag a=>q8 a fun ao ah a=>?_;have ai:=Kh ah;refine Jz [(0,0)] [(0,0)] [.hs 0 3 0 f.2.length,q7 0,q7 f.1,q7 b,.d (.fn q1F q1C)] (.d (.tup [])) [(0,.dat 3 (n.map Qf))] [(0,.dat 3 (n.map Qf))] 1 (qnn g q1F q1C q1Ok ((f.2.set b.toNat t).set (w64 (b + f.1)).toNat v) 0 f.1 b n ag) J J J (Yh [(0,0)] [] [] J ⟨⟨_,J,K3 qe J qw (ltd J)⟩,qp J,qp J,qp J,qp J,trivial⟩ ⟨Qo J J,trivial⟩) (Yh [(0,0)] [] [] J ⟨qp J,trivial⟩ ⟨Qo J J,trivial⟩) J ⟨.inl J,trivial⟩<|qz<|Qq<|Q3<|U J<|O _ J<|qa J<|qz<|⟨_,qq a,wkE [] [] [] J ⟨⟨_,J,K3 (by simp [ai]) J qw (ltd J)⟩,qp J,qp J,qp J,qp J,trivial⟩ ⟨Qo J J,trivial⟩⟩
 refine Qh ?_;refine ⟨_,qq a,fun hm=>?_⟩;subst hm;obtain rfl:=qu j;exact ⟨.inl J,_,J,wkA [] [] []⟩
theorem qh1 (b : qn→qn→Option Int) (q1F : FuncId) (q1C : List DV) (q1Ok : ∀ (c : qn) (f : qn) (r : Int),b c f = some r→Pure Tryz.prog tab q1F ([.agg (Qf c),.agg (Qf f)] ++ q1C) (qd r)) (g : List qn) (h : Int) (j : Int) (k : Int) (r : Int × Int × Int) (a : q4o b g h j k = some r) : K6 Tryz.prog tab 197 [.d (.sl 3 (g.map Qf)),q7 h,q7 j,.ref 0 1 0 0,.d (.fn q1F q1C)] [(0,.dat 1 [[qd k]])] 1 (.d (.tup [qd r.1,qd r.2.1])) [(0,.dat 1 [[qd r.2.2]])] 1:=by
 unfold q4o at a;refine Kn Tryz.func197 J qh qh J<|qc<|qa J<|qa J<|q9<|qf<|qf<|Qm [q6,q6,q6,q6,q6,q6,q6,q6,q6,q6,q6] qh<|U J<|U J<|U J<|q8 a fun l m a=>Ql m J<|O _ J<|U J<|U J<|q8 a fun n o a=>Ql o J<|O _ J<|q8 a fun p q a=>Yu _ (q1Ok l n p q) J J J (.inl J)<|O _ J<|q9 ?_;refine qo J a (fun _ a=>?_) (fun _ a=>?_)
 ·refine qc<|U J<|O _ J<|O _ J<|O _ J<|O _ J<|Qe 0 _ J<|qt<|U J<|U J<|qa J<|qa J<|qv ?_;obtain rfl:=qu a;exact ⟨.inr J,_,J,wkA [] [] []⟩
 refine qm<|qc<|U J<|U J<|qa J<|qa J<|qv ?_;obtain rfl:=qu a;exact ⟨.inr J,_,J,wkA [] [] []⟩
theorem qnk (f : qn→qn→Option Int) (q1F : FuncId) (q1C : List DV) (q1Ok : ∀ (n : qn) (o : qn) (r : Int),f n o = some r→Pure Tryz.prog tab q1F ([.agg (Qf n),.agg (Qf o)] ++ q1C) (qd r)) (g : List qn) (j : Int) (k : Int) (l : Int) (m : Int) (r : Int × Int) (a : q71 f g j k l m = some r) : K6 Tryz.prog tab 196 [.d (.sl 3 (g.map Qf)),q7 j,q7 k,q7 l,.ref 0 1 0 0,.d (.fn q1F q1C)] [(0,.dat 1 [[qd m]])] 1 (q7 r.1) [(0,.dat 1 [[qd r.2]])] 1:=by
 unfold q71 at a;refine Kn Tryz.func196 J qh qh J<|qc<|qa J<|qt<|U J<|U J<|U J<|U J<|U J<|q8 a fun b p a=>K7 [(0,0)] [(0,0)] _ (.d (.tup [qd b.1,qd b.2.1])) 1 [(0,.dat 1 [[qd b.2.2]])] 1 (qh1 f q1F q1C q1Ok g j k m b p)<|U J<|O _ J<|O _ J<|qa J<|qa J<|qt<|U J<|U J<|U J<|U J<|U J<|q8 a fun c q a=>K7 [(0,0)] [(0,0)] _ (.d (.tup [qd c.1,qd c.2.1])) 1 [(0,.dat 1 [[qd c.2.2]])] 1 (qh1 f q1F q1C q1Ok g b.2.1 l b.2.2 c q)<|U J<|O _ J<|O _ J<|qa J<|qa J<|qt<|U J<|U J<|U J<|U J<|U J<|q8 a fun h s a=>K7 [(0,0)] [(0,0)] _ (.d (.tup [qd h.1,qd h.2.1])) 1 [(0,.dat 1 [[qd h.2.2]])] 1 (qh1 f q1F q1C q1Ok g b.1 c.1 c.2.2 h s)<|U J<|O _ J<|O _ J ?_;refine qa J<|qa J<|qt<|U J<|qa J<|qv ?_;obtain rfl:=qu a;exact ⟨.inr J,_,J,wkA [] [] []⟩
theorem qgz (c : qn→qn→Option Int) (q1F : FuncId) (q1C : List DV) (q1Ok : ∀ (j : qn) (k : qn) (r : Int),c j k = some r→Pure Tryz.prog tab q1F ([.agg (Qf j),.agg (Qf k)] ++ q1C) (qd r)) (f : List qn) (a : Int) (g : Int) (r : Int × Int) (b : q4m c f a g = some r) : K6 Tryz.prog tab 195 [.d (.sl 3 (f.map Qf)),q7 a,.ref 0 1 0 0,.d (.fn q1F q1C)] [(0,.dat 1 [[qd g]])] 1 (q7 r.1) [(0,.dat 1 [[qd r.2]])] 1:=by
 unfold q4m at b;refine Kn Tryz.func195 J qh qh J<|qc<|qa J<|qt<|U J<|U J<|O _ J<|U J<|U J<|O _ J<|U J<|U J<|q8 b fun h l b=>K7 [(0,0)] [(0,0)] _ (q7 h.1) 1 [(0,.dat 1 [[qd h.2]])] 1 (qnk c q1F q1C q1Ok f (w64 (a - 1)) a (w64 (a + 1)) g h l)<|qa J<|qv ?_;obtain rfl:=qu b;exact ⟨.inr J,_,J,wkA [] [] []⟩
theorem qza (h : List qn) (g : Int) (k : Int) (j : qn→qn→Option Int) (p3F : FuncId) (p3C : List DV) (p3Ok : ∀ (q : qn) (s : qn) (r : Int),j q s = some r→Pure Tryz.prog tab p3F ([.agg (Qf q),.agg (Qf s)] ++ p3C) (qd r)) (r : Int × Int) (a : q9q h g k j = some r) : Pure Tryz.prog tab 189 [.sl 3 (h.map Qf),qd g,qd k,.fn p3F p3C] (.tup [qd r.1,qd r.2]):=by
 unfold q9q at a;refine Qr Tryz.func189 J qh qh J<|qc<|qa J<|qa J<|qt<|U J<|U J<|O _ J<|qa J<|qt<|Qt J J<|qt<|U J<|U J<|O _ J<|O _ J<|O _ J<|qa J<|qt<|U J<|U J<|O _ J<|O _ J<|O _ J<|qa J<|qt<|U J<|U J<|O _ J<|O _ J<|O _ J<|qa J<|q9<|qf<|qc<|U J<|O _ J<|q9<|q8 a fun t f a=>?_;refine Yn (fun l=>l = t) (fun l=>⟨[(11,.ref 0 1 0 0),(13,q7 l.1)],[(0,.dat 1 [[qd l.2]])],1⟩) qe ?_ ?_
 ·refine qo J f (fun _ f=>?_) (fun _ f=>?_)
  ·refine qf<|qc<|U J<|O _ J<|q9<|q8 f fun u b f=>?_;refine Yn (fun c=>c = u) (fun c=>⟨[(0,.d (.sl 3 (h.map Qf))),(3,.d (.fn p3F p3C)),(11,.ref 0 1 0 0),(12,q7 c.1),(13,q7 c.2.1),(14,q7 c.2.2.1)],[(0,.dat 1 [[qd c.2.2.2]])],1⟩) qe ?_ ?_
   ·refine qo J b (fun _ b=>?_) (fun _ b=>?_)
    ·refine qc<|U J<|U J<|U J<|q8 b fun m v b=>K7 [(0,0)] [(0,0)] _ (q7 m.1) 1 [(0,.dat 1 [[qd m.2]])] 1 (qgz j p3F p3C p3Ok h (w64 (g + (w64 ((w64 (Int.tdiv (w64 (k - g)) 4)) * 1)))) 0 m v)<|qa J<|qt<|U J<|U J<|U J<|q8 b fun n x b=>K7 [(0,0)] [(0,0)] _ (q7 n.1) 1 [(0,.dat 1 [[qd n.2]])] 1 (qgz j p3F p3C p3Ok h (w64 (g + (w64 ((w64 (Int.tdiv (w64 (k - g)) 4)) * 2)))) m.2 n x)<|qa J<|q9<|Q3<|U J<|U J<|U J<|q8 b fun o y b=>K7 [(0,0)] [(0,0)] _ (q7 o.1) 1 [(0,.dat 1 [[qd o.2]])] 1 (qgz j p3F p3C p3Ok h (w64 (g + (w64 ((w64 (Int.tdiv (w64 (k - g)) 4)) * 3)))) n.2 o y)<|qa J<|qz ?_;obtain rfl:=qu b;exact ⟨_,J,wkA [(0,0)] [] []⟩
    refine qm<|Qk ?_;obtain rfl:=qu b;exact ⟨_,J,wkA [(0,0)] [] []⟩
   intro c hb;subst hb;refine Q3<|U J<|U J<|U J<|U J<|U J<|q8 f fun p z f=>K7 [(0,0)] [(0,0)] _ (q7 p.1) 1 [(0,.dat 1 [[qd p.2]])] 1 (qnk j p3F p3C p3Ok h c.1 c.2.1 c.2.2.1 c.2.2.2 p z)<|qa J<|qz ?_;obtain rfl:=qu f;exact ⟨_,J,wkA [(0,0)] [] []⟩
  refine qm<|Qk ?_;obtain rfl:=qu f;exact ⟨_,J,wkA [(0,0)] [] []⟩
 intro l hb;subst hb;refine qc<|O _ J<|q9<|Q7<|qc<|O _ J<|qa J<|q9 ?_;refine qo J a (fun _ a=>?_) (fun _ a=>?_)
 ·refine qc<|U J<|qa J<|qa J<|qv ?_;cases a;exact Q8 _ J
 refine qc<|O _ J<|qa J<|q9 ?_;refine qo J a (fun _ a=>?_) (fun _ a=>?_)
 ·refine qc<|U J<|qa J<|qa J<|qv ?_;cases a;exact Q8 _ J
 refine qc<|U J<|qa J<|qa J<|qv ?_;cases a;exact Q8 _ J
theorem qzq (g : qn→qn→Option Int) (q1F : FuncId) (q1C : List DV) (_q1Ok : ∀ (h : qn) (j : qn) (r : Int),g h j = some r→Pure Tryz.prog tab q1F ([.agg (Qf h),.agg (Qf j)] ++ q1C) (qd r)) (f : List qn) (k : Int) (l : Int) (r : List qn) (c : qab g f k l = some r) : K6 Tryz.prog tab 190 [.hs 0 3 0 f.length,q7 k,q7 l,.d (.fn q1F q1C)] [(0,.dat 3 (f.map Qf))] 1 (.d (.tup [])) [(0,.dat 3 (r.map Qf))] 1:=by
 unfold qab at c;refine Kn Tryz.func190 J qh qh J<|qc<|U J<|qa J<|qt<|U J<|O _ J<|qa J<|q9<|q8 c fun q s c=>Q7<|Qj (qac) (fun b=>⟨[(0,.hs 0 3 0 b.2.2.length),(8,q7 b.1),(9,q7 b.2.1)],[(0,.dat 3 (b.2.2.map Qf))],1⟩) _ q s (wkA [] [] []) ?_;intro b v a;unfold qac at a;refine qf<|qc<|U J<|U J<|O _ J<|q9 ?_;refine qo J a (fun _ a=>?_) (fun _ a=>?_)
 ·refine qm<|Q7<|qf<|Qm [Qu 0,q6,Qu 0,q6,qx 0,q6,q6,q6,qx 0,q6,q6,q6,q6,q6,q6,q6] qh<|U J<|U J<|U J<|U J<|U J<|U J<|q8 a fun t m a=>Q2 m J J<|Qg _ m J<|U J<|U J<|q8 a fun u n a=>Q2 n J J<|Qg _ n J<|q8 a fun x o a=>Q2 o J J<|K0 t o J J J J J J J J (leb J) J<|q8 a fun y p a=>Q2 p qe J<|K0 u p J J J J J J J J (leb J) J<|qt<|U J<|O _ J<|qa J<|q9<|Q3<|U J<|O _ J<|qa J<|qz<|Qq<|Qk<|⟨_,qq a,wkE [] [] [] J ⟨⟨_,J,K3 qe J qw (ltd J)⟩,qp J,qp J,trivial⟩ ⟨Qo J J,trivial⟩⟩
 refine Qh ?_;refine ⟨_,qq a,fun hm=>?_⟩;subst hm;obtain rfl:=qu c;exact ⟨.inl J,_,J,wkA [] [] []⟩
theorem qzg (o : qn→qn→Option Int) (q1F : FuncId) (q1C : List DV) (q1Ok : ∀ (y : qn) (z : qn) (r : Int),o y z = some r→Pure Tryz.prog tab q1F ([.agg (Qf y),.agg (Qf z)] ++ q1C) (qd r)) (x : List qn) (j : Int) (g : Int) (r : Bool × List qn) (p : q72 o x j g = some r) : K6 Tryz.prog tab 191 [.hs 0 3 0 x.length,q7 j,q7 g,.d (.fn q1F q1C)] [(0,.dat 3 (x.map Qf))] 1 (Q1 r.1) [(0,.dat 3 (r.2.map Qf))] 1:=by
 unfold q72 at p;refine Kn Tryz.func191 J qh qh J<|qc<|qa J<|qt<|U J<|O _ J<|qa J<|q9<|qf<|qc<|qa J<|q9<|q8 p fun aa bl p=>?_;refine Qn (fun t=>.inl t = aa) (fun t=>⟨[],[(0,.dat 3 (t.map Qf))],1⟩) qe ?_ ?_
 ·refine Qj (q73 g o j) (fun f=>⟨[(0,.hs 0 3 0 f.2.2.length),(1,q7 j),(2,q7 g),(3,.d (.fn q1F q1C)),(9,q7 f.1),(10,q7 f.2.1)],[(0,.dat 3 (f.2.2.map Qf))],1⟩) _ aa bl (wkA [] [] []) ?_;intro f co k;unfold q73 at k;refine qf<|qc<|U J<|O _ J<|q9 ?_;refine qo J k (fun _ k=>?_) (fun _ k=>?_)
  ·refine qm<|qf<|q8 k fun bm a k=>?_;refine Qn (fun q=>.inl q = bm) (fun q=>⟨[(0,.hs 0 3 0 q.2.length),(1,q7 j),(2,q7 g),(3,.d (.fn q1F q1C)),(9,q7 q.1),(10,q7 f.2.1)],[(0,.dat 3 (q.2.map Qf))],1⟩) qe ?_ ?_
   ·refine qf<|q8 a fun ab bn a=>?_;refine Qn (fun l=>l = ab) (fun l=>⟨[(0,.hs 0 3 0 f.2.2.length),(1,q7 j),(2,q7 g),(3,.d (.fn q1F q1C)),(9,q7 l),(10,q7 f.2.1)],[(0,.dat 3 (f.2.2.map Qf))],1⟩) qe ?_ ?_
    ·refine Qj (q9x g f o) (fun ac=>⟨[(0,.hs 0 3 0 f.2.2.length),(1,q7 j),(2,q7 g),(3,.d (.fn q1F q1C)),(9,q7 ac),(10,q7 f.2.1)],[(0,.dat 3 (f.2.2.map Qf))],1⟩) _ ab bn (wkA [] [] []) ?_;intro ac cp m;unfold q9x at m;refine qf<|qf<|Qm [q6,q6,q6,q6,qx 0,q6,q6,q6,q6,qx 0,q6,q6,q6,q6,q6,q6,q6,q6] qh<|U J<|U J<|O _ J<|q8 m fun bo h m=>?_;refine Qc 15 (fun A st=>∃ ad ae af ag ah ai aj ak al am an ao ap aq,st = A [(36,Q1 bo),(35,aq),(34,ap),(33,ao),(32,an),(31,am),(30,al),(29,ak),(28,aj),(27,ai),(26,ah),(25,ag),(24,af),(23,ae),(22,ad)]) ?_ ?_
     ·refine Qd J J h (fun h=>?_) (fun h=>?_)
      ·refine U J<|U J<|U J<|q8 h fun bp ar h=>Q2 ar J J<|Qg _ ar J<|U J<|U J<|O _ J<|q8 h fun bq au h=>Q2 au J J<|Qg _ au J<|q8 h fun br bs h=>Yu _ (q1Ok bp bq br bs) J J J (.inl J)<|O _ J<|O _ J<|O _ J<|q9 ?_;cases h;exact ⟨_,_,_,_,_,_,_,_,_,_,_,_,_,_,J⟩
      refine qb J<|qb J<|qb J<|qb J<|qb J<|qb J<|qb J<|qb J<|qb J<|qb J<|qb J<|qb J<|qb J<|O _ J<|q9 ?_;cases h;exact ⟨_,_,_,_,_,_,_,_,_,_,_,_,_,_,J⟩
     rintro _ ⟨ad,ae,af,ag,ah,ai,aj,ak,al,am,an,ao,ap,aq,rfl⟩;refine q9 ?_;refine qo J m (fun _ m=>?_) (fun _ m=>?_)
     ·refine qm<|Q7<|Q3<|U J<|O _ J<|qa J<|qz<|Qq<|Qk<|⟨_,qq m,wkA [] [] []⟩
     refine Qh ?_;refine ⟨_,qq m,fun hm=>?_⟩;subst hm;exact ⟨_,J,wkA [] [] []⟩
    intro l hb;subst hb;refine qf<|qc<|U J<|U J<|O _ J<|q9 ?_;refine qo J a (fun _ a=>?_) (fun _ a=>?_)
    ·refine qc<|qa J<|qv ?_;obtain rfl:=qu a;refine ⟨_,qq k,fun hm=>?_⟩;subst hm;obtain rfl:=qu p;exact ⟨.inr J,_,J,wkA [] [] []⟩
    refine qm<|qf<|qc<|U J<|U J<|O _ J<|O _ J<|q9 ?_;refine qo J a (fun _ a=>?_) (fun _ a=>?_)
    ·refine qc<|qa J<|qv ?_;obtain rfl:=qu a;refine ⟨_,qq k,fun hm=>?_⟩;subst hm;obtain rfl:=qu p;exact ⟨.inr J,_,J,wkA [] [] []⟩
    refine qm<|qf<|Qm [Qu 0,q6,Qu 0,q6,qx 0,q6,q6,q6,qx 0,q6,q6,q6,q6,q6,q6,q6,q6,q6] qh<|U J<|U J<|U J<|U J<|O _ J<|U J<|U J<|O _ J<|q8 a fun bt av a=>Q2 av J J<|Qg _ av J<|U J<|U J<|q8 a fun bu aw a=>Q2 aw J J<|Qg _ aw J<|q8 a fun cq ax a=>Q2 ax J J<|K0 bt ax J J J J J J J J (leb J) J<|q8 a fun cr ay a=>Q2 ay qe J<|K0 bu ay J J J J J J J J (leb J) J<|q9<|qf<|qc<|U J<|U J<|O _ J<|O _ J<|q9<|q8 a fun bv n a=>?_;refine Yn (fun s=>s = bv) (fun s=>⟨[(0,.hs 0 3 0 s.length),(1,q7 j),(2,q7 g),(3,.d (.fn q1F q1C)),(9,q7 l),(10,q7 f.2.1)],[(0,.dat 3 (s.map Qf))],1⟩) qe ?_ ?_
    ·refine qo J n (fun _ n=>?_) (fun _ n=>?_)
     ·refine qc<|U J<|O _ J<|qa J<|q9<|q8 n fun bw bz n=>Q7<|Qj (q9y o) (fun u=>⟨[(0,.hs 0 3 0 u.2.length),(1,q7 j),(2,q7 g),(3,.d (.fn q1F q1C)),(9,q7 l),(10,q7 f.2.1),(11,q7 u.1)],[(0,.dat 3 (u.2.map Qf))],1⟩) _ bw bz (wkE [] [] [] J ⟨⟨_,J,K3 qe J qw (ltd J)⟩,qp J,qp J,qp J,qp J,qp J,qp J,trivial⟩ ⟨Qo J J,trivial⟩) ?_;intro u cs b;unfold q9y at b;refine qf<|qc<|U J<|O _ J<|q9 ?_;refine qo J b (fun _ b=>?_) (fun _ b=>?_)
      ·refine qm<|qf<|Q7<|qf<|qf<|Qm [q6,q6,q6,qx 0,q6,q6,q6,q6,qx 0,q6,q6,q6,q6] qh<|U J<|U J<|U J<|q8 b fun ca az b=>Q2 az J J<|Qg _ az J<|U J<|U J<|O _ J<|q8 b fun cb ba b=>Q2 ba J J<|Qg _ ba J<|q8 b fun cc cd b=>Yu _ (q1Ok ca cb cc cd) J J J (.inl J)<|O _ J<|O _ J<|q9 ?_;refine qo J b (fun _ b=>?_) (fun _ b=>?_)
       ·refine Qh ?_;refine ⟨_,qq b,fun hm=>?_⟩;subst hm;obtain rfl:=qu n;exact ⟨_,J,wkA [] [] []⟩
       refine qm<|Qm [Qu 0,q6,Qu 0,q6,qx 0,q6,q6,q6,qx 0,q6,q6,q6,q6,q6,q6,q6,q6,q6] qh<|U J<|U J<|U J<|U J<|O _ J<|U J<|U J<|O _ J<|q8 b fun ce bb b=>Q2 bb J J<|Qg _ bb J<|U J<|U J<|q8 b fun cf bc b=>Q2 bc J J<|Qg _ bc J<|q8 b fun ct bd b=>Q2 bd J J<|K0 ce bd J J J J J J J J (leb J) J<|q8 b fun cu be b=>Q2 be qe J<|K0 cf be J J J J J J J J (leb J) J<|qz<|Qq<|Q3<|U J<|O _ J<|qa J<|qz<|⟨_,qq b,wkE [] [] [] J ⟨⟨_,J,K3 qe J qw (ltd J)⟩,qp J,qp J,qp J,qp J,qp J,qp J,trivial⟩ ⟨Qo J J,trivial⟩⟩
      refine Qh ?_;refine ⟨_,qq b,fun hm=>?_⟩;subst hm;obtain rfl:=qu n;exact ⟨_,J,wkA [] [] []⟩
     refine qm<|Qk ?_;obtain rfl:=qu n;exact ⟨_,J,wkE [] [] [] J ⟨⟨_,J,K3 qe J qw (ltd J)⟩,qp J,qp J,qp J,qp J,qp J,trivial⟩ ⟨Qo J J,trivial⟩⟩
    intro s hb;subst hb;refine qc<|U J<|U J<|O _ J<|O _ J<|q9 ?_;refine qo J a (fun _ a=>?_) (fun _ a=>?_)
    ·refine qc<|U J<|O _ J<|qa J<|q9<|q8 a fun cg ch a=>Q7<|Qj (q9z g o l) (fun v=>⟨[(0,.hs 0 3 0 v.2.length),(1,q7 j),(2,q7 g),(3,.d (.fn q1F q1C)),(9,q7 l),(10,q7 f.2.1),(12,q7 v.1)],[(0,.dat 3 (v.2.map Qf))],1⟩) _ cg ch (wkA [] [] []) ?_;intro v cv c;unfold q9z at c;refine qf<|qc<|U J<|U J<|O _ J<|q9 ?_;refine qo J c (fun _ c=>?_) (fun _ c=>?_)
     ·refine qm<|qf<|Q7<|qf<|qf<|Qm [q6,q6,q6,qx 0,q6,q6,q6,q6,qx 0,q6,q6,q6,q6] qh<|U J<|U J<|U J<|q8 c fun ci bf c=>Q2 bf J J<|Qg _ bf J<|U J<|U J<|O _ J<|q8 c fun cj bg c=>Q2 bg J J<|Qg _ bg J<|q8 c fun ck cl c=>Yu _ (q1Ok ci cj ck cl) J J J (.inl J)<|O _ J<|O _ J<|q9 ?_;refine qo J c (fun _ c=>?_) (fun _ c=>?_)
      ·refine Qh ?_;refine ⟨_,qq c,fun hm=>?_⟩;subst hm;obtain rfl:=qu a;exact ⟨_,J,wkA [] [] []⟩
      refine qm<|Qm [Qu 0,q6,Qu 0,q6,qx 0,q6,q6,q6,qx 0,q6,q6,q6,q6,q6,q6,q6,q6,q6] qh<|U J<|U J<|U J<|U J<|O _ J<|U J<|U J<|O _ J<|q8 c fun cm bh c=>Q2 bh J J<|Qg _ bh J<|U J<|U J<|q8 c fun cn bi c=>Q2 bi J J<|Qg _ bi J<|q8 c fun cw bj c=>Q2 bj J J<|K0 cm bj J J J J J J J J (leb J) J<|q8 c fun cx bk c=>Q2 bk qe J<|K0 cn bk J J J J J J J J (leb J) J<|qz<|Qq<|Q3<|U J<|O _ J<|qa J<|qz<|⟨_,qq c,wkE [] [] [] J ⟨⟨_,J,K3 qe J qw (ltd J)⟩,qp J,qp J,qp J,qp J,qp J,qp J,trivial⟩ ⟨Qo J J,trivial⟩⟩
     refine Qh ?_;refine ⟨_,qq c,fun hm=>?_⟩;subst hm;obtain rfl:=qu a;exact ⟨_,J,wkA [] [] []⟩
    refine qm<|Qk ?_;obtain rfl:=qu a;exact ⟨_,J,wkA [] [] []⟩
   intro q hb;subst hb;refine Q3<|U J<|O _ J<|qa J<|qz<|⟨_,qq k,wkA [] [] []⟩
  refine Qh ?_;refine ⟨_,qq k,fun hm=>?_⟩;subst hm;exact ⟨_,J,wkA [] [] []⟩
 intro t hb;subst hb;refine qc<|qa J<|qv ?_;obtain rfl:=qu p;exact ⟨.inr J,_,J,wkA [] [] []⟩
end Go.Proofs.YtmnfbjlabfeneaaGreat
