/- W_Alla -/
import Derived.Test.YtmnfbjlabfeneaaGreatK14
namespace Go.Proofs.YtmnfbjlabfeneaaGreat
open Go Go.Am Go.Sh
set_option maxHeartbeats 8000000
set_option maxRecDepth 100000
theorem q7h (h : qg) (j : Int) (r : Bool) (a : q1l h j = some r) : Pure Tryz.prog tab 39 [.agg (Qh h),qd j] (.bool r):=by
 unfold q1l at a;refine Qm Tryz.func39 J qi qi J<|qc<|Qj _ _ J<|qa J<|qx<|O _ J<|O _ J<|U J<|O _ J<|O _ J<|q7 a fun c1 b a=>?_;refine Q9 6 (fun A st=>∃ k l m n o,st = A [(15,ql c1),(14,o),(13,n),(12,m),(11,l),(10,k)]) ?_ ?_
 ·refine Qa J J b (fun b=>?_) (fun b=>?_)
  ·refine O _ J<|O _ J<|U J<|O _ J<|O _ J<|q8 ?_;cases b;exact ⟨_,_,_,_,_,J⟩
  refine qb J<|qb J<|qb J<|qb J<|O _ J<|q8 ?_;cases b;exact ⟨_,_,_,_,_,J⟩
 rintro _ ⟨k,l,m,n,o,rfl⟩;refine q7 a fun c8 c a=>?_;refine Q9 7 (fun A st=>∃ p q s t u v,st = A [(22,ql c8),(21,v),(20,u),(19,t),(18,s),(17,q),(16,p)]) ?_ ?_
 ·refine Qa J J c (fun c=>?_) (fun c=>?_)
  ·refine O _ J<|O _ J<|U J<|O _ J<|O _ J<|O _ J<|q8 ?_;cases c;exact ⟨_,_,_,_,_,_,J⟩
  refine qb J<|qb J<|qb J<|qb J<|qb J<|O _ J<|q8 ?_;cases c;exact ⟨_,_,_,_,_,_,J⟩
 rintro _ ⟨p,q,s,t,u,v,rfl⟩;refine q7 a fun ap d a=>?_;refine Q9 6 (fun A st=>∃ x y z aa ab,st = A [(28,ql ap),(27,ab),(26,aa),(25,z),(24,y),(23,x)]) ?_ ?_
 ·refine Qa J J d (fun d=>?_) (fun d=>?_)
  ·refine O _ J<|O _ J<|U J<|O _ J<|O _ J<|q8 ?_;cases d;exact ⟨_,_,_,_,_,J⟩
  refine qb J<|qb J<|qb J<|qb J<|O _ J<|q8 ?_;cases d;exact ⟨_,_,_,_,_,J⟩
 rintro _ ⟨x,y,z,aa,ab,rfl⟩;refine q7 a fun aq f a=>?_;refine Q9 7 (fun A st=>∃ ac ad ae af ag ah,st = A [(35,ql aq),(34,ah),(33,ag),(32,af),(31,ae),(30,ad),(29,ac)]) ?_ ?_
 ·refine Qa J J f (fun f=>?_) (fun f=>?_)
  ·refine O _ J<|O _ J<|U J<|O _ J<|O _ J<|O _ J<|q8 ?_;cases f;exact ⟨_,_,_,_,_,_,J⟩
  refine qb J<|qb J<|qb J<|qb J<|qb J<|O _ J<|q8 ?_;cases f;exact ⟨_,_,_,_,_,_,J⟩
 rintro _ ⟨ac,ad,ae,af,ag,ah,rfl⟩;refine q7 a fun ar g a=>?_;refine Q9 6 (fun A st=>∃ ai aj ak al am,st = A [(41,ql ar),(40,am),(39,al),(38,ak),(37,aj),(36,ai)]) ?_ ?_
 ·refine Qa J J g (fun g=>?_) (fun g=>?_)
  ·refine O _ J<|O _ J<|U J<|O _ J<|O _ J<|q8 ?_;cases g;exact ⟨_,_,_,_,_,J⟩
  refine qb J<|qb J<|qb J<|qb J<|O _ J<|q8 ?_;cases g;exact ⟨_,_,_,_,_,J⟩
 rintro _ ⟨ai,aj,ak,al,am,rfl⟩;refine qa J<|qw ?_;cases a;exact Q8 _ J
theorem qi1 (f : List qh) (r : Bool) (b : q5l f = some r) : Pure Tryz.prog tab 11 [.sl 6 (f.map Q1)] (.bool r):=by
 unfold q5l at b;refine Qm Tryz.func11 J qi qi J<|qc<|qa J<|q8<|qf<|qc<|U J<|K1 J<|O _ J<|q8 ?_;refine qm J b (fun _ b=>?_) (fun _ b=>?_)
 ·refine qc<|U J<|K1 J<|O _ J<|qa J<|qw ?_;cases b;exact Q8 _ J
 refine qn<|qf<|qc<|qa J<|q8<|q7 b fun h t b=>?_;refine Qn (fun g=>.inl g = h) (fun g=>⟨[(0,.d (.sl 6 (f.map Q1)))],[],0⟩) qe ?_ ?_
 ·refine Ql (q7i f) (fun j=>⟨[(0,.d (.sl 6 (f.map Q1))),(3,q9 j)],[],0⟩) _ h t (wkA [] [] []) ?_;intro j ae a;unfold q7i at a;refine qf<|qc<|U J<|U J<|K1 J<|O _ J<|q8 ?_;refine qm J a (fun _ a=>?_) (fun _ a=>?_)
  ·refine qn<|qf<|Qc<|qc<|U J<|U J<|q7 a fun u v a=>Qq v J<|O _ J<|O _ J<|q7 a fun x y a=>qv (q7h u.Lo 9 x y) J<|O _ J<|q7 a fun z c a=>?_;refine Q9 9 (fun A st=>∃ k l m n o p q s,st = A [(31,ql z),(30,s),(29,q),(28,p),(27,o),(26,n),(25,m),(24,l),(23,k)]) ?_ ?_
   ·refine Qa J J c (fun c=>?_) (fun c=>?_)
    ·refine qb J<|qb J<|qb J<|qb J<|qb J<|qb J<|qb J<|O _ J<|q8 ?_;cases c;exact ⟨_,_,_,_,_,_,_,_,J⟩
    refine U J<|U J<|q7 c fun aa ab c=>Qq ab J<|O _ J<|O _ J<|q7 c fun ac ad c=>qv (q7h aa.Hi 9 ac ad) J<|O _ J<|O _ J<|q8 ?_;cases c;exact ⟨_,_,_,_,_,_,_,_,J⟩
   rintro _ ⟨k,l,m,n,o,p,q,s,rfl⟩;refine q8 ?_;refine qm J a (fun _ a=>?_) (fun _ a=>?_)
   ·refine qc<|qa J<|qw ?_;refine ⟨_,qt a,fun hm=>?_⟩;subst hm;cases b;exact Q8 _ J
   refine qn<|Qo<|Qs<|Q6<|U J<|O _ J<|qa J<|Q4<|⟨_,qt a,wkA [] [] []⟩
  refine Qf ?_;refine ⟨_,qt a,fun hm=>?_⟩;subst hm;exact ⟨_,J,wkA [] [] []⟩
 intro g hb;subst hb;refine qc<|U J<|K1 J<|O _ J<|qa J<|qw ?_;cases b;exact Q8 _ J
theorem qxw (b : List qh) (r : List qh) (a : qak b = some r) : Pure Tryz.prog tab 12 [.sl 6 (b.map Q1)] (.sl 6 (r.map Q1)):=by
 unfold qak at a;refine Qm Tryz.func12 J qi qi J<|qc<|qa J<|qx<|Qj _ _ J<|U J<|q7 a fun d c a=>Ye _ c J J J J J J J qsn J J J J<|qa J<|qw ?_;obtain rfl:=Q0 a;exact finD (.inr J) J (Yk J J) (.refl _)
theorem q10s (b : List qh) (f : qh→Option Bool) (p1F : FuncId) (p1C : List DV) (p1Ok : ∀ (h : qh) (r : Bool),f h = some r→Pure Tryz.prog tab p1F ([.agg (Q1 h)] ++ p1C) (.bool r)) (r : Int) (c : q82 b f = some r) : Pure Tryz.prog tab 111 [.sl 6 (b.map Q1),.fn p1F p1C] (qd r):=by
 unfold q82 at c;refine Qm Tryz.func111 J qi qi J<|qc<|qa J<|q8<|qf<|qc<|U J<|K1 J<|U J<|q8<|q7 c fun j l c=>?_;refine Qn (fun g=>.inl g = j) (fun g=>⟨[],[],0⟩) qe ?_ ?_
 ·refine Ql (Jq b f) (fun k=>⟨[(0,.d (.sl 6 (b.map Q1))),(1,.d (.fn p1F p1C)),(7,q9 (b.length : Int)),(8,q9 k)],[],0⟩) _ j l (wkA [] [] []) ?_;intro k q a;unfold Jq at a;refine qc<|O _ J<|q8<|qf ?_;refine qm J a (fun _ a=>?_) (fun _ a=>?_)
  ·refine qn<|qf<|Qc<|qc<|U J<|qa J<|qx<|U J<|U J<|U J<|q7 a fun m n a=>Qq n J<|O _ J<|q7 a fun o p a=>Za _ (p1Ok m o p) J J J (.inl J)<|q8 ?_;refine qm J a (fun _ a=>?_) (fun _ a=>?_)
   ·refine qc<|U J<|qa J<|qw ?_;refine ⟨_,qt a,fun hm=>?_⟩;subst hm;cases c;exact Q8 _ J
   refine qn<|Qo<|Qs<|Q6<|O _ J<|U J<|Q4<|⟨_,qt a,wkA [] [] []⟩
  refine Qf ?_;refine ⟨_,qt a,fun hm=>?_⟩;subst hm;exact ⟨_,J,wkA [] [] []⟩
 intro g hb;subst hb;refine qc<|qa J<|qw ?_;cases c;exact Q8 _ J
theorem qes (b : List qh) (c : qh→Option Bool) (p1F : FuncId) (p1C : List DV) (p1Ok : ∀ (d : qh) (r : Bool),c d = some r→Pure Tryz.prog tab p1F ([.agg (Q1 d)] ++ p1C) (.bool r)) (r : Bool) (a : Uv b c = some r) : Pure Tryz.prog tab 78 [.sl 6 (b.map Q1),.fn p1F p1C] (.bool r):=by
 unfold Uv at a;refine Qm Tryz.func78 J qi qi J<|qc<|qa J<|qx<|U J<|U J<|q7 a fun f g a=>qv (q10s b c p1F p1C p1Ok f g) J<|O _ J<|qa J<|qw ?_;cases a;exact Q8 _ J
theorem qpp (a : qg) (r : Bool) (c : q92 a = some r) : Pure Tryz.prog tab 116 [.agg (Qh a)] (.bool r):=by
 unfold q92 at c;refine Qm Tryz.func116 J qi qi J<|qc<|Qj _ _ J<|qa J<|qx<|O _ J<|O _ J<|O _ J<|O _ J<|O _ J<|O _ J<|q3t (r:=min (min a.X a.Y) a.Z) J J (by simp only [q3r];rfl)<|O _ J<|q7 c fun o b c=>?_;refine Q9 10 (fun A st=>∃ d f g h j k l m n,st = A [(20,ql o),(19,n),(18,m),(17,l),(16,k),(15,j),(14,h),(13,g),(12,f),(11,d)]) ?_ ?_
 ·refine Qa J J b (fun b=>?_) (fun b=>?_)
  ·refine O _ J<|O _ J<|O _ J<|O _ J<|O _ J<|O _ J<|q2f (r:=max (max a.X a.Y) a.Z) J J (by simp only [q2c];rfl)<|O _ J<|O _ J<|q8 ?_;cases b;exact ⟨_,_,_,_,_,_,_,_,_,J⟩
  refine qb J<|qb J<|qb J<|qb J<|qb J<|qb J<|qb J<|qb J<|O _ J<|q8 ?_;cases b;exact ⟨_,_,_,_,_,_,_,_,_,J⟩
 rintro _ ⟨d,f,g,h,j,k,l,m,n,rfl⟩;refine qa J<|qw ?_;cases c;exact Q8 _ J
theorem q13r (g : qh) (r : Bool) (a : qc0 g = some r) : Pure Tryz.prog tab 101 [.agg (Q1 g)] (.bool r):=by
 unfold qc0 at a;refine Qm Tryz.func101 J qi qi J<|qc<|Qj _ _ J<|qa J<|qx<|O _ J<|O _ J<|O _ J<|O _ J<|O _ J<|O _ J<|O _ J<|q7 a fun c1 d a=>?_;refine Q9 9 (fun A st=>∃ h j k l m n o p,st = A [(18,ql c1),(17,p),(16,o),(15,n),(14,m),(13,l),(12,k),(11,j),(10,h)]) ?_ ?_
 ·refine Qa J J d (fun d=>?_) (fun d=>?_)
  ·refine O _ J<|O _ J<|O _ J<|O _ J<|O _ J<|O _ J<|O _ J<|O _ J<|q8 ?_;cases d;exact ⟨_,_,_,_,_,_,_,_,J⟩
  refine qb J<|qb J<|qb J<|qb J<|qb J<|qb J<|qb J<|O _ J<|q8 ?_;cases d;exact ⟨_,_,_,_,_,_,_,_,J⟩
 rintro _ ⟨h,j,k,l,m,n,o,p,rfl⟩;refine q7 a fun aj f a=>?_;refine Q9 9 (fun A st=>∃ q s t u v x y z,st = A [(27,ql aj),(26,z),(25,y),(24,x),(23,v),(22,u),(21,t),(20,s),(19,q)]) ?_ ?_
 ·refine Qa J J f (fun f=>?_) (fun f=>?_)
  ·refine O _ J<|O _ J<|O _ J<|O _ J<|O _ J<|O _ J<|O _ J<|O _ J<|q8 ?_;cases f;exact ⟨_,_,_,_,_,_,_,_,J⟩
  refine qb J<|qb J<|qb J<|qb J<|qb J<|qb J<|qb J<|O _ J<|q8 ?_;cases f;exact ⟨_,_,_,_,_,_,_,_,J⟩
 rintro _ ⟨q,s,t,u,v,x,y,z,rfl⟩;refine q7 a fun ak b a=>?_;refine Q9 5 (fun A st=>∃ aa ab ac ad,st = A [(32,ql ak),(31,ad),(30,ac),(29,ab),(28,aa)]) ?_ ?_
 ·refine Qa J J b (fun b=>?_) (fun b=>?_)
  ·refine O _ J<|O _ J<|q7 b fun al am b=>qv (qpp g.Lo al am) J<|O _ J<|q8 ?_;cases b;exact ⟨_,_,_,_,J⟩
  refine qb J<|qb J<|qb J<|O _ J<|q8 ?_;cases b;exact ⟨_,_,_,_,J⟩
 rintro _ ⟨aa,ab,ac,ad,rfl⟩;refine q7 a fun an c a=>?_;refine Q9 5 (fun A st=>∃ ae af ag ah,st = A [(37,ql an),(36,ah),(35,ag),(34,af),(33,ae)]) ?_ ?_
 ·refine Qa J J c (fun c=>?_) (fun c=>?_)
  ·refine O _ J<|O _ J<|q7 c fun ao ap c=>qv (qpp g.Hi ao ap) J<|O _ J<|q8 ?_;cases c;exact ⟨_,_,_,_,J⟩
  refine qb J<|qb J<|qb J<|O _ J<|q8 ?_;cases c;exact ⟨_,_,_,_,J⟩
 rintro _ ⟨ae,af,ag,ah,rfl⟩;refine qa J<|qw ?_;cases a;exact Q8 _ J
theorem q13h (b : qh) (r : Bool) (a : q4f b = some r) : Pure Tryz.prog tab 100 [.agg (Q1 b)] (.bool r):=by
 unfold q4f at a;refine Qm Tryz.func100 J qi qi J<|qc<|Qj _ _ J<|qa J<|qx<|O _ J<|q7 a fun c d a=>qv (q13r b c d) J<|O _ J<|qa J<|qw ?_;cases a;exact Q8 _ J
theorem qv8 (k : Int) (r : Int) (a : q3q k = some r) : Pure Tryz.prog tab 167 [.int .u64 k] (qd r):=by
 unfold q3q at a;refine Qm Tryz.func167 J qi qi J<|qc<|qa J<|q8<|qf<|qc<|U J<|O _ J<|q8<|q7 a fun l b a=>?_;refine Y9 (fun c=>c = l) (fun c=>⟨[(0,.d (.int .u64 c.1)),(2,q9 c.2)],[],0⟩) qe ?_ ?_
 ·refine qm J b (fun _ b=>?_) (fun _ b=>?_)
  ·refine qc<|U J<|O _ J<|qa J<|q8<|Q6<|qa J<|Q4 ?_;obtain rfl:=Q0 b;exact ⟨_,J,wkA [] [] []⟩
  refine qn<|Qo ?_;obtain rfl:=Q0 b;exact ⟨_,J,wkA [] [] []⟩
 intro c hb;subst hb;refine qf<|qc<|U J<|O _ J<|q8<|q7 a fun m f a=>?_;refine Y9 (fun g=>g = m) (fun g=>⟨[(0,.d (.int .u64 g.1)),(2,q9 g.2)],[],0⟩) qe ?_ ?_
 ·refine qm J f (fun _ f=>?_) (fun _ f=>?_)
  ·refine qc<|U J<|O _ J<|qa J<|q8<|Q6<|U J<|O _ J<|qa J<|Q4 ?_;obtain rfl:=Q0 f;exact ⟨_,J,wkA [] [] []⟩
  refine qn<|Qo ?_;obtain rfl:=Q0 f;exact ⟨_,J,wkA [] [] []⟩
 intro g hb;subst hb;refine qf<|qc<|U J<|O _ J<|q8<|q7 a fun n h a=>?_;refine Y9 (fun j=>j = n) (fun j=>⟨[(0,.d (.int .u64 j.1)),(2,q9 j.2)],[],0⟩) qe ?_ ?_
 ·refine qm J h (fun _ h=>?_) (fun _ h=>?_)
  ·refine qc<|U J<|O _ J<|qa J<|q8<|Q6<|U J<|O _ J<|qa J<|Q4 ?_;obtain rfl:=Q0 h;exact ⟨_,J,wkA [] [] []⟩
  refine qn<|Qo ?_;obtain rfl:=Q0 h;exact ⟨_,J,wkA [] [] []⟩
 intro j hb;subst hb;refine qc<|U J<|U J<|O _ J<|q7 a fun p o a=>qvt qf1 o J J J J J<|O _ J<|O _ J<|qa J<|qw ?_;cases a;exact Q8 _ J
theorem qha (b : Int) (r : Int) (a : q1h b = some r) : Pure Tryz.prog tab 147 [.int .u64 b] (qd r):=by
 unfold q1h at a;refine Qm Tryz.func147 J qi qi J<|qc<|qa J<|q8<|qf<|Uu J<|qn<|qc<|U J<|q7 a fun c d a=>qv (qv8 b c d) J<|qa J<|qw ?_;cases a;exact Q8 _ J
theorem qjv (a : Int) (r : Bool) (b : q9p a = some r) : Pure Tryz.prog tab 181 [qd a] (.bool r):=by
 unfold q9p at b;refine Qm Tryz.func181 J qi qi J<|qc<|qa J<|qx<|U J<|U J<|O _ J<|qa J<|qw ?_;cases b;exact Q8 _ J
theorem Zu (d : Int) (f : Int) (r : Bool) (a : Z7 d f = some r) : Pure Tryz.prog tab 163 [qd d,qd f] (.bool r):=by
 unfold Z7 at a;refine Qm Tryz.func163 J qi qi J<|qc<|qa J<|qx<|U J<|q7 a fun p q a=>qv (qjv d p q) J<|q7 a fun s b a=>?_;refine Q9 5 (fun A st=>∃ g h j k,st = A [(11,ql s),(10,k),(9,j),(8,h),(7,g)]) ?_ ?_
 ·refine Qa J J b (fun b=>?_) (fun b=>?_)
  ·refine U J<|q7 b fun t u b=>qv (qjv f t u) J<|O _ J<|O _ J<|q8 ?_;cases b;exact ⟨_,_,_,_,J⟩
  refine qb J<|qb J<|qb J<|O _ J<|q8 ?_;cases b;exact ⟨_,_,_,_,J⟩
 rintro _ ⟨g,h,j,k,rfl⟩;refine q7 a fun v c a=>?_;refine Q9 5 (fun A st=>∃ l m n o,st = A [(16,ql v),(15,o),(14,n),(13,m),(12,l)]) ?_ ?_
 ·refine Qa J J c (fun c=>?_) (fun c=>?_)
  ·refine qb J<|qb J<|qb J<|O _ J<|q8 ?_;cases c;exact ⟨_,_,_,_,J⟩
  refine U J<|U J<|O _ J<|O _ J<|q8 ?_;cases c;exact ⟨_,_,_,_,J⟩
 rintro _ ⟨l,m,n,o,rfl⟩;refine qa J<|qw ?_;cases a;exact Q8 _ J
theorem q113 (m : List Int) (f : Int) (g : Int) (r : List Int) (k : q8a  m f g = some r) : K8 Tryz.prog tab 157 [.hs 0 1 0 m.length,q9 f,q9 g] [(0,.dat 1 (m.map (eI .i64)))] 1 (.d (.tup [])) [(0,.dat 1 (r.map (eI .i64)))] 1:=by
 unfold q8a at k;refine Ko Tryz.func157 J qi qi J<|qc<|U J<|O _ J<|qa J<|q8<|q7 k fun aj ak k=>Qc<|Ql (q8b g f) (fun h=>⟨[(0,.hs 0 1 0 h.2.length),(1,q9 f),(2,q9 g),(6,q9 h.1)],[(0,.dat 1 (h.2.map (eI .i64)))],1⟩) _ aj ak (wkA [] [] []) ?_;intro h av c;unfold q8b at c;refine qf<|qc<|U J<|U J<|O _ J<|q8 ?_;refine qm J c (fun _ c=>?_) (fun _ c=>?_)
 ·refine qn<|qf<|q7 c fun al n c=>?_;refine Qn (fun j=>j = al) (fun j=>⟨[(0,.hs 0 1 0 j.length),(1,q9 f),(2,q9 g),(6,q9 h.1)],[(0,.dat 1 (j.map (eI .i64)))],1⟩) qe ?_ ?_
  ·refine qc<|U J<|qa J<|q8<|q7 n fun am an n=>Qc<|Ql (q8c f) (fun l=>⟨[(0,.hs 0 1 0 l.2.length),(1,q9 f),(2,q9 g),(6,q9 h.1),(7,q9 l.1)],[(0,.dat 1 (l.2.map (eI .i64)))],1⟩) _ am an (wkA [] [] []) ?_;intro l aw a;unfold q8c at a;refine qf<|qf<|Qk [q6,q6,Q2 0,q6,q6,q6,q6,Q2 0,q6,q6,q6,q6,q6,q6,q6] qi<|U J<|U J<|O _ J<|q7 a fun ao b a=>?_;refine Q9 12 (fun A st=>∃ o p q s t u v x y z aa,st = A [(30,ql ao),(29,aa),(28,z),(27,y),(26,x),(25,v),(24,u),(23,t),(22,s),(21,q),(20,p),(19,o)]) ?_ ?_
   ·refine Qa J J b (fun b=>?_) (fun b=>?_)
    ·refine U J<|U J<|q7 b fun ap ab b=>Q5 ab J J<|Qi _ ab J<|U J<|U J<|O _ J<|q7 b fun aq ac b=>Q5 ac J J<|Qi _ ac J<|q7 b fun ar au b=>qv (Zu ap aq ar au) J<|O _ J<|q8 ?_;cases b;exact ⟨_,_,_,_,_,_,_,_,_,_,_,J⟩
    refine qb J<|qb J<|qb J<|qb J<|qb J<|qb J<|qb J<|qb J<|qb J<|qb J<|O _ J<|q8 ?_;cases b;exact ⟨_,_,_,_,_,_,_,_,_,_,_,J⟩
   rintro _ ⟨o,p,q,s,t,u,v,x,y,z,aa,rfl⟩;refine q8 ?_;refine qm J a (fun _ a=>?_) (fun _ a=>?_)
   ·refine qn<|qf<|Qc<|Qk [Qv 0,q6,Qv 0,q6,Q2 0,q6,q6,q6,Q2 0,q6,q6,q6,q6,q6,q6,q6,q6,q6] qi<|U J<|U J<|U J<|U J<|O _ J<|U J<|U J<|O _ J<|q7 a fun ad ae a=>Q5 ae J J<|Qi _ ae J<|U J<|U J<|q7 a fun af ag a=>Q5 ag J J<|Qi _ ag J<|q7 a fun ax ah a=>Q5 ah J J<|K2 (ds:=[qd ad]) ad ah J J J J J J J J (leb J) J<|q7 a fun ay ai a=>Q5 ai qe J<|K2 (ds:=[qd af]) af ai J J J J J J J J (leb J) J<|Q4<|Qs<|Q6<|U J<|O _ J<|qa J<|Q4<|⟨_,qt a,wkE [] [] [] J ⟨⟨_,J,K5 qe J qr (ltd J)⟩,qo J,qo J,qo J,qo J,trivial⟩ ⟨Qp J J,trivial⟩⟩
   refine Qf ?_;refine ⟨_,qt a,fun hm=>?_⟩;subst hm;obtain rfl:=Q0 n;exact ⟨_,J,wkA [] [] []⟩
  intro j hb;subst hb;refine Q6<|U J<|O _ J<|qa J<|Q4<|⟨_,qt c,wkA [] [] []⟩
 refine Qf ?_;refine ⟨_,qt c,fun hm=>?_⟩;subst hm;obtain rfl:=Q0 k;exact ⟨.inl J,_,J,wkA [] [] []⟩
theorem qpi (l : List Int) (m : Int) (f : Int) (g : Int) (r : List Int) (h : q5w  l m f g = some r) : K8 Tryz.prog tab 176 [.hs 0 1 0 l.length,q9 m,q9 f,q9 g] [(0,.dat 1 (l.map (eI .i64)))] 1 (.d (.tup [])) [(0,.dat 1 (r.map (eI .i64)))] 1:=by
 unfold q5w at h;refine Ko Tryz.func176 J qi qi J<|qc<|U J<|qa J<|q8<|q7 h fun ao ap h=>Qc<|Ql (q8y f g) (fun c=>⟨[(0,.hs 0 1 0 c.2.length),(2,q9 f),(3,q9 g),(8,q9 c.1)],[(0,.dat 1 (c.2.map (eI .i64)))],1⟩) _ ao ap (wkA [] [] []) ?_;intro c bc a;unfold q8y at a;refine Qc<|qc<|U J<|O _ J<|O _ J<|qa J<|q8<|qf<|qc<|U J<|U J<|O _ J<|q8 ?_;refine qm J a (fun _ a=>?_) (fun _ a=>?_)
 ·refine Qf ?_;refine ⟨_,qt a,fun hm=>?_⟩;subst hm;obtain rfl:=Q0 h;exact ⟨.inl J,_,J,wkA [] [] []⟩
 refine qn<|qf<|qf<|Qk [q6,q6,Q2 0,q6,q6,q6,q6,q6,q6,Q2 0,q6,q6,q6,q6,q6,q6,q6,q6,q6,q6] qi<|U J<|O _ J<|U J<|O _ J<|q7 a fun aq b a=>?_;refine Q9 16 (fun A st=>∃ n o p q s t u v x y z aa ab ac ad,st = A [(36,ql aq),(35,ad),(34,ac),(33,ab),(32,aa),(31,z),(30,y),(29,x),(28,v),(27,u),(26,t),(25,s),(24,q),(23,p),(22,o),(21,n)]) ?_ ?_
 ·refine Qa J J b (fun b=>?_) (fun b=>?_)
  ·refine U J<|U J<|U J<|O _ J<|q7 b fun ar ae b=>Q5 ae J J<|Qi _ ae J<|U J<|U J<|U J<|O _ J<|O _ J<|q7 b fun au af b=>Q5 af J J<|Qi _ af J<|q7 b fun av aw b=>qv (Zu ar au av aw) J<|O _ J<|q8 ?_;cases b;exact ⟨_,_,_,_,_,_,_,_,_,_,_,_,_,_,_,J⟩
  refine qb J<|qb J<|qb J<|qb J<|qb J<|qb J<|qb J<|qb J<|qb J<|qb J<|qb J<|qb J<|qb J<|qb J<|O _ J<|q8 ?_;cases b;exact ⟨_,_,_,_,_,_,_,_,_,_,_,_,_,_,_,J⟩
 rintro _ ⟨n,o,p,q,s,t,u,v,x,y,z,aa,ab,ac,ad,rfl⟩;refine q8<|q7 a fun ax j a=>?_;refine Y9 (fun k=>k = ax) (fun k=>⟨[(0,.hs 0 1 0 c.2.length),(2,q9 f),(3,q9 g),(8,q9 c.1),(9,q9 k)],[(0,.dat 1 (c.2.map (eI .i64)))],1⟩) qe ?_ ?_
 ·refine qm J j (fun _ j=>?_) (fun _ j=>?_)
  ·refine Q6<|U J<|O _ J<|qa J<|Q4 ?_;obtain rfl:=Q0 j;exact ⟨_,J,wkA [] [] []⟩
  refine qn<|Qo ?_;obtain rfl:=Q0 j;exact ⟨_,J,wkA [] [] []⟩
 intro k hb;subst hb;refine qf<|qf<|Qk [q6,q6,Q2 0,q6,q6,q6,q6,q6,Q2 0,q6,q6,q6,q6,q6] qi<|U J<|U J<|U J<|O _ J<|q7 a fun ay ag a=>Q5 ag J J<|Qi _ ag J<|U J<|U J<|U J<|O _ J<|q7 a fun az ah a=>Q5 ah J J<|Qi _ ah J<|q7 a fun ba bb a=>qv (Zu ay az ba bb) J<|O _ J<|q8 ?_;refine qm J a (fun _ a=>?_) (fun _ a=>?_)
 ·refine q5n ?_;refine ⟨_,qt a,fun hm=>?_⟩;subst hm;obtain rfl:=Q0 h;exact ⟨.inr J,_,J,wkA [] [] []⟩
 refine qn<|qf<|Qk [Qv 0,q6,Qv 0,q6,Q2 0,q6,q6,q6,q6,q6,Q2 0,q6,q6,q6,q6,q6,q6,q6,q6,q6,q6,q6,q6,q6] qi<|U J<|U J<|U J<|O _ J<|U J<|U J<|U J<|O _ J<|U J<|U J<|U J<|O _ J<|q7 a fun ai aj a=>Q5 aj J J<|Qi _ aj J<|U J<|U J<|U J<|O _ J<|q7 a fun ak al a=>Q5 al J J<|Qi _ al J<|q7 a fun bd am a=>Q5 am J J<|K2 (ds:=[qd ai]) ai am J J J J J J J J (leb J) J<|q7 a fun be an a=>Q5 an qe J<|K2 (ds:=[qd ak]) ak an J J J J J J J J (leb J) J<|q8<|Q6<|U J<|qa J<|Q4<|Qs<|Qo<|⟨_,qt a,wkE [] [] [] J ⟨⟨_,J,K5 qe J qr (ltd J)⟩,qo J,qo J,qo J,trivial⟩ ⟨Qp J J,trivial⟩⟩
theorem q111 (l : List Int) (b : Int) (g : Int) (r : List Int) (h : q87  l b g = some r) : K8 Tryz.prog tab 158 [.hs 0 1 0 l.length,q9 b,q9 g] [(0,.dat 1 (l.map (eI .i64)))] 1 (.d (.tup [])) [(0,.dat 1 (r.map (eI .i64)))] 1:=by
 unfold q87 at h;refine Ko Tryz.func158 J qi qi J<|qc<|U J<|qa J<|qx<|qa J<|qx<|U J<|U J<|O _ J<|qa J<|q8<|qf<|qc<|U J<|O _ J<|O _ J<|qa J<|q8<|q7 h fun p x h=>?_;refine Qn (fun k=>k = p) (fun k=>⟨[(0,.hs 0 1 0 k.length),(6,q9 b),(7,q9 0),(8,.d (qd (w64 (g - b))))],[(0,.dat 1 (k.map (eI .i64)))],1⟩) qe ?_ ?_
 ·refine Ql (q88 g b) (fun j=>⟨[(0,.hs 0 1 0 j.2.length),(6,q9 b),(7,q9 0),(8,.d (qd (w64 (g - b)))),(9,q9 j.1)],[(0,.dat 1 (j.2.map (eI .i64)))],1⟩) _ p x (wkA [] [] []) ?_;intro j ag c;unfold q88 at c;refine qf<|qc<|U J<|O _ J<|q8 ?_;refine qm J c (fun _ c=>?_) (fun _ c=>?_)
  ·refine qn<|qf<|Qc<|Q6<|U J<|U J<|U J<|U J<|q7 c fun q y c=>q7 c fun ah z c=>?_;have aa:=Ku z;refine Kc [(0,0)] [(0,0)] _ (.d (.tup [])) 1 [(0,.dat 1 (q.map (eI .i64)))] 1 (qpi j.2 j.1 (w64 (g - b)) b q y)<|Q4<|Qs<|Q6<|U J<|O _ J<|qa J<|Q4<|⟨_,qt c,wkE [] [] [] J ⟨⟨_,J,K5 (by simp [aa]) J qr (ltd J)⟩,qo J,qo J,qo J,qo J,trivial⟩ ⟨Qp J J,trivial⟩⟩
  refine Qf ?_;refine ⟨_,qt c,fun hm=>?_⟩;subst hm;exact ⟨_,J,wkA [] [] []⟩
 intro k hb;subst hb;refine qc<|U J<|O _ J<|qa J<|q8<|q7 h fun ab ac h=>Qc<|Ql (q89 b) (fun f=>⟨[(0,.hs 0 1 0 f.2.length),(6,q9 b),(7,q9 0),(10,q9 f.1)],[(0,.dat 1 (f.2.map (eI .i64)))],1⟩) _ ab ac (wkA [] [] []) ?_;intro f ai a;unfold q89 at a;refine qf<|qc<|U J<|O _ J<|q8 ?_;refine qm J a (fun _ a=>?_) (fun _ a=>?_)
 ·refine qn<|qf<|Qc<|qf<|Qk [Qv 0,q6,Qv 0,q6,Q2 0,q6,q6,q6,Q2 0,q6,q6,q6,q6,q6,q6,q6,q6,q6,q6,q6] qi<|U J<|U J<|U J<|U J<|U J<|O _ J<|U J<|U J<|U J<|O _ J<|q7 a fun m s a=>Q5 s J J<|Qi _ s J<|U J<|U J<|q7 a fun n t a=>Q5 t J J<|Qi _ t J<|q7 a fun aj u a=>Q5 u J J<|K2 (ds:=[qd m]) m u J J J J J J J J (leb J) J<|q7 a fun ak v a=>Q5 v qe J<|K2 (ds:=[qd n]) n v J J J J J J J J (leb J) J<|q8<|Q6<|U J<|U J<|U J<|U J<|q7 a fun o ad a=>q7 a fun al ae a=>?_;have af:=Ku ae;refine q1j [(0,0)] [(0,0)] [.hs 0 1 0 f.2.length,q9 0,q9 f.1,q9 b] (.d (.tup [])) [(0,.dat 1 (o.map (eI .i64)))] [(0,.dat 1 (o.map (eI .i64)))] 1 (qpi ((f.2.set b.toNat m).set (w64 (b + f.1)).toNat n) 0 f.1 b o ad) J J J (Yz [(0,0)] [] [] J ⟨⟨_,J,K5 qe J qr (ltd J)⟩,qo J,qo J,qo J,trivial⟩ ⟨Qp J J,trivial⟩) (Yz [(0,0)] [] [] J ⟨qo J,trivial⟩ ⟨Qp J J,trivial⟩) J ⟨.inl J,trivial⟩<|Q4<|Qs<|Q6<|U J<|O _ J<|qa J<|Q4<|⟨_,qt a,wkE [] [] [] J ⟨⟨_,J,K5 (by simp [af]) J qr (ltd J)⟩,qo J,qo J,qo J,trivial⟩ ⟨Qp J J,trivial⟩⟩
 refine Qf ?_;refine ⟨_,qt a,fun hm=>?_⟩;subst hm;obtain rfl:=Q0 h;exact ⟨.inl J,_,J,wkA [] [] []⟩
theorem qig (b : List Int) (c : Int) (f : Int) (g : Int) (r : Int × Int × Int) (a : q4e  b c f g = some r) : K8 Tryz.prog tab 185 [.d (.sl 1 (b.map (eI .i64))),q9 c,q9 f,.ref 0 1 0 0] [(0,.dat 1 [[qd g]])] 1 (.d (.tup [qd r.1,qd r.2.1])) [(0,.dat 1 [[qd r.2.2]])] 1:=by
 unfold q4e at a;refine Ko Tryz.func185 J qi qi J<|qc<|qa J<|qa J<|q8<|qf<|qf<|Qk [q6,q6,q6,q6,q6,q6,q6,q6,q6] qi<|U J<|U J<|q7 a fun h j a=>Qq j J<|O _ J<|U J<|U J<|q7 a fun k l a=>Qq l J<|O _ J<|q7 a fun m n a=>qv (Zu h k m n) J<|q8 ?_;refine qm J a (fun _ a=>?_) (fun _ a=>?_)
 ·refine qc<|U J<|O _ J<|O _ J<|O _ J<|O _ J<|Qd 0 _ J<|qx<|U J<|U J<|qa J<|qa J<|qw ?_;obtain rfl:=Q0 a;exact ⟨.inr J,_,J,wkA [] [] []⟩
 refine qn<|qc<|U J<|U J<|qa J<|qa J<|qw ?_;obtain rfl:=Q0 a;exact ⟨.inr J,_,J,wkA [] [] []⟩
theorem qpf (f : List Int) (h : Int) (j : Int) (k : Int) (l : Int) (r : Int × Int) (a : q5q  f h j k l = some r) : K8 Tryz.prog tab 180 [.d (.sl 1 (f.map (eI .i64))),q9 h,q9 j,q9 k,.ref 0 1 0 0] [(0,.dat 1 [[qd l]])] 1 (q9 r.1) [(0,.dat 1 [[qd r.2]])] 1:=by
 unfold q5q at a;refine Ko Tryz.func180 J qi qi J<|qc<|qa J<|qx<|U J<|U J<|U J<|U J<|q7 a fun b m a=>Kc [(0,0)] [(0,0)] _ (.d (.tup [qd b.1,qd b.2.1])) 1 [(0,.dat 1 [[qd b.2.2]])] 1 (qig f h j l b m)<|U J<|O _ J<|O _ J<|qa J<|qa J<|qx<|U J<|U J<|U J<|U J<|q7 a fun c n a=>Kc [(0,0)] [(0,0)] _ (.d (.tup [qd c.1,qd c.2.1])) 1 [(0,.dat 1 [[qd c.2.2]])] 1 (qig f b.2.1 k b.2.2 c n)<|U J<|O _ J<|O _ J<|qa J<|qa J<|qx<|U J<|U J<|U J<|U J<|q7 a fun g o a=>Kc [(0,0)] [(0,0)] _ (.d (.tup [qd g.1,qd g.2.1])) 1 [(0,.dat 1 [[qd g.2.2]])] 1 (qig f b.1 c.1 c.2.2 g o)<|U J<|O _ J<|O _ J<|qa J<|qa J<|qx ?_;refine U J<|qa J<|qw ?_;obtain rfl:=Q0 a;exact ⟨.inr J,_,J,wkA [] [] []⟩
theorem qie (c : List Int) (a : Int) (f : Int) (r : Int × Int) (b : q4d  c a f = some r) : K8 Tryz.prog tab 179 [.d (.sl 1 (c.map (eI .i64))),q9 a,.ref 0 1 0 0] [(0,.dat 1 [[qd f]])] 1 (q9 r.1) [(0,.dat 1 [[qd r.2]])] 1:=by
 unfold q4d at b;refine Ko Tryz.func179 J qi qi J<|qc<|qa J<|qx<|U J<|U J<|O _ J<|U J<|U J<|O _ J<|U J<|q7 b fun g h b=>Kc [(0,0)] [(0,0)] _ (q9 g.1) 1 [(0,.dat 1 [[qd g.2]])] 1 (qpf c (w64 (a - 1)) a (w64 (a + 1)) f g h)<|qa J<|qw ?_;obtain rfl:=Q0 b;exact ⟨.inr J,_,J,wkA [] [] []⟩
theorem q10z (h : List Int) (g : Int) (j : Int) (r : Int × Int) (a : q86 h g j = some r) : Pure Tryz.prog tab 160 [.sl 1 (h.map (eI .i64)),qd g,qd j] (.tup [qd r.1,qd r.2]):=by
 unfold q86 at a;refine Qm Tryz.func160 J qi qi J<|qc<|qa J<|qa J<|qx<|U J<|U J<|O _ J<|qa J<|qx<|Qt J J<|qx<|U J<|U J<|O _ J<|O _ J<|O _ J<|qa J<|qx<|U J<|U J<|O _ J<|O _ J<|O _ J<|qa J<|qx<|U J<|U J<|O _ J<|O _ J<|O _ J<|qa J<|q8<|qf<|qc<|U J<|O _ J<|q8<|q7 a fun p f a=>?_;refine Y9 (fun k=>k = p) (fun k=>⟨[(9,.ref 0 1 0 0),(11,q9 k.1)],[(0,.dat 1 [[qd k.2]])],1⟩) qe ?_ ?_
 ·refine qm J f (fun _ f=>?_) (fun _ f=>?_)
  ·refine qf<|qc<|U J<|O _ J<|q8<|q7 f fun q b f=>?_;refine Y9 (fun c=>c = q) (fun c=>⟨[(0,.d (.sl 1 (h.map (eI .i64)))),(9,.ref 0 1 0 0),(10,q9 c.1),(11,q9 c.2.1),(12,q9 c.2.2.1)],[(0,.dat 1 [[qd c.2.2.2]])],1⟩) qe ?_ ?_
   ·refine qm J b (fun _ b=>?_) (fun _ b=>?_)
    ·refine qc<|U J<|U J<|q7 b fun l s b=>Kc [(0,0)] [(0,0)] _ (q9 l.1) 1 [(0,.dat 1 [[qd l.2]])] 1 (qie h (w64 (g + (w64 ((w64 (Int.tdiv (w64 (j - g)) 4)) * 1)))) 0 l s)<|qa J<|qx<|U J<|U J<|q7 b fun m t b=>Kc [(0,0)] [(0,0)] _ (q9 m.1) 1 [(0,.dat 1 [[qd m.2]])] 1 (qie h (w64 (g + (w64 ((w64 (Int.tdiv (w64 (j - g)) 4)) * 2)))) l.2 m t)<|qa J<|q8<|Q6<|U J<|U J<|q7 b fun n u b=>Kc [(0,0)] [(0,0)] _ (q9 n.1) 1 [(0,.dat 1 [[qd n.2]])] 1 (qie h (w64 (g + (w64 ((w64 (Int.tdiv (w64 (j - g)) 4)) * 3)))) m.2 n u)<|qa J<|Q4 ?_;obtain rfl:=Q0 b;exact ⟨_,J,wkA [(0,0)] [] []⟩
    refine qn<|Qo ?_;obtain rfl:=Q0 b;exact ⟨_,J,wkA [(0,0)] [] []⟩
   intro c hb;subst hb;refine Q6<|U J<|U J<|U J<|U J<|q7 f fun o v f=>Kc [(0,0)] [(0,0)] _ (q9 o.1) 1 [(0,.dat 1 [[qd o.2]])] 1 (qpf h c.1 c.2.1 c.2.2.1 c.2.2.2 o v)<|qa J<|Q4 ?_;obtain rfl:=Q0 f;exact ⟨_,J,wkA [(0,0)] [] []⟩
  refine qn<|Qo ?_;obtain rfl:=Q0 f;exact ⟨_,J,wkA [(0,0)] [] []⟩
 intro k hb;subst hb;refine qc<|O _ J<|q8<|Qc<|qc<|O _ J<|qa J<|q8 ?_;refine qm J a (fun _ a=>?_) (fun _ a=>?_)
 ·refine qc<|U J<|qa J<|qa J<|qw ?_;cases a;exact Q8 _ J
 refine qc<|O _ J<|qa J<|q8 ?_;refine qm J a (fun _ a=>?_) (fun _ a=>?_)
 ·refine qc<|U J<|qa J<|qa J<|qw ?_;cases a;exact Q8 _ J
 refine qc<|U J<|qa J<|qa J<|qw ?_;cases a;exact Q8 _ J
theorem q11f (f : List Int) (g : Int) (h : Int) (r : List Int) (c : q8w  f g h = some r) : K8 Tryz.prog tab 161 [.hs 0 1 0 f.length,q9 g,q9 h] [(0,.dat 1 (f.map (eI .i64)))] 1 (.d (.tup [])) [(0,.dat 1 (r.map (eI .i64)))] 1:=by
 unfold q8w at c;refine Ko Tryz.func161 J qi qi J<|qc<|U J<|qa J<|qx<|U J<|O _ J<|qa J<|q8<|q7 c fun p q c=>Qc<|Ql (qbw) (fun b=>⟨[(0,.hs 0 1 0 b.2.2.length),(6,q9 b.1),(7,q9 b.2.1)],[(0,.dat 1 (b.2.2.map (eI .i64)))],1⟩) _ p q (wkA [] [] []) ?_;intro b s a;unfold qbw at a;refine qf<|qc<|U J<|U J<|O _ J<|q8 ?_;refine qm J a (fun _ a=>?_) (fun _ a=>?_)
 ·refine qn<|Qc<|qf<|Qk [Qv 0,q6,Qv 0,q6,Q2 0,q6,q6,q6,Q2 0,q6,q6,q6,q6,q6,q6,q6] qi<|U J<|U J<|U J<|U J<|U J<|U J<|q7 a fun j k a=>Q5 k J J<|Qi _ k J<|U J<|U J<|q7 a fun l m a=>Q5 m J J<|Qi _ m J<|q7 a fun t n a=>Q5 n J J<|K2 (ds:=[qd j]) j n J J J J J J J J (leb J) J<|q7 a fun u o a=>Q5 o qe J<|K2 (ds:=[qd l]) l o J J J J J J J J (leb J) J<|qx<|U J<|O _ J<|qa J<|q8<|Q6<|U J<|O _ J<|qa J<|Q4<|Qs<|Qo<|⟨_,qt a,wkE [] [] [] J ⟨⟨_,J,K5 qe J qr (ltd J)⟩,qo J,qo J,trivial⟩ ⟨Qp J J,trivial⟩⟩
 refine Qf ?_;refine ⟨_,qt a,fun hm=>?_⟩;subst hm;obtain rfl:=Q0 c;exact ⟨.inl J,_,J,wkA [] [] []⟩
theorem q115 (u : List Int) (h : Int) (f : Int) (r : Bool × List Int) (n : q5s  u h f = some r) : K8 Tryz.prog tab 162 [.hs 0 1 0 u.length,q9 h,q9 f] [(0,.dat 1 (u.map (eI .i64)))] 1 (ql r.1) [(0,.dat 1 (r.2.map (eI .i64)))] 1:=by
 unfold q5s at n;refine Ko Tryz.func162 J qi qi J<|qc<|qa J<|qx<|U J<|O _ J<|qa J<|q8<|qf<|qc<|qa J<|q8<|q7 n fun y bl n=>?_;refine Qn (fun q=>.inl q = y) (fun q=>⟨[],[(0,.dat 1 (q.map (eI .i64)))],1⟩) qe ?_ ?_
 ·refine Ql (q5t f h) (fun d=>⟨[(0,.hs 0 1 0 d.2.2.length),(1,q9 h),(2,q9 f),(7,q9 d.1),(8,q9 d.2.1)],[(0,.dat 1 (d.2.2.map (eI .i64)))],1⟩) _ y bl (wkA [] [] []) ?_;intro d ci j;unfold q5t at j;refine qf<|qc<|U J<|O _ J<|q8 ?_;refine qm J j (fun _ j=>?_) (fun _ j=>?_)
  ·refine qn<|qf<|q7 j fun bm a j=>?_;refine Qn (fun o=>.inl o = bm) (fun o=>⟨[(0,.hs 0 1 0 o.2.length),(1,q9 h),(2,q9 f),(7,q9 o.1),(8,q9 d.2.1)],[(0,.dat 1 (o.2.map (eI .i64)))],1⟩) qe ?_ ?_
   ·refine qf<|q7 a fun z bn a=>?_;refine Qn (fun k=>k = z) (fun k=>⟨[(0,.hs 0 1 0 d.2.2.length),(1,q9 h),(2,q9 f),(7,q9 k),(8,q9 d.2.1)],[(0,.dat 1 (d.2.2.map (eI .i64)))],1⟩) qe ?_ ?_
    ·refine Ql (q8g f d) (fun aa=>⟨[(0,.hs 0 1 0 d.2.2.length),(1,q9 h),(2,q9 f),(7,q9 aa),(8,q9 d.2.1)],[(0,.dat 1 (d.2.2.map (eI .i64)))],1⟩) _ z bn (wkA [] [] []) ?_;intro aa cj l;unfold q8g at l;refine qf<|qf<|Qk [q6,q6,q6,Q2 0,q6,q6,q6,q6,Q2 0,q6,q6,q6,q6,q6,q6,q6] qi<|U J<|U J<|O _ J<|q7 l fun bo g l=>?_;refine Q9 13 (fun A st=>∃ ab ac ad ae af ag ah ai aj ak al am,st = A [(32,ql bo),(31,am),(30,al),(29,ak),(28,aj),(27,ai),(26,ah),(25,ag),(24,af),(23,ae),(22,ad),(21,ac),(20,ab)]) ?_ ?_
     ·refine Qa J J g (fun g=>?_) (fun g=>?_)
      ·refine U J<|U J<|q7 g fun bp an g=>Q5 an J J<|Qi _ an J<|U J<|U J<|O _ J<|q7 g fun bq ao g=>Q5 ao J J<|Qi _ ao J<|q7 g fun br bs g=>qv (Zu bp bq br bs) J<|O _ J<|O _ J<|q8 ?_;cases g;exact ⟨_,_,_,_,_,_,_,_,_,_,_,_,J⟩
      refine qb J<|qb J<|qb J<|qb J<|qb J<|qb J<|qb J<|qb J<|qb J<|qb J<|qb J<|O _ J<|q8 ?_;cases g;exact ⟨_,_,_,_,_,_,_,_,_,_,_,_,J⟩
     rintro _ ⟨ab,ac,ad,ae,af,ag,ah,ai,aj,ak,al,am,rfl⟩;refine q8 ?_;refine qm J l (fun _ l=>?_) (fun _ l=>?_)
     ·refine qn<|Qc<|Q6<|U J<|O _ J<|qa J<|Q4<|Qs<|Qo<|⟨_,qt l,wkA [] [] []⟩
     refine Qf ?_;refine ⟨_,qt l,fun hm=>?_⟩;subst hm;exact ⟨_,J,wkA [] [] []⟩
    intro k hb;subst hb;refine qf<|qc<|U J<|U J<|O _ J<|q8 ?_;refine qm J a (fun _ a=>?_) (fun _ a=>?_)
    ·refine qc<|qa J<|qw ?_;obtain rfl:=Q0 a;refine ⟨_,qt j,fun hm=>?_⟩;subst hm;obtain rfl:=Q0 n;exact ⟨.inr J,_,J,wkA [] [] []⟩
    refine qn<|qf<|qc<|U J<|U J<|O _ J<|O _ J<|q8 ?_;refine qm J a (fun _ a=>?_) (fun _ a=>?_)
    ·refine qc<|qa J<|qw ?_;obtain rfl:=Q0 a;refine ⟨_,qt j,fun hm=>?_⟩;subst hm;obtain rfl:=Q0 n;exact ⟨.inr J,_,J,wkA [] [] []⟩
    refine qn<|qf<|Qk [Qv 0,q6,Qv 0,q6,Q2 0,q6,q6,q6,Q2 0,q6,q6,q6,q6,q6,q6,q6,q6,q6] qi<|U J<|U J<|U J<|U J<|O _ J<|U J<|U J<|O _ J<|q7 a fun ap aq a=>Q5 aq J J<|Qi _ aq J<|U J<|U J<|q7 a fun ar au a=>Q5 au J J<|Qi _ au J<|q7 a fun ck av a=>Q5 av J J<|K2 (ds:=[qd ap]) ap av J J J J J J J J (leb J) J<|q7 a fun cl aw a=>Q5 aw qe J<|K2 (ds:=[qd ar]) ar aw J J J J J J J J (leb J) J<|q8<|qf<|qc<|U J<|U J<|O _ J<|O _ J<|q8<|q7 a fun bt m a=>?_;refine Y9 (fun p=>p = bt) (fun p=>⟨[(0,.hs 0 1 0 p.length),(1,q9 h),(2,q9 f),(7,q9 k),(8,q9 d.2.1)],[(0,.dat 1 (p.map (eI .i64)))],1⟩) qe ?_ ?_
    ·refine qm J m (fun _ m=>?_) (fun _ m=>?_)
     ·refine qc<|U J<|O _ J<|qa J<|q8<|q7 m fun bu bv m=>Qc<|Ql (qbj) (fun s=>⟨[(0,.hs 0 1 0 s.2.length),(1,q9 h),(2,q9 f),(7,q9 k),(8,q9 d.2.1),(9,q9 s.1)],[(0,.dat 1 (s.2.map (eI .i64)))],1⟩) _ bu bv (wkE [] [] [] J ⟨⟨_,J,K5 qe J qr (ltd J)⟩,qo J,qo J,qo J,qo J,qo J,trivial⟩ ⟨Qp J J,trivial⟩) ?_;intro s cm b;unfold qbj at b;refine qf<|qc<|U J<|O _ J<|q8 ?_;refine qm J b (fun _ b=>?_) (fun _ b=>?_)
      ·refine qn<|qf<|Qc<|qf<|qf<|Qk [q6,q6,Q2 0,q6,q6,q6,q6,Q2 0,q6,q6,q6] qi<|U J<|U J<|q7 b fun bw ax b=>Q5 ax J J<|Qi _ ax J<|U J<|U J<|O _ J<|q7 b fun bz ay b=>Q5 ay J J<|Qi _ ay J<|q7 b fun ca cb b=>qv (Zu bw bz ca cb) J<|O _ J<|q8 ?_;refine qm J b (fun _ b=>?_) (fun _ b=>?_)
       ·refine Qf ?_;refine ⟨_,qt b,fun hm=>?_⟩;subst hm;obtain rfl:=Q0 m;exact ⟨_,J,wkA [] [] []⟩
       refine qn<|Qk [Qv 0,q6,Qv 0,q6,Q2 0,q6,q6,q6,Q2 0,q6,q6,q6,q6,q6,q6,q6,q6,q6] qi<|U J<|U J<|U J<|U J<|O _ J<|U J<|U J<|O _ J<|q7 b fun az ba b=>Q5 ba J J<|Qi _ ba J<|U J<|U J<|q7 b fun v bb b=>Q5 bb J J<|Qi (q9 v) bb J<|q7 b fun cn bc b=>Q5 bc J J<|K2 (ds:=[qd az]) az bc J J J J J J J J (leb J) J<|q7 b fun co bd b=>Q5 bd qe J<|K2 (ds:=[qd v]) v bd J J J J J J J J (leb J) J<|Q4<|Qs<|Q6<|U J<|O _ J<|qa J<|Q4<|⟨_,qt b,wkE [] [] [] J ⟨⟨_,J,K5 qe J qr (ltd J)⟩,qo J,qo J,qo J,qo J,qo J,trivial⟩ ⟨Qp J J,trivial⟩⟩
      refine Qf ?_;refine ⟨_,qt b,fun hm=>?_⟩;subst hm;obtain rfl:=Q0 m;exact ⟨_,J,wkA [] [] []⟩
     refine qn<|Qo ?_;obtain rfl:=Q0 m;exact ⟨_,J,wkE [] [] [] J ⟨⟨_,J,K5 qe J qr (ltd J)⟩,qo J,qo J,qo J,qo J,trivial⟩ ⟨Qp J J,trivial⟩⟩
    intro p hb;subst hb;refine qc<|U J<|U J<|O _ J<|O _ J<|q8 ?_;refine qm J a (fun _ a=>?_) (fun _ a=>?_)
    ·refine qc<|U J<|O _ J<|qa J<|q8<|q7 a fun cc cd a=>Qc<|Ql (q8h f k) (fun t=>⟨[(0,.hs 0 1 0 t.2.length),(1,q9 h),(2,q9 f),(7,q9 k),(8,q9 d.2.1),(10,q9 t.1)],[(0,.dat 1 (t.2.map (eI .i64)))],1⟩) _ cc cd (wkA [] [] []) ?_;intro t cp c;unfold q8h at c;refine qf<|qc<|U J<|U J<|O _ J<|q8 ?_;refine qm J c (fun _ c=>?_) (fun _ c=>?_)
     ·refine qn<|qf<|Qc<|qf<|qf<|Qk [q6,q6,Q2 0,q6,q6,q6,q6,Q2 0,q6,q6,q6] qi<|U J<|U J<|q7 c fun ce be c=>Q5 be J J<|Qi _ be J<|U J<|U J<|O _ J<|q7 c fun cf bf c=>Q5 bf J J<|Qi _ bf J<|q7 c fun cg ch c=>qv (Zu ce cf cg ch) J<|O _ J<|q8 ?_;refine qm J c (fun _ c=>?_) (fun _ c=>?_)
      ·refine Qf ?_;refine ⟨_,qt c,fun hm=>?_⟩;subst hm;obtain rfl:=Q0 a;exact ⟨_,J,wkA [] [] []⟩
      refine qn<|Qk [Qv 0,q6,Qv 0,q6,Q2 0,q6,q6,q6,Q2 0,q6,q6,q6,q6,q6,q6,q6,q6,q6] qi<|U J<|U J<|U J<|U J<|O _ J<|U J<|U J<|O _ J<|q7 c fun bg bh c=>Q5 bh J J<|Qi _ bh J<|U J<|U J<|q7 c fun x bi c=>Q5 bi J J<|Qi (q9 x) bi J<|q7 c fun cq bj c=>Q5 bj J J<|K2 (ds:=[qd bg]) bg bj J J J J J J J J (leb J) J<|q7 c fun cr bk c=>Q5 bk qe J<|K2 (ds:=[qd x]) x bk J J J J J J J J (leb J) J<|Q4<|Qs<|Q6<|U J<|O _ J<|qa J<|Q4<|⟨_,qt c,wkE [] [] [] J ⟨⟨_,J,K5 qe J qr (ltd J)⟩,qo J,qo J,qo J,qo J,qo J,trivial⟩ ⟨Qp J J,trivial⟩⟩
     refine Qf ?_;refine ⟨_,qt c,fun hm=>?_⟩;subst hm;obtain rfl:=Q0 a;exact ⟨_,J,wkA [] [] []⟩
    refine qn<|Qo ?_;obtain rfl:=Q0 a;exact ⟨_,J,wkA [] [] []⟩
   intro o hb;subst hb;refine Q6<|U J<|O _ J<|qa J<|Q4<|⟨_,qt j,wkA [] [] []⟩
  refine Qf ?_;refine ⟨_,qt j,fun hm=>?_⟩;subst hm;exact ⟨_,J,wkA [] [] []⟩
 intro q hb;subst hb;refine qc<|qa J<|qw ?_;obtain rfl:=Q0 n;exact ⟨.inr J,_,J,wkA [] [] []⟩
theorem q118 (n : List Int) (g : Int) (p : Int) (q : Int) (r : Int × List Int) (c : q8i  n g p q = some r) : K8 Tryz.prog tab 164 [.hs 0 1 0 n.length,q9 g,q9 p,q9 q] [(0,.dat 1 (n.map (eI .i64)))] 1 (q9 r.1) [(0,.dat 1 (r.2.map (eI .i64)))] 1:=by
 unfold q8i at c;refine Ko Tryz.func164 J qi qi J<|qc<|qa J<|q8<|qf<|Qk [Qv 0,q6,Qv 0,q6,Q2 0,q6,q6,q6,Q2 0,q6,q6,q6,q6,q6,q6,q6] qi<|U J<|U J<|U J<|U J<|U J<|U J<|q7 c fun s t c=>Q5 t J J<|Qi _ t J<|U J<|U J<|q7 c fun u v c=>Q5 v J J<|Qi _ v J<|q7 c fun bz x c=>Q5 x J J<|K2 (ds:=[qd s]) s x J J J J J J J J (leb J) J<|q7 c fun ca y c=>Q5 y qe J<|K2 (ds:=[qd u]) u y J J J J J J J J (leb J) J<|qx<|U J<|O _ J<|U J<|O _ J<|qa J<|qa J<|q8<|qf<|q7 c fun z bk c=>?_;refine Qn (fun l=>l = z) (fun l=>⟨[(9,q9 l.1)],[(0,.dat 1 (l.2.map (eI .i64)))],1⟩) qe ?_ ?_
 ·refine Ql (q8j g) (fun b=>⟨[(0,.hs 0 1 0 b.2.2.length),(1,q9 g),(9,q9 b.1),(10,q9 b.2.1)],[(0,.dat 1 (b.2.2.map (eI .i64)))],1⟩) _ z bk (wkE [] [] [] J ⟨⟨_,J,K5 qe J qr (ltd J)⟩,qo J,qo J,qo J,trivial⟩ ⟨Qp J J,trivial⟩) ?_;intro b cb a;unfold q8j at a;refine Qc<|qf<|q7 a fun aa bl a=>?_;refine Qn (fun k=>k = aa) (fun k=>⟨[(0,.hs 0 1 0 b.2.2.length),(1,q9 g),(9,q9 k),(10,q9 b.2.1)],[(0,.dat 1 (b.2.2.map (eI .i64)))],1⟩) qe ?_ ?_
  ·refine Ql (q8k b g) (fun ab=>⟨[(0,.hs 0 1 0 b.2.2.length),(1,q9 g),(9,q9 ab),(10,q9 b.2.1)],[(0,.dat 1 (b.2.2.map (eI .i64)))],1⟩) _ aa bl (wkA [] [] []) ?_;intro ab cc h;unfold q8k at h;refine qf<|qf<|Qk [q6,q6,q6,Q2 0,q6,q6,q6,Q2 0,q6,q6,q6,q6,q6,q6,q6] qi<|U J<|U J<|O _ J<|q7 h fun bm d h=>?_;refine Q9 12 (fun A st=>∃ ac ad ae af ag ah ai aj ak al am,st = A [(43,ql bm),(42,am),(41,al),(40,ak),(39,aj),(38,ai),(37,ah),(36,ag),(35,af),(34,ae),(33,ad),(32,ac)]) ?_ ?_
   ·refine Qa J J d (fun d=>?_) (fun d=>?_)
    ·refine U J<|U J<|q7 d fun bn an d=>Q5 an J J<|Qi _ an J<|U J<|U J<|q7 d fun bo ao d=>Q5 ao J J<|Qi _ ao J<|q7 d fun bp bq d=>qv (Zu bn bo bp bq) J<|O _ J<|O _ J<|q8 ?_;cases d;exact ⟨_,_,_,_,_,_,_,_,_,_,_,J⟩
    refine qb J<|qb J<|qb J<|qb J<|qb J<|qb J<|qb J<|qb J<|qb J<|qb J<|O _ J<|q8 ?_;cases d;exact ⟨_,_,_,_,_,_,_,_,_,_,_,J⟩
   rintro _ ⟨ac,ad,ae,af,ag,ah,ai,aj,ak,al,am,rfl⟩;refine q8 ?_;refine qm J h (fun _ h=>?_) (fun _ h=>?_)
   ·refine qn<|Qc<|Q6<|U J<|O _ J<|qa J<|Q4<|Qs<|Qo<|⟨_,qt h,wkA [] [] []⟩
   refine Qf ?_;refine ⟨_,qt h,fun hm=>?_⟩;subst hm;exact ⟨_,J,wkA [] [] []⟩
  intro k hb;subst hb;refine qf<|q7 a fun ap br a=>?_;refine Qn (fun m=>m = ap) (fun m=>⟨[(0,.hs 0 1 0 b.2.2.length),(1,q9 g),(9,q9 k),(10,q9 m)],[(0,.dat 1 (b.2.2.map (eI .i64)))],1⟩) qe ?_ ?_
  ·refine Ql (q8l k b g) (fun aq=>⟨[(0,.hs 0 1 0 b.2.2.length),(1,q9 g),(9,q9 k),(10,q9 aq)],[(0,.dat 1 (b.2.2.map (eI .i64)))],1⟩) _ ap br (wkA [] [] []) ?_;intro aq cd j;unfold q8l at j;refine qf<|qf<|Qk [q6,q6,Q2 0,q6,q6,q6,Q2 0,q6,q6,q6,q6,q6,q6,q6] qi<|U J<|U J<|O _ J<|q7 j fun bs f j=>?_;refine Q9 11 (fun A st=>∃ ar au av aw ax ay az ba bb bc,st = A [(59,ql bs),(58,bc),(57,bb),(56,ba),(55,az),(54,ay),(53,ax),(52,aw),(51,av),(50,au),(49,ar)]) ?_ ?_
   ·refine Qa J J f (fun f=>?_) (fun f=>?_)
    ·refine U J<|U J<|q7 f fun bt bd f=>Q5 bd J J<|Qi _ bd J<|U J<|U J<|q7 f fun bu be f=>Q5 be J J<|Qi _ be J<|q7 f fun bv bw f=>qv (Zu bt bu bv bw) J<|O _ J<|q8 ?_;cases f;exact ⟨_,_,_,_,_,_,_,_,_,_,J⟩
    refine qb J<|qb J<|qb J<|qb J<|qb J<|qb J<|qb J<|qb J<|qb J<|O _ J<|q8 ?_;cases f;exact ⟨_,_,_,_,_,_,_,_,_,_,J⟩
   rintro _ ⟨ar,au,av,aw,ax,ay,az,ba,bb,bc,rfl⟩;refine q8 ?_;refine qm J j (fun _ j=>?_) (fun _ j=>?_)
   ·refine qn<|Qc<|Q6<|U J<|O _ J<|qa J<|Q4<|Qs<|Qo<|⟨_,qt j,wkA [] [] []⟩
   refine Qf ?_;refine ⟨_,qt j,fun hm=>?_⟩;subst hm;exact ⟨_,J,wkA [] [] []⟩
  intro m hb;subst hb;refine qf<|qc<|U J<|U J<|O _ J<|q8 ?_;refine qm J a (fun _ a=>?_) (fun _ a=>?_)
  ·refine Qf ?_;refine ⟨_,qt a,fun hm=>?_⟩;subst hm;exact ⟨_,J,wkA [] [] []⟩
  refine qn<|qf<|Qk [Qv 0,q6,Qv 0,q6,Q2 0,q6,q6,q6,Q2 0,q6,q6,q6,q6,q6,q6,q6] qi<|U J<|U J<|U J<|U J<|U J<|U J<|q7 a fun bf bg a=>Q5 bg J J<|Qi _ bg J<|U J<|U J<|q7 a fun o bh a=>Q5 bh J J<|Qi (q9 o) bh J<|q7 a fun ce bi a=>Q5 bi J J<|K2 (ds:=[qd bf]) bf bi J J J J J J J J (leb J) J<|q7 a fun cf bj a=>Q5 bj qe J<|K2 (ds:=[qd o]) o bj J J J J J J J J (leb J) J<|qx<|U J<|O _ J<|qa J<|q8<|Q6<|U J<|O _ J<|qa J<|Q4<|Qs<|Qo<|⟨_,qt a,wkE [] [] [] J ⟨⟨_,J,K5 qe J qr (ltd J)⟩,qo J,qo J,qo J,trivial⟩ ⟨Qp J J,trivial⟩⟩
 intro l hb;subst hb;refine qc<|U J<|qa J<|qw ?_;obtain rfl:=Q0 c;exact ⟨.inr J,_,J,wkA [] [] []⟩
theorem q119 (g : List Int) (b : Int) (s : Int) (k : Int) (r : Int × Bool × List Int) (a : q8m  g b s k = some r) : K8 Tryz.prog tab 165 [.hs 0 1 0 g.length,q9 b,q9 s,q9 k] [(0,.dat 1 (g.map (eI .i64)))] 1 (.d (.tup [qd r.1,.bool r.2.1])) [(0,.dat 1 (r.2.2.map (eI .i64)))] 1:=by
 unfold q8m at a;refine Ko Tryz.func165 J qi qi J<|qc<|qa J<|qa J<|q8<|qf<|Qk [Qv 0,q6,Qv 0,q6,Q2 0,q6,q6,q6,Q2 0,q6,q6,q6,q6,q6,q6,q6] qi<|U J<|U J<|U J<|U J<|U J<|U J<|q7 a fun h ap a=>Q5 ap J J<|Qi (q9 h) ap J<|U J<|U J<|q7 a fun j aq a=>Q5 aq J J<|Qi (q9 j) aq J<|q7 a fun fu ar a=>Q5 ar J J<|K2 (ds:=[qd h]) h ar J J J J J J J J (leb J) J<|q7 a fun fv au a=>Q5 au qe J<|K2 (ds:=[qd j]) j au J J J J J J J J (leb J) J<|qx<|U J<|O (.d (qd (w64 (b + 1)))) J<|U J<|O (.d (qd (w64 (s - 1)))) J<|qa J<|qa J<|q8<|qf<|q7 a fun av fe a=>?_;refine Qn (fun l=>l = av) (fun (l : Int)=>⟨[(0,.hs 0 1 0 ((g.set b.toNat h).set k.toNat j).length),(1,q9 b),(10,q9 l),(11,.d (qd (w64 (s - 1))))],[(0,.dat 1 (((g.set b.toNat h).set k.toNat j).map (eI .i64)))],1⟩) qe ?_ ?_
 ·refine Ql (q8n s g b h k j) (fun (ab : Int)=>⟨[(0,.hs 0 1 0 ((g.set b.toNat h).set k.toNat j).length),(1,q9 b),(10,q9 ab),(11,.d (qd (w64 (s - 1))))],[(0,.dat 1 (((g.set b.toNat h).set k.toNat j).map (eI .i64)))],1⟩) (w64 (b + 1)) av fe (wkE [] [] [] J ⟨⟨_,J,K5 qe J qr (ltd J)⟩,qo J,qo J,qo J,trivial⟩ ⟨Qp J J,trivial⟩) ?_;intro ab fw t;unfold q8n at t;refine qf<|qf<|Qk [q6,q6,Q2 0,q6,q6,q6,Q2 0,q6,q6,q6,q6,q6,q6,q6] qi<|U J<|U J<|O (.d (.bool (decide (ab≤(w64 (s - 1)))))) J<|q7 t fun ff m t=>?_;refine Q9 11 (fun A st=>∃ (aw ax ay az ba bb bc bd be bf : V),st = A [(43,ql ff),(42,bf),(41,be),(40,bd),(39,bc),(38,bb),(37,ba),(36,az),(35,ay),(34,ax),(33,aw)]) ?_ ?_
  ·refine Qa J J m (fun m=>?_) (fun m=>?_)
   ·refine U J<|U J<|q7 m fun bg bh m=>Q5 bh J J<|Qi (q9 bg) bh J<|U J<|U J<|q7 m fun bi bj m=>Q5 bj J J<|Qi (q9 bi) bj J<|q7 m fun bk fg m=>qv (Zu bg bi bk fg) J<|O (ql bk) J<|q8 ?_;cases m;exact ⟨_,_,_,_,_,_,_,_,_,_,J⟩
   refine qb J<|qb J<|qb J<|qb J<|qb J<|qb J<|qb J<|qb J<|qb J<|O (ql false) J<|q8 ?_;cases m;exact ⟨_,_,_,_,_,_,_,_,_,_,J⟩
  rintro _ ⟨aw,ax,ay,az,ba,bb,bc,bd,be,bf,rfl⟩;refine q8 ?_;refine qm J t (fun _ t=>?_) (fun _ t=>?_)
  ·refine qn<|Qc<|Q6<|U J<|O (.d (qd (w64 (ab + 1)))) J<|qa J<|Q4<|Qs<|Qo<|⟨_,qt t,wkA [] [] []⟩
  refine Qf ?_;refine ⟨_,qt t,fun hm=>?_⟩;subst hm;exact ⟨_,J,wkA [] [] []⟩
 intro l hb;subst hb;refine qf<|q7 a fun bl fh a=>?_;refine Qn (fun u=>u = bl) (fun (u : Int)=>⟨[(0,.hs 0 1 0 ((g.set b.toNat h).set k.toNat j).length),(1,q9 b),(10,q9 l),(11,q9 u)],[(0,.dat 1 (((g.set b.toNat h).set k.toNat j).map (eI .i64)))],1⟩) qe ?_ ?_
 ·refine Ql (q8o l g b h k j) (fun (ac : Int)=>⟨[(0,.hs 0 1 0 ((g.set b.toNat h).set k.toNat j).length),(1,q9 b),(10,q9 l),(11,q9 ac)],[(0,.dat 1 (((g.set b.toNat h).set k.toNat j).map (eI .i64)))],1⟩) (w64 (s - 1)) bl fh (wkA [] [] []) ?_;intro ac fx v;unfold q8o at v;refine qf<|qf<|Qk [q6,q6,q6,Q2 0,q6,q6,q6,Q2 0,q6,q6,q6,q6,q6,q6,q6] qi<|U J<|U J<|O (.d (.bool (decide (l≤ac)))) J<|q7 v fun fi n v=>?_;refine Q9 12 (fun A st=>∃ (bm bn bo bp bq br bs bt bu bv bw : V),st = A [(60,ql fi),(59,bw),(58,bv),(57,bu),(56,bt),(55,bs),(54,br),(53,bq),(52,bp),(51,bo),(50,bn),(49,bm)]) ?_ ?_
  ·refine Qa J J n (fun n=>?_) (fun n=>?_)
   ·refine U J<|U J<|q7 n fun bz ca n=>Q5 ca J J<|Qi (q9 bz) ca J<|U J<|U J<|q7 n fun cb cc n=>Q5 cc J J<|Qi (q9 cb) cc J<|q7 n fun ah fj n=>qv (Zu bz cb ah fj) J<|O (ql (!ah)) J<|O (ql (!ah)) J<|q8 ?_;cases n;exact ⟨_,_,_,_,_,_,_,_,_,_,_,J⟩
   refine qb J<|qb J<|qb J<|qb J<|qb J<|qb J<|qb J<|qb J<|qb J<|qb J<|O (ql false) J<|q8 ?_;cases n;exact ⟨_,_,_,_,_,_,_,_,_,_,_,J⟩
  rintro _ ⟨bm,bn,bo,bp,bq,br,bs,bt,bu,bv,bw,rfl⟩;refine q8 ?_;refine qm J v (fun _ v=>?_) (fun _ v=>?_)
  ·refine qn<|Qc<|Q6<|U J<|O (.d (qd (w64 (ac - 1)))) J<|qa J<|Q4<|Qs<|Qo<|⟨_,qt v,wkA [] [] []⟩
  refine Qf ?_;refine ⟨_,qt v,fun hm=>?_⟩;subst hm;exact ⟨_,J,wkA [] [] []⟩
 intro u hb;subst hb;refine qf<|qc<|U J<|U J<|O (.d (.bool (decide (l > u)))) J<|q8 ?_;refine qm J a (fun _ a=>?_) (fun _ a=>?_)
 ·refine qf<|Qk [Qv 0,q6,Qv 0,q6,Q2 0,q6,q6,q6,Q2 0,q6,q6,q6,q6,q6,q6,q6] qi<|U J<|U J<|U J<|U J<|U J<|U J<|q7 a fun ai cd a=>Q5 cd J J<|Qi (q9 ai) cd J<|U J<|U J<|q7 a fun aj ce a=>Q5 ce J J<|Qi (q9 aj) ce J<|q7 a fun fy cf a=>Q5 cf J J<|K2 (ds:=[qd ai]) ai cf J J J J J J J J (leb J) J<|q7 a fun fz cg a=>Q5 cg qe J<|K2 (ds:=[qd aj]) aj cg J J J J J J J J (leb J) J<|qx<|U J<|qa J<|qa J<|qw ?_;obtain rfl:=Q0 a;exact ⟨.inr J,_,J,wkA [] [] []⟩
 refine qn<|qf<|Qk [Qv 0,q6,Qv 0,q6,Q2 0,q6,q6,q6,Q2 0,q6,q6,q6,q6,q6,q6,q6] qi<|U J<|U J<|U J<|U J<|U J<|U J<|q7 a fun ad ch a=>Q5 ch J J<|Qi (q9 ad) ch J<|U J<|U J<|q7 a fun ae ci a=>Q5 ci J J<|Qi (q9 ae) ci J<|q7 a fun ga cj a=>Q5 cj J J<|K2 (ds:=[qd ad]) ad cj J J J J J J J J (leb J) J<|q7 a fun gb ck a=>Q5 ck qe J<|K2 (ds:=[qd ae]) ae ck J J J J J J J J (leb J) J<|qx<|U J<|O (.d (qd (w64 (l + 1)))) J<|qa J<|qx<|U J<|O (.d (qd (w64 (u - 1)))) J<|qa J<|q8<|qf<|q7 a fun cl fk a=>?_;refine Qn (fun z=>z = cl) (fun (z : Int × List Int)=>⟨[(0,.hs 0 1 0 z.2.length),(1,q9 b),(11,q9 z.1)],[(0,.dat 1 (z.2.map (eI .i64)))],1⟩) qe ?_ ?_
 ·refine Ql (q8p b) (fun (c : Int × Int × List Int)=>⟨[(0,.hs 0 1 0 c.2.2.length),(1,q9 b),(10,q9 c.1),(11,q9 c.2.1)],[(0,.dat 1 (c.2.2.map (eI .i64)))],1⟩) (w64 (l + 1),w64 (u - 1),(((g.set b.toNat h).set k.toNat j).set l.toNat ad).set u.toNat ae) cl fk (wkE [] [] [] J ⟨⟨_,J,K5 qe J qr (ltd J)⟩,qo J,qo J,qo J,trivial⟩ ⟨Qp J J,trivial⟩) ?_;intro c gc f;unfold q8p at f;refine Qc<|qf<|q7 f fun cm fm f=>?_;refine Qn (fun q=>q = cm) (fun (q : Int)=>⟨[(0,.hs 0 1 0 c.2.2.length),(1,q9 b),(10,q9 q),(11,q9 c.2.1)],[(0,.dat 1 (c.2.2.map (eI .i64)))],1⟩) qe ?_ ?_
  ·refine Ql (q8q c b) (fun (af : Int)=>⟨[(0,.hs 0 1 0 c.2.2.length),(1,q9 b),(10,q9 af),(11,q9 c.2.1)],[(0,.dat 1 (c.2.2.map (eI .i64)))],1⟩) c.1 cm fm (wkA [] [] []) ?_;intro af gd x;unfold q8q at x;refine qf<|qf<|Qk [q6,q6,Q2 0,q6,q6,q6,Q2 0,q6,q6,q6,q6,q6,q6,q6] qi<|U J<|U J<|O (.d (.bool (decide (af≤c.2.1)))) J<|q7 x fun fn o x=>?_;refine Q9 11 (fun A st=>∃ (cn co cp cq cr cs ct cu cv cw : V),st = A [(112,ql fn),(111,cw),(110,cv),(109,cu),(108,ct),(107,cs),(106,cr),(105,cq),(104,cp),(103,co),(102,cn)]) ?_ ?_
   ·refine Qa J J o (fun o=>?_) (fun o=>?_)
    ·refine U J<|U J<|q7 o fun cx cy o=>Q5 cy J J<|Qi (q9 cx) cy J<|U J<|U J<|q7 o fun cz da o=>Q5 da J J<|Qi (q9 cz) da J<|q7 o fun dc fo o=>qv (Zu cx cz dc fo) J<|O (ql dc) J<|q8 ?_;cases o;exact ⟨_,_,_,_,_,_,_,_,_,_,J⟩
    refine qb J<|qb J<|qb J<|qb J<|qb J<|qb J<|qb J<|qb J<|qb J<|O (ql false) J<|q8 ?_;cases o;exact ⟨_,_,_,_,_,_,_,_,_,_,J⟩
   rintro _ ⟨cn,co,cp,cq,cr,cs,ct,cu,cv,cw,rfl⟩;refine q8 ?_;refine qm J x (fun _ x=>?_) (fun _ x=>?_)
   ·refine qn<|Qc<|Q6<|U J<|O (.d (qd (w64 (af + 1)))) J<|qa J<|Q4<|Qs<|Qo<|⟨_,qt x,wkA [] [] []⟩
   refine Qf ?_;refine ⟨_,qt x,fun hm=>?_⟩;subst hm;exact ⟨_,J,wkA [] [] []⟩
  intro q hb;subst hb;refine qf<|q7 f fun dd fq f=>?_;refine Qn (fun aa=>aa = dd) (fun (aa : Int)=>⟨[(0,.hs 0 1 0 c.2.2.length),(1,q9 b),(10,q9 q),(11,q9 aa)],[(0,.dat 1 (c.2.2.map (eI .i64)))],1⟩) qe ?_ ?_
  ·refine Ql (q8r q c b) (fun (ag : Int)=>⟨[(0,.hs 0 1 0 c.2.2.length),(1,q9 b),(10,q9 q),(11,q9 ag)],[(0,.dat 1 (c.2.2.map (eI .i64)))],1⟩) c.2.1 dd fq (wkA [] [] []) ?_;intro ag ge y;unfold q8r at y;refine qf<|qf<|Qk [q6,q6,q6,Q2 0,q6,q6,q6,Q2 0,q6,q6,q6,q6,q6,q6,q6] qi<|U J<|U J<|O (.d (.bool (decide (q≤ag)))) J<|q7 y fun fs p y=>?_;refine Q9 12 (fun A st=>∃ (de df dg dh dj dk dl dm dn dp dq : V),st = A [(129,ql fs),(128,dq),(127,dp),(126,dn),(125,dm),(124,dl),(123,dk),(122,dj),(121,dh),(120,dg),(119,df),(118,de)]) ?_ ?_
   ·refine Qa J J p (fun p=>?_) (fun p=>?_)
    ·refine U J<|U J<|q7 p fun dr dt p=>Q5 dt J J<|Qi (q9 dr) dt J<|U J<|U J<|q7 p fun du dv p=>Q5 dv J J<|Qi (q9 du) dv J<|q7 p fun ak ft p=>qv (Zu dr du ak ft) J<|O (ql (!ak)) J<|O (ql (!ak)) J<|q8 ?_;cases p;exact ⟨_,_,_,_,_,_,_,_,_,_,_,J⟩
    refine qb J<|qb J<|qb J<|qb J<|qb J<|qb J<|qb J<|qb J<|qb J<|qb J<|O (ql false) J<|q8 ?_;cases p;exact ⟨_,_,_,_,_,_,_,_,_,_,_,J⟩
   rintro _ ⟨de,df,dg,dh,dj,dk,dl,dm,dn,dp,dq,rfl⟩;refine q8 ?_;refine qm J y (fun _ y=>?_) (fun _ y=>?_)
   ·refine qn<|Qc<|Q6<|U J<|O (.d (qd (w64 (ag - 1)))) J<|qa J<|Q4<|Qs<|Qo<|⟨_,qt y,wkA [] [] []⟩
   refine Qf ?_;refine ⟨_,qt y,fun hm=>?_⟩;subst hm;exact ⟨_,J,wkA [] [] []⟩
  intro aa hb;subst hb;refine qf<|qc<|U J<|U J<|O (.d (.bool (decide (q > aa)))) J<|q8 ?_;refine qm J f (fun _ f=>?_) (fun _ f=>?_)
  ·refine Qf ?_;refine ⟨_,qt f,fun hm=>?_⟩;subst hm;exact ⟨_,J,wkA [] [] []⟩
  refine qn<|qf<|Qk [Qv 0,q6,Qv 0,q6,Q2 0,q6,q6,q6,Q2 0,q6,q6,q6,q6,q6,q6,q6] qi<|U J<|U J<|U J<|U J<|U J<|U J<|q7 f fun al dw f=>Q5 dw J J<|Qi (q9 al) dw J<|U J<|U J<|q7 f fun am dx f=>Q5 dx J J<|Qi (q9 am) dx J<|q7 f fun gf dy f=>Q5 dy J J<|K2 (ds:=[qd al]) al dy J J J J J J J J (leb J) J<|q7 f fun gg dz f=>Q5 dz qe J<|K2 (ds:=[qd am]) am dz J J J J J J J J (leb J) J<|qx<|U J<|O (.d (qd (w64 (q + 1)))) J<|qa J<|q8<|Q6<|U J<|O (.d (qd (w64 (aa - 1)))) J<|qa J<|Q4<|Qs<|Qo<|⟨_,qt f,wkE [] [] [] J ⟨⟨_,J,K5 qe J qr (ltd J)⟩,qo J,qo J,qo J,trivial⟩ ⟨Qp J J,trivial⟩⟩
 intro z hb;subst hb;refine qf<|Qk [Qv 0,q6,Qv 0,q6,Q2 0,q6,q6,q6,Q2 0,q6,q6,q6,q6,q6,q6,q6] qi<|U J<|U J<|U J<|U J<|U J<|U J<|q7 a fun an fa a=>Q5 fa J J<|Qi (q9 an) fa J<|U J<|U J<|q7 a fun ao fb a=>Q5 fb J J<|Qi (q9 ao) fb J<|q7 a fun gh fc a=>Q5 fc J J<|K2 (ds:=[qd an]) an fc J J J J J J J J (leb J) J<|q7 a fun gi fd a=>Q5 fd qe J<|K2 (ds:=[qd ao]) ao fd J J J J J J J J (leb J) J<|qx<|U J<|qa J<|qa J<|qw ?_;obtain rfl:=Q0 a;exact ⟨.inr J,_,J,wkA [] [] []⟩
theorem qpg (b : Int) (r : Int) (a : q2t b = some r) : Pure Tryz.prog tab 177 [qd b] (.int .u64 r):=by
 unfold q2t at a;refine Qm Tryz.func177 J qi qi J<|qc<|qa J<|qx<|U J<|O _ J<|q7 a fun c d a=>qv (qha (IntKind.wrap .u64 b) c d) J<|q7 a fun g f a=>qw0 f J J J<|qa J<|qw ?_;cases a;exact Q8 _ J
theorem qpj (a : Int) (r : Int) (b : q2u  a = some r) : K8 Tryz.prog tab 178 [.ref 0 1 0 0] [(0,.dat 1 [[.int .u64 a]])] 1 (.d (.int .u64 r)) [(0,.dat 1 [[.int .u64 r]])] 1:=by
 unfold q2u at b;refine Ko Tryz.func178 J qi qi J<|qc<|qa J<|q8<|qf<|Qk [Qv 0,q6,q6,q6,Q2 0,q6,q6,Q2 0,q6,q6] qi<|U J<|O _ J<|O _ J<|U J<|O _ J<|O _ J<|O _ J<|O _ J<|O _ J<|Qd 0 _ J<|q8<|qf<|Qk [Qv 0,q6,q6,q6,Q2 0,q6,q6,Q2 0,q6,q6] qi<|U J<|O _ J<|O _ J<|U J<|O _ J<|O _ J<|O _ J<|O _ J<|O _ J<|Qd 0 _ J<|q8<|qf<|Qk [Qv 0,q6,q6,q6,Q2 0,q6,q6,Q2 0,q6,q6] qi<|U J<|O _ J<|O _ J<|U J<|O _ J<|O _ J<|O _ J<|O _ J ?_;refine O _ J<|Qd 0 _ J<|qx<|U J<|O _ J<|O _ J<|qa J<|qw ?_;obtain rfl:=Q0 b;exact ⟨.inr J,_,J,wkA [] [] []⟩
theorem q10x (m : List Int) (f : Int) (g : Int) (r : List Int) (b : q84  m f g = some r) : K8 Tryz.prog tab 159 [.hs 0 1 0 m.length,q9 f,q9 g] [(0,.dat 1 (m.map (eI .i64)))] 1 (.d (.tup [])) [(0,.dat 1 (r.map (eI .i64)))] 1:=by
 unfold q84 at b;refine Ko Tryz.func159 J qi qi J<|qc<|U J<|U J<|O _ J<|qa J<|qx<|U J<|O _ J<|q8 ?_;refine qm J b (fun _ b=>?_) (fun _ b=>?_)
 ·refine qc<|U J<|O _ J<|Qt J J<|Qd 1 _ J<|qx<|U J<|q7 b fun j u b=>qv (qpg (w64 (g - f)) j u) J<|qa J<|qx<|U J<|U J<|O _ J<|O _ J<|O _ J<|O _ J<|qa J<|q8<|q7 b fun v x b=>Qc<|Ql (q85 f g j) (fun c=>⟨[(0,.hs 0 1 0 c.2.1.length),(1,q9 f),(6,.d (qd (w64 (g - f)))),(7,.ref 1 1 0 0),(8,.d (.int .u64 j)),(9,q9 c.1)],[(0,.dat 1 (c.2.1.map (eI .i64))),(1,.dat 1 [[.int .u64 c.2.2]])],2⟩) _ v x (wkA [(1,1)] [] []) ?_;intro c aa a;unfold q85 at a;refine qf<|qc<|U J<|U J<|U J<|O _ J<|O _ J<|O _ J<|O _ J<|O _ J<|q8 ?_;refine qm J a (fun _ a=>?_) (fun _ a=>?_)
  ·refine qn<|qf<|Qc<|qc<|q7 a fun k y a=>Kc [(0,1)] [(0,1),(1,0)] _ (.d (.int .u64 k)) 1 [(1,.dat 1 [[.int .u64 k]]),(0,.dat 1 (c.2.1.map (eI .i64)))] 2 (qpj c.2.2 k y)<|U J<|O _ J<|O _ J<|O _ J<|qa J<|q8<|qf<|qc<|U J<|U J<|O _ J<|q8<|q7 a fun z h a=>?_;refine Y9 (fun l=>l = z) (fun l=>⟨[(0,.hs 0 1 0 c.2.1.length),(1,q9 f),(6,.d (qd (w64 (g - f)))),(7,.ref 1 1 0 0),(8,.d (.int .u64 j)),(9,q9 c.1),(10,q9 l)],[(0,.dat 1 (c.2.1.map (eI .i64))),(1,.dat 1 [[.int .u64 k]])],2⟩) qe ?_ ?_
   ·refine qm J h (fun _ h=>?_) (fun _ h=>?_)
    ·refine Q6<|U J<|U J<|O _ J<|qa J<|Q4 ?_;obtain rfl:=Q0 h;exact ⟨_,J,wkA [(1,1)] [] []⟩
    refine qn<|Qo ?_;obtain rfl:=Q0 h;exact ⟨_,J,wkA [(1,1)] [] []⟩
   intro l hb;subst hb;refine Qk [Qv 0,q6,Qv 0,q6,Q2 0,q6,q6,q6,Q2 0,q6,q6,q6,q6,q6,q6,q6,q6,q6,q6,q6] qi<|U J<|U J<|U J<|U J<|U J<|O _ J<|U J<|U J<|U J<|O _ J<|q7 a fun n o a=>Q5 o J J<|Qi _ o J<|U J<|U J<|q7 a fun p q a=>Q5 q J J<|Qi _ q J<|q7 a fun ab s a=>Q5 s J J<|K2 (ds:=[qd n]) n s J J J J J J J J (leb J) J<|q7 a fun ac t a=>Q5 t qe J<|K2 (ds:=[qd p]) p t J J J J J J J J (leb J) J<|Q4<|Qs<|Q6<|U J<|O _ J<|qa J<|Q4<|⟨_,qt a,wkE [(1,1)] [] [] J ⟨⟨_,J,K5 qe J qr (ltd J)⟩,qo J,qo J,⟨_,J,.ref J qr (ltd J)⟩,qo J,qo J,trivial⟩ ⟨Qp J J,Qp J J,trivial⟩⟩
  refine Qf ?_;refine ⟨_,qt a,fun hm=>?_⟩;subst hm;obtain rfl:=Q0 b;exact ⟨.inl J,_,J,wkA [] [] []⟩
 refine qn<|Qo ?_;obtain rfl:=Q0 b;exact ⟨.inl J,_,J,wkA [] [] []⟩
theorem q11c (rec : List Int→Int→Int→Int→Option (List Int)) (hrec : ∀ (n : List Int) (p : Int) (q : Int) (s : Int) (r : List Int),rec n p q s = some r→K8 Tryz.prog tab 146 [.hs 0 1 0 n.length,q9 p,q9 q,q9 s] [(0,.dat 1 (n.map (eI .i64)))] 1 (.d (.tup [])) [(0,.dat 1 (r.map (eI .i64)))] 1) (n : List Int) (p : Int) (q : Int) (s : Int) (r : List Int) (o : q5v rec  n p q s = some r) : K8 Tryz.prog tab 146 [.hs 0 1 0 n.length,q9 p,q9 q,q9 s] [(0,.dat 1 (n.map (eI .i64)))] 1 (.d (.tup [])) [(0,.dat 1 (r.map (eI .i64)))] 1:=by
 unfold q5v at o;refine Ko Tryz.func146 J qi qi J<|qc<|qa J<|qx<|qa J<|q8<|q7 o fun ba bb o=>Qc<|Ql (q5u rec) (fun b=>⟨[(0,.hs 0 1 0 b.2.2.2.2.2.length),(1,q9 b.1),(2,q9 b.2.1),(3,q9 b.2.2.1),(8,ql b.2.2.2.1),(9,ql b.2.2.2.2.1)],[(0,.dat 1 (b.2.2.2.2.2.map (eI .i64)))],1⟩) _ ba bb (wkA [] [] []) ?_;intro b co a;unfold q5u at a;refine Qc<|qc<|U J<|U J<|O _ J<|qa J<|q8<|qf<|qc<|U J<|O _ J<|q8 ?_;refine qm J a (fun _ a=>?_) (fun _ a=>?_)
 ·refine qc<|U J<|U J<|U J<|q7 a fun ab bc a=>q7 a fun cp bd a=>?_;have cq:=Ku bd;refine Kc [(0,0)] [(0,0)] _ (.d (.tup [])) 1 [(0,.dat 1 (ab.map (eI .i64)))] 1 (q113 b.2.2.2.2.2 b.1 b.2.1 ab bc)<|qw ?_;refine ⟨_,qt a,fun hm=>?_⟩;subst hm;obtain rfl:=Q0 o;exact ⟨.inr J,_,J,wkA [] [] []⟩
 refine qn<|qf<|qc<|U J<|O _ J<|q8 ?_;refine qm J a (fun _ a=>?_) (fun _ a=>?_)
 ·refine qc<|U J<|U J<|U J<|q7 a fun ac be a=>q7 a fun cr bf a=>?_;have cs:=Ku bf;refine Kc [(0,0)] [(0,0)] _ (.d (.tup [])) 1 [(0,.dat 1 (ac.map (eI .i64)))] 1 (q111 b.2.2.2.2.2 b.1 b.2.1 ac be)<|qw ?_;refine ⟨_,qt a,fun hm=>?_⟩;subst hm;obtain rfl:=Q0 o;exact ⟨.inr J,_,J,wkA [] [] []⟩
 refine qn<|qf<|qc<|U J<|O _ J<|q8<|q7 a fun bg k a=>?_;refine Y9 (fun c=>c = bg) (fun c=>⟨[(0,.hs 0 1 0 c.2.length),(1,q9 b.1),(2,q9 b.2.1),(3,q9 c.1),(8,ql b.2.2.2.1),(9,ql b.2.2.2.2.1),(10,.d (qd (w64 (b.2.1 - b.1))))],[(0,.dat 1 (c.2.map (eI .i64)))],1⟩) qe ?_ ?_
 ·refine qm J k (fun _ k=>?_) (fun _ k=>?_)
  ·refine qc<|U J<|U J<|U J<|q7 k fun ad bh k=>q7 k fun ct bi k=>?_;have bj:=Ku bi;refine Kc [(0,0)] [(0,0)] _ (.d (.tup [])) 1 [(0,.dat 1 (ad.map (eI .i64)))] 1 (q10x b.2.2.2.2.2 b.1 b.2.1 ad bh)<|q8<|Q6<|U J<|O _ J<|qa J<|Q4 ?_;obtain rfl:=Q0 k;exact ⟨_,J,wkE [] [] [] J ⟨⟨_,J,K5 (by simp [bj]) J qr (ltd J)⟩,qo J,qo J,qo J,qo J,qo J,qo J,trivial⟩ ⟨Qp J J,trivial⟩⟩
  refine qn<|Qo ?_;obtain rfl:=Q0 k;exact ⟨_,J,wkA [] [] []⟩
 intro c hb;subst hb;refine qc<|U J<|U J<|U J<|q7 a fun bk bl a=>Zn [.hs 0 1 0 c.2.length,q9 b.1,q9 b.2.1] (q10z c.2 b.1 b.2.1 bk bl) J J (Ki (Yk J J) (Ki J (Ki J J))) (.inr J)<|U J<|O _ J<|O _ J<|qa J<|qa J<|q8<|qf<|qc<|U J<|O _ J<|q8<|q7 a fun bm l a=>?_;refine Y9 (fun g=>g = bm) (fun g=>⟨[(0,.hs 0 1 0 g.2.2.length),(1,q9 b.1),(2,q9 b.2.1),(3,q9 c.1),(8,ql b.2.2.2.1),(9,ql b.2.2.2.2.1),(10,.d (qd (w64 (b.2.1 - b.1)))),(11,q9 g.1),(12,q9 g.2.1)],[(0,.dat 1 (g.2.2.map (eI .i64)))],1⟩) qe ?_ ?_
 ·refine qm J l (fun _ l=>?_) (fun _ l=>?_)
  ·refine qc<|U J<|U J<|U J<|q7 l fun ae bn l=>q7 l fun cu bo l=>?_;have bp:=Ku bo;refine Kc [(0,0)] [(0,0)] _ (.d (.tup [])) 1 [(0,.dat 1 (ae.map (eI .i64)))] 1 (q11f c.2 b.1 b.2.1 ae bn)<|qx<|U J<|O _ J<|U J<|U J<|O _ J<|O _ J<|qa J<|q8<|Q6<|qa J<|Q4 ?_;obtain rfl:=Q0 l;exact ⟨_,J,wkE [] [] [] J ⟨⟨_,J,K5 (by simp [bp]) J qr (ltd J)⟩,qo J,qo J,qo J,qo J,qo J,qo J,qo J,qo J,trivial⟩ ⟨Qp J J,trivial⟩⟩
  refine qn<|Qo ?_;obtain rfl:=Q0 l;exact ⟨_,J,wkA [] [] []⟩
 intro g hb;subst hb;refine qf<|qc<|U J<|q7 a fun bq t a=>?_;refine Q9 3 (fun A st=>∃ af ag,st = A [(64,ql bq),(63,ag),(62,af)]) ?_ ?_
 ·refine Qa J J t (fun t=>?_) (fun t=>?_)
  ·refine U J<|O _ J<|q8 ?_;cases t;exact ⟨_,_,J⟩
  refine qb J<|O _ J<|q8 ?_;cases t;exact ⟨_,_,J⟩
 rintro _ ⟨af,ag,rfl⟩;refine q7 a fun br u a=>?_;refine Q9 4 (fun A st=>∃ ah ai aj,st = A [(68,ql br),(67,aj),(66,ai),(65,ah)]) ?_ ?_
 ·refine Qa J J u (fun u=>?_) (fun u=>?_)
  ·refine U J<|O _ J<|O _ J<|q8 ?_;cases u;exact ⟨_,_,_,J⟩
  refine qb J<|qb J<|O _ J<|q8 ?_;cases u;exact ⟨_,_,_,J⟩
 rintro _ ⟨ah,ai,aj,rfl⟩;refine q8<|q7 a fun bs f a=>?_;refine Y9 (fun m=>.inl m = bs) (fun m=>⟨[(0,.hs 0 1 0 m.length),(1,q9 b.1),(2,q9 b.2.1),(3,q9 c.1),(8,ql b.2.2.2.1),(9,ql b.2.2.2.2.1),(10,.d (qd (w64 (b.2.1 - b.1)))),(11,q9 g.1)],[(0,.dat 1 (m.map (eI .i64)))],1⟩) qe ?_ ?_
 ·refine qm J f (fun _ f=>?_) (fun _ f=>?_)
  ·refine qc<|U J<|U J<|U J<|q7 f fun x bt f=>q7 f fun cv bu f=>?_;have bv:=Ku bu;refine Kc [(0,0)] [(0,0)] _ (ql x.1) 1 [(0,.dat 1 (x.2.map (eI .i64)))] 1 (q115 g.2.2 b.1 b.2.1 x bt)<|q8 ?_;refine qm J f (fun _ f=>?_) (fun _ f=>?_)
   ·refine q5n ?_;obtain rfl:=Q0 f;refine ⟨_,qt a,fun hm=>?_⟩;subst hm;obtain rfl:=Q0 o;exact ⟨.inr J,_,J,wkA [] [] []⟩
   refine qn<|Qo ?_;obtain rfl:=Q0 f;exact ⟨_,J,wkE [] [] [] J ⟨⟨_,J,K5 (by simp [bv]) J qr (ltd J)⟩,qo J,qo J,qo J,qo J,qo J,qo J,qo J,trivial⟩ ⟨Qp J J,trivial⟩⟩
  refine qn<|Qo ?_;obtain rfl:=Q0 f;exact ⟨_,J,wkA [] [] []⟩
 intro m hb;subst hb;refine qf<|qf<|Qk [q6,q6,q6,Q2 0,q6,q6,q6,Q2 0,q6,q6,q6,q6,q6,q6,q6] qi<|U J<|O _ J<|q7 a fun bw h a=>?_;refine Q9 13 (fun A st=>∃ ak al am an ao ap aq ar au av aw ax,st = A [(87,ql bw),(86,ax),(85,aw),(84,av),(83,au),(82,ar),(81,aq),(80,ap),(79,ao),(78,an),(77,am),(76,al),(75,ak)]) ?_ ?_
 ·refine Qa J J h (fun h=>?_) (fun h=>?_)
  ·refine U J<|U J<|O _ J<|q7 h fun bz ay h=>Q5 ay J J<|Qi _ ay J<|U J<|U J<|q7 h fun ca az h=>Q5 az J J<|Qi _ az J<|q7 h fun cb cc h=>qv (Zu bz ca cb cc) J<|O _ J<|O _ J<|q8 ?_;cases h;exact ⟨_,_,_,_,_,_,_,_,_,_,_,_,J⟩
  refine qb J<|qb J<|qb J<|qb J<|qb J<|qb J<|qb J<|qb J<|qb J<|qb J<|qb J<|O _ J<|q8 ?_;cases h;exact ⟨_,_,_,_,_,_,_,_,_,_,_,_,J⟩
 rintro _ ⟨ak,al,am,an,ao,ap,aq,ar,au,av,aw,ax,rfl⟩;refine q8 ?_;refine qm J a (fun _ a=>?_) (fun _ a=>?_)
 ·refine qc<|U J<|U J<|U J<|U J<|q7 a fun y cd a=>q7 a fun cw ce a=>?_;have cf:=Ku ce;refine Kc [(0,0)] [(0,0)] _ (q9 y.1) 1 [(0,.dat 1 (y.2.map (eI .i64)))] 1 (q118 m b.1 b.2.1 g.1 y cd)<|qa J<|qx<|U J<|qa J<|q8<|Qf<|q4s<|Qo<|⟨_,qt a,wkE [] [] [] J ⟨⟨_,J,K5 (by simp [cf]) J qr (ltd J)⟩,qo J,qo J,qo J,qo J,qo J,trivial⟩ ⟨Qp J J,trivial⟩⟩
 refine qn<|qc<|U J<|U J<|U J<|U J<|q7 a fun j cg a=>q7 a fun cx ch a=>?_;have v:=Ku ch;refine Kc [(0,0)] [(0,0)] _ (.d (.tup [qd j.1,.bool j.2.1])) 1 [(0,.dat 1 (j.2.2.map (eI .i64)))] 1 (q119 m b.1 b.2.1 g.1 j cg)<|U J<|O _ J<|O _ J<|qa J<|qa J<|qx<|U J<|qa J<|qx<|U J<|U J<|O _ J<|U J<|U J<|O _ J<|qa J<|qa J<|qx<|U J<|O _ J<|qa J<|qx<|U J<|U J<|O _ J<|q8 ?_;refine qm J a (fun _ a=>?_) (fun _ a=>?_)
 ·refine qc<|U J<|U J<|O _ J<|qa J<|qx<|U J<|U J<|U J<|U J<|q7 a fun z ci a=>q7 a fun cy cj a=>?_;have ck:=Ku cj;refine q1j [(0,0)] [(0,0)] [.hs 0 1 0 m.length,q9 b.1,q9 j.1,q9 c.1] (.d (.tup [])) [(0,.dat 1 (z.map (eI .i64)))] [(0,.dat 1 (z.map (eI .i64)))] 1 (hrec j.2.2 b.1 j.1 c.1 z ci) J J J (Yz [(0,0)] [] [] J ⟨⟨_,J,K5 (by simp [v]) J qr (ltd J)⟩,qo J,qo J,qo J,trivial⟩ ⟨Qp J J,trivial⟩) (Yz [(0,0)] [] [] J ⟨qo J,trivial⟩ ⟨Qp J J,trivial⟩) J ⟨.inl J,trivial⟩<|q8<|Q6<|U J<|O _ J<|qa J<|Q4<|Qs<|Qo<|⟨_,qt a,wkE [] [] [] J ⟨⟨_,J,K5 (by simp [v,ck]) J qr (ltd J)⟩,qo J,qo J,qo J,qo J,qo J,trivial⟩ ⟨Qp J J,trivial⟩⟩
 refine qc<|U J<|U J<|O _ J<|qa J<|qx<|U J<|U J<|O _ J<|U J<|U J<|q7 a fun aa cl a=>q7 a fun cz cm a=>?_;have cn:=Ku cm;refine q1j [(0,0)] [(0,0)] [.hs 0 1 0 m.length,.d (qd (w64 (j.1 + 1))),q9 b.2.1,q9 c.1] (.d (.tup [])) [(0,.dat 1 (aa.map (eI .i64)))] [(0,.dat 1 (aa.map (eI .i64)))] 1 (hrec j.2.2 (w64 (j.1 + 1)) b.2.1 c.1 aa cl) J J J (Yz [(0,0)] [] [] J ⟨⟨_,J,K5 (by simp [v]) J qr (ltd J)⟩,qo J,qo J,qo J,trivial⟩ ⟨Qp J J,trivial⟩) (Yz [(0,0)] [] [] J ⟨qo J,trivial⟩ ⟨Qp J J,trivial⟩) J ⟨.inl J,trivial⟩<|q8<|Q6<|U J<|qa J<|Q4<|Qs<|Qo<|⟨_,qt a,wkE [] [] [] J ⟨⟨_,J,K5 (by simp [v,cn]) J qr (ltd J)⟩,qo J,qo J,qo J,qo J,qo J,trivial⟩ ⟨Qp J J,trivial⟩⟩
theorem q11d (n : Nat) : ∀ (a : List Int) (b : Int) (c : Int) (f : Int) (r : List Int),q8v n  a b c f = some r→K8 Tryz.prog tab 146 [.hs 0 1 0 a.length,q9 b,q9 c,q9 f] [(0,.dat 1 (a.map (eI .i64)))] 1 (.d (.tup [])) [(0,.dat 1 (r.map (eI .i64)))] 1:=by
 induction n with
 | zero=>intro a b c f r g;cases g
 | succ n ih=>intro a b c f r g;exact q11c (q8v n )   ih a b c f r g
theorem qpd (b : List Int) (r : List Int) (a : q1m  b = some r) : K8 Tryz.prog tab 132 [.hs 0 1 0 b.length] [(0,.dat 1 (b.map (eI .i64)))] 1 (.d (.tup [])) [(0,.dat 1 (r.map (eI .i64)))] 1:=by
 unfold q1m at a;refine Ko Tryz.func132 J qi qi J<|qc<|U J<|O _ J<|qa J<|q8<|Q6<|U J<|U J<|U J<|O _ J<|q7 a fun f h a=>qv (qha (IntKind.wrap .u64 (b.length : Int)) f h) J<|q7 a fun g c a=>q7 a fun l j a=>?_;have m:=Ku j;obtain ⟨k,c⟩:=qh6 c;refine Kc [(0,0)] [(0,0)] _ (.d (.tup [])) 1 [(0,.dat 1 (g.map (eI .i64)))] 1 (q11d k b 0 (b.length : Int) f g c)<|Q4 ?_;obtain rfl:=Q0 a;exact ⟨.inl J,_,J,wkA [] [] []⟩
theorem qpb (d : List Int) (r : (Nat × Nat) × List Int) (c : q4b  d = some r) : K8 Tryz.prog tab 133 [.hs 0 1 0 d.length] [(0,.dat 1 (d.map (eI .i64)))] 1 (.hs 0 1 r.1.1 r.1.2) [(0,.dat 1 (r.2.map (eI .i64)))] 1:=by
 unfold q4b at c;refine Ko Tryz.func133 J qi qi J<|qc<|qa J<|q8<|qf<|qc<|U J<|O _ J<|O _ J<|q8 ?_;refine qm J c (fun _ c=>?_) (fun _ c=>?_)
 ·refine qc<|U J<|qa J<|qw ?_;obtain rfl:=Q0 c;exact ⟨.inr J,_,J,wkA [] [] []⟩
 refine qn<|qf<|qc<|qa J<|q8<|q7 c fun m z c=>?_;refine Qn (fun k=>.inl k = m) (fun k=>⟨[(0,.hs 0 1 0 d.length)],[(0,.dat 1 (d.map (eI .i64)))],1⟩) qe ?_ ?_
 ·refine Ql (Jp d) (fun n=>⟨[(0,.hs 0 1 0 d.length),(3,q9 n)],[(0,.dat 1 (d.map (eI .i64)))],1⟩) _ m z (wkA [] [] []) ?_;intro n ae a;unfold Jp at a;refine qf<|qc<|U J<|U J<|O _ J<|O _ J<|q8 ?_;refine qm J a (fun _ a=>?_) (fun _ a=>?_)
  ·refine qn<|qf<|Qc<|qf<|Qk [q6,Q2 0,q6,q6,q6,q6,Q2 0,q6,q6,q6] qi<|U J<|U J<|q7 a fun af o a=>Q5 o J J<|Qi _ o J<|U J<|U J<|O _ J<|q7 a fun ag p a=>Q5 p J J<|Qi _ p J<|O _ J<|q8 ?_;refine qm J a (fun _ a=>?_) (fun _ a=>?_)
   ·refine qc<|U J<|U J<|q7 a fun ah aa a=>qa9 aa J J J J J (q9n J) (fun _=>rfl)<|qa J<|q8<|qf<|qc<|qa J<|q8<|q7 a fun q ab a=>?_;refine Qn (fun f=>f = q) (fun f=>⟨[(0,.hs 0 1 0 f.2.length),(3,q9 f.1)],[(0,.dat 1 (f.2.map (eI .i64)))],1⟩) qe ?_ ?_
    ·refine Ql (q2s) (fun g=>⟨[(0,.hs 0 1 0 g.2.2.2.length),(3,q9 g.1),(4,.hs 0 1 g.2.1.1 g.2.1.2),(5,q9 g.2.2.1)],[(0,.dat 1 (g.2.2.2.map (eI .i64)))],1⟩) _ q ab (wkA [] [] []) ?_;intro g ai h;unfold q2s at h;refine qf<|qc<|U J<|U J<|O _ J<|O _ J<|q8 ?_;refine qm J h (fun _ h=>?_) (fun _ h=>?_)
     ·refine qn<|qf<|q7 h fun ac b h=>?_;refine Qn (fun j=>j = ac) (fun j=>⟨[(0,.hs 0 1 0 j.2.2.length),(3,q9 j.1),(4,.hs 0 1 j.2.1.1 j.2.1.2),(5,q9 g.2.2.1)],[(0,.dat 1 (j.2.2.map (eI .i64)))],1⟩) qe ?_ ?_
      ·refine qf<|Qk [q6,Q2 0,q6,q6,q6,q6,Q2 0,q6,q6,q6] qi<|U J<|U J<|q7 b fun aj s b=>qhl s J J J J J J<|Qi _ (qh1 s) J<|U J<|U J<|O _ J<|q7 b fun ak t b=>qhl t J J J J J J<|Qi _ (qh1 t) J<|O _ J<|q8 ?_;refine qm J b (fun _ b=>?_) (fun _ b=>?_)
       ·refine qc<|U J<|U J<|U J<|U J<|q7 b fun u v b=>qhl v J J J J J J<|Qi _ (qh1 v) J<|q7 b fun al x b=>Q5 x J J<|K2 (ds:=[qd u]) u x J J J J J J J J (leb J) J<|q8<|Q6<|U J<|O _ J<|qa J<|Q4 ?_;obtain rfl:=Q0 b;exact ⟨_,J,wkE [] [] [] J ⟨⟨_,J,K5 qe J qr (ltd J)⟩,qo J,⟨_,J,.hs J qr (ltd J)⟩,qo J,trivial⟩ ⟨Qp J J,trivial⟩⟩
       refine qn<|Qo ?_;obtain rfl:=Q0 b;exact ⟨_,J,wkA [] [] []⟩
      intro j hb;subst hb;refine Q6<|U J<|O _ J<|qa J<|Q4<|⟨_,qt h,wkA [] [] []⟩
     refine Qf ?_;refine ⟨_,qt h,fun hm=>?_⟩;subst hm;exact ⟨_,J,wkA [] [] []⟩
    intro f hb;subst hb;refine qc<|U J<|U J<|q7 a fun y l a=>qa9 l J J J J J (q9n J) (fun _=>rfl)<|qvo (w:=y) (xs:=f.2) (enc:=(eI .i64)) 0 (qc8 l) J J J J J J J ?_;have am:=@qju _ f.2 y 0 (qc8 l);refine qx<|U J<|U J<|q7 a fun an ad a=>qa9 ad J J J J J (fun _=>rfl) (q9n J)<|qa J<|qw ?_;refine ⟨_,qt a,fun hm=>?_⟩;subst hm;obtain rfl:=Q0 c;exact ⟨.inr J,_,J,wkA [] [] []⟩
   refine qn<|Qo<|Qs<|Q6<|U J<|O _ J<|qa J<|Q4<|⟨_,qt a,wkA [] [] []⟩
  refine Qf ?_;refine ⟨_,qt a,fun hm=>?_⟩;subst hm;exact ⟨_,J,wkA [] [] []⟩
 intro k hb;subst hb;refine qc<|U J<|qa J<|qw ?_;obtain rfl:=Q0 c;exact ⟨.inr J,_,J,wkA [] [] []⟩
theorem q10r (b : List qk) (f : qk→Option Bool) (p1F : FuncId) (p1C : List DV) (p1Ok : ∀ (h : qk) (r : Bool),f h = some r→Pure Tryz.prog tab p1F ([.agg (Qe h)] ++ p1C) (.bool r)) (r : Int) (c : qew b f = some r) : Pure Tryz.prog tab 148 [.sl 4 (b.map Qe),.fn p1F p1C] (qd r):=by
 unfold qew at c;refine Qm Tryz.func148 J qi qi J<|qc<|qa J<|q8<|qf<|qc<|U J<|K1 J<|U J<|q8<|q7 c fun j l c=>?_;refine Qn (fun g=>.inl g = j) (fun g=>⟨[],[],0⟩) qe ?_ ?_
 ·refine Ql (q5o b f) (fun k=>⟨[(0,.d (.sl 4 (b.map Qe))),(1,.d (.fn p1F p1C)),(7,q9 (b.length : Int)),(8,q9 k)],[],0⟩) _ j l (wkA [] [] []) ?_;intro k q a;unfold q5o at a;refine qc<|O _ J<|q8<|qf ?_;refine qm J a (fun _ a=>?_) (fun _ a=>?_)
  ·refine qn<|qf<|Qc<|qc<|U J<|qa J<|qx<|U J<|U J<|U J<|q7 a fun m n a=>Qq n J<|O _ J<|q7 a fun o p a=>Za _ (p1Ok m o p) J J J (.inl J)<|q8 ?_;refine qm J a (fun _ a=>?_) (fun _ a=>?_)
   ·refine qc<|U J<|qa J<|qw ?_;refine ⟨_,qt a,fun hm=>?_⟩;subst hm;cases c;exact Q8 _ J
   refine qn<|Qo<|Qs<|Q6<|O _ J<|U J<|Q4<|⟨_,qt a,wkA [] [] []⟩
  refine Qf ?_;refine ⟨_,qt a,fun hm=>?_⟩;subst hm;exact ⟨_,J,wkA [] [] []⟩
 intro g hb;subst hb;refine qc<|qa J<|qw ?_;cases c;exact Q8 _ J
theorem q10n (b : List qk) (c : qk→Option Bool) (p1F : FuncId) (p1C : List DV) (p1Ok : ∀ (d : qk) (r : Bool),c d = some r→Pure Tryz.prog tab p1F ([.agg (Qe d)] ++ p1C) (.bool r)) (r : Bool) (a : qb3 b c = some r) : Pure Tryz.prog tab 135 [.sl 4 (b.map Qe),.fn p1F p1C] (.bool r):=by
 unfold qb3 at a;refine Qm Tryz.func135 J qi qi J<|qc<|qa J<|qx<|U J<|U J<|q7 a fun f g a=>qv (q10r b c p1F p1C p1Ok f g) J<|O _ J<|qa J<|qw ?_;cases a;exact Q8 _ J
theorem qej (c : Int) (r : Bool) (b : q46 c = some r) : Pure Tryz.prog tab 149 [qd c] (.bool r):=by
 unfold q46 at b;refine Qm Tryz.func149 J qi qi J<|qc<|qa J<|qx<|U J<|O _ J<|q7 b fun h a b=>?_;refine Q9 4 (fun A st=>∃ d f g,st = A [(8,ql h),(7,g),(6,f),(5,d)]) ?_ ?_
 ·refine Qa J J a (fun a=>?_) (fun a=>?_)
  ·refine U J<|O _ J<|O _ J<|q8 ?_;cases a;exact ⟨_,_,_,J⟩
  refine qb J<|qb J<|O _ J<|q8 ?_;cases a;exact ⟨_,_,_,J⟩
 rintro _ ⟨d,f,g,rfl⟩;refine qa J<|qw ?_;cases b;exact Q8 _ J
theorem qym (g : qk) (r : Bool) (a : qaw g = some r) : Pure Tryz.prog tab 137 [.agg (Qe g)] (.bool r):=by
 unfold qaw at a;refine Qm Tryz.func137 J qi qi J<|qc<|Qj _ _ J<|qa J<|qx<|O _ J<|O _ J<|O _ J<|O _ J<|O _ J<|q7 a fun c1 h a=>?_;refine Q9 7 (fun A st=>∃ j k l m n o,st = A [(14,ql c1),(13,o),(12,n),(11,m),(10,l),(9,k),(8,j)]) ?_ ?_
 ·refine Qa J J h (fun h=>?_) (fun h=>?_)
  ·refine O _ J<|O _ J<|O _ J<|O _ J<|O _ J<|O _ J<|q8 ?_;cases h;exact ⟨_,_,_,_,_,_,J⟩
  refine qb J<|qb J<|qb J<|qb J<|qb J<|O _ J<|q8 ?_;cases h;exact ⟨_,_,_,_,_,_,J⟩
 rintro _ ⟨j,k,l,m,n,o,rfl⟩;refine q7 a fun ai b a=>?_;refine Q9 5 (fun A st=>∃ p q s t,st = A [(19,ql ai),(18,t),(17,s),(16,q),(15,p)]) ?_ ?_
 ·refine Qa J J b (fun b=>?_) (fun b=>?_)
  ·refine O _ J<|O _ J<|q7 b fun aj ak b=>qv (qej g.X0 aj ak) J<|O _ J<|q8 ?_;cases b;exact ⟨_,_,_,_,J⟩
  refine qb J<|qb J<|qb J<|O _ J<|q8 ?_;cases b;exact ⟨_,_,_,_,J⟩
 rintro _ ⟨p,q,s,t,rfl⟩;refine q7 a fun al c a=>?_;refine Q9 5 (fun A st=>∃ u v x y,st = A [(24,ql al),(23,y),(22,x),(21,v),(20,u)]) ?_ ?_
 ·refine Qa J J c (fun c=>?_) (fun c=>?_)
  ·refine O _ J<|O _ J<|q7 c fun am an c=>qv (qej g.X1 am an) J<|O _ J<|q8 ?_;cases c;exact ⟨_,_,_,_,J⟩
  refine qb J<|qb J<|qb J<|O _ J<|q8 ?_;cases c;exact ⟨_,_,_,_,J⟩
 rintro _ ⟨u,v,x,y,rfl⟩;refine q7 a fun ao d a=>?_;refine Q9 5 (fun A st=>∃ z aa ab ac,st = A [(29,ql ao),(28,ac),(27,ab),(26,aa),(25,z)]) ?_ ?_
 ·refine Qa J J d (fun d=>?_) (fun d=>?_)
  ·refine O _ J<|O _ J<|q7 d fun ap aq d=>qv (qej g.Y0 ap aq) J<|O _ J<|q8 ?_;cases d;exact ⟨_,_,_,_,J⟩
  refine qb J<|qb J<|qb J<|O _ J<|q8 ?_;cases d;exact ⟨_,_,_,_,J⟩
 rintro _ ⟨z,aa,ab,ac,rfl⟩;refine q7 a fun ar f a=>?_;refine Q9 5 (fun A st=>∃ ad ae af ag,st = A [(34,ql ar),(33,ag),(32,af),(31,ae),(30,ad)]) ?_ ?_
 ·refine Qa J J f (fun f=>?_) (fun f=>?_)
  ·refine O _ J<|O _ J<|q7 f fun au av f=>qv (qej g.Y1 au av) J<|O _ J<|q8 ?_;cases f;exact ⟨_,_,_,_,J⟩
  refine qb J<|qb J<|qb J<|O _ J<|q8 ?_;cases f;exact ⟨_,_,_,_,J⟩
 rintro _ ⟨ad,ae,af,ag,rfl⟩;refine qa J<|qw ?_;cases a;exact Q8 _ J
theorem qyf (b : qk) (r : Bool) (a : q45 b = some r) : Pure Tryz.prog tab 136 [.agg (Qe b)] (.bool r):=by
 unfold q45 at a;refine Qm Tryz.func136 J qi qi J<|qc<|Qj _ _ J<|qa J<|qx<|O _ J<|q7 a fun c d a=>qv (qym b c d) J<|O _ J<|qa J<|qw ?_;cases a;exact Q8 _ J
theorem q10t (b : List qu) (f : qu→Option Bool) (p1F : FuncId) (p1C : List DV) (p1Ok : ∀ (h : qu) (r : Bool),f h = some r→Pure Tryz.prog tab p1F ([.agg (Qy h)] ++ p1C) (.bool r)) (r : Int) (c : qb6 b f = some r) : Pure Tryz.prog tab 182 [.sl 2 (b.map Qy),.fn p1F p1C] (qd r):=by
 unfold qb6 at c;refine Qm Tryz.func182 J qi qi J<|qc<|qa J<|q8<|qf<|qc<|U J<|K1 J<|U J<|q8<|q7 c fun j l c=>?_;refine Qn (fun g=>.inl g = j) (fun g=>⟨[],[],0⟩) qe ?_ ?_
 ·refine Ql (q4c b f) (fun k=>⟨[(0,.d (.sl 2 (b.map Qy))),(1,.d (.fn p1F p1C)),(7,q9 (b.length : Int)),(8,q9 k)],[],0⟩) _ j l (wkA [] [] []) ?_;intro k q a;unfold q4c at a;refine qc<|O _ J<|q8<|qf ?_;refine qm J a (fun _ a=>?_) (fun _ a=>?_)
  ·refine qn<|qf<|Qc<|qc<|U J<|qa J<|qx<|U J<|U J<|U J<|q7 a fun m n a=>Qq n J<|O _ J<|q7 a fun o p a=>Za _ (p1Ok m o p) J J J (.inl J)<|q8 ?_;refine qm J a (fun _ a=>?_) (fun _ a=>?_)
   ·refine qc<|U J<|qa J<|qw ?_;refine ⟨_,qt a,fun hm=>?_⟩;subst hm;cases c;exact Q8 _ J
   refine qn<|Qo<|Qs<|Q6<|O _ J<|U J<|Q4<|⟨_,qt a,wkA [] [] []⟩
  refine Qf ?_;refine ⟨_,qt a,fun hm=>?_⟩;subst hm;exact ⟨_,J,wkA [] [] []⟩
 intro g hb;subst hb;refine qc<|qa J<|qw ?_;cases c;exact Q8 _ J
theorem q10o (b : List qu) (c : qu→Option Bool) (p1F : FuncId) (p1C : List DV) (p1Ok : ∀ (d : qu) (r : Bool),c d = some r→Pure Tryz.prog tab p1F ([.agg (Qy d)] ++ p1C) (.bool r)) (r : Bool) (a : qb4 b c = some r) : Pure Tryz.prog tab 169 [.sl 2 (b.map Qy),.fn p1F p1C] (.bool r):=by
 unfold qb4 at a;refine Qm Tryz.func169 J qi qi J<|qc<|qa J<|qx<|U J<|U J<|q7 a fun f g a=>qv (q10t b c p1F p1C p1Ok f g) J<|O _ J<|qa J<|qw ?_;cases a;exact Q8 _ J
theorem q146 (d : qu) (r : Bool) (a : q4g d = some r) : Pure Tryz.prog tab 154 [.agg (Qy d)] (.bool r):=by
 unfold q4g at a;refine Qm Tryz.func154 J qi qi J<|qc<|Qj _ _ J<|qa J<|qx<|O _ J<|O _ J<|O _ J<|O _ J<|O _ J<|q7 a fun o b a=>?_;refine Q9 5 (fun A st=>∃ f g h j,st = A [(12,ql o),(11,j),(10,h),(9,g),(8,f)]) ?_ ?_
 ·refine Qa J J b (fun b=>?_) (fun b=>?_)
  ·refine O _ J<|O _ J<|O _ J<|O _ J<|q8 ?_;cases b;exact ⟨_,_,_,_,J⟩
  refine qb J<|qb J<|qb J<|O _ J<|q8 ?_;cases b;exact ⟨_,_,_,_,J⟩
 rintro _ ⟨f,g,h,j,rfl⟩;refine q7 a fun p c a=>?_;refine Q9 5 (fun A st=>∃ k l m n,st = A [(17,ql p),(16,n),(15,m),(14,l),(13,k)]) ?_ ?_
 ·refine Qa J J c (fun c=>?_) (fun c=>?_)
  ·refine O _ J<|O _ J<|O _ J<|O _ J<|q8 ?_;cases c;exact ⟨_,_,_,_,J⟩
  refine qb J<|qb J<|qb J<|O _ J<|q8 ?_;cases c;exact ⟨_,_,_,_,J⟩
 rintro _ ⟨k,l,m,n,rfl⟩;refine qa J<|qw ?_;cases a;exact Q8 _ J
theorem q13z (b : qu) (r : Bool) (a : qf0 b = some r) : Pure Tryz.prog tab 170 [.agg (Qy b)] (.bool r):=by
 unfold qf0 at a;refine Qm Tryz.func170 J qi qi J<|qc<|Qj _ _ J<|qa J<|qx<|O _ J<|q7 a fun c d a=>qv (q146 b c d) J<|O _ J<|qa J<|qw ?_;cases a;exact Q8 _ J
theorem q142 (a : qp) (b : qp) (r : Int) (c : qc4 a b = some r) : Pure Tryz.prog tab 174 [.agg (Qg a),.agg (Qg b)] (qd r):=by
 unfold qc4 at c;refine Qm Tryz.func174 J qi qi J<|qc<|Qj _ _ J<|Qj _ _ J<|qa J<|qx<|O _ J<|O _ J<|O _ J<|O _ J<|O _ J<|qa J<|qw ?_;cases c;exact Q8 _ J
theorem q112 (k : qp→qp→Option Int) (q1F : FuncId) (q1C : List DV) (q1Ok : ∀ (p : qp) (q : qp) (r : Int),k p q = some r→Pure Tryz.prog tab q1F ([.agg (Qg p),.agg (Qg q)] ++ q1C) (qd r)) (n : List qp) (f : Int) (g : Int) (r : List qp) (l : qbd k n f g = some r) : K8 Tryz.prog tab 186 [.hs 0 3 0 n.length,q9 f,q9 g,.d (.fn q1F q1C)] [(0,.dat 3 (n.map Qg))] 1 (.d (.tup [])) [(0,.dat 3 (r.map Qg))] 1:=by
 unfold qbd at l;refine Ko Tryz.func186 J qi qi J<|qc<|U J<|O _ J<|qa J<|q8<|q7 l fun am an l=>Qc<|Ql (qbe g f k) (fun h=>⟨[(0,.hs 0 3 0 h.2.length),(1,q9 f),(2,q9 g),(3,.d (.fn q1F q1C)),(8,q9 h.1)],[(0,.dat 3 (h.2.map Qg))],1⟩) _ am an (wkA [] [] []) ?_;intro h ba c;unfold qbe at c;refine qf<|qc<|U J<|U J<|O _ J<|q8 ?_;refine qm J c (fun _ c=>?_) (fun _ c=>?_)
 ·refine qn<|qf<|q7 c fun ao o c=>?_;refine Qn (fun j=>j = ao) (fun j=>⟨[(0,.hs 0 3 0 j.length),(1,q9 f),(2,q9 g),(3,.d (.fn q1F q1C)),(8,q9 h.1)],[(0,.dat 3 (j.map Qg))],1⟩) qe ?_ ?_
  ·refine qc<|U J<|qa J<|q8<|q7 o fun ap aq o=>Qc<|Ql (qbf f k) (fun m=>⟨[(0,.hs 0 3 0 m.2.length),(1,q9 f),(2,q9 g),(3,.d (.fn q1F q1C)),(8,q9 h.1),(9,q9 m.1)],[(0,.dat 3 (m.2.map Qg))],1⟩) _ ap aq (wkA [] [] []) ?_;intro m bb a;unfold qbf at a;refine qf<|qf<|Qk [q6,q6,q6,Q2 0,q6,q6,q6,q6,Q2 0,q6,q6,q6,q6,q6,q6,q6,q6] qi<|U J<|U J<|O _ J<|q7 a fun ar b a=>?_;refine Q9 14 (fun A st=>∃ s t u v x y z aa ab ac ad ae af,st = A [(34,ql ar),(33,af),(32,ae),(31,ad),(30,ac),(29,ab),(28,aa),(27,z),(26,y),(25,x),(24,v),(23,u),(22,t),(21,s)]) ?_ ?_
   ·refine Qa J J b (fun b=>?_) (fun b=>?_)
    ·refine U J<|U J<|U J<|q7 b fun au ag b=>Q5 ag J J<|Qi _ ag J<|U J<|U J<|O _ J<|q7 b fun av ah b=>Q5 ah J J<|Qi _ ah J<|q7 b fun aw ax b=>Za _ (q1Ok au av aw ax) J J J (.inl J)<|O _ J<|O _ J<|q8 ?_;cases b;exact ⟨_,_,_,_,_,_,_,_,_,_,_,_,_,J⟩
    refine qb J<|qb J<|qb J<|qb J<|qb J<|qb J<|qb J<|qb J<|qb J<|qb J<|qb J<|qb J<|O _ J<|q8 ?_;cases b;exact ⟨_,_,_,_,_,_,_,_,_,_,_,_,_,J⟩
   rintro _ ⟨s,t,u,v,x,y,z,aa,ab,ac,ad,ae,af,rfl⟩;refine q8 ?_;refine qm J a (fun _ a=>?_) (fun _ a=>?_)
   ·refine qn<|qf<|Qc<|Qk [Qv 0,q6,Qv 0,q6,Q2 0,q6,q6,q6,Q2 0,q6,q6,q6,q6,q6,q6,q6,q6,q6] qi<|U J<|U J<|U J<|U J<|O _ J<|U J<|U J<|O _ J<|q7 a fun ay ai a=>Q5 ai J J<|Qi _ ai J<|U J<|U J<|q7 a fun az aj a=>Q5 aj J J<|Qi _ aj J<|q7 a fun bc ak a=>Q5 ak J J<|K2 ay ak J J J J J J J J (leb J) J<|q7 a fun bd al a=>Q5 al qe J<|K2 az al J J J J J J J J (leb J) J<|Q4<|Qs<|Q6<|U J<|O _ J<|qa J<|Q4<|⟨_,qt a,wkE [] [] [] J ⟨⟨_,J,K5 qe J qr (ltd J)⟩,qo J,qo J,qo J,qo J,qo J,trivial⟩ ⟨Qp J J,trivial⟩⟩
   refine Qf ?_;refine ⟨_,qt a,fun hm=>?_⟩;subst hm;obtain rfl:=Q0 o;exact ⟨_,J,wkA [] [] []⟩
  intro j hb;subst hb;refine Q6<|U J<|O _ J<|qa J<|Q4<|⟨_,qt c,wkA [] [] []⟩
 refine Qf ?_;refine ⟨_,qt c,fun hm=>?_⟩;subst hm;obtain rfl:=Q0 l;exact ⟨.inl J,_,J,wkA [] [] []⟩
theorem qph (l : qp→qp→Option Int) (q1F : FuncId) (q1C : List DV) (q1Ok : ∀ (n : qp) (o : qp) (r : Int),l n o = some r→Pure Tryz.prog tab q1F ([.agg (Qg n),.agg (Qg o)] ++ q1C) (qd r)) (m : List qp) (p : Int) (f : Int) (g : Int) (r : List qp) (h : q8x l m p f g = some r) : K8 Tryz.prog tab 194 [.hs 0 3 0 m.length,q9 p,q9 f,q9 g,.d (.fn q1F q1C)] [(0,.dat 3 (m.map Qg))] 1 (.d (.tup [])) [(0,.dat 3 (r.map Qg))] 1:=by
 unfold q8x at h;refine Ko Tryz.func194 J qi qi J<|qc<|U J<|qa J<|q8<|q7 h fun ar au h=>Qc<|Ql (qbx f g l) (fun c=>⟨[(0,.hs 0 3 0 c.2.length),(2,q9 f),(3,q9 g),(4,.d (.fn q1F q1C)),(10,q9 c.1)],[(0,.dat 3 (c.2.map Qg))],1⟩) _ ar au (wkA [] [] []) ?_;intro c bh a;unfold qbx at a;refine Qc<|qc<|U J<|O _ J<|O _ J<|qa J<|q8<|qf<|qc<|U J<|U J<|O _ J<|q8 ?_;refine qm J a (fun _ a=>?_) (fun _ a=>?_)
 ·refine Qf ?_;refine ⟨_,qt a,fun hm=>?_⟩;subst hm;obtain rfl:=Q0 h;exact ⟨.inl J,_,J,wkA [] [] []⟩
 refine qn<|qf<|qf<|Qk [q6,q6,q6,Q2 0,q6,q6,q6,q6,q6,q6,Q2 0,q6,q6,q6,q6,q6,q6,q6,q6,q6,q6,q6] qi<|U J<|O _ J<|U J<|O _ J<|q7 a fun av b a=>?_;refine Q9 18 (fun A st=>∃ q s t u v x y z aa ab ac ad ae af ag ah ai,st = A [(40,ql av),(39,ai),(38,ah),(37,ag),(36,af),(35,ae),(34,ad),(33,ac),(32,ab),(31,aa),(30,z),(29,y),(28,x),(27,v),(26,u),(25,t),(24,s),(23,q)]) ?_ ?_
 ·refine Qa J J b (fun b=>?_) (fun b=>?_)
  ·refine U J<|U J<|U J<|U J<|O _ J<|q7 b fun aw aj b=>Q5 aj J J<|Qi _ aj J<|U J<|U J<|U J<|O _ J<|O _ J<|q7 b fun ax ak b=>Q5 ak J J<|Qi _ ak J<|q7 b fun ay az b=>Za _ (q1Ok aw ax ay az) J J J (.inl J)<|O _ J<|O _ J<|q8 ?_;cases b;exact ⟨_,_,_,_,_,_,_,_,_,_,_,_,_,_,_,_,_,J⟩
  refine qb J<|qb J<|qb J<|qb J<|qb J<|qb J<|qb J<|qb J<|qb J<|qb J<|qb J<|qb J<|qb J<|qb J<|qb J<|qb J<|O _ J<|q8 ?_;cases b;exact ⟨_,_,_,_,_,_,_,_,_,_,_,_,_,_,_,_,_,J⟩
 rintro _ ⟨q,s,t,u,v,x,y,z,aa,ab,ac,ad,ae,af,ag,ah,ai,rfl⟩;refine q8<|q7 a fun ba j a=>?_;refine Y9 (fun k=>k = ba) (fun k=>⟨[(0,.hs 0 3 0 c.2.length),(2,q9 f),(3,q9 g),(4,.d (.fn q1F q1C)),(10,q9 c.1),(11,q9 k)],[(0,.dat 3 (c.2.map Qg))],1⟩) qe ?_ ?_
 ·refine qm J j (fun _ j=>?_) (fun _ j=>?_)
  ·refine Q6<|U J<|O _ J<|qa J<|Q4 ?_;obtain rfl:=Q0 j;exact ⟨_,J,wkA [] [] []⟩
  refine qn<|Qo ?_;obtain rfl:=Q0 j;exact ⟨_,J,wkA [] [] []⟩
 intro k hb;subst hb;refine qf<|qf<|Qk [q6,q6,q6,Q2 0,q6,q6,q6,q6,q6,Q2 0,q6,q6,q6,q6,q6,q6] qi<|U J<|U J<|U J<|U J<|O _ J<|q7 a fun bb al a=>Q5 al J J<|Qi _ al J<|U J<|U J<|U J<|O _ J<|q7 a fun bc am a=>Q5 am J J<|Qi _ am J<|q7 a fun bd be a=>Za _ (q1Ok bb bc bd be) J J J (.inl J)<|O _ J<|O _ J<|q8 ?_;refine qm J a (fun _ a=>?_) (fun _ a=>?_)
 ·refine q5n ?_;refine ⟨_,qt a,fun hm=>?_⟩;subst hm;obtain rfl:=Q0 h;exact ⟨.inr J,_,J,wkA [] [] []⟩
 refine qn<|qf<|Qk [Qv 0,q6,Qv 0,q6,Q2 0,q6,q6,q6,q6,q6,Q2 0,q6,q6,q6,q6,q6,q6,q6,q6,q6,q6,q6,q6,q6] qi<|U J<|U J<|U J<|O _ J<|U J<|U J<|U J<|O _ J<|U J<|U J<|U J<|O _ J<|q7 a fun bf an a=>Q5 an J J<|Qi _ an J<|U J<|U J<|U J<|O _ J<|q7 a fun bg ao a=>Q5 ao J J<|Qi _ ao J<|q7 a fun bi ap a=>Q5 ap J J<|K2 bf ap J J J J J J J J (leb J) J<|q7 a fun bj aq a=>Q5 aq qe J<|K2 bg aq J J J J J J J J (leb J) J<|q8<|Q6<|U J<|qa J<|Q4<|Qs<|Qo<|⟨_,qt a,wkE [] [] [] J ⟨⟨_,J,K5 qe J qr (ltd J)⟩,qo J,qo J,qo J,qo J,trivial⟩ ⟨Qp J J,trivial⟩⟩
theorem q110 (g : qp→qp→Option Int) (q1F : FuncId) (q1C : List DV) (q1Ok : ∀ (o : qp) (p : qp) (r : Int),g o p = some r→Pure Tryz.prog tab q1F ([.agg (Qg o),.agg (Qg p)] ++ q1C) (qd r)) (m : List qp) (b : Int) (h : Int) (r : List qp) (j : qba g m b h = some r) : K8 Tryz.prog tab 187 [.hs 0 3 0 m.length,q9 b,q9 h,.d (.fn q1F q1C)] [(0,.dat 3 (m.map Qg))] 1 (.d (.tup [])) [(0,.dat 3 (r.map Qg))] 1:=by
 unfold qba at j;refine Ko Tryz.func187 J qi qi J<|qc<|U J<|qa J<|qx<|qa J<|qx<|U J<|U J<|O _ J<|qa J<|q8<|qf<|qc<|U J<|O _ J<|O _ J<|qa J<|q8<|q7 j fun q aa j=>?_;refine Qn (fun l=>l = q) (fun l=>⟨[(0,.hs 0 3 0 l.length),(3,.d (.fn q1F q1C)),(8,q9 b),(9,q9 0),(10,.d (qd (w64 (h - b))))],[(0,.dat 3 (l.map Qg))],1⟩) qe ?_ ?_
 ·refine Ql (qbb g h b) (fun k=>⟨[(0,.hs 0 3 0 k.2.length),(3,.d (.fn q1F q1C)),(8,q9 b),(9,q9 0),(10,.d (qd (w64 (h - b)))),(11,q9 k.1)],[(0,.dat 3 (k.2.map Qg))],1⟩) _ q aa (wkA [] [] []) ?_;intro k aj c;unfold qbb at c;refine qf<|qc<|U J<|O _ J<|q8 ?_;refine qm J c (fun _ c=>?_) (fun _ c=>?_)
  ·refine qn<|qf<|Qc<|Q6<|U J<|U J<|U J<|U J<|U J<|q7 c fun s ab c=>q7 c fun ak ac c=>?_;have ad:=Ku ac;refine Kc [(0,0)] [(0,0)] _ (.d (.tup [])) 1 [(0,.dat 3 (s.map Qg))] 1 (qph g q1F q1C q1Ok k.2 k.1 (w64 (h - b)) b s ab)<|Q4<|Qs<|Q6<|U J<|O _ J<|qa J<|Q4<|⟨_,qt c,wkE [] [] [] J ⟨⟨_,J,K5 (by simp [ad]) J qr (ltd J)⟩,qo J,qo J,qo J,qo J,qo J,trivial⟩ ⟨Qp J J,trivial⟩⟩
  refine Qf ?_;refine ⟨_,qt c,fun hm=>?_⟩;subst hm;exact ⟨_,J,wkA [] [] []⟩
 intro l hb;subst hb;refine qc<|U J<|O _ J<|qa J<|q8<|q7 j fun ae af j=>Qc<|Ql (qbc b g) (fun f=>⟨[(0,.hs 0 3 0 f.2.length),(3,.d (.fn q1F q1C)),(8,q9 b),(9,q9 0),(12,q9 f.1)],[(0,.dat 3 (f.2.map Qg))],1⟩) _ ae af (wkA [] [] []) ?_;intro f al a;unfold qbc at a;refine qf<|qc<|U J<|O _ J<|q8 ?_;refine qm J a (fun _ a=>?_) (fun _ a=>?_)
 ·refine qn<|qf<|Qc<|qf<|Qk [Qv 0,q6,Qv 0,q6,Q2 0,q6,q6,q6,Q2 0,q6,q6,q6,q6,q6,q6,q6,q6,q6,q6,q6] qi<|U J<|U J<|U J<|U J<|U J<|O _ J<|U J<|U J<|U J<|O _ J<|q7 a fun t u a=>Q5 u J J<|Qi _ u J<|U J<|U J<|q7 a fun v x a=>Q5 x J J<|Qi _ x J<|q7 a fun am y a=>Q5 y J J<|K2 t y J J J J J J J J (leb J) J<|q7 a fun an z a=>Q5 z qe J<|K2 v z J J J J J J J J (leb J) J<|q8<|Q6<|U J<|U J<|U J<|U J<|U J<|q7 a fun n ag a=>q7 a fun ao ah a=>?_;have ai:=Ku ah;refine q1j [(0,0)] [(0,0)] [.hs 0 3 0 f.2.length,q9 0,q9 f.1,q9 b,.d (.fn q1F q1C)] (.d (.tup [])) [(0,.dat 3 (n.map Qg))] [(0,.dat 3 (n.map Qg))] 1 (qph g q1F q1C q1Ok ((f.2.set b.toNat t).set (w64 (b + f.1)).toNat v) 0 f.1 b n ag) J J J (Yz [(0,0)] [] [] J ⟨⟨_,J,K5 qe J qr (ltd J)⟩,qo J,qo J,qo J,qo J,trivial⟩ ⟨Qp J J,trivial⟩) (Yz [(0,0)] [] [] J ⟨qo J,trivial⟩ ⟨Qp J J,trivial⟩) J ⟨.inl J,trivial⟩<|Q4<|Qs<|Q6<|U J<|O _ J<|qa J<|Q4<|⟨_,qt a,wkE [] [] [] J ⟨⟨_,J,K5 (by simp [ai]) J qr (ltd J)⟩,qo J,qo J,qo J,qo J,trivial⟩ ⟨Qp J J,trivial⟩⟩
 refine Qf ?_;refine ⟨_,qt a,fun hm=>?_⟩;subst hm;obtain rfl:=Q0 j;exact ⟨.inl J,_,J,wkA [] [] []⟩
theorem qif (b : qp→qp→Option Int) (q1F : FuncId) (q1C : List DV) (q1Ok : ∀ (c : qp) (f : qp) (r : Int),b c f = some r→Pure Tryz.prog tab q1F ([.agg (Qg c),.agg (Qg f)] ++ q1C) (qd r)) (g : List qp) (h : Int) (j : Int) (k : Int) (r : Int × Int × Int) (a : q5r b g h j k = some r) : K8 Tryz.prog tab 197 [.d (.sl 3 (g.map Qg)),q9 h,q9 j,.ref 0 1 0 0,.d (.fn q1F q1C)] [(0,.dat 1 [[qd k]])] 1 (.d (.tup [qd r.1,qd r.2.1])) [(0,.dat 1 [[qd r.2.2]])] 1:=by
 unfold q5r at a;refine Ko Tryz.func197 J qi qi J<|qc<|qa J<|qa J<|q8<|qf<|qf<|Qk [q6,q6,q6,q6,q6,q6,q6,q6,q6,q6,q6] qi<|U J<|U J<|U J<|q7 a fun l m a=>Qq m J<|O _ J<|U J<|U J<|q7 a fun n o a=>Qq o J<|O _ J<|q7 a fun p q a=>Za _ (q1Ok l n p q) J J J (.inl J)<|O _ J<|q8 ?_;refine qm J a (fun _ a=>?_) (fun _ a=>?_)
 ·refine qc<|U J<|O _ J<|O _ J<|O _ J<|O _ J<|Qd 0 _ J<|qx<|U J<|U J<|qa J<|qa J<|qw ?_;obtain rfl:=Q0 a;exact ⟨.inr J,_,J,wkA [] [] []⟩
 refine qn<|qc<|U J<|U J<|qa J<|qa J<|qw ?_;obtain rfl:=Q0 a;exact ⟨.inr J,_,J,wkA [] [] []⟩
theorem qpe (f : qp→qp→Option Int) (q1F : FuncId) (q1C : List DV) (q1Ok : ∀ (n : qp) (o : qp) (r : Int),f n o = some r→Pure Tryz.prog tab q1F ([.agg (Qg n),.agg (Qg o)] ++ q1C) (qd r)) (g : List qp) (j : Int) (k : Int) (l : Int) (m : Int) (r : Int × Int) (a : q8d f g j k l m = some r) : K8 Tryz.prog tab 196 [.d (.sl 3 (g.map Qg)),q9 j,q9 k,q9 l,.ref 0 1 0 0,.d (.fn q1F q1C)] [(0,.dat 1 [[qd m]])] 1 (q9 r.1) [(0,.dat 1 [[qd r.2]])] 1:=by
 unfold q8d at a;refine Ko Tryz.func196 J qi qi J<|qc<|qa J<|qx<|U J<|U J<|U J<|U J<|U J<|q7 a fun b p a=>Kc [(0,0)] [(0,0)] _ (.d (.tup [qd b.1,qd b.2.1])) 1 [(0,.dat 1 [[qd b.2.2]])] 1 (qif f q1F q1C q1Ok g j k m b p)<|U J<|O _ J<|O _ J<|qa J<|qa J<|qx<|U J<|U J<|U J<|U J<|U J<|q7 a fun c q a=>Kc [(0,0)] [(0,0)] _ (.d (.tup [qd c.1,qd c.2.1])) 1 [(0,.dat 1 [[qd c.2.2]])] 1 (qif f q1F q1C q1Ok g b.2.1 l b.2.2 c q)<|U J<|O _ J<|O _ J<|qa J<|qa J<|qx<|U J<|U J<|U J<|U J<|U J<|q7 a fun h s a=>Kc [(0,0)] [(0,0)] _ (.d (.tup [qd h.1,qd h.2.1])) 1 [(0,.dat 1 [[qd h.2.2]])] 1 (qif f q1F q1C q1Ok g b.1 c.1 c.2.2 h s)<|U J<|O _ J<|O _ J ?_;refine qa J<|qa J<|qx<|U J<|qa J<|qw ?_;obtain rfl:=Q0 a;exact ⟨.inr J,_,J,wkA [] [] []⟩
theorem qid (c : qp→qp→Option Int) (q1F : FuncId) (q1C : List DV) (q1Ok : ∀ (j : qp) (k : qp) (r : Int),c j k = some r→Pure Tryz.prog tab q1F ([.agg (Qg j),.agg (Qg k)] ++ q1C) (qd r)) (f : List qp) (a : Int) (g : Int) (r : Int × Int) (b : q5p c f a g = some r) : K8 Tryz.prog tab 195 [.d (.sl 3 (f.map Qg)),q9 a,.ref 0 1 0 0,.d (.fn q1F q1C)] [(0,.dat 1 [[qd g]])] 1 (q9 r.1) [(0,.dat 1 [[qd r.2]])] 1:=by
 unfold q5p at b;refine Ko Tryz.func195 J qi qi J<|qc<|qa J<|qx<|U J<|U J<|O _ J<|U J<|U J<|O _ J<|U J<|U J<|q7 b fun h l b=>Kc [(0,0)] [(0,0)] _ (q9 h.1) 1 [(0,.dat 1 [[qd h.2]])] 1 (qpe c q1F q1C q1Ok f (w64 (a - 1)) a (w64 (a + 1)) g h l)<|qa J<|qw ?_;obtain rfl:=Q0 b;exact ⟨.inr J,_,J,wkA [] [] []⟩
theorem q10y (h : List qp) (g : Int) (k : Int) (j : qp→qp→Option Int) (p3F : FuncId) (p3C : List DV) (p3Ok : ∀ (q : qp) (s : qp) (r : Int),j q s = some r→Pure Tryz.prog tab p3F ([.agg (Qg q),.agg (Qg s)] ++ p3C) (qd r)) (r : Int × Int) (a : qb9 h g k j = some r) : Pure Tryz.prog tab 189 [.sl 3 (h.map Qg),qd g,qd k,.fn p3F p3C] (.tup [qd r.1,qd r.2]):=by
 unfold qb9 at a;refine Qm Tryz.func189 J qi qi J<|qc<|qa J<|qa J<|qx<|U J<|U J<|O _ J<|qa J<|qx<|Qt J J<|qx<|U J<|U J<|O _ J<|O _ J<|O _ J<|qa J<|qx<|U J<|U J<|O _ J<|O _ J<|O _ J<|qa J<|qx<|U J<|U J<|O _ J<|O _ J<|O _ J<|qa J<|q8<|qf<|qc<|U J<|O _ J<|q8<|q7 a fun t f a=>?_;refine Y9 (fun l=>l = t) (fun l=>⟨[(11,.ref 0 1 0 0),(13,q9 l.1)],[(0,.dat 1 [[qd l.2]])],1⟩) qe ?_ ?_
 ·refine qm J f (fun _ f=>?_) (fun _ f=>?_)
  ·refine qf<|qc<|U J<|O _ J<|q8<|q7 f fun u b f=>?_;refine Y9 (fun c=>c = u) (fun c=>⟨[(0,.d (.sl 3 (h.map Qg))),(3,.d (.fn p3F p3C)),(11,.ref 0 1 0 0),(12,q9 c.1),(13,q9 c.2.1),(14,q9 c.2.2.1)],[(0,.dat 1 [[qd c.2.2.2]])],1⟩) qe ?_ ?_
   ·refine qm J b (fun _ b=>?_) (fun _ b=>?_)
    ·refine qc<|U J<|U J<|U J<|q7 b fun m v b=>Kc [(0,0)] [(0,0)] _ (q9 m.1) 1 [(0,.dat 1 [[qd m.2]])] 1 (qid j p3F p3C p3Ok h (w64 (g + (w64 ((w64 (Int.tdiv (w64 (k - g)) 4)) * 1)))) 0 m v)<|qa J<|qx<|U J<|U J<|U J<|q7 b fun n x b=>Kc [(0,0)] [(0,0)] _ (q9 n.1) 1 [(0,.dat 1 [[qd n.2]])] 1 (qid j p3F p3C p3Ok h (w64 (g + (w64 ((w64 (Int.tdiv (w64 (k - g)) 4)) * 2)))) m.2 n x)<|qa J<|q8<|Q6<|U J<|U J<|U J<|q7 b fun o y b=>Kc [(0,0)] [(0,0)] _ (q9 o.1) 1 [(0,.dat 1 [[qd o.2]])] 1 (qid j p3F p3C p3Ok h (w64 (g + (w64 ((w64 (Int.tdiv (w64 (k - g)) 4)) * 3)))) n.2 o y)<|qa J<|Q4 ?_;obtain rfl:=Q0 b;exact ⟨_,J,wkA [(0,0)] [] []⟩
    refine qn<|Qo ?_;obtain rfl:=Q0 b;exact ⟨_,J,wkA [(0,0)] [] []⟩
   intro c hb;subst hb;refine Q6<|U J<|U J<|U J<|U J<|U J<|q7 f fun p z f=>Kc [(0,0)] [(0,0)] _ (q9 p.1) 1 [(0,.dat 1 [[qd p.2]])] 1 (qpe j p3F p3C p3Ok h c.1 c.2.1 c.2.2.1 c.2.2.2 p z)<|qa J<|Q4 ?_;obtain rfl:=Q0 f;exact ⟨_,J,wkA [(0,0)] [] []⟩
  refine qn<|Qo ?_;obtain rfl:=Q0 f;exact ⟨_,J,wkA [(0,0)] [] []⟩
 intro l hb;subst hb;refine qc<|O _ J<|q8<|Qc<|qc<|O _ J<|qa J<|q8 ?_;refine qm J a (fun _ a=>?_) (fun _ a=>?_)
 ·refine qc<|U J<|qa J<|qa J<|qw ?_;cases a;exact Q8 _ J
 refine qc<|O _ J<|qa J<|q8 ?_;refine qm J a (fun _ a=>?_) (fun _ a=>?_)
 ·refine qc<|U J<|qa J<|qa J<|qw ?_;cases a;exact Q8 _ J
 refine qc<|U J<|qa J<|qa J<|qw ?_;cases a;exact Q8 _ J
theorem q11e (g : qp→qp→Option Int) (q1F : FuncId) (q1C : List DV) (_q1Ok : ∀ (h : qp) (j : qp) (r : Int),g h j = some r→Pure Tryz.prog tab q1F ([.agg (Qg h),.agg (Qg j)] ++ q1C) (qd r)) (f : List qp) (k : Int) (l : Int) (r : List qp) (c : qbu g f k l = some r) : K8 Tryz.prog tab 190 [.hs 0 3 0 f.length,q9 k,q9 l,.d (.fn q1F q1C)] [(0,.dat 3 (f.map Qg))] 1 (.d (.tup [])) [(0,.dat 3 (r.map Qg))] 1:=by
 unfold qbu at c;refine Ko Tryz.func190 J qi qi J<|qc<|U J<|qa J<|qx<|U J<|O _ J<|qa J<|q8<|q7 c fun q s c=>Qc<|Ql (qbv) (fun b=>⟨[(0,.hs 0 3 0 b.2.2.length),(8,q9 b.1),(9,q9 b.2.1)],[(0,.dat 3 (b.2.2.map Qg))],1⟩) _ q s (wkA [] [] []) ?_;intro b v a;unfold qbv at a;refine qf<|qc<|U J<|U J<|O _ J<|q8 ?_;refine qm J a (fun _ a=>?_) (fun _ a=>?_)
 ·refine qn<|Qc<|qf<|Qk [Qv 0,q6,Qv 0,q6,Q2 0,q6,q6,q6,Q2 0,q6,q6,q6,q6,q6,q6,q6] qi<|U J<|U J<|U J<|U J<|U J<|U J<|q7 a fun t m a=>Q5 m J J<|Qi _ m J<|U J<|U J<|q7 a fun u n a=>Q5 n J J<|Qi _ n J<|q7 a fun x o a=>Q5 o J J<|K2 t o J J J J J J J J (leb J) J<|q7 a fun y p a=>Q5 p qe J<|K2 u p J J J J J J J J (leb J) J<|qx<|U J<|O _ J<|qa J<|q8<|Q6<|U J<|O _ J<|qa J<|Q4<|Qs<|Qo<|⟨_,qt a,wkE [] [] [] J ⟨⟨_,J,K5 qe J qr (ltd J)⟩,qo J,qo J,trivial⟩ ⟨Qp J J,trivial⟩⟩
 refine Qf ?_;refine ⟨_,qt a,fun hm=>?_⟩;subst hm;obtain rfl:=Q0 c;exact ⟨.inl J,_,J,wkA [] [] []⟩
theorem q114 (o : qp→qp→Option Int) (q1F : FuncId) (q1C : List DV) (q1Ok : ∀ (y : qp) (z : qp) (r : Int),o y z = some r→Pure Tryz.prog tab q1F ([.agg (Qg y),.agg (Qg z)] ++ q1C) (qd r)) (x : List qp) (j : Int) (g : Int) (r : Bool × List qp) (p : q8e o x j g = some r) : K8 Tryz.prog tab 191 [.hs 0 3 0 x.length,q9 j,q9 g,.d (.fn q1F q1C)] [(0,.dat 3 (x.map Qg))] 1 (ql r.1) [(0,.dat 3 (r.2.map Qg))] 1:=by
 unfold q8e at p;refine Ko Tryz.func191 J qi qi J<|qc<|qa J<|qx<|U J<|O _ J<|qa J<|q8<|qf<|qc<|qa J<|q8<|q7 p fun aa bl p=>?_;refine Qn (fun t=>.inl t = aa) (fun t=>⟨[],[(0,.dat 3 (t.map Qg))],1⟩) qe ?_ ?_
 ·refine Ql (q8f g o j) (fun f=>⟨[(0,.hs 0 3 0 f.2.2.length),(1,q9 j),(2,q9 g),(3,.d (.fn q1F q1C)),(9,q9 f.1),(10,q9 f.2.1)],[(0,.dat 3 (f.2.2.map Qg))],1⟩) _ aa bl (wkA [] [] []) ?_;intro f co k;unfold q8f at k;refine qf<|qc<|U J<|O _ J<|q8 ?_;refine qm J k (fun _ k=>?_) (fun _ k=>?_)
  ·refine qn<|qf<|q7 k fun bm a k=>?_;refine Qn (fun q=>.inl q = bm) (fun q=>⟨[(0,.hs 0 3 0 q.2.length),(1,q9 j),(2,q9 g),(3,.d (.fn q1F q1C)),(9,q9 q.1),(10,q9 f.2.1)],[(0,.dat 3 (q.2.map Qg))],1⟩) qe ?_ ?_
   ·refine qf<|q7 a fun ab bn a=>?_;refine Qn (fun l=>l = ab) (fun l=>⟨[(0,.hs 0 3 0 f.2.2.length),(1,q9 j),(2,q9 g),(3,.d (.fn q1F q1C)),(9,q9 l),(10,q9 f.2.1)],[(0,.dat 3 (f.2.2.map Qg))],1⟩) qe ?_ ?_
    ·refine Ql (qbg g f o) (fun ac=>⟨[(0,.hs 0 3 0 f.2.2.length),(1,q9 j),(2,q9 g),(3,.d (.fn q1F q1C)),(9,q9 ac),(10,q9 f.2.1)],[(0,.dat 3 (f.2.2.map Qg))],1⟩) _ ab bn (wkA [] [] []) ?_;intro ac cp m;unfold qbg at m;refine qf<|qf<|Qk [q6,q6,q6,q6,Q2 0,q6,q6,q6,q6,Q2 0,q6,q6,q6,q6,q6,q6,q6,q6] qi<|U J<|U J<|O _ J<|q7 m fun bo h m=>?_;refine Q9 15 (fun A st=>∃ ad ae af ag ah ai aj ak al am an ao ap aq,st = A [(36,ql bo),(35,aq),(34,ap),(33,ao),(32,an),(31,am),(30,al),(29,ak),(28,aj),(27,ai),(26,ah),(25,ag),(24,af),(23,ae),(22,ad)]) ?_ ?_
     ·refine Qa J J h (fun h=>?_) (fun h=>?_)
      ·refine U J<|U J<|U J<|q7 h fun bp ar h=>Q5 ar J J<|Qi _ ar J<|U J<|U J<|O _ J<|q7 h fun bq au h=>Q5 au J J<|Qi _ au J<|q7 h fun br bs h=>Za _ (q1Ok bp bq br bs) J J J (.inl J)<|O _ J<|O _ J<|O _ J<|q8 ?_;cases h;exact ⟨_,_,_,_,_,_,_,_,_,_,_,_,_,_,J⟩
      refine qb J<|qb J<|qb J<|qb J<|qb J<|qb J<|qb J<|qb J<|qb J<|qb J<|qb J<|qb J<|qb J<|O _ J<|q8 ?_;cases h;exact ⟨_,_,_,_,_,_,_,_,_,_,_,_,_,_,J⟩
     rintro _ ⟨ad,ae,af,ag,ah,ai,aj,ak,al,am,an,ao,ap,aq,rfl⟩;refine q8 ?_;refine qm J m (fun _ m=>?_) (fun _ m=>?_)
     ·refine qn<|Qc<|Q6<|U J<|O _ J<|qa J<|Q4<|Qs<|Qo<|⟨_,qt m,wkA [] [] []⟩
     refine Qf ?_;refine ⟨_,qt m,fun hm=>?_⟩;subst hm;exact ⟨_,J,wkA [] [] []⟩
    intro l hb;subst hb;refine qf<|qc<|U J<|U J<|O _ J<|q8 ?_;refine qm J a (fun _ a=>?_) (fun _ a=>?_)
    ·refine qc<|qa J<|qw ?_;obtain rfl:=Q0 a;refine ⟨_,qt k,fun hm=>?_⟩;subst hm;obtain rfl:=Q0 p;exact ⟨.inr J,_,J,wkA [] [] []⟩
    refine qn<|qf<|qc<|U J<|U J<|O _ J<|O _ J<|q8 ?_;refine qm J a (fun _ a=>?_) (fun _ a=>?_)
    ·refine qc<|qa J<|qw ?_;obtain rfl:=Q0 a;refine ⟨_,qt k,fun hm=>?_⟩;subst hm;obtain rfl:=Q0 p;exact ⟨.inr J,_,J,wkA [] [] []⟩
    refine qn<|qf<|Qk [Qv 0,q6,Qv 0,q6,Q2 0,q6,q6,q6,Q2 0,q6,q6,q6,q6,q6,q6,q6,q6,q6] qi<|U J<|U J<|U J<|U J<|O _ J<|U J<|U J<|O _ J<|q7 a fun bt av a=>Q5 av J J<|Qi _ av J<|U J<|U J<|q7 a fun bu aw a=>Q5 aw J J<|Qi _ aw J<|q7 a fun cq ax a=>Q5 ax J J<|K2 bt ax J J J J J J J J (leb J) J<|q7 a fun cr ay a=>Q5 ay qe J<|K2 bu ay J J J J J J J J (leb J) J<|q8<|qf<|qc<|U J<|U J<|O _ J<|O _ J<|q8<|q7 a fun bv n a=>?_;refine Y9 (fun s=>s = bv) (fun s=>⟨[(0,.hs 0 3 0 s.length),(1,q9 j),(2,q9 g),(3,.d (.fn q1F q1C)),(9,q9 l),(10,q9 f.2.1)],[(0,.dat 3 (s.map Qg))],1⟩) qe ?_ ?_
    ·refine qm J n (fun _ n=>?_) (fun _ n=>?_)
     ·refine qc<|U J<|O _ J<|qa J<|q8<|q7 n fun bw bz n=>Qc<|Ql (qbh o) (fun u=>⟨[(0,.hs 0 3 0 u.2.length),(1,q9 j),(2,q9 g),(3,.d (.fn q1F q1C)),(9,q9 l),(10,q9 f.2.1),(11,q9 u.1)],[(0,.dat 3 (u.2.map Qg))],1⟩) _ bw bz (wkE [] [] [] J ⟨⟨_,J,K5 qe J qr (ltd J)⟩,qo J,qo J,qo J,qo J,qo J,qo J,trivial⟩ ⟨Qp J J,trivial⟩) ?_;intro u cs b;unfold qbh at b;refine qf<|qc<|U J<|O _ J<|q8 ?_;refine qm J b (fun _ b=>?_) (fun _ b=>?_)
      ·refine qn<|qf<|Qc<|qf<|qf<|Qk [q6,q6,q6,Q2 0,q6,q6,q6,q6,Q2 0,q6,q6,q6,q6] qi<|U J<|U J<|U J<|q7 b fun ca az b=>Q5 az J J<|Qi _ az J<|U J<|U J<|O _ J<|q7 b fun cb ba b=>Q5 ba J J<|Qi _ ba J<|q7 b fun cc cd b=>Za _ (q1Ok ca cb cc cd) J J J (.inl J)<|O _ J<|O _ J<|q8 ?_;refine qm J b (fun _ b=>?_) (fun _ b=>?_)
       ·refine Qf ?_;refine ⟨_,qt b,fun hm=>?_⟩;subst hm;obtain rfl:=Q0 n;exact ⟨_,J,wkA [] [] []⟩
       refine qn<|Qk [Qv 0,q6,Qv 0,q6,Q2 0,q6,q6,q6,Q2 0,q6,q6,q6,q6,q6,q6,q6,q6,q6] qi<|U J<|U J<|U J<|U J<|O _ J<|U J<|U J<|O _ J<|q7 b fun ce bb b=>Q5 bb J J<|Qi _ bb J<|U J<|U J<|q7 b fun cf bc b=>Q5 bc J J<|Qi _ bc J<|q7 b fun ct bd b=>Q5 bd J J<|K2 ce bd J J J J J J J J (leb J) J<|q7 b fun cu be b=>Q5 be qe J<|K2 cf be J J J J J J J J (leb J) J<|Q4<|Qs<|Q6<|U J<|O _ J<|qa J<|Q4<|⟨_,qt b,wkE [] [] [] J ⟨⟨_,J,K5 qe J qr (ltd J)⟩,qo J,qo J,qo J,qo J,qo J,qo J,trivial⟩ ⟨Qp J J,trivial⟩⟩
      refine Qf ?_;refine ⟨_,qt b,fun hm=>?_⟩;subst hm;obtain rfl:=Q0 n;exact ⟨_,J,wkA [] [] []⟩
     refine qn<|Qo ?_;obtain rfl:=Q0 n;exact ⟨_,J,wkE [] [] [] J ⟨⟨_,J,K5 qe J qr (ltd J)⟩,qo J,qo J,qo J,qo J,qo J,trivial⟩ ⟨Qp J J,trivial⟩⟩
    intro s hb;subst hb;refine qc<|U J<|U J<|O _ J<|O _ J<|q8 ?_;refine qm J a (fun _ a=>?_) (fun _ a=>?_)
    ·refine qc<|U J<|O _ J<|qa J<|q8<|q7 a fun cg ch a=>Qc<|Ql (qbi g o l) (fun v=>⟨[(0,.hs 0 3 0 v.2.length),(1,q9 j),(2,q9 g),(3,.d (.fn q1F q1C)),(9,q9 l),(10,q9 f.2.1),(12,q9 v.1)],[(0,.dat 3 (v.2.map Qg))],1⟩) _ cg ch (wkA [] [] []) ?_;intro v cv c;unfold qbi at c;refine qf<|qc<|U J<|U J<|O _ J<|q8 ?_;refine qm J c (fun _ c=>?_) (fun _ c=>?_)
     ·refine qn<|qf<|Qc<|qf<|qf<|Qk [q6,q6,q6,Q2 0,q6,q6,q6,q6,Q2 0,q6,q6,q6,q6] qi<|U J<|U J<|U J<|q7 c fun ci bf c=>Q5 bf J J<|Qi _ bf J<|U J<|U J<|O _ J<|q7 c fun cj bg c=>Q5 bg J J<|Qi _ bg J<|q7 c fun ck cl c=>Za _ (q1Ok ci cj ck cl) J J J (.inl J)<|O _ J<|O _ J<|q8 ?_;refine qm J c (fun _ c=>?_) (fun _ c=>?_)
      ·refine Qf ?_;refine ⟨_,qt c,fun hm=>?_⟩;subst hm;obtain rfl:=Q0 a;exact ⟨_,J,wkA [] [] []⟩
      refine qn<|Qk [Qv 0,q6,Qv 0,q6,Q2 0,q6,q6,q6,Q2 0,q6,q6,q6,q6,q6,q6,q6,q6,q6] qi<|U J<|U J<|U J<|U J<|O _ J<|U J<|U J<|O _ J<|q7 c fun cm bh c=>Q5 bh J J<|Qi _ bh J<|U J<|U J<|q7 c fun cn bi c=>Q5 bi J J<|Qi _ bi J<|q7 c fun cw bj c=>Q5 bj J J<|K2 cm bj J J J J J J J J (leb J) J<|q7 c fun cx bk c=>Q5 bk qe J<|K2 cn bk J J J J J J J J (leb J) J<|Q4<|Qs<|Q6<|U J<|O _ J<|qa J<|Q4<|⟨_,qt c,wkE [] [] [] J ⟨⟨_,J,K5 qe J qr (ltd J)⟩,qo J,qo J,qo J,qo J,qo J,qo J,trivial⟩ ⟨Qp J J,trivial⟩⟩
     refine Qf ?_;refine ⟨_,qt c,fun hm=>?_⟩;subst hm;obtain rfl:=Q0 a;exact ⟨_,J,wkA [] [] []⟩
    refine qn<|Qo ?_;obtain rfl:=Q0 a;exact ⟨_,J,wkA [] [] []⟩
   intro q hb;subst hb;refine Q6<|U J<|O _ J<|qa J<|Q4<|⟨_,qt k,wkA [] [] []⟩
  refine Qf ?_;refine ⟨_,qt k,fun hm=>?_⟩;subst hm;exact ⟨_,J,wkA [] [] []⟩
 intro t hb;subst hb;refine qc<|qa J<|qw ?_;obtain rfl:=Q0 p;exact ⟨.inr J,_,J,wkA [] [] []⟩
end Go.Proofs.YtmnfbjlabfeneaaGreat
