/- W_Allc -/
import Derived.Test.YtmnfbjlabfeneaaGreatK17
namespace Go.Proofs.YtmnfbjlabfeneaaGreat
open Go Go.Am Go.Sh
set_option maxHeartbeats 8000000
set_option maxRecDepth 100000
theorem qqf (c : List qf) (b : qh) (d : qh) (f : qh) (r : Bool) (a : q8o c b d f = some r) : Pure Tryz.prog tab 44 [.sl 6 (c.map Q6),.agg (Qs b),.agg (Qs d),.agg (Qs f)] (.bool r):=by
 unfold q8o at a;refine Qk Tryz.func44 J qi qi J<|qc<|Qj _ _ J<|Qj _ _ J<|Qj _ _ J<|qa J<|q8<|qg<|qc<|O _ J<|O _ J<|O _ J<|O _ J<|O _ J<|O _ J<|O _ J<|O _ J<|O _ J<|O _ J<|O _ J<|O _ J<|O _ J<|O _ J<|O _ J<|O _ J<|O _ J<|O _ J<|q8 ?_;refine qn J a (fun _ a=>?_) (fun _ a=>?_)
 ·refine qc<|qa J<|qu ?_;cases a;exact Q7 _ J
 refine qp<|qg<|Qi [Qt 3,(some [],[3]),q6,q6,qx 1,q6,q6,qx 0,qx 0] qi<|O _ J<|O _ J<|q7 a fun g k a=>Q1 (qbq b b g k) J<|O _ J<|O _ J<|q7 a fun h l a=>Q1 (qbq ({X:=1,Y:=1,Z:=1} : qh) d h l) J<|q7 a fun j m a=>Q1 (qbq g h j m) J<|Qr J J<|Qd 3 _ J<|qt<|O _ J<|O _ J<|O _ J<|U J<|q7 a fun n o a=>Q1 (qqg ({p_:=j,d_:=f} : Yw) c n o) J<|qa J<|qu ?_;cases a;exact Q7 _ J
theorem qqa (f : List qf) (g : qh) (k : Int) (h : qh) (r : Bool × Int) (a : q3r f g k h = some r) : Pure Tryz.prog tab 13 [.sl 6 (f.map Q6),.agg (Qs g),.int .u8 k,.agg (Qs h)] (.tup [.bool r.1,qd r.2]):=by
 unfold q3r at a;refine Qk Tryz.func13 J qi qi J<|qc<|Qj _ _ J<|Qj _ _ J<|qa J<|qa J<|q8<|qg<|qc<|U J<|O _ J<|q7 a fun t u a=>Q1 (qek f h t u) J<|qa J<|qt<|U J<|O _ J<|q8 ?_;refine qn J a (fun _ a=>?_) (fun _ a=>?_)
 ·refine qc<|U J<|qa J<|qa J<|qu ?_;cases a;exact Q7 _ J
 refine qp<|qg<|qc<|U J<|O _ J<|q8 ?_;refine qn J a (fun _ a=>?_) (fun _ a=>?_)
 ·refine qc<|qa J<|qa J<|qu ?_;cases a;exact Q7 _ J
 refine qp<|qc<|q7 a fun c v a=>Q1 (qqi c v) J<|U J<|q7 a fun j x a=>qd6 (enc:=Qs) [c.1,c.2.1,c.2.2.1,c.2.2.2.1,c.2.2.2.2.1,c.2.2.2.2.2] (.d (.agg (Qs j))) x (fun _=>rfl) J J J J J J<|Qr J J<|Qd 2 _ J<|q8<|qg<|qc<|U J<|O _ J<|q7 a fun y z a=>Q1 (qi7 f g y z) J<|O _ J<|q7 a fun aa b a=>?_;refine Q9 7 (fun A st=>∃ l m n o p q,st = A [(33,Q2 aa),(32,q),(31,p),(30,o),(29,n),(28,m),(27,l)]) ?_ ?_
 ·refine Qa J J b (fun b=>?_) (fun b=>?_)
  ·refine qb J<|qb J<|qb J<|qb J<|qb J<|O _ J<|q8 ?_;cases b;exact ⟨_,_,_,_,_,_,J⟩
  refine U J<|O _ J<|O _ J<|q7 b fun s ab b=>Q1 (qbq g j s ab) J<|q7 b fun ac ad b=>Q1 (qi7 f s ac ad) J<|O _ J<|q8 ?_;cases b;exact ⟨_,_,_,_,_,_,J⟩
 rintro _ ⟨l,m,n,o,p,q,rfl⟩;refine q8 ?_;refine qn J a (fun _ a=>?_) (fun _ a=>?_)
 ·refine qc<|qa J<|qa J<|qu ?_;cases a;exact Q7 _ J
 refine qp<|qc<|U J<|O _ J<|O _ J<|O _ J<|q7 a fun ae af a=>Q1 (qqf f g j h ae af) J<|qa J<|qa J<|qu ?_;cases a;exact Q7 _ J
theorem qoc (h : qh) (j : Int) (r : Bool) (a : q6w h j = some r) : Pure Tryz.prog tab 129 [.agg (Qs h),qd j] (.bool r):=by
 unfold q6w at a;refine Qk Tryz.func129 J qi qi J<|qc<|Qj _ _ J<|qa J<|qt<|O _ J<|O _ J<|U J<|O _ J<|q7 a fun c1 b a=>?_;refine Q9 6 (fun A st=>∃ k l m n o,st = A [(14,Q2 c1),(13,o),(12,n),(11,m),(10,l),(9,k)]) ?_ ?_
 ·refine Qa J J b (fun b=>?_) (fun b=>?_)
  ·refine O _ J<|O _ J<|U J<|O _ J<|O _ J<|q8 ?_;cases b;exact ⟨_,_,_,_,_,J⟩
  refine qb J<|qb J<|qb J<|qb J<|O _ J<|q8 ?_;cases b;exact ⟨_,_,_,_,_,J⟩
 rintro _ ⟨k,l,m,n,o,rfl⟩;refine q7 a fun c8 c a=>?_;refine Q9 6 (fun A st=>∃ p q s t u,st = A [(20,Q2 c8),(19,u),(18,t),(17,s),(16,q),(15,p)]) ?_ ?_
 ·refine Qa J J c (fun c=>?_) (fun c=>?_)
  ·refine O _ J<|O _ J<|U J<|O _ J<|O _ J<|q8 ?_;cases c;exact ⟨_,_,_,_,_,J⟩
  refine qb J<|qb J<|qb J<|qb J<|O _ J<|q8 ?_;cases c;exact ⟨_,_,_,_,_,J⟩
 rintro _ ⟨p,q,s,t,u,rfl⟩;refine q7 a fun ak d a=>?_;refine Q9 5 (fun A st=>∃ v x y z,st = A [(25,Q2 ak),(24,z),(23,y),(22,x),(21,v)]) ?_ ?_
 ·refine Qa J J d (fun d=>?_) (fun d=>?_)
  ·refine O _ J<|O _ J<|O _ J<|O _ J<|q8 ?_;cases d;exact ⟨_,_,_,_,J⟩
  refine qb J<|qb J<|qb J<|O _ J<|q8 ?_;cases d;exact ⟨_,_,_,_,J⟩
 rintro _ ⟨v,x,y,z,rfl⟩;refine q7 a fun al f a=>?_;refine Q9 5 (fun A st=>∃ aa ab ac ad,st = A [(30,Q2 al),(29,ad),(28,ac),(27,ab),(26,aa)]) ?_ ?_
 ·refine Qa J J f (fun f=>?_) (fun f=>?_)
  ·refine O _ J<|O _ J<|O _ J<|O _ J<|q8 ?_;cases f;exact ⟨_,_,_,_,J⟩
  refine qb J<|qb J<|qb J<|O _ J<|q8 ?_;cases f;exact ⟨_,_,_,_,J⟩
 rintro _ ⟨aa,ab,ac,ad,rfl⟩;refine q7 a fun am g a=>?_;refine Q9 5 (fun A st=>∃ ae af ag ah,st = A [(35,Q2 am),(34,ah),(33,ag),(32,af),(31,ae)]) ?_ ?_
 ·refine Qa J J g (fun g=>?_) (fun g=>?_)
  ·refine O _ J<|O _ J<|O _ J<|O _ J<|q8 ?_;cases g;exact ⟨_,_,_,_,J⟩
  refine qb J<|qb J<|qb J<|O _ J<|q8 ?_;cases g;exact ⟨_,_,_,_,J⟩
 rintro _ ⟨ae,af,ag,ah,rfl⟩;refine qa J<|qu ?_;cases a;exact Q7 _ J
theorem qzh (g : qf) (r : Bool) (a : q9w g = some r) : Pure Tryz.prog tab 112 [.agg (Q6 g)] (.bool r):=by
 unfold q9w at a;refine Qk Tryz.func112 J qi qi J<|qc<|Qj _ _ J<|qa J<|qt<|O _ J<|O _ J<|q7 a fun r1 h2 a=>Q1 (qoc g.Lo (-1000000) r1 h2) J<|q7 a fun c5 b a=>?_;refine Q9 5 (fun A st=>∃ h j k l,st = A [(11,Q2 c5),(10,l),(9,k),(8,j),(7,h)]) ?_ ?_
 ·refine Qa J J b (fun b=>?_) (fun b=>?_)
  ·refine O _ J<|O _ J<|q7 b fun ap aq b=>Q1 (qoc g.Hi (-1000000) ap aq) J<|O _ J<|q8 ?_;cases b;exact ⟨_,_,_,_,J⟩
  refine qb J<|qb J<|qb J<|O _ J<|q8 ?_;cases b;exact ⟨_,_,_,_,J⟩
 rintro _ ⟨h,j,k,l,rfl⟩;refine qa J<|qt<|U J<|q7 a fun ar c a=>?_;refine Q9 9 (fun A st=>∃ m n o p q s t u,st = A [(21,Q2 ar),(20,u),(19,t),(18,s),(17,q),(16,p),(15,o),(14,n),(13,m)]) ?_ ?_
 ·refine Qa J J c (fun c=>?_) (fun c=>?_)
  ·refine O _ J<|O _ J<|O _ J<|O _ J<|O _ J<|O _ J<|O _ J<|O _ J<|q8 ?_;cases c;exact ⟨_,_,_,_,_,_,_,_,J⟩
  refine qb J<|qb J<|qb J<|qb J<|qb J<|qb J<|qb J<|O _ J<|q8 ?_;cases c;exact ⟨_,_,_,_,_,_,_,_,J⟩
 rintro _ ⟨m,n,o,p,q,s,t,u,rfl⟩;refine q7 a fun au d a=>?_;refine Q9 9 (fun A st=>∃ v x y z aa ab ac ad,st = A [(30,Q2 au),(29,ad),(28,ac),(27,ab),(26,aa),(25,z),(24,y),(23,x),(22,v)]) ?_ ?_
 ·refine Qa J J d (fun d=>?_) (fun d=>?_)
  ·refine O _ J<|O _ J<|O _ J<|O _ J<|O _ J<|O _ J<|O _ J<|O _ J<|q8 ?_;cases d;exact ⟨_,_,_,_,_,_,_,_,J⟩
  refine qb J<|qb J<|qb J<|qb J<|qb J<|qb J<|qb J<|O _ J<|q8 ?_;cases d;exact ⟨_,_,_,_,_,_,_,_,J⟩
 rintro _ ⟨v,x,y,z,aa,ab,ac,ad,rfl⟩;refine q7 a fun av f a=>?_;refine Q9 9 (fun A st=>∃ ae af ag ah ai aj ak al,st = A [(39,Q2 av),(38,al),(37,ak),(36,aj),(35,ai),(34,ah),(33,ag),(32,af),(31,ae)]) ?_ ?_
 ·refine Qa J J f (fun f=>?_) (fun f=>?_)
  ·refine O _ J<|O _ J<|O _ J<|O _ J<|O _ J<|O _ J<|O _ J<|O _ J<|q8 ?_;cases f;exact ⟨_,_,_,_,_,_,_,_,J⟩
  refine qb J<|qb J<|qb J<|qb J<|qb J<|qb J<|qb J<|O _ J<|q8 ?_;cases f;exact ⟨_,_,_,_,_,_,_,_,J⟩
 rintro _ ⟨ae,af,ag,ah,ai,aj,ak,al,rfl⟩;refine qa J<|qu ?_;cases a;exact Q7 _ J
theorem qhd (g : List Int) (r : List Int) (n : U8 g = some r) : Pure Tryz.prog tab 115 [.sl 1 (g.map (eI .i64))] (.sl 1 (r.map (eI .i64))):=by
 unfold U8 at n;refine Qk Tryz.func115 J qi qi J<|qc<|qa J<|qt<|qa J<|q8<|qg<|qc<|qa J<|q8<|q7 n fun s bb n=>?_;refine Qo (fun l=>l = s) (fun l=>⟨[(3,.hs 0 1 0 l.length)],[(0,.dat 1 (l.map (eI .i64)))],1⟩) qe ?_ ?_
 ·refine Qm (q4n g) (fun b=>⟨[(0,.d (.sl 1 (g.map (eI .i64)))),(3,.hs 0 1 0 b.2.length),(4,q9 b.1)],[(0,.dat 1 (b.2.map (eI .i64)))],1⟩) _ s bb (wkA [] [] [0]) ?_;intro b bk h;unfold q4n at h;refine qg<|qc<|U J<|U J<|Qx J<|O _ J<|q8 ?_;refine qn J h (fun _ h=>?_) (fun _ h=>?_)
  ·refine qp<|qg<|q7 h fun bc a h=>?_;refine Qo (fun m=>m = bc) (fun m=>⟨[(0,.d (.sl 1 (g.map (eI .i64)))),(3,.hs 0 1 0 m.length),(4,q9 b.1)],[(0,.dat 1 (m.map (eI .i64)))],1⟩) qe ?_ ?_
   ·refine qc<|U J<|O _ J<|qa J<|q8<|qg<|q7 a fun t bd a=>?_;refine Qo (fun o=>o = t) (fun o=>⟨[(0,.d (.sl 1 (g.map (eI .i64)))),(3,.hs 0 1 0 b.2.length),(4,q9 b.1),(5,q9 o)],[(0,.dat 1 (b.2.map (eI .i64)))],1⟩) qe ?_ ?_
    ·refine Qm (q4o b g) (fun u=>⟨[(0,.d (.sl 1 (g.map (eI .i64)))),(3,.hs 0 1 0 b.2.length),(4,q9 b.1),(5,q9 u)],[(0,.dat 1 (b.2.map (eI .i64)))],1⟩) _ t bd (wkA [(0,0)] [] []) ?_;intro u bl j;unfold q4o at j;refine qg<|qg<|Qi [q6,q6,q6,q6,q6,q6,qx 0,q6,q6,q6,q6,q6,q6,q6] qi<|U J<|O _ J<|q7 j fun be c j=>?_;refine Q9 12 (fun A st=>∃ v x y z aa ab ac ad ae af ag,st = A [(27,Q2 be),(26,ag),(25,af),(24,ae),(23,ad),(22,ac),(21,ab),(20,aa),(19,z),(18,y),(17,x),(16,v)]) ?_ ?_
     ·refine Qa J J c (fun c=>?_) (fun c=>?_)
      ·refine U J<|U J<|O _ J<|q7 c fun bm ah c=>Q0 ah J J<|Qf _ ah J<|U J<|U J<|q7 c fun bn bf c=>Qn bf J<|O _ J<|O _ J<|O _ J<|q8 ?_;cases c;exact ⟨_,_,_,_,_,_,_,_,_,_,_,J⟩
      refine qb J<|qb J<|qb J<|qb J<|qb J<|qb J<|qb J<|qb J<|qb J<|qb J<|O _ J<|q8 ?_;cases c;exact ⟨_,_,_,_,_,_,_,_,_,_,_,J⟩
     rintro _ ⟨v,x,y,z,aa,ab,ac,ad,ae,af,ag,rfl⟩;refine q8 ?_;refine qn J j (fun _ j=>?_) (fun _ j=>?_)
     ·refine qp<|Qc<|Q5<|U J<|O _ J<|qa J<|Q4<|Qp<|Ql<|⟨_,qr j,wkA [(0,0)] [] []⟩
     refine Qh ?_;refine ⟨_,qr j,fun hm=>?_⟩;subst hm;exact ⟨_,J,wkA [(0,0)] [] []⟩
    intro o hb;subst hb;refine qg<|qg<|Qi [q6,q6,q6,q6,q6,q6,qx 0,q6,q6,q6,q6,q6,q6,q6] qi<|U J<|O _ J<|q7 a fun bg f a=>?_;refine Q9 12 (fun A st=>∃ ai aj ak al am an ao ap aq ar au,st = A [(43,Q2 bg),(42,au),(41,ar),(40,aq),(39,ap),(38,ao),(37,an),(36,am),(35,al),(34,ak),(33,aj),(32,ai)]) ?_ ?_
    ·refine Qa J J f (fun f=>?_) (fun f=>?_)
     ·refine U J<|U J<|O _ J<|q7 f fun bo av f=>Q0 av J J<|Qf _ av J<|U J<|U J<|q7 f fun bp bh f=>Qn bh J<|O _ J<|O _ J<|O _ J<|q8 ?_;cases f;exact ⟨_,_,_,_,_,_,_,_,_,_,_,J⟩
     refine qb J<|qb J<|qb J<|qb J<|qb J<|qb J<|qb J<|qb J<|qb J<|qb J<|O _ J<|q8 ?_;cases f;exact ⟨_,_,_,_,_,_,_,_,_,_,_,J⟩
    rintro _ ⟨ai,aj,ak,al,am,an,ao,ap,aq,ar,au,rfl⟩;refine q8 ?_;refine qn J a (fun _ a=>?_) (fun _ a=>?_)
    ·refine Qh ?_;obtain rfl:=qw a;exact ⟨_,J,wkA [(0,0)] [] []⟩
    refine qp<|qc<|U J<|Qj _ _ J<|q7 a fun p bi a=>Yh _ bi J J J J J J J (Yf J J) J J J J<|qa J<|q8<|qg<|Qi [Qt 2,q6,q6,q6,q6,q6,q6,q6] qi<|U J<|U J<|O _ J<|q7 a fun aw q a=>q9l q J J J J J (q5z J) (fun _=>rfl)<|U J<|U J<|q7 a fun k ax a=>q9l ax J J J J J (q5z J) (fun _=>rfl)<|qx6 (w:=aw) (xs:=p) (ys:=(p.drop k.1).take k.2) (enc:=(eI .i64)) (.hs 2 1 k.1 k.2) (qbk q) J J J J J J (qtf (qbk ax) J) J J J J ?_;have ay:=@qkc _ p ((p.drop k.1).take k.2) aw (qbk q);refine q8<|Q5<|U J<|U J<|U J<|U J<|q7 a fun az bj a=>Qn bj J<|O _ J<|q7 a fun bq ba a=>Q0 ba (by simp [ay]) J<|Qz (ds:=[qd az]) az ba J J J J J J J J (leb J) J<|Q4 ?_;obtain rfl:=qw a;exact ⟨_,J,wkE [(0,2)] [] [] J ⟨qm J,⟨_,J,K3 (by simp [ay]) J Q3 (ltd J)⟩,qm J,trivial⟩ ⟨Qq J J,trivial⟩⟩
   intro m hb;subst hb;refine Q5<|U J<|O _ J<|qa J<|Q4<|⟨_,qr h,wkA [(0,0)] [] []⟩
  refine Qh ?_;refine ⟨_,qr h,fun hm=>?_⟩;subst hm;exact ⟨_,J,wkA [(0,0)] [] []⟩
 intro l hb;subst hb;refine qc<|U J<|qa J<|qu ?_;obtain rfl:=qw n;exact finD (.inr J) J (Jb J J) (.refl _)
theorem qzb (j : List qf) (g : List qf) (r : List Int) (c : q9v j g = some r) : Pure Tryz.prog tab 130 [.sl 6 (j.map Q6),.sl 6 (g.map Q6)] (.sl 1 (r.map (eI .i64))):=by
 unfold q9v at c;refine Qk Tryz.func130 J qi qi J<|qc<|qa J<|qt<|qa J<|q8<|qg<|qc<|qa J<|q8<|q7 c fun m o c=>?_;refine Qo (fun h=>h = m) (fun h=>⟨[(1,.d (.sl 6 (g.map Q6))),(5,.hs 0 1 0 h.length)],[(0,.dat 1 (h.map (eI .i64)))],1⟩) qe ?_ ?_
 ·refine Qm (q4w j) (fun k=>⟨[(0,.d (.sl 6 (j.map Q6))),(1,.d (.sl 6 (g.map Q6))),(5,.hs 0 1 0 k.2.length),(6,q9 k.1)],[(0,.dat 1 (k.2.map (eI .i64)))],1⟩) _ m o (wkA [] [] [0]) ?_;intro k aa a;unfold q4w at a;refine qg<|qc<|U J<|U J<|Qx J<|O _ J<|q8 ?_;refine qn J a (fun _ a=>?_) (fun _ a=>?_)
  ·refine qp<|qg<|Qc<|Qi [q6,(some [0,1],[0,2]),(some [],[1]),q6,q6,q6,q6,q6,q6,q6,q6,q6,q6,q6,q6,q6] qi<|U J<|U J<|U J<|q7 a fun ab p a=>Qn p J<|O _ J<|O _ J<|O _ J<|U J<|U J<|q7 a fun ac q a=>Qn q J<|O _ J<|O _ J<|O _ J<|Qj _ _ J<|q7 a fun ad s a=>Yh _ s J J J J J J J (Yf J J) J J J J<|qa J<|Q4<|Qp<|Q5<|U J<|O _ J<|qa J<|Q4<|⟨_,qr a,wkA [(0,2)] [] []⟩
  refine Qh ?_;refine ⟨_,qr a,fun hm=>?_⟩;subst hm;exact ⟨_,J,wkA [(0,0)] [] []⟩
 intro h hb;subst hb;refine qg<|qc<|qa J<|q8<|q7 c fun n t c=>?_;refine Qo (fun f=>f = n) (fun f=>⟨[(5,.hs 0 1 0 f.length)],[(0,.dat 1 (f.map (eI .i64)))],1⟩) qe ?_ ?_
 ·refine Qm (q4x g) (fun l=>⟨[(1,.d (.sl 6 (g.map Q6))),(5,.hs 0 1 0 l.2.length),(7,q9 l.1)],[(0,.dat 1 (l.2.map (eI .i64)))],1⟩) _ n t (wkA [(0,0)] [] []) ?_;intro l ae b;unfold q4x at b;refine qg<|qc<|U J<|U J<|Qx J<|O _ J<|q8 ?_;refine qn J b (fun _ b=>?_) (fun _ b=>?_)
  ·refine qp<|qg<|Qc<|Qi [q6,(some [0,1],[0,2]),(some [],[1]),q6,q6,q6,q6,q6,q6,q6,q6,q6,q6,q6,q6,q6] qi<|U J<|U J<|U J<|q7 b fun af u b=>Qn u J<|O _ J<|O _ J<|O _ J<|U J<|U J<|q7 b fun ag v b=>Qn v J<|O _ J<|O _ J<|O _ J<|Qj _ _ J<|q7 b fun ah x b=>Yh _ x J J J J J J J (Yf J J) J J J J<|qa J<|Q4<|Qp<|Q5<|U J<|O _ J<|qa J<|Q4<|⟨_,qr b,wkA [(0,2)] [] []⟩
  refine Qh ?_;refine ⟨_,qr b,fun hm=>?_⟩;subst hm;exact ⟨_,J,wkA [(0,0)] [] []⟩
 intro f hb;subst hb;refine qg ?_;refine Za (st':=⟨[(5,.d (.sl 1 (f.map (eI .i64))))],[],0⟩) (wkA [] [0] []) ?_ qe;refine Q5<|U J<|q7 c fun y z c=>Q1 (qhd f y z) J<|qa J<|qu ?_;cases c;exact Q7 _ J
theorem qdn (f : List qf) (g : Int) (r : List ql) (l : U9 f g = some r) : Pure Tryz.prog tab 131 [.sl 6 (f.map Q6),qd g] (.sl 4 (r.map Qg)):=by
 unfold U9 at l;refine Qk Tryz.func131 J qi qi J<|qc<|qa J<|qt<|qa J<|q8<|qg<|qc<|qa J<|q8<|q7 l fun m y l=>?_;refine Qo (fun h=>h = m) (fun h=>⟨[(5,.hs 0 4 0 h.length)],[(0,.dat 4 (h.map Qg))],1⟩) qe ?_ ?_
 ·refine Qm (q6x f g) (fun j=>⟨[(0,.d (.sl 6 (f.map Q6))),(1,q9 g),(5,.hs 0 4 0 j.2.length),(6,q9 j.1)],[(0,.dat 4 (j.2.map Qg))],1⟩) _ m y (wkA [] [] [0]) ?_;intro j ai b;unfold q6x at b;refine qg<|qc<|U J<|U J<|Qx J<|O _ J<|q8 ?_;refine qn J b (fun _ b=>?_) (fun _ b=>?_)
  ·refine qp<|qg<|q7 b fun z a b=>?_;refine Qo (fun k=>k = z) (fun k=>⟨[(0,.d (.sl 6 (f.map Q6))),(1,q9 g),(5,.hs 0 4 0 k.length),(6,q9 j.1)],[(0,.dat 4 (k.map Qg))],1⟩) qe ?_ ?_
   ·refine qc<|U J<|U J<|q7 a fun aj aa a=>Qn aa J<|O _ J<|O _ J<|O _ J<|U J<|O _ J<|q7 a fun ab c a=>?_;refine Q9 10 (fun A st=>∃ n o p q s t u v x,st = A [(30,Q2 ab),(29,x),(28,v),(27,u),(26,t),(25,s),(24,q),(23,p),(22,o),(21,n)]) ?_ ?_
    ·refine Qa J J c (fun c=>?_) (fun c=>?_)
     ·refine U J<|U J<|U J<|q7 c fun ak ac c=>Qn ac J<|O _ J<|O _ J<|O _ J<|O _ J<|O _ J<|q8 ?_;cases c;exact ⟨_,_,_,_,_,_,_,_,_,J⟩
     refine qb J<|qb J<|qb J<|qb J<|qb J<|qb J<|qb J<|qb J<|O _ J<|q8 ?_;cases c;exact ⟨_,_,_,_,_,_,_,_,_,J⟩
    rintro _ ⟨n,o,p,q,s,t,u,v,x,rfl⟩;refine q8 ?_;refine qn J a (fun _ a=>?_) (fun _ a=>?_)
    ·refine Qi [q6,(some [0,1],[0,2]),(some [],[1]),q6,q6,q6,q6,q6,q6,q6,q6,q6,q6,q6,q6,q6,q6,q6,q6,q6,q6,q6,q6,q6,q6,q6,q6,q6,q6] qi<|U J<|U J<|U J<|q7 a fun al ad a=>Qn ad J<|O _ J<|O _ J<|O _ J<|U J<|U J<|q7 a fun am ae a=>Qn ae J<|O _ J<|O _ J<|O _ J<|U J<|U J<|q7 a fun an af a=>Qn af J<|O _ J<|O _ J<|O _ J<|U J<|U J<|q7 a fun ao ag a=>Qn ag J<|O _ J<|O _ J<|O _ J<|O _ J<|Qj _ _ J<|q7 a fun ap ah a=>Yh _ ah J J J J J J J (Yf J J) J J J J<|qa J<|Q4 ?_;obtain rfl:=qw a;exact ⟨_,J,wkA [(0,2)] [] []⟩
    refine qp<|Ql ?_;obtain rfl:=qw a;exact ⟨_,J,wkA [(0,0)] [] []⟩
   intro k hb;subst hb;refine Q5<|U J<|O _ J<|qa J<|Q4<|⟨_,qr b,wkA [(0,0)] [] []⟩
  refine Qh ?_;refine ⟨_,qr b,fun hm=>?_⟩;subst hm;exact ⟨_,J,wkA [(0,0)] [] []⟩
 intro h hb;subst hb;refine qc<|U J<|qa J<|qu ?_;obtain rfl:=qw l;exact finD (.inr J) J (Jb J J) (.refl _)
theorem qz0 (j : List ql) (g : List ql) (r : List Int) (c : q9q j g = some r) : Pure Tryz.prog tab 91 [.sl 4 (j.map Qg),.sl 4 (g.map Qg)] (.sl 1 (r.map (eI .i64))):=by
 unfold q9q at c;refine Qk Tryz.func91 J qi qi J<|qc<|qa J<|qt<|qa J<|q8<|qg<|qc<|qa J<|q8<|q7 c fun m o c=>?_;refine Qo (fun h=>h = m) (fun h=>⟨[(1,.d (.sl 4 (g.map Qg))),(5,.hs 0 1 0 h.length)],[(0,.dat 1 (h.map (eI .i64)))],1⟩) qe ?_ ?_
 ·refine Qm (q4r j) (fun k=>⟨[(0,.d (.sl 4 (j.map Qg))),(1,.d (.sl 4 (g.map Qg))),(5,.hs 0 1 0 k.2.length),(6,q9 k.1)],[(0,.dat 1 (k.2.map (eI .i64)))],1⟩) _ m o (wkA [] [] [0]) ?_;intro k aa a;unfold q4r at a;refine qg<|qc<|U J<|U J<|Qx J<|O _ J<|q8 ?_;refine qn J a (fun _ a=>?_) (fun _ a=>?_)
  ·refine qp<|qg<|Qc<|Qi [q6,(some [0,1],[0,2]),(some [],[1]),q6,q6,q6,q6,q6,q6,q6,q6,q6,q6,q6] qi<|U J<|U J<|U J<|q7 a fun ab p a=>Qn p J<|O _ J<|O _ J<|U J<|U J<|q7 a fun ac q a=>Qn q J<|O _ J<|O _ J<|Qj _ _ J<|q7 a fun ad s a=>Yh _ s J J J J J J J (Yf J J) J J J J<|qa J<|Q4<|Qp<|Q5<|U J<|O _ J<|qa J<|Q4<|⟨_,qr a,wkA [(0,2)] [] []⟩
  refine Qh ?_;refine ⟨_,qr a,fun hm=>?_⟩;subst hm;exact ⟨_,J,wkA [(0,0)] [] []⟩
 intro h hb;subst hb;refine qg<|qc<|qa J<|q8<|q7 c fun n t c=>?_;refine Qo (fun f=>f = n) (fun f=>⟨[(5,.hs 0 1 0 f.length)],[(0,.dat 1 (f.map (eI .i64)))],1⟩) qe ?_ ?_
 ·refine Qm (q4s g) (fun l=>⟨[(1,.d (.sl 4 (g.map Qg))),(5,.hs 0 1 0 l.2.length),(7,q9 l.1)],[(0,.dat 1 (l.2.map (eI .i64)))],1⟩) _ n t (wkA [(0,0)] [] []) ?_;intro l ae b;unfold q4s at b;refine qg<|qc<|U J<|U J<|Qx J<|O _ J<|q8 ?_;refine qn J b (fun _ b=>?_) (fun _ b=>?_)
  ·refine qp<|qg<|Qc<|Qi [q6,(some [0,1],[0,2]),(some [],[1]),q6,q6,q6,q6,q6,q6,q6,q6,q6,q6,q6] qi<|U J<|U J<|U J<|q7 b fun af u b=>Qn u J<|O _ J<|O _ J<|U J<|U J<|q7 b fun ag v b=>Qn v J<|O _ J<|O _ J<|Qj _ _ J<|q7 b fun ah x b=>Yh _ x J J J J J J J (Yf J J) J J J J<|qa J<|Q4<|Qp<|Q5<|U J<|O _ J<|qa J<|Q4<|⟨_,qr b,wkA [(0,2)] [] []⟩
  refine Qh ?_;refine ⟨_,qr b,fun hm=>?_⟩;subst hm;exact ⟨_,J,wkA [(0,0)] [] []⟩
 intro f hb;subst hb;refine qg ?_;refine Za (st':=⟨[(5,.d (.sl 1 (f.map (eI .i64))))],[],0⟩) (wkA [] [0] []) ?_ qe;refine Q5<|U J<|q7 c fun y z c=>Q1 (qhd f y z) J<|qa J<|qu ?_;cases c;exact Q7 _ J
theorem qz2 (j : List ql) (g : List ql) (r : List Int) (c : q9r j g = some r) : Pure Tryz.prog tab 92 [.sl 4 (j.map Qg),.sl 4 (g.map Qg)] (.sl 1 (r.map (eI .i64))):=by
 unfold q9r at c;refine Qk Tryz.func92 J qi qi J<|qc<|qa J<|qt<|qa J<|q8<|qg<|qc<|qa J<|q8<|q7 c fun m o c=>?_;refine Qo (fun h=>h = m) (fun h=>⟨[(1,.d (.sl 4 (g.map Qg))),(5,.hs 0 1 0 h.length)],[(0,.dat 1 (h.map (eI .i64)))],1⟩) qe ?_ ?_
 ·refine Qm (q4t j) (fun k=>⟨[(0,.d (.sl 4 (j.map Qg))),(1,.d (.sl 4 (g.map Qg))),(5,.hs 0 1 0 k.2.length),(6,q9 k.1)],[(0,.dat 1 (k.2.map (eI .i64)))],1⟩) _ m o (wkA [] [] [0]) ?_;intro k aa a;unfold q4t at a;refine qg<|qc<|U J<|U J<|Qx J<|O _ J<|q8 ?_;refine qn J a (fun _ a=>?_) (fun _ a=>?_)
  ·refine qp<|qg<|Qc<|Qi [q6,(some [0,1],[0,2]),(some [],[1]),q6,q6,q6,q6,q6,q6,q6,q6,q6,q6,q6] qi<|U J<|U J<|U J<|q7 a fun ab p a=>Qn p J<|O _ J<|O _ J<|U J<|U J<|q7 a fun ac q a=>Qn q J<|O _ J<|O _ J<|Qj _ _ J<|q7 a fun ad s a=>Yh _ s J J J J J J J (Yf J J) J J J J<|qa J<|Q4<|Qp<|Q5<|U J<|O _ J<|qa J<|Q4<|⟨_,qr a,wkA [(0,2)] [] []⟩
  refine Qh ?_;refine ⟨_,qr a,fun hm=>?_⟩;subst hm;exact ⟨_,J,wkA [(0,0)] [] []⟩
 intro h hb;subst hb;refine qg<|qc<|qa J<|q8<|q7 c fun n t c=>?_;refine Qo (fun f=>f = n) (fun f=>⟨[(5,.hs 0 1 0 f.length)],[(0,.dat 1 (f.map (eI .i64)))],1⟩) qe ?_ ?_
 ·refine Qm (q4u g) (fun l=>⟨[(1,.d (.sl 4 (g.map Qg))),(5,.hs 0 1 0 l.2.length),(7,q9 l.1)],[(0,.dat 1 (l.2.map (eI .i64)))],1⟩) _ n t (wkA [(0,0)] [] []) ?_;intro l ae b;unfold q4u at b;refine qg<|qc<|U J<|U J<|Qx J<|O _ J<|q8 ?_;refine qn J b (fun _ b=>?_) (fun _ b=>?_)
  ·refine qp<|qg<|Qc<|Qi [q6,(some [0,1],[0,2]),(some [],[1]),q6,q6,q6,q6,q6,q6,q6,q6,q6,q6,q6] qi<|U J<|U J<|U J<|q7 b fun af u b=>Qn u J<|O _ J<|O _ J<|U J<|U J<|q7 b fun ag v b=>Qn v J<|O _ J<|O _ J<|Qj _ _ J<|q7 b fun ah x b=>Yh _ x J J J J J J J (Yf J J) J J J J<|qa J<|Q4<|Qp<|Q5<|U J<|O _ J<|qa J<|Q4<|⟨_,qr b,wkA [(0,2)] [] []⟩
  refine Qh ?_;refine ⟨_,qr b,fun hm=>?_⟩;subst hm;exact ⟨_,J,wkA [(0,0)] [] []⟩
 intro f hb;subst hb;refine qg ?_;refine Za (st':=⟨[(5,.d (.sl 1 (f.map (eI .i64))))],[],0⟩) (wkA [] [0] []) ?_ qe;refine Q5<|U J<|q7 c fun y z c=>Q1 (qhd f y z) J<|qa J<|qu ?_;cases c;exact Q7 _ J
theorem qo9 (h : List ql) (j : Int) (k : Int) (r : Bool) (g : q6t h j k = some r) : Pure Tryz.prog tab 94 [.sl 4 (h.map Qg),qd j,qd k] (.bool r):=by
 unfold q6t at g;refine Qk Tryz.func94 J qi qi J<|qc<|qa J<|q8<|qg<|qc<|qa J<|q8<|q7 g fun m ao g=>?_;refine Qo (fun l=>.inl l = m) (fun l=>⟨[],[],0⟩) qe ?_ ?_
 ·refine Qm (q38 h j k) (fun n=>⟨[(0,.d (.sl 4 (h.map Qg))),(1,q9 j),(2,q9 k),(7,q9 n)],[],0⟩) _ m ao (wkA [] [] []) ?_;intro n ay a;unfold q38 at a;refine qg<|qc<|U J<|U J<|Qx J<|O _ J<|q8 ?_;refine qn J a (fun _ a=>?_) (fun _ a=>?_)
  ·refine qp<|qg<|Qc<|qc<|U J<|U J<|q7 a fun az ap a=>Qn ap J<|O _ J<|O _ J<|U J<|O _ J<|q7 a fun aq b a=>?_;refine Q9 9 (fun A st=>∃ o p q s t u v x,st = A [(29,Q2 aq),(28,x),(27,v),(26,u),(25,t),(24,s),(23,q),(22,p),(21,o)]) ?_ ?_
   ·refine Qa J J b (fun b=>?_) (fun b=>?_)
    ·refine U J<|U J<|U J<|q7 b fun ba ar b=>Qn ar J<|O _ J<|O _ J<|O _ J<|O _ J<|q8 ?_;cases b;exact ⟨_,_,_,_,_,_,_,_,J⟩
    refine qb J<|qb J<|qb J<|qb J<|qb J<|qb J<|qb J<|O _ J<|q8 ?_;cases b;exact ⟨_,_,_,_,_,_,_,_,J⟩
   rintro _ ⟨o,p,q,s,t,u,v,x,rfl⟩;refine q7 a fun au c a=>?_;refine Q9 9 (fun A st=>∃ y z aa ab ac ad ae af,st = A [(38,Q2 au),(37,af),(36,ae),(35,ad),(34,ac),(33,ab),(32,aa),(31,z),(30,y)]) ?_ ?_
   ·refine Qa J J c (fun c=>?_) (fun c=>?_)
    ·refine U J<|U J<|q7 c fun bb av c=>Qn av J<|O _ J<|O _ J<|U J<|O _ J<|O _ J<|q8 ?_;cases c;exact ⟨_,_,_,_,_,_,_,_,J⟩
    refine qb J<|qb J<|qb J<|qb J<|qb J<|qb J<|qb J<|O _ J<|q8 ?_;cases c;exact ⟨_,_,_,_,_,_,_,_,J⟩
   rintro _ ⟨y,z,aa,ab,ac,ad,ae,af,rfl⟩;refine q7 a fun aw f a=>?_;refine Q9 9 (fun A st=>∃ ag ah ai aj ak al am an,st = A [(47,Q2 aw),(46,an),(45,am),(44,al),(43,ak),(42,aj),(41,ai),(40,ah),(39,ag)]) ?_ ?_
   ·refine Qa J J f (fun f=>?_) (fun f=>?_)
    ·refine U J<|U J<|U J<|q7 f fun bc ax f=>Qn ax J<|O _ J<|O _ J<|O _ J<|O _ J<|q8 ?_;cases f;exact ⟨_,_,_,_,_,_,_,_,J⟩
    refine qb J<|qb J<|qb J<|qb J<|qb J<|qb J<|qb J<|O _ J<|q8 ?_;cases f;exact ⟨_,_,_,_,_,_,_,_,J⟩
   rintro _ ⟨ag,ah,ai,aj,ak,al,am,an,rfl⟩;refine q8 ?_;refine qn J a (fun _ a=>?_) (fun _ a=>?_)
   ·refine qc<|qa J<|qu ?_;refine ⟨_,qr a,fun hm=>?_⟩;subst hm;cases g;exact Q7 _ J
   refine qp<|Ql<|Qp<|Q5<|U J<|O _ J<|qa J<|Q4<|⟨_,qr a,wkA [] [] []⟩
  refine Qh ?_;refine ⟨_,qr a,fun hm=>?_⟩;subst hm;exact ⟨_,J,wkA [] [] []⟩
 intro l hb;subst hb;refine qc<|qa J<|qu ?_;cases g;exact Q7 _ J
theorem qyv (f : Int) (g : Bool) (h : Bool) (r : Bool) (a : q6r f g h = some r) : Pure Tryz.prog tab 93 [qd f,.bool g,.bool h] (.bool r):=by
 unfold q6r at a;refine Qk Tryz.func93 J qi qi J<|qc<|qa J<|q8<|qg<|qc<|U J<|O _ J<|q8 ?_;refine qn J a (fun _ a=>?_) (fun _ a=>?_)
 ·refine qc<|U J<|q7 a fun q b a=>?_;refine Q9 3 (fun A st=>∃ j k,st = A [(12,Q2 q),(11,k),(10,j)]) ?_ ?_
  ·refine Qa J J b (fun b=>?_) (fun b=>?_)
   ·refine U J<|O _ J<|q8 ?_;cases b;exact ⟨_,_,J⟩
   refine qb J<|O _ J<|q8 ?_;cases b;exact ⟨_,_,J⟩
  rintro _ ⟨j,k,rfl⟩;refine qa J<|qu ?_;cases a;exact Q7 _ J
 refine qp<|qg<|qc<|U J<|O _ J<|q8 ?_;refine qn J a (fun _ a=>?_) (fun _ a=>?_)
 ·refine qc<|U J<|q7 a fun s c a=>?_;refine Q9 3 (fun A st=>∃ l m,st = A [(18,Q2 s),(17,m),(16,l)]) ?_ ?_
  ·refine Qa J J c (fun c=>?_) (fun c=>?_)
   ·refine qb J<|O _ J<|q8 ?_;cases c;exact ⟨_,_,J⟩
   refine U J<|O _ J<|q8 ?_;cases c;exact ⟨_,_,J⟩
  rintro _ ⟨l,m,rfl⟩;refine qa J<|qu ?_;cases a;exact Q7 _ J
 refine qp<|qc<|U J<|q7 a fun t d a=>?_;refine Q9 4 (fun A st=>∃ n o p,st = A [(23,Q2 t),(22,p),(21,o),(20,n)]) ?_ ?_
 ·refine Qa J J d (fun d=>?_) (fun d=>?_)
  ·refine U J<|O _ J<|O _ J<|q8 ?_;cases d;exact ⟨_,_,_,J⟩
  refine qb J<|qb J<|O _ J<|q8 ?_;cases d;exact ⟨_,_,_,J⟩
 rintro _ ⟨n,o,p,rfl⟩;refine qa J<|qu ?_;cases a;exact Q7 _ J
theorem qyt (f : List Int) (g : List Bool) (r : List qo) (l : q4l f g = some r) : Pure Tryz.prog tab 95 [.sl 1 (f.map (eI .i64)),.sl 1 (g.map eB)] (.sl 2 (r.map Qv)):=by
 unfold q4l at l;refine Qk Tryz.func95 J qi qi J<|qc<|qa J<|qt<|qa J<|q8<|qg<|qc<|qa J<|q8<|q7 l fun m ae l=>?_;refine Qo (fun h=>h = m) (fun h=>⟨[(5,.hs 0 2 0 h.length)],[(0,.dat 2 (h.map Qv))],1⟩) qe ?_ ?_
 ·refine Qm (q4m f g) (fun j=>⟨[(0,.d (.sl 1 (f.map (eI .i64)))),(1,.d (.sl 1 (g.map eB))),(5,.hs 0 2 0 j.2.length),(6,q9 j.1)],[(0,.dat 2 (j.2.map Qv))],1⟩) _ m ae (wkA [] [] [0]) ?_;intro j ao c;unfold q4m at c;refine qg<|qc<|U J<|O _ J<|U J<|Qx J<|O _ J<|q8 ?_;refine qn J c (fun _ c=>?_) (fun _ c=>?_)
  ·refine qp<|qg<|q7 c fun af a c=>?_;refine Qo (fun k=>k = af) (fun k=>⟨[(0,.d (.sl 1 (f.map (eI .i64)))),(1,.d (.sl 1 (g.map eB))),(5,.hs 0 2 0 k.length),(6,q9 j.1)],[(0,.dat 2 (k.map Qv))],1⟩) qe ?_ ?_
   ·refine qg<|qc<|U J<|U J<|q7 a fun ap ag a=>Qn ag J<|O _ J<|O _ J<|q8 ?_;refine qn J a (fun _ a=>?_) (fun _ a=>?_)
    ·refine Qh ?_;obtain rfl:=qw a;exact ⟨_,J,wkA [(0,0)] [] []⟩
    refine qp<|qc<|U J<|O _ J<|qa J<|q8<|qg<|Qi [q6,q6,q6,q6,q6,q6,qx 0,q6,q6,q6,q6,q6,q6,q6,q6] qi<|U J<|O _ J<|q7 a fun ah b a=>?_;refine Q9 13 (fun A st=>∃ n o p q s t u v x y z aa,st = A [(36,Q2 ah),(35,aa),(34,z),(33,y),(32,x),(31,v),(30,u),(29,t),(28,s),(27,q),(26,p),(25,o),(24,n)]) ?_ ?_
    ·refine Qa J J b (fun b=>?_) (fun b=>?_)
     ·refine U J<|U J<|O _ J<|q7 b fun aq ab b=>Q0 ab J J<|O _ J<|Qf _ ab J<|U J<|U J<|q7 b fun ar ai b=>Qn ai J<|O _ J<|O _ J<|O _ J<|q8 ?_;cases b;exact ⟨_,_,_,_,_,_,_,_,_,_,_,_,J⟩
     refine qb J<|qb J<|qb J<|qb J<|qb J<|qb J<|qb J<|qb J<|qb J<|qb J<|qb J<|O _ J<|q8 ?_;cases b;exact ⟨_,_,_,_,_,_,_,_,_,_,_,_,J⟩
    rintro _ ⟨n,o,p,q,s,t,u,v,x,y,z,aa,rfl⟩;refine q8 ?_;refine qn J a (fun _ a=>?_) (fun _ a=>?_)
    ·refine Q5<|U J<|U J<|O _ J<|U J<|U J<|O _ J<|q7 a fun ac aj a=>Qn aj J<|O _ J<|q7 a fun ak ad a=>Q0 ad J J<|O _ J<|Qz (ds:=[qd ac]) ({Lo:=ak.Lo,Hi:=ac} : qo) ad J J J J J J J J (leb J) J<|Q4 ?_;obtain rfl:=qw a;exact ⟨_,J,wkE [(0,0)] [] [] J ⟨qm J,qm J,⟨_,J,K3 qe J Q3 (ltd J)⟩,qm J,trivial⟩ ⟨Qq J J,trivial⟩⟩
    refine Qi [q6,(some [0,1],[0,2]),(some [],[1]),q6,q6,q6,q6,q6,q6,q6,q6,q6,q6,q6] qi<|U J<|U J<|U J<|q7 a fun au al a=>Qn al J<|O _ J<|U J<|U J<|O _ J<|q7 a fun av am a=>Qn am J<|O _ J<|O _ J<|Qj _ _ J<|q7 a fun aw an a=>Yh _ an J J J J J J J (Yf J J) J J J J<|qa J<|Q4 ?_;obtain rfl:=qw a;exact ⟨_,J,wkA [(0,2)] [] []⟩
   intro k hb;subst hb;refine Q5<|U J<|O _ J<|qa J<|Q4<|⟨_,qr c,wkA [(0,0)] [] []⟩
  refine Qh ?_;refine ⟨_,qr c,fun hm=>?_⟩;subst hm;exact ⟨_,J,wkA [(0,0)] [] []⟩
 intro h hb;subst hb;refine qc<|U J<|qa J<|qu ?_;obtain rfl:=qw l;exact finD (.inr J) J (Jb J J) (.refl _)
theorem qyw (c : List qo) (f : List qo) (r : Bool) (b : q6s c f = some r) : Pure Tryz.prog tab 96 [.sl 2 (c.map Qv),.sl 2 (f.map Qv)] (.bool r):=by
 unfold q6s at b;refine Qk Tryz.func96 J qi qi J<|qc<|qa J<|q8<|qg<|qc<|U J<|Qx J<|U J<|Qx J<|O _ J<|q8 ?_;refine qn J b (fun _ b=>?_) (fun _ b=>?_)
 ·refine qc<|qa J<|qu ?_;cases b;exact Q7 _ J
 refine qp<|qg<|qc<|qa J<|q8<|q7 b fun h k b=>?_;refine Qo (fun g=>.inl g = h) (fun g=>⟨[],[],0⟩) qe ?_ ?_
 ·refine Qm (qdg c f) (fun j=>⟨[(0,.d (.sl 2 (c.map Qv))),(1,.d (.sl 2 (f.map Qv))),(5,q9 j)],[],0⟩) _ h k (wkA [] [] []) ?_;intro j n a;unfold qdg at a;refine qg<|qc<|U J<|U J<|Qx J<|O _ J<|q8 ?_;refine qn J a (fun _ a=>?_) (fun _ a=>?_)
  ·refine qp<|qg<|Qc<|qg<|Qi [q6,q6,q6,q6,q6,q6,q6,q6,q6] qi<|U J<|U J<|q7 a fun o l a=>Qn l J<|O _ J<|U J<|U J<|q7 a fun p m a=>Qn m J<|O _ J<|O _ J<|q8 ?_;refine qn J a (fun _ a=>?_) (fun _ a=>?_)
   ·refine qc<|qa J<|qu ?_;refine ⟨_,qr a,fun hm=>?_⟩;subst hm;cases b;exact Q7 _ J
   refine qp<|Ql<|Qp<|Q5<|U J<|O _ J<|qa J<|Q4<|⟨_,qr a,wkA [] [] []⟩
  refine Qh ?_;refine ⟨_,qr a,fun hm=>?_⟩;subst hm;exact ⟨_,J,wkA [] [] []⟩
 intro g hb;subst hb;refine qc<|qa J<|qu ?_;cases b;exact Q7 _ J
theorem qhe (j : Int) (f : List ql) (g : List ql) (r : List ql) (n : Jp j f g = some r) : Pure Tryz.prog tab 55 [qd j,.sl 4 (f.map Qg),.sl 4 (g.map Qg)] (.sl 4 (r.map Qg)):=by
 unfold Jp at n;refine Qk Tryz.func55 J qi qi J<|qc<|qa J<|qt<|U J<|U J<|q7 n fun k h2 n=>Q1 (qz0 f g k h2) J<|U J<|U J<|q7 n fun l h4 n=>Q1 (qz2 f g l h4) J<|qa J<|qa J<|qt<|qa J<|qt<|qa J<|qt<|qa J<|q8<|qg<|qc<|qa J<|q8<|q7 n fun ab ao n=>?_;refine Qo (fun t=>t = ab) (fun t=>⟨[(9,.hs 0 4 0 t.length)],[(0,.dat 4 (t.map Qg))],1⟩) qe ?_ ?_
 ·refine Qm (q39 k l f g j) (fun a=>⟨[(0,q9 j),(1,.d (.sl 4 (f.map Qg))),(2,.d (.sl 4 (g.map Qg))),(7,.d (.sl 1 (k.map (eI .i64)))),(8,.d (.sl 1 (l.map (eI .i64)))),(9,.hs 0 4 0 a.2.2.2.length),(10,.d (.sl 2 (a.1.map Qv))),(11,q9 a.2.1),(12,q9 a.2.2.1)],[(0,.dat 4 (a.2.2.2.map Qg))],1⟩) _ ab ao (wkA [] [] [0]) ?_;intro a bt o;unfold q39 at o;refine qg<|qc<|U J<|O _ J<|U J<|Qx J<|O _ J<|q8 ?_;refine qn J o (fun _ o=>?_) (fun _ o=>?_)
  ·refine qp<|qg<|q7 o fun ap h o=>?_;refine Qo (fun p=>p = ap) (fun p=>⟨[(0,q9 j),(1,.d (.sl 4 (f.map Qg))),(2,.d (.sl 4 (g.map Qg))),(7,.d (.sl 1 (k.map (eI .i64)))),(8,.d (.sl 1 (l.map (eI .i64)))),(9,.hs 0 4 0 p.2.2.length),(10,.d (.sl 2 (p.1.map Qv))),(11,q9 p.2.1),(12,q9 a.2.2.1)],[(0,.dat 4 (p.2.2.map Qg))],1⟩) qe ?_ ?_
   ·refine qc<|qa J<|q8<|qg<|qc<|qa J<|q8<|q7 h fun ac aq h=>?_;refine Qo (fun q=>q = ac) (fun q=>⟨[(0,q9 j),(1,.d (.sl 4 (f.map Qg))),(2,.d (.sl 4 (g.map Qg))),(7,.d (.sl 1 (k.map (eI .i64)))),(8,.d (.sl 1 (l.map (eI .i64)))),(9,.hs 0 4 0 a.2.2.2.length),(10,.d (.sl 2 (a.1.map Qv))),(11,q9 a.2.1),(12,q9 a.2.2.1),(13,.hs 1 1 0 q.length)],[(0,.dat 4 (a.2.2.2.map Qg)),(1,.dat 1 (q.map eB))],2⟩) qe ?_ ?_
    ·refine Qm (q4p l k a f g j) (fun x=>⟨[(0,q9 j),(1,.d (.sl 4 (f.map Qg))),(2,.d (.sl 4 (g.map Qg))),(7,.d (.sl 1 (k.map (eI .i64)))),(8,.d (.sl 1 (l.map (eI .i64)))),(9,.hs 0 4 0 a.2.2.2.length),(10,.d (.sl 2 (a.1.map Qv))),(11,q9 a.2.1),(12,q9 a.2.2.1),(13,.hs 1 1 0 x.2.length),(14,q9 x.1)],[(0,.dat 4 (a.2.2.2.map Qg)),(1,.dat 1 (x.2.map eB))],2⟩) _ ac aq (wkA [(0,0)] [] [1]) ?_;intro x bu b;unfold q4p at b;refine qg<|qc<|U J<|U J<|Qx J<|O _ J<|q8 ?_;refine qn J b (fun _ b=>?_) (fun _ b=>?_)
     ·refine qp<|qg<|Qc<|Qi [q6,(some [1,2],[1,3]),(some [],[2]),q6,q6,q6,q6,q6,q6,q6,q6,q6,q6,q6,q6,q6,q6,q6,q6,q6,q6,q6,q6,q6,q6,q6] qi<|U J<|U J<|U J<|U J<|U J<|q7 b fun ar au b=>Qn au J<|O _ J<|U J<|U J<|q7 b fun av aw b=>Qn aw J<|O _ J<|q7 b fun ad ax b=>Q1 (qo9 f ar av ad ax) J<|U J<|U J<|U J<|q7 b fun ay az b=>Qn az J<|O _ J<|U J<|U J<|q7 b fun ba bb b=>Qn bb J<|O _ J<|q7 b fun ae bc b=>Q1 (qo9 g ay ba ae bc) J<|q7 b fun bd be b=>Q1 (qyv j ad ae bd be) J<|Qj _ _ J<|q7 b fun bv bf b=>Yh _ bf J J J J J J J (Yf J J) J J J J<|qa J<|Q4<|Qp ?_;refine Q5<|U J<|O _ J<|qa J<|Q4<|⟨_,qr b,wkA [(0,0),(1,3)] [] []⟩
     refine Qh ?_;refine ⟨_,qr b,fun hm=>?_⟩;subst hm;exact ⟨_,J,wkA [(0,0),(1,1)] [] []⟩
    intro q hb;subst hb;refine qg ?_;refine Za (st':=⟨[(0,q9 j),(1,.d (.sl 4 (f.map Qg))),(2,.d (.sl 4 (g.map Qg))),(7,.d (.sl 1 (k.map (eI .i64)))),(8,.d (.sl 1 (l.map (eI .i64)))),(9,.hs 0 4 0 a.2.2.2.length),(10,.d (.sl 2 (a.1.map Qv))),(11,q9 a.2.1),(12,q9 a.2.2.1),(13,.d (.sl 1 (q.map eB)))],[(0,.dat 4 (a.2.2.2.map Qg))],1⟩) (wkA [(0,0)] [1] []) ?_ qe;refine Q5<|U J<|U J<|q7 h fun u bg h=>Q1 (qyt l q u bg) J<|qa J<|q8<|qg<|qc<|U J<|O _ J<|q7 h fun bh s h=>?_;refine Q9 5 (fun A st=>∃ af ag ah ai,st = A [(71,Q2 bh),(70,ai),(69,ah),(68,ag),(67,af)]) ?_ ?_
    ·refine Qa J J s (fun s=>?_) (fun s=>?_)
     ·refine U J<|U J<|q7 s fun bi bj s=>Q1 (qyw u a.1 bi bj) J<|O _ J<|q8 ?_;cases s;exact ⟨_,_,_,_,J⟩
     refine qb J<|qb J<|qb J<|O _ J<|q8 ?_;cases s;exact ⟨_,_,_,_,J⟩
    rintro _ ⟨af,ag,ah,ai,rfl⟩;refine q8 ?_;refine qn J h (fun _ h=>?_) (fun _ h=>?_)
    ·refine qg<|qc<|U J<|qa J<|q8<|q7 h fun aj bk h=>?_;refine Qo (fun v=>v = aj) (fun v=>⟨[(0,q9 j),(1,.d (.sl 4 (f.map Qg))),(2,.d (.sl 4 (g.map Qg))),(7,.d (.sl 1 (k.map (eI .i64)))),(8,.d (.sl 1 (l.map (eI .i64)))),(9,.hs 0 4 0 v.length),(10,.d (.sl 2 (a.1.map Qv))),(11,q9 a.2.1),(12,q9 a.2.2.1)],[(0,.dat 4 (v.map Qg))],1⟩) qe ?_ ?_
     ·refine Qm (q4q k a) (fun y=>⟨[(0,q9 j),(1,.d (.sl 4 (f.map Qg))),(2,.d (.sl 4 (g.map Qg))),(7,.d (.sl 1 (k.map (eI .i64)))),(8,.d (.sl 1 (l.map (eI .i64)))),(9,.hs 0 4 0 y.2.length),(10,.d (.sl 2 (a.1.map Qv))),(11,q9 a.2.1),(12,q9 a.2.2.1),(16,q9 y.1)],[(0,.dat 4 (y.2.map Qg))],1⟩) _ aj bk (wkA [(0,0)] [] []) ?_;intro y bw m;unfold q4q at m;refine qg<|qc<|U J<|U J<|O _ J<|O _ J<|q8 ?_;refine qn J m (fun _ m=>?_) (fun _ m=>?_)
      ·refine qp<|qg<|Qc<|Q5<|U J<|U J<|U J<|U J<|O _ J<|q7 m fun ak bl m=>Qn bl J<|O _ J<|q7 m fun aa al m=>Q0 al J J<|O _ J<|Qz (ds:=[qd ak]) ({X0:=aa.X0,Y0:=aa.Y0,X1:=ak,Y1:=aa.Y1} : ql) al J J J J J J J J (leb J) J<|Q4<|Qp<|Q5<|U J<|O _ J<|qa J<|Q4<|⟨_,qr m,wkE [(0,0)] [] [] J ⟨qm J,qm J,qm J,qm J,qm J,⟨_,J,K3 qe J Q3 (ltd J)⟩,qm J,qm J,qm J,qm J,trivial⟩ ⟨Qq J J,trivial⟩⟩
      refine Qh ?_;refine ⟨_,qr m,fun hm=>?_⟩;subst hm;exact ⟨_,J,wkA [(0,0)] [] []⟩
     intro v hb;subst hb;refine Qh ?_;obtain rfl:=qw h;exact ⟨_,J,wkA [(0,0)] [] []⟩
    refine qp<|qc<|U J<|O _ J<|U J<|qa J<|qa J<|qt<|qa J<|q8<|q7 h fun bm bn h=>Qc<|Qm (q6u u k a) (fun z=>⟨[(0,q9 j),(1,.d (.sl 4 (f.map Qg))),(2,.d (.sl 4 (g.map Qg))),(7,.d (.sl 1 (k.map (eI .i64)))),(8,.d (.sl 1 (l.map (eI .i64)))),(9,.hs 0 4 0 z.2.length),(10,.d (.sl 2 (u.map Qv))),(11,q9 (a.2.2.2.length : Int)),(12,q9 a.2.2.1),(15,.d (.sl 2 (u.map Qv))),(17,q9 z.1)],[(0,.dat 4 (z.2.map Qg))],1⟩) _ bm bn (wkA [(0,0)] [] []) ?_;intro z bz c;unfold q6u at c;refine qg<|qc<|U J<|U J<|Qx J<|O _ J<|q8 ?_;refine qn J c (fun _ c=>?_) (fun _ c=>?_)
    ·refine qp<|qg<|Qc<|Qi [q6,(some [0,1],[0,2]),(some [],[1]),q6,q6,q6,q6,q6,q6,q6,q6,q6,q6,q6,q6,q6,q6,q6,q6,q6,q6,q6,q6,q6] qi<|U J<|U J<|U J<|q7 c fun ca bo c=>Qn bo J<|O _ J<|U J<|U J<|q7 c fun cb bp c=>Qn bp J<|O _ J<|O _ J<|U J<|U J<|O _ J<|q7 c fun cc bq c=>Qn bq J<|O _ J<|U J<|U J<|q7 c fun cd br c=>Qn br J<|O _ J<|O _ J<|O _ J<|Qj _ _ J<|q7 c fun ce bs c=>Yh _ bs J J J J J J J (Yf J J) J J J J<|qa J<|Q4<|Qp<|Q5<|U J<|O _ J<|qa J<|Q4<|⟨_,qr c,wkA [(0,2)] [] []⟩
    refine Qh ?_;refine ⟨_,qr c,fun hm=>?_⟩;subst hm;obtain rfl:=qw h;exact ⟨_,J,wkA [(0,0)] [] []⟩
   intro p hb;subst hb;refine Q5<|U J<|O _ J<|qa J<|Q4<|⟨_,qr o,wkA [(0,0)] [] []⟩
  refine Qh ?_;refine ⟨_,qr o,fun hm=>?_⟩;subst hm;exact ⟨_,J,wkA [(0,0)] [] []⟩
 intro t hb;subst hb;refine qc<|U J<|qa J<|qu ?_;obtain rfl:=qw n;exact finD (.inr J) J (Jb J J) (.refl _)
theorem qhf (c : List ql) (f : List ql) (r : Bool) (b : q3a c f = some r) : Pure Tryz.prog tab 20 [.sl 4 (c.map Qg),.sl 4 (f.map Qg)] (.bool r):=by
 unfold q3a at b;refine Qk Tryz.func20 J qi qi J<|qc<|qa J<|q8<|qg<|qc<|U J<|Qx J<|U J<|Qx J<|O _ J<|q8 ?_;refine qn J b (fun _ b=>?_) (fun _ b=>?_)
 ·refine qc<|qa J<|qu ?_;cases b;exact Q7 _ J
 refine qp<|qg<|qc<|qa J<|q8<|q7 b fun h k b=>?_;refine Qo (fun g=>.inl g = h) (fun g=>⟨[],[],0⟩) qe ?_ ?_
 ·refine Qm (qdh c f) (fun j=>⟨[(0,.d (.sl 4 (c.map Qg))),(1,.d (.sl 4 (f.map Qg))),(5,q9 j)],[],0⟩) _ h k (wkA [] [] []) ?_;intro j n a;unfold qdh at a;refine qg<|qc<|U J<|U J<|Qx J<|O _ J<|q8 ?_;refine qn J a (fun _ a=>?_) (fun _ a=>?_)
  ·refine qp<|qg<|Qc<|qg<|Qi [q6,q6,q6,q6,q6,q6,q6,q6,q6] qi<|U J<|U J<|q7 a fun o l a=>Qn l J<|O _ J<|U J<|U J<|q7 a fun p m a=>Qn m J<|O _ J<|O _ J<|q8 ?_;refine qn J a (fun _ a=>?_) (fun _ a=>?_)
   ·refine qc<|qa J<|qu ?_;refine ⟨_,qr a,fun hm=>?_⟩;subst hm;cases b;exact Q7 _ J
   refine qp<|Ql<|Qp<|Q5<|U J<|O _ J<|qa J<|Q4<|⟨_,qr a,wkA [] [] []⟩
  refine Qh ?_;refine ⟨_,qr a,fun hm=>?_⟩;subst hm;exact ⟨_,J,wkA [] [] []⟩
 intro g hb;subst hb;refine qc<|qa J<|qu ?_;cases b;exact Q7 _ J
theorem qzd (l : Int) (f : List qf) (g : List qf) (r : List qf × Bool) (o : q4y l f g = some r) : Pure Tryz.prog tab 113 [qd l,.sl 6 (f.map Q6),.sl 6 (g.map Q6)] (.tup [.sl 6 (r.1.map Q6),.bool r.2]):=by
 unfold q4y at o;refine Qk Tryz.func113 J qi qi J<|qc<|qa J<|qa J<|qt<|U J<|U J<|q7 o fun m h2 o=>Q1 (qzb f g m h2) J<|qa J<|qt<|qa J<|qt<|qa J<|qt<|qa J<|q8<|qg<|qc<|qa J<|q8<|q7 o fun z bi o=>?_;refine Qo (fun s=>.inl s = z) (fun s=>⟨[(9,.hs 0 6 0 s.length)],[(0,.dat 6 (s.map Q6))],1⟩) qe ?_ ?_
 ·refine Qm (q27 m f g l) (fun c=>⟨[(0,q9 l),(1,.d (.sl 6 (f.map Q6))),(2,.d (.sl 6 (g.map Q6))),(8,.d (.sl 1 (m.map (eI .i64)))),(9,.hs 0 6 0 c.2.2.2.length),(10,.d (.sl 4 (c.1.map Qg))),(11,q9 c.2.1),(12,q9 c.2.2.1)],[(0,.dat 6 (c.2.2.2.map Q6))],1⟩) _ z bi (wkA [] [] [0]) ?_;intro c ct n;unfold q27 at n;refine qg<|qc<|U J<|O _ J<|U J<|Qx J<|O _ J<|q8 ?_;refine qn J n (fun _ n=>?_) (fun _ n=>?_)
  ·refine qp<|qg<|q7 n fun bj a n=>?_;refine Qo (fun p=>.inl p = bj) (fun p=>⟨[(0,q9 l),(1,.d (.sl 6 (f.map Q6))),(2,.d (.sl 6 (g.map Q6))),(8,.d (.sl 1 (m.map (eI .i64)))),(9,.hs 0 6 0 p.2.2.length),(10,.d (.sl 4 (p.1.map Qg))),(11,q9 p.2.1),(12,q9 c.2.2.1)],[(0,.dat 6 (p.2.2.map Q6))],1⟩) qe ?_ ?_
   ·refine qg<|Qi [q6,q6,q6,q6,q6,q6,q6,q6,q6,q6,q6,q6,q6,q6,q6] qi<|U J<|U J<|U J<|U J<|q7 a fun bk bl a=>Qn bl J<|O _ J<|q7 a fun aa bm a=>Q1 (qdn f bk aa bm) J<|U J<|U J<|U J<|q7 a fun bn bo a=>Qn bo J<|O _ J<|q7 a fun ab bp a=>Q1 (qdn g bn ab bp) J<|q7 a fun t bq a=>Q1 (qhe l aa ab t bq) J<|qa J<|q8<|qg<|qc<|U J<|Qx J<|O _ J<|q7 a fun br h a=>?_;refine Q9 11 (fun A st=>∃ ac ad ae af ag ah ai aj ak al,st = A [(53,Q2 br),(52,al),(51,ak),(50,aj),(49,ai),(48,ah),(47,ag),(46,af),(45,ae),(44,ad),(43,ac)]) ?_ ?_
    ·refine Qa J J h (fun h=>?_) (fun h=>?_)
     ·refine qb J<|qb J<|qb J<|qb J<|qb J<|qb J<|qb J<|qb J<|qb J<|O _ J<|q8 ?_;cases h;exact ⟨_,_,_,_,_,_,_,_,_,_,J⟩
     refine U J<|U J<|U J<|q7 h fun bs bt h=>Qn bt J<|O _ J<|q7 h fun am bu h=>Q1 (qdn f bs am bu) J<|q7 h fun bv bw h=>Q1 (qdb (.cons (.refl _) (.cons (.refl _) (.cons (.nil _) .nil))) (qhe 2 am [] bv bw)) J<|Qx J<|O _ J<|O _ J<|q8 ?_;cases h;exact ⟨_,_,_,_,_,_,_,_,_,_,J⟩
    rintro _ ⟨ac,ad,ae,af,ag,ah,ai,aj,ak,al,rfl⟩;refine q7 a fun bz j a=>?_;refine Q9 11 (fun A st=>∃ an ao ap aq ar au av aw ax ay,st = A [(64,Q2 bz),(63,ay),(62,ax),(61,aw),(60,av),(59,au),(58,ar),(57,aq),(56,ap),(55,ao),(54,an)]) ?_ ?_
    ·refine Qa J J j (fun j=>?_) (fun j=>?_)
     ·refine qb J<|qb J<|qb J<|qb J<|qb J<|qb J<|qb J<|qb J<|qb J<|O _ J<|q8 ?_;cases j;exact ⟨_,_,_,_,_,_,_,_,_,_,J⟩
     refine U J<|U J<|U J<|q7 j fun ca cb j=>Qn cb J<|O _ J<|q7 j fun az cc j=>Q1 (qdn g ca az cc) J<|q7 j fun cd ce j=>Q1 (qdb (.cons (.refl _) (.cons (.refl _) (.cons (.nil _) .nil))) (qhe 2 az [] cd ce)) J<|Qx J<|O _ J<|O _ J<|q8 ?_;cases j;exact ⟨_,_,_,_,_,_,_,_,_,_,J⟩
    rintro _ ⟨an,ao,ap,aq,ar,au,av,aw,ax,ay,rfl⟩;refine q8 ?_;refine qn J a (fun _ a=>?_) (fun _ a=>?_)
    ·refine qc<|qa J<|qa J<|qu ?_;obtain rfl:=qw a;refine ⟨_,qr n,fun hm=>?_⟩;subst hm;obtain rfl:=qw o;exact finD (.inr J) J J (Zo (.cons (.nil _) (.cons (.refl _) .nil)))
    refine qp<|qg<|qc<|U J<|O _ J<|q7 a fun cf q a=>?_;refine Q9 5 (fun A st=>∃ ba bb bc bd,st = A [(71,Q2 cf),(70,bd),(69,bc),(68,bb),(67,ba)]) ?_ ?_
    ·refine Qa J J q (fun q=>?_) (fun q=>?_)
     ·refine U J<|U J<|q7 q fun cg ch q=>Q1 (qhf t c.1 cg ch) J<|O _ J<|q8 ?_;cases q;exact ⟨_,_,_,_,J⟩
     refine qb J<|qb J<|qb J<|O _ J<|q8 ?_;cases q;exact ⟨_,_,_,_,J⟩
    rintro _ ⟨ba,bb,bc,bd,rfl⟩;refine q8 ?_;refine qn J a (fun _ a=>?_) (fun _ a=>?_)
    ·refine qg<|qc<|U J<|qa J<|q8<|q7 a fun be ci a=>?_;refine Qo (fun u=>u = be) (fun u=>⟨[(0,q9 l),(1,.d (.sl 6 (f.map Q6))),(2,.d (.sl 6 (g.map Q6))),(8,.d (.sl 1 (m.map (eI .i64)))),(9,.hs 0 6 0 u.length),(10,.d (.sl 4 (c.1.map Qg))),(11,q9 c.2.1),(12,q9 c.2.2.1)],[(0,.dat 6 (u.map Q6))],1⟩) qe ?_ ?_
     ·refine Qm (q4z m c) (fun v=>⟨[(0,q9 l),(1,.d (.sl 6 (f.map Q6))),(2,.d (.sl 6 (g.map Q6))),(8,.d (.sl 1 (m.map (eI .i64)))),(9,.hs 0 6 0 v.2.length),(10,.d (.sl 4 (c.1.map Qg))),(11,q9 c.2.1),(12,q9 c.2.2.1),(14,q9 v.1)],[(0,.dat 6 (v.2.map Q6))],1⟩) _ be ci (wkA [(0,0)] [] []) ?_;intro v cu k;unfold q4z at k;refine qg<|qc<|U J<|U J<|O _ J<|O _ J<|q8 ?_;refine qn J k (fun _ k=>?_) (fun _ k=>?_)
      ·refine qp<|qg<|Qc<|Q5<|U J<|U J<|U J<|U J<|O _ J<|q7 k fun bf cj k=>Qn cj J<|O _ J<|q7 k fun y bg k=>Q0 bg J J<|O _ J<|O _ J<|Qz (ds:=[qd bf]) ({Lo:=y.Lo,Hi:=({X:=y.Hi.X,Y:=y.Hi.Y,Z:=bf} : qh)} : qf) bg J J J J J J J J (leb J) J<|Q4<|Qp<|Q5<|U J<|O _ J<|qa J<|Q4<|⟨_,qr k,wkE [(0,0)] [] [] J ⟨qm J,qm J,qm J,qm J,⟨_,J,K3 qe J Q3 (ltd J)⟩,qm J,qm J,qm J,qm J,trivial⟩ ⟨Qq J J,trivial⟩⟩
      refine Qh ?_;refine ⟨_,qr k,fun hm=>?_⟩;subst hm;exact ⟨_,J,wkA [(0,0)] [] []⟩
     intro u hb;subst hb;refine Qh ?_;obtain rfl:=qw a;exact ⟨_,J,wkA [(0,0)] [] []⟩
    refine qp<|qc<|U J<|O _ J<|U J<|qa J<|qa J<|qt<|qa J<|q8<|q7 a fun ck cl a=>Qc<|Qm (q70 t m c) (fun x=>⟨[(0,q9 l),(1,.d (.sl 6 (f.map Q6))),(2,.d (.sl 6 (g.map Q6))),(8,.d (.sl 1 (m.map (eI .i64)))),(9,.hs 0 6 0 x.2.length),(10,.d (.sl 4 (t.map Qg))),(11,q9 (c.2.2.2.length : Int)),(12,q9 c.2.2.1),(13,.d (.sl 4 (t.map Qg))),(15,q9 x.1)],[(0,.dat 6 (x.2.map Q6))],1⟩) _ ck cl (wkA [(0,0)] [] []) ?_;intro x cv b;unfold q70 at b;refine qg<|qc<|U J<|U J<|Qx J<|O _ J<|q8 ?_;refine qn J b (fun _ b=>?_) (fun _ b=>?_)
    ·refine qp<|qg<|Qc<|Qi [q6,(some [0,1],[0,2]),(some [],[1]),q6,q6,q6,q6,q6,q6,q6,q6,q6,q6,q6,q6,q6,q6,q6,q6,q6,q6,q6,q6,q6,q6,q6,q6,q6,q6,q6,q6,q6,q6,q6,q6,q6] qi<|U J<|U J<|U J<|q7 b fun cw cm b=>Qn cm J<|O _ J<|O _ J<|U J<|U J<|q7 b fun cx cn b=>Qn cn J<|O _ J<|O _ J<|U J<|U J<|q7 b fun cy co b=>Qn co J<|O _ J<|O _ J<|U J<|U J<|q7 b fun cz cp b=>Qn cp J<|O _ J<|O _ J<|U J<|U J<|q7 b fun da cq b=>Qn cq J<|O _ J<|O _ J<|U J<|U J<|O _ J<|q7 b fun dc cr b=>Qn cr J ?_;refine O _ J<|O _ J<|O _ J<|Qj _ _ J<|q7 b fun dd cs b=>Yh _ cs J J J J J J J (Yf J J) J J J J<|qa J<|Q4<|Qp<|Q5<|U J<|O _ J<|qa J<|Q4<|⟨_,qr b,wkA [(0,2)] [] []⟩
    refine Qh ?_;refine ⟨_,qr b,fun hm=>?_⟩;subst hm;obtain rfl:=qw a;exact ⟨_,J,wkA [(0,0)] [] []⟩
   intro p hb;subst hb;refine Q5<|U J<|O _ J<|qa J<|Q4<|⟨_,qr n,wkA [(0,0)] [] []⟩
  refine Qh ?_;refine ⟨_,qr n,fun hm=>?_⟩;subst hm;exact ⟨_,J,wkA [(0,0)] [] []⟩
 intro s hb;subst hb;refine qc<|U J<|U J<|O _ J<|O _ J<|qa J<|qa J<|qu ?_;obtain rfl:=qw o;exact finD (.inr J) J (qeq (q1a (Jb J J) (q1a J J))) (.refl _)
theorem qzf (c : List qf) (f : List qf) (r : Bool) (b : qdo c f = some r) : Pure Tryz.prog tab 17 [.sl 6 (c.map Q6),.sl 6 (f.map Q6)] (.bool r):=by
 unfold qdo at b;refine Qk Tryz.func17 J qi qi J<|qc<|qa J<|q8<|qg<|qc<|U J<|Qx J<|U J<|Qx J<|O _ J<|q8 ?_;refine qn J b (fun _ b=>?_) (fun _ b=>?_)
 ·refine qc<|qa J<|qu ?_;cases b;exact Q7 _ J
 refine qp<|qg<|qc<|qa J<|q8<|q7 b fun h k b=>?_;refine Qo (fun g=>.inl g = h) (fun g=>⟨[],[],0⟩) qe ?_ ?_
 ·refine Qm (qdp c f) (fun j=>⟨[(0,.d (.sl 6 (c.map Q6))),(1,.d (.sl 6 (f.map Q6))),(5,q9 j)],[],0⟩) _ h k (wkA [] [] []) ?_;intro j n a;unfold qdp at a;refine qg<|qc<|U J<|U J<|Qx J<|O _ J<|q8 ?_;refine qn J a (fun _ a=>?_) (fun _ a=>?_)
  ·refine qp<|qg<|Qc<|qg<|Qi [q6,q6,q6,q6,q6,q6,q6,q6,q6] qi<|U J<|U J<|q7 a fun o l a=>Qn l J<|O _ J<|U J<|U J<|q7 a fun p m a=>Qn m J<|O _ J<|O _ J<|q8 ?_;refine qn J a (fun _ a=>?_) (fun _ a=>?_)
   ·refine qc<|qa J<|qu ?_;refine ⟨_,qr a,fun hm=>?_⟩;subst hm;cases b;exact Q7 _ J
   refine qp<|Ql<|Qp<|Q5<|U J<|O _ J<|qa J<|Q4<|⟨_,qr a,wkA [] [] []⟩
  refine Qh ?_;refine ⟨_,qr a,fun hm=>?_⟩;subst hm;exact ⟨_,J,wkA [] [] []⟩
 intro g hb;subst hb;refine qc<|qa J<|qu ?_;cases b;exact Q7 _ J
theorem qod (c : List qf) (r : Int) (a : q6y c = some r) : Pure Tryz.prog tab 82 [.sl 6 (c.map Q6)] (qd r):=by
 unfold q6y at a;refine Qk Tryz.func82 J qi qi J<|qc<|qa J<|q8<|qg<|qc<|U J<|Qx J<|O _ J<|q8 ?_;refine qn J a (fun _ a=>?_) (fun _ a=>?_)
 ·refine qc<|qa J<|qu ?_;cases a;exact Q7 _ J
 refine qp<|qg<|qc<|qa J<|q8<|q7 a fun h q a=>?_;refine Qo (fun g=>.inl g = h) (fun g=>⟨[(0,.d (.sl 6 (c.map Q6)))],[],0⟩) qe ?_ ?_
 ·refine Qm (q6z c) (fun j=>⟨[(0,.d (.sl 6 (c.map Q6))),(3,q9 j)],[],0⟩) _ h q (wkA [] [] []) ?_;intro j ab b;unfold q6z at b;refine qg<|qc<|U J<|U J<|Qx J<|O _ J<|q8 ?_;refine qn J b (fun _ b=>?_) (fun _ b=>?_)
  ·refine qp<|qg<|Qc<|qc<|U J<|U J<|q7 b fun s t b=>Qn t J<|O _ J<|q7 b fun u v b=>Q1 (qzh s u v) J<|O _ J<|q8 ?_;refine qn J b (fun _ b=>?_) (fun _ b=>?_)
   ·refine qc<|qa J<|qu ?_;refine ⟨_,qr b,fun hm=>?_⟩;subst hm;cases a;exact Q7 _ J
   refine qp<|Ql<|Qp<|Q5<|U J<|O _ J<|qa J<|Q4<|⟨_,qr b,wkA [] [] []⟩
  refine Qh ?_;refine ⟨_,qr b,fun hm=>?_⟩;subst hm;exact ⟨_,J,wkA [] [] []⟩
 intro g hb;subst hb;refine qc<|U J<|q7 a fun k x a=>Q1 (qdb (.cons (.refl _) (.cons (.refl _) (.cons (.nil _) .nil))) (qzd 2 c [] k x)) J<|U J<|O _ J<|O _ J<|qa J<|qa J<|q8<|qg<|qc<|U J<|O _ J<|q7 a fun y f a=>?_;refine Q9 6 (fun A st=>∃ l m n o p,st = A [(33,Q2 y),(32,p),(31,o),(30,n),(29,m),(28,l)]) ?_ ?_
 ·refine Qa J J f (fun f=>?_) (fun f=>?_)
  ·refine qb J<|qb J<|qb J<|qb J<|O _ J<|q8 ?_;cases f;exact ⟨_,_,_,_,_,J⟩
  refine U J<|U J<|q7 f fun z aa f=>Q1 (qzf k.1 c z aa) J<|O _ J<|O _ J<|q8 ?_;cases f;exact ⟨_,_,_,_,_,J⟩
 rintro _ ⟨l,m,n,o,p,rfl⟩;refine q8 ?_;refine qn J a (fun _ a=>?_) (fun _ a=>?_)
 ·refine qc<|qa J<|qu ?_;cases a;exact Q7 _ J
 refine qp<|qc<|qa J<|qu ?_;cases a;exact Q7 _ J
theorem qzk (g : List qf) (h : qh) (r : Int) (a : q9x g h = some r) : Pure Tryz.prog tab 45 [.sl 6 (g.map Q6),.agg (Qs h)] (qd r):=by
 unfold q9x at a;refine Qk Tryz.func45 J qi qi J<|qc<|Qj _ _ J<|qa J<|q8<|qg<|qc<|U J<|q7 a fun r1 h2 a=>Q1 (qod g r1 h2) J<|O _ J<|q8 ?_;refine qn J a (fun _ a=>?_) (fun _ a=>?_)
 ·refine qc<|U J<|q7 a fun r5 h6 a=>Q1 (qod g r5 h6) J<|qa J<|qu ?_;cases a;exact Q7 _ J
 refine qp<|qg<|qc<|qa J<|q8<|q7 a fun m ba a=>?_;refine Qo (fun l=>.inl l = m) (fun l=>⟨[(3,.ref 0 3 0 0)],[(0,.dat 3 [(Qs h)])],1⟩) qe ?_ ?_
 ·refine Qm (q71 g) (fun n=>⟨[(0,.d (.sl 6 (g.map Q6))),(3,.ref 0 3 0 0),(5,q9 n)],[(0,.dat 3 [(Qs h)])],1⟩) _ m ba (wkA [(0,0)] [] []) ?_;intro n bp b;unfold q71 at b;refine qg<|qc<|U J<|U J<|Qx J<|O _ J<|q8 ?_;refine qn J b (fun _ b=>?_) (fun _ b=>?_)
  ·refine qp<|qg<|Qc<|qc<|U J<|U J<|q7 b fun bb bc b=>Qn bc J<|O _ J<|O _ J<|q7 b fun bd be b=>Q1 (q72 bb.Lo 30 bd be) J<|O _ J<|q7 b fun bf c b=>?_;refine Q9 9 (fun A st=>∃ o p q s t u v x,st = A [(32,Q2 bf),(31,x),(30,v),(29,u),(28,t),(27,s),(26,q),(25,p),(24,o)]) ?_ ?_
   ·refine Qa J J c (fun c=>?_) (fun c=>?_)
    ·refine qb J<|qb J<|qb J<|qb J<|qb J<|qb J<|qb J<|O _ J<|q8 ?_;cases c;exact ⟨_,_,_,_,_,_,_,_,J⟩
    refine U J<|U J<|q7 c fun bg bh c=>Qn bh J<|O _ J<|O _ J<|q7 c fun bi bj c=>Q1 (q72 bg.Hi 30 bi bj) J<|O _ J<|O _ J<|q8 ?_;cases c;exact ⟨_,_,_,_,_,_,_,_,J⟩
   rintro _ ⟨o,p,q,s,t,u,v,x,rfl⟩;refine q8 ?_;refine qn J b (fun _ b=>?_) (fun _ b=>?_)
   ·refine qc<|qa J<|qu ?_;refine ⟨_,qr b,fun hm=>?_⟩;subst hm;cases a;exact Q7 _ J
   refine qp<|Ql<|Qp<|Q5<|U J<|O _ J<|qa J<|Q4<|⟨_,qr b,wkA [(0,0)] [] []⟩
  refine Qh ?_;refine ⟨_,qr b,fun hm=>?_⟩;subst hm;exact ⟨_,J,wkA [(0,0)] [] []⟩
 intro l hb;subst hb;refine qg<|qc<|O _ J<|q7 a fun bk bl a=>Q1 (q72 h 8 bk bl) J<|O _ J<|q7 a fun bm f a=>?_;refine Q9 15 (fun A st=>∃ y z aa ab ac ad ae af ag ah ai aj ak al,st = A [(50,Q2 bm),(49,al),(48,ak),(47,aj),(46,ai),(45,ah),(44,ag),(43,af),(42,ae),(41,ad),(40,ac),(39,ab),(38,aa),(37,z),(36,y)]) ?_ ?_
 ·refine Qa J J f (fun f=>?_) (fun f=>?_)
  ·refine qb J<|qb J<|qb J<|qb J<|qb J<|qb J<|qb J<|qb J<|qb J<|qb J<|qb J<|qb J<|qb J<|O _ J<|q8 ?_;cases f;exact ⟨_,_,_,_,_,_,_,_,_,_,_,_,_,_,J⟩
  refine O _ J<|O _ J<|O _ J<|q7 f fun bn j f=>?_;refine Q9 5 (fun A st=>∃ am an ao ap,st = A [(44,Q2 bn),(43,ap),(42,ao),(41,an),(40,am)]) ?_ ?_
  ·refine Qa J J j (fun j=>?_) (fun j=>?_)
   ·refine O _ J<|O _ J<|O _ J<|O _ J<|q8 ?_;cases j;exact ⟨_,_,_,_,J⟩
   refine qb J<|qb J<|qb J<|O _ J<|q8 ?_;cases j;exact ⟨_,_,_,_,J⟩
  rintro _ ⟨am,an,ao,ap,rfl⟩;refine q7 f fun bo k f=>?_;refine Q9 5 (fun A st=>∃ aq ar au av,st = A [(49,Q2 bo),(48,av),(47,au),(46,ar),(45,aq)]) ?_ ?_
  ·refine Qa J J k (fun k=>?_) (fun k=>?_)
   ·refine O _ J<|O _ J<|O _ J<|O _ J<|q8 ?_;cases k;exact ⟨_,_,_,_,J⟩
   refine qb J<|qb J<|qb J<|O _ J<|q8 ?_;cases k;exact ⟨_,_,_,_,J⟩
  rintro _ ⟨aq,ar,au,av,rfl⟩;refine O _ J<|q8 ?_;cases f;exact ⟨_,_,_,_,_,_,_,_,_,_,_,_,_,_,J⟩
 rintro _ ⟨y,z,aa,ab,ac,ad,ae,af,ag,ah,ai,aj,ak,al,rfl⟩;refine q8 ?_;refine qn J a (fun _ a=>?_) (fun _ a=>?_)
 ·refine qc<|qa J<|qu ?_;cases a;exact Q7 _ J
 refine qp<|qc<|qa J<|qu ?_;cases a;exact Q7 _ J
theorem qdk (d : Int) (r : qh) (a : q1c d = some r) : Pure Tryz.prog tab 84 [qd d] (.agg (Qs r)):=by
 unfold q1c at a;refine Qk Tryz.func84 J qi qi J<|qc<|Qr J J<|qt<|qa J<|q8<|qg<|qc<|U J<|O _ J<|O _ J<|q8<|q7 a fun f b a=>?_;refine Y2 (fun c=>c = f) (fun c=>⟨[(0,q9 d),(2,.ref 0 3 0 0),(3,q9 c)],[(0,.dat 3 [[qd 0,qd 0,qd 0]])],1⟩) qe ?_ ?_
 ·refine qn J b (fun _ b=>?_) (fun _ b=>?_)
  ·refine Q5<|qa J<|Q4 ?_;obtain rfl:=qw b;exact ⟨_,J,wkA [(0,0)] [] []⟩
  refine qp<|Ql ?_;obtain rfl:=qw b;exact ⟨_,J,wkA [(0,0)] [] []⟩
 intro c hb;subst hb;refine qg<|qc<|U J<|O _ J<|q8 ?_;refine qn J a (fun _ a=>?_) (fun _ a=>?_)
 ·refine qc<|U J<|O _ J<|Qd 0 _ J<|qu ?_;cases a;exact Q7 _ J
 refine qp<|qg<|qc<|U J<|O _ J<|q8 ?_;refine qn J a (fun _ a=>?_) (fun _ a=>?_)
 ·refine qc<|U J<|O _ J<|Qd 0 _ J<|qu ?_;cases a;exact Q7 _ J
 refine qp<|qc<|U J<|O _ J<|Qd 0 _ J<|qu ?_;cases a;exact Q7 _ J
theorem qhg (a : qh) (b : qh) (r : qh) (c : q25 a b = some r) : Pure Tryz.prog tab 75 [.agg (Qs a),.agg (Qs b)] (.agg (Qs r)):=by
 unfold q25 at c;refine Qk Tryz.func75 J qi qi J<|qc<|Qj _ _ J<|Qj _ _ J<|Qr J J<|qt<|O _ J<|O _ J<|O _ J<|O _ J<|O _ J<|O _ J<|O _ J<|O _ J<|O _ J<|O _ J<|O _ J<|O _ J<|O _ J<|O _ J<|O _ J<|O _ J<|Qd 2 _ J<|qu ?_;cases c;exact Q7 _ J
theorem qdl (a : Int) (b : qh) (r : qh) (c : q26 a b = some r) : Pure Tryz.prog tab 34 [qd a,.agg (Qs b)] (.agg (Qs r)):=by
 unfold q26 at c;refine Qk Tryz.func34 J qi qi J<|qc<|Qj _ _ J<|Qr J J<|qt<|U J<|O _ J<|O _ J<|O _ J<|U J<|O _ J<|O _ J<|O _ J<|U J<|O _ J<|O _ J<|O _ J<|O _ J<|Qd 1 _ J<|qu ?_;cases c;exact Q7 _ J
theorem qoa (b : qh) (c : Int) (r : Int) (a : qdi b c = some r) : Pure Tryz.prog tab 62 [.agg (Qs b),qd c] (qd r):=by
 unfold qdi at a;refine Qk Tryz.func62 J qi qi J<|qc<|Qj _ _ J<|qa J<|q8<|qg<|qc<|U J<|O _ J<|q8 ?_;refine qn J a (fun _ a=>?_) (fun _ a=>?_)
 ·refine qc<|O _ J<|O _ J<|qa J<|qu ?_;cases a;exact Q7 _ J
 refine qp<|qg<|qc<|U J<|O _ J<|q8 ?_;refine qn J a (fun _ a=>?_) (fun _ a=>?_)
 ·refine qc<|O _ J<|O _ J<|qa J<|qu ?_;cases a;exact Q7 _ J
 refine qp<|qc<|O _ J<|O _ J<|qa J<|qu ?_;cases a;exact Q7 _ J
theorem qbo (a : List qf) (c : qh) (r : Int × Int × Int) (j : q1g a c = some r) : Pure Tryz.prog tab 15 [.sl 6 (a.map Q6),.agg (Qs c)] (.tup [qd r.1,qd r.2.1,qd r.2.2]):=by
 unfold q1g at j;refine Qk Tryz.func15 J qi qi J<|qc<|Qj _ _ J<|Qj _ _ J<|Qr J J<|Qr J J<|qa J<|q8<|qg<|qc<|O _ J<|O _ J<|q7 j fun r1 h2 j=>Q1 (qek a c r1 h2) J<|qa J<|qt<|U J<|O _ J<|q8 ?_;refine qn J j (fun _ j=>?_) (fun _ j=>?_)
 ·refine qc<|U J<|Qd 2 _ J<|Qd 3 _ J<|qa J<|qu ?_;cases j;exact Q7 _ J
 refine qp<|qg<|qc<|O _ J<|q7 j fun m4 h3 j=>?_;refine qd5 [.d (.sl 6 (a.map Q6))] (fun b5=>b5 = m4) (fun b5=>⟨[(2,.ref 0 1 0 0),(3,.ref 1 3 0 0),(4,.ref 2 1 0 0),(5,.ref 3 1 0 0),(6,q9 0),(18,.fn 86 [.ref 4 1 0 0])],[(0,.dat 1 [[.sl 6 (a.map Q6)]]),(1,.dat 3 [(Qs c)]),(2,.dat 1 [[qd 0]]),(3,.dat 1 [[qd 0]]),(4,.dat 1 [[.sl 6 (a.map Q6)]])],5⟩) J J Tryz.func48 J qi qi J ?_ ?_
 ·refine qc<|Qj _ _ J<|qa J<|qt<|O _ J<|qa J<|qu ?_;refine ⟨.inr J,_,J,?_⟩;obtain rfl:=qw h3;exact ⟨_,J,wkA [(0,0),(1,1),(2,2),(3,3),(4,4)] [] []⟩
 intro b5 hb;subst hb;refine q8<|Qc<|q7 j fun an ae j=>?_;refine qdt (fun t=>t = an) (fun t=>⟨[(4,.ref 0 1 0 0),(5,.ref 1 1 0 0)],[(0,.dat 1 [[qd t.1]]),(1,.dat 1 [[qd t.2]])],2⟩) ?_ ?_
 ·refine Za (st':=⟨[(2,.ref 0 1 0 0),(3,.ref 1 3 0 0),(4,.ref 2 1 0 0),(5,.ref 3 1 0 0),(6,q9 0),(18,.fn 86 [.ref 4 1 0 0])],[(0,.dat 1 [[.sl 6 (a.map Q6)]]),(1,.dat 3 [(Qs c)]),(2,.dat 1 [[qd 0]]),(3,.dat 1 [[qd 0]]),(4,.dat 1 [[.sl 6 (a.map Q6)]])],5⟩) (wkA [(0,0),(1,1),(2,2),(3,3),(4,4)] [] []) ?_ qe;refine qdu _ (.inl J) Tryz.func86 J qi qi J ?_;intro A1841 B1842 hA1841 hB1842;refine q10g<|qg<|q10e<|qc<|O _ J<|Qx J<|U J<|q8<|q7 ae fun ao ap ae=>Qc<|Qm (q2g a c) (fun k=>⟨[(0,.yld 5),(8,.d (.sl 6 (a.map Q6))),(9,q9 (a.length : Int)),(10,q9 k.1)],[(0,.dat 1 [[.sl 6 (a.map Q6)]]),(1,.dat 3 [(Qs c)]),(2,.dat 1 [[qd k.2.1]]),(3,.dat 1 [[qd k.2.2]]),(4,.dat 1 [[.sl 6 (a.map Q6)]]),(5,.loop [(2,.ref 0 1 0 0),(3,.ref 1 3 0 0),(4,.ref 2 1 0 0),(5,.ref 3 1 0 0),(6,q9 0),(18,.fn 86 [.ref 4 1 0 0])] [19] A1841 B1842 .ready none)],6⟩) _ ao ap (wkA [] [] []) ?_;intro k bn n;unfold q2g at n;refine qc<|O _ J<|q8<|qg ?_;refine qn J n (fun _ n=>?_) (fun _ n=>?_)
  ·refine qp<|qg<|q7 n fun aq u n=>?_;refine Qo (fun v=>v = aq) (fun v=>⟨[(0,.yld 5),(8,.d (.sl 6 (a.map Q6))),(9,q9 (a.length : Int)),(10,q9 k.1)],[(0,.dat 1 [[.sl 6 (a.map Q6)]]),(1,.dat 3 [(Qs c)]),(2,.dat 1 [[qd v.1]]),(3,.dat 1 [[qd v.2]]),(4,.dat 1 [[.sl 6 (a.map Q6)]]),(5,.loop [(2,.ref 0 1 0 0),(3,.ref 1 3 0 0),(4,.ref 2 1 0 0),(5,.ref 3 1 0 0),(6,q9 0),(18,.fn 86 [.ref 4 1 0 0])] [19] A1841 B1842 .ready none)],6⟩) qe ?_ ?_
   ·refine qc<|q7 u fun l ar u=>Qn ar J<|O _ J<|Qr J J<|Qd 6 _ J<|qt<|O _ J<|O _ J<|O _ J<|qa J<|q8<|q7 u fun au av u=>Qc<|Qm (q2h l a c) (fun g=>⟨[(0,.yld 5),(4,.ref 6 6 0 0),(5,q9 g.1),(8,.d (.sl 6 (a.map Q6))),(9,q9 (a.length : Int)),(10,q9 k.1)],[(0,.dat 1 [[.sl 6 (a.map Q6)]]),(1,.dat 3 [(Qs c)]),(2,.dat 1 [[qd g.2.1]]),(3,.dat 1 [[qd g.2.2]]),(4,.dat 1 [[.sl 6 (a.map Q6)]]),(5,.loop [(2,.ref 0 1 0 0),(3,.ref 1 3 0 0),(4,.ref 2 1 0 0),(5,.ref 3 1 0 0),(6,q9 0),(18,.fn 86 [.ref 4 1 0 0])] [19] A1841 B1842 .ready none),(6,.dat 6 [(Q6 l)])],7⟩) _ au av (wkA [(6,6)] [] []) ?_;intro g bo o;unfold q2h at o;refine qg<|qc<|U J<|O _ J<|O _ J<|O _ J<|O _ J<|q8 ?_;refine qn J o (fun _ o=>?_) (fun _ o=>?_)
    ·refine qp<|qg<|q7 o fun aw af o=>?_;refine Qo (fun x=>x = aw) (fun x=>⟨[(0,.yld 5),(4,.ref 6 6 0 0),(5,q9 g.1),(8,.d (.sl 6 (a.map Q6))),(9,q9 (a.length : Int)),(10,q9 k.1)],[(0,.dat 1 [[.sl 6 (a.map Q6)]]),(1,.dat 3 [(Qs c)]),(2,.dat 1 [[qd x.1]]),(3,.dat 1 [[qd x.2]]),(4,.dat 1 [[.sl 6 (a.map Q6)]]),(5,.loop [(2,.ref 0 1 0 0),(3,.ref 1 3 0 0),(4,.ref 2 1 0 0),(5,.ref 3 1 0 0),(6,q9 0),(18,.fn 86 [.ref 4 1 0 0])] [19] A1841 B1842 .ready none),(6,.dat 6 [(Q6 l)])],7⟩) qe ?_ ?_
     ·refine qc<|O _ J<|O _ J<|O _ J<|qa J<|q8<|q7 af fun ax ay af=>Qc<|Qm (q2i l g a c) (fun h=>⟨[(0,.yld 5),(4,.ref 6 6 0 0),(5,q9 g.1),(6,q9 h.1),(8,.d (.sl 6 (a.map Q6))),(9,q9 (a.length : Int)),(10,q9 k.1)],[(0,.dat 1 [[.sl 6 (a.map Q6)]]),(1,.dat 3 [(Qs c)]),(2,.dat 1 [[qd h.2.1]]),(3,.dat 1 [[qd h.2.2]]),(4,.dat 1 [[.sl 6 (a.map Q6)]]),(5,.loop [(2,.ref 0 1 0 0),(3,.ref 1 3 0 0),(4,.ref 2 1 0 0),(5,.ref 3 1 0 0),(6,q9 0),(18,.fn 86 [.ref 4 1 0 0])] [19] A1841 B1842 .ready none),(6,.dat 6 [(Q6 l)])],7⟩) _ ax ay (wkA [(6,6)] [] []) ?_;intro h bp p;unfold q2i at p;refine qg<|qc<|U J<|O _ J<|O _ J<|O _ J<|O _ J<|q8 ?_;refine qn J p (fun _ p=>?_) (fun _ p=>?_)
      ·refine qp<|qg<|q7 p fun az ag p=>?_;refine Qo (fun y=>y = az) (fun y=>⟨[(0,.yld 5),(4,.ref 6 6 0 0),(5,q9 g.1),(6,q9 h.1),(8,.d (.sl 6 (a.map Q6))),(9,q9 (a.length : Int)),(10,q9 k.1)],[(0,.dat 1 [[.sl 6 (a.map Q6)]]),(1,.dat 3 [(Qs c)]),(2,.dat 1 [[qd y.1]]),(3,.dat 1 [[qd y.2]]),(4,.dat 1 [[.sl 6 (a.map Q6)]]),(5,.loop [(2,.ref 0 1 0 0),(3,.ref 1 3 0 0),(4,.ref 2 1 0 0),(5,.ref 3 1 0 0),(6,q9 0),(18,.fn 86 [.ref 4 1 0 0])] [19] A1841 B1842 .ready none),(6,.dat 6 [(Q6 l)])],7⟩) qe ?_ ?_
       ·refine qc<|O _ J<|O _ J<|O _ J<|qa J<|q8<|q7 ag fun ba bb ag=>Qc<|Qm (q2j l g h a c) (fun m=>⟨[(0,.yld 5),(4,.ref 6 6 0 0),(5,q9 g.1),(6,q9 h.1),(7,q9 m.1),(8,.d (.sl 6 (a.map Q6))),(9,q9 (a.length : Int)),(10,q9 k.1)],[(0,.dat 1 [[.sl 6 (a.map Q6)]]),(1,.dat 3 [(Qs c)]),(2,.dat 1 [[qd m.2.1]]),(3,.dat 1 [[qd m.2.2]]),(4,.dat 1 [[.sl 6 (a.map Q6)]]),(5,.loop [(2,.ref 0 1 0 0),(3,.ref 1 3 0 0),(4,.ref 2 1 0 0),(5,.ref 3 1 0 0),(6,q9 0),(18,.fn 86 [.ref 4 1 0 0])] [19] A1841 B1842 .ready none),(6,.dat 6 [(Q6 l)])],7⟩) _ ba bb (wkA [(6,6)] [] []) ?_;intro m bq q;unfold q2j at q;refine qg<|qc<|U J<|O _ J<|O _ J<|O _ J<|O _ J<|q8 ?_;refine qn J q (fun _ q=>?_) (fun _ q=>?_)
        ·refine qp<|qg<|Qc<|qc<|U J<|U J<|U J<|U J<|O _ J<|q7 q fun bc z q=>?_;refine qd7 (fun aa=>aa = bc) (fun aa=>⟨[(0,.yld 5),(4,.ref 6 6 0 0),(5,q9 g.1),(6,q9 h.1),(7,q9 m.1),(8,.d (.sl 6 (a.map Q6))),(9,q9 (a.length : Int)),(10,q9 k.1),(49,Q2 true)],[(0,.dat 1 [[.sl 6 (a.map Q6)]]),(1,.dat 3 [(Qs c)]),(2,.dat 1 [[qd aa.1]]),(3,.dat 1 [[qd aa.2]]),(4,.dat 1 [[.sl 6 (a.map Q6)]]),(5,.loop [(2,.ref 0 1 0 0),(3,.ref 1 3 0 0),(4,.ref 2 1 0 0),(5,.ref 3 1 0 0),(6,q9 0),(18,.fn 86 [.ref 4 1 0 0])] [19] A1841 B1842 .ready none),(6,.dat 6 [(Q6 l)])],7⟩) hA1841 hB1842 J J J J J J ?_ ?_
         ·refine Q5<|Qr J J<|Qd 7 _ J<|Q4 ?_;refine ⟨J,_,J,?_⟩;refine Qc<|qc<|q7 z fun b bd z=>Q1 (qqi b bd) J<|U J<|q8<|q7 z fun be bf z=>Qc<|Qm (q2k b g h m a c) (fun ab=>⟨[(2,.ref 0 1 0 0),(3,.ref 1 3 0 0),(4,.ref 2 1 0 0),(5,.ref 3 1 0 0),(8,.ref 7 3 0 0),(20,.d (.agg [qd b.1.X,qd b.1.Y,qd b.1.Z,qd b.2.1.X,qd b.2.1.Y,qd b.2.1.Z,qd b.2.2.1.X,qd b.2.2.1.Y,qd b.2.2.1.Z,qd b.2.2.2.1.X,qd b.2.2.2.1.Y,qd b.2.2.2.1.Z,qd b.2.2.2.2.1.X,qd b.2.2.2.2.1.Y,qd b.2.2.2.2.1.Z,qd b.2.2.2.2.2.X,qd b.2.2.2.2.2.Y,qd b.2.2.2.2.2.Z])),(21,q9 ab.1)],[(0,.dat 1 [[.sl 6 (a.map Q6)]]),(1,.dat 3 [(Qs c)]),(2,.dat 1 [[qd ab.2.1]]),(3,.dat 1 [[qd ab.2.2]]),(4,.dat 1 [[.sl 6 (a.map Q6)]]),(5,.loop [(2,.ref 0 1 0 0),(3,.ref 1 3 0 0),(4,.ref 2 1 0 0),(5,.ref 3 1 0 0),(6,q9 0),(18,.fn 86 [.ref 4 1 0 0])] [19] A1841 B1842 .busy none),(6,.dat 6 [(Q6 l)]),(7,.dat 3 [[qd g.1,qd h.1,qd m.1]])],8⟩) _ be bf (wkA [(7,7)] [] []) ?_;intro ab br s;unfold q2k at s;refine qc<|O _ J<|q8<|qg ?_;refine qn J s (fun _ s=>?_) (fun _ s=>?_)
          ·refine qp<|qg<|q7 s fun bg f s=>?_;refine Qo (fun ac=>ac = bg) (fun ac=>⟨[(2,.ref 0 1 0 0),(3,.ref 1 3 0 0),(4,.ref 2 1 0 0),(5,.ref 3 1 0 0),(8,.ref 7 3 0 0),(20,.d (.agg [qd b.1.X,qd b.1.Y,qd b.1.Z,qd b.2.1.X,qd b.2.1.Y,qd b.2.1.Z,qd b.2.2.1.X,qd b.2.2.1.Y,qd b.2.2.1.Z,qd b.2.2.2.1.X,qd b.2.2.2.1.Y,qd b.2.2.2.1.Z,qd b.2.2.2.2.1.X,qd b.2.2.2.2.1.Y,qd b.2.2.2.2.1.Z,qd b.2.2.2.2.2.X,qd b.2.2.2.2.2.Y,qd b.2.2.2.2.2.Z])),(21,q9 ab.1)],[(0,.dat 1 [[.sl 6 (a.map Q6)]]),(1,.dat 3 [(Qs c)]),(2,.dat 1 [[qd ac.1]]),(3,.dat 1 [[qd ac.2]]),(4,.dat 1 [[.sl 6 (a.map Q6)]]),(5,.loop [(2,.ref 0 1 0 0),(3,.ref 1 3 0 0),(4,.ref 2 1 0 0),(5,.ref 3 1 0 0),(6,q9 0),(18,.fn 86 [.ref 4 1 0 0])] [19] A1841 B1842 .busy none),(6,.dat 6 [(Q6 l)]),(7,.dat 3 [[qd g.1,qd h.1,qd m.1]])],8⟩) qe ?_ ?_
           ·refine qc<|q7 f fun ah bh f=>qd6 (enc:=Qs) [b.1,b.2.1,b.2.2.1,b.2.2.2.1,b.2.2.2.2.1,b.2.2.2.2.2] (.d (.agg (Qs ah))) bh (fun _=>rfl) J J J J J J<|Qr J J<|Qd 8 _ J<|q8<|Qc<|qg<|Qi [q6,q6,q6,qx 8,qx 7,qx 0] qi<|O _ J<|O _ J<|O _ J<|q7 f fun ai bi f=>Q1 (qbq ({X:=g.1,Y:=h.1,Z:=m.1} : qh) ah ai bi) J<|q7 f fun bj bk f=>Q1 (qi7 a ai bj bk) J<|qa J<|q8 ?_;refine qn J f (fun _ f=>?_) (fun _ f=>?_)
            ·refine qp<|Ql<|Qp<|Ql ?_;obtain rfl:=qw f;exact ⟨_,J,wkA [(7,7)] [] []⟩
            refine qc<|O _ J<|O _ J<|O _ J<|O _ J<|q7 f fun bl bm f=>Q1 (qqf a ({X:=g.1,Y:=h.1,Z:=m.1} : qh) ah c bl bm) J<|qa J<|q8 ?_;refine qn J f (fun _ f=>?_) (fun _ f=>?_)
            ·refine Q5<|O _ J<|O _ J<|Qd 2 _ J<|Q4<|Qp<|Ql ?_;obtain rfl:=qw f;exact ⟨_,J,wkA [(7,7)] [] []⟩
            refine Q5<|O _ J<|O _ J<|Qd 3 _ J<|Q4<|Qp<|Ql ?_;obtain rfl:=qw f;exact ⟨_,J,wkA [(7,7)] [] []⟩
           intro ac hb;subst hb;refine Q5<|O _ J<|U J<|Q4<|⟨_,qr s,wkA [(7,7)] [] []⟩
          refine Qh ?_;refine ⟨_,qr s,fun hm=>?_⟩;subst hm;refine ⟨_,J,?_⟩;obtain rfl:=qw z;exact ⟨_,J,wkA [(6,6)] [] []⟩
         intro aa hb;subst hb;refine O _ J<|q8<|Ul J<|qp<|Ql<|Qp<|Q5<|U J<|O _ J<|qa J<|Q4<|⟨_,qr q,wkA [(6,6)] [] []⟩
        refine Qh ?_;refine ⟨_,qr q,fun hm=>?_⟩;subst hm;obtain rfl:=qw ag;exact ⟨_,J,wkA [(6,6)] [] []⟩
       intro y hb;subst hb;refine Q5<|U J<|O _ J<|qa J<|Q4<|⟨_,qr p,wkA [(6,6)] [] []⟩
      refine Qh ?_;refine ⟨_,qr p,fun hm=>?_⟩;subst hm;obtain rfl:=qw af;exact ⟨_,J,wkA [(6,6)] [] []⟩
     intro x hb;subst hb;refine Q5<|U J<|O _ J<|qa J<|Q4<|⟨_,qr o,wkA [(6,6)] [] []⟩
    refine Qh ?_;refine ⟨_,qr o,fun hm=>?_⟩;subst hm;obtain rfl:=qw u;exact ⟨_,J,wkA [] [] []⟩
   intro v hb;subst hb;refine Q5<|O _ J<|U J<|Q4<|⟨_,qr n,wkA [] [] []⟩
  refine Qh ?_;refine ⟨_,qr n,fun hm=>?_⟩;subst hm;refine ⟨.inl J,_,J,_,_,.nor,J,Q3,?_⟩;refine qc3<|Ql ?_;obtain rfl:=qw ae;exact ⟨_,J,wkA [(0,2),(1,3)] [] []⟩
 intro t st hb hw;subst hb;refine Za hw ?_ qe;refine qg<|Qi [q6,Qt 1,Qt 0,qx 1,qx 0] qi<|O _ J<|O _ J<|Qd 0 _ J<|Qd 1 _ J<|qa J<|qu ?_;cases j;exact Q7 _ J
end Go.Proofs.YtmnfbjlabfeneaaGreat
