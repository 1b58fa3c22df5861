/- W_Allc -/
import Derived.Test.YtmnfbjlabfeneaaGreatK16
namespace Go.Proofs.YtmnfbjlabfeneaaGreat
open Go Go.Am Go.Sh
set_option maxHeartbeats 8000000
set_option maxRecDepth 100000
theorem qoj (c : List qg) (b : ql) (d : ql) (f : ql) (r : Bool) (a : q80 c b d f = some r) : Pure Tryz.prog tab 44 [.sl 6 (c.map Q6),.agg (K4 b),.agg (K4 d),.agg (K4 f)] (.bool r):=by
 unfold q80 at a;refine Qr Tryz.func44 J qh qh J<|qc<|Qp _ _ J<|Qp _ _ J<|Qp _ _ J<|qa J<|q9<|qf<|qc<|O _ J<|O _ J<|O _ J<|O _ J<|O _ J<|O _ J<|O _ J<|O _ J<|O _ J<|O _ J<|O _ J<|O _ J<|O _ J<|O _ J<|O _ J<|O _ J<|O _ J<|O _ J<|q9 ?_;refine qo J a (fun _ a=>?_) (fun _ a=>?_)
 ·refine qc<|qa J<|qv ?_;cases a;exact Q8 _ J
 refine qm<|qf<|Qm [Qu 3,(some [],[3]),q6,q6,qx 1,q6,q6,qx 0,qx 0] qh<|O _ J<|O _ J<|q8 a fun g k a=>Q5 (qaz b b g k) J<|O _ J<|O _ J<|q8 a fun h l a=>Q5 (qaz ({X:=1,Y:=1,Z:=1} : ql) d h l) J<|q8 a fun j m a=>Q5 (qaz g h j m) J<|Qt J J<|Qe 3 _ J<|qt<|O _ J<|O _ J<|O _ J<|U J<|q8 a fun n o a=>Q5 (qhf ({p_:=j,d_:=f} : Yd) c n o) J<|qa J<|qv ?_;cases a;exact Q8 _ J
theorem qod (f : List qg) (g : ql) (k : Int) (h : ql) (r : Bool × Int) (a : q3d f g k h = some r) : Pure Tryz.prog tab 13 [.sl 6 (f.map Q6),.agg (K4 g),.int .u8 k,.agg (K4 h)] (.tup [.bool r.1,qd r.2]):=by
 unfold q3d at a;refine Qr Tryz.func13 J qh qh J<|qc<|Qp _ _ J<|Qp _ _ J<|qa J<|qa J<|q9<|qf<|qc<|U J<|O _ J<|q8 a fun t u a=>Q5 (qay f h t u) J<|qa J<|qt<|U J<|O _ J<|q9 ?_;refine qo J a (fun _ a=>?_) (fun _ a=>?_)
 ·refine qc<|U J<|qa J<|qa J<|qv ?_;cases a;exact Q8 _ J
 refine qm<|qf<|qc<|U J<|O _ J<|q9 ?_;refine qo J a (fun _ a=>?_) (fun _ a=>?_)
 ·refine qc<|qa J<|qa J<|qv ?_;cases a;exact Q8 _ J
 refine qm<|qc<|q8 a fun c v a=>Q5 (qom c v) J<|U J<|q8 a fun j x a=>qcd (enc:=K4) [c.1,c.2.1,c.2.2.1,c.2.2.2.1,c.2.2.2.2.1,c.2.2.2.2.2] (.d (.agg (K4 j))) x (fun _=>rfl) J J J J J J<|Qt J J<|Qe 2 _ J<|q9<|qf<|qc<|U J<|O _ J<|q8 a fun y z a=>Q5 (qh5 f g y z) J<|O _ J<|q8 a fun aa b a=>?_;refine Qc 7 (fun A st=>∃ l m n o p q,st = A [(33,Q1 aa),(32,q),(31,p),(30,o),(29,n),(28,m),(27,l)]) ?_ ?_
 ·refine Qd J J b (fun b=>?_) (fun b=>?_)
  ·refine qb J<|qb J<|qb J<|qb J<|qb J<|O _ J<|q9 ?_;cases b;exact ⟨_,_,_,_,_,_,J⟩
  refine U J<|O _ J<|O _ J<|q8 b fun s ab b=>Q5 (qaz g j s ab) J<|q8 b fun ac ad b=>Q5 (qh5 f s ac ad) J<|O _ J<|q9 ?_;cases b;exact ⟨_,_,_,_,_,_,J⟩
 rintro _ ⟨l,m,n,o,p,q,rfl⟩;refine q9 ?_;refine qo J a (fun _ a=>?_) (fun _ a=>?_)
 ·refine qc<|qa J<|qa J<|qv ?_;cases a;exact Q8 _ J
 refine qm<|qc<|U J<|O _ J<|O _ J<|O _ J<|q8 a fun ae af a=>Q5 (qoj f g j h ae af) J<|qa J<|qa J<|qv ?_;cases a;exact Q8 _ J
theorem qmk (h : ql) (j : Int) (r : Bool) (a : q61 h j = some r) : Pure Tryz.prog tab 129 [.agg (K4 h),qd j] (.bool r):=by
 unfold q61 at a;refine Qr Tryz.func129 J qh qh J<|qc<|Qp _ _ J<|qa J<|qt<|O _ J<|O _ J<|U J<|O _ J<|q8 a fun c1 b a=>?_;refine Qc 6 (fun A st=>∃ k l m n o,st = A [(14,Q1 c1),(13,o),(12,n),(11,m),(10,l),(9,k)]) ?_ ?_
 ·refine Qd J J b (fun b=>?_) (fun b=>?_)
  ·refine O _ J<|O _ J<|U J<|O _ J<|O _ J<|q9 ?_;cases b;exact ⟨_,_,_,_,_,J⟩
  refine qb J<|qb J<|qb J<|qb J<|O _ J<|q9 ?_;cases b;exact ⟨_,_,_,_,_,J⟩
 rintro _ ⟨k,l,m,n,o,rfl⟩;refine q8 a fun c8 c a=>?_;refine Qc 6 (fun A st=>∃ p q s t u,st = A [(20,Q1 c8),(19,u),(18,t),(17,s),(16,q),(15,p)]) ?_ ?_
 ·refine Qd J J c (fun c=>?_) (fun c=>?_)
  ·refine O _ J<|O _ J<|U J<|O _ J<|O _ J<|q9 ?_;cases c;exact ⟨_,_,_,_,_,J⟩
  refine qb J<|qb J<|qb J<|qb J<|O _ J<|q9 ?_;cases c;exact ⟨_,_,_,_,_,J⟩
 rintro _ ⟨p,q,s,t,u,rfl⟩;refine q8 a fun ak d a=>?_;refine Qc 5 (fun A st=>∃ v x y z,st = A [(25,Q1 ak),(24,z),(23,y),(22,x),(21,v)]) ?_ ?_
 ·refine Qd J J d (fun d=>?_) (fun d=>?_)
  ·refine O _ J<|O _ J<|O _ J<|O _ J<|q9 ?_;cases d;exact ⟨_,_,_,_,J⟩
  refine qb J<|qb J<|qb J<|O _ J<|q9 ?_;cases d;exact ⟨_,_,_,_,J⟩
 rintro _ ⟨v,x,y,z,rfl⟩;refine q8 a fun al f a=>?_;refine Qc 5 (fun A st=>∃ aa ab ac ad,st = A [(30,Q1 al),(29,ad),(28,ac),(27,ab),(26,aa)]) ?_ ?_
 ·refine Qd J J f (fun f=>?_) (fun f=>?_)
  ·refine O _ J<|O _ J<|O _ J<|O _ J<|q9 ?_;cases f;exact ⟨_,_,_,_,J⟩
  refine qb J<|qb J<|qb J<|O _ J<|q9 ?_;cases f;exact ⟨_,_,_,_,J⟩
 rintro _ ⟨aa,ab,ac,ad,rfl⟩;refine q8 a fun am g a=>?_;refine Qc 5 (fun A st=>∃ ae af ag ah,st = A [(35,Q1 am),(34,ah),(33,ag),(32,af),(31,ae)]) ?_ ?_
 ·refine Qd J J g (fun g=>?_) (fun g=>?_)
  ·refine O _ J<|O _ J<|O _ J<|O _ J<|q9 ?_;cases g;exact ⟨_,_,_,_,J⟩
  refine qb J<|qb J<|qb J<|O _ J<|q9 ?_;cases g;exact ⟨_,_,_,_,J⟩
 rintro _ ⟨ae,af,ag,ah,rfl⟩;refine qa J<|qv ?_;cases a;exact Q8 _ J
theorem qwa (g : qg) (r : Bool) (a : q97 g = some r) : Pure Tryz.prog tab 112 [.agg (Q6 g)] (.bool r):=by
 unfold q97 at a;refine Qr Tryz.func112 J qh qh J<|qc<|Qp _ _ J<|qa J<|qt<|O _ J<|O _ J<|q8 a fun r1 h2 a=>Q5 (qmk g.Lo (-1000000) r1 h2) J<|q8 a fun c5 b a=>?_;refine Qc 5 (fun A st=>∃ h j k l,st = A [(11,Q1 c5),(10,l),(9,k),(8,j),(7,h)]) ?_ ?_
 ·refine Qd J J b (fun b=>?_) (fun b=>?_)
  ·refine O _ J<|O _ J<|q8 b fun ap aq b=>Q5 (qmk g.Hi (-1000000) ap aq) J<|O _ J<|q9 ?_;cases b;exact ⟨_,_,_,_,J⟩
  refine qb J<|qb J<|qb J<|O _ J<|q9 ?_;cases b;exact ⟨_,_,_,_,J⟩
 rintro _ ⟨h,j,k,l,rfl⟩;refine qa J<|qt<|U J<|q8 a fun ar c a=>?_;refine Qc 9 (fun A st=>∃ m n o p q s t u,st = A [(21,Q1 ar),(20,u),(19,t),(18,s),(17,q),(16,p),(15,o),(14,n),(13,m)]) ?_ ?_
 ·refine Qd J J c (fun c=>?_) (fun c=>?_)
  ·refine O _ J<|O _ J<|O _ J<|O _ J<|O _ J<|O _ J<|O _ J<|O _ J<|q9 ?_;cases c;exact ⟨_,_,_,_,_,_,_,_,J⟩
  refine qb J<|qb J<|qb J<|qb J<|qb J<|qb J<|qb J<|O _ J<|q9 ?_;cases c;exact ⟨_,_,_,_,_,_,_,_,J⟩
 rintro _ ⟨m,n,o,p,q,s,t,u,rfl⟩;refine q8 a fun au d a=>?_;refine Qc 9 (fun A st=>∃ v x y z aa ab ac ad,st = A [(30,Q1 au),(29,ad),(28,ac),(27,ab),(26,aa),(25,z),(24,y),(23,x),(22,v)]) ?_ ?_
 ·refine Qd J J d (fun d=>?_) (fun d=>?_)
  ·refine O _ J<|O _ J<|O _ J<|O _ J<|O _ J<|O _ J<|O _ J<|O _ J<|q9 ?_;cases d;exact ⟨_,_,_,_,_,_,_,_,J⟩
  refine qb J<|qb J<|qb J<|qb J<|qb J<|qb J<|qb J<|O _ J<|q9 ?_;cases d;exact ⟨_,_,_,_,_,_,_,_,J⟩
 rintro _ ⟨v,x,y,z,aa,ab,ac,ad,rfl⟩;refine q8 a fun av f a=>?_;refine Qc 9 (fun A st=>∃ ae af ag ah ai aj ak al,st = A [(39,Q1 av),(38,al),(37,ak),(36,aj),(35,ai),(34,ah),(33,ag),(32,af),(31,ae)]) ?_ ?_
 ·refine Qd J J f (fun f=>?_) (fun f=>?_)
  ·refine O _ J<|O _ J<|O _ J<|O _ J<|O _ J<|O _ J<|O _ J<|O _ J<|q9 ?_;cases f;exact ⟨_,_,_,_,_,_,_,_,J⟩
  refine qb J<|qb J<|qb J<|qb J<|qb J<|qb J<|qb J<|O _ J<|q9 ?_;cases f;exact ⟨_,_,_,_,_,_,_,_,J⟩
 rintro _ ⟨ae,af,ag,ah,ai,aj,ak,al,rfl⟩;refine qa J<|qv ?_;cases a;exact Q8 _ J
theorem qgj (g : List Int) (r : List Int) (n : U0 g = some r) : Pure Tryz.prog tab 115 [.sl 1 (g.map (eI .i64))] (.sl 1 (r.map (eI .i64))):=by
 unfold U0 at n;refine Qr Tryz.func115 J qh qh J<|qc<|qa J<|qt<|qa J<|q9<|qf<|qc<|qa J<|q9<|q8 n fun s bb n=>?_;refine Qn (fun l=>l = s) (fun l=>⟨[(3,.hs 0 1 0 l.length)],[(0,.dat 1 (l.map (eI .i64)))],1⟩) qe ?_ ?_
 ·refine Qj (q47 g) (fun b=>⟨[(0,.d (.sl 1 (g.map (eI .i64)))),(3,.hs 0 1 0 b.2.length),(4,q7 b.1)],[(0,.dat 1 (b.2.map (eI .i64)))],1⟩) _ s bb (wkA [] [] [0]) ?_;intro b bk h;unfold q47 at h;refine qf<|qc<|U J<|U J<|Qx J<|O _ J<|q9 ?_;refine qo J h (fun _ h=>?_) (fun _ h=>?_)
  ·refine qm<|qf<|q8 h fun bc a h=>?_;refine Qn (fun m=>m = bc) (fun m=>⟨[(0,.d (.sl 1 (g.map (eI .i64)))),(3,.hs 0 1 0 m.length),(4,q7 b.1)],[(0,.dat 1 (m.map (eI .i64)))],1⟩) qe ?_ ?_
   ·refine qc<|U J<|O _ J<|qa J<|q9<|qf<|q8 a fun t bd a=>?_;refine Qn (fun o=>o = t) (fun o=>⟨[(0,.d (.sl 1 (g.map (eI .i64)))),(3,.hs 0 1 0 b.2.length),(4,q7 b.1),(5,q7 o)],[(0,.dat 1 (b.2.map (eI .i64)))],1⟩) qe ?_ ?_
    ·refine Qj (q48 b g) (fun u=>⟨[(0,.d (.sl 1 (g.map (eI .i64)))),(3,.hs 0 1 0 b.2.length),(4,q7 b.1),(5,q7 u)],[(0,.dat 1 (b.2.map (eI .i64)))],1⟩) _ t bd (wkA [(0,0)] [] []) ?_;intro u bl j;unfold q48 at j;refine qf<|qf<|Qm [q6,q6,q6,q6,q6,q6,qx 0,q6,q6,q6,q6,q6,q6,q6] qh<|U J<|O _ J<|q8 j fun be c j=>?_;refine Qc 12 (fun A st=>∃ v x y z aa ab ac ad ae af ag,st = A [(27,Q1 be),(26,ag),(25,af),(24,ae),(23,ad),(22,ac),(21,ab),(20,aa),(19,z),(18,y),(17,x),(16,v)]) ?_ ?_
     ·refine Qd J J c (fun c=>?_) (fun c=>?_)
      ·refine U J<|U J<|O _ J<|q8 c fun bm ah c=>Q2 ah J J<|Qg _ ah J<|U J<|U J<|q8 c fun bn bf c=>Ql bf J<|O _ J<|O _ J<|O _ J<|q9 ?_;cases c;exact ⟨_,_,_,_,_,_,_,_,_,_,_,J⟩
      refine qb J<|qb J<|qb J<|qb J<|qb J<|qb J<|qb J<|qb J<|qb J<|qb J<|O _ J<|q9 ?_;cases c;exact ⟨_,_,_,_,_,_,_,_,_,_,_,J⟩
     rintro _ ⟨v,x,y,z,aa,ab,ac,ad,ae,af,ag,rfl⟩;refine q9 ?_;refine qo J j (fun _ j=>?_) (fun _ j=>?_)
     ·refine qm<|Q7<|Q3<|U J<|O _ J<|qa J<|qz<|Qq<|Qk<|⟨_,qq j,wkA [(0,0)] [] []⟩
     refine Qh ?_;refine ⟨_,qq j,fun hm=>?_⟩;subst hm;exact ⟨_,J,wkA [(0,0)] [] []⟩
    intro o hb;subst hb;refine qf<|qf<|Qm [q6,q6,q6,q6,q6,q6,qx 0,q6,q6,q6,q6,q6,q6,q6] qh<|U J<|O _ J<|q8 a fun bg f a=>?_;refine Qc 12 (fun A st=>∃ ai aj ak al am an ao ap aq ar au,st = A [(43,Q1 bg),(42,au),(41,ar),(40,aq),(39,ap),(38,ao),(37,an),(36,am),(35,al),(34,ak),(33,aj),(32,ai)]) ?_ ?_
    ·refine Qd J J f (fun f=>?_) (fun f=>?_)
     ·refine U J<|U J<|O _ J<|q8 f fun bo av f=>Q2 av J J<|Qg _ av J<|U J<|U J<|q8 f fun bp bh f=>Ql bh J<|O _ J<|O _ J<|O _ J<|q9 ?_;cases f;exact ⟨_,_,_,_,_,_,_,_,_,_,_,J⟩
     refine qb J<|qb J<|qb J<|qb J<|qb J<|qb J<|qb J<|qb J<|qb J<|qb J<|O _ J<|q9 ?_;cases f;exact ⟨_,_,_,_,_,_,_,_,_,_,_,J⟩
    rintro _ ⟨ai,aj,ak,al,am,an,ao,ap,aq,ar,au,rfl⟩;refine q9 ?_;refine qo J a (fun _ a=>?_) (fun _ a=>?_)
    ·refine Qh ?_;obtain rfl:=qu a;exact ⟨_,J,wkA [(0,0)] [] []⟩
    refine qm<|qc<|U J<|Qp _ _ J<|q8 a fun p bi a=>Kv _ bi J J J J J J J (Ku J J) J J J J<|qa J<|q9<|qf<|Qm [Qu 2,q6,q6,q6,q6,q6,q6,q6] qh<|U J<|U J<|O _ J<|q8 a fun aw q a=>q8y q J J J J J (q8c J) (fun _=>rfl)<|U J<|U J<|q8 a fun k ax a=>q8y ax J J J J J (q8c J) (fun _=>rfl)<|qu8 (w:=aw) (xs:=p) (ys:=(p.drop k.1).take k.2) (enc:=(eI .i64)) (.hs 2 1 k.1 k.2) (qas q) J J J J J J (qqz (qas ax) J) J J J J ?_;have ay:=@qj1 _ p ((p.drop k.1).take k.2) aw (qas q);refine q9<|Q3<|U J<|U J<|U J<|U J<|q8 a fun az bj a=>Ql bj J<|O _ J<|q8 a fun bq ba a=>Q2 ba (by simp [ay]) J<|K0 (ds:=[qd az]) az ba J J J J J J J J (leb J) J<|qz ?_;obtain rfl:=qu a;exact ⟨_,J,wkE [(0,2)] [] [] J ⟨qp J,⟨_,J,K3 (by simp [ay]) J qw (ltd J)⟩,qp J,trivial⟩ ⟨Qo J J,trivial⟩⟩
   intro m hb;subst hb;refine Q3<|U J<|O _ J<|qa J<|qz<|⟨_,qq h,wkA [(0,0)] [] []⟩
  refine Qh ?_;refine ⟨_,qq h,fun hm=>?_⟩;subst hm;exact ⟨_,J,wkA [(0,0)] [] []⟩
 intro l hb;subst hb;refine qc<|U J<|qa J<|qv ?_;obtain rfl:=qu n;exact finD (.inr J) J (Zl J J) (.refl _)
theorem qw4 (j : List qg) (g : List qg) (r : List Int) (c : q96 j g = some r) : Pure Tryz.prog tab 130 [.sl 6 (j.map Q6),.sl 6 (g.map Q6)] (.sl 1 (r.map (eI .i64))):=by
 unfold q96 at c;refine Qr Tryz.func130 J qh qh J<|qc<|qa J<|qt<|qa J<|q9<|qf<|qc<|qa J<|q9<|q8 c fun m o c=>?_;refine Qn (fun h=>h = m) (fun h=>⟨[(1,.d (.sl 6 (g.map Q6))),(5,.hs 0 1 0 h.length)],[(0,.dat 1 (h.map (eI .i64)))],1⟩) qe ?_ ?_
 ·refine Qj (q4f j) (fun k=>⟨[(0,.d (.sl 6 (j.map Q6))),(1,.d (.sl 6 (g.map Q6))),(5,.hs 0 1 0 k.2.length),(6,q7 k.1)],[(0,.dat 1 (k.2.map (eI .i64)))],1⟩) _ m o (wkA [] [] [0]) ?_;intro k aa a;unfold q4f at a;refine qf<|qc<|U J<|U J<|Qx J<|O _ J<|q9 ?_;refine qo J a (fun _ a=>?_) (fun _ a=>?_)
  ·refine qm<|qf<|Q7<|Qm [q6,(some [0,1],[0,2]),(some [],[1]),q6,q6,q6,q6,q6,q6,q6,q6,q6,q6,q6,q6,q6] qh<|U J<|U J<|U J<|q8 a fun ab p a=>Ql p J<|O _ J<|O _ J<|O _ J<|U J<|U J<|q8 a fun ac q a=>Ql q J<|O _ J<|O _ J<|O _ J<|Qp _ _ J<|q8 a fun ad s a=>Kv _ s J J J J J J J (Ku J J) J J J J<|qa J<|qz<|Qq<|Q3<|U J<|O _ J<|qa J<|qz<|⟨_,qq a,wkA [(0,2)] [] []⟩
  refine Qh ?_;refine ⟨_,qq a,fun hm=>?_⟩;subst hm;exact ⟨_,J,wkA [(0,0)] [] []⟩
 intro h hb;subst hb;refine qf<|qc<|qa J<|q9<|q8 c fun n t c=>?_;refine Qn (fun f=>f = n) (fun f=>⟨[(5,.hs 0 1 0 f.length)],[(0,.dat 1 (f.map (eI .i64)))],1⟩) qe ?_ ?_
 ·refine Qj (q4g g) (fun l=>⟨[(1,.d (.sl 6 (g.map Q6))),(5,.hs 0 1 0 l.2.length),(7,q7 l.1)],[(0,.dat 1 (l.2.map (eI .i64)))],1⟩) _ n t (wkA [(0,0)] [] []) ?_;intro l ae b;unfold q4g at b;refine qf<|qc<|U J<|U J<|Qx J<|O _ J<|q9 ?_;refine qo J b (fun _ b=>?_) (fun _ b=>?_)
  ·refine qm<|qf<|Q7<|Qm [q6,(some [0,1],[0,2]),(some [],[1]),q6,q6,q6,q6,q6,q6,q6,q6,q6,q6,q6,q6,q6] qh<|U J<|U J<|U J<|q8 b fun af u b=>Ql u J<|O _ J<|O _ J<|O _ J<|U J<|U J<|q8 b fun ag v b=>Ql v J<|O _ J<|O _ J<|O _ J<|Qp _ _ J<|q8 b fun ah x b=>Kv _ x J J J J J J J (Ku J J) J J J J<|qa J<|qz<|Qq<|Q3<|U J<|O _ J<|qa J<|qz<|⟨_,qq b,wkA [(0,2)] [] []⟩
  refine Qh ?_;refine ⟨_,qq b,fun hm=>?_⟩;subst hm;exact ⟨_,J,wkA [(0,0)] [] []⟩
 intro f hb;subst hb;refine qf ?_;refine Ya (st':=⟨[(5,.d (.sl 1 (f.map (eI .i64))))],[],0⟩) (wkA [] [0] []) ?_ qe;refine Q3<|U J<|q8 c fun y z c=>Q5 (qgj f y z) J<|qa J<|qv ?_;cases c;exact Q8 _ J
theorem qcp (f : List qg) (g : Int) (r : List qi) (l : U1 f g = some r) : Pure Tryz.prog tab 131 [.sl 6 (f.map Q6),qd g] (.sl 4 (r.map qy)):=by
 unfold U1 at l;refine Qr Tryz.func131 J qh qh J<|qc<|qa J<|qt<|qa J<|q9<|qf<|qc<|qa J<|q9<|q8 l fun m y l=>?_;refine Qn (fun h=>h = m) (fun h=>⟨[(5,.hs 0 4 0 h.length)],[(0,.dat 4 (h.map qy))],1⟩) qe ?_ ?_
 ·refine Qj (q62 f g) (fun j=>⟨[(0,.d (.sl 6 (f.map Q6))),(1,q7 g),(5,.hs 0 4 0 j.2.length),(6,q7 j.1)],[(0,.dat 4 (j.2.map qy))],1⟩) _ m y (wkA [] [] [0]) ?_;intro j ai b;unfold q62 at b;refine qf<|qc<|U J<|U J<|Qx J<|O _ J<|q9 ?_;refine qo J b (fun _ b=>?_) (fun _ b=>?_)
  ·refine qm<|qf<|q8 b fun z a b=>?_;refine Qn (fun k=>k = z) (fun k=>⟨[(0,.d (.sl 6 (f.map Q6))),(1,q7 g),(5,.hs 0 4 0 k.length),(6,q7 j.1)],[(0,.dat 4 (k.map qy))],1⟩) qe ?_ ?_
   ·refine qc<|U J<|U J<|q8 a fun aj aa a=>Ql aa J<|O _ J<|O _ J<|O _ J<|U J<|O _ J<|q8 a fun ab c a=>?_;refine Qc 10 (fun A st=>∃ n o p q s t u v x,st = A [(30,Q1 ab),(29,x),(28,v),(27,u),(26,t),(25,s),(24,q),(23,p),(22,o),(21,n)]) ?_ ?_
    ·refine Qd J J c (fun c=>?_) (fun c=>?_)
     ·refine U J<|U J<|U J<|q8 c fun ak ac c=>Ql ac J<|O _ J<|O _ J<|O _ J<|O _ J<|O _ J<|q9 ?_;cases c;exact ⟨_,_,_,_,_,_,_,_,_,J⟩
     refine qb J<|qb J<|qb J<|qb J<|qb J<|qb J<|qb J<|qb J<|O _ J<|q9 ?_;cases c;exact ⟨_,_,_,_,_,_,_,_,_,J⟩
    rintro _ ⟨n,o,p,q,s,t,u,v,x,rfl⟩;refine q9 ?_;refine qo J a (fun _ a=>?_) (fun _ a=>?_)
    ·refine Qm [q6,(some [0,1],[0,2]),(some [],[1]),q6,q6,q6,q6,q6,q6,q6,q6,q6,q6,q6,q6,q6,q6,q6,q6,q6,q6,q6,q6,q6,q6,q6,q6,q6,q6] qh<|U J<|U J<|U J<|q8 a fun al ad a=>Ql ad J<|O _ J<|O _ J<|O _ J<|U J<|U J<|q8 a fun am ae a=>Ql ae J<|O _ J<|O _ J<|O _ J<|U J<|U J<|q8 a fun an af a=>Ql af J<|O _ J<|O _ J<|O _ J<|U J<|U J<|q8 a fun ao ag a=>Ql ag J<|O _ J<|O _ J<|O _ J<|O _ J<|Qp _ _ J<|q8 a fun ap ah a=>Kv _ ah J J J J J J J (Ku J J) J J J J<|qa J<|qz ?_;obtain rfl:=qu a;exact ⟨_,J,wkA [(0,2)] [] []⟩
    refine qm<|Qk ?_;obtain rfl:=qu a;exact ⟨_,J,wkA [(0,0)] [] []⟩
   intro k hb;subst hb;refine Q3<|U J<|O _ J<|qa J<|qz<|⟨_,qq b,wkA [(0,0)] [] []⟩
  refine Qh ?_;refine ⟨_,qq b,fun hm=>?_⟩;subst hm;exact ⟨_,J,wkA [(0,0)] [] []⟩
 intro h hb;subst hb;refine qc<|U J<|qa J<|qv ?_;obtain rfl:=qu l;exact finD (.inr J) J (Zl J J) (.refl _)
theorem qvy (j : List qi) (g : List qi) (r : List Int) (c : q94 j g = some r) : Pure Tryz.prog tab 91 [.sl 4 (j.map qy),.sl 4 (g.map qy)] (.sl 1 (r.map (eI .i64))):=by
 unfold q94 at c;refine Qr Tryz.func91 J qh qh J<|qc<|qa J<|qt<|qa J<|q9<|qf<|qc<|qa J<|q9<|q8 c fun m o c=>?_;refine Qn (fun h=>h = m) (fun h=>⟨[(1,.d (.sl 4 (g.map qy))),(5,.hs 0 1 0 h.length)],[(0,.dat 1 (h.map (eI .i64)))],1⟩) qe ?_ ?_
 ·refine Qj (q4b j) (fun k=>⟨[(0,.d (.sl 4 (j.map qy))),(1,.d (.sl 4 (g.map qy))),(5,.hs 0 1 0 k.2.length),(6,q7 k.1)],[(0,.dat 1 (k.2.map (eI .i64)))],1⟩) _ m o (wkA [] [] [0]) ?_;intro k aa a;unfold q4b at a;refine qf<|qc<|U J<|U J<|Qx J<|O _ J<|q9 ?_;refine qo J a (fun _ a=>?_) (fun _ a=>?_)
  ·refine qm<|qf<|Q7<|Qm [q6,(some [0,1],[0,2]),(some [],[1]),q6,q6,q6,q6,q6,q6,q6,q6,q6,q6,q6] qh<|U J<|U J<|U J<|q8 a fun ab p a=>Ql p J<|O _ J<|O _ J<|U J<|U J<|q8 a fun ac q a=>Ql q J<|O _ J<|O _ J<|Qp _ _ J<|q8 a fun ad s a=>Kv _ s J J J J J J J (Ku J J) J J J J<|qa J<|qz<|Qq<|Q3<|U J<|O _ J<|qa J<|qz<|⟨_,qq a,wkA [(0,2)] [] []⟩
  refine Qh ?_;refine ⟨_,qq a,fun hm=>?_⟩;subst hm;exact ⟨_,J,wkA [(0,0)] [] []⟩
 intro h hb;subst hb;refine qf<|qc<|qa J<|q9<|q8 c fun n t c=>?_;refine Qn (fun f=>f = n) (fun f=>⟨[(5,.hs 0 1 0 f.length)],[(0,.dat 1 (f.map (eI .i64)))],1⟩) qe ?_ ?_
 ·refine Qj (q4c g) (fun l=>⟨[(1,.d (.sl 4 (g.map qy))),(5,.hs 0 1 0 l.2.length),(7,q7 l.1)],[(0,.dat 1 (l.2.map (eI .i64)))],1⟩) _ n t (wkA [(0,0)] [] []) ?_;intro l ae b;unfold q4c at b;refine qf<|qc<|U J<|U J<|Qx J<|O _ J<|q9 ?_;refine qo J b (fun _ b=>?_) (fun _ b=>?_)
  ·refine qm<|qf<|Q7<|Qm [q6,(some [0,1],[0,2]),(some [],[1]),q6,q6,q6,q6,q6,q6,q6,q6,q6,q6,q6] qh<|U J<|U J<|U J<|q8 b fun af u b=>Ql u J<|O _ J<|O _ J<|U J<|U J<|q8 b fun ag v b=>Ql v J<|O _ J<|O _ J<|Qp _ _ J<|q8 b fun ah x b=>Kv _ x J J J J J J J (Ku J J) J J J J<|qa J<|qz<|Qq<|Q3<|U J<|O _ J<|qa J<|qz<|⟨_,qq b,wkA [(0,2)] [] []⟩
  refine Qh ?_;refine ⟨_,qq b,fun hm=>?_⟩;subst hm;exact ⟨_,J,wkA [(0,0)] [] []⟩
 intro f hb;subst hb;refine qf ?_;refine Ya (st':=⟨[(5,.d (.sl 1 (f.map (eI .i64))))],[],0⟩) (wkA [] [0] []) ?_ qe;refine Q3<|U J<|q8 c fun y z c=>Q5 (qgj f y z) J<|qa J<|qv ?_;cases c;exact Q8 _ J
theorem qw0 (j : List qi) (g : List qi) (r : List Int) (c : q95 j g = some r) : Pure Tryz.prog tab 92 [.sl 4 (j.map qy),.sl 4 (g.map qy)] (.sl 1 (r.map (eI .i64))):=by
 unfold q95 at c;refine Qr Tryz.func92 J qh qh J<|qc<|qa J<|qt<|qa J<|q9<|qf<|qc<|qa J<|q9<|q8 c fun m o c=>?_;refine Qn (fun h=>h = m) (fun h=>⟨[(1,.d (.sl 4 (g.map qy))),(5,.hs 0 1 0 h.length)],[(0,.dat 1 (h.map (eI .i64)))],1⟩) qe ?_ ?_
 ·refine Qj (q4d j) (fun k=>⟨[(0,.d (.sl 4 (j.map qy))),(1,.d (.sl 4 (g.map qy))),(5,.hs 0 1 0 k.2.length),(6,q7 k.1)],[(0,.dat 1 (k.2.map (eI .i64)))],1⟩) _ m o (wkA [] [] [0]) ?_;intro k aa a;unfold q4d at a;refine qf<|qc<|U J<|U J<|Qx J<|O _ J<|q9 ?_;refine qo J a (fun _ a=>?_) (fun _ a=>?_)
  ·refine qm<|qf<|Q7<|Qm [q6,(some [0,1],[0,2]),(some [],[1]),q6,q6,q6,q6,q6,q6,q6,q6,q6,q6,q6] qh<|U J<|U J<|U J<|q8 a fun ab p a=>Ql p J<|O _ J<|O _ J<|U J<|U J<|q8 a fun ac q a=>Ql q J<|O _ J<|O _ J<|Qp _ _ J<|q8 a fun ad s a=>Kv _ s J J J J J J J (Ku J J) J J J J<|qa J<|qz<|Qq<|Q3<|U J<|O _ J<|qa J<|qz<|⟨_,qq a,wkA [(0,2)] [] []⟩
  refine Qh ?_;refine ⟨_,qq a,fun hm=>?_⟩;subst hm;exact ⟨_,J,wkA [(0,0)] [] []⟩
 intro h hb;subst hb;refine qf<|qc<|qa J<|q9<|q8 c fun n t c=>?_;refine Qn (fun f=>f = n) (fun f=>⟨[(5,.hs 0 1 0 f.length)],[(0,.dat 1 (f.map (eI .i64)))],1⟩) qe ?_ ?_
 ·refine Qj (q4e g) (fun l=>⟨[(1,.d (.sl 4 (g.map qy))),(5,.hs 0 1 0 l.2.length),(7,q7 l.1)],[(0,.dat 1 (l.2.map (eI .i64)))],1⟩) _ n t (wkA [(0,0)] [] []) ?_;intro l ae b;unfold q4e at b;refine qf<|qc<|U J<|U J<|Qx J<|O _ J<|q9 ?_;refine qo J b (fun _ b=>?_) (fun _ b=>?_)
  ·refine qm<|qf<|Q7<|Qm [q6,(some [0,1],[0,2]),(some [],[1]),q6,q6,q6,q6,q6,q6,q6,q6,q6,q6,q6] qh<|U J<|U J<|U J<|q8 b fun af u b=>Ql u J<|O _ J<|O _ J<|U J<|U J<|q8 b fun ag v b=>Ql v J<|O _ J<|O _ J<|Qp _ _ J<|q8 b fun ah x b=>Kv _ x J J J J J J J (Ku J J) J J J J<|qa J<|qz<|Qq<|Q3<|U J<|O _ J<|qa J<|qz<|⟨_,qq b,wkA [(0,2)] [] []⟩
  refine Qh ?_;refine ⟨_,qq b,fun hm=>?_⟩;subst hm;exact ⟨_,J,wkA [(0,0)] [] []⟩
 intro f hb;subst hb;refine qf ?_;refine Ya (st':=⟨[(5,.d (.sl 1 (f.map (eI .i64))))],[],0⟩) (wkA [] [0] []) ?_ qe;refine Q3<|U J<|q8 c fun y z c=>Q5 (qgj f y z) J<|qa J<|qv ?_;cases c;exact Q8 _ J
theorem qmi (h : List qi) (j : Int) (k : Int) (r : Bool) (g : q5y h j k = some r) : Pure Tryz.prog tab 94 [.sl 4 (h.map qy),qd j,qd k] (.bool r):=by
 unfold q5y at g;refine Qr Tryz.func94 J qh qh J<|qc<|qa J<|q9<|qf<|qc<|qa J<|q9<|q8 g fun m ao g=>?_;refine Qn (fun l=>.inl l = m) (fun l=>⟨[],[],0⟩) qe ?_ ?_
 ·refine Qj (q2u h j k) (fun n=>⟨[(0,.d (.sl 4 (h.map qy))),(1,q7 j),(2,q7 k),(7,q7 n)],[],0⟩) _ m ao (wkA [] [] []) ?_;intro n ay a;unfold q2u at a;refine qf<|qc<|U J<|U J<|Qx J<|O _ J<|q9 ?_;refine qo J a (fun _ a=>?_) (fun _ a=>?_)
  ·refine qm<|qf<|Q7<|qc<|U J<|U J<|q8 a fun az ap a=>Ql ap J<|O _ J<|O _ J<|U J<|O _ J<|q8 a fun aq b a=>?_;refine Qc 9 (fun A st=>∃ o p q s t u v x,st = A [(29,Q1 aq),(28,x),(27,v),(26,u),(25,t),(24,s),(23,q),(22,p),(21,o)]) ?_ ?_
   ·refine Qd J J b (fun b=>?_) (fun b=>?_)
    ·refine U J<|U J<|U J<|q8 b fun ba ar b=>Ql ar J<|O _ J<|O _ J<|O _ J<|O _ J<|q9 ?_;cases b;exact ⟨_,_,_,_,_,_,_,_,J⟩
    refine qb J<|qb J<|qb J<|qb J<|qb J<|qb J<|qb J<|O _ J<|q9 ?_;cases b;exact ⟨_,_,_,_,_,_,_,_,J⟩
   rintro _ ⟨o,p,q,s,t,u,v,x,rfl⟩;refine q8 a fun au c a=>?_;refine Qc 9 (fun A st=>∃ y z aa ab ac ad ae af,st = A [(38,Q1 au),(37,af),(36,ae),(35,ad),(34,ac),(33,ab),(32,aa),(31,z),(30,y)]) ?_ ?_
   ·refine Qd J J c (fun c=>?_) (fun c=>?_)
    ·refine U J<|U J<|q8 c fun bb av c=>Ql av J<|O _ J<|O _ J<|U J<|O _ J<|O _ J<|q9 ?_;cases c;exact ⟨_,_,_,_,_,_,_,_,J⟩
    refine qb J<|qb J<|qb J<|qb J<|qb J<|qb J<|qb J<|O _ J<|q9 ?_;cases c;exact ⟨_,_,_,_,_,_,_,_,J⟩
   rintro _ ⟨y,z,aa,ab,ac,ad,ae,af,rfl⟩;refine q8 a fun aw f a=>?_;refine Qc 9 (fun A st=>∃ ag ah ai aj ak al am an,st = A [(47,Q1 aw),(46,an),(45,am),(44,al),(43,ak),(42,aj),(41,ai),(40,ah),(39,ag)]) ?_ ?_
   ·refine Qd J J f (fun f=>?_) (fun f=>?_)
    ·refine U J<|U J<|U J<|q8 f fun bc ax f=>Ql ax J<|O _ J<|O _ J<|O _ J<|O _ J<|q9 ?_;cases f;exact ⟨_,_,_,_,_,_,_,_,J⟩
    refine qb J<|qb J<|qb J<|qb J<|qb J<|qb J<|qb J<|O _ J<|q9 ?_;cases f;exact ⟨_,_,_,_,_,_,_,_,J⟩
   rintro _ ⟨ag,ah,ai,aj,ak,al,am,an,rfl⟩;refine q9 ?_;refine qo J a (fun _ a=>?_) (fun _ a=>?_)
   ·refine qc<|qa J<|qv ?_;refine ⟨_,qq a,fun hm=>?_⟩;subst hm;cases g;exact Q8 _ J
   refine qm<|Qk<|Qq<|Q3<|U J<|O _ J<|qa J<|qz<|⟨_,qq a,wkA [] [] []⟩
  refine Qh ?_;refine ⟨_,qq a,fun hm=>?_⟩;subst hm;exact ⟨_,J,wkA [] [] []⟩
 intro l hb;subst hb;refine qc<|qa J<|qv ?_;cases g;exact Q8 _ J
theorem qvt (f : Int) (g : Bool) (h : Bool) (r : Bool) (a : q5w f g h = some r) : Pure Tryz.prog tab 93 [qd f,.bool g,.bool h] (.bool r):=by
 unfold q5w at a;refine Qr Tryz.func93 J qh qh J<|qc<|qa J<|q9<|qf<|qc<|U J<|O _ J<|q9 ?_;refine qo J a (fun _ a=>?_) (fun _ a=>?_)
 ·refine qc<|U J<|q8 a fun q b a=>?_;refine Qc 3 (fun A st=>∃ j k,st = A [(12,Q1 q),(11,k),(10,j)]) ?_ ?_
  ·refine Qd J J b (fun b=>?_) (fun b=>?_)
   ·refine U J<|O _ J<|q9 ?_;cases b;exact ⟨_,_,J⟩
   refine qb J<|O _ J<|q9 ?_;cases b;exact ⟨_,_,J⟩
  rintro _ ⟨j,k,rfl⟩;refine qa J<|qv ?_;cases a;exact Q8 _ J
 refine qm<|qf<|qc<|U J<|O _ J<|q9 ?_;refine qo J a (fun _ a=>?_) (fun _ a=>?_)
 ·refine qc<|U J<|q8 a fun s c a=>?_;refine Qc 3 (fun A st=>∃ l m,st = A [(18,Q1 s),(17,m),(16,l)]) ?_ ?_
  ·refine Qd J J c (fun c=>?_) (fun c=>?_)
   ·refine qb J<|O _ J<|q9 ?_;cases c;exact ⟨_,_,J⟩
   refine U J<|O _ J<|q9 ?_;cases c;exact ⟨_,_,J⟩
  rintro _ ⟨l,m,rfl⟩;refine qa J<|qv ?_;cases a;exact Q8 _ J
 refine qm<|qc<|U J<|q8 a fun t d a=>?_;refine Qc 4 (fun A st=>∃ n o p,st = A [(23,Q1 t),(22,p),(21,o),(20,n)]) ?_ ?_
 ·refine Qd J J d (fun d=>?_) (fun d=>?_)
  ·refine U J<|O _ J<|O _ J<|q9 ?_;cases d;exact ⟨_,_,_,J⟩
  refine qb J<|qb J<|O _ J<|q9 ?_;cases d;exact ⟨_,_,_,J⟩
 rintro _ ⟨n,o,p,rfl⟩;refine qa J<|qv ?_;cases a;exact Q8 _ J
theorem qvr (f : List Int) (g : List Bool) (r : List qj) (l : q45 f g = some r) : Pure Tryz.prog tab 95 [.sl 1 (f.map (eI .i64)),.sl 1 (g.map eB)] (.sl 2 (r.map Qi)):=by
 unfold q45 at l;refine Qr Tryz.func95 J qh qh J<|qc<|qa J<|qt<|qa J<|q9<|qf<|qc<|qa J<|q9<|q8 l fun m ae l=>?_;refine Qn (fun h=>h = m) (fun h=>⟨[(5,.hs 0 2 0 h.length)],[(0,.dat 2 (h.map Qi))],1⟩) qe ?_ ?_
 ·refine Qj (q46 f g) (fun j=>⟨[(0,.d (.sl 1 (f.map (eI .i64)))),(1,.d (.sl 1 (g.map eB))),(5,.hs 0 2 0 j.2.length),(6,q7 j.1)],[(0,.dat 2 (j.2.map Qi))],1⟩) _ m ae (wkA [] [] [0]) ?_;intro j ao c;unfold q46 at c;refine qf<|qc<|U J<|O _ J<|U J<|Qx J<|O _ J<|q9 ?_;refine qo J c (fun _ c=>?_) (fun _ c=>?_)
  ·refine qm<|qf<|q8 c fun af a c=>?_;refine Qn (fun k=>k = af) (fun k=>⟨[(0,.d (.sl 1 (f.map (eI .i64)))),(1,.d (.sl 1 (g.map eB))),(5,.hs 0 2 0 k.length),(6,q7 j.1)],[(0,.dat 2 (k.map Qi))],1⟩) qe ?_ ?_
   ·refine qf<|qc<|U J<|U J<|q8 a fun ap ag a=>Ql ag J<|O _ J<|O _ J<|q9 ?_;refine qo J a (fun _ a=>?_) (fun _ a=>?_)
    ·refine Qh ?_;obtain rfl:=qu a;exact ⟨_,J,wkA [(0,0)] [] []⟩
    refine qm<|qc<|U J<|O _ J<|qa J<|q9<|qf<|Qm [q6,q6,q6,q6,q6,q6,qx 0,q6,q6,q6,q6,q6,q6,q6,q6] qh<|U J<|O _ J<|q8 a fun ah b a=>?_;refine Qc 13 (fun A st=>∃ n o p q s t u v x y z aa,st = A [(36,Q1 ah),(35,aa),(34,z),(33,y),(32,x),(31,v),(30,u),(29,t),(28,s),(27,q),(26,p),(25,o),(24,n)]) ?_ ?_
    ·refine Qd J J b (fun b=>?_) (fun b=>?_)
     ·refine U J<|U J<|O _ J<|q8 b fun aq ab b=>Q2 ab J J<|O _ J<|Qg _ ab J<|U J<|U J<|q8 b fun ar ai b=>Ql ai J<|O _ J<|O _ J<|O _ J<|q9 ?_;cases b;exact ⟨_,_,_,_,_,_,_,_,_,_,_,_,J⟩
     refine qb J<|qb J<|qb J<|qb J<|qb J<|qb J<|qb J<|qb J<|qb J<|qb J<|qb J<|O _ J<|q9 ?_;cases b;exact ⟨_,_,_,_,_,_,_,_,_,_,_,_,J⟩
    rintro _ ⟨n,o,p,q,s,t,u,v,x,y,z,aa,rfl⟩;refine q9 ?_;refine qo J a (fun _ a=>?_) (fun _ a=>?_)
    ·refine Q3<|U J<|U J<|O _ J<|U J<|U J<|O _ J<|q8 a fun ac aj a=>Ql aj J<|O _ J<|q8 a fun ak ad a=>Q2 ad J J<|O _ J<|K0 (ds:=[qd ac]) ({Lo:=ak.Lo,Hi:=ac} : qj) ad J J J J J J J J (leb J) J<|qz ?_;obtain rfl:=qu a;exact ⟨_,J,wkE [(0,0)] [] [] J ⟨qp J,qp J,⟨_,J,K3 qe J qw (ltd J)⟩,qp J,trivial⟩ ⟨Qo J J,trivial⟩⟩
    refine Qm [q6,(some [0,1],[0,2]),(some [],[1]),q6,q6,q6,q6,q6,q6,q6,q6,q6,q6,q6] qh<|U J<|U J<|U J<|q8 a fun au al a=>Ql al J<|O _ J<|U J<|U J<|O _ J<|q8 a fun av am a=>Ql am J<|O _ J<|O _ J<|Qp _ _ J<|q8 a fun aw an a=>Kv _ an J J J J J J J (Ku J J) J J J J<|qa J<|qz ?_;obtain rfl:=qu a;exact ⟨_,J,wkA [(0,2)] [] []⟩
   intro k hb;subst hb;refine Q3<|U J<|O _ J<|qa J<|qz<|⟨_,qq c,wkA [(0,0)] [] []⟩
  refine Qh ?_;refine ⟨_,qq c,fun hm=>?_⟩;subst hm;exact ⟨_,J,wkA [(0,0)] [] []⟩
 intro h hb;subst hb;refine qc<|U J<|qa J<|qv ?_;obtain rfl:=qu l;exact finD (.inr J) J (Zl J J) (.refl _)
theorem qvu (c : List qj) (f : List qj) (r : Bool) (b : q5x c f = some r) : Pure Tryz.prog tab 96 [.sl 2 (c.map Qi),.sl 2 (f.map Qi)] (.bool r):=by
 unfold q5x at b;refine Qr Tryz.func96 J qh qh J<|qc<|qa J<|q9<|qf<|qc<|U J<|Qx J<|U J<|Qx J<|O _ J<|q9 ?_;refine qo J b (fun _ b=>?_) (fun _ b=>?_)
 ·refine qc<|qa J<|qv ?_;cases b;exact Q8 _ J
 refine qm<|qf<|qc<|qa J<|q9<|q8 b fun h k b=>?_;refine Qn (fun g=>.inl g = h) (fun g=>⟨[],[],0⟩) qe ?_ ?_
 ·refine Qj (qcl c f) (fun j=>⟨[(0,.d (.sl 2 (c.map Qi))),(1,.d (.sl 2 (f.map Qi))),(5,q7 j)],[],0⟩) _ h k (wkA [] [] []) ?_;intro j n a;unfold qcl at a;refine qf<|qc<|U J<|U J<|Qx J<|O _ J<|q9 ?_;refine qo J a (fun _ a=>?_) (fun _ a=>?_)
  ·refine qm<|qf<|Q7<|qf<|Qm [q6,q6,q6,q6,q6,q6,q6,q6,q6] qh<|U J<|U J<|q8 a fun o l a=>Ql l J<|O _ J<|U J<|U J<|q8 a fun p m a=>Ql m J<|O _ J<|O _ J<|q9 ?_;refine qo J a (fun _ a=>?_) (fun _ a=>?_)
   ·refine qc<|qa J<|qv ?_;refine ⟨_,qq a,fun hm=>?_⟩;subst hm;cases b;exact Q8 _ J
   refine qm<|Qk<|Qq<|Q3<|U J<|O _ J<|qa J<|qz<|⟨_,qq a,wkA [] [] []⟩
  refine Qh ?_;refine ⟨_,qq a,fun hm=>?_⟩;subst hm;exact ⟨_,J,wkA [] [] []⟩
 intro g hb;subst hb;refine qc<|qa J<|qv ?_;cases b;exact Q8 _ J
theorem qgk (j : Int) (f : List qi) (g : List qi) (r : List qi) (n : Jf j f g = some r) : Pure Tryz.prog tab 55 [qd j,.sl 4 (f.map qy),.sl 4 (g.map qy)] (.sl 4 (r.map qy)):=by
 unfold Jf at n;refine Qr Tryz.func55 J qh qh J<|qc<|qa J<|qt<|U J<|U J<|q8 n fun k h2 n=>Q5 (qvy f g k h2) J<|U J<|U J<|q8 n fun l h4 n=>Q5 (qw0 f g l h4) J<|qa J<|qa J<|qt<|qa J<|qt<|qa J<|qt<|qa J<|q9<|qf<|qc<|qa J<|q9<|q8 n fun ab ao n=>?_;refine Qn (fun t=>t = ab) (fun t=>⟨[(9,.hs 0 4 0 t.length)],[(0,.dat 4 (t.map qy))],1⟩) qe ?_ ?_
 ·refine Qj (q2v k l f g j) (fun a=>⟨[(0,q7 j),(1,.d (.sl 4 (f.map qy))),(2,.d (.sl 4 (g.map qy))),(7,.d (.sl 1 (k.map (eI .i64)))),(8,.d (.sl 1 (l.map (eI .i64)))),(9,.hs 0 4 0 a.2.2.2.length),(10,.d (.sl 2 (a.1.map Qi))),(11,q7 a.2.1),(12,q7 a.2.2.1)],[(0,.dat 4 (a.2.2.2.map qy))],1⟩) _ ab ao (wkA [] [] [0]) ?_;intro a bt o;unfold q2v at o;refine qf<|qc<|U J<|O _ J<|U J<|Qx J<|O _ J<|q9 ?_;refine qo J o (fun _ o=>?_) (fun _ o=>?_)
  ·refine qm<|qf<|q8 o fun ap h o=>?_;refine Qn (fun p=>p = ap) (fun p=>⟨[(0,q7 j),(1,.d (.sl 4 (f.map qy))),(2,.d (.sl 4 (g.map qy))),(7,.d (.sl 1 (k.map (eI .i64)))),(8,.d (.sl 1 (l.map (eI .i64)))),(9,.hs 0 4 0 p.2.2.length),(10,.d (.sl 2 (p.1.map Qi))),(11,q7 p.2.1),(12,q7 a.2.2.1)],[(0,.dat 4 (p.2.2.map qy))],1⟩) qe ?_ ?_
   ·refine qc<|qa J<|q9<|qf<|qc<|qa J<|q9<|q8 h fun ac aq h=>?_;refine Qn (fun q=>q = ac) (fun q=>⟨[(0,q7 j),(1,.d (.sl 4 (f.map qy))),(2,.d (.sl 4 (g.map qy))),(7,.d (.sl 1 (k.map (eI .i64)))),(8,.d (.sl 1 (l.map (eI .i64)))),(9,.hs 0 4 0 a.2.2.2.length),(10,.d (.sl 2 (a.1.map Qi))),(11,q7 a.2.1),(12,q7 a.2.2.1),(13,.hs 1 1 0 q.length)],[(0,.dat 4 (a.2.2.2.map qy)),(1,.dat 1 (q.map eB))],2⟩) qe ?_ ?_
    ·refine Qj (q49 l k a f g j) (fun x=>⟨[(0,q7 j),(1,.d (.sl 4 (f.map qy))),(2,.d (.sl 4 (g.map qy))),(7,.d (.sl 1 (k.map (eI .i64)))),(8,.d (.sl 1 (l.map (eI .i64)))),(9,.hs 0 4 0 a.2.2.2.length),(10,.d (.sl 2 (a.1.map Qi))),(11,q7 a.2.1),(12,q7 a.2.2.1),(13,.hs 1 1 0 x.2.length),(14,q7 x.1)],[(0,.dat 4 (a.2.2.2.map qy)),(1,.dat 1 (x.2.map eB))],2⟩) _ ac aq (wkA [(0,0)] [] [1]) ?_;intro x bu b;unfold q49 at b;refine qf<|qc<|U J<|U J<|Qx J<|O _ J<|q9 ?_;refine qo J b (fun _ b=>?_) (fun _ b=>?_)
     ·refine qm<|qf<|Q7<|Qm [q6,(some [1,2],[1,3]),(some [],[2]),q6,q6,q6,q6,q6,q6,q6,q6,q6,q6,q6,q6,q6,q6,q6,q6,q6,q6,q6,q6,q6,q6,q6] qh<|U J<|U J<|U J<|U J<|U J<|q8 b fun ar au b=>Ql au J<|O _ J<|U J<|U J<|q8 b fun av aw b=>Ql aw J<|O _ J<|q8 b fun ad ax b=>Q5 (qmi f ar av ad ax) J<|U J<|U J<|U J<|q8 b fun ay az b=>Ql az J<|O _ J<|U J<|U J<|q8 b fun ba bb b=>Ql bb J<|O _ J<|q8 b fun ae bc b=>Q5 (qmi g ay ba ae bc) J<|q8 b fun bd be b=>Q5 (qvt j ad ae bd be) J<|Qp _ _ J<|q8 b fun bv bf b=>Kv _ bf J J J J J J J (Ku J J) J J J J<|qa J<|qz<|Qq ?_;refine Q3<|U J<|O _ J<|qa J<|qz<|⟨_,qq b,wkA [(0,0),(1,3)] [] []⟩
     refine Qh ?_;refine ⟨_,qq b,fun hm=>?_⟩;subst hm;exact ⟨_,J,wkA [(0,0),(1,1)] [] []⟩
    intro q hb;subst hb;refine qf ?_;refine Ya (st':=⟨[(0,q7 j),(1,.d (.sl 4 (f.map qy))),(2,.d (.sl 4 (g.map qy))),(7,.d (.sl 1 (k.map (eI .i64)))),(8,.d (.sl 1 (l.map (eI .i64)))),(9,.hs 0 4 0 a.2.2.2.length),(10,.d (.sl 2 (a.1.map Qi))),(11,q7 a.2.1),(12,q7 a.2.2.1),(13,.d (.sl 1 (q.map eB)))],[(0,.dat 4 (a.2.2.2.map qy))],1⟩) (wkA [(0,0)] [1] []) ?_ qe;refine Q3<|U J<|U J<|q8 h fun u bg h=>Q5 (qvr l q u bg) J<|qa J<|q9<|qf<|qc<|U J<|O _ J<|q8 h fun bh s h=>?_;refine Qc 5 (fun A st=>∃ af ag ah ai,st = A [(71,Q1 bh),(70,ai),(69,ah),(68,ag),(67,af)]) ?_ ?_
    ·refine Qd J J s (fun s=>?_) (fun s=>?_)
     ·refine U J<|U J<|q8 s fun bi bj s=>Q5 (qvu u a.1 bi bj) J<|O _ J<|q9 ?_;cases s;exact ⟨_,_,_,_,J⟩
     refine qb J<|qb J<|qb J<|O _ J<|q9 ?_;cases s;exact ⟨_,_,_,_,J⟩
    rintro _ ⟨af,ag,ah,ai,rfl⟩;refine q9 ?_;refine qo J h (fun _ h=>?_) (fun _ h=>?_)
    ·refine qf<|qc<|U J<|qa J<|q9<|q8 h fun aj bk h=>?_;refine Qn (fun v=>v = aj) (fun v=>⟨[(0,q7 j),(1,.d (.sl 4 (f.map qy))),(2,.d (.sl 4 (g.map qy))),(7,.d (.sl 1 (k.map (eI .i64)))),(8,.d (.sl 1 (l.map (eI .i64)))),(9,.hs 0 4 0 v.length),(10,.d (.sl 2 (a.1.map Qi))),(11,q7 a.2.1),(12,q7 a.2.2.1)],[(0,.dat 4 (v.map qy))],1⟩) qe ?_ ?_
     ·refine Qj (q4a k a) (fun y=>⟨[(0,q7 j),(1,.d (.sl 4 (f.map qy))),(2,.d (.sl 4 (g.map qy))),(7,.d (.sl 1 (k.map (eI .i64)))),(8,.d (.sl 1 (l.map (eI .i64)))),(9,.hs 0 4 0 y.2.length),(10,.d (.sl 2 (a.1.map Qi))),(11,q7 a.2.1),(12,q7 a.2.2.1),(16,q7 y.1)],[(0,.dat 4 (y.2.map qy))],1⟩) _ aj bk (wkA [(0,0)] [] []) ?_;intro y bw m;unfold q4a at m;refine qf<|qc<|U J<|U J<|O _ J<|O _ J<|q9 ?_;refine qo J m (fun _ m=>?_) (fun _ m=>?_)
      ·refine qm<|qf<|Q7<|Q3<|U J<|U J<|U J<|U J<|O _ J<|q8 m fun ak bl m=>Ql bl J<|O _ J<|q8 m fun aa al m=>Q2 al J J<|O _ J<|K0 (ds:=[qd ak]) ({X0:=aa.X0,Y0:=aa.Y0,X1:=ak,Y1:=aa.Y1} : qi) al J J J J J J J J (leb J) J<|qz<|Qq<|Q3<|U J<|O _ J<|qa J<|qz<|⟨_,qq m,wkE [(0,0)] [] [] J ⟨qp J,qp J,qp J,qp J,qp J,⟨_,J,K3 qe J qw (ltd J)⟩,qp J,qp J,qp J,qp J,trivial⟩ ⟨Qo J J,trivial⟩⟩
      refine Qh ?_;refine ⟨_,qq m,fun hm=>?_⟩;subst hm;exact ⟨_,J,wkA [(0,0)] [] []⟩
     intro v hb;subst hb;refine Qh ?_;obtain rfl:=qu h;exact ⟨_,J,wkA [(0,0)] [] []⟩
    refine qm<|qc<|U J<|O _ J<|U J<|qa J<|qa J<|qt<|qa J<|q9<|q8 h fun bm bn h=>Q7<|Qj (q5z u k a) (fun z=>⟨[(0,q7 j),(1,.d (.sl 4 (f.map qy))),(2,.d (.sl 4 (g.map qy))),(7,.d (.sl 1 (k.map (eI .i64)))),(8,.d (.sl 1 (l.map (eI .i64)))),(9,.hs 0 4 0 z.2.length),(10,.d (.sl 2 (u.map Qi))),(11,q7 (a.2.2.2.length : Int)),(12,q7 a.2.2.1),(15,.d (.sl 2 (u.map Qi))),(17,q7 z.1)],[(0,.dat 4 (z.2.map qy))],1⟩) _ bm bn (wkA [(0,0)] [] []) ?_;intro z bz c;unfold q5z at c;refine qf<|qc<|U J<|U J<|Qx J<|O _ J<|q9 ?_;refine qo J c (fun _ c=>?_) (fun _ c=>?_)
    ·refine qm<|qf<|Q7<|Qm [q6,(some [0,1],[0,2]),(some [],[1]),q6,q6,q6,q6,q6,q6,q6,q6,q6,q6,q6,q6,q6,q6,q6,q6,q6,q6,q6,q6,q6] qh<|U J<|U J<|U J<|q8 c fun ca bo c=>Ql bo J<|O _ J<|U J<|U J<|q8 c fun cb bp c=>Ql bp J<|O _ J<|O _ J<|U J<|U J<|O _ J<|q8 c fun cc bq c=>Ql bq J<|O _ J<|U J<|U J<|q8 c fun cd br c=>Ql br J<|O _ J<|O _ J<|O _ J<|Qp _ _ J<|q8 c fun ce bs c=>Kv _ bs J J J J J J J (Ku J J) J J J J<|qa J<|qz<|Qq<|Q3<|U J<|O _ J<|qa J<|qz<|⟨_,qq c,wkA [(0,2)] [] []⟩
    refine Qh ?_;refine ⟨_,qq c,fun hm=>?_⟩;subst hm;obtain rfl:=qu h;exact ⟨_,J,wkA [(0,0)] [] []⟩
   intro p hb;subst hb;refine Q3<|U J<|O _ J<|qa J<|qz<|⟨_,qq o,wkA [(0,0)] [] []⟩
  refine Qh ?_;refine ⟨_,qq o,fun hm=>?_⟩;subst hm;exact ⟨_,J,wkA [(0,0)] [] []⟩
 intro t hb;subst hb;refine qc<|U J<|qa J<|qv ?_;obtain rfl:=qu n;exact finD (.inr J) J (Zl J J) (.refl _)
theorem qgl (c : List qi) (f : List qi) (r : Bool) (b : q2w c f = some r) : Pure Tryz.prog tab 20 [.sl 4 (c.map qy),.sl 4 (f.map qy)] (.bool r):=by
 unfold q2w at b;refine Qr Tryz.func20 J qh qh J<|qc<|qa J<|q9<|qf<|qc<|U J<|Qx J<|U J<|Qx J<|O _ J<|q9 ?_;refine qo J b (fun _ b=>?_) (fun _ b=>?_)
 ·refine qc<|qa J<|qv ?_;cases b;exact Q8 _ J
 refine qm<|qf<|qc<|qa J<|q9<|q8 b fun h k b=>?_;refine Qn (fun g=>.inl g = h) (fun g=>⟨[],[],0⟩) qe ?_ ?_
 ·refine Qj (qcm c f) (fun j=>⟨[(0,.d (.sl 4 (c.map qy))),(1,.d (.sl 4 (f.map qy))),(5,q7 j)],[],0⟩) _ h k (wkA [] [] []) ?_;intro j n a;unfold qcm at a;refine qf<|qc<|U J<|U J<|Qx J<|O _ J<|q9 ?_;refine qo J a (fun _ a=>?_) (fun _ a=>?_)
  ·refine qm<|qf<|Q7<|qf<|Qm [q6,q6,q6,q6,q6,q6,q6,q6,q6] qh<|U J<|U J<|q8 a fun o l a=>Ql l J<|O _ J<|U J<|U J<|q8 a fun p m a=>Ql m J<|O _ J<|O _ J<|q9 ?_;refine qo J a (fun _ a=>?_) (fun _ a=>?_)
   ·refine qc<|qa J<|qv ?_;refine ⟨_,qq a,fun hm=>?_⟩;subst hm;cases b;exact Q8 _ J
   refine qm<|Qk<|Qq<|Q3<|U J<|O _ J<|qa J<|qz<|⟨_,qq a,wkA [] [] []⟩
  refine Qh ?_;refine ⟨_,qq a,fun hm=>?_⟩;subst hm;exact ⟨_,J,wkA [] [] []⟩
 intro g hb;subst hb;refine qc<|qa J<|qv ?_;cases b;exact Q8 _ J
theorem qw6 (l : Int) (f : List qg) (g : List qg) (r : List qg × Bool) (o : q4h l f g = some r) : Pure Tryz.prog tab 113 [qd l,.sl 6 (f.map Q6),.sl 6 (g.map Q6)] (.tup [.sl 6 (r.1.map Q6),.bool r.2]):=by
 unfold q4h at o;refine Qr Tryz.func113 J qh qh J<|qc<|qa J<|qa J<|qt<|U J<|U J<|q8 o fun m h2 o=>Q5 (qw4 f g m h2) J<|qa J<|qt<|qa J<|qt<|qa J<|qt<|qa J<|q9<|qf<|qc<|qa J<|q9<|q8 o fun z bi o=>?_;refine Qn (fun s=>.inl s = z) (fun s=>⟨[(9,.hs 0 6 0 s.length)],[(0,.dat 6 (s.map Q6))],1⟩) qe ?_ ?_
 ·refine Qj (q1r m f g l) (fun c=>⟨[(0,q7 l),(1,.d (.sl 6 (f.map Q6))),(2,.d (.sl 6 (g.map Q6))),(8,.d (.sl 1 (m.map (eI .i64)))),(9,.hs 0 6 0 c.2.2.2.length),(10,.d (.sl 4 (c.1.map qy))),(11,q7 c.2.1),(12,q7 c.2.2.1)],[(0,.dat 6 (c.2.2.2.map Q6))],1⟩) _ z bi (wkA [] [] [0]) ?_;intro c ct n;unfold q1r at n;refine qf<|qc<|U J<|O _ J<|U J<|Qx J<|O _ J<|q9 ?_;refine qo J n (fun _ n=>?_) (fun _ n=>?_)
  ·refine qm<|qf<|q8 n fun bj a n=>?_;refine Qn (fun p=>.inl p = bj) (fun p=>⟨[(0,q7 l),(1,.d (.sl 6 (f.map Q6))),(2,.d (.sl 6 (g.map Q6))),(8,.d (.sl 1 (m.map (eI .i64)))),(9,.hs 0 6 0 p.2.2.length),(10,.d (.sl 4 (p.1.map qy))),(11,q7 p.2.1),(12,q7 c.2.2.1)],[(0,.dat 6 (p.2.2.map Q6))],1⟩) qe ?_ ?_
   ·refine qf<|Qm [q6,q6,q6,q6,q6,q6,q6,q6,q6,q6,q6,q6,q6,q6,q6] qh<|U J<|U J<|U J<|U J<|q8 a fun bk bl a=>Ql bl J<|O _ J<|q8 a fun aa bm a=>Q5 (qcp f bk aa bm) J<|U J<|U J<|U J<|q8 a fun bn bo a=>Ql bo J<|O _ J<|q8 a fun ab bp a=>Q5 (qcp g bn ab bp) J<|q8 a fun t bq a=>Q5 (qgk l aa ab t bq) J<|qa J<|q9<|qf<|qc<|U J<|Qx J<|O _ J<|q8 a fun br h a=>?_;refine Qc 11 (fun A st=>∃ ac ad ae af ag ah ai aj ak al,st = A [(53,Q1 br),(52,al),(51,ak),(50,aj),(49,ai),(48,ah),(47,ag),(46,af),(45,ae),(44,ad),(43,ac)]) ?_ ?_
    ·refine Qd J J h (fun h=>?_) (fun h=>?_)
     ·refine qb J<|qb J<|qb J<|qb J<|qb J<|qb J<|qb J<|qb J<|qb J<|O _ J<|q9 ?_;cases h;exact ⟨_,_,_,_,_,_,_,_,_,_,J⟩
     refine U J<|U J<|U J<|q8 h fun bs bt h=>Ql bt J<|O _ J<|q8 h fun am bu h=>Q5 (qcp f bs am bu) J<|q8 h fun bv bw h=>Q5 (qcg (.cons (.refl _) (.cons (.refl _) (.cons (.nil _) .nil))) (qgk 2 am [] bv bw)) J<|Qx J<|O _ J<|O _ J<|q9 ?_;cases h;exact ⟨_,_,_,_,_,_,_,_,_,_,J⟩
    rintro _ ⟨ac,ad,ae,af,ag,ah,ai,aj,ak,al,rfl⟩;refine q8 a fun bz j a=>?_;refine Qc 11 (fun A st=>∃ an ao ap aq ar au av aw ax ay,st = A [(64,Q1 bz),(63,ay),(62,ax),(61,aw),(60,av),(59,au),(58,ar),(57,aq),(56,ap),(55,ao),(54,an)]) ?_ ?_
    ·refine Qd J J j (fun j=>?_) (fun j=>?_)
     ·refine qb J<|qb J<|qb J<|qb J<|qb J<|qb J<|qb J<|qb J<|qb J<|O _ J<|q9 ?_;cases j;exact ⟨_,_,_,_,_,_,_,_,_,_,J⟩
     refine U J<|U J<|U J<|q8 j fun ca cb j=>Ql cb J<|O _ J<|q8 j fun az cc j=>Q5 (qcp g ca az cc) J<|q8 j fun cd ce j=>Q5 (qcg (.cons (.refl _) (.cons (.refl _) (.cons (.nil _) .nil))) (qgk 2 az [] cd ce)) J<|Qx J<|O _ J<|O _ J<|q9 ?_;cases j;exact ⟨_,_,_,_,_,_,_,_,_,_,J⟩
    rintro _ ⟨an,ao,ap,aq,ar,au,av,aw,ax,ay,rfl⟩;refine q9 ?_;refine qo J a (fun _ a=>?_) (fun _ a=>?_)
    ·refine qc<|qa J<|qa J<|qv ?_;obtain rfl:=qu a;refine ⟨_,qq n,fun hm=>?_⟩;subst hm;obtain rfl:=qu o;exact finD (.inr J) J J (Yw (.cons (.nil _) (.cons (.refl _) .nil)))
    refine qm<|qf<|qc<|U J<|O _ J<|q8 a fun cf q a=>?_;refine Qc 5 (fun A st=>∃ ba bb bc bd,st = A [(71,Q1 cf),(70,bd),(69,bc),(68,bb),(67,ba)]) ?_ ?_
    ·refine Qd J J q (fun q=>?_) (fun q=>?_)
     ·refine U J<|U J<|q8 q fun cg ch q=>Q5 (qgl t c.1 cg ch) J<|O _ J<|q9 ?_;cases q;exact ⟨_,_,_,_,J⟩
     refine qb J<|qb J<|qb J<|O _ J<|q9 ?_;cases q;exact ⟨_,_,_,_,J⟩
    rintro _ ⟨ba,bb,bc,bd,rfl⟩;refine q9 ?_;refine qo J a (fun _ a=>?_) (fun _ a=>?_)
    ·refine qf<|qc<|U J<|qa J<|q9<|q8 a fun be ci a=>?_;refine Qn (fun u=>u = be) (fun u=>⟨[(0,q7 l),(1,.d (.sl 6 (f.map Q6))),(2,.d (.sl 6 (g.map Q6))),(8,.d (.sl 1 (m.map (eI .i64)))),(9,.hs 0 6 0 u.length),(10,.d (.sl 4 (c.1.map qy))),(11,q7 c.2.1),(12,q7 c.2.2.1)],[(0,.dat 6 (u.map Q6))],1⟩) qe ?_ ?_
     ·refine Qj (q4i m c) (fun v=>⟨[(0,q7 l),(1,.d (.sl 6 (f.map Q6))),(2,.d (.sl 6 (g.map Q6))),(8,.d (.sl 1 (m.map (eI .i64)))),(9,.hs 0 6 0 v.2.length),(10,.d (.sl 4 (c.1.map qy))),(11,q7 c.2.1),(12,q7 c.2.2.1),(14,q7 v.1)],[(0,.dat 6 (v.2.map Q6))],1⟩) _ be ci (wkA [(0,0)] [] []) ?_;intro v cu k;unfold q4i at k;refine qf<|qc<|U J<|U J<|O _ J<|O _ J<|q9 ?_;refine qo J k (fun _ k=>?_) (fun _ k=>?_)
      ·refine qm<|qf<|Q7<|Q3<|U J<|U J<|U J<|U J<|O _ J<|q8 k fun bf cj k=>Ql cj J<|O _ J<|q8 k fun y bg k=>Q2 bg J J<|O _ J<|O _ J<|K0 (ds:=[qd bf]) ({Lo:=y.Lo,Hi:=({X:=y.Hi.X,Y:=y.Hi.Y,Z:=bf} : ql)} : qg) bg J J J J J J J J (leb J) J<|qz<|Qq<|Q3<|U J<|O _ J<|qa J<|qz<|⟨_,qq k,wkE [(0,0)] [] [] J ⟨qp J,qp J,qp J,qp J,⟨_,J,K3 qe J qw (ltd J)⟩,qp J,qp J,qp J,qp J,trivial⟩ ⟨Qo J J,trivial⟩⟩
      refine Qh ?_;refine ⟨_,qq k,fun hm=>?_⟩;subst hm;exact ⟨_,J,wkA [(0,0)] [] []⟩
     intro u hb;subst hb;refine Qh ?_;obtain rfl:=qu a;exact ⟨_,J,wkA [(0,0)] [] []⟩
    refine qm<|qc<|U J<|O _ J<|U J<|qa J<|qa J<|qt<|qa J<|q9<|q8 a fun ck cl a=>Q7<|Qj (q65 t m c) (fun x=>⟨[(0,q7 l),(1,.d (.sl 6 (f.map Q6))),(2,.d (.sl 6 (g.map Q6))),(8,.d (.sl 1 (m.map (eI .i64)))),(9,.hs 0 6 0 x.2.length),(10,.d (.sl 4 (t.map qy))),(11,q7 (c.2.2.2.length : Int)),(12,q7 c.2.2.1),(13,.d (.sl 4 (t.map qy))),(15,q7 x.1)],[(0,.dat 6 (x.2.map Q6))],1⟩) _ ck cl (wkA [(0,0)] [] []) ?_;intro x cv b;unfold q65 at b;refine qf<|qc<|U J<|U J<|Qx J<|O _ J<|q9 ?_;refine qo J b (fun _ b=>?_) (fun _ b=>?_)
    ·refine qm<|qf<|Q7<|Qm [q6,(some [0,1],[0,2]),(some [],[1]),q6,q6,q6,q6,q6,q6,q6,q6,q6,q6,q6,q6,q6,q6,q6,q6,q6,q6,q6,q6,q6,q6,q6,q6,q6,q6,q6,q6,q6,q6,q6,q6,q6] qh<|U J<|U J<|U J<|q8 b fun cw cm b=>Ql cm J<|O _ J<|O _ J<|U J<|U J<|q8 b fun cx cn b=>Ql cn J<|O _ J<|O _ J<|U J<|U J<|q8 b fun cy co b=>Ql co J<|O _ J<|O _ J<|U J<|U J<|q8 b fun cz cp b=>Ql cp J<|O _ J<|O _ J<|U J<|U J<|q8 b fun da cq b=>Ql cq J<|O _ J<|O _ J<|U J<|U J<|O _ J<|q8 b fun dc cr b=>Ql cr J ?_;refine O _ J<|O _ J<|O _ J<|Qp _ _ J<|q8 b fun dd cs b=>Kv _ cs J J J J J J J (Ku J J) J J J J<|qa J<|qz<|Qq<|Q3<|U J<|O _ J<|qa J<|qz<|⟨_,qq b,wkA [(0,2)] [] []⟩
    refine Qh ?_;refine ⟨_,qq b,fun hm=>?_⟩;subst hm;obtain rfl:=qu a;exact ⟨_,J,wkA [(0,0)] [] []⟩
   intro p hb;subst hb;refine Q3<|U J<|O _ J<|qa J<|qz<|⟨_,qq n,wkA [(0,0)] [] []⟩
  refine Qh ?_;refine ⟨_,qq n,fun hm=>?_⟩;subst hm;exact ⟨_,J,wkA [(0,0)] [] []⟩
 intro s hb;subst hb;refine qc<|U J<|U J<|O _ J<|O _ J<|qa J<|qa J<|qv ?_;obtain rfl:=qu o;exact finD (.inr J) J (q85 (Zu (Zl J J) (Zu J J))) (.refl _)
theorem qw8 (c : List qg) (f : List qg) (r : Bool) (b : qcq c f = some r) : Pure Tryz.prog tab 17 [.sl 6 (c.map Q6),.sl 6 (f.map Q6)] (.bool r):=by
 unfold qcq at b;refine Qr Tryz.func17 J qh qh J<|qc<|qa J<|q9<|qf<|qc<|U J<|Qx J<|U J<|Qx J<|O _ J<|q9 ?_;refine qo J b (fun _ b=>?_) (fun _ b=>?_)
 ·refine qc<|qa J<|qv ?_;cases b;exact Q8 _ J
 refine qm<|qf<|qc<|qa J<|q9<|q8 b fun h k b=>?_;refine Qn (fun g=>.inl g = h) (fun g=>⟨[],[],0⟩) qe ?_ ?_
 ·refine Qj (qcr c f) (fun j=>⟨[(0,.d (.sl 6 (c.map Q6))),(1,.d (.sl 6 (f.map Q6))),(5,q7 j)],[],0⟩) _ h k (wkA [] [] []) ?_;intro j n a;unfold qcr at a;refine qf<|qc<|U J<|U J<|Qx J<|O _ J<|q9 ?_;refine qo J a (fun _ a=>?_) (fun _ a=>?_)
  ·refine qm<|qf<|Q7<|qf<|Qm [q6,q6,q6,q6,q6,q6,q6,q6,q6] qh<|U J<|U J<|q8 a fun o l a=>Ql l J<|O _ J<|U J<|U J<|q8 a fun p m a=>Ql m J<|O _ J<|O _ J<|q9 ?_;refine qo J a (fun _ a=>?_) (fun _ a=>?_)
   ·refine qc<|qa J<|qv ?_;refine ⟨_,qq a,fun hm=>?_⟩;subst hm;cases b;exact Q8 _ J
   refine qm<|Qk<|Qq<|Q3<|U J<|O _ J<|qa J<|qz<|⟨_,qq a,wkA [] [] []⟩
  refine Qh ?_;refine ⟨_,qq a,fun hm=>?_⟩;subst hm;exact ⟨_,J,wkA [] [] []⟩
 intro g hb;subst hb;refine qc<|qa J<|qv ?_;cases b;exact Q8 _ J
theorem qmm (c : List qg) (r : Int) (a : q63 c = some r) : Pure Tryz.prog tab 82 [.sl 6 (c.map Q6)] (qd r):=by
 unfold q63 at a;refine Qr Tryz.func82 J qh qh J<|qc<|qa J<|q9<|qf<|qc<|U J<|Qx J<|O _ J<|q9 ?_;refine qo J a (fun _ a=>?_) (fun _ a=>?_)
 ·refine qc<|qa J<|qv ?_;cases a;exact Q8 _ J
 refine qm<|qf<|qc<|qa J<|q9<|q8 a fun h q a=>?_;refine Qn (fun g=>.inl g = h) (fun g=>⟨[(0,.d (.sl 6 (c.map Q6)))],[],0⟩) qe ?_ ?_
 ·refine Qj (q64 c) (fun j=>⟨[(0,.d (.sl 6 (c.map Q6))),(3,q7 j)],[],0⟩) _ h q (wkA [] [] []) ?_;intro j ab b;unfold q64 at b;refine qf<|qc<|U J<|U J<|Qx J<|O _ J<|q9 ?_;refine qo J b (fun _ b=>?_) (fun _ b=>?_)
  ·refine qm<|qf<|Q7<|qc<|U J<|U J<|q8 b fun s t b=>Ql t J<|O _ J<|q8 b fun u v b=>Q5 (qwa s u v) J<|O _ J<|q9 ?_;refine qo J b (fun _ b=>?_) (fun _ b=>?_)
   ·refine qc<|qa J<|qv ?_;refine ⟨_,qq b,fun hm=>?_⟩;subst hm;cases a;exact Q8 _ J
   refine qm<|Qk<|Qq<|Q3<|U J<|O _ J<|qa J<|qz<|⟨_,qq b,wkA [] [] []⟩
  refine Qh ?_;refine ⟨_,qq b,fun hm=>?_⟩;subst hm;exact ⟨_,J,wkA [] [] []⟩
 intro g hb;subst hb;refine qc<|U J<|q8 a fun k x a=>Q5 (qcg (.cons (.refl _) (.cons (.refl _) (.cons (.nil _) .nil))) (qw6 2 c [] k x)) J<|U J<|O _ J<|O _ J<|qa J<|qa J<|q9<|qf<|qc<|U J<|O _ J<|q8 a fun y f a=>?_;refine Qc 6 (fun A st=>∃ l m n o p,st = A [(33,Q1 y),(32,p),(31,o),(30,n),(29,m),(28,l)]) ?_ ?_
 ·refine Qd J J f (fun f=>?_) (fun f=>?_)
  ·refine qb J<|qb J<|qb J<|qb J<|O _ J<|q9 ?_;cases f;exact ⟨_,_,_,_,_,J⟩
  refine U J<|U J<|q8 f fun z aa f=>Q5 (qw8 k.1 c z aa) J<|O _ J<|O _ J<|q9 ?_;cases f;exact ⟨_,_,_,_,_,J⟩
 rintro _ ⟨l,m,n,o,p,rfl⟩;refine q9 ?_;refine qo J a (fun _ a=>?_) (fun _ a=>?_)
 ·refine qc<|qa J<|qv ?_;cases a;exact Q8 _ J
 refine qm<|qc<|qa J<|qv ?_;cases a;exact Q8 _ J
theorem qwd (g : List qg) (h : ql) (r : Int) (a : q98 g h = some r) : Pure Tryz.prog tab 45 [.sl 6 (g.map Q6),.agg (K4 h)] (qd r):=by
 unfold q98 at a;refine Qr Tryz.func45 J qh qh J<|qc<|Qp _ _ J<|qa J<|q9<|qf<|qc<|U J<|q8 a fun r1 h2 a=>Q5 (qmm g r1 h2) J<|O _ J<|q9 ?_;refine qo J a (fun _ a=>?_) (fun _ a=>?_)
 ·refine qc<|U J<|q8 a fun r5 h6 a=>Q5 (qmm g r5 h6) J<|qa J<|qv ?_;cases a;exact Q8 _ J
 refine qm<|qf<|qc<|qa J<|q9<|q8 a fun m ba a=>?_;refine Qn (fun l=>.inl l = m) (fun l=>⟨[(3,.ref 0 3 0 0)],[(0,.dat 3 [(K4 h)])],1⟩) qe ?_ ?_
 ·refine Qj (q66 g) (fun n=>⟨[(0,.d (.sl 6 (g.map Q6))),(3,.ref 0 3 0 0),(5,q7 n)],[(0,.dat 3 [(K4 h)])],1⟩) _ m ba (wkA [(0,0)] [] []) ?_;intro n bp b;unfold q66 at b;refine qf<|qc<|U J<|U J<|Qx J<|O _ J<|q9 ?_;refine qo J b (fun _ b=>?_) (fun _ b=>?_)
  ·refine qm<|qf<|Q7<|qc<|U J<|U J<|q8 b fun bb bc b=>Ql bc J<|O _ J<|O _ J<|q8 b fun bd be b=>Q5 (q67 bb.Lo 30 bd be) J<|O _ J<|q8 b fun bf c b=>?_;refine Qc 9 (fun A st=>∃ o p q s t u v x,st = A [(32,Q1 bf),(31,x),(30,v),(29,u),(28,t),(27,s),(26,q),(25,p),(24,o)]) ?_ ?_
   ·refine Qd J J c (fun c=>?_) (fun c=>?_)
    ·refine qb J<|qb J<|qb J<|qb J<|qb J<|qb J<|qb J<|O _ J<|q9 ?_;cases c;exact ⟨_,_,_,_,_,_,_,_,J⟩
    refine U J<|U J<|q8 c fun bg bh c=>Ql bh J<|O _ J<|O _ J<|q8 c fun bi bj c=>Q5 (q67 bg.Hi 30 bi bj) J<|O _ J<|O _ J<|q9 ?_;cases c;exact ⟨_,_,_,_,_,_,_,_,J⟩
   rintro _ ⟨o,p,q,s,t,u,v,x,rfl⟩;refine q9 ?_;refine qo J b (fun _ b=>?_) (fun _ b=>?_)
   ·refine qc<|qa J<|qv ?_;refine ⟨_,qq b,fun hm=>?_⟩;subst hm;cases a;exact Q8 _ J
   refine qm<|Qk<|Qq<|Q3<|U J<|O _ J<|qa J<|qz<|⟨_,qq b,wkA [(0,0)] [] []⟩
  refine Qh ?_;refine ⟨_,qq b,fun hm=>?_⟩;subst hm;exact ⟨_,J,wkA [(0,0)] [] []⟩
 intro l hb;subst hb;refine qf<|qc<|O _ J<|q8 a fun bk bl a=>Q5 (q67 h 8 bk bl) J<|O _ J<|q8 a fun bm f a=>?_;refine Qc 15 (fun A st=>∃ y z aa ab ac ad ae af ag ah ai aj ak al,st = A [(50,Q1 bm),(49,al),(48,ak),(47,aj),(46,ai),(45,ah),(44,ag),(43,af),(42,ae),(41,ad),(40,ac),(39,ab),(38,aa),(37,z),(36,y)]) ?_ ?_
 ·refine Qd J J f (fun f=>?_) (fun f=>?_)
  ·refine qb J<|qb J<|qb J<|qb J<|qb J<|qb J<|qb J<|qb J<|qb J<|qb J<|qb J<|qb J<|qb J<|O _ J<|q9 ?_;cases f;exact ⟨_,_,_,_,_,_,_,_,_,_,_,_,_,_,J⟩
  refine O _ J<|O _ J<|O _ J<|q8 f fun bn j f=>?_;refine Qc 5 (fun A st=>∃ am an ao ap,st = A [(44,Q1 bn),(43,ap),(42,ao),(41,an),(40,am)]) ?_ ?_
  ·refine Qd J J j (fun j=>?_) (fun j=>?_)
   ·refine O _ J<|O _ J<|O _ J<|O _ J<|q9 ?_;cases j;exact ⟨_,_,_,_,J⟩
   refine qb J<|qb J<|qb J<|O _ J<|q9 ?_;cases j;exact ⟨_,_,_,_,J⟩
  rintro _ ⟨am,an,ao,ap,rfl⟩;refine q8 f fun bo k f=>?_;refine Qc 5 (fun A st=>∃ aq ar au av,st = A [(49,Q1 bo),(48,av),(47,au),(46,ar),(45,aq)]) ?_ ?_
  ·refine Qd J J k (fun k=>?_) (fun k=>?_)
   ·refine O _ J<|O _ J<|O _ J<|O _ J<|q9 ?_;cases k;exact ⟨_,_,_,_,J⟩
   refine qb J<|qb J<|qb J<|O _ J<|q9 ?_;cases k;exact ⟨_,_,_,_,J⟩
  rintro _ ⟨aq,ar,au,av,rfl⟩;refine O _ J<|q9 ?_;cases f;exact ⟨_,_,_,_,_,_,_,_,_,_,_,_,_,_,J⟩
 rintro _ ⟨y,z,aa,ab,ac,ad,ae,af,ag,ah,ai,aj,ak,al,rfl⟩;refine q9 ?_;refine qo J a (fun _ a=>?_) (fun _ a=>?_)
 ·refine qc<|qa J<|qv ?_;cases a;exact Q8 _ J
 refine qm<|qc<|qa J<|qv ?_;cases a;exact Q8 _ J
theorem qmj (b : ql) (c : Int) (r : Int) (a : qcn b c = some r) : Pure Tryz.prog tab 62 [.agg (K4 b),qd c] (qd r):=by
 unfold qcn at a;refine Qr Tryz.func62 J qh qh J<|qc<|Qp _ _ J<|qa J<|q9<|qf<|qc<|U J<|O _ J<|q9 ?_;refine qo J a (fun _ a=>?_) (fun _ a=>?_)
 ·refine qc<|O _ J<|O _ J<|qa J<|qv ?_;cases a;exact Q8 _ J
 refine qm<|qf<|qc<|U J<|O _ J<|q9 ?_;refine qo J a (fun _ a=>?_) (fun _ a=>?_)
 ·refine qc<|O _ J<|O _ J<|qa J<|qv ?_;cases a;exact Q8 _ J
 refine qm<|qc<|O _ J<|O _ J<|qa J<|qv ?_;cases a;exact Q8 _ J
theorem qvq (a : Y3) (b : Y3) (r : Bool) (c : q8z a b = some r) : Pure Tryz.prog tab 33 [.agg (qbq a),.agg (qbq b)] (.bool r):=by
 unfold q8z at c;refine Qr Tryz.func33 J qh qh J<|qc<|Qp _ _ J<|Qp _ _ J<|qa J<|qt<|O _ J<|O _ J<|O _ J<|O _ J<|O _ J<|O _ J<|O _ J<|O _ J<|O _ J<|O _ J<|O _ J<|qa J<|qv ?_;cases c;exact Q8 _ J
theorem q12z (a : List qg) (c : ql) (r : Int × Int × Int) (j : q7v a c = some r) : Pure Tryz.prog tab 15 [.sl 6 (a.map Q6),.agg (K4 c)] (.tup [qd r.1,qd r.2.1,qd r.2.2]):=by
 unfold q7v at j;refine Qr Tryz.func15 J qh qh J<|qc<|Qp _ _ J<|Qp _ _ J<|Qt J J<|Qt J J<|qa J<|q9<|qf<|qc<|O _ J<|O _ J<|q8 j fun r1 h2 j=>Q5 (qay a c r1 h2) J<|qa J<|qt<|U J<|O _ J<|q9 ?_;refine qo J j (fun _ j=>?_) (fun _ j=>?_)
 ·refine qc<|U J<|Qe 2 _ J<|Qe 3 _ J<|qa J<|qv ?_;cases j;exact Q8 _ J
 refine qm<|qf<|qc<|O _ J<|q8 j fun m4 h3 j=>?_;refine q41 [.d (.sl 6 (a.map Q6))] (fun b5=>b5 = m4) (fun b5=>⟨[(2,.ref 0 1 0 0),(3,.ref 1 3 0 0),(4,.ref 2 1 0 0),(5,.ref 3 1 0 0),(6,q7 0),(18,.fn 86 [.ref 4 1 0 0])],[(0,.dat 1 [[.sl 6 (a.map Q6)]]),(1,.dat 3 [(K4 c)]),(2,.dat 1 [[qd 0]]),(3,.dat 1 [[qd 0]]),(4,.dat 1 [[.sl 6 (a.map Q6)]])],5⟩) J J Tryz.func48 J qh qh J ?_ ?_
 ·refine qc<|Qp _ _ J<|qa J<|qt<|O _ J<|qa J<|qv ?_;refine ⟨.inr J,_,J,?_⟩;obtain rfl:=qu h3;exact ⟨_,J,wkA [(0,0),(1,1),(2,2),(3,3),(4,4)] [] []⟩
 intro b5 hb;subst hb;refine q9<|Q7<|q8 j fun an ae j=>?_;refine q6l (fun t=>t = an) (fun t=>⟨[(4,.ref 0 1 0 0),(5,.ref 1 1 0 0)],[(0,.dat 1 [[qd t.1]]),(1,.dat 1 [[qd t.2]])],2⟩) ?_ ?_
 ·refine Ya (st':=⟨[(2,.ref 0 1 0 0),(3,.ref 1 3 0 0),(4,.ref 2 1 0 0),(5,.ref 3 1 0 0),(6,q7 0),(18,.fn 86 [.ref 4 1 0 0])],[(0,.dat 1 [[.sl 6 (a.map Q6)]]),(1,.dat 3 [(K4 c)]),(2,.dat 1 [[qd 0]]),(3,.dat 1 [[qd 0]]),(4,.dat 1 [[.sl 6 (a.map Q6)]])],5⟩) (wkA [(0,0),(1,1),(2,2),(3,3),(4,4)] [] []) ?_ qe;refine q6m _ (.inl J) Tryz.func86 J qh qh J ?_;intro A1841 B1842 hA1841 hB1842;refine qxd<|qf<|qxb<|qc<|O _ J<|Qx J<|U J<|q9<|q8 ae fun ao ap ae=>Q7<|Qj (q22 a c) (fun k=>⟨[(0,.yld 5),(8,.d (.sl 6 (a.map Q6))),(9,q7 (a.length : Int)),(10,q7 k.1)],[(0,.dat 1 [[.sl 6 (a.map Q6)]]),(1,.dat 3 [(K4 c)]),(2,.dat 1 [[qd k.2.1]]),(3,.dat 1 [[qd k.2.2]]),(4,.dat 1 [[.sl 6 (a.map Q6)]]),(5,.loop [(2,.ref 0 1 0 0),(3,.ref 1 3 0 0),(4,.ref 2 1 0 0),(5,.ref 3 1 0 0),(6,q7 0),(18,.fn 86 [.ref 4 1 0 0])] [19] A1841 B1842 .ready none)],6⟩) _ ao ap (wkA [] [] []) ?_;intro k bn n;unfold q22 at n;refine qc<|O _ J<|q9<|qf ?_;refine qo J n (fun _ n=>?_) (fun _ n=>?_)
  ·refine qm<|qf<|q8 n fun aq u n=>?_;refine Qn (fun v=>v = aq) (fun v=>⟨[(0,.yld 5),(8,.d (.sl 6 (a.map Q6))),(9,q7 (a.length : Int)),(10,q7 k.1)],[(0,.dat 1 [[.sl 6 (a.map Q6)]]),(1,.dat 3 [(K4 c)]),(2,.dat 1 [[qd v.1]]),(3,.dat 1 [[qd v.2]]),(4,.dat 1 [[.sl 6 (a.map Q6)]]),(5,.loop [(2,.ref 0 1 0 0),(3,.ref 1 3 0 0),(4,.ref 2 1 0 0),(5,.ref 3 1 0 0),(6,q7 0),(18,.fn 86 [.ref 4 1 0 0])] [19] A1841 B1842 .ready none)],6⟩) qe ?_ ?_
   ·refine qc<|q8 u fun l ar u=>Ql ar J<|O _ J<|Qt J J<|Qe 6 _ J<|qt<|O _ J<|O _ J<|O _ J<|qa J<|q9<|q8 u fun au av u=>Q7<|Qj (q23 l a c) (fun g=>⟨[(0,.yld 5),(4,.ref 6 6 0 0),(5,q7 g.1),(8,.d (.sl 6 (a.map Q6))),(9,q7 (a.length : Int)),(10,q7 k.1)],[(0,.dat 1 [[.sl 6 (a.map Q6)]]),(1,.dat 3 [(K4 c)]),(2,.dat 1 [[qd g.2.1]]),(3,.dat 1 [[qd g.2.2]]),(4,.dat 1 [[.sl 6 (a.map Q6)]]),(5,.loop [(2,.ref 0 1 0 0),(3,.ref 1 3 0 0),(4,.ref 2 1 0 0),(5,.ref 3 1 0 0),(6,q7 0),(18,.fn 86 [.ref 4 1 0 0])] [19] A1841 B1842 .ready none),(6,.dat 6 [(Q6 l)])],7⟩) _ au av (wkA [(6,6)] [] []) ?_;intro g bo o;unfold q23 at o;refine qf<|qc<|U J<|O _ J<|O _ J<|O _ J<|O _ J<|q9 ?_;refine qo J o (fun _ o=>?_) (fun _ o=>?_)
    ·refine qm<|qf<|q8 o fun aw af o=>?_;refine Qn (fun x=>x = aw) (fun x=>⟨[(0,.yld 5),(4,.ref 6 6 0 0),(5,q7 g.1),(8,.d (.sl 6 (a.map Q6))),(9,q7 (a.length : Int)),(10,q7 k.1)],[(0,.dat 1 [[.sl 6 (a.map Q6)]]),(1,.dat 3 [(K4 c)]),(2,.dat 1 [[qd x.1]]),(3,.dat 1 [[qd x.2]]),(4,.dat 1 [[.sl 6 (a.map Q6)]]),(5,.loop [(2,.ref 0 1 0 0),(3,.ref 1 3 0 0),(4,.ref 2 1 0 0),(5,.ref 3 1 0 0),(6,q7 0),(18,.fn 86 [.ref 4 1 0 0])] [19] A1841 B1842 .ready none),(6,.dat 6 [(Q6 l)])],7⟩) qe ?_ ?_
     ·refine qc<|O _ J<|O _ J<|O _ J<|qa J<|q9<|q8 af fun ax ay af=>Q7<|Qj (q24 l g a c) (fun h=>⟨[(0,.yld 5),(4,.ref 6 6 0 0),(5,q7 g.1),(6,q7 h.1),(8,.d (.sl 6 (a.map Q6))),(9,q7 (a.length : Int)),(10,q7 k.1)],[(0,.dat 1 [[.sl 6 (a.map Q6)]]),(1,.dat 3 [(K4 c)]),(2,.dat 1 [[qd h.2.1]]),(3,.dat 1 [[qd h.2.2]]),(4,.dat 1 [[.sl 6 (a.map Q6)]]),(5,.loop [(2,.ref 0 1 0 0),(3,.ref 1 3 0 0),(4,.ref 2 1 0 0),(5,.ref 3 1 0 0),(6,q7 0),(18,.fn 86 [.ref 4 1 0 0])] [19] A1841 B1842 .ready none),(6,.dat 6 [(Q6 l)])],7⟩) _ ax ay (wkA [(6,6)] [] []) ?_;intro h bp p;unfold q24 at p;refine qf<|qc<|U J<|O _ J<|O _ J<|O _ J<|O _ J<|q9 ?_;refine qo J p (fun _ p=>?_) (fun _ p=>?_)
      ·refine qm<|qf<|q8 p fun az ag p=>?_;refine Qn (fun y=>y = az) (fun y=>⟨[(0,.yld 5),(4,.ref 6 6 0 0),(5,q7 g.1),(6,q7 h.1),(8,.d (.sl 6 (a.map Q6))),(9,q7 (a.length : Int)),(10,q7 k.1)],[(0,.dat 1 [[.sl 6 (a.map Q6)]]),(1,.dat 3 [(K4 c)]),(2,.dat 1 [[qd y.1]]),(3,.dat 1 [[qd y.2]]),(4,.dat 1 [[.sl 6 (a.map Q6)]]),(5,.loop [(2,.ref 0 1 0 0),(3,.ref 1 3 0 0),(4,.ref 2 1 0 0),(5,.ref 3 1 0 0),(6,q7 0),(18,.fn 86 [.ref 4 1 0 0])] [19] A1841 B1842 .ready none),(6,.dat 6 [(Q6 l)])],7⟩) qe ?_ ?_
       ·refine qc<|O _ J<|O _ J<|O _ J<|qa J<|q9<|q8 ag fun ba bb ag=>Q7<|Qj (q25 l g h a c) (fun m=>⟨[(0,.yld 5),(4,.ref 6 6 0 0),(5,q7 g.1),(6,q7 h.1),(7,q7 m.1),(8,.d (.sl 6 (a.map Q6))),(9,q7 (a.length : Int)),(10,q7 k.1)],[(0,.dat 1 [[.sl 6 (a.map Q6)]]),(1,.dat 3 [(K4 c)]),(2,.dat 1 [[qd m.2.1]]),(3,.dat 1 [[qd m.2.2]]),(4,.dat 1 [[.sl 6 (a.map Q6)]]),(5,.loop [(2,.ref 0 1 0 0),(3,.ref 1 3 0 0),(4,.ref 2 1 0 0),(5,.ref 3 1 0 0),(6,q7 0),(18,.fn 86 [.ref 4 1 0 0])] [19] A1841 B1842 .ready none),(6,.dat 6 [(Q6 l)])],7⟩) _ ba bb (wkA [(6,6)] [] []) ?_;intro m bq q;unfold q25 at q;refine qf<|qc<|U J<|O _ J<|O _ J<|O _ J<|O _ J<|q9 ?_;refine qo J q (fun _ q=>?_) (fun _ q=>?_)
        ·refine qm<|qf<|Q7<|qc<|U J<|U J<|U J<|U J<|O _ J<|q8 q fun bc z q=>?_;refine q5v (fun aa=>aa = bc) (fun aa=>⟨[(0,.yld 5),(4,.ref 6 6 0 0),(5,q7 g.1),(6,q7 h.1),(7,q7 m.1),(8,.d (.sl 6 (a.map Q6))),(9,q7 (a.length : Int)),(10,q7 k.1),(49,Q1 true)],[(0,.dat 1 [[.sl 6 (a.map Q6)]]),(1,.dat 3 [(K4 c)]),(2,.dat 1 [[qd aa.1]]),(3,.dat 1 [[qd aa.2]]),(4,.dat 1 [[.sl 6 (a.map Q6)]]),(5,.loop [(2,.ref 0 1 0 0),(3,.ref 1 3 0 0),(4,.ref 2 1 0 0),(5,.ref 3 1 0 0),(6,q7 0),(18,.fn 86 [.ref 4 1 0 0])] [19] A1841 B1842 .ready none),(6,.dat 6 [(Q6 l)])],7⟩) hA1841 hB1842 J J J J J J ?_ ?_
         ·refine Q3<|Qt J J<|Qe 7 _ J<|qz ?_;refine ⟨J,_,J,?_⟩;refine Q7<|qc<|q8 z fun b bd z=>Q5 (qom b bd) J<|U J<|q9<|q8 z fun be bf z=>Q7<|Qj (q26 b g h m a c) (fun ab=>⟨[(2,.ref 0 1 0 0),(3,.ref 1 3 0 0),(4,.ref 2 1 0 0),(5,.ref 3 1 0 0),(8,.ref 7 3 0 0),(20,.d (.agg [qd b.1.X,qd b.1.Y,qd b.1.Z,qd b.2.1.X,qd b.2.1.Y,qd b.2.1.Z,qd b.2.2.1.X,qd b.2.2.1.Y,qd b.2.2.1.Z,qd b.2.2.2.1.X,qd b.2.2.2.1.Y,qd b.2.2.2.1.Z,qd b.2.2.2.2.1.X,qd b.2.2.2.2.1.Y,qd b.2.2.2.2.1.Z,qd b.2.2.2.2.2.X,qd b.2.2.2.2.2.Y,qd b.2.2.2.2.2.Z])),(21,q7 ab.1)],[(0,.dat 1 [[.sl 6 (a.map Q6)]]),(1,.dat 3 [(K4 c)]),(2,.dat 1 [[qd ab.2.1]]),(3,.dat 1 [[qd ab.2.2]]),(4,.dat 1 [[.sl 6 (a.map Q6)]]),(5,.loop [(2,.ref 0 1 0 0),(3,.ref 1 3 0 0),(4,.ref 2 1 0 0),(5,.ref 3 1 0 0),(6,q7 0),(18,.fn 86 [.ref 4 1 0 0])] [19] A1841 B1842 .busy none),(6,.dat 6 [(Q6 l)]),(7,.dat 3 [[qd g.1,qd h.1,qd m.1]])],8⟩) _ be bf (wkA [(7,7)] [] []) ?_;intro ab br s;unfold q26 at s;refine qc<|O _ J<|q9<|qf ?_;refine qo J s (fun _ s=>?_) (fun _ s=>?_)
          ·refine qm<|qf<|q8 s fun bg f s=>?_;refine Qn (fun ac=>ac = bg) (fun ac=>⟨[(2,.ref 0 1 0 0),(3,.ref 1 3 0 0),(4,.ref 2 1 0 0),(5,.ref 3 1 0 0),(8,.ref 7 3 0 0),(20,.d (.agg [qd b.1.X,qd b.1.Y,qd b.1.Z,qd b.2.1.X,qd b.2.1.Y,qd b.2.1.Z,qd b.2.2.1.X,qd b.2.2.1.Y,qd b.2.2.1.Z,qd b.2.2.2.1.X,qd b.2.2.2.1.Y,qd b.2.2.2.1.Z,qd b.2.2.2.2.1.X,qd b.2.2.2.2.1.Y,qd b.2.2.2.2.1.Z,qd b.2.2.2.2.2.X,qd b.2.2.2.2.2.Y,qd b.2.2.2.2.2.Z])),(21,q7 ab.1)],[(0,.dat 1 [[.sl 6 (a.map Q6)]]),(1,.dat 3 [(K4 c)]),(2,.dat 1 [[qd ac.1]]),(3,.dat 1 [[qd ac.2]]),(4,.dat 1 [[.sl 6 (a.map Q6)]]),(5,.loop [(2,.ref 0 1 0 0),(3,.ref 1 3 0 0),(4,.ref 2 1 0 0),(5,.ref 3 1 0 0),(6,q7 0),(18,.fn 86 [.ref 4 1 0 0])] [19] A1841 B1842 .busy none),(6,.dat 6 [(Q6 l)]),(7,.dat 3 [[qd g.1,qd h.1,qd m.1]])],8⟩) qe ?_ ?_
           ·refine qc<|q8 f fun ah bh f=>qcd (enc:=K4) [b.1,b.2.1,b.2.2.1,b.2.2.2.1,b.2.2.2.2.1,b.2.2.2.2.2] (.d (.agg (K4 ah))) bh (fun _=>rfl) J J J J J J<|Qt J J<|Qe 8 _ J<|q9<|Q7<|qf<|Qm [q6,q6,q6,qx 8,qx 7,qx 0] qh<|O _ J<|O _ J<|O _ J<|q8 f fun ai bi f=>Q5 (qaz ({X:=g.1,Y:=h.1,Z:=m.1} : ql) ah ai bi) J<|q8 f fun bj bk f=>Q5 (qh5 a ai bj bk) J<|qa J<|q9 ?_;refine qo J f (fun _ f=>?_) (fun _ f=>?_)
            ·refine qm<|Qk<|Qq<|Qk ?_;obtain rfl:=qu f;exact ⟨_,J,wkA [(7,7)] [] []⟩
            refine qc<|O _ J<|O _ J<|O _ J<|O _ J<|q8 f fun bl bm f=>Q5 (qoj a ({X:=g.1,Y:=h.1,Z:=m.1} : ql) ah c bl bm) J<|qa J<|q9 ?_;refine qo J f (fun _ f=>?_) (fun _ f=>?_)
            ·refine Q3<|O _ J<|O _ J<|Qe 2 _ J<|qz<|Qq<|Qk ?_;obtain rfl:=qu f;exact ⟨_,J,wkA [(7,7)] [] []⟩
            refine Q3<|O _ J<|O _ J<|Qe 3 _ J<|qz<|Qq<|Qk ?_;obtain rfl:=qu f;exact ⟨_,J,wkA [(7,7)] [] []⟩
           intro ac hb;subst hb;refine Q3<|O _ J<|U J<|qz<|⟨_,qq s,wkA [(7,7)] [] []⟩
          refine Qh ?_;refine ⟨_,qq s,fun hm=>?_⟩;subst hm;refine ⟨_,J,?_⟩;obtain rfl:=qu z;exact ⟨_,J,wkA [(6,6)] [] []⟩
         intro aa hb;subst hb;refine O _ J<|q9<|Z8 J<|qm<|Qk<|Qq<|Q3<|U J<|O _ J<|qa J<|qz<|⟨_,qq q,wkA [(6,6)] [] []⟩
        refine Qh ?_;refine ⟨_,qq q,fun hm=>?_⟩;subst hm;obtain rfl:=qu ag;exact ⟨_,J,wkA [(6,6)] [] []⟩
       intro y hb;subst hb;refine Q3<|U J<|O _ J<|qa J<|qz<|⟨_,qq p,wkA [(6,6)] [] []⟩
      refine Qh ?_;refine ⟨_,qq p,fun hm=>?_⟩;subst hm;obtain rfl:=qu af;exact ⟨_,J,wkA [(6,6)] [] []⟩
     intro x hb;subst hb;refine Q3<|U J<|O _ J<|qa J<|qz<|⟨_,qq o,wkA [(6,6)] [] []⟩
    refine Qh ?_;refine ⟨_,qq o,fun hm=>?_⟩;subst hm;obtain rfl:=qu u;exact ⟨_,J,wkA [] [] []⟩
   intro v hb;subst hb;refine Q3<|O _ J<|U J<|qz<|⟨_,qq n,wkA [] [] []⟩
  refine Qh ?_;refine ⟨_,qq n,fun hm=>?_⟩;subst hm;refine ⟨.inl J,_,J,_,_,.nor,J,qw,?_⟩;refine q56<|Qk ?_;obtain rfl:=qu ae;exact ⟨_,J,wkA [(0,2),(1,3)] [] []⟩
 intro t st hb hw;subst hb;refine Ya hw ?_ qe;refine qf<|Qm [q6,Qu 1,Qu 0,qx 1,qx 0] qh<|O _ J<|O _ J<|Qe 0 _ J<|Qe 1 _ J<|qa J<|qv ?_;cases j;exact Q8 _ J
end Go.Proofs.YtmnfbjlabfeneaaGreat
