/- W_Alld W_All -/
import Derived.Test.YtmnfbjlabfeneaaGreatK17
namespace Go.Proofs.YtmnfbjlabfeneaaGreat
open Go Go.Am Go.Sh
set_option maxHeartbeats 8000000
set_option maxRecDepth 100000
theorem ql5 (a : Ym) (r : Bool) (c : q6q a = some r) : Pure Tryz.prog tab 56 [.agg [qf a.p_.X,qf a.p_.Y,qf a.p_.Z,qf a.d_.X,qf a.d_.Y,qf a.d_.Z]] (.bool r):=by
 unfold q6q at c;refine Qt Tryz.func56 J qg qg J<|qc<|Qn _ _ J<|qa J<|qx<|O _ J<|O _ J<|q7 c fun h u c=>Q3 (q6n a.p_ h u) J<|K1 J J<|Qh 1 _ J<|q8<|qe<|qc<|O _ J<|O _ J<|q7 c fun f v c=>Q3 (q6n a.d_ f v) J<|U J<|q8<|q7 c fun k x c=>?_;refine Qo (fun j=>.inl j = k) (fun j=>⟨[(1,.ref 0 6 0 0)],[(0,.dat 6 [[qf a.p_.X,qf a.p_.Y,qf a.p_.Z,qf a.d_.X,qf a.d_.Y,qf a.d_.Z]])],1⟩) qd ?_ ?_
 ·refine Qk (qbp f h) (fun l=>⟨[(1,.ref 0 6 0 0),(3,.ref 1 3 0 0),(11,.d (.agg [qf f.1,qf f.2.1,qf f.2.2])),(12,q9 l)],[(0,.dat 6 [[qf a.p_.X,qf a.p_.Y,qf a.p_.Z,qf a.d_.X,qf a.d_.Y,qf a.d_.Z]]),(1,.dat 3 [[h.1,h.2.1,h.2.2].flatMap (eI .i64)])],2⟩) _ k x (wkA [(0,0),(1,1)] [] []) ?_;intro l ae b;unfold qbp at b;refine qc<|O _ J<|q8<|qe ?_;refine ql J b (fun _ b=>?_) (fun _ b=>?_)
  ·refine qm<|qe<|Qa<|qc<|U J<|q7 b fun y z b=>qip (enc:=(eI .i64)) [f.1,f.2.1,f.2.2] (q9 y) z (fun _=>rfl) J J J J J J<|qa J<|qa J<|qx<|U J<|O _ J<|q7 b fun aa g b=>?_;refine Qf 7 (fun A st=>∃ m n o p q s,st = A [(24,Q2 aa),(23,s),(22,q),(21,p),(20,o),(19,n),(18,m)]) ?_ ?_
   ·refine Qg J J g (fun g=>?_) (fun g=>?_)
    ·refine U J<|q7 g fun ab t g=>q1a t J J J J J<|q26 (enc:=(eI .i64)) (q9 ab) t (fun _=>rfl) J J J J J J<|O _ J<|O _ J<|O _ J<|q8 ?_;cases g;exact ⟨_,_,_,_,_,_,J⟩
    refine qb J<|qb J<|qb J<|qb J<|qb J<|O _ J<|q8 ?_;cases g;exact ⟨_,_,_,_,_,_,J⟩
   rintro _ ⟨m,n,o,p,q,s,rfl⟩;refine q8 ?_;refine ql J b (fun _ b=>?_) (fun _ b=>?_)
   ·refine qc<|qa J<|qu ?_;refine ⟨_,qn b,fun hm=>?_⟩;subst hm;cases c;exact Q5 _ J
   refine qm<|Qj<|Qq<|Q1<|O _ J<|U J<|qz<|⟨_,qn b,wkA [(0,0),(1,1)] [] []⟩
  refine Qc ?_;refine ⟨_,qn b,fun hm=>?_⟩;subst hm;exact ⟨_,J,wkA [(0,0)] [] []⟩
 intro j hb;subst hb;refine qc<|O _ J<|O _ J<|q7 c fun ac ad c=>Q3 (qbo a.p_ 240 ac ad) J<|qa J<|qu ?_;cases c;exact Q5 _ J
theorem qyn (c : List qj) (d : Q4) (b : Q4) (r : Bool × Int) (a : q9j c d b = some r) : Pure Tryz.prog tab 21 [.sl 6 (c.map Qi),.agg (K3 d),.agg (K3 b)] (.tup [.bool r.1,qf r.2]):=by
 unfold q9j at a;refine Qt Tryz.func21 J qg qg J<|qc<|Qn _ _ J<|Qn _ _ J<|qa J<|qa J<|q8<|qe<|qc<|U J<|O _ J<|q7 a fun f g a=>Q3 (ql3 c b f g) J<|qa J<|qx<|U J<|O _ J<|q8 ?_;refine ql J a (fun _ a=>?_) (fun _ a=>?_)
 ·refine qc<|U J<|qa J<|qa J<|qu ?_;cases a;exact Q5 _ J
 refine qm<|qc<|O _ J<|O _ J<|O _ J<|K1 J J<|Qh 2 _ J<|q8<|qe<|qc<|O _ J<|q7 a fun h j a=>Q3 (ql5 ({p_:=d,d_:=b} : Ym) h j) J<|O _ J<|q8 ?_;refine ql J a (fun _ a=>?_) (fun _ a=>?_)
 ·refine qc<|qa J<|qa J<|qu ?_;cases a;exact Q5 _ J
 refine qm<|qc<|O _ J<|U J<|q7 a fun k l a=>Q3 (qyq ({p_:=d,d_:=b} : Ym) c k l) J<|qa J<|qa J<|qu ?_;cases a;exact Q5 _ J
theorem qjq (b : Q4) (f : Q4) (r : Bool) (c : q55 b f = some r) : Pure Tryz.prog tab 29 [.agg (K3 b),.agg (K3 f)] (.bool r):=by
 unfold q55 at c;refine Qt Tryz.func29 J qg qg J<|qc<|Qn _ _ J<|Qn _ _ J<|qa J<|q8<|qe<|qc<|qa J<|q8<|q7 c fun j q c=>?_;refine Qo (fun h=>.inl h = j) (fun h=>⟨[(2,.ref 0 3 0 0)],[(0,.dat 3 [(K3 b)])],1⟩) qd ?_ ?_
 ·refine Qk (qb5 f b) (fun g=>⟨[(2,.ref 0 3 0 0),(3,.ref 1 3 0 0),(5,q9 g)],[(0,.dat 3 [(K3 b)]),(1,.dat 3 [(K3 f)])],2⟩) _ j q (wkA [(0,0),(1,1)] [] []) ?_;intro g aa a;unfold qb5 at a;refine qe<|qc<|U J<|O _ J<|q8 ?_;refine ql J a (fun _ a=>?_) (fun _ a=>?_)
  ·refine qm<|qe<|Qa<|qc<|O _ J<|U J<|q7 a fun s t a=>Q3 (Ue f g s t) J<|O _ J<|q7 a fun u d a=>?_;refine Qf 7 (fun A st=>∃ k l m n o p,st = A [(20,Q2 u),(19,p),(18,o),(17,n),(16,m),(15,l),(14,k)]) ?_ ?_
   ·refine Qg J J d (fun d=>?_) (fun d=>?_)
    ·refine O _ J<|U J<|q7 d fun v x d=>Q3 (Ue b g v x) J<|O _ J<|O _ J<|O _ J<|q8 ?_;cases d;exact ⟨_,_,_,_,_,_,J⟩
    refine qb J<|qb J<|qb J<|qb J<|qb J<|O _ J<|q8 ?_;cases d;exact ⟨_,_,_,_,_,_,J⟩
   rintro _ ⟨k,l,m,n,o,p,rfl⟩;refine q8 ?_;refine ql J a (fun _ a=>?_) (fun _ a=>?_)
   ·refine qc<|qa J<|qu ?_;refine ⟨_,qn a,fun hm=>?_⟩;subst hm;cases c;exact Q5 _ J
   refine qm<|Qj<|Qq<|Q1<|U J<|O _ J<|qa J<|qz<|⟨_,qn a,wkA [(0,0),(1,1)] [] []⟩
  refine Qc ?_;refine ⟨_,qn a,fun hm=>?_⟩;subst hm;exact ⟨_,J,wkA [(0,0)] [] []⟩
 intro h hb;subst hb;refine qc<|O _ J<|q7 c fun y z c=>Q3 (q57 b 240 y z) J<|qa J<|qu ?_;cases c;exact Q5 _ J
theorem qsh (c : List qj) (d : Q4) (b : Q4) (r : Bool × Int) (a : q7u c d b = some r) : Pure Tryz.prog tab 22 [.sl 6 (c.map Qi),.agg (K3 d),.agg (K3 b)] (.tup [.bool r.1,qf r.2]):=by
 unfold q7u at a;refine Qt Tryz.func22 J qg qg J<|qc<|Qn _ _ J<|Qn _ _ J<|qa J<|qa J<|q8<|qe<|qc<|U J<|O _ J<|q7 a fun f g a=>Q3 (qb4 c b f g) J<|O _ J<|q8 ?_;refine ql J a (fun _ a=>?_) (fun _ a=>?_)
 ·refine qc<|U J<|O _ J<|q7 a fun h j a=>Q3 (qb4 c b h j) J<|qa J<|qa J<|qu ?_;cases a;exact Q5 _ J
 refine qm<|qe<|qc<|O _ J<|O _ J<|q7 a fun k l a=>Q3 (qjq d b k l) J<|O _ J<|q8 ?_;refine ql J a (fun _ a=>?_) (fun _ a=>?_)
 ·refine qc<|qa J<|qa J<|qu ?_;cases a;exact Q5 _ J
 refine qm<|qc<|U J<|O _ J<|O _ J<|q7 a fun m n a=>Q3 (qsd c d b m n) J<|O _ J<|qa J<|qa J<|qu ?_;cases a;exact Q5 _ J
theorem qju (b : Int) (r : Int) (a : q5d b = some r) : Pure Tryz.prog tab 98 [qf b] (.int .u64 r):=by
 unfold q5d at a;refine Qt Tryz.func98 J qg qg J<|qc<|qa J<|q8<|qe<|qc<|U J<|O _ J<|q8 ?_;refine ql J a (fun _ a=>?_) (fun _ a=>?_)
 ·refine qc<|U J<|O _ J<|O _ J<|qa J<|qu ?_;cases a;exact Q5 _ J
 refine qm<|qc<|U J<|O _ J<|qa J<|qu ?_;cases a;exact Q5 _ J
theorem qsp (g : Int) (h : Int) (r : Int) (b : q7z g h = some r) : Pure Tryz.prog tab 99 [.int .u64 g,.int .u64 h] (.int .u64 r):=by
 unfold q7z at b;refine Qt Tryz.func99 J qg qg J<|qc<|qa J<|q8<|qe<|q7 b fun j k b=>?_;refine Qo (fun c=>c = j) (fun c=>⟨[(0,.d (.int .u64 c))],[],0⟩) qd ?_ ?_
 ·refine Qk (q5c) (fun f=>⟨[(0,.d (.int .u64 f.1)),(1,.d (.int .u64 f.2))],[],0⟩) _ j k (wkA [] [] []) ?_;intro f m a;unfold q5c at a;refine qe<|qc<|U J<|O _ J<|q8 ?_;refine ql J a (fun _ a=>?_) (fun _ a=>?_)
  ·refine qm<|Qa<|Qe [q0,q0,q0,q0,q0,q0] qg<|U J<|U J<|U J<|q7 a fun n l a=>qqj l J J J<|qa J<|qa J<|qz<|Qq<|Qj<|⟨_,qn a,wkA [] [] []⟩
  refine Qc ?_;refine ⟨_,qn a,fun hm=>?_⟩;subst hm;exact ⟨_,J,wkA [] [] []⟩
 intro c hb;subst hb;refine qc<|U J<|qa J<|qu ?_;cases b;exact Q5 _ J
theorem qsn (f : Int) (g : Int) (r : Ql × Int) (a : q7y f g = some r) : Pure Tryz.prog tab 60 [qf f,qf g] (.tup [.agg (Kl r.1),qf r.2]):=by
 unfold q7y at a;refine Qt Tryz.func60 J qg qg J<|qc<|K1 J J<|qa J<|q8<|qe<|qc<|U J<|O _ J<|q8 ?_;refine ql J a (fun _ a=>?_) (fun _ a=>?_)
 ·refine qc<|O _ J<|Qh 0 _ J<|qa J<|qu ?_;cases a;exact Q5 _ J
 refine qm<|qc<|U J<|q7 a fun h n a=>Q3 (qju f h n) J<|U J<|q7 a fun j o a=>Q3 (qju g j o) J<|qa J<|qa J<|qx<|U J<|U J<|q7 a fun p q a=>Q3 (qsp h j p q) J<|qa J<|q8<|qe<|Qe [q0,q0,q0,q0,q0,q0,q0,q0] qg<|U J<|U J<|q7 a fun y s a=>qiv s J J J<|U J<|U J<|q7 a fun t u a=>qiv u J J J<|qa J<|qa J<|q8<|qe<|qc<|U J<|O _ J<|q7 a fun v b a=>?_;refine Qf 4 (fun A st=>∃ k l m,st = A [(31,Q2 v),(30,m),(29,l),(28,k)]) ?_ ?_
 ·refine Qg J J b (fun b=>?_) (fun b=>?_)
  ·refine qb J<|qb J<|O _ J<|q8 ?_;cases b;exact ⟨_,_,_,J⟩
  refine U J<|O _ J<|O _ J<|q8 ?_;cases b;exact ⟨_,_,_,J⟩
 rintro _ ⟨k,l,m,rfl⟩;refine q8 ?_;refine ql J a (fun _ a=>?_) (fun _ a=>?_)
 ·refine qc<|O _ J<|Qh 0 _ J<|qa J<|qu ?_;cases a;exact Q5 _ J
 refine qm<|qc<|U J<|O _ J<|U J<|O _ J<|O _ J<|K1 J J<|Qh 1 _ J<|q8<|qe<|qc<|U J<|O _ J<|U J<|O _ J<|O _ J<|q8<|q7 a fun x c a=>?_;refine Y2 (fun d=>d = x) (fun d=>⟨[(4,.ref 0 2 0 0),(9,.ref 1 2 0 0)],[(0,.dat 2 [[qf 0,qf 0]]),(1,.dat 2 [[qf d,qf (w64 t)]])],2⟩) qd ?_ ?_
 ·refine ql J c (fun _ c=>?_) (fun _ c=>?_)
  ·refine Q1<|O _ J<|O _ J<|O _ J<|O _ J<|Qh 1 _ J<|qz ?_;obtain rfl:=qw c;exact ⟨_,J,wkA [(0,0),(1,1)] [] []⟩
  refine qm<|Qj ?_;obtain rfl:=qw c;exact ⟨_,J,wkA [(0,0),(1,1)] [] []⟩
 intro d hb;subst hb;refine qc<|O _ J<|Qh 0 _ J<|qa J<|qu ?_;cases a;exact Q5 _ J
theorem qyl (g : List qj) (c : Q4) (b : Q4) (r : Ql × Int) (a : q9i g c b = some r) : Pure Tryz.prog tab 23 [.sl 6 (g.map Qi),.agg (K3 c),.agg (K3 b)] (.tup [.agg (Kl r.1),qf r.2]):=by
 unfold q9i at a;refine Qt Tryz.func23 J qg qg J<|qc<|Qn _ _ J<|Qn _ _ J<|K1 J J<|qa J<|q8<|qe<|qc<|U J<|O _ J<|q7 a fun r1 h2 a=>Q3 (ql3 g b r1 h2) J<|qa J<|qx<|U J<|O _ J<|q8 ?_;refine ql J a (fun _ a=>?_) (fun _ a=>?_)
 ·refine qc<|O _ J<|U J<|Qh 2 _ J<|qa J<|qu ?_;cases a;exact Q5 _ J
 refine qm<|qc<|O _ J<|O _ J<|O _ J<|K1 J J<|Qh 3 _ J<|q8<|qe<|qc<|O _ J<|q7 a fun r3 h4 a=>Q3 (ql5 ({p_:=c,d_:=b} : Ym) r3 h4) J<|O _ J<|q8 ?_;refine ql J a (fun _ a=>?_) (fun _ a=>?_)
 ·refine qc<|O _ J<|Qh 2 _ J<|qa J<|qu ?_;cases a;exact Q5 _ J
 refine qm<|qc<|K1 J J<|qx<|qa J<|qx<|O _ J<|O _ J<|qa J<|q8<|qe<|qc<|U J<|K0 J<|U J<|q8<|q7 a fun o ai a=>?_;refine Qo (fun h=>h = o) (fun h=>⟨[(6,.ref 0 2 0 0),(10,.ref 1 2 0 0),(11,Q2 h.1)],[(0,.dat 2 [[qf 0,qf 0]]),(1,.dat 2 [[qf h.2.1,qf h.2.2]])],2⟩) qd ?_ ?_
 ·refine Qk (q1n g c b) (fun j=>⟨[(6,.ref 0 2 0 0),(10,.ref 1 2 0 0),(11,Q2 j.1),(12,.d (.bfn 58 [.agg [qf c.X,qf c.Y,qf c.Z,qf b.X,qf b.Y,qf b.Z]])),(33,.d (.sl 6 (g.map Qi))),(34,q9 (g.length : Int)),(35,q9 j.2.1)],[(0,.dat 2 [[qf 0,qf 0]]),(1,.dat 2 [[qf j.2.2.1,qf j.2.2.2]])],2⟩) _ o ai (wkA [(0,2),(1,4)] [] []) ?_;intro j av k;unfold q1n at k;refine qc<|O _ J<|q8<|qe ?_;refine ql J k (fun _ k=>?_) (fun _ k=>?_)
  ·refine qm<|qe<|q7 k fun aj f k=>?_;refine Qo (fun n=>n = aj) (fun n=>⟨[(6,.ref 0 2 0 0),(10,.ref 1 2 0 0),(11,Q2 n.1),(12,.d (.bfn 58 [.agg [qf c.X,qf c.Y,qf c.Z,qf b.X,qf b.Y,qf b.Z]])),(33,.d (.sl 6 (g.map Qi))),(34,q9 (g.length : Int)),(35,q9 j.2.1)],[(0,.dat 2 [[qf 0,qf 0]]),(1,.dat 2 [[qf n.2.1,qf n.2.2]])],2⟩) qd ?_ ?_
   ·refine qc<|q7 f fun ak al f=>Qm al J<|O _ J<|K1 J J<|Qh 2 _ J<|qx<|U J<|O _ J<|q7 f fun p am f=>Q3 (ql6 ({p_:=c,d_:=b} : Ym) ak p am) J<|U J<|O _ J<|O _ J<|K1 J J<|Qh 3 _ J<|qa J<|qx<|U J<|q7 f fun an l f=>?_;refine Qf 9 (fun A st=>∃ q s t u v x y z,st = A [(54,Q2 an),(53,z),(52,y),(51,x),(50,v),(49,u),(48,t),(47,s),(46,q)]) ?_ ?_
    ·refine Qg J J l (fun l=>?_) (fun l=>?_)
     ·refine U J<|O _ J<|q7 l fun ao m l=>?_;refine Qf 5 (fun A st=>∃ aa ab ac ad,st = A [(53,Q2 ao),(52,ad),(51,ac),(50,ab),(49,aa)]) ?_ ?_
      ·refine Qg J J m (fun m=>?_) (fun m=>?_)
       ·refine qb J<|qb J<|qb J<|O _ J<|q8 ?_;cases m;exact ⟨_,_,_,_,J⟩
       refine O _ J<|O _ J<|q7 m fun ap aq m=>Q3 (qbq p.1 ({num_:=j.2.2.1,den_:=j.2.2.2} : Kr) ap aq) J<|O _ J<|q8 ?_;cases m;exact ⟨_,_,_,_,J⟩
      rintro _ ⟨aa,ab,ac,ad,rfl⟩;refine O _ J<|q8 ?_;cases l;exact ⟨_,_,_,_,_,_,_,_,J⟩
     refine qb J<|qb J<|qb J<|qb J<|qb J<|qb J<|qb J<|O _ J<|q8 ?_;cases l;exact ⟨_,_,_,_,_,_,_,_,J⟩
    rintro _ ⟨q,s,t,u,v,x,y,z,rfl⟩;refine q8 ?_;refine ql J f (fun _ f=>?_) (fun _ f=>?_)
    ·refine Q1<|O _ J<|Qh 1 _ J<|qa J<|qz ?_;obtain rfl:=qw f;exact ⟨_,J,wkA [(0,0),(1,1)] [] []⟩
    refine qm<|Qj ?_;obtain rfl:=qw f;exact ⟨_,J,wkA [(0,0),(1,1)] [] []⟩
   intro n hb;subst hb;refine Q1<|O _ J<|U J<|qz<|⟨_,qn k,wkA [(0,0),(1,1)] [] []⟩
  refine Qc ?_;refine ⟨_,qn k,fun hm=>?_⟩;subst hm;exact ⟨_,J,wkA [(0,0),(1,1)] [] []⟩
 intro h hb;subst hb;refine qe<|qc<|U J<|O _ J<|q8 ?_;refine ql J a (fun _ a=>?_) (fun _ a=>?_)
 ·refine qc<|O _ J<|Qh 0 _ J<|qa J<|qu ?_;cases a;exact Q5 _ J
 refine qm<|qc<|O _ J<|O _ J<|O _ J<|O _ J<|q7 a fun ar au a=>Q3 (qsn h.2.1 h.2.2 ar au) J<|O _ J<|O _ J<|Qh 0 _ J<|qa J<|qu ?_;cases a;exact Q5 _ J
theorem qsf (h : List qj) (j : Q4) (c : Q4) (r : Ql × Int) (a : q7t h j c = some r) : Pure Tryz.prog tab 24 [.sl 6 (h.map Qi),.agg (K3 j),.agg (K3 c)] (.tup [.agg (Kl r.1),qf r.2]):=by
 unfold q7t at a;refine Qt Tryz.func24 J qg qg J<|qc<|Qn _ _ J<|Qn _ _ J<|K1 J J<|qa J<|q8<|qe<|qc<|U J<|O _ J<|q7 a fun r1 h2 a=>Q3 (qb4 h c r1 h2) J<|O _ J<|q8 ?_;refine ql J a (fun _ a=>?_) (fun _ a=>?_)
 ·refine qc<|O _ J<|U J<|O _ J<|q7 a fun r5 h6 a=>Q3 (qb4 h c r5 h6) J<|Qh 2 _ J<|qa J<|qu ?_;cases a;exact Q5 _ J
 refine qm<|qe<|qc<|O _ J<|O _ J<|q7 a fun r7 h8 a=>Q3 (qjq j c r7 h8) J<|O _ J<|q8 ?_;refine ql J a (fun _ a=>?_) (fun _ a=>?_)
 ·refine qc<|O _ J<|Qh 2 _ J<|qa J<|qu ?_;cases a;exact Q5 _ J
 refine qm<|qc<|O _ J<|K1 J J<|Qh 3 _ J<|qa J<|q8<|qe<|qc<|qa J<|q8<|q7 a fun o ak a=>?_;refine Qo (fun m=>m = o) (fun m=>⟨[(6,.ref 0 2 0 0),(8,.ref 1 2 0 0),(9,Q2 m.1)],[(0,.dat 2 [[qf 0,qf 0]]),(1,.dat 2 [[qf m.2.1,qf m.2.2]])],2⟩) qd ?_ ?_
 ·refine Qk (q1f h j c) (fun f=>⟨[(0,.d (.sl 6 (h.map Qi))),(4,.ref 0 3 0 0),(5,.ref 1 3 0 0),(6,.ref 2 2 0 0),(8,.ref 3 2 0 0),(9,Q2 f.1),(10,q9 f.2.1)],[(0,.dat 3 [(K3 j)]),(1,.dat 3 [(K3 c)]),(2,.dat 2 [[qf 0,qf 0]]),(3,.dat 2 [[qf f.2.2.1,qf f.2.2.2]])],4⟩) _ o ak (wkA [(0,0),(1,1),(2,2),(3,3)] [] []) ?_;intro f av g;unfold q1f at g;refine qe<|qc<|U J<|U J<|K0 J<|O _ J<|q8 ?_;refine ql J g (fun _ g=>?_) (fun _ g=>?_)
  ·refine qm<|qe<|q7 g fun al b g=>?_;refine Qo (fun n=>n = al) (fun n=>⟨[(0,.d (.sl 6 (h.map Qi))),(4,.ref 0 3 0 0),(5,.ref 1 3 0 0),(6,.ref 2 2 0 0),(8,.ref 3 2 0 0),(9,Q2 n.1),(10,q9 f.2.1)],[(0,.dat 3 [(K3 j)]),(1,.dat 3 [(K3 c)]),(2,.dat 2 [[qf 0,qf 0]]),(3,.dat 2 [[qf n.2.1,qf n.2.2]])],4⟩) qd ?_ ?_
   ·refine qe<|Qe [q0,Qs 4,(some [],[4]),q0,q0,q0,q0,qv 1,qv 0,q0,q0,q0,q0] qg<|U J<|U J<|q7 b fun am an b=>Qm an J<|O _ J<|O _ J<|O _ J<|q7 b fun p ao b=>Q3 (qjs am j c p ao) J<|U J<|O _ J<|O _ J<|K1 J J<|Qh 4 _ J<|qa J<|qx<|U J<|q7 b fun ap k b=>?_;refine Qf 9 (fun A st=>∃ q s t u v x y z,st = A [(52,Q2 ap),(51,z),(50,y),(49,x),(48,v),(47,u),(46,t),(45,s),(44,q)]) ?_ ?_
    ·refine Qg J J k (fun k=>?_) (fun k=>?_)
     ·refine U J<|O _ J<|q7 k fun aq l k=>?_;refine Qf 5 (fun A st=>∃ aa ab ac ad,st = A [(51,Q2 aq),(50,ad),(49,ac),(48,ab),(47,aa)]) ?_ ?_
      ·refine Qg J J l (fun l=>?_) (fun l=>?_)
       ·refine qb J<|qb J<|qb J<|O _ J<|q8 ?_;cases l;exact ⟨_,_,_,_,J⟩
       refine O _ J<|O _ J<|q7 l fun ar au l=>Q3 (qjd p.1 ({Num:=f.2.2.1,Den:=f.2.2.2} : Ql) ar au) J<|O _ J<|q8 ?_;cases l;exact ⟨_,_,_,_,J⟩
      rintro _ ⟨aa,ab,ac,ad,rfl⟩;refine O _ J<|q8 ?_;cases k;exact ⟨_,_,_,_,_,_,_,_,J⟩
     refine qb J<|qb J<|qb J<|qb J<|qb J<|qb J<|qb J<|O _ J<|q8 ?_;cases k;exact ⟨_,_,_,_,_,_,_,_,J⟩
    rintro _ ⟨q,s,t,u,v,x,y,z,rfl⟩;refine q8 ?_;refine ql J b (fun _ b=>?_) (fun _ b=>?_)
    ·refine Q1<|O _ J<|Qh 3 _ J<|qa J<|qz ?_;obtain rfl:=qw b;exact ⟨_,J,wkA [(0,0),(1,1),(2,2),(3,3)] [] []⟩
    refine qm<|Qj ?_;obtain rfl:=qw b;exact ⟨_,J,wkA [(0,0),(1,1),(2,2),(3,3)] [] []⟩
   intro n hb;subst hb;refine Q1<|U J<|O _ J<|qa J<|qz<|⟨_,qn g,wkA [(0,0),(1,1),(2,2),(3,3)] [] []⟩
  refine Qc ?_;refine ⟨_,qn g,fun hm=>?_⟩;subst hm;exact ⟨_,J,wkA [(0,2),(1,3)] [] []⟩
 intro m hb;subst hb;refine qe<|qc<|U J<|O _ J<|q8 ?_;refine ql J a (fun _ a=>?_) (fun _ a=>?_)
 ·refine qc<|O _ J<|Qh 0 _ J<|qa J<|qu ?_;cases a;exact Q5 _ J
 refine qm<|qc<|O _ J<|Qh 0 _ J<|qa J<|qu ?_;cases a;exact Q5 _ J
theorem qzo (b : List qj) (c : Q4) (d : Q4) (r : Bool) (a : qak b c d = some r) : Pure Tryz.prog tab 5 [.sl 6 (b.map Qi),.agg (K3 c),.agg (K3 d)] (.bool r):=by
 unfold qak at a;refine Qt Tryz.func5 J qg qg J<|qc<|Qn _ _ J<|Qn _ _ J<|qa J<|q8<|qe<|qc<|U J<|q7 a fun x y a=>Q3 (qsi b x y) J<|O _ J<|q8 ?_;refine ql J a (fun _ a=>?_) (fun _ a=>?_)
 ·refine qc<|qa J<|qu ?_;cases a;exact Q5 _ J
 refine qm<|qc<|U J<|O _ J<|O _ J<|q7 a fun z h4 a=>Q3 (qyn b c d z h4) J<|U J<|O _ J<|O _ J<|qa J<|qa J<|qx<|U J<|O _ J<|O _ J<|q7 a fun r5 h6 a=>Q3 (qsh b c d r5 h6) J<|U J<|O _ J<|O _ J<|qa J<|qa J<|qx<|U J<|O _ J<|O _ J<|q7 a fun r7 h8 a=>Q3 (qyl b c d r7 h8) J<|U J<|O _ J<|O _ J<|K1 J J<|Qh 2 _ J<|qa J<|qx<|U J<|O _ J<|O _ J<|q7 a fun r9 ag a=>?_;refine Q3 (qsf b c d r9 ag) J<|U J<|O _ J<|O _ J<|K1 J J<|Qh 3 _ J<|qa J<|qx<|U J<|U J<|O _ J<|q7 a fun ah f a=>?_;refine Qf 5 (fun A st=>∃ j k l m,st = A [(53,Q2 ah),(52,m),(51,l),(50,k),(49,j)]) ?_ ?_
 ·refine Qg J J f (fun f=>?_) (fun f=>?_)
  ·refine U J<|U J<|O _ J<|O _ J<|q8 ?_;cases f;exact ⟨_,_,_,_,J⟩
  refine qb J<|qb J<|qb J<|O _ J<|q8 ?_;cases f;exact ⟨_,_,_,_,J⟩
 rintro _ ⟨j,k,l,m,rfl⟩;refine q7 a fun ai g a=>?_;refine Qf 5 (fun A st=>∃ n o p q,st = A [(58,Q2 ai),(57,q),(56,p),(55,o),(54,n)]) ?_ ?_
 ·refine Qg J J g (fun g=>?_) (fun g=>?_)
  ·refine O _ J<|O _ J<|O _ J<|O _ J<|q8 ?_;cases g;exact ⟨_,_,_,_,J⟩
  refine qb J<|qb J<|qb J<|O _ J<|q8 ?_;cases g;exact ⟨_,_,_,_,J⟩
 rintro _ ⟨n,o,p,q,rfl⟩;refine q7 a fun aj h a=>?_;refine Qf 5 (fun A st=>∃ s t u v,st = A [(63,Q2 aj),(62,v),(61,u),(60,t),(59,s)]) ?_ ?_
 ·refine Qg J J h (fun h=>?_) (fun h=>?_)
  ·refine U J<|U J<|O _ J<|O _ J<|q8 ?_;cases h;exact ⟨_,_,_,_,J⟩
  refine qb J<|qb J<|qb J<|O _ J<|q8 ?_;cases h;exact ⟨_,_,_,_,J⟩
 rintro _ ⟨s,t,u,v,rfl⟩;refine qa J<|qu ?_;cases a;exact Q5 _ J
end Go.Proofs.YtmnfbjlabfeneaaGreat
namespace Go.Proofs.YtmnfbjlabfeneaaGreat
open Go Go.Am Go.Sh
end Go.Proofs.YtmnfbjlabfeneaaGreat
