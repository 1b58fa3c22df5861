/- W_Alld W_Alle W_Allf W_All -/
import Derived.Test.YtgkialgkmjnfbaaGreatK20
namespace Go.Proofs.YtgkialgkmjnfbaaGreat
open Go Go.Am Go.Sh
set_option maxHeartbeats 8000000
set_option maxRecDepth 100000
theorem qp8 (f : Qh) (r : Int × Int) (a : q4u f = some r) : Pure Tryz.prog tab 17 [.agg [.sl 2 (f.Nodes.map qr),.sl 2 (f.Edges.map Q6)]] (.tup [qk r.1,qk r.2]):=by
 unfold q4u at a;refine K8 Tryz.func17 O qm qm O<|qg<|Qx _ _ O<|qe O<|qe O<|qz<|U _ O<|q9 a fun g l a=>Qj (qhx f g l) O<|q0 O<|U _ O<|U _ O<|qe O<|qe O<|qd<|qh<|qg<|q0 O<|U _ O<|qd ?_;refine qt O a (fun _ a=>?_) (fun _ a=>?_)
 ·refine qg<|q0 O<|qe O<|qe O<|Qb ?_;cases a;exact Qv _ O
 refine qv<|qg<|qe O<|qd<|qh<|qg<|q0 O<|Ks O<|q0 O<|qd<|q9 a fun k m a=>?_;refine K2 (fun h=>h = k) (fun h=>⟨[(6,qc h)],[],0⟩) qb ?_ ?_
 ·refine Qt (q1v g) (fun j=>⟨[(6,qc j.1),(17,.d (.sl 4 (g.1.map Kv))),(18,qc (g.1.length : Int)),(19,qc j.2)],[],0⟩) _ k m (wkA [] [] []) ?_;intro j o b;unfold q1v at b;refine qg<|U _ O<|qd<|qh ?_;refine qt O b (fun _ b=>?_) (fun _ b=>?_)
  ·refine qv<|qh<|Qe<|qg<|q9 b fun c n b=>Ky n O<|U _ O<|K6 O O<|K0 0 _ O<|qd<|Qa<|q0 O<|U _ O<|U _ O<|U _ O<|U _ O<|U _ O<|U _ O<|Z9 (r:=max c.A.X c.B.X) O O (by simp only [Z8];rfl)<|U _ O<|U _ O<|U _ O<|U _ O<|U _ O<|U _ O<|J8 (r:=min c.A.X c.B.X) O O (by simp only [J7];rfl)<|U _ O<|U _ O<|U _ O<|U _ O<|U _ O<|U _ O<|U _ O<|Z9 (r:=max c.A.Y c.B.Y) O O (by simp only [Z8];rfl)<|U _ O<|U _ O<|U _ O<|U _ O<|U _ O<|U _ O ?_;refine U _ O<|J8 (r:=min c.A.Y c.B.Y) O O (by simp only [J7];rfl)<|U _ O<|U _ O<|qe O<|Q8<|Qp<|Qa<|U _ O<|q0 O<|Q8<|⟨_,qs b,wkA [] [] []⟩
  refine Ql ?_;refine ⟨_,qs b,fun hm=>?_⟩;subst hm;exact ⟨_,O,wkA [] [] []⟩
 intro h hb;subst hb;refine qg<|q0 O<|qe O<|qe O<|Qb ?_;cases a;exact Qv _ O
theorem qzg (a : qu) (r : Int) (b : q4f a = some r) : Pure Tryz.prog tab 29 [.agg (Kv a)] (qk r):=by
 unfold q4f at b;refine K8 Tryz.func29 O qm qm O<|qg<|Qx _ _ O<|qe O<|qz<|U _ O<|U _ O<|U _ O<|U _ O<|U _ O<|U _ O<|U _ O<|U _ O<|U _ O<|U _ O<|U _ O<|U _ O<|U _ O<|U _ O<|Z9 (r:=max (w64 (a.A.X - a.B.X)) (w64 (a.B.X - a.A.X))) O O (by simp only [Z8];rfl)<|U _ O<|U _ O<|U _ O<|U _ O<|U _ O<|U _ O<|U _ O<|U _ O<|U _ O<|U _ O<|U _ O<|U _ O<|U _ O<|U _ O<|Z9 (r:=max (w64 (a.A.Y - a.B.Y)) (w64 (a.B.Y - a.A.Y))) O O (by simp only [Z8];rfl)<|U _ O<|qe O<|Qb ?_;cases b;exact Qv _ O
theorem qfq (a : qa) (r : Bool) (c : q40 a = some r) : Pure Tryz.prog tab 67 [.agg (qr a)] (.bool r):=by
 unfold q40 at c;refine K8 Tryz.func67 O qm qm O<|qg<|Qx _ _ O<|qe O<|qz<|U _ O<|U _ O<|U _ O<|U _ O<|U _ O<|U _ O<|U _ O<|U _ O<|U _ O<|U _ O<|Z9 (r:=max (max (max a.X (w64 (0 - a.X))) a.Y) (w64 (0 - a.Y))) O O (by simp only [Z8];rfl)<|U _ O<|q9 c fun m b c=>?_;refine Qn 8 (fun A st=>∃ d f g h j k l,st = A [(22,Q7 m),(21,l),(20,k),(19,j),(18,h),(17,g),(16,f),(15,d)]) ?_ ?_
 ·refine Qm O O b (fun b=>?_) (fun b=>?_)
  ·refine U _ O<|U _ O<|U _ O<|U _ O<|J8 (r:=min a.X a.Y) O O (by simp only [J7];rfl)<|U _ O<|U _ O<|qd ?_;cases b;exact ⟨_,_,_,_,_,_,_,O⟩
  refine qf O<|qf O<|qf O<|qf O<|qf O<|qf O<|U _ O<|qd ?_;cases b;exact ⟨_,_,_,_,_,_,_,O⟩
 rintro _ ⟨d,f,g,h,j,k,l,rfl⟩;refine qe O<|Qb ?_;cases c;exact Qv _ O
theorem qkf (f : List Zm) (r : Int) (b : q5a f = some r) : Pure Tryz.prog tab 47 [.sl 5 (f.map Ye)] (qk r):=by
 unfold q5a at b;refine K8 Tryz.func47 O qm qm O<|qg<|qe O<|qd<|qh<|qg<|q0 O<|Ks O<|U _ O<|qd ?_;refine qt O b (fun _ b=>?_) (fun _ b=>?_)
 ·refine qg<|qe O<|Qb ?_;cases b;exact Qv _ O
 refine qv<|qh<|qg<|q0 O<|Ks O<|q0 O<|qd<|q9 b fun n ap b=>?_;refine K2 (fun m=>.inl m = n) (fun m=>⟨[],[],0⟩) qb ?_ ?_
 ·refine Qt (qcy f) (fun o=>⟨[(8,.d (.sl 5 (f.map Ye))),(9,qc (f.length : Int)),(10,qc o)],[],0⟩) _ n ap (wkA [] [] []) ?_;intro o bc a;unfold qcy at a;refine qg<|U _ O<|qd<|qh ?_;refine qt O a (fun _ a=>?_) (fun _ a=>?_)
  ·refine qv<|qh<|Qe<|qg<|q9 a fun aq ar a=>Ky ar O<|U _ O<|K6 O O<|K0 0 _ O<|qz<|U _ O<|U _ O<|U _ O<|q9 a fun au g a=>?_;refine Qn 5 (fun A st=>∃ p q s t,st = A [(21,Q7 au),(20,t),(19,s),(18,q),(17,p)]) ?_ ?_
   ·refine Qm O O g (fun g=>?_) (fun g=>?_)
    ·refine qf O<|qf O<|qf O<|U _ O<|qd ?_;cases g;exact ⟨_,_,_,_,O⟩
    refine U _ O<|U _ O<|U _ O<|U _ O<|qd ?_;cases g;exact ⟨_,_,_,_,O⟩
   rintro _ ⟨p,q,s,t,rfl⟩;refine q9 a fun av c a=>?_;refine Qn 6 (fun A st=>∃ u v w x y,st = A [(27,Q7 av),(26,y),(25,x),(24,w),(23,v),(22,u)]) ?_ ?_
   ·refine Qm O O c (fun c=>?_) (fun c=>?_)
    ·refine qf O<|qf O<|qf O<|qf O<|U _ O<|qd ?_;cases c;exact ⟨_,_,_,_,_,O⟩
    refine U _ O<|U _ O<|q9 c fun aw ax c=>Qj (qfq aq.At aw ax) O<|U _ O<|U _ O<|qd ?_;cases c;exact ⟨_,_,_,_,_,O⟩
   rintro _ ⟨u,v,w,x,y,rfl⟩;refine q9 a fun ay h a=>?_;refine Qn 5 (fun A st=>∃ z aa ab ac,st = A [(32,Q7 ay),(31,ac),(30,ab),(29,aa),(28,z)]) ?_ ?_
   ·refine Qm O O h (fun h=>?_) (fun h=>?_)
    ·refine qf O<|qf O<|qf O<|U _ O<|qd ?_;cases h;exact ⟨_,_,_,_,O⟩
    refine U _ O<|U _ O<|U _ O<|U _ O<|qd ?_;cases h;exact ⟨_,_,_,_,O⟩
   rintro _ ⟨z,aa,ab,ac,rfl⟩;refine q9 a fun az j a=>?_;refine Qn 5 (fun A st=>∃ ad ae af ag,st = A [(37,Q7 az),(36,ag),(35,af),(34,ae),(33,ad)]) ?_ ?_
   ·refine Qm O O j (fun j=>?_) (fun j=>?_)
    ·refine qf O<|qf O<|qf O<|U _ O<|qd ?_;cases j;exact ⟨_,_,_,_,O⟩
    refine U _ O<|U _ O<|U _ O<|U _ O<|qd ?_;cases j;exact ⟨_,_,_,_,O⟩
   rintro _ ⟨ad,ae,af,ag,rfl⟩;refine q9 a fun ba k a=>?_;refine Qn 5 (fun A st=>∃ ah ai aj ak,st = A [(42,Q7 ba),(41,ak),(40,aj),(39,ai),(38,ah)]) ?_ ?_
   ·refine Qm O O k (fun k=>?_) (fun k=>?_)
    ·refine qf O<|qf O<|qf O<|U _ O<|qd ?_;cases k;exact ⟨_,_,_,_,O⟩
    refine U _ O<|U _ O<|U _ O<|U _ O<|qd ?_;cases k;exact ⟨_,_,_,_,O⟩
   rintro _ ⟨ah,ai,aj,ak,rfl⟩;refine q9 a fun bb l a=>?_;refine Qn 5 (fun A st=>∃ al am an ao,st = A [(47,Q7 bb),(46,ao),(45,an),(44,am),(43,al)]) ?_ ?_
   ·refine Qm O O l (fun l=>?_) (fun l=>?_)
    ·refine qf O<|qf O<|qf O<|U _ O<|qd ?_;cases l;exact ⟨_,_,_,_,O⟩
    refine U _ O<|U _ O<|U _ O<|U _ O<|qd ?_;cases l;exact ⟨_,_,_,_,O⟩
   rintro _ ⟨al,am,an,ao,rfl⟩;refine qd ?_;refine qt O a (fun _ a=>?_) (fun _ a=>?_)
   ·refine qg<|qe O<|Qb ?_;refine ⟨_,qs a,fun hm=>?_⟩;subst hm;cases b;exact Qv _ O
   refine qv<|Qf<|Qp<|Qa<|U _ O<|q0 O<|Q8<|⟨_,qs a,wkA [] [] []⟩
  refine Ql ?_;refine ⟨_,qs a,fun hm=>?_⟩;subst hm;exact ⟨_,O,wkA [] [] []⟩
 intro m hb;subst hb;refine qg<|qe O<|Qb ?_;cases b;exact Qv _ O
theorem qtp (f : List Zm) (a : qa) (r : Int) (k : qcz f a = some r) : Pure Tryz.prog tab 105 [.sl 5 (f.map Ye),.agg (qr a)] (qk r):=by
 unfold qcz at k;refine K8 Tryz.func105 O qm qm O<|qg<|Qx _ _ O<|qe O<|qz<|K6 O O<|K0 1 _ O<|qd<|qh<|qg<|q0 O<|U _ O<|q9 k fun x y k=>?_;refine q8n [.d (.sl 5 (f.map Ye)),.d (.agg (qr a))] (fun p=>p = x) (fun p=>⟨[(4,qc 0),(5,.ref 0 1 0 0),(10,.fn 131 [.ref 1 1 0 0,.ref 2 2 0 0])],[(0,.dat 1 [[qk 0]]),(1,.dat 1 [[.sl 5 (f.map Ye)]]),(2,.dat 2 [(qr a)])],3⟩) O O Tryz.func123 O qm qm O ?_ ?_
 ·refine qg<|Qx _ _ O<|Qx _ _ O<|qe O<|qz<|U _ O<|qe O<|Qb ?_;refine ⟨.inr O,_,O,?_⟩;obtain rfl:=qw y;exact ⟨_,O,wkA [(0,1),(1,2),(2,3)] [] []⟩
 intro p hb;subst hb;refine qd<|Qe<|q9 k fun z q k=>?_;refine qoa (fun n=>n = z) (fun n=>⟨[(5,.ref 0 1 0 0)],[(0,.dat 1 [[qk n]])],1⟩) ?_ ?_
 ·refine Zx (st':=⟨[(4,qc 0),(5,.ref 0 1 0 0),(10,.fn 131 [.ref 1 1 0 0,.ref 2 2 0 0])],[(0,.dat 1 [[qk 0]]),(1,.dat 1 [[.sl 5 (f.map Ye)]]),(2,.dat 2 [(qr a)])],3⟩) (wkA [(0,0),(1,1),(2,2)] [] []) ?_ qb;refine qoc _ (.inl O) Tryz.func131 O qm qm O ?_;intro A58 B59 hA58 hB59;refine qg<|U _ O<|Ks O<|q0 O<|qd<|q9 q fun aa ab q=>Qe<|Qt (qd0 f a) (fun h=>⟨[(0,.yld 3),(2,.ref 2 2 0 0),(9,.d (.sl 5 (f.map Ye))),(10,qc (f.length : Int)),(11,qc h.1)],[(0,.dat 1 [[qk h.2]]),(1,.dat 1 [[.sl 5 (f.map Ye)]]),(2,.dat 2 [(qr a)]),(3,.loop [(4,qc 0),(5,.ref 0 1 0 0),(10,.fn 131 [.ref 1 1 0 0,.ref 2 2 0 0])] [11,12] A58 B59 .ready none)],4⟩) _ aa ab (wkA [] [] []) ?_;intro h ai j;unfold qd0 at j;refine qg<|U _ O<|qd<|qh ?_;refine qt O j (fun _ j=>?_) (fun _ j=>?_)
  ·refine qv<|qh<|q9 j fun ac g j=>?_;refine K2 (fun o=>o = ac) (fun o=>⟨[(0,.yld 3),(2,.ref 2 2 0 0),(9,.d (.sl 5 (f.map Ye))),(10,qc (f.length : Int)),(11,qc h.1)],[(0,.dat 1 [[qk o]]),(1,.dat 1 [[.sl 5 (f.map Ye)]]),(2,.dat 2 [(qr a)]),(3,.loop [(4,qc 0),(5,.ref 0 1 0 0),(10,.fn 131 [.ref 1 1 0 0,.ref 2 2 0 0])] [11,12] A58 B59 .ready none)],4⟩) qb ?_ ?_
   ·refine qg<|q9 g fun b ad g=>Ky ad O<|U _ O<|K6 O O<|K0 4 _ O<|qd<|qh<|Qg [q8,q8,q8,qq 4,q8,q8,qq 2,q8,q8,qq 4,q8,q8,qq 2,q8] qm<|U _ O<|U _ O<|U _ O<|U _ O<|U _ O<|U _ O<|U _ O<|U _ O<|U _ O<|U _ O<|U _ O<|U _ O<|qe O<|qe O<|qz<|q0 O<|q0 O<|U _ O<|Z9 (r:=max (w64 (a.X - b.At.X)) (w64 (0 - (w64 (a.X - b.At.X))))) O O (by simp only [Z8];rfl)<|q0 O<|q0 O<|U _ O<|Z9 (r:=max (w64 (a.Y - b.At.Y)) (w64 (0 - (w64 (a.Y - b.At.Y))))) O O (by simp only [Z8];rfl)<|qe O<|qe O<|qd<|qh<|qg<|q0 O<|q0 O<|Z9 (r:=max (max (w64 (a.X - b.At.X)) (w64 (0 - (w64 (a.X - b.At.X))))) (max (w64 (a.Y - b.At.Y)) (w64 (0 - (w64 (a.Y - b.At.Y)))))) O O (by simp only [Z8];rfl) ?_;refine U _ O<|U _ O<|U _ O<|qd ?_;refine qt O g (fun _ g=>?_) (fun _ g=>?_)
    ·refine Ql ?_;obtain rfl:=qw g;exact ⟨_,O,wkA [] [] []⟩
    refine qv<|qg<|qe O<|qd<|qh<|q9 g fun ae c g=>?_;refine K2 (fun l=>l = ae) (fun l=>⟨[(0,.yld 3),(2,.ref 2 2 0 0),(5,.ref 4 5 0 0),(6,.d (qk (max (w64 (a.X - b.At.X)) (w64 (0 - (w64 (a.X - b.At.X))))))),(7,.d (qk (max (w64 (a.Y - b.At.Y)) (w64 (0 - (w64 (a.Y - b.At.Y))))))),(8,qc l),(9,.d (.sl 5 (f.map Ye))),(10,qc (f.length : Int)),(11,qc h.1)],[(0,.dat 1 [[qk h.2]]),(1,.dat 1 [[.sl 5 (f.map Ye)]]),(2,.dat 2 [(qr a)]),(3,.loop [(4,qc 0),(5,.ref 0 1 0 0),(10,.fn 131 [.ref 1 1 0 0,.ref 2 2 0 0])] [11,12] A58 B59 .ready none),(4,.dat 5 [(Ye b)])],5⟩) qb ?_ ?_
    ·refine qg<|U _ O<|U _ O<|U _ O<|qe O<|qd ?_;refine qt O c (fun _ c=>?_) (fun _ c=>?_)
     ·refine Qa<|qe O<|Q8 ?_;obtain rfl:=qw c;exact ⟨_,O,wkA [(4,4)] [] []⟩
     refine qg<|U _ O<|U _ O<|U _ O<|qe O<|qd ?_;refine qt O c (fun _ c=>?_) (fun _ c=>?_)
     ·refine Qa<|qe O<|Q8 ?_;obtain rfl:=qw c;exact ⟨_,O,wkA [(4,4)] [] []⟩
     refine qg<|U _ O<|U _ O<|U _ O<|q0 O<|q0 O<|U _ O<|U _ O<|q9 c fun af m c=>?_;refine Qn 5 (fun A st=>∃ t u v w,st = A [(61,Q7 af),(60,w),(59,v),(58,u),(57,t)]) ?_ ?_
     ·refine Qm O O m (fun m=>?_) (fun m=>?_)
      ·refine q0 O<|q0 O<|U _ O<|U _ O<|qd ?_;cases m;exact ⟨_,_,_,_,O⟩
      refine qf O<|qf O<|qf O<|U _ O<|qd ?_;cases m;exact ⟨_,_,_,_,O⟩
     rintro _ ⟨t,u,v,w,rfl⟩;refine qe O<|qd ?_;refine qt O c (fun _ c=>?_) (fun _ c=>?_)
     ·refine Qa<|qe O<|Q8 ?_;obtain rfl:=qw c;exact ⟨_,O,wkA [(4,4)] [] []⟩
     refine qg<|q0 O<|q0 O<|U _ O<|qe O<|qd ?_;refine qt O c (fun _ c=>?_) (fun _ c=>?_)
     ·refine Qa<|qe O<|Q8 ?_;obtain rfl:=qw c;exact ⟨_,O,wkA [(4,4)] [] []⟩
     refine qv<|Qf ?_;obtain rfl:=qw c;exact ⟨_,O,wkA [(4,4)] [] []⟩
    intro l hb;subst hb;refine qg<|q0 O<|U _ O<|q0 O<|U _ O<|U _ O<|U _ O<|U _ O<|U _ O<|U _ O<|q0 O<|q0 O<|Z9 (r:=max (max (w64 (a.X - b.At.X)) (w64 (0 - (w64 (a.X - b.At.X))))) (max (w64 (a.Y - b.At.Y)) (w64 (0 - (w64 (a.Y - b.At.Y)))))) O O (by simp only [Z8];rfl)<|U _ O<|U _ O<|q9 g fun ag ah g=>?_;refine qn0 (fun s=>s = ag) (fun s=>⟨[(0,.yld 3),(2,.ref 2 2 0 0),(9,.d (.sl 5 (f.map Ye))),(10,qc (f.length : Int)),(11,qc h.1),(80,Q7 true)],[(0,.dat 1 [[qk (w64 (h.2 + (w64 ((w64 (l * b.Weight)) * (w64 ((w64 (b.Reach + 1)) - (max (max (w64 (a.X - b.At.X)) (w64 (0 - (w64 (a.X - b.At.X))))) (max (w64 (a.Y - b.At.Y)) (w64 (0 - (w64 (a.Y - b.At.Y))))))))))))]]),(1,.dat 1 [[.sl 5 (f.map Ye)]]),(2,.dat 2 [(qr a)]),(3,.loop [(4,qc 0),(5,.ref 0 1 0 0),(10,.fn 131 [.ref 1 1 0 0,.ref 2 2 0 0])] [11,12] A58 B59 .ready none)],4⟩) hA58 hB59 O O O O O O ?_ ?_
    ·refine Qa<|qe O<|Q8 ?_;refine ⟨O,_,O,?_⟩;refine Qe<|Qa<|U _ O<|q0 O<|U _ O<|K0 0 _ O<|Q8<|Qp<|Qf ?_;refine ⟨_,O,?_⟩;obtain rfl:=qw ah;exact ⟨_,O,wkA [] [] []⟩
    intro s hb;subst hb;refine U _ O<|qd<|U8 O<|qv<|Qf ?_;obtain rfl:=qw g;exact ⟨_,O,wkA [] [] []⟩
   intro o hb;subst hb;refine Qa<|U _ O<|q0 O<|Q8<|⟨_,qs j,wkA [] [] []⟩
  refine Ql ?_;refine ⟨_,qs j,fun hm=>?_⟩;subst hm;refine ⟨.inl O,_,O,_,_,.nor,O,qy,?_⟩;refine qik<|Qf ?_;obtain rfl:=qw q;exact ⟨_,O,wkA [(0,0)] [] []⟩
 intro n st hb hw;subst hb;refine Zx hw ?_ qb;refine qg<|U _ O<|qe O<|Qb ?_;cases k;exact Qv _ O
theorem qto (b : List Zm) (c : qa) (r : Int) (a : q81 b c = some r) : Pure Tryz.prog tab 88 [.sl 5 (b.map Ye),.agg (qr c)] (.int .u8 r):=by
 unfold q81 at a;refine K8 Tryz.func88 O qm qm O<|qg<|Qx _ _ O<|qe O<|qd<|qh<|qg<|q0 O<|U _ O<|q9 a fun d f a=>Qj (qtp b c d f) O<|qe O<|qd<|Qe<|qg<|q0 O<|U _ O<|qe O<|qd ?_;refine qt O a (fun _ a=>?_) (fun _ a=>?_)
 ·refine qg<|qe O<|Qb ?_;cases a;exact Qv _ O
 refine qg<|q0 O<|U _ O<|qe O<|qd ?_;refine qt O a (fun _ a=>?_) (fun _ a=>?_)
 ·refine qg<|qe O<|Qb ?_;cases a;exact Qv _ O
 refine qv<|Qf<|Qp<|qg<|qe O<|Qb ?_;cases a;exact Qv _ O
theorem qtn (f : List Zm) (p : qa) (q : Int) (g : Int) (r : List qa × Int) (b : q3z f p q g = some r) : Pure Tryz.prog tab 68 [.sl 5 (f.map Ye),.agg (qr p),.int .u8 q,qk g] (.tup [.sl 2 (r.1.map qr),qk r.2]):=by
 unfold q3z at b;refine K8 Tryz.func68 O qm qm O<|qg<|Qx _ _ O<|qe O<|qe O<|qd<|qh<|qg<|q0 O<|q9 b fun r1 h2 b=>Qj (qkf f r1 h2) O<|qe O<|qz<|q0 O<|U _ O<|qd ?_;refine qt O b (fun _ b=>?_) (fun _ b=>?_)
 ·refine qg<|q0 O<|qe O<|qe O<|Qb ?_;obtain rfl:=qw b;exact finD (.inr O) O O (Zv (.cons (.nil _) (.cons (.refl _) .nil)))
 refine qv<|qh<|qg<|U _ O<|q9 b fun r3 h4 b=>Qj (qfq p r3 h4) O<|U _ O<|q9 b fun c5 h b=>?_;refine Qn 4 (fun A st=>∃ s t u,st = A [(25,Q7 c5),(24,u),(23,t),(22,s)]) ?_ ?_
 ·refine Qm O O h (fun h=>?_) (fun h=>?_)
  ·refine qf O<|qf O<|U _ O<|qd ?_;cases h;exact ⟨_,_,_,O⟩
  refine q0 O<|U _ O<|U _ O<|qd ?_;cases h;exact ⟨_,_,_,O⟩
 rintro _ ⟨s,t,u,rfl⟩;refine q9 b fun aq j b=>?_;refine Qn 4 (fun A st=>∃ v w x,st = A [(29,Q7 aq),(28,x),(27,w),(26,v)]) ?_ ?_
 ·refine Qm O O j (fun j=>?_) (fun j=>?_)
  ·refine qf O<|qf O<|U _ O<|qd ?_;cases j;exact ⟨_,_,_,O⟩
  refine q0 O<|U _ O<|U _ O<|qd ?_;cases j;exact ⟨_,_,_,O⟩
 rintro _ ⟨v,w,x,rfl⟩;refine q9 b fun ar k b=>?_;refine Qn 4 (fun A st=>∃ y z aa,st = A [(33,Q7 ar),(32,aa),(31,z),(30,y)]) ?_ ?_
 ·refine Qm O O k (fun k=>?_) (fun k=>?_)
  ·refine qf O<|qf O<|U _ O<|qd ?_;cases k;exact ⟨_,_,_,O⟩
  refine q0 O<|U _ O<|U _ O<|qd ?_;cases k;exact ⟨_,_,_,O⟩
 rintro _ ⟨y,z,aa,rfl⟩;refine qd ?_;refine qt O b (fun _ b=>?_) (fun _ b=>?_)
 ·refine qg<|qe O<|qe O<|Qb ?_;obtain rfl:=qw b;exact finD (.inr O) O O (Zv (.cons (.nil _) (.cons (.refl _) .nil)))
 refine qv<|qg<|U _ O<|U _ O<|U _ O<|U _ O<|U _ O<|K6 O O<|K0 1 _ O<|qz<|U _ O<|Qx _ _ O<|qe O<|qd<|qh<|qg<|q0 O<|q0 O<|qd<|q9 b fun ab au b=>?_;refine K2 (fun l=>.inl l = ab) (fun l=>⟨[(12,.hs 0 2 0 l.length)],[(0,.dat 2 (l.map qr))],1⟩) qb ?_ ?_
 ·refine Qt (q5b g f) (fun c=>⟨[(0,.d (.sl 5 (f.map Ye))),(2,.d (.int .u8 c.1)),(5,.ref 0 2 0 0),(11,.ref 1 8 0 0),(12,.hs 2 2 0 c.2.2.2.2.length),(41,qc g),(42,qc c.2.1)],[(0,.dat 2 [[qk c.2.2.1,qk c.2.2.2.1]]),(1,.dat 8 [[({X:=1,Y:=0} : qa),({X:=0,Y:=1} : qa),({X:=(-1),Y:=0} : qa),({X:=0,Y:=(-1)} : qa)].flatMap qr]),(2,.dat 2 (c.2.2.2.2.map qr))],3⟩) _ ab au (wkA [(0,0),(1,1),(2,2)] [] []) ?_;intro c bc a;unfold q5b at a;refine qg<|U _ O<|qd<|qh ?_;refine qt O a (fun _ a=>?_) (fun _ a=>?_)
  ·refine qv<|qh<|Qe<|qh<|qg<|q0 O<|U _ O<|q9 a fun av aw a=>Qj (qto f ({X:=c.2.2.1,Y:=c.2.2.2.1} : qa) av aw) O<|qe O<|qz<|q0 O<|U _ O<|q9 a fun ax m a=>?_;refine Qn 6 (fun A st=>∃ ac ad ae af ag,st = A [(54,Q7 ax),(53,ag),(52,af),(51,ae),(50,ad),(49,ac)]) ?_ ?_
   ·refine Qm O O m (fun m=>?_) (fun m=>?_)
    ·refine q0 O<|U _ O<|q0 O<|U _ O<|U _ O<|qd ?_;cases m;exact ⟨_,_,_,_,_,O⟩
    refine qf O<|qf O<|qf O<|qf O<|U _ O<|qd ?_;cases m;exact ⟨_,_,_,_,_,O⟩
   rintro _ ⟨ac,ad,ae,af,ag,rfl⟩;refine qd<|q9 a fun ay n a=>?_;refine Y5 (fun o=>o = ay) (fun o=>⟨[(0,.d (.sl 5 (f.map Ye))),(2,.d (.int .u8 o)),(5,.ref 0 2 0 0),(11,.ref 1 8 0 0),(12,.hs 2 2 0 c.2.2.2.2.length),(41,qc g),(42,qc c.2.1)],[(0,.dat 2 [[qk c.2.2.1,qk c.2.2.2.1]]),(1,.dat 8 [[({X:=1,Y:=0} : qa),({X:=0,Y:=1} : qa),({X:=(-1),Y:=0} : qa),({X:=0,Y:=(-1)} : qa)].flatMap qr]),(2,.dat 2 (c.2.2.2.2.map qr))],3⟩) qb ?_ ?_
   ·refine qt O n (fun _ n=>?_) (fun _ n=>?_)
    ·refine Qa<|q0 O<|U _ O<|U _ O<|qe O<|Q8 ?_;obtain rfl:=qw n;exact ⟨_,O,wkA [(0,0),(1,1),(2,2)] [] []⟩
    refine qv<|Qf ?_;obtain rfl:=qw n;exact ⟨_,O,wkA [(0,0),(1,1),(2,2)] [] []⟩
   intro o hb;subst hb;refine qh<|Qg [Qi 0,q8,q8,qq 1,q8,q8,q8,qq 0,q8,q8,qq 1,q8,q8,q8,qq 0,q8] qm<|U _ O<|U _ O<|q0 O<|q9 a fun ah ai a=>q5x ai O O O O O<|U _ O<|qmy (enc:=qr) (qc ah.X) ai (fun _=>rfl) O O O O O O<|U _ O<|U _ O<|U _ O<|q0 O<|q9 a fun aj ak a=>q5x ak O O O O O<|U _ O<|qmy (enc:=qr) (qc aj.Y) ak (fun _=>rfl) O O O O O O<|U _ O<|U _ O<|K0 0 _ O<|qd<|qh<|qg<|U _ O<|q9 a fun az ba a=>Qj (qfq ({X:=w64 (c.2.2.1 + ah.X),Y:=w64 (c.2.2.2.1 + aj.Y)} : qa) az ba) O<|U _ O<|qd ?_;refine qt O a (fun _ a=>?_) (fun _ a=>?_)
   ·refine qg<|qe O<|qe O<|Qb ?_;refine ⟨_,qs a,fun hm=>?_⟩;subst hm;obtain rfl:=qw b;exact finD (.inr O) O O (Zv (.cons (.nil _) (.cons (.refl _) .nil)))
   refine qv<|Qa<|q0 O<|U _ O<|Qx _ _ O<|q9 a fun bd bb a=>q1m _ bb O O O O O O O (q2s O O) O O O O<|qe O<|Q8<|Qp<|Qa<|U _ O<|q0 O<|Q8<|⟨_,qs a,wkA [(0,0),(1,1),(2,4)] [] []⟩
  refine Ql ?_;refine ⟨_,qs a,fun hm=>?_⟩;subst hm;exact ⟨_,O,wkA [(0,2)] [] []⟩
 intro l hb;subst hb;refine qg<|q0 O<|qe O<|qe O<|Qb ?_;obtain rfl:=qw b;exact finD (.inr O) O (qi3 (Zh (Zc O O) (Zh O O))) (.refl _)
theorem q11t (b : List qa) (f : qa) (r : Int) (c : q9l b f = some r) : Pure Tryz.prog tab 69 [.sl 2 (b.map qr),.agg (qr f)] (qk r):=by
 unfold q9l at c;refine K8 Tryz.func69 O qm qm O<|qg<|Qx _ _ O<|qe O<|qd<|qh<|qg<|q0 O<|Ks O<|q0 O<|qd<|q9 c fun h k c=>?_;refine K2 (fun g=>.inl g = h) (fun g=>⟨[],[],0⟩) qb ?_ ?_
 ·refine Qt (q2i b f) (fun j=>⟨[(0,.d (.sl 2 (b.map qr))),(3,.ref 0 2 0 0),(7,qc (b.length : Int)),(8,qc j)],[(0,.dat 2 [(qr f)])],1⟩) _ h k (wkA [(0,0)] [] []) ?_;intro j m a;unfold q2i at a;refine qg<|U _ O<|qd<|qh ?_;refine qt O a (fun _ a=>?_) (fun _ a=>?_)
  ·refine qv<|qh<|Qe<|qg<|q0 O<|qe O<|qd<|qh<|Qg [q8,q8,q8,q8,q8,qq 0] qm<|U _ O<|q0 O<|q0 O<|q9 a fun n l a=>Ky l O<|U _ O<|U _ O<|qd ?_;refine qt O a (fun _ a=>?_) (fun _ a=>?_)
   ·refine qg<|q0 O<|qe O<|Qb ?_;refine ⟨_,qs a,fun hm=>?_⟩;subst hm;cases c;exact Qv _ O
   refine qv<|Qf<|Qp<|Qa<|U _ O<|q0 O<|Q8<|⟨_,qs a,wkA [(0,0)] [] []⟩
  refine Ql ?_;refine ⟨_,qs a,fun hm=>?_⟩;subst hm;exact ⟨_,O,wkA [] [] []⟩
 intro g hb;subst hb;refine qg<|qe O<|Qb ?_;cases c;exact Qv _ O
theorem q13l (k : List Zm) (g : Yw) (t : List qu) (u : List (qa × Bool)) (r : Int × (List (qa × Bool)) × List qu) (l : q4z  k g t u = some r) : K1 Tryz.prog tab 49 [.d (.sl 5 (k.map Ye)),.d (.agg [qk (((g).At).X),qk (((g).At).Y),.int .u8 ((g).Head),qk ((g).Steps)]),.hs 0 4 0 t.length,.mp 1] [(0,.dat 4 (t.map Kv)),(1,.mp false (Qs (fun n : qa=>DV.agg (qr n)) DV.bool u))] 2 (.tup [.hs 2 4 0 r.2.2.length,qc r.1]) [(1,.mp false (Qs (fun n : qa=>DV.agg (qr n)) DV.bool r.2.1)),(2,.dat 4 (r.2.2.map Kv))] 3:=by
 unfold q4z at l;refine Kg Tryz.func49 O qm qm O<|qg<|Qx _ _ O<|qe O<|qe O<|qd<|qh<|Qg [q8,Qi 3,(some [],[3]),qq 2,q8,qq 2,q8] qm<|U _ O<|U _ O<|U _ O<|U _ O<|K6 O O<|K0 3 _ O<|qe O<|qd<|qh<|qg<|U _ O<|U _ O<|q0 O<|qd<|q9 l fun v aj l=>?_;refine K2 (fun m=>.inl m = v) (fun m=>⟨[(2,.hs 2 4 0 m.2.length)],[(1,.mp false (Qs (fun n : qa=>DV.agg (qr n)) DV.bool m.1)),(2,.dat 4 (m.2.map Kv))],3⟩) qb ?_ ?_
 ·refine Qt (Zz g k) (fun f=>⟨[(0,.d (.sl 5 (k.map Ye))),(2,.hs 2 4 0 f.2.2.2.1.length),(3,.mp 1),(5,.ref 3 4 0 0),(10,.ref 4 2 0 0),(11,.d (.int .u8 f.1)),(23,.d (qk ((g).Steps))),(24,qc f.2.1)],[(1,.mp false (Qs (fun n : qa=>DV.agg (qr n)) DV.bool f.2.2.1)),(2,.dat 4 (f.2.2.2.1.map Kv)),(3,.dat 4 [[qk (((g).At).X),qk (((g).At).Y),.int .u8 ((g).Head),qk ((g).Steps)]]),(4,.dat 2 [[qk f.2.2.2.2.1,qk f.2.2.2.2.2]])],5⟩) _ v aj (wkA [(2,0),(3,2),(4,3)] [] []) ?_;intro f av c;unfold Zz at c;refine qg<|U _ O<|qd<|qh ?_;refine qt O c (fun _ c=>?_) (fun _ c=>?_)
  ·refine qv<|qh<|Qe<|qg<|q0 O<|qe O<|qz<|q0 O<|U _ O<|q0 O<|q9 c fun ak al c=>Qj (qtn k ({X:=f.2.2.2.2.1,Y:=f.2.2.2.2.2} : qa) f.1 1 ak al) O<|q0 O<|U _ O<|U _ O<|qe O<|qe O<|qd<|qh<|qg<|q0 O<|U _ O<|qd ?_;refine qt O c (fun _ c=>?_) (fun _ c=>?_)
   ·refine qg<|q0 O<|qe O<|qe O<|Qb ?_;refine ⟨_,qs c,fun hm=>?_⟩;subst hm;obtain rfl:=qw l;exact ⟨.inr O,_,O,wkA [] [] [2]⟩
   refine qv<|qg<|q0 O<|q9 c fun j am c=>Ky am O<|U _ O<|K6 O O<|K0 5 _ O<|qz<|U _ O<|U _ O<|U _ O<|U _ O<|Qx _ _ O<|U _ O<|U _ O<|U _ O<|U _ O<|U _ O<|U _ O<|U _ O<|U _ O<|U _ O<|U _ O<|U _ O<|q9 c fun w an c=>Ur [.hs 6 2 0 [({X:=1,Y:=0} : qa),({X:=0,Y:=1} : qa),({X:=(-1),Y:=0} : qa),({X:=0,Y:=(-1)} : qa)].length,.d (.agg [qk (w64 (j.X - f.2.2.2.2.1)),qk (w64 (j.Y - f.2.2.2.2.2))])] (q11t [({X:=1,Y:=0} : qa),({X:=0,Y:=1} : qa),({X:=(-1),Y:=0} : qa),({X:=0,Y:=(-1)} : qa)] ({X:=w64 (j.X - f.2.2.2.2.1),Y:=w64 (j.Y - f.2.2.2.2.2)} : qa) w an) O O (Yl (Zc O O) (Yl O O)) (.inr O)<|U _ O<|qe O<|qd<|qh<|qg<|q0 O<|U _ O<|q9 c fun ao o c=>?_;refine Qn 5 (fun A st=>∃ x y z aa,st = A [(64,Q7 ao),(63,aa),(62,z),(61,y),(60,x)]) ?_ ?_
   ·refine Qm O O o (fun o=>?_) (fun o=>?_)
    ·refine q0 O<|q0 O<|U _ O<|U _ O<|qd ?_;cases o;exact ⟨_,_,_,_,O⟩
    refine qf O<|qf O<|qf O<|U _ O<|qd ?_;cases o;exact ⟨_,_,_,_,O⟩
   rintro _ ⟨x,y,z,aa,rfl⟩;refine qd<|q9 c fun ap h c=>?_;refine Y5 (fun q=>.inl q = ap) (fun q=>⟨[(0,.d (.sl 5 (k.map Ye))),(2,.hs 2 4 0 q.length),(3,.mp 1),(5,.ref 3 4 0 0),(10,.ref 4 2 0 0),(15,.ref 5 2 0 0),(16,.d (.int .u8 (IntKind.wrap .u8 w))),(23,.d (qk ((g).Steps))),(24,qc f.2.1)],[(1,.mp false (Qs (fun n : qa=>DV.agg (qr n)) DV.bool f.2.2.1)),(2,.dat 4 (q.map Kv)),(3,.dat 4 [[qk (((g).At).X),qk (((g).At).Y),.int .u8 ((g).Head),qk ((g).Steps)]]),(4,.dat 2 [[qk f.2.2.2.2.1,qk f.2.2.2.2.2]]),(5,.dat 2 [(qr j)])],6⟩) qb ?_ ?_
   ·refine qt O h (fun _ h=>?_) (fun _ h=>?_)
    ·refine Qa<|q0 O<|q0 O<|U _ O<|U _ O<|U _ O<|q9 h fun aq ab h=>qp ab O O<|U _ O<|Qq ({A:=aq.A,B:=j} : qu) ab O O O O O O O O (leb O) O<|Q8 ?_;obtain rfl:=qw h;exact ⟨_,O,wkE [(2,2),(3,3),(4,4),(5,5)] [] [] O ⟨ql O,⟨_,O,Qy qb O qy (ltd O)⟩,⟨_,O,.mp O qy (ltd O)⟩,⟨_,O,.ref O qy (ltd O)⟩,⟨_,O,.ref O qy (ltd O)⟩,⟨_,O,.ref O qy (ltd O)⟩,ql O,ql O,ql O,trivial⟩ ⟨⟨ltd O,.inr ⟨qy,_,O,.mpP (.refl _)⟩⟩,Qo O O,Qo O O,Qo O O,Qo O O,trivial⟩⟩
    refine qg<|q0 O<|U _ O<|U _ O<|U _ O<|Qx _ _ O<|q9 h fun aw ar h=>q1m _ ar O O O O O O O (q2s O O) O O O O<|qe O<|qz<|q0 O<|U _ O<|U _ O<|qd ?_;refine qt O h (fun _ h=>?_) (fun _ h=>?_)
    ·refine qg<|qe O<|qe O<|Qb ?_;obtain rfl:=qw h;refine ⟨_,qs c,fun hm=>?_⟩;subst hm;obtain rfl:=qw l;exact ⟨.inr O,_,O,wkA [] [] [2]⟩
    refine qv<|Qf ?_;obtain rfl:=qw h;exact ⟨_,O,wkA [(2,8),(3,3),(4,4),(5,5)] [] []⟩
   intro q hb;subst hb;refine qg<|q0 O<|U _ O<|qgu (ek:=(fun n : qa=>DV.agg (qr n))) (ev:=DV.bool) (es:=f.2.2.1) (keyS (fun p : qa=>p.X) (fun p=>p.Y) (fun a b h1 h2=>by cases a;cases b;simp_all)) false j O O O O O O O<|q9 c fun au s c=>?_;refine Qn 6 (fun A st=>∃ ae af ag ah ai,st = A [(89,Q7 au),(88,ai),(87,ah),(86,ag),(85,af),(84,ae)]) ?_ ?_
   ·refine Qm O O s (fun s=>?_) (fun s=>?_)
    ·refine qf O<|qf O<|qf O<|qf O<|U _ O<|qd ?_;cases s;exact ⟨_,_,_,_,_,O⟩
    refine U _ O<|U _ O<|U _ O<|U _ O<|U _ O<|qd ?_;cases s;exact ⟨_,_,_,_,_,O⟩
   rintro _ ⟨ae,af,ag,ah,ai,rfl⟩;refine qe O<|qd<|qh<|Qg [Qi 1,Qi 1,qq 5,q8,qq 4,q8] qm<|q0 O<|U _ O<|q0 O<|U _ O<|q37 (ek:=(fun n : qa=>DV.agg (qr n))) (ev:=DV.bool) (es:=f.2.2.1) (keyS (fun p : qa=>p.X) (fun p=>p.Y) (fun a b h1 h2=>by cases a;cases b;simp_all)) ({X:=f.2.2.2.2.1,Y:=f.2.2.2.2.2} : qa) true O O O O O O O O<|q37 (ek:=(fun n : qa=>DV.agg (qr n))) (ev:=DV.bool) (es:=(Ka ({X:=f.2.2.2.2.1,Y:=f.2.2.2.2.2} : qa) true f.2.2.1)) (keyS (fun p : qa=>p.X) (fun p=>p.Y) (fun a b h1 h2=>by cases a;cases b;simp_all)) j true O O O O O O O O<|qz<|U _ O<|q0 O<|K0 4 _ O<|qe O<|qz<|q0 O<|qd ?_;refine qt O c (fun _ c=>?_) (fun _ c=>?_)
   ·refine Ql ?_;refine ⟨_,qs c,fun hm=>?_⟩;subst hm;exact ⟨_,O,wkA [(2,2)] [] []⟩
   refine qv<|Qf<|Qp<|Qa<|U _ O<|q0 O<|Q8<|⟨_,qs c,wkA [(2,2),(3,3),(4,4)] [] []⟩
  refine Ql ?_;refine ⟨_,qs c,fun hm=>?_⟩;subst hm;exact ⟨_,O,wkA [(2,2)] [] []⟩
 intro m hb;subst hb;refine qg<|q0 O<|qe O<|qe O<|Qb ?_;obtain rfl:=qw l;exact ⟨.inr O,_,O,wkA [(2,2)] [] []⟩
theorem qeh (c : List qu) (r : Qh × Int) (a : Uw c = some r) : Pure Tryz.prog tab 28 [.sl 4 (c.map Kv)] (.tup [.agg [.sl 2 (r.1.Nodes.map qr),.sl 2 (r.1.Edges.map Q6)],qk r.2]):=by
 unfold Uw at a;refine K8 Tryz.func28 O qm qm O<|qg<|K6 O O<|qe O<|qd<|qh<|qg<|q0 O<|Ks O<|U _ O<|qd ?_;refine qt O a (fun _ a=>?_) (fun _ a=>?_)
 ·refine qg<|U _ O<|K0 0 _ O<|qe O<|Qb ?_;obtain rfl:=qw a;exact finD (.inr O) O O (Zv (.cons (q2t (.cons (.nil _) (.cons (.nil _) .nil))) (.cons (.refl _) .nil)))
 refine qv<|qh<|qg<|q0 O<|Ks O<|q0 O<|qd<|q9 a fun g j a=>?_;refine K2 (fun f=>.inl f = g) (fun f=>⟨[(0,.d (.sl 4 (c.map Kv))),(2,.ref 0 2 0 0)],[(0,.dat 2 [[.nilsl,.nilsl]])],1⟩) qb ?_ ?_
 ·refine Qt (q7c c) (fun h=>⟨[(0,.d (.sl 4 (c.map Kv))),(2,.ref 0 2 0 0),(12,.d (.sl 4 (c.map Kv))),(13,qc (c.length : Int)),(14,qc h)],[(0,.dat 2 [[.nilsl,.nilsl]])],1⟩) _ g j (wkA [(0,0)] [] []) ?_;intro h q b;unfold q7c at b;refine qg<|U _ O<|qd<|qh ?_;refine qt O b (fun _ b=>?_) (fun _ b=>?_)
  ·refine qv<|qh<|Qe<|qg<|q9 b fun k l b=>Ky l O<|U _ O<|K6 O O<|K0 1 _ O<|qz<|U _ O<|q9 b fun m n b=>Qj (qpd k m n) O<|U _ O<|qd ?_;refine qt O b (fun _ b=>?_) (fun _ b=>?_)
   ·refine qg<|U _ O<|K0 0 _ O<|qe O<|Qb ?_;refine ⟨_,qs b,fun hm=>?_⟩;subst hm;obtain rfl:=qw a;exact finD (.inr O) O O (Zv (.cons (q2t (.cons (.nil _) (.cons (.nil _) .nil))) (.cons (.refl _) .nil)))
   refine qv<|Qf<|Qp<|Qa<|U _ O<|q0 O<|Q8<|⟨_,qs b,wkA [(0,0)] [] []⟩
  refine Ql ?_;refine ⟨_,qs b,fun hm=>?_⟩;subst hm;exact ⟨_,O,wkA [(0,0)] [] []⟩
 intro f hb;subst hb;refine qg<|q0 O<|q9 a fun o p a=>Qj (qpc c o p) O<|q0 O<|U _ O<|U _ O<|K6 O O<|K0 1 _ O<|qe O<|qd<|qh<|qg<|q0 O<|U _ O<|qd ?_;refine qt O a (fun _ a=>?_) (fun _ a=>?_)
 ·refine qg<|U _ O<|K0 0 _ O<|qe O<|Qb ?_;obtain rfl:=qw a;exact finD (.inr O) O O (Zv (.cons (q2t (.cons (.nil _) (.cons (.nil _) .nil))) (.cons (.refl _) .nil)))
 refine qv<|qg<|U _ O<|K0 0 _ O<|qe O<|Qb ?_;cases a;exact Qv _ O
theorem q13g (k : List Zm) (h : List Yw) (r : Qh × Int) (b : qby k h = some r) : Pure Tryz.prog tab 24 [.sl 5 (k.map Ye),.sl 4 (h.map q2w)] (.tup [.agg [.sl 2 (r.1.Nodes.map qr),.sl 2 (r.1.Edges.map Q6)],qk r.2]):=by
 unfold qby at b;refine K8 Tryz.func24 O qm qm O<|qg<|K6 O O<|qe O<|qd<|qh<|qg<|q0 O<|q9 b fun u h2 b=>Qj (qkf k u h2) O<|qe O<|qz<|q0 O<|U (Q7 (u != 0)) O<|qd ?_;refine qt O b (fun _ b=>?_) (fun _ b=>?_)
 ·refine qg<|U (.d (.agg [.nilsl,.nilsl])) O<|q0 O<|K0 0 (.dat 2 [[.nilsl,.nilsl]]) O<|qe O<|Qb ?_;obtain rfl:=qw b;exact finD (.inr O) (v:=.d (.tup [.agg [.nilsl,.nilsl],qk u])) O O (Zv (.cons (q2t (.cons (.nil _) (.cons (.nil _) .nil))) (.cons (.refl _) .nil)))
 refine qv<|qh<|qg<|q0 O<|Ks O<|U (.d (.bool (decide ((h.length : Int) > 30)))) O<|qd ?_;refine qt O b (fun _ b=>?_) (fun _ b=>?_)
 ·refine qg<|U (.d (.agg [.nilsl,.nilsl])) O<|K0 0 (.dat 2 [[.nilsl,.nilsl]]) O<|qe O<|Qb ?_;obtain rfl:=qw b;exact finD (.inr O) (v:=.d (.tup [.agg [.nilsl,.nilsl],qk 4])) O O (Zv (.cons (q2t (.cons (.nil _) (.cons (.nil _) .nil))) (.cons (.refl _) .nil)))
 refine qv<|qh<|qg<|q0 O<|Ks O<|q0 O<|qd<|q9 b fun x an b=>?_;refine K2 (fun w=>.inl w = x) (fun (w : Unit)=>⟨[(0,.d (.sl 5 (k.map Ye))),(1,.d (.sl 4 (h.map q2w))),(4,.ref 0 2 0 0)],[(0,.dat 2 [[.nilsl,.nilsl]])],1⟩) qb ?_ ?_
 ·refine Qt (q7b h) (fun (t : Int)=>⟨[(0,.d (.sl 5 (k.map Ye))),(1,.d (.sl 4 (h.map q2w))),(4,.ref 0 2 0 0),(24,.d (.sl 4 (h.map q2w))),(25,qc (h.length : Int)),(26,qc t)],[(0,.dat 2 [[.nilsl,.nilsl]])],1⟩) 0 x an (wkA [(0,0)] [] []) ?_;intro t az c;unfold q7b at c;refine qg<|U (.d (.bool (decide (t < (h.length : Int))))) O<|qd<|qh ?_;refine qt O c (fun _ c=>?_) (fun _ c=>?_)
  ·refine qv<|qh<|Qe<|qg<|q9 c fun f ao c=>Ky (enc:=q2w) ao O<|U (.d (.agg [qk f.At.X,qk f.At.Y,.int .u8 f.Head,qk f.Steps])) O<|K6 O O<|K0 1 (.dat 4 [[qk f.At.X,qk f.At.Y,.int .u8 f.Head,qk f.Steps]]) O<|qz<|U (.ref 1 4 0 0) O<|U (.d (.agg [qk f.At.X,qk f.At.Y])) O<|q9 c fun y ap c=>Qj (qhy f.At y ap) O<|U (Q7 (!y)) O<|q9 c fun aq p c=>?_;refine Qn 5 (fun A st=>∃ (z aa ab ac : V),st = A [(38,Q7 aq),(37,ac),(36,ab),(35,aa),(34,z)]) ?_ ?_
   ·refine Qm O O p (fun p=>?_) (fun p=>?_)
    ·refine qf O<|qf O<|qf O<|U (Q7 true) O<|qd ?_;cases p;exact ⟨_,_,_,_,O⟩
    refine U (.ref 1 4 0 2) O<|U (.d (.int .u8 f.Head)) O<|U (.d (.bool (decide (f.Head > 3)))) O<|U (.d (.bool (decide (f.Head > 3)))) O<|qd ?_;cases p;exact ⟨_,_,_,_,O⟩
   rintro _ ⟨z,aa,ab,ac,rfl⟩;refine q9 c fun ar q c=>?_;refine Qn 5 (fun A st=>∃ (ad ae af ag : V),st = A [(43,Q7 ar),(42,ag),(41,af),(40,ae),(39,ad)]) ?_ ?_
   ·refine Qm O O q (fun q=>?_) (fun q=>?_)
    ·refine qf O<|qf O<|qf O<|U (Q7 true) O<|qd ?_;cases q;exact ⟨_,_,_,_,O⟩
    refine U (.ref 1 4 0 3) O<|U (qc f.Steps) O<|U (.d (.bool (decide (f.Steps < 0)))) O<|U (.d (.bool (decide (f.Steps < 0)))) O<|qd ?_;cases q;exact ⟨_,_,_,_,O⟩
   rintro _ ⟨ad,ae,af,ag,rfl⟩;refine q9 c fun au s c=>?_;refine Qn 5 (fun A st=>∃ (ah ai aj ak : V),st = A [(48,Q7 au),(47,ak),(46,aj),(45,ai),(44,ah)]) ?_ ?_
   ·refine Qm O O s (fun s=>?_) (fun s=>?_)
    ·refine qf O<|qf O<|qf O<|U (Q7 true) O<|qd ?_;cases s;exact ⟨_,_,_,_,O⟩
    refine U (.ref 1 4 0 3) O<|U (qc f.Steps) O<|U (.d (.bool (decide (f.Steps > 500)))) O<|U (.d (.bool (decide (f.Steps > 500)))) O<|qd ?_;cases s;exact ⟨_,_,_,_,O⟩
   rintro _ ⟨ah,ai,aj,ak,rfl⟩;refine qd ?_;refine qt O c (fun _ c=>?_) (fun _ c=>?_)
   ·refine qg<|U (.d (.agg [.nilsl,.nilsl])) O<|K0 0 (.dat 2 [[.nilsl,.nilsl]]) O<|qe O<|Qb ?_;refine ⟨_,qs c,fun hm=>?_⟩;subst hm;obtain rfl:=qw b;exact finD (.inr O) (v:=.d (.tup [.agg [.nilsl,.nilsl],qk 8])) O O (Zv (.cons (q2t (.cons (.nil _) (.cons (.nil _) .nil))) (.cons (.refl _) .nil)))
   refine qv<|Qf<|Qp<|Qa<|U (.d (qk (w64 (t + 1)))) O<|q0 O<|Q8<|⟨_,qs c,wkA [(0,0)] [] []⟩
  refine Ql ?_;refine ⟨_,qs c,fun hm=>?_⟩;subst hm;exact ⟨_,O,wkA [(0,0)] [] []⟩
 intro w hb;subst hb;refine qg<|qe O<|qz<|Qx (.mp 1) (.mp true (Qs (fun n : qa=>DV.agg [qk n.X,qk n.Y]) DV.bool ([] : List (qa × Bool)))) O<|qe O<|qd<|qh<|qg<|q0 O<|Ks O<|q0 O<|qd<|q9 b fun al av b=>?_;refine K2 (fun o=>.inl o = al) (fun (o : List qu)=>⟨[(4,.ref 0 2 0 0),(9,.hs 1 4 0 o.length)],[(0,.dat 2 [[.nilsl,.nilsl]]),(1,.dat 4 (o.map Kv))],2⟩) qb ?_ ?_
 ·refine Qt (q3g h k) (fun (j : Int × List qu × (List (qa × Bool)))=>⟨[(0,.d (.sl 5 (k.map Ye))),(4,.ref 0 2 0 0),(9,.hs 1 4 0 j.2.1.length),(10,.mp 2),(52,.d (.sl 4 (h.map q2w))),(53,qc (h.length : Int)),(54,qc j.1)],[(0,.dat 2 [[.nilsl,.nilsl]]),(1,.dat 4 (j.2.1.map Kv)),(2,.mp false (Qs (fun n : qa=>DV.agg [qk n.X,qk n.Y]) DV.bool j.2.2))],3⟩) (0,[],[]) al av (wkA [(0,0),(2,1)] [] [1]) ?_;intro j ba g;unfold q3g at g;refine qg<|U (.d (.bool (decide (j.1 < (h.length : Int))))) O<|qd<|qh ?_;refine qt O g (fun _ g=>?_) (fun _ g=>?_)
  ·refine qv<|qh<|Qe<|qg<|q9 g fun a aw g=>Ky (enc:=q2w) aw O<|U (.d (.agg [qk a.At.X,qk a.At.Y,.int .u8 a.Head,qk a.Steps])) O<|K6 O O<|K0 3 (.dat 4 [[qk a.At.X,qk a.At.Y,.int .u8 a.Head,qk a.Steps]]) O<|qz<|qe O<|qz<|q0 O<|U (.d (.agg [qk a.At.X,qk a.At.Y,.int .u8 a.Head,qk a.Steps])) O<|q0 O<|q0 O<|q9 g fun l ax g=>K3 [(0,1),(1,2)] [(0,3),(1,0),(2,1),(3,3),(4,2)] [.d (.sl 5 (k.map Ye)),.d (.agg [qk a.At.X,qk a.At.Y,.int .u8 a.Head,qk a.Steps]),.hs 1 4 0 j.2.1.length,.mp 2] (.tup [.hs 4 4 0 l.2.2.length,qc l.1]) 2 [(2,.mp false (Qs (fun n : qa=>DV.agg [qk n.X,qk n.Y]) DV.bool l.2.1)),(4,.dat 4 (l.2.2.map Kv)),(0,.dat 2 [[.nilsl,.nilsl]]),(3,.dat 4 [[qk a.At.X,qk a.At.Y,.int .u8 a.Head,qk a.Steps]])] 5 (q13l k a j.2.1 j.2.2 l ax)<|q0 O<|U (.hs 4 4 0 l.2.2.length) O<|U (qc l.1) O<|qe O<|qe O<|qz<|q0 O<|U (Q7 (l.1 != 0)) O<|qd ?_;refine qt O g (fun _ g=>?_) (fun _ g=>?_)
   ·refine qg<|U (.d (.agg [.nilsl,.nilsl])) O<|q0 O<|K0 0 (.dat 2 [[.nilsl,.nilsl]]) O<|qe O<|Qb ?_;refine ⟨_,qs g,fun hm=>?_⟩;subst hm;obtain rfl:=qw b;exact finD (.inr O) (v:=.d (.tup [.agg [.nilsl,.nilsl],qk l.1])) O O (Zv (.cons (q2t (.cons (.nil _) (.cons (.nil _) .nil))) (.cons (.refl _) .nil)))
   refine qv<|Qf<|Qp<|Qa<|U (.d (qk (w64 (j.1 + 1)))) O<|q0 O<|Q8<|⟨_,qs g,wkA [(0,0),(1,4),(2,2)] [] []⟩
  refine Ql ?_;refine ⟨_,qs g,fun hm=>?_⟩;subst hm;exact ⟨_,O,wkA [(0,0),(1,1)] [] []⟩
 intro o hb;subst hb;refine qh ?_;refine Zx (st':=⟨[(4,.ref 0 2 0 0),(9,.d (.sl 4 (o.map Kv)))],[(0,.dat 2 [[.nilsl,.nilsl]])],1⟩) (wkA [(0,0)] [1] []) ?_ qb;refine Qa<|q0 O<|q9 b fun m ay b=>Qj (qeh o m ay) O<|U (.d (.agg [.sl 2 (m.1.Nodes.map qr),.sl 2 (m.1.Edges.map Q6)])) O<|U (qc m.2) O<|K0 0 (.dat 2 [[.sl 2 (m.1.Nodes.map qr),.sl 2 (m.1.Edges.map Q6)]]) O<|qe O<|Qb ?_;obtain rfl:=qw b;exact Qv (.d (.tup [.agg [.sl 2 (m.1.Nodes.map qr),.sl 2 (m.1.Edges.map Q6)],qk m.2])) O
theorem qut (b : List qu) (r : Bool) (c : q8a b = some r) : Pure Tryz.prog tab 26 [.sl 4 (b.map Kv)] (.bool r):=by
 unfold q8a at c;refine K8 Tryz.func26 O qm qm O<|qg<|qe O<|qd<|qh<|qg<|qe O<|qd<|q9 c fun g j c=>?_;refine K2 (fun f=>.inl f = g) (fun f=>⟨[(0,.d (.sl 4 (b.map Kv)))],[],0⟩) qb ?_ ?_
 ·refine Qt (q33 b) (fun h=>⟨[(0,.d (.sl 4 (b.map Kv))),(3,qc h)],[],0⟩) _ g j (wkA [] [] []) ?_;intro h o a;unfold q33 at a;refine qh<|qg<|q0 O<|q0 O<|Ks O<|U _ O<|qd ?_;refine qt O a (fun _ a=>?_) (fun _ a=>?_)
  ·refine qv<|qh<|Qe<|qg<|q0 O<|q0 O<|q9 a fun k l a=>Ky l O<|U _ O<|q9 a fun m n a=>Qj (qzh k m n) O<|U _ O<|qd ?_;refine qt O a (fun _ a=>?_) (fun _ a=>?_)
   ·refine qg<|qe O<|Qb ?_;refine ⟨_,qs a,fun hm=>?_⟩;subst hm;cases c;exact Qv _ O
   refine qv<|Qf<|Qp<|Qa<|q0 O<|U _ O<|qe O<|Q8<|⟨_,qs a,wkA [] [] []⟩
  refine Ql ?_;refine ⟨_,qs a,fun hm=>?_⟩;subst hm;exact ⟨_,O,wkA [] [] []⟩
 intro f hb;subst hb;refine qg<|q0 O<|Ks O<|U _ O<|qe O<|Qb ?_;cases c;exact Qv _ O
theorem Yf (a : Int) (b : Int) (r : qa) (c : Y8 a b = some r) : Pure Tryz.prog tab 31 [qk a,qk b] (.agg (qr r)):=by
 unfold Y8 at c;refine K8 Tryz.func31 O qm qm O<|qg<|K6 O O<|qz<|q0 O<|q0 O<|U _ O<|K0 0 _ O<|Qb ?_;cases c;exact Qv _ O
theorem q49 (b : Int) (c : Int) (d : Int) (f : Int) (r : qu) (a : q1l b c d f = some r) : Pure Tryz.prog tab 33 [qk b,qk c,qk d,qk f] (.agg (Kv r)):=by
 unfold q1l at a;refine K8 Tryz.func33 O qm qm O<|qg<|K6 O O<|qz<|q0 O<|q0 O<|q9 a fun g h a=>Qj (Yf b c g h) O<|q0 O<|q0 O<|q9 a fun j k a=>Qj (Yf d f j k) O<|U _ O<|K0 0 _ O<|Qb ?_;cases a;exact Qv _ O
theorem qzf (c : List qa) (f : qa) (r : Int) (b : q91 c f = some r) : Pure Tryz.prog tab 55 [.sl 2 (c.map qr),.agg (qr f)] (qk r):=by
 unfold q91 at b;refine K8 Tryz.func55 O qm qm O<|qg<|Qx _ _ O<|qe O<|qd<|qh<|qg<|qe O<|qd<|q9 b fun h k b=>?_;refine K2 (fun g=>.inl g = h) (fun g=>⟨[],[],0⟩) qb ?_ ?_
 ·refine Qt (q60 c f) (fun j=>⟨[(0,.d (.sl 2 (c.map qr))),(3,.ref 0 2 0 0),(5,qc j)],[(0,.dat 2 [(qr f)])],1⟩) _ h k (wkA [(0,0)] [] []) ?_;intro j m a;unfold q60 at a;refine qh<|qg<|q0 O<|q0 O<|Ks O<|U _ O<|qd ?_;refine qt O a (fun _ a=>?_) (fun _ a=>?_)
  ·refine qv<|qh<|Qe<|qh<|Qg [q8,qq 0,q8,q8,q8,q8] qm<|q0 O<|q0 O<|q9 a fun n l a=>Ky l O<|U _ O<|U _ O<|U _ O<|qd ?_;refine qt O a (fun _ a=>?_) (fun _ a=>?_)
   ·refine qg<|q0 O<|qe O<|Qb ?_;refine ⟨_,qs a,fun hm=>?_⟩;subst hm;cases b;exact Qv _ O
   refine qv<|Qf<|Qp<|Qa<|q0 O<|U _ O<|qe O<|Q8<|⟨_,qs a,wkA [(0,0)] [] []⟩
  refine Ql ?_;refine ⟨_,qs a,fun hm=>?_⟩;subst hm;exact ⟨_,O,wkA [] [] []⟩
 intro g hb;subst hb;refine qg<|qe O<|Qb ?_;cases b;exact Qv _ O
theorem qlh (d : Qh) (f : List qu) (r : Bool) (a : q5j d f = some r) : Pure Tryz.prog tab 32 [.agg [.sl 2 (d.Nodes.map qr),.sl 2 (d.Edges.map Q6)],.sl 4 (f.map Kv)] (.bool r):=by
 unfold q5j at a;refine K8 Tryz.func32 O qm qm O<|qg<|Qx _ _ O<|qe O<|qz<|q0 O<|q9 a fun g q a=>Qj (qeh f g q) O<|q0 O<|U _ O<|U _ O<|K6 O O<|K0 1 _ O<|qe O<|qz<|q0 O<|U _ O<|q9 a fun s b a=>?_;refine Qn 5 (fun A st=>∃ h j k l,st = A [(18,Q7 s),(17,l),(16,k),(15,j),(14,h)]) ?_ ?_
 ·refine Qm O O b (fun b=>?_) (fun b=>?_)
  ·refine U _ O<|U _ O<|q9 b fun t u b=>Qj (qnv g.1 d t u) O<|U _ O<|qd ?_;cases b;exact ⟨_,_,_,_,O⟩
  refine qf O<|qf O<|qf O<|U _ O<|qd ?_;cases b;exact ⟨_,_,_,_,O⟩
 rintro _ ⟨h,j,k,l,rfl⟩;refine q9 a fun v c a=>?_;refine Qn 5 (fun A st=>∃ m n o p,st = A [(23,Q7 v),(22,p),(21,o),(20,n),(19,m)]) ?_ ?_
 ·refine Qm O O c (fun c=>?_) (fun c=>?_)
  ·refine U _ O<|q9 c fun w x c=>Qj (qp5 d w x) O<|U _ O<|U _ O<|qd ?_;cases c;exact ⟨_,_,_,_,O⟩
  refine qf O<|qf O<|qf O<|U _ O<|qd ?_;cases c;exact ⟨_,_,_,_,O⟩
 rintro _ ⟨m,n,o,p,rfl⟩;refine qe O<|Qb ?_;cases a;exact Qv _ O
theorem qlg (r : Bool) (a : q5i = some r) : Pure Tryz.prog tab 27 [] (.bool r):=by
 unfold q5i at a;refine K8 Tryz.func27 O qm qm O<|qg<|qe O<|qz<|q9 a fun bv c a=>?_;refine q8n [] (fun j=>j = bv) (fun j=>⟨[(15,.agg [.hs 0 2 0 j.length,.hs 1 2 0 [({A:=0,B:=1} : qj),({A:=1,B:=2} : qj),({A:=1,B:=3} : qj)].length])],[(0,.dat 2 (j.map qr)),(1,.dat 2 ([({A:=0,B:=1} : qj),({A:=1,B:=2} : qj),({A:=1,B:=3} : qj)].map Q6))],2⟩) O O Tryz.func34 O qm qm O ?_ ?_
 ·refine qg<|K6 O O<|qz<|q9 c fun bw bx c=>Qj (Yf 0 0 bw bx) O<|q9 c fun bz ca c=>Qj (Yf 2 0 bz ca) O<|q9 c fun cb cc c=>Qj (Yf 2 3 cb cc) O<|q9 c fun cd ce c=>Qj (Yf 4 0 cd ce) O<|Qx _ _ O<|U _ O<|U _ O<|U _ O<|Qx _ _ O<|U _ O<|K0 0 _ O<|Qb ?_;refine ⟨.inr O,_,O,?_⟩;obtain rfl:=qw c;exact ⟨_,O,wkA [(0,1),(1,2)] [] []⟩
 intro j hb;subst hb;refine q9 a fun k cf a=>Ur [.agg [.hs 0 2 0 j.length,.hs 1 2 0 [({A:=0,B:=1} : qj),({A:=1,B:=2} : qj),({A:=1,B:=3} : qj)].length],qc 1] (qhw ({Nodes:=j,Edges:=[({A:=0,B:=1} : qj),({A:=1,B:=2} : qj),({A:=1,B:=3} : qj)]} : Qh) 1 k cf) O O (Yl (q7h (Zh (Zc O O) (Zh (Zc O O) O))) (Yl O O)) (.inr O)<|q0 O<|U _ O<|U _ O<|qe O<|qe O<|qz<|q9 a fun cg f a=>?_;refine q8n [] (fun l=>l = cg) (fun l=>⟨[(1,qc k.1),(2,qc k.2),(20,.agg [.hs 0 2 0 l.length,.hs 1 2 0 [({A:=0,B:=1} : qj),({A:=1,B:=2} : qj),({A:=1,B:=3} : qj)].length])],[(0,.dat 2 (l.map qr)),(1,.dat 2 ([({A:=0,B:=1} : qj),({A:=1,B:=2} : qj),({A:=1,B:=3} : qj)].map Q6))],2⟩) O O Tryz.func34 O qm qm O ?_ ?_
 ·refine qg<|K6 O O<|qz<|q9 f fun ch ci f=>Qj (Yf 0 0 ch ci) O<|q9 f fun cj ck f=>Qj (Yf 2 0 cj ck) O<|q9 f fun cl cm f=>Qj (Yf 2 3 cl cm) O<|q9 f fun cn co f=>Qj (Yf 4 0 cn co) O<|Qx _ _ O<|U _ O<|U _ O<|U _ O<|Qx _ _ O<|U _ O<|K0 2 _ O<|Qb ?_;refine ⟨.inr O,_,O,?_⟩;obtain rfl:=qw f;exact ⟨_,O,wkA [(0,3),(1,4)] [] []⟩
 intro l hb;subst hb;refine q9 a fun v cp a=>Ur [.agg [.hs 0 2 0 l.length,.hs 1 2 0 [({A:=0,B:=1} : qj),({A:=1,B:=2} : qj),({A:=1,B:=3} : qj)].length]] (qp8 ({Nodes:=l,Edges:=[({A:=0,B:=1} : qj),({A:=1,B:=2} : qj),({A:=1,B:=3} : qj)]} : Qh) v cp) O O (Yl (q7h (Zh (Zc O O) (Zh (Zc O O) O))) O) (.inr O)<|q0 O<|U _ O<|U _ O<|qe O<|qe O<|qz<|q9 a fun ah cq a=>Qj (q49 0 0 4 0 ah cq) O<|q9 a fun ai cr a=>Qj (q49 2 3 2 0 ai cr) O<|q9 a fun aj cs a=>Qj (q49 2 (-1) 2 0 aj cs) O<|qmx (es:=4) ([ah,ai,aj].map Kv) O O O O O<|q9 a fun w ct a=>Qj (qeh [ah,ai,aj] w ct) O<|q0 O<|U _ O<|U _ O<|K6 O O<|K0 3 _ O<|qe O<|qd<|qh<|Qg [q8,q8,q8,qq 3,q8] qm<|U _ O<|U _ O<|q9 a fun ap cu a=>Qj (Yf 2 0 ap cu) O<|q9 a fun aq cv a=>Qj (qzf w.1.Nodes ap aq cv) O<|qe O<|qz<|U _ O<|q0 O<|q9 a fun x cw a=>Qj (qhw w.1 aq x cw) O<|q0 O<|U _ O ?_;refine U _ O<|qe O<|qe O<|qz<|q9 a fun m cx a=>Qj (Yf 0 0 m cx) O<|q9 a fun n cy a=>Qj (Yf 4 0 n cy) O<|Qx _ _ O<|U _ O<|Qx _ _ O<|U _ O<|K6 O O<|K0 6 _ O<|qz<|U _ O<|q9 a fun ak cz a=>Qj (Yf 2 2 ak cz) O<|U _ O<|qmx (es:=4) ([({At:=({X:=0,Y:=0} : qa),Head:=0,Steps:=4} : Yw),({At:=ak,Head:=3,Steps:=9} : Yw)].map q2w) O O O O O<|q9 a fun b da a=>Qj (qnl (.cons (.nil _) (.cons (.refl _) .nil)) (q13g [] [({At:=({X:=0,Y:=0} : qa),Head:=0,Steps:=4} : Yw),({At:=ak,Head:=3,Steps:=9} : Yw)] b da)) O<|q0 O<|U _ O<|U _ O<|K6 O O<|K0 8 _ O<|qe O<|qz<|q9 a fun o dc a=>Qj (Yf 0 0 o dc) O<|q9 a fun p dd a=>Qj (Yf 2 0 p dd) O<|q9 a fun q de a=>Qj (Yf 2 2 q de) O<|q9 a fun s df a=>Qj (Yf 4 0 s df) O<|Qx _ _ O<|q9 a fun dg g a=>?_;refine q8n [] (fun y=>y = dg) (fun y=>⟨[(1,qc k.1),(2,qc k.2),(3,qc v.1),(4,qc v.2),(6,qc w.2),(8,qc x.1),(9,qc x.2),(10,.ref 0 2 0 0),(11,.ref 1 2 0 0),(12,qc b.2),(60,.hs 2 2 0 [o,p,q,s].length),(61,.agg [.hs 3 2 0 y.length,.hs 4 2 0 [({A:=0,B:=1} : qj),({A:=1,B:=2} : qj),({A:=1,B:=3} : qj)].length])],[(0,.cel 2 [[.hs 5 2 0 [m,n].length,.hs 6 2 0 [({A:=0,B:=1} : qj)].length]]),(1,.dat 2 [[.sl 2 (b.1.Nodes.map qr),.sl 2 (b.1.Edges.map Q6)]]),(2,.dat 2 ([o,p,q,s].map qr)),(3,.dat 2 (y.map qr)),(4,.dat 2 ([({A:=0,B:=1} : qj),({A:=1,B:=2} : qj),({A:=1,B:=3} : qj)].map Q6)),(5,.dat 2 ([m,n].map qr)),(6,.dat 2 ([({A:=0,B:=1} : qj)].map Q6))],7⟩) O O Tryz.func34 O qm qm O ?_ ?_
 ·refine qg<|K6 O O<|qz<|q9 g fun dh dj g=>Qj (Yf 0 0 dh dj) O<|q9 g fun dk dl g=>Qj (Yf 2 0 dk dl) O<|q9 g fun dm dn g=>Qj (Yf 2 3 dm dn) O<|q9 g fun dp dq g=>Qj (Yf 4 0 dp dq) O<|Qx _ _ O<|U _ O<|U _ O<|U _ O<|Qx _ _ O<|U _ O<|K0 10 _ O<|Qb ?_;refine ⟨.inr O,_,O,?_⟩;obtain rfl:=qw g;exact ⟨_,O,wkA [(0,6),(1,8),(2,9),(3,11),(4,12),(5,4),(6,5)] [] []⟩
 intro y hb;subst hb;refine U _ O<|U _ O<|K6 O O<|K0 7 _ O<|qd<|qh<|Qg [q8,q8,(none,[]),qq 2,qq 1,q8,q8,q8,q8,q8,q8,(none,[]),(some [],[10]),q8,q8,qq 0,q8,q8,q8,q8,q8,q8,q8,q8,q8,q8,q8,q8,q8,q8,q8,q8,q8,q8,q8,q8,q8,q8,q8,q8,q8,q8,q8,q8,q8,(none,[]),(some [],[9]),q8,q8,(none,[0])] qm<|qwj O<|q9 a fun dr h a=>?_;refine q8n [] (fun t=>t = dr) (fun t=>⟨[(1,qc k.1),(2,qc k.2),(3,qc v.1),(4,qc v.2),(6,qc w.2),(8,qc x.1),(9,qc x.2),(10,.ref 0 2 0 0),(11,.ref 1 2 0 0),(12,qc b.2),(13,.ref 2 2 0 0),(64,.agg [.hs 3 2 0 t.length,.hs 4 2 0 [({A:=0,B:=1} : qj),({A:=1,B:=2} : qj),({A:=1,B:=3} : qj)].length])],[(0,.cel 2 [[.hs 5 2 0 [m,n].length,.hs 6 2 0 [({A:=0,B:=1} : qj)].length]]),(1,.dat 2 [[.sl 2 (b.1.Nodes.map qr),.sl 2 (b.1.Edges.map Q6)]]),(2,.cel 2 [[.hs 7 2 0 [o,p,q,s].length,.hs 8 2 0 [({A:=0,B:=1} : qj),({A:=1,B:=2} : qj),({A:=1,B:=3} : qj)].length]]),(3,.dat 2 (t.map qr)),(4,.dat 2 ([({A:=0,B:=1} : qj),({A:=1,B:=2} : qj),({A:=1,B:=3} : qj)].map Q6)),(5,.dat 2 ([m,n].map qr)),(6,.dat 2 ([({A:=0,B:=1} : qj)].map Q6)),(7,.dat 2 ([o,p,q,s].map qr)),(8,.dat 2 ([({A:=0,B:=1} : qj),({A:=1,B:=2} : qj),({A:=1,B:=3} : qj)].map Q6))],9⟩) O O Tryz.func34 O qm qm O ?_ ?_
 ·refine qg<|K6 O O<|qz<|q9 h fun ds dt h=>Qj (Yf 0 0 ds dt) O<|q9 h fun du dv h=>Qj (Yf 2 0 du dv) O<|q9 h fun dw dx h=>Qj (Yf 2 3 dw dx) O<|q9 h fun dy dz h=>Qj (Yf 4 0 dy dz) O<|Qx _ _ O<|U _ O<|U _ O<|U _ O<|Qx _ _ O<|U _ O<|K0 8 _ O<|Qb ?_;refine ⟨.inr O,_,O,?_⟩;obtain rfl:=qw h;exact ⟨_,O,wkA [(0,0),(1,1),(2,7),(3,9),(4,10),(5,5),(6,6),(7,2),(8,4)] [] []⟩
 intro t hb;subst hb;refine qd<|q9 a fun al fa a=>Qj (q49 0 0 4 0 al fa) O<|q9 a fun am fb a=>Qj (q49 2 0 2 3 am fb) O<|Qx _ _ O<|q9 a fun fc fd a=>Ur [.agg [.hs 3 2 0 t.length,.hs 4 2 0 [({A:=0,B:=1} : qj),({A:=1,B:=2} : qj),({A:=1,B:=3} : qj)].length],.hs 9 4 0 [al,am].length] (qlh ({Nodes:=t,Edges:=[({A:=0,B:=1} : qj),({A:=1,B:=2} : qj),({A:=1,B:=3} : qj)]} : Qh) [al,am] fc fd) O O (Yl (q7h (Zh (Zc O O) (Zh (Zc O O) O))) (Yl (Zc O O) O)) (.inr O)<|q9 a fun fe z a=>?_;refine Qn 4 (fun A st=>∃ ar au av,st = A [(72,Q7 fe),(71,av),(70,au),(69,ar)]) ?_ ?_
 ·refine Qm O O z (fun z=>?_) (fun z=>?_)
  ·refine q0 O<|U _ O<|U _ O<|qd ?_;cases z;exact ⟨_,_,_,O⟩
  refine qf O<|qf O<|U _ O<|qd ?_;cases z;exact ⟨_,_,_,O⟩
 rintro _ ⟨ar,au,av,rfl⟩;refine q9 a fun ff aa a=>?_;refine Qn 4 (fun A st=>∃ aw ax ay,st = A [(76,Q7 ff),(75,ay),(74,ax),(73,aw)]) ?_ ?_
 ·refine Qm O O aa (fun aa=>?_) (fun aa=>?_)
  ·refine q0 O<|U _ O<|U _ O<|qd ?_;cases aa;exact ⟨_,_,_,O⟩
  refine qf O<|qf O<|U _ O<|qd ?_;cases aa;exact ⟨_,_,_,O⟩
 rintro _ ⟨aw,ax,ay,rfl⟩;refine q9 a fun fg ab a=>?_;refine Qn 4 (fun A st=>∃ az ba bb,st = A [(80,Q7 fg),(79,bb),(78,ba),(77,az)]) ?_ ?_
 ·refine Qm O O ab (fun ab=>?_) (fun ab=>?_)
  ·refine q0 O<|U _ O<|U _ O<|qd ?_;cases ab;exact ⟨_,_,_,O⟩
  refine qf O<|qf O<|U _ O<|qd ?_;cases ab;exact ⟨_,_,_,O⟩
 rintro _ ⟨az,ba,bb,rfl⟩;refine q9 a fun fh ac a=>?_;refine Qn 4 (fun A st=>∃ bc bd be,st = A [(84,Q7 fh),(83,be),(82,bd),(81,bc)]) ?_ ?_
 ·refine Qm O O ac (fun ac=>?_) (fun ac=>?_)
  ·refine q0 O<|U _ O<|U _ O<|qd ?_;cases ac;exact ⟨_,_,_,O⟩
  refine qf O<|qf O<|U _ O<|qd ?_;cases ac;exact ⟨_,_,_,O⟩
 rintro _ ⟨bc,bd,be,rfl⟩;refine q9 a fun fi ad a=>?_;refine Qn 4 (fun A st=>∃ bf bg bh,st = A [(88,Q7 fi),(87,bh),(86,bg),(85,bf)]) ?_ ?_
 ·refine Qm O O ad (fun ad=>?_) (fun ad=>?_)
  ·refine q0 O<|U _ O<|U _ O<|qd ?_;cases ad;exact ⟨_,_,_,O⟩
  refine qf O<|qf O<|U _ O<|qd ?_;cases ad;exact ⟨_,_,_,O⟩
 rintro _ ⟨bf,bg,bh,rfl⟩;refine q9 a fun fj ae a=>?_;refine Qn 4 (fun A st=>∃ bi bj bk,st = A [(92,Q7 fj),(91,bk),(90,bj),(89,bi)]) ?_ ?_
 ·refine Qm O O ae (fun ae=>?_) (fun ae=>?_)
  ·refine q0 O<|U _ O<|U _ O<|qd ?_;cases ae;exact ⟨_,_,_,O⟩
  refine qf O<|qf O<|U _ O<|qd ?_;cases ae;exact ⟨_,_,_,O⟩
 rintro _ ⟨bi,bj,bk,rfl⟩;refine q9 a fun fk af a=>?_;refine Qn 4 (fun A st=>∃ bl bm bn,st = A [(96,Q7 fk),(95,bn),(94,bm),(93,bl)]) ?_ ?_
 ·refine Qm O O af (fun af=>?_) (fun af=>?_)
  ·refine q0 O<|U _ O<|U _ O<|qd ?_;cases af;exact ⟨_,_,_,O⟩
  refine qf O<|qf O<|U _ O<|qd ?_;cases af;exact ⟨_,_,_,O⟩
 rintro _ ⟨bl,bm,bn,rfl⟩;refine Qm O O a (fun a=>?_) (fun a=>?_)
 ·refine U _ O<|q9 a fun an fl a=>Qj (q49 0 0 2 0 an fl) O<|q9 a fun ao fm a=>Qj (q49 2 0 4 0 ao fm) O<|Qx _ _ O<|q9 a fun fn fo a=>Ur [.agg [.hs 5 2 0 [m,n].length,.hs 6 2 0 [({A:=0,B:=1} : qj)].length],.hs 10 4 0 [an,ao].length] (qlh ({Nodes:=[m,n],Edges:=[({A:=0,B:=1} : qj)]} : Qh) [an,ao] fn fo) O O (Yl (q7h (Zh (Zc O O) (Zh (Zc O O) O))) (Yl (Zc O O) O)) (.inr O)<|U _ O<|q9 a fun fq ag a=>?_;refine Qn 4 (fun A st=>∃ bo bp bq,st = A [(107,Q7 fq),(106,bq),(105,bp),(104,bo)]) ?_ ?_
  ·refine Qm O O ag (fun ag=>?_) (fun ag=>?_)
   ·refine q0 O<|U _ O<|U _ O<|qd ?_;cases ag;exact ⟨_,_,_,O⟩
   refine qf O<|qf O<|U _ O<|qd ?_;cases ag;exact ⟨_,_,_,O⟩
  rintro _ ⟨bo,bp,bq,rfl⟩;refine q9 a fun fr u a=>?_;refine Qn 5 (fun A st=>∃ br bs bt bu,st = A [(112,Q7 fr),(111,bu),(110,bt),(109,bs),(108,br)]) ?_ ?_
  ·refine Qm O O u (fun u=>?_) (fun u=>?_)
   ·refine U _ O<|U _ O<|q9 u fun fs ft u=>Ur [.d (.agg [.sl 2 (b.1.Nodes.map qr),.sl 2 (b.1.Edges.map Q6)]),.agg [.hs 7 2 0 [o,p,q,s].length,.hs 8 2 0 [({A:=0,B:=1} : qj),({A:=1,B:=2} : qj),({A:=1,B:=3} : qj)].length]] (qnv b.1 ({Nodes:=[o,p,q,s],Edges:=[({A:=0,B:=1} : qj),({A:=1,B:=2} : qj),({A:=1,B:=3} : qj)]} : Qh) fs ft) O O (Yl O (Yl (q7h (Zh (Zc O O) (Zh (Zc O O) O))) O)) (.inr O)<|U _ O<|qd ?_;cases u;exact ⟨_,_,_,_,O⟩
   refine qf O<|qf O<|qf O<|U _ O<|qd ?_;cases u;exact ⟨_,_,_,_,O⟩
  rintro _ ⟨br,bs,bt,bu,rfl⟩;refine qe O<|Qb ?_;cases a;exact Qv _ O
 refine qf O<|qf O<|qf O<|qf O<|qf O<|U _ O<|q0 O<|qf O<|qf O<|U _ O<|q0 O<|qf O<|qf O<|qf O<|U _ O<|qe O<|Qb ?_;cases a;exact Qv _ O
end Go.Proofs.YtgkialgkmjnfbaaGreat
namespace Go.Proofs.YtgkialgkmjnfbaaGreat
open Go Go.Am Go.Sh
set_option maxHeartbeats 8000000
set_option maxRecDepth 100000
theorem qus (a : qu) (b : qu) (r : Bool) (c : q89 a b = some r) : Pure Tryz.prog tab 30 [.agg (Kv a),.agg (Kv b)] (.bool r):=by
 unfold q89 at c;refine K8 Tryz.func30 O qm qm O<|qg<|Qx _ _ O<|Qx _ _ O<|qe O<|qd<|qh<|Qg [q8,q8,q8,q8,qq 1,q8,q8,qq 1,q8,q8,q8,qq 0,q8,q8,qq 0,q8,q8,q8,q8,qq 1,q8,q8,qq 1,q8,q8,q8,qq 0,q8,q8,qq 0,q8,q8] qm<|U _ O<|U _ O<|U _ O<|U _ O<|U _ O<|U _ O<|J8 (r:=min a.A.X a.B.X) O O (by simp only [J7];rfl)<|U _ O<|U _ O<|U _ O<|U _ O<|U _ O<|U _ O<|J8 (r:=min b.A.X b.B.X) O O (by simp only [J7];rfl)<|Z9 (r:=max (min a.A.X a.B.X) (min b.A.X b.B.X)) O O (by simp only [Z8];rfl)<|U _ O<|U _ O<|U _ O<|U _ O<|U _ O<|U _ O<|Z9 (r:=max a.A.X a.B.X) O O (by simp only [Z8];rfl)<|U _ O<|U _ O<|U _ O<|U _ O<|U _ O<|U _ O<|Z9 (r:=max b.A.X b.B.X) O O (by simp only [Z8];rfl)<|J8 (r:=min (max a.A.X a.B.X) (max b.A.X b.B.X)) O O (by simp only [J7];rfl)<|qe O<|qe O ?_;refine qd<|qh<|Qg [q8,q8,q8,q8,qq 1,q8,q8,qq 1,q8,q8,q8,qq 0,q8,q8,qq 0,q8,q8,q8,q8,qq 1,q8,q8,qq 1,q8,q8,q8,qq 0,q8,q8,qq 0,q8,q8] qm<|U _ O<|U _ O<|U _ O<|U _ O<|U _ O<|U _ O<|J8 (r:=min a.A.Y a.B.Y) O O (by simp only [J7];rfl)<|U _ O<|U _ O<|U _ O<|U _ O<|U _ O<|U _ O<|J8 (r:=min b.A.Y b.B.Y) O O (by simp only [J7];rfl)<|Z9 (r:=max (min a.A.Y a.B.Y) (min b.A.Y b.B.Y)) O O (by simp only [Z8];rfl)<|U _ O<|U _ O<|U _ O<|U _ O<|U _ O<|U _ O<|Z9 (r:=max a.A.Y a.B.Y) O O (by simp only [Z8];rfl)<|U _ O<|U _ O<|U _ O<|U _ O<|U _ O<|U _ O<|Z9 (r:=max b.A.Y b.B.Y) O O (by simp only [Z8];rfl)<|J8 (r:=min (max a.A.Y a.B.Y) (max b.A.Y b.B.Y)) O O (by simp only [J7];rfl)<|qe O<|qe O<|qd<|qh<|qg<|q0 O<|q0 O ?_;refine U _ O<|q9 c fun c1 g c=>?_;refine Qn 5 (fun A st=>∃ l m n o,st = A [(77,Q7 c1),(76,o),(75,n),(74,m),(73,l)]) ?_ ?_
 ·refine Qm O O g (fun g=>?_) (fun g=>?_)
  ·refine qf O<|qf O<|qf O<|U _ O<|qd ?_;cases g;exact ⟨_,_,_,_,O⟩
  refine q0 O<|q0 O<|U _ O<|U _ O<|qd ?_;cases g;exact ⟨_,_,_,_,O⟩
 rintro _ ⟨l,m,n,o,rfl⟩;refine qd ?_;refine qt O c (fun _ c=>?_) (fun _ c=>?_)
 ·refine qg<|qe O<|Qb ?_;cases c;exact Qv _ O
 refine qv<|qg<|q0 O<|q0 O<|q9 c fun r7 h8 c=>Qj (Yf (max (min a.A.X a.B.X) (min b.A.X b.B.X)) (max (min a.A.Y a.B.Y) (min b.A.Y b.B.Y)) r7 h8) O<|K6 O O<|K0 2 _ O<|qz<|q0 O<|q0 O<|U _ O<|q9 c fun c9 h c=>?_;refine Qn 5 (fun A st=>∃ p q s t,st = A [(88,Q7 c9),(87,t),(86,s),(85,q),(84,p)]) ?_ ?_
 ·refine Qm O O h (fun h=>?_) (fun h=>?_)
  ·refine q0 O<|q0 O<|U _ O<|U _ O<|qd ?_;cases h;exact ⟨_,_,_,_,O⟩
  refine qf O<|qf O<|qf O<|U _ O<|qd ?_;cases h;exact ⟨_,_,_,_,O⟩
 rintro _ ⟨p,q,s,t,rfl⟩;refine q9 c fun bg d c=>?_;refine Qn 12 (fun A st=>∃ u v w x y z aa ab ac ad ae,st = A [(100,Q7 bg),(99,ae),(98,ad),(97,ac),(96,ab),(95,aa),(94,z),(93,y),(92,x),(91,w),(90,v),(89,u)]) ?_ ?_
 ·refine Qm O O d (fun d=>?_) (fun d=>?_)
  ·refine U _ O<|U _ O<|U _ O<|U _ O<|q9 d fun bh j d=>?_;refine Qn 6 (fun A st=>∃ af ag ah ai aj,st = A [(99,Q7 bh),(98,aj),(97,ai),(96,ah),(95,ag),(94,af)]) ?_ ?_
   ·refine Qm O O j (fun j=>?_) (fun j=>?_)
    ·refine qf O<|qf O<|qf O<|qf O<|U _ O<|qd ?_;cases j;exact ⟨_,_,_,_,_,O⟩
    refine U _ O<|U _ O<|U _ O<|U _ O<|U _ O<|qd ?_;cases j;exact ⟨_,_,_,_,_,O⟩
   rintro _ ⟨af,ag,ah,ai,aj,rfl⟩;refine U _ O<|qd ?_;cases d;exact ⟨_,_,_,_,_,_,_,_,_,_,_,O⟩
  refine qf O<|qf O<|qf O<|qf O<|qf O<|qf O<|qf O<|qf O<|qf O<|qf O<|U _ O<|qd ?_;cases d;exact ⟨_,_,_,_,_,_,_,_,_,_,_,O⟩
 rintro _ ⟨u,v,w,x,y,z,aa,ab,ac,ad,ae,rfl⟩;refine q9 c fun bi f c=>?_;refine Qn 12 (fun A st=>∃ ak al am an ao ap aq ar au av aw,st = A [(112,Q7 bi),(111,aw),(110,av),(109,au),(108,ar),(107,aq),(106,ap),(105,ao),(104,an),(103,am),(102,al),(101,ak)]) ?_ ?_
 ·refine Qm O O f (fun f=>?_) (fun f=>?_)
  ·refine U _ O<|U _ O<|U _ O<|U _ O<|q9 f fun bj k f=>?_;refine Qn 6 (fun A st=>∃ ax ay az ba bb,st = A [(111,Q7 bj),(110,bb),(109,ba),(108,az),(107,ay),(106,ax)]) ?_ ?_
   ·refine Qm O O k (fun k=>?_) (fun k=>?_)
    ·refine qf O<|qf O<|qf O<|qf O<|U _ O<|qd ?_;cases k;exact ⟨_,_,_,_,_,O⟩
    refine U _ O<|U _ O<|U _ O<|U _ O<|U _ O<|qd ?_;cases k;exact ⟨_,_,_,_,_,O⟩
   rintro _ ⟨ax,ay,az,ba,bb,rfl⟩;refine U _ O<|qd ?_;cases f;exact ⟨_,_,_,_,_,_,_,_,_,_,_,O⟩
  refine qf O<|qf O<|qf O<|qf O<|qf O<|qf O<|qf O<|qf O<|qf O<|qf O<|U _ O<|qd ?_;cases f;exact ⟨_,_,_,_,_,_,_,_,_,_,_,O⟩
 rintro _ ⟨ak,al,am,an,ao,ap,aq,ar,au,av,aw,rfl⟩;refine qe O<|Qb ?_;cases c;exact Qv _ O
theorem q14h (u : List qu) (r : Bool) (a : qd9 u = some r) : Pure Tryz.prog tab 6 [.sl 4 (u.map Kv)] (.bool r):=by
 unfold qd9 at a;refine K8 Tryz.func6 O qm qm O<|qg<|qe O<|qd<|qh<|qg<|q0 O<|q9 a fun r1 h2 a=>Qj (qut u r1 h2) O<|U _ O<|qd ?_;refine qt O a (fun _ a=>?_) (fun _ a=>?_)
 ·refine qg<|q9 a fun r5 h6 a=>Qj (qlg r5 h6) O<|qe O<|Qb ?_;cases a;exact Qv _ O
 refine qv<|qg<|q0 O<|q9 a fun b h8 a=>Qj (qeh u b h8) O<|q0 O<|U _ O<|U _ O<|K6 O O<|K0 0 _ O<|qe O<|qz<|U _ O<|q9 a fun m be a=>Qj (qhx b.1 m be) O<|q0 O<|U _ O<|U _ O<|qe O<|qe O<|qz<|U _ O<|q9 a fun j bf a=>Qj (qp8 b.1 j bf) O<|q0 O<|U _ O<|U _ O<|qe O<|qe O<|qd<|qh<|qg<|q0 O<|U _ O<|q9 a fun bg o a=>?_;refine Qn 4 (fun A st=>∃ z aa ab,st = A [(40,Q7 bg),(39,ab),(38,aa),(37,z)]) ?_ ?_
 ·refine Qm O O o (fun o=>?_) (fun o=>?_)
  ·refine qf O<|qf O<|U _ O<|qd ?_;cases o;exact ⟨_,_,_,O⟩
  refine q0 O<|U _ O<|U _ O<|qd ?_;cases o;exact ⟨_,_,_,O⟩
 rintro _ ⟨z,aa,ab,rfl⟩;refine q9 a fun bh p a=>?_;refine Qn 4 (fun A st=>∃ ac ad ae,st = A [(44,Q7 bh),(43,ae),(42,ad),(41,ac)]) ?_ ?_
 ·refine Qm O O p (fun p=>?_) (fun p=>?_)
  ·refine qf O<|qf O<|U _ O<|qd ?_;cases p;exact ⟨_,_,_,O⟩
  refine q0 O<|U _ O<|U _ O<|qd ?_;cases p;exact ⟨_,_,_,O⟩
 rintro _ ⟨ac,ad,ae,rfl⟩;refine qd ?_;refine qt O a (fun _ a=>?_) (fun _ a=>?_)
 ·refine qg<|qe O<|Qb ?_;cases a;exact Qv _ O
 refine qv<|qg<|qe O<|qd<|qh<|qg<|qe O<|qd<|q9 a fun af bi a=>?_;refine K2 (fun n=>.inl n = af) (fun n=>⟨[(3,.ref 0 2 0 0),(7,qc j.1),(9,qc n)],[(0,.dat 2 [[.sl 2 (b.1.Nodes.map qr),.sl 2 (b.1.Edges.map Q6)]])],1⟩) qb ?_ ?_
 ·refine Qt (q46 m) (fun k=>⟨[(3,.ref 0 2 0 0),(5,.d (.sl 4 (m.1.map Kv))),(7,qc j.1),(9,qc k.1),(10,qc k.2)],[(0,.dat 2 [[.sl 2 (b.1.Nodes.map qr),.sl 2 (b.1.Edges.map Q6)]])],1⟩) _ af bi (wkA [(0,0)] [] []) ?_;intro k cf g;unfold q46 at g;refine qh<|qg<|q0 O<|q0 O<|Ks O<|U _ O<|qd ?_;refine qt O g (fun _ g=>?_) (fun _ g=>?_)
  ·refine qv<|qh<|q9 g fun bj h g=>?_;refine K2 (fun v=>.inl v = bj) (fun v=>⟨[(3,.ref 0 2 0 0),(5,.d (.sl 4 (m.1.map Kv))),(7,qc j.1),(9,qc v),(10,qc k.2)],[(0,.dat 2 [[.sl 2 (b.1.Nodes.map qr),.sl 2 (b.1.Edges.map Q6)]])],1⟩) qb ?_ ?_
   ·refine qg<|q0 O<|q0 O<|q0 O<|q9 h fun bk bl h=>Ky bl O<|U _ O<|q9 h fun y bm h=>Qj (qzg bk y bm) O<|U _ O<|qe O<|qz<|qe O<|qd<|q9 h fun bn bo h=>Qe<|Qt (q47 k m y) (fun ag=>⟨[(3,.ref 0 2 0 0),(5,.d (.sl 4 (m.1.map Kv))),(7,qc j.1),(9,.d (qk (w64 (k.1 + y)))),(10,qc k.2),(11,qc ag)],[(0,.dat 2 [[.sl 2 (b.1.Nodes.map qr),.sl 2 (b.1.Edges.map Q6)]])],1⟩) _ bn bo (wkA [(0,0)] [] []) ?_;intro ag cg c;unfold q47 at c;refine qh<|qg<|q0 O<|q0 O<|U _ O<|qd ?_;refine qt O c (fun _ c=>?_) (fun _ c=>?_)
    ·refine qv<|qh<|Qe<|qh<|Qg [q8,q8,q8,q8,q8,q8,q8,q8,q8,q8] qm<|q0 O<|q0 O<|q9 c fun bp bq c=>Ky bq O<|U _ O<|q0 O<|q0 O<|q9 c fun br bs c=>Ky bs O<|U _ O<|q9 c fun bt bu c=>Qj (qus bp br bt bu) O<|U _ O<|qd ?_;refine qt O c (fun _ c=>?_) (fun _ c=>?_)
     ·refine qg<|qe O<|Qb ?_;refine ⟨_,qs c,fun hm=>?_⟩;subst hm;obtain rfl:=qw h;refine ⟨_,qs g,fun hm=>?_⟩;subst hm;cases a;exact Qv _ O
     refine qv<|Qf<|Qp<|Qa<|q0 O<|U _ O<|qe O<|Q8<|⟨_,qs c,wkA [(0,0)] [] []⟩
    refine Ql ?_;refine ⟨_,qs c,fun hm=>?_⟩;subst hm;obtain rfl:=qw h;exact ⟨_,O,wkA [(0,0)] [] []⟩
   intro v hb;subst hb;refine Qa<|q0 O<|U _ O<|qe O<|Q8<|⟨_,qs g,wkA [(0,0)] [] []⟩
  refine Ql ?_;refine ⟨_,qs g,fun hm=>?_⟩;subst hm;exact ⟨_,O,wkA [(0,0)] [] []⟩
 intro n hb;subst hb;refine qg<|qe O<|qd<|qh<|qg<|qe O<|qd<|q9 a fun ah bv a=>?_;refine K2 (fun w=>.inl w = ah) (fun w=>⟨[(3,.ref 0 2 0 0),(7,qc j.1),(9,qc n),(12,qc w)],[(0,.dat 2 [[.sl 2 (b.1.Nodes.map qr),.sl 2 (b.1.Edges.map Q6)]])],1⟩) qb ?_ ?_
 ·refine Qt (q48 b) (fun x=>⟨[(3,.ref 0 2 0 0),(7,qc j.1),(9,qc n),(12,qc x.1),(13,qc x.2)],[(0,.dat 2 [[.sl 2 (b.1.Nodes.map qr),.sl 2 (b.1.Edges.map Q6)]])],1⟩) _ ah bv (wkA [(0,0)] [] []) ?_;intro x ch f;unfold q48 at f;refine qh<|qg<|q0 O<|U _ O<|U _ O<|Ks O<|U _ O<|qd ?_;refine qt O f (fun _ f=>?_) (fun _ f=>?_)
  ·refine qv<|qh<|Qe<|qg<|U _ O<|q0 O<|q9 f fun bw bx f=>Qj (qhw b.1 x.2 bw bx) O<|q0 O<|U _ O<|U _ O<|qe O<|qe O<|qd<|qh<|qg<|q0 O<|U _ O<|q9 f fun bz q f=>?_;refine Qn 4 (fun A st=>∃ ai aj ak,st = A [(91,Q7 bz),(90,ak),(89,aj),(88,ai)]) ?_ ?_
   ·refine Qm O O q (fun q=>?_) (fun q=>?_)
    ·refine qf O<|qf O<|U _ O<|qd ?_;cases q;exact ⟨_,_,_,O⟩
    refine q0 O<|U _ O<|U _ O<|qd ?_;cases q;exact ⟨_,_,_,O⟩
   rintro _ ⟨ai,aj,ak,rfl⟩;refine q9 f fun ca s f=>?_;refine Qn 4 (fun A st=>∃ al am an,st = A [(95,Q7 ca),(94,an),(93,am),(92,al)]) ?_ ?_
   ·refine Qm O O s (fun s=>?_) (fun s=>?_)
    ·refine qf O<|qf O<|U _ O<|qd ?_;cases s;exact ⟨_,_,_,O⟩
    refine q0 O<|U _ O<|U _ O<|qd ?_;cases s;exact ⟨_,_,_,O⟩
   rintro _ ⟨al,am,an,rfl⟩;refine qd ?_;refine qt O f (fun _ f=>?_) (fun _ f=>?_)
   ·refine qg<|qe O<|Qb ?_;refine ⟨_,qs f,fun hm=>?_⟩;subst hm;cases a;exact Qv _ O
   refine qv<|Qa<|q0 O<|q0 O<|U _ O<|qe O<|Q8<|Qp<|Qa<|q0 O<|U _ O<|qe O<|Q8<|⟨_,qs f,wkA [(0,0)] [] []⟩
  refine Ql ?_;refine ⟨_,qs f,fun hm=>?_⟩;subst hm;exact ⟨_,O,wkA [(0,0)] [] []⟩
 intro w hb;subst hb;refine qg<|q0 O<|q0 O<|U _ O<|q9 a fun cb t a=>?_;refine Qn 8 (fun A st=>∃ ao ap aq ar au av aw,st = A [(109,Q7 cb),(108,aw),(107,av),(106,au),(105,ar),(104,aq),(103,ap),(102,ao)]) ?_ ?_
 ·refine Qm O O t (fun t=>?_) (fun t=>?_)
  ·refine q0 O<|U _ O<|U _ O<|Ks O<|U _ O<|U _ O<|U _ O<|qd ?_;cases t;exact ⟨_,_,_,_,_,_,_,O⟩
  refine qf O<|qf O<|qf O<|qf O<|qf O<|qf O<|U _ O<|qd ?_;cases t;exact ⟨_,_,_,_,_,_,_,O⟩
 rintro _ ⟨ao,ap,aq,ar,au,av,aw,rfl⟩;refine q9 a fun cc l a=>?_;refine Qn 3 (fun A st=>∃ ax ay,st = A [(112,Q7 cc),(111,ay),(110,ax)]) ?_ ?_
 ·refine Qm O O l (fun l=>?_) (fun l=>?_)
  ·refine q9 l fun cd ce l=>Qj (qlg cd ce) O<|U _ O<|qd ?_;cases l;exact ⟨_,_,O⟩
  refine qf O<|U _ O<|qd ?_;cases l;exact ⟨_,_,O⟩
 rintro _ ⟨ax,ay,rfl⟩;refine qe O<|Qb ?_;cases a;exact Qv _ O
end Go.Proofs.YtgkialgkmjnfbaaGreat
namespace Go.Proofs.YtgkialgkmjnfbaaGreat
open Go Go.Am Go.Sh
end Go.Proofs.YtgkialgkmjnfbaaGreat
namespace Go.Proofs.YtgkialgkmjnfbaaGreat
open Go Go.Am Go.Sh
end Go.Proofs.YtgkialgkmjnfbaaGreat
