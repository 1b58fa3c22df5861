/- W_Alld W_Alle W_Allf W_All -/
import Derived.Test.YtgkialgkmjnfbaaGreatK20
namespace Go.Proofs.YtgkialgkmjnfbaaGreat
open Go Go.Am Go.Sh
set_option maxHeartbeats 8000000
set_option maxRecDepth 100000
theorem q138 (f : Qh) (r : Int × Int) (a : q78 f = some r) : Pure Tryz.prog tab 17 [.agg [.sl 2 (f.Nodes.map qq),.sl 2 (f.Edges.map Q7)]] (.tup [qk r.1,qk r.2]):=by
 unfold q78 at a;refine K6 Tryz.func17 O qm qm O<|qg<|Qw _ _ O<|qf O<|qf O<|qx<|U _ O<|q9 a fun g l a=>Qi (qhv f g l) O<|q0 O<|U _ O<|U _ O<|qf O<|qf O<|qd<|qi<|qg<|q0 O<|U _ O<|qd ?_;refine qt O a (fun _ a=>?_) (fun _ a=>?_)
 ·refine qg<|q0 O<|qf O<|qf O<|Qa ?_;cases a;exact Qs _ O
 refine qv<|qg<|qf O<|qd<|qi<|qg<|q0 O<|Kr O<|q0 O<|qd<|q9 a fun k m a=>?_;refine K3 (fun h=>h = k) (fun h=>⟨[(6,qe h)],[],0⟩) qb ?_ ?_
 ·refine Qv (q1u g) (fun j=>⟨[(6,qe j.1),(17,.d (.sl 4 (g.1.map Kc))),(18,qe (g.1.length : Int)),(19,qe j.2)],[],0⟩) _ k m (wkA [] [] []) ?_;intro j o b;unfold q1u at b;refine qg<|U _ O<|qd<|qi ?_;refine qt O b (fun _ b=>?_) (fun _ b=>?_)
  ·refine qv<|qi<|Qe<|qg<|q9 b fun c n b=>Ky n O<|U _ O<|K5 O O<|Qy 0 _ O<|qd<|Q9<|q0 O<|U _ O<|U _ O<|U _ O<|U _ O<|U _ O<|U _ O<|Zr (r:=max c.A.X c.B.X) O O (by simp only [Zq];rfl)<|U _ O<|U _ O<|U _ O<|U _ O<|U _ O<|U _ O<|Jt (r:=min c.A.X c.B.X) O O (by simp only [Js];rfl)<|U _ O<|U _ O<|U _ O<|U _ O<|U _ O<|U _ O<|U _ O<|Zr (r:=max c.A.Y c.B.Y) O O (by simp only [Zq];rfl)<|U _ O<|U _ O<|U _ O<|U _ O<|U _ O<|U _ O ?_;refine U _ O<|Jt (r:=min c.A.Y c.B.Y) O O (by simp only [Js];rfl)<|U _ O<|U _ O<|qf O<|Q8<|Qp<|Q9<|U _ O<|q0 O<|Q8<|⟨_,qu b,wkA [] [] []⟩
  refine Qn ?_;refine ⟨_,qu b,fun hm=>?_⟩;subst hm;exact ⟨_,O,wkA [] [] []⟩
 intro h hb;subst hb;refine qg<|q0 O<|qf O<|qf O<|Qa ?_;cases a;exact Qs _ O
theorem qfr (a : qa) (r : Bool) (c : q42 a = some r) : Pure Tryz.prog tab 67 [.agg (qq a)] (.bool r):=by
 unfold q42 at c;refine K6 Tryz.func67 O qm qm O<|qg<|Qw _ _ O<|qf O<|qx<|U _ O<|U _ O<|U _ O<|U _ O<|U _ O<|U _ O<|U _ O<|U _ O<|U _ O<|U _ O<|Zr (r:=max (max (max a.X (w64 (0 - a.X))) a.Y) (w64 (0 - a.Y))) O O (by simp only [Zq];rfl)<|U _ O<|q9 c fun m b c=>?_;refine Qk 8 (fun A st=>∃ d f g h j k l,st = A [(22,Q6 m),(21,l),(20,k),(19,j),(18,h),(17,g),(16,f),(15,d)]) ?_ ?_
 ·refine Qj O O b (fun b=>?_) (fun b=>?_)
  ·refine U _ O<|U _ O<|U _ O<|U _ O<|Jt (r:=min a.X a.Y) O O (by simp only [Js];rfl)<|U _ O<|U _ O<|qd ?_;cases b;exact ⟨_,_,_,_,_,_,_,O⟩
  refine qc O<|qc O<|qc O<|qc O<|qc O<|qc O<|U _ O<|qd ?_;cases b;exact ⟨_,_,_,_,_,_,_,O⟩
 rintro _ ⟨d,f,g,h,j,k,l,rfl⟩;refine qf O<|Qa ?_;cases c;exact Qs _ O
theorem qk9 (f : List Zi) (r : Int) (b : q57 f = some r) : Pure Tryz.prog tab 47 [.sl 5 (f.map Ye)] (qk r):=by
 unfold q57 at b;refine K6 Tryz.func47 O qm qm O<|qg<|qf O<|qd<|qi<|qg<|q0 O<|Kr O<|U _ O<|qd ?_;refine qt O b (fun _ b=>?_) (fun _ b=>?_)
 ·refine qg<|qf O<|Qa ?_;cases b;exact Qs _ O
 refine qv<|qi<|qg<|q0 O<|Kr O<|q0 O<|qd<|q9 b fun n ap b=>?_;refine K3 (fun m=>.inl m = n) (fun m=>⟨[],[],0⟩) qb ?_ ?_
 ·refine Qv (qcw f) (fun o=>⟨[(8,.d (.sl 5 (f.map Ye))),(9,qe (f.length : Int)),(10,qe o)],[],0⟩) _ n ap (wkA [] [] []) ?_;intro o bc a;unfold qcw at a;refine qg<|U _ O<|qd<|qi ?_;refine qt O a (fun _ a=>?_) (fun _ a=>?_)
  ·refine qv<|qi<|Qe<|qg<|q9 a fun aq ar a=>Ky ar O<|U _ O<|K5 O O<|Qy 0 _ O<|qx<|U _ O<|U _ O<|U _ O<|q9 a fun au g a=>?_;refine Qk 5 (fun A st=>∃ p q s t,st = A [(21,Q6 au),(20,t),(19,s),(18,q),(17,p)]) ?_ ?_
   ·refine Qj O O g (fun g=>?_) (fun g=>?_)
    ·refine qc O<|qc O<|qc O<|U _ O<|qd ?_;cases g;exact ⟨_,_,_,_,O⟩
    refine U _ O<|U _ O<|U _ O<|U _ O<|qd ?_;cases g;exact ⟨_,_,_,_,O⟩
   rintro _ ⟨p,q,s,t,rfl⟩;refine q9 a fun av c a=>?_;refine Qk 6 (fun A st=>∃ u v w x y,st = A [(27,Q6 av),(26,y),(25,x),(24,w),(23,v),(22,u)]) ?_ ?_
   ·refine Qj O O c (fun c=>?_) (fun c=>?_)
    ·refine qc O<|qc O<|qc O<|qc O<|U _ O<|qd ?_;cases c;exact ⟨_,_,_,_,_,O⟩
    refine U _ O<|U _ O<|q9 c fun aw ax c=>Qi (qfr aq.At aw ax) O<|U _ O<|U _ O<|qd ?_;cases c;exact ⟨_,_,_,_,_,O⟩
   rintro _ ⟨u,v,w,x,y,rfl⟩;refine q9 a fun ay h a=>?_;refine Qk 5 (fun A st=>∃ z aa ab ac,st = A [(32,Q6 ay),(31,ac),(30,ab),(29,aa),(28,z)]) ?_ ?_
   ·refine Qj O O h (fun h=>?_) (fun h=>?_)
    ·refine qc O<|qc O<|qc O<|U _ O<|qd ?_;cases h;exact ⟨_,_,_,_,O⟩
    refine U _ O<|U _ O<|U _ O<|U _ O<|qd ?_;cases h;exact ⟨_,_,_,_,O⟩
   rintro _ ⟨z,aa,ab,ac,rfl⟩;refine q9 a fun az j a=>?_;refine Qk 5 (fun A st=>∃ ad ae af ag,st = A [(37,Q6 az),(36,ag),(35,af),(34,ae),(33,ad)]) ?_ ?_
   ·refine Qj O O j (fun j=>?_) (fun j=>?_)
    ·refine qc O<|qc O<|qc O<|U _ O<|qd ?_;cases j;exact ⟨_,_,_,_,O⟩
    refine U _ O<|U _ O<|U _ O<|U _ O<|qd ?_;cases j;exact ⟨_,_,_,_,O⟩
   rintro _ ⟨ad,ae,af,ag,rfl⟩;refine q9 a fun ba k a=>?_;refine Qk 5 (fun A st=>∃ ah ai aj ak,st = A [(42,Q6 ba),(41,ak),(40,aj),(39,ai),(38,ah)]) ?_ ?_
   ·refine Qj O O k (fun k=>?_) (fun k=>?_)
    ·refine qc O<|qc O<|qc O<|U _ O<|qd ?_;cases k;exact ⟨_,_,_,_,O⟩
    refine U _ O<|U _ O<|U _ O<|U _ O<|qd ?_;cases k;exact ⟨_,_,_,_,O⟩
   rintro _ ⟨ah,ai,aj,ak,rfl⟩;refine q9 a fun bb l a=>?_;refine Qk 5 (fun A st=>∃ al am an ao,st = A [(47,Q6 bb),(46,ao),(45,an),(44,am),(43,al)]) ?_ ?_
   ·refine Qj O O l (fun l=>?_) (fun l=>?_)
    ·refine qc O<|qc O<|qc O<|U _ O<|qd ?_;cases l;exact ⟨_,_,_,_,O⟩
    refine U _ O<|U _ O<|U _ O<|U _ O<|qd ?_;cases l;exact ⟨_,_,_,_,O⟩
   rintro _ ⟨al,am,an,ao,rfl⟩;refine qd ?_;refine qt O a (fun _ a=>?_) (fun _ a=>?_)
   ·refine qg<|qf O<|Qa ?_;refine ⟨_,qu a,fun hm=>?_⟩;subst hm;cases b;exact Qs _ O
   refine qv<|Qf<|Qp<|Q9<|U _ O<|q0 O<|Q8<|⟨_,qu a,wkA [] [] []⟩
  refine Qn ?_;refine ⟨_,qu a,fun hm=>?_⟩;subst hm;exact ⟨_,O,wkA [] [] []⟩
 intro m hb;subst hb;refine qg<|qf O<|Qa ?_;cases b;exact Qs _ O
theorem qte (f : List Zi) (a : qa) (r : Int) (k : qcx f a = some r) : Pure Tryz.prog tab 105 [.sl 5 (f.map Ye),.agg (qq a)] (qk r):=by
 unfold qcx at k;refine K6 Tryz.func105 O qm qm O<|qg<|Qw _ _ O<|qf O<|qx<|K5 O O<|Qy 1 _ O<|qd<|qi<|qg<|q0 O<|U _ O<|q9 k fun x y k=>?_;refine q8j [.d (.sl 5 (f.map Ye)),.d (.agg (qq a))] (fun p=>p = x) (fun p=>⟨[(4,qe 0),(5,.ref 0 1 0 0),(10,.fn 131 [.ref 1 1 0 0,.ref 2 2 0 0])],[(0,.dat 1 [[qk 0]]),(1,.dat 1 [[.sl 5 (f.map Ye)]]),(2,.dat 2 [(qq a)])],3⟩) O O Tryz.func123 O qm qm O ?_ ?_
 ·refine qg<|Qw _ _ O<|Qw _ _ O<|qf O<|qx<|U _ O<|qf O<|Qa ?_;refine ⟨.inr O,_,O,?_⟩;obtain rfl:=qw y;exact ⟨_,O,wkA [(0,1),(1,2),(2,3)] [] []⟩
 intro p hb;subst hb;refine qd<|Qe<|q9 k fun z q k=>?_;refine qo0 (fun n=>n = z) (fun n=>⟨[(5,.ref 0 1 0 0)],[(0,.dat 1 [[qk n]])],1⟩) ?_ ?_
 ·refine Zs (st':=⟨[(4,qe 0),(5,.ref 0 1 0 0),(10,.fn 131 [.ref 1 1 0 0,.ref 2 2 0 0])],[(0,.dat 1 [[qk 0]]),(1,.dat 1 [[.sl 5 (f.map Ye)]]),(2,.dat 2 [(qq a)])],3⟩) (wkA [(0,0),(1,1),(2,2)] [] []) ?_ qb;refine qo2 _ (.inl O) Tryz.func131 O qm qm O ?_;intro A58 B59 hA58 hB59;refine qg<|U _ O<|Kr O<|q0 O<|qd<|q9 q fun aa ab q=>Qe<|Qv (qcy f a) (fun h=>⟨[(0,.yld 3),(2,.ref 2 2 0 0),(9,.d (.sl 5 (f.map Ye))),(10,qe (f.length : Int)),(11,qe h.1)],[(0,.dat 1 [[qk h.2]]),(1,.dat 1 [[.sl 5 (f.map Ye)]]),(2,.dat 2 [(qq a)]),(3,.loop [(4,qe 0),(5,.ref 0 1 0 0),(10,.fn 131 [.ref 1 1 0 0,.ref 2 2 0 0])] [11,12] A58 B59 .ready none)],4⟩) _ aa ab (wkA [] [] []) ?_;intro h ai j;unfold qcy at j;refine qg<|U _ O<|qd<|qi ?_;refine qt O j (fun _ j=>?_) (fun _ j=>?_)
  ·refine qv<|qi<|q9 j fun ac g j=>?_;refine K3 (fun o=>o = ac) (fun o=>⟨[(0,.yld 3),(2,.ref 2 2 0 0),(9,.d (.sl 5 (f.map Ye))),(10,qe (f.length : Int)),(11,qe h.1)],[(0,.dat 1 [[qk o]]),(1,.dat 1 [[.sl 5 (f.map Ye)]]),(2,.dat 2 [(qq a)]),(3,.loop [(4,qe 0),(5,.ref 0 1 0 0),(10,.fn 131 [.ref 1 1 0 0,.ref 2 2 0 0])] [11,12] A58 B59 .ready none)],4⟩) qb ?_ ?_
   ·refine qg<|q9 g fun b ad g=>Ky ad O<|U _ O<|K5 O O<|Qy 4 _ O<|qd<|qi<|Qg [q8,q8,q8,qs 4,q8,q8,qs 2,q8,q8,qs 4,q8,q8,qs 2,q8] qm<|U _ O<|U _ O<|U _ O<|U _ O<|U _ O<|U _ O<|U _ O<|U _ O<|U _ O<|U _ O<|U _ O<|U _ O<|qf O<|qf O<|qx<|q0 O<|q0 O<|U _ O<|Zr (r:=max (w64 (a.X - b.At.X)) (w64 (0 - (w64 (a.X - b.At.X))))) O O (by simp only [Zq];rfl)<|q0 O<|q0 O<|U _ O<|Zr (r:=max (w64 (a.Y - b.At.Y)) (w64 (0 - (w64 (a.Y - b.At.Y))))) O O (by simp only [Zq];rfl)<|qf O<|qf O<|qd<|qi<|qg<|q0 O<|q0 O<|Zr (r:=max (max (w64 (a.X - b.At.X)) (w64 (0 - (w64 (a.X - b.At.X))))) (max (w64 (a.Y - b.At.Y)) (w64 (0 - (w64 (a.Y - b.At.Y)))))) O O (by simp only [Zq];rfl) ?_;refine U _ O<|U _ O<|U _ O<|qd ?_;refine qt O g (fun _ g=>?_) (fun _ g=>?_)
    ·refine Qn ?_;obtain rfl:=qw g;exact ⟨_,O,wkA [] [] []⟩
    refine qv<|qg<|qf O<|qd<|qi<|q9 g fun ae c g=>?_;refine K3 (fun l=>l = ae) (fun l=>⟨[(0,.yld 3),(2,.ref 2 2 0 0),(5,.ref 4 5 0 0),(6,.d (qk (max (w64 (a.X - b.At.X)) (w64 (0 - (w64 (a.X - b.At.X))))))),(7,.d (qk (max (w64 (a.Y - b.At.Y)) (w64 (0 - (w64 (a.Y - b.At.Y))))))),(8,qe l),(9,.d (.sl 5 (f.map Ye))),(10,qe (f.length : Int)),(11,qe h.1)],[(0,.dat 1 [[qk h.2]]),(1,.dat 1 [[.sl 5 (f.map Ye)]]),(2,.dat 2 [(qq a)]),(3,.loop [(4,qe 0),(5,.ref 0 1 0 0),(10,.fn 131 [.ref 1 1 0 0,.ref 2 2 0 0])] [11,12] A58 B59 .ready none),(4,.dat 5 [(Ye b)])],5⟩) qb ?_ ?_
    ·refine qg<|U _ O<|U _ O<|U _ O<|qf O<|qd ?_;refine qt O c (fun _ c=>?_) (fun _ c=>?_)
     ·refine Q9<|qf O<|Q8 ?_;obtain rfl:=qw c;exact ⟨_,O,wkA [(4,4)] [] []⟩
     refine qg<|U _ O<|U _ O<|U _ O<|qf O<|qd ?_;refine qt O c (fun _ c=>?_) (fun _ c=>?_)
     ·refine Q9<|qf O<|Q8 ?_;obtain rfl:=qw c;exact ⟨_,O,wkA [(4,4)] [] []⟩
     refine qg<|U _ O<|U _ O<|U _ O<|q0 O<|q0 O<|U _ O<|U _ O<|q9 c fun af m c=>?_;refine Qk 5 (fun A st=>∃ t u v w,st = A [(61,Q6 af),(60,w),(59,v),(58,u),(57,t)]) ?_ ?_
     ·refine Qj O O m (fun m=>?_) (fun m=>?_)
      ·refine q0 O<|q0 O<|U _ O<|U _ O<|qd ?_;cases m;exact ⟨_,_,_,_,O⟩
      refine qc O<|qc O<|qc O<|U _ O<|qd ?_;cases m;exact ⟨_,_,_,_,O⟩
     rintro _ ⟨t,u,v,w,rfl⟩;refine qf O<|qd ?_;refine qt O c (fun _ c=>?_) (fun _ c=>?_)
     ·refine Q9<|qf O<|Q8 ?_;obtain rfl:=qw c;exact ⟨_,O,wkA [(4,4)] [] []⟩
     refine qg<|q0 O<|q0 O<|U _ O<|qf O<|qd ?_;refine qt O c (fun _ c=>?_) (fun _ c=>?_)
     ·refine Q9<|qf O<|Q8 ?_;obtain rfl:=qw c;exact ⟨_,O,wkA [(4,4)] [] []⟩
     refine qv<|Qf ?_;obtain rfl:=qw c;exact ⟨_,O,wkA [(4,4)] [] []⟩
    intro l hb;subst hb;refine qg<|q0 O<|U _ O<|q0 O<|U _ O<|U _ O<|U _ O<|U _ O<|U _ O<|U _ O<|q0 O<|q0 O<|Zr (r:=max (max (w64 (a.X - b.At.X)) (w64 (0 - (w64 (a.X - b.At.X))))) (max (w64 (a.Y - b.At.Y)) (w64 (0 - (w64 (a.Y - b.At.Y)))))) O O (by simp only [Zq];rfl)<|U _ O<|U _ O<|q9 g fun ag ah g=>?_;refine qms (fun s=>s = ag) (fun s=>⟨[(0,.yld 3),(2,.ref 2 2 0 0),(9,.d (.sl 5 (f.map Ye))),(10,qe (f.length : Int)),(11,qe h.1),(80,Q6 true)],[(0,.dat 1 [[qk (w64 (h.2 + (w64 ((w64 (l * b.Weight)) * (w64 ((w64 (b.Reach + 1)) - (max (max (w64 (a.X - b.At.X)) (w64 (0 - (w64 (a.X - b.At.X))))) (max (w64 (a.Y - b.At.Y)) (w64 (0 - (w64 (a.Y - b.At.Y))))))))))))]]),(1,.dat 1 [[.sl 5 (f.map Ye)]]),(2,.dat 2 [(qq a)]),(3,.loop [(4,qe 0),(5,.ref 0 1 0 0),(10,.fn 131 [.ref 1 1 0 0,.ref 2 2 0 0])] [11,12] A58 B59 .ready none)],4⟩) hA58 hB59 O O O O O O ?_ ?_
    ·refine Q9<|qf O<|Q8 ?_;refine ⟨O,_,O,?_⟩;refine Qe<|Q9<|U _ O<|q0 O<|U _ O<|Qy 0 _ O<|Q8<|Qp<|Qf ?_;refine ⟨_,O,?_⟩;obtain rfl:=qw ah;exact ⟨_,O,wkA [] [] []⟩
    intro s hb;subst hb;refine U _ O<|qd<|Ud O<|qv<|Qf ?_;obtain rfl:=qw g;exact ⟨_,O,wkA [] [] []⟩
   intro o hb;subst hb;refine Q9<|U _ O<|q0 O<|Q8<|⟨_,qu j,wkA [] [] []⟩
  refine Qn ?_;refine ⟨_,qu j,fun hm=>?_⟩;subst hm;refine ⟨.inl O,_,O,_,_,.nor,O,qy,?_⟩;refine qih<|Qf ?_;obtain rfl:=qw q;exact ⟨_,O,wkA [(0,0)] [] []⟩
 intro n st hb hw;subst hb;refine Zs hw ?_ qb;refine qg<|U _ O<|qf O<|Qa ?_;cases k;exact Qs _ O
theorem qtd (b : List Zi) (c : qa) (r : Int) (a : q7z b c = some r) : Pure Tryz.prog tab 88 [.sl 5 (b.map Ye),.agg (qq c)] (.int .u8 r):=by
 unfold q7z at a;refine K6 Tryz.func88 O qm qm O<|qg<|Qw _ _ O<|qf O<|qd<|qi<|qg<|q0 O<|U _ O<|q9 a fun d f a=>Qi (qte b c d f) O<|qf O<|qd<|Qe<|qg<|q0 O<|U _ O<|qf O<|qd ?_;refine qt O a (fun _ a=>?_) (fun _ a=>?_)
 ·refine qg<|qf O<|Qa ?_;cases a;exact Qs _ O
 refine qg<|q0 O<|U _ O<|qf O<|qd ?_;refine qt O a (fun _ a=>?_) (fun _ a=>?_)
 ·refine qg<|qf O<|Qa ?_;cases a;exact Qs _ O
 refine qv<|Qf<|Qp<|qg<|qf O<|Qa ?_;cases a;exact Qs _ O
theorem qtc (f : List Zi) (p : qa) (q : Int) (g : Int) (r : List qa × Int) (b : q41 f p q g = some r) : Pure Tryz.prog tab 68 [.sl 5 (f.map Ye),.agg (qq p),.int .u8 q,qk g] (.tup [.sl 2 (r.1.map qq),qk r.2]):=by
 unfold q41 at b;refine K6 Tryz.func68 O qm qm O<|qg<|Qw _ _ O<|qf O<|qf O<|qd<|qi<|qg<|q0 O<|q9 b fun r1 h2 b=>Qi (qk9 f r1 h2) O<|qf O<|qx<|q0 O<|U _ O<|qd ?_;refine qt O b (fun _ b=>?_) (fun _ b=>?_)
 ·refine qg<|q0 O<|qf O<|qf O<|Qa ?_;obtain rfl:=qw b;exact finD (.inr O) O O (Zu (.cons (.nil _) (.cons (.refl _) .nil)))
 refine qv<|qi<|qg<|U _ O<|q9 b fun r3 h4 b=>Qi (qfr p r3 h4) O<|U _ O<|q9 b fun c5 h b=>?_;refine Qk 4 (fun A st=>∃ s t u,st = A [(25,Q6 c5),(24,u),(23,t),(22,s)]) ?_ ?_
 ·refine Qj O O h (fun h=>?_) (fun h=>?_)
  ·refine qc O<|qc O<|U _ O<|qd ?_;cases h;exact ⟨_,_,_,O⟩
  refine q0 O<|U _ O<|U _ O<|qd ?_;cases h;exact ⟨_,_,_,O⟩
 rintro _ ⟨s,t,u,rfl⟩;refine q9 b fun aq j b=>?_;refine Qk 4 (fun A st=>∃ v w x,st = A [(29,Q6 aq),(28,x),(27,w),(26,v)]) ?_ ?_
 ·refine Qj O O j (fun j=>?_) (fun j=>?_)
  ·refine qc O<|qc O<|U _ O<|qd ?_;cases j;exact ⟨_,_,_,O⟩
  refine q0 O<|U _ O<|U _ O<|qd ?_;cases j;exact ⟨_,_,_,O⟩
 rintro _ ⟨v,w,x,rfl⟩;refine q9 b fun ar k b=>?_;refine Qk 4 (fun A st=>∃ y z aa,st = A [(33,Q6 ar),(32,aa),(31,z),(30,y)]) ?_ ?_
 ·refine Qj O O k (fun k=>?_) (fun k=>?_)
  ·refine qc O<|qc O<|U _ O<|qd ?_;cases k;exact ⟨_,_,_,O⟩
  refine q0 O<|U _ O<|U _ O<|qd ?_;cases k;exact ⟨_,_,_,O⟩
 rintro _ ⟨y,z,aa,rfl⟩;refine qd ?_;refine qt O b (fun _ b=>?_) (fun _ b=>?_)
 ·refine qg<|qf O<|qf O<|Qa ?_;obtain rfl:=qw b;exact finD (.inr O) O O (Zu (.cons (.nil _) (.cons (.refl _) .nil)))
 refine qv<|qg<|U _ O<|U _ O<|U _ O<|U _ O<|U _ O<|K5 O O<|Qy 1 _ O<|qx<|U _ O<|Qw _ _ O<|qf O<|qd<|qi<|qg<|q0 O<|q0 O<|qd<|q9 b fun ab au b=>?_;refine K3 (fun l=>.inl l = ab) (fun l=>⟨[(12,.hs 0 2 0 l.length)],[(0,.dat 2 (l.map qq))],1⟩) qb ?_ ?_
 ·refine Qv (q58 g f) (fun c=>⟨[(0,.d (.sl 5 (f.map Ye))),(2,.d (.int .u8 c.1)),(5,.ref 0 2 0 0),(11,.ref 1 8 0 0),(12,.hs 2 2 0 c.2.2.2.2.length),(41,qe g),(42,qe c.2.1)],[(0,.dat 2 [[qk c.2.2.1,qk c.2.2.2.1]]),(1,.dat 8 [[({X:=1,Y:=0} : qa),({X:=0,Y:=1} : qa),({X:=(-1),Y:=0} : qa),({X:=0,Y:=(-1)} : qa)].flatMap qq]),(2,.dat 2 (c.2.2.2.2.map qq))],3⟩) _ ab au (wkA [(0,0),(1,1),(2,2)] [] []) ?_;intro c bc a;unfold q58 at a;refine qg<|U _ O<|qd<|qi ?_;refine qt O a (fun _ a=>?_) (fun _ a=>?_)
  ·refine qv<|qi<|Qe<|qi<|qg<|q0 O<|U _ O<|q9 a fun av aw a=>Qi (qtd f ({X:=c.2.2.1,Y:=c.2.2.2.1} : qa) av aw) O<|qf O<|qx<|q0 O<|U _ O<|q9 a fun ax m a=>?_;refine Qk 6 (fun A st=>∃ ac ad ae af ag,st = A [(54,Q6 ax),(53,ag),(52,af),(51,ae),(50,ad),(49,ac)]) ?_ ?_
   ·refine Qj O O m (fun m=>?_) (fun m=>?_)
    ·refine q0 O<|U _ O<|q0 O<|U _ O<|U _ O<|qd ?_;cases m;exact ⟨_,_,_,_,_,O⟩
    refine qc O<|qc O<|qc O<|qc O<|U _ O<|qd ?_;cases m;exact ⟨_,_,_,_,_,O⟩
   rintro _ ⟨ac,ad,ae,af,ag,rfl⟩;refine qd<|q9 a fun ay n a=>?_;refine Y4 (fun o=>o = ay) (fun o=>⟨[(0,.d (.sl 5 (f.map Ye))),(2,.d (.int .u8 o)),(5,.ref 0 2 0 0),(11,.ref 1 8 0 0),(12,.hs 2 2 0 c.2.2.2.2.length),(41,qe g),(42,qe c.2.1)],[(0,.dat 2 [[qk c.2.2.1,qk c.2.2.2.1]]),(1,.dat 8 [[({X:=1,Y:=0} : qa),({X:=0,Y:=1} : qa),({X:=(-1),Y:=0} : qa),({X:=0,Y:=(-1)} : qa)].flatMap qq]),(2,.dat 2 (c.2.2.2.2.map qq))],3⟩) qb ?_ ?_
   ·refine qt O n (fun _ n=>?_) (fun _ n=>?_)
    ·refine Q9<|q0 O<|U _ O<|U _ O<|qf O<|Q8 ?_;obtain rfl:=qw n;exact ⟨_,O,wkA [(0,0),(1,1),(2,2)] [] []⟩
    refine qv<|Qf ?_;obtain rfl:=qw n;exact ⟨_,O,wkA [(0,0),(1,1),(2,2)] [] []⟩
   intro o hb;subst hb;refine qi<|Qg [Ql 0,q8,q8,qs 1,q8,q8,q8,qs 0,q8,q8,qs 1,q8,q8,q8,qs 0,q8] qm<|U _ O<|U _ O<|q0 O<|q9 a fun ah ai a=>q5t ai O O O O O<|U _ O<|qmo (enc:=qq) (qe ah.X) ai (fun _=>rfl) O O O O O O<|U _ O<|U _ O<|U _ O<|q0 O<|q9 a fun aj ak a=>q5t ak O O O O O<|U _ O<|qmo (enc:=qq) (qe aj.Y) ak (fun _=>rfl) O O O O O O<|U _ O<|U _ O<|Qy 0 _ O<|qd<|qi<|qg<|U _ O<|q9 a fun az ba a=>Qi (qfr ({X:=w64 (c.2.2.1 + ah.X),Y:=w64 (c.2.2.2.1 + aj.Y)} : qa) az ba) O<|U _ O<|qd ?_;refine qt O a (fun _ a=>?_) (fun _ a=>?_)
   ·refine qg<|qf O<|qf O<|Qa ?_;refine ⟨_,qu a,fun hm=>?_⟩;subst hm;obtain rfl:=qw b;exact finD (.inr O) O O (Zu (.cons (.nil _) (.cons (.refl _) .nil)))
   refine qv<|Q9<|q0 O<|U _ O<|Qw _ _ O<|q9 a fun bd bb a=>Ub _ bb O O O O O O O (q2u O O) O O O O<|qf O<|Q8<|Qp<|Q9<|U _ O<|q0 O<|Q8<|⟨_,qu a,wkA [(0,0),(1,1),(2,4)] [] []⟩
  refine Qn ?_;refine ⟨_,qu a,fun hm=>?_⟩;subst hm;exact ⟨_,O,wkA [(0,2)] [] []⟩
 intro l hb;subst hb;refine qg<|q0 O<|qf O<|qf O<|Qa ?_;obtain rfl:=qw b;exact finD (.inr O) O (qi1 (Za (Zb O O) (Za O O))) (.refl _)
theorem q11j (b : List qa) (f : qa) (r : Int) (c : q9i b f = some r) : Pure Tryz.prog tab 69 [.sl 2 (b.map qq),.agg (qq f)] (qk r):=by
 unfold q9i at c;refine K6 Tryz.func69 O qm qm O<|qg<|Qw _ _ O<|qf O<|qd<|qi<|qg<|q0 O<|Kr O<|q0 O<|qd<|q9 c fun h k c=>?_;refine K3 (fun g=>.inl g = h) (fun g=>⟨[],[],0⟩) qb ?_ ?_
 ·refine Qv (q2k b f) (fun j=>⟨[(0,.d (.sl 2 (b.map qq))),(3,.ref 0 2 0 0),(7,qe (b.length : Int)),(8,qe j)],[(0,.dat 2 [(qq f)])],1⟩) _ h k (wkA [(0,0)] [] []) ?_;intro j m a;unfold q2k at a;refine qg<|U _ O<|qd<|qi ?_;refine qt O a (fun _ a=>?_) (fun _ a=>?_)
  ·refine qv<|qi<|Qe<|qg<|q0 O<|qf O<|qd<|qi<|Qg [q8,q8,q8,q8,q8,qs 0] qm<|U _ O<|q0 O<|q0 O<|q9 a fun n l a=>Ky l O<|U _ O<|U _ O<|qd ?_;refine qt O a (fun _ a=>?_) (fun _ a=>?_)
   ·refine qg<|q0 O<|qf O<|Qa ?_;refine ⟨_,qu a,fun hm=>?_⟩;subst hm;cases c;exact Qs _ O
   refine qv<|Qf<|Qp<|Q9<|U _ O<|q0 O<|Q8<|⟨_,qu a,wkA [(0,0)] [] []⟩
  refine Qn ?_;refine ⟨_,qu a,fun hm=>?_⟩;subst hm;exact ⟨_,O,wkA [] [] []⟩
 intro g hb;subst hb;refine qg<|qf O<|Qa ?_;cases c;exact Qs _ O
theorem q13e (k : List Zi) (g : Yu) (t : List qr) (u : List (qa × Bool)) (r : Int × (List (qa × Bool)) × List qr) (l : q4x  k g t u = some r) : K1 Tryz.prog tab 49 [.d (.sl 5 (k.map Ye)),.d (.agg [qk (((g).At).X),qk (((g).At).Y),.int .u8 ((g).Head),qk ((g).Steps)]),.hs 0 4 0 t.length,.mp 1] [(0,.dat 4 (t.map Kc)),(1,.mp false (Qt (fun n : qa=>DV.agg (qq n)) DV.bool u))] 2 (.tup [.hs 2 4 0 r.2.2.length,qe r.1]) [(1,.mp false (Qt (fun n : qa=>DV.agg (qq n)) DV.bool r.2.1)),(2,.dat 4 (r.2.2.map Kc))] 3:=by
 unfold q4x at l;refine Kh Tryz.func49 O qm qm O<|qg<|Qw _ _ O<|qf O<|qf O<|qd<|qi<|Qg [q8,Ql 3,(some [],[3]),qs 2,q8,qs 2,q8] qm<|U _ O<|U _ O<|U _ O<|U _ O<|K5 O O<|Qy 3 _ O<|qf O<|qd<|qi<|qg<|U _ O<|U _ O<|q0 O<|qd<|q9 l fun v aj l=>?_;refine K3 (fun m=>.inl m = v) (fun m=>⟨[(2,.hs 2 4 0 m.2.length)],[(1,.mp false (Qt (fun n : qa=>DV.agg (qq n)) DV.bool m.1)),(2,.dat 4 (m.2.map Kc))],3⟩) qb ?_ ?_
 ·refine Qv (Zx g k) (fun f=>⟨[(0,.d (.sl 5 (k.map Ye))),(2,.hs 2 4 0 f.2.2.2.1.length),(3,.mp 1),(5,.ref 3 4 0 0),(10,.ref 4 2 0 0),(11,.d (.int .u8 f.1)),(23,.d (qk ((g).Steps))),(24,qe f.2.1)],[(1,.mp false (Qt (fun n : qa=>DV.agg (qq n)) DV.bool f.2.2.1)),(2,.dat 4 (f.2.2.2.1.map Kc)),(3,.dat 4 [[qk (((g).At).X),qk (((g).At).Y),.int .u8 ((g).Head),qk ((g).Steps)]]),(4,.dat 2 [[qk f.2.2.2.2.1,qk f.2.2.2.2.2]])],5⟩) _ v aj (wkA [(2,0),(3,2),(4,3)] [] []) ?_;intro f av c;unfold Zx at c;refine qg<|U _ O<|qd<|qi ?_;refine qt O c (fun _ c=>?_) (fun _ c=>?_)
  ·refine qv<|qi<|Qe<|qg<|q0 O<|qf O<|qx<|q0 O<|U _ O<|q0 O<|q9 c fun ak al c=>Qi (qtc k ({X:=f.2.2.2.2.1,Y:=f.2.2.2.2.2} : qa) f.1 1 ak al) O<|q0 O<|U _ O<|U _ O<|qf O<|qf O<|qd<|qi<|qg<|q0 O<|U _ O<|qd ?_;refine qt O c (fun _ c=>?_) (fun _ c=>?_)
   ·refine qg<|q0 O<|qf O<|qf O<|Qa ?_;refine ⟨_,qu c,fun hm=>?_⟩;subst hm;obtain rfl:=qw l;exact ⟨.inr O,_,O,wkA [] [] [2]⟩
   refine qv<|qg<|q0 O<|q9 c fun j am c=>Ky am O<|U _ O<|K5 O O<|Qy 5 _ O<|qx<|U _ O<|U _ O<|U _ O<|U _ O<|Qw _ _ O<|U _ O<|U _ O<|U _ O<|U _ O<|U _ O<|U _ O<|U _ O<|U _ O<|U _ O<|U _ O<|U _ O<|q9 c fun w an c=>Uc [.hs 6 2 0 [({X:=1,Y:=0} : qa),({X:=0,Y:=1} : qa),({X:=(-1),Y:=0} : qa),({X:=0,Y:=(-1)} : qa)].length,.d (.agg [qk (w64 (j.X - f.2.2.2.2.1)),qk (w64 (j.Y - f.2.2.2.2.2))])] (q11j [({X:=1,Y:=0} : qa),({X:=0,Y:=1} : qa),({X:=(-1),Y:=0} : qa),({X:=0,Y:=(-1)} : qa)] ({X:=w64 (j.X - f.2.2.2.2.1),Y:=w64 (j.Y - f.2.2.2.2.2)} : qa) w an) O O (Yd (Zb O O) (Yd O O)) (.inr O)<|U _ O<|qf O<|qd<|qi<|qg<|q0 O<|U _ O<|q9 c fun ao o c=>?_;refine Qk 5 (fun A st=>∃ x y z aa,st = A [(64,Q6 ao),(63,aa),(62,z),(61,y),(60,x)]) ?_ ?_
   ·refine Qj O O o (fun o=>?_) (fun o=>?_)
    ·refine q0 O<|q0 O<|U _ O<|U _ O<|qd ?_;cases o;exact ⟨_,_,_,_,O⟩
    refine qc O<|qc O<|qc O<|U _ O<|qd ?_;cases o;exact ⟨_,_,_,_,O⟩
   rintro _ ⟨x,y,z,aa,rfl⟩;refine qd<|q9 c fun ap h c=>?_;refine Y4 (fun q=>.inl q = ap) (fun q=>⟨[(0,.d (.sl 5 (k.map Ye))),(2,.hs 2 4 0 q.length),(3,.mp 1),(5,.ref 3 4 0 0),(10,.ref 4 2 0 0),(15,.ref 5 2 0 0),(16,.d (.int .u8 (IntKind.wrap .u8 w))),(23,.d (qk ((g).Steps))),(24,qe f.2.1)],[(1,.mp false (Qt (fun n : qa=>DV.agg (qq n)) DV.bool f.2.2.1)),(2,.dat 4 (q.map Kc)),(3,.dat 4 [[qk (((g).At).X),qk (((g).At).Y),.int .u8 ((g).Head),qk ((g).Steps)]]),(4,.dat 2 [[qk f.2.2.2.2.1,qk f.2.2.2.2.2]]),(5,.dat 2 [(qq j)])],6⟩) qb ?_ ?_
   ·refine qt O h (fun _ h=>?_) (fun _ h=>?_)
    ·refine Q9<|q0 O<|q0 O<|U _ O<|U _ O<|U _ O<|q9 h fun aq ab h=>qp ab O O<|U _ O<|Qr ({A:=aq.A,B:=j} : qr) ab O O O O O O O O (leb O) O<|Q8 ?_;obtain rfl:=qw h;exact ⟨_,O,wkE [(2,2),(3,3),(4,4),(5,5)] [] [] O ⟨ql O,⟨_,O,Qz qb O qy (ltd O)⟩,⟨_,O,.mp O qy (ltd O)⟩,⟨_,O,.ref O qy (ltd O)⟩,⟨_,O,.ref O qy (ltd O)⟩,⟨_,O,.ref O qy (ltd O)⟩,ql O,ql O,ql O,trivial⟩ ⟨⟨ltd O,.inr ⟨qy,_,O,.mpP (.refl _)⟩⟩,Qo O O,Qo O O,Qo O O,Qo O O,trivial⟩⟩
    refine qg<|q0 O<|U _ O<|U _ O<|U _ O<|Qw _ _ O<|q9 h fun aw ar h=>Ub _ ar O O O O O O O (q2u O O) O O O O<|qf O<|qx<|q0 O<|U _ O<|U _ O<|qd ?_;refine qt O h (fun _ h=>?_) (fun _ h=>?_)
    ·refine qg<|qf O<|qf O<|Qa ?_;obtain rfl:=qw h;refine ⟨_,qu c,fun hm=>?_⟩;subst hm;obtain rfl:=qw l;exact ⟨.inr O,_,O,wkA [] [] [2]⟩
    refine qv<|Qf ?_;obtain rfl:=qw h;exact ⟨_,O,wkA [(2,8),(3,3),(4,4),(5,5)] [] []⟩
   intro q hb;subst hb;refine qg<|q0 O<|U _ O<|qgu (ek:=(fun n : qa=>DV.agg (qq n))) (ev:=DV.bool) (es:=f.2.2.1) (keyS (fun p : qa=>p.X) (fun p=>p.Y) (fun a b h1 h2=>by cases a;cases b;simp_all)) false j O O O O O O O<|q9 c fun au s c=>?_;refine Qk 6 (fun A st=>∃ ae af ag ah ai,st = A [(89,Q6 au),(88,ai),(87,ah),(86,ag),(85,af),(84,ae)]) ?_ ?_
   ·refine Qj O O s (fun s=>?_) (fun s=>?_)
    ·refine qc O<|qc O<|qc O<|qc O<|U _ O<|qd ?_;cases s;exact ⟨_,_,_,_,_,O⟩
    refine U _ O<|U _ O<|U _ O<|U _ O<|U _ O<|qd ?_;cases s;exact ⟨_,_,_,_,_,O⟩
   rintro _ ⟨ae,af,ag,ah,ai,rfl⟩;refine qf O<|qd<|qi<|Qg [Ql 1,Ql 1,qs 5,q8,qs 4,q8] qm<|q0 O<|U _ O<|q0 O<|U _ O<|q39 (ek:=(fun n : qa=>DV.agg (qq n))) (ev:=DV.bool) (es:=f.2.2.1) (keyS (fun p : qa=>p.X) (fun p=>p.Y) (fun a b h1 h2=>by cases a;cases b;simp_all)) ({X:=f.2.2.2.2.1,Y:=f.2.2.2.2.2} : qa) true O O O O O O O O<|q39 (ek:=(fun n : qa=>DV.agg (qq n))) (ev:=DV.bool) (es:=(Ka ({X:=f.2.2.2.2.1,Y:=f.2.2.2.2.2} : qa) true f.2.2.1)) (keyS (fun p : qa=>p.X) (fun p=>p.Y) (fun a b h1 h2=>by cases a;cases b;simp_all)) j true O O O O O O O O<|qx<|U _ O<|q0 O<|Qy 4 _ O<|qf O<|qx<|q0 O<|qd ?_;refine qt O c (fun _ c=>?_) (fun _ c=>?_)
   ·refine Qn ?_;refine ⟨_,qu c,fun hm=>?_⟩;subst hm;exact ⟨_,O,wkA [(2,2)] [] []⟩
   refine qv<|Qf<|Qp<|Q9<|U _ O<|q0 O<|Q8<|⟨_,qu c,wkA [(2,2),(3,3),(4,4)] [] []⟩
  refine Qn ?_;refine ⟨_,qu c,fun hm=>?_⟩;subst hm;exact ⟨_,O,wkA [(2,2)] [] []⟩
 intro m hb;subst hb;refine qg<|q0 O<|qf O<|qf O<|Qa ?_;obtain rfl:=qw l;exact ⟨.inr O,_,O,wkA [(2,2)] [] []⟩
theorem q7a (c : List qr) (r : Qh × Int) (a : J5 c = some r) : Pure Tryz.prog tab 28 [.sl 4 (c.map Kc)] (.tup [.agg [.sl 2 (r.1.Nodes.map qq),.sl 2 (r.1.Edges.map Q7)],qk r.2]):=by
 unfold J5 at a;refine K6 Tryz.func28 O qm qm O<|qg<|K5 O O<|qf O<|qd<|qi<|qg<|q0 O<|Kr O<|U _ O<|qd ?_;refine qt O a (fun _ a=>?_) (fun _ a=>?_)
 ·refine qg<|U _ O<|Qy 0 _ O<|qf O<|Qa ?_;obtain rfl:=qw a;exact finD (.inr O) O O (Zu (.cons (q2v (.cons (.nil _) (.cons (.nil _) .nil))) (.cons (.refl _) .nil)))
 refine qv<|qi<|qg<|q0 O<|Kr O<|q0 O<|qd<|q9 a fun g j a=>?_;refine K3 (fun f=>.inl f = g) (fun f=>⟨[(0,.d (.sl 4 (c.map Kc))),(2,.ref 0 2 0 0)],[(0,.dat 2 [[.nilsl,.nilsl]])],1⟩) qb ?_ ?_
 ·refine Qv (q79 c) (fun h=>⟨[(0,.d (.sl 4 (c.map Kc))),(2,.ref 0 2 0 0),(12,.d (.sl 4 (c.map Kc))),(13,qe (c.length : Int)),(14,qe h)],[(0,.dat 2 [[.nilsl,.nilsl]])],1⟩) _ g j (wkA [(0,0)] [] []) ?_;intro h q b;unfold q79 at b;refine qg<|U _ O<|qd<|qi ?_;refine qt O b (fun _ b=>?_) (fun _ b=>?_)
  ·refine qv<|qi<|Qe<|qg<|q9 b fun k l b=>Ky l O<|U _ O<|K5 O O<|Qy 1 _ O<|qx<|U _ O<|q9 b fun m n b=>Qi (qp3 k m n) O<|U _ O<|qd ?_;refine qt O b (fun _ b=>?_) (fun _ b=>?_)
   ·refine qg<|U _ O<|Qy 0 _ O<|qf O<|Qa ?_;refine ⟨_,qu b,fun hm=>?_⟩;subst hm;obtain rfl:=qw a;exact finD (.inr O) O O (Zu (.cons (q2v (.cons (.nil _) (.cons (.nil _) .nil))) (.cons (.refl _) .nil)))
   refine qv<|Qf<|Qp<|Q9<|U _ O<|q0 O<|Q8<|⟨_,qu b,wkA [(0,0)] [] []⟩
  refine Qn ?_;refine ⟨_,qu b,fun hm=>?_⟩;subst hm;exact ⟨_,O,wkA [(0,0)] [] []⟩
 intro f hb;subst hb;refine qg<|q0 O<|q9 a fun o p a=>Qi (qp2 c o p) O<|q0 O<|U _ O<|U _ O<|K5 O O<|Qy 1 _ O<|qf O<|qd<|qi<|qg<|q0 O<|U _ O<|qd ?_;refine qt O a (fun _ a=>?_) (fun _ a=>?_)
 ·refine qg<|U _ O<|Qy 0 _ O<|qf O<|Qa ?_;obtain rfl:=qw a;exact finD (.inr O) O O (Zu (.cons (q2v (.cons (.nil _) (.cons (.nil _) .nil))) (.cons (.refl _) .nil)))
 refine qv<|qg<|U _ O<|Qy 0 _ O<|qf O<|Qa ?_;cases a;exact Qs _ O
theorem q136 (k : List Zi) (h : List Yu) (r : Qh × Int) (b : qbv k h = some r) : Pure Tryz.prog tab 24 [.sl 5 (k.map Ye),.sl 4 (h.map q2y)] (.tup [.agg [.sl 2 (r.1.Nodes.map qq),.sl 2 (r.1.Edges.map Q7)],qk r.2]):=by
 unfold qbv at b;refine K6 Tryz.func24 O qm qm O<|qg<|K5 O O<|qf O<|qd<|qi<|qg<|q0 O<|q9 b fun u h2 b=>Qi (qk9 k u h2) O<|qf O<|qx<|q0 O<|U (Q6 (u != 0)) O<|qd ?_;refine qt O b (fun _ b=>?_) (fun _ b=>?_)
 ·refine qg<|U (.d (.agg [.nilsl,.nilsl])) O<|q0 O<|Qy 0 (.dat 2 [[.nilsl,.nilsl]]) O<|qf O<|Qa ?_;obtain rfl:=qw b;exact finD (.inr O) (v:=.d (.tup [.agg [.nilsl,.nilsl],qk u])) O O (Zu (.cons (q2v (.cons (.nil _) (.cons (.nil _) .nil))) (.cons (.refl _) .nil)))
 refine qv<|qi<|qg<|q0 O<|Kr O<|U (.d (.bool (decide ((h.length : Int) > 30)))) O<|qd ?_;refine qt O b (fun _ b=>?_) (fun _ b=>?_)
 ·refine qg<|U (.d (.agg [.nilsl,.nilsl])) O<|Qy 0 (.dat 2 [[.nilsl,.nilsl]]) O<|qf O<|Qa ?_;obtain rfl:=qw b;exact finD (.inr O) (v:=.d (.tup [.agg [.nilsl,.nilsl],qk 4])) O O (Zu (.cons (q2v (.cons (.nil _) (.cons (.nil _) .nil))) (.cons (.refl _) .nil)))
 refine qv<|qi<|qg<|q0 O<|Kr O<|q0 O<|qd<|q9 b fun x an b=>?_;refine K3 (fun w=>.inl w = x) (fun (w : Unit)=>⟨[(0,.d (.sl 5 (k.map Ye))),(1,.d (.sl 4 (h.map q2y))),(4,.ref 0 2 0 0)],[(0,.dat 2 [[.nilsl,.nilsl]])],1⟩) qb ?_ ?_
 ·refine Qv (q77 h) (fun (t : Int)=>⟨[(0,.d (.sl 5 (k.map Ye))),(1,.d (.sl 4 (h.map q2y))),(4,.ref 0 2 0 0),(24,.d (.sl 4 (h.map q2y))),(25,qe (h.length : Int)),(26,qe t)],[(0,.dat 2 [[.nilsl,.nilsl]])],1⟩) 0 x an (wkA [(0,0)] [] []) ?_;intro t az c;unfold q77 at c;refine qg<|U (.d (.bool (decide (t < (h.length : Int))))) O<|qd<|qi ?_;refine qt O c (fun _ c=>?_) (fun _ c=>?_)
  ·refine qv<|qi<|Qe<|qg<|q9 c fun f ao c=>Ky (enc:=q2y) ao O<|U (.d (.agg [qk f.At.X,qk f.At.Y,.int .u8 f.Head,qk f.Steps])) O<|K5 O O<|Qy 1 (.dat 4 [[qk f.At.X,qk f.At.Y,.int .u8 f.Head,qk f.Steps]]) O<|qx<|U (.ref 1 4 0 0) O<|U (.d (.agg [qk f.At.X,qk f.At.Y])) O<|q9 c fun y ap c=>Qi (qhw f.At y ap) O<|U (Q6 (!y)) O<|q9 c fun aq p c=>?_;refine Qk 5 (fun A st=>∃ (z aa ab ac : V),st = A [(38,Q6 aq),(37,ac),(36,ab),(35,aa),(34,z)]) ?_ ?_
   ·refine Qj O O p (fun p=>?_) (fun p=>?_)
    ·refine qc O<|qc O<|qc O<|U (Q6 true) O<|qd ?_;cases p;exact ⟨_,_,_,_,O⟩
    refine U (.ref 1 4 0 2) O<|U (.d (.int .u8 f.Head)) O<|U (.d (.bool (decide (f.Head > 3)))) O<|U (.d (.bool (decide (f.Head > 3)))) O<|qd ?_;cases p;exact ⟨_,_,_,_,O⟩
   rintro _ ⟨z,aa,ab,ac,rfl⟩;refine q9 c fun ar q c=>?_;refine Qk 5 (fun A st=>∃ (ad ae af ag : V),st = A [(43,Q6 ar),(42,ag),(41,af),(40,ae),(39,ad)]) ?_ ?_
   ·refine Qj O O q (fun q=>?_) (fun q=>?_)
    ·refine qc O<|qc O<|qc O<|U (Q6 true) O<|qd ?_;cases q;exact ⟨_,_,_,_,O⟩
    refine U (.ref 1 4 0 3) O<|U (qe f.Steps) O<|U (.d (.bool (decide (f.Steps < 0)))) O<|U (.d (.bool (decide (f.Steps < 0)))) O<|qd ?_;cases q;exact ⟨_,_,_,_,O⟩
   rintro _ ⟨ad,ae,af,ag,rfl⟩;refine q9 c fun au s c=>?_;refine Qk 5 (fun A st=>∃ (ah ai aj ak : V),st = A [(48,Q6 au),(47,ak),(46,aj),(45,ai),(44,ah)]) ?_ ?_
   ·refine Qj O O s (fun s=>?_) (fun s=>?_)
    ·refine qc O<|qc O<|qc O<|U (Q6 true) O<|qd ?_;cases s;exact ⟨_,_,_,_,O⟩
    refine U (.ref 1 4 0 3) O<|U (qe f.Steps) O<|U (.d (.bool (decide (f.Steps > 500)))) O<|U (.d (.bool (decide (f.Steps > 500)))) O<|qd ?_;cases s;exact ⟨_,_,_,_,O⟩
   rintro _ ⟨ah,ai,aj,ak,rfl⟩;refine qd ?_;refine qt O c (fun _ c=>?_) (fun _ c=>?_)
   ·refine qg<|U (.d (.agg [.nilsl,.nilsl])) O<|Qy 0 (.dat 2 [[.nilsl,.nilsl]]) O<|qf O<|Qa ?_;refine ⟨_,qu c,fun hm=>?_⟩;subst hm;obtain rfl:=qw b;exact finD (.inr O) (v:=.d (.tup [.agg [.nilsl,.nilsl],qk 8])) O O (Zu (.cons (q2v (.cons (.nil _) (.cons (.nil _) .nil))) (.cons (.refl _) .nil)))
   refine qv<|Qf<|Qp<|Q9<|U (.d (qk (w64 (t + 1)))) O<|q0 O<|Q8<|⟨_,qu c,wkA [(0,0)] [] []⟩
  refine Qn ?_;refine ⟨_,qu c,fun hm=>?_⟩;subst hm;exact ⟨_,O,wkA [(0,0)] [] []⟩
 intro w hb;subst hb;refine qg<|qf O<|qx<|Qw (.mp 1) (.mp true (Qt (fun n : qa=>DV.agg [qk n.X,qk n.Y]) DV.bool ([] : List (qa × Bool)))) O<|qf O<|qd<|qi<|qg<|q0 O<|Kr O<|q0 O<|qd<|q9 b fun al av b=>?_;refine K3 (fun o=>.inl o = al) (fun (o : List qr)=>⟨[(4,.ref 0 2 0 0),(9,.hs 1 4 0 o.length)],[(0,.dat 2 [[.nilsl,.nilsl]]),(1,.dat 4 (o.map Kc))],2⟩) qb ?_ ?_
 ·refine Qv (q3h h k) (fun (j : Int × List qr × (List (qa × Bool)))=>⟨[(0,.d (.sl 5 (k.map Ye))),(4,.ref 0 2 0 0),(9,.hs 1 4 0 j.2.1.length),(10,.mp 2),(52,.d (.sl 4 (h.map q2y))),(53,qe (h.length : Int)),(54,qe j.1)],[(0,.dat 2 [[.nilsl,.nilsl]]),(1,.dat 4 (j.2.1.map Kc)),(2,.mp false (Qt (fun n : qa=>DV.agg [qk n.X,qk n.Y]) DV.bool j.2.2))],3⟩) (0,[],[]) al av (wkA [(0,0),(2,1)] [] [1]) ?_;intro j ba g;unfold q3h at g;refine qg<|U (.d (.bool (decide (j.1 < (h.length : Int))))) O<|qd<|qi ?_;refine qt O g (fun _ g=>?_) (fun _ g=>?_)
  ·refine qv<|qi<|Qe<|qg<|q9 g fun a aw g=>Ky (enc:=q2y) aw O<|U (.d (.agg [qk a.At.X,qk a.At.Y,.int .u8 a.Head,qk a.Steps])) O<|K5 O O<|Qy 3 (.dat 4 [[qk a.At.X,qk a.At.Y,.int .u8 a.Head,qk a.Steps]]) O<|qx<|qf O<|qx<|q0 O<|U (.d (.agg [qk a.At.X,qk a.At.Y,.int .u8 a.Head,qk a.Steps])) O<|q0 O<|q0 O<|q9 g fun l ax g=>K2 [(0,1),(1,2)] [(0,3),(1,0),(2,1),(3,3),(4,2)] [.d (.sl 5 (k.map Ye)),.d (.agg [qk a.At.X,qk a.At.Y,.int .u8 a.Head,qk a.Steps]),.hs 1 4 0 j.2.1.length,.mp 2] (.tup [.hs 4 4 0 l.2.2.length,qe l.1]) 2 [(2,.mp false (Qt (fun n : qa=>DV.agg [qk n.X,qk n.Y]) DV.bool l.2.1)),(4,.dat 4 (l.2.2.map Kc)),(0,.dat 2 [[.nilsl,.nilsl]]),(3,.dat 4 [[qk a.At.X,qk a.At.Y,.int .u8 a.Head,qk a.Steps]])] 5 (q13e k a j.2.1 j.2.2 l ax)<|q0 O<|U (.hs 4 4 0 l.2.2.length) O<|U (qe l.1) O<|qf O<|qf O<|qx<|q0 O<|U (Q6 (l.1 != 0)) O<|qd ?_;refine qt O g (fun _ g=>?_) (fun _ g=>?_)
   ·refine qg<|U (.d (.agg [.nilsl,.nilsl])) O<|q0 O<|Qy 0 (.dat 2 [[.nilsl,.nilsl]]) O<|qf O<|Qa ?_;refine ⟨_,qu g,fun hm=>?_⟩;subst hm;obtain rfl:=qw b;exact finD (.inr O) (v:=.d (.tup [.agg [.nilsl,.nilsl],qk l.1])) O O (Zu (.cons (q2v (.cons (.nil _) (.cons (.nil _) .nil))) (.cons (.refl _) .nil)))
   refine qv<|Qf<|Qp<|Q9<|U (.d (qk (w64 (j.1 + 1)))) O<|q0 O<|Q8<|⟨_,qu g,wkA [(0,0),(1,4),(2,2)] [] []⟩
  refine Qn ?_;refine ⟨_,qu g,fun hm=>?_⟩;subst hm;exact ⟨_,O,wkA [(0,0),(1,1)] [] []⟩
 intro o hb;subst hb;refine qi ?_;refine Zs (st':=⟨[(4,.ref 0 2 0 0),(9,.d (.sl 4 (o.map Kc)))],[(0,.dat 2 [[.nilsl,.nilsl]])],1⟩) (wkA [(0,0)] [1] []) ?_ qb;refine Q9<|q0 O<|q9 b fun m ay b=>Qi (q7a o m ay) O<|U (.d (.agg [.sl 2 (m.1.Nodes.map qq),.sl 2 (m.1.Edges.map Q7)])) O<|U (qe m.2) O<|Qy 0 (.dat 2 [[.sl 2 (m.1.Nodes.map qq),.sl 2 (m.1.Edges.map Q7)]]) O<|qf O<|Qa ?_;obtain rfl:=qw b;exact Qs (.d (.tup [.agg [.sl 2 (m.1.Nodes.map qq),.sl 2 (m.1.Edges.map Q7)],qk m.2])) O
theorem qug (b : List qr) (r : Bool) (c : q87 b = some r) : Pure Tryz.prog tab 26 [.sl 4 (b.map Kc)] (.bool r):=by
 unfold q87 at c;refine K6 Tryz.func26 O qm qm O<|qg<|qf O<|qd<|qi<|qg<|qf O<|qd<|q9 c fun g j c=>?_;refine K3 (fun f=>.inl f = g) (fun f=>⟨[(0,.d (.sl 4 (b.map Kc)))],[],0⟩) qb ?_ ?_
 ·refine Qv (q35 b) (fun h=>⟨[(0,.d (.sl 4 (b.map Kc))),(3,qe h)],[],0⟩) _ g j (wkA [] [] []) ?_;intro h o a;unfold q35 at a;refine qi<|qg<|q0 O<|q0 O<|Kr O<|U _ O<|qd ?_;refine qt O a (fun _ a=>?_) (fun _ a=>?_)
  ·refine qv<|qi<|Qe<|qg<|q0 O<|q0 O<|q9 a fun k l a=>Ky l O<|U _ O<|q9 a fun m n a=>Qi (qz2 k m n) O<|U _ O<|qd ?_;refine qt O a (fun _ a=>?_) (fun _ a=>?_)
   ·refine qg<|qf O<|Qa ?_;refine ⟨_,qu a,fun hm=>?_⟩;subst hm;cases c;exact Qs _ O
   refine qv<|Qf<|Qp<|Q9<|q0 O<|U _ O<|qf O<|Q8<|⟨_,qu a,wkA [] [] []⟩
  refine Qn ?_;refine ⟨_,qu a,fun hm=>?_⟩;subst hm;exact ⟨_,O,wkA [] [] []⟩
 intro f hb;subst hb;refine qg<|q0 O<|Kr O<|U _ O<|qf O<|Qa ?_;cases c;exact Qs _ O
theorem Yh (a : Int) (b : Int) (r : qa) (c : Ya a b = some r) : Pure Tryz.prog tab 31 [qk a,qk b] (.agg (qq r)):=by
 unfold Ya at c;refine K6 Tryz.func31 O qm qm O<|qg<|K5 O O<|qx<|q0 O<|q0 O<|U _ O<|Qy 0 _ O<|Qa ?_;cases c;exact Qs _ O
theorem q48 (b : Int) (c : Int) (d : Int) (f : Int) (r : qr) (a : q1m b c d f = some r) : Pure Tryz.prog tab 33 [qk b,qk c,qk d,qk f] (.agg (Kc r)):=by
 unfold q1m at a;refine K6 Tryz.func33 O qm qm O<|qg<|K5 O O<|qx<|q0 O<|q0 O<|q9 a fun g h a=>Qi (Yh b c g h) O<|q0 O<|q0 O<|q9 a fun j k a=>Qi (Yh d f j k) O<|U _ O<|Qy 0 _ O<|Qa ?_;cases a;exact Qs _ O
theorem qz0 (c : List qa) (f : qa) (r : Int) (b : q8x c f = some r) : Pure Tryz.prog tab 55 [.sl 2 (c.map qq),.agg (qq f)] (qk r):=by
 unfold q8x at b;refine K6 Tryz.func55 O qm qm O<|qg<|Qw _ _ O<|qf O<|qd<|qi<|qg<|qf O<|qd<|q9 b fun h k b=>?_;refine K3 (fun g=>.inl g = h) (fun g=>⟨[],[],0⟩) qb ?_ ?_
 ·refine Qv (q5w c f) (fun j=>⟨[(0,.d (.sl 2 (c.map qq))),(3,.ref 0 2 0 0),(5,qe j)],[(0,.dat 2 [(qq f)])],1⟩) _ h k (wkA [(0,0)] [] []) ?_;intro j m a;unfold q5w at a;refine qi<|qg<|q0 O<|q0 O<|Kr O<|U _ O<|qd ?_;refine qt O a (fun _ a=>?_) (fun _ a=>?_)
  ·refine qv<|qi<|Qe<|qi<|Qg [q8,qs 0,q8,q8,q8,q8] qm<|q0 O<|q0 O<|q9 a fun n l a=>Ky l O<|U _ O<|U _ O<|U _ O<|qd ?_;refine qt O a (fun _ a=>?_) (fun _ a=>?_)
   ·refine qg<|q0 O<|qf O<|Qa ?_;refine ⟨_,qu a,fun hm=>?_⟩;subst hm;cases b;exact Qs _ O
   refine qv<|Qf<|Qp<|Q9<|q0 O<|U _ O<|qf O<|Q8<|⟨_,qu a,wkA [(0,0)] [] []⟩
  refine Qn ?_;refine ⟨_,qu a,fun hm=>?_⟩;subst hm;exact ⟨_,O,wkA [] [] []⟩
 intro g hb;subst hb;refine qg<|qf O<|Qa ?_;cases b;exact Qs _ O
theorem qla (d : Qh) (f : List qr) (r : Bool) (a : q5f d f = some r) : Pure Tryz.prog tab 32 [.agg [.sl 2 (d.Nodes.map qq),.sl 2 (d.Edges.map Q7)],.sl 4 (f.map Kc)] (.bool r):=by
 unfold q5f at a;refine K6 Tryz.func32 O qm qm O<|qg<|Qw _ _ O<|qf O<|qx<|q0 O<|q9 a fun g q a=>Qi (q7a f g q) O<|q0 O<|U _ O<|U _ O<|K5 O O<|Qy 1 _ O<|qf O<|qx<|q0 O<|U _ O<|q9 a fun s b a=>?_;refine Qk 5 (fun A st=>∃ h j k l,st = A [(18,Q6 s),(17,l),(16,k),(15,j),(14,h)]) ?_ ?_
 ·refine Qj O O b (fun b=>?_) (fun b=>?_)
  ·refine U _ O<|U _ O<|q9 b fun t u b=>Qi (qh5 g.1 d t u) O<|U _ O<|qd ?_;cases b;exact ⟨_,_,_,_,O⟩
  refine qc O<|qc O<|qc O<|U _ O<|qd ?_;cases b;exact ⟨_,_,_,_,O⟩
 rintro _ ⟨h,j,k,l,rfl⟩;refine q9 a fun v c a=>?_;refine Qk 5 (fun A st=>∃ m n o p,st = A [(23,Q6 v),(22,p),(21,o),(20,n),(19,m)]) ?_ ?_
 ·refine Qj O O c (fun c=>?_) (fun c=>?_)
  ·refine U _ O<|q9 c fun w x c=>Qi (qow d w x) O<|U _ O<|U _ O<|qd ?_;cases c;exact ⟨_,_,_,_,O⟩
  refine qc O<|qc O<|qc O<|U _ O<|qd ?_;cases c;exact ⟨_,_,_,_,O⟩
 rintro _ ⟨m,n,o,p,rfl⟩;refine qf O<|Qa ?_;cases a;exact Qs _ O
theorem qg7 (r : Bool) (a : q47 = some r) : Pure Tryz.prog tab 27 [] (.bool r):=by
 unfold q47 at a;refine K6 Tryz.func27 O qm qm O<|qg<|qf O<|qx<|q9 a fun bv c a=>?_;refine q8j [] (fun j=>j = bv) (fun j=>⟨[(15,.agg [.hs 0 2 0 j.length,.hs 1 2 0 [({A:=0,B:=1} : qj),({A:=1,B:=2} : qj),({A:=1,B:=3} : qj)].length])],[(0,.dat 2 (j.map qq)),(1,.dat 2 ([({A:=0,B:=1} : qj),({A:=1,B:=2} : qj),({A:=1,B:=3} : qj)].map Q7))],2⟩) O O Tryz.func34 O qm qm O ?_ ?_
 ·refine qg<|K5 O O<|qx<|q9 c fun bw bx c=>Qi (Yh 0 0 bw bx) O<|q9 c fun bz ca c=>Qi (Yh 2 0 bz ca) O<|q9 c fun cb cc c=>Qi (Yh 2 3 cb cc) O<|q9 c fun cd ce c=>Qi (Yh 4 0 cd ce) O<|Qw _ _ O<|U _ O<|U _ O<|U _ O<|Qw _ _ O<|U _ O<|Qy 0 _ O<|Qa ?_;refine ⟨.inr O,_,O,?_⟩;obtain rfl:=qw c;exact ⟨_,O,wkA [(0,1),(1,2)] [] []⟩
 intro j hb;subst hb;refine q9 a fun k cf a=>Uc [.agg [.hs 0 2 0 j.length,.hs 1 2 0 [({A:=0,B:=1} : qj),({A:=1,B:=2} : qj),({A:=1,B:=3} : qj)].length],qe 1] (qox ({Nodes:=j,Edges:=[({A:=0,B:=1} : qj),({A:=1,B:=2} : qj),({A:=1,B:=3} : qj)]} : Qh) 1 k cf) O O (Yd (q7g (Za (Zb O O) (Za (Zb O O) O))) (Yd O O)) (.inr O)<|q0 O<|U _ O<|U _ O<|qf O<|qf O<|qx<|q9 a fun cg f a=>?_;refine q8j [] (fun l=>l = cg) (fun l=>⟨[(1,qe k.1),(2,qe k.2),(20,.agg [.hs 0 2 0 l.length,.hs 1 2 0 [({A:=0,B:=1} : qj),({A:=1,B:=2} : qj),({A:=1,B:=3} : qj)].length])],[(0,.dat 2 (l.map qq)),(1,.dat 2 ([({A:=0,B:=1} : qj),({A:=1,B:=2} : qj),({A:=1,B:=3} : qj)].map Q7))],2⟩) O O Tryz.func34 O qm qm O ?_ ?_
 ·refine qg<|K5 O O<|qx<|q9 f fun ch ci f=>Qi (Yh 0 0 ch ci) O<|q9 f fun cj ck f=>Qi (Yh 2 0 cj ck) O<|q9 f fun cl cm f=>Qi (Yh 2 3 cl cm) O<|q9 f fun cn co f=>Qi (Yh 4 0 cn co) O<|Qw _ _ O<|U _ O<|U _ O<|U _ O<|Qw _ _ O<|U _ O<|Qy 2 _ O<|Qa ?_;refine ⟨.inr O,_,O,?_⟩;obtain rfl:=qw f;exact ⟨_,O,wkA [(0,3),(1,4)] [] []⟩
 intro l hb;subst hb;refine q9 a fun v cp a=>Uc [.agg [.hs 0 2 0 l.length,.hs 1 2 0 [({A:=0,B:=1} : qj),({A:=1,B:=2} : qj),({A:=1,B:=3} : qj)].length]] (q138 ({Nodes:=l,Edges:=[({A:=0,B:=1} : qj),({A:=1,B:=2} : qj),({A:=1,B:=3} : qj)]} : Qh) v cp) O O (Yd (q7g (Za (Zb O O) (Za (Zb O O) O))) O) (.inr O)<|q0 O<|U _ O<|U _ O<|qf O<|qf O<|qx<|q9 a fun ah cq a=>Qi (q48 0 0 4 0 ah cq) O<|q9 a fun ai cr a=>Qi (q48 2 3 2 0 ai cr) O<|q9 a fun aj cs a=>Qi (q48 2 (-1) 2 0 aj cs) O<|qmn (es:=4) ([ah,ai,aj].map Kc) O O O O O<|q9 a fun w ct a=>Qi (q7a [ah,ai,aj] w ct) O<|q0 O<|U _ O<|U _ O<|K5 O O<|Qy 3 _ O<|qf O<|qd<|qi<|Qg [q8,q8,q8,qs 3,q8] qm<|U _ O<|U _ O<|q9 a fun ap cu a=>Qi (Yh 2 0 ap cu) O<|q9 a fun aq cv a=>Qi (qz0 w.1.Nodes ap aq cv) O<|qf O<|qx<|U _ O<|q0 O<|q9 a fun x cw a=>Qi (qox w.1 aq x cw) O<|q0 O<|U _ O ?_;refine U _ O<|qf O<|qf O<|qx<|q9 a fun m cx a=>Qi (Yh 0 0 m cx) O<|q9 a fun n cy a=>Qi (Yh 4 0 n cy) O<|Qw _ _ O<|U _ O<|Qw _ _ O<|U _ O<|K5 O O<|Qy 6 _ O<|qx<|U _ O<|q9 a fun ak cz a=>Qi (Yh 2 2 ak cz) O<|U _ O<|qmn (es:=4) ([({At:=({X:=0,Y:=0} : qa),Head:=0,Steps:=4} : Yu),({At:=ak,Head:=3,Steps:=9} : Yu)].map q2y) O O O O O<|q9 a fun b da a=>Qi (qnd (.cons (.nil _) (.cons (.refl _) .nil)) (q136 [] [({At:=({X:=0,Y:=0} : qa),Head:=0,Steps:=4} : Yu),({At:=ak,Head:=3,Steps:=9} : Yu)] b da)) O<|q0 O<|U _ O<|U _ O<|K5 O O<|Qy 8 _ O<|qf O<|qx<|q9 a fun o dc a=>Qi (Yh 0 0 o dc) O<|q9 a fun p dd a=>Qi (Yh 2 0 p dd) O<|q9 a fun q de a=>Qi (Yh 2 2 q de) O<|q9 a fun s df a=>Qi (Yh 4 0 s df) O<|Qw _ _ O<|q9 a fun dg g a=>?_;refine q8j [] (fun y=>y = dg) (fun y=>⟨[(1,qe k.1),(2,qe k.2),(3,qe v.1),(4,qe v.2),(6,qe w.2),(8,qe x.1),(9,qe x.2),(10,.ref 0 2 0 0),(11,.ref 1 2 0 0),(12,qe b.2),(60,.hs 2 2 0 [o,p,q,s].length),(61,.agg [.hs 3 2 0 y.length,.hs 4 2 0 [({A:=0,B:=1} : qj),({A:=1,B:=2} : qj),({A:=1,B:=3} : qj)].length])],[(0,.cel 2 [[.hs 5 2 0 [m,n].length,.hs 6 2 0 [({A:=0,B:=1} : qj)].length]]),(1,.dat 2 [[.sl 2 (b.1.Nodes.map qq),.sl 2 (b.1.Edges.map Q7)]]),(2,.dat 2 ([o,p,q,s].map qq)),(3,.dat 2 (y.map qq)),(4,.dat 2 ([({A:=0,B:=1} : qj),({A:=1,B:=2} : qj),({A:=1,B:=3} : qj)].map Q7)),(5,.dat 2 ([m,n].map qq)),(6,.dat 2 ([({A:=0,B:=1} : qj)].map Q7))],7⟩) O O Tryz.func34 O qm qm O ?_ ?_
 ·refine qg<|K5 O O<|qx<|q9 g fun dh dj g=>Qi (Yh 0 0 dh dj) O<|q9 g fun dk dl g=>Qi (Yh 2 0 dk dl) O<|q9 g fun dm dn g=>Qi (Yh 2 3 dm dn) O<|q9 g fun dp dq g=>Qi (Yh 4 0 dp dq) O<|Qw _ _ O<|U _ O<|U _ O<|U _ O<|Qw _ _ O<|U _ O<|Qy 10 _ O<|Qa ?_;refine ⟨.inr O,_,O,?_⟩;obtain rfl:=qw g;exact ⟨_,O,wkA [(0,6),(1,8),(2,9),(3,11),(4,12),(5,4),(6,5)] [] []⟩
 intro y hb;subst hb;refine U _ O<|U _ O<|K5 O O<|Qy 7 _ O<|qd<|qi<|Qg [q8,q8,(none,[]),qs 2,qs 1,q8,q8,q8,q8,q8,q8,(none,[]),(some [],[10]),q8,q8,qs 0,q8,q8,q8,q8,q8,q8,q8,q8,q8,q8,q8,q8,q8,q8,q8,q8,q8,q8,q8,q8,q8,q8,q8,q8,q8,q8,q8,q8,q8,(none,[]),(some [],[9]),q8,q8,(none,[0])] qm<|qw7 O<|q9 a fun dr h a=>?_;refine q8j [] (fun t=>t = dr) (fun t=>⟨[(1,qe k.1),(2,qe k.2),(3,qe v.1),(4,qe v.2),(6,qe w.2),(8,qe x.1),(9,qe x.2),(10,.ref 0 2 0 0),(11,.ref 1 2 0 0),(12,qe b.2),(13,.ref 2 2 0 0),(64,.agg [.hs 3 2 0 t.length,.hs 4 2 0 [({A:=0,B:=1} : qj),({A:=1,B:=2} : qj),({A:=1,B:=3} : qj)].length])],[(0,.cel 2 [[.hs 5 2 0 [m,n].length,.hs 6 2 0 [({A:=0,B:=1} : qj)].length]]),(1,.dat 2 [[.sl 2 (b.1.Nodes.map qq),.sl 2 (b.1.Edges.map Q7)]]),(2,.cel 2 [[.hs 7 2 0 [o,p,q,s].length,.hs 8 2 0 [({A:=0,B:=1} : qj),({A:=1,B:=2} : qj),({A:=1,B:=3} : qj)].length]]),(3,.dat 2 (t.map qq)),(4,.dat 2 ([({A:=0,B:=1} : qj),({A:=1,B:=2} : qj),({A:=1,B:=3} : qj)].map Q7)),(5,.dat 2 ([m,n].map qq)),(6,.dat 2 ([({A:=0,B:=1} : qj)].map Q7)),(7,.dat 2 ([o,p,q,s].map qq)),(8,.dat 2 ([({A:=0,B:=1} : qj),({A:=1,B:=2} : qj),({A:=1,B:=3} : qj)].map Q7))],9⟩) O O Tryz.func34 O qm qm O ?_ ?_
 ·refine qg<|K5 O O<|qx<|q9 h fun ds dt h=>Qi (Yh 0 0 ds dt) O<|q9 h fun du dv h=>Qi (Yh 2 0 du dv) O<|q9 h fun dw dx h=>Qi (Yh 2 3 dw dx) O<|q9 h fun dy dz h=>Qi (Yh 4 0 dy dz) O<|Qw _ _ O<|U _ O<|U _ O<|U _ O<|Qw _ _ O<|U _ O<|Qy 8 _ O<|Qa ?_;refine ⟨.inr O,_,O,?_⟩;obtain rfl:=qw h;exact ⟨_,O,wkA [(0,0),(1,1),(2,7),(3,9),(4,10),(5,5),(6,6),(7,2),(8,4)] [] []⟩
 intro t hb;subst hb;refine qd<|q9 a fun al fa a=>Qi (q48 0 0 4 0 al fa) O<|q9 a fun am fb a=>Qi (q48 2 0 2 3 am fb) O<|Qw _ _ O<|q9 a fun fc fd a=>Uc [.agg [.hs 3 2 0 t.length,.hs 4 2 0 [({A:=0,B:=1} : qj),({A:=1,B:=2} : qj),({A:=1,B:=3} : qj)].length],.hs 9 4 0 [al,am].length] (qla ({Nodes:=t,Edges:=[({A:=0,B:=1} : qj),({A:=1,B:=2} : qj),({A:=1,B:=3} : qj)]} : Qh) [al,am] fc fd) O O (Yd (q7g (Za (Zb O O) (Za (Zb O O) O))) (Yd (Zb O O) O)) (.inr O)<|q9 a fun fe z a=>?_;refine Qk 4 (fun A st=>∃ ar au av,st = A [(72,Q6 fe),(71,av),(70,au),(69,ar)]) ?_ ?_
 ·refine Qj O O z (fun z=>?_) (fun z=>?_)
  ·refine q0 O<|U _ O<|U _ O<|qd ?_;cases z;exact ⟨_,_,_,O⟩
  refine qc O<|qc O<|U _ O<|qd ?_;cases z;exact ⟨_,_,_,O⟩
 rintro _ ⟨ar,au,av,rfl⟩;refine q9 a fun ff aa a=>?_;refine Qk 4 (fun A st=>∃ aw ax ay,st = A [(76,Q6 ff),(75,ay),(74,ax),(73,aw)]) ?_ ?_
 ·refine Qj O O aa (fun aa=>?_) (fun aa=>?_)
  ·refine q0 O<|U _ O<|U _ O<|qd ?_;cases aa;exact ⟨_,_,_,O⟩
  refine qc O<|qc O<|U _ O<|qd ?_;cases aa;exact ⟨_,_,_,O⟩
 rintro _ ⟨aw,ax,ay,rfl⟩;refine q9 a fun fg ab a=>?_;refine Qk 4 (fun A st=>∃ az ba bb,st = A [(80,Q6 fg),(79,bb),(78,ba),(77,az)]) ?_ ?_
 ·refine Qj O O ab (fun ab=>?_) (fun ab=>?_)
  ·refine q0 O<|U _ O<|U _ O<|qd ?_;cases ab;exact ⟨_,_,_,O⟩
  refine qc O<|qc O<|U _ O<|qd ?_;cases ab;exact ⟨_,_,_,O⟩
 rintro _ ⟨az,ba,bb,rfl⟩;refine q9 a fun fh ac a=>?_;refine Qk 4 (fun A st=>∃ bc bd be,st = A [(84,Q6 fh),(83,be),(82,bd),(81,bc)]) ?_ ?_
 ·refine Qj O O ac (fun ac=>?_) (fun ac=>?_)
  ·refine q0 O<|U _ O<|U _ O<|qd ?_;cases ac;exact ⟨_,_,_,O⟩
  refine qc O<|qc O<|U _ O<|qd ?_;cases ac;exact ⟨_,_,_,O⟩
 rintro _ ⟨bc,bd,be,rfl⟩;refine q9 a fun fi ad a=>?_;refine Qk 4 (fun A st=>∃ bf bg bh,st = A [(88,Q6 fi),(87,bh),(86,bg),(85,bf)]) ?_ ?_
 ·refine Qj O O ad (fun ad=>?_) (fun ad=>?_)
  ·refine q0 O<|U _ O<|U _ O<|qd ?_;cases ad;exact ⟨_,_,_,O⟩
  refine qc O<|qc O<|U _ O<|qd ?_;cases ad;exact ⟨_,_,_,O⟩
 rintro _ ⟨bf,bg,bh,rfl⟩;refine q9 a fun fj ae a=>?_;refine Qk 4 (fun A st=>∃ bi bj bk,st = A [(92,Q6 fj),(91,bk),(90,bj),(89,bi)]) ?_ ?_
 ·refine Qj O O ae (fun ae=>?_) (fun ae=>?_)
  ·refine q0 O<|U _ O<|U _ O<|qd ?_;cases ae;exact ⟨_,_,_,O⟩
  refine qc O<|qc O<|U _ O<|qd ?_;cases ae;exact ⟨_,_,_,O⟩
 rintro _ ⟨bi,bj,bk,rfl⟩;refine q9 a fun fk af a=>?_;refine Qk 4 (fun A st=>∃ bl bm bn,st = A [(96,Q6 fk),(95,bn),(94,bm),(93,bl)]) ?_ ?_
 ·refine Qj O O af (fun af=>?_) (fun af=>?_)
  ·refine q0 O<|U _ O<|U _ O<|qd ?_;cases af;exact ⟨_,_,_,O⟩
  refine qc O<|qc O<|U _ O<|qd ?_;cases af;exact ⟨_,_,_,O⟩
 rintro _ ⟨bl,bm,bn,rfl⟩;refine Qj O O a (fun a=>?_) (fun a=>?_)
 ·refine U _ O<|q9 a fun an fl a=>Qi (q48 0 0 2 0 an fl) O<|q9 a fun ao fm a=>Qi (q48 2 0 4 0 ao fm) O<|Qw _ _ O<|q9 a fun fn fo a=>Uc [.agg [.hs 5 2 0 [m,n].length,.hs 6 2 0 [({A:=0,B:=1} : qj)].length],.hs 10 4 0 [an,ao].length] (qla ({Nodes:=[m,n],Edges:=[({A:=0,B:=1} : qj)]} : Qh) [an,ao] fn fo) O O (Yd (q7g (Za (Zb O O) (Za (Zb O O) O))) (Yd (Zb O O) O)) (.inr O)<|U _ O<|q9 a fun fq ag a=>?_;refine Qk 4 (fun A st=>∃ bo bp bq,st = A [(107,Q6 fq),(106,bq),(105,bp),(104,bo)]) ?_ ?_
  ·refine Qj O O ag (fun ag=>?_) (fun ag=>?_)
   ·refine q0 O<|U _ O<|U _ O<|qd ?_;cases ag;exact ⟨_,_,_,O⟩
   refine qc O<|qc O<|U _ O<|qd ?_;cases ag;exact ⟨_,_,_,O⟩
  rintro _ ⟨bo,bp,bq,rfl⟩;refine q9 a fun fr u a=>?_;refine Qk 5 (fun A st=>∃ br bs bt bu,st = A [(112,Q6 fr),(111,bu),(110,bt),(109,bs),(108,br)]) ?_ ?_
  ·refine Qj O O u (fun u=>?_) (fun u=>?_)
   ·refine U _ O<|U _ O<|q9 u fun fs ft u=>Uc [.d (.agg [.sl 2 (b.1.Nodes.map qq),.sl 2 (b.1.Edges.map Q7)]),.agg [.hs 7 2 0 [o,p,q,s].length,.hs 8 2 0 [({A:=0,B:=1} : qj),({A:=1,B:=2} : qj),({A:=1,B:=3} : qj)].length]] (qh5 b.1 ({Nodes:=[o,p,q,s],Edges:=[({A:=0,B:=1} : qj),({A:=1,B:=2} : qj),({A:=1,B:=3} : qj)]} : Qh) fs ft) O O (Yd O (Yd (q7g (Za (Zb O O) (Za (Zb O O) O))) O)) (.inr O)<|U _ O<|qd ?_;cases u;exact ⟨_,_,_,_,O⟩
   refine qc O<|qc O<|qc O<|U _ O<|qd ?_;cases u;exact ⟨_,_,_,_,O⟩
  rintro _ ⟨br,bs,bt,bu,rfl⟩;refine qf O<|Qa ?_;cases a;exact Qs _ O
 refine qc O<|qc O<|qc O<|qc O<|qc O<|U _ O<|q0 O<|qc O<|qc O<|U _ O<|q0 O<|qc O<|qc O<|qc O<|U _ O<|qf O<|Qa ?_;cases a;exact Qs _ O
end Go.Proofs.YtgkialgkmjnfbaaGreat
namespace Go.Proofs.YtgkialgkmjnfbaaGreat
open Go Go.Am Go.Sh
end Go.Proofs.YtgkialgkmjnfbaaGreat
namespace Go.Proofs.YtgkialgkmjnfbaaGreat
open Go Go.Am Go.Sh
end Go.Proofs.YtgkialgkmjnfbaaGreat
namespace Go.Proofs.YtgkialgkmjnfbaaGreat
open Go Go.Am Go.Sh
set_option maxHeartbeats 8000000
set_option maxRecDepth 100000
theorem q14a (j : List qr) (k : Int) (y : Int) (l : qa) (r : Bool) (a : qd7 j k y l = some r) : Pure Tryz.prog tab 9 [.sl 4 (j.map Kc),qk k,qk y,.agg (qq l)] (.bool r):=by
 unfold qd7 at a;refine K6 Tryz.func9 O qm qm O<|qg<|Qw _ _ O<|qf O<|qd<|qi<|qg<|q0 O<|q9 a fun r1 h2 a=>Qi (qug j r1 h2) O<|U _ O<|q9 a fun c3 m a=>?_;refine Qk 5 (fun A st=>∃ z j6 j7 j8,st = A [(29,Q6 c3),(28,j8),(27,j7),(26,j6),(25,z)]) ?_ ?_
 ·refine Qj O O m (fun m=>?_) (fun m=>?_)
  ·refine qc O<|qc O<|qc O<|U _ O<|qd ?_;cases m;exact ⟨_,_,_,_,O⟩
  refine q0 O<|Kr O<|U _ O<|U _ O<|qd ?_;cases m;exact ⟨_,_,_,_,O⟩
 rintro _ ⟨z,j6,j7,j8,rfl⟩;refine q9 a fun c9 n a=>?_;refine Qk 4 (fun A st=>∃ ad ae af,st = A [(33,Q6 c9),(32,af),(31,ae),(30,ad)]) ?_ ?_
 ·refine Qj O O n (fun n=>?_) (fun n=>?_)
  ·refine qc O<|qc O<|U _ O<|qd ?_;cases n;exact ⟨_,_,_,O⟩
  refine q0 O<|U _ O<|U _ O<|qd ?_;cases n;exact ⟨_,_,_,O⟩
 rintro _ ⟨ad,ae,af,rfl⟩;refine q9 a fun cf o a=>?_;refine Qk 6 (fun A st=>∃ ag ah ai aj ak,st = A [(39,Q6 cf),(38,ak),(37,aj),(36,ai),(35,ah),(34,ag)]) ?_ ?_
 ·refine Qj O O o (fun o=>?_) (fun o=>?_)
  ·refine qc O<|qc O<|qc O<|qc O<|U _ O<|qd ?_;cases o;exact ⟨_,_,_,_,_,O⟩
  refine q0 O<|q0 O<|Kr O<|U _ O<|U _ O<|qd ?_;cases o;exact ⟨_,_,_,_,_,O⟩
 rintro _ ⟨ag,ah,ai,aj,ak,rfl⟩;refine qd ?_;refine qt O a (fun _ a=>?_) (fun _ a=>?_)
 ·refine qg<|q9 a fun cg ch a=>Qi (qg7 cg ch) O<|qf O<|Qa ?_;cases a;exact Qs _ O
 refine qv<|qg<|q0 O<|q0 O<|q9 a fun h ci a=>Ky ci O<|U _ O<|K5 O O<|Qy 1 _ O<|qx<|U _ O<|U _ O<|K5 O O<|Qy 2 _ O<|qd<|qi<|qg<|U _ O<|U _ O<|U _ O<|U _ O<|U _ O<|U _ O<|U _ O<|qd<|q9 a fun cj p a=>?_;refine Y4 (fun b=>b = cj) (fun b=>⟨[(0,.d (.sl 4 (j.map Kc))),(1,qe k),(7,.ref 0 2 0 0),(9,.ref 1 4 0 0),(10,.ref 2 2 0 0)],[(0,.dat 2 [(qq l)]),(1,.dat 4 [[qk b.1,qk b.2.1,qk h.B.X,qk h.B.Y]]),(2,.dat 2 [[qk b.2.2.1,qk b.2.2.2]])],3⟩) qb ?_ ?_
 ·refine qt O p (fun _ p=>?_) (fun _ p=>?_)
  ·refine Q9<|q0 O<|U _ O<|Qy 2 _ O<|Q8 ?_;obtain rfl:=qw p;exact ⟨_,O,wkA [(0,0),(1,1),(2,2)] [] []⟩
  refine Q9<|q0 O<|U _ O<|Qy 2 _ O<|Q8 ?_;obtain rfl:=qw p;exact ⟨_,O,wkA [(0,0),(1,1),(2,2)] [] []⟩
 intro b hb;subst hb;refine qg<|q0 O<|q9 a fun q ck a=>Qi (q7a j q ck) O<|q0 O<|U _ O<|U _ O<|K5 O O<|Qy 3 _ O<|qf O<|qd<|qi<|Qg [q8,Ql 7,(some [],[7]),q8,q8,q8,q8,(some [5],[5,6]),q8,q8,q8,q8,(some [4],[4,5]),q8,q8,q8,(some [],[4])] qm<|Qw _ _ O<|q0 O<|q0 O<|q9 a fun ds cl a=>qmr (enc:=Kc) cl O O O O O (fun _=>rfl) (qit O)<|q9 a fun cm cn a=>Ub _ cn O O O O O O O qfg O O O O<|q0 O<|q0 O<|U _ O<|q9 a fun al co a=>qmr (enc:=Kc) co O O O O O (qit O) (fun _=>rfl)<|q9 a fun cp cq a=>qvw (xs:=cm) (ys:=al) (enc:=Kc) (.d (.sl 4 (al.map Kc))) cq O O O O O O O qfg O O O O O<|q9 a fun am cr a=>Qi (q7a cp am cr) O<|q0 O<|U _ O<|U _ O<|K5 O O<|Qy 7 _ O<|qf O<|qx<|U _ O<|U _ O<|q9 a fun cs ct a=>Qi (qoy am.1 l cs ct) O ?_;refine q0 O<|U _ O<|U _ O<|qf O<|qf O<|qx<|U _ O<|U _ O<|q9 a fun cu cv a=>Qi (qoy q.1 l cu cv) O<|q0 O<|U _ O<|U _ O<|qf O<|qf O<|qd<|qi<|qg<|q0 O<|U _ O<|q9 a fun cw s a=>?_;refine Qk 4 (fun A st=>∃ an ao ap,st = A [(94,Q6 cw),(93,ap),(92,ao),(91,an)]) ?_ ?_
 ·refine Qj O O s (fun s=>?_) (fun s=>?_)
  ·refine qc O<|qc O<|U _ O<|qd ?_;cases s;exact ⟨_,_,_,O⟩
  refine q0 O<|U _ O<|U _ O<|qd ?_;cases s;exact ⟨_,_,_,O⟩
 rintro _ ⟨an,ao,ap,rfl⟩;refine q9 a fun cx t a=>?_;refine Qk 4 (fun A st=>∃ aq ar au,st = A [(98,Q6 cx),(97,au),(96,ar),(95,aq)]) ?_ ?_
 ·refine Qj O O t (fun t=>?_) (fun t=>?_)
  ·refine qc O<|qc O<|U _ O<|qd ?_;cases t;exact ⟨_,_,_,O⟩
  refine q0 O<|U _ O<|U _ O<|qd ?_;cases t;exact ⟨_,_,_,O⟩
 rintro _ ⟨aq,ar,au,rfl⟩;refine q9 a fun cy u a=>?_;refine Qk 4 (fun A st=>∃ av aw ax,st = A [(102,Q6 cy),(101,ax),(100,aw),(99,av)]) ?_ ?_
 ·refine Qj O O u (fun u=>?_) (fun u=>?_)
  ·refine qc O<|qc O<|U _ O<|qd ?_;cases u;exact ⟨_,_,_,O⟩
  refine q0 O<|U _ O<|U _ O<|qd ?_;cases u;exact ⟨_,_,_,O⟩
 rintro _ ⟨av,aw,ax,rfl⟩;refine q9 a fun cz c a=>?_;refine Qk 7 (fun A st=>∃ ay az ba bb bc bd,st = A [(109,Q6 cz),(108,bd),(107,bc),(106,bb),(105,ba),(104,az),(103,ay)]) ?_ ?_
 ·refine Qj O O c (fun c=>?_) (fun c=>?_)
  ·refine qc O<|qc O<|qc O<|qc O<|qc O<|U _ O<|qd ?_;cases c;exact ⟨_,_,_,_,_,_,O⟩
  refine q0 O<|q9 c fun da v c=>?_;refine Qk 4 (fun A st=>∃ be bf bg,st = A [(108,Q6 da),(107,bg),(106,bf),(105,be)]) ?_ ?_
  ·refine Qj O O v (fun v=>?_) (fun v=>?_)
   ·refine q0 O<|U _ O<|U _ O<|qd ?_;cases v;exact ⟨_,_,_,O⟩
   refine qc O<|qc O<|U _ O<|qd ?_;cases v;exact ⟨_,_,_,O⟩
  rintro _ ⟨be,bf,bg,rfl⟩;refine U _ O<|qd ?_;cases c;exact ⟨_,_,_,_,_,_,O⟩
 rintro _ ⟨ay,az,ba,bb,bc,bd,rfl⟩;refine qd ?_;refine qt O a (fun _ a=>?_) (fun _ a=>?_)
 ·refine qg<|qf O<|Qa ?_;cases a;exact Qs _ O
 refine qv<|qi<|qg<|U _ O<|U _ O<|q9 a fun dc dd a=>Qi (qz1 ({A:=({X:=b.1,Y:=b.2.1} : qa),B:=h.B} : qr) ({X:=b.2.2.1,Y:=b.2.2.2} : qa) dc dd) O<|U _ O<|q9 a fun de w a=>?_;refine Qk 6 (fun A st=>∃ bh bi bj bk bl,st = A [(119,Q6 de),(118,bl),(117,bk),(116,bj),(115,bi),(114,bh)]) ?_ ?_
 ·refine Qj O O w (fun w=>?_) (fun w=>?_)
  ·refine qc O<|qc O<|qc O<|qc O<|U _ O<|qd ?_;cases w;exact ⟨_,_,_,_,_,O⟩
  refine U _ O<|U _ O<|U _ O<|U _ O<|U _ O<|qd ?_;cases w;exact ⟨_,_,_,_,_,O⟩
 rintro _ ⟨bh,bi,bj,bk,bl,rfl⟩;refine q9 a fun df x a=>?_;refine Qk 6 (fun A st=>∃ bm bn bo bp bq,st = A [(125,Q6 df),(124,bq),(123,bp),(122,bo),(121,bn),(120,bm)]) ?_ ?_
 ·refine Qj O O x (fun x=>?_) (fun x=>?_)
  ·refine qc O<|qc O<|qc O<|qc O<|U _ O<|qd ?_;cases x;exact ⟨_,_,_,_,_,O⟩
  refine U _ O<|U _ O<|U _ O<|U _ O<|U _ O<|qd ?_;cases x;exact ⟨_,_,_,_,_,O⟩
 rintro _ ⟨bm,bn,bo,bp,bq,rfl⟩;refine qd ?_;refine qt O a (fun _ a=>?_) (fun _ a=>?_)
 ·refine qg<|q9 a fun dg dh a=>Qi (qg7 dg dh) O<|qf O<|Qa ?_;cases a;exact Qs _ O
 refine qv<|qg<|U _ O<|U _ O<|U _ O<|U _ O<|Qw _ _ O<|q0 O<|q9 a fun br dj a=>Ub _ dj O O O O O O O qfg O O O O<|qf O<|qx<|q0 O<|q0 O<|U _ O<|U _ O<|U _ O<|U _ O<|U _ O<|q9 a fun dt bs a=>qp bs O O<|Qr ({A:=({X:=b.2.2.1,Y:=b.2.2.2} : qa),B:=h.B} : qr) bs O O O O O O O O (leb O) O<|qd<|qi ?_;refine Zs (st':=⟨[(11,.ref 0 2 0 0),(19,.d (.sl 4 ((br.set (w64 (k + 1)).toNat ({A:=({X:=b.2.2.1,Y:=b.2.2.2} : qa),B:=h.B} : qr)).map Kc)))],[(0,.dat 2 [[.sl 2 (q.1.Nodes.map qq),.sl 2 (q.1.Edges.map Q7)]])],1⟩) (wkE [(0,3)] [9] [] O ⟨⟨_,O,.ref O qy (ltd O)⟩,⟨_,O,qem qb O qy⟩,trivial⟩ ⟨Qo O O,trivial⟩) ?_ qb;refine Q9<|q0 O<|q9 a fun bt dk a=>Qi (q7a (br.set (w64 (k + 1)).toNat ({A:=({X:=b.2.2.1,Y:=b.2.2.2} : qa),B:=h.B} : qr)) bt dk) O<|q0 O<|U _ O<|U _ O<|K5 O O<|Qy 1 _ O<|qf O<|qx<|q0 O<|U _ O<|q9 a fun dl f a=>?_;refine Qk 5 (fun A st=>∃ bu bv bw bx,st = A [(153,Q6 dl),(152,bx),(151,bw),(150,bv),(149,bu)]) ?_ ?_
 ·refine Qj O O f (fun f=>?_) (fun f=>?_)
  ·refine U _ O<|U _ O<|q9 f fun dm dn f=>Qi (qh5 bt.1 q.1 dm dn) O<|U _ O<|qd ?_;cases f;exact ⟨_,_,_,_,O⟩
  refine qc O<|qc O<|qc O<|U _ O<|qd ?_;cases f;exact ⟨_,_,_,_,O⟩
 rintro _ ⟨bu,bv,bw,bx,rfl⟩;refine q9 a fun dp g a=>?_;refine Qk 3 (fun A st=>∃ bz ca,st = A [(156,Q6 dp),(155,ca),(154,bz)]) ?_ ?_
 ·refine Qj O O g (fun g=>?_) (fun g=>?_)
  ·refine q9 g fun dq dr g=>Qi (qg7 dq dr) O<|U _ O<|qd ?_;cases g;exact ⟨_,_,O⟩
  refine qc O<|U _ O<|qd ?_;cases g;exact ⟨_,_,O⟩
 rintro _ ⟨bz,ca,rfl⟩;refine qf O<|Qa ?_;cases a;exact Qs _ O
end Go.Proofs.YtgkialgkmjnfbaaGreat
