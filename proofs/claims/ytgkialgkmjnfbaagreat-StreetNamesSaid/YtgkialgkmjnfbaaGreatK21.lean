/- W_Alld W_All -/
import Derived.Test.YtgkialgkmjnfbaaGreatK20
namespace Go.Proofs.YtgkialgkmjnfbaaGreat
open Go Go.Am Go.Sh
set_option maxHeartbeats 8000000
set_option maxRecDepth 100000
theorem q12t (f : Qd) (r : Int × Int) (a : q79 f = some r) : Pure Tryz.prog tab 17 [.agg [.sl 2 (f.Nodes.map qp),.sl 2 (f.Edges.map Q2)]] (.tup [qj r.1,qj r.2]):=by
 unfold q79 at a;refine Kd Tryz.func17 O qm qm O<|qh<|Qn _ _ O<|qf O<|qf O<|qv<|U _ O<|q9 a fun g l a=>Q4 (qh4 f g l) O<|q0 O<|U _ O<|U _ O<|qf O<|qf O<|qc<|qi<|qh<|q0 O<|U _ O<|qc ?_;refine qy O a (fun _ a=>?_) (fun _ a=>?_)
 ·refine qh<|q0 O<|qf O<|qf O<|Q8 ?_;cases a;exact Qw _ O
 refine Q0<|qh<|qf O<|qc<|qi<|qh<|q0 O<|Ky O<|q0 O<|qc<|q9 a fun k m a=>?_;refine K6 (fun h=>h = k) (fun h=>⟨[(6,qb h)],[],0⟩) qd ?_ ?_
 ·refine Qv (q3y g) (fun j=>⟨[(6,qb j.1),(17,.d (.sl 4 (g.1.map Kw))),(18,qb (g.1.length : Int)),(19,qb j.2)],[],0⟩) _ k m (wkA [] [] []) ?_;intro j o b;unfold q3y at b;refine qh<|U _ O<|qc<|qi ?_;refine qy O b (fun _ b=>?_) (fun _ b=>?_)
  ·refine Q0<|qi<|Qf<|qh<|q9 b fun c n b=>Y3 n O<|U _ O<|Qz O O<|Qp 0 _ O<|qc<|Q7<|q0 O<|U _ O<|U _ O<|U _ O<|U _ O<|U _ O<|U _ O<|J7 (r:=max c.A.X c.B.X) O O (by simp only [J6];rfl)<|U _ O<|U _ O<|U _ O<|U _ O<|U _ O<|U _ O<|q18 (r:=min c.A.X c.B.X) O O (by simp only [q13];rfl)<|U _ O<|U _ O<|U _ O<|U _ O<|U _ O<|U _ O<|U _ O<|J7 (r:=max c.A.Y c.B.Y) O O (by simp only [J6];rfl)<|U _ O<|U _ O<|U _ O<|U _ O<|U _ O<|U _ O ?_;refine U _ O<|q18 (r:=min c.A.Y c.B.Y) O O (by simp only [q13];rfl)<|U _ O<|U _ O<|qf O<|Q5<|Qr<|Q7<|U _ O<|q0 O<|Q5<|⟨_,qz b,wkA [] [] []⟩
  refine Qo ?_;refine ⟨_,qz b,fun hm=>?_⟩;subst hm;exact ⟨_,O,wkA [] [] []⟩
 intro h hb;subst hb;refine qh<|q0 O<|qf O<|qf O<|Q8 ?_;cases a;exact Qw _ O
theorem qez (a : qa) (r : Bool) (c : q3j a = some r) : Pure Tryz.prog tab 67 [.agg (qp a)] (.bool r):=by
 unfold q3j at c;refine Kd Tryz.func67 O qm qm O<|qh<|Qn _ _ O<|qf O<|qv<|U _ O<|U _ O<|U _ O<|U _ O<|U _ O<|U _ O<|U _ O<|U _ O<|U _ O<|U _ O<|J7 (r:=max (max (max a.X (w64 (0 - a.X))) a.Y) (w64 (0 - a.Y))) O O (by simp only [J6];rfl)<|U _ O<|q9 c fun m b c=>?_;refine Qk 8 (fun A st=>∃ d f g h j k l,st = A [(22,Q1 m),(21,l),(20,k),(19,j),(18,h),(17,g),(16,f),(15,d)]) ?_ ?_
 ·refine Qj O O b (fun b=>?_) (fun b=>?_)
  ·refine U _ O<|U _ O<|U _ O<|U _ O<|q18 (r:=min a.X a.Y) O O (by simp only [q13];rfl)<|U _ O<|U _ O<|qc ?_;cases b;exact ⟨_,_,_,_,_,_,_,O⟩
  refine qe O<|qe O<|qe O<|qe O<|qe O<|qe O<|U _ O<|qc ?_;cases b;exact ⟨_,_,_,_,_,_,_,O⟩
 rintro _ ⟨d,f,g,h,j,k,l,rfl⟩;refine qf O<|Q8 ?_;cases c;exact Qw _ O
theorem qjo (f : List K9) (r : Int) (b : q2l f = some r) : Pure Tryz.prog tab 47 [.sl 5 (f.map Yd)] (qj r):=by
 unfold q2l at b;refine Kd Tryz.func47 O qm qm O<|qh<|qf O<|qc<|qi<|qh<|q0 O<|Ky O<|U _ O<|qc ?_;refine qy O b (fun _ b=>?_) (fun _ b=>?_)
 ·refine qh<|qf O<|Q8 ?_;cases b;exact Qw _ O
 refine Q0<|qi<|qh<|q0 O<|Ky O<|q0 O<|qc<|q9 b fun n ap b=>?_;refine K6 (fun m=>.inl m = n) (fun m=>⟨[],[],0⟩) qd ?_ ?_
 ·refine Qv (q5h f) (fun o=>⟨[(8,.d (.sl 5 (f.map Yd))),(9,qb (f.length : Int)),(10,qb o)],[],0⟩) _ n ap (wkA [] [] []) ?_;intro o bc a;unfold q5h at a;refine qh<|U _ O<|qc<|qi ?_;refine qy O a (fun _ a=>?_) (fun _ a=>?_)
  ·refine Q0<|qi<|Qf<|qh<|q9 a fun aq ar a=>Y3 ar O<|U _ O<|Qz O O<|Qp 0 _ O<|qv<|U _ O<|U _ O<|U _ O<|q9 a fun au g a=>?_;refine Qk 5 (fun A st=>∃ p q s t,st = A [(21,Q1 au),(20,t),(19,s),(18,q),(17,p)]) ?_ ?_
   ·refine Qj O O g (fun g=>?_) (fun g=>?_)
    ·refine qe O<|qe O<|qe O<|U _ O<|qc ?_;cases g;exact ⟨_,_,_,_,O⟩
    refine U _ O<|U _ O<|U _ O<|U _ O<|qc ?_;cases g;exact ⟨_,_,_,_,O⟩
   rintro _ ⟨p,q,s,t,rfl⟩;refine q9 a fun av c a=>?_;refine Qk 6 (fun A st=>∃ u v w x y,st = A [(27,Q1 av),(26,y),(25,x),(24,w),(23,v),(22,u)]) ?_ ?_
   ·refine Qj O O c (fun c=>?_) (fun c=>?_)
    ·refine qe O<|qe O<|qe O<|qe O<|U _ O<|qc ?_;cases c;exact ⟨_,_,_,_,_,O⟩
    refine U _ O<|U _ O<|q9 c fun aw ax c=>Q4 (qez aq.At aw ax) O<|U _ O<|U _ O<|qc ?_;cases c;exact ⟨_,_,_,_,_,O⟩
   rintro _ ⟨u,v,w,x,y,rfl⟩;refine q9 a fun ay h a=>?_;refine Qk 5 (fun A st=>∃ z aa ab ac,st = A [(32,Q1 ay),(31,ac),(30,ab),(29,aa),(28,z)]) ?_ ?_
   ·refine Qj O O h (fun h=>?_) (fun h=>?_)
    ·refine qe O<|qe O<|qe O<|U _ O<|qc ?_;cases h;exact ⟨_,_,_,_,O⟩
    refine U _ O<|U _ O<|U _ O<|U _ O<|qc ?_;cases h;exact ⟨_,_,_,_,O⟩
   rintro _ ⟨z,aa,ab,ac,rfl⟩;refine q9 a fun az j a=>?_;refine Qk 5 (fun A st=>∃ ad ae af ag,st = A [(37,Q1 az),(36,ag),(35,af),(34,ae),(33,ad)]) ?_ ?_
   ·refine Qj O O j (fun j=>?_) (fun j=>?_)
    ·refine qe O<|qe O<|qe O<|U _ O<|qc ?_;cases j;exact ⟨_,_,_,_,O⟩
    refine U _ O<|U _ O<|U _ O<|U _ O<|qc ?_;cases j;exact ⟨_,_,_,_,O⟩
   rintro _ ⟨ad,ae,af,ag,rfl⟩;refine q9 a fun ba k a=>?_;refine Qk 5 (fun A st=>∃ ah ai aj ak,st = A [(42,Q1 ba),(41,ak),(40,aj),(39,ai),(38,ah)]) ?_ ?_
   ·refine Qj O O k (fun k=>?_) (fun k=>?_)
    ·refine qe O<|qe O<|qe O<|U _ O<|qc ?_;cases k;exact ⟨_,_,_,_,O⟩
    refine U _ O<|U _ O<|U _ O<|U _ O<|qc ?_;cases k;exact ⟨_,_,_,_,O⟩
   rintro _ ⟨ah,ai,aj,ak,rfl⟩;refine q9 a fun bb l a=>?_;refine Qk 5 (fun A st=>∃ al am an ao,st = A [(47,Q1 bb),(46,ao),(45,an),(44,am),(43,al)]) ?_ ?_
   ·refine Qj O O l (fun l=>?_) (fun l=>?_)
    ·refine qe O<|qe O<|qe O<|U _ O<|qc ?_;cases l;exact ⟨_,_,_,_,O⟩
    refine U _ O<|U _ O<|U _ O<|U _ O<|qc ?_;cases l;exact ⟨_,_,_,_,O⟩
   rintro _ ⟨al,am,an,ao,rfl⟩;refine qc ?_;refine qy O a (fun _ a=>?_) (fun _ a=>?_)
   ·refine qh<|qf O<|Q8 ?_;refine ⟨_,qz a,fun hm=>?_⟩;subst hm;cases b;exact Qw _ O
   refine Q0<|Qg<|Qr<|Q7<|U _ O<|q0 O<|Q5<|⟨_,qz a,wkA [] [] []⟩
  refine Qo ?_;refine ⟨_,qz a,fun hm=>?_⟩;subst hm;exact ⟨_,O,wkA [] [] []⟩
 intro m hb;subst hb;refine qh<|qf O<|Q8 ?_;cases b;exact Qw _ O
theorem qsr (f : List K9) (a : qa) (r : Int) (k : q5i f a = some r) : Pure Tryz.prog tab 105 [.sl 5 (f.map Yd),.agg (qp a)] (qj r):=by
 unfold q5i at k;refine Kd Tryz.func105 O qm qm O<|qh<|Qn _ _ O<|qf O<|qv<|Qz O O<|Qp 1 _ O<|qc<|qi<|qh<|q0 O<|U _ O<|q9 k fun x y k=>?_;refine Uj [.d (.sl 5 (f.map Yd)),.d (.agg (qp a))] (fun p=>p = x) (fun p=>⟨[(4,qb 0),(5,.ref 0 1 0 0),(10,.fn 131 [.ref 1 1 0 0,.ref 2 2 0 0])],[(0,.dat 1 [[qj 0]]),(1,.dat 1 [[.sl 5 (f.map Yd)]]),(2,.dat 2 [(qp a)])],3⟩) O O Tryz.func123 O qm qm O ?_ ?_
 ·refine qh<|Qn _ _ O<|Qn _ _ O<|qf O<|qv<|U _ O<|qf O<|Q8 ?_;refine ⟨.inr O,_,O,?_⟩;obtain rfl:=qx y;exact ⟨_,O,wkA [(0,1),(1,2),(2,3)] [] []⟩
 intro p hb;subst hb;refine qc<|Qf<|q9 k fun z q k=>?_;refine qn0 (fun n=>n = z) (fun n=>⟨[(5,.ref 0 1 0 0)],[(0,.dat 1 [[qj n]])],1⟩) ?_ ?_
 ·refine Zv (st':=⟨[(4,qb 0),(5,.ref 0 1 0 0),(10,.fn 131 [.ref 1 1 0 0,.ref 2 2 0 0])],[(0,.dat 1 [[qj 0]]),(1,.dat 1 [[.sl 5 (f.map Yd)]]),(2,.dat 2 [(qp a)])],3⟩) (wkA [(0,0),(1,1),(2,2)] [] []) ?_ qd;refine qn2 _ (.inl O) Tryz.func131 O qm qm O ?_;intro A58 B59 hA58 hB59;refine qh<|U _ O<|Ky O<|q0 O<|qc<|q9 q fun aa ab q=>Qf<|Qv (q3k f a) (fun h=>⟨[(0,.yld 3),(2,.ref 2 2 0 0),(9,.d (.sl 5 (f.map Yd))),(10,qb (f.length : Int)),(11,qb h.1)],[(0,.dat 1 [[qj h.2]]),(1,.dat 1 [[.sl 5 (f.map Yd)]]),(2,.dat 2 [(qp a)]),(3,.loop [(4,qb 0),(5,.ref 0 1 0 0),(10,.fn 131 [.ref 1 1 0 0,.ref 2 2 0 0])] [11,12] A58 B59 .ready none)],4⟩) _ aa ab (wkA [] [] []) ?_;intro h ai j;unfold q3k at j;refine qh<|U _ O<|qc<|qi ?_;refine qy O j (fun _ j=>?_) (fun _ j=>?_)
  ·refine Q0<|qi<|q9 j fun ac g j=>?_;refine K6 (fun o=>o = ac) (fun o=>⟨[(0,.yld 3),(2,.ref 2 2 0 0),(9,.d (.sl 5 (f.map Yd))),(10,qb (f.length : Int)),(11,qb h.1)],[(0,.dat 1 [[qj o]]),(1,.dat 1 [[.sl 5 (f.map Yd)]]),(2,.dat 2 [(qp a)]),(3,.loop [(4,qb 0),(5,.ref 0 1 0 0),(10,.fn 131 [.ref 1 1 0 0,.ref 2 2 0 0])] [11,12] A58 B59 .ready none)],4⟩) qd ?_ ?_
   ·refine qh<|q9 g fun b ad g=>Y3 ad O<|U _ O<|Qz O O<|Qp 4 _ O<|qc<|qi<|Qi [q7,q7,q7,qs 4,q7,q7,qs 2,q7,q7,qs 4,q7,q7,qs 2,q7] qm<|U _ O<|U _ O<|U _ O<|U _ O<|U _ O<|U _ O<|U _ O<|U _ O<|U _ O<|U _ O<|U _ O<|U _ O<|qf O<|qf O<|qv<|q0 O<|q0 O<|U _ O<|J7 (r:=max (w64 (a.X - b.At.X)) (w64 (0 - (w64 (a.X - b.At.X))))) O O (by simp only [J6];rfl)<|q0 O<|q0 O<|U _ O<|J7 (r:=max (w64 (a.Y - b.At.Y)) (w64 (0 - (w64 (a.Y - b.At.Y))))) O O (by simp only [J6];rfl)<|qf O<|qf O<|qc<|qi<|qh<|q0 O<|q0 O<|J7 (r:=max (max (w64 (a.X - b.At.X)) (w64 (0 - (w64 (a.X - b.At.X))))) (max (w64 (a.Y - b.At.Y)) (w64 (0 - (w64 (a.Y - b.At.Y)))))) O O (by simp only [J6];rfl) ?_;refine U _ O<|U _ O<|U _ O<|qc ?_;refine qy O g (fun _ g=>?_) (fun _ g=>?_)
    ·refine Qo ?_;obtain rfl:=qx g;exact ⟨_,O,wkA [] [] []⟩
    refine Q0<|qh<|qf O<|qc<|qi<|q9 g fun ae c g=>?_;refine K6 (fun l=>l = ae) (fun l=>⟨[(0,.yld 3),(2,.ref 2 2 0 0),(5,.ref 4 5 0 0),(6,.d (qj (max (w64 (a.X - b.At.X)) (w64 (0 - (w64 (a.X - b.At.X))))))),(7,.d (qj (max (w64 (a.Y - b.At.Y)) (w64 (0 - (w64 (a.Y - b.At.Y))))))),(8,qb l),(9,.d (.sl 5 (f.map Yd))),(10,qb (f.length : Int)),(11,qb h.1)],[(0,.dat 1 [[qj h.2]]),(1,.dat 1 [[.sl 5 (f.map Yd)]]),(2,.dat 2 [(qp a)]),(3,.loop [(4,qb 0),(5,.ref 0 1 0 0),(10,.fn 131 [.ref 1 1 0 0,.ref 2 2 0 0])] [11,12] A58 B59 .ready none),(4,.dat 5 [(Yd b)])],5⟩) qd ?_ ?_
    ·refine qh<|U _ O<|U _ O<|U _ O<|qf O<|qc ?_;refine qy O c (fun _ c=>?_) (fun _ c=>?_)
     ·refine Q7<|qf O<|Q5 ?_;obtain rfl:=qx c;exact ⟨_,O,wkA [(4,4)] [] []⟩
     refine qh<|U _ O<|U _ O<|U _ O<|qf O<|qc ?_;refine qy O c (fun _ c=>?_) (fun _ c=>?_)
     ·refine Q7<|qf O<|Q5 ?_;obtain rfl:=qx c;exact ⟨_,O,wkA [(4,4)] [] []⟩
     refine qh<|U _ O<|U _ O<|U _ O<|q0 O<|q0 O<|U _ O<|U _ O<|q9 c fun af m c=>?_;refine Qk 5 (fun A st=>∃ t u v w,st = A [(61,Q1 af),(60,w),(59,v),(58,u),(57,t)]) ?_ ?_
     ·refine Qj O O m (fun m=>?_) (fun m=>?_)
      ·refine q0 O<|q0 O<|U _ O<|U _ O<|qc ?_;cases m;exact ⟨_,_,_,_,O⟩
      refine qe O<|qe O<|qe O<|U _ O<|qc ?_;cases m;exact ⟨_,_,_,_,O⟩
     rintro _ ⟨t,u,v,w,rfl⟩;refine qf O<|qc ?_;refine qy O c (fun _ c=>?_) (fun _ c=>?_)
     ·refine Q7<|qf O<|Q5 ?_;obtain rfl:=qx c;exact ⟨_,O,wkA [(4,4)] [] []⟩
     refine qh<|q0 O<|q0 O<|U _ O<|qf O<|qc ?_;refine qy O c (fun _ c=>?_) (fun _ c=>?_)
     ·refine Q7<|qf O<|Q5 ?_;obtain rfl:=qx c;exact ⟨_,O,wkA [(4,4)] [] []⟩
     refine Q0<|Qg ?_;obtain rfl:=qx c;exact ⟨_,O,wkA [(4,4)] [] []⟩
    intro l hb;subst hb;refine qh<|q0 O<|U _ O<|q0 O<|U _ O<|U _ O<|U _ O<|U _ O<|U _ O<|U _ O<|q0 O<|q0 O<|J7 (r:=max (max (w64 (a.X - b.At.X)) (w64 (0 - (w64 (a.X - b.At.X))))) (max (w64 (a.Y - b.At.Y)) (w64 (0 - (w64 (a.Y - b.At.Y)))))) O O (by simp only [J6];rfl)<|U _ O<|U _ O<|q9 g fun ag ah g=>?_;refine qlx (fun s=>s = ag) (fun s=>⟨[(0,.yld 3),(2,.ref 2 2 0 0),(9,.d (.sl 5 (f.map Yd))),(10,qb (f.length : Int)),(11,qb h.1),(80,Q1 true)],[(0,.dat 1 [[qj (w64 (h.2 + (w64 ((w64 (l * b.Weight)) * (w64 ((w64 (b.Reach + 1)) - (max (max (w64 (a.X - b.At.X)) (w64 (0 - (w64 (a.X - b.At.X))))) (max (w64 (a.Y - b.At.Y)) (w64 (0 - (w64 (a.Y - b.At.Y))))))))))))]]),(1,.dat 1 [[.sl 5 (f.map Yd)]]),(2,.dat 2 [(qp a)]),(3,.loop [(4,qb 0),(5,.ref 0 1 0 0),(10,.fn 131 [.ref 1 1 0 0,.ref 2 2 0 0])] [11,12] A58 B59 .ready none)],4⟩) hA58 hB59 O O O O O O ?_ ?_
    ·refine Q7<|qf O<|Q5 ?_;refine ⟨O,_,O,?_⟩;refine Qf<|Q7<|U _ O<|q0 O<|U _ O<|Qp 0 _ O<|Q5<|Qr<|Qg ?_;refine ⟨_,O,?_⟩;obtain rfl:=qx ah;exact ⟨_,O,wkA [] [] []⟩
    intro s hb;subst hb;refine U _ O<|qc<|Uk O<|Q0<|Qg ?_;obtain rfl:=qx g;exact ⟨_,O,wkA [] [] []⟩
   intro o hb;subst hb;refine Q7<|U _ O<|q0 O<|Q5<|⟨_,qz j,wkA [] [] []⟩
  refine Qo ?_;refine ⟨_,qz j,fun hm=>?_⟩;subst hm;refine ⟨.inl O,_,O,_,_,.nor,O,qq,?_⟩;refine qhu<|Qg ?_;obtain rfl:=qx q;exact ⟨_,O,wkA [(0,0)] [] []⟩
 intro n st hb hw;subst hb;refine Zv hw ?_ qd;refine qh<|U _ O<|qf O<|Q8 ?_;cases k;exact Qw _ O
theorem qsq (b : List K9) (c : qa) (r : Int) (a : q3i b c = some r) : Pure Tryz.prog tab 88 [.sl 5 (b.map Yd),.agg (qp c)] (.int .u8 r):=by
 unfold q3i at a;refine Kd Tryz.func88 O qm qm O<|qh<|Qn _ _ O<|qf O<|qc<|qi<|qh<|q0 O<|U _ O<|q9 a fun d f a=>Q4 (qsr b c d f) O<|qf O<|qc<|Qf<|qh<|q0 O<|U _ O<|qf O<|qc ?_;refine qy O a (fun _ a=>?_) (fun _ a=>?_)
 ·refine qh<|qf O<|Q8 ?_;cases a;exact Qw _ O
 refine qh<|q0 O<|U _ O<|qf O<|qc ?_;refine qy O a (fun _ a=>?_) (fun _ a=>?_)
 ·refine qh<|qf O<|Q8 ?_;cases a;exact Qw _ O
 refine Q0<|Qg<|Qr<|qh<|qf O<|Q8 ?_;cases a;exact Qw _ O
theorem qsp (f : List K9) (p : qa) (q : Int) (g : Int) (r : List qa × Int) (b : q1n f p q g = some r) : Pure Tryz.prog tab 68 [.sl 5 (f.map Yd),.agg (qp p),.int .u8 q,qj g] (.tup [.sl 2 (r.1.map qp),qj r.2]):=by
 unfold q1n at b;refine Kd Tryz.func68 O qm qm O<|qh<|Qn _ _ O<|qf O<|qf O<|qc<|qi<|qh<|q0 O<|q9 b fun r1 h2 b=>Q4 (qjo f r1 h2) O<|qf O<|qv<|q0 O<|U _ O<|qc ?_;refine qy O b (fun _ b=>?_) (fun _ b=>?_)
 ·refine qh<|q0 O<|qf O<|qf O<|Q8 ?_;obtain rfl:=qx b;exact finD (.inr O) O O (Zy (.cons (.nil _) (.cons (.refl _) .nil)))
 refine Q0<|qi<|qh<|U _ O<|q9 b fun r3 h4 b=>Q4 (qez p r3 h4) O<|U _ O<|q9 b fun c5 h b=>?_;refine Qk 4 (fun A st=>∃ s t u,st = A [(25,Q1 c5),(24,u),(23,t),(22,s)]) ?_ ?_
 ·refine Qj O O h (fun h=>?_) (fun h=>?_)
  ·refine qe O<|qe O<|U _ O<|qc ?_;cases h;exact ⟨_,_,_,O⟩
  refine q0 O<|U _ O<|U _ O<|qc ?_;cases h;exact ⟨_,_,_,O⟩
 rintro _ ⟨s,t,u,rfl⟩;refine q9 b fun aq j b=>?_;refine Qk 4 (fun A st=>∃ v w x,st = A [(29,Q1 aq),(28,x),(27,w),(26,v)]) ?_ ?_
 ·refine Qj O O j (fun j=>?_) (fun j=>?_)
  ·refine qe O<|qe O<|U _ O<|qc ?_;cases j;exact ⟨_,_,_,O⟩
  refine q0 O<|U _ O<|U _ O<|qc ?_;cases j;exact ⟨_,_,_,O⟩
 rintro _ ⟨v,w,x,rfl⟩;refine q9 b fun ar k b=>?_;refine Qk 4 (fun A st=>∃ y z aa,st = A [(33,Q1 ar),(32,aa),(31,z),(30,y)]) ?_ ?_
 ·refine Qj O O k (fun k=>?_) (fun k=>?_)
  ·refine qe O<|qe O<|U _ O<|qc ?_;cases k;exact ⟨_,_,_,O⟩
  refine q0 O<|U _ O<|U _ O<|qc ?_;cases k;exact ⟨_,_,_,O⟩
 rintro _ ⟨y,z,aa,rfl⟩;refine qc ?_;refine qy O b (fun _ b=>?_) (fun _ b=>?_)
 ·refine qh<|qf O<|qf O<|Q8 ?_;obtain rfl:=qx b;exact finD (.inr O) O O (Zy (.cons (.nil _) (.cons (.refl _) .nil)))
 refine Q0<|qh<|U _ O<|U _ O<|U _ O<|U _ O<|U _ O<|Qz O O<|Qp 1 _ O<|qv<|U _ O<|Qn _ _ O<|qf O<|qc<|qi<|qh<|q0 O<|q0 O<|qc<|q9 b fun ab au b=>?_;refine K6 (fun l=>.inl l = ab) (fun l=>⟨[(12,.hs 0 2 0 l.length)],[(0,.dat 2 (l.map qp))],1⟩) qd ?_ ?_
 ·refine Qv (q2m g f) (fun c=>⟨[(0,.d (.sl 5 (f.map Yd))),(2,.d (.int .u8 c.1)),(5,.ref 0 2 0 0),(11,.ref 1 8 0 0),(12,.hs 2 2 0 c.2.2.2.2.length),(41,qb g),(42,qb c.2.1)],[(0,.dat 2 [[qj c.2.2.1,qj c.2.2.2.1]]),(1,.dat 8 [[({X:=1,Y:=0} : qa),({X:=0,Y:=1} : qa),({X:=(-1),Y:=0} : qa),({X:=0,Y:=(-1)} : qa)].flatMap qp]),(2,.dat 2 (c.2.2.2.2.map qp))],3⟩) _ ab au (wkA [(0,0),(1,1),(2,2)] [] []) ?_;intro c bc a;unfold q2m at a;refine qh<|U _ O<|qc<|qi ?_;refine qy O a (fun _ a=>?_) (fun _ a=>?_)
  ·refine Q0<|qi<|Qf<|qi<|qh<|q0 O<|U _ O<|q9 a fun av aw a=>Q4 (qsq f ({X:=c.2.2.1,Y:=c.2.2.2.1} : qa) av aw) O<|qf O<|qv<|q0 O<|U _ O<|q9 a fun ax m a=>?_;refine Qk 6 (fun A st=>∃ ac ad ae af ag,st = A [(54,Q1 ax),(53,ag),(52,af),(51,ae),(50,ad),(49,ac)]) ?_ ?_
   ·refine Qj O O m (fun m=>?_) (fun m=>?_)
    ·refine q0 O<|U _ O<|q0 O<|U _ O<|U _ O<|qc ?_;cases m;exact ⟨_,_,_,_,_,O⟩
    refine qe O<|qe O<|qe O<|qe O<|U _ O<|qc ?_;cases m;exact ⟨_,_,_,_,_,O⟩
   rintro _ ⟨ac,ad,ae,af,ag,rfl⟩;refine qc<|q9 a fun ay n a=>?_;refine Y5 (fun o=>o = ay) (fun o=>⟨[(0,.d (.sl 5 (f.map Yd))),(2,.d (.int .u8 o)),(5,.ref 0 2 0 0),(11,.ref 1 8 0 0),(12,.hs 2 2 0 c.2.2.2.2.length),(41,qb g),(42,qb c.2.1)],[(0,.dat 2 [[qj c.2.2.1,qj c.2.2.2.1]]),(1,.dat 8 [[({X:=1,Y:=0} : qa),({X:=0,Y:=1} : qa),({X:=(-1),Y:=0} : qa),({X:=0,Y:=(-1)} : qa)].flatMap qp]),(2,.dat 2 (c.2.2.2.2.map qp))],3⟩) qd ?_ ?_
   ·refine qy O n (fun _ n=>?_) (fun _ n=>?_)
    ·refine Q7<|q0 O<|U _ O<|U _ O<|qf O<|Q5 ?_;obtain rfl:=qx n;exact ⟨_,O,wkA [(0,0),(1,1),(2,2)] [] []⟩
    refine Q0<|Qg ?_;obtain rfl:=qx n;exact ⟨_,O,wkA [(0,0),(1,1),(2,2)] [] []⟩
   intro o hb;subst hb;refine qi<|Qi [Ql 0,q7,q7,qs 1,q7,q7,q7,qs 0,q7,q7,qs 1,q7,q7,q7,qs 0,q7] qm<|U _ O<|U _ O<|q0 O<|q9 a fun ah ai a=>q63 ai O O O O O<|U _ O<|qlu (enc:=qp) (qb ah.X) ai (fun _=>rfl) O O O O O O<|U _ O<|U _ O<|U _ O<|q0 O<|q9 a fun aj ak a=>q63 ak O O O O O<|U _ O<|qlu (enc:=qp) (qb aj.Y) ak (fun _=>rfl) O O O O O O<|U _ O<|U _ O<|Qp 0 _ O<|qc<|qi<|qh<|U _ O<|q9 a fun az ba a=>Q4 (qez ({X:=w64 (c.2.2.1 + ah.X),Y:=w64 (c.2.2.2.1 + aj.Y)} : qa) az ba) O<|U _ O<|qc ?_;refine qy O a (fun _ a=>?_) (fun _ a=>?_)
   ·refine qh<|qf O<|qf O<|Q8 ?_;refine ⟨_,qz a,fun hm=>?_⟩;subst hm;obtain rfl:=qx b;exact finD (.inr O) O O (Zy (.cons (.nil _) (.cons (.refl _) .nil)))
   refine Q0<|Q7<|q0 O<|U _ O<|Qn _ _ O<|q9 a fun bd bb a=>q15 _ bb O O O O O O O (q2f O O) O O O O<|qf O<|Q5<|Qr<|Q7<|U _ O<|q0 O<|Q5<|⟨_,qz a,wkA [(0,0),(1,1),(2,4)] [] []⟩
  refine Qo ?_;refine ⟨_,qz a,fun hm=>?_⟩;subst hm;exact ⟨_,O,wkA [(0,2)] [] []⟩
 intro l hb;subst hb;refine qh<|q0 O<|qf O<|qf O<|Q8 ?_;obtain rfl:=qx b;exact finD (.inr O) O (qhb (Kr (Ks O O) (Kr O O))) (.refl _)
theorem q112 (b : List qa) (f : qa) (r : Int) (c : q95 b f = some r) : Pure Tryz.prog tab 69 [.sl 2 (b.map qp),.agg (qp f)] (qj r):=by
 unfold q95 at c;refine Kd Tryz.func69 O qm qm O<|qh<|Qn _ _ O<|qf O<|qc<|qi<|qh<|q0 O<|Ky O<|q0 O<|qc<|q9 c fun h k c=>?_;refine K6 (fun g=>.inl g = h) (fun g=>⟨[],[],0⟩) qd ?_ ?_
 ·refine Qv (q33 b f) (fun j=>⟨[(0,.d (.sl 2 (b.map qp))),(3,.ref 0 2 0 0),(7,qb (b.length : Int)),(8,qb j)],[(0,.dat 2 [(qp f)])],1⟩) _ h k (wkA [(0,0)] [] []) ?_;intro j m a;unfold q33 at a;refine qh<|U _ O<|qc<|qi ?_;refine qy O a (fun _ a=>?_) (fun _ a=>?_)
  ·refine Q0<|qi<|Qf<|qh<|q0 O<|qf O<|qc<|qi<|Qi [q7,q7,q7,q7,q7,qs 0] qm<|U _ O<|q0 O<|q0 O<|q9 a fun n l a=>Y3 l O<|U _ O<|U _ O<|qc ?_;refine qy O a (fun _ a=>?_) (fun _ a=>?_)
   ·refine qh<|q0 O<|qf O<|Q8 ?_;refine ⟨_,qz a,fun hm=>?_⟩;subst hm;cases c;exact Qw _ O
   refine Q0<|Qg<|Qr<|Q7<|U _ O<|q0 O<|Q5<|⟨_,qz a,wkA [(0,0)] [] []⟩
  refine Qo ?_;refine ⟨_,qz a,fun hm=>?_⟩;subst hm;exact ⟨_,O,wkA [] [] []⟩
 intro g hb;subst hb;refine qh<|qf O<|Q8 ?_;cases c;exact Qw _ O
theorem q12z (k : List K9) (g : Ka) (t : List qt) (u : List (qa × Bool)) (r : Int × (List (qa × Bool)) × List qt) (l : q3a  k g t u = some r) : K3 Tryz.prog tab 49 [.d (.sl 5 (k.map Yd)),.d (.agg [qj (((g).At).X),qj (((g).At).Y),.int .u8 ((g).Head),qj ((g).Steps)]),.hs 0 4 0 t.length,.mp 1] [(0,.dat 4 (t.map Kw)),(1,.mp false (Qu (fun n : qa=>DV.agg (qp n)) DV.bool u))] 2 (.tup [.hs 2 4 0 r.2.2.length,qb r.1]) [(1,.mp false (Qu (fun n : qa=>DV.agg (qp n)) DV.bool r.2.1)),(2,.dat 4 (r.2.2.map Kw))] 3:=by
 unfold q3a at l;refine Kj Tryz.func49 O qm qm O<|qh<|Qn _ _ O<|qf O<|qf O<|qc<|qi<|Qi [q7,Ql 3,(some [],[3]),qs 2,q7,qs 2,q7] qm<|U _ O<|U _ O<|U _ O<|U _ O<|Qz O O<|Qp 3 _ O<|qf O<|qc<|qi<|qh<|U _ O<|U _ O<|q0 O<|qc<|q9 l fun v aj l=>?_;refine K6 (fun m=>.inl m = v) (fun m=>⟨[(2,.hs 2 4 0 m.2.length)],[(1,.mp false (Qu (fun n : qa=>DV.agg (qp n)) DV.bool m.1)),(2,.dat 4 (m.2.map Kw))],3⟩) qd ?_ ?_
 ·refine Qv (Z5 g k) (fun f=>⟨[(0,.d (.sl 5 (k.map Yd))),(2,.hs 2 4 0 f.2.2.2.1.length),(3,.mp 1),(5,.ref 3 4 0 0),(10,.ref 4 2 0 0),(11,.d (.int .u8 f.1)),(23,.d (qj ((g).Steps))),(24,qb f.2.1)],[(1,.mp false (Qu (fun n : qa=>DV.agg (qp n)) DV.bool f.2.2.1)),(2,.dat 4 (f.2.2.2.1.map Kw)),(3,.dat 4 [[qj (((g).At).X),qj (((g).At).Y),.int .u8 ((g).Head),qj ((g).Steps)]]),(4,.dat 2 [[qj f.2.2.2.2.1,qj f.2.2.2.2.2]])],5⟩) _ v aj (wkA [(2,0),(3,2),(4,3)] [] []) ?_;intro f av c;unfold Z5 at c;refine qh<|U _ O<|qc<|qi ?_;refine qy O c (fun _ c=>?_) (fun _ c=>?_)
  ·refine Q0<|qi<|Qf<|qh<|q0 O<|qf O<|qv<|q0 O<|U _ O<|q0 O<|q9 c fun ak al c=>Q4 (qsp k ({X:=f.2.2.2.2.1,Y:=f.2.2.2.2.2} : qa) f.1 1 ak al) O<|q0 O<|U _ O<|U _ O<|qf O<|qf O<|qc<|qi<|qh<|q0 O<|U _ O<|qc ?_;refine qy O c (fun _ c=>?_) (fun _ c=>?_)
   ·refine qh<|q0 O<|qf O<|qf O<|Q8 ?_;refine ⟨_,qz c,fun hm=>?_⟩;subst hm;obtain rfl:=qx l;exact ⟨.inr O,_,O,wkA [] [] [2]⟩
   refine Q0<|qh<|q0 O<|q9 c fun j am c=>Y3 am O<|U _ O<|Qz O O<|Qp 5 _ O<|qv<|U _ O<|U _ O<|U _ O<|U _ O<|Qn _ _ O<|U _ O<|U _ O<|U _ O<|U _ O<|U _ O<|U _ O<|U _ O<|U _ O<|U _ O<|U _ O<|U _ O<|q9 c fun w an c=>Yu [.hs 6 2 0 [({X:=1,Y:=0} : qa),({X:=0,Y:=1} : qa),({X:=(-1),Y:=0} : qa),({X:=0,Y:=(-1)} : qa)].length,.d (.agg [qj (w64 (j.X - f.2.2.2.2.1)),qj (w64 (j.Y - f.2.2.2.2.2))])] (q112 [({X:=1,Y:=0} : qa),({X:=0,Y:=1} : qa),({X:=(-1),Y:=0} : qa),({X:=0,Y:=(-1)} : qa)] ({X:=w64 (j.X - f.2.2.2.2.1),Y:=w64 (j.Y - f.2.2.2.2.2)} : qa) w an) O O (Kp (Ks O O) (Kp O O)) (.inr O)<|U _ O<|qf O<|qc<|qi<|qh<|q0 O<|U _ O<|q9 c fun ao o c=>?_;refine Qk 5 (fun A st=>∃ x y z aa,st = A [(64,Q1 ao),(63,aa),(62,z),(61,y),(60,x)]) ?_ ?_
   ·refine Qj O O o (fun o=>?_) (fun o=>?_)
    ·refine q0 O<|q0 O<|U _ O<|U _ O<|qc ?_;cases o;exact ⟨_,_,_,_,O⟩
    refine qe O<|qe O<|qe O<|U _ O<|qc ?_;cases o;exact ⟨_,_,_,_,O⟩
   rintro _ ⟨x,y,z,aa,rfl⟩;refine qc<|q9 c fun ap h c=>?_;refine Y5 (fun q=>.inl q = ap) (fun q=>⟨[(0,.d (.sl 5 (k.map Yd))),(2,.hs 2 4 0 q.length),(3,.mp 1),(5,.ref 3 4 0 0),(10,.ref 4 2 0 0),(15,.ref 5 2 0 0),(16,.d (.int .u8 (IntKind.wrap .u8 w))),(23,.d (qj ((g).Steps))),(24,qb f.2.1)],[(1,.mp false (Qu (fun n : qa=>DV.agg (qp n)) DV.bool f.2.2.1)),(2,.dat 4 (q.map Kw)),(3,.dat 4 [[qj (((g).At).X),qj (((g).At).Y),.int .u8 ((g).Head),qj ((g).Steps)]]),(4,.dat 2 [[qj f.2.2.2.2.1,qj f.2.2.2.2.2]]),(5,.dat 2 [(qp j)])],6⟩) qd ?_ ?_
   ·refine qy O h (fun _ h=>?_) (fun _ h=>?_)
    ·refine Q7<|q0 O<|q0 O<|U _ O<|U _ O<|U _ O<|q9 h fun aq ab h=>qo ab O O<|U _ O<|Qt ({A:=aq.A,B:=j} : qt) ab O O O O O O O O (leb O) O<|Q5 ?_;obtain rfl:=qx h;exact ⟨_,O,wkE [(2,2),(3,3),(4,4),(5,5)] [] [] O ⟨qk O,⟨_,O,K0 qd O qq (ltd O)⟩,⟨_,O,.mp O qq (ltd O)⟩,⟨_,O,.ref O qq (ltd O)⟩,⟨_,O,.ref O qq (ltd O)⟩,⟨_,O,.ref O qq (ltd O)⟩,qk O,qk O,qk O,trivial⟩ ⟨⟨ltd O,.inr ⟨qq,_,O,.mpP (.refl _)⟩⟩,Qq O O,Qq O O,Qq O O,Qq O O,trivial⟩⟩
    refine qh<|q0 O<|U _ O<|U _ O<|U _ O<|Qn _ _ O<|q9 h fun aw ar h=>q15 _ ar O O O O O O O (q2f O O) O O O O<|qf O<|qv<|q0 O<|U _ O<|U _ O<|qc ?_;refine qy O h (fun _ h=>?_) (fun _ h=>?_)
    ·refine qh<|qf O<|qf O<|Q8 ?_;obtain rfl:=qx h;refine ⟨_,qz c,fun hm=>?_⟩;subst hm;obtain rfl:=qx l;exact ⟨.inr O,_,O,wkA [] [] [2]⟩
    refine Q0<|Qg ?_;obtain rfl:=qx h;exact ⟨_,O,wkA [(2,8),(3,3),(4,4),(5,5)] [] []⟩
   intro q hb;subst hb;refine qh<|q0 O<|U _ O<|qg3 (ek:=(fun n : qa=>DV.agg (qp n))) (ev:=DV.bool) (es:=f.2.2.1) (keyS (fun p : qa=>p.X) (fun p=>p.Y) (fun a b h1 h2=>by cases a;cases b;simp_all)) false j O O O O O O O<|q9 c fun au s c=>?_;refine Qk 6 (fun A st=>∃ ae af ag ah ai,st = A [(89,Q1 au),(88,ai),(87,ah),(86,ag),(85,af),(84,ae)]) ?_ ?_
   ·refine Qj O O s (fun s=>?_) (fun s=>?_)
    ·refine qe O<|qe O<|qe O<|qe O<|U _ O<|qc ?_;cases s;exact ⟨_,_,_,_,_,O⟩
    refine U _ O<|U _ O<|U _ O<|U _ O<|U _ O<|qc ?_;cases s;exact ⟨_,_,_,_,_,O⟩
   rintro _ ⟨ae,af,ag,ah,ai,rfl⟩;refine qf O<|qc<|qi<|Qi [Ql 1,Ql 1,qs 5,q7,qs 4,q7] qm<|q0 O<|U _ O<|q0 O<|U _ O<|q3r (ek:=(fun n : qa=>DV.agg (qp n))) (ev:=DV.bool) (es:=f.2.2.1) (keyS (fun p : qa=>p.X) (fun p=>p.Y) (fun a b h1 h2=>by cases a;cases b;simp_all)) ({X:=f.2.2.2.2.1,Y:=f.2.2.2.2.2} : qa) true O O O O O O O O<|q3r (ek:=(fun n : qa=>DV.agg (qp n))) (ev:=DV.bool) (es:=(K8 ({X:=f.2.2.2.2.1,Y:=f.2.2.2.2.2} : qa) true f.2.2.1)) (keyS (fun p : qa=>p.X) (fun p=>p.Y) (fun a b h1 h2=>by cases a;cases b;simp_all)) j true O O O O O O O O<|qv<|U _ O<|q0 O<|Qp 4 _ O<|qf O<|qv<|q0 O<|qc ?_;refine qy O c (fun _ c=>?_) (fun _ c=>?_)
   ·refine Qo ?_;refine ⟨_,qz c,fun hm=>?_⟩;subst hm;exact ⟨_,O,wkA [(2,2)] [] []⟩
   refine Q0<|Qg<|Qr<|Q7<|U _ O<|q0 O<|Q5<|⟨_,qz c,wkA [(2,2),(3,3),(4,4)] [] []⟩
  refine Qo ?_;refine ⟨_,qz c,fun hm=>?_⟩;subst hm;exact ⟨_,O,wkA [(2,2)] [] []⟩
 intro m hb;subst hb;refine qh<|q0 O<|qf O<|qf O<|Q8 ?_;obtain rfl:=qx l;exact ⟨.inr O,_,O,wkA [(2,2)] [] []⟩
theorem q50 (c : List qt) (r : Qd × Int) (a : Zf c = some r) : Pure Tryz.prog tab 28 [.sl 4 (c.map Kw)] (.tup [.agg [.sl 2 (r.1.Nodes.map qp),.sl 2 (r.1.Edges.map Q2)],qj r.2]):=by
 unfold Zf at a;refine Kd Tryz.func28 O qm qm O<|qh<|Qz O O<|qf O<|qc<|qi<|qh<|q0 O<|Ky O<|U _ O<|qc ?_;refine qy O a (fun _ a=>?_) (fun _ a=>?_)
 ·refine qh<|U _ O<|Qp 0 _ O<|qf O<|Q8 ?_;obtain rfl:=qx a;exact finD (.inr O) O O (Zy (.cons (U7 (.cons (.nil _) (.cons (.nil _) .nil))) (.cons (.refl _) .nil)))
 refine Q0<|qi<|qh<|q0 O<|Ky O<|q0 O<|qc<|q9 a fun g j a=>?_;refine K6 (fun f=>.inl f = g) (fun f=>⟨[(0,.d (.sl 4 (c.map Kw))),(2,.ref 0 2 0 0)],[(0,.dat 2 [[.nilsl,.nilsl]])],1⟩) qd ?_ ?_
 ·refine Qv (q7a c) (fun h=>⟨[(0,.d (.sl 4 (c.map Kw))),(2,.ref 0 2 0 0),(12,.d (.sl 4 (c.map Kw))),(13,qb (c.length : Int)),(14,qb h)],[(0,.dat 2 [[.nilsl,.nilsl]])],1⟩) _ g j (wkA [(0,0)] [] []) ?_;intro h q b;unfold q7a at b;refine qh<|U _ O<|qc<|qi ?_;refine qy O b (fun _ b=>?_) (fun _ b=>?_)
  ·refine Q0<|qi<|Qf<|qh<|q9 b fun k l b=>Y3 l O<|U _ O<|Qz O O<|Qp 1 _ O<|qv<|U _ O<|q9 b fun m n b=>Q4 (qo4 k m n) O<|U _ O<|qc ?_;refine qy O b (fun _ b=>?_) (fun _ b=>?_)
   ·refine qh<|U _ O<|Qp 0 _ O<|qf O<|Q8 ?_;refine ⟨_,qz b,fun hm=>?_⟩;subst hm;obtain rfl:=qx a;exact finD (.inr O) O O (Zy (.cons (U7 (.cons (.nil _) (.cons (.nil _) .nil))) (.cons (.refl _) .nil)))
   refine Q0<|Qg<|Qr<|Q7<|U _ O<|q0 O<|Q5<|⟨_,qz b,wkA [(0,0)] [] []⟩
  refine Qo ?_;refine ⟨_,qz b,fun hm=>?_⟩;subst hm;exact ⟨_,O,wkA [(0,0)] [] []⟩
 intro f hb;subst hb;refine qh<|q0 O<|q9 a fun o p a=>Q4 (qo3 c o p) O<|q0 O<|U _ O<|U _ O<|Qz O O<|Qp 1 _ O<|qf O<|qc<|qi<|qh<|q0 O<|U _ O<|qc ?_;refine qy O a (fun _ a=>?_) (fun _ a=>?_)
 ·refine qh<|U _ O<|Qp 0 _ O<|qf O<|Q8 ?_;obtain rfl:=qx a;exact finD (.inr O) O O (Zy (.cons (U7 (.cons (.nil _) (.cons (.nil _) .nil))) (.cons (.refl _) .nil)))
 refine Q0<|qh<|U _ O<|Qp 0 _ O<|qf O<|Q8 ?_;cases a;exact Qw _ O
theorem q4z (k : List K9) (h : List Ka) (r : Qd × Int) (b : Z4 k h = some r) : Pure Tryz.prog tab 24 [.sl 5 (k.map Yd),.sl 4 (h.map Je)] (.tup [.agg [.sl 2 (r.1.Nodes.map qp),.sl 2 (r.1.Edges.map Q2)],qj r.2]):=by
 unfold Z4 at b;refine Kd Tryz.func24 O qm qm O<|qh<|Qz O O<|qf O<|qc<|qi<|qh<|q0 O<|q9 b fun u h2 b=>Q4 (qjo k u h2) O<|qf O<|qv<|q0 O<|U (Q1 (u != 0)) O<|qc ?_;refine qy O b (fun _ b=>?_) (fun _ b=>?_)
 ·refine qh<|U (.d (.agg [.nilsl,.nilsl])) O<|q0 O<|Qp 0 (.dat 2 [[.nilsl,.nilsl]]) O<|qf O<|Q8 ?_;obtain rfl:=qx b;exact finD (.inr O) (v:=.d (.tup [.agg [.nilsl,.nilsl],qj u])) O O (Zy (.cons (U7 (.cons (.nil _) (.cons (.nil _) .nil))) (.cons (.refl _) .nil)))
 refine Q0<|qi<|qh<|q0 O<|Ky O<|U (.d (.bool (decide ((h.length : Int) > 30)))) O<|qc ?_;refine qy O b (fun _ b=>?_) (fun _ b=>?_)
 ·refine qh<|U (.d (.agg [.nilsl,.nilsl])) O<|Qp 0 (.dat 2 [[.nilsl,.nilsl]]) O<|qf O<|Q8 ?_;obtain rfl:=qx b;exact finD (.inr O) (v:=.d (.tup [.agg [.nilsl,.nilsl],qj 4])) O O (Zy (.cons (U7 (.cons (.nil _) (.cons (.nil _) .nil))) (.cons (.refl _) .nil)))
 refine Q0<|qi<|qh<|q0 O<|Ky O<|q0 O<|qc<|q9 b fun x an b=>?_;refine K6 (fun w=>.inl w = x) (fun (w : Unit)=>⟨[(0,.d (.sl 5 (k.map Yd))),(1,.d (.sl 4 (h.map Je))),(4,.ref 0 2 0 0)],[(0,.dat 2 [[.nilsl,.nilsl]])],1⟩) qd ?_ ?_
 ·refine Qv (q36 h) (fun (t : Int)=>⟨[(0,.d (.sl 5 (k.map Yd))),(1,.d (.sl 4 (h.map Je))),(4,.ref 0 2 0 0),(24,.d (.sl 4 (h.map Je))),(25,qb (h.length : Int)),(26,qb t)],[(0,.dat 2 [[.nilsl,.nilsl]])],1⟩) 0 x an (wkA [(0,0)] [] []) ?_;intro t az c;unfold q36 at c;refine qh<|U (.d (.bool (decide (t < (h.length : Int))))) O<|qc<|qi ?_;refine qy O c (fun _ c=>?_) (fun _ c=>?_)
  ·refine Q0<|qi<|Qf<|qh<|q9 c fun f ao c=>Y3 (enc:=Je) ao O<|U (.d (.agg [qj f.At.X,qj f.At.Y,.int .u8 f.Head,qj f.Steps])) O<|Qz O O<|Qp 1 (.dat 4 [[qj f.At.X,qj f.At.Y,.int .u8 f.Head,qj f.Steps]]) O<|qv<|U (.ref 1 4 0 0) O<|U (.d (.agg [qj f.At.X,qj f.At.Y])) O<|q9 c fun y ap c=>Q4 (qh5 f.At y ap) O<|U (Q1 (!y)) O<|q9 c fun aq p c=>?_;refine Qk 5 (fun A st=>∃ (z aa ab ac : V),st = A [(38,Q1 aq),(37,ac),(36,ab),(35,aa),(34,z)]) ?_ ?_
   ·refine Qj O O p (fun p=>?_) (fun p=>?_)
    ·refine qe O<|qe O<|qe O<|U (Q1 true) O<|qc ?_;cases p;exact ⟨_,_,_,_,O⟩
    refine U (.ref 1 4 0 2) O<|U (.d (.int .u8 f.Head)) O<|U (.d (.bool (decide (f.Head > 3)))) O<|U (.d (.bool (decide (f.Head > 3)))) O<|qc ?_;cases p;exact ⟨_,_,_,_,O⟩
   rintro _ ⟨z,aa,ab,ac,rfl⟩;refine q9 c fun ar q c=>?_;refine Qk 5 (fun A st=>∃ (ad ae af ag : V),st = A [(43,Q1 ar),(42,ag),(41,af),(40,ae),(39,ad)]) ?_ ?_
   ·refine Qj O O q (fun q=>?_) (fun q=>?_)
    ·refine qe O<|qe O<|qe O<|U (Q1 true) O<|qc ?_;cases q;exact ⟨_,_,_,_,O⟩
    refine U (.ref 1 4 0 3) O<|U (qb f.Steps) O<|U (.d (.bool (decide (f.Steps < 0)))) O<|U (.d (.bool (decide (f.Steps < 0)))) O<|qc ?_;cases q;exact ⟨_,_,_,_,O⟩
   rintro _ ⟨ad,ae,af,ag,rfl⟩;refine q9 c fun au s c=>?_;refine Qk 5 (fun A st=>∃ (ah ai aj ak : V),st = A [(48,Q1 au),(47,ak),(46,aj),(45,ai),(44,ah)]) ?_ ?_
   ·refine Qj O O s (fun s=>?_) (fun s=>?_)
    ·refine qe O<|qe O<|qe O<|U (Q1 true) O<|qc ?_;cases s;exact ⟨_,_,_,_,O⟩
    refine U (.ref 1 4 0 3) O<|U (qb f.Steps) O<|U (.d (.bool (decide (f.Steps > 500)))) O<|U (.d (.bool (decide (f.Steps > 500)))) O<|qc ?_;cases s;exact ⟨_,_,_,_,O⟩
   rintro _ ⟨ah,ai,aj,ak,rfl⟩;refine qc ?_;refine qy O c (fun _ c=>?_) (fun _ c=>?_)
   ·refine qh<|U (.d (.agg [.nilsl,.nilsl])) O<|Qp 0 (.dat 2 [[.nilsl,.nilsl]]) O<|qf O<|Q8 ?_;refine ⟨_,qz c,fun hm=>?_⟩;subst hm;obtain rfl:=qx b;exact finD (.inr O) (v:=.d (.tup [.agg [.nilsl,.nilsl],qj 8])) O O (Zy (.cons (U7 (.cons (.nil _) (.cons (.nil _) .nil))) (.cons (.refl _) .nil)))
   refine Q0<|Qg<|Qr<|Q7<|U (.d (qj (w64 (t + 1)))) O<|q0 O<|Q5<|⟨_,qz c,wkA [(0,0)] [] []⟩
  refine Qo ?_;refine ⟨_,qz c,fun hm=>?_⟩;subst hm;exact ⟨_,O,wkA [(0,0)] [] []⟩
 intro w hb;subst hb;refine qh<|qf O<|qv<|Qn (.mp 1) (.mp true (Qu (fun n : qa=>DV.agg [qj n.X,qj n.Y]) DV.bool ([] : List (qa × Bool)))) O<|qf O<|qc<|qi<|qh<|q0 O<|Ky O<|q0 O<|qc<|q9 b fun al av b=>?_;refine K6 (fun o=>.inl o = al) (fun (o : List qt)=>⟨[(4,.ref 0 2 0 0),(9,.hs 1 4 0 o.length)],[(0,.dat 2 [[.nilsl,.nilsl]]),(1,.dat 4 (o.map Kw))],2⟩) qd ?_ ?_
 ·refine Qv (Jl h k) (fun (j : Int × List qt × (List (qa × Bool)))=>⟨[(0,.d (.sl 5 (k.map Yd))),(4,.ref 0 2 0 0),(9,.hs 1 4 0 j.2.1.length),(10,.mp 2),(52,.d (.sl 4 (h.map Je))),(53,qb (h.length : Int)),(54,qb j.1)],[(0,.dat 2 [[.nilsl,.nilsl]]),(1,.dat 4 (j.2.1.map Kw)),(2,.mp false (Qu (fun n : qa=>DV.agg [qj n.X,qj n.Y]) DV.bool j.2.2))],3⟩) (0,[],[]) al av (wkA [(0,0),(2,1)] [] [1]) ?_;intro j ba g;unfold Jl at g;refine qh<|U (.d (.bool (decide (j.1 < (h.length : Int))))) O<|qc<|qi ?_;refine qy O g (fun _ g=>?_) (fun _ g=>?_)
  ·refine Q0<|qi<|Qf<|qh<|q9 g fun a aw g=>Y3 (enc:=Je) aw O<|U (.d (.agg [qj a.At.X,qj a.At.Y,.int .u8 a.Head,qj a.Steps])) O<|Qz O O<|Qp 3 (.dat 4 [[qj a.At.X,qj a.At.Y,.int .u8 a.Head,qj a.Steps]]) O<|qv<|qf O<|qv<|q0 O<|U (.d (.agg [qj a.At.X,qj a.At.Y,.int .u8 a.Head,qj a.Steps])) O<|q0 O<|q0 O<|q9 g fun l ax g=>K4 [(0,1),(1,2)] [(0,3),(1,0),(2,1),(3,3),(4,2)] [.d (.sl 5 (k.map Yd)),.d (.agg [qj a.At.X,qj a.At.Y,.int .u8 a.Head,qj a.Steps]),.hs 1 4 0 j.2.1.length,.mp 2] (.tup [.hs 4 4 0 l.2.2.length,qb l.1]) 2 [(2,.mp false (Qu (fun n : qa=>DV.agg [qj n.X,qj n.Y]) DV.bool l.2.1)),(4,.dat 4 (l.2.2.map Kw)),(0,.dat 2 [[.nilsl,.nilsl]]),(3,.dat 4 [[qj a.At.X,qj a.At.Y,.int .u8 a.Head,qj a.Steps]])] 5 (q12z k a j.2.1 j.2.2 l ax)<|q0 O<|U (.hs 4 4 0 l.2.2.length) O<|U (qb l.1) O<|qf O<|qf O<|qv<|q0 O<|U (Q1 (l.1 != 0)) O<|qc ?_;refine qy O g (fun _ g=>?_) (fun _ g=>?_)
   ·refine qh<|U (.d (.agg [.nilsl,.nilsl])) O<|q0 O<|Qp 0 (.dat 2 [[.nilsl,.nilsl]]) O<|qf O<|Q8 ?_;refine ⟨_,qz g,fun hm=>?_⟩;subst hm;obtain rfl:=qx b;exact finD (.inr O) (v:=.d (.tup [.agg [.nilsl,.nilsl],qj l.1])) O O (Zy (.cons (U7 (.cons (.nil _) (.cons (.nil _) .nil))) (.cons (.refl _) .nil)))
   refine Q0<|Qg<|Qr<|Q7<|U (.d (qj (w64 (j.1 + 1)))) O<|q0 O<|Q5<|⟨_,qz g,wkA [(0,0),(1,4),(2,2)] [] []⟩
  refine Qo ?_;refine ⟨_,qz g,fun hm=>?_⟩;subst hm;exact ⟨_,O,wkA [(0,0),(1,1)] [] []⟩
 intro o hb;subst hb;refine qi ?_;refine Zv (st':=⟨[(4,.ref 0 2 0 0),(9,.d (.sl 4 (o.map Kw)))],[(0,.dat 2 [[.nilsl,.nilsl]])],1⟩) (wkA [(0,0)] [1] []) ?_ qd;refine Q7<|q0 O<|q9 b fun m ay b=>Q4 (q50 o m ay) O<|U (.d (.agg [.sl 2 (m.1.Nodes.map qp),.sl 2 (m.1.Edges.map Q2)])) O<|U (qb m.2) O<|Qp 0 (.dat 2 [[.sl 2 (m.1.Nodes.map qp),.sl 2 (m.1.Edges.map Q2)]]) O<|qf O<|Q8 ?_;obtain rfl:=qx b;exact Qw (.d (.tup [.agg [.sl 2 (m.1.Nodes.map qp),.sl 2 (m.1.Edges.map Q2)],qj m.2])) O
theorem K2 (a : Int) (b : Int) (r : qa) (c : Qx a b = some r) : Pure Tryz.prog tab 31 [qj a,qj b] (.agg (qp r)):=by
 unfold Qx at c;refine Kd Tryz.func31 O qm qm O<|qh<|Qz O O<|qv<|q0 O<|q0 O<|U _ O<|Qp 0 _ O<|Q8 ?_;cases c;exact Qw _ O
theorem Zt (b : Int) (c : Int) (d : Int) (f : Int) (r : qt) (a : Z9 b c d f = some r) : Pure Tryz.prog tab 33 [qj b,qj c,qj d,qj f] (.agg (Kw r)):=by
 unfold Z9 at a;refine Kd Tryz.func33 O qm qm O<|qh<|Qz O O<|qv<|q0 O<|q0 O<|q9 a fun g h a=>Q4 (K2 b c g h) O<|q0 O<|q0 O<|q9 a fun j k a=>Q4 (K2 d f j k) O<|U _ O<|Qp 0 _ O<|Q8 ?_;cases a;exact Qw _ O
theorem qyw (c : List qa) (f : qa) (r : Int) (b : q8z c f = some r) : Pure Tryz.prog tab 55 [.sl 2 (c.map qp),.agg (qp f)] (qj r):=by
 unfold q8z at b;refine Kd Tryz.func55 O qm qm O<|qh<|Qn _ _ O<|qf O<|qc<|qi<|qh<|qf O<|qc<|q9 b fun h k b=>?_;refine K6 (fun g=>.inl g = h) (fun g=>⟨[],[],0⟩) qd ?_ ?_
 ·refine Qv (q66 c f) (fun j=>⟨[(0,.d (.sl 2 (c.map qp))),(3,.ref 0 2 0 0),(5,qb j)],[(0,.dat 2 [(qp f)])],1⟩) _ h k (wkA [(0,0)] [] []) ?_;intro j m a;unfold q66 at a;refine qi<|qh<|q0 O<|q0 O<|Ky O<|U _ O<|qc ?_;refine qy O a (fun _ a=>?_) (fun _ a=>?_)
  ·refine Q0<|qi<|Qf<|qi<|Qi [q7,qs 0,q7,q7,q7,q7] qm<|q0 O<|q0 O<|q9 a fun n l a=>Y3 l O<|U _ O<|U _ O<|U _ O<|qc ?_;refine qy O a (fun _ a=>?_) (fun _ a=>?_)
   ·refine qh<|q0 O<|qf O<|Q8 ?_;refine ⟨_,qz a,fun hm=>?_⟩;subst hm;cases b;exact Qw _ O
   refine Q0<|Qg<|Qr<|Q7<|q0 O<|U _ O<|qf O<|Q5<|⟨_,qz a,wkA [(0,0)] [] []⟩
  refine Qo ?_;refine ⟨_,qz a,fun hm=>?_⟩;subst hm;exact ⟨_,O,wkA [] [] []⟩
 intro g hb;subst hb;refine qh<|qf O<|Q8 ?_;cases b;exact Qw _ O
theorem q89 (d : Qd) (f : List qt) (r : Bool) (a : q2x d f = some r) : Pure Tryz.prog tab 32 [.agg [.sl 2 (d.Nodes.map qp),.sl 2 (d.Edges.map Q2)],.sl 4 (f.map Kw)] (.bool r):=by
 unfold q2x at a;refine Kd Tryz.func32 O qm qm O<|qh<|Qn _ _ O<|qf O<|qv<|q0 O<|q9 a fun g q a=>Q4 (q50 f g q) O<|q0 O<|U _ O<|U _ O<|Qz O O<|Qp 1 _ O<|qf O<|qv<|q0 O<|U _ O<|q9 a fun s b a=>?_;refine Qk 5 (fun A st=>∃ h j k l,st = A [(18,Q1 s),(17,l),(16,k),(15,j),(14,h)]) ?_ ?_
 ·refine Qj O O b (fun b=>?_) (fun b=>?_)
  ·refine U _ O<|U _ O<|q9 b fun t u b=>Q4 (qmp g.1 d t u) O<|U _ O<|qc ?_;cases b;exact ⟨_,_,_,_,O⟩
  refine qe O<|qe O<|qe O<|U _ O<|qc ?_;cases b;exact ⟨_,_,_,_,O⟩
 rintro _ ⟨h,j,k,l,rfl⟩;refine q9 a fun v c a=>?_;refine Qk 5 (fun A st=>∃ m n o p,st = A [(23,Q1 v),(22,p),(21,o),(20,n),(19,m)]) ?_ ?_
 ·refine Qj O O c (fun c=>?_) (fun c=>?_)
  ·refine U _ O<|q9 c fun w x c=>Q4 (q3w d w x) O<|U _ O<|U _ O<|qc ?_;cases c;exact ⟨_,_,_,_,O⟩
  refine qe O<|qe O<|qe O<|U _ O<|qc ?_;cases c;exact ⟨_,_,_,_,O⟩
 rintro _ ⟨m,n,o,p,rfl⟩;refine qf O<|Q8 ?_;cases a;exact Qw _ O
theorem qtz (r : Bool) (a : q88 = some r) : Pure Tryz.prog tab 27 [] (.bool r):=by
 unfold q88 at a;refine Kd Tryz.func27 O qm qm O<|qh<|qf O<|qv<|q9 a fun bv c a=>?_;refine Uj [] (fun j=>j = bv) (fun j=>⟨[(15,.agg [.hs 0 2 0 j.length,.hs 1 2 0 [({A:=0,B:=1} : qg),({A:=1,B:=2} : qg),({A:=1,B:=3} : qg)].length])],[(0,.dat 2 (j.map qp)),(1,.dat 2 ([({A:=0,B:=1} : qg),({A:=1,B:=2} : qg),({A:=1,B:=3} : qg)].map Q2))],2⟩) O O Tryz.func34 O qm qm O ?_ ?_
 ·refine qh<|Qz O O<|qv<|q9 c fun bw bx c=>Q4 (K2 0 0 bw bx) O<|q9 c fun bz ca c=>Q4 (K2 2 0 bz ca) O<|q9 c fun cb cc c=>Q4 (K2 2 3 cb cc) O<|q9 c fun cd ce c=>Q4 (K2 4 0 cd ce) O<|Qn _ _ O<|U _ O<|U _ O<|U _ O<|Qn _ _ O<|U _ O<|Qp 0 _ O<|Q8 ?_;refine ⟨.inr O,_,O,?_⟩;obtain rfl:=qx c;exact ⟨_,O,wkA [(0,1),(1,2)] [] []⟩
 intro j hb;subst hb;refine q9 a fun k cf a=>Yu [.agg [.hs 0 2 0 j.length,.hs 1 2 0 [({A:=0,B:=1} : qg),({A:=1,B:=2} : qg),({A:=1,B:=3} : qg)].length],qb 1] (qh2 ({Nodes:=j,Edges:=[({A:=0,B:=1} : qg),({A:=1,B:=2} : qg),({A:=1,B:=3} : qg)]} : Qd) 1 k cf) O O (Kp (Zw (Kr (Ks O O) (Kr (Ks O O) O))) (Kp O O)) (.inr O)<|q0 O<|U _ O<|U _ O<|qf O<|qf O<|qv<|q9 a fun cg f a=>?_;refine Uj [] (fun l=>l = cg) (fun l=>⟨[(1,qb k.1),(2,qb k.2),(20,.agg [.hs 0 2 0 l.length,.hs 1 2 0 [({A:=0,B:=1} : qg),({A:=1,B:=2} : qg),({A:=1,B:=3} : qg)].length])],[(0,.dat 2 (l.map qp)),(1,.dat 2 ([({A:=0,B:=1} : qg),({A:=1,B:=2} : qg),({A:=1,B:=3} : qg)].map Q2))],2⟩) O O Tryz.func34 O qm qm O ?_ ?_
 ·refine qh<|Qz O O<|qv<|q9 f fun ch ci f=>Q4 (K2 0 0 ch ci) O<|q9 f fun cj ck f=>Q4 (K2 2 0 cj ck) O<|q9 f fun cl cm f=>Q4 (K2 2 3 cl cm) O<|q9 f fun cn co f=>Q4 (K2 4 0 cn co) O<|Qn _ _ O<|U _ O<|U _ O<|U _ O<|Qn _ _ O<|U _ O<|Qp 2 _ O<|Q8 ?_;refine ⟨.inr O,_,O,?_⟩;obtain rfl:=qx f;exact ⟨_,O,wkA [(0,3),(1,4)] [] []⟩
 intro l hb;subst hb;refine q9 a fun v cp a=>Yu [.agg [.hs 0 2 0 l.length,.hs 1 2 0 [({A:=0,B:=1} : qg),({A:=1,B:=2} : qg),({A:=1,B:=3} : qg)].length]] (q12t ({Nodes:=l,Edges:=[({A:=0,B:=1} : qg),({A:=1,B:=2} : qg),({A:=1,B:=3} : qg)]} : Qd) v cp) O O (Kp (Zw (Kr (Ks O O) (Kr (Ks O O) O))) O) (.inr O)<|q0 O<|U _ O<|U _ O<|qf O<|qf O<|qv<|q9 a fun ah cq a=>Q4 (Zt 0 0 4 0 ah cq) O<|q9 a fun ai cr a=>Q4 (Zt 2 3 2 0 ai cr) O<|q9 a fun aj cs a=>Q4 (Zt 2 (-1) 2 0 aj cs) O<|q17 (es:=4) ([ah,ai,aj].map Kw) O O O O O<|q9 a fun w ct a=>Q4 (q50 [ah,ai,aj] w ct) O<|q0 O<|U _ O<|U _ O<|Qz O O<|Qp 3 _ O<|qf O<|qc<|qi<|Qi [q7,q7,q7,qs 3,q7] qm<|U _ O<|U _ O<|q9 a fun ap cu a=>Q4 (K2 2 0 ap cu) O<|q9 a fun aq cv a=>Q4 (qyw w.1.Nodes ap aq cv) O<|qf O<|qv<|U _ O<|q0 O<|q9 a fun x cw a=>Q4 (qh2 w.1 aq x cw) O<|q0 O<|U _ O ?_;refine U _ O<|qf O<|qf O<|qv<|q9 a fun m cx a=>Q4 (K2 0 0 m cx) O<|q9 a fun n cy a=>Q4 (K2 4 0 n cy) O<|Qn _ _ O<|U _ O<|Qn _ _ O<|U _ O<|Qz O O<|Qp 6 _ O<|qv<|U _ O<|q9 a fun ak cz a=>Q4 (K2 2 2 ak cz) O<|U _ O<|q17 (es:=4) ([({At:=({X:=0,Y:=0} : qa),Head:=0,Steps:=4} : Ka),({At:=ak,Head:=3,Steps:=9} : Ka)].map Je) O O O O O<|q9 a fun b da a=>Q4 (q22 (.cons (.nil _) (.cons (.refl _) .nil)) (q4z [] [({At:=({X:=0,Y:=0} : qa),Head:=0,Steps:=4} : Ka),({At:=ak,Head:=3,Steps:=9} : Ka)] b da)) O<|q0 O<|U _ O<|U _ O<|Qz O O<|Qp 8 _ O<|qf O<|qv<|q9 a fun o dc a=>Q4 (K2 0 0 o dc) O<|q9 a fun p dd a=>Q4 (K2 2 0 p dd) O<|q9 a fun q de a=>Q4 (K2 2 2 q de) O<|q9 a fun s df a=>Q4 (K2 4 0 s df) O<|Qn _ _ O<|q9 a fun dg g a=>?_;refine Uj [] (fun y=>y = dg) (fun y=>⟨[(1,qb k.1),(2,qb k.2),(3,qb v.1),(4,qb v.2),(6,qb w.2),(8,qb x.1),(9,qb x.2),(10,.ref 0 2 0 0),(11,.ref 1 2 0 0),(12,qb b.2),(60,.hs 2 2 0 [o,p,q,s].length),(61,.agg [.hs 3 2 0 y.length,.hs 4 2 0 [({A:=0,B:=1} : qg),({A:=1,B:=2} : qg),({A:=1,B:=3} : qg)].length])],[(0,.cel 2 [[.hs 5 2 0 [m,n].length,.hs 6 2 0 [({A:=0,B:=1} : qg)].length]]),(1,.dat 2 [[.sl 2 (b.1.Nodes.map qp),.sl 2 (b.1.Edges.map Q2)]]),(2,.dat 2 ([o,p,q,s].map qp)),(3,.dat 2 (y.map qp)),(4,.dat 2 ([({A:=0,B:=1} : qg),({A:=1,B:=2} : qg),({A:=1,B:=3} : qg)].map Q2)),(5,.dat 2 ([m,n].map qp)),(6,.dat 2 ([({A:=0,B:=1} : qg)].map Q2))],7⟩) O O Tryz.func34 O qm qm O ?_ ?_
 ·refine qh<|Qz O O<|qv<|q9 g fun dh dj g=>Q4 (K2 0 0 dh dj) O<|q9 g fun dk dl g=>Q4 (K2 2 0 dk dl) O<|q9 g fun dm dn g=>Q4 (K2 2 3 dm dn) O<|q9 g fun dp dq g=>Q4 (K2 4 0 dp dq) O<|Qn _ _ O<|U _ O<|U _ O<|U _ O<|Qn _ _ O<|U _ O<|Qp 10 _ O<|Q8 ?_;refine ⟨.inr O,_,O,?_⟩;obtain rfl:=qx g;exact ⟨_,O,wkA [(0,6),(1,8),(2,9),(3,11),(4,12),(5,4),(6,5)] [] []⟩
 intro y hb;subst hb;refine U _ O<|U _ O<|Qz O O<|Qp 7 _ O<|qc<|qi<|Qi [q7,q7,(none,[]),qs 2,qs 1,q7,q7,q7,q7,q7,q7,(none,[]),(some [],[10]),q7,q7,qs 0,q7,q7,q7,q7,q7,q7,q7,q7,q7,q7,q7,q7,q7,q7,q7,q7,q7,q7,q7,q7,q7,q7,q7,q7,q7,q7,q7,q7,q7,(none,[]),(some [],[9]),q7,q7,(none,[0])] qm<|qvv O<|q9 a fun dr h a=>?_;refine Uj [] (fun t=>t = dr) (fun t=>⟨[(1,qb k.1),(2,qb k.2),(3,qb v.1),(4,qb v.2),(6,qb w.2),(8,qb x.1),(9,qb x.2),(10,.ref 0 2 0 0),(11,.ref 1 2 0 0),(12,qb b.2),(13,.ref 2 2 0 0),(64,.agg [.hs 3 2 0 t.length,.hs 4 2 0 [({A:=0,B:=1} : qg),({A:=1,B:=2} : qg),({A:=1,B:=3} : qg)].length])],[(0,.cel 2 [[.hs 5 2 0 [m,n].length,.hs 6 2 0 [({A:=0,B:=1} : qg)].length]]),(1,.dat 2 [[.sl 2 (b.1.Nodes.map qp),.sl 2 (b.1.Edges.map Q2)]]),(2,.cel 2 [[.hs 7 2 0 [o,p,q,s].length,.hs 8 2 0 [({A:=0,B:=1} : qg),({A:=1,B:=2} : qg),({A:=1,B:=3} : qg)].length]]),(3,.dat 2 (t.map qp)),(4,.dat 2 ([({A:=0,B:=1} : qg),({A:=1,B:=2} : qg),({A:=1,B:=3} : qg)].map Q2)),(5,.dat 2 ([m,n].map qp)),(6,.dat 2 ([({A:=0,B:=1} : qg)].map Q2)),(7,.dat 2 ([o,p,q,s].map qp)),(8,.dat 2 ([({A:=0,B:=1} : qg),({A:=1,B:=2} : qg),({A:=1,B:=3} : qg)].map Q2))],9⟩) O O Tryz.func34 O qm qm O ?_ ?_
 ·refine qh<|Qz O O<|qv<|q9 h fun ds dt h=>Q4 (K2 0 0 ds dt) O<|q9 h fun du dv h=>Q4 (K2 2 0 du dv) O<|q9 h fun dw dx h=>Q4 (K2 2 3 dw dx) O<|q9 h fun dy dz h=>Q4 (K2 4 0 dy dz) O<|Qn _ _ O<|U _ O<|U _ O<|U _ O<|Qn _ _ O<|U _ O<|Qp 8 _ O<|Q8 ?_;refine ⟨.inr O,_,O,?_⟩;obtain rfl:=qx h;exact ⟨_,O,wkA [(0,0),(1,1),(2,7),(3,9),(4,10),(5,5),(6,6),(7,2),(8,4)] [] []⟩
 intro t hb;subst hb;refine qc<|q9 a fun al fa a=>Q4 (Zt 0 0 4 0 al fa) O<|q9 a fun am fb a=>Q4 (Zt 2 0 2 3 am fb) O<|Qn _ _ O<|q9 a fun fc fd a=>Yu [.agg [.hs 3 2 0 t.length,.hs 4 2 0 [({A:=0,B:=1} : qg),({A:=1,B:=2} : qg),({A:=1,B:=3} : qg)].length],.hs 9 4 0 [al,am].length] (q89 ({Nodes:=t,Edges:=[({A:=0,B:=1} : qg),({A:=1,B:=2} : qg),({A:=1,B:=3} : qg)]} : Qd) [al,am] fc fd) O O (Kp (Zw (Kr (Ks O O) (Kr (Ks O O) O))) (Kp (Ks O O) O)) (.inr O)<|q9 a fun fe z a=>?_;refine Qk 4 (fun A st=>∃ ar au av,st = A [(72,Q1 fe),(71,av),(70,au),(69,ar)]) ?_ ?_
 ·refine Qj O O z (fun z=>?_) (fun z=>?_)
  ·refine q0 O<|U _ O<|U _ O<|qc ?_;cases z;exact ⟨_,_,_,O⟩
  refine qe O<|qe O<|U _ O<|qc ?_;cases z;exact ⟨_,_,_,O⟩
 rintro _ ⟨ar,au,av,rfl⟩;refine q9 a fun ff aa a=>?_;refine Qk 4 (fun A st=>∃ aw ax ay,st = A [(76,Q1 ff),(75,ay),(74,ax),(73,aw)]) ?_ ?_
 ·refine Qj O O aa (fun aa=>?_) (fun aa=>?_)
  ·refine q0 O<|U _ O<|U _ O<|qc ?_;cases aa;exact ⟨_,_,_,O⟩
  refine qe O<|qe O<|U _ O<|qc ?_;cases aa;exact ⟨_,_,_,O⟩
 rintro _ ⟨aw,ax,ay,rfl⟩;refine q9 a fun fg ab a=>?_;refine Qk 4 (fun A st=>∃ az ba bb,st = A [(80,Q1 fg),(79,bb),(78,ba),(77,az)]) ?_ ?_
 ·refine Qj O O ab (fun ab=>?_) (fun ab=>?_)
  ·refine q0 O<|U _ O<|U _ O<|qc ?_;cases ab;exact ⟨_,_,_,O⟩
  refine qe O<|qe O<|U _ O<|qc ?_;cases ab;exact ⟨_,_,_,O⟩
 rintro _ ⟨az,ba,bb,rfl⟩;refine q9 a fun fh ac a=>?_;refine Qk 4 (fun A st=>∃ bc bd be,st = A [(84,Q1 fh),(83,be),(82,bd),(81,bc)]) ?_ ?_
 ·refine Qj O O ac (fun ac=>?_) (fun ac=>?_)
  ·refine q0 O<|U _ O<|U _ O<|qc ?_;cases ac;exact ⟨_,_,_,O⟩
  refine qe O<|qe O<|U _ O<|qc ?_;cases ac;exact ⟨_,_,_,O⟩
 rintro _ ⟨bc,bd,be,rfl⟩;refine q9 a fun fi ad a=>?_;refine Qk 4 (fun A st=>∃ bf bg bh,st = A [(88,Q1 fi),(87,bh),(86,bg),(85,bf)]) ?_ ?_
 ·refine Qj O O ad (fun ad=>?_) (fun ad=>?_)
  ·refine q0 O<|U _ O<|U _ O<|qc ?_;cases ad;exact ⟨_,_,_,O⟩
  refine qe O<|qe O<|U _ O<|qc ?_;cases ad;exact ⟨_,_,_,O⟩
 rintro _ ⟨bf,bg,bh,rfl⟩;refine q9 a fun fj ae a=>?_;refine Qk 4 (fun A st=>∃ bi bj bk,st = A [(92,Q1 fj),(91,bk),(90,bj),(89,bi)]) ?_ ?_
 ·refine Qj O O ae (fun ae=>?_) (fun ae=>?_)
  ·refine q0 O<|U _ O<|U _ O<|qc ?_;cases ae;exact ⟨_,_,_,O⟩
  refine qe O<|qe O<|U _ O<|qc ?_;cases ae;exact ⟨_,_,_,O⟩
 rintro _ ⟨bi,bj,bk,rfl⟩;refine q9 a fun fk af a=>?_;refine Qk 4 (fun A st=>∃ bl bm bn,st = A [(96,Q1 fk),(95,bn),(94,bm),(93,bl)]) ?_ ?_
 ·refine Qj O O af (fun af=>?_) (fun af=>?_)
  ·refine q0 O<|U _ O<|U _ O<|qc ?_;cases af;exact ⟨_,_,_,O⟩
  refine qe O<|qe O<|U _ O<|qc ?_;cases af;exact ⟨_,_,_,O⟩
 rintro _ ⟨bl,bm,bn,rfl⟩;refine Qj O O a (fun a=>?_) (fun a=>?_)
 ·refine U _ O<|q9 a fun an fl a=>Q4 (Zt 0 0 2 0 an fl) O<|q9 a fun ao fm a=>Q4 (Zt 2 0 4 0 ao fm) O<|Qn _ _ O<|q9 a fun fn fo a=>Yu [.agg [.hs 5 2 0 [m,n].length,.hs 6 2 0 [({A:=0,B:=1} : qg)].length],.hs 10 4 0 [an,ao].length] (q89 ({Nodes:=[m,n],Edges:=[({A:=0,B:=1} : qg)]} : Qd) [an,ao] fn fo) O O (Kp (Zw (Kr (Ks O O) (Kr (Ks O O) O))) (Kp (Ks O O) O)) (.inr O)<|U _ O<|q9 a fun fq ag a=>?_;refine Qk 4 (fun A st=>∃ bo bp bq,st = A [(107,Q1 fq),(106,bq),(105,bp),(104,bo)]) ?_ ?_
  ·refine Qj O O ag (fun ag=>?_) (fun ag=>?_)
   ·refine q0 O<|U _ O<|U _ O<|qc ?_;cases ag;exact ⟨_,_,_,O⟩
   refine qe O<|qe O<|U _ O<|qc ?_;cases ag;exact ⟨_,_,_,O⟩
  rintro _ ⟨bo,bp,bq,rfl⟩;refine q9 a fun fr u a=>?_;refine Qk 5 (fun A st=>∃ br bs bt bu,st = A [(112,Q1 fr),(111,bu),(110,bt),(109,bs),(108,br)]) ?_ ?_
  ·refine Qj O O u (fun u=>?_) (fun u=>?_)
   ·refine U _ O<|U _ O<|q9 u fun fs ft u=>Yu [.d (.agg [.sl 2 (b.1.Nodes.map qp),.sl 2 (b.1.Edges.map Q2)]),.agg [.hs 7 2 0 [o,p,q,s].length,.hs 8 2 0 [({A:=0,B:=1} : qg),({A:=1,B:=2} : qg),({A:=1,B:=3} : qg)].length]] (qmp b.1 ({Nodes:=[o,p,q,s],Edges:=[({A:=0,B:=1} : qg),({A:=1,B:=2} : qg),({A:=1,B:=3} : qg)]} : Qd) fs ft) O O (Kp O (Kp (Zw (Kr (Ks O O) (Kr (Ks O O) O))) O)) (.inr O)<|U _ O<|qc ?_;cases u;exact ⟨_,_,_,_,O⟩
   refine qe O<|qe O<|qe O<|U _ O<|qc ?_;cases u;exact ⟨_,_,_,_,O⟩
  rintro _ ⟨br,bs,bt,bu,rfl⟩;refine qf O<|Q8 ?_;cases a;exact Qw _ O
 refine qe O<|qe O<|qe O<|qe O<|qe O<|U _ O<|q0 O<|qe O<|qe O<|U _ O<|q0 O<|qe O<|qe O<|qe O<|U _ O<|qf O<|Q8 ?_;cases a;exact Qw _ O
end Go.Proofs.YtgkialgkmjnfbaaGreat
namespace Go.Proofs.YtgkialgkmjnfbaaGreat
open Go Go.Am Go.Sh
set_option maxHeartbeats 8000000
set_option maxRecDepth 100000
theorem q13y (r : Bool) (a : qco = some r) : Pure Tryz.prog tab 7 [] (.bool r):=by
 unfold qco at a;refine Kd Tryz.func7 O qm qm O<|qh<|qf O<|qv<|q9 a fun r1 h2 a=>Q4 (K2 0 0 r1 h2) O<|q9 a fun r3 h4 a=>Q4 (K2 0 2 r3 h4) O<|q9 a fun r5 h6 a=>Q4 (K2 2 0 r5 h6) O<|q9 a fun r7 h8 a=>Q4 (K2 2 2 r7 h8) O<|Qn _ _ O<|U _ O<|U _ O<|U _ O<|U _ O<|Qn _ _ O<|U _ O<|Qz O O<|Qp 2 _ O<|qv<|q9 a fun r9 gt a=>Q4 (K2 (-1) 0 r9 gt) O<|q9 a fun bk gu a=>Q4 (K2 0 (-1) bk gu) O<|q9 a fun bl gv a=>Q4 (K2 0 0 bl gv) O<|q9 a fun bm gw a=>Q4 (K2 0 1 bm gw) O<|q9 a fun bn gy a=>Q4 (K2 1 0 bn gy) O<|Qn _ _ O<|U _ O<|U _ O<|U _ O<|U _ O<|Qn _ _ O<|U _ O<|Qz O O ?_;refine Qp 5 _ O<|qc<|qi<|q9 a fun gz b a=>?_;refine Y5 (fun f=>f = gz) (fun f=>⟨[(3,Q1 f)],[],0⟩) qd ?_ ?_
 ·refine Qi [q7,q7,q7,q7,q7,q7,(none,[]),(some [],[7]),q7,q7,q7,qs 5,q7,(none,[]),(some [],[6]),q7,q7,q7,q7,qs 2] qm<|U _ O<|q9 b fun bo ha b=>Q4 (Zt 0 0 2 0 bo ha) O<|q9 b fun bp hc b=>Q4 (Zt 2 0 2 2 bp hc) O<|q9 b fun bq hd b=>Q4 (Zt 0 2 2 2 bq hd) O<|q9 b fun br he b=>Q4 (Zt 0 2 0 0 br he) O<|Qn _ _ O<|q9 b fun hf hg b=>Yu [.agg [.hs 0 2 0 [r1,r3,r5,r7].length,.hs 1 2 0 [({A:=0,B:=1} : qg),({A:=0,B:=2} : qg),({A:=1,B:=3} : qg),({A:=2,B:=3} : qg)].length],.hs 6 4 0 [bo,bp,bq,br].length] (q89 ({Nodes:=[r1,r3,r5,r7],Edges:=[({A:=0,B:=1} : qg),({A:=0,B:=2} : qg),({A:=1,B:=3} : qg),({A:=2,B:=3} : qg)]} : Qd) [bo,bp,bq,br] hf hg) O O (Kp (Zw (Kr (Ks O O) (Kr (Ks O O) O))) (Kp (Ks O O) O)) (.inr O) ?_;refine Qj O O b (fun b=>?_) (fun b=>?_)
  ·refine U _ O<|q9 b fun bs hh b=>Q4 (Zt (-1) 0 1 0 bs hh) O<|q9 b fun bt hi b=>Q4 (Zt 0 1 0 (-1) bt hi) O<|q9 b fun bu hj b=>Q4 (Zt 0 0 1 0 bu hj) O<|Qn _ _ O<|q9 b fun hl hm b=>Yu [.agg [.hs 3 2 0 [r9,bk,bl,bm,bn].length,.hs 4 2 0 [({A:=0,B:=2} : qg),({A:=1,B:=2} : qg),({A:=2,B:=3} : qg),({A:=2,B:=4} : qg)].length],.hs 7 4 0 [bs,bt,bu].length] (q89 ({Nodes:=[r9,bk,bl,bm,bn],Edges:=[({A:=0,B:=2} : qg),({A:=1,B:=2} : qg),({A:=2,B:=3} : qg),({A:=2,B:=4} : qg)]} : Qd) [bs,bt,bu] hl hm) O O (Kp (Zw (Kr (Ks O O) (Kr (Ks O O) O))) (Kp (Ks O O) O)) (.inr O)<|U _ O<|q9 b fun hn t b=>?_;refine Qk 4 (fun A st=>∃ ch ci cj,st = A [(80,Q1 hn),(79,cj),(78,ci),(77,ch)]) ?_ ?_
   ·refine Qj O O t (fun t=>?_) (fun t=>?_)
    ·refine U _ O<|q9 t fun ho hp t=>Q4 (q22 (.cons (U7 (.cons (.nil _) (.cons (.nil _) .nil))) (.cons (.nil _) .nil)) (q89 ({Nodes:=[],Edges:=[]} : Qd) [] ho hp)) O<|U _ O<|qc ?_;cases t;exact ⟨_,_,_,O⟩
    refine qe O<|qe O<|U _ O<|qc ?_;cases t;exact ⟨_,_,_,O⟩
   rintro _ ⟨ch,ci,cj,rfl⟩;refine qf O<|Q5 ?_;obtain rfl:=qx b;exact ⟨_,O,wkA [] [] []⟩
  refine qe O<|qe O<|qe O<|qe O<|qe O<|qe O<|U _ O<|q0 O<|qe O<|qe O<|U _ O<|qf O<|Q5 ?_;obtain rfl:=qx b;exact ⟨_,O,wkA [] [] []⟩
 intro f hb;subst hb;refine qh<|q9 a fun hq h a=>?_;refine Uj [] (fun g=>g = hq) (fun g=>⟨[(3,Q1 f),(81,.agg [.hs 0 2 0 g.length,.hs 1 2 0 [({A:=0,B:=1} : qg),({A:=1,B:=2} : qg),({A:=1,B:=3} : qg)].length])],[(0,.dat 2 (g.map qp)),(1,.dat 2 ([({A:=0,B:=1} : qg),({A:=1,B:=2} : qg),({A:=1,B:=3} : qg)].map Q2))],2⟩) O O Tryz.func34 O qm qm O ?_ ?_
 ·refine qh<|Qz O O<|qv<|q9 h fun hr ht h=>Q4 (K2 0 0 hr ht) O<|q9 h fun hu hv h=>Q4 (K2 2 0 hu hv) O<|q9 h fun hw hx h=>Q4 (K2 2 3 hw hx) O<|q9 h fun hy hz h=>Q4 (K2 4 0 hy hz) O<|Qn _ _ O<|U _ O<|U _ O<|U _ O<|Qn _ _ O<|U _ O<|Qp 0 _ O<|Q8 ?_;refine ⟨.inr O,_,O,?_⟩;obtain rfl:=qx h;exact ⟨_,O,wkA [(0,1),(1,2)] [] []⟩
 intro g hb;subst hb;refine q9 a fun ja j a=>?_;refine Uj [] (fun k=>k = ja) (fun k=>⟨[(3,Q1 f),(81,.agg [.hs 0 2 0 g.length,.hs 1 2 0 [({A:=0,B:=1} : qg),({A:=1,B:=2} : qg),({A:=1,B:=3} : qg)].length]),(82,.agg [.hs 2 2 0 k.length,.hs 3 2 0 [({A:=0,B:=1} : qg),({A:=1,B:=2} : qg),({A:=1,B:=3} : qg)].length])],[(0,.dat 2 (g.map qp)),(1,.dat 2 ([({A:=0,B:=1} : qg),({A:=1,B:=2} : qg),({A:=1,B:=3} : qg)].map Q2)),(2,.dat 2 (k.map qp)),(3,.dat 2 ([({A:=0,B:=1} : qg),({A:=1,B:=2} : qg),({A:=1,B:=3} : qg)].map Q2))],4⟩) O O Tryz.func34 O qm qm O ?_ ?_
 ·refine qh<|Qz O O<|qv<|q9 j fun jb jc j=>Q4 (K2 0 0 jb jc) O<|q9 j fun jd je j=>Q4 (K2 2 0 jd je) O<|q9 j fun jf jg j=>Q4 (K2 2 3 jf jg) O<|q9 j fun jh ji j=>Q4 (K2 4 0 jh ji) O<|Qn _ _ O<|U _ O<|U _ O<|U _ O<|Qn _ _ O<|U _ O<|Qp 2 _ O<|Q8 ?_;refine ⟨.inr O,_,O,?_⟩;obtain rfl:=qx j;exact ⟨_,O,wkA [(0,0),(1,1),(2,3),(3,4)] [] []⟩
 intro k hb;subst hb;refine q9 a fun jj l a=>?_;refine Uj [] (fun m=>m = jj) (fun m=>⟨[(3,Q1 f),(81,.agg [.hs 0 2 0 g.length,.hs 1 2 0 [({A:=0,B:=1} : qg),({A:=1,B:=2} : qg),({A:=1,B:=3} : qg)].length]),(82,.agg [.hs 2 2 0 k.length,.hs 3 2 0 [({A:=0,B:=1} : qg),({A:=1,B:=2} : qg),({A:=1,B:=3} : qg)].length]),(83,.agg [.hs 4 2 0 m.length,.hs 5 2 0 [({A:=0,B:=1} : qg),({A:=1,B:=2} : qg),({A:=1,B:=3} : qg)].length])],[(0,.dat 2 (g.map qp)),(1,.dat 2 ([({A:=0,B:=1} : qg),({A:=1,B:=2} : qg),({A:=1,B:=3} : qg)].map Q2)),(2,.dat 2 (k.map qp)),(3,.dat 2 ([({A:=0,B:=1} : qg),({A:=1,B:=2} : qg),({A:=1,B:=3} : qg)].map Q2)),(4,.dat 2 (m.map qp)),(5,.dat 2 ([({A:=0,B:=1} : qg),({A:=1,B:=2} : qg),({A:=1,B:=3} : qg)].map Q2))],6⟩) O O Tryz.func34 O qm qm O ?_ ?_
 ·refine qh<|Qz O O<|qv<|q9 l fun jk jl l=>Q4 (K2 0 0 jk jl) O<|q9 l fun jm jn l=>Q4 (K2 2 0 jm jn) O<|q9 l fun jo jp l=>Q4 (K2 2 3 jo jp) O<|q9 l fun jq jr l=>Q4 (K2 4 0 jq jr) O<|Qn _ _ O<|U _ O<|U _ O<|U _ O<|Qn _ _ O<|U _ O<|Qp 4 _ O<|Q8 ?_;refine ⟨.inr O,_,O,?_⟩;obtain rfl:=qx l;exact ⟨_,O,wkA [(0,0),(1,1),(2,2),(3,3),(4,5),(5,6)] [] []⟩
 intro m hb;subst hb;refine q9 a fun js n a=>?_;refine Uj [] (fun u=>u = js) (fun u=>⟨[(3,Q1 f),(81,.agg [.hs 0 2 0 g.length,.hs 1 2 0 [({A:=0,B:=1} : qg),({A:=1,B:=2} : qg),({A:=1,B:=3} : qg)].length]),(82,.agg [.hs 2 2 0 k.length,.hs 3 2 0 [({A:=0,B:=1} : qg),({A:=1,B:=2} : qg),({A:=1,B:=3} : qg)].length]),(83,.agg [.hs 4 2 0 m.length,.hs 5 2 0 [({A:=0,B:=1} : qg),({A:=1,B:=2} : qg),({A:=1,B:=3} : qg)].length]),(84,.agg [.hs 6 2 0 u.length,.hs 7 2 0 [({A:=0,B:=1} : qg),({A:=1,B:=2} : qg),({A:=1,B:=3} : qg)].length])],[(0,.dat 2 (g.map qp)),(1,.dat 2 ([({A:=0,B:=1} : qg),({A:=1,B:=2} : qg),({A:=1,B:=3} : qg)].map Q2)),(2,.dat 2 (k.map qp)),(3,.dat 2 ([({A:=0,B:=1} : qg),({A:=1,B:=2} : qg),({A:=1,B:=3} : qg)].map Q2)),(4,.dat 2 (m.map qp)),(5,.dat 2 ([({A:=0,B:=1} : qg),({A:=1,B:=2} : qg),({A:=1,B:=3} : qg)].map Q2)),(6,.dat 2 (u.map qp)),(7,.dat 2 ([({A:=0,B:=1} : qg),({A:=1,B:=2} : qg),({A:=1,B:=3} : qg)].map Q2))],8⟩) O O Tryz.func34 O qm qm O ?_ ?_
 ·refine qh<|Qz O O<|qv<|q9 n fun jt ju n=>Q4 (K2 0 0 jt ju) O<|q9 n fun jv jw n=>Q4 (K2 2 0 jv jw) O<|q9 n fun jx jy n=>Q4 (K2 2 3 jx jy) O<|q9 n fun jz ka n=>Q4 (K2 4 0 jz ka) O<|Qn _ _ O<|U _ O<|U _ O<|U _ O<|Qn _ _ O<|U _ O<|Qp 6 _ O<|Q8 ?_;refine ⟨.inr O,_,O,?_⟩;obtain rfl:=qx n;exact ⟨_,O,wkA [(0,0),(1,1),(2,2),(3,3),(4,4),(5,5),(6,7),(7,8)] [] []⟩
 intro u hb;subst hb;refine Qz O O<|Qz O O<|Qz O O<|Qz O O<|Qp 8 _ O<|Qp 9 _ O<|Qp 10 _ O<|Qp 11 _ O<|qv<|U _ O<|U _ O<|U _ O<|Qn _ _ O<|U _ O<|Qp 8 _ O<|qc<|qi<|Qi [Ql 9,q7,(some [2,13],[2,14]),(some [],[13]),q7,qs 9,q7] qm<|U _ O<|U _ O<|q9 a fun kb kc a=>Q4 (K2 9 9 kb kc) O<|Qn _ _ O<|q9 a fun ck kd a=>q15 _ kd O O O O O O O (q2f O O) O O O O<|U _ O<|Qp 9 _ O<|qc<|qi<|Qi [Ql 4,q7,q7,qs 10,q7] qm<|U _ O<|U _ O<|q9 a fun bv ke a=>Q4 (K2 3 0 bv ke) O<|q9 a fun og cl a=>qo cl O O<|Qt bv cl O O O O O O O O (leb O) O<|qv<|U _ O<|U _ O ?_;refine Qn _ _ O<|U _ O<|Qp 11 _ O<|qc<|qi<|q9 a fun kg c a=>?_;refine Y5 (fun s=>s = kg) (fun s=>⟨[(3,Q1 f),(8,Q1 s)],[],0⟩) qd ?_ ?_
 ·refine Q7<|U _ O<|q9 c fun kh ki c=>Yu [.agg [.hs 0 2 0 g.length,.hs 12 2 0 [({A:=1,B:=0} : qg),({A:=1,B:=2} : qg),({A:=1,B:=3} : qg)].length]] (q3w ({Nodes:=g,Edges:=[({A:=1,B:=0} : qg),({A:=1,B:=2} : qg),({A:=1,B:=3} : qg)]} : Qd) kh ki) O O (Kp (Zw (Kr (Ks O O) (Kr (Ks O O) O))) O) (.inr O)<|U _ O<|q9 c fun kj v c=>?_;refine Qk 5 (fun A st=>∃ cm cn co cp,st = A [(111,Q1 kj),(110,cp),(109,co),(108,cn),(107,cm)]) ?_ ?_
  ·refine Qj O O v (fun v=>?_) (fun v=>?_)
   ·refine U _ O<|q9 v fun kk kl v=>Yu [.agg [.hs 14 2 0 ck.length,.hs 3 2 0 [({A:=0,B:=1} : qg),({A:=1,B:=2} : qg),({A:=1,B:=3} : qg)].length]] (q3w ({Nodes:=ck,Edges:=[({A:=0,B:=1} : qg),({A:=1,B:=2} : qg),({A:=1,B:=3} : qg)]} : Qd) kk kl) O O (Kp (Zw (Kr (Ks O O) (Kr (Ks O O) O))) O) (.inr O)<|U _ O<|U _ O<|qc ?_;cases v;exact ⟨_,_,_,_,O⟩
   refine qe O<|qe O<|qe O<|U _ O<|qc ?_;cases v;exact ⟨_,_,_,_,O⟩
  rintro _ ⟨cm,cn,co,cp,rfl⟩;refine q9 c fun km w c=>?_;refine Qk 5 (fun A st=>∃ cq cr cs ct,st = A [(116,Q1 km),(115,ct),(114,cs),(113,cr),(112,cq)]) ?_ ?_
  ·refine Qj O O w (fun w=>?_) (fun w=>?_)
   ·refine U _ O<|q9 w fun kn ko w=>Yu [.agg [.hs 4 2 0 m.length,.hs 5 2 0 [({A:=0,B:=1} : qg),({A:=1,B:=2} : qg),({A:=1,B:=3} : qg)].length]] (q3w ({Nodes:=m.set (2 : Int).toNat bv,Edges:=[({A:=0,B:=1} : qg),({A:=1,B:=2} : qg),({A:=1,B:=3} : qg)]} : Qd) kn ko) O O (Kp (Zw (Kr (Ks qd O) (Kr (Ks O O) O))) O) (.inr O)<|U _ O<|U _ O<|qc ?_;cases w;exact ⟨_,_,_,_,O⟩
   refine qe O<|qe O<|qe O<|U _ O<|qc ?_;cases w;exact ⟨_,_,_,_,O⟩
  rintro _ ⟨cq,cr,cs,ct,rfl⟩;refine q9 c fun kp x c=>?_;refine Qk 5 (fun A st=>∃ cu cv cw cx,st = A [(121,Q1 kp),(120,cx),(119,cw),(118,cv),(117,cu)]) ?_ ?_
  ·refine Qj O O x (fun x=>?_) (fun x=>?_)
   ·refine U _ O<|q9 x fun kq kr x=>Yu [.agg [.hs 6 2 0 u.length,.hs 15 2 0 [({A:=0,B:=1} : qg),({A:=1,B:=1} : qg)].length]] (q3w ({Nodes:=u,Edges:=[({A:=0,B:=1} : qg),({A:=1,B:=1} : qg)]} : Qd) kq kr) O O (Kp (Zw (Kr (Ks O O) (Kr (Ks O O) O))) O) (.inr O)<|U _ O<|U _ O<|qc ?_;cases x;exact ⟨_,_,_,_,O⟩
   refine qe O<|qe O<|qe O<|U _ O<|qc ?_;cases x;exact ⟨_,_,_,_,O⟩
  rintro _ ⟨cu,cv,cw,cx,rfl⟩;refine Qj O O c (fun c=>?_) (fun c=>?_)
  ·refine U _ O<|Qn _ _ O<|U _ O<|q9 c fun ks kt c=>Yu [.agg [.d (.nilsl),.hs 16 2 0 [({A:=0,B:=1} : qg)].length]] (q22 (.cons (U7 (.cons (.nil _) (.cons (.refl _) .nil))) .nil) (q3w ({Nodes:=[],Edges:=[({A:=0,B:=1} : qg)]} : Qd) ks kt)) O O (Kp (Zw (Kr O (Kr (Ks O O) O))) O) (.inr O)<|U _ O<|U _ O ?_;refine Qj O O c (fun c=>?_) (fun c=>?_)
   ·refine q9 c fun cy ku c=>qvt (z:=({X:=0,Y:=0} : qa)) (enc:=qp) ku O O O O O O<|U _ O<|q9 c fun kv kw c=>Yu [.agg [.hs 17 2 0 cy.length,.d (.nilsl)]] (q22 (.cons (U7 (.cons (.refl _) (.cons (.nil _) .nil))) .nil) (q3w ({Nodes:=cy,Edges:=[]} : Qd) kv kw)) O O (Kp (Zw (Kr (Ks O O) (Kr O O))) O) (.inr O)<|U _ O<|U _ O<|qf O<|Q5 ?_;obtain rfl:=qx c;exact ⟨_,O,wkA [] [] []⟩
   refine qe O<|qe O<|qe O<|qe O<|U _ O<|qf O<|Q5 ?_;obtain rfl:=qx c;exact ⟨_,O,wkA [] [] []⟩
  refine qe O<|qe O<|qe O<|qe O<|qe O<|U _ O<|q0 O<|qe O<|qe O<|qe O<|qe O<|U _ O<|qf O<|Q5 ?_;obtain rfl:=qx c;exact ⟨_,O,wkA [] [] []⟩
 intro s hb;subst hb;refine qh<|q9 a fun bw kx a=>Q4 (Zt 0 0 1 1 bw kx) O<|q17 (es:=4) ([bw].map Kw) O O O O O<|q9 a fun ad ky a=>Q4 (q50 [bw] ad ky) O<|q0 O<|U _ O<|U _ O<|Qz O O<|Qp 1 _ O<|qf O<|qv<|q9 a fun bx kz a=>Q4 (Zt 0 0 0 0 bx kz) O<|q17 (es:=4) ([bx].map Kw) O O O O O<|q9 a fun ae la a=>Q4 (q50 [bx] ae la) O<|q0 O<|U _ O<|U _ O<|Qz O O<|Qp 3 _ O<|qf O<|qv<|q9 a fun bz lb a=>Q4 (Zt 0 0 1000001 0 bz lb) O<|q17 (es:=4) ([bz].map Kw) O O O O O<|q9 a fun af lc a=>Q4 (q50 [bz] af lc) O<|q0 O<|U _ O<|U _ O<|Qz O O<|Qp 5 _ O<|qf O<|qv<|q9 a fun ld lf a=>qlw (z:=({A:=({X:=0,Y:=0} : qa),B:=({X:=0,Y:=0} : qa)} : qt)) (enc:=Kw) lf O O O O O O O<|q9 a fun ag lg a=>?_;refine Q4 (q50 ld ag lg) O<|q0 O<|U _ O<|U _ O<|Qz O O<|Qp 7 _ O<|qf O<|qv<|q9 a fun lh o a=>?_;refine Uj [] (fun y=>y = lh) (fun y=>⟨[(3,Q1 f),(8,Q1 s),(10,qb ad.2),(12,qb ae.2),(14,qb af.2),(16,qb ag.2),(159,.agg [.hs 0 2 0 y.length,.hs 1 2 0 [({A:=0,B:=1} : qg),({A:=1,B:=2} : qg),({A:=1,B:=3} : qg)].length])],[(0,.dat 2 (y.map qp)),(1,.dat 2 ([({A:=0,B:=1} : qg),({A:=1,B:=2} : qg),({A:=1,B:=3} : qg)].map Q2))],2⟩) O O Tryz.func34 O qm qm O ?_ ?_
 ·refine qh<|Qz O O<|qv<|q9 o fun li lj o=>Q4 (K2 0 0 li lj) O<|q9 o fun lk ll o=>Q4 (K2 2 0 lk ll) O<|q9 o fun lm ln o=>Q4 (K2 2 3 lm ln) O<|q9 o fun lo lp o=>Q4 (K2 4 0 lo lp) O<|Qn _ _ O<|U _ O<|U _ O<|U _ O<|Qn _ _ O<|U _ O<|Qp 8 _ O<|Q8 ?_;refine ⟨.inr O,_,O,?_⟩;obtain rfl:=qx o;exact ⟨_,O,wkA [(0,9),(1,10)] [] []⟩
 intro y hb;subst hb;refine q9 a fun be lq a=>Yu [.agg [.hs 0 2 0 y.length,.hs 1 2 0 [({A:=0,B:=1} : qg),({A:=1,B:=2} : qg),({A:=1,B:=3} : qg)].length],qb 4] (qh2 ({Nodes:=y,Edges:=[({A:=0,B:=1} : qg),({A:=1,B:=2} : qg),({A:=1,B:=3} : qg)]} : Qd) 4 be lq) O O (Kp (Zw (Kr (Ks O O) (Kr (Ks O O) O))) (Kp O O)) (.inr O)<|q0 O<|U _ O<|U _ O<|qf O<|qf O<|qv<|q9 a fun lr p a=>?_;refine Uj [] (fun aa=>aa = lr) (fun aa=>⟨[(3,Q1 f),(8,Q1 s),(10,qb ad.2),(12,qb ae.2),(14,qb af.2),(16,qb ag.2),(18,qb be.2),(164,.agg [.hs 0 2 0 aa.length,.hs 1 2 0 [({A:=0,B:=1} : qg),({A:=1,B:=2} : qg),({A:=1,B:=3} : qg)].length])],[(0,.dat 2 (aa.map qp)),(1,.dat 2 ([({A:=0,B:=1} : qg),({A:=1,B:=2} : qg),({A:=1,B:=3} : qg)].map Q2))],2⟩) O O Tryz.func34 O qm qm O ?_ ?_
 ·refine qh<|Qz O O<|qv<|q9 p fun ls lu p=>Q4 (K2 0 0 ls lu) O<|q9 p fun lv lw p=>Q4 (K2 2 0 lv lw) O<|q9 p fun lx ly p=>Q4 (K2 2 3 lx ly) O<|q9 p fun lz ma p=>Q4 (K2 4 0 lz ma) O<|Qn _ _ O<|U _ O<|U _ O<|U _ O<|Qn _ _ O<|U _ O<|Qp 2 _ O<|Q8 ?_;refine ⟨.inr O,_,O,?_⟩;obtain rfl:=qx p;exact ⟨_,O,wkA [(0,3),(1,4)] [] []⟩
 intro aa hb;subst hb;refine q9 a fun ca mb a=>Q4 (K2 2 2 ca mb) O<|q9 a fun ah mc a=>Yu [.agg [.hs 0 2 0 aa.length,.hs 1 2 0 [({A:=0,B:=1} : qg),({A:=1,B:=2} : qg),({A:=1,B:=3} : qg)].length],.d (.agg (qp ca))] (qh3 ({Nodes:=aa,Edges:=[({A:=0,B:=1} : qg),({A:=1,B:=2} : qg),({A:=1,B:=3} : qg)]} : Qd) ca ah mc) O O (Kp (Zw (Kr (Ks O O) (Kr (Ks O O) O))) (Kp O O)) (.inr O)<|q0 O<|U _ O<|U _ O<|qf O<|qf O<|qv<|q9 a fun md q a=>?_;refine Uj [] (fun ab=>ab = md) (fun ab=>⟨[(3,Q1 f),(8,Q1 s),(10,qb ad.2),(12,qb ae.2),(14,qb af.2),(16,qb ag.2),(18,qb be.2),(19,Q1 ah.1),(20,qb ah.2),(170,.agg [.hs 0 2 0 ab.length,.hs 1 2 0 [({A:=0,B:=1} : qg),({A:=1,B:=2} : qg),({A:=1,B:=3} : qg)].length])],[(0,.dat 2 (ab.map qp)),(1,.dat 2 ([({A:=0,B:=1} : qg),({A:=1,B:=2} : qg),({A:=1,B:=3} : qg)].map Q2))],2⟩) O O Tryz.func34 O qm qm O ?_ ?_
 ·refine qh<|Qz O O<|qv<|q9 q fun me mf q=>Q4 (K2 0 0 me mf) O<|q9 q fun mg mh q=>Q4 (K2 2 0 mg mh) O<|q9 q fun mi mj q=>Q4 (K2 2 3 mi mj) O<|q9 q fun mk ml q=>Q4 (K2 4 0 mk ml) O<|Qn _ _ O<|U _ O<|U _ O<|U _ O<|Qn _ _ O<|U _ O<|Qp 2 _ O<|Q8 ?_;refine ⟨.inr O,_,O,?_⟩;obtain rfl:=qx q;exact ⟨_,O,wkA [(0,3),(1,4)] [] []⟩
 intro ab hb;subst hb;refine q9 a fun cb mm a=>Q4 (K2 3 1 cb mm) O<|q9 a fun cc mn a=>Yu [.agg [.hs 0 2 0 ab.length,.hs 1 2 0 [({A:=0,B:=1} : qg),({A:=1,B:=2} : qg),({A:=1,B:=3} : qg)].length],.d (.agg (qp cb))] (qh3 ({Nodes:=ab,Edges:=[({A:=0,B:=1} : qg),({A:=1,B:=2} : qg),({A:=1,B:=3} : qg)]} : Qd) cb cc mn) O O (Kp (Zw (Kr (Ks O O) (Kr (Ks O O) O))) (Kp O O)) (.inr O)<|q0 O<|U _ O<|U _ O<|qf O<|qf O<|qv<|U _ O<|q9 a fun cz mo a=>Q4 (K2 0 0 cz mo) O<|q9 a fun cd mp a=>Q4 (q22 (.cons (U7 (.cons (.nil _) (.cons (.nil _) .nil))) (.cons (.refl _) .nil)) (qh3 ({Nodes:=[],Edges:=[]} : Qd) cz cd mp)) O<|q0 O<|U _ O<|U _ O<|qf O<|qf O<|qv<|U (.d (.agg [qj 0,qj 0,.int .u8 3,qj 1,qj 9])) O<|Qn (.hs 2 5 0 [({At:=({X:=0,Y:=0} : qa),Kind:=3,Weight:=1,Reach:=9} : K9)].length) (.dat 5 ([({At:=({X:=0,Y:=0} : qa),Kind:=3,Weight:=1,Reach:=9} : K9)].map Yd)) O<|qf O<|qc<|qi ?_;refine Zv (st':=⟨[(3,Q1 f),(8,Q1 s),(10,qb ad.2),(12,qb ae.2),(14,qb af.2),(16,qb ag.2),(18,qb be.2),(19,Q1 ah.1),(20,qb ah.2),(21,Q1 cc.1),(22,qb cc.2),(23,Q1 cd.1),(24,qb cd.2),(25,.d (.sl 5 ([({At:=({X:=0,Y:=0} : qa),Kind:=3,Weight:=1,Reach:=9} : K9)].map Yd)))],[],0⟩) (wkA [] [2] []) ?_ qd;refine Q7<|q0 O<|q9 a fun ce mq a=>Q4 (K2 1 0 ce mq) O<|U _ O<|q17 (es:=4) ([({At:=ce,Head:=1,Steps:=500} : Ka)].map Je) O O O O O<|q9 a fun mr ms a=>Q4 (q4z [({At:=({X:=0,Y:=0} : qa),Kind:=3,Weight:=1,Reach:=9} : K9)] [({At:=ce,Head:=1,Steps:=500} : Ka)] mr ms) O<|q0 O<|U _ O<|U _ O<|Qz O O<|Qp 1 _ O<|qf O<|qv<|q0 O<|q9 a fun mt mu a=>qlw (z:=({At:=({X:=0,Y:=0} : qa),Head:=0,Steps:=0} : Ka)) (enc:=Je) mu O O O O O O O<|q9 a fun mv mw a=>Q4 (q4z [({At:=({X:=0,Y:=0} : qa),Kind:=3,Weight:=1,Reach:=9} : K9)] mt mv mw) O<|q0 O<|U _ O<|U _ O<|Qz O O<|Qp 3 _ O<|qf O<|qv<|U _ O<|q17 (es:=4) ([({At:=({X:=0,Y:=0} : qa),Head:=4,Steps:=0} : Ka)].map Je) O O O O O<|q9 a fun mx my a=>Q4 (q22 (.cons (.nil _) (.cons (.refl _) .nil)) (q4z [] [({At:=({X:=0,Y:=0} : qa),Head:=4,Steps:=0} : Ka)] mx my)) O<|q0 O<|U _ O<|U _ O<|Qz O O<|Qp 5 _ O<|qf O<|qv<|U _ O<|q17 (es:=4) ([({At:=({X:=0,Y:=0} : qa),Head:=0,Steps:=501} : Ka)].map Je) O O O O O ?_;refine q9 a fun mz na a=>Q4 (q22 (.cons (.nil _) (.cons (.refl _) .nil)) (q4z [] [({At:=({X:=0,Y:=0} : qa),Head:=0,Steps:=501} : Ka)] mz na)) O<|q0 O<|U _ O<|U _ O<|Qz O O<|Qp 7 _ O<|qf O<|qv<|q9 a fun cf nb a=>Q4 (K2 1000000 0 cf nb) O<|U _ O<|q17 (es:=4) ([({At:=cf,Head:=0,Steps:=1} : Ka)].map Je) O O O O O<|q9 a fun nc nd a=>Q4 (q22 (.cons (.nil _) (.cons (.refl _) .nil)) (q4z [] [({At:=cf,Head:=0,Steps:=1} : Ka)] nc nd)) O<|q0 O<|U _ O<|U _ O<|Qz O O<|Qp 9 _ O<|qf O<|qv<|q9 a fun cg ne a=>Q4 (K2 1000000 0 cg ne) O<|U _ O<|q17 (es:=4) ([({At:=cg,Head:=0,Steps:=0} : Ka)].map Je) O O O O O<|q9 a fun nf ng a=>Q4 (q22 (.cons (.nil _) (.cons (.refl _) .nil)) (q4z [] [({At:=cg,Head:=0,Steps:=0} : Ka)] nf ng)) O<|q0 O<|U _ O<|U _ O<|Qz O O<|Qp 11 _ O<|qf O<|qv<|q0 O<|U _ O<|q9 a fun nh ai a=>?_;refine Qk 4 (fun A st=>∃ da dc dd,st = A [(228,Q1 nh),(227,dd),(226,dc),(225,da)]) ?_ ?_
 ·refine Qj O O ai (fun ai=>?_) (fun ai=>?_)
  ·refine q0 O<|U _ O<|U _ O<|qc ?_;cases ai;exact ⟨_,_,_,O⟩
  refine qe O<|qe O<|U _ O<|qc ?_;cases ai;exact ⟨_,_,_,O⟩
 rintro _ ⟨da,dc,dd,rfl⟩;refine q9 a fun ni aj a=>?_;refine Qk 4 (fun A st=>∃ de df dg,st = A [(232,Q1 ni),(231,dg),(230,df),(229,de)]) ?_ ?_
 ·refine Qj O O aj (fun aj=>?_) (fun aj=>?_)
  ·refine q0 O<|U _ O<|U _ O<|qc ?_;cases aj;exact ⟨_,_,_,O⟩
  refine qe O<|qe O<|U _ O<|qc ?_;cases aj;exact ⟨_,_,_,O⟩
 rintro _ ⟨de,df,dg,rfl⟩;refine q9 a fun nj ak a=>?_;refine Qk 4 (fun A st=>∃ dh dj dk,st = A [(236,Q1 nj),(235,dk),(234,dj),(233,dh)]) ?_ ?_
 ·refine Qj O O ak (fun ak=>?_) (fun ak=>?_)
  ·refine q0 O<|U _ O<|U _ O<|qc ?_;cases ak;exact ⟨_,_,_,O⟩
  refine qe O<|qe O<|U _ O<|qc ?_;cases ak;exact ⟨_,_,_,O⟩
 rintro _ ⟨dh,dj,dk,rfl⟩;refine q9 a fun nk al a=>?_;refine Qk 4 (fun A st=>∃ dl dm dn,st = A [(240,Q1 nk),(239,dn),(238,dm),(237,dl)]) ?_ ?_
 ·refine Qj O O al (fun al=>?_) (fun al=>?_)
  ·refine q0 O<|U _ O<|U _ O<|qc ?_;cases al;exact ⟨_,_,_,O⟩
  refine qe O<|qe O<|U _ O<|qc ?_;cases al;exact ⟨_,_,_,O⟩
 rintro _ ⟨dl,dm,dn,rfl⟩;refine q9 a fun nl am a=>?_;refine Qk 4 (fun A st=>∃ dp dq dr,st = A [(244,Q1 nl),(243,dr),(242,dq),(241,dp)]) ?_ ?_
 ·refine Qj O O am (fun am=>?_) (fun am=>?_)
  ·refine q0 O<|U _ O<|U _ O<|qc ?_;cases am;exact ⟨_,_,_,O⟩
  refine qe O<|qe O<|U _ O<|qc ?_;cases am;exact ⟨_,_,_,O⟩
 rintro _ ⟨dp,dq,dr,rfl⟩;refine q9 a fun nn an a=>?_;refine Qk 3 (fun A st=>∃ ds dt,st = A [(247,Q1 nn),(246,dt),(245,ds)]) ?_ ?_
 ·refine Qj O O an (fun an=>?_) (fun an=>?_)
  ·refine q0 O<|U _ O<|qc ?_;cases an;exact ⟨_,_,O⟩
  refine qe O<|U _ O<|qc ?_;cases an;exact ⟨_,_,O⟩
 rintro _ ⟨ds,dt,rfl⟩;refine q9 a fun no ao a=>?_;refine Qk 4 (fun A st=>∃ du dv dw,st = A [(251,Q1 no),(250,dw),(249,dv),(248,du)]) ?_ ?_
 ·refine Qj O O ao (fun ao=>?_) (fun ao=>?_)
  ·refine q0 O<|U _ O<|U _ O<|qc ?_;cases ao;exact ⟨_,_,_,O⟩
  refine qe O<|qe O<|U _ O<|qc ?_;cases ao;exact ⟨_,_,_,O⟩
 rintro _ ⟨du,dv,dw,rfl⟩;refine q9 a fun np ap a=>?_;refine Qk 4 (fun A st=>∃ dx dy dz,st = A [(255,Q1 np),(254,dz),(253,dy),(252,dx)]) ?_ ?_
 ·refine Qj O O ap (fun ap=>?_) (fun ap=>?_)
  ·refine q0 O<|U _ O<|U _ O<|qc ?_;cases ap;exact ⟨_,_,_,O⟩
  refine qe O<|qe O<|U _ O<|qc ?_;cases ap;exact ⟨_,_,_,O⟩
 rintro _ ⟨dx,dy,dz,rfl⟩;refine q9 a fun nq aq a=>?_;refine Qk 4 (fun A st=>∃ fa fb fc,st = A [(259,Q1 nq),(258,fc),(257,fb),(256,fa)]) ?_ ?_
 ·refine Qj O O aq (fun aq=>?_) (fun aq=>?_)
  ·refine q0 O<|U _ O<|U _ O<|qc ?_;cases aq;exact ⟨_,_,_,O⟩
  refine qe O<|qe O<|U _ O<|qc ?_;cases aq;exact ⟨_,_,_,O⟩
 rintro _ ⟨fa,fb,fc,rfl⟩;refine q9 a fun nr ar a=>?_;refine Qk 4 (fun A st=>∃ fd fe ff,st = A [(263,Q1 nr),(262,ff),(261,fe),(260,fd)]) ?_ ?_
 ·refine Qj O O ar (fun ar=>?_) (fun ar=>?_)
  ·refine q0 O<|U _ O<|U _ O<|qc ?_;cases ar;exact ⟨_,_,_,O⟩
  refine qe O<|qe O<|U _ O<|qc ?_;cases ar;exact ⟨_,_,_,O⟩
 rintro _ ⟨fd,fe,ff,rfl⟩;refine q9 a fun ns au a=>?_;refine Qk 4 (fun A st=>∃ fg fh fi,st = A [(267,Q1 ns),(266,fi),(265,fh),(264,fg)]) ?_ ?_
 ·refine Qj O O au (fun au=>?_) (fun au=>?_)
  ·refine q0 O<|U _ O<|U _ O<|qc ?_;cases au;exact ⟨_,_,_,O⟩
  refine qe O<|qe O<|U _ O<|qc ?_;cases au;exact ⟨_,_,_,O⟩
 rintro _ ⟨fg,fh,fi,rfl⟩;refine q9 a fun nt av a=>?_;refine Qk 4 (fun A st=>∃ fj fk fl,st = A [(271,Q1 nt),(270,fl),(269,fk),(268,fj)]) ?_ ?_
 ·refine Qj O O av (fun av=>?_) (fun av=>?_)
  ·refine q0 O<|U _ O<|U _ O<|qc ?_;cases av;exact ⟨_,_,_,O⟩
  refine qe O<|qe O<|U _ O<|qc ?_;cases av;exact ⟨_,_,_,O⟩
 rintro _ ⟨fj,fk,fl,rfl⟩;refine q9 a fun nu aw a=>?_;refine Qk 4 (fun A st=>∃ fm fn fo,st = A [(275,Q1 nu),(274,fo),(273,fn),(272,fm)]) ?_ ?_
 ·refine Qj O O aw (fun aw=>?_) (fun aw=>?_)
  ·refine q0 O<|U _ O<|U _ O<|qc ?_;cases aw;exact ⟨_,_,_,O⟩
  refine qe O<|qe O<|U _ O<|qc ?_;cases aw;exact ⟨_,_,_,O⟩
 rintro _ ⟨fm,fn,fo,rfl⟩;refine q9 a fun nv ax a=>?_;refine Qk 4 (fun A st=>∃ fq fr fs,st = A [(279,Q1 nv),(278,fs),(277,fr),(276,fq)]) ?_ ?_
 ·refine Qj O O ax (fun ax=>?_) (fun ax=>?_)
  ·refine q0 O<|U _ O<|U _ O<|qc ?_;cases ax;exact ⟨_,_,_,O⟩
  refine qe O<|qe O<|U _ O<|qc ?_;cases ax;exact ⟨_,_,_,O⟩
 rintro _ ⟨fq,fr,fs,rfl⟩;refine q9 a fun nw ay a=>?_;refine Qk 4 (fun A st=>∃ ft fu fv,st = A [(283,Q1 nw),(282,fv),(281,fu),(280,ft)]) ?_ ?_
 ·refine Qj O O ay (fun ay=>?_) (fun ay=>?_)
  ·refine q0 O<|U _ O<|U _ O<|qc ?_;cases ay;exact ⟨_,_,_,O⟩
  refine qe O<|qe O<|U _ O<|qc ?_;cases ay;exact ⟨_,_,_,O⟩
 rintro _ ⟨ft,fu,fv,rfl⟩;refine q9 a fun nx az a=>?_;refine Qk 6 (fun A st=>∃ fw fx fy fz ga,st = A [(289,Q1 nx),(288,ga),(287,fz),(286,fy),(285,fx),(284,fw)]) ?_ ?_
 ·refine Qj O O az (fun az=>?_) (fun az=>?_)
  ·refine U _ O<|U _ O<|Ky O<|U _ O<|U _ O<|qc ?_;cases az;exact ⟨_,_,_,_,_,O⟩
  refine qe O<|qe O<|qe O<|qe O<|U _ O<|qc ?_;cases az;exact ⟨_,_,_,_,_,O⟩
 rintro _ ⟨fw,fx,fy,fz,ga,rfl⟩;refine qf O<|qv<|q0 O<|q0 O<|U _ O<|q9 a fun ny ba a=>?_;refine Qk 3 (fun A st=>∃ gb gc,st = A [(295,Q1 ny),(294,gc),(293,gb)]) ?_ ?_
 ·refine Qj O O ba (fun ba=>?_) (fun ba=>?_)
  ·refine q0 O<|U _ O<|qc ?_;cases ba;exact ⟨_,_,O⟩
  refine qe O<|U _ O<|qc ?_;cases ba;exact ⟨_,_,O⟩
 rintro _ ⟨gb,gc,rfl⟩;refine q9 a fun nz bb a=>?_;refine Qk 3 (fun A st=>∃ gd ge,st = A [(298,Q1 nz),(297,ge),(296,gd)]) ?_ ?_
 ·refine Qj O O bb (fun bb=>?_) (fun bb=>?_)
  ·refine q0 O<|U _ O<|qc ?_;cases bb;exact ⟨_,_,O⟩
  refine qe O<|U _ O<|qc ?_;cases bb;exact ⟨_,_,O⟩
 rintro _ ⟨gd,ge,rfl⟩;refine q9 a fun oa bc a=>?_;refine Qk 4 (fun A st=>∃ gf gg gh,st = A [(302,Q1 oa),(301,gh),(300,gg),(299,gf)]) ?_ ?_
 ·refine Qj O O bc (fun bc=>?_) (fun bc=>?_)
  ·refine q0 O<|U _ O<|U _ O<|qc ?_;cases bc;exact ⟨_,_,_,O⟩
  refine qe O<|qe O<|U _ O<|qc ?_;cases bc;exact ⟨_,_,_,O⟩
 rintro _ ⟨gf,gg,gh,rfl⟩;refine q9 a fun ob bd a=>?_;refine Qk 6 (fun A st=>∃ gi gj gk gl gm,st = A [(308,Q1 ob),(307,gm),(306,gl),(305,gk),(304,gj),(303,gi)]) ?_ ?_
 ·refine Qj O O bd (fun bd=>?_) (fun bd=>?_)
  ·refine U _ O<|U _ O<|Ky O<|U _ O<|U _ O<|qc ?_;cases bd;exact ⟨_,_,_,_,_,O⟩
  refine qe O<|qe O<|qe O<|qe O<|U _ O<|qc ?_;cases bd;exact ⟨_,_,_,_,_,O⟩
 rintro _ ⟨gi,gj,gk,gl,gm,rfl⟩;refine q9 a fun oc ac a=>?_;refine Qk 3 (fun A st=>∃ gn go,st = A [(311,Q1 oc),(310,go),(309,gn)]) ?_ ?_
 ·refine Qj O O ac (fun ac=>?_) (fun ac=>?_)
  ·refine q9 ac fun od oe ac=>Q4 (qtz od oe) O<|U _ O<|qc ?_;cases ac;exact ⟨_,_,O⟩
  refine qe O<|U _ O<|qc ?_;cases ac;exact ⟨_,_,O⟩
 rintro _ ⟨gn,go,rfl⟩;refine qf O<|Q8 ?_;cases a;exact Qw _ O
end Go.Proofs.YtgkialgkmjnfbaaGreat
