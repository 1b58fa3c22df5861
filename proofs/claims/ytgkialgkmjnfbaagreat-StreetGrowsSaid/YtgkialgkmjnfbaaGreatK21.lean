/- W_Alld W_Alle W_Allf W_All -/
import Derived.Test.YtgkialgkmjnfbaaGreatK20
namespace Go.Proofs.YtgkialgkmjnfbaaGreat
open Go Go.Am Go.Sh
set_option maxHeartbeats 8000000
set_option maxRecDepth 100000
theorem qt3 (l : List Qx) (j : List Y2) (r : Bool) (b : q89 l j = some r) : Pure Tryz.prog tab 23 [.sl 5 (l.map Kh),.sl 4 (j.map Yx)] (.bool r):=by
 unfold q89 at b;refine Ka Tryz.func23 O ql ql O<|qg<|qf O<|qb<|qh<|qg<|q0 O<|Ki O<|U _ O<|q9 b fun c7 c b=>?_;refine Qi 10 (fun A st=>∃ m n o p q s t u v,st = A [(18,Q1 c7),(17,v),(16,u),(15,t),(14,s),(13,q),(12,p),(11,o),(10,n),(9,m)]) ?_ ?_
 ·refine Qj O O c (fun c=>?_) (fun c=>?_)
  ·refine qa O<|qa O<|qa O<|qa O<|qa O<|qa O<|qa O<|qa O<|U _ O<|qb ?_;cases c;exact ⟨_,_,_,_,_,_,_,_,_,O⟩
  refine q0 O<|Ki O<|U _ O<|q9 c fun ao g c=>?_;refine Qi 5 (fun A st=>∃ w x y z,st = A [(17,Q1 ao),(16,z),(15,y),(14,x),(13,w)]) ?_ ?_
  ·refine Qj O O g (fun g=>?_) (fun g=>?_)
   ·refine q0 O<|Ki O<|U _ O<|U _ O<|qb ?_;cases g;exact ⟨_,_,_,_,O⟩
   refine qa O<|qa O<|qa O<|U _ O<|qb ?_;cases g;exact ⟨_,_,_,_,O⟩
  rintro _ ⟨w,x,y,z,rfl⟩;refine U _ O<|qb ?_;cases c;exact ⟨_,_,_,_,_,_,_,_,_,O⟩
 rintro _ ⟨m,n,o,p,q,s,t,u,v,rfl⟩;refine q9 b fun ap h b=>?_;refine Qi 5 (fun A st=>∃ aa ab ac ad,st = A [(23,Q1 ap),(22,ad),(21,ac),(20,ab),(19,aa)]) ?_ ?_
 ·refine Qj O O h (fun h=>?_) (fun h=>?_)
  ·refine qa O<|qa O<|qa O<|U _ O<|qb ?_;cases h;exact ⟨_,_,_,_,O⟩
  refine q0 O<|Ki O<|U _ O<|U _ O<|qb ?_;cases h;exact ⟨_,_,_,_,O⟩
 rintro _ ⟨aa,ab,ac,ad,rfl⟩;refine qb ?_;refine qq O b (fun _ b=>?_) (fun _ b=>?_)
 ·refine qg<|qf O<|Qa ?_;cases b;exact Qv _ O
 refine qu<|qh<|qg<|qf O<|qb<|q9 b fun ae aq b=>?_;refine Qq (fun k=>.inl k = ae) (fun k=>⟨[],[],0⟩) qe ?_ ?_
 ·refine Qm (q5q j) (fun af=>⟨[(1,.d (.sl 4 (j.map Yx))),(5,qd af)],[],0⟩) _ ae aq (wkA [] [] []) ?_;intro af aw a;unfold q5q at a;refine qh<|qg<|q0 O<|q0 O<|Ki O<|U _ O<|qb ?_;refine qq O a (fun _ a=>?_) (fun _ a=>?_)
  ·refine qu<|qh<|Qe<|qg<|q0 O<|q0 O<|q9 a fun ax ar a=>Qt ar O<|U _ O<|U _ O<|U _ O<|q9 a fun au f a=>?_;refine Qi 8 (fun A st=>∃ ag ah ai aj ak al am,st = A [(43,Q1 au),(42,am),(41,al),(40,ak),(39,aj),(38,ai),(37,ah),(36,ag)]) ?_ ?_
   ·refine Qj O O f (fun f=>?_) (fun f=>?_)
    ·refine q0 O<|q0 O<|q9 f fun ay av f=>Qt av O<|U _ O<|U _ O<|U _ O<|U _ O<|qb ?_;cases f;exact ⟨_,_,_,_,_,_,_,O⟩
    refine qa O<|qa O<|qa O<|qa O<|qa O<|qa O<|U _ O<|qb ?_;cases f;exact ⟨_,_,_,_,_,_,_,O⟩
   rintro _ ⟨ag,ah,ai,aj,ak,al,am,rfl⟩;refine qb ?_;refine qq O a (fun _ a=>?_) (fun _ a=>?_)
   ·refine qg<|qf O<|Qa ?_;refine ⟨_,qr a,fun hm=>?_⟩;subst hm;cases b;exact Qv _ O
   refine qu<|Qd<|Ql<|Q0<|q0 O<|U _ O<|qf O<|qz<|⟨_,qr a,wkA [] [] []⟩
  refine Qh ?_;refine ⟨_,qr a,fun hm=>?_⟩;subst hm;exact ⟨_,O,wkA [] [] []⟩
 intro k hb;subst hb;refine qg<|qf O<|Qa ?_;cases b;exact Qv _ O
theorem qf3 (a : qc) (r : Bool) (c : q2y a = some r) : Pure Tryz.prog tab 67 [.agg (qt a)] (.bool r):=by
 unfold q2y at c;refine Ka Tryz.func67 O ql ql O<|qg<|K1 _ _ O<|qf O<|qy<|U _ O<|U _ O<|U _ O<|U _ O<|U _ O<|U _ O<|U _ O<|U _ O<|U _ O<|U _ O<|Zk (r:=max (max (max a.X (w64 (0 - a.X))) a.Y) (w64 (0 - a.Y))) O O (by simp only [Zj];rfl)<|U _ O<|q9 c fun m b c=>?_;refine Qi 8 (fun A st=>∃ d f g h j k l,st = A [(22,Q1 m),(21,l),(20,k),(19,j),(18,h),(17,g),(16,f),(15,d)]) ?_ ?_
 ·refine Qj O O b (fun b=>?_) (fun b=>?_)
  ·refine U _ O<|U _ O<|U _ O<|U _ O<|Us (r:=min a.X a.Y) O O (by simp only [Up];rfl)<|U _ O<|U _ O<|qb ?_;cases b;exact ⟨_,_,_,_,_,_,_,O⟩
  refine qa O<|qa O<|qa O<|qa O<|qa O<|qa O<|U _ O<|qb ?_;cases b;exact ⟨_,_,_,_,_,_,_,O⟩
 rintro _ ⟨d,f,g,h,j,k,l,rfl⟩;refine qf O<|Qa ?_;cases c;exact Qv _ O
theorem qjb (f : List Qx) (r : Int) (b : q3y f = some r) : Pure Tryz.prog tab 47 [.sl 5 (f.map Kh)] (qi r):=by
 unfold q3y at b;refine Ka Tryz.func47 O ql ql O<|qg<|qf O<|qb<|qh<|qg<|q0 O<|Ki O<|U _ O<|qb ?_;refine qq O b (fun _ b=>?_) (fun _ b=>?_)
 ·refine qg<|qf O<|Qa ?_;cases b;exact Qv _ O
 refine qu<|qh<|qg<|q0 O<|Ki O<|q0 O<|qb<|q9 b fun n ap b=>?_;refine Qq (fun m=>.inl m = n) (fun m=>⟨[],[],0⟩) qe ?_ ?_
 ·refine Qm (q7z f) (fun o=>⟨[(8,.d (.sl 5 (f.map Kh))),(9,qd (f.length : Int)),(10,qd o)],[],0⟩) _ n ap (wkA [] [] []) ?_;intro o bc a;unfold q7z at a;refine qg<|U _ O<|qb<|qh ?_;refine qq O a (fun _ a=>?_) (fun _ a=>?_)
  ·refine qu<|qh<|Qe<|qg<|q9 a fun aq ar a=>Qt ar O<|U _ O<|K8 O O<|Qr 0 _ O<|qy<|U _ O<|U _ O<|U _ O<|q9 a fun au g a=>?_;refine Qi 5 (fun A st=>∃ p q s t,st = A [(21,Q1 au),(20,t),(19,s),(18,q),(17,p)]) ?_ ?_
   ·refine Qj O O g (fun g=>?_) (fun g=>?_)
    ·refine qa O<|qa O<|qa O<|U _ O<|qb ?_;cases g;exact ⟨_,_,_,_,O⟩
    refine U _ O<|U _ O<|U _ O<|U _ O<|qb ?_;cases g;exact ⟨_,_,_,_,O⟩
   rintro _ ⟨p,q,s,t,rfl⟩;refine q9 a fun av c a=>?_;refine Qi 6 (fun A st=>∃ u v w x y,st = A [(27,Q1 av),(26,y),(25,x),(24,w),(23,v),(22,u)]) ?_ ?_
   ·refine Qj O O c (fun c=>?_) (fun c=>?_)
    ·refine qa O<|qa O<|qa O<|qa O<|U _ O<|qb ?_;cases c;exact ⟨_,_,_,_,_,O⟩
    refine U _ O<|U _ O<|q9 c fun aw ax c=>Qw (qf3 aq.At aw ax) O<|U _ O<|U _ O<|qb ?_;cases c;exact ⟨_,_,_,_,_,O⟩
   rintro _ ⟨u,v,w,x,y,rfl⟩;refine q9 a fun ay h a=>?_;refine Qi 5 (fun A st=>∃ z aa ab ac,st = A [(32,Q1 ay),(31,ac),(30,ab),(29,aa),(28,z)]) ?_ ?_
   ·refine Qj O O h (fun h=>?_) (fun h=>?_)
    ·refine qa O<|qa O<|qa O<|U _ O<|qb ?_;cases h;exact ⟨_,_,_,_,O⟩
    refine U _ O<|U _ O<|U _ O<|U _ O<|qb ?_;cases h;exact ⟨_,_,_,_,O⟩
   rintro _ ⟨z,aa,ab,ac,rfl⟩;refine q9 a fun az j a=>?_;refine Qi 5 (fun A st=>∃ ad ae af ag,st = A [(37,Q1 az),(36,ag),(35,af),(34,ae),(33,ad)]) ?_ ?_
   ·refine Qj O O j (fun j=>?_) (fun j=>?_)
    ·refine qa O<|qa O<|qa O<|U _ O<|qb ?_;cases j;exact ⟨_,_,_,_,O⟩
    refine U _ O<|U _ O<|U _ O<|U _ O<|qb ?_;cases j;exact ⟨_,_,_,_,O⟩
   rintro _ ⟨ad,ae,af,ag,rfl⟩;refine q9 a fun ba k a=>?_;refine Qi 5 (fun A st=>∃ ah ai aj ak,st = A [(42,Q1 ba),(41,ak),(40,aj),(39,ai),(38,ah)]) ?_ ?_
   ·refine Qj O O k (fun k=>?_) (fun k=>?_)
    ·refine qa O<|qa O<|qa O<|U _ O<|qb ?_;cases k;exact ⟨_,_,_,_,O⟩
    refine U _ O<|U _ O<|U _ O<|U _ O<|qb ?_;cases k;exact ⟨_,_,_,_,O⟩
   rintro _ ⟨ah,ai,aj,ak,rfl⟩;refine q9 a fun bb l a=>?_;refine Qi 5 (fun A st=>∃ al am an ao,st = A [(47,Q1 bb),(46,ao),(45,an),(44,am),(43,al)]) ?_ ?_
   ·refine Qj O O l (fun l=>?_) (fun l=>?_)
    ·refine qa O<|qa O<|qa O<|U _ O<|qb ?_;cases l;exact ⟨_,_,_,_,O⟩
    refine U _ O<|U _ O<|U _ O<|U _ O<|qb ?_;cases l;exact ⟨_,_,_,_,O⟩
   rintro _ ⟨al,am,an,ao,rfl⟩;refine qb ?_;refine qq O a (fun _ a=>?_) (fun _ a=>?_)
   ·refine qg<|qf O<|Qa ?_;refine ⟨_,qr a,fun hm=>?_⟩;subst hm;cases b;exact Qv _ O
   refine qu<|Qd<|Ql<|Q0<|U _ O<|q0 O<|qz<|⟨_,qr a,wkA [] [] []⟩
  refine Qh ?_;refine ⟨_,qr a,fun hm=>?_⟩;subst hm;exact ⟨_,O,wkA [] [] []⟩
 intro m hb;subst hb;refine qg<|qf O<|Qa ?_;cases b;exact Qv _ O
theorem qrv (f : List Qx) (a : qc) (r : Int) (k : q80 f a = some r) : Pure Tryz.prog tab 105 [.sl 5 (f.map Kh),.agg (qt a)] (qi r):=by
 unfold q80 at k;refine Ka Tryz.func105 O ql ql O<|qg<|K1 _ _ O<|qf O<|qy<|K8 O O<|Qr 1 _ O<|qb<|qh<|qg<|q0 O<|U _ O<|q9 k fun x y k=>?_;refine quf [.d (.sl 5 (f.map Kh)),.d (.agg (qt a))] (fun p=>p = x) (fun p=>⟨[(4,qd 0),(5,.ref 0 1 0 0),(10,.fn 131 [.ref 1 1 0 0,.ref 2 2 0 0])],[(0,.dat 1 [[qi 0]]),(1,.dat 1 [[.sl 5 (f.map Kh)]]),(2,.dat 2 [(qt a)])],3⟩) O O Tryz.func123 O ql ql O ?_ ?_
 ·refine qg<|K1 _ _ O<|K1 _ _ O<|qf O<|qy<|U _ O<|qf O<|Qa ?_;refine ⟨.inr O,_,O,?_⟩;obtain rfl:=qs y;exact ⟨_,O,wkA [(0,1),(1,2),(2,3)] [] []⟩
 intro p hb;subst hb;refine qb<|Qe<|q9 k fun z q k=>?_;refine qmr (fun n=>n = z) (fun n=>⟨[(5,.ref 0 1 0 0)],[(0,.dat 1 [[qi n]])],1⟩) ?_ ?_
 ·refine Zl (st':=⟨[(4,qd 0),(5,.ref 0 1 0 0),(10,.fn 131 [.ref 1 1 0 0,.ref 2 2 0 0])],[(0,.dat 1 [[qi 0]]),(1,.dat 1 [[.sl 5 (f.map Kh)]]),(2,.dat 2 [(qt a)])],3⟩) (wkA [(0,0),(1,1),(2,2)] [] []) ?_ qe;refine qmt _ (.inl O) Tryz.func131 O ql ql O ?_;intro A58 B59 hA58 hB59;refine qg<|U _ O<|Ki O<|q0 O<|qb<|q9 q fun aa ab q=>Qe<|Qm (q3z f a) (fun h=>⟨[(0,.yld 3),(2,.ref 2 2 0 0),(9,.d (.sl 5 (f.map Kh))),(10,qd (f.length : Int)),(11,qd h.1)],[(0,.dat 1 [[qi h.2]]),(1,.dat 1 [[.sl 5 (f.map Kh)]]),(2,.dat 2 [(qt a)]),(3,.loop [(4,qd 0),(5,.ref 0 1 0 0),(10,.fn 131 [.ref 1 1 0 0,.ref 2 2 0 0])] [11,12] A58 B59 .ready none)],4⟩) _ aa ab (wkA [] [] []) ?_;intro h ai j;unfold q3z at j;refine qg<|U _ O<|qb<|qh ?_;refine qq O j (fun _ j=>?_) (fun _ j=>?_)
  ·refine qu<|qh<|q9 j fun ac g j=>?_;refine Qq (fun o=>o = ac) (fun o=>⟨[(0,.yld 3),(2,.ref 2 2 0 0),(9,.d (.sl 5 (f.map Kh))),(10,qd (f.length : Int)),(11,qd h.1)],[(0,.dat 1 [[qi o]]),(1,.dat 1 [[.sl 5 (f.map Kh)]]),(2,.dat 2 [(qt a)]),(3,.loop [(4,qd 0),(5,.ref 0 1 0 0),(10,.fn 131 [.ref 1 1 0 0,.ref 2 2 0 0])] [11,12] A58 B59 .ready none)],4⟩) qe ?_ ?_
   ·refine qg<|q9 g fun b ad g=>Qt ad O<|U _ O<|K8 O O<|Qr 4 _ O<|qb<|qh<|Qf [q7,q7,q7,qv 4,q7,q7,qv 2,q7,q7,qv 4,q7,q7,qv 2,q7] ql<|U _ O<|U _ O<|U _ O<|U _ O<|U _ O<|U _ O<|U _ O<|U _ O<|U _ O<|U _ O<|U _ O<|U _ O<|qf O<|qf O<|qy<|q0 O<|q0 O<|U _ O<|Zk (r:=max (w64 (a.X - b.At.X)) (w64 (0 - (w64 (a.X - b.At.X))))) O O (by simp only [Zj];rfl)<|q0 O<|q0 O<|U _ O<|Zk (r:=max (w64 (a.Y - b.At.Y)) (w64 (0 - (w64 (a.Y - b.At.Y))))) O O (by simp only [Zj];rfl)<|qf O<|qf O<|qb<|qh<|qg<|q0 O<|q0 O<|Zk (r:=max (max (w64 (a.X - b.At.X)) (w64 (0 - (w64 (a.X - b.At.X))))) (max (w64 (a.Y - b.At.Y)) (w64 (0 - (w64 (a.Y - b.At.Y)))))) O O (by simp only [Zj];rfl) ?_;refine U _ O<|U _ O<|U _ O<|qb ?_;refine qq O g (fun _ g=>?_) (fun _ g=>?_)
    ·refine Qh ?_;obtain rfl:=qs g;exact ⟨_,O,wkA [] [] []⟩
    refine qu<|qg<|qf O<|qb<|qh<|q9 g fun ae c g=>?_;refine Qq (fun l=>l = ae) (fun l=>⟨[(0,.yld 3),(2,.ref 2 2 0 0),(5,.ref 4 5 0 0),(6,.d (qi (max (w64 (a.X - b.At.X)) (w64 (0 - (w64 (a.X - b.At.X))))))),(7,.d (qi (max (w64 (a.Y - b.At.Y)) (w64 (0 - (w64 (a.Y - b.At.Y))))))),(8,qd l),(9,.d (.sl 5 (f.map Kh))),(10,qd (f.length : Int)),(11,qd h.1)],[(0,.dat 1 [[qi h.2]]),(1,.dat 1 [[.sl 5 (f.map Kh)]]),(2,.dat 2 [(qt a)]),(3,.loop [(4,qd 0),(5,.ref 0 1 0 0),(10,.fn 131 [.ref 1 1 0 0,.ref 2 2 0 0])] [11,12] A58 B59 .ready none),(4,.dat 5 [(Kh b)])],5⟩) qe ?_ ?_
    ·refine qg<|U _ O<|U _ O<|U _ O<|qf O<|qb ?_;refine qq O c (fun _ c=>?_) (fun _ c=>?_)
     ·refine Q0<|qf O<|qz ?_;obtain rfl:=qs c;exact ⟨_,O,wkA [(4,4)] [] []⟩
     refine qg<|U _ O<|U _ O<|U _ O<|qf O<|qb ?_;refine qq O c (fun _ c=>?_) (fun _ c=>?_)
     ·refine Q0<|qf O<|qz ?_;obtain rfl:=qs c;exact ⟨_,O,wkA [(4,4)] [] []⟩
     refine qg<|U _ O<|U _ O<|U _ O<|q0 O<|q0 O<|U _ O<|U _ O<|q9 c fun af m c=>?_;refine Qi 5 (fun A st=>∃ t u v w,st = A [(61,Q1 af),(60,w),(59,v),(58,u),(57,t)]) ?_ ?_
     ·refine Qj O O m (fun m=>?_) (fun m=>?_)
      ·refine q0 O<|q0 O<|U _ O<|U _ O<|qb ?_;cases m;exact ⟨_,_,_,_,O⟩
      refine qa O<|qa O<|qa O<|U _ O<|qb ?_;cases m;exact ⟨_,_,_,_,O⟩
     rintro _ ⟨t,u,v,w,rfl⟩;refine qf O<|qb ?_;refine qq O c (fun _ c=>?_) (fun _ c=>?_)
     ·refine Q0<|qf O<|qz ?_;obtain rfl:=qs c;exact ⟨_,O,wkA [(4,4)] [] []⟩
     refine qg<|q0 O<|q0 O<|U _ O<|qf O<|qb ?_;refine qq O c (fun _ c=>?_) (fun _ c=>?_)
     ·refine Q0<|qf O<|qz ?_;obtain rfl:=qs c;exact ⟨_,O,wkA [(4,4)] [] []⟩
     refine qu<|Qd ?_;obtain rfl:=qs c;exact ⟨_,O,wkA [(4,4)] [] []⟩
    intro l hb;subst hb;refine qg<|q0 O<|U _ O<|q0 O<|U _ O<|U _ O<|U _ O<|U _ O<|U _ O<|U _ O<|q0 O<|q0 O<|Zk (r:=max (max (w64 (a.X - b.At.X)) (w64 (0 - (w64 (a.X - b.At.X))))) (max (w64 (a.Y - b.At.Y)) (w64 (0 - (w64 (a.Y - b.At.Y)))))) O O (by simp only [Zj];rfl)<|U _ O<|U _ O<|q9 g fun ag ah g=>?_;refine qlk (fun s=>s = ag) (fun s=>⟨[(0,.yld 3),(2,.ref 2 2 0 0),(9,.d (.sl 5 (f.map Kh))),(10,qd (f.length : Int)),(11,qd h.1),(80,Q1 true)],[(0,.dat 1 [[qi (w64 (h.2 + (w64 ((w64 (l * b.Weight)) * (w64 ((w64 (b.Reach + 1)) - (max (max (w64 (a.X - b.At.X)) (w64 (0 - (w64 (a.X - b.At.X))))) (max (w64 (a.Y - b.At.Y)) (w64 (0 - (w64 (a.Y - b.At.Y))))))))))))]]),(1,.dat 1 [[.sl 5 (f.map Kh)]]),(2,.dat 2 [(qt a)]),(3,.loop [(4,qd 0),(5,.ref 0 1 0 0),(10,.fn 131 [.ref 1 1 0 0,.ref 2 2 0 0])] [11,12] A58 B59 .ready none)],4⟩) hA58 hB59 O O O O O O ?_ ?_
    ·refine Q0<|qf O<|qz ?_;refine ⟨O,_,O,?_⟩;refine Qe<|Q0<|U _ O<|q0 O<|U _ O<|Qr 0 _ O<|qz<|Ql<|Qd ?_;refine ⟨_,O,?_⟩;obtain rfl:=qs ah;exact ⟨_,O,wkA [] [] []⟩
    intro s hb;subst hb;refine U _ O<|qb<|U5 O<|qu<|Qd ?_;obtain rfl:=qs g;exact ⟨_,O,wkA [] [] []⟩
   intro o hb;subst hb;refine Q0<|U _ O<|q0 O<|qz<|⟨_,qr j,wkA [] [] []⟩
  refine Qh ?_;refine ⟨_,qr j,fun hm=>?_⟩;subst hm;refine ⟨.inl O,_,O,_,_,.nor,O,Q3,?_⟩;refine qhp<|Qd ?_;obtain rfl:=qs q;exact ⟨_,O,wkA [(0,0)] [] []⟩
 intro n st hb hw;subst hb;refine Zl hw ?_ qe;refine qg<|U _ O<|qf O<|Qa ?_;cases k;exact Qv _ O
theorem qru (b : List Qx) (c : qc) (r : Int) (a : q5j b c = some r) : Pure Tryz.prog tab 88 [.sl 5 (b.map Kh),.agg (qt c)] (.int .u8 r):=by
 unfold q5j at a;refine Ka Tryz.func88 O ql ql O<|qg<|K1 _ _ O<|qf O<|qb<|qh<|qg<|q0 O<|U _ O<|q9 a fun d f a=>Qw (qrv b c d f) O<|qf O<|qb<|Qe<|qg<|q0 O<|U _ O<|qf O<|qb ?_;refine qq O a (fun _ a=>?_) (fun _ a=>?_)
 ·refine qg<|qf O<|Qa ?_;cases a;exact Qv _ O
 refine qg<|q0 O<|U _ O<|qf O<|qb ?_;refine qq O a (fun _ a=>?_) (fun _ a=>?_)
 ·refine qg<|qf O<|Qa ?_;cases a;exact Qv _ O
 refine qu<|Qd<|Ql<|qg<|qf O<|Qa ?_;cases a;exact Qv _ O
theorem qrt (f : List Qx) (p : qc) (q : Int) (g : Int) (r : List qc × Int) (b : q5h f p q g = some r) : Pure Tryz.prog tab 68 [.sl 5 (f.map Kh),.agg (qt p),.int .u8 q,qi g] (.tup [.sl 2 (r.1.map qt),qi r.2]):=by
 unfold q5h at b;refine Ka Tryz.func68 O ql ql O<|qg<|K1 _ _ O<|qf O<|qf O<|qb<|qh<|qg<|q0 O<|q9 b fun r1 h2 b=>Qw (qjb f r1 h2) O<|qf O<|qy<|q0 O<|U _ O<|qb ?_;refine qq O b (fun _ b=>?_) (fun _ b=>?_)
 ·refine qg<|q0 O<|qf O<|qf O<|Qa ?_;obtain rfl:=qs b;exact finD (.inr O) O O (Ys (.cons (.nil _) (.cons (.refl _) .nil)))
 refine qu<|qh<|qg<|U _ O<|q9 b fun r3 h4 b=>Qw (qf3 p r3 h4) O<|U _ O<|q9 b fun c5 h b=>?_;refine Qi 4 (fun A st=>∃ s t u,st = A [(25,Q1 c5),(24,u),(23,t),(22,s)]) ?_ ?_
 ·refine Qj O O h (fun h=>?_) (fun h=>?_)
  ·refine qa O<|qa O<|U _ O<|qb ?_;cases h;exact ⟨_,_,_,O⟩
  refine q0 O<|U _ O<|U _ O<|qb ?_;cases h;exact ⟨_,_,_,O⟩
 rintro _ ⟨s,t,u,rfl⟩;refine q9 b fun aq j b=>?_;refine Qi 4 (fun A st=>∃ v w x,st = A [(29,Q1 aq),(28,x),(27,w),(26,v)]) ?_ ?_
 ·refine Qj O O j (fun j=>?_) (fun j=>?_)
  ·refine qa O<|qa O<|U _ O<|qb ?_;cases j;exact ⟨_,_,_,O⟩
  refine q0 O<|U _ O<|U _ O<|qb ?_;cases j;exact ⟨_,_,_,O⟩
 rintro _ ⟨v,w,x,rfl⟩;refine q9 b fun ar k b=>?_;refine Qi 4 (fun A st=>∃ y z aa,st = A [(33,Q1 ar),(32,aa),(31,z),(30,y)]) ?_ ?_
 ·refine Qj O O k (fun k=>?_) (fun k=>?_)
  ·refine qa O<|qa O<|U _ O<|qb ?_;cases k;exact ⟨_,_,_,O⟩
  refine q0 O<|U _ O<|U _ O<|qb ?_;cases k;exact ⟨_,_,_,O⟩
 rintro _ ⟨y,z,aa,rfl⟩;refine qb ?_;refine qq O b (fun _ b=>?_) (fun _ b=>?_)
 ·refine qg<|qf O<|qf O<|Qa ?_;obtain rfl:=qs b;exact finD (.inr O) O O (Ys (.cons (.nil _) (.cons (.refl _) .nil)))
 refine qu<|qg<|U _ O<|U _ O<|U _ O<|U _ O<|U _ O<|K8 O O<|Qr 1 _ O<|qy<|U _ O<|K1 _ _ O<|qf O<|qb<|qh<|qg<|q0 O<|q0 O<|qb<|q9 b fun ab au b=>?_;refine Qq (fun l=>.inl l = ab) (fun l=>⟨[(12,.hs 0 2 0 l.length)],[(0,.dat 2 (l.map qt))],1⟩) qe ?_ ?_
 ·refine Qm (q5i g f) (fun c=>⟨[(0,.d (.sl 5 (f.map Kh))),(2,.d (.int .u8 c.1)),(5,.ref 0 2 0 0),(11,.ref 1 8 0 0),(12,.hs 2 2 0 c.2.2.2.2.length),(41,qd g),(42,qd c.2.1)],[(0,.dat 2 [[qi c.2.2.1,qi c.2.2.2.1]]),(1,.dat 8 [[({X:=1,Y:=0} : qc),({X:=0,Y:=1} : qc),({X:=(-1),Y:=0} : qc),({X:=0,Y:=(-1)} : qc)].flatMap qt]),(2,.dat 2 (c.2.2.2.2.map qt))],3⟩) _ ab au (wkA [(0,0),(1,1),(2,2)] [] []) ?_;intro c bc a;unfold q5i at a;refine qg<|U _ O<|qb<|qh ?_;refine qq O a (fun _ a=>?_) (fun _ a=>?_)
  ·refine qu<|qh<|Qe<|qh<|qg<|q0 O<|U _ O<|q9 a fun av aw a=>Qw (qru f ({X:=c.2.2.1,Y:=c.2.2.2.1} : qc) av aw) O<|qf O<|qy<|q0 O<|U _ O<|q9 a fun ax m a=>?_;refine Qi 6 (fun A st=>∃ ac ad ae af ag,st = A [(54,Q1 ax),(53,ag),(52,af),(51,ae),(50,ad),(49,ac)]) ?_ ?_
   ·refine Qj O O m (fun m=>?_) (fun m=>?_)
    ·refine q0 O<|U _ O<|q0 O<|U _ O<|U _ O<|qb ?_;cases m;exact ⟨_,_,_,_,_,O⟩
    refine qa O<|qa O<|qa O<|qa O<|U _ O<|qb ?_;cases m;exact ⟨_,_,_,_,_,O⟩
   rintro _ ⟨ac,ad,ae,af,ag,rfl⟩;refine qb<|q9 a fun ay n a=>?_;refine Y0 (fun o=>o = ay) (fun o=>⟨[(0,.d (.sl 5 (f.map Kh))),(2,.d (.int .u8 o)),(5,.ref 0 2 0 0),(11,.ref 1 8 0 0),(12,.hs 2 2 0 c.2.2.2.2.length),(41,qd g),(42,qd c.2.1)],[(0,.dat 2 [[qi c.2.2.1,qi c.2.2.2.1]]),(1,.dat 8 [[({X:=1,Y:=0} : qc),({X:=0,Y:=1} : qc),({X:=(-1),Y:=0} : qc),({X:=0,Y:=(-1)} : qc)].flatMap qt]),(2,.dat 2 (c.2.2.2.2.map qt))],3⟩) qe ?_ ?_
   ·refine qq O n (fun _ n=>?_) (fun _ n=>?_)
    ·refine Q0<|q0 O<|U _ O<|U _ O<|qf O<|qz ?_;obtain rfl:=qs n;exact ⟨_,O,wkA [(0,0),(1,1),(2,2)] [] []⟩
    refine qu<|Qd ?_;obtain rfl:=qs n;exact ⟨_,O,wkA [(0,0),(1,1),(2,2)] [] []⟩
   intro o hb;subst hb;refine qh<|Qf [Qk 0,q7,q7,qv 1,q7,q7,q7,qv 0,q7,q7,qv 1,q7,q7,q7,qv 0,q7] ql<|U _ O<|U _ O<|q0 O<|q9 a fun ah ai a=>q60 ai O O O O O<|U _ O<|qli (enc:=qt) (qd ah.X) ai (fun _=>rfl) O O O O O O<|U _ O<|U _ O<|U _ O<|q0 O<|q9 a fun aj ak a=>q60 ak O O O O O<|U _ O<|qli (enc:=qt) (qd aj.Y) ak (fun _=>rfl) O O O O O O<|U _ O<|U _ O<|Qr 0 _ O<|qb<|qh<|qg<|U _ O<|q9 a fun az ba a=>Qw (qf3 ({X:=w64 (c.2.2.1 + ah.X),Y:=w64 (c.2.2.2.1 + aj.Y)} : qc) az ba) O<|U _ O<|qb ?_;refine qq O a (fun _ a=>?_) (fun _ a=>?_)
   ·refine qg<|qf O<|qf O<|Qa ?_;refine ⟨_,qr a,fun hm=>?_⟩;subst hm;obtain rfl:=qs b;exact finD (.inr O) O O (Ys (.cons (.nil _) (.cons (.refl _) .nil)))
   refine qu<|Q0<|q0 O<|U _ O<|K1 _ _ O<|q9 a fun bd bb a=>Yn _ bb O O O O O O O (Z7 O O) O O O O<|qf O<|qz<|Ql<|Q0<|U _ O<|q0 O<|qz<|⟨_,qr a,wkA [(0,0),(1,1),(2,4)] [] []⟩
  refine Qh ?_;refine ⟨_,qr a,fun hm=>?_⟩;subst hm;exact ⟨_,O,wkA [(0,2)] [] []⟩
 intro l hb;subst hb;refine qg<|q0 O<|qf O<|qf O<|Qa ?_;obtain rfl:=qs b;exact finD (.inr O) O (qdz (Jn (Jp O O) (Jn O O))) (.refl _)
theorem q10e (b : List qc) (f : qc) (r : Int) (c : q99 b f = some r) : Pure Tryz.prog tab 69 [.sl 2 (b.map qt),.agg (qt f)] (qi r):=by
 unfold q99 at c;refine Ka Tryz.func69 O ql ql O<|qg<|K1 _ _ O<|qf O<|qb<|qh<|qg<|q0 O<|Ki O<|q0 O<|qb<|q9 c fun h k c=>?_;refine Qq (fun g=>.inl g = h) (fun g=>⟨[],[],0⟩) qe ?_ ?_
 ·refine Qm (q2k b f) (fun j=>⟨[(0,.d (.sl 2 (b.map qt))),(3,.ref 0 2 0 0),(7,qd (b.length : Int)),(8,qd j)],[(0,.dat 2 [(qt f)])],1⟩) _ h k (wkA [(0,0)] [] []) ?_;intro j m a;unfold q2k at a;refine qg<|U _ O<|qb<|qh ?_;refine qq O a (fun _ a=>?_) (fun _ a=>?_)
  ·refine qu<|qh<|Qe<|qg<|q0 O<|qf O<|qb<|qh<|Qf [q7,q7,q7,q7,q7,qv 0] ql<|U _ O<|q0 O<|q0 O<|q9 a fun n l a=>Qt l O<|U _ O<|U _ O<|qb ?_;refine qq O a (fun _ a=>?_) (fun _ a=>?_)
   ·refine qg<|q0 O<|qf O<|Qa ?_;refine ⟨_,qr a,fun hm=>?_⟩;subst hm;cases c;exact Qv _ O
   refine qu<|Qd<|Ql<|Q0<|U _ O<|q0 O<|qz<|⟨_,qr a,wkA [(0,0)] [] []⟩
  refine Qh ?_;refine ⟨_,qr a,fun hm=>?_⟩;subst hm;exact ⟨_,O,wkA [] [] []⟩
 intro g hb;subst hb;refine qg<|qf O<|Qa ?_;cases c;exact Qv _ O
theorem q12a (k : List Qx) (g : Y2) (t : List Q6) (u : List (qc × Bool)) (r : Int × (List (qc × Bool)) × List Q6) (l : qbr  k g t u = some r) : K3 Tryz.prog tab 49 [.d (.sl 5 (k.map Kh)),.d (.agg [qi (((g).At).X),qi (((g).At).Y),.int .u8 ((g).Head),qi ((g).Steps)]),.hs 0 4 0 t.length,.mp 1] [(0,.dat 4 (t.map Kc)),(1,.mp false (Qu (fun n : qc=>DV.agg (qt n)) DV.bool u))] 2 (.tup [.hs 2 4 0 r.2.2.length,qd r.1]) [(1,.mp false (Qu (fun n : qc=>DV.agg (qt n)) DV.bool r.2.1)),(2,.dat 4 (r.2.2.map Kc))] 3:=by
 unfold qbr at l;refine Kn Tryz.func49 O ql ql O<|qg<|K1 _ _ O<|qf O<|qf O<|qb<|qh<|Qf [q7,Qk 3,(some [],[3]),qv 2,q7,qv 2,q7] ql<|U _ O<|U _ O<|U _ O<|U _ O<|K8 O O<|Qr 3 _ O<|qf O<|qb<|qh<|qg<|U _ O<|U _ O<|q0 O<|qb<|q9 l fun v aj l=>?_;refine Qq (fun m=>.inl m = v) (fun m=>⟨[(2,.hs 2 4 0 m.2.length)],[(1,.mp false (Qu (fun n : qc=>DV.agg (qt n)) DV.bool m.1)),(2,.dat 4 (m.2.map Kc))],3⟩) qe ?_ ?_
 ·refine Qm (q2r g k) (fun f=>⟨[(0,.d (.sl 5 (k.map Kh))),(2,.hs 2 4 0 f.2.2.2.1.length),(3,.mp 1),(5,.ref 3 4 0 0),(10,.ref 4 2 0 0),(11,.d (.int .u8 f.1)),(23,.d (qi ((g).Steps))),(24,qd f.2.1)],[(1,.mp false (Qu (fun n : qc=>DV.agg (qt n)) DV.bool f.2.2.1)),(2,.dat 4 (f.2.2.2.1.map Kc)),(3,.dat 4 [[qi (((g).At).X),qi (((g).At).Y),.int .u8 ((g).Head),qi ((g).Steps)]]),(4,.dat 2 [[qi f.2.2.2.2.1,qi f.2.2.2.2.2]])],5⟩) _ v aj (wkA [(2,0),(3,2),(4,3)] [] []) ?_;intro f av c;unfold q2r at c;refine qg<|U _ O<|qb<|qh ?_;refine qq O c (fun _ c=>?_) (fun _ c=>?_)
  ·refine qu<|qh<|Qe<|qg<|q0 O<|qf O<|qy<|q0 O<|U _ O<|q0 O<|q9 c fun ak al c=>Qw (qrt k ({X:=f.2.2.2.2.1,Y:=f.2.2.2.2.2} : qc) f.1 1 ak al) O<|q0 O<|U _ O<|U _ O<|qf O<|qf O<|qb<|qh<|qg<|q0 O<|U _ O<|qb ?_;refine qq O c (fun _ c=>?_) (fun _ c=>?_)
   ·refine qg<|q0 O<|qf O<|qf O<|Qa ?_;refine ⟨_,qr c,fun hm=>?_⟩;subst hm;obtain rfl:=qs l;exact ⟨.inr O,_,O,wkA [] [] [2]⟩
   refine qu<|qg<|q0 O<|q9 c fun j am c=>Qt am O<|U _ O<|K8 O O<|Qr 5 _ O<|qy<|U _ O<|U _ O<|U _ O<|U _ O<|K1 _ _ O<|U _ O<|U _ O<|U _ O<|U _ O<|U _ O<|U _ O<|U _ O<|U _ O<|U _ O<|U _ O<|U _ O<|q9 c fun w an c=>q61 [.hs 6 2 0 [({X:=1,Y:=0} : qc),({X:=0,Y:=1} : qc),({X:=(-1),Y:=0} : qc),({X:=0,Y:=(-1)} : qc)].length,.d (.agg [qi (w64 (j.X - f.2.2.2.2.1)),qi (w64 (j.Y - f.2.2.2.2.2))])] (q10e [({X:=1,Y:=0} : qc),({X:=0,Y:=1} : qc),({X:=(-1),Y:=0} : qc),({X:=0,Y:=(-1)} : qc)] ({X:=w64 (j.X - f.2.2.2.2.1),Y:=w64 (j.Y - f.2.2.2.2.2)} : qc) w an) O O (Zr (Jp O O) (Zr O O)) (.inr O)<|U _ O<|qf O<|qb<|qh<|qg<|q0 O<|U _ O<|q9 c fun ao o c=>?_;refine Qi 5 (fun A st=>∃ x y z aa,st = A [(64,Q1 ao),(63,aa),(62,z),(61,y),(60,x)]) ?_ ?_
   ·refine Qj O O o (fun o=>?_) (fun o=>?_)
    ·refine q0 O<|q0 O<|U _ O<|U _ O<|qb ?_;cases o;exact ⟨_,_,_,_,O⟩
    refine qa O<|qa O<|qa O<|U _ O<|qb ?_;cases o;exact ⟨_,_,_,_,O⟩
   rintro _ ⟨x,y,z,aa,rfl⟩;refine qb<|q9 c fun ap h c=>?_;refine Y0 (fun q=>.inl q = ap) (fun q=>⟨[(0,.d (.sl 5 (k.map Kh))),(2,.hs 2 4 0 q.length),(3,.mp 1),(5,.ref 3 4 0 0),(10,.ref 4 2 0 0),(15,.ref 5 2 0 0),(16,.d (.int .u8 (IntKind.wrap .u8 w))),(23,.d (qi ((g).Steps))),(24,qd f.2.1)],[(1,.mp false (Qu (fun n : qc=>DV.agg (qt n)) DV.bool f.2.2.1)),(2,.dat 4 (q.map Kc)),(3,.dat 4 [[qi (((g).At).X),qi (((g).At).Y),.int .u8 ((g).Head),qi ((g).Steps)]]),(4,.dat 2 [[qi f.2.2.2.2.1,qi f.2.2.2.2.2]]),(5,.dat 2 [(qt j)])],6⟩) qe ?_ ?_
   ·refine qq O h (fun _ h=>?_) (fun _ h=>?_)
    ·refine Q0<|q0 O<|q0 O<|U _ O<|U _ O<|U _ O<|q9 h fun aq ab h=>qp ab O O<|U _ O<|Qp ({A:=aq.A,B:=j} : Q6) ab O O O O O O O O (leb O) O<|qz ?_;obtain rfl:=qs h;exact ⟨_,O,wkE [(2,2),(3,3),(4,4),(5,5)] [] [] O ⟨qk O,⟨_,O,Qy qe O Q3 (ltd O)⟩,⟨_,O,.mp O Q3 (ltd O)⟩,⟨_,O,.ref O Q3 (ltd O)⟩,⟨_,O,.ref O Q3 (ltd O)⟩,⟨_,O,.ref O Q3 (ltd O)⟩,qk O,qk O,qk O,trivial⟩ ⟨⟨ltd O,.inr ⟨Q3,_,O,.mpP (.refl _)⟩⟩,Qo O O,Qo O O,Qo O O,Qo O O,trivial⟩⟩
    refine qg<|q0 O<|U _ O<|U _ O<|U _ O<|K1 _ _ O<|q9 h fun aw ar h=>Yn _ ar O O O O O O O (Z7 O O) O O O O<|qf O<|qy<|q0 O<|U _ O<|U _ O<|qb ?_;refine qq O h (fun _ h=>?_) (fun _ h=>?_)
    ·refine qg<|qf O<|qf O<|Qa ?_;obtain rfl:=qs h;refine ⟨_,qr c,fun hm=>?_⟩;subst hm;obtain rfl:=qs l;exact ⟨.inr O,_,O,wkA [] [] [2]⟩
    refine qu<|Qd ?_;obtain rfl:=qs h;exact ⟨_,O,wkA [(2,8),(3,3),(4,4),(5,5)] [] []⟩
   intro q hb;subst hb;refine qg<|q0 O<|U _ O<|qg4 (ek:=(fun n : qc=>DV.agg (qt n))) (ev:=DV.bool) (es:=f.2.2.1) (keyS (fun p : qc=>p.X) (fun p=>p.Y) (fun a b h1 h2=>by cases a;cases b;simp_all)) false j O O O O O O O<|q9 c fun au s c=>?_;refine Qi 6 (fun A st=>∃ ae af ag ah ai,st = A [(89,Q1 au),(88,ai),(87,ah),(86,ag),(85,af),(84,ae)]) ?_ ?_
   ·refine Qj O O s (fun s=>?_) (fun s=>?_)
    ·refine qa O<|qa O<|qa O<|qa O<|U _ O<|qb ?_;cases s;exact ⟨_,_,_,_,_,O⟩
    refine U _ O<|U _ O<|U _ O<|U _ O<|U _ O<|qb ?_;cases s;exact ⟨_,_,_,_,_,O⟩
   rintro _ ⟨ae,af,ag,ah,ai,rfl⟩;refine qf O<|qb<|qh<|Qf [Qk 1,Qk 1,qv 5,q7,qv 4,q7] ql<|q0 O<|U _ O<|q0 O<|U _ O<|q35 (ek:=(fun n : qc=>DV.agg (qt n))) (ev:=DV.bool) (es:=f.2.2.1) (keyS (fun p : qc=>p.X) (fun p=>p.Y) (fun a b h1 h2=>by cases a;cases b;simp_all)) ({X:=f.2.2.2.2.1,Y:=f.2.2.2.2.2} : qc) true O O O O O O O O<|q35 (ek:=(fun n : qc=>DV.agg (qt n))) (ev:=DV.bool) (es:=(Ke ({X:=f.2.2.2.2.1,Y:=f.2.2.2.2.2} : qc) true f.2.2.1)) (keyS (fun p : qc=>p.X) (fun p=>p.Y) (fun a b h1 h2=>by cases a;cases b;simp_all)) j true O O O O O O O O<|qy<|U _ O<|q0 O<|Qr 4 _ O<|qf O<|qy<|q0 O<|qb ?_;refine qq O c (fun _ c=>?_) (fun _ c=>?_)
   ·refine Qh ?_;refine ⟨_,qr c,fun hm=>?_⟩;subst hm;exact ⟨_,O,wkA [(2,2)] [] []⟩
   refine qu<|Qd<|Ql<|Q0<|U _ O<|q0 O<|qz<|⟨_,qr c,wkA [(2,2),(3,3),(4,4)] [] []⟩
  refine Qh ?_;refine ⟨_,qr c,fun hm=>?_⟩;subst hm;exact ⟨_,O,wkA [(2,2)] [] []⟩
 intro m hb;subst hb;refine qg<|q0 O<|qf O<|qf O<|Qa ?_;obtain rfl:=qs l;exact ⟨.inr O,_,O,wkA [(2,2)] [] []⟩
theorem q123 (c : List Q6) (r : K5 × Int) (a : Ux c = some r) : Pure Tryz.prog tab 28 [.sl 4 (c.map Kc)] (.tup [.agg [.sl 2 (r.1.Nodes.map qt),.sl 2 (r.1.Edges.map Qc)],qi r.2]):=by
 unfold Ux at a;refine Ka Tryz.func28 O ql ql O<|qg<|K8 O O<|qf O<|qb<|qh<|qg<|q0 O<|Ki O<|U _ O<|qb ?_;refine qq O a (fun _ a=>?_) (fun _ a=>?_)
 ·refine qg<|U _ O<|Qr 0 _ O<|qf O<|Qa ?_;obtain rfl:=qs a;exact finD (.inr O) O O (Ys (.cons (Zt (.cons (.nil _) (.cons (.nil _) .nil))) (.cons (.refl _) .nil)))
 refine qu<|qh<|qg<|q0 O<|Ki O<|q0 O<|qb<|q9 a fun g j a=>?_;refine Qq (fun f=>.inl f = g) (fun f=>⟨[(0,.d (.sl 4 (c.map Kc))),(2,.ref 0 2 0 0)],[(0,.dat 2 [[.nilsl,.nilsl]])],1⟩) qe ?_ ?_
 ·refine Qm (q7b c) (fun h=>⟨[(0,.d (.sl 4 (c.map Kc))),(2,.ref 0 2 0 0),(12,.d (.sl 4 (c.map Kc))),(13,qd (c.length : Int)),(14,qd h)],[(0,.dat 2 [[.nilsl,.nilsl]])],1⟩) _ g j (wkA [(0,0)] [] []) ?_;intro h q b;unfold q7b at b;refine qg<|U _ O<|qb<|qh ?_;refine qq O b (fun _ b=>?_) (fun _ b=>?_)
  ·refine qu<|qh<|Qe<|qg<|q9 b fun k l b=>Qt l O<|U _ O<|K8 O O<|Qr 1 _ O<|qy<|U _ O<|q9 b fun m n b=>Qw (q129 k m n) O<|U _ O<|qb ?_;refine qq O b (fun _ b=>?_) (fun _ b=>?_)
   ·refine qg<|U _ O<|Qr 0 _ O<|qf O<|Qa ?_;refine ⟨_,qr b,fun hm=>?_⟩;subst hm;obtain rfl:=qs a;exact finD (.inr O) O O (Ys (.cons (Zt (.cons (.nil _) (.cons (.nil _) .nil))) (.cons (.refl _) .nil)))
   refine qu<|Qd<|Ql<|Q0<|U _ O<|q0 O<|qz<|⟨_,qr b,wkA [(0,0)] [] []⟩
  refine Qh ?_;refine ⟨_,qr b,fun hm=>?_⟩;subst hm;exact ⟨_,O,wkA [(0,0)] [] []⟩
 intro f hb;subst hb;refine qg<|q0 O<|q9 a fun o p a=>Qw (q126 c o p) O<|q0 O<|U _ O<|U _ O<|K8 O O<|Qr 1 _ O<|qf O<|qb<|qh<|qg<|q0 O<|U _ O<|qb ?_;refine qq O a (fun _ a=>?_) (fun _ a=>?_)
 ·refine qg<|U _ O<|Qr 0 _ O<|qf O<|Qa ?_;obtain rfl:=qs a;exact finD (.inr O) O O (Ys (.cons (Zt (.cons (.nil _) (.cons (.nil _) .nil))) (.cons (.refl _) .nil)))
 refine qu<|qg<|U _ O<|Qr 0 _ O<|qf O<|Qa ?_;cases a;exact Qv _ O
theorem q122 (k : List Qx) (h : List Y2) (r : K5 × Int) (b : qbn k h = some r) : Pure Tryz.prog tab 24 [.sl 5 (k.map Kh),.sl 4 (h.map Yx)] (.tup [.agg [.sl 2 (r.1.Nodes.map qt),.sl 2 (r.1.Edges.map Qc)],qi r.2]):=by
 unfold qbn at b;refine Ka Tryz.func24 O ql ql O<|qg<|K8 O O<|qf O<|qb<|qh<|qg<|q0 O<|q9 b fun u h2 b=>Qw (qjb k u h2) O<|qf O<|qy<|q0 O<|U (Q1 (u != 0)) O<|qb ?_;refine qq O b (fun _ b=>?_) (fun _ b=>?_)
 ·refine qg<|U (.d (.agg [.nilsl,.nilsl])) O<|q0 O<|Qr 0 (.dat 2 [[.nilsl,.nilsl]]) O<|qf O<|Qa ?_;obtain rfl:=qs b;exact finD (.inr O) (v:=.d (.tup [.agg [.nilsl,.nilsl],qi u])) O O (Ys (.cons (Zt (.cons (.nil _) (.cons (.nil _) .nil))) (.cons (.refl _) .nil)))
 refine qu<|qh<|qg<|q0 O<|Ki O<|U (.d (.bool (decide ((h.length : Int) > 30)))) O<|qb ?_;refine qq O b (fun _ b=>?_) (fun _ b=>?_)
 ·refine qg<|U (.d (.agg [.nilsl,.nilsl])) O<|Qr 0 (.dat 2 [[.nilsl,.nilsl]]) O<|qf O<|Qa ?_;obtain rfl:=qs b;exact finD (.inr O) (v:=.d (.tup [.agg [.nilsl,.nilsl],qi 4])) O O (Ys (.cons (Zt (.cons (.nil _) (.cons (.nil _) .nil))) (.cons (.refl _) .nil)))
 refine qu<|qh<|qg<|q0 O<|Ki O<|q0 O<|qb<|q9 b fun x an b=>?_;refine Qq (fun w=>.inl w = x) (fun (w : Unit)=>⟨[(0,.d (.sl 5 (k.map Kh))),(1,.d (.sl 4 (h.map Yx))),(4,.ref 0 2 0 0)],[(0,.dat 2 [[.nilsl,.nilsl]])],1⟩) qe ?_ ?_
 ·refine Qm (q7a h) (fun (t : Int)=>⟨[(0,.d (.sl 5 (k.map Kh))),(1,.d (.sl 4 (h.map Yx))),(4,.ref 0 2 0 0),(24,.d (.sl 4 (h.map Yx))),(25,qd (h.length : Int)),(26,qd t)],[(0,.dat 2 [[.nilsl,.nilsl]])],1⟩) 0 x an (wkA [(0,0)] [] []) ?_;intro t az c;unfold q7a at c;refine qg<|U (.d (.bool (decide (t < (h.length : Int))))) O<|qb<|qh ?_;refine qq O c (fun _ c=>?_) (fun _ c=>?_)
  ·refine qu<|qh<|Qe<|qg<|q9 c fun f ao c=>Qt (enc:=Yx) ao O<|U (.d (.agg [qi f.At.X,qi f.At.Y,.int .u8 f.Head,qi f.Steps])) O<|K8 O O<|Qr 1 (.dat 4 [[qi f.At.X,qi f.At.Y,.int .u8 f.Head,qi f.Steps]]) O<|qy<|U (.ref 1 4 0 0) O<|U (.d (.agg [qi f.At.X,qi f.At.Y])) O<|q9 c fun y ap c=>Qw (qh4 f.At y ap) O<|U (Q1 (!y)) O<|q9 c fun aq p c=>?_;refine Qi 5 (fun A st=>∃ (z aa ab ac : V),st = A [(38,Q1 aq),(37,ac),(36,ab),(35,aa),(34,z)]) ?_ ?_
   ·refine Qj O O p (fun p=>?_) (fun p=>?_)
    ·refine qa O<|qa O<|qa O<|U (Q1 true) O<|qb ?_;cases p;exact ⟨_,_,_,_,O⟩
    refine U (.ref 1 4 0 2) O<|U (.d (.int .u8 f.Head)) O<|U (.d (.bool (decide (f.Head > 3)))) O<|U (.d (.bool (decide (f.Head > 3)))) O<|qb ?_;cases p;exact ⟨_,_,_,_,O⟩
   rintro _ ⟨z,aa,ab,ac,rfl⟩;refine q9 c fun ar q c=>?_;refine Qi 5 (fun A st=>∃ (ad ae af ag : V),st = A [(43,Q1 ar),(42,ag),(41,af),(40,ae),(39,ad)]) ?_ ?_
   ·refine Qj O O q (fun q=>?_) (fun q=>?_)
    ·refine qa O<|qa O<|qa O<|U (Q1 true) O<|qb ?_;cases q;exact ⟨_,_,_,_,O⟩
    refine U (.ref 1 4 0 3) O<|U (qd f.Steps) O<|U (.d (.bool (decide (f.Steps < 0)))) O<|U (.d (.bool (decide (f.Steps < 0)))) O<|qb ?_;cases q;exact ⟨_,_,_,_,O⟩
   rintro _ ⟨ad,ae,af,ag,rfl⟩;refine q9 c fun au s c=>?_;refine Qi 5 (fun A st=>∃ (ah ai aj ak : V),st = A [(48,Q1 au),(47,ak),(46,aj),(45,ai),(44,ah)]) ?_ ?_
   ·refine Qj O O s (fun s=>?_) (fun s=>?_)
    ·refine qa O<|qa O<|qa O<|U (Q1 true) O<|qb ?_;cases s;exact ⟨_,_,_,_,O⟩
    refine U (.ref 1 4 0 3) O<|U (qd f.Steps) O<|U (.d (.bool (decide (f.Steps > 500)))) O<|U (.d (.bool (decide (f.Steps > 500)))) O<|qb ?_;cases s;exact ⟨_,_,_,_,O⟩
   rintro _ ⟨ah,ai,aj,ak,rfl⟩;refine qb ?_;refine qq O c (fun _ c=>?_) (fun _ c=>?_)
   ·refine qg<|U (.d (.agg [.nilsl,.nilsl])) O<|Qr 0 (.dat 2 [[.nilsl,.nilsl]]) O<|qf O<|Qa ?_;refine ⟨_,qr c,fun hm=>?_⟩;subst hm;obtain rfl:=qs b;exact finD (.inr O) (v:=.d (.tup [.agg [.nilsl,.nilsl],qi 8])) O O (Ys (.cons (Zt (.cons (.nil _) (.cons (.nil _) .nil))) (.cons (.refl _) .nil)))
   refine qu<|Qd<|Ql<|Q0<|U (.d (qi (w64 (t + 1)))) O<|q0 O<|qz<|⟨_,qr c,wkA [(0,0)] [] []⟩
  refine Qh ?_;refine ⟨_,qr c,fun hm=>?_⟩;subst hm;exact ⟨_,O,wkA [(0,0)] [] []⟩
 intro w hb;subst hb;refine qg<|qf O<|qy<|K1 (.mp 1) (.mp true (Qu (fun n : qc=>DV.agg [qi n.X,qi n.Y]) DV.bool ([] : List (qc × Bool)))) O<|qf O<|qb<|qh<|qg<|q0 O<|Ki O<|q0 O<|qb<|q9 b fun al av b=>?_;refine Qq (fun o=>.inl o = al) (fun (o : List Q6)=>⟨[(4,.ref 0 2 0 0),(9,.hs 1 4 0 o.length)],[(0,.dat 2 [[.nilsl,.nilsl]]),(1,.dat 4 (o.map Kc))],2⟩) qe ?_ ?_
 ·refine Qm (q2o h k) (fun (j : Int × List Q6 × (List (qc × Bool)))=>⟨[(0,.d (.sl 5 (k.map Kh))),(4,.ref 0 2 0 0),(9,.hs 1 4 0 j.2.1.length),(10,.mp 2),(52,.d (.sl 4 (h.map Yx))),(53,qd (h.length : Int)),(54,qd j.1)],[(0,.dat 2 [[.nilsl,.nilsl]]),(1,.dat 4 (j.2.1.map Kc)),(2,.mp false (Qu (fun n : qc=>DV.agg [qi n.X,qi n.Y]) DV.bool j.2.2))],3⟩) (0,[],[]) al av (wkA [(0,0),(2,1)] [] [1]) ?_;intro j ba g;unfold q2o at g;refine qg<|U (.d (.bool (decide (j.1 < (h.length : Int))))) O<|qb<|qh ?_;refine qq O g (fun _ g=>?_) (fun _ g=>?_)
  ·refine qu<|qh<|Qe<|qg<|q9 g fun a aw g=>Qt (enc:=Yx) aw O<|U (.d (.agg [qi a.At.X,qi a.At.Y,.int .u8 a.Head,qi a.Steps])) O<|K8 O O<|Qr 3 (.dat 4 [[qi a.At.X,qi a.At.Y,.int .u8 a.Head,qi a.Steps]]) O<|qy<|qf O<|qy<|q0 O<|U (.d (.agg [qi a.At.X,qi a.At.Y,.int .u8 a.Head,qi a.Steps])) O<|q0 O<|q0 O<|q9 g fun l ax g=>K4 [(0,1),(1,2)] [(0,3),(1,0),(2,1),(3,3),(4,2)] [.d (.sl 5 (k.map Kh)),.d (.agg [qi a.At.X,qi a.At.Y,.int .u8 a.Head,qi a.Steps]),.hs 1 4 0 j.2.1.length,.mp 2] (.tup [.hs 4 4 0 l.2.2.length,qd l.1]) 2 [(2,.mp false (Qu (fun n : qc=>DV.agg [qi n.X,qi n.Y]) DV.bool l.2.1)),(4,.dat 4 (l.2.2.map Kc)),(0,.dat 2 [[.nilsl,.nilsl]]),(3,.dat 4 [[qi a.At.X,qi a.At.Y,.int .u8 a.Head,qi a.Steps]])] 5 (q12a k a j.2.1 j.2.2 l ax)<|q0 O<|U (.hs 4 4 0 l.2.2.length) O<|U (qd l.1) O<|qf O<|qf O<|qy<|q0 O<|U (Q1 (l.1 != 0)) O<|qb ?_;refine qq O g (fun _ g=>?_) (fun _ g=>?_)
   ·refine qg<|U (.d (.agg [.nilsl,.nilsl])) O<|q0 O<|Qr 0 (.dat 2 [[.nilsl,.nilsl]]) O<|qf O<|Qa ?_;refine ⟨_,qr g,fun hm=>?_⟩;subst hm;obtain rfl:=qs b;exact finD (.inr O) (v:=.d (.tup [.agg [.nilsl,.nilsl],qi l.1])) O O (Ys (.cons (Zt (.cons (.nil _) (.cons (.nil _) .nil))) (.cons (.refl _) .nil)))
   refine qu<|Qd<|Ql<|Q0<|U (.d (qi (w64 (j.1 + 1)))) O<|q0 O<|qz<|⟨_,qr g,wkA [(0,0),(1,4),(2,2)] [] []⟩
  refine Qh ?_;refine ⟨_,qr g,fun hm=>?_⟩;subst hm;exact ⟨_,O,wkA [(0,0),(1,1)] [] []⟩
 intro o hb;subst hb;refine qh ?_;refine Zl (st':=⟨[(4,.ref 0 2 0 0),(9,.d (.sl 4 (o.map Kc)))],[(0,.dat 2 [[.nilsl,.nilsl]])],1⟩) (wkA [(0,0)] [1] []) ?_ qe;refine Q0<|q0 O<|q9 b fun m ay b=>Qw (q123 o m ay) O<|U (.d (.agg [.sl 2 (m.1.Nodes.map qt),.sl 2 (m.1.Edges.map Qc)])) O<|U (qd m.2) O<|Qr 0 (.dat 2 [[.sl 2 (m.1.Nodes.map qt),.sl 2 (m.1.Edges.map Qc)]]) O<|qf O<|Qa ?_;obtain rfl:=qs b;exact Qv (.d (.tup [.agg [.sl 2 (m.1.Nodes.map qt),.sl 2 (m.1.Edges.map Qc)],qi m.2])) O
theorem qm9 (l : List Qx) (r : Int) (b : q66 l = some r) : Pure Tryz.prog tab 50 [.sl 5 (l.map Kh)] (qi r):=by
 unfold q66 at b;refine Ka Tryz.func50 O ql ql O<|qg<|qf O<|qb<|qh<|qg<|q0 O<|Ki O<|U _ O<|qb ?_;refine qq O b (fun _ b=>?_) (fun _ b=>?_)
 ·refine qg<|qf O<|Qa ?_;cases b;exact Qv _ O
 refine qu<|qh<|qg<|qf O<|qb<|q9 b fun n bj b=>?_;refine Qq (fun m=>.inl m = n) (fun m=>⟨[],[],0⟩) qe ?_ ?_
 ·refine Qm (q8w l) (fun o=>⟨[(0,.d (.sl 5 (l.map Kh))),(3,qd o)],[],0⟩) _ n bj (wkA [] [] []) ?_;intro o cb a;unfold q8w at a;refine qh<|qg<|q0 O<|q0 O<|Ki O<|U _ O<|qb ?_;refine qq O a (fun _ a=>?_) (fun _ a=>?_)
  ·refine qu<|qh<|Qe<|qg<|q0 O<|q0 O<|q9 a fun cc bk a=>Qt bk O<|U _ O<|U _ O<|U _ O<|q9 a fun bl f a=>?_;refine Qi 8 (fun A st=>∃ p q s t u v w,st = A [(26,Q1 bl),(25,w),(24,v),(23,u),(22,t),(21,s),(20,q),(19,p)]) ?_ ?_
   ·refine Qj O O f (fun f=>?_) (fun f=>?_)
    ·refine qa O<|qa O<|qa O<|qa O<|qa O<|qa O<|U _ O<|qb ?_;cases f;exact ⟨_,_,_,_,_,_,_,O⟩
    refine q0 O<|q0 O<|q9 f fun cd bm f=>Qt bm O<|U _ O<|U _ O<|U _ O<|U _ O<|qb ?_;cases f;exact ⟨_,_,_,_,_,_,_,O⟩
   rintro _ ⟨p,q,s,t,u,v,w,rfl⟩;refine q9 a fun bn c a=>?_;refine Qi 9 (fun A st=>∃ x y z aa ab ac ad ae,st = A [(35,Q1 bn),(34,ae),(33,ad),(32,ac),(31,ab),(30,aa),(29,z),(28,y),(27,x)]) ?_ ?_
   ·refine Qj O O c (fun c=>?_) (fun c=>?_)
    ·refine qa O<|qa O<|qa O<|qa O<|qa O<|qa O<|qa O<|U _ O<|qb ?_;cases c;exact ⟨_,_,_,_,_,_,_,_,O⟩
    refine q0 O<|q0 O<|q9 c fun bo bp c=>Qt bp O<|U _ O<|U _ O<|q9 c fun bq br c=>Qw (q8y bo.At bq br) O<|U _ O<|U _ O<|qb ?_;cases c;exact ⟨_,_,_,_,_,_,_,_,O⟩
   rintro _ ⟨x,y,z,aa,ab,ac,ad,ae,rfl⟩;refine q9 a fun bs g a=>?_;refine Qi 8 (fun A st=>∃ af ag ah ai aj ak al,st = A [(43,Q1 bs),(42,al),(41,ak),(40,aj),(39,ai),(38,ah),(37,ag),(36,af)]) ?_ ?_
   ·refine Qj O O g (fun g=>?_) (fun g=>?_)
    ·refine qa O<|qa O<|qa O<|qa O<|qa O<|qa O<|U _ O<|qb ?_;cases g;exact ⟨_,_,_,_,_,_,_,O⟩
    refine q0 O<|q0 O<|q9 g fun ce bt g=>Qt bt O<|U _ O<|U _ O<|U _ O<|U _ O<|qb ?_;cases g;exact ⟨_,_,_,_,_,_,_,O⟩
   rintro _ ⟨af,ag,ah,ai,aj,ak,al,rfl⟩;refine q9 a fun bu h a=>?_;refine Qi 8 (fun A st=>∃ am an ao ap aq ar au,st = A [(51,Q1 bu),(50,au),(49,ar),(48,aq),(47,ap),(46,ao),(45,an),(44,am)]) ?_ ?_
   ·refine Qj O O h (fun h=>?_) (fun h=>?_)
    ·refine qa O<|qa O<|qa O<|qa O<|qa O<|qa O<|U _ O<|qb ?_;cases h;exact ⟨_,_,_,_,_,_,_,O⟩
    refine q0 O<|q0 O<|q9 h fun cf bv h=>Qt bv O<|U _ O<|U _ O<|U _ O<|U _ O<|qb ?_;cases h;exact ⟨_,_,_,_,_,_,_,O⟩
   rintro _ ⟨am,an,ao,ap,aq,ar,au,rfl⟩;refine q9 a fun bw j a=>?_;refine Qi 8 (fun A st=>∃ av aw ax ay az ba bb,st = A [(59,Q1 bw),(58,bb),(57,ba),(56,az),(55,ay),(54,ax),(53,aw),(52,av)]) ?_ ?_
   ·refine Qj O O j (fun j=>?_) (fun j=>?_)
    ·refine qa O<|qa O<|qa O<|qa O<|qa O<|qa O<|U _ O<|qb ?_;cases j;exact ⟨_,_,_,_,_,_,_,O⟩
    refine q0 O<|q0 O<|q9 j fun cg bx j=>Qt bx O<|U _ O<|U _ O<|U _ O<|U _ O<|qb ?_;cases j;exact ⟨_,_,_,_,_,_,_,O⟩
   rintro _ ⟨av,aw,ax,ay,az,ba,bb,rfl⟩;refine q9 a fun bz k a=>?_;refine Qi 8 (fun A st=>∃ bc bd be bf bg bh bi,st = A [(67,Q1 bz),(66,bi),(65,bh),(64,bg),(63,bf),(62,be),(61,bd),(60,bc)]) ?_ ?_
   ·refine Qj O O k (fun k=>?_) (fun k=>?_)
    ·refine qa O<|qa O<|qa O<|qa O<|qa O<|qa O<|U _ O<|qb ?_;cases k;exact ⟨_,_,_,_,_,_,_,O⟩
    refine q0 O<|q0 O<|q9 k fun ch ca k=>Qt ca O<|U _ O<|U _ O<|U _ O<|U _ O<|qb ?_;cases k;exact ⟨_,_,_,_,_,_,_,O⟩
   rintro _ ⟨bc,bd,be,bf,bg,bh,bi,rfl⟩;refine qb ?_;refine qq O a (fun _ a=>?_) (fun _ a=>?_)
   ·refine qg<|qf O<|Qa ?_;refine ⟨_,qr a,fun hm=>?_⟩;subst hm;cases b;exact Qv _ O
   refine qu<|Qd<|Ql<|Q0<|q0 O<|U _ O<|qf O<|qz<|⟨_,qr a,wkA [] [] []⟩
  refine Qh ?_;refine ⟨_,qr a,fun hm=>?_⟩;subst hm;exact ⟨_,O,wkA [] [] []⟩
 intro m hb;subst hb;refine qg<|qf O<|Qa ?_;cases b;exact Qv _ O
theorem qma (a : Int) (r : Int) (b : q91 a = some r) : Pure Tryz.prog tab 132 [qi a] (qi r):=by
 unfold q91 at b;refine Ka Tryz.func132 O ql ql O<|qg<|qf O<|qy<|q0 O<|q0 O<|U _ O<|Zk (r:=max a (w64 (0 - a))) O O (by simp only [Zj];rfl)<|qf O<|Qa ?_;cases b;exact Qv _ O
theorem qxv (b : Qx) (j : qc) (r : Int) (a : q90 b j = some r) : Pure Tryz.prog tab 124 [.agg (Kh b),.agg (qt j)] (qi r):=by
 unfold q90 at a;refine Ka Tryz.func124 O ql ql O<|qg<|K1 _ _ O<|K1 _ _ O<|qf O<|qb<|qh<|Qf [q7,q7,q7,q7,qv 0,q7,q7,qv 1,q7,q7,q7,qv 0,q7,q7,qv 1,q7] ql<|U _ O<|U _ O<|U _ O<|U _ O<|U _ O<|U _ O<|q9 a fun c m a=>Qw (qma (w64 (j.X - b.At.X)) c m) O<|U _ O<|U _ O<|U _ O<|U _ O<|U _ O<|U _ O<|q9 a fun f n a=>Qw (qma (w64 (j.Y - b.At.Y)) f n) O<|qf O<|qf O<|qb<|qh<|qg<|q0 O<|q0 O<|Zk (r:=max c f) O O (by simp only [Zj];rfl)<|U _ O<|U _ O<|U _ O<|qb ?_;refine qq O a (fun _ a=>?_) (fun _ a=>?_)
 ·refine qg<|qf O<|Qa ?_;cases a;exact Qv _ O
 refine qu<|qg<|U _ O<|U _ O<|U _ O<|U _ O<|U _ O<|q0 O<|q0 O<|Zk (r:=max c f) O O (by simp only [Zj];rfl)<|U _ O<|U _ O<|qf O<|qy<|qf O<|qb<|qh<|qg<|q0 O<|q0 O<|U _ O<|qb<|q9 a fun o g a=>?_;refine Y0 (fun k=>k = o) (fun k=>⟨[(2,.ref 0 5 0 0),(5,qd c),(6,qd f),(7,.d (qi (w64 (b.Weight * (w64 ((w64 (b.Reach + 1)) - (max c f))))))),(8,qd k)],[(0,.dat 5 [(Kh b)])],1⟩) qe ?_ ?_
 ·refine qq O g (fun _ g=>?_) (fun _ g=>?_)
  ·refine Q0<|qf O<|qz ?_;obtain rfl:=qs g;exact ⟨_,O,wkA [(0,0)] [] []⟩
  refine qu<|Qd ?_;obtain rfl:=qs g;exact ⟨_,O,wkA [(0,0)] [] []⟩
 intro k hb;subst hb;refine qh<|qg<|q0 O<|q0 O<|U _ O<|qb<|q9 a fun p h a=>?_;refine Y0 (fun l=>l = p) (fun l=>⟨[(2,.ref 0 5 0 0),(7,.d (qi (w64 (b.Weight * (w64 ((w64 (b.Reach + 1)) - (max c f))))))),(8,qd l)],[(0,.dat 5 [(Kh b)])],1⟩) qe ?_ ?_
 ·refine qq O h (fun _ h=>?_) (fun _ h=>?_)
  ·refine Q0<|qf O<|qz ?_;obtain rfl:=qs h;exact ⟨_,O,wkA [(0,0)] [] []⟩
  refine qu<|Qd ?_;obtain rfl:=qs h;exact ⟨_,O,wkA [(0,0)] [] []⟩
 intro l hb;subst hb;refine qh<|qg<|U _ O<|U _ O<|qb<|Qe<|qg<|U _ O<|qf O<|qb ?_;refine qq O a (fun _ a=>?_) (fun _ a=>?_)
 ·refine qg<|q0 O<|qf O<|Qa ?_;cases a;exact Qv _ O
 refine qg<|U _ O<|qf O<|qb ?_;refine qq O a (fun _ a=>?_) (fun _ a=>?_)
 ·refine qg<|q0 O<|U _ O<|qf O<|Qa ?_;cases a;exact Qv _ O
 refine qg<|U _ O<|qf O<|qb ?_;refine qq O a (fun _ a=>?_) (fun _ a=>?_)
 ·refine qg<|q0 O<|q0 O<|U _ O<|qf O<|Qa ?_;cases a;exact Qv _ O
 refine qu<|Qd<|Ql<|qg<|q0 O<|U _ O<|q0 O<|U _ O<|qf O<|Qa ?_;cases a;exact Qv _ O
theorem qxu (c : List Qx) (b : qc) (r : Int) (f : q8z c b = some r) : Pure Tryz.prog tab 106 [.sl 5 (c.map Kh),.agg (qt b)] (qi r):=by
 unfold q8z at f;refine Ka Tryz.func106 O ql ql O<|qg<|K1 _ _ O<|qf O<|qy<|qf O<|qb<|qh<|qg<|qf O<|qb<|q9 f fun j k f=>?_;refine Qq (fun g=>g = j) (fun g=>⟨[(5,qd g)],[],0⟩) qe ?_ ?_
 ·refine Qm (q4c c b) (fun h=>⟨[(0,.d (.sl 5 (c.map Kh))),(3,.ref 0 2 0 0),(5,qd h.1),(6,qd h.2)],[(0,.dat 2 [(qt b)])],1⟩) _ j k (wkA [(0,0)] [] []) ?_;intro h p a;unfold q4c at a;refine qh<|qg<|q0 O<|q0 O<|Ki O<|U _ O<|qb ?_;refine qq O a (fun _ a=>?_) (fun _ a=>?_)
  ·refine qu<|qh<|Qe<|Qf [q7,q7,q7,qv 0,q7,q7,q7,q7,q7] ql<|q0 O<|q0 O<|q0 O<|q9 a fun l m a=>Qt m O<|U _ O<|U _ O<|q9 a fun n o a=>Qw (qxv l b n o) O<|U _ O<|qf O<|qz<|Ql<|Q0<|q0 O<|U _ O<|qf O<|qz<|⟨_,qr a,wkA [(0,0)] [] []⟩
  refine Qh ?_;refine ⟨_,qr a,fun hm=>?_⟩;subst hm;exact ⟨_,O,wkA [] [] []⟩
 intro g hb;subst hb;refine qg<|q0 O<|qf O<|Qa ?_;cases f;exact Qv _ O
theorem qxs (b : List Qx) (c : qc) (r : Int) (a : q8v b c = some r) : Pure Tryz.prog tab 89 [.sl 5 (b.map Kh),.agg (qt c)] (.int .u8 r):=by
 unfold q8v at a;refine Ka Tryz.func89 O ql ql O<|qg<|K1 _ _ O<|qf O<|qy<|q0 O<|U _ O<|q9 a fun d f a=>Qw (qxu b c d f) O<|qf O<|qb<|qh<|qg<|q0 O<|U _ O<|qb ?_;refine qq O a (fun _ a=>?_) (fun _ a=>?_)
 ·refine qg<|qf O<|Qa ?_;cases a;exact Qv _ O
 refine qu<|qh<|qg<|q0 O<|U _ O<|qb ?_;refine qq O a (fun _ a=>?_) (fun _ a=>?_)
 ·refine qg<|qf O<|Qa ?_;cases a;exact Qv _ O
 refine qu<|qg<|qf O<|Qa ?_;cases a;exact Qv _ O
theorem qxt (c : List Qx) (d : qc) (f : Int) (r : Int) (a : q8x c d f = some r) : Pure Tryz.prog tab 70 [.sl 5 (c.map Kh),.agg (qt d),.int .u8 f] (.int .u8 r):=by
 unfold q8x at a;refine Ka Tryz.func70 O ql ql O<|qg<|K1 _ _ O<|qf O<|qy<|q0 O<|U _ O<|q9 a fun m n a=>Qw (qxs c d m n) O<|qf O<|qb<|qh<|qg<|q0 O<|U _ O<|q9 a fun o b a=>?_;refine Qi 6 (fun A st=>∃ g h j k l,st = A [(18,Q1 o),(17,l),(16,k),(15,j),(14,h),(13,g)]) ?_ ?_
 ·refine Qj O O b (fun b=>?_) (fun b=>?_)
  ·refine q0 O<|U _ O<|q0 O<|U _ O<|U _ O<|qb ?_;cases b;exact ⟨_,_,_,_,_,O⟩
  refine qa O<|qa O<|qa O<|qa O<|U _ O<|qb ?_;cases b;exact ⟨_,_,_,_,_,O⟩
 rintro _ ⟨g,h,j,k,l,rfl⟩;refine qb ?_;refine qq O a (fun _ a=>?_) (fun _ a=>?_)
 ·refine qg<|q0 O<|U _ O<|U _ O<|qf O<|Qa ?_;cases a;exact Qv _ O
 refine qu<|qg<|q0 O<|qf O<|Qa ?_;cases a;exact Qv _ O
theorem qxr (d : qc) (f : Int) (r : qc) (c : q8u d f = some r) : Pure Tryz.prog tab 71 [.agg (qt d),.int .u8 f] (.agg (qt r)):=by
 unfold q8u at c;refine Ka Tryz.func71 O ql ql O<|qg<|K1 _ _ O<|K8 O O<|qb<|qh<|qg<|q0 O<|qb<|q9 c fun g a c=>?_;refine Qq (fun b=>b = g) (fun b=>⟨[(2,.ref 0 2 0 0),(4,.ref 1 2 0 0)],[(0,.dat 2 [[qi b.1,qi b.2]]),(1,.dat 2 [[qi 0,qi 0]])],2⟩) qe ?_ ?_
 ·refine qg<|U _ O<|qf O<|qb ?_;refine qq O a (fun _ a=>?_) (fun _ a=>?_)
  ·refine Q0<|U _ O<|U _ O<|U _ O<|U _ O<|Qr 0 _ O<|qz ?_;obtain rfl:=qs a;exact ⟨_,O,wkA [(0,0),(1,1)] [] []⟩
  refine qg<|U _ O<|qf O<|qb ?_;refine qq O a (fun _ a=>?_) (fun _ a=>?_)
  ·refine Q0<|U _ O<|U _ O<|U _ O<|U _ O<|Qr 0 _ O<|qz ?_;obtain rfl:=qs a;exact ⟨_,O,wkA [(0,0),(1,1)] [] []⟩
  refine qg<|U _ O<|qf O<|qb ?_;refine qq O a (fun _ a=>?_) (fun _ a=>?_)
  ·refine Q0<|U _ O<|U _ O<|U _ O<|U _ O<|Qr 0 _ O<|qz ?_;obtain rfl:=qs a;exact ⟨_,O,wkA [(0,0),(1,1)] [] []⟩
  refine Q0<|U _ O<|U _ O<|U _ O<|U _ O<|Qr 0 _ O<|qz ?_;obtain rfl:=qs a;exact ⟨_,O,wkA [(0,0),(1,1)] [] []⟩
 intro b hb;subst hb;refine qg<|U _ O<|Qr 1 _ O<|Qa ?_;cases c;exact Qv _ O
theorem qxx (g : List Qx) (h : List Y2) (r : List Q6 × Int) (q : qdk g h = some r) : Pure Tryz.prog tab 52 [.sl 5 (g.map Kh),.sl 4 (h.map Yx)] (.tup [.sl 4 (r.1.map Kc),qi r.2]):=by
 unfold qdk at q;refine Ka Tryz.func52 O ql ql O<|qg<|qf O<|qf O<|qy<|qf O<|qb<|qh<|qg<|qf O<|qb<|q9 q fun aa bb q=>?_;refine Qq (fun s=>.inl s = aa) (fun s=>⟨[(6,.hs 0 4 0 s.length)],[(0,.dat 4 (s.map Kc))],1⟩) qe ?_ ?_
 ·refine Qm (q2f h g) (fun c=>⟨[(0,.d (.sl 5 (g.map Kh))),(1,.d (.sl 4 (h.map Yx))),(6,.hs 0 4 0 c.2.length),(7,qd c.1)],[(0,.dat 4 (c.2.map Kc))],1⟩) _ aa bb (wkA [] [] [0]) ?_;intro c cb f;unfold q2f at f;refine qh<|qg<|q0 O<|q0 O<|Ki O<|U _ O<|qb ?_;refine qq O f (fun _ f=>?_) (fun _ f=>?_)
  ·refine qu<|qh<|Qe<|qh<|Qf [q7,Qk 1,(some [],[1]),q7,q7,q7,q7,q7,q7,q7,q7,q7,q7] ql<|q0 O<|q0 O<|q9 f fun cc bc f=>Qt bc O<|U _ O<|U _ O<|q0 O<|q0 O<|q9 f fun cd bd f=>Qt bd O<|U _ O<|U _ O<|K8 O O<|Qr 1 _ O<|qf O<|qy<|qf O<|qb<|qh<|qg<|qf O<|qb<|q9 f fun ab be f=>?_;refine Qq (fun t=>.inl t = ab) (fun t=>⟨[(0,.d (.sl 5 (g.map Kh))),(1,.d (.sl 4 (h.map Yx))),(6,.hs 0 4 0 c.2.length),(7,qd c.1),(10,.hs 1 4 0 t.length)],[(0,.dat 4 (c.2.map Kc)),(1,.dat 4 (t.map Kc))],2⟩) qe ?_ ?_
   ·refine Qm (q2g h c g) (fun a=>⟨[(0,.d (.sl 5 (g.map Kh))),(1,.d (.sl 4 (h.map Yx))),(6,.hs 0 4 0 c.2.length),(7,qd c.1),(8,.ref 1 2 0 0),(9,.d (.int .u8 a.1)),(10,.hs 2 4 0 a.2.2.2.2.length),(11,qd a.2.1)],[(0,.dat 4 (c.2.map Kc)),(1,.dat 2 [[qi a.2.2.1,qi a.2.2.2.1]]),(2,.dat 4 (a.2.2.2.2.map Kc))],3⟩) _ ab be (wkA [(0,0),(1,1)] [] [2]) ?_;intro a ce b;unfold q2g at b;refine qh<|qg<|q0 O<|q0 O<|q0 O<|q9 b fun cf bf b=>Qt bf O<|U _ O<|U _ O<|U _ O<|qb ?_;refine qq O b (fun _ b=>?_) (fun _ b=>?_)
    ·refine qu<|qh<|Qe<|qg<|q0 O<|U _ O<|q0 O<|q9 b fun p bg b=>Qw (qxt g ({X:=a.2.2.1,Y:=a.2.2.2.1} : qc) a.1 p bg) O<|qf O<|qy<|U _ O<|q0 O<|q9 b fun j bh b=>Qw (qxr ({X:=a.2.2.1,Y:=a.2.2.2.1} : qc) p j bh) O<|K8 O O<|Qr 3 _ O<|qb<|qh<|qg<|U _ O<|q9 b fun bi bj b=>Qw (q8y j bi bj) O<|U _ O<|qb ?_;refine qq O b (fun _ b=>?_) (fun _ b=>?_)
     ·refine qg<|qf O<|qf O<|Qa ?_;refine ⟨_,qr b,fun hm=>?_⟩;subst hm;refine ⟨_,qr f,fun hm=>?_⟩;subst hm;obtain rfl:=qs q;exact finD (.inr O) O O (Ys (.cons (.nil _) (.cons (.refl _) .nil)))
     refine qu<|qh<|Qf [q7,q7,q7,q7,q7,q7,q7,qv 3] ql<|U _ O<|q0 O<|q0 O<|q9 b fun cg bk b=>Qt bk O<|U _ O<|U _ O<|U _ O<|qf O<|qb<|qh<|qg<|qf O<|qb<|q9 b fun ac bl b=>?_;refine Qq (fun x=>x = ac) (fun x=>⟨[(0,.d (.sl 5 (g.map Kh))),(1,.d (.sl 4 (h.map Yx))),(6,.hs 0 4 0 c.2.length),(7,qd c.1),(8,.ref 1 2 0 0),(9,.d (.int .u8 a.1)),(10,.hs 2 4 0 a.2.2.2.2.length),(11,qd a.2.1),(12,.d (.int .u8 p)),(13,.ref 3 2 0 0),(14,Q1 x)],[(0,.dat 4 (c.2.map Kc)),(1,.dat 2 [[qi a.2.2.1,qi a.2.2.2.1]]),(2,.dat 4 (a.2.2.2.2.map Kc)),(3,.dat 2 [(qt j)])],4⟩) qe ?_ ?_
     ·refine Qm (q4d c j) (fun y=>⟨[(0,.d (.sl 5 (g.map Kh))),(1,.d (.sl 4 (h.map Yx))),(6,.hs 0 4 0 c.2.length),(7,qd c.1),(8,.ref 1 2 0 0),(9,.d (.int .u8 a.1)),(10,.hs 2 4 0 a.2.2.2.2.length),(11,qd a.2.1),(12,.d (.int .u8 p)),(13,.ref 3 2 0 0),(14,Q1 y.1),(15,qd y.2)],[(0,.dat 4 (c.2.map Kc)),(1,.dat 2 [[qi a.2.2.1,qi a.2.2.2.1]]),(2,.dat 4 (a.2.2.2.2.map Kc)),(3,.dat 2 [(qt j)])],4⟩) _ ac bl (wkA [(0,0),(1,1),(2,2),(3,3)] [] []) ?_;intro y ch n;unfold q4d at n;refine qh<|qg<|q0 O<|q0 O<|U _ O<|U _ O<|qb ?_;refine qq O n (fun _ n=>?_) (fun _ n=>?_)
      ·refine qu<|qh<|Qe<|Qf [q7,q7,q7,qv 3,qv 0,q7,q7,q7,q7,q7] ql<|q0 O<|q9 n fun bm k n=>?_;refine Qi 8 (fun A st=>∃ ad ae af ag ah ai aj,st = A [(73,Q1 bm),(72,aj),(71,ai),(70,ah),(69,ag),(68,af),(67,ae),(66,ad)]) ?_ ?_
       ·refine Qj O O k (fun k=>?_) (fun k=>?_)
        ·refine qa O<|qa O<|qa O<|qa O<|qa O<|qa O<|U _ O<|qb ?_;cases k;exact ⟨_,_,_,_,_,_,_,O⟩
        refine q0 O<|q0 O<|q9 k fun bn ak k=>qp ak O O<|Q2 _ ak O<|U _ O<|q9 k fun bo bp k=>Qw (qmc bn j bo bp) O<|U _ O<|qb ?_;cases k;exact ⟨_,_,_,_,_,_,_,O⟩
       rintro _ ⟨ad,ae,af,ag,ah,ai,aj,rfl⟩;refine qf O<|qz<|Ql<|Q0<|q0 O<|U _ O<|qf O<|qz<|⟨_,qr n,wkA [(0,0),(1,1),(2,2),(3,3)] [] []⟩
      refine Qh ?_;refine ⟨_,qr n,fun hm=>?_⟩;subst hm;exact ⟨_,O,wkA [(0,0),(1,1),(2,2),(3,3)] [] []⟩
     intro x hb;subst hb;refine qh<|qg<|qf O<|qb<|q9 b fun al bq b=>?_;refine Qq (fun u=>u = al) (fun u=>⟨[(0,.d (.sl 5 (g.map Kh))),(1,.d (.sl 4 (h.map Yx))),(6,.hs 0 4 0 c.2.length),(7,qd c.1),(8,.ref 1 2 0 0),(9,.d (.int .u8 a.1)),(10,.hs 2 4 0 a.2.2.2.2.length),(11,qd a.2.1),(12,.d (.int .u8 p)),(13,.ref 3 2 0 0),(14,Q1 u)],[(0,.dat 4 (c.2.map Kc)),(1,.dat 2 [[qi a.2.2.1,qi a.2.2.2.1]]),(2,.dat 4 (a.2.2.2.2.map Kc)),(3,.dat 2 [(qt j)])],4⟩) qe ?_ ?_
     ·refine Qm (qdl a j) (fun z=>⟨[(0,.d (.sl 5 (g.map Kh))),(1,.d (.sl 4 (h.map Yx))),(6,.hs 0 4 0 c.2.length),(7,qd c.1),(8,.ref 1 2 0 0),(9,.d (.int .u8 a.1)),(10,.hs 2 4 0 a.2.2.2.2.length),(11,qd a.2.1),(12,.d (.int .u8 p)),(13,.ref 3 2 0 0),(14,Q1 z.1),(16,qd z.2)],[(0,.dat 4 (c.2.map Kc)),(1,.dat 2 [[qi a.2.2.1,qi a.2.2.2.1]]),(2,.dat 4 (a.2.2.2.2.map Kc)),(3,.dat 2 [(qt j)])],4⟩) _ al bq (wkA [(0,0),(1,1),(2,2),(3,3)] [] []) ?_;intro z ci o;unfold qdl at o;refine qh<|qg<|q0 O<|q0 O<|U _ O<|U _ O<|qb ?_;refine qq O o (fun _ o=>?_) (fun _ o=>?_)
      ·refine qu<|qh<|Qe<|Qf [q7,q7,q7,qv 3,qv 2,q7,q7,q7,q7,q7] ql<|q0 O<|q9 o fun br l o=>?_;refine Qi 8 (fun A st=>∃ am an ao ap aq ar au,st = A [(88,Q1 br),(87,au),(86,ar),(85,aq),(84,ap),(83,ao),(82,an),(81,am)]) ?_ ?_
       ·refine Qj O O l (fun l=>?_) (fun l=>?_)
        ·refine qa O<|qa O<|qa O<|qa O<|qa O<|qa O<|U _ O<|qb ?_;cases l;exact ⟨_,_,_,_,_,_,_,O⟩
        refine q0 O<|q0 O<|q9 l fun bs av l=>qp av O O<|Q2 _ av O<|U _ O<|q9 l fun bt bu l=>Qw (qmc bs j bt bu) O<|U _ O<|qb ?_;cases l;exact ⟨_,_,_,_,_,_,_,O⟩
       rintro _ ⟨am,an,ao,ap,aq,ar,au,rfl⟩;refine qf O<|qz<|Ql<|Q0<|q0 O<|U _ O<|qf O<|qz<|⟨_,qr o,wkA [(0,0),(1,1),(2,2),(3,3)] [] []⟩
      refine Qh ?_;refine ⟨_,qr o,fun hm=>?_⟩;subst hm;exact ⟨_,O,wkA [(0,0),(1,1),(2,2),(3,3)] [] []⟩
     intro u hb;subst hb;refine qh<|qg<|q0 O<|U _ O<|U _ O<|q9 b fun bv v b=>?_;refine Qi 5 (fun A st=>∃ aw ax ay az,st = A [(96,Q1 bv),(95,az),(94,ay),(93,ax),(92,aw)]) ?_ ?_
     ·refine Qj O O v (fun v=>?_) (fun v=>?_)
      ·refine q0 O<|q0 O<|U _ O<|U _ O<|qb ?_;cases v;exact ⟨_,_,_,_,O⟩
      refine qa O<|qa O<|qa O<|U _ O<|qb ?_;cases v;exact ⟨_,_,_,_,O⟩
     rintro _ ⟨aw,ax,ay,az,rfl⟩;refine qb<|q9 b fun bw m b=>?_;refine Y0 (fun w=>w = bw) (fun w=>⟨[(0,.d (.sl 5 (g.map Kh))),(1,.d (.sl 4 (h.map Yx))),(6,.hs 0 4 0 c.2.length),(7,qd c.1),(8,.ref 1 2 0 0),(10,.hs 2 4 0 w.length),(11,qd a.2.1),(12,.d (.int .u8 p)),(13,.ref 3 2 0 0),(14,Q1 u)],[(0,.dat 4 (c.2.map Kc)),(1,.dat 2 [[qi a.2.2.1,qi a.2.2.2.1]]),(2,.dat 4 (w.map Kc)),(3,.dat 2 [(qt j)])],4⟩) qe ?_ ?_
     ·refine qq O m (fun _ m=>?_) (fun _ m=>?_)
      ·refine Q0<|q0 O<|q0 O<|U _ O<|U _ O<|U _ O<|q9 m fun bx ba m=>qp ba O O<|U _ O<|Qp ({A:=bx.A,B:=j} : Q6) ba O O O O O O O O (leb O) O<|qz ?_;obtain rfl:=qs m;exact ⟨_,O,wkE [(0,0),(1,1),(2,2),(3,3)] [] [] O ⟨qk O,qk O,⟨_,O,.hs O Q3 (ltd O)⟩,qk O,⟨_,O,.ref O Q3 (ltd O)⟩,⟨_,O,Qy qe O Q3 (ltd O)⟩,qk O,qk O,⟨_,O,.ref O Q3 (ltd O)⟩,qk O,trivial⟩ ⟨Qo O O,Qo O O,Qo O O,Qo O O,trivial⟩⟩
      refine Q0<|q0 O<|U _ O<|U _ O<|U _ O<|K1 _ _ O<|q9 m fun cj bz m=>Yn _ bz O O O O O O O (Z7 O O) O O O O<|qf O<|qz ?_;obtain rfl:=qs m;exact ⟨_,O,wkA [(0,0),(1,1),(2,5),(3,3)] [] []⟩
     intro w hb;subst hb;refine qh<|qg<|q0 O<|U _ O<|q0 O<|U _ O<|U _ O<|U _ O<|qb ?_;refine qq O b (fun _ b=>?_) (fun _ b=>?_)
     ·refine qg<|qf O<|qf O<|Qa ?_;refine ⟨_,qr b,fun hm=>?_⟩;subst hm;refine ⟨_,qr f,fun hm=>?_⟩;subst hm;obtain rfl:=qs q;exact finD (.inr O) O O (Ys (.cons (.nil _) (.cons (.refl _) .nil)))
     refine qu<|qg<|U _ O<|q0 O<|Qr 1 _ O<|qf O<|qy<|q0 O<|qb ?_;refine qq O b (fun _ b=>?_) (fun _ b=>?_)
     ·refine Qh ?_;refine ⟨_,qr b,fun hm=>?_⟩;subst hm;exact ⟨_,O,wkA [(0,0),(1,2)] [] []⟩
     refine qu<|Qd<|Ql<|Q0<|q0 O<|U _ O<|qf O<|qz<|⟨_,qr b,wkA [(0,0),(1,1),(2,2)] [] []⟩
    refine Qh ?_;refine ⟨_,qr b,fun hm=>?_⟩;subst hm;exact ⟨_,O,wkA [(0,0),(1,2)] [] []⟩
   intro t hb;subst hb;refine Q0<|q0 O<|q0 O<|q9 f fun ck ca f=>Yn _ ca O O O O O O O (Z7 O O) O O O O<|qf O<|qz<|Ql<|Q0<|q0 O<|U _ O<|qf O<|qz<|⟨_,qr f,wkA [(0,2)] [] []⟩
  refine Qh ?_;refine ⟨_,qr f,fun hm=>?_⟩;subst hm;exact ⟨_,O,wkA [(0,0)] [] []⟩
 intro s hb;subst hb;refine qg<|q0 O<|qf O<|qf O<|Qa ?_;obtain rfl:=qs q;exact finD (.inr O) O (qdz (Jn (Jp O O) (Jn O O))) (.refl _)
theorem qxz (c : List Q6) (r : K5 × Int) (a : Uu c = some r) : Pure Tryz.prog tab 53 [.sl 4 (c.map Kc)] (.tup [.agg [.sl 2 (r.1.Nodes.map qt),.sl 2 (r.1.Edges.map Qc)],qi r.2]):=by
 unfold Uu at a;refine Ka Tryz.func53 O ql ql O<|qg<|K8 O O<|qf O<|qb<|qh<|qg<|q0 O<|Ki O<|U _ O<|qb ?_;refine qq O a (fun _ a=>?_) (fun _ a=>?_)
 ·refine qg<|U _ O<|Qr 0 _ O<|qf O<|Qa ?_;obtain rfl:=qs a;exact finD (.inr O) O O (Ys (.cons (Zt (.cons (.nil _) (.cons (.nil _) .nil))) (.cons (.refl _) .nil)))
 refine qu<|qh<|qg<|qf O<|qb<|q9 a fun g j a=>?_;refine Qq (fun f=>.inl f = g) (fun f=>⟨[(0,.d (.sl 4 (c.map Kc))),(2,.ref 0 2 0 0)],[(0,.dat 2 [[.nilsl,.nilsl]])],1⟩) qe ?_ ?_
 ·refine Qm (q6a c) (fun h=>⟨[(0,.d (.sl 4 (c.map Kc))),(2,.ref 0 2 0 0),(4,qd h)],[(0,.dat 2 [[.nilsl,.nilsl]])],1⟩) _ g j (wkA [(0,0)] [] []) ?_;intro h q b;unfold q6a at b;refine qh<|qg<|q0 O<|q0 O<|Ki O<|U _ O<|qb ?_;refine qq O b (fun _ b=>?_) (fun _ b=>?_)
  ·refine qu<|qh<|Qe<|qg<|q0 O<|q0 O<|q9 b fun k l b=>Qt l O<|U _ O<|q9 b fun m n b=>Qw (qy2 k m n) O<|U _ O<|qb ?_;refine qq O b (fun _ b=>?_) (fun _ b=>?_)
   ·refine qg<|U _ O<|Qr 0 _ O<|qf O<|Qa ?_;refine ⟨_,qr b,fun hm=>?_⟩;subst hm;obtain rfl:=qs a;exact finD (.inr O) O O (Ys (.cons (Zt (.cons (.nil _) (.cons (.nil _) .nil))) (.cons (.refl _) .nil)))
   refine qu<|Qd<|Ql<|Q0<|q0 O<|U _ O<|qf O<|qz<|⟨_,qr b,wkA [(0,0)] [] []⟩
  refine Qh ?_;refine ⟨_,qr b,fun hm=>?_⟩;subst hm;exact ⟨_,O,wkA [(0,0)] [] []⟩
 intro f hb;subst hb;refine qg<|q0 O<|q9 a fun o p a=>Qw (qy0 c o p) O<|q0 O<|U _ O<|U _ O<|K8 O O<|Qr 1 _ O<|qf O<|qb<|qh<|qg<|q0 O<|U _ O<|qb ?_;refine qq O a (fun _ a=>?_) (fun _ a=>?_)
 ·refine qg<|U _ O<|Qr 0 _ O<|qf O<|Qa ?_;obtain rfl:=qs a;exact finD (.inr O) O O (Ys (.cons (Zt (.cons (.nil _) (.cons (.nil _) .nil))) (.cons (.refl _) .nil)))
 refine qu<|qg<|U _ O<|Qr 0 _ O<|qf O<|Qa ?_;cases a;exact Qv _ O
theorem qxw (c : List Qx) (j : List Y2) (r : K5 × Int) (a : q92 c j = some r) : Pure Tryz.prog tab 25 [.sl 5 (c.map Kh),.sl 4 (j.map Yx)] (.tup [.agg [.sl 2 (r.1.Nodes.map qt),.sl 2 (r.1.Edges.map Qc)],qi r.2]):=by
 unfold q92 at a;refine Ka Tryz.func25 O ql ql O<|qg<|K8 O O<|qf O<|qb<|qh<|qg<|q0 O<|q9 a fun r1 h2 a=>Qw (qm9 c r1 h2) O<|U _ O<|qb ?_;refine qq O a (fun _ a=>?_) (fun _ a=>?_)
 ·refine qg<|U _ O<|q0 O<|q9 a fun r5 h6 a=>Qw (qm9 c r5 h6) O<|Qr 0 _ O<|qf O<|Qa ?_;obtain rfl:=qs a;exact finD (.inr O) O O (Ys (.cons (Zt (.cons (.nil _) (.cons (.nil _) .nil))) (.cons (.refl _) .nil)))
 refine qu<|qh<|qg<|q0 O<|Ki O<|U _ O<|qb ?_;refine qq O a (fun _ a=>?_) (fun _ a=>?_)
 ·refine qg<|U _ O<|Qr 0 _ O<|qf O<|Qa ?_;obtain rfl:=qs a;exact finD (.inr O) O O (Ys (.cons (Zt (.cons (.nil _) (.cons (.nil _) .nil))) (.cons (.refl _) .nil)))
 refine qu<|qh<|qg<|qf O<|qb<|q9 a fun l ao a=>?_;refine Qq (fun k=>.inl k = l) (fun k=>⟨[(0,.d (.sl 5 (c.map Kh))),(1,.d (.sl 4 (j.map Yx))),(4,.ref 0 2 0 0)],[(0,.dat 2 [[.nilsl,.nilsl]])],1⟩) qe ?_ ?_
 ·refine Qm (q68 j) (fun m=>⟨[(0,.d (.sl 5 (c.map Kh))),(1,.d (.sl 4 (j.map Yx))),(4,.ref 0 2 0 0),(6,qd m)],[(0,.dat 2 [[.nilsl,.nilsl]])],1⟩) _ l ao (wkA [(0,0)] [] []) ?_;intro m be b;unfold q68 at b;refine qh<|qg<|q0 O<|q0 O<|Ki O<|U _ O<|qb ?_;refine qq O b (fun _ b=>?_) (fun _ b=>?_)
  ·refine qu<|qh<|Qe<|qg<|q0 O<|q0 O<|q9 b fun ap aq b=>Qt aq O<|U _ O<|U _ O<|q9 b fun ar au b=>Qw (q8y ap.At ar au) O<|U _ O<|q9 b fun av f b=>?_;refine Qi 8 (fun A st=>∃ n o p q s t u,st = A [(41,Q1 av),(40,u),(39,t),(38,s),(37,q),(36,p),(35,o),(34,n)]) ?_ ?_
   ·refine Qj O O f (fun f=>?_) (fun f=>?_)
    ·refine qa O<|qa O<|qa O<|qa O<|qa O<|qa O<|U _ O<|qb ?_;cases f;exact ⟨_,_,_,_,_,_,_,O⟩
    refine q0 O<|q0 O<|q9 f fun bf aw f=>Qt aw O<|U _ O<|U _ O<|U _ O<|U _ O<|qb ?_;cases f;exact ⟨_,_,_,_,_,_,_,O⟩
   rintro _ ⟨n,o,p,q,s,t,u,rfl⟩;refine q9 b fun ax g b=>?_;refine Qi 8 (fun A st=>∃ v w x y z aa ab,st = A [(49,Q1 ax),(48,ab),(47,aa),(46,z),(45,y),(44,x),(43,w),(42,v)]) ?_ ?_
   ·refine Qj O O g (fun g=>?_) (fun g=>?_)
    ·refine qa O<|qa O<|qa O<|qa O<|qa O<|qa O<|U _ O<|qb ?_;cases g;exact ⟨_,_,_,_,_,_,_,O⟩
    refine q0 O<|q0 O<|q9 g fun bg ay g=>Qt ay O<|U _ O<|U _ O<|U _ O<|U _ O<|qb ?_;cases g;exact ⟨_,_,_,_,_,_,_,O⟩
   rintro _ ⟨v,w,x,y,z,aa,ab,rfl⟩;refine q9 b fun az h b=>?_;refine Qi 8 (fun A st=>∃ ac ad ae af ag ah ai,st = A [(57,Q1 az),(56,ai),(55,ah),(54,ag),(53,af),(52,ae),(51,ad),(50,ac)]) ?_ ?_
   ·refine Qj O O h (fun h=>?_) (fun h=>?_)
    ·refine qa O<|qa O<|qa O<|qa O<|qa O<|qa O<|U _ O<|qb ?_;cases h;exact ⟨_,_,_,_,_,_,_,O⟩
    refine q0 O<|q0 O<|q9 h fun bh ba h=>Qt ba O<|U _ O<|U _ O<|U _ O<|U _ O<|qb ?_;cases h;exact ⟨_,_,_,_,_,_,_,O⟩
   rintro _ ⟨ac,ad,ae,af,ag,ah,ai,rfl⟩;refine qb ?_;refine qq O b (fun _ b=>?_) (fun _ b=>?_)
   ·refine qg<|U _ O<|Qr 0 _ O<|qf O<|Qa ?_;refine ⟨_,qr b,fun hm=>?_⟩;subst hm;obtain rfl:=qs a;exact finD (.inr O) O O (Ys (.cons (Zt (.cons (.nil _) (.cons (.nil _) .nil))) (.cons (.refl _) .nil)))
   refine qu<|Qd<|Ql<|Q0<|q0 O<|U _ O<|qf O<|qz<|⟨_,qr b,wkA [(0,0)] [] []⟩
  refine Qh ?_;refine ⟨_,qr b,fun hm=>?_⟩;subst hm;exact ⟨_,O,wkA [(0,0)] [] []⟩
 intro k hb;subst hb;refine qg<|q0 O<|q0 O<|q9 a fun aj bb a=>Qw (qxx c j aj bb) O<|q0 O<|U _ O<|U _ O<|qf O<|qf O<|qb<|qh<|qg<|q0 O<|U _ O<|qb ?_;refine qq O a (fun _ a=>?_) (fun _ a=>?_)
 ·refine qg<|U _ O<|q0 O<|Qr 0 _ O<|qf O<|Qa ?_;obtain rfl:=qs a;exact finD (.inr O) O O (Ys (.cons (Zt (.cons (.nil _) (.cons (.nil _) .nil))) (.cons (.refl _) .nil)))
 refine qu<|qg<|q0 O<|q9 a fun bc bd a=>Qw (qxz aj.1 bc bd) O<|q0 O<|U _ O<|U _ O<|K8 O O<|Qr 1 _ O<|qf O<|qy<|U _ O<|q0 O<|Qr 0 _ O<|qf O<|Qa ?_;cases a;exact Qv _ O
theorem q13a (b : List Qx) (c : List Y2) (r : Bool) (a : qcy b c = some r) : Pure Tryz.prog tab 4 [.sl 5 (b.map Kh),.sl 4 (c.map Yx)] (.bool r):=by
 unfold qcy at a;refine Ka Tryz.func4 O ql ql O<|qg<|qf O<|qb<|qh<|qg<|q0 O<|q0 O<|q9 a fun m n a=>Qw (qt3 b c m n) O<|qb ?_;refine qq O a (fun _ a=>?_) (fun _ a=>?_)
 ·refine qg<|qf O<|Qa ?_;cases a;exact Qv _ O
 refine qu<|qg<|q0 O<|q0 O<|q9 a fun f o a=>Qw (q122 b c f o) O<|q0 O<|U _ O<|U _ O<|K8 O O<|Qr 0 _ O<|qf O<|qy<|q0 O<|q0 O<|q9 a fun g p a=>Qw (qxw b c g p) O<|q0 O<|U _ O<|U _ O<|K8 O O<|Qr 1 _ O<|qf O<|qy<|U _ O<|U _ O<|q9 a fun q s a=>Qw (qy1 f.1 g.1 q s) O<|q9 a fun t d a=>?_;refine Qi 5 (fun A st=>∃ h j k l,st = A [(31,Q1 t),(30,l),(29,k),(28,j),(27,h)]) ?_ ?_
 ·refine Qj O O d (fun d=>?_) (fun d=>?_)
  ·refine q0 O<|q0 O<|U _ O<|U _ O<|qb ?_;cases d;exact ⟨_,_,_,_,O⟩
  refine qa O<|qa O<|qa O<|U _ O<|qb ?_;cases d;exact ⟨_,_,_,_,O⟩
 rintro _ ⟨h,j,k,l,rfl⟩;refine qf O<|Qa ?_;cases a;exact Qv _ O
end Go.Proofs.YtgkialgkmjnfbaaGreat
namespace Go.Proofs.YtgkialgkmjnfbaaGreat
open Go Go.Am Go.Sh
end Go.Proofs.YtgkialgkmjnfbaaGreat
namespace Go.Proofs.YtgkialgkmjnfbaaGreat
open Go Go.Am Go.Sh
end Go.Proofs.YtgkialgkmjnfbaaGreat
namespace Go.Proofs.YtgkialgkmjnfbaaGreat
open Go Go.Am Go.Sh
end Go.Proofs.YtgkialgkmjnfbaaGreat
