/- W_All -/
import Derived.Test.YtgkialgkmjnfbaaK19
namespace Go.Proofs.Ytgkialgkmjnfbaa
open Go Go.Am Go.Sh
set_option maxHeartbeats 8000000
set_option maxRecDepth 100000
theorem q11d (rec : List qk→Int→Int→Int→Option (List qk)) (g : qk→qk→Option Int) (q1F : FuncId) (q1C : List DV) (q1Ok : ∀ (x0 : qk) (x1 : qk) (r : Int),g x0 x1 = some r→Pure Try.prog tab q1F ([.agg (Q5 x0),.agg (Q5 x1)] ++ q1C) (qj r)) (hrec : ∀ (o : List qk) (q : Int) (s : Int) (t : Int) (r : List qk),rec o q s t = some r→K1 Try.prog tab 47 [.hs 0 2 0 o.length,qd q,qd s,qd t,.d (.fn q1F q1C)] [(0,.dat 2 (o.map Q5))] 1 (.d (.tup [])) [(0,.dat 2 (r.map Q5))] 1) (o : List qk) (q : Int) (s : Int) (t : Int) (r : List qk) (p : q6z rec g o q s t = some r) : K1 Try.prog tab 47 [.hs 0 2 0 o.length,qd q,qd s,qd t,.d (.fn q1F q1C)] [(0,.dat 2 (o.map Q5))] 1 (.d (.tup [])) [(0,.dat 2 (r.map Q5))] 1:=by
 unfold q6z at p;refine Kj Try.func47 O qn qn O<|qh<|qf O<|Q1<|qf O<|qe<|qa p fun be bf p=>Qf<|Qu (q6y g rec) (fun b=>⟨[(0,.hs 0 2 0 b.2.2.2.2.2.length),(1,qd b.1),(2,qd b.2.1),(3,qd b.2.2.1),(4,.d (.fn q1F q1C)),(10,Q7 b.2.2.2.1),(11,Q7 b.2.2.2.2.1)],[(0,.dat 2 (b.2.2.2.2.2.map Q5))],1⟩) _ be bf (wkA [] [] []) ?_;intro b cr a;unfold q6y at a;refine Qf<|qh<|q0 O<|q0 O<|q7 _ O<|qf O<|qe<|qi<|qh<|q0 O<|q7 _ O<|qe ?_;refine qw O a (fun _ a=>?_) (fun _ a=>?_)
 ·refine qh<|q0 O<|q0 O<|q0 O<|q0 O<|qa a fun ad bg a=>qa a fun cs bh a=>?_;have ct:=Kr bh;refine K2 [(0,0)] [(0,0)] _ (.d (.tup [])) 1 [(0,.dat 2 (ad.map Q5))] 1 (q111 g q1F q1C q1Ok b.2.2.2.2.2 b.1 b.2.1 ad bg)<|Qa ?_;refine ⟨_,qx a,fun hm=>?_⟩;subst hm;obtain rfl:=qz p;exact ⟨.inr O,_,O,wkA [] [] []⟩
 refine qy<|qi<|qh<|q0 O<|q7 _ O<|qe ?_;refine qw O a (fun _ a=>?_) (fun _ a=>?_)
 ·refine qh<|q0 O<|q0 O<|q0 O<|q0 O<|qa a fun ae bi a=>qa a fun cu bj a=>?_;have cv:=Kr bj;refine K2 [(0,0)] [(0,0)] _ (.d (.tup [])) 1 [(0,.dat 2 (ae.map Q5))] 1 (q10y g q1F q1C q1Ok b.2.2.2.2.2 b.1 b.2.1 ae bi)<|Qa ?_;refine ⟨_,qx a,fun hm=>?_⟩;subst hm;obtain rfl:=qz p;exact ⟨.inr O,_,O,wkA [] [] []⟩
 refine qy<|qi<|qh<|q0 O<|q7 _ O<|qe<|qa a fun bk l a=>?_;refine Y6 (fun c=>c = bk) (fun c=>⟨[(0,.hs 0 2 0 c.2.length),(1,qd b.1),(2,qd b.2.1),(3,qd c.1),(4,.d (.fn q1F q1C)),(10,Q7 b.2.2.2.1),(11,Q7 b.2.2.2.2.1),(12,.d (qj (w64 (b.2.1 - b.1))))],[(0,.dat 2 (c.2.map Q5))],1⟩) qc ?_ ?_
 ·refine qw O l (fun _ l=>?_) (fun _ l=>?_)
  ·refine qh<|q0 O<|q0 O<|q0 O<|q0 O<|qa l fun af bl l=>qa l fun cw bm l=>?_;have bn:=Kr bm;refine K2 [(0,0)] [(0,0)] _ (.d (.tup [])) 1 [(0,.dat 2 (af.map Q5))] 1 (q10s g q1F q1C q1Ok b.2.2.2.2.2 b.1 b.2.1 af bl)<|qe<|Q9<|q0 O<|q7 _ O<|qf O<|Q8 ?_;obtain rfl:=qz l;exact ⟨_,O,wkE [] [] [] O ⟨⟨_,O,Qx (by simp [bn]) O Q0 (ltd O)⟩,ql O,ql O,ql O,ql O,ql O,ql O,ql O,trivial⟩ ⟨Qo O O,trivial⟩⟩
  refine qy<|Qg ?_;obtain rfl:=qz l;exact ⟨_,O,wkA [] [] []⟩
 intro c hb;subst hb;refine qh<|q0 O<|q0 O<|q0 O<|q0 O<|qa a fun bo bp a=>q13 [.hs 0 2 0 c.2.length,qd b.1,qd b.2.1,.d (.fn q1F q1C)] (q10v c.2 b.1 b.2.1 g q1F q1C q1Ok bo bp) O O (Yi (Zc O O) (Yi O (Yi O (Yi O O)))) (.inr O)<|q0 O<|q7 _ O<|q7 _ O<|qf O<|qf O<|qe<|qi<|qh<|q0 O<|q7 _ O<|qe<|qa a fun bq m a=>?_;refine Y6 (fun h=>h = bq) (fun h=>⟨[(0,.hs 0 2 0 h.2.2.length),(1,qd b.1),(2,qd b.2.1),(3,qd c.1),(4,.d (.fn q1F q1C)),(10,Q7 b.2.2.2.1),(11,Q7 b.2.2.2.2.1),(12,.d (qj (w64 (b.2.1 - b.1)))),(13,qd h.1),(14,qd h.2.1)],[(0,.dat 2 (h.2.2.map Q5))],1⟩) qc ?_ ?_
 ·refine qw O m (fun _ m=>?_) (fun _ m=>?_)
  ·refine qh<|q0 O<|q0 O<|q0 O<|q0 O<|qa m fun ag br m=>qa m fun cx bs m=>?_;have bt:=Kr bs;refine K2 [(0,0)] [(0,0)] _ (.d (.tup [])) 1 [(0,.dat 2 (ag.map Q5))] 1 (q11j g q1F q1C q1Ok c.2 b.1 b.2.1 ag br)<|Q1<|q0 O<|q7 _ O<|q0 O<|q0 O<|q7 _ O<|q7 _ O<|qf O<|qe<|Q9<|qf O<|Q8 ?_;obtain rfl:=qz m;exact ⟨_,O,wkE [] [] [] O ⟨⟨_,O,Qx (by simp [bt]) O Q0 (ltd O)⟩,ql O,ql O,ql O,ql O,ql O,ql O,ql O,ql O,ql O,trivial⟩ ⟨Qo O O,trivial⟩⟩
  refine qy<|Qg ?_;obtain rfl:=qz m;exact ⟨_,O,wkA [] [] []⟩
 intro h hb;subst hb;refine qi<|qh<|q0 O<|qa a fun bu u a=>?_;refine Qn 3 (fun A st=>∃ ah ai,st = A [(71,Q7 bu),(70,ai),(69,ah)]) ?_ ?_
 ·refine Qm O O u (fun u=>?_) (fun u=>?_)
  ·refine q0 O<|q7 _ O<|qe ?_;cases u;exact ⟨_,_,O⟩
  refine qg O<|q7 _ O<|qe ?_;cases u;exact ⟨_,_,O⟩
 rintro _ ⟨ah,ai,rfl⟩;refine qa a fun bv v a=>?_;refine Qn 4 (fun A st=>∃ aj ak al,st = A [(75,Q7 bv),(74,al),(73,ak),(72,aj)]) ?_ ?_
 ·refine Qm O O v (fun v=>?_) (fun v=>?_)
  ·refine q0 O<|q7 _ O<|q7 _ O<|qe ?_;cases v;exact ⟨_,_,_,O⟩
  refine qg O<|qg O<|q7 _ O<|qe ?_;cases v;exact ⟨_,_,_,O⟩
 rintro _ ⟨aj,ak,al,rfl⟩;refine qe<|qa a fun bw f a=>?_;refine Y6 (fun n=>.inl n = bw) (fun n=>⟨[(0,.hs 0 2 0 n.length),(1,qd b.1),(2,qd b.2.1),(3,qd c.1),(4,.d (.fn q1F q1C)),(10,Q7 b.2.2.2.1),(11,Q7 b.2.2.2.2.1),(12,.d (qj (w64 (b.2.1 - b.1)))),(13,qd h.1)],[(0,.dat 2 (n.map Q5))],1⟩) qc ?_ ?_
 ·refine qw O f (fun _ f=>?_) (fun _ f=>?_)
  ·refine qh<|q0 O<|q0 O<|q0 O<|q0 O<|qa f fun x bx f=>qa f fun cy bz f=>?_;have ca:=Kr bz;refine K2 [(0,0)] [(0,0)] _ (Q7 x.1) 1 [(0,.dat 2 (x.2.map Q5))] 1 (q114 g q1F q1C q1Ok h.2.2 b.1 b.2.1 x bx)<|qe ?_;refine qw O f (fun _ f=>?_) (fun _ f=>?_)
   ·refine q1y ?_;obtain rfl:=qz f;refine ⟨_,qx a,fun hm=>?_⟩;subst hm;obtain rfl:=qz p;exact ⟨.inr O,_,O,wkA [] [] []⟩
   refine qy<|Qg ?_;obtain rfl:=qz f;exact ⟨_,O,wkE [] [] [] O ⟨⟨_,O,Qx (by simp [ca]) O Q0 (ltd O)⟩,ql O,ql O,ql O,ql O,ql O,ql O,ql O,ql O,trivial⟩ ⟨Qo O O,trivial⟩⟩
  refine qy<|Qg ?_;obtain rfl:=qz f;exact ⟨_,O,wkA [] [] []⟩
 intro n hb;subst hb;refine qi<|qi<|Qh [q8,q8,q8,q8,qv 0,q8,q8,q8,qv 0,q8,q8,q8,q8,q8,q8,q8,q8] qn<|q0 O<|q7 _ O<|qa a fun cb j a=>?_;refine Qn 15 (fun A st=>∃ am an ao ap aq ar au av aw ax ay az ba bb,st = A [(97,Q7 cb),(96,bb),(95,ba),(94,az),(93,ay),(92,ax),(91,aw),(90,av),(89,au),(88,ar),(87,aq),(86,ap),(85,ao),(84,an),(83,am)]) ?_ ?_
 ·refine Qm O O j (fun j=>?_) (fun j=>?_)
  ·refine q0 O<|q0 O<|q0 O<|q7 _ O<|qa j fun cc bc j=>qp bc O O<|Q3 _ bc O<|q0 O<|q0 O<|qa j fun cd bd j=>qp bd O O<|Q3 _ bd O<|qa j fun ce cf j=>Ko _ (q1Ok cc cd ce cf) O O O (.inl O)<|q7 _ O<|q7 _ O<|q7 _ O<|qe ?_;cases j;exact ⟨_,_,_,_,_,_,_,_,_,_,_,_,_,_,O⟩
  refine qg O<|qg O<|qg O<|qg O<|qg O<|qg O<|qg O<|qg O<|qg O<|qg O<|qg O<|qg O<|qg O<|q7 _ O<|qe ?_;cases j;exact ⟨_,_,_,_,_,_,_,_,_,_,_,_,_,_,O⟩
 rintro _ ⟨am,an,ao,ap,aq,ar,au,av,aw,ax,ay,az,ba,bb,rfl⟩;refine qe ?_;refine qw O a (fun _ a=>?_) (fun _ a=>?_)
 ·refine qh<|q0 O<|q0 O<|q0 O<|q0 O<|q0 O<|qa a fun y cg a=>qa a fun cz ch a=>?_;have ci:=Kr ch;refine K2 [(0,0)] [(0,0)] _ (qd y.1) 1 [(0,.dat 2 (y.2.map Q5))] 1 (q11a g q1F q1C q1Ok n b.1 b.2.1 h.1 y cg)<|qf O<|Q1<|q0 O<|qf O<|qe<|Ql<|q7p<|Qg<|⟨_,qx a,wkE [] [] [] O ⟨⟨_,O,Qx (by simp [ci]) O Q0 (ltd O)⟩,ql O,ql O,ql O,ql O,ql O,ql O,trivial⟩ ⟨Qo O O,trivial⟩⟩
 refine qy<|qh<|q0 O<|q0 O<|q0 O<|q0 O<|q0 O<|qa a fun k cj a=>qa a fun da ck a=>?_;have w:=Kr ck;refine K2 [(0,0)] [(0,0)] _ (.d (.tup [qj k.1,.bool k.2.1])) 1 [(0,.dat 2 (k.2.2.map Q5))] 1 (q117 g q1F q1C q1Ok n b.1 b.2.1 h.1 k cj)<|q0 O<|q7 _ O<|q7 _ O<|qf O<|qf O<|Q1<|q0 O<|qf O<|Q1<|q0 O<|q0 O<|q7 _ O<|q0 O<|q0 O<|q7 _ O<|qf O<|qf O<|Q1<|q0 O<|q7 _ O<|qf O<|Q1<|q0 O<|q0 O<|q7 _ O<|qe ?_;refine qw O a (fun _ a=>?_) (fun _ a=>?_)
 ·refine qh<|q0 O<|q0 O<|q7 _ O<|qf O<|Q1<|q0 O<|q0 O<|q0 O<|q0 O<|q0 O<|qa a fun z cl a=>qa a fun dc cm a=>?_;have cn:=Kr cm;refine q12 [(0,0)] [(0,0)] [.hs 0 2 0 n.length,qd b.1,qd k.1,qd c.1,.d (.fn q1F q1C)] (.d (.tup [])) [(0,.dat 2 (z.map Q5))] [(0,.dat 2 (z.map Q5))] 1 (hrec k.2.2 b.1 k.1 c.1 z cl) O O O (Z5 [(0,0)] [] [] O ⟨⟨_,O,Qx (by simp [w]) O Q0 (ltd O)⟩,ql O,ql O,ql O,ql O,trivial⟩ ⟨Qo O O,trivial⟩) (Z5 [(0,0)] [] [] O ⟨ql O,trivial⟩ ⟨Qo O O,trivial⟩) O ⟨.inl O,trivial⟩<|qe<|Q9<|q0 O<|q7 _ O<|qf O<|Q8<|Qp<|Qg<|⟨_,qx a,wkE [] [] [] O ⟨⟨_,O,Qx (by simp [w,cn]) O Q0 (ltd O)⟩,ql O,ql O,ql O,ql O,ql O,ql O,trivial⟩ ⟨Qo O O,trivial⟩⟩
 refine qh<|q0 O<|q0 O<|q7 _ O<|qf O<|Q1<|q0 O<|q0 O<|q7 _ O<|q0 O<|q0 O<|q0 O<|qa a fun aa co a=>qa a fun dd cp a=>?_;have cq:=Kr cp;refine q12 [(0,0)] [(0,0)] [.hs 0 2 0 n.length,.d (qj (w64 (k.1 + 1))),qd b.2.1,qd c.1,.d (.fn q1F q1C)] (.d (.tup [])) [(0,.dat 2 (aa.map Q5))] [(0,.dat 2 (aa.map Q5))] 1 (hrec k.2.2 (w64 (k.1 + 1)) b.2.1 c.1 aa co) O O O (Z5 [(0,0)] [] [] O ⟨⟨_,O,Qx (by simp [w]) O Q0 (ltd O)⟩,ql O,ql O,ql O,ql O,trivial⟩ ⟨Qo O O,trivial⟩) (Z5 [(0,0)] [] [] O ⟨ql O,trivial⟩ ⟨Qo O O,trivial⟩) O ⟨.inl O,trivial⟩<|qe<|Q9<|q0 O<|qf O<|Q8<|Qp<|Qg<|⟨_,qx a,wkE [] [] [] O ⟨⟨_,O,Qx (by simp [w,cq]) O Q0 (ltd O)⟩,ql O,ql O,ql O,ql O,ql O,ql O,trivial⟩ ⟨Qo O O,trivial⟩⟩
theorem q11e (n : Nat) (g : qk→qk→Option Int) (q1F : FuncId) (q1C : List DV) (q1Ok : ∀ (j : qk) (k : qk) (r : Int),g j k = some r→Pure Try.prog tab q1F ([.agg (Q5 j),.agg (Q5 k)] ++ q1C) (qj r)) : ∀ (a : List qk) (b : Int) (c : Int) (f : Int) (r : List qk),q6x n g a b c f = some r→K1 Try.prog tab 47 [.hs 0 2 0 a.length,qd b,qd c,qd f,.d (.fn q1F q1C)] [(0,.dat 2 (a.map Q5))] 1 (.d (.tup [])) [(0,.dat 2 (r.map Q5))] 1:=by
 induction n with
 | zero=>intro a b c f r h;cases h
 | succ n ih=>intro a b c f r h;exact q11d (q6x n g) g q1F q1C q1Ok ih a b c f r h
theorem q10o (c : qk→qk→Option Int) (q1F : FuncId) (q1C : List DV) (q1Ok : ∀ (g : qk) (h : qk) (r : Int),c g h = some r→Pure Try.prog tab q1F ([.agg (Q5 g),.agg (Q5 h)] ++ q1C) (qj r)) (b : List qk) (r : List qk) (a : q4r c b = some r) : K1 Try.prog tab 32 [.hs 0 2 0 b.length,.d (.fn q1F q1C)] [(0,.dat 2 (b.map Q5))] 1 (.d (.tup [])) [(0,.dat 2 (r.map Q5))] 1:=by
 unfold q4r at a;refine Kj Try.func32 O qn qn O<|qh<|q0 O<|q7 _ O<|qf O<|qe<|Q9<|q0 O<|q0 O<|q0 O<|q7 _ O<|qa a fun j l a=>Qk (qct (IntKind.wrap .u64 (b.length : Int)) j l) O<|q0 O<|qa a fun k f a=>qa a fun o m a=>?_;have p:=Kr m;obtain ⟨n,f⟩:=qcp f;refine K2 [(0,0)] [(0,0)] _ (.d (.tup [])) 1 [(0,.dat 2 (k.map Q5))] 1 (q11e n c q1F q1C q1Ok b 0 (b.length : Int) j k f)<|Q8 ?_;obtain rfl:=qz a;exact ⟨.inl O,_,O,wkA [] [] []⟩
theorem qoi (s : List qt) (r : Qq × Bool) (f : q53 s = some r) : Pure Try.prog tab 14 [.sl 4 (s.map Y5)] (.tup [.agg [.sl 2 (r.1.Nodes.map qs),.sl 2 (r.1.Edges.map Q5)],.bool r.2]):=by
 unfold q53 at f;refine Ke Try.func14 O qn qn O<|qh<|K9 O O<|qf O<|Q1<|q0 O<|qa f fun g y f=>Qk (qof s g y) O<|K9 O O<|K0 1 (.dat 2 [[.mp (mrow (fun n : Int=>DV.int .i64 n) (fun l : List qm=>DV.sl 2 (l.map Qc)) g.rows_),.mp (mrow (fun n : Int=>DV.int .i64 n) (fun l : List qm=>DV.sl 2 (l.map Qc)) g.columns_)]]) O<|Q1<|q7 (.d (.agg [.mp (mrow (fun n : Int=>DV.int .i64 n) (fun l : List qm=>DV.sl 2 (l.map Qc)) g.rows_),.mp (mrow (fun n : Int=>DV.int .i64 n) (fun l : List qm=>DV.sl 2 (l.map Qc)) g.columns_)])) O<|qa f fun c z f=>Qk (q12h g c z) O<|q0 O<|q7 (.d (.sl 2 (c.1.map qs))) O<|q7 (Q7 c.2) O<|qf O<|qf O<|qe<|qi<|qh<|q0 O<|q7 (Q7 (!c.2)) O<|qe ?_;refine qw O f (fun _ f=>?_) (fun _ f=>?_)
 ·refine qh<|q7 (.d (.agg [.nilsl,.nilsl])) O<|K0 0 (.dat 2 [[.nilsl,.nilsl]]) O<|qf O<|Qa ?_;obtain rfl:=qz f;exact finD (.inr O) (v:=.d (.tup [.agg [.nilsl,.nilsl],.bool false])) O O (Zw (.cons (q3c (.cons (.nil _) (.cons (.nil _) .nil))) (.cons (.refl _) .nil)))
 refine qy<|qh<|q0 O<|q7 (.d (.agg [.sl 2 (c.1.map qs),.nilsl])) O<|K9 O O<|K0 2 (.dat 2 [[.sl 2 (c.1.map qs),.nilsl]]) O<|Q1<|Qz (.mp 3) (.mp true (Qt (fun n : Int=>DV.int .i64 n) (DV.int .i64) ([] : List (Int × Int)))) O<|Qz (.mp 4) (.mp true (Qt (fun n : Int=>DV.int .i64 n) (DV.int .i64) ([] : List (Int × Int)))) O<|qf O<|qf O<|qe<|qi<|qh<|q0 O<|Kv O<|q0 O<|qe<|qa f fun w aa f=>?_;refine K3 (fun h=>h = w) (fun (h : List qk)=>⟨[(2,.ref 0 2 0 0),(7,.ref 1 2 0 0)],[(0,.dat 2 [[.nilsl,.nilsl]]),(1,.cel 2 [[.d (.sl 2 (c.1.map qs)),.hs 2 2 0 h.length]]),(2,.dat 2 (h.map Q5))],3⟩) qc ?_ ?_
 ·refine Qu (q3w c g) (fun (a : Int × (List (Int × Int)) × (List (Int × Int)) × List qk)=>⟨[(2,.ref 0 2 0 0),(4,.ref 1 2 0 0),(7,.ref 2 2 0 0),(8,.mp 3),(9,.mp 4),(27,.d (.sl 2 (c.1.map qs))),(28,qd (c.1.length : Int)),(29,qd a.1)],[(0,.dat 2 [[.nilsl,.nilsl]]),(1,.dat 2 [[.mp (mrow (fun n : Int=>DV.int .i64 n) (fun l : List qm=>DV.sl 2 (l.map Qc)) g.rows_),.mp (mrow (fun n : Int=>DV.int .i64 n) (fun l : List qm=>DV.sl 2 (l.map Qc)) g.columns_)]]),(2,.cel 2 [[.d (.sl 2 (c.1.map qs)),.hs 5 2 0 a.2.2.2.length]]),(3,.mp false (Qt (fun n : Int=>DV.int .i64 n) (DV.int .i64) a.2.1)),(4,.mp false (Qt (fun n : Int=>DV.int .i64 n) (DV.int .i64) a.2.2.1)),(5,.dat 2 (a.2.2.2.map Q5))],6⟩) (0,[],[],[]) w aa (wkA [(0,0),(1,1),(2,2),(3,3),(4,4)] [] [5]) ?_;intro a am j;unfold q3w at j;refine qh<|q7 (.d (.bool (decide (a.1 < (c.1.length : Int))))) O<|qe<|qi ?_;refine qw O j (fun _ j=>?_) (fun _ j=>?_)
  ·refine qy<|qi<|Qf<|qh<|q0 O<|qa j fun b ab j=>Kn (enc:=qs) ab O<|q7 (.d (.agg [qj b.X,qj b.Y])) O<|K9 O O<|qf O<|K0 6 (.dat 2 [[qj b.X,qj b.Y]]) O<|Q1<|q7 (.d (.agg [.mp (mrow (fun n : Int=>DV.int .i64 n) (fun l : List qm=>DV.sl 2 (l.map Qc)) g.rows_),.mp (mrow (fun n : Int=>DV.int .i64 n) (fun l : List qm=>DV.sl 2 (l.map Qc)) g.columns_)])) O<|q7 (.d (.agg [qj b.X,qj b.Y])) O<|qa j fun k ac j=>Qk (qhc g b k ac) O<|K9 O O<|K0 7 (.dat 4 [[.bool k.1,.bool k.2.1,.bool k.2.2.1,.bool k.2.2.2]]) O<|qe<|qi<|qh<|q7 (.ref 7 4 0 2) O<|q7 (Q7 k.2.2.1) O<|qe<|qa j fun ad m j=>?_;refine Y6 (fun o=>o = ad) (fun (o : List qk)=>⟨[(2,.ref 0 2 0 0),(4,.ref 1 2 0 0),(7,.ref 2 2 0 0),(8,.mp 3),(9,.mp 4),(10,qd a.1),(11,.ref 5 2 0 0),(12,.ref 6 4 0 0),(27,.d (.sl 2 (c.1.map qs))),(28,qd (c.1.length : Int)),(29,qd a.1)],[(0,.dat 2 [[.nilsl,.nilsl]]),(1,.dat 2 [[.mp (mrow (fun n : Int=>DV.int .i64 n) (fun l : List qm=>DV.sl 2 (l.map Qc)) g.rows_),.mp (mrow (fun n : Int=>DV.int .i64 n) (fun l : List qm=>DV.sl 2 (l.map Qc)) g.columns_)]]),(2,.cel 2 [[.d (.sl 2 (c.1.map qs)),.hs 7 2 0 o.length]]),(3,.mp false (Qt (fun n : Int=>DV.int .i64 n) (DV.int .i64) a.2.1)),(4,.mp false (Qt (fun n : Int=>DV.int .i64 n) (DV.int .i64) a.2.2.1)),(5,.dat 2 [[qj b.X,qj b.Y]]),(6,.dat 4 [[.bool k.1,.bool k.2.1,.bool k.2.2.1,.bool k.2.2.2]]),(7,.dat 2 (o.map Q5))],8⟩) qc ?_ ?_
   ·refine qw O m (fun _ m=>?_) (fun _ m=>?_)
    ·refine Q9<|q7 (.ref 2 2 0 1) O<|q7 (.hs 5 2 0 a.2.2.2.length) O<|q0 O<|q7 (.ref 6 2 0 1) O<|q7 (qd b.Y) O<|qg9 (ek:=(fun n : Int=>DV.int .i64 n)) (ev:=(DV.int .i64)) (es:=a.2.1) Jy 0 b.Y O O O O O O O<|q0 O<|q7 (.d (.agg [qj (K4 0 b.Y a.2.1),qj a.1])) O<|Qz (.hs 8 2 0 [({A:=K4 0 b.Y a.2.1,B:=a.1} : qk)].length) (.dat 2 ([({A:=K4 0 b.Y a.2.1,B:=a.1} : qk)].map Q5)) O<|qa m fun ae af m=>q11 (xs:=a.2.2.2) (ys:=[({A:=K4 0 b.Y a.2.1,B:=a.1} : qk)]) (enc:=Q5) (.hs 8 2 0 [({A:=K4 0 b.Y a.2.1,B:=a.1} : qk)].length) af O O O O O O O (q28 O O) O O O O<|q7 (.ref 2 2 0 1) O<|K0 2 (.cel 2 [[.d (.sl 2 (c.1.map qs)),.hs 9 2 0 ae.length]]) O<|Q8 ?_;obtain rfl:=qz m;exact ⟨_,O,wkA [(0,0),(1,1),(2,2),(3,3),(4,4),(5,6),(6,7),(7,9)] [] []⟩
    refine qy<|Qg ?_;obtain rfl:=qz m;exact ⟨_,O,wkA [(0,0),(1,1),(2,2),(3,3),(4,4),(5,6),(6,7),(7,5)] [] []⟩
   intro o hb;subst hb;refine qi<|qh<|q7 (.ref 6 4 0 3) O<|q7 (Q7 k.2.2.2) O<|qe<|qa j fun ag p j=>?_;refine Y6 (fun q=>q = ag) (fun (q : List qk)=>⟨[(2,.ref 0 2 0 0),(4,.ref 1 2 0 0),(7,.ref 2 2 0 0),(8,.mp 3),(9,.mp 4),(10,qd a.1),(11,.ref 5 2 0 0),(27,.d (.sl 2 (c.1.map qs))),(28,qd (c.1.length : Int)),(29,qd a.1)],[(0,.dat 2 [[.nilsl,.nilsl]]),(1,.dat 2 [[.mp (mrow (fun n : Int=>DV.int .i64 n) (fun l : List qm=>DV.sl 2 (l.map Qc)) g.rows_),.mp (mrow (fun n : Int=>DV.int .i64 n) (fun l : List qm=>DV.sl 2 (l.map Qc)) g.columns_)]]),(2,.cel 2 [[.d (.sl 2 (c.1.map qs)),.hs 6 2 0 q.length]]),(3,.mp false (Qt (fun n : Int=>DV.int .i64 n) (DV.int .i64) a.2.1)),(4,.mp false (Qt (fun n : Int=>DV.int .i64 n) (DV.int .i64) a.2.2.1)),(5,.dat 2 [[qj b.X,qj b.Y]]),(6,.dat 2 (q.map Q5))],7⟩) qc ?_ ?_
   ·refine qw O p (fun _ p=>?_) (fun _ p=>?_)
    ·refine Q9<|q7 (.ref 2 2 0 1) O<|q7 (.hs 7 2 0 o.length) O<|q0 O<|q7 (.ref 5 2 0 0) O<|q7 (qd b.X) O<|qg9 (ek:=(fun n : Int=>DV.int .i64 n)) (ev:=(DV.int .i64)) (es:=a.2.2.1) Jy 0 b.X O O O O O O O<|q0 O<|q7 (.d (.agg [qj (K4 0 b.X a.2.2.1),qj a.1])) O<|Qz (.hs 8 2 0 [({A:=K4 0 b.X a.2.2.1,B:=a.1} : qk)].length) (.dat 2 ([({A:=K4 0 b.X a.2.2.1,B:=a.1} : qk)].map Q5)) O<|qa p fun ah ai p=>q11 (xs:=o) (ys:=[({A:=K4 0 b.X a.2.2.1,B:=a.1} : qk)]) (enc:=Q5) (.hs 8 2 0 [({A:=K4 0 b.X a.2.2.1,B:=a.1} : qk)].length) ai O O O O O O O (q28 O O) O O O O<|q7 (.ref 2 2 0 1) O<|K0 2 (.cel 2 [[.d (.sl 2 (c.1.map qs)),.hs 9 2 0 ah.length]]) O<|Q8 ?_;obtain rfl:=qz p;exact ⟨_,O,wkA [(0,0),(1,1),(2,2),(3,3),(4,4),(5,5),(6,9)] [] []⟩
    refine qy<|Qg ?_;obtain rfl:=qz p;exact ⟨_,O,wkA [(0,0),(1,1),(2,2),(3,3),(4,4),(5,5),(6,7)] [] []⟩
   intro q hb;subst hb;refine Qh [Qi 4,Qi 3,q8,q8,qv 5,q8,q8,qv 5,q8,q8] qn<|q0 O<|q7 (.ref 5 2 0 1) O<|q7 (qd b.Y) O<|q0 O<|q7 (.ref 5 2 0 0) O<|q7 (qd b.X) O<|q0 O<|q0 O<|q3o (ek:=(fun n : Int=>DV.int .i64 n)) (ev:=(DV.int .i64)) (es:=a.2.1) Jy b.Y a.1 O O O O O O O O<|q3o (ek:=(fun n : Int=>DV.int .i64 n)) (ev:=(DV.int .i64)) (es:=a.2.2.1) Jy b.X a.1 O O O O O O O O<|Q8<|Qp<|Q9<|q7 (.d (qj (w64 (a.1 + 1)))) O<|q0 O<|Q8<|⟨_,qx j,wkA [(0,0),(1,1),(2,2),(3,3),(4,4),(5,6)] [] []⟩
  refine Ql ?_;refine ⟨_,qx j,fun hm=>?_⟩;subst hm;exact ⟨_,O,wkA [(0,0),(1,2),(2,5)] [] []⟩
 intro h hb;subst hb;refine qh<|q7 (.ref 1 2 0 1) O<|q7 (.hs 2 2 0 h.length) O<|qa f fun x aj f=>qa f fun an ak f=>?_;have al:=Kr ak;refine K2 [(0,2)] [(0,1),(1,1),(2,0)] [.hs 2 2 0 h.length,.d (.fn 33 [])] (.d (.tup [])) 1 [(2,.dat 2 (x.map Q5)),(0,.dat 2 [[.nilsl,.nilsl]]),(1,.cel 2 [[.d (.sl 2 (c.1.map qs)),.hs 2 2 0 h.length]])] 3 (q10o (fun t u=>q33 t u) 33 [] (fun t u r hr=>q12f t u r hr) h x aj)<|qe<|qi<|Qh [q8,Qi 0,q8,q8,qv 1,q8,qv 1] qn<|q7 (.agg [.d (.sl 2 (c.1.map qs)),.hs 2 2 0 h.length]) O<|q7 (.ref 1 2 0 1) O<|q7 (.hs 2 2 0 h.length) O<|q7 (qd (h.length : Int)) O<|q7 (.d (.bool (decide ((h.length : Int)≤800)))) O<|K0 0 (.cel 2 [[.d (.sl 2 (c.1.map qs)),.hs 2 2 0 h.length]]) O<|qf O<|Qa ?_;obtain rfl:=qz f;exact finD (.inr O) (v:=.tup [.agg [.d (.sl 2 (c.1.map qs)),.hs 2 2 0 h.length],.d (.bool (decide ((h.length : Int)≤800)))]) O (qhh (Zi (q7i (Zi O (Zi (Zc (by simp [al]) O) O))) (Zi O O))) (.refl _)
theorem q10l (c : List qb) (f : List qb) (r : Bool) (b : q93 c f = some r) : Pure Try.prog tab 75 [.sl 2 (c.map qs),.sl 2 (f.map qs)] (.bool r):=by
 unfold q93 at b;refine Ke Try.func75 O qn qn O<|qh<|qf O<|qe<|qi<|qh<|q0 O<|Kv O<|q0 O<|Kv O<|q7 _ O<|qe ?_;refine qw O b (fun _ b=>?_) (fun _ b=>?_)
 ·refine qh<|qf O<|Qa ?_;cases b;exact Qv _ O
 refine qy<|qi<|qh<|q0 O<|Kv O<|q0 O<|qe<|qa b fun h k b=>?_;refine K3 (fun g=>.inl g = h) (fun g=>⟨[],[],0⟩) qc ?_ ?_
 ·refine Qu (q6k c f) (fun j=>⟨[(0,.d (.sl 2 (c.map qs))),(1,.d (.sl 2 (f.map qs))),(12,qd (c.length : Int)),(13,qd j)],[],0⟩) _ h k (wkA [] [] []) ?_;intro j n a;unfold q6k at a;refine qh<|q7 _ O<|qe<|qi ?_;refine qw O a (fun _ a=>?_) (fun _ a=>?_)
  ·refine qy<|qi<|Qf<|qh<|q0 O<|qf O<|qe<|qi<|Qh [q8,q8,q8,q8,q8,q8,q8,q8,q8] qn<|q0 O<|q0 O<|qa a fun o l a=>Kn l O<|q7 _ O<|q0 O<|q0 O<|qa a fun p m a=>Kn m O<|q7 _ O<|q7 _ O<|qe ?_;refine qw O a (fun _ a=>?_) (fun _ a=>?_)
   ·refine qh<|qf O<|Qa ?_;refine ⟨_,qx a,fun hm=>?_⟩;subst hm;cases b;exact Qv _ O
   refine qy<|Qg<|Qp<|Q9<|q7 _ O<|q0 O<|Q8<|⟨_,qx a,wkA [] [] []⟩
  refine Ql ?_;refine ⟨_,qx a,fun hm=>?_⟩;subst hm;exact ⟨_,O,wkA [] [] []⟩
 intro g hb;subst hb;refine qh<|qf O<|Qa ?_;cases b;exact Qv _ O
theorem q10k (c : List qk) (f : List qk) (r : Bool) (b : q92 c f = some r) : Pure Try.prog tab 76 [.sl 2 (c.map Q5),.sl 2 (f.map Q5)] (.bool r):=by
 unfold q92 at b;refine Ke Try.func76 O qn qn O<|qh<|qf O<|qe<|qi<|qh<|q0 O<|Kv O<|q0 O<|Kv O<|q7 _ O<|qe ?_;refine qw O b (fun _ b=>?_) (fun _ b=>?_)
 ·refine qh<|qf O<|Qa ?_;cases b;exact Qv _ O
 refine qy<|qi<|qh<|q0 O<|Kv O<|q0 O<|qe<|qa b fun h k b=>?_;refine K3 (fun g=>.inl g = h) (fun g=>⟨[],[],0⟩) qc ?_ ?_
 ·refine Qu (q6j c f) (fun j=>⟨[(0,.d (.sl 2 (c.map Q5))),(1,.d (.sl 2 (f.map Q5))),(12,qd (c.length : Int)),(13,qd j)],[],0⟩) _ h k (wkA [] [] []) ?_;intro j n a;unfold q6j at a;refine qh<|q7 _ O<|qe<|qi ?_;refine qw O a (fun _ a=>?_) (fun _ a=>?_)
  ·refine qy<|qi<|Qf<|qh<|q0 O<|qf O<|qe<|qi<|Qh [q8,q8,q8,q8,q8,q8,q8,q8,q8] qn<|q0 O<|q0 O<|qa a fun o l a=>Kn l O<|q7 _ O<|q0 O<|q0 O<|qa a fun p m a=>Kn m O<|q7 _ O<|q7 _ O<|qe ?_;refine qw O a (fun _ a=>?_) (fun _ a=>?_)
   ·refine qh<|qf O<|Qa ?_;refine ⟨_,qx a,fun hm=>?_⟩;subst hm;cases b;exact Qv _ O
   refine qy<|Qg<|Qp<|Q9<|q7 _ O<|q0 O<|Q8<|⟨_,qx a,wkA [] [] []⟩
  refine Ql ?_;refine ⟨_,qx a,fun hm=>?_⟩;subst hm;exact ⟨_,O,wkA [] [] []⟩
 intro g hb;subst hb;refine qh<|qf O<|Qa ?_;cases b;exact Qv _ O
theorem q12e (c : Qq) (d : Qq) (r : Bool) (b : qbi c d = some r) : Pure Try.prog tab 55 [.agg [.sl 2 (c.Nodes.map qs),.sl 2 (c.Edges.map Q5)],.agg [.sl 2 (d.Nodes.map qs),.sl 2 (d.Edges.map Q5)]] (.bool r):=by
 unfold qbi at b;refine Ke Try.func55 O qn qn O<|qh<|Qz _ _ O<|Qz _ _ O<|qf O<|Q1<|q7 _ O<|q7 _ O<|q7 _ O<|q7 _ O<|qa b fun m n b=>Qk (q10l c.Nodes d.Nodes m n) O<|qa b fun o a b=>?_;refine Qn 7 (fun A st=>∃ f g h j k l,st = A [(16,Q7 o),(15,l),(14,k),(13,j),(12,h),(11,g),(10,f)]) ?_ ?_
 ·refine Qm O O a (fun a=>?_) (fun a=>?_)
  ·refine q7 _ O<|q7 _ O<|q7 _ O<|q7 _ O<|qa a fun p q a=>Qk (q10k c.Edges d.Edges p q) O<|q7 _ O<|qe ?_;cases a;exact ⟨_,_,_,_,_,_,O⟩
  refine qg O<|qg O<|qg O<|qg O<|qg O<|q7 _ O<|qe ?_;cases a;exact ⟨_,_,_,_,_,_,O⟩
 rintro _ ⟨f,g,h,j,k,l,rfl⟩;refine qf O<|Qa ?_;cases b;exact Qv _ O
theorem qoa (c : Qq) (r : Int) (a : q18 c = some r) : Pure Try.prog tab 39 [.agg [.sl 2 (c.Nodes.map qs),.sl 2 (c.Edges.map Q5)]] (qj r):=by
 unfold q18 at a;refine Ke Try.func39 O qn qn O<|qh<|Qz _ _ O<|qf O<|qe<|qi<|qh<|q7 _ O<|q7 _ O<|Kv O<|q7 _ O<|qa a fun t d a=>?_;refine Qn 6 (fun A st=>∃ f g h j k,st = A [(16,Q7 t),(15,k),(14,j),(13,h),(12,g),(11,f)]) ?_ ?_
 ·refine Qm O O d (fun d=>?_) (fun d=>?_)
  ·refine qg O<|qg O<|qg O<|qg O<|q7 _ O<|qe ?_;cases d;exact ⟨_,_,_,_,_,O⟩
  refine q7 _ O<|q7 _ O<|Kv O<|q7 _ O<|q7 _ O<|qe ?_;cases d;exact ⟨_,_,_,_,_,O⟩
 rintro _ ⟨f,g,h,j,k,rfl⟩;refine qe ?_;refine qw O a (fun _ a=>?_) (fun _ a=>?_)
 ·refine qh<|qf O<|Qa ?_;cases a;exact Qv _ O
 refine qy<|qh<|q7 _ O<|qa a fun l u a=>Qk (qoh c l u) O<|q0 O<|q7 _ O<|q7 _ O<|qf O<|qf O<|qe<|qi<|qh<|q0 O<|q7 _ O<|qe ?_;refine qw O a (fun _ a=>?_) (fun _ a=>?_)
 ·refine qh<|qf O<|Qa ?_;cases a;exact Qv _ O
 refine qy<|qi<|qh<|q0 O<|qa a fun m v a=>Qk (qoi l.1 m v) O<|q0 O<|q7 _ O<|q7 _ O<|K9 O O<|K0 1 _ O<|qf O<|Q1<|q0 O<|q7 _ O<|qa a fun w b a=>?_;refine Qn 6 (fun A st=>∃ n o p q s,st = A [(36,Q7 w),(35,s),(34,q),(33,p),(32,o),(31,n)]) ?_ ?_
 ·refine Qm O O b (fun b=>?_) (fun b=>?_)
  ·refine qg O<|qg O<|qg O<|qg O<|q7 _ O<|qe ?_;cases b;exact ⟨_,_,_,_,_,O⟩
  refine q7 _ O<|q7 _ O<|qa b fun x y b=>Qk (q12e m.1 c x y) O<|q7 _ O<|q7 _ O<|qe ?_;cases b;exact ⟨_,_,_,_,_,O⟩
 rintro _ ⟨n,o,p,q,s,rfl⟩;refine qe ?_;refine qw O a (fun _ a=>?_) (fun _ a=>?_)
 ·refine qh<|qf O<|Qa ?_;cases a;exact Qv _ O
 refine qy<|qh<|qf O<|Qa ?_;cases a;exact Qv _ O
theorem qoe (b : Qq) (r : List qt × Int) (a : q3v b = some r) : Pure Try.prog tab 38 [.agg [.sl 2 (b.Nodes.map qs),.sl 2 (b.Edges.map Q5)]] (.tup [.sl 4 (r.1.map Y5),qj r.2]):=by
 unfold q3v at a;refine Ke Try.func38 O qn qn O<|qh<|Qz _ _ O<|qf O<|qf O<|qe<|qi<|qh<|q7 _ O<|qa a fun c d a=>Qk (qoa b c d) O<|qf O<|Q1<|q0 O<|q7 _ O<|qe ?_;refine qw O a (fun _ a=>?_) (fun _ a=>?_)
 ·refine qh<|q0 O<|qf O<|qf O<|Qa ?_;obtain rfl:=qz a;exact finD (.inr O) O O (Zw (.cons (.nil _) (.cons (.refl _) .nil)))
 refine qy<|qh<|q7 _ O<|qa a fun f g a=>Qk (qoh b f g) O<|q0 O<|q7 _ O<|q7 _ O<|qf O<|qf O<|Q1<|q0 O<|qf O<|qf O<|Qa ?_;cases a;exact Qv _ O
theorem qob (h : Qq) (m : Int) (r : Int × Int) (a : q30 h m = some r) : Pure Try.prog tab 17 [.agg [.sl 2 (h.Nodes.map qs),.sl 2 (h.Edges.map Q5)],qj m] (.tup [qj r.1,qj r.2]):=by
 unfold q30 at a;refine Ke Try.func17 O qn qn O<|qh<|Qz _ _ O<|qf O<|qf O<|Q1<|q7 _ O<|qa a fun n x a=>Qk (qoe h n x) O<|q0 O<|q7 _ O<|q7 _ O<|qf O<|qf O<|qe<|qi<|qh<|q0 O<|q7 _ O<|qe ?_;refine qw O a (fun _ a=>?_) (fun _ a=>?_)
 ·refine qh<|q0 O<|qf O<|qf O<|Qa ?_;cases a;exact Qv _ O
 refine qy<|qi<|qh<|q0 O<|q7 _ O<|qa a fun y g a=>?_;refine Qn 7 (fun A st=>∃ o p q s t u,st = A [(27,Q7 y),(26,u),(25,t),(24,s),(23,q),(22,p),(21,o)]) ?_ ?_
 ·refine Qm O O g (fun g=>?_) (fun g=>?_)
  ·refine qg O<|qg O<|qg O<|qg O<|qg O<|q7 _ O<|qe ?_;cases g;exact ⟨_,_,_,_,_,_,O⟩
  refine q0 O<|q7 _ O<|q7 _ O<|Kv O<|q7 _ O<|q7 _ O<|qe ?_;cases g;exact ⟨_,_,_,_,_,_,O⟩
 rintro _ ⟨o,p,q,s,t,u,rfl⟩;refine qe ?_;refine qw O a (fun _ a=>?_) (fun _ a=>?_)
 ·refine qh<|qf O<|qf O<|Qa ?_;cases a;exact Qv _ O
 refine qy<|qh<|qf O<|qe<|qi<|qi<|Qh [q8,q8,q8,q8,q8,qv 0,q8,q8,q8] qn<|q0 O<|qa a fun v z a=>Qk (qof n.1 v z) O<|q7 _ O<|q7 _ O<|q0 O<|qa a fun aa ab a=>Kn ab O<|q7 _ O<|qa a fun b ac a=>Qk (qhc v aa b ac) O<|q0 O<|qe<|qa a fun w ad a=>?_;refine K3 (fun j=>j = w) (fun j=>⟨[(8,qd j)],[],0⟩) qc ?_ ?_
 ·refine Qu (q3t b) (fun k=>⟨[(8,qd k.1),(35,.d (.agg [.bool b.1,.bool b.2.1,.bool b.2.2.1,.bool b.2.2.2])),(36,qd k.2)],[],0⟩) _ w ad (wkA [] [] []) ?_;intro k ah c;unfold q3t at c;refine qh<|q7 _ O<|qe<|qi ?_;refine qw O c (fun _ c=>?_) (fun _ c=>?_)
  ·refine qy<|qi<|qa c fun ae f c=>?_;refine K3 (fun l=>l = ae) (fun l=>⟨[(8,qd l),(35,.d (.agg [.bool b.1,.bool b.2.1,.bool b.2.2.1,.bool b.2.2.2])),(36,qd k.2)],[],0⟩) qc ?_ ?_
   ·refine qh<|qa f fun af ag f=>qvb (enc:=eB) [b.1,b.2.1,b.2.2.1,b.2.2.2] (Q7 af) ag (fun _=>rfl) O O O O O O<|qf O<|Q1<|q0 O<|qe ?_;refine qw O f (fun _ f=>?_) (fun _ f=>?_)
    ·refine Q9<|q0 O<|q7 _ O<|qf O<|Q8 ?_;obtain rfl:=qz f;exact ⟨_,O,wkA [] [] []⟩
    refine qy<|Qg ?_;obtain rfl:=qz f;exact ⟨_,O,wkA [] [] []⟩
   intro l hb;subst hb;refine Q9<|q7 _ O<|q0 O<|Q8<|⟨_,qx c,wkA [] [] []⟩
  refine Ql ?_;refine ⟨_,qx c,fun hm=>?_⟩;subst hm;exact ⟨_,O,wkA [] [] []⟩
 intro j hb;subst hb;refine qh<|q0 O<|qf O<|qf O<|Qa ?_;cases a;exact Qv _ O
theorem q12d (f : Qq) (r : Int × Int) (a : q7b f = some r) : Pure Try.prog tab 19 [.agg [.sl 2 (f.Nodes.map qs),.sl 2 (f.Edges.map Q5)]] (.tup [qj r.1,qj r.2]):=by
 unfold q7b at a;refine Ke Try.func19 O qn qn O<|qh<|Qz _ _ O<|qf O<|qf O<|Q1<|q7 _ O<|qa a fun g l a=>Qk (qoe f g l) O<|q0 O<|q7 _ O<|q7 _ O<|qf O<|qf O<|qe<|qi<|qh<|q0 O<|q7 _ O<|qe ?_;refine qw O a (fun _ a=>?_) (fun _ a=>?_)
 ·refine qh<|q0 O<|qf O<|qf O<|Qa ?_;cases a;exact Qv _ O
 refine qy<|qh<|qf O<|qe<|qi<|qh<|q0 O<|Kv O<|q0 O<|qe<|qa a fun k m a=>?_;refine K3 (fun h=>h = k) (fun h=>⟨[(6,qd h)],[],0⟩) qc ?_ ?_
 ·refine Qu (q3u g) (fun j=>⟨[(6,qd j.1),(17,.d (.sl 4 (g.1.map Y5))),(18,qd (g.1.length : Int)),(19,qd j.2)],[],0⟩) _ k m (wkA [] [] []) ?_;intro j o b;unfold q3u at b;refine qh<|q7 _ O<|qe<|qi ?_;refine qw O b (fun _ b=>?_) (fun _ b=>?_)
  ·refine qy<|qi<|Qf<|qh<|qa b fun c n b=>Kn n O<|q7 _ O<|K9 O O<|K0 0 _ O<|qe<|Q9<|q0 O<|q7 _ O<|q7 _ O<|q7 _ O<|q7 _ O<|q7 _ O<|q7 _ O<|U1 (r:=max c.A.X c.B.X) O O (by simp only [U0];rfl)<|q7 _ O<|q7 _ O<|q7 _ O<|q7 _ O<|q7 _ O<|q7 _ O<|q2t (r:=min c.A.X c.B.X) O O (by simp only [q2q];rfl)<|q7 _ O<|q7 _ O<|q7 _ O<|q7 _ O<|q7 _ O<|q7 _ O<|q7 _ O<|U1 (r:=max c.A.Y c.B.Y) O O (by simp only [U0];rfl)<|q7 _ O<|q7 _ O<|q7 _ O<|q7 _ O<|q7 _ O<|q7 _ O ?_;refine q7 _ O<|q2t (r:=min c.A.Y c.B.Y) O O (by simp only [q2q];rfl)<|q7 _ O<|q7 _ O<|qf O<|Q8<|Qp<|Q9<|q7 _ O<|q0 O<|Q8<|⟨_,qx b,wkA [] [] []⟩
  refine Ql ?_;refine ⟨_,qx b,fun hm=>?_⟩;subst hm;exact ⟨_,O,wkA [] [] []⟩
 intro h hb;subst hb;refine qh<|q0 O<|qf O<|qf O<|Qa ?_;cases a;exact Qv _ O
theorem q4l (b : Int) (c : Int) (d : Int) (f : Int) (r : qt) (a : q1v b c d f = some r) : Pure Try.prog tab 20 [qj b,qj c,qj d,qj f] (.agg (Y5 r)):=by
 unfold q1v at a;refine Ke Try.func20 O qn qn O<|qh<|K9 O O<|Q1<|q0 O<|q0 O<|qa a fun g h a=>Qk (Yg b c g h) O<|q0 O<|q0 O<|qa a fun j k a=>Qk (Yg d f j k) O<|q7 _ O<|K0 0 _ O<|Qa ?_;cases a;exact Qv _ O
theorem qdp (c : List qt) (r : Qq × Int) (a : Jm c = some r) : Pure Try.prog tab 5 [.sl 4 (c.map Y5)] (.tup [.agg [.sl 2 (r.1.Nodes.map qs),.sl 2 (r.1.Edges.map Q5)],qj r.2]):=by
 unfold Jm at a;refine Ke Try.func5 O qn qn O<|qh<|K9 O O<|qf O<|qe<|qi<|qh<|q0 O<|Kv O<|q7 _ O<|qe ?_;refine qw O a (fun _ a=>?_) (fun _ a=>?_)
 ·refine qh<|q7 _ O<|K0 0 _ O<|qf O<|Qa ?_;obtain rfl:=qz a;exact finD (.inr O) O O (Zw (.cons (q3c (.cons (.nil _) (.cons (.nil _) .nil))) (.cons (.refl _) .nil)))
 refine qy<|qi<|qh<|q0 O<|Kv O<|q0 O<|qe<|qa a fun g j a=>?_;refine K3 (fun f=>.inl f = g) (fun f=>⟨[(0,.d (.sl 4 (c.map Y5))),(2,.ref 0 2 0 0)],[(0,.dat 2 [[.nilsl,.nilsl]])],1⟩) qc ?_ ?_
 ·refine Qu (q7c c) (fun h=>⟨[(0,.d (.sl 4 (c.map Y5))),(2,.ref 0 2 0 0),(12,.d (.sl 4 (c.map Y5))),(13,qd (c.length : Int)),(14,qd h)],[(0,.dat 2 [[.nilsl,.nilsl]])],1⟩) _ g j (wkA [(0,0)] [] []) ?_;intro h q b;unfold q7c at b;refine qh<|q7 _ O<|qe<|qi ?_;refine qw O b (fun _ b=>?_) (fun _ b=>?_)
  ·refine qy<|qi<|Qf<|qh<|qa b fun k l b=>Kn l O<|q7 _ O<|K9 O O<|K0 1 _ O<|Q1<|q7 _ O<|qa b fun m n b=>Qk (qoj k m n) O<|q7 _ O<|qe ?_;refine qw O b (fun _ b=>?_) (fun _ b=>?_)
   ·refine qh<|q7 _ O<|K0 0 _ O<|qf O<|Qa ?_;refine ⟨_,qx b,fun hm=>?_⟩;subst hm;obtain rfl:=qz a;exact finD (.inr O) O O (Zw (.cons (q3c (.cons (.nil _) (.cons (.nil _) .nil))) (.cons (.refl _) .nil)))
   refine qy<|Qg<|Qp<|Q9<|q7 _ O<|q0 O<|Q8<|⟨_,qx b,wkA [(0,0)] [] []⟩
  refine Ql ?_;refine ⟨_,qx b,fun hm=>?_⟩;subst hm;exact ⟨_,O,wkA [(0,0)] [] []⟩
 intro f hb;subst hb;refine qh<|q0 O<|qa a fun o p a=>Qk (qoi c o p) O<|q0 O<|q7 _ O<|q7 _ O<|K9 O O<|K0 1 _ O<|qf O<|qe<|qi<|qh<|q0 O<|q7 _ O<|qe ?_;refine qw O a (fun _ a=>?_) (fun _ a=>?_)
 ·refine qh<|q7 _ O<|K0 0 _ O<|qf O<|Qa ?_;obtain rfl:=qz a;exact finD (.inr O) O O (Zw (.cons (q3c (.cons (.nil _) (.cons (.nil _) .nil))) (.cons (.refl _) .nil)))
 refine qy<|qh<|q7 _ O<|K0 0 _ O<|qf O<|Qa ?_;cases a;exact Qv _ O
theorem qyi (c : List qb) (f : qb) (r : Int) (b : q8z c f = some r) : Pure Try.prog tab 21 [.sl 2 (c.map qs),.agg (qs f)] (qj r):=by
 unfold q8z at b;refine Ke Try.func21 O qn qn O<|qh<|Qz _ _ O<|qf O<|qe<|qi<|qh<|qf O<|qe<|qa b fun h k b=>?_;refine K3 (fun g=>.inl g = h) (fun g=>⟨[],[],0⟩) qc ?_ ?_
 ·refine Qu (q69 c f) (fun j=>⟨[(0,.d (.sl 2 (c.map qs))),(3,.ref 0 2 0 0),(5,qd j)],[(0,.dat 2 [(qs f)])],1⟩) _ h k (wkA [(0,0)] [] []) ?_;intro j m a;unfold q69 at a;refine qi<|qh<|q0 O<|q0 O<|Kv O<|q7 _ O<|qe ?_;refine qw O a (fun _ a=>?_) (fun _ a=>?_)
  ·refine qy<|qi<|Qf<|qi<|Qh [q8,qv 0,q8,q8,q8,q8] qn<|q0 O<|q0 O<|qa a fun n l a=>Kn l O<|q7 _ O<|q7 _ O<|q7 _ O<|qe ?_;refine qw O a (fun _ a=>?_) (fun _ a=>?_)
   ·refine qh<|q0 O<|qf O<|Qa ?_;refine ⟨_,qx a,fun hm=>?_⟩;subst hm;cases b;exact Qv _ O
   refine qy<|Qg<|Qp<|Q9<|q0 O<|q7 _ O<|qf O<|Q8<|⟨_,qx a,wkA [(0,0)] [] []⟩
  refine Ql ?_;refine ⟨_,qx a,fun hm=>?_⟩;subst hm;exact ⟨_,O,wkA [] [] []⟩
 intro g hb;subst hb;refine qh<|qf O<|Qa ?_;cases b;exact Qv _ O
theorem qf5 (a : qb) (r : Bool) (c : q3f a = some r) : Pure Try.prog tab 25 [.agg (qs a)] (.bool r):=by
 unfold q3f at c;refine Ke Try.func25 O qn qn O<|qh<|Qz _ _ O<|qf O<|Q1<|q7 _ O<|q7 _ O<|q7 _ O<|q7 _ O<|q7 _ O<|q7 _ O<|q7 _ O<|q7 _ O<|q7 _ O<|q7 _ O<|U1 (r:=max (max (max a.X (w64 (0 - a.X))) a.Y) (w64 (0 - a.Y))) O O (by simp only [U0];rfl)<|q7 _ O<|qa c fun m b c=>?_;refine Qn 8 (fun A st=>∃ d f g h j k l,st = A [(22,Q7 m),(21,l),(20,k),(19,j),(18,h),(17,g),(16,f),(15,d)]) ?_ ?_
 ·refine Qm O O b (fun b=>?_) (fun b=>?_)
  ·refine q7 _ O<|q7 _ O<|q7 _ O<|q7 _ O<|q2t (r:=min a.X a.Y) O O (by simp only [q2q];rfl)<|q7 _ O<|q7 _ O<|qe ?_;cases b;exact ⟨_,_,_,_,_,_,_,O⟩
  refine qg O<|qg O<|qg O<|qg O<|qg O<|qg O<|q7 _ O<|qe ?_;cases b;exact ⟨_,_,_,_,_,_,_,O⟩
 rintro _ ⟨d,f,g,h,j,k,l,rfl⟩;refine qf O<|Qa ?_;cases c;exact Qv _ O
theorem qjt (f : List K5) (r : Int) (b : q2d f = some r) : Pure Try.prog tab 24 [.sl 5 (f.map Kz)] (qj r):=by
 unfold q2d at b;refine Ke Try.func24 O qn qn O<|qh<|qf O<|qe<|qi<|qh<|q0 O<|Kv O<|q7 _ O<|qe ?_;refine qw O b (fun _ b=>?_) (fun _ b=>?_)
 ·refine qh<|qf O<|Qa ?_;cases b;exact Qv _ O
 refine qy<|qi<|qh<|q0 O<|Kv O<|q0 O<|qe<|qa b fun n ap b=>?_;refine K3 (fun m=>.inl m = n) (fun m=>⟨[],[],0⟩) qc ?_ ?_
 ·refine Qu (q5h f) (fun o=>⟨[(8,.d (.sl 5 (f.map Kz))),(9,qd (f.length : Int)),(10,qd o)],[],0⟩) _ n ap (wkA [] [] []) ?_;intro o bc a;unfold q5h at a;refine qh<|q7 _ O<|qe<|qi ?_;refine qw O a (fun _ a=>?_) (fun _ a=>?_)
  ·refine qy<|qi<|Qf<|qh<|qa a fun aq ar a=>Kn ar O<|q7 _ O<|K9 O O<|K0 0 _ O<|Q1<|q7 _ O<|q7 _ O<|q7 _ O<|qa a fun au g a=>?_;refine Qn 5 (fun A st=>∃ p q s t,st = A [(21,Q7 au),(20,t),(19,s),(18,q),(17,p)]) ?_ ?_
   ·refine Qm O O g (fun g=>?_) (fun g=>?_)
    ·refine qg O<|qg O<|qg O<|q7 _ O<|qe ?_;cases g;exact ⟨_,_,_,_,O⟩
    refine q7 _ O<|q7 _ O<|q7 _ O<|q7 _ O<|qe ?_;cases g;exact ⟨_,_,_,_,O⟩
   rintro _ ⟨p,q,s,t,rfl⟩;refine qa a fun av c a=>?_;refine Qn 6 (fun A st=>∃ u v w x y,st = A [(27,Q7 av),(26,y),(25,x),(24,w),(23,v),(22,u)]) ?_ ?_
   ·refine Qm O O c (fun c=>?_) (fun c=>?_)
    ·refine qg O<|qg O<|qg O<|qg O<|q7 _ O<|qe ?_;cases c;exact ⟨_,_,_,_,_,O⟩
    refine q7 _ O<|q7 _ O<|qa c fun aw ax c=>Qk (qf5 aq.At aw ax) O<|q7 _ O<|q7 _ O<|qe ?_;cases c;exact ⟨_,_,_,_,_,O⟩
   rintro _ ⟨u,v,w,x,y,rfl⟩;refine qa a fun ay h a=>?_;refine Qn 5 (fun A st=>∃ z aa ab ac,st = A [(32,Q7 ay),(31,ac),(30,ab),(29,aa),(28,z)]) ?_ ?_
   ·refine Qm O O h (fun h=>?_) (fun h=>?_)
    ·refine qg O<|qg O<|qg O<|q7 _ O<|qe ?_;cases h;exact ⟨_,_,_,_,O⟩
    refine q7 _ O<|q7 _ O<|q7 _ O<|q7 _ O<|qe ?_;cases h;exact ⟨_,_,_,_,O⟩
   rintro _ ⟨z,aa,ab,ac,rfl⟩;refine qa a fun az j a=>?_;refine Qn 5 (fun A st=>∃ ad ae af ag,st = A [(37,Q7 az),(36,ag),(35,af),(34,ae),(33,ad)]) ?_ ?_
   ·refine Qm O O j (fun j=>?_) (fun j=>?_)
    ·refine qg O<|qg O<|qg O<|q7 _ O<|qe ?_;cases j;exact ⟨_,_,_,_,O⟩
    refine q7 _ O<|q7 _ O<|q7 _ O<|q7 _ O<|qe ?_;cases j;exact ⟨_,_,_,_,O⟩
   rintro _ ⟨ad,ae,af,ag,rfl⟩;refine qa a fun ba k a=>?_;refine Qn 5 (fun A st=>∃ ah ai aj ak,st = A [(42,Q7 ba),(41,ak),(40,aj),(39,ai),(38,ah)]) ?_ ?_
   ·refine Qm O O k (fun k=>?_) (fun k=>?_)
    ·refine qg O<|qg O<|qg O<|q7 _ O<|qe ?_;cases k;exact ⟨_,_,_,_,O⟩
    refine q7 _ O<|q7 _ O<|q7 _ O<|q7 _ O<|qe ?_;cases k;exact ⟨_,_,_,_,O⟩
   rintro _ ⟨ah,ai,aj,ak,rfl⟩;refine qa a fun bb l a=>?_;refine Qn 5 (fun A st=>∃ al am an ao,st = A [(47,Q7 bb),(46,ao),(45,an),(44,am),(43,al)]) ?_ ?_
   ·refine Qm O O l (fun l=>?_) (fun l=>?_)
    ·refine qg O<|qg O<|qg O<|q7 _ O<|qe ?_;cases l;exact ⟨_,_,_,_,O⟩
    refine q7 _ O<|q7 _ O<|q7 _ O<|q7 _ O<|qe ?_;cases l;exact ⟨_,_,_,_,O⟩
   rintro _ ⟨al,am,an,ao,rfl⟩;refine qe ?_;refine qw O a (fun _ a=>?_) (fun _ a=>?_)
   ·refine qh<|qf O<|Qa ?_;refine ⟨_,qx a,fun hm=>?_⟩;subst hm;cases b;exact Qv _ O
   refine qy<|Qg<|Qp<|Q9<|q7 _ O<|q0 O<|Q8<|⟨_,qx a,wkA [] [] []⟩
  refine Ql ?_;refine ⟨_,qx a,fun hm=>?_⟩;subst hm;exact ⟨_,O,wkA [] [] []⟩
 intro m hb;subst hb;refine qh<|qf O<|Qa ?_;cases b;exact Qv _ O
theorem qsr (f : List K5) (a : qb) (r : Int) (k : q5i f a = some r) : Pure Try.prog tab 40 [.sl 5 (f.map Kz),.agg (qs a)] (qj r):=by
 unfold q5i at k;refine Ke Try.func40 O qn qn O<|qh<|Qz _ _ O<|qf O<|Q1<|K9 O O<|K0 1 _ O<|qe<|qi<|qh<|q0 O<|q7 _ O<|qa k fun x y k=>?_;refine q8j [.d (.sl 5 (f.map Kz)),.d (.agg (qs a))] (fun p=>p = x) (fun p=>⟨[(4,qd 0),(5,.ref 0 1 0 0),(10,.fn 77 [.ref 1 1 0 0,.ref 2 2 0 0])],[(0,.dat 1 [[qj 0]]),(1,.dat 1 [[.sl 5 (f.map Kz)]]),(2,.dat 2 [(qs a)])],3⟩) O O Try.func56 O qn qn O ?_ ?_
 ·refine qh<|Qz _ _ O<|Qz _ _ O<|qf O<|Q1<|q7 _ O<|qf O<|Qa ?_;refine ⟨.inr O,_,O,?_⟩;obtain rfl:=qz y;exact ⟨_,O,wkA [(0,1),(1,2),(2,3)] [] []⟩
 intro p hb;subst hb;refine qe<|Qf<|qa k fun z q k=>?_;refine qnc (fun n=>n = z) (fun n=>⟨[(5,.ref 0 1 0 0)],[(0,.dat 1 [[qj n]])],1⟩) ?_ ?_
 ·refine Zs (st':=⟨[(4,qd 0),(5,.ref 0 1 0 0),(10,.fn 77 [.ref 1 1 0 0,.ref 2 2 0 0])],[(0,.dat 1 [[qj 0]]),(1,.dat 1 [[.sl 5 (f.map Kz)]]),(2,.dat 2 [(qs a)])],3⟩) (wkA [(0,0),(1,1),(2,2)] [] []) ?_ qc;refine qne _ (.inl O) Try.func77 O qn qn O ?_;intro A58 B59 hA58 hB59;refine qh<|q7 _ O<|Kv O<|q0 O<|qe<|qa q fun aa ab q=>Qf<|Qu (q3g f a) (fun h=>⟨[(0,.yld 3),(2,.ref 2 2 0 0),(9,.d (.sl 5 (f.map Kz))),(10,qd (f.length : Int)),(11,qd h.1)],[(0,.dat 1 [[qj h.2]]),(1,.dat 1 [[.sl 5 (f.map Kz)]]),(2,.dat 2 [(qs a)]),(3,.loop [(4,qd 0),(5,.ref 0 1 0 0),(10,.fn 77 [.ref 1 1 0 0,.ref 2 2 0 0])] [11,12] A58 B59 .ready none)],4⟩) _ aa ab (wkA [] [] []) ?_;intro h ai j;unfold q3g at j;refine qh<|q7 _ O<|qe<|qi ?_;refine qw O j (fun _ j=>?_) (fun _ j=>?_)
  ·refine qy<|qi<|qa j fun ac g j=>?_;refine K3 (fun o=>o = ac) (fun o=>⟨[(0,.yld 3),(2,.ref 2 2 0 0),(9,.d (.sl 5 (f.map Kz))),(10,qd (f.length : Int)),(11,qd h.1)],[(0,.dat 1 [[qj o]]),(1,.dat 1 [[.sl 5 (f.map Kz)]]),(2,.dat 2 [(qs a)]),(3,.loop [(4,qd 0),(5,.ref 0 1 0 0),(10,.fn 77 [.ref 1 1 0 0,.ref 2 2 0 0])] [11,12] A58 B59 .ready none)],4⟩) qc ?_ ?_
   ·refine qh<|qa g fun b ad g=>Kn ad O<|q7 _ O<|K9 O O<|K0 4 _ O<|qe<|qi<|Qh [q8,q8,q8,qv 4,q8,q8,qv 2,q8,q8,qv 4,q8,q8,qv 2,q8] qn<|q7 _ O<|q7 _ O<|q7 _ O<|q7 _ O<|q7 _ O<|q7 _ O<|q7 _ O<|q7 _ O<|q7 _ O<|q7 _ O<|q7 _ O<|q7 _ O<|qf O<|qf O<|Q1<|q0 O<|q0 O<|q7 _ O<|U1 (r:=max (w64 (a.X - b.At.X)) (w64 (0 - (w64 (a.X - b.At.X))))) O O (by simp only [U0];rfl)<|q0 O<|q0 O<|q7 _ O<|U1 (r:=max (w64 (a.Y - b.At.Y)) (w64 (0 - (w64 (a.Y - b.At.Y))))) O O (by simp only [U0];rfl)<|qf O<|qf O<|qe<|qi<|qh<|q0 O<|q0 O<|U1 (r:=max (max (w64 (a.X - b.At.X)) (w64 (0 - (w64 (a.X - b.At.X))))) (max (w64 (a.Y - b.At.Y)) (w64 (0 - (w64 (a.Y - b.At.Y)))))) O O (by simp only [U0];rfl) ?_;refine q7 _ O<|q7 _ O<|q7 _ O<|qe ?_;refine qw O g (fun _ g=>?_) (fun _ g=>?_)
    ·refine Ql ?_;obtain rfl:=qz g;exact ⟨_,O,wkA [] [] []⟩
    refine qy<|qh<|qf O<|qe<|qi<|qa g fun ae c g=>?_;refine K3 (fun l=>l = ae) (fun l=>⟨[(0,.yld 3),(2,.ref 2 2 0 0),(5,.ref 4 5 0 0),(6,.d (qj (max (w64 (a.X - b.At.X)) (w64 (0 - (w64 (a.X - b.At.X))))))),(7,.d (qj (max (w64 (a.Y - b.At.Y)) (w64 (0 - (w64 (a.Y - b.At.Y))))))),(8,qd l),(9,.d (.sl 5 (f.map Kz))),(10,qd (f.length : Int)),(11,qd h.1)],[(0,.dat 1 [[qj h.2]]),(1,.dat 1 [[.sl 5 (f.map Kz)]]),(2,.dat 2 [(qs a)]),(3,.loop [(4,qd 0),(5,.ref 0 1 0 0),(10,.fn 77 [.ref 1 1 0 0,.ref 2 2 0 0])] [11,12] A58 B59 .ready none),(4,.dat 5 [(Kz b)])],5⟩) qc ?_ ?_
    ·refine qh<|q7 _ O<|q7 _ O<|q7 _ O<|qf O<|qe ?_;refine qw O c (fun _ c=>?_) (fun _ c=>?_)
     ·refine Q9<|qf O<|Q8 ?_;obtain rfl:=qz c;exact ⟨_,O,wkA [(4,4)] [] []⟩
     refine qh<|q7 _ O<|q7 _ O<|q7 _ O<|qf O<|qe ?_;refine qw O c (fun _ c=>?_) (fun _ c=>?_)
     ·refine Q9<|qf O<|Q8 ?_;obtain rfl:=qz c;exact ⟨_,O,wkA [(4,4)] [] []⟩
     refine qh<|q7 _ O<|q7 _ O<|q7 _ O<|q0 O<|q0 O<|q7 _ O<|q7 _ O<|qa c fun af m c=>?_;refine Qn 5 (fun A st=>∃ t u v w,st = A [(61,Q7 af),(60,w),(59,v),(58,u),(57,t)]) ?_ ?_
     ·refine Qm O O m (fun m=>?_) (fun m=>?_)
      ·refine q0 O<|q0 O<|q7 _ O<|q7 _ O<|qe ?_;cases m;exact ⟨_,_,_,_,O⟩
      refine qg O<|qg O<|qg O<|q7 _ O<|qe ?_;cases m;exact ⟨_,_,_,_,O⟩
     rintro _ ⟨t,u,v,w,rfl⟩;refine qf O<|qe ?_;refine qw O c (fun _ c=>?_) (fun _ c=>?_)
     ·refine Q9<|qf O<|Q8 ?_;obtain rfl:=qz c;exact ⟨_,O,wkA [(4,4)] [] []⟩
     refine qh<|q0 O<|q0 O<|q7 _ O<|qf O<|qe ?_;refine qw O c (fun _ c=>?_) (fun _ c=>?_)
     ·refine Q9<|qf O<|Q8 ?_;obtain rfl:=qz c;exact ⟨_,O,wkA [(4,4)] [] []⟩
     refine qy<|Qg ?_;obtain rfl:=qz c;exact ⟨_,O,wkA [(4,4)] [] []⟩
    intro l hb;subst hb;refine qh<|q0 O<|q7 _ O<|q0 O<|q7 _ O<|q7 _ O<|q7 _ O<|q7 _ O<|q7 _ O<|q7 _ O<|q0 O<|q0 O<|U1 (r:=max (max (w64 (a.X - b.At.X)) (w64 (0 - (w64 (a.X - b.At.X))))) (max (w64 (a.Y - b.At.Y)) (w64 (0 - (w64 (a.Y - b.At.Y)))))) O O (by simp only [U0];rfl)<|q7 _ O<|q7 _ O<|qa g fun ag ah g=>?_;refine qm5 (fun s=>s = ag) (fun s=>⟨[(0,.yld 3),(2,.ref 2 2 0 0),(9,.d (.sl 5 (f.map Kz))),(10,qd (f.length : Int)),(11,qd h.1),(80,Q7 true)],[(0,.dat 1 [[qj (w64 (h.2 + (w64 ((w64 (l * b.Weight)) * (w64 ((w64 (b.Reach + 1)) - (max (max (w64 (a.X - b.At.X)) (w64 (0 - (w64 (a.X - b.At.X))))) (max (w64 (a.Y - b.At.Y)) (w64 (0 - (w64 (a.Y - b.At.Y))))))))))))]]),(1,.dat 1 [[.sl 5 (f.map Kz)]]),(2,.dat 2 [(qs a)]),(3,.loop [(4,qd 0),(5,.ref 0 1 0 0),(10,.fn 77 [.ref 1 1 0 0,.ref 2 2 0 0])] [11,12] A58 B59 .ready none)],4⟩) hA58 hB59 O O O O O O ?_ ?_
    ·refine Q9<|qf O<|Q8 ?_;refine ⟨O,_,O,?_⟩;refine Qf<|Q9<|q7 _ O<|q0 O<|q7 _ O<|K0 0 _ O<|Q8<|Qp<|Qg ?_;refine ⟨_,O,?_⟩;obtain rfl:=qz ah;exact ⟨_,O,wkA [] [] []⟩
    intro s hb;subst hb;refine q7 _ O<|qe<|Uj O<|qy<|Qg ?_;obtain rfl:=qz g;exact ⟨_,O,wkA [] [] []⟩
   intro o hb;subst hb;refine Q9<|q7 _ O<|q0 O<|Q8<|⟨_,qx j,wkA [] [] []⟩
  refine Ql ?_;refine ⟨_,qx j,fun hm=>?_⟩;subst hm;refine ⟨.inl O,_,O,_,_,.nor,O,Q0,?_⟩;refine qi0<|Qg ?_;obtain rfl:=qz q;exact ⟨_,O,wkA [(0,0)] [] []⟩
 intro n st hb hw;subst hb;refine Zs hw ?_ qc;refine qh<|q7 _ O<|qf O<|Qa ?_;cases k;exact Qv _ O
theorem qsq (b : List K5) (c : qb) (r : Int) (a : q2e b c = some r) : Pure Try.prog tab 26 [.sl 5 (b.map Kz),.agg (qs c)] (.int .u8 r):=by
 unfold q2e at a;refine Ke Try.func26 O qn qn O<|qh<|Qz _ _ O<|qf O<|qe<|qi<|qh<|q0 O<|q7 _ O<|qa a fun d f a=>Qk (qsr b c d f) O<|qf O<|qe<|Qf<|qh<|q0 O<|q7 _ O<|qf O<|qe ?_;refine qw O a (fun _ a=>?_) (fun _ a=>?_)
 ·refine qh<|qf O<|Qa ?_;cases a;exact Qv _ O
 refine qh<|q0 O<|q7 _ O<|qf O<|qe ?_;refine qw O a (fun _ a=>?_) (fun _ a=>?_)
 ·refine qh<|qf O<|Qa ?_;cases a;exact Qv _ O
 refine qy<|Qg<|Qp<|qh<|qf O<|Qa ?_;cases a;exact Qv _ O
theorem qju (f : List K5) (p : qb) (q : Int) (g : Int) (r : List qb × Int) (b : Ju f p q g = some r) : Pure Try.prog tab 11 [.sl 5 (f.map Kz),.agg (qs p),.int .u8 q,qj g] (.tup [.sl 2 (r.1.map qs),qj r.2]):=by
 unfold Ju at b;refine Ke Try.func11 O qn qn O<|qh<|Qz _ _ O<|qf O<|qf O<|qe<|qi<|qh<|q0 O<|qa b fun r1 h2 b=>Qk (qjt f r1 h2) O<|qf O<|Q1<|q0 O<|q7 _ O<|qe ?_;refine qw O b (fun _ b=>?_) (fun _ b=>?_)
 ·refine qh<|q0 O<|qf O<|qf O<|Qa ?_;obtain rfl:=qz b;exact finD (.inr O) O O (Zw (.cons (.nil _) (.cons (.refl _) .nil)))
 refine qy<|qi<|qh<|q7 _ O<|qa b fun r3 h4 b=>Qk (qf5 p r3 h4) O<|q7 _ O<|qa b fun c5 h b=>?_;refine Qn 4 (fun A st=>∃ s t u,st = A [(25,Q7 c5),(24,u),(23,t),(22,s)]) ?_ ?_
 ·refine Qm O O h (fun h=>?_) (fun h=>?_)
  ·refine qg O<|qg O<|q7 _ O<|qe ?_;cases h;exact ⟨_,_,_,O⟩
  refine q0 O<|q7 _ O<|q7 _ O<|qe ?_;cases h;exact ⟨_,_,_,O⟩
 rintro _ ⟨s,t,u,rfl⟩;refine qa b fun aq j b=>?_;refine Qn 4 (fun A st=>∃ v w x,st = A [(29,Q7 aq),(28,x),(27,w),(26,v)]) ?_ ?_
 ·refine Qm O O j (fun j=>?_) (fun j=>?_)
  ·refine qg O<|qg O<|q7 _ O<|qe ?_;cases j;exact ⟨_,_,_,O⟩
  refine q0 O<|q7 _ O<|q7 _ O<|qe ?_;cases j;exact ⟨_,_,_,O⟩
 rintro _ ⟨v,w,x,rfl⟩;refine qa b fun ar k b=>?_;refine Qn 4 (fun A st=>∃ y z aa,st = A [(33,Q7 ar),(32,aa),(31,z),(30,y)]) ?_ ?_
 ·refine Qm O O k (fun k=>?_) (fun k=>?_)
  ·refine qg O<|qg O<|q7 _ O<|qe ?_;cases k;exact ⟨_,_,_,O⟩
  refine q0 O<|q7 _ O<|q7 _ O<|qe ?_;cases k;exact ⟨_,_,_,O⟩
 rintro _ ⟨y,z,aa,rfl⟩;refine qe ?_;refine qw O b (fun _ b=>?_) (fun _ b=>?_)
 ·refine qh<|qf O<|qf O<|Qa ?_;obtain rfl:=qz b;exact finD (.inr O) O O (Zw (.cons (.nil _) (.cons (.refl _) .nil)))
 refine qy<|qh<|q7 _ O<|q7 _ O<|q7 _ O<|q7 _ O<|q7 _ O<|K9 O O<|K0 1 _ O<|Q1<|q7 _ O<|Qz _ _ O<|qf O<|qe<|qi<|qh<|q0 O<|q0 O<|qe<|qa b fun ab au b=>?_;refine K3 (fun l=>.inl l = ab) (fun l=>⟨[(12,.hs 0 2 0 l.length)],[(0,.dat 2 (l.map qs))],1⟩) qc ?_ ?_
 ·refine Qu (J8 g f) (fun c=>⟨[(0,.d (.sl 5 (f.map Kz))),(2,.d (.int .u8 c.1)),(5,.ref 0 2 0 0),(11,.ref 1 8 0 0),(12,.hs 2 2 0 c.2.2.2.2.length),(41,qd g),(42,qd c.2.1)],[(0,.dat 2 [[qj c.2.2.1,qj c.2.2.2.1]]),(1,.dat 8 [[({X:=1,Y:=0} : qb),({X:=0,Y:=1} : qb),({X:=(-1),Y:=0} : qb),({X:=0,Y:=(-1)} : qb)].flatMap qs]),(2,.dat 2 (c.2.2.2.2.map qs))],3⟩) _ ab au (wkA [(0,0),(1,1),(2,2)] [] []) ?_;intro c bc a;unfold J8 at a;refine qh<|q7 _ O<|qe<|qi ?_;refine qw O a (fun _ a=>?_) (fun _ a=>?_)
  ·refine qy<|qi<|Qf<|qi<|qh<|q0 O<|q7 _ O<|qa a fun av aw a=>Qk (qsq f ({X:=c.2.2.1,Y:=c.2.2.2.1} : qb) av aw) O<|qf O<|Q1<|q0 O<|q7 _ O<|qa a fun ax m a=>?_;refine Qn 6 (fun A st=>∃ ac ad ae af ag,st = A [(54,Q7 ax),(53,ag),(52,af),(51,ae),(50,ad),(49,ac)]) ?_ ?_
   ·refine Qm O O m (fun m=>?_) (fun m=>?_)
    ·refine q0 O<|q7 _ O<|q0 O<|q7 _ O<|q7 _ O<|qe ?_;cases m;exact ⟨_,_,_,_,_,O⟩
    refine qg O<|qg O<|qg O<|qg O<|q7 _ O<|qe ?_;cases m;exact ⟨_,_,_,_,_,O⟩
   rintro _ ⟨ac,ad,ae,af,ag,rfl⟩;refine qe<|qa a fun ay n a=>?_;refine Y6 (fun o=>o = ay) (fun o=>⟨[(0,.d (.sl 5 (f.map Kz))),(2,.d (.int .u8 o)),(5,.ref 0 2 0 0),(11,.ref 1 8 0 0),(12,.hs 2 2 0 c.2.2.2.2.length),(41,qd g),(42,qd c.2.1)],[(0,.dat 2 [[qj c.2.2.1,qj c.2.2.2.1]]),(1,.dat 8 [[({X:=1,Y:=0} : qb),({X:=0,Y:=1} : qb),({X:=(-1),Y:=0} : qb),({X:=0,Y:=(-1)} : qb)].flatMap qs]),(2,.dat 2 (c.2.2.2.2.map qs))],3⟩) qc ?_ ?_
   ·refine qw O n (fun _ n=>?_) (fun _ n=>?_)
    ·refine Q9<|q0 O<|q7 _ O<|q7 _ O<|qf O<|Q8 ?_;obtain rfl:=qz n;exact ⟨_,O,wkA [(0,0),(1,1),(2,2)] [] []⟩
    refine qy<|Qg ?_;obtain rfl:=qz n;exact ⟨_,O,wkA [(0,0),(1,1),(2,2)] [] []⟩
   intro o hb;subst hb;refine qi<|Qh [Qi 0,q8,q8,qv 1,q8,q8,q8,qv 0,q8,q8,qv 1,q8,q8,q8,qv 0,q8] qn<|q7 _ O<|q7 _ O<|q0 O<|qa a fun ah ai a=>q64 ai O O O O O<|q7 _ O<|qm3 (enc:=qs) (qd ah.X) ai (fun _=>rfl) O O O O O O<|q7 _ O<|q7 _ O<|q7 _ O<|q0 O<|qa a fun aj ak a=>q64 ak O O O O O<|q7 _ O<|qm3 (enc:=qs) (qd aj.Y) ak (fun _=>rfl) O O O O O O<|q7 _ O<|q7 _ O<|K0 0 _ O<|qe<|qi<|qh<|q7 _ O<|qa a fun az ba a=>Qk (qf5 ({X:=w64 (c.2.2.1 + ah.X),Y:=w64 (c.2.2.2.1 + aj.Y)} : qb) az ba) O<|q7 _ O<|qe ?_;refine qw O a (fun _ a=>?_) (fun _ a=>?_)
   ·refine qh<|qf O<|qf O<|Qa ?_;refine ⟨_,qx a,fun hm=>?_⟩;subst hm;obtain rfl:=qz b;exact finD (.inr O) O O (Zw (.cons (.nil _) (.cons (.refl _) .nil)))
   refine qy<|Q9<|q0 O<|q7 _ O<|Qz _ _ O<|qa a fun bd bb a=>q11 _ bb O O O O O O O (q28 O O) O O O O<|qf O<|Q8<|Qp<|Q9<|q7 _ O<|q0 O<|Q8<|⟨_,qx a,wkA [(0,0),(1,1),(2,4)] [] []⟩
  refine Ql ?_;refine ⟨_,qx a,fun hm=>?_⟩;subst hm;exact ⟨_,O,wkA [(0,2)] [] []⟩
 intro l hb;subst hb;refine qh<|q0 O<|qf O<|qf O<|Qa ?_;obtain rfl:=qz b;exact finD (.inr O) O (qhh (Zi (Zc O O) (Zi O O))) (.refl _)
theorem q10n (b : List qb) (f : qb) (r : Int) (c : q95 b f = some r) : Pure Try.prog tab 41 [.sl 2 (b.map qs),.agg (qs f)] (qj r):=by
 unfold q95 at c;refine Ke Try.func41 O qn qn O<|qh<|Qz _ _ O<|qf O<|qe<|qi<|qh<|q0 O<|Kv O<|q0 O<|qe<|qa c fun h k c=>?_;refine K3 (fun g=>.inl g = h) (fun g=>⟨[],[],0⟩) qc ?_ ?_
 ·refine Qu (q2x b f) (fun j=>⟨[(0,.d (.sl 2 (b.map qs))),(3,.ref 0 2 0 0),(7,qd (b.length : Int)),(8,qd j)],[(0,.dat 2 [(qs f)])],1⟩) _ h k (wkA [(0,0)] [] []) ?_;intro j m a;unfold q2x at a;refine qh<|q7 _ O<|qe<|qi ?_;refine qw O a (fun _ a=>?_) (fun _ a=>?_)
  ·refine qy<|qi<|Qf<|qh<|q0 O<|qf O<|qe<|qi<|Qh [q8,q8,q8,q8,q8,qv 0] qn<|q7 _ O<|q0 O<|q0 O<|qa a fun n l a=>Kn l O<|q7 _ O<|q7 _ O<|qe ?_;refine qw O a (fun _ a=>?_) (fun _ a=>?_)
   ·refine qh<|q0 O<|qf O<|Qa ?_;refine ⟨_,qx a,fun hm=>?_⟩;subst hm;cases c;exact Qv _ O
   refine qy<|Qg<|Qp<|Q9<|q7 _ O<|q0 O<|Q8<|⟨_,qx a,wkA [(0,0)] [] []⟩
  refine Ql ?_;refine ⟨_,qx a,fun hm=>?_⟩;subst hm;exact ⟨_,O,wkA [] [] []⟩
 intro g hb;subst hb;refine qh<|qf O<|Qa ?_;cases c;exact Qv _ O
theorem q12i (k : List K5) (g : Ku) (t : List qt) (u : List (qb × Bool)) (r : Int × (List (qb × Bool)) × List qt) (l : q35  k g t u = some r) : K1 Try.prog tab 28 [.d (.sl 5 (k.map Kz)),.d (.agg [qj (((g).At).X),qj (((g).At).Y),.int .u8 ((g).Head),qj ((g).Steps)]),.hs 0 4 0 t.length,.mp 1] [(0,.dat 4 (t.map Y5)),(1,.mp false (Qt (fun n : qb=>DV.agg (qs n)) DV.bool u))] 2 (.tup [.hs 2 4 0 r.2.2.length,qd r.1]) [(1,.mp false (Qt (fun n : qb=>DV.agg (qs n)) DV.bool r.2.1)),(2,.dat 4 (r.2.2.map Y5))] 3:=by
 unfold q35 at l;refine Kj Try.func28 O qn qn O<|qh<|Qz _ _ O<|qf O<|qf O<|qe<|qi<|Qh [q8,Qi 3,(some [],[3]),qv 2,q8,qv 2,q8] qn<|q7 _ O<|q7 _ O<|q7 _ O<|q7 _ O<|K9 O O<|K0 3 _ O<|qf O<|qe<|qi<|qh<|q7 _ O<|q7 _ O<|q0 O<|qe<|qa l fun v aj l=>?_;refine K3 (fun m=>.inl m = v) (fun m=>⟨[(2,.hs 2 4 0 m.2.length)],[(1,.mp false (Qt (fun n : qb=>DV.agg (qs n)) DV.bool m.1)),(2,.dat 4 (m.2.map Y5))],3⟩) qc ?_ ?_
 ·refine Qu (Z4 g k) (fun f=>⟨[(0,.d (.sl 5 (k.map Kz))),(2,.hs 2 4 0 f.2.2.2.1.length),(3,.mp 1),(5,.ref 3 4 0 0),(10,.ref 4 2 0 0),(11,.d (.int .u8 f.1)),(23,.d (qj ((g).Steps))),(24,qd f.2.1)],[(1,.mp false (Qt (fun n : qb=>DV.agg (qs n)) DV.bool f.2.2.1)),(2,.dat 4 (f.2.2.2.1.map Y5)),(3,.dat 4 [[qj (((g).At).X),qj (((g).At).Y),.int .u8 ((g).Head),qj ((g).Steps)]]),(4,.dat 2 [[qj f.2.2.2.2.1,qj f.2.2.2.2.2]])],5⟩) _ v aj (wkA [(2,0),(3,2),(4,3)] [] []) ?_;intro f av c;unfold Z4 at c;refine qh<|q7 _ O<|qe<|qi ?_;refine qw O c (fun _ c=>?_) (fun _ c=>?_)
  ·refine qy<|qi<|Qf<|qh<|q0 O<|qf O<|Q1<|q0 O<|q7 _ O<|q0 O<|qa c fun ak al c=>Qk (qju k ({X:=f.2.2.2.2.1,Y:=f.2.2.2.2.2} : qb) f.1 1 ak al) O<|q0 O<|q7 _ O<|q7 _ O<|qf O<|qf O<|qe<|qi<|qh<|q0 O<|q7 _ O<|qe ?_;refine qw O c (fun _ c=>?_) (fun _ c=>?_)
   ·refine qh<|q0 O<|qf O<|qf O<|Qa ?_;refine ⟨_,qx c,fun hm=>?_⟩;subst hm;obtain rfl:=qz l;exact ⟨.inr O,_,O,wkA [] [] [2]⟩
   refine qy<|qh<|q0 O<|qa c fun j am c=>Kn am O<|q7 _ O<|K9 O O<|K0 5 _ O<|Q1<|q7 _ O<|q7 _ O<|q7 _ O<|q7 _ O<|Qz _ _ O<|q7 _ O<|q7 _ O<|q7 _ O<|q7 _ O<|q7 _ O<|q7 _ O<|q7 _ O<|q7 _ O<|q7 _ O<|q7 _ O<|q7 _ O<|qa c fun w an c=>q13 [.hs 6 2 0 [({X:=1,Y:=0} : qb),({X:=0,Y:=1} : qb),({X:=(-1),Y:=0} : qb),({X:=0,Y:=(-1)} : qb)].length,.d (.agg [qj (w64 (j.X - f.2.2.2.2.1)),qj (w64 (j.Y - f.2.2.2.2.2))])] (q10n [({X:=1,Y:=0} : qb),({X:=0,Y:=1} : qb),({X:=(-1),Y:=0} : qb),({X:=0,Y:=(-1)} : qb)] ({X:=w64 (j.X - f.2.2.2.2.1),Y:=w64 (j.Y - f.2.2.2.2.2)} : qb) w an) O O (Yi (Zc O O) (Yi O O)) (.inr O)<|q7 _ O<|qf O<|qe<|qi<|qh<|q0 O<|q7 _ O<|qa c fun ao o c=>?_;refine Qn 5 (fun A st=>∃ x y z aa,st = A [(64,Q7 ao),(63,aa),(62,z),(61,y),(60,x)]) ?_ ?_
   ·refine Qm O O o (fun o=>?_) (fun o=>?_)
    ·refine q0 O<|q0 O<|q7 _ O<|q7 _ O<|qe ?_;cases o;exact ⟨_,_,_,_,O⟩
    refine qg O<|qg O<|qg O<|q7 _ O<|qe ?_;cases o;exact ⟨_,_,_,_,O⟩
   rintro _ ⟨x,y,z,aa,rfl⟩;refine qe<|qa c fun ap h c=>?_;refine Y6 (fun q=>.inl q = ap) (fun q=>⟨[(0,.d (.sl 5 (k.map Kz))),(2,.hs 2 4 0 q.length),(3,.mp 1),(5,.ref 3 4 0 0),(10,.ref 4 2 0 0),(15,.ref 5 2 0 0),(16,.d (.int .u8 (IntKind.wrap .u8 w))),(23,.d (qj ((g).Steps))),(24,qd f.2.1)],[(1,.mp false (Qt (fun n : qb=>DV.agg (qs n)) DV.bool f.2.2.1)),(2,.dat 4 (q.map Y5)),(3,.dat 4 [[qj (((g).At).X),qj (((g).At).Y),.int .u8 ((g).Head),qj ((g).Steps)]]),(4,.dat 2 [[qj f.2.2.2.2.1,qj f.2.2.2.2.2]]),(5,.dat 2 [(qs j)])],6⟩) qc ?_ ?_
   ·refine qw O h (fun _ h=>?_) (fun _ h=>?_)
    ·refine Q9<|q0 O<|q0 O<|q7 _ O<|q7 _ O<|q7 _ O<|qa h fun aq ab h=>qp ab O O<|q7 _ O<|Qr ({A:=aq.A,B:=j} : qt) ab O O O O O O O O (leb O) O<|Q8 ?_;obtain rfl:=qz h;exact ⟨_,O,wkE [(2,2),(3,3),(4,4),(5,5)] [] [] O ⟨ql O,⟨_,O,Qx qc O Q0 (ltd O)⟩,⟨_,O,.mp O Q0 (ltd O)⟩,⟨_,O,.ref O Q0 (ltd O)⟩,⟨_,O,.ref O Q0 (ltd O)⟩,⟨_,O,.ref O Q0 (ltd O)⟩,ql O,ql O,ql O,trivial⟩ ⟨⟨ltd O,.inr ⟨Q0,_,O,.mpP (.refl _)⟩⟩,Qo O O,Qo O O,Qo O O,Qo O O,trivial⟩⟩
    refine qh<|q0 O<|q7 _ O<|q7 _ O<|q7 _ O<|Qz _ _ O<|qa h fun aw ar h=>q11 _ ar O O O O O O O (q28 O O) O O O O<|qf O<|Q1<|q0 O<|q7 _ O<|q7 _ O<|qe ?_;refine qw O h (fun _ h=>?_) (fun _ h=>?_)
    ·refine qh<|qf O<|qf O<|Qa ?_;obtain rfl:=qz h;refine ⟨_,qx c,fun hm=>?_⟩;subst hm;obtain rfl:=qz l;exact ⟨.inr O,_,O,wkA [] [] [2]⟩
    refine qy<|Qg ?_;obtain rfl:=qz h;exact ⟨_,O,wkA [(2,8),(3,3),(4,4),(5,5)] [] []⟩
   intro q hb;subst hb;refine qh<|q0 O<|q7 _ O<|qg9 (ek:=(fun n : qb=>DV.agg (qs n))) (ev:=DV.bool) (es:=f.2.2.1) (keyS (fun p : qb=>p.X) (fun p=>p.Y) (fun a b h1 h2=>by cases a;cases b;simp_all)) false j O O O O O O O<|qa c fun au s c=>?_;refine Qn 6 (fun A st=>∃ ae af ag ah ai,st = A [(89,Q7 au),(88,ai),(87,ah),(86,ag),(85,af),(84,ae)]) ?_ ?_
   ·refine Qm O O s (fun s=>?_) (fun s=>?_)
    ·refine qg O<|qg O<|qg O<|qg O<|q7 _ O<|qe ?_;cases s;exact ⟨_,_,_,_,_,O⟩
    refine q7 _ O<|q7 _ O<|q7 _ O<|q7 _ O<|q7 _ O<|qe ?_;cases s;exact ⟨_,_,_,_,_,O⟩
   rintro _ ⟨ae,af,ag,ah,ai,rfl⟩;refine qf O<|qe<|qi<|Qh [Qi 1,Qi 1,qv 5,q8,qv 4,q8] qn<|q0 O<|q7 _ O<|q0 O<|q7 _ O<|q3o (ek:=(fun n : qb=>DV.agg (qs n))) (ev:=DV.bool) (es:=f.2.2.1) (keyS (fun p : qb=>p.X) (fun p=>p.Y) (fun a b h1 h2=>by cases a;cases b;simp_all)) ({X:=f.2.2.2.2.1,Y:=f.2.2.2.2.2} : qb) true O O O O O O O O<|q3o (ek:=(fun n : qb=>DV.agg (qs n))) (ev:=DV.bool) (es:=(K8 ({X:=f.2.2.2.2.1,Y:=f.2.2.2.2.2} : qb) true f.2.2.1)) (keyS (fun p : qb=>p.X) (fun p=>p.Y) (fun a b h1 h2=>by cases a;cases b;simp_all)) j true O O O O O O O O<|Q1<|q7 _ O<|q0 O<|K0 4 _ O<|qf O<|Q1<|q0 O<|qe ?_;refine qw O c (fun _ c=>?_) (fun _ c=>?_)
   ·refine Ql ?_;refine ⟨_,qx c,fun hm=>?_⟩;subst hm;exact ⟨_,O,wkA [(2,2)] [] []⟩
   refine qy<|Qg<|Qp<|Q9<|q7 _ O<|q0 O<|Q8<|⟨_,qx c,wkA [(2,2),(3,3),(4,4)] [] []⟩
  refine Ql ?_;refine ⟨_,qx c,fun hm=>?_⟩;subst hm;exact ⟨_,O,wkA [(2,2)] [] []⟩
 intro m hb;subst hb;refine qh<|q0 O<|qf O<|qf O<|Qa ?_;obtain rfl:=qz l;exact ⟨.inr O,_,O,wkA [(2,2)] [] []⟩
theorem qha (k : List K5) (h : List Ku) (r : Qq × Int) (b : q19 k h = some r) : Pure Try.prog tab 12 [.sl 5 (k.map Kz),.sl 4 (h.map Zx)] (.tup [.agg [.sl 2 (r.1.Nodes.map qs),.sl 2 (r.1.Edges.map Q5)],qj r.2]):=by
 unfold q19 at b;refine Ke Try.func12 O qn qn O<|qh<|K9 O O<|qf O<|qe<|qi<|qh<|q0 O<|qa b fun u h2 b=>Qk (qjt k u h2) O<|qf O<|Q1<|q0 O<|q7 (Q7 (u != 0)) O<|qe ?_;refine qw O b (fun _ b=>?_) (fun _ b=>?_)
 ·refine qh<|q7 (.d (.agg [.nilsl,.nilsl])) O<|q0 O<|K0 0 (.dat 2 [[.nilsl,.nilsl]]) O<|qf O<|Qa ?_;obtain rfl:=qz b;exact finD (.inr O) (v:=.d (.tup [.agg [.nilsl,.nilsl],qj u])) O O (Zw (.cons (q3c (.cons (.nil _) (.cons (.nil _) .nil))) (.cons (.refl _) .nil)))
 refine qy<|qi<|qh<|q0 O<|Kv O<|q7 (.d (.bool (decide ((h.length : Int) > 30)))) O<|qe ?_;refine qw O b (fun _ b=>?_) (fun _ b=>?_)
 ·refine qh<|q7 (.d (.agg [.nilsl,.nilsl])) O<|K0 0 (.dat 2 [[.nilsl,.nilsl]]) O<|qf O<|Qa ?_;obtain rfl:=qz b;exact finD (.inr O) (v:=.d (.tup [.agg [.nilsl,.nilsl],qj 4])) O O (Zw (.cons (q3c (.cons (.nil _) (.cons (.nil _) .nil))) (.cons (.refl _) .nil)))
 refine qy<|qi<|qh<|q0 O<|Kv O<|q0 O<|qe<|qa b fun x an b=>?_;refine K3 (fun w=>.inl w = x) (fun (w : Unit)=>⟨[(0,.d (.sl 5 (k.map Kz))),(1,.d (.sl 4 (h.map Zx))),(4,.ref 0 2 0 0)],[(0,.dat 2 [[.nilsl,.nilsl]])],1⟩) qc ?_ ?_
 ·refine Qu (q31 h) (fun (t : Int)=>⟨[(0,.d (.sl 5 (k.map Kz))),(1,.d (.sl 4 (h.map Zx))),(4,.ref 0 2 0 0),(24,.d (.sl 4 (h.map Zx))),(25,qd (h.length : Int)),(26,qd t)],[(0,.dat 2 [[.nilsl,.nilsl]])],1⟩) 0 x an (wkA [(0,0)] [] []) ?_;intro t az c;unfold q31 at c;refine qh<|q7 (.d (.bool (decide (t < (h.length : Int))))) O<|qe<|qi ?_;refine qw O c (fun _ c=>?_) (fun _ c=>?_)
  ·refine qy<|qi<|Qf<|qh<|qa c fun f ao c=>Kn (enc:=Zx) ao O<|q7 (.d (.agg [qj f.At.X,qj f.At.Y,.int .u8 f.Head,qj f.Steps])) O<|K9 O O<|K0 1 (.dat 4 [[qj f.At.X,qj f.At.Y,.int .u8 f.Head,qj f.Steps]]) O<|Q1<|q7 (.ref 1 4 0 0) O<|q7 (.d (.agg [qj f.At.X,qj f.At.Y])) O<|qa c fun y ap c=>Qk (qhb f.At y ap) O<|q7 (Q7 (!y)) O<|qa c fun aq p c=>?_;refine Qn 5 (fun A st=>∃ (z aa ab ac : V),st = A [(38,Q7 aq),(37,ac),(36,ab),(35,aa),(34,z)]) ?_ ?_
   ·refine Qm O O p (fun p=>?_) (fun p=>?_)
    ·refine qg O<|qg O<|qg O<|q7 (Q7 true) O<|qe ?_;cases p;exact ⟨_,_,_,_,O⟩
    refine q7 (.ref 1 4 0 2) O<|q7 (.d (.int .u8 f.Head)) O<|q7 (.d (.bool (decide (f.Head > 3)))) O<|q7 (.d (.bool (decide (f.Head > 3)))) O<|qe ?_;cases p;exact ⟨_,_,_,_,O⟩
   rintro _ ⟨z,aa,ab,ac,rfl⟩;refine qa c fun ar q c=>?_;refine Qn 5 (fun A st=>∃ (ad ae af ag : V),st = A [(43,Q7 ar),(42,ag),(41,af),(40,ae),(39,ad)]) ?_ ?_
   ·refine Qm O O q (fun q=>?_) (fun q=>?_)
    ·refine qg O<|qg O<|qg O<|q7 (Q7 true) O<|qe ?_;cases q;exact ⟨_,_,_,_,O⟩
    refine q7 (.ref 1 4 0 3) O<|q7 (qd f.Steps) O<|q7 (.d (.bool (decide (f.Steps < 0)))) O<|q7 (.d (.bool (decide (f.Steps < 0)))) O<|qe ?_;cases q;exact ⟨_,_,_,_,O⟩
   rintro _ ⟨ad,ae,af,ag,rfl⟩;refine qa c fun au s c=>?_;refine Qn 5 (fun A st=>∃ (ah ai aj ak : V),st = A [(48,Q7 au),(47,ak),(46,aj),(45,ai),(44,ah)]) ?_ ?_
   ·refine Qm O O s (fun s=>?_) (fun s=>?_)
    ·refine qg O<|qg O<|qg O<|q7 (Q7 true) O<|qe ?_;cases s;exact ⟨_,_,_,_,O⟩
    refine q7 (.ref 1 4 0 3) O<|q7 (qd f.Steps) O<|q7 (.d (.bool (decide (f.Steps > 500)))) O<|q7 (.d (.bool (decide (f.Steps > 500)))) O<|qe ?_;cases s;exact ⟨_,_,_,_,O⟩
   rintro _ ⟨ah,ai,aj,ak,rfl⟩;refine qe ?_;refine qw O c (fun _ c=>?_) (fun _ c=>?_)
   ·refine qh<|q7 (.d (.agg [.nilsl,.nilsl])) O<|K0 0 (.dat 2 [[.nilsl,.nilsl]]) O<|qf O<|Qa ?_;refine ⟨_,qx c,fun hm=>?_⟩;subst hm;obtain rfl:=qz b;exact finD (.inr O) (v:=.d (.tup [.agg [.nilsl,.nilsl],qj 8])) O O (Zw (.cons (q3c (.cons (.nil _) (.cons (.nil _) .nil))) (.cons (.refl _) .nil)))
   refine qy<|Qg<|Qp<|Q9<|q7 (.d (qj (w64 (t + 1)))) O<|q0 O<|Q8<|⟨_,qx c,wkA [(0,0)] [] []⟩
  refine Ql ?_;refine ⟨_,qx c,fun hm=>?_⟩;subst hm;exact ⟨_,O,wkA [(0,0)] [] []⟩
 intro w hb;subst hb;refine qh<|qf O<|Q1<|Qz (.mp 1) (.mp true (Qt (fun n : qb=>DV.agg [qj n.X,qj n.Y]) DV.bool ([] : List (qb × Bool)))) O<|qf O<|qe<|qi<|qh<|q0 O<|Kv O<|q0 O<|qe<|qa b fun al av b=>?_;refine K3 (fun o=>.inl o = al) (fun (o : List qt)=>⟨[(4,.ref 0 2 0 0),(9,.hs 1 4 0 o.length)],[(0,.dat 2 [[.nilsl,.nilsl]]),(1,.dat 4 (o.map Y5))],2⟩) qc ?_ ?_
 ·refine Qu (Jl h k) (fun (j : Int × List qt × (List (qb × Bool)))=>⟨[(0,.d (.sl 5 (k.map Kz))),(4,.ref 0 2 0 0),(9,.hs 1 4 0 j.2.1.length),(10,.mp 2),(52,.d (.sl 4 (h.map Zx))),(53,qd (h.length : Int)),(54,qd j.1)],[(0,.dat 2 [[.nilsl,.nilsl]]),(1,.dat 4 (j.2.1.map Y5)),(2,.mp false (Qt (fun n : qb=>DV.agg [qj n.X,qj n.Y]) DV.bool j.2.2))],3⟩) (0,[],[]) al av (wkA [(0,0),(2,1)] [] [1]) ?_;intro j ba g;unfold Jl at g;refine qh<|q7 (.d (.bool (decide (j.1 < (h.length : Int))))) O<|qe<|qi ?_;refine qw O g (fun _ g=>?_) (fun _ g=>?_)
  ·refine qy<|qi<|Qf<|qh<|qa g fun a aw g=>Kn (enc:=Zx) aw O<|q7 (.d (.agg [qj a.At.X,qj a.At.Y,.int .u8 a.Head,qj a.Steps])) O<|K9 O O<|K0 3 (.dat 4 [[qj a.At.X,qj a.At.Y,.int .u8 a.Head,qj a.Steps]]) O<|Q1<|qf O<|Q1<|q0 O<|q7 (.d (.agg [qj a.At.X,qj a.At.Y,.int .u8 a.Head,qj a.Steps])) O<|q0 O<|q0 O<|qa g fun l ax g=>K2 [(0,1),(1,2)] [(0,3),(1,0),(2,1),(3,3),(4,2)] [.d (.sl 5 (k.map Kz)),.d (.agg [qj a.At.X,qj a.At.Y,.int .u8 a.Head,qj a.Steps]),.hs 1 4 0 j.2.1.length,.mp 2] (.tup [.hs 4 4 0 l.2.2.length,qd l.1]) 2 [(2,.mp false (Qt (fun n : qb=>DV.agg [qj n.X,qj n.Y]) DV.bool l.2.1)),(4,.dat 4 (l.2.2.map Y5)),(0,.dat 2 [[.nilsl,.nilsl]]),(3,.dat 4 [[qj a.At.X,qj a.At.Y,.int .u8 a.Head,qj a.Steps]])] 5 (q12i k a j.2.1 j.2.2 l ax)<|q0 O<|q7 (.hs 4 4 0 l.2.2.length) O<|q7 (qd l.1) O<|qf O<|qf O<|Q1<|q0 O<|q7 (Q7 (l.1 != 0)) O<|qe ?_;refine qw O g (fun _ g=>?_) (fun _ g=>?_)
   ·refine qh<|q7 (.d (.agg [.nilsl,.nilsl])) O<|q0 O<|K0 0 (.dat 2 [[.nilsl,.nilsl]]) O<|qf O<|Qa ?_;refine ⟨_,qx g,fun hm=>?_⟩;subst hm;obtain rfl:=qz b;exact finD (.inr O) (v:=.d (.tup [.agg [.nilsl,.nilsl],qj l.1])) O O (Zw (.cons (q3c (.cons (.nil _) (.cons (.nil _) .nil))) (.cons (.refl _) .nil)))
   refine qy<|Qg<|Qp<|Q9<|q7 (.d (qj (w64 (j.1 + 1)))) O<|q0 O<|Q8<|⟨_,qx g,wkA [(0,0),(1,4),(2,2)] [] []⟩
  refine Ql ?_;refine ⟨_,qx g,fun hm=>?_⟩;subst hm;exact ⟨_,O,wkA [(0,0),(1,1)] [] []⟩
 intro o hb;subst hb;refine qi ?_;refine Zs (st':=⟨[(4,.ref 0 2 0 0),(9,.d (.sl 4 (o.map Y5)))],[(0,.dat 2 [[.nilsl,.nilsl]])],1⟩) (wkA [(0,0)] [1] []) ?_ qc;refine Q9<|q0 O<|qa b fun m ay b=>Qk (qdp o m ay) O<|q7 (.d (.agg [.sl 2 (m.1.Nodes.map qs),.sl 2 (m.1.Edges.map Q5)])) O<|q7 (qd m.2) O<|K0 0 (.dat 2 [[.sl 2 (m.1.Nodes.map qs),.sl 2 (m.1.Edges.map Q5)]]) O<|qf O<|Qa ?_;obtain rfl:=qz b;exact Qv (.d (.tup [.agg [.sl 2 (m.1.Nodes.map qs),.sl 2 (m.1.Edges.map Q5)],qj m.2])) O
theorem qdc (d : Qq) (f : Qq) (r : Bool) (a : q2u d f = some r) : Pure Try.prog tab 7 [.agg [.sl 2 (d.Nodes.map qs),.sl 2 (d.Edges.map Q5)],.agg [.sl 2 (f.Nodes.map qs),.sl 2 (f.Edges.map Q5)]] (.bool r):=by
 unfold q2u at a;refine Ke Try.func7 O qn qn O<|qh<|Qz _ _ O<|Qz _ _ O<|qf O<|qe<|qi<|qh<|q7 _ O<|q7 _ O<|Kv O<|q7 _ O<|q7 _ O<|Kv O<|q7 _ O<|qa a fun x g a=>?_;refine Qn 9 (fun A st=>∃ k l m n o p q s,st = A [(22,Q7 x),(21,s),(20,q),(19,p),(18,o),(17,n),(16,m),(15,l),(14,k)]) ?_ ?_
 ·refine Qm O O g (fun g=>?_) (fun g=>?_)
  ·refine qg O<|qg O<|qg O<|qg O<|qg O<|qg O<|qg O<|q7 _ O<|qe ?_;cases g;exact ⟨_,_,_,_,_,_,_,_,O⟩
  refine q7 _ O<|q7 _ O<|Kv O<|q7 _ O<|q7 _ O<|Kv O<|q7 _ O<|q7 _ O<|qe ?_;cases g;exact ⟨_,_,_,_,_,_,_,_,O⟩
 rintro _ ⟨k,l,m,n,o,p,q,s,rfl⟩;refine qe ?_;refine qw O a (fun _ a=>?_) (fun _ a=>?_)
 ·refine qh<|qf O<|Qa ?_;cases a;exact Qv _ O
 refine qy<|qi<|qh<|qf O<|qe<|qa a fun t y a=>?_;refine K3 (fun h=>.inl h = t) (fun h=>⟨[(2,.ref 0 2 0 0),(3,.ref 1 2 0 0)],[(0,.dat 2 [[.sl 2 (d.Nodes.map qs),.sl 2 (d.Edges.map Q5)]]),(1,.dat 2 [[.sl 2 (f.Nodes.map qs),.sl 2 (f.Edges.map Q5)]])],2⟩) qc ?_ ?_
 ·refine Qu (q6a d f) (fun u=>⟨[(2,.ref 0 2 0 0),(3,.ref 1 2 0 0),(5,qd u)],[(0,.dat 2 [[.sl 2 (d.Nodes.map qs),.sl 2 (d.Edges.map Q5)]]),(1,.dat 2 [[.sl 2 (f.Nodes.map qs),.sl 2 (f.Edges.map Q5)]])],2⟩) _ t y (wkA [(0,0),(1,1)] [] []) ?_;intro u ae b;unfold q6a at b;refine qi<|qh<|q0 O<|q7 _ O<|q7 _ O<|Kv O<|q7 _ O<|qe ?_;refine qw O b (fun _ b=>?_) (fun _ b=>?_)
  ·refine qy<|qi<|Qf<|qi<|Qh [q8,q8,q8,q8,qv 1,q8,q8,q8,q8,qv 0,q8] qn<|q7 _ O<|q7 _ O<|q0 O<|qa b fun af z b=>Kn z O<|q7 _ O<|q7 _ O<|q7 _ O<|q0 O<|qa b fun ag aa b=>Kn aa O<|q7 _ O<|q7 _ O<|qe ?_;refine qw O b (fun _ b=>?_) (fun _ b=>?_)
   ·refine qh<|qf O<|Qa ?_;refine ⟨_,qx b,fun hm=>?_⟩;subst hm;cases a;exact Qv _ O
   refine qy<|Qg<|Qp<|Q9<|q0 O<|q7 _ O<|qf O<|Q8<|⟨_,qx b,wkA [(0,0),(1,1)] [] []⟩
  refine Ql ?_;refine ⟨_,qx b,fun hm=>?_⟩;subst hm;exact ⟨_,O,wkA [(0,0),(1,1)] [] []⟩
 intro h hb;subst hb;refine qi<|qh<|qf O<|qe<|qa a fun v ab a=>?_;refine K3 (fun j=>.inl j = v) (fun j=>⟨[],[],0⟩) qc ?_ ?_
 ·refine Qu (q6b d f) (fun w=>⟨[(2,.ref 0 2 0 0),(3,.ref 1 2 0 0),(6,qd w)],[(0,.dat 2 [[.sl 2 (d.Nodes.map qs),.sl 2 (d.Edges.map Q5)]]),(1,.dat 2 [[.sl 2 (f.Nodes.map qs),.sl 2 (f.Edges.map Q5)]])],2⟩) _ v ab (wkA [(0,0),(1,1)] [] []) ?_;intro w ah c;unfold q6b at c;refine qi<|qh<|q0 O<|q7 _ O<|q7 _ O<|Kv O<|q7 _ O<|qe ?_;refine qw O c (fun _ c=>?_) (fun _ c=>?_)
  ·refine qy<|qi<|Qf<|qi<|Qh [q8,q8,q8,q8,qv 1,q8,q8,q8,q8,qv 0,q8] qn<|q7 _ O<|q7 _ O<|q0 O<|qa c fun ai ac c=>Kn ac O<|q7 _ O<|q7 _ O<|q7 _ O<|q0 O<|qa c fun aj ad c=>Kn ad O<|q7 _ O<|q7 _ O<|qe ?_;refine qw O c (fun _ c=>?_) (fun _ c=>?_)
   ·refine qh<|qf O<|Qa ?_;refine ⟨_,qx c,fun hm=>?_⟩;subst hm;cases a;exact Qv _ O
   refine qy<|Qg<|Qp<|Q9<|q0 O<|q7 _ O<|qf O<|Q8<|⟨_,qx c,wkA [(0,0),(1,1)] [] []⟩
  refine Ql ?_;refine ⟨_,qx c,fun hm=>?_⟩;subst hm;exact ⟨_,O,wkA [] [] []⟩
 intro j hb;subst hb;refine qh<|qf O<|Qa ?_;cases a;exact Qv _ O
theorem qku (d : Qq) (f : List qt) (r : Bool) (a : q5p d f = some r) : Pure Try.prog tab 23 [.agg [.sl 2 (d.Nodes.map qs),.sl 2 (d.Edges.map Q5)],.sl 4 (f.map Y5)] (.bool r):=by
 unfold q5p at a;refine Ke Try.func23 O qn qn O<|qh<|Qz _ _ O<|qf O<|Q1<|q0 O<|qa a fun g q a=>Qk (qdp f g q) O<|q0 O<|q7 _ O<|q7 _ O<|K9 O O<|K0 1 _ O<|qf O<|Q1<|q0 O<|q7 _ O<|qa a fun s b a=>?_;refine Qn 5 (fun A st=>∃ h j k l,st = A [(18,Q7 s),(17,l),(16,k),(15,j),(14,h)]) ?_ ?_
 ·refine Qm O O b (fun b=>?_) (fun b=>?_)
  ·refine q7 _ O<|q7 _ O<|qa b fun t u b=>Qk (qdc g.1 d t u) O<|q7 _ O<|qe ?_;cases b;exact ⟨_,_,_,_,O⟩
  refine qg O<|qg O<|qg O<|q7 _ O<|qe ?_;cases b;exact ⟨_,_,_,_,O⟩
 rintro _ ⟨h,j,k,l,rfl⟩;refine qa a fun v c a=>?_;refine Qn 5 (fun A st=>∃ m n o p,st = A [(23,Q7 v),(22,p),(21,o),(20,n),(19,m)]) ?_ ?_
 ·refine Qm O O c (fun c=>?_) (fun c=>?_)
  ·refine q7 _ O<|qa c fun w x c=>Qk (qoa d w x) O<|q7 _ O<|q7 _ O<|qe ?_;cases c;exact ⟨_,_,_,_,O⟩
  refine qg O<|qg O<|qg O<|q7 _ O<|qe ?_;cases c;exact ⟨_,_,_,_,O⟩
 rintro _ ⟨m,n,o,p,rfl⟩;refine qf O<|Qa ?_;cases a;exact Qv _ O
theorem qfn (r : Bool) (a : q4k = some r) : Pure Try.prog tab 10 [] (.bool r):=by
 unfold q4k at a;refine Ke Try.func10 O qn qn O<|qh<|qf O<|Q1<|qa a fun bv c a=>?_;refine q8j [] (fun j=>j = bv) (fun j=>⟨[(15,.agg [.hs 0 2 0 j.length,.hs 1 2 0 [({A:=0,B:=1} : qk),({A:=1,B:=2} : qk),({A:=1,B:=3} : qk)].length])],[(0,.dat 2 (j.map qs)),(1,.dat 2 ([({A:=0,B:=1} : qk),({A:=1,B:=2} : qk),({A:=1,B:=3} : qk)].map Q5))],2⟩) O O Try.func18 O qn qn O ?_ ?_
 ·refine qh<|K9 O O<|Q1<|qa c fun bw bx c=>Qk (Yg 0 0 bw bx) O<|qa c fun bz ca c=>Qk (Yg 2 0 bz ca) O<|qa c fun cb cc c=>Qk (Yg 2 3 cb cc) O<|qa c fun cd ce c=>Qk (Yg 4 0 cd ce) O<|Qz _ _ O<|q7 _ O<|q7 _ O<|q7 _ O<|Qz _ _ O<|q7 _ O<|K0 0 _ O<|Qa ?_;refine ⟨.inr O,_,O,?_⟩;obtain rfl:=qz c;exact ⟨_,O,wkA [(0,1),(1,2)] [] []⟩
 intro j hb;subst hb;refine qa a fun k cf a=>q13 [.agg [.hs 0 2 0 j.length,.hs 1 2 0 [({A:=0,B:=1} : qk),({A:=1,B:=2} : qk),({A:=1,B:=3} : qk)].length],qd 1] (qob ({Nodes:=j,Edges:=[({A:=0,B:=1} : qk),({A:=1,B:=2} : qk),({A:=1,B:=3} : qk)]} : Qq) 1 k cf) O O (Yi (q7i (Zi (Zc O O) (Zi (Zc O O) O))) (Yi O O)) (.inr O)<|q0 O<|q7 _ O<|q7 _ O<|qf O<|qf O<|Q1<|qa a fun cg f a=>?_;refine q8j [] (fun l=>l = cg) (fun l=>⟨[(1,qd k.1),(2,qd k.2),(20,.agg [.hs 0 2 0 l.length,.hs 1 2 0 [({A:=0,B:=1} : qk),({A:=1,B:=2} : qk),({A:=1,B:=3} : qk)].length])],[(0,.dat 2 (l.map qs)),(1,.dat 2 ([({A:=0,B:=1} : qk),({A:=1,B:=2} : qk),({A:=1,B:=3} : qk)].map Q5))],2⟩) O O Try.func18 O qn qn O ?_ ?_
 ·refine qh<|K9 O O<|Q1<|qa f fun ch ci f=>Qk (Yg 0 0 ch ci) O<|qa f fun cj ck f=>Qk (Yg 2 0 cj ck) O<|qa f fun cl cm f=>Qk (Yg 2 3 cl cm) O<|qa f fun cn co f=>Qk (Yg 4 0 cn co) O<|Qz _ _ O<|q7 _ O<|q7 _ O<|q7 _ O<|Qz _ _ O<|q7 _ O<|K0 2 _ O<|Qa ?_;refine ⟨.inr O,_,O,?_⟩;obtain rfl:=qz f;exact ⟨_,O,wkA [(0,3),(1,4)] [] []⟩
 intro l hb;subst hb;refine qa a fun v cp a=>q13 [.agg [.hs 0 2 0 l.length,.hs 1 2 0 [({A:=0,B:=1} : qk),({A:=1,B:=2} : qk),({A:=1,B:=3} : qk)].length]] (q12d ({Nodes:=l,Edges:=[({A:=0,B:=1} : qk),({A:=1,B:=2} : qk),({A:=1,B:=3} : qk)]} : Qq) v cp) O O (Yi (q7i (Zi (Zc O O) (Zi (Zc O O) O))) O) (.inr O)<|q0 O<|q7 _ O<|q7 _ O<|qf O<|qf O<|Q1<|qa a fun ah cq a=>Qk (q4l 0 0 4 0 ah cq) O<|qa a fun ai cr a=>Qk (q4l 2 3 2 0 ai cr) O<|qa a fun aj cs a=>Qk (q4l 2 (-1) 2 0 aj cs) O<|qd4 (es:=4) ([ah,ai,aj].map Y5) O O O O O<|qa a fun w ct a=>Qk (qdp [ah,ai,aj] w ct) O<|q0 O<|q7 _ O<|q7 _ O<|K9 O O<|K0 3 _ O<|qf O<|qe<|qi<|Qh [q8,q8,q8,qv 3,q8] qn<|q7 _ O<|q7 _ O<|qa a fun ap cu a=>Qk (Yg 2 0 ap cu) O<|qa a fun aq cv a=>Qk (qyi w.1.Nodes ap aq cv) O<|qf O<|Q1<|q7 _ O<|q0 O<|qa a fun x cw a=>Qk (qob w.1 aq x cw) O<|q0 O<|q7 _ O ?_;refine q7 _ O<|qf O<|qf O<|Q1<|qa a fun m cx a=>Qk (Yg 0 0 m cx) O<|qa a fun n cy a=>Qk (Yg 4 0 n cy) O<|Qz _ _ O<|q7 _ O<|Qz _ _ O<|q7 _ O<|K9 O O<|K0 6 _ O<|Q1<|q7 _ O<|qa a fun ak cz a=>Qk (Yg 2 2 ak cz) O<|q7 _ O<|qd4 (es:=4) ([({At:=({X:=0,Y:=0} : qb),Head:=0,Steps:=4} : Ku),({At:=ak,Head:=3,Steps:=9} : Ku)].map Zx) O O O O O<|qa a fun b da a=>Qk (qmv (.cons (.nil _) (.cons (.refl _) .nil)) (qha [] [({At:=({X:=0,Y:=0} : qb),Head:=0,Steps:=4} : Ku),({At:=ak,Head:=3,Steps:=9} : Ku)] b da)) O<|q0 O<|q7 _ O<|q7 _ O<|K9 O O<|K0 8 _ O<|qf O<|Q1<|qa a fun o dc a=>Qk (Yg 0 0 o dc) O<|qa a fun p dd a=>Qk (Yg 2 0 p dd) O<|qa a fun q de a=>Qk (Yg 2 2 q de) O<|qa a fun s df a=>Qk (Yg 4 0 s df) O<|Qz _ _ O<|qa a fun dg g a=>?_;refine q8j [] (fun y=>y = dg) (fun y=>⟨[(1,qd k.1),(2,qd k.2),(3,qd v.1),(4,qd v.2),(6,qd w.2),(8,qd x.1),(9,qd x.2),(10,.ref 0 2 0 0),(11,.ref 1 2 0 0),(12,qd b.2),(60,.hs 2 2 0 [o,p,q,s].length),(61,.agg [.hs 3 2 0 y.length,.hs 4 2 0 [({A:=0,B:=1} : qk),({A:=1,B:=2} : qk),({A:=1,B:=3} : qk)].length])],[(0,.cel 2 [[.hs 5 2 0 [m,n].length,.hs 6 2 0 [({A:=0,B:=1} : qk)].length]]),(1,.dat 2 [[.sl 2 (b.1.Nodes.map qs),.sl 2 (b.1.Edges.map Q5)]]),(2,.dat 2 ([o,p,q,s].map qs)),(3,.dat 2 (y.map qs)),(4,.dat 2 ([({A:=0,B:=1} : qk),({A:=1,B:=2} : qk),({A:=1,B:=3} : qk)].map Q5)),(5,.dat 2 ([m,n].map qs)),(6,.dat 2 ([({A:=0,B:=1} : qk)].map Q5))],7⟩) O O Try.func18 O qn qn O ?_ ?_
 ·refine qh<|K9 O O<|Q1<|qa g fun dh dj g=>Qk (Yg 0 0 dh dj) O<|qa g fun dk dl g=>Qk (Yg 2 0 dk dl) O<|qa g fun dm dn g=>Qk (Yg 2 3 dm dn) O<|qa g fun dp dq g=>Qk (Yg 4 0 dp dq) O<|Qz _ _ O<|q7 _ O<|q7 _ O<|q7 _ O<|Qz _ _ O<|q7 _ O<|K0 10 _ O<|Qa ?_;refine ⟨.inr O,_,O,?_⟩;obtain rfl:=qz g;exact ⟨_,O,wkA [(0,6),(1,8),(2,9),(3,11),(4,12),(5,4),(6,5)] [] []⟩
 intro y hb;subst hb;refine q7 _ O<|q7 _ O<|K9 O O<|K0 7 _ O<|qe<|qi<|Qh [q8,q8,(none,[]),qv 2,qv 1,q8,q8,q8,q8,q8,q8,(none,[]),(some [],[10]),q8,q8,qv 0,q8,q8,q8,q8,q8,q8,q8,q8,q8,q8,q8,q8,q8,q8,q8,q8,q8,q8,q8,q8,q8,q8,q8,q8,q8,q8,q8,q8,q8,(none,[]),(some [],[9]),q8,q8,(none,[0])] qn<|qvi O<|qa a fun dr h a=>?_;refine q8j [] (fun t=>t = dr) (fun t=>⟨[(1,qd k.1),(2,qd k.2),(3,qd v.1),(4,qd v.2),(6,qd w.2),(8,qd x.1),(9,qd x.2),(10,.ref 0 2 0 0),(11,.ref 1 2 0 0),(12,qd b.2),(13,.ref 2 2 0 0),(64,.agg [.hs 3 2 0 t.length,.hs 4 2 0 [({A:=0,B:=1} : qk),({A:=1,B:=2} : qk),({A:=1,B:=3} : qk)].length])],[(0,.cel 2 [[.hs 5 2 0 [m,n].length,.hs 6 2 0 [({A:=0,B:=1} : qk)].length]]),(1,.dat 2 [[.sl 2 (b.1.Nodes.map qs),.sl 2 (b.1.Edges.map Q5)]]),(2,.cel 2 [[.hs 7 2 0 [o,p,q,s].length,.hs 8 2 0 [({A:=0,B:=1} : qk),({A:=1,B:=2} : qk),({A:=1,B:=3} : qk)].length]]),(3,.dat 2 (t.map qs)),(4,.dat 2 ([({A:=0,B:=1} : qk),({A:=1,B:=2} : qk),({A:=1,B:=3} : qk)].map Q5)),(5,.dat 2 ([m,n].map qs)),(6,.dat 2 ([({A:=0,B:=1} : qk)].map Q5)),(7,.dat 2 ([o,p,q,s].map qs)),(8,.dat 2 ([({A:=0,B:=1} : qk),({A:=1,B:=2} : qk),({A:=1,B:=3} : qk)].map Q5))],9⟩) O O Try.func18 O qn qn O ?_ ?_
 ·refine qh<|K9 O O<|Q1<|qa h fun ds dt h=>Qk (Yg 0 0 ds dt) O<|qa h fun du dv h=>Qk (Yg 2 0 du dv) O<|qa h fun dw dx h=>Qk (Yg 2 3 dw dx) O<|qa h fun dy dz h=>Qk (Yg 4 0 dy dz) O<|Qz _ _ O<|q7 _ O<|q7 _ O<|q7 _ O<|Qz _ _ O<|q7 _ O<|K0 8 _ O<|Qa ?_;refine ⟨.inr O,_,O,?_⟩;obtain rfl:=qz h;exact ⟨_,O,wkA [(0,0),(1,1),(2,7),(3,9),(4,10),(5,5),(6,6),(7,2),(8,4)] [] []⟩
 intro t hb;subst hb;refine qe<|qa a fun al fa a=>Qk (q4l 0 0 4 0 al fa) O<|qa a fun am fb a=>Qk (q4l 2 0 2 3 am fb) O<|Qz _ _ O<|qa a fun fc fd a=>q13 [.agg [.hs 3 2 0 t.length,.hs 4 2 0 [({A:=0,B:=1} : qk),({A:=1,B:=2} : qk),({A:=1,B:=3} : qk)].length],.hs 9 4 0 [al,am].length] (qku ({Nodes:=t,Edges:=[({A:=0,B:=1} : qk),({A:=1,B:=2} : qk),({A:=1,B:=3} : qk)]} : Qq) [al,am] fc fd) O O (Yi (q7i (Zi (Zc O O) (Zi (Zc O O) O))) (Yi (Zc O O) O)) (.inr O)<|qa a fun fe z a=>?_;refine Qn 4 (fun A st=>∃ ar au av,st = A [(72,Q7 fe),(71,av),(70,au),(69,ar)]) ?_ ?_
 ·refine Qm O O z (fun z=>?_) (fun z=>?_)
  ·refine q0 O<|q7 _ O<|q7 _ O<|qe ?_;cases z;exact ⟨_,_,_,O⟩
  refine qg O<|qg O<|q7 _ O<|qe ?_;cases z;exact ⟨_,_,_,O⟩
 rintro _ ⟨ar,au,av,rfl⟩;refine qa a fun ff aa a=>?_;refine Qn 4 (fun A st=>∃ aw ax ay,st = A [(76,Q7 ff),(75,ay),(74,ax),(73,aw)]) ?_ ?_
 ·refine Qm O O aa (fun aa=>?_) (fun aa=>?_)
  ·refine q0 O<|q7 _ O<|q7 _ O<|qe ?_;cases aa;exact ⟨_,_,_,O⟩
  refine qg O<|qg O<|q7 _ O<|qe ?_;cases aa;exact ⟨_,_,_,O⟩
 rintro _ ⟨aw,ax,ay,rfl⟩;refine qa a fun fg ab a=>?_;refine Qn 4 (fun A st=>∃ az ba bb,st = A [(80,Q7 fg),(79,bb),(78,ba),(77,az)]) ?_ ?_
 ·refine Qm O O ab (fun ab=>?_) (fun ab=>?_)
  ·refine q0 O<|q7 _ O<|q7 _ O<|qe ?_;cases ab;exact ⟨_,_,_,O⟩
  refine qg O<|qg O<|q7 _ O<|qe ?_;cases ab;exact ⟨_,_,_,O⟩
 rintro _ ⟨az,ba,bb,rfl⟩;refine qa a fun fh ac a=>?_;refine Qn 4 (fun A st=>∃ bc bd be,st = A [(84,Q7 fh),(83,be),(82,bd),(81,bc)]) ?_ ?_
 ·refine Qm O O ac (fun ac=>?_) (fun ac=>?_)
  ·refine q0 O<|q7 _ O<|q7 _ O<|qe ?_;cases ac;exact ⟨_,_,_,O⟩
  refine qg O<|qg O<|q7 _ O<|qe ?_;cases ac;exact ⟨_,_,_,O⟩
 rintro _ ⟨bc,bd,be,rfl⟩;refine qa a fun fi ad a=>?_;refine Qn 4 (fun A st=>∃ bf bg bh,st = A [(88,Q7 fi),(87,bh),(86,bg),(85,bf)]) ?_ ?_
 ·refine Qm O O ad (fun ad=>?_) (fun ad=>?_)
  ·refine q0 O<|q7 _ O<|q7 _ O<|qe ?_;cases ad;exact ⟨_,_,_,O⟩
  refine qg O<|qg O<|q7 _ O<|qe ?_;cases ad;exact ⟨_,_,_,O⟩
 rintro _ ⟨bf,bg,bh,rfl⟩;refine qa a fun fj ae a=>?_;refine Qn 4 (fun A st=>∃ bi bj bk,st = A [(92,Q7 fj),(91,bk),(90,bj),(89,bi)]) ?_ ?_
 ·refine Qm O O ae (fun ae=>?_) (fun ae=>?_)
  ·refine q0 O<|q7 _ O<|q7 _ O<|qe ?_;cases ae;exact ⟨_,_,_,O⟩
  refine qg O<|qg O<|q7 _ O<|qe ?_;cases ae;exact ⟨_,_,_,O⟩
 rintro _ ⟨bi,bj,bk,rfl⟩;refine qa a fun fk af a=>?_;refine Qn 4 (fun A st=>∃ bl bm bn,st = A [(96,Q7 fk),(95,bn),(94,bm),(93,bl)]) ?_ ?_
 ·refine Qm O O af (fun af=>?_) (fun af=>?_)
  ·refine q0 O<|q7 _ O<|q7 _ O<|qe ?_;cases af;exact ⟨_,_,_,O⟩
  refine qg O<|qg O<|q7 _ O<|qe ?_;cases af;exact ⟨_,_,_,O⟩
 rintro _ ⟨bl,bm,bn,rfl⟩;refine Qm O O a (fun a=>?_) (fun a=>?_)
 ·refine q7 _ O<|qa a fun an fl a=>Qk (q4l 0 0 2 0 an fl) O<|qa a fun ao fm a=>Qk (q4l 2 0 4 0 ao fm) O<|Qz _ _ O<|qa a fun fn fo a=>q13 [.agg [.hs 5 2 0 [m,n].length,.hs 6 2 0 [({A:=0,B:=1} : qk)].length],.hs 10 4 0 [an,ao].length] (qku ({Nodes:=[m,n],Edges:=[({A:=0,B:=1} : qk)]} : Qq) [an,ao] fn fo) O O (Yi (q7i (Zi (Zc O O) (Zi (Zc O O) O))) (Yi (Zc O O) O)) (.inr O)<|q7 _ O<|qa a fun fq ag a=>?_;refine Qn 4 (fun A st=>∃ bo bp bq,st = A [(107,Q7 fq),(106,bq),(105,bp),(104,bo)]) ?_ ?_
  ·refine Qm O O ag (fun ag=>?_) (fun ag=>?_)
   ·refine q0 O<|q7 _ O<|q7 _ O<|qe ?_;cases ag;exact ⟨_,_,_,O⟩
   refine qg O<|qg O<|q7 _ O<|qe ?_;cases ag;exact ⟨_,_,_,O⟩
  rintro _ ⟨bo,bp,bq,rfl⟩;refine qa a fun fr u a=>?_;refine Qn 5 (fun A st=>∃ br bs bt bu,st = A [(112,Q7 fr),(111,bu),(110,bt),(109,bs),(108,br)]) ?_ ?_
  ·refine Qm O O u (fun u=>?_) (fun u=>?_)
   ·refine q7 _ O<|q7 _ O<|qa u fun fs ft u=>q13 [.d (.agg [.sl 2 (b.1.Nodes.map qs),.sl 2 (b.1.Edges.map Q5)]),.agg [.hs 7 2 0 [o,p,q,s].length,.hs 8 2 0 [({A:=0,B:=1} : qk),({A:=1,B:=2} : qk),({A:=1,B:=3} : qk)].length]] (qdc b.1 ({Nodes:=[o,p,q,s],Edges:=[({A:=0,B:=1} : qk),({A:=1,B:=2} : qk),({A:=1,B:=3} : qk)]} : Qq) fs ft) O O (Yi O (Yi (q7i (Zi (Zc O O) (Zi (Zc O O) O))) O)) (.inr O)<|q7 _ O<|qe ?_;cases u;exact ⟨_,_,_,_,O⟩
   refine qg O<|qg O<|qg O<|q7 _ O<|qe ?_;cases u;exact ⟨_,_,_,_,O⟩
  rintro _ ⟨br,bs,bt,bu,rfl⟩;refine qf O<|Qa ?_;cases a;exact Qv _ O
 refine qg O<|qg O<|qg O<|qg O<|qg O<|q7 _ O<|q0 O<|qg O<|qg O<|q7 _ O<|q0 O<|qg O<|qg O<|qg O<|q7 _ O<|qf O<|Qa ?_;cases a;exact Qv _ O
theorem q13n (f : List K5) (c : Ku) (r : Bool) (a : qco f c = some r) : Pure Try.prog tab 4 [.sl 5 (f.map Kz),.agg (Zx c)] (.bool r):=by
 unfold qco at a;refine Ke Try.func4 O qn qn O<|qh<|Qz _ _ O<|qf O<|qe<|qi<|qh<|q0 O<|qa a fun r1 h2 a=>Qk (qyh f r1 h2) O<|q7 _ O<|qa a fun c5 j a=>?_;refine Qn 6 (fun A st=>∃ z j8 j9 ac ad,st = A [(25,Q7 c5),(24,ad),(23,ac),(22,j9),(21,j8),(20,z)]) ?_ ?_
 ·refine Qm O O j (fun j=>?_) (fun j=>?_)
  ·refine qg O<|qg O<|qg O<|qg O<|q7 _ O<|qe ?_;cases j;exact ⟨_,_,_,_,_,O⟩
  refine q7 _ O<|q7 _ O<|qa j fun bw bx j=>Qk (qn0 c.At bw bx) O<|q7 _ O<|q7 _ O<|qe ?_;cases j;exact ⟨_,_,_,_,_,O⟩
 rintro _ ⟨z,j8,j9,ac,ad,rfl⟩;refine qa a fun bz q a=>?_;refine Qn 5 (fun A st=>∃ ae af ag ah,st = A [(30,Q7 bz),(29,ah),(28,ag),(27,af),(26,ae)]) ?_ ?_
 ·refine Qm O O q (fun q=>?_) (fun q=>?_)
  ·refine qg O<|qg O<|qg O<|q7 _ O<|qe ?_;cases q;exact ⟨_,_,_,_,O⟩
  refine q7 _ O<|q7 _ O<|q7 _ O<|q7 _ O<|qe ?_;cases q;exact ⟨_,_,_,_,O⟩
 rintro _ ⟨ae,af,ag,ah,rfl⟩;refine qa a fun ca s a=>?_;refine Qn 5 (fun A st=>∃ ai aj ak al,st = A [(35,Q7 ca),(34,al),(33,ak),(32,aj),(31,ai)]) ?_ ?_
 ·refine Qm O O s (fun s=>?_) (fun s=>?_)
  ·refine qg O<|qg O<|qg O<|q7 _ O<|qe ?_;cases s;exact ⟨_,_,_,_,O⟩
  refine q7 _ O<|q7 _ O<|q7 _ O<|q7 _ O<|qe ?_;cases s;exact ⟨_,_,_,_,O⟩
 rintro _ ⟨ai,aj,ak,al,rfl⟩;refine qa a fun cb t a=>?_;refine Qn 5 (fun A st=>∃ am an ao ap,st = A [(40,Q7 cb),(39,ap),(38,ao),(37,an),(36,am)]) ?_ ?_
 ·refine Qm O O t (fun t=>?_) (fun t=>?_)
  ·refine qg O<|qg O<|qg O<|q7 _ O<|qe ?_;cases t;exact ⟨_,_,_,_,O⟩
  refine q7 _ O<|q7 _ O<|q7 _ O<|q7 _ O<|qe ?_;cases t;exact ⟨_,_,_,_,O⟩
 rintro _ ⟨am,an,ao,ap,rfl⟩;refine qe ?_;refine qw O a (fun _ a=>?_) (fun _ a=>?_)
 ·refine qh<|qa a fun cc cd a=>Qk (qfn cc cd) O<|qf O<|Qa ?_;cases a;exact Qv _ O
 refine qy<|qh<|q0 O<|q7 _ O<|q7 _ O<|q7 _ O<|q7 _ O<|q7 _ O<|q7 _ O<|qa a fun o ce a=>Qk (qju f c.At c.Head c.Steps o ce) O<|q0 O<|q7 _ O<|q7 _ O<|qf O<|qf O<|qe<|qi<|qh<|q0 O<|q7 _ O<|qe ?_;refine qw O a (fun _ a=>?_) (fun _ a=>?_)
 ·refine qh<|qa a fun cf cg a=>Qk (qfn cf cg) O<|qf O<|Qa ?_;cases a;exact Qv _ O
 refine qy<|qh<|qf O<|qe<|qi<|qh<|qf O<|qe<|qa a fun aq ch a=>?_;refine K3 (fun k=>k = aq) (fun k=>⟨[(0,.d (.sl 5 (f.map Kz))),(3,.ref 0 4 0 0),(7,.hs 1 4 0 k.length)],[(0,.dat 4 [(Zx c)]),(1,.dat 4 (k.map Y5))],2⟩) qc ?_ ?_
 ·refine Qu (q3n o) (fun l=>⟨[(0,.d (.sl 5 (f.map Kz))),(3,.ref 0 4 0 0),(5,.d (.sl 2 (o.1.map qs))),(7,.hs 1 4 0 l.2.length),(8,qd l.1)],[(0,.dat 4 [(Zx c)]),(1,.dat 4 (l.2.map Y5))],2⟩) _ aq ch (wkA [(0,0)] [] [1]) ?_;intro l dd b;unfold q3n at b;refine qi<|qh<|q0 O<|q0 O<|Kv O<|q7 _ O<|qe ?_;refine qw O b (fun _ b=>?_) (fun _ b=>?_)
  ·refine qy<|qi<|Qf<|qi<|Qh [q8,(some [1,2],[1,3]),(some [],[2]),q8,q8,q8,q8,q8,q8,q8,q8,q8,q8,q8] qn<|q0 O<|q0 O<|q0 O<|q7 _ O<|qa b fun de ci b=>Kn ci O<|q7 _ O<|q0 O<|q0 O<|qa b fun df cj b=>Kn cj O<|q7 _ O<|q7 _ O<|Qz _ _ O<|qa b fun w ck b=>q11 _ ck O O O O O O O (q28 O O) O O O O<|qf O<|Q1<|qf O<|qe<|qi<|qh<|qf O<|qe<|qa b fun ar cl b=>?_;refine K3 (fun x=>x = ar) (fun x=>⟨[(0,.d (.sl 5 (f.map Kz))),(3,.ref 0 4 0 0),(5,.d (.sl 2 (o.1.map qs))),(7,.hs 1 4 0 w.length),(8,qd l.1),(9,Q7 x)],[(0,.dat 4 [(Zx c)]),(1,.dat 4 (w.map Y5))],2⟩) qc ?_ ?_
   ·refine Qu (q4j l o) (fun y=>⟨[(0,.d (.sl 5 (f.map Kz))),(3,.ref 0 4 0 0),(5,.d (.sl 2 (o.1.map qs))),(7,.hs 1 4 0 w.length),(8,qd l.1),(9,Q7 y.1),(10,qd y.2)],[(0,.dat 4 [(Zx c)]),(1,.dat 4 (w.map Y5))],2⟩) _ ar cl (wkA [(0,0),(1,3)] [] []) ?_;intro y dg h;unfold q4j at h;refine qi<|qh<|q0 O<|q0 O<|q7 _ O<|qe ?_;refine qw O h (fun _ h=>?_) (fun _ h=>?_)
    ·refine qy<|qi<|Qf<|Qh [q8,q8,q8,q8,q8,q8,q8,q8,q8,q8,q8,q8,q8] qn<|q0 O<|qa h fun cm g h=>?_;refine Qn 11 (fun A st=>∃ au av aw ax ay az ba bb bc bd,st = A [(91,Q7 cm),(90,bd),(89,bc),(88,bb),(87,ba),(86,az),(85,ay),(84,ax),(83,aw),(82,av),(81,au)]) ?_ ?_
     ·refine Qm O O g (fun g=>?_) (fun g=>?_)
      ·refine qg O<|qg O<|qg O<|qg O<|qg O<|qg O<|qg O<|qg O<|qg O<|q7 _ O<|qe ?_;cases g;exact ⟨_,_,_,_,_,_,_,_,_,_,O⟩
      refine q0 O<|q0 O<|qa g fun dh cn g=>Kn cn O<|q7 _ O<|q0 O<|q0 O<|qa g fun dj co g=>Kn co O<|q7 _ O<|q7 _ O<|q7 _ O<|qe ?_;cases g;exact ⟨_,_,_,_,_,_,_,_,_,_,O⟩
     rintro _ ⟨au,av,aw,ax,ay,az,ba,bb,bc,bd,rfl⟩;refine qf O<|Q8<|Qp<|Q9<|q0 O<|q7 _ O<|qf O<|Q8<|⟨_,qx h,wkA [(0,0),(1,1)] [] []⟩
    refine Ql ?_;refine ⟨_,qx h,fun hm=>?_⟩;subst hm;exact ⟨_,O,wkA [(0,0),(1,1)] [] []⟩
   intro x hb;subst hb;refine qh<|q0 O<|qe ?_;refine qw O b (fun _ b=>?_) (fun _ b=>?_)
   ·refine Ql ?_;refine ⟨_,qx b,fun hm=>?_⟩;subst hm;exact ⟨_,O,wkA [(0,0),(1,1)] [] []⟩
   refine qy<|Qg<|Qp<|Q9<|q0 O<|q7 _ O<|qf O<|Q8<|⟨_,qx b,wkA [(0,0),(1,1)] [] []⟩
  refine Ql ?_;refine ⟨_,qx b,fun hm=>?_⟩;subst hm;exact ⟨_,O,wkA [(0,0),(1,1)] [] []⟩
 intro k hb;subst hb;refine qh<|q0 O<|q7 _ O<|qd4 (es:=4) ([c].map Zx) O O O O O<|qa a fun p cp a=>Qk (qha f [c] p cp) O<|q0 O<|q7 _ O<|q7 _ O<|K9 O O<|K0 3 _ O<|qf O<|qe<|qi ?_;refine Zs (st':=⟨[(0,.d (.sl 5 (f.map Kz))),(3,.ref 0 4 0 0),(7,.d (.sl 4 (k.map Y5))),(11,.ref 1 2 0 0),(12,qd p.2)],[(0,.dat 4 [(Zx c)]),(1,.dat 2 [[.sl 2 (p.1.Nodes.map qs),.sl 2 (p.1.Edges.map Q5)]])],2⟩) (wkA [(0,0),(1,3)] [1] []) ?_ qc;refine Q9<|q0 O<|qa a fun be cq a=>Qk (qdp k be cq) O<|q0 O<|q7 _ O<|q7 _ O<|K9 O O<|K0 2 _ O<|qf O<|Q1<|q0 O<|q7 _ O<|q7 _ O<|qd4 (es:=4) ([c,c].map Zx) O O O O O<|qa a fun bf cr a=>Qk (qha f [c,c] bf cr) O<|q0 O<|q7 _ O<|q7 _ O<|K9 O O<|K0 4 _ O<|qf O<|qe<|qi<|qh<|q0 O<|q7 _ O<|qa a fun cs u a=>?_;refine Qn 4 (fun A st=>∃ bg bh bi,st = A [(118,Q7 cs),(117,bi),(116,bh),(115,bg)]) ?_ ?_
 ·refine Qm O O u (fun u=>?_) (fun u=>?_)
  ·refine qg O<|qg O<|q7 _ O<|qe ?_;cases u;exact ⟨_,_,_,O⟩
  refine q0 O<|q7 _ O<|q7 _ O<|qe ?_;cases u;exact ⟨_,_,_,O⟩
 rintro _ ⟨bg,bh,bi,rfl⟩;refine qa a fun ct m a=>?_;refine Qn 6 (fun A st=>∃ bj bk bl bm bn,st = A [(124,Q7 ct),(123,bn),(122,bm),(121,bl),(120,bk),(119,bj)]) ?_ ?_
 ·refine Qm O O m (fun m=>?_) (fun m=>?_)
  ·refine qg O<|qg O<|qg O<|qg O<|q7 _ O<|qe ?_;cases m;exact ⟨_,_,_,_,_,O⟩
  refine q7 _ O<|q7 _ O<|qa m fun cu cv m=>Qk (qdc p.1 be.1 cu cv) O<|q7 _ O<|q7 _ O<|qe ?_;cases m;exact ⟨_,_,_,_,_,O⟩
 rintro _ ⟨bj,bk,bl,bm,bn,rfl⟩;refine qa a fun cw v a=>?_;refine Qn 4 (fun A st=>∃ bo bp bq,st = A [(128,Q7 cw),(127,bq),(126,bp),(125,bo)]) ?_ ?_
 ·refine Qm O O v (fun v=>?_) (fun v=>?_)
  ·refine qg O<|qg O<|q7 _ O<|qe ?_;cases v;exact ⟨_,_,_,O⟩
  refine q0 O<|q7 _ O<|q7 _ O<|qe ?_;cases v;exact ⟨_,_,_,O⟩
 rintro _ ⟨bo,bp,bq,rfl⟩;refine qe ?_;refine qw O a (fun _ a=>?_) (fun _ a=>?_)
 ·refine qh<|qf O<|Qa ?_;cases a;exact Qv _ O
 refine qy<|qh<|q7 _ O<|q7 _ O<|qa a fun cx cy a=>Qk (qdc bf.1 p.1 cx cy) O<|qa a fun cz n a=>?_;refine Qn 3 (fun A st=>∃ br bs,st = A [(134,Q7 cz),(133,bs),(132,br)]) ?_ ?_
 ·refine Qm O O n (fun n=>?_) (fun n=>?_)
  ·refine qa n fun da dc n=>Qk (qfn da dc) O<|q7 _ O<|qe ?_;cases n;exact ⟨_,_,O⟩
  refine qg O<|q7 _ O<|qe ?_;cases n;exact ⟨_,_,O⟩
 rintro _ ⟨br,bs,rfl⟩;refine qf O<|Qa ?_;cases a;exact Qv _ O
end Go.Proofs.Ytgkialgkmjnfbaa
