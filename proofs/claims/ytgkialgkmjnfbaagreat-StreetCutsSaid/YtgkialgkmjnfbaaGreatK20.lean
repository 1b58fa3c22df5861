/- W_Allc -/
import Derived.Test.YtgkialgkmjnfbaaGreatK19
namespace Go.Proofs.YtgkialgkmjnfbaaGreat
open Go Go.Am Go.Sh
set_option maxHeartbeats 8000000
set_option maxRecDepth 100000
theorem q129 (rec : List qj→Int→Int→Int→Option (List qj)) (g : qj→qj→Option Int) (q1F : FuncId) (q1C : List DV) (q1Ok : ∀ (x0 : qj) (x1 : qj) (r : Int),g x0 x1 = some r→Pure Tryz.prog tab q1F ([.agg (Q7 x0),.agg (Q7 x1)] ++ q1C) (qk r)) (hrec : ∀ (o : List qj) (q : Int) (s : Int) (t : Int) (r : List qj),rec o q s t = some r→K1 Tryz.prog tab 81 [.hs 0 2 0 o.length,qe q,qe s,qe t,.d (.fn q1F q1C)] [(0,.dat 2 (o.map Q7))] 1 (.d (.tup [])) [(0,.dat 2 (r.map Q7))] 1) (o : List qj) (q : Int) (s : Int) (t : Int) (r : List qj) (p : q6v rec g o q s t = some r) : K1 Tryz.prog tab 81 [.hs 0 2 0 o.length,qe q,qe s,qe t,.d (.fn q1F q1C)] [(0,.dat 2 (o.map Q7))] 1 (.d (.tup [])) [(0,.dat 2 (r.map Q7))] 1:=by
 unfold q6v at p;refine Kh Tryz.func81 O qm qm O<|qg<|qf O<|qx<|qf O<|qd<|q9 p fun be bf p=>Qe<|Qv (q6u g rec) (fun b=>⟨[(0,.hs 0 2 0 b.2.2.2.2.2.length),(1,qe b.1),(2,qe b.2.1),(3,qe b.2.2.1),(4,.d (.fn q1F q1C)),(10,Q6 b.2.2.2.1),(11,Q6 b.2.2.2.2.1)],[(0,.dat 2 (b.2.2.2.2.2.map Q7))],1⟩) _ be bf (wkA [] [] []) ?_;intro b cr a;unfold q6u at a;refine Qe<|qg<|q0 O<|q0 O<|U _ O<|qf O<|qd<|qi<|qg<|q0 O<|U _ O<|qd ?_;refine qt O a (fun _ a=>?_) (fun _ a=>?_)
 ·refine qg<|q0 O<|q0 O<|q0 O<|q0 O<|q9 a fun ad bg a=>q9 a fun cs bh a=>?_;have ct:=Kq bh;refine K2 [(0,0)] [(0,0)] _ (.d (.tup [])) 1 [(0,.dat 2 (ad.map Q7))] 1 (q11x g q1F q1C q1Ok b.2.2.2.2.2 b.1 b.2.1 ad bg)<|Qa ?_;refine ⟨_,qu a,fun hm=>?_⟩;subst hm;obtain rfl:=qw p;exact ⟨.inr O,_,O,wkA [] [] []⟩
 refine qv<|qi<|qg<|q0 O<|U _ O<|qd ?_;refine qt O a (fun _ a=>?_) (fun _ a=>?_)
 ·refine qg<|q0 O<|q0 O<|q0 O<|q0 O<|q9 a fun ae bi a=>q9 a fun cu bj a=>?_;have cv:=Kq bj;refine K2 [(0,0)] [(0,0)] _ (.d (.tup [])) 1 [(0,.dat 2 (ae.map Q7))] 1 (q11u g q1F q1C q1Ok b.2.2.2.2.2 b.1 b.2.1 ae bi)<|Qa ?_;refine ⟨_,qu a,fun hm=>?_⟩;subst hm;obtain rfl:=qw p;exact ⟨.inr O,_,O,wkA [] [] []⟩
 refine qv<|qi<|qg<|q0 O<|U _ O<|qd<|q9 a fun bk l a=>?_;refine Y4 (fun c=>c = bk) (fun c=>⟨[(0,.hs 0 2 0 c.2.length),(1,qe b.1),(2,qe b.2.1),(3,qe c.1),(4,.d (.fn q1F q1C)),(10,Q6 b.2.2.2.1),(11,Q6 b.2.2.2.2.1),(12,.d (qk (w64 (b.2.1 - b.1))))],[(0,.dat 2 (c.2.map Q7))],1⟩) qb ?_ ?_
 ·refine qt O l (fun _ l=>?_) (fun _ l=>?_)
  ·refine qg<|q0 O<|q0 O<|q0 O<|q0 O<|q9 l fun af bl l=>q9 l fun cw bm l=>?_;have bn:=Kq bm;refine K2 [(0,0)] [(0,0)] _ (.d (.tup [])) 1 [(0,.dat 2 (af.map Q7))] 1 (q11o g q1F q1C q1Ok b.2.2.2.2.2 b.1 b.2.1 af bl)<|qd<|Q9<|q0 O<|U _ O<|qf O<|Q8 ?_;obtain rfl:=qw l;exact ⟨_,O,wkE [] [] [] O ⟨⟨_,O,Qz (by simp [bn]) O qy (ltd O)⟩,ql O,ql O,ql O,ql O,ql O,ql O,ql O,trivial⟩ ⟨Qo O O,trivial⟩⟩
  refine qv<|Qf ?_;obtain rfl:=qw l;exact ⟨_,O,wkA [] [] []⟩
 intro c hb;subst hb;refine qg<|q0 O<|q0 O<|q0 O<|q0 O<|q9 a fun bo bp a=>Uc [.hs 0 2 0 c.2.length,qe b.1,qe b.2.1,.d (.fn q1F q1C)] (q11r c.2 b.1 b.2.1 g q1F q1C q1Ok bo bp) O O (Yd (Zb O O) (Yd O (Yd O (Yd O O)))) (.inr O)<|q0 O<|U _ O<|U _ O<|qf O<|qf O<|qd<|qi<|qg<|q0 O<|U _ O<|qd<|q9 a fun bq m a=>?_;refine Y4 (fun h=>h = bq) (fun h=>⟨[(0,.hs 0 2 0 h.2.2.length),(1,qe b.1),(2,qe b.2.1),(3,qe c.1),(4,.d (.fn q1F q1C)),(10,Q6 b.2.2.2.1),(11,Q6 b.2.2.2.2.1),(12,.d (qk (w64 (b.2.1 - b.1)))),(13,qe h.1),(14,qe h.2.1)],[(0,.dat 2 (h.2.2.map Q7))],1⟩) qb ?_ ?_
 ·refine qt O m (fun _ m=>?_) (fun _ m=>?_)
  ·refine qg<|q0 O<|q0 O<|q0 O<|q0 O<|q9 m fun ag br m=>q9 m fun cx bs m=>?_;have bt:=Kq bs;refine K2 [(0,0)] [(0,0)] _ (.d (.tup [])) 1 [(0,.dat 2 (ag.map Q7))] 1 (q12f g q1F q1C q1Ok c.2 b.1 b.2.1 ag br)<|qx<|q0 O<|U _ O<|q0 O<|q0 O<|U _ O<|U _ O<|qf O<|qd<|Q9<|qf O<|Q8 ?_;obtain rfl:=qw m;exact ⟨_,O,wkE [] [] [] O ⟨⟨_,O,Qz (by simp [bt]) O qy (ltd O)⟩,ql O,ql O,ql O,ql O,ql O,ql O,ql O,ql O,ql O,trivial⟩ ⟨Qo O O,trivial⟩⟩
  refine qv<|Qf ?_;obtain rfl:=qw m;exact ⟨_,O,wkA [] [] []⟩
 intro h hb;subst hb;refine qi<|qg<|q0 O<|q9 a fun bu u a=>?_;refine Qk 3 (fun A st=>∃ ah ai,st = A [(71,Q6 bu),(70,ai),(69,ah)]) ?_ ?_
 ·refine Qj O O u (fun u=>?_) (fun u=>?_)
  ·refine q0 O<|U _ O<|qd ?_;cases u;exact ⟨_,_,O⟩
  refine qc O<|U _ O<|qd ?_;cases u;exact ⟨_,_,O⟩
 rintro _ ⟨ah,ai,rfl⟩;refine q9 a fun bv v a=>?_;refine Qk 4 (fun A st=>∃ aj ak al,st = A [(75,Q6 bv),(74,al),(73,ak),(72,aj)]) ?_ ?_
 ·refine Qj O O v (fun v=>?_) (fun v=>?_)
  ·refine q0 O<|U _ O<|U _ O<|qd ?_;cases v;exact ⟨_,_,_,O⟩
  refine qc O<|qc O<|U _ O<|qd ?_;cases v;exact ⟨_,_,_,O⟩
 rintro _ ⟨aj,ak,al,rfl⟩;refine qd<|q9 a fun bw f a=>?_;refine Y4 (fun n=>.inl n = bw) (fun n=>⟨[(0,.hs 0 2 0 n.length),(1,qe b.1),(2,qe b.2.1),(3,qe c.1),(4,.d (.fn q1F q1C)),(10,Q6 b.2.2.2.1),(11,Q6 b.2.2.2.2.1),(12,.d (qk (w64 (b.2.1 - b.1)))),(13,qe h.1)],[(0,.dat 2 (n.map Q7))],1⟩) qb ?_ ?_
 ·refine qt O f (fun _ f=>?_) (fun _ f=>?_)
  ·refine qg<|q0 O<|q0 O<|q0 O<|q0 O<|q9 f fun x bx f=>q9 f fun cy bz f=>?_;have ca:=Kq bz;refine K2 [(0,0)] [(0,0)] _ (Q6 x.1) 1 [(0,.dat 2 (x.2.map Q7))] 1 (q120 g q1F q1C q1Ok h.2.2 b.1 b.2.1 x bx)<|qd ?_;refine qt O f (fun _ f=>?_) (fun _ f=>?_)
   ·refine q1p ?_;obtain rfl:=qw f;refine ⟨_,qu a,fun hm=>?_⟩;subst hm;obtain rfl:=qw p;exact ⟨.inr O,_,O,wkA [] [] []⟩
   refine qv<|Qf ?_;obtain rfl:=qw f;exact ⟨_,O,wkE [] [] [] O ⟨⟨_,O,Qz (by simp [ca]) O qy (ltd O)⟩,ql O,ql O,ql O,ql O,ql O,ql O,ql O,ql O,trivial⟩ ⟨Qo O O,trivial⟩⟩
  refine qv<|Qf ?_;obtain rfl:=qw f;exact ⟨_,O,wkA [] [] []⟩
 intro n hb;subst hb;refine qi<|qi<|Qg [q8,q8,q8,q8,qs 0,q8,q8,q8,qs 0,q8,q8,q8,q8,q8,q8,q8,q8] qm<|q0 O<|U _ O<|q9 a fun cb j a=>?_;refine Qk 15 (fun A st=>∃ am an ao ap aq ar au av aw ax ay az ba bb,st = A [(97,Q6 cb),(96,bb),(95,ba),(94,az),(93,ay),(92,ax),(91,aw),(90,av),(89,au),(88,ar),(87,aq),(86,ap),(85,ao),(84,an),(83,am)]) ?_ ?_
 ·refine Qj O O j (fun j=>?_) (fun j=>?_)
  ·refine q0 O<|q0 O<|q0 O<|U _ O<|q9 j fun cc bc j=>qp bc O O<|Q5 _ bc O<|q0 O<|q0 O<|q9 j fun cd bd j=>qp bd O O<|Q5 _ bd O<|q9 j fun ce cf j=>Kj _ (q1Ok cc cd ce cf) O O O (.inl O)<|U _ O<|U _ O<|U _ O<|qd ?_;cases j;exact ⟨_,_,_,_,_,_,_,_,_,_,_,_,_,_,O⟩
  refine qc O<|qc O<|qc O<|qc O<|qc O<|qc O<|qc O<|qc O<|qc O<|qc O<|qc O<|qc O<|qc O<|U _ O<|qd ?_;cases j;exact ⟨_,_,_,_,_,_,_,_,_,_,_,_,_,_,O⟩
 rintro _ ⟨am,an,ao,ap,aq,ar,au,av,aw,ax,ay,az,ba,bb,rfl⟩;refine qd ?_;refine qt O a (fun _ a=>?_) (fun _ a=>?_)
 ·refine qg<|q0 O<|q0 O<|q0 O<|q0 O<|q0 O<|q9 a fun y cg a=>q9 a fun cz ch a=>?_;have ci:=Kq ch;refine K2 [(0,0)] [(0,0)] _ (qe y.1) 1 [(0,.dat 2 (y.2.map Q7))] 1 (q126 g q1F q1C q1Ok n b.1 b.2.1 h.1 y cg)<|qf O<|qx<|q0 O<|qf O<|qd<|Qn<|q7o<|Qf<|⟨_,qu a,wkE [] [] [] O ⟨⟨_,O,Qz (by simp [ci]) O qy (ltd O)⟩,ql O,ql O,ql O,ql O,ql O,ql O,trivial⟩ ⟨Qo O O,trivial⟩⟩
 refine qv<|qg<|q0 O<|q0 O<|q0 O<|q0 O<|q0 O<|q9 a fun k cj a=>q9 a fun da ck a=>?_;have w:=Kq ck;refine K2 [(0,0)] [(0,0)] _ (.d (.tup [qk k.1,.bool k.2.1])) 1 [(0,.dat 2 (k.2.2.map Q7))] 1 (q123 g q1F q1C q1Ok n b.1 b.2.1 h.1 k cj)<|q0 O<|U _ O<|U _ O<|qf O<|qf O<|qx<|q0 O<|qf O<|qx<|q0 O<|q0 O<|U _ O<|q0 O<|q0 O<|U _ O<|qf O<|qf O<|qx<|q0 O<|U _ O<|qf O<|qx<|q0 O<|q0 O<|U _ O<|qd ?_;refine qt O a (fun _ a=>?_) (fun _ a=>?_)
 ·refine qg<|q0 O<|q0 O<|U _ O<|qf O<|qx<|q0 O<|q0 O<|q0 O<|q0 O<|q0 O<|q9 a fun z cl a=>q9 a fun dc cm a=>?_;have cn:=Kq cm;refine Ut [(0,0)] [(0,0)] [.hs 0 2 0 n.length,qe b.1,qe k.1,qe c.1,.d (.fn q1F q1C)] (.d (.tup [])) [(0,.dat 2 (z.map Q7))] [(0,.dat 2 (z.map Q7))] 1 (hrec k.2.2 b.1 k.1 c.1 z cl) O O O (Yy [(0,0)] [] [] O ⟨⟨_,O,Qz (by simp [w]) O qy (ltd O)⟩,ql O,ql O,ql O,ql O,trivial⟩ ⟨Qo O O,trivial⟩) (Yy [(0,0)] [] [] O ⟨ql O,trivial⟩ ⟨Qo O O,trivial⟩) O ⟨.inl O,trivial⟩<|qd<|Q9<|q0 O<|U _ O<|qf O<|Q8<|Qp<|Qf<|⟨_,qu a,wkE [] [] [] O ⟨⟨_,O,Qz (by simp [w,cn]) O qy (ltd O)⟩,ql O,ql O,ql O,ql O,ql O,ql O,trivial⟩ ⟨Qo O O,trivial⟩⟩
 refine qg<|q0 O<|q0 O<|U _ O<|qf O<|qx<|q0 O<|q0 O<|U _ O<|q0 O<|q0 O<|q0 O<|q9 a fun aa co a=>q9 a fun dd cp a=>?_;have cq:=Kq cp;refine Ut [(0,0)] [(0,0)] [.hs 0 2 0 n.length,.d (qk (w64 (k.1 + 1))),qe b.2.1,qe c.1,.d (.fn q1F q1C)] (.d (.tup [])) [(0,.dat 2 (aa.map Q7))] [(0,.dat 2 (aa.map Q7))] 1 (hrec k.2.2 (w64 (k.1 + 1)) b.2.1 c.1 aa co) O O O (Yy [(0,0)] [] [] O ⟨⟨_,O,Qz (by simp [w]) O qy (ltd O)⟩,ql O,ql O,ql O,ql O,trivial⟩ ⟨Qo O O,trivial⟩) (Yy [(0,0)] [] [] O ⟨ql O,trivial⟩ ⟨Qo O O,trivial⟩) O ⟨.inl O,trivial⟩<|qd<|Q9<|q0 O<|qf O<|Q8<|Qp<|Qf<|⟨_,qu a,wkE [] [] [] O ⟨⟨_,O,Qz (by simp [w,cq]) O qy (ltd O)⟩,ql O,ql O,ql O,ql O,ql O,ql O,trivial⟩ ⟨Qo O O,trivial⟩⟩
theorem q12a (n : Nat) (g : qj→qj→Option Int) (q1F : FuncId) (q1C : List DV) (q1Ok : ∀ (j : qj) (k : qj) (r : Int),g j k = some r→Pure Tryz.prog tab q1F ([.agg (Q7 j),.agg (Q7 k)] ++ q1C) (qk r)) : ∀ (a : List qj) (b : Int) (c : Int) (f : Int) (r : List qj),q6t n g a b c f = some r→K1 Tryz.prog tab 81 [.hs 0 2 0 a.length,qe b,qe c,qe f,.d (.fn q1F q1C)] [(0,.dat 2 (a.map Q7))] 1 (.d (.tup [])) [(0,.dat 2 (r.map Q7))] 1:=by
 induction n with
 | zero=>intro a b c f r h;cases h
 | succ n ih=>intro a b c f r h;exact q129 (q6t n g) g q1F q1C q1Ok ih a b c f r h
theorem q11k (c : qj→qj→Option Int) (q1F : FuncId) (q1C : List DV) (q1Ok : ∀ (g : qj) (h : qj) (r : Int),c g h = some r→Pure Tryz.prog tab q1F ([.agg (Q7 g),.agg (Q7 h)] ++ q1C) (qk r)) (b : List qj) (r : List qj) (a : q4h c b = some r) : K1 Tryz.prog tab 61 [.hs 0 2 0 b.length,.d (.fn q1F q1C)] [(0,.dat 2 (b.map Q7))] 1 (.d (.tup [])) [(0,.dat 2 (r.map Q7))] 1:=by
 unfold q4h at a;refine Kh Tryz.func61 O qm qm O<|qg<|q0 O<|U _ O<|qf O<|qd<|Q9<|q0 O<|q0 O<|q0 O<|U _ O<|q9 a fun j l a=>Qi (qdc (IntKind.wrap .u64 (b.length : Int)) j l) O<|q0 O<|q9 a fun k f a=>q9 a fun o m a=>?_;have p:=Kq m;obtain ⟨n,f⟩:=qd8 f;refine K2 [(0,0)] [(0,0)] _ (.d (.tup [])) 1 [(0,.dat 2 (k.map Q7))] 1 (q12a n c q1F q1C q1Ok b 0 (b.length : Int) j k f)<|Q8 ?_;obtain rfl:=qw a;exact ⟨.inl O,_,O,wkA [] [] []⟩
theorem qp2 (s : List qr) (r : Qh × Bool) (f : q3j s = some r) : Pure Tryz.prog tab 43 [.sl 4 (s.map Kc)] (.tup [.agg [.sl 2 (r.1.Nodes.map qq),.sl 2 (r.1.Edges.map Q7)],.bool r.2]):=by
 unfold q3j at f;refine K6 Tryz.func43 O qm qm O<|qg<|K5 O O<|qf O<|qx<|q0 O<|q9 f fun g y f=>Qi (qoz s g y) O<|K5 O O<|Qy 1 (.dat 2 [[.mp (mrow (fun n : Int=>DV.int .i64 n) (fun l : List qh=>DV.sl 2 (l.map Qc)) g.rows_),.mp (mrow (fun n : Int=>DV.int .i64 n) (fun l : List qh=>DV.sl 2 (l.map Qc)) g.columns_)]]) O<|qx<|U (.d (.agg [.mp (mrow (fun n : Int=>DV.int .i64 n) (fun l : List qh=>DV.sl 2 (l.map Qc)) g.rows_),.mp (mrow (fun n : Int=>DV.int .i64 n) (fun l : List qh=>DV.sl 2 (l.map Qc)) g.columns_)])) O<|q9 f fun c z f=>Qi (q13d g c z) O<|q0 O<|U (.d (.sl 2 (c.1.map qq))) O<|U (Q6 c.2) O<|qf O<|qf O<|qd<|qi<|qg<|q0 O<|U (Q6 (!c.2)) O<|qd ?_;refine qt O f (fun _ f=>?_) (fun _ f=>?_)
 ·refine qg<|U (.d (.agg [.nilsl,.nilsl])) O<|Qy 0 (.dat 2 [[.nilsl,.nilsl]]) O<|qf O<|Qa ?_;obtain rfl:=qw f;exact finD (.inr O) (v:=.d (.tup [.agg [.nilsl,.nilsl],.bool false])) O O (Zu (.cons (q2v (.cons (.nil _) (.cons (.nil _) .nil))) (.cons (.refl _) .nil)))
 refine qv<|qg<|q0 O<|U (.d (.agg [.sl 2 (c.1.map qq),.nilsl])) O<|K5 O O<|Qy 2 (.dat 2 [[.sl 2 (c.1.map qq),.nilsl]]) O<|qx<|Qw (.mp 3) (.mp true (Qt (fun n : Int=>DV.int .i64 n) (DV.int .i64) ([] : List (Int × Int)))) O<|Qw (.mp 4) (.mp true (Qt (fun n : Int=>DV.int .i64 n) (DV.int .i64) ([] : List (Int × Int)))) O<|qf O<|qf O<|qd<|qi<|qg<|q0 O<|Kr O<|q0 O<|qd<|q9 f fun w aa f=>?_;refine K3 (fun h=>h = w) (fun (h : List qj)=>⟨[(2,.ref 0 2 0 0),(7,.ref 1 2 0 0)],[(0,.dat 2 [[.nilsl,.nilsl]]),(1,.cel 2 [[.d (.sl 2 (c.1.map qq)),.hs 2 2 0 h.length]]),(2,.dat 2 (h.map Q7))],3⟩) qb ?_ ?_
 ·refine Qv (q3k c g) (fun (a : Int × (List (Int × Int)) × (List (Int × Int)) × List qj)=>⟨[(2,.ref 0 2 0 0),(4,.ref 1 2 0 0),(7,.ref 2 2 0 0),(8,.mp 3),(9,.mp 4),(27,.d (.sl 2 (c.1.map qq))),(28,qe (c.1.length : Int)),(29,qe a.1)],[(0,.dat 2 [[.nilsl,.nilsl]]),(1,.dat 2 [[.mp (mrow (fun n : Int=>DV.int .i64 n) (fun l : List qh=>DV.sl 2 (l.map Qc)) g.rows_),.mp (mrow (fun n : Int=>DV.int .i64 n) (fun l : List qh=>DV.sl 2 (l.map Qc)) g.columns_)]]),(2,.cel 2 [[.d (.sl 2 (c.1.map qq)),.hs 5 2 0 a.2.2.2.length]]),(3,.mp false (Qt (fun n : Int=>DV.int .i64 n) (DV.int .i64) a.2.1)),(4,.mp false (Qt (fun n : Int=>DV.int .i64 n) (DV.int .i64) a.2.2.1)),(5,.dat 2 (a.2.2.2.map Q7))],6⟩) (0,[],[],[]) w aa (wkA [(0,0),(1,1),(2,2),(3,3),(4,4)] [] [5]) ?_;intro a am j;unfold q3k at j;refine qg<|U (.d (.bool (decide (a.1 < (c.1.length : Int))))) O<|qd<|qi ?_;refine qt O j (fun _ j=>?_) (fun _ j=>?_)
  ·refine qv<|qi<|Qe<|qg<|q0 O<|q9 j fun b ab j=>Ky (enc:=qq) ab O<|U (.d (.agg [qk b.X,qk b.Y])) O<|K5 O O<|qf O<|Qy 6 (.dat 2 [[qk b.X,qk b.Y]]) O<|qx<|U (.d (.agg [.mp (mrow (fun n : Int=>DV.int .i64 n) (fun l : List qh=>DV.sl 2 (l.map Qc)) g.rows_),.mp (mrow (fun n : Int=>DV.int .i64 n) (fun l : List qh=>DV.sl 2 (l.map Qc)) g.columns_)])) O<|U (.d (.agg [qk b.X,qk b.Y])) O<|q9 j fun k ac j=>Qi (qhx g b k ac) O<|K5 O O<|Qy 7 (.dat 4 [[.bool k.1,.bool k.2.1,.bool k.2.2.1,.bool k.2.2.2]]) O<|qd<|qi<|qg<|U (.ref 7 4 0 2) O<|U (Q6 k.2.2.1) O<|qd<|q9 j fun ad m j=>?_;refine Y4 (fun o=>o = ad) (fun (o : List qj)=>⟨[(2,.ref 0 2 0 0),(4,.ref 1 2 0 0),(7,.ref 2 2 0 0),(8,.mp 3),(9,.mp 4),(10,qe a.1),(11,.ref 5 2 0 0),(12,.ref 6 4 0 0),(27,.d (.sl 2 (c.1.map qq))),(28,qe (c.1.length : Int)),(29,qe a.1)],[(0,.dat 2 [[.nilsl,.nilsl]]),(1,.dat 2 [[.mp (mrow (fun n : Int=>DV.int .i64 n) (fun l : List qh=>DV.sl 2 (l.map Qc)) g.rows_),.mp (mrow (fun n : Int=>DV.int .i64 n) (fun l : List qh=>DV.sl 2 (l.map Qc)) g.columns_)]]),(2,.cel 2 [[.d (.sl 2 (c.1.map qq)),.hs 7 2 0 o.length]]),(3,.mp false (Qt (fun n : Int=>DV.int .i64 n) (DV.int .i64) a.2.1)),(4,.mp false (Qt (fun n : Int=>DV.int .i64 n) (DV.int .i64) a.2.2.1)),(5,.dat 2 [[qk b.X,qk b.Y]]),(6,.dat 4 [[.bool k.1,.bool k.2.1,.bool k.2.2.1,.bool k.2.2.2]]),(7,.dat 2 (o.map Q7))],8⟩) qb ?_ ?_
   ·refine qt O m (fun _ m=>?_) (fun _ m=>?_)
    ·refine Q9<|U (.ref 2 2 0 1) O<|U (.hs 5 2 0 a.2.2.2.length) O<|q0 O<|U (.ref 6 2 0 1) O<|U (qe b.Y) O<|qgu (ek:=(fun n : Int=>DV.int .i64 n)) (ev:=(DV.int .i64)) (es:=a.2.1) Jq 0 b.Y O O O O O O O<|q0 O<|U (.d (.agg [qk (K7 0 b.Y a.2.1),qk a.1])) O<|Qw (.hs 8 2 0 [({A:=K7 0 b.Y a.2.1,B:=a.1} : qj)].length) (.dat 2 ([({A:=K7 0 b.Y a.2.1,B:=a.1} : qj)].map Q7)) O<|q9 m fun ae af m=>Ub (xs:=a.2.2.2) (ys:=[({A:=K7 0 b.Y a.2.1,B:=a.1} : qj)]) (enc:=Q7) (.hs 8 2 0 [({A:=K7 0 b.Y a.2.1,B:=a.1} : qj)].length) af O O O O O O O (q2u O O) O O O O<|U (.ref 2 2 0 1) O<|Qy 2 (.cel 2 [[.d (.sl 2 (c.1.map qq)),.hs 9 2 0 ae.length]]) O<|Q8 ?_;obtain rfl:=qw m;exact ⟨_,O,wkA [(0,0),(1,1),(2,2),(3,3),(4,4),(5,6),(6,7),(7,9)] [] []⟩
    refine qv<|Qf ?_;obtain rfl:=qw m;exact ⟨_,O,wkA [(0,0),(1,1),(2,2),(3,3),(4,4),(5,6),(6,7),(7,5)] [] []⟩
   intro o hb;subst hb;refine qi<|qg<|U (.ref 6 4 0 3) O<|U (Q6 k.2.2.2) O<|qd<|q9 j fun ag p j=>?_;refine Y4 (fun q=>q = ag) (fun (q : List qj)=>⟨[(2,.ref 0 2 0 0),(4,.ref 1 2 0 0),(7,.ref 2 2 0 0),(8,.mp 3),(9,.mp 4),(10,qe a.1),(11,.ref 5 2 0 0),(27,.d (.sl 2 (c.1.map qq))),(28,qe (c.1.length : Int)),(29,qe a.1)],[(0,.dat 2 [[.nilsl,.nilsl]]),(1,.dat 2 [[.mp (mrow (fun n : Int=>DV.int .i64 n) (fun l : List qh=>DV.sl 2 (l.map Qc)) g.rows_),.mp (mrow (fun n : Int=>DV.int .i64 n) (fun l : List qh=>DV.sl 2 (l.map Qc)) g.columns_)]]),(2,.cel 2 [[.d (.sl 2 (c.1.map qq)),.hs 6 2 0 q.length]]),(3,.mp false (Qt (fun n : Int=>DV.int .i64 n) (DV.int .i64) a.2.1)),(4,.mp false (Qt (fun n : Int=>DV.int .i64 n) (DV.int .i64) a.2.2.1)),(5,.dat 2 [[qk b.X,qk b.Y]]),(6,.dat 2 (q.map Q7))],7⟩) qb ?_ ?_
   ·refine qt O p (fun _ p=>?_) (fun _ p=>?_)
    ·refine Q9<|U (.ref 2 2 0 1) O<|U (.hs 7 2 0 o.length) O<|q0 O<|U (.ref 5 2 0 0) O<|U (qe b.X) O<|qgu (ek:=(fun n : Int=>DV.int .i64 n)) (ev:=(DV.int .i64)) (es:=a.2.2.1) Jq 0 b.X O O O O O O O<|q0 O<|U (.d (.agg [qk (K7 0 b.X a.2.2.1),qk a.1])) O<|Qw (.hs 8 2 0 [({A:=K7 0 b.X a.2.2.1,B:=a.1} : qj)].length) (.dat 2 ([({A:=K7 0 b.X a.2.2.1,B:=a.1} : qj)].map Q7)) O<|q9 p fun ah ai p=>Ub (xs:=o) (ys:=[({A:=K7 0 b.X a.2.2.1,B:=a.1} : qj)]) (enc:=Q7) (.hs 8 2 0 [({A:=K7 0 b.X a.2.2.1,B:=a.1} : qj)].length) ai O O O O O O O (q2u O O) O O O O<|U (.ref 2 2 0 1) O<|Qy 2 (.cel 2 [[.d (.sl 2 (c.1.map qq)),.hs 9 2 0 ah.length]]) O<|Q8 ?_;obtain rfl:=qw p;exact ⟨_,O,wkA [(0,0),(1,1),(2,2),(3,3),(4,4),(5,5),(6,9)] [] []⟩
    refine qv<|Qf ?_;obtain rfl:=qw p;exact ⟨_,O,wkA [(0,0),(1,1),(2,2),(3,3),(4,4),(5,5),(6,7)] [] []⟩
   intro q hb;subst hb;refine Qg [Ql 4,Ql 3,q8,q8,qs 5,q8,q8,qs 5,q8,q8] qm<|q0 O<|U (.ref 5 2 0 1) O<|U (qe b.Y) O<|q0 O<|U (.ref 5 2 0 0) O<|U (qe b.X) O<|q0 O<|q0 O<|q39 (ek:=(fun n : Int=>DV.int .i64 n)) (ev:=(DV.int .i64)) (es:=a.2.1) Jq b.Y a.1 O O O O O O O O<|q39 (ek:=(fun n : Int=>DV.int .i64 n)) (ev:=(DV.int .i64)) (es:=a.2.2.1) Jq b.X a.1 O O O O O O O O<|Q8<|Qp<|Q9<|U (.d (qk (w64 (a.1 + 1)))) O<|q0 O<|Q8<|⟨_,qu j,wkA [(0,0),(1,1),(2,2),(3,3),(4,4),(5,6)] [] []⟩
  refine Qn ?_;refine ⟨_,qu j,fun hm=>?_⟩;subst hm;exact ⟨_,O,wkA [(0,0),(1,2),(2,5)] [] []⟩
 intro h hb;subst hb;refine qg<|U (.ref 1 2 0 1) O<|U (.hs 2 2 0 h.length) O<|q9 f fun x aj f=>q9 f fun an ak f=>?_;have al:=Kq ak;refine K2 [(0,2)] [(0,1),(1,1),(2,0)] [.hs 2 2 0 h.length,.d (.fn 62 [])] (.d (.tup [])) 1 [(2,.dat 2 (x.map Q7)),(0,.dat 2 [[.nilsl,.nilsl]]),(1,.cel 2 [[.d (.sl 2 (c.1.map qq)),.hs 2 2 0 h.length]])] 3 (q11k (fun t u=>q2p t u) 62 [] (fun t u r hr=>q13a t u r hr) h x aj)<|qd<|qi<|Qg [q8,Ql 0,q8,q8,qs 1,q8,qs 1] qm<|U (.agg [.d (.sl 2 (c.1.map qq)),.hs 2 2 0 h.length]) O<|U (.ref 1 2 0 1) O<|U (.hs 2 2 0 h.length) O<|U (qe (h.length : Int)) O<|U (.d (.bool (decide ((h.length : Int)≤800)))) O<|Qy 0 (.cel 2 [[.d (.sl 2 (c.1.map qq)),.hs 2 2 0 h.length]]) O<|qf O<|Qa ?_;obtain rfl:=qw f;exact finD (.inr O) (v:=.tup [.agg [.d (.sl 2 (c.1.map qq)),.hs 2 2 0 h.length],.d (.bool (decide ((h.length : Int)≤800)))]) O (qi1 (Za (q7g (Za O (Za (Zb (by simp [al]) O) O))) (Za O O))) (.refl _)
theorem q11g (c : List qa) (f : List qa) (r : Bool) (b : q9g c f = some r) : Pure Tryz.prog tab 45 [.sl 2 (c.map qq),.sl 2 (f.map qq)] (.bool r):=by
 unfold q9g at b;refine K6 Tryz.func45 O qm qm O<|qg<|qf O<|qd<|qi<|qg<|q0 O<|Kr O<|q0 O<|Kr O<|U _ O<|qd ?_;refine qt O b (fun _ b=>?_) (fun _ b=>?_)
 ·refine qg<|qf O<|Qa ?_;cases b;exact Qs _ O
 refine qv<|qi<|qg<|q0 O<|Kr O<|q0 O<|qd<|q9 b fun h k b=>?_;refine K3 (fun g=>.inl g = h) (fun g=>⟨[],[],0⟩) qb ?_ ?_
 ·refine Qv (q6h c f) (fun j=>⟨[(0,.d (.sl 2 (c.map qq))),(1,.d (.sl 2 (f.map qq))),(12,qe (c.length : Int)),(13,qe j)],[],0⟩) _ h k (wkA [] [] []) ?_;intro j n a;unfold q6h at a;refine qg<|U _ O<|qd<|qi ?_;refine qt O a (fun _ a=>?_) (fun _ a=>?_)
  ·refine qv<|qi<|Qe<|qg<|q0 O<|qf O<|qd<|qi<|Qg [q8,q8,q8,q8,q8,q8,q8,q8,q8] qm<|q0 O<|q0 O<|q9 a fun o l a=>Ky l O<|U _ O<|q0 O<|q0 O<|q9 a fun p m a=>Ky m O<|U _ O<|U _ O<|qd ?_;refine qt O a (fun _ a=>?_) (fun _ a=>?_)
   ·refine qg<|qf O<|Qa ?_;refine ⟨_,qu a,fun hm=>?_⟩;subst hm;cases b;exact Qs _ O
   refine qv<|Qf<|Qp<|Q9<|U _ O<|q0 O<|Q8<|⟨_,qu a,wkA [] [] []⟩
  refine Qn ?_;refine ⟨_,qu a,fun hm=>?_⟩;subst hm;exact ⟨_,O,wkA [] [] []⟩
 intro g hb;subst hb;refine qg<|qf O<|Qa ?_;cases b;exact Qs _ O
theorem q11f (c : List qj) (f : List qj) (r : Bool) (b : q9f c f = some r) : Pure Tryz.prog tab 46 [.sl 2 (c.map Q7),.sl 2 (f.map Q7)] (.bool r):=by
 unfold q9f at b;refine K6 Tryz.func46 O qm qm O<|qg<|qf O<|qd<|qi<|qg<|q0 O<|Kr O<|q0 O<|Kr O<|U _ O<|qd ?_;refine qt O b (fun _ b=>?_) (fun _ b=>?_)
 ·refine qg<|qf O<|Qa ?_;cases b;exact Qs _ O
 refine qv<|qi<|qg<|q0 O<|Kr O<|q0 O<|qd<|q9 b fun h k b=>?_;refine K3 (fun g=>.inl g = h) (fun g=>⟨[],[],0⟩) qb ?_ ?_
 ·refine Qv (q6g c f) (fun j=>⟨[(0,.d (.sl 2 (c.map Q7))),(1,.d (.sl 2 (f.map Q7))),(12,qe (c.length : Int)),(13,qe j)],[],0⟩) _ h k (wkA [] [] []) ?_;intro j n a;unfold q6g at a;refine qg<|U _ O<|qd<|qi ?_;refine qt O a (fun _ a=>?_) (fun _ a=>?_)
  ·refine qv<|qi<|Qe<|qg<|q0 O<|qf O<|qd<|qi<|Qg [q8,q8,q8,q8,q8,q8,q8,q8,q8] qm<|q0 O<|q0 O<|q9 a fun o l a=>Ky l O<|U _ O<|q0 O<|q0 O<|q9 a fun p m a=>Ky m O<|U _ O<|U _ O<|qd ?_;refine qt O a (fun _ a=>?_) (fun _ a=>?_)
   ·refine qg<|qf O<|Qa ?_;refine ⟨_,qu a,fun hm=>?_⟩;subst hm;cases b;exact Qs _ O
   refine qv<|Qf<|Qp<|Q9<|U _ O<|q0 O<|Q8<|⟨_,qu a,wkA [] [] []⟩
  refine Qn ?_;refine ⟨_,qu a,fun hm=>?_⟩;subst hm;exact ⟨_,O,wkA [] [] []⟩
 intro g hb;subst hb;refine qg<|qf O<|Qa ?_;cases b;exact Qs _ O
theorem q139 (c : Qh) (d : Qh) (r : Bool) (b : qbx c d = some r) : Pure Tryz.prog tab 21 [.agg [.sl 2 (c.Nodes.map qq),.sl 2 (c.Edges.map Q7)],.agg [.sl 2 (d.Nodes.map qq),.sl 2 (d.Edges.map Q7)]] (.bool r):=by
 unfold qbx at b;refine K6 Tryz.func21 O qm qm O<|qg<|Qw _ _ O<|Qw _ _ O<|qf O<|qx<|U _ O<|U _ O<|U _ O<|U _ O<|q9 b fun m n b=>Qi (q11g c.Nodes d.Nodes m n) O<|q9 b fun o a b=>?_;refine Qk 7 (fun A st=>∃ f g h j k l,st = A [(16,Q6 o),(15,l),(14,k),(13,j),(12,h),(11,g),(10,f)]) ?_ ?_
 ·refine Qj O O a (fun a=>?_) (fun a=>?_)
  ·refine U _ O<|U _ O<|U _ O<|U _ O<|q9 a fun p q a=>Qi (q11f c.Edges d.Edges p q) O<|U _ O<|qd ?_;cases a;exact ⟨_,_,_,_,_,_,O⟩
  refine qc O<|qc O<|qc O<|qc O<|qc O<|U _ O<|qd ?_;cases a;exact ⟨_,_,_,_,_,_,O⟩
 rintro _ ⟨f,g,h,j,k,l,rfl⟩;refine qf O<|Qa ?_;cases b;exact Qs _ O
theorem qow (c : Qh) (r : Int) (a : Uy c = some r) : Pure Tryz.prog tab 19 [.agg [.sl 2 (c.Nodes.map qq),.sl 2 (c.Edges.map Q7)]] (qk r):=by
 unfold Uy at a;refine K6 Tryz.func19 O qm qm O<|qg<|Qw _ _ O<|qf O<|qd<|qi<|qg<|U _ O<|U _ O<|Kr O<|U _ O<|q9 a fun t d a=>?_;refine Qk 6 (fun A st=>∃ f g h j k,st = A [(16,Q6 t),(15,k),(14,j),(13,h),(12,g),(11,f)]) ?_ ?_
 ·refine Qj O O d (fun d=>?_) (fun d=>?_)
  ·refine qc O<|qc O<|qc O<|qc O<|U _ O<|qd ?_;cases d;exact ⟨_,_,_,_,_,O⟩
  refine U _ O<|U _ O<|Kr O<|U _ O<|U _ O<|qd ?_;cases d;exact ⟨_,_,_,_,_,O⟩
 rintro _ ⟨f,g,h,j,k,rfl⟩;refine qd ?_;refine qt O a (fun _ a=>?_) (fun _ a=>?_)
 ·refine qg<|qf O<|Qa ?_;cases a;exact Qs _ O
 refine qv<|qg<|U _ O<|q9 a fun l u a=>Qi (qp1 c l u) O<|q0 O<|U _ O<|U _ O<|qf O<|qf O<|qd<|qi<|qg<|q0 O<|U _ O<|qd ?_;refine qt O a (fun _ a=>?_) (fun _ a=>?_)
 ·refine qg<|qf O<|Qa ?_;cases a;exact Qs _ O
 refine qv<|qi<|qg<|q0 O<|q9 a fun m v a=>Qi (qp2 l.1 m v) O<|q0 O<|U _ O<|U _ O<|K5 O O<|Qy 1 _ O<|qf O<|qx<|q0 O<|U _ O<|q9 a fun w b a=>?_;refine Qk 6 (fun A st=>∃ n o p q s,st = A [(36,Q6 w),(35,s),(34,q),(33,p),(32,o),(31,n)]) ?_ ?_
 ·refine Qj O O b (fun b=>?_) (fun b=>?_)
  ·refine qc O<|qc O<|qc O<|qc O<|U _ O<|qd ?_;cases b;exact ⟨_,_,_,_,_,O⟩
  refine U _ O<|U _ O<|q9 b fun x y b=>Qi (q139 m.1 c x y) O<|U _ O<|U _ O<|qd ?_;cases b;exact ⟨_,_,_,_,_,O⟩
 rintro _ ⟨n,o,p,q,s,rfl⟩;refine qd ?_;refine qt O a (fun _ a=>?_) (fun _ a=>?_)
 ·refine qg<|qf O<|Qa ?_;cases a;exact Qs _ O
 refine qv<|qg<|qf O<|Qa ?_;cases a;exact Qs _ O
theorem qhv (b : Qh) (r : List qr × Int) (a : q3i b = some r) : Pure Tryz.prog tab 11 [.agg [.sl 2 (b.Nodes.map qq),.sl 2 (b.Edges.map Q7)]] (.tup [.sl 4 (r.1.map Kc),qk r.2]):=by
 unfold q3i at a;refine K6 Tryz.func11 O qm qm O<|qg<|Qw _ _ O<|qf O<|qf O<|qd<|qi<|qg<|U _ O<|q9 a fun c d a=>Qi (qow b c d) O<|qf O<|qx<|q0 O<|U _ O<|qd ?_;refine qt O a (fun _ a=>?_) (fun _ a=>?_)
 ·refine qg<|q0 O<|qf O<|qf O<|Qa ?_;obtain rfl:=qw a;exact finD (.inr O) O O (Zu (.cons (.nil _) (.cons (.refl _) .nil)))
 refine qv<|qg<|U _ O<|q9 a fun f g a=>Qi (qp1 b f g) O<|q0 O<|U _ O<|U _ O<|qf O<|qf O<|qx<|q0 O<|qf O<|qf O<|Qa ?_;cases a;exact Qs _ O
theorem qni (f : qa) (r : Bool) (a : q5v f = some r) : Pure Tryz.prog tab 51 [.agg (qq f)] (.bool r):=by
 unfold q5v at a;refine K6 Tryz.func51 O qm qm O<|qg<|Qw _ _ O<|qf O<|qx<|U _ O<|U _ O<|U _ O<|q9 a fun u b a=>?_;refine Qk 5 (fun A st=>∃ g h j k,st = A [(10,Q6 u),(9,k),(8,j),(7,h),(6,g)]) ?_ ?_
 ·refine Qj O O b (fun b=>?_) (fun b=>?_)
  ·refine U _ O<|U _ O<|U _ O<|U _ O<|qd ?_;cases b;exact ⟨_,_,_,_,O⟩
  refine qc O<|qc O<|qc O<|U _ O<|qd ?_;cases b;exact ⟨_,_,_,_,O⟩
 rintro _ ⟨g,h,j,k,rfl⟩;refine q9 a fun v c a=>?_;refine Qk 5 (fun A st=>∃ l m n o,st = A [(15,Q6 v),(14,o),(13,n),(12,m),(11,l)]) ?_ ?_
 ·refine Qj O O c (fun c=>?_) (fun c=>?_)
  ·refine U _ O<|U _ O<|U _ O<|U _ O<|qd ?_;cases c;exact ⟨_,_,_,_,O⟩
  refine qc O<|qc O<|qc O<|U _ O<|qd ?_;cases c;exact ⟨_,_,_,_,O⟩
 rintro _ ⟨l,m,n,o,rfl⟩;refine q9 a fun w d a=>?_;refine Qk 5 (fun A st=>∃ p q s t,st = A [(20,Q6 w),(19,t),(18,s),(17,q),(16,p)]) ?_ ?_
 ·refine Qj O O d (fun d=>?_) (fun d=>?_)
  ·refine U _ O<|U _ O<|U _ O<|U _ O<|qd ?_;cases d;exact ⟨_,_,_,_,O⟩
  refine qc O<|qc O<|qc O<|U _ O<|qd ?_;cases d;exact ⟨_,_,_,_,O⟩
 rintro _ ⟨p,q,s,t,rfl⟩;refine qf O<|Qa ?_;cases a;exact Qs _ O
theorem qz2 (g : qr) (r : Bool) (a : q4e g = some r) : Pure Tryz.prog tab 54 [.agg (Kc g)] (.bool r):=by
 unfold q4e at a;refine K6 Tryz.func54 O qm qm O<|qg<|Qw _ _ O<|qf O<|qx<|U _ O<|U _ O<|U _ O<|U _ O<|U _ O<|q9 a fun aq b a=>?_;refine Qk 18 (fun A st=>∃ h j k l m n o p q s t u v w x y z,st = A [(25,Q6 aq),(24,z),(23,y),(22,x),(21,w),(20,v),(19,u),(18,t),(17,s),(16,q),(15,p),(14,o),(13,n),(12,m),(11,l),(10,k),(9,j),(8,h)]) ?_ ?_
 ·refine Qj O O b (fun b=>?_) (fun b=>?_)
  ·refine U _ O<|U _ O<|U _ O<|U _ O<|U _ O<|U _ O<|U _ O<|q9 b fun ar f b=>?_;refine Qk 9 (fun A st=>∃ aa ab ac ad ae af ag ah,st = A [(24,Q6 ar),(23,ah),(22,ag),(21,af),(20,ae),(19,ad),(18,ac),(17,ab),(16,aa)]) ?_ ?_
   ·refine Qj O O f (fun f=>?_) (fun f=>?_)
    ·refine qc O<|qc O<|qc O<|qc O<|qc O<|qc O<|qc O<|U _ O<|qd ?_;cases f;exact ⟨_,_,_,_,_,_,_,_,O⟩
    refine U _ O<|U _ O<|U _ O<|U _ O<|U _ O<|U _ O<|U _ O<|U _ O<|qd ?_;cases f;exact ⟨_,_,_,_,_,_,_,_,O⟩
   rintro _ ⟨aa,ab,ac,ad,ae,af,ag,ah,rfl⟩;refine U _ O<|qd ?_;cases b;exact ⟨_,_,_,_,_,_,_,_,_,_,_,_,_,_,_,_,_,O⟩
  refine qc O<|qc O<|qc O<|qc O<|qc O<|qc O<|qc O<|qc O<|qc O<|qc O<|qc O<|qc O<|qc O<|qc O<|qc O<|qc O<|U _ O<|qd ?_;cases b;exact ⟨_,_,_,_,_,_,_,_,_,_,_,_,_,_,_,_,_,O⟩
 rintro _ ⟨h,j,k,l,m,n,o,p,q,s,t,u,v,w,x,y,z,rfl⟩;refine q9 a fun au c a=>?_;refine Qk 5 (fun A st=>∃ ai aj ak al,st = A [(30,Q6 au),(29,al),(28,ak),(27,aj),(26,ai)]) ?_ ?_
 ·refine Qj O O c (fun c=>?_) (fun c=>?_)
  ·refine U _ O<|U _ O<|q9 c fun av aw c=>Qi (qni g.A av aw) O<|U _ O<|qd ?_;cases c;exact ⟨_,_,_,_,O⟩
  refine qc O<|qc O<|qc O<|U _ O<|qd ?_;cases c;exact ⟨_,_,_,_,O⟩
 rintro _ ⟨ai,aj,ak,al,rfl⟩;refine q9 a fun ax d a=>?_;refine Qk 5 (fun A st=>∃ am an ao ap,st = A [(35,Q6 ax),(34,ap),(33,ao),(32,an),(31,am)]) ?_ ?_
 ·refine Qj O O d (fun d=>?_) (fun d=>?_)
  ·refine U _ O<|U _ O<|q9 d fun ay az d=>Qi (qni g.B ay az) O<|U _ O<|qd ?_;cases d;exact ⟨_,_,_,_,O⟩
  refine qc O<|qc O<|qc O<|U _ O<|qd ?_;cases d;exact ⟨_,_,_,_,O⟩
 rintro _ ⟨am,an,ao,ap,rfl⟩;refine qf O<|Qa ?_;cases a;exact Qs _ O
theorem qh5 (d : Qh) (f : Qh) (r : Bool) (a : q2g d f = some r) : Pure Tryz.prog tab 22 [.agg [.sl 2 (d.Nodes.map qq),.sl 2 (d.Edges.map Q7)],.agg [.sl 2 (f.Nodes.map qq),.sl 2 (f.Edges.map Q7)]] (.bool r):=by
 unfold q2g at a;refine K6 Tryz.func22 O qm qm O<|qg<|Qw _ _ O<|Qw _ _ O<|qf O<|qd<|qi<|qg<|U _ O<|U _ O<|Kr O<|U _ O<|U _ O<|Kr O<|U _ O<|q9 a fun x g a=>?_;refine Qk 9 (fun A st=>∃ k l m n o p q s,st = A [(22,Q6 x),(21,s),(20,q),(19,p),(18,o),(17,n),(16,m),(15,l),(14,k)]) ?_ ?_
 ·refine Qj O O g (fun g=>?_) (fun g=>?_)
  ·refine qc O<|qc O<|qc O<|qc O<|qc O<|qc O<|qc O<|U _ O<|qd ?_;cases g;exact ⟨_,_,_,_,_,_,_,_,O⟩
  refine U _ O<|U _ O<|Kr O<|U _ O<|U _ O<|Kr O<|U _ O<|U _ O<|qd ?_;cases g;exact ⟨_,_,_,_,_,_,_,_,O⟩
 rintro _ ⟨k,l,m,n,o,p,q,s,rfl⟩;refine qd ?_;refine qt O a (fun _ a=>?_) (fun _ a=>?_)
 ·refine qg<|qf O<|Qa ?_;cases a;exact Qs _ O
 refine qv<|qi<|qg<|qf O<|qd<|q9 a fun t y a=>?_;refine K3 (fun h=>.inl h = t) (fun h=>⟨[(2,.ref 0 2 0 0),(3,.ref 1 2 0 0)],[(0,.dat 2 [[.sl 2 (d.Nodes.map qq),.sl 2 (d.Edges.map Q7)]]),(1,.dat 2 [[.sl 2 (f.Nodes.map qq),.sl 2 (f.Edges.map Q7)]])],2⟩) qb ?_ ?_
 ·refine Qv (q5y d f) (fun u=>⟨[(2,.ref 0 2 0 0),(3,.ref 1 2 0 0),(5,qe u)],[(0,.dat 2 [[.sl 2 (d.Nodes.map qq),.sl 2 (d.Edges.map Q7)]]),(1,.dat 2 [[.sl 2 (f.Nodes.map qq),.sl 2 (f.Edges.map Q7)]])],2⟩) _ t y (wkA [(0,0),(1,1)] [] []) ?_;intro u ae b;unfold q5y at b;refine qi<|qg<|q0 O<|U _ O<|U _ O<|Kr O<|U _ O<|qd ?_;refine qt O b (fun _ b=>?_) (fun _ b=>?_)
  ·refine qv<|qi<|Qe<|qi<|Qg [q8,q8,q8,q8,qs 1,q8,q8,q8,q8,qs 0,q8] qm<|U _ O<|U _ O<|q0 O<|q9 b fun af z b=>Ky z O<|U _ O<|U _ O<|U _ O<|q0 O<|q9 b fun ag aa b=>Ky aa O<|U _ O<|U _ O<|qd ?_;refine qt O b (fun _ b=>?_) (fun _ b=>?_)
   ·refine qg<|qf O<|Qa ?_;refine ⟨_,qu b,fun hm=>?_⟩;subst hm;cases a;exact Qs _ O
   refine qv<|Qf<|Qp<|Q9<|q0 O<|U _ O<|qf O<|Q8<|⟨_,qu b,wkA [(0,0),(1,1)] [] []⟩
  refine Qn ?_;refine ⟨_,qu b,fun hm=>?_⟩;subst hm;exact ⟨_,O,wkA [(0,0),(1,1)] [] []⟩
 intro h hb;subst hb;refine qi<|qg<|qf O<|qd<|q9 a fun v ab a=>?_;refine K3 (fun j=>.inl j = v) (fun j=>⟨[],[],0⟩) qb ?_ ?_
 ·refine Qv (q5z d f) (fun w=>⟨[(2,.ref 0 2 0 0),(3,.ref 1 2 0 0),(6,qe w)],[(0,.dat 2 [[.sl 2 (d.Nodes.map qq),.sl 2 (d.Edges.map Q7)]]),(1,.dat 2 [[.sl 2 (f.Nodes.map qq),.sl 2 (f.Edges.map Q7)]])],2⟩) _ v ab (wkA [(0,0),(1,1)] [] []) ?_;intro w ah c;unfold q5z at c;refine qi<|qg<|q0 O<|U _ O<|U _ O<|Kr O<|U _ O<|qd ?_;refine qt O c (fun _ c=>?_) (fun _ c=>?_)
  ·refine qv<|qi<|Qe<|qi<|Qg [q8,q8,q8,q8,qs 1,q8,q8,q8,q8,qs 0,q8] qm<|U _ O<|U _ O<|q0 O<|q9 c fun ai ac c=>Ky ac O<|U _ O<|U _ O<|U _ O<|q0 O<|q9 c fun aj ad c=>Ky ad O<|U _ O<|U _ O<|qd ?_;refine qt O c (fun _ c=>?_) (fun _ c=>?_)
   ·refine qg<|qf O<|Qa ?_;refine ⟨_,qu c,fun hm=>?_⟩;subst hm;cases a;exact Qs _ O
   refine qv<|Qf<|Qp<|Q9<|q0 O<|U _ O<|qf O<|Q8<|⟨_,qu c,wkA [(0,0),(1,1)] [] []⟩
  refine Qn ?_;refine ⟨_,qu c,fun hm=>?_⟩;subst hm;exact ⟨_,O,wkA [] [] []⟩
 intro j hb;subst hb;refine qg<|qf O<|Qa ?_;cases a;exact Qs _ O
theorem q11h (b : List qr) (f : qr→Option Bool) (p1F : FuncId) (p1C : List DV) (p1Ok : ∀ (h : qr) (r : Bool),f h = some r→Pure Tryz.prog tab p1F ([.agg (Kc h)] ++ p1C) (.bool r)) (r : Int) (c : qe7 b f = some r) : Pure Tryz.prog tab 57 [.sl 4 (b.map Kc),.fn p1F p1C] (qk r):=by
 unfold qe7 at c;refine K6 Tryz.func57 O qm qm O<|qg<|qf O<|qd<|qi<|qg<|q0 O<|Kr O<|q0 O<|qd<|q9 c fun j l c=>?_;refine K3 (fun g=>.inl g = j) (fun g=>⟨[],[],0⟩) qb ?_ ?_
 ·refine Qv (q3d b f) (fun k=>⟨[(0,.d (.sl 4 (b.map Kc))),(1,.d (.fn p1F p1C)),(7,qe (b.length : Int)),(8,qe k)],[],0⟩) _ j l (wkA [] [] []) ?_;intro k q a;unfold q3d at a;refine qg<|U _ O<|qd<|qi ?_;refine qt O a (fun _ a=>?_) (fun _ a=>?_)
  ·refine qv<|qi<|Qe<|qg<|q0 O<|qf O<|qx<|q0 O<|q0 O<|q0 O<|q9 a fun m n a=>Ky n O<|U _ O<|q9 a fun o p a=>Kj _ (p1Ok m o p) O O O (.inl O)<|qd ?_;refine qt O a (fun _ a=>?_) (fun _ a=>?_)
   ·refine qg<|q0 O<|qf O<|Qa ?_;refine ⟨_,qu a,fun hm=>?_⟩;subst hm;cases c;exact Qs _ O
   refine qv<|Qf<|Qp<|Q9<|U _ O<|q0 O<|Q8<|⟨_,qu a,wkA [] [] []⟩
  refine Qn ?_;refine ⟨_,qu a,fun hm=>?_⟩;subst hm;exact ⟨_,O,wkA [] [] []⟩
 intro g hb;subst hb;refine qg<|qf O<|Qa ?_;cases c;exact Qs _ O
theorem q11e (b : List qr) (c : qr→Option Bool) (p1F : FuncId) (p1C : List DV) (p1Ok : ∀ (d : qr) (r : Bool),c d = some r→Pure Tryz.prog tab p1F ([.agg (Kc d)] ++ p1C) (.bool r)) (r : Bool) (a : q6e b c = some r) : Pure Tryz.prog tab 38 [.sl 4 (b.map Kc),.fn p1F p1C] (.bool r):=by
 unfold q6e at a;refine K6 Tryz.func38 O qm qm O<|qg<|qf O<|qx<|q0 O<|q0 O<|q9 a fun f g a=>Qi (q11h b c p1F p1C p1Ok f g) O<|U _ O<|qf O<|Qa ?_;cases a;exact Qs _ O
theorem q13b (a : qr) (g : qa) (r : Bool) (b : q7c a g = some r) : Pure Tryz.prog tab 40 [.agg (Kc a),.agg (qq g)] (.bool r):=by
 unfold q7c at b;refine K6 Tryz.func40 O qm qm O<|qg<|Qw _ _ O<|Qw _ _ O<|qf O<|qx<|U _ O<|U _ O<|U _ O<|U _ O<|U _ O<|U _ O<|Jt (r:=min a.A.X a.B.X) O O (by simp only [Js];rfl)<|U _ O<|U _ O<|U _ O<|q9 b fun c1 c b=>?_;refine Qk 12 (fun A st=>∃ h j k l m n o p q s t,st = A [(26,Q6 c1),(25,t),(24,s),(23,q),(22,p),(21,o),(20,n),(19,m),(18,l),(17,k),(16,j),(15,h)]) ?_ ?_
 ·refine Qj O O c (fun c=>?_) (fun c=>?_)
  ·refine U _ O<|U _ O<|U _ O<|U _ O<|U _ O<|U _ O<|U _ O<|U _ O<|Zr (r:=max a.A.X a.B.X) O O (by simp only [Zq];rfl)<|U _ O<|U _ O<|qd ?_;cases c;exact ⟨_,_,_,_,_,_,_,_,_,_,_,O⟩
  refine qc O<|qc O<|qc O<|qc O<|qc O<|qc O<|qc O<|qc O<|qc O<|qc O<|U _ O<|qd ?_;cases c;exact ⟨_,_,_,_,_,_,_,_,_,_,_,O⟩
 rintro _ ⟨h,j,k,l,m,n,o,p,q,s,t,rfl⟩;refine q9 b fun ar d b=>?_;refine Qk 12 (fun A st=>∃ u v w x y z aa ab ac ad ae,st = A [(38,Q6 ar),(37,ae),(36,ad),(35,ac),(34,ab),(33,aa),(32,z),(31,y),(30,x),(29,w),(28,v),(27,u)]) ?_ ?_
 ·refine Qj O O d (fun d=>?_) (fun d=>?_)
  ·refine U _ O<|U _ O<|U _ O<|U _ O<|U _ O<|U _ O<|Jt (r:=min a.A.Y a.B.Y) O O (by simp only [Js];rfl)<|U _ O<|U _ O<|U _ O<|U _ O<|qd ?_;cases d;exact ⟨_,_,_,_,_,_,_,_,_,_,_,O⟩
  refine qc O<|qc O<|qc O<|qc O<|qc O<|qc O<|qc O<|qc O<|qc O<|qc O<|U _ O<|qd ?_;cases d;exact ⟨_,_,_,_,_,_,_,_,_,_,_,O⟩
 rintro _ ⟨u,v,w,x,y,z,aa,ab,ac,ad,ae,rfl⟩;refine q9 b fun au f b=>?_;refine Qk 12 (fun A st=>∃ af ag ah ai aj ak al am an ao ap,st = A [(50,Q6 au),(49,ap),(48,ao),(47,an),(46,am),(45,al),(44,ak),(43,aj),(42,ai),(41,ah),(40,ag),(39,af)]) ?_ ?_
 ·refine Qj O O f (fun f=>?_) (fun f=>?_)
  ·refine U _ O<|U _ O<|U _ O<|U _ O<|U _ O<|U _ O<|U _ O<|U _ O<|Zr (r:=max a.A.Y a.B.Y) O O (by simp only [Zq];rfl)<|U _ O<|U _ O<|qd ?_;cases f;exact ⟨_,_,_,_,_,_,_,_,_,_,_,O⟩
  refine qc O<|qc O<|qc O<|qc O<|qc O<|qc O<|qc O<|qc O<|qc O<|qc O<|U _ O<|qd ?_;cases f;exact ⟨_,_,_,_,_,_,_,_,_,_,_,O⟩
 rintro _ ⟨af,ag,ah,ai,aj,ak,al,am,an,ao,ap,rfl⟩;refine qf O<|Qa ?_;cases b;exact Qs _ O
theorem q137 (b : qr) (c : qa) (r : Bool) (a : qbw b c = some r) : Pure Tryz.prog tab 39 [.agg (Kc b),.box (qq c)] (.bool r):=by
 unfold qbw at a;refine K6 Tryz.func39 O qm qm O<|qg<|Qw _ _ O<|qf O<|qx<|U _ O<|U _ O<|q9 a fun d f a=>Qi (q13b b c d f) O<|qf O<|Qa ?_;cases a;exact Qs _ O
theorem qoy (c : Qh) (b : qa) (r : Bool × Int) (a : q4s c b = some r) : Pure Tryz.prog tab 13 [.agg [.sl 2 (c.Nodes.map qq),.sl 2 (c.Edges.map Q7)],.agg (qq b)] (.tup [.bool r.1,qk r.2]):=by
 unfold q4s at a;refine K6 Tryz.func13 O qm qm O<|qg<|Qw _ _ O<|Qw _ _ O<|qf O<|qf O<|qx<|U _ O<|q9 a fun f h a=>Qi (qhv c f h) O<|q0 O<|U _ O<|U _ O<|qf O<|qf O<|qd<|qi<|qg<|q0 O<|U _ O<|qd ?_;refine qt O a (fun _ a=>?_) (fun _ a=>?_)
 ·refine qg<|q0 O<|qf O<|qf O<|Qa ?_;cases a;exact Qs _ O
 refine qv<|qg<|q0 O<|U _ O<|q9 a fun j k a=>Uc [.d (.sl 4 (f.1.map Kc)),.fn 39 [.ref 1 2 0 0]] (q11e f.1 (fun g=>qbw g b) 39 [.box (qq b)] (fun g r hr=>q137 g b r hr) j k) O O (Yd O (Yd (qp7 (Za O O)) O)) (.inr O)<|qf O<|qf O<|Qa ?_;cases a;exact Qs _ O
theorem qz1 (a : qr) (g : qa) (r : Bool) (b : q91 a g = some r) : Pure Tryz.prog tab 35 [.agg (Kc a),.agg (qq g)] (.bool r):=by
 unfold q91 at b;refine K6 Tryz.func35 O qm qm O<|qg<|Qw _ _ O<|Qw _ _ O<|qf O<|qx<|U _ O<|U _ O<|U _ O<|U _ O<|U _ O<|U _ O<|U _ O<|U _ O<|Jt (r:=min a.A.X a.B.X) O O (by simp only [Js];rfl)<|U _ O<|q9 b fun c1 c b=>?_;refine Qk 12 (fun A st=>∃ h j k l m n o p q s t,st = A [(26,Q6 c1),(25,t),(24,s),(23,q),(22,p),(21,o),(20,n),(19,m),(18,l),(17,k),(16,j),(15,h)]) ?_ ?_
 ·refine Qj O O c (fun c=>?_) (fun c=>?_)
  ·refine U _ O<|U _ O<|U _ O<|U _ O<|U _ O<|U _ O<|U _ O<|U _ O<|Zr (r:=max a.A.X a.B.X) O O (by simp only [Zq];rfl)<|U _ O<|U _ O<|qd ?_;cases c;exact ⟨_,_,_,_,_,_,_,_,_,_,_,O⟩
  refine qc O<|qc O<|qc O<|qc O<|qc O<|qc O<|qc O<|qc O<|qc O<|qc O<|U _ O<|qd ?_;cases c;exact ⟨_,_,_,_,_,_,_,_,_,_,_,O⟩
 rintro _ ⟨h,j,k,l,m,n,o,p,q,s,t,rfl⟩;refine q9 b fun ar d b=>?_;refine Qk 12 (fun A st=>∃ u v w x y z aa ab ac ad ae,st = A [(38,Q6 ar),(37,ae),(36,ad),(35,ac),(34,ab),(33,aa),(32,z),(31,y),(30,x),(29,w),(28,v),(27,u)]) ?_ ?_
 ·refine Qj O O d (fun d=>?_) (fun d=>?_)
  ·refine U _ O<|U _ O<|U _ O<|U _ O<|U _ O<|U _ O<|U _ O<|U _ O<|Jt (r:=min a.A.Y a.B.Y) O O (by simp only [Js];rfl)<|U _ O<|U _ O<|qd ?_;cases d;exact ⟨_,_,_,_,_,_,_,_,_,_,_,O⟩
  refine qc O<|qc O<|qc O<|qc O<|qc O<|qc O<|qc O<|qc O<|qc O<|qc O<|U _ O<|qd ?_;cases d;exact ⟨_,_,_,_,_,_,_,_,_,_,_,O⟩
 rintro _ ⟨u,v,w,x,y,z,aa,ab,ac,ad,ae,rfl⟩;refine q9 b fun au f b=>?_;refine Qk 12 (fun A st=>∃ af ag ah ai aj ak al am an ao ap,st = A [(50,Q6 au),(49,ap),(48,ao),(47,an),(46,am),(45,al),(44,ak),(43,aj),(42,ai),(41,ah),(40,ag),(39,af)]) ?_ ?_
 ·refine Qj O O f (fun f=>?_) (fun f=>?_)
  ·refine U _ O<|U _ O<|U _ O<|U _ O<|U _ O<|U _ O<|U _ O<|U _ O<|Zr (r:=max a.A.Y a.B.Y) O O (by simp only [Zq];rfl)<|U _ O<|U _ O<|qd ?_;cases f;exact ⟨_,_,_,_,_,_,_,_,_,_,_,O⟩
  refine qc O<|qc O<|qc O<|qc O<|qc O<|qc O<|qc O<|qc O<|qc O<|qc O<|U _ O<|qd ?_;cases f;exact ⟨_,_,_,_,_,_,_,_,_,_,_,O⟩
 rintro _ ⟨af,ag,ah,ai,aj,ak,al,am,an,ao,ap,rfl⟩;refine qf O<|Qa ?_;cases b;exact Qs _ O
theorem qox (h : Qh) (m : Int) (r : Int × Int) (a : q2o h m = some r) : Pure Tryz.prog tab 15 [.agg [.sl 2 (h.Nodes.map qq),.sl 2 (h.Edges.map Q7)],qk m] (.tup [qk r.1,qk r.2]):=by
 unfold q2o at a;refine K6 Tryz.func15 O qm qm O<|qg<|Qw _ _ O<|qf O<|qf O<|qx<|U _ O<|q9 a fun n x a=>Qi (qhv h n x) O<|q0 O<|U _ O<|U _ O<|qf O<|qf O<|qd<|qi<|qg<|q0 O<|U _ O<|qd ?_;refine qt O a (fun _ a=>?_) (fun _ a=>?_)
 ·refine qg<|q0 O<|qf O<|qf O<|Qa ?_;cases a;exact Qs _ O
 refine qv<|qi<|qg<|q0 O<|U _ O<|q9 a fun y g a=>?_;refine Qk 7 (fun A st=>∃ o p q s t u,st = A [(27,Q6 y),(26,u),(25,t),(24,s),(23,q),(22,p),(21,o)]) ?_ ?_
 ·refine Qj O O g (fun g=>?_) (fun g=>?_)
  ·refine qc O<|qc O<|qc O<|qc O<|qc O<|U _ O<|qd ?_;cases g;exact ⟨_,_,_,_,_,_,O⟩
  refine q0 O<|U _ O<|U _ O<|Kr O<|U _ O<|U _ O<|qd ?_;cases g;exact ⟨_,_,_,_,_,_,O⟩
 rintro _ ⟨o,p,q,s,t,u,rfl⟩;refine qd ?_;refine qt O a (fun _ a=>?_) (fun _ a=>?_)
 ·refine qg<|qf O<|qf O<|Qa ?_;cases a;exact Qs _ O
 refine qv<|qg<|qf O<|qd<|qi<|qi<|Qg [q8,q8,q8,q8,q8,qs 0,q8,q8,q8] qm<|q0 O<|q9 a fun v z a=>Qi (qoz n.1 v z) O<|U _ O<|U _ O<|q0 O<|q9 a fun aa ab a=>Ky ab O<|U _ O<|q9 a fun b ac a=>Qi (qhx v aa b ac) O<|q0 O<|qd<|q9 a fun w ad a=>?_;refine K3 (fun j=>j = w) (fun j=>⟨[(8,qe j)],[],0⟩) qb ?_ ?_
 ·refine Qv (q3g b) (fun k=>⟨[(8,qe k.1),(35,.d (.agg [.bool b.1,.bool b.2.1,.bool b.2.2.1,.bool b.2.2.2])),(36,qe k.2)],[],0⟩) _ w ad (wkA [] [] []) ?_;intro k ah c;unfold q3g at c;refine qg<|U _ O<|qd<|qi ?_;refine qt O c (fun _ c=>?_) (fun _ c=>?_)
  ·refine qv<|qi<|q9 c fun ae f c=>?_;refine K3 (fun l=>l = ae) (fun l=>⟨[(8,qe l),(35,.d (.agg [.bool b.1,.bool b.2.1,.bool b.2.2.1,.bool b.2.2.2])),(36,qe k.2)],[],0⟩) qb ?_ ?_
   ·refine qg<|q9 f fun af ag f=>qw1 (enc:=eB) [b.1,b.2.1,b.2.2.1,b.2.2.2] (Q6 af) ag (fun _=>rfl) O O O O O O<|qf O<|qx<|q0 O<|qd ?_;refine qt O f (fun _ f=>?_) (fun _ f=>?_)
    ·refine Q9<|q0 O<|U _ O<|qf O<|Q8 ?_;obtain rfl:=qw f;exact ⟨_,O,wkA [] [] []⟩
    refine qv<|Qf ?_;obtain rfl:=qw f;exact ⟨_,O,wkA [] [] []⟩
   intro l hb;subst hb;refine Q9<|U _ O<|q0 O<|Q8<|⟨_,qu c,wkA [] [] []⟩
  refine Qn ?_;refine ⟨_,qu c,fun hm=>?_⟩;subst hm;exact ⟨_,O,wkA [] [] []⟩
 intro j hb;subst hb;refine qg<|q0 O<|qf O<|qf O<|Qa ?_;cases a;exact Qs _ O
end Go.Proofs.YtgkialgkmjnfbaaGreat
