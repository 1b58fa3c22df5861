/- W_Allc -/
import Derived.Test.YtgkialgkmjnfbaaGreatK19
namespace Go.Proofs.YtgkialgkmjnfbaaGreat
open Go Go.Am Go.Sh
set_option maxHeartbeats 8000000
set_option maxRecDepth 100000
theorem q11z (rec : List qi→Int→Int→Int→Option (List qi)) (g : qi→qi→Option Int) (q1F : FuncId) (q1C : List DV) (q1Ok : ∀ (x0 : qi) (x1 : qi) (r : Int),g x0 x1 = some r→Pure Tryz.prog tab q1F ([.agg (Q2 x0),.agg (Q2 x1)] ++ q1C) (qc r)) (hrec : ∀ (o : List qi) (q : Int) (s : Int) (t : Int) (r : List qi),rec o q s t = some r→K1 Tryz.prog tab 81 [.hs 0 2 0 o.length,qb q,qb s,qb t,.d (.fn q1F q1C)] [(0,.dat 2 (o.map Q2))] 1 (.d (.tup [])) [(0,.dat 2 (r.map Q2))] 1) (o : List qi) (q : Int) (s : Int) (t : Int) (r : List qi) (p : q6v rec g o q s t = some r) : K1 Tryz.prog tab 81 [.hs 0 2 0 o.length,qb q,qb s,qb t,.d (.fn q1F q1C)] [(0,.dat 2 (o.map Q2))] 1 (.d (.tup [])) [(0,.dat 2 (r.map Q2))] 1:=by
 unfold q6v at p;refine Kg Tryz.func81 O qm qm O<|qh<|qg O<|qy<|qg O<|qf<|q9 p fun be bf p=>Qe<|Qu (q6u g rec) (fun b=>⟨[(0,.hs 0 2 0 b.2.2.2.2.2.length),(1,qb b.1),(2,qb b.2.1),(3,qb b.2.2.1),(4,.d (.fn q1F q1C)),(10,qr b.2.2.2.1),(11,qr b.2.2.2.2.1)],[(0,.dat 2 (b.2.2.2.2.2.map Q2))],1⟩) _ be bf (wkA [] [] []) ?_;intro b cr a;unfold q6u at a;refine Qe<|qh<|q0 O<|q0 O<|U _ O<|qg O<|qf<|qk<|qh<|q0 O<|U _ O<|qf ?_;refine qw O a (fun _ a=>?_) (fun _ a=>?_)
 ·refine qh<|q0 O<|q0 O<|q0 O<|q0 O<|q9 a fun ad bg a=>q9 a fun cs bh a=>?_;have ct:=Kq bh;refine K2 [(0,0)] [(0,0)] _ (.d (.tup [])) 1 [(0,.dat 2 (ad.map Q2))] 1 (q11n g q1F q1C q1Ok b.2.2.2.2.2 b.1 b.2.1 ad bg)<|Qa ?_;refine ⟨_,qv a,fun hm=>?_⟩;subst hm;obtain rfl:=qs p;exact ⟨.inr O,_,O,wkA [] [] []⟩
 refine qx<|qk<|qh<|q0 O<|U _ O<|qf ?_;refine qw O a (fun _ a=>?_) (fun _ a=>?_)
 ·refine qh<|q0 O<|q0 O<|q0 O<|q0 O<|q9 a fun ae bi a=>q9 a fun cu bj a=>?_;have cv:=Kq bj;refine K2 [(0,0)] [(0,0)] _ (.d (.tup [])) 1 [(0,.dat 2 (ae.map Q2))] 1 (q11k g q1F q1C q1Ok b.2.2.2.2.2 b.1 b.2.1 ae bi)<|Qa ?_;refine ⟨_,qv a,fun hm=>?_⟩;subst hm;obtain rfl:=qs p;exact ⟨.inr O,_,O,wkA [] [] []⟩
 refine qx<|qk<|qh<|q0 O<|U _ O<|qf<|q9 a fun bk l a=>?_;refine Y4 (fun c=>c = bk) (fun c=>⟨[(0,.hs 0 2 0 c.2.length),(1,qb b.1),(2,qb b.2.1),(3,qb c.1),(4,.d (.fn q1F q1C)),(10,qr b.2.2.2.1),(11,qr b.2.2.2.2.1),(12,.d (qc (w64 (b.2.1 - b.1))))],[(0,.dat 2 (c.2.map Q2))],1⟩) qd ?_ ?_
 ·refine qw O l (fun _ l=>?_) (fun _ l=>?_)
  ·refine qh<|q0 O<|q0 O<|q0 O<|q0 O<|q9 l fun af bl l=>q9 l fun cw bm l=>?_;have bn:=Kq bm;refine K2 [(0,0)] [(0,0)] _ (.d (.tup [])) 1 [(0,.dat 2 (af.map Q2))] 1 (q11e g q1F q1C q1Ok b.2.2.2.2.2 b.1 b.2.1 af bl)<|qf<|Q9<|q0 O<|U _ O<|qg O<|Q8 ?_;obtain rfl:=qs l;exact ⟨_,O,wkE [] [] [] O ⟨⟨_,O,Qy (by simp [bn]) O qz (ltd O)⟩,ql O,ql O,ql O,ql O,ql O,ql O,ql O,trivial⟩ ⟨Qo O O,trivial⟩⟩
  refine qx<|Qf ?_;obtain rfl:=qs l;exact ⟨_,O,wkA [] [] []⟩
 intro c hb;subst hb;refine qh<|q0 O<|q0 O<|q0 O<|q0 O<|q9 a fun bo bp a=>U9 [.hs 0 2 0 c.2.length,qb b.1,qb b.2.1,.d (.fn q1F q1C)] (q11h c.2 b.1 b.2.1 g q1F q1C q1Ok bo bp) O O (Yd (Zc O O) (Yd O (Yd O (Yd O O)))) (.inr O)<|q0 O<|U _ O<|U _ O<|qg O<|qg O<|qf<|qk<|qh<|q0 O<|U _ O<|qf<|q9 a fun bq m a=>?_;refine Y4 (fun h=>h = bq) (fun h=>⟨[(0,.hs 0 2 0 h.2.2.length),(1,qb b.1),(2,qb b.2.1),(3,qb c.1),(4,.d (.fn q1F q1C)),(10,qr b.2.2.2.1),(11,qr b.2.2.2.2.1),(12,.d (qc (w64 (b.2.1 - b.1)))),(13,qb h.1),(14,qb h.2.1)],[(0,.dat 2 (h.2.2.map Q2))],1⟩) qd ?_ ?_
 ·refine qw O m (fun _ m=>?_) (fun _ m=>?_)
  ·refine qh<|q0 O<|q0 O<|q0 O<|q0 O<|q9 m fun ag br m=>q9 m fun cx bs m=>?_;have bt:=Kq bs;refine K2 [(0,0)] [(0,0)] _ (.d (.tup [])) 1 [(0,.dat 2 (ag.map Q2))] 1 (q125 g q1F q1C q1Ok c.2 b.1 b.2.1 ag br)<|qy<|q0 O<|U _ O<|q0 O<|q0 O<|U _ O<|U _ O<|qg O<|qf<|Q9<|qg O<|Q8 ?_;obtain rfl:=qs m;exact ⟨_,O,wkE [] [] [] O ⟨⟨_,O,Qy (by simp [bt]) O qz (ltd O)⟩,ql O,ql O,ql O,ql O,ql O,ql O,ql O,ql O,ql O,trivial⟩ ⟨Qo O O,trivial⟩⟩
  refine qx<|Qf ?_;obtain rfl:=qs m;exact ⟨_,O,wkA [] [] []⟩
 intro h hb;subst hb;refine qk<|qh<|q0 O<|q9 a fun bu u a=>?_;refine Qn 3 (fun A st=>∃ ah ai,st = A [(71,qr bu),(70,ai),(69,ah)]) ?_ ?_
 ·refine Qm O O u (fun u=>?_) (fun u=>?_)
  ·refine q0 O<|U _ O<|qf ?_;cases u;exact ⟨_,_,O⟩
  refine qe O<|U _ O<|qf ?_;cases u;exact ⟨_,_,O⟩
 rintro _ ⟨ah,ai,rfl⟩;refine q9 a fun bv v a=>?_;refine Qn 4 (fun A st=>∃ aj ak al,st = A [(75,qr bv),(74,al),(73,ak),(72,aj)]) ?_ ?_
 ·refine Qm O O v (fun v=>?_) (fun v=>?_)
  ·refine q0 O<|U _ O<|U _ O<|qf ?_;cases v;exact ⟨_,_,_,O⟩
  refine qe O<|qe O<|U _ O<|qf ?_;cases v;exact ⟨_,_,_,O⟩
 rintro _ ⟨aj,ak,al,rfl⟩;refine qf<|q9 a fun bw f a=>?_;refine Y4 (fun n=>.inl n = bw) (fun n=>⟨[(0,.hs 0 2 0 n.length),(1,qb b.1),(2,qb b.2.1),(3,qb c.1),(4,.d (.fn q1F q1C)),(10,qr b.2.2.2.1),(11,qr b.2.2.2.2.1),(12,.d (qc (w64 (b.2.1 - b.1)))),(13,qb h.1)],[(0,.dat 2 (n.map Q2))],1⟩) qd ?_ ?_
 ·refine qw O f (fun _ f=>?_) (fun _ f=>?_)
  ·refine qh<|q0 O<|q0 O<|q0 O<|q0 O<|q9 f fun x bx f=>q9 f fun cy bz f=>?_;have ca:=Kq bz;refine K2 [(0,0)] [(0,0)] _ (qr x.1) 1 [(0,.dat 2 (x.2.map Q2))] 1 (q11q g q1F q1C q1Ok h.2.2 b.1 b.2.1 x bx)<|qf ?_;refine qw O f (fun _ f=>?_) (fun _ f=>?_)
   ·refine q1p ?_;obtain rfl:=qs f;refine ⟨_,qv a,fun hm=>?_⟩;subst hm;obtain rfl:=qs p;exact ⟨.inr O,_,O,wkA [] [] []⟩
   refine qx<|Qf ?_;obtain rfl:=qs f;exact ⟨_,O,wkE [] [] [] O ⟨⟨_,O,Qy (by simp [ca]) O qz (ltd O)⟩,ql O,ql O,ql O,ql O,ql O,ql O,ql O,ql O,trivial⟩ ⟨Qo O O,trivial⟩⟩
  refine qx<|Qf ?_;obtain rfl:=qs f;exact ⟨_,O,wkA [] [] []⟩
 intro n hb;subst hb;refine qk<|qk<|Qg [q8,q8,q8,q8,qu 0,q8,q8,q8,qu 0,q8,q8,q8,q8,q8,q8,q8,q8] qm<|q0 O<|U _ O<|q9 a fun cb j a=>?_;refine Qn 15 (fun A st=>∃ am an ao ap aq ar au av aw ax ay az ba bb,st = A [(97,qr cb),(96,bb),(95,ba),(94,az),(93,ay),(92,ax),(91,aw),(90,av),(89,au),(88,ar),(87,aq),(86,ap),(85,ao),(84,an),(83,am)]) ?_ ?_
 ·refine Qm O O j (fun j=>?_) (fun j=>?_)
  ·refine q0 O<|q0 O<|q0 O<|U _ O<|q9 j fun cc bc j=>qp bc O O<|Q6 _ bc O<|q0 O<|q0 O<|q9 j fun cd bd j=>qp bd O O<|Q6 _ bd O<|q9 j fun ce cf j=>Ki _ (q1Ok cc cd ce cf) O O O (.inl O)<|U _ O<|U _ O<|U _ O<|qf ?_;cases j;exact ⟨_,_,_,_,_,_,_,_,_,_,_,_,_,_,O⟩
  refine qe O<|qe O<|qe O<|qe O<|qe O<|qe O<|qe O<|qe O<|qe O<|qe O<|qe O<|qe O<|qe O<|U _ O<|qf ?_;cases j;exact ⟨_,_,_,_,_,_,_,_,_,_,_,_,_,_,O⟩
 rintro _ ⟨am,an,ao,ap,aq,ar,au,av,aw,ax,ay,az,ba,bb,rfl⟩;refine qf ?_;refine qw O a (fun _ a=>?_) (fun _ a=>?_)
 ·refine qh<|q0 O<|q0 O<|q0 O<|q0 O<|q0 O<|q9 a fun y cg a=>q9 a fun cz ch a=>?_;have ci:=Kq ch;refine K2 [(0,0)] [(0,0)] _ (qb y.1) 1 [(0,.dat 2 (y.2.map Q2))] 1 (q11w g q1F q1C q1Ok n b.1 b.2.1 h.1 y cg)<|qg O<|qy<|q0 O<|qg O<|qf<|Ql<|q7m<|Qf<|⟨_,qv a,wkE [] [] [] O ⟨⟨_,O,Qy (by simp [ci]) O qz (ltd O)⟩,ql O,ql O,ql O,ql O,ql O,ql O,trivial⟩ ⟨Qo O O,trivial⟩⟩
 refine qx<|qh<|q0 O<|q0 O<|q0 O<|q0 O<|q0 O<|q9 a fun k cj a=>q9 a fun da ck a=>?_;have w:=Kq ck;refine K2 [(0,0)] [(0,0)] _ (.d (.tup [qc k.1,.bool k.2.1])) 1 [(0,.dat 2 (k.2.2.map Q2))] 1 (q11t g q1F q1C q1Ok n b.1 b.2.1 h.1 k cj)<|q0 O<|U _ O<|U _ O<|qg O<|qg O<|qy<|q0 O<|qg O<|qy<|q0 O<|q0 O<|U _ O<|q0 O<|q0 O<|U _ O<|qg O<|qg O<|qy<|q0 O<|U _ O<|qg O<|qy<|q0 O<|q0 O<|U _ O<|qf ?_;refine qw O a (fun _ a=>?_) (fun _ a=>?_)
 ·refine qh<|q0 O<|q0 O<|U _ O<|qg O<|qy<|q0 O<|q0 O<|q0 O<|q0 O<|q0 O<|q9 a fun z cl a=>q9 a fun dc cm a=>?_;have cn:=Kq cm;refine Ur [(0,0)] [(0,0)] [.hs 0 2 0 n.length,qb b.1,qb k.1,qb c.1,.d (.fn q1F q1C)] (.d (.tup [])) [(0,.dat 2 (z.map Q2))] [(0,.dat 2 (z.map Q2))] 1 (hrec k.2.2 b.1 k.1 c.1 z cl) O O O (Yy [(0,0)] [] [] O ⟨⟨_,O,Qy (by simp [w]) O qz (ltd O)⟩,ql O,ql O,ql O,ql O,trivial⟩ ⟨Qo O O,trivial⟩) (Yy [(0,0)] [] [] O ⟨ql O,trivial⟩ ⟨Qo O O,trivial⟩) O ⟨.inl O,trivial⟩<|qf<|Q9<|q0 O<|U _ O<|qg O<|Q8<|Qp<|Qf<|⟨_,qv a,wkE [] [] [] O ⟨⟨_,O,Qy (by simp [w,cn]) O qz (ltd O)⟩,ql O,ql O,ql O,ql O,ql O,ql O,trivial⟩ ⟨Qo O O,trivial⟩⟩
 refine qh<|q0 O<|q0 O<|U _ O<|qg O<|qy<|q0 O<|q0 O<|U _ O<|q0 O<|q0 O<|q0 O<|q9 a fun aa co a=>q9 a fun dd cp a=>?_;have cq:=Kq cp;refine Ur [(0,0)] [(0,0)] [.hs 0 2 0 n.length,.d (qc (w64 (k.1 + 1))),qb b.2.1,qb c.1,.d (.fn q1F q1C)] (.d (.tup [])) [(0,.dat 2 (aa.map Q2))] [(0,.dat 2 (aa.map Q2))] 1 (hrec k.2.2 (w64 (k.1 + 1)) b.2.1 c.1 aa co) O O O (Yy [(0,0)] [] [] O ⟨⟨_,O,Qy (by simp [w]) O qz (ltd O)⟩,ql O,ql O,ql O,ql O,trivial⟩ ⟨Qo O O,trivial⟩) (Yy [(0,0)] [] [] O ⟨ql O,trivial⟩ ⟨Qo O O,trivial⟩) O ⟨.inl O,trivial⟩<|qf<|Q9<|q0 O<|qg O<|Q8<|Qp<|Qf<|⟨_,qv a,wkE [] [] [] O ⟨⟨_,O,Qy (by simp [w,cq]) O qz (ltd O)⟩,ql O,ql O,ql O,ql O,ql O,ql O,trivial⟩ ⟨Qo O O,trivial⟩⟩
theorem q120 (n : Nat) (g : qi→qi→Option Int) (q1F : FuncId) (q1C : List DV) (q1Ok : ∀ (j : qi) (k : qi) (r : Int),g j k = some r→Pure Tryz.prog tab q1F ([.agg (Q2 j),.agg (Q2 k)] ++ q1C) (qc r)) : ∀ (a : List qi) (b : Int) (c : Int) (f : Int) (r : List qi),q6t n g a b c f = some r→K1 Tryz.prog tab 81 [.hs 0 2 0 a.length,qb b,qb c,qb f,.d (.fn q1F q1C)] [(0,.dat 2 (a.map Q2))] 1 (.d (.tup [])) [(0,.dat 2 (r.map Q2))] 1:=by
 induction n with
 | zero=>intro a b c f r h;cases h
 | succ n ih=>intro a b c f r h;exact q11z (q6t n g) g q1F q1C q1Ok ih a b c f r h
theorem q11a (c : qi→qi→Option Int) (q1F : FuncId) (q1C : List DV) (q1Ok : ∀ (g : qi) (h : qi) (r : Int),c g h = some r→Pure Tryz.prog tab q1F ([.agg (Q2 g),.agg (Q2 h)] ++ q1C) (qc r)) (b : List qi) (r : List qi) (a : q4i c b = some r) : K1 Tryz.prog tab 61 [.hs 0 2 0 b.length,.d (.fn q1F q1C)] [(0,.dat 2 (b.map Q2))] 1 (.d (.tup [])) [(0,.dat 2 (r.map Q2))] 1:=by
 unfold q4i at a;refine Kg Tryz.func61 O qm qm O<|qh<|q0 O<|U _ O<|qg O<|qf<|Q9<|q0 O<|q0 O<|q0 O<|U _ O<|q9 a fun j l a=>Qk (qda (IntKind.wrap .u64 (b.length : Int)) j l) O<|q0 O<|q9 a fun k f a=>q9 a fun o m a=>?_;have p:=Kq m;obtain ⟨n,f⟩:=qd6 f;refine K2 [(0,0)] [(0,0)] _ (.d (.tup [])) 1 [(0,.dat 2 (k.map Q2))] 1 (q120 n c q1F q1C q1Ok b 0 (b.length : Int) j k f)<|Q8 ?_;obtain rfl:=qs a;exact ⟨.inl O,_,O,wkA [] [] []⟩
theorem qou (s : List qt) (r : Qh × Bool) (f : q3h s = some r) : Pure Tryz.prog tab 43 [.sl 4 (s.map Kb)] (.tup [.agg [.sl 2 (r.1.Nodes.map qq),.sl 2 (r.1.Edges.map Q2)],.bool r.2]):=by
 unfold q3h at f;refine K5 Tryz.func43 O qm qm O<|qh<|K7 O O<|qg O<|qy<|q0 O<|q9 f fun g y f=>Qk (qor s g y) O<|K7 O O<|K0 1 (.dat 2 [[.mp (mrow (fun n : Int=>DV.int .i64 n) (fun l : List qj=>DV.sl 2 (l.map Qc)) g.rows_),.mp (mrow (fun n : Int=>DV.int .i64 n) (fun l : List qj=>DV.sl 2 (l.map Qc)) g.columns_)]]) O<|qy<|U (.d (.agg [.mp (mrow (fun n : Int=>DV.int .i64 n) (fun l : List qj=>DV.sl 2 (l.map Qc)) g.rows_),.mp (mrow (fun n : Int=>DV.int .i64 n) (fun l : List qj=>DV.sl 2 (l.map Qc)) g.columns_)])) O<|q9 f fun c z f=>Qk (q135 g c z) O<|q0 O<|U (.d (.sl 2 (c.1.map qq))) O<|U (qr c.2) O<|qg O<|qg O<|qf<|qk<|qh<|q0 O<|U (qr (!c.2)) O<|qf ?_;refine qw O f (fun _ f=>?_) (fun _ f=>?_)
 ·refine qh<|U (.d (.agg [.nilsl,.nilsl])) O<|K0 0 (.dat 2 [[.nilsl,.nilsl]]) O<|qg O<|Qa ?_;obtain rfl:=qs f;exact finD (.inr O) (v:=.d (.tup [.agg [.nilsl,.nilsl],.bool false])) O O (Zs (.cons (q2s (.cons (.nil _) (.cons (.nil _) .nil))) (.cons (.refl _) .nil)))
 refine qx<|qh<|q0 O<|U (.d (.agg [.sl 2 (c.1.map qq),.nilsl])) O<|K7 O O<|K0 2 (.dat 2 [[.sl 2 (c.1.map qq),.nilsl]]) O<|qy<|Qw (.mp 3) (.mp true (Qs (fun n : Int=>DV.int .i64 n) (DV.int .i64) ([] : List (Int × Int)))) O<|Qw (.mp 4) (.mp true (Qs (fun n : Int=>DV.int .i64 n) (DV.int .i64) ([] : List (Int × Int)))) O<|qg O<|qg O<|qf<|qk<|qh<|q0 O<|Ku O<|q0 O<|qf<|q9 f fun w aa f=>?_;refine K3 (fun h=>h = w) (fun (h : List qi)=>⟨[(2,.ref 0 2 0 0),(7,.ref 1 2 0 0)],[(0,.dat 2 [[.nilsl,.nilsl]]),(1,.cel 2 [[.d (.sl 2 (c.1.map qq)),.hs 2 2 0 h.length]]),(2,.dat 2 (h.map Q2))],3⟩) qd ?_ ?_
 ·refine Qu (q3i c g) (fun (a : Int × (List (Int × Int)) × (List (Int × Int)) × List qi)=>⟨[(2,.ref 0 2 0 0),(4,.ref 1 2 0 0),(7,.ref 2 2 0 0),(8,.mp 3),(9,.mp 4),(27,.d (.sl 2 (c.1.map qq))),(28,qb (c.1.length : Int)),(29,qb a.1)],[(0,.dat 2 [[.nilsl,.nilsl]]),(1,.dat 2 [[.mp (mrow (fun n : Int=>DV.int .i64 n) (fun l : List qj=>DV.sl 2 (l.map Qc)) g.rows_),.mp (mrow (fun n : Int=>DV.int .i64 n) (fun l : List qj=>DV.sl 2 (l.map Qc)) g.columns_)]]),(2,.cel 2 [[.d (.sl 2 (c.1.map qq)),.hs 5 2 0 a.2.2.2.length]]),(3,.mp false (Qs (fun n : Int=>DV.int .i64 n) (DV.int .i64) a.2.1)),(4,.mp false (Qs (fun n : Int=>DV.int .i64 n) (DV.int .i64) a.2.2.1)),(5,.dat 2 (a.2.2.2.map Q2))],6⟩) (0,[],[],[]) w aa (wkA [(0,0),(1,1),(2,2),(3,3),(4,4)] [] [5]) ?_;intro a am j;unfold q3i at j;refine qh<|U (.d (.bool (decide (a.1 < (c.1.length : Int))))) O<|qf<|qk ?_;refine qw O j (fun _ j=>?_) (fun _ j=>?_)
  ·refine qx<|qk<|Qe<|qh<|q0 O<|q9 j fun b ab j=>Ky (enc:=qq) ab O<|U (.d (.agg [qc b.X,qc b.Y])) O<|K7 O O<|qg O<|K0 6 (.dat 2 [[qc b.X,qc b.Y]]) O<|qy<|U (.d (.agg [.mp (mrow (fun n : Int=>DV.int .i64 n) (fun l : List qj=>DV.sl 2 (l.map Qc)) g.rows_),.mp (mrow (fun n : Int=>DV.int .i64 n) (fun l : List qj=>DV.sl 2 (l.map Qc)) g.columns_)])) O<|U (.d (.agg [qc b.X,qc b.Y])) O<|q9 j fun k ac j=>Qk (qht g b k ac) O<|K7 O O<|K0 7 (.dat 4 [[.bool k.1,.bool k.2.1,.bool k.2.2.1,.bool k.2.2.2]]) O<|qf<|qk<|qh<|U (.ref 7 4 0 2) O<|U (qr k.2.2.1) O<|qf<|q9 j fun ad m j=>?_;refine Y4 (fun o=>o = ad) (fun (o : List qi)=>⟨[(2,.ref 0 2 0 0),(4,.ref 1 2 0 0),(7,.ref 2 2 0 0),(8,.mp 3),(9,.mp 4),(10,qb a.1),(11,.ref 5 2 0 0),(12,.ref 6 4 0 0),(27,.d (.sl 2 (c.1.map qq))),(28,qb (c.1.length : Int)),(29,qb a.1)],[(0,.dat 2 [[.nilsl,.nilsl]]),(1,.dat 2 [[.mp (mrow (fun n : Int=>DV.int .i64 n) (fun l : List qj=>DV.sl 2 (l.map Qc)) g.rows_),.mp (mrow (fun n : Int=>DV.int .i64 n) (fun l : List qj=>DV.sl 2 (l.map Qc)) g.columns_)]]),(2,.cel 2 [[.d (.sl 2 (c.1.map qq)),.hs 7 2 0 o.length]]),(3,.mp false (Qs (fun n : Int=>DV.int .i64 n) (DV.int .i64) a.2.1)),(4,.mp false (Qs (fun n : Int=>DV.int .i64 n) (DV.int .i64) a.2.2.1)),(5,.dat 2 [[qc b.X,qc b.Y]]),(6,.dat 4 [[.bool k.1,.bool k.2.1,.bool k.2.2.1,.bool k.2.2.2]]),(7,.dat 2 (o.map Q2))],8⟩) qd ?_ ?_
   ·refine qw O m (fun _ m=>?_) (fun _ m=>?_)
    ·refine Q9<|U (.ref 2 2 0 1) O<|U (.hs 5 2 0 a.2.2.2.length) O<|q0 O<|U (.ref 6 2 0 1) O<|U (qb b.Y) O<|qgp (ek:=(fun n : Int=>DV.int .i64 n)) (ev:=(DV.int .i64)) (es:=a.2.1) Jn 0 b.Y O O O O O O O<|q0 O<|U (.d (.agg [qc (K6 0 b.Y a.2.1),qc a.1])) O<|Qw (.hs 8 2 0 [({A:=K6 0 b.Y a.2.1,B:=a.1} : qi)].length) (.dat 2 ([({A:=K6 0 b.Y a.2.1,B:=a.1} : qi)].map Q2)) O<|q9 m fun ae af m=>q1m (xs:=a.2.2.2) (ys:=[({A:=K6 0 b.Y a.2.1,B:=a.1} : qi)]) (enc:=Q2) (.hs 8 2 0 [({A:=K6 0 b.Y a.2.1,B:=a.1} : qi)].length) af O O O O O O O (q2r O O) O O O O<|U (.ref 2 2 0 1) O<|K0 2 (.cel 2 [[.d (.sl 2 (c.1.map qq)),.hs 9 2 0 ae.length]]) O<|Q8 ?_;obtain rfl:=qs m;exact ⟨_,O,wkA [(0,0),(1,1),(2,2),(3,3),(4,4),(5,6),(6,7),(7,9)] [] []⟩
    refine qx<|Qf ?_;obtain rfl:=qs m;exact ⟨_,O,wkA [(0,0),(1,1),(2,2),(3,3),(4,4),(5,6),(6,7),(7,5)] [] []⟩
   intro o hb;subst hb;refine qk<|qh<|U (.ref 6 4 0 3) O<|U (qr k.2.2.2) O<|qf<|q9 j fun ag p j=>?_;refine Y4 (fun q=>q = ag) (fun (q : List qi)=>⟨[(2,.ref 0 2 0 0),(4,.ref 1 2 0 0),(7,.ref 2 2 0 0),(8,.mp 3),(9,.mp 4),(10,qb a.1),(11,.ref 5 2 0 0),(27,.d (.sl 2 (c.1.map qq))),(28,qb (c.1.length : Int)),(29,qb a.1)],[(0,.dat 2 [[.nilsl,.nilsl]]),(1,.dat 2 [[.mp (mrow (fun n : Int=>DV.int .i64 n) (fun l : List qj=>DV.sl 2 (l.map Qc)) g.rows_),.mp (mrow (fun n : Int=>DV.int .i64 n) (fun l : List qj=>DV.sl 2 (l.map Qc)) g.columns_)]]),(2,.cel 2 [[.d (.sl 2 (c.1.map qq)),.hs 6 2 0 q.length]]),(3,.mp false (Qs (fun n : Int=>DV.int .i64 n) (DV.int .i64) a.2.1)),(4,.mp false (Qs (fun n : Int=>DV.int .i64 n) (DV.int .i64) a.2.2.1)),(5,.dat 2 [[qc b.X,qc b.Y]]),(6,.dat 2 (q.map Q2))],7⟩) qd ?_ ?_
   ·refine qw O p (fun _ p=>?_) (fun _ p=>?_)
    ·refine Q9<|U (.ref 2 2 0 1) O<|U (.hs 7 2 0 o.length) O<|q0 O<|U (.ref 5 2 0 0) O<|U (qb b.X) O<|qgp (ek:=(fun n : Int=>DV.int .i64 n)) (ev:=(DV.int .i64)) (es:=a.2.2.1) Jn 0 b.X O O O O O O O<|q0 O<|U (.d (.agg [qc (K6 0 b.X a.2.2.1),qc a.1])) O<|Qw (.hs 8 2 0 [({A:=K6 0 b.X a.2.2.1,B:=a.1} : qi)].length) (.dat 2 ([({A:=K6 0 b.X a.2.2.1,B:=a.1} : qi)].map Q2)) O<|q9 p fun ah ai p=>q1m (xs:=o) (ys:=[({A:=K6 0 b.X a.2.2.1,B:=a.1} : qi)]) (enc:=Q2) (.hs 8 2 0 [({A:=K6 0 b.X a.2.2.1,B:=a.1} : qi)].length) ai O O O O O O O (q2r O O) O O O O<|U (.ref 2 2 0 1) O<|K0 2 (.cel 2 [[.d (.sl 2 (c.1.map qq)),.hs 9 2 0 ah.length]]) O<|Q8 ?_;obtain rfl:=qs p;exact ⟨_,O,wkA [(0,0),(1,1),(2,2),(3,3),(4,4),(5,5),(6,9)] [] []⟩
    refine qx<|Qf ?_;obtain rfl:=qs p;exact ⟨_,O,wkA [(0,0),(1,1),(2,2),(3,3),(4,4),(5,5),(6,7)] [] []⟩
   intro q hb;subst hb;refine Qg [Qi 4,Qi 3,q8,q8,qu 5,q8,q8,qu 5,q8,q8] qm<|q0 O<|U (.ref 5 2 0 1) O<|U (qb b.Y) O<|q0 O<|U (.ref 5 2 0 0) O<|U (qb b.X) O<|q0 O<|q0 O<|q36 (ek:=(fun n : Int=>DV.int .i64 n)) (ev:=(DV.int .i64)) (es:=a.2.1) Jn b.Y a.1 O O O O O O O O<|q36 (ek:=(fun n : Int=>DV.int .i64 n)) (ev:=(DV.int .i64)) (es:=a.2.2.1) Jn b.X a.1 O O O O O O O O<|Q8<|Qp<|Q9<|U (.d (qc (w64 (a.1 + 1)))) O<|q0 O<|Q8<|⟨_,qv j,wkA [(0,0),(1,1),(2,2),(3,3),(4,4),(5,6)] [] []⟩
  refine Ql ?_;refine ⟨_,qv j,fun hm=>?_⟩;subst hm;exact ⟨_,O,wkA [(0,0),(1,2),(2,5)] [] []⟩
 intro h hb;subst hb;refine qh<|U (.ref 1 2 0 1) O<|U (.hs 2 2 0 h.length) O<|q9 f fun x aj f=>q9 f fun an ak f=>?_;have al:=Kq ak;refine K2 [(0,2)] [(0,1),(1,1),(2,0)] [.hs 2 2 0 h.length,.d (.fn 62 [])] (.d (.tup [])) 1 [(2,.dat 2 (x.map Q2)),(0,.dat 2 [[.nilsl,.nilsl]]),(1,.cel 2 [[.d (.sl 2 (c.1.map qq)),.hs 2 2 0 h.length]])] 3 (q11a (fun t u=>q2m t u) 62 [] (fun t u r hr=>q132 t u r hr) h x aj)<|qf<|qk<|Qg [q8,Qi 0,q8,q8,qu 1,q8,qu 1] qm<|U (.agg [.d (.sl 2 (c.1.map qq)),.hs 2 2 0 h.length]) O<|U (.ref 1 2 0 1) O<|U (.hs 2 2 0 h.length) O<|U (qb (h.length : Int)) O<|U (.d (.bool (decide ((h.length : Int)≤800)))) O<|K0 0 (.cel 2 [[.d (.sl 2 (c.1.map qq)),.hs 2 2 0 h.length]]) O<|qg O<|Qa ?_;obtain rfl:=qs f;exact finD (.inr O) (v:=.tup [.agg [.d (.sl 2 (c.1.map qq)),.hs 2 2 0 h.length],.d (.bool (decide ((h.length : Int)≤800)))]) O (qhx (Zb (q7f (Zb O (Zb (Zc (by simp [al]) O) O))) (Zb O O))) (.refl _)
theorem q116 (c : List qa) (f : List qa) (r : Bool) (b : q9e c f = some r) : Pure Tryz.prog tab 45 [.sl 2 (c.map qq),.sl 2 (f.map qq)] (.bool r):=by
 unfold q9e at b;refine K5 Tryz.func45 O qm qm O<|qh<|qg O<|qf<|qk<|qh<|q0 O<|Ku O<|q0 O<|Ku O<|U _ O<|qf ?_;refine qw O b (fun _ b=>?_) (fun _ b=>?_)
 ·refine qh<|qg O<|Qa ?_;cases b;exact Qt _ O
 refine qx<|qk<|qh<|q0 O<|Ku O<|q0 O<|qf<|q9 b fun h k b=>?_;refine K3 (fun g=>.inl g = h) (fun g=>⟨[],[],0⟩) qd ?_ ?_
 ·refine Qu (q6h c f) (fun j=>⟨[(0,.d (.sl 2 (c.map qq))),(1,.d (.sl 2 (f.map qq))),(12,qb (c.length : Int)),(13,qb j)],[],0⟩) _ h k (wkA [] [] []) ?_;intro j n a;unfold q6h at a;refine qh<|U _ O<|qf<|qk ?_;refine qw O a (fun _ a=>?_) (fun _ a=>?_)
  ·refine qx<|qk<|Qe<|qh<|q0 O<|qg O<|qf<|qk<|Qg [q8,q8,q8,q8,q8,q8,q8,q8,q8] qm<|q0 O<|q0 O<|q9 a fun o l a=>Ky l O<|U _ O<|q0 O<|q0 O<|q9 a fun p m a=>Ky m O<|U _ O<|U _ O<|qf ?_;refine qw O a (fun _ a=>?_) (fun _ a=>?_)
   ·refine qh<|qg O<|Qa ?_;refine ⟨_,qv a,fun hm=>?_⟩;subst hm;cases b;exact Qt _ O
   refine qx<|Qf<|Qp<|Q9<|U _ O<|q0 O<|Q8<|⟨_,qv a,wkA [] [] []⟩
  refine Ql ?_;refine ⟨_,qv a,fun hm=>?_⟩;subst hm;exact ⟨_,O,wkA [] [] []⟩
 intro g hb;subst hb;refine qh<|qg O<|Qa ?_;cases b;exact Qt _ O
theorem q115 (c : List qi) (f : List qi) (r : Bool) (b : q9d c f = some r) : Pure Tryz.prog tab 46 [.sl 2 (c.map Q2),.sl 2 (f.map Q2)] (.bool r):=by
 unfold q9d at b;refine K5 Tryz.func46 O qm qm O<|qh<|qg O<|qf<|qk<|qh<|q0 O<|Ku O<|q0 O<|Ku O<|U _ O<|qf ?_;refine qw O b (fun _ b=>?_) (fun _ b=>?_)
 ·refine qh<|qg O<|Qa ?_;cases b;exact Qt _ O
 refine qx<|qk<|qh<|q0 O<|Ku O<|q0 O<|qf<|q9 b fun h k b=>?_;refine K3 (fun g=>.inl g = h) (fun g=>⟨[],[],0⟩) qd ?_ ?_
 ·refine Qu (q6g c f) (fun j=>⟨[(0,.d (.sl 2 (c.map Q2))),(1,.d (.sl 2 (f.map Q2))),(12,qb (c.length : Int)),(13,qb j)],[],0⟩) _ h k (wkA [] [] []) ?_;intro j n a;unfold q6g at a;refine qh<|U _ O<|qf<|qk ?_;refine qw O a (fun _ a=>?_) (fun _ a=>?_)
  ·refine qx<|qk<|Qe<|qh<|q0 O<|qg O<|qf<|qk<|Qg [q8,q8,q8,q8,q8,q8,q8,q8,q8] qm<|q0 O<|q0 O<|q9 a fun o l a=>Ky l O<|U _ O<|q0 O<|q0 O<|q9 a fun p m a=>Ky m O<|U _ O<|U _ O<|qf ?_;refine qw O a (fun _ a=>?_) (fun _ a=>?_)
   ·refine qh<|qg O<|Qa ?_;refine ⟨_,qv a,fun hm=>?_⟩;subst hm;cases b;exact Qt _ O
   refine qx<|Qf<|Qp<|Q9<|U _ O<|q0 O<|Q8<|⟨_,qv a,wkA [] [] []⟩
  refine Ql ?_;refine ⟨_,qv a,fun hm=>?_⟩;subst hm;exact ⟨_,O,wkA [] [] []⟩
 intro g hb;subst hb;refine qh<|qg O<|Qa ?_;cases b;exact Qt _ O
theorem q131 (c : Qh) (d : Qh) (r : Bool) (b : qbw c d = some r) : Pure Tryz.prog tab 21 [.agg [.sl 2 (c.Nodes.map qq),.sl 2 (c.Edges.map Q2)],.agg [.sl 2 (d.Nodes.map qq),.sl 2 (d.Edges.map Q2)]] (.bool r):=by
 unfold qbw at b;refine K5 Tryz.func21 O qm qm O<|qh<|Qw _ _ O<|Qw _ _ O<|qg O<|qy<|U _ O<|U _ O<|U _ O<|U _ O<|q9 b fun m n b=>Qk (q116 c.Nodes d.Nodes m n) O<|q9 b fun o a b=>?_;refine Qn 7 (fun A st=>∃ f g h j k l,st = A [(16,qr o),(15,l),(14,k),(13,j),(12,h),(11,g),(10,f)]) ?_ ?_
 ·refine Qm O O a (fun a=>?_) (fun a=>?_)
  ·refine U _ O<|U _ O<|U _ O<|U _ O<|q9 a fun p q a=>Qk (q115 c.Edges d.Edges p q) O<|U _ O<|qf ?_;cases a;exact ⟨_,_,_,_,_,_,O⟩
  refine qe O<|qe O<|qe O<|qe O<|qe O<|U _ O<|qf ?_;cases a;exact ⟨_,_,_,_,_,_,O⟩
 rintro _ ⟨f,g,h,j,k,l,rfl⟩;refine qg O<|Qa ?_;cases b;exact Qt _ O
theorem qop (c : Qh) (r : Int) (a : Uw c = some r) : Pure Tryz.prog tab 19 [.agg [.sl 2 (c.Nodes.map qq),.sl 2 (c.Edges.map Q2)]] (qc r):=by
 unfold Uw at a;refine K5 Tryz.func19 O qm qm O<|qh<|Qw _ _ O<|qg O<|qf<|qk<|qh<|U _ O<|U _ O<|Ku O<|U _ O<|q9 a fun t d a=>?_;refine Qn 6 (fun A st=>∃ f g h j k,st = A [(16,qr t),(15,k),(14,j),(13,h),(12,g),(11,f)]) ?_ ?_
 ·refine Qm O O d (fun d=>?_) (fun d=>?_)
  ·refine qe O<|qe O<|qe O<|qe O<|U _ O<|qf ?_;cases d;exact ⟨_,_,_,_,_,O⟩
  refine U _ O<|U _ O<|Ku O<|U _ O<|U _ O<|qf ?_;cases d;exact ⟨_,_,_,_,_,O⟩
 rintro _ ⟨f,g,h,j,k,rfl⟩;refine qf ?_;refine qw O a (fun _ a=>?_) (fun _ a=>?_)
 ·refine qh<|qg O<|Qa ?_;cases a;exact Qt _ O
 refine qx<|qh<|U _ O<|q9 a fun l u a=>Qk (qot c l u) O<|q0 O<|U _ O<|U _ O<|qg O<|qg O<|qf<|qk<|qh<|q0 O<|U _ O<|qf ?_;refine qw O a (fun _ a=>?_) (fun _ a=>?_)
 ·refine qh<|qg O<|Qa ?_;cases a;exact Qt _ O
 refine qx<|qk<|qh<|q0 O<|q9 a fun m v a=>Qk (qou l.1 m v) O<|q0 O<|U _ O<|U _ O<|K7 O O<|K0 1 _ O<|qg O<|qy<|q0 O<|U _ O<|q9 a fun w b a=>?_;refine Qn 6 (fun A st=>∃ n o p q s,st = A [(36,qr w),(35,s),(34,q),(33,p),(32,o),(31,n)]) ?_ ?_
 ·refine Qm O O b (fun b=>?_) (fun b=>?_)
  ·refine qe O<|qe O<|qe O<|qe O<|U _ O<|qf ?_;cases b;exact ⟨_,_,_,_,_,O⟩
  refine U _ O<|U _ O<|q9 b fun x y b=>Qk (q131 m.1 c x y) O<|U _ O<|U _ O<|qf ?_;cases b;exact ⟨_,_,_,_,_,O⟩
 rintro _ ⟨n,o,p,q,s,rfl⟩;refine qf ?_;refine qw O a (fun _ a=>?_) (fun _ a=>?_)
 ·refine qh<|qg O<|Qa ?_;cases a;exact Qt _ O
 refine qx<|qh<|qg O<|Qa ?_;cases a;exact Qt _ O
theorem qhr (b : Qh) (r : List qt × Int) (a : q3g b = some r) : Pure Tryz.prog tab 11 [.agg [.sl 2 (b.Nodes.map qq),.sl 2 (b.Edges.map Q2)]] (.tup [.sl 4 (r.1.map Kb),qc r.2]):=by
 unfold q3g at a;refine K5 Tryz.func11 O qm qm O<|qh<|Qw _ _ O<|qg O<|qg O<|qf<|qk<|qh<|U _ O<|q9 a fun c d a=>Qk (qop b c d) O<|qg O<|qy<|q0 O<|U _ O<|qf ?_;refine qw O a (fun _ a=>?_) (fun _ a=>?_)
 ·refine qh<|q0 O<|qg O<|qg O<|Qa ?_;obtain rfl:=qs a;exact finD (.inr O) O O (Zs (.cons (.nil _) (.cons (.refl _) .nil)))
 refine qx<|qh<|U _ O<|q9 a fun f g a=>Qk (qot b f g) O<|q0 O<|U _ O<|U _ O<|qg O<|qg O<|qy<|q0 O<|qg O<|qg O<|Qa ?_;cases a;exact Qt _ O
theorem qna (f : qa) (r : Bool) (a : q5v f = some r) : Pure Tryz.prog tab 51 [.agg (qq f)] (.bool r):=by
 unfold q5v at a;refine K5 Tryz.func51 O qm qm O<|qh<|Qw _ _ O<|qg O<|qy<|U _ O<|U _ O<|U _ O<|q9 a fun u b a=>?_;refine Qn 5 (fun A st=>∃ g h j k,st = A [(10,qr u),(9,k),(8,j),(7,h),(6,g)]) ?_ ?_
 ·refine Qm O O b (fun b=>?_) (fun b=>?_)
  ·refine U _ O<|U _ O<|U _ O<|U _ O<|qf ?_;cases b;exact ⟨_,_,_,_,O⟩
  refine qe O<|qe O<|qe O<|U _ O<|qf ?_;cases b;exact ⟨_,_,_,_,O⟩
 rintro _ ⟨g,h,j,k,rfl⟩;refine q9 a fun v c a=>?_;refine Qn 5 (fun A st=>∃ l m n o,st = A [(15,qr v),(14,o),(13,n),(12,m),(11,l)]) ?_ ?_
 ·refine Qm O O c (fun c=>?_) (fun c=>?_)
  ·refine U _ O<|U _ O<|U _ O<|U _ O<|qf ?_;cases c;exact ⟨_,_,_,_,O⟩
  refine qe O<|qe O<|qe O<|U _ O<|qf ?_;cases c;exact ⟨_,_,_,_,O⟩
 rintro _ ⟨l,m,n,o,rfl⟩;refine q9 a fun w d a=>?_;refine Qn 5 (fun A st=>∃ p q s t,st = A [(20,qr w),(19,t),(18,s),(17,q),(16,p)]) ?_ ?_
 ·refine Qm O O d (fun d=>?_) (fun d=>?_)
  ·refine U _ O<|U _ O<|U _ O<|U _ O<|qf ?_;cases d;exact ⟨_,_,_,_,O⟩
  refine qe O<|qe O<|qe O<|U _ O<|qf ?_;cases d;exact ⟨_,_,_,_,O⟩
 rintro _ ⟨p,q,s,t,rfl⟩;refine qg O<|Qa ?_;cases a;exact Qt _ O
theorem qyt (g : qt) (r : Bool) (a : q4e g = some r) : Pure Tryz.prog tab 54 [.agg (Kb g)] (.bool r):=by
 unfold q4e at a;refine K5 Tryz.func54 O qm qm O<|qh<|Qw _ _ O<|qg O<|qy<|U _ O<|U _ O<|U _ O<|U _ O<|U _ O<|q9 a fun aq b a=>?_;refine Qn 18 (fun A st=>∃ h j k l m n o p q s t u v w x y z,st = A [(25,qr aq),(24,z),(23,y),(22,x),(21,w),(20,v),(19,u),(18,t),(17,s),(16,q),(15,p),(14,o),(13,n),(12,m),(11,l),(10,k),(9,j),(8,h)]) ?_ ?_
 ·refine Qm O O b (fun b=>?_) (fun b=>?_)
  ·refine U _ O<|U _ O<|U _ O<|U _ O<|U _ O<|U _ O<|U _ O<|q9 b fun ar f b=>?_;refine Qn 9 (fun A st=>∃ aa ab ac ad ae af ag ah,st = A [(24,qr ar),(23,ah),(22,ag),(21,af),(20,ae),(19,ad),(18,ac),(17,ab),(16,aa)]) ?_ ?_
   ·refine Qm O O f (fun f=>?_) (fun f=>?_)
    ·refine qe O<|qe O<|qe O<|qe O<|qe O<|qe O<|qe O<|U _ O<|qf ?_;cases f;exact ⟨_,_,_,_,_,_,_,_,O⟩
    refine U _ O<|U _ O<|U _ O<|U _ O<|U _ O<|U _ O<|U _ O<|U _ O<|qf ?_;cases f;exact ⟨_,_,_,_,_,_,_,_,O⟩
   rintro _ ⟨aa,ab,ac,ad,ae,af,ag,ah,rfl⟩;refine U _ O<|qf ?_;cases b;exact ⟨_,_,_,_,_,_,_,_,_,_,_,_,_,_,_,_,_,O⟩
  refine qe O<|qe O<|qe O<|qe O<|qe O<|qe O<|qe O<|qe O<|qe O<|qe O<|qe O<|qe O<|qe O<|qe O<|qe O<|qe O<|U _ O<|qf ?_;cases b;exact ⟨_,_,_,_,_,_,_,_,_,_,_,_,_,_,_,_,_,O⟩
 rintro _ ⟨h,j,k,l,m,n,o,p,q,s,t,u,v,w,x,y,z,rfl⟩;refine q9 a fun au c a=>?_;refine Qn 5 (fun A st=>∃ ai aj ak al,st = A [(30,qr au),(29,al),(28,ak),(27,aj),(26,ai)]) ?_ ?_
 ·refine Qm O O c (fun c=>?_) (fun c=>?_)
  ·refine U _ O<|U _ O<|q9 c fun av aw c=>Qk (qna g.A av aw) O<|U _ O<|qf ?_;cases c;exact ⟨_,_,_,_,O⟩
  refine qe O<|qe O<|qe O<|U _ O<|qf ?_;cases c;exact ⟨_,_,_,_,O⟩
 rintro _ ⟨ai,aj,ak,al,rfl⟩;refine q9 a fun ax d a=>?_;refine Qn 5 (fun A st=>∃ am an ao ap,st = A [(35,qr ax),(34,ap),(33,ao),(32,an),(31,am)]) ?_ ?_
 ·refine Qm O O d (fun d=>?_) (fun d=>?_)
  ·refine U _ O<|U _ O<|q9 d fun ay az d=>Qk (qna g.B ay az) O<|U _ O<|qf ?_;cases d;exact ⟨_,_,_,_,O⟩
  refine qe O<|qe O<|qe O<|U _ O<|qf ?_;cases d;exact ⟨_,_,_,_,O⟩
 rintro _ ⟨am,an,ao,ap,rfl⟩;refine qg O<|Qa ?_;cases a;exact Qt _ O
theorem qnf (d : Qh) (f : Qh) (r : Bool) (a : q39 d f = some r) : Pure Tryz.prog tab 22 [.agg [.sl 2 (d.Nodes.map qq),.sl 2 (d.Edges.map Q2)],.agg [.sl 2 (f.Nodes.map qq),.sl 2 (f.Edges.map Q2)]] (.bool r):=by
 unfold q39 at a;refine K5 Tryz.func22 O qm qm O<|qh<|Qw _ _ O<|Qw _ _ O<|qg O<|qf<|qk<|qh<|U _ O<|U _ O<|Ku O<|U _ O<|U _ O<|Ku O<|U _ O<|q9 a fun x g a=>?_;refine Qn 9 (fun A st=>∃ k l m n o p q s,st = A [(22,qr x),(21,s),(20,q),(19,p),(18,o),(17,n),(16,m),(15,l),(14,k)]) ?_ ?_
 ·refine Qm O O g (fun g=>?_) (fun g=>?_)
  ·refine qe O<|qe O<|qe O<|qe O<|qe O<|qe O<|qe O<|U _ O<|qf ?_;cases g;exact ⟨_,_,_,_,_,_,_,_,O⟩
  refine U _ O<|U _ O<|Ku O<|U _ O<|U _ O<|Ku O<|U _ O<|U _ O<|qf ?_;cases g;exact ⟨_,_,_,_,_,_,_,_,O⟩
 rintro _ ⟨k,l,m,n,o,p,q,s,rfl⟩;refine qf ?_;refine qw O a (fun _ a=>?_) (fun _ a=>?_)
 ·refine qh<|qg O<|Qa ?_;cases a;exact Qt _ O
 refine qx<|qk<|qh<|qg O<|qf<|q9 a fun t y a=>?_;refine K3 (fun h=>.inl h = t) (fun h=>⟨[(2,.ref 0 2 0 0),(3,.ref 1 2 0 0)],[(0,.dat 2 [[.sl 2 (d.Nodes.map qq),.sl 2 (d.Edges.map Q2)]]),(1,.dat 2 [[.sl 2 (f.Nodes.map qq),.sl 2 (f.Edges.map Q2)]])],2⟩) qd ?_ ?_
 ·refine Qu (q5y d f) (fun u=>⟨[(2,.ref 0 2 0 0),(3,.ref 1 2 0 0),(5,qb u)],[(0,.dat 2 [[.sl 2 (d.Nodes.map qq),.sl 2 (d.Edges.map Q2)]]),(1,.dat 2 [[.sl 2 (f.Nodes.map qq),.sl 2 (f.Edges.map Q2)]])],2⟩) _ t y (wkA [(0,0),(1,1)] [] []) ?_;intro u ae b;unfold q5y at b;refine qk<|qh<|q0 O<|U _ O<|U _ O<|Ku O<|U _ O<|qf ?_;refine qw O b (fun _ b=>?_) (fun _ b=>?_)
  ·refine qx<|qk<|Qe<|qk<|Qg [q8,q8,q8,q8,qu 1,q8,q8,q8,q8,qu 0,q8] qm<|U _ O<|U _ O<|q0 O<|q9 b fun af z b=>Ky z O<|U _ O<|U _ O<|U _ O<|q0 O<|q9 b fun ag aa b=>Ky aa O<|U _ O<|U _ O<|qf ?_;refine qw O b (fun _ b=>?_) (fun _ b=>?_)
   ·refine qh<|qg O<|Qa ?_;refine ⟨_,qv b,fun hm=>?_⟩;subst hm;cases a;exact Qt _ O
   refine qx<|Qf<|Qp<|Q9<|q0 O<|U _ O<|qg O<|Q8<|⟨_,qv b,wkA [(0,0),(1,1)] [] []⟩
  refine Ql ?_;refine ⟨_,qv b,fun hm=>?_⟩;subst hm;exact ⟨_,O,wkA [(0,0),(1,1)] [] []⟩
 intro h hb;subst hb;refine qk<|qh<|qg O<|qf<|q9 a fun v ab a=>?_;refine K3 (fun j=>.inl j = v) (fun j=>⟨[],[],0⟩) qd ?_ ?_
 ·refine Qu (q5z d f) (fun w=>⟨[(2,.ref 0 2 0 0),(3,.ref 1 2 0 0),(6,qb w)],[(0,.dat 2 [[.sl 2 (d.Nodes.map qq),.sl 2 (d.Edges.map Q2)]]),(1,.dat 2 [[.sl 2 (f.Nodes.map qq),.sl 2 (f.Edges.map Q2)]])],2⟩) _ v ab (wkA [(0,0),(1,1)] [] []) ?_;intro w ah c;unfold q5z at c;refine qk<|qh<|q0 O<|U _ O<|U _ O<|Ku O<|U _ O<|qf ?_;refine qw O c (fun _ c=>?_) (fun _ c=>?_)
  ·refine qx<|qk<|Qe<|qk<|Qg [q8,q8,q8,q8,qu 1,q8,q8,q8,q8,qu 0,q8] qm<|U _ O<|U _ O<|q0 O<|q9 c fun ai ac c=>Ky ac O<|U _ O<|U _ O<|U _ O<|q0 O<|q9 c fun aj ad c=>Ky ad O<|U _ O<|U _ O<|qf ?_;refine qw O c (fun _ c=>?_) (fun _ c=>?_)
   ·refine qh<|qg O<|Qa ?_;refine ⟨_,qv c,fun hm=>?_⟩;subst hm;cases a;exact Qt _ O
   refine qx<|Qf<|Qp<|Q9<|q0 O<|U _ O<|qg O<|Q8<|⟨_,qv c,wkA [(0,0),(1,1)] [] []⟩
  refine Ql ?_;refine ⟨_,qv c,fun hm=>?_⟩;subst hm;exact ⟨_,O,wkA [] [] []⟩
 intro j hb;subst hb;refine qh<|qg O<|Qa ?_;cases a;exact Qt _ O
theorem q117 (b : List qt) (f : qt→Option Bool) (p1F : FuncId) (p1C : List DV) (p1Ok : ∀ (h : qt) (r : Bool),f h = some r→Pure Tryz.prog tab p1F ([.agg (Kb h)] ++ p1C) (.bool r)) (r : Int) (c : qe4 b f = some r) : Pure Tryz.prog tab 57 [.sl 4 (b.map Kb),.fn p1F p1C] (qc r):=by
 unfold qe4 at c;refine K5 Tryz.func57 O qm qm O<|qh<|qg O<|qf<|qk<|qh<|q0 O<|Ku O<|q0 O<|qf<|q9 c fun j l c=>?_;refine K3 (fun g=>.inl g = j) (fun g=>⟨[],[],0⟩) qd ?_ ?_
 ·refine Qu (q3b b f) (fun k=>⟨[(0,.d (.sl 4 (b.map Kb))),(1,.d (.fn p1F p1C)),(7,qb (b.length : Int)),(8,qb k)],[],0⟩) _ j l (wkA [] [] []) ?_;intro k q a;unfold q3b at a;refine qh<|U _ O<|qf<|qk ?_;refine qw O a (fun _ a=>?_) (fun _ a=>?_)
  ·refine qx<|qk<|Qe<|qh<|q0 O<|qg O<|qy<|q0 O<|q0 O<|q0 O<|q9 a fun m n a=>Ky n O<|U _ O<|q9 a fun o p a=>Ki _ (p1Ok m o p) O O O (.inl O)<|qf ?_;refine qw O a (fun _ a=>?_) (fun _ a=>?_)
   ·refine qh<|q0 O<|qg O<|Qa ?_;refine ⟨_,qv a,fun hm=>?_⟩;subst hm;cases c;exact Qt _ O
   refine qx<|Qf<|Qp<|Q9<|U _ O<|q0 O<|Q8<|⟨_,qv a,wkA [] [] []⟩
  refine Ql ?_;refine ⟨_,qv a,fun hm=>?_⟩;subst hm;exact ⟨_,O,wkA [] [] []⟩
 intro g hb;subst hb;refine qh<|qg O<|Qa ?_;cases c;exact Qt _ O
theorem q114 (b : List qt) (c : qt→Option Bool) (p1F : FuncId) (p1C : List DV) (p1Ok : ∀ (d : qt) (r : Bool),c d = some r→Pure Tryz.prog tab p1F ([.agg (Kb d)] ++ p1C) (.bool r)) (r : Bool) (a : q6e b c = some r) : Pure Tryz.prog tab 38 [.sl 4 (b.map Kb),.fn p1F p1C] (.bool r):=by
 unfold q6e at a;refine K5 Tryz.func38 O qm qm O<|qh<|qg O<|qy<|q0 O<|q0 O<|q9 a fun f g a=>Qk (q117 b c p1F p1C p1Ok f g) O<|U _ O<|qg O<|Qa ?_;cases a;exact Qt _ O
theorem q133 (a : qt) (g : qa) (r : Bool) (b : q7b a g = some r) : Pure Tryz.prog tab 40 [.agg (Kb a),.agg (qq g)] (.bool r):=by
 unfold q7b at b;refine K5 Tryz.func40 O qm qm O<|qh<|Qw _ _ O<|Qw _ _ O<|qg O<|qy<|U _ O<|U _ O<|U _ O<|U _ O<|U _ O<|U _ O<|Jq (r:=min a.A.X a.B.X) O O (by simp only [Jp];rfl)<|U _ O<|U _ O<|U _ O<|q9 b fun c1 c b=>?_;refine Qn 12 (fun A st=>∃ h j k l m n o p q s t,st = A [(26,qr c1),(25,t),(24,s),(23,q),(22,p),(21,o),(20,n),(19,m),(18,l),(17,k),(16,j),(15,h)]) ?_ ?_
 ·refine Qm O O c (fun c=>?_) (fun c=>?_)
  ·refine U _ O<|U _ O<|U _ O<|U _ O<|U _ O<|U _ O<|U _ O<|U _ O<|Zq (r:=max a.A.X a.B.X) O O (by simp only [Zp];rfl)<|U _ O<|U _ O<|qf ?_;cases c;exact ⟨_,_,_,_,_,_,_,_,_,_,_,O⟩
  refine qe O<|qe O<|qe O<|qe O<|qe O<|qe O<|qe O<|qe O<|qe O<|qe O<|U _ O<|qf ?_;cases c;exact ⟨_,_,_,_,_,_,_,_,_,_,_,O⟩
 rintro _ ⟨h,j,k,l,m,n,o,p,q,s,t,rfl⟩;refine q9 b fun ar d b=>?_;refine Qn 12 (fun A st=>∃ u v w x y z aa ab ac ad ae,st = A [(38,qr ar),(37,ae),(36,ad),(35,ac),(34,ab),(33,aa),(32,z),(31,y),(30,x),(29,w),(28,v),(27,u)]) ?_ ?_
 ·refine Qm O O d (fun d=>?_) (fun d=>?_)
  ·refine U _ O<|U _ O<|U _ O<|U _ O<|U _ O<|U _ O<|Jq (r:=min a.A.Y a.B.Y) O O (by simp only [Jp];rfl)<|U _ O<|U _ O<|U _ O<|U _ O<|qf ?_;cases d;exact ⟨_,_,_,_,_,_,_,_,_,_,_,O⟩
  refine qe O<|qe O<|qe O<|qe O<|qe O<|qe O<|qe O<|qe O<|qe O<|qe O<|U _ O<|qf ?_;cases d;exact ⟨_,_,_,_,_,_,_,_,_,_,_,O⟩
 rintro _ ⟨u,v,w,x,y,z,aa,ab,ac,ad,ae,rfl⟩;refine q9 b fun au f b=>?_;refine Qn 12 (fun A st=>∃ af ag ah ai aj ak al am an ao ap,st = A [(50,qr au),(49,ap),(48,ao),(47,an),(46,am),(45,al),(44,ak),(43,aj),(42,ai),(41,ah),(40,ag),(39,af)]) ?_ ?_
 ·refine Qm O O f (fun f=>?_) (fun f=>?_)
  ·refine U _ O<|U _ O<|U _ O<|U _ O<|U _ O<|U _ O<|U _ O<|U _ O<|Zq (r:=max a.A.Y a.B.Y) O O (by simp only [Zp];rfl)<|U _ O<|U _ O<|qf ?_;cases f;exact ⟨_,_,_,_,_,_,_,_,_,_,_,O⟩
  refine qe O<|qe O<|qe O<|qe O<|qe O<|qe O<|qe O<|qe O<|qe O<|qe O<|U _ O<|qf ?_;cases f;exact ⟨_,_,_,_,_,_,_,_,_,_,_,O⟩
 rintro _ ⟨af,ag,ah,ai,aj,ak,al,am,an,ao,ap,rfl⟩;refine qg O<|Qa ?_;cases b;exact Qt _ O
theorem q12y (b : qt) (c : qa) (r : Bool) (a : qbv b c = some r) : Pure Tryz.prog tab 39 [.agg (Kb b),.box (qq c)] (.bool r):=by
 unfold qbv at a;refine K5 Tryz.func39 O qm qm O<|qh<|Qw _ _ O<|qg O<|qy<|U _ O<|U _ O<|q9 a fun d f a=>Qk (q133 b c d f) O<|qg O<|Qa ?_;cases a;exact Qt _ O
theorem q12z (c : Qh) (b : qa) (r : Bool × Int) (a : qbu c b = some r) : Pure Tryz.prog tab 13 [.agg [.sl 2 (c.Nodes.map qq),.sl 2 (c.Edges.map Q2)],.agg (qq b)] (.tup [.bool r.1,qc r.2]):=by
 unfold qbu at a;refine K5 Tryz.func13 O qm qm O<|qh<|Qw _ _ O<|Qw _ _ O<|qg O<|qg O<|qy<|U _ O<|q9 a fun f h a=>Qk (qhr c f h) O<|q0 O<|U _ O<|U _ O<|qg O<|qg O<|qf<|qk<|qh<|q0 O<|U _ O<|qf ?_;refine qw O a (fun _ a=>?_) (fun _ a=>?_)
 ·refine qh<|q0 O<|qg O<|qg O<|Qa ?_;cases a;exact Qt _ O
 refine qx<|qh<|q0 O<|U _ O<|q9 a fun j k a=>U9 [.d (.sl 4 (f.1.map Kb)),.fn 39 [.ref 1 2 0 0]] (q114 f.1 (fun g=>qbv g b) 39 [.box (qq b)] (fun g r hr=>q12y g b r hr) j k) O O (Yd O (Yd (qoz (Zb O O)) O)) (.inr O)<|qg O<|qg O<|Qa ?_;cases a;exact Qt _ O
theorem qys (a : qt) (g : qa) (r : Bool) (b : q8z a g = some r) : Pure Tryz.prog tab 35 [.agg (Kb a),.agg (qq g)] (.bool r):=by
 unfold q8z at b;refine K5 Tryz.func35 O qm qm O<|qh<|Qw _ _ O<|Qw _ _ O<|qg O<|qy<|U _ O<|U _ O<|U _ O<|U _ O<|U _ O<|U _ O<|U _ O<|U _ O<|Jq (r:=min a.A.X a.B.X) O O (by simp only [Jp];rfl)<|U _ O<|q9 b fun c1 c b=>?_;refine Qn 12 (fun A st=>∃ h j k l m n o p q s t,st = A [(26,qr c1),(25,t),(24,s),(23,q),(22,p),(21,o),(20,n),(19,m),(18,l),(17,k),(16,j),(15,h)]) ?_ ?_
 ·refine Qm O O c (fun c=>?_) (fun c=>?_)
  ·refine U _ O<|U _ O<|U _ O<|U _ O<|U _ O<|U _ O<|U _ O<|U _ O<|Zq (r:=max a.A.X a.B.X) O O (by simp only [Zp];rfl)<|U _ O<|U _ O<|qf ?_;cases c;exact ⟨_,_,_,_,_,_,_,_,_,_,_,O⟩
  refine qe O<|qe O<|qe O<|qe O<|qe O<|qe O<|qe O<|qe O<|qe O<|qe O<|U _ O<|qf ?_;cases c;exact ⟨_,_,_,_,_,_,_,_,_,_,_,O⟩
 rintro _ ⟨h,j,k,l,m,n,o,p,q,s,t,rfl⟩;refine q9 b fun ar d b=>?_;refine Qn 12 (fun A st=>∃ u v w x y z aa ab ac ad ae,st = A [(38,qr ar),(37,ae),(36,ad),(35,ac),(34,ab),(33,aa),(32,z),(31,y),(30,x),(29,w),(28,v),(27,u)]) ?_ ?_
 ·refine Qm O O d (fun d=>?_) (fun d=>?_)
  ·refine U _ O<|U _ O<|U _ O<|U _ O<|U _ O<|U _ O<|U _ O<|U _ O<|Jq (r:=min a.A.Y a.B.Y) O O (by simp only [Jp];rfl)<|U _ O<|U _ O<|qf ?_;cases d;exact ⟨_,_,_,_,_,_,_,_,_,_,_,O⟩
  refine qe O<|qe O<|qe O<|qe O<|qe O<|qe O<|qe O<|qe O<|qe O<|qe O<|U _ O<|qf ?_;cases d;exact ⟨_,_,_,_,_,_,_,_,_,_,_,O⟩
 rintro _ ⟨u,v,w,x,y,z,aa,ab,ac,ad,ae,rfl⟩;refine q9 b fun au f b=>?_;refine Qn 12 (fun A st=>∃ af ag ah ai aj ak al am an ao ap,st = A [(50,qr au),(49,ap),(48,ao),(47,an),(46,am),(45,al),(44,ak),(43,aj),(42,ai),(41,ah),(40,ag),(39,af)]) ?_ ?_
 ·refine Qm O O f (fun f=>?_) (fun f=>?_)
  ·refine U _ O<|U _ O<|U _ O<|U _ O<|U _ O<|U _ O<|U _ O<|U _ O<|Zq (r:=max a.A.Y a.B.Y) O O (by simp only [Zp];rfl)<|U _ O<|U _ O<|qf ?_;cases f;exact ⟨_,_,_,_,_,_,_,_,_,_,_,O⟩
  refine qe O<|qe O<|qe O<|qe O<|qe O<|qe O<|qe O<|qe O<|qe O<|qe O<|U _ O<|qf ?_;cases f;exact ⟨_,_,_,_,_,_,_,_,_,_,_,O⟩
 rintro _ ⟨af,ag,ah,ai,aj,ak,al,am,an,ao,ap,rfl⟩;refine qg O<|Qa ?_;cases b;exact Qt _ O
theorem qoq (h : Qh) (m : Int) (r : Int × Int) (a : q2l h m = some r) : Pure Tryz.prog tab 15 [.agg [.sl 2 (h.Nodes.map qq),.sl 2 (h.Edges.map Q2)],qc m] (.tup [qc r.1,qc r.2]):=by
 unfold q2l at a;refine K5 Tryz.func15 O qm qm O<|qh<|Qw _ _ O<|qg O<|qg O<|qy<|U _ O<|q9 a fun n x a=>Qk (qhr h n x) O<|q0 O<|U _ O<|U _ O<|qg O<|qg O<|qf<|qk<|qh<|q0 O<|U _ O<|qf ?_;refine qw O a (fun _ a=>?_) (fun _ a=>?_)
 ·refine qh<|q0 O<|qg O<|qg O<|Qa ?_;cases a;exact Qt _ O
 refine qx<|qk<|qh<|q0 O<|U _ O<|q9 a fun y g a=>?_;refine Qn 7 (fun A st=>∃ o p q s t u,st = A [(27,qr y),(26,u),(25,t),(24,s),(23,q),(22,p),(21,o)]) ?_ ?_
 ·refine Qm O O g (fun g=>?_) (fun g=>?_)
  ·refine qe O<|qe O<|qe O<|qe O<|qe O<|U _ O<|qf ?_;cases g;exact ⟨_,_,_,_,_,_,O⟩
  refine q0 O<|U _ O<|U _ O<|Ku O<|U _ O<|U _ O<|qf ?_;cases g;exact ⟨_,_,_,_,_,_,O⟩
 rintro _ ⟨o,p,q,s,t,u,rfl⟩;refine qf ?_;refine qw O a (fun _ a=>?_) (fun _ a=>?_)
 ·refine qh<|qg O<|qg O<|Qa ?_;cases a;exact Qt _ O
 refine qx<|qh<|qg O<|qf<|qk<|qk<|Qg [q8,q8,q8,q8,q8,qu 0,q8,q8,q8] qm<|q0 O<|q9 a fun v z a=>Qk (qor n.1 v z) O<|U _ O<|U _ O<|q0 O<|q9 a fun aa ab a=>Ky ab O<|U _ O<|q9 a fun b ac a=>Qk (qht v aa b ac) O<|q0 O<|qf<|q9 a fun w ad a=>?_;refine K3 (fun j=>j = w) (fun j=>⟨[(8,qb j)],[],0⟩) qd ?_ ?_
 ·refine Qu (q3e b) (fun k=>⟨[(8,qb k.1),(35,.d (.agg [.bool b.1,.bool b.2.1,.bool b.2.2.1,.bool b.2.2.2])),(36,qb k.2)],[],0⟩) _ w ad (wkA [] [] []) ?_;intro k ah c;unfold q3e at c;refine qh<|U _ O<|qf<|qk ?_;refine qw O c (fun _ c=>?_) (fun _ c=>?_)
  ·refine qx<|qk<|q9 c fun ae f c=>?_;refine K3 (fun l=>l = ae) (fun l=>⟨[(8,qb l),(35,.d (.agg [.bool b.1,.bool b.2.1,.bool b.2.2.1,.bool b.2.2.2])),(36,qb k.2)],[],0⟩) qd ?_ ?_
   ·refine qh<|q9 f fun af ag f=>qvr (enc:=eB) [b.1,b.2.1,b.2.2.1,b.2.2.2] (qr af) ag (fun _=>rfl) O O O O O O<|qg O<|qy<|q0 O<|qf ?_;refine qw O f (fun _ f=>?_) (fun _ f=>?_)
    ·refine Q9<|q0 O<|U _ O<|qg O<|Q8 ?_;obtain rfl:=qs f;exact ⟨_,O,wkA [] [] []⟩
    refine qx<|Qf ?_;obtain rfl:=qs f;exact ⟨_,O,wkA [] [] []⟩
   intro l hb;subst hb;refine Q9<|U _ O<|q0 O<|Q8<|⟨_,qv c,wkA [] [] []⟩
  refine Ql ?_;refine ⟨_,qv c,fun hm=>?_⟩;subst hm;exact ⟨_,O,wkA [] [] []⟩
 intro j hb;subst hb;refine qh<|q0 O<|qg O<|qg O<|Qa ?_;cases a;exact Qt _ O
end Go.Proofs.YtgkialgkmjnfbaaGreat
