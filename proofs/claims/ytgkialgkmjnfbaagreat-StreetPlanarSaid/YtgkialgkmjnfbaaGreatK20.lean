/- W_Allc -/
import Derived.Test.YtgkialgkmjnfbaaGreatK19
namespace Go.Proofs.YtgkialgkmjnfbaaGreat
open Go Go.Am Go.Sh
set_option maxHeartbeats 8000000
set_option maxRecDepth 100000
theorem q12j (rec : List qj→Int→Int→Int→Option (List qj)) (g : qj→qj→Option Int) (q1F : FuncId) (q1C : List DV) (q1Ok : ∀ (x0 : qj) (x1 : qj) (r : Int),g x0 x1 = some r→Pure Tryz.prog tab q1F ([.agg (Q6 x0),.agg (Q6 x1)] ++ q1C) (qk r)) (hrec : ∀ (o : List qj) (q : Int) (s : Int) (t : Int) (r : List qj),rec o q s t = some r→K1 Tryz.prog tab 81 [.hs 0 2 0 o.length,qc q,qc s,qc t,.d (.fn q1F q1C)] [(0,.dat 2 (o.map Q6))] 1 (.d (.tup [])) [(0,.dat 2 (r.map Q6))] 1) (o : List qj) (q : Int) (s : Int) (t : Int) (r : List qj) (p : q6z rec g o q s t = some r) : K1 Tryz.prog tab 81 [.hs 0 2 0 o.length,qc q,qc s,qc t,.d (.fn q1F q1C)] [(0,.dat 2 (o.map Q6))] 1 (.d (.tup [])) [(0,.dat 2 (r.map Q6))] 1:=by
 unfold q6z at p;refine Kg Tryz.func81 O qm qm O<|qg<|qe O<|qz<|qe O<|qd<|q9 p fun be bf p=>Qe<|Qt (q6y g rec) (fun b=>⟨[(0,.hs 0 2 0 b.2.2.2.2.2.length),(1,qc b.1),(2,qc b.2.1),(3,qc b.2.2.1),(4,.d (.fn q1F q1C)),(10,Q7 b.2.2.2.1),(11,Q7 b.2.2.2.2.1)],[(0,.dat 2 (b.2.2.2.2.2.map Q6))],1⟩) _ be bf (wkA [] [] []) ?_;intro b cr a;unfold q6y at a;refine Qe<|qg<|q0 O<|q0 O<|U _ O<|qe O<|qd<|qh<|qg<|q0 O<|U _ O<|qd ?_;refine qt O a (fun _ a=>?_) (fun _ a=>?_)
 ·refine qg<|q0 O<|q0 O<|q0 O<|q0 O<|q9 a fun ad bg a=>q9 a fun cs bh a=>?_;have ct:=Kr bh;refine K3 [(0,0)] [(0,0)] _ (.d (.tup [])) 1 [(0,.dat 2 (ad.map Q6))] 1 (q127 g q1F q1C q1Ok b.2.2.2.2.2 b.1 b.2.1 ad bg)<|Qb ?_;refine ⟨_,qs a,fun hm=>?_⟩;subst hm;obtain rfl:=qw p;exact ⟨.inr O,_,O,wkA [] [] []⟩
 refine qv<|qh<|qg<|q0 O<|U _ O<|qd ?_;refine qt O a (fun _ a=>?_) (fun _ a=>?_)
 ·refine qg<|q0 O<|q0 O<|q0 O<|q0 O<|q9 a fun ae bi a=>q9 a fun cu bj a=>?_;have cv:=Kr bj;refine K3 [(0,0)] [(0,0)] _ (.d (.tup [])) 1 [(0,.dat 2 (ae.map Q6))] 1 (q124 g q1F q1C q1Ok b.2.2.2.2.2 b.1 b.2.1 ae bi)<|Qb ?_;refine ⟨_,qs a,fun hm=>?_⟩;subst hm;obtain rfl:=qw p;exact ⟨.inr O,_,O,wkA [] [] []⟩
 refine qv<|qh<|qg<|q0 O<|U _ O<|qd<|q9 a fun bk l a=>?_;refine Y5 (fun c=>c = bk) (fun c=>⟨[(0,.hs 0 2 0 c.2.length),(1,qc b.1),(2,qc b.2.1),(3,qc c.1),(4,.d (.fn q1F q1C)),(10,Q7 b.2.2.2.1),(11,Q7 b.2.2.2.2.1),(12,.d (qk (w64 (b.2.1 - b.1))))],[(0,.dat 2 (c.2.map Q6))],1⟩) qb ?_ ?_
 ·refine qt O l (fun _ l=>?_) (fun _ l=>?_)
  ·refine qg<|q0 O<|q0 O<|q0 O<|q0 O<|q9 l fun af bl l=>q9 l fun cw bm l=>?_;have bn:=Kr bm;refine K3 [(0,0)] [(0,0)] _ (.d (.tup [])) 1 [(0,.dat 2 (af.map Q6))] 1 (q11y g q1F q1C q1Ok b.2.2.2.2.2 b.1 b.2.1 af bl)<|qd<|Qa<|q0 O<|U _ O<|qe O<|Q8 ?_;obtain rfl:=qw l;exact ⟨_,O,wkE [] [] [] O ⟨⟨_,O,Qy (by simp [bn]) O qy (ltd O)⟩,ql O,ql O,ql O,ql O,ql O,ql O,ql O,trivial⟩ ⟨Qo O O,trivial⟩⟩
  refine qv<|Qf ?_;obtain rfl:=qw l;exact ⟨_,O,wkA [] [] []⟩
 intro c hb;subst hb;refine qg<|q0 O<|q0 O<|q0 O<|q0 O<|q9 a fun bo bp a=>Ur [.hs 0 2 0 c.2.length,qc b.1,qc b.2.1,.d (.fn q1F q1C)] (q121 c.2 b.1 b.2.1 g q1F q1C q1Ok bo bp) O O (Yl (Zc O O) (Yl O (Yl O (Yl O O)))) (.inr O)<|q0 O<|U _ O<|U _ O<|qe O<|qe O<|qd<|qh<|qg<|q0 O<|U _ O<|qd<|q9 a fun bq m a=>?_;refine Y5 (fun h=>h = bq) (fun h=>⟨[(0,.hs 0 2 0 h.2.2.length),(1,qc b.1),(2,qc b.2.1),(3,qc c.1),(4,.d (.fn q1F q1C)),(10,Q7 b.2.2.2.1),(11,Q7 b.2.2.2.2.1),(12,.d (qk (w64 (b.2.1 - b.1)))),(13,qc h.1),(14,qc h.2.1)],[(0,.dat 2 (h.2.2.map Q6))],1⟩) qb ?_ ?_
 ·refine qt O m (fun _ m=>?_) (fun _ m=>?_)
  ·refine qg<|q0 O<|q0 O<|q0 O<|q0 O<|q9 m fun ag br m=>q9 m fun cx bs m=>?_;have bt:=Kr bs;refine K3 [(0,0)] [(0,0)] _ (.d (.tup [])) 1 [(0,.dat 2 (ag.map Q6))] 1 (q12p g q1F q1C q1Ok c.2 b.1 b.2.1 ag br)<|qz<|q0 O<|U _ O<|q0 O<|q0 O<|U _ O<|U _ O<|qe O<|qd<|Qa<|qe O<|Q8 ?_;obtain rfl:=qw m;exact ⟨_,O,wkE [] [] [] O ⟨⟨_,O,Qy (by simp [bt]) O qy (ltd O)⟩,ql O,ql O,ql O,ql O,ql O,ql O,ql O,ql O,ql O,trivial⟩ ⟨Qo O O,trivial⟩⟩
  refine qv<|Qf ?_;obtain rfl:=qw m;exact ⟨_,O,wkA [] [] []⟩
 intro h hb;subst hb;refine qh<|qg<|q0 O<|q9 a fun bu u a=>?_;refine Qn 3 (fun A st=>∃ ah ai,st = A [(71,Q7 bu),(70,ai),(69,ah)]) ?_ ?_
 ·refine Qm O O u (fun u=>?_) (fun u=>?_)
  ·refine q0 O<|U _ O<|qd ?_;cases u;exact ⟨_,_,O⟩
  refine qf O<|U _ O<|qd ?_;cases u;exact ⟨_,_,O⟩
 rintro _ ⟨ah,ai,rfl⟩;refine q9 a fun bv v a=>?_;refine Qn 4 (fun A st=>∃ aj ak al,st = A [(75,Q7 bv),(74,al),(73,ak),(72,aj)]) ?_ ?_
 ·refine Qm O O v (fun v=>?_) (fun v=>?_)
  ·refine q0 O<|U _ O<|U _ O<|qd ?_;cases v;exact ⟨_,_,_,O⟩
  refine qf O<|qf O<|U _ O<|qd ?_;cases v;exact ⟨_,_,_,O⟩
 rintro _ ⟨aj,ak,al,rfl⟩;refine qd<|q9 a fun bw f a=>?_;refine Y5 (fun n=>.inl n = bw) (fun n=>⟨[(0,.hs 0 2 0 n.length),(1,qc b.1),(2,qc b.2.1),(3,qc c.1),(4,.d (.fn q1F q1C)),(10,Q7 b.2.2.2.1),(11,Q7 b.2.2.2.2.1),(12,.d (qk (w64 (b.2.1 - b.1)))),(13,qc h.1)],[(0,.dat 2 (n.map Q6))],1⟩) qb ?_ ?_
 ·refine qt O f (fun _ f=>?_) (fun _ f=>?_)
  ·refine qg<|q0 O<|q0 O<|q0 O<|q0 O<|q9 f fun x bx f=>q9 f fun cy bz f=>?_;have ca:=Kr bz;refine K3 [(0,0)] [(0,0)] _ (Q7 x.1) 1 [(0,.dat 2 (x.2.map Q6))] 1 (q12a g q1F q1C q1Ok h.2.2 b.1 b.2.1 x bx)<|qd ?_;refine qt O f (fun _ f=>?_) (fun _ f=>?_)
   ·refine q1p ?_;obtain rfl:=qw f;refine ⟨_,qs a,fun hm=>?_⟩;subst hm;obtain rfl:=qw p;exact ⟨.inr O,_,O,wkA [] [] []⟩
   refine qv<|Qf ?_;obtain rfl:=qw f;exact ⟨_,O,wkE [] [] [] O ⟨⟨_,O,Qy (by simp [ca]) O qy (ltd O)⟩,ql O,ql O,ql O,ql O,ql O,ql O,ql O,ql O,trivial⟩ ⟨Qo O O,trivial⟩⟩
  refine qv<|Qf ?_;obtain rfl:=qw f;exact ⟨_,O,wkA [] [] []⟩
 intro n hb;subst hb;refine qh<|qh<|Qg [q8,q8,q8,q8,qq 0,q8,q8,q8,qq 0,q8,q8,q8,q8,q8,q8,q8,q8] qm<|q0 O<|U _ O<|q9 a fun cb j a=>?_;refine Qn 15 (fun A st=>∃ am an ao ap aq ar au av aw ax ay az ba bb,st = A [(97,Q7 cb),(96,bb),(95,ba),(94,az),(93,ay),(92,ax),(91,aw),(90,av),(89,au),(88,ar),(87,aq),(86,ap),(85,ao),(84,an),(83,am)]) ?_ ?_
 ·refine Qm O O j (fun j=>?_) (fun j=>?_)
  ·refine q0 O<|q0 O<|q0 O<|U _ O<|q9 j fun cc bc j=>qp bc O O<|Q5 _ bc O<|q0 O<|q0 O<|q9 j fun cd bd j=>qp bd O O<|Q5 _ bd O<|q9 j fun ce cf j=>Kn _ (q1Ok cc cd ce cf) O O O (.inl O)<|U _ O<|U _ O<|U _ O<|qd ?_;cases j;exact ⟨_,_,_,_,_,_,_,_,_,_,_,_,_,_,O⟩
  refine qf O<|qf O<|qf O<|qf O<|qf O<|qf O<|qf O<|qf O<|qf O<|qf O<|qf O<|qf O<|qf O<|U _ O<|qd ?_;cases j;exact ⟨_,_,_,_,_,_,_,_,_,_,_,_,_,_,O⟩
 rintro _ ⟨am,an,ao,ap,aq,ar,au,av,aw,ax,ay,az,ba,bb,rfl⟩;refine qd ?_;refine qt O a (fun _ a=>?_) (fun _ a=>?_)
 ·refine qg<|q0 O<|q0 O<|q0 O<|q0 O<|q0 O<|q9 a fun y cg a=>q9 a fun cz ch a=>?_;have ci:=Kr ch;refine K3 [(0,0)] [(0,0)] _ (qc y.1) 1 [(0,.dat 2 (y.2.map Q6))] 1 (q12g g q1F q1C q1Ok n b.1 b.2.1 h.1 y cg)<|qe O<|qz<|q0 O<|qe O<|qd<|Ql<|q7p<|Qf<|⟨_,qs a,wkE [] [] [] O ⟨⟨_,O,Qy (by simp [ci]) O qy (ltd O)⟩,ql O,ql O,ql O,ql O,ql O,ql O,trivial⟩ ⟨Qo O O,trivial⟩⟩
 refine qv<|qg<|q0 O<|q0 O<|q0 O<|q0 O<|q0 O<|q9 a fun k cj a=>q9 a fun da ck a=>?_;have w:=Kr ck;refine K3 [(0,0)] [(0,0)] _ (.d (.tup [qk k.1,.bool k.2.1])) 1 [(0,.dat 2 (k.2.2.map Q6))] 1 (q12d g q1F q1C q1Ok n b.1 b.2.1 h.1 k cj)<|q0 O<|U _ O<|U _ O<|qe O<|qe O<|qz<|q0 O<|qe O<|qz<|q0 O<|q0 O<|U _ O<|q0 O<|q0 O<|U _ O<|qe O<|qe O<|qz<|q0 O<|U _ O<|qe O<|qz<|q0 O<|q0 O<|U _ O<|qd ?_;refine qt O a (fun _ a=>?_) (fun _ a=>?_)
 ·refine qg<|q0 O<|q0 O<|U _ O<|qe O<|qz<|q0 O<|q0 O<|q0 O<|q0 O<|q0 O<|q9 a fun z cl a=>q9 a fun dc cm a=>?_;have cn:=Kr cm;refine Uq [(0,0)] [(0,0)] [.hs 0 2 0 n.length,qc b.1,qc k.1,qc c.1,.d (.fn q1F q1C)] (.d (.tup [])) [(0,.dat 2 (z.map Q6))] [(0,.dat 2 (z.map Q6))] 1 (hrec k.2.2 b.1 k.1 c.1 z cl) O O O (Z4 [(0,0)] [] [] O ⟨⟨_,O,Qy (by simp [w]) O qy (ltd O)⟩,ql O,ql O,ql O,ql O,trivial⟩ ⟨Qo O O,trivial⟩) (Z4 [(0,0)] [] [] O ⟨ql O,trivial⟩ ⟨Qo O O,trivial⟩) O ⟨.inl O,trivial⟩<|qd<|Qa<|q0 O<|U _ O<|qe O<|Q8<|Qp<|Qf<|⟨_,qs a,wkE [] [] [] O ⟨⟨_,O,Qy (by simp [w,cn]) O qy (ltd O)⟩,ql O,ql O,ql O,ql O,ql O,ql O,trivial⟩ ⟨Qo O O,trivial⟩⟩
 refine qg<|q0 O<|q0 O<|U _ O<|qe O<|qz<|q0 O<|q0 O<|U _ O<|q0 O<|q0 O<|q0 O<|q9 a fun aa co a=>q9 a fun dd cp a=>?_;have cq:=Kr cp;refine Uq [(0,0)] [(0,0)] [.hs 0 2 0 n.length,.d (qk (w64 (k.1 + 1))),qc b.2.1,qc c.1,.d (.fn q1F q1C)] (.d (.tup [])) [(0,.dat 2 (aa.map Q6))] [(0,.dat 2 (aa.map Q6))] 1 (hrec k.2.2 (w64 (k.1 + 1)) b.2.1 c.1 aa co) O O O (Z4 [(0,0)] [] [] O ⟨⟨_,O,Qy (by simp [w]) O qy (ltd O)⟩,ql O,ql O,ql O,ql O,trivial⟩ ⟨Qo O O,trivial⟩) (Z4 [(0,0)] [] [] O ⟨ql O,trivial⟩ ⟨Qo O O,trivial⟩) O ⟨.inl O,trivial⟩<|qd<|Qa<|q0 O<|qe O<|Q8<|Qp<|Qf<|⟨_,qs a,wkE [] [] [] O ⟨⟨_,O,Qy (by simp [w,cq]) O qy (ltd O)⟩,ql O,ql O,ql O,ql O,ql O,ql O,trivial⟩ ⟨Qo O O,trivial⟩⟩
theorem q12k (n : Nat) (g : qj→qj→Option Int) (q1F : FuncId) (q1C : List DV) (q1Ok : ∀ (j : qj) (k : qj) (r : Int),g j k = some r→Pure Tryz.prog tab q1F ([.agg (Q6 j),.agg (Q6 k)] ++ q1C) (qk r)) : ∀ (a : List qj) (b : Int) (c : Int) (f : Int) (r : List qj),q6x n g a b c f = some r→K1 Tryz.prog tab 81 [.hs 0 2 0 a.length,qc b,qc c,qc f,.d (.fn q1F q1C)] [(0,.dat 2 (a.map Q6))] 1 (.d (.tup [])) [(0,.dat 2 (r.map Q6))] 1:=by
 induction n with
 | zero=>intro a b c f r h;cases h
 | succ n ih=>intro a b c f r h;exact q12j (q6x n g) g q1F q1C q1Ok ih a b c f r h
theorem q11u (c : qj→qj→Option Int) (q1F : FuncId) (q1C : List DV) (q1Ok : ∀ (g : qj) (h : qj) (r : Int),c g h = some r→Pure Tryz.prog tab q1F ([.agg (Q6 g),.agg (Q6 h)] ++ q1C) (qk r)) (b : List qj) (r : List qj) (a : q4j c b = some r) : K1 Tryz.prog tab 61 [.hs 0 2 0 b.length,.d (.fn q1F q1C)] [(0,.dat 2 (b.map Q6))] 1 (.d (.tup [])) [(0,.dat 2 (r.map Q6))] 1:=by
 unfold q4j at a;refine Kg Tryz.func61 O qm qm O<|qg<|q0 O<|U _ O<|qe O<|qd<|Qa<|q0 O<|q0 O<|q0 O<|U _ O<|q9 a fun j l a=>Qj (qde (IntKind.wrap .u64 (b.length : Int)) j l) O<|q0 O<|q9 a fun k f a=>q9 a fun o m a=>?_;have p:=Kr m;obtain ⟨n,f⟩:=qda f;refine K3 [(0,0)] [(0,0)] _ (.d (.tup [])) 1 [(0,.dat 2 (k.map Q6))] 1 (q12k n c q1F q1C q1Ok b 0 (b.length : Int) j k f)<|Q8 ?_;obtain rfl:=qw a;exact ⟨.inl O,_,O,wkA [] [] []⟩
theorem qpc (s : List qu) (r : Qh × Bool) (f : q3h s = some r) : Pure Tryz.prog tab 43 [.sl 4 (s.map Kv)] (.tup [.agg [.sl 2 (r.1.Nodes.map qr),.sl 2 (r.1.Edges.map Q6)],.bool r.2]):=by
 unfold q3h at f;refine K8 Tryz.func43 O qm qm O<|qg<|K6 O O<|qe O<|qz<|q0 O<|q9 f fun g y f=>Qj (qp9 s g y) O<|K6 O O<|K0 1 (.dat 2 [[.mp (mrow (fun n : Int=>DV.int .i64 n) (fun l : List qi=>DV.sl 2 (l.map Qc)) g.rows_),.mp (mrow (fun n : Int=>DV.int .i64 n) (fun l : List qi=>DV.sl 2 (l.map Qc)) g.columns_)]]) O<|qz<|U (.d (.agg [.mp (mrow (fun n : Int=>DV.int .i64 n) (fun l : List qi=>DV.sl 2 (l.map Qc)) g.rows_),.mp (mrow (fun n : Int=>DV.int .i64 n) (fun l : List qi=>DV.sl 2 (l.map Qc)) g.columns_)])) O<|q9 f fun c z f=>Qj (q13k g c z) O<|q0 O<|U (.d (.sl 2 (c.1.map qr))) O<|U (Q7 c.2) O<|qe O<|qe O<|qd<|qh<|qg<|q0 O<|U (Q7 (!c.2)) O<|qd ?_;refine qt O f (fun _ f=>?_) (fun _ f=>?_)
 ·refine qg<|U (.d (.agg [.nilsl,.nilsl])) O<|K0 0 (.dat 2 [[.nilsl,.nilsl]]) O<|qe O<|Qb ?_;obtain rfl:=qw f;exact finD (.inr O) (v:=.d (.tup [.agg [.nilsl,.nilsl],.bool false])) O O (Zv (.cons (q2t (.cons (.nil _) (.cons (.nil _) .nil))) (.cons (.refl _) .nil)))
 refine qv<|qg<|q0 O<|U (.d (.agg [.sl 2 (c.1.map qr),.nilsl])) O<|K6 O O<|K0 2 (.dat 2 [[.sl 2 (c.1.map qr),.nilsl]]) O<|qz<|Qx (.mp 3) (.mp true (Qs (fun n : Int=>DV.int .i64 n) (DV.int .i64) ([] : List (Int × Int)))) O<|Qx (.mp 4) (.mp true (Qs (fun n : Int=>DV.int .i64 n) (DV.int .i64) ([] : List (Int × Int)))) O<|qe O<|qe O<|qd<|qh<|qg<|q0 O<|Ks O<|q0 O<|qd<|q9 f fun w aa f=>?_;refine K2 (fun h=>h = w) (fun (h : List qj)=>⟨[(2,.ref 0 2 0 0),(7,.ref 1 2 0 0)],[(0,.dat 2 [[.nilsl,.nilsl]]),(1,.cel 2 [[.d (.sl 2 (c.1.map qr)),.hs 2 2 0 h.length]]),(2,.dat 2 (h.map Q6))],3⟩) qb ?_ ?_
 ·refine Qt (q3i c g) (fun (a : Int × (List (Int × Int)) × (List (Int × Int)) × List qj)=>⟨[(2,.ref 0 2 0 0),(4,.ref 1 2 0 0),(7,.ref 2 2 0 0),(8,.mp 3),(9,.mp 4),(27,.d (.sl 2 (c.1.map qr))),(28,qc (c.1.length : Int)),(29,qc a.1)],[(0,.dat 2 [[.nilsl,.nilsl]]),(1,.dat 2 [[.mp (mrow (fun n : Int=>DV.int .i64 n) (fun l : List qi=>DV.sl 2 (l.map Qc)) g.rows_),.mp (mrow (fun n : Int=>DV.int .i64 n) (fun l : List qi=>DV.sl 2 (l.map Qc)) g.columns_)]]),(2,.cel 2 [[.d (.sl 2 (c.1.map qr)),.hs 5 2 0 a.2.2.2.length]]),(3,.mp false (Qs (fun n : Int=>DV.int .i64 n) (DV.int .i64) a.2.1)),(4,.mp false (Qs (fun n : Int=>DV.int .i64 n) (DV.int .i64) a.2.2.1)),(5,.dat 2 (a.2.2.2.map Q6))],6⟩) (0,[],[],[]) w aa (wkA [(0,0),(1,1),(2,2),(3,3),(4,4)] [] [5]) ?_;intro a am j;unfold q3i at j;refine qg<|U (.d (.bool (decide (a.1 < (c.1.length : Int))))) O<|qd<|qh ?_;refine qt O j (fun _ j=>?_) (fun _ j=>?_)
  ·refine qv<|qh<|Qe<|qg<|q0 O<|q9 j fun b ab j=>Ky (enc:=qr) ab O<|U (.d (.agg [qk b.X,qk b.Y])) O<|K6 O O<|qe O<|K0 6 (.dat 2 [[qk b.X,qk b.Y]]) O<|qz<|U (.d (.agg [.mp (mrow (fun n : Int=>DV.int .i64 n) (fun l : List qi=>DV.sl 2 (l.map Qc)) g.rows_),.mp (mrow (fun n : Int=>DV.int .i64 n) (fun l : List qi=>DV.sl 2 (l.map Qc)) g.columns_)])) O<|U (.d (.agg [qk b.X,qk b.Y])) O<|q9 j fun k ac j=>Qj (qhz g b k ac) O<|K6 O O<|K0 7 (.dat 4 [[.bool k.1,.bool k.2.1,.bool k.2.2.1,.bool k.2.2.2]]) O<|qd<|qh<|qg<|U (.ref 7 4 0 2) O<|U (Q7 k.2.2.1) O<|qd<|q9 j fun ad m j=>?_;refine Y5 (fun o=>o = ad) (fun (o : List qj)=>⟨[(2,.ref 0 2 0 0),(4,.ref 1 2 0 0),(7,.ref 2 2 0 0),(8,.mp 3),(9,.mp 4),(10,qc a.1),(11,.ref 5 2 0 0),(12,.ref 6 4 0 0),(27,.d (.sl 2 (c.1.map qr))),(28,qc (c.1.length : Int)),(29,qc a.1)],[(0,.dat 2 [[.nilsl,.nilsl]]),(1,.dat 2 [[.mp (mrow (fun n : Int=>DV.int .i64 n) (fun l : List qi=>DV.sl 2 (l.map Qc)) g.rows_),.mp (mrow (fun n : Int=>DV.int .i64 n) (fun l : List qi=>DV.sl 2 (l.map Qc)) g.columns_)]]),(2,.cel 2 [[.d (.sl 2 (c.1.map qr)),.hs 7 2 0 o.length]]),(3,.mp false (Qs (fun n : Int=>DV.int .i64 n) (DV.int .i64) a.2.1)),(4,.mp false (Qs (fun n : Int=>DV.int .i64 n) (DV.int .i64) a.2.2.1)),(5,.dat 2 [[qk b.X,qk b.Y]]),(6,.dat 4 [[.bool k.1,.bool k.2.1,.bool k.2.2.1,.bool k.2.2.2]]),(7,.dat 2 (o.map Q6))],8⟩) qb ?_ ?_
   ·refine qt O m (fun _ m=>?_) (fun _ m=>?_)
    ·refine Qa<|U (.ref 2 2 0 1) O<|U (.hs 5 2 0 a.2.2.2.length) O<|q0 O<|U (.ref 6 2 0 1) O<|U (qc b.Y) O<|qgu (ek:=(fun n : Int=>DV.int .i64 n)) (ev:=(DV.int .i64)) (es:=a.2.1) Jp 0 b.Y O O O O O O O<|q0 O<|U (.d (.agg [qk (K5 0 b.Y a.2.1),qk a.1])) O<|Qx (.hs 8 2 0 [({A:=K5 0 b.Y a.2.1,B:=a.1} : qj)].length) (.dat 2 ([({A:=K5 0 b.Y a.2.1,B:=a.1} : qj)].map Q6)) O<|q9 m fun ae af m=>q1m (xs:=a.2.2.2) (ys:=[({A:=K5 0 b.Y a.2.1,B:=a.1} : qj)]) (enc:=Q6) (.hs 8 2 0 [({A:=K5 0 b.Y a.2.1,B:=a.1} : qj)].length) af O O O O O O O (q2s O O) O O O O<|U (.ref 2 2 0 1) O<|K0 2 (.cel 2 [[.d (.sl 2 (c.1.map qr)),.hs 9 2 0 ae.length]]) O<|Q8 ?_;obtain rfl:=qw m;exact ⟨_,O,wkA [(0,0),(1,1),(2,2),(3,3),(4,4),(5,6),(6,7),(7,9)] [] []⟩
    refine qv<|Qf ?_;obtain rfl:=qw m;exact ⟨_,O,wkA [(0,0),(1,1),(2,2),(3,3),(4,4),(5,6),(6,7),(7,5)] [] []⟩
   intro o hb;subst hb;refine qh<|qg<|U (.ref 6 4 0 3) O<|U (Q7 k.2.2.2) O<|qd<|q9 j fun ag p j=>?_;refine Y5 (fun q=>q = ag) (fun (q : List qj)=>⟨[(2,.ref 0 2 0 0),(4,.ref 1 2 0 0),(7,.ref 2 2 0 0),(8,.mp 3),(9,.mp 4),(10,qc a.1),(11,.ref 5 2 0 0),(27,.d (.sl 2 (c.1.map qr))),(28,qc (c.1.length : Int)),(29,qc a.1)],[(0,.dat 2 [[.nilsl,.nilsl]]),(1,.dat 2 [[.mp (mrow (fun n : Int=>DV.int .i64 n) (fun l : List qi=>DV.sl 2 (l.map Qc)) g.rows_),.mp (mrow (fun n : Int=>DV.int .i64 n) (fun l : List qi=>DV.sl 2 (l.map Qc)) g.columns_)]]),(2,.cel 2 [[.d (.sl 2 (c.1.map qr)),.hs 6 2 0 q.length]]),(3,.mp false (Qs (fun n : Int=>DV.int .i64 n) (DV.int .i64) a.2.1)),(4,.mp false (Qs (fun n : Int=>DV.int .i64 n) (DV.int .i64) a.2.2.1)),(5,.dat 2 [[qk b.X,qk b.Y]]),(6,.dat 2 (q.map Q6))],7⟩) qb ?_ ?_
   ·refine qt O p (fun _ p=>?_) (fun _ p=>?_)
    ·refine Qa<|U (.ref 2 2 0 1) O<|U (.hs 7 2 0 o.length) O<|q0 O<|U (.ref 5 2 0 0) O<|U (qc b.X) O<|qgu (ek:=(fun n : Int=>DV.int .i64 n)) (ev:=(DV.int .i64)) (es:=a.2.2.1) Jp 0 b.X O O O O O O O<|q0 O<|U (.d (.agg [qk (K5 0 b.X a.2.2.1),qk a.1])) O<|Qx (.hs 8 2 0 [({A:=K5 0 b.X a.2.2.1,B:=a.1} : qj)].length) (.dat 2 ([({A:=K5 0 b.X a.2.2.1,B:=a.1} : qj)].map Q6)) O<|q9 p fun ah ai p=>q1m (xs:=o) (ys:=[({A:=K5 0 b.X a.2.2.1,B:=a.1} : qj)]) (enc:=Q6) (.hs 8 2 0 [({A:=K5 0 b.X a.2.2.1,B:=a.1} : qj)].length) ai O O O O O O O (q2s O O) O O O O<|U (.ref 2 2 0 1) O<|K0 2 (.cel 2 [[.d (.sl 2 (c.1.map qr)),.hs 9 2 0 ah.length]]) O<|Q8 ?_;obtain rfl:=qw p;exact ⟨_,O,wkA [(0,0),(1,1),(2,2),(3,3),(4,4),(5,5),(6,9)] [] []⟩
    refine qv<|Qf ?_;obtain rfl:=qw p;exact ⟨_,O,wkA [(0,0),(1,1),(2,2),(3,3),(4,4),(5,5),(6,7)] [] []⟩
   intro q hb;subst hb;refine Qg [Qi 4,Qi 3,q8,q8,qq 5,q8,q8,qq 5,q8,q8] qm<|q0 O<|U (.ref 5 2 0 1) O<|U (qc b.Y) O<|q0 O<|U (.ref 5 2 0 0) O<|U (qc b.X) O<|q0 O<|q0 O<|q37 (ek:=(fun n : Int=>DV.int .i64 n)) (ev:=(DV.int .i64)) (es:=a.2.1) Jp b.Y a.1 O O O O O O O O<|q37 (ek:=(fun n : Int=>DV.int .i64 n)) (ev:=(DV.int .i64)) (es:=a.2.2.1) Jp b.X a.1 O O O O O O O O<|Q8<|Qp<|Qa<|U (.d (qk (w64 (a.1 + 1)))) O<|q0 O<|Q8<|⟨_,qs j,wkA [(0,0),(1,1),(2,2),(3,3),(4,4),(5,6)] [] []⟩
  refine Ql ?_;refine ⟨_,qs j,fun hm=>?_⟩;subst hm;exact ⟨_,O,wkA [(0,0),(1,2),(2,5)] [] []⟩
 intro h hb;subst hb;refine qg<|U (.ref 1 2 0 1) O<|U (.hs 2 2 0 h.length) O<|q9 f fun x aj f=>q9 f fun an ak f=>?_;have al:=Kr ak;refine K3 [(0,2)] [(0,1),(1,1),(2,0)] [.hs 2 2 0 h.length,.d (.fn 62 [])] (.d (.tup [])) 1 [(2,.dat 2 (x.map Q6)),(0,.dat 2 [[.nilsl,.nilsl]]),(1,.cel 2 [[.d (.sl 2 (c.1.map qr)),.hs 2 2 0 h.length]])] 3 (q11u (fun t u=>q2n t u) 62 [] (fun t u r hr=>q13i t u r hr) h x aj)<|qd<|qh<|Qg [q8,Qi 0,q8,q8,qq 1,q8,qq 1] qm<|U (.agg [.d (.sl 2 (c.1.map qr)),.hs 2 2 0 h.length]) O<|U (.ref 1 2 0 1) O<|U (.hs 2 2 0 h.length) O<|U (qc (h.length : Int)) O<|U (.d (.bool (decide ((h.length : Int)≤800)))) O<|K0 0 (.cel 2 [[.d (.sl 2 (c.1.map qr)),.hs 2 2 0 h.length]]) O<|qe O<|Qb ?_;obtain rfl:=qw f;exact finD (.inr O) (v:=.tup [.agg [.d (.sl 2 (c.1.map qr)),.hs 2 2 0 h.length],.d (.bool (decide ((h.length : Int)≤800)))]) O (qi3 (Zh (q7h (Zh O (Zh (Zc (by simp [al]) O) O))) (Zh O O))) (.refl _)
theorem q11r (c : List qa) (f : List qa) (r : Bool) (b : q9j c f = some r) : Pure Tryz.prog tab 45 [.sl 2 (c.map qr),.sl 2 (f.map qr)] (.bool r):=by
 unfold q9j at b;refine K8 Tryz.func45 O qm qm O<|qg<|qe O<|qd<|qh<|qg<|q0 O<|Ks O<|q0 O<|Ks O<|U _ O<|qd ?_;refine qt O b (fun _ b=>?_) (fun _ b=>?_)
 ·refine qg<|qe O<|Qb ?_;cases b;exact Qv _ O
 refine qv<|qh<|qg<|q0 O<|Ks O<|q0 O<|qd<|q9 b fun h k b=>?_;refine K2 (fun g=>.inl g = h) (fun g=>⟨[],[],0⟩) qb ?_ ?_
 ·refine Qt (q6k c f) (fun j=>⟨[(0,.d (.sl 2 (c.map qr))),(1,.d (.sl 2 (f.map qr))),(12,qc (c.length : Int)),(13,qc j)],[],0⟩) _ h k (wkA [] [] []) ?_;intro j n a;unfold q6k at a;refine qg<|U _ O<|qd<|qh ?_;refine qt O a (fun _ a=>?_) (fun _ a=>?_)
  ·refine qv<|qh<|Qe<|qg<|q0 O<|qe O<|qd<|qh<|Qg [q8,q8,q8,q8,q8,q8,q8,q8,q8] qm<|q0 O<|q0 O<|q9 a fun o l a=>Ky l O<|U _ O<|q0 O<|q0 O<|q9 a fun p m a=>Ky m O<|U _ O<|U _ O<|qd ?_;refine qt O a (fun _ a=>?_) (fun _ a=>?_)
   ·refine qg<|qe O<|Qb ?_;refine ⟨_,qs a,fun hm=>?_⟩;subst hm;cases b;exact Qv _ O
   refine qv<|Qf<|Qp<|Qa<|U _ O<|q0 O<|Q8<|⟨_,qs a,wkA [] [] []⟩
  refine Ql ?_;refine ⟨_,qs a,fun hm=>?_⟩;subst hm;exact ⟨_,O,wkA [] [] []⟩
 intro g hb;subst hb;refine qg<|qe O<|Qb ?_;cases b;exact Qv _ O
theorem q11q (c : List qj) (f : List qj) (r : Bool) (b : q9i c f = some r) : Pure Tryz.prog tab 46 [.sl 2 (c.map Q6),.sl 2 (f.map Q6)] (.bool r):=by
 unfold q9i at b;refine K8 Tryz.func46 O qm qm O<|qg<|qe O<|qd<|qh<|qg<|q0 O<|Ks O<|q0 O<|Ks O<|U _ O<|qd ?_;refine qt O b (fun _ b=>?_) (fun _ b=>?_)
 ·refine qg<|qe O<|Qb ?_;cases b;exact Qv _ O
 refine qv<|qh<|qg<|q0 O<|Ks O<|q0 O<|qd<|q9 b fun h k b=>?_;refine K2 (fun g=>.inl g = h) (fun g=>⟨[],[],0⟩) qb ?_ ?_
 ·refine Qt (q6j c f) (fun j=>⟨[(0,.d (.sl 2 (c.map Q6))),(1,.d (.sl 2 (f.map Q6))),(12,qc (c.length : Int)),(13,qc j)],[],0⟩) _ h k (wkA [] [] []) ?_;intro j n a;unfold q6j at a;refine qg<|U _ O<|qd<|qh ?_;refine qt O a (fun _ a=>?_) (fun _ a=>?_)
  ·refine qv<|qh<|Qe<|qg<|q0 O<|qe O<|qd<|qh<|Qg [q8,q8,q8,q8,q8,q8,q8,q8,q8] qm<|q0 O<|q0 O<|q9 a fun o l a=>Ky l O<|U _ O<|q0 O<|q0 O<|q9 a fun p m a=>Ky m O<|U _ O<|U _ O<|qd ?_;refine qt O a (fun _ a=>?_) (fun _ a=>?_)
   ·refine qg<|qe O<|Qb ?_;refine ⟨_,qs a,fun hm=>?_⟩;subst hm;cases b;exact Qv _ O
   refine qv<|Qf<|Qp<|Qa<|U _ O<|q0 O<|Q8<|⟨_,qs a,wkA [] [] []⟩
  refine Ql ?_;refine ⟨_,qs a,fun hm=>?_⟩;subst hm;exact ⟨_,O,wkA [] [] []⟩
 intro g hb;subst hb;refine qg<|qe O<|Qb ?_;cases b;exact Qv _ O
theorem q13h (c : Qh) (d : Qh) (r : Bool) (b : qbz c d = some r) : Pure Tryz.prog tab 21 [.agg [.sl 2 (c.Nodes.map qr),.sl 2 (c.Edges.map Q6)],.agg [.sl 2 (d.Nodes.map qr),.sl 2 (d.Edges.map Q6)]] (.bool r):=by
 unfold qbz at b;refine K8 Tryz.func21 O qm qm O<|qg<|Qx _ _ O<|Qx _ _ O<|qe O<|qz<|U _ O<|U _ O<|U _ O<|U _ O<|q9 b fun m n b=>Qj (q11r c.Nodes d.Nodes m n) O<|q9 b fun o a b=>?_;refine Qn 7 (fun A st=>∃ f g h j k l,st = A [(16,Q7 o),(15,l),(14,k),(13,j),(12,h),(11,g),(10,f)]) ?_ ?_
 ·refine Qm O O a (fun a=>?_) (fun a=>?_)
  ·refine U _ O<|U _ O<|U _ O<|U _ O<|q9 a fun p q a=>Qj (q11q c.Edges d.Edges p q) O<|U _ O<|qd ?_;cases a;exact ⟨_,_,_,_,_,_,O⟩
  refine qf O<|qf O<|qf O<|qf O<|qf O<|U _ O<|qd ?_;cases a;exact ⟨_,_,_,_,_,_,O⟩
 rintro _ ⟨f,g,h,j,k,l,rfl⟩;refine qe O<|Qb ?_;cases b;exact Qv _ O
theorem qp5 (c : Qh) (r : Int) (a : Uv c = some r) : Pure Tryz.prog tab 19 [.agg [.sl 2 (c.Nodes.map qr),.sl 2 (c.Edges.map Q6)]] (qk r):=by
 unfold Uv at a;refine K8 Tryz.func19 O qm qm O<|qg<|Qx _ _ O<|qe O<|qd<|qh<|qg<|U _ O<|U _ O<|Ks O<|U _ O<|q9 a fun t d a=>?_;refine Qn 6 (fun A st=>∃ f g h j k,st = A [(16,Q7 t),(15,k),(14,j),(13,h),(12,g),(11,f)]) ?_ ?_
 ·refine Qm O O d (fun d=>?_) (fun d=>?_)
  ·refine qf O<|qf O<|qf O<|qf O<|U _ O<|qd ?_;cases d;exact ⟨_,_,_,_,_,O⟩
  refine U _ O<|U _ O<|Ks O<|U _ O<|U _ O<|qd ?_;cases d;exact ⟨_,_,_,_,_,O⟩
 rintro _ ⟨f,g,h,j,k,rfl⟩;refine qd ?_;refine qt O a (fun _ a=>?_) (fun _ a=>?_)
 ·refine qg<|qe O<|Qb ?_;cases a;exact Qv _ O
 refine qv<|qg<|U _ O<|q9 a fun l u a=>Qj (qpb c l u) O<|q0 O<|U _ O<|U _ O<|qe O<|qe O<|qd<|qh<|qg<|q0 O<|U _ O<|qd ?_;refine qt O a (fun _ a=>?_) (fun _ a=>?_)
 ·refine qg<|qe O<|Qb ?_;cases a;exact Qv _ O
 refine qv<|qh<|qg<|q0 O<|q9 a fun m v a=>Qj (qpc l.1 m v) O<|q0 O<|U _ O<|U _ O<|K6 O O<|K0 1 _ O<|qe O<|qz<|q0 O<|U _ O<|q9 a fun w b a=>?_;refine Qn 6 (fun A st=>∃ n o p q s,st = A [(36,Q7 w),(35,s),(34,q),(33,p),(32,o),(31,n)]) ?_ ?_
 ·refine Qm O O b (fun b=>?_) (fun b=>?_)
  ·refine qf O<|qf O<|qf O<|qf O<|U _ O<|qd ?_;cases b;exact ⟨_,_,_,_,_,O⟩
  refine U _ O<|U _ O<|q9 b fun x y b=>Qj (q13h m.1 c x y) O<|U _ O<|U _ O<|qd ?_;cases b;exact ⟨_,_,_,_,_,O⟩
 rintro _ ⟨n,o,p,q,s,rfl⟩;refine qd ?_;refine qt O a (fun _ a=>?_) (fun _ a=>?_)
 ·refine qg<|qe O<|Qb ?_;cases a;exact Qv _ O
 refine qv<|qg<|qe O<|Qb ?_;cases a;exact Qv _ O
theorem qhx (b : Qh) (r : List qu × Int) (a : q2m b = some r) : Pure Tryz.prog tab 11 [.agg [.sl 2 (b.Nodes.map qr),.sl 2 (b.Edges.map Q6)]] (.tup [.sl 4 (r.1.map Kv),qk r.2]):=by
 unfold q2m at a;refine K8 Tryz.func11 O qm qm O<|qg<|Qx _ _ O<|qe O<|qe O<|qd<|qh<|qg<|U _ O<|q9 a fun c d a=>Qj (qp5 b c d) O<|qe O<|qz<|q0 O<|U _ O<|qd ?_;refine qt O a (fun _ a=>?_) (fun _ a=>?_)
 ·refine qg<|q0 O<|qe O<|qe O<|Qb ?_;obtain rfl:=qw a;exact finD (.inr O) O O (Zv (.cons (.nil _) (.cons (.refl _) .nil)))
 refine qv<|qg<|U _ O<|q9 a fun f g a=>Qj (qpb b f g) O<|q0 O<|U _ O<|U _ O<|qe O<|qe O<|qz<|q0 O<|qe O<|qe O<|Qb ?_;cases a;exact Qv _ O
theorem qnq (f : qa) (r : Bool) (a : q5z f = some r) : Pure Tryz.prog tab 51 [.agg (qr f)] (.bool r):=by
 unfold q5z at a;refine K8 Tryz.func51 O qm qm O<|qg<|Qx _ _ O<|qe O<|qz<|U _ O<|U _ O<|U _ O<|q9 a fun u b a=>?_;refine Qn 5 (fun A st=>∃ g h j k,st = A [(10,Q7 u),(9,k),(8,j),(7,h),(6,g)]) ?_ ?_
 ·refine Qm O O b (fun b=>?_) (fun b=>?_)
  ·refine U _ O<|U _ O<|U _ O<|U _ O<|qd ?_;cases b;exact ⟨_,_,_,_,O⟩
  refine qf O<|qf O<|qf O<|U _ O<|qd ?_;cases b;exact ⟨_,_,_,_,O⟩
 rintro _ ⟨g,h,j,k,rfl⟩;refine q9 a fun v c a=>?_;refine Qn 5 (fun A st=>∃ l m n o,st = A [(15,Q7 v),(14,o),(13,n),(12,m),(11,l)]) ?_ ?_
 ·refine Qm O O c (fun c=>?_) (fun c=>?_)
  ·refine U _ O<|U _ O<|U _ O<|U _ O<|qd ?_;cases c;exact ⟨_,_,_,_,O⟩
  refine qf O<|qf O<|qf O<|U _ O<|qd ?_;cases c;exact ⟨_,_,_,_,O⟩
 rintro _ ⟨l,m,n,o,rfl⟩;refine q9 a fun w d a=>?_;refine Qn 5 (fun A st=>∃ p q s t,st = A [(20,Q7 w),(19,t),(18,s),(17,q),(16,p)]) ?_ ?_
 ·refine Qm O O d (fun d=>?_) (fun d=>?_)
  ·refine U _ O<|U _ O<|U _ O<|U _ O<|qd ?_;cases d;exact ⟨_,_,_,_,O⟩
  refine qf O<|qf O<|qf O<|U _ O<|qd ?_;cases d;exact ⟨_,_,_,_,O⟩
 rintro _ ⟨p,q,s,t,rfl⟩;refine qe O<|Qb ?_;cases a;exact Qv _ O
theorem qzh (g : qu) (r : Bool) (a : q4g g = some r) : Pure Tryz.prog tab 54 [.agg (Kv g)] (.bool r):=by
 unfold q4g at a;refine K8 Tryz.func54 O qm qm O<|qg<|Qx _ _ O<|qe O<|qz<|U _ O<|U _ O<|U _ O<|U _ O<|U _ O<|q9 a fun aq b a=>?_;refine Qn 18 (fun A st=>∃ h j k l m n o p q s t u v w x y z,st = A [(25,Q7 aq),(24,z),(23,y),(22,x),(21,w),(20,v),(19,u),(18,t),(17,s),(16,q),(15,p),(14,o),(13,n),(12,m),(11,l),(10,k),(9,j),(8,h)]) ?_ ?_
 ·refine Qm O O b (fun b=>?_) (fun b=>?_)
  ·refine U _ O<|U _ O<|U _ O<|U _ O<|U _ O<|U _ O<|U _ O<|q9 b fun ar f b=>?_;refine Qn 9 (fun A st=>∃ aa ab ac ad ae af ag ah,st = A [(24,Q7 ar),(23,ah),(22,ag),(21,af),(20,ae),(19,ad),(18,ac),(17,ab),(16,aa)]) ?_ ?_
   ·refine Qm O O f (fun f=>?_) (fun f=>?_)
    ·refine qf O<|qf O<|qf O<|qf O<|qf O<|qf O<|qf O<|U _ O<|qd ?_;cases f;exact ⟨_,_,_,_,_,_,_,_,O⟩
    refine U _ O<|U _ O<|U _ O<|U _ O<|U _ O<|U _ O<|U _ O<|U _ O<|qd ?_;cases f;exact ⟨_,_,_,_,_,_,_,_,O⟩
   rintro _ ⟨aa,ab,ac,ad,ae,af,ag,ah,rfl⟩;refine U _ O<|qd ?_;cases b;exact ⟨_,_,_,_,_,_,_,_,_,_,_,_,_,_,_,_,_,O⟩
  refine qf O<|qf O<|qf O<|qf O<|qf O<|qf O<|qf O<|qf O<|qf O<|qf O<|qf O<|qf O<|qf O<|qf O<|qf O<|qf O<|U _ O<|qd ?_;cases b;exact ⟨_,_,_,_,_,_,_,_,_,_,_,_,_,_,_,_,_,O⟩
 rintro _ ⟨h,j,k,l,m,n,o,p,q,s,t,u,v,w,x,y,z,rfl⟩;refine q9 a fun au c a=>?_;refine Qn 5 (fun A st=>∃ ai aj ak al,st = A [(30,Q7 au),(29,al),(28,ak),(27,aj),(26,ai)]) ?_ ?_
 ·refine Qm O O c (fun c=>?_) (fun c=>?_)
  ·refine U _ O<|U _ O<|q9 c fun av aw c=>Qj (qnq g.A av aw) O<|U _ O<|qd ?_;cases c;exact ⟨_,_,_,_,O⟩
  refine qf O<|qf O<|qf O<|U _ O<|qd ?_;cases c;exact ⟨_,_,_,_,O⟩
 rintro _ ⟨ai,aj,ak,al,rfl⟩;refine q9 a fun ax d a=>?_;refine Qn 5 (fun A st=>∃ am an ao ap,st = A [(35,Q7 ax),(34,ap),(33,ao),(32,an),(31,am)]) ?_ ?_
 ·refine Qm O O d (fun d=>?_) (fun d=>?_)
  ·refine U _ O<|U _ O<|q9 d fun ay az d=>Qj (qnq g.B ay az) O<|U _ O<|qd ?_;cases d;exact ⟨_,_,_,_,O⟩
  refine qf O<|qf O<|qf O<|U _ O<|qd ?_;cases d;exact ⟨_,_,_,_,O⟩
 rintro _ ⟨am,an,ao,ap,rfl⟩;refine qe O<|Qb ?_;cases a;exact Qv _ O
theorem qnv (d : Qh) (f : Qh) (r : Bool) (a : q3b d f = some r) : Pure Tryz.prog tab 22 [.agg [.sl 2 (d.Nodes.map qr),.sl 2 (d.Edges.map Q6)],.agg [.sl 2 (f.Nodes.map qr),.sl 2 (f.Edges.map Q6)]] (.bool r):=by
 unfold q3b at a;refine K8 Tryz.func22 O qm qm O<|qg<|Qx _ _ O<|Qx _ _ O<|qe O<|qd<|qh<|qg<|U _ O<|U _ O<|Ks O<|U _ O<|U _ O<|Ks O<|U _ O<|q9 a fun x g a=>?_;refine Qn 9 (fun A st=>∃ k l m n o p q s,st = A [(22,Q7 x),(21,s),(20,q),(19,p),(18,o),(17,n),(16,m),(15,l),(14,k)]) ?_ ?_
 ·refine Qm O O g (fun g=>?_) (fun g=>?_)
  ·refine qf O<|qf O<|qf O<|qf O<|qf O<|qf O<|qf O<|U _ O<|qd ?_;cases g;exact ⟨_,_,_,_,_,_,_,_,O⟩
  refine U _ O<|U _ O<|Ks O<|U _ O<|U _ O<|Ks O<|U _ O<|U _ O<|qd ?_;cases g;exact ⟨_,_,_,_,_,_,_,_,O⟩
 rintro _ ⟨k,l,m,n,o,p,q,s,rfl⟩;refine qd ?_;refine qt O a (fun _ a=>?_) (fun _ a=>?_)
 ·refine qg<|qe O<|Qb ?_;cases a;exact Qv _ O
 refine qv<|qh<|qg<|qe O<|qd<|q9 a fun t y a=>?_;refine K2 (fun h=>.inl h = t) (fun h=>⟨[(2,.ref 0 2 0 0),(3,.ref 1 2 0 0)],[(0,.dat 2 [[.sl 2 (d.Nodes.map qr),.sl 2 (d.Edges.map Q6)]]),(1,.dat 2 [[.sl 2 (f.Nodes.map qr),.sl 2 (f.Edges.map Q6)]])],2⟩) qb ?_ ?_
 ·refine Qt (q62 d f) (fun u=>⟨[(2,.ref 0 2 0 0),(3,.ref 1 2 0 0),(5,qc u)],[(0,.dat 2 [[.sl 2 (d.Nodes.map qr),.sl 2 (d.Edges.map Q6)]]),(1,.dat 2 [[.sl 2 (f.Nodes.map qr),.sl 2 (f.Edges.map Q6)]])],2⟩) _ t y (wkA [(0,0),(1,1)] [] []) ?_;intro u ae b;unfold q62 at b;refine qh<|qg<|q0 O<|U _ O<|U _ O<|Ks O<|U _ O<|qd ?_;refine qt O b (fun _ b=>?_) (fun _ b=>?_)
  ·refine qv<|qh<|Qe<|qh<|Qg [q8,q8,q8,q8,qq 1,q8,q8,q8,q8,qq 0,q8] qm<|U _ O<|U _ O<|q0 O<|q9 b fun af z b=>Ky z O<|U _ O<|U _ O<|U _ O<|q0 O<|q9 b fun ag aa b=>Ky aa O<|U _ O<|U _ O<|qd ?_;refine qt O b (fun _ b=>?_) (fun _ b=>?_)
   ·refine qg<|qe O<|Qb ?_;refine ⟨_,qs b,fun hm=>?_⟩;subst hm;cases a;exact Qv _ O
   refine qv<|Qf<|Qp<|Qa<|q0 O<|U _ O<|qe O<|Q8<|⟨_,qs b,wkA [(0,0),(1,1)] [] []⟩
  refine Ql ?_;refine ⟨_,qs b,fun hm=>?_⟩;subst hm;exact ⟨_,O,wkA [(0,0),(1,1)] [] []⟩
 intro h hb;subst hb;refine qh<|qg<|qe O<|qd<|q9 a fun v ab a=>?_;refine K2 (fun j=>.inl j = v) (fun j=>⟨[],[],0⟩) qb ?_ ?_
 ·refine Qt (q63 d f) (fun w=>⟨[(2,.ref 0 2 0 0),(3,.ref 1 2 0 0),(6,qc w)],[(0,.dat 2 [[.sl 2 (d.Nodes.map qr),.sl 2 (d.Edges.map Q6)]]),(1,.dat 2 [[.sl 2 (f.Nodes.map qr),.sl 2 (f.Edges.map Q6)]])],2⟩) _ v ab (wkA [(0,0),(1,1)] [] []) ?_;intro w ah c;unfold q63 at c;refine qh<|qg<|q0 O<|U _ O<|U _ O<|Ks O<|U _ O<|qd ?_;refine qt O c (fun _ c=>?_) (fun _ c=>?_)
  ·refine qv<|qh<|Qe<|qh<|Qg [q8,q8,q8,q8,qq 1,q8,q8,q8,q8,qq 0,q8] qm<|U _ O<|U _ O<|q0 O<|q9 c fun ai ac c=>Ky ac O<|U _ O<|U _ O<|U _ O<|q0 O<|q9 c fun aj ad c=>Ky ad O<|U _ O<|U _ O<|qd ?_;refine qt O c (fun _ c=>?_) (fun _ c=>?_)
   ·refine qg<|qe O<|Qb ?_;refine ⟨_,qs c,fun hm=>?_⟩;subst hm;cases a;exact Qv _ O
   refine qv<|Qf<|Qp<|Qa<|q0 O<|U _ O<|qe O<|Q8<|⟨_,qs c,wkA [(0,0),(1,1)] [] []⟩
  refine Ql ?_;refine ⟨_,qs c,fun hm=>?_⟩;subst hm;exact ⟨_,O,wkA [] [] []⟩
 intro j hb;subst hb;refine qg<|qe O<|Qb ?_;cases a;exact Qv _ O
theorem qhw (h : Qh) (m : Int) (r : Int × Int) (a : q1u h m = some r) : Pure Tryz.prog tab 15 [.agg [.sl 2 (h.Nodes.map qr),.sl 2 (h.Edges.map Q6)],qk m] (.tup [qk r.1,qk r.2]):=by
 unfold q1u at a;refine K8 Tryz.func15 O qm qm O<|qg<|Qx _ _ O<|qe O<|qe O<|qz<|U _ O<|q9 a fun n x a=>Qj (qhx h n x) O<|q0 O<|U _ O<|U _ O<|qe O<|qe O<|qd<|qh<|qg<|q0 O<|U _ O<|qd ?_;refine qt O a (fun _ a=>?_) (fun _ a=>?_)
 ·refine qg<|q0 O<|qe O<|qe O<|Qb ?_;cases a;exact Qv _ O
 refine qv<|qh<|qg<|q0 O<|U _ O<|q9 a fun y g a=>?_;refine Qn 7 (fun A st=>∃ o p q s t u,st = A [(27,Q7 y),(26,u),(25,t),(24,s),(23,q),(22,p),(21,o)]) ?_ ?_
 ·refine Qm O O g (fun g=>?_) (fun g=>?_)
  ·refine qf O<|qf O<|qf O<|qf O<|qf O<|U _ O<|qd ?_;cases g;exact ⟨_,_,_,_,_,_,O⟩
  refine q0 O<|U _ O<|U _ O<|Ks O<|U _ O<|U _ O<|qd ?_;cases g;exact ⟨_,_,_,_,_,_,O⟩
 rintro _ ⟨o,p,q,s,t,u,rfl⟩;refine qd ?_;refine qt O a (fun _ a=>?_) (fun _ a=>?_)
 ·refine qg<|qe O<|qe O<|Qb ?_;cases a;exact Qv _ O
 refine qv<|qg<|qe O<|qd<|qh<|qh<|Qg [q8,q8,q8,q8,q8,qq 0,q8,q8,q8] qm<|q0 O<|q9 a fun v z a=>Qj (qp9 n.1 v z) O<|U _ O<|U _ O<|q0 O<|q9 a fun aa ab a=>Ky ab O<|U _ O<|q9 a fun b ac a=>Qj (qhz v aa b ac) O<|q0 O<|qd<|q9 a fun w ad a=>?_;refine K2 (fun j=>j = w) (fun j=>⟨[(8,qc j)],[],0⟩) qb ?_ ?_
 ·refine Qt (q3f b) (fun k=>⟨[(8,qc k.1),(35,.d (.agg [.bool b.1,.bool b.2.1,.bool b.2.2.1,.bool b.2.2.2])),(36,qc k.2)],[],0⟩) _ w ad (wkA [] [] []) ?_;intro k ah c;unfold q3f at c;refine qg<|U _ O<|qd<|qh ?_;refine qt O c (fun _ c=>?_) (fun _ c=>?_)
  ·refine qv<|qh<|q9 c fun ae f c=>?_;refine K2 (fun l=>l = ae) (fun l=>⟨[(8,qc l),(35,.d (.agg [.bool b.1,.bool b.2.1,.bool b.2.2.1,.bool b.2.2.2])),(36,qc k.2)],[],0⟩) qb ?_ ?_
   ·refine qg<|q9 f fun af ag f=>qwc (enc:=eB) [b.1,b.2.1,b.2.2.1,b.2.2.2] (Q7 af) ag (fun _=>rfl) O O O O O O<|qe O<|qz<|q0 O<|qd ?_;refine qt O f (fun _ f=>?_) (fun _ f=>?_)
    ·refine Qa<|q0 O<|U _ O<|qe O<|Q8 ?_;obtain rfl:=qw f;exact ⟨_,O,wkA [] [] []⟩
    refine qv<|Qf ?_;obtain rfl:=qw f;exact ⟨_,O,wkA [] [] []⟩
   intro l hb;subst hb;refine Qa<|U _ O<|q0 O<|Q8<|⟨_,qs c,wkA [] [] []⟩
  refine Ql ?_;refine ⟨_,qs c,fun hm=>?_⟩;subst hm;exact ⟨_,O,wkA [] [] []⟩
 intro j hb;subst hb;refine qg<|q0 O<|qe O<|qe O<|Qb ?_;cases a;exact Qv _ O
end Go.Proofs.YtgkialgkmjnfbaaGreat
