/- W_Allc -/
import Derived.Test.YtgkialgkmjnfbaaGreatK19
namespace Go.Proofs.YtgkialgkmjnfbaaGreat
open Go Go.Am Go.Sh
set_option maxHeartbeats 8000000
set_option maxRecDepth 100000
theorem q11z (rec : List qi→Int→Int→Int→Option (List qi)) (g : qi→qi→Option Int) (q1F : FuncId) (q1C : List DV) (q1Ok : ∀ (x0 : qi) (x1 : qi) (r : Int),g x0 x1 = some r→Pure Tryz.prog tab q1F ([.agg (qy x0),.agg (qy x1)] ++ q1C) (qc r)) (hrec : ∀ (o : List qi) (q : Int) (s : Int) (t : Int) (r : List qi),rec o q s t = some r→K1 Tryz.prog tab 81 [.hs 0 2 0 o.length,qb q,qb s,qb t,.d (.fn q1F q1C)] [(0,.dat 2 (o.map qy))] 1 (.d (.tup [])) [(0,.dat 2 (r.map qy))] 1) (o : List qi) (q : Int) (s : Int) (t : Int) (r : List qi) (p : q6u rec g o q s t = some r) : K1 Tryz.prog tab 81 [.hs 0 2 0 o.length,qb q,qb s,qb t,.d (.fn q1F q1C)] [(0,.dat 2 (o.map qy))] 1 (.d (.tup [])) [(0,.dat 2 (r.map qy))] 1:=by
 unfold q6u at p;refine Kh Tryz.func81 O qm qm O<|qh<|qf O<|Q0<|qf O<|qe<|q9 p fun be bf p=>Qe<|Qt (q6t g rec) (fun b=>⟨[(0,.hs 0 2 0 b.2.2.2.2.2.length),(1,qb b.1),(2,qb b.2.1),(3,qb b.2.2.1),(4,.d (.fn q1F q1C)),(10,qr b.2.2.2.1),(11,qr b.2.2.2.2.1)],[(0,.dat 2 (b.2.2.2.2.2.map qy))],1⟩) _ be bf (wkA [] [] []) ?_;intro b cr a;unfold q6t at a;refine Qe<|qh<|U O<|U O<|q0 _ O<|qf O<|qe<|qk<|qh<|U O<|q0 _ O<|qe ?_;refine qv O a (fun _ a=>?_) (fun _ a=>?_)
 ·refine qh<|U O<|U O<|U O<|U O<|q9 a fun ad bg a=>q9 a fun cs bh a=>?_;have ct:=Kr bh;refine K2 [(0,0)] [(0,0)] _ (.d (.tup [])) 1 [(0,.dat 2 (ad.map qy))] 1 (q11n g q1F q1C q1Ok b.2.2.2.2.2 b.1 b.2.1 ad bg)<|Qb ?_;refine ⟨_,qw a,fun hm=>?_⟩;subst hm;obtain rfl:=qs p;exact ⟨.inr O,_,O,wkA [] [] []⟩
 refine qx<|qk<|qh<|U O<|q0 _ O<|qe ?_;refine qv O a (fun _ a=>?_) (fun _ a=>?_)
 ·refine qh<|U O<|U O<|U O<|U O<|q9 a fun ae bi a=>q9 a fun cu bj a=>?_;have cv:=Kr bj;refine K2 [(0,0)] [(0,0)] _ (.d (.tup [])) 1 [(0,.dat 2 (ae.map qy))] 1 (q11k g q1F q1C q1Ok b.2.2.2.2.2 b.1 b.2.1 ae bi)<|Qb ?_;refine ⟨_,qw a,fun hm=>?_⟩;subst hm;obtain rfl:=qs p;exact ⟨.inr O,_,O,wkA [] [] []⟩
 refine qx<|qk<|qh<|U O<|q0 _ O<|qe<|q9 a fun bk l a=>?_;refine Y4 (fun c=>c = bk) (fun c=>⟨[(0,.hs 0 2 0 c.2.length),(1,qb b.1),(2,qb b.2.1),(3,qb c.1),(4,.d (.fn q1F q1C)),(10,qr b.2.2.2.1),(11,qr b.2.2.2.2.1),(12,.d (qc (w64 (b.2.1 - b.1))))],[(0,.dat 2 (c.2.map qy))],1⟩) qd ?_ ?_
 ·refine qv O l (fun _ l=>?_) (fun _ l=>?_)
  ·refine qh<|U O<|U O<|U O<|U O<|q9 l fun af bl l=>q9 l fun cw bm l=>?_;have bn:=Kr bm;refine K2 [(0,0)] [(0,0)] _ (.d (.tup [])) 1 [(0,.dat 2 (af.map qy))] 1 (q11e g q1F q1C q1Ok b.2.2.2.2.2 b.1 b.2.1 af bl)<|qe<|Q9<|U O<|q0 _ O<|qf O<|Q8 ?_;obtain rfl:=qs l;exact ⟨_,O,wkE [] [] [] O ⟨⟨_,O,Qx (by simp [bn]) O qz (ltd O)⟩,ql O,ql O,ql O,ql O,ql O,ql O,ql O,trivial⟩ ⟨Qm O O,trivial⟩⟩
  refine qx<|Qf ?_;obtain rfl:=qs l;exact ⟨_,O,wkA [] [] []⟩
 intro c hb;subst hb;refine qh<|U O<|U O<|U O<|U O<|q9 a fun bo bp a=>Up [.hs 0 2 0 c.2.length,qb b.1,qb b.2.1,.d (.fn q1F q1C)] (q11h c.2 b.1 b.2.1 g q1F q1C q1Ok bo bp) O O (Yi (Za O O) (Yi O (Yi O (Yi O O)))) (.inr O)<|U O<|q0 _ O<|q0 _ O<|qf O<|qf O<|qe<|qk<|qh<|U O<|q0 _ O<|qe<|q9 a fun bq m a=>?_;refine Y4 (fun h=>h = bq) (fun h=>⟨[(0,.hs 0 2 0 h.2.2.length),(1,qb b.1),(2,qb b.2.1),(3,qb c.1),(4,.d (.fn q1F q1C)),(10,qr b.2.2.2.1),(11,qr b.2.2.2.2.1),(12,.d (qc (w64 (b.2.1 - b.1)))),(13,qb h.1),(14,qb h.2.1)],[(0,.dat 2 (h.2.2.map qy))],1⟩) qd ?_ ?_
 ·refine qv O m (fun _ m=>?_) (fun _ m=>?_)
  ·refine qh<|U O<|U O<|U O<|U O<|q9 m fun ag br m=>q9 m fun cx bs m=>?_;have bt:=Kr bs;refine K2 [(0,0)] [(0,0)] _ (.d (.tup [])) 1 [(0,.dat 2 (ag.map qy))] 1 (q125 g q1F q1C q1Ok c.2 b.1 b.2.1 ag br)<|Q0<|U O<|q0 _ O<|U O<|U O<|q0 _ O<|q0 _ O<|qf O<|qe<|Q9<|qf O<|Q8 ?_;obtain rfl:=qs m;exact ⟨_,O,wkE [] [] [] O ⟨⟨_,O,Qx (by simp [bt]) O qz (ltd O)⟩,ql O,ql O,ql O,ql O,ql O,ql O,ql O,ql O,ql O,trivial⟩ ⟨Qm O O,trivial⟩⟩
  refine qx<|Qf ?_;obtain rfl:=qs m;exact ⟨_,O,wkA [] [] []⟩
 intro h hb;subst hb;refine qk<|qh<|U O<|q9 a fun bu u a=>?_;refine Qp 3 (fun A st=>∃ ah ai,st = A [(71,qr bu),(70,ai),(69,ah)]) ?_ ?_
 ·refine Qn O O u (fun u=>?_) (fun u=>?_)
  ·refine U O<|q0 _ O<|qe ?_;cases u;exact ⟨_,_,O⟩
  refine qg O<|q0 _ O<|qe ?_;cases u;exact ⟨_,_,O⟩
 rintro _ ⟨ah,ai,rfl⟩;refine q9 a fun bv v a=>?_;refine Qp 4 (fun A st=>∃ aj ak al,st = A [(75,qr bv),(74,al),(73,ak),(72,aj)]) ?_ ?_
 ·refine Qn O O v (fun v=>?_) (fun v=>?_)
  ·refine U O<|q0 _ O<|q0 _ O<|qe ?_;cases v;exact ⟨_,_,_,O⟩
  refine qg O<|qg O<|q0 _ O<|qe ?_;cases v;exact ⟨_,_,_,O⟩
 rintro _ ⟨aj,ak,al,rfl⟩;refine qe<|q9 a fun bw f a=>?_;refine Y4 (fun n=>.inl n = bw) (fun n=>⟨[(0,.hs 0 2 0 n.length),(1,qb b.1),(2,qb b.2.1),(3,qb c.1),(4,.d (.fn q1F q1C)),(10,qr b.2.2.2.1),(11,qr b.2.2.2.2.1),(12,.d (qc (w64 (b.2.1 - b.1)))),(13,qb h.1)],[(0,.dat 2 (n.map qy))],1⟩) qd ?_ ?_
 ·refine qv O f (fun _ f=>?_) (fun _ f=>?_)
  ·refine qh<|U O<|U O<|U O<|U O<|q9 f fun x bx f=>q9 f fun cy bz f=>?_;have ca:=Kr bz;refine K2 [(0,0)] [(0,0)] _ (qr x.1) 1 [(0,.dat 2 (x.2.map qy))] 1 (q11q g q1F q1C q1Ok h.2.2 b.1 b.2.1 x bx)<|qe ?_;refine qv O f (fun _ f=>?_) (fun _ f=>?_)
   ·refine q1m ?_;obtain rfl:=qs f;refine ⟨_,qw a,fun hm=>?_⟩;subst hm;obtain rfl:=qs p;exact ⟨.inr O,_,O,wkA [] [] []⟩
   refine qx<|Qf ?_;obtain rfl:=qs f;exact ⟨_,O,wkE [] [] [] O ⟨⟨_,O,Qx (by simp [ca]) O qz (ltd O)⟩,ql O,ql O,ql O,ql O,ql O,ql O,ql O,ql O,trivial⟩ ⟨Qm O O,trivial⟩⟩
  refine qx<|Qf ?_;obtain rfl:=qs f;exact ⟨_,O,wkA [] [] []⟩
 intro n hb;subst hb;refine qk<|qk<|Qg [q8,q8,q8,q8,qu 0,q8,q8,q8,qu 0,q8,q8,q8,q8,q8,q8,q8,q8] qm<|U O<|q0 _ O<|q9 a fun cb j a=>?_;refine Qp 15 (fun A st=>∃ am an ao ap aq ar au av aw ax ay az ba bb,st = A [(97,qr cb),(96,bb),(95,ba),(94,az),(93,ay),(92,ax),(91,aw),(90,av),(89,au),(88,ar),(87,aq),(86,ap),(85,ao),(84,an),(83,am)]) ?_ ?_
 ·refine Qn O O j (fun j=>?_) (fun j=>?_)
  ·refine U O<|U O<|U O<|q0 _ O<|q9 j fun cc bc j=>qp bc O O<|Q6 _ bc O<|U O<|U O<|q9 j fun cd bd j=>qp bd O O<|Q6 _ bd O<|q9 j fun ce cf j=>Kn _ (q1Ok cc cd ce cf) O O O (.inl O)<|q0 _ O<|q0 _ O<|q0 _ O<|qe ?_;cases j;exact ⟨_,_,_,_,_,_,_,_,_,_,_,_,_,_,O⟩
  refine qg O<|qg O<|qg O<|qg O<|qg O<|qg O<|qg O<|qg O<|qg O<|qg O<|qg O<|qg O<|qg O<|q0 _ O<|qe ?_;cases j;exact ⟨_,_,_,_,_,_,_,_,_,_,_,_,_,_,O⟩
 rintro _ ⟨am,an,ao,ap,aq,ar,au,av,aw,ax,ay,az,ba,bb,rfl⟩;refine qe ?_;refine qv O a (fun _ a=>?_) (fun _ a=>?_)
 ·refine qh<|U O<|U O<|U O<|U O<|U O<|q9 a fun y cg a=>q9 a fun cz ch a=>?_;have ci:=Kr ch;refine K2 [(0,0)] [(0,0)] _ (qb y.1) 1 [(0,.dat 2 (y.2.map qy))] 1 (q11w g q1F q1C q1Ok n b.1 b.2.1 h.1 y cg)<|qf O<|Q0<|U O<|qf O<|qe<|Ql<|q7m<|Qf<|⟨_,qw a,wkE [] [] [] O ⟨⟨_,O,Qx (by simp [ci]) O qz (ltd O)⟩,ql O,ql O,ql O,ql O,ql O,ql O,trivial⟩ ⟨Qm O O,trivial⟩⟩
 refine qx<|qh<|U O<|U O<|U O<|U O<|U O<|q9 a fun k cj a=>q9 a fun da ck a=>?_;have w:=Kr ck;refine K2 [(0,0)] [(0,0)] _ (.d (.tup [qc k.1,.bool k.2.1])) 1 [(0,.dat 2 (k.2.2.map qy))] 1 (q11t g q1F q1C q1Ok n b.1 b.2.1 h.1 k cj)<|U O<|q0 _ O<|q0 _ O<|qf O<|qf O<|Q0<|U O<|qf O<|Q0<|U O<|U O<|q0 _ O<|U O<|U O<|q0 _ O<|qf O<|qf O<|Q0<|U O<|q0 _ O<|qf O<|Q0<|U O<|U O<|q0 _ O<|qe ?_;refine qv O a (fun _ a=>?_) (fun _ a=>?_)
 ·refine qh<|U O<|U O<|q0 _ O<|qf O<|Q0<|U O<|U O<|U O<|U O<|U O<|q9 a fun z cl a=>q9 a fun dc cm a=>?_;have cn:=Kr cm;refine Uo [(0,0)] [(0,0)] [.hs 0 2 0 n.length,qb b.1,qb k.1,qb c.1,.d (.fn q1F q1C)] (.d (.tup [])) [(0,.dat 2 (z.map qy))] [(0,.dat 2 (z.map qy))] 1 (hrec k.2.2 b.1 k.1 c.1 z cl) O O O (Yy [(0,0)] [] [] O ⟨⟨_,O,Qx (by simp [w]) O qz (ltd O)⟩,ql O,ql O,ql O,ql O,trivial⟩ ⟨Qm O O,trivial⟩) (Yy [(0,0)] [] [] O ⟨ql O,trivial⟩ ⟨Qm O O,trivial⟩) O ⟨.inl O,trivial⟩<|qe<|Q9<|U O<|q0 _ O<|qf O<|Q8<|Qo<|Qf<|⟨_,qw a,wkE [] [] [] O ⟨⟨_,O,Qx (by simp [w,cn]) O qz (ltd O)⟩,ql O,ql O,ql O,ql O,ql O,ql O,trivial⟩ ⟨Qm O O,trivial⟩⟩
 refine qh<|U O<|U O<|q0 _ O<|qf O<|Q0<|U O<|U O<|q0 _ O<|U O<|U O<|U O<|q9 a fun aa co a=>q9 a fun dd cp a=>?_;have cq:=Kr cp;refine Uo [(0,0)] [(0,0)] [.hs 0 2 0 n.length,.d (qc (w64 (k.1 + 1))),qb b.2.1,qb c.1,.d (.fn q1F q1C)] (.d (.tup [])) [(0,.dat 2 (aa.map qy))] [(0,.dat 2 (aa.map qy))] 1 (hrec k.2.2 (w64 (k.1 + 1)) b.2.1 c.1 aa co) O O O (Yy [(0,0)] [] [] O ⟨⟨_,O,Qx (by simp [w]) O qz (ltd O)⟩,ql O,ql O,ql O,ql O,trivial⟩ ⟨Qm O O,trivial⟩) (Yy [(0,0)] [] [] O ⟨ql O,trivial⟩ ⟨Qm O O,trivial⟩) O ⟨.inl O,trivial⟩<|qe<|Q9<|U O<|qf O<|Q8<|Qo<|Qf<|⟨_,qw a,wkE [] [] [] O ⟨⟨_,O,Qx (by simp [w,cq]) O qz (ltd O)⟩,ql O,ql O,ql O,ql O,ql O,ql O,trivial⟩ ⟨Qm O O,trivial⟩⟩
theorem q120 (n : Nat) (g : qi→qi→Option Int) (q1F : FuncId) (q1C : List DV) (q1Ok : ∀ (j : qi) (k : qi) (r : Int),g j k = some r→Pure Tryz.prog tab q1F ([.agg (qy j),.agg (qy k)] ++ q1C) (qc r)) : ∀ (a : List qi) (b : Int) (c : Int) (f : Int) (r : List qi),q6s n g a b c f = some r→K1 Tryz.prog tab 81 [.hs 0 2 0 a.length,qb b,qb c,qb f,.d (.fn q1F q1C)] [(0,.dat 2 (a.map qy))] 1 (.d (.tup [])) [(0,.dat 2 (r.map qy))] 1:=by
 induction n with
 | zero=>intro a b c f r h;cases h
 | succ n ih=>intro a b c f r h;exact q11z (q6s n g) g q1F q1C q1Ok ih a b c f r h
theorem q11a (c : qi→qi→Option Int) (q1F : FuncId) (q1C : List DV) (q1Ok : ∀ (g : qi) (h : qi) (r : Int),c g h = some r→Pure Tryz.prog tab q1F ([.agg (qy g),.agg (qy h)] ++ q1C) (qc r)) (b : List qi) (r : List qi) (a : q4g c b = some r) : K1 Tryz.prog tab 61 [.hs 0 2 0 b.length,.d (.fn q1F q1C)] [(0,.dat 2 (b.map qy))] 1 (.d (.tup [])) [(0,.dat 2 (r.map qy))] 1:=by
 unfold q4g at a;refine Kh Tryz.func61 O qm qm O<|qh<|U O<|q0 _ O<|qf O<|qe<|Q9<|U O<|U O<|U O<|q0 _ O<|q9 a fun j l a=>Qj (qd8 (IntKind.wrap .u64 (b.length : Int)) j l) O<|U O<|q9 a fun k f a=>q9 a fun o m a=>?_;have p:=Kr m;obtain ⟨n,f⟩:=qd4 f;refine K2 [(0,0)] [(0,0)] _ (.d (.tup [])) 1 [(0,.dat 2 (k.map qy))] 1 (q120 n c q1F q1C q1Ok b 0 (b.length : Int) j k f)<|Q8 ?_;obtain rfl:=qs a;exact ⟨.inl O,_,O,wkA [] [] []⟩
theorem qoy (s : List qt) (r : Qh × Bool) (f : q3i s = some r) : Pure Tryz.prog tab 43 [.sl 4 (s.map Kc)] (.tup [.agg [.sl 2 (r.1.Nodes.map qq),.sl 2 (r.1.Edges.map qy)],.bool r.2]):=by
 unfold q3i at f;refine Ka Tryz.func43 O qm qm O<|qh<|K5 O O<|qf O<|Q0<|U O<|q9 f fun g y f=>Qj (qov s g y) O<|K5 O O<|Qy 1 (.dat 2 [[.mp (mrow (fun n : Int=>DV.int .i64 n) (fun l : List qj=>DV.sl 2 (l.map Qc)) g.rows_),.mp (mrow (fun n : Int=>DV.int .i64 n) (fun l : List qj=>DV.sl 2 (l.map Qc)) g.columns_)]]) O<|Q0<|q0 (.d (.agg [.mp (mrow (fun n : Int=>DV.int .i64 n) (fun l : List qj=>DV.sl 2 (l.map Qc)) g.rows_),.mp (mrow (fun n : Int=>DV.int .i64 n) (fun l : List qj=>DV.sl 2 (l.map Qc)) g.columns_)])) O<|q9 f fun c z f=>Qj (q132 g c z) O<|U O<|q0 (.d (.sl 2 (c.1.map qq))) O<|q0 (qr c.2) O<|qf O<|qf O<|qe<|qk<|qh<|U O<|q0 (qr (!c.2)) O<|qe ?_;refine qv O f (fun _ f=>?_) (fun _ f=>?_)
 ·refine qh<|q0 (.d (.agg [.nilsl,.nilsl])) O<|Qy 0 (.dat 2 [[.nilsl,.nilsl]]) O<|qf O<|Qb ?_;obtain rfl:=qs f;exact finD (.inr O) (v:=.d (.tup [.agg [.nilsl,.nilsl],.bool false])) O O (Zq (.cons (q2t (.cons (.nil _) (.cons (.nil _) .nil))) (.cons (.refl _) .nil)))
 refine qx<|qh<|U O<|q0 (.d (.agg [.sl 2 (c.1.map qq),.nilsl])) O<|K5 O O<|Qy 2 (.dat 2 [[.sl 2 (c.1.map qq),.nilsl]]) O<|Q0<|K0 (.mp 3) (.mp true (Qs (fun n : Int=>DV.int .i64 n) (DV.int .i64) ([] : List (Int × Int)))) O<|K0 (.mp 4) (.mp true (Qs (fun n : Int=>DV.int .i64 n) (DV.int .i64) ([] : List (Int × Int)))) O<|qf O<|qf O<|qe<|qk<|qh<|U O<|Kp O<|U O<|qe<|q9 f fun w aa f=>?_;refine K3 (fun h=>h = w) (fun (h : List qi)=>⟨[(2,.ref 0 2 0 0),(7,.ref 1 2 0 0)],[(0,.dat 2 [[.nilsl,.nilsl]]),(1,.cel 2 [[.d (.sl 2 (c.1.map qq)),.hs 2 2 0 h.length]]),(2,.dat 2 (h.map qy))],3⟩) qd ?_ ?_
 ·refine Qt (q3j c g) (fun (a : Int × (List (Int × Int)) × (List (Int × Int)) × List qi)=>⟨[(2,.ref 0 2 0 0),(4,.ref 1 2 0 0),(7,.ref 2 2 0 0),(8,.mp 3),(9,.mp 4),(27,.d (.sl 2 (c.1.map qq))),(28,qb (c.1.length : Int)),(29,qb a.1)],[(0,.dat 2 [[.nilsl,.nilsl]]),(1,.dat 2 [[.mp (mrow (fun n : Int=>DV.int .i64 n) (fun l : List qj=>DV.sl 2 (l.map Qc)) g.rows_),.mp (mrow (fun n : Int=>DV.int .i64 n) (fun l : List qj=>DV.sl 2 (l.map Qc)) g.columns_)]]),(2,.cel 2 [[.d (.sl 2 (c.1.map qq)),.hs 5 2 0 a.2.2.2.length]]),(3,.mp false (Qs (fun n : Int=>DV.int .i64 n) (DV.int .i64) a.2.1)),(4,.mp false (Qs (fun n : Int=>DV.int .i64 n) (DV.int .i64) a.2.2.1)),(5,.dat 2 (a.2.2.2.map qy))],6⟩) (0,[],[],[]) w aa (wkA [(0,0),(1,1),(2,2),(3,3),(4,4)] [] [5]) ?_;intro a am j;unfold q3j at j;refine qh<|q0 (.d (.bool (decide (a.1 < (c.1.length : Int))))) O<|qe<|qk ?_;refine qv O j (fun _ j=>?_) (fun _ j=>?_)
  ·refine qx<|qk<|Qe<|qh<|U O<|q9 j fun b ab j=>Kz (enc:=qq) ab O<|q0 (.d (.agg [qc b.X,qc b.Y])) O<|K5 O O<|qf O<|Qy 6 (.dat 2 [[qc b.X,qc b.Y]]) O<|Q0<|q0 (.d (.agg [.mp (mrow (fun n : Int=>DV.int .i64 n) (fun l : List qj=>DV.sl 2 (l.map Qc)) g.rows_),.mp (mrow (fun n : Int=>DV.int .i64 n) (fun l : List qj=>DV.sl 2 (l.map Qc)) g.columns_)])) O<|q0 (.d (.agg [qc b.X,qc b.Y])) O<|q9 j fun k ac j=>Qj (qhq g b k ac) O<|K5 O O<|Qy 7 (.dat 4 [[.bool k.1,.bool k.2.1,.bool k.2.2.1,.bool k.2.2.2]]) O<|qe<|qk<|qh<|q0 (.ref 7 4 0 2) O<|q0 (qr k.2.2.1) O<|qe<|q9 j fun ad m j=>?_;refine Y4 (fun o=>o = ad) (fun (o : List qi)=>⟨[(2,.ref 0 2 0 0),(4,.ref 1 2 0 0),(7,.ref 2 2 0 0),(8,.mp 3),(9,.mp 4),(10,qb a.1),(11,.ref 5 2 0 0),(12,.ref 6 4 0 0),(27,.d (.sl 2 (c.1.map qq))),(28,qb (c.1.length : Int)),(29,qb a.1)],[(0,.dat 2 [[.nilsl,.nilsl]]),(1,.dat 2 [[.mp (mrow (fun n : Int=>DV.int .i64 n) (fun l : List qj=>DV.sl 2 (l.map Qc)) g.rows_),.mp (mrow (fun n : Int=>DV.int .i64 n) (fun l : List qj=>DV.sl 2 (l.map Qc)) g.columns_)]]),(2,.cel 2 [[.d (.sl 2 (c.1.map qq)),.hs 7 2 0 o.length]]),(3,.mp false (Qs (fun n : Int=>DV.int .i64 n) (DV.int .i64) a.2.1)),(4,.mp false (Qs (fun n : Int=>DV.int .i64 n) (DV.int .i64) a.2.2.1)),(5,.dat 2 [[qc b.X,qc b.Y]]),(6,.dat 4 [[.bool k.1,.bool k.2.1,.bool k.2.2.1,.bool k.2.2.2]]),(7,.dat 2 (o.map qy))],8⟩) qd ?_ ?_
   ·refine qv O m (fun _ m=>?_) (fun _ m=>?_)
    ·refine Q9<|q0 (.ref 2 2 0 1) O<|q0 (.hs 5 2 0 a.2.2.2.length) O<|U O<|q0 (.ref 6 2 0 1) O<|q0 (qb b.Y) O<|qgo (ek:=(fun n : Int=>DV.int .i64 n)) (ev:=(DV.int .i64)) (es:=a.2.1) Jn 0 b.Y O O O O O O O<|U O<|q0 (.d (.agg [qc (K6 0 b.Y a.2.1),qc a.1])) O<|K0 (.hs 8 2 0 [({A:=K6 0 b.Y a.2.1,B:=a.1} : qi)].length) (.dat 2 ([({A:=K6 0 b.Y a.2.1,B:=a.1} : qi)].map qy)) O<|q9 m fun ae af m=>Un (xs:=a.2.2.2) (ys:=[({A:=K6 0 b.Y a.2.1,B:=a.1} : qi)]) (enc:=qy) (.hs 8 2 0 [({A:=K6 0 b.Y a.2.1,B:=a.1} : qi)].length) af O O O O O O O (q1w O O) O O O O<|q0 (.ref 2 2 0 1) O<|Qy 2 (.cel 2 [[.d (.sl 2 (c.1.map qq)),.hs 9 2 0 ae.length]]) O<|Q8 ?_;obtain rfl:=qs m;exact ⟨_,O,wkA [(0,0),(1,1),(2,2),(3,3),(4,4),(5,6),(6,7),(7,9)] [] []⟩
    refine qx<|Qf ?_;obtain rfl:=qs m;exact ⟨_,O,wkA [(0,0),(1,1),(2,2),(3,3),(4,4),(5,6),(6,7),(7,5)] [] []⟩
   intro o hb;subst hb;refine qk<|qh<|q0 (.ref 6 4 0 3) O<|q0 (qr k.2.2.2) O<|qe<|q9 j fun ag p j=>?_;refine Y4 (fun q=>q = ag) (fun (q : List qi)=>⟨[(2,.ref 0 2 0 0),(4,.ref 1 2 0 0),(7,.ref 2 2 0 0),(8,.mp 3),(9,.mp 4),(10,qb a.1),(11,.ref 5 2 0 0),(27,.d (.sl 2 (c.1.map qq))),(28,qb (c.1.length : Int)),(29,qb a.1)],[(0,.dat 2 [[.nilsl,.nilsl]]),(1,.dat 2 [[.mp (mrow (fun n : Int=>DV.int .i64 n) (fun l : List qj=>DV.sl 2 (l.map Qc)) g.rows_),.mp (mrow (fun n : Int=>DV.int .i64 n) (fun l : List qj=>DV.sl 2 (l.map Qc)) g.columns_)]]),(2,.cel 2 [[.d (.sl 2 (c.1.map qq)),.hs 6 2 0 q.length]]),(3,.mp false (Qs (fun n : Int=>DV.int .i64 n) (DV.int .i64) a.2.1)),(4,.mp false (Qs (fun n : Int=>DV.int .i64 n) (DV.int .i64) a.2.2.1)),(5,.dat 2 [[qc b.X,qc b.Y]]),(6,.dat 2 (q.map qy))],7⟩) qd ?_ ?_
   ·refine qv O p (fun _ p=>?_) (fun _ p=>?_)
    ·refine Q9<|q0 (.ref 2 2 0 1) O<|q0 (.hs 7 2 0 o.length) O<|U O<|q0 (.ref 5 2 0 0) O<|q0 (qb b.X) O<|qgo (ek:=(fun n : Int=>DV.int .i64 n)) (ev:=(DV.int .i64)) (es:=a.2.2.1) Jn 0 b.X O O O O O O O<|U O<|q0 (.d (.agg [qc (K6 0 b.X a.2.2.1),qc a.1])) O<|K0 (.hs 8 2 0 [({A:=K6 0 b.X a.2.2.1,B:=a.1} : qi)].length) (.dat 2 ([({A:=K6 0 b.X a.2.2.1,B:=a.1} : qi)].map qy)) O<|q9 p fun ah ai p=>Un (xs:=o) (ys:=[({A:=K6 0 b.X a.2.2.1,B:=a.1} : qi)]) (enc:=qy) (.hs 8 2 0 [({A:=K6 0 b.X a.2.2.1,B:=a.1} : qi)].length) ai O O O O O O O (q1w O O) O O O O<|q0 (.ref 2 2 0 1) O<|Qy 2 (.cel 2 [[.d (.sl 2 (c.1.map qq)),.hs 9 2 0 ah.length]]) O<|Q8 ?_;obtain rfl:=qs p;exact ⟨_,O,wkA [(0,0),(1,1),(2,2),(3,3),(4,4),(5,5),(6,9)] [] []⟩
    refine qx<|Qf ?_;obtain rfl:=qs p;exact ⟨_,O,wkA [(0,0),(1,1),(2,2),(3,3),(4,4),(5,5),(6,7)] [] []⟩
   intro q hb;subst hb;refine Qg [Qi 4,Qi 3,q8,q8,qu 5,q8,q8,qu 5,q8,q8] qm<|U O<|q0 (.ref 5 2 0 1) O<|q0 (qb b.Y) O<|U O<|q0 (.ref 5 2 0 0) O<|q0 (qb b.X) O<|U O<|U O<|q38 (ek:=(fun n : Int=>DV.int .i64 n)) (ev:=(DV.int .i64)) (es:=a.2.1) Jn b.Y a.1 O O O O O O O O<|q38 (ek:=(fun n : Int=>DV.int .i64 n)) (ev:=(DV.int .i64)) (es:=a.2.2.1) Jn b.X a.1 O O O O O O O O<|Q8<|Qo<|Q9<|q0 (.d (qc (w64 (a.1 + 1)))) O<|U O<|Q8<|⟨_,qw j,wkA [(0,0),(1,1),(2,2),(3,3),(4,4),(5,6)] [] []⟩
  refine Ql ?_;refine ⟨_,qw j,fun hm=>?_⟩;subst hm;exact ⟨_,O,wkA [(0,0),(1,2),(2,5)] [] []⟩
 intro h hb;subst hb;refine qh<|q0 (.ref 1 2 0 1) O<|q0 (.hs 2 2 0 h.length) O<|q9 f fun x aj f=>q9 f fun an ak f=>?_;have al:=Kr ak;refine K2 [(0,2)] [(0,1),(1,1),(2,0)] [.hs 2 2 0 h.length,.d (.fn 62 [])] (.d (.tup [])) 1 [(2,.dat 2 (x.map qy)),(0,.dat 2 [[.nilsl,.nilsl]]),(1,.cel 2 [[.d (.sl 2 (c.1.map qq)),.hs 2 2 0 h.length]])] 3 (q11a (fun t u=>q2n t u) 62 [] (fun t u r hr=>q130 t u r hr) h x aj)<|qe<|qk<|Qg [q8,Qi 0,q8,q8,qu 1,q8,qu 1] qm<|q0 (.agg [.d (.sl 2 (c.1.map qq)),.hs 2 2 0 h.length]) O<|q0 (.ref 1 2 0 1) O<|q0 (.hs 2 2 0 h.length) O<|q0 (qb (h.length : Int)) O<|q0 (.d (.bool (decide ((h.length : Int)≤800)))) O<|Qy 0 (.cel 2 [[.d (.sl 2 (c.1.map qq)),.hs 2 2 0 h.length]]) O<|qf O<|Qb ?_;obtain rfl:=qs f;exact finD (.inr O) (v:=.tup [.agg [.d (.sl 2 (c.1.map qq)),.hs 2 2 0 h.length],.d (.bool (decide ((h.length : Int)≤800)))]) O (qhu (Ze (q7e (Ze O (Ze (Za (by simp [al]) O) O))) (Ze O O))) (.refl _)
theorem q117 (c : List qa) (f : List qa) (r : Bool) (b : q9e c f = some r) : Pure Tryz.prog tab 45 [.sl 2 (c.map qq),.sl 2 (f.map qq)] (.bool r):=by
 unfold q9e at b;refine Ka Tryz.func45 O qm qm O<|qh<|qf O<|qe<|qk<|qh<|U O<|Kp O<|U O<|Kp O<|q0 _ O<|qe ?_;refine qv O b (fun _ b=>?_) (fun _ b=>?_)
 ·refine qh<|qf O<|Qb ?_;cases b;exact Qv _ O
 refine qx<|qk<|qh<|U O<|Kp O<|U O<|qe<|q9 b fun h k b=>?_;refine K3 (fun g=>.inl g = h) (fun g=>⟨[],[],0⟩) qd ?_ ?_
 ·refine Qt (q6f c f) (fun j=>⟨[(0,.d (.sl 2 (c.map qq))),(1,.d (.sl 2 (f.map qq))),(12,qb (c.length : Int)),(13,qb j)],[],0⟩) _ h k (wkA [] [] []) ?_;intro j n a;unfold q6f at a;refine qh<|q0 _ O<|qe<|qk ?_;refine qv O a (fun _ a=>?_) (fun _ a=>?_)
  ·refine qx<|qk<|Qe<|qh<|U O<|qf O<|qe<|qk<|Qg [q8,q8,q8,q8,q8,q8,q8,q8,q8] qm<|U O<|U O<|q9 a fun o l a=>Kz l O<|q0 _ O<|U O<|U O<|q9 a fun p m a=>Kz m O<|q0 _ O<|q0 _ O<|qe ?_;refine qv O a (fun _ a=>?_) (fun _ a=>?_)
   ·refine qh<|qf O<|Qb ?_;refine ⟨_,qw a,fun hm=>?_⟩;subst hm;cases b;exact Qv _ O
   refine qx<|Qf<|Qo<|Q9<|q0 _ O<|U O<|Q8<|⟨_,qw a,wkA [] [] []⟩
  refine Ql ?_;refine ⟨_,qw a,fun hm=>?_⟩;subst hm;exact ⟨_,O,wkA [] [] []⟩
 intro g hb;subst hb;refine qh<|qf O<|Qb ?_;cases b;exact Qv _ O
theorem q116 (c : List qi) (f : List qi) (r : Bool) (b : q9d c f = some r) : Pure Tryz.prog tab 46 [.sl 2 (c.map qy),.sl 2 (f.map qy)] (.bool r):=by
 unfold q9d at b;refine Ka Tryz.func46 O qm qm O<|qh<|qf O<|qe<|qk<|qh<|U O<|Kp O<|U O<|Kp O<|q0 _ O<|qe ?_;refine qv O b (fun _ b=>?_) (fun _ b=>?_)
 ·refine qh<|qf O<|Qb ?_;cases b;exact Qv _ O
 refine qx<|qk<|qh<|U O<|Kp O<|U O<|qe<|q9 b fun h k b=>?_;refine K3 (fun g=>.inl g = h) (fun g=>⟨[],[],0⟩) qd ?_ ?_
 ·refine Qt (q6e c f) (fun j=>⟨[(0,.d (.sl 2 (c.map qy))),(1,.d (.sl 2 (f.map qy))),(12,qb (c.length : Int)),(13,qb j)],[],0⟩) _ h k (wkA [] [] []) ?_;intro j n a;unfold q6e at a;refine qh<|q0 _ O<|qe<|qk ?_;refine qv O a (fun _ a=>?_) (fun _ a=>?_)
  ·refine qx<|qk<|Qe<|qh<|U O<|qf O<|qe<|qk<|Qg [q8,q8,q8,q8,q8,q8,q8,q8,q8] qm<|U O<|U O<|q9 a fun o l a=>Kz l O<|q0 _ O<|U O<|U O<|q9 a fun p m a=>Kz m O<|q0 _ O<|q0 _ O<|qe ?_;refine qv O a (fun _ a=>?_) (fun _ a=>?_)
   ·refine qh<|qf O<|Qb ?_;refine ⟨_,qw a,fun hm=>?_⟩;subst hm;cases b;exact Qv _ O
   refine qx<|Qf<|Qo<|Q9<|q0 _ O<|U O<|Q8<|⟨_,qw a,wkA [] [] []⟩
  refine Ql ?_;refine ⟨_,qw a,fun hm=>?_⟩;subst hm;exact ⟨_,O,wkA [] [] []⟩
 intro g hb;subst hb;refine qh<|qf O<|Qb ?_;cases b;exact Qv _ O
theorem q12z (c : Qh) (d : Qh) (r : Bool) (b : qbu c d = some r) : Pure Tryz.prog tab 21 [.agg [.sl 2 (c.Nodes.map qq),.sl 2 (c.Edges.map qy)],.agg [.sl 2 (d.Nodes.map qq),.sl 2 (d.Edges.map qy)]] (.bool r):=by
 unfold qbu at b;refine Ka Tryz.func21 O qm qm O<|qh<|K0 _ _ O<|K0 _ _ O<|qf O<|Q0<|q0 _ O<|q0 _ O<|q0 _ O<|q0 _ O<|q9 b fun m n b=>Qj (q117 c.Nodes d.Nodes m n) O<|q9 b fun o a b=>?_;refine Qp 7 (fun A st=>∃ f g h j k l,st = A [(16,qr o),(15,l),(14,k),(13,j),(12,h),(11,g),(10,f)]) ?_ ?_
 ·refine Qn O O a (fun a=>?_) (fun a=>?_)
  ·refine q0 _ O<|q0 _ O<|q0 _ O<|q0 _ O<|q9 a fun p q a=>Qj (q116 c.Edges d.Edges p q) O<|q0 _ O<|qe ?_;cases a;exact ⟨_,_,_,_,_,_,O⟩
  refine qg O<|qg O<|qg O<|qg O<|qg O<|q0 _ O<|qe ?_;cases a;exact ⟨_,_,_,_,_,_,O⟩
 rintro _ ⟨f,g,h,j,k,l,rfl⟩;refine qf O<|Qb ?_;cases b;exact Qv _ O
theorem qhn (c : Qh) (r : Int) (a : U8 c = some r) : Pure Tryz.prog tab 19 [.agg [.sl 2 (c.Nodes.map qq),.sl 2 (c.Edges.map qy)]] (qc r):=by
 unfold U8 at a;refine Ka Tryz.func19 O qm qm O<|qh<|K0 _ _ O<|qf O<|qe<|qk<|qh<|q0 _ O<|q0 _ O<|Kp O<|q0 _ O<|q9 a fun t d a=>?_;refine Qp 6 (fun A st=>∃ f g h j k,st = A [(16,qr t),(15,k),(14,j),(13,h),(12,g),(11,f)]) ?_ ?_
 ·refine Qn O O d (fun d=>?_) (fun d=>?_)
  ·refine qg O<|qg O<|qg O<|qg O<|q0 _ O<|qe ?_;cases d;exact ⟨_,_,_,_,_,O⟩
  refine q0 _ O<|q0 _ O<|Kp O<|q0 _ O<|q0 _ O<|qe ?_;cases d;exact ⟨_,_,_,_,_,O⟩
 rintro _ ⟨f,g,h,j,k,rfl⟩;refine qe ?_;refine qv O a (fun _ a=>?_) (fun _ a=>?_)
 ·refine qh<|qf O<|Qb ?_;cases a;exact Qv _ O
 refine qx<|qh<|q0 _ O<|q9 a fun l u a=>Qj (qox c l u) O<|U O<|q0 _ O<|q0 _ O<|qf O<|qf O<|qe<|qk<|qh<|U O<|q0 _ O<|qe ?_;refine qv O a (fun _ a=>?_) (fun _ a=>?_)
 ·refine qh<|qf O<|Qb ?_;cases a;exact Qv _ O
 refine qx<|qk<|qh<|U O<|q9 a fun m v a=>Qj (qoy l.1 m v) O<|U O<|q0 _ O<|q0 _ O<|K5 O O<|Qy 1 _ O<|qf O<|Q0<|U O<|q0 _ O<|q9 a fun w b a=>?_;refine Qp 6 (fun A st=>∃ n o p q s,st = A [(36,qr w),(35,s),(34,q),(33,p),(32,o),(31,n)]) ?_ ?_
 ·refine Qn O O b (fun b=>?_) (fun b=>?_)
  ·refine qg O<|qg O<|qg O<|qg O<|q0 _ O<|qe ?_;cases b;exact ⟨_,_,_,_,_,O⟩
  refine q0 _ O<|q0 _ O<|q9 b fun x y b=>Qj (q12z m.1 c x y) O<|q0 _ O<|q0 _ O<|qe ?_;cases b;exact ⟨_,_,_,_,_,O⟩
 rintro _ ⟨n,o,p,q,s,rfl⟩;refine qe ?_;refine qv O a (fun _ a=>?_) (fun _ a=>?_)
 ·refine qh<|qf O<|Qb ?_;cases a;exact Qv _ O
 refine qx<|qh<|qf O<|Qb ?_;cases a;exact Qv _ O
theorem qho (b : Qh) (r : List qt × Int) (a : q2m b = some r) : Pure Tryz.prog tab 11 [.agg [.sl 2 (b.Nodes.map qq),.sl 2 (b.Edges.map qy)]] (.tup [.sl 4 (r.1.map Kc),qc r.2]):=by
 unfold q2m at a;refine Ka Tryz.func11 O qm qm O<|qh<|K0 _ _ O<|qf O<|qf O<|qe<|qk<|qh<|q0 _ O<|q9 a fun c d a=>Qj (qhn b c d) O<|qf O<|Q0<|U O<|q0 _ O<|qe ?_;refine qv O a (fun _ a=>?_) (fun _ a=>?_)
 ·refine qh<|U O<|qf O<|qf O<|Qb ?_;obtain rfl:=qs a;exact finD (.inr O) O O (Zq (.cons (.nil _) (.cons (.refl _) .nil)))
 refine qx<|qh<|q0 _ O<|q9 a fun f g a=>Qj (qox b f g) O<|U O<|q0 _ O<|q0 _ O<|qf O<|qf O<|Q0<|U O<|qf O<|qf O<|Qb ?_;cases a;exact Qv _ O
theorem qna (f : qa) (r : Bool) (a : q5t f = some r) : Pure Tryz.prog tab 51 [.agg (qq f)] (.bool r):=by
 unfold q5t at a;refine Ka Tryz.func51 O qm qm O<|qh<|K0 _ _ O<|qf O<|Q0<|q0 _ O<|q0 _ O<|q0 _ O<|q9 a fun u b a=>?_;refine Qp 5 (fun A st=>∃ g h j k,st = A [(10,qr u),(9,k),(8,j),(7,h),(6,g)]) ?_ ?_
 ·refine Qn O O b (fun b=>?_) (fun b=>?_)
  ·refine q0 _ O<|q0 _ O<|q0 _ O<|q0 _ O<|qe ?_;cases b;exact ⟨_,_,_,_,O⟩
  refine qg O<|qg O<|qg O<|q0 _ O<|qe ?_;cases b;exact ⟨_,_,_,_,O⟩
 rintro _ ⟨g,h,j,k,rfl⟩;refine q9 a fun v c a=>?_;refine Qp 5 (fun A st=>∃ l m n o,st = A [(15,qr v),(14,o),(13,n),(12,m),(11,l)]) ?_ ?_
 ·refine Qn O O c (fun c=>?_) (fun c=>?_)
  ·refine q0 _ O<|q0 _ O<|q0 _ O<|q0 _ O<|qe ?_;cases c;exact ⟨_,_,_,_,O⟩
  refine qg O<|qg O<|qg O<|q0 _ O<|qe ?_;cases c;exact ⟨_,_,_,_,O⟩
 rintro _ ⟨l,m,n,o,rfl⟩;refine q9 a fun w d a=>?_;refine Qp 5 (fun A st=>∃ p q s t,st = A [(20,qr w),(19,t),(18,s),(17,q),(16,p)]) ?_ ?_
 ·refine Qn O O d (fun d=>?_) (fun d=>?_)
  ·refine q0 _ O<|q0 _ O<|q0 _ O<|q0 _ O<|qe ?_;cases d;exact ⟨_,_,_,_,O⟩
  refine qg O<|qg O<|qg O<|q0 _ O<|qe ?_;cases d;exact ⟨_,_,_,_,O⟩
 rintro _ ⟨p,q,s,t,rfl⟩;refine qf O<|Qb ?_;cases a;exact Qv _ O
theorem qyw (g : qt) (r : Bool) (a : q4d g = some r) : Pure Tryz.prog tab 54 [.agg (Kc g)] (.bool r):=by
 unfold q4d at a;refine Ka Tryz.func54 O qm qm O<|qh<|K0 _ _ O<|qf O<|Q0<|q0 _ O<|q0 _ O<|q0 _ O<|q0 _ O<|q0 _ O<|q9 a fun aq b a=>?_;refine Qp 18 (fun A st=>∃ h j k l m n o p q s t u v w x y z,st = A [(25,qr aq),(24,z),(23,y),(22,x),(21,w),(20,v),(19,u),(18,t),(17,s),(16,q),(15,p),(14,o),(13,n),(12,m),(11,l),(10,k),(9,j),(8,h)]) ?_ ?_
 ·refine Qn O O b (fun b=>?_) (fun b=>?_)
  ·refine q0 _ O<|q0 _ O<|q0 _ O<|q0 _ O<|q0 _ O<|q0 _ O<|q0 _ O<|q9 b fun ar f b=>?_;refine Qp 9 (fun A st=>∃ aa ab ac ad ae af ag ah,st = A [(24,qr ar),(23,ah),(22,ag),(21,af),(20,ae),(19,ad),(18,ac),(17,ab),(16,aa)]) ?_ ?_
   ·refine Qn O O f (fun f=>?_) (fun f=>?_)
    ·refine qg O<|qg O<|qg O<|qg O<|qg O<|qg O<|qg O<|q0 _ O<|qe ?_;cases f;exact ⟨_,_,_,_,_,_,_,_,O⟩
    refine q0 _ O<|q0 _ O<|q0 _ O<|q0 _ O<|q0 _ O<|q0 _ O<|q0 _ O<|q0 _ O<|qe ?_;cases f;exact ⟨_,_,_,_,_,_,_,_,O⟩
   rintro _ ⟨aa,ab,ac,ad,ae,af,ag,ah,rfl⟩;refine q0 _ O<|qe ?_;cases b;exact ⟨_,_,_,_,_,_,_,_,_,_,_,_,_,_,_,_,_,O⟩
  refine qg O<|qg O<|qg O<|qg O<|qg O<|qg O<|qg O<|qg O<|qg O<|qg O<|qg O<|qg O<|qg O<|qg O<|qg O<|qg O<|q0 _ O<|qe ?_;cases b;exact ⟨_,_,_,_,_,_,_,_,_,_,_,_,_,_,_,_,_,O⟩
 rintro _ ⟨h,j,k,l,m,n,o,p,q,s,t,u,v,w,x,y,z,rfl⟩;refine q9 a fun au c a=>?_;refine Qp 5 (fun A st=>∃ ai aj ak al,st = A [(30,qr au),(29,al),(28,ak),(27,aj),(26,ai)]) ?_ ?_
 ·refine Qn O O c (fun c=>?_) (fun c=>?_)
  ·refine q0 _ O<|q0 _ O<|q9 c fun av aw c=>Qj (qna g.A av aw) O<|q0 _ O<|qe ?_;cases c;exact ⟨_,_,_,_,O⟩
  refine qg O<|qg O<|qg O<|q0 _ O<|qe ?_;cases c;exact ⟨_,_,_,_,O⟩
 rintro _ ⟨ai,aj,ak,al,rfl⟩;refine q9 a fun ax d a=>?_;refine Qp 5 (fun A st=>∃ am an ao ap,st = A [(35,qr ax),(34,ap),(33,ao),(32,an),(31,am)]) ?_ ?_
 ·refine Qn O O d (fun d=>?_) (fun d=>?_)
  ·refine q0 _ O<|q0 _ O<|q9 d fun ay az d=>Qj (qna g.B ay az) O<|q0 _ O<|qe ?_;cases d;exact ⟨_,_,_,_,O⟩
  refine qg O<|qg O<|qg O<|q0 _ O<|qe ?_;cases d;exact ⟨_,_,_,_,O⟩
 rintro _ ⟨am,an,ao,ap,rfl⟩;refine qf O<|Qb ?_;cases a;exact Qv _ O
theorem qdu (d : Qh) (f : Qh) (r : Bool) (a : q1k d f = some r) : Pure Tryz.prog tab 22 [.agg [.sl 2 (d.Nodes.map qq),.sl 2 (d.Edges.map qy)],.agg [.sl 2 (f.Nodes.map qq),.sl 2 (f.Edges.map qy)]] (.bool r):=by
 unfold q1k at a;refine Ka Tryz.func22 O qm qm O<|qh<|K0 _ _ O<|K0 _ _ O<|qf O<|qe<|qk<|qh<|q0 _ O<|q0 _ O<|Kp O<|q0 _ O<|q0 _ O<|Kp O<|q0 _ O<|q9 a fun x g a=>?_;refine Qp 9 (fun A st=>∃ k l m n o p q s,st = A [(22,qr x),(21,s),(20,q),(19,p),(18,o),(17,n),(16,m),(15,l),(14,k)]) ?_ ?_
 ·refine Qn O O g (fun g=>?_) (fun g=>?_)
  ·refine qg O<|qg O<|qg O<|qg O<|qg O<|qg O<|qg O<|q0 _ O<|qe ?_;cases g;exact ⟨_,_,_,_,_,_,_,_,O⟩
  refine q0 _ O<|q0 _ O<|Kp O<|q0 _ O<|q0 _ O<|Kp O<|q0 _ O<|q0 _ O<|qe ?_;cases g;exact ⟨_,_,_,_,_,_,_,_,O⟩
 rintro _ ⟨k,l,m,n,o,p,q,s,rfl⟩;refine qe ?_;refine qv O a (fun _ a=>?_) (fun _ a=>?_)
 ·refine qh<|qf O<|Qb ?_;cases a;exact Qv _ O
 refine qx<|qk<|qh<|qf O<|qe<|q9 a fun t y a=>?_;refine K3 (fun h=>.inl h = t) (fun h=>⟨[(2,.ref 0 2 0 0),(3,.ref 1 2 0 0)],[(0,.dat 2 [[.sl 2 (d.Nodes.map qq),.sl 2 (d.Edges.map qy)]]),(1,.dat 2 [[.sl 2 (f.Nodes.map qq),.sl 2 (f.Edges.map qy)]])],2⟩) qd ?_ ?_
 ·refine Qt (q5w d f) (fun u=>⟨[(2,.ref 0 2 0 0),(3,.ref 1 2 0 0),(5,qb u)],[(0,.dat 2 [[.sl 2 (d.Nodes.map qq),.sl 2 (d.Edges.map qy)]]),(1,.dat 2 [[.sl 2 (f.Nodes.map qq),.sl 2 (f.Edges.map qy)]])],2⟩) _ t y (wkA [(0,0),(1,1)] [] []) ?_;intro u ae b;unfold q5w at b;refine qk<|qh<|U O<|q0 _ O<|q0 _ O<|Kp O<|q0 _ O<|qe ?_;refine qv O b (fun _ b=>?_) (fun _ b=>?_)
  ·refine qx<|qk<|Qe<|qk<|Qg [q8,q8,q8,q8,qu 1,q8,q8,q8,q8,qu 0,q8] qm<|q0 _ O<|q0 _ O<|U O<|q9 b fun af z b=>Kz z O<|q0 _ O<|q0 _ O<|q0 _ O<|U O<|q9 b fun ag aa b=>Kz aa O<|q0 _ O<|q0 _ O<|qe ?_;refine qv O b (fun _ b=>?_) (fun _ b=>?_)
   ·refine qh<|qf O<|Qb ?_;refine ⟨_,qw b,fun hm=>?_⟩;subst hm;cases a;exact Qv _ O
   refine qx<|Qf<|Qo<|Q9<|U O<|q0 _ O<|qf O<|Q8<|⟨_,qw b,wkA [(0,0),(1,1)] [] []⟩
  refine Ql ?_;refine ⟨_,qw b,fun hm=>?_⟩;subst hm;exact ⟨_,O,wkA [(0,0),(1,1)] [] []⟩
 intro h hb;subst hb;refine qk<|qh<|qf O<|qe<|q9 a fun v ab a=>?_;refine K3 (fun j=>.inl j = v) (fun j=>⟨[],[],0⟩) qd ?_ ?_
 ·refine Qt (q5x d f) (fun w=>⟨[(2,.ref 0 2 0 0),(3,.ref 1 2 0 0),(6,qb w)],[(0,.dat 2 [[.sl 2 (d.Nodes.map qq),.sl 2 (d.Edges.map qy)]]),(1,.dat 2 [[.sl 2 (f.Nodes.map qq),.sl 2 (f.Edges.map qy)]])],2⟩) _ v ab (wkA [(0,0),(1,1)] [] []) ?_;intro w ah c;unfold q5x at c;refine qk<|qh<|U O<|q0 _ O<|q0 _ O<|Kp O<|q0 _ O<|qe ?_;refine qv O c (fun _ c=>?_) (fun _ c=>?_)
  ·refine qx<|qk<|Qe<|qk<|Qg [q8,q8,q8,q8,qu 1,q8,q8,q8,q8,qu 0,q8] qm<|q0 _ O<|q0 _ O<|U O<|q9 c fun ai ac c=>Kz ac O<|q0 _ O<|q0 _ O<|q0 _ O<|U O<|q9 c fun aj ad c=>Kz ad O<|q0 _ O<|q0 _ O<|qe ?_;refine qv O c (fun _ c=>?_) (fun _ c=>?_)
   ·refine qh<|qf O<|Qb ?_;refine ⟨_,qw c,fun hm=>?_⟩;subst hm;cases a;exact Qv _ O
   refine qx<|Qf<|Qo<|Q9<|U O<|q0 _ O<|qf O<|Q8<|⟨_,qw c,wkA [(0,0),(1,1)] [] []⟩
  refine Ql ?_;refine ⟨_,qw c,fun hm=>?_⟩;subst hm;exact ⟨_,O,wkA [] [] []⟩
 intro j hb;subst hb;refine qh<|qf O<|Qb ?_;cases a;exact Qv _ O
theorem qos (h : Qh) (m : Int) (r : Int × Int) (a : q2l h m = some r) : Pure Tryz.prog tab 15 [.agg [.sl 2 (h.Nodes.map qq),.sl 2 (h.Edges.map qy)],qc m] (.tup [qc r.1,qc r.2]):=by
 unfold q2l at a;refine Ka Tryz.func15 O qm qm O<|qh<|K0 _ _ O<|qf O<|qf O<|Q0<|q0 _ O<|q9 a fun n x a=>Qj (qho h n x) O<|U O<|q0 _ O<|q0 _ O<|qf O<|qf O<|qe<|qk<|qh<|U O<|q0 _ O<|qe ?_;refine qv O a (fun _ a=>?_) (fun _ a=>?_)
 ·refine qh<|U O<|qf O<|qf O<|Qb ?_;cases a;exact Qv _ O
 refine qx<|qk<|qh<|U O<|q0 _ O<|q9 a fun y g a=>?_;refine Qp 7 (fun A st=>∃ o p q s t u,st = A [(27,qr y),(26,u),(25,t),(24,s),(23,q),(22,p),(21,o)]) ?_ ?_
 ·refine Qn O O g (fun g=>?_) (fun g=>?_)
  ·refine qg O<|qg O<|qg O<|qg O<|qg O<|q0 _ O<|qe ?_;cases g;exact ⟨_,_,_,_,_,_,O⟩
  refine U O<|q0 _ O<|q0 _ O<|Kp O<|q0 _ O<|q0 _ O<|qe ?_;cases g;exact ⟨_,_,_,_,_,_,O⟩
 rintro _ ⟨o,p,q,s,t,u,rfl⟩;refine qe ?_;refine qv O a (fun _ a=>?_) (fun _ a=>?_)
 ·refine qh<|qf O<|qf O<|Qb ?_;cases a;exact Qv _ O
 refine qx<|qh<|qf O<|qe<|qk<|qk<|Qg [q8,q8,q8,q8,q8,qu 0,q8,q8,q8] qm<|U O<|q9 a fun v z a=>Qj (qov n.1 v z) O<|q0 _ O<|q0 _ O<|U O<|q9 a fun aa ab a=>Kz ab O<|q0 _ O<|q9 a fun b ac a=>Qj (qhq v aa b ac) O<|U O<|qe<|q9 a fun w ad a=>?_;refine K3 (fun j=>j = w) (fun j=>⟨[(8,qb j)],[],0⟩) qd ?_ ?_
 ·refine Qt (q3g b) (fun k=>⟨[(8,qb k.1),(35,.d (.agg [.bool b.1,.bool b.2.1,.bool b.2.2.1,.bool b.2.2.2])),(36,qb k.2)],[],0⟩) _ w ad (wkA [] [] []) ?_;intro k ah c;unfold q3g at c;refine qh<|q0 _ O<|qe<|qk ?_;refine qv O c (fun _ c=>?_) (fun _ c=>?_)
  ·refine qx<|qk<|q9 c fun ae f c=>?_;refine K3 (fun l=>l = ae) (fun l=>⟨[(8,qb l),(35,.d (.agg [.bool b.1,.bool b.2.1,.bool b.2.2.1,.bool b.2.2.2])),(36,qb k.2)],[],0⟩) qd ?_ ?_
   ·refine qh<|q9 f fun af ag f=>qvv (enc:=eB) [b.1,b.2.1,b.2.2.1,b.2.2.2] (qr af) ag (fun _=>rfl) O O O O O O<|qf O<|Q0<|U O<|qe ?_;refine qv O f (fun _ f=>?_) (fun _ f=>?_)
    ·refine Q9<|U O<|q0 _ O<|qf O<|Q8 ?_;obtain rfl:=qs f;exact ⟨_,O,wkA [] [] []⟩
    refine qx<|Qf ?_;obtain rfl:=qs f;exact ⟨_,O,wkA [] [] []⟩
   intro l hb;subst hb;refine Q9<|q0 _ O<|U O<|Q8<|⟨_,qw c,wkA [] [] []⟩
  refine Ql ?_;refine ⟨_,qw c,fun hm=>?_⟩;subst hm;exact ⟨_,O,wkA [] [] []⟩
 intro j hb;subst hb;refine qh<|U O<|qf O<|qf O<|Qb ?_;cases a;exact Qv _ O
end Go.Proofs.YtgkialgkmjnfbaaGreat
