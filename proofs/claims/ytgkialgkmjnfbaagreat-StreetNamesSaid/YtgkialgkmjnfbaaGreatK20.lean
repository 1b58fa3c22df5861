/- W_Allc -/
import Derived.Test.YtgkialgkmjnfbaaGreatK19
namespace Go.Proofs.YtgkialgkmjnfbaaGreat
open Go Go.Am Go.Sh
set_option maxHeartbeats 8000000
set_option maxRecDepth 100000
theorem q11s (rec : List qg→Int→Int→Int→Option (List qg)) (g : qg→qg→Option Int) (q1F : FuncId) (q1C : List DV) (q1Ok : ∀ (x0 : qg) (x1 : qg) (r : Int),g x0 x1 = some r→Pure Tryz.prog tab q1F ([.agg (Q2 x0),.agg (Q2 x1)] ++ q1C) (qj r)) (hrec : ∀ (o : List qg) (q : Int) (s : Int) (t : Int) (r : List qg),rec o q s t = some r→K3 Tryz.prog tab 81 [.hs 0 2 0 o.length,qb q,qb s,qb t,.d (.fn q1F q1C)] [(0,.dat 2 (o.map Q2))] 1 (.d (.tup [])) [(0,.dat 2 (r.map Q2))] 1) (o : List qg) (q : Int) (s : Int) (t : Int) (r : List qg) (p : q6x rec g o q s t = some r) : K3 Tryz.prog tab 81 [.hs 0 2 0 o.length,qb q,qb s,qb t,.d (.fn q1F q1C)] [(0,.dat 2 (o.map Q2))] 1 (.d (.tup [])) [(0,.dat 2 (r.map Q2))] 1:=by
 unfold q6x at p;refine Kj Tryz.func81 O qm qm O<|qh<|qf O<|qv<|qf O<|qc<|q9 p fun be bf p=>Qf<|Qv (q6w g rec) (fun b=>⟨[(0,.hs 0 2 0 b.2.2.2.2.2.length),(1,qb b.1),(2,qb b.2.1),(3,qb b.2.2.1),(4,.d (.fn q1F q1C)),(10,Q1 b.2.2.2.1),(11,Q1 b.2.2.2.2.1)],[(0,.dat 2 (b.2.2.2.2.2.map Q2))],1⟩) _ be bf (wkA [] [] []) ?_;intro b cr a;unfold q6w at a;refine Qf<|qh<|q0 O<|q0 O<|U _ O<|qf O<|qc<|qi<|qh<|q0 O<|U _ O<|qc ?_;refine qy O a (fun _ a=>?_) (fun _ a=>?_)
 ·refine qh<|q0 O<|q0 O<|q0 O<|q0 O<|q9 a fun ad bg a=>q9 a fun cs bh a=>?_;have ct:=Ku bh;refine K4 [(0,0)] [(0,0)] _ (.d (.tup [])) 1 [(0,.dat 2 (ad.map Q2))] 1 (q11g g q1F q1C q1Ok b.2.2.2.2.2 b.1 b.2.1 ad bg)<|Q8 ?_;refine ⟨_,qz a,fun hm=>?_⟩;subst hm;obtain rfl:=qx p;exact ⟨.inr O,_,O,wkA [] [] []⟩
 refine Q0<|qi<|qh<|q0 O<|U _ O<|qc ?_;refine qy O a (fun _ a=>?_) (fun _ a=>?_)
 ·refine qh<|q0 O<|q0 O<|q0 O<|q0 O<|q9 a fun ae bi a=>q9 a fun cu bj a=>?_;have cv:=Ku bj;refine K4 [(0,0)] [(0,0)] _ (.d (.tup [])) 1 [(0,.dat 2 (ae.map Q2))] 1 (q11d g q1F q1C q1Ok b.2.2.2.2.2 b.1 b.2.1 ae bi)<|Q8 ?_;refine ⟨_,qz a,fun hm=>?_⟩;subst hm;obtain rfl:=qx p;exact ⟨.inr O,_,O,wkA [] [] []⟩
 refine Q0<|qi<|qh<|q0 O<|U _ O<|qc<|q9 a fun bk l a=>?_;refine Y5 (fun c=>c = bk) (fun c=>⟨[(0,.hs 0 2 0 c.2.length),(1,qb b.1),(2,qb b.2.1),(3,qb c.1),(4,.d (.fn q1F q1C)),(10,Q1 b.2.2.2.1),(11,Q1 b.2.2.2.2.1),(12,.d (qj (w64 (b.2.1 - b.1))))],[(0,.dat 2 (c.2.map Q2))],1⟩) qd ?_ ?_
 ·refine qy O l (fun _ l=>?_) (fun _ l=>?_)
  ·refine qh<|q0 O<|q0 O<|q0 O<|q0 O<|q9 l fun af bl l=>q9 l fun cw bm l=>?_;have bn:=Ku bm;refine K4 [(0,0)] [(0,0)] _ (.d (.tup [])) 1 [(0,.dat 2 (af.map Q2))] 1 (q117 g q1F q1C q1Ok b.2.2.2.2.2 b.1 b.2.1 af bl)<|qc<|Q7<|q0 O<|U _ O<|qf O<|Q5 ?_;obtain rfl:=qx l;exact ⟨_,O,wkE [] [] [] O ⟨⟨_,O,K0 (by simp [bn]) O qq (ltd O)⟩,qk O,qk O,qk O,qk O,qk O,qk O,qk O,trivial⟩ ⟨Qq O O,trivial⟩⟩
  refine Q0<|Qg ?_;obtain rfl:=qx l;exact ⟨_,O,wkA [] [] []⟩
 intro c hb;subst hb;refine qh<|q0 O<|q0 O<|q0 O<|q0 O<|q9 a fun bo bp a=>Yu [.hs 0 2 0 c.2.length,qb b.1,qb b.2.1,.d (.fn q1F q1C)] (q11a c.2 b.1 b.2.1 g q1F q1C q1Ok bo bp) O O (Kp (Ks O O) (Kp O (Kp O (Kp O O)))) (.inr O)<|q0 O<|U _ O<|U _ O<|qf O<|qf O<|qc<|qi<|qh<|q0 O<|U _ O<|qc<|q9 a fun bq m a=>?_;refine Y5 (fun h=>h = bq) (fun h=>⟨[(0,.hs 0 2 0 h.2.2.length),(1,qb b.1),(2,qb b.2.1),(3,qb c.1),(4,.d (.fn q1F q1C)),(10,Q1 b.2.2.2.1),(11,Q1 b.2.2.2.2.1),(12,.d (qj (w64 (b.2.1 - b.1)))),(13,qb h.1),(14,qb h.2.1)],[(0,.dat 2 (h.2.2.map Q2))],1⟩) qd ?_ ?_
 ·refine qy O m (fun _ m=>?_) (fun _ m=>?_)
  ·refine qh<|q0 O<|q0 O<|q0 O<|q0 O<|q9 m fun ag br m=>q9 m fun cx bs m=>?_;have bt:=Ku bs;refine K4 [(0,0)] [(0,0)] _ (.d (.tup [])) 1 [(0,.dat 2 (ag.map Q2))] 1 (q11y g q1F q1C q1Ok c.2 b.1 b.2.1 ag br)<|qv<|q0 O<|U _ O<|q0 O<|q0 O<|U _ O<|U _ O<|qf O<|qc<|Q7<|qf O<|Q5 ?_;obtain rfl:=qx m;exact ⟨_,O,wkE [] [] [] O ⟨⟨_,O,K0 (by simp [bt]) O qq (ltd O)⟩,qk O,qk O,qk O,qk O,qk O,qk O,qk O,qk O,qk O,trivial⟩ ⟨Qq O O,trivial⟩⟩
  refine Q0<|Qg ?_;obtain rfl:=qx m;exact ⟨_,O,wkA [] [] []⟩
 intro h hb;subst hb;refine qi<|qh<|q0 O<|q9 a fun bu u a=>?_;refine Qk 3 (fun A st=>∃ ah ai,st = A [(71,Q1 bu),(70,ai),(69,ah)]) ?_ ?_
 ·refine Qj O O u (fun u=>?_) (fun u=>?_)
  ·refine q0 O<|U _ O<|qc ?_;cases u;exact ⟨_,_,O⟩
  refine qe O<|U _ O<|qc ?_;cases u;exact ⟨_,_,O⟩
 rintro _ ⟨ah,ai,rfl⟩;refine q9 a fun bv v a=>?_;refine Qk 4 (fun A st=>∃ aj ak al,st = A [(75,Q1 bv),(74,al),(73,ak),(72,aj)]) ?_ ?_
 ·refine Qj O O v (fun v=>?_) (fun v=>?_)
  ·refine q0 O<|U _ O<|U _ O<|qc ?_;cases v;exact ⟨_,_,_,O⟩
  refine qe O<|qe O<|U _ O<|qc ?_;cases v;exact ⟨_,_,_,O⟩
 rintro _ ⟨aj,ak,al,rfl⟩;refine qc<|q9 a fun bw f a=>?_;refine Y5 (fun n=>.inl n = bw) (fun n=>⟨[(0,.hs 0 2 0 n.length),(1,qb b.1),(2,qb b.2.1),(3,qb c.1),(4,.d (.fn q1F q1C)),(10,Q1 b.2.2.2.1),(11,Q1 b.2.2.2.2.1),(12,.d (qj (w64 (b.2.1 - b.1)))),(13,qb h.1)],[(0,.dat 2 (n.map Q2))],1⟩) qd ?_ ?_
 ·refine qy O f (fun _ f=>?_) (fun _ f=>?_)
  ·refine qh<|q0 O<|q0 O<|q0 O<|q0 O<|q9 f fun x bx f=>q9 f fun cy bz f=>?_;have ca:=Ku bz;refine K4 [(0,0)] [(0,0)] _ (Q1 x.1) 1 [(0,.dat 2 (x.2.map Q2))] 1 (q11j g q1F q1C q1Ok h.2.2 b.1 b.2.1 x bx)<|qc ?_;refine qy O f (fun _ f=>?_) (fun _ f=>?_)
   ·refine q24 ?_;obtain rfl:=qx f;refine ⟨_,qz a,fun hm=>?_⟩;subst hm;obtain rfl:=qx p;exact ⟨.inr O,_,O,wkA [] [] []⟩
   refine Q0<|Qg ?_;obtain rfl:=qx f;exact ⟨_,O,wkE [] [] [] O ⟨⟨_,O,K0 (by simp [ca]) O qq (ltd O)⟩,qk O,qk O,qk O,qk O,qk O,qk O,qk O,qk O,trivial⟩ ⟨Qq O O,trivial⟩⟩
  refine Q0<|Qg ?_;obtain rfl:=qx f;exact ⟨_,O,wkA [] [] []⟩
 intro n hb;subst hb;refine qi<|qi<|Qi [q7,q7,q7,q7,qs 0,q7,q7,q7,qs 0,q7,q7,q7,q7,q7,q7,q7,q7] qm<|q0 O<|U _ O<|q9 a fun cb j a=>?_;refine Qk 15 (fun A st=>∃ am an ao ap aq ar au av aw ax ay az ba bb,st = A [(97,Q1 cb),(96,bb),(95,ba),(94,az),(93,ay),(92,ax),(91,aw),(90,av),(89,au),(88,ar),(87,aq),(86,ap),(85,ao),(84,an),(83,am)]) ?_ ?_
 ·refine Qj O O j (fun j=>?_) (fun j=>?_)
  ·refine q0 O<|q0 O<|q0 O<|U _ O<|q9 j fun cc bc j=>qo bc O O<|Q3 _ bc O<|q0 O<|q0 O<|q9 j fun cd bd j=>qo bd O O<|Q3 _ bd O<|q9 j fun ce cf j=>Kk _ (q1Ok cc cd ce cf) O O O (.inl O)<|U _ O<|U _ O<|U _ O<|qc ?_;cases j;exact ⟨_,_,_,_,_,_,_,_,_,_,_,_,_,_,O⟩
  refine qe O<|qe O<|qe O<|qe O<|qe O<|qe O<|qe O<|qe O<|qe O<|qe O<|qe O<|qe O<|qe O<|U _ O<|qc ?_;cases j;exact ⟨_,_,_,_,_,_,_,_,_,_,_,_,_,_,O⟩
 rintro _ ⟨am,an,ao,ap,aq,ar,au,av,aw,ax,ay,az,ba,bb,rfl⟩;refine qc ?_;refine qy O a (fun _ a=>?_) (fun _ a=>?_)
 ·refine qh<|q0 O<|q0 O<|q0 O<|q0 O<|q0 O<|q9 a fun y cg a=>q9 a fun cz ch a=>?_;have ci:=Ku ch;refine K4 [(0,0)] [(0,0)] _ (qb y.1) 1 [(0,.dat 2 (y.2.map Q2))] 1 (q11p g q1F q1C q1Ok n b.1 b.2.1 h.1 y cg)<|qf O<|qv<|q0 O<|qf O<|qc<|Qo<|q7m<|Qg<|⟨_,qz a,wkE [] [] [] O ⟨⟨_,O,K0 (by simp [ci]) O qq (ltd O)⟩,qk O,qk O,qk O,qk O,qk O,qk O,trivial⟩ ⟨Qq O O,trivial⟩⟩
 refine Q0<|qh<|q0 O<|q0 O<|q0 O<|q0 O<|q0 O<|q9 a fun k cj a=>q9 a fun da ck a=>?_;have w:=Ku ck;refine K4 [(0,0)] [(0,0)] _ (.d (.tup [qj k.1,.bool k.2.1])) 1 [(0,.dat 2 (k.2.2.map Q2))] 1 (q11m g q1F q1C q1Ok n b.1 b.2.1 h.1 k cj)<|q0 O<|U _ O<|U _ O<|qf O<|qf O<|qv<|q0 O<|qf O<|qv<|q0 O<|q0 O<|U _ O<|q0 O<|q0 O<|U _ O<|qf O<|qf O<|qv<|q0 O<|U _ O<|qf O<|qv<|q0 O<|q0 O<|U _ O<|qc ?_;refine qy O a (fun _ a=>?_) (fun _ a=>?_)
 ·refine qh<|q0 O<|q0 O<|U _ O<|qf O<|qv<|q0 O<|q0 O<|q0 O<|q0 O<|q0 O<|q9 a fun z cl a=>q9 a fun dc cm a=>?_;have cn:=Ku cm;refine q16 [(0,0)] [(0,0)] [.hs 0 2 0 n.length,qb b.1,qb k.1,qb c.1,.d (.fn q1F q1C)] (.d (.tup [])) [(0,.dat 2 (z.map Q2))] [(0,.dat 2 (z.map Q2))] 1 (hrec k.2.2 b.1 k.1 c.1 z cl) O O O (Z6 [(0,0)] [] [] O ⟨⟨_,O,K0 (by simp [w]) O qq (ltd O)⟩,qk O,qk O,qk O,qk O,trivial⟩ ⟨Qq O O,trivial⟩) (Z6 [(0,0)] [] [] O ⟨qk O,trivial⟩ ⟨Qq O O,trivial⟩) O ⟨.inl O,trivial⟩<|qc<|Q7<|q0 O<|U _ O<|qf O<|Q5<|Qr<|Qg<|⟨_,qz a,wkE [] [] [] O ⟨⟨_,O,K0 (by simp [w,cn]) O qq (ltd O)⟩,qk O,qk O,qk O,qk O,qk O,qk O,trivial⟩ ⟨Qq O O,trivial⟩⟩
 refine qh<|q0 O<|q0 O<|U _ O<|qf O<|qv<|q0 O<|q0 O<|U _ O<|q0 O<|q0 O<|q0 O<|q9 a fun aa co a=>q9 a fun dd cp a=>?_;have cq:=Ku cp;refine q16 [(0,0)] [(0,0)] [.hs 0 2 0 n.length,.d (qj (w64 (k.1 + 1))),qb b.2.1,qb c.1,.d (.fn q1F q1C)] (.d (.tup [])) [(0,.dat 2 (aa.map Q2))] [(0,.dat 2 (aa.map Q2))] 1 (hrec k.2.2 (w64 (k.1 + 1)) b.2.1 c.1 aa co) O O O (Z6 [(0,0)] [] [] O ⟨⟨_,O,K0 (by simp [w]) O qq (ltd O)⟩,qk O,qk O,qk O,qk O,trivial⟩ ⟨Qq O O,trivial⟩) (Z6 [(0,0)] [] [] O ⟨qk O,trivial⟩ ⟨Qq O O,trivial⟩) O ⟨.inl O,trivial⟩<|qc<|Q7<|q0 O<|qf O<|Q5<|Qr<|Qg<|⟨_,qz a,wkE [] [] [] O ⟨⟨_,O,K0 (by simp [w,cq]) O qq (ltd O)⟩,qk O,qk O,qk O,qk O,qk O,qk O,trivial⟩ ⟨Qq O O,trivial⟩⟩
theorem q11t (n : Nat) (g : qg→qg→Option Int) (q1F : FuncId) (q1C : List DV) (q1Ok : ∀ (j : qg) (k : qg) (r : Int),g j k = some r→Pure Tryz.prog tab q1F ([.agg (Q2 j),.agg (Q2 k)] ++ q1C) (qj r)) : ∀ (a : List qg) (b : Int) (c : Int) (f : Int) (r : List qg),q6v n g a b c f = some r→K3 Tryz.prog tab 81 [.hs 0 2 0 a.length,qb b,qb c,qb f,.d (.fn q1F q1C)] [(0,.dat 2 (a.map Q2))] 1 (.d (.tup [])) [(0,.dat 2 (r.map Q2))] 1:=by
 induction n with
 | zero=>intro a b c f r h;cases h
 | succ n ih=>intro a b c f r h;exact q11s (q6v n g) g q1F q1C q1Ok ih a b c f r h
theorem q113 (c : qg→qg→Option Int) (q1F : FuncId) (q1C : List DV) (q1Ok : ∀ (g : qg) (h : qg) (r : Int),c g h = some r→Pure Tryz.prog tab q1F ([.agg (Q2 g),.agg (Q2 h)] ++ q1C) (qj r)) (b : List qg) (r : List qg) (a : q4o c b = some r) : K3 Tryz.prog tab 61 [.hs 0 2 0 b.length,.d (.fn q1F q1C)] [(0,.dat 2 (b.map Q2))] 1 (.d (.tup [])) [(0,.dat 2 (r.map Q2))] 1:=by
 unfold q4o at a;refine Kj Tryz.func61 O qm qm O<|qh<|q0 O<|U _ O<|qf O<|qc<|Q7<|q0 O<|q0 O<|q0 O<|U _ O<|q9 a fun j l a=>Q4 (qct (IntKind.wrap .u64 (b.length : Int)) j l) O<|q0 O<|q9 a fun k f a=>q9 a fun o m a=>?_;have p:=Ku m;obtain ⟨n,f⟩:=qcp f;refine K4 [(0,0)] [(0,0)] _ (.d (.tup [])) 1 [(0,.dat 2 (k.map Q2))] 1 (q11t n c q1F q1C q1Ok b 0 (b.length : Int) j k f)<|Q5 ?_;obtain rfl:=qx a;exact ⟨.inl O,_,O,wkA [] [] []⟩
theorem qo3 (s : List qt) (r : Qd × Bool) (f : q52 s = some r) : Pure Tryz.prog tab 43 [.sl 4 (s.map Kw)] (.tup [.agg [.sl 2 (r.1.Nodes.map qp),.sl 2 (r.1.Edges.map Q2)],.bool r.2]):=by
 unfold q52 at f;refine Kd Tryz.func43 O qm qm O<|qh<|Qz O O<|qf O<|qv<|q0 O<|q9 f fun g y f=>Q4 (qo0 s g y) O<|Qz O O<|Qp 1 (.dat 2 [[.mp (mrow (fun n : Int=>DV.int .i64 n) (fun l : List ql=>DV.sl 2 (l.map Qc)) g.rows_),.mp (mrow (fun n : Int=>DV.int .i64 n) (fun l : List ql=>DV.sl 2 (l.map Qc)) g.columns_)]]) O<|qv<|U (.d (.agg [.mp (mrow (fun n : Int=>DV.int .i64 n) (fun l : List ql=>DV.sl 2 (l.map Qc)) g.rows_),.mp (mrow (fun n : Int=>DV.int .i64 n) (fun l : List ql=>DV.sl 2 (l.map Qc)) g.columns_)])) O<|q9 f fun c z f=>Q4 (q12y g c z) O<|q0 O<|U (.d (.sl 2 (c.1.map qp))) O<|U (Q1 c.2) O<|qf O<|qf O<|qc<|qi<|qh<|q0 O<|U (Q1 (!c.2)) O<|qc ?_;refine qy O f (fun _ f=>?_) (fun _ f=>?_)
 ·refine qh<|U (.d (.agg [.nilsl,.nilsl])) O<|Qp 0 (.dat 2 [[.nilsl,.nilsl]]) O<|qf O<|Q8 ?_;obtain rfl:=qx f;exact finD (.inr O) (v:=.d (.tup [.agg [.nilsl,.nilsl],.bool false])) O O (Zy (.cons (U7 (.cons (.nil _) (.cons (.nil _) .nil))) (.cons (.refl _) .nil)))
 refine Q0<|qh<|q0 O<|U (.d (.agg [.sl 2 (c.1.map qp),.nilsl])) O<|Qz O O<|Qp 2 (.dat 2 [[.sl 2 (c.1.map qp),.nilsl]]) O<|qv<|Qn (.mp 3) (.mp true (Qu (fun n : Int=>DV.int .i64 n) (DV.int .i64) ([] : List (Int × Int)))) O<|Qn (.mp 4) (.mp true (Qu (fun n : Int=>DV.int .i64 n) (DV.int .i64) ([] : List (Int × Int)))) O<|qf O<|qf O<|qc<|qi<|qh<|q0 O<|Ky O<|q0 O<|qc<|q9 f fun w aa f=>?_;refine K6 (fun h=>h = w) (fun (h : List qg)=>⟨[(2,.ref 0 2 0 0),(7,.ref 1 2 0 0)],[(0,.dat 2 [[.nilsl,.nilsl]]),(1,.cel 2 [[.d (.sl 2 (c.1.map qp)),.hs 2 2 0 h.length]]),(2,.dat 2 (h.map Q2))],3⟩) qd ?_ ?_
 ·refine Qv (q40 c g) (fun (a : Int × (List (Int × Int)) × (List (Int × Int)) × List qg)=>⟨[(2,.ref 0 2 0 0),(4,.ref 1 2 0 0),(7,.ref 2 2 0 0),(8,.mp 3),(9,.mp 4),(27,.d (.sl 2 (c.1.map qp))),(28,qb (c.1.length : Int)),(29,qb a.1)],[(0,.dat 2 [[.nilsl,.nilsl]]),(1,.dat 2 [[.mp (mrow (fun n : Int=>DV.int .i64 n) (fun l : List ql=>DV.sl 2 (l.map Qc)) g.rows_),.mp (mrow (fun n : Int=>DV.int .i64 n) (fun l : List ql=>DV.sl 2 (l.map Qc)) g.columns_)]]),(2,.cel 2 [[.d (.sl 2 (c.1.map qp)),.hs 5 2 0 a.2.2.2.length]]),(3,.mp false (Qu (fun n : Int=>DV.int .i64 n) (DV.int .i64) a.2.1)),(4,.mp false (Qu (fun n : Int=>DV.int .i64 n) (DV.int .i64) a.2.2.1)),(5,.dat 2 (a.2.2.2.map Q2))],6⟩) (0,[],[],[]) w aa (wkA [(0,0),(1,1),(2,2),(3,3),(4,4)] [] [5]) ?_;intro a am j;unfold q40 at j;refine qh<|U (.d (.bool (decide (a.1 < (c.1.length : Int))))) O<|qc<|qi ?_;refine qy O j (fun _ j=>?_) (fun _ j=>?_)
  ·refine Q0<|qi<|Qf<|qh<|q0 O<|q9 j fun b ab j=>Y3 (enc:=qp) ab O<|U (.d (.agg [qj b.X,qj b.Y])) O<|Qz O O<|qf O<|Qp 6 (.dat 2 [[qj b.X,qj b.Y]]) O<|qv<|U (.d (.agg [.mp (mrow (fun n : Int=>DV.int .i64 n) (fun l : List ql=>DV.sl 2 (l.map Qc)) g.rows_),.mp (mrow (fun n : Int=>DV.int .i64 n) (fun l : List ql=>DV.sl 2 (l.map Qc)) g.columns_)])) O<|U (.d (.agg [qj b.X,qj b.Y])) O<|q9 j fun k ac j=>Q4 (qh6 g b k ac) O<|Qz O O<|Qp 7 (.dat 4 [[.bool k.1,.bool k.2.1,.bool k.2.2.1,.bool k.2.2.2]]) O<|qc<|qi<|qh<|U (.ref 7 4 0 2) O<|U (Q1 k.2.2.1) O<|qc<|q9 j fun ad m j=>?_;refine Y5 (fun o=>o = ad) (fun (o : List qg)=>⟨[(2,.ref 0 2 0 0),(4,.ref 1 2 0 0),(7,.ref 2 2 0 0),(8,.mp 3),(9,.mp 4),(10,qb a.1),(11,.ref 5 2 0 0),(12,.ref 6 4 0 0),(27,.d (.sl 2 (c.1.map qp))),(28,qb (c.1.length : Int)),(29,qb a.1)],[(0,.dat 2 [[.nilsl,.nilsl]]),(1,.dat 2 [[.mp (mrow (fun n : Int=>DV.int .i64 n) (fun l : List ql=>DV.sl 2 (l.map Qc)) g.rows_),.mp (mrow (fun n : Int=>DV.int .i64 n) (fun l : List ql=>DV.sl 2 (l.map Qc)) g.columns_)]]),(2,.cel 2 [[.d (.sl 2 (c.1.map qp)),.hs 7 2 0 o.length]]),(3,.mp false (Qu (fun n : Int=>DV.int .i64 n) (DV.int .i64) a.2.1)),(4,.mp false (Qu (fun n : Int=>DV.int .i64 n) (DV.int .i64) a.2.2.1)),(5,.dat 2 [[qj b.X,qj b.Y]]),(6,.dat 4 [[.bool k.1,.bool k.2.1,.bool k.2.2.1,.bool k.2.2.2]]),(7,.dat 2 (o.map Q2))],8⟩) qd ?_ ?_
   ·refine qy O m (fun _ m=>?_) (fun _ m=>?_)
    ·refine Q7<|U (.ref 2 2 0 1) O<|U (.hs 5 2 0 a.2.2.2.length) O<|q0 O<|U (.ref 6 2 0 1) O<|U (qb b.Y) O<|qg3 (ek:=(fun n : Int=>DV.int .i64 n)) (ev:=(DV.int .i64)) (es:=a.2.1) Jy 0 b.Y O O O O O O O<|q0 O<|U (.d (.agg [qj (K5 0 b.Y a.2.1),qj a.1])) O<|Qn (.hs 8 2 0 [({A:=K5 0 b.Y a.2.1,B:=a.1} : qg)].length) (.dat 2 ([({A:=K5 0 b.Y a.2.1,B:=a.1} : qg)].map Q2)) O<|q9 m fun ae af m=>q15 (xs:=a.2.2.2) (ys:=[({A:=K5 0 b.Y a.2.1,B:=a.1} : qg)]) (enc:=Q2) (.hs 8 2 0 [({A:=K5 0 b.Y a.2.1,B:=a.1} : qg)].length) af O O O O O O O (q2f O O) O O O O<|U (.ref 2 2 0 1) O<|Qp 2 (.cel 2 [[.d (.sl 2 (c.1.map qp)),.hs 9 2 0 ae.length]]) O<|Q5 ?_;obtain rfl:=qx m;exact ⟨_,O,wkA [(0,0),(1,1),(2,2),(3,3),(4,4),(5,6),(6,7),(7,9)] [] []⟩
    refine Q0<|Qg ?_;obtain rfl:=qx m;exact ⟨_,O,wkA [(0,0),(1,1),(2,2),(3,3),(4,4),(5,6),(6,7),(7,5)] [] []⟩
   intro o hb;subst hb;refine qi<|qh<|U (.ref 6 4 0 3) O<|U (Q1 k.2.2.2) O<|qc<|q9 j fun ag p j=>?_;refine Y5 (fun q=>q = ag) (fun (q : List qg)=>⟨[(2,.ref 0 2 0 0),(4,.ref 1 2 0 0),(7,.ref 2 2 0 0),(8,.mp 3),(9,.mp 4),(10,qb a.1),(11,.ref 5 2 0 0),(27,.d (.sl 2 (c.1.map qp))),(28,qb (c.1.length : Int)),(29,qb a.1)],[(0,.dat 2 [[.nilsl,.nilsl]]),(1,.dat 2 [[.mp (mrow (fun n : Int=>DV.int .i64 n) (fun l : List ql=>DV.sl 2 (l.map Qc)) g.rows_),.mp (mrow (fun n : Int=>DV.int .i64 n) (fun l : List ql=>DV.sl 2 (l.map Qc)) g.columns_)]]),(2,.cel 2 [[.d (.sl 2 (c.1.map qp)),.hs 6 2 0 q.length]]),(3,.mp false (Qu (fun n : Int=>DV.int .i64 n) (DV.int .i64) a.2.1)),(4,.mp false (Qu (fun n : Int=>DV.int .i64 n) (DV.int .i64) a.2.2.1)),(5,.dat 2 [[qj b.X,qj b.Y]]),(6,.dat 2 (q.map Q2))],7⟩) qd ?_ ?_
   ·refine qy O p (fun _ p=>?_) (fun _ p=>?_)
    ·refine Q7<|U (.ref 2 2 0 1) O<|U (.hs 7 2 0 o.length) O<|q0 O<|U (.ref 5 2 0 0) O<|U (qb b.X) O<|qg3 (ek:=(fun n : Int=>DV.int .i64 n)) (ev:=(DV.int .i64)) (es:=a.2.2.1) Jy 0 b.X O O O O O O O<|q0 O<|U (.d (.agg [qj (K5 0 b.X a.2.2.1),qj a.1])) O<|Qn (.hs 8 2 0 [({A:=K5 0 b.X a.2.2.1,B:=a.1} : qg)].length) (.dat 2 ([({A:=K5 0 b.X a.2.2.1,B:=a.1} : qg)].map Q2)) O<|q9 p fun ah ai p=>q15 (xs:=o) (ys:=[({A:=K5 0 b.X a.2.2.1,B:=a.1} : qg)]) (enc:=Q2) (.hs 8 2 0 [({A:=K5 0 b.X a.2.2.1,B:=a.1} : qg)].length) ai O O O O O O O (q2f O O) O O O O<|U (.ref 2 2 0 1) O<|Qp 2 (.cel 2 [[.d (.sl 2 (c.1.map qp)),.hs 9 2 0 ah.length]]) O<|Q5 ?_;obtain rfl:=qx p;exact ⟨_,O,wkA [(0,0),(1,1),(2,2),(3,3),(4,4),(5,5),(6,9)] [] []⟩
    refine Q0<|Qg ?_;obtain rfl:=qx p;exact ⟨_,O,wkA [(0,0),(1,1),(2,2),(3,3),(4,4),(5,5),(6,7)] [] []⟩
   intro q hb;subst hb;refine Qi [Ql 4,Ql 3,q7,q7,qs 5,q7,q7,qs 5,q7,q7] qm<|q0 O<|U (.ref 5 2 0 1) O<|U (qb b.Y) O<|q0 O<|U (.ref 5 2 0 0) O<|U (qb b.X) O<|q0 O<|q0 O<|q3r (ek:=(fun n : Int=>DV.int .i64 n)) (ev:=(DV.int .i64)) (es:=a.2.1) Jy b.Y a.1 O O O O O O O O<|q3r (ek:=(fun n : Int=>DV.int .i64 n)) (ev:=(DV.int .i64)) (es:=a.2.2.1) Jy b.X a.1 O O O O O O O O<|Q5<|Qr<|Q7<|U (.d (qj (w64 (a.1 + 1)))) O<|q0 O<|Q5<|⟨_,qz j,wkA [(0,0),(1,1),(2,2),(3,3),(4,4),(5,6)] [] []⟩
  refine Qo ?_;refine ⟨_,qz j,fun hm=>?_⟩;subst hm;exact ⟨_,O,wkA [(0,0),(1,2),(2,5)] [] []⟩
 intro h hb;subst hb;refine qh<|U (.ref 1 2 0 1) O<|U (.hs 2 2 0 h.length) O<|q9 f fun x aj f=>q9 f fun an ak f=>?_;have al:=Ku ak;refine K4 [(0,2)] [(0,1),(1,1),(2,0)] [.hs 2 2 0 h.length,.d (.fn 62 [])] (.d (.tup [])) 1 [(2,.dat 2 (x.map Q2)),(0,.dat 2 [[.nilsl,.nilsl]]),(1,.cel 2 [[.d (.sl 2 (c.1.map qp)),.hs 2 2 0 h.length]])] 3 (q113 (fun t u=>q38 t u) 62 [] (fun t u r hr=>q12v t u r hr) h x aj)<|qc<|qi<|Qi [q7,Ql 0,q7,q7,qs 1,q7,qs 1] qm<|U (.agg [.d (.sl 2 (c.1.map qp)),.hs 2 2 0 h.length]) O<|U (.ref 1 2 0 1) O<|U (.hs 2 2 0 h.length) O<|U (qb (h.length : Int)) O<|U (.d (.bool (decide ((h.length : Int)≤800)))) O<|Qp 0 (.cel 2 [[.d (.sl 2 (c.1.map qp)),.hs 2 2 0 h.length]]) O<|qf O<|Q8 ?_;obtain rfl:=qx f;exact finD (.inr O) (v:=.tup [.agg [.d (.sl 2 (c.1.map qp)),.hs 2 2 0 h.length],.d (.bool (decide ((h.length : Int)≤800)))]) O (qhb (Kr (Zw (Kr O (Kr (Ks (by simp [al]) O) O))) (Kr O O))) (.refl _)
theorem q10z (c : List qa) (f : List qa) (r : Bool) (b : q93 c f = some r) : Pure Tryz.prog tab 45 [.sl 2 (c.map qp),.sl 2 (f.map qp)] (.bool r):=by
 unfold q93 at b;refine Kd Tryz.func45 O qm qm O<|qh<|qf O<|qc<|qi<|qh<|q0 O<|Ky O<|q0 O<|Ky O<|U _ O<|qc ?_;refine qy O b (fun _ b=>?_) (fun _ b=>?_)
 ·refine qh<|qf O<|Q8 ?_;cases b;exact Qw _ O
 refine Q0<|qi<|qh<|q0 O<|Ky O<|q0 O<|qc<|q9 b fun h k b=>?_;refine K6 (fun g=>.inl g = h) (fun g=>⟨[],[],0⟩) qd ?_ ?_
 ·refine Qv (q6j c f) (fun j=>⟨[(0,.d (.sl 2 (c.map qp))),(1,.d (.sl 2 (f.map qp))),(12,qb (c.length : Int)),(13,qb j)],[],0⟩) _ h k (wkA [] [] []) ?_;intro j n a;unfold q6j at a;refine qh<|U _ O<|qc<|qi ?_;refine qy O a (fun _ a=>?_) (fun _ a=>?_)
  ·refine Q0<|qi<|Qf<|qh<|q0 O<|qf O<|qc<|qi<|Qi [q7,q7,q7,q7,q7,q7,q7,q7,q7] qm<|q0 O<|q0 O<|q9 a fun o l a=>Y3 l O<|U _ O<|q0 O<|q0 O<|q9 a fun p m a=>Y3 m O<|U _ O<|U _ O<|qc ?_;refine qy O a (fun _ a=>?_) (fun _ a=>?_)
   ·refine qh<|qf O<|Q8 ?_;refine ⟨_,qz a,fun hm=>?_⟩;subst hm;cases b;exact Qw _ O
   refine Q0<|Qg<|Qr<|Q7<|U _ O<|q0 O<|Q5<|⟨_,qz a,wkA [] [] []⟩
  refine Qo ?_;refine ⟨_,qz a,fun hm=>?_⟩;subst hm;exact ⟨_,O,wkA [] [] []⟩
 intro g hb;subst hb;refine qh<|qf O<|Q8 ?_;cases b;exact Qw _ O
theorem q10y (c : List qg) (f : List qg) (r : Bool) (b : q92 c f = some r) : Pure Tryz.prog tab 46 [.sl 2 (c.map Q2),.sl 2 (f.map Q2)] (.bool r):=by
 unfold q92 at b;refine Kd Tryz.func46 O qm qm O<|qh<|qf O<|qc<|qi<|qh<|q0 O<|Ky O<|q0 O<|Ky O<|U _ O<|qc ?_;refine qy O b (fun _ b=>?_) (fun _ b=>?_)
 ·refine qh<|qf O<|Q8 ?_;cases b;exact Qw _ O
 refine Q0<|qi<|qh<|q0 O<|Ky O<|q0 O<|qc<|q9 b fun h k b=>?_;refine K6 (fun g=>.inl g = h) (fun g=>⟨[],[],0⟩) qd ?_ ?_
 ·refine Qv (q6i c f) (fun j=>⟨[(0,.d (.sl 2 (c.map Q2))),(1,.d (.sl 2 (f.map Q2))),(12,qb (c.length : Int)),(13,qb j)],[],0⟩) _ h k (wkA [] [] []) ?_;intro j n a;unfold q6i at a;refine qh<|U _ O<|qc<|qi ?_;refine qy O a (fun _ a=>?_) (fun _ a=>?_)
  ·refine Q0<|qi<|Qf<|qh<|q0 O<|qf O<|qc<|qi<|Qi [q7,q7,q7,q7,q7,q7,q7,q7,q7] qm<|q0 O<|q0 O<|q9 a fun o l a=>Y3 l O<|U _ O<|q0 O<|q0 O<|q9 a fun p m a=>Y3 m O<|U _ O<|U _ O<|qc ?_;refine qy O a (fun _ a=>?_) (fun _ a=>?_)
   ·refine qh<|qf O<|Q8 ?_;refine ⟨_,qz a,fun hm=>?_⟩;subst hm;cases b;exact Qw _ O
   refine Q0<|Qg<|Qr<|Q7<|U _ O<|q0 O<|Q5<|⟨_,qz a,wkA [] [] []⟩
  refine Qo ?_;refine ⟨_,qz a,fun hm=>?_⟩;subst hm;exact ⟨_,O,wkA [] [] []⟩
 intro g hb;subst hb;refine qh<|qf O<|Q8 ?_;cases b;exact Qw _ O
theorem q12u (c : Qd) (d : Qd) (r : Bool) (b : qbj c d = some r) : Pure Tryz.prog tab 21 [.agg [.sl 2 (c.Nodes.map qp),.sl 2 (c.Edges.map Q2)],.agg [.sl 2 (d.Nodes.map qp),.sl 2 (d.Edges.map Q2)]] (.bool r):=by
 unfold qbj at b;refine Kd Tryz.func21 O qm qm O<|qh<|Qn _ _ O<|Qn _ _ O<|qf O<|qv<|U _ O<|U _ O<|U _ O<|U _ O<|q9 b fun m n b=>Q4 (q10z c.Nodes d.Nodes m n) O<|q9 b fun o a b=>?_;refine Qk 7 (fun A st=>∃ f g h j k l,st = A [(16,Q1 o),(15,l),(14,k),(13,j),(12,h),(11,g),(10,f)]) ?_ ?_
 ·refine Qj O O a (fun a=>?_) (fun a=>?_)
  ·refine U _ O<|U _ O<|U _ O<|U _ O<|q9 a fun p q a=>Q4 (q10y c.Edges d.Edges p q) O<|U _ O<|qc ?_;cases a;exact ⟨_,_,_,_,_,_,O⟩
  refine qe O<|qe O<|qe O<|qe O<|qe O<|U _ O<|qc ?_;cases a;exact ⟨_,_,_,_,_,_,O⟩
 rintro _ ⟨f,g,h,j,k,l,rfl⟩;refine qf O<|Q8 ?_;cases b;exact Qw _ O
theorem q3w (c : Qd) (r : Int) (a : Yg c = some r) : Pure Tryz.prog tab 19 [.agg [.sl 2 (c.Nodes.map qp),.sl 2 (c.Edges.map Q2)]] (qj r):=by
 unfold Yg at a;refine Kd Tryz.func19 O qm qm O<|qh<|Qn _ _ O<|qf O<|qc<|qi<|qh<|U _ O<|U _ O<|Ky O<|U _ O<|q9 a fun t d a=>?_;refine Qk 6 (fun A st=>∃ f g h j k,st = A [(16,Q1 t),(15,k),(14,j),(13,h),(12,g),(11,f)]) ?_ ?_
 ·refine Qj O O d (fun d=>?_) (fun d=>?_)
  ·refine qe O<|qe O<|qe O<|qe O<|U _ O<|qc ?_;cases d;exact ⟨_,_,_,_,_,O⟩
  refine U _ O<|U _ O<|Ky O<|U _ O<|U _ O<|qc ?_;cases d;exact ⟨_,_,_,_,_,O⟩
 rintro _ ⟨f,g,h,j,k,rfl⟩;refine qc ?_;refine qy O a (fun _ a=>?_) (fun _ a=>?_)
 ·refine qh<|qf O<|Q8 ?_;cases a;exact Qw _ O
 refine Q0<|qh<|U _ O<|q9 a fun l u a=>Q4 (qo2 c l u) O<|q0 O<|U _ O<|U _ O<|qf O<|qf O<|qc<|qi<|qh<|q0 O<|U _ O<|qc ?_;refine qy O a (fun _ a=>?_) (fun _ a=>?_)
 ·refine qh<|qf O<|Q8 ?_;cases a;exact Qw _ O
 refine Q0<|qi<|qh<|q0 O<|q9 a fun m v a=>Q4 (qo3 l.1 m v) O<|q0 O<|U _ O<|U _ O<|Qz O O<|Qp 1 _ O<|qf O<|qv<|q0 O<|U _ O<|q9 a fun w b a=>?_;refine Qk 6 (fun A st=>∃ n o p q s,st = A [(36,Q1 w),(35,s),(34,q),(33,p),(32,o),(31,n)]) ?_ ?_
 ·refine Qj O O b (fun b=>?_) (fun b=>?_)
  ·refine qe O<|qe O<|qe O<|qe O<|U _ O<|qc ?_;cases b;exact ⟨_,_,_,_,_,O⟩
  refine U _ O<|U _ O<|q9 b fun x y b=>Q4 (q12u m.1 c x y) O<|U _ O<|U _ O<|qc ?_;cases b;exact ⟨_,_,_,_,_,O⟩
 rintro _ ⟨n,o,p,q,s,rfl⟩;refine qc ?_;refine qy O a (fun _ a=>?_) (fun _ a=>?_)
 ·refine qh<|qf O<|Q8 ?_;cases a;exact Qw _ O
 refine Q0<|qh<|qf O<|Q8 ?_;cases a;exact Qw _ O
theorem qh4 (b : Qd) (r : List qt × Int) (a : q3z b = some r) : Pure Tryz.prog tab 11 [.agg [.sl 2 (b.Nodes.map qp),.sl 2 (b.Edges.map Q2)]] (.tup [.sl 4 (r.1.map Kw),qj r.2]):=by
 unfold q3z at a;refine Kd Tryz.func11 O qm qm O<|qh<|Qn _ _ O<|qf O<|qf O<|qc<|qi<|qh<|U _ O<|q9 a fun c d a=>Q4 (q3w b c d) O<|qf O<|qv<|q0 O<|U _ O<|qc ?_;refine qy O a (fun _ a=>?_) (fun _ a=>?_)
 ·refine qh<|q0 O<|qf O<|qf O<|Q8 ?_;obtain rfl:=qx a;exact finD (.inr O) O O (Zy (.cons (.nil _) (.cons (.refl _) .nil)))
 refine Q0<|qh<|U _ O<|q9 a fun f g a=>Q4 (qo2 b f g) O<|q0 O<|U _ O<|U _ O<|qf O<|qf O<|qv<|q0 O<|qf O<|qf O<|Q8 ?_;cases a;exact Qw _ O
theorem qmp (d : Qd) (f : Qd) (r : Bool) (a : q4m d f = some r) : Pure Tryz.prog tab 22 [.agg [.sl 2 (d.Nodes.map qp),.sl 2 (d.Edges.map Q2)],.agg [.sl 2 (f.Nodes.map qp),.sl 2 (f.Edges.map Q2)]] (.bool r):=by
 unfold q4m at a;refine Kd Tryz.func22 O qm qm O<|qh<|Qn _ _ O<|Qn _ _ O<|qf O<|qc<|qi<|qh<|U _ O<|U _ O<|Ky O<|U _ O<|U _ O<|Ky O<|U _ O<|q9 a fun x g a=>?_;refine Qk 9 (fun A st=>∃ k l m n o p q s,st = A [(22,Q1 x),(21,s),(20,q),(19,p),(18,o),(17,n),(16,m),(15,l),(14,k)]) ?_ ?_
 ·refine Qj O O g (fun g=>?_) (fun g=>?_)
  ·refine qe O<|qe O<|qe O<|qe O<|qe O<|qe O<|qe O<|U _ O<|qc ?_;cases g;exact ⟨_,_,_,_,_,_,_,_,O⟩
  refine U _ O<|U _ O<|Ky O<|U _ O<|U _ O<|Ky O<|U _ O<|U _ O<|qc ?_;cases g;exact ⟨_,_,_,_,_,_,_,_,O⟩
 rintro _ ⟨k,l,m,n,o,p,q,s,rfl⟩;refine qc ?_;refine qy O a (fun _ a=>?_) (fun _ a=>?_)
 ·refine qh<|qf O<|Q8 ?_;cases a;exact Qw _ O
 refine Q0<|qi<|qh<|qf O<|qc<|q9 a fun t y a=>?_;refine K6 (fun h=>.inl h = t) (fun h=>⟨[(2,.ref 0 2 0 0),(3,.ref 1 2 0 0)],[(0,.dat 2 [[.sl 2 (d.Nodes.map qp),.sl 2 (d.Edges.map Q2)]]),(1,.dat 2 [[.sl 2 (f.Nodes.map qp),.sl 2 (f.Edges.map Q2)]])],2⟩) qd ?_ ?_
 ·refine Qv (q67 d f) (fun u=>⟨[(2,.ref 0 2 0 0),(3,.ref 1 2 0 0),(5,qb u)],[(0,.dat 2 [[.sl 2 (d.Nodes.map qp),.sl 2 (d.Edges.map Q2)]]),(1,.dat 2 [[.sl 2 (f.Nodes.map qp),.sl 2 (f.Edges.map Q2)]])],2⟩) _ t y (wkA [(0,0),(1,1)] [] []) ?_;intro u ae b;unfold q67 at b;refine qi<|qh<|q0 O<|U _ O<|U _ O<|Ky O<|U _ O<|qc ?_;refine qy O b (fun _ b=>?_) (fun _ b=>?_)
  ·refine Q0<|qi<|Qf<|qi<|Qi [q7,q7,q7,q7,qs 1,q7,q7,q7,q7,qs 0,q7] qm<|U _ O<|U _ O<|q0 O<|q9 b fun af z b=>Y3 z O<|U _ O<|U _ O<|U _ O<|q0 O<|q9 b fun ag aa b=>Y3 aa O<|U _ O<|U _ O<|qc ?_;refine qy O b (fun _ b=>?_) (fun _ b=>?_)
   ·refine qh<|qf O<|Q8 ?_;refine ⟨_,qz b,fun hm=>?_⟩;subst hm;cases a;exact Qw _ O
   refine Q0<|Qg<|Qr<|Q7<|q0 O<|U _ O<|qf O<|Q5<|⟨_,qz b,wkA [(0,0),(1,1)] [] []⟩
  refine Qo ?_;refine ⟨_,qz b,fun hm=>?_⟩;subst hm;exact ⟨_,O,wkA [(0,0),(1,1)] [] []⟩
 intro h hb;subst hb;refine qi<|qh<|qf O<|qc<|q9 a fun v ab a=>?_;refine K6 (fun j=>.inl j = v) (fun j=>⟨[],[],0⟩) qd ?_ ?_
 ·refine Qv (q68 d f) (fun w=>⟨[(2,.ref 0 2 0 0),(3,.ref 1 2 0 0),(6,qb w)],[(0,.dat 2 [[.sl 2 (d.Nodes.map qp),.sl 2 (d.Edges.map Q2)]]),(1,.dat 2 [[.sl 2 (f.Nodes.map qp),.sl 2 (f.Edges.map Q2)]])],2⟩) _ v ab (wkA [(0,0),(1,1)] [] []) ?_;intro w ah c;unfold q68 at c;refine qi<|qh<|q0 O<|U _ O<|U _ O<|Ky O<|U _ O<|qc ?_;refine qy O c (fun _ c=>?_) (fun _ c=>?_)
  ·refine Q0<|qi<|Qf<|qi<|Qi [q7,q7,q7,q7,qs 1,q7,q7,q7,q7,qs 0,q7] qm<|U _ O<|U _ O<|q0 O<|q9 c fun ai ac c=>Y3 ac O<|U _ O<|U _ O<|U _ O<|q0 O<|q9 c fun aj ad c=>Y3 ad O<|U _ O<|U _ O<|qc ?_;refine qy O c (fun _ c=>?_) (fun _ c=>?_)
   ·refine qh<|qf O<|Q8 ?_;refine ⟨_,qz c,fun hm=>?_⟩;subst hm;cases a;exact Qw _ O
   refine Q0<|Qg<|Qr<|Q7<|q0 O<|U _ O<|qf O<|Q5<|⟨_,qz c,wkA [(0,0),(1,1)] [] []⟩
  refine Qo ?_;refine ⟨_,qz c,fun hm=>?_⟩;subst hm;exact ⟨_,O,wkA [] [] []⟩
 intro j hb;subst hb;refine qh<|qf O<|Q8 ?_;cases a;exact Qw _ O
theorem q110 (b : List qt) (f : qt→Option Bool) (p1F : FuncId) (p1C : List DV) (p1Ok : ∀ (h : qt) (r : Bool),f h = some r→Pure Tryz.prog tab p1F ([.agg (Kw h)] ++ p1C) (.bool r)) (r : Int) (c : qdf b f = some r) : Pure Tryz.prog tab 57 [.sl 4 (b.map Kw),.fn p1F p1C] (qj r):=by
 unfold qdf at c;refine Kd Tryz.func57 O qm qm O<|qh<|qf O<|qc<|qi<|qh<|q0 O<|Ky O<|q0 O<|qc<|q9 c fun j l c=>?_;refine K6 (fun g=>.inl g = j) (fun g=>⟨[],[],0⟩) qd ?_ ?_
 ·refine Qv (q3t b f) (fun k=>⟨[(0,.d (.sl 4 (b.map Kw))),(1,.d (.fn p1F p1C)),(7,qb (b.length : Int)),(8,qb k)],[],0⟩) _ j l (wkA [] [] []) ?_;intro k q a;unfold q3t at a;refine qh<|U _ O<|qc<|qi ?_;refine qy O a (fun _ a=>?_) (fun _ a=>?_)
  ·refine Q0<|qi<|Qf<|qh<|q0 O<|qf O<|qv<|q0 O<|q0 O<|q0 O<|q9 a fun m n a=>Y3 n O<|U _ O<|q9 a fun o p a=>Kk _ (p1Ok m o p) O O O (.inl O)<|qc ?_;refine qy O a (fun _ a=>?_) (fun _ a=>?_)
   ·refine qh<|q0 O<|qf O<|Q8 ?_;refine ⟨_,qz a,fun hm=>?_⟩;subst hm;cases c;exact Qw _ O
   refine Q0<|Qg<|Qr<|Q7<|U _ O<|q0 O<|Q5<|⟨_,qz a,wkA [] [] []⟩
  refine Qo ?_;refine ⟨_,qz a,fun hm=>?_⟩;subst hm;exact ⟨_,O,wkA [] [] []⟩
 intro g hb;subst hb;refine qh<|qf O<|Q8 ?_;cases c;exact Qw _ O
theorem q10x (b : List qt) (c : qt→Option Bool) (p1F : FuncId) (p1C : List DV) (p1Ok : ∀ (d : qt) (r : Bool),c d = some r→Pure Tryz.prog tab p1F ([.agg (Kw d)] ++ p1C) (.bool r)) (r : Bool) (a : q6g b c = some r) : Pure Tryz.prog tab 38 [.sl 4 (b.map Kw),.fn p1F p1C] (.bool r):=by
 unfold q6g at a;refine Kd Tryz.func38 O qm qm O<|qh<|qf O<|qv<|q0 O<|q0 O<|q9 a fun f g a=>Q4 (q110 b c p1F p1C p1Ok f g) O<|U _ O<|qf O<|Q8 ?_;cases a;exact Qw _ O
theorem q12w (a : qt) (g : qa) (r : Bool) (b : q7d a g = some r) : Pure Tryz.prog tab 40 [.agg (Kw a),.agg (qp g)] (.bool r):=by
 unfold q7d at b;refine Kd Tryz.func40 O qm qm O<|qh<|Qn _ _ O<|Qn _ _ O<|qf O<|qv<|U _ O<|U _ O<|U _ O<|U _ O<|U _ O<|U _ O<|q18 (r:=min a.A.X a.B.X) O O (by simp only [q13];rfl)<|U _ O<|U _ O<|U _ O<|q9 b fun c1 c b=>?_;refine Qk 12 (fun A st=>∃ h j k l m n o p q s t,st = A [(26,Q1 c1),(25,t),(24,s),(23,q),(22,p),(21,o),(20,n),(19,m),(18,l),(17,k),(16,j),(15,h)]) ?_ ?_
 ·refine Qj O O c (fun c=>?_) (fun c=>?_)
  ·refine U _ O<|U _ O<|U _ O<|U _ O<|U _ O<|U _ O<|U _ O<|U _ O<|J7 (r:=max a.A.X a.B.X) O O (by simp only [J6];rfl)<|U _ O<|U _ O<|qc ?_;cases c;exact ⟨_,_,_,_,_,_,_,_,_,_,_,O⟩
  refine qe O<|qe O<|qe O<|qe O<|qe O<|qe O<|qe O<|qe O<|qe O<|qe O<|U _ O<|qc ?_;cases c;exact ⟨_,_,_,_,_,_,_,_,_,_,_,O⟩
 rintro _ ⟨h,j,k,l,m,n,o,p,q,s,t,rfl⟩;refine q9 b fun ar d b=>?_;refine Qk 12 (fun A st=>∃ u v w x y z aa ab ac ad ae,st = A [(38,Q1 ar),(37,ae),(36,ad),(35,ac),(34,ab),(33,aa),(32,z),(31,y),(30,x),(29,w),(28,v),(27,u)]) ?_ ?_
 ·refine Qj O O d (fun d=>?_) (fun d=>?_)
  ·refine U _ O<|U _ O<|U _ O<|U _ O<|U _ O<|U _ O<|q18 (r:=min a.A.Y a.B.Y) O O (by simp only [q13];rfl)<|U _ O<|U _ O<|U _ O<|U _ O<|qc ?_;cases d;exact ⟨_,_,_,_,_,_,_,_,_,_,_,O⟩
  refine qe O<|qe O<|qe O<|qe O<|qe O<|qe O<|qe O<|qe O<|qe O<|qe O<|U _ O<|qc ?_;cases d;exact ⟨_,_,_,_,_,_,_,_,_,_,_,O⟩
 rintro _ ⟨u,v,w,x,y,z,aa,ab,ac,ad,ae,rfl⟩;refine q9 b fun au f b=>?_;refine Qk 12 (fun A st=>∃ af ag ah ai aj ak al am an ao ap,st = A [(50,Q1 au),(49,ap),(48,ao),(47,an),(46,am),(45,al),(44,ak),(43,aj),(42,ai),(41,ah),(40,ag),(39,af)]) ?_ ?_
 ·refine Qj O O f (fun f=>?_) (fun f=>?_)
  ·refine U _ O<|U _ O<|U _ O<|U _ O<|U _ O<|U _ O<|U _ O<|U _ O<|J7 (r:=max a.A.Y a.B.Y) O O (by simp only [J6];rfl)<|U _ O<|U _ O<|qc ?_;cases f;exact ⟨_,_,_,_,_,_,_,_,_,_,_,O⟩
  refine qe O<|qe O<|qe O<|qe O<|qe O<|qe O<|qe O<|qe O<|qe O<|qe O<|U _ O<|qc ?_;cases f;exact ⟨_,_,_,_,_,_,_,_,_,_,_,O⟩
 rintro _ ⟨af,ag,ah,ai,aj,ak,al,am,an,ao,ap,rfl⟩;refine qf O<|Q8 ?_;cases b;exact Qw _ O
theorem q12s (b : qt) (c : qa) (r : Bool) (a : qbi b c = some r) : Pure Tryz.prog tab 39 [.agg (Kw b),.box (qp c)] (.bool r):=by
 unfold qbi at a;refine Kd Tryz.func39 O qm qm O<|qh<|Qn _ _ O<|qf O<|qv<|U _ O<|U _ O<|q9 a fun d f a=>Q4 (q12w b c d f) O<|qf O<|Q8 ?_;cases a;exact Qw _ O
theorem qh3 (c : Qd) (b : qa) (r : Bool × Int) (a : q1d c b = some r) : Pure Tryz.prog tab 13 [.agg [.sl 2 (c.Nodes.map qp),.sl 2 (c.Edges.map Q2)],.agg (qp b)] (.tup [.bool r.1,qj r.2]):=by
 unfold q1d at a;refine Kd Tryz.func13 O qm qm O<|qh<|Qn _ _ O<|Qn _ _ O<|qf O<|qf O<|qv<|U _ O<|q9 a fun f h a=>Q4 (qh4 c f h) O<|q0 O<|U _ O<|U _ O<|qf O<|qf O<|qc<|qi<|qh<|q0 O<|U _ O<|qc ?_;refine qy O a (fun _ a=>?_) (fun _ a=>?_)
 ·refine qh<|q0 O<|qf O<|qf O<|Q8 ?_;cases a;exact Qw _ O
 refine Q0<|qh<|q0 O<|U _ O<|q9 a fun j k a=>Yu [.d (.sl 4 (f.1.map Kw)),.fn 39 [.ref 1 2 0 0]] (q10x f.1 (fun g=>qbi g b) 39 [.box (qp b)] (fun g r hr=>q12s g b r hr) j k) O O (Kp O (Kp (qo9 (Kr O O)) O)) (.inr O)<|qf O<|qf O<|Q8 ?_;cases a;exact Qw _ O
theorem qh2 (h : Qd) (m : Int) (r : Int × Int) (a : Um h m = some r) : Pure Tryz.prog tab 15 [.agg [.sl 2 (h.Nodes.map qp),.sl 2 (h.Edges.map Q2)],qj m] (.tup [qj r.1,qj r.2]):=by
 unfold Um at a;refine Kd Tryz.func15 O qm qm O<|qh<|Qn _ _ O<|qf O<|qf O<|qv<|U _ O<|q9 a fun n x a=>Q4 (qh4 h n x) O<|q0 O<|U _ O<|U _ O<|qf O<|qf O<|qc<|qi<|qh<|q0 O<|U _ O<|qc ?_;refine qy O a (fun _ a=>?_) (fun _ a=>?_)
 ·refine qh<|q0 O<|qf O<|qf O<|Q8 ?_;cases a;exact Qw _ O
 refine Q0<|qi<|qh<|q0 O<|U _ O<|q9 a fun y g a=>?_;refine Qk 7 (fun A st=>∃ o p q s t u,st = A [(27,Q1 y),(26,u),(25,t),(24,s),(23,q),(22,p),(21,o)]) ?_ ?_
 ·refine Qj O O g (fun g=>?_) (fun g=>?_)
  ·refine qe O<|qe O<|qe O<|qe O<|qe O<|U _ O<|qc ?_;cases g;exact ⟨_,_,_,_,_,_,O⟩
  refine q0 O<|U _ O<|U _ O<|Ky O<|U _ O<|U _ O<|qc ?_;cases g;exact ⟨_,_,_,_,_,_,O⟩
 rintro _ ⟨o,p,q,s,t,u,rfl⟩;refine qc ?_;refine qy O a (fun _ a=>?_) (fun _ a=>?_)
 ·refine qh<|qf O<|qf O<|Q8 ?_;cases a;exact Qw _ O
 refine Q0<|qh<|qf O<|qc<|qi<|qi<|Qi [q7,q7,q7,q7,q7,qs 0,q7,q7,q7] qm<|q0 O<|q9 a fun v z a=>Q4 (qo0 n.1 v z) O<|U _ O<|U _ O<|q0 O<|q9 a fun aa ab a=>Y3 ab O<|U _ O<|q9 a fun b ac a=>Q4 (qh6 v aa b ac) O<|q0 O<|qc<|q9 a fun w ad a=>?_;refine K6 (fun j=>j = w) (fun j=>⟨[(8,qb j)],[],0⟩) qd ?_ ?_
 ·refine Qv (q3x b) (fun k=>⟨[(8,qb k.1),(35,.d (.agg [.bool b.1,.bool b.2.1,.bool b.2.2.1,.bool b.2.2.2])),(36,qb k.2)],[],0⟩) _ w ad (wkA [] [] []) ?_;intro k ah c;unfold q3x at c;refine qh<|U _ O<|qc<|qi ?_;refine qy O c (fun _ c=>?_) (fun _ c=>?_)
  ·refine Q0<|qi<|q9 c fun ae f c=>?_;refine K6 (fun l=>l = ae) (fun l=>⟨[(8,qb l),(35,.d (.agg [.bool b.1,.bool b.2.1,.bool b.2.2.1,.bool b.2.2.2])),(36,qb k.2)],[],0⟩) qd ?_ ?_
   ·refine qh<|q9 f fun af ag f=>qvn (enc:=eB) [b.1,b.2.1,b.2.2.1,b.2.2.2] (Q1 af) ag (fun _=>rfl) O O O O O O<|qf O<|qv<|q0 O<|qc ?_;refine qy O f (fun _ f=>?_) (fun _ f=>?_)
    ·refine Q7<|q0 O<|U _ O<|qf O<|Q5 ?_;obtain rfl:=qx f;exact ⟨_,O,wkA [] [] []⟩
    refine Q0<|Qg ?_;obtain rfl:=qx f;exact ⟨_,O,wkA [] [] []⟩
   intro l hb;subst hb;refine Q7<|U _ O<|q0 O<|Q5<|⟨_,qz c,wkA [] [] []⟩
  refine Qo ?_;refine ⟨_,qz c,fun hm=>?_⟩;subst hm;exact ⟨_,O,wkA [] [] []⟩
 intro j hb;subst hb;refine qh<|q0 O<|qf O<|qf O<|Q8 ?_;cases a;exact Qw _ O
end Go.Proofs.YtgkialgkmjnfbaaGreat
