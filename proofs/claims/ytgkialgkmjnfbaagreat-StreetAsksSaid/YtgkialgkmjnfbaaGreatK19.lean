/- W_Allc -/
import Derived.Test.YtgkialgkmjnfbaaGreatK18
namespace Go.Proofs.YtgkialgkmjnfbaaGreat
open Go Go.Am Go.Sh
set_option maxHeartbeats 8000000
set_option maxRecDepth 100000
theorem qzm (rec : List qm→Int→Int→Int→Option (List qm)) (g : qm→qm→Option Int) (q1F : FuncId) (q1C : List DV) (q1Ok : ∀ (x0 : qm) (x1 : qm) (r : Int),g x0 x1 = some r→Pure Tryz.prog tab q1F ([.agg (qy x0),.agg (qy x1)] ++ q1C) (qj r)) (hrec : ∀ (o : List qm) (q : Int) (s : Int) (t : Int) (r : List qm),rec o q s t = some r→K2 Tryz.prog tab 81 [.hs 0 2 0 o.length,qb q,qb s,qb t,.d (.fn q1F q1C)] [(0,.dat 2 (o.map qy))] 1 (.d (.tup [])) [(0,.dat 2 (r.map qy))] 1) (o : List qm) (q : Int) (s : Int) (t : Int) (r : List qm) (p : q6m rec g o q s t = some r) : K2 Tryz.prog tab 81 [.hs 0 2 0 o.length,qb q,qb s,qb t,.d (.fn q1F q1C)] [(0,.dat 2 (o.map qy))] 1 (.d (.tup [])) [(0,.dat 2 (r.map qy))] 1:=by
 unfold q6m at p;refine Ki Tryz.func81 O ql ql O<|qg<|qd O<|qx<|qd O<|qc<|q9 p fun be bf p=>Qg<|Qm (q6l g rec) (fun b=>⟨[(0,.hs 0 2 0 b.2.2.2.2.2.length),(1,qb b.1),(2,qb b.2.1),(3,qb b.2.2.1),(4,.d (.fn q1F q1C)),(10,qw b.2.2.2.1),(11,qw b.2.2.2.2.1)],[(0,.dat 2 (b.2.2.2.2.2.map qy))],1⟩) _ be bf (wkA [] [] []) ?_;intro b cr a;unfold q6l at a;refine Qg<|qg<|q0 O<|q0 O<|U _ O<|qd O<|qc<|qh<|qg<|q0 O<|U _ O<|qc ?_;refine qt O a (fun _ a=>?_) (fun _ a=>?_)
 ·refine qg<|q0 O<|q0 O<|q0 O<|q0 O<|q9 a fun ad bg a=>q9 a fun cs bh a=>?_;have ct:=Kq bh;refine K3 [(0,0)] [(0,0)] _ (.d (.tup [])) 1 [(0,.dat 2 (ad.map qy))] 1 (qza g q1F q1C q1Ok b.2.2.2.2.2 b.1 b.2.1 ad bg)<|Qa ?_;refine ⟨_,qs a,fun hm=>?_⟩;subst hm;obtain rfl:=qv p;exact ⟨.inr O,_,O,wkA [] [] []⟩
 refine qu<|qh<|qg<|q0 O<|U _ O<|qc ?_;refine qt O a (fun _ a=>?_) (fun _ a=>?_)
 ·refine qg<|q0 O<|q0 O<|q0 O<|q0 O<|q9 a fun ae bi a=>q9 a fun cu bj a=>?_;have cv:=Kq bj;refine K3 [(0,0)] [(0,0)] _ (.d (.tup [])) 1 [(0,.dat 2 (ae.map qy))] 1 (qz7 g q1F q1C q1Ok b.2.2.2.2.2 b.1 b.2.1 ae bi)<|Qa ?_;refine ⟨_,qs a,fun hm=>?_⟩;subst hm;obtain rfl:=qv p;exact ⟨.inr O,_,O,wkA [] [] []⟩
 refine qu<|qh<|qg<|q0 O<|U _ O<|qc<|q9 a fun bk l a=>?_;refine Y3 (fun c=>c = bk) (fun c=>⟨[(0,.hs 0 2 0 c.2.length),(1,qb b.1),(2,qb b.2.1),(3,qb c.1),(4,.d (.fn q1F q1C)),(10,qw b.2.2.2.1),(11,qw b.2.2.2.2.1),(12,.d (qj (w64 (b.2.1 - b.1))))],[(0,.dat 2 (c.2.map qy))],1⟩) qe ?_ ?_
 ·refine qt O l (fun _ l=>?_) (fun _ l=>?_)
  ·refine qg<|q0 O<|q0 O<|q0 O<|q0 O<|q9 l fun af bl l=>q9 l fun cw bm l=>?_;have bn:=Kq bm;refine K3 [(0,0)] [(0,0)] _ (.d (.tup [])) 1 [(0,.dat 2 (af.map qy))] 1 (qz1 g q1F q1C q1Ok b.2.2.2.2.2 b.1 b.2.1 af bl)<|qc<|Q5<|q0 O<|U _ O<|qd O<|Q3 ?_;obtain rfl:=qv l;exact ⟨_,O,wkE [] [] [] O ⟨⟨_,O,K0 (by simp [bn]) O Q7 (ltd O)⟩,qk O,qk O,qk O,qk O,qk O,qk O,qk O,trivial⟩ ⟨Qo O O,trivial⟩⟩
  refine qu<|Qc ?_;obtain rfl:=qv l;exact ⟨_,O,wkA [] [] []⟩
 intro c hb;subst hb;refine qg<|q0 O<|q0 O<|q0 O<|q0 O<|q9 a fun bo bp a=>q5m [.hs 0 2 0 c.2.length,qb b.1,qb b.2.1,.d (.fn q1F q1C)] (qz4 c.2 b.1 b.2.1 g q1F q1C q1Ok bo bp) O O (Zk (Jy O O) (Zk O (Zk O (Zk O O)))) (.inr O)<|q0 O<|U _ O<|U _ O<|qd O<|qd O<|qc<|qh<|qg<|q0 O<|U _ O<|qc<|q9 a fun bq m a=>?_;refine Y3 (fun h=>h = bq) (fun h=>⟨[(0,.hs 0 2 0 h.2.2.length),(1,qb b.1),(2,qb b.2.1),(3,qb c.1),(4,.d (.fn q1F q1C)),(10,qw b.2.2.2.1),(11,qw b.2.2.2.2.1),(12,.d (qj (w64 (b.2.1 - b.1)))),(13,qb h.1),(14,qb h.2.1)],[(0,.dat 2 (h.2.2.map qy))],1⟩) qe ?_ ?_
 ·refine qt O m (fun _ m=>?_) (fun _ m=>?_)
  ·refine qg<|q0 O<|q0 O<|q0 O<|q0 O<|q9 m fun ag br m=>q9 m fun cx bs m=>?_;have bt:=Kq bs;refine K3 [(0,0)] [(0,0)] _ (.d (.tup [])) 1 [(0,.dat 2 (ag.map qy))] 1 (qzs g q1F q1C q1Ok c.2 b.1 b.2.1 ag br)<|qx<|q0 O<|U _ O<|q0 O<|q0 O<|U _ O<|U _ O<|qd O<|qc<|Q5<|qd O<|Q3 ?_;obtain rfl:=qv m;exact ⟨_,O,wkE [] [] [] O ⟨⟨_,O,K0 (by simp [bt]) O Q7 (ltd O)⟩,qk O,qk O,qk O,qk O,qk O,qk O,qk O,qk O,qk O,trivial⟩ ⟨Qo O O,trivial⟩⟩
  refine qu<|Qc ?_;obtain rfl:=qv m;exact ⟨_,O,wkA [] [] []⟩
 intro h hb;subst hb;refine qh<|qg<|q0 O<|q9 a fun bu u a=>?_;refine Qi 3 (fun A st=>∃ ah ai,st = A [(71,qw bu),(70,ai),(69,ah)]) ?_ ?_
 ·refine Qj O O u (fun u=>?_) (fun u=>?_)
  ·refine q0 O<|U _ O<|qc ?_;cases u;exact ⟨_,_,O⟩
  refine qa O<|U _ O<|qc ?_;cases u;exact ⟨_,_,O⟩
 rintro _ ⟨ah,ai,rfl⟩;refine q9 a fun bv v a=>?_;refine Qi 4 (fun A st=>∃ aj ak al,st = A [(75,qw bv),(74,al),(73,ak),(72,aj)]) ?_ ?_
 ·refine Qj O O v (fun v=>?_) (fun v=>?_)
  ·refine q0 O<|U _ O<|U _ O<|qc ?_;cases v;exact ⟨_,_,_,O⟩
  refine qa O<|qa O<|U _ O<|qc ?_;cases v;exact ⟨_,_,_,O⟩
 rintro _ ⟨aj,ak,al,rfl⟩;refine qc<|q9 a fun bw f a=>?_;refine Y3 (fun n=>.inl n = bw) (fun n=>⟨[(0,.hs 0 2 0 n.length),(1,qb b.1),(2,qb b.2.1),(3,qb c.1),(4,.d (.fn q1F q1C)),(10,qw b.2.2.2.1),(11,qw b.2.2.2.2.1),(12,.d (qj (w64 (b.2.1 - b.1)))),(13,qb h.1)],[(0,.dat 2 (n.map qy))],1⟩) qe ?_ ?_
 ·refine qt O f (fun _ f=>?_) (fun _ f=>?_)
  ·refine qg<|q0 O<|q0 O<|q0 O<|q0 O<|q9 f fun x bx f=>q9 f fun cy bz f=>?_;have ca:=Kq bz;refine K3 [(0,0)] [(0,0)] _ (qw x.1) 1 [(0,.dat 2 (x.2.map qy))] 1 (qzd g q1F q1C q1Ok h.2.2 b.1 b.2.1 x bx)<|qc ?_;refine qt O f (fun _ f=>?_) (fun _ f=>?_)
   ·refine q19 ?_;obtain rfl:=qv f;refine ⟨_,qs a,fun hm=>?_⟩;subst hm;obtain rfl:=qv p;exact ⟨.inr O,_,O,wkA [] [] []⟩
   refine qu<|Qc ?_;obtain rfl:=qv f;exact ⟨_,O,wkE [] [] [] O ⟨⟨_,O,K0 (by simp [ca]) O Q7 (ltd O)⟩,qk O,qk O,qk O,qk O,qk O,qk O,qk O,qk O,trivial⟩ ⟨Qo O O,trivial⟩⟩
  refine qu<|Qc ?_;obtain rfl:=qv f;exact ⟨_,O,wkA [] [] []⟩
 intro n hb;subst hb;refine qh<|qh<|Qf [q7,q7,q7,q7,qr 0,q7,q7,q7,qr 0,q7,q7,q7,q7,q7,q7,q7,q7] ql<|q0 O<|U _ O<|q9 a fun cb j a=>?_;refine Qi 15 (fun A st=>∃ am an ao ap aq ar au av aw ax ay az ba bb,st = A [(97,qw cb),(96,bb),(95,ba),(94,az),(93,ay),(92,ax),(91,aw),(90,av),(89,au),(88,ar),(87,aq),(86,ap),(85,ao),(84,an),(83,am)]) ?_ ?_
 ·refine Qj O O j (fun j=>?_) (fun j=>?_)
  ·refine q0 O<|q0 O<|q0 O<|U _ O<|q9 j fun cc bc j=>qp bc O O<|Q2 _ bc O<|q0 O<|q0 O<|q9 j fun cd bd j=>qp bd O O<|Q2 _ bd O<|q9 j fun ce cf j=>Kj _ (q1Ok cc cd ce cf) O O O (.inl O)<|U _ O<|U _ O<|U _ O<|qc ?_;cases j;exact ⟨_,_,_,_,_,_,_,_,_,_,_,_,_,_,O⟩
  refine qa O<|qa O<|qa O<|qa O<|qa O<|qa O<|qa O<|qa O<|qa O<|qa O<|qa O<|qa O<|qa O<|U _ O<|qc ?_;cases j;exact ⟨_,_,_,_,_,_,_,_,_,_,_,_,_,_,O⟩
 rintro _ ⟨am,an,ao,ap,aq,ar,au,av,aw,ax,ay,az,ba,bb,rfl⟩;refine qc ?_;refine qt O a (fun _ a=>?_) (fun _ a=>?_)
 ·refine qg<|q0 O<|q0 O<|q0 O<|q0 O<|q0 O<|q9 a fun y cg a=>q9 a fun cz ch a=>?_;have ci:=Kq ch;refine K3 [(0,0)] [(0,0)] _ (qb y.1) 1 [(0,.dat 2 (y.2.map qy))] 1 (qzj g q1F q1C q1Ok n b.1 b.2.1 h.1 y cg)<|qd O<|qx<|q0 O<|qd O<|qc<|Qh<|q79<|Qc<|⟨_,qs a,wkE [] [] [] O ⟨⟨_,O,K0 (by simp [ci]) O Q7 (ltd O)⟩,qk O,qk O,qk O,qk O,qk O,qk O,trivial⟩ ⟨Qo O O,trivial⟩⟩
 refine qu<|qg<|q0 O<|q0 O<|q0 O<|q0 O<|q0 O<|q9 a fun k cj a=>q9 a fun da ck a=>?_;have w:=Kq ck;refine K3 [(0,0)] [(0,0)] _ (.d (.tup [qj k.1,.bool k.2.1])) 1 [(0,.dat 2 (k.2.2.map qy))] 1 (qzg g q1F q1C q1Ok n b.1 b.2.1 h.1 k cj)<|q0 O<|U _ O<|U _ O<|qd O<|qd O<|qx<|q0 O<|qd O<|qx<|q0 O<|q0 O<|U _ O<|q0 O<|q0 O<|U _ O<|qd O<|qd O<|qx<|q0 O<|U _ O<|qd O<|qx<|q0 O<|q0 O<|U _ O<|qc ?_;refine qt O a (fun _ a=>?_) (fun _ a=>?_)
 ·refine qg<|q0 O<|q0 O<|U _ O<|qd O<|qx<|q0 O<|q0 O<|q0 O<|q0 O<|q0 O<|q9 a fun z cl a=>q9 a fun dc cm a=>?_;have cn:=Kq cm;refine Ud [(0,0)] [(0,0)] [.hs 0 2 0 n.length,qb b.1,qb k.1,qb c.1,.d (.fn q1F q1C)] (.d (.tup [])) [(0,.dat 2 (z.map qy))] [(0,.dat 2 (z.map qy))] 1 (hrec k.2.2 b.1 k.1 c.1 z cl) O O O (Yt [(0,0)] [] [] O ⟨⟨_,O,K0 (by simp [w]) O Q7 (ltd O)⟩,qk O,qk O,qk O,qk O,trivial⟩ ⟨Qo O O,trivial⟩) (Yt [(0,0)] [] [] O ⟨qk O,trivial⟩ ⟨Qo O O,trivial⟩) O ⟨.inl O,trivial⟩<|qc<|Q5<|q0 O<|U _ O<|qd O<|Q3<|Qn<|Qc<|⟨_,qs a,wkE [] [] [] O ⟨⟨_,O,K0 (by simp [w,cn]) O Q7 (ltd O)⟩,qk O,qk O,qk O,qk O,qk O,qk O,trivial⟩ ⟨Qo O O,trivial⟩⟩
 refine qg<|q0 O<|q0 O<|U _ O<|qd O<|qx<|q0 O<|q0 O<|U _ O<|q0 O<|q0 O<|q0 O<|q9 a fun aa co a=>q9 a fun dd cp a=>?_;have cq:=Kq cp;refine Ud [(0,0)] [(0,0)] [.hs 0 2 0 n.length,.d (qj (w64 (k.1 + 1))),qb b.2.1,qb c.1,.d (.fn q1F q1C)] (.d (.tup [])) [(0,.dat 2 (aa.map qy))] [(0,.dat 2 (aa.map qy))] 1 (hrec k.2.2 (w64 (k.1 + 1)) b.2.1 c.1 aa co) O O O (Yt [(0,0)] [] [] O ⟨⟨_,O,K0 (by simp [w]) O Q7 (ltd O)⟩,qk O,qk O,qk O,qk O,trivial⟩ ⟨Qo O O,trivial⟩) (Yt [(0,0)] [] [] O ⟨qk O,trivial⟩ ⟨Qo O O,trivial⟩) O ⟨.inl O,trivial⟩<|qc<|Q5<|q0 O<|qd O<|Q3<|Qn<|Qc<|⟨_,qs a,wkE [] [] [] O ⟨⟨_,O,K0 (by simp [w,cq]) O Q7 (ltd O)⟩,qk O,qk O,qk O,qk O,qk O,qk O,trivial⟩ ⟨Qo O O,trivial⟩⟩
theorem qzn (n : Nat) (g : qm→qm→Option Int) (q1F : FuncId) (q1C : List DV) (q1Ok : ∀ (j : qm) (k : qm) (r : Int),g j k = some r→Pure Tryz.prog tab q1F ([.agg (qy j),.agg (qy k)] ++ q1C) (qj r)) : ∀ (a : List qm) (b : Int) (c : Int) (f : Int) (r : List qm),q6k n g a b c f = some r→K2 Tryz.prog tab 81 [.hs 0 2 0 a.length,qb b,qb c,qb f,.d (.fn q1F q1C)] [(0,.dat 2 (a.map qy))] 1 (.d (.tup [])) [(0,.dat 2 (r.map qy))] 1:=by
 induction n with
 | zero=>intro a b c f r h;cases h
 | succ n ih=>intro a b c f r h;exact qzm (q6k n g) g q1F q1C q1Ok ih a b c f r h
theorem qyx (c : qm→qm→Option Int) (q1F : FuncId) (q1C : List DV) (q1Ok : ∀ (g : qm) (h : qm) (r : Int),c g h = some r→Pure Tryz.prog tab q1F ([.agg (qy g),.agg (qy h)] ++ q1C) (qj r)) (b : List qm) (r : List qm) (a : q4e c b = some r) : K2 Tryz.prog tab 61 [.hs 0 2 0 b.length,.d (.fn q1F q1C)] [(0,.dat 2 (b.map qy))] 1 (.d (.tup [])) [(0,.dat 2 (r.map qy))] 1:=by
 unfold q4e at a;refine Ki Tryz.func61 O ql ql O<|qg<|q0 O<|U _ O<|qd O<|qc<|Q5<|q0 O<|q0 O<|q0 O<|U _ O<|q9 a fun j l a=>Qs (qcd (IntKind.wrap .u64 (b.length : Int)) j l) O<|q0 O<|q9 a fun k f a=>q9 a fun o m a=>?_;have p:=Kq m;obtain ⟨n,f⟩:=qc9 f;refine K3 [(0,0)] [(0,0)] _ (.d (.tup [])) 1 [(0,.dat 2 (k.map qy))] 1 (qzn n c q1F q1C q1Ok b 0 (b.length : Int) j k f)<|Q3 ?_;obtain rfl:=qv a;exact ⟨.inl O,_,O,wkA [] [] []⟩
theorem q10p (s : List Qb) (r : Qz × Bool) (f : q4q s = some r) : Pure Tryz.prog tab 43 [.sl 4 (s.map Kd)] (.tup [.agg [.sl 2 (r.1.Nodes.map qq),.sl 2 (r.1.Edges.map qy)],.bool r.2]):=by
 unfold q4q at f;refine K5 Tryz.func43 O ql ql O<|qg<|Kf O O<|qd O<|qx<|q0 O<|q9 f fun g y f=>Qs (qmm s g y) O<|Kf O O<|K8 1 (.dat 2 [[.mp (mrow (fun n : Int=>DV.int .i64 n) (fun l : List qi=>DV.sl 2 (l.map Q8)) g.rows_),.mp (mrow (fun n : Int=>DV.int .i64 n) (fun l : List qi=>DV.sl 2 (l.map Q8)) g.columns_)]]) O<|qx<|U (.d (.agg [.mp (mrow (fun n : Int=>DV.int .i64 n) (fun l : List qi=>DV.sl 2 (l.map Q8)) g.rows_),.mp (mrow (fun n : Int=>DV.int .i64 n) (fun l : List qi=>DV.sl 2 (l.map Q8)) g.columns_)])) O<|q9 f fun c z f=>Qs (q10s g c z) O<|q0 O<|U (.d (.sl 2 (c.1.map qq))) O<|U (qw c.2) O<|qd O<|qd O<|qc<|qh<|qg<|q0 O<|U (qw (!c.2)) O<|qc ?_;refine qt O f (fun _ f=>?_) (fun _ f=>?_)
 ·refine qg<|U (.d (.agg [.nilsl,.nilsl])) O<|K8 0 (.dat 2 [[.nilsl,.nilsl]]) O<|qd O<|Qa ?_;obtain rfl:=qv f;exact finD (.inr O) (v:=.d (.tup [.agg [.nilsl,.nilsl],.bool false])) O O (Uu (.cons (qhy (.cons (.nil _) (.cons (.nil _) .nil))) (.cons (.refl _) .nil)))
 refine qu<|qg<|q0 O<|U (.d (.agg [.sl 2 (c.1.map qq),.nilsl])) O<|Kf O O<|K8 2 (.dat 2 [[.sl 2 (c.1.map qq),.nilsl]]) O<|qx<|Qu (.mp 3) (.mp true (Qx (fun n : Int=>DV.int .i64 n) (DV.int .i64) ([] : List (Int × Int)))) O<|Qu (.mp 4) (.mp true (Qx (fun n : Int=>DV.int .i64 n) (DV.int .i64) ([] : List (Int × Int)))) O<|qd O<|qd O<|qc<|qh<|qg<|q0 O<|K6 O<|q0 O<|qc<|q9 f fun w aa f=>?_;refine Qt (fun h=>h = w) (fun (h : List qm)=>⟨[(2,.ref 0 2 0 0),(7,.ref 1 2 0 0)],[(0,.dat 2 [[.nilsl,.nilsl]]),(1,.cel 2 [[.d (.sl 2 (c.1.map qq)),.hs 2 2 0 h.length]]),(2,.dat 2 (h.map qy))],3⟩) qe ?_ ?_
 ·refine Qm (q36 c g) (fun (a : Int × (List (Int × Int)) × (List (Int × Int)) × List qm)=>⟨[(2,.ref 0 2 0 0),(4,.ref 1 2 0 0),(7,.ref 2 2 0 0),(8,.mp 3),(9,.mp 4),(27,.d (.sl 2 (c.1.map qq))),(28,qb (c.1.length : Int)),(29,qb a.1)],[(0,.dat 2 [[.nilsl,.nilsl]]),(1,.dat 2 [[.mp (mrow (fun n : Int=>DV.int .i64 n) (fun l : List qi=>DV.sl 2 (l.map Q8)) g.rows_),.mp (mrow (fun n : Int=>DV.int .i64 n) (fun l : List qi=>DV.sl 2 (l.map Q8)) g.columns_)]]),(2,.cel 2 [[.d (.sl 2 (c.1.map qq)),.hs 5 2 0 a.2.2.2.length]]),(3,.mp false (Qx (fun n : Int=>DV.int .i64 n) (DV.int .i64) a.2.1)),(4,.mp false (Qx (fun n : Int=>DV.int .i64 n) (DV.int .i64) a.2.2.1)),(5,.dat 2 (a.2.2.2.map qy))],6⟩) (0,[],[],[]) w aa (wkA [(0,0),(1,1),(2,2),(3,3),(4,4)] [] [5]) ?_;intro a am j;unfold q36 at j;refine qg<|U (.d (.bool (decide (a.1 < (c.1.length : Int))))) O<|qc<|qh ?_;refine qt O j (fun _ j=>?_) (fun _ j=>?_)
  ·refine qu<|qh<|Qg<|qg<|q0 O<|q9 j fun b ab j=>Qv (enc:=qq) ab O<|U (.d (.agg [qj b.X,qj b.Y])) O<|Kf O O<|qd O<|K8 6 (.dat 2 [[qj b.X,qj b.Y]]) O<|qx<|U (.d (.agg [.mp (mrow (fun n : Int=>DV.int .i64 n) (fun l : List qi=>DV.sl 2 (l.map Q8)) g.rows_),.mp (mrow (fun n : Int=>DV.int .i64 n) (fun l : List qi=>DV.sl 2 (l.map Q8)) g.columns_)])) O<|U (.d (.agg [qj b.X,qj b.Y])) O<|q9 j fun k ac j=>Qs (qgh g b k ac) O<|Kf O O<|K8 7 (.dat 4 [[.bool k.1,.bool k.2.1,.bool k.2.2.1,.bool k.2.2.2]]) O<|qc<|qh<|qg<|U (.ref 7 4 0 2) O<|U (qw k.2.2.1) O<|qc<|q9 j fun ad m j=>?_;refine Y3 (fun o=>o = ad) (fun (o : List qm)=>⟨[(2,.ref 0 2 0 0),(4,.ref 1 2 0 0),(7,.ref 2 2 0 0),(8,.mp 3),(9,.mp 4),(10,qb a.1),(11,.ref 5 2 0 0),(12,.ref 6 4 0 0),(27,.d (.sl 2 (c.1.map qq))),(28,qb (c.1.length : Int)),(29,qb a.1)],[(0,.dat 2 [[.nilsl,.nilsl]]),(1,.dat 2 [[.mp (mrow (fun n : Int=>DV.int .i64 n) (fun l : List qi=>DV.sl 2 (l.map Q8)) g.rows_),.mp (mrow (fun n : Int=>DV.int .i64 n) (fun l : List qi=>DV.sl 2 (l.map Q8)) g.columns_)]]),(2,.cel 2 [[.d (.sl 2 (c.1.map qq)),.hs 7 2 0 o.length]]),(3,.mp false (Qx (fun n : Int=>DV.int .i64 n) (DV.int .i64) a.2.1)),(4,.mp false (Qx (fun n : Int=>DV.int .i64 n) (DV.int .i64) a.2.2.1)),(5,.dat 2 [[qj b.X,qj b.Y]]),(6,.dat 4 [[.bool k.1,.bool k.2.1,.bool k.2.2.1,.bool k.2.2.2]]),(7,.dat 2 (o.map qy))],8⟩) qe ?_ ?_
   ·refine qt O m (fun _ m=>?_) (fun _ m=>?_)
    ·refine Q5<|U (.ref 2 2 0 1) O<|U (.hs 5 2 0 a.2.2.2.length) O<|q0 O<|U (.ref 6 2 0 1) O<|U (qb b.Y) O<|qkj (ek:=(fun n : Int=>DV.int .i64 n)) (ev:=(DV.int .i64)) (es:=a.2.1) Je 0 b.Y O O O O O O O<|q0 O<|U (.d (.agg [qj (K9 0 b.Y a.2.1),qj a.1])) O<|Qu (.hs 8 2 0 [({A:=K9 0 b.Y a.2.1,B:=a.1} : qm)].length) (.dat 2 ([({A:=K9 0 b.Y a.2.1,B:=a.1} : qm)].map qy)) O<|q9 m fun ae af m=>Yq (xs:=a.2.2.2) (ys:=[({A:=K9 0 b.Y a.2.1,B:=a.1} : qm)]) (enc:=qy) (.hs 8 2 0 [({A:=K9 0 b.Y a.2.1,B:=a.1} : qm)].length) af O O O O O O O (Z5 O O) O O O O<|U (.ref 2 2 0 1) O<|K8 2 (.cel 2 [[.d (.sl 2 (c.1.map qq)),.hs 9 2 0 ae.length]]) O<|Q3 ?_;obtain rfl:=qv m;exact ⟨_,O,wkA [(0,0),(1,1),(2,2),(3,3),(4,4),(5,6),(6,7),(7,9)] [] []⟩
    refine qu<|Qc ?_;obtain rfl:=qv m;exact ⟨_,O,wkA [(0,0),(1,1),(2,2),(3,3),(4,4),(5,6),(6,7),(7,5)] [] []⟩
   intro o hb;subst hb;refine qh<|qg<|U (.ref 6 4 0 3) O<|U (qw k.2.2.2) O<|qc<|q9 j fun ag p j=>?_;refine Y3 (fun q=>q = ag) (fun (q : List qm)=>⟨[(2,.ref 0 2 0 0),(4,.ref 1 2 0 0),(7,.ref 2 2 0 0),(8,.mp 3),(9,.mp 4),(10,qb a.1),(11,.ref 5 2 0 0),(27,.d (.sl 2 (c.1.map qq))),(28,qb (c.1.length : Int)),(29,qb a.1)],[(0,.dat 2 [[.nilsl,.nilsl]]),(1,.dat 2 [[.mp (mrow (fun n : Int=>DV.int .i64 n) (fun l : List qi=>DV.sl 2 (l.map Q8)) g.rows_),.mp (mrow (fun n : Int=>DV.int .i64 n) (fun l : List qi=>DV.sl 2 (l.map Q8)) g.columns_)]]),(2,.cel 2 [[.d (.sl 2 (c.1.map qq)),.hs 6 2 0 q.length]]),(3,.mp false (Qx (fun n : Int=>DV.int .i64 n) (DV.int .i64) a.2.1)),(4,.mp false (Qx (fun n : Int=>DV.int .i64 n) (DV.int .i64) a.2.2.1)),(5,.dat 2 [[qj b.X,qj b.Y]]),(6,.dat 2 (q.map qy))],7⟩) qe ?_ ?_
   ·refine qt O p (fun _ p=>?_) (fun _ p=>?_)
    ·refine Q5<|U (.ref 2 2 0 1) O<|U (.hs 7 2 0 o.length) O<|q0 O<|U (.ref 5 2 0 0) O<|U (qb b.X) O<|qkj (ek:=(fun n : Int=>DV.int .i64 n)) (ev:=(DV.int .i64)) (es:=a.2.2.1) Je 0 b.X O O O O O O O<|q0 O<|U (.d (.agg [qj (K9 0 b.X a.2.2.1),qj a.1])) O<|Qu (.hs 8 2 0 [({A:=K9 0 b.X a.2.2.1,B:=a.1} : qm)].length) (.dat 2 ([({A:=K9 0 b.X a.2.2.1,B:=a.1} : qm)].map qy)) O<|q9 p fun ah ai p=>Yq (xs:=o) (ys:=[({A:=K9 0 b.X a.2.2.1,B:=a.1} : qm)]) (enc:=qy) (.hs 8 2 0 [({A:=K9 0 b.X a.2.2.1,B:=a.1} : qm)].length) ai O O O O O O O (Z5 O O) O O O O<|U (.ref 2 2 0 1) O<|K8 2 (.cel 2 [[.d (.sl 2 (c.1.map qq)),.hs 9 2 0 ah.length]]) O<|Q3 ?_;obtain rfl:=qv p;exact ⟨_,O,wkA [(0,0),(1,1),(2,2),(3,3),(4,4),(5,5),(6,9)] [] []⟩
    refine qu<|Qc ?_;obtain rfl:=qv p;exact ⟨_,O,wkA [(0,0),(1,1),(2,2),(3,3),(4,4),(5,5),(6,7)] [] []⟩
   intro q hb;subst hb;refine Qf [Qk 4,Qk 3,q7,q7,qr 5,q7,q7,qr 5,q7,q7] ql<|q0 O<|U (.ref 5 2 0 1) O<|U (qb b.Y) O<|q0 O<|U (.ref 5 2 0 0) O<|U (qb b.X) O<|q0 O<|q0 O<|q5l (ek:=(fun n : Int=>DV.int .i64 n)) (ev:=(DV.int .i64)) (es:=a.2.1) Je b.Y a.1 O O O O O O O O<|q5l (ek:=(fun n : Int=>DV.int .i64 n)) (ev:=(DV.int .i64)) (es:=a.2.2.1) Je b.X a.1 O O O O O O O O<|Q3<|Qn<|Q5<|U (.d (qj (w64 (a.1 + 1)))) O<|q0 O<|Q3<|⟨_,qs j,wkA [(0,0),(1,1),(2,2),(3,3),(4,4),(5,6)] [] []⟩
  refine Qh ?_;refine ⟨_,qs j,fun hm=>?_⟩;subst hm;exact ⟨_,O,wkA [(0,0),(1,2),(2,5)] [] []⟩
 intro h hb;subst hb;refine qg<|U (.ref 1 2 0 1) O<|U (.hs 2 2 0 h.length) O<|q9 f fun x aj f=>q9 f fun an ak f=>?_;have al:=Kq ak;refine K3 [(0,2)] [(0,1),(1,1),(2,0)] [.hs 2 2 0 h.length,.d (.fn 62 [])] (.d (.tup [])) 1 [(2,.dat 2 (x.map qy)),(0,.dat 2 [[.nilsl,.nilsl]]),(1,.cel 2 [[.d (.sl 2 (c.1.map qq)),.hs 2 2 0 h.length]])] 3 (qyx (fun t u=>q29 t u) 62 [] (fun t u r hr=>q10o t u r hr) h x aj)<|qc<|qh<|Qf [q7,Qk 0,q7,q7,qr 1,q7,qr 1] ql<|U (.agg [.d (.sl 2 (c.1.map qq)),.hs 2 2 0 h.length]) O<|U (.ref 1 2 0 1) O<|U (.hs 2 2 0 h.length) O<|U (qb (h.length : Int)) O<|U (.d (.bool (decide ((h.length : Int)≤800)))) O<|K8 0 (.cel 2 [[.d (.sl 2 (c.1.map qq)),.hs 2 2 0 h.length]]) O<|qd O<|Qa ?_;obtain rfl:=qv f;exact finD (.inr O) (v:=.tup [.agg [.d (.sl 2 (c.1.map qq)),.hs 2 2 0 h.length],.d (.bool (decide ((h.length : Int)≤800)))]) O (qdc (J3 (qmu (J3 O (J3 (Jy (by simp [al]) O) O))) (J3 O O))) (.refl _)
theorem qyu (c : List qf) (f : List qf) (r : Bool) (b : q8g c f = some r) : Pure Tryz.prog tab 45 [.sl 2 (c.map qq),.sl 2 (f.map qq)] (.bool r):=by
 unfold q8g at b;refine K5 Tryz.func45 O ql ql O<|qg<|qd O<|qc<|qh<|qg<|q0 O<|K6 O<|q0 O<|K6 O<|U _ O<|qc ?_;refine qt O b (fun _ b=>?_) (fun _ b=>?_)
 ·refine qg<|qd O<|Qa ?_;cases b;exact Qr _ O
 refine qu<|qh<|qg<|q0 O<|K6 O<|q0 O<|qc<|q9 b fun h k b=>?_;refine Qt (fun g=>.inl g = h) (fun g=>⟨[],[],0⟩) qe ?_ ?_
 ·refine Qm (q68 c f) (fun j=>⟨[(0,.d (.sl 2 (c.map qq))),(1,.d (.sl 2 (f.map qq))),(12,qb (c.length : Int)),(13,qb j)],[],0⟩) _ h k (wkA [] [] []) ?_;intro j n a;unfold q68 at a;refine qg<|U _ O<|qc<|qh ?_;refine qt O a (fun _ a=>?_) (fun _ a=>?_)
  ·refine qu<|qh<|Qg<|qg<|q0 O<|qd O<|qc<|qh<|Qf [q7,q7,q7,q7,q7,q7,q7,q7,q7] ql<|q0 O<|q0 O<|q9 a fun o l a=>Qv l O<|U _ O<|q0 O<|q0 O<|q9 a fun p m a=>Qv m O<|U _ O<|U _ O<|qc ?_;refine qt O a (fun _ a=>?_) (fun _ a=>?_)
   ·refine qg<|qd O<|Qa ?_;refine ⟨_,qs a,fun hm=>?_⟩;subst hm;cases b;exact Qr _ O
   refine qu<|Qc<|Qn<|Q5<|U _ O<|q0 O<|Q3<|⟨_,qs a,wkA [] [] []⟩
  refine Qh ?_;refine ⟨_,qs a,fun hm=>?_⟩;subst hm;exact ⟨_,O,wkA [] [] []⟩
 intro g hb;subst hb;refine qg<|qd O<|Qa ?_;cases b;exact Qr _ O
theorem qyt (c : List qm) (f : List qm) (r : Bool) (b : q8f c f = some r) : Pure Tryz.prog tab 46 [.sl 2 (c.map qy),.sl 2 (f.map qy)] (.bool r):=by
 unfold q8f at b;refine K5 Tryz.func46 O ql ql O<|qg<|qd O<|qc<|qh<|qg<|q0 O<|K6 O<|q0 O<|K6 O<|U _ O<|qc ?_;refine qt O b (fun _ b=>?_) (fun _ b=>?_)
 ·refine qg<|qd O<|Qa ?_;cases b;exact Qr _ O
 refine qu<|qh<|qg<|q0 O<|K6 O<|q0 O<|qc<|q9 b fun h k b=>?_;refine Qt (fun g=>.inl g = h) (fun g=>⟨[],[],0⟩) qe ?_ ?_
 ·refine Qm (q67 c f) (fun j=>⟨[(0,.d (.sl 2 (c.map qy))),(1,.d (.sl 2 (f.map qy))),(12,qb (c.length : Int)),(13,qb j)],[],0⟩) _ h k (wkA [] [] []) ?_;intro j n a;unfold q67 at a;refine qg<|U _ O<|qc<|qh ?_;refine qt O a (fun _ a=>?_) (fun _ a=>?_)
  ·refine qu<|qh<|Qg<|qg<|q0 O<|qd O<|qc<|qh<|Qf [q7,q7,q7,q7,q7,q7,q7,q7,q7] ql<|q0 O<|q0 O<|q9 a fun o l a=>Qv l O<|U _ O<|q0 O<|q0 O<|q9 a fun p m a=>Qv m O<|U _ O<|U _ O<|qc ?_;refine qt O a (fun _ a=>?_) (fun _ a=>?_)
   ·refine qg<|qd O<|Qa ?_;refine ⟨_,qs a,fun hm=>?_⟩;subst hm;cases b;exact Qr _ O
   refine qu<|Qc<|Qn<|Q5<|U _ O<|q0 O<|Q3<|⟨_,qs a,wkA [] [] []⟩
  refine Qh ?_;refine ⟨_,qs a,fun hm=>?_⟩;subst hm;exact ⟨_,O,wkA [] [] []⟩
 intro g hb;subst hb;refine qg<|qd O<|Qa ?_;cases b;exact Qr _ O
theorem qml (c : Qz) (d : Qz) (r : Bool) (b : q6y c d = some r) : Pure Tryz.prog tab 21 [.agg [.sl 2 (c.Nodes.map qq),.sl 2 (c.Edges.map qy)],.agg [.sl 2 (d.Nodes.map qq),.sl 2 (d.Edges.map qy)]] (.bool r):=by
 unfold q6y at b;refine K5 Tryz.func21 O ql ql O<|qg<|Qu _ _ O<|Qu _ _ O<|qd O<|qx<|U _ O<|U _ O<|U _ O<|U _ O<|q9 b fun m n b=>Qs (qyu c.Nodes d.Nodes m n) O<|q9 b fun o a b=>?_;refine Qi 7 (fun A st=>∃ f g h j k l,st = A [(16,qw o),(15,l),(14,k),(13,j),(12,h),(11,g),(10,f)]) ?_ ?_
 ·refine Qj O O a (fun a=>?_) (fun a=>?_)
  ·refine U _ O<|U _ O<|U _ O<|U _ O<|q9 a fun p q a=>Qs (qyt c.Edges d.Edges p q) O<|U _ O<|qc ?_;cases a;exact ⟨_,_,_,_,_,_,O⟩
  refine qa O<|qa O<|qa O<|qa O<|qa O<|U _ O<|qc ?_;cases a;exact ⟨_,_,_,_,_,_,O⟩
 rintro _ ⟨f,g,h,j,k,l,rfl⟩;refine qd O<|Qa ?_;cases b;exact Qr _ O
theorem qmk (c : Qz) (r : Int) (a : Uj c = some r) : Pure Tryz.prog tab 19 [.agg [.sl 2 (c.Nodes.map qq),.sl 2 (c.Edges.map qy)]] (qj r):=by
 unfold Uj at a;refine K5 Tryz.func19 O ql ql O<|qg<|Qu _ _ O<|qd O<|qc<|qh<|qg<|U _ O<|U _ O<|K6 O<|U _ O<|q9 a fun t d a=>?_;refine Qi 6 (fun A st=>∃ f g h j k,st = A [(16,qw t),(15,k),(14,j),(13,h),(12,g),(11,f)]) ?_ ?_
 ·refine Qj O O d (fun d=>?_) (fun d=>?_)
  ·refine qa O<|qa O<|qa O<|qa O<|U _ O<|qc ?_;cases d;exact ⟨_,_,_,_,_,O⟩
  refine U _ O<|U _ O<|K6 O<|U _ O<|U _ O<|qc ?_;cases d;exact ⟨_,_,_,_,_,O⟩
 rintro _ ⟨f,g,h,j,k,rfl⟩;refine qc ?_;refine qt O a (fun _ a=>?_) (fun _ a=>?_)
 ·refine qg<|qd O<|Qa ?_;cases a;exact Qr _ O
 refine qu<|qg<|U _ O<|q9 a fun l u a=>Qs (qmo c l u) O<|q0 O<|U _ O<|U _ O<|qd O<|qd O<|qc<|qh<|qg<|q0 O<|U _ O<|qc ?_;refine qt O a (fun _ a=>?_) (fun _ a=>?_)
 ·refine qg<|qd O<|Qa ?_;cases a;exact Qr _ O
 refine qu<|qh<|qg<|q0 O<|q9 a fun m v a=>Qs (q10p l.1 m v) O<|q0 O<|U _ O<|U _ O<|Kf O O<|K8 1 _ O<|qd O<|qx<|q0 O<|U _ O<|q9 a fun w b a=>?_;refine Qi 6 (fun A st=>∃ n o p q s,st = A [(36,qw w),(35,s),(34,q),(33,p),(32,o),(31,n)]) ?_ ?_
 ·refine Qj O O b (fun b=>?_) (fun b=>?_)
  ·refine qa O<|qa O<|qa O<|qa O<|U _ O<|qc ?_;cases b;exact ⟨_,_,_,_,_,O⟩
  refine U _ O<|U _ O<|q9 b fun x y b=>Qs (qml m.1 c x y) O<|U _ O<|U _ O<|qc ?_;cases b;exact ⟨_,_,_,_,_,O⟩
 rintro _ ⟨n,o,p,q,s,rfl⟩;refine qc ?_;refine qt O a (fun _ a=>?_) (fun _ a=>?_)
 ·refine qg<|qd O<|Qa ?_;cases a;exact Qr _ O
 refine qu<|qg<|qd O<|Qa ?_;cases a;exact Qr _ O
theorem qda (b : Qz) (r : List Qb × Int) (a : q28 b = some r) : Pure Tryz.prog tab 11 [.agg [.sl 2 (b.Nodes.map qq),.sl 2 (b.Edges.map qy)]] (.tup [.sl 4 (r.1.map Kd),qj r.2]):=by
 unfold q28 at a;refine K5 Tryz.func11 O ql ql O<|qg<|Qu _ _ O<|qd O<|qd O<|qc<|qh<|qg<|U _ O<|q9 a fun c d a=>Qs (qmk b c d) O<|qd O<|qx<|q0 O<|U _ O<|qc ?_;refine qt O a (fun _ a=>?_) (fun _ a=>?_)
 ·refine qg<|q0 O<|qd O<|qd O<|Qa ?_;obtain rfl:=qv a;exact finD (.inr O) O O (Uu (.cons (.nil _) (.cons (.refl _) .nil)))
 refine qu<|qg<|U _ O<|q9 a fun f g a=>Qs (qmo b f g) O<|q0 O<|U _ O<|U _ O<|qd O<|qd O<|qx<|q0 O<|qd O<|qd O<|Qa ?_;cases a;exact Qr _ O
theorem ql9 (f : qf) (r : Bool) (a : q5q f = some r) : Pure Tryz.prog tab 51 [.agg (qq f)] (.bool r):=by
 unfold q5q at a;refine K5 Tryz.func51 O ql ql O<|qg<|Qu _ _ O<|qd O<|qx<|U _ O<|U _ O<|U _ O<|q9 a fun u b a=>?_;refine Qi 5 (fun A st=>∃ g h j k,st = A [(10,qw u),(9,k),(8,j),(7,h),(6,g)]) ?_ ?_
 ·refine Qj O O b (fun b=>?_) (fun b=>?_)
  ·refine U _ O<|U _ O<|U _ O<|U _ O<|qc ?_;cases b;exact ⟨_,_,_,_,O⟩
  refine qa O<|qa O<|qa O<|U _ O<|qc ?_;cases b;exact ⟨_,_,_,_,O⟩
 rintro _ ⟨g,h,j,k,rfl⟩;refine q9 a fun v c a=>?_;refine Qi 5 (fun A st=>∃ l m n o,st = A [(15,qw v),(14,o),(13,n),(12,m),(11,l)]) ?_ ?_
 ·refine Qj O O c (fun c=>?_) (fun c=>?_)
  ·refine U _ O<|U _ O<|U _ O<|U _ O<|qc ?_;cases c;exact ⟨_,_,_,_,O⟩
  refine qa O<|qa O<|qa O<|U _ O<|qc ?_;cases c;exact ⟨_,_,_,_,O⟩
 rintro _ ⟨l,m,n,o,rfl⟩;refine q9 a fun w d a=>?_;refine Qi 5 (fun A st=>∃ p q s t,st = A [(20,qw w),(19,t),(18,s),(17,q),(16,p)]) ?_ ?_
 ·refine Qj O O d (fun d=>?_) (fun d=>?_)
  ·refine U _ O<|U _ O<|U _ O<|U _ O<|qc ?_;cases d;exact ⟨_,_,_,_,O⟩
  refine qa O<|qa O<|qa O<|U _ O<|qc ?_;cases d;exact ⟨_,_,_,_,O⟩
 rintro _ ⟨p,q,s,t,rfl⟩;refine qd O<|Qa ?_;cases a;exact Qr _ O
theorem qwh (g : Qb) (r : Bool) (a : q8a g = some r) : Pure Tryz.prog tab 54 [.agg (Kd g)] (.bool r):=by
 unfold q8a at a;refine K5 Tryz.func54 O ql ql O<|qg<|Qu _ _ O<|qd O<|qx<|U _ O<|U _ O<|U _ O<|U _ O<|U _ O<|q9 a fun aq b a=>?_;refine Qi 18 (fun A st=>∃ h j k l m n o p q s t u v w x y z,st = A [(25,qw aq),(24,z),(23,y),(22,x),(21,w),(20,v),(19,u),(18,t),(17,s),(16,q),(15,p),(14,o),(13,n),(12,m),(11,l),(10,k),(9,j),(8,h)]) ?_ ?_
 ·refine Qj O O b (fun b=>?_) (fun b=>?_)
  ·refine U _ O<|U _ O<|U _ O<|U _ O<|U _ O<|U _ O<|U _ O<|q9 b fun ar f b=>?_;refine Qi 9 (fun A st=>∃ aa ab ac ad ae af ag ah,st = A [(24,qw ar),(23,ah),(22,ag),(21,af),(20,ae),(19,ad),(18,ac),(17,ab),(16,aa)]) ?_ ?_
   ·refine Qj O O f (fun f=>?_) (fun f=>?_)
    ·refine qa O<|qa O<|qa O<|qa O<|qa O<|qa O<|qa O<|U _ O<|qc ?_;cases f;exact ⟨_,_,_,_,_,_,_,_,O⟩
    refine U _ O<|U _ O<|U _ O<|U _ O<|U _ O<|U _ O<|U _ O<|U _ O<|qc ?_;cases f;exact ⟨_,_,_,_,_,_,_,_,O⟩
   rintro _ ⟨aa,ab,ac,ad,ae,af,ag,ah,rfl⟩;refine U _ O<|qc ?_;cases b;exact ⟨_,_,_,_,_,_,_,_,_,_,_,_,_,_,_,_,_,O⟩
  refine qa O<|qa O<|qa O<|qa O<|qa O<|qa O<|qa O<|qa O<|qa O<|qa O<|qa O<|qa O<|qa O<|qa O<|qa O<|qa O<|U _ O<|qc ?_;cases b;exact ⟨_,_,_,_,_,_,_,_,_,_,_,_,_,_,_,_,_,O⟩
 rintro _ ⟨h,j,k,l,m,n,o,p,q,s,t,u,v,w,x,y,z,rfl⟩;refine q9 a fun au c a=>?_;refine Qi 5 (fun A st=>∃ ai aj ak al,st = A [(30,qw au),(29,al),(28,ak),(27,aj),(26,ai)]) ?_ ?_
 ·refine Qj O O c (fun c=>?_) (fun c=>?_)
  ·refine U _ O<|U _ O<|q9 c fun av aw c=>Qs (ql9 g.A av aw) O<|U _ O<|qc ?_;cases c;exact ⟨_,_,_,_,O⟩
  refine qa O<|qa O<|qa O<|U _ O<|qc ?_;cases c;exact ⟨_,_,_,_,O⟩
 rintro _ ⟨ai,aj,ak,al,rfl⟩;refine q9 a fun ax d a=>?_;refine Qi 5 (fun A st=>∃ am an ao ap,st = A [(35,qw ax),(34,ap),(33,ao),(32,an),(31,am)]) ?_ ?_
 ·refine Qj O O d (fun d=>?_) (fun d=>?_)
  ·refine U _ O<|U _ O<|q9 d fun ay az d=>Qs (ql9 g.B ay az) O<|U _ O<|qc ?_;cases d;exact ⟨_,_,_,_,O⟩
  refine qa O<|qa O<|qa O<|U _ O<|qc ?_;cases d;exact ⟨_,_,_,_,O⟩
 rintro _ ⟨am,an,ao,ap,rfl⟩;refine qd O<|Qa ?_;cases a;exact Qr _ O
theorem qld (b : Qz) (r : List Qb × Bool) (c : q5y b = some r) : Pure Tryz.prog tab 37 [.agg [.sl 2 (b.Nodes.map qq),.sl 2 (b.Edges.map qy)]] (.tup [.sl 4 (r.1.map Kd),.bool r.2]):=by
 unfold q5y at c;refine K5 Tryz.func37 O ql ql O<|qg<|Qu _ _ O<|qd O<|qd O<|qx<|qd O<|qc<|qh<|qg<|qd O<|qc<|q9 c fun k ae c=>?_;refine Qt (fun d=>.inl d = k) (fun d=>⟨[(4,.hs 0 4 0 d.length)],[(0,.dat 4 (d.map Kd))],1⟩) qe ?_ ?_
 ·refine Qm (q8b b) (fun j=>⟨[(1,.ref 0 2 0 0),(4,.hs 1 4 0 j.2.length),(5,qb j.1)],[(0,.dat 2 [[.sl 2 (b.Nodes.map qq),.sl 2 (b.Edges.map qy)]]),(1,.dat 4 (j.2.map Kd))],2⟩) _ k ae (wkA [(0,0)] [] [1]) ?_;intro j aq a;unfold q8b at a;refine qh<|qg<|q0 O<|U _ O<|U _ O<|K6 O<|U _ O<|qc ?_;refine qt O a (fun _ a=>?_) (fun _ a=>?_)
  ·refine qu<|qh<|Qg<|qg<|U _ O<|U _ O<|q0 O<|q9 a fun ar af a=>Qv af O<|U _ O<|Kf O O<|K8 2 _ O<|qc<|qh<|qg<|U _ O<|U _ O<|U _ O<|q9 a fun ag f a=>?_;refine Qi 8 (fun A st=>∃ l m n o p q s,st = A [(30,qw ag),(29,s),(28,q),(27,p),(26,o),(25,n),(24,m),(23,l)]) ?_ ?_
   ·refine Qj O O f (fun f=>?_) (fun f=>?_)
    ·refine qa O<|qa O<|qa O<|qa O<|qa O<|qa O<|U _ O<|qc ?_;cases f;exact ⟨_,_,_,_,_,_,_,O⟩
    refine U _ O<|U _ O<|U _ O<|U _ O<|K6 O<|U _ O<|U _ O<|qc ?_;cases f;exact ⟨_,_,_,_,_,_,_,O⟩
   rintro _ ⟨l,m,n,o,p,q,s,rfl⟩;refine q9 a fun ah g a=>?_;refine Qi 5 (fun A st=>∃ t u v w,st = A [(35,qw ah),(34,w),(33,v),(32,u),(31,t)]) ?_ ?_
   ·refine Qj O O g (fun g=>?_) (fun g=>?_)
    ·refine qa O<|qa O<|qa O<|U _ O<|qc ?_;cases g;exact ⟨_,_,_,_,O⟩
    refine U _ O<|U _ O<|U _ O<|U _ O<|qc ?_;cases g;exact ⟨_,_,_,_,O⟩
   rintro _ ⟨t,u,v,w,rfl⟩;refine q9 a fun ai h a=>?_;refine Qi 8 (fun A st=>∃ x y z aa ab ac ad,st = A [(43,qw ai),(42,ad),(41,ac),(40,ab),(39,aa),(38,z),(37,y),(36,x)]) ?_ ?_
   ·refine Qj O O h (fun h=>?_) (fun h=>?_)
    ·refine qa O<|qa O<|qa O<|qa O<|qa O<|qa O<|U _ O<|qc ?_;cases h;exact ⟨_,_,_,_,_,_,_,O⟩
    refine U _ O<|U _ O<|U _ O<|U _ O<|K6 O<|U _ O<|U _ O<|qc ?_;cases h;exact ⟨_,_,_,_,_,_,_,O⟩
   rintro _ ⟨x,y,z,aa,ab,ac,ad,rfl⟩;refine qc ?_;refine qt O a (fun _ a=>?_) (fun _ a=>?_)
   ·refine qg<|qd O<|qd O<|Qa ?_;refine ⟨_,qs a,fun hm=>?_⟩;subst hm;obtain rfl:=qv c;exact finD (.inr O) O O (Uu (.cons (.nil _) (.cons (.refl _) .nil)))
   refine qu<|qh<|Qf [Qk 3,(some [],[3]),q7,q7,q7,qr 2,q7,qr 0,q7,q7,q7,qr 2,q7,qr 0,q7] ql<|U _ O<|U _ O<|U _ O<|U _ O<|q9 a fun aj ak a=>Qv ak O<|U _ O<|U _ O<|U _ O<|U _ O<|U _ O<|q9 a fun al am a=>Qv am O<|U _ O<|U _ O<|Kf O O<|K8 3 _ O<|qc<|qh<|qg<|U _ O<|q9 a fun an ao a=>Qs (qwh ({A:=aj,B:=al} : Qb) an ao) O<|U _ O<|qc ?_;refine qt O a (fun _ a=>?_) (fun _ a=>?_)
   ·refine qg<|qd O<|qd O<|Qa ?_;refine ⟨_,qs a,fun hm=>?_⟩;subst hm;obtain rfl:=qv c;exact finD (.inr O) O O (Uu (.cons (.nil _) (.cons (.refl _) .nil)))
   refine qu<|Q5<|q0 O<|U _ O<|Qu _ _ O<|q9 a fun au ap a=>Yq _ ap O O O O O O O (Z5 O O) O O O O<|qd O<|Q3<|Qn<|Q5<|q0 O<|U _ O<|qd O<|Q3<|⟨_,qs a,wkA [(0,0),(1,5)] [] []⟩
  refine Qh ?_;refine ⟨_,qs a,fun hm=>?_⟩;subst hm;exact ⟨_,O,wkA [(0,1)] [] []⟩
 intro d hb;subst hb;refine qg<|q0 O<|qd O<|qd O<|Qa ?_;obtain rfl:=qv c;exact finD (.inr O) O (qdc (J3 (Jy O O) (J3 O O))) (.refl _)
theorem qw7 (g : List Int) (r : List Int) (n : q5p g = some r) : Pure Tryz.prog tab 83 [.sl 1 (g.map (eI .i64))] (.sl 1 (r.map (eI .i64))):=by
 unfold q5p at n;refine K5 Tryz.func83 O ql ql O<|qg<|qd O<|qx<|qd O<|qc<|qh<|qg<|qd O<|qc<|q9 n fun s bb n=>?_;refine Qt (fun l=>l = s) (fun l=>⟨[(3,.hs 0 1 0 l.length)],[(0,.dat 1 (l.map (eI .i64)))],1⟩) qe ?_ ?_
 ·refine Qm (q3y g) (fun b=>⟨[(0,.d (.sl 1 (g.map (eI .i64)))),(3,.hs 0 1 0 b.2.length),(4,qb b.1)],[(0,.dat 1 (b.2.map (eI .i64)))],1⟩) _ s bb (wkA [] [] [0]) ?_;intro b bk h;unfold q3y at h;refine qh<|qg<|q0 O<|q0 O<|K6 O<|U _ O<|qc ?_;refine qt O h (fun _ h=>?_) (fun _ h=>?_)
  ·refine qu<|qh<|q9 h fun bc a h=>?_;refine Qt (fun m=>m = bc) (fun m=>⟨[(0,.d (.sl 1 (g.map (eI .i64)))),(3,.hs 0 1 0 m.length),(4,qb b.1)],[(0,.dat 1 (m.map (eI .i64)))],1⟩) qe ?_ ?_
   ·refine qg<|q0 O<|U _ O<|qd O<|qc<|qh<|q9 a fun t bd a=>?_;refine Qt (fun o=>o = t) (fun o=>⟨[(0,.d (.sl 1 (g.map (eI .i64)))),(3,.hs 0 1 0 b.2.length),(4,qb b.1),(5,qb o)],[(0,.dat 1 (b.2.map (eI .i64)))],1⟩) qe ?_ ?_
    ·refine Qm (q3z b g) (fun u=>⟨[(0,.d (.sl 1 (g.map (eI .i64)))),(3,.hs 0 1 0 b.2.length),(4,qb b.1),(5,qb u)],[(0,.dat 1 (b.2.map (eI .i64)))],1⟩) _ t bd (wkA [(0,0)] [] []) ?_;intro u bl j;unfold q3z at j;refine qh<|qh<|Qf [q7,q7,q7,q7,q7,q7,qr 0,q7,q7,q7,q7,q7,q7,q7] ql<|q0 O<|U _ O<|q9 j fun be c j=>?_;refine Qi 12 (fun A st=>∃ v x y z aa ab ac ad ae af ag,st = A [(27,qw be),(26,ag),(25,af),(24,ae),(23,ad),(22,ac),(21,ab),(20,aa),(19,z),(18,y),(17,x),(16,v)]) ?_ ?_
     ·refine Qj O O c (fun c=>?_) (fun c=>?_)
      ·refine q0 O<|q0 O<|U _ O<|q9 c fun bm ah c=>qp ah O O<|Q2 _ ah O<|q0 O<|q0 O<|q9 c fun bn bf c=>Qv bf O<|U _ O<|U _ O<|U _ O<|qc ?_;cases c;exact ⟨_,_,_,_,_,_,_,_,_,_,_,O⟩
      refine qa O<|qa O<|qa O<|qa O<|qa O<|qa O<|qa O<|qa O<|qa O<|qa O<|U _ O<|qc ?_;cases c;exact ⟨_,_,_,_,_,_,_,_,_,_,_,O⟩
     rintro _ ⟨v,x,y,z,aa,ab,ac,ad,ae,af,ag,rfl⟩;refine qc ?_;refine qt O j (fun _ j=>?_) (fun _ j=>?_)
     ·refine qu<|Qg<|Q5<|q0 O<|U _ O<|qd O<|Q3<|Qn<|Qc<|⟨_,qs j,wkA [(0,0)] [] []⟩
     refine Qh ?_;refine ⟨_,qs j,fun hm=>?_⟩;subst hm;exact ⟨_,O,wkA [(0,0)] [] []⟩
    intro o hb;subst hb;refine qh<|qh<|Qf [q7,q7,q7,q7,q7,q7,qr 0,q7,q7,q7,q7,q7,q7,q7] ql<|q0 O<|U _ O<|q9 a fun bg f a=>?_;refine Qi 12 (fun A st=>∃ ai aj ak al am an ao ap aq ar au,st = A [(43,qw bg),(42,au),(41,ar),(40,aq),(39,ap),(38,ao),(37,an),(36,am),(35,al),(34,ak),(33,aj),(32,ai)]) ?_ ?_
    ·refine Qj O O f (fun f=>?_) (fun f=>?_)
     ·refine q0 O<|q0 O<|U _ O<|q9 f fun bo av f=>qp av O O<|Q2 _ av O<|q0 O<|q0 O<|q9 f fun bp bh f=>Qv bh O<|U _ O<|U _ O<|U _ O<|qc ?_;cases f;exact ⟨_,_,_,_,_,_,_,_,_,_,_,O⟩
     refine qa O<|qa O<|qa O<|qa O<|qa O<|qa O<|qa O<|qa O<|qa O<|qa O<|U _ O<|qc ?_;cases f;exact ⟨_,_,_,_,_,_,_,_,_,_,_,O⟩
    rintro _ ⟨ai,aj,ak,al,am,an,ao,ap,aq,ar,au,rfl⟩;refine qc ?_;refine qt O a (fun _ a=>?_) (fun _ a=>?_)
    ·refine Qh ?_;obtain rfl:=qv a;exact ⟨_,O,wkA [(0,0)] [] []⟩
    refine qu<|qg<|q0 O<|Qu _ _ O<|q9 a fun p bi a=>Yq _ bi O O O O O O O (Z5 O O) O O O O<|qd O<|qc<|qh<|Qf [Qk 2,q7,q7,q7,q7,q7,q7,q7] ql<|q0 O<|q0 O<|U _ O<|q9 a fun aw q a=>q5n q O O O O O (q53 O) (fun _=>rfl)<|q0 O<|q0 O<|q9 a fun k ax a=>q5n ax O O O O O (q53 O) (fun _=>rfl)<|qkh (w:=aw) (xs:=p) (ys:=(p.drop k.1).take k.2) (enc:=(eI .i64)) (.hs 2 1 k.1 k.2) (q3c q) O O O O O O (qbp (q3c ax) O) O O O O ?_;have ay:=@qbq _ p ((p.drop k.1).take k.2) aw (q3c q);refine qc<|Q5<|q0 O<|q0 O<|q0 O<|q0 O<|q9 a fun az bj a=>Qv bj O<|U _ O<|q9 a fun bq ba a=>qp ba (by simp [ay]) O<|Qp (ds:=[qj az]) az ba O O O O O O O O (leb O) O<|Q3 ?_;obtain rfl:=qv a;exact ⟨_,O,wkE [(0,2)] [] [] O ⟨qk O,⟨_,O,K0 (by simp [ay]) O Q7 (ltd O)⟩,qk O,trivial⟩ ⟨Qo O O,trivial⟩⟩
   intro m hb;subst hb;refine Q5<|q0 O<|U _ O<|qd O<|Q3<|⟨_,qs h,wkA [(0,0)] [] []⟩
  refine Qh ?_;refine ⟨_,qs h,fun hm=>?_⟩;subst hm;exact ⟨_,O,wkA [(0,0)] [] []⟩
 intro l hb;subst hb;refine qg<|q0 O<|qd O<|Qa ?_;obtain rfl:=qv n;exact finD (.inr O) O (Jy O O) (.refl _)
theorem qwj (g : List qi) (r : List qi) (p : q4b g = some r) : Pure Tryz.prog tab 84 [.sl 2 (g.map Q8)] (.sl 2 (r.map Q8)):=by
 unfold q4b at p;refine K5 Tryz.func84 O ql ql O<|qg<|qd O<|qx<|qd O<|qc<|qh<|qg<|qd O<|qc<|q9 p fun s ay p=>?_;refine Qt (fun o=>o = s) (fun o=>⟨[(3,.hs 0 2 0 o.length)],[(0,.dat 2 (o.map Q8))],1⟩) qe ?_ ?_
 ·refine Qm (q4c g) (fun f=>⟨[(0,.d (.sl 2 (g.map Q8))),(3,.hs 0 2 0 f.2.length),(4,qb f.1)],[(0,.dat 2 (f.2.map Q8))],1⟩) _ s ay (wkA [] [] [0]) ?_;intro f bl a;unfold q4c at a;refine qh<|qg<|q0 O<|q0 O<|K6 O<|U _ O<|qc ?_;refine qt O a (fun _ a=>?_) (fun _ a=>?_)
  ·refine qu<|qh<|Qg<|qg<|q0 O<|q0 O<|q9 a fun bm az a=>Qv az O<|U _ O<|Kf O O<|K8 1 _ O<|qx<|qd O<|qc<|qh<|qg<|qd O<|qc<|q9 a fun t ba a=>?_;refine Qt (fun c=>c = t) (fun c=>⟨[(0,.d (.sl 2 (g.map Q8))),(4,qb f.1),(5,.ref 0 2 0 0),(6,.hs 1 2 0 c.2.2.length)],[(0,.dat 2 [[qj c.1,qj c.2.1]]),(1,.dat 2 (c.2.2.map Q8))],2⟩) qe ?_ ?_
   ·refine Qm (q2y f) (fun h=>⟨[(0,.d (.sl 2 (g.map Q8))),(3,.hs 0 2 0 f.2.length),(4,qb f.1),(5,.ref 1 2 0 0),(6,.hs 2 2 0 h.2.2.2.length),(7,qb h.1)],[(0,.dat 2 (f.2.map Q8)),(1,.dat 2 [[qj h.2.1,qj h.2.2.1]]),(2,.dat 2 (h.2.2.2.map Q8))],3⟩) _ t ba (wkA [(0,0),(1,1)] [] [2]) ?_;intro h bn j;unfold q2y at j;refine qh<|qg<|q0 O<|q0 O<|U _ O<|U _ O<|qc ?_;refine qt O j (fun _ j=>?_) (fun _ j=>?_)
    ·refine qu<|qh<|q9 j fun bb b j=>?_;refine Qt (fun l=>l = bb) (fun l=>⟨[(0,.d (.sl 2 (g.map Q8))),(3,.hs 0 2 0 f.2.length),(4,qb f.1),(5,.ref 1 2 0 0),(6,.hs 2 2 0 l.2.2.length),(7,qb h.1)],[(0,.dat 2 (f.2.map Q8)),(1,.dat 2 [[qj l.1,qj l.2.1]]),(2,.dat 2 (l.2.2.map Q8))],3⟩) qe ?_ ?_
     ·refine qh<|qh<|Qf [q7,q7,qr 0,q7,q7,q7,q7,qr 1,q7,q7,q7,qr 1,q7,qr 0,q7,q7,q7,q7] ql<|q0 O<|q0 O<|q9 b fun bo u b=>qp u O O<|U _ O<|Q2 _ u O<|U _ O<|U _ O<|U _ O<|q9 b fun bc m b=>?_;refine Qi 10 (fun A st=>∃ v w x y z aa ab ac ad,st = A [(42,qw bc),(41,ad),(40,ac),(39,ab),(38,aa),(37,z),(36,y),(35,x),(34,w),(33,v)]) ?_ ?_
      ·refine Qj O O m (fun m=>?_) (fun m=>?_)
       ·refine qa O<|qa O<|qa O<|qa O<|qa O<|qa O<|qa O<|qa O<|U _ O<|qc ?_;cases m;exact ⟨_,_,_,_,_,_,_,_,_,O⟩
       refine U _ O<|U _ O<|q0 O<|q0 O<|q9 m fun bp ae m=>qp ae O O<|U _ O<|Q2 _ ae O<|U _ O<|U _ O<|qc ?_;cases m;exact ⟨_,_,_,_,_,_,_,_,_,O⟩
      rintro _ ⟨v,w,x,y,z,aa,ab,ac,ad,rfl⟩;refine qc ?_;refine qt O b (fun _ b=>?_) (fun _ b=>?_)
      ·refine qg<|q0 O<|q0 O<|q0 O<|q9 b fun bq af b=>qp af O O<|Q2 _ af O<|Qu _ _ O<|q9 b fun br bd b=>Yq _ bd O O O O O O O (Z5 O O) O O O O<|qd O<|qc<|Qh ?_;obtain rfl:=qv b;exact ⟨_,O,wkA [(0,0),(1,1),(2,4)] [] []⟩
      refine qu<|Qf [Qk 1,q7,q7,qr 0,q7,q7,q7,q7,qr 1,q7,q7,qr 0,q7,q7,q7,q7,qr 1,q7] ql<|U _ O<|U _ O<|q0 O<|q0 O<|q9 b fun be ag b=>qp ag O O<|U _ O<|Q2 _ ag O<|Zu (r:=min h.2.1 be.Lo) O O (by simp only [Zt];rfl)<|U _ O<|U _ O<|q0 O<|q0 O<|q9 b fun bf ah b=>qp ah O O<|U _ O<|Q2 _ ah O<|Zj (r:=max h.2.2.1 bf.Hi) O O (by simp only [Zi];rfl)<|U _ O<|K8 1 _ O<|Q3 ?_;obtain rfl:=qv b;exact ⟨_,O,wkA [(0,0),(1,1),(2,2)] [] []⟩
     intro l hb;subst hb;refine Q5<|q0 O<|U _ O<|qd O<|Q3<|⟨_,qs j,wkA [(0,0),(1,1),(2,2)] [] []⟩
    refine Qh ?_;refine ⟨_,qs j,fun hm=>?_⟩;subst hm;exact ⟨_,O,wkA [(0,1),(1,2)] [] []⟩
   intro c hb;subst hb;refine qg<|qd O<|qc<|qh<|q9 a fun ai bg a=>?_;refine Qt (fun q=>q = ai) (fun q=>⟨[(0,.d (.sl 2 (g.map Q8))),(4,qb f.1),(5,.ref 0 2 0 0),(6,.hs 1 2 0 c.2.2.length),(8,qb q)],[(0,.dat 2 [[qj c.1,qj c.2.1]]),(1,.dat 2 (c.2.2.map Q8))],2⟩) qe ?_ ?_
   ·refine Qm (q2z c) (fun aj=>⟨[(0,.d (.sl 2 (g.map Q8))),(4,qb f.1),(5,.ref 0 2 0 0),(6,.hs 1 2 0 c.2.2.length),(8,qb aj)],[(0,.dat 2 [[qj c.1,qj c.2.1]]),(1,.dat 2 (c.2.2.map Q8))],2⟩) _ ai bg (wkA [(0,0),(1,1)] [] []) ?_;intro aj bs k;unfold q2z at k;refine qh<|qh<|Qf [q7,q7,qr 0,q7,qr 1,q7,q7,q7,q7,q7,q7,q7,q7,q7] ql<|q0 O<|q0 O<|U _ O<|U _ O<|q9 k fun bh n k=>?_;refine Qi 10 (fun A st=>∃ ak al am an ao ap aq ar au,st = A [(80,qw bh),(79,au),(78,ar),(77,aq),(76,ap),(75,ao),(74,an),(73,am),(72,al),(71,ak)]) ?_ ?_
    ·refine Qj O O n (fun n=>?_) (fun n=>?_)
     ·refine q0 O<|q0 O<|q9 n fun bt av n=>qp av O O<|U _ O<|Q2 _ av O<|U _ O<|U _ O<|U _ O<|U _ O<|qc ?_;cases n;exact ⟨_,_,_,_,_,_,_,_,_,O⟩
     refine qa O<|qa O<|qa O<|qa O<|qa O<|qa O<|qa O<|qa O<|U _ O<|qc ?_;cases n;exact ⟨_,_,_,_,_,_,_,_,_,O⟩
    rintro _ ⟨ak,al,am,an,ao,ap,aq,ar,au,rfl⟩;refine qc ?_;refine qt O k (fun _ k=>?_) (fun _ k=>?_)
    ·refine qu<|Qg<|Q5<|q0 O<|U _ O<|qd O<|Q3<|Qn<|Qc<|⟨_,qs k,wkA [(0,0),(1,1)] [] []⟩
    refine Qh ?_;refine ⟨_,qs k,fun hm=>?_⟩;subst hm;exact ⟨_,O,wkA [(0,0),(1,1)] [] []⟩
   intro q hb;subst hb;refine Qf [q7,(some [1,5],[5,6]),q7,q7,q7,(some [3,4],[3,5]),(some [],[4]),qr 0,(some [1,2],[2,3]),q7,q7,q7,(some [],[2])] ql<|Qu _ _ O<|q0 O<|q0 O<|q9 a fun bu aw a=>q5n aw O O O O O (fun _=>rfl) (q53 O)<|q9 a fun bv bi a=>Yq _ bi O O O O O O O (qbp (q3c aw) O) O O O O<|U _ O<|Qu _ _ O<|q9 a fun bw bj a=>Yq _ bj O O O O O O O (Z5 O O) O O O O<|q0 O<|q0 O<|q9 a fun bx ax a=>q5n ax O O O O O (q53 O) (fun _=>rfl)<|q9 a fun bz bk a=>Yq _ bk O O O O O O O (qbp (q3c ax) O) O O O O<|qd O<|Q3<|Qn<|Q5<|q0 O<|U _ O<|qd O<|Q3<|⟨_,qs a,wkA [(0,6)] [] []⟩
  refine Qh ?_;refine ⟨_,qs a,fun hm=>?_⟩;subst hm;exact ⟨_,O,wkA [(0,0)] [] []⟩
 intro o hb;subst hb;refine qg<|q0 O<|qd O<|Qa ?_;obtain rfl:=qv p;exact finD (.inr O) O (Jy O O) (.refl _)
theorem qle (f : List Qb) (g : Bool) (r : List Ka) (p : q5z f g = some r) : Pure Tryz.prog tab 64 [.sl 4 (f.map Kd),.bool g] (.sl 2 (r.map K4)):=by
 unfold q5z at p;refine K5 Tryz.func64 O ql ql O<|qg<|qd O<|qx<|qd O<|qc<|qh<|qg<|qd O<|qc<|q9 p fun ac cp p=>?_;refine Qt (fun u=>u = ac) (fun u=>⟨[(0,.d (.sl 4 (f.map Kd))),(1,qw g),(5,.hs 0 1 0 u.length)],[(0,.dat 1 (u.map (eI .i64)))],1⟩) qe ?_ ?_
 ·refine Qm (q44 f g) (fun w=>⟨[(0,.d (.sl 4 (f.map Kd))),(1,qw g),(5,.hs 0 1 0 w.2.length),(6,qb w.1)],[(0,.dat 1 (w.2.map (eI .i64)))],1⟩) _ ac cp (wkA [] [] [0]) ?_;intro w fr q;unfold q44 at q;refine qh<|qg<|q0 O<|q0 O<|K6 O<|U _ O<|qc ?_;refine qt O q (fun _ q=>?_) (fun _ q=>?_)
  ·refine qu<|qh<|q9 q fun cq b q=>?_;refine Qt (fun x=>x = cq) (fun x=>⟨[(0,.d (.sl 4 (f.map Kd))),(1,qw g),(5,.hs 0 1 0 x.length),(6,qb w.1)],[(0,.dat 1 (x.map (eI .i64)))],1⟩) qe ?_ ?_
   ·refine qh<|Qf [q7,q7,q7,q7,q7,q7,q7,q7,q7,q7,q7,q7,q7,q7,q7] ql<|q0 O<|q0 O<|q9 b fun fs cr b=>Qv cr O<|U _ O<|U _ O<|U _ O<|q0 O<|q0 O<|q9 b fun ft cs b=>Qv cs O<|U _ O<|U _ O<|U _ O<|U _ O<|q0 O<|U _ O<|qc ?_;refine qt O b (fun _ b=>?_) (fun _ b=>?_)
    ·refine qg<|q0 O<|qc ?_;refine qt O b (fun _ b=>?_) (fun _ b=>?_)
     ·refine Q5<|q0 O<|q0 O<|q0 O<|q9 b fun fu ct b=>Qv ct O<|U _ O<|U _ O<|U _ O<|Qu _ _ O<|q9 b fun fv cu b=>Yq _ cu O O O O O O O (Z5 O O) O O O O<|qd O<|Q3 ?_;obtain rfl:=qv b;exact ⟨_,O,wkA [(0,2)] [] []⟩
     refine Q5<|q0 O<|q0 O<|q0 O<|q9 b fun fw cv b=>Qv cv O<|U _ O<|U _ O<|U _ O<|Qu _ _ O<|q9 b fun fx cw b=>Yq _ cw O O O O O O O (Z5 O O) O O O O<|qd O<|Q3 ?_;obtain rfl:=qv b;exact ⟨_,O,wkA [(0,2)] [] []⟩
    refine qu<|Qc ?_;obtain rfl:=qv b;exact ⟨_,O,wkA [(0,0)] [] []⟩
   intro x hb;subst hb;refine Q5<|q0 O<|U _ O<|qd O<|Q3<|⟨_,qs q,wkA [(0,0)] [] []⟩
  refine Qh ?_;refine ⟨_,qs q,fun hm=>?_⟩;subst hm;exact ⟨_,O,wkA [(0,0)] [] []⟩
 intro u hb;subst hb;refine qh ?_;refine Zv (st':=⟨[(0,.d (.sl 4 (f.map Kd))),(1,qw g),(5,.d (.sl 1 (u.map (eI .i64))))],[],0⟩) (wkA [] [0] []) ?_ qe;refine Q5<|q0 O<|q9 p fun j cx p=>Qs (qw7 u j cx) O<|qd O<|qx<|qd O<|qc<|qh<|qg<|qd O<|qc<|q9 p fun ad cy p=>?_;refine Qt (fun y=>y = ad) (fun y=>⟨[(7,.hs 0 2 0 y.length)],[(0,.dat 2 (y.map K4))],1⟩) qe ?_ ?_
 ·refine Qm (q45 j f g) (fun c=>⟨[(0,.d (.sl 4 (f.map Kd))),(1,qw g),(5,.d (.sl 1 (j.map (eI .i64)))),(7,.hs 0 2 0 c.2.length),(8,qb c.1)],[(0,.dat 2 (c.2.map K4))],1⟩) _ ad cy (wkA [] [] [0]) ?_;intro c fy s;unfold q45 at s;refine qh<|qg<|q0 O<|q0 O<|K6 O<|U _ O<|qc ?_;refine qt O s (fun _ s=>?_) (fun _ s=>?_)
  ·refine qu<|qh<|q9 s fun cz h s=>?_;refine Qt (fun z=>z = cz) (fun z=>⟨[(0,.d (.sl 4 (f.map Kd))),(1,qw g),(5,.d (.sl 1 (j.map (eI .i64)))),(7,.hs 0 2 0 z.length),(8,qb c.1)],[(0,.dat 2 (z.map K4))],1⟩) qe ?_ ?_
   ·refine qh<|qh<|Qf [q7,q7,q7,q7,q7,q7,q7,q7,q7,q7,q7,q7,q7,q7] ql<|q0 O<|U _ O<|q9 h fun da k h=>?_;refine Qi 12 (fun A st=>∃ ae af ag ah ai aj ak al am an ao,st = A [(73,qw da),(72,ao),(71,an),(70,am),(69,al),(68,ak),(67,aj),(66,ai),(65,ah),(64,ag),(63,af),(62,ae)]) ?_ ?_
    ·refine Qj O O k (fun k=>?_) (fun k=>?_)
     ·refine q0 O<|q0 O<|q9 k fun fz dc k=>Qv dc O<|U _ O<|q0 O<|q0 O<|U _ O<|q9 k fun ga dd k=>Qv dd O<|U _ O<|U _ O<|U _ O<|qc ?_;cases k;exact ⟨_,_,_,_,_,_,_,_,_,_,_,O⟩
     refine qa O<|qa O<|qa O<|qa O<|qa O<|qa O<|qa O<|qa O<|qa O<|qa O<|U _ O<|qc ?_;cases k;exact ⟨_,_,_,_,_,_,_,_,_,_,_,O⟩
    rintro _ ⟨ae,af,ag,ah,ai,aj,ak,al,am,an,ao,rfl⟩;refine qc ?_;refine qt O h (fun _ h=>?_) (fun _ h=>?_)
    ·refine Qh ?_;obtain rfl:=qv h;exact ⟨_,O,wkA [(0,0)] [] []⟩
    refine qu<|qg<|qd O<|qc<|qh<|qg<|qd O<|qc<|q9 h fun ap de h=>?_;refine Qt (fun v=>v = ap) (fun v=>⟨[(0,.d (.sl 4 (f.map Kd))),(1,qw g),(5,.d (.sl 1 (j.map (eI .i64)))),(7,.hs 0 2 0 c.2.length),(8,qb c.1),(9,.hs 1 2 0 v.length)],[(0,.dat 2 (c.2.map K4)),(1,.dat 2 (v.map Q8))],2⟩) qe ?_ ?_
    ·refine Qm (q46 f g j c) (fun aa=>⟨[(0,.d (.sl 4 (f.map Kd))),(1,qw g),(5,.d (.sl 1 (j.map (eI .i64)))),(7,.hs 0 2 0 c.2.length),(8,qb c.1),(9,.hs 1 2 0 aa.2.length),(10,qb aa.1)],[(0,.dat 2 (c.2.map K4)),(1,.dat 2 (aa.2.map Q8))],2⟩) _ ap de (wkA [(0,0)] [] [1]) ?_;intro aa gb t;unfold q46 at t;refine qh<|qg<|q0 O<|q0 O<|K6 O<|U _ O<|qc ?_;refine qt O t (fun _ t=>?_) (fun _ t=>?_)
     ·refine qu<|qh<|q9 t fun df a t=>?_;refine Qt (fun ab=>ab = df) (fun ab=>⟨[(0,.d (.sl 4 (f.map Kd))),(1,qw g),(5,.d (.sl 1 (j.map (eI .i64)))),(7,.hs 0 2 0 c.2.length),(8,qb c.1),(9,.hs 1 2 0 ab.length),(10,qb aa.1)],[(0,.dat 2 (c.2.map K4)),(1,.dat 2 (ab.map Q8))],2⟩) qe ?_ ?_
      ·refine Qg<|qh<|Qf [q7,q7,q7,q7,q7,q7,q7,q7,q7,q7,q7,q7,q7,q7,q7,q7,q7,q7,q7,q7,q7,q7,q7,q7,q7,q7,q7,q7] ql<|q0 O<|q9 a fun dg l a=>?_;refine Qi 13 (fun A st=>∃ aq ar au av aw ax ay az ba bb bc bd,st = A [(94,qw dg),(93,bd),(92,bc),(91,bb),(90,ba),(89,az),(88,ay),(87,ax),(86,aw),(85,av),(84,au),(83,ar),(82,aq)]) ?_ ?_
       ·refine Qj O O l (fun l=>?_) (fun l=>?_)
        ·refine q0 O<|q0 O<|q9 l fun gc dh l=>Qv dh O<|U _ O<|U _ O<|U _ O<|q0 O<|q0 O<|q9 l fun gd dj l=>Qv dj O<|U _ O<|U _ O<|U _ O<|qc ?_;cases l;exact ⟨_,_,_,_,_,_,_,_,_,_,_,_,O⟩
        refine qa O<|qa O<|qa O<|qa O<|qa O<|qa O<|qa O<|qa O<|qa O<|qa O<|qa O<|U _ O<|qc ?_;cases l;exact ⟨_,_,_,_,_,_,_,_,_,_,_,_,O⟩
       rintro _ ⟨aq,ar,au,av,aw,ax,ay,az,ba,bb,bc,bd,rfl⟩;refine q9 a fun dk m a=>?_;refine Qi 13 (fun A st=>∃ be bf bg bh bi bj bk bl bm bn bo bp,st = A [(107,qw dk),(106,bp),(105,bo),(104,bn),(103,bm),(102,bl),(101,bk),(100,bj),(99,bi),(98,bh),(97,bg),(96,bf),(95,be)]) ?_ ?_
       ·refine Qj O O m (fun m=>?_) (fun m=>?_)
        ·refine q0 O<|q0 O<|q9 m fun ge dl m=>Qv dl O<|U _ O<|U _ O<|U _ O<|q0 O<|q0 O<|q9 m fun gf dm m=>Qv dm O<|U _ O<|U _ O<|U _ O<|qc ?_;cases m;exact ⟨_,_,_,_,_,_,_,_,_,_,_,_,O⟩
        refine qa O<|qa O<|qa O<|qa O<|qa O<|qa O<|qa O<|qa O<|qa O<|qa O<|qa O<|U _ O<|qc ?_;cases m;exact ⟨_,_,_,_,_,_,_,_,_,_,_,_,O⟩
       rintro _ ⟨be,bf,bg,bh,bi,bj,bk,bl,bm,bn,bo,bp,rfl⟩;refine qd O<|qc ?_;refine qt O a (fun _ a=>?_) (fun _ a=>?_)
       ·refine Qf [q7,(some [1,2],[1,3]),(some [],[2]),q7,q7,q7,q7,q7,q7,q7,q7,q7,q7,q7,q7,q7,q7,q7,q7,q7,q7,q7,q7,q7,q7,q7,q7,q7,q7,q7,q7] ql<|q0 O<|q0 O<|q0 O<|q9 a fun dn dp a=>Qv dp O<|U _ O<|U _ O<|U _ O<|q0 O<|q0 O<|q9 a fun dq dr a=>Qv dr O<|U _ O<|U _ O<|U _ O<|Zu (r:=min dn.A.X dq.B.X) O O (by simp only [Zt];rfl)<|q0 O<|q0 O<|q9 a fun ds dt a=>Qv dt O<|U _ O<|U _ O<|U _ O<|q0 O<|q0 O<|q9 a fun du dv a=>Qv dv O<|U _ O<|U _ O<|U _ O<|Zj (r:=max ds.A.X du.B.X) O O (by simp only [Zi];rfl)<|U _ O<|Qu _ _ O<|q9 a fun gg dw a=>Yq _ dw O O O O O O O (Z5 O O) O O O O<|qd O<|Q3<|Qn<|Qc ?_;obtain rfl:=qv a;exact ⟨_,O,wkA [(0,0),(1,3)] [] []⟩
       refine qh<|Qf [q7,q7,q7,q7,q7,q7,q7,q7,q7,q7,q7,q7,q7,q7,q7,q7,q7,q7,q7,q7,q7,q7,q7,q7,q7,q7,q7,q7,q7] ql<|q0 O<|U _ O<|q9 a fun dx n a=>?_;refine Qi 13 (fun A st=>∃ bq br bs bt bu bv bw bx bz ca cb cc,st = A [(153,qw dx),(152,cc),(151,cb),(150,ca),(149,bz),(148,bx),(147,bw),(146,bv),(145,bu),(144,bt),(143,bs),(142,br),(141,bq)]) ?_ ?_
       ·refine Qj O O n (fun n=>?_) (fun n=>?_)
        ·refine q0 O<|q0 O<|q9 n fun gh dy n=>Qv dy O<|U _ O<|U _ O<|U _ O<|q0 O<|q0 O<|q9 n fun gi dz n=>Qv dz O<|U _ O<|U _ O<|U _ O<|qc ?_;cases n;exact ⟨_,_,_,_,_,_,_,_,_,_,_,_,O⟩
        refine qa O<|qa O<|qa O<|qa O<|qa O<|qa O<|qa O<|qa O<|qa O<|qa O<|qa O<|U _ O<|qc ?_;cases n;exact ⟨_,_,_,_,_,_,_,_,_,_,_,_,O⟩
       rintro _ ⟨bq,br,bs,bt,bu,bv,bw,bx,bz,ca,cb,cc,rfl⟩;refine q9 a fun fa o a=>?_;refine Qi 13 (fun A st=>∃ cd ce cf cg ch ci cj ck cl cm cn co,st = A [(166,qw fa),(165,co),(164,cn),(163,cm),(162,cl),(161,ck),(160,cj),(159,ci),(158,ch),(157,cg),(156,cf),(155,ce),(154,cd)]) ?_ ?_
       ·refine Qj O O o (fun o=>?_) (fun o=>?_)
        ·refine q0 O<|q0 O<|q9 o fun gj fb o=>Qv fb O<|U _ O<|U _ O<|U _ O<|q0 O<|q0 O<|q9 o fun gk fc o=>Qv fc O<|U _ O<|U _ O<|U _ O<|qc ?_;cases o;exact ⟨_,_,_,_,_,_,_,_,_,_,_,_,O⟩
        refine qa O<|qa O<|qa O<|qa O<|qa O<|qa O<|qa O<|qa O<|qa O<|qa O<|qa O<|U _ O<|qc ?_;cases o;exact ⟨_,_,_,_,_,_,_,_,_,_,_,_,O⟩
       rintro _ ⟨cd,ce,cf,cg,ch,ci,cj,ck,cl,cm,cn,co,rfl⟩;refine qd O<|qc ?_;refine qt O a (fun _ a=>?_) (fun _ a=>?_)
       ·refine Qf [q7,(some [1,2],[1,3]),(some [],[2]),q7,q7,q7,q7,q7,q7,q7,q7,q7,q7,q7,q7,q7,q7,q7,q7,q7,q7,q7,q7,q7,q7,q7,q7,q7,q7,q7,q7] ql<|q0 O<|q0 O<|q0 O<|q9 a fun fd fe a=>Qv fe O<|U _ O<|U _ O<|U _ O<|q0 O<|q0 O<|q9 a fun ff fg a=>Qv fg O<|U _ O<|U _ O<|U _ O<|Zu (r:=min fd.A.Y ff.B.Y) O O (by simp only [Zt];rfl)<|q0 O<|q0 O<|q9 a fun fh fi a=>Qv fi O<|U _ O<|U _ O<|U _ O<|q0 O<|q0 O<|q9 a fun fj fk a=>Qv fk O<|U _ O<|U _ O<|U _ O<|Zj (r:=max fh.A.Y fj.B.Y) O O (by simp only [Zi];rfl)<|U _ O<|Qu _ _ O<|q9 a fun gl fl a=>Yq _ fl O O O O O O O (Z5 O O) O O O O<|qd O<|Q3<|Qn<|Qc ?_;obtain rfl:=qv a;exact ⟨_,O,wkA [(0,0),(1,3)] [] []⟩
       refine qu<|Qc<|Qn<|Qc ?_;obtain rfl:=qv a;exact ⟨_,O,wkA [(0,0),(1,1)] [] []⟩
      intro ab hb;subst hb;refine Q5<|q0 O<|U _ O<|qd O<|Q3<|⟨_,qs t,wkA [(0,0),(1,1)] [] []⟩
     refine Qh ?_;refine ⟨_,qs t,fun hm=>?_⟩;subst hm;exact ⟨_,O,wkA [(0,0),(1,1)] [] []⟩
    intro v hb;subst hb;refine qh ?_;refine Zv (st':=⟨[(0,.d (.sl 4 (f.map Kd))),(1,qw g),(5,.d (.sl 1 (j.map (eI .i64)))),(7,.hs 0 2 0 c.2.length),(8,qb c.1),(9,.d (.sl 2 (v.map Q8)))],[(0,.dat 2 (c.2.map K4))],1⟩) (wkA [(0,0)] [1] []) ?_ qe;refine Q5<|q0 O<|q9 h fun fm fn h=>Qs (qwj v fm fn) O<|qd O<|qc<|Q5<|q0 O<|q0 O<|q0 O<|q9 h fun gm fo h=>Qv fo O<|U _ O<|q0 O<|U _ O<|Qu _ _ O<|q9 h fun gn fq h=>Yq _ fq O O O O O O O (Z5 O O) O O O O<|qd O<|Q3 ?_;obtain rfl:=qv h;exact ⟨_,O,wkA [(0,2)] [] []⟩
   intro z hb;subst hb;refine Q5<|q0 O<|U _ O<|qd O<|Q3<|⟨_,qs s,wkA [(0,0)] [] []⟩
  refine Qh ?_;refine ⟨_,qs s,fun hm=>?_⟩;subst hm;exact ⟨_,O,wkA [(0,0)] [] []⟩
 intro y hb;subst hb;refine qg<|q0 O<|qd O<|Qa ?_;obtain rfl:=qv p;exact finD (.inr O) O (Jy O O) (.refl _)
theorem qcw (g : List Ka) (j : Int) (h : Int) (r : Bool) (k : q2r g j h = some r) : Pure Tryz.prog tab 87 [.sl 2 (g.map K4),qj j,qj h] (.bool r):=by
 unfold q2r at k;refine K5 Tryz.func87 O ql ql O<|qg<|qd O<|qc<|qh<|qg<|qd O<|qc<|q9 k fun o ad k=>?_;refine Qt (fun m=>.inl m = o) (fun m=>⟨[],[],0⟩) qe ?_ ?_
 ·refine Qm (q2s g j h) (fun l=>⟨[(0,.d (.sl 2 (g.map K4))),(1,qb j),(2,qb h),(7,qb l)],[],0⟩) _ o ad (wkA [] [] []) ?_;intro l ao c;unfold q2s at c;refine qh<|qg<|q0 O<|q0 O<|K6 O<|U _ O<|qc ?_;refine qt O c (fun _ c=>?_) (fun _ c=>?_)
  ·refine qu<|qh<|q9 c fun ae b c=>?_;refine Qt (fun n=>.inl n = ae) (fun n=>⟨[(0,.d (.sl 2 (g.map K4))),(1,qb j),(2,qb h),(7,qb l)],[],0⟩) qe ?_ ?_
   ·refine qh<|qg<|q0 O<|q0 O<|q9 b fun ap af b=>Qv af O<|U _ O<|U _ O<|q0 O<|U _ O<|qc ?_;refine qt O b (fun _ b=>?_) (fun _ b=>?_)
    ·refine Qh ?_;obtain rfl:=qv b;exact ⟨_,O,wkA [] [] []⟩
    refine qu<|qg<|qd O<|qc<|q9 b fun ag ah b=>Qg<|Qm (q2t g l h) (fun p=>⟨[(0,.d (.sl 2 (g.map K4))),(1,qb j),(2,qb h),(7,qb l),(8,qb p)],[],0⟩) _ ag ah (wkA [] [] []) ?_;intro p aq a;unfold q2t at a;refine qh<|qg<|q0 O<|q0 O<|q0 O<|q9 a fun ar ai a=>Qv ai O<|U _ O<|U _ O<|K6 O<|U _ O<|qc ?_;refine qt O a (fun _ a=>?_) (fun _ a=>?_)
    ·refine qu<|qh<|Qg<|qg<|q0 O<|q0 O<|q9 a fun au aj a=>Qv aj O<|U _ O<|U _ O<|q0 O<|q9 a fun av ak a=>Qv ak O<|U _ O<|U _ O<|q0 O<|U _ O<|q9 a fun al f a=>?_;refine Qi 13 (fun A st=>∃ q s t u v w x y z aa ab ac,st = A [(55,qw al),(54,ac),(53,ab),(52,aa),(51,z),(50,y),(49,x),(48,w),(47,v),(46,u),(45,t),(44,s),(43,q)]) ?_ ?_
     ·refine Qj O O f (fun f=>?_) (fun f=>?_)
      ·refine q0 O<|q0 O<|q0 O<|q9 f fun aw am f=>Qv am O<|U _ O<|U _ O<|q0 O<|q9 f fun ax an f=>Qv an O<|U _ O<|U _ O<|U _ O<|U _ O<|qc ?_;cases f;exact ⟨_,_,_,_,_,_,_,_,_,_,_,_,O⟩
      refine qa O<|qa O<|qa O<|qa O<|qa O<|qa O<|qa O<|qa O<|qa O<|qa O<|qa O<|U _ O<|qc ?_;cases f;exact ⟨_,_,_,_,_,_,_,_,_,_,_,_,O⟩
     rintro _ ⟨q,s,t,u,v,w,x,y,z,aa,ab,ac,rfl⟩;refine qc ?_;refine qt O a (fun _ a=>?_) (fun _ a=>?_)
     ·refine qg<|qd O<|Qa ?_;refine ⟨_,qs a,fun hm=>?_⟩;subst hm;obtain rfl:=qv b;refine ⟨_,qs c,fun hm=>?_⟩;subst hm;cases k;exact Qr _ O
     refine qu<|Qc<|Qn<|Q5<|q0 O<|U _ O<|qd O<|Q3<|⟨_,qs a,wkA [] [] []⟩
    refine Qh ?_;refine ⟨_,qs a,fun hm=>?_⟩;subst hm;obtain rfl:=qv b;exact ⟨_,O,wkA [] [] []⟩
   intro n hb;subst hb;refine Q5<|q0 O<|U _ O<|qd O<|Q3<|⟨_,qs c,wkA [] [] []⟩
  refine Qh ?_;refine ⟨_,qs c,fun hm=>?_⟩;subst hm;exact ⟨_,O,wkA [] [] []⟩
 intro m hb;subst hb;refine qg<|qd O<|Qa ?_;cases k;exact Qr _ O
theorem qla (c : List Ka) (d : List Ka) (a : qf) (r : (Bool × Bool × Bool × Bool)) (b : q5r c d a = some r) : Pure Tryz.prog tab 66 [.sl 2 (c.map K4),.sl 2 (d.map K4),.agg (qq a)] (.agg [.bool r.1,.bool r.2.1,.bool r.2.2.1,.bool r.2.2.2]):=by
 unfold q5r at b;refine K5 Tryz.func66 O ql ql O<|qg<|Qu _ _ O<|Kf O O<|qc<|qh<|Qf [Qk 1,q7,q7,q7,qr 0,q7,qr 0,q7,q7,q7,q7,qr 0,q7,qr 0,q7,q7,q7,qr 0,q7,qr 0,q7,q7,q7,qr 0,q7,qr 0,q7,q7] ql<|q0 O<|U _ O<|U _ O<|U _ O<|U _ O<|q9 b fun f g b=>Qs (qcw c a.Y a.X f g) O<|q0 O<|U _ O<|U _ O<|U _ O<|U _ O<|q9 b fun h j b=>Qs (qcw d a.X a.Y h j) O<|q0 O<|U _ O<|U _ O<|U _ O<|U _ O<|U _ O<|q9 b fun k l b=>Qs (qcw c a.Y (w64 (a.X - 1)) k l) O<|q0 O<|U _ O<|U _ O<|U _ O<|U _ O<|U _ O<|q9 b fun m n b=>Qs (qcw d a.X (w64 (a.Y - 1)) m n) O<|U _ O<|K8 1 _ O<|Qa ?_;cases b;exact Qr _ O
theorem qfu (h : List Ka) (j : List Ka) (k : qf) (r : Bool) (b : q20 h j k = some r) : Pure Tryz.prog tab 85 [.sl 2 (h.map K4),.sl 2 (j.map K4),.agg (qq k)] (.bool r):=by
 unfold q20 at b;refine K5 Tryz.func85 O ql ql O<|qg<|Qu _ _ O<|qd O<|qx<|q0 O<|q0 O<|U _ O<|q9 b fun r1 h2 b=>Qs (qla h j k r1 h2) O<|Kf O O<|K8 1 _ O<|qx<|U _ O<|U _ O<|U _ O<|q9 b fun c3 c b=>?_;refine Qi 5 (fun A st=>∃ l m n o,st = A [(20,qw c3),(19,o),(18,n),(17,m),(16,l)]) ?_ ?_
 ·refine Qj O O c (fun c=>?_) (fun c=>?_)
  ·refine qa O<|qa O<|qa O<|U _ O<|qc ?_;cases c;exact ⟨_,_,_,_,O⟩
  refine U _ O<|U _ O<|U _ O<|U _ O<|qc ?_;cases c;exact ⟨_,_,_,_,O⟩
 rintro _ ⟨l,m,n,o,rfl⟩;refine qd O<|qx<|q0 O<|U _ O<|q9 b fun ar a b=>?_;refine Qi 16 (fun A st=>∃ p q s t u v w x y z aa ab ac ad ae,st = A [(38,qw ar),(37,ae),(36,ad),(35,ac),(34,ab),(33,aa),(32,z),(31,y),(30,x),(29,w),(28,v),(27,u),(26,t),(25,s),(24,q),(23,p)]) ?_ ?_
 ·refine Qj O O a (fun a=>?_) (fun a=>?_)
  ·refine U _ O<|U _ O<|q9 a fun au d a=>?_;refine Qi 4 (fun A st=>∃ af ag ah,st = A [(29,qw au),(28,ah),(27,ag),(26,af)]) ?_ ?_
   ·refine Qj O O d (fun d=>?_) (fun d=>?_)
    ·refine qa O<|qa O<|U _ O<|qc ?_;cases d;exact ⟨_,_,_,O⟩
    refine U _ O<|U _ O<|U _ O<|qc ?_;cases d;exact ⟨_,_,_,O⟩
   rintro _ ⟨af,ag,ah,rfl⟩;refine q9 a fun av f a=>?_;refine Qi 4 (fun A st=>∃ ai aj ak,st = A [(33,qw av),(32,ak),(31,aj),(30,ai)]) ?_ ?_
   ·refine Qj O O f (fun f=>?_) (fun f=>?_)
    ·refine qa O<|qa O<|U _ O<|qc ?_;cases f;exact ⟨_,_,_,O⟩
    refine U _ O<|U _ O<|U _ O<|qc ?_;cases f;exact ⟨_,_,_,O⟩
   rintro _ ⟨ai,aj,ak,rfl⟩;refine q9 a fun aw g a=>?_;refine Qi 4 (fun A st=>∃ al am an,st = A [(37,qw aw),(36,an),(35,am),(34,al)]) ?_ ?_
   ·refine Qj O O g (fun g=>?_) (fun g=>?_)
    ·refine qa O<|qa O<|U _ O<|qc ?_;cases g;exact ⟨_,_,_,O⟩
    refine U _ O<|U _ O<|U _ O<|qc ?_;cases g;exact ⟨_,_,_,O⟩
   rintro _ ⟨al,am,an,rfl⟩;refine U _ O<|qc ?_;cases a;exact ⟨_,_,_,_,_,_,_,_,_,_,_,_,_,_,_,O⟩
  refine qa O<|qa O<|qa O<|qa O<|qa O<|qa O<|qa O<|qa O<|qa O<|qa O<|qa O<|qa O<|qa O<|qa O<|U _ O<|qc ?_;cases a;exact ⟨_,_,_,_,_,_,_,_,_,_,_,_,_,_,_,O⟩
 rintro _ ⟨p,q,s,t,u,v,w,x,y,z,aa,ab,ac,ad,ae,rfl⟩;refine qd O<|Qa ?_;cases b;exact Qr _ O
theorem qwd (d : qf) (f : qf) (r : Bool) (c : q5u d f = some r) : Pure Tryz.prog tab 104 [.agg (qq d),.agg (qq f)] (.bool r):=by
 unfold q5u at c;refine K5 Tryz.func104 O ql ql O<|qg<|Qu _ _ O<|Qu _ _ O<|qd O<|qx<|U _ O<|U _ O<|U _ O<|U _ O<|U _ O<|q9 c fun c9 a c=>?_;refine Qi 14 (fun A st=>∃ g h j k l m n o p q s t u,st = A [(23,qw c9),(22,u),(21,t),(20,s),(19,q),(18,p),(17,o),(16,n),(15,m),(14,l),(13,k),(12,j),(11,h),(10,g)]) ?_ ?_
 ·refine Qj O O a (fun a=>?_) (fun a=>?_)
  ·refine qa O<|qa O<|qa O<|qa O<|qa O<|qa O<|qa O<|qa O<|qa O<|qa O<|qa O<|qa O<|U _ O<|qc ?_;cases a;exact ⟨_,_,_,_,_,_,_,_,_,_,_,_,_,O⟩
  refine U _ O<|U _ O<|U _ O<|U _ O<|U _ O<|q9 a fun ac b a=>?_;refine Qi 7 (fun A st=>∃ v w x y z aa,st = A [(22,qw ac),(21,aa),(20,z),(19,y),(18,x),(17,w),(16,v)]) ?_ ?_
  ·refine Qj O O b (fun b=>?_) (fun b=>?_)
   ·refine U _ O<|U _ O<|U _ O<|U _ O<|U _ O<|U _ O<|qc ?_;cases b;exact ⟨_,_,_,_,_,_,O⟩
   refine qa O<|qa O<|qa O<|qa O<|qa O<|U _ O<|qc ?_;cases b;exact ⟨_,_,_,_,_,_,O⟩
  rintro _ ⟨v,w,x,y,z,aa,rfl⟩;refine U _ O<|qc ?_;cases a;exact ⟨_,_,_,_,_,_,_,_,_,_,_,_,_,O⟩
 rintro _ ⟨g,h,j,k,l,m,n,o,p,q,s,t,u,rfl⟩;refine qd O<|Qa ?_;cases c;exact Qr _ O
theorem qfv (f : List qf) (b : qf) (r : List qf) (a : q2w  f b = some r) : K2 Tryz.prog tab 86 [.hs 0 2 0 f.length,.d (.agg [qj ((b).X),qj ((b).Y)])] [(0,.dat 2 (f.map qq))] 1 (.hs 1 2 0 r.length) [(1,.dat 2 (r.map qq))] 2:=by
 unfold q2w at a;refine Ki Tryz.func86 O ql ql O<|qg<|Qu _ _ O<|qd O<|qx<|qd O<|qc<|qh<|q9 a fun n al a=>?_;refine Qt (fun k=>k = n) (fun k=>⟨[(0,.hs 0 2 0 f.length),(3,.ref 1 2 0 0),(5,qb k)],[(0,.dat 2 (f.map qq)),(1,.dat 2 [[qj ((b).X),qj ((b).Y)]])],2⟩) qe ?_ ?_
 ·refine Qm (q2x f b) (fun o=>⟨[(0,.hs 0 2 0 f.length),(3,.ref 1 2 0 0),(5,qb o)],[(0,.dat 2 (f.map qq)),(1,.dat 2 [[qj ((b).X),qj ((b).Y)]])],2⟩) _ n al (wkA [(1,1)] [] []) ?_;intro o au g;unfold q2x at g;refine qh<|qh<|Qf [q7,q7,qr 1,qr 0,q7,q7,q7,q7,q7,q7,q7,q7] ql<|q0 O<|q0 O<|U _ O<|U _ O<|q9 g fun am c g=>?_;refine Qi 8 (fun A st=>∃ p q s t u v x,st = A [(17,qw am),(16,x),(15,v),(14,u),(13,t),(12,s),(11,q),(10,p)]) ?_ ?_
  ·refine Qj O O c (fun c=>?_) (fun c=>?_)
   ·refine q0 O<|q0 O<|q9 c fun an y c=>qp y O O<|Q2 _ y O<|U _ O<|q9 c fun ao ap c=>Qs (qwd an ({X:=(b).X,Y:=(b).Y} : qf) ao ap) O<|U _ O<|qc ?_;cases c;exact ⟨_,_,_,_,_,_,_,O⟩
   refine qa O<|qa O<|qa O<|qa O<|qa O<|qa O<|U _ O<|qc ?_;cases c;exact ⟨_,_,_,_,_,_,_,O⟩
  rintro _ ⟨p,q,s,t,u,v,x,rfl⟩;refine qc ?_;refine qt O g (fun _ g=>?_) (fun _ g=>?_)
  ·refine qu<|Qg<|Q5<|q0 O<|U _ O<|qd O<|Q3<|Qn<|Qc<|⟨_,qs g,wkA [(1,1)] [] []⟩
  refine Qh ?_;refine ⟨_,qs g,fun hm=>?_⟩;subst hm;exact ⟨_,O,wkA [(1,1)] [] []⟩
 intro k hb;subst hb;refine qh<|qh<|Qf [q7,q7,qr 1,qr 0,q7,q7,q7,q7,q7,q7,q7,q7] ql<|q0 O<|q0 O<|U _ O<|U _ O<|q9 a fun aq h a=>?_;refine Qi 8 (fun A st=>∃ z aa ab ac ad ae af,st = A [(31,qw aq),(30,af),(29,ae),(28,ad),(27,ac),(26,ab),(25,aa),(24,z)]) ?_ ?_
 ·refine Qj O O h (fun h=>?_) (fun h=>?_)
  ·refine q0 O<|q0 O<|q9 h fun av ag h=>qp ag O O<|Q2 _ ag O<|U _ O<|U _ O<|U _ O<|qc ?_;cases h;exact ⟨_,_,_,_,_,_,_,O⟩
  refine qa O<|qa O<|qa O<|qa O<|qa O<|qa O<|U _ O<|qc ?_;cases h;exact ⟨_,_,_,_,_,_,_,O⟩
 rintro _ ⟨z,aa,ab,ac,ad,ae,af,rfl⟩;refine qc ?_;refine qt O a (fun _ a=>?_) (fun _ a=>?_)
 ·refine qg<|q0 O<|qd O<|Qa ?_;obtain rfl:=qv a;exact ⟨.inr O,_,O,wkA [(1,0)] [] []⟩
 refine qu<|qg<|q0 O<|U _ O<|Qu _ _ O<|q9 a fun l ar a=>Yq _ ar O O O O O O O (Z5 O O) O O O O<|qd O<|qc<|qh<|Qf [Qk 3,q7,q7,q7,q7,q7,q7,q7] ql<|q0 O<|q0 O<|U _ O<|q9 a fun ah m a=>q5n m O O O O O (q53 O) (fun _=>rfl)<|q0 O<|q0 O<|q9 a fun j ai a=>q5n ai O O O O O (q53 O) (fun _=>rfl)<|qkh (w:=ah) (xs:=l) (ys:=(l.drop j.1).take j.2) (enc:=qq) (.hs 3 2 j.1 j.2) (q3c m) O O O O O O (qbp (q3c ai) O) O O O O ?_;have aj:=@qbq _ l ((l.drop j.1).take j.2) ah (q3c m);refine qx<|q0 O<|q0 O<|U _ O<|q9 a fun aw ak a=>qp ak (by simp [aj]) O<|Qp ({X:=(b).X,Y:=(b).Y} : qf) ak O O O O O O O O (leb O) O<|qx<|q0 O<|qd O<|Qa ?_;obtain rfl:=qv a;exact ⟨.inr O,_,O,wkE [(1,3)] [] [] O ⟨⟨_,O,K0 (by simp [aj]) O Q7 (ltd O)⟩,trivial⟩ ⟨Qo O O,trivial⟩⟩
theorem qwi (b : List Ka) (a : List Ka) (r : List qf) (y : q8c b a = some r) : Pure Tryz.prog tab 65 [.sl 2 (b.map K4),.sl 2 (a.map K4)] (.sl 2 (r.map qq)):=by
 unfold q8c at y;refine K5 Tryz.func65 O ql ql O<|qg<|qd O<|qx<|qd O<|qc<|qh<|qg<|qd O<|qc<|q9 y fun ay bt y=>?_;refine Qt (fun ab=>ab = ay) (fun ab=>⟨[(0,.d (.sl 2 (b.map K4))),(1,.d (.sl 2 (a.map K4))),(5,.hs 0 2 0 ab.length)],[(0,.dat 2 (ab.map qq))],1⟩) qe ?_ ?_
 ·refine Qm (q47 b a) (fun g=>⟨[(0,.d (.sl 2 (b.map K4))),(1,.d (.sl 2 (a.map K4))),(5,.hs 0 2 0 g.2.length),(6,qb g.1)],[(0,.dat 2 (g.2.map qq))],1⟩) _ ay bt (wkA [] [] [0]) ?_;intro g dl s;unfold q47 at s;refine qh<|qg<|q0 O<|q0 O<|K6 O<|U _ O<|qc ?_;refine qt O s (fun _ s=>?_) (fun _ s=>?_)
  ·refine qu<|qh<|q9 s fun bu an s=>?_;refine Qt (fun ac=>ac = bu) (fun ac=>⟨[(0,.d (.sl 2 (b.map K4))),(1,.d (.sl 2 (a.map K4))),(5,.hs 0 2 0 ac.length),(6,qb g.1)],[(0,.dat 2 (ac.map qq))],1⟩) qe ?_ ?_
   ·refine qg<|qd O<|qc<|q9 an fun bv bw an=>Qg<|Qm (q48 b g a) (fun f=>⟨[(0,.d (.sl 2 (b.map K4))),(1,.d (.sl 2 (a.map K4))),(5,.hs 0 2 0 f.2.length),(6,qb g.1),(7,qb f.1)],[(0,.dat 2 (f.2.map qq))],1⟩) _ bv bw (wkA [(0,0)] [] []) ?_;intro f dm m;unfold q48 at m;refine qh<|qg<|q0 O<|q0 O<|q0 O<|q9 m fun dn bx m=>Qv bx O<|U _ O<|U _ O<|K6 O<|U _ O<|qc ?_;refine qt O m (fun _ m=>?_) (fun _ m=>?_)
    ·refine qu<|qh<|q9 m fun bz o m=>?_;refine Qt (fun ad=>ad = bz) (fun ad=>⟨[(0,.d (.sl 2 (b.map K4))),(1,.d (.sl 2 (a.map K4))),(5,.hs 0 2 0 ad.length),(6,qb g.1),(7,qb f.1)],[(0,.dat 2 (ad.map qq))],1⟩) qe ?_ ?_
     ·refine qg<|q0 O<|q0 O<|q9 o fun dp ca o=>Qv ca O<|U _ O<|U _ O<|q0 O<|q9 o fun ao cb o=>Qv cb O<|U _ O<|Kf O O<|K8 1 _ O<|qx<|U _ O<|U _ O<|U _ O<|U _ O<|Qu _ _ O<|qd O<|qc<|qh<|qg<|qd O<|qc<|q9 o fun az cc o=>?_;refine Qt (fun l=>l = az) (fun l=>⟨[(0,.d (.sl 2 (b.map K4))),(1,.d (.sl 2 (a.map K4))),(5,.hs 0 2 0 f.2.length),(6,qb g.1),(7,qb f.1),(9,.hs 1 1 0 l.length)],[(0,.dat 2 (f.2.map qq)),(1,.dat 1 (l.map (eI .i64)))],2⟩) qe ?_ ?_
      ·refine Qm (q49 a ao) (fun ae=>⟨[(0,.d (.sl 2 (b.map K4))),(1,.d (.sl 2 (a.map K4))),(5,.hs 0 2 0 f.2.length),(6,qb g.1),(7,qb f.1),(8,.ref 1 2 0 0),(9,.hs 2 1 0 ae.2.length),(10,qb ae.1)],[(0,.dat 2 (f.2.map qq)),(1,.dat 2 [(Q8 ao)]),(2,.dat 1 (ae.2.map (eI .i64)))],3⟩) _ az cc (wkA [(0,0),(1,1),(2,2)] [] []) ?_;intro ae dq t;unfold q49 at t;refine qh<|qg<|q0 O<|q0 O<|K6 O<|U _ O<|qc ?_;refine qt O t (fun _ t=>?_) (fun _ t=>?_)
       ·refine qu<|qh<|q9 t fun cd h t=>?_;refine Qt (fun af=>af = cd) (fun af=>⟨[(0,.d (.sl 2 (b.map K4))),(1,.d (.sl 2 (a.map K4))),(5,.hs 0 2 0 f.2.length),(6,qb g.1),(7,qb f.1),(8,.ref 1 2 0 0),(9,.hs 2 1 0 af.length),(10,qb ae.1)],[(0,.dat 2 (f.2.map qq)),(1,.dat 2 [(Q8 ao)]),(2,.dat 1 (af.map (eI .i64)))],3⟩) qe ?_ ?_
        ·refine qh<|Qf [q7,q7,qr 1,q7,q7,q7,q7,q7,q7,q7,q7,qr 1,q7,q7,q7,q7,q7,q7] ql<|q0 O<|q0 O<|q9 h fun dr ce h=>Qv ce O<|U _ O<|U _ O<|U _ O<|U _ O<|U _ O<|q9 h fun cf v h=>?_;refine Qi 10 (fun A st=>∃ ba bb bc bd be bf bg bh bi,st = A [(70,qw cf),(69,bi),(68,bh),(67,bg),(66,bf),(65,be),(64,bd),(63,bc),(62,bb),(61,ba)]) ?_ ?_
         ·refine Qj O O v (fun v=>?_) (fun v=>?_)
          ·refine q0 O<|q0 O<|q9 v fun ds cg v=>Qv cg O<|U _ O<|U _ O<|U _ O<|U _ O<|U _ O<|U _ O<|qc ?_;cases v;exact ⟨_,_,_,_,_,_,_,_,_,O⟩
          refine qa O<|qa O<|qa O<|qa O<|qa O<|qa O<|qa O<|qa O<|U _ O<|qc ?_;cases v;exact ⟨_,_,_,_,_,_,_,_,_,O⟩
         rintro _ ⟨ba,bb,bc,bd,be,bf,bg,bh,bi,rfl⟩;refine qc ?_;refine qt O h (fun _ h=>?_) (fun _ h=>?_)
         ·refine Q5<|q0 O<|q0 O<|q0 O<|q9 h fun dt ch h=>Qv ch O<|U _ O<|U _ O<|Qu _ _ O<|q9 h fun du ci h=>Yq _ ci O O O O O O O (Z5 O O) O O O O<|qd O<|Q3 ?_;obtain rfl:=qv h;exact ⟨_,O,wkA [(0,0),(1,1),(2,4)] [] []⟩
         refine qu<|Qc ?_;obtain rfl:=qv h;exact ⟨_,O,wkA [(0,0),(1,1),(2,2)] [] []⟩
        intro af hb;subst hb;refine Q5<|q0 O<|U _ O<|qd O<|Q3<|⟨_,qs t,wkA [(0,0),(1,1),(2,2)] [] []⟩
       refine Qh ?_;refine ⟨_,qs t,fun hm=>?_⟩;subst hm;exact ⟨_,O,wkA [(0,0),(1,2)] [] []⟩
      intro l hb;subst hb;refine qg<|qd O<|qc<|q9 o fun cj ck o=>Qg<|Qm (q2u l b g a) (fun z=>⟨[(0,.d (.sl 2 (b.map K4))),(1,.d (.sl 2 (a.map K4))),(5,.hs 0 2 0 z.2.length),(6,qb g.1),(7,qb f.1),(9,.hs 1 1 0 l.length),(11,qb z.1)],[(0,.dat 2 (z.2.map qq)),(1,.dat 1 (l.map (eI .i64)))],2⟩) _ cj ck (wkA [(0,0),(1,1)] [] []) ?_;intro z dv n;unfold q2u at n;refine qh<|qg<|q0 O<|q0 O<|U _ O<|U _ O<|q9 n fun cl ag n=>?_;refine Qi 5 (fun A st=>∃ bj bk bl bm,st = A [(87,qw cl),(86,bm),(85,bl),(84,bk),(83,bj)]) ?_ ?_
      ·refine Qj O O ag (fun ag=>?_) (fun ag=>?_)
       ·refine q0 O<|U _ O<|U _ O<|U _ O<|qc ?_;cases ag;exact ⟨_,_,_,_,O⟩
       refine qa O<|qa O<|qa O<|U _ O<|qc ?_;cases ag;exact ⟨_,_,_,_,O⟩
      rintro _ ⟨bj,bk,bl,bm,rfl⟩;refine qc ?_;refine qt O n (fun _ n=>?_) (fun _ n=>?_)
      ·refine qu<|qh<|q9 n fun cm j n=>?_;refine Qt (fun ah=>ah = cm) (fun ah=>⟨[(0,.d (.sl 2 (b.map K4))),(1,.d (.sl 2 (a.map K4))),(5,.hs 0 2 0 ah.length),(6,qb g.1),(7,qb f.1),(9,.hs 1 1 0 l.length),(11,qb z.1)],[(0,.dat 2 (ah.map qq)),(1,.dat 1 (l.map (eI .i64)))],2⟩) qe ?_ ?_
       ·refine qh<|Qf [Qk 2,(some [],[2]),q7,q7,q7,q7,q7,q7,qr 1,q7,q7,q7] ql<|q0 O<|q0 O<|q9 j fun ap bn j=>qp bn O O<|Q2 _ bn O<|q0 O<|q0 O<|q9 j fun aq cn j=>Qv cn O<|U _ O<|U _ O<|U _ O<|Kf O O<|K8 2 _ O<|qx<|q0 O<|q0 O<|U _ O<|q9 j fun co cp j=>Qs (qfu b a ({X:=ap,Y:=aq.At} : qf) co cp) O<|qc ?_;refine qt O j (fun _ j=>?_) (fun _ j=>?_)
        ·refine Q5<|q0 O<|U _ O<|q9 j fun ar cq j=>K3 [(0,0)] [(0,0),(1,2),(2,2),(3,1)] _ (.hs 3 2 0 ar.length) 1 [(3,.dat 2 (ar.map qq)),(1,.dat 1 (l.map (eI .i64))),(2,.dat 2 [[qj ap,qj aq.At]])] 4 (qfv z.2 ({X:=ap,Y:=aq.At} : qf) ar cq)<|qd O<|Q3 ?_;obtain rfl:=qv j;exact ⟨_,O,wkA [(0,3),(1,1)] [] []⟩
        refine qu<|Qc ?_;obtain rfl:=qv j;exact ⟨_,O,wkA [(0,0),(1,1)] [] []⟩
       intro ah hb;subst hb;refine Q5<|q0 O<|U _ O<|qd O<|Q3<|⟨_,qs n,wkA [(0,0),(1,1)] [] []⟩
      refine Qh ?_;refine ⟨_,qs n,fun hm=>?_⟩;subst hm;obtain rfl:=qv o;exact ⟨_,O,wkA [(0,0)] [] []⟩
     intro ad hb;subst hb;refine Q5<|q0 O<|U _ O<|qd O<|Q3<|⟨_,qs m,wkA [(0,0)] [] []⟩
    refine Qh ?_;refine ⟨_,qs m,fun hm=>?_⟩;subst hm;obtain rfl:=qv an;exact ⟨_,O,wkA [(0,0)] [] []⟩
   intro ac hb;subst hb;refine Q5<|q0 O<|U _ O<|qd O<|Q3<|⟨_,qs s,wkA [(0,0)] [] []⟩
  refine Qh ?_;refine ⟨_,qs s,fun hm=>?_⟩;subst hm;exact ⟨_,O,wkA [(0,0)] [] []⟩
 intro ab hb;subst hb;refine qh<|qg<|qd O<|qc<|q9 y fun bo cr y=>?_;refine Qt (fun ai=>ai = bo) (fun ai=>⟨[(5,.hs 0 2 0 ai.length)],[(0,.dat 2 (ai.map qq))],1⟩) qe ?_ ?_
 ·refine Qm (q4a a b) (fun p=>⟨[(0,.d (.sl 2 (b.map K4))),(1,.d (.sl 2 (a.map K4))),(5,.hs 0 2 0 p.2.length),(13,qb p.1)],[(0,.dat 2 (p.2.map qq))],1⟩) _ bo cr (wkA [(0,0)] [] []) ?_;intro p dw u;unfold q4a at u;refine qh<|qg<|q0 O<|q0 O<|K6 O<|U _ O<|qc ?_;refine qt O u (fun _ u=>?_) (fun _ u=>?_)
  ·refine qu<|qh<|q9 u fun cs au u=>?_;refine Qt (fun aj=>aj = cs) (fun aj=>⟨[(0,.d (.sl 2 (b.map K4))),(1,.d (.sl 2 (a.map K4))),(5,.hs 0 2 0 aj.length),(13,qb p.1)],[(0,.dat 2 (aj.map qq))],1⟩) qe ?_ ?_
   ·refine qg<|qd O<|qc<|q9 au fun ct cu au=>Qg<|Qm (q2v a p b) (fun w=>⟨[(0,.d (.sl 2 (b.map K4))),(1,.d (.sl 2 (a.map K4))),(5,.hs 0 2 0 w.2.length),(13,qb p.1),(14,qb w.1)],[(0,.dat 2 (w.2.map qq))],1⟩) _ ct cu (wkA [(0,0)] [] []) ?_;intro w dx k;unfold q2v at k;refine qh<|qg<|q0 O<|q0 O<|q0 O<|q9 k fun dy cv k=>Qv cv O<|U _ O<|U _ O<|K6 O<|U _ O<|q9 k fun cw ak k=>?_;refine Qi 5 (fun A st=>∃ bp bq br bs,st = A [(125,qw cw),(124,bs),(123,br),(122,bq),(121,bp)]) ?_ ?_
    ·refine Qj O O ak (fun ak=>?_) (fun ak=>?_)
     ·refine q0 O<|U _ O<|U _ O<|U _ O<|qc ?_;cases ak;exact ⟨_,_,_,_,O⟩
     refine qa O<|qa O<|qa O<|U _ O<|qc ?_;cases ak;exact ⟨_,_,_,_,O⟩
    rintro _ ⟨bp,bq,br,bs,rfl⟩;refine qc ?_;refine qt O k (fun _ k=>?_) (fun _ k=>?_)
    ·refine qu<|qh<|q9 k fun cx c k=>?_;refine Qt (fun al=>al = cx) (fun al=>⟨[(0,.d (.sl 2 (b.map K4))),(1,.d (.sl 2 (a.map K4))),(5,.hs 0 2 0 al.length),(13,qb p.1),(14,qb w.1)],[(0,.dat 2 (al.map qq))],1⟩) qe ?_ ?_
     ·refine qg<|q0 O<|q0 O<|q9 c fun dz cy c=>Qv cy O<|U _ O<|U _ O<|q0 O<|q9 c fun q cz c=>Qv cz O<|U _ O<|Kf O O<|K8 1 _ O<|qc<|qh<|Qf [Qk 3,Qk 2,(some [],[3]),(some [],[2]),q7,qr 1,q7,q7,q7,q7,q7,q7,q7,qr 1,q7,q7,q7,q7,q7,q7] ql<|q0 O<|q0 O<|q9 c fun av da c=>Qv da O<|U _ O<|U _ O<|U _ O<|U _ O<|U _ O<|q0 O<|q0 O<|q9 c fun am dc c=>Qv dc O<|U _ O<|U _ O<|U _ O<|U _ O<|U _ O<|Kf O O<|Kf O O<|K8 2 _ O<|K8 3 _ O<|qc<|qh ?_;refine qg<|q0 O<|q0 O<|U _ O<|q9 c fun dd de c=>Qs (qfu b a ({X:=av.At,Y:=q.Lo} : qf) dd de) O<|qc<|q9 c fun df x c=>?_;refine Y3 (fun aa=>aa = df) (fun aa=>⟨[(0,.d (.sl 2 (b.map K4))),(1,.d (.sl 2 (a.map K4))),(5,.hs 0 2 0 aa.length),(13,qb p.1),(14,qb w.1),(17,.ref 1 2 0 0)],[(0,.dat 2 (aa.map qq)),(1,.dat 2 [[qj am.At,qj q.Hi]])],2⟩) qe ?_ ?_
      ·refine qt O x (fun _ x=>?_) (fun _ x=>?_)
       ·refine Q5<|q0 O<|U _ O<|q9 x fun aw dg x=>K3 [(0,0)] [(0,0),(1,2),(2,2),(3,2),(4,1)] _ (.hs 4 2 0 aw.length) 1 [(4,.dat 2 (aw.map qq)),(1,.dat 2 [(Q8 q)]),(2,.dat 2 [[qj av.At,qj q.Lo]]),(3,.dat 2 [[qj am.At,qj q.Hi]])] 5 (qfv w.2 ({X:=av.At,Y:=q.Lo} : qf) aw dg)<|qd O<|Q3 ?_;obtain rfl:=qv x;exact ⟨_,O,wkA [(0,4),(1,3)] [] []⟩
       refine qu<|Qc ?_;obtain rfl:=qv x;exact ⟨_,O,wkA [(0,0),(1,3)] [] []⟩
      intro aa hb;subst hb;refine qg<|q0 O<|q0 O<|U _ O<|q9 c fun dh dj c=>Qs (qfu b a ({X:=am.At,Y:=q.Hi} : qf) dh dj) O<|qc ?_;refine qt O c (fun _ c=>?_) (fun _ c=>?_)
      ·refine Q5<|q0 O<|U _ O<|q9 c fun ax dk c=>K3 [(0,0)] [(0,0),(1,2),(2,1)] _ (.hs 2 2 0 ax.length) 1 [(2,.dat 2 (ax.map qq)),(1,.dat 2 [[qj am.At,qj q.Hi]])] 3 (qfv aa ({X:=am.At,Y:=q.Hi} : qf) ax dk)<|qd O<|Q3 ?_;obtain rfl:=qv c;exact ⟨_,O,wkA [(0,2)] [] []⟩
      refine qu<|Qc ?_;obtain rfl:=qv c;exact ⟨_,O,wkA [(0,0)] [] []⟩
     intro al hb;subst hb;refine Q5<|q0 O<|U _ O<|qd O<|Q3<|⟨_,qs k,wkA [(0,0)] [] []⟩
    refine Qh ?_;refine ⟨_,qs k,fun hm=>?_⟩;subst hm;obtain rfl:=qv au;exact ⟨_,O,wkA [(0,0)] [] []⟩
   intro aj hb;subst hb;refine Q5<|q0 O<|U _ O<|qd O<|Q3<|⟨_,qs u,wkA [(0,0)] [] []⟩
  refine Qh ?_;refine ⟨_,qs u,fun hm=>?_⟩;subst hm;exact ⟨_,O,wkA [(0,0)] [] []⟩
 intro ai hb;subst hb;refine qg<|q0 O<|qd O<|Qa ?_;obtain rfl:=qv y;exact finD (.inr O) O (Jy O O) (.refl _)
theorem qwf (p0 : List Qb) (r : Qz × Bool) (f : q41 p0 = some r) : Pure Tryz.prog tab 44 [.sl 4 (p0.map Kd)] (.tup [.agg [.sl 2 (r.1.Nodes.map qq),.sl 2 (r.1.Edges.map qy)],.bool r.2]):=by
 unfold q41 at f;refine K5 Tryz.func44 O ql ql O<|qg<|Kf O O<|qd O<|qx<|q0 O<|q9 f fun h h2 f=>Qs (qle p0 true h h2) O<|q0 O<|q9 f fun j h4 f=>Qs (qle p0 false j h4) O<|qd O<|qd O<|qx<|q0 O<|q0 O<|q9 f fun k h6 f=>Qs (qwi h j k h6) O<|U _ O<|Kf O O<|K8 1 _ O<|qc<|qh<|qg<|U _ O<|U _ O<|K6 O<|U _ O<|qc ?_;refine qt O f (fun _ f=>?_) (fun _ f=>?_)
 ·refine qg<|U _ O<|K8 0 _ O<|qd O<|Qa ?_;obtain rfl:=qv f;exact finD (.inr O) O O (Uu (.cons (qhy (.cons (.nil _) (.cons (.nil _) .nil))) (.cons (.refl _) .nil)))
 refine qu<|qh<|qg<|qd O<|qc<|q9 f fun ad aw f=>?_;refine Qt (fun q=>q = ad) (fun q=>⟨[(2,.ref 0 2 0 0),(6,.ref 1 2 0 0)],[(0,.dat 2 [[.nilsl,.nilsl]]),(1,.cel 2 [[.d (.sl 2 (k.map qq)),.hs 2 2 0 q.length]]),(2,.dat 2 (q.map qy))],3⟩) qe ?_ ?_
 ·refine Qm (q42 k h j) (fun c=>⟨[(2,.ref 0 2 0 0),(4,.d (.sl 2 (h.map K4))),(5,.d (.sl 2 (j.map K4))),(6,.ref 1 2 0 0),(7,qb c.1)],[(0,.dat 2 [[.nilsl,.nilsl]]),(1,.cel 2 [[.d (.sl 2 (k.map qq)),.hs 2 2 0 c.2.length]]),(2,.dat 2 (c.2.map qy))],3⟩) _ ad aw (wkA [(0,0),(1,1)] [] [2]) ?_;intro c bm l;unfold q42 at l;refine qh<|qg<|q0 O<|U _ O<|U _ O<|K6 O<|U _ O<|qc ?_;refine qt O l (fun _ l=>?_) (fun _ l=>?_)
  ·refine qu<|qh<|q9 l fun ax b l=>?_;refine Qt (fun s=>s = ax) (fun s=>⟨[(2,.ref 0 2 0 0),(4,.d (.sl 2 (h.map K4))),(5,.d (.sl 2 (j.map K4))),(6,.ref 1 2 0 0),(7,qb c.1)],[(0,.dat 2 [[.nilsl,.nilsl]]),(1,.cel 2 [[.d (.sl 2 (k.map qq)),.hs 2 2 0 s.length]]),(2,.dat 2 (s.map qy))],3⟩) qe ?_ ?_
   ·refine qg<|U _ O<|U _ O<|q0 O<|q9 b fun t ay b=>Qv ay O<|U _ O<|Kf O O<|K8 3 _ O<|qx<|q0 O<|q0 O<|U _ O<|q9 b fun a az b=>Qs (qla h j t a az) O<|Kf O O<|K8 4 _ O<|qx<|qd O<|qd O<|qc<|qh<|qg<|q0 O<|U _ O<|qd O<|qc<|q9 b fun ae ba b=>?_;refine Qt (fun p=>p = ae) (fun p=>⟨[(2,.ref 0 2 0 0),(4,.d (.sl 2 (h.map K4))),(5,.d (.sl 2 (j.map K4))),(6,.ref 1 2 0 0),(7,qb c.1),(9,.ref 2 4 0 0),(10,qb p.1),(11,qb p.2)],[(0,.dat 2 [[.nilsl,.nilsl]]),(1,.cel 2 [[.d (.sl 2 (k.map qq)),.hs 3 2 0 c.2.length]]),(2,.dat 4 [[.bool a.1,.bool a.2.1,.bool a.2.2.1,.bool a.2.2.2]]),(3,.dat 2 (c.2.map qy))],4⟩) qe ?_ ?_
    ·refine Qm (q43 k t) (fun n=>⟨[(2,.ref 0 2 0 0),(4,.d (.sl 2 (h.map K4))),(5,.d (.sl 2 (j.map K4))),(6,.ref 1 2 0 0),(7,qb c.1),(8,.ref 2 2 0 0),(9,.ref 3 4 0 0),(10,qb n.1),(11,qb n.2.1),(12,qb n.2.2)],[(0,.dat 2 [[.nilsl,.nilsl]]),(1,.cel 2 [[.d (.sl 2 (k.map qq)),.hs 4 2 0 c.2.length]]),(2,.dat 2 [(qq t)]),(3,.dat 4 [[.bool a.1,.bool a.2.1,.bool a.2.2.1,.bool a.2.2.2]]),(4,.dat 2 (c.2.map qy))],5⟩) _ ae ba (wkA [(0,0),(1,1),(2,3),(3,4),(4,2)] [] []) ?_;intro n bn m;unfold q43 at m;refine qh<|qg<|q0 O<|U _ O<|U _ O<|K6 O<|U _ O<|qc ?_;refine qt O m (fun _ m=>?_) (fun _ m=>?_)
     ·refine qu<|qh<|q9 m fun bb g m=>?_;refine Qt (fun u=>u = bb) (fun u=>⟨[(2,.ref 0 2 0 0),(4,.d (.sl 2 (h.map K4))),(5,.d (.sl 2 (j.map K4))),(6,.ref 1 2 0 0),(7,qb c.1),(8,.ref 2 2 0 0),(9,.ref 3 4 0 0),(10,qb u.1),(11,qb u.2),(12,qb n.2.2)],[(0,.dat 2 [[.nilsl,.nilsl]]),(1,.cel 2 [[.d (.sl 2 (k.map qq)),.hs 4 2 0 c.2.length]]),(2,.dat 2 [(qq t)]),(3,.dat 4 [[.bool a.1,.bool a.2.1,.bool a.2.2.1,.bool a.2.2.2]]),(4,.dat 2 (c.2.map qy))],5⟩) qe ?_ ?_
      ·refine qg<|U _ O<|U _ O<|q0 O<|q9 g fun bc bd g=>Qv bd O<|U _ O<|Kf O O<|K8 5 _ O<|qc<|qh<|qg<|U _ O<|U _ O<|U _ O<|U _ O<|U _ O<|q9 g fun be v g=>?_;refine Qi 4 (fun A st=>∃ af ag ah,st = A [(65,qw be),(64,ah),(63,ag),(62,af)]) ?_ ?_
       ·refine Qj O O v (fun v=>?_) (fun v=>?_)
        ·refine q0 O<|U _ O<|U _ O<|qc ?_;cases v;exact ⟨_,_,_,O⟩
        refine qa O<|qa O<|U _ O<|qc ?_;cases v;exact ⟨_,_,_,O⟩
       rintro _ ⟨af,ag,ah,rfl⟩;refine qc<|q9 g fun bf w g=>?_;refine Y3 (fun ac=>ac = bf) (fun ac=>⟨[(2,.ref 0 2 0 0),(4,.d (.sl 2 (h.map K4))),(5,.d (.sl 2 (j.map K4))),(6,.ref 1 2 0 0),(7,qb c.1),(8,.ref 2 2 0 0),(9,.ref 3 4 0 0),(10,qb ac),(11,qb n.2.1),(12,qb n.2.2),(13,.ref 4 2 0 0)],[(0,.dat 2 [[.nilsl,.nilsl]]),(1,.cel 2 [[.d (.sl 2 (k.map qq)),.hs 5 2 0 c.2.length]]),(2,.dat 2 [(qq t)]),(3,.dat 4 [[.bool a.1,.bool a.2.1,.bool a.2.2.1,.bool a.2.2.2]]),(4,.dat 2 [(qq bc)]),(5,.dat 2 (c.2.map qy))],6⟩) qe ?_ ?_
       ·refine qt O w (fun _ w=>?_) (fun _ w=>?_)
        ·refine Q5<|q0 O<|qd O<|Q3 ?_;obtain rfl:=qv w;exact ⟨_,O,wkA [(0,0),(1,1),(2,2),(3,3),(4,5),(5,4)] [] []⟩
        refine qu<|Qc ?_;obtain rfl:=qv w;exact ⟨_,O,wkA [(0,0),(1,1),(2,2),(3,3),(4,5),(5,4)] [] []⟩
       intro ac hb;subst hb;refine qg<|U _ O<|U _ O<|U _ O<|U _ O<|U _ O<|q9 g fun bg x g=>?_;refine Qi 4 (fun A st=>∃ ai aj ak,st = A [(75,qw bg),(74,ak),(73,aj),(72,ai)]) ?_ ?_
       ·refine Qj O O x (fun x=>?_) (fun x=>?_)
        ·refine q0 O<|U _ O<|U _ O<|qc ?_;cases x;exact ⟨_,_,_,O⟩
        refine qa O<|qa O<|U _ O<|qc ?_;cases x;exact ⟨_,_,_,O⟩
       rintro _ ⟨ai,aj,ak,rfl⟩;refine qc ?_;refine qt O g (fun _ g=>?_) (fun _ g=>?_)
       ·refine Q5<|q0 O<|qd O<|Q3 ?_;obtain rfl:=qv g;exact ⟨_,O,wkA [(0,0),(1,1),(2,2),(3,3),(4,5)] [] []⟩
       refine qu<|Qc ?_;obtain rfl:=qv g;exact ⟨_,O,wkA [(0,0),(1,1),(2,2),(3,3),(4,5)] [] []⟩
      intro u hb;subst hb;refine Q5<|q0 O<|U _ O<|qd O<|Q3<|⟨_,qs m,wkA [(0,0),(1,1),(2,2),(3,3),(4,4)] [] []⟩
     refine Qh ?_;refine ⟨_,qs m,fun hm=>?_⟩;subst hm;exact ⟨_,O,wkA [(0,0),(1,1),(2,3),(3,4)] [] []⟩
    intro p hb;subst hb;refine qh<|qg<|U _ O<|U _ O<|q9 b fun bh y b=>?_;refine Qi 4 (fun A st=>∃ al am an,st = A [(82,qw bh),(81,an),(80,am),(79,al)]) ?_ ?_
    ·refine Qj O O y (fun y=>?_) (fun y=>?_)
     ·refine q0 O<|U _ O<|U _ O<|qc ?_;cases y;exact ⟨_,_,_,O⟩
     refine qa O<|qa O<|U _ O<|qc ?_;cases y;exact ⟨_,_,_,O⟩
    rintro _ ⟨al,am,an,rfl⟩;refine qc<|q9 b fun bi o b=>?_;refine Y3 (fun z=>z = bi) (fun z=>⟨[(2,.ref 0 2 0 0),(4,.d (.sl 2 (h.map K4))),(5,.d (.sl 2 (j.map K4))),(6,.ref 1 2 0 0),(7,qb c.1),(9,.ref 2 4 0 0),(11,qb p.2)],[(0,.dat 2 [[.nilsl,.nilsl]]),(1,.cel 2 [[.d (.sl 2 (k.map qq)),.hs 3 2 0 z.length]]),(2,.dat 4 [[.bool a.1,.bool a.2.1,.bool a.2.2.1,.bool a.2.2.2]]),(3,.dat 2 (z.map qy))],4⟩) qe ?_ ?_
    ·refine qt O o (fun _ o=>?_) (fun _ o=>?_)
     ·refine Q5<|U _ O<|U _ O<|q0 O<|q0 O<|U _ O<|Qu _ _ O<|q9 o fun bo bj o=>Yq _ bj O O O O O O O (Z5 O O) O O O O<|U _ O<|K8 1 _ O<|Q3 ?_;obtain rfl:=qv o;exact ⟨_,O,wkA [(0,0),(1,1),(2,2),(3,5)] [] []⟩
     refine qu<|Qc ?_;obtain rfl:=qv o;exact ⟨_,O,wkA [(0,0),(1,1),(2,2),(3,3)] [] []⟩
    intro z hb;subst hb;refine qg<|U _ O<|U _ O<|q9 b fun bk aa b=>?_;refine Qi 4 (fun A st=>∃ ao ap aq,st = A [(96,qw bk),(95,aq),(94,ap),(93,ao)]) ?_ ?_
    ·refine Qj O O aa (fun aa=>?_) (fun aa=>?_)
     ·refine q0 O<|U _ O<|U _ O<|qc ?_;cases aa;exact ⟨_,_,_,O⟩
     refine qa O<|qa O<|U _ O<|qc ?_;cases aa;exact ⟨_,_,_,O⟩
    rintro _ ⟨ao,ap,aq,rfl⟩;refine qc ?_;refine qt O b (fun _ b=>?_) (fun _ b=>?_)
    ·refine Q5<|U _ O<|U _ O<|q0 O<|q0 O<|U _ O<|Qu _ _ O<|q9 b fun bp bl b=>Yq _ bl O O O O O O O (Z5 O O) O O O O<|U _ O<|K8 1 _ O<|Q3 ?_;obtain rfl:=qv b;exact ⟨_,O,wkA [(0,0),(1,1),(2,5)] [] []⟩
    refine qu<|Qc ?_;obtain rfl:=qv b;exact ⟨_,O,wkA [(0,0),(1,1),(2,3)] [] []⟩
   intro s hb;subst hb;refine Q5<|q0 O<|U _ O<|qd O<|Q3<|⟨_,qs l,wkA [(0,0),(1,1),(2,2)] [] []⟩
  refine Qh ?_;refine ⟨_,qs l,fun hm=>?_⟩;subst hm;exact ⟨_,O,wkA [(0,0),(1,1),(2,2)] [] []⟩
 intro q hb;subst hb;refine qh<|Qf [q7,Qk 0,q7,q7,qr 1,q7,qr 1] ql<|U _ O<|U _ O<|U _ O<|U _ O<|U _ O<|K8 0 _ O<|qd O<|Qa ?_;obtain rfl:=qv f;exact finD (.inr O) O (qdc (J3 (qmu (J3 O (J3 (Jy O O) O))) (J3 O O))) (.refl _)
theorem qlc (d : Qz) (f : Qz) (r : Bool) (a : q5v d f = some r) : Pure Tryz.prog tab 22 [.agg [.sl 2 (d.Nodes.map qq),.sl 2 (d.Edges.map qy)],.agg [.sl 2 (f.Nodes.map qq),.sl 2 (f.Edges.map qy)]] (.bool r):=by
 unfold q5v at a;refine K5 Tryz.func22 O ql ql O<|qg<|Qu _ _ O<|Qu _ _ O<|qd O<|qc<|qh<|qg<|U _ O<|U _ O<|K6 O<|U _ O<|U _ O<|K6 O<|U _ O<|q9 a fun x g a=>?_;refine Qi 9 (fun A st=>∃ k l m n o p q s,st = A [(22,qw x),(21,s),(20,q),(19,p),(18,o),(17,n),(16,m),(15,l),(14,k)]) ?_ ?_
 ·refine Qj O O g (fun g=>?_) (fun g=>?_)
  ·refine qa O<|qa O<|qa O<|qa O<|qa O<|qa O<|qa O<|U _ O<|qc ?_;cases g;exact ⟨_,_,_,_,_,_,_,_,O⟩
  refine U _ O<|U _ O<|K6 O<|U _ O<|U _ O<|K6 O<|U _ O<|U _ O<|qc ?_;cases g;exact ⟨_,_,_,_,_,_,_,_,O⟩
 rintro _ ⟨k,l,m,n,o,p,q,s,rfl⟩;refine qc ?_;refine qt O a (fun _ a=>?_) (fun _ a=>?_)
 ·refine qg<|qd O<|Qa ?_;cases a;exact Qr _ O
 refine qu<|qh<|qg<|qd O<|qc<|q9 a fun t y a=>?_;refine Qt (fun h=>.inl h = t) (fun h=>⟨[(2,.ref 0 2 0 0),(3,.ref 1 2 0 0)],[(0,.dat 2 [[.sl 2 (d.Nodes.map qq),.sl 2 (d.Edges.map qy)]]),(1,.dat 2 [[.sl 2 (f.Nodes.map qq),.sl 2 (f.Edges.map qy)]])],2⟩) qe ?_ ?_
 ·refine Qm (q5w d f) (fun u=>⟨[(2,.ref 0 2 0 0),(3,.ref 1 2 0 0),(5,qb u)],[(0,.dat 2 [[.sl 2 (d.Nodes.map qq),.sl 2 (d.Edges.map qy)]]),(1,.dat 2 [[.sl 2 (f.Nodes.map qq),.sl 2 (f.Edges.map qy)]])],2⟩) _ t y (wkA [(0,0),(1,1)] [] []) ?_;intro u ae b;unfold q5w at b;refine qh<|qg<|q0 O<|U _ O<|U _ O<|K6 O<|U _ O<|qc ?_;refine qt O b (fun _ b=>?_) (fun _ b=>?_)
  ·refine qu<|qh<|Qg<|qh<|Qf [q7,q7,q7,q7,qr 1,q7,q7,q7,q7,qr 0,q7] ql<|U _ O<|U _ O<|q0 O<|q9 b fun af z b=>Qv z O<|U _ O<|U _ O<|U _ O<|q0 O<|q9 b fun ag aa b=>Qv aa O<|U _ O<|U _ O<|qc ?_;refine qt O b (fun _ b=>?_) (fun _ b=>?_)
   ·refine qg<|qd O<|Qa ?_;refine ⟨_,qs b,fun hm=>?_⟩;subst hm;cases a;exact Qr _ O
   refine qu<|Qc<|Qn<|Q5<|q0 O<|U _ O<|qd O<|Q3<|⟨_,qs b,wkA [(0,0),(1,1)] [] []⟩
  refine Qh ?_;refine ⟨_,qs b,fun hm=>?_⟩;subst hm;exact ⟨_,O,wkA [(0,0),(1,1)] [] []⟩
 intro h hb;subst hb;refine qh<|qg<|qd O<|qc<|q9 a fun v ab a=>?_;refine Qt (fun j=>.inl j = v) (fun j=>⟨[],[],0⟩) qe ?_ ?_
 ·refine Qm (q5x d f) (fun w=>⟨[(2,.ref 0 2 0 0),(3,.ref 1 2 0 0),(6,qb w)],[(0,.dat 2 [[.sl 2 (d.Nodes.map qq),.sl 2 (d.Edges.map qy)]]),(1,.dat 2 [[.sl 2 (f.Nodes.map qq),.sl 2 (f.Edges.map qy)]])],2⟩) _ v ab (wkA [(0,0),(1,1)] [] []) ?_;intro w ah c;unfold q5x at c;refine qh<|qg<|q0 O<|U _ O<|U _ O<|K6 O<|U _ O<|qc ?_;refine qt O c (fun _ c=>?_) (fun _ c=>?_)
  ·refine qu<|qh<|Qg<|qh<|Qf [q7,q7,q7,q7,qr 1,q7,q7,q7,q7,qr 0,q7] ql<|U _ O<|U _ O<|q0 O<|q9 c fun ai ac c=>Qv ac O<|U _ O<|U _ O<|U _ O<|q0 O<|q9 c fun aj ad c=>Qv ad O<|U _ O<|U _ O<|qc ?_;refine qt O c (fun _ c=>?_) (fun _ c=>?_)
   ·refine qg<|qd O<|Qa ?_;refine ⟨_,qs c,fun hm=>?_⟩;subst hm;cases a;exact Qr _ O
   refine qu<|Qc<|Qn<|Q5<|q0 O<|U _ O<|qd O<|Q3<|⟨_,qs c,wkA [(0,0),(1,1)] [] []⟩
  refine Qh ?_;refine ⟨_,qs c,fun hm=>?_⟩;subst hm;exact ⟨_,O,wkA [] [] []⟩
 intro j hb;subst hb;refine qg<|qd O<|Qa ?_;cases a;exact Qr _ O
theorem q87 (c : Qz) (r : Int) (a : Uf c = some r) : Pure Tryz.prog tab 20 [.agg [.sl 2 (c.Nodes.map qq),.sl 2 (c.Edges.map qy)]] (qj r):=by
 unfold Uf at a;refine K5 Tryz.func20 O ql ql O<|qg<|Qu _ _ O<|qd O<|qc<|qh<|qg<|U _ O<|U _ O<|K6 O<|U _ O<|q9 a fun t d a=>?_;refine Qi 6 (fun A st=>∃ f g h j k,st = A [(16,qw t),(15,k),(14,j),(13,h),(12,g),(11,f)]) ?_ ?_
 ·refine Qj O O d (fun d=>?_) (fun d=>?_)
  ·refine qa O<|qa O<|qa O<|qa O<|U _ O<|qc ?_;cases d;exact ⟨_,_,_,_,_,O⟩
  refine U _ O<|U _ O<|K6 O<|U _ O<|U _ O<|qc ?_;cases d;exact ⟨_,_,_,_,_,O⟩
 rintro _ ⟨f,g,h,j,k,rfl⟩;refine qc ?_;refine qt O a (fun _ a=>?_) (fun _ a=>?_)
 ·refine qg<|qd O<|Qa ?_;cases a;exact Qr _ O
 refine qu<|qg<|U _ O<|q9 a fun l u a=>Qs (qld c l u) O<|q0 O<|U _ O<|U _ O<|qd O<|qd O<|qc<|qh<|qg<|q0 O<|U _ O<|qc ?_;refine qt O a (fun _ a=>?_) (fun _ a=>?_)
 ·refine qg<|qd O<|Qa ?_;cases a;exact Qr _ O
 refine qu<|qg<|q0 O<|q9 a fun m v a=>Qs (qwf l.1 m v) O<|q0 O<|U _ O<|U _ O<|Kf O O<|K8 1 _ O<|qd O<|qc<|qh<|qg<|q0 O<|U _ O<|q9 a fun w b a=>?_;refine Qi 6 (fun A st=>∃ n o p q s,st = A [(36,qw w),(35,s),(34,q),(33,p),(32,o),(31,n)]) ?_ ?_
 ·refine Qj O O b (fun b=>?_) (fun b=>?_)
  ·refine qa O<|qa O<|qa O<|qa O<|U _ O<|qc ?_;cases b;exact ⟨_,_,_,_,_,O⟩
  refine U _ O<|U _ O<|q9 b fun x y b=>Qs (qlc m.1 c x y) O<|U _ O<|U _ O<|qc ?_;cases b;exact ⟨_,_,_,_,_,O⟩
 rintro _ ⟨n,o,p,q,s,rfl⟩;refine qc ?_;refine qt O a (fun _ a=>?_) (fun _ a=>?_)
 ·refine qg<|qd O<|Qa ?_;cases a;exact Qr _ O
 refine qu<|qg<|qd O<|Qa ?_;cases a;exact Qr _ O
theorem qft (b : Qz) (r : List Qb × Int) (a : q2q b = some r) : Pure Tryz.prog tab 12 [.agg [.sl 2 (b.Nodes.map qq),.sl 2 (b.Edges.map qy)]] (.tup [.sl 4 (r.1.map Kd),qj r.2]):=by
 unfold q2q at a;refine K5 Tryz.func12 O ql ql O<|qg<|Qu _ _ O<|qd O<|qd O<|qc<|qh<|qg<|U _ O<|q9 a fun c d a=>Qs (q87 b c d) O<|U _ O<|qc ?_;refine qt O a (fun _ a=>?_) (fun _ a=>?_)
 ·refine qg<|U _ O<|q9 a fun f g a=>Qs (q87 b f g) O<|qd O<|qd O<|Qa ?_;obtain rfl:=qv a;exact finD (.inr O) O O (Uu (.cons (.nil _) (.cons (.refl _) .nil)))
 refine qu<|qg<|U _ O<|q9 a fun h j a=>Qs (qld b h j) O<|q0 O<|U _ O<|U _ O<|qd O<|qd O<|qx<|q0 O<|qd O<|qd O<|Qa ?_;cases a;exact Qr _ O
theorem qyv (b : List Qb) (f : Qb→Option Bool) (p1F : FuncId) (p1C : List DV) (p1Ok : ∀ (h : Qb) (r : Bool),f h = some r→Pure Tryz.prog tab p1F ([.agg (Kd h)] ++ p1C) (.bool r)) (r : Int) (c : qd3 b f = some r) : Pure Tryz.prog tab 57 [.sl 4 (b.map Kd),.fn p1F p1C] (qj r):=by
 unfold qd3 at c;refine K5 Tryz.func57 O ql ql O<|qg<|qd O<|qc<|qh<|qg<|q0 O<|K6 O<|q0 O<|qc<|q9 c fun j l c=>?_;refine Qt (fun g=>.inl g = j) (fun g=>⟨[],[],0⟩) qe ?_ ?_
 ·refine Qm (q31 b f) (fun k=>⟨[(0,.d (.sl 4 (b.map Kd))),(1,.d (.fn p1F p1C)),(7,qb (b.length : Int)),(8,qb k)],[],0⟩) _ j l (wkA [] [] []) ?_;intro k q a;unfold q31 at a;refine qg<|U _ O<|qc<|qh ?_;refine qt O a (fun _ a=>?_) (fun _ a=>?_)
  ·refine qu<|qh<|Qg<|qg<|q0 O<|qd O<|qx<|q0 O<|q0 O<|q0 O<|q9 a fun m n a=>Qv n O<|U _ O<|q9 a fun o p a=>Kj _ (p1Ok m o p) O O O (.inl O)<|qc ?_;refine qt O a (fun _ a=>?_) (fun _ a=>?_)
   ·refine qg<|q0 O<|qd O<|Qa ?_;refine ⟨_,qs a,fun hm=>?_⟩;subst hm;cases c;exact Qr _ O
   refine qu<|Qc<|Qn<|Q5<|U _ O<|q0 O<|Q3<|⟨_,qs a,wkA [] [] []⟩
  refine Qh ?_;refine ⟨_,qs a,fun hm=>?_⟩;subst hm;exact ⟨_,O,wkA [] [] []⟩
 intro g hb;subst hb;refine qg<|qd O<|Qa ?_;cases c;exact Qr _ O
theorem qys (b : List Qb) (c : Qb→Option Bool) (p1F : FuncId) (p1C : List DV) (p1Ok : ∀ (d : Qb) (r : Bool),c d = some r→Pure Tryz.prog tab p1F ([.agg (Kd d)] ++ p1C) (.bool r)) (r : Bool) (a : q65 b c = some r) : Pure Tryz.prog tab 38 [.sl 4 (b.map Kd),.fn p1F p1C] (.bool r):=by
 unfold q65 at a;refine K5 Tryz.func38 O ql ql O<|qg<|qd O<|qx<|q0 O<|q0 O<|q9 a fun f g a=>Qs (qyv b c p1F p1C p1Ok f g) O<|U _ O<|qd O<|Qa ?_;cases a;exact Qr _ O
theorem q10q (a : Qb) (g : qf) (r : Bool) (b : q71 a g = some r) : Pure Tryz.prog tab 40 [.agg (Kd a),.agg (qq g)] (.bool r):=by
 unfold q71 at b;refine K5 Tryz.func40 O ql ql O<|qg<|Qu _ _ O<|Qu _ _ O<|qd O<|qx<|U _ O<|U _ O<|U _ O<|U _ O<|U _ O<|U _ O<|Zu (r:=min a.A.X a.B.X) O O (by simp only [Zt];rfl)<|U _ O<|U _ O<|U _ O<|q9 b fun c1 c b=>?_;refine Qi 12 (fun A st=>∃ h j k l m n o p q s t,st = A [(26,qw c1),(25,t),(24,s),(23,q),(22,p),(21,o),(20,n),(19,m),(18,l),(17,k),(16,j),(15,h)]) ?_ ?_
 ·refine Qj O O c (fun c=>?_) (fun c=>?_)
  ·refine U _ O<|U _ O<|U _ O<|U _ O<|U _ O<|U _ O<|U _ O<|U _ O<|Zj (r:=max a.A.X a.B.X) O O (by simp only [Zi];rfl)<|U _ O<|U _ O<|qc ?_;cases c;exact ⟨_,_,_,_,_,_,_,_,_,_,_,O⟩
  refine qa O<|qa O<|qa O<|qa O<|qa O<|qa O<|qa O<|qa O<|qa O<|qa O<|U _ O<|qc ?_;cases c;exact ⟨_,_,_,_,_,_,_,_,_,_,_,O⟩
 rintro _ ⟨h,j,k,l,m,n,o,p,q,s,t,rfl⟩;refine q9 b fun ar d b=>?_;refine Qi 12 (fun A st=>∃ u v w x y z aa ab ac ad ae,st = A [(38,qw ar),(37,ae),(36,ad),(35,ac),(34,ab),(33,aa),(32,z),(31,y),(30,x),(29,w),(28,v),(27,u)]) ?_ ?_
 ·refine Qj O O d (fun d=>?_) (fun d=>?_)
  ·refine U _ O<|U _ O<|U _ O<|U _ O<|U _ O<|U _ O<|Zu (r:=min a.A.Y a.B.Y) O O (by simp only [Zt];rfl)<|U _ O<|U _ O<|U _ O<|U _ O<|qc ?_;cases d;exact ⟨_,_,_,_,_,_,_,_,_,_,_,O⟩
  refine qa O<|qa O<|qa O<|qa O<|qa O<|qa O<|qa O<|qa O<|qa O<|qa O<|U _ O<|qc ?_;cases d;exact ⟨_,_,_,_,_,_,_,_,_,_,_,O⟩
 rintro _ ⟨u,v,w,x,y,z,aa,ab,ac,ad,ae,rfl⟩;refine q9 b fun au f b=>?_;refine Qi 12 (fun A st=>∃ af ag ah ai aj ak al am an ao ap,st = A [(50,qw au),(49,ap),(48,ao),(47,an),(46,am),(45,al),(44,ak),(43,aj),(42,ai),(41,ah),(40,ag),(39,af)]) ?_ ?_
 ·refine Qj O O f (fun f=>?_) (fun f=>?_)
  ·refine U _ O<|U _ O<|U _ O<|U _ O<|U _ O<|U _ O<|U _ O<|U _ O<|Zj (r:=max a.A.Y a.B.Y) O O (by simp only [Zi];rfl)<|U _ O<|U _ O<|qc ?_;cases f;exact ⟨_,_,_,_,_,_,_,_,_,_,_,O⟩
  refine qa O<|qa O<|qa O<|qa O<|qa O<|qa O<|qa O<|qa O<|qa O<|qa O<|U _ O<|qc ?_;cases f;exact ⟨_,_,_,_,_,_,_,_,_,_,_,O⟩
 rintro _ ⟨af,ag,ah,ai,aj,ak,al,am,an,ao,ap,rfl⟩;refine qd O<|Qa ?_;cases b;exact Qr _ O
theorem q10l (b : Qb) (c : qf) (r : Bool) (a : qaw b c = some r) : Pure Tryz.prog tab 39 [.agg (Kd b),.box (qq c)] (.bool r):=by
 unfold qaw at a;refine K5 Tryz.func39 O ql ql O<|qg<|Qu _ _ O<|qd O<|qx<|U _ O<|U _ O<|q9 a fun d f a=>Qs (q10q b c d f) O<|qd O<|Qa ?_;cases a;exact Qr _ O
theorem q10m (c : Qz) (b : qf) (r : Bool × Int) (a : qav c b = some r) : Pure Tryz.prog tab 13 [.agg [.sl 2 (c.Nodes.map qq),.sl 2 (c.Edges.map qy)],.agg (qq b)] (.tup [.bool r.1,qj r.2]):=by
 unfold qav at a;refine K5 Tryz.func13 O ql ql O<|qg<|Qu _ _ O<|Qu _ _ O<|qd O<|qd O<|qx<|U _ O<|q9 a fun f h a=>Qs (qda c f h) O<|q0 O<|U _ O<|U _ O<|qd O<|qd O<|qc<|qh<|qg<|q0 O<|U _ O<|qc ?_;refine qt O a (fun _ a=>?_) (fun _ a=>?_)
 ·refine qg<|q0 O<|qd O<|qd O<|Qa ?_;cases a;exact Qr _ O
 refine qu<|qg<|q0 O<|U _ O<|q9 a fun j k a=>q5m [.d (.sl 4 (f.1.map Kd)),.fn 39 [.ref 1 2 0 0]] (qys f.1 (fun g=>qaw g b) 39 [.box (qq b)] (fun g r hr=>q10l g b r hr) j k) O O (Zk O (Zk (qmv (J3 O O)) O)) (.inr O)<|qd O<|qd O<|Qa ?_;cases a;exact Qr _ O
theorem qwg (a : Qb) (g : qf) (r : Bool) (b : qcv a g = some r) : Pure Tryz.prog tab 35 [.agg (Kd a),.agg (qq g)] (.bool r):=by
 unfold qcv at b;refine K5 Tryz.func35 O ql ql O<|qg<|Qu _ _ O<|Qu _ _ O<|qd O<|qx<|U _ O<|U _ O<|U _ O<|U _ O<|U _ O<|U _ O<|U _ O<|U _ O<|Zu (r:=min a.A.X a.B.X) O O (by simp only [Zt];rfl)<|U _ O<|q9 b fun c1 c b=>?_;refine Qi 12 (fun A st=>∃ h j k l m n o p q s t,st = A [(26,qw c1),(25,t),(24,s),(23,q),(22,p),(21,o),(20,n),(19,m),(18,l),(17,k),(16,j),(15,h)]) ?_ ?_
 ·refine Qj O O c (fun c=>?_) (fun c=>?_)
  ·refine U _ O<|U _ O<|U _ O<|U _ O<|U _ O<|U _ O<|U _ O<|U _ O<|Zj (r:=max a.A.X a.B.X) O O (by simp only [Zi];rfl)<|U _ O<|U _ O<|qc ?_;cases c;exact ⟨_,_,_,_,_,_,_,_,_,_,_,O⟩
  refine qa O<|qa O<|qa O<|qa O<|qa O<|qa O<|qa O<|qa O<|qa O<|qa O<|U _ O<|qc ?_;cases c;exact ⟨_,_,_,_,_,_,_,_,_,_,_,O⟩
 rintro _ ⟨h,j,k,l,m,n,o,p,q,s,t,rfl⟩;refine q9 b fun ar d b=>?_;refine Qi 12 (fun A st=>∃ u v w x y z aa ab ac ad ae,st = A [(38,qw ar),(37,ae),(36,ad),(35,ac),(34,ab),(33,aa),(32,z),(31,y),(30,x),(29,w),(28,v),(27,u)]) ?_ ?_
 ·refine Qj O O d (fun d=>?_) (fun d=>?_)
  ·refine U _ O<|U _ O<|U _ O<|U _ O<|U _ O<|U _ O<|U _ O<|U _ O<|Zu (r:=min a.A.Y a.B.Y) O O (by simp only [Zt];rfl)<|U _ O<|U _ O<|qc ?_;cases d;exact ⟨_,_,_,_,_,_,_,_,_,_,_,O⟩
  refine qa O<|qa O<|qa O<|qa O<|qa O<|qa O<|qa O<|qa O<|qa O<|qa O<|U _ O<|qc ?_;cases d;exact ⟨_,_,_,_,_,_,_,_,_,_,_,O⟩
 rintro _ ⟨u,v,w,x,y,z,aa,ab,ac,ad,ae,rfl⟩;refine q9 b fun au f b=>?_;refine Qi 12 (fun A st=>∃ af ag ah ai aj ak al am an ao ap,st = A [(50,qw au),(49,ap),(48,ao),(47,an),(46,am),(45,al),(44,ak),(43,aj),(42,ai),(41,ah),(40,ag),(39,af)]) ?_ ?_
 ·refine Qj O O f (fun f=>?_) (fun f=>?_)
  ·refine U _ O<|U _ O<|U _ O<|U _ O<|U _ O<|U _ O<|U _ O<|U _ O<|Zj (r:=max a.A.Y a.B.Y) O O (by simp only [Zi];rfl)<|U _ O<|U _ O<|qc ?_;cases f;exact ⟨_,_,_,_,_,_,_,_,_,_,_,O⟩
  refine qa O<|qa O<|qa O<|qa O<|qa O<|qa O<|qa O<|qa O<|qa O<|qa O<|U _ O<|qc ?_;cases f;exact ⟨_,_,_,_,_,_,_,_,_,_,_,O⟩
 rintro _ ⟨af,ag,ah,ai,aj,ak,al,am,an,ao,ap,rfl⟩;refine qd O<|Qa ?_;cases b;exact Qr _ O
theorem qwb (f : Qz) (c : qf) (r : Bool × Int) (b : q88 f c = some r) : Pure Tryz.prog tab 14 [.agg [.sl 2 (f.Nodes.map qq),.sl 2 (f.Edges.map qy)],.agg (qq c)] (.tup [.bool r.1,qj r.2]):=by
 unfold q88 at b;refine K5 Tryz.func14 O ql ql O<|qg<|Qu _ _ O<|Qu _ _ O<|qd O<|qd O<|qx<|U _ O<|q9 b fun g l b=>Qs (qft f g l) O<|q0 O<|U _ O<|U _ O<|qd O<|qd O<|qc<|qh<|qg<|q0 O<|U _ O<|qc ?_;refine qt O b (fun _ b=>?_) (fun _ b=>?_)
 ·refine qg<|q0 O<|qd O<|qd O<|Qa ?_;cases b;exact Qr _ O
 refine qu<|qh<|qg<|qd O<|qc<|q9 b fun j m b=>?_;refine Qt (fun h=>.inl h = j) (fun h=>⟨[],[],0⟩) qe ?_ ?_
 ·refine Qm (q1z g c) (fun k=>⟨[(3,.ref 0 2 0 0),(6,.d (.sl 4 (g.1.map Kd))),(8,qb k)],[(0,.dat 2 [(qq c)])],1⟩) _ j m (wkA [(0,1)] [] []) ?_;intro k s a;unfold q1z at a;refine qh<|qg<|q0 O<|q0 O<|K6 O<|U _ O<|qc ?_;refine qt O a (fun _ a=>?_) (fun _ a=>?_)
  ·refine qu<|qh<|Qg<|qh<|Qf [q7,qr 0,q7,q7,q7,q7] ql<|q0 O<|q0 O<|q9 a fun n o a=>Qv o O<|U _ O<|U _ O<|q9 a fun p q a=>Qs (qwg n c p q) O<|qc ?_;refine qt O a (fun _ a=>?_) (fun _ a=>?_)
   ·refine qg<|qd O<|qd O<|Qa ?_;refine ⟨_,qs a,fun hm=>?_⟩;subst hm;cases b;exact Qr _ O
   refine qu<|Qc<|Qn<|Q5<|q0 O<|U _ O<|qd O<|Q3<|⟨_,qs a,wkA [(0,0)] [] []⟩
  refine Qh ?_;refine ⟨_,qs a,fun hm=>?_⟩;subst hm;exact ⟨_,O,wkA [] [] []⟩
 intro h hb;subst hb;refine qg<|qd O<|qd O<|Qa ?_;cases b;exact Qr _ O
theorem q10k (h : Qz) (m : Int) (r : Int × Int) (a : q34 h m = some r) : Pure Tryz.prog tab 15 [.agg [.sl 2 (h.Nodes.map qq),.sl 2 (h.Edges.map qy)],qj m] (.tup [qj r.1,qj r.2]):=by
 unfold q34 at a;refine K5 Tryz.func15 O ql ql O<|qg<|Qu _ _ O<|qd O<|qd O<|qx<|U _ O<|q9 a fun n x a=>Qs (qda h n x) O<|q0 O<|U _ O<|U _ O<|qd O<|qd O<|qc<|qh<|qg<|q0 O<|U _ O<|qc ?_;refine qt O a (fun _ a=>?_) (fun _ a=>?_)
 ·refine qg<|q0 O<|qd O<|qd O<|Qa ?_;cases a;exact Qr _ O
 refine qu<|qh<|qg<|q0 O<|U _ O<|q9 a fun y g a=>?_;refine Qi 7 (fun A st=>∃ o p q s t u,st = A [(27,qw y),(26,u),(25,t),(24,s),(23,q),(22,p),(21,o)]) ?_ ?_
 ·refine Qj O O g (fun g=>?_) (fun g=>?_)
  ·refine qa O<|qa O<|qa O<|qa O<|qa O<|U _ O<|qc ?_;cases g;exact ⟨_,_,_,_,_,_,O⟩
  refine q0 O<|U _ O<|U _ O<|K6 O<|U _ O<|U _ O<|qc ?_;cases g;exact ⟨_,_,_,_,_,_,O⟩
 rintro _ ⟨o,p,q,s,t,u,rfl⟩;refine qc ?_;refine qt O a (fun _ a=>?_) (fun _ a=>?_)
 ·refine qg<|qd O<|qd O<|Qa ?_;cases a;exact Qr _ O
 refine qu<|qg<|qd O<|qc<|qh<|qh<|Qf [q7,q7,q7,q7,q7,qr 0,q7,q7,q7] ql<|q0 O<|q9 a fun v z a=>Qs (qmm n.1 v z) O<|U _ O<|U _ O<|q0 O<|q9 a fun aa ab a=>Qv ab O<|U _ O<|q9 a fun b ac a=>Qs (qgh v aa b ac) O<|q0 O<|qc<|q9 a fun w ad a=>?_;refine Qt (fun j=>j = w) (fun j=>⟨[(8,qb j)],[],0⟩) qe ?_ ?_
 ·refine Qm (q35 b) (fun k=>⟨[(8,qb k.1),(35,.d (.agg [.bool b.1,.bool b.2.1,.bool b.2.2.1,.bool b.2.2.2])),(36,qb k.2)],[],0⟩) _ w ad (wkA [] [] []) ?_;intro k ah c;unfold q35 at c;refine qg<|U _ O<|qc<|qh ?_;refine qt O c (fun _ c=>?_) (fun _ c=>?_)
  ·refine qu<|qh<|q9 c fun ae f c=>?_;refine Qt (fun l=>l = ae) (fun l=>⟨[(8,qb l),(35,.d (.agg [.bool b.1,.bool b.2.1,.bool b.2.2.1,.bool b.2.2.2])),(36,qb k.2)],[],0⟩) qe ?_ ?_
   ·refine qg<|q9 f fun af ag f=>qt9 (enc:=eB) [b.1,b.2.1,b.2.2.1,b.2.2.2] (qw af) ag (fun _=>rfl) O O O O O O<|qd O<|qx<|q0 O<|qc ?_;refine qt O f (fun _ f=>?_) (fun _ f=>?_)
    ·refine Q5<|q0 O<|U _ O<|qd O<|Q3 ?_;obtain rfl:=qv f;exact ⟨_,O,wkA [] [] []⟩
    refine qu<|Qc ?_;obtain rfl:=qv f;exact ⟨_,O,wkA [] [] []⟩
   intro l hb;subst hb;refine Q5<|U _ O<|q0 O<|Q3<|⟨_,qs c,wkA [] [] []⟩
  refine Qh ?_;refine ⟨_,qs c,fun hm=>?_⟩;subst hm;exact ⟨_,O,wkA [] [] []⟩
 intro j hb;subst hb;refine qg<|q0 O<|qd O<|qd O<|Qa ?_;cases a;exact Qr _ O
theorem qwa (b : Qz) (g : Int) (r : Int × Int) (a : q2p b g = some r) : Pure Tryz.prog tab 16 [.agg [.sl 2 (b.Nodes.map qq),.sl 2 (b.Edges.map qy)],qj g] (.tup [qj r.1,qj r.2]):=by
 unfold q2p at a;refine K5 Tryz.func16 O ql ql O<|qg<|Qu _ _ O<|qd O<|qd O<|qc<|qh<|qg<|U _ O<|q9 a fun r1 h2 a=>Qs (q87 b r1 h2) O<|U _ O<|qc ?_;refine qt O a (fun _ a=>?_) (fun _ a=>?_)
 ·refine qg<|U _ O<|q9 a fun r5 h6 a=>Qs (q87 b r5 h6) O<|qd O<|qd O<|Qa ?_;cases a;exact Qr _ O
 refine qu<|qh<|qg<|q0 O<|U _ O<|q9 a fun c7 h a=>?_;refine Qi 7 (fun A st=>∃ m n o p q s,st = A [(21,qw c7),(20,s),(19,q),(18,p),(17,o),(16,n),(15,m)]) ?_ ?_
 ·refine Qj O O h (fun h=>?_) (fun h=>?_)
  ·refine qa O<|qa O<|qa O<|qa O<|qa O<|U _ O<|qc ?_;cases h;exact ⟨_,_,_,_,_,_,O⟩
  refine q0 O<|U _ O<|U _ O<|K6 O<|U _ O<|U _ O<|qc ?_;cases h;exact ⟨_,_,_,_,_,_,O⟩
 rintro _ ⟨m,n,o,p,q,s,rfl⟩;refine qc ?_;refine qt O a (fun _ a=>?_) (fun _ a=>?_)
 ·refine qg<|qd O<|qd O<|Qa ?_;cases a;exact Qr _ O
 refine qu<|qg<|qd O<|qc<|qh<|qg<|qd O<|qc<|q9 a fun t ai a=>?_;refine Qt (fun j=>j = t) (fun j=>⟨[(6,qb j)],[],0⟩) qe ?_ ?_
 ·refine Qm (q40 b g) (fun k=>⟨[(1,qb g),(2,.ref 0 2 0 0),(6,qb k.1),(7,qb k.2)],[(0,.dat 2 [[.sl 2 (b.Nodes.map qq),.sl 2 (b.Edges.map qy)]])],1⟩) _ t ai (wkA [(0,0)] [] []) ?_;intro k an d;unfold q40 at d;refine qh<|qg<|q0 O<|U _ O<|U _ O<|K6 O<|U _ O<|qc ?_;refine qt O d (fun _ d=>?_) (fun _ d=>?_)
  ·refine qu<|qh<|q9 d fun aj c d=>?_;refine Qt (fun l=>l = aj) (fun l=>⟨[(1,qb g),(2,.ref 0 2 0 0),(6,qb l),(7,qb k.2)],[(0,.dat 2 [[.sl 2 (b.Nodes.map qq),.sl 2 (b.Edges.map qy)]])],1⟩) qe ?_ ?_
   ·refine qg<|U _ O<|U _ O<|q0 O<|q9 c fun ao ak c=>Qv ak O<|U _ O<|U _ O<|q0 O<|U _ O<|q9 c fun al f c=>?_;refine Qi 10 (fun A st=>∃ u v w x y z aa ab ac,st = A [(46,qw al),(45,ac),(44,ab),(43,aa),(42,z),(41,y),(40,x),(39,w),(38,v),(37,u)]) ?_ ?_
    ·refine Qj O O f (fun f=>?_) (fun f=>?_)
     ·refine qa O<|qa O<|qa O<|qa O<|qa O<|qa O<|qa O<|qa O<|U _ O<|qc ?_;cases f;exact ⟨_,_,_,_,_,_,_,_,_,O⟩
     refine U _ O<|U _ O<|q0 O<|q9 f fun ap am f=>Qv am O<|U _ O<|U _ O<|q0 O<|U _ O<|U _ O<|qc ?_;cases f;exact ⟨_,_,_,_,_,_,_,_,_,O⟩
    rintro _ ⟨u,v,w,x,y,z,aa,ab,ac,rfl⟩;refine qc ?_;refine qt O c (fun _ c=>?_) (fun _ c=>?_)
    ·refine Q5<|q0 O<|U _ O<|qd O<|Q3 ?_;obtain rfl:=qv c;exact ⟨_,O,wkA [(0,0)] [] []⟩
    refine qu<|Qc ?_;obtain rfl:=qv c;exact ⟨_,O,wkA [(0,0)] [] []⟩
   intro l hb;subst hb;refine Q5<|q0 O<|U _ O<|qd O<|Q3<|⟨_,qs d,wkA [(0,0)] [] []⟩
  refine Qh ?_;refine ⟨_,qs d,fun hm=>?_⟩;subst hm;exact ⟨_,O,wkA [] [] []⟩
 intro j hb;subst hb;refine qg<|q0 O<|qd O<|qd O<|Qa ?_;cases a;exact Qr _ O
end Go.Proofs.YtgkialgkmjnfbaaGreat
