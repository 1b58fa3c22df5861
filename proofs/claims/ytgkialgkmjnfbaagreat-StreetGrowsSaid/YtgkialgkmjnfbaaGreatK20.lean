/- W_Allc -/
import Derived.Test.YtgkialgkmjnfbaaGreatK19
namespace Go.Proofs.YtgkialgkmjnfbaaGreat
open Go Go.Am Go.Sh
set_option maxHeartbeats 8000000
set_option maxRecDepth 100000
theorem q114 (rec : List qm→Int→Int→Int→Option (List qm)) (g : qm→qm→Option Int) (q1F : FuncId) (q1C : List DV) (q1Ok : ∀ (x0 : qm) (x1 : qm) (r : Int),g x0 x1 = some r→Pure Tryz.prog tab q1F ([.agg (Qc x0),.agg (Qc x1)] ++ q1C) (qi r)) (hrec : ∀ (o : List qm) (q : Int) (s : Int) (t : Int) (r : List qm),rec o q s t = some r→K3 Tryz.prog tab 81 [.hs 0 2 0 o.length,qd q,qd s,qd t,.d (.fn q1F q1C)] [(0,.dat 2 (o.map Qc))] 1 (.d (.tup [])) [(0,.dat 2 (r.map Qc))] 1) (o : List qm) (q : Int) (s : Int) (t : Int) (r : List qm) (p : q6y rec g o q s t = some r) : K3 Tryz.prog tab 81 [.hs 0 2 0 o.length,qd q,qd s,qd t,.d (.fn q1F q1C)] [(0,.dat 2 (o.map Qc))] 1 (.d (.tup [])) [(0,.dat 2 (r.map Qc))] 1:=by
 unfold q6y at p;refine Kn Tryz.func81 O ql ql O<|qg<|qf O<|qy<|qf O<|qb<|q9 p fun be bf p=>Qe<|Qm (q6x g rec) (fun b=>⟨[(0,.hs 0 2 0 b.2.2.2.2.2.length),(1,qd b.1),(2,qd b.2.1),(3,qd b.2.2.1),(4,.d (.fn q1F q1C)),(10,Q1 b.2.2.2.1),(11,Q1 b.2.2.2.2.1)],[(0,.dat 2 (b.2.2.2.2.2.map Qc))],1⟩) _ be bf (wkA [] [] []) ?_;intro b cr a;unfold q6x at a;refine Qe<|qg<|q0 O<|q0 O<|U _ O<|qf O<|qb<|qh<|qg<|q0 O<|U _ O<|qb ?_;refine qq O a (fun _ a=>?_) (fun _ a=>?_)
 ·refine qg<|q0 O<|q0 O<|q0 O<|q0 O<|q9 a fun ad bg a=>q9 a fun cs bh a=>?_;have ct:=Kv bh;refine K4 [(0,0)] [(0,0)] _ (.d (.tup [])) 1 [(0,.dat 2 (ad.map Qc))] 1 (q10s g q1F q1C q1Ok b.2.2.2.2.2 b.1 b.2.1 ad bg)<|Qa ?_;refine ⟨_,qr a,fun hm=>?_⟩;subst hm;obtain rfl:=qs p;exact ⟨.inr O,_,O,wkA [] [] []⟩
 refine qu<|qh<|qg<|q0 O<|U _ O<|qb ?_;refine qq O a (fun _ a=>?_) (fun _ a=>?_)
 ·refine qg<|q0 O<|q0 O<|q0 O<|q0 O<|q9 a fun ae bi a=>q9 a fun cu bj a=>?_;have cv:=Kv bj;refine K4 [(0,0)] [(0,0)] _ (.d (.tup [])) 1 [(0,.dat 2 (ae.map Qc))] 1 (q10p g q1F q1C q1Ok b.2.2.2.2.2 b.1 b.2.1 ae bi)<|Qa ?_;refine ⟨_,qr a,fun hm=>?_⟩;subst hm;obtain rfl:=qs p;exact ⟨.inr O,_,O,wkA [] [] []⟩
 refine qu<|qh<|qg<|q0 O<|U _ O<|qb<|q9 a fun bk l a=>?_;refine Y0 (fun c=>c = bk) (fun c=>⟨[(0,.hs 0 2 0 c.2.length),(1,qd b.1),(2,qd b.2.1),(3,qd c.1),(4,.d (.fn q1F q1C)),(10,Q1 b.2.2.2.1),(11,Q1 b.2.2.2.2.1),(12,.d (qi (w64 (b.2.1 - b.1))))],[(0,.dat 2 (c.2.map Qc))],1⟩) qe ?_ ?_
 ·refine qq O l (fun _ l=>?_) (fun _ l=>?_)
  ·refine qg<|q0 O<|q0 O<|q0 O<|q0 O<|q9 l fun af bl l=>q9 l fun cw bm l=>?_;have bn:=Kv bm;refine K4 [(0,0)] [(0,0)] _ (.d (.tup [])) 1 [(0,.dat 2 (af.map Qc))] 1 (q10j g q1F q1C q1Ok b.2.2.2.2.2 b.1 b.2.1 af bl)<|qb<|Q0<|q0 O<|U _ O<|qf O<|qz ?_;obtain rfl:=qs l;exact ⟨_,O,wkE [] [] [] O ⟨⟨_,O,Qy (by simp [bn]) O Q3 (ltd O)⟩,qk O,qk O,qk O,qk O,qk O,qk O,qk O,trivial⟩ ⟨Qo O O,trivial⟩⟩
  refine qu<|Qd ?_;obtain rfl:=qs l;exact ⟨_,O,wkA [] [] []⟩
 intro c hb;subst hb;refine qg<|q0 O<|q0 O<|q0 O<|q0 O<|q9 a fun bo bp a=>q61 [.hs 0 2 0 c.2.length,qd b.1,qd b.2.1,.d (.fn q1F q1C)] (q10m c.2 b.1 b.2.1 g q1F q1C q1Ok bo bp) O O (Zr (Jp O O) (Zr O (Zr O (Zr O O)))) (.inr O)<|q0 O<|U _ O<|U _ O<|qf O<|qf O<|qb<|qh<|qg<|q0 O<|U _ O<|qb<|q9 a fun bq m a=>?_;refine Y0 (fun h=>h = bq) (fun h=>⟨[(0,.hs 0 2 0 h.2.2.length),(1,qd b.1),(2,qd b.2.1),(3,qd c.1),(4,.d (.fn q1F q1C)),(10,Q1 b.2.2.2.1),(11,Q1 b.2.2.2.2.1),(12,.d (qi (w64 (b.2.1 - b.1)))),(13,qd h.1),(14,qd h.2.1)],[(0,.dat 2 (h.2.2.map Qc))],1⟩) qe ?_ ?_
 ·refine qq O m (fun _ m=>?_) (fun _ m=>?_)
  ·refine qg<|q0 O<|q0 O<|q0 O<|q0 O<|q9 m fun ag br m=>q9 m fun cx bs m=>?_;have bt:=Kv bs;refine K4 [(0,0)] [(0,0)] _ (.d (.tup [])) 1 [(0,.dat 2 (ag.map Qc))] 1 (q11a g q1F q1C q1Ok c.2 b.1 b.2.1 ag br)<|qy<|q0 O<|U _ O<|q0 O<|q0 O<|U _ O<|U _ O<|qf O<|qb<|Q0<|qf O<|qz ?_;obtain rfl:=qs m;exact ⟨_,O,wkE [] [] [] O ⟨⟨_,O,Qy (by simp [bt]) O Q3 (ltd O)⟩,qk O,qk O,qk O,qk O,qk O,qk O,qk O,qk O,qk O,trivial⟩ ⟨Qo O O,trivial⟩⟩
  refine qu<|Qd ?_;obtain rfl:=qs m;exact ⟨_,O,wkA [] [] []⟩
 intro h hb;subst hb;refine qh<|qg<|q0 O<|q9 a fun bu u a=>?_;refine Qi 3 (fun A st=>∃ ah ai,st = A [(71,Q1 bu),(70,ai),(69,ah)]) ?_ ?_
 ·refine Qj O O u (fun u=>?_) (fun u=>?_)
  ·refine q0 O<|U _ O<|qb ?_;cases u;exact ⟨_,_,O⟩
  refine qa O<|U _ O<|qb ?_;cases u;exact ⟨_,_,O⟩
 rintro _ ⟨ah,ai,rfl⟩;refine q9 a fun bv v a=>?_;refine Qi 4 (fun A st=>∃ aj ak al,st = A [(75,Q1 bv),(74,al),(73,ak),(72,aj)]) ?_ ?_
 ·refine Qj O O v (fun v=>?_) (fun v=>?_)
  ·refine q0 O<|U _ O<|U _ O<|qb ?_;cases v;exact ⟨_,_,_,O⟩
  refine qa O<|qa O<|U _ O<|qb ?_;cases v;exact ⟨_,_,_,O⟩
 rintro _ ⟨aj,ak,al,rfl⟩;refine qb<|q9 a fun bw f a=>?_;refine Y0 (fun n=>.inl n = bw) (fun n=>⟨[(0,.hs 0 2 0 n.length),(1,qd b.1),(2,qd b.2.1),(3,qd c.1),(4,.d (.fn q1F q1C)),(10,Q1 b.2.2.2.1),(11,Q1 b.2.2.2.2.1),(12,.d (qi (w64 (b.2.1 - b.1)))),(13,qd h.1)],[(0,.dat 2 (n.map Qc))],1⟩) qe ?_ ?_
 ·refine qq O f (fun _ f=>?_) (fun _ f=>?_)
  ·refine qg<|q0 O<|q0 O<|q0 O<|q0 O<|q9 f fun x bx f=>q9 f fun cy bz f=>?_;have ca:=Kv bz;refine K4 [(0,0)] [(0,0)] _ (Q1 x.1) 1 [(0,.dat 2 (x.2.map Qc))] 1 (q10v g q1F q1C q1Ok h.2.2 b.1 b.2.1 x bx)<|qb ?_;refine qq O f (fun _ f=>?_) (fun _ f=>?_)
   ·refine q1o ?_;obtain rfl:=qs f;refine ⟨_,qr a,fun hm=>?_⟩;subst hm;obtain rfl:=qs p;exact ⟨.inr O,_,O,wkA [] [] []⟩
   refine qu<|Qd ?_;obtain rfl:=qs f;exact ⟨_,O,wkE [] [] [] O ⟨⟨_,O,Qy (by simp [ca]) O Q3 (ltd O)⟩,qk O,qk O,qk O,qk O,qk O,qk O,qk O,qk O,trivial⟩ ⟨Qo O O,trivial⟩⟩
  refine qu<|Qd ?_;obtain rfl:=qs f;exact ⟨_,O,wkA [] [] []⟩
 intro n hb;subst hb;refine qh<|qh<|Qf [q7,q7,q7,q7,qv 0,q7,q7,q7,qv 0,q7,q7,q7,q7,q7,q7,q7,q7] ql<|q0 O<|U _ O<|q9 a fun cb j a=>?_;refine Qi 15 (fun A st=>∃ am an ao ap aq ar au av aw ax ay az ba bb,st = A [(97,Q1 cb),(96,bb),(95,ba),(94,az),(93,ay),(92,ax),(91,aw),(90,av),(89,au),(88,ar),(87,aq),(86,ap),(85,ao),(84,an),(83,am)]) ?_ ?_
 ·refine Qj O O j (fun j=>?_) (fun j=>?_)
  ·refine q0 O<|q0 O<|q0 O<|U _ O<|q9 j fun cc bc j=>qp bc O O<|Q2 _ bc O<|q0 O<|q0 O<|q9 j fun cd bd j=>qp bd O O<|Q2 _ bd O<|q9 j fun ce cf j=>Kr _ (q1Ok cc cd ce cf) O O O (.inl O)<|U _ O<|U _ O<|U _ O<|qb ?_;cases j;exact ⟨_,_,_,_,_,_,_,_,_,_,_,_,_,_,O⟩
  refine qa O<|qa O<|qa O<|qa O<|qa O<|qa O<|qa O<|qa O<|qa O<|qa O<|qa O<|qa O<|qa O<|U _ O<|qb ?_;cases j;exact ⟨_,_,_,_,_,_,_,_,_,_,_,_,_,_,O⟩
 rintro _ ⟨am,an,ao,ap,aq,ar,au,av,aw,ax,ay,az,ba,bb,rfl⟩;refine qb ?_;refine qq O a (fun _ a=>?_) (fun _ a=>?_)
 ·refine qg<|q0 O<|q0 O<|q0 O<|q0 O<|q0 O<|q9 a fun y cg a=>q9 a fun cz ch a=>?_;have ci:=Kv ch;refine K4 [(0,0)] [(0,0)] _ (qd y.1) 1 [(0,.dat 2 (y.2.map Qc))] 1 (q111 g q1F q1C q1Ok n b.1 b.2.1 h.1 y cg)<|qf O<|qy<|q0 O<|qf O<|qb<|Qh<|q7n<|Qd<|⟨_,qr a,wkE [] [] [] O ⟨⟨_,O,Qy (by simp [ci]) O Q3 (ltd O)⟩,qk O,qk O,qk O,qk O,qk O,qk O,trivial⟩ ⟨Qo O O,trivial⟩⟩
 refine qu<|qg<|q0 O<|q0 O<|q0 O<|q0 O<|q0 O<|q9 a fun k cj a=>q9 a fun da ck a=>?_;have w:=Kv ck;refine K4 [(0,0)] [(0,0)] _ (.d (.tup [qi k.1,.bool k.2.1])) 1 [(0,.dat 2 (k.2.2.map Qc))] 1 (q10y g q1F q1C q1Ok n b.1 b.2.1 h.1 k cj)<|q0 O<|U _ O<|U _ O<|qf O<|qf O<|qy<|q0 O<|qf O<|qy<|q0 O<|q0 O<|U _ O<|q0 O<|q0 O<|U _ O<|qf O<|qf O<|qy<|q0 O<|U _ O<|qf O<|qy<|q0 O<|q0 O<|U _ O<|qb ?_;refine qq O a (fun _ a=>?_) (fun _ a=>?_)
 ·refine qg<|q0 O<|q0 O<|U _ O<|qf O<|qy<|q0 O<|q0 O<|q0 O<|q0 O<|q0 O<|q9 a fun z cl a=>q9 a fun dc cm a=>?_;have cn:=Kv cm;refine Ur [(0,0)] [(0,0)] [.hs 0 2 0 n.length,qd b.1,qd k.1,qd c.1,.d (.fn q1F q1C)] (.d (.tup [])) [(0,.dat 2 (z.map Qc))] [(0,.dat 2 (z.map Qc))] 1 (hrec k.2.2 b.1 k.1 c.1 z cl) O O O (Z4 [(0,0)] [] [] O ⟨⟨_,O,Qy (by simp [w]) O Q3 (ltd O)⟩,qk O,qk O,qk O,qk O,trivial⟩ ⟨Qo O O,trivial⟩) (Z4 [(0,0)] [] [] O ⟨qk O,trivial⟩ ⟨Qo O O,trivial⟩) O ⟨.inl O,trivial⟩<|qb<|Q0<|q0 O<|U _ O<|qf O<|qz<|Ql<|Qd<|⟨_,qr a,wkE [] [] [] O ⟨⟨_,O,Qy (by simp [w,cn]) O Q3 (ltd O)⟩,qk O,qk O,qk O,qk O,qk O,qk O,trivial⟩ ⟨Qo O O,trivial⟩⟩
 refine qg<|q0 O<|q0 O<|U _ O<|qf O<|qy<|q0 O<|q0 O<|U _ O<|q0 O<|q0 O<|q0 O<|q9 a fun aa co a=>q9 a fun dd cp a=>?_;have cq:=Kv cp;refine Ur [(0,0)] [(0,0)] [.hs 0 2 0 n.length,.d (qi (w64 (k.1 + 1))),qd b.2.1,qd c.1,.d (.fn q1F q1C)] (.d (.tup [])) [(0,.dat 2 (aa.map Qc))] [(0,.dat 2 (aa.map Qc))] 1 (hrec k.2.2 (w64 (k.1 + 1)) b.2.1 c.1 aa co) O O O (Z4 [(0,0)] [] [] O ⟨⟨_,O,Qy (by simp [w]) O Q3 (ltd O)⟩,qk O,qk O,qk O,qk O,trivial⟩ ⟨Qo O O,trivial⟩) (Z4 [(0,0)] [] [] O ⟨qk O,trivial⟩ ⟨Qo O O,trivial⟩) O ⟨.inl O,trivial⟩<|qb<|Q0<|q0 O<|qf O<|qz<|Ql<|Qd<|⟨_,qr a,wkE [] [] [] O ⟨⟨_,O,Qy (by simp [w,cq]) O Q3 (ltd O)⟩,qk O,qk O,qk O,qk O,qk O,qk O,trivial⟩ ⟨Qo O O,trivial⟩⟩
theorem q115 (n : Nat) (g : qm→qm→Option Int) (q1F : FuncId) (q1C : List DV) (q1Ok : ∀ (j : qm) (k : qm) (r : Int),g j k = some r→Pure Tryz.prog tab q1F ([.agg (Qc j),.agg (Qc k)] ++ q1C) (qi r)) : ∀ (a : List qm) (b : Int) (c : Int) (f : Int) (r : List qm),q6w n g a b c f = some r→K3 Tryz.prog tab 81 [.hs 0 2 0 a.length,qd b,qd c,qd f,.d (.fn q1F q1C)] [(0,.dat 2 (a.map Qc))] 1 (.d (.tup [])) [(0,.dat 2 (r.map Qc))] 1:=by
 induction n with
 | zero=>intro a b c f r h;cases h
 | succ n ih=>intro a b c f r h;exact q114 (q6w n g) g q1F q1C q1Ok ih a b c f r h
theorem q10f (c : qm→qm→Option Int) (q1F : FuncId) (q1C : List DV) (q1Ok : ∀ (g : qm) (h : qm) (r : Int),c g h = some r→Pure Tryz.prog tab q1F ([.agg (Qc g),.agg (Qc h)] ++ q1C) (qi r)) (b : List qm) (r : List qm) (a : q4r c b = some r) : K3 Tryz.prog tab 61 [.hs 0 2 0 b.length,.d (.fn q1F q1C)] [(0,.dat 2 (b.map Qc))] 1 (.d (.tup [])) [(0,.dat 2 (r.map Qc))] 1:=by
 unfold q4r at a;refine Kn Tryz.func61 O ql ql O<|qg<|q0 O<|U _ O<|qf O<|qb<|Q0<|q0 O<|q0 O<|q0 O<|U _ O<|q9 a fun j l a=>Qw (qd4 (IntKind.wrap .u64 (b.length : Int)) j l) O<|q0 O<|q9 a fun k f a=>q9 a fun o m a=>?_;have p:=Kv m;obtain ⟨n,f⟩:=qcz f;refine K4 [(0,0)] [(0,0)] _ (.d (.tup [])) 1 [(0,.dat 2 (k.map Qc))] 1 (q115 n c q1F q1C q1Ok b 0 (b.length : Int) j k f)<|qz ?_;obtain rfl:=qs a;exact ⟨.inl O,_,O,wkA [] [] []⟩
theorem q126 (s : List Q6) (r : K5 × Bool) (f : q54 s = some r) : Pure Tryz.prog tab 43 [.sl 4 (s.map Kc)] (.tup [.agg [.sl 2 (r.1.Nodes.map qt),.sl 2 (r.1.Edges.map Qc)],.bool r.2]):=by
 unfold q54 at f;refine Ka Tryz.func43 O ql ql O<|qg<|K8 O O<|qf O<|qy<|q0 O<|q9 f fun g y f=>Qw (q124 s g y) O<|K8 O O<|Qr 1 (.dat 2 [[.mp (mrow (fun n : Int=>DV.int .i64 n) (fun l : List qj=>DV.sl 2 (l.map Q8)) g.rows_),.mp (mrow (fun n : Int=>DV.int .i64 n) (fun l : List qj=>DV.sl 2 (l.map Q8)) g.columns_)]]) O<|qy<|U (.d (.agg [.mp (mrow (fun n : Int=>DV.int .i64 n) (fun l : List qj=>DV.sl 2 (l.map Q8)) g.rows_),.mp (mrow (fun n : Int=>DV.int .i64 n) (fun l : List qj=>DV.sl 2 (l.map Q8)) g.columns_)])) O<|q9 f fun c z f=>Qw (q128 g c z) O<|q0 O<|U (.d (.sl 2 (c.1.map qt))) O<|U (Q1 c.2) O<|qf O<|qf O<|qb<|qh<|qg<|q0 O<|U (Q1 (!c.2)) O<|qb ?_;refine qq O f (fun _ f=>?_) (fun _ f=>?_)
 ·refine qg<|U (.d (.agg [.nilsl,.nilsl])) O<|Qr 0 (.dat 2 [[.nilsl,.nilsl]]) O<|qf O<|Qa ?_;obtain rfl:=qs f;exact finD (.inr O) (v:=.d (.tup [.agg [.nilsl,.nilsl],.bool false])) O O (Ys (.cons (Zt (.cons (.nil _) (.cons (.nil _) .nil))) (.cons (.refl _) .nil)))
 refine qu<|qg<|q0 O<|U (.d (.agg [.sl 2 (c.1.map qt),.nilsl])) O<|K8 O O<|Qr 2 (.dat 2 [[.sl 2 (c.1.map qt),.nilsl]]) O<|qy<|K1 (.mp 3) (.mp true (Qu (fun n : Int=>DV.int .i64 n) (DV.int .i64) ([] : List (Int × Int)))) O<|K1 (.mp 4) (.mp true (Qu (fun n : Int=>DV.int .i64 n) (DV.int .i64) ([] : List (Int × Int)))) O<|qf O<|qf O<|qb<|qh<|qg<|q0 O<|Ki O<|q0 O<|qb<|q9 f fun w aa f=>?_;refine Qq (fun h=>h = w) (fun (h : List qm)=>⟨[(2,.ref 0 2 0 0),(7,.ref 1 2 0 0)],[(0,.dat 2 [[.nilsl,.nilsl]]),(1,.cel 2 [[.d (.sl 2 (c.1.map qt)),.hs 2 2 0 h.length]]),(2,.dat 2 (h.map Qc))],3⟩) qe ?_ ?_
 ·refine Qm (q3j c g) (fun (a : Int × (List (Int × Int)) × (List (Int × Int)) × List qm)=>⟨[(2,.ref 0 2 0 0),(4,.ref 1 2 0 0),(7,.ref 2 2 0 0),(8,.mp 3),(9,.mp 4),(27,.d (.sl 2 (c.1.map qt))),(28,qd (c.1.length : Int)),(29,qd a.1)],[(0,.dat 2 [[.nilsl,.nilsl]]),(1,.dat 2 [[.mp (mrow (fun n : Int=>DV.int .i64 n) (fun l : List qj=>DV.sl 2 (l.map Q8)) g.rows_),.mp (mrow (fun n : Int=>DV.int .i64 n) (fun l : List qj=>DV.sl 2 (l.map Q8)) g.columns_)]]),(2,.cel 2 [[.d (.sl 2 (c.1.map qt)),.hs 5 2 0 a.2.2.2.length]]),(3,.mp false (Qu (fun n : Int=>DV.int .i64 n) (DV.int .i64) a.2.1)),(4,.mp false (Qu (fun n : Int=>DV.int .i64 n) (DV.int .i64) a.2.2.1)),(5,.dat 2 (a.2.2.2.map Qc))],6⟩) (0,[],[],[]) w aa (wkA [(0,0),(1,1),(2,2),(3,3),(4,4)] [] [5]) ?_;intro a am j;unfold q3j at j;refine qg<|U (.d (.bool (decide (a.1 < (c.1.length : Int))))) O<|qb<|qh ?_;refine qq O j (fun _ j=>?_) (fun _ j=>?_)
  ·refine qu<|qh<|Qe<|qg<|q0 O<|q9 j fun b ab j=>Qt (enc:=qt) ab O<|U (.d (.agg [qi b.X,qi b.Y])) O<|K8 O O<|qf O<|Qr 6 (.dat 2 [[qi b.X,qi b.Y]]) O<|qy<|U (.d (.agg [.mp (mrow (fun n : Int=>DV.int .i64 n) (fun l : List qj=>DV.sl 2 (l.map Q8)) g.rows_),.mp (mrow (fun n : Int=>DV.int .i64 n) (fun l : List qj=>DV.sl 2 (l.map Q8)) g.columns_)])) O<|U (.d (.agg [qi b.X,qi b.Y])) O<|q9 j fun k ac j=>Qw (qnp g b k ac) O<|K8 O O<|Qr 7 (.dat 4 [[.bool k.1,.bool k.2.1,.bool k.2.2.1,.bool k.2.2.2]]) O<|qb<|qh<|qg<|U (.ref 7 4 0 2) O<|U (Q1 k.2.2.1) O<|qb<|q9 j fun ad m j=>?_;refine Y0 (fun o=>o = ad) (fun (o : List qm)=>⟨[(2,.ref 0 2 0 0),(4,.ref 1 2 0 0),(7,.ref 2 2 0 0),(8,.mp 3),(9,.mp 4),(10,qd a.1),(11,.ref 5 2 0 0),(12,.ref 6 4 0 0),(27,.d (.sl 2 (c.1.map qt))),(28,qd (c.1.length : Int)),(29,qd a.1)],[(0,.dat 2 [[.nilsl,.nilsl]]),(1,.dat 2 [[.mp (mrow (fun n : Int=>DV.int .i64 n) (fun l : List qj=>DV.sl 2 (l.map Q8)) g.rows_),.mp (mrow (fun n : Int=>DV.int .i64 n) (fun l : List qj=>DV.sl 2 (l.map Q8)) g.columns_)]]),(2,.cel 2 [[.d (.sl 2 (c.1.map qt)),.hs 7 2 0 o.length]]),(3,.mp false (Qu (fun n : Int=>DV.int .i64 n) (DV.int .i64) a.2.1)),(4,.mp false (Qu (fun n : Int=>DV.int .i64 n) (DV.int .i64) a.2.2.1)),(5,.dat 2 [[qi b.X,qi b.Y]]),(6,.dat 4 [[.bool k.1,.bool k.2.1,.bool k.2.2.1,.bool k.2.2.2]]),(7,.dat 2 (o.map Qc))],8⟩) qe ?_ ?_
   ·refine qq O m (fun _ m=>?_) (fun _ m=>?_)
    ·refine Q0<|U (.ref 2 2 0 1) O<|U (.hs 5 2 0 a.2.2.2.length) O<|q0 O<|U (.ref 6 2 0 1) O<|U (qd b.Y) O<|qg4 (ek:=(fun n : Int=>DV.int .i64 n)) (ev:=(DV.int .i64)) (es:=a.2.1) Jm 0 b.Y O O O O O O O<|q0 O<|U (.d (.agg [qi (K7 0 b.Y a.2.1),qi a.1])) O<|K1 (.hs 8 2 0 [({A:=K7 0 b.Y a.2.1,B:=a.1} : qm)].length) (.dat 2 ([({A:=K7 0 b.Y a.2.1,B:=a.1} : qm)].map Qc)) O<|q9 m fun ae af m=>Yn (xs:=a.2.2.2) (ys:=[({A:=K7 0 b.Y a.2.1,B:=a.1} : qm)]) (enc:=Qc) (.hs 8 2 0 [({A:=K7 0 b.Y a.2.1,B:=a.1} : qm)].length) af O O O O O O O (Z7 O O) O O O O<|U (.ref 2 2 0 1) O<|Qr 2 (.cel 2 [[.d (.sl 2 (c.1.map qt)),.hs 9 2 0 ae.length]]) O<|qz ?_;obtain rfl:=qs m;exact ⟨_,O,wkA [(0,0),(1,1),(2,2),(3,3),(4,4),(5,6),(6,7),(7,9)] [] []⟩
    refine qu<|Qd ?_;obtain rfl:=qs m;exact ⟨_,O,wkA [(0,0),(1,1),(2,2),(3,3),(4,4),(5,6),(6,7),(7,5)] [] []⟩
   intro o hb;subst hb;refine qh<|qg<|U (.ref 6 4 0 3) O<|U (Q1 k.2.2.2) O<|qb<|q9 j fun ag p j=>?_;refine Y0 (fun q=>q = ag) (fun (q : List qm)=>⟨[(2,.ref 0 2 0 0),(4,.ref 1 2 0 0),(7,.ref 2 2 0 0),(8,.mp 3),(9,.mp 4),(10,qd a.1),(11,.ref 5 2 0 0),(27,.d (.sl 2 (c.1.map qt))),(28,qd (c.1.length : Int)),(29,qd a.1)],[(0,.dat 2 [[.nilsl,.nilsl]]),(1,.dat 2 [[.mp (mrow (fun n : Int=>DV.int .i64 n) (fun l : List qj=>DV.sl 2 (l.map Q8)) g.rows_),.mp (mrow (fun n : Int=>DV.int .i64 n) (fun l : List qj=>DV.sl 2 (l.map Q8)) g.columns_)]]),(2,.cel 2 [[.d (.sl 2 (c.1.map qt)),.hs 6 2 0 q.length]]),(3,.mp false (Qu (fun n : Int=>DV.int .i64 n) (DV.int .i64) a.2.1)),(4,.mp false (Qu (fun n : Int=>DV.int .i64 n) (DV.int .i64) a.2.2.1)),(5,.dat 2 [[qi b.X,qi b.Y]]),(6,.dat 2 (q.map Qc))],7⟩) qe ?_ ?_
   ·refine qq O p (fun _ p=>?_) (fun _ p=>?_)
    ·refine Q0<|U (.ref 2 2 0 1) O<|U (.hs 7 2 0 o.length) O<|q0 O<|U (.ref 5 2 0 0) O<|U (qd b.X) O<|qg4 (ek:=(fun n : Int=>DV.int .i64 n)) (ev:=(DV.int .i64)) (es:=a.2.2.1) Jm 0 b.X O O O O O O O<|q0 O<|U (.d (.agg [qi (K7 0 b.X a.2.2.1),qi a.1])) O<|K1 (.hs 8 2 0 [({A:=K7 0 b.X a.2.2.1,B:=a.1} : qm)].length) (.dat 2 ([({A:=K7 0 b.X a.2.2.1,B:=a.1} : qm)].map Qc)) O<|q9 p fun ah ai p=>Yn (xs:=o) (ys:=[({A:=K7 0 b.X a.2.2.1,B:=a.1} : qm)]) (enc:=Qc) (.hs 8 2 0 [({A:=K7 0 b.X a.2.2.1,B:=a.1} : qm)].length) ai O O O O O O O (Z7 O O) O O O O<|U (.ref 2 2 0 1) O<|Qr 2 (.cel 2 [[.d (.sl 2 (c.1.map qt)),.hs 9 2 0 ah.length]]) O<|qz ?_;obtain rfl:=qs p;exact ⟨_,O,wkA [(0,0),(1,1),(2,2),(3,3),(4,4),(5,5),(6,9)] [] []⟩
    refine qu<|Qd ?_;obtain rfl:=qs p;exact ⟨_,O,wkA [(0,0),(1,1),(2,2),(3,3),(4,4),(5,5),(6,7)] [] []⟩
   intro q hb;subst hb;refine Qf [Qk 4,Qk 3,q7,q7,qv 5,q7,q7,qv 5,q7,q7] ql<|q0 O<|U (.ref 5 2 0 1) O<|U (qd b.Y) O<|q0 O<|U (.ref 5 2 0 0) O<|U (qd b.X) O<|q0 O<|q0 O<|q35 (ek:=(fun n : Int=>DV.int .i64 n)) (ev:=(DV.int .i64)) (es:=a.2.1) Jm b.Y a.1 O O O O O O O O<|q35 (ek:=(fun n : Int=>DV.int .i64 n)) (ev:=(DV.int .i64)) (es:=a.2.2.1) Jm b.X a.1 O O O O O O O O<|qz<|Ql<|Q0<|U (.d (qi (w64 (a.1 + 1)))) O<|q0 O<|qz<|⟨_,qr j,wkA [(0,0),(1,1),(2,2),(3,3),(4,4),(5,6)] [] []⟩
  refine Qh ?_;refine ⟨_,qr j,fun hm=>?_⟩;subst hm;exact ⟨_,O,wkA [(0,0),(1,2),(2,5)] [] []⟩
 intro h hb;subst hb;refine qg<|U (.ref 1 2 0 1) O<|U (.hs 2 2 0 h.length) O<|q9 f fun x aj f=>q9 f fun an ak f=>?_;have al:=Kv ak;refine K4 [(0,2)] [(0,1),(1,1),(2,0)] [.hs 2 2 0 h.length,.d (.fn 62 [])] (.d (.tup [])) 1 [(2,.dat 2 (x.map Qc)),(0,.dat 2 [[.nilsl,.nilsl]]),(1,.cel 2 [[.d (.sl 2 (c.1.map qt)),.hs 2 2 0 h.length]])] 3 (q10f (fun t u=>q2p t u) 62 [] (fun t u r hr=>q125 t u r hr) h x aj)<|qb<|qh<|Qf [q7,Qk 0,q7,q7,qv 1,q7,qv 1] ql<|U (.agg [.d (.sl 2 (c.1.map qt)),.hs 2 2 0 h.length]) O<|U (.ref 1 2 0 1) O<|U (.hs 2 2 0 h.length) O<|U (qd (h.length : Int)) O<|U (.d (.bool (decide ((h.length : Int)≤800)))) O<|Qr 0 (.cel 2 [[.d (.sl 2 (c.1.map qt)),.hs 2 2 0 h.length]]) O<|qf O<|Qa ?_;obtain rfl:=qs f;exact finD (.inr O) (v:=.tup [.agg [.d (.sl 2 (c.1.map qt)),.hs 2 2 0 h.length],.d (.bool (decide ((h.length : Int)≤800)))]) O (qdz (Jn (qnv (Jn O (Jn (Jp (by simp [al]) O) O))) (Jn O O))) (.refl _)
theorem q8y (f : qc) (r : Bool) (a : q1m f = some r) : Pure Tryz.prog tab 51 [.agg (qt f)] (.bool r):=by
 unfold q1m at a;refine Ka Tryz.func51 O ql ql O<|qg<|K1 _ _ O<|qf O<|qy<|U _ O<|U _ O<|U _ O<|q9 a fun u b a=>?_;refine Qi 5 (fun A st=>∃ g h j k,st = A [(10,Q1 u),(9,k),(8,j),(7,h),(6,g)]) ?_ ?_
 ·refine Qj O O b (fun b=>?_) (fun b=>?_)
  ·refine U _ O<|U _ O<|U _ O<|U _ O<|qb ?_;cases b;exact ⟨_,_,_,_,O⟩
  refine qa O<|qa O<|qa O<|U _ O<|qb ?_;cases b;exact ⟨_,_,_,_,O⟩
 rintro _ ⟨g,h,j,k,rfl⟩;refine q9 a fun v c a=>?_;refine Qi 5 (fun A st=>∃ l m n o,st = A [(15,Q1 v),(14,o),(13,n),(12,m),(11,l)]) ?_ ?_
 ·refine Qj O O c (fun c=>?_) (fun c=>?_)
  ·refine U _ O<|U _ O<|U _ O<|U _ O<|qb ?_;cases c;exact ⟨_,_,_,_,O⟩
  refine qa O<|qa O<|qa O<|U _ O<|qb ?_;cases c;exact ⟨_,_,_,_,O⟩
 rintro _ ⟨l,m,n,o,rfl⟩;refine q9 a fun w d a=>?_;refine Qi 5 (fun A st=>∃ p q s t,st = A [(20,Q1 w),(19,t),(18,s),(17,q),(16,p)]) ?_ ?_
 ·refine Qj O O d (fun d=>?_) (fun d=>?_)
  ·refine U _ O<|U _ O<|U _ O<|U _ O<|qb ?_;cases d;exact ⟨_,_,_,_,O⟩
  refine qa O<|qa O<|qa O<|U _ O<|qb ?_;cases d;exact ⟨_,_,_,_,O⟩
 rintro _ ⟨p,q,s,t,rfl⟩;refine qf O<|Qa ?_;cases a;exact Qv _ O
theorem qy2 (g : Q6) (r : Bool) (a : q94 g = some r) : Pure Tryz.prog tab 54 [.agg (Kc g)] (.bool r):=by
 unfold q94 at a;refine Ka Tryz.func54 O ql ql O<|qg<|K1 _ _ O<|qf O<|qy<|U _ O<|U _ O<|U _ O<|U _ O<|U _ O<|q9 a fun aq b a=>?_;refine Qi 18 (fun A st=>∃ h j k l m n o p q s t u v w x y z,st = A [(25,Q1 aq),(24,z),(23,y),(22,x),(21,w),(20,v),(19,u),(18,t),(17,s),(16,q),(15,p),(14,o),(13,n),(12,m),(11,l),(10,k),(9,j),(8,h)]) ?_ ?_
 ·refine Qj O O b (fun b=>?_) (fun b=>?_)
  ·refine U _ O<|U _ O<|U _ O<|U _ O<|U _ O<|U _ O<|U _ O<|q9 b fun ar f b=>?_;refine Qi 9 (fun A st=>∃ aa ab ac ad ae af ag ah,st = A [(24,Q1 ar),(23,ah),(22,ag),(21,af),(20,ae),(19,ad),(18,ac),(17,ab),(16,aa)]) ?_ ?_
   ·refine Qj O O f (fun f=>?_) (fun f=>?_)
    ·refine qa O<|qa O<|qa O<|qa O<|qa O<|qa O<|qa O<|U _ O<|qb ?_;cases f;exact ⟨_,_,_,_,_,_,_,_,O⟩
    refine U _ O<|U _ O<|U _ O<|U _ O<|U _ O<|U _ O<|U _ O<|U _ O<|qb ?_;cases f;exact ⟨_,_,_,_,_,_,_,_,O⟩
   rintro _ ⟨aa,ab,ac,ad,ae,af,ag,ah,rfl⟩;refine U _ O<|qb ?_;cases b;exact ⟨_,_,_,_,_,_,_,_,_,_,_,_,_,_,_,_,_,O⟩
  refine qa O<|qa O<|qa O<|qa O<|qa O<|qa O<|qa O<|qa O<|qa O<|qa O<|qa O<|qa O<|qa O<|qa O<|qa O<|qa O<|U _ O<|qb ?_;cases b;exact ⟨_,_,_,_,_,_,_,_,_,_,_,_,_,_,_,_,_,O⟩
 rintro _ ⟨h,j,k,l,m,n,o,p,q,s,t,u,v,w,x,y,z,rfl⟩;refine q9 a fun au c a=>?_;refine Qi 5 (fun A st=>∃ ai aj ak al,st = A [(30,Q1 au),(29,al),(28,ak),(27,aj),(26,ai)]) ?_ ?_
 ·refine Qj O O c (fun c=>?_) (fun c=>?_)
  ·refine U _ O<|U _ O<|q9 c fun av aw c=>Qw (q8y g.A av aw) O<|U _ O<|qb ?_;cases c;exact ⟨_,_,_,_,O⟩
  refine qa O<|qa O<|qa O<|U _ O<|qb ?_;cases c;exact ⟨_,_,_,_,O⟩
 rintro _ ⟨ai,aj,ak,al,rfl⟩;refine q9 a fun ax d a=>?_;refine Qi 5 (fun A st=>∃ am an ao ap,st = A [(35,Q1 ax),(34,ap),(33,ao),(32,an),(31,am)]) ?_ ?_
 ·refine Qj O O d (fun d=>?_) (fun d=>?_)
  ·refine U _ O<|U _ O<|q9 d fun ay az d=>Qw (q8y g.B ay az) O<|U _ O<|qb ?_;cases d;exact ⟨_,_,_,_,O⟩
  refine qa O<|qa O<|qa O<|U _ O<|qb ?_;cases d;exact ⟨_,_,_,_,O⟩
 rintro _ ⟨am,an,ao,ap,rfl⟩;refine qf O<|Qa ?_;cases a;exact Qv _ O
theorem qxo (g : List Int) (r : List Int) (n : q65 g = some r) : Pure Tryz.prog tab 83 [.sl 1 (g.map (eI .i64))] (.sl 1 (r.map (eI .i64))):=by
 unfold q65 at n;refine Ka Tryz.func83 O ql ql O<|qg<|qf O<|qy<|qf O<|qb<|qh<|qg<|qf O<|qb<|q9 n fun s bb n=>?_;refine Qq (fun l=>l = s) (fun l=>⟨[(3,.hs 0 1 0 l.length)],[(0,.dat 1 (l.map (eI .i64)))],1⟩) qe ?_ ?_
 ·refine Qm (q4a g) (fun b=>⟨[(0,.d (.sl 1 (g.map (eI .i64)))),(3,.hs 0 1 0 b.2.length),(4,qd b.1)],[(0,.dat 1 (b.2.map (eI .i64)))],1⟩) _ s bb (wkA [] [] [0]) ?_;intro b bk h;unfold q4a at h;refine qh<|qg<|q0 O<|q0 O<|Ki O<|U _ O<|qb ?_;refine qq O h (fun _ h=>?_) (fun _ h=>?_)
  ·refine qu<|qh<|q9 h fun bc a h=>?_;refine Qq (fun m=>m = bc) (fun m=>⟨[(0,.d (.sl 1 (g.map (eI .i64)))),(3,.hs 0 1 0 m.length),(4,qd b.1)],[(0,.dat 1 (m.map (eI .i64)))],1⟩) qe ?_ ?_
   ·refine qg<|q0 O<|U _ O<|qf O<|qb<|qh<|q9 a fun t bd a=>?_;refine Qq (fun o=>o = t) (fun o=>⟨[(0,.d (.sl 1 (g.map (eI .i64)))),(3,.hs 0 1 0 b.2.length),(4,qd b.1),(5,qd o)],[(0,.dat 1 (b.2.map (eI .i64)))],1⟩) qe ?_ ?_
    ·refine Qm (q4b b g) (fun u=>⟨[(0,.d (.sl 1 (g.map (eI .i64)))),(3,.hs 0 1 0 b.2.length),(4,qd b.1),(5,qd u)],[(0,.dat 1 (b.2.map (eI .i64)))],1⟩) _ t bd (wkA [(0,0)] [] []) ?_;intro u bl j;unfold q4b at j;refine qh<|qh<|Qf [q7,q7,q7,q7,q7,q7,qv 0,q7,q7,q7,q7,q7,q7,q7] ql<|q0 O<|U _ O<|q9 j fun be c j=>?_;refine Qi 12 (fun A st=>∃ v x y z aa ab ac ad ae af ag,st = A [(27,Q1 be),(26,ag),(25,af),(24,ae),(23,ad),(22,ac),(21,ab),(20,aa),(19,z),(18,y),(17,x),(16,v)]) ?_ ?_
     ·refine Qj O O c (fun c=>?_) (fun c=>?_)
      ·refine q0 O<|q0 O<|U _ O<|q9 c fun bm ah c=>qp ah O O<|Q2 _ ah O<|q0 O<|q0 O<|q9 c fun bn bf c=>Qt bf O<|U _ O<|U _ O<|U _ O<|qb ?_;cases c;exact ⟨_,_,_,_,_,_,_,_,_,_,_,O⟩
      refine qa O<|qa O<|qa O<|qa O<|qa O<|qa O<|qa O<|qa O<|qa O<|qa O<|U _ O<|qb ?_;cases c;exact ⟨_,_,_,_,_,_,_,_,_,_,_,O⟩
     rintro _ ⟨v,x,y,z,aa,ab,ac,ad,ae,af,ag,rfl⟩;refine qb ?_;refine qq O j (fun _ j=>?_) (fun _ j=>?_)
     ·refine qu<|Qe<|Q0<|q0 O<|U _ O<|qf O<|qz<|Ql<|Qd<|⟨_,qr j,wkA [(0,0)] [] []⟩
     refine Qh ?_;refine ⟨_,qr j,fun hm=>?_⟩;subst hm;exact ⟨_,O,wkA [(0,0)] [] []⟩
    intro o hb;subst hb;refine qh<|qh<|Qf [q7,q7,q7,q7,q7,q7,qv 0,q7,q7,q7,q7,q7,q7,q7] ql<|q0 O<|U _ O<|q9 a fun bg f a=>?_;refine Qi 12 (fun A st=>∃ ai aj ak al am an ao ap aq ar au,st = A [(43,Q1 bg),(42,au),(41,ar),(40,aq),(39,ap),(38,ao),(37,an),(36,am),(35,al),(34,ak),(33,aj),(32,ai)]) ?_ ?_
    ·refine Qj O O f (fun f=>?_) (fun f=>?_)
     ·refine q0 O<|q0 O<|U _ O<|q9 f fun bo av f=>qp av O O<|Q2 _ av O<|q0 O<|q0 O<|q9 f fun bp bh f=>Qt bh O<|U _ O<|U _ O<|U _ O<|qb ?_;cases f;exact ⟨_,_,_,_,_,_,_,_,_,_,_,O⟩
     refine qa O<|qa O<|qa O<|qa O<|qa O<|qa O<|qa O<|qa O<|qa O<|qa O<|U _ O<|qb ?_;cases f;exact ⟨_,_,_,_,_,_,_,_,_,_,_,O⟩
    rintro _ ⟨ai,aj,ak,al,am,an,ao,ap,aq,ar,au,rfl⟩;refine qb ?_;refine qq O a (fun _ a=>?_) (fun _ a=>?_)
    ·refine Qh ?_;obtain rfl:=qs a;exact ⟨_,O,wkA [(0,0)] [] []⟩
    refine qu<|qg<|q0 O<|K1 _ _ O<|q9 a fun p bi a=>Yn _ bi O O O O O O O (Z7 O O) O O O O<|qf O<|qb<|qh<|Qf [Qk 2,q7,q7,q7,q7,q7,q7,q7] ql<|q0 O<|q0 O<|U _ O<|q9 a fun aw q a=>q62 q O O O O O (q5d O) (fun _=>rfl)<|q0 O<|q0 O<|q9 a fun k ax a=>q62 ax O O O O O (q5d O) (fun _=>rfl)<|qlh (w:=aw) (xs:=p) (ys:=(p.drop k.1).take k.2) (enc:=(eI .i64)) (.hs 2 1 k.1 k.2) (q3p q) O O O O O O (qci (q3p ax) O) O O O O ?_;have ay:=@qcj _ p ((p.drop k.1).take k.2) aw (q3p q);refine qb<|Q0<|q0 O<|q0 O<|q0 O<|q0 O<|q9 a fun az bj a=>Qt bj O<|U _ O<|q9 a fun bq ba a=>qp ba (by simp [ay]) O<|Qp (ds:=[qi az]) az ba O O O O O O O O (leb O) O<|qz ?_;obtain rfl:=qs a;exact ⟨_,O,wkE [(0,2)] [] [] O ⟨qk O,⟨_,O,Qy (by simp [ay]) O Q3 (ltd O)⟩,qk O,trivial⟩ ⟨Qo O O,trivial⟩⟩
   intro m hb;subst hb;refine Q0<|q0 O<|U _ O<|qf O<|qz<|⟨_,qr h,wkA [(0,0)] [] []⟩
  refine Qh ?_;refine ⟨_,qr h,fun hm=>?_⟩;subst hm;exact ⟨_,O,wkA [(0,0)] [] []⟩
 intro l hb;subst hb;refine qg<|q0 O<|qf O<|Qa ?_;obtain rfl:=qs n;exact finD (.inr O) O (Jp O O) (.refl _)
theorem qy4 (g : List qj) (r : List qj) (p : q4o g = some r) : Pure Tryz.prog tab 84 [.sl 2 (g.map Q8)] (.sl 2 (r.map Q8)):=by
 unfold q4o at p;refine Ka Tryz.func84 O ql ql O<|qg<|qf O<|qy<|qf O<|qb<|qh<|qg<|qf O<|qb<|q9 p fun s ay p=>?_;refine Qq (fun o=>o = s) (fun o=>⟨[(3,.hs 0 2 0 o.length)],[(0,.dat 2 (o.map Q8))],1⟩) qe ?_ ?_
 ·refine Qm (q4p g) (fun f=>⟨[(0,.d (.sl 2 (g.map Q8))),(3,.hs 0 2 0 f.2.length),(4,qd f.1)],[(0,.dat 2 (f.2.map Q8))],1⟩) _ s ay (wkA [] [] [0]) ?_;intro f bl a;unfold q4p at a;refine qh<|qg<|q0 O<|q0 O<|Ki O<|U _ O<|qb ?_;refine qq O a (fun _ a=>?_) (fun _ a=>?_)
  ·refine qu<|qh<|Qe<|qg<|q0 O<|q0 O<|q9 a fun bm az a=>Qt az O<|U _ O<|K8 O O<|Qr 1 _ O<|qy<|qf O<|qb<|qh<|qg<|qf O<|qb<|q9 a fun t ba a=>?_;refine Qq (fun c=>c = t) (fun c=>⟨[(0,.d (.sl 2 (g.map Q8))),(4,qd f.1),(5,.ref 0 2 0 0),(6,.hs 1 2 0 c.2.2.length)],[(0,.dat 2 [[qi c.1,qi c.2.1]]),(1,.dat 2 (c.2.2.map Q8))],2⟩) qe ?_ ?_
   ·refine Qm (q3e f) (fun h=>⟨[(0,.d (.sl 2 (g.map Q8))),(3,.hs 0 2 0 f.2.length),(4,qd f.1),(5,.ref 1 2 0 0),(6,.hs 2 2 0 h.2.2.2.length),(7,qd h.1)],[(0,.dat 2 (f.2.map Q8)),(1,.dat 2 [[qi h.2.1,qi h.2.2.1]]),(2,.dat 2 (h.2.2.2.map Q8))],3⟩) _ t ba (wkA [(0,0),(1,1)] [] [2]) ?_;intro h bn j;unfold q3e at j;refine qh<|qg<|q0 O<|q0 O<|U _ O<|U _ O<|qb ?_;refine qq O j (fun _ j=>?_) (fun _ j=>?_)
    ·refine qu<|qh<|q9 j fun bb b j=>?_;refine Qq (fun l=>l = bb) (fun l=>⟨[(0,.d (.sl 2 (g.map Q8))),(3,.hs 0 2 0 f.2.length),(4,qd f.1),(5,.ref 1 2 0 0),(6,.hs 2 2 0 l.2.2.length),(7,qd h.1)],[(0,.dat 2 (f.2.map Q8)),(1,.dat 2 [[qi l.1,qi l.2.1]]),(2,.dat 2 (l.2.2.map Q8))],3⟩) qe ?_ ?_
     ·refine qh<|qh<|Qf [q7,q7,qv 0,q7,q7,q7,q7,qv 1,q7,q7,q7,qv 1,q7,qv 0,q7,q7,q7,q7] ql<|q0 O<|q0 O<|q9 b fun bo u b=>qp u O O<|U _ O<|Q2 _ u O<|U _ O<|U _ O<|U _ O<|q9 b fun bc m b=>?_;refine Qi 10 (fun A st=>∃ v w x y z aa ab ac ad,st = A [(42,Q1 bc),(41,ad),(40,ac),(39,ab),(38,aa),(37,z),(36,y),(35,x),(34,w),(33,v)]) ?_ ?_
      ·refine Qj O O m (fun m=>?_) (fun m=>?_)
       ·refine qa O<|qa O<|qa O<|qa O<|qa O<|qa O<|qa O<|qa O<|U _ O<|qb ?_;cases m;exact ⟨_,_,_,_,_,_,_,_,_,O⟩
       refine U _ O<|U _ O<|q0 O<|q0 O<|q9 m fun bp ae m=>qp ae O O<|U _ O<|Q2 _ ae O<|U _ O<|U _ O<|qb ?_;cases m;exact ⟨_,_,_,_,_,_,_,_,_,O⟩
      rintro _ ⟨v,w,x,y,z,aa,ab,ac,ad,rfl⟩;refine qb ?_;refine qq O b (fun _ b=>?_) (fun _ b=>?_)
      ·refine qg<|q0 O<|q0 O<|q0 O<|q9 b fun bq af b=>qp af O O<|Q2 _ af O<|K1 _ _ O<|q9 b fun br bd b=>Yn _ bd O O O O O O O (Z7 O O) O O O O<|qf O<|qb<|Qh ?_;obtain rfl:=qs b;exact ⟨_,O,wkA [(0,0),(1,1),(2,4)] [] []⟩
      refine qu<|Qf [Qk 1,q7,q7,qv 0,q7,q7,q7,q7,qv 1,q7,q7,qv 0,q7,q7,q7,q7,qv 1,q7] ql<|U _ O<|U _ O<|q0 O<|q0 O<|q9 b fun be ag b=>qp ag O O<|U _ O<|Q2 _ ag O<|Us (r:=min h.2.1 be.Lo) O O (by simp only [Up];rfl)<|U _ O<|U _ O<|q0 O<|q0 O<|q9 b fun bf ah b=>qp ah O O<|U _ O<|Q2 _ ah O<|Zk (r:=max h.2.2.1 bf.Hi) O O (by simp only [Zj];rfl)<|U _ O<|Qr 1 _ O<|qz ?_;obtain rfl:=qs b;exact ⟨_,O,wkA [(0,0),(1,1),(2,2)] [] []⟩
     intro l hb;subst hb;refine Q0<|q0 O<|U _ O<|qf O<|qz<|⟨_,qr j,wkA [(0,0),(1,1),(2,2)] [] []⟩
    refine Qh ?_;refine ⟨_,qr j,fun hm=>?_⟩;subst hm;exact ⟨_,O,wkA [(0,1),(1,2)] [] []⟩
   intro c hb;subst hb;refine qg<|qf O<|qb<|qh<|q9 a fun ai bg a=>?_;refine Qq (fun q=>q = ai) (fun q=>⟨[(0,.d (.sl 2 (g.map Q8))),(4,qd f.1),(5,.ref 0 2 0 0),(6,.hs 1 2 0 c.2.2.length),(8,qd q)],[(0,.dat 2 [[qi c.1,qi c.2.1]]),(1,.dat 2 (c.2.2.map Q8))],2⟩) qe ?_ ?_
   ·refine Qm (q3f c) (fun aj=>⟨[(0,.d (.sl 2 (g.map Q8))),(4,qd f.1),(5,.ref 0 2 0 0),(6,.hs 1 2 0 c.2.2.length),(8,qd aj)],[(0,.dat 2 [[qi c.1,qi c.2.1]]),(1,.dat 2 (c.2.2.map Q8))],2⟩) _ ai bg (wkA [(0,0),(1,1)] [] []) ?_;intro aj bs k;unfold q3f at k;refine qh<|qh<|Qf [q7,q7,qv 0,q7,qv 1,q7,q7,q7,q7,q7,q7,q7,q7,q7] ql<|q0 O<|q0 O<|U _ O<|U _ O<|q9 k fun bh n k=>?_;refine Qi 10 (fun A st=>∃ ak al am an ao ap aq ar au,st = A [(80,Q1 bh),(79,au),(78,ar),(77,aq),(76,ap),(75,ao),(74,an),(73,am),(72,al),(71,ak)]) ?_ ?_
    ·refine Qj O O n (fun n=>?_) (fun n=>?_)
     ·refine q0 O<|q0 O<|q9 n fun bt av n=>qp av O O<|U _ O<|Q2 _ av O<|U _ O<|U _ O<|U _ O<|U _ O<|qb ?_;cases n;exact ⟨_,_,_,_,_,_,_,_,_,O⟩
     refine qa O<|qa O<|qa O<|qa O<|qa O<|qa O<|qa O<|qa O<|U _ O<|qb ?_;cases n;exact ⟨_,_,_,_,_,_,_,_,_,O⟩
    rintro _ ⟨ak,al,am,an,ao,ap,aq,ar,au,rfl⟩;refine qb ?_;refine qq O k (fun _ k=>?_) (fun _ k=>?_)
    ·refine qu<|Qe<|Q0<|q0 O<|U _ O<|qf O<|qz<|Ql<|Qd<|⟨_,qr k,wkA [(0,0),(1,1)] [] []⟩
    refine Qh ?_;refine ⟨_,qr k,fun hm=>?_⟩;subst hm;exact ⟨_,O,wkA [(0,0),(1,1)] [] []⟩
   intro q hb;subst hb;refine Qf [q7,(some [1,5],[5,6]),q7,q7,q7,(some [3,4],[3,5]),(some [],[4]),qv 0,(some [1,2],[2,3]),q7,q7,q7,(some [],[2])] ql<|K1 _ _ O<|q0 O<|q0 O<|q9 a fun bu aw a=>q62 aw O O O O O (fun _=>rfl) (q5d O)<|q9 a fun bv bi a=>Yn _ bi O O O O O O O (qci (q3p aw) O) O O O O<|U _ O<|K1 _ _ O<|q9 a fun bw bj a=>Yn _ bj O O O O O O O (Z7 O O) O O O O<|q0 O<|q0 O<|q9 a fun bx ax a=>q62 ax O O O O O (q5d O) (fun _=>rfl)<|q9 a fun bz bk a=>Yn _ bk O O O O O O O (qci (q3p ax) O) O O O O<|qf O<|qz<|Ql<|Q0<|q0 O<|U _ O<|qf O<|qz<|⟨_,qr a,wkA [(0,6)] [] []⟩
  refine Qh ?_;refine ⟨_,qr a,fun hm=>?_⟩;subst hm;exact ⟨_,O,wkA [(0,0)] [] []⟩
 intro o hb;subst hb;refine qg<|q0 O<|qf O<|Qa ?_;obtain rfl:=qs p;exact finD (.inr O) O (Jp O O) (.refl _)
theorem qmd (f : List Q6) (g : Bool) (r : List Kb) (p : q6e f g = some r) : Pure Tryz.prog tab 64 [.sl 4 (f.map Kc),.bool g] (.sl 2 (r.map K6)):=by
 unfold q6e at p;refine Ka Tryz.func64 O ql ql O<|qg<|qf O<|qy<|qf O<|qb<|qh<|qg<|qf O<|qb<|q9 p fun ac cp p=>?_;refine Qq (fun u=>u = ac) (fun u=>⟨[(0,.d (.sl 4 (f.map Kc))),(1,Q1 g),(5,.hs 0 1 0 u.length)],[(0,.dat 1 (u.map (eI .i64)))],1⟩) qe ?_ ?_
 ·refine Qm (q4h f g) (fun w=>⟨[(0,.d (.sl 4 (f.map Kc))),(1,Q1 g),(5,.hs 0 1 0 w.2.length),(6,qd w.1)],[(0,.dat 1 (w.2.map (eI .i64)))],1⟩) _ ac cp (wkA [] [] [0]) ?_;intro w fr q;unfold q4h at q;refine qh<|qg<|q0 O<|q0 O<|Ki O<|U _ O<|qb ?_;refine qq O q (fun _ q=>?_) (fun _ q=>?_)
  ·refine qu<|qh<|q9 q fun cq b q=>?_;refine Qq (fun x=>x = cq) (fun x=>⟨[(0,.d (.sl 4 (f.map Kc))),(1,Q1 g),(5,.hs 0 1 0 x.length),(6,qd w.1)],[(0,.dat 1 (x.map (eI .i64)))],1⟩) qe ?_ ?_
   ·refine qh<|Qf [q7,q7,q7,q7,q7,q7,q7,q7,q7,q7,q7,q7,q7,q7,q7] ql<|q0 O<|q0 O<|q9 b fun fs cr b=>Qt cr O<|U _ O<|U _ O<|U _ O<|q0 O<|q0 O<|q9 b fun ft cs b=>Qt cs O<|U _ O<|U _ O<|U _ O<|U _ O<|q0 O<|U _ O<|qb ?_;refine qq O b (fun _ b=>?_) (fun _ b=>?_)
    ·refine qg<|q0 O<|qb ?_;refine qq O b (fun _ b=>?_) (fun _ b=>?_)
     ·refine Q0<|q0 O<|q0 O<|q0 O<|q9 b fun fu ct b=>Qt ct O<|U _ O<|U _ O<|U _ O<|K1 _ _ O<|q9 b fun fv cu b=>Yn _ cu O O O O O O O (Z7 O O) O O O O<|qf O<|qz ?_;obtain rfl:=qs b;exact ⟨_,O,wkA [(0,2)] [] []⟩
     refine Q0<|q0 O<|q0 O<|q0 O<|q9 b fun fw cv b=>Qt cv O<|U _ O<|U _ O<|U _ O<|K1 _ _ O<|q9 b fun fx cw b=>Yn _ cw O O O O O O O (Z7 O O) O O O O<|qf O<|qz ?_;obtain rfl:=qs b;exact ⟨_,O,wkA [(0,2)] [] []⟩
    refine qu<|Qd ?_;obtain rfl:=qs b;exact ⟨_,O,wkA [(0,0)] [] []⟩
   intro x hb;subst hb;refine Q0<|q0 O<|U _ O<|qf O<|qz<|⟨_,qr q,wkA [(0,0)] [] []⟩
  refine Qh ?_;refine ⟨_,qr q,fun hm=>?_⟩;subst hm;exact ⟨_,O,wkA [(0,0)] [] []⟩
 intro u hb;subst hb;refine qh ?_;refine Zl (st':=⟨[(0,.d (.sl 4 (f.map Kc))),(1,Q1 g),(5,.d (.sl 1 (u.map (eI .i64))))],[],0⟩) (wkA [] [0] []) ?_ qe;refine Q0<|q0 O<|q9 p fun j cx p=>Qw (qxo u j cx) O<|qf O<|qy<|qf O<|qb<|qh<|qg<|qf O<|qb<|q9 p fun ad cy p=>?_;refine Qq (fun y=>y = ad) (fun y=>⟨[(7,.hs 0 2 0 y.length)],[(0,.dat 2 (y.map K6))],1⟩) qe ?_ ?_
 ·refine Qm (q4i j f g) (fun c=>⟨[(0,.d (.sl 4 (f.map Kc))),(1,Q1 g),(5,.d (.sl 1 (j.map (eI .i64)))),(7,.hs 0 2 0 c.2.length),(8,qd c.1)],[(0,.dat 2 (c.2.map K6))],1⟩) _ ad cy (wkA [] [] [0]) ?_;intro c fy s;unfold q4i at s;refine qh<|qg<|q0 O<|q0 O<|Ki O<|U _ O<|qb ?_;refine qq O s (fun _ s=>?_) (fun _ s=>?_)
  ·refine qu<|qh<|q9 s fun cz h s=>?_;refine Qq (fun z=>z = cz) (fun z=>⟨[(0,.d (.sl 4 (f.map Kc))),(1,Q1 g),(5,.d (.sl 1 (j.map (eI .i64)))),(7,.hs 0 2 0 z.length),(8,qd c.1)],[(0,.dat 2 (z.map K6))],1⟩) qe ?_ ?_
   ·refine qh<|qh<|Qf [q7,q7,q7,q7,q7,q7,q7,q7,q7,q7,q7,q7,q7,q7] ql<|q0 O<|U _ O<|q9 h fun da k h=>?_;refine Qi 12 (fun A st=>∃ ae af ag ah ai aj ak al am an ao,st = A [(73,Q1 da),(72,ao),(71,an),(70,am),(69,al),(68,ak),(67,aj),(66,ai),(65,ah),(64,ag),(63,af),(62,ae)]) ?_ ?_
    ·refine Qj O O k (fun k=>?_) (fun k=>?_)
     ·refine q0 O<|q0 O<|q9 k fun fz dc k=>Qt dc O<|U _ O<|q0 O<|q0 O<|U _ O<|q9 k fun ga dd k=>Qt dd O<|U _ O<|U _ O<|U _ O<|qb ?_;cases k;exact ⟨_,_,_,_,_,_,_,_,_,_,_,O⟩
     refine qa O<|qa O<|qa O<|qa O<|qa O<|qa O<|qa O<|qa O<|qa O<|qa O<|U _ O<|qb ?_;cases k;exact ⟨_,_,_,_,_,_,_,_,_,_,_,O⟩
    rintro _ ⟨ae,af,ag,ah,ai,aj,ak,al,am,an,ao,rfl⟩;refine qb ?_;refine qq O h (fun _ h=>?_) (fun _ h=>?_)
    ·refine Qh ?_;obtain rfl:=qs h;exact ⟨_,O,wkA [(0,0)] [] []⟩
    refine qu<|qg<|qf O<|qb<|qh<|qg<|qf O<|qb<|q9 h fun ap de h=>?_;refine Qq (fun v=>v = ap) (fun v=>⟨[(0,.d (.sl 4 (f.map Kc))),(1,Q1 g),(5,.d (.sl 1 (j.map (eI .i64)))),(7,.hs 0 2 0 c.2.length),(8,qd c.1),(9,.hs 1 2 0 v.length)],[(0,.dat 2 (c.2.map K6)),(1,.dat 2 (v.map Q8))],2⟩) qe ?_ ?_
    ·refine Qm (q4j f g j c) (fun aa=>⟨[(0,.d (.sl 4 (f.map Kc))),(1,Q1 g),(5,.d (.sl 1 (j.map (eI .i64)))),(7,.hs 0 2 0 c.2.length),(8,qd c.1),(9,.hs 1 2 0 aa.2.length),(10,qd aa.1)],[(0,.dat 2 (c.2.map K6)),(1,.dat 2 (aa.2.map Q8))],2⟩) _ ap de (wkA [(0,0)] [] [1]) ?_;intro aa gb t;unfold q4j at t;refine qh<|qg<|q0 O<|q0 O<|Ki O<|U _ O<|qb ?_;refine qq O t (fun _ t=>?_) (fun _ t=>?_)
     ·refine qu<|qh<|q9 t fun df a t=>?_;refine Qq (fun ab=>ab = df) (fun ab=>⟨[(0,.d (.sl 4 (f.map Kc))),(1,Q1 g),(5,.d (.sl 1 (j.map (eI .i64)))),(7,.hs 0 2 0 c.2.length),(8,qd c.1),(9,.hs 1 2 0 ab.length),(10,qd aa.1)],[(0,.dat 2 (c.2.map K6)),(1,.dat 2 (ab.map Q8))],2⟩) qe ?_ ?_
      ·refine Qe<|qh<|Qf [q7,q7,q7,q7,q7,q7,q7,q7,q7,q7,q7,q7,q7,q7,q7,q7,q7,q7,q7,q7,q7,q7,q7,q7,q7,q7,q7,q7] ql<|q0 O<|q9 a fun dg l a=>?_;refine Qi 13 (fun A st=>∃ aq ar au av aw ax ay az ba bb bc bd,st = A [(94,Q1 dg),(93,bd),(92,bc),(91,bb),(90,ba),(89,az),(88,ay),(87,ax),(86,aw),(85,av),(84,au),(83,ar),(82,aq)]) ?_ ?_
       ·refine Qj O O l (fun l=>?_) (fun l=>?_)
        ·refine q0 O<|q0 O<|q9 l fun gc dh l=>Qt dh O<|U _ O<|U _ O<|U _ O<|q0 O<|q0 O<|q9 l fun gd dj l=>Qt dj O<|U _ O<|U _ O<|U _ O<|qb ?_;cases l;exact ⟨_,_,_,_,_,_,_,_,_,_,_,_,O⟩
        refine qa O<|qa O<|qa O<|qa O<|qa O<|qa O<|qa O<|qa O<|qa O<|qa O<|qa O<|U _ O<|qb ?_;cases l;exact ⟨_,_,_,_,_,_,_,_,_,_,_,_,O⟩
       rintro _ ⟨aq,ar,au,av,aw,ax,ay,az,ba,bb,bc,bd,rfl⟩;refine q9 a fun dk m a=>?_;refine Qi 13 (fun A st=>∃ be bf bg bh bi bj bk bl bm bn bo bp,st = A [(107,Q1 dk),(106,bp),(105,bo),(104,bn),(103,bm),(102,bl),(101,bk),(100,bj),(99,bi),(98,bh),(97,bg),(96,bf),(95,be)]) ?_ ?_
       ·refine Qj O O m (fun m=>?_) (fun m=>?_)
        ·refine q0 O<|q0 O<|q9 m fun ge dl m=>Qt dl O<|U _ O<|U _ O<|U _ O<|q0 O<|q0 O<|q9 m fun gf dm m=>Qt dm O<|U _ O<|U _ O<|U _ O<|qb ?_;cases m;exact ⟨_,_,_,_,_,_,_,_,_,_,_,_,O⟩
        refine qa O<|qa O<|qa O<|qa O<|qa O<|qa O<|qa O<|qa O<|qa O<|qa O<|qa O<|U _ O<|qb ?_;cases m;exact ⟨_,_,_,_,_,_,_,_,_,_,_,_,O⟩
       rintro _ ⟨be,bf,bg,bh,bi,bj,bk,bl,bm,bn,bo,bp,rfl⟩;refine qf O<|qb ?_;refine qq O a (fun _ a=>?_) (fun _ a=>?_)
       ·refine Qf [q7,(some [1,2],[1,3]),(some [],[2]),q7,q7,q7,q7,q7,q7,q7,q7,q7,q7,q7,q7,q7,q7,q7,q7,q7,q7,q7,q7,q7,q7,q7,q7,q7,q7,q7,q7] ql<|q0 O<|q0 O<|q0 O<|q9 a fun dn dp a=>Qt dp O<|U _ O<|U _ O<|U _ O<|q0 O<|q0 O<|q9 a fun dq dr a=>Qt dr O<|U _ O<|U _ O<|U _ O<|Us (r:=min dn.A.X dq.B.X) O O (by simp only [Up];rfl)<|q0 O<|q0 O<|q9 a fun ds dt a=>Qt dt O<|U _ O<|U _ O<|U _ O<|q0 O<|q0 O<|q9 a fun du dv a=>Qt dv O<|U _ O<|U _ O<|U _ O<|Zk (r:=max ds.A.X du.B.X) O O (by simp only [Zj];rfl)<|U _ O<|K1 _ _ O<|q9 a fun gg dw a=>Yn _ dw O O O O O O O (Z7 O O) O O O O<|qf O<|qz<|Ql<|Qd ?_;obtain rfl:=qs a;exact ⟨_,O,wkA [(0,0),(1,3)] [] []⟩
       refine qh<|Qf [q7,q7,q7,q7,q7,q7,q7,q7,q7,q7,q7,q7,q7,q7,q7,q7,q7,q7,q7,q7,q7,q7,q7,q7,q7,q7,q7,q7,q7] ql<|q0 O<|U _ O<|q9 a fun dx n a=>?_;refine Qi 13 (fun A st=>∃ bq br bs bt bu bv bw bx bz ca cb cc,st = A [(153,Q1 dx),(152,cc),(151,cb),(150,ca),(149,bz),(148,bx),(147,bw),(146,bv),(145,bu),(144,bt),(143,bs),(142,br),(141,bq)]) ?_ ?_
       ·refine Qj O O n (fun n=>?_) (fun n=>?_)
        ·refine q0 O<|q0 O<|q9 n fun gh dy n=>Qt dy O<|U _ O<|U _ O<|U _ O<|q0 O<|q0 O<|q9 n fun gi dz n=>Qt dz O<|U _ O<|U _ O<|U _ O<|qb ?_;cases n;exact ⟨_,_,_,_,_,_,_,_,_,_,_,_,O⟩
        refine qa O<|qa O<|qa O<|qa O<|qa O<|qa O<|qa O<|qa O<|qa O<|qa O<|qa O<|U _ O<|qb ?_;cases n;exact ⟨_,_,_,_,_,_,_,_,_,_,_,_,O⟩
       rintro _ ⟨bq,br,bs,bt,bu,bv,bw,bx,bz,ca,cb,cc,rfl⟩;refine q9 a fun fa o a=>?_;refine Qi 13 (fun A st=>∃ cd ce cf cg ch ci cj ck cl cm cn co,st = A [(166,Q1 fa),(165,co),(164,cn),(163,cm),(162,cl),(161,ck),(160,cj),(159,ci),(158,ch),(157,cg),(156,cf),(155,ce),(154,cd)]) ?_ ?_
       ·refine Qj O O o (fun o=>?_) (fun o=>?_)
        ·refine q0 O<|q0 O<|q9 o fun gj fb o=>Qt fb O<|U _ O<|U _ O<|U _ O<|q0 O<|q0 O<|q9 o fun gk fc o=>Qt fc O<|U _ O<|U _ O<|U _ O<|qb ?_;cases o;exact ⟨_,_,_,_,_,_,_,_,_,_,_,_,O⟩
        refine qa O<|qa O<|qa O<|qa O<|qa O<|qa O<|qa O<|qa O<|qa O<|qa O<|qa O<|U _ O<|qb ?_;cases o;exact ⟨_,_,_,_,_,_,_,_,_,_,_,_,O⟩
       rintro _ ⟨cd,ce,cf,cg,ch,ci,cj,ck,cl,cm,cn,co,rfl⟩;refine qf O<|qb ?_;refine qq O a (fun _ a=>?_) (fun _ a=>?_)
       ·refine Qf [q7,(some [1,2],[1,3]),(some [],[2]),q7,q7,q7,q7,q7,q7,q7,q7,q7,q7,q7,q7,q7,q7,q7,q7,q7,q7,q7,q7,q7,q7,q7,q7,q7,q7,q7,q7] ql<|q0 O<|q0 O<|q0 O<|q9 a fun fd fe a=>Qt fe O<|U _ O<|U _ O<|U _ O<|q0 O<|q0 O<|q9 a fun ff fg a=>Qt fg O<|U _ O<|U _ O<|U _ O<|Us (r:=min fd.A.Y ff.B.Y) O O (by simp only [Up];rfl)<|q0 O<|q0 O<|q9 a fun fh fi a=>Qt fi O<|U _ O<|U _ O<|U _ O<|q0 O<|q0 O<|q9 a fun fj fk a=>Qt fk O<|U _ O<|U _ O<|U _ O<|Zk (r:=max fh.A.Y fj.B.Y) O O (by simp only [Zj];rfl)<|U _ O<|K1 _ _ O<|q9 a fun gl fl a=>Yn _ fl O O O O O O O (Z7 O O) O O O O<|qf O<|qz<|Ql<|Qd ?_;obtain rfl:=qs a;exact ⟨_,O,wkA [(0,0),(1,3)] [] []⟩
       refine qu<|Qd<|Ql<|Qd ?_;obtain rfl:=qs a;exact ⟨_,O,wkA [(0,0),(1,1)] [] []⟩
      intro ab hb;subst hb;refine Q0<|q0 O<|U _ O<|qf O<|qz<|⟨_,qr t,wkA [(0,0),(1,1)] [] []⟩
     refine Qh ?_;refine ⟨_,qr t,fun hm=>?_⟩;subst hm;exact ⟨_,O,wkA [(0,0),(1,1)] [] []⟩
    intro v hb;subst hb;refine qh ?_;refine Zl (st':=⟨[(0,.d (.sl 4 (f.map Kc))),(1,Q1 g),(5,.d (.sl 1 (j.map (eI .i64)))),(7,.hs 0 2 0 c.2.length),(8,qd c.1),(9,.d (.sl 2 (v.map Q8)))],[(0,.dat 2 (c.2.map K6))],1⟩) (wkA [(0,0)] [1] []) ?_ qe;refine Q0<|q0 O<|q9 h fun fm fn h=>Qw (qy4 v fm fn) O<|qf O<|qb<|Q0<|q0 O<|q0 O<|q0 O<|q9 h fun gm fo h=>Qt fo O<|U _ O<|q0 O<|U _ O<|K1 _ _ O<|q9 h fun gn fq h=>Yn _ fq O O O O O O O (Z7 O O) O O O O<|qf O<|qz ?_;obtain rfl:=qs h;exact ⟨_,O,wkA [(0,2)] [] []⟩
   intro z hb;subst hb;refine Q0<|q0 O<|U _ O<|qf O<|qz<|⟨_,qr s,wkA [(0,0)] [] []⟩
  refine Qh ?_;refine ⟨_,qr s,fun hm=>?_⟩;subst hm;exact ⟨_,O,wkA [(0,0)] [] []⟩
 intro y hb;subst hb;refine qg<|q0 O<|qf O<|Qa ?_;obtain rfl:=qs p;exact finD (.inr O) O (Jp O O) (.refl _)
theorem qdm (g : List Kb) (j : Int) (h : Int) (r : Bool) (k : q37 g j h = some r) : Pure Tryz.prog tab 87 [.sl 2 (g.map K6),qi j,qi h] (.bool r):=by
 unfold q37 at k;refine Ka Tryz.func87 O ql ql O<|qg<|qf O<|qb<|qh<|qg<|qf O<|qb<|q9 k fun o ad k=>?_;refine Qq (fun m=>.inl m = o) (fun m=>⟨[],[],0⟩) qe ?_ ?_
 ·refine Qm (q38 g j h) (fun l=>⟨[(0,.d (.sl 2 (g.map K6))),(1,qd j),(2,qd h),(7,qd l)],[],0⟩) _ o ad (wkA [] [] []) ?_;intro l ao c;unfold q38 at c;refine qh<|qg<|q0 O<|q0 O<|Ki O<|U _ O<|qb ?_;refine qq O c (fun _ c=>?_) (fun _ c=>?_)
  ·refine qu<|qh<|q9 c fun ae b c=>?_;refine Qq (fun n=>.inl n = ae) (fun n=>⟨[(0,.d (.sl 2 (g.map K6))),(1,qd j),(2,qd h),(7,qd l)],[],0⟩) qe ?_ ?_
   ·refine qh<|qg<|q0 O<|q0 O<|q9 b fun ap af b=>Qt af O<|U _ O<|U _ O<|q0 O<|U _ O<|qb ?_;refine qq O b (fun _ b=>?_) (fun _ b=>?_)
    ·refine Qh ?_;obtain rfl:=qs b;exact ⟨_,O,wkA [] [] []⟩
    refine qu<|qg<|qf O<|qb<|q9 b fun ag ah b=>Qe<|Qm (q39 g l h) (fun p=>⟨[(0,.d (.sl 2 (g.map K6))),(1,qd j),(2,qd h),(7,qd l),(8,qd p)],[],0⟩) _ ag ah (wkA [] [] []) ?_;intro p aq a;unfold q39 at a;refine qh<|qg<|q0 O<|q0 O<|q0 O<|q9 a fun ar ai a=>Qt ai O<|U _ O<|U _ O<|Ki O<|U _ O<|qb ?_;refine qq O a (fun _ a=>?_) (fun _ a=>?_)
    ·refine qu<|qh<|Qe<|qg<|q0 O<|q0 O<|q9 a fun au aj a=>Qt aj O<|U _ O<|U _ O<|q0 O<|q9 a fun av ak a=>Qt ak O<|U _ O<|U _ O<|q0 O<|U _ O<|q9 a fun al f a=>?_;refine Qi 13 (fun A st=>∃ q s t u v w x y z aa ab ac,st = A [(55,Q1 al),(54,ac),(53,ab),(52,aa),(51,z),(50,y),(49,x),(48,w),(47,v),(46,u),(45,t),(44,s),(43,q)]) ?_ ?_
     ·refine Qj O O f (fun f=>?_) (fun f=>?_)
      ·refine q0 O<|q0 O<|q0 O<|q9 f fun aw am f=>Qt am O<|U _ O<|U _ O<|q0 O<|q9 f fun ax an f=>Qt an O<|U _ O<|U _ O<|U _ O<|U _ O<|qb ?_;cases f;exact ⟨_,_,_,_,_,_,_,_,_,_,_,_,O⟩
      refine qa O<|qa O<|qa O<|qa O<|qa O<|qa O<|qa O<|qa O<|qa O<|qa O<|qa O<|U _ O<|qb ?_;cases f;exact ⟨_,_,_,_,_,_,_,_,_,_,_,_,O⟩
     rintro _ ⟨q,s,t,u,v,w,x,y,z,aa,ab,ac,rfl⟩;refine qb ?_;refine qq O a (fun _ a=>?_) (fun _ a=>?_)
     ·refine qg<|qf O<|Qa ?_;refine ⟨_,qr a,fun hm=>?_⟩;subst hm;obtain rfl:=qs b;refine ⟨_,qr c,fun hm=>?_⟩;subst hm;cases k;exact Qv _ O
     refine qu<|Qd<|Ql<|Q0<|q0 O<|U _ O<|qf O<|qz<|⟨_,qr a,wkA [] [] []⟩
    refine Qh ?_;refine ⟨_,qr a,fun hm=>?_⟩;subst hm;obtain rfl:=qs b;exact ⟨_,O,wkA [] [] []⟩
   intro n hb;subst hb;refine Q0<|q0 O<|U _ O<|qf O<|qz<|⟨_,qr c,wkA [] [] []⟩
  refine Qh ?_;refine ⟨_,qr c,fun hm=>?_⟩;subst hm;exact ⟨_,O,wkA [] [] []⟩
 intro m hb;subst hb;refine qg<|qf O<|Qa ?_;cases k;exact Qv _ O
theorem qmb (c : List Kb) (d : List Kb) (a : qc) (r : (Bool × Bool × Bool × Bool)) (b : q67 c d a = some r) : Pure Tryz.prog tab 66 [.sl 2 (c.map K6),.sl 2 (d.map K6),.agg (qt a)] (.agg [.bool r.1,.bool r.2.1,.bool r.2.2.1,.bool r.2.2.2]):=by
 unfold q67 at b;refine Ka Tryz.func66 O ql ql O<|qg<|K1 _ _ O<|K8 O O<|qb<|qh<|Qf [Qk 1,q7,q7,q7,qv 0,q7,qv 0,q7,q7,q7,q7,qv 0,q7,qv 0,q7,q7,q7,qv 0,q7,qv 0,q7,q7,q7,qv 0,q7,qv 0,q7,q7] ql<|q0 O<|U _ O<|U _ O<|U _ O<|U _ O<|q9 b fun f g b=>Qw (qdm c a.Y a.X f g) O<|q0 O<|U _ O<|U _ O<|U _ O<|U _ O<|q9 b fun h j b=>Qw (qdm d a.X a.Y h j) O<|q0 O<|U _ O<|U _ O<|U _ O<|U _ O<|U _ O<|q9 b fun k l b=>Qw (qdm c a.Y (w64 (a.X - 1)) k l) O<|q0 O<|U _ O<|U _ O<|U _ O<|U _ O<|U _ O<|q9 b fun m n b=>Qw (qdm d a.X (w64 (a.Y - 1)) m n) O<|U _ O<|Qr 1 _ O<|Qa ?_;cases b;exact Qv _ O
theorem qgh (h : List Kb) (j : List Kb) (k : qc) (r : Bool) (b : q2h h j k = some r) : Pure Tryz.prog tab 85 [.sl 2 (h.map K6),.sl 2 (j.map K6),.agg (qt k)] (.bool r):=by
 unfold q2h at b;refine Ka Tryz.func85 O ql ql O<|qg<|K1 _ _ O<|qf O<|qy<|q0 O<|q0 O<|U _ O<|q9 b fun r1 h2 b=>Qw (qmb h j k r1 h2) O<|K8 O O<|Qr 1 _ O<|qy<|U _ O<|U _ O<|U _ O<|q9 b fun c3 c b=>?_;refine Qi 5 (fun A st=>∃ l m n o,st = A [(20,Q1 c3),(19,o),(18,n),(17,m),(16,l)]) ?_ ?_
 ·refine Qj O O c (fun c=>?_) (fun c=>?_)
  ·refine qa O<|qa O<|qa O<|U _ O<|qb ?_;cases c;exact ⟨_,_,_,_,O⟩
  refine U _ O<|U _ O<|U _ O<|U _ O<|qb ?_;cases c;exact ⟨_,_,_,_,O⟩
 rintro _ ⟨l,m,n,o,rfl⟩;refine qf O<|qy<|q0 O<|U _ O<|q9 b fun ar a b=>?_;refine Qi 16 (fun A st=>∃ p q s t u v w x y z aa ab ac ad ae,st = A [(38,Q1 ar),(37,ae),(36,ad),(35,ac),(34,ab),(33,aa),(32,z),(31,y),(30,x),(29,w),(28,v),(27,u),(26,t),(25,s),(24,q),(23,p)]) ?_ ?_
 ·refine Qj O O a (fun a=>?_) (fun a=>?_)
  ·refine U _ O<|U _ O<|q9 a fun au d a=>?_;refine Qi 4 (fun A st=>∃ af ag ah,st = A [(29,Q1 au),(28,ah),(27,ag),(26,af)]) ?_ ?_
   ·refine Qj O O d (fun d=>?_) (fun d=>?_)
    ·refine qa O<|qa O<|U _ O<|qb ?_;cases d;exact ⟨_,_,_,O⟩
    refine U _ O<|U _ O<|U _ O<|qb ?_;cases d;exact ⟨_,_,_,O⟩
   rintro _ ⟨af,ag,ah,rfl⟩;refine q9 a fun av f a=>?_;refine Qi 4 (fun A st=>∃ ai aj ak,st = A [(33,Q1 av),(32,ak),(31,aj),(30,ai)]) ?_ ?_
   ·refine Qj O O f (fun f=>?_) (fun f=>?_)
    ·refine qa O<|qa O<|U _ O<|qb ?_;cases f;exact ⟨_,_,_,O⟩
    refine U _ O<|U _ O<|U _ O<|qb ?_;cases f;exact ⟨_,_,_,O⟩
   rintro _ ⟨ai,aj,ak,rfl⟩;refine q9 a fun aw g a=>?_;refine Qi 4 (fun A st=>∃ al am an,st = A [(37,Q1 aw),(36,an),(35,am),(34,al)]) ?_ ?_
   ·refine Qj O O g (fun g=>?_) (fun g=>?_)
    ·refine qa O<|qa O<|U _ O<|qb ?_;cases g;exact ⟨_,_,_,O⟩
    refine U _ O<|U _ O<|U _ O<|qb ?_;cases g;exact ⟨_,_,_,O⟩
   rintro _ ⟨al,am,an,rfl⟩;refine U _ O<|qb ?_;cases a;exact ⟨_,_,_,_,_,_,_,_,_,_,_,_,_,_,_,O⟩
  refine qa O<|qa O<|qa O<|qa O<|qa O<|qa O<|qa O<|qa O<|qa O<|qa O<|qa O<|qa O<|qa O<|qa O<|U _ O<|qb ?_;cases a;exact ⟨_,_,_,_,_,_,_,_,_,_,_,_,_,_,_,O⟩
 rintro _ ⟨p,q,s,t,u,v,w,x,y,z,aa,ab,ac,ad,ae,rfl⟩;refine qf O<|Qa ?_;cases b;exact Qv _ O
theorem qxy (d : qc) (f : qc) (r : Bool) (c : q69 d f = some r) : Pure Tryz.prog tab 104 [.agg (qt d),.agg (qt f)] (.bool r):=by
 unfold q69 at c;refine Ka Tryz.func104 O ql ql O<|qg<|K1 _ _ O<|K1 _ _ O<|qf O<|qy<|U _ O<|U _ O<|U _ O<|U _ O<|U _ O<|q9 c fun c9 a c=>?_;refine Qi 14 (fun A st=>∃ g h j k l m n o p q s t u,st = A [(23,Q1 c9),(22,u),(21,t),(20,s),(19,q),(18,p),(17,o),(16,n),(15,m),(14,l),(13,k),(12,j),(11,h),(10,g)]) ?_ ?_
 ·refine Qj O O a (fun a=>?_) (fun a=>?_)
  ·refine qa O<|qa O<|qa O<|qa O<|qa O<|qa O<|qa O<|qa O<|qa O<|qa O<|qa O<|qa O<|U _ O<|qb ?_;cases a;exact ⟨_,_,_,_,_,_,_,_,_,_,_,_,_,O⟩
  refine U _ O<|U _ O<|U _ O<|U _ O<|U _ O<|q9 a fun ac b a=>?_;refine Qi 7 (fun A st=>∃ v w x y z aa,st = A [(22,Q1 ac),(21,aa),(20,z),(19,y),(18,x),(17,w),(16,v)]) ?_ ?_
  ·refine Qj O O b (fun b=>?_) (fun b=>?_)
   ·refine U _ O<|U _ O<|U _ O<|U _ O<|U _ O<|U _ O<|qb ?_;cases b;exact ⟨_,_,_,_,_,_,O⟩
   refine qa O<|qa O<|qa O<|qa O<|qa O<|U _ O<|qb ?_;cases b;exact ⟨_,_,_,_,_,_,O⟩
  rintro _ ⟨v,w,x,y,z,aa,rfl⟩;refine U _ O<|qb ?_;cases a;exact ⟨_,_,_,_,_,_,_,_,_,_,_,_,_,O⟩
 rintro _ ⟨g,h,j,k,l,m,n,o,p,q,s,t,u,rfl⟩;refine qf O<|Qa ?_;cases c;exact Qv _ O
theorem qgi (f : List qc) (b : qc) (r : List qc) (a : q3c  f b = some r) : K3 Tryz.prog tab 86 [.hs 0 2 0 f.length,.d (.agg [qi ((b).X),qi ((b).Y)])] [(0,.dat 2 (f.map qt))] 1 (.hs 1 2 0 r.length) [(1,.dat 2 (r.map qt))] 2:=by
 unfold q3c at a;refine Kn Tryz.func86 O ql ql O<|qg<|K1 _ _ O<|qf O<|qy<|qf O<|qb<|qh<|q9 a fun n al a=>?_;refine Qq (fun k=>k = n) (fun k=>⟨[(0,.hs 0 2 0 f.length),(3,.ref 1 2 0 0),(5,qd k)],[(0,.dat 2 (f.map qt)),(1,.dat 2 [[qi ((b).X),qi ((b).Y)]])],2⟩) qe ?_ ?_
 ·refine Qm (q3d f b) (fun o=>⟨[(0,.hs 0 2 0 f.length),(3,.ref 1 2 0 0),(5,qd o)],[(0,.dat 2 (f.map qt)),(1,.dat 2 [[qi ((b).X),qi ((b).Y)]])],2⟩) _ n al (wkA [(1,1)] [] []) ?_;intro o au g;unfold q3d at g;refine qh<|qh<|Qf [q7,q7,qv 1,qv 0,q7,q7,q7,q7,q7,q7,q7,q7] ql<|q0 O<|q0 O<|U _ O<|U _ O<|q9 g fun am c g=>?_;refine Qi 8 (fun A st=>∃ p q s t u v x,st = A [(17,Q1 am),(16,x),(15,v),(14,u),(13,t),(12,s),(11,q),(10,p)]) ?_ ?_
  ·refine Qj O O c (fun c=>?_) (fun c=>?_)
   ·refine q0 O<|q0 O<|q9 c fun an y c=>qp y O O<|Q2 _ y O<|U _ O<|q9 c fun ao ap c=>Qw (qxy an ({X:=(b).X,Y:=(b).Y} : qc) ao ap) O<|U _ O<|qb ?_;cases c;exact ⟨_,_,_,_,_,_,_,O⟩
   refine qa O<|qa O<|qa O<|qa O<|qa O<|qa O<|U _ O<|qb ?_;cases c;exact ⟨_,_,_,_,_,_,_,O⟩
  rintro _ ⟨p,q,s,t,u,v,x,rfl⟩;refine qb ?_;refine qq O g (fun _ g=>?_) (fun _ g=>?_)
  ·refine qu<|Qe<|Q0<|q0 O<|U _ O<|qf O<|qz<|Ql<|Qd<|⟨_,qr g,wkA [(1,1)] [] []⟩
  refine Qh ?_;refine ⟨_,qr g,fun hm=>?_⟩;subst hm;exact ⟨_,O,wkA [(1,1)] [] []⟩
 intro k hb;subst hb;refine qh<|qh<|Qf [q7,q7,qv 1,qv 0,q7,q7,q7,q7,q7,q7,q7,q7] ql<|q0 O<|q0 O<|U _ O<|U _ O<|q9 a fun aq h a=>?_;refine Qi 8 (fun A st=>∃ z aa ab ac ad ae af,st = A [(31,Q1 aq),(30,af),(29,ae),(28,ad),(27,ac),(26,ab),(25,aa),(24,z)]) ?_ ?_
 ·refine Qj O O h (fun h=>?_) (fun h=>?_)
  ·refine q0 O<|q0 O<|q9 h fun av ag h=>qp ag O O<|Q2 _ ag O<|U _ O<|U _ O<|U _ O<|qb ?_;cases h;exact ⟨_,_,_,_,_,_,_,O⟩
  refine qa O<|qa O<|qa O<|qa O<|qa O<|qa O<|U _ O<|qb ?_;cases h;exact ⟨_,_,_,_,_,_,_,O⟩
 rintro _ ⟨z,aa,ab,ac,ad,ae,af,rfl⟩;refine qb ?_;refine qq O a (fun _ a=>?_) (fun _ a=>?_)
 ·refine qg<|q0 O<|qf O<|Qa ?_;obtain rfl:=qs a;exact ⟨.inr O,_,O,wkA [(1,0)] [] []⟩
 refine qu<|qg<|q0 O<|U _ O<|K1 _ _ O<|q9 a fun l ar a=>Yn _ ar O O O O O O O (Z7 O O) O O O O<|qf O<|qb<|qh<|Qf [Qk 3,q7,q7,q7,q7,q7,q7,q7] ql<|q0 O<|q0 O<|U _ O<|q9 a fun ah m a=>q62 m O O O O O (q5d O) (fun _=>rfl)<|q0 O<|q0 O<|q9 a fun j ai a=>q62 ai O O O O O (q5d O) (fun _=>rfl)<|qlh (w:=ah) (xs:=l) (ys:=(l.drop j.1).take j.2) (enc:=qt) (.hs 3 2 j.1 j.2) (q3p m) O O O O O O (qci (q3p ai) O) O O O O ?_;have aj:=@qcj _ l ((l.drop j.1).take j.2) ah (q3p m);refine qy<|q0 O<|q0 O<|U _ O<|q9 a fun aw ak a=>qp ak (by simp [aj]) O<|Qp ({X:=(b).X,Y:=(b).Y} : qc) ak O O O O O O O O (leb O) O<|qy<|q0 O<|qf O<|Qa ?_;obtain rfl:=qs a;exact ⟨.inr O,_,O,wkE [(1,3)] [] [] O ⟨⟨_,O,Qy (by simp [aj]) O Q3 (ltd O)⟩,trivial⟩ ⟨Qo O O,trivial⟩⟩
theorem qy3 (b : List Kb) (a : List Kb) (r : List qc) (y : q95 b a = some r) : Pure Tryz.prog tab 65 [.sl 2 (b.map K6),.sl 2 (a.map K6)] (.sl 2 (r.map qt)):=by
 unfold q95 at y;refine Ka Tryz.func65 O ql ql O<|qg<|qf O<|qy<|qf O<|qb<|qh<|qg<|qf O<|qb<|q9 y fun ay bt y=>?_;refine Qq (fun ab=>ab = ay) (fun ab=>⟨[(0,.d (.sl 2 (b.map K6))),(1,.d (.sl 2 (a.map K6))),(5,.hs 0 2 0 ab.length)],[(0,.dat 2 (ab.map qt))],1⟩) qe ?_ ?_
 ·refine Qm (q4k b a) (fun g=>⟨[(0,.d (.sl 2 (b.map K6))),(1,.d (.sl 2 (a.map K6))),(5,.hs 0 2 0 g.2.length),(6,qd g.1)],[(0,.dat 2 (g.2.map qt))],1⟩) _ ay bt (wkA [] [] [0]) ?_;intro g dl s;unfold q4k at s;refine qh<|qg<|q0 O<|q0 O<|Ki O<|U _ O<|qb ?_;refine qq O s (fun _ s=>?_) (fun _ s=>?_)
  ·refine qu<|qh<|q9 s fun bu an s=>?_;refine Qq (fun ac=>ac = bu) (fun ac=>⟨[(0,.d (.sl 2 (b.map K6))),(1,.d (.sl 2 (a.map K6))),(5,.hs 0 2 0 ac.length),(6,qd g.1)],[(0,.dat 2 (ac.map qt))],1⟩) qe ?_ ?_
   ·refine qg<|qf O<|qb<|q9 an fun bv bw an=>Qe<|Qm (q4l b g a) (fun f=>⟨[(0,.d (.sl 2 (b.map K6))),(1,.d (.sl 2 (a.map K6))),(5,.hs 0 2 0 f.2.length),(6,qd g.1),(7,qd f.1)],[(0,.dat 2 (f.2.map qt))],1⟩) _ bv bw (wkA [(0,0)] [] []) ?_;intro f dm m;unfold q4l at m;refine qh<|qg<|q0 O<|q0 O<|q0 O<|q9 m fun dn bx m=>Qt bx O<|U _ O<|U _ O<|Ki O<|U _ O<|qb ?_;refine qq O m (fun _ m=>?_) (fun _ m=>?_)
    ·refine qu<|qh<|q9 m fun bz o m=>?_;refine Qq (fun ad=>ad = bz) (fun ad=>⟨[(0,.d (.sl 2 (b.map K6))),(1,.d (.sl 2 (a.map K6))),(5,.hs 0 2 0 ad.length),(6,qd g.1),(7,qd f.1)],[(0,.dat 2 (ad.map qt))],1⟩) qe ?_ ?_
     ·refine qg<|q0 O<|q0 O<|q9 o fun dp ca o=>Qt ca O<|U _ O<|U _ O<|q0 O<|q9 o fun ao cb o=>Qt cb O<|U _ O<|K8 O O<|Qr 1 _ O<|qy<|U _ O<|U _ O<|U _ O<|U _ O<|K1 _ _ O<|qf O<|qb<|qh<|qg<|qf O<|qb<|q9 o fun az cc o=>?_;refine Qq (fun l=>l = az) (fun l=>⟨[(0,.d (.sl 2 (b.map K6))),(1,.d (.sl 2 (a.map K6))),(5,.hs 0 2 0 f.2.length),(6,qd g.1),(7,qd f.1),(9,.hs 1 1 0 l.length)],[(0,.dat 2 (f.2.map qt)),(1,.dat 1 (l.map (eI .i64)))],2⟩) qe ?_ ?_
      ·refine Qm (q4m a ao) (fun ae=>⟨[(0,.d (.sl 2 (b.map K6))),(1,.d (.sl 2 (a.map K6))),(5,.hs 0 2 0 f.2.length),(6,qd g.1),(7,qd f.1),(8,.ref 1 2 0 0),(9,.hs 2 1 0 ae.2.length),(10,qd ae.1)],[(0,.dat 2 (f.2.map qt)),(1,.dat 2 [(Q8 ao)]),(2,.dat 1 (ae.2.map (eI .i64)))],3⟩) _ az cc (wkA [(0,0),(1,1),(2,2)] [] []) ?_;intro ae dq t;unfold q4m at t;refine qh<|qg<|q0 O<|q0 O<|Ki O<|U _ O<|qb ?_;refine qq O t (fun _ t=>?_) (fun _ t=>?_)
       ·refine qu<|qh<|q9 t fun cd h t=>?_;refine Qq (fun af=>af = cd) (fun af=>⟨[(0,.d (.sl 2 (b.map K6))),(1,.d (.sl 2 (a.map K6))),(5,.hs 0 2 0 f.2.length),(6,qd g.1),(7,qd f.1),(8,.ref 1 2 0 0),(9,.hs 2 1 0 af.length),(10,qd ae.1)],[(0,.dat 2 (f.2.map qt)),(1,.dat 2 [(Q8 ao)]),(2,.dat 1 (af.map (eI .i64)))],3⟩) qe ?_ ?_
        ·refine qh<|Qf [q7,q7,qv 1,q7,q7,q7,q7,q7,q7,q7,q7,qv 1,q7,q7,q7,q7,q7,q7] ql<|q0 O<|q0 O<|q9 h fun dr ce h=>Qt ce O<|U _ O<|U _ O<|U _ O<|U _ O<|U _ O<|q9 h fun cf v h=>?_;refine Qi 10 (fun A st=>∃ ba bb bc bd be bf bg bh bi,st = A [(70,Q1 cf),(69,bi),(68,bh),(67,bg),(66,bf),(65,be),(64,bd),(63,bc),(62,bb),(61,ba)]) ?_ ?_
         ·refine Qj O O v (fun v=>?_) (fun v=>?_)
          ·refine q0 O<|q0 O<|q9 v fun ds cg v=>Qt cg O<|U _ O<|U _ O<|U _ O<|U _ O<|U _ O<|U _ O<|qb ?_;cases v;exact ⟨_,_,_,_,_,_,_,_,_,O⟩
          refine qa O<|qa O<|qa O<|qa O<|qa O<|qa O<|qa O<|qa O<|U _ O<|qb ?_;cases v;exact ⟨_,_,_,_,_,_,_,_,_,O⟩
         rintro _ ⟨ba,bb,bc,bd,be,bf,bg,bh,bi,rfl⟩;refine qb ?_;refine qq O h (fun _ h=>?_) (fun _ h=>?_)
         ·refine Q0<|q0 O<|q0 O<|q0 O<|q9 h fun dt ch h=>Qt ch O<|U _ O<|U _ O<|K1 _ _ O<|q9 h fun du ci h=>Yn _ ci O O O O O O O (Z7 O O) O O O O<|qf O<|qz ?_;obtain rfl:=qs h;exact ⟨_,O,wkA [(0,0),(1,1),(2,4)] [] []⟩
         refine qu<|Qd ?_;obtain rfl:=qs h;exact ⟨_,O,wkA [(0,0),(1,1),(2,2)] [] []⟩
        intro af hb;subst hb;refine Q0<|q0 O<|U _ O<|qf O<|qz<|⟨_,qr t,wkA [(0,0),(1,1),(2,2)] [] []⟩
       refine Qh ?_;refine ⟨_,qr t,fun hm=>?_⟩;subst hm;exact ⟨_,O,wkA [(0,0),(1,2)] [] []⟩
      intro l hb;subst hb;refine qg<|qf O<|qb<|q9 o fun cj ck o=>Qe<|Qm (q3a l b g a) (fun z=>⟨[(0,.d (.sl 2 (b.map K6))),(1,.d (.sl 2 (a.map K6))),(5,.hs 0 2 0 z.2.length),(6,qd g.1),(7,qd f.1),(9,.hs 1 1 0 l.length),(11,qd z.1)],[(0,.dat 2 (z.2.map qt)),(1,.dat 1 (l.map (eI .i64)))],2⟩) _ cj ck (wkA [(0,0),(1,1)] [] []) ?_;intro z dv n;unfold q3a at n;refine qh<|qg<|q0 O<|q0 O<|U _ O<|U _ O<|q9 n fun cl ag n=>?_;refine Qi 5 (fun A st=>∃ bj bk bl bm,st = A [(87,Q1 cl),(86,bm),(85,bl),(84,bk),(83,bj)]) ?_ ?_
      ·refine Qj O O ag (fun ag=>?_) (fun ag=>?_)
       ·refine q0 O<|U _ O<|U _ O<|U _ O<|qb ?_;cases ag;exact ⟨_,_,_,_,O⟩
       refine qa O<|qa O<|qa O<|U _ O<|qb ?_;cases ag;exact ⟨_,_,_,_,O⟩
      rintro _ ⟨bj,bk,bl,bm,rfl⟩;refine qb ?_;refine qq O n (fun _ n=>?_) (fun _ n=>?_)
      ·refine qu<|qh<|q9 n fun cm j n=>?_;refine Qq (fun ah=>ah = cm) (fun ah=>⟨[(0,.d (.sl 2 (b.map K6))),(1,.d (.sl 2 (a.map K6))),(5,.hs 0 2 0 ah.length),(6,qd g.1),(7,qd f.1),(9,.hs 1 1 0 l.length),(11,qd z.1)],[(0,.dat 2 (ah.map qt)),(1,.dat 1 (l.map (eI .i64)))],2⟩) qe ?_ ?_
       ·refine qh<|Qf [Qk 2,(some [],[2]),q7,q7,q7,q7,q7,q7,qv 1,q7,q7,q7] ql<|q0 O<|q0 O<|q9 j fun ap bn j=>qp bn O O<|Q2 _ bn O<|q0 O<|q0 O<|q9 j fun aq cn j=>Qt cn O<|U _ O<|U _ O<|U _ O<|K8 O O<|Qr 2 _ O<|qy<|q0 O<|q0 O<|U _ O<|q9 j fun co cp j=>Qw (qgh b a ({X:=ap,Y:=aq.At} : qc) co cp) O<|qb ?_;refine qq O j (fun _ j=>?_) (fun _ j=>?_)
        ·refine Q0<|q0 O<|U _ O<|q9 j fun ar cq j=>K4 [(0,0)] [(0,0),(1,2),(2,2),(3,1)] _ (.hs 3 2 0 ar.length) 1 [(3,.dat 2 (ar.map qt)),(1,.dat 1 (l.map (eI .i64))),(2,.dat 2 [[qi ap,qi aq.At]])] 4 (qgi z.2 ({X:=ap,Y:=aq.At} : qc) ar cq)<|qf O<|qz ?_;obtain rfl:=qs j;exact ⟨_,O,wkA [(0,3),(1,1)] [] []⟩
        refine qu<|Qd ?_;obtain rfl:=qs j;exact ⟨_,O,wkA [(0,0),(1,1)] [] []⟩
       intro ah hb;subst hb;refine Q0<|q0 O<|U _ O<|qf O<|qz<|⟨_,qr n,wkA [(0,0),(1,1)] [] []⟩
      refine Qh ?_;refine ⟨_,qr n,fun hm=>?_⟩;subst hm;obtain rfl:=qs o;exact ⟨_,O,wkA [(0,0)] [] []⟩
     intro ad hb;subst hb;refine Q0<|q0 O<|U _ O<|qf O<|qz<|⟨_,qr m,wkA [(0,0)] [] []⟩
    refine Qh ?_;refine ⟨_,qr m,fun hm=>?_⟩;subst hm;obtain rfl:=qs an;exact ⟨_,O,wkA [(0,0)] [] []⟩
   intro ac hb;subst hb;refine Q0<|q0 O<|U _ O<|qf O<|qz<|⟨_,qr s,wkA [(0,0)] [] []⟩
  refine Qh ?_;refine ⟨_,qr s,fun hm=>?_⟩;subst hm;exact ⟨_,O,wkA [(0,0)] [] []⟩
 intro ab hb;subst hb;refine qh<|qg<|qf O<|qb<|q9 y fun bo cr y=>?_;refine Qq (fun ai=>ai = bo) (fun ai=>⟨[(5,.hs 0 2 0 ai.length)],[(0,.dat 2 (ai.map qt))],1⟩) qe ?_ ?_
 ·refine Qm (q4n a b) (fun p=>⟨[(0,.d (.sl 2 (b.map K6))),(1,.d (.sl 2 (a.map K6))),(5,.hs 0 2 0 p.2.length),(13,qd p.1)],[(0,.dat 2 (p.2.map qt))],1⟩) _ bo cr (wkA [(0,0)] [] []) ?_;intro p dw u;unfold q4n at u;refine qh<|qg<|q0 O<|q0 O<|Ki O<|U _ O<|qb ?_;refine qq O u (fun _ u=>?_) (fun _ u=>?_)
  ·refine qu<|qh<|q9 u fun cs au u=>?_;refine Qq (fun aj=>aj = cs) (fun aj=>⟨[(0,.d (.sl 2 (b.map K6))),(1,.d (.sl 2 (a.map K6))),(5,.hs 0 2 0 aj.length),(13,qd p.1)],[(0,.dat 2 (aj.map qt))],1⟩) qe ?_ ?_
   ·refine qg<|qf O<|qb<|q9 au fun ct cu au=>Qe<|Qm (q3b a p b) (fun w=>⟨[(0,.d (.sl 2 (b.map K6))),(1,.d (.sl 2 (a.map K6))),(5,.hs 0 2 0 w.2.length),(13,qd p.1),(14,qd w.1)],[(0,.dat 2 (w.2.map qt))],1⟩) _ ct cu (wkA [(0,0)] [] []) ?_;intro w dx k;unfold q3b at k;refine qh<|qg<|q0 O<|q0 O<|q0 O<|q9 k fun dy cv k=>Qt cv O<|U _ O<|U _ O<|Ki O<|U _ O<|q9 k fun cw ak k=>?_;refine Qi 5 (fun A st=>∃ bp bq br bs,st = A [(125,Q1 cw),(124,bs),(123,br),(122,bq),(121,bp)]) ?_ ?_
    ·refine Qj O O ak (fun ak=>?_) (fun ak=>?_)
     ·refine q0 O<|U _ O<|U _ O<|U _ O<|qb ?_;cases ak;exact ⟨_,_,_,_,O⟩
     refine qa O<|qa O<|qa O<|U _ O<|qb ?_;cases ak;exact ⟨_,_,_,_,O⟩
    rintro _ ⟨bp,bq,br,bs,rfl⟩;refine qb ?_;refine qq O k (fun _ k=>?_) (fun _ k=>?_)
    ·refine qu<|qh<|q9 k fun cx c k=>?_;refine Qq (fun al=>al = cx) (fun al=>⟨[(0,.d (.sl 2 (b.map K6))),(1,.d (.sl 2 (a.map K6))),(5,.hs 0 2 0 al.length),(13,qd p.1),(14,qd w.1)],[(0,.dat 2 (al.map qt))],1⟩) qe ?_ ?_
     ·refine qg<|q0 O<|q0 O<|q9 c fun dz cy c=>Qt cy O<|U _ O<|U _ O<|q0 O<|q9 c fun q cz c=>Qt cz O<|U _ O<|K8 O O<|Qr 1 _ O<|qb<|qh<|Qf [Qk 3,Qk 2,(some [],[3]),(some [],[2]),q7,qv 1,q7,q7,q7,q7,q7,q7,q7,qv 1,q7,q7,q7,q7,q7,q7] ql<|q0 O<|q0 O<|q9 c fun av da c=>Qt da O<|U _ O<|U _ O<|U _ O<|U _ O<|U _ O<|q0 O<|q0 O<|q9 c fun am dc c=>Qt dc O<|U _ O<|U _ O<|U _ O<|U _ O<|U _ O<|K8 O O<|K8 O O<|Qr 2 _ O<|Qr 3 _ O<|qb<|qh ?_;refine qg<|q0 O<|q0 O<|U _ O<|q9 c fun dd de c=>Qw (qgh b a ({X:=av.At,Y:=q.Lo} : qc) dd de) O<|qb<|q9 c fun df x c=>?_;refine Y0 (fun aa=>aa = df) (fun aa=>⟨[(0,.d (.sl 2 (b.map K6))),(1,.d (.sl 2 (a.map K6))),(5,.hs 0 2 0 aa.length),(13,qd p.1),(14,qd w.1),(17,.ref 1 2 0 0)],[(0,.dat 2 (aa.map qt)),(1,.dat 2 [[qi am.At,qi q.Hi]])],2⟩) qe ?_ ?_
      ·refine qq O x (fun _ x=>?_) (fun _ x=>?_)
       ·refine Q0<|q0 O<|U _ O<|q9 x fun aw dg x=>K4 [(0,0)] [(0,0),(1,2),(2,2),(3,2),(4,1)] _ (.hs 4 2 0 aw.length) 1 [(4,.dat 2 (aw.map qt)),(1,.dat 2 [(Q8 q)]),(2,.dat 2 [[qi av.At,qi q.Lo]]),(3,.dat 2 [[qi am.At,qi q.Hi]])] 5 (qgi w.2 ({X:=av.At,Y:=q.Lo} : qc) aw dg)<|qf O<|qz ?_;obtain rfl:=qs x;exact ⟨_,O,wkA [(0,4),(1,3)] [] []⟩
       refine qu<|Qd ?_;obtain rfl:=qs x;exact ⟨_,O,wkA [(0,0),(1,3)] [] []⟩
      intro aa hb;subst hb;refine qg<|q0 O<|q0 O<|U _ O<|q9 c fun dh dj c=>Qw (qgh b a ({X:=am.At,Y:=q.Hi} : qc) dh dj) O<|qb ?_;refine qq O c (fun _ c=>?_) (fun _ c=>?_)
      ·refine Q0<|q0 O<|U _ O<|q9 c fun ax dk c=>K4 [(0,0)] [(0,0),(1,2),(2,1)] _ (.hs 2 2 0 ax.length) 1 [(2,.dat 2 (ax.map qt)),(1,.dat 2 [[qi am.At,qi q.Hi]])] 3 (qgi aa ({X:=am.At,Y:=q.Hi} : qc) ax dk)<|qf O<|qz ?_;obtain rfl:=qs c;exact ⟨_,O,wkA [(0,2)] [] []⟩
      refine qu<|Qd ?_;obtain rfl:=qs c;exact ⟨_,O,wkA [(0,0)] [] []⟩
     intro al hb;subst hb;refine Q0<|q0 O<|U _ O<|qf O<|qz<|⟨_,qr k,wkA [(0,0)] [] []⟩
    refine Qh ?_;refine ⟨_,qr k,fun hm=>?_⟩;subst hm;obtain rfl:=qs au;exact ⟨_,O,wkA [(0,0)] [] []⟩
   intro aj hb;subst hb;refine Q0<|q0 O<|U _ O<|qf O<|qz<|⟨_,qr u,wkA [(0,0)] [] []⟩
  refine Qh ?_;refine ⟨_,qr u,fun hm=>?_⟩;subst hm;exact ⟨_,O,wkA [(0,0)] [] []⟩
 intro ai hb;subst hb;refine qg<|q0 O<|qf O<|Qa ?_;obtain rfl:=qs y;exact finD (.inr O) O (Jp O O) (.refl _)
theorem qy0 (p0 : List Q6) (r : K5 × Bool) (f : q4e p0 = some r) : Pure Tryz.prog tab 44 [.sl 4 (p0.map Kc)] (.tup [.agg [.sl 2 (r.1.Nodes.map qt),.sl 2 (r.1.Edges.map Qc)],.bool r.2]):=by
 unfold q4e at f;refine Ka Tryz.func44 O ql ql O<|qg<|K8 O O<|qf O<|qy<|q0 O<|q9 f fun h h2 f=>Qw (qmd p0 true h h2) O<|q0 O<|q9 f fun j h4 f=>Qw (qmd p0 false j h4) O<|qf O<|qf O<|qy<|q0 O<|q0 O<|q9 f fun k h6 f=>Qw (qy3 h j k h6) O<|U _ O<|K8 O O<|Qr 1 _ O<|qb<|qh<|qg<|U _ O<|U _ O<|Ki O<|U _ O<|qb ?_;refine qq O f (fun _ f=>?_) (fun _ f=>?_)
 ·refine qg<|U _ O<|Qr 0 _ O<|qf O<|Qa ?_;obtain rfl:=qs f;exact finD (.inr O) O O (Ys (.cons (Zt (.cons (.nil _) (.cons (.nil _) .nil))) (.cons (.refl _) .nil)))
 refine qu<|qh<|qg<|qf O<|qb<|q9 f fun ad aw f=>?_;refine Qq (fun q=>q = ad) (fun q=>⟨[(2,.ref 0 2 0 0),(6,.ref 1 2 0 0)],[(0,.dat 2 [[.nilsl,.nilsl]]),(1,.cel 2 [[.d (.sl 2 (k.map qt)),.hs 2 2 0 q.length]]),(2,.dat 2 (q.map Qc))],3⟩) qe ?_ ?_
 ·refine Qm (q4f k h j) (fun c=>⟨[(2,.ref 0 2 0 0),(4,.d (.sl 2 (h.map K6))),(5,.d (.sl 2 (j.map K6))),(6,.ref 1 2 0 0),(7,qd c.1)],[(0,.dat 2 [[.nilsl,.nilsl]]),(1,.cel 2 [[.d (.sl 2 (k.map qt)),.hs 2 2 0 c.2.length]]),(2,.dat 2 (c.2.map Qc))],3⟩) _ ad aw (wkA [(0,0),(1,1)] [] [2]) ?_;intro c bm l;unfold q4f at l;refine qh<|qg<|q0 O<|U _ O<|U _ O<|Ki O<|U _ O<|qb ?_;refine qq O l (fun _ l=>?_) (fun _ l=>?_)
  ·refine qu<|qh<|q9 l fun ax b l=>?_;refine Qq (fun s=>s = ax) (fun s=>⟨[(2,.ref 0 2 0 0),(4,.d (.sl 2 (h.map K6))),(5,.d (.sl 2 (j.map K6))),(6,.ref 1 2 0 0),(7,qd c.1)],[(0,.dat 2 [[.nilsl,.nilsl]]),(1,.cel 2 [[.d (.sl 2 (k.map qt)),.hs 2 2 0 s.length]]),(2,.dat 2 (s.map Qc))],3⟩) qe ?_ ?_
   ·refine qg<|U _ O<|U _ O<|q0 O<|q9 b fun t ay b=>Qt ay O<|U _ O<|K8 O O<|Qr 3 _ O<|qy<|q0 O<|q0 O<|U _ O<|q9 b fun a az b=>Qw (qmb h j t a az) O<|K8 O O<|Qr 4 _ O<|qy<|qf O<|qf O<|qb<|qh<|qg<|q0 O<|U _ O<|qf O<|qb<|q9 b fun ae ba b=>?_;refine Qq (fun p=>p = ae) (fun p=>⟨[(2,.ref 0 2 0 0),(4,.d (.sl 2 (h.map K6))),(5,.d (.sl 2 (j.map K6))),(6,.ref 1 2 0 0),(7,qd c.1),(9,.ref 2 4 0 0),(10,qd p.1),(11,qd p.2)],[(0,.dat 2 [[.nilsl,.nilsl]]),(1,.cel 2 [[.d (.sl 2 (k.map qt)),.hs 3 2 0 c.2.length]]),(2,.dat 4 [[.bool a.1,.bool a.2.1,.bool a.2.2.1,.bool a.2.2.2]]),(3,.dat 2 (c.2.map Qc))],4⟩) qe ?_ ?_
    ·refine Qm (q4g k t) (fun n=>⟨[(2,.ref 0 2 0 0),(4,.d (.sl 2 (h.map K6))),(5,.d (.sl 2 (j.map K6))),(6,.ref 1 2 0 0),(7,qd c.1),(8,.ref 2 2 0 0),(9,.ref 3 4 0 0),(10,qd n.1),(11,qd n.2.1),(12,qd n.2.2)],[(0,.dat 2 [[.nilsl,.nilsl]]),(1,.cel 2 [[.d (.sl 2 (k.map qt)),.hs 4 2 0 c.2.length]]),(2,.dat 2 [(qt t)]),(3,.dat 4 [[.bool a.1,.bool a.2.1,.bool a.2.2.1,.bool a.2.2.2]]),(4,.dat 2 (c.2.map Qc))],5⟩) _ ae ba (wkA [(0,0),(1,1),(2,3),(3,4),(4,2)] [] []) ?_;intro n bn m;unfold q4g at m;refine qh<|qg<|q0 O<|U _ O<|U _ O<|Ki O<|U _ O<|qb ?_;refine qq O m (fun _ m=>?_) (fun _ m=>?_)
     ·refine qu<|qh<|q9 m fun bb g m=>?_;refine Qq (fun u=>u = bb) (fun u=>⟨[(2,.ref 0 2 0 0),(4,.d (.sl 2 (h.map K6))),(5,.d (.sl 2 (j.map K6))),(6,.ref 1 2 0 0),(7,qd c.1),(8,.ref 2 2 0 0),(9,.ref 3 4 0 0),(10,qd u.1),(11,qd u.2),(12,qd n.2.2)],[(0,.dat 2 [[.nilsl,.nilsl]]),(1,.cel 2 [[.d (.sl 2 (k.map qt)),.hs 4 2 0 c.2.length]]),(2,.dat 2 [(qt t)]),(3,.dat 4 [[.bool a.1,.bool a.2.1,.bool a.2.2.1,.bool a.2.2.2]]),(4,.dat 2 (c.2.map Qc))],5⟩) qe ?_ ?_
      ·refine qg<|U _ O<|U _ O<|q0 O<|q9 g fun bc bd g=>Qt bd O<|U _ O<|K8 O O<|Qr 5 _ O<|qb<|qh<|qg<|U _ O<|U _ O<|U _ O<|U _ O<|U _ O<|q9 g fun be v g=>?_;refine Qi 4 (fun A st=>∃ af ag ah,st = A [(65,Q1 be),(64,ah),(63,ag),(62,af)]) ?_ ?_
       ·refine Qj O O v (fun v=>?_) (fun v=>?_)
        ·refine q0 O<|U _ O<|U _ O<|qb ?_;cases v;exact ⟨_,_,_,O⟩
        refine qa O<|qa O<|U _ O<|qb ?_;cases v;exact ⟨_,_,_,O⟩
       rintro _ ⟨af,ag,ah,rfl⟩;refine qb<|q9 g fun bf w g=>?_;refine Y0 (fun ac=>ac = bf) (fun ac=>⟨[(2,.ref 0 2 0 0),(4,.d (.sl 2 (h.map K6))),(5,.d (.sl 2 (j.map K6))),(6,.ref 1 2 0 0),(7,qd c.1),(8,.ref 2 2 0 0),(9,.ref 3 4 0 0),(10,qd ac),(11,qd n.2.1),(12,qd n.2.2),(13,.ref 4 2 0 0)],[(0,.dat 2 [[.nilsl,.nilsl]]),(1,.cel 2 [[.d (.sl 2 (k.map qt)),.hs 5 2 0 c.2.length]]),(2,.dat 2 [(qt t)]),(3,.dat 4 [[.bool a.1,.bool a.2.1,.bool a.2.2.1,.bool a.2.2.2]]),(4,.dat 2 [(qt bc)]),(5,.dat 2 (c.2.map Qc))],6⟩) qe ?_ ?_
       ·refine qq O w (fun _ w=>?_) (fun _ w=>?_)
        ·refine Q0<|q0 O<|qf O<|qz ?_;obtain rfl:=qs w;exact ⟨_,O,wkA [(0,0),(1,1),(2,2),(3,3),(4,5),(5,4)] [] []⟩
        refine qu<|Qd ?_;obtain rfl:=qs w;exact ⟨_,O,wkA [(0,0),(1,1),(2,2),(3,3),(4,5),(5,4)] [] []⟩
       intro ac hb;subst hb;refine qg<|U _ O<|U _ O<|U _ O<|U _ O<|U _ O<|q9 g fun bg x g=>?_;refine Qi 4 (fun A st=>∃ ai aj ak,st = A [(75,Q1 bg),(74,ak),(73,aj),(72,ai)]) ?_ ?_
       ·refine Qj O O x (fun x=>?_) (fun x=>?_)
        ·refine q0 O<|U _ O<|U _ O<|qb ?_;cases x;exact ⟨_,_,_,O⟩
        refine qa O<|qa O<|U _ O<|qb ?_;cases x;exact ⟨_,_,_,O⟩
       rintro _ ⟨ai,aj,ak,rfl⟩;refine qb ?_;refine qq O g (fun _ g=>?_) (fun _ g=>?_)
       ·refine Q0<|q0 O<|qf O<|qz ?_;obtain rfl:=qs g;exact ⟨_,O,wkA [(0,0),(1,1),(2,2),(3,3),(4,5)] [] []⟩
       refine qu<|Qd ?_;obtain rfl:=qs g;exact ⟨_,O,wkA [(0,0),(1,1),(2,2),(3,3),(4,5)] [] []⟩
      intro u hb;subst hb;refine Q0<|q0 O<|U _ O<|qf O<|qz<|⟨_,qr m,wkA [(0,0),(1,1),(2,2),(3,3),(4,4)] [] []⟩
     refine Qh ?_;refine ⟨_,qr m,fun hm=>?_⟩;subst hm;exact ⟨_,O,wkA [(0,0),(1,1),(2,3),(3,4)] [] []⟩
    intro p hb;subst hb;refine qh<|qg<|U _ O<|U _ O<|q9 b fun bh y b=>?_;refine Qi 4 (fun A st=>∃ al am an,st = A [(82,Q1 bh),(81,an),(80,am),(79,al)]) ?_ ?_
    ·refine Qj O O y (fun y=>?_) (fun y=>?_)
     ·refine q0 O<|U _ O<|U _ O<|qb ?_;cases y;exact ⟨_,_,_,O⟩
     refine qa O<|qa O<|U _ O<|qb ?_;cases y;exact ⟨_,_,_,O⟩
    rintro _ ⟨al,am,an,rfl⟩;refine qb<|q9 b fun bi o b=>?_;refine Y0 (fun z=>z = bi) (fun z=>⟨[(2,.ref 0 2 0 0),(4,.d (.sl 2 (h.map K6))),(5,.d (.sl 2 (j.map K6))),(6,.ref 1 2 0 0),(7,qd c.1),(9,.ref 2 4 0 0),(11,qd p.2)],[(0,.dat 2 [[.nilsl,.nilsl]]),(1,.cel 2 [[.d (.sl 2 (k.map qt)),.hs 3 2 0 z.length]]),(2,.dat 4 [[.bool a.1,.bool a.2.1,.bool a.2.2.1,.bool a.2.2.2]]),(3,.dat 2 (z.map Qc))],4⟩) qe ?_ ?_
    ·refine qq O o (fun _ o=>?_) (fun _ o=>?_)
     ·refine Q0<|U _ O<|U _ O<|q0 O<|q0 O<|U _ O<|K1 _ _ O<|q9 o fun bo bj o=>Yn _ bj O O O O O O O (Z7 O O) O O O O<|U _ O<|Qr 1 _ O<|qz ?_;obtain rfl:=qs o;exact ⟨_,O,wkA [(0,0),(1,1),(2,2),(3,5)] [] []⟩
     refine qu<|Qd ?_;obtain rfl:=qs o;exact ⟨_,O,wkA [(0,0),(1,1),(2,2),(3,3)] [] []⟩
    intro z hb;subst hb;refine qg<|U _ O<|U _ O<|q9 b fun bk aa b=>?_;refine Qi 4 (fun A st=>∃ ao ap aq,st = A [(96,Q1 bk),(95,aq),(94,ap),(93,ao)]) ?_ ?_
    ·refine Qj O O aa (fun aa=>?_) (fun aa=>?_)
     ·refine q0 O<|U _ O<|U _ O<|qb ?_;cases aa;exact ⟨_,_,_,O⟩
     refine qa O<|qa O<|U _ O<|qb ?_;cases aa;exact ⟨_,_,_,O⟩
    rintro _ ⟨ao,ap,aq,rfl⟩;refine qb ?_;refine qq O b (fun _ b=>?_) (fun _ b=>?_)
    ·refine Q0<|U _ O<|U _ O<|q0 O<|q0 O<|U _ O<|K1 _ _ O<|q9 b fun bp bl b=>Yn _ bl O O O O O O O (Z7 O O) O O O O<|U _ O<|Qr 1 _ O<|qz ?_;obtain rfl:=qs b;exact ⟨_,O,wkA [(0,0),(1,1),(2,5)] [] []⟩
    refine qu<|Qd ?_;obtain rfl:=qs b;exact ⟨_,O,wkA [(0,0),(1,1),(2,3)] [] []⟩
   intro s hb;subst hb;refine Q0<|q0 O<|U _ O<|qf O<|qz<|⟨_,qr l,wkA [(0,0),(1,1),(2,2)] [] []⟩
  refine Qh ?_;refine ⟨_,qr l,fun hm=>?_⟩;subst hm;exact ⟨_,O,wkA [(0,0),(1,1),(2,2)] [] []⟩
 intro q hb;subst hb;refine qh<|Qf [q7,Qk 0,q7,q7,qv 1,q7,qv 1] ql<|U _ O<|U _ O<|U _ O<|U _ O<|U _ O<|Qr 0 _ O<|qf O<|Qa ?_;obtain rfl:=qs f;exact finD (.inr O) O (qdz (Jn (qnv (Jn O (Jn (Jp O O) O))) (Jn O O))) (.refl _)
theorem qy1 (d : K5) (f : K5) (r : Bool) (a : q93 d f = some r) : Pure Tryz.prog tab 22 [.agg [.sl 2 (d.Nodes.map qt),.sl 2 (d.Edges.map Qc)],.agg [.sl 2 (f.Nodes.map qt),.sl 2 (f.Edges.map Qc)]] (.bool r):=by
 unfold q93 at a;refine Ka Tryz.func22 O ql ql O<|qg<|K1 _ _ O<|K1 _ _ O<|qf O<|qb<|qh<|qg<|U _ O<|U _ O<|Ki O<|U _ O<|U _ O<|Ki O<|U _ O<|q9 a fun x g a=>?_;refine Qi 9 (fun A st=>∃ k l m n o p q s,st = A [(22,Q1 x),(21,s),(20,q),(19,p),(18,o),(17,n),(16,m),(15,l),(14,k)]) ?_ ?_
 ·refine Qj O O g (fun g=>?_) (fun g=>?_)
  ·refine qa O<|qa O<|qa O<|qa O<|qa O<|qa O<|qa O<|U _ O<|qb ?_;cases g;exact ⟨_,_,_,_,_,_,_,_,O⟩
  refine U _ O<|U _ O<|Ki O<|U _ O<|U _ O<|Ki O<|U _ O<|U _ O<|qb ?_;cases g;exact ⟨_,_,_,_,_,_,_,_,O⟩
 rintro _ ⟨k,l,m,n,o,p,q,s,rfl⟩;refine qb ?_;refine qq O a (fun _ a=>?_) (fun _ a=>?_)
 ·refine qg<|qf O<|Qa ?_;cases a;exact Qv _ O
 refine qu<|qh<|qg<|qf O<|qb<|q9 a fun t y a=>?_;refine Qq (fun h=>.inl h = t) (fun h=>⟨[(2,.ref 0 2 0 0),(3,.ref 1 2 0 0)],[(0,.dat 2 [[.sl 2 (d.Nodes.map qt),.sl 2 (d.Edges.map Qc)]]),(1,.dat 2 [[.sl 2 (f.Nodes.map qt),.sl 2 (f.Edges.map Qc)]])],2⟩) qe ?_ ?_
 ·refine Qm (q6c d f) (fun u=>⟨[(2,.ref 0 2 0 0),(3,.ref 1 2 0 0),(5,qd u)],[(0,.dat 2 [[.sl 2 (d.Nodes.map qt),.sl 2 (d.Edges.map Qc)]]),(1,.dat 2 [[.sl 2 (f.Nodes.map qt),.sl 2 (f.Edges.map Qc)]])],2⟩) _ t y (wkA [(0,0),(1,1)] [] []) ?_;intro u ae b;unfold q6c at b;refine qh<|qg<|q0 O<|U _ O<|U _ O<|Ki O<|U _ O<|qb ?_;refine qq O b (fun _ b=>?_) (fun _ b=>?_)
  ·refine qu<|qh<|Qe<|qh<|Qf [q7,q7,q7,q7,qv 1,q7,q7,q7,q7,qv 0,q7] ql<|U _ O<|U _ O<|q0 O<|q9 b fun af z b=>Qt z O<|U _ O<|U _ O<|U _ O<|q0 O<|q9 b fun ag aa b=>Qt aa O<|U _ O<|U _ O<|qb ?_;refine qq O b (fun _ b=>?_) (fun _ b=>?_)
   ·refine qg<|qf O<|Qa ?_;refine ⟨_,qr b,fun hm=>?_⟩;subst hm;cases a;exact Qv _ O
   refine qu<|Qd<|Ql<|Q0<|q0 O<|U _ O<|qf O<|qz<|⟨_,qr b,wkA [(0,0),(1,1)] [] []⟩
  refine Qh ?_;refine ⟨_,qr b,fun hm=>?_⟩;subst hm;exact ⟨_,O,wkA [(0,0),(1,1)] [] []⟩
 intro h hb;subst hb;refine qh<|qg<|qf O<|qb<|q9 a fun v ab a=>?_;refine Qq (fun j=>.inl j = v) (fun j=>⟨[],[],0⟩) qe ?_ ?_
 ·refine Qm (q6d d f) (fun w=>⟨[(2,.ref 0 2 0 0),(3,.ref 1 2 0 0),(6,qd w)],[(0,.dat 2 [[.sl 2 (d.Nodes.map qt),.sl 2 (d.Edges.map Qc)]]),(1,.dat 2 [[.sl 2 (f.Nodes.map qt),.sl 2 (f.Edges.map Qc)]])],2⟩) _ v ab (wkA [(0,0),(1,1)] [] []) ?_;intro w ah c;unfold q6d at c;refine qh<|qg<|q0 O<|U _ O<|U _ O<|Ki O<|U _ O<|qb ?_;refine qq O c (fun _ c=>?_) (fun _ c=>?_)
  ·refine qu<|qh<|Qe<|qh<|Qf [q7,q7,q7,q7,qv 1,q7,q7,q7,q7,qv 0,q7] ql<|U _ O<|U _ O<|q0 O<|q9 c fun ai ac c=>Qt ac O<|U _ O<|U _ O<|U _ O<|q0 O<|q9 c fun aj ad c=>Qt ad O<|U _ O<|U _ O<|qb ?_;refine qq O c (fun _ c=>?_) (fun _ c=>?_)
   ·refine qg<|qf O<|Qa ?_;refine ⟨_,qr c,fun hm=>?_⟩;subst hm;cases a;exact Qv _ O
   refine qu<|Qd<|Ql<|Q0<|q0 O<|U _ O<|qf O<|qz<|⟨_,qr c,wkA [(0,0),(1,1)] [] []⟩
  refine Qh ?_;refine ⟨_,qr c,fun hm=>?_⟩;subst hm;exact ⟨_,O,wkA [] [] []⟩
 intro j hb;subst hb;refine qg<|qf O<|Qa ?_;cases a;exact Qv _ O
theorem qmc (a : Q6) (g : qc) (r : Bool) (b : q6b a g = some r) : Pure Tryz.prog tab 35 [.agg (Kc a),.agg (qt g)] (.bool r):=by
 unfold q6b at b;refine Ka Tryz.func35 O ql ql O<|qg<|K1 _ _ O<|K1 _ _ O<|qf O<|qy<|U _ O<|U _ O<|U _ O<|U _ O<|U _ O<|U _ O<|U _ O<|U _ O<|Us (r:=min a.A.X a.B.X) O O (by simp only [Up];rfl)<|U _ O<|q9 b fun c1 c b=>?_;refine Qi 12 (fun A st=>∃ h j k l m n o p q s t,st = A [(26,Q1 c1),(25,t),(24,s),(23,q),(22,p),(21,o),(20,n),(19,m),(18,l),(17,k),(16,j),(15,h)]) ?_ ?_
 ·refine Qj O O c (fun c=>?_) (fun c=>?_)
  ·refine U _ O<|U _ O<|U _ O<|U _ O<|U _ O<|U _ O<|U _ O<|U _ O<|Zk (r:=max a.A.X a.B.X) O O (by simp only [Zj];rfl)<|U _ O<|U _ O<|qb ?_;cases c;exact ⟨_,_,_,_,_,_,_,_,_,_,_,O⟩
  refine qa O<|qa O<|qa O<|qa O<|qa O<|qa O<|qa O<|qa O<|qa O<|qa O<|U _ O<|qb ?_;cases c;exact ⟨_,_,_,_,_,_,_,_,_,_,_,O⟩
 rintro _ ⟨h,j,k,l,m,n,o,p,q,s,t,rfl⟩;refine q9 b fun ar d b=>?_;refine Qi 12 (fun A st=>∃ u v w x y z aa ab ac ad ae,st = A [(38,Q1 ar),(37,ae),(36,ad),(35,ac),(34,ab),(33,aa),(32,z),(31,y),(30,x),(29,w),(28,v),(27,u)]) ?_ ?_
 ·refine Qj O O d (fun d=>?_) (fun d=>?_)
  ·refine U _ O<|U _ O<|U _ O<|U _ O<|U _ O<|U _ O<|U _ O<|U _ O<|Us (r:=min a.A.Y a.B.Y) O O (by simp only [Up];rfl)<|U _ O<|U _ O<|qb ?_;cases d;exact ⟨_,_,_,_,_,_,_,_,_,_,_,O⟩
  refine qa O<|qa O<|qa O<|qa O<|qa O<|qa O<|qa O<|qa O<|qa O<|qa O<|U _ O<|qb ?_;cases d;exact ⟨_,_,_,_,_,_,_,_,_,_,_,O⟩
 rintro _ ⟨u,v,w,x,y,z,aa,ab,ac,ad,ae,rfl⟩;refine q9 b fun au f b=>?_;refine Qi 12 (fun A st=>∃ af ag ah ai aj ak al am an ao ap,st = A [(50,Q1 au),(49,ap),(48,ao),(47,an),(46,am),(45,al),(44,ak),(43,aj),(42,ai),(41,ah),(40,ag),(39,af)]) ?_ ?_
 ·refine Qj O O f (fun f=>?_) (fun f=>?_)
  ·refine U _ O<|U _ O<|U _ O<|U _ O<|U _ O<|U _ O<|U _ O<|U _ O<|Zk (r:=max a.A.Y a.B.Y) O O (by simp only [Zj];rfl)<|U _ O<|U _ O<|qb ?_;cases f;exact ⟨_,_,_,_,_,_,_,_,_,_,_,O⟩
  refine qa O<|qa O<|qa O<|qa O<|qa O<|qa O<|qa O<|qa O<|qa O<|qa O<|U _ O<|qb ?_;cases f;exact ⟨_,_,_,_,_,_,_,_,_,_,_,O⟩
 rintro _ ⟨af,ag,ah,ai,aj,ak,al,am,an,ao,ap,rfl⟩;refine qf O<|Qa ?_;cases b;exact Qv _ O
end Go.Proofs.YtgkialgkmjnfbaaGreat
