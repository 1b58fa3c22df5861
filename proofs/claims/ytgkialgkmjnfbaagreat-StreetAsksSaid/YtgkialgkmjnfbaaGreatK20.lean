/- W_Alld W_Alle W_Allf W_All -/
import Derived.Test.YtgkialgkmjnfbaaGreatK19
namespace Go.Proofs.YtgkialgkmjnfbaaGreat
open Go Go.Am Go.Sh
set_option maxHeartbeats 8000000
set_option maxRecDepth 100000
theorem q10n (f : Qz) (r : Int × Int) (b : qax f = some r) : Pure Tryz.prog tab 17 [.agg [.sl 2 (f.Nodes.map qq),.sl 2 (f.Edges.map qy)]] (.tup [qj r.1,qj r.2]):=by
 unfold qax at b;refine K5 Tryz.func17 O ql ql O<|qg<|Qu (.ref 0 2 0 0) (.dat 2 [[.sl 2 (f.Nodes.map qq),.sl 2 (f.Edges.map qy)]]) O<|qd O<|qd O<|qx<|U (.d (.agg [.sl 2 (f.Nodes.map qq),.sl 2 (f.Edges.map qy)])) O<|q9 b fun c l b=>Qs (qda f c l) O<|q0 O<|U (.d (.sl 4 (c.1.map Kd))) O<|U (qb c.2) O<|qd O<|qd O<|qc<|qh<|qg<|q0 O<|U (qw (c.2 != 0)) O<|qc ?_;refine qt O b (fun _ b=>?_) (fun _ b=>?_)
 ·refine qg<|q0 O<|qd O<|qd O<|Qa ?_;obtain rfl:=qv b;exact Qr (.d (.tup [qj 0,qj c.2])) O
 refine qu<|qg<|qd O<|qc<|qh<|qg<|q0 O<|K6 O<|q0 O<|qc<|q9 b fun k m b=>?_;refine Qt (fun j=>j = k) (fun (j : Int)=>⟨[(6,qb j)],[],0⟩) qe ?_ ?_
 ·refine Qm (q1e c) (fun (h : Int × Int)=>⟨[(6,qb h.1),(17,.d (.sl 4 (c.1.map Kd))),(18,qb (c.1.length : Int)),(19,qb h.2)],[],0⟩) (0,0) k m (wkA [] [] []) ?_;intro h o g;unfold q1e at g;refine qg<|U (.d (.bool (decide (h.2 < (c.1.length : Int))))) O<|qc<|qh ?_;refine qt O g (fun _ g=>?_) (fun _ g=>?_)
  ·refine qu<|qh<|Qg<|qg<|q9 g fun a n g=>Qv (enc:=Kd) n O<|U (.d (.agg [qj a.A.X,qj a.A.Y,qj a.B.X,qj a.B.Y])) O<|Kf O O<|K8 0 (.dat 4 [[qj a.A.X,qj a.A.Y,qj a.B.X,qj a.B.Y]]) O<|qc<|Q5<|q0 O<|U (.ref 0 4 0 0) O<|U (.ref 0 4 0 0) O<|U (qb a.A.X) O<|U (.ref 0 4 0 2) O<|U (.ref 0 4 0 2) O<|U (qb a.B.X) O<|Zj (r:=max a.A.X a.B.X) O O (by simp only [Zi];rfl)<|U (.ref 0 4 0 0) O<|U (.ref 0 4 0 0) O<|U (qb a.A.X) O<|U (.ref 0 4 0 2) O<|U (.ref 0 4 0 2) O<|U (qb a.B.X) O<|Zu (r:=min a.A.X a.B.X) O O (by simp only [Zt];rfl)<|U (.d (qj (w64 ((max a.A.X a.B.X) - (min a.A.X a.B.X))))) O<|U (.ref 0 4 0 0) O<|U (.ref 0 4 0 1) O<|U (qb a.A.Y) O<|U (.ref 0 4 0 2) O<|U (.ref 0 4 0 3) O<|U (qb a.B.Y) O<|Zj (r:=max a.A.Y a.B.Y) O O (by simp only [Zi];rfl)<|U (.d (qj (w64 ((w64 ((max a.A.X a.B.X) - (min a.A.X a.B.X))) + (max a.A.Y a.B.Y))))) O<|U (.ref 0 4 0 0) O<|U (.ref 0 4 0 1) O<|U (qb a.A.Y) O<|U (.ref 0 4 0 2) O<|U (.ref 0 4 0 3) O ?_;refine U (qb a.B.Y) O<|Zu (r:=min a.A.Y a.B.Y) O O (by simp only [Zt];rfl)<|U (.d (qj (w64 ((w64 ((w64 ((max a.A.X a.B.X) - (min a.A.X a.B.X))) + (max a.A.Y a.B.Y))) - (min a.A.Y a.B.Y))))) O<|U (.d (qj (w64 (h.1 + (w64 ((w64 ((w64 ((max a.A.X a.B.X) - (min a.A.X a.B.X))) + (max a.A.Y a.B.Y))) - (min a.A.Y a.B.Y))))))) O<|qd O<|Q3<|Qn<|Q5<|U (.d (qj (w64 (h.2 + 1)))) O<|q0 O<|Q3<|⟨_,qs g,wkA [] [] []⟩
  refine Qh ?_;refine ⟨_,qs g,fun hm=>?_⟩;subst hm;exact ⟨_,O,wkA [] [] []⟩
 intro j hb;subst hb;refine qg<|q0 O<|qd O<|qd O<|Qa ?_;obtain rfl:=qv b;exact Qr (.d (.tup [qj j,qj 0])) O
theorem qwe (a : Qb) (r : Int) (b : qcu a = some r) : Pure Tryz.prog tab 29 [.agg [qj a.A.X,qj a.A.Y,qj a.B.X,qj a.B.Y]] (qj r):=by
 unfold qcu at b;refine K5 Tryz.func29 O ql ql O<|qg<|Qu (.ref 0 4 0 0) (.dat 4 [[qj a.A.X,qj a.A.Y,qj a.B.X,qj a.B.Y]]) O<|qd O<|qx<|U (.ref 0 4 0 0) O<|U (.ref 0 4 0 0) O<|U (qb a.A.X) O<|U (.ref 0 4 0 2) O<|U (.ref 0 4 0 2) O<|U (qb a.B.X) O<|U (.d (qj (w64 (a.A.X - a.B.X)))) O<|U (.ref 0 4 0 2) O<|U (.ref 0 4 0 2) O<|U (qb a.B.X) O<|U (.ref 0 4 0 0) O<|U (.ref 0 4 0 0) O<|U (qb a.A.X) O<|U (.d (qj (w64 (a.B.X - a.A.X)))) O<|Zj (r:=max (w64 (a.A.X - a.B.X)) (w64 (a.B.X - a.A.X))) O O (by simp only [Zi];rfl)<|U (.ref 0 4 0 0) O<|U (.ref 0 4 0 1) O<|U (qb a.A.Y) O<|U (.ref 0 4 0 2) O<|U (.ref 0 4 0 3) O<|U (qb a.B.Y) O<|U (.d (qj (w64 (a.A.Y - a.B.Y)))) O<|U (.ref 0 4 0 2) O<|U (.ref 0 4 0 3) O<|U (qb a.B.Y) O<|U (.ref 0 4 0 0) O<|U (.ref 0 4 0 1) O<|U (qb a.A.Y) O<|U (.d (qj (w64 (a.B.Y - a.A.Y)))) O<|Zj (r:=max (w64 (a.A.Y - a.B.Y)) (w64 (a.B.Y - a.A.Y))) O O (by simp only [Zi];rfl)<|U (.d (qj (w64 ((max (w64 (a.A.X - a.B.X)) (w64 (a.B.X - a.A.X))) + (max (w64 (a.A.Y - a.B.Y)) (w64 (a.B.Y - a.A.Y))))))) O<|qd O<|Qa ?_;obtain rfl:=qv b;exact Qr (.d (qj (w64 ((max (w64 (a.A.X - a.B.X)) (w64 (a.B.X - a.A.X))) + (max (w64 (a.A.Y - a.B.Y)) (w64 (a.B.Y - a.A.Y))))))) O
theorem qwc (c : Qz) (r : Int × Int) (a : q89 c = some r) : Pure Tryz.prog tab 18 [.agg [.sl 2 (c.Nodes.map qq),.sl 2 (c.Edges.map qy)]] (.tup [qj r.1,qj r.2]):=by
 unfold q89 at a;refine K5 Tryz.func18 O ql ql O<|qg<|Qu (.ref 0 2 0 0) (.dat 2 [[.sl 2 (c.Nodes.map qq),.sl 2 (c.Edges.map qy)]]) O<|qd O<|qd O<|qx<|U (.d (.agg [.sl 2 (c.Nodes.map qq),.sl 2 (c.Edges.map qy)])) O<|q9 a fun f m a=>Qs (qft c f m) O<|q0 O<|U (.d (.sl 4 (f.1.map Kd))) O<|U (qb f.2) O<|qd O<|qd O<|qc<|qh<|qg<|q0 O<|U (qw (f.2 != 0)) O<|qc ?_;refine qt O a (fun _ a=>?_) (fun _ a=>?_)
 ·refine qg<|q0 O<|qd O<|qd O<|Qa ?_;obtain rfl:=qv a;exact Qr (.d (.tup [qj 0,qj f.2])) O
 refine qu<|qg<|qd O<|qc<|qh<|qg<|qd O<|qc<|q9 a fun k n a=>?_;refine Qt (fun h=>h = k) (fun (h : Int)=>⟨[(6,qb h)],[],0⟩) qe ?_ ?_
 ·refine Qm (q5t f) (fun (g : Int × Int)=>⟨[(4,.d (.sl 4 (f.1.map Kd))),(6,qb g.1),(7,qb g.2)],[],0⟩) (0,0) k n (wkA [] [] []) ?_;intro g q b;unfold q5t at b;refine qh<|qg<|q0 O<|q0 O<|K6 O<|U (.d (.bool (decide (g.2 < (f.1.length : Int))))) O<|qc ?_;refine qt O b (fun _ b=>?_) (fun _ b=>?_)
  ·refine qu<|qh<|Qg<|Q5<|q0 O<|q0 O<|q0 O<|q9 b fun j o b=>Qv (enc:=Kd) o O<|U (.d (.agg [qj j.A.X,qj j.A.Y,qj j.B.X,qj j.B.Y])) O<|q9 b fun l p b=>Qs (qwe j l p) O<|U (.d (qj (w64 (g.1 + l)))) O<|qd O<|Q3<|Qn<|Q5<|q0 O<|U (.d (qj (w64 (g.2 + 1)))) O<|qd O<|Q3<|⟨_,qs b,wkA [] [] []⟩
  refine Qh ?_;refine ⟨_,qs b,fun hm=>?_⟩;subst hm;exact ⟨_,O,wkA [] [] []⟩
 intro h hb;subst hb;refine qg<|q0 O<|qd O<|qd O<|Qa ?_;obtain rfl:=qv a;exact Qr (.d (.tup [qj h,qj 0])) O
theorem q11o (b : Qz) (c : Qz) (g : qf) (p3 : Int) (r : Bool) (a : qc8 b c g p3 = some r) : Pure Tryz.prog tab 3 [.agg [.sl 2 (b.Nodes.map qq),.sl 2 (b.Edges.map qy)],.agg [.sl 2 (c.Nodes.map qq),.sl 2 (c.Edges.map qy)],.agg [qj g.X,qj g.Y],qj p3] (.bool r):=by
 unfold qc8 at a;refine K5 Tryz.func3 O ql ql O<|qg<|Qu (.ref 0 2 0 0) (.dat 2 [[.sl 2 (b.Nodes.map qq),.sl 2 (b.Edges.map qy)]]) O<|Qu (.ref 1 2 0 0) (.dat 2 [[.sl 2 (c.Nodes.map qq),.sl 2 (c.Edges.map qy)]]) O<|Qu (.ref 2 2 0 0) (.dat 2 [[qj g.X,qj g.Y]]) O<|qd O<|qc<|qh<|qg<|U (.d (.agg [.sl 2 (b.Nodes.map qq),.sl 2 (b.Edges.map qy)])) O<|q9 a fun r1 h2 a=>Qs (qlb b r1 h2) O<|q9 a fun c5 n a=>?_;refine Qi 4 (fun A st=>∃ (j7 j8 j9 : V),st = A [(31,qw c5),(30,j9),(29,j8),(28,j7)]) ?_ ?_
 ·refine Qj O O n (fun n=>?_) (fun n=>?_)
  ·refine qa O<|qa O<|U (qw true) O<|qc ?_;cases n;exact ⟨_,_,_,O⟩
  refine U (.d (.agg [.sl 2 (c.Nodes.map qq),.sl 2 (c.Edges.map qy)])) O<|q9 n fun al cl n=>Qs (qlb c al cl) O<|U (qw al) O<|qc ?_;cases n;exact ⟨_,_,_,O⟩
 rintro _ ⟨j7,j8,j9,rfl⟩;refine qc ?_;refine qt O a (fun _ a=>?_) (fun _ a=>?_)
 ·refine qg<|qd O<|Qa ?_;obtain rfl:=qv a;exact Qr (qw true) O
 refine qu<|qg<|U (.d (.agg [.sl 2 (b.Nodes.map qq),.sl 2 (b.Edges.map qy)])) O<|q9 a fun h cm a=>Qs (qda b h cm) O<|q0 O<|U (.d (.sl 4 (h.1.map Kd))) O<|U (qb h.2) O<|qd O<|qd O<|qx<|U (.d (.agg [.sl 2 (b.Nodes.map qq),.sl 2 (b.Edges.map qy)])) O<|q9 a fun j cn a=>Qs (qft b j cn) O<|q0 O<|U (.d (.sl 4 (j.1.map Kd))) O<|U (qb j.2) O<|qd O<|qd O<|qx<|U (.d (.agg [.sl 2 (b.Nodes.map qq),.sl 2 (b.Edges.map qy)])) O<|U (.d (.agg [qj g.X,qj g.Y])) O<|q9 a fun o co a=>Qs (q10m b g o co) O<|q0 O<|U (qw o.1) O<|U (qb o.2) O<|qd O<|qd O<|qx<|U (.d (.agg [.sl 2 (b.Nodes.map qq),.sl 2 (b.Edges.map qy)])) O<|U (.d (.agg [qj g.X,qj g.Y])) O<|q9 a fun p cp a=>Qs (qwb b g p cp) O<|q0 O<|U (qw p.1) O<|U (qb p.2) O<|qd O<|qd O<|qx ?_;refine U (.d (.agg [.sl 2 (b.Nodes.map qq),.sl 2 (b.Edges.map qy)])) O<|q0 O<|q9 a fun q cq a=>Qs (q10k b p3 q cq) O<|q0 O<|U (qb q.1) O<|U (qb q.2) O<|qd O<|qd O<|qx<|U (.d (.agg [.sl 2 (b.Nodes.map qq),.sl 2 (b.Edges.map qy)])) O<|q0 O<|q9 a fun s cr a=>Qs (qwa b p3 s cr) O<|q0 O<|U (qb s.1) O<|U (qb s.2) O<|qd O<|qd O<|qx<|U (.d (.agg [.sl 2 (b.Nodes.map qq),.sl 2 (b.Edges.map qy)])) O<|q9 a fun t cs a=>Qs (q10n b t cs) O<|q0 O<|U (qb t.1) O<|U (qb t.2) O<|qd O<|qd O<|qx<|U (.d (.agg [.sl 2 (b.Nodes.map qq),.sl 2 (b.Edges.map qy)])) O<|q9 a fun u ct a=>Qs (qwc b u ct) O<|q0 O<|U (qb u.1) O<|U (qb u.2) O<|qd O<|qd O<|qc<|qh<|qh ?_;refine Qf [q7,q7,q7,q7,q7,q7,q7,q7,q7,q7,q7,q7,q7,q7,q7,q7,q7,q7,q7,q7,q7,q7,q7,q7,q7,q7,q7,q7,q7,q7,q7,q7,q7,q7,q7,q7,q7,q7,q7,q7,q7,q7,q7,q7,q7,qr 1,qr 0,q7,qr 1,qr 0,q7,q7,q7,qr 0,q7,qr 0] ql<|U (.d (.agg [.sl 2 (b.Nodes.map qq),.sl 2 (b.Edges.map qy)])) O<|q9 a fun am cu a=>Qs (qmk b am cu) O<|U (.d (.agg [.sl 2 (b.Nodes.map qq),.sl 2 (b.Edges.map qy)])) O<|q9 a fun an cv a=>Qs (q87 b an cv) O<|U (qw (am != an)) O<|q9 a fun cw k a=>?_;refine Qi 9 (fun A st=>∃ (ao ap aq ar au av aw ax : V),st = A [(89,qw cw),(88,ax),(87,aw),(86,av),(85,au),(84,ar),(83,aq),(82,ap),(81,ao)]) ?_ ?_
 ·refine Qj O O k (fun k=>?_) (fun k=>?_)
  ·refine qa O<|qa O<|qa O<|qa O<|qa O<|qa O<|qa O<|U (qw true) O<|qc ?_;cases k;exact ⟨_,_,_,_,_,_,_,_,O⟩
  refine U (.d (.agg [.sl 2 (b.Nodes.map qq),.sl 2 (b.Edges.map qy)])) O<|U (.d (.agg [.sl 2 (c.Nodes.map qq),.sl 2 (c.Edges.map qy)])) O<|q9 k fun af cx k=>Qs (qml b c af cx) O<|U (.d (.agg [.sl 2 (b.Nodes.map qq),.sl 2 (b.Edges.map qy)])) O<|U (.d (.agg [.sl 2 (c.Nodes.map qq),.sl 2 (c.Edges.map qy)])) O<|q9 k fun ag cy k=>Qs (qlc b c ag cy) O<|U (.d (.bool (!(af == ag)))) O<|U (.d (.bool (!(af == ag)))) O<|qc ?_;cases k;exact ⟨_,_,_,_,_,_,_,_,O⟩
 rintro _ ⟨ao,ap,aq,ar,au,av,aw,ax,rfl⟩;refine q9 a fun cz v a=>?_;refine Qi 7 (fun A st=>∃ (ay az ba bb bc bd : V),st = A [(96,qw cz),(95,bd),(94,bc),(93,bb),(92,ba),(91,az),(90,ay)]) ?_ ?_
 ·refine Qj O O v (fun v=>?_) (fun v=>?_)
  ·refine qa O<|qa O<|qa O<|qa O<|qa O<|U (qw true) O<|qc ?_;cases v;exact ⟨_,_,_,_,_,_,O⟩
  refine q0 O<|K6 O<|q0 O<|K6 O<|U (.d (.bool ((h.1.length : Int) != (j.1.length : Int)))) O<|U (.d (.bool ((h.1.length : Int) != (j.1.length : Int)))) O<|qc ?_;cases v;exact ⟨_,_,_,_,_,_,O⟩
 rintro _ ⟨ay,az,ba,bb,bc,bd,rfl⟩;refine q9 a fun da w a=>?_;refine Qi 5 (fun A st=>∃ (be bf bg bh : V),st = A [(101,qw da),(100,bh),(99,bg),(98,bf),(97,be)]) ?_ ?_
 ·refine Qj O O w (fun w=>?_) (fun w=>?_)
  ·refine qa O<|qa O<|qa O<|U (qw true) O<|qc ?_;cases w;exact ⟨_,_,_,_,O⟩
  refine q0 O<|q0 O<|U (qw (h.2 != j.2)) O<|U (qw (h.2 != j.2)) O<|qc ?_;cases w;exact ⟨_,_,_,_,O⟩
 rintro _ ⟨be,bf,bg,bh,rfl⟩;refine q9 a fun dc x a=>?_;refine Qi 5 (fun A st=>∃ (bi bj bk bl : V),st = A [(106,qw dc),(105,bl),(104,bk),(103,bj),(102,bi)]) ?_ ?_
 ·refine Qj O O x (fun x=>?_) (fun x=>?_)
  ·refine qa O<|qa O<|qa O<|U (qw true) O<|qc ?_;cases x;exact ⟨_,_,_,_,O⟩
  refine q0 O<|q0 O<|U (.d (.bool (!(o.1 == p.1)))) O<|U (.d (.bool (!(o.1 == p.1)))) O<|qc ?_;cases x;exact ⟨_,_,_,_,O⟩
 rintro _ ⟨bi,bj,bk,bl,rfl⟩;refine q9 a fun dd y a=>?_;refine Qi 5 (fun A st=>∃ (bm bn bo bp : V),st = A [(111,qw dd),(110,bp),(109,bo),(108,bn),(107,bm)]) ?_ ?_
 ·refine Qj O O y (fun y=>?_) (fun y=>?_)
  ·refine qa O<|qa O<|qa O<|U (qw true) O<|qc ?_;cases y;exact ⟨_,_,_,_,O⟩
  refine q0 O<|q0 O<|U (qw (o.2 != p.2)) O<|U (qw (o.2 != p.2)) O<|qc ?_;cases y;exact ⟨_,_,_,_,O⟩
 rintro _ ⟨bm,bn,bo,bp,rfl⟩;refine q9 a fun de z a=>?_;refine Qi 5 (fun A st=>∃ (bq br bs bt : V),st = A [(116,qw de),(115,bt),(114,bs),(113,br),(112,bq)]) ?_ ?_
 ·refine Qj O O z (fun z=>?_) (fun z=>?_)
  ·refine qa O<|qa O<|qa O<|U (qw true) O<|qc ?_;cases z;exact ⟨_,_,_,_,O⟩
  refine q0 O<|q0 O<|U (qw (q.1 != s.1)) O<|U (qw (q.1 != s.1)) O<|qc ?_;cases z;exact ⟨_,_,_,_,O⟩
 rintro _ ⟨bq,br,bs,bt,rfl⟩;refine q9 a fun df aa a=>?_;refine Qi 5 (fun A st=>∃ (bu bv bw bx : V),st = A [(121,qw df),(120,bx),(119,bw),(118,bv),(117,bu)]) ?_ ?_
 ·refine Qj O O aa (fun aa=>?_) (fun aa=>?_)
  ·refine qa O<|qa O<|qa O<|U (qw true) O<|qc ?_;cases aa;exact ⟨_,_,_,_,O⟩
  refine q0 O<|q0 O<|U (qw (q.2 != s.2)) O<|U (qw (q.2 != s.2)) O<|qc ?_;cases aa;exact ⟨_,_,_,_,O⟩
 rintro _ ⟨bu,bv,bw,bx,rfl⟩;refine q9 a fun dg ab a=>?_;refine Qi 5 (fun A st=>∃ (bz ca cb cc : V),st = A [(126,qw dg),(125,cc),(124,cb),(123,ca),(122,bz)]) ?_ ?_
 ·refine Qj O O ab (fun ab=>?_) (fun ab=>?_)
  ·refine qa O<|qa O<|qa O<|U (qw true) O<|qc ?_;cases ab;exact ⟨_,_,_,_,O⟩
  refine q0 O<|q0 O<|U (qw (t.1 != u.1)) O<|U (qw (t.1 != u.1)) O<|qc ?_;cases ab;exact ⟨_,_,_,_,O⟩
 rintro _ ⟨bz,ca,cb,cc,rfl⟩;refine q9 a fun dh ac a=>?_;refine Qi 5 (fun A st=>∃ (cd ce cf cg : V),st = A [(131,qw dh),(130,cg),(129,cf),(128,ce),(127,cd)]) ?_ ?_
 ·refine Qj O O ac (fun ac=>?_) (fun ac=>?_)
  ·refine qa O<|qa O<|qa O<|U (qw true) O<|qc ?_;cases ac;exact ⟨_,_,_,_,O⟩
  refine q0 O<|q0 O<|U (qw (t.2 != u.2)) O<|U (qw (t.2 != u.2)) O<|qc ?_;cases ac;exact ⟨_,_,_,_,O⟩
 rintro _ ⟨cd,ce,cf,cg,rfl⟩;refine qc ?_;refine qt O a (fun _ a=>?_) (fun _ a=>?_)
 ·refine qg<|qd O<|Qa ?_;obtain rfl:=qv a;exact Qr (qw false) O
 refine qu<|qh<|qg<|qd O<|qc<|q9 a fun ch dj a=>?_;refine Qt (fun ah=>.inl ah = ch) (fun (ah : Unit)=>⟨[],[],0⟩) qe ?_ ?_
 ·refine Qm (q3q h j) (fun (ae : Int)=>⟨[(9,.d (.sl 4 (h.1.map Kd))),(11,.d (.sl 4 (j.1.map Kd))),(25,qb ae)],[],0⟩) 0 ch dj (wkA [] [] []) ?_;intro ae dm f;unfold q3q at f;refine qh<|qg<|q0 O<|q0 O<|K6 O<|U (.d (.bool (decide (ae < (h.1.length : Int))))) O<|qc ?_;refine qt O f (fun _ f=>?_) (fun _ f=>?_)
  ·refine qu<|qh<|Qg<|qh<|Qf [q7,q7,q7,q7,q7,q7,q7,q7,q7] ql<|q0 O<|q0 O<|q9 f fun l dk f=>Qv (enc:=Kd) dk O<|U (.d (.agg [qj l.A.X,qj l.A.Y,qj l.B.X,qj l.B.Y])) O<|q0 O<|q0 O<|q9 f fun m dl f=>Qv (enc:=Kd) dl O<|U (.d (.agg [qj m.A.X,qj m.A.Y,qj m.B.X,qj m.B.Y])) O<|U (.d (.bool (!((l.A.X == m.A.X) && ((l.A.Y == m.A.Y) && ((l.B.X == m.B.X) && ((l.B.Y == m.B.Y) && true))))))) O<|qc ?_;refine qt O f (fun _ f=>?_) (fun _ f=>?_)
   ·refine qg<|qd O<|Qa ?_;refine ⟨_,qs f,fun hm=>?_⟩;subst hm;obtain rfl:=qv a;exact Qr (qw false) O
   refine qu<|Qc<|Qn<|Q5<|q0 O<|U (.d (qj (w64 (ae + 1)))) O<|qd O<|Q3<|⟨_,qs f,wkA [] [] []⟩
  refine Qh ?_;refine ⟨_,qs f,fun hm=>?_⟩;subst hm;exact ⟨_,O,wkA [] [] []⟩
 intro ah hb;subst hb;refine qg<|qd O<|Qa ?_;obtain rfl:=qv a;exact Qr (qw true) O
end Go.Proofs.YtgkialgkmjnfbaaGreat
namespace Go.Proofs.YtgkialgkmjnfbaaGreat
open Go Go.Am Go.Sh
end Go.Proofs.YtgkialgkmjnfbaaGreat
namespace Go.Proofs.YtgkialgkmjnfbaaGreat
open Go Go.Am Go.Sh
end Go.Proofs.YtgkialgkmjnfbaaGreat
namespace Go.Proofs.YtgkialgkmjnfbaaGreat
open Go Go.Am Go.Sh
end Go.Proofs.YtgkialgkmjnfbaaGreat
