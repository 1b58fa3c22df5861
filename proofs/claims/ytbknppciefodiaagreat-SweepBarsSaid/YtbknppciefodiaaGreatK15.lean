/- W_Alla -/
import Derived.Test.YtbknppciefodiaaGreatK14
namespace Go.Proofs.YtbknppciefodiaaGreat
open Go Go.Am Go.Sh
set_option maxHeartbeats 8000000
set_option maxRecDepth 100000
theorem q32 (a : qv) (c : Int) (r : Bool) (b : Zt a c = some r) : Pure Tryz.prog tab 27 [.agg [G a.X,G a.Y,G a.Z],G c] (.bool r):=by
 unfold Zt at b
 refine Qg Tryz.func27 J qi qi J<|qb<|Qn (.ref 0 3 0 0) (.dat 3 [[G a.X,G a.Y,G a.Z]]) J<|qa J<|qt<|O (.ref 0 3 0 0) J<|O (q7 a.X) J<|U J<|O (.d (.bool (decide (a.X ≥ c)))) J ?_
 obtain ⟨c1,f,b⟩:=q8 b
 refine Qa 6 (fun A st=>∃ (l m n o p : V),st = A [(14,qh c1),(13,p),(12,o),(11,n),(10,m),(9,l)]) ?_ ?_
 ·refine Qb J J f (fun f=>?_) (fun f=>?_)
  ·refine O (.ref 0 3 0 1) J<|O (q7 a.Y) J<|U J<|O (.d (.bool (decide (a.Y ≥ c)))) J<|O (.d (.bool (decide (a.Y ≥ c)))) J<|q9 ?_
   obtain rfl:=qe f
   exact ⟨_,_,_,_,_,J⟩
  refine qc J<|qc J<|qc J<|qc J<|O (qh false) J<|q9 ?_
  obtain rfl:=qe f
  exact ⟨_,_,_,_,_,J⟩
 rintro _ ⟨l,m,n,o,p,rfl⟩
 obtain ⟨c8,g,b⟩:=q8 b
 refine Qa 6 (fun A st=>∃ (q s t u v : V),st = A [(20,qh c8),(19,v),(18,u),(17,t),(16,s),(15,q)]) ?_ ?_
 ·refine Qb J J g (fun g=>?_) (fun g=>?_)
  ·refine O (.ref 0 3 0 2) J<|O (q7 a.Z) J<|U J<|O (.d (.bool (decide (a.Z ≥ c)))) J<|O (.d (.bool (decide (a.Z ≥ c)))) J<|q9 ?_
   obtain rfl:=qe g
   exact ⟨_,_,_,_,_,J⟩
  refine qc J<|qc J<|qc J<|qc J<|O (qh false) J<|q9 ?_
  obtain rfl:=qe g
  exact ⟨_,_,_,_,_,J⟩
 rintro _ ⟨q,s,t,u,v,rfl⟩
 obtain ⟨al,h,b⟩:=q8 b
 refine Qa 5 (fun A st=>∃ (w x y z : V),st = A [(25,qh al),(24,z),(23,y),(22,x),(21,w)]) ?_ ?_
 ·refine Qb J J h (fun h=>?_) (fun h=>?_)
  ·refine O (.ref 0 3 0 0) J<|O (q7 a.X) J<|O (.d (.bool (decide (a.X≤1000000)))) J<|O (.d (.bool (decide (a.X≤1000000)))) J<|q9 ?_
   obtain rfl:=qe h
   exact ⟨_,_,_,_,J⟩
  refine qc J<|qc J<|qc J<|O (qh false) J<|q9 ?_
  obtain rfl:=qe h
  exact ⟨_,_,_,_,J⟩
 rintro _ ⟨w,x,y,z,rfl⟩
 obtain ⟨am,j,b⟩:=q8 b
 refine Qa 5 (fun A st=>∃ (aa ab ac ad : V),st = A [(30,qh am),(29,ad),(28,ac),(27,ab),(26,aa)]) ?_ ?_
 ·refine Qb J J j (fun j=>?_) (fun j=>?_)
  ·refine O (.ref 0 3 0 1) J<|O (q7 a.Y) J<|O (.d (.bool (decide (a.Y≤1000000)))) J<|O (.d (.bool (decide (a.Y≤1000000)))) J<|q9 ?_
   obtain rfl:=qe j
   exact ⟨_,_,_,_,J⟩
  refine qc J<|qc J<|qc J<|O (qh false) J<|q9 ?_
  obtain rfl:=qe j
  exact ⟨_,_,_,_,J⟩
 rintro _ ⟨aa,ab,ac,ad,rfl⟩
 obtain ⟨ae,k,b⟩:=q8 b
 refine Qa 5 (fun A st=>∃ (af ag ah ai : V),st = A [(35,qh ae),(34,ai),(33,ah),(32,ag),(31,af)]) ?_ ?_
 ·refine Qb J J k (fun k=>?_) (fun k=>?_)
  ·refine O (.ref 0 3 0 2) J<|O (q7 a.Z) J<|O (.d (.bool (decide (a.Z≤1000000)))) J<|O (.d (.bool (decide (a.Z≤1000000)))) J<|q9 ?_
   obtain rfl:=qe k
   exact ⟨_,_,_,_,J⟩
  refine qc J<|qc J<|qc J<|O (qh false) J<|q9 ?_
  obtain rfl:=qe k
  exact ⟨_,_,_,_,J⟩
 rintro _ ⟨af,ag,ah,ai,rfl⟩
 refine qa J<|qp ?_
 obtain rfl:=qe b
 exact Q1 (qh ae) J
theorem qs8 (c : K1) (j : List (List qg)) (r : Bool) (g : q4z c j = some r) : Pure Tryz.prog tab 10 [.agg [.sl 7 (c.Lines.map Qf),.sl 5 (c.Marks.map Qy),.int .u8 c.End.Frame.Turn,G c.End.Frame.At.X,G c.End.Frame.At.Y,G c.End.Frame.At.Z,G c.End.Drawn],.sl 1 (j.map Ql)] (.bool r):=by
 unfold q4z at g
 refine Qg Tryz.func10 J qi qi J<|qb<|Qn (.ref 0 7 0 0) (.dat 7 [[.sl 7 (c.Lines.map Qf),.sl 5 (c.Marks.map Qy),.int .u8 c.End.Frame.Turn,G c.End.Frame.At.X,G c.End.Frame.At.Y,G c.End.Frame.At.Z,G c.End.Drawn]]) J<|qa J<|q9<|qf<|qb<|O (.ref 0 7 0 0) J<|O (.d (.sl 7 (c.Lines.map Qf))) J<|Qd J<|O (.d (.bool (decide ((c.Lines.length : Int) > 12)))) J ?_
 obtain ⟨c1,l,g⟩:=q8 g
 refine Qa 6 (fun A st=>∃ (u v w x y : V),st = A [(18,qh c1),(17,y),(16,x),(15,w),(14,v),(13,u)]) ?_ ?_
 ·refine Qb J J l (fun l=>?_) (fun l=>?_)
  ·refine qc J<|qc J<|qc J<|qc J<|O (qh true) J<|q9 ?_
   obtain rfl:=qe l
   exact ⟨_,_,_,_,_,J⟩
  refine O (.ref 0 7 0 1) J<|O (.d (.sl 5 (c.Marks.map Qy))) J<|Qd J<|O (.d (.bool (decide ((c.Marks.length : Int) > 50)))) J<|O (.d (.bool (decide ((c.Marks.length : Int) > 50)))) J<|q9 ?_
  obtain rfl:=qe l
  exact ⟨_,_,_,_,_,J⟩
 rintro _ ⟨u,v,w,x,y,rfl⟩
 obtain ⟨c8,m,g⟩:=q8 g
 refine Qa 5 (fun A st=>∃ (z aa ab ac : V),st = A [(23,qh c8),(22,ac),(21,ab),(20,aa),(19,z)]) ?_ ?_
 ·refine Qb J J m (fun m=>?_) (fun m=>?_)
  ·refine qc J<|qc J<|qc J<|O (qh true) J<|q9 ?_
   obtain rfl:=qe m
   exact ⟨_,_,_,_,J⟩
  refine U J<|Qd J<|O (.d (.bool (decide ((j.length : Int) > 25)))) J<|O (.d (.bool (decide ((j.length : Int) > 25)))) J<|q9 ?_
  obtain rfl:=qe m
  exact ⟨_,_,_,_,J⟩
 rintro _ ⟨z,aa,ab,ac,rfl⟩
 refine q9 ?_
 refine qo J g (fun _ g=>?_) (fun _ g=>?_)
 ·refine qb<|qa J<|qp ?_
  obtain rfl:=qe g
  exact Q1 (qh true) J
 refine qn<|qf<|qb<|qa J<|q9 ?_
 obtain ⟨ad,bw,g⟩:=q8 g
 refine Qe (fun q=>.inl q = ad) (fun (q : Unit)=>⟨[(1,.d (.sl 1 (j.map Ql)))],[],0⟩) qd ?_ ?_
 ·refine Q8 (q50 c) (fun (o : Int)=>⟨[(1,.d (.sl 1 (j.map Ql))),(2,.ref 0 7 0 0),(5,q7 o)],[(0,.dat 7 [[.sl 7 (c.Lines.map Qf),.sl 5 (c.Marks.map Qy),.int .u8 c.End.Frame.Turn,G c.End.Frame.At.X,G c.End.Frame.At.Y,G c.End.Frame.At.Z,G c.End.Drawn]])],1⟩) 0 ad bw (wkA [(0,0)] [] []) ?_
  intro o cg f
  unfold q50 at f
  refine qf<|qb<|U J<|O (.ref 0 7 0 0) J<|O (.d (.sl 7 (c.Lines.map Qf))) J<|Qd J<|O (.d (.bool (decide (o < (c.Lines.length : Int))))) J<|q9 ?_
  refine qo J f (fun _ f=>?_) (fun _ f=>?_)
  ·refine qn<|qf<|Q0<|qf<|Q7 [Qk 2,Qk 1,(some [],[2]),(some [],[1]),q0,q0,q0,q0,qq 0,q0,q0,q0,q0,q0,qq 0,q0] qi<|O (.ref 0 7 0 0) J<|O (.d (.sl 7 (c.Lines.map Qf))) J<|U J ?_
   obtain ⟨a,bx,f⟩:=q8 f
   refine Q4 (enc:=Qf) bx J<|O (.dref [G a.From.X,G a.From.Y,G a.From.Z,G a.To.X,G a.To.Y,G a.To.Z,G a.Depth] 0) J<|O (.d (.agg [G a.From.X,G a.From.Y,G a.From.Z])) J<|O (.ref 0 7 0 0) J<|O (.d (.sl 7 (c.Lines.map Qf))) J<|U J ?_
   obtain ⟨b,bz,f⟩:=q8 f
   refine Q4 (enc:=Qf) bz J<|O (.dref [G b.From.X,G b.From.Y,G b.From.Z,G b.To.X,G b.To.Y,G b.To.Z,G b.Depth] 3) J<|O (.d (.agg [G b.To.X,G b.To.Y,G b.To.Z])) J<|K2 J J<|K2 J J<|Qp 1 (.dat 3 [[G a.From.X,G a.From.Y,G a.From.Z]]) J<|Qp 2 (.dat 3 [[G b.To.X,G b.To.Y,G b.To.Z]]) J<|qt<|O (.d (.agg [G a.From.X,G a.From.Y,G a.From.Z])) J ?_
   obtain ⟨ae,ca,f⟩:=q8 f
   refine qz (q32 a.From (-2000000) ae ca) J<|O (qh (!ae)) J ?_
   obtain ⟨cb,k,f⟩:=q8 f
   refine Qa 5 (fun A st=>∃ (af ag ah ai : V),st = A [(50,qh cb),(49,ai),(48,ah),(47,ag),(46,af)]) ?_ ?_
   ·refine Qb J J k (fun k=>?_) (fun k=>?_)
    ·refine qc J<|qc J<|qc J<|O (qh true) J<|q9 ?_
     obtain rfl:=qe k
     exact ⟨_,_,_,_,J⟩
    refine O (.d (.agg [G b.To.X,G b.To.Y,G b.To.Z])) J ?_
    obtain ⟨s,cc,k⟩:=q8 k
    refine qz (q32 b.To (-2000000) s cc) J<|O (qh (!s)) J<|O (qh (!s)) J<|q9 ?_
    obtain rfl:=qe k
    exact ⟨_,_,_,_,J⟩
   rintro _ ⟨af,ag,ah,ai,rfl⟩
   obtain ⟨cd,n,f⟩:=q8 f
   refine Qa 34 (fun A st=>∃ (aj ak al am an ao ap aq ar au av aw ax ay az ba bb bc bd be bf bg bh bi bj bk bl bm bn bo bp bq br : V),st = A [(84,qh cd),(83,br),(82,bq),(81,bp),(80,bo),(79,bn),(78,bm),(77,bl),(76,bk),(75,bj),(74,bi),(73,bh),(72,bg),(71,bf),(70,be),(69,bd),(68,bc),(67,bb),(66,ba),(65,az),(64,ay),(63,ax),(62,aw),(61,av),(60,au),(59,ar),(58,aq),(57,ap),(56,ao),(55,an),(54,am),(53,al),(52,ak),(51,aj)]) ?_ ?_
   ·refine Qb J J n (fun n=>?_) (fun n=>?_)
    ·refine qc J<|qc J<|qc J<|qc J<|qc J<|qc J<|qc J<|qc J<|qc J<|qc J<|qc J<|qc J<|qc J<|qc J<|qc J<|qc J<|qc J<|qc J<|qc J<|qc J<|qc J<|qc J<|qc J<|qc J<|qc J<|qc J<|qc J<|qc J<|qc J<|qc J<|qc J<|qc J<|O (qh true) J<|q9 ?_
     obtain rfl:=qe n
     exact ⟨_,_,_,_,_,_,_,_,_,_,_,_,_,_,_,_,_,_,_,_,_,_,_,_,_,_,_,_,_,_,_,_,_,J⟩
    refine O (.ref 1 3 0 0) J<|O (q7 a.From.X) J<|O (.ref 2 3 0 0) J<|O (q7 b.To.X) J<|O (.d (G (w64 (a.From.X - b.To.X)))) J<|O (.ref 2 3 0 0) J<|O (q7 b.To.X) J<|O (.ref 1 3 0 0) J<|O (q7 a.From.X) J<|O (.d (G (w64 (b.To.X - a.From.X)))) J<|O (.ref 1 3 0 1) J<|O (q7 a.From.Y) J<|O (.ref 2 3 0 1) J<|O (q7 b.To.Y) J<|O (.d (G (w64 (a.From.Y - b.To.Y)))) J<|O (.ref 2 3 0 1) J<|O (q7 b.To.Y) J<|O (.ref 1 3 0 1) J<|O (q7 a.From.Y) J<|O (.d (G (w64 (b.To.Y - a.From.Y)))) J<|O (.ref 1 3 0 2) J<|O (q7 a.From.Z) J<|O (.ref 2 3 0 2) J<|O (q7 b.To.Z) J<|O (.d (G (w64 (a.From.Z - b.To.Z)))) J<|O (.ref 2 3 0 2) J<|O (q7 b.To.Z) J<|O (.ref 1 3 0 2) J<|O (q7 a.From.Z) J<|O (.d (G (w64 (b.To.Z - a.From.Z)))) J<|U8 (r:=max (max (max (max (max (w64 (a.From.X - b.To.X)) (w64 (b.To.X - a.From.X))) (w64 (a.From.Y - b.To.Y))) (w64 (b.To.Y - a.From.Y))) (w64 (a.From.Z - b.To.Z))) (w64 (b.To.Z - a.From.Z))) J J (by simp only [U6];rfl)<|O (.d (.bool (decide ((max (max (max (max (max (w64 (a.From.X - b.To.X)) (w64 (b.To.X - a.From.X))) (w64 (a.From.Y - b.To.Y))) (w64 (b.To.Y - a.From.Y))) (w64 (a.From.Z - b.To.Z))) (w64 (b.To.Z - a.From.Z))) > 30)))) J<|O (.d (.bool (decide ((max (max (max (max (max (w64 (a.From.X - b.To.X)) (w64 (b.To.X - a.From.X))) (w64 (a.From.Y - b.To.Y))) (w64 (b.To.Y - a.From.Y))) (w64 (a.From.Z - b.To.Z))) (w64 (b.To.Z - a.From.Z))) > 30)))) J<|q9 ?_
    obtain rfl:=qe n
    exact ⟨_,_,_,_,_,_,_,_,_,_,_,_,_,_,_,_,_,_,_,_,_,_,_,_,_,_,_,_,_,_,_,_,_,J⟩
   rintro _ ⟨aj,ak,al,am,an,ao,ap,aq,ar,au,av,aw,ax,ay,az,ba,bb,bc,bd,be,bf,bg,bh,bi,bj,bk,bl,bm,bn,bo,bp,bq,br,rfl⟩
   refine q9 ?_
   refine qo J f (fun _ f=>?_) (fun _ f=>?_)
   ·refine qb<|qa J<|qp ?_
    refine ⟨_,(Option.some.inj f).symm,fun hm=>?_⟩
    subst hm
    obtain rfl:=qe g
    exact Q1 (qh true) J
   refine qn<|Q9<|Qc<|qu<|U J<|O (.d (G (w64 (o + 1)))) J<|qa J<|qs ?_
   exact ⟨_,(Option.some.inj f).symm,wkA [(0,0)] [] []⟩
  refine Q3 ?_
  refine ⟨_,(Option.some.inj f).symm,fun hm=>?_⟩
  subst hm
  exact ⟨_,J,wkA [] [] []⟩
 intro q hb
 subst hb
 refine qf<|qb<|qa J<|q9 ?_
 obtain ⟨bs,ce,g⟩:=q8 g
 refine Qe (fun t=>.inl t = bs) (fun (t : Unit)=>⟨[],[],0⟩) qd ?_ ?_
 ·refine Q8 (q51 j) (fun (p : Int)=>⟨[(1,.d (.sl 1 (j.map Ql))),(8,q7 p)],[],0⟩) 0 bs ce (wkA [] [] []) ?_
  intro p ch h
  unfold q51 at h
  refine qf<|qb<|U J<|U J<|Qd J<|O (.d (.bool (decide (p < (j.length : Int))))) J<|q9 ?_
  refine qo J h (fun _ h=>?_) (fun _ h=>?_)
  ·refine qn<|qf<|Q0<|qb<|U J<|U J ?_
   obtain ⟨bt,cf,h⟩:=q8 h
   refine Q4 (enc:=Ql) cf J<|O (.d (.sl 6 (bt.map qw))) J<|Qd J<|O (.d (.bool (decide ((bt.length : Int) > 5)))) J<|q9 ?_
   refine qo J h (fun _ h=>?_) (fun _ h=>?_)
   ·refine qb<|qa J<|qp ?_
    refine ⟨_,(Option.some.inj h).symm,fun hm=>?_⟩
    subst hm
    obtain rfl:=qe g
    exact Q1 (qh true) J
   refine qn<|Q9<|Qc<|qu<|U J<|O (.d (G (w64 (p + 1)))) J<|qa J<|qs ?_
   exact ⟨_,(Option.some.inj h).symm,wkA [] [] []⟩
  refine Q3 ?_
  refine ⟨_,(Option.some.inj h).symm,fun hm=>?_⟩
  subst hm
  exact ⟨_,J,wkA [] [] []⟩
 intro t hb
 subst hb
 refine qb<|qa J<|qp ?_
 obtain rfl:=qe g
 exact Q1 (qh false) J
theorem quq (f : List Qv) (j : Qv→Option Bool) (p1F : FuncId) (p1C : List DV) (p1Ok : ∀ (c : Qv) (r : Bool),j c = some r→Pure Tryz.prog tab p1F ([.agg [G c.From.X,G c.From.Y,G c.From.Z,G c.To.X,G c.To.Y,G c.To.Z,G c.Depth]] ++ p1C) (.bool r)) (r : Int) (g : qbj f j = some r) : Pure Tryz.prog tab 96 [.sl 7 (f.map Qf),.fn p1F p1C] (G r):=by
 unfold qbj at g
 refine Qg Tryz.func96 J qi qi J<|qb<|qa J<|q9<|qf<|qb<|U J<|Qd J<|U J<|q9 ?_
 obtain ⟨l,m,g⟩:=q8 g
 refine Qe (fun k=>.inl k = l) (fun (k : Unit)=>⟨[],[],0⟩) qd ?_ ?_
 ·refine Q8 (q5e f j) (fun (h : Int)=>⟨[(0,.d (.sl 7 (f.map Qf))),(1,.d (.fn p1F p1C)),(7,q7 (f.length : Int)),(8,q7 h)],[],0⟩) 0 l m (wkA [] [] []) ?_
  intro h q b
  unfold q5e at b
  refine qb<|O (.d (.bool (decide (h < (f.length : Int))))) J<|q9<|qf ?_
  refine qo J b (fun _ b=>?_) (fun _ b=>?_)
  ·refine qn<|qf<|Q0<|qb<|U J<|qa J<|qt<|U J<|U J<|U J ?_
   obtain ⟨a,n,b⟩:=q8 b
   refine Q4 (enc:=Qf) n J<|O (.d (.agg [G a.From.X,G a.From.Y,G a.From.Z,G a.To.X,G a.To.Y,G a.To.Z,G a.Depth])) J ?_
   obtain ⟨o,p,b⟩:=q8 b
   refine Yd [.d (.agg [G a.From.X,G a.From.Y,G a.From.Z,G a.To.X,G a.To.Y,G a.To.Z,G a.Depth])] (p1Ok a o p) J J J (.inl J)<|q9 ?_
   refine qo J b (fun _ b=>?_) (fun _ b=>?_)
   ·refine qb<|U J<|qa J<|qp ?_
    refine ⟨_,(Option.some.inj b).symm,fun hm=>?_⟩
    subst hm
    obtain rfl:=qe g
    exact Q1 (q7 h) J
   refine qn<|Q9<|Qc<|qu<|O (.d (G (w64 (h + 1)))) J<|U J<|qs ?_
   exact ⟨_,(Option.some.inj b).symm,wkA [] [] []⟩
  refine Q3 ?_
  refine ⟨_,(Option.some.inj b).symm,fun hm=>?_⟩
  subst hm
  exact ⟨_,J,wkA [] [] []⟩
 intro k hb
 subst hb
 refine qb<|qa J<|qp ?_
 obtain rfl:=qe g
 exact Q1 (q7 (-1)) J
theorem qkb (c : List Qv) (f : Qv→Option Bool) (p1F : FuncId) (p1C : List DV) (p1Ok : ∀ (a : Qv) (r : Bool),f a = some r→Pure Tryz.prog tab p1F ([.agg [G a.From.X,G a.From.Y,G a.From.Z,G a.To.X,G a.To.Y,G a.To.Z,G a.Depth]] ++ p1C) (.bool r)) (r : Bool) (b : q5d c f = some r) : Pure Tryz.prog tab 65 [.sl 7 (c.map Qf),.fn p1F p1C] (.bool r):=by
 unfold q5d at b
 refine Qg Tryz.func65 J qi qi J<|qb<|qa J<|qt<|U J<|U J ?_
 obtain ⟨g,h,b⟩:=q8 b
 refine qz (quq c f p1F p1C p1Ok g h) J<|O (.d (.bool (decide (g ≥ 0)))) J<|qa J<|qp ?_
 obtain rfl:=qe b
 exact Q1 (.d (.bool (decide (g ≥ 0)))) J
theorem qlb (a : qv) (r : Bool) (c : q9t a = some r) : Pure Tryz.prog tab 88 [.agg [G a.X,G a.Y,G a.Z]] (.bool r):=by
 unfold q9t at c
 refine Qg Tryz.func88 J qi qi J<|qb<|Qn (.ref 0 3 0 0) (.dat 3 [[G a.X,G a.Y,G a.Z]]) J<|qa J<|qt<|O (.ref 0 3 0 0) J<|O (q7 a.X) J<|O (.ref 0 3 0 1) J<|O (q7 a.Y) J<|O (.ref 0 3 0 2) J<|O (q7 a.Z) J<|Uy (r:=min (min a.X a.Y) a.Z) J J (by simp only [Uv];rfl)<|O (.d (.bool (decide ((min (min a.X a.Y) a.Z) ≥ (-1000000))))) J ?_
 obtain ⟨f,b,c⟩:=q8 c
 refine Qa 10 (fun A st=>∃ (g h j k l m n o p : V),st = A [(20,qh f),(19,p),(18,o),(17,n),(16,m),(15,l),(14,k),(13,j),(12,h),(11,g)]) ?_ ?_
 ·refine Qb J J b (fun b=>?_) (fun b=>?_)
  ·refine O (.ref 0 3 0 0) J<|O (q7 a.X) J<|O (.ref 0 3 0 1) J<|O (q7 a.Y) J<|O (.ref 0 3 0 2) J<|O (q7 a.Z) J<|U8 (r:=max (max a.X a.Y) a.Z) J J (by simp only [U6];rfl)<|O (.d (.bool (decide ((max (max a.X a.Y) a.Z)≤1000000)))) J<|O (.d (.bool (decide ((max (max a.X a.Y) a.Z)≤1000000)))) J<|q9 ?_
   obtain rfl:=qe b
   exact ⟨_,_,_,_,_,_,_,_,_,J⟩
  refine qc J<|qc J<|qc J<|qc J<|qc J<|qc J<|qc J<|qc J<|O (qh false) J<|q9 ?_
  obtain rfl:=qe b
  exact ⟨_,_,_,_,_,_,_,_,_,J⟩
 rintro _ ⟨g,h,j,k,l,m,n,o,p,rfl⟩
 refine qa J<|qp ?_
 obtain rfl:=qe c
 exact Q1 (qh f) J
theorem qyt (a : Qv) (r : Bool) (b : q6p a = some r) : Pure Tryz.prog tab 87 [.agg [G a.From.X,G a.From.Y,G a.From.Z,G a.To.X,G a.To.Y,G a.To.Z,G a.Depth]] (.bool r):=by
 unfold q6p at b
 refine Qg Tryz.func87 J qi qi J<|qb<|Qn (.ref 0 7 0 0) (.dat 7 [[G a.From.X,G a.From.Y,G a.From.Z,G a.To.X,G a.To.Y,G a.To.Z,G a.Depth]]) J<|qa J<|qt<|qa J<|q9<|qf<|qb<|O (.ref 0 7 0 3) J<|O (.ref 0 7 0 3) J<|O (q7 a.To.X) J<|O (.ref 0 7 0 0) J<|O (.ref 0 7 0 0) J<|O (q7 a.From.X) J<|O (.d (G (w64 (a.To.X - a.From.X)))) J<|O (.ref 0 7 0 3) J<|O (.ref 0 7 0 4) J<|O (q7 a.To.Y) J<|O (.ref 0 7 0 0) J<|O (.ref 0 7 0 1) J<|O (q7 a.From.Y) J<|O (.d (G (w64 (a.To.Y - a.From.Y)))) J<|O (.ref 0 7 0 3) J<|O (.ref 0 7 0 5) J<|O (q7 a.To.Z) J<|O (.ref 0 7 0 0) J<|O (.ref 0 7 0 2) J<|O (q7 a.From.Z) J<|O (.d (G (w64 (a.To.Z - a.From.Z)))) J<|O (.d (.agg [G (w64 (a.To.X - a.From.X)),G (w64 (a.To.Y - a.From.Y)),G (w64 (a.To.Z - a.From.Z))])) J<|U J<|q9 ?_
 obtain ⟨n,aa,b⟩:=q8 b
 refine Qe (fun j=>j = n) (fun (j : Int)=>⟨[(1,.ref 0 7 0 0),(3,q7 j)],[(0,.dat 7 [[G a.From.X,G a.From.Y,G a.From.Z,G a.To.X,G a.To.Y,G a.To.Z,G a.Depth]])],1⟩) qd ?_ ?_
 ·refine Q8 (Ub a) (fun (f : Int × Int)=>⟨[(1,.ref 0 7 0 0),(3,q7 f.1),(27,.d (.agg [G (w64 (a.To.X - a.From.X)),G (w64 (a.To.Y - a.From.Y)),G (w64 (a.To.Z - a.From.Z))])),(28,q7 f.2)],[(0,.dat 7 [[G a.From.X,G a.From.Y,G a.From.Z,G a.To.X,G a.To.Y,G a.To.Z,G a.Depth]])],1⟩) (0,0) n aa (wkA [(0,0)] [] []) ?_
  intro f y6 c
  unfold Ub at c
  refine qb<|O (.d (.bool (decide (f.2 < 3)))) J<|q9<|qf ?_
  refine qo J c (fun _ c=>?_) (fun _ c=>?_)
  ·refine qn<|qf ?_
   obtain ⟨ab,g,c⟩:=q8 c
   refine Qe (fun l=>l = ab) (fun (l : Int)=>⟨[(1,.ref 0 7 0 0),(3,q7 l),(27,.d (.agg [G (w64 (a.To.X - a.From.X)),G (w64 (a.To.Y - a.From.Y)),G (w64 (a.To.Z - a.From.Z))])),(28,q7 f.2)],[(0,.dat 7 [[G a.From.X,G a.From.Y,G a.From.Z,G a.To.X,G a.To.Y,G a.To.Z,G a.Depth]])],1⟩) qd ?_ ?_
   ·refine qb ?_
    obtain ⟨o,ac,g⟩:=q8 g
    refine qq5 (enc:=(eI .i64)) [w64 (a.To.X - a.From.X),w64 (a.To.Y - a.From.Y),w64 (a.To.Z - a.From.Z)] (q7 o) ac (fun _=>rfl) J J J J J J<|qa J<|qt<|U J<|O (qh (o == 0)) J<|q9 ?_
    refine qo J g (fun _ g=>?_) (fun _ g=>?_)
    ·refine qu<|U J<|O (.d (G (w64 (f.1 + 1)))) J<|qa J<|qs ?_
     obtain rfl:=qe g
     exact ⟨_,J,wkA [(0,0)] [] []⟩
    refine qn<|Q9 ?_
    obtain rfl:=qe g
    exact ⟨_,J,wkA [(0,0)] [] []⟩
   intro l hb
   subst hb
   refine qu<|O (.d (G (w64 (f.2 + 1)))) J<|U J<|qs ?_
   exact ⟨_,(Option.some.inj c).symm,wkA [(0,0)] [] []⟩
  refine Q3 ?_
  refine ⟨_,(Option.some.inj c).symm,fun hm=>?_⟩
  subst hm
  exact ⟨_,J,wkA [(0,0)] [] []⟩
 intro j hb
 subst hb
 refine qb<|O (.ref 0 7 0 0) J<|O (.d (.agg [G a.From.X,G a.From.Y,G a.From.Z])) J ?_
 obtain ⟨p,ad,b⟩:=q8 b
 refine qz (qlb a.From p ad) J<|O (qh (!p)) J ?_
 obtain ⟨ae,h,b⟩:=q8 b
 refine Qa 6 (fun A st=>∃ (q s t u v : V),st = A [(45,qh ae),(44,v),(43,u),(42,t),(41,s),(40,q)]) ?_ ?_
 ·refine Qb J J h (fun h=>?_) (fun h=>?_)
  ·refine qc J<|qc J<|qc J<|qc J<|O (qh true) J<|q9 ?_
   obtain rfl:=qe h
   exact ⟨_,_,_,_,_,J⟩
  refine O (.ref 0 7 0 3) J<|O (.d (.agg [G a.To.X,G a.To.Y,G a.To.Z])) J ?_
  obtain ⟨m,af,h⟩:=q8 h
  refine qz (qlb a.To m af) J<|O (qh (!m)) J<|O (qh (!m)) J<|q9 ?_
  obtain rfl:=qe h
  exact ⟨_,_,_,_,_,J⟩
 rintro _ ⟨q,s,t,u,v,rfl⟩
 obtain ⟨w,k,b⟩:=q8 b
 refine Qa 4 (fun A st=>∃ (x y z : V),st = A [(49,qh w),(48,z),(47,y),(46,x)]) ?_ ?_
 ·refine Qb J J k (fun k=>?_) (fun k=>?_)
  ·refine qc J<|qc J<|O (qh true) J<|q9 ?_
   obtain rfl:=qe k
   exact ⟨_,_,_,J⟩
  refine U J<|O (.d (.bool (decide (j < 2)))) J<|O (.d (.bool (decide (j < 2)))) J<|q9 ?_
  obtain rfl:=qe k
  exact ⟨_,_,_,J⟩
 rintro _ ⟨x,y,z,rfl⟩
 refine qa J<|qp ?_
 obtain rfl:=qe b
 exact Q1 (qh w) J
theorem qur (c : List Ye) (j : Ye→Option Bool) (p1F : FuncId) (p1C : List DV) (p1Ok : ∀ (f : Ye) (r : Bool),j f = some r→Pure Tryz.prog tab p1F ([.agg [.int .u8 f.Name,.int .u8 f.Frame.Turn,G f.Frame.At.X,G f.Frame.At.Y,G f.Frame.At.Z]] ++ p1C) (.bool r)) (r : Int) (g : qbk c j = some r) : Pure Tryz.prog tab 115 [.sl 5 (c.map Qy),.fn p1F p1C] (G r):=by
 unfold qbk at g
 refine Qg Tryz.func115 J qi qi J<|qb<|qa J<|q9<|qf<|qb<|U J<|Qd J<|U J<|q9 ?_
 obtain ⟨l,m,g⟩:=q8 g
 refine Qe (fun k=>.inl k = l) (fun (k : Unit)=>⟨[],[],0⟩) qd ?_ ?_
 ·refine Q8 (q5f c j) (fun (h : Int)=>⟨[(0,.d (.sl 5 (c.map Qy))),(1,.d (.fn p1F p1C)),(7,q7 (c.length : Int)),(8,q7 h)],[],0⟩) 0 l m (wkA [] [] []) ?_
  intro h q a
  unfold q5f at a
  refine qb<|O (.d (.bool (decide (h < (c.length : Int))))) J<|q9<|qf ?_
  refine qo J a (fun _ a=>?_) (fun _ a=>?_)
  ·refine qn<|qf<|Q0<|qb<|U J<|qa J<|qt<|U J<|U J<|U J ?_
   obtain ⟨b,n,a⟩:=q8 a
   refine Q4 (enc:=Qy) n J<|O (.d (.agg [.int .u8 b.Name,.int .u8 b.Frame.Turn,G b.Frame.At.X,G b.Frame.At.Y,G b.Frame.At.Z])) J ?_
   obtain ⟨o,p,a⟩:=q8 a
   refine Yd [.d (.agg [.int .u8 b.Name,.int .u8 b.Frame.Turn,G b.Frame.At.X,G b.Frame.At.Y,G b.Frame.At.Z])] (p1Ok b o p) J J J (.inl J)<|q9 ?_
   refine qo J a (fun _ a=>?_) (fun _ a=>?_)
   ·refine qb<|U J<|qa J<|qp ?_
    refine ⟨_,(Option.some.inj a).symm,fun hm=>?_⟩
    subst hm
    obtain rfl:=qe g
    exact Q1 (q7 h) J
   refine qn<|Q9<|Qc<|qu<|O (.d (G (w64 (h + 1)))) J<|U J<|qs ?_
   exact ⟨_,(Option.some.inj a).symm,wkA [] [] []⟩
  refine Q3 ?_
  refine ⟨_,(Option.some.inj a).symm,fun hm=>?_⟩
  subst hm
  exact ⟨_,J,wkA [] [] []⟩
 intro k hb
 subst hb
 refine qb<|qa J<|qp ?_
 obtain rfl:=qe g
 exact Q1 (q7 (-1)) J
theorem quh (c : List Ye) (f : Ye→Option Bool) (p1F : FuncId) (p1C : List DV) (p1Ok : ∀ (a : Ye) (r : Bool),f a = some r→Pure Tryz.prog tab p1F ([.agg [.int .u8 a.Name,.int .u8 a.Frame.Turn,G a.Frame.At.X,G a.Frame.At.Y,G a.Frame.At.Z]] ++ p1C) (.bool r)) (r : Bool) (b : q8a c f = some r) : Pure Tryz.prog tab 89 [.sl 5 (c.map Qy),.fn p1F p1C] (.bool r):=by
 unfold q8a at b
 refine Qg Tryz.func89 J qi qi J<|qb<|qa J<|qt<|U J<|U J ?_
 obtain ⟨g,h,b⟩:=q8 b
 refine qz (qur c f p1F p1C p1Ok g h) J<|O (.d (.bool (decide (g ≥ 0)))) J<|qa J<|qp ?_
 obtain rfl:=qe b
 exact Q1 (.d (.bool (decide (g ≥ 0)))) J
theorem qog (a : qv) (f : Int) (r : Bool) (c : q7c a f = some r) : Pure Tryz.prog tab 91 [.agg [G a.X,G a.Y,G a.Z],G f] (.bool r):=by
 unfold q7c at c
 refine Qg Tryz.func91 J qi qi J<|qb<|Qn (.ref 0 3 0 0) (.dat 3 [[G a.X,G a.Y,G a.Z]]) J<|qa J<|qt<|O (.ref 0 3 0 0) J<|O (q7 a.X) J<|O (.ref 0 3 0 1) J<|O (q7 a.Y) J<|O (.ref 0 3 0 2) J<|O (q7 a.Z) J<|Uy (r:=min (min a.X a.Y) a.Z) J J (by simp only [Uv];rfl)<|U J<|O (.d (.bool (decide ((min (min a.X a.Y) a.Z) ≥ f)))) J ?_
 obtain ⟨g,b,c⟩:=q8 c
 refine Qa 10 (fun A st=>∃ (h j k l m n o p q : V),st = A [(23,qh g),(22,q),(21,p),(20,o),(19,n),(18,m),(17,l),(16,k),(15,j),(14,h)]) ?_ ?_
 ·refine Qb J J b (fun b=>?_) (fun b=>?_)
  ·refine O (.ref 0 3 0 0) J<|O (q7 a.X) J<|O (.ref 0 3 0 1) J<|O (q7 a.Y) J<|O (.ref 0 3 0 2) J<|O (q7 a.Z) J<|U8 (r:=max (max a.X a.Y) a.Z) J J (by simp only [U6];rfl)<|O (.d (.bool (decide ((max (max a.X a.Y) a.Z)≤1000000)))) J<|O (.d (.bool (decide ((max (max a.X a.Y) a.Z)≤1000000)))) J<|q9 ?_
   obtain rfl:=qe b
   exact ⟨_,_,_,_,_,_,_,_,_,J⟩
  refine qc J<|qc J<|qc J<|qc J<|qc J<|qc J<|qc J<|qc J<|O (qh false) J<|q9 ?_
  obtain rfl:=qe b
  exact ⟨_,_,_,_,_,_,_,_,_,J⟩
 rintro _ ⟨h,j,k,l,m,n,o,p,q,rfl⟩
 refine qa J<|qp ?_
 obtain rfl:=qe c
 exact Q1 (qh g) J
theorem qh7 (a : Ys) (r : Int) (b : q49 a = some r) : Pure Tryz.prog tab 61 [.agg [.int .u8 a.Turn,G a.At.X,G a.At.Y,G a.At.Z]] (G r):=by
 unfold q49 at b
 refine Qg Tryz.func61 J qi qi J<|qb<|Qn (.ref 0 4 0 0) (.dat 4 [[.int .u8 a.Turn,G a.At.X,G a.At.Y,G a.At.Z]]) J<|qa J<|q9<|qf<|qb<|O (.ref 0 4 0 0) J<|O (.d (.int .u8 a.Turn)) J<|O (.d (.bool (decide (a.Turn ≥ 24)))) J ?_
 obtain ⟨m,c,b⟩:=q8 b
 refine Qa 6 (fun A st=>∃ (g h j k l : V),st = A [(11,qh m),(10,l),(9,k),(8,j),(7,h),(6,g)]) ?_ ?_
 ·refine Qb J J c (fun c=>?_) (fun c=>?_)
  ·refine qc J<|qc J<|qc J<|qc J<|O (qh true) J<|q9 ?_
   obtain rfl:=qe c
   exact ⟨_,_,_,_,_,J⟩
  refine O (.ref 0 4 0 1) J<|O (.d (.agg [G a.At.X,G a.At.Y,G a.At.Z])) J ?_
  obtain ⟨f,n,c⟩:=q8 c
  refine qz (qog a.At (-1000000) f n) J<|O (qh (!f)) J<|O (qh (!f)) J<|q9 ?_
  obtain rfl:=qe c
  exact ⟨_,_,_,_,_,J⟩
 rintro _ ⟨g,h,j,k,l,rfl⟩
 refine q9 ?_
 refine qo J b (fun _ b=>?_) (fun _ b=>?_)
 ·refine qb<|qa J<|qp ?_
  obtain rfl:=qe b
  exact Q1 (q7 8) J
 refine qn<|qb<|qa J<|qp ?_
 obtain rfl:=qe b
 exact Q1 (q7 0) J
theorem qyu (a : Ye) (r : Bool) (b : q6q a = some r) : Pure Tryz.prog tab 90 [.agg [.int .u8 a.Name,.int .u8 a.Frame.Turn,G a.Frame.At.X,G a.Frame.At.Y,G a.Frame.At.Z]] (.bool r):=by
 unfold q6q at b
 refine Qg Tryz.func90 J qi qi J<|qb<|Qn (.ref 0 5 0 0) (.dat 5 [[.int .u8 a.Name,.int .u8 a.Frame.Turn,G a.Frame.At.X,G a.Frame.At.Y,G a.Frame.At.Z]]) J<|qa J<|qt<|O (.ref 0 5 0 1) J<|O (.d (.agg [.int .u8 a.Frame.Turn,G a.Frame.At.X,G a.Frame.At.Y,G a.Frame.At.Z])) J ?_
 obtain ⟨c,f,b⟩:=q8 b
 refine qz (qh7 a.Frame c f) J<|O (qh (c != 0)) J<|qa J<|qp ?_
 obtain rfl:=qe b
 exact Q1 (qh (c != 0)) J
theorem qyv (a : K1) (r : Int) (b : q9s a = some r) : Pure Tryz.prog tab 60 [.agg [.sl 7 (a.Lines.map Qf),.sl 5 (a.Marks.map Qy),.int .u8 a.End.Frame.Turn,G a.End.Frame.At.X,G a.End.Frame.At.Y,G a.End.Frame.At.Z,G a.End.Drawn]] (G r):=by
 unfold q9s at b
 refine Qg Tryz.func60 J qi qi J<|qb<|Qn (.ref 0 7 0 0) (.dat 7 [[.sl 7 (a.Lines.map Qf),.sl 5 (a.Marks.map Qy),.int .u8 a.End.Frame.Turn,G a.End.Frame.At.X,G a.End.Frame.At.Y,G a.End.Frame.At.Z,G a.End.Drawn]]) J<|qa J<|qt<|O (.ref 0 7 0 0) J<|O (.d (.sl 7 (a.Lines.map Qf))) J ?_
 obtain ⟨r1,h2,b⟩:=q8 b
 refine qz (qkb a.Lines (fun c=>q6p c) 87 [] (fun c r hr=>qyt c r hr) r1 h2) J<|qa J<|qt<|O (.ref 0 7 0 1) J<|O (.d (.sl 5 (a.Marks.map Qy))) J ?_
 obtain ⟨k,h4,b⟩:=q8 b
 refine qz (quh a.Marks (fun c=>q6q c) 90 [] (fun c r hr=>qyu c r hr) k h4) J<|qa J<|q9<|qf<|qb<|U J ?_
 obtain ⟨c5,g,b⟩:=q8 b
 refine Qa 3 (fun A st=>∃ (l m : V),st = A [(14,qh c5),(13,m),(12,l)]) ?_ ?_
 ·refine Qb J J g (fun g=>?_) (fun g=>?_)
  ·refine qc J<|O (qh true) J<|q9 ?_
   obtain rfl:=qe g
   exact ⟨_,_,J⟩
  refine U J<|O (qh k) J<|q9 ?_
  obtain rfl:=qe g
  exact ⟨_,_,J⟩
 rintro _ ⟨l,m,rfl⟩
 obtain ⟨ah,f,b⟩:=q8 b
 refine Qa 7 (fun A st=>∃ (n o p q s t : V),st = A [(21,qh ah),(20,t),(19,s),(18,q),(17,p),(16,o),(15,n)]) ?_ ?_
 ·refine Qb J J f (fun f=>?_) (fun f=>?_)
  ·refine qc J<|qc J<|qc J<|qc J<|qc J<|O (qh true) J<|q9 ?_
   obtain rfl:=qe f
   exact ⟨_,_,_,_,_,_,J⟩
  refine O (.ref 0 7 0 2) J<|O (.ref 0 7 0 2) J<|O (.d (.agg [.int .u8 a.End.Frame.Turn,G a.End.Frame.At.X,G a.End.Frame.At.Y,G a.End.Frame.At.Z])) J ?_
  obtain ⟨j,ai,f⟩:=q8 f
  refine qz (qh7 a.End.Frame j ai) J<|O (qh (j != 0)) J<|O (qh (j != 0)) J<|q9 ?_
  obtain rfl:=qe f
  exact ⟨_,_,_,_,_,_,J⟩
 rintro _ ⟨n,o,p,q,s,t,rfl⟩
 obtain ⟨aj,h,b⟩:=q8 b
 refine Qa 10 (fun A st=>∃ (u v w x y z aa ab ac : V),st = A [(31,qh aj),(30,ac),(29,ab),(28,aa),(27,z),(26,y),(25,x),(24,w),(23,v),(22,u)]) ?_ ?_
 ·refine Qb J J h (fun h=>?_) (fun h=>?_)
  ·refine qc J<|qc J<|qc J<|qc J<|qc J<|qc J<|qc J<|qc J<|O (qh true) J<|q9 ?_
   obtain rfl:=qe h
   exact ⟨_,_,_,_,_,_,_,_,_,J⟩
  refine O (.ref 0 7 0 0) J<|O (.d (.sl 7 (a.Lines.map Qf))) J<|Qd J<|O (.ref 0 7 0 1) J<|O (.d (.sl 5 (a.Marks.map Qy))) J<|Qd J<|U8 (r:=max (a.Lines.length : Int) (a.Marks.length : Int)) J J (by simp only [U6];rfl)<|O (.d (.bool (decide ((max (a.Lines.length : Int) (a.Marks.length : Int)) > 2000)))) J<|O (.d (.bool (decide ((max (a.Lines.length : Int) (a.Marks.length : Int)) > 2000)))) J<|q9 ?_
  obtain rfl:=qe h
  exact ⟨_,_,_,_,_,_,_,_,_,J⟩
 rintro _ ⟨u,v,w,x,y,z,aa,ab,ac,rfl⟩
 refine q9 ?_
 refine qo J b (fun _ b=>?_) (fun _ b=>?_)
 ·refine qb<|qa J<|qp ?_
  obtain rfl:=qe b
  exact Q1 (q7 8) J
 refine qn<|qb<|qa J<|qp ?_
 obtain rfl:=qe b
 exact Q1 (q7 0) J
theorem qez (a : Int) (r : Int) (b : q6r a = some r) : Pure Tryz.prog tab 69 [G a] (G r):=by
 unfold q6r at b
 refine Qg Tryz.func69 J qi qi J<|qb<|qa J<|qt<|U J<|U J<|O (.d (G (w64 (0 - a)))) J<|U8 (r:=max a (w64 (0 - a))) J J (by simp only [U6];rfl)<|qa J<|qp ?_
 obtain rfl:=qe b
 exact Q1 (.d (G (max a (w64 (0 - a))))) J
theorem qla (b : K1) (r : Int × Int) (f : q3y b = some r) : Pure Tryz.prog tab 43 [.agg [.sl 7 (b.Lines.map Qf),.sl 5 (b.Marks.map Qy),.int .u8 b.End.Frame.Turn,G b.End.Frame.At.X,G b.End.Frame.At.Y,G b.End.Frame.At.Z,G b.End.Drawn]] (.tup [G r.1,G r.2]):=by
 unfold q3y at f
 refine Qg Tryz.func43 J qi qi J<|qb<|Qn (.ref 0 7 0 0) (.dat 7 [[.sl 7 (b.Lines.map Qf),.sl 5 (b.Marks.map Qy),.int .u8 b.End.Frame.Turn,G b.End.Frame.At.X,G b.End.Frame.At.Y,G b.End.Frame.At.Z,G b.End.Drawn]]) J<|qa J<|qa J<|q9<|qf<|qb<|O (.d (.agg [.sl 7 (b.Lines.map Qf),.sl 5 (b.Marks.map Qy),.int .u8 b.End.Frame.Turn,G b.End.Frame.At.X,G b.End.Frame.At.Y,G b.End.Frame.At.Z,G b.End.Drawn])) J ?_
 obtain ⟨l,o,f⟩:=q8 f
 refine qz (qyv b l o) J<|qa J<|qt<|U J<|O (qh (l != 0)) J<|q9 ?_
 refine qo J f (fun _ f=>?_) (fun _ f=>?_)
 ·refine qb<|U J<|qa J<|qa J<|qp ?_
  obtain rfl:=qe f
  exact Q1 (.d (.tup [G 0,G l])) J
 refine qn<|qb<|qa J<|q9<|qf<|qb<|O (.ref 0 7 0 0) J<|O (.d (.sl 7 (b.Lines.map Qf))) J<|Qd J<|U J<|q9 ?_
 obtain ⟨n,p,f⟩:=q8 f
 refine Qe (fun h=>h = n) (fun (h : Int)=>⟨[(5,q7 h)],[],0⟩) qd ?_ ?_
 ·refine Q8 (q6o b) (fun (g : Int × Int)=>⟨[(5,q7 g.1),(14,.d (.sl 7 (b.Lines.map Qf))),(15,q7 (b.Lines.length : Int)),(16,q7 g.2)],[],0⟩) (0,0) n p (wkA [] [] []) ?_
  intro g v c
  unfold q6o at c
  refine qb<|O (.d (.bool (decide (g.2 < (b.Lines.length : Int))))) J<|q9<|qf ?_
  refine qo J c (fun _ c=>?_) (fun _ c=>?_)
  ·refine qn<|qf<|Q0<|qb ?_
   obtain ⟨a,q,c⟩:=q8 c
   refine Q4 (enc:=Qf) q J<|O (.d (.agg [G a.From.X,G a.From.Y,G a.From.Z,G a.To.X,G a.To.Y,G a.To.Z,G a.Depth])) J<|K2 J J<|Qp 0 (.dat 7 [[G a.From.X,G a.From.Y,G a.From.Z,G a.To.X,G a.To.Y,G a.To.Z,G a.Depth]]) J<|q9<|Q7 [q0,q0,q0,q0,q0,qq 0,q0,q0,qq 0,q0,q0,q0,q0,q0,qq 0,q0,q0,qq 0,q0,q0,q0,q0,qq 0,q0,q0,qq 0,q0,q0,q0] qi<|U J<|O (.ref 0 7 0 3) J<|O (.ref 0 7 0 3) J<|O (q7 a.To.X) J<|O (.ref 0 7 0 0) J<|O (.ref 0 7 0 0) J<|O (q7 a.From.X) J<|O (.d (G (w64 (a.To.X - a.From.X)))) J ?_
   obtain ⟨j,s,c⟩:=q8 c
   refine qz (qez (w64 (a.To.X - a.From.X)) j s) J<|O (.ref 0 7 0 3) J<|O (.ref 0 7 0 4) J<|O (q7 a.To.Y) J<|O (.ref 0 7 0 0) J<|O (.ref 0 7 0 1) J<|O (q7 a.From.Y) J<|O (.d (G (w64 (a.To.Y - a.From.Y)))) J ?_
   obtain ⟨k,t,c⟩:=q8 c
   refine qz (qez (w64 (a.To.Y - a.From.Y)) k t) J<|O (.d (G (w64 (j + k)))) J<|O (.ref 0 7 0 3) J<|O (.ref 0 7 0 5) J<|O (q7 a.To.Z) J<|O (.ref 0 7 0 0) J<|O (.ref 0 7 0 2) J<|O (q7 a.From.Z) J<|O (.d (G (w64 (a.To.Z - a.From.Z)))) J ?_
   obtain ⟨m,u,c⟩:=q8 c
   refine qz (qez (w64 (a.To.Z - a.From.Z)) m u) J<|O (.d (G (w64 ((w64 (j + k)) + m)))) J<|O (.d (G (w64 (g.1 + (w64 ((w64 (j + k)) + m)))))) J<|qa J<|qs<|Qc<|qu<|O (.d (G (w64 (g.2 + 1)))) J<|U J<|qs ?_
   exact ⟨_,(Option.some.inj c).symm,wkA [] [] []⟩
  refine Q3 ?_
  refine ⟨_,(Option.some.inj c).symm,fun hm=>?_⟩
  subst hm
  exact ⟨_,J,wkA [] [] []⟩
 intro h hb
 subst hb
 refine qb<|U J<|qa J<|qa J<|qp ?_
 obtain rfl:=qe f
 exact Q1 (.d (.tup [G h,G 0])) J
theorem qut (f : List qg) (j : qg→Option Bool) (p1F : FuncId) (p1C : List DV) (p1Ok : ∀ (c : qg) (r : Bool),j c = some r→Pure Tryz.prog tab p1F ([.agg [G c.Lo.X,G c.Lo.Y,G c.Lo.Z,G c.Hi.X,G c.Hi.Y,G c.Hi.Z]] ++ p1C) (.bool r)) (r : Int) (g : qbm f j = some r) : Pure Tryz.prog tab 85 [.sl 6 (f.map qw),.fn p1F p1C] (G r):=by
 unfold qbm at g
 refine Qg Tryz.func85 J qi qi J<|qb<|qa J<|q9<|qf<|qb<|U J<|Qd J<|U J<|q9 ?_
 obtain ⟨l,m,g⟩:=q8 g
 refine Qe (fun k=>.inl k = l) (fun (k : Unit)=>⟨[],[],0⟩) qd ?_ ?_
 ·refine Q8 (q3g f j) (fun (h : Int)=>⟨[(0,.d (.sl 6 (f.map qw))),(1,.d (.fn p1F p1C)),(7,q7 (f.length : Int)),(8,q7 h)],[],0⟩) 0 l m (wkA [] [] []) ?_
  intro h q a
  unfold q3g at a
  refine qb<|O (.d (.bool (decide (h < (f.length : Int))))) J<|q9<|qf ?_
  refine qo J a (fun _ a=>?_) (fun _ a=>?_)
  ·refine qn<|qf<|Q0<|qb<|U J<|qa J<|qt<|U J<|U J<|U J ?_
   obtain ⟨b,n,a⟩:=q8 a
   refine Q4 (enc:=qw) n J<|O (.d (.agg [G b.Lo.X,G b.Lo.Y,G b.Lo.Z,G b.Hi.X,G b.Hi.Y,G b.Hi.Z])) J ?_
   obtain ⟨o,p,a⟩:=q8 a
   refine Yd [.d (.agg [G b.Lo.X,G b.Lo.Y,G b.Lo.Z,G b.Hi.X,G b.Hi.Y,G b.Hi.Z])] (p1Ok b o p) J J J (.inl J)<|q9 ?_
   refine qo J a (fun _ a=>?_) (fun _ a=>?_)
   ·refine qb<|U J<|qa J<|qp ?_
    refine ⟨_,(Option.some.inj a).symm,fun hm=>?_⟩
    subst hm
    obtain rfl:=qe g
    exact Q1 (q7 h) J
   refine qn<|Q9<|Qc<|qu<|O (.d (G (w64 (h + 1)))) J<|U J<|qs ?_
   exact ⟨_,(Option.some.inj a).symm,wkA [] [] []⟩
  refine Q3 ?_
  refine ⟨_,(Option.some.inj a).symm,fun hm=>?_⟩
  subst hm
  exact ⟨_,J,wkA [] [] []⟩
 intro k hb
 subst hb
 refine qb<|qa J<|qp ?_
 obtain rfl:=qe g
 exact Q1 (q7 (-1)) J
theorem quj (c : List qg) (f : qg→Option Bool) (p1F : FuncId) (p1C : List DV) (p1Ok : ∀ (a : qg) (r : Bool),f a = some r→Pure Tryz.prog tab p1F ([.agg [G a.Lo.X,G a.Lo.Y,G a.Lo.Z,G a.Hi.X,G a.Hi.Y,G a.Hi.Z]] ++ p1C) (.bool r)) (r : Bool) (b : q8c c f = some r) : Pure Tryz.prog tab 57 [.sl 6 (c.map qw),.fn p1F p1C] (.bool r):=by
 unfold q8c at b
 refine Qg Tryz.func57 J qi qi J<|qb<|qa J<|qt<|U J<|U J ?_
 obtain ⟨g,h,b⟩:=q8 b
 refine qz (qut c f p1F p1C p1Ok g h) J<|O (.d (.bool (decide (g ≥ 0)))) J<|qa J<|qp ?_
 obtain rfl:=qe b
 exact Q1 (.d (.bool (decide (g ≥ 0)))) J
theorem qko (a : qv) (r : Bool) (c : q6f a = some r) : Pure Tryz.prog tab 97 [.agg [G a.X,G a.Y,G a.Z]] (.bool r):=by
 unfold q6f at c
 refine Qg Tryz.func97 J qi qi J<|qb<|Qn (.ref 0 3 0 0) (.dat 3 [[G a.X,G a.Y,G a.Z]]) J<|qa J<|qt<|O (.ref 0 3 0 0) J<|O (q7 a.X) J<|O (.ref 0 3 0 1) J<|O (q7 a.Y) J<|O (.ref 0 3 0 2) J<|O (q7 a.Z) J<|Uy (r:=min (min a.X a.Y) a.Z) J J (by simp only [Uv];rfl)<|O (.d (.bool (decide ((min (min a.X a.Y) a.Z) ≥ (-1000000))))) J ?_
 obtain ⟨f,b,c⟩:=q8 c
 refine Qa 10 (fun A st=>∃ (g h j k l m n o p : V),st = A [(20,qh f),(19,p),(18,o),(17,n),(16,m),(15,l),(14,k),(13,j),(12,h),(11,g)]) ?_ ?_
 ·refine Qb J J b (fun b=>?_) (fun b=>?_)
  ·refine O (.ref 0 3 0 0) J<|O (q7 a.X) J<|O (.ref 0 3 0 1) J<|O (q7 a.Y) J<|O (.ref 0 3 0 2) J<|O (q7 a.Z) J<|U8 (r:=max (max a.X a.Y) a.Z) J J (by simp only [U6];rfl)<|O (.d (.bool (decide ((max (max a.X a.Y) a.Z)≤1000000)))) J<|O (.d (.bool (decide ((max (max a.X a.Y) a.Z)≤1000000)))) J<|q9 ?_
   obtain rfl:=qe b
   exact ⟨_,_,_,_,_,_,_,_,_,J⟩
  refine qc J<|qc J<|qc J<|qc J<|qc J<|qc J<|qc J<|qc J<|O (qh false) J<|q9 ?_
  obtain rfl:=qe b
  exact ⟨_,_,_,_,_,_,_,_,_,J⟩
 rintro _ ⟨g,h,j,k,l,m,n,o,p,rfl⟩
 refine qa J<|qp ?_
 obtain rfl:=qe c
 exact Q1 (qh f) J
theorem qkq (a : qg) (r : Bool) (b : q6g a = some r) : Pure Tryz.prog tab 71 [.agg [G a.Lo.X,G a.Lo.Y,G a.Lo.Z,G a.Hi.X,G a.Hi.Y,G a.Hi.Z]] (.bool r):=by
 unfold q6g at b
 refine Qg Tryz.func71 J qi qi J<|qb<|Qn (.ref 0 6 0 0) (.dat 6 [[G a.Lo.X,G a.Lo.Y,G a.Lo.Z,G a.Hi.X,G a.Hi.Y,G a.Hi.Z]]) J<|qa J<|qt<|O (.ref 0 6 0 0) J<|O (.ref 0 6 0 0) J<|O (q7 a.Lo.X) J<|O (.ref 0 6 0 3) J<|O (.ref 0 6 0 3) J<|O (q7 a.Hi.X) J<|O (.d (.bool (decide (a.Lo.X < a.Hi.X)))) J ?_
 obtain ⟨c1,g,b⟩:=q8 b
 refine Qa 9 (fun A st=>∃ (j k l m n o p q : V),st = A [(18,qh c1),(17,q),(16,p),(15,o),(14,n),(13,m),(12,l),(11,k),(10,j)]) ?_ ?_
 ·refine Qb J J g (fun g=>?_) (fun g=>?_)
  ·refine O (.ref 0 6 0 0) J<|O (.ref 0 6 0 1) J<|O (q7 a.Lo.Y) J<|O (.ref 0 6 0 3) J<|O (.ref 0 6 0 4) J<|O (q7 a.Hi.Y) J<|O (.d (.bool (decide (a.Lo.Y < a.Hi.Y)))) J<|O (.d (.bool (decide (a.Lo.Y < a.Hi.Y)))) J<|q9 ?_
   obtain rfl:=qe g
   exact ⟨_,_,_,_,_,_,_,_,J⟩
  refine qc J<|qc J<|qc J<|qc J<|qc J<|qc J<|qc J<|O (qh false) J<|q9 ?_
  obtain rfl:=qe g
  exact ⟨_,_,_,_,_,_,_,_,J⟩
 rintro _ ⟨j,k,l,m,n,o,p,q,rfl⟩
 obtain ⟨am,h,b⟩:=q8 b
 refine Qa 9 (fun A st=>∃ (s t u v w x y z : V),st = A [(27,qh am),(26,z),(25,y),(24,x),(23,w),(22,v),(21,u),(20,t),(19,s)]) ?_ ?_
 ·refine Qb J J h (fun h=>?_) (fun h=>?_)
  ·refine O (.ref 0 6 0 0) J<|O (.ref 0 6 0 2) J<|O (q7 a.Lo.Z) J<|O (.ref 0 6 0 3) J<|O (.ref 0 6 0 5) J<|O (q7 a.Hi.Z) J<|O (.d (.bool (decide (a.Lo.Z < a.Hi.Z)))) J<|O (.d (.bool (decide (a.Lo.Z < a.Hi.Z)))) J<|q9 ?_
   obtain rfl:=qe h
   exact ⟨_,_,_,_,_,_,_,_,J⟩
  refine qc J<|qc J<|qc J<|qc J<|qc J<|qc J<|qc J<|O (qh false) J<|q9 ?_
  obtain rfl:=qe h
  exact ⟨_,_,_,_,_,_,_,_,J⟩
 rintro _ ⟨s,t,u,v,w,x,y,z,rfl⟩
 obtain ⟨an,c,b⟩:=q8 b
 refine Qa 5 (fun A st=>∃ (aa ab ac ad : V),st = A [(32,qh an),(31,ad),(30,ac),(29,ab),(28,aa)]) ?_ ?_
 ·refine Qb J J c (fun c=>?_) (fun c=>?_)
  ·refine O (.ref 0 6 0 0) J<|O (.d (.agg [G a.Lo.X,G a.Lo.Y,G a.Lo.Z])) J ?_
   obtain ⟨ae,ao,c⟩:=q8 c
   refine qz (qko a.Lo ae ao) J<|O (qh ae) J<|q9 ?_
   obtain rfl:=qe c
   exact ⟨_,_,_,_,J⟩
  refine qc J<|qc J<|qc J<|O (qh false) J<|q9 ?_
  obtain rfl:=qe c
  exact ⟨_,_,_,_,J⟩
 rintro _ ⟨aa,ab,ac,ad,rfl⟩
 obtain ⟨af,f,b⟩:=q8 b
 refine Qa 5 (fun A st=>∃ (ag ah ai aj : V),st = A [(37,qh af),(36,aj),(35,ai),(34,ah),(33,ag)]) ?_ ?_
 ·refine Qb J J f (fun f=>?_) (fun f=>?_)
  ·refine O (.ref 0 6 0 3) J<|O (.d (.agg [G a.Hi.X,G a.Hi.Y,G a.Hi.Z])) J ?_
   obtain ⟨ak,ap,f⟩:=q8 f
   refine qz (qko a.Hi ak ap) J<|O (qh ak) J<|q9 ?_
   obtain rfl:=qe f
   exact ⟨_,_,_,_,J⟩
  refine qc J<|qc J<|qc J<|O (qh false) J<|q9 ?_
  obtain rfl:=qe f
  exact ⟨_,_,_,_,J⟩
 rintro _ ⟨ag,ah,ai,aj,rfl⟩
 refine qa J<|qp ?_
 obtain rfl:=qe b
 exact Q1 (qh af) J
theorem qxi (a : qg) (r : Bool) (b : q28 a = some r) : Pure Tryz.prog tab 70 [.agg [G a.Lo.X,G a.Lo.Y,G a.Lo.Z,G a.Hi.X,G a.Hi.Y,G a.Hi.Z]] (.bool r):=by
 unfold q28 at b
 refine Qg Tryz.func70 J qi qi J<|qb<|Qn (.ref 0 6 0 0) (.dat 6 [[G a.Lo.X,G a.Lo.Y,G a.Lo.Z,G a.Hi.X,G a.Hi.Y,G a.Hi.Z]]) J<|qa J<|qt<|O (.d (.agg [G a.Lo.X,G a.Lo.Y,G a.Lo.Z,G a.Hi.X,G a.Hi.Y,G a.Hi.Z])) J ?_
 obtain ⟨c,f,b⟩:=q8 b
 refine qz (qkq a c f) J<|O (qh (!c)) J<|qa J<|qp ?_
 obtain rfl:=qe b
 exact Q1 (qh (!c)) J
theorem qpm (k : Int) (r : Int) (a : q1r k = some r) : Pure Tryz.prog tab 156 [.int .u64 k] (G r):=by
 unfold q1r at a
 refine Qg Tryz.func156 J qi qi J<|qb<|qa J<|q9<|qf<|qb<|U J<|O (.d (.bool (decide (k ≥ 4294967296)))) J<|q9 ?_
 obtain ⟨m,g,a⟩:=q8 a
 refine Yb (fun b=>b = m) (fun (b : Int × Int)=>⟨[(0,.d (.int .u64 b.1)),(2,q7 b.2)],[],0⟩) qd ?_ ?_
 ·refine qo J g (fun _ g=>?_) (fun _ g=>?_)
  ·refine qb<|U J<|O (.d (.int .u64 (Int.fdiv k (2 ^ 32)))) J<|qa J<|q9<|qu<|qa J<|qs ?_
   obtain rfl:=qe g
   exact ⟨_,J,wkA [] [] []⟩
  refine qn<|Q9 ?_
  obtain rfl:=qe g
  exact ⟨_,J,wkA [] [] []⟩
 intro b hb
 subst hb
 refine qf<|qb<|U J<|O (.d (.bool (decide (b.1 ≥ 65536)))) J<|q9 ?_
 obtain ⟨n,h,a⟩:=q8 a
 refine Yb (fun c=>c = n) (fun (c : Int × Int)=>⟨[(0,.d (.int .u64 c.1)),(2,q7 c.2)],[],0⟩) qd ?_ ?_
 ·refine qo J h (fun _ h=>?_) (fun _ h=>?_)
  ·refine qb<|U J<|O (.d (.int .u64 (Int.fdiv b.1 (2 ^ 16)))) J<|qa J<|q9<|qu<|U J<|O (.d (G (w64 (b.2 + 16)))) J<|qa J<|qs ?_
   obtain rfl:=qe h
   exact ⟨_,J,wkA [] [] []⟩
  refine qn<|Q9 ?_
  obtain rfl:=qe h
  exact ⟨_,J,wkA [] [] []⟩
 intro c hb
 subst hb
 refine qf<|qb<|U J<|O (.d (.bool (decide (c.1 ≥ 256)))) J<|q9 ?_
 obtain ⟨o,j,a⟩:=q8 a
 refine Yb (fun f=>f = o) (fun (f : Int × Int)=>⟨[(0,.d (.int .u64 f.1)),(2,q7 f.2)],[],0⟩) qd ?_ ?_
 ·refine qo J j (fun _ j=>?_) (fun _ j=>?_)
  ·refine qb<|U J<|O (.d (.int .u64 (Int.fdiv c.1 (2 ^ 8)))) J<|qa J<|q9<|qu<|U J<|O (.d (G (w64 (c.2 + 8)))) J<|qa J<|qs ?_
   obtain rfl:=qe j
   exact ⟨_,J,wkA [] [] []⟩
  refine qn<|Q9 ?_
  obtain rfl:=qe j
  exact ⟨_,J,wkA [] [] []⟩
 intro f hb
 subst hb
 refine qb<|U J<|U J<|O (.d (.int .u8 (IntKind.wrap .u8 f.1))) J ?_
 obtain ⟨l,p,a⟩:=q8 a
 refine qq6 qbs p J J J J J<|O (q7 (w64 l)) J<|O (.d (G (w64 (f.2 + (w64 l))))) J<|qa J<|qp ?_
 obtain rfl:=qe a
 exact Q1 (.d (G (w64 (f.2 + (w64 l))))) J
theorem qdo (b : Int) (r : Int) (a : U5 b = some r) : Pure Tryz.prog tab 136 [.int .u64 b] (G r):=by
 unfold U5 at a
 refine Qg Tryz.func136 J qi qi J<|qb<|qa J<|q9<|qf<|Jo J<|qn<|qb<|U J ?_
 obtain ⟨c,d,a⟩:=q8 a
 refine qz (qpm b c d) J<|qa J<|qp ?_
 obtain rfl:=qe a
 exact Q1 (q7 c) J
theorem qg3 (a : Int) (r : Bool) (b : q6z a = some r) : Pure Tryz.prog tab 170 [G a] (.bool r):=by
 unfold q6z at b
 refine Qg Tryz.func170 J qi qi J<|qb<|qa J<|qt<|U J<|U J<|O (qh (a != a)) J<|qa J<|qp ?_
 obtain rfl:=qe b
 exact Q1 (qh (a != a)) J
theorem Ze (c : Int) (f : Int) (r : Bool) (a : Yo c f = some r) : Pure Tryz.prog tab 152 [G c,G f] (.bool r):=by
 unfold Yo at a
 refine Qg Tryz.func152 J qi qi J<|qb<|qa J<|qt<|U J ?_
 obtain ⟨t,u,a⟩:=q8 a
 refine qz (qg3 c t u) J ?_
 obtain ⟨v,b,a⟩:=q8 a
 refine Qa 5 (fun A st=>∃ (j k l m : V),st = A [(11,qh v),(10,m),(9,l),(8,k),(7,j)]) ?_ ?_
 ·refine Qb J J b (fun b=>?_) (fun b=>?_)
  ·refine U J ?_
   obtain ⟨h,w,b⟩:=q8 b
   refine qz (qg3 f h w) J<|O (qh (!h)) J<|O (qh (!h)) J<|q9 ?_
   obtain rfl:=qe b
   exact ⟨_,_,_,_,J⟩
  refine qc J<|qc J<|qc J<|O (qh false) J<|q9 ?_
  obtain rfl:=qe b
  exact ⟨_,_,_,_,J⟩
 rintro _ ⟨j,k,l,m,rfl⟩
 obtain ⟨n,g,a⟩:=q8 a
 refine Qa 5 (fun A st=>∃ (o p q s : V),st = A [(16,qh n),(15,s),(14,q),(13,p),(12,o)]) ?_ ?_
 ·refine Qb J J g (fun g=>?_) (fun g=>?_)
  ·refine qc J<|qc J<|qc J<|O (qh true) J<|q9 ?_
   obtain rfl:=qe g
   exact ⟨_,_,_,_,J⟩
  refine U J<|U J<|O (.d (.bool (decide (c < f)))) J<|O (.d (.bool (decide (c < f)))) J<|q9 ?_
  obtain rfl:=qe g
  exact ⟨_,_,_,_,J⟩
 rintro _ ⟨o,p,q,s,rfl⟩
 refine qa J<|qp ?_
 obtain rfl:=qe a
 exact Q1 (qh n) J
theorem qv4 (l : List Int) (c : Int) (j : Int) (r : List Int) (m : q5n  l c j = some r) : K0 Tryz.prog tab 146 [.hs 0 1 0 l.length,q7 c,q7 j] [(0,.dat 1 (l.map (eI .i64)))] 1 (.d (.tup [])) [(0,.dat 1 (r.map (eI .i64)))] 1:=by
 unfold q5n at m
 refine Kf Tryz.func146 J qi qi J<|qb<|U J<|O (.d (G (w64 (c + 1)))) J<|qa J<|q9 ?_
 obtain ⟨al,am,m⟩:=q8 m
 refine Q0<|Q8 (q5o j c) (fun (f : Int × List Int)=>⟨[(0,.hs 0 1 0 f.2.length),(1,q7 c),(2,q7 j),(6,q7 f.1)],[(0,.dat 1 (f.2.map (eI .i64)))],1⟩) (w64 (c + 1),l) al am (wkA [] [] []) ?_
 intro f au h
 unfold q5o at h
 refine qf<|qb<|U J<|U J<|O (.d (.bool (decide (f.1 < j)))) J<|q9 ?_
 refine qo J h (fun _ h=>?_) (fun _ h=>?_)
 ·refine qn<|qf ?_
  obtain ⟨an,n,h⟩:=q8 h
  refine Qe (fun k=>k = an) (fun (k : List Int)=>⟨[(0,.hs 0 1 0 k.length),(1,q7 c),(2,q7 j),(6,q7 f.1)],[(0,.dat 1 (k.map (eI .i64)))],1⟩) qd ?_ ?_
  ·refine qb<|U J<|qa J<|q9 ?_
   obtain ⟨ao,ap,n⟩:=q8 n
   refine Q0<|Q8 (q5p c) (fun (g : Int × List Int)=>⟨[(0,.hs 0 1 0 g.2.length),(1,q7 c),(2,q7 j),(6,q7 f.1),(7,q7 g.1)],[(0,.dat 1 (g.2.map (eI .i64)))],1⟩) (f.1,f.2) ao ap (wkA [] [] []) ?_
   intro g av a
   unfold q5p at a
   refine qf<|qf<|Q7 [q0,q0,qq 0,q0,q0,q0,q0,qq 0,q0,q0,q0,q0,q0,q0,q0] qi<|U J<|U J<|O (.d (.bool (decide (g.1 > c)))) J ?_
   obtain ⟨aq,b,a⟩:=q8 a
   refine Qa 12 (fun A st=>∃ (q s t u v w x y z aa ab : V),st = A [(30,qh aq),(29,ab),(28,aa),(27,z),(26,y),(25,x),(24,w),(23,v),(22,u),(21,t),(20,s),(19,q)]) ?_ ?_
   ·refine Qb J J b (fun b=>?_) (fun b=>?_)
    ·refine U J<|U J ?_
     obtain ⟨ac,ad,b⟩:=q8 b
     refine qr ad J J<|Q2 (q7 ac) ad J<|U J<|U J<|O (.d (G (w64 (g.1 - 1)))) J ?_
     obtain ⟨ae,af,b⟩:=q8 b
     refine qr af J J<|Q2 (q7 ae) af J ?_
     obtain ⟨ag,ar,b⟩:=q8 b
     refine qz (Ze ac ae ag ar) J<|O (qh ag) J<|q9 ?_
     obtain rfl:=qe b
     exact ⟨_,_,_,_,_,_,_,_,_,_,_,J⟩
    refine qc J<|qc J<|qc J<|qc J<|qc J<|qc J<|qc J<|qc J<|qc J<|qc J<|O (qh false) J<|q9 ?_
    obtain rfl:=qe b
    exact ⟨_,_,_,_,_,_,_,_,_,_,_,J⟩
   rintro _ ⟨q,s,t,u,v,w,x,y,z,aa,ab,rfl⟩
   refine q9 ?_
   refine qo J a (fun _ a=>?_) (fun _ a=>?_)
   ·refine qn<|qf<|Q0<|Q7 [Qk 0,q0,Qk 0,q0,qq 0,q0,q0,q0,qq 0,q0,q0,q0,q0,q0,q0,q0,q0,q0] qi<|U J<|U J<|U J<|U J<|O (.d (G (w64 (g.1 - 1)))) J<|U J<|U J<|O (.d (G (w64 (g.1 - 1)))) J ?_
    obtain ⟨o,ah,a⟩:=q8 a
    refine qr ah J J<|Q2 (q7 o) ah J<|U J<|U J ?_
    obtain ⟨p,ai,a⟩:=q8 a
    refine qr ai J J<|Q2 (q7 p) ai J ?_
    obtain ⟨aw,aj,a⟩:=q8 a
    refine qr aj J J<|Qt (ds:=[G o]) o aj J J J J J J J J (leb J) J ?_
    obtain ⟨ax,ak,a⟩:=q8 a
    refine qr ak qd J<|Qt (ds:=[G p]) p ak J J J J J J J J (leb J) J<|qs<|Qc<|qu<|U J<|O (.d (G (w64 (g.1 - 1)))) J<|qa J<|qs ?_
    exact ⟨_,(Option.some.inj a).symm,wkE [] [] [] J ⟨⟨_,J,Qx qd J qy (ltd J)⟩,ql J,ql J,ql J,ql J,trivial⟩ ⟨Qm J J,trivial⟩⟩
   refine Q3 ?_
   refine ⟨_,(Option.some.inj a).symm,fun hm=>?_⟩
   subst hm
   obtain rfl:=qe n
   exact ⟨_,J,wkA [] [] []⟩
  intro k hb
  subst hb
  refine qu<|U J<|O (.d (G (w64 (f.1 + 1)))) J<|qa J<|qs ?_
  exact ⟨_,(Option.some.inj h).symm,wkA [] [] []⟩
 refine Q3 ?_
 refine ⟨_,(Option.some.inj h).symm,fun hm=>?_⟩
 subst hm
 obtain rfl:=qe m
 exact ⟨.inl J,_,J,wkA [] [] []⟩
theorem qkh (l : List Int) (m : Int) (g : Int) (c : Int) (r : List Int) (j : q3o  l m g c = some r) : K0 Tryz.prog tab 165 [.hs 0 1 0 l.length,q7 m,q7 g,q7 c] [(0,.dat 1 (l.map (eI .i64)))] 1 (.d (.tup [])) [(0,.dat 1 (r.map (eI .i64)))] 1:=by
 unfold q3o at j
 refine Kf Tryz.func165 J qi qi J<|qb<|U J<|qa J<|q9 ?_
 obtain ⟨av,aw,j⟩:=q8 j
 refine Q0<|Q8 (q6b g c) (fun (b : Int × List Int)=>⟨[(0,.hs 0 1 0 b.2.length),(2,q7 g),(3,q7 c),(8,q7 b.1)],[(0,.dat 1 (b.2.map (eI .i64)))],1⟩) (m,l) av aw (wkA [] [] []) ?_
 intro b bb a
 unfold q6b at a
 refine Q0<|qb<|U J<|O (.d (G (w64 (2 * b.1)))) J<|O (.d (G (w64 ((w64 (2 * b.1)) + 1)))) J<|qa J<|q9<|qf<|qb<|U J<|U J<|O (.d (.bool (decide ((w64 ((w64 (2 * b.1)) + 1)) ≥ g)))) J<|q9 ?_
 refine qo J a (fun _ a=>?_) (fun _ a=>?_)
 ·refine Q3 ?_
  refine ⟨_,(Option.some.inj a).symm,fun hm=>?_⟩
  subst hm
  obtain rfl:=qe j
  exact ⟨.inl J,_,J,wkA [] [] []⟩
 refine qn<|qf<|qf<|Q7 [q0,q0,qq 0,q0,q0,q0,q0,q0,q0,qq 0,q0,q0,q0,q0,q0,q0,q0,q0,q0,q0] qi<|U J<|O (.d (G (w64 ((w64 ((w64 (2 * b.1)) + 1)) + 1)))) J<|U J<|O (.d (.bool (decide ((w64 ((w64 ((w64 (2 * b.1)) + 1)) + 1)) < g)))) J ?_
 obtain ⟨ax,f,a⟩:=q8 a
 refine Qa 16 (fun A st=>∃ (p q s t u v w x y z aa ab ac ad ae : V),st = A [(36,qh ax),(35,ae),(34,ad),(33,ac),(32,ab),(31,aa),(30,z),(29,y),(28,x),(27,w),(26,v),(25,u),(24,t),(23,s),(22,q),(21,p)]) ?_ ?_
 ·refine Qb J J f (fun f=>?_) (fun f=>?_)
  ·refine U J<|U J<|U J<|O (.d (G (w64 (c + (w64 ((w64 (2 * b.1)) + 1)))))) J ?_
   obtain ⟨af,ag,f⟩:=q8 f
   refine qr ag J J<|Q2 (q7 af) ag J<|U J<|U J<|U J<|O (.d (G (w64 (c + (w64 ((w64 (2 * b.1)) + 1)))))) J<|O (.d (G (w64 ((w64 (c + (w64 ((w64 (2 * b.1)) + 1)))) + 1)))) J ?_
   obtain ⟨ah,ai,f⟩:=q8 f
   refine qr ai J J<|Q2 (q7 ah) ai J ?_
   obtain ⟨aj,ay,f⟩:=q8 f
   refine qz (Ze af ah aj ay) J<|O (qh aj) J<|q9 ?_
   obtain rfl:=qe f
   exact ⟨_,_,_,_,_,_,_,_,_,_,_,_,_,_,_,J⟩
  refine qc J<|qc J<|qc J<|qc J<|qc J<|qc J<|qc J<|qc J<|qc J<|qc J<|qc J<|qc J<|qc J<|qc J<|O (qh false) J<|q9 ?_
  obtain rfl:=qe f
  exact ⟨_,_,_,_,_,_,_,_,_,_,_,_,_,_,_,J⟩
 rintro _ ⟨p,q,s,t,u,v,w,x,y,z,aa,ab,ac,ad,ae,rfl⟩
 refine q9 ?_
 obtain ⟨az,k,a⟩:=q8 a
 refine Yb (fun h=>h = az) (fun (h : Int)=>⟨[(0,.hs 0 1 0 b.2.length),(2,q7 g),(3,q7 c),(8,q7 b.1),(9,q7 h)],[(0,.dat 1 (b.2.map (eI .i64)))],1⟩) qd ?_ ?_
 ·refine qo J k (fun _ k=>?_) (fun _ k=>?_)
  ·refine qu<|U J<|O (.d (G (w64 ((w64 ((w64 (2 * b.1)) + 1)) + 1)))) J<|qa J<|qs ?_
   obtain rfl:=qe k
   exact ⟨_,J,wkA [] [] []⟩
  refine qn<|Q9 ?_
  obtain rfl:=qe k
  exact ⟨_,J,wkA [] [] []⟩
 intro h hb
 subst hb
 refine qf<|qf<|Q7 [q0,q0,qq 0,q0,q0,q0,q0,q0,qq 0,q0,q0,q0,q0,q0] qi<|U J<|U J<|U J<|O (.d (G (w64 (c + b.1)))) J ?_
 obtain ⟨ak,al,a⟩:=q8 a
 refine qr al J J<|Q2 (q7 ak) al J<|U J<|U J<|U J<|O (.d (G (w64 (c + h)))) J ?_
 obtain ⟨am,an,a⟩:=q8 a
 refine qr an J J<|Q2 (q7 am) an J ?_
 obtain ⟨ao,ba,a⟩:=q8 a
 refine qz (Ze ak am ao ba) J<|O (qh (!ao)) J<|q9 ?_
 refine qo J a (fun _ a=>?_) (fun _ a=>?_)
 ·refine q20 ?_
  refine ⟨_,(Option.some.inj a).symm,fun hm=>?_⟩
  subst hm
  obtain rfl:=qe j
  exact ⟨.inr J,_,J,wkA [] [] []⟩
 refine qn<|qf<|Q7 [Qk 0,q0,Qk 0,q0,qq 0,q0,q0,q0,q0,q0,qq 0,q0,q0,q0,q0,q0,q0,q0,q0,q0,q0,q0,q0,q0] qi<|U J<|U J<|U J<|O (.d (G (w64 (c + b.1)))) J<|U J<|U J<|U J<|O (.d (G (w64 (c + h)))) J<|U J<|U J<|U J<|O (.d (G (w64 (c + h)))) J ?_
 obtain ⟨n,ap,a⟩:=q8 a
 refine qr ap J J<|Q2 (q7 n) ap J<|U J<|U J<|U J<|O (.d (G (w64 (c + b.1)))) J ?_
 obtain ⟨o,aq,a⟩:=q8 a
 refine qr aq J J<|Q2 (q7 o) aq J ?_
 obtain ⟨bc,ar,a⟩:=q8 a
 refine qr ar J J<|Qt (ds:=[G n]) n ar J J J J J J J J (leb J) J ?_
 obtain ⟨bd,au,a⟩:=q8 a
 refine qr au qd J<|Qt (ds:=[G o]) o au J J J J J J J J (leb J) J<|q9<|qu<|U J<|qa J<|qs<|Qc<|Q9 ?_
 exact ⟨_,(Option.some.inj a).symm,wkE [] [] [] J ⟨⟨_,J,Qx qd J qy (ltd J)⟩,ql J,ql J,ql J,trivial⟩ ⟨Qm J J,trivial⟩⟩
theorem qv2 (l : List Int) (a : Int) (c : Int) (r : List Int) (j : q5k  l a c = some r) : K0 Tryz.prog tab 147 [.hs 0 1 0 l.length,q7 a,q7 c] [(0,.dat 1 (l.map (eI .i64)))] 1 (.d (.tup [])) [(0,.dat 1 (r.map (eI .i64)))] 1:=by
 unfold q5k at j
 refine Kf Tryz.func147 J qi qi J<|qb<|U J<|qa J<|qt<|qa J<|qt<|U J<|U J<|O (.d (G (w64 (c - a)))) J<|qa J<|q9<|qf<|qb<|U J<|O (.d (G (w64 ((w64 (c - a)) - 1)))) J<|O (.d (G (w64 (Int.tdiv (w64 ((w64 (c - a)) - 1)) 2)))) J<|qa J<|q9 ?_
 obtain ⟨p,w,j⟩:=q8 j
 refine Qe (fun k=>k = p) (fun (k : List Int)=>⟨[(0,.hs 0 1 0 k.length),(6,q7 a),(7,q7 0),(8,.d (G (w64 (c - a))))],[(0,.dat 1 (k.map (eI .i64)))],1⟩) qd ?_ ?_
 ·refine Q8 (q5l c a) (fun (g : Int × List Int)=>⟨[(0,.hs 0 1 0 g.2.length),(6,q7 a),(7,q7 0),(8,.d (G (w64 (c - a)))),(9,q7 g.1)],[(0,.dat 1 (g.2.map (eI .i64)))],1⟩) (w64 (Int.tdiv (w64 ((w64 (c - a)) - 1)) 2),l) p w (wkA [] [] []) ?_
  intro g af h
  unfold q5l at h
  refine qf<|qb<|U J<|O (.d (.bool (decide (g.1 ≥ 0)))) J<|q9 ?_
  refine qo J h (fun _ h=>?_) (fun _ h=>?_)
  ·refine qn<|qf<|Q0<|qu<|U J<|U J<|U J<|U J ?_
   obtain ⟨q,x,h⟩:=q8 h
   obtain ⟨ag,y,h⟩:=q8 h
   have z:=Kj y
   refine K6 [(0,0)] [(0,0)] [.hs 0 1 0 g.2.length,q7 g.1,.d (G (w64 (c - a))),q7 a] (.d (.tup [])) 1 [(0,.dat 1 (q.map (eI .i64)))] 1 (qkh g.2 g.1 (w64 (c - a)) a q x)<|qs<|Qc<|qu<|U J<|O (.d (G (w64 (g.1 - 1)))) J<|qa J<|qs ?_
   exact ⟨_,(Option.some.inj h).symm,wkE [] [] [] J ⟨⟨_,J,Qx (by simp [z]) J qy (ltd J)⟩,ql J,ql J,ql J,ql J,trivial⟩ ⟨Qm J J,trivial⟩⟩
  refine Q3 ?_
  refine ⟨_,(Option.some.inj h).symm,fun hm=>?_⟩
  subst hm
  exact ⟨_,J,wkA [] [] []⟩
 intro k hb
 subst hb
 refine qb<|U J<|O (.d (G (w64 ((w64 (c - a)) - 1)))) J<|qa J<|q9 ?_
 obtain ⟨aa,ab,j⟩:=q8 j
 refine Q0<|Q8 (q5m a) (fun (f : Int × List Int)=>⟨[(0,.hs 0 1 0 f.2.length),(6,q7 a),(7,q7 0),(10,q7 f.1)],[(0,.dat 1 (f.2.map (eI .i64)))],1⟩) (w64 ((w64 (c - a)) - 1),k) aa ab (wkA [] [] []) ?_
 intro f ah b
 unfold q5m at b
 refine qf<|qb<|U J<|O (.d (.bool (decide (f.1 ≥ 0)))) J<|q9 ?_
 refine qo J b (fun _ b=>?_) (fun _ b=>?_)
 ·refine qn<|qf<|Q0<|qf<|Q7 [Qk 0,q0,Qk 0,q0,qq 0,q0,q0,q0,qq 0,q0,q0,q0,q0,q0,q0,q0,q0,q0,q0,q0] qi<|U J<|U J<|U J<|U J<|U J<|O (.d (G (w64 (a + f.1)))) J<|U J<|U J<|U J<|O (.d (G (w64 (a + f.1)))) J ?_
  obtain ⟨m,s,b⟩:=q8 b
  refine qr s J J<|Q2 (q7 m) s J<|U J<|U J ?_
  obtain ⟨n,t,b⟩:=q8 b
  refine qr t J J<|Q2 (q7 n) t J ?_
  obtain ⟨ai,u,b⟩:=q8 b
  refine qr u J J<|Qt (ds:=[G m]) m u J J J J J J J J (leb J) J ?_
  obtain ⟨aj,v,b⟩:=q8 b
  refine qr v qd J<|Qt (ds:=[G n]) n v J J J J J J J J (leb J) J<|q9<|qu<|U J<|U J<|U J<|U J ?_
  obtain ⟨o,ac,b⟩:=q8 b
  obtain ⟨ak,ad,b⟩:=q8 b
  have ae:=Kj ad
  refine U7 [(0,0)] [(0,0)] [.hs 0 1 0 f.2.length,q7 0,q7 f.1,q7 a] (.d (.tup [])) [(0,.dat 1 (o.map (eI .i64)))] [(0,.dat 1 (o.map (eI .i64)))] 1 (qkh ((f.2.set a.toNat m).set (w64 (a + f.1)).toNat n) 0 f.1 a o ac) J J J (Yh [(0,0)] [] [] J ⟨⟨_,J,Qx qd J qy (ltd J)⟩,ql J,ql J,ql J,trivial⟩ ⟨Qm J J,trivial⟩) (Yh [(0,0)] [] [] J ⟨ql J,trivial⟩ ⟨Qm J J,trivial⟩) J ⟨.inl J,trivial⟩<|qs<|Qc<|qu<|U J<|O (.d (G (w64 (f.1 - 1)))) J<|qa J<|qs ?_
  exact ⟨_,(Option.some.inj b).symm,wkE [] [] [] J ⟨⟨_,J,Qx (by simp [ae]) J qy (ltd J)⟩,ql J,ql J,ql J,trivial⟩ ⟨Qm J J,trivial⟩⟩
 refine Q3 ?_
 refine ⟨_,(Option.some.inj b).symm,fun hm=>?_⟩
 subst hm
 obtain rfl:=qe j
 exact ⟨.inl J,_,J,wkA [] [] []⟩
theorem qeu (c : List Int) (f : Int) (g : Int) (b : Int) (r : Int × Int × Int) (a : q27  c f g b = some r) : K0 Tryz.prog tab 174 [.d (.sl 1 (c.map (eI .i64))),q7 f,q7 g,.ref 0 1 0 0] [(0,.dat 1 [[G b]])] 1 (.d (.tup [G r.1,G r.2.1])) [(0,.dat 1 [[G r.2.2]])] 1:=by
 unfold q27 at a
 refine Kf Tryz.func174 J qi qi J<|qb<|qa J<|qa J<|q9<|qf<|qf<|Q7 [q0,q0,q0,q0,q0,q0,q0,q0,q0] qi<|U J<|U J ?_
 obtain ⟨h,k,a⟩:=q8 a
 refine Q4 (enc:=(eI .i64)) k J<|O (q7 h) J<|U J<|U J ?_
 obtain ⟨j,l,a⟩:=q8 a
 refine Q4 (enc:=(eI .i64)) l J<|O (q7 j) J ?_
 obtain ⟨m,n,a⟩:=q8 a
 refine qz (Ze h j m n) J<|q9 ?_
 refine qo J a (fun _ a=>?_) (fun _ a=>?_)
 ·refine qb<|U J<|O (.ref 0 1 0 0) J<|O (q7 b) J<|O (.d (G (w64 (b + 1)))) J<|O (.ref 0 1 0 0) J<|Qp 0 (.dat 1 [[G (w64 (b + 1))]]) J<|qt<|U J<|U J<|qa J<|qa J<|qp ?_
  obtain rfl:=qe a
  exact ⟨.inr J,_,J,wkA [] [] []⟩
 refine qn<|qb<|U J<|U J<|qa J<|qa J<|qp ?_
 obtain rfl:=qe a
 exact ⟨.inr J,_,J,wkA [] [] []⟩
theorem qke (c : List Int) (h : Int) (j : Int) (k : Int) (l : Int) (r : Int × Int) (f : q3i  c h j k l = some r) : K0 Tryz.prog tab 169 [.d (.sl 1 (c.map (eI .i64))),q7 h,q7 j,q7 k,.ref 0 1 0 0] [(0,.dat 1 [[G l]])] 1 (q7 r.1) [(0,.dat 1 [[G r.2]])] 1:=by
 unfold q3i at f
 refine Kf Tryz.func169 J qi qi J<|qb<|qa J<|qt<|U J<|U J<|U J<|U J ?_
 obtain ⟨a,m,f⟩:=q8 f
 refine K6 [(0,0)] [(0,0)] [.d (.sl 1 (c.map (eI .i64))),q7 h,q7 j,.ref 0 1 0 0] (.d (.tup [G a.1,G a.2.1])) 1 [(0,.dat 1 [[G a.2.2]])] 1 (qeu c h j l a m)<|U J<|O (q7 a.1) J<|O (q7 a.2.1) J<|qa J<|qa J<|qt<|U J<|U J<|U J<|U J ?_
 obtain ⟨b,n,f⟩:=q8 f
 refine K6 [(0,0)] [(0,0)] [.d (.sl 1 (c.map (eI .i64))),q7 a.2.1,q7 k,.ref 0 1 0 0] (.d (.tup [G b.1,G b.2.1])) 1 [(0,.dat 1 [[G b.2.2]])] 1 (qeu c a.2.1 k a.2.2 b n)<|U J<|O (q7 b.1) J<|O (q7 b.2.1) J<|qa J<|qa J<|qt<|U J<|U J<|U J<|U J ?_
 obtain ⟨g,o,f⟩:=q8 f
 refine K6 [(0,0)] [(0,0)] [.d (.sl 1 (c.map (eI .i64))),q7 a.1,q7 b.1,.ref 0 1 0 0] (.d (.tup [G g.1,G g.2.1])) 1 [(0,.dat 1 [[G g.2.2]])] 1 (qeu c a.1 b.1 b.2.2 g o)<|U J<|O (q7 g.1) J<|O (q7 g.2.1) J<|qa J<|qa J<|qt<|U J<|qa J<|qp ?_
 obtain rfl:=qe f
 exact ⟨.inr J,_,J,wkA [] [] []⟩
theorem qes (b : List Int) (a : Int) (f : Int) (r : Int × Int) (c : q26  b a f = some r) : K0 Tryz.prog tab 168 [.d (.sl 1 (b.map (eI .i64))),q7 a,.ref 0 1 0 0] [(0,.dat 1 [[G f]])] 1 (q7 r.1) [(0,.dat 1 [[G r.2]])] 1:=by
 unfold q26 at c
 refine Kf Tryz.func168 J qi qi J<|qb<|qa J<|qt<|U J<|U J<|O (.d (G (w64 (a - 1)))) J<|U J<|U J<|O (.d (G (w64 (a + 1)))) J<|U J ?_
 obtain ⟨g,h,c⟩:=q8 c
 refine K6 [(0,0)] [(0,0)] [.d (.sl 1 (b.map (eI .i64))),.d (G (w64 (a - 1))),q7 a,.d (G (w64 (a + 1))),.ref 0 1 0 0] (q7 g.1) 1 [(0,.dat 1 [[G g.2]])] 1 (qke b (w64 (a - 1)) a (w64 (a + 1)) f g h)<|qa J<|qp ?_
 obtain rfl:=qe c
 exact ⟨.inr J,_,J,wkA [] [] []⟩
theorem qv0 (g : List Int) (a : Int) (b : Int) (r : Int × Int) (f : q5j g a b = some r) : Pure Tryz.prog tab 149 [.sl 1 (g.map (eI .i64)),G a,G b] (.tup [G r.1,G r.2]):=by
 unfold q5j at f
 refine Qg Tryz.func149 J qi qi J<|qb<|qa J<|qa J<|qt<|U J<|U J<|O (.d (G (w64 (b - a)))) J<|qa J<|qt<|K2 J J<|qt<|U J<|U J<|O (.d (G (w64 (Int.tdiv (w64 (b - a)) 4)))) J<|O (.d (G (w64 ((w64 (Int.tdiv (w64 (b - a)) 4)) * 1)))) J<|O (.d (G (w64 (a + (w64 ((w64 (Int.tdiv (w64 (b - a)) 4)) * 1)))))) J<|qa J<|qt<|U J<|U J<|O (.d (G (w64 (Int.tdiv (w64 (b - a)) 4)))) J<|O (.d (G (w64 ((w64 (Int.tdiv (w64 (b - a)) 4)) * 2)))) J<|O (.d (G (w64 (a + (w64 ((w64 (Int.tdiv (w64 (b - a)) 4)) * 2)))))) J<|qa J<|qt<|U J<|U J<|O (.d (G (w64 (Int.tdiv (w64 (b - a)) 4)))) J<|O (.d (G (w64 ((w64 (Int.tdiv (w64 (b - a)) 4)) * 3)))) J<|O (.d (G (w64 (a + (w64 ((w64 (Int.tdiv (w64 (b - a)) 4)) * 3)))))) J<|qa J<|q9<|qf<|qb<|U J<|O (.d (.bool (decide ((w64 (b - a)) ≥ 8)))) J<|q9 ?_
 obtain ⟨p,k,f⟩:=q8 f
 refine Yb (fun h=>h = p) (fun (h : Int × Int)=>⟨[(9,.ref 0 1 0 0),(11,q7 h.1)],[(0,.dat 1 [[G h.2]])],1⟩) qd ?_ ?_
 ·refine qo J k (fun _ k=>?_) (fun _ k=>?_)
  ·refine qf<|qb<|U J<|O (.d (.bool (decide ((w64 (b - a)) ≥ 50)))) J<|q9 ?_
   obtain ⟨q,j,k⟩:=q8 k
   refine Yb (fun c=>c = q) (fun (c : Int × Int × Int × Int)=>⟨[(0,.d (.sl 1 (g.map (eI .i64)))),(9,.ref 0 1 0 0),(10,q7 c.1),(11,q7 c.2.1),(12,q7 c.2.2.1)],[(0,.dat 1 [[G c.2.2.2]])],1⟩) qd ?_ ?_
   ·refine qo J j (fun _ j=>?_) (fun _ j=>?_)
    ·refine qb<|U J<|U J ?_
     obtain ⟨l,s,j⟩:=q8 j
     refine K6 [(0,0)] [(0,0)] [.d (.sl 1 (g.map (eI .i64))),.d (G (w64 (a + (w64 ((w64 (Int.tdiv (w64 (b - a)) 4)) * 1))))),.ref 0 1 0 0] (q7 l.1) 1 [(0,.dat 1 [[G l.2]])] 1 (qes g (w64 (a + (w64 ((w64 (Int.tdiv (w64 (b - a)) 4)) * 1)))) 0 l s)<|qa J<|qt<|U J<|U J ?_
     obtain ⟨m,t,j⟩:=q8 j
     refine K6 [(0,0)] [(0,0)] [.d (.sl 1 (g.map (eI .i64))),.d (G (w64 (a + (w64 ((w64 (Int.tdiv (w64 (b - a)) 4)) * 2))))),.ref 0 1 0 0] (q7 m.1) 1 [(0,.dat 1 [[G m.2]])] 1 (qes g (w64 (a + (w64 ((w64 (Int.tdiv (w64 (b - a)) 4)) * 2)))) l.2 m t)<|qa J<|q9<|qu<|U J<|U J ?_
     obtain ⟨n,u,j⟩:=q8 j
     refine K6 [(0,0)] [(0,0)] [.d (.sl 1 (g.map (eI .i64))),.d (G (w64 (a + (w64 ((w64 (Int.tdiv (w64 (b - a)) 4)) * 3))))),.ref 0 1 0 0] (q7 n.1) 1 [(0,.dat 1 [[G n.2]])] 1 (qes g (w64 (a + (w64 ((w64 (Int.tdiv (w64 (b - a)) 4)) * 3)))) m.2 n u)<|qa J<|qs ?_
     obtain rfl:=qe j
     exact ⟨_,J,wkA [(0,0)] [] []⟩
    refine qn<|Q9 ?_
    obtain rfl:=qe j
    exact ⟨_,J,wkA [(0,0)] [] []⟩
   intro c hb
   subst hb
   refine qu<|U J<|U J<|U J<|U J ?_
   obtain ⟨o,v,k⟩:=q8 k
   refine K6 [(0,0)] [(0,0)] [.d (.sl 1 (g.map (eI .i64))),q7 c.1,q7 c.2.1,q7 c.2.2.1,.ref 0 1 0 0] (q7 o.1) 1 [(0,.dat 1 [[G o.2]])] 1 (qke g c.1 c.2.1 c.2.2.1 c.2.2.2 o v)<|qa J<|qs ?_
   obtain rfl:=qe k
   exact ⟨_,J,wkA [(0,0)] [] []⟩
  refine qn<|Q9 ?_
  obtain rfl:=qe k
  exact ⟨_,J,wkA [(0,0)] [] []⟩
 intro h hb
 subst hb
 refine qb<|O (q7 h.2) J<|q9<|Q0<|qb<|O (qh (h.2 == 0)) J<|qa J<|q9 ?_
 refine qo J f (fun _ f=>?_) (fun _ f=>?_)
 ·refine qb<|U J<|qa J<|qa J<|qp ?_
  obtain rfl:=qe f
  exact Q1 (.d (.tup [G h.1,G 1])) J
 refine qb<|O (qh (h.2 == 12)) J<|qa J<|q9 ?_
 refine qo J f (fun _ f=>?_) (fun _ f=>?_)
 ·refine qb<|U J<|qa J<|qa J<|qp ?_
  obtain rfl:=qe f
  exact Q1 (.d (.tup [G h.1,G 2])) J
 refine qb<|U J<|qa J<|qa J<|qp ?_
 obtain rfl:=qe f
 exact Q1 (.d (.tup [G h.1,G 0])) J
theorem qvg (c : List Int) (h : Int) (f : Int) (r : List Int) (g : q69  c h f = some r) : K0 Tryz.prog tab 150 [.hs 0 1 0 c.length,q7 h,q7 f] [(0,.dat 1 (c.map (eI .i64)))] 1 (.d (.tup [])) [(0,.dat 1 (r.map (eI .i64)))] 1:=by
 unfold q69 at g
 refine Kf Tryz.func150 J qi qi J<|qb<|U J<|qa J<|qt<|U J<|O (.d (G (w64 (f - 1)))) J<|qa J<|q9 ?_
 obtain ⟨p,q,g⟩:=q8 g
 refine Q0<|Q8 (q96) (fun (b : Int × Int × List Int)=>⟨[(0,.hs 0 1 0 b.2.2.length),(6,q7 b.1),(7,q7 b.2.1)],[(0,.dat 1 (b.2.2.map (eI .i64)))],1⟩) (h,w64 (f - 1),c) p q (wkA [] [] []) ?_
 intro b s a
 unfold q96 at a
 refine qf<|qb<|U J<|U J<|O (.d (.bool (decide (b.1 < b.2.1)))) J<|q9 ?_
 refine qo J a (fun _ a=>?_) (fun _ a=>?_)
 ·refine qn<|Q0<|qf<|Q7 [Qk 0,q0,Qk 0,q0,qq 0,q0,q0,q0,qq 0,q0,q0,q0,q0,q0,q0,q0] qi<|U J<|U J<|U J<|U J<|U J<|U J ?_
  obtain ⟨j,l,a⟩:=q8 a
  refine qr l J J<|Q2 (q7 j) l J<|U J<|U J ?_
  obtain ⟨k,m,a⟩:=q8 a
  refine qr m J J<|Q2 (q7 k) m J ?_
  obtain ⟨t,n,a⟩:=q8 a
  refine qr n J J<|Qt (ds:=[G j]) j n J J J J J J J J (leb J) J ?_
  obtain ⟨u,o,a⟩:=q8 a
  refine qr o qd J<|Qt (ds:=[G k]) k o J J J J J J J J (leb J) J<|qt<|U J<|O (.d (G (w64 (b.1 + 1)))) J<|qa J<|q9<|qu<|U J<|O (.d (G (w64 (b.2.1 - 1)))) J<|qa J<|qs<|Qc<|Q9 ?_
  exact ⟨_,(Option.some.inj a).symm,wkE [] [] [] J ⟨⟨_,J,Qx qd J qy (ltd J)⟩,ql J,ql J,trivial⟩ ⟨Qm J J,trivial⟩⟩
 refine Q3 ?_
 refine ⟨_,(Option.some.inj a).symm,fun hm=>?_⟩
 subst hm
 obtain rfl:=qe g
 exact ⟨.inl J,_,J,wkA [] [] []⟩
theorem qv6 (v : List Int) (j : Int) (h : Int) (r : Bool × List Int) (q : q3k  v j h = some r) : K0 Tryz.prog tab 151 [.hs 0 1 0 v.length,q7 j,q7 h] [(0,.dat 1 (v.map (eI .i64)))] 1 (qh r.1) [(0,.dat 1 (r.2.map (eI .i64)))] 1:=by
 unfold q3k at q
 refine Kf Tryz.func151 J qi qi J<|qb<|qa J<|qt<|U J<|O (.d (G (w64 (j + 1)))) J<|qa J<|q9<|qf<|qb<|qa J<|q9 ?_
 obtain ⟨ae,bu,q⟩:=q8 q
 refine Qe (fun w=>.inl w = ae) (fun (w : List Int)=>⟨[],[(0,.dat 1 (w.map (eI .i64)))],1⟩) qd ?_ ?_
 ·refine Q8 (q3l h j) (fun (g : Int × Int × List Int)=>⟨[(0,.hs 0 1 0 g.2.2.length),(1,q7 j),(2,q7 h),(7,q7 g.1),(8,q7 g.2.1)],[(0,.dat 1 (g.2.2.map (eI .i64)))],1⟩) (w64 (j + 1),0,v) ae bu (wkA [] [] []) ?_
  intro g ch l
  unfold q3l at l
  refine qf<|qb<|U J<|O (.d (.bool (decide (g.2.1 < 5)))) J<|q9 ?_
  refine qo J l (fun _ l=>?_) (fun _ l=>?_)
  ·refine qn<|qf ?_
   obtain ⟨bv,a,l⟩:=q8 l
   refine Qe (fun s=>.inl s = bv) (fun (s : Int × List Int)=>⟨[(0,.hs 0 1 0 s.2.length),(1,q7 j),(2,q7 h),(7,q7 s.1),(8,q7 g.2.1)],[(0,.dat 1 (s.2.map (eI .i64)))],1⟩) qd ?_ ?_
   ·refine qf ?_
    obtain ⟨af,bw,a⟩:=q8 a
    refine Qe (fun f=>f = af) (fun (f : Int)=>⟨[(0,.hs 0 1 0 g.2.2.length),(1,q7 j),(2,q7 h),(7,q7 f),(8,q7 g.2.1)],[(0,.dat 1 (g.2.2.map (eI .i64)))],1⟩) qd ?_ ?_
    ·refine Q8 (q5t h g) (fun (u : Int)=>⟨[(0,.hs 0 1 0 g.2.2.length),(1,q7 j),(2,q7 h),(7,q7 u),(8,q7 g.2.1)],[(0,.dat 1 (g.2.2.map (eI .i64)))],1⟩) g.1 af bw (wkA [] [] []) ?_
     intro u ci o
     unfold q5t at o
     refine qf<|qf<|Q7 [q0,q0,q0,qq 0,q0,q0,q0,q0,qq 0,q0,q0,q0,q0,q0,q0,q0] qi<|U J<|U J<|O (.d (.bool (decide (u < h)))) J ?_
     obtain ⟨bx,k,o⟩:=q8 o
     refine Qa 13 (fun A st=>∃ (ag ah ai aj ak al am an ao ap aq ar : V),st = A [(32,qh bx),(31,ar),(30,aq),(29,ap),(28,ao),(27,an),(26,am),(25,al),(24,ak),(23,aj),(22,ai),(21,ah),(20,ag)]) ?_ ?_
     ·refine Qb J J k (fun k=>?_) (fun k=>?_)
      ·refine U J<|U J ?_
       obtain ⟨au,av,k⟩:=q8 k
       refine qr av J J<|Q2 (q7 au) av J<|U J<|U J<|O (.d (G (w64 (u - 1)))) J ?_
       obtain ⟨aw,ax,k⟩:=q8 k
       refine qr ax J J<|Q2 (q7 aw) ax J ?_
       obtain ⟨z,bz,k⟩:=q8 k
       refine qz (Ze au aw z bz) J<|O (qh (!z)) J<|O (qh (!z)) J<|q9 ?_
       obtain rfl:=qe k
       exact ⟨_,_,_,_,_,_,_,_,_,_,_,_,J⟩
      refine qc J<|qc J<|qc J<|qc J<|qc J<|qc J<|qc J<|qc J<|qc J<|qc J<|qc J<|O (qh false) J<|q9 ?_
      obtain rfl:=qe k
      exact ⟨_,_,_,_,_,_,_,_,_,_,_,_,J⟩
     rintro _ ⟨ag,ah,ai,aj,ak,al,am,an,ao,ap,aq,ar,rfl⟩
     refine q9 ?_
     refine qo J o (fun _ o=>?_) (fun _ o=>?_)
     ·refine qn<|Q0<|qu<|U J<|O (.d (G (w64 (u + 1)))) J<|qa J<|qs<|Qc<|Q9 ?_
      exact ⟨_,(Option.some.inj o).symm,wkA [] [] []⟩
     refine Q3 ?_
     refine ⟨_,(Option.some.inj o).symm,fun hm=>?_⟩
     subst hm
     exact ⟨_,J,wkA [] [] []⟩
    intro f hb
    subst hb
    refine qf<|qb<|U J<|U J<|O (qh (f == h)) J<|q9 ?_
    refine qo J a (fun _ a=>?_) (fun _ a=>?_)
    ·refine qb<|qa J<|qp ?_
     obtain rfl:=qe a
     refine ⟨_,(Option.some.inj l).symm,fun hm=>?_⟩
     subst hm
     obtain rfl:=qe q
     exact ⟨.inr J,_,J,wkA [] [] []⟩
    refine qn<|qf<|qb<|U J<|U J<|O (.d (G (w64 (h - j)))) J<|O (.d (.bool (decide ((w64 (h - j)) < 50)))) J<|q9 ?_
    refine qo J a (fun _ a=>?_) (fun _ a=>?_)
    ·refine qb<|qa J<|qp ?_
     obtain rfl:=qe a
     refine ⟨_,(Option.some.inj l).symm,fun hm=>?_⟩
     subst hm
     obtain rfl:=qe q
     exact ⟨.inr J,_,J,wkA [] [] []⟩
    refine qn<|qf<|Q7 [Qk 0,q0,Qk 0,q0,qq 0,q0,q0,q0,qq 0,q0,q0,q0,q0,q0,q0,q0,q0,q0] qi<|U J<|U J<|U J<|U J<|O (.d (G (w64 (f - 1)))) J<|U J<|U J<|O (.d (G (w64 (f - 1)))) J ?_
    obtain ⟨x,ay,a⟩:=q8 a
    refine qr ay J J<|Q2 (q7 x) ay J<|U J<|U J ?_
    obtain ⟨y,az,a⟩:=q8 a
    refine qr az J J<|Q2 (q7 y) az J ?_
    obtain ⟨cj,ba,a⟩:=q8 a
    refine qr ba J J<|Qt (ds:=[G x]) x ba J J J J J J J J (leb J) J ?_
    obtain ⟨ck,bb,a⟩:=q8 a
    refine qr bb qd J<|Qt (ds:=[G y]) y bb J J J J J J J J (leb J) J<|q9<|qf<|qb<|U J<|U J<|O (.d (G (w64 (f - j)))) J<|O (.d (.bool (decide ((w64 (f - j)) ≥ 2)))) J<|q9 ?_
    obtain ⟨ca,p,a⟩:=q8 a
    refine Yb (fun t=>t = ca) (fun (t : List Int)=>⟨[(0,.hs 0 1 0 t.length),(1,q7 j),(2,q7 h),(7,q7 f),(8,q7 g.2.1)],[(0,.dat 1 (t.map (eI .i64)))],1⟩) qd ?_ ?_
    ·refine qo J p (fun _ p=>?_) (fun _ p=>?_)
     ·refine qb<|U J<|O (.d (G (w64 (f - 1)))) J<|qa J<|q9 ?_
      obtain ⟨cb,cc,p⟩:=q8 p
      refine Q0<|Q8 (q8t) (fun (m : Int × List Int)=>⟨[(0,.hs 0 1 0 m.2.length),(1,q7 j),(2,q7 h),(7,q7 f),(8,q7 g.2.1),(9,q7 m.1)],[(0,.dat 1 (m.2.map (eI .i64)))],1⟩) (w64 (f - 1),(g.2.2.set f.toNat x).set (w64 (f - 1)).toNat y) cb cc (wkE [] [] [] J ⟨⟨_,J,Qx qd J qy (ltd J)⟩,ql J,ql J,ql J,ql J,ql J,trivial⟩ ⟨Qm J J,trivial⟩) ?_
      intro m cl b
      unfold q8t at b
      refine qf<|qb<|U J<|O (.d (.bool (decide (m.1 ≥ 1)))) J<|q9 ?_
      refine qo J b (fun _ b=>?_) (fun _ b=>?_)
      ·refine qn<|qf<|Q0<|qf<|qf<|Q7 [q0,q0,qq 0,q0,q0,q0,q0,qq 0,q0,q0,q0] qi<|U J<|U J ?_
       obtain ⟨bc,bd,b⟩:=q8 b
       refine qr bd J J<|Q2 (q7 bc) bd J<|U J<|U J<|O (.d (G (w64 (m.1 - 1)))) J ?_
       obtain ⟨be,bf,b⟩:=q8 b
       refine qr bf J J<|Q2 (q7 be) bf J ?_
       obtain ⟨bg,cd,b⟩:=q8 b
       refine qz (Ze bc be bg cd) J<|O (qh (!bg)) J<|q9 ?_
       refine qo J b (fun _ b=>?_) (fun _ b=>?_)
       ·refine Q3 ?_
        refine ⟨_,(Option.some.inj b).symm,fun hm=>?_⟩
        subst hm
        obtain rfl:=qe p
        exact ⟨_,J,wkA [] [] []⟩
       refine qn<|Q7 [Qk 0,q0,Qk 0,q0,qq 0,q0,q0,q0,qq 0,q0,q0,q0,q0,q0,q0,q0,q0,q0] qi<|U J<|U J<|U J<|U J<|O (.d (G (w64 (m.1 - 1)))) J<|U J<|U J<|O (.d (G (w64 (m.1 - 1)))) J ?_
       obtain ⟨aa,bh,b⟩:=q8 b
       refine qr bh J J<|Q2 (q7 aa) bh J<|U J<|U J ?_
       obtain ⟨ab,bi,b⟩:=q8 b
       refine qr bi J J<|Q2 (q7 ab) bi J ?_
       obtain ⟨cm,bj,b⟩:=q8 b
       refine qr bj J J<|Qt (ds:=[G aa]) aa bj J J J J J J J J (leb J) J ?_
       obtain ⟨cn,bk,b⟩:=q8 b
       refine qr bk qd J<|Qt (ds:=[G ab]) ab bk J J J J J J J J (leb J) J<|qs<|Qc<|qu<|U J<|O (.d (G (w64 (m.1 - 1)))) J<|qa J<|qs ?_
       exact ⟨_,(Option.some.inj b).symm,wkE [] [] [] J ⟨⟨_,J,Qx qd J qy (ltd J)⟩,ql J,ql J,ql J,ql J,ql J,trivial⟩ ⟨Qm J J,trivial⟩⟩
      refine Q3 ?_
      refine ⟨_,(Option.some.inj b).symm,fun hm=>?_⟩
      subst hm
      obtain rfl:=qe p
      exact ⟨_,J,wkA [] [] []⟩
     refine qn<|Q9 ?_
     obtain rfl:=qe p
     exact ⟨_,J,wkE [] [] [] J ⟨⟨_,J,Qx qd J qy (ltd J)⟩,ql J,ql J,ql J,ql J,trivial⟩ ⟨Qm J J,trivial⟩⟩
    intro t hb
    subst hb
    refine qb<|U J<|U J<|O (.d (G (w64 (h - f)))) J<|O (.d (.bool (decide ((w64 (h - f)) ≥ 2)))) J<|q9 ?_
    refine qo J a (fun _ a=>?_) (fun _ a=>?_)
    ·refine qb<|U J<|O (.d (G (w64 (f + 1)))) J<|qa J<|q9 ?_
     obtain ⟨ce,cf,a⟩:=q8 a
     refine Q0<|Q8 (q5u h f) (fun (n : Int × List Int)=>⟨[(0,.hs 0 1 0 n.2.length),(1,q7 j),(2,q7 h),(7,q7 f),(8,q7 g.2.1),(10,q7 n.1)],[(0,.dat 1 (n.2.map (eI .i64)))],1⟩) (w64 (f + 1),t) ce cf (wkA [] [] []) ?_
     intro n co c
     unfold q5u at c
     refine qf<|qb<|U J<|U J<|O (.d (.bool (decide (n.1 < h)))) J<|q9 ?_
     refine qo J c (fun _ c=>?_) (fun _ c=>?_)
     ·refine qn<|qf<|Q0<|qf<|qf<|Q7 [q0,q0,qq 0,q0,q0,q0,q0,qq 0,q0,q0,q0] qi<|U J<|U J ?_
      obtain ⟨bl,bm,c⟩:=q8 c
      refine qr bm J J<|Q2 (q7 bl) bm J<|U J<|U J<|O (.d (G (w64 (n.1 - 1)))) J ?_
      obtain ⟨bn,bo,c⟩:=q8 c
      refine qr bo J J<|Q2 (q7 bn) bo J ?_
      obtain ⟨bp,cg,c⟩:=q8 c
      refine qz (Ze bl bn bp cg) J<|O (qh (!bp)) J<|q9 ?_
      refine qo J c (fun _ c=>?_) (fun _ c=>?_)
      ·refine Q3 ?_
       refine ⟨_,(Option.some.inj c).symm,fun hm=>?_⟩
       subst hm
       obtain rfl:=qe a
       exact ⟨_,J,wkA [] [] []⟩
      refine qn<|Q7 [Qk 0,q0,Qk 0,q0,qq 0,q0,q0,q0,qq 0,q0,q0,q0,q0,q0,q0,q0,q0,q0] qi<|U J<|U J<|U J<|U J<|O (.d (G (w64 (n.1 - 1)))) J<|U J<|U J<|O (.d (G (w64 (n.1 - 1)))) J ?_
      obtain ⟨ac,bq,c⟩:=q8 c
      refine qr bq J J<|Q2 (q7 ac) bq J<|U J<|U J ?_
      obtain ⟨ad,br,c⟩:=q8 c
      refine qr br J J<|Q2 (q7 ad) br J ?_
      obtain ⟨cp,bs,c⟩:=q8 c
      refine qr bs J J<|Qt (ds:=[G ac]) ac bs J J J J J J J J (leb J) J ?_
      obtain ⟨cq,bt,c⟩:=q8 c
      refine qr bt qd J<|Qt (ds:=[G ad]) ad bt J J J J J J J J (leb J) J<|qs<|Qc<|qu<|U J<|O (.d (G (w64 (n.1 + 1)))) J<|qa J<|qs ?_
      exact ⟨_,(Option.some.inj c).symm,wkE [] [] [] J ⟨⟨_,J,Qx qd J qy (ltd J)⟩,ql J,ql J,ql J,ql J,ql J,trivial⟩ ⟨Qm J J,trivial⟩⟩
     refine Q3 ?_
     refine ⟨_,(Option.some.inj c).symm,fun hm=>?_⟩
     subst hm
     obtain rfl:=qe a
     exact ⟨_,J,wkA [] [] []⟩
    refine qn<|Q9 ?_
    obtain rfl:=qe a
    exact ⟨_,J,wkA [] [] []⟩
   intro s hb
   subst hb
   refine qu<|U J<|O (.d (G (w64 (g.2.1 + 1)))) J<|qa J<|qs ?_
   exact ⟨_,(Option.some.inj l).symm,wkA [] [] []⟩
  refine Q3 ?_
  refine ⟨_,(Option.some.inj l).symm,fun hm=>?_⟩
  subst hm
  exact ⟨_,J,wkA [] [] []⟩
 intro w hb
 subst hb
 refine qb<|qa J<|qp ?_
 obtain rfl:=qe q
 exact ⟨.inr J,_,J,wkA [] [] []⟩
theorem qv9 (o : List Int) (c : Int) (p : Int) (v : Int) (r : Int × List Int) (f : q5v  o c p v = some r) : K0 Tryz.prog tab 153 [.hs 0 1 0 o.length,q7 c,q7 p,q7 v] [(0,.dat 1 (o.map (eI .i64)))] 1 (q7 r.1) [(0,.dat 1 (r.2.map (eI .i64)))] 1:=by
 unfold q5v at f
 refine Kf Tryz.func153 J qi qi J<|qb<|qa J<|q9<|qf<|Q7 [Qk 0,q0,Qk 0,q0,qq 0,q0,q0,q0,qq 0,q0,q0,q0,q0,q0,q0,q0] qi<|U J<|U J<|U J<|U J<|U J<|U J ?_
 obtain ⟨q,z,f⟩:=q8 f
 refine qr z J J<|Q2 (q7 q) z J<|U J<|U J ?_
 obtain ⟨s,aa,f⟩:=q8 f
 refine qr aa J J<|Q2 (q7 s) aa J ?_
 obtain ⟨bx,ab,f⟩:=q8 f
 refine qr ab J J<|Qt (ds:=[G q]) q ab J J J J J J J J (leb J) J ?_
 obtain ⟨bz,ac,f⟩:=q8 f
 refine qr ac qd J<|Qt (ds:=[G s]) s ac J J J J J J J J (leb J) J<|qt<|U J<|O (.d (G (w64 (c + 1)))) J<|U J<|O (.d (G (w64 (p - 1)))) J<|qa J<|qa J<|q9<|qf ?_
 obtain ⟨ad,bq,f⟩:=q8 f
 refine Qe (fun n=>n = ad) (fun (n : Int × List Int)=>⟨[(9,q7 n.1)],[(0,.dat 1 (n.2.map (eI .i64)))],1⟩) qd ?_ ?_
 ·refine Q8 (q5w c) (fun (a : Int × Int × List Int)=>⟨[(0,.hs 0 1 0 a.2.2.length),(1,q7 c),(9,q7 a.1),(10,q7 a.2.1)],[(0,.dat 1 (a.2.2.map (eI .i64)))],1⟩) (w64 (c + 1),w64 (p - 1),(o.set c.toNat q).set v.toNat s) ad bq (wkE [] [] [] J ⟨⟨_,J,Qx qd J qy (ltd J)⟩,ql J,ql J,ql J,trivial⟩ ⟨Qm J J,trivial⟩) ?_
  intro a ca b
  unfold q5w at b
  refine Q0<|qf ?_
  obtain ⟨ae,br,b⟩:=q8 b
  refine Qe (fun j=>j = ae) (fun (j : Int)=>⟨[(0,.hs 0 1 0 a.2.2.length),(1,q7 c),(9,q7 j),(10,q7 a.2.1)],[(0,.dat 1 (a.2.2.map (eI .i64)))],1⟩) qd ?_ ?_
  ·refine Q8 (q5x a c) (fun (t : Int)=>⟨[(0,.hs 0 1 0 a.2.2.length),(1,q7 c),(9,q7 t),(10,q7 a.2.1)],[(0,.dat 1 (a.2.2.map (eI .i64)))],1⟩) a.1 ae br (wkA [] [] []) ?_
   intro t cb k
   unfold q5x at k
   refine qf<|qf<|Q7 [q0,q0,q0,qq 0,q0,q0,q0,qq 0,q0,q0,q0,q0,q0,q0,q0] qi<|U J<|U J<|O (.d (.bool (decide (t≤a.2.1)))) J ?_
   obtain ⟨bs,g,k⟩:=q8 k
   refine Qa 12 (fun A st=>∃ (af ag ah ai aj ak al am an ao ap : V),st = A [(43,qh bs),(42,ap),(41,ao),(40,an),(39,am),(38,al),(37,ak),(36,aj),(35,ai),(34,ah),(33,ag),(32,af)]) ?_ ?_
   ·refine Qb J J g (fun g=>?_) (fun g=>?_)
    ·refine U J<|U J ?_
     obtain ⟨aq,ar,g⟩:=q8 g
     refine qr ar J J<|Q2 (q7 aq) ar J<|U J<|U J ?_
     obtain ⟨au,av,g⟩:=q8 g
     refine qr av J J<|Q2 (q7 au) av J ?_
     obtain ⟨w,bt,g⟩:=q8 g
     refine qz (Ze aq au w bt) J<|O (qh (!w)) J<|O (qh (!w)) J<|q9 ?_
     obtain rfl:=qe g
     exact ⟨_,_,_,_,_,_,_,_,_,_,_,J⟩
    refine qc J<|qc J<|qc J<|qc J<|qc J<|qc J<|qc J<|qc J<|qc J<|qc J<|O (qh false) J<|q9 ?_
    obtain rfl:=qe g
    exact ⟨_,_,_,_,_,_,_,_,_,_,_,J⟩
   rintro _ ⟨af,ag,ah,ai,aj,ak,al,am,an,ao,ap,rfl⟩
   refine q9 ?_
   refine qo J k (fun _ k=>?_) (fun _ k=>?_)
   ·refine qn<|Q0<|qu<|U J<|O (.d (G (w64 (t + 1)))) J<|qa J<|qs<|Qc<|Q9 ?_
    exact ⟨_,(Option.some.inj k).symm,wkA [] [] []⟩
   refine Q3 ?_
   refine ⟨_,(Option.some.inj k).symm,fun hm=>?_⟩
   subst hm
   exact ⟨_,J,wkA [] [] []⟩
  intro j hb
  subst hb
  refine qf ?_
  obtain ⟨aw,bu,b⟩:=q8 b
  refine Qe (fun m=>m = aw) (fun (m : Int)=>⟨[(0,.hs 0 1 0 a.2.2.length),(1,q7 c),(9,q7 j),(10,q7 m)],[(0,.dat 1 (a.2.2.map (eI .i64)))],1⟩) qd ?_ ?_
  ·refine Q8 (q5y j a c) (fun (u : Int)=>⟨[(0,.hs 0 1 0 a.2.2.length),(1,q7 c),(9,q7 j),(10,q7 u)],[(0,.dat 1 (a.2.2.map (eI .i64)))],1⟩) a.2.1 aw bu (wkA [] [] []) ?_
   intro u cc l
   unfold q5y at l
   refine qf<|qf<|Q7 [q0,q0,qq 0,q0,q0,q0,qq 0,q0,q0,q0,q0,q0,q0,q0] qi<|U J<|U J<|O (.d (.bool (decide (j≤u)))) J ?_
   obtain ⟨bv,h,l⟩:=q8 l
   refine Qa 11 (fun A st=>∃ (ax ay az ba bb bc bd be bf bg : V),st = A [(59,qh bv),(58,bg),(57,bf),(56,be),(55,bd),(54,bc),(53,bb),(52,ba),(51,az),(50,ay),(49,ax)]) ?_ ?_
   ·refine Qb J J h (fun h=>?_) (fun h=>?_)
    ·refine U J<|U J ?_
     obtain ⟨bh,bi,h⟩:=q8 h
     refine qr bi J J<|Q2 (q7 bh) bi J<|U J<|U J ?_
     obtain ⟨bj,bk,h⟩:=q8 h
     refine qr bk J J<|Q2 (q7 bj) bk J ?_
     obtain ⟨bl,bw,h⟩:=q8 h
     refine qz (Ze bh bj bl bw) J<|O (qh bl) J<|q9 ?_
     obtain rfl:=qe h
     exact ⟨_,_,_,_,_,_,_,_,_,_,J⟩
    refine qc J<|qc J<|qc J<|qc J<|qc J<|qc J<|qc J<|qc J<|qc J<|O (qh false) J<|q9 ?_
    obtain rfl:=qe h
    exact ⟨_,_,_,_,_,_,_,_,_,_,J⟩
   rintro _ ⟨ax,ay,az,ba,bb,bc,bd,be,bf,bg,rfl⟩
   refine q9 ?_
   refine qo J l (fun _ l=>?_) (fun _ l=>?_)
   ·refine qn<|Q0<|qu<|U J<|O (.d (G (w64 (u - 1)))) J<|qa J<|qs<|Qc<|Q9 ?_
    exact ⟨_,(Option.some.inj l).symm,wkA [] [] []⟩
   refine Q3 ?_
   refine ⟨_,(Option.some.inj l).symm,fun hm=>?_⟩
   subst hm
   exact ⟨_,J,wkA [] [] []⟩
  intro m hb
  subst hb
  refine qf<|qb<|U J<|U J<|O (.d (.bool (decide (j > m)))) J<|q9 ?_
  refine qo J b (fun _ b=>?_) (fun _ b=>?_)
  ·refine Q3 ?_
   refine ⟨_,(Option.some.inj b).symm,fun hm=>?_⟩
   subst hm
   exact ⟨_,J,wkA [] [] []⟩
  refine qn<|qf<|Q7 [Qk 0,q0,Qk 0,q0,qq 0,q0,q0,q0,qq 0,q0,q0,q0,q0,q0,q0,q0] qi<|U J<|U J<|U J<|U J<|U J<|U J ?_
  obtain ⟨x,bm,b⟩:=q8 b
  refine qr bm J J<|Q2 (q7 x) bm J<|U J<|U J ?_
  obtain ⟨y,bn,b⟩:=q8 b
  refine qr bn J J<|Q2 (q7 y) bn J ?_
  obtain ⟨cd,bo,b⟩:=q8 b
  refine qr bo J J<|Qt (ds:=[G x]) x bo J J J J J J J J (leb J) J ?_
  obtain ⟨ce,bp,b⟩:=q8 b
  refine qr bp qd J<|Qt (ds:=[G y]) y bp J J J J J J J J (leb J) J<|qt<|U J<|O (.d (G (w64 (j + 1)))) J<|qa J<|q9<|qu<|U J<|O (.d (G (w64 (m - 1)))) J<|qa J<|qs<|Qc<|Q9 ?_
  exact ⟨_,(Option.some.inj b).symm,wkE [] [] [] J ⟨⟨_,J,Qx qd J qy (ltd J)⟩,ql J,ql J,ql J,trivial⟩ ⟨Qm J J,trivial⟩⟩
 intro n hb
 subst hb
 refine qb<|U J<|qa J<|qp ?_
 obtain rfl:=qe f
 exact ⟨.inr J,_,J,wkA [] [] []⟩
theorem qva (g : List Int) (b : Int) (s : Int) (k : Int) (r : Int × Bool × List Int) (a : q5z  g b s k = some r) : K0 Tryz.prog tab 154 [.hs 0 1 0 g.length,q7 b,q7 s,q7 k] [(0,.dat 1 (g.map (eI .i64)))] 1 (.d (.tup [G r.1,.bool r.2.1])) [(0,.dat 1 (r.2.2.map (eI .i64)))] 1:=by
 unfold q5z at a
 refine Kf Tryz.func154 J qi qi J<|qb<|qa J<|qa J<|q9<|qf<|Q7 [Qk 0,q0,Qk 0,q0,qq 0,q0,q0,q0,qq 0,q0,q0,q0,q0,q0,q0,q0] qi<|U J<|U J<|U J<|U J<|U J<|U J ?_
 obtain ⟨h,ao,a⟩:=q8 a
 refine qr ao J J<|Q2 (q7 h) ao J<|U J<|U J ?_
 obtain ⟨j,ap,a⟩:=q8 a
 refine qr ap J J<|Q2 (q7 j) ap J ?_
 obtain ⟨fq,aq,a⟩:=q8 a
 refine qr aq J J<|Qt (ds:=[G h]) h aq J J J J J J J J (leb J) J ?_
 obtain ⟨fr,ar,a⟩:=q8 a
 refine qr ar qd J<|Qt (ds:=[G j]) j ar J J J J J J J J (leb J) J<|qt<|U J<|O (.d (G (w64 (b + 1)))) J<|U J<|O (.d (G (w64 (s - 1)))) J<|qa J<|qa J<|q9<|qf ?_
 obtain ⟨au,fc,a⟩:=q8 a
 refine Qe (fun l=>l = au) (fun (l : Int)=>⟨[(0,.hs 0 1 0 ((g.set b.toNat h).set k.toNat j).length),(1,q7 b),(10,q7 l),(11,.d (G (w64 (s - 1))))],[(0,.dat 1 (((g.set b.toNat h).set k.toNat j).map (eI .i64)))],1⟩) qd ?_ ?_
 ·refine Q8 (q60 s g b h k j) (fun (aa : Int)=>⟨[(0,.hs 0 1 0 ((g.set b.toNat h).set k.toNat j).length),(1,q7 b),(10,q7 aa),(11,.d (G (w64 (s - 1))))],[(0,.dat 1 (((g.set b.toNat h).set k.toNat j).map (eI .i64)))],1⟩) (w64 (b + 1)) au fc (wkE [] [] [] J ⟨⟨_,J,Qx qd J qy (ltd J)⟩,ql J,ql J,ql J,trivial⟩ ⟨Qm J J,trivial⟩) ?_
  intro aa fs t
  unfold q60 at t
  refine qf<|qf<|Q7 [q0,q0,qq 0,q0,q0,q0,qq 0,q0,q0,q0,q0,q0,q0,q0] qi<|U J<|U J<|O (.d (.bool (decide (aa≤(w64 (s - 1)))))) J ?_
  obtain ⟨fd,m,t⟩:=q8 t
  refine Qa 11 (fun A st=>∃ (av aw ax ay az ba bb bc bd be : V),st = A [(43,qh fd),(42,be),(41,bd),(40,bc),(39,bb),(38,ba),(37,az),(36,ay),(35,ax),(34,aw),(33,av)]) ?_ ?_
  ·refine Qb J J m (fun m=>?_) (fun m=>?_)
   ·refine U J<|U J ?_
    obtain ⟨bf,bg,m⟩:=q8 m
    refine qr bg J J<|Q2 (q7 bf) bg J<|U J<|U J ?_
    obtain ⟨bh,bi,m⟩:=q8 m
    refine qr bi J J<|Q2 (q7 bh) bi J ?_
    obtain ⟨bj,fe,m⟩:=q8 m
    refine qz (Ze bf bh bj fe) J<|O (qh bj) J<|q9 ?_
    obtain rfl:=qe m
    exact ⟨_,_,_,_,_,_,_,_,_,_,J⟩
   refine qc J<|qc J<|qc J<|qc J<|qc J<|qc J<|qc J<|qc J<|qc J<|O (qh false) J<|q9 ?_
   obtain rfl:=qe m
   exact ⟨_,_,_,_,_,_,_,_,_,_,J⟩
  rintro _ ⟨av,aw,ax,ay,az,ba,bb,bc,bd,be,rfl⟩
  refine q9 ?_
  refine qo J t (fun _ t=>?_) (fun _ t=>?_)
  ·refine qn<|Q0<|qu<|U J<|O (.d (G (w64 (aa + 1)))) J<|qa J<|qs<|Qc<|Q9 ?_
   exact ⟨_,(Option.some.inj t).symm,wkA [] [] []⟩
  refine Q3 ?_
  refine ⟨_,(Option.some.inj t).symm,fun hm=>?_⟩
  subst hm
  exact ⟨_,J,wkA [] [] []⟩
 intro l hb
 subst hb
 refine qf ?_
 obtain ⟨bk,ff,a⟩:=q8 a
 refine Qe (fun u=>u = bk) (fun (u : Int)=>⟨[(0,.hs 0 1 0 ((g.set b.toNat h).set k.toNat j).length),(1,q7 b),(10,q7 l),(11,q7 u)],[(0,.dat 1 (((g.set b.toNat h).set k.toNat j).map (eI .i64)))],1⟩) qd ?_ ?_
 ·refine Q8 (q61 l g b h k j) (fun (ab : Int)=>⟨[(0,.hs 0 1 0 ((g.set b.toNat h).set k.toNat j).length),(1,q7 b),(10,q7 l),(11,q7 ab)],[(0,.dat 1 (((g.set b.toNat h).set k.toNat j).map (eI .i64)))],1⟩) (w64 (s - 1)) bk ff (wkA [] [] []) ?_
  intro ab ft v
  unfold q61 at v
  refine qf<|qf<|Q7 [q0,q0,q0,qq 0,q0,q0,q0,qq 0,q0,q0,q0,q0,q0,q0,q0] qi<|U J<|U J<|O (.d (.bool (decide (l≤ab)))) J ?_
  obtain ⟨fg,n,v⟩:=q8 v
  refine Qa 12 (fun A st=>∃ (bl bm bn bo bp bq br bs bt bu bv : V),st = A [(60,qh fg),(59,bv),(58,bu),(57,bt),(56,bs),(55,br),(54,bq),(53,bp),(52,bo),(51,bn),(50,bm),(49,bl)]) ?_ ?_
  ·refine Qb J J n (fun n=>?_) (fun n=>?_)
   ·refine U J<|U J ?_
    obtain ⟨bw,bx,n⟩:=q8 n
    refine qr bx J J<|Q2 (q7 bw) bx J<|U J<|U J ?_
    obtain ⟨bz,ca,n⟩:=q8 n
    refine qr ca J J<|Q2 (q7 bz) ca J ?_
    obtain ⟨ag,fh,n⟩:=q8 n
    refine qz (Ze bw bz ag fh) J<|O (qh (!ag)) J<|O (qh (!ag)) J<|q9 ?_
    obtain rfl:=qe n
    exact ⟨_,_,_,_,_,_,_,_,_,_,_,J⟩
   refine qc J<|qc J<|qc J<|qc J<|qc J<|qc J<|qc J<|qc J<|qc J<|qc J<|O (qh false) J<|q9 ?_
   obtain rfl:=qe n
   exact ⟨_,_,_,_,_,_,_,_,_,_,_,J⟩
  rintro _ ⟨bl,bm,bn,bo,bp,bq,br,bs,bt,bu,bv,rfl⟩
  refine q9 ?_
  refine qo J v (fun _ v=>?_) (fun _ v=>?_)
  ·refine qn<|Q0<|qu<|U J<|O (.d (G (w64 (ab - 1)))) J<|qa J<|qs<|Qc<|Q9 ?_
   exact ⟨_,(Option.some.inj v).symm,wkA [] [] []⟩
  refine Q3 ?_
  refine ⟨_,(Option.some.inj v).symm,fun hm=>?_⟩
  subst hm
  exact ⟨_,J,wkA [] [] []⟩
 intro u hb
 subst hb
 refine qf<|qb<|U J<|U J<|O (.d (.bool (decide (l > u)))) J<|q9 ?_
 refine qo J a (fun _ a=>?_) (fun _ a=>?_)
 ·refine qf<|Q7 [Qk 0,q0,Qk 0,q0,qq 0,q0,q0,q0,qq 0,q0,q0,q0,q0,q0,q0,q0] qi<|U J<|U J<|U J<|U J<|U J<|U J ?_
  obtain ⟨ah,cb,a⟩:=q8 a
  refine qr cb J J<|Q2 (q7 ah) cb J<|U J<|U J ?_
  obtain ⟨ai,cc,a⟩:=q8 a
  refine qr cc J J<|Q2 (q7 ai) cc J ?_
  obtain ⟨fu,cd,a⟩:=q8 a
  refine qr cd J J<|Qt (ds:=[G ah]) ah cd J J J J J J J J (leb J) J ?_
  obtain ⟨fv,ce,a⟩:=q8 a
  refine qr ce qd J<|Qt (ds:=[G ai]) ai ce J J J J J J J J (leb J) J<|qt<|U J<|qa J<|qa J<|qp ?_
  obtain rfl:=qe a
  exact ⟨.inr J,_,J,wkA [] [] []⟩
 refine qn<|qf<|Q7 [Qk 0,q0,Qk 0,q0,qq 0,q0,q0,q0,qq 0,q0,q0,q0,q0,q0,q0,q0] qi<|U J<|U J<|U J<|U J<|U J<|U J ?_
 obtain ⟨ac,cf,a⟩:=q8 a
 refine qr cf J J<|Q2 (q7 ac) cf J<|U J<|U J ?_
 obtain ⟨ad,cg,a⟩:=q8 a
 refine qr cg J J<|Q2 (q7 ad) cg J ?_
 obtain ⟨fw,ch,a⟩:=q8 a
 refine qr ch J J<|Qt (ds:=[G ac]) ac ch J J J J J J J J (leb J) J ?_
 obtain ⟨fx,ci,a⟩:=q8 a
 refine qr ci qd J<|Qt (ds:=[G ad]) ad ci J J J J J J J J (leb J) J<|qt<|U J<|O (.d (G (w64 (l + 1)))) J<|qa J<|qt<|U J<|O (.d (G (w64 (u - 1)))) J<|qa J<|q9<|qf ?_
 obtain ⟨cj,fi,a⟩:=q8 a
 refine Qe (fun y=>y = cj) (fun (y : Int × List Int)=>⟨[(0,.hs 0 1 0 y.2.length),(1,q7 b),(11,q7 y.1)],[(0,.dat 1 (y.2.map (eI .i64)))],1⟩) qd ?_ ?_
 ·refine Q8 (q62 b) (fun (c : Int × Int × List Int)=>⟨[(0,.hs 0 1 0 c.2.2.length),(1,q7 b),(10,q7 c.1),(11,q7 c.2.1)],[(0,.dat 1 (c.2.2.map (eI .i64)))],1⟩) (w64 (l + 1),w64 (u - 1),(((g.set b.toNat h).set k.toNat j).set l.toNat ac).set u.toNat ad) cj fi (wkE [] [] [] J ⟨⟨_,J,Qx qd J qy (ltd J)⟩,ql J,ql J,ql J,trivial⟩ ⟨Qm J J,trivial⟩) ?_
  intro c fy f
  unfold q62 at f
  refine Q0<|qf ?_
  obtain ⟨ck,fj,f⟩:=q8 f
  refine Qe (fun q=>q = ck) (fun (q : Int)=>⟨[(0,.hs 0 1 0 c.2.2.length),(1,q7 b),(10,q7 q),(11,q7 c.2.1)],[(0,.dat 1 (c.2.2.map (eI .i64)))],1⟩) qd ?_ ?_
  ·refine Q8 (q63 c b) (fun (ae : Int)=>⟨[(0,.hs 0 1 0 c.2.2.length),(1,q7 b),(10,q7 ae),(11,q7 c.2.1)],[(0,.dat 1 (c.2.2.map (eI .i64)))],1⟩) c.1 ck fj (wkA [] [] []) ?_
   intro ae fz w
   unfold q63 at w
   refine qf<|qf<|Q7 [q0,q0,qq 0,q0,q0,q0,qq 0,q0,q0,q0,q0,q0,q0,q0] qi<|U J<|U J<|O (.d (.bool (decide (ae≤c.2.1)))) J ?_
   obtain ⟨fk,o,w⟩:=q8 w
   refine Qa 11 (fun A st=>∃ (cl cm cn co cp cq cr cs ct cu : V),st = A [(112,qh fk),(111,cu),(110,ct),(109,cs),(108,cr),(107,cq),(106,cp),(105,co),(104,cn),(103,cm),(102,cl)]) ?_ ?_
   ·refine Qb J J o (fun o=>?_) (fun o=>?_)
    ·refine U J<|U J ?_
     obtain ⟨cv,cw,o⟩:=q8 o
     refine qr cw J J<|Q2 (q7 cv) cw J<|U J<|U J ?_
     obtain ⟨cx,cy,o⟩:=q8 o
     refine qr cy J J<|Q2 (q7 cx) cy J ?_
     obtain ⟨cz,fl,o⟩:=q8 o
     refine qz (Ze cv cx cz fl) J<|O (qh cz) J<|q9 ?_
     obtain rfl:=qe o
     exact ⟨_,_,_,_,_,_,_,_,_,_,J⟩
    refine qc J<|qc J<|qc J<|qc J<|qc J<|qc J<|qc J<|qc J<|qc J<|O (qh false) J<|q9 ?_
    obtain rfl:=qe o
    exact ⟨_,_,_,_,_,_,_,_,_,_,J⟩
   rintro _ ⟨cl,cm,cn,co,cp,cq,cr,cs,ct,cu,rfl⟩
   refine q9 ?_
   refine qo J w (fun _ w=>?_) (fun _ w=>?_)
   ·refine qn<|Q0<|qu<|U J<|O (.d (G (w64 (ae + 1)))) J<|qa J<|qs<|Qc<|Q9 ?_
    exact ⟨_,(Option.some.inj w).symm,wkA [] [] []⟩
   refine Q3 ?_
   refine ⟨_,(Option.some.inj w).symm,fun hm=>?_⟩
   subst hm
   exact ⟨_,J,wkA [] [] []⟩
  intro q hb
  subst hb
  refine qf ?_
  obtain ⟨da,fm,f⟩:=q8 f
  refine Qe (fun z=>z = da) (fun (z : Int)=>⟨[(0,.hs 0 1 0 c.2.2.length),(1,q7 b),(10,q7 q),(11,q7 z)],[(0,.dat 1 (c.2.2.map (eI .i64)))],1⟩) qd ?_ ?_
  ·refine Q8 (q64 q c b) (fun (af : Int)=>⟨[(0,.hs 0 1 0 c.2.2.length),(1,q7 b),(10,q7 q),(11,q7 af)],[(0,.dat 1 (c.2.2.map (eI .i64)))],1⟩) c.2.1 da fm (wkA [] [] []) ?_
   intro af ga x
   unfold q64 at x
   refine qf<|qf<|Q7 [q0,q0,q0,qq 0,q0,q0,q0,qq 0,q0,q0,q0,q0,q0,q0,q0] qi<|U J<|U J<|O (.d (.bool (decide (q≤af)))) J ?_
   obtain ⟨fn,p,x⟩:=q8 x
   refine Qa 12 (fun A st=>∃ (dc dd de df dg dh dj dk dl dm dn : V),st = A [(129,qh fn),(128,dn),(127,dm),(126,dl),(125,dk),(124,dj),(123,dh),(122,dg),(121,df),(120,de),(119,dd),(118,dc)]) ?_ ?_
   ·refine Qb J J p (fun p=>?_) (fun p=>?_)
    ·refine U J<|U J ?_
     obtain ⟨dp,dq,p⟩:=q8 p
     refine qr dq J J<|Q2 (q7 dp) dq J<|U J<|U J ?_
     obtain ⟨dr,dt,p⟩:=q8 p
     refine qr dt J J<|Q2 (q7 dr) dt J ?_
     obtain ⟨aj,fo,p⟩:=q8 p
     refine qz (Ze dp dr aj fo) J<|O (qh (!aj)) J<|O (qh (!aj)) J<|q9 ?_
     obtain rfl:=qe p
     exact ⟨_,_,_,_,_,_,_,_,_,_,_,J⟩
    refine qc J<|qc J<|qc J<|qc J<|qc J<|qc J<|qc J<|qc J<|qc J<|qc J<|O (qh false) J<|q9 ?_
    obtain rfl:=qe p
    exact ⟨_,_,_,_,_,_,_,_,_,_,_,J⟩
   rintro _ ⟨dc,dd,de,df,dg,dh,dj,dk,dl,dm,dn,rfl⟩
   refine q9 ?_
   refine qo J x (fun _ x=>?_) (fun _ x=>?_)
   ·refine qn<|Q0<|qu<|U J<|O (.d (G (w64 (af - 1)))) J<|qa J<|qs<|Qc<|Q9 ?_
    exact ⟨_,(Option.some.inj x).symm,wkA [] [] []⟩
   refine Q3 ?_
   refine ⟨_,(Option.some.inj x).symm,fun hm=>?_⟩
   subst hm
   exact ⟨_,J,wkA [] [] []⟩
  intro z hb
  subst hb
  refine qf<|qb<|U J<|U J<|O (.d (.bool (decide (q > z)))) J<|q9 ?_
  refine qo J f (fun _ f=>?_) (fun _ f=>?_)
  ·refine Q3 ?_
   refine ⟨_,(Option.some.inj f).symm,fun hm=>?_⟩
   subst hm
   exact ⟨_,J,wkA [] [] []⟩
  refine qn<|qf<|Q7 [Qk 0,q0,Qk 0,q0,qq 0,q0,q0,q0,qq 0,q0,q0,q0,q0,q0,q0,q0] qi<|U J<|U J<|U J<|U J<|U J<|U J ?_
  obtain ⟨ak,du,f⟩:=q8 f
  refine qr du J J<|Q2 (q7 ak) du J<|U J<|U J ?_
  obtain ⟨al,dv,f⟩:=q8 f
  refine qr dv J J<|Q2 (q7 al) dv J ?_
  obtain ⟨gb,dw,f⟩:=q8 f
  refine qr dw J J<|Qt (ds:=[G ak]) ak dw J J J J J J J J (leb J) J ?_
  obtain ⟨gc,dx,f⟩:=q8 f
  refine qr dx qd J<|Qt (ds:=[G al]) al dx J J J J J J J J (leb J) J<|qt<|U J<|O (.d (G (w64 (q + 1)))) J<|qa J<|q9<|qu<|U J<|O (.d (G (w64 (z - 1)))) J<|qa J<|qs<|Qc<|Q9 ?_
  exact ⟨_,(Option.some.inj f).symm,wkE [] [] [] J ⟨⟨_,J,Qx qd J qy (ltd J)⟩,ql J,ql J,ql J,trivial⟩ ⟨Qm J J,trivial⟩⟩
 intro y hb
 subst hb
 refine qf<|Q7 [Qk 0,q0,Qk 0,q0,qq 0,q0,q0,q0,qq 0,q0,q0,q0,q0,q0,q0,q0] qi<|U J<|U J<|U J<|U J<|U J<|U J ?_
 obtain ⟨am,dy,a⟩:=q8 a
 refine qr dy J J<|Q2 (q7 am) dy J<|U J<|U J ?_
 obtain ⟨an,dz,a⟩:=q8 a
 refine qr dz J J<|Q2 (q7 an) dz J ?_
 obtain ⟨gd,fa,a⟩:=q8 a
 refine qr fa J J<|Qt (ds:=[G am]) am fa J J J J J J J J (leb J) J ?_
 obtain ⟨ge,fb,a⟩:=q8 a
 refine qr fb qd J<|Qt (ds:=[G an]) an fb J J J J J J J J (leb J) J<|qt<|U J<|qa J<|qa J<|qp ?_
 obtain rfl:=qe a
 exact ⟨.inr J,_,J,wkA [] [] []⟩
theorem qkf (b : Int) (r : Int) (a : q13 b = some r) : Pure Tryz.prog tab 166 [G b] (.int .u64 r):=by
 unfold q13 at a
 refine Qg Tryz.func166 J qi qi J<|qb<|qa J<|qt<|U J<|O (.d (.int .u64 (IntKind.wrap .u64 b))) J ?_
 obtain ⟨c,f,a⟩:=q8 a
 refine qz (qdo (IntKind.wrap .u64 b) c f) J ?_
 obtain ⟨g,h,a⟩:=q8 a
 refine qqc h J J J<|qa J<|qp ?_
 obtain rfl:=qe a
 exact Q1 (.d (.int .u64 g)) J
theorem qki (a : Int) (r : Int) (b : q14  a = some r) : K0 Tryz.prog tab 167 [.ref 0 1 0 0] [(0,.dat 1 [[.int .u64 a]])] 1 (.d (.int .u64 r)) [(0,.dat 1 [[.int .u64 r]])] 1:=by
 unfold q14 at b
 refine Kf Tryz.func167 J qi qi J<|qb<|qa J<|q9<|qf<|Q7 [Qk 0,q0,q0,q0,qq 0,q0,q0,qq 0,q0,q0] qi<|U J<|O (.ref 0 1 0 0) J<|O (.d (.int .u64 a)) J<|U J<|O (.ref 0 1 0 0) J<|O (.d (.int .u64 a)) J<|O (.d (.int .u64 (IntKind.wrap .u64 (a * (2 ^ 13))))) J<|O (.d (.int .u64 (xorI .u64 a (IntKind.wrap .u64 (a * (2 ^ 13)))))) J<|O (.ref 0 1 0 0) J<|Qp 0 (.dat 1 [[.int .u64 (xorI .u64 a (IntKind.wrap .u64 (a * (2 ^ 13))))]]) J<|q9<|qf<|Q7 [Qk 0,q0,q0,q0,qq 0,q0,q0,qq 0,q0,q0] qi<|U J<|O (.ref 0 1 0 0) J<|O (.d (.int .u64 (xorI .u64 a (IntKind.wrap .u64 (a * (2 ^ 13)))))) J<|U J<|O (.ref 0 1 0 0) J<|O (.d (.int .u64 (xorI .u64 a (IntKind.wrap .u64 (a * (2 ^ 13)))))) J<|O (.d (.int .u64 (Int.fdiv (xorI .u64 a (IntKind.wrap .u64 (a * (2 ^ 13)))) (2 ^ 7)))) J<|O (.d (.int .u64 (xorI .u64 (xorI .u64 a (IntKind.wrap .u64 (a * (2 ^ 13)))) (Int.fdiv (xorI .u64 a (IntKind.wrap .u64 (a * (2 ^ 13)))) (2 ^ 7))))) J<|O (.ref 0 1 0 0) J<|Qp 0 (.dat 1 [[.int .u64 (xorI .u64 (xorI .u64 a (IntKind.wrap .u64 (a * (2 ^ 13)))) (Int.fdiv (xorI .u64 a (IntKind.wrap .u64 (a * (2 ^ 13)))) (2 ^ 7)))]]) J<|q9<|qf<|Q7 [Qk 0,q0,q0,q0,qq 0,q0,q0,qq 0,q0,q0] qi<|U J<|O (.ref 0 1 0 0) J<|O (.d (.int .u64 (xorI .u64 (xorI .u64 a (IntKind.wrap .u64 (a * (2 ^ 13)))) (Int.fdiv (xorI .u64 a (IntKind.wrap .u64 (a * (2 ^ 13)))) (2 ^ 7))))) J<|U J<|O (.ref 0 1 0 0) J<|O (.d (.int .u64 (xorI .u64 (xorI .u64 a (IntKind.wrap .u64 (a * (2 ^ 13)))) (Int.fdiv (xorI .u64 a (IntKind.wrap .u64 (a * (2 ^ 13)))) (2 ^ 7))))) J<|O (.d (.int .u64 (IntKind.wrap .u64 ((xorI .u64 (xorI .u64 a (IntKind.wrap .u64 (a * (2 ^ 13)))) (Int.fdiv (xorI .u64 a (IntKind.wrap .u64 (a * (2 ^ 13)))) (2 ^ 7))) * (2 ^ 17))))) J<|O (.d (.int .u64 (xorI .u64 (xorI .u64 (xorI .u64 a (IntKind.wrap .u64 (a * (2 ^ 13)))) (Int.fdiv (xorI .u64 a (IntKind.wrap .u64 (a * (2 ^ 13)))) (2 ^ 7))) (IntKind.wrap .u64 ((xorI .u64 (xorI .u64 a (IntKind.wrap .u64 (a * (2 ^ 13)))) (Int.fdiv (xorI .u64 a (IntKind.wrap .u64 (a * (2 ^ 13)))) (2 ^ 7))) * (2 ^ 17)))))) J ?_
 refine O (.ref 0 1 0 0) J<|Qp 0 (.dat 1 [[.int .u64 (xorI .u64 (xorI .u64 (xorI .u64 a (IntKind.wrap .u64 (a * (2 ^ 13)))) (Int.fdiv (xorI .u64 a (IntKind.wrap .u64 (a * (2 ^ 13)))) (2 ^ 7))) (IntKind.wrap .u64 ((xorI .u64 (xorI .u64 a (IntKind.wrap .u64 (a * (2 ^ 13)))) (Int.fdiv (xorI .u64 a (IntKind.wrap .u64 (a * (2 ^ 13)))) (2 ^ 7))) * (2 ^ 17))))]]) J<|qt<|U J<|O (.ref 0 1 0 0) J<|O (.d (.int .u64 (xorI .u64 (xorI .u64 (xorI .u64 a (IntKind.wrap .u64 (a * (2 ^ 13)))) (Int.fdiv (xorI .u64 a (IntKind.wrap .u64 (a * (2 ^ 13)))) (2 ^ 7))) (IntKind.wrap .u64 ((xorI .u64 (xorI .u64 a (IntKind.wrap .u64 (a * (2 ^ 13)))) (Int.fdiv (xorI .u64 a (IntKind.wrap .u64 (a * (2 ^ 13)))) (2 ^ 7))) * (2 ^ 17)))))) J<|qa J<|qp ?_
 obtain rfl:=qe b
 exact ⟨.inr J,_,J,wkA [] [] []⟩
theorem quy (m : List Int) (a : Int) (b : Int) (r : List Int) (g : q5h  m a b = some r) : K0 Tryz.prog tab 148 [.hs 0 1 0 m.length,q7 a,q7 b] [(0,.dat 1 (m.map (eI .i64)))] 1 (.d (.tup [])) [(0,.dat 1 (r.map (eI .i64)))] 1:=by
 unfold q5h at g
 refine Kf Tryz.func148 J qi qi J<|qb<|U J<|U J<|O (.d (G (w64 (b - a)))) J<|qa J<|qt<|U J<|O (.d (.bool (decide ((w64 (b - a)) ≥ 8)))) J<|q9 ?_
 refine qo J g (fun _ g=>?_) (fun _ g=>?_)
 ·refine qb<|U J<|O (.d (.int .u64 (IntKind.wrap .u64 (w64 (b - a))))) J<|K2 J J<|Qp 1 (.dat 1 [[.int .u64 (IntKind.wrap .u64 (w64 (b - a)))]]) J<|qt<|U J ?_
  obtain ⟨h,u,g⟩:=q8 g
  refine qz (qkf (w64 (b - a)) h u) J<|qa J<|qt<|U J<|U J<|O (.d (G (w64 (Int.tdiv (w64 (b - a)) 4)))) J<|O (.d (G (w64 ((w64 (Int.tdiv (w64 (b - a)) 4)) * 2)))) J<|O (.d (G (w64 (a + (w64 ((w64 (Int.tdiv (w64 (b - a)) 4)) * 2)))))) J<|O (.d (G (w64 ((w64 (a + (w64 ((w64 (Int.tdiv (w64 (b - a)) 4)) * 2)))) - 1)))) J<|qa J<|q9 ?_
  obtain ⟨v,w,g⟩:=q8 g
  refine Q0<|Q8 (q5i a b h) (fun (f : Int × List Int × Int)=>⟨[(0,.hs 0 1 0 f.2.1.length),(1,q7 a),(6,.d (G (w64 (b - a)))),(7,.ref 1 1 0 0),(8,.d (.int .u64 h)),(9,q7 f.1)],[(0,.dat 1 (f.2.1.map (eI .i64))),(1,.dat 1 [[.int .u64 f.2.2]])],2⟩) (w64 ((w64 (a + (w64 ((w64 (Int.tdiv (w64 (b - a)) 4)) * 2)))) - 1),m,IntKind.wrap .u64 (w64 (b - a))) v w (wkA [(1,1)] [] []) ?_
  intro f z c
  unfold q5i at c
  refine qf<|qb<|U J<|U J<|U J<|O (.d (G (w64 (Int.tdiv (w64 (b - a)) 4)))) J<|O (.d (G (w64 ((w64 (Int.tdiv (w64 (b - a)) 4)) * 2)))) J<|O (.d (G (w64 (a + (w64 ((w64 (Int.tdiv (w64 (b - a)) 4)) * 2)))))) J<|O (.d (G (w64 ((w64 (a + (w64 ((w64 (Int.tdiv (w64 (b - a)) 4)) * 2)))) + 1)))) J<|O (.d (.bool (decide (f.1≤(w64 ((w64 (a + (w64 ((w64 (Int.tdiv (w64 (b - a)) 4)) * 2)))) + 1)))))) J<|q9 ?_
  refine qo J c (fun _ c=>?_) (fun _ c=>?_)
  ·refine qn<|qf<|Q0<|qb ?_
   obtain ⟨j,x,c⟩:=q8 c
   refine K6 [(0,1)] [(0,1),(1,0)] [.ref 1 1 0 0] (.d (.int .u64 j)) 1 [(1,.dat 1 [[.int .u64 j]]),(0,.dat 1 (f.2.1.map (eI .i64)))] 2 (qki f.2.2 j x)<|U J<|O (.d (.int .u64 (IntKind.wrap .u64 (h - 1)))) J<|O (.d (.int .u64 (andI .u64 j (IntKind.wrap .u64 (h - 1))))) J<|O (.d (G (w64 (andI .u64 j (IntKind.wrap .u64 (h - 1)))))) J<|qa J<|q9<|qf<|qb<|U J<|U J<|O (.d (.bool (decide ((w64 (andI .u64 j (IntKind.wrap .u64 (h - 1)))) ≥ (w64 (b - a)))))) J<|q9 ?_
   obtain ⟨y,l,c⟩:=q8 c
   refine Yb (fun k=>k = y) (fun (k : Int)=>⟨[(0,.hs 0 1 0 f.2.1.length),(1,q7 a),(6,.d (G (w64 (b - a)))),(7,.ref 1 1 0 0),(8,.d (.int .u64 h)),(9,q7 f.1),(10,q7 k)],[(0,.dat 1 (f.2.1.map (eI .i64))),(1,.dat 1 [[.int .u64 j]])],2⟩) qd ?_ ?_
   ·refine qo J l (fun _ l=>?_) (fun _ l=>?_)
    ·refine qu<|U J<|U J<|O (.d (G (w64 ((w64 (andI .u64 j (IntKind.wrap .u64 (h - 1)))) - (w64 (b - a)))))) J<|qa J<|qs ?_
     obtain rfl:=qe l
     exact ⟨_,J,wkA [(1,1)] [] []⟩
    refine qn<|Q9 ?_
    obtain rfl:=qe l
    exact ⟨_,J,wkA [(1,1)] [] []⟩
   intro k hb
   subst hb
   refine Q7 [Qk 0,q0,Qk 0,q0,qq 0,q0,q0,q0,qq 0,q0,q0,q0,q0,q0,q0,q0,q0,q0,q0,q0] qi<|U J<|U J<|U J<|U J<|U J<|O (.d (G (w64 (a + k)))) J<|U J<|U J<|U J<|O (.d (G (w64 (a + k)))) J ?_
   obtain ⟨n,p,c⟩:=q8 c
   refine qr p J J<|Q2 (q7 n) p J<|U J<|U J ?_
   obtain ⟨o,q,c⟩:=q8 c
   refine qr q J J<|Q2 (q7 o) q J ?_
   obtain ⟨aa,s,c⟩:=q8 c
   refine qr s J J<|Qt (ds:=[G n]) n s J J J J J J J J (leb J) J ?_
   obtain ⟨ab,t,c⟩:=q8 c
   refine qr t qd J<|Qt (ds:=[G o]) o t J J J J J J J J (leb J) J<|qs<|Qc<|qu<|U J<|O (.d (G (w64 (f.1 + 1)))) J<|qa J<|qs ?_
   exact ⟨_,(Option.some.inj c).symm,wkE [(1,1)] [] [] J ⟨⟨_,J,Qx qd J qy (ltd J)⟩,ql J,ql J,⟨_,J,.ref J qy (ltd J)⟩,ql J,ql J,trivial⟩ ⟨Qm J J,Qm J J,trivial⟩⟩
  refine Q3 ?_
  refine ⟨_,(Option.some.inj c).symm,fun hm=>?_⟩
  subst hm
  obtain rfl:=qe g
  exact ⟨.inl J,_,J,wkA [] [] []⟩
 refine qn<|Q9 ?_
 obtain rfl:=qe g
 exact ⟨.inl J,_,J,wkA [] [] []⟩
theorem qvd (rec : List Int→Int→Int→Int→Option (List Int)) (hrec : ∀ (n : List Int) (o : Int) (p : Int) (q : Int) (r : List Int),rec n o p q = some r→K0 Tryz.prog tab 135 [.hs 0 1 0 n.length,q7 o,q7 p,q7 q] [(0,.dat 1 (n.map (eI .i64)))] 1 (.d (.tup [])) [(0,.dat 1 (r.map (eI .i64)))] 1) (n : List Int) (o : Int) (p : Int) (q : Int) (r : List Int) (s : q3n rec  n o p q = some r) : K0 Tryz.prog tab 135 [.hs 0 1 0 n.length,q7 o,q7 p,q7 q] [(0,.dat 1 (n.map (eI .i64)))] 1 (.d (.tup [])) [(0,.dat 1 (r.map (eI .i64)))] 1:=by
 unfold q3n at s
 refine Kf Tryz.func135 J qi qi J<|qb<|qa J<|qt<|qa J<|q9 ?_
 obtain ⟨bd,be,s⟩:=q8 s
 refine Q0<|Q8 (q3m rec) (fun (a : Int × Int × Int × Bool × Bool × List Int)=>⟨[(0,.hs 0 1 0 a.2.2.2.2.2.length),(1,q7 a.1),(2,q7 a.2.1),(3,q7 a.2.2.1),(8,qh a.2.2.2.1),(9,qh a.2.2.2.2.1)],[(0,.dat 1 (a.2.2.2.2.2.map (eI .i64)))],1⟩) (o,p,q,true,true,n) bd be (wkA [] [] []) ?_
 intro a cm b
 unfold q3m at b
 refine Q0<|qb<|U J<|U J<|O (.d (G (w64 (a.2.1 - a.1)))) J<|qa J<|q9<|qf<|qb<|U J<|O (.d (.bool (decide ((w64 (a.2.1 - a.1))≤12)))) J<|q9 ?_
 refine qo J b (fun _ b=>?_) (fun _ b=>?_)
 ·refine qb<|U J<|U J<|U J ?_
  obtain ⟨ac,bf,b⟩:=q8 b
  obtain ⟨cn,bg,b⟩:=q8 b
  have co:=Kj bg
  refine K6 [(0,0)] [(0,0)] [.hs 0 1 0 a.2.2.2.2.2.length,q7 a.1,q7 a.2.1] (.d (.tup [])) 1 [(0,.dat 1 (ac.map (eI .i64)))] 1 (qv4 a.2.2.2.2.2 a.1 a.2.1 ac bf)<|qp ?_
  refine ⟨_,(Option.some.inj b).symm,fun hm=>?_⟩
  subst hm
  obtain rfl:=qe s
  exact ⟨.inr J,_,J,wkA [] [] []⟩
 refine qn<|qf<|qb<|U J<|O (qh (a.2.2.1 == 0)) J<|q9 ?_
 refine qo J b (fun _ b=>?_) (fun _ b=>?_)
 ·refine qb<|U J<|U J<|U J ?_
  obtain ⟨ad,bh,b⟩:=q8 b
  obtain ⟨cp,bi,b⟩:=q8 b
  have cq:=Kj bi
  refine K6 [(0,0)] [(0,0)] [.hs 0 1 0 a.2.2.2.2.2.length,q7 a.1,q7 a.2.1] (.d (.tup [])) 1 [(0,.dat 1 (ad.map (eI .i64)))] 1 (qv2 a.2.2.2.2.2 a.1 a.2.1 ad bh)<|qp ?_
  refine ⟨_,(Option.some.inj b).symm,fun hm=>?_⟩
  subst hm
  obtain rfl:=qe s
  exact ⟨.inr J,_,J,wkA [] [] []⟩
 refine qn<|qf<|qb<|U J<|O (qh (!a.2.2.2.1)) J<|q9 ?_
 obtain ⟨bj,l,b⟩:=q8 b
 refine Yb (fun f=>f = bj) (fun (f : Int × List Int)=>⟨[(0,.hs 0 1 0 f.2.length),(1,q7 a.1),(2,q7 a.2.1),(3,q7 f.1),(8,qh a.2.2.2.1),(9,qh a.2.2.2.2.1),(10,.d (G (w64 (a.2.1 - a.1))))],[(0,.dat 1 (f.2.map (eI .i64)))],1⟩) qd ?_ ?_
 ·refine qo J l (fun _ l=>?_) (fun _ l=>?_)
  ·refine qb<|U J<|U J<|U J ?_
   obtain ⟨ae,bk,l⟩:=q8 l
   obtain ⟨cr,bl,l⟩:=q8 l
   have bm:=Kj bl
   refine K6 [(0,0)] [(0,0)] [.hs 0 1 0 a.2.2.2.2.2.length,q7 a.1,q7 a.2.1] (.d (.tup [])) 1 [(0,.dat 1 (ae.map (eI .i64)))] 1 (quy a.2.2.2.2.2 a.1 a.2.1 ae bk)<|q9<|qu<|U J<|O (.d (G (w64 (a.2.2.1 - 1)))) J<|qa J<|qs ?_
   obtain rfl:=qe l
   exact ⟨_,J,wkE [] [] [] J ⟨⟨_,J,Qx (by simp [bm]) J qy (ltd J)⟩,ql J,ql J,ql J,ql J,ql J,ql J,trivial⟩ ⟨Qm J J,trivial⟩⟩
  refine qn<|Q9 ?_
  obtain rfl:=qe l
  exact ⟨_,J,wkA [] [] []⟩
 intro f hb
 subst hb
 refine qb<|U J<|U J<|U J ?_
 obtain ⟨t,bn,b⟩:=q8 b
 refine qar [.hs 0 1 0 f.2.length,q7 a.1,q7 a.2.1] (qv0 f.2 a.1 a.2.1 t bn) J J (q1a (Za J J) (q1a J (q1a J J))) (.inr J)<|U J<|O (q7 t.1) J<|O (q7 t.2) J<|qa J<|qa J<|q9<|qf<|qb<|U J<|O (qh (t.2 == 2)) J<|q9 ?_
 obtain ⟨bo,m,b⟩:=q8 b
 refine Yb (fun g=>g = bo) (fun (g : Int × Int × List Int)=>⟨[(0,.hs 0 1 0 g.2.2.length),(1,q7 a.1),(2,q7 a.2.1),(3,q7 f.1),(8,qh a.2.2.2.1),(9,qh a.2.2.2.2.1),(10,.d (G (w64 (a.2.1 - a.1)))),(11,q7 g.1),(12,q7 g.2.1)],[(0,.dat 1 (g.2.2.map (eI .i64)))],1⟩) qd ?_ ?_
 ·refine qo J m (fun _ m=>?_) (fun _ m=>?_)
  ·refine qb<|U J<|U J<|U J ?_
   obtain ⟨af,bp,m⟩:=q8 m
   obtain ⟨cs,bq,m⟩:=q8 m
   have br:=Kj bq
   refine K6 [(0,0)] [(0,0)] [.hs 0 1 0 f.2.length,q7 a.1,q7 a.2.1] (.d (.tup [])) 1 [(0,.dat 1 (af.map (eI .i64)))] 1 (qvg f.2 a.1 a.2.1 af bp)<|qt<|U J<|O (.d (G (w64 (a.2.1 - 1)))) J<|U J<|U J<|O (.d (G (w64 (t.1 - a.1)))) J<|O (.d (G (w64 ((w64 (a.2.1 - 1)) - (w64 (t.1 - a.1)))))) J<|qa J<|q9<|qu<|qa J<|qs ?_
   obtain rfl:=qe m
   exact ⟨_,J,wkE [] [] [] J ⟨⟨_,J,Qx (by simp [br]) J qy (ltd J)⟩,ql J,ql J,ql J,ql J,ql J,ql J,ql J,ql J,trivial⟩ ⟨Qm J J,trivial⟩⟩
  refine qn<|Q9 ?_
  obtain rfl:=qe m
  exact ⟨_,J,wkA [] [] []⟩
 intro g hb
 subst hb
 refine qf<|qb<|U J ?_
 obtain ⟨bs,u,b⟩:=q8 b
 refine Qa 3 (fun A st=>∃ (ag ah : V),st = A [(64,qh bs),(63,ah),(62,ag)]) ?_ ?_
 ·refine Qb J J u (fun u=>?_) (fun u=>?_)
  ·refine U J<|O (qh a.2.2.2.2.1) J<|q9 ?_
   obtain rfl:=qe u
   exact ⟨_,_,J⟩
  refine qc J<|O (qh false) J<|q9 ?_
  obtain rfl:=qe u
  exact ⟨_,_,J⟩
 rintro _ ⟨ag,ah,rfl⟩
 obtain ⟨bt,v,b⟩:=q8 b
 refine Qa 4 (fun A st=>∃ (ai aj ak : V),st = A [(68,qh bt),(67,ak),(66,aj),(65,ai)]) ?_ ?_
 ·refine Qb J J v (fun v=>?_) (fun v=>?_)
  ·refine U J<|O (qh (g.2.1 == 1)) J<|O (qh (g.2.1 == 1)) J<|q9 ?_
   obtain rfl:=qe v
   exact ⟨_,_,_,J⟩
  refine qc J<|qc J<|O (qh false) J<|q9 ?_
  obtain rfl:=qe v
  exact ⟨_,_,_,J⟩
 rintro _ ⟨ai,aj,ak,rfl⟩
 refine q9 ?_
 obtain ⟨bu,h,b⟩:=q8 b
 refine Yb (fun j=>.inl j = bu) (fun (j : List Int)=>⟨[(0,.hs 0 1 0 j.length),(1,q7 a.1),(2,q7 a.2.1),(3,q7 f.1),(8,qh a.2.2.2.1),(9,qh a.2.2.2.2.1),(10,.d (G (w64 (a.2.1 - a.1)))),(11,q7 g.1)],[(0,.dat 1 (j.map (eI .i64)))],1⟩) qd ?_ ?_
 ·refine qo J h (fun _ h=>?_) (fun _ h=>?_)
  ·refine qb<|U J<|U J<|U J ?_
   obtain ⟨x,bv,h⟩:=q8 h
   obtain ⟨ct,bw,h⟩:=q8 h
   have bx:=Kj bw
   refine K6 [(0,0)] [(0,0)] [.hs 0 1 0 g.2.2.length,q7 a.1,q7 a.2.1] (qh x.1) 1 [(0,.dat 1 (x.2.map (eI .i64)))] 1 (qv6 g.2.2 a.1 a.2.1 x bv)<|q9 ?_
   refine qo J h (fun _ h=>?_) (fun _ h=>?_)
   ·refine q20 ?_
    obtain rfl:=qe h
    refine ⟨_,(Option.some.inj b).symm,fun hm=>?_⟩
    subst hm
    obtain rfl:=qe s
    exact ⟨.inr J,_,J,wkA [] [] []⟩
   refine qn<|Q9 ?_
   obtain rfl:=qe h
   exact ⟨_,J,wkE [] [] [] J ⟨⟨_,J,Qx (by simp [bx]) J qy (ltd J)⟩,ql J,ql J,ql J,ql J,ql J,ql J,ql J,trivial⟩ ⟨Qm J J,trivial⟩⟩
  refine qn<|Q9 ?_
  obtain rfl:=qe h
  exact ⟨_,J,wkA [] [] []⟩
 intro j hb
 subst hb
 refine qf<|qf<|Q7 [q0,q0,q0,qq 0,q0,q0,q0,qq 0,q0,q0,q0,q0,q0,q0,q0] qi<|U J<|O (.d (.bool (decide (a.1 > 0)))) J ?_
 obtain ⟨bz,k,b⟩:=q8 b
 refine Qa 13 (fun A st=>∃ (al am an ao ap aq ar au av aw ax ay : V),st = A [(87,qh bz),(86,ay),(85,ax),(84,aw),(83,av),(82,au),(81,ar),(80,aq),(79,ap),(78,ao),(77,an),(76,am),(75,al)]) ?_ ?_
 ·refine Qb J J k (fun k=>?_) (fun k=>?_)
  ·refine U J<|U J<|O (.d (G (w64 (a.1 - 1)))) J ?_
   obtain ⟨az,ba,k⟩:=q8 k
   refine qr ba J J<|Q2 (q7 az) ba J<|U J<|U J ?_
   obtain ⟨bb,bc,k⟩:=q8 k
   refine qr bc J J<|Q2 (q7 bb) bc J ?_
   obtain ⟨y,ca,k⟩:=q8 k
   refine qz (Ze az bb y ca) J<|O (qh (!y)) J<|O (qh (!y)) J<|q9 ?_
   obtain rfl:=qe k
   exact ⟨_,_,_,_,_,_,_,_,_,_,_,_,J⟩
  refine qc J<|qc J<|qc J<|qc J<|qc J<|qc J<|qc J<|qc J<|qc J<|qc J<|qc J<|O (qh false) J<|q9 ?_
  obtain rfl:=qe k
  exact ⟨_,_,_,_,_,_,_,_,_,_,_,_,J⟩
 rintro _ ⟨al,am,an,ao,ap,aq,ar,au,av,aw,ax,ay,rfl⟩
 refine q9 ?_
 refine qo J b (fun _ b=>?_) (fun _ b=>?_)
 ·refine qb<|U J<|U J<|U J<|U J ?_
  obtain ⟨z,cb,b⟩:=q8 b
  obtain ⟨cu,cc,b⟩:=q8 b
  have cd:=Kj cc
  refine K6 [(0,0)] [(0,0)] [.hs 0 1 0 j.length,q7 a.1,q7 a.2.1,q7 g.1] (q7 z.1) 1 [(0,.dat 1 (z.2.map (eI .i64)))] 1 (qv9 j a.1 a.2.1 g.1 z cb)<|qa J<|qt<|U J<|qa J<|q9<|Q3<|q2f<|Q9 ?_
  exact ⟨_,(Option.some.inj b).symm,wkE [] [] [] J ⟨⟨_,J,Qx (by simp [cd]) J qy (ltd J)⟩,ql J,ql J,ql J,ql J,ql J,trivial⟩ ⟨Qm J J,trivial⟩⟩
 refine qn<|qb<|U J<|U J<|U J<|U J ?_
 obtain ⟨c,ce,b⟩:=q8 b
 obtain ⟨cv,cf,b⟩:=q8 b
 have w:=Kj cf
 refine K6 [(0,0)] [(0,0)] [.hs 0 1 0 j.length,q7 a.1,q7 a.2.1,q7 g.1] (.d (.tup [G c.1,.bool c.2.1])) 1 [(0,.dat 1 (c.2.2.map (eI .i64)))] 1 (qva j a.1 a.2.1 g.1 c ce)<|U J<|O (q7 c.1) J<|O (qh c.2.1) J<|qa J<|qa J<|qt<|U J<|qa J<|qt<|U J<|U J<|O (.d (G (w64 (c.1 - a.1)))) J<|U J<|U J<|O (.d (G (w64 (a.2.1 - c.1)))) J<|qa J<|qa J<|qt<|U J<|O (.d (G (w64 (Int.tdiv (w64 (a.2.1 - a.1)) 8)))) J<|qa J<|qt<|U J<|U J<|O (.d (.bool (decide ((w64 (c.1 - a.1)) < (w64 (a.2.1 - c.1)))))) J<|q9 ?_
 refine qo J b (fun _ b=>?_) (fun _ b=>?_)
 ·refine qb<|U J<|U J<|O (.d (.bool (decide ((w64 (c.1 - a.1)) ≥ (w64 (Int.tdiv (w64 (a.2.1 - a.1)) 8)))))) J<|qa J<|qt<|U J<|U J<|U J<|U J ?_
  obtain ⟨aa,cg,b⟩:=q8 b
  obtain ⟨cw,ch,b⟩:=q8 b
  have ci:=Kj ch
  refine U7 [(0,0)] [(0,0)] [.hs 0 1 0 j.length,q7 a.1,q7 c.1,q7 f.1] (.d (.tup [])) [(0,.dat 1 (aa.map (eI .i64)))] [(0,.dat 1 (aa.map (eI .i64)))] 1 (hrec c.2.2 a.1 c.1 f.1 aa cg) J J J (Yh [(0,0)] [] [] J ⟨⟨_,J,Qx (by simp [w]) J qy (ltd J)⟩,ql J,ql J,ql J,trivial⟩ ⟨Qm J J,trivial⟩) (Yh [(0,0)] [] [] J ⟨ql J,trivial⟩ ⟨Qm J J,trivial⟩) J ⟨.inl J,trivial⟩<|q9<|qu<|U J<|O (.d (G (w64 (c.1 + 1)))) J<|qa J<|qs<|Qc<|Q9 ?_
  exact ⟨_,(Option.some.inj b).symm,wkE [] [] [] J ⟨⟨_,J,Qx (by simp [w,ci]) J qy (ltd J)⟩,ql J,ql J,ql J,ql J,ql J,trivial⟩ ⟨Qm J J,trivial⟩⟩
 refine qb<|U J<|U J<|O (.d (.bool (decide ((w64 (a.2.1 - c.1)) ≥ (w64 (Int.tdiv (w64 (a.2.1 - a.1)) 8)))))) J<|qa J<|qt<|U J<|U J<|O (.d (G (w64 (c.1 + 1)))) J<|U J<|U J ?_
 obtain ⟨ab,cj,b⟩:=q8 b
 obtain ⟨cx,ck,b⟩:=q8 b
 have cl:=Kj ck
 refine U7 [(0,0)] [(0,0)] [.hs 0 1 0 j.length,.d (G (w64 (c.1 + 1))),q7 a.2.1,q7 f.1] (.d (.tup [])) [(0,.dat 1 (ab.map (eI .i64)))] [(0,.dat 1 (ab.map (eI .i64)))] 1 (hrec c.2.2 (w64 (c.1 + 1)) a.2.1 f.1 ab cj) J J J (Yh [(0,0)] [] [] J ⟨⟨_,J,Qx (by simp [w]) J qy (ltd J)⟩,ql J,ql J,ql J,trivial⟩ ⟨Qm J J,trivial⟩) (Yh [(0,0)] [] [] J ⟨ql J,trivial⟩ ⟨Qm J J,trivial⟩) J ⟨.inl J,trivial⟩<|q9<|qu<|U J<|qa J<|qs<|Qc<|Q9 ?_
 exact ⟨_,(Option.some.inj b).symm,wkE [] [] [] J ⟨⟨_,J,Qx (by simp [w,cl]) J qy (ltd J)⟩,ql J,ql J,ql J,ql J,ql J,trivial⟩ ⟨Qm J J,trivial⟩⟩
theorem qve (n : Nat) : ∀ (a : List Int) (b : Int) (c : Int) (f : Int) (r : List Int),q68 n  a b c f = some r→K0 Tryz.prog tab 135 [.hs 0 1 0 a.length,q7 b,q7 c,q7 f] [(0,.dat 1 (a.map (eI .i64)))] 1 (.d (.tup [])) [(0,.dat 1 (r.map (eI .i64)))] 1:=by
 induction n with
 | zero=>intro a b c f r g;cases g
 | succ n ih=>intro a b c f r g;exact qvd (q68 n )   ih a b c f r g
theorem qkc (a : List Int) (r : List Int) (b : U9  a = some r) : K0 Tryz.prog tab 120 [.hs 0 1 0 a.length] [(0,.dat 1 (a.map (eI .i64)))] 1 (.d (.tup [])) [(0,.dat 1 (r.map (eI .i64)))] 1:=by
 unfold U9 at b
 refine Kf Tryz.func120 J qi qi J<|qb<|U J<|O (q7 (a.length : Int)) J<|qa J<|q9<|qu<|U J<|U J<|U J<|O (.d (.int .u64 (IntKind.wrap .u64 (a.length : Int)))) J ?_
 obtain ⟨c,h,b⟩:=q8 b
 refine qz (qdo (IntKind.wrap .u64 (a.length : Int)) c h) J ?_
 obtain ⟨g,f,b⟩:=q8 b
 obtain ⟨l,j,b⟩:=q8 b
 have m:=Kj j
 obtain ⟨k,f⟩:=qdj f
 refine K6 [(0,0)] [(0,0)] [.hs 0 1 0 a.length,q7 0,q7 (a.length : Int),q7 c] (.d (.tup [])) 1 [(0,.dat 1 (g.map (eI .i64)))] 1 (qve k a 0 (a.length : Int) c g f)<|qs ?_
 obtain rfl:=qe b
 exact ⟨.inl J,_,J,wkA [] [] []⟩
theorem qka (c : List Int) (r : (Nat × Nat) × List Int) (g : q24  c = some r) : K0 Tryz.prog tab 121 [.hs 0 1 0 c.length] [(0,.dat 1 (c.map (eI .i64)))] 1 (.hs 0 1 r.1.1 r.1.2) [(0,.dat 1 (r.2.map (eI .i64)))] 1:=by
 unfold q24 at g
 refine Kf Tryz.func121 J qi qi J<|qb<|qa J<|q9<|qf<|qb<|U J<|O (q7 (c.length : Int)) J<|O (.d (.bool (decide ((c.length : Int) < 2)))) J<|q9 ?_
 refine qo J g (fun _ g=>?_) (fun _ g=>?_)
 ·refine qb<|U J<|qa J<|qp ?_
  obtain rfl:=qe g
  exact ⟨.inr J,_,J,wkA [] [] []⟩
 refine qn<|qf<|qb<|qa J<|q9 ?_
 obtain ⟨p,ae,g⟩:=q8 g
 refine Qe (fun m=>.inl m = p) (fun (m : Unit)=>⟨[(0,.hs 0 1 0 c.length)],[(0,.dat 1 (c.map (eI .i64)))],1⟩) qd ?_ ?_
 ·refine Q8 (Zv c) (fun (l : Int)=>⟨[(0,.hs 0 1 0 c.length),(3,q7 l)],[(0,.dat 1 (c.map (eI .i64)))],1⟩) 1 p ae (wkA [] [] []) ?_
  intro l ak a
  unfold Zv at a
  refine qf<|qb<|U J<|U J<|O (q7 (c.length : Int)) J<|O (.d (.bool (decide (l < (c.length : Int))))) J<|q9 ?_
  refine qo J a (fun _ a=>?_) (fun _ a=>?_)
  ·refine qn<|qf<|Q0<|qf<|Q7 [q0,qq 0,q0,q0,q0,q0,qq 0,q0,q0,q0] qi<|U J<|U J ?_
   obtain ⟨q,s,a⟩:=q8 a
   refine qr s J J<|Q2 (q7 q) s J<|U J<|U J<|O (.d (G (w64 (l - 1)))) J ?_
   obtain ⟨t,u,a⟩:=q8 a
   refine qr u J J<|Q2 (q7 t) u J<|O (qh (q == t)) J<|q9 ?_
   refine qo J a (fun _ a=>?_) (fun _ a=>?_)
   ·refine qb<|U J<|U J ?_
    obtain ⟨af,ag,a⟩:=q8 a
    refine q7o ag J J J J J (q6x J) (fun _=>rfl)<|qa J<|q9<|qf<|qb<|qa J<|q9 ?_
    obtain ⟨v,ah,a⟩:=q8 a
    refine Qe (fun h=>h = v) (fun (h : Int × List Int)=>⟨[(0,.hs 0 1 0 h.2.length),(3,q7 h.1)],[(0,.dat 1 (h.2.map (eI .i64)))],1⟩) qd ?_ ?_
    ·refine Q8 (q12) (fun (b : Int × (Nat × Nat) × Int × List Int)=>⟨[(0,.hs 0 1 0 b.2.2.2.length),(3,q7 b.1),(4,.hs 0 1 b.2.1.1 b.2.1.2),(5,q7 b.2.2.1)],[(0,.dat 1 (b.2.2.2.map (eI .i64)))],1⟩) (l,af,1,c) v ah (wkA [] [] []) ?_
     intro b al j
     unfold q12 at j
     refine qf<|qb<|U J<|U J<|O (q7 (b.2.1.2 : Int)) J<|O (.d (.bool (decide (b.2.2.1 < (b.2.1.2 : Int))))) J<|q9 ?_
     refine qo J j (fun _ j=>?_) (fun _ j=>?_)
     ·refine qn<|qf ?_
      obtain ⟨ai,f,j⟩:=q8 j
      refine Qe (fun k=>k = ai) (fun (k : Int × (Nat × Nat) × List Int)=>⟨[(0,.hs 0 1 0 k.2.2.length),(3,q7 k.1),(4,.hs 0 1 k.2.1.1 k.2.1.2),(5,q7 b.2.2.1)],[(0,.dat 1 (k.2.2.map (eI .i64)))],1⟩) qd ?_ ?_
      ·refine qf<|Q7 [q0,qq 0,q0,q0,q0,q0,qq 0,q0,q0,q0] qi<|U J<|U J ?_
       obtain ⟨x,y,f⟩:=q8 f
       refine qe0 y J J J J J J<|Q2 (q7 x) (qdf y) J<|U J<|U J<|O (.d (G (w64 (b.2.2.1 - 1)))) J ?_
       obtain ⟨z,aa,f⟩:=q8 f
       refine qe0 aa J J J J J J<|Q2 (q7 z) (qdf aa) J<|O (qh (x != z)) J<|q9 ?_
       refine qo J f (fun _ f=>?_) (fun _ f=>?_)
       ·refine qb<|U J<|U J<|U J<|U J ?_
        obtain ⟨n,ab,f⟩:=q8 f
        refine qe0 ab J J J J J J<|Q2 (q7 n) (qdf ab) J ?_
        obtain ⟨am,ac,f⟩:=q8 f
        refine qr ac J J<|Qt (ds:=[G n]) n ac J J J J J J J J (leb J) J<|q9<|qu<|U J<|O (.d (G (w64 (b.1 + 1)))) J<|qa J<|qs ?_
        obtain rfl:=qe f
        exact ⟨_,J,wkE [] [] [] J ⟨⟨_,J,Qx qd J qy (ltd J)⟩,ql J,⟨_,J,.hs J qy (ltd J)⟩,ql J,trivial⟩ ⟨Qm J J,trivial⟩⟩
       refine qn<|Q9 ?_
       obtain rfl:=qe f
       exact ⟨_,J,wkA [] [] []⟩
      intro k hb
      subst hb
      refine qu<|U J<|O (.d (G (w64 (b.2.2.1 + 1)))) J<|qa J<|qs ?_
      exact ⟨_,(Option.some.inj j).symm,wkA [] [] []⟩
     refine Q3 ?_
     refine ⟨_,(Option.some.inj j).symm,fun hm=>?_⟩
     subst hm
     exact ⟨_,J,wkA [] [] []⟩
    intro h hb
    subst hb
    refine qb<|U J<|U J ?_
    obtain ⟨ad,o,a⟩:=q8 a
    refine q7o o J J J J J (q6x J) (fun _=>rfl)<|qq0 (w:=ad) (xs:=h.2) (enc:=(eI .i64)) 0 (q9h o) J J J J J J J ?_
    have an:=@qg2 _ h.2 ad 0 (q9h o)
    refine qt<|U J<|U J ?_
    obtain ⟨ao,aj,a⟩:=q8 a
    refine q7o aj J J J J J (fun _=>rfl) (q6x J)<|qa J<|qp ?_
    refine ⟨_,(Option.some.inj a).symm,fun hm=>?_⟩
    subst hm
    obtain rfl:=qe g
    exact ⟨.inr J,_,J,wkA [] [] []⟩
   refine qn<|Q9<|Qc<|qu<|U J<|O (.d (G (w64 (l + 1)))) J<|qa J<|qs ?_
   exact ⟨_,(Option.some.inj a).symm,wkA [] [] []⟩
  refine Q3 ?_
  refine ⟨_,(Option.some.inj a).symm,fun hm=>?_⟩
  subst hm
  exact ⟨_,J,wkA [] [] []⟩
 intro m hb
 subst hb
 refine qb<|U J<|qa J<|qp ?_
 obtain rfl:=qe g
 exact ⟨.inr J,_,J,wkA [] [] []⟩
theorem qus (c : List qk) (j : qk→Option Bool) (p1F : FuncId) (p1C : List DV) (p1Ok : ∀ (f : qk) (r : Bool),j f = some r→Pure Tryz.prog tab p1F ([.agg [G f.X0,G f.Y0,G f.X1,G f.Y1]] ++ p1C) (.bool r)) (r : Int) (g : qbl c j = some r) : Pure Tryz.prog tab 137 [.sl 4 (c.map qx),.fn p1F p1C] (G r):=by
 unfold qbl at g
 refine Qg Tryz.func137 J qi qi J<|qb<|qa J<|q9<|qf<|qb<|U J<|Qd J<|U J<|q9 ?_
 obtain ⟨l,m,g⟩:=q8 g
 refine Qe (fun k=>.inl k = l) (fun (k : Unit)=>⟨[],[],0⟩) qd ?_ ?_
 ·refine Q8 (q3f c j) (fun (h : Int)=>⟨[(0,.d (.sl 4 (c.map qx))),(1,.d (.fn p1F p1C)),(7,q7 (c.length : Int)),(8,q7 h)],[],0⟩) 0 l m (wkA [] [] []) ?_
  intro h q a
  unfold q3f at a
  refine qb<|O (.d (.bool (decide (h < (c.length : Int))))) J<|q9<|qf ?_
  refine qo J a (fun _ a=>?_) (fun _ a=>?_)
  ·refine qn<|qf<|Q0<|qb<|U J<|qa J<|qt<|U J<|U J<|U J ?_
   obtain ⟨b,n,a⟩:=q8 a
   refine Q4 (enc:=qx) n J<|O (.d (.agg [G b.X0,G b.Y0,G b.X1,G b.Y1])) J ?_
   obtain ⟨o,p,a⟩:=q8 a
   refine Yd [.d (.agg [G b.X0,G b.Y0,G b.X1,G b.Y1])] (p1Ok b o p) J J J (.inl J)<|q9 ?_
   refine qo J a (fun _ a=>?_) (fun _ a=>?_)
   ·refine qb<|U J<|qa J<|qp ?_
    refine ⟨_,(Option.some.inj a).symm,fun hm=>?_⟩
    subst hm
    obtain rfl:=qe g
    exact Q1 (q7 h) J
   refine qn<|Q9<|Qc<|qu<|O (.d (G (w64 (h + 1)))) J<|U J<|qs ?_
   exact ⟨_,(Option.some.inj a).symm,wkA [] [] []⟩
  refine Q3 ?_
  refine ⟨_,(Option.some.inj a).symm,fun hm=>?_⟩
  subst hm
  exact ⟨_,J,wkA [] [] []⟩
 intro k hb
 subst hb
 refine qb<|qa J<|qp ?_
 obtain rfl:=qe g
 exact Q1 (q7 (-1)) J
theorem qui (c : List qk) (f : qk→Option Bool) (p1F : FuncId) (p1C : List DV) (p1Ok : ∀ (a : qk) (r : Bool),f a = some r→Pure Tryz.prog tab p1F ([.agg [G a.X0,G a.Y0,G a.X1,G a.Y1]] ++ p1C) (.bool r)) (r : Bool) (b : q8b c f = some r) : Pure Tryz.prog tab 123 [.sl 4 (c.map qx),.fn p1F p1C] (.bool r):=by
 unfold q8b at b
 refine Qg Tryz.func123 J qi qi J<|qb<|qa J<|qt<|U J<|U J ?_
 obtain ⟨g,h,b⟩:=q8 b
 refine qz (qus c f p1F p1C p1Ok g h) J<|O (.d (.bool (decide (g ≥ 0)))) J<|qa J<|qp ?_
 obtain rfl:=qe b
 exact Q1 (.d (.bool (decide (g ≥ 0)))) J
theorem qb6 (a : Int) (r : Bool) (c : q1x a = some r) : Pure Tryz.prog tab 138 [G a] (.bool r):=by
 unfold q1x at c
 refine Qg Tryz.func138 J qi qi J<|qb<|qa J<|qt<|U J<|O (.d (.bool (decide (a ≥ (-1000000))))) J ?_
 obtain ⟨f,b,c⟩:=q8 c
 refine Qa 4 (fun A st=>∃ (g h j : V),st = A [(8,qh f),(7,j),(6,h),(5,g)]) ?_ ?_
 ·refine Qb J J b (fun b=>?_) (fun b=>?_)
  ·refine U J<|O (.d (.bool (decide (a≤1000000)))) J<|O (.d (.bool (decide (a≤1000000)))) J<|q9 ?_
   obtain rfl:=qe b
   exact ⟨_,_,_,J⟩
  refine qc J<|qc J<|O (qh false) J<|q9 ?_
  obtain rfl:=qe b
  exact ⟨_,_,_,J⟩
 rintro _ ⟨g,h,j,rfl⟩
 refine qa J<|qp ?_
 obtain rfl:=qe c
 exact Q1 (qh f) J
theorem qsm (a : qk) (r : Bool) (b : q85 a = some r) : Pure Tryz.prog tab 125 [.agg [G a.X0,G a.Y0,G a.X1,G a.Y1]] (.bool r):=by
 unfold q85 at b
 refine Qg Tryz.func125 J qi qi J<|qb<|Qn (.ref 0 4 0 0) (.dat 4 [[G a.X0,G a.Y0,G a.X1,G a.Y1]]) J<|qa J<|qt<|O (.ref 0 4 0 0) J<|O (q7 a.X0) J<|O (.ref 0 4 0 2) J<|O (q7 a.X1) J<|O (.d (.bool (decide (a.X0 < a.X1)))) J ?_
 obtain ⟨c1,j,b⟩:=q8 b
 refine Qa 7 (fun A st=>∃ (k l m n o p : V),st = A [(14,qh c1),(13,p),(12,o),(11,n),(10,m),(9,l),(8,k)]) ?_ ?_
 ·refine Qb J J j (fun j=>?_) (fun j=>?_)
  ·refine O (.ref 0 4 0 1) J<|O (q7 a.Y0) J<|O (.ref 0 4 0 3) J<|O (q7 a.Y1) J<|O (.d (.bool (decide (a.Y0 < a.Y1)))) J<|O (.d (.bool (decide (a.Y0 < a.Y1)))) J<|q9 ?_
   obtain rfl:=qe j
   exact ⟨_,_,_,_,_,_,J⟩
  refine qc J<|qc J<|qc J<|qc J<|qc J<|O (qh false) J<|q9 ?_
  obtain rfl:=qe j
  exact ⟨_,_,_,_,_,_,J⟩
 rintro _ ⟨k,l,m,n,o,p,rfl⟩
 obtain ⟨an,c,b⟩:=q8 b
 refine Qa 5 (fun A st=>∃ (q s t u : V),st = A [(19,qh an),(18,u),(17,t),(16,s),(15,q)]) ?_ ?_
 ·refine Qb J J c (fun c=>?_) (fun c=>?_)
  ·refine O (.ref 0 4 0 0) J<|O (q7 a.X0) J ?_
   obtain ⟨v,ao,c⟩:=q8 c
   refine qz (qb6 a.X0 v ao) J<|O (qh v) J<|q9 ?_
   obtain rfl:=qe c
   exact ⟨_,_,_,_,J⟩
  refine qc J<|qc J<|qc J<|O (qh false) J<|q9 ?_
  obtain rfl:=qe c
  exact ⟨_,_,_,_,J⟩
 rintro _ ⟨q,s,t,u,rfl⟩
 obtain ⟨ap,f,b⟩:=q8 b
 refine Qa 5 (fun A st=>∃ (w x y z : V),st = A [(24,qh ap),(23,z),(22,y),(21,x),(20,w)]) ?_ ?_
 ·refine Qb J J f (fun f=>?_) (fun f=>?_)
  ·refine O (.ref 0 4 0 2) J<|O (q7 a.X1) J ?_
   obtain ⟨aa,aq,f⟩:=q8 f
   refine qz (qb6 a.X1 aa aq) J<|O (qh aa) J<|q9 ?_
   obtain rfl:=qe f
   exact ⟨_,_,_,_,J⟩
  refine qc J<|qc J<|qc J<|O (qh false) J<|q9 ?_
  obtain rfl:=qe f
  exact ⟨_,_,_,_,J⟩
 rintro _ ⟨w,x,y,z,rfl⟩
 obtain ⟨ar,g,b⟩:=q8 b
 refine Qa 5 (fun A st=>∃ (ab ac ad ae : V),st = A [(29,qh ar),(28,ae),(27,ad),(26,ac),(25,ab)]) ?_ ?_
 ·refine Qb J J g (fun g=>?_) (fun g=>?_)
  ·refine O (.ref 0 4 0 1) J<|O (q7 a.Y0) J ?_
   obtain ⟨af,au,g⟩:=q8 g
   refine qz (qb6 a.Y0 af au) J<|O (qh af) J<|q9 ?_
   obtain rfl:=qe g
   exact ⟨_,_,_,_,J⟩
  refine qc J<|qc J<|qc J<|O (qh false) J<|q9 ?_
  obtain rfl:=qe g
  exact ⟨_,_,_,_,J⟩
 rintro _ ⟨ab,ac,ad,ae,rfl⟩
 obtain ⟨ag,h,b⟩:=q8 b
 refine Qa 5 (fun A st=>∃ (ah ai aj ak : V),st = A [(34,qh ag),(33,ak),(32,aj),(31,ai),(30,ah)]) ?_ ?_
 ·refine Qb J J h (fun h=>?_) (fun h=>?_)
  ·refine O (.ref 0 4 0 3) J<|O (q7 a.Y1) J ?_
   obtain ⟨al,av,h⟩:=q8 h
   refine qz (qb6 a.Y1 al av) J<|O (qh al) J<|q9 ?_
   obtain rfl:=qe h
   exact ⟨_,_,_,_,J⟩
  refine qc J<|qc J<|qc J<|O (qh false) J<|q9 ?_
  obtain rfl:=qe h
  exact ⟨_,_,_,_,J⟩
 rintro _ ⟨ah,ai,aj,ak,rfl⟩
 refine qa J<|qp ?_
 obtain rfl:=qe b
 exact Q1 (qh ag) J
theorem qsf (a : qk) (r : Bool) (b : q1w a = some r) : Pure Tryz.prog tab 124 [.agg [G a.X0,G a.Y0,G a.X1,G a.Y1]] (.bool r):=by
 unfold q1w at b
 refine Qg Tryz.func124 J qi qi J<|qb<|Qn (.ref 0 4 0 0) (.dat 4 [[G a.X0,G a.Y0,G a.X1,G a.Y1]]) J<|qa J<|qt<|O (.d (.agg [G a.X0,G a.Y0,G a.X1,G a.Y1])) J ?_
 obtain ⟨c,f,b⟩:=q8 b
 refine qz (qsm a c f) J<|O (qh (!c)) J<|qa J<|qp ?_
 obtain rfl:=qe b
 exact Q1 (qh (!c)) J
theorem quu (b : List qm) (h : qm→Option Bool) (p1F : FuncId) (p1C : List DV) (p1Ok : ∀ (j : qm) (r : Bool),h j = some r→Pure Tryz.prog tab p1F ([.agg [G j.Lo,G j.Hi]] ++ p1C) (.bool r)) (r : Int) (c : q8g b h = some r) : Pure Tryz.prog tab 171 [.sl 2 (b.map Qh),.fn p1F p1C] (G r):=by
 unfold q8g at c
 refine Qg Tryz.func171 J qi qi J<|qb<|qa J<|q9<|qf<|qb<|U J<|Qd J<|U J<|q9 ?_
 obtain ⟨l,m,c⟩:=q8 c
 refine Qe (fun k=>.inl k = l) (fun (k : Unit)=>⟨[],[],0⟩) qd ?_ ?_
 ·refine Q8 (q25 b h) (fun (f : Int)=>⟨[(0,.d (.sl 2 (b.map Qh))),(1,.d (.fn p1F p1C)),(7,q7 (b.length : Int)),(8,q7 f)],[],0⟩) 0 l m (wkA [] [] []) ?_
  intro f q a
  unfold q25 at a
  refine qb<|O (.d (.bool (decide (f < (b.length : Int))))) J<|q9<|qf ?_
  refine qo J a (fun _ a=>?_) (fun _ a=>?_)
  ·refine qn<|qf<|Q0<|qb<|U J<|qa J<|qt<|U J<|U J<|U J ?_
   obtain ⟨g,n,a⟩:=q8 a
   refine Q4 (enc:=Qh) n J<|O (.d (.agg [G g.Lo,G g.Hi])) J ?_
   obtain ⟨o,p,a⟩:=q8 a
   refine Yd [.d (.agg [G g.Lo,G g.Hi])] (p1Ok g o p) J J J (.inl J)<|q9 ?_
   refine qo J a (fun _ a=>?_) (fun _ a=>?_)
   ·refine qb<|U J<|qa J<|qp ?_
    refine ⟨_,(Option.some.inj a).symm,fun hm=>?_⟩
    subst hm
    obtain rfl:=qe c
    exact Q1 (q7 f) J
   refine qn<|Q9<|Qc<|qu<|O (.d (G (w64 (f + 1)))) J<|U J<|qs ?_
   exact ⟨_,(Option.some.inj a).symm,wkA [] [] []⟩
  refine Q3 ?_
  refine ⟨_,(Option.some.inj a).symm,fun hm=>?_⟩
  subst hm
  exact ⟨_,J,wkA [] [] []⟩
 intro k hb
 subst hb
 refine qb<|qa J<|qp ?_
 obtain rfl:=qe c
 exact Q1 (q7 (-1)) J
theorem quk (b : List qm) (c : qm→Option Bool) (p1F : FuncId) (p1C : List DV) (p1Ok : ∀ (f : qm) (r : Bool),c f = some r→Pure Tryz.prog tab p1F ([.agg [G f.Lo,G f.Hi]] ++ p1C) (.bool r)) (r : Bool) (a : q8d b c = some r) : Pure Tryz.prog tab 158 [.sl 2 (b.map Qh),.fn p1F p1C] (.bool r):=by
 unfold q8d at a
 refine Qg Tryz.func158 J qi qi J<|qb<|qa J<|qt<|U J<|U J ?_
 obtain ⟨g,h,a⟩:=q8 a
 refine qz (quu b c p1F p1C p1Ok g h) J<|O (.d (.bool (decide (g ≥ 0)))) J<|qa J<|qp ?_
 obtain rfl:=qe a
 exact Q1 (.d (.bool (decide (g ≥ 0)))) J
theorem qy3 (a : qm) (r : Bool) (b : q2a a = some r) : Pure Tryz.prog tab 143 [.agg [G a.Lo,G a.Hi]] (.bool r):=by
 unfold q2a at b
 refine Qg Tryz.func143 J qi qi J<|qb<|Qn (.ref 0 2 0 0) (.dat 2 [[G a.Lo,G a.Hi]]) J<|qa J<|qt<|O (.ref 0 2 0 0) J<|O (q7 a.Lo) J<|O (.ref 0 2 0 1) J<|O (q7 a.Hi) J<|O (.d (.bool (decide (a.Lo < a.Hi)))) J ?_
 obtain ⟨q,c,b⟩:=q8 b
 refine Qa 5 (fun A st=>∃ (g h j k : V),st = A [(12,qh q),(11,k),(10,j),(9,h),(8,g)]) ?_ ?_
 ·refine Qb J J c (fun c=>?_) (fun c=>?_)
  ·refine O (.ref 0 2 0 0) J<|O (q7 a.Lo) J<|O (.d (.bool (decide (a.Lo ≥ (-1000000))))) J<|O (.d (.bool (decide (a.Lo ≥ (-1000000))))) J<|q9 ?_
   obtain rfl:=qe c
   exact ⟨_,_,_,_,J⟩
  refine qc J<|qc J<|qc J<|O (qh false) J<|q9 ?_
  obtain rfl:=qe c
  exact ⟨_,_,_,_,J⟩
 rintro _ ⟨g,h,j,k,rfl⟩
 obtain ⟨l,f,b⟩:=q8 b
 refine Qa 5 (fun A st=>∃ (m n o p : V),st = A [(17,qh l),(16,p),(15,o),(14,n),(13,m)]) ?_ ?_
 ·refine Qb J J f (fun f=>?_) (fun f=>?_)
  ·refine O (.ref 0 2 0 1) J<|O (q7 a.Hi) J<|O (.d (.bool (decide (a.Hi≤1000000)))) J<|O (.d (.bool (decide (a.Hi≤1000000)))) J<|q9 ?_
   obtain rfl:=qe f
   exact ⟨_,_,_,_,J⟩
  refine qc J<|qc J<|qc J<|O (qh false) J<|q9 ?_
  obtain rfl:=qe f
  exact ⟨_,_,_,_,J⟩
 rintro _ ⟨m,n,o,p,rfl⟩
 refine qa J<|qp ?_
 obtain rfl:=qe b
 exact Q1 (qh l) J
theorem qxw (a : qm) (r : Bool) (b : qbq a = some r) : Pure Tryz.prog tab 159 [.agg [G a.Lo,G a.Hi]] (.bool r):=by
 unfold qbq at b
 refine Qg Tryz.func159 J qi qi J<|qb<|Qn (.ref 0 2 0 0) (.dat 2 [[G a.Lo,G a.Hi]]) J<|qa J<|qt<|O (.d (.agg [G a.Lo,G a.Hi])) J ?_
 obtain ⟨c,f,b⟩:=q8 b
 refine qz (qy3 a c f) J<|O (qh (!c)) J<|qa J<|qp ?_
 obtain rfl:=qe b
 exact Q1 (qh (!c)) J
theorem qxz (a : qj) (b : qj) (r : Int) (c : q9c a b = some r) : Pure Tryz.prog tab 163 [.agg [G a.at_,G a.list_,G a.by_],.agg [G b.at_,G b.list_,G b.by_]] (G r):=by
 unfold q9c at c
 refine Qg Tryz.func163 J qi qi J<|qb<|Qn (.ref 0 3 0 0) (.dat 3 [[G a.at_,G a.list_,G a.by_]]) J<|Qn (.ref 1 3 0 0) (.dat 3 [[G b.at_,G b.list_,G b.by_]]) J<|qa J<|qt<|O (.ref 0 3 0 0) J<|O (q7 a.at_) J<|O (.ref 1 3 0 0) J<|O (q7 b.at_) J<|O (.d (G (w64 (a.at_ - b.at_)))) J<|qa J<|qp ?_
 obtain rfl:=qe c
 exact Q1 (.d (G (w64 (a.at_ - b.at_)))) J
theorem qv3 (p : qj→qj→Option Int) (q1F : FuncId) (q1C : List DV) (q1Ok : ∀ (q : qj) (s : qj) (r : Int),p q s = some r→Pure Tryz.prog tab q1F ([.agg [G q.at_,G q.list_,G q.by_],.agg [G s.at_,G s.list_,G s.by_]] ++ q1C) (G r)) (t : List qj) (c : Int) (j : Int) (r : List qj) (u : q8n p t c j = some r) : K0 Tryz.prog tab 175 [.hs 0 3 0 t.length,q7 c,q7 j,.d (.fn q1F q1C)] [(0,.dat 3 (t.map Q5))] 1 (.d (.tup [])) [(0,.dat 3 (r.map Q5))] 1:=by
 unfold q8n at u
 refine Kf Tryz.func175 J qi qi J<|qb<|U J<|O (.d (G (w64 (c + 1)))) J<|qa J<|q9 ?_
 obtain ⟨aq,ar,u⟩:=q8 u
 refine Q0<|Q8 (q8o j c p) (fun (f : Int × List qj)=>⟨[(0,.hs 0 3 0 f.2.length),(1,q7 c),(2,q7 j),(3,.d (.fn q1F q1C)),(8,q7 f.1)],[(0,.dat 3 (f.2.map Q5))],1⟩) (w64 (c + 1),t) aq ar (wkA [] [] []) ?_
 intro f az h
 unfold q8o at h
 refine qf<|qb<|U J<|U J<|O (.d (.bool (decide (f.1 < j)))) J<|q9 ?_
 refine qo J h (fun _ h=>?_) (fun _ h=>?_)
 ·refine qn<|qf ?_
  obtain ⟨au,v,h⟩:=q8 h
  refine Qe (fun o=>o = au) (fun (o : List qj)=>⟨[(0,.hs 0 3 0 o.length),(1,q7 c),(2,q7 j),(3,.d (.fn q1F q1C)),(8,q7 f.1)],[(0,.dat 3 (o.map Q5))],1⟩) qd ?_ ?_
  ·refine qb<|U J<|qa J<|q9 ?_
   obtain ⟨av,aw,v⟩:=q8 v
   refine Q0<|Q8 (q8p c p) (fun (g : Int × List qj)=>⟨[(0,.hs 0 3 0 g.2.length),(1,q7 c),(2,q7 j),(3,.d (.fn q1F q1C)),(8,q7 f.1),(9,q7 g.1)],[(0,.dat 3 (g.2.map Q5))],1⟩) (f.1,f.2) av aw (wkA [] [] []) ?_
   intro g ba a
   unfold q8p at a
   refine qf<|qf<|Q7 [q0,q0,q0,qq 0,q0,q0,q0,q0,qq 0,q0,q0,q0,q0,q0,q0,q0,q0] qi<|U J<|U J<|O (.d (.bool (decide (g.1 > c)))) J ?_
   obtain ⟨ax,b,a⟩:=q8 a
   refine Qa 14 (fun A st=>∃ (x y z aa ab ac ad ae af ag ah ai aj : V),st = A [(34,qh ax),(33,aj),(32,ai),(31,ah),(30,ag),(29,af),(28,ae),(27,ad),(26,ac),(25,ab),(24,aa),(23,z),(22,y),(21,x)]) ?_ ?_
   ·refine Qb J J b (fun b=>?_) (fun b=>?_)
    ·refine U J<|U J<|U J ?_
     obtain ⟨k,ak,b⟩:=q8 b
     refine qr ak J J<|Q2 (.d (.agg [G k.at_,G k.list_,G k.by_])) ak J<|U J<|U J<|O (.d (G (w64 (g.1 - 1)))) J ?_
     obtain ⟨l,al,b⟩:=q8 b
     refine qr al J J<|Q2 (.d (.agg [G l.at_,G l.list_,G l.by_])) al J ?_
     obtain ⟨w,ay,b⟩:=q8 b
     refine Yd [.d (.agg [G k.at_,G k.list_,G k.by_]),.d (.agg [G l.at_,G l.list_,G l.by_])] (q1Ok k l w ay) J J J (.inl J)<|O (.d (.bool (decide (w < 0)))) J<|O (.d (.bool (decide (w < 0)))) J<|q9 ?_
     obtain rfl:=qe b
     exact ⟨_,_,_,_,_,_,_,_,_,_,_,_,_,J⟩
    refine qc J<|qc J<|qc J<|qc J<|qc J<|qc J<|qc J<|qc J<|qc J<|qc J<|qc J<|qc J<|O (qh false) J<|q9 ?_
    obtain rfl:=qe b
    exact ⟨_,_,_,_,_,_,_,_,_,_,_,_,_,J⟩
   rintro _ ⟨x,y,z,aa,ab,ac,ad,ae,af,ag,ah,ai,aj,rfl⟩
   refine q9 ?_
   refine qo J a (fun _ a=>?_) (fun _ a=>?_)
   ·refine qn<|qf<|Q0<|Q7 [Qk 0,q0,Qk 0,q0,qq 0,q0,q0,q0,qq 0,q0,q0,q0,q0,q0,q0,q0,q0,q0] qi<|U J<|U J<|U J<|U J<|O (.d (G (w64 (g.1 - 1)))) J<|U J<|U J<|O (.d (G (w64 (g.1 - 1)))) J ?_
    obtain ⟨m,am,a⟩:=q8 a
    refine qr am J J<|Q2 (.d (.agg [G m.at_,G m.list_,G m.by_])) am J<|U J<|U J ?_
    obtain ⟨n,an,a⟩:=q8 a
    refine qr an J J<|Q2 (.d (.agg [G n.at_,G n.list_,G n.by_])) an J ?_
    obtain ⟨bb,ao,a⟩:=q8 a
    refine qr ao J J<|Qt (ds:=[G m.at_,G m.list_,G m.by_]) m ao J J J J J J J J (leb J) J ?_
    obtain ⟨bc,ap,a⟩:=q8 a
    refine qr ap qd J<|Qt (ds:=[G n.at_,G n.list_,G n.by_]) n ap J J J J J J J J (leb J) J<|qs<|Qc<|qu<|U J<|O (.d (G (w64 (g.1 - 1)))) J<|qa J<|qs ?_
    exact ⟨_,(Option.some.inj a).symm,wkE [] [] [] J ⟨⟨_,J,Qx qd J qy (ltd J)⟩,ql J,ql J,ql J,ql J,ql J,trivial⟩ ⟨Qm J J,trivial⟩⟩
   refine Q3 ?_
   refine ⟨_,(Option.some.inj a).symm,fun hm=>?_⟩
   subst hm
   obtain rfl:=qe v
   exact ⟨_,J,wkA [] [] []⟩
  intro o hb
  subst hb
  refine qu<|U J<|O (.d (G (w64 (f.1 + 1)))) J<|qa J<|qs ?_
  exact ⟨_,(Option.some.inj h).symm,wkA [] [] []⟩
 refine Q3 ?_
 refine ⟨_,(Option.some.inj h).symm,fun hm=>?_⟩
 subst hm
 obtain rfl:=qe u
 exact ⟨.inl J,_,J,wkA [] [] []⟩
theorem qkg (v : qj→qj→Option Int) (q1F : FuncId) (q1C : List DV) (q1Ok : ∀ (s : qj) (t : qj) (r : Int),v s t = some r→Pure Tryz.prog tab q1F ([.agg [G s.at_,G s.list_,G s.by_],.agg [G t.at_,G t.list_,G t.by_]] ++ q1C) (G r)) (u : List qj) (w : Int) (g : Int) (c : Int) (r : List qj) (p : q6a v u w g c = some r) : K0 Tryz.prog tab 183 [.hs 0 3 0 u.length,q7 w,q7 g,q7 c,.d (.fn q1F q1C)] [(0,.dat 3 (u.map Q5))] 1 (.d (.tup [])) [(0,.dat 3 (r.map Q5))] 1:=by
 unfold q6a at p
 refine Kf Tryz.func183 J qi qi J<|qb<|U J<|qa J<|q9 ?_
 obtain ⟨ba,bb,p⟩:=q8 p
 refine Q0<|Q8 (q97 g c v) (fun (b : Int × List qj)=>⟨[(0,.hs 0 3 0 b.2.length),(2,q7 g),(3,q7 c),(4,.d (.fn q1F q1C)),(10,q7 b.1)],[(0,.dat 3 (b.2.map Q5))],1⟩) (w,u) ba bb (wkA [] [] []) ?_
 intro b bg a
 unfold q97 at a
 refine Q0<|qb<|U J<|O (.d (G (w64 (2 * b.1)))) J<|O (.d (G (w64 ((w64 (2 * b.1)) + 1)))) J<|qa J<|q9<|qf<|qb<|U J<|U J<|O (.d (.bool (decide ((w64 ((w64 (2 * b.1)) + 1)) ≥ g)))) J<|q9 ?_
 refine qo J a (fun _ a=>?_) (fun _ a=>?_)
 ·refine Q3 ?_
  refine ⟨_,(Option.some.inj a).symm,fun hm=>?_⟩
  subst hm
  obtain rfl:=qe p
  exact ⟨.inl J,_,J,wkA [] [] []⟩
 refine qn<|qf<|qf<|Q7 [q0,q0,q0,qq 0,q0,q0,q0,q0,q0,q0,qq 0,q0,q0,q0,q0,q0,q0,q0,q0,q0,q0,q0] qi<|U J<|O (.d (G (w64 ((w64 ((w64 (2 * b.1)) + 1)) + 1)))) J<|U J<|O (.d (.bool (decide ((w64 ((w64 ((w64 (2 * b.1)) + 1)) + 1)) < g)))) J ?_
 obtain ⟨bc,f,a⟩:=q8 a
 refine Qa 18 (fun A st=>∃ (z aa ab ac ad ae af ag ah ai aj ak al am an ao ap : V),st = A [(40,qh bc),(39,ap),(38,ao),(37,an),(36,am),(35,al),(34,ak),(33,aj),(32,ai),(31,ah),(30,ag),(29,af),(28,ae),(27,ad),(26,ac),(25,ab),(24,aa),(23,z)]) ?_ ?_
 ·refine Qb J J f (fun f=>?_) (fun f=>?_)
  ·refine U J<|U J<|U J<|U J<|O (.d (G (w64 (c + (w64 ((w64 (2 * b.1)) + 1)))))) J ?_
   obtain ⟨h,aq,f⟩:=q8 f
   refine qr aq J J<|Q2 (.d (.agg [G h.at_,G h.list_,G h.by_])) aq J<|U J<|U J<|U J<|O (.d (G (w64 (c + (w64 ((w64 (2 * b.1)) + 1)))))) J<|O (.d (G (w64 ((w64 (c + (w64 ((w64 (2 * b.1)) + 1)))) + 1)))) J ?_
   obtain ⟨j,ar,f⟩:=q8 f
   refine qr ar J J<|Q2 (.d (.agg [G j.at_,G j.list_,G j.by_])) ar J ?_
   obtain ⟨x,bd,f⟩:=q8 f
   refine Yd [.d (.agg [G h.at_,G h.list_,G h.by_]),.d (.agg [G j.at_,G j.list_,G j.by_])] (q1Ok h j x bd) J J J (.inl J)<|O (.d (.bool (decide (x < 0)))) J<|O (.d (.bool (decide (x < 0)))) J<|q9 ?_
   obtain rfl:=qe f
   exact ⟨_,_,_,_,_,_,_,_,_,_,_,_,_,_,_,_,_,J⟩
  refine qc J<|qc J<|qc J<|qc J<|qc J<|qc J<|qc J<|qc J<|qc J<|qc J<|qc J<|qc J<|qc J<|qc J<|qc J<|qc J<|O (qh false) J<|q9 ?_
  obtain rfl:=qe f
  exact ⟨_,_,_,_,_,_,_,_,_,_,_,_,_,_,_,_,_,J⟩
 rintro _ ⟨z,aa,ab,ac,ad,ae,af,ag,ah,ai,aj,ak,al,am,an,ao,ap,rfl⟩
 refine q9 ?_
 obtain ⟨be,q,a⟩:=q8 a
 refine Yb (fun k=>k = be) (fun (k : Int)=>⟨[(0,.hs 0 3 0 b.2.length),(2,q7 g),(3,q7 c),(4,.d (.fn q1F q1C)),(10,q7 b.1),(11,q7 k)],[(0,.dat 3 (b.2.map Q5))],1⟩) qd ?_ ?_
 ·refine qo J q (fun _ q=>?_) (fun _ q=>?_)
  ·refine qu<|U J<|O (.d (G (w64 ((w64 ((w64 (2 * b.1)) + 1)) + 1)))) J<|qa J<|qs ?_
   obtain rfl:=qe q
   exact ⟨_,J,wkA [] [] []⟩
  refine qn<|Q9 ?_
  obtain rfl:=qe q
  exact ⟨_,J,wkA [] [] []⟩
 intro k hb
 subst hb
 refine qf<|qf<|Q7 [q0,q0,q0,qq 0,q0,q0,q0,q0,q0,qq 0,q0,q0,q0,q0,q0,q0] qi<|U J<|U J<|U J<|U J<|O (.d (G (w64 (c + b.1)))) J ?_
 obtain ⟨l,au,a⟩:=q8 a
 refine qr au J J<|Q2 (.d (.agg [G l.at_,G l.list_,G l.by_])) au J<|U J<|U J<|U J<|O (.d (G (w64 (c + k)))) J ?_
 obtain ⟨m,av,a⟩:=q8 a
 refine qr av J J<|Q2 (.d (.agg [G m.at_,G m.list_,G m.by_])) av J ?_
 obtain ⟨y,bf,a⟩:=q8 a
 refine Yd [.d (.agg [G l.at_,G l.list_,G l.by_]),.d (.agg [G m.at_,G m.list_,G m.by_])] (q1Ok l m y bf) J J J (.inl J)<|O (.d (.bool (decide (y < 0)))) J<|O (.d (.bool (!(decide (y < 0))))) J<|q9 ?_
 refine qo J a (fun _ a=>?_) (fun _ a=>?_)
 ·refine q20 ?_
  refine ⟨_,(Option.some.inj a).symm,fun hm=>?_⟩
  subst hm
  obtain rfl:=qe p
  exact ⟨.inr J,_,J,wkA [] [] []⟩
 refine qn<|qf<|Q7 [Qk 0,q0,Qk 0,q0,qq 0,q0,q0,q0,q0,q0,qq 0,q0,q0,q0,q0,q0,q0,q0,q0,q0,q0,q0,q0,q0] qi<|U J<|U J<|U J<|O (.d (G (w64 (c + b.1)))) J<|U J<|U J<|U J<|O (.d (G (w64 (c + k)))) J<|U J<|U J<|U J<|O (.d (G (w64 (c + k)))) J ?_
 obtain ⟨n,aw,a⟩:=q8 a
 refine qr aw J J<|Q2 (.d (.agg [G n.at_,G n.list_,G n.by_])) aw J<|U J<|U J<|U J<|O (.d (G (w64 (c + b.1)))) J ?_
 obtain ⟨o,ax,a⟩:=q8 a
 refine qr ax J J<|Q2 (.d (.agg [G o.at_,G o.list_,G o.by_])) ax J ?_
 obtain ⟨bh,ay,a⟩:=q8 a
 refine qr ay J J<|Qt (ds:=[G n.at_,G n.list_,G n.by_]) n ay J J J J J J J J (leb J) J ?_
 obtain ⟨bi,az,a⟩:=q8 a
 refine qr az qd J<|Qt (ds:=[G o.at_,G o.list_,G o.by_]) o az J J J J J J J J (leb J) J<|q9<|qu<|U J<|qa J<|qs<|Qc<|Q9 ?_
 exact ⟨_,(Option.some.inj a).symm,wkE [] [] [] J ⟨⟨_,J,Qx qd J qy (ltd J)⟩,ql J,ql J,ql J,ql J,trivial⟩ ⟨Qm J J,trivial⟩⟩
theorem qv1 (l : qj→qj→Option Int) (q1F : FuncId) (q1C : List DV) (q1Ok : ∀ (o : qj) (p : qj) (r : Int),l o p = some r→Pure Tryz.prog tab q1F ([.agg [G o.at_,G o.list_,G o.by_],.agg [G p.at_,G p.list_,G p.by_]] ++ q1C) (G r)) (q : List qj) (a : Int) (c : Int) (r : List qj) (m : q8k l q a c = some r) : K0 Tryz.prog tab 176 [.hs 0 3 0 q.length,q7 a,q7 c,.d (.fn q1F q1C)] [(0,.dat 3 (q.map Q5))] 1 (.d (.tup [])) [(0,.dat 3 (r.map Q5))] 1:=by
 unfold q8k at m
 refine Kf Tryz.func176 J qi qi J<|qb<|U J<|qa J<|qt<|qa J<|qt<|U J<|U J<|O (.d (G (w64 (c - a)))) J<|qa J<|q9<|qf<|qb<|U J<|O (.d (G (w64 ((w64 (c - a)) - 1)))) J<|O (.d (G (w64 (Int.tdiv (w64 ((w64 (c - a)) - 1)) 2)))) J<|qa J<|q9 ?_
 obtain ⟨t,z,m⟩:=q8 m
 refine Qe (fun n=>n = t) (fun (n : List qj)=>⟨[(0,.hs 0 3 0 n.length),(3,.d (.fn q1F q1C)),(8,q7 a),(9,q7 0),(10,.d (G (w64 (c - a))))],[(0,.dat 3 (n.map Q5))],1⟩) qd ?_ ?_
 ·refine Q8 (q8l l c a) (fun (g : Int × List qj)=>⟨[(0,.hs 0 3 0 g.2.length),(3,.d (.fn q1F q1C)),(8,q7 a),(9,q7 0),(10,.d (G (w64 (c - a)))),(11,q7 g.1)],[(0,.dat 3 (g.2.map Q5))],1⟩) (w64 (Int.tdiv (w64 ((w64 (c - a)) - 1)) 2),q) t z (wkA [] [] []) ?_
  intro g ai h
  unfold q8l at h
  refine qf<|qb<|U J<|O (.d (.bool (decide (g.1 ≥ 0)))) J<|q9 ?_
  refine qo J h (fun _ h=>?_) (fun _ h=>?_)
  ·refine qn<|qf<|Q0<|qu<|U J<|U J<|U J<|U J<|U J ?_
   obtain ⟨u,aa,h⟩:=q8 h
   obtain ⟨aj,ab,h⟩:=q8 h
   have ac:=Kj ab
   refine K6 [(0,0)] [(0,0)] [.hs 0 3 0 g.2.length,q7 g.1,.d (G (w64 (c - a))),q7 a,.d (.fn q1F q1C)] (.d (.tup [])) 1 [(0,.dat 3 (u.map Q5))] 1 (qkg l q1F q1C q1Ok g.2 g.1 (w64 (c - a)) a u aa)<|qs<|Qc<|qu<|U J<|O (.d (G (w64 (g.1 - 1)))) J<|qa J<|qs ?_
   exact ⟨_,(Option.some.inj h).symm,wkE [] [] [] J ⟨⟨_,J,Qx (by simp [ac]) J qy (ltd J)⟩,ql J,ql J,ql J,ql J,ql J,trivial⟩ ⟨Qm J J,trivial⟩⟩
  refine Q3 ?_
  refine ⟨_,(Option.some.inj h).symm,fun hm=>?_⟩
  subst hm
  exact ⟨_,J,wkA [] [] []⟩
 intro n hb
 subst hb
 refine qb<|U J<|O (.d (G (w64 ((w64 (c - a)) - 1)))) J<|qa J<|q9 ?_
 obtain ⟨ad,ae,m⟩:=q8 m
 refine Q0<|Q8 (q8m a l) (fun (f : Int × List qj)=>⟨[(0,.hs 0 3 0 f.2.length),(3,.d (.fn q1F q1C)),(8,q7 a),(9,q7 0),(12,q7 f.1)],[(0,.dat 3 (f.2.map Q5))],1⟩) (w64 ((w64 (c - a)) - 1),n) ad ae (wkA [] [] []) ?_
 intro f ak b
 unfold q8m at b
 refine qf<|qb<|U J<|O (.d (.bool (decide (f.1 ≥ 0)))) J<|q9 ?_
 refine qo J b (fun _ b=>?_) (fun _ b=>?_)
 ·refine qn<|qf<|Q0<|qf<|Q7 [Qk 0,q0,Qk 0,q0,qq 0,q0,q0,q0,qq 0,q0,q0,q0,q0,q0,q0,q0,q0,q0,q0,q0] qi<|U J<|U J<|U J<|U J<|U J<|O (.d (G (w64 (a + f.1)))) J<|U J<|U J<|U J<|O (.d (G (w64 (a + f.1)))) J ?_
  obtain ⟨j,v,b⟩:=q8 b
  refine qr v J J<|Q2 (.d (.agg [G j.at_,G j.list_,G j.by_])) v J<|U J<|U J ?_
  obtain ⟨k,w,b⟩:=q8 b
  refine qr w J J<|Q2 (.d (.agg [G k.at_,G k.list_,G k.by_])) w J ?_
  obtain ⟨al,x,b⟩:=q8 b
  refine qr x J J<|Qt (ds:=[G j.at_,G j.list_,G j.by_]) j x J J J J J J J J (leb J) J ?_
  obtain ⟨am,y,b⟩:=q8 b
  refine qr y qd J<|Qt (ds:=[G k.at_,G k.list_,G k.by_]) k y J J J J J J J J (leb J) J<|q9<|qu<|U J<|U J<|U J<|U J<|U J ?_
  obtain ⟨s,af,b⟩:=q8 b
  obtain ⟨an,ag,b⟩:=q8 b
  have ah:=Kj ag
  refine U7 [(0,0)] [(0,0)] [.hs 0 3 0 f.2.length,q7 0,q7 f.1,q7 a,.d (.fn q1F q1C)] (.d (.tup [])) [(0,.dat 3 (s.map Q5))] [(0,.dat 3 (s.map Q5))] 1 (qkg l q1F q1C q1Ok ((f.2.set a.toNat j).set (w64 (a + f.1)).toNat k) 0 f.1 a s af) J J J (Yh [(0,0)] [] [] J ⟨⟨_,J,Qx qd J qy (ltd J)⟩,ql J,ql J,ql J,ql J,trivial⟩ ⟨Qm J J,trivial⟩) (Yh [(0,0)] [] [] J ⟨ql J,trivial⟩ ⟨Qm J J,trivial⟩) J ⟨.inl J,trivial⟩<|qs<|Qc<|qu<|U J<|O (.d (G (w64 (f.1 - 1)))) J<|qa J<|qs ?_
  exact ⟨_,(Option.some.inj b).symm,wkE [] [] [] J ⟨⟨_,J,Qx (by simp [ah]) J qy (ltd J)⟩,ql J,ql J,ql J,ql J,trivial⟩ ⟨Qm J J,trivial⟩⟩
 refine Q3 ?_
 refine ⟨_,(Option.some.inj b).symm,fun hm=>?_⟩
 subst hm
 obtain rfl:=qe m
 exact ⟨.inl J,_,J,wkA [] [] []⟩
theorem qet (j : qj→qj→Option Int) (q1F : FuncId) (q1C : List DV) (q1Ok : ∀ (g : qj) (h : qj) (r : Int),j g h = some r→Pure Tryz.prog tab q1F ([.agg [G g.at_,G g.list_,G g.by_],.agg [G h.at_,G h.list_,G h.by_]] ++ q1C) (G r)) (k : List qj) (l : Int) (m : Int) (f : Int) (r : Int × Int × Int) (a : q3j j k l m f = some r) : K0 Tryz.prog tab 186 [.d (.sl 3 (k.map Q5)),q7 l,q7 m,.ref 0 1 0 0,.d (.fn q1F q1C)] [(0,.dat 1 [[G f]])] 1 (.d (.tup [G r.1,G r.2.1])) [(0,.dat 1 [[G r.2.2]])] 1:=by
 unfold q3j at a
 refine Kf Tryz.func186 J qi qi J<|qb<|qa J<|qa J<|q9<|qf<|qf<|Q7 [q0,q0,q0,q0,q0,q0,q0,q0,q0,q0,q0] qi<|U J<|U J<|U J ?_
 obtain ⟨b,o,a⟩:=q8 a
 refine Q4 (enc:=Q5) o J<|O (.d (.agg [G b.at_,G b.list_,G b.by_])) J<|U J<|U J ?_
 obtain ⟨c,p,a⟩:=q8 a
 refine Q4 (enc:=Q5) p J<|O (.d (.agg [G c.at_,G c.list_,G c.by_])) J ?_
 obtain ⟨n,q,a⟩:=q8 a
 refine Yd [.d (.agg [G b.at_,G b.list_,G b.by_]),.d (.agg [G c.at_,G c.list_,G c.by_])] (q1Ok b c n q) J J J (.inl J)<|O (.d (.bool (decide (n < 0)))) J<|q9 ?_
 refine qo J a (fun _ a=>?_) (fun _ a=>?_)
 ·refine qb<|U J<|O (.ref 0 1 0 0) J<|O (q7 f) J<|O (.d (G (w64 (f + 1)))) J<|O (.ref 0 1 0 0) J<|Qp 0 (.dat 1 [[G (w64 (f + 1))]]) J<|qt<|U J<|U J<|qa J<|qa J<|qp ?_
  obtain rfl:=qe a
  exact ⟨.inr J,_,J,wkA [] [] []⟩
 refine qn<|qb<|U J<|U J<|qa J<|qa J<|qp ?_
 obtain rfl:=qe a
 exact ⟨.inr J,_,J,wkA [] [] []⟩
theorem qkd (h : qj→qj→Option Int) (q1F : FuncId) (q1C : List DV) (q1Ok : ∀ (j : qj) (k : qj) (r : Int),h j k = some r→Pure Tryz.prog tab q1F ([.agg [G j.at_,G j.list_,G j.by_],.agg [G k.at_,G k.list_,G k.by_]] ++ q1C) (G r)) (c : List qj) (l : Int) (m : Int) (n : Int) (o : Int) (r : Int × Int) (f : q5q h c l m n o = some r) : K0 Tryz.prog tab 185 [.d (.sl 3 (c.map Q5)),q7 l,q7 m,q7 n,.ref 0 1 0 0,.d (.fn q1F q1C)] [(0,.dat 1 [[G o]])] 1 (q7 r.1) [(0,.dat 1 [[G r.2]])] 1:=by
 unfold q5q at f
 refine Kf Tryz.func185 J qi qi J<|qb<|qa J<|qt<|U J<|U J<|U J<|U J<|U J ?_
 obtain ⟨a,p,f⟩:=q8 f
 refine K6 [(0,0)] [(0,0)] [.d (.sl 3 (c.map Q5)),q7 l,q7 m,.ref 0 1 0 0,.d (.fn q1F q1C)] (.d (.tup [G a.1,G a.2.1])) 1 [(0,.dat 1 [[G a.2.2]])] 1 (qet h q1F q1C q1Ok c l m o a p)<|U J<|O (q7 a.1) J<|O (q7 a.2.1) J<|qa J<|qa J<|qt<|U J<|U J<|U J<|U J<|U J ?_
 obtain ⟨b,q,f⟩:=q8 f
 refine K6 [(0,0)] [(0,0)] [.d (.sl 3 (c.map Q5)),q7 a.2.1,q7 n,.ref 0 1 0 0,.d (.fn q1F q1C)] (.d (.tup [G b.1,G b.2.1])) 1 [(0,.dat 1 [[G b.2.2]])] 1 (qet h q1F q1C q1Ok c a.2.1 n a.2.2 b q)<|U J<|O (q7 b.1) J<|O (q7 b.2.1) J<|qa J<|qa J<|qt<|U J<|U J<|U J<|U J<|U J ?_
 obtain ⟨g,s,f⟩:=q8 f
 refine K6 [(0,0)] [(0,0)] [.d (.sl 3 (c.map Q5)),q7 a.1,q7 b.1,.ref 0 1 0 0,.d (.fn q1F q1C)] (.d (.tup [G g.1,G g.2.1])) 1 [(0,.dat 1 [[G g.2.2]])] 1 (qet h q1F q1C q1Ok c a.1 b.1 b.2.2 g s)<|U J<|O (q7 g.1) J<|O (q7 g.2.1) J<|qa J<|qa J<|qt<|U J<|qa J<|qp ?_
 obtain rfl:=qe f
 exact ⟨.inr J,_,J,wkA [] [] []⟩
theorem qer (h : qj→qj→Option Int) (q1F : FuncId) (q1C : List DV) (q1Ok : ∀ (b : qj) (c : qj) (r : Int),h b c = some r→Pure Tryz.prog tab q1F ([.agg [G b.at_,G b.list_,G b.by_],.agg [G c.at_,G c.list_,G c.by_]] ++ q1C) (G r)) (f : List qj) (a : Int) (j : Int) (r : Int × Int) (g : q3h h f a j = some r) : K0 Tryz.prog tab 184 [.d (.sl 3 (f.map Q5)),q7 a,.ref 0 1 0 0,.d (.fn q1F q1C)] [(0,.dat 1 [[G j]])] 1 (q7 r.1) [(0,.dat 1 [[G r.2]])] 1:=by
 unfold q3h at g
 refine Kf Tryz.func184 J qi qi J<|qb<|qa J<|qt<|U J<|U J<|O (.d (G (w64 (a - 1)))) J<|U J<|U J<|O (.d (G (w64 (a + 1)))) J<|U J<|U J ?_
 obtain ⟨k,l,g⟩:=q8 g
 refine K6 [(0,0)] [(0,0)] [.d (.sl 3 (f.map Q5)),.d (G (w64 (a - 1))),q7 a,.d (G (w64 (a + 1))),.ref 0 1 0 0,.d (.fn q1F q1C)] (q7 k.1) 1 [(0,.dat 1 [[G k.2]])] 1 (qkd h q1F q1C q1Ok f (w64 (a - 1)) a (w64 (a + 1)) j k l)<|qa J<|qp ?_
 obtain rfl:=qe g
 exact ⟨.inr J,_,J,wkA [] [] []⟩
end Go.Proofs.YtbknppciefodiaaGreat
