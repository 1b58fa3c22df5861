/- W_Alla -/
import Derived.Test.YtlchefooafpdlaaGreatK14
namespace Go.Proofs.YtlchefooafpdlaaGreat
open Go Go.Am Go.Sh
set_option maxHeartbeats 8000000
set_option maxRecDepth 100000
theorem qdy (a : Int) (b : Int) (c : Int) (f : Int) (r : List ql) (g : q2g a b c f = some r) : Pure Tryz.prog tab 10 [G a,G b,G c,G f] (.sl 4 (r.map qu)):=by
 unfold q2g at g
 refine Qi Tryz.func10 J qj qj J<|qc<|qb J<|qs<|q0 J<|q0 J<|q0 J<|q0 J<|O (.d (.agg [G a,G b,G c,G f])) J<|Ql (.hs 0 4 0 [({X0:=a,Y0:=b,X1:=c,Y1:=f} : ql)].length) (.dat 4 ([({X0:=a,Y0:=b,X1:=c,Y1:=f} : ql)].map qu)) J<|qb J<|qv ?_
 obtain rfl:=qe g
 exact finD (.inr J) (v:=.hs 0 4 0 [({X0:=a,Y0:=b,X1:=c,Y1:=f} : ql)].length) J (Jb J J) (.refl _)
theorem qw2 (c : List ql) (j : ql→Option Bool) (p1F : FuncId) (p1C : List DV) (p1Ok : ∀ (f : ql) (r : Bool),j f = some r→Pure Tryz.prog tab p1F ([.agg [G f.X0,G f.Y0,G f.X1,G f.Y1]] ++ p1C) (.bool r)) (r : Int) (g : qbs c j = some r) : Pure Tryz.prog tab 118 [.sl 4 (c.map qu),.fn p1F p1C] (G r):=by
 unfold qbs at g
 refine Qi Tryz.func118 J qj qj J<|qc<|qb J<|qa<|qh<|qc<|q0 J<|Qy J<|q0 J<|qa ?_
 obtain ⟨l,m,g⟩:=q9 g
 refine Qm (fun k=>.inl k = l) (fun (k : Unit)=>⟨[],[],0⟩) qf ?_ ?_
 ·refine Qf (q3o c j) (fun (h : Int)=>⟨[(0,.d (.sl 4 (c.map qu))),(1,.d (.fn p1F p1C)),(7,q6 (c.length : Int)),(8,q6 h)],[],0⟩) 0 l m (wkA [] [] []) ?_
  intro h q a
  unfold q3o at a
  refine qc<|O (.d (.bool (decide (h < (c.length : Int))))) J<|qa<|qh ?_
  refine qp J a (fun _ a=>?_) (fun _ a=>?_)
  ·refine qo<|qh<|Q1<|qc<|q0 J<|qb J<|qs<|q0 J<|q0 J<|q0 J ?_
   obtain ⟨b,n,a⟩:=q9 a
   refine Qz (enc:=qu) n J<|O (.d (.agg [G b.X0,G b.Y0,G b.X1,G b.Y1])) J ?_
   obtain ⟨o,p,a⟩:=q9 a
   refine Yf [.d (.agg [G b.X0,G b.Y0,G b.X1,G b.Y1])] (p1Ok b o p) J J J (.inl J)<|qa ?_
   refine qp J a (fun _ a=>?_) (fun _ a=>?_)
   ·refine qc<|q0 J<|qb J<|qv ?_
    refine ⟨_,(Option.some.inj a).symm,fun hm=>?_⟩
    subst hm
    obtain rfl:=qe g
    exact Q4 (q6 h) J
   refine qo<|Qc<|Qj<|qy<|O (.d (G (w64 (h + 1)))) J<|q0 J<|qx ?_
   exact ⟨_,(Option.some.inj a).symm,wkA [] [] []⟩
  refine Qb ?_
  refine ⟨_,(Option.some.inj a).symm,fun hm=>?_⟩
  subst hm
  exact ⟨_,J,wkA [] [] []⟩
 intro k hb
 subst hb
 refine qc<|qb J<|qv ?_
 obtain rfl:=qe g
 exact Q4 (q6 (-1)) J
theorem qvv (c : List ql) (f : ql→Option Bool) (p1F : FuncId) (p1C : List DV) (p1Ok : ∀ (a : ql) (r : Bool),f a = some r→Pure Tryz.prog tab p1F ([.agg [G a.X0,G a.Y0,G a.X1,G a.Y1]] ++ p1C) (.bool r)) (r : Bool) (b : q8e c f = some r) : Pure Tryz.prog tab 74 [.sl 4 (c.map qu),.fn p1F p1C] (.bool r):=by
 unfold q8e at b
 refine Qi Tryz.func74 J qj qj J<|qc<|qb J<|qs<|q0 J<|q0 J ?_
 obtain ⟨g,h,b⟩:=q9 b
 refine Q5 (qw2 c f p1F p1C p1Ok g h) J<|O (.d (.bool (decide (g ≥ 0)))) J<|qb J<|qv ?_
 obtain rfl:=qe b
 exact Q4 (.d (.bool (decide (g ≥ 0)))) J
theorem qbe (a : Int) (r : Bool) (c : q2n a = some r) : Pure Tryz.prog tab 136 [G a] (.bool r):=by
 unfold q2n at c
 refine Qi Tryz.func136 J qj qj J<|qc<|qb J<|qs<|q0 J<|O (.d (.bool (decide (a ≥ (-1000000))))) J ?_
 obtain ⟨f,b,c⟩:=q9 c
 refine Q9 4 (fun A st=>∃ (g h j : V),st = A [(8,qg f),(7,j),(6,h),(5,g)]) ?_ ?_
 ·refine Q8 J J b (fun b=>?_) (fun b=>?_)
  ·refine q0 J<|O (.d (.bool (decide (a≤1000000)))) J<|O (.d (.bool (decide (a≤1000000)))) J<|qa ?_
   obtain rfl:=qe b
   exact ⟨_,_,_,J⟩
  refine qd J<|qd J<|O (qg false) J<|qa ?_
  obtain rfl:=qe b
  exact ⟨_,_,_,J⟩
 rintro _ ⟨g,h,j,rfl⟩
 refine qb J<|qv ?_
 obtain rfl:=qe c
 exact Q4 (qg f) J
theorem ql0 (a : ql) (r : Bool) (b : q5j a = some r) : Pure Tryz.prog tab 95 [.agg [G a.X0,G a.Y0,G a.X1,G a.Y1]] (.bool r):=by
 unfold q5j at b
 refine Qi Tryz.func95 J qj qj J<|qc<|Ql (.ref 0 4 0 0) (.dat 4 [[G a.X0,G a.Y0,G a.X1,G a.Y1]]) J<|qb J<|qs<|O (.ref 0 4 0 0) J<|O (q6 a.X0) J<|O (.ref 0 4 0 2) J<|O (q6 a.X1) J<|O (.d (.bool (decide (a.X0 < a.X1)))) J ?_
 obtain ⟨c1,j,b⟩:=q9 b
 refine Q9 7 (fun A st=>∃ (k l m n o p : V),st = A [(14,qg c1),(13,p),(12,o),(11,n),(10,m),(9,l),(8,k)]) ?_ ?_
 ·refine Q8 J J j (fun j=>?_) (fun j=>?_)
  ·refine O (.ref 0 4 0 1) J<|O (q6 a.Y0) J<|O (.ref 0 4 0 3) J<|O (q6 a.Y1) J<|O (.d (.bool (decide (a.Y0 < a.Y1)))) J<|O (.d (.bool (decide (a.Y0 < a.Y1)))) J<|qa ?_
   obtain rfl:=qe j
   exact ⟨_,_,_,_,_,_,J⟩
  refine qd J<|qd J<|qd J<|qd J<|qd J<|O (qg false) J<|qa ?_
  obtain rfl:=qe j
  exact ⟨_,_,_,_,_,_,J⟩
 rintro _ ⟨k,l,m,n,o,p,rfl⟩
 obtain ⟨an,c,b⟩:=q9 b
 refine Q9 5 (fun A st=>∃ (q s t u : V),st = A [(19,qg an),(18,u),(17,t),(16,s),(15,q)]) ?_ ?_
 ·refine Q8 J J c (fun c=>?_) (fun c=>?_)
  ·refine O (.ref 0 4 0 0) J<|O (q6 a.X0) J ?_
   obtain ⟨v,ao,c⟩:=q9 c
   refine Q5 (qbe a.X0 v ao) J<|O (qg v) J<|qa ?_
   obtain rfl:=qe c
   exact ⟨_,_,_,_,J⟩
  refine qd J<|qd J<|qd J<|O (qg false) J<|qa ?_
  obtain rfl:=qe c
  exact ⟨_,_,_,_,J⟩
 rintro _ ⟨q,s,t,u,rfl⟩
 obtain ⟨ap,f,b⟩:=q9 b
 refine Q9 5 (fun A st=>∃ (w x y z : V),st = A [(24,qg ap),(23,z),(22,y),(21,x),(20,w)]) ?_ ?_
 ·refine Q8 J J f (fun f=>?_) (fun f=>?_)
  ·refine O (.ref 0 4 0 2) J<|O (q6 a.X1) J ?_
   obtain ⟨aa,aq,f⟩:=q9 f
   refine Q5 (qbe a.X1 aa aq) J<|O (qg aa) J<|qa ?_
   obtain rfl:=qe f
   exact ⟨_,_,_,_,J⟩
  refine qd J<|qd J<|qd J<|O (qg false) J<|qa ?_
  obtain rfl:=qe f
  exact ⟨_,_,_,_,J⟩
 rintro _ ⟨w,x,y,z,rfl⟩
 obtain ⟨ar,g,b⟩:=q9 b
 refine Q9 5 (fun A st=>∃ (ab ac ad ae : V),st = A [(29,qg ar),(28,ae),(27,ad),(26,ac),(25,ab)]) ?_ ?_
 ·refine Q8 J J g (fun g=>?_) (fun g=>?_)
  ·refine O (.ref 0 4 0 1) J<|O (q6 a.Y0) J ?_
   obtain ⟨af,au,g⟩:=q9 g
   refine Q5 (qbe a.Y0 af au) J<|O (qg af) J<|qa ?_
   obtain rfl:=qe g
   exact ⟨_,_,_,_,J⟩
  refine qd J<|qd J<|qd J<|O (qg false) J<|qa ?_
  obtain rfl:=qe g
  exact ⟨_,_,_,_,J⟩
 rintro _ ⟨ab,ac,ad,ae,rfl⟩
 obtain ⟨ag,h,b⟩:=q9 b
 refine Q9 5 (fun A st=>∃ (ah ai aj ak : V),st = A [(34,qg ag),(33,ak),(32,aj),(31,ai),(30,ah)]) ?_ ?_
 ·refine Q8 J J h (fun h=>?_) (fun h=>?_)
  ·refine O (.ref 0 4 0 3) J<|O (q6 a.Y1) J ?_
   obtain ⟨al,av,h⟩:=q9 h
   refine Q5 (qbe a.Y1 al av) J<|O (qg al) J<|qa ?_
   obtain rfl:=qe h
   exact ⟨_,_,_,_,J⟩
  refine qd J<|qd J<|qd J<|O (qg false) J<|qa ?_
  obtain rfl:=qe h
  exact ⟨_,_,_,_,J⟩
 rintro _ ⟨ah,ai,aj,ak,rfl⟩
 refine qb J<|qv ?_
 obtain rfl:=qe b
 exact Q4 (qg ag) J
theorem qtq (a : ql) (r : Bool) (b : q2l a = some r) : Pure Tryz.prog tab 94 [.agg [G a.X0,G a.Y0,G a.X1,G a.Y1]] (.bool r):=by
 unfold q2l at b
 refine Qi Tryz.func94 J qj qj J<|qc<|Ql (.ref 0 4 0 0) (.dat 4 [[G a.X0,G a.Y0,G a.X1,G a.Y1]]) J<|qb J<|qs<|O (.d (.agg [G a.X0,G a.Y0,G a.X1,G a.Y1])) J ?_
 obtain ⟨c,f,b⟩:=q9 b
 refine Q5 (ql0 a c f) J<|O (qg (!c)) J<|qb J<|qv ?_
 obtain rfl:=qe b
 exact Q4 (qg (!c)) J
theorem qrb (k : Int) (r : Int) (a : q2h k = some r) : Pure Tryz.prog tab 185 [.int .u64 k] (G r):=by
 unfold q2h at a
 refine Qi Tryz.func185 J qj qj J<|qc<|qb J<|qa<|qh<|qc<|q0 J<|O (.d (.bool (decide (k ≥ 4294967296)))) J<|qa ?_
 obtain ⟨m,g,a⟩:=q9 a
 refine Yi (fun b=>b = m) (fun (b : Int × Int)=>⟨[(0,.d (.int .u64 b.1)),(2,q6 b.2)],[],0⟩) qf ?_ ?_
 ·refine qp J g (fun _ g=>?_) (fun _ g=>?_)
  ·refine qc<|q0 J<|O (.d (.int .u64 (Int.fdiv k (2 ^ 32)))) J<|qb J<|qa<|qy<|qb J<|qx ?_
   obtain rfl:=qe g
   exact ⟨_,J,wkA [] [] []⟩
  refine qo<|Qc ?_
  obtain rfl:=qe g
  exact ⟨_,J,wkA [] [] []⟩
 intro b hb
 subst hb
 refine qh<|qc<|q0 J<|O (.d (.bool (decide (b.1 ≥ 65536)))) J<|qa ?_
 obtain ⟨n,h,a⟩:=q9 a
 refine Yi (fun c=>c = n) (fun (c : Int × Int)=>⟨[(0,.d (.int .u64 c.1)),(2,q6 c.2)],[],0⟩) qf ?_ ?_
 ·refine qp J h (fun _ h=>?_) (fun _ h=>?_)
  ·refine qc<|q0 J<|O (.d (.int .u64 (Int.fdiv b.1 (2 ^ 16)))) J<|qb J<|qa<|qy<|q0 J<|O (.d (G (w64 (b.2 + 16)))) J<|qb J<|qx ?_
   obtain rfl:=qe h
   exact ⟨_,J,wkA [] [] []⟩
  refine qo<|Qc ?_
  obtain rfl:=qe h
  exact ⟨_,J,wkA [] [] []⟩
 intro c hb
 subst hb
 refine qh<|qc<|q0 J<|O (.d (.bool (decide (c.1 ≥ 256)))) J<|qa ?_
 obtain ⟨o,j,a⟩:=q9 a
 refine Yi (fun f=>f = o) (fun (f : Int × Int)=>⟨[(0,.d (.int .u64 f.1)),(2,q6 f.2)],[],0⟩) qf ?_ ?_
 ·refine qp J j (fun _ j=>?_) (fun _ j=>?_)
  ·refine qc<|q0 J<|O (.d (.int .u64 (Int.fdiv c.1 (2 ^ 8)))) J<|qb J<|qa<|qy<|q0 J<|O (.d (G (w64 (c.2 + 8)))) J<|qb J<|qx ?_
   obtain rfl:=qe j
   exact ⟨_,J,wkA [] [] []⟩
  refine qo<|Qc ?_
  obtain rfl:=qe j
  exact ⟨_,J,wkA [] [] []⟩
 intro f hb
 subst hb
 refine qc<|q0 J<|q0 J<|O (.d (.int .u8 (IntKind.wrap .u8 f.1))) J ?_
 obtain ⟨l,p,a⟩:=q9 a
 refine qrx qc8 p J J J J J<|O (q6 (w64 l)) J<|O (.d (G (w64 (f.2 + (w64 l))))) J<|qb J<|qv ?_
 obtain rfl:=qe a
 exact Q4 (.d (G (w64 (f.2 + (w64 l))))) J
theorem qe3 (b : Int) (r : Int) (a : Uk b = some r) : Pure Tryz.prog tab 165 [.int .u64 b] (G r):=by
 unfold Uk at a
 refine Qi Tryz.func165 J qj qj J<|qc<|qb J<|qa<|qh<|Z6 J<|qo<|qc<|q0 J ?_
 obtain ⟨c,d,a⟩:=q9 a
 refine Q5 (qrb b c d) J<|qb J<|qv ?_
 obtain rfl:=qe a
 exact Q4 (q6 c) J
theorem qgz (a : Int) (r : Bool) (b : q74 a = some r) : Pure Tryz.prog tab 194 [G a] (.bool r):=by
 unfold q74 at b
 refine Qi Tryz.func194 J qj qj J<|qc<|qb J<|qs<|q0 J<|q0 J<|O (qg (a != a)) J<|qb J<|qv ?_
 obtain rfl:=qe b
 exact Q4 (qg (a != a)) J
theorem Zm (c : Int) (f : Int) (r : Bool) (a : Yv c f = some r) : Pure Tryz.prog tab 181 [G c,G f] (.bool r):=by
 unfold Yv at a
 refine Qi Tryz.func181 J qj qj J<|qc<|qb J<|qs<|q0 J ?_
 obtain ⟨t,u,a⟩:=q9 a
 refine Q5 (qgz c t u) J ?_
 obtain ⟨v,b,a⟩:=q9 a
 refine Q9 5 (fun A st=>∃ (j k l m : V),st = A [(11,qg v),(10,m),(9,l),(8,k),(7,j)]) ?_ ?_
 ·refine Q8 J J b (fun b=>?_) (fun b=>?_)
  ·refine q0 J ?_
   obtain ⟨h,w,b⟩:=q9 b
   refine Q5 (qgz f h w) J<|O (qg (!h)) J<|O (qg (!h)) J<|qa ?_
   obtain rfl:=qe b
   exact ⟨_,_,_,_,J⟩
  refine qd J<|qd J<|qd J<|O (qg false) J<|qa ?_
  obtain rfl:=qe b
  exact ⟨_,_,_,_,J⟩
 rintro _ ⟨j,k,l,m,rfl⟩
 obtain ⟨n,g,a⟩:=q9 a
 refine Q9 5 (fun A st=>∃ (o p q s : V),st = A [(16,qg n),(15,s),(14,q),(13,p),(12,o)]) ?_ ?_
 ·refine Q8 J J g (fun g=>?_) (fun g=>?_)
  ·refine qd J<|qd J<|qd J<|O (qg true) J<|qa ?_
   obtain rfl:=qe g
   exact ⟨_,_,_,_,J⟩
  refine q0 J<|q0 J<|O (.d (.bool (decide (c < f)))) J<|O (.d (.bool (decide (c < f)))) J<|qa ?_
  obtain rfl:=qe g
  exact ⟨_,_,_,_,J⟩
 rintro _ ⟨o,p,q,s,rfl⟩
 refine qb J<|qv ?_
 obtain rfl:=qe a
 exact Q4 (qg n) J
theorem qwf (l : List Int) (c : Int) (j : Int) (r : List Int) (m : q5v  l c j = some r) : K0 Tryz.prog tab 175 [.hs 0 1 0 l.length,q6 c,q6 j] [(0,.dat 1 (l.map (eI .i64)))] 1 (.d (.tup [])) [(0,.dat 1 (r.map (eI .i64)))] 1:=by
 unfold q5v at m
 refine Ka Tryz.func175 J qj qj J<|qc<|q0 J<|O (.d (G (w64 (c + 1)))) J<|qb J<|qa ?_
 obtain ⟨al,am,m⟩:=q9 m
 refine Q1<|Qf (q5w j c) (fun (f : Int × List Int)=>⟨[(0,.hs 0 1 0 f.2.length),(1,q6 c),(2,q6 j),(6,q6 f.1)],[(0,.dat 1 (f.2.map (eI .i64)))],1⟩) (w64 (c + 1),l) al am (wkA [] [] []) ?_
 intro f au h
 unfold q5w at h
 refine qh<|qc<|q0 J<|q0 J<|O (.d (.bool (decide (f.1 < j)))) J<|qa ?_
 refine qp J h (fun _ h=>?_) (fun _ h=>?_)
 ·refine qo<|qh ?_
  obtain ⟨an,n,h⟩:=q9 h
  refine Qm (fun k=>k = an) (fun (k : List Int)=>⟨[(0,.hs 0 1 0 k.length),(1,q6 c),(2,q6 j),(6,q6 f.1)],[(0,.dat 1 (k.map (eI .i64)))],1⟩) qf ?_ ?_
  ·refine qc<|q0 J<|qb J<|qa ?_
   obtain ⟨ao,ap,n⟩:=q9 n
   refine Q1<|Qf (q5x c) (fun (g : Int × List Int)=>⟨[(0,.hs 0 1 0 g.2.length),(1,q6 c),(2,q6 j),(6,q6 f.1),(7,q6 g.1)],[(0,.dat 1 (g.2.map (eI .i64)))],1⟩) (f.1,f.2) ao ap (wkA [] [] []) ?_
   intro g av a
   unfold q5x at a
   refine qh<|qh<|Qd [q8,q8,qr 0,q8,q8,q8,q8,qr 0,q8,q8,q8,q8,q8,q8,q8] qj<|q0 J<|q0 J<|O (.d (.bool (decide (g.1 > c)))) J ?_
   obtain ⟨aq,b,a⟩:=q9 a
   refine Q9 12 (fun A st=>∃ (q s t u v w x y z aa ab : V),st = A [(30,qg aq),(29,ab),(28,aa),(27,z),(26,y),(25,x),(24,w),(23,v),(22,u),(21,t),(20,s),(19,q)]) ?_ ?_
   ·refine Q8 J J b (fun b=>?_) (fun b=>?_)
    ·refine q0 J<|q0 J ?_
     obtain ⟨ac,ad,b⟩:=q9 b
     refine qw ad J J<|Q7 (q6 ac) ad J<|q0 J<|q0 J<|O (.d (G (w64 (g.1 - 1)))) J ?_
     obtain ⟨ae,af,b⟩:=q9 b
     refine qw af J J<|Q7 (q6 ae) af J ?_
     obtain ⟨ag,ar,b⟩:=q9 b
     refine Q5 (Zm ac ae ag ar) J<|O (qg ag) J<|qa ?_
     obtain rfl:=qe b
     exact ⟨_,_,_,_,_,_,_,_,_,_,_,J⟩
    refine qd J<|qd J<|qd J<|qd J<|qd J<|qd J<|qd J<|qd J<|qd J<|qd J<|O (qg false) J<|qa ?_
    obtain rfl:=qe b
    exact ⟨_,_,_,_,_,_,_,_,_,_,_,J⟩
   rintro _ ⟨q,s,t,u,v,w,x,y,z,aa,ab,rfl⟩
   refine qa ?_
   refine qp J a (fun _ a=>?_) (fun _ a=>?_)
   ·refine qo<|qh<|Q1<|Qd [Qh 0,q8,Qh 0,q8,qr 0,q8,q8,q8,qr 0,q8,q8,q8,q8,q8,q8,q8,q8,q8] qj<|q0 J<|q0 J<|q0 J<|q0 J<|O (.d (G (w64 (g.1 - 1)))) J<|q0 J<|q0 J<|O (.d (G (w64 (g.1 - 1)))) J ?_
    obtain ⟨o,ah,a⟩:=q9 a
    refine qw ah J J<|Q7 (q6 o) ah J<|q0 J<|q0 J ?_
    obtain ⟨p,ai,a⟩:=q9 a
    refine qw ai J J<|Q7 (q6 p) ai J ?_
    obtain ⟨aw,aj,a⟩:=q9 a
    refine qw aj J J<|Qt (ds:=[G o]) o aj J J J J J J J J (leb J) J ?_
    obtain ⟨ax,ak,a⟩:=q9 a
    refine qw ak qf J<|Qt (ds:=[G p]) p ak J J J J J J J J (leb J) J<|qx<|Qj<|qy<|q0 J<|O (.d (G (w64 (g.1 - 1)))) J<|qb J<|qx ?_
    exact ⟨_,(Option.some.inj a).symm,wkE [] [] [] J ⟨⟨_,J,Qx qf J qt (ltd J)⟩,qq J,qq J,qq J,qq J,trivial⟩ ⟨Qg J J,trivial⟩⟩
   refine Qb ?_
   refine ⟨_,(Option.some.inj a).symm,fun hm=>?_⟩
   subst hm
   obtain rfl:=qe n
   exact ⟨_,J,wkA [] [] []⟩
  intro k hb
  subst hb
  refine qy<|q0 J<|O (.d (G (w64 (f.1 + 1)))) J<|qb J<|qx ?_
  exact ⟨_,(Option.some.inj h).symm,wkA [] [] []⟩
 refine Qb ?_
 refine ⟨_,(Option.some.inj h).symm,fun hm=>?_⟩
 subst hm
 obtain rfl:=qe m
 exact ⟨.inl J,_,J,wkA [] [] []⟩
theorem qlo (l : List Int) (m : Int) (g : Int) (c : Int) (r : List Int) (j : q3y  l m g c = some r) : K0 Tryz.prog tab 189 [.hs 0 1 0 l.length,q6 m,q6 g,q6 c] [(0,.dat 1 (l.map (eI .i64)))] 1 (.d (.tup [])) [(0,.dat 1 (r.map (eI .i64)))] 1:=by
 unfold q3y at j
 refine Ka Tryz.func189 J qj qj J<|qc<|q0 J<|qb J<|qa ?_
 obtain ⟨av,aw,j⟩:=q9 j
 refine Q1<|Qf (q6j g c) (fun (b : Int × List Int)=>⟨[(0,.hs 0 1 0 b.2.length),(2,q6 g),(3,q6 c),(8,q6 b.1)],[(0,.dat 1 (b.2.map (eI .i64)))],1⟩) (m,l) av aw (wkA [] [] []) ?_
 intro b bb a
 unfold q6j at a
 refine Q1<|qc<|q0 J<|O (.d (G (w64 (2 * b.1)))) J<|O (.d (G (w64 ((w64 (2 * b.1)) + 1)))) J<|qb J<|qa<|qh<|qc<|q0 J<|q0 J<|O (.d (.bool (decide ((w64 ((w64 (2 * b.1)) + 1)) ≥ g)))) J<|qa ?_
 refine qp J a (fun _ a=>?_) (fun _ a=>?_)
 ·refine Qb ?_
  refine ⟨_,(Option.some.inj a).symm,fun hm=>?_⟩
  subst hm
  obtain rfl:=qe j
  exact ⟨.inl J,_,J,wkA [] [] []⟩
 refine qo<|qh<|qh<|Qd [q8,q8,qr 0,q8,q8,q8,q8,q8,q8,qr 0,q8,q8,q8,q8,q8,q8,q8,q8,q8,q8] qj<|q0 J<|O (.d (G (w64 ((w64 ((w64 (2 * b.1)) + 1)) + 1)))) J<|q0 J<|O (.d (.bool (decide ((w64 ((w64 ((w64 (2 * b.1)) + 1)) + 1)) < g)))) J ?_
 obtain ⟨ax,f,a⟩:=q9 a
 refine Q9 16 (fun A st=>∃ (p q s t u v w x y z aa ab ac ad ae : V),st = A [(36,qg ax),(35,ae),(34,ad),(33,ac),(32,ab),(31,aa),(30,z),(29,y),(28,x),(27,w),(26,v),(25,u),(24,t),(23,s),(22,q),(21,p)]) ?_ ?_
 ·refine Q8 J J f (fun f=>?_) (fun f=>?_)
  ·refine q0 J<|q0 J<|q0 J<|O (.d (G (w64 (c + (w64 ((w64 (2 * b.1)) + 1)))))) J ?_
   obtain ⟨af,ag,f⟩:=q9 f
   refine qw ag J J<|Q7 (q6 af) ag J<|q0 J<|q0 J<|q0 J<|O (.d (G (w64 (c + (w64 ((w64 (2 * b.1)) + 1)))))) J<|O (.d (G (w64 ((w64 (c + (w64 ((w64 (2 * b.1)) + 1)))) + 1)))) J ?_
   obtain ⟨ah,ai,f⟩:=q9 f
   refine qw ai J J<|Q7 (q6 ah) ai J ?_
   obtain ⟨aj,ay,f⟩:=q9 f
   refine Q5 (Zm af ah aj ay) J<|O (qg aj) J<|qa ?_
   obtain rfl:=qe f
   exact ⟨_,_,_,_,_,_,_,_,_,_,_,_,_,_,_,J⟩
  refine qd J<|qd J<|qd J<|qd J<|qd J<|qd J<|qd J<|qd J<|qd J<|qd J<|qd J<|qd J<|qd J<|qd J<|O (qg false) J<|qa ?_
  obtain rfl:=qe f
  exact ⟨_,_,_,_,_,_,_,_,_,_,_,_,_,_,_,J⟩
 rintro _ ⟨p,q,s,t,u,v,w,x,y,z,aa,ab,ac,ad,ae,rfl⟩
 refine qa ?_
 obtain ⟨az,k,a⟩:=q9 a
 refine Yi (fun h=>h = az) (fun (h : Int)=>⟨[(0,.hs 0 1 0 b.2.length),(2,q6 g),(3,q6 c),(8,q6 b.1),(9,q6 h)],[(0,.dat 1 (b.2.map (eI .i64)))],1⟩) qf ?_ ?_
 ·refine qp J k (fun _ k=>?_) (fun _ k=>?_)
  ·refine qy<|q0 J<|O (.d (G (w64 ((w64 ((w64 (2 * b.1)) + 1)) + 1)))) J<|qb J<|qx ?_
   obtain rfl:=qe k
   exact ⟨_,J,wkA [] [] []⟩
  refine qo<|Qc ?_
  obtain rfl:=qe k
  exact ⟨_,J,wkA [] [] []⟩
 intro h hb
 subst hb
 refine qh<|qh<|Qd [q8,q8,qr 0,q8,q8,q8,q8,q8,qr 0,q8,q8,q8,q8,q8] qj<|q0 J<|q0 J<|q0 J<|O (.d (G (w64 (c + b.1)))) J ?_
 obtain ⟨ak,al,a⟩:=q9 a
 refine qw al J J<|Q7 (q6 ak) al J<|q0 J<|q0 J<|q0 J<|O (.d (G (w64 (c + h)))) J ?_
 obtain ⟨am,an,a⟩:=q9 a
 refine qw an J J<|Q7 (q6 am) an J ?_
 obtain ⟨ao,ba,a⟩:=q9 a
 refine Q5 (Zm ak am ao ba) J<|O (qg (!ao)) J<|qa ?_
 refine qp J a (fun _ a=>?_) (fun _ a=>?_)
 ·refine q1h ?_
  refine ⟨_,(Option.some.inj a).symm,fun hm=>?_⟩
  subst hm
  obtain rfl:=qe j
  exact ⟨.inr J,_,J,wkA [] [] []⟩
 refine qo<|qh<|Qd [Qh 0,q8,Qh 0,q8,qr 0,q8,q8,q8,q8,q8,qr 0,q8,q8,q8,q8,q8,q8,q8,q8,q8,q8,q8,q8,q8] qj<|q0 J<|q0 J<|q0 J<|O (.d (G (w64 (c + b.1)))) J<|q0 J<|q0 J<|q0 J<|O (.d (G (w64 (c + h)))) J<|q0 J<|q0 J<|q0 J<|O (.d (G (w64 (c + h)))) J ?_
 obtain ⟨n,ap,a⟩:=q9 a
 refine qw ap J J<|Q7 (q6 n) ap J<|q0 J<|q0 J<|q0 J<|O (.d (G (w64 (c + b.1)))) J ?_
 obtain ⟨o,aq,a⟩:=q9 a
 refine qw aq J J<|Q7 (q6 o) aq J ?_
 obtain ⟨bc,ar,a⟩:=q9 a
 refine qw ar J J<|Qt (ds:=[G n]) n ar J J J J J J J J (leb J) J ?_
 obtain ⟨bd,au,a⟩:=q9 a
 refine qw au qf J<|Qt (ds:=[G o]) o au J J J J J J J J (leb J) J<|qa<|qy<|q0 J<|qb J<|qx<|Qj<|Qc ?_
 exact ⟨_,(Option.some.inj a).symm,wkE [] [] [] J ⟨⟨_,J,Qx qf J qt (ltd J)⟩,qq J,qq J,qq J,trivial⟩ ⟨Qg J J,trivial⟩⟩
theorem qwd (l : List Int) (a : Int) (c : Int) (r : List Int) (j : q5s  l a c = some r) : K0 Tryz.prog tab 176 [.hs 0 1 0 l.length,q6 a,q6 c] [(0,.dat 1 (l.map (eI .i64)))] 1 (.d (.tup [])) [(0,.dat 1 (r.map (eI .i64)))] 1:=by
 unfold q5s at j
 refine Ka Tryz.func176 J qj qj J<|qc<|q0 J<|qb J<|qs<|qb J<|qs<|q0 J<|q0 J<|O (.d (G (w64 (c - a)))) J<|qb J<|qa<|qh<|qc<|q0 J<|O (.d (G (w64 ((w64 (c - a)) - 1)))) J<|O (.d (G (w64 (Int.tdiv (w64 ((w64 (c - a)) - 1)) 2)))) J<|qb J<|qa ?_
 obtain ⟨p,w,j⟩:=q9 j
 refine Qm (fun k=>k = p) (fun (k : List Int)=>⟨[(0,.hs 0 1 0 k.length),(6,q6 a),(7,q6 0),(8,.d (G (w64 (c - a))))],[(0,.dat 1 (k.map (eI .i64)))],1⟩) qf ?_ ?_
 ·refine Qf (q5t c a) (fun (g : Int × List Int)=>⟨[(0,.hs 0 1 0 g.2.length),(6,q6 a),(7,q6 0),(8,.d (G (w64 (c - a)))),(9,q6 g.1)],[(0,.dat 1 (g.2.map (eI .i64)))],1⟩) (w64 (Int.tdiv (w64 ((w64 (c - a)) - 1)) 2),l) p w (wkA [] [] []) ?_
  intro g af h
  unfold q5t at h
  refine qh<|qc<|q0 J<|O (.d (.bool (decide (g.1 ≥ 0)))) J<|qa ?_
  refine qp J h (fun _ h=>?_) (fun _ h=>?_)
  ·refine qo<|qh<|Q1<|qy<|q0 J<|q0 J<|q0 J<|q0 J ?_
   obtain ⟨q,x,h⟩:=q9 h
   obtain ⟨ag,y,h⟩:=q9 h
   have z:=Kd y
   refine K2 [(0,0)] [(0,0)] [.hs 0 1 0 g.2.length,q6 g.1,.d (G (w64 (c - a))),q6 a] (.d (.tup [])) 1 [(0,.dat 1 (q.map (eI .i64)))] 1 (qlo g.2 g.1 (w64 (c - a)) a q x)<|qx<|Qj<|qy<|q0 J<|O (.d (G (w64 (g.1 - 1)))) J<|qb J<|qx ?_
   exact ⟨_,(Option.some.inj h).symm,wkE [] [] [] J ⟨⟨_,J,Qx (by simp [z]) J qt (ltd J)⟩,qq J,qq J,qq J,qq J,trivial⟩ ⟨Qg J J,trivial⟩⟩
  refine Qb ?_
  refine ⟨_,(Option.some.inj h).symm,fun hm=>?_⟩
  subst hm
  exact ⟨_,J,wkA [] [] []⟩
 intro k hb
 subst hb
 refine qc<|q0 J<|O (.d (G (w64 ((w64 (c - a)) - 1)))) J<|qb J<|qa ?_
 obtain ⟨aa,ab,j⟩:=q9 j
 refine Q1<|Qf (q5u a) (fun (f : Int × List Int)=>⟨[(0,.hs 0 1 0 f.2.length),(6,q6 a),(7,q6 0),(10,q6 f.1)],[(0,.dat 1 (f.2.map (eI .i64)))],1⟩) (w64 ((w64 (c - a)) - 1),k) aa ab (wkA [] [] []) ?_
 intro f ah b
 unfold q5u at b
 refine qh<|qc<|q0 J<|O (.d (.bool (decide (f.1 ≥ 0)))) J<|qa ?_
 refine qp J b (fun _ b=>?_) (fun _ b=>?_)
 ·refine qo<|qh<|Q1<|qh<|Qd [Qh 0,q8,Qh 0,q8,qr 0,q8,q8,q8,qr 0,q8,q8,q8,q8,q8,q8,q8,q8,q8,q8,q8] qj<|q0 J<|q0 J<|q0 J<|q0 J<|q0 J<|O (.d (G (w64 (a + f.1)))) J<|q0 J<|q0 J<|q0 J<|O (.d (G (w64 (a + f.1)))) J ?_
  obtain ⟨m,s,b⟩:=q9 b
  refine qw s J J<|Q7 (q6 m) s J<|q0 J<|q0 J ?_
  obtain ⟨n,t,b⟩:=q9 b
  refine qw t J J<|Q7 (q6 n) t J ?_
  obtain ⟨ai,u,b⟩:=q9 b
  refine qw u J J<|Qt (ds:=[G m]) m u J J J J J J J J (leb J) J ?_
  obtain ⟨aj,v,b⟩:=q9 b
  refine qw v qf J<|Qt (ds:=[G n]) n v J J J J J J J J (leb J) J<|qa<|qy<|q0 J<|q0 J<|q0 J<|q0 J ?_
  obtain ⟨o,ac,b⟩:=q9 b
  obtain ⟨ak,ad,b⟩:=q9 b
  have ae:=Kd ad
  refine Jq [(0,0)] [(0,0)] [.hs 0 1 0 f.2.length,q6 0,q6 f.1,q6 a] (.d (.tup [])) [(0,.dat 1 (o.map (eI .i64)))] [(0,.dat 1 (o.map (eI .i64)))] 1 (qlo ((f.2.set a.toNat m).set (w64 (a + f.1)).toNat n) 0 f.1 a o ac) J J J (Y4 [(0,0)] [] [] J ⟨⟨_,J,Qx qf J qt (ltd J)⟩,qq J,qq J,qq J,trivial⟩ ⟨Qg J J,trivial⟩) (Y4 [(0,0)] [] [] J ⟨qq J,trivial⟩ ⟨Qg J J,trivial⟩) J ⟨.inl J,trivial⟩<|qx<|Qj<|qy<|q0 J<|O (.d (G (w64 (f.1 - 1)))) J<|qb J<|qx ?_
  exact ⟨_,(Option.some.inj b).symm,wkE [] [] [] J ⟨⟨_,J,Qx (by simp [ae]) J qt (ltd J)⟩,qq J,qq J,qq J,trivial⟩ ⟨Qg J J,trivial⟩⟩
 refine Qb ?_
 refine ⟨_,(Option.some.inj b).symm,fun hm=>?_⟩
 subst hm
 obtain rfl:=qe j
 exact ⟨.inl J,_,J,wkA [] [] []⟩
theorem qfd (c : List Int) (f : Int) (g : Int) (b : Int) (r : Int × Int × Int) (a : q2t  c f g b = some r) : K0 Tryz.prog tab 211 [.d (.sl 1 (c.map (eI .i64))),q6 f,q6 g,.ref 0 1 0 0] [(0,.dat 1 [[G b]])] 1 (.d (.tup [G r.1,G r.2.1])) [(0,.dat 1 [[G r.2.2]])] 1:=by
 unfold q2t at a
 refine Ka Tryz.func211 J qj qj J<|qc<|qb J<|qb J<|qa<|qh<|qh<|Qd [q8,q8,q8,q8,q8,q8,q8,q8,q8] qj<|q0 J<|q0 J ?_
 obtain ⟨h,k,a⟩:=q9 a
 refine Qz (enc:=(eI .i64)) k J<|O (q6 h) J<|q0 J<|q0 J ?_
 obtain ⟨j,l,a⟩:=q9 a
 refine Qz (enc:=(eI .i64)) l J<|O (q6 j) J ?_
 obtain ⟨m,n,a⟩:=q9 a
 refine Q5 (Zm h j m n) J<|qa ?_
 refine qp J a (fun _ a=>?_) (fun _ a=>?_)
 ·refine qc<|q0 J<|O (.ref 0 1 0 0) J<|O (q6 b) J<|O (.d (G (w64 (b + 1)))) J<|O (.ref 0 1 0 0) J<|qz 0 (.dat 1 [[G (w64 (b + 1))]]) J<|qs<|q0 J<|q0 J<|qb J<|qb J<|qv ?_
  obtain rfl:=qe a
  exact ⟨.inr J,_,J,wkA [] [] []⟩
 refine qo<|qc<|q0 J<|q0 J<|qb J<|qb J<|qv ?_
 obtain rfl:=qe a
 exact ⟨.inr J,_,J,wkA [] [] []⟩
theorem qll (c : List Int) (h : Int) (j : Int) (k : Int) (l : Int) (r : Int × Int) (f : q3s  c h j k l = some r) : K0 Tryz.prog tab 193 [.d (.sl 1 (c.map (eI .i64))),q6 h,q6 j,q6 k,.ref 0 1 0 0] [(0,.dat 1 [[G l]])] 1 (q6 r.1) [(0,.dat 1 [[G r.2]])] 1:=by
 unfold q3s at f
 refine Ka Tryz.func193 J qj qj J<|qc<|qb J<|qs<|q0 J<|q0 J<|q0 J<|q0 J ?_
 obtain ⟨a,m,f⟩:=q9 f
 refine K2 [(0,0)] [(0,0)] [.d (.sl 1 (c.map (eI .i64))),q6 h,q6 j,.ref 0 1 0 0] (.d (.tup [G a.1,G a.2.1])) 1 [(0,.dat 1 [[G a.2.2]])] 1 (qfd c h j l a m)<|q0 J<|O (q6 a.1) J<|O (q6 a.2.1) J<|qb J<|qb J<|qs<|q0 J<|q0 J<|q0 J<|q0 J ?_
 obtain ⟨b,n,f⟩:=q9 f
 refine K2 [(0,0)] [(0,0)] [.d (.sl 1 (c.map (eI .i64))),q6 a.2.1,q6 k,.ref 0 1 0 0] (.d (.tup [G b.1,G b.2.1])) 1 [(0,.dat 1 [[G b.2.2]])] 1 (qfd c a.2.1 k a.2.2 b n)<|q0 J<|O (q6 b.1) J<|O (q6 b.2.1) J<|qb J<|qb J<|qs<|q0 J<|q0 J<|q0 J<|q0 J ?_
 obtain ⟨g,o,f⟩:=q9 f
 refine K2 [(0,0)] [(0,0)] [.d (.sl 1 (c.map (eI .i64))),q6 a.1,q6 b.1,.ref 0 1 0 0] (.d (.tup [G g.1,G g.2.1])) 1 [(0,.dat 1 [[G g.2.2]])] 1 (qfd c a.1 b.1 b.2.2 g o)<|q0 J<|O (q6 g.1) J<|O (q6 g.2.1) J<|qb J<|qb J<|qs<|q0 J<|qb J<|qv ?_
 obtain rfl:=qe f
 exact ⟨.inr J,_,J,wkA [] [] []⟩
theorem qfb (b : List Int) (a : Int) (f : Int) (r : Int × Int) (c : q2s  b a f = some r) : K0 Tryz.prog tab 192 [.d (.sl 1 (b.map (eI .i64))),q6 a,.ref 0 1 0 0] [(0,.dat 1 [[G f]])] 1 (q6 r.1) [(0,.dat 1 [[G r.2]])] 1:=by
 unfold q2s at c
 refine Ka Tryz.func192 J qj qj J<|qc<|qb J<|qs<|q0 J<|q0 J<|O (.d (G (w64 (a - 1)))) J<|q0 J<|q0 J<|O (.d (G (w64 (a + 1)))) J<|q0 J ?_
 obtain ⟨g,h,c⟩:=q9 c
 refine K2 [(0,0)] [(0,0)] [.d (.sl 1 (b.map (eI .i64))),.d (G (w64 (a - 1))),q6 a,.d (G (w64 (a + 1))),.ref 0 1 0 0] (q6 g.1) 1 [(0,.dat 1 [[G g.2]])] 1 (qll b (w64 (a - 1)) a (w64 (a + 1)) f g h)<|qb J<|qv ?_
 obtain rfl:=qe c
 exact ⟨.inr J,_,J,wkA [] [] []⟩
theorem qwb (g : List Int) (a : Int) (b : Int) (r : Int × Int) (f : q5r g a b = some r) : Pure Tryz.prog tab 178 [.sl 1 (g.map (eI .i64)),G a,G b] (.tup [G r.1,G r.2]):=by
 unfold q5r at f
 refine Qi Tryz.func178 J qj qj J<|qc<|qb J<|qb J<|qs<|q0 J<|q0 J<|O (.d (G (w64 (b - a)))) J<|qb J<|qs<|Qe J J<|qs<|q0 J<|q0 J<|O (.d (G (w64 (Int.tdiv (w64 (b - a)) 4)))) J<|O (.d (G (w64 ((w64 (Int.tdiv (w64 (b - a)) 4)) * 1)))) J<|O (.d (G (w64 (a + (w64 ((w64 (Int.tdiv (w64 (b - a)) 4)) * 1)))))) J<|qb J<|qs<|q0 J<|q0 J<|O (.d (G (w64 (Int.tdiv (w64 (b - a)) 4)))) J<|O (.d (G (w64 ((w64 (Int.tdiv (w64 (b - a)) 4)) * 2)))) J<|O (.d (G (w64 (a + (w64 ((w64 (Int.tdiv (w64 (b - a)) 4)) * 2)))))) J<|qb J<|qs<|q0 J<|q0 J<|O (.d (G (w64 (Int.tdiv (w64 (b - a)) 4)))) J<|O (.d (G (w64 ((w64 (Int.tdiv (w64 (b - a)) 4)) * 3)))) J<|O (.d (G (w64 (a + (w64 ((w64 (Int.tdiv (w64 (b - a)) 4)) * 3)))))) J<|qb J<|qa<|qh<|qc<|q0 J<|O (.d (.bool (decide ((w64 (b - a)) ≥ 8)))) J<|qa ?_
 obtain ⟨p,k,f⟩:=q9 f
 refine Yi (fun h=>h = p) (fun (h : Int × Int)=>⟨[(9,.ref 0 1 0 0),(11,q6 h.1)],[(0,.dat 1 [[G h.2]])],1⟩) qf ?_ ?_
 ·refine qp J k (fun _ k=>?_) (fun _ k=>?_)
  ·refine qh<|qc<|q0 J<|O (.d (.bool (decide ((w64 (b - a)) ≥ 50)))) J<|qa ?_
   obtain ⟨q,j,k⟩:=q9 k
   refine Yi (fun c=>c = q) (fun (c : Int × Int × Int × Int)=>⟨[(0,.d (.sl 1 (g.map (eI .i64)))),(9,.ref 0 1 0 0),(10,q6 c.1),(11,q6 c.2.1),(12,q6 c.2.2.1)],[(0,.dat 1 [[G c.2.2.2]])],1⟩) qf ?_ ?_
   ·refine qp J j (fun _ j=>?_) (fun _ j=>?_)
    ·refine qc<|q0 J<|q0 J ?_
     obtain ⟨l,s,j⟩:=q9 j
     refine K2 [(0,0)] [(0,0)] [.d (.sl 1 (g.map (eI .i64))),.d (G (w64 (a + (w64 ((w64 (Int.tdiv (w64 (b - a)) 4)) * 1))))),.ref 0 1 0 0] (q6 l.1) 1 [(0,.dat 1 [[G l.2]])] 1 (qfb g (w64 (a + (w64 ((w64 (Int.tdiv (w64 (b - a)) 4)) * 1)))) 0 l s)<|qb J<|qs<|q0 J<|q0 J ?_
     obtain ⟨m,t,j⟩:=q9 j
     refine K2 [(0,0)] [(0,0)] [.d (.sl 1 (g.map (eI .i64))),.d (G (w64 (a + (w64 ((w64 (Int.tdiv (w64 (b - a)) 4)) * 2))))),.ref 0 1 0 0] (q6 m.1) 1 [(0,.dat 1 [[G m.2]])] 1 (qfb g (w64 (a + (w64 ((w64 (Int.tdiv (w64 (b - a)) 4)) * 2)))) l.2 m t)<|qb J<|qa<|qy<|q0 J<|q0 J ?_
     obtain ⟨n,u,j⟩:=q9 j
     refine K2 [(0,0)] [(0,0)] [.d (.sl 1 (g.map (eI .i64))),.d (G (w64 (a + (w64 ((w64 (Int.tdiv (w64 (b - a)) 4)) * 3))))),.ref 0 1 0 0] (q6 n.1) 1 [(0,.dat 1 [[G n.2]])] 1 (qfb g (w64 (a + (w64 ((w64 (Int.tdiv (w64 (b - a)) 4)) * 3)))) m.2 n u)<|qb J<|qx ?_
     obtain rfl:=qe j
     exact ⟨_,J,wkA [(0,0)] [] []⟩
    refine qo<|Qc ?_
    obtain rfl:=qe j
    exact ⟨_,J,wkA [(0,0)] [] []⟩
   intro c hb
   subst hb
   refine qy<|q0 J<|q0 J<|q0 J<|q0 J ?_
   obtain ⟨o,v,k⟩:=q9 k
   refine K2 [(0,0)] [(0,0)] [.d (.sl 1 (g.map (eI .i64))),q6 c.1,q6 c.2.1,q6 c.2.2.1,.ref 0 1 0 0] (q6 o.1) 1 [(0,.dat 1 [[G o.2]])] 1 (qll g c.1 c.2.1 c.2.2.1 c.2.2.2 o v)<|qb J<|qx ?_
   obtain rfl:=qe k
   exact ⟨_,J,wkA [(0,0)] [] []⟩
  refine qo<|Qc ?_
  obtain rfl:=qe k
  exact ⟨_,J,wkA [(0,0)] [] []⟩
 intro h hb
 subst hb
 refine qc<|O (q6 h.2) J<|qa<|Q1<|qc<|O (qg (h.2 == 0)) J<|qb J<|qa ?_
 refine qp J f (fun _ f=>?_) (fun _ f=>?_)
 ·refine qc<|q0 J<|qb J<|qb J<|qv ?_
  obtain rfl:=qe f
  exact Q4 (.d (.tup [G h.1,G 1])) J
 refine qc<|O (qg (h.2 == 12)) J<|qb J<|qa ?_
 refine qp J f (fun _ f=>?_) (fun _ f=>?_)
 ·refine qc<|q0 J<|qb J<|qb J<|qv ?_
  obtain rfl:=qe f
  exact Q4 (.d (.tup [G h.1,G 2])) J
 refine qc<|q0 J<|qb J<|qb J<|qv ?_
 obtain rfl:=qe f
 exact Q4 (.d (.tup [G h.1,G 0])) J
theorem qwr (c : List Int) (h : Int) (f : Int) (r : List Int) (g : q6h  c h f = some r) : K0 Tryz.prog tab 179 [.hs 0 1 0 c.length,q6 h,q6 f] [(0,.dat 1 (c.map (eI .i64)))] 1 (.d (.tup [])) [(0,.dat 1 (r.map (eI .i64)))] 1:=by
 unfold q6h at g
 refine Ka Tryz.func179 J qj qj J<|qc<|q0 J<|qb J<|qs<|q0 J<|O (.d (G (w64 (f - 1)))) J<|qb J<|qa ?_
 obtain ⟨p,q,g⟩:=q9 g
 refine Q1<|Qf (q99) (fun (b : Int × Int × List Int)=>⟨[(0,.hs 0 1 0 b.2.2.length),(6,q6 b.1),(7,q6 b.2.1)],[(0,.dat 1 (b.2.2.map (eI .i64)))],1⟩) (h,w64 (f - 1),c) p q (wkA [] [] []) ?_
 intro b s a
 unfold q99 at a
 refine qh<|qc<|q0 J<|q0 J<|O (.d (.bool (decide (b.1 < b.2.1)))) J<|qa ?_
 refine qp J a (fun _ a=>?_) (fun _ a=>?_)
 ·refine qo<|Q1<|qh<|Qd [Qh 0,q8,Qh 0,q8,qr 0,q8,q8,q8,qr 0,q8,q8,q8,q8,q8,q8,q8] qj<|q0 J<|q0 J<|q0 J<|q0 J<|q0 J<|q0 J ?_
  obtain ⟨j,l,a⟩:=q9 a
  refine qw l J J<|Q7 (q6 j) l J<|q0 J<|q0 J ?_
  obtain ⟨k,m,a⟩:=q9 a
  refine qw m J J<|Q7 (q6 k) m J ?_
  obtain ⟨t,n,a⟩:=q9 a
  refine qw n J J<|Qt (ds:=[G j]) j n J J J J J J J J (leb J) J ?_
  obtain ⟨u,o,a⟩:=q9 a
  refine qw o qf J<|Qt (ds:=[G k]) k o J J J J J J J J (leb J) J<|qs<|q0 J<|O (.d (G (w64 (b.1 + 1)))) J<|qb J<|qa<|qy<|q0 J<|O (.d (G (w64 (b.2.1 - 1)))) J<|qb J<|qx<|Qj<|Qc ?_
  exact ⟨_,(Option.some.inj a).symm,wkE [] [] [] J ⟨⟨_,J,Qx qf J qt (ltd J)⟩,qq J,qq J,trivial⟩ ⟨Qg J J,trivial⟩⟩
 refine Qb ?_
 refine ⟨_,(Option.some.inj a).symm,fun hm=>?_⟩
 subst hm
 obtain rfl:=qe g
 exact ⟨.inl J,_,J,wkA [] [] []⟩
theorem qwh (v : List Int) (j : Int) (h : Int) (r : Bool × List Int) (q : q3u  v j h = some r) : K0 Tryz.prog tab 180 [.hs 0 1 0 v.length,q6 j,q6 h] [(0,.dat 1 (v.map (eI .i64)))] 1 (qg r.1) [(0,.dat 1 (r.2.map (eI .i64)))] 1:=by
 unfold q3u at q
 refine Ka Tryz.func180 J qj qj J<|qc<|qb J<|qs<|q0 J<|O (.d (G (w64 (j + 1)))) J<|qb J<|qa<|qh<|qc<|qb J<|qa ?_
 obtain ⟨ae,bu,q⟩:=q9 q
 refine Qm (fun w=>.inl w = ae) (fun (w : List Int)=>⟨[],[(0,.dat 1 (w.map (eI .i64)))],1⟩) qf ?_ ?_
 ·refine Qf (q3v h j) (fun (g : Int × Int × List Int)=>⟨[(0,.hs 0 1 0 g.2.2.length),(1,q6 j),(2,q6 h),(7,q6 g.1),(8,q6 g.2.1)],[(0,.dat 1 (g.2.2.map (eI .i64)))],1⟩) (w64 (j + 1),0,v) ae bu (wkA [] [] []) ?_
  intro g ci l
  unfold q3v at l
  refine qh<|qc<|q0 J<|O (.d (.bool (decide (g.2.1 < 5)))) J<|qa ?_
  refine qp J l (fun _ l=>?_) (fun _ l=>?_)
  ·refine qo<|qh ?_
   obtain ⟨bv,a,l⟩:=q9 l
   refine Qm (fun s=>.inl s = bv) (fun (s : Int × List Int)=>⟨[(0,.hs 0 1 0 s.2.length),(1,q6 j),(2,q6 h),(7,q6 s.1),(8,q6 g.2.1)],[(0,.dat 1 (s.2.map (eI .i64)))],1⟩) qf ?_ ?_
   ·refine qh ?_
    obtain ⟨af,bw,a⟩:=q9 a
    refine Qm (fun f=>f = af) (fun (f : Int)=>⟨[(0,.hs 0 1 0 g.2.2.length),(1,q6 j),(2,q6 h),(7,q6 f),(8,q6 g.2.1)],[(0,.dat 1 (g.2.2.map (eI .i64)))],1⟩) qf ?_ ?_
    ·refine Qf (q61 h g) (fun (u : Int)=>⟨[(0,.hs 0 1 0 g.2.2.length),(1,q6 j),(2,q6 h),(7,q6 u),(8,q6 g.2.1)],[(0,.dat 1 (g.2.2.map (eI .i64)))],1⟩) g.1 af bw (wkA [] [] []) ?_
     intro u cj o
     unfold q61 at o
     refine qh<|qh<|Qd [q8,q8,q8,qr 0,q8,q8,q8,q8,qr 0,q8,q8,q8,q8,q8,q8,q8] qj<|q0 J<|q0 J<|O (.d (.bool (decide (u < h)))) J ?_
     obtain ⟨bz,k,o⟩:=q9 o
     refine Q9 13 (fun A st=>∃ (ag ah ai aj ak al am an ao ap aq ar : V),st = A [(32,qg bz),(31,ar),(30,aq),(29,ap),(28,ao),(27,an),(26,am),(25,al),(24,ak),(23,aj),(22,ai),(21,ah),(20,ag)]) ?_ ?_
     ·refine Q8 J J k (fun k=>?_) (fun k=>?_)
      ·refine q0 J<|q0 J ?_
       obtain ⟨au,av,k⟩:=q9 k
       refine qw av J J<|Q7 (q6 au) av J<|q0 J<|q0 J<|O (.d (G (w64 (u - 1)))) J ?_
       obtain ⟨aw,ax,k⟩:=q9 k
       refine qw ax J J<|Q7 (q6 aw) ax J ?_
       obtain ⟨z,ca,k⟩:=q9 k
       refine Q5 (Zm au aw z ca) J<|O (qg (!z)) J<|O (qg (!z)) J<|qa ?_
       obtain rfl:=qe k
       exact ⟨_,_,_,_,_,_,_,_,_,_,_,_,J⟩
      refine qd J<|qd J<|qd J<|qd J<|qd J<|qd J<|qd J<|qd J<|qd J<|qd J<|qd J<|O (qg false) J<|qa ?_
      obtain rfl:=qe k
      exact ⟨_,_,_,_,_,_,_,_,_,_,_,_,J⟩
     rintro _ ⟨ag,ah,ai,aj,ak,al,am,an,ao,ap,aq,ar,rfl⟩
     refine qa ?_
     refine qp J o (fun _ o=>?_) (fun _ o=>?_)
     ·refine qo<|Q1<|qy<|q0 J<|O (.d (G (w64 (u + 1)))) J<|qb J<|qx<|Qj<|Qc ?_
      exact ⟨_,(Option.some.inj o).symm,wkA [] [] []⟩
     refine Qb ?_
     refine ⟨_,(Option.some.inj o).symm,fun hm=>?_⟩
     subst hm
     exact ⟨_,J,wkA [] [] []⟩
    intro f hb
    subst hb
    refine qh<|qc<|q0 J<|q0 J<|O (qg (f == h)) J<|qa ?_
    refine qp J a (fun _ a=>?_) (fun _ a=>?_)
    ·refine qc<|qb J<|qv ?_
     obtain rfl:=qe a
     refine ⟨_,(Option.some.inj l).symm,fun hm=>?_⟩
     subst hm
     obtain rfl:=qe q
     exact ⟨.inr J,_,J,wkA [] [] []⟩
    refine qo<|qh<|qc<|q0 J<|q0 J<|O (.d (G (w64 (h - j)))) J<|O (.d (.bool (decide ((w64 (h - j)) < 50)))) J<|qa ?_
    refine qp J a (fun _ a=>?_) (fun _ a=>?_)
    ·refine qc<|qb J<|qv ?_
     obtain rfl:=qe a
     refine ⟨_,(Option.some.inj l).symm,fun hm=>?_⟩
     subst hm
     obtain rfl:=qe q
     exact ⟨.inr J,_,J,wkA [] [] []⟩
    refine qo<|qh<|Qd [Qh 0,q8,Qh 0,q8,qr 0,q8,q8,q8,qr 0,q8,q8,q8,q8,q8,q8,q8,q8,q8] qj<|q0 J<|q0 J<|q0 J<|q0 J<|O (.d (G (w64 (f - 1)))) J<|q0 J<|q0 J<|O (.d (G (w64 (f - 1)))) J ?_
    obtain ⟨x,ay,a⟩:=q9 a
    refine qw ay J J<|Q7 (q6 x) ay J<|q0 J<|q0 J ?_
    obtain ⟨y,az,a⟩:=q9 a
    refine qw az J J<|Q7 (q6 y) az J ?_
    obtain ⟨ck,ba,a⟩:=q9 a
    refine qw ba J J<|Qt (ds:=[G x]) x ba J J J J J J J J (leb J) J ?_
    obtain ⟨cl,bb,a⟩:=q9 a
    refine qw bb qf J<|Qt (ds:=[G y]) y bb J J J J J J J J (leb J) J<|qa<|qh<|qc<|q0 J<|q0 J<|O (.d (G (w64 (f - j)))) J<|O (.d (.bool (decide ((w64 (f - j)) ≥ 2)))) J<|qa ?_
    obtain ⟨cb,p,a⟩:=q9 a
    refine Yi (fun t=>t = cb) (fun (t : List Int)=>⟨[(0,.hs 0 1 0 t.length),(1,q6 j),(2,q6 h),(7,q6 f),(8,q6 g.2.1)],[(0,.dat 1 (t.map (eI .i64)))],1⟩) qf ?_ ?_
    ·refine qp J p (fun _ p=>?_) (fun _ p=>?_)
     ·refine qc<|q0 J<|O (.d (G (w64 (f - 1)))) J<|qb J<|qa ?_
      obtain ⟨cc,cd,p⟩:=q9 p
      refine Q1<|Qf (q8w) (fun (m : Int × List Int)=>⟨[(0,.hs 0 1 0 m.2.length),(1,q6 j),(2,q6 h),(7,q6 f),(8,q6 g.2.1),(9,q6 m.1)],[(0,.dat 1 (m.2.map (eI .i64)))],1⟩) (w64 (f - 1),(g.2.2.set f.toNat x).set (w64 (f - 1)).toNat y) cc cd (wkE [] [] [] J ⟨⟨_,J,Qx qf J qt (ltd J)⟩,qq J,qq J,qq J,qq J,qq J,trivial⟩ ⟨Qg J J,trivial⟩) ?_
      intro m cm b
      unfold q8w at b
      refine qh<|qc<|q0 J<|O (.d (.bool (decide (m.1 ≥ 1)))) J<|qa ?_
      refine qp J b (fun _ b=>?_) (fun _ b=>?_)
      ·refine qo<|qh<|Q1<|qh<|qh<|Qd [q8,q8,qr 0,q8,q8,q8,q8,qr 0,q8,q8,q8] qj<|q0 J<|q0 J ?_
       obtain ⟨bc,bd,b⟩:=q9 b
       refine qw bd J J<|Q7 (q6 bc) bd J<|q0 J<|q0 J<|O (.d (G (w64 (m.1 - 1)))) J ?_
       obtain ⟨be,bf,b⟩:=q9 b
       refine qw bf J J<|Q7 (q6 be) bf J ?_
       obtain ⟨bg,ce,b⟩:=q9 b
       refine Q5 (Zm bc be bg ce) J<|O (qg (!bg)) J<|qa ?_
       refine qp J b (fun _ b=>?_) (fun _ b=>?_)
       ·refine Qb ?_
        refine ⟨_,(Option.some.inj b).symm,fun hm=>?_⟩
        subst hm
        obtain rfl:=qe p
        exact ⟨_,J,wkA [] [] []⟩
       refine qo<|Qd [Qh 0,q8,Qh 0,q8,qr 0,q8,q8,q8,qr 0,q8,q8,q8,q8,q8,q8,q8,q8,q8] qj<|q0 J<|q0 J<|q0 J<|q0 J<|O (.d (G (w64 (m.1 - 1)))) J<|q0 J<|q0 J<|O (.d (G (w64 (m.1 - 1)))) J ?_
       obtain ⟨aa,bh,b⟩:=q9 b
       refine qw bh J J<|Q7 (q6 aa) bh J<|q0 J<|q0 J ?_
       obtain ⟨ab,bi,b⟩:=q9 b
       refine qw bi J J<|Q7 (q6 ab) bi J ?_
       obtain ⟨cn,bj,b⟩:=q9 b
       refine qw bj J J<|Qt (ds:=[G aa]) aa bj J J J J J J J J (leb J) J ?_
       obtain ⟨co,bk,b⟩:=q9 b
       refine qw bk qf J<|Qt (ds:=[G ab]) ab bk J J J J J J J J (leb J) J<|qx<|Qj<|qy<|q0 J<|O (.d (G (w64 (m.1 - 1)))) J<|qb J<|qx ?_
       exact ⟨_,(Option.some.inj b).symm,wkE [] [] [] J ⟨⟨_,J,Qx qf J qt (ltd J)⟩,qq J,qq J,qq J,qq J,qq J,trivial⟩ ⟨Qg J J,trivial⟩⟩
      refine Qb ?_
      refine ⟨_,(Option.some.inj b).symm,fun hm=>?_⟩
      subst hm
      obtain rfl:=qe p
      exact ⟨_,J,wkA [] [] []⟩
     refine qo<|Qc ?_
     obtain rfl:=qe p
     exact ⟨_,J,wkE [] [] [] J ⟨⟨_,J,Qx qf J qt (ltd J)⟩,qq J,qq J,qq J,qq J,trivial⟩ ⟨Qg J J,trivial⟩⟩
    intro t hb
    subst hb
    refine qc<|q0 J<|q0 J<|O (.d (G (w64 (h - f)))) J<|O (.d (.bool (decide ((w64 (h - f)) ≥ 2)))) J<|qa ?_
    refine qp J a (fun _ a=>?_) (fun _ a=>?_)
    ·refine qc<|q0 J<|O (.d (G (w64 (f + 1)))) J<|qb J<|qa ?_
     obtain ⟨cf,cg,a⟩:=q9 a
     refine Q1<|Qf (q62 h f) (fun (n : Int × List Int)=>⟨[(0,.hs 0 1 0 n.2.length),(1,q6 j),(2,q6 h),(7,q6 f),(8,q6 g.2.1),(10,q6 n.1)],[(0,.dat 1 (n.2.map (eI .i64)))],1⟩) (w64 (f + 1),t) cf cg (wkA [] [] []) ?_
     intro n cp c
     unfold q62 at c
     refine qh<|qc<|q0 J<|q0 J<|O (.d (.bool (decide (n.1 < h)))) J<|qa ?_
     refine qp J c (fun _ c=>?_) (fun _ c=>?_)
     ·refine qo<|qh<|Q1<|qh<|qh<|Qd [q8,q8,qr 0,q8,q8,q8,q8,qr 0,q8,q8,q8] qj<|q0 J<|q0 J ?_
      obtain ⟨bl,bm,c⟩:=q9 c
      refine qw bm J J<|Q7 (q6 bl) bm J<|q0 J<|q0 J<|O (.d (G (w64 (n.1 - 1)))) J ?_
      obtain ⟨bn,bo,c⟩:=q9 c
      refine qw bo J J<|Q7 (q6 bn) bo J ?_
      obtain ⟨bp,ch,c⟩:=q9 c
      refine Q5 (Zm bl bn bp ch) J<|O (qg (!bp)) J<|qa ?_
      refine qp J c (fun _ c=>?_) (fun _ c=>?_)
      ·refine Qb ?_
       refine ⟨_,(Option.some.inj c).symm,fun hm=>?_⟩
       subst hm
       obtain rfl:=qe a
       exact ⟨_,J,wkA [] [] []⟩
      refine qo<|Qd [Qh 0,q8,Qh 0,q8,qr 0,q8,q8,q8,qr 0,q8,q8,q8,q8,q8,q8,q8,q8,q8] qj<|q0 J<|q0 J<|q0 J<|q0 J<|O (.d (G (w64 (n.1 - 1)))) J<|q0 J<|q0 J<|O (.d (G (w64 (n.1 - 1)))) J ?_
      obtain ⟨ac,bq,c⟩:=q9 c
      refine qw bq J J<|Q7 (q6 ac) bq J<|q0 J<|q0 J ?_
      obtain ⟨ad,br,c⟩:=q9 c
      refine qw br J J<|Q7 (q6 ad) br J ?_
      obtain ⟨cq,bs,c⟩:=q9 c
      refine qw bs J J<|Qt (ds:=[G ac]) ac bs J J J J J J J J (leb J) J ?_
      obtain ⟨cr,bt,c⟩:=q9 c
      refine qw bt qf J<|Qt (ds:=[G ad]) ad bt J J J J J J J J (leb J) J<|qx<|Qj<|qy<|q0 J<|O (.d (G (w64 (n.1 + 1)))) J<|qb J<|qx ?_
      exact ⟨_,(Option.some.inj c).symm,wkE [] [] [] J ⟨⟨_,J,Qx qf J qt (ltd J)⟩,qq J,qq J,qq J,qq J,qq J,trivial⟩ ⟨Qg J J,trivial⟩⟩
     refine Qb ?_
     refine ⟨_,(Option.some.inj c).symm,fun hm=>?_⟩
     subst hm
     obtain rfl:=qe a
     exact ⟨_,J,wkA [] [] []⟩
    refine qo<|Qc ?_
    obtain rfl:=qe a
    exact ⟨_,J,wkA [] [] []⟩
   intro s hb
   subst hb
   refine qy<|q0 J<|O (.d (G (w64 (g.2.1 + 1)))) J<|qb J<|qx ?_
   exact ⟨_,(Option.some.inj l).symm,wkA [] [] []⟩
  refine Qb ?_
  refine ⟨_,(Option.some.inj l).symm,fun hm=>?_⟩
  subst hm
  exact ⟨_,J,wkA [] [] []⟩
 intro w hb
 subst hb
 refine qc<|qb J<|qv ?_
 obtain rfl:=qe q
 exact ⟨.inr J,_,J,wkA [] [] []⟩
theorem qwk (o : List Int) (c : Int) (p : Int) (v : Int) (r : Int × List Int) (f : q63  o c p v = some r) : K0 Tryz.prog tab 182 [.hs 0 1 0 o.length,q6 c,q6 p,q6 v] [(0,.dat 1 (o.map (eI .i64)))] 1 (q6 r.1) [(0,.dat 1 (r.2.map (eI .i64)))] 1:=by
 unfold q63 at f
 refine Ka Tryz.func182 J qj qj J<|qc<|qb J<|qa<|qh<|Qd [Qh 0,q8,Qh 0,q8,qr 0,q8,q8,q8,qr 0,q8,q8,q8,q8,q8,q8,q8] qj<|q0 J<|q0 J<|q0 J<|q0 J<|q0 J<|q0 J ?_
 obtain ⟨q,z,f⟩:=q9 f
 refine qw z J J<|Q7 (q6 q) z J<|q0 J<|q0 J ?_
 obtain ⟨s,aa,f⟩:=q9 f
 refine qw aa J J<|Q7 (q6 s) aa J ?_
 obtain ⟨bz,ab,f⟩:=q9 f
 refine qw ab J J<|Qt (ds:=[G q]) q ab J J J J J J J J (leb J) J ?_
 obtain ⟨ca,ac,f⟩:=q9 f
 refine qw ac qf J<|Qt (ds:=[G s]) s ac J J J J J J J J (leb J) J<|qs<|q0 J<|O (.d (G (w64 (c + 1)))) J<|q0 J<|O (.d (G (w64 (p - 1)))) J<|qb J<|qb J<|qa<|qh ?_
 obtain ⟨ad,bq,f⟩:=q9 f
 refine Qm (fun n=>n = ad) (fun (n : Int × List Int)=>⟨[(9,q6 n.1)],[(0,.dat 1 (n.2.map (eI .i64)))],1⟩) qf ?_ ?_
 ·refine Qf (q64 c) (fun (a : Int × Int × List Int)=>⟨[(0,.hs 0 1 0 a.2.2.length),(1,q6 c),(9,q6 a.1),(10,q6 a.2.1)],[(0,.dat 1 (a.2.2.map (eI .i64)))],1⟩) (w64 (c + 1),w64 (p - 1),(o.set c.toNat q).set v.toNat s) ad bq (wkE [] [] [] J ⟨⟨_,J,Qx qf J qt (ltd J)⟩,qq J,qq J,qq J,trivial⟩ ⟨Qg J J,trivial⟩) ?_
  intro a cb b
  unfold q64 at b
  refine Q1<|qh ?_
  obtain ⟨ae,br,b⟩:=q9 b
  refine Qm (fun j=>j = ae) (fun (j : Int)=>⟨[(0,.hs 0 1 0 a.2.2.length),(1,q6 c),(9,q6 j),(10,q6 a.2.1)],[(0,.dat 1 (a.2.2.map (eI .i64)))],1⟩) qf ?_ ?_
  ·refine Qf (q65 a c) (fun (t : Int)=>⟨[(0,.hs 0 1 0 a.2.2.length),(1,q6 c),(9,q6 t),(10,q6 a.2.1)],[(0,.dat 1 (a.2.2.map (eI .i64)))],1⟩) a.1 ae br (wkA [] [] []) ?_
   intro t cc k
   unfold q65 at k
   refine qh<|qh<|Qd [q8,q8,q8,qr 0,q8,q8,q8,qr 0,q8,q8,q8,q8,q8,q8,q8] qj<|q0 J<|q0 J<|O (.d (.bool (decide (t≤a.2.1)))) J ?_
   obtain ⟨bs,g,k⟩:=q9 k
   refine Q9 12 (fun A st=>∃ (af ag ah ai aj ak al am an ao ap : V),st = A [(43,qg bs),(42,ap),(41,ao),(40,an),(39,am),(38,al),(37,ak),(36,aj),(35,ai),(34,ah),(33,ag),(32,af)]) ?_ ?_
   ·refine Q8 J J g (fun g=>?_) (fun g=>?_)
    ·refine q0 J<|q0 J ?_
     obtain ⟨aq,ar,g⟩:=q9 g
     refine qw ar J J<|Q7 (q6 aq) ar J<|q0 J<|q0 J ?_
     obtain ⟨au,av,g⟩:=q9 g
     refine qw av J J<|Q7 (q6 au) av J ?_
     obtain ⟨w,bt,g⟩:=q9 g
     refine Q5 (Zm aq au w bt) J<|O (qg (!w)) J<|O (qg (!w)) J<|qa ?_
     obtain rfl:=qe g
     exact ⟨_,_,_,_,_,_,_,_,_,_,_,J⟩
    refine qd J<|qd J<|qd J<|qd J<|qd J<|qd J<|qd J<|qd J<|qd J<|qd J<|O (qg false) J<|qa ?_
    obtain rfl:=qe g
    exact ⟨_,_,_,_,_,_,_,_,_,_,_,J⟩
   rintro _ ⟨af,ag,ah,ai,aj,ak,al,am,an,ao,ap,rfl⟩
   refine qa ?_
   refine qp J k (fun _ k=>?_) (fun _ k=>?_)
   ·refine qo<|Q1<|qy<|q0 J<|O (.d (G (w64 (t + 1)))) J<|qb J<|qx<|Qj<|Qc ?_
    exact ⟨_,(Option.some.inj k).symm,wkA [] [] []⟩
   refine Qb ?_
   refine ⟨_,(Option.some.inj k).symm,fun hm=>?_⟩
   subst hm
   exact ⟨_,J,wkA [] [] []⟩
  intro j hb
  subst hb
  refine qh ?_
  obtain ⟨aw,bu,b⟩:=q9 b
  refine Qm (fun m=>m = aw) (fun (m : Int)=>⟨[(0,.hs 0 1 0 a.2.2.length),(1,q6 c),(9,q6 j),(10,q6 m)],[(0,.dat 1 (a.2.2.map (eI .i64)))],1⟩) qf ?_ ?_
  ·refine Qf (q66 j a c) (fun (u : Int)=>⟨[(0,.hs 0 1 0 a.2.2.length),(1,q6 c),(9,q6 j),(10,q6 u)],[(0,.dat 1 (a.2.2.map (eI .i64)))],1⟩) a.2.1 aw bu (wkA [] [] []) ?_
   intro u cd l
   unfold q66 at l
   refine qh<|qh<|Qd [q8,q8,qr 0,q8,q8,q8,qr 0,q8,q8,q8,q8,q8,q8,q8] qj<|q0 J<|q0 J<|O (.d (.bool (decide (j≤u)))) J ?_
   obtain ⟨bv,h,l⟩:=q9 l
   refine Q9 11 (fun A st=>∃ (ax ay az ba bb bc bd be bf bg : V),st = A [(59,qg bv),(58,bg),(57,bf),(56,be),(55,bd),(54,bc),(53,bb),(52,ba),(51,az),(50,ay),(49,ax)]) ?_ ?_
   ·refine Q8 J J h (fun h=>?_) (fun h=>?_)
    ·refine q0 J<|q0 J ?_
     obtain ⟨bh,bi,h⟩:=q9 h
     refine qw bi J J<|Q7 (q6 bh) bi J<|q0 J<|q0 J ?_
     obtain ⟨bj,bk,h⟩:=q9 h
     refine qw bk J J<|Q7 (q6 bj) bk J ?_
     obtain ⟨bl,bw,h⟩:=q9 h
     refine Q5 (Zm bh bj bl bw) J<|O (qg bl) J<|qa ?_
     obtain rfl:=qe h
     exact ⟨_,_,_,_,_,_,_,_,_,_,J⟩
    refine qd J<|qd J<|qd J<|qd J<|qd J<|qd J<|qd J<|qd J<|qd J<|O (qg false) J<|qa ?_
    obtain rfl:=qe h
    exact ⟨_,_,_,_,_,_,_,_,_,_,J⟩
   rintro _ ⟨ax,ay,az,ba,bb,bc,bd,be,bf,bg,rfl⟩
   refine qa ?_
   refine qp J l (fun _ l=>?_) (fun _ l=>?_)
   ·refine qo<|Q1<|qy<|q0 J<|O (.d (G (w64 (u - 1)))) J<|qb J<|qx<|Qj<|Qc ?_
    exact ⟨_,(Option.some.inj l).symm,wkA [] [] []⟩
   refine Qb ?_
   refine ⟨_,(Option.some.inj l).symm,fun hm=>?_⟩
   subst hm
   exact ⟨_,J,wkA [] [] []⟩
  intro m hb
  subst hb
  refine qh<|qc<|q0 J<|q0 J<|O (.d (.bool (decide (j > m)))) J<|qa ?_
  refine qp J b (fun _ b=>?_) (fun _ b=>?_)
  ·refine Qb ?_
   refine ⟨_,(Option.some.inj b).symm,fun hm=>?_⟩
   subst hm
   exact ⟨_,J,wkA [] [] []⟩
  refine qo<|qh<|Qd [Qh 0,q8,Qh 0,q8,qr 0,q8,q8,q8,qr 0,q8,q8,q8,q8,q8,q8,q8] qj<|q0 J<|q0 J<|q0 J<|q0 J<|q0 J<|q0 J ?_
  obtain ⟨x,bm,b⟩:=q9 b
  refine qw bm J J<|Q7 (q6 x) bm J<|q0 J<|q0 J ?_
  obtain ⟨y,bn,b⟩:=q9 b
  refine qw bn J J<|Q7 (q6 y) bn J ?_
  obtain ⟨ce,bo,b⟩:=q9 b
  refine qw bo J J<|Qt (ds:=[G x]) x bo J J J J J J J J (leb J) J ?_
  obtain ⟨cf,bp,b⟩:=q9 b
  refine qw bp qf J<|Qt (ds:=[G y]) y bp J J J J J J J J (leb J) J<|qs<|q0 J<|O (.d (G (w64 (j + 1)))) J<|qb J<|qa<|qy<|q0 J<|O (.d (G (w64 (m - 1)))) J<|qb J<|qx<|Qj<|Qc ?_
  exact ⟨_,(Option.some.inj b).symm,wkE [] [] [] J ⟨⟨_,J,Qx qf J qt (ltd J)⟩,qq J,qq J,qq J,trivial⟩ ⟨Qg J J,trivial⟩⟩
 intro n hb
 subst hb
 refine qc<|q0 J<|qb J<|qv ?_
 obtain rfl:=qe f
 exact ⟨.inr J,_,J,wkA [] [] []⟩
theorem qwl (g : List Int) (b : Int) (s : Int) (k : Int) (r : Int × Bool × List Int) (a : q67  g b s k = some r) : K0 Tryz.prog tab 183 [.hs 0 1 0 g.length,q6 b,q6 s,q6 k] [(0,.dat 1 (g.map (eI .i64)))] 1 (.d (.tup [G r.1,.bool r.2.1])) [(0,.dat 1 (r.2.2.map (eI .i64)))] 1:=by
 unfold q67 at a
 refine Ka Tryz.func183 J qj qj J<|qc<|qb J<|qb J<|qa<|qh<|Qd [Qh 0,q8,Qh 0,q8,qr 0,q8,q8,q8,qr 0,q8,q8,q8,q8,q8,q8,q8] qj<|q0 J<|q0 J<|q0 J<|q0 J<|q0 J<|q0 J ?_
 obtain ⟨h,ao,a⟩:=q9 a
 refine qw ao J J<|Q7 (q6 h) ao J<|q0 J<|q0 J ?_
 obtain ⟨j,ap,a⟩:=q9 a
 refine qw ap J J<|Q7 (q6 j) ap J ?_
 obtain ⟨fr,aq,a⟩:=q9 a
 refine qw aq J J<|Qt (ds:=[G h]) h aq J J J J J J J J (leb J) J ?_
 obtain ⟨fs,ar,a⟩:=q9 a
 refine qw ar qf J<|Qt (ds:=[G j]) j ar J J J J J J J J (leb J) J<|qs<|q0 J<|O (.d (G (w64 (b + 1)))) J<|q0 J<|O (.d (G (w64 (s - 1)))) J<|qb J<|qb J<|qa<|qh ?_
 obtain ⟨au,fd,a⟩:=q9 a
 refine Qm (fun l=>l = au) (fun (l : Int)=>⟨[(0,.hs 0 1 0 ((g.set b.toNat h).set k.toNat j).length),(1,q6 b),(10,q6 l),(11,.d (G (w64 (s - 1))))],[(0,.dat 1 (((g.set b.toNat h).set k.toNat j).map (eI .i64)))],1⟩) qf ?_ ?_
 ·refine Qf (q68 s g b h k j) (fun (aa : Int)=>⟨[(0,.hs 0 1 0 ((g.set b.toNat h).set k.toNat j).length),(1,q6 b),(10,q6 aa),(11,.d (G (w64 (s - 1))))],[(0,.dat 1 (((g.set b.toNat h).set k.toNat j).map (eI .i64)))],1⟩) (w64 (b + 1)) au fd (wkE [] [] [] J ⟨⟨_,J,Qx qf J qt (ltd J)⟩,qq J,qq J,qq J,trivial⟩ ⟨Qg J J,trivial⟩) ?_
  intro aa ft t
  unfold q68 at t
  refine qh<|qh<|Qd [q8,q8,qr 0,q8,q8,q8,qr 0,q8,q8,q8,q8,q8,q8,q8] qj<|q0 J<|q0 J<|O (.d (.bool (decide (aa≤(w64 (s - 1)))))) J ?_
  obtain ⟨fe,m,t⟩:=q9 t
  refine Q9 11 (fun A st=>∃ (av aw ax ay az ba bb bc bd be : V),st = A [(43,qg fe),(42,be),(41,bd),(40,bc),(39,bb),(38,ba),(37,az),(36,ay),(35,ax),(34,aw),(33,av)]) ?_ ?_
  ·refine Q8 J J m (fun m=>?_) (fun m=>?_)
   ·refine q0 J<|q0 J ?_
    obtain ⟨bf,bg,m⟩:=q9 m
    refine qw bg J J<|Q7 (q6 bf) bg J<|q0 J<|q0 J ?_
    obtain ⟨bh,bi,m⟩:=q9 m
    refine qw bi J J<|Q7 (q6 bh) bi J ?_
    obtain ⟨bj,ff,m⟩:=q9 m
    refine Q5 (Zm bf bh bj ff) J<|O (qg bj) J<|qa ?_
    obtain rfl:=qe m
    exact ⟨_,_,_,_,_,_,_,_,_,_,J⟩
   refine qd J<|qd J<|qd J<|qd J<|qd J<|qd J<|qd J<|qd J<|qd J<|O (qg false) J<|qa ?_
   obtain rfl:=qe m
   exact ⟨_,_,_,_,_,_,_,_,_,_,J⟩
  rintro _ ⟨av,aw,ax,ay,az,ba,bb,bc,bd,be,rfl⟩
  refine qa ?_
  refine qp J t (fun _ t=>?_) (fun _ t=>?_)
  ·refine qo<|Q1<|qy<|q0 J<|O (.d (G (w64 (aa + 1)))) J<|qb J<|qx<|Qj<|Qc ?_
   exact ⟨_,(Option.some.inj t).symm,wkA [] [] []⟩
  refine Qb ?_
  refine ⟨_,(Option.some.inj t).symm,fun hm=>?_⟩
  subst hm
  exact ⟨_,J,wkA [] [] []⟩
 intro l hb
 subst hb
 refine qh ?_
 obtain ⟨bk,fg,a⟩:=q9 a
 refine Qm (fun u=>u = bk) (fun (u : Int)=>⟨[(0,.hs 0 1 0 ((g.set b.toNat h).set k.toNat j).length),(1,q6 b),(10,q6 l),(11,q6 u)],[(0,.dat 1 (((g.set b.toNat h).set k.toNat j).map (eI .i64)))],1⟩) qf ?_ ?_
 ·refine Qf (q69 l g b h k j) (fun (ab : Int)=>⟨[(0,.hs 0 1 0 ((g.set b.toNat h).set k.toNat j).length),(1,q6 b),(10,q6 l),(11,q6 ab)],[(0,.dat 1 (((g.set b.toNat h).set k.toNat j).map (eI .i64)))],1⟩) (w64 (s - 1)) bk fg (wkA [] [] []) ?_
  intro ab fu v
  unfold q69 at v
  refine qh<|qh<|Qd [q8,q8,q8,qr 0,q8,q8,q8,qr 0,q8,q8,q8,q8,q8,q8,q8] qj<|q0 J<|q0 J<|O (.d (.bool (decide (l≤ab)))) J ?_
  obtain ⟨fh,n,v⟩:=q9 v
  refine Q9 12 (fun A st=>∃ (bl bm bn bo bp bq br bs bt bu bv : V),st = A [(60,qg fh),(59,bv),(58,bu),(57,bt),(56,bs),(55,br),(54,bq),(53,bp),(52,bo),(51,bn),(50,bm),(49,bl)]) ?_ ?_
  ·refine Q8 J J n (fun n=>?_) (fun n=>?_)
   ·refine q0 J<|q0 J ?_
    obtain ⟨bw,bz,n⟩:=q9 n
    refine qw bz J J<|Q7 (q6 bw) bz J<|q0 J<|q0 J ?_
    obtain ⟨ca,cb,n⟩:=q9 n
    refine qw cb J J<|Q7 (q6 ca) cb J ?_
    obtain ⟨ag,fi,n⟩:=q9 n
    refine Q5 (Zm bw ca ag fi) J<|O (qg (!ag)) J<|O (qg (!ag)) J<|qa ?_
    obtain rfl:=qe n
    exact ⟨_,_,_,_,_,_,_,_,_,_,_,J⟩
   refine qd J<|qd J<|qd J<|qd J<|qd J<|qd J<|qd J<|qd J<|qd J<|qd J<|O (qg false) J<|qa ?_
   obtain rfl:=qe n
   exact ⟨_,_,_,_,_,_,_,_,_,_,_,J⟩
  rintro _ ⟨bl,bm,bn,bo,bp,bq,br,bs,bt,bu,bv,rfl⟩
  refine qa ?_
  refine qp J v (fun _ v=>?_) (fun _ v=>?_)
  ·refine qo<|Q1<|qy<|q0 J<|O (.d (G (w64 (ab - 1)))) J<|qb J<|qx<|Qj<|Qc ?_
   exact ⟨_,(Option.some.inj v).symm,wkA [] [] []⟩
  refine Qb ?_
  refine ⟨_,(Option.some.inj v).symm,fun hm=>?_⟩
  subst hm
  exact ⟨_,J,wkA [] [] []⟩
 intro u hb
 subst hb
 refine qh<|qc<|q0 J<|q0 J<|O (.d (.bool (decide (l > u)))) J<|qa ?_
 refine qp J a (fun _ a=>?_) (fun _ a=>?_)
 ·refine qh<|Qd [Qh 0,q8,Qh 0,q8,qr 0,q8,q8,q8,qr 0,q8,q8,q8,q8,q8,q8,q8] qj<|q0 J<|q0 J<|q0 J<|q0 J<|q0 J<|q0 J ?_
  obtain ⟨ah,cc,a⟩:=q9 a
  refine qw cc J J<|Q7 (q6 ah) cc J<|q0 J<|q0 J ?_
  obtain ⟨ai,cd,a⟩:=q9 a
  refine qw cd J J<|Q7 (q6 ai) cd J ?_
  obtain ⟨fv,ce,a⟩:=q9 a
  refine qw ce J J<|Qt (ds:=[G ah]) ah ce J J J J J J J J (leb J) J ?_
  obtain ⟨fw,cf,a⟩:=q9 a
  refine qw cf qf J<|Qt (ds:=[G ai]) ai cf J J J J J J J J (leb J) J<|qs<|q0 J<|qb J<|qb J<|qv ?_
  obtain rfl:=qe a
  exact ⟨.inr J,_,J,wkA [] [] []⟩
 refine qo<|qh<|Qd [Qh 0,q8,Qh 0,q8,qr 0,q8,q8,q8,qr 0,q8,q8,q8,q8,q8,q8,q8] qj<|q0 J<|q0 J<|q0 J<|q0 J<|q0 J<|q0 J ?_
 obtain ⟨ac,cg,a⟩:=q9 a
 refine qw cg J J<|Q7 (q6 ac) cg J<|q0 J<|q0 J ?_
 obtain ⟨ad,ch,a⟩:=q9 a
 refine qw ch J J<|Q7 (q6 ad) ch J ?_
 obtain ⟨fx,ci,a⟩:=q9 a
 refine qw ci J J<|Qt (ds:=[G ac]) ac ci J J J J J J J J (leb J) J ?_
 obtain ⟨fy,cj,a⟩:=q9 a
 refine qw cj qf J<|Qt (ds:=[G ad]) ad cj J J J J J J J J (leb J) J<|qs<|q0 J<|O (.d (G (w64 (l + 1)))) J<|qb J<|qs<|q0 J<|O (.d (G (w64 (u - 1)))) J<|qb J<|qa<|qh ?_
 obtain ⟨ck,fj,a⟩:=q9 a
 refine Qm (fun y=>y = ck) (fun (y : Int × List Int)=>⟨[(0,.hs 0 1 0 y.2.length),(1,q6 b),(11,q6 y.1)],[(0,.dat 1 (y.2.map (eI .i64)))],1⟩) qf ?_ ?_
 ·refine Qf (q6a b) (fun (c : Int × Int × List Int)=>⟨[(0,.hs 0 1 0 c.2.2.length),(1,q6 b),(10,q6 c.1),(11,q6 c.2.1)],[(0,.dat 1 (c.2.2.map (eI .i64)))],1⟩) (w64 (l + 1),w64 (u - 1),(((g.set b.toNat h).set k.toNat j).set l.toNat ac).set u.toNat ad) ck fj (wkE [] [] [] J ⟨⟨_,J,Qx qf J qt (ltd J)⟩,qq J,qq J,qq J,trivial⟩ ⟨Qg J J,trivial⟩) ?_
  intro c fz f
  unfold q6a at f
  refine Q1<|qh ?_
  obtain ⟨cl,fk,f⟩:=q9 f
  refine Qm (fun q=>q = cl) (fun (q : Int)=>⟨[(0,.hs 0 1 0 c.2.2.length),(1,q6 b),(10,q6 q),(11,q6 c.2.1)],[(0,.dat 1 (c.2.2.map (eI .i64)))],1⟩) qf ?_ ?_
  ·refine Qf (q6b c b) (fun (ae : Int)=>⟨[(0,.hs 0 1 0 c.2.2.length),(1,q6 b),(10,q6 ae),(11,q6 c.2.1)],[(0,.dat 1 (c.2.2.map (eI .i64)))],1⟩) c.1 cl fk (wkA [] [] []) ?_
   intro ae ga w
   unfold q6b at w
   refine qh<|qh<|Qd [q8,q8,qr 0,q8,q8,q8,qr 0,q8,q8,q8,q8,q8,q8,q8] qj<|q0 J<|q0 J<|O (.d (.bool (decide (ae≤c.2.1)))) J ?_
   obtain ⟨fl,o,w⟩:=q9 w
   refine Q9 11 (fun A st=>∃ (cm cn co cp cq cr cs ct cu cv : V),st = A [(112,qg fl),(111,cv),(110,cu),(109,ct),(108,cs),(107,cr),(106,cq),(105,cp),(104,co),(103,cn),(102,cm)]) ?_ ?_
   ·refine Q8 J J o (fun o=>?_) (fun o=>?_)
    ·refine q0 J<|q0 J ?_
     obtain ⟨cw,cx,o⟩:=q9 o
     refine qw cx J J<|Q7 (q6 cw) cx J<|q0 J<|q0 J ?_
     obtain ⟨cy,cz,o⟩:=q9 o
     refine qw cz J J<|Q7 (q6 cy) cz J ?_
     obtain ⟨da,fm,o⟩:=q9 o
     refine Q5 (Zm cw cy da fm) J<|O (qg da) J<|qa ?_
     obtain rfl:=qe o
     exact ⟨_,_,_,_,_,_,_,_,_,_,J⟩
    refine qd J<|qd J<|qd J<|qd J<|qd J<|qd J<|qd J<|qd J<|qd J<|O (qg false) J<|qa ?_
    obtain rfl:=qe o
    exact ⟨_,_,_,_,_,_,_,_,_,_,J⟩
   rintro _ ⟨cm,cn,co,cp,cq,cr,cs,ct,cu,cv,rfl⟩
   refine qa ?_
   refine qp J w (fun _ w=>?_) (fun _ w=>?_)
   ·refine qo<|Q1<|qy<|q0 J<|O (.d (G (w64 (ae + 1)))) J<|qb J<|qx<|Qj<|Qc ?_
    exact ⟨_,(Option.some.inj w).symm,wkA [] [] []⟩
   refine Qb ?_
   refine ⟨_,(Option.some.inj w).symm,fun hm=>?_⟩
   subst hm
   exact ⟨_,J,wkA [] [] []⟩
  intro q hb
  subst hb
  refine qh ?_
  obtain ⟨dc,fn,f⟩:=q9 f
  refine Qm (fun z=>z = dc) (fun (z : Int)=>⟨[(0,.hs 0 1 0 c.2.2.length),(1,q6 b),(10,q6 q),(11,q6 z)],[(0,.dat 1 (c.2.2.map (eI .i64)))],1⟩) qf ?_ ?_
  ·refine Qf (q6c q c b) (fun (af : Int)=>⟨[(0,.hs 0 1 0 c.2.2.length),(1,q6 b),(10,q6 q),(11,q6 af)],[(0,.dat 1 (c.2.2.map (eI .i64)))],1⟩) c.2.1 dc fn (wkA [] [] []) ?_
   intro af gb x
   unfold q6c at x
   refine qh<|qh<|Qd [q8,q8,q8,qr 0,q8,q8,q8,qr 0,q8,q8,q8,q8,q8,q8,q8] qj<|q0 J<|q0 J<|O (.d (.bool (decide (q≤af)))) J ?_
   obtain ⟨fo,p,x⟩:=q9 x
   refine Q9 12 (fun A st=>∃ (dd de df dg dh dj dk dl dm dn dp : V),st = A [(129,qg fo),(128,dp),(127,dn),(126,dm),(125,dl),(124,dk),(123,dj),(122,dh),(121,dg),(120,df),(119,de),(118,dd)]) ?_ ?_
   ·refine Q8 J J p (fun p=>?_) (fun p=>?_)
    ·refine q0 J<|q0 J ?_
     obtain ⟨dq,dr,p⟩:=q9 p
     refine qw dr J J<|Q7 (q6 dq) dr J<|q0 J<|q0 J ?_
     obtain ⟨dt,du,p⟩:=q9 p
     refine qw du J J<|Q7 (q6 dt) du J ?_
     obtain ⟨aj,fq,p⟩:=q9 p
     refine Q5 (Zm dq dt aj fq) J<|O (qg (!aj)) J<|O (qg (!aj)) J<|qa ?_
     obtain rfl:=qe p
     exact ⟨_,_,_,_,_,_,_,_,_,_,_,J⟩
    refine qd J<|qd J<|qd J<|qd J<|qd J<|qd J<|qd J<|qd J<|qd J<|qd J<|O (qg false) J<|qa ?_
    obtain rfl:=qe p
    exact ⟨_,_,_,_,_,_,_,_,_,_,_,J⟩
   rintro _ ⟨dd,de,df,dg,dh,dj,dk,dl,dm,dn,dp,rfl⟩
   refine qa ?_
   refine qp J x (fun _ x=>?_) (fun _ x=>?_)
   ·refine qo<|Q1<|qy<|q0 J<|O (.d (G (w64 (af - 1)))) J<|qb J<|qx<|Qj<|Qc ?_
    exact ⟨_,(Option.some.inj x).symm,wkA [] [] []⟩
   refine Qb ?_
   refine ⟨_,(Option.some.inj x).symm,fun hm=>?_⟩
   subst hm
   exact ⟨_,J,wkA [] [] []⟩
  intro z hb
  subst hb
  refine qh<|qc<|q0 J<|q0 J<|O (.d (.bool (decide (q > z)))) J<|qa ?_
  refine qp J f (fun _ f=>?_) (fun _ f=>?_)
  ·refine Qb ?_
   refine ⟨_,(Option.some.inj f).symm,fun hm=>?_⟩
   subst hm
   exact ⟨_,J,wkA [] [] []⟩
  refine qo<|qh<|Qd [Qh 0,q8,Qh 0,q8,qr 0,q8,q8,q8,qr 0,q8,q8,q8,q8,q8,q8,q8] qj<|q0 J<|q0 J<|q0 J<|q0 J<|q0 J<|q0 J ?_
  obtain ⟨ak,dv,f⟩:=q9 f
  refine qw dv J J<|Q7 (q6 ak) dv J<|q0 J<|q0 J ?_
  obtain ⟨al,dw,f⟩:=q9 f
  refine qw dw J J<|Q7 (q6 al) dw J ?_
  obtain ⟨gc,dx,f⟩:=q9 f
  refine qw dx J J<|Qt (ds:=[G ak]) ak dx J J J J J J J J (leb J) J ?_
  obtain ⟨gd,dy,f⟩:=q9 f
  refine qw dy qf J<|Qt (ds:=[G al]) al dy J J J J J J J J (leb J) J<|qs<|q0 J<|O (.d (G (w64 (q + 1)))) J<|qb J<|qa<|qy<|q0 J<|O (.d (G (w64 (z - 1)))) J<|qb J<|qx<|Qj<|Qc ?_
  exact ⟨_,(Option.some.inj f).symm,wkE [] [] [] J ⟨⟨_,J,Qx qf J qt (ltd J)⟩,qq J,qq J,qq J,trivial⟩ ⟨Qg J J,trivial⟩⟩
 intro y hb
 subst hb
 refine qh<|Qd [Qh 0,q8,Qh 0,q8,qr 0,q8,q8,q8,qr 0,q8,q8,q8,q8,q8,q8,q8] qj<|q0 J<|q0 J<|q0 J<|q0 J<|q0 J<|q0 J ?_
 obtain ⟨am,dz,a⟩:=q9 a
 refine qw dz J J<|Q7 (q6 am) dz J<|q0 J<|q0 J ?_
 obtain ⟨an,fa,a⟩:=q9 a
 refine qw fa J J<|Q7 (q6 an) fa J ?_
 obtain ⟨ge,fb,a⟩:=q9 a
 refine qw fb J J<|Qt (ds:=[G am]) am fb J J J J J J J J (leb J) J ?_
 obtain ⟨gf,fc,a⟩:=q9 a
 refine qw fc qf J<|Qt (ds:=[G an]) an fc J J J J J J J J (leb J) J<|qs<|q0 J<|qb J<|qb J<|qv ?_
 obtain rfl:=qe a
 exact ⟨.inr J,_,J,wkA [] [] []⟩
theorem qlm (b : Int) (r : Int) (a : q1k b = some r) : Pure Tryz.prog tab 190 [G b] (.int .u64 r):=by
 unfold q1k at a
 refine Qi Tryz.func190 J qj qj J<|qc<|qb J<|qs<|q0 J<|O (.d (.int .u64 (IntKind.wrap .u64 b))) J ?_
 obtain ⟨c,f,a⟩:=q9 a
 refine Q5 (qe3 (IntKind.wrap .u64 b) c f) J ?_
 obtain ⟨g,h,a⟩:=q9 a
 refine qs2 h J J J<|qb J<|qv ?_
 obtain rfl:=qe a
 exact Q4 (.d (.int .u64 g)) J
theorem qlp (a : Int) (r : Int) (b : q1l  a = some r) : K0 Tryz.prog tab 191 [.ref 0 1 0 0] [(0,.dat 1 [[.int .u64 a]])] 1 (.d (.int .u64 r)) [(0,.dat 1 [[.int .u64 r]])] 1:=by
 unfold q1l at b
 refine Ka Tryz.func191 J qj qj J<|qc<|qb J<|qa<|qh<|Qd [Qh 0,q8,q8,q8,qr 0,q8,q8,qr 0,q8,q8] qj<|q0 J<|O (.ref 0 1 0 0) J<|O (.d (.int .u64 a)) J<|q0 J<|O (.ref 0 1 0 0) J<|O (.d (.int .u64 a)) J<|O (.d (.int .u64 (IntKind.wrap .u64 (a * (2 ^ 13))))) J<|O (.d (.int .u64 (xorI .u64 a (IntKind.wrap .u64 (a * (2 ^ 13)))))) J<|O (.ref 0 1 0 0) J<|qz 0 (.dat 1 [[.int .u64 (xorI .u64 a (IntKind.wrap .u64 (a * (2 ^ 13))))]]) J<|qa<|qh<|Qd [Qh 0,q8,q8,q8,qr 0,q8,q8,qr 0,q8,q8] qj<|q0 J<|O (.ref 0 1 0 0) J<|O (.d (.int .u64 (xorI .u64 a (IntKind.wrap .u64 (a * (2 ^ 13)))))) J<|q0 J<|O (.ref 0 1 0 0) J<|O (.d (.int .u64 (xorI .u64 a (IntKind.wrap .u64 (a * (2 ^ 13)))))) J<|O (.d (.int .u64 (Int.fdiv (xorI .u64 a (IntKind.wrap .u64 (a * (2 ^ 13)))) (2 ^ 7)))) J<|O (.d (.int .u64 (xorI .u64 (xorI .u64 a (IntKind.wrap .u64 (a * (2 ^ 13)))) (Int.fdiv (xorI .u64 a (IntKind.wrap .u64 (a * (2 ^ 13)))) (2 ^ 7))))) J<|O (.ref 0 1 0 0) J<|qz 0 (.dat 1 [[.int .u64 (xorI .u64 (xorI .u64 a (IntKind.wrap .u64 (a * (2 ^ 13)))) (Int.fdiv (xorI .u64 a (IntKind.wrap .u64 (a * (2 ^ 13)))) (2 ^ 7)))]]) J<|qa<|qh<|Qd [Qh 0,q8,q8,q8,qr 0,q8,q8,qr 0,q8,q8] qj<|q0 J<|O (.ref 0 1 0 0) J<|O (.d (.int .u64 (xorI .u64 (xorI .u64 a (IntKind.wrap .u64 (a * (2 ^ 13)))) (Int.fdiv (xorI .u64 a (IntKind.wrap .u64 (a * (2 ^ 13)))) (2 ^ 7))))) J<|q0 J<|O (.ref 0 1 0 0) J<|O (.d (.int .u64 (xorI .u64 (xorI .u64 a (IntKind.wrap .u64 (a * (2 ^ 13)))) (Int.fdiv (xorI .u64 a (IntKind.wrap .u64 (a * (2 ^ 13)))) (2 ^ 7))))) J<|O (.d (.int .u64 (IntKind.wrap .u64 ((xorI .u64 (xorI .u64 a (IntKind.wrap .u64 (a * (2 ^ 13)))) (Int.fdiv (xorI .u64 a (IntKind.wrap .u64 (a * (2 ^ 13)))) (2 ^ 7))) * (2 ^ 17))))) J<|O (.d (.int .u64 (xorI .u64 (xorI .u64 (xorI .u64 a (IntKind.wrap .u64 (a * (2 ^ 13)))) (Int.fdiv (xorI .u64 a (IntKind.wrap .u64 (a * (2 ^ 13)))) (2 ^ 7))) (IntKind.wrap .u64 ((xorI .u64 (xorI .u64 a (IntKind.wrap .u64 (a * (2 ^ 13)))) (Int.fdiv (xorI .u64 a (IntKind.wrap .u64 (a * (2 ^ 13)))) (2 ^ 7))) * (2 ^ 17)))))) J ?_
 refine O (.ref 0 1 0 0) J<|qz 0 (.dat 1 [[.int .u64 (xorI .u64 (xorI .u64 (xorI .u64 a (IntKind.wrap .u64 (a * (2 ^ 13)))) (Int.fdiv (xorI .u64 a (IntKind.wrap .u64 (a * (2 ^ 13)))) (2 ^ 7))) (IntKind.wrap .u64 ((xorI .u64 (xorI .u64 a (IntKind.wrap .u64 (a * (2 ^ 13)))) (Int.fdiv (xorI .u64 a (IntKind.wrap .u64 (a * (2 ^ 13)))) (2 ^ 7))) * (2 ^ 17))))]]) J<|qs<|q0 J<|O (.ref 0 1 0 0) J<|O (.d (.int .u64 (xorI .u64 (xorI .u64 (xorI .u64 a (IntKind.wrap .u64 (a * (2 ^ 13)))) (Int.fdiv (xorI .u64 a (IntKind.wrap .u64 (a * (2 ^ 13)))) (2 ^ 7))) (IntKind.wrap .u64 ((xorI .u64 (xorI .u64 a (IntKind.wrap .u64 (a * (2 ^ 13)))) (Int.fdiv (xorI .u64 a (IntKind.wrap .u64 (a * (2 ^ 13)))) (2 ^ 7))) * (2 ^ 17)))))) J<|qb J<|qv ?_
 obtain rfl:=qe b
 exact ⟨.inr J,_,J,wkA [] [] []⟩
theorem qw9 (m : List Int) (a : Int) (b : Int) (r : List Int) (g : q5p  m a b = some r) : K0 Tryz.prog tab 177 [.hs 0 1 0 m.length,q6 a,q6 b] [(0,.dat 1 (m.map (eI .i64)))] 1 (.d (.tup [])) [(0,.dat 1 (r.map (eI .i64)))] 1:=by
 unfold q5p at g
 refine Ka Tryz.func177 J qj qj J<|qc<|q0 J<|q0 J<|O (.d (G (w64 (b - a)))) J<|qb J<|qs<|q0 J<|O (.d (.bool (decide ((w64 (b - a)) ≥ 8)))) J<|qa ?_
 refine qp J g (fun _ g=>?_) (fun _ g=>?_)
 ·refine qc<|q0 J<|O (.d (.int .u64 (IntKind.wrap .u64 (w64 (b - a))))) J<|Qe J J<|qz 1 (.dat 1 [[.int .u64 (IntKind.wrap .u64 (w64 (b - a)))]]) J<|qs<|q0 J ?_
  obtain ⟨h,u,g⟩:=q9 g
  refine Q5 (qlm (w64 (b - a)) h u) J<|qb J<|qs<|q0 J<|q0 J<|O (.d (G (w64 (Int.tdiv (w64 (b - a)) 4)))) J<|O (.d (G (w64 ((w64 (Int.tdiv (w64 (b - a)) 4)) * 2)))) J<|O (.d (G (w64 (a + (w64 ((w64 (Int.tdiv (w64 (b - a)) 4)) * 2)))))) J<|O (.d (G (w64 ((w64 (a + (w64 ((w64 (Int.tdiv (w64 (b - a)) 4)) * 2)))) - 1)))) J<|qb J<|qa ?_
  obtain ⟨v,w,g⟩:=q9 g
  refine Q1<|Qf (q5q a b h) (fun (f : Int × List Int × Int)=>⟨[(0,.hs 0 1 0 f.2.1.length),(1,q6 a),(6,.d (G (w64 (b - a)))),(7,.ref 1 1 0 0),(8,.d (.int .u64 h)),(9,q6 f.1)],[(0,.dat 1 (f.2.1.map (eI .i64))),(1,.dat 1 [[.int .u64 f.2.2]])],2⟩) (w64 ((w64 (a + (w64 ((w64 (Int.tdiv (w64 (b - a)) 4)) * 2)))) - 1),m,IntKind.wrap .u64 (w64 (b - a))) v w (wkA [(1,1)] [] []) ?_
  intro f z c
  unfold q5q at c
  refine qh<|qc<|q0 J<|q0 J<|q0 J<|O (.d (G (w64 (Int.tdiv (w64 (b - a)) 4)))) J<|O (.d (G (w64 ((w64 (Int.tdiv (w64 (b - a)) 4)) * 2)))) J<|O (.d (G (w64 (a + (w64 ((w64 (Int.tdiv (w64 (b - a)) 4)) * 2)))))) J<|O (.d (G (w64 ((w64 (a + (w64 ((w64 (Int.tdiv (w64 (b - a)) 4)) * 2)))) + 1)))) J<|O (.d (.bool (decide (f.1≤(w64 ((w64 (a + (w64 ((w64 (Int.tdiv (w64 (b - a)) 4)) * 2)))) + 1)))))) J<|qa ?_
  refine qp J c (fun _ c=>?_) (fun _ c=>?_)
  ·refine qo<|qh<|Q1<|qc ?_
   obtain ⟨j,x,c⟩:=q9 c
   refine K2 [(0,1)] [(0,1),(1,0)] [.ref 1 1 0 0] (.d (.int .u64 j)) 1 [(1,.dat 1 [[.int .u64 j]]),(0,.dat 1 (f.2.1.map (eI .i64)))] 2 (qlp f.2.2 j x)<|q0 J<|O (.d (.int .u64 (IntKind.wrap .u64 (h - 1)))) J<|O (.d (.int .u64 (andI .u64 j (IntKind.wrap .u64 (h - 1))))) J<|O (.d (G (w64 (andI .u64 j (IntKind.wrap .u64 (h - 1)))))) J<|qb J<|qa<|qh<|qc<|q0 J<|q0 J<|O (.d (.bool (decide ((w64 (andI .u64 j (IntKind.wrap .u64 (h - 1)))) ≥ (w64 (b - a)))))) J<|qa ?_
   obtain ⟨y,l,c⟩:=q9 c
   refine Yi (fun k=>k = y) (fun (k : Int)=>⟨[(0,.hs 0 1 0 f.2.1.length),(1,q6 a),(6,.d (G (w64 (b - a)))),(7,.ref 1 1 0 0),(8,.d (.int .u64 h)),(9,q6 f.1),(10,q6 k)],[(0,.dat 1 (f.2.1.map (eI .i64))),(1,.dat 1 [[.int .u64 j]])],2⟩) qf ?_ ?_
   ·refine qp J l (fun _ l=>?_) (fun _ l=>?_)
    ·refine qy<|q0 J<|q0 J<|O (.d (G (w64 ((w64 (andI .u64 j (IntKind.wrap .u64 (h - 1)))) - (w64 (b - a)))))) J<|qb J<|qx ?_
     obtain rfl:=qe l
     exact ⟨_,J,wkA [(1,1)] [] []⟩
    refine qo<|Qc ?_
    obtain rfl:=qe l
    exact ⟨_,J,wkA [(1,1)] [] []⟩
   intro k hb
   subst hb
   refine Qd [Qh 0,q8,Qh 0,q8,qr 0,q8,q8,q8,qr 0,q8,q8,q8,q8,q8,q8,q8,q8,q8,q8,q8] qj<|q0 J<|q0 J<|q0 J<|q0 J<|q0 J<|O (.d (G (w64 (a + k)))) J<|q0 J<|q0 J<|q0 J<|O (.d (G (w64 (a + k)))) J ?_
   obtain ⟨n,p,c⟩:=q9 c
   refine qw p J J<|Q7 (q6 n) p J<|q0 J<|q0 J ?_
   obtain ⟨o,q,c⟩:=q9 c
   refine qw q J J<|Q7 (q6 o) q J ?_
   obtain ⟨aa,s,c⟩:=q9 c
   refine qw s J J<|Qt (ds:=[G n]) n s J J J J J J J J (leb J) J ?_
   obtain ⟨ab,t,c⟩:=q9 c
   refine qw t qf J<|Qt (ds:=[G o]) o t J J J J J J J J (leb J) J<|qx<|Qj<|qy<|q0 J<|O (.d (G (w64 (f.1 + 1)))) J<|qb J<|qx ?_
   exact ⟨_,(Option.some.inj c).symm,wkE [(1,1)] [] [] J ⟨⟨_,J,Qx qf J qt (ltd J)⟩,qq J,qq J,⟨_,J,.ref J qt (ltd J)⟩,qq J,qq J,trivial⟩ ⟨Qg J J,Qg J J,trivial⟩⟩
  refine Qb ?_
  refine ⟨_,(Option.some.inj c).symm,fun hm=>?_⟩
  subst hm
  obtain rfl:=qe g
  exact ⟨.inl J,_,J,wkA [] [] []⟩
 refine qo<|Qc ?_
 obtain rfl:=qe g
 exact ⟨.inl J,_,J,wkA [] [] []⟩
theorem qwo (rec : List Int→Int→Int→Int→Option (List Int)) (hrec : ∀ (n : List Int) (o : Int) (p : Int) (q : Int) (r : List Int),rec n o p q = some r→K0 Tryz.prog tab 164 [.hs 0 1 0 n.length,q6 o,q6 p,q6 q] [(0,.dat 1 (n.map (eI .i64)))] 1 (.d (.tup [])) [(0,.dat 1 (r.map (eI .i64)))] 1) (n : List Int) (o : Int) (p : Int) (q : Int) (r : List Int) (s : q3x rec  n o p q = some r) : K0 Tryz.prog tab 164 [.hs 0 1 0 n.length,q6 o,q6 p,q6 q] [(0,.dat 1 (n.map (eI .i64)))] 1 (.d (.tup [])) [(0,.dat 1 (r.map (eI .i64)))] 1:=by
 unfold q3x at s
 refine Ka Tryz.func164 J qj qj J<|qc<|qb J<|qs<|qb J<|qa ?_
 obtain ⟨bd,be,s⟩:=q9 s
 refine Q1<|Qf (q3w rec) (fun (a : Int × Int × Int × Bool × Bool × List Int)=>⟨[(0,.hs 0 1 0 a.2.2.2.2.2.length),(1,q6 a.1),(2,q6 a.2.1),(3,q6 a.2.2.1),(8,qg a.2.2.2.1),(9,qg a.2.2.2.2.1)],[(0,.dat 1 (a.2.2.2.2.2.map (eI .i64)))],1⟩) (o,p,q,true,true,n) bd be (wkA [] [] []) ?_
 intro a cn b
 unfold q3w at b
 refine Q1<|qc<|q0 J<|q0 J<|O (.d (G (w64 (a.2.1 - a.1)))) J<|qb J<|qa<|qh<|qc<|q0 J<|O (.d (.bool (decide ((w64 (a.2.1 - a.1))≤12)))) J<|qa ?_
 refine qp J b (fun _ b=>?_) (fun _ b=>?_)
 ·refine qc<|q0 J<|q0 J<|q0 J ?_
  obtain ⟨ac,bf,b⟩:=q9 b
  obtain ⟨co,bg,b⟩:=q9 b
  have cp:=Kd bg
  refine K2 [(0,0)] [(0,0)] [.hs 0 1 0 a.2.2.2.2.2.length,q6 a.1,q6 a.2.1] (.d (.tup [])) 1 [(0,.dat 1 (ac.map (eI .i64)))] 1 (qwf a.2.2.2.2.2 a.1 a.2.1 ac bf)<|qv ?_
  refine ⟨_,(Option.some.inj b).symm,fun hm=>?_⟩
  subst hm
  obtain rfl:=qe s
  exact ⟨.inr J,_,J,wkA [] [] []⟩
 refine qo<|qh<|qc<|q0 J<|O (qg (a.2.2.1 == 0)) J<|qa ?_
 refine qp J b (fun _ b=>?_) (fun _ b=>?_)
 ·refine qc<|q0 J<|q0 J<|q0 J ?_
  obtain ⟨ad,bh,b⟩:=q9 b
  obtain ⟨cq,bi,b⟩:=q9 b
  have cr:=Kd bi
  refine K2 [(0,0)] [(0,0)] [.hs 0 1 0 a.2.2.2.2.2.length,q6 a.1,q6 a.2.1] (.d (.tup [])) 1 [(0,.dat 1 (ad.map (eI .i64)))] 1 (qwd a.2.2.2.2.2 a.1 a.2.1 ad bh)<|qv ?_
  refine ⟨_,(Option.some.inj b).symm,fun hm=>?_⟩
  subst hm
  obtain rfl:=qe s
  exact ⟨.inr J,_,J,wkA [] [] []⟩
 refine qo<|qh<|qc<|q0 J<|O (qg (!a.2.2.2.1)) J<|qa ?_
 obtain ⟨bj,l,b⟩:=q9 b
 refine Yi (fun f=>f = bj) (fun (f : Int × List Int)=>⟨[(0,.hs 0 1 0 f.2.length),(1,q6 a.1),(2,q6 a.2.1),(3,q6 f.1),(8,qg a.2.2.2.1),(9,qg a.2.2.2.2.1),(10,.d (G (w64 (a.2.1 - a.1))))],[(0,.dat 1 (f.2.map (eI .i64)))],1⟩) qf ?_ ?_
 ·refine qp J l (fun _ l=>?_) (fun _ l=>?_)
  ·refine qc<|q0 J<|q0 J<|q0 J ?_
   obtain ⟨ae,bk,l⟩:=q9 l
   obtain ⟨cs,bl,l⟩:=q9 l
   have bm:=Kd bl
   refine K2 [(0,0)] [(0,0)] [.hs 0 1 0 a.2.2.2.2.2.length,q6 a.1,q6 a.2.1] (.d (.tup [])) 1 [(0,.dat 1 (ae.map (eI .i64)))] 1 (qw9 a.2.2.2.2.2 a.1 a.2.1 ae bk)<|qa<|qy<|q0 J<|O (.d (G (w64 (a.2.2.1 - 1)))) J<|qb J<|qx ?_
   obtain rfl:=qe l
   exact ⟨_,J,wkE [] [] [] J ⟨⟨_,J,Qx (by simp [bm]) J qt (ltd J)⟩,qq J,qq J,qq J,qq J,qq J,qq J,trivial⟩ ⟨Qg J J,trivial⟩⟩
  refine qo<|Qc ?_
  obtain rfl:=qe l
  exact ⟨_,J,wkA [] [] []⟩
 intro f hb
 subst hb
 refine qc<|q0 J<|q0 J<|q0 J ?_
 obtain ⟨t,bn,b⟩:=q9 b
 refine q4z [.hs 0 1 0 f.2.length,q6 a.1,q6 a.2.1] (qwb f.2 a.1 a.2.1 t bn) J J (Ju (Jb J J) (Ju J (Ju J J))) (.inr J)<|q0 J<|O (q6 t.1) J<|O (q6 t.2) J<|qb J<|qb J<|qa<|qh<|qc<|q0 J<|O (qg (t.2 == 2)) J<|qa ?_
 obtain ⟨bo,m,b⟩:=q9 b
 refine Yi (fun g=>g = bo) (fun (g : Int × Int × List Int)=>⟨[(0,.hs 0 1 0 g.2.2.length),(1,q6 a.1),(2,q6 a.2.1),(3,q6 f.1),(8,qg a.2.2.2.1),(9,qg a.2.2.2.2.1),(10,.d (G (w64 (a.2.1 - a.1)))),(11,q6 g.1),(12,q6 g.2.1)],[(0,.dat 1 (g.2.2.map (eI .i64)))],1⟩) qf ?_ ?_
 ·refine qp J m (fun _ m=>?_) (fun _ m=>?_)
  ·refine qc<|q0 J<|q0 J<|q0 J ?_
   obtain ⟨af,bp,m⟩:=q9 m
   obtain ⟨ct,bq,m⟩:=q9 m
   have br:=Kd bq
   refine K2 [(0,0)] [(0,0)] [.hs 0 1 0 f.2.length,q6 a.1,q6 a.2.1] (.d (.tup [])) 1 [(0,.dat 1 (af.map (eI .i64)))] 1 (qwr f.2 a.1 a.2.1 af bp)<|qs<|q0 J<|O (.d (G (w64 (a.2.1 - 1)))) J<|q0 J<|q0 J<|O (.d (G (w64 (t.1 - a.1)))) J<|O (.d (G (w64 ((w64 (a.2.1 - 1)) - (w64 (t.1 - a.1)))))) J<|qb J<|qa<|qy<|qb J<|qx ?_
   obtain rfl:=qe m
   exact ⟨_,J,wkE [] [] [] J ⟨⟨_,J,Qx (by simp [br]) J qt (ltd J)⟩,qq J,qq J,qq J,qq J,qq J,qq J,qq J,qq J,trivial⟩ ⟨Qg J J,trivial⟩⟩
  refine qo<|Qc ?_
  obtain rfl:=qe m
  exact ⟨_,J,wkA [] [] []⟩
 intro g hb
 subst hb
 refine qh<|qc<|q0 J ?_
 obtain ⟨bs,u,b⟩:=q9 b
 refine Q9 3 (fun A st=>∃ (ag ah : V),st = A [(64,qg bs),(63,ah),(62,ag)]) ?_ ?_
 ·refine Q8 J J u (fun u=>?_) (fun u=>?_)
  ·refine q0 J<|O (qg a.2.2.2.2.1) J<|qa ?_
   obtain rfl:=qe u
   exact ⟨_,_,J⟩
  refine qd J<|O (qg false) J<|qa ?_
  obtain rfl:=qe u
  exact ⟨_,_,J⟩
 rintro _ ⟨ag,ah,rfl⟩
 obtain ⟨bt,v,b⟩:=q9 b
 refine Q9 4 (fun A st=>∃ (ai aj ak : V),st = A [(68,qg bt),(67,ak),(66,aj),(65,ai)]) ?_ ?_
 ·refine Q8 J J v (fun v=>?_) (fun v=>?_)
  ·refine q0 J<|O (qg (g.2.1 == 1)) J<|O (qg (g.2.1 == 1)) J<|qa ?_
   obtain rfl:=qe v
   exact ⟨_,_,_,J⟩
  refine qd J<|qd J<|O (qg false) J<|qa ?_
  obtain rfl:=qe v
  exact ⟨_,_,_,J⟩
 rintro _ ⟨ai,aj,ak,rfl⟩
 refine qa ?_
 obtain ⟨bu,h,b⟩:=q9 b
 refine Yi (fun j=>.inl j = bu) (fun (j : List Int)=>⟨[(0,.hs 0 1 0 j.length),(1,q6 a.1),(2,q6 a.2.1),(3,q6 f.1),(8,qg a.2.2.2.1),(9,qg a.2.2.2.2.1),(10,.d (G (w64 (a.2.1 - a.1)))),(11,q6 g.1)],[(0,.dat 1 (j.map (eI .i64)))],1⟩) qf ?_ ?_
 ·refine qp J h (fun _ h=>?_) (fun _ h=>?_)
  ·refine qc<|q0 J<|q0 J<|q0 J ?_
   obtain ⟨x,bv,h⟩:=q9 h
   obtain ⟨cu,bw,h⟩:=q9 h
   have bz:=Kd bw
   refine K2 [(0,0)] [(0,0)] [.hs 0 1 0 g.2.2.length,q6 a.1,q6 a.2.1] (qg x.1) 1 [(0,.dat 1 (x.2.map (eI .i64)))] 1 (qwh g.2.2 a.1 a.2.1 x bv)<|qa ?_
   refine qp J h (fun _ h=>?_) (fun _ h=>?_)
   ·refine q1h ?_
    obtain rfl:=qe h
    refine ⟨_,(Option.some.inj b).symm,fun hm=>?_⟩
    subst hm
    obtain rfl:=qe s
    exact ⟨.inr J,_,J,wkA [] [] []⟩
   refine qo<|Qc ?_
   obtain rfl:=qe h
   exact ⟨_,J,wkE [] [] [] J ⟨⟨_,J,Qx (by simp [bz]) J qt (ltd J)⟩,qq J,qq J,qq J,qq J,qq J,qq J,qq J,trivial⟩ ⟨Qg J J,trivial⟩⟩
  refine qo<|Qc ?_
  obtain rfl:=qe h
  exact ⟨_,J,wkA [] [] []⟩
 intro j hb
 subst hb
 refine qh<|qh<|Qd [q8,q8,q8,qr 0,q8,q8,q8,qr 0,q8,q8,q8,q8,q8,q8,q8] qj<|q0 J<|O (.d (.bool (decide (a.1 > 0)))) J ?_
 obtain ⟨ca,k,b⟩:=q9 b
 refine Q9 13 (fun A st=>∃ (al am an ao ap aq ar au av aw ax ay : V),st = A [(87,qg ca),(86,ay),(85,ax),(84,aw),(83,av),(82,au),(81,ar),(80,aq),(79,ap),(78,ao),(77,an),(76,am),(75,al)]) ?_ ?_
 ·refine Q8 J J k (fun k=>?_) (fun k=>?_)
  ·refine q0 J<|q0 J<|O (.d (G (w64 (a.1 - 1)))) J ?_
   obtain ⟨az,ba,k⟩:=q9 k
   refine qw ba J J<|Q7 (q6 az) ba J<|q0 J<|q0 J ?_
   obtain ⟨bb,bc,k⟩:=q9 k
   refine qw bc J J<|Q7 (q6 bb) bc J ?_
   obtain ⟨y,cb,k⟩:=q9 k
   refine Q5 (Zm az bb y cb) J<|O (qg (!y)) J<|O (qg (!y)) J<|qa ?_
   obtain rfl:=qe k
   exact ⟨_,_,_,_,_,_,_,_,_,_,_,_,J⟩
  refine qd J<|qd J<|qd J<|qd J<|qd J<|qd J<|qd J<|qd J<|qd J<|qd J<|qd J<|O (qg false) J<|qa ?_
  obtain rfl:=qe k
  exact ⟨_,_,_,_,_,_,_,_,_,_,_,_,J⟩
 rintro _ ⟨al,am,an,ao,ap,aq,ar,au,av,aw,ax,ay,rfl⟩
 refine qa ?_
 refine qp J b (fun _ b=>?_) (fun _ b=>?_)
 ·refine qc<|q0 J<|q0 J<|q0 J<|q0 J ?_
  obtain ⟨z,cc,b⟩:=q9 b
  obtain ⟨cv,cd,b⟩:=q9 b
  have ce:=Kd cd
  refine K2 [(0,0)] [(0,0)] [.hs 0 1 0 j.length,q6 a.1,q6 a.2.1,q6 g.1] (q6 z.1) 1 [(0,.dat 1 (z.2.map (eI .i64)))] 1 (qwk j a.1 a.2.1 g.1 z cc)<|qb J<|qs<|q0 J<|qb J<|qa<|Qb<|Ji<|Qc ?_
  exact ⟨_,(Option.some.inj b).symm,wkE [] [] [] J ⟨⟨_,J,Qx (by simp [ce]) J qt (ltd J)⟩,qq J,qq J,qq J,qq J,qq J,trivial⟩ ⟨Qg J J,trivial⟩⟩
 refine qo<|qc<|q0 J<|q0 J<|q0 J<|q0 J ?_
 obtain ⟨c,cf,b⟩:=q9 b
 obtain ⟨cw,cg,b⟩:=q9 b
 have w:=Kd cg
 refine K2 [(0,0)] [(0,0)] [.hs 0 1 0 j.length,q6 a.1,q6 a.2.1,q6 g.1] (.d (.tup [G c.1,.bool c.2.1])) 1 [(0,.dat 1 (c.2.2.map (eI .i64)))] 1 (qwl j a.1 a.2.1 g.1 c cf)<|q0 J<|O (q6 c.1) J<|O (qg c.2.1) J<|qb J<|qb J<|qs<|q0 J<|qb J<|qs<|q0 J<|q0 J<|O (.d (G (w64 (c.1 - a.1)))) J<|q0 J<|q0 J<|O (.d (G (w64 (a.2.1 - c.1)))) J<|qb J<|qb J<|qs<|q0 J<|O (.d (G (w64 (Int.tdiv (w64 (a.2.1 - a.1)) 8)))) J<|qb J<|qs<|q0 J<|q0 J<|O (.d (.bool (decide ((w64 (c.1 - a.1)) < (w64 (a.2.1 - c.1)))))) J<|qa ?_
 refine qp J b (fun _ b=>?_) (fun _ b=>?_)
 ·refine qc<|q0 J<|q0 J<|O (.d (.bool (decide ((w64 (c.1 - a.1)) ≥ (w64 (Int.tdiv (w64 (a.2.1 - a.1)) 8)))))) J<|qb J<|qs<|q0 J<|q0 J<|q0 J<|q0 J ?_
  obtain ⟨aa,ch,b⟩:=q9 b
  obtain ⟨cx,ci,b⟩:=q9 b
  have cj:=Kd ci
  refine Jq [(0,0)] [(0,0)] [.hs 0 1 0 j.length,q6 a.1,q6 c.1,q6 f.1] (.d (.tup [])) [(0,.dat 1 (aa.map (eI .i64)))] [(0,.dat 1 (aa.map (eI .i64)))] 1 (hrec c.2.2 a.1 c.1 f.1 aa ch) J J J (Y4 [(0,0)] [] [] J ⟨⟨_,J,Qx (by simp [w]) J qt (ltd J)⟩,qq J,qq J,qq J,trivial⟩ ⟨Qg J J,trivial⟩) (Y4 [(0,0)] [] [] J ⟨qq J,trivial⟩ ⟨Qg J J,trivial⟩) J ⟨.inl J,trivial⟩<|qa<|qy<|q0 J<|O (.d (G (w64 (c.1 + 1)))) J<|qb J<|qx<|Qj<|Qc ?_
  exact ⟨_,(Option.some.inj b).symm,wkE [] [] [] J ⟨⟨_,J,Qx (by simp [w,cj]) J qt (ltd J)⟩,qq J,qq J,qq J,qq J,qq J,trivial⟩ ⟨Qg J J,trivial⟩⟩
 refine qc<|q0 J<|q0 J<|O (.d (.bool (decide ((w64 (a.2.1 - c.1)) ≥ (w64 (Int.tdiv (w64 (a.2.1 - a.1)) 8)))))) J<|qb J<|qs<|q0 J<|q0 J<|O (.d (G (w64 (c.1 + 1)))) J<|q0 J<|q0 J ?_
 obtain ⟨ab,ck,b⟩:=q9 b
 obtain ⟨cy,cl,b⟩:=q9 b
 have cm:=Kd cl
 refine Jq [(0,0)] [(0,0)] [.hs 0 1 0 j.length,.d (G (w64 (c.1 + 1))),q6 a.2.1,q6 f.1] (.d (.tup [])) [(0,.dat 1 (ab.map (eI .i64)))] [(0,.dat 1 (ab.map (eI .i64)))] 1 (hrec c.2.2 (w64 (c.1 + 1)) a.2.1 f.1 ab ck) J J J (Y4 [(0,0)] [] [] J ⟨⟨_,J,Qx (by simp [w]) J qt (ltd J)⟩,qq J,qq J,qq J,trivial⟩ ⟨Qg J J,trivial⟩) (Y4 [(0,0)] [] [] J ⟨qq J,trivial⟩ ⟨Qg J J,trivial⟩) J ⟨.inl J,trivial⟩<|qa<|qy<|q0 J<|qb J<|qx<|Qj<|Qc ?_
 exact ⟨_,(Option.some.inj b).symm,wkE [] [] [] J ⟨⟨_,J,Qx (by simp [w,cm]) J qt (ltd J)⟩,qq J,qq J,qq J,qq J,qq J,trivial⟩ ⟨Qg J J,trivial⟩⟩
theorem qwp (n : Nat) : ∀ (a : List Int) (b : Int) (c : Int) (f : Int) (r : List Int),q6g n  a b c f = some r→K0 Tryz.prog tab 164 [.hs 0 1 0 a.length,q6 b,q6 c,q6 f] [(0,.dat 1 (a.map (eI .i64)))] 1 (.d (.tup [])) [(0,.dat 1 (r.map (eI .i64)))] 1:=by
 induction n with
 | zero=>intro a b c f r g;cases g
 | succ n ih=>intro a b c f r g;exact qwo (q6g n )   ih a b c f r g
theorem qbv (a : List Int) (r : List Int) (b : Jr  a = some r) : K0 Tryz.prog tab 144 [.hs 0 1 0 a.length] [(0,.dat 1 (a.map (eI .i64)))] 1 (.d (.tup [])) [(0,.dat 1 (r.map (eI .i64)))] 1:=by
 unfold Jr at b
 refine Ka Tryz.func144 J qj qj J<|qc<|q0 J<|O (q6 (a.length : Int)) J<|qb J<|qa<|qy<|q0 J<|q0 J<|q0 J<|O (.d (.int .u64 (IntKind.wrap .u64 (a.length : Int)))) J ?_
 obtain ⟨c,h,b⟩:=q9 b
 refine Q5 (qe3 (IntKind.wrap .u64 (a.length : Int)) c h) J ?_
 obtain ⟨g,f,b⟩:=q9 b
 obtain ⟨l,j,b⟩:=q9 b
 have m:=Kd j
 obtain ⟨k,f⟩:=qe0 f
 refine K2 [(0,0)] [(0,0)] [.hs 0 1 0 a.length,q6 0,q6 (a.length : Int),q6 c] (.d (.tup [])) 1 [(0,.dat 1 (g.map (eI .i64)))] 1 (qwp k a 0 (a.length : Int) c g f)<|qx ?_
 obtain rfl:=qe b
 exact ⟨.inl J,_,J,wkA [] [] []⟩
theorem qbm (c : List Int) (r : (Nat × Nat) × List Int) (g : Uq  c = some r) : K0 Tryz.prog tab 145 [.hs 0 1 0 c.length] [(0,.dat 1 (c.map (eI .i64)))] 1 (.hs 0 1 r.1.1 r.1.2) [(0,.dat 1 (r.2.map (eI .i64)))] 1:=by
 unfold Uq at g
 refine Ka Tryz.func145 J qj qj J<|qc<|qb J<|qa<|qh<|qc<|q0 J<|O (q6 (c.length : Int)) J<|O (.d (.bool (decide ((c.length : Int) < 2)))) J<|qa ?_
 refine qp J g (fun _ g=>?_) (fun _ g=>?_)
 ·refine qc<|q0 J<|qb J<|qv ?_
  obtain rfl:=qe g
  exact ⟨.inr J,_,J,wkA [] [] []⟩
 refine qo<|qh<|qc<|qb J<|qa ?_
 obtain ⟨p,ae,g⟩:=q9 g
 refine Qm (fun m=>.inl m = p) (fun (m : Unit)=>⟨[(0,.hs 0 1 0 c.length)],[(0,.dat 1 (c.map (eI .i64)))],1⟩) qf ?_ ?_
 ·refine Qf (J8 c) (fun (l : Int)=>⟨[(0,.hs 0 1 0 c.length),(3,q6 l)],[(0,.dat 1 (c.map (eI .i64)))],1⟩) 1 p ae (wkA [] [] []) ?_
  intro l ak a
  unfold J8 at a
  refine qh<|qc<|q0 J<|q0 J<|O (q6 (c.length : Int)) J<|O (.d (.bool (decide (l < (c.length : Int))))) J<|qa ?_
  refine qp J a (fun _ a=>?_) (fun _ a=>?_)
  ·refine qo<|qh<|Q1<|qh<|Qd [q8,qr 0,q8,q8,q8,q8,qr 0,q8,q8,q8] qj<|q0 J<|q0 J ?_
   obtain ⟨q,s,a⟩:=q9 a
   refine qw s J J<|Q7 (q6 q) s J<|q0 J<|q0 J<|O (.d (G (w64 (l - 1)))) J ?_
   obtain ⟨t,u,a⟩:=q9 a
   refine qw u J J<|Q7 (q6 t) u J<|O (qg (q == t)) J<|qa ?_
   refine qp J a (fun _ a=>?_) (fun _ a=>?_)
   ·refine qc<|q0 J<|q0 J ?_
    obtain ⟨af,ag,a⟩:=q9 a
    refine qeg ag J J J J J (qa2 J) (fun _=>rfl)<|qb J<|qa<|qh<|qc<|qb J<|qa ?_
    obtain ⟨v,ah,a⟩:=q9 a
    refine Qm (fun h=>h = v) (fun (h : Int × List Int)=>⟨[(0,.hs 0 1 0 h.2.length),(3,q6 h.1)],[(0,.dat 1 (h.2.map (eI .i64)))],1⟩) qf ?_ ?_
    ·refine Qf (q1j) (fun (b : Int × (Nat × Nat) × Int × List Int)=>⟨[(0,.hs 0 1 0 b.2.2.2.length),(3,q6 b.1),(4,.hs 0 1 b.2.1.1 b.2.1.2),(5,q6 b.2.2.1)],[(0,.dat 1 (b.2.2.2.map (eI .i64)))],1⟩) (l,af,1,c) v ah (wkA [] [] []) ?_
     intro b al j
     unfold q1j at j
     refine qh<|qc<|q0 J<|q0 J<|O (q6 (b.2.1.2 : Int)) J<|O (.d (.bool (decide (b.2.2.1 < (b.2.1.2 : Int))))) J<|qa ?_
     refine qp J j (fun _ j=>?_) (fun _ j=>?_)
     ·refine qo<|qh ?_
      obtain ⟨ai,f,j⟩:=q9 j
      refine Qm (fun k=>k = ai) (fun (k : Int × (Nat × Nat) × List Int)=>⟨[(0,.hs 0 1 0 k.2.2.length),(3,q6 k.1),(4,.hs 0 1 k.2.1.1 k.2.1.2),(5,q6 b.2.2.1)],[(0,.dat 1 (k.2.2.map (eI .i64)))],1⟩) qf ?_ ?_
      ·refine qh<|Qd [q8,qr 0,q8,q8,q8,q8,qr 0,q8,q8,q8] qj<|q0 J<|q0 J ?_
       obtain ⟨x,y,f⟩:=q9 f
       refine qed y J J J J J J<|Q7 (q6 x) (qdw y) J<|q0 J<|q0 J<|O (.d (G (w64 (b.2.2.1 - 1)))) J ?_
       obtain ⟨z,aa,f⟩:=q9 f
       refine qed aa J J J J J J<|Q7 (q6 z) (qdw aa) J<|O (qg (x != z)) J<|qa ?_
       refine qp J f (fun _ f=>?_) (fun _ f=>?_)
       ·refine qc<|q0 J<|q0 J<|q0 J<|q0 J ?_
        obtain ⟨n,ab,f⟩:=q9 f
        refine qed ab J J J J J J<|Q7 (q6 n) (qdw ab) J ?_
        obtain ⟨am,ac,f⟩:=q9 f
        refine qw ac J J<|Qt (ds:=[G n]) n ac J J J J J J J J (leb J) J<|qa<|qy<|q0 J<|O (.d (G (w64 (b.1 + 1)))) J<|qb J<|qx ?_
        obtain rfl:=qe f
        exact ⟨_,J,wkE [] [] [] J ⟨⟨_,J,Qx qf J qt (ltd J)⟩,qq J,⟨_,J,.hs J qt (ltd J)⟩,qq J,trivial⟩ ⟨Qg J J,trivial⟩⟩
       refine qo<|Qc ?_
       obtain rfl:=qe f
       exact ⟨_,J,wkA [] [] []⟩
      intro k hb
      subst hb
      refine qy<|q0 J<|O (.d (G (w64 (b.2.2.1 + 1)))) J<|qb J<|qx ?_
      exact ⟨_,(Option.some.inj j).symm,wkA [] [] []⟩
     refine Qb ?_
     refine ⟨_,(Option.some.inj j).symm,fun hm=>?_⟩
     subst hm
     exact ⟨_,J,wkA [] [] []⟩
    intro h hb
    subst hb
    refine qc<|q0 J<|q0 J ?_
    obtain ⟨ad,o,a⟩:=q9 a
    refine qeg o J J J J J (qa2 J) (fun _=>rfl)<|qrs (w:=ad) (xs:=h.2) (enc:=(eI .i64)) 0 (qmd o) J J J J J J J ?_
    have an:=@qgy _ h.2 ad 0 (qmd o)
    refine qs<|q0 J<|q0 J ?_
    obtain ⟨ao,aj,a⟩:=q9 a
    refine qeg aj J J J J J (fun _=>rfl) (qa2 J)<|qb J<|qv ?_
    refine ⟨_,(Option.some.inj a).symm,fun hm=>?_⟩
    subst hm
    obtain rfl:=qe g
    exact ⟨.inr J,_,J,wkA [] [] []⟩
   refine qo<|Qc<|Qj<|qy<|q0 J<|O (.d (G (w64 (l + 1)))) J<|qb J<|qx ?_
   exact ⟨_,(Option.some.inj a).symm,wkA [] [] []⟩
  refine Qb ?_
  refine ⟨_,(Option.some.inj a).symm,fun hm=>?_⟩
  subst hm
  exact ⟨_,J,wkA [] [] []⟩
 intro m hb
 subst hb
 refine qc<|q0 J<|qb J<|qv ?_
 obtain rfl:=qe g
 exact ⟨.inr J,_,J,wkA [] [] []⟩
theorem qw4 (b : List qm) (h : qm→Option Bool) (p1F : FuncId) (p1C : List DV) (p1Ok : ∀ (j : qm) (r : Bool),h j = some r→Pure Tryz.prog tab p1F ([.agg [G j.Lo,G j.Hi]] ++ p1C) (.bool r)) (r : Int) (c : q8j b h = some r) : Pure Tryz.prog tab 152 [.sl 2 (b.map Q3),.fn p1F p1C] (G r):=by
 unfold q8j at c
 refine Qi Tryz.func152 J qj qj J<|qc<|qb J<|qa<|qh<|qc<|q0 J<|Qy J<|q0 J<|qa ?_
 obtain ⟨l,m,c⟩:=q9 c
 refine Qm (fun k=>.inl k = l) (fun (k : Unit)=>⟨[],[],0⟩) qf ?_ ?_
 ·refine Qf (q2r b h) (fun (f : Int)=>⟨[(0,.d (.sl 2 (b.map Q3))),(1,.d (.fn p1F p1C)),(7,q6 (b.length : Int)),(8,q6 f)],[],0⟩) 0 l m (wkA [] [] []) ?_
  intro f q a
  unfold q2r at a
  refine qc<|O (.d (.bool (decide (f < (b.length : Int))))) J<|qa<|qh ?_
  refine qp J a (fun _ a=>?_) (fun _ a=>?_)
  ·refine qo<|qh<|Q1<|qc<|q0 J<|qb J<|qs<|q0 J<|q0 J<|q0 J ?_
   obtain ⟨g,n,a⟩:=q9 a
   refine Qz (enc:=Q3) n J<|O (.d (.agg [G g.Lo,G g.Hi])) J ?_
   obtain ⟨o,p,a⟩:=q9 a
   refine Yf [.d (.agg [G g.Lo,G g.Hi])] (p1Ok g o p) J J J (.inl J)<|qa ?_
   refine qp J a (fun _ a=>?_) (fun _ a=>?_)
   ·refine qc<|q0 J<|qb J<|qv ?_
    refine ⟨_,(Option.some.inj a).symm,fun hm=>?_⟩
    subst hm
    obtain rfl:=qe c
    exact Q4 (q6 f) J
   refine qo<|Qc<|Qj<|qy<|O (.d (G (w64 (f + 1)))) J<|q0 J<|qx ?_
   exact ⟨_,(Option.some.inj a).symm,wkA [] [] []⟩
  refine Qb ?_
  refine ⟨_,(Option.some.inj a).symm,fun hm=>?_⟩
  subst hm
  exact ⟨_,J,wkA [] [] []⟩
 intro k hb
 subst hb
 refine qc<|qb J<|qv ?_
 obtain rfl:=qe c
 exact Q4 (q6 (-1)) J
theorem qvx (b : List qm) (c : qm→Option Bool) (p1F : FuncId) (p1C : List DV) (p1Ok : ∀ (f : qm) (r : Bool),c f = some r→Pure Tryz.prog tab p1F ([.agg [G f.Lo,G f.Hi]] ++ p1C) (.bool r)) (r : Bool) (a : q8g b c = some r) : Pure Tryz.prog tab 119 [.sl 2 (b.map Q3),.fn p1F p1C] (.bool r):=by
 unfold q8g at a
 refine Qi Tryz.func119 J qj qj J<|qc<|qb J<|qs<|q0 J<|q0 J ?_
 obtain ⟨g,h,a⟩:=q9 a
 refine Q5 (qw4 b c p1F p1C p1Ok g h) J<|O (.d (.bool (decide (g ≥ 0)))) J<|qb J<|qv ?_
 obtain rfl:=qe a
 exact Q4 (.d (.bool (decide (g ≥ 0)))) J
theorem qm8 (a : qm) (r : Bool) (b : q2y a = some r) : Pure Tryz.prog tab 121 [.agg [G a.Lo,G a.Hi]] (.bool r):=by
 unfold q2y at b
 refine Qi Tryz.func121 J qj qj J<|qc<|Ql (.ref 0 2 0 0) (.dat 2 [[G a.Lo,G a.Hi]]) J<|qb J<|qs<|O (.ref 0 2 0 0) J<|O (q6 a.Lo) J<|O (.ref 0 2 0 1) J<|O (q6 a.Hi) J<|O (.d (.bool (decide (a.Lo < a.Hi)))) J ?_
 obtain ⟨q,c,b⟩:=q9 b
 refine Q9 5 (fun A st=>∃ (g h j k : V),st = A [(12,qg q),(11,k),(10,j),(9,h),(8,g)]) ?_ ?_
 ·refine Q8 J J c (fun c=>?_) (fun c=>?_)
  ·refine O (.ref 0 2 0 0) J<|O (q6 a.Lo) J<|O (.d (.bool (decide (a.Lo ≥ (-1000000))))) J<|O (.d (.bool (decide (a.Lo ≥ (-1000000))))) J<|qa ?_
   obtain rfl:=qe c
   exact ⟨_,_,_,_,J⟩
  refine qd J<|qd J<|qd J<|O (qg false) J<|qa ?_
  obtain rfl:=qe c
  exact ⟨_,_,_,_,J⟩
 rintro _ ⟨g,h,j,k,rfl⟩
 obtain ⟨l,f,b⟩:=q9 b
 refine Q9 5 (fun A st=>∃ (m n o p : V),st = A [(17,qg l),(16,p),(15,o),(14,n),(13,m)]) ?_ ?_
 ·refine Q8 J J f (fun f=>?_) (fun f=>?_)
  ·refine O (.ref 0 2 0 1) J<|O (q6 a.Hi) J<|O (.d (.bool (decide (a.Hi≤1000000)))) J<|O (.d (.bool (decide (a.Hi≤1000000)))) J<|qa ?_
   obtain rfl:=qe f
   exact ⟨_,_,_,_,J⟩
  refine qd J<|qd J<|qd J<|O (qg false) J<|qa ?_
  obtain rfl:=qe f
  exact ⟨_,_,_,_,J⟩
 rintro _ ⟨m,n,o,p,rfl⟩
 refine qb J<|qv ?_
 obtain rfl:=qe b
 exact Q4 (qg l) J
theorem qza (a : qm) (r : Bool) (b : qc4 a = some r) : Pure Tryz.prog tab 120 [.agg [G a.Lo,G a.Hi]] (.bool r):=by
 unfold qc4 at b
 refine Qi Tryz.func120 J qj qj J<|qc<|Ql (.ref 0 2 0 0) (.dat 2 [[G a.Lo,G a.Hi]]) J<|qb J<|qs<|O (.d (.agg [G a.Lo,G a.Hi])) J ?_
 obtain ⟨c,f,b⟩:=q9 b
 refine Q5 (qm8 a c f) J<|O (qg (!c)) J<|qb J<|qv ?_
 obtain rfl:=qe b
 exact Q4 (qg (!c)) J
theorem qzg (a : qn) (b : qn) (r : Int) (c : q9i a b = some r) : Pure Tryz.prog tab 171 [.agg [G a.at_,G a.list_,G a.by_],.agg [G b.at_,G b.list_,G b.by_]] (G r):=by
 unfold q9i at c
 refine Qi Tryz.func171 J qj qj J<|qc<|Ql (.ref 0 3 0 0) (.dat 3 [[G a.at_,G a.list_,G a.by_]]) J<|Ql (.ref 1 3 0 0) (.dat 3 [[G b.at_,G b.list_,G b.by_]]) J<|qb J<|qs<|O (.ref 0 3 0 0) J<|O (q6 a.at_) J<|O (.ref 1 3 0 0) J<|O (q6 b.at_) J<|O (.d (G (w64 (a.at_ - b.at_)))) J<|qb J<|qv ?_
 obtain rfl:=qe c
 exact Q4 (.d (G (w64 (a.at_ - b.at_)))) J
theorem qwe (p : qn→qn→Option Int) (q1F : FuncId) (q1C : List DV) (q1Ok : ∀ (q : qn) (s : qn) (r : Int),p q s = some r→Pure Tryz.prog tab q1F ([.agg [G q.at_,G q.list_,G q.by_],.agg [G s.at_,G s.list_,G s.by_]] ++ q1C) (G r)) (t : List qn) (c : Int) (j : Int) (r : List qn) (u : q8q p t c j = some r) : K0 Tryz.prog tab 203 [.hs 0 3 0 t.length,q6 c,q6 j,.d (.fn q1F q1C)] [(0,.dat 3 (t.map Qa))] 1 (.d (.tup [])) [(0,.dat 3 (r.map Qa))] 1:=by
 unfold q8q at u
 refine Ka Tryz.func203 J qj qj J<|qc<|q0 J<|O (.d (G (w64 (c + 1)))) J<|qb J<|qa ?_
 obtain ⟨aq,ar,u⟩:=q9 u
 refine Q1<|Qf (q8r j c p) (fun (f : Int × List qn)=>⟨[(0,.hs 0 3 0 f.2.length),(1,q6 c),(2,q6 j),(3,.d (.fn q1F q1C)),(8,q6 f.1)],[(0,.dat 3 (f.2.map Qa))],1⟩) (w64 (c + 1),t) aq ar (wkA [] [] []) ?_
 intro f az h
 unfold q8r at h
 refine qh<|qc<|q0 J<|q0 J<|O (.d (.bool (decide (f.1 < j)))) J<|qa ?_
 refine qp J h (fun _ h=>?_) (fun _ h=>?_)
 ·refine qo<|qh ?_
  obtain ⟨au,v,h⟩:=q9 h
  refine Qm (fun o=>o = au) (fun (o : List qn)=>⟨[(0,.hs 0 3 0 o.length),(1,q6 c),(2,q6 j),(3,.d (.fn q1F q1C)),(8,q6 f.1)],[(0,.dat 3 (o.map Qa))],1⟩) qf ?_ ?_
  ·refine qc<|q0 J<|qb J<|qa ?_
   obtain ⟨av,aw,v⟩:=q9 v
   refine Q1<|Qf (q8s c p) (fun (g : Int × List qn)=>⟨[(0,.hs 0 3 0 g.2.length),(1,q6 c),(2,q6 j),(3,.d (.fn q1F q1C)),(8,q6 f.1),(9,q6 g.1)],[(0,.dat 3 (g.2.map Qa))],1⟩) (f.1,f.2) av aw (wkA [] [] []) ?_
   intro g ba a
   unfold q8s at a
   refine qh<|qh<|Qd [q8,q8,q8,qr 0,q8,q8,q8,q8,qr 0,q8,q8,q8,q8,q8,q8,q8,q8] qj<|q0 J<|q0 J<|O (.d (.bool (decide (g.1 > c)))) J ?_
   obtain ⟨ax,b,a⟩:=q9 a
   refine Q9 14 (fun A st=>∃ (x y z aa ab ac ad ae af ag ah ai aj : V),st = A [(34,qg ax),(33,aj),(32,ai),(31,ah),(30,ag),(29,af),(28,ae),(27,ad),(26,ac),(25,ab),(24,aa),(23,z),(22,y),(21,x)]) ?_ ?_
   ·refine Q8 J J b (fun b=>?_) (fun b=>?_)
    ·refine q0 J<|q0 J<|q0 J ?_
     obtain ⟨k,ak,b⟩:=q9 b
     refine qw ak J J<|Q7 (.d (.agg [G k.at_,G k.list_,G k.by_])) ak J<|q0 J<|q0 J<|O (.d (G (w64 (g.1 - 1)))) J ?_
     obtain ⟨l,al,b⟩:=q9 b
     refine qw al J J<|Q7 (.d (.agg [G l.at_,G l.list_,G l.by_])) al J ?_
     obtain ⟨w,ay,b⟩:=q9 b
     refine Yf [.d (.agg [G k.at_,G k.list_,G k.by_]),.d (.agg [G l.at_,G l.list_,G l.by_])] (q1Ok k l w ay) J J J (.inl J)<|O (.d (.bool (decide (w < 0)))) J<|O (.d (.bool (decide (w < 0)))) J<|qa ?_
     obtain rfl:=qe b
     exact ⟨_,_,_,_,_,_,_,_,_,_,_,_,_,J⟩
    refine qd J<|qd J<|qd J<|qd J<|qd J<|qd J<|qd J<|qd J<|qd J<|qd J<|qd J<|qd J<|O (qg false) J<|qa ?_
    obtain rfl:=qe b
    exact ⟨_,_,_,_,_,_,_,_,_,_,_,_,_,J⟩
   rintro _ ⟨x,y,z,aa,ab,ac,ad,ae,af,ag,ah,ai,aj,rfl⟩
   refine qa ?_
   refine qp J a (fun _ a=>?_) (fun _ a=>?_)
   ·refine qo<|qh<|Q1<|Qd [Qh 0,q8,Qh 0,q8,qr 0,q8,q8,q8,qr 0,q8,q8,q8,q8,q8,q8,q8,q8,q8] qj<|q0 J<|q0 J<|q0 J<|q0 J<|O (.d (G (w64 (g.1 - 1)))) J<|q0 J<|q0 J<|O (.d (G (w64 (g.1 - 1)))) J ?_
    obtain ⟨m,am,a⟩:=q9 a
    refine qw am J J<|Q7 (.d (.agg [G m.at_,G m.list_,G m.by_])) am J<|q0 J<|q0 J ?_
    obtain ⟨n,an,a⟩:=q9 a
    refine qw an J J<|Q7 (.d (.agg [G n.at_,G n.list_,G n.by_])) an J ?_
    obtain ⟨bb,ao,a⟩:=q9 a
    refine qw ao J J<|Qt (ds:=[G m.at_,G m.list_,G m.by_]) m ao J J J J J J J J (leb J) J ?_
    obtain ⟨bc,ap,a⟩:=q9 a
    refine qw ap qf J<|Qt (ds:=[G n.at_,G n.list_,G n.by_]) n ap J J J J J J J J (leb J) J<|qx<|Qj<|qy<|q0 J<|O (.d (G (w64 (g.1 - 1)))) J<|qb J<|qx ?_
    exact ⟨_,(Option.some.inj a).symm,wkE [] [] [] J ⟨⟨_,J,Qx qf J qt (ltd J)⟩,qq J,qq J,qq J,qq J,qq J,trivial⟩ ⟨Qg J J,trivial⟩⟩
   refine Qb ?_
   refine ⟨_,(Option.some.inj a).symm,fun hm=>?_⟩
   subst hm
   obtain rfl:=qe v
   exact ⟨_,J,wkA [] [] []⟩
  intro o hb
  subst hb
  refine qy<|q0 J<|O (.d (G (w64 (f.1 + 1)))) J<|qb J<|qx ?_
  exact ⟨_,(Option.some.inj h).symm,wkA [] [] []⟩
 refine Qb ?_
 refine ⟨_,(Option.some.inj h).symm,fun hm=>?_⟩
 subst hm
 obtain rfl:=qe u
 exact ⟨.inl J,_,J,wkA [] [] []⟩
theorem qln (v : qn→qn→Option Int) (q1F : FuncId) (q1C : List DV) (q1Ok : ∀ (s : qn) (t : qn) (r : Int),v s t = some r→Pure Tryz.prog tab q1F ([.agg [G s.at_,G s.list_,G s.by_],.agg [G t.at_,G t.list_,G t.by_]] ++ q1C) (G r)) (u : List qn) (w : Int) (g : Int) (c : Int) (r : List qn) (p : q6i v u w g c = some r) : K0 Tryz.prog tab 215 [.hs 0 3 0 u.length,q6 w,q6 g,q6 c,.d (.fn q1F q1C)] [(0,.dat 3 (u.map Qa))] 1 (.d (.tup [])) [(0,.dat 3 (r.map Qa))] 1:=by
 unfold q6i at p
 refine Ka Tryz.func215 J qj qj J<|qc<|q0 J<|qb J<|qa ?_
 obtain ⟨ba,bb,p⟩:=q9 p
 refine Q1<|Qf (q9a g c v) (fun (b : Int × List qn)=>⟨[(0,.hs 0 3 0 b.2.length),(2,q6 g),(3,q6 c),(4,.d (.fn q1F q1C)),(10,q6 b.1)],[(0,.dat 3 (b.2.map Qa))],1⟩) (w,u) ba bb (wkA [] [] []) ?_
 intro b bg a
 unfold q9a at a
 refine Q1<|qc<|q0 J<|O (.d (G (w64 (2 * b.1)))) J<|O (.d (G (w64 ((w64 (2 * b.1)) + 1)))) J<|qb J<|qa<|qh<|qc<|q0 J<|q0 J<|O (.d (.bool (decide ((w64 ((w64 (2 * b.1)) + 1)) ≥ g)))) J<|qa ?_
 refine qp J a (fun _ a=>?_) (fun _ a=>?_)
 ·refine Qb ?_
  refine ⟨_,(Option.some.inj a).symm,fun hm=>?_⟩
  subst hm
  obtain rfl:=qe p
  exact ⟨.inl J,_,J,wkA [] [] []⟩
 refine qo<|qh<|qh<|Qd [q8,q8,q8,qr 0,q8,q8,q8,q8,q8,q8,qr 0,q8,q8,q8,q8,q8,q8,q8,q8,q8,q8,q8] qj<|q0 J<|O (.d (G (w64 ((w64 ((w64 (2 * b.1)) + 1)) + 1)))) J<|q0 J<|O (.d (.bool (decide ((w64 ((w64 ((w64 (2 * b.1)) + 1)) + 1)) < g)))) J ?_
 obtain ⟨bc,f,a⟩:=q9 a
 refine Q9 18 (fun A st=>∃ (z aa ab ac ad ae af ag ah ai aj ak al am an ao ap : V),st = A [(40,qg bc),(39,ap),(38,ao),(37,an),(36,am),(35,al),(34,ak),(33,aj),(32,ai),(31,ah),(30,ag),(29,af),(28,ae),(27,ad),(26,ac),(25,ab),(24,aa),(23,z)]) ?_ ?_
 ·refine Q8 J J f (fun f=>?_) (fun f=>?_)
  ·refine q0 J<|q0 J<|q0 J<|q0 J<|O (.d (G (w64 (c + (w64 ((w64 (2 * b.1)) + 1)))))) J ?_
   obtain ⟨h,aq,f⟩:=q9 f
   refine qw aq J J<|Q7 (.d (.agg [G h.at_,G h.list_,G h.by_])) aq J<|q0 J<|q0 J<|q0 J<|O (.d (G (w64 (c + (w64 ((w64 (2 * b.1)) + 1)))))) J<|O (.d (G (w64 ((w64 (c + (w64 ((w64 (2 * b.1)) + 1)))) + 1)))) J ?_
   obtain ⟨j,ar,f⟩:=q9 f
   refine qw ar J J<|Q7 (.d (.agg [G j.at_,G j.list_,G j.by_])) ar J ?_
   obtain ⟨x,bd,f⟩:=q9 f
   refine Yf [.d (.agg [G h.at_,G h.list_,G h.by_]),.d (.agg [G j.at_,G j.list_,G j.by_])] (q1Ok h j x bd) J J J (.inl J)<|O (.d (.bool (decide (x < 0)))) J<|O (.d (.bool (decide (x < 0)))) J<|qa ?_
   obtain rfl:=qe f
   exact ⟨_,_,_,_,_,_,_,_,_,_,_,_,_,_,_,_,_,J⟩
  refine qd J<|qd J<|qd J<|qd J<|qd J<|qd J<|qd J<|qd J<|qd J<|qd J<|qd J<|qd J<|qd J<|qd J<|qd J<|qd J<|O (qg false) J<|qa ?_
  obtain rfl:=qe f
  exact ⟨_,_,_,_,_,_,_,_,_,_,_,_,_,_,_,_,_,J⟩
 rintro _ ⟨z,aa,ab,ac,ad,ae,af,ag,ah,ai,aj,ak,al,am,an,ao,ap,rfl⟩
 refine qa ?_
 obtain ⟨be,q,a⟩:=q9 a
 refine Yi (fun k=>k = be) (fun (k : Int)=>⟨[(0,.hs 0 3 0 b.2.length),(2,q6 g),(3,q6 c),(4,.d (.fn q1F q1C)),(10,q6 b.1),(11,q6 k)],[(0,.dat 3 (b.2.map Qa))],1⟩) qf ?_ ?_
 ·refine qp J q (fun _ q=>?_) (fun _ q=>?_)
  ·refine qy<|q0 J<|O (.d (G (w64 ((w64 ((w64 (2 * b.1)) + 1)) + 1)))) J<|qb J<|qx ?_
   obtain rfl:=qe q
   exact ⟨_,J,wkA [] [] []⟩
  refine qo<|Qc ?_
  obtain rfl:=qe q
  exact ⟨_,J,wkA [] [] []⟩
 intro k hb
 subst hb
 refine qh<|qh<|Qd [q8,q8,q8,qr 0,q8,q8,q8,q8,q8,qr 0,q8,q8,q8,q8,q8,q8] qj<|q0 J<|q0 J<|q0 J<|q0 J<|O (.d (G (w64 (c + b.1)))) J ?_
 obtain ⟨l,au,a⟩:=q9 a
 refine qw au J J<|Q7 (.d (.agg [G l.at_,G l.list_,G l.by_])) au J<|q0 J<|q0 J<|q0 J<|O (.d (G (w64 (c + k)))) J ?_
 obtain ⟨m,av,a⟩:=q9 a
 refine qw av J J<|Q7 (.d (.agg [G m.at_,G m.list_,G m.by_])) av J ?_
 obtain ⟨y,bf,a⟩:=q9 a
 refine Yf [.d (.agg [G l.at_,G l.list_,G l.by_]),.d (.agg [G m.at_,G m.list_,G m.by_])] (q1Ok l m y bf) J J J (.inl J)<|O (.d (.bool (decide (y < 0)))) J<|O (.d (.bool (!(decide (y < 0))))) J<|qa ?_
 refine qp J a (fun _ a=>?_) (fun _ a=>?_)
 ·refine q1h ?_
  refine ⟨_,(Option.some.inj a).symm,fun hm=>?_⟩
  subst hm
  obtain rfl:=qe p
  exact ⟨.inr J,_,J,wkA [] [] []⟩
 refine qo<|qh<|Qd [Qh 0,q8,Qh 0,q8,qr 0,q8,q8,q8,q8,q8,qr 0,q8,q8,q8,q8,q8,q8,q8,q8,q8,q8,q8,q8,q8] qj<|q0 J<|q0 J<|q0 J<|O (.d (G (w64 (c + b.1)))) J<|q0 J<|q0 J<|q0 J<|O (.d (G (w64 (c + k)))) J<|q0 J<|q0 J<|q0 J<|O (.d (G (w64 (c + k)))) J ?_
 obtain ⟨n,aw,a⟩:=q9 a
 refine qw aw J J<|Q7 (.d (.agg [G n.at_,G n.list_,G n.by_])) aw J<|q0 J<|q0 J<|q0 J<|O (.d (G (w64 (c + b.1)))) J ?_
 obtain ⟨o,ax,a⟩:=q9 a
 refine qw ax J J<|Q7 (.d (.agg [G o.at_,G o.list_,G o.by_])) ax J ?_
 obtain ⟨bh,ay,a⟩:=q9 a
 refine qw ay J J<|Qt (ds:=[G n.at_,G n.list_,G n.by_]) n ay J J J J J J J J (leb J) J ?_
 obtain ⟨bi,az,a⟩:=q9 a
 refine qw az qf J<|Qt (ds:=[G o.at_,G o.list_,G o.by_]) o az J J J J J J J J (leb J) J<|qa<|qy<|q0 J<|qb J<|qx<|Qj<|Qc ?_
 exact ⟨_,(Option.some.inj a).symm,wkE [] [] [] J ⟨⟨_,J,Qx qf J qt (ltd J)⟩,qq J,qq J,qq J,qq J,trivial⟩ ⟨Qg J J,trivial⟩⟩
theorem qwc (l : qn→qn→Option Int) (q1F : FuncId) (q1C : List DV) (q1Ok : ∀ (o : qn) (p : qn) (r : Int),l o p = some r→Pure Tryz.prog tab q1F ([.agg [G o.at_,G o.list_,G o.by_],.agg [G p.at_,G p.list_,G p.by_]] ++ q1C) (G r)) (q : List qn) (a : Int) (c : Int) (r : List qn) (m : q8n l q a c = some r) : K0 Tryz.prog tab 204 [.hs 0 3 0 q.length,q6 a,q6 c,.d (.fn q1F q1C)] [(0,.dat 3 (q.map Qa))] 1 (.d (.tup [])) [(0,.dat 3 (r.map Qa))] 1:=by
 unfold q8n at m
 refine Ka Tryz.func204 J qj qj J<|qc<|q0 J<|qb J<|qs<|qb J<|qs<|q0 J<|q0 J<|O (.d (G (w64 (c - a)))) J<|qb J<|qa<|qh<|qc<|q0 J<|O (.d (G (w64 ((w64 (c - a)) - 1)))) J<|O (.d (G (w64 (Int.tdiv (w64 ((w64 (c - a)) - 1)) 2)))) J<|qb J<|qa ?_
 obtain ⟨t,z,m⟩:=q9 m
 refine Qm (fun n=>n = t) (fun (n : List qn)=>⟨[(0,.hs 0 3 0 n.length),(3,.d (.fn q1F q1C)),(8,q6 a),(9,q6 0),(10,.d (G (w64 (c - a))))],[(0,.dat 3 (n.map Qa))],1⟩) qf ?_ ?_
 ·refine Qf (q8o l c a) (fun (g : Int × List qn)=>⟨[(0,.hs 0 3 0 g.2.length),(3,.d (.fn q1F q1C)),(8,q6 a),(9,q6 0),(10,.d (G (w64 (c - a)))),(11,q6 g.1)],[(0,.dat 3 (g.2.map Qa))],1⟩) (w64 (Int.tdiv (w64 ((w64 (c - a)) - 1)) 2),q) t z (wkA [] [] []) ?_
  intro g ai h
  unfold q8o at h
  refine qh<|qc<|q0 J<|O (.d (.bool (decide (g.1 ≥ 0)))) J<|qa ?_
  refine qp J h (fun _ h=>?_) (fun _ h=>?_)
  ·refine qo<|qh<|Q1<|qy<|q0 J<|q0 J<|q0 J<|q0 J<|q0 J ?_
   obtain ⟨u,aa,h⟩:=q9 h
   obtain ⟨aj,ab,h⟩:=q9 h
   have ac:=Kd ab
   refine K2 [(0,0)] [(0,0)] [.hs 0 3 0 g.2.length,q6 g.1,.d (G (w64 (c - a))),q6 a,.d (.fn q1F q1C)] (.d (.tup [])) 1 [(0,.dat 3 (u.map Qa))] 1 (qln l q1F q1C q1Ok g.2 g.1 (w64 (c - a)) a u aa)<|qx<|Qj<|qy<|q0 J<|O (.d (G (w64 (g.1 - 1)))) J<|qb J<|qx ?_
   exact ⟨_,(Option.some.inj h).symm,wkE [] [] [] J ⟨⟨_,J,Qx (by simp [ac]) J qt (ltd J)⟩,qq J,qq J,qq J,qq J,qq J,trivial⟩ ⟨Qg J J,trivial⟩⟩
  refine Qb ?_
  refine ⟨_,(Option.some.inj h).symm,fun hm=>?_⟩
  subst hm
  exact ⟨_,J,wkA [] [] []⟩
 intro n hb
 subst hb
 refine qc<|q0 J<|O (.d (G (w64 ((w64 (c - a)) - 1)))) J<|qb J<|qa ?_
 obtain ⟨ad,ae,m⟩:=q9 m
 refine Q1<|Qf (q8p a l) (fun (f : Int × List qn)=>⟨[(0,.hs 0 3 0 f.2.length),(3,.d (.fn q1F q1C)),(8,q6 a),(9,q6 0),(12,q6 f.1)],[(0,.dat 3 (f.2.map Qa))],1⟩) (w64 ((w64 (c - a)) - 1),n) ad ae (wkA [] [] []) ?_
 intro f ak b
 unfold q8p at b
 refine qh<|qc<|q0 J<|O (.d (.bool (decide (f.1 ≥ 0)))) J<|qa ?_
 refine qp J b (fun _ b=>?_) (fun _ b=>?_)
 ·refine qo<|qh<|Q1<|qh<|Qd [Qh 0,q8,Qh 0,q8,qr 0,q8,q8,q8,qr 0,q8,q8,q8,q8,q8,q8,q8,q8,q8,q8,q8] qj<|q0 J<|q0 J<|q0 J<|q0 J<|q0 J<|O (.d (G (w64 (a + f.1)))) J<|q0 J<|q0 J<|q0 J<|O (.d (G (w64 (a + f.1)))) J ?_
  obtain ⟨j,v,b⟩:=q9 b
  refine qw v J J<|Q7 (.d (.agg [G j.at_,G j.list_,G j.by_])) v J<|q0 J<|q0 J ?_
  obtain ⟨k,w,b⟩:=q9 b
  refine qw w J J<|Q7 (.d (.agg [G k.at_,G k.list_,G k.by_])) w J ?_
  obtain ⟨al,x,b⟩:=q9 b
  refine qw x J J<|Qt (ds:=[G j.at_,G j.list_,G j.by_]) j x J J J J J J J J (leb J) J ?_
  obtain ⟨am,y,b⟩:=q9 b
  refine qw y qf J<|Qt (ds:=[G k.at_,G k.list_,G k.by_]) k y J J J J J J J J (leb J) J<|qa<|qy<|q0 J<|q0 J<|q0 J<|q0 J<|q0 J ?_
  obtain ⟨s,af,b⟩:=q9 b
  obtain ⟨an,ag,b⟩:=q9 b
  have ah:=Kd ag
  refine Jq [(0,0)] [(0,0)] [.hs 0 3 0 f.2.length,q6 0,q6 f.1,q6 a,.d (.fn q1F q1C)] (.d (.tup [])) [(0,.dat 3 (s.map Qa))] [(0,.dat 3 (s.map Qa))] 1 (qln l q1F q1C q1Ok ((f.2.set a.toNat j).set (w64 (a + f.1)).toNat k) 0 f.1 a s af) J J J (Y4 [(0,0)] [] [] J ⟨⟨_,J,Qx qf J qt (ltd J)⟩,qq J,qq J,qq J,qq J,trivial⟩ ⟨Qg J J,trivial⟩) (Y4 [(0,0)] [] [] J ⟨qq J,trivial⟩ ⟨Qg J J,trivial⟩) J ⟨.inl J,trivial⟩<|qx<|Qj<|qy<|q0 J<|O (.d (G (w64 (f.1 - 1)))) J<|qb J<|qx ?_
  exact ⟨_,(Option.some.inj b).symm,wkE [] [] [] J ⟨⟨_,J,Qx (by simp [ah]) J qt (ltd J)⟩,qq J,qq J,qq J,qq J,trivial⟩ ⟨Qg J J,trivial⟩⟩
 refine Qb ?_
 refine ⟨_,(Option.some.inj b).symm,fun hm=>?_⟩
 subst hm
 obtain rfl:=qe m
 exact ⟨.inl J,_,J,wkA [] [] []⟩
theorem qfc (j : qn→qn→Option Int) (q1F : FuncId) (q1C : List DV) (q1Ok : ∀ (g : qn) (h : qn) (r : Int),j g h = some r→Pure Tryz.prog tab q1F ([.agg [G g.at_,G g.list_,G g.by_],.agg [G h.at_,G h.list_,G h.by_]] ++ q1C) (G r)) (k : List qn) (l : Int) (m : Int) (f : Int) (r : Int × Int × Int) (a : q3t j k l m f = some r) : K0 Tryz.prog tab 219 [.d (.sl 3 (k.map Qa)),q6 l,q6 m,.ref 0 1 0 0,.d (.fn q1F q1C)] [(0,.dat 1 [[G f]])] 1 (.d (.tup [G r.1,G r.2.1])) [(0,.dat 1 [[G r.2.2]])] 1:=by
 unfold q3t at a
 refine Ka Tryz.func219 J qj qj J<|qc<|qb J<|qb J<|qa<|qh<|qh<|Qd [q8,q8,q8,q8,q8,q8,q8,q8,q8,q8,q8] qj<|q0 J<|q0 J<|q0 J ?_
 obtain ⟨b,o,a⟩:=q9 a
 refine Qz (enc:=Qa) o J<|O (.d (.agg [G b.at_,G b.list_,G b.by_])) J<|q0 J<|q0 J ?_
 obtain ⟨c,p,a⟩:=q9 a
 refine Qz (enc:=Qa) p J<|O (.d (.agg [G c.at_,G c.list_,G c.by_])) J ?_
 obtain ⟨n,q,a⟩:=q9 a
 refine Yf [.d (.agg [G b.at_,G b.list_,G b.by_]),.d (.agg [G c.at_,G c.list_,G c.by_])] (q1Ok b c n q) J J J (.inl J)<|O (.d (.bool (decide (n < 0)))) J<|qa ?_
 refine qp J a (fun _ a=>?_) (fun _ a=>?_)
 ·refine qc<|q0 J<|O (.ref 0 1 0 0) J<|O (q6 f) J<|O (.d (G (w64 (f + 1)))) J<|O (.ref 0 1 0 0) J<|qz 0 (.dat 1 [[G (w64 (f + 1))]]) J<|qs<|q0 J<|q0 J<|qb J<|qb J<|qv ?_
  obtain rfl:=qe a
  exact ⟨.inr J,_,J,wkA [] [] []⟩
 refine qo<|qc<|q0 J<|q0 J<|qb J<|qb J<|qv ?_
 obtain rfl:=qe a
 exact ⟨.inr J,_,J,wkA [] [] []⟩
theorem qlk (h : qn→qn→Option Int) (q1F : FuncId) (q1C : List DV) (q1Ok : ∀ (j : qn) (k : qn) (r : Int),h j k = some r→Pure Tryz.prog tab q1F ([.agg [G j.at_,G j.list_,G j.by_],.agg [G k.at_,G k.list_,G k.by_]] ++ q1C) (G r)) (c : List qn) (l : Int) (m : Int) (n : Int) (o : Int) (r : Int × Int) (f : q5y h c l m n o = some r) : K0 Tryz.prog tab 217 [.d (.sl 3 (c.map Qa)),q6 l,q6 m,q6 n,.ref 0 1 0 0,.d (.fn q1F q1C)] [(0,.dat 1 [[G o]])] 1 (q6 r.1) [(0,.dat 1 [[G r.2]])] 1:=by
 unfold q5y at f
 refine Ka Tryz.func217 J qj qj J<|qc<|qb J<|qs<|q0 J<|q0 J<|q0 J<|q0 J<|q0 J ?_
 obtain ⟨a,p,f⟩:=q9 f
 refine K2 [(0,0)] [(0,0)] [.d (.sl 3 (c.map Qa)),q6 l,q6 m,.ref 0 1 0 0,.d (.fn q1F q1C)] (.d (.tup [G a.1,G a.2.1])) 1 [(0,.dat 1 [[G a.2.2]])] 1 (qfc h q1F q1C q1Ok c l m o a p)<|q0 J<|O (q6 a.1) J<|O (q6 a.2.1) J<|qb J<|qb J<|qs<|q0 J<|q0 J<|q0 J<|q0 J<|q0 J ?_
 obtain ⟨b,q,f⟩:=q9 f
 refine K2 [(0,0)] [(0,0)] [.d (.sl 3 (c.map Qa)),q6 a.2.1,q6 n,.ref 0 1 0 0,.d (.fn q1F q1C)] (.d (.tup [G b.1,G b.2.1])) 1 [(0,.dat 1 [[G b.2.2]])] 1 (qfc h q1F q1C q1Ok c a.2.1 n a.2.2 b q)<|q0 J<|O (q6 b.1) J<|O (q6 b.2.1) J<|qb J<|qb J<|qs<|q0 J<|q0 J<|q0 J<|q0 J<|q0 J ?_
 obtain ⟨g,s,f⟩:=q9 f
 refine K2 [(0,0)] [(0,0)] [.d (.sl 3 (c.map Qa)),q6 a.1,q6 b.1,.ref 0 1 0 0,.d (.fn q1F q1C)] (.d (.tup [G g.1,G g.2.1])) 1 [(0,.dat 1 [[G g.2.2]])] 1 (qfc h q1F q1C q1Ok c a.1 b.1 b.2.2 g s)<|q0 J<|O (q6 g.1) J<|O (q6 g.2.1) J<|qb J<|qb J<|qs<|q0 J<|qb J<|qv ?_
 obtain rfl:=qe f
 exact ⟨.inr J,_,J,wkA [] [] []⟩
theorem qfa (h : qn→qn→Option Int) (q1F : FuncId) (q1C : List DV) (q1Ok : ∀ (b : qn) (c : qn) (r : Int),h b c = some r→Pure Tryz.prog tab q1F ([.agg [G b.at_,G b.list_,G b.by_],.agg [G c.at_,G c.list_,G c.by_]] ++ q1C) (G r)) (f : List qn) (a : Int) (j : Int) (r : Int × Int) (g : q3r h f a j = some r) : K0 Tryz.prog tab 216 [.d (.sl 3 (f.map Qa)),q6 a,.ref 0 1 0 0,.d (.fn q1F q1C)] [(0,.dat 1 [[G j]])] 1 (q6 r.1) [(0,.dat 1 [[G r.2]])] 1:=by
 unfold q3r at g
 refine Ka Tryz.func216 J qj qj J<|qc<|qb J<|qs<|q0 J<|q0 J<|O (.d (G (w64 (a - 1)))) J<|q0 J<|q0 J<|O (.d (G (w64 (a + 1)))) J<|q0 J<|q0 J ?_
 obtain ⟨k,l,g⟩:=q9 g
 refine K2 [(0,0)] [(0,0)] [.d (.sl 3 (f.map Qa)),.d (G (w64 (a - 1))),q6 a,.d (G (w64 (a + 1))),.ref 0 1 0 0,.d (.fn q1F q1C)] (q6 k.1) 1 [(0,.dat 1 [[G k.2]])] 1 (qlk h q1F q1C q1Ok f (w64 (a - 1)) a (w64 (a + 1)) j k l)<|qb J<|qv ?_
 obtain rfl:=qe g
 exact ⟨.inr J,_,J,wkA [] [] []⟩
theorem qwa (g : List qn) (a : Int) (b : Int) (l : qn→qn→Option Int) (p3F : FuncId) (p3C : List DV) (p3Ok : ∀ (m : qn) (n : qn) (r : Int),l m n = some r→Pure Tryz.prog tab p3F ([.agg [G m.at_,G m.list_,G m.by_],.agg [G n.at_,G n.list_,G n.by_]] ++ p3C) (G r)) (r : Int × Int) (f : q8m g a b l = some r) : Pure Tryz.prog tab 206 [.sl 3 (g.map Qa),G a,G b,.fn p3F p3C] (.tup [G r.1,G r.2]):=by
 unfold q8m at f
 refine Qi Tryz.func206 J qj qj J<|qc<|qb J<|qb J<|qs<|q0 J<|q0 J<|O (.d (G (w64 (b - a)))) J<|qb J<|qs<|Qe J J<|qs<|q0 J<|q0 J<|O (.d (G (w64 (Int.tdiv (w64 (b - a)) 4)))) J<|O (.d (G (w64 ((w64 (Int.tdiv (w64 (b - a)) 4)) * 1)))) J<|O (.d (G (w64 (a + (w64 ((w64 (Int.tdiv (w64 (b - a)) 4)) * 1)))))) J<|qb J<|qs<|q0 J<|q0 J<|O (.d (G (w64 (Int.tdiv (w64 (b - a)) 4)))) J<|O (.d (G (w64 ((w64 (Int.tdiv (w64 (b - a)) 4)) * 2)))) J<|O (.d (G (w64 (a + (w64 ((w64 (Int.tdiv (w64 (b - a)) 4)) * 2)))))) J<|qb J<|qs<|q0 J<|q0 J<|O (.d (G (w64 (Int.tdiv (w64 (b - a)) 4)))) J<|O (.d (G (w64 ((w64 (Int.tdiv (w64 (b - a)) 4)) * 3)))) J<|O (.d (G (w64 (a + (w64 ((w64 (Int.tdiv (w64 (b - a)) 4)) * 3)))))) J<|qb J<|qa<|qh<|qc<|q0 J<|O (.d (.bool (decide ((w64 (b - a)) ≥ 8)))) J<|qa ?_
 obtain ⟨t,k,f⟩:=q9 f
 refine Yi (fun h=>h = t) (fun (h : Int × Int)=>⟨[(11,.ref 0 1 0 0),(13,q6 h.1)],[(0,.dat 1 [[G h.2]])],1⟩) qf ?_ ?_
 ·refine qp J k (fun _ k=>?_) (fun _ k=>?_)
  ·refine qh<|qc<|q0 J<|O (.d (.bool (decide ((w64 (b - a)) ≥ 50)))) J<|qa ?_
   obtain ⟨u,j,k⟩:=q9 k
   refine Yi (fun c=>c = u) (fun (c : Int × Int × Int × Int)=>⟨[(0,.d (.sl 3 (g.map Qa))),(3,.d (.fn p3F p3C)),(11,.ref 0 1 0 0),(12,q6 c.1),(13,q6 c.2.1),(14,q6 c.2.2.1)],[(0,.dat 1 [[G c.2.2.2]])],1⟩) qf ?_ ?_
   ·refine qp J j (fun _ j=>?_) (fun _ j=>?_)
    ·refine qc<|q0 J<|q0 J<|q0 J ?_
     obtain ⟨o,v,j⟩:=q9 j
     refine K2 [(0,0)] [(0,0)] [.d (.sl 3 (g.map Qa)),.d (G (w64 (a + (w64 ((w64 (Int.tdiv (w64 (b - a)) 4)) * 1))))),.ref 0 1 0 0,.d (.fn p3F p3C)] (q6 o.1) 1 [(0,.dat 1 [[G o.2]])] 1 (qfa l p3F p3C p3Ok g (w64 (a + (w64 ((w64 (Int.tdiv (w64 (b - a)) 4)) * 1)))) 0 o v)<|qb J<|qs<|q0 J<|q0 J<|q0 J ?_
     obtain ⟨p,w,j⟩:=q9 j
     refine K2 [(0,0)] [(0,0)] [.d (.sl 3 (g.map Qa)),.d (G (w64 (a + (w64 ((w64 (Int.tdiv (w64 (b - a)) 4)) * 2))))),.ref 0 1 0 0,.d (.fn p3F p3C)] (q6 p.1) 1 [(0,.dat 1 [[G p.2]])] 1 (qfa l p3F p3C p3Ok g (w64 (a + (w64 ((w64 (Int.tdiv (w64 (b - a)) 4)) * 2)))) o.2 p w)<|qb J<|qa<|qy<|q0 J<|q0 J<|q0 J ?_
     obtain ⟨q,x,j⟩:=q9 j
     refine K2 [(0,0)] [(0,0)] [.d (.sl 3 (g.map Qa)),.d (G (w64 (a + (w64 ((w64 (Int.tdiv (w64 (b - a)) 4)) * 3))))),.ref 0 1 0 0,.d (.fn p3F p3C)] (q6 q.1) 1 [(0,.dat 1 [[G q.2]])] 1 (qfa l p3F p3C p3Ok g (w64 (a + (w64 ((w64 (Int.tdiv (w64 (b - a)) 4)) * 3)))) p.2 q x)<|qb J<|qx ?_
     obtain rfl:=qe j
     exact ⟨_,J,wkA [(0,0)] [] []⟩
    refine qo<|Qc ?_
    obtain rfl:=qe j
    exact ⟨_,J,wkA [(0,0)] [] []⟩
   intro c hb
   subst hb
   refine qy<|q0 J<|q0 J<|q0 J<|q0 J<|q0 J ?_
   obtain ⟨s,y,k⟩:=q9 k
   refine K2 [(0,0)] [(0,0)] [.d (.sl 3 (g.map Qa)),q6 c.1,q6 c.2.1,q6 c.2.2.1,.ref 0 1 0 0,.d (.fn p3F p3C)] (q6 s.1) 1 [(0,.dat 1 [[G s.2]])] 1 (qlk l p3F p3C p3Ok g c.1 c.2.1 c.2.2.1 c.2.2.2 s y)<|qb J<|qx ?_
   obtain rfl:=qe k
   exact ⟨_,J,wkA [(0,0)] [] []⟩
  refine qo<|Qc ?_
  obtain rfl:=qe k
  exact ⟨_,J,wkA [(0,0)] [] []⟩
 intro h hb
 subst hb
 refine qc<|O (q6 h.2) J<|qa<|Q1<|qc<|O (qg (h.2 == 0)) J<|qb J<|qa ?_
 refine qp J f (fun _ f=>?_) (fun _ f=>?_)
 ·refine qc<|q0 J<|qb J<|qb J<|qv ?_
  obtain rfl:=qe f
  exact Q4 (.d (.tup [G h.1,G 1])) J
 refine qc<|O (qg (h.2 == 12)) J<|qb J<|qa ?_
 refine qp J f (fun _ f=>?_) (fun _ f=>?_)
 ·refine qc<|q0 J<|qb J<|qb J<|qv ?_
  obtain rfl:=qe f
  exact Q4 (.d (.tup [G h.1,G 2])) J
 refine qc<|q0 J<|qb J<|qb J<|qv ?_
 obtain rfl:=qe f
 exact Q4 (.d (.tup [G h.1,G 0])) J
theorem qwq (n : qn→qn→Option Int) (q1F : FuncId) (q1C : List DV) (_q1Ok : ∀ (g : qn) (h : qn) (r : Int),n g h = some r→Pure Tryz.prog tab q1F ([.agg [G g.at_,G g.list_,G g.by_],.agg [G h.at_,G h.list_,G h.by_]] ++ q1C) (G r)) (j : List qn) (m : Int) (k : Int) (r : List qn) (l : q97 n j m k = some r) : K0 Tryz.prog tab 207 [.hs 0 3 0 j.length,q6 m,q6 k,.d (.fn q1F q1C)] [(0,.dat 3 (j.map Qa))] 1 (.d (.tup [])) [(0,.dat 3 (r.map Qa))] 1:=by
 unfold q97 at l
 refine Ka Tryz.func207 J qj qj J<|qc<|q0 J<|qb J<|qs<|q0 J<|O (.d (G (w64 (k - 1)))) J<|qb J<|qa ?_
 obtain ⟨t,u,l⟩:=q9 l
 refine Q1<|Qf (q98) (fun (b : Int × Int × List qn)=>⟨[(0,.hs 0 3 0 b.2.2.length),(8,q6 b.1),(9,q6 b.2.1)],[(0,.dat 3 (b.2.2.map Qa))],1⟩) (m,w64 (k - 1),j) t u (wkA [] [] []) ?_
 intro b v a
 unfold q98 at a
 refine qh<|qc<|q0 J<|q0 J<|O (.d (.bool (decide (b.1 < b.2.1)))) J<|qa ?_
 refine qp J a (fun _ a=>?_) (fun _ a=>?_)
 ·refine qo<|Q1<|qh<|Qd [Qh 0,q8,Qh 0,q8,qr 0,q8,q8,q8,qr 0,q8,q8,q8,q8,q8,q8,q8] qj<|q0 J<|q0 J<|q0 J<|q0 J<|q0 J<|q0 J ?_
  obtain ⟨c,o,a⟩:=q9 a
  refine qw o J J<|Q7 (.d (.agg [G c.at_,G c.list_,G c.by_])) o J<|q0 J<|q0 J ?_
  obtain ⟨f,p,a⟩:=q9 a
  refine qw p J J<|Q7 (.d (.agg [G f.at_,G f.list_,G f.by_])) p J ?_
  obtain ⟨w,q,a⟩:=q9 a
  refine qw q J J<|Qt (ds:=[G c.at_,G c.list_,G c.by_]) c q J J J J J J J J (leb J) J ?_
  obtain ⟨x,s,a⟩:=q9 a
  refine qw s qf J<|Qt (ds:=[G f.at_,G f.list_,G f.by_]) f s J J J J J J J J (leb J) J<|qs<|q0 J<|O (.d (G (w64 (b.1 + 1)))) J<|qb J<|qa<|qy<|q0 J<|O (.d (G (w64 (b.2.1 - 1)))) J<|qb J<|qx<|Qj<|Qc ?_
  exact ⟨_,(Option.some.inj a).symm,wkE [] [] [] J ⟨⟨_,J,Qx qf J qt (ltd J)⟩,qq J,qq J,trivial⟩ ⟨Qg J J,trivial⟩⟩
 refine Qb ?_
 refine ⟨_,(Option.some.inj a).symm,fun hm=>?_⟩
 subst hm
 obtain rfl:=qe l
 exact ⟨.inl J,_,J,wkA [] [] []⟩
theorem qwg (q1 : qn→qn→Option Int) (q1F : FuncId) (q1C : List DV) (q1Ok : ∀ (x0 : qn) (x1 : qn) (r : Int),q1 x0 x1 = some r→Pure Tryz.prog tab q1F ([.agg [G x0.at_,G x0.list_,G x0.by_],.agg [G x1.at_,G x1.list_,G x1.by_]] ++ q1C) (G r)) (p0 : List qn) (j : Int) (h : Int) (r : Bool × List qn) (h0 : q5z q1 p0 j h = some r) : K0 Tryz.prog tab 208 [.hs 0 3 0 p0.length,q6 j,q6 h,.d (.fn q1F q1C)] [(0,.dat 3 (p0.map Qa))] 1 (qg r.1) [(0,.dat 3 (r.2.map Qa))] 1:=by
 unfold q5z at h0
 refine Ka Tryz.func208 J qj qj J<|qc<|qb J<|qs<|q0 J<|O (.d (G (w64 (j + 1)))) J<|qb J<|qa<|qh<|qc<|qb J<|qa ?_
 obtain ⟨ap,cb,h0⟩:=q9 h0
 refine Qm (fun al=>.inl al = ap) (fun (al : List qn)=>⟨[],[(0,.dat 3 (al.map Qa))],1⟩) qf ?_ ?_
 ·refine Qf (q60 h q1 j) (fun (g : Int × Int × List qn)=>⟨[(0,.hs 0 3 0 g.2.2.length),(1,q6 j),(2,q6 h),(3,.d (.fn q1F q1C)),(9,q6 g.1),(10,q6 g.2.1)],[(0,.dat 3 (g.2.2.map Qa))],1⟩) (w64 (j + 1),0,p0) ap cb (wkA [] [] []) ?_
  intro g cn l
  unfold q60 at l
  refine qh<|qc<|q0 J<|O (.d (.bool (decide (g.2.1 < 5)))) J<|qa ?_
  refine qp J l (fun _ l=>?_) (fun _ l=>?_)
  ·refine qo<|qh ?_
   obtain ⟨cc,a,l⟩:=q9 l
   refine Qm (fun af=>.inl af = cc) (fun (af : Int × List qn)=>⟨[(0,.hs 0 3 0 af.2.length),(1,q6 j),(2,q6 h),(3,.d (.fn q1F q1C)),(9,q6 af.1),(10,q6 g.2.1)],[(0,.dat 3 (af.2.map Qa))],1⟩) qf ?_ ?_
   ·refine qh ?_
    obtain ⟨aq,cd,a⟩:=q9 a
    refine Qm (fun f=>f = aq) (fun (f : Int)=>⟨[(0,.hs 0 3 0 g.2.2.length),(1,q6 j),(2,q6 h),(3,.d (.fn q1F q1C)),(9,q6 f),(10,q6 g.2.1)],[(0,.dat 3 (g.2.2.map Qa))],1⟩) qf ?_ ?_
    ·refine Qf (q8t h g q1) (fun (ah : Int)=>⟨[(0,.hs 0 3 0 g.2.2.length),(1,q6 j),(2,q6 h),(3,.d (.fn q1F q1C)),(9,q6 ah),(10,q6 g.2.1)],[(0,.dat 3 (g.2.2.map Qa))],1⟩) g.1 aq cd (wkA [] [] []) ?_
     intro ah co o
     unfold q8t at o
     refine qh<|qh<|Qd [q8,q8,q8,q8,qr 0,q8,q8,q8,q8,qr 0,q8,q8,q8,q8,q8,q8,q8,q8] qj<|q0 J<|q0 J<|O (.d (.bool (decide (ah < h)))) J ?_
     obtain ⟨ce,k,o⟩:=q9 o
     refine Q9 15 (fun A st=>∃ (ar au av aw ax ay az ba bb bc bd be bf bg : V),st = A [(36,qg ce),(35,bg),(34,bf),(33,be),(32,bd),(31,bc),(30,bb),(29,ba),(28,az),(27,ay),(26,ax),(25,aw),(24,av),(23,au),(22,ar)]) ?_ ?_
     ·refine Q8 J J k (fun k=>?_) (fun k=>?_)
      ·refine q0 J<|q0 J<|q0 J ?_
       obtain ⟨t,bh,k⟩:=q9 k
       refine qw bh J J<|Q7 (.d (.agg [G t.at_,G t.list_,G t.by_])) bh J<|q0 J<|q0 J<|O (.d (G (w64 (ah - 1)))) J ?_
       obtain ⟨u,bi,k⟩:=q9 k
       refine qw bi J J<|Q7 (.d (.agg [G u.at_,G u.list_,G u.by_])) bi J ?_
       obtain ⟨am,cf,k⟩:=q9 k
       refine Yf [.d (.agg [G t.at_,G t.list_,G t.by_]),.d (.agg [G u.at_,G u.list_,G u.by_])] (q1Ok t u am cf) J J J (.inl J)<|O (.d (.bool (decide (am < 0)))) J<|O (.d (.bool (!(decide (am < 0))))) J<|O (.d (.bool (!(decide (am < 0))))) J<|qa ?_
       obtain rfl:=qe k
       exact ⟨_,_,_,_,_,_,_,_,_,_,_,_,_,_,J⟩
      refine qd J<|qd J<|qd J<|qd J<|qd J<|qd J<|qd J<|qd J<|qd J<|qd J<|qd J<|qd J<|qd J<|O (qg false) J<|qa ?_
      obtain rfl:=qe k
      exact ⟨_,_,_,_,_,_,_,_,_,_,_,_,_,_,J⟩
     rintro _ ⟨ar,au,av,aw,ax,ay,az,ba,bb,bc,bd,be,bf,bg,rfl⟩
     refine qa ?_
     refine qp J o (fun _ o=>?_) (fun _ o=>?_)
     ·refine qo<|Q1<|qy<|q0 J<|O (.d (G (w64 (ah + 1)))) J<|qb J<|qx<|Qj<|Qc ?_
      exact ⟨_,(Option.some.inj o).symm,wkA [] [] []⟩
     refine Qb ?_
     refine ⟨_,(Option.some.inj o).symm,fun hm=>?_⟩
     subst hm
     exact ⟨_,J,wkA [] [] []⟩
    intro f hb
    subst hb
    refine qh<|qc<|q0 J<|q0 J<|O (qg (f == h)) J<|qa ?_
    refine qp J a (fun _ a=>?_) (fun _ a=>?_)
    ·refine qc<|qb J<|qv ?_
     obtain rfl:=qe a
     refine ⟨_,(Option.some.inj l).symm,fun hm=>?_⟩
     subst hm
     obtain rfl:=qe h0
     exact ⟨.inr J,_,J,wkA [] [] []⟩
    refine qo<|qh<|qc<|q0 J<|q0 J<|O (.d (G (w64 (h - j)))) J<|O (.d (.bool (decide ((w64 (h - j)) < 50)))) J<|qa ?_
    refine qp J a (fun _ a=>?_) (fun _ a=>?_)
    ·refine qc<|qb J<|qv ?_
     obtain rfl:=qe a
     refine ⟨_,(Option.some.inj l).symm,fun hm=>?_⟩
     subst hm
     obtain rfl:=qe h0
     exact ⟨.inr J,_,J,wkA [] [] []⟩
    refine qo<|qh<|Qd [Qh 0,q8,Qh 0,q8,qr 0,q8,q8,q8,qr 0,q8,q8,q8,q8,q8,q8,q8,q8,q8] qj<|q0 J<|q0 J<|q0 J<|q0 J<|O (.d (G (w64 (f - 1)))) J<|q0 J<|q0 J<|O (.d (G (w64 (f - 1)))) J ?_
    obtain ⟨p,bj,a⟩:=q9 a
    refine qw bj J J<|Q7 (.d (.agg [G p.at_,G p.list_,G p.by_])) bj J<|q0 J<|q0 J ?_
    obtain ⟨q,bk,a⟩:=q9 a
    refine qw bk J J<|Q7 (.d (.agg [G q.at_,G q.list_,G q.by_])) bk J ?_
    obtain ⟨cp,bl,a⟩:=q9 a
    refine qw bl J J<|Qt (ds:=[G p.at_,G p.list_,G p.by_]) p bl J J J J J J J J (leb J) J ?_
    obtain ⟨cq,bm,a⟩:=q9 a
    refine qw bm qf J<|Qt (ds:=[G q.at_,G q.list_,G q.by_]) q bm J J J J J J J J (leb J) J<|qa<|qh<|qc<|q0 J<|q0 J<|O (.d (G (w64 (f - j)))) J<|O (.d (.bool (decide ((w64 (f - j)) ≥ 2)))) J<|qa ?_
    obtain ⟨cg,s,a⟩:=q9 a
    refine Yi (fun ag=>ag = cg) (fun (ag : List qn)=>⟨[(0,.hs 0 3 0 ag.length),(1,q6 j),(2,q6 h),(3,.d (.fn q1F q1C)),(9,q6 f),(10,q6 g.2.1)],[(0,.dat 3 (ag.map Qa))],1⟩) qf ?_ ?_
    ·refine qp J s (fun _ s=>?_) (fun _ s=>?_)
     ·refine qc<|q0 J<|O (.d (G (w64 (f - 1)))) J<|qb J<|qa ?_
      obtain ⟨ch,ci,s⟩:=q9 s
      refine Q1<|Qf (q8u q1) (fun (m : Int × List qn)=>⟨[(0,.hs 0 3 0 m.2.length),(1,q6 j),(2,q6 h),(3,.d (.fn q1F q1C)),(9,q6 f),(10,q6 g.2.1),(11,q6 m.1)],[(0,.dat 3 (m.2.map Qa))],1⟩) (w64 (f - 1),(g.2.2.set f.toNat p).set (w64 (f - 1)).toNat q) ch ci (wkE [] [] [] J ⟨⟨_,J,Qx qf J qt (ltd J)⟩,qq J,qq J,qq J,qq J,qq J,qq J,trivial⟩ ⟨Qg J J,trivial⟩) ?_
      intro m cr b
      unfold q8u at b
      refine qh<|qc<|q0 J<|O (.d (.bool (decide (m.1 ≥ 1)))) J<|qa ?_
      refine qp J b (fun _ b=>?_) (fun _ b=>?_)
      ·refine qo<|qh<|Q1<|qh<|qh<|Qd [q8,q8,q8,qr 0,q8,q8,q8,q8,qr 0,q8,q8,q8,q8] qj<|q0 J<|q0 J<|q0 J ?_
       obtain ⟨v,bn,b⟩:=q9 b
       refine qw bn J J<|Q7 (.d (.agg [G v.at_,G v.list_,G v.by_])) bn J<|q0 J<|q0 J<|O (.d (G (w64 (m.1 - 1)))) J ?_
       obtain ⟨w,bo,b⟩:=q9 b
       refine qw bo J J<|Q7 (.d (.agg [G w.at_,G w.list_,G w.by_])) bo J ?_
       obtain ⟨an,cj,b⟩:=q9 b
       refine Yf [.d (.agg [G v.at_,G v.list_,G v.by_]),.d (.agg [G w.at_,G w.list_,G w.by_])] (q1Ok v w an cj) J J J (.inl J)<|O (.d (.bool (decide (an < 0)))) J<|O (.d (.bool (!(decide (an < 0))))) J<|qa ?_
       refine qp J b (fun _ b=>?_) (fun _ b=>?_)
       ·refine Qb ?_
        refine ⟨_,(Option.some.inj b).symm,fun hm=>?_⟩
        subst hm
        obtain rfl:=qe s
        exact ⟨_,J,wkA [] [] []⟩
       refine qo<|Qd [Qh 0,q8,Qh 0,q8,qr 0,q8,q8,q8,qr 0,q8,q8,q8,q8,q8,q8,q8,q8,q8] qj<|q0 J<|q0 J<|q0 J<|q0 J<|O (.d (G (w64 (m.1 - 1)))) J<|q0 J<|q0 J<|O (.d (G (w64 (m.1 - 1)))) J ?_
       obtain ⟨x,bp,b⟩:=q9 b
       refine qw bp J J<|Q7 (.d (.agg [G x.at_,G x.list_,G x.by_])) bp J<|q0 J<|q0 J ?_
       obtain ⟨y,bq,b⟩:=q9 b
       refine qw bq J J<|Q7 (.d (.agg [G y.at_,G y.list_,G y.by_])) bq J ?_
       obtain ⟨cs,br,b⟩:=q9 b
       refine qw br J J<|Qt (ds:=[G x.at_,G x.list_,G x.by_]) x br J J J J J J J J (leb J) J ?_
       obtain ⟨ct,bs,b⟩:=q9 b
       refine qw bs qf J<|Qt (ds:=[G y.at_,G y.list_,G y.by_]) y bs J J J J J J J J (leb J) J<|qx<|Qj<|qy<|q0 J<|O (.d (G (w64 (m.1 - 1)))) J<|qb J<|qx ?_
       exact ⟨_,(Option.some.inj b).symm,wkE [] [] [] J ⟨⟨_,J,Qx qf J qt (ltd J)⟩,qq J,qq J,qq J,qq J,qq J,qq J,trivial⟩ ⟨Qg J J,trivial⟩⟩
      refine Qb ?_
      refine ⟨_,(Option.some.inj b).symm,fun hm=>?_⟩
      subst hm
      obtain rfl:=qe s
      exact ⟨_,J,wkA [] [] []⟩
     refine qo<|Qc ?_
     obtain rfl:=qe s
     exact ⟨_,J,wkE [] [] [] J ⟨⟨_,J,Qx qf J qt (ltd J)⟩,qq J,qq J,qq J,qq J,qq J,trivial⟩ ⟨Qg J J,trivial⟩⟩
    intro ag hb
    subst hb
    refine qc<|q0 J<|q0 J<|O (.d (G (w64 (h - f)))) J<|O (.d (.bool (decide ((w64 (h - f)) ≥ 2)))) J<|qa ?_
    refine qp J a (fun _ a=>?_) (fun _ a=>?_)
    ·refine qc<|q0 J<|O (.d (G (w64 (f + 1)))) J<|qb J<|qa ?_
     obtain ⟨ck,cl,a⟩:=q9 a
     refine Q1<|Qf (q8v h q1 f) (fun (n : Int × List qn)=>⟨[(0,.hs 0 3 0 n.2.length),(1,q6 j),(2,q6 h),(3,.d (.fn q1F q1C)),(9,q6 f),(10,q6 g.2.1),(12,q6 n.1)],[(0,.dat 3 (n.2.map Qa))],1⟩) (w64 (f + 1),ag) ck cl (wkA [] [] []) ?_
     intro n cu c
     unfold q8v at c
     refine qh<|qc<|q0 J<|q0 J<|O (.d (.bool (decide (n.1 < h)))) J<|qa ?_
     refine qp J c (fun _ c=>?_) (fun _ c=>?_)
     ·refine qo<|qh<|Q1<|qh<|qh<|Qd [q8,q8,q8,qr 0,q8,q8,q8,q8,qr 0,q8,q8,q8,q8] qj<|q0 J<|q0 J<|q0 J ?_
      obtain ⟨z,bt,c⟩:=q9 c
      refine qw bt J J<|Q7 (.d (.agg [G z.at_,G z.list_,G z.by_])) bt J<|q0 J<|q0 J<|O (.d (G (w64 (n.1 - 1)))) J ?_
      obtain ⟨aa,bu,c⟩:=q9 c
      refine qw bu J J<|Q7 (.d (.agg [G aa.at_,G aa.list_,G aa.by_])) bu J ?_
      obtain ⟨ao,cm,c⟩:=q9 c
      refine Yf [.d (.agg [G z.at_,G z.list_,G z.by_]),.d (.agg [G aa.at_,G aa.list_,G aa.by_])] (q1Ok z aa ao cm) J J J (.inl J)<|O (.d (.bool (decide (ao < 0)))) J<|O (.d (.bool (!(decide (ao < 0))))) J<|qa ?_
      refine qp J c (fun _ c=>?_) (fun _ c=>?_)
      ·refine Qb ?_
       refine ⟨_,(Option.some.inj c).symm,fun hm=>?_⟩
       subst hm
       obtain rfl:=qe a
       exact ⟨_,J,wkA [] [] []⟩
      refine qo<|Qd [Qh 0,q8,Qh 0,q8,qr 0,q8,q8,q8,qr 0,q8,q8,q8,q8,q8,q8,q8,q8,q8] qj<|q0 J<|q0 J<|q0 J<|q0 J<|O (.d (G (w64 (n.1 - 1)))) J<|q0 J<|q0 J<|O (.d (G (w64 (n.1 - 1)))) J ?_
      obtain ⟨ab,bv,c⟩:=q9 c
      refine qw bv J J<|Q7 (.d (.agg [G ab.at_,G ab.list_,G ab.by_])) bv J<|q0 J<|q0 J ?_
      obtain ⟨ac,bw,c⟩:=q9 c
      refine qw bw J J<|Q7 (.d (.agg [G ac.at_,G ac.list_,G ac.by_])) bw J ?_
      obtain ⟨cv,bz,c⟩:=q9 c
      refine qw bz J J<|Qt (ds:=[G ab.at_,G ab.list_,G ab.by_]) ab bz J J J J J J J J (leb J) J ?_
      obtain ⟨cw,ca,c⟩:=q9 c
      refine qw ca qf J<|Qt (ds:=[G ac.at_,G ac.list_,G ac.by_]) ac ca J J J J J J J J (leb J) J<|qx<|Qj<|qy<|q0 J<|O (.d (G (w64 (n.1 + 1)))) J<|qb J<|qx ?_
      exact ⟨_,(Option.some.inj c).symm,wkE [] [] [] J ⟨⟨_,J,Qx qf J qt (ltd J)⟩,qq J,qq J,qq J,qq J,qq J,qq J,trivial⟩ ⟨Qg J J,trivial⟩⟩
     refine Qb ?_
     refine ⟨_,(Option.some.inj c).symm,fun hm=>?_⟩
     subst hm
     obtain rfl:=qe a
     exact ⟨_,J,wkA [] [] []⟩
    refine qo<|Qc ?_
    obtain rfl:=qe a
    exact ⟨_,J,wkA [] [] []⟩
   intro af hb
   subst hb
   refine qy<|q0 J<|O (.d (G (w64 (g.2.1 + 1)))) J<|qb J<|qx ?_
   exact ⟨_,(Option.some.inj l).symm,wkA [] [] []⟩
  refine Qb ?_
  refine ⟨_,(Option.some.inj l).symm,fun hm=>?_⟩
  subst hm
  exact ⟨_,J,wkA [] [] []⟩
 intro al hb
 subst hb
 refine qc<|qb J<|qv ?_
 obtain rfl:=qe h0
 exact ⟨.inr J,_,J,wkA [] [] []⟩
theorem qwj (w : qn→qn→Option Int) (q1F : FuncId) (q1C : List DV) (q1Ok : ∀ (y : qn) (z : qn) (r : Int),w y z = some r→Pure Tryz.prog tab q1F ([.agg [G y.at_,G y.list_,G y.by_],.agg [G z.at_,G z.list_,G z.by_]] ++ q1C) (G r)) (p0 : List qn) (c : Int) (p2 : Int) (p3 : Int) (r : Int × List qn) (f : q93 w p0 c p2 p3 = some r) : K0 Tryz.prog tab 209 [.hs 0 3 0 p0.length,q6 c,q6 p2,q6 p3,.d (.fn q1F q1C)] [(0,.dat 3 (p0.map Qa))] 1 (q6 r.1) [(0,.dat 3 (r.2.map Qa))] 1:=by
 unfold q93 at f
 refine Ka Tryz.func209 J qj qj J<|qc<|qb J<|qa<|qh<|Qd [Qh 0,q8,Qh 0,q8,qr 0,q8,q8,q8,qr 0,q8,q8,q8,q8,q8,q8,q8] qj<|q0 J<|q0 J<|q0 J<|q0 J<|q0 J<|q0 J ?_
 obtain ⟨k,ah,f⟩:=q9 f
 refine qw ah J J<|Q7 (.d (.agg [G k.at_,G k.list_,G k.by_])) ah J<|q0 J<|q0 J ?_
 obtain ⟨l,ai,f⟩:=q9 f
 refine qw ai J J<|Q7 (.d (.agg [G l.at_,G l.list_,G l.by_])) ai J ?_
 obtain ⟨cg,aj,f⟩:=q9 f
 refine qw aj J J<|Qt (ds:=[G k.at_,G k.list_,G k.by_]) k aj J J J J J J J J (leb J) J ?_
 obtain ⟨ch,ak,f⟩:=q9 f
 refine qw ak qf J<|Qt (ds:=[G l.at_,G l.list_,G l.by_]) l ak J J J J J J J J (leb J) J<|qs<|q0 J<|O (.d (G (w64 (c + 1)))) J<|q0 J<|O (.d (G (w64 (p2 - 1)))) J<|qb J<|qb J<|qa<|qh ?_
 obtain ⟨al,bz,f⟩:=q9 f
 refine Qm (fun x=>x = al) (fun (x : Int × List qn)=>⟨[(11,q6 x.1)],[(0,.dat 3 (x.2.map Qa))],1⟩) qf ?_ ?_
 ·refine Qf (q94 c w) (fun (a : Int × Int × List qn)=>⟨[(0,.hs 0 3 0 a.2.2.length),(1,q6 c),(4,.d (.fn q1F q1C)),(11,q6 a.1),(12,q6 a.2.1)],[(0,.dat 3 (a.2.2.map Qa))],1⟩) (w64 (c + 1),w64 (p2 - 1),(p0.set c.toNat k).set p3.toNat l) al bz (wkE [] [] [] J ⟨⟨_,J,Qx qf J qt (ltd J)⟩,qq J,qq J,qq J,qq J,trivial⟩ ⟨Qg J J,trivial⟩) ?_
  intro a ci b
  unfold q94 at b
  refine Q1<|qh ?_
  obtain ⟨am,ca,b⟩:=q9 b
  refine Qm (fun j=>j = am) (fun (j : Int)=>⟨[(0,.hs 0 3 0 a.2.2.length),(1,q6 c),(4,.d (.fn q1F q1C)),(11,q6 j),(12,q6 a.2.1)],[(0,.dat 3 (a.2.2.map Qa))],1⟩) qf ?_ ?_
  ·refine Qf (q95 a c w) (fun (ac : Int)=>⟨[(0,.hs 0 3 0 a.2.2.length),(1,q6 c),(4,.d (.fn q1F q1C)),(11,q6 ac),(12,q6 a.2.1)],[(0,.dat 3 (a.2.2.map Qa))],1⟩) a.1 am ca (wkA [] [] []) ?_
   intro ac cj m
   unfold q95 at m
   refine qh<|qh<|Qd [q8,q8,q8,q8,qr 0,q8,q8,q8,qr 0,q8,q8,q8,q8,q8,q8,q8,q8] qj<|q0 J<|q0 J<|O (.d (.bool (decide (ac≤a.2.1)))) J ?_
   obtain ⟨cb,g,m⟩:=q9 m
   refine Q9 14 (fun A st=>∃ (an ao ap aq ar au av aw ax ay az ba bb : V),st = A [(47,qg cb),(46,bb),(45,ba),(44,az),(43,ay),(42,ax),(41,aw),(40,av),(39,au),(38,ar),(37,aq),(36,ap),(35,ao),(34,an)]) ?_ ?_
   ·refine Q8 J J g (fun g=>?_) (fun g=>?_)
    ·refine q0 J<|q0 J<|q0 J ?_
     obtain ⟨o,bc,g⟩:=q9 g
     refine qw bc J J<|Q7 (.d (.agg [G o.at_,G o.list_,G o.by_])) bc J<|q0 J<|q0 J ?_
     obtain ⟨p,bd,g⟩:=q9 g
     refine qw bd J J<|Q7 (.d (.agg [G p.at_,G p.list_,G p.by_])) bd J ?_
     obtain ⟨ad,cc,g⟩:=q9 g
     refine Yf [.d (.agg [G o.at_,G o.list_,G o.by_]),.d (.agg [G p.at_,G p.list_,G p.by_])] (q1Ok o p ad cc) J J J (.inl J)<|O (.d (.bool (decide (ad < 0)))) J<|O (.d (.bool (!(decide (ad < 0))))) J<|O (.d (.bool (!(decide (ad < 0))))) J<|qa ?_
     obtain rfl:=qe g
     exact ⟨_,_,_,_,_,_,_,_,_,_,_,_,_,J⟩
    refine qd J<|qd J<|qd J<|qd J<|qd J<|qd J<|qd J<|qd J<|qd J<|qd J<|qd J<|qd J<|O (qg false) J<|qa ?_
    obtain rfl:=qe g
    exact ⟨_,_,_,_,_,_,_,_,_,_,_,_,_,J⟩
   rintro _ ⟨an,ao,ap,aq,ar,au,av,aw,ax,ay,az,ba,bb,rfl⟩
   refine qa ?_
   refine qp J m (fun _ m=>?_) (fun _ m=>?_)
   ·refine qo<|Q1<|qy<|q0 J<|O (.d (G (w64 (ac + 1)))) J<|qb J<|qx<|Qj<|Qc ?_
    exact ⟨_,(Option.some.inj m).symm,wkA [] [] []⟩
   refine Qb ?_
   refine ⟨_,(Option.some.inj m).symm,fun hm=>?_⟩
   subst hm
   exact ⟨_,J,wkA [] [] []⟩
  intro j hb
  subst hb
  refine qh ?_
  obtain ⟨be,cd,b⟩:=q9 b
  refine Qm (fun v=>v = be) (fun (v : Int)=>⟨[(0,.hs 0 3 0 a.2.2.length),(1,q6 c),(4,.d (.fn q1F q1C)),(11,q6 j),(12,q6 v)],[(0,.dat 3 (a.2.2.map Qa))],1⟩) qf ?_ ?_
  ·refine Qf (q96 j a c w) (fun (ae : Int)=>⟨[(0,.hs 0 3 0 a.2.2.length),(1,q6 c),(4,.d (.fn q1F q1C)),(11,q6 j),(12,q6 ae)],[(0,.dat 3 (a.2.2.map Qa))],1⟩) a.2.1 be cd (wkA [] [] []) ?_
   intro ae ck n
   unfold q96 at n
   refine qh<|qh<|Qd [q8,q8,q8,qr 0,q8,q8,q8,qr 0,q8,q8,q8,q8,q8,q8,q8,q8] qj<|q0 J<|q0 J<|O (.d (.bool (decide (j≤ae)))) J ?_
   obtain ⟨ce,h,n⟩:=q9 n
   refine Q9 13 (fun A st=>∃ (bf bg bh bi bj bk bl bm bn bo bp bq : V),st = A [(65,qg ce),(64,bq),(63,bp),(62,bo),(61,bn),(60,bm),(59,bl),(58,bk),(57,bj),(56,bi),(55,bh),(54,bg),(53,bf)]) ?_ ?_
   ·refine Q8 J J h (fun h=>?_) (fun h=>?_)
    ·refine q0 J<|q0 J<|q0 J ?_
     obtain ⟨q,br,h⟩:=q9 h
     refine qw br J J<|Q7 (.d (.agg [G q.at_,G q.list_,G q.by_])) br J<|q0 J<|q0 J ?_
     obtain ⟨s,bs,h⟩:=q9 h
     refine qw bs J J<|Q7 (.d (.agg [G s.at_,G s.list_,G s.by_])) bs J ?_
     obtain ⟨ag,cf,h⟩:=q9 h
     refine Yf [.d (.agg [G q.at_,G q.list_,G q.by_]),.d (.agg [G s.at_,G s.list_,G s.by_])] (q1Ok q s ag cf) J J J (.inl J)<|O (.d (.bool (decide (ag < 0)))) J<|O (.d (.bool (decide (ag < 0)))) J<|qa ?_
     obtain rfl:=qe h
     exact ⟨_,_,_,_,_,_,_,_,_,_,_,_,J⟩
    refine qd J<|qd J<|qd J<|qd J<|qd J<|qd J<|qd J<|qd J<|qd J<|qd J<|qd J<|O (qg false) J<|qa ?_
    obtain rfl:=qe h
    exact ⟨_,_,_,_,_,_,_,_,_,_,_,_,J⟩
   rintro _ ⟨bf,bg,bh,bi,bj,bk,bl,bm,bn,bo,bp,bq,rfl⟩
   refine qa ?_
   refine qp J n (fun _ n=>?_) (fun _ n=>?_)
   ·refine qo<|Q1<|qy<|q0 J<|O (.d (G (w64 (ae - 1)))) J<|qb J<|qx<|Qj<|Qc ?_
    exact ⟨_,(Option.some.inj n).symm,wkA [] [] []⟩
   refine Qb ?_
   refine ⟨_,(Option.some.inj n).symm,fun hm=>?_⟩
   subst hm
   exact ⟨_,J,wkA [] [] []⟩
  intro v hb
  subst hb
  refine qh<|qc<|q0 J<|q0 J<|O (.d (.bool (decide (j > v)))) J<|qa ?_
  refine qp J b (fun _ b=>?_) (fun _ b=>?_)
  ·refine Qb ?_
   refine ⟨_,(Option.some.inj b).symm,fun hm=>?_⟩
   subst hm
   exact ⟨_,J,wkA [] [] []⟩
  refine qo<|qh<|Qd [Qh 0,q8,Qh 0,q8,qr 0,q8,q8,q8,qr 0,q8,q8,q8,q8,q8,q8,q8] qj<|q0 J<|q0 J<|q0 J<|q0 J<|q0 J<|q0 J ?_
  obtain ⟨t,bt,b⟩:=q9 b
  refine qw bt J J<|Q7 (.d (.agg [G t.at_,G t.list_,G t.by_])) bt J<|q0 J<|q0 J ?_
  obtain ⟨u,bu,b⟩:=q9 b
  refine qw bu J J<|Q7 (.d (.agg [G u.at_,G u.list_,G u.by_])) bu J ?_
  obtain ⟨cl,bv,b⟩:=q9 b
  refine qw bv J J<|Qt (ds:=[G t.at_,G t.list_,G t.by_]) t bv J J J J J J J J (leb J) J ?_
  obtain ⟨cm,bw,b⟩:=q9 b
  refine qw bw qf J<|Qt (ds:=[G u.at_,G u.list_,G u.by_]) u bw J J J J J J J J (leb J) J<|qs<|q0 J<|O (.d (G (w64 (j + 1)))) J<|qb J<|qa<|qy<|q0 J<|O (.d (G (w64 (v - 1)))) J<|qb J<|qx<|Qj<|Qc ?_
  exact ⟨_,(Option.some.inj b).symm,wkE [] [] [] J ⟨⟨_,J,Qx qf J qt (ltd J)⟩,qq J,qq J,qq J,qq J,trivial⟩ ⟨Qg J J,trivial⟩⟩
 intro x hb
 subst hb
 refine qc<|q0 J<|qb J<|qv ?_
 obtain rfl:=qe f
 exact ⟨.inr J,_,J,wkA [] [] []⟩
end Go.Proofs.YtlchefooafpdlaaGreat
