/- W_Alla -/
import Derived.Test.YtlchefooafpdlaaGreatK14
namespace Go.Proofs.YtlchefooafpdlaaGreat
open Go Go.Am Go.Sh
set_option maxHeartbeats 8000000
set_option maxRecDepth 100000
theorem qcy (a : Int) (b : Int) (c : Int) (f : Int) (r : List qf) (g : q1l a b c f = some r) : Pure Tryz.prog tab 10 [G a,G b,G c,G f] (.sl 4 (r.map qm)):=by
 unfold q1l at g
 refine Qc Tryz.func10 J (by kernel_rfl) (by kernel_rfl) J<|qb<|q9 J<|qp<|U J<|U J<|U J<|U J<|O (.d (.agg [G a,G b,G c,G f])) J<|Qh (.hs 0 4 0 [({X0:=a,Y0:=b,X1:=c,Y1:=f} : qf)].length) (.dat 4 ([({X0:=a,Y0:=b,X1:=c,Y1:=f} : qf)].map qm)) J<|q9 J<|qn ?_
 obtain rfl:=qc g
 exact finD (.inr J) (v:=.hs 0 4 0 [({X0:=a,Y0:=b,X1:=c,Y1:=f} : qf)].length) J (Z9 J J) (.refl _)
theorem qut (c : List qf) (j : qf→Option Bool) (p1F : FuncId) (p1C : List DV) (p1Ok : ∀ (f : qf) (r : Bool),j f = some r→Pure Tryz.prog tab p1F ([.agg [G f.X0,G f.Y0,G f.X1,G f.Y1]] ++ p1C) (.bool r)) (r : Int) (g : qb6 c j = some r) : Pure Tryz.prog tab 118 [.sl 4 (c.map qm),.fn p1F p1C] (G r):=by
 unfold qb6 at g
 refine Qc Tryz.func118 J (by kernel_rfl) (by kernel_rfl) J<|qb<|q9 J<|q8<|qe<|qb<|U J<|Qg J<|U J<|q8 ?_
 obtain ⟨l,m,g⟩:=q7 g
 refine Qb (fun k=>.inl k = l) (fun (k : Unit)=>⟨[],[],0⟩) (by simp) ?_ ?_
 ·refine Q7 (q3k c j) (fun (h : Int)=>⟨[(0,.d (.sl 4 (c.map qm))),(1,.d (.fn p1F p1C)),(7,q6 (c.length : Int)),(8,q6 h)],[],0⟩) 0 l m (wkA [] [] []) ?_
  intro h q a
  unfold q3k at a
  refine qb<|O (.d (.bool (decide (h < (c.length : Int))))) J<|q8<|qe ?_
  refine qk J a (fun _ a=>?_) (fun _ a=>?_)
  ·refine ql<|qe<|qu<|qb<|U J<|q9 J<|qp<|U J<|U J<|U J ?_
   obtain ⟨b,n,a⟩:=q7 a
   refine Q5 (enc:=qm) n J<|O (.d (.agg [G b.X0,G b.Y0,G b.X1,G b.Y1])) J ?_
   obtain ⟨o,p,a⟩:=q7 a
   refine Kz [.d (.agg [G b.X0,G b.Y0,G b.X1,G b.Y1])] (p1Ok b o p) J J J (.inl J)<|q8 ?_
   refine qk J a (fun _ a=>?_) (fun _ a=>?_)
   ·refine qb<|U J<|q9 J<|qn ?_
    refine ⟨_,(Option.some.inj a).symm,fun hm=>?_⟩
    subst hm
    obtain rfl:=qc g
    exact qv (q6 h) J
   refine ql<|Qa<|Q9<|qs<|O (.d (G (w64 (h + 1)))) J<|U J<|qr ?_
   exact ⟨_,(Option.some.inj a).symm,wkA [] [] []⟩
  refine Q1 ?_
  refine ⟨_,(Option.some.inj a).symm,fun hm=>?_⟩
  subst hm
  exact ⟨_,J,wkA [] [] []⟩
 intro k hb
 subst hb
 refine qb<|q9 J<|qn ?_
 obtain rfl:=qc g
 exact qv (q6 (-1)) J
theorem qum (c : List qf) (f : qf→Option Bool) (p1F : FuncId) (p1C : List DV) (p1Ok : ∀ (a : qf) (r : Bool),f a = some r→Pure Tryz.prog tab p1F ([.agg [G a.X0,G a.Y0,G a.X1,G a.Y1]] ++ p1C) (.bool r)) (r : Bool) (b : q7y c f = some r) : Pure Tryz.prog tab 74 [.sl 4 (c.map qm),.fn p1F p1C] (.bool r):=by
 unfold q7y at b
 refine Qc Tryz.func74 J (by kernel_rfl) (by kernel_rfl) J<|qb<|q9 J<|qp<|U J<|U J ?_
 obtain ⟨g,h,b⟩:=q7 b
 refine qt (qut c f p1F p1C p1Ok g h) J<|O (.d (.bool (decide (g ≥ 0)))) J<|q9 J<|qn ?_
 obtain rfl:=qc b
 exact qv (.d (.bool (decide (g ≥ 0)))) J
theorem qax (a : Int) (r : Bool) (c : q1t a = some r) : Pure Tryz.prog tab 136 [G a] (.bool r):=by
 unfold q1t at c
 refine Qc Tryz.func136 J (by kernel_rfl) (by kernel_rfl) J<|qb<|q9 J<|qp<|U J<|O (.d (.bool (decide (a ≥ (-1000000))))) J ?_
 obtain ⟨f,b,c⟩:=q7 c
 refine Q0 4 (fun A st=>∃ (g h j : V),st = A [(8,qd f),(7,j),(6,h),(5,g)]) ?_ ?_
 ·refine qy J J b (fun b=>?_) (fun b=>?_)
  ·refine U J<|O (.d (.bool (decide (a≤1000000)))) J<|O (.d (.bool (decide (a≤1000000)))) J<|q8 ?_
   obtain rfl:=qc b
   exact ⟨_,_,_,J⟩
  refine qa J<|qa J<|O (qd false) J<|q8 ?_
  obtain rfl:=qc b
  exact ⟨_,_,_,J⟩
 rintro _ ⟨g,h,j,rfl⟩
 refine q9 J<|qn ?_
 obtain rfl:=qc c
 exact qv (qd f) J
theorem qjd (a : qf) (r : Bool) (b : q58 a = some r) : Pure Tryz.prog tab 95 [.agg [G a.X0,G a.Y0,G a.X1,G a.Y1]] (.bool r):=by
 unfold q58 at b
 refine Qc Tryz.func95 J (by kernel_rfl) (by kernel_rfl) J<|qb<|Qh (.ref 0 4 0 0) (.dat 4 [[G a.X0,G a.Y0,G a.X1,G a.Y1]]) J<|q9 J<|qp<|O (.ref 0 4 0 0) J<|O (q6 a.X0) J<|O (.ref 0 4 0 2) J<|O (q6 a.X1) J<|O (.d (.bool (decide (a.X0 < a.X1)))) J ?_
 obtain ⟨c1,j,b⟩:=q7 b
 refine Q0 7 (fun A st=>∃ (k l m n o p : V),st = A [(14,qd c1),(13,p),(12,o),(11,n),(10,m),(9,l),(8,k)]) ?_ ?_
 ·refine qy J J j (fun j=>?_) (fun j=>?_)
  ·refine O (.ref 0 4 0 1) J<|O (q6 a.Y0) J<|O (.ref 0 4 0 3) J<|O (q6 a.Y1) J<|O (.d (.bool (decide (a.Y0 < a.Y1)))) J<|O (.d (.bool (decide (a.Y0 < a.Y1)))) J<|q8 ?_
   obtain rfl:=qc j
   exact ⟨_,_,_,_,_,_,J⟩
  refine qa J<|qa J<|qa J<|qa J<|qa J<|O (qd false) J<|q8 ?_
  obtain rfl:=qc j
  exact ⟨_,_,_,_,_,_,J⟩
 rintro _ ⟨k,l,m,n,o,p,rfl⟩
 obtain ⟨an,c,b⟩:=q7 b
 refine Q0 5 (fun A st=>∃ (q s t u : V),st = A [(19,qd an),(18,u),(17,t),(16,s),(15,q)]) ?_ ?_
 ·refine qy J J c (fun c=>?_) (fun c=>?_)
  ·refine O (.ref 0 4 0 0) J<|O (q6 a.X0) J ?_
   obtain ⟨v,ao,c⟩:=q7 c
   refine qt (qax a.X0 v ao) J<|O (qd v) J<|q8 ?_
   obtain rfl:=qc c
   exact ⟨_,_,_,_,J⟩
  refine qa J<|qa J<|qa J<|O (qd false) J<|q8 ?_
  obtain rfl:=qc c
  exact ⟨_,_,_,_,J⟩
 rintro _ ⟨q,s,t,u,rfl⟩
 obtain ⟨ap,f,b⟩:=q7 b
 refine Q0 5 (fun A st=>∃ (w x y z : V),st = A [(24,qd ap),(23,z),(22,y),(21,x),(20,w)]) ?_ ?_
 ·refine qy J J f (fun f=>?_) (fun f=>?_)
  ·refine O (.ref 0 4 0 2) J<|O (q6 a.X1) J ?_
   obtain ⟨aa,aq,f⟩:=q7 f
   refine qt (qax a.X1 aa aq) J<|O (qd aa) J<|q8 ?_
   obtain rfl:=qc f
   exact ⟨_,_,_,_,J⟩
  refine qa J<|qa J<|qa J<|O (qd false) J<|q8 ?_
  obtain rfl:=qc f
  exact ⟨_,_,_,_,J⟩
 rintro _ ⟨w,x,y,z,rfl⟩
 obtain ⟨ar,g,b⟩:=q7 b
 refine Q0 5 (fun A st=>∃ (ab ac ad ae : V),st = A [(29,qd ar),(28,ae),(27,ad),(26,ac),(25,ab)]) ?_ ?_
 ·refine qy J J g (fun g=>?_) (fun g=>?_)
  ·refine O (.ref 0 4 0 1) J<|O (q6 a.Y0) J ?_
   obtain ⟨af,au,g⟩:=q7 g
   refine qt (qax a.Y0 af au) J<|O (qd af) J<|q8 ?_
   obtain rfl:=qc g
   exact ⟨_,_,_,_,J⟩
  refine qa J<|qa J<|qa J<|O (qd false) J<|q8 ?_
  obtain rfl:=qc g
  exact ⟨_,_,_,_,J⟩
 rintro _ ⟨ab,ac,ad,ae,rfl⟩
 obtain ⟨ag,h,b⟩:=q7 b
 refine Q0 5 (fun A st=>∃ (ah ai aj ak : V),st = A [(34,qd ag),(33,ak),(32,aj),(31,ai),(30,ah)]) ?_ ?_
 ·refine qy J J h (fun h=>?_) (fun h=>?_)
  ·refine O (.ref 0 4 0 3) J<|O (q6 a.Y1) J ?_
   obtain ⟨al,av,h⟩:=q7 h
   refine qt (qax a.Y1 al av) J<|O (qd al) J<|q8 ?_
   obtain rfl:=qc h
   exact ⟨_,_,_,_,J⟩
  refine qa J<|qa J<|qa J<|O (qd false) J<|q8 ?_
  obtain rfl:=qc h
  exact ⟨_,_,_,_,J⟩
 rintro _ ⟨ah,ai,aj,ak,rfl⟩
 refine q9 J<|qn ?_
 obtain rfl:=qc b
 exact qv (qd ag) J
theorem qsq (a : qf) (r : Bool) (b : q1r a = some r) : Pure Tryz.prog tab 94 [.agg [G a.X0,G a.Y0,G a.X1,G a.Y1]] (.bool r):=by
 unfold q1r at b
 refine Qc Tryz.func94 J (by kernel_rfl) (by kernel_rfl) J<|qb<|Qh (.ref 0 4 0 0) (.dat 4 [[G a.X0,G a.Y0,G a.X1,G a.Y1]]) J<|q9 J<|qp<|O (.d (.agg [G a.X0,G a.Y0,G a.X1,G a.Y1])) J ?_
 obtain ⟨c,f,b⟩:=q7 b
 refine qt (qjd a c f) J<|O (qd (!c)) J<|q9 J<|qn ?_
 obtain rfl:=qc b
 exact qv (qd (!c)) J
theorem qpt (k : Int) (r : Int) (a : q1n k = some r) : Pure Tryz.prog tab 185 [.int .u64 k] (G r):=by
 unfold q1n at a
 refine Qc Tryz.func185 J (by kernel_rfl) (by kernel_rfl) J<|qb<|q9 J<|q8<|qe<|qb<|U J<|O (.d (.bool (decide (k ≥ 4294967296)))) J<|q8 ?_
 obtain ⟨m,g,a⟩:=q7 a
 refine Y2 (fun b=>b = m) (fun (b : Int × Int)=>⟨[(0,.d (.int .u64 b.1)),(2,q6 b.2)],[],0⟩) (by simp) ?_ ?_
 ·refine qk J g (fun _ g=>?_) (fun _ g=>?_)
  ·refine qb<|U J<|O (.d (.int .u64 (Int.fdiv k (2 ^ 32)))) J<|q9 J<|q8<|qs<|q9 J<|qr ?_
   obtain rfl:=qc g
   exact ⟨_,J,wkA [] [] []⟩
  refine ql<|Qa ?_
  obtain rfl:=qc g
  exact ⟨_,J,wkA [] [] []⟩
 intro b hb
 subst hb
 refine qe<|qb<|U J<|O (.d (.bool (decide (b.1 ≥ 65536)))) J<|q8 ?_
 obtain ⟨n,h,a⟩:=q7 a
 refine Y2 (fun c=>c = n) (fun (c : Int × Int)=>⟨[(0,.d (.int .u64 c.1)),(2,q6 c.2)],[],0⟩) (by simp) ?_ ?_
 ·refine qk J h (fun _ h=>?_) (fun _ h=>?_)
  ·refine qb<|U J<|O (.d (.int .u64 (Int.fdiv b.1 (2 ^ 16)))) J<|q9 J<|q8<|qs<|U J<|O (.d (G (w64 (b.2 + 16)))) J<|q9 J<|qr ?_
   obtain rfl:=qc h
   exact ⟨_,J,wkA [] [] []⟩
  refine ql<|Qa ?_
  obtain rfl:=qc h
  exact ⟨_,J,wkA [] [] []⟩
 intro c hb
 subst hb
 refine qe<|qb<|U J<|O (.d (.bool (decide (c.1 ≥ 256)))) J<|q8 ?_
 obtain ⟨o,j,a⟩:=q7 a
 refine Y2 (fun f=>f = o) (fun (f : Int × Int)=>⟨[(0,.d (.int .u64 f.1)),(2,q6 f.2)],[],0⟩) (by simp) ?_ ?_
 ·refine qk J j (fun _ j=>?_) (fun _ j=>?_)
  ·refine qb<|U J<|O (.d (.int .u64 (Int.fdiv c.1 (2 ^ 8)))) J<|q9 J<|q8<|qs<|U J<|O (.d (G (w64 (c.2 + 8)))) J<|q9 J<|qr ?_
   obtain rfl:=qc j
   exact ⟨_,J,wkA [] [] []⟩
  refine ql<|Qa ?_
  obtain rfl:=qc j
  exact ⟨_,J,wkA [] [] []⟩
 intro f hb
 subst hb
 refine qb<|U J<|U J<|O (.d (.int .u8 (IntKind.wrap .u8 f.1))) J ?_
 obtain ⟨l,p,a⟩:=q7 a
 refine qqe qbd p J J J J J<|O (q6 (w64 l)) J<|O (.d (G (w64 (f.2 + (w64 l))))) J<|q9 J<|qn ?_
 obtain rfl:=qc a
 exact qv (.d (G (w64 (f.2 + (w64 l))))) J
theorem qd1 (b : Int) (r : Int) (a : U3 b = some r) : Pure Tryz.prog tab 165 [.int .u64 b] (G r):=by
 unfold U3 at a
 refine Qc Tryz.func165 J (by kernel_rfl) (by kernel_rfl) J<|qb<|q9 J<|q8<|qe<|U6 J<|ql<|qb<|U J ?_
 obtain ⟨c,d,a⟩:=q7 a
 refine qt (qpt b c d) J<|q9 J<|qn ?_
 obtain rfl:=qc a
 exact qv (q6 c) J
theorem qfr (a : Int) (r : Bool) (b : q6l a = some r) : Pure Tryz.prog tab 194 [G a] (.bool r):=by
 unfold q6l at b
 refine Qc Tryz.func194 J (by kernel_rfl) (by kernel_rfl) J<|qb<|q9 J<|qp<|U J<|U J<|O (qd (a != a)) J<|q9 J<|qn ?_
 obtain rfl:=qc b
 exact qv (qd (a != a)) J
theorem Yx (c : Int) (f : Int) (r : Bool) (a : Ye c f = some r) : Pure Tryz.prog tab 181 [G c,G f] (.bool r):=by
 unfold Ye at a
 refine Qc Tryz.func181 J (by kernel_rfl) (by kernel_rfl) J<|qb<|q9 J<|qp<|U J ?_
 obtain ⟨t,u,a⟩:=q7 a
 refine qt (qfr c t u) J ?_
 obtain ⟨v,b,a⟩:=q7 a
 refine Q0 5 (fun A st=>∃ (j k l m : V),st = A [(11,qd v),(10,m),(9,l),(8,k),(7,j)]) ?_ ?_
 ·refine qy J J b (fun b=>?_) (fun b=>?_)
  ·refine U J ?_
   obtain ⟨h,w,b⟩:=q7 b
   refine qt (qfr f h w) J<|O (qd (!h)) J<|O (qd (!h)) J<|q8 ?_
   obtain rfl:=qc b
   exact ⟨_,_,_,_,J⟩
  refine qa J<|qa J<|qa J<|O (qd false) J<|q8 ?_
  obtain rfl:=qc b
  exact ⟨_,_,_,_,J⟩
 rintro _ ⟨j,k,l,m,rfl⟩
 obtain ⟨n,g,a⟩:=q7 a
 refine Q0 5 (fun A st=>∃ (o p q s : V),st = A [(16,qd n),(15,s),(14,q),(13,p),(12,o)]) ?_ ?_
 ·refine qy J J g (fun g=>?_) (fun g=>?_)
  ·refine qa J<|qa J<|qa J<|O (qd true) J<|q8 ?_
   obtain rfl:=qc g
   exact ⟨_,_,_,_,J⟩
  refine U J<|U J<|O (.d (.bool (decide (c < f)))) J<|O (.d (.bool (decide (c < f)))) J<|q8 ?_
  obtain rfl:=qc g
  exact ⟨_,_,_,_,J⟩
 rintro _ ⟨o,p,q,s,rfl⟩
 refine q9 J<|qn ?_
 obtain rfl:=qc a
 exact qv (qd n) J
theorem qv6 (l : List Int) (c : Int) (j : Int) (r : List Int) (m : q5k  l c j = some r) : Qq Tryz.prog tab 175 [.hs 0 1 0 l.length,q6 c,q6 j] [(0,.dat 1 (l.map (eI .i64)))] 1 (.d (.tup [])) [(0,.dat 1 (r.map (eI .i64)))] 1:=by
 unfold q5k at m
 refine Qx Tryz.func175 J (by kernel_rfl) (by kernel_rfl) J<|qb<|U J<|O (.d (G (w64 (c + 1)))) J<|q9 J<|q8 ?_
 obtain ⟨al,am,m⟩:=q7 m
 refine qu<|Q7 (q5l j c) (fun (f : Int × List Int)=>⟨[(0,.hs 0 1 0 f.2.length),(1,q6 c),(2,q6 j),(6,q6 f.1)],[(0,.dat 1 (f.2.map (eI .i64)))],1⟩) (w64 (c + 1),l) al am (wkA [] [] []) ?_
 intro f au h
 unfold q5l at h
 refine qe<|qb<|U J<|U J<|O (.d (.bool (decide (f.1 < j)))) J<|q8 ?_
 refine qk J h (fun _ h=>?_) (fun _ h=>?_)
 ·refine ql<|qe ?_
  obtain ⟨an,n,h⟩:=q7 h
  refine Qb (fun k=>k = an) (fun (k : List Int)=>⟨[(0,.hs 0 1 0 k.length),(1,q6 c),(2,q6 j),(6,q6 f.1)],[(0,.dat 1 (k.map (eI .i64)))],1⟩) (by simp) ?_ ?_
  ·refine qb<|U J<|q9 J<|q8 ?_
   obtain ⟨ao,ap,n⟩:=q7 n
   refine qu<|Q7 (q5m c) (fun (g : Int × List Int)=>⟨[(0,.hs 0 1 0 g.2.length),(1,q6 c),(2,q6 j),(6,q6 f.1),(7,q6 g.1)],[(0,.dat 1 (g.2.map (eI .i64)))],1⟩) (f.1,f.2) ao ap (wkA [] [] []) ?_
   intro g av a
   unfold q5m at a
   refine qe<|qe<|Q4 [q0,q0,qo 0,q0,q0,q0,q0,qo 0,q0,q0,q0,q0,q0,q0,q0] (by kernel_rfl)<|U J<|U J<|O (.d (.bool (decide (g.1 > c)))) J ?_
   obtain ⟨aq,b,a⟩:=q7 a
   refine Q0 12 (fun A st=>∃ (q s t u v w x y z aa ab : V),st = A [(30,qd aq),(29,ab),(28,aa),(27,z),(26,y),(25,x),(24,w),(23,v),(22,u),(21,t),(20,s),(19,q)]) ?_ ?_
   ·refine qy J J b (fun b=>?_) (fun b=>?_)
    ·refine U J<|U J ?_
     obtain ⟨ac,ad,b⟩:=q7 b
     refine qq ad J J<|qx (q6 ac) ad J<|U J<|U J<|O (.d (G (w64 (g.1 - 1)))) J ?_
     obtain ⟨ae,af,b⟩:=q7 b
     refine qq af J J<|qx (q6 ae) af J ?_
     obtain ⟨ag,ar,b⟩:=q7 b
     refine qt (Yx ac ae ag ar) J<|O (qd ag) J<|q8 ?_
     obtain rfl:=qc b
     exact ⟨_,_,_,_,_,_,_,_,_,_,_,J⟩
    refine qa J<|qa J<|qa J<|qa J<|qa J<|qa J<|qa J<|qa J<|qa J<|qa J<|O (qd false) J<|q8 ?_
    obtain rfl:=qc b
    exact ⟨_,_,_,_,_,_,_,_,_,_,_,J⟩
   rintro _ ⟨q,s,t,u,v,w,x,y,z,aa,ab,rfl⟩
   refine q8 ?_
   refine qk J a (fun _ a=>?_) (fun _ a=>?_)
   ·refine ql<|qe<|qu<|Q4 [Qd 0,q0,Qd 0,q0,qo 0,q0,q0,q0,qo 0,q0,q0,q0,q0,q0,q0,q0,q0,q0] (by kernel_rfl)<|U J<|U J<|U J<|U J<|O (.d (G (w64 (g.1 - 1)))) J<|U J<|U J<|O (.d (G (w64 (g.1 - 1)))) J ?_
    obtain ⟨o,ah,a⟩:=q7 a
    refine qq ah J J<|qx (q6 o) ah J<|U J<|U J ?_
    obtain ⟨p,ai,a⟩:=q7 a
    refine qq ai J J<|qx (q6 p) ai J ?_
    obtain ⟨aw,aj,a⟩:=q7 a
    refine qq aj J J<|Qk (ds:=[G o]) o aj J J J J J J J J (leb J) J ?_
    obtain ⟨ax,ak,a⟩:=q7 a
    refine qq ak (by simp) J<|Qk (ds:=[G p]) p ak J J J J J J J J (leb J) J<|qr<|Q9<|qs<|U J<|O (.d (G (w64 (g.1 - 1)))) J<|q9 J<|qr ?_
    exact ⟨_,(Option.some.inj a).symm,wkE [] [] [] J ⟨⟨_,J,Qp (by simp) J (by decide) (ltd J)⟩,⟨_,J,.d (.refl _)⟩,⟨_,J,.d (.refl _)⟩,⟨_,J,.d (.refl _)⟩,⟨_,J,.d (.refl _)⟩,trivial⟩ ⟨⟨ltd J,.inr ⟨by decide,_,J,.dat _ _⟩⟩,trivial⟩⟩
   refine Q1 ?_
   refine ⟨_,(Option.some.inj a).symm,fun hm=>?_⟩
   subst hm
   obtain rfl:=qc n
   exact ⟨_,J,wkA [] [] []⟩
  intro k hb
  subst hb
  refine qs<|U J<|O (.d (G (w64 (f.1 + 1)))) J<|q9 J<|qr ?_
  exact ⟨_,(Option.some.inj h).symm,wkA [] [] []⟩
 refine Q1 ?_
 refine ⟨_,(Option.some.inj h).symm,fun hm=>?_⟩
 subst hm
 obtain rfl:=qc m
 exact ⟨.inl J,_,J,wkA [] [] []⟩
theorem qk5 (l : List Int) (m : Int) (g : Int) (c : Int) (r : List Int) (j : q3t  l m g c = some r) : Qq Tryz.prog tab 189 [.hs 0 1 0 l.length,q6 m,q6 g,q6 c] [(0,.dat 1 (l.map (eI .i64)))] 1 (.d (.tup [])) [(0,.dat 1 (r.map (eI .i64)))] 1:=by
 unfold q3t at j
 refine Qx Tryz.func189 J (by kernel_rfl) (by kernel_rfl) J<|qb<|U J<|q9 J<|q8 ?_
 obtain ⟨av,aw,j⟩:=q7 j
 refine qu<|Q7 (q68 g c) (fun (b : Int × List Int)=>⟨[(0,.hs 0 1 0 b.2.length),(2,q6 g),(3,q6 c),(8,q6 b.1)],[(0,.dat 1 (b.2.map (eI .i64)))],1⟩) (m,l) av aw (wkA [] [] []) ?_
 intro b bb a
 unfold q68 at a
 refine qu<|qb<|U J<|O (.d (G (w64 (2 * b.1)))) J<|O (.d (G (w64 ((w64 (2 * b.1)) + 1)))) J<|q9 J<|q8<|qe<|qb<|U J<|U J<|O (.d (.bool (decide ((w64 ((w64 (2 * b.1)) + 1)) ≥ g)))) J<|q8 ?_
 refine qk J a (fun _ a=>?_) (fun _ a=>?_)
 ·refine Q1 ?_
  refine ⟨_,(Option.some.inj a).symm,fun hm=>?_⟩
  subst hm
  obtain rfl:=qc j
  exact ⟨.inl J,_,J,wkA [] [] []⟩
 refine ql<|qe<|qe<|Q4 [q0,q0,qo 0,q0,q0,q0,q0,q0,q0,qo 0,q0,q0,q0,q0,q0,q0,q0,q0,q0,q0] (by kernel_rfl)<|U J<|O (.d (G (w64 ((w64 ((w64 (2 * b.1)) + 1)) + 1)))) J<|U J<|O (.d (.bool (decide ((w64 ((w64 ((w64 (2 * b.1)) + 1)) + 1)) < g)))) J ?_
 obtain ⟨ax,f,a⟩:=q7 a
 refine Q0 16 (fun A st=>∃ (p q s t u v w x y z aa ab ac ad ae : V),st = A [(36,qd ax),(35,ae),(34,ad),(33,ac),(32,ab),(31,aa),(30,z),(29,y),(28,x),(27,w),(26,v),(25,u),(24,t),(23,s),(22,q),(21,p)]) ?_ ?_
 ·refine qy J J f (fun f=>?_) (fun f=>?_)
  ·refine U J<|U J<|U J<|O (.d (G (w64 (c + (w64 ((w64 (2 * b.1)) + 1)))))) J ?_
   obtain ⟨af,ag,f⟩:=q7 f
   refine qq ag J J<|qx (q6 af) ag J<|U J<|U J<|U J<|O (.d (G (w64 (c + (w64 ((w64 (2 * b.1)) + 1)))))) J<|O (.d (G (w64 ((w64 (c + (w64 ((w64 (2 * b.1)) + 1)))) + 1)))) J ?_
   obtain ⟨ah,ai,f⟩:=q7 f
   refine qq ai J J<|qx (q6 ah) ai J ?_
   obtain ⟨aj,ay,f⟩:=q7 f
   refine qt (Yx af ah aj ay) J<|O (qd aj) J<|q8 ?_
   obtain rfl:=qc f
   exact ⟨_,_,_,_,_,_,_,_,_,_,_,_,_,_,_,J⟩
  refine qa J<|qa J<|qa J<|qa J<|qa J<|qa J<|qa J<|qa J<|qa J<|qa J<|qa J<|qa J<|qa J<|qa J<|O (qd false) J<|q8 ?_
  obtain rfl:=qc f
  exact ⟨_,_,_,_,_,_,_,_,_,_,_,_,_,_,_,J⟩
 rintro _ ⟨p,q,s,t,u,v,w,x,y,z,aa,ab,ac,ad,ae,rfl⟩
 refine q8 ?_
 obtain ⟨az,k,a⟩:=q7 a
 refine Y2 (fun h=>h = az) (fun (h : Int)=>⟨[(0,.hs 0 1 0 b.2.length),(2,q6 g),(3,q6 c),(8,q6 b.1),(9,q6 h)],[(0,.dat 1 (b.2.map (eI .i64)))],1⟩) (by simp) ?_ ?_
 ·refine qk J k (fun _ k=>?_) (fun _ k=>?_)
  ·refine qs<|U J<|O (.d (G (w64 ((w64 ((w64 (2 * b.1)) + 1)) + 1)))) J<|q9 J<|qr ?_
   obtain rfl:=qc k
   exact ⟨_,J,wkA [] [] []⟩
  refine ql<|Qa ?_
  obtain rfl:=qc k
  exact ⟨_,J,wkA [] [] []⟩
 intro h hb
 subst hb
 refine qe<|qe<|Q4 [q0,q0,qo 0,q0,q0,q0,q0,q0,qo 0,q0,q0,q0,q0,q0] (by kernel_rfl)<|U J<|U J<|U J<|O (.d (G (w64 (c + b.1)))) J ?_
 obtain ⟨ak,al,a⟩:=q7 a
 refine qq al J J<|qx (q6 ak) al J<|U J<|U J<|U J<|O (.d (G (w64 (c + h)))) J ?_
 obtain ⟨am,an,a⟩:=q7 a
 refine qq an J J<|qx (q6 am) an J ?_
 obtain ⟨ao,ba,a⟩:=q7 a
 refine qt (Yx ak am ao ba) J<|O (qd (!ao)) J<|q8 ?_
 refine qk J a (fun _ a=>?_) (fun _ a=>?_)
 ·refine q3h ?_
  refine ⟨_,(Option.some.inj a).symm,fun hm=>?_⟩
  subst hm
  obtain rfl:=qc j
  exact ⟨.inr J,_,J,wkA [] [] []⟩
 refine ql<|qe<|Q4 [Qd 0,q0,Qd 0,q0,qo 0,q0,q0,q0,q0,q0,qo 0,q0,q0,q0,q0,q0,q0,q0,q0,q0,q0,q0,q0,q0] (by kernel_rfl)<|U J<|U J<|U J<|O (.d (G (w64 (c + b.1)))) J<|U J<|U J<|U J<|O (.d (G (w64 (c + h)))) J<|U J<|U J<|U J<|O (.d (G (w64 (c + h)))) J ?_
 obtain ⟨n,ap,a⟩:=q7 a
 refine qq ap J J<|qx (q6 n) ap J<|U J<|U J<|U J<|O (.d (G (w64 (c + b.1)))) J ?_
 obtain ⟨o,aq,a⟩:=q7 a
 refine qq aq J J<|qx (q6 o) aq J ?_
 obtain ⟨bc,ar,a⟩:=q7 a
 refine qq ar J J<|Qk (ds:=[G n]) n ar J J J J J J J J (leb J) J ?_
 obtain ⟨bd,au,a⟩:=q7 a
 refine qq au (by simp) J<|Qk (ds:=[G o]) o au J J J J J J J J (leb J) J<|q8<|qs<|U J<|q9 J<|qr<|Q9<|Qa ?_
 exact ⟨_,(Option.some.inj a).symm,wkE [] [] [] J ⟨⟨_,J,Qp (by simp) J (by decide) (ltd J)⟩,⟨_,J,.d (.refl _)⟩,⟨_,J,.d (.refl _)⟩,⟨_,J,.d (.refl _)⟩,trivial⟩ ⟨⟨ltd J,.inr ⟨by decide,_,J,.dat _ _⟩⟩,trivial⟩⟩
theorem qv4 (l : List Int) (a : Int) (c : Int) (r : List Int) (j : q5h  l a c = some r) : Qq Tryz.prog tab 176 [.hs 0 1 0 l.length,q6 a,q6 c] [(0,.dat 1 (l.map (eI .i64)))] 1 (.d (.tup [])) [(0,.dat 1 (r.map (eI .i64)))] 1:=by
 unfold q5h at j
 refine Qx Tryz.func176 J (by kernel_rfl) (by kernel_rfl) J<|qb<|U J<|q9 J<|qp<|q9 J<|qp<|U J<|U J<|O (.d (G (w64 (c - a)))) J<|q9 J<|q8<|qe<|qb<|U J<|O (.d (G (w64 ((w64 (c - a)) - 1)))) J<|O (.d (G (w64 (Int.tdiv (w64 ((w64 (c - a)) - 1)) 2)))) J<|q9 J<|q8 ?_
 obtain ⟨p,w,j⟩:=q7 j
 refine Qb (fun k=>k = p) (fun (k : List Int)=>⟨[(0,.hs 0 1 0 k.length),(6,q6 a),(7,q6 0),(8,.d (G (w64 (c - a))))],[(0,.dat 1 (k.map (eI .i64)))],1⟩) (by simp) ?_ ?_
 ·refine Q7 (q5i c a) (fun (g : Int × List Int)=>⟨[(0,.hs 0 1 0 g.2.length),(6,q6 a),(7,q6 0),(8,.d (G (w64 (c - a)))),(9,q6 g.1)],[(0,.dat 1 (g.2.map (eI .i64)))],1⟩) (w64 (Int.tdiv (w64 ((w64 (c - a)) - 1)) 2),l) p w (wkA [] [] []) ?_
  intro g af h
  unfold q5i at h
  refine qe<|qb<|U J<|O (.d (.bool (decide (g.1 ≥ 0)))) J<|q8 ?_
  refine qk J h (fun _ h=>?_) (fun _ h=>?_)
  ·refine ql<|qe<|qu<|qs<|U J<|U J<|U J<|U J ?_
   obtain ⟨q,x,h⟩:=q7 h
   obtain ⟨ag,y,h⟩:=q7 h
   have z:=K5 y
   refine Qr [(0,0)] [(0,0)] [.hs 0 1 0 g.2.length,q6 g.1,.d (G (w64 (c - a))),q6 a] (.d (.tup [])) 1 [(0,.dat 1 (q.map (eI .i64)))] 1 (qk5 g.2 g.1 (w64 (c - a)) a q x)<|qr<|Q9<|qs<|U J<|O (.d (G (w64 (g.1 - 1)))) J<|q9 J<|qr ?_
   exact ⟨_,(Option.some.inj h).symm,wkE [] [] [] J ⟨⟨_,J,Qp (by simp [z]) J (by decide) (ltd J)⟩,⟨_,J,.d (.refl _)⟩,⟨_,J,.d (.refl _)⟩,⟨_,J,.d (.refl _)⟩,⟨_,J,.d (.refl _)⟩,trivial⟩ ⟨⟨ltd J,.inr ⟨by decide,_,J,.dat _ _⟩⟩,trivial⟩⟩
  refine Q1 ?_
  refine ⟨_,(Option.some.inj h).symm,fun hm=>?_⟩
  subst hm
  exact ⟨_,J,wkA [] [] []⟩
 intro k hb
 subst hb
 refine qb<|U J<|O (.d (G (w64 ((w64 (c - a)) - 1)))) J<|q9 J<|q8 ?_
 obtain ⟨aa,ab,j⟩:=q7 j
 refine qu<|Q7 (q5j a) (fun (f : Int × List Int)=>⟨[(0,.hs 0 1 0 f.2.length),(6,q6 a),(7,q6 0),(10,q6 f.1)],[(0,.dat 1 (f.2.map (eI .i64)))],1⟩) (w64 ((w64 (c - a)) - 1),k) aa ab (wkA [] [] []) ?_
 intro f ah b
 unfold q5j at b
 refine qe<|qb<|U J<|O (.d (.bool (decide (f.1 ≥ 0)))) J<|q8 ?_
 refine qk J b (fun _ b=>?_) (fun _ b=>?_)
 ·refine ql<|qe<|qu<|qe<|Q4 [Qd 0,q0,Qd 0,q0,qo 0,q0,q0,q0,qo 0,q0,q0,q0,q0,q0,q0,q0,q0,q0,q0,q0] (by kernel_rfl)<|U J<|U J<|U J<|U J<|U J<|O (.d (G (w64 (a + f.1)))) J<|U J<|U J<|U J<|O (.d (G (w64 (a + f.1)))) J ?_
  obtain ⟨m,s,b⟩:=q7 b
  refine qq s J J<|qx (q6 m) s J<|U J<|U J ?_
  obtain ⟨n,t,b⟩:=q7 b
  refine qq t J J<|qx (q6 n) t J ?_
  obtain ⟨ai,u,b⟩:=q7 b
  refine qq u J J<|Qk (ds:=[G m]) m u J J J J J J J J (leb J) J ?_
  obtain ⟨aj,v,b⟩:=q7 b
  refine qq v (by simp) J<|Qk (ds:=[G n]) n v J J J J J J J J (leb J) J<|q8<|qs<|U J<|U J<|U J<|U J ?_
  obtain ⟨o,ac,b⟩:=q7 b
  obtain ⟨ak,ad,b⟩:=q7 b
  have ae:=K5 ad
  refine U4 [(0,0)] [(0,0)] [.hs 0 1 0 f.2.length,q6 0,q6 f.1,q6 a] (.d (.tup [])) [(0,.dat 1 (o.map (eI .i64)))] [(0,.dat 1 (o.map (eI .i64)))] 1 (qk5 ((f.2.set a.toNat m).set (w64 (a + f.1)).toNat n) 0 f.1 a o ac) J J J (Y5 [(0,0)] [] [] J ⟨⟨_,J,Qp (by simp) J (by decide) (ltd J)⟩,⟨_,J,.d (.refl _)⟩,⟨_,J,.d (.refl _)⟩,⟨_,J,.d (.refl _)⟩,trivial⟩ ⟨⟨ltd J,.inr ⟨by decide,_,J,.dat _ _⟩⟩,trivial⟩) (Y5 [(0,0)] [] [] J ⟨⟨_,J,.d (.refl _)⟩,trivial⟩ ⟨⟨ltd J,.inr ⟨by decide,_,J,.dat _ _⟩⟩,trivial⟩) J ⟨.inl J,trivial⟩<|qr<|Q9<|qs<|U J<|O (.d (G (w64 (f.1 - 1)))) J<|q9 J<|qr ?_
  exact ⟨_,(Option.some.inj b).symm,wkE [] [] [] J ⟨⟨_,J,Qp (by simp [ae]) J (by decide) (ltd J)⟩,⟨_,J,.d (.refl _)⟩,⟨_,J,.d (.refl _)⟩,⟨_,J,.d (.refl _)⟩,trivial⟩ ⟨⟨ltd J,.inr ⟨by decide,_,J,.dat _ _⟩⟩,trivial⟩⟩
 refine Q1 ?_
 refine ⟨_,(Option.some.inj b).symm,fun hm=>?_⟩
 subst hm
 obtain rfl:=qc j
 exact ⟨.inl J,_,J,wkA [] [] []⟩
theorem qef (c : List Int) (f : Int) (g : Int) (b : Int) (r : Int × Int × Int) (a : q22  c f g b = some r) : Qq Tryz.prog tab 211 [.d (.sl 1 (c.map (eI .i64))),q6 f,q6 g,.ref 0 1 0 0] [(0,.dat 1 [[G b]])] 1 (.d (.tup [G r.1,G r.2.1])) [(0,.dat 1 [[G r.2.2]])] 1:=by
 unfold q22 at a
 refine Qx Tryz.func211 J (by kernel_rfl) (by kernel_rfl) J<|qb<|q9 J<|q9 J<|q8<|qe<|qe<|Q4 [q0,q0,q0,q0,q0,q0,q0,q0,q0] (by kernel_rfl)<|U J<|U J ?_
 obtain ⟨h,k,a⟩:=q7 a
 refine Q5 (enc:=(eI .i64)) k J<|O (q6 h) J<|U J<|U J ?_
 obtain ⟨j,l,a⟩:=q7 a
 refine Q5 (enc:=(eI .i64)) l J<|O (q6 j) J ?_
 obtain ⟨m,n,a⟩:=q7 a
 refine qt (Yx h j m n) J<|q8 ?_
 refine qk J a (fun _ a=>?_) (fun _ a=>?_)
 ·refine qb<|U J<|O (.ref 0 1 0 0) J<|O (q6 b) J<|O (.d (G (w64 (b + 1)))) J<|O (.ref 0 1 0 0) J<|Q8 0 (.dat 1 [[G (w64 (b + 1))]]) J<|qp<|U J<|U J<|q9 J<|q9 J<|qn ?_
  obtain rfl:=qc a
  exact ⟨.inr J,_,J,wkA [] [] []⟩
 refine ql<|qb<|U J<|U J<|q9 J<|q9 J<|qn ?_
 obtain rfl:=qc a
 exact ⟨.inr J,_,J,wkA [] [] []⟩
theorem qk2 (c : List Int) (h : Int) (j : Int) (k : Int) (l : Int) (r : Int × Int) (f : q3n  c h j k l = some r) : Qq Tryz.prog tab 193 [.d (.sl 1 (c.map (eI .i64))),q6 h,q6 j,q6 k,.ref 0 1 0 0] [(0,.dat 1 [[G l]])] 1 (q6 r.1) [(0,.dat 1 [[G r.2]])] 1:=by
 unfold q3n at f
 refine Qx Tryz.func193 J (by kernel_rfl) (by kernel_rfl) J<|qb<|q9 J<|qp<|U J<|U J<|U J<|U J ?_
 obtain ⟨a,m,f⟩:=q7 f
 refine Qr [(0,0)] [(0,0)] [.d (.sl 1 (c.map (eI .i64))),q6 h,q6 j,.ref 0 1 0 0] (.d (.tup [G a.1,G a.2.1])) 1 [(0,.dat 1 [[G a.2.2]])] 1 (qef c h j l a m)<|U J<|O (q6 a.1) J<|O (q6 a.2.1) J<|q9 J<|q9 J<|qp<|U J<|U J<|U J<|U J ?_
 obtain ⟨b,n,f⟩:=q7 f
 refine Qr [(0,0)] [(0,0)] [.d (.sl 1 (c.map (eI .i64))),q6 a.2.1,q6 k,.ref 0 1 0 0] (.d (.tup [G b.1,G b.2.1])) 1 [(0,.dat 1 [[G b.2.2]])] 1 (qef c a.2.1 k a.2.2 b n)<|U J<|O (q6 b.1) J<|O (q6 b.2.1) J<|q9 J<|q9 J<|qp<|U J<|U J<|U J<|U J ?_
 obtain ⟨g,o,f⟩:=q7 f
 refine Qr [(0,0)] [(0,0)] [.d (.sl 1 (c.map (eI .i64))),q6 a.1,q6 b.1,.ref 0 1 0 0] (.d (.tup [G g.1,G g.2.1])) 1 [(0,.dat 1 [[G g.2.2]])] 1 (qef c a.1 b.1 b.2.2 g o)<|U J<|O (q6 g.1) J<|O (q6 g.2.1) J<|q9 J<|q9 J<|qp<|U J<|q9 J<|qn ?_
 obtain rfl:=qc f
 exact ⟨.inr J,_,J,wkA [] [] []⟩
theorem qed (b : List Int) (a : Int) (f : Int) (r : Int × Int) (c : q21  b a f = some r) : Qq Tryz.prog tab 192 [.d (.sl 1 (b.map (eI .i64))),q6 a,.ref 0 1 0 0] [(0,.dat 1 [[G f]])] 1 (q6 r.1) [(0,.dat 1 [[G r.2]])] 1:=by
 unfold q21 at c
 refine Qx Tryz.func192 J (by kernel_rfl) (by kernel_rfl) J<|qb<|q9 J<|qp<|U J<|U J<|O (.d (G (w64 (a - 1)))) J<|U J<|U J<|O (.d (G (w64 (a + 1)))) J<|U J ?_
 obtain ⟨g,h,c⟩:=q7 c
 refine Qr [(0,0)] [(0,0)] [.d (.sl 1 (b.map (eI .i64))),.d (G (w64 (a - 1))),q6 a,.d (G (w64 (a + 1))),.ref 0 1 0 0] (q6 g.1) 1 [(0,.dat 1 [[G g.2]])] 1 (qk2 b (w64 (a - 1)) a (w64 (a + 1)) f g h)<|q9 J<|qn ?_
 obtain rfl:=qc c
 exact ⟨.inr J,_,J,wkA [] [] []⟩
theorem qv2 (g : List Int) (a : Int) (b : Int) (r : Int × Int) (f : q5g g a b = some r) : Pure Tryz.prog tab 178 [.sl 1 (g.map (eI .i64)),G a,G b] (.tup [G r.1,G r.2]):=by
 unfold q5g at f
 refine Qc Tryz.func178 J (by kernel_rfl) (by kernel_rfl) J<|qb<|q9 J<|q9 J<|qp<|U J<|U J<|O (.d (G (w64 (b - a)))) J<|q9 J<|qp<|Qo J J<|qp<|U J<|U J<|O (.d (G (w64 (Int.tdiv (w64 (b - a)) 4)))) J<|O (.d (G (w64 ((w64 (Int.tdiv (w64 (b - a)) 4)) * 1)))) J<|O (.d (G (w64 (a + (w64 ((w64 (Int.tdiv (w64 (b - a)) 4)) * 1)))))) J<|q9 J<|qp<|U J<|U J<|O (.d (G (w64 (Int.tdiv (w64 (b - a)) 4)))) J<|O (.d (G (w64 ((w64 (Int.tdiv (w64 (b - a)) 4)) * 2)))) J<|O (.d (G (w64 (a + (w64 ((w64 (Int.tdiv (w64 (b - a)) 4)) * 2)))))) J<|q9 J<|qp<|U J<|U J<|O (.d (G (w64 (Int.tdiv (w64 (b - a)) 4)))) J<|O (.d (G (w64 ((w64 (Int.tdiv (w64 (b - a)) 4)) * 3)))) J<|O (.d (G (w64 (a + (w64 ((w64 (Int.tdiv (w64 (b - a)) 4)) * 3)))))) J<|q9 J<|q8<|qe<|qb<|U J<|O (.d (.bool (decide ((w64 (b - a)) ≥ 8)))) J<|q8 ?_
 obtain ⟨p,k,f⟩:=q7 f
 refine Y2 (fun h=>h = p) (fun (h : Int × Int)=>⟨[(9,.ref 0 1 0 0),(11,q6 h.1)],[(0,.dat 1 [[G h.2]])],1⟩) (by simp) ?_ ?_
 ·refine qk J k (fun _ k=>?_) (fun _ k=>?_)
  ·refine qe<|qb<|U J<|O (.d (.bool (decide ((w64 (b - a)) ≥ 50)))) J<|q8 ?_
   obtain ⟨q,j,k⟩:=q7 k
   refine Y2 (fun c=>c = q) (fun (c : Int × Int × Int × Int)=>⟨[(0,.d (.sl 1 (g.map (eI .i64)))),(9,.ref 0 1 0 0),(10,q6 c.1),(11,q6 c.2.1),(12,q6 c.2.2.1)],[(0,.dat 1 [[G c.2.2.2]])],1⟩) (by simp) ?_ ?_
   ·refine qk J j (fun _ j=>?_) (fun _ j=>?_)
    ·refine qb<|U J<|U J ?_
     obtain ⟨l,s,j⟩:=q7 j
     refine Qr [(0,0)] [(0,0)] [.d (.sl 1 (g.map (eI .i64))),.d (G (w64 (a + (w64 ((w64 (Int.tdiv (w64 (b - a)) 4)) * 1))))),.ref 0 1 0 0] (q6 l.1) 1 [(0,.dat 1 [[G l.2]])] 1 (qed g (w64 (a + (w64 ((w64 (Int.tdiv (w64 (b - a)) 4)) * 1)))) 0 l s)<|q9 J<|qp<|U J<|U J ?_
     obtain ⟨m,t,j⟩:=q7 j
     refine Qr [(0,0)] [(0,0)] [.d (.sl 1 (g.map (eI .i64))),.d (G (w64 (a + (w64 ((w64 (Int.tdiv (w64 (b - a)) 4)) * 2))))),.ref 0 1 0 0] (q6 m.1) 1 [(0,.dat 1 [[G m.2]])] 1 (qed g (w64 (a + (w64 ((w64 (Int.tdiv (w64 (b - a)) 4)) * 2)))) l.2 m t)<|q9 J<|q8<|qs<|U J<|U J ?_
     obtain ⟨n,u,j⟩:=q7 j
     refine Qr [(0,0)] [(0,0)] [.d (.sl 1 (g.map (eI .i64))),.d (G (w64 (a + (w64 ((w64 (Int.tdiv (w64 (b - a)) 4)) * 3))))),.ref 0 1 0 0] (q6 n.1) 1 [(0,.dat 1 [[G n.2]])] 1 (qed g (w64 (a + (w64 ((w64 (Int.tdiv (w64 (b - a)) 4)) * 3)))) m.2 n u)<|q9 J<|qr ?_
     obtain rfl:=qc j
     exact ⟨_,J,wkA [(0,0)] [] []⟩
    refine ql<|Qa ?_
    obtain rfl:=qc j
    exact ⟨_,J,wkA [(0,0)] [] []⟩
   intro c hb
   subst hb
   refine qs<|U J<|U J<|U J<|U J ?_
   obtain ⟨o,v,k⟩:=q7 k
   refine Qr [(0,0)] [(0,0)] [.d (.sl 1 (g.map (eI .i64))),q6 c.1,q6 c.2.1,q6 c.2.2.1,.ref 0 1 0 0] (q6 o.1) 1 [(0,.dat 1 [[G o.2]])] 1 (qk2 g c.1 c.2.1 c.2.2.1 c.2.2.2 o v)<|q9 J<|qr ?_
   obtain rfl:=qc k
   exact ⟨_,J,wkA [(0,0)] [] []⟩
  refine ql<|Qa ?_
  obtain rfl:=qc k
  exact ⟨_,J,wkA [(0,0)] [] []⟩
 intro h hb
 subst hb
 refine qb<|O (q6 h.2) J<|q8<|qu<|qb<|O (qd (h.2 == 0)) J<|q9 J<|q8 ?_
 refine qk J f (fun _ f=>?_) (fun _ f=>?_)
 ·refine qb<|U J<|q9 J<|q9 J<|qn ?_
  obtain rfl:=qc f
  exact qv (.d (.tup [G h.1,G 1])) J
 refine qb<|O (qd (h.2 == 12)) J<|q9 J<|q8 ?_
 refine qk J f (fun _ f=>?_) (fun _ f=>?_)
 ·refine qb<|U J<|q9 J<|q9 J<|qn ?_
  obtain rfl:=qc f
  exact qv (.d (.tup [G h.1,G 2])) J
 refine qb<|U J<|q9 J<|q9 J<|qn ?_
 obtain rfl:=qc f
 exact qv (.d (.tup [G h.1,G 0])) J
theorem qvi (c : List Int) (h : Int) (f : Int) (r : List Int) (g : q66  c h f = some r) : Qq Tryz.prog tab 179 [.hs 0 1 0 c.length,q6 h,q6 f] [(0,.dat 1 (c.map (eI .i64)))] 1 (.d (.tup [])) [(0,.dat 1 (r.map (eI .i64)))] 1:=by
 unfold q66 at g
 refine Qx Tryz.func179 J (by kernel_rfl) (by kernel_rfl) J<|qb<|U J<|q9 J<|qp<|U J<|O (.d (G (w64 (f - 1)))) J<|q9 J<|q8 ?_
 obtain ⟨p,q,g⟩:=q7 g
 refine qu<|Q7 (q8t) (fun (b : Int × Int × List Int)=>⟨[(0,.hs 0 1 0 b.2.2.length),(6,q6 b.1),(7,q6 b.2.1)],[(0,.dat 1 (b.2.2.map (eI .i64)))],1⟩) (h,w64 (f - 1),c) p q (wkA [] [] []) ?_
 intro b s a
 unfold q8t at a
 refine qe<|qb<|U J<|U J<|O (.d (.bool (decide (b.1 < b.2.1)))) J<|q8 ?_
 refine qk J a (fun _ a=>?_) (fun _ a=>?_)
 ·refine ql<|qu<|qe<|Q4 [Qd 0,q0,Qd 0,q0,qo 0,q0,q0,q0,qo 0,q0,q0,q0,q0,q0,q0,q0] (by kernel_rfl)<|U J<|U J<|U J<|U J<|U J<|U J ?_
  obtain ⟨j,l,a⟩:=q7 a
  refine qq l J J<|qx (q6 j) l J<|U J<|U J ?_
  obtain ⟨k,m,a⟩:=q7 a
  refine qq m J J<|qx (q6 k) m J ?_
  obtain ⟨t,n,a⟩:=q7 a
  refine qq n J J<|Qk (ds:=[G j]) j n J J J J J J J J (leb J) J ?_
  obtain ⟨u,o,a⟩:=q7 a
  refine qq o (by simp) J<|Qk (ds:=[G k]) k o J J J J J J J J (leb J) J<|qp<|U J<|O (.d (G (w64 (b.1 + 1)))) J<|q9 J<|q8<|qs<|U J<|O (.d (G (w64 (b.2.1 - 1)))) J<|q9 J<|qr<|Q9<|Qa ?_
  exact ⟨_,(Option.some.inj a).symm,wkE [] [] [] J ⟨⟨_,J,Qp (by simp) J (by decide) (ltd J)⟩,⟨_,J,.d (.refl _)⟩,⟨_,J,.d (.refl _)⟩,trivial⟩ ⟨⟨ltd J,.inr ⟨by decide,_,J,.dat _ _⟩⟩,trivial⟩⟩
 refine Q1 ?_
 refine ⟨_,(Option.some.inj a).symm,fun hm=>?_⟩
 subst hm
 obtain rfl:=qc g
 exact ⟨.inl J,_,J,wkA [] [] []⟩
theorem qv8 (v : List Int) (j : Int) (h : Int) (r : Bool × List Int) (q : q3p  v j h = some r) : Qq Tryz.prog tab 180 [.hs 0 1 0 v.length,q6 j,q6 h] [(0,.dat 1 (v.map (eI .i64)))] 1 (qd r.1) [(0,.dat 1 (r.2.map (eI .i64)))] 1:=by
 unfold q3p at q
 refine Qx Tryz.func180 J (by kernel_rfl) (by kernel_rfl) J<|qb<|q9 J<|qp<|U J<|O (.d (G (w64 (j + 1)))) J<|q9 J<|q8<|qe<|qb<|q9 J<|q8 ?_
 obtain ⟨ae,bu,q⟩:=q7 q
 refine Qb (fun w=>.inl w = ae) (fun (w : List Int)=>⟨[],[(0,.dat 1 (w.map (eI .i64)))],1⟩) (by simp) ?_ ?_
 ·refine Q7 (q3q h j) (fun (g : Int × Int × List Int)=>⟨[(0,.hs 0 1 0 g.2.2.length),(1,q6 j),(2,q6 h),(7,q6 g.1),(8,q6 g.2.1)],[(0,.dat 1 (g.2.2.map (eI .i64)))],1⟩) (w64 (j + 1),0,v) ae bu (wkA [] [] []) ?_
  intro g ci l
  unfold q3q at l
  refine qe<|qb<|U J<|O (.d (.bool (decide (g.2.1 < 5)))) J<|q8 ?_
  refine qk J l (fun _ l=>?_) (fun _ l=>?_)
  ·refine ql<|qe ?_
   obtain ⟨bv,a,l⟩:=q7 l
   refine Qb (fun s=>.inl s = bv) (fun (s : Int × List Int)=>⟨[(0,.hs 0 1 0 s.2.length),(1,q6 j),(2,q6 h),(7,q6 s.1),(8,q6 g.2.1)],[(0,.dat 1 (s.2.map (eI .i64)))],1⟩) (by simp) ?_ ?_
   ·refine qe ?_
    obtain ⟨af,bw,a⟩:=q7 a
    refine Qb (fun f=>f = af) (fun (f : Int)=>⟨[(0,.hs 0 1 0 g.2.2.length),(1,q6 j),(2,q6 h),(7,q6 f),(8,q6 g.2.1)],[(0,.dat 1 (g.2.2.map (eI .i64)))],1⟩) (by simp) ?_ ?_
    ·refine Q7 (q5q h g) (fun (u : Int)=>⟨[(0,.hs 0 1 0 g.2.2.length),(1,q6 j),(2,q6 h),(7,q6 u),(8,q6 g.2.1)],[(0,.dat 1 (g.2.2.map (eI .i64)))],1⟩) g.1 af bw (wkA [] [] []) ?_
     intro u cj o
     unfold q5q at o
     refine qe<|qe<|Q4 [q0,q0,q0,qo 0,q0,q0,q0,q0,qo 0,q0,q0,q0,q0,q0,q0,q0] (by kernel_rfl)<|U J<|U J<|O (.d (.bool (decide (u < h)))) J ?_
     obtain ⟨bz,k,o⟩:=q7 o
     refine Q0 13 (fun A st=>∃ (ag ah ai aj ak al am an ao ap aq ar : V),st = A [(32,qd bz),(31,ar),(30,aq),(29,ap),(28,ao),(27,an),(26,am),(25,al),(24,ak),(23,aj),(22,ai),(21,ah),(20,ag)]) ?_ ?_
     ·refine qy J J k (fun k=>?_) (fun k=>?_)
      ·refine U J<|U J ?_
       obtain ⟨au,av,k⟩:=q7 k
       refine qq av J J<|qx (q6 au) av J<|U J<|U J<|O (.d (G (w64 (u - 1)))) J ?_
       obtain ⟨aw,ax,k⟩:=q7 k
       refine qq ax J J<|qx (q6 aw) ax J ?_
       obtain ⟨z,ca,k⟩:=q7 k
       refine qt (Yx au aw z ca) J<|O (qd (!z)) J<|O (qd (!z)) J<|q8 ?_
       obtain rfl:=qc k
       exact ⟨_,_,_,_,_,_,_,_,_,_,_,_,J⟩
      refine qa J<|qa J<|qa J<|qa J<|qa J<|qa J<|qa J<|qa J<|qa J<|qa J<|qa J<|O (qd false) J<|q8 ?_
      obtain rfl:=qc k
      exact ⟨_,_,_,_,_,_,_,_,_,_,_,_,J⟩
     rintro _ ⟨ag,ah,ai,aj,ak,al,am,an,ao,ap,aq,ar,rfl⟩
     refine q8 ?_
     refine qk J o (fun _ o=>?_) (fun _ o=>?_)
     ·refine ql<|qu<|qs<|U J<|O (.d (G (w64 (u + 1)))) J<|q9 J<|qr<|Q9<|Qa ?_
      exact ⟨_,(Option.some.inj o).symm,wkA [] [] []⟩
     refine Q1 ?_
     refine ⟨_,(Option.some.inj o).symm,fun hm=>?_⟩
     subst hm
     exact ⟨_,J,wkA [] [] []⟩
    intro f hb
    subst hb
    refine qe<|qb<|U J<|U J<|O (qd (f == h)) J<|q8 ?_
    refine qk J a (fun _ a=>?_) (fun _ a=>?_)
    ·refine qb<|q9 J<|qn ?_
     obtain rfl:=qc a
     refine ⟨_,(Option.some.inj l).symm,fun hm=>?_⟩
     subst hm
     obtain rfl:=qc q
     exact ⟨.inr J,_,J,wkA [] [] []⟩
    refine ql<|qe<|qb<|U J<|U J<|O (.d (G (w64 (h - j)))) J<|O (.d (.bool (decide ((w64 (h - j)) < 50)))) J<|q8 ?_
    refine qk J a (fun _ a=>?_) (fun _ a=>?_)
    ·refine qb<|q9 J<|qn ?_
     obtain rfl:=qc a
     refine ⟨_,(Option.some.inj l).symm,fun hm=>?_⟩
     subst hm
     obtain rfl:=qc q
     exact ⟨.inr J,_,J,wkA [] [] []⟩
    refine ql<|qe<|Q4 [Qd 0,q0,Qd 0,q0,qo 0,q0,q0,q0,qo 0,q0,q0,q0,q0,q0,q0,q0,q0,q0] (by kernel_rfl)<|U J<|U J<|U J<|U J<|O (.d (G (w64 (f - 1)))) J<|U J<|U J<|O (.d (G (w64 (f - 1)))) J ?_
    obtain ⟨x,ay,a⟩:=q7 a
    refine qq ay J J<|qx (q6 x) ay J<|U J<|U J ?_
    obtain ⟨y,az,a⟩:=q7 a
    refine qq az J J<|qx (q6 y) az J ?_
    obtain ⟨ck,ba,a⟩:=q7 a
    refine qq ba J J<|Qk (ds:=[G x]) x ba J J J J J J J J (leb J) J ?_
    obtain ⟨cl,bb,a⟩:=q7 a
    refine qq bb (by simp) J<|Qk (ds:=[G y]) y bb J J J J J J J J (leb J) J<|q8<|qe<|qb<|U J<|U J<|O (.d (G (w64 (f - j)))) J<|O (.d (.bool (decide ((w64 (f - j)) ≥ 2)))) J<|q8 ?_
    obtain ⟨cb,p,a⟩:=q7 a
    refine Y2 (fun t=>t = cb) (fun (t : List Int)=>⟨[(0,.hs 0 1 0 t.length),(1,q6 j),(2,q6 h),(7,q6 f),(8,q6 g.2.1)],[(0,.dat 1 (t.map (eI .i64)))],1⟩) (by simp) ?_ ?_
    ·refine qk J p (fun _ p=>?_) (fun _ p=>?_)
     ·refine qb<|U J<|O (.d (G (w64 (f - 1)))) J<|q9 J<|q8 ?_
      obtain ⟨cc,cd,p⟩:=q7 p
      refine qu<|Q7 (q8g) (fun (m : Int × List Int)=>⟨[(0,.hs 0 1 0 m.2.length),(1,q6 j),(2,q6 h),(7,q6 f),(8,q6 g.2.1),(9,q6 m.1)],[(0,.dat 1 (m.2.map (eI .i64)))],1⟩) (w64 (f - 1),(g.2.2.set f.toNat x).set (w64 (f - 1)).toNat y) cc cd (wkE [] [] [] J ⟨⟨_,J,Qp (by simp) J (by decide) (ltd J)⟩,⟨_,J,.d (.refl _)⟩,⟨_,J,.d (.refl _)⟩,⟨_,J,.d (.refl _)⟩,⟨_,J,.d (.refl _)⟩,⟨_,J,.d (.refl _)⟩,trivial⟩ ⟨⟨ltd J,.inr ⟨by decide,_,J,.dat _ _⟩⟩,trivial⟩) ?_
      intro m cm b
      unfold q8g at b
      refine qe<|qb<|U J<|O (.d (.bool (decide (m.1 ≥ 1)))) J<|q8 ?_
      refine qk J b (fun _ b=>?_) (fun _ b=>?_)
      ·refine ql<|qe<|qu<|qe<|qe<|Q4 [q0,q0,qo 0,q0,q0,q0,q0,qo 0,q0,q0,q0] (by kernel_rfl)<|U J<|U J ?_
       obtain ⟨bc,bd,b⟩:=q7 b
       refine qq bd J J<|qx (q6 bc) bd J<|U J<|U J<|O (.d (G (w64 (m.1 - 1)))) J ?_
       obtain ⟨be,bf,b⟩:=q7 b
       refine qq bf J J<|qx (q6 be) bf J ?_
       obtain ⟨bg,ce,b⟩:=q7 b
       refine qt (Yx bc be bg ce) J<|O (qd (!bg)) J<|q8 ?_
       refine qk J b (fun _ b=>?_) (fun _ b=>?_)
       ·refine Q1 ?_
        refine ⟨_,(Option.some.inj b).symm,fun hm=>?_⟩
        subst hm
        obtain rfl:=qc p
        exact ⟨_,J,wkA [] [] []⟩
       refine ql<|Q4 [Qd 0,q0,Qd 0,q0,qo 0,q0,q0,q0,qo 0,q0,q0,q0,q0,q0,q0,q0,q0,q0] (by kernel_rfl)<|U J<|U J<|U J<|U J<|O (.d (G (w64 (m.1 - 1)))) J<|U J<|U J<|O (.d (G (w64 (m.1 - 1)))) J ?_
       obtain ⟨aa,bh,b⟩:=q7 b
       refine qq bh J J<|qx (q6 aa) bh J<|U J<|U J ?_
       obtain ⟨ab,bi,b⟩:=q7 b
       refine qq bi J J<|qx (q6 ab) bi J ?_
       obtain ⟨cn,bj,b⟩:=q7 b
       refine qq bj J J<|Qk (ds:=[G aa]) aa bj J J J J J J J J (leb J) J ?_
       obtain ⟨co,bk,b⟩:=q7 b
       refine qq bk (by simp) J<|Qk (ds:=[G ab]) ab bk J J J J J J J J (leb J) J<|qr<|Q9<|qs<|U J<|O (.d (G (w64 (m.1 - 1)))) J<|q9 J<|qr ?_
       exact ⟨_,(Option.some.inj b).symm,wkE [] [] [] J ⟨⟨_,J,Qp (by simp) J (by decide) (ltd J)⟩,⟨_,J,.d (.refl _)⟩,⟨_,J,.d (.refl _)⟩,⟨_,J,.d (.refl _)⟩,⟨_,J,.d (.refl _)⟩,⟨_,J,.d (.refl _)⟩,trivial⟩ ⟨⟨ltd J,.inr ⟨by decide,_,J,.dat _ _⟩⟩,trivial⟩⟩
      refine Q1 ?_
      refine ⟨_,(Option.some.inj b).symm,fun hm=>?_⟩
      subst hm
      obtain rfl:=qc p
      exact ⟨_,J,wkA [] [] []⟩
     refine ql<|Qa ?_
     obtain rfl:=qc p
     exact ⟨_,J,wkE [] [] [] J ⟨⟨_,J,Qp (by simp) J (by decide) (ltd J)⟩,⟨_,J,.d (.refl _)⟩,⟨_,J,.d (.refl _)⟩,⟨_,J,.d (.refl _)⟩,⟨_,J,.d (.refl _)⟩,trivial⟩ ⟨⟨ltd J,.inr ⟨by decide,_,J,.dat _ _⟩⟩,trivial⟩⟩
    intro t hb
    subst hb
    refine qb<|U J<|U J<|O (.d (G (w64 (h - f)))) J<|O (.d (.bool (decide ((w64 (h - f)) ≥ 2)))) J<|q8 ?_
    refine qk J a (fun _ a=>?_) (fun _ a=>?_)
    ·refine qb<|U J<|O (.d (G (w64 (f + 1)))) J<|q9 J<|q8 ?_
     obtain ⟨cf,cg,a⟩:=q7 a
     refine qu<|Q7 (q5r h f) (fun (n : Int × List Int)=>⟨[(0,.hs 0 1 0 n.2.length),(1,q6 j),(2,q6 h),(7,q6 f),(8,q6 g.2.1),(10,q6 n.1)],[(0,.dat 1 (n.2.map (eI .i64)))],1⟩) (w64 (f + 1),t) cf cg (wkA [] [] []) ?_
     intro n cp c
     unfold q5r at c
     refine qe<|qb<|U J<|U J<|O (.d (.bool (decide (n.1 < h)))) J<|q8 ?_
     refine qk J c (fun _ c=>?_) (fun _ c=>?_)
     ·refine ql<|qe<|qu<|qe<|qe<|Q4 [q0,q0,qo 0,q0,q0,q0,q0,qo 0,q0,q0,q0] (by kernel_rfl)<|U J<|U J ?_
      obtain ⟨bl,bm,c⟩:=q7 c
      refine qq bm J J<|qx (q6 bl) bm J<|U J<|U J<|O (.d (G (w64 (n.1 - 1)))) J ?_
      obtain ⟨bn,bo,c⟩:=q7 c
      refine qq bo J J<|qx (q6 bn) bo J ?_
      obtain ⟨bp,ch,c⟩:=q7 c
      refine qt (Yx bl bn bp ch) J<|O (qd (!bp)) J<|q8 ?_
      refine qk J c (fun _ c=>?_) (fun _ c=>?_)
      ·refine Q1 ?_
       refine ⟨_,(Option.some.inj c).symm,fun hm=>?_⟩
       subst hm
       obtain rfl:=qc a
       exact ⟨_,J,wkA [] [] []⟩
      refine ql<|Q4 [Qd 0,q0,Qd 0,q0,qo 0,q0,q0,q0,qo 0,q0,q0,q0,q0,q0,q0,q0,q0,q0] (by kernel_rfl)<|U J<|U J<|U J<|U J<|O (.d (G (w64 (n.1 - 1)))) J<|U J<|U J<|O (.d (G (w64 (n.1 - 1)))) J ?_
      obtain ⟨ac,bq,c⟩:=q7 c
      refine qq bq J J<|qx (q6 ac) bq J<|U J<|U J ?_
      obtain ⟨ad,br,c⟩:=q7 c
      refine qq br J J<|qx (q6 ad) br J ?_
      obtain ⟨cq,bs,c⟩:=q7 c
      refine qq bs J J<|Qk (ds:=[G ac]) ac bs J J J J J J J J (leb J) J ?_
      obtain ⟨cr,bt,c⟩:=q7 c
      refine qq bt (by simp) J<|Qk (ds:=[G ad]) ad bt J J J J J J J J (leb J) J<|qr<|Q9<|qs<|U J<|O (.d (G (w64 (n.1 + 1)))) J<|q9 J<|qr ?_
      exact ⟨_,(Option.some.inj c).symm,wkE [] [] [] J ⟨⟨_,J,Qp (by simp) J (by decide) (ltd J)⟩,⟨_,J,.d (.refl _)⟩,⟨_,J,.d (.refl _)⟩,⟨_,J,.d (.refl _)⟩,⟨_,J,.d (.refl _)⟩,⟨_,J,.d (.refl _)⟩,trivial⟩ ⟨⟨ltd J,.inr ⟨by decide,_,J,.dat _ _⟩⟩,trivial⟩⟩
     refine Q1 ?_
     refine ⟨_,(Option.some.inj c).symm,fun hm=>?_⟩
     subst hm
     obtain rfl:=qc a
     exact ⟨_,J,wkA [] [] []⟩
    refine ql<|Qa ?_
    obtain rfl:=qc a
    exact ⟨_,J,wkA [] [] []⟩
   intro s hb
   subst hb
   refine qs<|U J<|O (.d (G (w64 (g.2.1 + 1)))) J<|q9 J<|qr ?_
   exact ⟨_,(Option.some.inj l).symm,wkA [] [] []⟩
  refine Q1 ?_
  refine ⟨_,(Option.some.inj l).symm,fun hm=>?_⟩
  subst hm
  exact ⟨_,J,wkA [] [] []⟩
 intro w hb
 subst hb
 refine qb<|q9 J<|qn ?_
 obtain rfl:=qc q
 exact ⟨.inr J,_,J,wkA [] [] []⟩
theorem qvb (o : List Int) (c : Int) (p : Int) (v : Int) (r : Int × List Int) (f : q5s  o c p v = some r) : Qq Tryz.prog tab 182 [.hs 0 1 0 o.length,q6 c,q6 p,q6 v] [(0,.dat 1 (o.map (eI .i64)))] 1 (q6 r.1) [(0,.dat 1 (r.2.map (eI .i64)))] 1:=by
 unfold q5s at f
 refine Qx Tryz.func182 J (by kernel_rfl) (by kernel_rfl) J<|qb<|q9 J<|q8<|qe<|Q4 [Qd 0,q0,Qd 0,q0,qo 0,q0,q0,q0,qo 0,q0,q0,q0,q0,q0,q0,q0] (by kernel_rfl)<|U J<|U J<|U J<|U J<|U J<|U J ?_
 obtain ⟨q,z,f⟩:=q7 f
 refine qq z J J<|qx (q6 q) z J<|U J<|U J ?_
 obtain ⟨s,aa,f⟩:=q7 f
 refine qq aa J J<|qx (q6 s) aa J ?_
 obtain ⟨bz,ab,f⟩:=q7 f
 refine qq ab J J<|Qk (ds:=[G q]) q ab J J J J J J J J (leb J) J ?_
 obtain ⟨ca,ac,f⟩:=q7 f
 refine qq ac (by simp) J<|Qk (ds:=[G s]) s ac J J J J J J J J (leb J) J<|qp<|U J<|O (.d (G (w64 (c + 1)))) J<|U J<|O (.d (G (w64 (p - 1)))) J<|q9 J<|q9 J<|q8<|qe ?_
 obtain ⟨ad,bq,f⟩:=q7 f
 refine Qb (fun n=>n = ad) (fun (n : Int × List Int)=>⟨[(9,q6 n.1)],[(0,.dat 1 (n.2.map (eI .i64)))],1⟩) (by simp) ?_ ?_
 ·refine Q7 (q5t c) (fun (a : Int × Int × List Int)=>⟨[(0,.hs 0 1 0 a.2.2.length),(1,q6 c),(9,q6 a.1),(10,q6 a.2.1)],[(0,.dat 1 (a.2.2.map (eI .i64)))],1⟩) (w64 (c + 1),w64 (p - 1),(o.set c.toNat q).set v.toNat s) ad bq (wkE [] [] [] J ⟨⟨_,J,Qp (by simp) J (by decide) (ltd J)⟩,⟨_,J,.d (.refl _)⟩,⟨_,J,.d (.refl _)⟩,⟨_,J,.d (.refl _)⟩,trivial⟩ ⟨⟨ltd J,.inr ⟨by decide,_,J,.dat _ _⟩⟩,trivial⟩) ?_
  intro a cb b
  unfold q5t at b
  refine qu<|qe ?_
  obtain ⟨ae,br,b⟩:=q7 b
  refine Qb (fun j=>j = ae) (fun (j : Int)=>⟨[(0,.hs 0 1 0 a.2.2.length),(1,q6 c),(9,q6 j),(10,q6 a.2.1)],[(0,.dat 1 (a.2.2.map (eI .i64)))],1⟩) (by simp) ?_ ?_
  ·refine Q7 (q5u a c) (fun (t : Int)=>⟨[(0,.hs 0 1 0 a.2.2.length),(1,q6 c),(9,q6 t),(10,q6 a.2.1)],[(0,.dat 1 (a.2.2.map (eI .i64)))],1⟩) a.1 ae br (wkA [] [] []) ?_
   intro t cc k
   unfold q5u at k
   refine qe<|qe<|Q4 [q0,q0,q0,qo 0,q0,q0,q0,qo 0,q0,q0,q0,q0,q0,q0,q0] (by kernel_rfl)<|U J<|U J<|O (.d (.bool (decide (t≤a.2.1)))) J ?_
   obtain ⟨bs,g,k⟩:=q7 k
   refine Q0 12 (fun A st=>∃ (af ag ah ai aj ak al am an ao ap : V),st = A [(43,qd bs),(42,ap),(41,ao),(40,an),(39,am),(38,al),(37,ak),(36,aj),(35,ai),(34,ah),(33,ag),(32,af)]) ?_ ?_
   ·refine qy J J g (fun g=>?_) (fun g=>?_)
    ·refine U J<|U J ?_
     obtain ⟨aq,ar,g⟩:=q7 g
     refine qq ar J J<|qx (q6 aq) ar J<|U J<|U J ?_
     obtain ⟨au,av,g⟩:=q7 g
     refine qq av J J<|qx (q6 au) av J ?_
     obtain ⟨w,bt,g⟩:=q7 g
     refine qt (Yx aq au w bt) J<|O (qd (!w)) J<|O (qd (!w)) J<|q8 ?_
     obtain rfl:=qc g
     exact ⟨_,_,_,_,_,_,_,_,_,_,_,J⟩
    refine qa J<|qa J<|qa J<|qa J<|qa J<|qa J<|qa J<|qa J<|qa J<|qa J<|O (qd false) J<|q8 ?_
    obtain rfl:=qc g
    exact ⟨_,_,_,_,_,_,_,_,_,_,_,J⟩
   rintro _ ⟨af,ag,ah,ai,aj,ak,al,am,an,ao,ap,rfl⟩
   refine q8 ?_
   refine qk J k (fun _ k=>?_) (fun _ k=>?_)
   ·refine ql<|qu<|qs<|U J<|O (.d (G (w64 (t + 1)))) J<|q9 J<|qr<|Q9<|Qa ?_
    exact ⟨_,(Option.some.inj k).symm,wkA [] [] []⟩
   refine Q1 ?_
   refine ⟨_,(Option.some.inj k).symm,fun hm=>?_⟩
   subst hm
   exact ⟨_,J,wkA [] [] []⟩
  intro j hb
  subst hb
  refine qe ?_
  obtain ⟨aw,bu,b⟩:=q7 b
  refine Qb (fun m=>m = aw) (fun (m : Int)=>⟨[(0,.hs 0 1 0 a.2.2.length),(1,q6 c),(9,q6 j),(10,q6 m)],[(0,.dat 1 (a.2.2.map (eI .i64)))],1⟩) (by simp) ?_ ?_
  ·refine Q7 (q5v j a c) (fun (u : Int)=>⟨[(0,.hs 0 1 0 a.2.2.length),(1,q6 c),(9,q6 j),(10,q6 u)],[(0,.dat 1 (a.2.2.map (eI .i64)))],1⟩) a.2.1 aw bu (wkA [] [] []) ?_
   intro u cd l
   unfold q5v at l
   refine qe<|qe<|Q4 [q0,q0,qo 0,q0,q0,q0,qo 0,q0,q0,q0,q0,q0,q0,q0] (by kernel_rfl)<|U J<|U J<|O (.d (.bool (decide (j≤u)))) J ?_
   obtain ⟨bv,h,l⟩:=q7 l
   refine Q0 11 (fun A st=>∃ (ax ay az ba bb bc bd be bf bg : V),st = A [(59,qd bv),(58,bg),(57,bf),(56,be),(55,bd),(54,bc),(53,bb),(52,ba),(51,az),(50,ay),(49,ax)]) ?_ ?_
   ·refine qy J J h (fun h=>?_) (fun h=>?_)
    ·refine U J<|U J ?_
     obtain ⟨bh,bi,h⟩:=q7 h
     refine qq bi J J<|qx (q6 bh) bi J<|U J<|U J ?_
     obtain ⟨bj,bk,h⟩:=q7 h
     refine qq bk J J<|qx (q6 bj) bk J ?_
     obtain ⟨bl,bw,h⟩:=q7 h
     refine qt (Yx bh bj bl bw) J<|O (qd bl) J<|q8 ?_
     obtain rfl:=qc h
     exact ⟨_,_,_,_,_,_,_,_,_,_,J⟩
    refine qa J<|qa J<|qa J<|qa J<|qa J<|qa J<|qa J<|qa J<|qa J<|O (qd false) J<|q8 ?_
    obtain rfl:=qc h
    exact ⟨_,_,_,_,_,_,_,_,_,_,J⟩
   rintro _ ⟨ax,ay,az,ba,bb,bc,bd,be,bf,bg,rfl⟩
   refine q8 ?_
   refine qk J l (fun _ l=>?_) (fun _ l=>?_)
   ·refine ql<|qu<|qs<|U J<|O (.d (G (w64 (u - 1)))) J<|q9 J<|qr<|Q9<|Qa ?_
    exact ⟨_,(Option.some.inj l).symm,wkA [] [] []⟩
   refine Q1 ?_
   refine ⟨_,(Option.some.inj l).symm,fun hm=>?_⟩
   subst hm
   exact ⟨_,J,wkA [] [] []⟩
  intro m hb
  subst hb
  refine qe<|qb<|U J<|U J<|O (.d (.bool (decide (j > m)))) J<|q8 ?_
  refine qk J b (fun _ b=>?_) (fun _ b=>?_)
  ·refine Q1 ?_
   refine ⟨_,(Option.some.inj b).symm,fun hm=>?_⟩
   subst hm
   exact ⟨_,J,wkA [] [] []⟩
  refine ql<|qe<|Q4 [Qd 0,q0,Qd 0,q0,qo 0,q0,q0,q0,qo 0,q0,q0,q0,q0,q0,q0,q0] (by kernel_rfl)<|U J<|U J<|U J<|U J<|U J<|U J ?_
  obtain ⟨x,bm,b⟩:=q7 b
  refine qq bm J J<|qx (q6 x) bm J<|U J<|U J ?_
  obtain ⟨y,bn,b⟩:=q7 b
  refine qq bn J J<|qx (q6 y) bn J ?_
  obtain ⟨ce,bo,b⟩:=q7 b
  refine qq bo J J<|Qk (ds:=[G x]) x bo J J J J J J J J (leb J) J ?_
  obtain ⟨cf,bp,b⟩:=q7 b
  refine qq bp (by simp) J<|Qk (ds:=[G y]) y bp J J J J J J J J (leb J) J<|qp<|U J<|O (.d (G (w64 (j + 1)))) J<|q9 J<|q8<|qs<|U J<|O (.d (G (w64 (m - 1)))) J<|q9 J<|qr<|Q9<|Qa ?_
  exact ⟨_,(Option.some.inj b).symm,wkE [] [] [] J ⟨⟨_,J,Qp (by simp) J (by decide) (ltd J)⟩,⟨_,J,.d (.refl _)⟩,⟨_,J,.d (.refl _)⟩,⟨_,J,.d (.refl _)⟩,trivial⟩ ⟨⟨ltd J,.inr ⟨by decide,_,J,.dat _ _⟩⟩,trivial⟩⟩
 intro n hb
 subst hb
 refine qb<|U J<|q9 J<|qn ?_
 obtain rfl:=qc f
 exact ⟨.inr J,_,J,wkA [] [] []⟩
theorem qvc (g : List Int) (b : Int) (s : Int) (k : Int) (r : Int × Bool × List Int) (a : q5w  g b s k = some r) : Qq Tryz.prog tab 183 [.hs 0 1 0 g.length,q6 b,q6 s,q6 k] [(0,.dat 1 (g.map (eI .i64)))] 1 (.d (.tup [G r.1,.bool r.2.1])) [(0,.dat 1 (r.2.2.map (eI .i64)))] 1:=by
 unfold q5w at a
 refine Qx Tryz.func183 J (by kernel_rfl) (by kernel_rfl) J<|qb<|q9 J<|q9 J<|q8<|qe<|Q4 [Qd 0,q0,Qd 0,q0,qo 0,q0,q0,q0,qo 0,q0,q0,q0,q0,q0,q0,q0] (by kernel_rfl)<|U J<|U J<|U J<|U J<|U J<|U J ?_
 obtain ⟨h,ao,a⟩:=q7 a
 refine qq ao J J<|qx (q6 h) ao J<|U J<|U J ?_
 obtain ⟨j,ap,a⟩:=q7 a
 refine qq ap J J<|qx (q6 j) ap J ?_
 obtain ⟨fr,aq,a⟩:=q7 a
 refine qq aq J J<|Qk (ds:=[G h]) h aq J J J J J J J J (leb J) J ?_
 obtain ⟨fs,ar,a⟩:=q7 a
 refine qq ar (by simp) J<|Qk (ds:=[G j]) j ar J J J J J J J J (leb J) J<|qp<|U J<|O (.d (G (w64 (b + 1)))) J<|U J<|O (.d (G (w64 (s - 1)))) J<|q9 J<|q9 J<|q8<|qe ?_
 obtain ⟨au,fd,a⟩:=q7 a
 refine Qb (fun l=>l = au) (fun (l : Int)=>⟨[(0,.hs 0 1 0 ((g.set b.toNat h).set k.toNat j).length),(1,q6 b),(10,q6 l),(11,.d (G (w64 (s - 1))))],[(0,.dat 1 (((g.set b.toNat h).set k.toNat j).map (eI .i64)))],1⟩) (by simp) ?_ ?_
 ·refine Q7 (q5x s g b h k j) (fun (aa : Int)=>⟨[(0,.hs 0 1 0 ((g.set b.toNat h).set k.toNat j).length),(1,q6 b),(10,q6 aa),(11,.d (G (w64 (s - 1))))],[(0,.dat 1 (((g.set b.toNat h).set k.toNat j).map (eI .i64)))],1⟩) (w64 (b + 1)) au fd (wkE [] [] [] J ⟨⟨_,J,Qp (by simp) J (by decide) (ltd J)⟩,⟨_,J,.d (.refl _)⟩,⟨_,J,.d (.refl _)⟩,⟨_,J,.d (.refl _)⟩,trivial⟩ ⟨⟨ltd J,.inr ⟨by decide,_,J,.dat _ _⟩⟩,trivial⟩) ?_
  intro aa ft t
  unfold q5x at t
  refine qe<|qe<|Q4 [q0,q0,qo 0,q0,q0,q0,qo 0,q0,q0,q0,q0,q0,q0,q0] (by kernel_rfl)<|U J<|U J<|O (.d (.bool (decide (aa≤(w64 (s - 1)))))) J ?_
  obtain ⟨fe,m,t⟩:=q7 t
  refine Q0 11 (fun A st=>∃ (av aw ax ay az ba bb bc bd be : V),st = A [(43,qd fe),(42,be),(41,bd),(40,bc),(39,bb),(38,ba),(37,az),(36,ay),(35,ax),(34,aw),(33,av)]) ?_ ?_
  ·refine qy J J m (fun m=>?_) (fun m=>?_)
   ·refine U J<|U J ?_
    obtain ⟨bf,bg,m⟩:=q7 m
    refine qq bg J J<|qx (q6 bf) bg J<|U J<|U J ?_
    obtain ⟨bh,bi,m⟩:=q7 m
    refine qq bi J J<|qx (q6 bh) bi J ?_
    obtain ⟨bj,ff,m⟩:=q7 m
    refine qt (Yx bf bh bj ff) J<|O (qd bj) J<|q8 ?_
    obtain rfl:=qc m
    exact ⟨_,_,_,_,_,_,_,_,_,_,J⟩
   refine qa J<|qa J<|qa J<|qa J<|qa J<|qa J<|qa J<|qa J<|qa J<|O (qd false) J<|q8 ?_
   obtain rfl:=qc m
   exact ⟨_,_,_,_,_,_,_,_,_,_,J⟩
  rintro _ ⟨av,aw,ax,ay,az,ba,bb,bc,bd,be,rfl⟩
  refine q8 ?_
  refine qk J t (fun _ t=>?_) (fun _ t=>?_)
  ·refine ql<|qu<|qs<|U J<|O (.d (G (w64 (aa + 1)))) J<|q9 J<|qr<|Q9<|Qa ?_
   exact ⟨_,(Option.some.inj t).symm,wkA [] [] []⟩
  refine Q1 ?_
  refine ⟨_,(Option.some.inj t).symm,fun hm=>?_⟩
  subst hm
  exact ⟨_,J,wkA [] [] []⟩
 intro l hb
 subst hb
 refine qe ?_
 obtain ⟨bk,fg,a⟩:=q7 a
 refine Qb (fun u=>u = bk) (fun (u : Int)=>⟨[(0,.hs 0 1 0 ((g.set b.toNat h).set k.toNat j).length),(1,q6 b),(10,q6 l),(11,q6 u)],[(0,.dat 1 (((g.set b.toNat h).set k.toNat j).map (eI .i64)))],1⟩) (by simp) ?_ ?_
 ·refine Q7 (q5y l g b h k j) (fun (ab : Int)=>⟨[(0,.hs 0 1 0 ((g.set b.toNat h).set k.toNat j).length),(1,q6 b),(10,q6 l),(11,q6 ab)],[(0,.dat 1 (((g.set b.toNat h).set k.toNat j).map (eI .i64)))],1⟩) (w64 (s - 1)) bk fg (wkA [] [] []) ?_
  intro ab fu v
  unfold q5y at v
  refine qe<|qe<|Q4 [q0,q0,q0,qo 0,q0,q0,q0,qo 0,q0,q0,q0,q0,q0,q0,q0] (by kernel_rfl)<|U J<|U J<|O (.d (.bool (decide (l≤ab)))) J ?_
  obtain ⟨fh,n,v⟩:=q7 v
  refine Q0 12 (fun A st=>∃ (bl bm bn bo bp bq br bs bt bu bv : V),st = A [(60,qd fh),(59,bv),(58,bu),(57,bt),(56,bs),(55,br),(54,bq),(53,bp),(52,bo),(51,bn),(50,bm),(49,bl)]) ?_ ?_
  ·refine qy J J n (fun n=>?_) (fun n=>?_)
   ·refine U J<|U J ?_
    obtain ⟨bw,bz,n⟩:=q7 n
    refine qq bz J J<|qx (q6 bw) bz J<|U J<|U J ?_
    obtain ⟨ca,cb,n⟩:=q7 n
    refine qq cb J J<|qx (q6 ca) cb J ?_
    obtain ⟨ag,fi,n⟩:=q7 n
    refine qt (Yx bw ca ag fi) J<|O (qd (!ag)) J<|O (qd (!ag)) J<|q8 ?_
    obtain rfl:=qc n
    exact ⟨_,_,_,_,_,_,_,_,_,_,_,J⟩
   refine qa J<|qa J<|qa J<|qa J<|qa J<|qa J<|qa J<|qa J<|qa J<|qa J<|O (qd false) J<|q8 ?_
   obtain rfl:=qc n
   exact ⟨_,_,_,_,_,_,_,_,_,_,_,J⟩
  rintro _ ⟨bl,bm,bn,bo,bp,bq,br,bs,bt,bu,bv,rfl⟩
  refine q8 ?_
  refine qk J v (fun _ v=>?_) (fun _ v=>?_)
  ·refine ql<|qu<|qs<|U J<|O (.d (G (w64 (ab - 1)))) J<|q9 J<|qr<|Q9<|Qa ?_
   exact ⟨_,(Option.some.inj v).symm,wkA [] [] []⟩
  refine Q1 ?_
  refine ⟨_,(Option.some.inj v).symm,fun hm=>?_⟩
  subst hm
  exact ⟨_,J,wkA [] [] []⟩
 intro u hb
 subst hb
 refine qe<|qb<|U J<|U J<|O (.d (.bool (decide (l > u)))) J<|q8 ?_
 refine qk J a (fun _ a=>?_) (fun _ a=>?_)
 ·refine qe<|Q4 [Qd 0,q0,Qd 0,q0,qo 0,q0,q0,q0,qo 0,q0,q0,q0,q0,q0,q0,q0] (by kernel_rfl)<|U J<|U J<|U J<|U J<|U J<|U J ?_
  obtain ⟨ah,cc,a⟩:=q7 a
  refine qq cc J J<|qx (q6 ah) cc J<|U J<|U J ?_
  obtain ⟨ai,cd,a⟩:=q7 a
  refine qq cd J J<|qx (q6 ai) cd J ?_
  obtain ⟨fv,ce,a⟩:=q7 a
  refine qq ce J J<|Qk (ds:=[G ah]) ah ce J J J J J J J J (leb J) J ?_
  obtain ⟨fw,cf,a⟩:=q7 a
  refine qq cf (by simp) J<|Qk (ds:=[G ai]) ai cf J J J J J J J J (leb J) J<|qp<|U J<|q9 J<|q9 J<|qn ?_
  obtain rfl:=qc a
  exact ⟨.inr J,_,J,wkA [] [] []⟩
 refine ql<|qe<|Q4 [Qd 0,q0,Qd 0,q0,qo 0,q0,q0,q0,qo 0,q0,q0,q0,q0,q0,q0,q0] (by kernel_rfl)<|U J<|U J<|U J<|U J<|U J<|U J ?_
 obtain ⟨ac,cg,a⟩:=q7 a
 refine qq cg J J<|qx (q6 ac) cg J<|U J<|U J ?_
 obtain ⟨ad,ch,a⟩:=q7 a
 refine qq ch J J<|qx (q6 ad) ch J ?_
 obtain ⟨fx,ci,a⟩:=q7 a
 refine qq ci J J<|Qk (ds:=[G ac]) ac ci J J J J J J J J (leb J) J ?_
 obtain ⟨fy,cj,a⟩:=q7 a
 refine qq cj (by simp) J<|Qk (ds:=[G ad]) ad cj J J J J J J J J (leb J) J<|qp<|U J<|O (.d (G (w64 (l + 1)))) J<|q9 J<|qp<|U J<|O (.d (G (w64 (u - 1)))) J<|q9 J<|q8<|qe ?_
 obtain ⟨ck,fj,a⟩:=q7 a
 refine Qb (fun y=>y = ck) (fun (y : Int × List Int)=>⟨[(0,.hs 0 1 0 y.2.length),(1,q6 b),(11,q6 y.1)],[(0,.dat 1 (y.2.map (eI .i64)))],1⟩) (by simp) ?_ ?_
 ·refine Q7 (q5z b) (fun (c : Int × Int × List Int)=>⟨[(0,.hs 0 1 0 c.2.2.length),(1,q6 b),(10,q6 c.1),(11,q6 c.2.1)],[(0,.dat 1 (c.2.2.map (eI .i64)))],1⟩) (w64 (l + 1),w64 (u - 1),(((g.set b.toNat h).set k.toNat j).set l.toNat ac).set u.toNat ad) ck fj (wkE [] [] [] J ⟨⟨_,J,Qp (by simp) J (by decide) (ltd J)⟩,⟨_,J,.d (.refl _)⟩,⟨_,J,.d (.refl _)⟩,⟨_,J,.d (.refl _)⟩,trivial⟩ ⟨⟨ltd J,.inr ⟨by decide,_,J,.dat _ _⟩⟩,trivial⟩) ?_
  intro c fz f
  unfold q5z at f
  refine qu<|qe ?_
  obtain ⟨cl,fk,f⟩:=q7 f
  refine Qb (fun q=>q = cl) (fun (q : Int)=>⟨[(0,.hs 0 1 0 c.2.2.length),(1,q6 b),(10,q6 q),(11,q6 c.2.1)],[(0,.dat 1 (c.2.2.map (eI .i64)))],1⟩) (by simp) ?_ ?_
  ·refine Q7 (q60 c b) (fun (ae : Int)=>⟨[(0,.hs 0 1 0 c.2.2.length),(1,q6 b),(10,q6 ae),(11,q6 c.2.1)],[(0,.dat 1 (c.2.2.map (eI .i64)))],1⟩) c.1 cl fk (wkA [] [] []) ?_
   intro ae ga w
   unfold q60 at w
   refine qe<|qe<|Q4 [q0,q0,qo 0,q0,q0,q0,qo 0,q0,q0,q0,q0,q0,q0,q0] (by kernel_rfl)<|U J<|U J<|O (.d (.bool (decide (ae≤c.2.1)))) J ?_
   obtain ⟨fl,o,w⟩:=q7 w
   refine Q0 11 (fun A st=>∃ (cm cn co cp cq cr cs ct cu cv : V),st = A [(112,qd fl),(111,cv),(110,cu),(109,ct),(108,cs),(107,cr),(106,cq),(105,cp),(104,co),(103,cn),(102,cm)]) ?_ ?_
   ·refine qy J J o (fun o=>?_) (fun o=>?_)
    ·refine U J<|U J ?_
     obtain ⟨cw,cx,o⟩:=q7 o
     refine qq cx J J<|qx (q6 cw) cx J<|U J<|U J ?_
     obtain ⟨cy,cz,o⟩:=q7 o
     refine qq cz J J<|qx (q6 cy) cz J ?_
     obtain ⟨da,fm,o⟩:=q7 o
     refine qt (Yx cw cy da fm) J<|O (qd da) J<|q8 ?_
     obtain rfl:=qc o
     exact ⟨_,_,_,_,_,_,_,_,_,_,J⟩
    refine qa J<|qa J<|qa J<|qa J<|qa J<|qa J<|qa J<|qa J<|qa J<|O (qd false) J<|q8 ?_
    obtain rfl:=qc o
    exact ⟨_,_,_,_,_,_,_,_,_,_,J⟩
   rintro _ ⟨cm,cn,co,cp,cq,cr,cs,ct,cu,cv,rfl⟩
   refine q8 ?_
   refine qk J w (fun _ w=>?_) (fun _ w=>?_)
   ·refine ql<|qu<|qs<|U J<|O (.d (G (w64 (ae + 1)))) J<|q9 J<|qr<|Q9<|Qa ?_
    exact ⟨_,(Option.some.inj w).symm,wkA [] [] []⟩
   refine Q1 ?_
   refine ⟨_,(Option.some.inj w).symm,fun hm=>?_⟩
   subst hm
   exact ⟨_,J,wkA [] [] []⟩
  intro q hb
  subst hb
  refine qe ?_
  obtain ⟨dc,fn,f⟩:=q7 f
  refine Qb (fun z=>z = dc) (fun (z : Int)=>⟨[(0,.hs 0 1 0 c.2.2.length),(1,q6 b),(10,q6 q),(11,q6 z)],[(0,.dat 1 (c.2.2.map (eI .i64)))],1⟩) (by simp) ?_ ?_
  ·refine Q7 (q61 q c b) (fun (af : Int)=>⟨[(0,.hs 0 1 0 c.2.2.length),(1,q6 b),(10,q6 q),(11,q6 af)],[(0,.dat 1 (c.2.2.map (eI .i64)))],1⟩) c.2.1 dc fn (wkA [] [] []) ?_
   intro af gb x
   unfold q61 at x
   refine qe<|qe<|Q4 [q0,q0,q0,qo 0,q0,q0,q0,qo 0,q0,q0,q0,q0,q0,q0,q0] (by kernel_rfl)<|U J<|U J<|O (.d (.bool (decide (q≤af)))) J ?_
   obtain ⟨fo,p,x⟩:=q7 x
   refine Q0 12 (fun A st=>∃ (dd de df dg dh dj dk dl dm dn dp : V),st = A [(129,qd fo),(128,dp),(127,dn),(126,dm),(125,dl),(124,dk),(123,dj),(122,dh),(121,dg),(120,df),(119,de),(118,dd)]) ?_ ?_
   ·refine qy J J p (fun p=>?_) (fun p=>?_)
    ·refine U J<|U J ?_
     obtain ⟨dq,dr,p⟩:=q7 p
     refine qq dr J J<|qx (q6 dq) dr J<|U J<|U J ?_
     obtain ⟨dt,du,p⟩:=q7 p
     refine qq du J J<|qx (q6 dt) du J ?_
     obtain ⟨aj,fq,p⟩:=q7 p
     refine qt (Yx dq dt aj fq) J<|O (qd (!aj)) J<|O (qd (!aj)) J<|q8 ?_
     obtain rfl:=qc p
     exact ⟨_,_,_,_,_,_,_,_,_,_,_,J⟩
    refine qa J<|qa J<|qa J<|qa J<|qa J<|qa J<|qa J<|qa J<|qa J<|qa J<|O (qd false) J<|q8 ?_
    obtain rfl:=qc p
    exact ⟨_,_,_,_,_,_,_,_,_,_,_,J⟩
   rintro _ ⟨dd,de,df,dg,dh,dj,dk,dl,dm,dn,dp,rfl⟩
   refine q8 ?_
   refine qk J x (fun _ x=>?_) (fun _ x=>?_)
   ·refine ql<|qu<|qs<|U J<|O (.d (G (w64 (af - 1)))) J<|q9 J<|qr<|Q9<|Qa ?_
    exact ⟨_,(Option.some.inj x).symm,wkA [] [] []⟩
   refine Q1 ?_
   refine ⟨_,(Option.some.inj x).symm,fun hm=>?_⟩
   subst hm
   exact ⟨_,J,wkA [] [] []⟩
  intro z hb
  subst hb
  refine qe<|qb<|U J<|U J<|O (.d (.bool (decide (q > z)))) J<|q8 ?_
  refine qk J f (fun _ f=>?_) (fun _ f=>?_)
  ·refine Q1 ?_
   refine ⟨_,(Option.some.inj f).symm,fun hm=>?_⟩
   subst hm
   exact ⟨_,J,wkA [] [] []⟩
  refine ql<|qe<|Q4 [Qd 0,q0,Qd 0,q0,qo 0,q0,q0,q0,qo 0,q0,q0,q0,q0,q0,q0,q0] (by kernel_rfl)<|U J<|U J<|U J<|U J<|U J<|U J ?_
  obtain ⟨ak,dv,f⟩:=q7 f
  refine qq dv J J<|qx (q6 ak) dv J<|U J<|U J ?_
  obtain ⟨al,dw,f⟩:=q7 f
  refine qq dw J J<|qx (q6 al) dw J ?_
  obtain ⟨gc,dx,f⟩:=q7 f
  refine qq dx J J<|Qk (ds:=[G ak]) ak dx J J J J J J J J (leb J) J ?_
  obtain ⟨gd,dy,f⟩:=q7 f
  refine qq dy (by simp) J<|Qk (ds:=[G al]) al dy J J J J J J J J (leb J) J<|qp<|U J<|O (.d (G (w64 (q + 1)))) J<|q9 J<|q8<|qs<|U J<|O (.d (G (w64 (z - 1)))) J<|q9 J<|qr<|Q9<|Qa ?_
  exact ⟨_,(Option.some.inj f).symm,wkE [] [] [] J ⟨⟨_,J,Qp (by simp) J (by decide) (ltd J)⟩,⟨_,J,.d (.refl _)⟩,⟨_,J,.d (.refl _)⟩,⟨_,J,.d (.refl _)⟩,trivial⟩ ⟨⟨ltd J,.inr ⟨by decide,_,J,.dat _ _⟩⟩,trivial⟩⟩
 intro y hb
 subst hb
 refine qe<|Q4 [Qd 0,q0,Qd 0,q0,qo 0,q0,q0,q0,qo 0,q0,q0,q0,q0,q0,q0,q0] (by kernel_rfl)<|U J<|U J<|U J<|U J<|U J<|U J ?_
 obtain ⟨am,dz,a⟩:=q7 a
 refine qq dz J J<|qx (q6 am) dz J<|U J<|U J ?_
 obtain ⟨an,fa,a⟩:=q7 a
 refine qq fa J J<|qx (q6 an) fa J ?_
 obtain ⟨ge,fb,a⟩:=q7 a
 refine qq fb J J<|Qk (ds:=[G am]) am fb J J J J J J J J (leb J) J ?_
 obtain ⟨gf,fc,a⟩:=q7 a
 refine qq fc (by simp) J<|Qk (ds:=[G an]) an fc J J J J J J J J (leb J) J<|qp<|U J<|q9 J<|q9 J<|qn ?_
 obtain rfl:=qc a
 exact ⟨.inr J,_,J,wkA [] [] []⟩
theorem qk3 (b : Int) (r : Int) (a : Ux b = some r) : Pure Tryz.prog tab 190 [G b] (.int .u64 r):=by
 unfold Ux at a
 refine Qc Tryz.func190 J (by kernel_rfl) (by kernel_rfl) J<|qb<|q9 J<|qp<|U J<|O (.d (.int .u64 (IntKind.wrap .u64 b))) J ?_
 obtain ⟨c,f,a⟩:=q7 a
 refine qt (qd1 (IntKind.wrap .u64 b) c f) J ?_
 obtain ⟨g,h,a⟩:=q7 a
 refine qqj h J J J<|q9 J<|qn ?_
 obtain rfl:=qc a
 exact qv (.d (.int .u64 g)) J
theorem qk6 (a : Int) (r : Int) (b : Uy  a = some r) : Qq Tryz.prog tab 191 [.ref 0 1 0 0] [(0,.dat 1 [[.int .u64 a]])] 1 (.d (.int .u64 r)) [(0,.dat 1 [[.int .u64 r]])] 1:=by
 unfold Uy at b
 refine Qx Tryz.func191 J (by kernel_rfl) (by kernel_rfl) J<|qb<|q9 J<|q8<|qe<|Q4 [Qd 0,q0,q0,q0,qo 0,q0,q0,qo 0,q0,q0] (by kernel_rfl)<|U J<|O (.ref 0 1 0 0) J<|O (.d (.int .u64 a)) J<|U J<|O (.ref 0 1 0 0) J<|O (.d (.int .u64 a)) J<|O (.d (.int .u64 (IntKind.wrap .u64 (a * (2 ^ 13))))) J<|O (.d (.int .u64 (xorI .u64 a (IntKind.wrap .u64 (a * (2 ^ 13)))))) J<|O (.ref 0 1 0 0) J<|Q8 0 (.dat 1 [[.int .u64 (xorI .u64 a (IntKind.wrap .u64 (a * (2 ^ 13))))]]) J<|q8<|qe<|Q4 [Qd 0,q0,q0,q0,qo 0,q0,q0,qo 0,q0,q0] (by kernel_rfl)<|U J<|O (.ref 0 1 0 0) J<|O (.d (.int .u64 (xorI .u64 a (IntKind.wrap .u64 (a * (2 ^ 13)))))) J<|U J<|O (.ref 0 1 0 0) J<|O (.d (.int .u64 (xorI .u64 a (IntKind.wrap .u64 (a * (2 ^ 13)))))) J<|O (.d (.int .u64 (Int.fdiv (xorI .u64 a (IntKind.wrap .u64 (a * (2 ^ 13)))) (2 ^ 7)))) J<|O (.d (.int .u64 (xorI .u64 (xorI .u64 a (IntKind.wrap .u64 (a * (2 ^ 13)))) (Int.fdiv (xorI .u64 a (IntKind.wrap .u64 (a * (2 ^ 13)))) (2 ^ 7))))) J<|O (.ref 0 1 0 0) J<|Q8 0 (.dat 1 [[.int .u64 (xorI .u64 (xorI .u64 a (IntKind.wrap .u64 (a * (2 ^ 13)))) (Int.fdiv (xorI .u64 a (IntKind.wrap .u64 (a * (2 ^ 13)))) (2 ^ 7)))]]) J<|q8<|qe<|Q4 [Qd 0,q0,q0,q0,qo 0,q0,q0,qo 0,q0,q0] (by kernel_rfl)<|U J<|O (.ref 0 1 0 0) J<|O (.d (.int .u64 (xorI .u64 (xorI .u64 a (IntKind.wrap .u64 (a * (2 ^ 13)))) (Int.fdiv (xorI .u64 a (IntKind.wrap .u64 (a * (2 ^ 13)))) (2 ^ 7))))) J<|U J<|O (.ref 0 1 0 0) J<|O (.d (.int .u64 (xorI .u64 (xorI .u64 a (IntKind.wrap .u64 (a * (2 ^ 13)))) (Int.fdiv (xorI .u64 a (IntKind.wrap .u64 (a * (2 ^ 13)))) (2 ^ 7))))) J<|O (.d (.int .u64 (IntKind.wrap .u64 ((xorI .u64 (xorI .u64 a (IntKind.wrap .u64 (a * (2 ^ 13)))) (Int.fdiv (xorI .u64 a (IntKind.wrap .u64 (a * (2 ^ 13)))) (2 ^ 7))) * (2 ^ 17))))) J<|O (.d (.int .u64 (xorI .u64 (xorI .u64 (xorI .u64 a (IntKind.wrap .u64 (a * (2 ^ 13)))) (Int.fdiv (xorI .u64 a (IntKind.wrap .u64 (a * (2 ^ 13)))) (2 ^ 7))) (IntKind.wrap .u64 ((xorI .u64 (xorI .u64 a (IntKind.wrap .u64 (a * (2 ^ 13)))) (Int.fdiv (xorI .u64 a (IntKind.wrap .u64 (a * (2 ^ 13)))) (2 ^ 7))) * (2 ^ 17)))))) J ?_
 refine O (.ref 0 1 0 0) J<|Q8 0 (.dat 1 [[.int .u64 (xorI .u64 (xorI .u64 (xorI .u64 a (IntKind.wrap .u64 (a * (2 ^ 13)))) (Int.fdiv (xorI .u64 a (IntKind.wrap .u64 (a * (2 ^ 13)))) (2 ^ 7))) (IntKind.wrap .u64 ((xorI .u64 (xorI .u64 a (IntKind.wrap .u64 (a * (2 ^ 13)))) (Int.fdiv (xorI .u64 a (IntKind.wrap .u64 (a * (2 ^ 13)))) (2 ^ 7))) * (2 ^ 17))))]]) J<|qp<|U J<|O (.ref 0 1 0 0) J<|O (.d (.int .u64 (xorI .u64 (xorI .u64 (xorI .u64 a (IntKind.wrap .u64 (a * (2 ^ 13)))) (Int.fdiv (xorI .u64 a (IntKind.wrap .u64 (a * (2 ^ 13)))) (2 ^ 7))) (IntKind.wrap .u64 ((xorI .u64 (xorI .u64 a (IntKind.wrap .u64 (a * (2 ^ 13)))) (Int.fdiv (xorI .u64 a (IntKind.wrap .u64 (a * (2 ^ 13)))) (2 ^ 7))) * (2 ^ 17)))))) J<|q9 J<|qn ?_
 obtain rfl:=qc b
 exact ⟨.inr J,_,J,wkA [] [] []⟩
theorem qv0 (m : List Int) (a : Int) (b : Int) (r : List Int) (g : q5e  m a b = some r) : Qq Tryz.prog tab 177 [.hs 0 1 0 m.length,q6 a,q6 b] [(0,.dat 1 (m.map (eI .i64)))] 1 (.d (.tup [])) [(0,.dat 1 (r.map (eI .i64)))] 1:=by
 unfold q5e at g
 refine Qx Tryz.func177 J (by kernel_rfl) (by kernel_rfl) J<|qb<|U J<|U J<|O (.d (G (w64 (b - a)))) J<|q9 J<|qp<|U J<|O (.d (.bool (decide ((w64 (b - a)) ≥ 8)))) J<|q8 ?_
 refine qk J g (fun _ g=>?_) (fun _ g=>?_)
 ·refine qb<|U J<|O (.d (.int .u64 (IntKind.wrap .u64 (w64 (b - a))))) J<|Qo J J<|Q8 1 (.dat 1 [[.int .u64 (IntKind.wrap .u64 (w64 (b - a)))]]) J<|qp<|U J ?_
  obtain ⟨h,u,g⟩:=q7 g
  refine qt (qk3 (w64 (b - a)) h u) J<|q9 J<|qp<|U J<|U J<|O (.d (G (w64 (Int.tdiv (w64 (b - a)) 4)))) J<|O (.d (G (w64 ((w64 (Int.tdiv (w64 (b - a)) 4)) * 2)))) J<|O (.d (G (w64 (a + (w64 ((w64 (Int.tdiv (w64 (b - a)) 4)) * 2)))))) J<|O (.d (G (w64 ((w64 (a + (w64 ((w64 (Int.tdiv (w64 (b - a)) 4)) * 2)))) - 1)))) J<|q9 J<|q8 ?_
  obtain ⟨v,w,g⟩:=q7 g
  refine qu<|Q7 (q5f a b h) (fun (f : Int × List Int × Int)=>⟨[(0,.hs 0 1 0 f.2.1.length),(1,q6 a),(6,.d (G (w64 (b - a)))),(7,.ref 1 1 0 0),(8,.d (.int .u64 h)),(9,q6 f.1)],[(0,.dat 1 (f.2.1.map (eI .i64))),(1,.dat 1 [[.int .u64 f.2.2]])],2⟩) (w64 ((w64 (a + (w64 ((w64 (Int.tdiv (w64 (b - a)) 4)) * 2)))) - 1),m,IntKind.wrap .u64 (w64 (b - a))) v w (wkA [(1,1)] [] []) ?_
  intro f z c
  unfold q5f at c
  refine qe<|qb<|U J<|U J<|U J<|O (.d (G (w64 (Int.tdiv (w64 (b - a)) 4)))) J<|O (.d (G (w64 ((w64 (Int.tdiv (w64 (b - a)) 4)) * 2)))) J<|O (.d (G (w64 (a + (w64 ((w64 (Int.tdiv (w64 (b - a)) 4)) * 2)))))) J<|O (.d (G (w64 ((w64 (a + (w64 ((w64 (Int.tdiv (w64 (b - a)) 4)) * 2)))) + 1)))) J<|O (.d (.bool (decide (f.1≤(w64 ((w64 (a + (w64 ((w64 (Int.tdiv (w64 (b - a)) 4)) * 2)))) + 1)))))) J<|q8 ?_
  refine qk J c (fun _ c=>?_) (fun _ c=>?_)
  ·refine ql<|qe<|qu<|qb ?_
   obtain ⟨j,x,c⟩:=q7 c
   refine Qr [(0,1)] [(0,1),(1,0)] [.ref 1 1 0 0] (.d (.int .u64 j)) 1 [(1,.dat 1 [[.int .u64 j]]),(0,.dat 1 (f.2.1.map (eI .i64)))] 2 (qk6 f.2.2 j x)<|U J<|O (.d (.int .u64 (IntKind.wrap .u64 (h - 1)))) J<|O (.d (.int .u64 (andI .u64 j (IntKind.wrap .u64 (h - 1))))) J<|O (.d (G (w64 (andI .u64 j (IntKind.wrap .u64 (h - 1)))))) J<|q9 J<|q8<|qe<|qb<|U J<|U J<|O (.d (.bool (decide ((w64 (andI .u64 j (IntKind.wrap .u64 (h - 1)))) ≥ (w64 (b - a)))))) J<|q8 ?_
   obtain ⟨y,l,c⟩:=q7 c
   refine Y2 (fun k=>k = y) (fun (k : Int)=>⟨[(0,.hs 0 1 0 f.2.1.length),(1,q6 a),(6,.d (G (w64 (b - a)))),(7,.ref 1 1 0 0),(8,.d (.int .u64 h)),(9,q6 f.1),(10,q6 k)],[(0,.dat 1 (f.2.1.map (eI .i64))),(1,.dat 1 [[.int .u64 j]])],2⟩) (by simp) ?_ ?_
   ·refine qk J l (fun _ l=>?_) (fun _ l=>?_)
    ·refine qs<|U J<|U J<|O (.d (G (w64 ((w64 (andI .u64 j (IntKind.wrap .u64 (h - 1)))) - (w64 (b - a)))))) J<|q9 J<|qr ?_
     obtain rfl:=qc l
     exact ⟨_,J,wkA [(1,1)] [] []⟩
    refine ql<|Qa ?_
    obtain rfl:=qc l
    exact ⟨_,J,wkA [(1,1)] [] []⟩
   intro k hb
   subst hb
   refine Q4 [Qd 0,q0,Qd 0,q0,qo 0,q0,q0,q0,qo 0,q0,q0,q0,q0,q0,q0,q0,q0,q0,q0,q0] (by kernel_rfl)<|U J<|U J<|U J<|U J<|U J<|O (.d (G (w64 (a + k)))) J<|U J<|U J<|U J<|O (.d (G (w64 (a + k)))) J ?_
   obtain ⟨n,p,c⟩:=q7 c
   refine qq p J J<|qx (q6 n) p J<|U J<|U J ?_
   obtain ⟨o,q,c⟩:=q7 c
   refine qq q J J<|qx (q6 o) q J ?_
   obtain ⟨aa,s,c⟩:=q7 c
   refine qq s J J<|Qk (ds:=[G n]) n s J J J J J J J J (leb J) J ?_
   obtain ⟨ab,t,c⟩:=q7 c
   refine qq t (by simp) J<|Qk (ds:=[G o]) o t J J J J J J J J (leb J) J<|qr<|Q9<|qs<|U J<|O (.d (G (w64 (f.1 + 1)))) J<|q9 J<|qr ?_
   exact ⟨_,(Option.some.inj c).symm,wkE [(1,1)] [] [] J ⟨⟨_,J,Qp (by simp) J (by decide) (ltd J)⟩,⟨_,J,.d (.refl _)⟩,⟨_,J,.d (.refl _)⟩,⟨_,J,.ref J (by decide) (ltd J)⟩,⟨_,J,.d (.refl _)⟩,⟨_,J,.d (.refl _)⟩,trivial⟩ ⟨⟨ltd J,.inr ⟨by decide,_,J,.dat _ _⟩⟩,⟨ltd J,.inr ⟨by decide,_,J,.dat _ _⟩⟩,trivial⟩⟩
  refine Q1 ?_
  refine ⟨_,(Option.some.inj c).symm,fun hm=>?_⟩
  subst hm
  obtain rfl:=qc g
  exact ⟨.inl J,_,J,wkA [] [] []⟩
 refine ql<|Qa ?_
 obtain rfl:=qc g
 exact ⟨.inl J,_,J,wkA [] [] []⟩
theorem qvf (rec : List Int→Int→Int→Int→Option (List Int)) (hrec : ∀ (n : List Int) (o : Int) (p : Int) (q : Int) (r : List Int),rec n o p q = some r→Qq Tryz.prog tab 164 [.hs 0 1 0 n.length,q6 o,q6 p,q6 q] [(0,.dat 1 (n.map (eI .i64)))] 1 (.d (.tup [])) [(0,.dat 1 (r.map (eI .i64)))] 1) (n : List Int) (o : Int) (p : Int) (q : Int) (r : List Int) (s : q3s rec  n o p q = some r) : Qq Tryz.prog tab 164 [.hs 0 1 0 n.length,q6 o,q6 p,q6 q] [(0,.dat 1 (n.map (eI .i64)))] 1 (.d (.tup [])) [(0,.dat 1 (r.map (eI .i64)))] 1:=by
 unfold q3s at s
 refine Qx Tryz.func164 J (by kernel_rfl) (by kernel_rfl) J<|qb<|q9 J<|qp<|q9 J<|q8 ?_
 obtain ⟨bd,be,s⟩:=q7 s
 refine qu<|Q7 (q3r rec) (fun (a : Int × Int × Int × Bool × Bool × List Int)=>⟨[(0,.hs 0 1 0 a.2.2.2.2.2.length),(1,q6 a.1),(2,q6 a.2.1),(3,q6 a.2.2.1),(8,qd a.2.2.2.1),(9,qd a.2.2.2.2.1)],[(0,.dat 1 (a.2.2.2.2.2.map (eI .i64)))],1⟩) (o,p,q,true,true,n) bd be (wkA [] [] []) ?_
 intro a cn b
 unfold q3r at b
 refine qu<|qb<|U J<|U J<|O (.d (G (w64 (a.2.1 - a.1)))) J<|q9 J<|q8<|qe<|qb<|U J<|O (.d (.bool (decide ((w64 (a.2.1 - a.1))≤12)))) J<|q8 ?_
 refine qk J b (fun _ b=>?_) (fun _ b=>?_)
 ·refine qb<|U J<|U J<|U J ?_
  obtain ⟨ac,bf,b⟩:=q7 b
  obtain ⟨co,bg,b⟩:=q7 b
  have cp:=K5 bg
  refine Qr [(0,0)] [(0,0)] [.hs 0 1 0 a.2.2.2.2.2.length,q6 a.1,q6 a.2.1] (.d (.tup [])) 1 [(0,.dat 1 (ac.map (eI .i64)))] 1 (qv6 a.2.2.2.2.2 a.1 a.2.1 ac bf)<|qn ?_
  refine ⟨_,(Option.some.inj b).symm,fun hm=>?_⟩
  subst hm
  obtain rfl:=qc s
  exact ⟨.inr J,_,J,wkA [] [] []⟩
 refine ql<|qe<|qb<|U J<|O (qd (a.2.2.1 == 0)) J<|q8 ?_
 refine qk J b (fun _ b=>?_) (fun _ b=>?_)
 ·refine qb<|U J<|U J<|U J ?_
  obtain ⟨ad,bh,b⟩:=q7 b
  obtain ⟨cq,bi,b⟩:=q7 b
  have cr:=K5 bi
  refine Qr [(0,0)] [(0,0)] [.hs 0 1 0 a.2.2.2.2.2.length,q6 a.1,q6 a.2.1] (.d (.tup [])) 1 [(0,.dat 1 (ad.map (eI .i64)))] 1 (qv4 a.2.2.2.2.2 a.1 a.2.1 ad bh)<|qn ?_
  refine ⟨_,(Option.some.inj b).symm,fun hm=>?_⟩
  subst hm
  obtain rfl:=qc s
  exact ⟨.inr J,_,J,wkA [] [] []⟩
 refine ql<|qe<|qb<|U J<|O (qd (!a.2.2.2.1)) J<|q8 ?_
 obtain ⟨bj,l,b⟩:=q7 b
 refine Y2 (fun f=>f = bj) (fun (f : Int × List Int)=>⟨[(0,.hs 0 1 0 f.2.length),(1,q6 a.1),(2,q6 a.2.1),(3,q6 f.1),(8,qd a.2.2.2.1),(9,qd a.2.2.2.2.1),(10,.d (G (w64 (a.2.1 - a.1))))],[(0,.dat 1 (f.2.map (eI .i64)))],1⟩) (by simp) ?_ ?_
 ·refine qk J l (fun _ l=>?_) (fun _ l=>?_)
  ·refine qb<|U J<|U J<|U J ?_
   obtain ⟨ae,bk,l⟩:=q7 l
   obtain ⟨cs,bl,l⟩:=q7 l
   have bm:=K5 bl
   refine Qr [(0,0)] [(0,0)] [.hs 0 1 0 a.2.2.2.2.2.length,q6 a.1,q6 a.2.1] (.d (.tup [])) 1 [(0,.dat 1 (ae.map (eI .i64)))] 1 (qv0 a.2.2.2.2.2 a.1 a.2.1 ae bk)<|q8<|qs<|U J<|O (.d (G (w64 (a.2.2.1 - 1)))) J<|q9 J<|qr ?_
   obtain rfl:=qc l
   exact ⟨_,J,wkE [] [] [] J ⟨⟨_,J,Qp (by simp [bm]) J (by decide) (ltd J)⟩,⟨_,J,.d (.refl _)⟩,⟨_,J,.d (.refl _)⟩,⟨_,J,.d (.refl _)⟩,⟨_,J,.d (.refl _)⟩,⟨_,J,.d (.refl _)⟩,⟨_,J,.d (.refl _)⟩,trivial⟩ ⟨⟨ltd J,.inr ⟨by decide,_,J,.dat _ _⟩⟩,trivial⟩⟩
  refine ql<|Qa ?_
  obtain rfl:=qc l
  exact ⟨_,J,wkA [] [] []⟩
 intro f hb
 subst hb
 refine qb<|U J<|U J<|U J ?_
 obtain ⟨t,bn,b⟩:=q7 b
 refine q7c [.hs 0 1 0 f.2.length,q6 a.1,q6 a.2.1] (qv2 f.2 a.1 a.2.1 t bn) J J (J5 (Z9 J J) (J5 J (J5 J J))) (.inr J)<|U J<|O (q6 t.1) J<|O (q6 t.2) J<|q9 J<|q9 J<|q8<|qe<|qb<|U J<|O (qd (t.2 == 2)) J<|q8 ?_
 obtain ⟨bo,m,b⟩:=q7 b
 refine Y2 (fun g=>g = bo) (fun (g : Int × Int × List Int)=>⟨[(0,.hs 0 1 0 g.2.2.length),(1,q6 a.1),(2,q6 a.2.1),(3,q6 f.1),(8,qd a.2.2.2.1),(9,qd a.2.2.2.2.1),(10,.d (G (w64 (a.2.1 - a.1)))),(11,q6 g.1),(12,q6 g.2.1)],[(0,.dat 1 (g.2.2.map (eI .i64)))],1⟩) (by simp) ?_ ?_
 ·refine qk J m (fun _ m=>?_) (fun _ m=>?_)
  ·refine qb<|U J<|U J<|U J ?_
   obtain ⟨af,bp,m⟩:=q7 m
   obtain ⟨ct,bq,m⟩:=q7 m
   have br:=K5 bq
   refine Qr [(0,0)] [(0,0)] [.hs 0 1 0 f.2.length,q6 a.1,q6 a.2.1] (.d (.tup [])) 1 [(0,.dat 1 (af.map (eI .i64)))] 1 (qvi f.2 a.1 a.2.1 af bp)<|qp<|U J<|O (.d (G (w64 (a.2.1 - 1)))) J<|U J<|U J<|O (.d (G (w64 (t.1 - a.1)))) J<|O (.d (G (w64 ((w64 (a.2.1 - 1)) - (w64 (t.1 - a.1)))))) J<|q9 J<|q8<|qs<|q9 J<|qr ?_
   obtain rfl:=qc m
   exact ⟨_,J,wkE [] [] [] J ⟨⟨_,J,Qp (by simp [br]) J (by decide) (ltd J)⟩,⟨_,J,.d (.refl _)⟩,⟨_,J,.d (.refl _)⟩,⟨_,J,.d (.refl _)⟩,⟨_,J,.d (.refl _)⟩,⟨_,J,.d (.refl _)⟩,⟨_,J,.d (.refl _)⟩,⟨_,J,.d (.refl _)⟩,⟨_,J,.d (.refl _)⟩,trivial⟩ ⟨⟨ltd J,.inr ⟨by decide,_,J,.dat _ _⟩⟩,trivial⟩⟩
  refine ql<|Qa ?_
  obtain rfl:=qc m
  exact ⟨_,J,wkA [] [] []⟩
 intro g hb
 subst hb
 refine qe<|qb<|U J ?_
 obtain ⟨bs,u,b⟩:=q7 b
 refine Q0 3 (fun A st=>∃ (ag ah : V),st = A [(64,qd bs),(63,ah),(62,ag)]) ?_ ?_
 ·refine qy J J u (fun u=>?_) (fun u=>?_)
  ·refine U J<|O (qd a.2.2.2.2.1) J<|q8 ?_
   obtain rfl:=qc u
   exact ⟨_,_,J⟩
  refine qa J<|O (qd false) J<|q8 ?_
  obtain rfl:=qc u
  exact ⟨_,_,J⟩
 rintro _ ⟨ag,ah,rfl⟩
 obtain ⟨bt,v,b⟩:=q7 b
 refine Q0 4 (fun A st=>∃ (ai aj ak : V),st = A [(68,qd bt),(67,ak),(66,aj),(65,ai)]) ?_ ?_
 ·refine qy J J v (fun v=>?_) (fun v=>?_)
  ·refine U J<|O (qd (g.2.1 == 1)) J<|O (qd (g.2.1 == 1)) J<|q8 ?_
   obtain rfl:=qc v
   exact ⟨_,_,_,J⟩
  refine qa J<|qa J<|O (qd false) J<|q8 ?_
  obtain rfl:=qc v
  exact ⟨_,_,_,J⟩
 rintro _ ⟨ai,aj,ak,rfl⟩
 refine q8 ?_
 obtain ⟨bu,h,b⟩:=q7 b
 refine Y2 (fun j=>.inl j = bu) (fun (j : List Int)=>⟨[(0,.hs 0 1 0 j.length),(1,q6 a.1),(2,q6 a.2.1),(3,q6 f.1),(8,qd a.2.2.2.1),(9,qd a.2.2.2.2.1),(10,.d (G (w64 (a.2.1 - a.1)))),(11,q6 g.1)],[(0,.dat 1 (j.map (eI .i64)))],1⟩) (by simp) ?_ ?_
 ·refine qk J h (fun _ h=>?_) (fun _ h=>?_)
  ·refine qb<|U J<|U J<|U J ?_
   obtain ⟨x,bv,h⟩:=q7 h
   obtain ⟨cu,bw,h⟩:=q7 h
   have bz:=K5 bw
   refine Qr [(0,0)] [(0,0)] [.hs 0 1 0 g.2.2.length,q6 a.1,q6 a.2.1] (qd x.1) 1 [(0,.dat 1 (x.2.map (eI .i64)))] 1 (qv8 g.2.2 a.1 a.2.1 x bv)<|q8 ?_
   refine qk J h (fun _ h=>?_) (fun _ h=>?_)
   ·refine q3h ?_
    obtain rfl:=qc h
    refine ⟨_,(Option.some.inj b).symm,fun hm=>?_⟩
    subst hm
    obtain rfl:=qc s
    exact ⟨.inr J,_,J,wkA [] [] []⟩
   refine ql<|Qa ?_
   obtain rfl:=qc h
   exact ⟨_,J,wkE [] [] [] J ⟨⟨_,J,Qp (by simp [bz]) J (by decide) (ltd J)⟩,⟨_,J,.d (.refl _)⟩,⟨_,J,.d (.refl _)⟩,⟨_,J,.d (.refl _)⟩,⟨_,J,.d (.refl _)⟩,⟨_,J,.d (.refl _)⟩,⟨_,J,.d (.refl _)⟩,⟨_,J,.d (.refl _)⟩,trivial⟩ ⟨⟨ltd J,.inr ⟨by decide,_,J,.dat _ _⟩⟩,trivial⟩⟩
  refine ql<|Qa ?_
  obtain rfl:=qc h
  exact ⟨_,J,wkA [] [] []⟩
 intro j hb
 subst hb
 refine qe<|qe<|Q4 [q0,q0,q0,qo 0,q0,q0,q0,qo 0,q0,q0,q0,q0,q0,q0,q0] (by kernel_rfl)<|U J<|O (.d (.bool (decide (a.1 > 0)))) J ?_
 obtain ⟨ca,k,b⟩:=q7 b
 refine Q0 13 (fun A st=>∃ (al am an ao ap aq ar au av aw ax ay : V),st = A [(87,qd ca),(86,ay),(85,ax),(84,aw),(83,av),(82,au),(81,ar),(80,aq),(79,ap),(78,ao),(77,an),(76,am),(75,al)]) ?_ ?_
 ·refine qy J J k (fun k=>?_) (fun k=>?_)
  ·refine U J<|U J<|O (.d (G (w64 (a.1 - 1)))) J ?_
   obtain ⟨az,ba,k⟩:=q7 k
   refine qq ba J J<|qx (q6 az) ba J<|U J<|U J ?_
   obtain ⟨bb,bc,k⟩:=q7 k
   refine qq bc J J<|qx (q6 bb) bc J ?_
   obtain ⟨y,cb,k⟩:=q7 k
   refine qt (Yx az bb y cb) J<|O (qd (!y)) J<|O (qd (!y)) J<|q8 ?_
   obtain rfl:=qc k
   exact ⟨_,_,_,_,_,_,_,_,_,_,_,_,J⟩
  refine qa J<|qa J<|qa J<|qa J<|qa J<|qa J<|qa J<|qa J<|qa J<|qa J<|qa J<|O (qd false) J<|q8 ?_
  obtain rfl:=qc k
  exact ⟨_,_,_,_,_,_,_,_,_,_,_,_,J⟩
 rintro _ ⟨al,am,an,ao,ap,aq,ar,au,av,aw,ax,ay,rfl⟩
 refine q8 ?_
 refine qk J b (fun _ b=>?_) (fun _ b=>?_)
 ·refine qb<|U J<|U J<|U J<|U J ?_
  obtain ⟨z,cc,b⟩:=q7 b
  obtain ⟨cv,cd,b⟩:=q7 b
  have ce:=K5 cd
  refine Qr [(0,0)] [(0,0)] [.hs 0 1 0 j.length,q6 a.1,q6 a.2.1,q6 g.1] (q6 z.1) 1 [(0,.dat 1 (z.2.map (eI .i64)))] 1 (qvb j a.1 a.2.1 g.1 z cc)<|q9 J<|qp<|U J<|q9 J<|q8<|Q1<|q2a<|Qa ?_
  exact ⟨_,(Option.some.inj b).symm,wkE [] [] [] J ⟨⟨_,J,Qp (by simp [ce]) J (by decide) (ltd J)⟩,⟨_,J,.d (.refl _)⟩,⟨_,J,.d (.refl _)⟩,⟨_,J,.d (.refl _)⟩,⟨_,J,.d (.refl _)⟩,⟨_,J,.d (.refl _)⟩,trivial⟩ ⟨⟨ltd J,.inr ⟨by decide,_,J,.dat _ _⟩⟩,trivial⟩⟩
 refine ql<|qb<|U J<|U J<|U J<|U J ?_
 obtain ⟨c,cf,b⟩:=q7 b
 obtain ⟨cw,cg,b⟩:=q7 b
 have w:=K5 cg
 refine Qr [(0,0)] [(0,0)] [.hs 0 1 0 j.length,q6 a.1,q6 a.2.1,q6 g.1] (.d (.tup [G c.1,.bool c.2.1])) 1 [(0,.dat 1 (c.2.2.map (eI .i64)))] 1 (qvc j a.1 a.2.1 g.1 c cf)<|U J<|O (q6 c.1) J<|O (qd c.2.1) J<|q9 J<|q9 J<|qp<|U J<|q9 J<|qp<|U J<|U J<|O (.d (G (w64 (c.1 - a.1)))) J<|U J<|U J<|O (.d (G (w64 (a.2.1 - c.1)))) J<|q9 J<|q9 J<|qp<|U J<|O (.d (G (w64 (Int.tdiv (w64 (a.2.1 - a.1)) 8)))) J<|q9 J<|qp<|U J<|U J<|O (.d (.bool (decide ((w64 (c.1 - a.1)) < (w64 (a.2.1 - c.1)))))) J<|q8 ?_
 refine qk J b (fun _ b=>?_) (fun _ b=>?_)
 ·refine qb<|U J<|U J<|O (.d (.bool (decide ((w64 (c.1 - a.1)) ≥ (w64 (Int.tdiv (w64 (a.2.1 - a.1)) 8)))))) J<|q9 J<|qp<|U J<|U J<|U J<|U J ?_
  obtain ⟨aa,ch,b⟩:=q7 b
  obtain ⟨cx,ci,b⟩:=q7 b
  have cj:=K5 ci
  refine U4 [(0,0)] [(0,0)] [.hs 0 1 0 j.length,q6 a.1,q6 c.1,q6 f.1] (.d (.tup [])) [(0,.dat 1 (aa.map (eI .i64)))] [(0,.dat 1 (aa.map (eI .i64)))] 1 (hrec c.2.2 a.1 c.1 f.1 aa ch) J J J (Y5 [(0,0)] [] [] J ⟨⟨_,J,Qp (by simp [w]) J (by decide) (ltd J)⟩,⟨_,J,.d (.refl _)⟩,⟨_,J,.d (.refl _)⟩,⟨_,J,.d (.refl _)⟩,trivial⟩ ⟨⟨ltd J,.inr ⟨by decide,_,J,.dat _ _⟩⟩,trivial⟩) (Y5 [(0,0)] [] [] J ⟨⟨_,J,.d (.refl _)⟩,trivial⟩ ⟨⟨ltd J,.inr ⟨by decide,_,J,.dat _ _⟩⟩,trivial⟩) J ⟨.inl J,trivial⟩<|q8<|qs<|U J<|O (.d (G (w64 (c.1 + 1)))) J<|q9 J<|qr<|Q9<|Qa ?_
  exact ⟨_,(Option.some.inj b).symm,wkE [] [] [] J ⟨⟨_,J,Qp (by simp [w,cj]) J (by decide) (ltd J)⟩,⟨_,J,.d (.refl _)⟩,⟨_,J,.d (.refl _)⟩,⟨_,J,.d (.refl _)⟩,⟨_,J,.d (.refl _)⟩,⟨_,J,.d (.refl _)⟩,trivial⟩ ⟨⟨ltd J,.inr ⟨by decide,_,J,.dat _ _⟩⟩,trivial⟩⟩
 refine qb<|U J<|U J<|O (.d (.bool (decide ((w64 (a.2.1 - c.1)) ≥ (w64 (Int.tdiv (w64 (a.2.1 - a.1)) 8)))))) J<|q9 J<|qp<|U J<|U J<|O (.d (G (w64 (c.1 + 1)))) J<|U J<|U J ?_
 obtain ⟨ab,ck,b⟩:=q7 b
 obtain ⟨cy,cl,b⟩:=q7 b
 have cm:=K5 cl
 refine U4 [(0,0)] [(0,0)] [.hs 0 1 0 j.length,.d (G (w64 (c.1 + 1))),q6 a.2.1,q6 f.1] (.d (.tup [])) [(0,.dat 1 (ab.map (eI .i64)))] [(0,.dat 1 (ab.map (eI .i64)))] 1 (hrec c.2.2 (w64 (c.1 + 1)) a.2.1 f.1 ab ck) J J J (Y5 [(0,0)] [] [] J ⟨⟨_,J,Qp (by simp [w]) J (by decide) (ltd J)⟩,⟨_,J,.d (.refl _)⟩,⟨_,J,.d (.refl _)⟩,⟨_,J,.d (.refl _)⟩,trivial⟩ ⟨⟨ltd J,.inr ⟨by decide,_,J,.dat _ _⟩⟩,trivial⟩) (Y5 [(0,0)] [] [] J ⟨⟨_,J,.d (.refl _)⟩,trivial⟩ ⟨⟨ltd J,.inr ⟨by decide,_,J,.dat _ _⟩⟩,trivial⟩) J ⟨.inl J,trivial⟩<|q8<|qs<|U J<|q9 J<|qr<|Q9<|Qa ?_
 exact ⟨_,(Option.some.inj b).symm,wkE [] [] [] J ⟨⟨_,J,Qp (by simp [w,cm]) J (by decide) (ltd J)⟩,⟨_,J,.d (.refl _)⟩,⟨_,J,.d (.refl _)⟩,⟨_,J,.d (.refl _)⟩,⟨_,J,.d (.refl _)⟩,⟨_,J,.d (.refl _)⟩,trivial⟩ ⟨⟨ltd J,.inr ⟨by decide,_,J,.dat _ _⟩⟩,trivial⟩⟩
theorem qvg (n : Nat) : ∀ (a : List Int) (b : Int) (c : Int) (f : Int) (r : List Int),q65 n  a b c f = some r→Qq Tryz.prog tab 164 [.hs 0 1 0 a.length,q6 b,q6 c,q6 f] [(0,.dat 1 (a.map (eI .i64)))] 1 (.d (.tup [])) [(0,.dat 1 (r.map (eI .i64)))] 1:=by
 induction n with
 | zero=>intro a b c f r g;cases g
 | succ n ih=>intro a b c f r g;exact qvf (q65 n )   ih a b c f r g
theorem qk0 (a : List Int) (r : List Int) (b : U9  a = some r) : Qq Tryz.prog tab 144 [.hs 0 1 0 a.length] [(0,.dat 1 (a.map (eI .i64)))] 1 (.d (.tup [])) [(0,.dat 1 (r.map (eI .i64)))] 1:=by
 unfold U9 at b
 refine Qx Tryz.func144 J (by kernel_rfl) (by kernel_rfl) J<|qb<|U J<|O (q6 (a.length : Int)) J<|q9 J<|q8<|qs<|U J<|U J<|U J<|O (.d (.int .u64 (IntKind.wrap .u64 (a.length : Int)))) J ?_
 obtain ⟨c,h,b⟩:=q7 b
 refine qt (qd1 (IntKind.wrap .u64 (a.length : Int)) c h) J ?_
 obtain ⟨g,f,b⟩:=q7 b
 obtain ⟨l,j,b⟩:=q7 b
 have m:=K5 j
 obtain ⟨k,f⟩:=qcz f
 refine Qr [(0,0)] [(0,0)] [.hs 0 1 0 a.length,q6 0,q6 (a.length : Int),q6 c] (.d (.tup [])) 1 [(0,.dat 1 (g.map (eI .i64)))] 1 (qvg k a 0 (a.length : Int) c g f)<|qr ?_
 obtain rfl:=qc b
 exact ⟨.inl J,_,J,wkA [] [] []⟩
theorem qjy (c : List Int) (r : (Nat × Nat) × List Int) (g : q1z  c = some r) : Qq Tryz.prog tab 145 [.hs 0 1 0 c.length] [(0,.dat 1 (c.map (eI .i64)))] 1 (.hs 0 1 r.1.1 r.1.2) [(0,.dat 1 (r.2.map (eI .i64)))] 1:=by
 unfold q1z at g
 refine Qx Tryz.func145 J (by kernel_rfl) (by kernel_rfl) J<|qb<|q9 J<|q8<|qe<|qb<|U J<|O (q6 (c.length : Int)) J<|O (.d (.bool (decide ((c.length : Int) < 2)))) J<|q8 ?_
 refine qk J g (fun _ g=>?_) (fun _ g=>?_)
 ·refine qb<|U J<|q9 J<|qn ?_
  obtain rfl:=qc g
  exact ⟨.inr J,_,J,wkA [] [] []⟩
 refine ql<|qe<|qb<|q9 J<|q8 ?_
 obtain ⟨p,ae,g⟩:=q7 g
 refine Qb (fun m=>.inl m = p) (fun (m : Unit)=>⟨[(0,.hs 0 1 0 c.length)],[(0,.dat 1 (c.map (eI .i64)))],1⟩) (by simp) ?_ ?_
 ·refine Q7 (Zj c) (fun (l : Int)=>⟨[(0,.hs 0 1 0 c.length),(3,q6 l)],[(0,.dat 1 (c.map (eI .i64)))],1⟩) 1 p ae (wkA [] [] []) ?_
  intro l ak a
  unfold Zj at a
  refine qe<|qb<|U J<|U J<|O (q6 (c.length : Int)) J<|O (.d (.bool (decide (l < (c.length : Int))))) J<|q8 ?_
  refine qk J a (fun _ a=>?_) (fun _ a=>?_)
  ·refine ql<|qe<|qu<|qe<|Q4 [q0,qo 0,q0,q0,q0,q0,qo 0,q0,q0,q0] (by kernel_rfl)<|U J<|U J ?_
   obtain ⟨q,s,a⟩:=q7 a
   refine qq s J J<|qx (q6 q) s J<|U J<|U J<|O (.d (G (w64 (l - 1)))) J ?_
   obtain ⟨t,u,a⟩:=q7 a
   refine qq u J J<|qx (q6 t) u J<|O (qd (q == t)) J<|q8 ?_
   refine qk J a (fun _ a=>?_) (fun _ a=>?_)
   ·refine qb<|U J<|U J ?_
    obtain ⟨af,ag,a⟩:=q7 a
    refine q7d ag J J J J J (q6k J) (fun _=>rfl)<|q9 J<|q8<|qe<|qb<|q9 J<|q8 ?_
    obtain ⟨v,ah,a⟩:=q7 a
    refine Qb (fun h=>h = v) (fun (h : Int × List Int)=>⟨[(0,.hs 0 1 0 h.2.length),(3,q6 h.1)],[(0,.dat 1 (h.2.map (eI .i64)))],1⟩) (by simp) ?_ ?_
    ·refine Q7 (Uw) (fun (b : Int × (Nat × Nat) × Int × List Int)=>⟨[(0,.hs 0 1 0 b.2.2.2.length),(3,q6 b.1),(4,.hs 0 1 b.2.1.1 b.2.1.2),(5,q6 b.2.2.1)],[(0,.dat 1 (b.2.2.2.map (eI .i64)))],1⟩) (l,af,1,c) v ah (wkA [] [] []) ?_
     intro b al j
     unfold Uw at j
     refine qe<|qb<|U J<|U J<|O (q6 (b.2.1.2 : Int)) J<|O (.d (.bool (decide (b.2.2.1 < (b.2.1.2 : Int))))) J<|q8 ?_
     refine qk J j (fun _ j=>?_) (fun _ j=>?_)
     ·refine ql<|qe ?_
      obtain ⟨ai,f,j⟩:=q7 j
      refine Qb (fun k=>k = ai) (fun (k : Int × (Nat × Nat) × List Int)=>⟨[(0,.hs 0 1 0 k.2.2.length),(3,q6 k.1),(4,.hs 0 1 k.2.1.1 k.2.1.2),(5,q6 b.2.2.1)],[(0,.dat 1 (k.2.2.map (eI .i64)))],1⟩) (by simp) ?_ ?_
      ·refine qe<|Q4 [q0,qo 0,q0,q0,q0,q0,qo 0,q0,q0,q0] (by kernel_rfl)<|U J<|U J ?_
       obtain ⟨x,y,f⟩:=q7 f
       refine qdc y J J J J J J<|qx (q6 x) (qcv y) J<|U J<|U J<|O (.d (G (w64 (b.2.2.1 - 1)))) J ?_
       obtain ⟨z,aa,f⟩:=q7 f
       refine qdc aa J J J J J J<|qx (q6 z) (qcv aa) J<|O (qd (x != z)) J<|q8 ?_
       refine qk J f (fun _ f=>?_) (fun _ f=>?_)
       ·refine qb<|U J<|U J<|U J<|U J ?_
        obtain ⟨n,ab,f⟩:=q7 f
        refine qdc ab J J J J J J<|qx (q6 n) (qcv ab) J ?_
        obtain ⟨am,ac,f⟩:=q7 f
        refine qq ac J J<|Qk (ds:=[G n]) n ac J J J J J J J J (leb J) J<|q8<|qs<|U J<|O (.d (G (w64 (b.1 + 1)))) J<|q9 J<|qr ?_
        obtain rfl:=qc f
        exact ⟨_,J,wkE [] [] [] J ⟨⟨_,J,Qp (by simp) J (by decide) (ltd J)⟩,⟨_,J,.d (.refl _)⟩,⟨_,J,.hs J (by decide) (ltd J)⟩,⟨_,J,.d (.refl _)⟩,trivial⟩ ⟨⟨ltd J,.inr ⟨by decide,_,J,.dat _ _⟩⟩,trivial⟩⟩
       refine ql<|Qa ?_
       obtain rfl:=qc f
       exact ⟨_,J,wkA [] [] []⟩
      intro k hb
      subst hb
      refine qs<|U J<|O (.d (G (w64 (b.2.2.1 + 1)))) J<|q9 J<|qr ?_
      exact ⟨_,(Option.some.inj j).symm,wkA [] [] []⟩
     refine Q1 ?_
     refine ⟨_,(Option.some.inj j).symm,fun hm=>?_⟩
     subst hm
     exact ⟨_,J,wkA [] [] []⟩
    intro h hb
    subst hb
    refine qb<|U J<|U J ?_
    obtain ⟨ad,o,a⟩:=q7 a
    refine q7d o J J J J J (q6k J) (fun _=>rfl)<|qq9 (w:=ad) (xs:=h.2) (enc:=(eI .i64)) 0 (q98 o) J J J J J J J ?_
    have an:=@qfq _ h.2 ad 0 (q98 o)
    refine qp<|U J<|U J ?_
    obtain ⟨ao,aj,a⟩:=q7 a
    refine q7d aj J J J J J (fun _=>rfl) (q6k J)<|q9 J<|qn ?_
    refine ⟨_,(Option.some.inj a).symm,fun hm=>?_⟩
    subst hm
    obtain rfl:=qc g
    exact ⟨.inr J,_,J,wkA [] [] []⟩
   refine ql<|Qa<|Q9<|qs<|U J<|O (.d (G (w64 (l + 1)))) J<|q9 J<|qr ?_
   exact ⟨_,(Option.some.inj a).symm,wkA [] [] []⟩
  refine Q1 ?_
  refine ⟨_,(Option.some.inj a).symm,fun hm=>?_⟩
  subst hm
  exact ⟨_,J,wkA [] [] []⟩
 intro m hb
 subst hb
 refine qb<|U J<|q9 J<|qn ?_
 obtain rfl:=qc g
 exact ⟨.inr J,_,J,wkA [] [] []⟩
theorem quv (b : List qj) (h : qj→Option Bool) (p1F : FuncId) (p1C : List DV) (p1Ok : ∀ (j : qj) (r : Bool),h j = some r→Pure Tryz.prog tab p1F ([.agg [G j.Lo,G j.Hi]] ++ p1C) (.bool r)) (r : Int) (c : q83 b h = some r) : Pure Tryz.prog tab 152 [.sl 2 (b.map Q3),.fn p1F p1C] (G r):=by
 unfold q83 at c
 refine Qc Tryz.func152 J (by kernel_rfl) (by kernel_rfl) J<|qb<|q9 J<|q8<|qe<|qb<|U J<|Qg J<|U J<|q8 ?_
 obtain ⟨l,m,c⟩:=q7 c
 refine Qb (fun k=>.inl k = l) (fun (k : Unit)=>⟨[],[],0⟩) (by simp) ?_ ?_
 ·refine Q7 (q20 b h) (fun (f : Int)=>⟨[(0,.d (.sl 2 (b.map Q3))),(1,.d (.fn p1F p1C)),(7,q6 (b.length : Int)),(8,q6 f)],[],0⟩) 0 l m (wkA [] [] []) ?_
  intro f q a
  unfold q20 at a
  refine qb<|O (.d (.bool (decide (f < (b.length : Int))))) J<|q8<|qe ?_
  refine qk J a (fun _ a=>?_) (fun _ a=>?_)
  ·refine ql<|qe<|qu<|qb<|U J<|q9 J<|qp<|U J<|U J<|U J ?_
   obtain ⟨g,n,a⟩:=q7 a
   refine Q5 (enc:=Q3) n J<|O (.d (.agg [G g.Lo,G g.Hi])) J ?_
   obtain ⟨o,p,a⟩:=q7 a
   refine Kz [.d (.agg [G g.Lo,G g.Hi])] (p1Ok g o p) J J J (.inl J)<|q8 ?_
   refine qk J a (fun _ a=>?_) (fun _ a=>?_)
   ·refine qb<|U J<|q9 J<|qn ?_
    refine ⟨_,(Option.some.inj a).symm,fun hm=>?_⟩
    subst hm
    obtain rfl:=qc c
    exact qv (q6 f) J
   refine ql<|Qa<|Q9<|qs<|O (.d (G (w64 (f + 1)))) J<|U J<|qr ?_
   exact ⟨_,(Option.some.inj a).symm,wkA [] [] []⟩
  refine Q1 ?_
  refine ⟨_,(Option.some.inj a).symm,fun hm=>?_⟩
  subst hm
  exact ⟨_,J,wkA [] [] []⟩
 intro k hb
 subst hb
 refine qb<|q9 J<|qn ?_
 obtain rfl:=qc c
 exact qv (q6 (-1)) J
theorem qun (b : List qj) (c : qj→Option Bool) (p1F : FuncId) (p1C : List DV) (p1Ok : ∀ (f : qj) (r : Bool),c f = some r→Pure Tryz.prog tab p1F ([.agg [G f.Lo,G f.Hi]] ++ p1C) (.bool r)) (r : Bool) (a : q7z b c = some r) : Pure Tryz.prog tab 119 [.sl 2 (b.map Q3),.fn p1F p1C] (.bool r):=by
 unfold q7z at a
 refine Qc Tryz.func119 J (by kernel_rfl) (by kernel_rfl) J<|qb<|q9 J<|qp<|U J<|U J ?_
 obtain ⟨g,h,a⟩:=q7 a
 refine qt (quv b c p1F p1C p1Ok g h) J<|O (.d (.bool (decide (g ≥ 0)))) J<|q9 J<|qn ?_
 obtain rfl:=qc a
 exact qv (.d (.bool (decide (g ≥ 0)))) J
theorem qy8 (a : qj) (r : Bool) (b : q25 a = some r) : Pure Tryz.prog tab 121 [.agg [G a.Lo,G a.Hi]] (.bool r):=by
 unfold q25 at b
 refine Qc Tryz.func121 J (by kernel_rfl) (by kernel_rfl) J<|qb<|Qh (.ref 0 2 0 0) (.dat 2 [[G a.Lo,G a.Hi]]) J<|q9 J<|qp<|O (.ref 0 2 0 0) J<|O (q6 a.Lo) J<|O (.ref 0 2 0 1) J<|O (q6 a.Hi) J<|O (.d (.bool (decide (a.Lo < a.Hi)))) J ?_
 obtain ⟨q,c,b⟩:=q7 b
 refine Q0 5 (fun A st=>∃ (g h j k : V),st = A [(12,qd q),(11,k),(10,j),(9,h),(8,g)]) ?_ ?_
 ·refine qy J J c (fun c=>?_) (fun c=>?_)
  ·refine O (.ref 0 2 0 0) J<|O (q6 a.Lo) J<|O (.d (.bool (decide (a.Lo ≥ (-1000000))))) J<|O (.d (.bool (decide (a.Lo ≥ (-1000000))))) J<|q8 ?_
   obtain rfl:=qc c
   exact ⟨_,_,_,_,J⟩
  refine qa J<|qa J<|qa J<|O (qd false) J<|q8 ?_
  obtain rfl:=qc c
  exact ⟨_,_,_,_,J⟩
 rintro _ ⟨g,h,j,k,rfl⟩
 obtain ⟨l,f,b⟩:=q7 b
 refine Q0 5 (fun A st=>∃ (m n o p : V),st = A [(17,qd l),(16,p),(15,o),(14,n),(13,m)]) ?_ ?_
 ·refine qy J J f (fun f=>?_) (fun f=>?_)
  ·refine O (.ref 0 2 0 1) J<|O (q6 a.Hi) J<|O (.d (.bool (decide (a.Hi≤1000000)))) J<|O (.d (.bool (decide (a.Hi≤1000000)))) J<|q8 ?_
   obtain rfl:=qc f
   exact ⟨_,_,_,_,J⟩
  refine qa J<|qa J<|qa J<|O (qd false) J<|q8 ?_
  obtain rfl:=qc f
  exact ⟨_,_,_,_,J⟩
 rintro _ ⟨m,n,o,p,rfl⟩
 refine q9 J<|qn ?_
 obtain rfl:=qc b
 exact qv (qd l) J
theorem qy2 (a : qj) (r : Bool) (b : qbc a = some r) : Pure Tryz.prog tab 120 [.agg [G a.Lo,G a.Hi]] (.bool r):=by
 unfold qbc at b
 refine Qc Tryz.func120 J (by kernel_rfl) (by kernel_rfl) J<|qb<|Qh (.ref 0 2 0 0) (.dat 2 [[G a.Lo,G a.Hi]]) J<|q9 J<|qp<|O (.d (.agg [G a.Lo,G a.Hi])) J ?_
 obtain ⟨c,f,b⟩:=q7 b
 refine qt (qy8 a c f) J<|O (qd (!c)) J<|q9 J<|qn ?_
 obtain rfl:=qc b
 exact qv (qd (!c)) J
theorem qy4 (a : qh) (b : qh) (r : Int) (c : q91 a b = some r) : Pure Tryz.prog tab 171 [.agg [G a.at_,G a.list_,G a.by_],.agg [G b.at_,G b.list_,G b.by_]] (G r):=by
 unfold q91 at c
 refine Qc Tryz.func171 J (by kernel_rfl) (by kernel_rfl) J<|qb<|Qh (.ref 0 3 0 0) (.dat 3 [[G a.at_,G a.list_,G a.by_]]) J<|Qh (.ref 1 3 0 0) (.dat 3 [[G b.at_,G b.list_,G b.by_]]) J<|q9 J<|qp<|O (.ref 0 3 0 0) J<|O (q6 a.at_) J<|O (.ref 1 3 0 0) J<|O (q6 b.at_) J<|O (.d (G (w64 (a.at_ - b.at_)))) J<|q9 J<|qn ?_
 obtain rfl:=qc c
 exact qv (.d (G (w64 (a.at_ - b.at_)))) J
theorem qv5 (p : qh→qh→Option Int) (q1F : FuncId) (q1C : List DV) (q1Ok : ∀ (q : qh) (s : qh) (r : Int),p q s = some r→Pure Tryz.prog tab q1F ([.agg [G q.at_,G q.list_,G q.by_],.agg [G s.at_,G s.list_,G s.by_]] ++ q1C) (G r)) (t : List qh) (c : Int) (j : Int) (r : List qh) (u : q8a p t c j = some r) : Qq Tryz.prog tab 203 [.hs 0 3 0 t.length,q6 c,q6 j,.d (.fn q1F q1C)] [(0,.dat 3 (t.map Q2))] 1 (.d (.tup [])) [(0,.dat 3 (r.map Q2))] 1:=by
 unfold q8a at u
 refine Qx Tryz.func203 J (by kernel_rfl) (by kernel_rfl) J<|qb<|U J<|O (.d (G (w64 (c + 1)))) J<|q9 J<|q8 ?_
 obtain ⟨aq,ar,u⟩:=q7 u
 refine qu<|Q7 (q8b j c p) (fun (f : Int × List qh)=>⟨[(0,.hs 0 3 0 f.2.length),(1,q6 c),(2,q6 j),(3,.d (.fn q1F q1C)),(8,q6 f.1)],[(0,.dat 3 (f.2.map Q2))],1⟩) (w64 (c + 1),t) aq ar (wkA [] [] []) ?_
 intro f az h
 unfold q8b at h
 refine qe<|qb<|U J<|U J<|O (.d (.bool (decide (f.1 < j)))) J<|q8 ?_
 refine qk J h (fun _ h=>?_) (fun _ h=>?_)
 ·refine ql<|qe ?_
  obtain ⟨au,v,h⟩:=q7 h
  refine Qb (fun o=>o = au) (fun (o : List qh)=>⟨[(0,.hs 0 3 0 o.length),(1,q6 c),(2,q6 j),(3,.d (.fn q1F q1C)),(8,q6 f.1)],[(0,.dat 3 (o.map Q2))],1⟩) (by simp) ?_ ?_
  ·refine qb<|U J<|q9 J<|q8 ?_
   obtain ⟨av,aw,v⟩:=q7 v
   refine qu<|Q7 (q8c c p) (fun (g : Int × List qh)=>⟨[(0,.hs 0 3 0 g.2.length),(1,q6 c),(2,q6 j),(3,.d (.fn q1F q1C)),(8,q6 f.1),(9,q6 g.1)],[(0,.dat 3 (g.2.map Q2))],1⟩) (f.1,f.2) av aw (wkA [] [] []) ?_
   intro g ba a
   unfold q8c at a
   refine qe<|qe<|Q4 [q0,q0,q0,qo 0,q0,q0,q0,q0,qo 0,q0,q0,q0,q0,q0,q0,q0,q0] (by kernel_rfl)<|U J<|U J<|O (.d (.bool (decide (g.1 > c)))) J ?_
   obtain ⟨ax,b,a⟩:=q7 a
   refine Q0 14 (fun A st=>∃ (x y z aa ab ac ad ae af ag ah ai aj : V),st = A [(34,qd ax),(33,aj),(32,ai),(31,ah),(30,ag),(29,af),(28,ae),(27,ad),(26,ac),(25,ab),(24,aa),(23,z),(22,y),(21,x)]) ?_ ?_
   ·refine qy J J b (fun b=>?_) (fun b=>?_)
    ·refine U J<|U J<|U J ?_
     obtain ⟨k,ak,b⟩:=q7 b
     refine qq ak J J<|qx (.d (.agg [G k.at_,G k.list_,G k.by_])) ak J<|U J<|U J<|O (.d (G (w64 (g.1 - 1)))) J ?_
     obtain ⟨l,al,b⟩:=q7 b
     refine qq al J J<|qx (.d (.agg [G l.at_,G l.list_,G l.by_])) al J ?_
     obtain ⟨w,ay,b⟩:=q7 b
     refine Kz [.d (.agg [G k.at_,G k.list_,G k.by_]),.d (.agg [G l.at_,G l.list_,G l.by_])] (q1Ok k l w ay) J J J (.inl J)<|O (.d (.bool (decide (w < 0)))) J<|O (.d (.bool (decide (w < 0)))) J<|q8 ?_
     obtain rfl:=qc b
     exact ⟨_,_,_,_,_,_,_,_,_,_,_,_,_,J⟩
    refine qa J<|qa J<|qa J<|qa J<|qa J<|qa J<|qa J<|qa J<|qa J<|qa J<|qa J<|qa J<|O (qd false) J<|q8 ?_
    obtain rfl:=qc b
    exact ⟨_,_,_,_,_,_,_,_,_,_,_,_,_,J⟩
   rintro _ ⟨x,y,z,aa,ab,ac,ad,ae,af,ag,ah,ai,aj,rfl⟩
   refine q8 ?_
   refine qk J a (fun _ a=>?_) (fun _ a=>?_)
   ·refine ql<|qe<|qu<|Q4 [Qd 0,q0,Qd 0,q0,qo 0,q0,q0,q0,qo 0,q0,q0,q0,q0,q0,q0,q0,q0,q0] (by kernel_rfl)<|U J<|U J<|U J<|U J<|O (.d (G (w64 (g.1 - 1)))) J<|U J<|U J<|O (.d (G (w64 (g.1 - 1)))) J ?_
    obtain ⟨m,am,a⟩:=q7 a
    refine qq am J J<|qx (.d (.agg [G m.at_,G m.list_,G m.by_])) am J<|U J<|U J ?_
    obtain ⟨n,an,a⟩:=q7 a
    refine qq an J J<|qx (.d (.agg [G n.at_,G n.list_,G n.by_])) an J ?_
    obtain ⟨bb,ao,a⟩:=q7 a
    refine qq ao J J<|Qk (ds:=[G m.at_,G m.list_,G m.by_]) m ao J J J J J J J J (leb J) J ?_
    obtain ⟨bc,ap,a⟩:=q7 a
    refine qq ap (by simp) J<|Qk (ds:=[G n.at_,G n.list_,G n.by_]) n ap J J J J J J J J (leb J) J<|qr<|Q9<|qs<|U J<|O (.d (G (w64 (g.1 - 1)))) J<|q9 J<|qr ?_
    exact ⟨_,(Option.some.inj a).symm,wkE [] [] [] J ⟨⟨_,J,Qp (by simp) J (by decide) (ltd J)⟩,⟨_,J,.d (.refl _)⟩,⟨_,J,.d (.refl _)⟩,⟨_,J,.d (.refl _)⟩,⟨_,J,.d (.refl _)⟩,⟨_,J,.d (.refl _)⟩,trivial⟩ ⟨⟨ltd J,.inr ⟨by decide,_,J,.dat _ _⟩⟩,trivial⟩⟩
   refine Q1 ?_
   refine ⟨_,(Option.some.inj a).symm,fun hm=>?_⟩
   subst hm
   obtain rfl:=qc v
   exact ⟨_,J,wkA [] [] []⟩
  intro o hb
  subst hb
  refine qs<|U J<|O (.d (G (w64 (f.1 + 1)))) J<|q9 J<|qr ?_
  exact ⟨_,(Option.some.inj h).symm,wkA [] [] []⟩
 refine Q1 ?_
 refine ⟨_,(Option.some.inj h).symm,fun hm=>?_⟩
 subst hm
 obtain rfl:=qc u
 exact ⟨.inl J,_,J,wkA [] [] []⟩
theorem qk4 (v : qh→qh→Option Int) (q1F : FuncId) (q1C : List DV) (q1Ok : ∀ (s : qh) (t : qh) (r : Int),v s t = some r→Pure Tryz.prog tab q1F ([.agg [G s.at_,G s.list_,G s.by_],.agg [G t.at_,G t.list_,G t.by_]] ++ q1C) (G r)) (u : List qh) (w : Int) (g : Int) (c : Int) (r : List qh) (p : q67 v u w g c = some r) : Qq Tryz.prog tab 215 [.hs 0 3 0 u.length,q6 w,q6 g,q6 c,.d (.fn q1F q1C)] [(0,.dat 3 (u.map Q2))] 1 (.d (.tup [])) [(0,.dat 3 (r.map Q2))] 1:=by
 unfold q67 at p
 refine Qx Tryz.func215 J (by kernel_rfl) (by kernel_rfl) J<|qb<|U J<|q9 J<|q8 ?_
 obtain ⟨ba,bb,p⟩:=q7 p
 refine qu<|Q7 (q8u g c v) (fun (b : Int × List qh)=>⟨[(0,.hs 0 3 0 b.2.length),(2,q6 g),(3,q6 c),(4,.d (.fn q1F q1C)),(10,q6 b.1)],[(0,.dat 3 (b.2.map Q2))],1⟩) (w,u) ba bb (wkA [] [] []) ?_
 intro b bg a
 unfold q8u at a
 refine qu<|qb<|U J<|O (.d (G (w64 (2 * b.1)))) J<|O (.d (G (w64 ((w64 (2 * b.1)) + 1)))) J<|q9 J<|q8<|qe<|qb<|U J<|U J<|O (.d (.bool (decide ((w64 ((w64 (2 * b.1)) + 1)) ≥ g)))) J<|q8 ?_
 refine qk J a (fun _ a=>?_) (fun _ a=>?_)
 ·refine Q1 ?_
  refine ⟨_,(Option.some.inj a).symm,fun hm=>?_⟩
  subst hm
  obtain rfl:=qc p
  exact ⟨.inl J,_,J,wkA [] [] []⟩
 refine ql<|qe<|qe<|Q4 [q0,q0,q0,qo 0,q0,q0,q0,q0,q0,q0,qo 0,q0,q0,q0,q0,q0,q0,q0,q0,q0,q0,q0] (by kernel_rfl)<|U J<|O (.d (G (w64 ((w64 ((w64 (2 * b.1)) + 1)) + 1)))) J<|U J<|O (.d (.bool (decide ((w64 ((w64 ((w64 (2 * b.1)) + 1)) + 1)) < g)))) J ?_
 obtain ⟨bc,f,a⟩:=q7 a
 refine Q0 18 (fun A st=>∃ (z aa ab ac ad ae af ag ah ai aj ak al am an ao ap : V),st = A [(40,qd bc),(39,ap),(38,ao),(37,an),(36,am),(35,al),(34,ak),(33,aj),(32,ai),(31,ah),(30,ag),(29,af),(28,ae),(27,ad),(26,ac),(25,ab),(24,aa),(23,z)]) ?_ ?_
 ·refine qy J J f (fun f=>?_) (fun f=>?_)
  ·refine U J<|U J<|U J<|U J<|O (.d (G (w64 (c + (w64 ((w64 (2 * b.1)) + 1)))))) J ?_
   obtain ⟨h,aq,f⟩:=q7 f
   refine qq aq J J<|qx (.d (.agg [G h.at_,G h.list_,G h.by_])) aq J<|U J<|U J<|U J<|O (.d (G (w64 (c + (w64 ((w64 (2 * b.1)) + 1)))))) J<|O (.d (G (w64 ((w64 (c + (w64 ((w64 (2 * b.1)) + 1)))) + 1)))) J ?_
   obtain ⟨j,ar,f⟩:=q7 f
   refine qq ar J J<|qx (.d (.agg [G j.at_,G j.list_,G j.by_])) ar J ?_
   obtain ⟨x,bd,f⟩:=q7 f
   refine Kz [.d (.agg [G h.at_,G h.list_,G h.by_]),.d (.agg [G j.at_,G j.list_,G j.by_])] (q1Ok h j x bd) J J J (.inl J)<|O (.d (.bool (decide (x < 0)))) J<|O (.d (.bool (decide (x < 0)))) J<|q8 ?_
   obtain rfl:=qc f
   exact ⟨_,_,_,_,_,_,_,_,_,_,_,_,_,_,_,_,_,J⟩
  refine qa J<|qa J<|qa J<|qa J<|qa J<|qa J<|qa J<|qa J<|qa J<|qa J<|qa J<|qa J<|qa J<|qa J<|qa J<|qa J<|O (qd false) J<|q8 ?_
  obtain rfl:=qc f
  exact ⟨_,_,_,_,_,_,_,_,_,_,_,_,_,_,_,_,_,J⟩
 rintro _ ⟨z,aa,ab,ac,ad,ae,af,ag,ah,ai,aj,ak,al,am,an,ao,ap,rfl⟩
 refine q8 ?_
 obtain ⟨be,q,a⟩:=q7 a
 refine Y2 (fun k=>k = be) (fun (k : Int)=>⟨[(0,.hs 0 3 0 b.2.length),(2,q6 g),(3,q6 c),(4,.d (.fn q1F q1C)),(10,q6 b.1),(11,q6 k)],[(0,.dat 3 (b.2.map Q2))],1⟩) (by simp) ?_ ?_
 ·refine qk J q (fun _ q=>?_) (fun _ q=>?_)
  ·refine qs<|U J<|O (.d (G (w64 ((w64 ((w64 (2 * b.1)) + 1)) + 1)))) J<|q9 J<|qr ?_
   obtain rfl:=qc q
   exact ⟨_,J,wkA [] [] []⟩
  refine ql<|Qa ?_
  obtain rfl:=qc q
  exact ⟨_,J,wkA [] [] []⟩
 intro k hb
 subst hb
 refine qe<|qe<|Q4 [q0,q0,q0,qo 0,q0,q0,q0,q0,q0,qo 0,q0,q0,q0,q0,q0,q0] (by kernel_rfl)<|U J<|U J<|U J<|U J<|O (.d (G (w64 (c + b.1)))) J ?_
 obtain ⟨l,au,a⟩:=q7 a
 refine qq au J J<|qx (.d (.agg [G l.at_,G l.list_,G l.by_])) au J<|U J<|U J<|U J<|O (.d (G (w64 (c + k)))) J ?_
 obtain ⟨m,av,a⟩:=q7 a
 refine qq av J J<|qx (.d (.agg [G m.at_,G m.list_,G m.by_])) av J ?_
 obtain ⟨y,bf,a⟩:=q7 a
 refine Kz [.d (.agg [G l.at_,G l.list_,G l.by_]),.d (.agg [G m.at_,G m.list_,G m.by_])] (q1Ok l m y bf) J J J (.inl J)<|O (.d (.bool (decide (y < 0)))) J<|O (.d (.bool (!(decide (y < 0))))) J<|q8 ?_
 refine qk J a (fun _ a=>?_) (fun _ a=>?_)
 ·refine q3h ?_
  refine ⟨_,(Option.some.inj a).symm,fun hm=>?_⟩
  subst hm
  obtain rfl:=qc p
  exact ⟨.inr J,_,J,wkA [] [] []⟩
 refine ql<|qe<|Q4 [Qd 0,q0,Qd 0,q0,qo 0,q0,q0,q0,q0,q0,qo 0,q0,q0,q0,q0,q0,q0,q0,q0,q0,q0,q0,q0,q0] (by kernel_rfl)<|U J<|U J<|U J<|O (.d (G (w64 (c + b.1)))) J<|U J<|U J<|U J<|O (.d (G (w64 (c + k)))) J<|U J<|U J<|U J<|O (.d (G (w64 (c + k)))) J ?_
 obtain ⟨n,aw,a⟩:=q7 a
 refine qq aw J J<|qx (.d (.agg [G n.at_,G n.list_,G n.by_])) aw J<|U J<|U J<|U J<|O (.d (G (w64 (c + b.1)))) J ?_
 obtain ⟨o,ax,a⟩:=q7 a
 refine qq ax J J<|qx (.d (.agg [G o.at_,G o.list_,G o.by_])) ax J ?_
 obtain ⟨bh,ay,a⟩:=q7 a
 refine qq ay J J<|Qk (ds:=[G n.at_,G n.list_,G n.by_]) n ay J J J J J J J J (leb J) J ?_
 obtain ⟨bi,az,a⟩:=q7 a
 refine qq az (by simp) J<|Qk (ds:=[G o.at_,G o.list_,G o.by_]) o az J J J J J J J J (leb J) J<|q8<|qs<|U J<|q9 J<|qr<|Q9<|Qa ?_
 exact ⟨_,(Option.some.inj a).symm,wkE [] [] [] J ⟨⟨_,J,Qp (by simp) J (by decide) (ltd J)⟩,⟨_,J,.d (.refl _)⟩,⟨_,J,.d (.refl _)⟩,⟨_,J,.d (.refl _)⟩,⟨_,J,.d (.refl _)⟩,trivial⟩ ⟨⟨ltd J,.inr ⟨by decide,_,J,.dat _ _⟩⟩,trivial⟩⟩
theorem qv3 (l : qh→qh→Option Int) (q1F : FuncId) (q1C : List DV) (q1Ok : ∀ (o : qh) (p : qh) (r : Int),l o p = some r→Pure Tryz.prog tab q1F ([.agg [G o.at_,G o.list_,G o.by_],.agg [G p.at_,G p.list_,G p.by_]] ++ q1C) (G r)) (q : List qh) (a : Int) (c : Int) (r : List qh) (m : q87 l q a c = some r) : Qq Tryz.prog tab 204 [.hs 0 3 0 q.length,q6 a,q6 c,.d (.fn q1F q1C)] [(0,.dat 3 (q.map Q2))] 1 (.d (.tup [])) [(0,.dat 3 (r.map Q2))] 1:=by
 unfold q87 at m
 refine Qx Tryz.func204 J (by kernel_rfl) (by kernel_rfl) J<|qb<|U J<|q9 J<|qp<|q9 J<|qp<|U J<|U J<|O (.d (G (w64 (c - a)))) J<|q9 J<|q8<|qe<|qb<|U J<|O (.d (G (w64 ((w64 (c - a)) - 1)))) J<|O (.d (G (w64 (Int.tdiv (w64 ((w64 (c - a)) - 1)) 2)))) J<|q9 J<|q8 ?_
 obtain ⟨t,z,m⟩:=q7 m
 refine Qb (fun n=>n = t) (fun (n : List qh)=>⟨[(0,.hs 0 3 0 n.length),(3,.d (.fn q1F q1C)),(8,q6 a),(9,q6 0),(10,.d (G (w64 (c - a))))],[(0,.dat 3 (n.map Q2))],1⟩) (by simp) ?_ ?_
 ·refine Q7 (q88 l c a) (fun (g : Int × List qh)=>⟨[(0,.hs 0 3 0 g.2.length),(3,.d (.fn q1F q1C)),(8,q6 a),(9,q6 0),(10,.d (G (w64 (c - a)))),(11,q6 g.1)],[(0,.dat 3 (g.2.map Q2))],1⟩) (w64 (Int.tdiv (w64 ((w64 (c - a)) - 1)) 2),q) t z (wkA [] [] []) ?_
  intro g ai h
  unfold q88 at h
  refine qe<|qb<|U J<|O (.d (.bool (decide (g.1 ≥ 0)))) J<|q8 ?_
  refine qk J h (fun _ h=>?_) (fun _ h=>?_)
  ·refine ql<|qe<|qu<|qs<|U J<|U J<|U J<|U J<|U J ?_
   obtain ⟨u,aa,h⟩:=q7 h
   obtain ⟨aj,ab,h⟩:=q7 h
   have ac:=K5 ab
   refine Qr [(0,0)] [(0,0)] [.hs 0 3 0 g.2.length,q6 g.1,.d (G (w64 (c - a))),q6 a,.d (.fn q1F q1C)] (.d (.tup [])) 1 [(0,.dat 3 (u.map Q2))] 1 (qk4 l q1F q1C q1Ok g.2 g.1 (w64 (c - a)) a u aa)<|qr<|Q9<|qs<|U J<|O (.d (G (w64 (g.1 - 1)))) J<|q9 J<|qr ?_
   exact ⟨_,(Option.some.inj h).symm,wkE [] [] [] J ⟨⟨_,J,Qp (by simp [ac]) J (by decide) (ltd J)⟩,⟨_,J,.d (.refl _)⟩,⟨_,J,.d (.refl _)⟩,⟨_,J,.d (.refl _)⟩,⟨_,J,.d (.refl _)⟩,⟨_,J,.d (.refl _)⟩,trivial⟩ ⟨⟨ltd J,.inr ⟨by decide,_,J,.dat _ _⟩⟩,trivial⟩⟩
  refine Q1 ?_
  refine ⟨_,(Option.some.inj h).symm,fun hm=>?_⟩
  subst hm
  exact ⟨_,J,wkA [] [] []⟩
 intro n hb
 subst hb
 refine qb<|U J<|O (.d (G (w64 ((w64 (c - a)) - 1)))) J<|q9 J<|q8 ?_
 obtain ⟨ad,ae,m⟩:=q7 m
 refine qu<|Q7 (q89 a l) (fun (f : Int × List qh)=>⟨[(0,.hs 0 3 0 f.2.length),(3,.d (.fn q1F q1C)),(8,q6 a),(9,q6 0),(12,q6 f.1)],[(0,.dat 3 (f.2.map Q2))],1⟩) (w64 ((w64 (c - a)) - 1),n) ad ae (wkA [] [] []) ?_
 intro f ak b
 unfold q89 at b
 refine qe<|qb<|U J<|O (.d (.bool (decide (f.1 ≥ 0)))) J<|q8 ?_
 refine qk J b (fun _ b=>?_) (fun _ b=>?_)
 ·refine ql<|qe<|qu<|qe<|Q4 [Qd 0,q0,Qd 0,q0,qo 0,q0,q0,q0,qo 0,q0,q0,q0,q0,q0,q0,q0,q0,q0,q0,q0] (by kernel_rfl)<|U J<|U J<|U J<|U J<|U J<|O (.d (G (w64 (a + f.1)))) J<|U J<|U J<|U J<|O (.d (G (w64 (a + f.1)))) J ?_
  obtain ⟨j,v,b⟩:=q7 b
  refine qq v J J<|qx (.d (.agg [G j.at_,G j.list_,G j.by_])) v J<|U J<|U J ?_
  obtain ⟨k,w,b⟩:=q7 b
  refine qq w J J<|qx (.d (.agg [G k.at_,G k.list_,G k.by_])) w J ?_
  obtain ⟨al,x,b⟩:=q7 b
  refine qq x J J<|Qk (ds:=[G j.at_,G j.list_,G j.by_]) j x J J J J J J J J (leb J) J ?_
  obtain ⟨am,y,b⟩:=q7 b
  refine qq y (by simp) J<|Qk (ds:=[G k.at_,G k.list_,G k.by_]) k y J J J J J J J J (leb J) J<|q8<|qs<|U J<|U J<|U J<|U J<|U J ?_
  obtain ⟨s,af,b⟩:=q7 b
  obtain ⟨an,ag,b⟩:=q7 b
  have ah:=K5 ag
  refine U4 [(0,0)] [(0,0)] [.hs 0 3 0 f.2.length,q6 0,q6 f.1,q6 a,.d (.fn q1F q1C)] (.d (.tup [])) [(0,.dat 3 (s.map Q2))] [(0,.dat 3 (s.map Q2))] 1 (qk4 l q1F q1C q1Ok ((f.2.set a.toNat j).set (w64 (a + f.1)).toNat k) 0 f.1 a s af) J J J (Y5 [(0,0)] [] [] J ⟨⟨_,J,Qp (by simp) J (by decide) (ltd J)⟩,⟨_,J,.d (.refl _)⟩,⟨_,J,.d (.refl _)⟩,⟨_,J,.d (.refl _)⟩,⟨_,J,.d (.refl _)⟩,trivial⟩ ⟨⟨ltd J,.inr ⟨by decide,_,J,.dat _ _⟩⟩,trivial⟩) (Y5 [(0,0)] [] [] J ⟨⟨_,J,.d (.refl _)⟩,trivial⟩ ⟨⟨ltd J,.inr ⟨by decide,_,J,.dat _ _⟩⟩,trivial⟩) J ⟨.inl J,trivial⟩<|qr<|Q9<|qs<|U J<|O (.d (G (w64 (f.1 - 1)))) J<|q9 J<|qr ?_
  exact ⟨_,(Option.some.inj b).symm,wkE [] [] [] J ⟨⟨_,J,Qp (by simp [ah]) J (by decide) (ltd J)⟩,⟨_,J,.d (.refl _)⟩,⟨_,J,.d (.refl _)⟩,⟨_,J,.d (.refl _)⟩,⟨_,J,.d (.refl _)⟩,trivial⟩ ⟨⟨ltd J,.inr ⟨by decide,_,J,.dat _ _⟩⟩,trivial⟩⟩
 refine Q1 ?_
 refine ⟨_,(Option.some.inj b).symm,fun hm=>?_⟩
 subst hm
 obtain rfl:=qc m
 exact ⟨.inl J,_,J,wkA [] [] []⟩
theorem qee (j : qh→qh→Option Int) (q1F : FuncId) (q1C : List DV) (q1Ok : ∀ (g : qh) (h : qh) (r : Int),j g h = some r→Pure Tryz.prog tab q1F ([.agg [G g.at_,G g.list_,G g.by_],.agg [G h.at_,G h.list_,G h.by_]] ++ q1C) (G r)) (k : List qh) (l : Int) (m : Int) (f : Int) (r : Int × Int × Int) (a : q3o j k l m f = some r) : Qq Tryz.prog tab 219 [.d (.sl 3 (k.map Q2)),q6 l,q6 m,.ref 0 1 0 0,.d (.fn q1F q1C)] [(0,.dat 1 [[G f]])] 1 (.d (.tup [G r.1,G r.2.1])) [(0,.dat 1 [[G r.2.2]])] 1:=by
 unfold q3o at a
 refine Qx Tryz.func219 J (by kernel_rfl) (by kernel_rfl) J<|qb<|q9 J<|q9 J<|q8<|qe<|qe<|Q4 [q0,q0,q0,q0,q0,q0,q0,q0,q0,q0,q0] (by kernel_rfl)<|U J<|U J<|U J ?_
 obtain ⟨b,o,a⟩:=q7 a
 refine Q5 (enc:=Q2) o J<|O (.d (.agg [G b.at_,G b.list_,G b.by_])) J<|U J<|U J ?_
 obtain ⟨c,p,a⟩:=q7 a
 refine Q5 (enc:=Q2) p J<|O (.d (.agg [G c.at_,G c.list_,G c.by_])) J ?_
 obtain ⟨n,q,a⟩:=q7 a
 refine Kz [.d (.agg [G b.at_,G b.list_,G b.by_]),.d (.agg [G c.at_,G c.list_,G c.by_])] (q1Ok b c n q) J J J (.inl J)<|O (.d (.bool (decide (n < 0)))) J<|q8 ?_
 refine qk J a (fun _ a=>?_) (fun _ a=>?_)
 ·refine qb<|U J<|O (.ref 0 1 0 0) J<|O (q6 f) J<|O (.d (G (w64 (f + 1)))) J<|O (.ref 0 1 0 0) J<|Q8 0 (.dat 1 [[G (w64 (f + 1))]]) J<|qp<|U J<|U J<|q9 J<|q9 J<|qn ?_
  obtain rfl:=qc a
  exact ⟨.inr J,_,J,wkA [] [] []⟩
 refine ql<|qb<|U J<|U J<|q9 J<|q9 J<|qn ?_
 obtain rfl:=qc a
 exact ⟨.inr J,_,J,wkA [] [] []⟩
theorem qk1 (h : qh→qh→Option Int) (q1F : FuncId) (q1C : List DV) (q1Ok : ∀ (j : qh) (k : qh) (r : Int),h j k = some r→Pure Tryz.prog tab q1F ([.agg [G j.at_,G j.list_,G j.by_],.agg [G k.at_,G k.list_,G k.by_]] ++ q1C) (G r)) (c : List qh) (l : Int) (m : Int) (n : Int) (o : Int) (r : Int × Int) (f : q5n h c l m n o = some r) : Qq Tryz.prog tab 217 [.d (.sl 3 (c.map Q2)),q6 l,q6 m,q6 n,.ref 0 1 0 0,.d (.fn q1F q1C)] [(0,.dat 1 [[G o]])] 1 (q6 r.1) [(0,.dat 1 [[G r.2]])] 1:=by
 unfold q5n at f
 refine Qx Tryz.func217 J (by kernel_rfl) (by kernel_rfl) J<|qb<|q9 J<|qp<|U J<|U J<|U J<|U J<|U J ?_
 obtain ⟨a,p,f⟩:=q7 f
 refine Qr [(0,0)] [(0,0)] [.d (.sl 3 (c.map Q2)),q6 l,q6 m,.ref 0 1 0 0,.d (.fn q1F q1C)] (.d (.tup [G a.1,G a.2.1])) 1 [(0,.dat 1 [[G a.2.2]])] 1 (qee h q1F q1C q1Ok c l m o a p)<|U J<|O (q6 a.1) J<|O (q6 a.2.1) J<|q9 J<|q9 J<|qp<|U J<|U J<|U J<|U J<|U J ?_
 obtain ⟨b,q,f⟩:=q7 f
 refine Qr [(0,0)] [(0,0)] [.d (.sl 3 (c.map Q2)),q6 a.2.1,q6 n,.ref 0 1 0 0,.d (.fn q1F q1C)] (.d (.tup [G b.1,G b.2.1])) 1 [(0,.dat 1 [[G b.2.2]])] 1 (qee h q1F q1C q1Ok c a.2.1 n a.2.2 b q)<|U J<|O (q6 b.1) J<|O (q6 b.2.1) J<|q9 J<|q9 J<|qp<|U J<|U J<|U J<|U J<|U J ?_
 obtain ⟨g,s,f⟩:=q7 f
 refine Qr [(0,0)] [(0,0)] [.d (.sl 3 (c.map Q2)),q6 a.1,q6 b.1,.ref 0 1 0 0,.d (.fn q1F q1C)] (.d (.tup [G g.1,G g.2.1])) 1 [(0,.dat 1 [[G g.2.2]])] 1 (qee h q1F q1C q1Ok c a.1 b.1 b.2.2 g s)<|U J<|O (q6 g.1) J<|O (q6 g.2.1) J<|q9 J<|q9 J<|qp<|U J<|q9 J<|qn ?_
 obtain rfl:=qc f
 exact ⟨.inr J,_,J,wkA [] [] []⟩
theorem qec (h : qh→qh→Option Int) (q1F : FuncId) (q1C : List DV) (q1Ok : ∀ (b : qh) (c : qh) (r : Int),h b c = some r→Pure Tryz.prog tab q1F ([.agg [G b.at_,G b.list_,G b.by_],.agg [G c.at_,G c.list_,G c.by_]] ++ q1C) (G r)) (f : List qh) (a : Int) (j : Int) (r : Int × Int) (g : q3m h f a j = some r) : Qq Tryz.prog tab 216 [.d (.sl 3 (f.map Q2)),q6 a,.ref 0 1 0 0,.d (.fn q1F q1C)] [(0,.dat 1 [[G j]])] 1 (q6 r.1) [(0,.dat 1 [[G r.2]])] 1:=by
 unfold q3m at g
 refine Qx Tryz.func216 J (by kernel_rfl) (by kernel_rfl) J<|qb<|q9 J<|qp<|U J<|U J<|O (.d (G (w64 (a - 1)))) J<|U J<|U J<|O (.d (G (w64 (a + 1)))) J<|U J<|U J ?_
 obtain ⟨k,l,g⟩:=q7 g
 refine Qr [(0,0)] [(0,0)] [.d (.sl 3 (f.map Q2)),.d (G (w64 (a - 1))),q6 a,.d (G (w64 (a + 1))),.ref 0 1 0 0,.d (.fn q1F q1C)] (q6 k.1) 1 [(0,.dat 1 [[G k.2]])] 1 (qk1 h q1F q1C q1Ok f (w64 (a - 1)) a (w64 (a + 1)) j k l)<|q9 J<|qn ?_
 obtain rfl:=qc g
 exact ⟨.inr J,_,J,wkA [] [] []⟩
theorem qv1 (g : List qh) (a : Int) (b : Int) (l : qh→qh→Option Int) (p3F : FuncId) (p3C : List DV) (p3Ok : ∀ (m : qh) (n : qh) (r : Int),l m n = some r→Pure Tryz.prog tab p3F ([.agg [G m.at_,G m.list_,G m.by_],.agg [G n.at_,G n.list_,G n.by_]] ++ p3C) (G r)) (r : Int × Int) (f : q86 g a b l = some r) : Pure Tryz.prog tab 206 [.sl 3 (g.map Q2),G a,G b,.fn p3F p3C] (.tup [G r.1,G r.2]):=by
 unfold q86 at f
 refine Qc Tryz.func206 J (by kernel_rfl) (by kernel_rfl) J<|qb<|q9 J<|q9 J<|qp<|U J<|U J<|O (.d (G (w64 (b - a)))) J<|q9 J<|qp<|Qo J J<|qp<|U J<|U J<|O (.d (G (w64 (Int.tdiv (w64 (b - a)) 4)))) J<|O (.d (G (w64 ((w64 (Int.tdiv (w64 (b - a)) 4)) * 1)))) J<|O (.d (G (w64 (a + (w64 ((w64 (Int.tdiv (w64 (b - a)) 4)) * 1)))))) J<|q9 J<|qp<|U J<|U J<|O (.d (G (w64 (Int.tdiv (w64 (b - a)) 4)))) J<|O (.d (G (w64 ((w64 (Int.tdiv (w64 (b - a)) 4)) * 2)))) J<|O (.d (G (w64 (a + (w64 ((w64 (Int.tdiv (w64 (b - a)) 4)) * 2)))))) J<|q9 J<|qp<|U J<|U J<|O (.d (G (w64 (Int.tdiv (w64 (b - a)) 4)))) J<|O (.d (G (w64 ((w64 (Int.tdiv (w64 (b - a)) 4)) * 3)))) J<|O (.d (G (w64 (a + (w64 ((w64 (Int.tdiv (w64 (b - a)) 4)) * 3)))))) J<|q9 J<|q8<|qe<|qb<|U J<|O (.d (.bool (decide ((w64 (b - a)) ≥ 8)))) J<|q8 ?_
 obtain ⟨t,k,f⟩:=q7 f
 refine Y2 (fun h=>h = t) (fun (h : Int × Int)=>⟨[(11,.ref 0 1 0 0),(13,q6 h.1)],[(0,.dat 1 [[G h.2]])],1⟩) (by simp) ?_ ?_
 ·refine qk J k (fun _ k=>?_) (fun _ k=>?_)
  ·refine qe<|qb<|U J<|O (.d (.bool (decide ((w64 (b - a)) ≥ 50)))) J<|q8 ?_
   obtain ⟨u,j,k⟩:=q7 k
   refine Y2 (fun c=>c = u) (fun (c : Int × Int × Int × Int)=>⟨[(0,.d (.sl 3 (g.map Q2))),(3,.d (.fn p3F p3C)),(11,.ref 0 1 0 0),(12,q6 c.1),(13,q6 c.2.1),(14,q6 c.2.2.1)],[(0,.dat 1 [[G c.2.2.2]])],1⟩) (by simp) ?_ ?_
   ·refine qk J j (fun _ j=>?_) (fun _ j=>?_)
    ·refine qb<|U J<|U J<|U J ?_
     obtain ⟨o,v,j⟩:=q7 j
     refine Qr [(0,0)] [(0,0)] [.d (.sl 3 (g.map Q2)),.d (G (w64 (a + (w64 ((w64 (Int.tdiv (w64 (b - a)) 4)) * 1))))),.ref 0 1 0 0,.d (.fn p3F p3C)] (q6 o.1) 1 [(0,.dat 1 [[G o.2]])] 1 (qec l p3F p3C p3Ok g (w64 (a + (w64 ((w64 (Int.tdiv (w64 (b - a)) 4)) * 1)))) 0 o v)<|q9 J<|qp<|U J<|U J<|U J ?_
     obtain ⟨p,w,j⟩:=q7 j
     refine Qr [(0,0)] [(0,0)] [.d (.sl 3 (g.map Q2)),.d (G (w64 (a + (w64 ((w64 (Int.tdiv (w64 (b - a)) 4)) * 2))))),.ref 0 1 0 0,.d (.fn p3F p3C)] (q6 p.1) 1 [(0,.dat 1 [[G p.2]])] 1 (qec l p3F p3C p3Ok g (w64 (a + (w64 ((w64 (Int.tdiv (w64 (b - a)) 4)) * 2)))) o.2 p w)<|q9 J<|q8<|qs<|U J<|U J<|U J ?_
     obtain ⟨q,x,j⟩:=q7 j
     refine Qr [(0,0)] [(0,0)] [.d (.sl 3 (g.map Q2)),.d (G (w64 (a + (w64 ((w64 (Int.tdiv (w64 (b - a)) 4)) * 3))))),.ref 0 1 0 0,.d (.fn p3F p3C)] (q6 q.1) 1 [(0,.dat 1 [[G q.2]])] 1 (qec l p3F p3C p3Ok g (w64 (a + (w64 ((w64 (Int.tdiv (w64 (b - a)) 4)) * 3)))) p.2 q x)<|q9 J<|qr ?_
     obtain rfl:=qc j
     exact ⟨_,J,wkA [(0,0)] [] []⟩
    refine ql<|Qa ?_
    obtain rfl:=qc j
    exact ⟨_,J,wkA [(0,0)] [] []⟩
   intro c hb
   subst hb
   refine qs<|U J<|U J<|U J<|U J<|U J ?_
   obtain ⟨s,y,k⟩:=q7 k
   refine Qr [(0,0)] [(0,0)] [.d (.sl 3 (g.map Q2)),q6 c.1,q6 c.2.1,q6 c.2.2.1,.ref 0 1 0 0,.d (.fn p3F p3C)] (q6 s.1) 1 [(0,.dat 1 [[G s.2]])] 1 (qk1 l p3F p3C p3Ok g c.1 c.2.1 c.2.2.1 c.2.2.2 s y)<|q9 J<|qr ?_
   obtain rfl:=qc k
   exact ⟨_,J,wkA [(0,0)] [] []⟩
  refine ql<|Qa ?_
  obtain rfl:=qc k
  exact ⟨_,J,wkA [(0,0)] [] []⟩
 intro h hb
 subst hb
 refine qb<|O (q6 h.2) J<|q8<|qu<|qb<|O (qd (h.2 == 0)) J<|q9 J<|q8 ?_
 refine qk J f (fun _ f=>?_) (fun _ f=>?_)
 ·refine qb<|U J<|q9 J<|q9 J<|qn ?_
  obtain rfl:=qc f
  exact qv (.d (.tup [G h.1,G 1])) J
 refine qb<|O (qd (h.2 == 12)) J<|q9 J<|q8 ?_
 refine qk J f (fun _ f=>?_) (fun _ f=>?_)
 ·refine qb<|U J<|q9 J<|q9 J<|qn ?_
  obtain rfl:=qc f
  exact qv (.d (.tup [G h.1,G 2])) J
 refine qb<|U J<|q9 J<|q9 J<|qn ?_
 obtain rfl:=qc f
 exact qv (.d (.tup [G h.1,G 0])) J
theorem qvh (n : qh→qh→Option Int) (q1F : FuncId) (q1C : List DV) (_q1Ok : ∀ (g : qh) (h : qh) (r : Int),n g h = some r→Pure Tryz.prog tab q1F ([.agg [G g.at_,G g.list_,G g.by_],.agg [G h.at_,G h.list_,G h.by_]] ++ q1C) (G r)) (j : List qh) (m : Int) (k : Int) (r : List qh) (l : q8r n j m k = some r) : Qq Tryz.prog tab 207 [.hs 0 3 0 j.length,q6 m,q6 k,.d (.fn q1F q1C)] [(0,.dat 3 (j.map Q2))] 1 (.d (.tup [])) [(0,.dat 3 (r.map Q2))] 1:=by
 unfold q8r at l
 refine Qx Tryz.func207 J (by kernel_rfl) (by kernel_rfl) J<|qb<|U J<|q9 J<|qp<|U J<|O (.d (G (w64 (k - 1)))) J<|q9 J<|q8 ?_
 obtain ⟨t,u,l⟩:=q7 l
 refine qu<|Q7 (q8s) (fun (b : Int × Int × List qh)=>⟨[(0,.hs 0 3 0 b.2.2.length),(8,q6 b.1),(9,q6 b.2.1)],[(0,.dat 3 (b.2.2.map Q2))],1⟩) (m,w64 (k - 1),j) t u (wkA [] [] []) ?_
 intro b v a
 unfold q8s at a
 refine qe<|qb<|U J<|U J<|O (.d (.bool (decide (b.1 < b.2.1)))) J<|q8 ?_
 refine qk J a (fun _ a=>?_) (fun _ a=>?_)
 ·refine ql<|qu<|qe<|Q4 [Qd 0,q0,Qd 0,q0,qo 0,q0,q0,q0,qo 0,q0,q0,q0,q0,q0,q0,q0] (by kernel_rfl)<|U J<|U J<|U J<|U J<|U J<|U J ?_
  obtain ⟨c,o,a⟩:=q7 a
  refine qq o J J<|qx (.d (.agg [G c.at_,G c.list_,G c.by_])) o J<|U J<|U J ?_
  obtain ⟨f,p,a⟩:=q7 a
  refine qq p J J<|qx (.d (.agg [G f.at_,G f.list_,G f.by_])) p J ?_
  obtain ⟨w,q,a⟩:=q7 a
  refine qq q J J<|Qk (ds:=[G c.at_,G c.list_,G c.by_]) c q J J J J J J J J (leb J) J ?_
  obtain ⟨x,s,a⟩:=q7 a
  refine qq s (by simp) J<|Qk (ds:=[G f.at_,G f.list_,G f.by_]) f s J J J J J J J J (leb J) J<|qp<|U J<|O (.d (G (w64 (b.1 + 1)))) J<|q9 J<|q8<|qs<|U J<|O (.d (G (w64 (b.2.1 - 1)))) J<|q9 J<|qr<|Q9<|Qa ?_
  exact ⟨_,(Option.some.inj a).symm,wkE [] [] [] J ⟨⟨_,J,Qp (by simp) J (by decide) (ltd J)⟩,⟨_,J,.d (.refl _)⟩,⟨_,J,.d (.refl _)⟩,trivial⟩ ⟨⟨ltd J,.inr ⟨by decide,_,J,.dat _ _⟩⟩,trivial⟩⟩
 refine Q1 ?_
 refine ⟨_,(Option.some.inj a).symm,fun hm=>?_⟩
 subst hm
 obtain rfl:=qc l
 exact ⟨.inl J,_,J,wkA [] [] []⟩
theorem qv7 (q1 : qh→qh→Option Int) (q1F : FuncId) (q1C : List DV) (q1Ok : ∀ (x0 : qh) (x1 : qh) (r : Int),q1 x0 x1 = some r→Pure Tryz.prog tab q1F ([.agg [G x0.at_,G x0.list_,G x0.by_],.agg [G x1.at_,G x1.list_,G x1.by_]] ++ q1C) (G r)) (p0 : List qh) (j : Int) (h : Int) (r : Bool × List qh) (h0 : q5o q1 p0 j h = some r) : Qq Tryz.prog tab 208 [.hs 0 3 0 p0.length,q6 j,q6 h,.d (.fn q1F q1C)] [(0,.dat 3 (p0.map Q2))] 1 (qd r.1) [(0,.dat 3 (r.2.map Q2))] 1:=by
 unfold q5o at h0
 refine Qx Tryz.func208 J (by kernel_rfl) (by kernel_rfl) J<|qb<|q9 J<|qp<|U J<|O (.d (G (w64 (j + 1)))) J<|q9 J<|q8<|qe<|qb<|q9 J<|q8 ?_
 obtain ⟨ap,cb,h0⟩:=q7 h0
 refine Qb (fun al=>.inl al = ap) (fun (al : List qh)=>⟨[],[(0,.dat 3 (al.map Q2))],1⟩) (by simp) ?_ ?_
 ·refine Q7 (q5p h q1 j) (fun (g : Int × Int × List qh)=>⟨[(0,.hs 0 3 0 g.2.2.length),(1,q6 j),(2,q6 h),(3,.d (.fn q1F q1C)),(9,q6 g.1),(10,q6 g.2.1)],[(0,.dat 3 (g.2.2.map Q2))],1⟩) (w64 (j + 1),0,p0) ap cb (wkA [] [] []) ?_
  intro g cn l
  unfold q5p at l
  refine qe<|qb<|U J<|O (.d (.bool (decide (g.2.1 < 5)))) J<|q8 ?_
  refine qk J l (fun _ l=>?_) (fun _ l=>?_)
  ·refine ql<|qe ?_
   obtain ⟨cc,a,l⟩:=q7 l
   refine Qb (fun af=>.inl af = cc) (fun (af : Int × List qh)=>⟨[(0,.hs 0 3 0 af.2.length),(1,q6 j),(2,q6 h),(3,.d (.fn q1F q1C)),(9,q6 af.1),(10,q6 g.2.1)],[(0,.dat 3 (af.2.map Q2))],1⟩) (by simp) ?_ ?_
   ·refine qe ?_
    obtain ⟨aq,cd,a⟩:=q7 a
    refine Qb (fun f=>f = aq) (fun (f : Int)=>⟨[(0,.hs 0 3 0 g.2.2.length),(1,q6 j),(2,q6 h),(3,.d (.fn q1F q1C)),(9,q6 f),(10,q6 g.2.1)],[(0,.dat 3 (g.2.2.map Q2))],1⟩) (by simp) ?_ ?_
    ·refine Q7 (q8d h g q1) (fun (ah : Int)=>⟨[(0,.hs 0 3 0 g.2.2.length),(1,q6 j),(2,q6 h),(3,.d (.fn q1F q1C)),(9,q6 ah),(10,q6 g.2.1)],[(0,.dat 3 (g.2.2.map Q2))],1⟩) g.1 aq cd (wkA [] [] []) ?_
     intro ah co o
     unfold q8d at o
     refine qe<|qe<|Q4 [q0,q0,q0,q0,qo 0,q0,q0,q0,q0,qo 0,q0,q0,q0,q0,q0,q0,q0,q0] (by kernel_rfl)<|U J<|U J<|O (.d (.bool (decide (ah < h)))) J ?_
     obtain ⟨ce,k,o⟩:=q7 o
     refine Q0 15 (fun A st=>∃ (ar au av aw ax ay az ba bb bc bd be bf bg : V),st = A [(36,qd ce),(35,bg),(34,bf),(33,be),(32,bd),(31,bc),(30,bb),(29,ba),(28,az),(27,ay),(26,ax),(25,aw),(24,av),(23,au),(22,ar)]) ?_ ?_
     ·refine qy J J k (fun k=>?_) (fun k=>?_)
      ·refine U J<|U J<|U J ?_
       obtain ⟨t,bh,k⟩:=q7 k
       refine qq bh J J<|qx (.d (.agg [G t.at_,G t.list_,G t.by_])) bh J<|U J<|U J<|O (.d (G (w64 (ah - 1)))) J ?_
       obtain ⟨u,bi,k⟩:=q7 k
       refine qq bi J J<|qx (.d (.agg [G u.at_,G u.list_,G u.by_])) bi J ?_
       obtain ⟨am,cf,k⟩:=q7 k
       refine Kz [.d (.agg [G t.at_,G t.list_,G t.by_]),.d (.agg [G u.at_,G u.list_,G u.by_])] (q1Ok t u am cf) J J J (.inl J)<|O (.d (.bool (decide (am < 0)))) J<|O (.d (.bool (!(decide (am < 0))))) J<|O (.d (.bool (!(decide (am < 0))))) J<|q8 ?_
       obtain rfl:=qc k
       exact ⟨_,_,_,_,_,_,_,_,_,_,_,_,_,_,J⟩
      refine qa J<|qa J<|qa J<|qa J<|qa J<|qa J<|qa J<|qa J<|qa J<|qa J<|qa J<|qa J<|qa J<|O (qd false) J<|q8 ?_
      obtain rfl:=qc k
      exact ⟨_,_,_,_,_,_,_,_,_,_,_,_,_,_,J⟩
     rintro _ ⟨ar,au,av,aw,ax,ay,az,ba,bb,bc,bd,be,bf,bg,rfl⟩
     refine q8 ?_
     refine qk J o (fun _ o=>?_) (fun _ o=>?_)
     ·refine ql<|qu<|qs<|U J<|O (.d (G (w64 (ah + 1)))) J<|q9 J<|qr<|Q9<|Qa ?_
      exact ⟨_,(Option.some.inj o).symm,wkA [] [] []⟩
     refine Q1 ?_
     refine ⟨_,(Option.some.inj o).symm,fun hm=>?_⟩
     subst hm
     exact ⟨_,J,wkA [] [] []⟩
    intro f hb
    subst hb
    refine qe<|qb<|U J<|U J<|O (qd (f == h)) J<|q8 ?_
    refine qk J a (fun _ a=>?_) (fun _ a=>?_)
    ·refine qb<|q9 J<|qn ?_
     obtain rfl:=qc a
     refine ⟨_,(Option.some.inj l).symm,fun hm=>?_⟩
     subst hm
     obtain rfl:=qc h0
     exact ⟨.inr J,_,J,wkA [] [] []⟩
    refine ql<|qe<|qb<|U J<|U J<|O (.d (G (w64 (h - j)))) J<|O (.d (.bool (decide ((w64 (h - j)) < 50)))) J<|q8 ?_
    refine qk J a (fun _ a=>?_) (fun _ a=>?_)
    ·refine qb<|q9 J<|qn ?_
     obtain rfl:=qc a
     refine ⟨_,(Option.some.inj l).symm,fun hm=>?_⟩
     subst hm
     obtain rfl:=qc h0
     exact ⟨.inr J,_,J,wkA [] [] []⟩
    refine ql<|qe<|Q4 [Qd 0,q0,Qd 0,q0,qo 0,q0,q0,q0,qo 0,q0,q0,q0,q0,q0,q0,q0,q0,q0] (by kernel_rfl)<|U J<|U J<|U J<|U J<|O (.d (G (w64 (f - 1)))) J<|U J<|U J<|O (.d (G (w64 (f - 1)))) J ?_
    obtain ⟨p,bj,a⟩:=q7 a
    refine qq bj J J<|qx (.d (.agg [G p.at_,G p.list_,G p.by_])) bj J<|U J<|U J ?_
    obtain ⟨q,bk,a⟩:=q7 a
    refine qq bk J J<|qx (.d (.agg [G q.at_,G q.list_,G q.by_])) bk J ?_
    obtain ⟨cp,bl,a⟩:=q7 a
    refine qq bl J J<|Qk (ds:=[G p.at_,G p.list_,G p.by_]) p bl J J J J J J J J (leb J) J ?_
    obtain ⟨cq,bm,a⟩:=q7 a
    refine qq bm (by simp) J<|Qk (ds:=[G q.at_,G q.list_,G q.by_]) q bm J J J J J J J J (leb J) J<|q8<|qe<|qb<|U J<|U J<|O (.d (G (w64 (f - j)))) J<|O (.d (.bool (decide ((w64 (f - j)) ≥ 2)))) J<|q8 ?_
    obtain ⟨cg,s,a⟩:=q7 a
    refine Y2 (fun ag=>ag = cg) (fun (ag : List qh)=>⟨[(0,.hs 0 3 0 ag.length),(1,q6 j),(2,q6 h),(3,.d (.fn q1F q1C)),(9,q6 f),(10,q6 g.2.1)],[(0,.dat 3 (ag.map Q2))],1⟩) (by simp) ?_ ?_
    ·refine qk J s (fun _ s=>?_) (fun _ s=>?_)
     ·refine qb<|U J<|O (.d (G (w64 (f - 1)))) J<|q9 J<|q8 ?_
      obtain ⟨ch,ci,s⟩:=q7 s
      refine qu<|Q7 (q8e q1) (fun (m : Int × List qh)=>⟨[(0,.hs 0 3 0 m.2.length),(1,q6 j),(2,q6 h),(3,.d (.fn q1F q1C)),(9,q6 f),(10,q6 g.2.1),(11,q6 m.1)],[(0,.dat 3 (m.2.map Q2))],1⟩) (w64 (f - 1),(g.2.2.set f.toNat p).set (w64 (f - 1)).toNat q) ch ci (wkE [] [] [] J ⟨⟨_,J,Qp (by simp) J (by decide) (ltd J)⟩,⟨_,J,.d (.refl _)⟩,⟨_,J,.d (.refl _)⟩,⟨_,J,.d (.refl _)⟩,⟨_,J,.d (.refl _)⟩,⟨_,J,.d (.refl _)⟩,⟨_,J,.d (.refl _)⟩,trivial⟩ ⟨⟨ltd J,.inr ⟨by decide,_,J,.dat _ _⟩⟩,trivial⟩) ?_
      intro m cr b
      unfold q8e at b
      refine qe<|qb<|U J<|O (.d (.bool (decide (m.1 ≥ 1)))) J<|q8 ?_
      refine qk J b (fun _ b=>?_) (fun _ b=>?_)
      ·refine ql<|qe<|qu<|qe<|qe<|Q4 [q0,q0,q0,qo 0,q0,q0,q0,q0,qo 0,q0,q0,q0,q0] (by kernel_rfl)<|U J<|U J<|U J ?_
       obtain ⟨v,bn,b⟩:=q7 b
       refine qq bn J J<|qx (.d (.agg [G v.at_,G v.list_,G v.by_])) bn J<|U J<|U J<|O (.d (G (w64 (m.1 - 1)))) J ?_
       obtain ⟨w,bo,b⟩:=q7 b
       refine qq bo J J<|qx (.d (.agg [G w.at_,G w.list_,G w.by_])) bo J ?_
       obtain ⟨an,cj,b⟩:=q7 b
       refine Kz [.d (.agg [G v.at_,G v.list_,G v.by_]),.d (.agg [G w.at_,G w.list_,G w.by_])] (q1Ok v w an cj) J J J (.inl J)<|O (.d (.bool (decide (an < 0)))) J<|O (.d (.bool (!(decide (an < 0))))) J<|q8 ?_
       refine qk J b (fun _ b=>?_) (fun _ b=>?_)
       ·refine Q1 ?_
        refine ⟨_,(Option.some.inj b).symm,fun hm=>?_⟩
        subst hm
        obtain rfl:=qc s
        exact ⟨_,J,wkA [] [] []⟩
       refine ql<|Q4 [Qd 0,q0,Qd 0,q0,qo 0,q0,q0,q0,qo 0,q0,q0,q0,q0,q0,q0,q0,q0,q0] (by kernel_rfl)<|U J<|U J<|U J<|U J<|O (.d (G (w64 (m.1 - 1)))) J<|U J<|U J<|O (.d (G (w64 (m.1 - 1)))) J ?_
       obtain ⟨x,bp,b⟩:=q7 b
       refine qq bp J J<|qx (.d (.agg [G x.at_,G x.list_,G x.by_])) bp J<|U J<|U J ?_
       obtain ⟨y,bq,b⟩:=q7 b
       refine qq bq J J<|qx (.d (.agg [G y.at_,G y.list_,G y.by_])) bq J ?_
       obtain ⟨cs,br,b⟩:=q7 b
       refine qq br J J<|Qk (ds:=[G x.at_,G x.list_,G x.by_]) x br J J J J J J J J (leb J) J ?_
       obtain ⟨ct,bs,b⟩:=q7 b
       refine qq bs (by simp) J<|Qk (ds:=[G y.at_,G y.list_,G y.by_]) y bs J J J J J J J J (leb J) J<|qr<|Q9<|qs<|U J<|O (.d (G (w64 (m.1 - 1)))) J<|q9 J<|qr ?_
       exact ⟨_,(Option.some.inj b).symm,wkE [] [] [] J ⟨⟨_,J,Qp (by simp) J (by decide) (ltd J)⟩,⟨_,J,.d (.refl _)⟩,⟨_,J,.d (.refl _)⟩,⟨_,J,.d (.refl _)⟩,⟨_,J,.d (.refl _)⟩,⟨_,J,.d (.refl _)⟩,⟨_,J,.d (.refl _)⟩,trivial⟩ ⟨⟨ltd J,.inr ⟨by decide,_,J,.dat _ _⟩⟩,trivial⟩⟩
      refine Q1 ?_
      refine ⟨_,(Option.some.inj b).symm,fun hm=>?_⟩
      subst hm
      obtain rfl:=qc s
      exact ⟨_,J,wkA [] [] []⟩
     refine ql<|Qa ?_
     obtain rfl:=qc s
     exact ⟨_,J,wkE [] [] [] J ⟨⟨_,J,Qp (by simp) J (by decide) (ltd J)⟩,⟨_,J,.d (.refl _)⟩,⟨_,J,.d (.refl _)⟩,⟨_,J,.d (.refl _)⟩,⟨_,J,.d (.refl _)⟩,⟨_,J,.d (.refl _)⟩,trivial⟩ ⟨⟨ltd J,.inr ⟨by decide,_,J,.dat _ _⟩⟩,trivial⟩⟩
    intro ag hb
    subst hb
    refine qb<|U J<|U J<|O (.d (G (w64 (h - f)))) J<|O (.d (.bool (decide ((w64 (h - f)) ≥ 2)))) J<|q8 ?_
    refine qk J a (fun _ a=>?_) (fun _ a=>?_)
    ·refine qb<|U J<|O (.d (G (w64 (f + 1)))) J<|q9 J<|q8 ?_
     obtain ⟨ck,cl,a⟩:=q7 a
     refine qu<|Q7 (q8f h q1 f) (fun (n : Int × List qh)=>⟨[(0,.hs 0 3 0 n.2.length),(1,q6 j),(2,q6 h),(3,.d (.fn q1F q1C)),(9,q6 f),(10,q6 g.2.1),(12,q6 n.1)],[(0,.dat 3 (n.2.map Q2))],1⟩) (w64 (f + 1),ag) ck cl (wkA [] [] []) ?_
     intro n cu c
     unfold q8f at c
     refine qe<|qb<|U J<|U J<|O (.d (.bool (decide (n.1 < h)))) J<|q8 ?_
     refine qk J c (fun _ c=>?_) (fun _ c=>?_)
     ·refine ql<|qe<|qu<|qe<|qe<|Q4 [q0,q0,q0,qo 0,q0,q0,q0,q0,qo 0,q0,q0,q0,q0] (by kernel_rfl)<|U J<|U J<|U J ?_
      obtain ⟨z,bt,c⟩:=q7 c
      refine qq bt J J<|qx (.d (.agg [G z.at_,G z.list_,G z.by_])) bt J<|U J<|U J<|O (.d (G (w64 (n.1 - 1)))) J ?_
      obtain ⟨aa,bu,c⟩:=q7 c
      refine qq bu J J<|qx (.d (.agg [G aa.at_,G aa.list_,G aa.by_])) bu J ?_
      obtain ⟨ao,cm,c⟩:=q7 c
      refine Kz [.d (.agg [G z.at_,G z.list_,G z.by_]),.d (.agg [G aa.at_,G aa.list_,G aa.by_])] (q1Ok z aa ao cm) J J J (.inl J)<|O (.d (.bool (decide (ao < 0)))) J<|O (.d (.bool (!(decide (ao < 0))))) J<|q8 ?_
      refine qk J c (fun _ c=>?_) (fun _ c=>?_)
      ·refine Q1 ?_
       refine ⟨_,(Option.some.inj c).symm,fun hm=>?_⟩
       subst hm
       obtain rfl:=qc a
       exact ⟨_,J,wkA [] [] []⟩
      refine ql<|Q4 [Qd 0,q0,Qd 0,q0,qo 0,q0,q0,q0,qo 0,q0,q0,q0,q0,q0,q0,q0,q0,q0] (by kernel_rfl)<|U J<|U J<|U J<|U J<|O (.d (G (w64 (n.1 - 1)))) J<|U J<|U J<|O (.d (G (w64 (n.1 - 1)))) J ?_
      obtain ⟨ab,bv,c⟩:=q7 c
      refine qq bv J J<|qx (.d (.agg [G ab.at_,G ab.list_,G ab.by_])) bv J<|U J<|U J ?_
      obtain ⟨ac,bw,c⟩:=q7 c
      refine qq bw J J<|qx (.d (.agg [G ac.at_,G ac.list_,G ac.by_])) bw J ?_
      obtain ⟨cv,bz,c⟩:=q7 c
      refine qq bz J J<|Qk (ds:=[G ab.at_,G ab.list_,G ab.by_]) ab bz J J J J J J J J (leb J) J ?_
      obtain ⟨cw,ca,c⟩:=q7 c
      refine qq ca (by simp) J<|Qk (ds:=[G ac.at_,G ac.list_,G ac.by_]) ac ca J J J J J J J J (leb J) J<|qr<|Q9<|qs<|U J<|O (.d (G (w64 (n.1 + 1)))) J<|q9 J<|qr ?_
      exact ⟨_,(Option.some.inj c).symm,wkE [] [] [] J ⟨⟨_,J,Qp (by simp) J (by decide) (ltd J)⟩,⟨_,J,.d (.refl _)⟩,⟨_,J,.d (.refl _)⟩,⟨_,J,.d (.refl _)⟩,⟨_,J,.d (.refl _)⟩,⟨_,J,.d (.refl _)⟩,⟨_,J,.d (.refl _)⟩,trivial⟩ ⟨⟨ltd J,.inr ⟨by decide,_,J,.dat _ _⟩⟩,trivial⟩⟩
     refine Q1 ?_
     refine ⟨_,(Option.some.inj c).symm,fun hm=>?_⟩
     subst hm
     obtain rfl:=qc a
     exact ⟨_,J,wkA [] [] []⟩
    refine ql<|Qa ?_
    obtain rfl:=qc a
    exact ⟨_,J,wkA [] [] []⟩
   intro af hb
   subst hb
   refine qs<|U J<|O (.d (G (w64 (g.2.1 + 1)))) J<|q9 J<|qr ?_
   exact ⟨_,(Option.some.inj l).symm,wkA [] [] []⟩
  refine Q1 ?_
  refine ⟨_,(Option.some.inj l).symm,fun hm=>?_⟩
  subst hm
  exact ⟨_,J,wkA [] [] []⟩
 intro al hb
 subst hb
 refine qb<|q9 J<|qn ?_
 obtain rfl:=qc h0
 exact ⟨.inr J,_,J,wkA [] [] []⟩
theorem qva (w : qh→qh→Option Int) (q1F : FuncId) (q1C : List DV) (q1Ok : ∀ (y : qh) (z : qh) (r : Int),w y z = some r→Pure Tryz.prog tab q1F ([.agg [G y.at_,G y.list_,G y.by_],.agg [G z.at_,G z.list_,G z.by_]] ++ q1C) (G r)) (p0 : List qh) (c : Int) (p2 : Int) (p3 : Int) (r : Int × List qh) (f : q8n w p0 c p2 p3 = some r) : Qq Tryz.prog tab 209 [.hs 0 3 0 p0.length,q6 c,q6 p2,q6 p3,.d (.fn q1F q1C)] [(0,.dat 3 (p0.map Q2))] 1 (q6 r.1) [(0,.dat 3 (r.2.map Q2))] 1:=by
 unfold q8n at f
 refine Qx Tryz.func209 J (by kernel_rfl) (by kernel_rfl) J<|qb<|q9 J<|q8<|qe<|Q4 [Qd 0,q0,Qd 0,q0,qo 0,q0,q0,q0,qo 0,q0,q0,q0,q0,q0,q0,q0] (by kernel_rfl)<|U J<|U J<|U J<|U J<|U J<|U J ?_
 obtain ⟨k,ah,f⟩:=q7 f
 refine qq ah J J<|qx (.d (.agg [G k.at_,G k.list_,G k.by_])) ah J<|U J<|U J ?_
 obtain ⟨l,ai,f⟩:=q7 f
 refine qq ai J J<|qx (.d (.agg [G l.at_,G l.list_,G l.by_])) ai J ?_
 obtain ⟨cg,aj,f⟩:=q7 f
 refine qq aj J J<|Qk (ds:=[G k.at_,G k.list_,G k.by_]) k aj J J J J J J J J (leb J) J ?_
 obtain ⟨ch,ak,f⟩:=q7 f
 refine qq ak (by simp) J<|Qk (ds:=[G l.at_,G l.list_,G l.by_]) l ak J J J J J J J J (leb J) J<|qp<|U J<|O (.d (G (w64 (c + 1)))) J<|U J<|O (.d (G (w64 (p2 - 1)))) J<|q9 J<|q9 J<|q8<|qe ?_
 obtain ⟨al,bz,f⟩:=q7 f
 refine Qb (fun x=>x = al) (fun (x : Int × List qh)=>⟨[(11,q6 x.1)],[(0,.dat 3 (x.2.map Q2))],1⟩) (by simp) ?_ ?_
 ·refine Q7 (q8o c w) (fun (a : Int × Int × List qh)=>⟨[(0,.hs 0 3 0 a.2.2.length),(1,q6 c),(4,.d (.fn q1F q1C)),(11,q6 a.1),(12,q6 a.2.1)],[(0,.dat 3 (a.2.2.map Q2))],1⟩) (w64 (c + 1),w64 (p2 - 1),(p0.set c.toNat k).set p3.toNat l) al bz (wkE [] [] [] J ⟨⟨_,J,Qp (by simp) J (by decide) (ltd J)⟩,⟨_,J,.d (.refl _)⟩,⟨_,J,.d (.refl _)⟩,⟨_,J,.d (.refl _)⟩,⟨_,J,.d (.refl _)⟩,trivial⟩ ⟨⟨ltd J,.inr ⟨by decide,_,J,.dat _ _⟩⟩,trivial⟩) ?_
  intro a ci b
  unfold q8o at b
  refine qu<|qe ?_
  obtain ⟨am,ca,b⟩:=q7 b
  refine Qb (fun j=>j = am) (fun (j : Int)=>⟨[(0,.hs 0 3 0 a.2.2.length),(1,q6 c),(4,.d (.fn q1F q1C)),(11,q6 j),(12,q6 a.2.1)],[(0,.dat 3 (a.2.2.map Q2))],1⟩) (by simp) ?_ ?_
  ·refine Q7 (q8p a c w) (fun (ac : Int)=>⟨[(0,.hs 0 3 0 a.2.2.length),(1,q6 c),(4,.d (.fn q1F q1C)),(11,q6 ac),(12,q6 a.2.1)],[(0,.dat 3 (a.2.2.map Q2))],1⟩) a.1 am ca (wkA [] [] []) ?_
   intro ac cj m
   unfold q8p at m
   refine qe<|qe<|Q4 [q0,q0,q0,q0,qo 0,q0,q0,q0,qo 0,q0,q0,q0,q0,q0,q0,q0,q0] (by kernel_rfl)<|U J<|U J<|O (.d (.bool (decide (ac≤a.2.1)))) J ?_
   obtain ⟨cb,g,m⟩:=q7 m
   refine Q0 14 (fun A st=>∃ (an ao ap aq ar au av aw ax ay az ba bb : V),st = A [(47,qd cb),(46,bb),(45,ba),(44,az),(43,ay),(42,ax),(41,aw),(40,av),(39,au),(38,ar),(37,aq),(36,ap),(35,ao),(34,an)]) ?_ ?_
   ·refine qy J J g (fun g=>?_) (fun g=>?_)
    ·refine U J<|U J<|U J ?_
     obtain ⟨o,bc,g⟩:=q7 g
     refine qq bc J J<|qx (.d (.agg [G o.at_,G o.list_,G o.by_])) bc J<|U J<|U J ?_
     obtain ⟨p,bd,g⟩:=q7 g
     refine qq bd J J<|qx (.d (.agg [G p.at_,G p.list_,G p.by_])) bd J ?_
     obtain ⟨ad,cc,g⟩:=q7 g
     refine Kz [.d (.agg [G o.at_,G o.list_,G o.by_]),.d (.agg [G p.at_,G p.list_,G p.by_])] (q1Ok o p ad cc) J J J (.inl J)<|O (.d (.bool (decide (ad < 0)))) J<|O (.d (.bool (!(decide (ad < 0))))) J<|O (.d (.bool (!(decide (ad < 0))))) J<|q8 ?_
     obtain rfl:=qc g
     exact ⟨_,_,_,_,_,_,_,_,_,_,_,_,_,J⟩
    refine qa J<|qa J<|qa J<|qa J<|qa J<|qa J<|qa J<|qa J<|qa J<|qa J<|qa J<|qa J<|O (qd false) J<|q8 ?_
    obtain rfl:=qc g
    exact ⟨_,_,_,_,_,_,_,_,_,_,_,_,_,J⟩
   rintro _ ⟨an,ao,ap,aq,ar,au,av,aw,ax,ay,az,ba,bb,rfl⟩
   refine q8 ?_
   refine qk J m (fun _ m=>?_) (fun _ m=>?_)
   ·refine ql<|qu<|qs<|U J<|O (.d (G (w64 (ac + 1)))) J<|q9 J<|qr<|Q9<|Qa ?_
    exact ⟨_,(Option.some.inj m).symm,wkA [] [] []⟩
   refine Q1 ?_
   refine ⟨_,(Option.some.inj m).symm,fun hm=>?_⟩
   subst hm
   exact ⟨_,J,wkA [] [] []⟩
  intro j hb
  subst hb
  refine qe ?_
  obtain ⟨be,cd,b⟩:=q7 b
  refine Qb (fun v=>v = be) (fun (v : Int)=>⟨[(0,.hs 0 3 0 a.2.2.length),(1,q6 c),(4,.d (.fn q1F q1C)),(11,q6 j),(12,q6 v)],[(0,.dat 3 (a.2.2.map Q2))],1⟩) (by simp) ?_ ?_
  ·refine Q7 (q8q j a c w) (fun (ae : Int)=>⟨[(0,.hs 0 3 0 a.2.2.length),(1,q6 c),(4,.d (.fn q1F q1C)),(11,q6 j),(12,q6 ae)],[(0,.dat 3 (a.2.2.map Q2))],1⟩) a.2.1 be cd (wkA [] [] []) ?_
   intro ae ck n
   unfold q8q at n
   refine qe<|qe<|Q4 [q0,q0,q0,qo 0,q0,q0,q0,qo 0,q0,q0,q0,q0,q0,q0,q0,q0] (by kernel_rfl)<|U J<|U J<|O (.d (.bool (decide (j≤ae)))) J ?_
   obtain ⟨ce,h,n⟩:=q7 n
   refine Q0 13 (fun A st=>∃ (bf bg bh bi bj bk bl bm bn bo bp bq : V),st = A [(65,qd ce),(64,bq),(63,bp),(62,bo),(61,bn),(60,bm),(59,bl),(58,bk),(57,bj),(56,bi),(55,bh),(54,bg),(53,bf)]) ?_ ?_
   ·refine qy J J h (fun h=>?_) (fun h=>?_)
    ·refine U J<|U J<|U J ?_
     obtain ⟨q,br,h⟩:=q7 h
     refine qq br J J<|qx (.d (.agg [G q.at_,G q.list_,G q.by_])) br J<|U J<|U J ?_
     obtain ⟨s,bs,h⟩:=q7 h
     refine qq bs J J<|qx (.d (.agg [G s.at_,G s.list_,G s.by_])) bs J ?_
     obtain ⟨ag,cf,h⟩:=q7 h
     refine Kz [.d (.agg [G q.at_,G q.list_,G q.by_]),.d (.agg [G s.at_,G s.list_,G s.by_])] (q1Ok q s ag cf) J J J (.inl J)<|O (.d (.bool (decide (ag < 0)))) J<|O (.d (.bool (decide (ag < 0)))) J<|q8 ?_
     obtain rfl:=qc h
     exact ⟨_,_,_,_,_,_,_,_,_,_,_,_,J⟩
    refine qa J<|qa J<|qa J<|qa J<|qa J<|qa J<|qa J<|qa J<|qa J<|qa J<|qa J<|O (qd false) J<|q8 ?_
    obtain rfl:=qc h
    exact ⟨_,_,_,_,_,_,_,_,_,_,_,_,J⟩
   rintro _ ⟨bf,bg,bh,bi,bj,bk,bl,bm,bn,bo,bp,bq,rfl⟩
   refine q8 ?_
   refine qk J n (fun _ n=>?_) (fun _ n=>?_)
   ·refine ql<|qu<|qs<|U J<|O (.d (G (w64 (ae - 1)))) J<|q9 J<|qr<|Q9<|Qa ?_
    exact ⟨_,(Option.some.inj n).symm,wkA [] [] []⟩
   refine Q1 ?_
   refine ⟨_,(Option.some.inj n).symm,fun hm=>?_⟩
   subst hm
   exact ⟨_,J,wkA [] [] []⟩
  intro v hb
  subst hb
  refine qe<|qb<|U J<|U J<|O (.d (.bool (decide (j > v)))) J<|q8 ?_
  refine qk J b (fun _ b=>?_) (fun _ b=>?_)
  ·refine Q1 ?_
   refine ⟨_,(Option.some.inj b).symm,fun hm=>?_⟩
   subst hm
   exact ⟨_,J,wkA [] [] []⟩
  refine ql<|qe<|Q4 [Qd 0,q0,Qd 0,q0,qo 0,q0,q0,q0,qo 0,q0,q0,q0,q0,q0,q0,q0] (by kernel_rfl)<|U J<|U J<|U J<|U J<|U J<|U J ?_
  obtain ⟨t,bt,b⟩:=q7 b
  refine qq bt J J<|qx (.d (.agg [G t.at_,G t.list_,G t.by_])) bt J<|U J<|U J ?_
  obtain ⟨u,bu,b⟩:=q7 b
  refine qq bu J J<|qx (.d (.agg [G u.at_,G u.list_,G u.by_])) bu J ?_
  obtain ⟨cl,bv,b⟩:=q7 b
  refine qq bv J J<|Qk (ds:=[G t.at_,G t.list_,G t.by_]) t bv J J J J J J J J (leb J) J ?_
  obtain ⟨cm,bw,b⟩:=q7 b
  refine qq bw (by simp) J<|Qk (ds:=[G u.at_,G u.list_,G u.by_]) u bw J J J J J J J J (leb J) J<|qp<|U J<|O (.d (G (w64 (j + 1)))) J<|q9 J<|q8<|qs<|U J<|O (.d (G (w64 (v - 1)))) J<|q9 J<|qr<|Q9<|Qa ?_
  exact ⟨_,(Option.some.inj b).symm,wkE [] [] [] J ⟨⟨_,J,Qp (by simp) J (by decide) (ltd J)⟩,⟨_,J,.d (.refl _)⟩,⟨_,J,.d (.refl _)⟩,⟨_,J,.d (.refl _)⟩,⟨_,J,.d (.refl _)⟩,trivial⟩ ⟨⟨ltd J,.inr ⟨by decide,_,J,.dat _ _⟩⟩,trivial⟩⟩
 intro x hb
 subst hb
 refine qb<|U J<|q9 J<|qn ?_
 obtain rfl:=qc f
 exact ⟨.inr J,_,J,wkA [] [] []⟩
end Go.Proofs.YtlchefooafpdlaaGreat
