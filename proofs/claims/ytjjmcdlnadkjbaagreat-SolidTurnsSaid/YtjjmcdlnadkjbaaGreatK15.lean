/- W_Alla -/
import Derived.Test.YtjjmcdlnadkjbaaGreatK14
namespace Go.Proofs.YtjjmcdlnadkjbaaGreat
open Go Go.Am Go.Sh
set_option maxHeartbeats 8000000
set_option maxRecDepth 100000
theorem qur (f : List qg) (j : qg→Option Bool) (p1F : FuncId) (p1C : List DV) (p1Ok : ∀ (c : qg) (r : Bool),j c = some r→Pure Tryz.prog tab p1F ([.agg [G c.Lo.X,G c.Lo.Y,G c.Lo.Z,G c.Hi.X,G c.Hi.Y,G c.Hi.Z]] ++ p1C) (.bool r)) (r : Int) (g : qb4 f j = some r) : Pure Tryz.prog tab 80 [.sl 6 (f.map qy),.fn p1F p1C] (G r):=by
 unfold qb4 at g
 refine Qb Tryz.func80 J (by kernel_rfl) (by kernel_rfl) J<|qb<|q9 J<|q8<|qf<|qb<|U J<|Qn J<|U J<|q8 ?_
 obtain ⟨l,m,g⟩:=q7 g
 refine Qh (fun k=>.inl k = l) (fun (k : Unit)=>⟨[],[],0⟩) (by simp) ?_ ?_
 ·refine Q7 (q3b f j) (fun (h : Int)=>⟨[(0,.d (.sl 6 (f.map qy))),(1,.d (.fn p1F p1C)),(7,q6 (f.length : Int)),(8,q6 h)],[],0⟩) 0 l m (wkA [] [] []) ?_
  intro h q a
  unfold q3b at a
  refine qb<|O (.d (.bool (decide (h < (f.length : Int))))) J<|q8<|qf ?_
  refine qm J a (fun _ a=>?_) (fun _ a=>?_)
  ·refine qn<|qf<|Q1<|qb<|U J<|q9 J<|qp<|U J<|U J<|U J ?_
   obtain ⟨b,n,a⟩:=q7 a
   refine Q9 (enc:=qy) n J<|O (.d (.agg [G b.Lo.X,G b.Lo.Y,G b.Lo.Z,G b.Hi.X,G b.Hi.Y,G b.Hi.Z])) J ?_
   obtain ⟨o,p,a⟩:=q7 a
   refine Ye [.d (.agg [G b.Lo.X,G b.Lo.Y,G b.Lo.Z,G b.Hi.X,G b.Hi.Y,G b.Hi.Z])] (p1Ok b o p) J J J (.inl J)<|q8 ?_
   refine qm J a (fun _ a=>?_) (fun _ a=>?_)
   ·refine qb<|U J<|q9 J<|qr ?_
    refine ⟨_,(Option.some.inj a).symm,fun hm=>?_⟩
    subst hm
    obtain rfl:=qd g
    exact qz (q6 h) J
   refine qn<|Qa<|Qc<|qw<|O (.d (G (w64 (h + 1)))) J<|U J<|qs ?_
   exact ⟨_,(Option.some.inj a).symm,wkA [] [] []⟩
  refine Q6 ?_
  refine ⟨_,(Option.some.inj a).symm,fun hm=>?_⟩
  subst hm
  exact ⟨_,J,wkA [] [] []⟩
 intro k hb
 subst hb
 refine qb<|q9 J<|qr ?_
 obtain rfl:=qd g
 exact qz (q6 (-1)) J
theorem quk (c : List qg) (f : qg→Option Bool) (p1F : FuncId) (p1C : List DV) (p1Ok : ∀ (a : qg) (r : Bool),f a = some r→Pure Tryz.prog tab p1F ([.agg [G a.Lo.X,G a.Lo.Y,G a.Lo.Z,G a.Hi.X,G a.Hi.Y,G a.Hi.Z]] ++ p1C) (.bool r)) (r : Bool) (b : q82 c f = some r) : Pure Tryz.prog tab 50 [.sl 6 (c.map qy),.fn p1F p1C] (.bool r):=by
 unfold q82 at b
 refine Qb Tryz.func50 J (by kernel_rfl) (by kernel_rfl) J<|qb<|q9 J<|qp<|U J<|U J ?_
 obtain ⟨g,h,b⟩:=q7 b
 refine qt (qur c f p1F p1C p1Ok g h) J<|O (.d (.bool (decide (g ≥ 0)))) J<|q9 J<|qr ?_
 obtain rfl:=qd b
 exact qz (.d (.bool (decide (g ≥ 0)))) J
theorem qki (a : qj) (r : Bool) (c : q6h a = some r) : Pure Tryz.prog tab 81 [.agg [G a.X,G a.Y,G a.Z]] (.bool r):=by
 unfold q6h at c
 refine Qb Tryz.func81 J (by kernel_rfl) (by kernel_rfl) J<|qb<|Qg (.ref 0 3 0 0) (.dat 3 [[G a.X,G a.Y,G a.Z]]) J<|q9 J<|qp<|O (.ref 0 3 0 0) J<|O (q6 a.X) J<|O (.ref 0 3 0 1) J<|O (q6 a.Y) J<|O (.ref 0 3 0 2) J<|O (q6 a.Z) J<|Ji (r:=min (min a.X a.Y) a.Z) J J (by simp only [Jg];rfl)<|O (.d (.bool (decide ((min (min a.X a.Y) a.Z) ≥ (-1000000))))) J ?_
 obtain ⟨f,b,c⟩:=q7 c
 refine Q3 10 (fun A st=>∃ (g h j k l m n o p : V),st = A [(20,qe f),(19,p),(18,o),(17,n),(16,m),(15,l),(14,k),(13,j),(12,h),(11,g)]) ?_ ?_
 ·refine Q2 J J b (fun b=>?_) (fun b=>?_)
  ·refine O (.ref 0 3 0 0) J<|O (q6 a.X) J<|O (.ref 0 3 0 1) J<|O (q6 a.Y) J<|O (.ref 0 3 0 2) J<|O (q6 a.Z) J<|Jh (r:=max (max a.X a.Y) a.Z) J J (by simp only [Jf];rfl)<|O (.d (.bool (decide ((max (max a.X a.Y) a.Z)≤1000000)))) J<|O (.d (.bool (decide ((max (max a.X a.Y) a.Z)≤1000000)))) J<|q8 ?_
   obtain rfl:=qd b
   exact ⟨_,_,_,_,_,_,_,_,_,J⟩
  refine qa J<|qa J<|qa J<|qa J<|qa J<|qa J<|qa J<|qa J<|O (qe false) J<|q8 ?_
  obtain rfl:=qd b
  exact ⟨_,_,_,_,_,_,_,_,_,J⟩
 rintro _ ⟨g,h,j,k,l,m,n,o,p,rfl⟩
 refine q9 J<|qr ?_
 obtain rfl:=qd c
 exact qz (qe f) J
theorem qkl (a : qg) (r : Bool) (b : q6j a = some r) : Pure Tryz.prog tab 52 [.agg [G a.Lo.X,G a.Lo.Y,G a.Lo.Z,G a.Hi.X,G a.Hi.Y,G a.Hi.Z]] (.bool r):=by
 unfold q6j at b
 refine Qb Tryz.func52 J (by kernel_rfl) (by kernel_rfl) J<|qb<|Qg (.ref 0 6 0 0) (.dat 6 [[G a.Lo.X,G a.Lo.Y,G a.Lo.Z,G a.Hi.X,G a.Hi.Y,G a.Hi.Z]]) J<|q9 J<|qp<|O (.ref 0 6 0 0) J<|O (.ref 0 6 0 0) J<|O (q6 a.Lo.X) J<|O (.ref 0 6 0 3) J<|O (.ref 0 6 0 3) J<|O (q6 a.Hi.X) J<|O (.d (.bool (decide (a.Lo.X < a.Hi.X)))) J ?_
 obtain ⟨c1,g,b⟩:=q7 b
 refine Q3 9 (fun A st=>∃ (j k l m n o p q : V),st = A [(18,qe c1),(17,q),(16,p),(15,o),(14,n),(13,m),(12,l),(11,k),(10,j)]) ?_ ?_
 ·refine Q2 J J g (fun g=>?_) (fun g=>?_)
  ·refine O (.ref 0 6 0 0) J<|O (.ref 0 6 0 1) J<|O (q6 a.Lo.Y) J<|O (.ref 0 6 0 3) J<|O (.ref 0 6 0 4) J<|O (q6 a.Hi.Y) J<|O (.d (.bool (decide (a.Lo.Y < a.Hi.Y)))) J<|O (.d (.bool (decide (a.Lo.Y < a.Hi.Y)))) J<|q8 ?_
   obtain rfl:=qd g
   exact ⟨_,_,_,_,_,_,_,_,J⟩
  refine qa J<|qa J<|qa J<|qa J<|qa J<|qa J<|qa J<|O (qe false) J<|q8 ?_
  obtain rfl:=qd g
  exact ⟨_,_,_,_,_,_,_,_,J⟩
 rintro _ ⟨j,k,l,m,n,o,p,q,rfl⟩
 obtain ⟨am,h,b⟩:=q7 b
 refine Q3 9 (fun A st=>∃ (s t u v w x y z : V),st = A [(27,qe am),(26,z),(25,y),(24,x),(23,w),(22,v),(21,u),(20,t),(19,s)]) ?_ ?_
 ·refine Q2 J J h (fun h=>?_) (fun h=>?_)
  ·refine O (.ref 0 6 0 0) J<|O (.ref 0 6 0 2) J<|O (q6 a.Lo.Z) J<|O (.ref 0 6 0 3) J<|O (.ref 0 6 0 5) J<|O (q6 a.Hi.Z) J<|O (.d (.bool (decide (a.Lo.Z < a.Hi.Z)))) J<|O (.d (.bool (decide (a.Lo.Z < a.Hi.Z)))) J<|q8 ?_
   obtain rfl:=qd h
   exact ⟨_,_,_,_,_,_,_,_,J⟩
  refine qa J<|qa J<|qa J<|qa J<|qa J<|qa J<|qa J<|O (qe false) J<|q8 ?_
  obtain rfl:=qd h
  exact ⟨_,_,_,_,_,_,_,_,J⟩
 rintro _ ⟨s,t,u,v,w,x,y,z,rfl⟩
 obtain ⟨an,c,b⟩:=q7 b
 refine Q3 5 (fun A st=>∃ (aa ab ac ad : V),st = A [(32,qe an),(31,ad),(30,ac),(29,ab),(28,aa)]) ?_ ?_
 ·refine Q2 J J c (fun c=>?_) (fun c=>?_)
  ·refine O (.ref 0 6 0 0) J<|O (.d (.agg [G a.Lo.X,G a.Lo.Y,G a.Lo.Z])) J ?_
   obtain ⟨ae,ao,c⟩:=q7 c
   refine qt (qki a.Lo ae ao) J<|O (qe ae) J<|q8 ?_
   obtain rfl:=qd c
   exact ⟨_,_,_,_,J⟩
  refine qa J<|qa J<|qa J<|O (qe false) J<|q8 ?_
  obtain rfl:=qd c
  exact ⟨_,_,_,_,J⟩
 rintro _ ⟨aa,ab,ac,ad,rfl⟩
 obtain ⟨af,f,b⟩:=q7 b
 refine Q3 5 (fun A st=>∃ (ag ah ai aj : V),st = A [(37,qe af),(36,aj),(35,ai),(34,ah),(33,ag)]) ?_ ?_
 ·refine Q2 J J f (fun f=>?_) (fun f=>?_)
  ·refine O (.ref 0 6 0 3) J<|O (.d (.agg [G a.Hi.X,G a.Hi.Y,G a.Hi.Z])) J ?_
   obtain ⟨ak,ap,f⟩:=q7 f
   refine qt (qki a.Hi ak ap) J<|O (qe ak) J<|q8 ?_
   obtain rfl:=qd f
   exact ⟨_,_,_,_,J⟩
  refine qa J<|qa J<|qa J<|O (qe false) J<|q8 ?_
  obtain rfl:=qd f
  exact ⟨_,_,_,_,J⟩
 rintro _ ⟨ag,ah,ai,aj,rfl⟩
 refine q9 J<|qr ?_
 obtain rfl:=qd b
 exact qz (qe af) J
theorem qxl (a : qg) (r : Bool) (b : q24 a = some r) : Pure Tryz.prog tab 51 [.agg [G a.Lo.X,G a.Lo.Y,G a.Lo.Z,G a.Hi.X,G a.Hi.Y,G a.Hi.Z]] (.bool r):=by
 unfold q24 at b
 refine Qb Tryz.func51 J (by kernel_rfl) (by kernel_rfl) J<|qb<|Qg (.ref 0 6 0 0) (.dat 6 [[G a.Lo.X,G a.Lo.Y,G a.Lo.Z,G a.Hi.X,G a.Hi.Y,G a.Hi.Z]]) J<|q9 J<|qp<|O (.d (.agg [G a.Lo.X,G a.Lo.Y,G a.Lo.Z,G a.Hi.X,G a.Hi.Y,G a.Hi.Z])) J ?_
 obtain ⟨c,f,b⟩:=q7 b
 refine qt (qkl a c f) J<|O (qe (!c)) J<|q9 J<|qr ?_
 obtain rfl:=qd b
 exact qz (qe (!c)) J
theorem qpz (k : Int) (r : Int) (a : q1n k = some r) : Pure Tryz.prog tab 154 [.int .u64 k] (G r):=by
 unfold q1n at a
 refine Qb Tryz.func154 J (by kernel_rfl) (by kernel_rfl) J<|qb<|q9 J<|q8<|qf<|qb<|U J<|O (.d (.bool (decide (k ≥ 4294967296)))) J<|q8 ?_
 obtain ⟨m,g,a⟩:=q7 a
 refine Y3 (fun b=>b = m) (fun (b : Int × Int)=>⟨[(0,.d (.int .u64 b.1)),(2,q6 b.2)],[],0⟩) (by simp) ?_ ?_
 ·refine qm J g (fun _ g=>?_) (fun _ g=>?_)
  ·refine qb<|U J<|O (.d (.int .u64 (Int.fdiv k (2 ^ 32)))) J<|q9 J<|q8<|qw<|q9 J<|qs ?_
   obtain rfl:=qd g
   exact ⟨_,J,wkA [] [] []⟩
  refine qn<|Qa ?_
  obtain rfl:=qd g
  exact ⟨_,J,wkA [] [] []⟩
 intro b hb
 subst hb
 refine qf<|qb<|U J<|O (.d (.bool (decide (b.1 ≥ 65536)))) J<|q8 ?_
 obtain ⟨n,h,a⟩:=q7 a
 refine Y3 (fun c=>c = n) (fun (c : Int × Int)=>⟨[(0,.d (.int .u64 c.1)),(2,q6 c.2)],[],0⟩) (by simp) ?_ ?_
 ·refine qm J h (fun _ h=>?_) (fun _ h=>?_)
  ·refine qb<|U J<|O (.d (.int .u64 (Int.fdiv b.1 (2 ^ 16)))) J<|q9 J<|q8<|qw<|U J<|O (.d (G (w64 (b.2 + 16)))) J<|q9 J<|qs ?_
   obtain rfl:=qd h
   exact ⟨_,J,wkA [] [] []⟩
  refine qn<|Qa ?_
  obtain rfl:=qd h
  exact ⟨_,J,wkA [] [] []⟩
 intro c hb
 subst hb
 refine qf<|qb<|U J<|O (.d (.bool (decide (c.1 ≥ 256)))) J<|q8 ?_
 obtain ⟨o,j,a⟩:=q7 a
 refine Y3 (fun f=>f = o) (fun (f : Int × Int)=>⟨[(0,.d (.int .u64 f.1)),(2,q6 f.2)],[],0⟩) (by simp) ?_ ?_
 ·refine qm J j (fun _ j=>?_) (fun _ j=>?_)
  ·refine qb<|U J<|O (.d (.int .u64 (Int.fdiv c.1 (2 ^ 8)))) J<|q9 J<|q8<|qw<|U J<|O (.d (G (w64 (c.2 + 8)))) J<|q9 J<|qs ?_
   obtain rfl:=qd j
   exact ⟨_,J,wkA [] [] []⟩
  refine qn<|Qa ?_
  obtain rfl:=qd j
  exact ⟨_,J,wkA [] [] []⟩
 intro f hb
 subst hb
 refine qb<|U J<|U J<|O (.d (.int .u8 (IntKind.wrap .u8 f.1))) J ?_
 obtain ⟨l,p,a⟩:=q7 a
 refine qqj qbb p J J J J J<|O (q6 (w64 l)) J<|O (.d (G (w64 (f.2 + (w64 l))))) J<|q9 J<|qr ?_
 obtain rfl:=qd a
 exact qz (.d (G (w64 (f.2 + (w64 l))))) J
theorem qd4 (b : Int) (r : Int) (a : U1 b = some r) : Pure Tryz.prog tab 133 [.int .u64 b] (G r):=by
 unfold U1 at a
 refine Qb Tryz.func133 J (by kernel_rfl) (by kernel_rfl) J<|qb<|q9 J<|q8<|qf<|U7 J<|qn<|qb<|U J ?_
 obtain ⟨c,d,a⟩:=q7 a
 refine qt (qpz b c d) J<|q9 J<|qr ?_
 obtain rfl:=qd a
 exact qz (q6 c) J
theorem qfu (a : Int) (r : Bool) (b : q6r a = some r) : Pure Tryz.prog tab 163 [G a] (.bool r):=by
 unfold q6r at b
 refine Qb Tryz.func163 J (by kernel_rfl) (by kernel_rfl) J<|qb<|q9 J<|qp<|U J<|U J<|O (qe (a != a)) J<|q9 J<|qr ?_
 obtain rfl:=qd b
 exact qz (qe (a != a)) J
theorem Yv (c : Int) (f : Int) (r : Bool) (a : Yh c f = some r) : Pure Tryz.prog tab 150 [G c,G f] (.bool r):=by
 unfold Yh at a
 refine Qb Tryz.func150 J (by kernel_rfl) (by kernel_rfl) J<|qb<|q9 J<|qp<|U J ?_
 obtain ⟨t,u,a⟩:=q7 a
 refine qt (qfu c t u) J ?_
 obtain ⟨v,b,a⟩:=q7 a
 refine Q3 5 (fun A st=>∃ (j k l m : V),st = A [(11,qe v),(10,m),(9,l),(8,k),(7,j)]) ?_ ?_
 ·refine Q2 J J b (fun b=>?_) (fun b=>?_)
  ·refine U J ?_
   obtain ⟨h,w,b⟩:=q7 b
   refine qt (qfu f h w) J<|O (qe (!h)) J<|O (qe (!h)) J<|q8 ?_
   obtain rfl:=qd b
   exact ⟨_,_,_,_,J⟩
  refine qa J<|qa J<|qa J<|O (qe false) J<|q8 ?_
  obtain rfl:=qd b
  exact ⟨_,_,_,_,J⟩
 rintro _ ⟨j,k,l,m,rfl⟩
 obtain ⟨n,g,a⟩:=q7 a
 refine Q3 5 (fun A st=>∃ (o p q s : V),st = A [(16,qe n),(15,s),(14,q),(13,p),(12,o)]) ?_ ?_
 ·refine Q2 J J g (fun g=>?_) (fun g=>?_)
  ·refine qa J<|qa J<|qa J<|O (qe true) J<|q8 ?_
   obtain rfl:=qd g
   exact ⟨_,_,_,_,J⟩
  refine U J<|U J<|O (.d (.bool (decide (c < f)))) J<|O (.d (.bool (decide (c < f)))) J<|q8 ?_
  obtain rfl:=qd g
  exact ⟨_,_,_,_,J⟩
 rintro _ ⟨o,p,q,s,rfl⟩
 refine q9 J<|qr ?_
 obtain rfl:=qd a
 exact qz (qe n) J
theorem qv4 (l : List Int) (c : Int) (j : Int) (r : List Int) (m : q5n  l c j = some r) : Qt Tryz.prog tab 144 [.hs 0 1 0 l.length,q6 c,q6 j] [(0,.dat 1 (l.map (eI .i64)))] 1 (.d (.tup [])) [(0,.dat 1 (r.map (eI .i64)))] 1:=by
 unfold q5n at m
 refine K3 Tryz.func144 J (by kernel_rfl) (by kernel_rfl) J<|qb<|U J<|O (.d (G (w64 (c + 1)))) J<|q9 J<|q8 ?_
 obtain ⟨al,am,m⟩:=q7 m
 refine Q1<|Q7 (q5o j c) (fun (f : Int × List Int)=>⟨[(0,.hs 0 1 0 f.2.length),(1,q6 c),(2,q6 j),(6,q6 f.1)],[(0,.dat 1 (f.2.map (eI .i64)))],1⟩) (w64 (c + 1),l) al am (wkA [] [] []) ?_
 intro f au h
 unfold q5o at h
 refine qf<|qb<|U J<|U J<|O (.d (.bool (decide (f.1 < j)))) J<|q8 ?_
 refine qm J h (fun _ h=>?_) (fun _ h=>?_)
 ·refine qn<|qf ?_
  obtain ⟨an,n,h⟩:=q7 h
  refine Qh (fun k=>k = an) (fun (k : List Int)=>⟨[(0,.hs 0 1 0 k.length),(1,q6 c),(2,q6 j),(6,q6 f.1)],[(0,.dat 1 (k.map (eI .i64)))],1⟩) (by simp) ?_ ?_
  ·refine qb<|U J<|q9 J<|q8 ?_
   obtain ⟨ao,ap,n⟩:=q7 n
   refine Q1<|Q7 (q5p c) (fun (g : Int × List Int)=>⟨[(0,.hs 0 1 0 g.2.length),(1,q6 c),(2,q6 j),(6,q6 f.1),(7,q6 g.1)],[(0,.dat 1 (g.2.map (eI .i64)))],1⟩) (f.1,f.2) ao ap (wkA [] [] []) ?_
   intro g av a
   unfold q5p at a
   refine qf<|qf<|Q5 [q0,q0,qo 0,q0,q0,q0,q0,qo 0,q0,q0,q0,q0,q0,q0,q0] (by kernel_rfl)<|U J<|U J<|O (.d (.bool (decide (g.1 > c)))) J ?_
   obtain ⟨aq,b,a⟩:=q7 a
   refine Q3 12 (fun A st=>∃ (q s t u v w x y z aa ab : V),st = A [(30,qe aq),(29,ab),(28,aa),(27,z),(26,y),(25,x),(24,w),(23,v),(22,u),(21,t),(20,s),(19,q)]) ?_ ?_
   ·refine Q2 J J b (fun b=>?_) (fun b=>?_)
    ·refine U J<|U J ?_
     obtain ⟨ac,ad,b⟩:=q7 b
     refine qq ad J J<|Q0 (q6 ac) ad J<|U J<|U J<|O (.d (G (w64 (g.1 - 1)))) J ?_
     obtain ⟨ae,af,b⟩:=q7 b
     refine qq af J J<|Q0 (q6 ae) af J ?_
     obtain ⟨ag,ar,b⟩:=q7 b
     refine qt (Yv ac ae ag ar) J<|O (qe ag) J<|q8 ?_
     obtain rfl:=qd b
     exact ⟨_,_,_,_,_,_,_,_,_,_,_,J⟩
    refine qa J<|qa J<|qa J<|qa J<|qa J<|qa J<|qa J<|qa J<|qa J<|qa J<|O (qe false) J<|q8 ?_
    obtain rfl:=qd b
    exact ⟨_,_,_,_,_,_,_,_,_,_,_,J⟩
   rintro _ ⟨q,s,t,u,v,w,x,y,z,aa,ab,rfl⟩
   refine q8 ?_
   refine qm J a (fun _ a=>?_) (fun _ a=>?_)
   ·refine qn<|qf<|Q1<|Q5 [Qd 0,q0,Qd 0,q0,qo 0,q0,q0,q0,qo 0,q0,q0,q0,q0,q0,q0,q0,q0,q0] (by kernel_rfl)<|U J<|U J<|U J<|U J<|O (.d (G (w64 (g.1 - 1)))) J<|U J<|U J<|O (.d (G (w64 (g.1 - 1)))) J ?_
    obtain ⟨o,ah,a⟩:=q7 a
    refine qq ah J J<|Q0 (q6 o) ah J<|U J<|U J ?_
    obtain ⟨p,ai,a⟩:=q7 a
    refine qq ai J J<|Q0 (q6 p) ai J ?_
    obtain ⟨aw,aj,a⟩:=q7 a
    refine qq aj J J<|Qk (ds:=[G o]) o aj J J J J J J J J (leb J) J ?_
    obtain ⟨ax,ak,a⟩:=q7 a
    refine qq ak (by simp) J<|Qk (ds:=[G p]) p ak J J J J J J J J (leb J) J<|qs<|Qc<|qw<|U J<|O (.d (G (w64 (g.1 - 1)))) J<|q9 J<|qs ?_
    exact ⟨_,(Option.some.inj a).symm,wkE [] [] [] J ⟨⟨_,J,Qp (by simp) J (by decide) (ltd J)⟩,⟨_,J,.d (.refl _)⟩,⟨_,J,.d (.refl _)⟩,⟨_,J,.d (.refl _)⟩,⟨_,J,.d (.refl _)⟩,trivial⟩ ⟨⟨ltd J,.inr ⟨by decide,_,J,.dat _ _⟩⟩,trivial⟩⟩
   refine Q6 ?_
   refine ⟨_,(Option.some.inj a).symm,fun hm=>?_⟩
   subst hm
   obtain rfl:=qd n
   exact ⟨_,J,wkA [] [] []⟩
  intro k hb
  subst hb
  refine qw<|U J<|O (.d (G (w64 (f.1 + 1)))) J<|q9 J<|qs ?_
  exact ⟨_,(Option.some.inj h).symm,wkA [] [] []⟩
 refine Q6 ?_
 refine ⟨_,(Option.some.inj h).symm,fun hm=>?_⟩
 subst hm
 obtain rfl:=qd m
 exact ⟨.inl J,_,J,wkA [] [] []⟩
theorem qk9 (l : List Int) (m : Int) (g : Int) (c : Int) (r : List Int) (j : q3k  l m g c = some r) : Qt Tryz.prog tab 158 [.hs 0 1 0 l.length,q6 m,q6 g,q6 c] [(0,.dat 1 (l.map (eI .i64)))] 1 (.d (.tup [])) [(0,.dat 1 (r.map (eI .i64)))] 1:=by
 unfold q3k at j
 refine K3 Tryz.func158 J (by kernel_rfl) (by kernel_rfl) J<|qb<|U J<|q9 J<|q8 ?_
 obtain ⟨av,aw,j⟩:=q7 j
 refine Q1<|Q7 (q6b g c) (fun (b : Int × List Int)=>⟨[(0,.hs 0 1 0 b.2.length),(2,q6 g),(3,q6 c),(8,q6 b.1)],[(0,.dat 1 (b.2.map (eI .i64)))],1⟩) (m,l) av aw (wkA [] [] []) ?_
 intro b bb a
 unfold q6b at a
 refine Q1<|qb<|U J<|O (.d (G (w64 (2 * b.1)))) J<|O (.d (G (w64 ((w64 (2 * b.1)) + 1)))) J<|q9 J<|q8<|qf<|qb<|U J<|U J<|O (.d (.bool (decide ((w64 ((w64 (2 * b.1)) + 1)) ≥ g)))) J<|q8 ?_
 refine qm J a (fun _ a=>?_) (fun _ a=>?_)
 ·refine Q6 ?_
  refine ⟨_,(Option.some.inj a).symm,fun hm=>?_⟩
  subst hm
  obtain rfl:=qd j
  exact ⟨.inl J,_,J,wkA [] [] []⟩
 refine qn<|qf<|qf<|Q5 [q0,q0,qo 0,q0,q0,q0,q0,q0,q0,qo 0,q0,q0,q0,q0,q0,q0,q0,q0,q0,q0] (by kernel_rfl)<|U J<|O (.d (G (w64 ((w64 ((w64 (2 * b.1)) + 1)) + 1)))) J<|U J<|O (.d (.bool (decide ((w64 ((w64 ((w64 (2 * b.1)) + 1)) + 1)) < g)))) J ?_
 obtain ⟨ax,f,a⟩:=q7 a
 refine Q3 16 (fun A st=>∃ (p q s t u v w x y z aa ab ac ad ae : V),st = A [(36,qe ax),(35,ae),(34,ad),(33,ac),(32,ab),(31,aa),(30,z),(29,y),(28,x),(27,w),(26,v),(25,u),(24,t),(23,s),(22,q),(21,p)]) ?_ ?_
 ·refine Q2 J J f (fun f=>?_) (fun f=>?_)
  ·refine U J<|U J<|U J<|O (.d (G (w64 (c + (w64 ((w64 (2 * b.1)) + 1)))))) J ?_
   obtain ⟨af,ag,f⟩:=q7 f
   refine qq ag J J<|Q0 (q6 af) ag J<|U J<|U J<|U J<|O (.d (G (w64 (c + (w64 ((w64 (2 * b.1)) + 1)))))) J<|O (.d (G (w64 ((w64 (c + (w64 ((w64 (2 * b.1)) + 1)))) + 1)))) J ?_
   obtain ⟨ah,ai,f⟩:=q7 f
   refine qq ai J J<|Q0 (q6 ah) ai J ?_
   obtain ⟨aj,ay,f⟩:=q7 f
   refine qt (Yv af ah aj ay) J<|O (qe aj) J<|q8 ?_
   obtain rfl:=qd f
   exact ⟨_,_,_,_,_,_,_,_,_,_,_,_,_,_,_,J⟩
  refine qa J<|qa J<|qa J<|qa J<|qa J<|qa J<|qa J<|qa J<|qa J<|qa J<|qa J<|qa J<|qa J<|qa J<|O (qe false) J<|q8 ?_
  obtain rfl:=qd f
  exact ⟨_,_,_,_,_,_,_,_,_,_,_,_,_,_,_,J⟩
 rintro _ ⟨p,q,s,t,u,v,w,x,y,z,aa,ab,ac,ad,ae,rfl⟩
 refine q8 ?_
 obtain ⟨az,k,a⟩:=q7 a
 refine Y3 (fun h=>h = az) (fun (h : Int)=>⟨[(0,.hs 0 1 0 b.2.length),(2,q6 g),(3,q6 c),(8,q6 b.1),(9,q6 h)],[(0,.dat 1 (b.2.map (eI .i64)))],1⟩) (by simp) ?_ ?_
 ·refine qm J k (fun _ k=>?_) (fun _ k=>?_)
  ·refine qw<|U J<|O (.d (G (w64 ((w64 ((w64 (2 * b.1)) + 1)) + 1)))) J<|q9 J<|qs ?_
   obtain rfl:=qd k
   exact ⟨_,J,wkA [] [] []⟩
  refine qn<|Qa ?_
  obtain rfl:=qd k
  exact ⟨_,J,wkA [] [] []⟩
 intro h hb
 subst hb
 refine qf<|qf<|Q5 [q0,q0,qo 0,q0,q0,q0,q0,q0,qo 0,q0,q0,q0,q0,q0] (by kernel_rfl)<|U J<|U J<|U J<|O (.d (G (w64 (c + b.1)))) J ?_
 obtain ⟨ak,al,a⟩:=q7 a
 refine qq al J J<|Q0 (q6 ak) al J<|U J<|U J<|U J<|O (.d (G (w64 (c + h)))) J ?_
 obtain ⟨am,an,a⟩:=q7 a
 refine qq an J J<|Q0 (q6 am) an J ?_
 obtain ⟨ao,ba,a⟩:=q7 a
 refine qt (Yv ak am ao ba) J<|O (qe (!ao)) J<|q8 ?_
 refine qm J a (fun _ a=>?_) (fun _ a=>?_)
 ·refine q39 ?_
  refine ⟨_,(Option.some.inj a).symm,fun hm=>?_⟩
  subst hm
  obtain rfl:=qd j
  exact ⟨.inr J,_,J,wkA [] [] []⟩
 refine qn<|qf<|Q5 [Qd 0,q0,Qd 0,q0,qo 0,q0,q0,q0,q0,q0,qo 0,q0,q0,q0,q0,q0,q0,q0,q0,q0,q0,q0,q0,q0] (by kernel_rfl)<|U J<|U J<|U J<|O (.d (G (w64 (c + b.1)))) J<|U J<|U J<|U J<|O (.d (G (w64 (c + h)))) J<|U J<|U J<|U J<|O (.d (G (w64 (c + h)))) J ?_
 obtain ⟨n,ap,a⟩:=q7 a
 refine qq ap J J<|Q0 (q6 n) ap J<|U J<|U J<|U J<|O (.d (G (w64 (c + b.1)))) J ?_
 obtain ⟨o,aq,a⟩:=q7 a
 refine qq aq J J<|Q0 (q6 o) aq J ?_
 obtain ⟨bc,ar,a⟩:=q7 a
 refine qq ar J J<|Qk (ds:=[G n]) n ar J J J J J J J J (leb J) J ?_
 obtain ⟨bd,au,a⟩:=q7 a
 refine qq au (by simp) J<|Qk (ds:=[G o]) o au J J J J J J J J (leb J) J<|q8<|qw<|U J<|q9 J<|qs<|Qc<|Qa ?_
 exact ⟨_,(Option.some.inj a).symm,wkE [] [] [] J ⟨⟨_,J,Qp (by simp) J (by decide) (ltd J)⟩,⟨_,J,.d (.refl _)⟩,⟨_,J,.d (.refl _)⟩,⟨_,J,.d (.refl _)⟩,trivial⟩ ⟨⟨ltd J,.inr ⟨by decide,_,J,.dat _ _⟩⟩,trivial⟩⟩
theorem qv2 (l : List Int) (a : Int) (c : Int) (r : List Int) (j : q5k  l a c = some r) : Qt Tryz.prog tab 145 [.hs 0 1 0 l.length,q6 a,q6 c] [(0,.dat 1 (l.map (eI .i64)))] 1 (.d (.tup [])) [(0,.dat 1 (r.map (eI .i64)))] 1:=by
 unfold q5k at j
 refine K3 Tryz.func145 J (by kernel_rfl) (by kernel_rfl) J<|qb<|U J<|q9 J<|qp<|q9 J<|qp<|U J<|U J<|O (.d (G (w64 (c - a)))) J<|q9 J<|q8<|qf<|qb<|U J<|O (.d (G (w64 ((w64 (c - a)) - 1)))) J<|O (.d (G (w64 (Int.tdiv (w64 ((w64 (c - a)) - 1)) 2)))) J<|q9 J<|q8 ?_
 obtain ⟨p,w,j⟩:=q7 j
 refine Qh (fun k=>k = p) (fun (k : List Int)=>⟨[(0,.hs 0 1 0 k.length),(6,q6 a),(7,q6 0),(8,.d (G (w64 (c - a))))],[(0,.dat 1 (k.map (eI .i64)))],1⟩) (by simp) ?_ ?_
 ·refine Q7 (q5l c a) (fun (g : Int × List Int)=>⟨[(0,.hs 0 1 0 g.2.length),(6,q6 a),(7,q6 0),(8,.d (G (w64 (c - a)))),(9,q6 g.1)],[(0,.dat 1 (g.2.map (eI .i64)))],1⟩) (w64 (Int.tdiv (w64 ((w64 (c - a)) - 1)) 2),l) p w (wkA [] [] []) ?_
  intro g af h
  unfold q5l at h
  refine qf<|qb<|U J<|O (.d (.bool (decide (g.1 ≥ 0)))) J<|q8 ?_
  refine qm J h (fun _ h=>?_) (fun _ h=>?_)
  ·refine qn<|qf<|Q1<|qw<|U J<|U J<|U J<|U J ?_
   obtain ⟨q,x,h⟩:=q7 h
   obtain ⟨ag,y,h⟩:=q7 h
   have z:=K7 y
   refine Qw [(0,0)] [(0,0)] [.hs 0 1 0 g.2.length,q6 g.1,.d (G (w64 (c - a))),q6 a] (.d (.tup [])) 1 [(0,.dat 1 (q.map (eI .i64)))] 1 (qk9 g.2 g.1 (w64 (c - a)) a q x)<|qs<|Qc<|qw<|U J<|O (.d (G (w64 (g.1 - 1)))) J<|q9 J<|qs ?_
   exact ⟨_,(Option.some.inj h).symm,wkE [] [] [] J ⟨⟨_,J,Qp (by simp [z]) J (by decide) (ltd J)⟩,⟨_,J,.d (.refl _)⟩,⟨_,J,.d (.refl _)⟩,⟨_,J,.d (.refl _)⟩,⟨_,J,.d (.refl _)⟩,trivial⟩ ⟨⟨ltd J,.inr ⟨by decide,_,J,.dat _ _⟩⟩,trivial⟩⟩
  refine Q6 ?_
  refine ⟨_,(Option.some.inj h).symm,fun hm=>?_⟩
  subst hm
  exact ⟨_,J,wkA [] [] []⟩
 intro k hb
 subst hb
 refine qb<|U J<|O (.d (G (w64 ((w64 (c - a)) - 1)))) J<|q9 J<|q8 ?_
 obtain ⟨aa,ab,j⟩:=q7 j
 refine Q1<|Q7 (q5m a) (fun (f : Int × List Int)=>⟨[(0,.hs 0 1 0 f.2.length),(6,q6 a),(7,q6 0),(10,q6 f.1)],[(0,.dat 1 (f.2.map (eI .i64)))],1⟩) (w64 ((w64 (c - a)) - 1),k) aa ab (wkA [] [] []) ?_
 intro f ah b
 unfold q5m at b
 refine qf<|qb<|U J<|O (.d (.bool (decide (f.1 ≥ 0)))) J<|q8 ?_
 refine qm J b (fun _ b=>?_) (fun _ b=>?_)
 ·refine qn<|qf<|Q1<|qf<|Q5 [Qd 0,q0,Qd 0,q0,qo 0,q0,q0,q0,qo 0,q0,q0,q0,q0,q0,q0,q0,q0,q0,q0,q0] (by kernel_rfl)<|U J<|U J<|U J<|U J<|U J<|O (.d (G (w64 (a + f.1)))) J<|U J<|U J<|U J<|O (.d (G (w64 (a + f.1)))) J ?_
  obtain ⟨m,s,b⟩:=q7 b
  refine qq s J J<|Q0 (q6 m) s J<|U J<|U J ?_
  obtain ⟨n,t,b⟩:=q7 b
  refine qq t J J<|Q0 (q6 n) t J ?_
  obtain ⟨ai,u,b⟩:=q7 b
  refine qq u J J<|Qk (ds:=[G m]) m u J J J J J J J J (leb J) J ?_
  obtain ⟨aj,v,b⟩:=q7 b
  refine qq v (by simp) J<|Qk (ds:=[G n]) n v J J J J J J J J (leb J) J<|q8<|qw<|U J<|U J<|U J<|U J ?_
  obtain ⟨o,ac,b⟩:=q7 b
  obtain ⟨ak,ad,b⟩:=q7 b
  have ae:=K7 ad
  refine U3 [(0,0)] [(0,0)] [.hs 0 1 0 f.2.length,q6 0,q6 f.1,q6 a] (.d (.tup [])) [(0,.dat 1 (o.map (eI .i64)))] [(0,.dat 1 (o.map (eI .i64)))] 1 (qk9 ((f.2.set a.toNat m).set (w64 (a + f.1)).toNat n) 0 f.1 a o ac) J J J (Y7 [(0,0)] [] [] J ⟨⟨_,J,Qp (by simp) J (by decide) (ltd J)⟩,⟨_,J,.d (.refl _)⟩,⟨_,J,.d (.refl _)⟩,⟨_,J,.d (.refl _)⟩,trivial⟩ ⟨⟨ltd J,.inr ⟨by decide,_,J,.dat _ _⟩⟩,trivial⟩) (Y7 [(0,0)] [] [] J ⟨⟨_,J,.d (.refl _)⟩,trivial⟩ ⟨⟨ltd J,.inr ⟨by decide,_,J,.dat _ _⟩⟩,trivial⟩) J ⟨.inl J,trivial⟩<|qs<|Qc<|qw<|U J<|O (.d (G (w64 (f.1 - 1)))) J<|q9 J<|qs ?_
  exact ⟨_,(Option.some.inj b).symm,wkE [] [] [] J ⟨⟨_,J,Qp (by simp [ae]) J (by decide) (ltd J)⟩,⟨_,J,.d (.refl _)⟩,⟨_,J,.d (.refl _)⟩,⟨_,J,.d (.refl _)⟩,trivial⟩ ⟨⟨ltd J,.inr ⟨by decide,_,J,.dat _ _⟩⟩,trivial⟩⟩
 refine Q6 ?_
 refine ⟨_,(Option.some.inj b).symm,fun hm=>?_⟩
 subst hm
 obtain rfl:=qd j
 exact ⟨.inl J,_,J,wkA [] [] []⟩
theorem qed (c : List Int) (f : Int) (g : Int) (b : Int) (r : Int × Int × Int) (a : q21  c f g b = some r) : Qt Tryz.prog tab 167 [.d (.sl 1 (c.map (eI .i64))),q6 f,q6 g,.ref 0 1 0 0] [(0,.dat 1 [[G b]])] 1 (.d (.tup [G r.1,G r.2.1])) [(0,.dat 1 [[G r.2.2]])] 1:=by
 unfold q21 at a
 refine K3 Tryz.func167 J (by kernel_rfl) (by kernel_rfl) J<|qb<|q9 J<|q9 J<|q8<|qf<|qf<|Q5 [q0,q0,q0,q0,q0,q0,q0,q0,q0] (by kernel_rfl)<|U J<|U J ?_
 obtain ⟨h,k,a⟩:=q7 a
 refine Q9 (enc:=(eI .i64)) k J<|O (q6 h) J<|U J<|U J ?_
 obtain ⟨j,l,a⟩:=q7 a
 refine Q9 (enc:=(eI .i64)) l J<|O (q6 j) J ?_
 obtain ⟨m,n,a⟩:=q7 a
 refine qt (Yv h j m n) J<|q8 ?_
 refine qm J a (fun _ a=>?_) (fun _ a=>?_)
 ·refine qb<|U J<|O (.ref 0 1 0 0) J<|O (q6 b) J<|O (.d (G (w64 (b + 1)))) J<|O (.ref 0 1 0 0) J<|Q8 0 (.dat 1 [[G (w64 (b + 1))]]) J<|qp<|U J<|U J<|q9 J<|q9 J<|qr ?_
  obtain rfl:=qd a
  exact ⟨.inr J,_,J,wkA [] [] []⟩
 refine qn<|qb<|U J<|U J<|q9 J<|q9 J<|qr ?_
 obtain rfl:=qd a
 exact ⟨.inr J,_,J,wkA [] [] []⟩
theorem qk6 (c : List Int) (h : Int) (j : Int) (k : Int) (l : Int) (r : Int × Int) (f : q3e  c h j k l = some r) : Qt Tryz.prog tab 162 [.d (.sl 1 (c.map (eI .i64))),q6 h,q6 j,q6 k,.ref 0 1 0 0] [(0,.dat 1 [[G l]])] 1 (q6 r.1) [(0,.dat 1 [[G r.2]])] 1:=by
 unfold q3e at f
 refine K3 Tryz.func162 J (by kernel_rfl) (by kernel_rfl) J<|qb<|q9 J<|qp<|U J<|U J<|U J<|U J ?_
 obtain ⟨a,m,f⟩:=q7 f
 refine Qw [(0,0)] [(0,0)] [.d (.sl 1 (c.map (eI .i64))),q6 h,q6 j,.ref 0 1 0 0] (.d (.tup [G a.1,G a.2.1])) 1 [(0,.dat 1 [[G a.2.2]])] 1 (qed c h j l a m)<|U J<|O (q6 a.1) J<|O (q6 a.2.1) J<|q9 J<|q9 J<|qp<|U J<|U J<|U J<|U J ?_
 obtain ⟨b,n,f⟩:=q7 f
 refine Qw [(0,0)] [(0,0)] [.d (.sl 1 (c.map (eI .i64))),q6 a.2.1,q6 k,.ref 0 1 0 0] (.d (.tup [G b.1,G b.2.1])) 1 [(0,.dat 1 [[G b.2.2]])] 1 (qed c a.2.1 k a.2.2 b n)<|U J<|O (q6 b.1) J<|O (q6 b.2.1) J<|q9 J<|q9 J<|qp<|U J<|U J<|U J<|U J ?_
 obtain ⟨g,o,f⟩:=q7 f
 refine Qw [(0,0)] [(0,0)] [.d (.sl 1 (c.map (eI .i64))),q6 a.1,q6 b.1,.ref 0 1 0 0] (.d (.tup [G g.1,G g.2.1])) 1 [(0,.dat 1 [[G g.2.2]])] 1 (qed c a.1 b.1 b.2.2 g o)<|U J<|O (q6 g.1) J<|O (q6 g.2.1) J<|q9 J<|q9 J<|qp<|U J<|q9 J<|qr ?_
 obtain rfl:=qd f
 exact ⟨.inr J,_,J,wkA [] [] []⟩
theorem qeb (b : List Int) (a : Int) (f : Int) (r : Int × Int) (c : q20  b a f = some r) : Qt Tryz.prog tab 161 [.d (.sl 1 (b.map (eI .i64))),q6 a,.ref 0 1 0 0] [(0,.dat 1 [[G f]])] 1 (q6 r.1) [(0,.dat 1 [[G r.2]])] 1:=by
 unfold q20 at c
 refine K3 Tryz.func161 J (by kernel_rfl) (by kernel_rfl) J<|qb<|q9 J<|qp<|U J<|U J<|O (.d (G (w64 (a - 1)))) J<|U J<|U J<|O (.d (G (w64 (a + 1)))) J<|U J ?_
 obtain ⟨g,h,c⟩:=q7 c
 refine Qw [(0,0)] [(0,0)] [.d (.sl 1 (b.map (eI .i64))),.d (G (w64 (a - 1))),q6 a,.d (G (w64 (a + 1))),.ref 0 1 0 0] (q6 g.1) 1 [(0,.dat 1 [[G g.2]])] 1 (qk6 b (w64 (a - 1)) a (w64 (a + 1)) f g h)<|q9 J<|qr ?_
 obtain rfl:=qd c
 exact ⟨.inr J,_,J,wkA [] [] []⟩
theorem qv0 (g : List Int) (a : Int) (b : Int) (r : Int × Int) (f : q5j g a b = some r) : Pure Tryz.prog tab 147 [.sl 1 (g.map (eI .i64)),G a,G b] (.tup [G r.1,G r.2]):=by
 unfold q5j at f
 refine Qb Tryz.func147 J (by kernel_rfl) (by kernel_rfl) J<|qb<|q9 J<|q9 J<|qp<|U J<|U J<|O (.d (G (w64 (b - a)))) J<|q9 J<|qp<|Qo J J<|qp<|U J<|U J<|O (.d (G (w64 (Int.tdiv (w64 (b - a)) 4)))) J<|O (.d (G (w64 ((w64 (Int.tdiv (w64 (b - a)) 4)) * 1)))) J<|O (.d (G (w64 (a + (w64 ((w64 (Int.tdiv (w64 (b - a)) 4)) * 1)))))) J<|q9 J<|qp<|U J<|U J<|O (.d (G (w64 (Int.tdiv (w64 (b - a)) 4)))) J<|O (.d (G (w64 ((w64 (Int.tdiv (w64 (b - a)) 4)) * 2)))) J<|O (.d (G (w64 (a + (w64 ((w64 (Int.tdiv (w64 (b - a)) 4)) * 2)))))) J<|q9 J<|qp<|U J<|U J<|O (.d (G (w64 (Int.tdiv (w64 (b - a)) 4)))) J<|O (.d (G (w64 ((w64 (Int.tdiv (w64 (b - a)) 4)) * 3)))) J<|O (.d (G (w64 (a + (w64 ((w64 (Int.tdiv (w64 (b - a)) 4)) * 3)))))) J<|q9 J<|q8<|qf<|qb<|U J<|O (.d (.bool (decide ((w64 (b - a)) ≥ 8)))) J<|q8 ?_
 obtain ⟨p,k,f⟩:=q7 f
 refine Y3 (fun h=>h = p) (fun (h : Int × Int)=>⟨[(9,.ref 0 1 0 0),(11,q6 h.1)],[(0,.dat 1 [[G h.2]])],1⟩) (by simp) ?_ ?_
 ·refine qm J k (fun _ k=>?_) (fun _ k=>?_)
  ·refine qf<|qb<|U J<|O (.d (.bool (decide ((w64 (b - a)) ≥ 50)))) J<|q8 ?_
   obtain ⟨q,j,k⟩:=q7 k
   refine Y3 (fun c=>c = q) (fun (c : Int × Int × Int × Int)=>⟨[(0,.d (.sl 1 (g.map (eI .i64)))),(9,.ref 0 1 0 0),(10,q6 c.1),(11,q6 c.2.1),(12,q6 c.2.2.1)],[(0,.dat 1 [[G c.2.2.2]])],1⟩) (by simp) ?_ ?_
   ·refine qm J j (fun _ j=>?_) (fun _ j=>?_)
    ·refine qb<|U J<|U J ?_
     obtain ⟨l,s,j⟩:=q7 j
     refine Qw [(0,0)] [(0,0)] [.d (.sl 1 (g.map (eI .i64))),.d (G (w64 (a + (w64 ((w64 (Int.tdiv (w64 (b - a)) 4)) * 1))))),.ref 0 1 0 0] (q6 l.1) 1 [(0,.dat 1 [[G l.2]])] 1 (qeb g (w64 (a + (w64 ((w64 (Int.tdiv (w64 (b - a)) 4)) * 1)))) 0 l s)<|q9 J<|qp<|U J<|U J ?_
     obtain ⟨m,t,j⟩:=q7 j
     refine Qw [(0,0)] [(0,0)] [.d (.sl 1 (g.map (eI .i64))),.d (G (w64 (a + (w64 ((w64 (Int.tdiv (w64 (b - a)) 4)) * 2))))),.ref 0 1 0 0] (q6 m.1) 1 [(0,.dat 1 [[G m.2]])] 1 (qeb g (w64 (a + (w64 ((w64 (Int.tdiv (w64 (b - a)) 4)) * 2)))) l.2 m t)<|q9 J<|q8<|qw<|U J<|U J ?_
     obtain ⟨n,u,j⟩:=q7 j
     refine Qw [(0,0)] [(0,0)] [.d (.sl 1 (g.map (eI .i64))),.d (G (w64 (a + (w64 ((w64 (Int.tdiv (w64 (b - a)) 4)) * 3))))),.ref 0 1 0 0] (q6 n.1) 1 [(0,.dat 1 [[G n.2]])] 1 (qeb g (w64 (a + (w64 ((w64 (Int.tdiv (w64 (b - a)) 4)) * 3)))) m.2 n u)<|q9 J<|qs ?_
     obtain rfl:=qd j
     exact ⟨_,J,wkA [(0,0)] [] []⟩
    refine qn<|Qa ?_
    obtain rfl:=qd j
    exact ⟨_,J,wkA [(0,0)] [] []⟩
   intro c hb
   subst hb
   refine qw<|U J<|U J<|U J<|U J ?_
   obtain ⟨o,v,k⟩:=q7 k
   refine Qw [(0,0)] [(0,0)] [.d (.sl 1 (g.map (eI .i64))),q6 c.1,q6 c.2.1,q6 c.2.2.1,.ref 0 1 0 0] (q6 o.1) 1 [(0,.dat 1 [[G o.2]])] 1 (qk6 g c.1 c.2.1 c.2.2.1 c.2.2.2 o v)<|q9 J<|qs ?_
   obtain rfl:=qd k
   exact ⟨_,J,wkA [(0,0)] [] []⟩
  refine qn<|Qa ?_
  obtain rfl:=qd k
  exact ⟨_,J,wkA [(0,0)] [] []⟩
 intro h hb
 subst hb
 refine qb<|O (q6 h.2) J<|q8<|Q1<|qb<|O (qe (h.2 == 0)) J<|q9 J<|q8 ?_
 refine qm J f (fun _ f=>?_) (fun _ f=>?_)
 ·refine qb<|U J<|q9 J<|q9 J<|qr ?_
  obtain rfl:=qd f
  exact qz (.d (.tup [G h.1,G 1])) J
 refine qb<|O (qe (h.2 == 12)) J<|q9 J<|q8 ?_
 refine qm J f (fun _ f=>?_) (fun _ f=>?_)
 ·refine qb<|U J<|q9 J<|q9 J<|qr ?_
  obtain rfl:=qd f
  exact qz (.d (.tup [G h.1,G 2])) J
 refine qb<|U J<|q9 J<|q9 J<|qr ?_
 obtain rfl:=qd f
 exact qz (.d (.tup [G h.1,G 0])) J
theorem qvg (c : List Int) (h : Int) (f : Int) (r : List Int) (g : q69  c h f = some r) : Qt Tryz.prog tab 148 [.hs 0 1 0 c.length,q6 h,q6 f] [(0,.dat 1 (c.map (eI .i64)))] 1 (.d (.tup [])) [(0,.dat 1 (r.map (eI .i64)))] 1:=by
 unfold q69 at g
 refine K3 Tryz.func148 J (by kernel_rfl) (by kernel_rfl) J<|qb<|U J<|q9 J<|qp<|U J<|O (.d (G (w64 (f - 1)))) J<|q9 J<|q8 ?_
 obtain ⟨p,q,g⟩:=q7 g
 refine Q1<|Q7 (q8y) (fun (b : Int × Int × List Int)=>⟨[(0,.hs 0 1 0 b.2.2.length),(6,q6 b.1),(7,q6 b.2.1)],[(0,.dat 1 (b.2.2.map (eI .i64)))],1⟩) (h,w64 (f - 1),c) p q (wkA [] [] []) ?_
 intro b s a
 unfold q8y at a
 refine qf<|qb<|U J<|U J<|O (.d (.bool (decide (b.1 < b.2.1)))) J<|q8 ?_
 refine qm J a (fun _ a=>?_) (fun _ a=>?_)
 ·refine qn<|Q1<|qf<|Q5 [Qd 0,q0,Qd 0,q0,qo 0,q0,q0,q0,qo 0,q0,q0,q0,q0,q0,q0,q0] (by kernel_rfl)<|U J<|U J<|U J<|U J<|U J<|U J ?_
  obtain ⟨j,l,a⟩:=q7 a
  refine qq l J J<|Q0 (q6 j) l J<|U J<|U J ?_
  obtain ⟨k,m,a⟩:=q7 a
  refine qq m J J<|Q0 (q6 k) m J ?_
  obtain ⟨t,n,a⟩:=q7 a
  refine qq n J J<|Qk (ds:=[G j]) j n J J J J J J J J (leb J) J ?_
  obtain ⟨u,o,a⟩:=q7 a
  refine qq o (by simp) J<|Qk (ds:=[G k]) k o J J J J J J J J (leb J) J<|qp<|U J<|O (.d (G (w64 (b.1 + 1)))) J<|q9 J<|q8<|qw<|U J<|O (.d (G (w64 (b.2.1 - 1)))) J<|q9 J<|qs<|Qc<|Qa ?_
  exact ⟨_,(Option.some.inj a).symm,wkE [] [] [] J ⟨⟨_,J,Qp (by simp) J (by decide) (ltd J)⟩,⟨_,J,.d (.refl _)⟩,⟨_,J,.d (.refl _)⟩,trivial⟩ ⟨⟨ltd J,.inr ⟨by decide,_,J,.dat _ _⟩⟩,trivial⟩⟩
 refine Q6 ?_
 refine ⟨_,(Option.some.inj a).symm,fun hm=>?_⟩
 subst hm
 obtain rfl:=qd g
 exact ⟨.inl J,_,J,wkA [] [] []⟩
theorem qv6 (v : List Int) (j : Int) (h : Int) (r : Bool × List Int) (q : q3g  v j h = some r) : Qt Tryz.prog tab 149 [.hs 0 1 0 v.length,q6 j,q6 h] [(0,.dat 1 (v.map (eI .i64)))] 1 (qe r.1) [(0,.dat 1 (r.2.map (eI .i64)))] 1:=by
 unfold q3g at q
 refine K3 Tryz.func149 J (by kernel_rfl) (by kernel_rfl) J<|qb<|q9 J<|qp<|U J<|O (.d (G (w64 (j + 1)))) J<|q9 J<|q8<|qf<|qb<|q9 J<|q8 ?_
 obtain ⟨ae,bu,q⟩:=q7 q
 refine Qh (fun w=>.inl w = ae) (fun (w : List Int)=>⟨[],[(0,.dat 1 (w.map (eI .i64)))],1⟩) (by simp) ?_ ?_
 ·refine Q7 (q3h h j) (fun (g : Int × Int × List Int)=>⟨[(0,.hs 0 1 0 g.2.2.length),(1,q6 j),(2,q6 h),(7,q6 g.1),(8,q6 g.2.1)],[(0,.dat 1 (g.2.2.map (eI .i64)))],1⟩) (w64 (j + 1),0,v) ae bu (wkA [] [] []) ?_
  intro g ci l
  unfold q3h at l
  refine qf<|qb<|U J<|O (.d (.bool (decide (g.2.1 < 5)))) J<|q8 ?_
  refine qm J l (fun _ l=>?_) (fun _ l=>?_)
  ·refine qn<|qf ?_
   obtain ⟨bv,a,l⟩:=q7 l
   refine Qh (fun s=>.inl s = bv) (fun (s : Int × List Int)=>⟨[(0,.hs 0 1 0 s.2.length),(1,q6 j),(2,q6 h),(7,q6 s.1),(8,q6 g.2.1)],[(0,.dat 1 (s.2.map (eI .i64)))],1⟩) (by simp) ?_ ?_
   ·refine qf ?_
    obtain ⟨af,bw,a⟩:=q7 a
    refine Qh (fun f=>f = af) (fun (f : Int)=>⟨[(0,.hs 0 1 0 g.2.2.length),(1,q6 j),(2,q6 h),(7,q6 f),(8,q6 g.2.1)],[(0,.dat 1 (g.2.2.map (eI .i64)))],1⟩) (by simp) ?_ ?_
    ·refine Q7 (q5t h g) (fun (u : Int)=>⟨[(0,.hs 0 1 0 g.2.2.length),(1,q6 j),(2,q6 h),(7,q6 u),(8,q6 g.2.1)],[(0,.dat 1 (g.2.2.map (eI .i64)))],1⟩) g.1 af bw (wkA [] [] []) ?_
     intro u cj o
     unfold q5t at o
     refine qf<|qf<|Q5 [q0,q0,q0,qo 0,q0,q0,q0,q0,qo 0,q0,q0,q0,q0,q0,q0,q0] (by kernel_rfl)<|U J<|U J<|O (.d (.bool (decide (u < h)))) J ?_
     obtain ⟨bz,k,o⟩:=q7 o
     refine Q3 13 (fun A st=>∃ (ag ah ai aj ak al am an ao ap aq ar : V),st = A [(32,qe bz),(31,ar),(30,aq),(29,ap),(28,ao),(27,an),(26,am),(25,al),(24,ak),(23,aj),(22,ai),(21,ah),(20,ag)]) ?_ ?_
     ·refine Q2 J J k (fun k=>?_) (fun k=>?_)
      ·refine U J<|U J ?_
       obtain ⟨au,av,k⟩:=q7 k
       refine qq av J J<|Q0 (q6 au) av J<|U J<|U J<|O (.d (G (w64 (u - 1)))) J ?_
       obtain ⟨aw,ax,k⟩:=q7 k
       refine qq ax J J<|Q0 (q6 aw) ax J ?_
       obtain ⟨z,ca,k⟩:=q7 k
       refine qt (Yv au aw z ca) J<|O (qe (!z)) J<|O (qe (!z)) J<|q8 ?_
       obtain rfl:=qd k
       exact ⟨_,_,_,_,_,_,_,_,_,_,_,_,J⟩
      refine qa J<|qa J<|qa J<|qa J<|qa J<|qa J<|qa J<|qa J<|qa J<|qa J<|qa J<|O (qe false) J<|q8 ?_
      obtain rfl:=qd k
      exact ⟨_,_,_,_,_,_,_,_,_,_,_,_,J⟩
     rintro _ ⟨ag,ah,ai,aj,ak,al,am,an,ao,ap,aq,ar,rfl⟩
     refine q8 ?_
     refine qm J o (fun _ o=>?_) (fun _ o=>?_)
     ·refine qn<|Q1<|qw<|U J<|O (.d (G (w64 (u + 1)))) J<|q9 J<|qs<|Qc<|Qa ?_
      exact ⟨_,(Option.some.inj o).symm,wkA [] [] []⟩
     refine Q6 ?_
     refine ⟨_,(Option.some.inj o).symm,fun hm=>?_⟩
     subst hm
     exact ⟨_,J,wkA [] [] []⟩
    intro f hb
    subst hb
    refine qf<|qb<|U J<|U J<|O (qe (f == h)) J<|q8 ?_
    refine qm J a (fun _ a=>?_) (fun _ a=>?_)
    ·refine qb<|q9 J<|qr ?_
     obtain rfl:=qd a
     refine ⟨_,(Option.some.inj l).symm,fun hm=>?_⟩
     subst hm
     obtain rfl:=qd q
     exact ⟨.inr J,_,J,wkA [] [] []⟩
    refine qn<|qf<|qb<|U J<|U J<|O (.d (G (w64 (h - j)))) J<|O (.d (.bool (decide ((w64 (h - j)) < 50)))) J<|q8 ?_
    refine qm J a (fun _ a=>?_) (fun _ a=>?_)
    ·refine qb<|q9 J<|qr ?_
     obtain rfl:=qd a
     refine ⟨_,(Option.some.inj l).symm,fun hm=>?_⟩
     subst hm
     obtain rfl:=qd q
     exact ⟨.inr J,_,J,wkA [] [] []⟩
    refine qn<|qf<|Q5 [Qd 0,q0,Qd 0,q0,qo 0,q0,q0,q0,qo 0,q0,q0,q0,q0,q0,q0,q0,q0,q0] (by kernel_rfl)<|U J<|U J<|U J<|U J<|O (.d (G (w64 (f - 1)))) J<|U J<|U J<|O (.d (G (w64 (f - 1)))) J ?_
    obtain ⟨x,ay,a⟩:=q7 a
    refine qq ay J J<|Q0 (q6 x) ay J<|U J<|U J ?_
    obtain ⟨y,az,a⟩:=q7 a
    refine qq az J J<|Q0 (q6 y) az J ?_
    obtain ⟨ck,ba,a⟩:=q7 a
    refine qq ba J J<|Qk (ds:=[G x]) x ba J J J J J J J J (leb J) J ?_
    obtain ⟨cl,bb,a⟩:=q7 a
    refine qq bb (by simp) J<|Qk (ds:=[G y]) y bb J J J J J J J J (leb J) J<|q8<|qf<|qb<|U J<|U J<|O (.d (G (w64 (f - j)))) J<|O (.d (.bool (decide ((w64 (f - j)) ≥ 2)))) J<|q8 ?_
    obtain ⟨cb,p,a⟩:=q7 a
    refine Y3 (fun t=>t = cb) (fun (t : List Int)=>⟨[(0,.hs 0 1 0 t.length),(1,q6 j),(2,q6 h),(7,q6 f),(8,q6 g.2.1)],[(0,.dat 1 (t.map (eI .i64)))],1⟩) (by simp) ?_ ?_
    ·refine qm J p (fun _ p=>?_) (fun _ p=>?_)
     ·refine qb<|U J<|O (.d (G (w64 (f - 1)))) J<|q9 J<|q8 ?_
      obtain ⟨cc,cd,p⟩:=q7 p
      refine Q1<|Q7 (q8l) (fun (m : Int × List Int)=>⟨[(0,.hs 0 1 0 m.2.length),(1,q6 j),(2,q6 h),(7,q6 f),(8,q6 g.2.1),(9,q6 m.1)],[(0,.dat 1 (m.2.map (eI .i64)))],1⟩) (w64 (f - 1),(g.2.2.set f.toNat x).set (w64 (f - 1)).toNat y) cc cd (wkE [] [] [] J ⟨⟨_,J,Qp (by simp) J (by decide) (ltd J)⟩,⟨_,J,.d (.refl _)⟩,⟨_,J,.d (.refl _)⟩,⟨_,J,.d (.refl _)⟩,⟨_,J,.d (.refl _)⟩,⟨_,J,.d (.refl _)⟩,trivial⟩ ⟨⟨ltd J,.inr ⟨by decide,_,J,.dat _ _⟩⟩,trivial⟩) ?_
      intro m cm b
      unfold q8l at b
      refine qf<|qb<|U J<|O (.d (.bool (decide (m.1 ≥ 1)))) J<|q8 ?_
      refine qm J b (fun _ b=>?_) (fun _ b=>?_)
      ·refine qn<|qf<|Q1<|qf<|qf<|Q5 [q0,q0,qo 0,q0,q0,q0,q0,qo 0,q0,q0,q0] (by kernel_rfl)<|U J<|U J ?_
       obtain ⟨bc,bd,b⟩:=q7 b
       refine qq bd J J<|Q0 (q6 bc) bd J<|U J<|U J<|O (.d (G (w64 (m.1 - 1)))) J ?_
       obtain ⟨be,bf,b⟩:=q7 b
       refine qq bf J J<|Q0 (q6 be) bf J ?_
       obtain ⟨bg,ce,b⟩:=q7 b
       refine qt (Yv bc be bg ce) J<|O (qe (!bg)) J<|q8 ?_
       refine qm J b (fun _ b=>?_) (fun _ b=>?_)
       ·refine Q6 ?_
        refine ⟨_,(Option.some.inj b).symm,fun hm=>?_⟩
        subst hm
        obtain rfl:=qd p
        exact ⟨_,J,wkA [] [] []⟩
       refine qn<|Q5 [Qd 0,q0,Qd 0,q0,qo 0,q0,q0,q0,qo 0,q0,q0,q0,q0,q0,q0,q0,q0,q0] (by kernel_rfl)<|U J<|U J<|U J<|U J<|O (.d (G (w64 (m.1 - 1)))) J<|U J<|U J<|O (.d (G (w64 (m.1 - 1)))) J ?_
       obtain ⟨aa,bh,b⟩:=q7 b
       refine qq bh J J<|Q0 (q6 aa) bh J<|U J<|U J ?_
       obtain ⟨ab,bi,b⟩:=q7 b
       refine qq bi J J<|Q0 (q6 ab) bi J ?_
       obtain ⟨cn,bj,b⟩:=q7 b
       refine qq bj J J<|Qk (ds:=[G aa]) aa bj J J J J J J J J (leb J) J ?_
       obtain ⟨co,bk,b⟩:=q7 b
       refine qq bk (by simp) J<|Qk (ds:=[G ab]) ab bk J J J J J J J J (leb J) J<|qs<|Qc<|qw<|U J<|O (.d (G (w64 (m.1 - 1)))) J<|q9 J<|qs ?_
       exact ⟨_,(Option.some.inj b).symm,wkE [] [] [] J ⟨⟨_,J,Qp (by simp) J (by decide) (ltd J)⟩,⟨_,J,.d (.refl _)⟩,⟨_,J,.d (.refl _)⟩,⟨_,J,.d (.refl _)⟩,⟨_,J,.d (.refl _)⟩,⟨_,J,.d (.refl _)⟩,trivial⟩ ⟨⟨ltd J,.inr ⟨by decide,_,J,.dat _ _⟩⟩,trivial⟩⟩
      refine Q6 ?_
      refine ⟨_,(Option.some.inj b).symm,fun hm=>?_⟩
      subst hm
      obtain rfl:=qd p
      exact ⟨_,J,wkA [] [] []⟩
     refine qn<|Qa ?_
     obtain rfl:=qd p
     exact ⟨_,J,wkE [] [] [] J ⟨⟨_,J,Qp (by simp) J (by decide) (ltd J)⟩,⟨_,J,.d (.refl _)⟩,⟨_,J,.d (.refl _)⟩,⟨_,J,.d (.refl _)⟩,⟨_,J,.d (.refl _)⟩,trivial⟩ ⟨⟨ltd J,.inr ⟨by decide,_,J,.dat _ _⟩⟩,trivial⟩⟩
    intro t hb
    subst hb
    refine qb<|U J<|U J<|O (.d (G (w64 (h - f)))) J<|O (.d (.bool (decide ((w64 (h - f)) ≥ 2)))) J<|q8 ?_
    refine qm J a (fun _ a=>?_) (fun _ a=>?_)
    ·refine qb<|U J<|O (.d (G (w64 (f + 1)))) J<|q9 J<|q8 ?_
     obtain ⟨cf,cg,a⟩:=q7 a
     refine Q1<|Q7 (q5u h f) (fun (n : Int × List Int)=>⟨[(0,.hs 0 1 0 n.2.length),(1,q6 j),(2,q6 h),(7,q6 f),(8,q6 g.2.1),(10,q6 n.1)],[(0,.dat 1 (n.2.map (eI .i64)))],1⟩) (w64 (f + 1),t) cf cg (wkA [] [] []) ?_
     intro n cp c
     unfold q5u at c
     refine qf<|qb<|U J<|U J<|O (.d (.bool (decide (n.1 < h)))) J<|q8 ?_
     refine qm J c (fun _ c=>?_) (fun _ c=>?_)
     ·refine qn<|qf<|Q1<|qf<|qf<|Q5 [q0,q0,qo 0,q0,q0,q0,q0,qo 0,q0,q0,q0] (by kernel_rfl)<|U J<|U J ?_
      obtain ⟨bl,bm,c⟩:=q7 c
      refine qq bm J J<|Q0 (q6 bl) bm J<|U J<|U J<|O (.d (G (w64 (n.1 - 1)))) J ?_
      obtain ⟨bn,bo,c⟩:=q7 c
      refine qq bo J J<|Q0 (q6 bn) bo J ?_
      obtain ⟨bp,ch,c⟩:=q7 c
      refine qt (Yv bl bn bp ch) J<|O (qe (!bp)) J<|q8 ?_
      refine qm J c (fun _ c=>?_) (fun _ c=>?_)
      ·refine Q6 ?_
       refine ⟨_,(Option.some.inj c).symm,fun hm=>?_⟩
       subst hm
       obtain rfl:=qd a
       exact ⟨_,J,wkA [] [] []⟩
      refine qn<|Q5 [Qd 0,q0,Qd 0,q0,qo 0,q0,q0,q0,qo 0,q0,q0,q0,q0,q0,q0,q0,q0,q0] (by kernel_rfl)<|U J<|U J<|U J<|U J<|O (.d (G (w64 (n.1 - 1)))) J<|U J<|U J<|O (.d (G (w64 (n.1 - 1)))) J ?_
      obtain ⟨ac,bq,c⟩:=q7 c
      refine qq bq J J<|Q0 (q6 ac) bq J<|U J<|U J ?_
      obtain ⟨ad,br,c⟩:=q7 c
      refine qq br J J<|Q0 (q6 ad) br J ?_
      obtain ⟨cq,bs,c⟩:=q7 c
      refine qq bs J J<|Qk (ds:=[G ac]) ac bs J J J J J J J J (leb J) J ?_
      obtain ⟨cr,bt,c⟩:=q7 c
      refine qq bt (by simp) J<|Qk (ds:=[G ad]) ad bt J J J J J J J J (leb J) J<|qs<|Qc<|qw<|U J<|O (.d (G (w64 (n.1 + 1)))) J<|q9 J<|qs ?_
      exact ⟨_,(Option.some.inj c).symm,wkE [] [] [] J ⟨⟨_,J,Qp (by simp) J (by decide) (ltd J)⟩,⟨_,J,.d (.refl _)⟩,⟨_,J,.d (.refl _)⟩,⟨_,J,.d (.refl _)⟩,⟨_,J,.d (.refl _)⟩,⟨_,J,.d (.refl _)⟩,trivial⟩ ⟨⟨ltd J,.inr ⟨by decide,_,J,.dat _ _⟩⟩,trivial⟩⟩
     refine Q6 ?_
     refine ⟨_,(Option.some.inj c).symm,fun hm=>?_⟩
     subst hm
     obtain rfl:=qd a
     exact ⟨_,J,wkA [] [] []⟩
    refine qn<|Qa ?_
    obtain rfl:=qd a
    exact ⟨_,J,wkA [] [] []⟩
   intro s hb
   subst hb
   refine qw<|U J<|O (.d (G (w64 (g.2.1 + 1)))) J<|q9 J<|qs ?_
   exact ⟨_,(Option.some.inj l).symm,wkA [] [] []⟩
  refine Q6 ?_
  refine ⟨_,(Option.some.inj l).symm,fun hm=>?_⟩
  subst hm
  exact ⟨_,J,wkA [] [] []⟩
 intro w hb
 subst hb
 refine qb<|q9 J<|qr ?_
 obtain rfl:=qd q
 exact ⟨.inr J,_,J,wkA [] [] []⟩
theorem qv9 (o : List Int) (c : Int) (p : Int) (v : Int) (r : Int × List Int) (f : q5v  o c p v = some r) : Qt Tryz.prog tab 151 [.hs 0 1 0 o.length,q6 c,q6 p,q6 v] [(0,.dat 1 (o.map (eI .i64)))] 1 (q6 r.1) [(0,.dat 1 (r.2.map (eI .i64)))] 1:=by
 unfold q5v at f
 refine K3 Tryz.func151 J (by kernel_rfl) (by kernel_rfl) J<|qb<|q9 J<|q8<|qf<|Q5 [Qd 0,q0,Qd 0,q0,qo 0,q0,q0,q0,qo 0,q0,q0,q0,q0,q0,q0,q0] (by kernel_rfl)<|U J<|U J<|U J<|U J<|U J<|U J ?_
 obtain ⟨q,z,f⟩:=q7 f
 refine qq z J J<|Q0 (q6 q) z J<|U J<|U J ?_
 obtain ⟨s,aa,f⟩:=q7 f
 refine qq aa J J<|Q0 (q6 s) aa J ?_
 obtain ⟨bz,ab,f⟩:=q7 f
 refine qq ab J J<|Qk (ds:=[G q]) q ab J J J J J J J J (leb J) J ?_
 obtain ⟨ca,ac,f⟩:=q7 f
 refine qq ac (by simp) J<|Qk (ds:=[G s]) s ac J J J J J J J J (leb J) J<|qp<|U J<|O (.d (G (w64 (c + 1)))) J<|U J<|O (.d (G (w64 (p - 1)))) J<|q9 J<|q9 J<|q8<|qf ?_
 obtain ⟨ad,bq,f⟩:=q7 f
 refine Qh (fun n=>n = ad) (fun (n : Int × List Int)=>⟨[(9,q6 n.1)],[(0,.dat 1 (n.2.map (eI .i64)))],1⟩) (by simp) ?_ ?_
 ·refine Q7 (q5w c) (fun (a : Int × Int × List Int)=>⟨[(0,.hs 0 1 0 a.2.2.length),(1,q6 c),(9,q6 a.1),(10,q6 a.2.1)],[(0,.dat 1 (a.2.2.map (eI .i64)))],1⟩) (w64 (c + 1),w64 (p - 1),(o.set c.toNat q).set v.toNat s) ad bq (wkE [] [] [] J ⟨⟨_,J,Qp (by simp) J (by decide) (ltd J)⟩,⟨_,J,.d (.refl _)⟩,⟨_,J,.d (.refl _)⟩,⟨_,J,.d (.refl _)⟩,trivial⟩ ⟨⟨ltd J,.inr ⟨by decide,_,J,.dat _ _⟩⟩,trivial⟩) ?_
  intro a cb b
  unfold q5w at b
  refine Q1<|qf ?_
  obtain ⟨ae,br,b⟩:=q7 b
  refine Qh (fun j=>j = ae) (fun (j : Int)=>⟨[(0,.hs 0 1 0 a.2.2.length),(1,q6 c),(9,q6 j),(10,q6 a.2.1)],[(0,.dat 1 (a.2.2.map (eI .i64)))],1⟩) (by simp) ?_ ?_
  ·refine Q7 (q5x a c) (fun (t : Int)=>⟨[(0,.hs 0 1 0 a.2.2.length),(1,q6 c),(9,q6 t),(10,q6 a.2.1)],[(0,.dat 1 (a.2.2.map (eI .i64)))],1⟩) a.1 ae br (wkA [] [] []) ?_
   intro t cc k
   unfold q5x at k
   refine qf<|qf<|Q5 [q0,q0,q0,qo 0,q0,q0,q0,qo 0,q0,q0,q0,q0,q0,q0,q0] (by kernel_rfl)<|U J<|U J<|O (.d (.bool (decide (t≤a.2.1)))) J ?_
   obtain ⟨bs,g,k⟩:=q7 k
   refine Q3 12 (fun A st=>∃ (af ag ah ai aj ak al am an ao ap : V),st = A [(43,qe bs),(42,ap),(41,ao),(40,an),(39,am),(38,al),(37,ak),(36,aj),(35,ai),(34,ah),(33,ag),(32,af)]) ?_ ?_
   ·refine Q2 J J g (fun g=>?_) (fun g=>?_)
    ·refine U J<|U J ?_
     obtain ⟨aq,ar,g⟩:=q7 g
     refine qq ar J J<|Q0 (q6 aq) ar J<|U J<|U J ?_
     obtain ⟨au,av,g⟩:=q7 g
     refine qq av J J<|Q0 (q6 au) av J ?_
     obtain ⟨w,bt,g⟩:=q7 g
     refine qt (Yv aq au w bt) J<|O (qe (!w)) J<|O (qe (!w)) J<|q8 ?_
     obtain rfl:=qd g
     exact ⟨_,_,_,_,_,_,_,_,_,_,_,J⟩
    refine qa J<|qa J<|qa J<|qa J<|qa J<|qa J<|qa J<|qa J<|qa J<|qa J<|O (qe false) J<|q8 ?_
    obtain rfl:=qd g
    exact ⟨_,_,_,_,_,_,_,_,_,_,_,J⟩
   rintro _ ⟨af,ag,ah,ai,aj,ak,al,am,an,ao,ap,rfl⟩
   refine q8 ?_
   refine qm J k (fun _ k=>?_) (fun _ k=>?_)
   ·refine qn<|Q1<|qw<|U J<|O (.d (G (w64 (t + 1)))) J<|q9 J<|qs<|Qc<|Qa ?_
    exact ⟨_,(Option.some.inj k).symm,wkA [] [] []⟩
   refine Q6 ?_
   refine ⟨_,(Option.some.inj k).symm,fun hm=>?_⟩
   subst hm
   exact ⟨_,J,wkA [] [] []⟩
  intro j hb
  subst hb
  refine qf ?_
  obtain ⟨aw,bu,b⟩:=q7 b
  refine Qh (fun m=>m = aw) (fun (m : Int)=>⟨[(0,.hs 0 1 0 a.2.2.length),(1,q6 c),(9,q6 j),(10,q6 m)],[(0,.dat 1 (a.2.2.map (eI .i64)))],1⟩) (by simp) ?_ ?_
  ·refine Q7 (q5y j a c) (fun (u : Int)=>⟨[(0,.hs 0 1 0 a.2.2.length),(1,q6 c),(9,q6 j),(10,q6 u)],[(0,.dat 1 (a.2.2.map (eI .i64)))],1⟩) a.2.1 aw bu (wkA [] [] []) ?_
   intro u cd l
   unfold q5y at l
   refine qf<|qf<|Q5 [q0,q0,qo 0,q0,q0,q0,qo 0,q0,q0,q0,q0,q0,q0,q0] (by kernel_rfl)<|U J<|U J<|O (.d (.bool (decide (j≤u)))) J ?_
   obtain ⟨bv,h,l⟩:=q7 l
   refine Q3 11 (fun A st=>∃ (ax ay az ba bb bc bd be bf bg : V),st = A [(59,qe bv),(58,bg),(57,bf),(56,be),(55,bd),(54,bc),(53,bb),(52,ba),(51,az),(50,ay),(49,ax)]) ?_ ?_
   ·refine Q2 J J h (fun h=>?_) (fun h=>?_)
    ·refine U J<|U J ?_
     obtain ⟨bh,bi,h⟩:=q7 h
     refine qq bi J J<|Q0 (q6 bh) bi J<|U J<|U J ?_
     obtain ⟨bj,bk,h⟩:=q7 h
     refine qq bk J J<|Q0 (q6 bj) bk J ?_
     obtain ⟨bl,bw,h⟩:=q7 h
     refine qt (Yv bh bj bl bw) J<|O (qe bl) J<|q8 ?_
     obtain rfl:=qd h
     exact ⟨_,_,_,_,_,_,_,_,_,_,J⟩
    refine qa J<|qa J<|qa J<|qa J<|qa J<|qa J<|qa J<|qa J<|qa J<|O (qe false) J<|q8 ?_
    obtain rfl:=qd h
    exact ⟨_,_,_,_,_,_,_,_,_,_,J⟩
   rintro _ ⟨ax,ay,az,ba,bb,bc,bd,be,bf,bg,rfl⟩
   refine q8 ?_
   refine qm J l (fun _ l=>?_) (fun _ l=>?_)
   ·refine qn<|Q1<|qw<|U J<|O (.d (G (w64 (u - 1)))) J<|q9 J<|qs<|Qc<|Qa ?_
    exact ⟨_,(Option.some.inj l).symm,wkA [] [] []⟩
   refine Q6 ?_
   refine ⟨_,(Option.some.inj l).symm,fun hm=>?_⟩
   subst hm
   exact ⟨_,J,wkA [] [] []⟩
  intro m hb
  subst hb
  refine qf<|qb<|U J<|U J<|O (.d (.bool (decide (j > m)))) J<|q8 ?_
  refine qm J b (fun _ b=>?_) (fun _ b=>?_)
  ·refine Q6 ?_
   refine ⟨_,(Option.some.inj b).symm,fun hm=>?_⟩
   subst hm
   exact ⟨_,J,wkA [] [] []⟩
  refine qn<|qf<|Q5 [Qd 0,q0,Qd 0,q0,qo 0,q0,q0,q0,qo 0,q0,q0,q0,q0,q0,q0,q0] (by kernel_rfl)<|U J<|U J<|U J<|U J<|U J<|U J ?_
  obtain ⟨x,bm,b⟩:=q7 b
  refine qq bm J J<|Q0 (q6 x) bm J<|U J<|U J ?_
  obtain ⟨y,bn,b⟩:=q7 b
  refine qq bn J J<|Q0 (q6 y) bn J ?_
  obtain ⟨ce,bo,b⟩:=q7 b
  refine qq bo J J<|Qk (ds:=[G x]) x bo J J J J J J J J (leb J) J ?_
  obtain ⟨cf,bp,b⟩:=q7 b
  refine qq bp (by simp) J<|Qk (ds:=[G y]) y bp J J J J J J J J (leb J) J<|qp<|U J<|O (.d (G (w64 (j + 1)))) J<|q9 J<|q8<|qw<|U J<|O (.d (G (w64 (m - 1)))) J<|q9 J<|qs<|Qc<|Qa ?_
  exact ⟨_,(Option.some.inj b).symm,wkE [] [] [] J ⟨⟨_,J,Qp (by simp) J (by decide) (ltd J)⟩,⟨_,J,.d (.refl _)⟩,⟨_,J,.d (.refl _)⟩,⟨_,J,.d (.refl _)⟩,trivial⟩ ⟨⟨ltd J,.inr ⟨by decide,_,J,.dat _ _⟩⟩,trivial⟩⟩
 intro n hb
 subst hb
 refine qb<|U J<|q9 J<|qr ?_
 obtain rfl:=qd f
 exact ⟨.inr J,_,J,wkA [] [] []⟩
theorem qva (g : List Int) (b : Int) (s : Int) (k : Int) (r : Int × Bool × List Int) (a : q5z  g b s k = some r) : Qt Tryz.prog tab 152 [.hs 0 1 0 g.length,q6 b,q6 s,q6 k] [(0,.dat 1 (g.map (eI .i64)))] 1 (.d (.tup [G r.1,.bool r.2.1])) [(0,.dat 1 (r.2.2.map (eI .i64)))] 1:=by
 unfold q5z at a
 refine K3 Tryz.func152 J (by kernel_rfl) (by kernel_rfl) J<|qb<|q9 J<|q9 J<|q8<|qf<|Q5 [Qd 0,q0,Qd 0,q0,qo 0,q0,q0,q0,qo 0,q0,q0,q0,q0,q0,q0,q0] (by kernel_rfl)<|U J<|U J<|U J<|U J<|U J<|U J ?_
 obtain ⟨h,ao,a⟩:=q7 a
 refine qq ao J J<|Q0 (q6 h) ao J<|U J<|U J ?_
 obtain ⟨j,ap,a⟩:=q7 a
 refine qq ap J J<|Q0 (q6 j) ap J ?_
 obtain ⟨fr,aq,a⟩:=q7 a
 refine qq aq J J<|Qk (ds:=[G h]) h aq J J J J J J J J (leb J) J ?_
 obtain ⟨fs,ar,a⟩:=q7 a
 refine qq ar (by simp) J<|Qk (ds:=[G j]) j ar J J J J J J J J (leb J) J<|qp<|U J<|O (.d (G (w64 (b + 1)))) J<|U J<|O (.d (G (w64 (s - 1)))) J<|q9 J<|q9 J<|q8<|qf ?_
 obtain ⟨au,fd,a⟩:=q7 a
 refine Qh (fun l=>l = au) (fun (l : Int)=>⟨[(0,.hs 0 1 0 ((g.set b.toNat h).set k.toNat j).length),(1,q6 b),(10,q6 l),(11,.d (G (w64 (s - 1))))],[(0,.dat 1 (((g.set b.toNat h).set k.toNat j).map (eI .i64)))],1⟩) (by simp) ?_ ?_
 ·refine Q7 (q60 s g b h k j) (fun (aa : Int)=>⟨[(0,.hs 0 1 0 ((g.set b.toNat h).set k.toNat j).length),(1,q6 b),(10,q6 aa),(11,.d (G (w64 (s - 1))))],[(0,.dat 1 (((g.set b.toNat h).set k.toNat j).map (eI .i64)))],1⟩) (w64 (b + 1)) au fd (wkE [] [] [] J ⟨⟨_,J,Qp (by simp) J (by decide) (ltd J)⟩,⟨_,J,.d (.refl _)⟩,⟨_,J,.d (.refl _)⟩,⟨_,J,.d (.refl _)⟩,trivial⟩ ⟨⟨ltd J,.inr ⟨by decide,_,J,.dat _ _⟩⟩,trivial⟩) ?_
  intro aa ft t
  unfold q60 at t
  refine qf<|qf<|Q5 [q0,q0,qo 0,q0,q0,q0,qo 0,q0,q0,q0,q0,q0,q0,q0] (by kernel_rfl)<|U J<|U J<|O (.d (.bool (decide (aa≤(w64 (s - 1)))))) J ?_
  obtain ⟨fe,m,t⟩:=q7 t
  refine Q3 11 (fun A st=>∃ (av aw ax ay az ba bb bc bd be : V),st = A [(43,qe fe),(42,be),(41,bd),(40,bc),(39,bb),(38,ba),(37,az),(36,ay),(35,ax),(34,aw),(33,av)]) ?_ ?_
  ·refine Q2 J J m (fun m=>?_) (fun m=>?_)
   ·refine U J<|U J ?_
    obtain ⟨bf,bg,m⟩:=q7 m
    refine qq bg J J<|Q0 (q6 bf) bg J<|U J<|U J ?_
    obtain ⟨bh,bi,m⟩:=q7 m
    refine qq bi J J<|Q0 (q6 bh) bi J ?_
    obtain ⟨bj,ff,m⟩:=q7 m
    refine qt (Yv bf bh bj ff) J<|O (qe bj) J<|q8 ?_
    obtain rfl:=qd m
    exact ⟨_,_,_,_,_,_,_,_,_,_,J⟩
   refine qa J<|qa J<|qa J<|qa J<|qa J<|qa J<|qa J<|qa J<|qa J<|O (qe false) J<|q8 ?_
   obtain rfl:=qd m
   exact ⟨_,_,_,_,_,_,_,_,_,_,J⟩
  rintro _ ⟨av,aw,ax,ay,az,ba,bb,bc,bd,be,rfl⟩
  refine q8 ?_
  refine qm J t (fun _ t=>?_) (fun _ t=>?_)
  ·refine qn<|Q1<|qw<|U J<|O (.d (G (w64 (aa + 1)))) J<|q9 J<|qs<|Qc<|Qa ?_
   exact ⟨_,(Option.some.inj t).symm,wkA [] [] []⟩
  refine Q6 ?_
  refine ⟨_,(Option.some.inj t).symm,fun hm=>?_⟩
  subst hm
  exact ⟨_,J,wkA [] [] []⟩
 intro l hb
 subst hb
 refine qf ?_
 obtain ⟨bk,fg,a⟩:=q7 a
 refine Qh (fun u=>u = bk) (fun (u : Int)=>⟨[(0,.hs 0 1 0 ((g.set b.toNat h).set k.toNat j).length),(1,q6 b),(10,q6 l),(11,q6 u)],[(0,.dat 1 (((g.set b.toNat h).set k.toNat j).map (eI .i64)))],1⟩) (by simp) ?_ ?_
 ·refine Q7 (q61 l g b h k j) (fun (ab : Int)=>⟨[(0,.hs 0 1 0 ((g.set b.toNat h).set k.toNat j).length),(1,q6 b),(10,q6 l),(11,q6 ab)],[(0,.dat 1 (((g.set b.toNat h).set k.toNat j).map (eI .i64)))],1⟩) (w64 (s - 1)) bk fg (wkA [] [] []) ?_
  intro ab fu v
  unfold q61 at v
  refine qf<|qf<|Q5 [q0,q0,q0,qo 0,q0,q0,q0,qo 0,q0,q0,q0,q0,q0,q0,q0] (by kernel_rfl)<|U J<|U J<|O (.d (.bool (decide (l≤ab)))) J ?_
  obtain ⟨fh,n,v⟩:=q7 v
  refine Q3 12 (fun A st=>∃ (bl bm bn bo bp bq br bs bt bu bv : V),st = A [(60,qe fh),(59,bv),(58,bu),(57,bt),(56,bs),(55,br),(54,bq),(53,bp),(52,bo),(51,bn),(50,bm),(49,bl)]) ?_ ?_
  ·refine Q2 J J n (fun n=>?_) (fun n=>?_)
   ·refine U J<|U J ?_
    obtain ⟨bw,bz,n⟩:=q7 n
    refine qq bz J J<|Q0 (q6 bw) bz J<|U J<|U J ?_
    obtain ⟨ca,cb,n⟩:=q7 n
    refine qq cb J J<|Q0 (q6 ca) cb J ?_
    obtain ⟨ag,fi,n⟩:=q7 n
    refine qt (Yv bw ca ag fi) J<|O (qe (!ag)) J<|O (qe (!ag)) J<|q8 ?_
    obtain rfl:=qd n
    exact ⟨_,_,_,_,_,_,_,_,_,_,_,J⟩
   refine qa J<|qa J<|qa J<|qa J<|qa J<|qa J<|qa J<|qa J<|qa J<|qa J<|O (qe false) J<|q8 ?_
   obtain rfl:=qd n
   exact ⟨_,_,_,_,_,_,_,_,_,_,_,J⟩
  rintro _ ⟨bl,bm,bn,bo,bp,bq,br,bs,bt,bu,bv,rfl⟩
  refine q8 ?_
  refine qm J v (fun _ v=>?_) (fun _ v=>?_)
  ·refine qn<|Q1<|qw<|U J<|O (.d (G (w64 (ab - 1)))) J<|q9 J<|qs<|Qc<|Qa ?_
   exact ⟨_,(Option.some.inj v).symm,wkA [] [] []⟩
  refine Q6 ?_
  refine ⟨_,(Option.some.inj v).symm,fun hm=>?_⟩
  subst hm
  exact ⟨_,J,wkA [] [] []⟩
 intro u hb
 subst hb
 refine qf<|qb<|U J<|U J<|O (.d (.bool (decide (l > u)))) J<|q8 ?_
 refine qm J a (fun _ a=>?_) (fun _ a=>?_)
 ·refine qf<|Q5 [Qd 0,q0,Qd 0,q0,qo 0,q0,q0,q0,qo 0,q0,q0,q0,q0,q0,q0,q0] (by kernel_rfl)<|U J<|U J<|U J<|U J<|U J<|U J ?_
  obtain ⟨ah,cc,a⟩:=q7 a
  refine qq cc J J<|Q0 (q6 ah) cc J<|U J<|U J ?_
  obtain ⟨ai,cd,a⟩:=q7 a
  refine qq cd J J<|Q0 (q6 ai) cd J ?_
  obtain ⟨fv,ce,a⟩:=q7 a
  refine qq ce J J<|Qk (ds:=[G ah]) ah ce J J J J J J J J (leb J) J ?_
  obtain ⟨fw,cf,a⟩:=q7 a
  refine qq cf (by simp) J<|Qk (ds:=[G ai]) ai cf J J J J J J J J (leb J) J<|qp<|U J<|q9 J<|q9 J<|qr ?_
  obtain rfl:=qd a
  exact ⟨.inr J,_,J,wkA [] [] []⟩
 refine qn<|qf<|Q5 [Qd 0,q0,Qd 0,q0,qo 0,q0,q0,q0,qo 0,q0,q0,q0,q0,q0,q0,q0] (by kernel_rfl)<|U J<|U J<|U J<|U J<|U J<|U J ?_
 obtain ⟨ac,cg,a⟩:=q7 a
 refine qq cg J J<|Q0 (q6 ac) cg J<|U J<|U J ?_
 obtain ⟨ad,ch,a⟩:=q7 a
 refine qq ch J J<|Q0 (q6 ad) ch J ?_
 obtain ⟨fx,ci,a⟩:=q7 a
 refine qq ci J J<|Qk (ds:=[G ac]) ac ci J J J J J J J J (leb J) J ?_
 obtain ⟨fy,cj,a⟩:=q7 a
 refine qq cj (by simp) J<|Qk (ds:=[G ad]) ad cj J J J J J J J J (leb J) J<|qp<|U J<|O (.d (G (w64 (l + 1)))) J<|q9 J<|qp<|U J<|O (.d (G (w64 (u - 1)))) J<|q9 J<|q8<|qf ?_
 obtain ⟨ck,fj,a⟩:=q7 a
 refine Qh (fun y=>y = ck) (fun (y : Int × List Int)=>⟨[(0,.hs 0 1 0 y.2.length),(1,q6 b),(11,q6 y.1)],[(0,.dat 1 (y.2.map (eI .i64)))],1⟩) (by simp) ?_ ?_
 ·refine Q7 (q62 b) (fun (c : Int × Int × List Int)=>⟨[(0,.hs 0 1 0 c.2.2.length),(1,q6 b),(10,q6 c.1),(11,q6 c.2.1)],[(0,.dat 1 (c.2.2.map (eI .i64)))],1⟩) (w64 (l + 1),w64 (u - 1),(((g.set b.toNat h).set k.toNat j).set l.toNat ac).set u.toNat ad) ck fj (wkE [] [] [] J ⟨⟨_,J,Qp (by simp) J (by decide) (ltd J)⟩,⟨_,J,.d (.refl _)⟩,⟨_,J,.d (.refl _)⟩,⟨_,J,.d (.refl _)⟩,trivial⟩ ⟨⟨ltd J,.inr ⟨by decide,_,J,.dat _ _⟩⟩,trivial⟩) ?_
  intro c fz f
  unfold q62 at f
  refine Q1<|qf ?_
  obtain ⟨cl,fk,f⟩:=q7 f
  refine Qh (fun q=>q = cl) (fun (q : Int)=>⟨[(0,.hs 0 1 0 c.2.2.length),(1,q6 b),(10,q6 q),(11,q6 c.2.1)],[(0,.dat 1 (c.2.2.map (eI .i64)))],1⟩) (by simp) ?_ ?_
  ·refine Q7 (q63 c b) (fun (ae : Int)=>⟨[(0,.hs 0 1 0 c.2.2.length),(1,q6 b),(10,q6 ae),(11,q6 c.2.1)],[(0,.dat 1 (c.2.2.map (eI .i64)))],1⟩) c.1 cl fk (wkA [] [] []) ?_
   intro ae ga w
   unfold q63 at w
   refine qf<|qf<|Q5 [q0,q0,qo 0,q0,q0,q0,qo 0,q0,q0,q0,q0,q0,q0,q0] (by kernel_rfl)<|U J<|U J<|O (.d (.bool (decide (ae≤c.2.1)))) J ?_
   obtain ⟨fl,o,w⟩:=q7 w
   refine Q3 11 (fun A st=>∃ (cm cn co cp cq cr cs ct cu cv : V),st = A [(112,qe fl),(111,cv),(110,cu),(109,ct),(108,cs),(107,cr),(106,cq),(105,cp),(104,co),(103,cn),(102,cm)]) ?_ ?_
   ·refine Q2 J J o (fun o=>?_) (fun o=>?_)
    ·refine U J<|U J ?_
     obtain ⟨cw,cx,o⟩:=q7 o
     refine qq cx J J<|Q0 (q6 cw) cx J<|U J<|U J ?_
     obtain ⟨cy,cz,o⟩:=q7 o
     refine qq cz J J<|Q0 (q6 cy) cz J ?_
     obtain ⟨da,fm,o⟩:=q7 o
     refine qt (Yv cw cy da fm) J<|O (qe da) J<|q8 ?_
     obtain rfl:=qd o
     exact ⟨_,_,_,_,_,_,_,_,_,_,J⟩
    refine qa J<|qa J<|qa J<|qa J<|qa J<|qa J<|qa J<|qa J<|qa J<|O (qe false) J<|q8 ?_
    obtain rfl:=qd o
    exact ⟨_,_,_,_,_,_,_,_,_,_,J⟩
   rintro _ ⟨cm,cn,co,cp,cq,cr,cs,ct,cu,cv,rfl⟩
   refine q8 ?_
   refine qm J w (fun _ w=>?_) (fun _ w=>?_)
   ·refine qn<|Q1<|qw<|U J<|O (.d (G (w64 (ae + 1)))) J<|q9 J<|qs<|Qc<|Qa ?_
    exact ⟨_,(Option.some.inj w).symm,wkA [] [] []⟩
   refine Q6 ?_
   refine ⟨_,(Option.some.inj w).symm,fun hm=>?_⟩
   subst hm
   exact ⟨_,J,wkA [] [] []⟩
  intro q hb
  subst hb
  refine qf ?_
  obtain ⟨dc,fn,f⟩:=q7 f
  refine Qh (fun z=>z = dc) (fun (z : Int)=>⟨[(0,.hs 0 1 0 c.2.2.length),(1,q6 b),(10,q6 q),(11,q6 z)],[(0,.dat 1 (c.2.2.map (eI .i64)))],1⟩) (by simp) ?_ ?_
  ·refine Q7 (q64 q c b) (fun (af : Int)=>⟨[(0,.hs 0 1 0 c.2.2.length),(1,q6 b),(10,q6 q),(11,q6 af)],[(0,.dat 1 (c.2.2.map (eI .i64)))],1⟩) c.2.1 dc fn (wkA [] [] []) ?_
   intro af gb x
   unfold q64 at x
   refine qf<|qf<|Q5 [q0,q0,q0,qo 0,q0,q0,q0,qo 0,q0,q0,q0,q0,q0,q0,q0] (by kernel_rfl)<|U J<|U J<|O (.d (.bool (decide (q≤af)))) J ?_
   obtain ⟨fo,p,x⟩:=q7 x
   refine Q3 12 (fun A st=>∃ (dd de df dg dh dj dk dl dm dn dp : V),st = A [(129,qe fo),(128,dp),(127,dn),(126,dm),(125,dl),(124,dk),(123,dj),(122,dh),(121,dg),(120,df),(119,de),(118,dd)]) ?_ ?_
   ·refine Q2 J J p (fun p=>?_) (fun p=>?_)
    ·refine U J<|U J ?_
     obtain ⟨dq,dr,p⟩:=q7 p
     refine qq dr J J<|Q0 (q6 dq) dr J<|U J<|U J ?_
     obtain ⟨dt,du,p⟩:=q7 p
     refine qq du J J<|Q0 (q6 dt) du J ?_
     obtain ⟨aj,fq,p⟩:=q7 p
     refine qt (Yv dq dt aj fq) J<|O (qe (!aj)) J<|O (qe (!aj)) J<|q8 ?_
     obtain rfl:=qd p
     exact ⟨_,_,_,_,_,_,_,_,_,_,_,J⟩
    refine qa J<|qa J<|qa J<|qa J<|qa J<|qa J<|qa J<|qa J<|qa J<|qa J<|O (qe false) J<|q8 ?_
    obtain rfl:=qd p
    exact ⟨_,_,_,_,_,_,_,_,_,_,_,J⟩
   rintro _ ⟨dd,de,df,dg,dh,dj,dk,dl,dm,dn,dp,rfl⟩
   refine q8 ?_
   refine qm J x (fun _ x=>?_) (fun _ x=>?_)
   ·refine qn<|Q1<|qw<|U J<|O (.d (G (w64 (af - 1)))) J<|q9 J<|qs<|Qc<|Qa ?_
    exact ⟨_,(Option.some.inj x).symm,wkA [] [] []⟩
   refine Q6 ?_
   refine ⟨_,(Option.some.inj x).symm,fun hm=>?_⟩
   subst hm
   exact ⟨_,J,wkA [] [] []⟩
  intro z hb
  subst hb
  refine qf<|qb<|U J<|U J<|O (.d (.bool (decide (q > z)))) J<|q8 ?_
  refine qm J f (fun _ f=>?_) (fun _ f=>?_)
  ·refine Q6 ?_
   refine ⟨_,(Option.some.inj f).symm,fun hm=>?_⟩
   subst hm
   exact ⟨_,J,wkA [] [] []⟩
  refine qn<|qf<|Q5 [Qd 0,q0,Qd 0,q0,qo 0,q0,q0,q0,qo 0,q0,q0,q0,q0,q0,q0,q0] (by kernel_rfl)<|U J<|U J<|U J<|U J<|U J<|U J ?_
  obtain ⟨ak,dv,f⟩:=q7 f
  refine qq dv J J<|Q0 (q6 ak) dv J<|U J<|U J ?_
  obtain ⟨al,dw,f⟩:=q7 f
  refine qq dw J J<|Q0 (q6 al) dw J ?_
  obtain ⟨gc,dx,f⟩:=q7 f
  refine qq dx J J<|Qk (ds:=[G ak]) ak dx J J J J J J J J (leb J) J ?_
  obtain ⟨gd,dy,f⟩:=q7 f
  refine qq dy (by simp) J<|Qk (ds:=[G al]) al dy J J J J J J J J (leb J) J<|qp<|U J<|O (.d (G (w64 (q + 1)))) J<|q9 J<|q8<|qw<|U J<|O (.d (G (w64 (z - 1)))) J<|q9 J<|qs<|Qc<|Qa ?_
  exact ⟨_,(Option.some.inj f).symm,wkE [] [] [] J ⟨⟨_,J,Qp (by simp) J (by decide) (ltd J)⟩,⟨_,J,.d (.refl _)⟩,⟨_,J,.d (.refl _)⟩,⟨_,J,.d (.refl _)⟩,trivial⟩ ⟨⟨ltd J,.inr ⟨by decide,_,J,.dat _ _⟩⟩,trivial⟩⟩
 intro y hb
 subst hb
 refine qf<|Q5 [Qd 0,q0,Qd 0,q0,qo 0,q0,q0,q0,qo 0,q0,q0,q0,q0,q0,q0,q0] (by kernel_rfl)<|U J<|U J<|U J<|U J<|U J<|U J ?_
 obtain ⟨am,dz,a⟩:=q7 a
 refine qq dz J J<|Q0 (q6 am) dz J<|U J<|U J ?_
 obtain ⟨an,fa,a⟩:=q7 a
 refine qq fa J J<|Q0 (q6 an) fa J ?_
 obtain ⟨ge,fb,a⟩:=q7 a
 refine qq fb J J<|Qk (ds:=[G am]) am fb J J J J J J J J (leb J) J ?_
 obtain ⟨gf,fc,a⟩:=q7 a
 refine qq fc (by simp) J<|Qk (ds:=[G an]) an fc J J J J J J J J (leb J) J<|qp<|U J<|q9 J<|q9 J<|qr ?_
 obtain rfl:=qd a
 exact ⟨.inr J,_,J,wkA [] [] []⟩
theorem qk7 (b : Int) (r : Int) (a : q10 b = some r) : Pure Tryz.prog tab 159 [G b] (.int .u64 r):=by
 unfold q10 at a
 refine Qb Tryz.func159 J (by kernel_rfl) (by kernel_rfl) J<|qb<|q9 J<|qp<|U J<|O (.d (.int .u64 (IntKind.wrap .u64 b))) J ?_
 obtain ⟨c,f,a⟩:=q7 a
 refine qt (qd4 (IntKind.wrap .u64 b) c f) J ?_
 obtain ⟨g,h,a⟩:=q7 a
 refine qqp h J J J<|q9 J<|qr ?_
 obtain rfl:=qd a
 exact qz (.d (.int .u64 g)) J
theorem qka (a : Int) (r : Int) (b : q11  a = some r) : Qt Tryz.prog tab 160 [.ref 0 1 0 0] [(0,.dat 1 [[.int .u64 a]])] 1 (.d (.int .u64 r)) [(0,.dat 1 [[.int .u64 r]])] 1:=by
 unfold q11 at b
 refine K3 Tryz.func160 J (by kernel_rfl) (by kernel_rfl) J<|qb<|q9 J<|q8<|qf<|Q5 [Qd 0,q0,q0,q0,qo 0,q0,q0,qo 0,q0,q0] (by kernel_rfl)<|U J<|O (.ref 0 1 0 0) J<|O (.d (.int .u64 a)) J<|U J<|O (.ref 0 1 0 0) J<|O (.d (.int .u64 a)) J<|O (.d (.int .u64 (IntKind.wrap .u64 (a * (2 ^ 13))))) J<|O (.d (.int .u64 (xorI .u64 a (IntKind.wrap .u64 (a * (2 ^ 13)))))) J<|O (.ref 0 1 0 0) J<|Q8 0 (.dat 1 [[.int .u64 (xorI .u64 a (IntKind.wrap .u64 (a * (2 ^ 13))))]]) J<|q8<|qf<|Q5 [Qd 0,q0,q0,q0,qo 0,q0,q0,qo 0,q0,q0] (by kernel_rfl)<|U J<|O (.ref 0 1 0 0) J<|O (.d (.int .u64 (xorI .u64 a (IntKind.wrap .u64 (a * (2 ^ 13)))))) J<|U J<|O (.ref 0 1 0 0) J<|O (.d (.int .u64 (xorI .u64 a (IntKind.wrap .u64 (a * (2 ^ 13)))))) J<|O (.d (.int .u64 (Int.fdiv (xorI .u64 a (IntKind.wrap .u64 (a * (2 ^ 13)))) (2 ^ 7)))) J<|O (.d (.int .u64 (xorI .u64 (xorI .u64 a (IntKind.wrap .u64 (a * (2 ^ 13)))) (Int.fdiv (xorI .u64 a (IntKind.wrap .u64 (a * (2 ^ 13)))) (2 ^ 7))))) J<|O (.ref 0 1 0 0) J<|Q8 0 (.dat 1 [[.int .u64 (xorI .u64 (xorI .u64 a (IntKind.wrap .u64 (a * (2 ^ 13)))) (Int.fdiv (xorI .u64 a (IntKind.wrap .u64 (a * (2 ^ 13)))) (2 ^ 7)))]]) J<|q8<|qf<|Q5 [Qd 0,q0,q0,q0,qo 0,q0,q0,qo 0,q0,q0] (by kernel_rfl)<|U J<|O (.ref 0 1 0 0) J<|O (.d (.int .u64 (xorI .u64 (xorI .u64 a (IntKind.wrap .u64 (a * (2 ^ 13)))) (Int.fdiv (xorI .u64 a (IntKind.wrap .u64 (a * (2 ^ 13)))) (2 ^ 7))))) J<|U J<|O (.ref 0 1 0 0) J<|O (.d (.int .u64 (xorI .u64 (xorI .u64 a (IntKind.wrap .u64 (a * (2 ^ 13)))) (Int.fdiv (xorI .u64 a (IntKind.wrap .u64 (a * (2 ^ 13)))) (2 ^ 7))))) J<|O (.d (.int .u64 (IntKind.wrap .u64 ((xorI .u64 (xorI .u64 a (IntKind.wrap .u64 (a * (2 ^ 13)))) (Int.fdiv (xorI .u64 a (IntKind.wrap .u64 (a * (2 ^ 13)))) (2 ^ 7))) * (2 ^ 17))))) J<|O (.d (.int .u64 (xorI .u64 (xorI .u64 (xorI .u64 a (IntKind.wrap .u64 (a * (2 ^ 13)))) (Int.fdiv (xorI .u64 a (IntKind.wrap .u64 (a * (2 ^ 13)))) (2 ^ 7))) (IntKind.wrap .u64 ((xorI .u64 (xorI .u64 a (IntKind.wrap .u64 (a * (2 ^ 13)))) (Int.fdiv (xorI .u64 a (IntKind.wrap .u64 (a * (2 ^ 13)))) (2 ^ 7))) * (2 ^ 17)))))) J ?_
 refine O (.ref 0 1 0 0) J<|Q8 0 (.dat 1 [[.int .u64 (xorI .u64 (xorI .u64 (xorI .u64 a (IntKind.wrap .u64 (a * (2 ^ 13)))) (Int.fdiv (xorI .u64 a (IntKind.wrap .u64 (a * (2 ^ 13)))) (2 ^ 7))) (IntKind.wrap .u64 ((xorI .u64 (xorI .u64 a (IntKind.wrap .u64 (a * (2 ^ 13)))) (Int.fdiv (xorI .u64 a (IntKind.wrap .u64 (a * (2 ^ 13)))) (2 ^ 7))) * (2 ^ 17))))]]) J<|qp<|U J<|O (.ref 0 1 0 0) J<|O (.d (.int .u64 (xorI .u64 (xorI .u64 (xorI .u64 a (IntKind.wrap .u64 (a * (2 ^ 13)))) (Int.fdiv (xorI .u64 a (IntKind.wrap .u64 (a * (2 ^ 13)))) (2 ^ 7))) (IntKind.wrap .u64 ((xorI .u64 (xorI .u64 a (IntKind.wrap .u64 (a * (2 ^ 13)))) (Int.fdiv (xorI .u64 a (IntKind.wrap .u64 (a * (2 ^ 13)))) (2 ^ 7))) * (2 ^ 17)))))) J<|q9 J<|qr ?_
 obtain rfl:=qd b
 exact ⟨.inr J,_,J,wkA [] [] []⟩
theorem quy (m : List Int) (a : Int) (b : Int) (r : List Int) (g : q5h  m a b = some r) : Qt Tryz.prog tab 146 [.hs 0 1 0 m.length,q6 a,q6 b] [(0,.dat 1 (m.map (eI .i64)))] 1 (.d (.tup [])) [(0,.dat 1 (r.map (eI .i64)))] 1:=by
 unfold q5h at g
 refine K3 Tryz.func146 J (by kernel_rfl) (by kernel_rfl) J<|qb<|U J<|U J<|O (.d (G (w64 (b - a)))) J<|q9 J<|qp<|U J<|O (.d (.bool (decide ((w64 (b - a)) ≥ 8)))) J<|q8 ?_
 refine qm J g (fun _ g=>?_) (fun _ g=>?_)
 ·refine qb<|U J<|O (.d (.int .u64 (IntKind.wrap .u64 (w64 (b - a))))) J<|Qo J J<|Q8 1 (.dat 1 [[.int .u64 (IntKind.wrap .u64 (w64 (b - a)))]]) J<|qp<|U J ?_
  obtain ⟨h,u,g⟩:=q7 g
  refine qt (qk7 (w64 (b - a)) h u) J<|q9 J<|qp<|U J<|U J<|O (.d (G (w64 (Int.tdiv (w64 (b - a)) 4)))) J<|O (.d (G (w64 ((w64 (Int.tdiv (w64 (b - a)) 4)) * 2)))) J<|O (.d (G (w64 (a + (w64 ((w64 (Int.tdiv (w64 (b - a)) 4)) * 2)))))) J<|O (.d (G (w64 ((w64 (a + (w64 ((w64 (Int.tdiv (w64 (b - a)) 4)) * 2)))) - 1)))) J<|q9 J<|q8 ?_
  obtain ⟨v,w,g⟩:=q7 g
  refine Q1<|Q7 (q5i a b h) (fun (f : Int × List Int × Int)=>⟨[(0,.hs 0 1 0 f.2.1.length),(1,q6 a),(6,.d (G (w64 (b - a)))),(7,.ref 1 1 0 0),(8,.d (.int .u64 h)),(9,q6 f.1)],[(0,.dat 1 (f.2.1.map (eI .i64))),(1,.dat 1 [[.int .u64 f.2.2]])],2⟩) (w64 ((w64 (a + (w64 ((w64 (Int.tdiv (w64 (b - a)) 4)) * 2)))) - 1),m,IntKind.wrap .u64 (w64 (b - a))) v w (wkA [(1,1)] [] []) ?_
  intro f z c
  unfold q5i at c
  refine qf<|qb<|U J<|U J<|U J<|O (.d (G (w64 (Int.tdiv (w64 (b - a)) 4)))) J<|O (.d (G (w64 ((w64 (Int.tdiv (w64 (b - a)) 4)) * 2)))) J<|O (.d (G (w64 (a + (w64 ((w64 (Int.tdiv (w64 (b - a)) 4)) * 2)))))) J<|O (.d (G (w64 ((w64 (a + (w64 ((w64 (Int.tdiv (w64 (b - a)) 4)) * 2)))) + 1)))) J<|O (.d (.bool (decide (f.1≤(w64 ((w64 (a + (w64 ((w64 (Int.tdiv (w64 (b - a)) 4)) * 2)))) + 1)))))) J<|q8 ?_
  refine qm J c (fun _ c=>?_) (fun _ c=>?_)
  ·refine qn<|qf<|Q1<|qb ?_
   obtain ⟨j,x,c⟩:=q7 c
   refine Qw [(0,1)] [(0,1),(1,0)] [.ref 1 1 0 0] (.d (.int .u64 j)) 1 [(1,.dat 1 [[.int .u64 j]]),(0,.dat 1 (f.2.1.map (eI .i64)))] 2 (qka f.2.2 j x)<|U J<|O (.d (.int .u64 (IntKind.wrap .u64 (h - 1)))) J<|O (.d (.int .u64 (andI .u64 j (IntKind.wrap .u64 (h - 1))))) J<|O (.d (G (w64 (andI .u64 j (IntKind.wrap .u64 (h - 1)))))) J<|q9 J<|q8<|qf<|qb<|U J<|U J<|O (.d (.bool (decide ((w64 (andI .u64 j (IntKind.wrap .u64 (h - 1)))) ≥ (w64 (b - a)))))) J<|q8 ?_
   obtain ⟨y,l,c⟩:=q7 c
   refine Y3 (fun k=>k = y) (fun (k : Int)=>⟨[(0,.hs 0 1 0 f.2.1.length),(1,q6 a),(6,.d (G (w64 (b - a)))),(7,.ref 1 1 0 0),(8,.d (.int .u64 h)),(9,q6 f.1),(10,q6 k)],[(0,.dat 1 (f.2.1.map (eI .i64))),(1,.dat 1 [[.int .u64 j]])],2⟩) (by simp) ?_ ?_
   ·refine qm J l (fun _ l=>?_) (fun _ l=>?_)
    ·refine qw<|U J<|U J<|O (.d (G (w64 ((w64 (andI .u64 j (IntKind.wrap .u64 (h - 1)))) - (w64 (b - a)))))) J<|q9 J<|qs ?_
     obtain rfl:=qd l
     exact ⟨_,J,wkA [(1,1)] [] []⟩
    refine qn<|Qa ?_
    obtain rfl:=qd l
    exact ⟨_,J,wkA [(1,1)] [] []⟩
   intro k hb
   subst hb
   refine Q5 [Qd 0,q0,Qd 0,q0,qo 0,q0,q0,q0,qo 0,q0,q0,q0,q0,q0,q0,q0,q0,q0,q0,q0] (by kernel_rfl)<|U J<|U J<|U J<|U J<|U J<|O (.d (G (w64 (a + k)))) J<|U J<|U J<|U J<|O (.d (G (w64 (a + k)))) J ?_
   obtain ⟨n,p,c⟩:=q7 c
   refine qq p J J<|Q0 (q6 n) p J<|U J<|U J ?_
   obtain ⟨o,q,c⟩:=q7 c
   refine qq q J J<|Q0 (q6 o) q J ?_
   obtain ⟨aa,s,c⟩:=q7 c
   refine qq s J J<|Qk (ds:=[G n]) n s J J J J J J J J (leb J) J ?_
   obtain ⟨ab,t,c⟩:=q7 c
   refine qq t (by simp) J<|Qk (ds:=[G o]) o t J J J J J J J J (leb J) J<|qs<|Qc<|qw<|U J<|O (.d (G (w64 (f.1 + 1)))) J<|q9 J<|qs ?_
   exact ⟨_,(Option.some.inj c).symm,wkE [(1,1)] [] [] J ⟨⟨_,J,Qp (by simp) J (by decide) (ltd J)⟩,⟨_,J,.d (.refl _)⟩,⟨_,J,.d (.refl _)⟩,⟨_,J,.ref J (by decide) (ltd J)⟩,⟨_,J,.d (.refl _)⟩,⟨_,J,.d (.refl _)⟩,trivial⟩ ⟨⟨ltd J,.inr ⟨by decide,_,J,.dat _ _⟩⟩,⟨ltd J,.inr ⟨by decide,_,J,.dat _ _⟩⟩,trivial⟩⟩
  refine Q6 ?_
  refine ⟨_,(Option.some.inj c).symm,fun hm=>?_⟩
  subst hm
  obtain rfl:=qd g
  exact ⟨.inl J,_,J,wkA [] [] []⟩
 refine qn<|Qa ?_
 obtain rfl:=qd g
 exact ⟨.inl J,_,J,wkA [] [] []⟩
theorem qvd (rec : List Int→Int→Int→Int→Option (List Int)) (hrec : ∀ (n : List Int) (o : Int) (p : Int) (q : Int) (r : List Int),rec n o p q = some r→Qt Tryz.prog tab 132 [.hs 0 1 0 n.length,q6 o,q6 p,q6 q] [(0,.dat 1 (n.map (eI .i64)))] 1 (.d (.tup [])) [(0,.dat 1 (r.map (eI .i64)))] 1) (n : List Int) (o : Int) (p : Int) (q : Int) (r : List Int) (s : q3j rec  n o p q = some r) : Qt Tryz.prog tab 132 [.hs 0 1 0 n.length,q6 o,q6 p,q6 q] [(0,.dat 1 (n.map (eI .i64)))] 1 (.d (.tup [])) [(0,.dat 1 (r.map (eI .i64)))] 1:=by
 unfold q3j at s
 refine K3 Tryz.func132 J (by kernel_rfl) (by kernel_rfl) J<|qb<|q9 J<|qp<|q9 J<|q8 ?_
 obtain ⟨bd,be,s⟩:=q7 s
 refine Q1<|Q7 (q3i rec) (fun (a : Int × Int × Int × Bool × Bool × List Int)=>⟨[(0,.hs 0 1 0 a.2.2.2.2.2.length),(1,q6 a.1),(2,q6 a.2.1),(3,q6 a.2.2.1),(8,qe a.2.2.2.1),(9,qe a.2.2.2.2.1)],[(0,.dat 1 (a.2.2.2.2.2.map (eI .i64)))],1⟩) (o,p,q,true,true,n) bd be (wkA [] [] []) ?_
 intro a cn b
 unfold q3i at b
 refine Q1<|qb<|U J<|U J<|O (.d (G (w64 (a.2.1 - a.1)))) J<|q9 J<|q8<|qf<|qb<|U J<|O (.d (.bool (decide ((w64 (a.2.1 - a.1))≤12)))) J<|q8 ?_
 refine qm J b (fun _ b=>?_) (fun _ b=>?_)
 ·refine qb<|U J<|U J<|U J ?_
  obtain ⟨ac,bf,b⟩:=q7 b
  obtain ⟨co,bg,b⟩:=q7 b
  have cp:=K7 bg
  refine Qw [(0,0)] [(0,0)] [.hs 0 1 0 a.2.2.2.2.2.length,q6 a.1,q6 a.2.1] (.d (.tup [])) 1 [(0,.dat 1 (ac.map (eI .i64)))] 1 (qv4 a.2.2.2.2.2 a.1 a.2.1 ac bf)<|qr ?_
  refine ⟨_,(Option.some.inj b).symm,fun hm=>?_⟩
  subst hm
  obtain rfl:=qd s
  exact ⟨.inr J,_,J,wkA [] [] []⟩
 refine qn<|qf<|qb<|U J<|O (qe (a.2.2.1 == 0)) J<|q8 ?_
 refine qm J b (fun _ b=>?_) (fun _ b=>?_)
 ·refine qb<|U J<|U J<|U J ?_
  obtain ⟨ad,bh,b⟩:=q7 b
  obtain ⟨cq,bi,b⟩:=q7 b
  have cr:=K7 bi
  refine Qw [(0,0)] [(0,0)] [.hs 0 1 0 a.2.2.2.2.2.length,q6 a.1,q6 a.2.1] (.d (.tup [])) 1 [(0,.dat 1 (ad.map (eI .i64)))] 1 (qv2 a.2.2.2.2.2 a.1 a.2.1 ad bh)<|qr ?_
  refine ⟨_,(Option.some.inj b).symm,fun hm=>?_⟩
  subst hm
  obtain rfl:=qd s
  exact ⟨.inr J,_,J,wkA [] [] []⟩
 refine qn<|qf<|qb<|U J<|O (qe (!a.2.2.2.1)) J<|q8 ?_
 obtain ⟨bj,l,b⟩:=q7 b
 refine Y3 (fun f=>f = bj) (fun (f : Int × List Int)=>⟨[(0,.hs 0 1 0 f.2.length),(1,q6 a.1),(2,q6 a.2.1),(3,q6 f.1),(8,qe a.2.2.2.1),(9,qe a.2.2.2.2.1),(10,.d (G (w64 (a.2.1 - a.1))))],[(0,.dat 1 (f.2.map (eI .i64)))],1⟩) (by simp) ?_ ?_
 ·refine qm J l (fun _ l=>?_) (fun _ l=>?_)
  ·refine qb<|U J<|U J<|U J ?_
   obtain ⟨ae,bk,l⟩:=q7 l
   obtain ⟨cs,bl,l⟩:=q7 l
   have bm:=K7 bl
   refine Qw [(0,0)] [(0,0)] [.hs 0 1 0 a.2.2.2.2.2.length,q6 a.1,q6 a.2.1] (.d (.tup [])) 1 [(0,.dat 1 (ae.map (eI .i64)))] 1 (quy a.2.2.2.2.2 a.1 a.2.1 ae bk)<|q8<|qw<|U J<|O (.d (G (w64 (a.2.2.1 - 1)))) J<|q9 J<|qs ?_
   obtain rfl:=qd l
   exact ⟨_,J,wkE [] [] [] J ⟨⟨_,J,Qp (by simp [bm]) J (by decide) (ltd J)⟩,⟨_,J,.d (.refl _)⟩,⟨_,J,.d (.refl _)⟩,⟨_,J,.d (.refl _)⟩,⟨_,J,.d (.refl _)⟩,⟨_,J,.d (.refl _)⟩,⟨_,J,.d (.refl _)⟩,trivial⟩ ⟨⟨ltd J,.inr ⟨by decide,_,J,.dat _ _⟩⟩,trivial⟩⟩
  refine qn<|Qa ?_
  obtain rfl:=qd l
  exact ⟨_,J,wkA [] [] []⟩
 intro f hb
 subst hb
 refine qb<|U J<|U J<|U J ?_
 obtain ⟨t,bn,b⟩:=q7 b
 refine q7d [.hs 0 1 0 f.2.length,q6 a.1,q6 a.2.1] (qv0 f.2 a.1 a.2.1 t bn) J J (J5 (J2 J J) (J5 J (J5 J J))) (.inr J)<|U J<|O (q6 t.1) J<|O (q6 t.2) J<|q9 J<|q9 J<|q8<|qf<|qb<|U J<|O (qe (t.2 == 2)) J<|q8 ?_
 obtain ⟨bo,m,b⟩:=q7 b
 refine Y3 (fun g=>g = bo) (fun (g : Int × Int × List Int)=>⟨[(0,.hs 0 1 0 g.2.2.length),(1,q6 a.1),(2,q6 a.2.1),(3,q6 f.1),(8,qe a.2.2.2.1),(9,qe a.2.2.2.2.1),(10,.d (G (w64 (a.2.1 - a.1)))),(11,q6 g.1),(12,q6 g.2.1)],[(0,.dat 1 (g.2.2.map (eI .i64)))],1⟩) (by simp) ?_ ?_
 ·refine qm J m (fun _ m=>?_) (fun _ m=>?_)
  ·refine qb<|U J<|U J<|U J ?_
   obtain ⟨af,bp,m⟩:=q7 m
   obtain ⟨ct,bq,m⟩:=q7 m
   have br:=K7 bq
   refine Qw [(0,0)] [(0,0)] [.hs 0 1 0 f.2.length,q6 a.1,q6 a.2.1] (.d (.tup [])) 1 [(0,.dat 1 (af.map (eI .i64)))] 1 (qvg f.2 a.1 a.2.1 af bp)<|qp<|U J<|O (.d (G (w64 (a.2.1 - 1)))) J<|U J<|U J<|O (.d (G (w64 (t.1 - a.1)))) J<|O (.d (G (w64 ((w64 (a.2.1 - 1)) - (w64 (t.1 - a.1)))))) J<|q9 J<|q8<|qw<|q9 J<|qs ?_
   obtain rfl:=qd m
   exact ⟨_,J,wkE [] [] [] J ⟨⟨_,J,Qp (by simp [br]) J (by decide) (ltd J)⟩,⟨_,J,.d (.refl _)⟩,⟨_,J,.d (.refl _)⟩,⟨_,J,.d (.refl _)⟩,⟨_,J,.d (.refl _)⟩,⟨_,J,.d (.refl _)⟩,⟨_,J,.d (.refl _)⟩,⟨_,J,.d (.refl _)⟩,⟨_,J,.d (.refl _)⟩,trivial⟩ ⟨⟨ltd J,.inr ⟨by decide,_,J,.dat _ _⟩⟩,trivial⟩⟩
  refine qn<|Qa ?_
  obtain rfl:=qd m
  exact ⟨_,J,wkA [] [] []⟩
 intro g hb
 subst hb
 refine qf<|qb<|U J ?_
 obtain ⟨bs,u,b⟩:=q7 b
 refine Q3 3 (fun A st=>∃ (ag ah : V),st = A [(64,qe bs),(63,ah),(62,ag)]) ?_ ?_
 ·refine Q2 J J u (fun u=>?_) (fun u=>?_)
  ·refine U J<|O (qe a.2.2.2.2.1) J<|q8 ?_
   obtain rfl:=qd u
   exact ⟨_,_,J⟩
  refine qa J<|O (qe false) J<|q8 ?_
  obtain rfl:=qd u
  exact ⟨_,_,J⟩
 rintro _ ⟨ag,ah,rfl⟩
 obtain ⟨bt,v,b⟩:=q7 b
 refine Q3 4 (fun A st=>∃ (ai aj ak : V),st = A [(68,qe bt),(67,ak),(66,aj),(65,ai)]) ?_ ?_
 ·refine Q2 J J v (fun v=>?_) (fun v=>?_)
  ·refine U J<|O (qe (g.2.1 == 1)) J<|O (qe (g.2.1 == 1)) J<|q8 ?_
   obtain rfl:=qd v
   exact ⟨_,_,_,J⟩
  refine qa J<|qa J<|O (qe false) J<|q8 ?_
  obtain rfl:=qd v
  exact ⟨_,_,_,J⟩
 rintro _ ⟨ai,aj,ak,rfl⟩
 refine q8 ?_
 obtain ⟨bu,h,b⟩:=q7 b
 refine Y3 (fun j=>.inl j = bu) (fun (j : List Int)=>⟨[(0,.hs 0 1 0 j.length),(1,q6 a.1),(2,q6 a.2.1),(3,q6 f.1),(8,qe a.2.2.2.1),(9,qe a.2.2.2.2.1),(10,.d (G (w64 (a.2.1 - a.1)))),(11,q6 g.1)],[(0,.dat 1 (j.map (eI .i64)))],1⟩) (by simp) ?_ ?_
 ·refine qm J h (fun _ h=>?_) (fun _ h=>?_)
  ·refine qb<|U J<|U J<|U J ?_
   obtain ⟨x,bv,h⟩:=q7 h
   obtain ⟨cu,bw,h⟩:=q7 h
   have bz:=K7 bw
   refine Qw [(0,0)] [(0,0)] [.hs 0 1 0 g.2.2.length,q6 a.1,q6 a.2.1] (qe x.1) 1 [(0,.dat 1 (x.2.map (eI .i64)))] 1 (qv6 g.2.2 a.1 a.2.1 x bv)<|q8 ?_
   refine qm J h (fun _ h=>?_) (fun _ h=>?_)
   ·refine q39 ?_
    obtain rfl:=qd h
    refine ⟨_,(Option.some.inj b).symm,fun hm=>?_⟩
    subst hm
    obtain rfl:=qd s
    exact ⟨.inr J,_,J,wkA [] [] []⟩
   refine qn<|Qa ?_
   obtain rfl:=qd h
   exact ⟨_,J,wkE [] [] [] J ⟨⟨_,J,Qp (by simp [bz]) J (by decide) (ltd J)⟩,⟨_,J,.d (.refl _)⟩,⟨_,J,.d (.refl _)⟩,⟨_,J,.d (.refl _)⟩,⟨_,J,.d (.refl _)⟩,⟨_,J,.d (.refl _)⟩,⟨_,J,.d (.refl _)⟩,⟨_,J,.d (.refl _)⟩,trivial⟩ ⟨⟨ltd J,.inr ⟨by decide,_,J,.dat _ _⟩⟩,trivial⟩⟩
  refine qn<|Qa ?_
  obtain rfl:=qd h
  exact ⟨_,J,wkA [] [] []⟩
 intro j hb
 subst hb
 refine qf<|qf<|Q5 [q0,q0,q0,qo 0,q0,q0,q0,qo 0,q0,q0,q0,q0,q0,q0,q0] (by kernel_rfl)<|U J<|O (.d (.bool (decide (a.1 > 0)))) J ?_
 obtain ⟨ca,k,b⟩:=q7 b
 refine Q3 13 (fun A st=>∃ (al am an ao ap aq ar au av aw ax ay : V),st = A [(87,qe ca),(86,ay),(85,ax),(84,aw),(83,av),(82,au),(81,ar),(80,aq),(79,ap),(78,ao),(77,an),(76,am),(75,al)]) ?_ ?_
 ·refine Q2 J J k (fun k=>?_) (fun k=>?_)
  ·refine U J<|U J<|O (.d (G (w64 (a.1 - 1)))) J ?_
   obtain ⟨az,ba,k⟩:=q7 k
   refine qq ba J J<|Q0 (q6 az) ba J<|U J<|U J ?_
   obtain ⟨bb,bc,k⟩:=q7 k
   refine qq bc J J<|Q0 (q6 bb) bc J ?_
   obtain ⟨y,cb,k⟩:=q7 k
   refine qt (Yv az bb y cb) J<|O (qe (!y)) J<|O (qe (!y)) J<|q8 ?_
   obtain rfl:=qd k
   exact ⟨_,_,_,_,_,_,_,_,_,_,_,_,J⟩
  refine qa J<|qa J<|qa J<|qa J<|qa J<|qa J<|qa J<|qa J<|qa J<|qa J<|qa J<|O (qe false) J<|q8 ?_
  obtain rfl:=qd k
  exact ⟨_,_,_,_,_,_,_,_,_,_,_,_,J⟩
 rintro _ ⟨al,am,an,ao,ap,aq,ar,au,av,aw,ax,ay,rfl⟩
 refine q8 ?_
 refine qm J b (fun _ b=>?_) (fun _ b=>?_)
 ·refine qb<|U J<|U J<|U J<|U J ?_
  obtain ⟨z,cc,b⟩:=q7 b
  obtain ⟨cv,cd,b⟩:=q7 b
  have ce:=K7 cd
  refine Qw [(0,0)] [(0,0)] [.hs 0 1 0 j.length,q6 a.1,q6 a.2.1,q6 g.1] (q6 z.1) 1 [(0,.dat 1 (z.2.map (eI .i64)))] 1 (qv9 j a.1 a.2.1 g.1 z cc)<|q9 J<|qp<|U J<|q9 J<|q8<|Q6<|q2b<|Qa ?_
  exact ⟨_,(Option.some.inj b).symm,wkE [] [] [] J ⟨⟨_,J,Qp (by simp [ce]) J (by decide) (ltd J)⟩,⟨_,J,.d (.refl _)⟩,⟨_,J,.d (.refl _)⟩,⟨_,J,.d (.refl _)⟩,⟨_,J,.d (.refl _)⟩,⟨_,J,.d (.refl _)⟩,trivial⟩ ⟨⟨ltd J,.inr ⟨by decide,_,J,.dat _ _⟩⟩,trivial⟩⟩
 refine qn<|qb<|U J<|U J<|U J<|U J ?_
 obtain ⟨c,cf,b⟩:=q7 b
 obtain ⟨cw,cg,b⟩:=q7 b
 have w:=K7 cg
 refine Qw [(0,0)] [(0,0)] [.hs 0 1 0 j.length,q6 a.1,q6 a.2.1,q6 g.1] (.d (.tup [G c.1,.bool c.2.1])) 1 [(0,.dat 1 (c.2.2.map (eI .i64)))] 1 (qva j a.1 a.2.1 g.1 c cf)<|U J<|O (q6 c.1) J<|O (qe c.2.1) J<|q9 J<|q9 J<|qp<|U J<|q9 J<|qp<|U J<|U J<|O (.d (G (w64 (c.1 - a.1)))) J<|U J<|U J<|O (.d (G (w64 (a.2.1 - c.1)))) J<|q9 J<|q9 J<|qp<|U J<|O (.d (G (w64 (Int.tdiv (w64 (a.2.1 - a.1)) 8)))) J<|q9 J<|qp<|U J<|U J<|O (.d (.bool (decide ((w64 (c.1 - a.1)) < (w64 (a.2.1 - c.1)))))) J<|q8 ?_
 refine qm J b (fun _ b=>?_) (fun _ b=>?_)
 ·refine qb<|U J<|U J<|O (.d (.bool (decide ((w64 (c.1 - a.1)) ≥ (w64 (Int.tdiv (w64 (a.2.1 - a.1)) 8)))))) J<|q9 J<|qp<|U J<|U J<|U J<|U J ?_
  obtain ⟨aa,ch,b⟩:=q7 b
  obtain ⟨cx,ci,b⟩:=q7 b
  have cj:=K7 ci
  refine U3 [(0,0)] [(0,0)] [.hs 0 1 0 j.length,q6 a.1,q6 c.1,q6 f.1] (.d (.tup [])) [(0,.dat 1 (aa.map (eI .i64)))] [(0,.dat 1 (aa.map (eI .i64)))] 1 (hrec c.2.2 a.1 c.1 f.1 aa ch) J J J (Y7 [(0,0)] [] [] J ⟨⟨_,J,Qp (by simp [w]) J (by decide) (ltd J)⟩,⟨_,J,.d (.refl _)⟩,⟨_,J,.d (.refl _)⟩,⟨_,J,.d (.refl _)⟩,trivial⟩ ⟨⟨ltd J,.inr ⟨by decide,_,J,.dat _ _⟩⟩,trivial⟩) (Y7 [(0,0)] [] [] J ⟨⟨_,J,.d (.refl _)⟩,trivial⟩ ⟨⟨ltd J,.inr ⟨by decide,_,J,.dat _ _⟩⟩,trivial⟩) J ⟨.inl J,trivial⟩<|q8<|qw<|U J<|O (.d (G (w64 (c.1 + 1)))) J<|q9 J<|qs<|Qc<|Qa ?_
  exact ⟨_,(Option.some.inj b).symm,wkE [] [] [] J ⟨⟨_,J,Qp (by simp [w,cj]) J (by decide) (ltd J)⟩,⟨_,J,.d (.refl _)⟩,⟨_,J,.d (.refl _)⟩,⟨_,J,.d (.refl _)⟩,⟨_,J,.d (.refl _)⟩,⟨_,J,.d (.refl _)⟩,trivial⟩ ⟨⟨ltd J,.inr ⟨by decide,_,J,.dat _ _⟩⟩,trivial⟩⟩
 refine qb<|U J<|U J<|O (.d (.bool (decide ((w64 (a.2.1 - c.1)) ≥ (w64 (Int.tdiv (w64 (a.2.1 - a.1)) 8)))))) J<|q9 J<|qp<|U J<|U J<|O (.d (G (w64 (c.1 + 1)))) J<|U J<|U J ?_
 obtain ⟨ab,ck,b⟩:=q7 b
 obtain ⟨cy,cl,b⟩:=q7 b
 have cm:=K7 cl
 refine U3 [(0,0)] [(0,0)] [.hs 0 1 0 j.length,.d (G (w64 (c.1 + 1))),q6 a.2.1,q6 f.1] (.d (.tup [])) [(0,.dat 1 (ab.map (eI .i64)))] [(0,.dat 1 (ab.map (eI .i64)))] 1 (hrec c.2.2 (w64 (c.1 + 1)) a.2.1 f.1 ab ck) J J J (Y7 [(0,0)] [] [] J ⟨⟨_,J,Qp (by simp [w]) J (by decide) (ltd J)⟩,⟨_,J,.d (.refl _)⟩,⟨_,J,.d (.refl _)⟩,⟨_,J,.d (.refl _)⟩,trivial⟩ ⟨⟨ltd J,.inr ⟨by decide,_,J,.dat _ _⟩⟩,trivial⟩) (Y7 [(0,0)] [] [] J ⟨⟨_,J,.d (.refl _)⟩,trivial⟩ ⟨⟨ltd J,.inr ⟨by decide,_,J,.dat _ _⟩⟩,trivial⟩) J ⟨.inl J,trivial⟩<|q8<|qw<|U J<|q9 J<|qs<|Qc<|Qa ?_
 exact ⟨_,(Option.some.inj b).symm,wkE [] [] [] J ⟨⟨_,J,Qp (by simp [w,cm]) J (by decide) (ltd J)⟩,⟨_,J,.d (.refl _)⟩,⟨_,J,.d (.refl _)⟩,⟨_,J,.d (.refl _)⟩,⟨_,J,.d (.refl _)⟩,⟨_,J,.d (.refl _)⟩,trivial⟩ ⟨⟨ltd J,.inr ⟨by decide,_,J,.dat _ _⟩⟩,trivial⟩⟩
theorem qve (n : Nat) : ∀ (a : List Int) (b : Int) (c : Int) (f : Int) (r : List Int),q68 n  a b c f = some r→Qt Tryz.prog tab 132 [.hs 0 1 0 a.length,q6 b,q6 c,q6 f] [(0,.dat 1 (a.map (eI .i64)))] 1 (.d (.tup [])) [(0,.dat 1 (r.map (eI .i64)))] 1:=by
 induction n with
 | zero=>intro a b c f r g;cases g
 | succ n ih=>intro a b c f r g;exact qvd (q68 n )   ih a b c f r g
theorem qk4 (a : List Int) (r : List Int) (b : U9  a = some r) : Qt Tryz.prog tab 110 [.hs 0 1 0 a.length] [(0,.dat 1 (a.map (eI .i64)))] 1 (.d (.tup [])) [(0,.dat 1 (r.map (eI .i64)))] 1:=by
 unfold U9 at b
 refine K3 Tryz.func110 J (by kernel_rfl) (by kernel_rfl) J<|qb<|U J<|O (q6 (a.length : Int)) J<|q9 J<|q8<|qw<|U J<|U J<|U J<|O (.d (.int .u64 (IntKind.wrap .u64 (a.length : Int)))) J ?_
 obtain ⟨c,h,b⟩:=q7 b
 refine qt (qd4 (IntKind.wrap .u64 (a.length : Int)) c h) J ?_
 obtain ⟨g,f,b⟩:=q7 b
 obtain ⟨l,j,b⟩:=q7 b
 have m:=K7 j
 obtain ⟨k,f⟩:=qd0 f
 refine Qw [(0,0)] [(0,0)] [.hs 0 1 0 a.length,q6 0,q6 (a.length : Int),q6 c] (.d (.tup [])) 1 [(0,.dat 1 (g.map (eI .i64)))] 1 (qve k a 0 (a.length : Int) c g f)<|qs ?_
 obtain rfl:=qd b
 exact ⟨.inl J,_,J,wkA [] [] []⟩
theorem qk2 (c : List Int) (r : (Nat × Nat) × List Int) (g : q1y  c = some r) : Qt Tryz.prog tab 111 [.hs 0 1 0 c.length] [(0,.dat 1 (c.map (eI .i64)))] 1 (.hs 0 1 r.1.1 r.1.2) [(0,.dat 1 (r.2.map (eI .i64)))] 1:=by
 unfold q1y at g
 refine K3 Tryz.func111 J (by kernel_rfl) (by kernel_rfl) J<|qb<|q9 J<|q8<|qf<|qb<|U J<|O (q6 (c.length : Int)) J<|O (.d (.bool (decide ((c.length : Int) < 2)))) J<|q8 ?_
 refine qm J g (fun _ g=>?_) (fun _ g=>?_)
 ·refine qb<|U J<|q9 J<|qr ?_
  obtain rfl:=qd g
  exact ⟨.inr J,_,J,wkA [] [] []⟩
 refine qn<|qf<|qb<|q9 J<|q8 ?_
 obtain ⟨p,ae,g⟩:=q7 g
 refine Qh (fun m=>.inl m = p) (fun (m : Unit)=>⟨[(0,.hs 0 1 0 c.length)],[(0,.dat 1 (c.map (eI .i64)))],1⟩) (by simp) ?_ ?_
 ·refine Q7 (Zi c) (fun (l : Int)=>⟨[(0,.hs 0 1 0 c.length),(3,q6 l)],[(0,.dat 1 (c.map (eI .i64)))],1⟩) 1 p ae (wkA [] [] []) ?_
  intro l ak a
  unfold Zi at a
  refine qf<|qb<|U J<|U J<|O (q6 (c.length : Int)) J<|O (.d (.bool (decide (l < (c.length : Int))))) J<|q8 ?_
  refine qm J a (fun _ a=>?_) (fun _ a=>?_)
  ·refine qn<|qf<|Q1<|qf<|Q5 [q0,qo 0,q0,q0,q0,q0,qo 0,q0,q0,q0] (by kernel_rfl)<|U J<|U J ?_
   obtain ⟨q,s,a⟩:=q7 a
   refine qq s J J<|Q0 (q6 q) s J<|U J<|U J<|O (.d (G (w64 (l - 1)))) J ?_
   obtain ⟨t,u,a⟩:=q7 a
   refine qq u J J<|Q0 (q6 t) u J<|O (qe (q == t)) J<|q8 ?_
   refine qm J a (fun _ a=>?_) (fun _ a=>?_)
   ·refine qb<|U J<|U J ?_
    obtain ⟨af,ag,a⟩:=q7 a
    refine q7e ag J J J J J (q47 J) (fun _=>rfl)<|q9 J<|q8<|qf<|qb<|q9 J<|q8 ?_
    obtain ⟨v,ah,a⟩:=q7 a
    refine Qh (fun h=>h = v) (fun (h : Int × List Int)=>⟨[(0,.hs 0 1 0 h.2.length),(3,q6 h.1)],[(0,.dat 1 (h.2.map (eI .i64)))],1⟩) (by simp) ?_ ?_
    ·refine Q7 (Uz) (fun (b : Int × (Nat × Nat) × Int × List Int)=>⟨[(0,.hs 0 1 0 b.2.2.2.length),(3,q6 b.1),(4,.hs 0 1 b.2.1.1 b.2.1.2),(5,q6 b.2.2.1)],[(0,.dat 1 (b.2.2.2.map (eI .i64)))],1⟩) (l,af,1,c) v ah (wkA [] [] []) ?_
     intro b al j
     unfold Uz at j
     refine qf<|qb<|U J<|U J<|O (q6 (b.2.1.2 : Int)) J<|O (.d (.bool (decide (b.2.2.1 < (b.2.1.2 : Int))))) J<|q8 ?_
     refine qm J j (fun _ j=>?_) (fun _ j=>?_)
     ·refine qn<|qf ?_
      obtain ⟨ai,f,j⟩:=q7 j
      refine Qh (fun k=>k = ai) (fun (k : Int × (Nat × Nat) × List Int)=>⟨[(0,.hs 0 1 0 k.2.2.length),(3,q6 k.1),(4,.hs 0 1 k.2.1.1 k.2.1.2),(5,q6 b.2.2.1)],[(0,.dat 1 (k.2.2.map (eI .i64)))],1⟩) (by simp) ?_ ?_
      ·refine qf<|Q5 [q0,qo 0,q0,q0,q0,q0,qo 0,q0,q0,q0] (by kernel_rfl)<|U J<|U J ?_
       obtain ⟨x,y,f⟩:=q7 f
       refine qdg y J J J J J J<|Q0 (q6 x) (qcw y) J<|U J<|U J<|O (.d (G (w64 (b.2.2.1 - 1)))) J ?_
       obtain ⟨z,aa,f⟩:=q7 f
       refine qdg aa J J J J J J<|Q0 (q6 z) (qcw aa) J<|O (qe (x != z)) J<|q8 ?_
       refine qm J f (fun _ f=>?_) (fun _ f=>?_)
       ·refine qb<|U J<|U J<|U J<|U J ?_
        obtain ⟨n,ab,f⟩:=q7 f
        refine qdg ab J J J J J J<|Q0 (q6 n) (qcw ab) J ?_
        obtain ⟨am,ac,f⟩:=q7 f
        refine qq ac J J<|Qk (ds:=[G n]) n ac J J J J J J J J (leb J) J<|q8<|qw<|U J<|O (.d (G (w64 (b.1 + 1)))) J<|q9 J<|qs ?_
        obtain rfl:=qd f
        exact ⟨_,J,wkE [] [] [] J ⟨⟨_,J,Qp (by simp) J (by decide) (ltd J)⟩,⟨_,J,.d (.refl _)⟩,⟨_,J,.hs J (by decide) (ltd J)⟩,⟨_,J,.d (.refl _)⟩,trivial⟩ ⟨⟨ltd J,.inr ⟨by decide,_,J,.dat _ _⟩⟩,trivial⟩⟩
       refine qn<|Qa ?_
       obtain rfl:=qd f
       exact ⟨_,J,wkA [] [] []⟩
      intro k hb
      subst hb
      refine qw<|U J<|O (.d (G (w64 (b.2.2.1 + 1)))) J<|q9 J<|qs ?_
      exact ⟨_,(Option.some.inj j).symm,wkA [] [] []⟩
     refine Q6 ?_
     refine ⟨_,(Option.some.inj j).symm,fun hm=>?_⟩
     subst hm
     exact ⟨_,J,wkA [] [] []⟩
    intro h hb
    subst hb
    refine qb<|U J<|U J ?_
    obtain ⟨ad,o,a⟩:=q7 a
    refine q7e o J J J J J (q47 J) (fun _=>rfl)<|qqe (w:=ad) (xs:=h.2) (enc:=(eI .i64)) 0 (q9a o) J J J J J J J ?_
    have an:=@qft _ h.2 ad 0 (q9a o)
    refine qp<|U J<|U J ?_
    obtain ⟨ao,aj,a⟩:=q7 a
    refine q7e aj J J J J J (fun _=>rfl) (q47 J)<|q9 J<|qr ?_
    refine ⟨_,(Option.some.inj a).symm,fun hm=>?_⟩
    subst hm
    obtain rfl:=qd g
    exact ⟨.inr J,_,J,wkA [] [] []⟩
   refine qn<|Qa<|Qc<|qw<|U J<|O (.d (G (w64 (l + 1)))) J<|q9 J<|qs ?_
   exact ⟨_,(Option.some.inj a).symm,wkA [] [] []⟩
  refine Q6 ?_
  refine ⟨_,(Option.some.inj a).symm,fun hm=>?_⟩
  subst hm
  exact ⟨_,J,wkA [] [] []⟩
 intro m hb
 subst hb
 refine qb<|U J<|q9 J<|qr ?_
 obtain rfl:=qd g
 exact ⟨.inr J,_,J,wkA [] [] []⟩
theorem qus (c : List qi) (j : qi→Option Bool) (p1F : FuncId) (p1C : List DV) (p1Ok : ∀ (f : qi) (r : Bool),j f = some r→Pure Tryz.prog tab p1F ([.agg [G f.X0,G f.Y0,G f.X1,G f.Y1]] ++ p1C) (.bool r)) (r : Int) (g : qb5 c j = some r) : Pure Tryz.prog tab 134 [.sl 4 (c.map qx),.fn p1F p1C] (G r):=by
 unfold qb5 at g
 refine Qb Tryz.func134 J (by kernel_rfl) (by kernel_rfl) J<|qb<|q9 J<|q8<|qf<|qb<|U J<|Qn J<|U J<|q8 ?_
 obtain ⟨l,m,g⟩:=q7 g
 refine Qh (fun k=>.inl k = l) (fun (k : Unit)=>⟨[],[],0⟩) (by simp) ?_ ?_
 ·refine Q7 (q3c c j) (fun (h : Int)=>⟨[(0,.d (.sl 4 (c.map qx))),(1,.d (.fn p1F p1C)),(7,q6 (c.length : Int)),(8,q6 h)],[],0⟩) 0 l m (wkA [] [] []) ?_
  intro h q a
  unfold q3c at a
  refine qb<|O (.d (.bool (decide (h < (c.length : Int))))) J<|q8<|qf ?_
  refine qm J a (fun _ a=>?_) (fun _ a=>?_)
  ·refine qn<|qf<|Q1<|qb<|U J<|q9 J<|qp<|U J<|U J<|U J ?_
   obtain ⟨b,n,a⟩:=q7 a
   refine Q9 (enc:=qx) n J<|O (.d (.agg [G b.X0,G b.Y0,G b.X1,G b.Y1])) J ?_
   obtain ⟨o,p,a⟩:=q7 a
   refine Ye [.d (.agg [G b.X0,G b.Y0,G b.X1,G b.Y1])] (p1Ok b o p) J J J (.inl J)<|q8 ?_
   refine qm J a (fun _ a=>?_) (fun _ a=>?_)
   ·refine qb<|U J<|q9 J<|qr ?_
    refine ⟨_,(Option.some.inj a).symm,fun hm=>?_⟩
    subst hm
    obtain rfl:=qd g
    exact qz (q6 h) J
   refine qn<|Qa<|Qc<|qw<|O (.d (G (w64 (h + 1)))) J<|U J<|qs ?_
   exact ⟨_,(Option.some.inj a).symm,wkA [] [] []⟩
  refine Q6 ?_
  refine ⟨_,(Option.some.inj a).symm,fun hm=>?_⟩
  subst hm
  exact ⟨_,J,wkA [] [] []⟩
 intro k hb
 subst hb
 refine qb<|q9 J<|qr ?_
 obtain rfl:=qd g
 exact qz (q6 (-1)) J
theorem qul (c : List qi) (f : qi→Option Bool) (p1F : FuncId) (p1C : List DV) (p1Ok : ∀ (a : qi) (r : Bool),f a = some r→Pure Tryz.prog tab p1F ([.agg [G a.X0,G a.Y0,G a.X1,G a.Y1]] ++ p1C) (.bool r)) (r : Bool) (b : q83 c f = some r) : Pure Tryz.prog tab 113 [.sl 4 (c.map qx),.fn p1F p1C] (.bool r):=by
 unfold q83 at b
 refine Qb Tryz.func113 J (by kernel_rfl) (by kernel_rfl) J<|qb<|q9 J<|qp<|U J<|U J ?_
 obtain ⟨g,h,b⟩:=q7 b
 refine qt (qus c f p1F p1C p1Ok g h) J<|O (.d (.bool (decide (g ≥ 0)))) J<|q9 J<|qr ?_
 obtain rfl:=qd b
 exact qz (.d (.bool (decide (g ≥ 0)))) J
theorem qay (a : Int) (r : Bool) (c : q1s a = some r) : Pure Tryz.prog tab 129 [G a] (.bool r):=by
 unfold q1s at c
 refine Qb Tryz.func129 J (by kernel_rfl) (by kernel_rfl) J<|qb<|q9 J<|qp<|U J<|O (.d (.bool (decide (a ≥ (-1000000))))) J ?_
 obtain ⟨f,b,c⟩:=q7 c
 refine Q3 4 (fun A st=>∃ (g h j : V),st = A [(8,qe f),(7,j),(6,h),(5,g)]) ?_ ?_
 ·refine Q2 J J b (fun b=>?_) (fun b=>?_)
  ·refine U J<|O (.d (.bool (decide (a≤1000000)))) J<|O (.d (.bool (decide (a≤1000000)))) J<|q8 ?_
   obtain rfl:=qd b
   exact ⟨_,_,_,J⟩
  refine qa J<|qa J<|O (qe false) J<|q8 ?_
  obtain rfl:=qd b
  exact ⟨_,_,_,J⟩
 rintro _ ⟨g,h,j,rfl⟩
 refine q9 J<|qr ?_
 obtain rfl:=qd c
 exact qz (qe f) J
theorem qsx (a : qi) (r : Bool) (b : q7x a = some r) : Pure Tryz.prog tab 107 [.agg [G a.X0,G a.Y0,G a.X1,G a.Y1]] (.bool r):=by
 unfold q7x at b
 refine Qb Tryz.func107 J (by kernel_rfl) (by kernel_rfl) J<|qb<|Qg (.ref 0 4 0 0) (.dat 4 [[G a.X0,G a.Y0,G a.X1,G a.Y1]]) J<|q9 J<|qp<|O (.ref 0 4 0 0) J<|O (q6 a.X0) J<|O (.ref 0 4 0 2) J<|O (q6 a.X1) J<|O (.d (.bool (decide (a.X0 < a.X1)))) J ?_
 obtain ⟨c1,j,b⟩:=q7 b
 refine Q3 7 (fun A st=>∃ (k l m n o p : V),st = A [(14,qe c1),(13,p),(12,o),(11,n),(10,m),(9,l),(8,k)]) ?_ ?_
 ·refine Q2 J J j (fun j=>?_) (fun j=>?_)
  ·refine O (.ref 0 4 0 1) J<|O (q6 a.Y0) J<|O (.ref 0 4 0 3) J<|O (q6 a.Y1) J<|O (.d (.bool (decide (a.Y0 < a.Y1)))) J<|O (.d (.bool (decide (a.Y0 < a.Y1)))) J<|q8 ?_
   obtain rfl:=qd j
   exact ⟨_,_,_,_,_,_,J⟩
  refine qa J<|qa J<|qa J<|qa J<|qa J<|O (qe false) J<|q8 ?_
  obtain rfl:=qd j
  exact ⟨_,_,_,_,_,_,J⟩
 rintro _ ⟨k,l,m,n,o,p,rfl⟩
 obtain ⟨an,c,b⟩:=q7 b
 refine Q3 5 (fun A st=>∃ (q s t u : V),st = A [(19,qe an),(18,u),(17,t),(16,s),(15,q)]) ?_ ?_
 ·refine Q2 J J c (fun c=>?_) (fun c=>?_)
  ·refine O (.ref 0 4 0 0) J<|O (q6 a.X0) J ?_
   obtain ⟨v,ao,c⟩:=q7 c
   refine qt (qay a.X0 v ao) J<|O (qe v) J<|q8 ?_
   obtain rfl:=qd c
   exact ⟨_,_,_,_,J⟩
  refine qa J<|qa J<|qa J<|O (qe false) J<|q8 ?_
  obtain rfl:=qd c
  exact ⟨_,_,_,_,J⟩
 rintro _ ⟨q,s,t,u,rfl⟩
 obtain ⟨ap,f,b⟩:=q7 b
 refine Q3 5 (fun A st=>∃ (w x y z : V),st = A [(24,qe ap),(23,z),(22,y),(21,x),(20,w)]) ?_ ?_
 ·refine Q2 J J f (fun f=>?_) (fun f=>?_)
  ·refine O (.ref 0 4 0 2) J<|O (q6 a.X1) J ?_
   obtain ⟨aa,aq,f⟩:=q7 f
   refine qt (qay a.X1 aa aq) J<|O (qe aa) J<|q8 ?_
   obtain rfl:=qd f
   exact ⟨_,_,_,_,J⟩
  refine qa J<|qa J<|qa J<|O (qe false) J<|q8 ?_
  obtain rfl:=qd f
  exact ⟨_,_,_,_,J⟩
 rintro _ ⟨w,x,y,z,rfl⟩
 obtain ⟨ar,g,b⟩:=q7 b
 refine Q3 5 (fun A st=>∃ (ab ac ad ae : V),st = A [(29,qe ar),(28,ae),(27,ad),(26,ac),(25,ab)]) ?_ ?_
 ·refine Q2 J J g (fun g=>?_) (fun g=>?_)
  ·refine O (.ref 0 4 0 1) J<|O (q6 a.Y0) J ?_
   obtain ⟨af,au,g⟩:=q7 g
   refine qt (qay a.Y0 af au) J<|O (qe af) J<|q8 ?_
   obtain rfl:=qd g
   exact ⟨_,_,_,_,J⟩
  refine qa J<|qa J<|qa J<|O (qe false) J<|q8 ?_
  obtain rfl:=qd g
  exact ⟨_,_,_,_,J⟩
 rintro _ ⟨ab,ac,ad,ae,rfl⟩
 obtain ⟨ag,h,b⟩:=q7 b
 refine Q3 5 (fun A st=>∃ (ah ai aj ak : V),st = A [(34,qe ag),(33,ak),(32,aj),(31,ai),(30,ah)]) ?_ ?_
 ·refine Q2 J J h (fun h=>?_) (fun h=>?_)
  ·refine O (.ref 0 4 0 3) J<|O (q6 a.Y1) J ?_
   obtain ⟨al,av,h⟩:=q7 h
   refine qt (qay a.Y1 al av) J<|O (qe al) J<|q8 ?_
   obtain rfl:=qd h
   exact ⟨_,_,_,_,J⟩
  refine qa J<|qa J<|qa J<|O (qe false) J<|q8 ?_
  obtain rfl:=qd h
  exact ⟨_,_,_,_,J⟩
 rintro _ ⟨ah,ai,aj,ak,rfl⟩
 refine q9 J<|qr ?_
 obtain rfl:=qd b
 exact qz (qe ag) J
theorem qsq (a : qi) (r : Bool) (b : q1r a = some r) : Pure Tryz.prog tab 114 [.agg [G a.X0,G a.Y0,G a.X1,G a.Y1]] (.bool r):=by
 unfold q1r at b
 refine Qb Tryz.func114 J (by kernel_rfl) (by kernel_rfl) J<|qb<|Qg (.ref 0 4 0 0) (.dat 4 [[G a.X0,G a.Y0,G a.X1,G a.Y1]]) J<|q9 J<|qp<|O (.d (.agg [G a.X0,G a.Y0,G a.X1,G a.Y1])) J ?_
 obtain ⟨c,f,b⟩:=q7 b
 refine qt (qsx a c f) J<|O (qe (!c)) J<|q9 J<|qr ?_
 obtain rfl:=qd b
 exact qz (qe (!c)) J
theorem quu (b : List qk) (h : qk→Option Bool) (p1F : FuncId) (p1C : List DV) (p1Ok : ∀ (j : qk) (r : Bool),h j = some r→Pure Tryz.prog tab p1F ([.agg [G j.Lo,G j.Hi]] ++ p1C) (.bool r)) (r : Int) (c : q88 b h = some r) : Pure Tryz.prog tab 157 [.sl 2 (b.map Qe),.fn p1F p1C] (G r):=by
 unfold q88 at c
 refine Qb Tryz.func157 J (by kernel_rfl) (by kernel_rfl) J<|qb<|q9 J<|q8<|qf<|qb<|U J<|Qn J<|U J<|q8 ?_
 obtain ⟨l,m,c⟩:=q7 c
 refine Qh (fun k=>.inl k = l) (fun (k : Unit)=>⟨[],[],0⟩) (by simp) ?_ ?_
 ·refine Q7 (q1z b h) (fun (f : Int)=>⟨[(0,.d (.sl 2 (b.map Qe))),(1,.d (.fn p1F p1C)),(7,q6 (b.length : Int)),(8,q6 f)],[],0⟩) 0 l m (wkA [] [] []) ?_
  intro f q a
  unfold q1z at a
  refine qb<|O (.d (.bool (decide (f < (b.length : Int))))) J<|q8<|qf ?_
  refine qm J a (fun _ a=>?_) (fun _ a=>?_)
  ·refine qn<|qf<|Q1<|qb<|U J<|q9 J<|qp<|U J<|U J<|U J ?_
   obtain ⟨g,n,a⟩:=q7 a
   refine Q9 (enc:=Qe) n J<|O (.d (.agg [G g.Lo,G g.Hi])) J ?_
   obtain ⟨o,p,a⟩:=q7 a
   refine Ye [.d (.agg [G g.Lo,G g.Hi])] (p1Ok g o p) J J J (.inl J)<|q8 ?_
   refine qm J a (fun _ a=>?_) (fun _ a=>?_)
   ·refine qb<|U J<|q9 J<|qr ?_
    refine ⟨_,(Option.some.inj a).symm,fun hm=>?_⟩
    subst hm
    obtain rfl:=qd c
    exact qz (q6 f) J
   refine qn<|Qa<|Qc<|qw<|O (.d (G (w64 (f + 1)))) J<|U J<|qs ?_
   exact ⟨_,(Option.some.inj a).symm,wkA [] [] []⟩
  refine Q6 ?_
  refine ⟨_,(Option.some.inj a).symm,fun hm=>?_⟩
  subst hm
  exact ⟨_,J,wkA [] [] []⟩
 intro k hb
 subst hb
 refine qb<|q9 J<|qr ?_
 obtain rfl:=qd c
 exact qz (q6 (-1)) J
theorem qum (b : List qk) (c : qk→Option Bool) (p1F : FuncId) (p1C : List DV) (p1Ok : ∀ (f : qk) (r : Bool),c f = some r→Pure Tryz.prog tab p1F ([.agg [G f.Lo,G f.Hi]] ++ p1C) (.bool r)) (r : Bool) (a : q84 b c = some r) : Pure Tryz.prog tab 140 [.sl 2 (b.map Qe),.fn p1F p1C] (.bool r):=by
 unfold q84 at a
 refine Qb Tryz.func140 J (by kernel_rfl) (by kernel_rfl) J<|qb<|q9 J<|qp<|U J<|U J ?_
 obtain ⟨g,h,a⟩:=q7 a
 refine qt (quu b c p1F p1C p1Ok g h) J<|O (.d (.bool (decide (g ≥ 0)))) J<|q9 J<|qr ?_
 obtain rfl:=qd a
 exact qz (.d (.bool (decide (g ≥ 0)))) J
theorem qy4 (a : qk) (r : Bool) (b : q25 a = some r) : Pure Tryz.prog tab 142 [.agg [G a.Lo,G a.Hi]] (.bool r):=by
 unfold q25 at b
 refine Qb Tryz.func142 J (by kernel_rfl) (by kernel_rfl) J<|qb<|Qg (.ref 0 2 0 0) (.dat 2 [[G a.Lo,G a.Hi]]) J<|q9 J<|qp<|O (.ref 0 2 0 0) J<|O (q6 a.Lo) J<|O (.ref 0 2 0 1) J<|O (q6 a.Hi) J<|O (.d (.bool (decide (a.Lo < a.Hi)))) J ?_
 obtain ⟨q,c,b⟩:=q7 b
 refine Q3 5 (fun A st=>∃ (g h j k : V),st = A [(12,qe q),(11,k),(10,j),(9,h),(8,g)]) ?_ ?_
 ·refine Q2 J J c (fun c=>?_) (fun c=>?_)
  ·refine O (.ref 0 2 0 0) J<|O (q6 a.Lo) J<|O (.d (.bool (decide (a.Lo ≥ (-1000000))))) J<|O (.d (.bool (decide (a.Lo ≥ (-1000000))))) J<|q8 ?_
   obtain rfl:=qd c
   exact ⟨_,_,_,_,J⟩
  refine qa J<|qa J<|qa J<|O (qe false) J<|q8 ?_
  obtain rfl:=qd c
  exact ⟨_,_,_,_,J⟩
 rintro _ ⟨g,h,j,k,rfl⟩
 obtain ⟨l,f,b⟩:=q7 b
 refine Q3 5 (fun A st=>∃ (m n o p : V),st = A [(17,qe l),(16,p),(15,o),(14,n),(13,m)]) ?_ ?_
 ·refine Q2 J J f (fun f=>?_) (fun f=>?_)
  ·refine O (.ref 0 2 0 1) J<|O (q6 a.Hi) J<|O (.d (.bool (decide (a.Hi≤1000000)))) J<|O (.d (.bool (decide (a.Hi≤1000000)))) J<|q8 ?_
   obtain rfl:=qd f
   exact ⟨_,_,_,_,J⟩
  refine qa J<|qa J<|qa J<|O (qe false) J<|q8 ?_
  obtain rfl:=qd f
  exact ⟨_,_,_,_,J⟩
 rintro _ ⟨m,n,o,p,rfl⟩
 refine q9 J<|qr ?_
 obtain rfl:=qd b
 exact qz (qe l) J
theorem qxx (a : qk) (r : Bool) (b : qba a = some r) : Pure Tryz.prog tab 141 [.agg [G a.Lo,G a.Hi]] (.bool r):=by
 unfold qba at b
 refine Qb Tryz.func141 J (by kernel_rfl) (by kernel_rfl) J<|qb<|Qg (.ref 0 2 0 0) (.dat 2 [[G a.Lo,G a.Hi]]) J<|q9 J<|qp<|O (.d (.agg [G a.Lo,G a.Hi])) J ?_
 obtain ⟨c,f,b⟩:=q7 b
 refine qt (qy4 a c f) J<|O (qe (!c)) J<|q9 J<|qr ?_
 obtain rfl:=qd b
 exact qz (qe (!c)) J
theorem qy0 (a : qh) (b : qh) (r : Int) (c : q94 a b = some r) : Pure Tryz.prog tab 165 [.agg [G a.at_,G a.list_,G a.by_],.agg [G b.at_,G b.list_,G b.by_]] (G r):=by
 unfold q94 at c
 refine Qb Tryz.func165 J (by kernel_rfl) (by kernel_rfl) J<|qb<|Qg (.ref 0 3 0 0) (.dat 3 [[G a.at_,G a.list_,G a.by_]]) J<|Qg (.ref 1 3 0 0) (.dat 3 [[G b.at_,G b.list_,G b.by_]]) J<|q9 J<|qp<|O (.ref 0 3 0 0) J<|O (q6 a.at_) J<|O (.ref 1 3 0 0) J<|O (q6 b.at_) J<|O (.d (G (w64 (a.at_ - b.at_)))) J<|q9 J<|qr ?_
 obtain rfl:=qd c
 exact qz (.d (G (w64 (a.at_ - b.at_)))) J
theorem qv3 (p : qh→qh→Option Int) (q1F : FuncId) (q1C : List DV) (q1Ok : ∀ (q : qh) (s : qh) (r : Int),p q s = some r→Pure Tryz.prog tab q1F ([.agg [G q.at_,G q.list_,G q.by_],.agg [G s.at_,G s.list_,G s.by_]] ++ q1C) (G r)) (t : List qh) (c : Int) (j : Int) (r : List qh) (u : q8f p t c j = some r) : Qt Tryz.prog tab 170 [.hs 0 3 0 t.length,q6 c,q6 j,.d (.fn q1F q1C)] [(0,.dat 3 (t.map Q4))] 1 (.d (.tup [])) [(0,.dat 3 (r.map Q4))] 1:=by
 unfold q8f at u
 refine K3 Tryz.func170 J (by kernel_rfl) (by kernel_rfl) J<|qb<|U J<|O (.d (G (w64 (c + 1)))) J<|q9 J<|q8 ?_
 obtain ⟨aq,ar,u⟩:=q7 u
 refine Q1<|Q7 (q8g j c p) (fun (f : Int × List qh)=>⟨[(0,.hs 0 3 0 f.2.length),(1,q6 c),(2,q6 j),(3,.d (.fn q1F q1C)),(8,q6 f.1)],[(0,.dat 3 (f.2.map Q4))],1⟩) (w64 (c + 1),t) aq ar (wkA [] [] []) ?_
 intro f az h
 unfold q8g at h
 refine qf<|qb<|U J<|U J<|O (.d (.bool (decide (f.1 < j)))) J<|q8 ?_
 refine qm J h (fun _ h=>?_) (fun _ h=>?_)
 ·refine qn<|qf ?_
  obtain ⟨au,v,h⟩:=q7 h
  refine Qh (fun o=>o = au) (fun (o : List qh)=>⟨[(0,.hs 0 3 0 o.length),(1,q6 c),(2,q6 j),(3,.d (.fn q1F q1C)),(8,q6 f.1)],[(0,.dat 3 (o.map Q4))],1⟩) (by simp) ?_ ?_
  ·refine qb<|U J<|q9 J<|q8 ?_
   obtain ⟨av,aw,v⟩:=q7 v
   refine Q1<|Q7 (q8h c p) (fun (g : Int × List qh)=>⟨[(0,.hs 0 3 0 g.2.length),(1,q6 c),(2,q6 j),(3,.d (.fn q1F q1C)),(8,q6 f.1),(9,q6 g.1)],[(0,.dat 3 (g.2.map Q4))],1⟩) (f.1,f.2) av aw (wkA [] [] []) ?_
   intro g ba a
   unfold q8h at a
   refine qf<|qf<|Q5 [q0,q0,q0,qo 0,q0,q0,q0,q0,qo 0,q0,q0,q0,q0,q0,q0,q0,q0] (by kernel_rfl)<|U J<|U J<|O (.d (.bool (decide (g.1 > c)))) J ?_
   obtain ⟨ax,b,a⟩:=q7 a
   refine Q3 14 (fun A st=>∃ (x y z aa ab ac ad ae af ag ah ai aj : V),st = A [(34,qe ax),(33,aj),(32,ai),(31,ah),(30,ag),(29,af),(28,ae),(27,ad),(26,ac),(25,ab),(24,aa),(23,z),(22,y),(21,x)]) ?_ ?_
   ·refine Q2 J J b (fun b=>?_) (fun b=>?_)
    ·refine U J<|U J<|U J ?_
     obtain ⟨k,ak,b⟩:=q7 b
     refine qq ak J J<|Q0 (.d (.agg [G k.at_,G k.list_,G k.by_])) ak J<|U J<|U J<|O (.d (G (w64 (g.1 - 1)))) J ?_
     obtain ⟨l,al,b⟩:=q7 b
     refine qq al J J<|Q0 (.d (.agg [G l.at_,G l.list_,G l.by_])) al J ?_
     obtain ⟨w,ay,b⟩:=q7 b
     refine Ye [.d (.agg [G k.at_,G k.list_,G k.by_]),.d (.agg [G l.at_,G l.list_,G l.by_])] (q1Ok k l w ay) J J J (.inl J)<|O (.d (.bool (decide (w < 0)))) J<|O (.d (.bool (decide (w < 0)))) J<|q8 ?_
     obtain rfl:=qd b
     exact ⟨_,_,_,_,_,_,_,_,_,_,_,_,_,J⟩
    refine qa J<|qa J<|qa J<|qa J<|qa J<|qa J<|qa J<|qa J<|qa J<|qa J<|qa J<|qa J<|O (qe false) J<|q8 ?_
    obtain rfl:=qd b
    exact ⟨_,_,_,_,_,_,_,_,_,_,_,_,_,J⟩
   rintro _ ⟨x,y,z,aa,ab,ac,ad,ae,af,ag,ah,ai,aj,rfl⟩
   refine q8 ?_
   refine qm J a (fun _ a=>?_) (fun _ a=>?_)
   ·refine qn<|qf<|Q1<|Q5 [Qd 0,q0,Qd 0,q0,qo 0,q0,q0,q0,qo 0,q0,q0,q0,q0,q0,q0,q0,q0,q0] (by kernel_rfl)<|U J<|U J<|U J<|U J<|O (.d (G (w64 (g.1 - 1)))) J<|U J<|U J<|O (.d (G (w64 (g.1 - 1)))) J ?_
    obtain ⟨m,am,a⟩:=q7 a
    refine qq am J J<|Q0 (.d (.agg [G m.at_,G m.list_,G m.by_])) am J<|U J<|U J ?_
    obtain ⟨n,an,a⟩:=q7 a
    refine qq an J J<|Q0 (.d (.agg [G n.at_,G n.list_,G n.by_])) an J ?_
    obtain ⟨bb,ao,a⟩:=q7 a
    refine qq ao J J<|Qk (ds:=[G m.at_,G m.list_,G m.by_]) m ao J J J J J J J J (leb J) J ?_
    obtain ⟨bc,ap,a⟩:=q7 a
    refine qq ap (by simp) J<|Qk (ds:=[G n.at_,G n.list_,G n.by_]) n ap J J J J J J J J (leb J) J<|qs<|Qc<|qw<|U J<|O (.d (G (w64 (g.1 - 1)))) J<|q9 J<|qs ?_
    exact ⟨_,(Option.some.inj a).symm,wkE [] [] [] J ⟨⟨_,J,Qp (by simp) J (by decide) (ltd J)⟩,⟨_,J,.d (.refl _)⟩,⟨_,J,.d (.refl _)⟩,⟨_,J,.d (.refl _)⟩,⟨_,J,.d (.refl _)⟩,⟨_,J,.d (.refl _)⟩,trivial⟩ ⟨⟨ltd J,.inr ⟨by decide,_,J,.dat _ _⟩⟩,trivial⟩⟩
   refine Q6 ?_
   refine ⟨_,(Option.some.inj a).symm,fun hm=>?_⟩
   subst hm
   obtain rfl:=qd v
   exact ⟨_,J,wkA [] [] []⟩
  intro o hb
  subst hb
  refine qw<|U J<|O (.d (G (w64 (f.1 + 1)))) J<|q9 J<|qs ?_
  exact ⟨_,(Option.some.inj h).symm,wkA [] [] []⟩
 refine Q6 ?_
 refine ⟨_,(Option.some.inj h).symm,fun hm=>?_⟩
 subst hm
 obtain rfl:=qd u
 exact ⟨.inl J,_,J,wkA [] [] []⟩
theorem qk8 (v : qh→qh→Option Int) (q1F : FuncId) (q1C : List DV) (q1Ok : ∀ (s : qh) (t : qh) (r : Int),v s t = some r→Pure Tryz.prog tab q1F ([.agg [G s.at_,G s.list_,G s.by_],.agg [G t.at_,G t.list_,G t.by_]] ++ q1C) (G r)) (u : List qh) (w : Int) (g : Int) (c : Int) (r : List qh) (p : q6a v u w g c = some r) : Qt Tryz.prog tab 178 [.hs 0 3 0 u.length,q6 w,q6 g,q6 c,.d (.fn q1F q1C)] [(0,.dat 3 (u.map Q4))] 1 (.d (.tup [])) [(0,.dat 3 (r.map Q4))] 1:=by
 unfold q6a at p
 refine K3 Tryz.func178 J (by kernel_rfl) (by kernel_rfl) J<|qb<|U J<|q9 J<|q8 ?_
 obtain ⟨ba,bb,p⟩:=q7 p
 refine Q1<|Q7 (q8z g c v) (fun (b : Int × List qh)=>⟨[(0,.hs 0 3 0 b.2.length),(2,q6 g),(3,q6 c),(4,.d (.fn q1F q1C)),(10,q6 b.1)],[(0,.dat 3 (b.2.map Q4))],1⟩) (w,u) ba bb (wkA [] [] []) ?_
 intro b bg a
 unfold q8z at a
 refine Q1<|qb<|U J<|O (.d (G (w64 (2 * b.1)))) J<|O (.d (G (w64 ((w64 (2 * b.1)) + 1)))) J<|q9 J<|q8<|qf<|qb<|U J<|U J<|O (.d (.bool (decide ((w64 ((w64 (2 * b.1)) + 1)) ≥ g)))) J<|q8 ?_
 refine qm J a (fun _ a=>?_) (fun _ a=>?_)
 ·refine Q6 ?_
  refine ⟨_,(Option.some.inj a).symm,fun hm=>?_⟩
  subst hm
  obtain rfl:=qd p
  exact ⟨.inl J,_,J,wkA [] [] []⟩
 refine qn<|qf<|qf<|Q5 [q0,q0,q0,qo 0,q0,q0,q0,q0,q0,q0,qo 0,q0,q0,q0,q0,q0,q0,q0,q0,q0,q0,q0] (by kernel_rfl)<|U J<|O (.d (G (w64 ((w64 ((w64 (2 * b.1)) + 1)) + 1)))) J<|U J<|O (.d (.bool (decide ((w64 ((w64 ((w64 (2 * b.1)) + 1)) + 1)) < g)))) J ?_
 obtain ⟨bc,f,a⟩:=q7 a
 refine Q3 18 (fun A st=>∃ (z aa ab ac ad ae af ag ah ai aj ak al am an ao ap : V),st = A [(40,qe bc),(39,ap),(38,ao),(37,an),(36,am),(35,al),(34,ak),(33,aj),(32,ai),(31,ah),(30,ag),(29,af),(28,ae),(27,ad),(26,ac),(25,ab),(24,aa),(23,z)]) ?_ ?_
 ·refine Q2 J J f (fun f=>?_) (fun f=>?_)
  ·refine U J<|U J<|U J<|U J<|O (.d (G (w64 (c + (w64 ((w64 (2 * b.1)) + 1)))))) J ?_
   obtain ⟨h,aq,f⟩:=q7 f
   refine qq aq J J<|Q0 (.d (.agg [G h.at_,G h.list_,G h.by_])) aq J<|U J<|U J<|U J<|O (.d (G (w64 (c + (w64 ((w64 (2 * b.1)) + 1)))))) J<|O (.d (G (w64 ((w64 (c + (w64 ((w64 (2 * b.1)) + 1)))) + 1)))) J ?_
   obtain ⟨j,ar,f⟩:=q7 f
   refine qq ar J J<|Q0 (.d (.agg [G j.at_,G j.list_,G j.by_])) ar J ?_
   obtain ⟨x,bd,f⟩:=q7 f
   refine Ye [.d (.agg [G h.at_,G h.list_,G h.by_]),.d (.agg [G j.at_,G j.list_,G j.by_])] (q1Ok h j x bd) J J J (.inl J)<|O (.d (.bool (decide (x < 0)))) J<|O (.d (.bool (decide (x < 0)))) J<|q8 ?_
   obtain rfl:=qd f
   exact ⟨_,_,_,_,_,_,_,_,_,_,_,_,_,_,_,_,_,J⟩
  refine qa J<|qa J<|qa J<|qa J<|qa J<|qa J<|qa J<|qa J<|qa J<|qa J<|qa J<|qa J<|qa J<|qa J<|qa J<|qa J<|O (qe false) J<|q8 ?_
  obtain rfl:=qd f
  exact ⟨_,_,_,_,_,_,_,_,_,_,_,_,_,_,_,_,_,J⟩
 rintro _ ⟨z,aa,ab,ac,ad,ae,af,ag,ah,ai,aj,ak,al,am,an,ao,ap,rfl⟩
 refine q8 ?_
 obtain ⟨be,q,a⟩:=q7 a
 refine Y3 (fun k=>k = be) (fun (k : Int)=>⟨[(0,.hs 0 3 0 b.2.length),(2,q6 g),(3,q6 c),(4,.d (.fn q1F q1C)),(10,q6 b.1),(11,q6 k)],[(0,.dat 3 (b.2.map Q4))],1⟩) (by simp) ?_ ?_
 ·refine qm J q (fun _ q=>?_) (fun _ q=>?_)
  ·refine qw<|U J<|O (.d (G (w64 ((w64 ((w64 (2 * b.1)) + 1)) + 1)))) J<|q9 J<|qs ?_
   obtain rfl:=qd q
   exact ⟨_,J,wkA [] [] []⟩
  refine qn<|Qa ?_
  obtain rfl:=qd q
  exact ⟨_,J,wkA [] [] []⟩
 intro k hb
 subst hb
 refine qf<|qf<|Q5 [q0,q0,q0,qo 0,q0,q0,q0,q0,q0,qo 0,q0,q0,q0,q0,q0,q0] (by kernel_rfl)<|U J<|U J<|U J<|U J<|O (.d (G (w64 (c + b.1)))) J ?_
 obtain ⟨l,au,a⟩:=q7 a
 refine qq au J J<|Q0 (.d (.agg [G l.at_,G l.list_,G l.by_])) au J<|U J<|U J<|U J<|O (.d (G (w64 (c + k)))) J ?_
 obtain ⟨m,av,a⟩:=q7 a
 refine qq av J J<|Q0 (.d (.agg [G m.at_,G m.list_,G m.by_])) av J ?_
 obtain ⟨y,bf,a⟩:=q7 a
 refine Ye [.d (.agg [G l.at_,G l.list_,G l.by_]),.d (.agg [G m.at_,G m.list_,G m.by_])] (q1Ok l m y bf) J J J (.inl J)<|O (.d (.bool (decide (y < 0)))) J<|O (.d (.bool (!(decide (y < 0))))) J<|q8 ?_
 refine qm J a (fun _ a=>?_) (fun _ a=>?_)
 ·refine q39 ?_
  refine ⟨_,(Option.some.inj a).symm,fun hm=>?_⟩
  subst hm
  obtain rfl:=qd p
  exact ⟨.inr J,_,J,wkA [] [] []⟩
 refine qn<|qf<|Q5 [Qd 0,q0,Qd 0,q0,qo 0,q0,q0,q0,q0,q0,qo 0,q0,q0,q0,q0,q0,q0,q0,q0,q0,q0,q0,q0,q0] (by kernel_rfl)<|U J<|U J<|U J<|O (.d (G (w64 (c + b.1)))) J<|U J<|U J<|U J<|O (.d (G (w64 (c + k)))) J<|U J<|U J<|U J<|O (.d (G (w64 (c + k)))) J ?_
 obtain ⟨n,aw,a⟩:=q7 a
 refine qq aw J J<|Q0 (.d (.agg [G n.at_,G n.list_,G n.by_])) aw J<|U J<|U J<|U J<|O (.d (G (w64 (c + b.1)))) J ?_
 obtain ⟨o,ax,a⟩:=q7 a
 refine qq ax J J<|Q0 (.d (.agg [G o.at_,G o.list_,G o.by_])) ax J ?_
 obtain ⟨bh,ay,a⟩:=q7 a
 refine qq ay J J<|Qk (ds:=[G n.at_,G n.list_,G n.by_]) n ay J J J J J J J J (leb J) J ?_
 obtain ⟨bi,az,a⟩:=q7 a
 refine qq az (by simp) J<|Qk (ds:=[G o.at_,G o.list_,G o.by_]) o az J J J J J J J J (leb J) J<|q8<|qw<|U J<|q9 J<|qs<|Qc<|Qa ?_
 exact ⟨_,(Option.some.inj a).symm,wkE [] [] [] J ⟨⟨_,J,Qp (by simp) J (by decide) (ltd J)⟩,⟨_,J,.d (.refl _)⟩,⟨_,J,.d (.refl _)⟩,⟨_,J,.d (.refl _)⟩,⟨_,J,.d (.refl _)⟩,trivial⟩ ⟨⟨ltd J,.inr ⟨by decide,_,J,.dat _ _⟩⟩,trivial⟩⟩
theorem qv1 (l : qh→qh→Option Int) (q1F : FuncId) (q1C : List DV) (q1Ok : ∀ (o : qh) (p : qh) (r : Int),l o p = some r→Pure Tryz.prog tab q1F ([.agg [G o.at_,G o.list_,G o.by_],.agg [G p.at_,G p.list_,G p.by_]] ++ q1C) (G r)) (q : List qh) (a : Int) (c : Int) (r : List qh) (m : q8c l q a c = some r) : Qt Tryz.prog tab 171 [.hs 0 3 0 q.length,q6 a,q6 c,.d (.fn q1F q1C)] [(0,.dat 3 (q.map Q4))] 1 (.d (.tup [])) [(0,.dat 3 (r.map Q4))] 1:=by
 unfold q8c at m
 refine K3 Tryz.func171 J (by kernel_rfl) (by kernel_rfl) J<|qb<|U J<|q9 J<|qp<|q9 J<|qp<|U J<|U J<|O (.d (G (w64 (c - a)))) J<|q9 J<|q8<|qf<|qb<|U J<|O (.d (G (w64 ((w64 (c - a)) - 1)))) J<|O (.d (G (w64 (Int.tdiv (w64 ((w64 (c - a)) - 1)) 2)))) J<|q9 J<|q8 ?_
 obtain ⟨t,z,m⟩:=q7 m
 refine Qh (fun n=>n = t) (fun (n : List qh)=>⟨[(0,.hs 0 3 0 n.length),(3,.d (.fn q1F q1C)),(8,q6 a),(9,q6 0),(10,.d (G (w64 (c - a))))],[(0,.dat 3 (n.map Q4))],1⟩) (by simp) ?_ ?_
 ·refine Q7 (q8d l c a) (fun (g : Int × List qh)=>⟨[(0,.hs 0 3 0 g.2.length),(3,.d (.fn q1F q1C)),(8,q6 a),(9,q6 0),(10,.d (G (w64 (c - a)))),(11,q6 g.1)],[(0,.dat 3 (g.2.map Q4))],1⟩) (w64 (Int.tdiv (w64 ((w64 (c - a)) - 1)) 2),q) t z (wkA [] [] []) ?_
  intro g ai h
  unfold q8d at h
  refine qf<|qb<|U J<|O (.d (.bool (decide (g.1 ≥ 0)))) J<|q8 ?_
  refine qm J h (fun _ h=>?_) (fun _ h=>?_)
  ·refine qn<|qf<|Q1<|qw<|U J<|U J<|U J<|U J<|U J ?_
   obtain ⟨u,aa,h⟩:=q7 h
   obtain ⟨aj,ab,h⟩:=q7 h
   have ac:=K7 ab
   refine Qw [(0,0)] [(0,0)] [.hs 0 3 0 g.2.length,q6 g.1,.d (G (w64 (c - a))),q6 a,.d (.fn q1F q1C)] (.d (.tup [])) 1 [(0,.dat 3 (u.map Q4))] 1 (qk8 l q1F q1C q1Ok g.2 g.1 (w64 (c - a)) a u aa)<|qs<|Qc<|qw<|U J<|O (.d (G (w64 (g.1 - 1)))) J<|q9 J<|qs ?_
   exact ⟨_,(Option.some.inj h).symm,wkE [] [] [] J ⟨⟨_,J,Qp (by simp [ac]) J (by decide) (ltd J)⟩,⟨_,J,.d (.refl _)⟩,⟨_,J,.d (.refl _)⟩,⟨_,J,.d (.refl _)⟩,⟨_,J,.d (.refl _)⟩,⟨_,J,.d (.refl _)⟩,trivial⟩ ⟨⟨ltd J,.inr ⟨by decide,_,J,.dat _ _⟩⟩,trivial⟩⟩
  refine Q6 ?_
  refine ⟨_,(Option.some.inj h).symm,fun hm=>?_⟩
  subst hm
  exact ⟨_,J,wkA [] [] []⟩
 intro n hb
 subst hb
 refine qb<|U J<|O (.d (G (w64 ((w64 (c - a)) - 1)))) J<|q9 J<|q8 ?_
 obtain ⟨ad,ae,m⟩:=q7 m
 refine Q1<|Q7 (q8e a l) (fun (f : Int × List qh)=>⟨[(0,.hs 0 3 0 f.2.length),(3,.d (.fn q1F q1C)),(8,q6 a),(9,q6 0),(12,q6 f.1)],[(0,.dat 3 (f.2.map Q4))],1⟩) (w64 ((w64 (c - a)) - 1),n) ad ae (wkA [] [] []) ?_
 intro f ak b
 unfold q8e at b
 refine qf<|qb<|U J<|O (.d (.bool (decide (f.1 ≥ 0)))) J<|q8 ?_
 refine qm J b (fun _ b=>?_) (fun _ b=>?_)
 ·refine qn<|qf<|Q1<|qf<|Q5 [Qd 0,q0,Qd 0,q0,qo 0,q0,q0,q0,qo 0,q0,q0,q0,q0,q0,q0,q0,q0,q0,q0,q0] (by kernel_rfl)<|U J<|U J<|U J<|U J<|U J<|O (.d (G (w64 (a + f.1)))) J<|U J<|U J<|U J<|O (.d (G (w64 (a + f.1)))) J ?_
  obtain ⟨j,v,b⟩:=q7 b
  refine qq v J J<|Q0 (.d (.agg [G j.at_,G j.list_,G j.by_])) v J<|U J<|U J ?_
  obtain ⟨k,w,b⟩:=q7 b
  refine qq w J J<|Q0 (.d (.agg [G k.at_,G k.list_,G k.by_])) w J ?_
  obtain ⟨al,x,b⟩:=q7 b
  refine qq x J J<|Qk (ds:=[G j.at_,G j.list_,G j.by_]) j x J J J J J J J J (leb J) J ?_
  obtain ⟨am,y,b⟩:=q7 b
  refine qq y (by simp) J<|Qk (ds:=[G k.at_,G k.list_,G k.by_]) k y J J J J J J J J (leb J) J<|q8<|qw<|U J<|U J<|U J<|U J<|U J ?_
  obtain ⟨s,af,b⟩:=q7 b
  obtain ⟨an,ag,b⟩:=q7 b
  have ah:=K7 ag
  refine U3 [(0,0)] [(0,0)] [.hs 0 3 0 f.2.length,q6 0,q6 f.1,q6 a,.d (.fn q1F q1C)] (.d (.tup [])) [(0,.dat 3 (s.map Q4))] [(0,.dat 3 (s.map Q4))] 1 (qk8 l q1F q1C q1Ok ((f.2.set a.toNat j).set (w64 (a + f.1)).toNat k) 0 f.1 a s af) J J J (Y7 [(0,0)] [] [] J ⟨⟨_,J,Qp (by simp) J (by decide) (ltd J)⟩,⟨_,J,.d (.refl _)⟩,⟨_,J,.d (.refl _)⟩,⟨_,J,.d (.refl _)⟩,⟨_,J,.d (.refl _)⟩,trivial⟩ ⟨⟨ltd J,.inr ⟨by decide,_,J,.dat _ _⟩⟩,trivial⟩) (Y7 [(0,0)] [] [] J ⟨⟨_,J,.d (.refl _)⟩,trivial⟩ ⟨⟨ltd J,.inr ⟨by decide,_,J,.dat _ _⟩⟩,trivial⟩) J ⟨.inl J,trivial⟩<|qs<|Qc<|qw<|U J<|O (.d (G (w64 (f.1 - 1)))) J<|q9 J<|qs ?_
  exact ⟨_,(Option.some.inj b).symm,wkE [] [] [] J ⟨⟨_,J,Qp (by simp [ah]) J (by decide) (ltd J)⟩,⟨_,J,.d (.refl _)⟩,⟨_,J,.d (.refl _)⟩,⟨_,J,.d (.refl _)⟩,⟨_,J,.d (.refl _)⟩,trivial⟩ ⟨⟨ltd J,.inr ⟨by decide,_,J,.dat _ _⟩⟩,trivial⟩⟩
 refine Q6 ?_
 refine ⟨_,(Option.some.inj b).symm,fun hm=>?_⟩
 subst hm
 obtain rfl:=qd m
 exact ⟨.inl J,_,J,wkA [] [] []⟩
theorem qec (j : qh→qh→Option Int) (q1F : FuncId) (q1C : List DV) (q1Ok : ∀ (g : qh) (h : qh) (r : Int),j g h = some r→Pure Tryz.prog tab q1F ([.agg [G g.at_,G g.list_,G g.by_],.agg [G h.at_,G h.list_,G h.by_]] ++ q1C) (G r)) (k : List qh) (l : Int) (m : Int) (f : Int) (r : Int × Int × Int) (a : q3f j k l m f = some r) : Qt Tryz.prog tab 181 [.d (.sl 3 (k.map Q4)),q6 l,q6 m,.ref 0 1 0 0,.d (.fn q1F q1C)] [(0,.dat 1 [[G f]])] 1 (.d (.tup [G r.1,G r.2.1])) [(0,.dat 1 [[G r.2.2]])] 1:=by
 unfold q3f at a
 refine K3 Tryz.func181 J (by kernel_rfl) (by kernel_rfl) J<|qb<|q9 J<|q9 J<|q8<|qf<|qf<|Q5 [q0,q0,q0,q0,q0,q0,q0,q0,q0,q0,q0] (by kernel_rfl)<|U J<|U J<|U J ?_
 obtain ⟨b,o,a⟩:=q7 a
 refine Q9 (enc:=Q4) o J<|O (.d (.agg [G b.at_,G b.list_,G b.by_])) J<|U J<|U J ?_
 obtain ⟨c,p,a⟩:=q7 a
 refine Q9 (enc:=Q4) p J<|O (.d (.agg [G c.at_,G c.list_,G c.by_])) J ?_
 obtain ⟨n,q,a⟩:=q7 a
 refine Ye [.d (.agg [G b.at_,G b.list_,G b.by_]),.d (.agg [G c.at_,G c.list_,G c.by_])] (q1Ok b c n q) J J J (.inl J)<|O (.d (.bool (decide (n < 0)))) J<|q8 ?_
 refine qm J a (fun _ a=>?_) (fun _ a=>?_)
 ·refine qb<|U J<|O (.ref 0 1 0 0) J<|O (q6 f) J<|O (.d (G (w64 (f + 1)))) J<|O (.ref 0 1 0 0) J<|Q8 0 (.dat 1 [[G (w64 (f + 1))]]) J<|qp<|U J<|U J<|q9 J<|q9 J<|qr ?_
  obtain rfl:=qd a
  exact ⟨.inr J,_,J,wkA [] [] []⟩
 refine qn<|qb<|U J<|U J<|q9 J<|q9 J<|qr ?_
 obtain rfl:=qd a
 exact ⟨.inr J,_,J,wkA [] [] []⟩
theorem qk5 (h : qh→qh→Option Int) (q1F : FuncId) (q1C : List DV) (q1Ok : ∀ (j : qh) (k : qh) (r : Int),h j k = some r→Pure Tryz.prog tab q1F ([.agg [G j.at_,G j.list_,G j.by_],.agg [G k.at_,G k.list_,G k.by_]] ++ q1C) (G r)) (c : List qh) (l : Int) (m : Int) (n : Int) (o : Int) (r : Int × Int) (f : q5q h c l m n o = some r) : Qt Tryz.prog tab 180 [.d (.sl 3 (c.map Q4)),q6 l,q6 m,q6 n,.ref 0 1 0 0,.d (.fn q1F q1C)] [(0,.dat 1 [[G o]])] 1 (q6 r.1) [(0,.dat 1 [[G r.2]])] 1:=by
 unfold q5q at f
 refine K3 Tryz.func180 J (by kernel_rfl) (by kernel_rfl) J<|qb<|q9 J<|qp<|U J<|U J<|U J<|U J<|U J ?_
 obtain ⟨a,p,f⟩:=q7 f
 refine Qw [(0,0)] [(0,0)] [.d (.sl 3 (c.map Q4)),q6 l,q6 m,.ref 0 1 0 0,.d (.fn q1F q1C)] (.d (.tup [G a.1,G a.2.1])) 1 [(0,.dat 1 [[G a.2.2]])] 1 (qec h q1F q1C q1Ok c l m o a p)<|U J<|O (q6 a.1) J<|O (q6 a.2.1) J<|q9 J<|q9 J<|qp<|U J<|U J<|U J<|U J<|U J ?_
 obtain ⟨b,q,f⟩:=q7 f
 refine Qw [(0,0)] [(0,0)] [.d (.sl 3 (c.map Q4)),q6 a.2.1,q6 n,.ref 0 1 0 0,.d (.fn q1F q1C)] (.d (.tup [G b.1,G b.2.1])) 1 [(0,.dat 1 [[G b.2.2]])] 1 (qec h q1F q1C q1Ok c a.2.1 n a.2.2 b q)<|U J<|O (q6 b.1) J<|O (q6 b.2.1) J<|q9 J<|q9 J<|qp<|U J<|U J<|U J<|U J<|U J ?_
 obtain ⟨g,s,f⟩:=q7 f
 refine Qw [(0,0)] [(0,0)] [.d (.sl 3 (c.map Q4)),q6 a.1,q6 b.1,.ref 0 1 0 0,.d (.fn q1F q1C)] (.d (.tup [G g.1,G g.2.1])) 1 [(0,.dat 1 [[G g.2.2]])] 1 (qec h q1F q1C q1Ok c a.1 b.1 b.2.2 g s)<|U J<|O (q6 g.1) J<|O (q6 g.2.1) J<|q9 J<|q9 J<|qp<|U J<|q9 J<|qr ?_
 obtain rfl:=qd f
 exact ⟨.inr J,_,J,wkA [] [] []⟩
theorem qea (h : qh→qh→Option Int) (q1F : FuncId) (q1C : List DV) (q1Ok : ∀ (b : qh) (c : qh) (r : Int),h b c = some r→Pure Tryz.prog tab q1F ([.agg [G b.at_,G b.list_,G b.by_],.agg [G c.at_,G c.list_,G c.by_]] ++ q1C) (G r)) (f : List qh) (a : Int) (j : Int) (r : Int × Int) (g : q3d h f a j = some r) : Qt Tryz.prog tab 179 [.d (.sl 3 (f.map Q4)),q6 a,.ref 0 1 0 0,.d (.fn q1F q1C)] [(0,.dat 1 [[G j]])] 1 (q6 r.1) [(0,.dat 1 [[G r.2]])] 1:=by
 unfold q3d at g
 refine K3 Tryz.func179 J (by kernel_rfl) (by kernel_rfl) J<|qb<|q9 J<|qp<|U J<|U J<|O (.d (G (w64 (a - 1)))) J<|U J<|U J<|O (.d (G (w64 (a + 1)))) J<|U J<|U J ?_
 obtain ⟨k,l,g⟩:=q7 g
 refine Qw [(0,0)] [(0,0)] [.d (.sl 3 (f.map Q4)),.d (G (w64 (a - 1))),q6 a,.d (G (w64 (a + 1))),.ref 0 1 0 0,.d (.fn q1F q1C)] (q6 k.1) 1 [(0,.dat 1 [[G k.2]])] 1 (qk5 h q1F q1C q1Ok f (w64 (a - 1)) a (w64 (a + 1)) j k l)<|q9 J<|qr ?_
 obtain rfl:=qd g
 exact ⟨.inr J,_,J,wkA [] [] []⟩
theorem quz (g : List qh) (a : Int) (b : Int) (l : qh→qh→Option Int) (p3F : FuncId) (p3C : List DV) (p3Ok : ∀ (m : qh) (n : qh) (r : Int),l m n = some r→Pure Tryz.prog tab p3F ([.agg [G m.at_,G m.list_,G m.by_],.agg [G n.at_,G n.list_,G n.by_]] ++ p3C) (G r)) (r : Int × Int) (f : q8b g a b l = some r) : Pure Tryz.prog tab 173 [.sl 3 (g.map Q4),G a,G b,.fn p3F p3C] (.tup [G r.1,G r.2]):=by
 unfold q8b at f
 refine Qb Tryz.func173 J (by kernel_rfl) (by kernel_rfl) J<|qb<|q9 J<|q9 J<|qp<|U J<|U J<|O (.d (G (w64 (b - a)))) J<|q9 J<|qp<|Qo J J<|qp<|U J<|U J<|O (.d (G (w64 (Int.tdiv (w64 (b - a)) 4)))) J<|O (.d (G (w64 ((w64 (Int.tdiv (w64 (b - a)) 4)) * 1)))) J<|O (.d (G (w64 (a + (w64 ((w64 (Int.tdiv (w64 (b - a)) 4)) * 1)))))) J<|q9 J<|qp<|U J<|U J<|O (.d (G (w64 (Int.tdiv (w64 (b - a)) 4)))) J<|O (.d (G (w64 ((w64 (Int.tdiv (w64 (b - a)) 4)) * 2)))) J<|O (.d (G (w64 (a + (w64 ((w64 (Int.tdiv (w64 (b - a)) 4)) * 2)))))) J<|q9 J<|qp<|U J<|U J<|O (.d (G (w64 (Int.tdiv (w64 (b - a)) 4)))) J<|O (.d (G (w64 ((w64 (Int.tdiv (w64 (b - a)) 4)) * 3)))) J<|O (.d (G (w64 (a + (w64 ((w64 (Int.tdiv (w64 (b - a)) 4)) * 3)))))) J<|q9 J<|q8<|qf<|qb<|U J<|O (.d (.bool (decide ((w64 (b - a)) ≥ 8)))) J<|q8 ?_
 obtain ⟨t,k,f⟩:=q7 f
 refine Y3 (fun h=>h = t) (fun (h : Int × Int)=>⟨[(11,.ref 0 1 0 0),(13,q6 h.1)],[(0,.dat 1 [[G h.2]])],1⟩) (by simp) ?_ ?_
 ·refine qm J k (fun _ k=>?_) (fun _ k=>?_)
  ·refine qf<|qb<|U J<|O (.d (.bool (decide ((w64 (b - a)) ≥ 50)))) J<|q8 ?_
   obtain ⟨u,j,k⟩:=q7 k
   refine Y3 (fun c=>c = u) (fun (c : Int × Int × Int × Int)=>⟨[(0,.d (.sl 3 (g.map Q4))),(3,.d (.fn p3F p3C)),(11,.ref 0 1 0 0),(12,q6 c.1),(13,q6 c.2.1),(14,q6 c.2.2.1)],[(0,.dat 1 [[G c.2.2.2]])],1⟩) (by simp) ?_ ?_
   ·refine qm J j (fun _ j=>?_) (fun _ j=>?_)
    ·refine qb<|U J<|U J<|U J ?_
     obtain ⟨o,v,j⟩:=q7 j
     refine Qw [(0,0)] [(0,0)] [.d (.sl 3 (g.map Q4)),.d (G (w64 (a + (w64 ((w64 (Int.tdiv (w64 (b - a)) 4)) * 1))))),.ref 0 1 0 0,.d (.fn p3F p3C)] (q6 o.1) 1 [(0,.dat 1 [[G o.2]])] 1 (qea l p3F p3C p3Ok g (w64 (a + (w64 ((w64 (Int.tdiv (w64 (b - a)) 4)) * 1)))) 0 o v)<|q9 J<|qp<|U J<|U J<|U J ?_
     obtain ⟨p,w,j⟩:=q7 j
     refine Qw [(0,0)] [(0,0)] [.d (.sl 3 (g.map Q4)),.d (G (w64 (a + (w64 ((w64 (Int.tdiv (w64 (b - a)) 4)) * 2))))),.ref 0 1 0 0,.d (.fn p3F p3C)] (q6 p.1) 1 [(0,.dat 1 [[G p.2]])] 1 (qea l p3F p3C p3Ok g (w64 (a + (w64 ((w64 (Int.tdiv (w64 (b - a)) 4)) * 2)))) o.2 p w)<|q9 J<|q8<|qw<|U J<|U J<|U J ?_
     obtain ⟨q,x,j⟩:=q7 j
     refine Qw [(0,0)] [(0,0)] [.d (.sl 3 (g.map Q4)),.d (G (w64 (a + (w64 ((w64 (Int.tdiv (w64 (b - a)) 4)) * 3))))),.ref 0 1 0 0,.d (.fn p3F p3C)] (q6 q.1) 1 [(0,.dat 1 [[G q.2]])] 1 (qea l p3F p3C p3Ok g (w64 (a + (w64 ((w64 (Int.tdiv (w64 (b - a)) 4)) * 3)))) p.2 q x)<|q9 J<|qs ?_
     obtain rfl:=qd j
     exact ⟨_,J,wkA [(0,0)] [] []⟩
    refine qn<|Qa ?_
    obtain rfl:=qd j
    exact ⟨_,J,wkA [(0,0)] [] []⟩
   intro c hb
   subst hb
   refine qw<|U J<|U J<|U J<|U J<|U J ?_
   obtain ⟨s,y,k⟩:=q7 k
   refine Qw [(0,0)] [(0,0)] [.d (.sl 3 (g.map Q4)),q6 c.1,q6 c.2.1,q6 c.2.2.1,.ref 0 1 0 0,.d (.fn p3F p3C)] (q6 s.1) 1 [(0,.dat 1 [[G s.2]])] 1 (qk5 l p3F p3C p3Ok g c.1 c.2.1 c.2.2.1 c.2.2.2 s y)<|q9 J<|qs ?_
   obtain rfl:=qd k
   exact ⟨_,J,wkA [(0,0)] [] []⟩
  refine qn<|Qa ?_
  obtain rfl:=qd k
  exact ⟨_,J,wkA [(0,0)] [] []⟩
 intro h hb
 subst hb
 refine qb<|O (q6 h.2) J<|q8<|Q1<|qb<|O (qe (h.2 == 0)) J<|q9 J<|q8 ?_
 refine qm J f (fun _ f=>?_) (fun _ f=>?_)
 ·refine qb<|U J<|q9 J<|q9 J<|qr ?_
  obtain rfl:=qd f
  exact qz (.d (.tup [G h.1,G 1])) J
 refine qb<|O (qe (h.2 == 12)) J<|q9 J<|q8 ?_
 refine qm J f (fun _ f=>?_) (fun _ f=>?_)
 ·refine qb<|U J<|q9 J<|q9 J<|qr ?_
  obtain rfl:=qd f
  exact qz (.d (.tup [G h.1,G 2])) J
 refine qb<|U J<|q9 J<|q9 J<|qr ?_
 obtain rfl:=qd f
 exact qz (.d (.tup [G h.1,G 0])) J
theorem qvf (n : qh→qh→Option Int) (q1F : FuncId) (q1C : List DV) (_q1Ok : ∀ (g : qh) (h : qh) (r : Int),n g h = some r→Pure Tryz.prog tab q1F ([.agg [G g.at_,G g.list_,G g.by_],.agg [G h.at_,G h.list_,G h.by_]] ++ q1C) (G r)) (j : List qh) (m : Int) (k : Int) (r : List qh) (l : q8w n j m k = some r) : Qt Tryz.prog tab 174 [.hs 0 3 0 j.length,q6 m,q6 k,.d (.fn q1F q1C)] [(0,.dat 3 (j.map Q4))] 1 (.d (.tup [])) [(0,.dat 3 (r.map Q4))] 1:=by
 unfold q8w at l
 refine K3 Tryz.func174 J (by kernel_rfl) (by kernel_rfl) J<|qb<|U J<|q9 J<|qp<|U J<|O (.d (G (w64 (k - 1)))) J<|q9 J<|q8 ?_
 obtain ⟨t,u,l⟩:=q7 l
 refine Q1<|Q7 (q8x) (fun (b : Int × Int × List qh)=>⟨[(0,.hs 0 3 0 b.2.2.length),(8,q6 b.1),(9,q6 b.2.1)],[(0,.dat 3 (b.2.2.map Q4))],1⟩) (m,w64 (k - 1),j) t u (wkA [] [] []) ?_
 intro b v a
 unfold q8x at a
 refine qf<|qb<|U J<|U J<|O (.d (.bool (decide (b.1 < b.2.1)))) J<|q8 ?_
 refine qm J a (fun _ a=>?_) (fun _ a=>?_)
 ·refine qn<|Q1<|qf<|Q5 [Qd 0,q0,Qd 0,q0,qo 0,q0,q0,q0,qo 0,q0,q0,q0,q0,q0,q0,q0] (by kernel_rfl)<|U J<|U J<|U J<|U J<|U J<|U J ?_
  obtain ⟨c,o,a⟩:=q7 a
  refine qq o J J<|Q0 (.d (.agg [G c.at_,G c.list_,G c.by_])) o J<|U J<|U J ?_
  obtain ⟨f,p,a⟩:=q7 a
  refine qq p J J<|Q0 (.d (.agg [G f.at_,G f.list_,G f.by_])) p J ?_
  obtain ⟨w,q,a⟩:=q7 a
  refine qq q J J<|Qk (ds:=[G c.at_,G c.list_,G c.by_]) c q J J J J J J J J (leb J) J ?_
  obtain ⟨x,s,a⟩:=q7 a
  refine qq s (by simp) J<|Qk (ds:=[G f.at_,G f.list_,G f.by_]) f s J J J J J J J J (leb J) J<|qp<|U J<|O (.d (G (w64 (b.1 + 1)))) J<|q9 J<|q8<|qw<|U J<|O (.d (G (w64 (b.2.1 - 1)))) J<|q9 J<|qs<|Qc<|Qa ?_
  exact ⟨_,(Option.some.inj a).symm,wkE [] [] [] J ⟨⟨_,J,Qp (by simp) J (by decide) (ltd J)⟩,⟨_,J,.d (.refl _)⟩,⟨_,J,.d (.refl _)⟩,trivial⟩ ⟨⟨ltd J,.inr ⟨by decide,_,J,.dat _ _⟩⟩,trivial⟩⟩
 refine Q6 ?_
 refine ⟨_,(Option.some.inj a).symm,fun hm=>?_⟩
 subst hm
 obtain rfl:=qd l
 exact ⟨.inl J,_,J,wkA [] [] []⟩
theorem qv5 (q1 : qh→qh→Option Int) (q1F : FuncId) (q1C : List DV) (q1Ok : ∀ (x0 : qh) (x1 : qh) (r : Int),q1 x0 x1 = some r→Pure Tryz.prog tab q1F ([.agg [G x0.at_,G x0.list_,G x0.by_],.agg [G x1.at_,G x1.list_,G x1.by_]] ++ q1C) (G r)) (p0 : List qh) (j : Int) (h : Int) (r : Bool × List qh) (h0 : q5r q1 p0 j h = some r) : Qt Tryz.prog tab 175 [.hs 0 3 0 p0.length,q6 j,q6 h,.d (.fn q1F q1C)] [(0,.dat 3 (p0.map Q4))] 1 (qe r.1) [(0,.dat 3 (r.2.map Q4))] 1:=by
 unfold q5r at h0
 refine K3 Tryz.func175 J (by kernel_rfl) (by kernel_rfl) J<|qb<|q9 J<|qp<|U J<|O (.d (G (w64 (j + 1)))) J<|q9 J<|q8<|qf<|qb<|q9 J<|q8 ?_
 obtain ⟨ap,cb,h0⟩:=q7 h0
 refine Qh (fun al=>.inl al = ap) (fun (al : List qh)=>⟨[],[(0,.dat 3 (al.map Q4))],1⟩) (by simp) ?_ ?_
 ·refine Q7 (q5s h q1 j) (fun (g : Int × Int × List qh)=>⟨[(0,.hs 0 3 0 g.2.2.length),(1,q6 j),(2,q6 h),(3,.d (.fn q1F q1C)),(9,q6 g.1),(10,q6 g.2.1)],[(0,.dat 3 (g.2.2.map Q4))],1⟩) (w64 (j + 1),0,p0) ap cb (wkA [] [] []) ?_
  intro g cn l
  unfold q5s at l
  refine qf<|qb<|U J<|O (.d (.bool (decide (g.2.1 < 5)))) J<|q8 ?_
  refine qm J l (fun _ l=>?_) (fun _ l=>?_)
  ·refine qn<|qf ?_
   obtain ⟨cc,a,l⟩:=q7 l
   refine Qh (fun af=>.inl af = cc) (fun (af : Int × List qh)=>⟨[(0,.hs 0 3 0 af.2.length),(1,q6 j),(2,q6 h),(3,.d (.fn q1F q1C)),(9,q6 af.1),(10,q6 g.2.1)],[(0,.dat 3 (af.2.map Q4))],1⟩) (by simp) ?_ ?_
   ·refine qf ?_
    obtain ⟨aq,cd,a⟩:=q7 a
    refine Qh (fun f=>f = aq) (fun (f : Int)=>⟨[(0,.hs 0 3 0 g.2.2.length),(1,q6 j),(2,q6 h),(3,.d (.fn q1F q1C)),(9,q6 f),(10,q6 g.2.1)],[(0,.dat 3 (g.2.2.map Q4))],1⟩) (by simp) ?_ ?_
    ·refine Q7 (q8i h g q1) (fun (ah : Int)=>⟨[(0,.hs 0 3 0 g.2.2.length),(1,q6 j),(2,q6 h),(3,.d (.fn q1F q1C)),(9,q6 ah),(10,q6 g.2.1)],[(0,.dat 3 (g.2.2.map Q4))],1⟩) g.1 aq cd (wkA [] [] []) ?_
     intro ah co o
     unfold q8i at o
     refine qf<|qf<|Q5 [q0,q0,q0,q0,qo 0,q0,q0,q0,q0,qo 0,q0,q0,q0,q0,q0,q0,q0,q0] (by kernel_rfl)<|U J<|U J<|O (.d (.bool (decide (ah < h)))) J ?_
     obtain ⟨ce,k,o⟩:=q7 o
     refine Q3 15 (fun A st=>∃ (ar au av aw ax ay az ba bb bc bd be bf bg : V),st = A [(36,qe ce),(35,bg),(34,bf),(33,be),(32,bd),(31,bc),(30,bb),(29,ba),(28,az),(27,ay),(26,ax),(25,aw),(24,av),(23,au),(22,ar)]) ?_ ?_
     ·refine Q2 J J k (fun k=>?_) (fun k=>?_)
      ·refine U J<|U J<|U J ?_
       obtain ⟨t,bh,k⟩:=q7 k
       refine qq bh J J<|Q0 (.d (.agg [G t.at_,G t.list_,G t.by_])) bh J<|U J<|U J<|O (.d (G (w64 (ah - 1)))) J ?_
       obtain ⟨u,bi,k⟩:=q7 k
       refine qq bi J J<|Q0 (.d (.agg [G u.at_,G u.list_,G u.by_])) bi J ?_
       obtain ⟨am,cf,k⟩:=q7 k
       refine Ye [.d (.agg [G t.at_,G t.list_,G t.by_]),.d (.agg [G u.at_,G u.list_,G u.by_])] (q1Ok t u am cf) J J J (.inl J)<|O (.d (.bool (decide (am < 0)))) J<|O (.d (.bool (!(decide (am < 0))))) J<|O (.d (.bool (!(decide (am < 0))))) J<|q8 ?_
       obtain rfl:=qd k
       exact ⟨_,_,_,_,_,_,_,_,_,_,_,_,_,_,J⟩
      refine qa J<|qa J<|qa J<|qa J<|qa J<|qa J<|qa J<|qa J<|qa J<|qa J<|qa J<|qa J<|qa J<|O (qe false) J<|q8 ?_
      obtain rfl:=qd k
      exact ⟨_,_,_,_,_,_,_,_,_,_,_,_,_,_,J⟩
     rintro _ ⟨ar,au,av,aw,ax,ay,az,ba,bb,bc,bd,be,bf,bg,rfl⟩
     refine q8 ?_
     refine qm J o (fun _ o=>?_) (fun _ o=>?_)
     ·refine qn<|Q1<|qw<|U J<|O (.d (G (w64 (ah + 1)))) J<|q9 J<|qs<|Qc<|Qa ?_
      exact ⟨_,(Option.some.inj o).symm,wkA [] [] []⟩
     refine Q6 ?_
     refine ⟨_,(Option.some.inj o).symm,fun hm=>?_⟩
     subst hm
     exact ⟨_,J,wkA [] [] []⟩
    intro f hb
    subst hb
    refine qf<|qb<|U J<|U J<|O (qe (f == h)) J<|q8 ?_
    refine qm J a (fun _ a=>?_) (fun _ a=>?_)
    ·refine qb<|q9 J<|qr ?_
     obtain rfl:=qd a
     refine ⟨_,(Option.some.inj l).symm,fun hm=>?_⟩
     subst hm
     obtain rfl:=qd h0
     exact ⟨.inr J,_,J,wkA [] [] []⟩
    refine qn<|qf<|qb<|U J<|U J<|O (.d (G (w64 (h - j)))) J<|O (.d (.bool (decide ((w64 (h - j)) < 50)))) J<|q8 ?_
    refine qm J a (fun _ a=>?_) (fun _ a=>?_)
    ·refine qb<|q9 J<|qr ?_
     obtain rfl:=qd a
     refine ⟨_,(Option.some.inj l).symm,fun hm=>?_⟩
     subst hm
     obtain rfl:=qd h0
     exact ⟨.inr J,_,J,wkA [] [] []⟩
    refine qn<|qf<|Q5 [Qd 0,q0,Qd 0,q0,qo 0,q0,q0,q0,qo 0,q0,q0,q0,q0,q0,q0,q0,q0,q0] (by kernel_rfl)<|U J<|U J<|U J<|U J<|O (.d (G (w64 (f - 1)))) J<|U J<|U J<|O (.d (G (w64 (f - 1)))) J ?_
    obtain ⟨p,bj,a⟩:=q7 a
    refine qq bj J J<|Q0 (.d (.agg [G p.at_,G p.list_,G p.by_])) bj J<|U J<|U J ?_
    obtain ⟨q,bk,a⟩:=q7 a
    refine qq bk J J<|Q0 (.d (.agg [G q.at_,G q.list_,G q.by_])) bk J ?_
    obtain ⟨cp,bl,a⟩:=q7 a
    refine qq bl J J<|Qk (ds:=[G p.at_,G p.list_,G p.by_]) p bl J J J J J J J J (leb J) J ?_
    obtain ⟨cq,bm,a⟩:=q7 a
    refine qq bm (by simp) J<|Qk (ds:=[G q.at_,G q.list_,G q.by_]) q bm J J J J J J J J (leb J) J<|q8<|qf<|qb<|U J<|U J<|O (.d (G (w64 (f - j)))) J<|O (.d (.bool (decide ((w64 (f - j)) ≥ 2)))) J<|q8 ?_
    obtain ⟨cg,s,a⟩:=q7 a
    refine Y3 (fun ag=>ag = cg) (fun (ag : List qh)=>⟨[(0,.hs 0 3 0 ag.length),(1,q6 j),(2,q6 h),(3,.d (.fn q1F q1C)),(9,q6 f),(10,q6 g.2.1)],[(0,.dat 3 (ag.map Q4))],1⟩) (by simp) ?_ ?_
    ·refine qm J s (fun _ s=>?_) (fun _ s=>?_)
     ·refine qb<|U J<|O (.d (G (w64 (f - 1)))) J<|q9 J<|q8 ?_
      obtain ⟨ch,ci,s⟩:=q7 s
      refine Q1<|Q7 (q8j q1) (fun (m : Int × List qh)=>⟨[(0,.hs 0 3 0 m.2.length),(1,q6 j),(2,q6 h),(3,.d (.fn q1F q1C)),(9,q6 f),(10,q6 g.2.1),(11,q6 m.1)],[(0,.dat 3 (m.2.map Q4))],1⟩) (w64 (f - 1),(g.2.2.set f.toNat p).set (w64 (f - 1)).toNat q) ch ci (wkE [] [] [] J ⟨⟨_,J,Qp (by simp) J (by decide) (ltd J)⟩,⟨_,J,.d (.refl _)⟩,⟨_,J,.d (.refl _)⟩,⟨_,J,.d (.refl _)⟩,⟨_,J,.d (.refl _)⟩,⟨_,J,.d (.refl _)⟩,⟨_,J,.d (.refl _)⟩,trivial⟩ ⟨⟨ltd J,.inr ⟨by decide,_,J,.dat _ _⟩⟩,trivial⟩) ?_
      intro m cr b
      unfold q8j at b
      refine qf<|qb<|U J<|O (.d (.bool (decide (m.1 ≥ 1)))) J<|q8 ?_
      refine qm J b (fun _ b=>?_) (fun _ b=>?_)
      ·refine qn<|qf<|Q1<|qf<|qf<|Q5 [q0,q0,q0,qo 0,q0,q0,q0,q0,qo 0,q0,q0,q0,q0] (by kernel_rfl)<|U J<|U J<|U J ?_
       obtain ⟨v,bn,b⟩:=q7 b
       refine qq bn J J<|Q0 (.d (.agg [G v.at_,G v.list_,G v.by_])) bn J<|U J<|U J<|O (.d (G (w64 (m.1 - 1)))) J ?_
       obtain ⟨w,bo,b⟩:=q7 b
       refine qq bo J J<|Q0 (.d (.agg [G w.at_,G w.list_,G w.by_])) bo J ?_
       obtain ⟨an,cj,b⟩:=q7 b
       refine Ye [.d (.agg [G v.at_,G v.list_,G v.by_]),.d (.agg [G w.at_,G w.list_,G w.by_])] (q1Ok v w an cj) J J J (.inl J)<|O (.d (.bool (decide (an < 0)))) J<|O (.d (.bool (!(decide (an < 0))))) J<|q8 ?_
       refine qm J b (fun _ b=>?_) (fun _ b=>?_)
       ·refine Q6 ?_
        refine ⟨_,(Option.some.inj b).symm,fun hm=>?_⟩
        subst hm
        obtain rfl:=qd s
        exact ⟨_,J,wkA [] [] []⟩
       refine qn<|Q5 [Qd 0,q0,Qd 0,q0,qo 0,q0,q0,q0,qo 0,q0,q0,q0,q0,q0,q0,q0,q0,q0] (by kernel_rfl)<|U J<|U J<|U J<|U J<|O (.d (G (w64 (m.1 - 1)))) J<|U J<|U J<|O (.d (G (w64 (m.1 - 1)))) J ?_
       obtain ⟨x,bp,b⟩:=q7 b
       refine qq bp J J<|Q0 (.d (.agg [G x.at_,G x.list_,G x.by_])) bp J<|U J<|U J ?_
       obtain ⟨y,bq,b⟩:=q7 b
       refine qq bq J J<|Q0 (.d (.agg [G y.at_,G y.list_,G y.by_])) bq J ?_
       obtain ⟨cs,br,b⟩:=q7 b
       refine qq br J J<|Qk (ds:=[G x.at_,G x.list_,G x.by_]) x br J J J J J J J J (leb J) J ?_
       obtain ⟨ct,bs,b⟩:=q7 b
       refine qq bs (by simp) J<|Qk (ds:=[G y.at_,G y.list_,G y.by_]) y bs J J J J J J J J (leb J) J<|qs<|Qc<|qw<|U J<|O (.d (G (w64 (m.1 - 1)))) J<|q9 J<|qs ?_
       exact ⟨_,(Option.some.inj b).symm,wkE [] [] [] J ⟨⟨_,J,Qp (by simp) J (by decide) (ltd J)⟩,⟨_,J,.d (.refl _)⟩,⟨_,J,.d (.refl _)⟩,⟨_,J,.d (.refl _)⟩,⟨_,J,.d (.refl _)⟩,⟨_,J,.d (.refl _)⟩,⟨_,J,.d (.refl _)⟩,trivial⟩ ⟨⟨ltd J,.inr ⟨by decide,_,J,.dat _ _⟩⟩,trivial⟩⟩
      refine Q6 ?_
      refine ⟨_,(Option.some.inj b).symm,fun hm=>?_⟩
      subst hm
      obtain rfl:=qd s
      exact ⟨_,J,wkA [] [] []⟩
     refine qn<|Qa ?_
     obtain rfl:=qd s
     exact ⟨_,J,wkE [] [] [] J ⟨⟨_,J,Qp (by simp) J (by decide) (ltd J)⟩,⟨_,J,.d (.refl _)⟩,⟨_,J,.d (.refl _)⟩,⟨_,J,.d (.refl _)⟩,⟨_,J,.d (.refl _)⟩,⟨_,J,.d (.refl _)⟩,trivial⟩ ⟨⟨ltd J,.inr ⟨by decide,_,J,.dat _ _⟩⟩,trivial⟩⟩
    intro ag hb
    subst hb
    refine qb<|U J<|U J<|O (.d (G (w64 (h - f)))) J<|O (.d (.bool (decide ((w64 (h - f)) ≥ 2)))) J<|q8 ?_
    refine qm J a (fun _ a=>?_) (fun _ a=>?_)
    ·refine qb<|U J<|O (.d (G (w64 (f + 1)))) J<|q9 J<|q8 ?_
     obtain ⟨ck,cl,a⟩:=q7 a
     refine Q1<|Q7 (q8k h q1 f) (fun (n : Int × List qh)=>⟨[(0,.hs 0 3 0 n.2.length),(1,q6 j),(2,q6 h),(3,.d (.fn q1F q1C)),(9,q6 f),(10,q6 g.2.1),(12,q6 n.1)],[(0,.dat 3 (n.2.map Q4))],1⟩) (w64 (f + 1),ag) ck cl (wkA [] [] []) ?_
     intro n cu c
     unfold q8k at c
     refine qf<|qb<|U J<|U J<|O (.d (.bool (decide (n.1 < h)))) J<|q8 ?_
     refine qm J c (fun _ c=>?_) (fun _ c=>?_)
     ·refine qn<|qf<|Q1<|qf<|qf<|Q5 [q0,q0,q0,qo 0,q0,q0,q0,q0,qo 0,q0,q0,q0,q0] (by kernel_rfl)<|U J<|U J<|U J ?_
      obtain ⟨z,bt,c⟩:=q7 c
      refine qq bt J J<|Q0 (.d (.agg [G z.at_,G z.list_,G z.by_])) bt J<|U J<|U J<|O (.d (G (w64 (n.1 - 1)))) J ?_
      obtain ⟨aa,bu,c⟩:=q7 c
      refine qq bu J J<|Q0 (.d (.agg [G aa.at_,G aa.list_,G aa.by_])) bu J ?_
      obtain ⟨ao,cm,c⟩:=q7 c
      refine Ye [.d (.agg [G z.at_,G z.list_,G z.by_]),.d (.agg [G aa.at_,G aa.list_,G aa.by_])] (q1Ok z aa ao cm) J J J (.inl J)<|O (.d (.bool (decide (ao < 0)))) J<|O (.d (.bool (!(decide (ao < 0))))) J<|q8 ?_
      refine qm J c (fun _ c=>?_) (fun _ c=>?_)
      ·refine Q6 ?_
       refine ⟨_,(Option.some.inj c).symm,fun hm=>?_⟩
       subst hm
       obtain rfl:=qd a
       exact ⟨_,J,wkA [] [] []⟩
      refine qn<|Q5 [Qd 0,q0,Qd 0,q0,qo 0,q0,q0,q0,qo 0,q0,q0,q0,q0,q0,q0,q0,q0,q0] (by kernel_rfl)<|U J<|U J<|U J<|U J<|O (.d (G (w64 (n.1 - 1)))) J<|U J<|U J<|O (.d (G (w64 (n.1 - 1)))) J ?_
      obtain ⟨ab,bv,c⟩:=q7 c
      refine qq bv J J<|Q0 (.d (.agg [G ab.at_,G ab.list_,G ab.by_])) bv J<|U J<|U J ?_
      obtain ⟨ac,bw,c⟩:=q7 c
      refine qq bw J J<|Q0 (.d (.agg [G ac.at_,G ac.list_,G ac.by_])) bw J ?_
      obtain ⟨cv,bz,c⟩:=q7 c
      refine qq bz J J<|Qk (ds:=[G ab.at_,G ab.list_,G ab.by_]) ab bz J J J J J J J J (leb J) J ?_
      obtain ⟨cw,ca,c⟩:=q7 c
      refine qq ca (by simp) J<|Qk (ds:=[G ac.at_,G ac.list_,G ac.by_]) ac ca J J J J J J J J (leb J) J<|qs<|Qc<|qw<|U J<|O (.d (G (w64 (n.1 + 1)))) J<|q9 J<|qs ?_
      exact ⟨_,(Option.some.inj c).symm,wkE [] [] [] J ⟨⟨_,J,Qp (by simp) J (by decide) (ltd J)⟩,⟨_,J,.d (.refl _)⟩,⟨_,J,.d (.refl _)⟩,⟨_,J,.d (.refl _)⟩,⟨_,J,.d (.refl _)⟩,⟨_,J,.d (.refl _)⟩,⟨_,J,.d (.refl _)⟩,trivial⟩ ⟨⟨ltd J,.inr ⟨by decide,_,J,.dat _ _⟩⟩,trivial⟩⟩
     refine Q6 ?_
     refine ⟨_,(Option.some.inj c).symm,fun hm=>?_⟩
     subst hm
     obtain rfl:=qd a
     exact ⟨_,J,wkA [] [] []⟩
    refine qn<|Qa ?_
    obtain rfl:=qd a
    exact ⟨_,J,wkA [] [] []⟩
   intro af hb
   subst hb
   refine qw<|U J<|O (.d (G (w64 (g.2.1 + 1)))) J<|q9 J<|qs ?_
   exact ⟨_,(Option.some.inj l).symm,wkA [] [] []⟩
  refine Q6 ?_
  refine ⟨_,(Option.some.inj l).symm,fun hm=>?_⟩
  subst hm
  exact ⟨_,J,wkA [] [] []⟩
 intro al hb
 subst hb
 refine qb<|q9 J<|qr ?_
 obtain rfl:=qd h0
 exact ⟨.inr J,_,J,wkA [] [] []⟩
theorem qv8 (w : qh→qh→Option Int) (q1F : FuncId) (q1C : List DV) (q1Ok : ∀ (y : qh) (z : qh) (r : Int),w y z = some r→Pure Tryz.prog tab q1F ([.agg [G y.at_,G y.list_,G y.by_],.agg [G z.at_,G z.list_,G z.by_]] ++ q1C) (G r)) (p0 : List qh) (c : Int) (p2 : Int) (p3 : Int) (r : Int × List qh) (f : q8s w p0 c p2 p3 = some r) : Qt Tryz.prog tab 176 [.hs 0 3 0 p0.length,q6 c,q6 p2,q6 p3,.d (.fn q1F q1C)] [(0,.dat 3 (p0.map Q4))] 1 (q6 r.1) [(0,.dat 3 (r.2.map Q4))] 1:=by
 unfold q8s at f
 refine K3 Tryz.func176 J (by kernel_rfl) (by kernel_rfl) J<|qb<|q9 J<|q8<|qf<|Q5 [Qd 0,q0,Qd 0,q0,qo 0,q0,q0,q0,qo 0,q0,q0,q0,q0,q0,q0,q0] (by kernel_rfl)<|U J<|U J<|U J<|U J<|U J<|U J ?_
 obtain ⟨k,ah,f⟩:=q7 f
 refine qq ah J J<|Q0 (.d (.agg [G k.at_,G k.list_,G k.by_])) ah J<|U J<|U J ?_
 obtain ⟨l,ai,f⟩:=q7 f
 refine qq ai J J<|Q0 (.d (.agg [G l.at_,G l.list_,G l.by_])) ai J ?_
 obtain ⟨cg,aj,f⟩:=q7 f
 refine qq aj J J<|Qk (ds:=[G k.at_,G k.list_,G k.by_]) k aj J J J J J J J J (leb J) J ?_
 obtain ⟨ch,ak,f⟩:=q7 f
 refine qq ak (by simp) J<|Qk (ds:=[G l.at_,G l.list_,G l.by_]) l ak J J J J J J J J (leb J) J<|qp<|U J<|O (.d (G (w64 (c + 1)))) J<|U J<|O (.d (G (w64 (p2 - 1)))) J<|q9 J<|q9 J<|q8<|qf ?_
 obtain ⟨al,bz,f⟩:=q7 f
 refine Qh (fun x=>x = al) (fun (x : Int × List qh)=>⟨[(11,q6 x.1)],[(0,.dat 3 (x.2.map Q4))],1⟩) (by simp) ?_ ?_
 ·refine Q7 (q8t c w) (fun (a : Int × Int × List qh)=>⟨[(0,.hs 0 3 0 a.2.2.length),(1,q6 c),(4,.d (.fn q1F q1C)),(11,q6 a.1),(12,q6 a.2.1)],[(0,.dat 3 (a.2.2.map Q4))],1⟩) (w64 (c + 1),w64 (p2 - 1),(p0.set c.toNat k).set p3.toNat l) al bz (wkE [] [] [] J ⟨⟨_,J,Qp (by simp) J (by decide) (ltd J)⟩,⟨_,J,.d (.refl _)⟩,⟨_,J,.d (.refl _)⟩,⟨_,J,.d (.refl _)⟩,⟨_,J,.d (.refl _)⟩,trivial⟩ ⟨⟨ltd J,.inr ⟨by decide,_,J,.dat _ _⟩⟩,trivial⟩) ?_
  intro a ci b
  unfold q8t at b
  refine Q1<|qf ?_
  obtain ⟨am,ca,b⟩:=q7 b
  refine Qh (fun j=>j = am) (fun (j : Int)=>⟨[(0,.hs 0 3 0 a.2.2.length),(1,q6 c),(4,.d (.fn q1F q1C)),(11,q6 j),(12,q6 a.2.1)],[(0,.dat 3 (a.2.2.map Q4))],1⟩) (by simp) ?_ ?_
  ·refine Q7 (q8u a c w) (fun (ac : Int)=>⟨[(0,.hs 0 3 0 a.2.2.length),(1,q6 c),(4,.d (.fn q1F q1C)),(11,q6 ac),(12,q6 a.2.1)],[(0,.dat 3 (a.2.2.map Q4))],1⟩) a.1 am ca (wkA [] [] []) ?_
   intro ac cj m
   unfold q8u at m
   refine qf<|qf<|Q5 [q0,q0,q0,q0,qo 0,q0,q0,q0,qo 0,q0,q0,q0,q0,q0,q0,q0,q0] (by kernel_rfl)<|U J<|U J<|O (.d (.bool (decide (ac≤a.2.1)))) J ?_
   obtain ⟨cb,g,m⟩:=q7 m
   refine Q3 14 (fun A st=>∃ (an ao ap aq ar au av aw ax ay az ba bb : V),st = A [(47,qe cb),(46,bb),(45,ba),(44,az),(43,ay),(42,ax),(41,aw),(40,av),(39,au),(38,ar),(37,aq),(36,ap),(35,ao),(34,an)]) ?_ ?_
   ·refine Q2 J J g (fun g=>?_) (fun g=>?_)
    ·refine U J<|U J<|U J ?_
     obtain ⟨o,bc,g⟩:=q7 g
     refine qq bc J J<|Q0 (.d (.agg [G o.at_,G o.list_,G o.by_])) bc J<|U J<|U J ?_
     obtain ⟨p,bd,g⟩:=q7 g
     refine qq bd J J<|Q0 (.d (.agg [G p.at_,G p.list_,G p.by_])) bd J ?_
     obtain ⟨ad,cc,g⟩:=q7 g
     refine Ye [.d (.agg [G o.at_,G o.list_,G o.by_]),.d (.agg [G p.at_,G p.list_,G p.by_])] (q1Ok o p ad cc) J J J (.inl J)<|O (.d (.bool (decide (ad < 0)))) J<|O (.d (.bool (!(decide (ad < 0))))) J<|O (.d (.bool (!(decide (ad < 0))))) J<|q8 ?_
     obtain rfl:=qd g
     exact ⟨_,_,_,_,_,_,_,_,_,_,_,_,_,J⟩
    refine qa J<|qa J<|qa J<|qa J<|qa J<|qa J<|qa J<|qa J<|qa J<|qa J<|qa J<|qa J<|O (qe false) J<|q8 ?_
    obtain rfl:=qd g
    exact ⟨_,_,_,_,_,_,_,_,_,_,_,_,_,J⟩
   rintro _ ⟨an,ao,ap,aq,ar,au,av,aw,ax,ay,az,ba,bb,rfl⟩
   refine q8 ?_
   refine qm J m (fun _ m=>?_) (fun _ m=>?_)
   ·refine qn<|Q1<|qw<|U J<|O (.d (G (w64 (ac + 1)))) J<|q9 J<|qs<|Qc<|Qa ?_
    exact ⟨_,(Option.some.inj m).symm,wkA [] [] []⟩
   refine Q6 ?_
   refine ⟨_,(Option.some.inj m).symm,fun hm=>?_⟩
   subst hm
   exact ⟨_,J,wkA [] [] []⟩
  intro j hb
  subst hb
  refine qf ?_
  obtain ⟨be,cd,b⟩:=q7 b
  refine Qh (fun v=>v = be) (fun (v : Int)=>⟨[(0,.hs 0 3 0 a.2.2.length),(1,q6 c),(4,.d (.fn q1F q1C)),(11,q6 j),(12,q6 v)],[(0,.dat 3 (a.2.2.map Q4))],1⟩) (by simp) ?_ ?_
  ·refine Q7 (q8v j a c w) (fun (ae : Int)=>⟨[(0,.hs 0 3 0 a.2.2.length),(1,q6 c),(4,.d (.fn q1F q1C)),(11,q6 j),(12,q6 ae)],[(0,.dat 3 (a.2.2.map Q4))],1⟩) a.2.1 be cd (wkA [] [] []) ?_
   intro ae ck n
   unfold q8v at n
   refine qf<|qf<|Q5 [q0,q0,q0,qo 0,q0,q0,q0,qo 0,q0,q0,q0,q0,q0,q0,q0,q0] (by kernel_rfl)<|U J<|U J<|O (.d (.bool (decide (j≤ae)))) J ?_
   obtain ⟨ce,h,n⟩:=q7 n
   refine Q3 13 (fun A st=>∃ (bf bg bh bi bj bk bl bm bn bo bp bq : V),st = A [(65,qe ce),(64,bq),(63,bp),(62,bo),(61,bn),(60,bm),(59,bl),(58,bk),(57,bj),(56,bi),(55,bh),(54,bg),(53,bf)]) ?_ ?_
   ·refine Q2 J J h (fun h=>?_) (fun h=>?_)
    ·refine U J<|U J<|U J ?_
     obtain ⟨q,br,h⟩:=q7 h
     refine qq br J J<|Q0 (.d (.agg [G q.at_,G q.list_,G q.by_])) br J<|U J<|U J ?_
     obtain ⟨s,bs,h⟩:=q7 h
     refine qq bs J J<|Q0 (.d (.agg [G s.at_,G s.list_,G s.by_])) bs J ?_
     obtain ⟨ag,cf,h⟩:=q7 h
     refine Ye [.d (.agg [G q.at_,G q.list_,G q.by_]),.d (.agg [G s.at_,G s.list_,G s.by_])] (q1Ok q s ag cf) J J J (.inl J)<|O (.d (.bool (decide (ag < 0)))) J<|O (.d (.bool (decide (ag < 0)))) J<|q8 ?_
     obtain rfl:=qd h
     exact ⟨_,_,_,_,_,_,_,_,_,_,_,_,J⟩
    refine qa J<|qa J<|qa J<|qa J<|qa J<|qa J<|qa J<|qa J<|qa J<|qa J<|qa J<|O (qe false) J<|q8 ?_
    obtain rfl:=qd h
    exact ⟨_,_,_,_,_,_,_,_,_,_,_,_,J⟩
   rintro _ ⟨bf,bg,bh,bi,bj,bk,bl,bm,bn,bo,bp,bq,rfl⟩
   refine q8 ?_
   refine qm J n (fun _ n=>?_) (fun _ n=>?_)
   ·refine qn<|Q1<|qw<|U J<|O (.d (G (w64 (ae - 1)))) J<|q9 J<|qs<|Qc<|Qa ?_
    exact ⟨_,(Option.some.inj n).symm,wkA [] [] []⟩
   refine Q6 ?_
   refine ⟨_,(Option.some.inj n).symm,fun hm=>?_⟩
   subst hm
   exact ⟨_,J,wkA [] [] []⟩
  intro v hb
  subst hb
  refine qf<|qb<|U J<|U J<|O (.d (.bool (decide (j > v)))) J<|q8 ?_
  refine qm J b (fun _ b=>?_) (fun _ b=>?_)
  ·refine Q6 ?_
   refine ⟨_,(Option.some.inj b).symm,fun hm=>?_⟩
   subst hm
   exact ⟨_,J,wkA [] [] []⟩
  refine qn<|qf<|Q5 [Qd 0,q0,Qd 0,q0,qo 0,q0,q0,q0,qo 0,q0,q0,q0,q0,q0,q0,q0] (by kernel_rfl)<|U J<|U J<|U J<|U J<|U J<|U J ?_
  obtain ⟨t,bt,b⟩:=q7 b
  refine qq bt J J<|Q0 (.d (.agg [G t.at_,G t.list_,G t.by_])) bt J<|U J<|U J ?_
  obtain ⟨u,bu,b⟩:=q7 b
  refine qq bu J J<|Q0 (.d (.agg [G u.at_,G u.list_,G u.by_])) bu J ?_
  obtain ⟨cl,bv,b⟩:=q7 b
  refine qq bv J J<|Qk (ds:=[G t.at_,G t.list_,G t.by_]) t bv J J J J J J J J (leb J) J ?_
  obtain ⟨cm,bw,b⟩:=q7 b
  refine qq bw (by simp) J<|Qk (ds:=[G u.at_,G u.list_,G u.by_]) u bw J J J J J J J J (leb J) J<|qp<|U J<|O (.d (G (w64 (j + 1)))) J<|q9 J<|q8<|qw<|U J<|O (.d (G (w64 (v - 1)))) J<|q9 J<|qs<|Qc<|Qa ?_
  exact ⟨_,(Option.some.inj b).symm,wkE [] [] [] J ⟨⟨_,J,Qp (by simp) J (by decide) (ltd J)⟩,⟨_,J,.d (.refl _)⟩,⟨_,J,.d (.refl _)⟩,⟨_,J,.d (.refl _)⟩,⟨_,J,.d (.refl _)⟩,trivial⟩ ⟨⟨ltd J,.inr ⟨by decide,_,J,.dat _ _⟩⟩,trivial⟩⟩
 intro x hb
 subst hb
 refine qb<|U J<|q9 J<|qr ?_
 obtain rfl:=qd f
 exact ⟨.inr J,_,J,wkA [] [] []⟩
end Go.Proofs.YtjjmcdlnadkjbaaGreat
