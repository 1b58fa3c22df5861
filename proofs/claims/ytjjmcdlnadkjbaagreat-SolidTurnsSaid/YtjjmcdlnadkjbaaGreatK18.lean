/- W_Alld W_All -/
import Derived.Test.YtjjmcdlnadkjbaaGreatK17
namespace Go.Proofs.YtjjmcdlnadkjbaaGreat
open Go Go.Am Go.Sh
set_option maxHeartbeats 8000000
set_option maxRecDepth 100000
theorem qxp (a : qg) (b : qg) (r : Int) (c : q91 a b = some r) : Pure Tryz.prog tab 69 [.agg [G a.Lo.X,G a.Lo.Y,G a.Lo.Z,G a.Hi.X,G a.Hi.Y,G a.Hi.Z],.agg [G b.Lo.X,G b.Lo.Y,G b.Lo.Z,G b.Hi.X,G b.Hi.Y,G b.Hi.Z]] (G r):=by
 unfold q91 at c
 refine Qb Tryz.func69 J (by kernel_rfl) (by kernel_rfl) J<|qb<|Qg (.ref 0 6 0 0) (.dat 6 [[G a.Lo.X,G a.Lo.Y,G a.Lo.Z,G a.Hi.X,G a.Hi.Y,G a.Hi.Z]]) J<|Qg (.ref 1 6 0 0) (.dat 6 [[G b.Lo.X,G b.Lo.Y,G b.Lo.Z,G b.Hi.X,G b.Hi.Y,G b.Hi.Z]]) J<|q9 J<|qp<|O (.ref 0 6 0 3) J<|O (.ref 0 6 0 3) J<|O (q6 a.Hi.X) J<|O (.ref 1 6 0 3) J<|O (.ref 1 6 0 3) J<|O (q6 b.Hi.X) J<|Ji (r:=min a.Hi.X b.Hi.X) J J (by simp only [Jg];rfl)<|O (.ref 0 6 0 0) J<|O (.ref 0 6 0 0) J<|O (q6 a.Lo.X) J<|O (.ref 1 6 0 0) J<|O (.ref 1 6 0 0) J<|O (q6 b.Lo.X) J<|Jh (r:=max a.Lo.X b.Lo.X) J J (by simp only [Jf];rfl)<|O (.d (G (w64 ((min a.Hi.X b.Hi.X) - (max a.Lo.X b.Lo.X))))) J<|q9 J<|qp<|O (.ref 0 6 0 3) J<|O (.ref 0 6 0 4) J<|O (q6 a.Hi.Y) J<|O (.ref 1 6 0 3) J<|O (.ref 1 6 0 4) J<|O (q6 b.Hi.Y) J<|Ji (r:=min a.Hi.Y b.Hi.Y) J J (by simp only [Jg];rfl)<|O (.ref 0 6 0 0) J<|O (.ref 0 6 0 1) J<|O (q6 a.Lo.Y) J<|O (.ref 1 6 0 0) J<|O (.ref 1 6 0 1) J<|O (q6 b.Lo.Y) J<|Jh (r:=max a.Lo.Y b.Lo.Y) J J (by simp only [Jf];rfl)<|O (.d (G (w64 ((min a.Hi.Y b.Hi.Y) - (max a.Lo.Y b.Lo.Y))))) J<|q9 J<|qp ?_
 refine O (.ref 0 6 0 3) J<|O (.ref 0 6 0 5) J<|O (q6 a.Hi.Z) J<|O (.ref 1 6 0 3) J<|O (.ref 1 6 0 5) J<|O (q6 b.Hi.Z) J<|Ji (r:=min a.Hi.Z b.Hi.Z) J J (by simp only [Jg];rfl)<|O (.ref 0 6 0 0) J<|O (.ref 0 6 0 2) J<|O (q6 a.Lo.Z) J<|O (.ref 1 6 0 0) J<|O (.ref 1 6 0 2) J<|O (q6 b.Lo.Z) J<|Jh (r:=max a.Lo.Z b.Lo.Z) J J (by simp only [Jf];rfl)<|O (.d (G (w64 ((min a.Hi.Z b.Hi.Z) - (max a.Lo.Z b.Lo.Z))))) J<|q9 J<|q8<|qf<|Q1<|qb<|U J<|O (.d (.bool ((w64 ((min a.Hi.X b.Hi.X) - (max a.Lo.X b.Lo.X))) == 0))) J ?_
 obtain ⟨af,f,c⟩:=q7 c
 refine Q3 4 (fun A st=>∃ (m n o : V),st = A [(59,qe af),(58,o),(57,n),(56,m)]) ?_ ?_
 ·refine Q2 J J f (fun f=>?_) (fun f=>?_)
  ·refine U J<|O (.d (.bool (decide ((w64 ((min a.Hi.Y b.Hi.Y) - (max a.Lo.Y b.Lo.Y))) > 0)))) J<|O (.d (.bool (decide ((w64 ((min a.Hi.Y b.Hi.Y) - (max a.Lo.Y b.Lo.Y))) > 0)))) J<|q8 ?_
   obtain rfl:=qd f
   exact ⟨_,_,_,J⟩
  refine qa J<|qa J<|O (qe false) J<|q8 ?_
  obtain rfl:=qd f
  exact ⟨_,_,_,J⟩
 rintro _ ⟨m,n,o,rfl⟩
 obtain ⟨ag,g,c⟩:=q7 c
 refine Q3 4 (fun A st=>∃ (p q s : V),st = A [(63,qe ag),(62,s),(61,q),(60,p)]) ?_ ?_
 ·refine Q2 J J g (fun g=>?_) (fun g=>?_)
  ·refine U J<|O (.d (.bool (decide ((w64 ((min a.Hi.Z b.Hi.Z) - (max a.Lo.Z b.Lo.Z))) > 0)))) J<|O (.d (.bool (decide ((w64 ((min a.Hi.Z b.Hi.Z) - (max a.Lo.Z b.Lo.Z))) > 0)))) J<|q8 ?_
   obtain rfl:=qd g
   exact ⟨_,_,_,J⟩
  refine qa J<|qa J<|O (qe false) J<|q8 ?_
  obtain rfl:=qd g
  exact ⟨_,_,_,J⟩
 rintro _ ⟨p,q,s,rfl⟩
 refine q9 J<|q8 ?_
 refine qm J c (fun _ c=>?_) (fun _ c=>?_)
 ·refine qb<|U J<|U J<|O (.d (G (w64 ((w64 ((min a.Hi.Y b.Hi.Y) - (max a.Lo.Y b.Lo.Y))) * (w64 ((min a.Hi.Z b.Hi.Z) - (max a.Lo.Z b.Lo.Z))))))) J<|q9 J<|qr ?_
  obtain rfl:=qd c
  exact qz (.d (G (w64 ((w64 ((min a.Hi.Y b.Hi.Y) - (max a.Lo.Y b.Lo.Y))) * (w64 ((min a.Hi.Z b.Hi.Z) - (max a.Lo.Z b.Lo.Z))))))) J
 refine qb<|U J<|O (.d (.bool (decide ((w64 ((min a.Hi.X b.Hi.X) - (max a.Lo.X b.Lo.X))) > 0)))) J ?_
 obtain ⟨ah,h,c⟩:=q7 c
 refine Q3 4 (fun A st=>∃ (t u v : V),st = A [(73,qe ah),(72,v),(71,u),(70,t)]) ?_ ?_
 ·refine Q2 J J h (fun h=>?_) (fun h=>?_)
  ·refine U J<|O (.d (.bool ((w64 ((min a.Hi.Y b.Hi.Y) - (max a.Lo.Y b.Lo.Y))) == 0))) J<|O (.d (.bool ((w64 ((min a.Hi.Y b.Hi.Y) - (max a.Lo.Y b.Lo.Y))) == 0))) J<|q8 ?_
   obtain rfl:=qd h
   exact ⟨_,_,_,J⟩
  refine qa J<|qa J<|O (qe false) J<|q8 ?_
  obtain rfl:=qd h
  exact ⟨_,_,_,J⟩
 rintro _ ⟨t,u,v,rfl⟩
 obtain ⟨ai,j,c⟩:=q7 c
 refine Q3 4 (fun A st=>∃ (w x y : V),st = A [(77,qe ai),(76,y),(75,x),(74,w)]) ?_ ?_
 ·refine Q2 J J j (fun j=>?_) (fun j=>?_)
  ·refine U J<|O (.d (.bool (decide ((w64 ((min a.Hi.Z b.Hi.Z) - (max a.Lo.Z b.Lo.Z))) > 0)))) J<|O (.d (.bool (decide ((w64 ((min a.Hi.Z b.Hi.Z) - (max a.Lo.Z b.Lo.Z))) > 0)))) J<|q8 ?_
   obtain rfl:=qd j
   exact ⟨_,_,_,J⟩
  refine qa J<|qa J<|O (qe false) J<|q8 ?_
  obtain rfl:=qd j
  exact ⟨_,_,_,J⟩
 rintro _ ⟨w,x,y,rfl⟩
 refine q9 J<|q8 ?_
 refine qm J c (fun _ c=>?_) (fun _ c=>?_)
 ·refine qb<|U J<|U J<|O (.d (G (w64 ((w64 ((min a.Hi.X b.Hi.X) - (max a.Lo.X b.Lo.X))) * (w64 ((min a.Hi.Z b.Hi.Z) - (max a.Lo.Z b.Lo.Z))))))) J<|q9 J<|qr ?_
  obtain rfl:=qd c
  exact qz (.d (G (w64 ((w64 ((min a.Hi.X b.Hi.X) - (max a.Lo.X b.Lo.X))) * (w64 ((min a.Hi.Z b.Hi.Z) - (max a.Lo.Z b.Lo.Z))))))) J
 refine qb<|U J<|O (.d (.bool (decide ((w64 ((min a.Hi.X b.Hi.X) - (max a.Lo.X b.Lo.X))) > 0)))) J ?_
 obtain ⟨aj,k,c⟩:=q7 c
 refine Q3 4 (fun A st=>∃ (z aa ab : V),st = A [(87,qe aj),(86,ab),(85,aa),(84,z)]) ?_ ?_
 ·refine Q2 J J k (fun k=>?_) (fun k=>?_)
  ·refine U J<|O (.d (.bool (decide ((w64 ((min a.Hi.Y b.Hi.Y) - (max a.Lo.Y b.Lo.Y))) > 0)))) J<|O (.d (.bool (decide ((w64 ((min a.Hi.Y b.Hi.Y) - (max a.Lo.Y b.Lo.Y))) > 0)))) J<|q8 ?_
   obtain rfl:=qd k
   exact ⟨_,_,_,J⟩
  refine qa J<|qa J<|O (qe false) J<|q8 ?_
  obtain rfl:=qd k
  exact ⟨_,_,_,J⟩
 rintro _ ⟨z,aa,ab,rfl⟩
 obtain ⟨ak,l,c⟩:=q7 c
 refine Q3 4 (fun A st=>∃ (ac ad ae : V),st = A [(91,qe ak),(90,ae),(89,ad),(88,ac)]) ?_ ?_
 ·refine Q2 J J l (fun l=>?_) (fun l=>?_)
  ·refine U J<|O (.d (.bool ((w64 ((min a.Hi.Z b.Hi.Z) - (max a.Lo.Z b.Lo.Z))) == 0))) J<|O (.d (.bool ((w64 ((min a.Hi.Z b.Hi.Z) - (max a.Lo.Z b.Lo.Z))) == 0))) J<|q8 ?_
   obtain rfl:=qd l
   exact ⟨_,_,_,J⟩
  refine qa J<|qa J<|O (qe false) J<|q8 ?_
  obtain rfl:=qd l
  exact ⟨_,_,_,J⟩
 rintro _ ⟨ac,ad,ae,rfl⟩
 refine q9 J<|q8 ?_
 refine qm J c (fun _ c=>?_) (fun _ c=>?_)
 ·refine qb<|U J<|U J<|O (.d (G (w64 ((w64 ((min a.Hi.X b.Hi.X) - (max a.Lo.X b.Lo.X))) * (w64 ((min a.Hi.Y b.Hi.Y) - (max a.Lo.Y b.Lo.Y))))))) J<|q9 J<|qr ?_
  obtain rfl:=qd c
  exact qz (.d (G (w64 ((w64 ((min a.Hi.X b.Hi.X) - (max a.Lo.X b.Lo.X))) * (w64 ((min a.Hi.Y b.Hi.Y) - (max a.Lo.Y b.Lo.Y))))))) J
 refine qn<|Qa<|Qc<|qb<|q9 J<|qr ?_
 obtain rfl:=qd c
 exact qz (q6 0) J
theorem qej (f : List qg) (r : Int × Int) (g : q3o f = some r) : Pure Tryz.prog tab 32 [.sl 6 (f.map qy)] (.tup [G r.1,G r.2]):=by
 unfold q3o at g
 refine Qb Tryz.func32 J (by kernel_rfl) (by kernel_rfl) J<|qb<|q9 J<|q9 J<|q8<|qf<|qb<|U J ?_
 obtain ⟨q,u,g⟩:=q7 g
 refine qt (qef f q u) J<|q9 J<|qp<|U J<|O (qe (q != 0)) J<|q8 ?_
 refine qm J g (fun _ g=>?_) (fun _ g=>?_)
 ·refine qb<|U J<|q9 J<|q9 J<|qr ?_
  obtain rfl:=qd g
  exact qz (.d (.tup [G 0,G q])) J
 refine qn<|qb<|q9 J<|q8<|qf<|qb<|U J<|Qn J<|U J<|q8 ?_
 obtain ⟨t,v,g⟩:=q7 g
 refine Qh (fun n=>n = t) (fun (n : Int)=>⟨[(5,q6 n)],[],0⟩) (by simp) ?_ ?_
 ·refine Q7 (q3p f) (fun (j : Int × Int)=>⟨[(0,.d (.sl 6 (f.map qy))),(5,q6 j.1),(18,.d (.sl 6 (f.map qy))),(19,q6 (f.length : Int)),(20,q6 j.2)],[],0⟩) (0,0) t v (wkA [] [] []) ?_
  intro j ae l
  unfold q3p at l
  refine qb<|O (.d (.bool (decide (j.2 < (f.length : Int))))) J<|q8<|qf ?_
  refine qm J l (fun _ l=>?_) (fun _ l=>?_)
  ·refine qn<|qf ?_
   obtain ⟨w,k,l⟩:=q7 l
   refine Qh (fun o=>o = w) (fun (o : Int)=>⟨[(0,.d (.sl 6 (f.map qy))),(5,q6 o),(18,.d (.sl 6 (f.map qy))),(19,q6 (f.length : Int)),(20,q6 j.2)],[],0⟩) (by simp) ?_ ?_
   ·refine qb<|U J ?_
    obtain ⟨b,x,k⟩:=q7 k
    refine Q9 (enc:=qy) x J<|O (.d (.agg [G b.Lo.X,G b.Lo.Y,G b.Lo.Z,G b.Hi.X,G b.Hi.Y,G b.Hi.Z])) J<|Qo J J<|q9 J<|Q8 0 (.dat 6 [[G b.Lo.X,G b.Lo.Y,G b.Lo.Z,G b.Hi.X,G b.Hi.Y,G b.Hi.Z]]) J<|qp<|O (.d (.agg [G b.Lo.X,G b.Lo.Y,G b.Lo.Z,G b.Hi.X,G b.Hi.Y,G b.Hi.Z])) J ?_
    obtain ⟨a,y,k⟩:=q7 k
    refine qt (qkj b a y) J<|U J<|O (q6 a.1) J<|O (q6 a.2.1) J<|O (q6 a.2.2) J<|q9 J<|q9 J<|q9 J<|qp<|U J<|U J<|U J<|O (.d (G (w64 (a.1 * a.2.1)))) J<|U J<|U J<|O (.d (G (w64 (a.1 * a.2.2)))) J<|O (.d (G (w64 ((w64 (a.1 * a.2.1)) + (w64 (a.1 * a.2.2)))))) J<|U J<|U J<|O (.d (G (w64 (a.2.1 * a.2.2)))) J<|O (.d (G (w64 ((w64 ((w64 (a.1 * a.2.1)) + (w64 (a.1 * a.2.2)))) + (w64 (a.2.1 * a.2.2)))))) J<|O (.d (G (w64 (2 * (w64 ((w64 ((w64 (a.1 * a.2.1)) + (w64 (a.1 * a.2.2)))) + (w64 (a.2.1 * a.2.2)))))))) J<|O (.d (G (w64 (j.1 + (w64 (2 * (w64 ((w64 ((w64 (a.1 * a.2.1)) + (w64 (a.1 * a.2.2)))) + (w64 (a.2.1 * a.2.2)))))))))) J<|q9 J<|qp<|U J<|U J ?_
    obtain ⟨p,z,k⟩:=q7 k
    refine qqr (enc:=qy) z J J J J J (fun _=>rfl) (q47 J)<|Qn J<|U J<|q8 ?_
    obtain ⟨aa,ab,k⟩:=q7 k
    refine Q1<|Q7 (q3q p b) (fun (m : Int × Int)=>⟨[(0,.d (.sl 6 (f.map qy))),(5,q6 m.1),(7,.ref 0 6 0 0),(18,.d (.sl 6 (f.map qy))),(19,q6 (f.length : Int)),(20,q6 j.2),(47,.d (.sl 6 (p.map qy))),(48,q6 (p.length : Int)),(49,q6 m.2)],[(0,.dat 6 [[G b.Lo.X,G b.Lo.Y,G b.Lo.Z,G b.Hi.X,G b.Hi.Y,G b.Hi.Z]])],1⟩) (w64 (j.1 + (w64 (2 * (w64 ((w64 ((w64 (a.1 * a.2.1)) + (w64 (a.1 * a.2.2)))) + (w64 (a.2.1 * a.2.2))))))),0) aa ab (wkA [(0,0)] [] []) ?_
    intro m af h
    unfold q3q at h
    refine qb<|O (.d (.bool (decide (m.2 < (p.length : Int))))) J<|q8<|qf ?_
    refine qm J h (fun _ h=>?_) (fun _ h=>?_)
    ·refine qn<|qf<|Q1<|qb ?_
     obtain ⟨c,ac,h⟩:=q7 h
     refine Q9 (enc:=qy) ac J<|O (.d (.agg [G c.Lo.X,G c.Lo.Y,G c.Lo.Z,G c.Hi.X,G c.Hi.Y,G c.Hi.Z])) J<|Qo J J<|Q8 1 (.dat 6 [[G c.Lo.X,G c.Lo.Y,G c.Lo.Z,G c.Hi.X,G c.Hi.Y,G c.Hi.Z]]) J<|q8<|qw<|U J<|O (.d (.agg [G b.Lo.X,G b.Lo.Y,G b.Lo.Z,G b.Hi.X,G b.Hi.Y,G b.Hi.Z])) J<|O (.d (.agg [G c.Lo.X,G c.Lo.Y,G c.Lo.Z,G c.Hi.X,G c.Hi.Y,G c.Hi.Z])) J ?_
     obtain ⟨s,ad,h⟩:=q7 h
     refine qt (qxp b c s ad) J<|O (.d (G (w64 (2 * s)))) J<|O (.d (G (w64 (m.1 - (w64 (2 * s)))))) J<|q9 J<|qs<|Qc<|qw<|O (.d (G (w64 (m.2 + 1)))) J<|U J<|qs ?_
     exact ⟨_,(Option.some.inj h).symm,wkA [(0,0)] [] []⟩
    refine Q6 ?_
    refine ⟨_,(Option.some.inj h).symm,fun hm=>?_⟩
    subst hm
    obtain rfl:=qd k
    exact ⟨_,J,wkA [] [] []⟩
   intro o hb
   subst hb
   refine qw<|O (.d (G (w64 (j.2 + 1)))) J<|U J<|qs ?_
   exact ⟨_,(Option.some.inj l).symm,wkA [] [] []⟩
  refine Q6 ?_
  refine ⟨_,(Option.some.inj l).symm,fun hm=>?_⟩
  subst hm
  exact ⟨_,J,wkA [] [] []⟩
 intro n hb
 subst hb
 refine qb<|U J<|q9 J<|q9 J<|qr ?_
 obtain rfl:=qd g
 exact qz (.d (.tup [G n,G 0])) J
theorem qcl (a : qj) (f : Int) (r : Bool) (c : q2j a f = some r) : Pure Tryz.prog tab 98 [.agg [G a.X,G a.Y,G a.Z],G f] (.bool r):=by
 unfold q2j at c
 refine Qb Tryz.func98 J (by kernel_rfl) (by kernel_rfl) J<|qb<|Qg (.ref 0 3 0 0) (.dat 3 [[G a.X,G a.Y,G a.Z]]) J<|q9 J<|qp<|O (.ref 0 3 0 0) J<|O (q6 a.X) J<|O (.ref 0 3 0 1) J<|O (q6 a.Y) J<|O (.ref 0 3 0 2) J<|O (q6 a.Z) J<|Ji (r:=min (min a.X a.Y) a.Z) J J (by simp only [Jg];rfl)<|U J<|O (.d (.bool (decide ((min (min a.X a.Y) a.Z) ≥ f)))) J ?_
 obtain ⟨g,b,c⟩:=q7 c
 refine Q3 10 (fun A st=>∃ (h j k l m n o p q : V),st = A [(23,qe g),(22,q),(21,p),(20,o),(19,n),(18,m),(17,l),(16,k),(15,j),(14,h)]) ?_ ?_
 ·refine Q2 J J b (fun b=>?_) (fun b=>?_)
  ·refine O (.ref 0 3 0 0) J<|O (q6 a.X) J<|O (.ref 0 3 0 1) J<|O (q6 a.Y) J<|O (.ref 0 3 0 2) J<|O (q6 a.Z) J<|Jh (r:=max (max a.X a.Y) a.Z) J J (by simp only [Jf];rfl)<|O (.d (.bool (decide ((max (max a.X a.Y) a.Z)≤1000000)))) J<|O (.d (.bool (decide ((max (max a.X a.Y) a.Z)≤1000000)))) J<|q8 ?_
   obtain rfl:=qd b
   exact ⟨_,_,_,_,_,_,_,_,_,J⟩
  refine qa J<|qa J<|qa J<|qa J<|qa J<|qa J<|qa J<|qa J<|O (qe false) J<|q8 ?_
  obtain rfl:=qd b
  exact ⟨_,_,_,_,_,_,_,_,_,J⟩
 rintro _ ⟨h,j,k,l,m,n,o,p,q,rfl⟩
 refine q9 J<|qr ?_
 obtain rfl:=qd c
 exact qz (qe g) J
theorem qcj (a : Qj) (r : Int) (b : q2h a = some r) : Pure Tryz.prog tab 71 [.agg [.int .u8 a.Turn,G a.At.X,G a.At.Y,G a.At.Z]] (G r):=by
 unfold q2h at b
 refine Qb Tryz.func71 J (by kernel_rfl) (by kernel_rfl) J<|qb<|Qg (.ref 0 4 0 0) (.dat 4 [[.int .u8 a.Turn,G a.At.X,G a.At.Y,G a.At.Z]]) J<|q9 J<|q8<|qf<|qb<|O (.ref 0 4 0 0) J<|O (.d (.int .u8 a.Turn)) J<|O (.d (.bool (decide (a.Turn ≥ 24)))) J ?_
 obtain ⟨m,c,b⟩:=q7 b
 refine Q3 6 (fun A st=>∃ (g h j k l : V),st = A [(11,qe m),(10,l),(9,k),(8,j),(7,h),(6,g)]) ?_ ?_
 ·refine Q2 J J c (fun c=>?_) (fun c=>?_)
  ·refine qa J<|qa J<|qa J<|qa J<|O (qe true) J<|q8 ?_
   obtain rfl:=qd c
   exact ⟨_,_,_,_,_,J⟩
  refine O (.ref 0 4 0 1) J<|O (.d (.agg [G a.At.X,G a.At.Y,G a.At.Z])) J ?_
  obtain ⟨f,n,c⟩:=q7 c
  refine qt (qcl a.At (-1000000) f n) J<|O (qe (!f)) J<|O (qe (!f)) J<|q8 ?_
  obtain rfl:=qd c
  exact ⟨_,_,_,_,_,J⟩
 rintro _ ⟨g,h,j,k,l,rfl⟩
 refine q8 ?_
 refine qm J b (fun _ b=>?_) (fun _ b=>?_)
 ·refine qb<|q9 J<|qr ?_
  obtain rfl:=qd b
  exact qz (q6 8) J
 refine qn<|qb<|q9 J<|qr ?_
 obtain rfl:=qd b
 exact qz (q6 0) J
theorem qh3 (a : Int) (r : qj) (b : qa5 a = some r) : Pure Tryz.prog tab 124 [.int .u8 a] (.agg [G r.X,G r.Y,G r.Z]):=by
 unfold qa5 at b
 refine Qb Tryz.func124 J (by kernel_rfl) (by kernel_rfl) J<|qb<|Qo J J<|qp<|U J<|O (.d (.int .u8 (Int.tmod a 2))) J<|O (.d (G (w64 (Int.tmod a 2)))) J<|O (.d (G (w64 (2 * (w64 (Int.tmod a 2)))))) J<|O (.d (G (w64 (1 - (w64 (2 * (w64 (Int.tmod a 2)))))))) J<|q9 J<|q8<|qf<|qb<|U J<|O (.d (.int .u8 (IntKind.wrap .u8 (Int.tdiv a 2)))) J<|q8<|Q1<|qb<|O (.d (.bool ((IntKind.wrap .u8 (Int.tdiv a 2)) == 0))) J<|q9 J<|q8 ?_
 refine qm J b (fun _ b=>?_) (fun _ b=>?_)
 ·refine qb<|U J<|O (.d (.agg [G (w64 (1 - (w64 (2 * (w64 (Int.tmod a 2)))))),G 0,G 0])) J<|Q8 0 (.dat 3 [[G (w64 (1 - (w64 (2 * (w64 (Int.tmod a 2)))))),G 0,G 0]]) J<|qr ?_
  obtain rfl:=qd b
  exact qz (.d (.agg [G (w64 (1 - (w64 (2 * (w64 (Int.tmod a 2)))))),G 0,G 0])) J
 refine qb<|O (.d (.bool ((IntKind.wrap .u8 (Int.tdiv a 2)) == 1))) J<|q9 J<|q8 ?_
 refine qm J b (fun _ b=>?_) (fun _ b=>?_)
 ·refine qb<|U J<|O (.d (.agg [G 0,G (w64 (1 - (w64 (2 * (w64 (Int.tmod a 2)))))),G 0])) J<|Q8 0 (.dat 3 [[G 0,G (w64 (1 - (w64 (2 * (w64 (Int.tmod a 2)))))),G 0]]) J<|qr ?_
  obtain rfl:=qd b
  exact qz (.d (.agg [G 0,G (w64 (1 - (w64 (2 * (w64 (Int.tmod a 2)))))),G 0])) J
 refine qn<|Qa<|Qc<|qb<|U J<|O (.d (.agg [G 0,G 0,G (w64 (1 - (w64 (2 * (w64 (Int.tmod a 2))))))])) J<|Q8 0 (.dat 3 [[G 0,G 0,G (w64 (1 - (w64 (2 * (w64 (Int.tmod a 2))))))]]) J<|qr ?_
 obtain rfl:=qd b
 exact qz (.d (.agg [G 0,G 0,G (w64 (1 - (w64 (2 * (w64 (Int.tmod a 2))))))])) J
theorem qop (a : qj) (b : qj) (r : qj) (c : qck a b = some r) : Pure Tryz.prog tab 125 [.agg [G a.X,G a.Y,G a.Z],.agg [G b.X,G b.Y,G b.Z]] (.agg [G r.X,G r.Y,G r.Z]):=by
 unfold qck at c
 refine Qb Tryz.func125 J (by kernel_rfl) (by kernel_rfl) J<|qb<|Qg (.ref 0 3 0 0) (.dat 3 [[G a.X,G a.Y,G a.Z]]) J<|Qg (.ref 1 3 0 0) (.dat 3 [[G b.X,G b.Y,G b.Z]]) J<|Qo J J<|qp<|O (.ref 0 3 0 1) J<|O (q6 a.Y) J<|O (.ref 1 3 0 2) J<|O (q6 b.Z) J<|O (.d (G (w64 (a.Y * b.Z)))) J<|O (.ref 0 3 0 2) J<|O (q6 a.Z) J<|O (.ref 1 3 0 1) J<|O (q6 b.Y) J<|O (.d (G (w64 (a.Z * b.Y)))) J<|O (.d (G (w64 ((w64 (a.Y * b.Z)) - (w64 (a.Z * b.Y)))))) J<|O (.ref 0 3 0 2) J<|O (q6 a.Z) J<|O (.ref 1 3 0 0) J<|O (q6 b.X) J<|O (.d (G (w64 (a.Z * b.X)))) J<|O (.ref 0 3 0 0) J<|O (q6 a.X) J<|O (.ref 1 3 0 2) J<|O (q6 b.Z) J<|O (.d (G (w64 (a.X * b.Z)))) J<|O (.d (G (w64 ((w64 (a.Z * b.X)) - (w64 (a.X * b.Z)))))) J<|O (.ref 0 3 0 0) J<|O (q6 a.X) J<|O (.ref 1 3 0 1) J<|O (q6 b.Y) J<|O (.d (G (w64 (a.X * b.Y)))) J<|O (.ref 0 3 0 1) J<|O (q6 a.Y) J<|O (.ref 1 3 0 0) J<|O (q6 b.X) J<|O (.d (G (w64 (a.Y * b.X)))) J<|O (.d (G (w64 ((w64 (a.X * b.Y)) - (w64 (a.Y * b.X)))))) J<|O (.d (.agg [G (w64 ((w64 (a.Y * b.Z)) - (w64 (a.Z * b.Y)))),G (w64 ((w64 (a.Z * b.X)) - (w64 (a.X * b.Z)))),G (w64 ((w64 (a.X * b.Y)) - (w64 (a.Y * b.X))))])) J ?_
 refine Q8 2 (.dat 3 [[G (w64 ((w64 (a.Y * b.Z)) - (w64 (a.Z * b.Y)))),G (w64 ((w64 (a.Z * b.X)) - (w64 (a.X * b.Z)))),G (w64 ((w64 (a.X * b.Y)) - (w64 (a.Y * b.X))))]]) J<|qr ?_
 obtain rfl:=qd c
 exact qz (.d (.agg [G (w64 ((w64 (a.Y * b.Z)) - (w64 (a.Z * b.Y)))),G (w64 ((w64 (a.Z * b.X)) - (w64 (a.X * b.Z)))),G (w64 ((w64 (a.X * b.Y)) - (w64 (a.Y * b.X))))])) J
theorem qa4 (c : Int) (r : (qj × qj × qj)) (f : q1a c = some r) : Pure Tryz.prog tab 99 [.int .u8 c] (.agg [G r.1.X,G r.1.Y,G r.1.Z,G r.2.1.X,G r.2.1.Y,G r.2.1.Z,G r.2.2.X,G r.2.2.Y,G r.2.2.Z]):=by
 unfold q1a at f
 refine Qb Tryz.func99 J (by kernel_rfl) (by kernel_rfl) J<|qb<|Qo J J<|qp<|U J<|O (.d (.int .u8 (IntKind.wrap .u8 (Int.tdiv c 4)))) J<|q9 J<|qp<|U J<|O (.d (.int .u8 (Int.tmod c 4))) J<|q9 J<|q8<|qf<|qb<|U J<|U J<|O (.d (.int .u8 (IntKind.wrap .u8 (Int.tdiv (IntKind.wrap .u8 (Int.tdiv c 4)) 2)))) J<|O (.d (.int .u8 (IntKind.wrap .u8 ((IntKind.wrap .u8 (Int.tdiv (IntKind.wrap .u8 (Int.tdiv c 4)) 2)) * 2)))) J<|O (.d (.bool (decide ((Int.tmod c 4) ≥ (IntKind.wrap .u8 ((IntKind.wrap .u8 (Int.tdiv (IntKind.wrap .u8 (Int.tdiv c 4)) 2)) * 2)))))) J<|q8 ?_
 obtain ⟨k,h,f⟩:=q7 f
 refine Y3 (fun j=>j = k) (fun (j : Int)=>⟨[(2,.ref 0 9 0 0),(3,.d (.int .u8 (IntKind.wrap .u8 (Int.tdiv c 4)))),(4,.d (.int .u8 j))],[(0,.dat 9 [[G 0,G 0,G 0,G 0,G 0,G 0,G 0,G 0,G 0]])],1⟩) (by simp) ?_ ?_
 ·refine qm J h (fun _ h=>?_) (fun _ h=>?_)
  ·refine qw<|U J<|O (.d (.int .u8 (IntKind.wrap .u8 ((Int.tmod c 4) + 2)))) J<|q9 J<|qs ?_
   obtain rfl:=qd h
   exact ⟨_,J,wkA [(0,0)] [] []⟩
  refine qn<|Qa ?_
  obtain rfl:=qd h
  exact ⟨_,J,wkA [(0,0)] [] []⟩
 intro j hb
 subst hb
 refine qb<|U J ?_
 obtain ⟨a,l,f⟩:=q7 f
 refine qt (qh3 (IntKind.wrap .u8 (Int.tdiv c 4)) a l) J<|U J ?_
 obtain ⟨b,m,f⟩:=q7 f
 refine qt (qh3 j b m) J<|Qo J J<|Qo J J<|Q8 1 (.dat 3 [[G a.X,G a.Y,G a.Z]]) J<|Q8 2 (.dat 3 [[G b.X,G b.Y,G b.Z]]) J<|q8<|qf<|Q5 [Qd 0,q0,q0,qo 2,qo 1,qo 2,qo 1] (by kernel_rfl)<|O (.d (.agg [G a.X,G a.Y,G a.Z])) J<|O (.d (.agg [G b.X,G b.Y,G b.Z])) J<|O (.d (.agg [G a.X,G a.Y,G a.Z])) J<|O (.d (.agg [G b.X,G b.Y,G b.Z])) J ?_
 obtain ⟨g,n,f⟩:=q7 f
 refine qt (qop a b g n) J<|O (.d (.agg [G a.X,G a.Y,G a.Z,G b.X,G b.Y,G b.Z,G g.X,G g.Y,G g.Z])) J<|Q8 0 (.dat 9 [[G a.X,G a.Y,G a.Z,G b.X,G b.Y,G b.Z,G g.X,G g.Y,G g.Z]]) J<|qr ?_
 obtain rfl:=qd f
 exact qz (.d (.agg [G a.X,G a.Y,G a.Z,G b.X,G b.Y,G b.Z,G g.X,G g.Y,G g.Z])) J
theorem qh4 (a : qj × qj × qj) (b : qj) (r : qj) (c : q4h a b = some r) : Pure Tryz.prog tab 100 [.agg [G a.1.X,G a.1.Y,G a.1.Z,G a.2.1.X,G a.2.1.Y,G a.2.1.Z,G a.2.2.X,G a.2.2.Y,G a.2.2.Z],.agg [G b.X,G b.Y,G b.Z]] (.agg [G r.X,G r.Y,G r.Z]):=by
 unfold q4h at c
 refine Qb Tryz.func100 J (by kernel_rfl) (by kernel_rfl) J<|qb<|Qg (.ref 0 9 0 0) (.dat 9 [[G a.1.X,G a.1.Y,G a.1.Z,G a.2.1.X,G a.2.1.Y,G a.2.1.Z,G a.2.2.X,G a.2.2.Y,G a.2.2.Z]]) J<|Qg (.ref 1 3 0 0) (.dat 3 [[G b.X,G b.Y,G b.Z]]) J<|Qo J J<|qp<|O (.ref 1 3 0 0) J<|O (q6 b.X) J<|O (.ref 0 9 0 0) J<|O (.ref 0 9 0 0) J<|O (q6 a.1.X) J<|O (.d (G (w64 (b.X * a.1.X)))) J<|O (.ref 1 3 0 1) J<|O (q6 b.Y) J<|O (.ref 0 9 0 3) J<|O (.ref 0 9 0 3) J<|O (q6 a.2.1.X) J<|O (.d (G (w64 (b.Y * a.2.1.X)))) J<|O (.d (G (w64 ((w64 (b.X * a.1.X)) + (w64 (b.Y * a.2.1.X)))))) J<|O (.ref 1 3 0 2) J<|O (q6 b.Z) J<|O (.ref 0 9 0 6) J<|O (.ref 0 9 0 6) J<|O (q6 a.2.2.X) J<|O (.d (G (w64 (b.Z * a.2.2.X)))) J<|O (.d (G (w64 ((w64 ((w64 (b.X * a.1.X)) + (w64 (b.Y * a.2.1.X)))) + (w64 (b.Z * a.2.2.X)))))) J<|O (.ref 1 3 0 0) J<|O (q6 b.X) J<|O (.ref 0 9 0 0) J<|O (.ref 0 9 0 1) J<|O (q6 a.1.Y) J<|O (.d (G (w64 (b.X * a.1.Y)))) J<|O (.ref 1 3 0 1) J<|O (q6 b.Y) J<|O (.ref 0 9 0 3) J<|O (.ref 0 9 0 4) J<|O (q6 a.2.1.Y) J<|O (.d (G (w64 (b.Y * a.2.1.Y)))) J<|O (.d (G (w64 ((w64 (b.X * a.1.Y)) + (w64 (b.Y * a.2.1.Y)))))) J<|O (.ref 1 3 0 2) J ?_
 refine O (q6 b.Z) J<|O (.ref 0 9 0 6) J<|O (.ref 0 9 0 7) J<|O (q6 a.2.2.Y) J<|O (.d (G (w64 (b.Z * a.2.2.Y)))) J<|O (.d (G (w64 ((w64 ((w64 (b.X * a.1.Y)) + (w64 (b.Y * a.2.1.Y)))) + (w64 (b.Z * a.2.2.Y)))))) J<|O (.ref 1 3 0 0) J<|O (q6 b.X) J<|O (.ref 0 9 0 0) J<|O (.ref 0 9 0 2) J<|O (q6 a.1.Z) J<|O (.d (G (w64 (b.X * a.1.Z)))) J<|O (.ref 1 3 0 1) J<|O (q6 b.Y) J<|O (.ref 0 9 0 3) J<|O (.ref 0 9 0 5) J<|O (q6 a.2.1.Z) J<|O (.d (G (w64 (b.Y * a.2.1.Z)))) J<|O (.d (G (w64 ((w64 (b.X * a.1.Z)) + (w64 (b.Y * a.2.1.Z)))))) J<|O (.ref 1 3 0 2) J<|O (q6 b.Z) J<|O (.ref 0 9 0 6) J<|O (.ref 0 9 0 8) J<|O (q6 a.2.2.Z) J<|O (.d (G (w64 (b.Z * a.2.2.Z)))) J<|O (.d (G (w64 ((w64 ((w64 (b.X * a.1.Z)) + (w64 (b.Y * a.2.1.Z)))) + (w64 (b.Z * a.2.2.Z)))))) J<|O (.d (.agg [G (w64 ((w64 ((w64 (b.X * a.1.X)) + (w64 (b.Y * a.2.1.X)))) + (w64 (b.Z * a.2.2.X)))),G (w64 ((w64 ((w64 (b.X * a.1.Y)) + (w64 (b.Y * a.2.1.Y)))) + (w64 (b.Z * a.2.2.Y)))),G (w64 ((w64 ((w64 (b.X * a.1.Z)) + (w64 (b.Y * a.2.1.Z)))) + (w64 (b.Z * a.2.2.Z))))])) J<|Q8 2 (.dat 3 [[G (w64 ((w64 ((w64 (b.X * a.1.X)) + (w64 (b.Y * a.2.1.X)))) + (w64 (b.Z * a.2.2.X)))),G (w64 ((w64 ((w64 (b.X * a.1.Y)) + (w64 (b.Y * a.2.1.Y)))) + (w64 (b.Z * a.2.2.Y)))),G (w64 ((w64 ((w64 (b.X * a.1.Z)) + (w64 (b.Y * a.2.1.Z)))) + (w64 (b.Z * a.2.2.Z))))]]) J<|qr ?_
 obtain rfl:=qd c
 exact qz (.d (.agg [G (w64 ((w64 ((w64 (b.X * a.1.X)) + (w64 (b.Y * a.2.1.X)))) + (w64 (b.Z * a.2.2.X)))),G (w64 ((w64 ((w64 (b.X * a.1.Y)) + (w64 (b.Y * a.2.1.Y)))) + (w64 (b.Z * a.2.2.Y)))),G (w64 ((w64 ((w64 (b.X * a.1.Z)) + (w64 (b.Y * a.2.1.Z)))) + (w64 (b.Z * a.2.2.Z))))])) J
theorem qcn (a : Qj) (c : qj) (r : qj) (f : q2k a c = some r) : Pure Tryz.prog tab 76 [.agg [.int .u8 a.Turn,G a.At.X,G a.At.Y,G a.At.Z],.agg [G c.X,G c.Y,G c.Z]] (.agg [G r.X,G r.Y,G r.Z]):=by
 unfold q2k at f
 refine Qb Tryz.func76 J (by kernel_rfl) (by kernel_rfl) J<|qb<|Qg (.ref 0 4 0 0) (.dat 4 [[.int .u8 a.Turn,G a.At.X,G a.At.Y,G a.At.Z]]) J<|Qg (.ref 1 3 0 0) (.dat 3 [[G c.X,G c.Y,G c.Z]]) J<|Qo J J<|q8<|qf<|Q5 [Qd 1,q0,qo 1,q0,qo 0,q0] (by kernel_rfl)<|O (.ref 0 4 0 0) J<|O (.d (.int .u8 a.Turn)) J ?_
 obtain ⟨g,h,f⟩:=q7 f
 refine qt (qa4 a.Turn g h) J<|O (.d (.agg [G c.X,G c.Y,G c.Z])) J ?_
 obtain ⟨b,j,f⟩:=q7 f
 refine qt (qh4 g c b j) J<|Q8 1 (.dat 3 [[G b.X,G b.Y,G b.Z]]) J<|qp<|O (.ref 1 3 0 0) J<|O (q6 b.X) J<|O (.ref 0 4 0 1) J<|O (.ref 0 4 0 1) J<|O (q6 a.At.X) J<|O (.d (G (w64 (b.X + a.At.X)))) J<|O (.ref 1 3 0 1) J<|O (q6 b.Y) J<|O (.ref 0 4 0 1) J<|O (.ref 0 4 0 2) J<|O (q6 a.At.Y) J<|O (.d (G (w64 (b.Y + a.At.Y)))) J<|O (.ref 1 3 0 2) J<|O (q6 b.Z) J<|O (.ref 0 4 0 1) J<|O (.ref 0 4 0 3) J<|O (q6 a.At.Z) J<|O (.d (G (w64 (b.Z + a.At.Z)))) J<|O (.d (.agg [G (w64 (b.X + a.At.X)),G (w64 (b.Y + a.At.Y)),G (w64 (b.Z + a.At.Z))])) J<|Q8 2 (.dat 3 [[G (w64 (b.X + a.At.X)),G (w64 (b.Y + a.At.Y)),G (w64 (b.Z + a.At.Z))]]) J<|qr ?_
 obtain rfl:=qd f
 exact qz (.d (.agg [G (w64 (b.X + a.At.X)),G (w64 (b.Y + a.At.Y)),G (w64 (b.Z + a.At.Z))])) J
theorem qh2 (b : Qj) (f : qj) (r : qj × Int) (a : q4f b f = some r) : Pure Tryz.prog tab 72 [.agg [.int .u8 b.Turn,G b.At.X,G b.At.Y,G b.At.Z],.agg [G f.X,G f.Y,G f.Z]] (.tup [.agg [G r.1.X,G r.1.Y,G r.1.Z],G r.2]):=by
 unfold q4f at a
 refine Qb Tryz.func72 J (by kernel_rfl) (by kernel_rfl) J<|qb<|Qg (.ref 0 4 0 0) (.dat 4 [[.int .u8 b.Turn,G b.At.X,G b.At.Y,G b.At.Z]]) J<|Qg (.ref 1 3 0 0) (.dat 3 [[G f.X,G f.Y,G f.Z]]) J<|Qo J J<|q9 J<|q8<|qf<|qb<|O (.d (.agg [.int .u8 b.Turn,G b.At.X,G b.At.Y,G b.At.Z])) J ?_
 obtain ⟨g,k,a⟩:=q7 a
 refine qt (qcj b g k) J<|q9 J<|qp<|U J<|O (qe (g != 0)) J<|q8 ?_
 refine qm J a (fun _ a=>?_) (fun _ a=>?_)
 ·refine qb<|O (.d (.agg [G 0,G 0,G 0])) J<|U J<|Q8 2 (.dat 3 [[G 0,G 0,G 0]]) J<|q9 J<|qr ?_
  obtain rfl:=qd a
  exact qz (.d (.tup [.agg [G 0,G 0,G 0],G g])) J
 refine qn<|qf<|qb<|O (.d (.agg [G f.X,G f.Y,G f.Z])) J ?_
 obtain ⟨h,l,a⟩:=q7 a
 refine qt (qcl f (-1000000) h l) J<|O (qe (!h)) J<|q8 ?_
 refine qm J a (fun _ a=>?_) (fun _ a=>?_)
 ·refine qb<|O (.d (.agg [G 0,G 0,G 0])) J<|Q8 2 (.dat 3 [[G 0,G 0,G 0]]) J<|q9 J<|qr ?_
  obtain rfl:=qd a
  exact qz (.d (.tup [.agg [G 0,G 0,G 0],G 2])) J
 refine qn<|qb<|O (.d (.agg [.int .u8 b.Turn,G b.At.X,G b.At.Y,G b.At.Z])) J<|O (.d (.agg [G f.X,G f.Y,G f.Z])) J ?_
 obtain ⟨c,m,a⟩:=q7 a
 refine qt (qcn b f c m) J<|Q8 1 (.dat 3 [[G c.X,G c.Y,G c.Z]]) J<|q8<|qf<|qb<|O (.d (.agg [G c.X,G c.Y,G c.Z])) J ?_
 obtain ⟨j,n,a⟩:=q7 a
 refine qt (qcl c (-1000000) j n) J<|O (qe (!j)) J<|q8 ?_
 refine qm J a (fun _ a=>?_) (fun _ a=>?_)
 ·refine qb<|O (.d (.agg [G 0,G 0,G 0])) J<|Q8 2 (.dat 3 [[G 0,G 0,G 0]]) J<|q9 J<|qr ?_
  obtain rfl:=qd a
  exact qz (.d (.tup [.agg [G 0,G 0,G 0],G 16])) J
 refine qn<|qb<|O (.d (.agg [G c.X,G c.Y,G c.Z])) J<|Q8 2 (.dat 3 [[G c.X,G c.Y,G c.Z]]) J<|q9 J<|qr ?_
 obtain rfl:=qd a
 exact qz (.d (.tup [.agg [G c.X,G c.Y,G c.Z],G 0])) J
theorem qei (j : List qg) (c : Qj) (r : List qg × Int) (h : q3m j c = some r) : Pure Tryz.prog tab 34 [.sl 6 (j.map qy),.agg [.int .u8 c.Turn,G c.At.X,G c.At.Y,G c.At.Z]] (.tup [.sl 6 (r.1.map qy),G r.2]):=by
 unfold q3m at h
 refine Qb Tryz.func34 J (by kernel_rfl) (by kernel_rfl) J<|qb<|Qg (.ref 0 4 0 0) (.dat 4 [[.int .u8 c.Turn,G c.At.X,G c.At.Y,G c.At.Z]]) J<|q9 J<|q9 J<|q8<|qf<|qb<|U J ?_
 obtain ⟨o,w,h⟩:=q7 h
 refine qt (qef j o w) J<|q9 J<|qp<|U J<|O (qe (o != 0)) J<|q8 ?_
 refine qm J h (fun _ h=>?_) (fun _ h=>?_)
 ·refine qb<|U J<|q9 J<|q9 J<|qr ?_
  obtain rfl:=qd h
  exact finD (.inr J) (v:=.d (.tup [.nilsl,G o])) J J (Zv (.cons (.nil _) (.cons (.refl _) .nil)))
 refine qn<|qf<|qb<|O (.d (.agg [.int .u8 c.Turn,G c.At.X,G c.At.Y,G c.At.Z])) J ?_
 obtain ⟨p,x,h⟩:=q7 h
 refine qt (qcj c p x) J<|q9 J<|qp<|U J<|O (qe (p != 0)) J<|q8 ?_
 refine qm J h (fun _ h=>?_) (fun _ h=>?_)
 ·refine qb<|U J<|q9 J<|q9 J<|qr ?_
  obtain rfl:=qd h
  exact finD (.inr J) (v:=.d (.tup [.nilsl,G p])) J J (Zv (.cons (.nil _) (.cons (.refl _) .nil)))
 refine qn<|qb<|q9 J<|q8<|qf<|qb<|U J<|Qn J<|U J<|q8 ?_
 obtain ⟨q,y,h⟩:=q7 h
 refine Qh (fun k=>.inl k = q) (fun (k : List qg)=>⟨[(8,.hs 0 6 0 k.length)],[(0,.dat 6 (k.map qy))],1⟩) (by simp) ?_ ?_
 ·refine Q7 (q3n j c) (fun (l : Int × List qg)=>⟨[(3,.ref 0 4 0 0),(8,.hs 1 6 0 l.2.length),(25,.d (.sl 6 (j.map qy))),(26,q6 (j.length : Int)),(27,q6 l.1)],[(0,.dat 4 [[.int .u8 c.Turn,G c.At.X,G c.At.Y,G c.At.Z]]),(1,.dat 6 (l.2.map qy))],2⟩) (0,[]) q y (wkA [(0,0)] [] [1]) ?_
  intro l af f
  unfold q3n at f
  refine qb<|O (.d (.bool (decide (l.1 < (j.length : Int))))) J<|q8<|qf ?_
  refine qm J f (fun _ f=>?_) (fun _ f=>?_)
  ·refine qn<|qf<|Q1<|qb ?_
   obtain ⟨g,z,f⟩:=q7 f
   refine Q9 (enc:=qy) z J<|O (.d (.agg [G g.Lo.X,G g.Lo.Y,G g.Lo.Z,G g.Hi.X,G g.Hi.Y,G g.Hi.Z])) J<|Qo J J<|Q8 2 (.dat 6 [[G g.Lo.X,G g.Lo.Y,G g.Lo.Z,G g.Hi.X,G g.Hi.Y,G g.Hi.Z]]) J<|qp<|O (.d (.agg [.int .u8 c.Turn,G c.At.X,G c.At.Y,G c.At.Z])) J<|O (.ref 2 6 0 0) J<|O (.d (.agg [G g.Lo.X,G g.Lo.Y,G g.Lo.Z])) J ?_
   obtain ⟨b,aa,f⟩:=q7 f
   refine qt (qh2 c g.Lo b aa) J<|U J<|O (.d (.agg [G b.1.X,G b.1.Y,G b.1.Z])) J<|O (q6 b.2) J<|Qo J J<|Q8 3 (.dat 3 [[G b.1.X,G b.1.Y,G b.1.Z]]) J<|q9 J<|qp<|O (.d (.agg [.int .u8 c.Turn,G c.At.X,G c.At.Y,G c.At.Z])) J<|O (.ref 2 6 0 3) J<|O (.d (.agg [G g.Hi.X,G g.Hi.Y,G g.Hi.Z])) J ?_
   obtain ⟨a,ab,f⟩:=q7 f
   refine qt (qh2 c g.Hi a ab) J<|U J<|O (.d (.agg [G a.1.X,G a.1.Y,G a.1.Z])) J<|O (q6 a.2) J<|Qo J J<|Q8 4 (.dat 3 [[G a.1.X,G a.1.Y,G a.1.Z]]) J<|q9 J<|q8<|qf<|qb<|U J<|O (qe (b.2 != 0)) J ?_
   obtain ⟨ac,m,f⟩:=q7 f
   refine Q3 4 (fun A st=>∃ (s t u : V),st = A [(50,qe ac),(49,u),(48,t),(47,s)]) ?_ ?_
   ·refine Q2 J J m (fun m=>?_) (fun m=>?_)
    ·refine qa J<|qa J<|O (qe true) J<|q8 ?_
     obtain rfl:=qd m
     exact ⟨_,_,_,J⟩
    refine U J<|O (qe (a.2 != 0)) J<|O (qe (a.2 != 0)) J<|q8 ?_
    obtain rfl:=qd m
    exact ⟨_,_,_,J⟩
   rintro _ ⟨s,t,u,rfl⟩
   refine q8 ?_
   refine qm J f (fun _ f=>?_) (fun _ f=>?_)
   ·refine qb<|q9 J<|q9 J<|qr ?_
    refine ⟨_,(Option.some.inj f).symm,fun hm=>?_⟩
    subst hm
    obtain rfl:=qd h
    exact finD (.inr J) (v:=.d (.tup [.nilsl,G 16])) J J (Zv (.cons (.nil _) (.cons (.refl _) .nil)))
   refine qn<|qw<|U J<|O (.ref 3 3 0 0) J<|O (q6 b.1.X) J<|O (.ref 4 3 0 0) J<|O (q6 a.1.X) J<|Ji (r:=min b.1.X a.1.X) J J (by simp only [Jg];rfl)<|O (.ref 3 3 0 1) J<|O (q6 b.1.Y) J<|O (.ref 4 3 0 1) J<|O (q6 a.1.Y) J<|Ji (r:=min b.1.Y a.1.Y) J J (by simp only [Jg];rfl)<|O (.ref 3 3 0 2) J<|O (q6 b.1.Z) J<|O (.ref 4 3 0 2) J<|O (q6 a.1.Z) J<|Ji (r:=min b.1.Z a.1.Z) J J (by simp only [Jg];rfl)<|O (.d (.agg [G (min b.1.X a.1.X),G (min b.1.Y a.1.Y),G (min b.1.Z a.1.Z)])) J<|O (.ref 3 3 0 0) J<|O (q6 b.1.X) J<|O (.ref 4 3 0 0) J<|O (q6 a.1.X) J<|Jh (r:=max b.1.X a.1.X) J J (by simp only [Jf];rfl)<|O (.ref 3 3 0 1) J<|O (q6 b.1.Y) J<|O (.ref 4 3 0 1) J<|O (q6 a.1.Y) J<|Jh (r:=max b.1.Y a.1.Y) J J (by simp only [Jf];rfl)<|O (.ref 3 3 0 2) J<|O (q6 b.1.Z) J<|O (.ref 4 3 0 2) J<|O (q6 a.1.Z) J<|Jh (r:=max b.1.Z a.1.Z) J J (by simp only [Jf];rfl)<|O (.d (.agg [G (max b.1.X a.1.X),G (max b.1.Y a.1.Y),G (max b.1.Z a.1.Z)])) J<|O (.d (.agg [G (min b.1.X a.1.X),G (min b.1.Y a.1.Y),G (min b.1.Z a.1.Z),G (max b.1.X a.1.X),G (max b.1.Y a.1.Y),G (max b.1.Z a.1.Z)])) J<|Qg (.hs 5 6 0 [({Lo:=({X:=min b.1.X a.1.X,Y:=min b.1.Y a.1.Y,Z:=min b.1.Z a.1.Z} : qj),Hi:=({X:=max b.1.X a.1.X,Y:=max b.1.Y a.1.Y,Z:=max b.1.Z a.1.Z} : qj)} : qg)].length) (.dat 6 ([({Lo:=({X:=min b.1.X a.1.X,Y:=min b.1.Y a.1.Y,Z:=min b.1.Z a.1.Z} : qj),Hi:=({X:=max b.1.X a.1.X,Y:=max b.1.Y a.1.Y,Z:=max b.1.Z a.1.Z} : qj)} : qg)].map qy)) J ?_
   obtain ⟨ag,ad,f⟩:=q7 f
   refine Kx (xs:=l.2) (ys:=[({Lo:=({X:=min b.1.X a.1.X,Y:=min b.1.Y a.1.Y,Z:=min b.1.Z a.1.Z} : qj),Hi:=({X:=max b.1.X a.1.X,Y:=max b.1.Y a.1.Y,Z:=max b.1.Z a.1.Z} : qj)} : qg)]) (enc:=qy) (.hs 5 6 0 [({Lo:=({X:=min b.1.X a.1.X,Y:=min b.1.Y a.1.Y,Z:=min b.1.Z a.1.Z} : qj),Hi:=({X:=max b.1.X a.1.X,Y:=max b.1.Y a.1.Y,Z:=max b.1.Z a.1.Z} : qj)} : qg)].length) ad J J J J J J J (Kv J J) J J J J<|q9 J<|qs<|Qc<|qw<|O (.d (G (w64 (l.1 + 1)))) J<|U J<|qs ?_
   exact ⟨_,(Option.some.inj f).symm,wkA [(0,0),(1,6)] [] []⟩
  refine Q6 ?_
  refine ⟨_,(Option.some.inj f).symm,fun hm=>?_⟩
  subst hm
  exact ⟨_,J,wkA [(0,1)] [] []⟩
 intro k hb
 subst hb
 refine qf ?_
 refine Yr (st':=⟨[(8,.d (.sl 6 (k.map qy)))],[],0⟩) (wkA [] [0] []) ?_ (by simp)
 refine qw<|U J ?_
 obtain ⟨n,ae,h⟩:=q7 h
 refine qt (qkf k n ae) J<|O (.d (.sl 6 (n.1.map qy))) J<|O (q6 n.2) J<|q9 J<|q9 J<|qr ?_
 obtain rfl:=qd h
 exact qz (.d (.tup [.sl 6 (n.1.map qy),G n.2])) J
theorem qs6 (a : Qj) (r : Int) (b : q7m a = some r) : Pure Tryz.prog tab 39 [.agg [.int .u8 a.Turn,G a.At.X,G a.At.Y,G a.At.Z]] (G r):=by
 unfold q7m at b
 refine Qb Tryz.func39 J (by kernel_rfl) (by kernel_rfl) J<|qb<|Qg (.ref 0 4 0 0) (.dat 4 [[.int .u8 a.Turn,G a.At.X,G a.At.Y,G a.At.Z]]) J<|q9 J<|q8<|qf<|qb<|O (.ref 0 4 0 0) J<|O (.d (.int .u8 a.Turn)) J<|O (.d (.bool (decide (a.Turn ≥ 24)))) J ?_
 obtain ⟨m,c,b⟩:=q7 b
 refine Q3 6 (fun A st=>∃ (g h j k l : V),st = A [(11,qe m),(10,l),(9,k),(8,j),(7,h),(6,g)]) ?_ ?_
 ·refine Q2 J J c (fun c=>?_) (fun c=>?_)
  ·refine qa J<|qa J<|qa J<|qa J<|O (qe true) J<|q8 ?_
   obtain rfl:=qd c
   exact ⟨_,_,_,_,_,J⟩
  refine O (.ref 0 4 0 1) J<|O (.d (.agg [G a.At.X,G a.At.Y,G a.At.Z])) J ?_
  obtain ⟨f,n,c⟩:=q7 c
  refine qt (q7p a.At (-1000000) f n) J<|O (qe (!f)) J<|O (qe (!f)) J<|q8 ?_
  obtain rfl:=qd c
  exact ⟨_,_,_,_,_,J⟩
 rintro _ ⟨g,h,j,k,l,rfl⟩
 refine q8 ?_
 refine qm J b (fun _ b=>?_) (fun _ b=>?_)
 ·refine qb<|q9 J<|qr ?_
  obtain rfl:=qd b
  exact qz (q6 8) J
 refine qn<|qb<|q9 J<|qr ?_
 obtain rfl:=qd b
 exact qz (q6 0) J
theorem qar (c : Int) (r : qj) (b : U5 c = some r) : Pure Tryz.prog tab 126 [G c] (.agg [G r.X,G r.Y,G r.Z]):=by
 unfold U5 at b
 refine Qb Tryz.func126 J (by kernel_rfl) (by kernel_rfl) J<|qb<|Qo J J<|qp<|q9 J<|q8<|qf<|qb<|U J<|O (q6 (Int.tmod c 2)) J<|O (.d (.bool ((Int.tmod c 2) == 1))) J<|q8 ?_
 obtain ⟨g,f,b⟩:=q7 b
 refine Y3 (fun a=>a = g) (fun (a : Int)=>⟨[(0,q6 c),(2,.ref 0 3 0 0),(3,q6 a)],[(0,.dat 3 [[G 0,G 0,G 0]])],1⟩) (by simp) ?_ ?_
 ·refine qm J f (fun _ f=>?_) (fun _ f=>?_)
  ·refine qw<|q9 J<|qs ?_
   obtain rfl:=qd f
   exact ⟨_,J,wkA [(0,0)] [] []⟩
  refine qn<|Qa ?_
  obtain rfl:=qd f
  exact ⟨_,J,wkA [(0,0)] [] []⟩
 intro a hb
 subst hb
 refine qf<|qb<|U J<|O (.d (.bool (decide (c < 2)))) J<|q8 ?_
 refine qm J b (fun _ b=>?_) (fun _ b=>?_)
 ·refine qb<|U J<|O (.d (.agg [G a,G 0,G 0])) J<|Q8 0 (.dat 3 [[G a,G 0,G 0]]) J<|qr ?_
  obtain rfl:=qd b
  exact qz (.d (.agg [G a,G 0,G 0])) J
 refine qn<|qf<|qb<|U J<|O (.d (.bool (decide (c < 4)))) J<|q8 ?_
 refine qm J b (fun _ b=>?_) (fun _ b=>?_)
 ·refine qb<|U J<|O (.d (.agg [G 0,G a,G 0])) J<|Q8 0 (.dat 3 [[G 0,G a,G 0]]) J<|qr ?_
  obtain rfl:=qd b
  exact qz (.d (.agg [G 0,G a,G 0])) J
 refine qn<|qb<|U J<|O (.d (.agg [G 0,G 0,G a])) J<|Q8 0 (.dat 3 [[G 0,G 0,G a]]) J<|qr ?_
 obtain rfl:=qd b
 exact qz (.d (.agg [G 0,G 0,G a])) J
theorem qs7 (a : qj) (b : qj) (r : qj) (c : qaq a b = some r) : Pure Tryz.prog tab 127 [.agg [G a.X,G a.Y,G a.Z],.agg [G b.X,G b.Y,G b.Z]] (.agg [G r.X,G r.Y,G r.Z]):=by
 unfold qaq at c
 refine Qb Tryz.func127 J (by kernel_rfl) (by kernel_rfl) J<|qb<|Qg (.ref 0 3 0 0) (.dat 3 [[G a.X,G a.Y,G a.Z]]) J<|Qg (.ref 1 3 0 0) (.dat 3 [[G b.X,G b.Y,G b.Z]]) J<|Qo J J<|qp<|O (.ref 0 3 0 1) J<|O (q6 a.Y) J<|O (.ref 1 3 0 2) J<|O (q6 b.Z) J<|O (.d (G (w64 (a.Y * b.Z)))) J<|O (.ref 0 3 0 2) J<|O (q6 a.Z) J<|O (.ref 1 3 0 1) J<|O (q6 b.Y) J<|O (.d (G (w64 (a.Z * b.Y)))) J<|O (.d (G (w64 ((w64 (a.Y * b.Z)) - (w64 (a.Z * b.Y)))))) J<|O (.ref 0 3 0 2) J<|O (q6 a.Z) J<|O (.ref 1 3 0 0) J<|O (q6 b.X) J<|O (.d (G (w64 (a.Z * b.X)))) J<|O (.ref 0 3 0 0) J<|O (q6 a.X) J<|O (.ref 1 3 0 2) J<|O (q6 b.Z) J<|O (.d (G (w64 (a.X * b.Z)))) J<|O (.d (G (w64 ((w64 (a.Z * b.X)) - (w64 (a.X * b.Z)))))) J<|O (.ref 0 3 0 0) J<|O (q6 a.X) J<|O (.ref 1 3 0 1) J<|O (q6 b.Y) J<|O (.d (G (w64 (a.X * b.Y)))) J<|O (.ref 0 3 0 1) J<|O (q6 a.Y) J<|O (.ref 1 3 0 0) J<|O (q6 b.X) J<|O (.d (G (w64 (a.Y * b.X)))) J<|O (.d (G (w64 ((w64 (a.X * b.Y)) - (w64 (a.Y * b.X)))))) J<|O (.d (.agg [G (w64 ((w64 (a.Y * b.Z)) - (w64 (a.Z * b.Y)))),G (w64 ((w64 (a.Z * b.X)) - (w64 (a.X * b.Z)))),G (w64 ((w64 (a.X * b.Y)) - (w64 (a.Y * b.X))))])) J ?_
 refine Q8 2 (.dat 3 [[G (w64 ((w64 (a.Y * b.Z)) - (w64 (a.Z * b.Y)))),G (w64 ((w64 (a.Z * b.X)) - (w64 (a.X * b.Z)))),G (w64 ((w64 (a.X * b.Y)) - (w64 (a.Y * b.X))))]]) J<|qr ?_
 obtain rfl:=qd c
 exact qz (.d (.agg [G (w64 ((w64 (a.Y * b.Z)) - (w64 (a.Z * b.Y)))),G (w64 ((w64 (a.Z * b.X)) - (w64 (a.X * b.Z)))),G (w64 ((w64 (a.X * b.Y)) - (w64 (a.Y * b.X))))])) J
theorem qs8 (b : Int) (r : (qj × qj × qj)) (a : q7n b = some r) : Pure Tryz.prog tab 103 [G b] (.agg [G r.1.X,G r.1.Y,G r.1.Z,G r.2.1.X,G r.2.1.Y,G r.2.1.Z,G r.2.2.X,G r.2.2.Y,G r.2.2.Z]):=by
 unfold q7n at a
 refine Qb Tryz.func103 J (by kernel_rfl) (by kernel_rfl) J<|qb<|Qo J J<|qp<|U J<|O (.d (G (w64 (Int.tdiv b 4)))) J<|q9 J<|qp<|q9 J<|q8<|qf<|qb<|q9 J<|q8 ?_
 obtain ⟨o,t,a⟩:=q7 a
 refine Qh (fun l=>l = o) (fun (l : List Int)=>⟨[(0,q6 b),(2,.ref 0 9 0 0),(3,.d (G (w64 (Int.tdiv b 4)))),(4,.hs 1 1 0 l.length)],[(0,.dat 9 [[G 0,G 0,G 0,G 0,G 0,G 0,G 0,G 0,G 0]]),(1,.dat 1 (l.map (eI .i64)))],2⟩) (by simp) ?_ ?_
 ·refine Q7 (q7o b) (fun (c : Int × List Int)=>⟨[(0,q6 b),(2,.ref 0 9 0 0),(3,.d (G (w64 (Int.tdiv b 4)))),(4,.hs 1 1 0 c.2.length),(5,q6 c.1)],[(0,.dat 9 [[G 0,G 0,G 0,G 0,G 0,G 0,G 0,G 0,G 0]]),(1,.dat 1 (c.2.map (eI .i64)))],2⟩) (0,[]) o t (wkA [(0,0)] [] [1]) ?_
  intro c y8 j
  unfold q7o at j
  refine qf<|qb<|U J<|O (.d (.bool (decide (c.1 < 6)))) J<|q8 ?_
  refine qm J j (fun _ j=>?_) (fun _ j=>?_)
  ·refine qn<|qf ?_
   obtain ⟨u,k,j⟩:=q7 j
   refine Qh (fun m=>m = u) (fun (m : List Int)=>⟨[(0,q6 b),(2,.ref 0 9 0 0),(3,.d (G (w64 (Int.tdiv b 4)))),(4,.hs 1 1 0 m.length),(5,q6 c.1)],[(0,.dat 9 [[G 0,G 0,G 0,G 0,G 0,G 0,G 0,G 0,G 0]]),(1,.dat 1 (m.map (eI .i64)))],2⟩) (by simp) ?_ ?_
   ·refine qb<|U J<|O (.d (G (w64 (Int.tdiv c.1 2)))) J<|U J<|O (.d (G (w64 (Int.tdiv (w64 (Int.tdiv b 4)) 2)))) J<|O (.d (.bool ((w64 (Int.tdiv c.1 2)) != (w64 (Int.tdiv (w64 (Int.tdiv b 4)) 2))))) J<|q8 ?_
    refine qm J k (fun _ k=>?_) (fun _ k=>?_)
    ·refine qw<|U J<|U J<|Qg (.hs 2 1 0 [c.1].length) (.dat 1 ([c.1].map (eI .i64))) J ?_
     obtain ⟨ac,v,k⟩:=q7 k
     refine Kx (xs:=c.2) (ys:=[c.1]) (enc:=(eI .i64)) (.hs 2 1 0 [c.1].length) v J J J J J J J (Kv J J) J J J J<|q9 J<|qs ?_
     obtain rfl:=qd k
     exact ⟨_,J,wkA [(0,0),(1,3)] [] []⟩
    refine qn<|Qa ?_
    obtain rfl:=qd k
    exact ⟨_,J,wkA [(0,0),(1,1)] [] []⟩
   intro m hb
   subst hb
   refine qw<|U J<|O (.d (G (w64 (c.1 + 1)))) J<|q9 J<|qs ?_
   exact ⟨_,(Option.some.inj j).symm,wkA [(0,0),(1,1)] [] []⟩
  refine Q6 ?_
  refine ⟨_,(Option.some.inj j).symm,fun hm=>?_⟩
  subst hm
  exact ⟨_,J,wkA [(0,0),(1,1)] [] []⟩
 intro l hb
 subst hb
 refine qb<|U J<|U J<|O (q6 (Int.tmod b 4)) J ?_
 obtain ⟨n,p,a⟩:=q7 a
 refine qq p J J<|Q0 (q6 n) p J<|q9 J<|qp<|U J ?_
 obtain ⟨f,w,a⟩:=q7 a
 refine qt (qar (w64 (Int.tdiv b 4)) f w) J<|U J ?_
 obtain ⟨g,x,a⟩:=q7 a
 refine qt (qar n g x) J<|U J ?_
 obtain ⟨q,y,a⟩:=q7 a
 refine qt (qar (w64 (Int.tdiv b 4)) q y) J<|U J ?_
 obtain ⟨s,z,a⟩:=q7 a
 refine qt (qar n s z) J ?_
 obtain ⟨h,aa,a⟩:=q7 a
 refine qt (qs7 q s h aa) J<|O (.d (.agg [G f.X,G f.Y,G f.Z,G g.X,G g.Y,G g.Z,G h.X,G h.Y,G h.Z])) J<|Q8 0 (.dat 9 [[G f.X,G f.Y,G f.Z,G g.X,G g.Y,G g.Z,G h.X,G h.Y,G h.Z]]) J<|qr ?_
 obtain rfl:=qd a
 exact qz (.d (.agg [G f.X,G f.Y,G f.Z,G g.X,G g.Y,G g.Z,G h.X,G h.Y,G h.Z])) J
theorem qat (b : Int) (a : qj) (r : qj) (c : q1q b a = some r) : Pure Tryz.prog tab 74 [G b,.agg [G a.X,G a.Y,G a.Z]] (.agg [G r.X,G r.Y,G r.Z]):=by
 unfold q1q at c
 refine Qb Tryz.func74 J (by kernel_rfl) (by kernel_rfl) J<|qb<|Qg (.ref 0 3 0 0) (.dat 3 [[G a.X,G a.Y,G a.Z]]) J<|Qo J J<|qp<|U J<|O (.ref 0 3 0 0) J<|O (q6 a.X) J<|O (.d (G (w64 (b * a.X)))) J<|U J<|O (.ref 0 3 0 1) J<|O (q6 a.Y) J<|O (.d (G (w64 (b * a.Y)))) J<|U J<|O (.ref 0 3 0 2) J<|O (q6 a.Z) J<|O (.d (G (w64 (b * a.Z)))) J<|O (.d (.agg [G (w64 (b * a.X)),G (w64 (b * a.Y)),G (w64 (b * a.Z))])) J<|Q8 1 (.dat 3 [[G (w64 (b * a.X)),G (w64 (b * a.Y)),G (w64 (b * a.Z))]]) J<|qr ?_
 obtain rfl:=qd c
 exact qz (.d (.agg [G (w64 (b * a.X)),G (w64 (b * a.Y)),G (w64 (b * a.Z))])) J
theorem qas (a : qj) (b : qj) (r : qj) (c : U6 a b = some r) : Pure Tryz.prog tab 43 [.agg [G a.X,G a.Y,G a.Z],.agg [G b.X,G b.Y,G b.Z]] (.agg [G r.X,G r.Y,G r.Z]):=by
 unfold U6 at c
 refine Qb Tryz.func43 J (by kernel_rfl) (by kernel_rfl) J<|qb<|Qg (.ref 0 3 0 0) (.dat 3 [[G a.X,G a.Y,G a.Z]]) J<|Qg (.ref 1 3 0 0) (.dat 3 [[G b.X,G b.Y,G b.Z]]) J<|Qo J J<|qp<|O (.ref 0 3 0 0) J<|O (q6 a.X) J<|O (.ref 1 3 0 0) J<|O (q6 b.X) J<|O (.d (G (w64 (a.X + b.X)))) J<|O (.ref 0 3 0 1) J<|O (q6 a.Y) J<|O (.ref 1 3 0 1) J<|O (q6 b.Y) J<|O (.d (G (w64 (a.Y + b.Y)))) J<|O (.ref 0 3 0 2) J<|O (q6 a.Z) J<|O (.ref 1 3 0 2) J<|O (q6 b.Z) J<|O (.d (G (w64 (a.Z + b.Z)))) J<|O (.d (.agg [G (w64 (a.X + b.X)),G (w64 (a.Y + b.Y)),G (w64 (a.Z + b.Z))])) J<|Q8 2 (.dat 3 [[G (w64 (a.X + b.X)),G (w64 (a.Y + b.Y)),G (w64 (a.Z + b.Z))]]) J<|qr ?_
 obtain rfl:=qd c
 exact qz (.d (.agg [G (w64 (a.X + b.X)),G (w64 (a.Y + b.Y)),G (w64 (a.Z + b.Z))])) J
theorem qsa (a : qj × qj × qj) (b : qj) (r : qj) (c : q7q a b = some r) : Pure Tryz.prog tab 102 [.agg [G a.1.X,G a.1.Y,G a.1.Z,G a.2.1.X,G a.2.1.Y,G a.2.1.Z,G a.2.2.X,G a.2.2.Y,G a.2.2.Z],.agg [G b.X,G b.Y,G b.Z]] (.agg [G r.X,G r.Y,G r.Z]):=by
 unfold q7q at c
 refine Qb Tryz.func102 J (by kernel_rfl) (by kernel_rfl) J<|qb<|Qg (.ref 0 9 0 0) (.dat 9 [[G a.1.X,G a.1.Y,G a.1.Z,G a.2.1.X,G a.2.1.Y,G a.2.1.Z,G a.2.2.X,G a.2.2.Y,G a.2.2.Z]]) J<|Qg (.ref 1 3 0 0) (.dat 3 [[G b.X,G b.Y,G b.Z]]) J<|Qo J J<|q8<|qf<|Q5 [Qd 2,q0,q0,q0,qo 0,q0,qo 1,q0,q0,qo 0,q0,qo 1,q0,q0,qo 0,q0,qo 1,q0] (by kernel_rfl)<|O (.ref 1 3 0 0) J<|O (q6 b.X) J<|O (.ref 0 9 0 0) J<|O (.d (.agg [G a.1.X,G a.1.Y,G a.1.Z])) J ?_
 obtain ⟨g,l,c⟩:=q7 c
 refine qt (qat b.X a.1 g l) J<|O (.ref 1 3 0 1) J<|O (q6 b.Y) J<|O (.ref 0 9 0 3) J<|O (.d (.agg [G a.2.1.X,G a.2.1.Y,G a.2.1.Z])) J ?_
 obtain ⟨h,m,c⟩:=q7 c
 refine qt (qat b.Y a.2.1 h m) J<|O (.ref 1 3 0 2) J<|O (q6 b.Z) J<|O (.ref 0 9 0 6) J<|O (.d (.agg [G a.2.2.X,G a.2.2.Y,G a.2.2.Z])) J ?_
 obtain ⟨j,n,c⟩:=q7 c
 refine qt (qat b.Z a.2.2 j n) J ?_
 obtain ⟨k,o,c⟩:=q7 c
 refine qt (qas h j k o) J ?_
 obtain ⟨f,p,c⟩:=q7 c
 refine qt (qas g k f p) J<|Q8 2 (.dat 3 [[G f.X,G f.Y,G f.Z]]) J<|qr ?_
 obtain rfl:=qd c
 exact qz (.d (.agg [G f.X,G f.Y,G f.Z])) J
theorem qjd (a : Qj) (b : qj) (r : qj) (c : q54 a b = some r) : Pure Tryz.prog tab 77 [.agg [.int .u8 a.Turn,G a.At.X,G a.At.Y,G a.At.Z],.agg [G b.X,G b.Y,G b.Z]] (.agg [G r.X,G r.Y,G r.Z]):=by
 unfold q54 at c
 refine Qb Tryz.func77 J (by kernel_rfl) (by kernel_rfl) J<|qb<|Qg (.ref 0 4 0 0) (.dat 4 [[.int .u8 a.Turn,G a.At.X,G a.At.Y,G a.At.Z]]) J<|Qg (.ref 1 3 0 0) (.dat 3 [[G b.X,G b.Y,G b.Z]]) J<|Qo J J<|q8<|qf<|Q5 [Qd 2,q0,qo 0,q0,q0,qo 1,q0,q0,qo 0,q0] (by kernel_rfl)<|O (.ref 0 4 0 0) J<|O (.d (.int .u8 a.Turn)) J<|O (q6 (w64 a.Turn)) J ?_
 obtain ⟨g,j,c⟩:=q7 c
 refine qt (qs8 (w64 a.Turn) g j) J<|O (.d (.agg [G b.X,G b.Y,G b.Z])) J ?_
 obtain ⟨h,k,c⟩:=q7 c
 refine qt (qsa g b h k) J<|O (.ref 0 4 0 1) J<|O (.d (.agg [G a.At.X,G a.At.Y,G a.At.Z])) J ?_
 obtain ⟨f,l,c⟩:=q7 c
 refine qt (qas h a.At f l) J<|Q8 2 (.dat 3 [[G f.X,G f.Y,G f.Z]]) J<|qr ?_
 obtain rfl:=qd c
 exact qz (.d (.agg [G f.X,G f.Y,G f.Z])) J
theorem qsl (c : qg) (f : Qj) (r : qg) (g : q7t c f = some r) : Pure Tryz.prog tab 42 [.agg [G c.Lo.X,G c.Lo.Y,G c.Lo.Z,G c.Hi.X,G c.Hi.Y,G c.Hi.Z],.agg [.int .u8 f.Turn,G f.At.X,G f.At.Y,G f.At.Z]] (.agg [G r.Lo.X,G r.Lo.Y,G r.Lo.Z,G r.Hi.X,G r.Hi.Y,G r.Hi.Z]):=by
 unfold q7t at g
 refine Qb Tryz.func42 J (by kernel_rfl) (by kernel_rfl) J<|qb<|Qg (.ref 0 6 0 0) (.dat 6 [[G c.Lo.X,G c.Lo.Y,G c.Lo.Z,G c.Hi.X,G c.Hi.Y,G c.Hi.Z]]) J<|Qg (.ref 1 4 0 0) (.dat 4 [[.int .u8 f.Turn,G f.At.X,G f.At.Y,G f.At.Z]]) J<|Qo J J<|q8<|qf<|Q5 [Qd 4,Qd 3,(some [],[4]),(some [],[3]),q0,qo 0,q0,qo 1,q0,qo 0,q0,qo 1] (by kernel_rfl)<|O (.d (.agg [.int .u8 f.Turn,G f.At.X,G f.At.Y,G f.At.Z])) J<|O (.ref 0 6 0 0) J<|O (.d (.agg [G c.Lo.X,G c.Lo.Y,G c.Lo.Z])) J ?_
 obtain ⟨a,h,g⟩:=q7 g
 refine qt (qjd f c.Lo a h) J<|O (.d (.agg [.int .u8 f.Turn,G f.At.X,G f.At.Y,G f.At.Z])) J<|O (.ref 0 6 0 3) J<|O (.d (.agg [G c.Hi.X,G c.Hi.Y,G c.Hi.Z])) J ?_
 obtain ⟨b,j,g⟩:=q7 g
 refine qt (qjd f c.Hi b j) J<|Qo J J<|Qo J J<|Q8 3 (.dat 3 [[G a.X,G a.Y,G a.Z]]) J<|Q8 4 (.dat 3 [[G b.X,G b.Y,G b.Z]]) J<|qp<|O (.ref 3 3 0 0) J<|O (q6 a.X) J<|O (.ref 4 3 0 0) J<|O (q6 b.X) J<|Ji (r:=min a.X b.X) J J (by simp only [Jg];rfl)<|O (.ref 3 3 0 1) J<|O (q6 a.Y) J<|O (.ref 4 3 0 1) J<|O (q6 b.Y) J<|Ji (r:=min a.Y b.Y) J J (by simp only [Jg];rfl)<|O (.ref 3 3 0 2) J<|O (q6 a.Z) J<|O (.ref 4 3 0 2) J<|O (q6 b.Z) J<|Ji (r:=min a.Z b.Z) J J (by simp only [Jg];rfl)<|O (.d (.agg [G (min a.X b.X),G (min a.Y b.Y),G (min a.Z b.Z)])) J<|O (.ref 3 3 0 0) J<|O (q6 a.X) J<|O (.ref 4 3 0 0) J<|O (q6 b.X) J<|Jh (r:=max a.X b.X) J J (by simp only [Jf];rfl)<|O (.ref 3 3 0 1) J<|O (q6 a.Y) J<|O (.ref 4 3 0 1) J<|O (q6 b.Y) J<|Jh (r:=max a.Y b.Y) J J (by simp only [Jf];rfl)<|O (.ref 3 3 0 2) J<|O (q6 a.Z) J<|O (.ref 4 3 0 2) J<|O (q6 b.Z) J<|Jh (r:=max a.Z b.Z) J J (by simp only [Jf];rfl)<|O (.d (.agg [G (max a.X b.X),G (max a.Y b.Y),G (max a.Z b.Z)])) J<|O (.d (.agg [G (min a.X b.X),G (min a.Y b.Y),G (min a.Z b.Z),G (max a.X b.X),G (max a.Y b.Y),G (max a.Z b.Z)])) J<|Q8 2 (.dat 6 [[G (min a.X b.X),G (min a.Y b.Y),G (min a.Z b.Z),G (max a.X b.X),G (max a.Y b.Y),G (max a.Z b.Z)]]) J ?_
 refine qr ?_
 obtain rfl:=qd g
 exact qz (.d (.agg [G (min a.X b.X),G (min a.Y b.Y),G (min a.Z b.Z),G (max a.X b.X),G (max a.Y b.Y),G (max a.Z b.Z)])) J
theorem q4o (a : Int) (b : Int) (c : Int) (f : Int) (g : Int) (h : Int) (r : qg) (j : Zx a b c f g h = some r) : Pure Tryz.prog tab 48 [G a,G b,G c,G f,G g,G h] (.agg [G r.Lo.X,G r.Lo.Y,G r.Lo.Z,G r.Hi.X,G r.Hi.Y,G r.Hi.Z]):=by
 unfold Zx at j
 refine Qb Tryz.func48 J (by kernel_rfl) (by kernel_rfl) J<|qb<|Qo J J<|qp<|U J<|U J<|U J<|O (.d (.agg [G a,G b,G c])) J<|U J<|U J<|U J<|O (.d (.agg [G f,G g,G h])) J<|O (.d (.agg [G a,G b,G c,G f,G g,G h])) J<|Q8 0 (.dat 6 [[G a,G b,G c,G f,G g,G h]]) J<|qr ?_
 obtain rfl:=qd j
 exact qz (.d (.agg [G a,G b,G c,G f,G g,G h])) J
theorem q4q (r : List qg) (a : Uu = some r) : Pure Tryz.prog tab 49 [] (.sl 6 (r.map qy)):=by
 unfold Uu at a
 refine Qb Tryz.func49 J (by kernel_rfl) (by kernel_rfl) J<|qb<|q9 J<|qp ?_
 obtain ⟨b,d,a⟩:=q7 a
 refine qt (q4o 0 0 0 2 2 1 b d) J ?_
 obtain ⟨c,f,a⟩:=q7 a
 refine qt (q4o 0 0 1 1 2 2 c f) J<|Qg (.hs 0 6 0 [b,c].length) (.dat 6 ([b,c].map qy)) J<|q9 J<|qr ?_
 obtain rfl:=qd a
 exact finD (.inr J) (v:=.hs 0 6 0 [b,c].length) J (J2 J J) (.refl _)
theorem qpk (r : Bool) (a : q78 = some r) : Pure Tryz.prog tab 37 [] (.bool r):=by
 unfold q78 at a
 refine Qb Tryz.func37 J (by kernel_rfl) (by kernel_rfl) J<|qb<|q9 J<|qp ?_
 obtain ⟨w,h2,a⟩:=q7 a
 refine qt (q4q w h2) J ?_
 obtain ⟨j,h4,a⟩:=q7 a
 refine qt (qek w j h4) J<|U J<|O (q6 j.1) J<|O (q6 j.2) J<|q9 J<|q9 J<|qp ?_
 obtain ⟨x,h6,a⟩:=q7 a
 refine qt (q4q x h6) J ?_
 obtain ⟨g,h8,a⟩:=q7 a
 refine qt (qej x g h8) J<|U J<|O (q6 g.1) J<|O (q6 g.2) J<|q9 J<|q9 J<|qp ?_
 obtain ⟨y,bo,a⟩:=q7 a
 refine qt (q4q y bo) J<|O (.d (.agg [.int .u8 9,G 0,G 0,G 0])) J ?_
 obtain ⟨h,bp,a⟩:=q7 a
 refine qt (qei y ({Turn:=9,At:=({X:=0,Y:=0,Z:=0} : qj)} : Qj) h bp) J<|U J<|O (.d (.sl 6 (h.1.map qy))) J<|O (q6 h.2) J<|q9 J<|q9 J<|qp ?_
 obtain ⟨t,bq,a⟩:=q7 a
 refine qt (q4o 0 0 0 1 2 2 t bq) J ?_
 obtain ⟨u,br,a⟩:=q7 a
 refine qt (q4o 1 0 0 2 2 1 u br) J<|qdf (es:=6) ([t,u].map qy) J J J J J ?_
 obtain ⟨k,bs,a⟩:=q7 a
 refine qt (qkf [t,u] k bs) J<|U J<|O (.d (.sl 6 (k.1.map qy))) J<|O (q6 k.2) J<|q9 J<|q9 J<|qp<|U J<|O (qe (j.2 == 0)) J ?_
 obtain ⟨bt,l,a⟩:=q7 a
 refine Q3 4 (fun A st=>∃ (z aa ab : V),st = A [(37,qe bt),(36,ab),(35,aa),(34,z)]) ?_ ?_
 ·refine Q2 J J l (fun l=>?_) (fun l=>?_)
  ·refine U J<|O (qe (j.1 == 6)) J<|O (qe (j.1 == 6)) J<|q8 ?_
   obtain rfl:=qd l
   exact ⟨_,_,_,J⟩
  refine qa J<|qa J<|O (qe false) J<|q8 ?_
  obtain rfl:=qd l
  exact ⟨_,_,_,J⟩
 rintro _ ⟨z,aa,ab,rfl⟩
 obtain ⟨bu,m,a⟩:=q7 a
 refine Q3 4 (fun A st=>∃ (ac ad ae : V),st = A [(41,qe bu),(40,ae),(39,ad),(38,ac)]) ?_ ?_
 ·refine Q2 J J m (fun m=>?_) (fun m=>?_)
  ·refine U J<|O (qe (g.2 == 0)) J<|O (qe (g.2 == 0)) J<|q8 ?_
   obtain rfl:=qd m
   exact ⟨_,_,_,J⟩
  refine qa J<|qa J<|O (qe false) J<|q8 ?_
  obtain rfl:=qd m
  exact ⟨_,_,_,J⟩
 rintro _ ⟨ac,ad,ae,rfl⟩
 obtain ⟨bv,n,a⟩:=q7 a
 refine Q3 4 (fun A st=>∃ (af ag ah : V),st = A [(45,qe bv),(44,ah),(43,ag),(42,af)]) ?_ ?_
 ·refine Q2 J J n (fun n=>?_) (fun n=>?_)
  ·refine U J<|O (qe (g.1 == 22)) J<|O (qe (g.1 == 22)) J<|q8 ?_
   obtain rfl:=qd n
   exact ⟨_,_,_,J⟩
  refine qa J<|qa J<|O (qe false) J<|q8 ?_
  obtain rfl:=qd n
  exact ⟨_,_,_,J⟩
 rintro _ ⟨af,ag,ah,rfl⟩
 obtain ⟨bw,o,a⟩:=q7 a
 refine Q3 4 (fun A st=>∃ (ai aj ak : V),st = A [(49,qe bw),(48,ak),(47,aj),(46,ai)]) ?_ ?_
 ·refine Q2 J J o (fun o=>?_) (fun o=>?_)
  ·refine U J<|O (qe (h.2 == 0)) J<|O (qe (h.2 == 0)) J<|q8 ?_
   obtain rfl:=qd o
   exact ⟨_,_,_,J⟩
  refine qa J<|qa J<|O (qe false) J<|q8 ?_
  obtain rfl:=qd o
  exact ⟨_,_,_,J⟩
 rintro _ ⟨ai,aj,ak,rfl⟩
 refine Q2 J J a (fun a=>?_) (fun a=>?_)
 ·refine U J ?_
  obtain ⟨p,bz,a⟩:=q7 a
  refine qt (q4o (-2) 0 0 0 2 1 p bz) J ?_
  obtain ⟨q,ca,a⟩:=q7 a
  refine qt (q4o (-2) 0 1 0 1 2 q ca) J<|Qg (.hs 1 6 0 [p,q].length) (.dat 6 ([p,q].map qy)) J ?_
  obtain ⟨al,cb,a⟩:=q7 a
  refine q7d [.d (.sl 6 (h.1.map qy)),.hs 1 6 0 [p,q].length] (qax h.1 [p,q] al cb) J J (J5 J (J5 (J2 J J) J)) (.inr J)<|O (qe al) J ?_
  obtain ⟨cc,s,a⟩:=q7 a
  refine Q3 4 (fun A st=>∃ (am an ao : V),st = A [(60,qe cc),(59,ao),(58,an),(57,am)]) ?_ ?_
  ·refine Q2 J J s (fun s=>?_) (fun s=>?_)
   ·refine U J<|O (qe (k.2 == 0)) J<|O (qe (k.2 == 0)) J<|q8 ?_
    obtain rfl:=qd s
    exact ⟨_,_,_,J⟩
   refine qa J<|qa J<|O (qe false) J<|q8 ?_
   obtain rfl:=qd s
   exact ⟨_,_,_,J⟩
  rintro _ ⟨am,an,ao,rfl⟩
  obtain ⟨cd,b,a⟩:=q7 a
  refine Q3 5 (fun A st=>∃ (ap aq ar au : V),st = A [(65,qe cd),(64,au),(63,ar),(62,aq),(61,ap)]) ?_ ?_
  ·refine Q2 J J b (fun b=>?_) (fun b=>?_)
   ·refine U J ?_
    obtain ⟨av,ce,b⟩:=q7 b
    refine qt (q4q av ce) J ?_
    obtain ⟨aw,cf,b⟩:=q7 b
    refine qt (qax k.1 av aw cf) J<|O (qe aw) J<|q8 ?_
    obtain rfl:=qd b
    exact ⟨_,_,_,_,J⟩
   refine qa J<|qa J<|qa J<|O (qe false) J<|q8 ?_
   obtain rfl:=qd b
   exact ⟨_,_,_,_,J⟩
  rintro _ ⟨ap,aq,ar,au,rfl⟩
  obtain ⟨cg,c,a⟩:=q7 a
  refine Q3 5 (fun A st=>∃ (ax ay az ba : V),st = A [(70,qe cg),(69,ba),(68,az),(67,ay),(66,ax)]) ?_ ?_
  ·refine Q2 J J c (fun c=>?_) (fun c=>?_)
   ·obtain ⟨bb,ch,c⟩:=q7 c
    refine qt (q4q bb ch) J<|O (.d (.agg [G 0,G 0,G 1])) J ?_
    obtain ⟨bc,ci,c⟩:=q7 c
    refine qt (qb8 bb ({X:=0,Y:=0,Z:=1} : qj) bc ci) J<|O (qe bc) J<|q8 ?_
    obtain rfl:=qd c
    exact ⟨_,_,_,_,J⟩
   refine qa J<|qa J<|qa J<|O (qe false) J<|q8 ?_
   obtain rfl:=qd c
   exact ⟨_,_,_,_,J⟩
  rintro _ ⟨ax,ay,az,ba,rfl⟩
  obtain ⟨bd,f,a⟩:=q7 a
  refine Q3 6 (fun A st=>∃ (be bf bg bh bi : V),st = A [(76,qe bd),(75,bi),(74,bh),(73,bg),(72,bf),(71,be)]) ?_ ?_
  ·refine Q2 J J f (fun f=>?_) (fun f=>?_)
   ·obtain ⟨bj,cj,f⟩:=q7 f
    refine qt (q4q bj cj) J<|O (.d (.agg [G 1,G 0,G 1])) J ?_
    obtain ⟨v,ck,f⟩:=q7 f
    refine qt (qb8 bj ({X:=1,Y:=0,Z:=1} : qj) v ck) J<|O (qe (!v)) J<|O (qe (!v)) J<|q8 ?_
    obtain rfl:=qd f
    exact ⟨_,_,_,_,_,J⟩
   refine qa J<|qa J<|qa J<|qa J<|O (qe false) J<|q8 ?_
   obtain rfl:=qd f
   exact ⟨_,_,_,_,_,J⟩
  rintro _ ⟨be,bf,bg,bh,bi,rfl⟩
  refine q9 J<|qr ?_
  obtain rfl:=qd a
  exact qz (qe bd) J
 refine qa J<|qa J<|qa J<|qa J<|qa J<|O (qe false) J<|U J<|qa J<|qa J<|O (qe false) J<|U J<|qa J<|qa J<|qa J<|O (qe false) J<|U J<|qa J<|qa J<|qa J<|O (qe false) J<|U J<|qa J<|qa J<|qa J<|qa J<|O (qe false) J<|q9 J<|qr ?_
 obtain rfl:=qd a
 exact qz (qe false) J
theorem qpl (g : List qg) (c : List qg) (r : Bool) (b : q79 g c = some r) : Pure Tryz.prog tab 38 [.sl 6 (g.map qy),.sl 6 (c.map qy)] (.bool r):=by
 unfold q79 at b
 refine Qb Tryz.func38 J (by kernel_rfl) (by kernel_rfl) J<|qb<|q9 J<|qp<|U J<|Qn J<|O (.d (.bool (decide ((g.length : Int)≤30)))) J ?_
 obtain ⟨u,f,b⟩:=q7 b
 refine Q3 5 (fun A st=>∃ (j k l m : V),st = A [(12,qe u),(11,m),(10,l),(9,k),(8,j)]) ?_ ?_
 ·refine Q2 J J f (fun f=>?_) (fun f=>?_)
  ·refine U J<|Qn J<|O (.d (.bool (decide ((c.length : Int)≤30)))) J<|O (.d (.bool (decide ((c.length : Int)≤30)))) J<|q8 ?_
   obtain rfl:=qd f
   exact ⟨_,_,_,_,J⟩
  refine qa J<|qa J<|qa J<|O (qe false) J<|q8 ?_
  obtain rfl:=qd f
  exact ⟨_,_,_,_,J⟩
 rintro _ ⟨j,k,l,m,rfl⟩
 obtain ⟨n,a,b⟩:=q7 b
 refine Q3 6 (fun A st=>∃ (o p q s t : V),st = A [(18,qe n),(17,t),(16,s),(15,q),(14,p),(13,o)]) ?_ ?_
 ·refine Q2 J J a (fun a=>?_) (fun a=>?_)
  ·refine U J<|U J ?_
   obtain ⟨h,v,a⟩:=q7 a
   refine qt (qsc g c h v) J<|O (qe (h == 0)) J<|O (qe (h == 0)) J<|q8 ?_
   obtain rfl:=qd a
   exact ⟨_,_,_,_,_,J⟩
  refine qa J<|qa J<|qa J<|qa J<|O (qe false) J<|q8 ?_
  obtain rfl:=qd a
  exact ⟨_,_,_,_,_,J⟩
 rintro _ ⟨o,p,q,s,t,rfl⟩
 refine q9 J<|qr ?_
 obtain rfl:=qd b
 exact qz (qe n) J
theorem qhy (a : qj) (r : Bool) (c : q4p a = some r) : Pure Tryz.prog tab 40 [.agg [G a.X,G a.Y,G a.Z]] (.bool r):=by
 unfold q4p at c
 refine Qb Tryz.func40 J (by kernel_rfl) (by kernel_rfl) J<|qb<|Qg (.ref 0 3 0 0) (.dat 3 [[G a.X,G a.Y,G a.Z]]) J<|q9 J<|qp<|O (.d (.agg [G a.X,G a.Y,G a.Z])) J ?_
 obtain ⟨n,o,c⟩:=q7 c
 refine qt (q7p a (-1000) n o) J ?_
 obtain ⟨f,b,c⟩:=q7 c
 refine Q3 5 (fun A st=>∃ (g h j k : V),st = A [(9,qe f),(8,k),(7,j),(6,h),(5,g)]) ?_ ?_
 ·refine Q2 J J b (fun b=>?_) (fun b=>?_)
  ·refine O (.d (.agg [G a.X,G a.Y,G a.Z])) J ?_
   obtain ⟨l,p,b⟩:=q7 b
   refine qt (qat (-1) a l p) J ?_
   obtain ⟨m,q,b⟩:=q7 b
   refine qt (q7p l (-1000) m q) J<|O (qe m) J<|q8 ?_
   obtain rfl:=qd b
   exact ⟨_,_,_,_,J⟩
  refine qa J<|qa J<|qa J<|O (qe false) J<|q8 ?_
  obtain rfl:=qd b
  exact ⟨_,_,_,_,J⟩
 rintro _ ⟨g,h,j,k,rfl⟩
 refine q9 J<|qr ?_
 obtain rfl:=qd c
 exact qz (qe f) J
theorem qoq (a : qj × qj × qj) (r : Int) (g : q74 a = some r) : Pure Tryz.prog tab 101 [.agg [G a.1.X,G a.1.Y,G a.1.Z,G a.2.1.X,G a.2.1.Y,G a.2.1.Z,G a.2.2.X,G a.2.2.Y,G a.2.2.Z]] (.int .u8 r):=by
 unfold q74 at g
 refine Qb Tryz.func101 J (by kernel_rfl) (by kernel_rfl) J<|qb<|Qg (.ref 0 9 0 0) (.dat 9 [[G a.1.X,G a.1.Y,G a.1.Z,G a.2.1.X,G a.2.1.Y,G a.2.1.Z,G a.2.2.X,G a.2.2.Y,G a.2.2.Z]]) J<|q9 J<|q8<|qf<|qb<|U J<|q8 ?_
 obtain ⟨j,k,g⟩:=q7 g
 refine Qh (fun h=>.inl h = j) (fun (h : Unit)=>⟨[],[],0⟩) (by simp) ?_ ?_
 ·refine Q7 (q4g a) (fun (f : Int)=>⟨[(1,.ref 0 9 0 0),(4,.d (.int .u8 f))],[(0,.dat 9 [[G a.1.X,G a.1.Y,G a.1.Z,G a.2.1.X,G a.2.1.Y,G a.2.1.Z,G a.2.2.X,G a.2.2.Y,G a.2.2.Z]])],1⟩) 0 j k (wkA [(0,0)] [] []) ?_
  intro f m b
  unfold q4g at b
  refine qb<|O (.d (.bool (decide (f < 24)))) J<|q8<|qf ?_
  refine qm J b (fun _ b=>?_) (fun _ b=>?_)
  ·refine qn<|qf<|Q1<|qb<|U J<|q9 J<|q8<|qf<|Q5 [q0,qo 0,q0,q0] (by kernel_rfl)<|U J ?_
   obtain ⟨c,l,b⟩:=q7 b
   refine qt (qa4 f c l) J<|O (.d (.agg [G a.1.X,G a.1.Y,G a.1.Z,G a.2.1.X,G a.2.1.Y,G a.2.1.Z,G a.2.2.X,G a.2.2.Y,G a.2.2.Z])) J<|O (.d (.bool ((c.1.X == a.1.X) && ((c.1.Y == a.1.Y) && ((c.1.Z == a.1.Z) && ((c.2.1.X == a.2.1.X) && ((c.2.1.Y == a.2.1.Y) && ((c.2.1.Z == a.2.1.Z) && ((c.2.2.X == a.2.2.X) && ((c.2.2.Y == a.2.2.Y) && ((c.2.2.Z == a.2.2.Z) && true))))))))))) J<|q8 ?_
   refine qm J b (fun _ b=>?_) (fun _ b=>?_)
   ·refine qb<|U J<|q9 J<|qr ?_
    refine ⟨_,(Option.some.inj b).symm,fun hm=>?_⟩
    subst hm
    obtain rfl:=qd g
    exact qz (.d (.int .u8 f)) J
   refine qn<|Qa<|Qc<|qw<|O (.d (.int .u8 (IntKind.wrap .u8 (f + 1)))) J<|U J<|qs ?_
   exact ⟨_,(Option.some.inj b).symm,wkA [(0,0)] [] []⟩
  refine Q6 ?_
  refine ⟨_,(Option.some.inj b).symm,fun hm=>?_⟩
  subst hm
  exact ⟨_,J,wkA [] [] []⟩
 intro h hb
 subst hb
 refine qb<|q9 J<|qr ?_
 obtain rfl:=qd g
 exact qz (.d (.int .u8 0)) J
theorem qor (c : Qj) (b : Qj) (r : Qj) (f : q4i c b = some r) : Pure Tryz.prog tab 75 [.agg [.int .u8 c.Turn,G c.At.X,G c.At.Y,G c.At.Z],.agg [.int .u8 b.Turn,G b.At.X,G b.At.Y,G b.At.Z]] (.agg [.int .u8 r.Turn,G r.At.X,G r.At.Y,G r.At.Z]):=by
 unfold q4i at f
 refine Qb Tryz.func75 J (by kernel_rfl) (by kernel_rfl) J<|qb<|Qg (.ref 0 4 0 0) (.dat 4 [[.int .u8 c.Turn,G c.At.X,G c.At.Y,G c.At.Z]]) J<|Qg (.ref 1 4 0 0) (.dat 4 [[.int .u8 b.Turn,G b.At.X,G b.At.Y,G b.At.Z]]) J<|Qo J J<|q8<|qf<|Q5 [Qd 4,Qd 3,(some [],[4]),(some [],[3]),q0,qo 1,q0,q0,qo 0,q0] (by kernel_rfl)<|O (.ref 0 4 0 0) J<|O (.d (.int .u8 c.Turn)) J ?_
 obtain ⟨k,u,f⟩:=q7 f
 refine qt (qa4 c.Turn k u) J<|O (.ref 1 4 0 0) J<|O (.d (.int .u8 b.Turn)) J ?_
 obtain ⟨a,v,f⟩:=q7 f
 refine qt (qa4 b.Turn a v) J<|Qo J J<|Qo J J<|Q8 3 (.dat 9 [[k.1,k.2.1,k.2.2].flatMap q4c]) J<|Q8 4 (.dat 9 [[G a.1.X,G a.1.Y,G a.1.Z,G a.2.1.X,G a.2.1.Y,G a.2.1.Z,G a.2.2.X,G a.2.2.Y,G a.2.2.Z]]) J<|q8<|qf<|qb<|U J<|q8 ?_
 obtain ⟨p,w,f⟩:=q7 f
 refine Qh (fun m=>m = p) (fun (m : List qj)=>⟨[(2,.ref 0 4 0 0),(3,.ref 1 4 0 0),(4,.ref 2 4 0 0),(5,.ref 3 9 0 0)],[(0,.dat 4 [[.int .u8 c.Turn,G c.At.X,G c.At.Y,G c.At.Z]]),(1,.dat 4 [[.int .u8 b.Turn,G b.At.X,G b.At.Y,G b.At.Z]]),(2,.dat 4 [[.int .u8 0,G 0,G 0,G 0]]),(3,.dat 9 [m.flatMap q4c])],4⟩) (by simp) ?_ ?_
 ·refine Q7 (q1b a) (fun (l : Int × List qj)=>⟨[(2,.ref 0 4 0 0),(3,.ref 1 4 0 0),(4,.ref 2 4 0 0),(5,.ref 3 9 0 0),(6,.ref 4 9 0 0),(14,q6 l.1)],[(0,.dat 4 [[.int .u8 c.Turn,G c.At.X,G c.At.Y,G c.At.Z]]),(1,.dat 4 [[.int .u8 b.Turn,G b.At.X,G b.At.Y,G b.At.Z]]),(2,.dat 4 [[.int .u8 0,G 0,G 0,G 0]]),(3,.dat 9 [l.2.flatMap q4c]),(4,.dat 9 [[G a.1.X,G a.1.Y,G a.1.Z,G a.2.1.X,G a.2.1.Y,G a.2.1.Z,G a.2.2.X,G a.2.2.Y,G a.2.2.Z]])],5⟩) (0,[k.1,k.2.1,k.2.2]) p w (wkA [(0,0),(1,1),(2,2),(3,3),(4,4)] [] []) ?_
  intro l ab g
  unfold q1b at g
  refine qb<|O (.d (.bool (decide (l.1 < 3)))) J<|q8<|qf ?_
  refine qm J g (fun _ g=>?_) (fun _ g=>?_)
  ·refine qn<|qf<|Q1<|qb<|U J<|q9 J<|q8<|Q5 [Qd 3,q0,q0,qo 3,q0,q0,qo 4,q0] (by kernel_rfl)<|U J<|O (.d (.agg [G a.1.X,G a.1.Y,G a.1.Z,G a.2.1.X,G a.2.1.Y,G a.2.1.Z,G a.2.2.X,G a.2.2.Y,G a.2.2.Z])) J<|U J ?_
   obtain ⟨n,q,g⟩:=q7 g
   refine q4w q J J J J J<|qag (enc:=q4c) (.d (.agg [G n.X,G n.Y,G n.Z])) q (fun _=>rfl) J J J J J J ?_
   obtain ⟨s,x,g⟩:=q7 g
   refine qt (qh4 a n s x) J ?_
   obtain ⟨ac,t,g⟩:=q7 g
   refine q4w t J J J J J<|qin (enc:=q4c) s t (fun _=>rfl) J J J J J J J J<|qs<|Qc<|qw<|O (.d (G (w64 (l.1 + 1)))) J<|U J<|qs ?_
   exact ⟨_,(Option.some.inj g).symm,wkA [(0,0),(1,1),(2,2),(3,3),(4,4)] [] []⟩
  refine Q6 ?_
  refine ⟨_,(Option.some.inj g).symm,fun hm=>?_⟩
  subst hm
  exact ⟨_,J,wkA [(0,0),(1,1),(2,2),(3,3)] [] []⟩
 intro m hb
 subst hb
 refine qf<|Q5 [Qd 2,q0,q0,qo 0,q0,qo 1,q0,qo 3] (by kernel_rfl) ?_
 obtain ⟨h,y,f⟩:=q7 f
 refine qqk (enc:=q4c) (.d (.agg [G h.1.X,G h.1.Y,G h.1.Z,G h.2.1.X,G h.2.1.Y,G h.2.1.Z,G h.2.2.X,G h.2.2.Y,G h.2.2.Z])) (qm6 y) J J J J J J ?_
 obtain ⟨o,z,f⟩:=q7 f
 refine qt (qoq h o z) J<|O (.d (.agg [.int .u8 b.Turn,G b.At.X,G b.At.Y,G b.At.Z])) J<|O (.ref 0 4 0 1) J<|O (.d (.agg [G c.At.X,G c.At.Y,G c.At.Z])) J ?_
 obtain ⟨j,aa,f⟩:=q7 f
 refine qt (qcn b c.At j aa) J<|O (.d (.agg [.int .u8 o,G j.X,G j.Y,G j.Z])) J<|Q8 2 (.dat 4 [[.int .u8 o,G j.X,G j.Y,G j.Z]]) J<|qr ?_
 obtain rfl:=qd f
 exact qz (.d (.agg [.int .u8 o,G j.X,G j.Y,G j.Z])) J
theorem qoo (a : Qj) (r : Qj × Int) (g : q73 a = some r) : Pure Tryz.prog tab 41 [.agg [.int .u8 a.Turn,G a.At.X,G a.At.Y,G a.At.Z]] (.tup [.agg [.int .u8 r.1.Turn,G r.1.At.X,G r.1.At.Y,G r.1.At.Z],G r.2]):=by
 unfold q73 at g
 refine Qb Tryz.func41 J (by kernel_rfl) (by kernel_rfl) J<|qb<|Qg (.ref 0 4 0 0) (.dat 4 [[.int .u8 a.Turn,G a.At.X,G a.At.Y,G a.At.Z]]) J<|Qo J J<|q9 J<|q8<|qf<|qb<|O (.d (.agg [.int .u8 a.Turn,G a.At.X,G a.At.Y,G a.At.Z])) J ?_
 obtain ⟨h,m,g⟩:=q7 g
 refine qt (qcj a h m) J<|q9 J<|qp<|U J<|O (qe (h != 0)) J<|q8 ?_
 refine qm J g (fun _ g=>?_) (fun _ g=>?_)
 ·refine qb<|O (.d (.agg [.int .u8 0,G 0,G 0,G 0])) J<|U J<|Q8 1 (.dat 4 [[.int .u8 0,G 0,G 0,G 0]]) J<|q9 J<|qr ?_
  obtain rfl:=qd g
  exact qz (.d (.tup [.agg [.int .u8 0,G 0,G 0,G 0],G h])) J
 refine qn<|qf<|qb<|U J<|q8 ?_
 obtain ⟨l,n,g⟩:=q7 g
 refine Qh (fun j=>.inl j = l) (fun (j : Unit)=>⟨[(2,.ref 0 4 0 0)],[(0,.dat 4 [[.int .u8 0,G 0,G 0,G 0]])],1⟩) (by simp) ?_ ?_
 ·refine Q7 (q2i a) (fun (f : Int)=>⟨[(1,.ref 0 4 0 0),(2,.ref 1 4 0 0),(14,.d (.int .u8 f))],[(0,.dat 4 [[.int .u8 a.Turn,G a.At.X,G a.At.Y,G a.At.Z]]),(1,.dat 4 [[.int .u8 0,G 0,G 0,G 0]])],2⟩) 0 l n (wkA [(0,0),(1,1)] [] []) ?_
  intro f q c
  unfold q2i at c
  refine qb<|O (.d (.bool (decide (f < 24)))) J<|q8<|qf ?_
  refine qm J c (fun _ c=>?_) (fun _ c=>?_)
  ·refine qn<|qf<|Q1<|qb<|U J<|q9 J<|qp<|U J<|O (.d (.agg [.int .u8 f,G 0,G 0,G 0])) J<|Qo J J<|Q8 2 (.dat 4 [[.int .u8 f,G 0,G 0,G 0]]) J<|qp<|O (.ref 0 4 0 0) J<|O (.d (.int .u8 a.Turn)) J<|O (.d (.agg [.int .u8 a.Turn,G 0,G 0,G 0])) J<|O (.d (.agg [.int .u8 f,G 0,G 0,G 0])) J ?_
   obtain ⟨k,o,c⟩:=q7 c
   refine qt (qor ({Turn:=a.Turn,At:=({X:=0,Y:=0,Z:=0} : qj)} : Qj) ({Turn:=f,At:=({X:=0,Y:=0,Z:=0} : qj)} : Qj) k o) J<|O (.d (.int .u8 k.Turn)) J<|O (qe (k.Turn == 0)) J<|q8 ?_
   refine qm J c (fun _ c=>?_) (fun _ c=>?_)
   ·refine qb<|O (.d (.agg [.int .u8 f,G 0,G 0,G 0])) J<|O (.ref 0 4 0 1) J<|O (.d (.agg [G a.At.X,G a.At.Y,G a.At.Z])) J ?_
    obtain ⟨b,p,c⟩:=q7 c
    refine qt (qcn ({Turn:=f,At:=({X:=0,Y:=0,Z:=0} : qj)} : Qj) a.At b p) J<|Qo J J<|Q8 3 (.dat 3 [[G b.X,G b.Y,G b.Z]]) J<|qp<|U J<|O (.ref 3 3 0 0) J<|O (q6 b.X) J<|O (.d (G (w64 (0 - b.X)))) J<|O (.ref 3 3 0 1) J<|O (q6 b.Y) J<|O (.d (G (w64 (0 - b.Y)))) J<|O (.ref 3 3 0 2) J<|O (q6 b.Z) J<|O (.d (G (w64 (0 - b.Z)))) J<|O (.d (.agg [G (w64 (0 - b.X)),G (w64 (0 - b.Y)),G (w64 (0 - b.Z))])) J<|O (.d (.agg [.int .u8 f,G (w64 (0 - b.X)),G (w64 (0 - b.Y)),G (w64 (0 - b.Z))])) J<|Q8 1 (.dat 4 [[.int .u8 f,G (w64 (0 - b.X)),G (w64 (0 - b.Y)),G (w64 (0 - b.Z))]]) J<|q9 J<|qr ?_
    refine ⟨_,(Option.some.inj c).symm,fun hm=>?_⟩
    subst hm
    obtain rfl:=qd g
    exact qz (.d (.tup [.agg [.int .u8 f,G (w64 (0 - b.X)),G (w64 (0 - b.Y)),G (w64 (0 - b.Z))],G 0])) J
   refine qn<|Qa<|Qc<|qw<|O (.d (.int .u8 (IntKind.wrap .u8 (f + 1)))) J<|U J<|qs ?_
   exact ⟨_,(Option.some.inj c).symm,wkA [(0,0),(1,1)] [] []⟩
  refine Q6 ?_
  refine ⟨_,(Option.some.inj c).symm,fun hm=>?_⟩
  subst hm
  exact ⟨_,J,wkA [(0,1)] [] []⟩
 intro j hb
 subst hb
 refine qb<|O (.d (.agg [.int .u8 0,G 0,G 0,G 0])) J<|Q8 0 (.dat 4 [[.int .u8 0,G 0,G 0,G 0]]) J<|q9 J<|qr ?_
 obtain rfl:=qd g
 exact qz (.d (.tup [.agg [.int .u8 0,G 0,G 0,G 0],G 8])) J
theorem qzq (k : List qg) (b : Qj) (c : qj) (r : Bool) (a : qaa k b c = some r) : Pure Tryz.prog tab 6 [.sl 6 (k.map qy),.agg [.int .u8 b.Turn,G b.At.X,G b.At.Y,G b.At.Z],.agg [G c.X,G c.Y,G c.Z]] (.bool r):=by
 unfold qaa at a
 refine Qb Tryz.func6 J (by kernel_rfl) (by kernel_rfl) J<|qb<|Qg (.ref 0 4 0 0) (.dat 4 [[.int .u8 b.Turn,G b.At.X,G b.At.Y,G b.At.Z]]) J<|Qg (.ref 1 3 0 0) (.dat 3 [[G c.X,G c.Y,G c.Z]]) J<|q9 J<|qp ?_
 obtain ⟨r1,h2,a⟩:=q7 a
 refine qt (qpk r1 h2) J<|q9 J<|q8<|qf<|qb<|U J ?_
 obtain ⟨r3,h4,a⟩:=q7 a
 refine qt (q7f (.cons (.refl _) (.cons (.nil _) .nil)) (qpl k [] r3 h4)) J<|O (qe (!r3)) J ?_
 obtain ⟨c7,m,a⟩:=q7 a
 refine Q3 5 (fun A st=>∃ (j9 ar au av : V),st = A [(31,qe c7),(30,av),(29,au),(28,ar),(27,j9)]) ?_ ?_
 ·refine Q2 J J m (fun m=>?_) (fun m=>?_)
  ·refine qa J<|qa J<|qa J<|O (qe true) J<|q8 ?_
   obtain rfl:=qd m
   exact ⟨_,_,_,_,J⟩
  refine O (.d (.agg [.int .u8 b.Turn,G b.At.X,G b.At.Y,G b.At.Z])) J ?_
  obtain ⟨aj,fg,m⟩:=q7 m
  refine qt (qs6 b aj fg) J<|O (qe (aj != 0)) J<|O (qe (aj != 0)) J<|q8 ?_
  obtain rfl:=qd m
  exact ⟨_,_,_,_,J⟩
 rintro _ ⟨j9,ar,au,av,rfl⟩
 obtain ⟨fh,n,a⟩:=q7 a
 refine Q3 6 (fun A st=>∃ (aw ax ay az ba : V),st = A [(37,qe fh),(36,ba),(35,az),(34,ay),(33,ax),(32,aw)]) ?_ ?_
 ·refine Q2 J J n (fun n=>?_) (fun n=>?_)
  ·refine qa J<|qa J<|qa J<|qa J<|O (qe true) J<|q8 ?_
   obtain rfl:=qd n
   exact ⟨_,_,_,_,_,J⟩
  refine O (.ref 0 4 0 1) J<|O (.d (.agg [G b.At.X,G b.At.Y,G b.At.Z])) J ?_
  obtain ⟨ak,fi,n⟩:=q7 n
  refine qt (qhy b.At ak fi) J<|O (qe (!ak)) J<|O (qe (!ak)) J<|q8 ?_
  obtain rfl:=qd n
  exact ⟨_,_,_,_,_,J⟩
 rintro _ ⟨aw,ax,ay,az,ba,rfl⟩
 obtain ⟨fj,o,a⟩:=q7 a
 refine Q3 5 (fun A st=>∃ (bb bc bd be : V),st = A [(42,qe fj),(41,be),(40,bd),(39,bc),(38,bb)]) ?_ ?_
 ·refine Q2 J J o (fun o=>?_) (fun o=>?_)
  ·refine qa J<|qa J<|qa J<|O (qe true) J<|q8 ?_
   obtain rfl:=qd o
   exact ⟨_,_,_,_,J⟩
  refine O (.d (.agg [G c.X,G c.Y,G c.Z])) J ?_
  obtain ⟨al,fk,o⟩:=q7 o
  refine qt (qhy c al fk) J<|O (qe (!al)) J<|O (qe (!al)) J<|q8 ?_
  obtain rfl:=qd o
  exact ⟨_,_,_,_,J⟩
 rintro _ ⟨bb,bc,bd,be,rfl⟩
 obtain ⟨fl,y,a⟩:=q7 a
 refine Q3 4 (fun A st=>∃ (bf bg bh : V),st = A [(46,qe fl),(45,bh),(44,bg),(43,bf)]) ?_ ?_
 ·refine Q2 J J y (fun y=>?_) (fun y=>?_)
  ·refine qa J<|qa J<|O (qe true) J<|q8 ?_
   obtain rfl:=qd y
   exact ⟨_,_,_,J⟩
  refine U J<|O (qe (!r1)) J<|O (qe (!r1)) J<|q8 ?_
  obtain rfl:=qd y
  exact ⟨_,_,_,J⟩
 rintro _ ⟨bf,bg,bh,rfl⟩
 refine q8 ?_
 refine qm J a (fun _ a=>?_) (fun _ a=>?_)
 ·refine qb<|U J<|q9 J<|qr ?_
  obtain rfl:=qd a
  exact qz (qe r1) J
 refine qn<|qb<|U J<|O (.d (.agg [.int .u8 b.Turn,G b.At.X,G b.At.Y,G b.At.Z])) J ?_
 obtain ⟨g,fm,a⟩:=q7 a
 refine qt (qei k b g fm) J<|U J<|O (.d (.sl 6 (g.1.map qy))) J<|O (q6 g.2) J<|q9 J<|q9 J<|q8<|qf<|qb<|U J<|O (qe (g.2 != 0)) J<|q8 ?_
 refine qm J a (fun _ a=>?_) (fun _ a=>?_)
 ·refine qb<|U J ?_
  obtain ⟨bi,p,a⟩:=q7 a
  refine Q3 8 (fun A st=>∃ (bj bk bl bm bn bo bp : V),st = A [(64,qe bi),(63,bp),(62,bo),(61,bn),(60,bm),(59,bl),(58,bk),(57,bj)]) ?_ ?_
  ·refine Q2 J J p (fun p=>?_) (fun p=>?_)
   ·refine U J<|O (qe (g.2 == 16)) J ?_
    obtain ⟨bq,z,p⟩:=q7 p
    refine Q3 4 (fun A st=>∃ (br bs bt : V),st = A [(63,qe bq),(62,bt),(61,bs),(60,br)]) ?_ ?_
    ·refine Q2 J J z (fun z=>?_) (fun z=>?_)
     ·refine qa J<|qa J<|O (qe true) J<|q8 ?_
      obtain rfl:=qd z
      exact ⟨_,_,_,J⟩
     refine U J<|O (qe (g.2 == 4)) J<|O (qe (g.2 == 4)) J<|q8 ?_
     obtain rfl:=qd z
     exact ⟨_,_,_,J⟩
    rintro _ ⟨br,bs,bt,rfl⟩
    refine O (qe bq) J<|q8 ?_
    obtain rfl:=qd p
    exact ⟨_,_,_,_,_,_,_,J⟩
   refine qa J<|qa J<|qa J<|qa J<|qa J<|qa J<|O (qe false) J<|q8 ?_
   obtain rfl:=qd p
   exact ⟨_,_,_,_,_,_,_,J⟩
  rintro _ ⟨bj,bk,bl,bm,bn,bo,bp,rfl⟩
  refine q9 J<|qr ?_
  obtain rfl:=qd a
  exact qz (qe bi) J
 refine qn<|qb<|U J ?_
 obtain ⟨x,fn,a⟩:=q7 a
 refine qt (qek k x fn) J<|U J<|O (q6 x.1) J<|O (q6 x.2) J<|q9 J<|q9 J<|qp<|U J ?_
 obtain ⟨q,fo,a⟩:=q7 a
 refine qt (qek g.1 q fo) J<|U J<|O (q6 q.1) J<|O (q6 q.2) J<|q9 J<|q9 J<|qp<|U J ?_
 obtain ⟨s,fq,a⟩:=q7 a
 refine qt (qej k s fq) J<|U J<|O (q6 s.1) J<|O (q6 s.2) J<|q9 J<|q9 J<|qp<|U J ?_
 obtain ⟨t,fr,a⟩:=q7 a
 refine qt (qej g.1 t fr) J<|U J<|O (q6 t.1) J<|O (q6 t.2) J<|q9 J<|q9 J<|qp<|O (.d (.agg [.int .u8 b.Turn,G b.At.X,G b.At.Y,G b.At.Z])) J ?_
 obtain ⟨f,fs,a⟩:=q7 a
 refine qt (qoo b f fs) J<|U J<|O (.d (.agg [.int .u8 f.1.Turn,G f.1.At.X,G f.1.At.Y,G f.1.At.Z])) J<|O (q6 f.2) J<|Qo J J<|Q8 2 (.dat 4 [[.int .u8 f.1.Turn,G f.1.At.X,G f.1.At.Y,G f.1.At.Z]]) J<|q9 J<|qp<|U J<|O (.d (.agg [.int .u8 f.1.Turn,G f.1.At.X,G f.1.At.Y,G f.1.At.Z])) J ?_
 obtain ⟨l,ft,a⟩:=q7 a
 refine qt (qei g.1 f.1 l ft) J<|U J<|O (.d (.sl 6 (l.1.map qy))) J<|O (q6 l.2) J<|q9 J<|q9 J<|q8<|qf<|qb<|U J<|O (qe (x.2 != 0)) J ?_
 obtain ⟨fu,aa,a⟩:=q7 a
 refine Q3 4 (fun A st=>∃ (bu bv bw : V),st = A [(101,qe fu),(100,bw),(99,bv),(98,bu)]) ?_ ?_
 ·refine Q2 J J aa (fun aa=>?_) (fun aa=>?_)
  ·refine qa J<|qa J<|O (qe true) J<|q8 ?_
   obtain rfl:=qd aa
   exact ⟨_,_,_,J⟩
  refine U J<|O (qe (q.2 != 0)) J<|O (qe (q.2 != 0)) J<|q8 ?_
  obtain rfl:=qd aa
  exact ⟨_,_,_,J⟩
 rintro _ ⟨bu,bv,bw,rfl⟩
 obtain ⟨fv,ab,a⟩:=q7 a
 refine Q3 4 (fun A st=>∃ (bz ca cb : V),st = A [(105,qe fv),(104,cb),(103,ca),(102,bz)]) ?_ ?_
 ·refine Q2 J J ab (fun ab=>?_) (fun ab=>?_)
  ·refine qa J<|qa J<|O (qe true) J<|q8 ?_
   obtain rfl:=qd ab
   exact ⟨_,_,_,J⟩
  refine U J<|O (qe (s.2 != 0)) J<|O (qe (s.2 != 0)) J<|q8 ?_
  obtain rfl:=qd ab
  exact ⟨_,_,_,J⟩
 rintro _ ⟨bz,ca,cb,rfl⟩
 obtain ⟨fw,ac,a⟩:=q7 a
 refine Q3 4 (fun A st=>∃ (cc cd ce : V),st = A [(109,qe fw),(108,ce),(107,cd),(106,cc)]) ?_ ?_
 ·refine Q2 J J ac (fun ac=>?_) (fun ac=>?_)
  ·refine qa J<|qa J<|O (qe true) J<|q8 ?_
   obtain rfl:=qd ac
   exact ⟨_,_,_,J⟩
  refine U J<|O (qe (t.2 != 0)) J<|O (qe (t.2 != 0)) J<|q8 ?_
  obtain rfl:=qd ac
  exact ⟨_,_,_,J⟩
 rintro _ ⟨cc,cd,ce,rfl⟩
 obtain ⟨fx,ad,a⟩:=q7 a
 refine Q3 4 (fun A st=>∃ (cf cg ch : V),st = A [(113,qe fx),(112,ch),(111,cg),(110,cf)]) ?_ ?_
 ·refine Q2 J J ad (fun ad=>?_) (fun ad=>?_)
  ·refine qa J<|qa J<|O (qe true) J<|q8 ?_
   obtain rfl:=qd ad
   exact ⟨_,_,_,J⟩
  refine U J<|O (qe (f.2 != 0)) J<|O (qe (f.2 != 0)) J<|q8 ?_
  obtain rfl:=qd ad
  exact ⟨_,_,_,J⟩
 rintro _ ⟨cf,cg,ch,rfl⟩
 obtain ⟨fy,ae,a⟩:=q7 a
 refine Q3 5 (fun A st=>∃ (ci cj ck cl : V),st = A [(118,qe fy),(117,cl),(116,ck),(115,cj),(114,ci)]) ?_ ?_
 ·refine Q2 J J ae (fun ae=>?_) (fun ae=>?_)
  ·refine qa J<|qa J<|qa J<|O (qe true) J<|q8 ?_
   obtain rfl:=qd ae
   exact ⟨_,_,_,_,J⟩
  refine U J<|U J<|O (qe (x.1 != q.1)) J<|O (qe (x.1 != q.1)) J<|q8 ?_
  obtain rfl:=qd ae
  exact ⟨_,_,_,_,J⟩
 rintro _ ⟨ci,cj,ck,cl,rfl⟩
 obtain ⟨fz,af,a⟩:=q7 a
 refine Q3 5 (fun A st=>∃ (cm cn co cp : V),st = A [(123,qe fz),(122,cp),(121,co),(120,cn),(119,cm)]) ?_ ?_
 ·refine Q2 J J af (fun af=>?_) (fun af=>?_)
  ·refine qa J<|qa J<|qa J<|O (qe true) J<|q8 ?_
   obtain rfl:=qd af
   exact ⟨_,_,_,_,J⟩
  refine U J<|U J<|O (qe (s.1 != t.1)) J<|O (qe (s.1 != t.1)) J<|q8 ?_
  obtain rfl:=qd af
  exact ⟨_,_,_,_,J⟩
 rintro _ ⟨cm,cn,co,cp,rfl⟩
 obtain ⟨ga,u,a⟩:=q7 a
 refine Q3 8 (fun A st=>∃ (cq cr cs ct cu cv cw : V),st = A [(131,qe ga),(130,cw),(129,cv),(128,cu),(127,ct),(126,cs),(125,cr),(124,cq)]) ?_ ?_
 ·refine Q2 J J u (fun u=>?_) (fun u=>?_)
  ·refine qa J<|qa J<|qa J<|qa J<|qa J<|qa J<|O (qe true) J<|q8 ?_
   obtain rfl:=qd u
   exact ⟨_,_,_,_,_,_,_,J⟩
  refine U J<|O (qe (l.2 != 0)) J ?_
  obtain ⟨cx,ag,u⟩:=q7 u
  refine Q3 4 (fun A st=>∃ (cy cz da : V),st = A [(130,qe cx),(129,da),(128,cz),(127,cy)]) ?_ ?_
  ·refine Q2 J J ag (fun ag=>?_) (fun ag=>?_)
   ·refine U J<|O (qe (l.2 != 4)) J<|O (qe (l.2 != 4)) J<|q8 ?_
    obtain rfl:=qd ag
    exact ⟨_,_,_,J⟩
   refine qa J<|qa J<|O (qe false) J<|q8 ?_
   obtain rfl:=qd ag
   exact ⟨_,_,_,J⟩
  rintro _ ⟨cy,cz,da,rfl⟩
  refine O (qe cx) J<|q8 ?_
  obtain rfl:=qd u
  exact ⟨_,_,_,_,_,_,_,J⟩
 rintro _ ⟨cq,cr,cs,ct,cu,cv,cw,rfl⟩
 obtain ⟨gb,v,a⟩:=q7 a
 refine Q3 10 (fun A st=>∃ (dc dd de df dg dh dj dk dl : V),st = A [(141,qe gb),(140,dl),(139,dk),(138,dj),(137,dh),(136,dg),(135,df),(134,de),(133,dd),(132,dc)]) ?_ ?_
 ·refine Q2 J J v (fun v=>?_) (fun v=>?_)
  ·refine qa J<|qa J<|qa J<|qa J<|qa J<|qa J<|qa J<|qa J<|O (qe true) J<|q8 ?_
   obtain rfl:=qd v
   exact ⟨_,_,_,_,_,_,_,_,_,J⟩
  refine U J<|O (qe (l.2 == 0)) J ?_
  obtain ⟨dm,w,v⟩:=q7 v
  refine Q3 6 (fun A st=>∃ (dn dp dq dr ds : V),st = A [(140,qe dm),(139,ds),(138,dr),(137,dq),(136,dp),(135,dn)]) ?_ ?_
  ·refine Q2 J J w (fun w=>?_) (fun w=>?_)
   ·refine U J<|U J ?_
    obtain ⟨am,gc,w⟩:=q7 w
    refine qt (qax l.1 k am gc) J<|O (qe (!am)) J<|O (qe (!am)) J<|q8 ?_
    obtain rfl:=qd w
    exact ⟨_,_,_,_,_,J⟩
   refine qa J<|qa J<|qa J<|qa J<|O (qe false) J<|q8 ?_
   obtain rfl:=qd w
   exact ⟨_,_,_,_,_,J⟩
  rintro _ ⟨dn,dp,dq,dr,ds,rfl⟩
  refine O (qe dm) J<|q8 ?_
  obtain rfl:=qd v
  exact ⟨_,_,_,_,_,_,_,_,_,J⟩
 rintro _ ⟨dc,dd,de,df,dg,dh,dj,dk,dl,rfl⟩
 refine q8 ?_
 refine qm J a (fun _ a=>?_) (fun _ a=>?_)
 ·refine qb<|q9 J<|qr ?_
  obtain rfl:=qd a
  exact qz (qe false) J
 refine qn<|qf<|Q5 [Qd 3,(some [],[3]),q0,qo 0,q0,q0,q0,qo 1,qo 1] (by kernel_rfl)<|O (.d (.agg [G c.X,G c.Y,G c.Z])) J<|O (.d (.agg [G c.X,G c.Y,G c.Z])) J<|O (.d (.agg [G 1,G 1,G 1])) J ?_
 obtain ⟨ah,gd,a⟩:=q7 a
 refine qt (qas c ({X:=1,Y:=1,Z:=1} : qj) ah gd) J<|O (.d (.agg [G c.X,G c.Y,G c.Z,G ah.X,G ah.Y,G ah.Z])) J<|O (.d (.agg [.int .u8 b.Turn,G b.At.X,G b.At.Y,G b.At.Z])) J ?_
 obtain ⟨h,ge,a⟩:=q7 a
 refine qt (qsl ({Lo:=c,Hi:=ah} : qg) b h ge) J<|Qo J J<|Q8 3 (.dat 6 [[G h.Lo.X,G h.Lo.Y,G h.Lo.Z,G h.Hi.X,G h.Hi.Y,G h.Hi.Z]]) J<|q8<|qf<|Q5 [q0,q0,q0,q0,qo 1,q0,q0,qo 3,q0,q0,q0,q0] (by kernel_rfl)<|U J ?_
 obtain ⟨dt,j,a⟩:=q7 a
 refine Q3 10 (fun A st=>∃ (du dv dw dx dy dz fa fb fc : V),st = A [(159,qe dt),(158,fc),(157,fb),(156,fa),(155,dz),(154,dy),(153,dx),(152,dw),(151,dv),(150,du)]) ?_ ?_
 ·refine Q2 J J j (fun j=>?_) (fun j=>?_)
  ·refine U J<|O (.ref 3 6 0 0) J<|O (.d (.agg [G h.Lo.X,G h.Lo.Y,G h.Lo.Z])) J ?_
   obtain ⟨an,gf,j⟩:=q7 j
   refine qt (qb8 g.1 h.Lo an gf) J<|U J<|O (.d (.agg [G c.X,G c.Y,G c.Z])) J ?_
   obtain ⟨ao,gg,j⟩:=q7 j
   refine qt (qb8 k c ao gg) J<|O (qe (an == ao)) J<|O (qe (an == ao)) J<|q8 ?_
   obtain rfl:=qd j
   exact ⟨_,_,_,_,_,_,_,_,_,J⟩
  refine qa J<|qa J<|qa J<|qa J<|qa J<|qa J<|qa J<|qa J<|O (qe false) J<|q8 ?_
  obtain rfl:=qd j
  exact ⟨_,_,_,_,_,_,_,_,_,J⟩
 rintro _ ⟨du,dv,dw,dx,dy,dz,fa,fb,fc,rfl⟩
 refine q9 J<|qr ?_
 obtain rfl:=qd a
 exact qz (qe dt) J
end Go.Proofs.YtjjmcdlnadkjbaaGreat
namespace Go.Proofs.YtjjmcdlnadkjbaaGreat
open Go Go.Am Go.Sh
end Go.Proofs.YtjjmcdlnadkjbaaGreat
