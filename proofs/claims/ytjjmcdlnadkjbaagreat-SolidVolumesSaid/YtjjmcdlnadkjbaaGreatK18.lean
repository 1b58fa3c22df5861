/- W_Alld W_All -/
import Derived.Test.YtjjmcdlnadkjbaaGreatK17
namespace Go.Proofs.YtjjmcdlnadkjbaaGreat
open Go Go.Am Go.Sh
set_option maxHeartbeats 8000000
set_option maxRecDepth 100000
theorem qy7 (a : qf) (b : qf) (r : Int) (c : q9c a b = some r) : Pure Tryz.prog tab 69 [.agg [G a.Lo.X,G a.Lo.Y,G a.Lo.Z,G a.Hi.X,G a.Hi.Y,G a.Hi.Z],.agg [G b.Lo.X,G b.Lo.Y,G b.Lo.Z,G b.Hi.X,G b.Hi.Y,G b.Hi.Z]] (G r):=by
 unfold q9c at c
 refine Q8 Tryz.func69 J (by kernel_rfl) (by kernel_rfl) J<|qb<|Qg (.ref 0 6 0 0) (.dat 6 [[G a.Lo.X,G a.Lo.Y,G a.Lo.Z,G a.Hi.X,G a.Hi.Y,G a.Hi.Z]]) J<|Qg (.ref 1 6 0 0) (.dat 6 [[G b.Lo.X,G b.Lo.Y,G b.Lo.Z,G b.Hi.X,G b.Hi.Y,G b.Hi.Z]]) J<|q9 J<|qm<|O (.ref 0 6 0 3) J<|O (.ref 0 6 0 3) J<|O (q0 a.Hi.X) J<|O (.ref 1 6 0 3) J<|O (.ref 1 6 0 3) J<|O (q0 b.Hi.X) J<|q1y (r:=min a.Hi.X b.Hi.X) J J (by simp only [q1w];rfl)<|O (.ref 0 6 0 0) J<|O (.ref 0 6 0 0) J<|O (q0 a.Lo.X) J<|O (.ref 1 6 0 0) J<|O (.ref 1 6 0 0) J<|O (q0 b.Lo.X) J<|q1x (r:=max a.Lo.X b.Lo.X) J J (by simp only [q1v];rfl)<|O (.d (G (w64 ((min a.Hi.X b.Hi.X) - (max a.Lo.X b.Lo.X))))) J<|q9 J<|qm<|O (.ref 0 6 0 3) J<|O (.ref 0 6 0 4) J<|O (q0 a.Hi.Y) J<|O (.ref 1 6 0 3) J<|O (.ref 1 6 0 4) J<|O (q0 b.Hi.Y) J<|q1y (r:=min a.Hi.Y b.Hi.Y) J J (by simp only [q1w];rfl)<|O (.ref 0 6 0 0) J<|O (.ref 0 6 0 1) J<|O (q0 a.Lo.Y) J<|O (.ref 1 6 0 0) J<|O (.ref 1 6 0 1) J<|O (q0 b.Lo.Y) J<|q1x (r:=max a.Lo.Y b.Lo.Y) J J (by simp only [q1v];rfl)<|O (.d (G (w64 ((min a.Hi.Y b.Hi.Y) - (max a.Lo.Y b.Lo.Y))))) J<|q9 J<|qm ?_
 refine O (.ref 0 6 0 3) J<|O (.ref 0 6 0 5) J<|O (q0 a.Hi.Z) J<|O (.ref 1 6 0 3) J<|O (.ref 1 6 0 5) J<|O (q0 b.Hi.Z) J<|q1y (r:=min a.Hi.Z b.Hi.Z) J J (by simp only [q1w];rfl)<|O (.ref 0 6 0 0) J<|O (.ref 0 6 0 2) J<|O (q0 a.Lo.Z) J<|O (.ref 1 6 0 0) J<|O (.ref 1 6 0 2) J<|O (q0 b.Lo.Z) J<|q1x (r:=max a.Lo.Z b.Lo.Z) J J (by simp only [q1v];rfl)<|O (.d (G (w64 ((min a.Hi.Z b.Hi.Z) - (max a.Lo.Z b.Lo.Z))))) J<|q9 J<|q8<|qe<|qu<|qb<|U J<|O (.d (.bool ((w64 ((min a.Hi.X b.Hi.X) - (max a.Lo.X b.Lo.X))) == 0))) J ?_
 obtain ⟨af,f,c⟩:=q7 c
 refine qx 4 (fun A st=>∃ (m n o : V),st = A [(59,qd af),(58,o),(57,n),(56,m)]) ?_ ?_
 ·refine qw J J f (fun f=>?_) (fun f=>?_)
  ·refine U J<|O (.d (.bool (decide ((w64 ((min a.Hi.Y b.Hi.Y) - (max a.Lo.Y b.Lo.Y))) > 0)))) J<|O (.d (.bool (decide ((w64 ((min a.Hi.Y b.Hi.Y) - (max a.Lo.Y b.Lo.Y))) > 0)))) J<|q8 ?_
   obtain rfl:=qc f
   exact ⟨_,_,_,J⟩
  refine qa J<|qa J<|O (qd false) J<|q8 ?_
  obtain rfl:=qc f
  exact ⟨_,_,_,J⟩
 rintro _ ⟨m,n,o,rfl⟩
 obtain ⟨ag,g,c⟩:=q7 c
 refine qx 4 (fun A st=>∃ (p q s : V),st = A [(63,qd ag),(62,s),(61,q),(60,p)]) ?_ ?_
 ·refine qw J J g (fun g=>?_) (fun g=>?_)
  ·refine U J<|O (.d (.bool (decide ((w64 ((min a.Hi.Z b.Hi.Z) - (max a.Lo.Z b.Lo.Z))) > 0)))) J<|O (.d (.bool (decide ((w64 ((min a.Hi.Z b.Hi.Z) - (max a.Lo.Z b.Lo.Z))) > 0)))) J<|q8 ?_
   obtain rfl:=qc g
   exact ⟨_,_,_,J⟩
  refine qa J<|qa J<|O (qd false) J<|q8 ?_
  obtain rfl:=qc g
  exact ⟨_,_,_,J⟩
 rintro _ ⟨p,q,s,rfl⟩
 refine q9 J<|q8 ?_
 refine ql J c (fun _ c=>?_) (fun _ c=>?_)
 ·refine qb<|U J<|U J<|O (.d (G (w64 ((w64 ((min a.Hi.Y b.Hi.Y) - (max a.Lo.Y b.Lo.Y))) * (w64 ((min a.Hi.Z b.Hi.Z) - (max a.Lo.Z b.Lo.Z))))))) J<|q9 J<|qn ?_
  obtain rfl:=qc c
  exact qz (.d (G (w64 ((w64 ((min a.Hi.Y b.Hi.Y) - (max a.Lo.Y b.Lo.Y))) * (w64 ((min a.Hi.Z b.Hi.Z) - (max a.Lo.Z b.Lo.Z))))))) J
 refine qb<|U J<|O (.d (.bool (decide ((w64 ((min a.Hi.X b.Hi.X) - (max a.Lo.X b.Lo.X))) > 0)))) J ?_
 obtain ⟨ah,h,c⟩:=q7 c
 refine qx 4 (fun A st=>∃ (t u v : V),st = A [(73,qd ah),(72,v),(71,u),(70,t)]) ?_ ?_
 ·refine qw J J h (fun h=>?_) (fun h=>?_)
  ·refine U J<|O (.d (.bool ((w64 ((min a.Hi.Y b.Hi.Y) - (max a.Lo.Y b.Lo.Y))) == 0))) J<|O (.d (.bool ((w64 ((min a.Hi.Y b.Hi.Y) - (max a.Lo.Y b.Lo.Y))) == 0))) J<|q8 ?_
   obtain rfl:=qc h
   exact ⟨_,_,_,J⟩
  refine qa J<|qa J<|O (qd false) J<|q8 ?_
  obtain rfl:=qc h
  exact ⟨_,_,_,J⟩
 rintro _ ⟨t,u,v,rfl⟩
 obtain ⟨ai,j,c⟩:=q7 c
 refine qx 4 (fun A st=>∃ (w x y : V),st = A [(77,qd ai),(76,y),(75,x),(74,w)]) ?_ ?_
 ·refine qw J J j (fun j=>?_) (fun j=>?_)
  ·refine U J<|O (.d (.bool (decide ((w64 ((min a.Hi.Z b.Hi.Z) - (max a.Lo.Z b.Lo.Z))) > 0)))) J<|O (.d (.bool (decide ((w64 ((min a.Hi.Z b.Hi.Z) - (max a.Lo.Z b.Lo.Z))) > 0)))) J<|q8 ?_
   obtain rfl:=qc j
   exact ⟨_,_,_,J⟩
  refine qa J<|qa J<|O (qd false) J<|q8 ?_
  obtain rfl:=qc j
  exact ⟨_,_,_,J⟩
 rintro _ ⟨w,x,y,rfl⟩
 refine q9 J<|q8 ?_
 refine ql J c (fun _ c=>?_) (fun _ c=>?_)
 ·refine qb<|U J<|U J<|O (.d (G (w64 ((w64 ((min a.Hi.X b.Hi.X) - (max a.Lo.X b.Lo.X))) * (w64 ((min a.Hi.Z b.Hi.Z) - (max a.Lo.Z b.Lo.Z))))))) J<|q9 J<|qn ?_
  obtain rfl:=qc c
  exact qz (.d (G (w64 ((w64 ((min a.Hi.X b.Hi.X) - (max a.Lo.X b.Lo.X))) * (w64 ((min a.Hi.Z b.Hi.Z) - (max a.Lo.Z b.Lo.Z))))))) J
 refine qb<|U J<|O (.d (.bool (decide ((w64 ((min a.Hi.X b.Hi.X) - (max a.Lo.X b.Lo.X))) > 0)))) J ?_
 obtain ⟨aj,k,c⟩:=q7 c
 refine qx 4 (fun A st=>∃ (z aa ab : V),st = A [(87,qd aj),(86,ab),(85,aa),(84,z)]) ?_ ?_
 ·refine qw J J k (fun k=>?_) (fun k=>?_)
  ·refine U J<|O (.d (.bool (decide ((w64 ((min a.Hi.Y b.Hi.Y) - (max a.Lo.Y b.Lo.Y))) > 0)))) J<|O (.d (.bool (decide ((w64 ((min a.Hi.Y b.Hi.Y) - (max a.Lo.Y b.Lo.Y))) > 0)))) J<|q8 ?_
   obtain rfl:=qc k
   exact ⟨_,_,_,J⟩
  refine qa J<|qa J<|O (qd false) J<|q8 ?_
  obtain rfl:=qc k
  exact ⟨_,_,_,J⟩
 rintro _ ⟨z,aa,ab,rfl⟩
 obtain ⟨ak,l,c⟩:=q7 c
 refine qx 4 (fun A st=>∃ (ac ad ae : V),st = A [(91,qd ak),(90,ae),(89,ad),(88,ac)]) ?_ ?_
 ·refine qw J J l (fun l=>?_) (fun l=>?_)
  ·refine U J<|O (.d (.bool ((w64 ((min a.Hi.Z b.Hi.Z) - (max a.Lo.Z b.Lo.Z))) == 0))) J<|O (.d (.bool ((w64 ((min a.Hi.Z b.Hi.Z) - (max a.Lo.Z b.Lo.Z))) == 0))) J<|q8 ?_
   obtain rfl:=qc l
   exact ⟨_,_,_,J⟩
  refine qa J<|qa J<|O (qd false) J<|q8 ?_
  obtain rfl:=qc l
  exact ⟨_,_,_,J⟩
 rintro _ ⟨ac,ad,ae,rfl⟩
 refine q9 J<|q8 ?_
 refine ql J c (fun _ c=>?_) (fun _ c=>?_)
 ·refine qb<|U J<|U J<|O (.d (G (w64 ((w64 ((min a.Hi.X b.Hi.X) - (max a.Lo.X b.Lo.X))) * (w64 ((min a.Hi.Y b.Hi.Y) - (max a.Lo.Y b.Lo.Y))))))) J<|q9 J<|qn ?_
  obtain rfl:=qc c
  exact qz (.d (G (w64 ((w64 ((min a.Hi.X b.Hi.X) - (max a.Lo.X b.Lo.X))) * (w64 ((min a.Hi.Y b.Hi.Y) - (max a.Lo.Y b.Lo.Y))))))) J
 refine qj<|Q9<|Qa<|qb<|q9 J<|qn ?_
 obtain rfl:=qc c
 exact qz (q0 0) J
theorem qy5 (f : List qf) (r : Int × Int) (g : q9a f = some r) : Pure Tryz.prog tab 32 [.sl 6 (f.map qp)] (.tup [G r.1,G r.2]):=by
 unfold q9a at g
 refine Q8 Tryz.func32 J (by kernel_rfl) (by kernel_rfl) J<|qb<|q9 J<|q9 J<|q8<|qe<|qb<|U J ?_
 obtain ⟨q,u,g⟩:=q7 g
 refine qs (q2d f q u) J<|q9 J<|qm<|U J<|O (qd (q != 0)) J<|q8 ?_
 refine ql J g (fun _ g=>?_) (fun _ g=>?_)
 ·refine qb<|U J<|q9 J<|q9 J<|qn ?_
  obtain rfl:=qc g
  exact qz (.d (.tup [G 0,G q])) J
 refine qj<|qb<|q9 J<|q8<|qe<|qb<|U J<|Qc J<|U J<|q8 ?_
 obtain ⟨t,v,g⟩:=q7 g
 refine Qb (fun n=>n = t) (fun (n : Int)=>⟨[(5,q0 n)],[],0⟩) (by simp) ?_ ?_
 ·refine Q7 (q3w f) (fun (j : Int × Int)=>⟨[(0,.d (.sl 6 (f.map qp))),(5,q0 j.1),(18,.d (.sl 6 (f.map qp))),(19,q0 (f.length : Int)),(20,q0 j.2)],[],0⟩) (0,0) t v (wkA [] [] []) ?_
  intro j ae l
  unfold q3w at l
  refine qb<|O (.d (.bool (decide (j.2 < (f.length : Int))))) J<|q8<|qe ?_
  refine ql J l (fun _ l=>?_) (fun _ l=>?_)
  ·refine qj<|qe ?_
   obtain ⟨w,k,l⟩:=q7 l
   refine Qb (fun o=>o = w) (fun (o : Int)=>⟨[(0,.d (.sl 6 (f.map qp))),(5,q0 o),(18,.d (.sl 6 (f.map qp))),(19,q0 (f.length : Int)),(20,q0 j.2)],[],0⟩) (by simp) ?_ ?_
   ·refine qb<|U J ?_
    obtain ⟨b,x,k⟩:=q7 k
    refine Q4 (enc:=qp) x J<|O (.d (.agg [G b.Lo.X,G b.Lo.Y,G b.Lo.Z,G b.Hi.X,G b.Hi.Y,G b.Hi.Z])) J<|Qo J J<|q9 J<|Q6 0 (.dat 6 [[G b.Lo.X,G b.Lo.Y,G b.Lo.Z,G b.Hi.X,G b.Hi.Y,G b.Hi.Z]]) J<|qm<|O (.d (.agg [G b.Lo.X,G b.Lo.Y,G b.Lo.Z,G b.Hi.X,G b.Hi.Y,G b.Hi.Z])) J ?_
    obtain ⟨a,y,k⟩:=q7 k
    refine qs (qlf b a y) J<|U J<|O (q0 a.1) J<|O (q0 a.2.1) J<|O (q0 a.2.2) J<|q9 J<|q9 J<|q9 J<|qm<|U J<|U J<|U J<|O (.d (G (w64 (a.1 * a.2.1)))) J<|U J<|U J<|O (.d (G (w64 (a.1 * a.2.2)))) J<|O (.d (G (w64 ((w64 (a.1 * a.2.1)) + (w64 (a.1 * a.2.2)))))) J<|U J<|U J<|O (.d (G (w64 (a.2.1 * a.2.2)))) J<|O (.d (G (w64 ((w64 ((w64 (a.1 * a.2.1)) + (w64 (a.1 * a.2.2)))) + (w64 (a.2.1 * a.2.2)))))) J<|O (.d (G (w64 (2 * (w64 ((w64 ((w64 (a.1 * a.2.1)) + (w64 (a.1 * a.2.2)))) + (w64 (a.2.1 * a.2.2)))))))) J<|O (.d (G (w64 (j.1 + (w64 (2 * (w64 ((w64 ((w64 (a.1 * a.2.1)) + (w64 (a.1 * a.2.2)))) + (w64 (a.2.1 * a.2.2)))))))))) J<|q9 J<|qm<|U J<|U J ?_
    obtain ⟨p,z,k⟩:=q7 k
    refine qr7 (enc:=qp) z J J J J J (fun _=>rfl) (q4b J)<|Qc J<|U J<|q8 ?_
    obtain ⟨aa,ab,k⟩:=q7 k
    refine qu<|Q7 (q3x p b) (fun (m : Int × Int)=>⟨[(0,.d (.sl 6 (f.map qp))),(5,q0 m.1),(7,.ref 0 6 0 0),(18,.d (.sl 6 (f.map qp))),(19,q0 (f.length : Int)),(20,q0 j.2),(47,.d (.sl 6 (p.map qp))),(48,q0 (p.length : Int)),(49,q0 m.2)],[(0,.dat 6 [[G b.Lo.X,G b.Lo.Y,G b.Lo.Z,G b.Hi.X,G b.Hi.Y,G b.Hi.Z]])],1⟩) (w64 (j.1 + (w64 (2 * (w64 ((w64 ((w64 (a.1 * a.2.1)) + (w64 (a.1 * a.2.2)))) + (w64 (a.2.1 * a.2.2))))))),0) aa ab (wkA [(0,0)] [] []) ?_
    intro m af h
    unfold q3x at h
    refine qb<|O (.d (.bool (decide (m.2 < (p.length : Int))))) J<|q8<|qe ?_
    refine ql J h (fun _ h=>?_) (fun _ h=>?_)
    ·refine qj<|qe<|qu<|qb ?_
     obtain ⟨c,ac,h⟩:=q7 h
     refine Q4 (enc:=qp) ac J<|O (.d (.agg [G c.Lo.X,G c.Lo.Y,G c.Lo.Z,G c.Hi.X,G c.Hi.Y,G c.Hi.Z])) J<|Qo J J<|Q6 1 (.dat 6 [[G c.Lo.X,G c.Lo.Y,G c.Lo.Z,G c.Hi.X,G c.Hi.Y,G c.Hi.Z]]) J<|q8<|qt<|U J<|O (.d (.agg [G b.Lo.X,G b.Lo.Y,G b.Lo.Z,G b.Hi.X,G b.Hi.Y,G b.Hi.Z])) J<|O (.d (.agg [G c.Lo.X,G c.Lo.Y,G c.Lo.Z,G c.Hi.X,G c.Hi.Y,G c.Hi.Z])) J ?_
     obtain ⟨s,ad,h⟩:=q7 h
     refine qs (qy7 b c s ad) J<|O (.d (G (w64 (2 * s)))) J<|O (.d (G (w64 (m.1 - (w64 (2 * s)))))) J<|q9 J<|qr<|Qa<|qt<|O (.d (G (w64 (m.2 + 1)))) J<|U J<|qr ?_
     exact ⟨_,(Option.some.inj h).symm,wkA [(0,0)] [] []⟩
    refine Q2 ?_
    refine ⟨_,(Option.some.inj h).symm,fun hm=>?_⟩
    subst hm
    obtain rfl:=qc k
    exact ⟨_,J,wkA [] [] []⟩
   intro o hb
   subst hb
   refine qt<|O (.d (G (w64 (j.2 + 1)))) J<|U J<|qr ?_
   exact ⟨_,(Option.some.inj l).symm,wkA [] [] []⟩
  refine Q2 ?_
  refine ⟨_,(Option.some.inj l).symm,fun hm=>?_⟩
  subst hm
  exact ⟨_,J,wkA [] [] []⟩
 intro n hb
 subst hb
 refine qb<|U J<|q9 J<|q9 J<|qn ?_
 obtain rfl:=qc g
 exact qz (.d (.tup [G n,G 0])) J
theorem qdf (a : qy) (f : Int) (r : Bool) (c : q2s a f = some r) : Pure Tryz.prog tab 98 [.agg [G a.X,G a.Y,G a.Z],G f] (.bool r):=by
 unfold q2s at c
 refine Q8 Tryz.func98 J (by kernel_rfl) (by kernel_rfl) J<|qb<|Qg (.ref 0 3 0 0) (.dat 3 [[G a.X,G a.Y,G a.Z]]) J<|q9 J<|qm<|O (.ref 0 3 0 0) J<|O (q0 a.X) J<|O (.ref 0 3 0 1) J<|O (q0 a.Y) J<|O (.ref 0 3 0 2) J<|O (q0 a.Z) J<|q1y (r:=min (min a.X a.Y) a.Z) J J (by simp only [q1w];rfl)<|U J<|O (.d (.bool (decide ((min (min a.X a.Y) a.Z) ≥ f)))) J ?_
 obtain ⟨g,b,c⟩:=q7 c
 refine qx 10 (fun A st=>∃ (h j k l m n o p q : V),st = A [(23,qd g),(22,q),(21,p),(20,o),(19,n),(18,m),(17,l),(16,k),(15,j),(14,h)]) ?_ ?_
 ·refine qw J J b (fun b=>?_) (fun b=>?_)
  ·refine O (.ref 0 3 0 0) J<|O (q0 a.X) J<|O (.ref 0 3 0 1) J<|O (q0 a.Y) J<|O (.ref 0 3 0 2) J<|O (q0 a.Z) J<|q1x (r:=max (max a.X a.Y) a.Z) J J (by simp only [q1v];rfl)<|O (.d (.bool (decide ((max (max a.X a.Y) a.Z)≤1000000)))) J<|O (.d (.bool (decide ((max (max a.X a.Y) a.Z)≤1000000)))) J<|q8 ?_
   obtain rfl:=qc b
   exact ⟨_,_,_,_,_,_,_,_,_,J⟩
  refine qa J<|qa J<|qa J<|qa J<|qa J<|qa J<|qa J<|qa J<|O (qd false) J<|q8 ?_
  obtain rfl:=qc b
  exact ⟨_,_,_,_,_,_,_,_,_,J⟩
 rintro _ ⟨h,j,k,l,m,n,o,p,q,rfl⟩
 refine q9 J<|qn ?_
 obtain rfl:=qc c
 exact qz (qd g) J
theorem qhq (a : Y5) (r : Int) (b : q4i a = some r) : Pure Tryz.prog tab 71 [.agg [.int .u8 a.Turn,G a.At.X,G a.At.Y,G a.At.Z]] (G r):=by
 unfold q4i at b
 refine Q8 Tryz.func71 J (by kernel_rfl) (by kernel_rfl) J<|qb<|Qg (.ref 0 4 0 0) (.dat 4 [[.int .u8 a.Turn,G a.At.X,G a.At.Y,G a.At.Z]]) J<|q9 J<|q8<|qe<|qb<|O (.ref 0 4 0 0) J<|O (.d (.int .u8 a.Turn)) J<|O (.d (.bool (decide (a.Turn ≥ 24)))) J ?_
 obtain ⟨m,c,b⟩:=q7 b
 refine qx 6 (fun A st=>∃ (g h j k l : V),st = A [(11,qd m),(10,l),(9,k),(8,j),(7,h),(6,g)]) ?_ ?_
 ·refine qw J J c (fun c=>?_) (fun c=>?_)
  ·refine qa J<|qa J<|qa J<|qa J<|O (qd true) J<|q8 ?_
   obtain rfl:=qc c
   exact ⟨_,_,_,_,_,J⟩
  refine O (.ref 0 4 0 1) J<|O (.d (.agg [G a.At.X,G a.At.Y,G a.At.Z])) J ?_
  obtain ⟨f,n,c⟩:=q7 c
  refine qs (qdf a.At (-1000000) f n) J<|O (qd (!f)) J<|O (qd (!f)) J<|q8 ?_
  obtain rfl:=qc c
  exact ⟨_,_,_,_,_,J⟩
 rintro _ ⟨g,h,j,k,l,rfl⟩
 refine q8 ?_
 refine ql J b (fun _ b=>?_) (fun _ b=>?_)
 ·refine qb<|q9 J<|qn ?_
  obtain rfl:=qc b
  exact qz (q0 8) J
 refine qj<|qb<|q9 J<|qn ?_
 obtain rfl:=qc b
 exact qz (q0 0) J
theorem qhr (a : Int) (r : qy) (b : qag a = some r) : Pure Tryz.prog tab 124 [.int .u8 a] (.agg [G r.X,G r.Y,G r.Z]):=by
 unfold qag at b
 refine Q8 Tryz.func124 J (by kernel_rfl) (by kernel_rfl) J<|qb<|Qo J J<|qm<|U J<|O (.d (.int .u8 (Int.tmod a 2))) J<|O (.d (G (w64 (Int.tmod a 2)))) J<|O (.d (G (w64 (2 * (w64 (Int.tmod a 2)))))) J<|O (.d (G (w64 (1 - (w64 (2 * (w64 (Int.tmod a 2)))))))) J<|q9 J<|q8<|qe<|qb<|U J<|O (.d (.int .u8 (IntKind.wrap .u8 (Int.tdiv a 2)))) J<|q8<|qu<|qb<|O (.d (.bool ((IntKind.wrap .u8 (Int.tdiv a 2)) == 0))) J<|q9 J<|q8 ?_
 refine ql J b (fun _ b=>?_) (fun _ b=>?_)
 ·refine qb<|U J<|O (.d (.agg [G (w64 (1 - (w64 (2 * (w64 (Int.tmod a 2)))))),G 0,G 0])) J<|Q6 0 (.dat 3 [[G (w64 (1 - (w64 (2 * (w64 (Int.tmod a 2)))))),G 0,G 0]]) J<|qn ?_
  obtain rfl:=qc b
  exact qz (.d (.agg [G (w64 (1 - (w64 (2 * (w64 (Int.tmod a 2)))))),G 0,G 0])) J
 refine qb<|O (.d (.bool ((IntKind.wrap .u8 (Int.tdiv a 2)) == 1))) J<|q9 J<|q8 ?_
 refine ql J b (fun _ b=>?_) (fun _ b=>?_)
 ·refine qb<|U J<|O (.d (.agg [G 0,G (w64 (1 - (w64 (2 * (w64 (Int.tmod a 2)))))),G 0])) J<|Q6 0 (.dat 3 [[G 0,G (w64 (1 - (w64 (2 * (w64 (Int.tmod a 2)))))),G 0]]) J<|qn ?_
  obtain rfl:=qc b
  exact qz (.d (.agg [G 0,G (w64 (1 - (w64 (2 * (w64 (Int.tmod a 2)))))),G 0])) J
 refine qj<|Q9<|Qa<|qb<|U J<|O (.d (.agg [G 0,G 0,G (w64 (1 - (w64 (2 * (w64 (Int.tmod a 2))))))])) J<|Q6 0 (.dat 3 [[G 0,G 0,G (w64 (1 - (w64 (2 * (w64 (Int.tmod a 2))))))]]) J<|qn ?_
 obtain rfl:=qc b
 exact qz (.d (.agg [G 0,G 0,G (w64 (1 - (w64 (2 * (w64 (Int.tmod a 2))))))])) J
theorem qpd (a : qy) (b : qy) (r : qy) (c : qde a b = some r) : Pure Tryz.prog tab 125 [.agg [G a.X,G a.Y,G a.Z],.agg [G b.X,G b.Y,G b.Z]] (.agg [G r.X,G r.Y,G r.Z]):=by
 unfold qde at c
 refine Q8 Tryz.func125 J (by kernel_rfl) (by kernel_rfl) J<|qb<|Qg (.ref 0 3 0 0) (.dat 3 [[G a.X,G a.Y,G a.Z]]) J<|Qg (.ref 1 3 0 0) (.dat 3 [[G b.X,G b.Y,G b.Z]]) J<|Qo J J<|qm<|O (.ref 0 3 0 1) J<|O (q0 a.Y) J<|O (.ref 1 3 0 2) J<|O (q0 b.Z) J<|O (.d (G (w64 (a.Y * b.Z)))) J<|O (.ref 0 3 0 2) J<|O (q0 a.Z) J<|O (.ref 1 3 0 1) J<|O (q0 b.Y) J<|O (.d (G (w64 (a.Z * b.Y)))) J<|O (.d (G (w64 ((w64 (a.Y * b.Z)) - (w64 (a.Z * b.Y)))))) J<|O (.ref 0 3 0 2) J<|O (q0 a.Z) J<|O (.ref 1 3 0 0) J<|O (q0 b.X) J<|O (.d (G (w64 (a.Z * b.X)))) J<|O (.ref 0 3 0 0) J<|O (q0 a.X) J<|O (.ref 1 3 0 2) J<|O (q0 b.Z) J<|O (.d (G (w64 (a.X * b.Z)))) J<|O (.d (G (w64 ((w64 (a.Z * b.X)) - (w64 (a.X * b.Z)))))) J<|O (.ref 0 3 0 0) J<|O (q0 a.X) J<|O (.ref 1 3 0 1) J<|O (q0 b.Y) J<|O (.d (G (w64 (a.X * b.Y)))) J<|O (.ref 0 3 0 1) J<|O (q0 a.Y) J<|O (.ref 1 3 0 0) J<|O (q0 b.X) J<|O (.d (G (w64 (a.Y * b.X)))) J<|O (.d (G (w64 ((w64 (a.X * b.Y)) - (w64 (a.Y * b.X)))))) J<|O (.d (.agg [G (w64 ((w64 (a.Y * b.Z)) - (w64 (a.Z * b.Y)))),G (w64 ((w64 (a.Z * b.X)) - (w64 (a.X * b.Z)))),G (w64 ((w64 (a.X * b.Y)) - (w64 (a.Y * b.X))))])) J ?_
 refine Q6 2 (.dat 3 [[G (w64 ((w64 (a.Y * b.Z)) - (w64 (a.Z * b.Y)))),G (w64 ((w64 (a.Z * b.X)) - (w64 (a.X * b.Z)))),G (w64 ((w64 (a.X * b.Y)) - (w64 (a.Y * b.X))))]]) J<|qn ?_
 obtain rfl:=qc c
 exact qz (.d (.agg [G (w64 ((w64 (a.Y * b.Z)) - (w64 (a.Z * b.Y)))),G (w64 ((w64 (a.Z * b.X)) - (w64 (a.X * b.Z)))),G (w64 ((w64 (a.X * b.Y)) - (w64 (a.Y * b.X))))])) J
theorem qpc (c : Int) (r : (qy × qy × qy)) (f : q7k c = some r) : Pure Tryz.prog tab 99 [.int .u8 c] (.agg [G r.1.X,G r.1.Y,G r.1.Z,G r.2.1.X,G r.2.1.Y,G r.2.1.Z,G r.2.2.X,G r.2.2.Y,G r.2.2.Z]):=by
 unfold q7k at f
 refine Q8 Tryz.func99 J (by kernel_rfl) (by kernel_rfl) J<|qb<|Qo J J<|qm<|U J<|O (.d (.int .u8 (IntKind.wrap .u8 (Int.tdiv c 4)))) J<|q9 J<|qm<|U J<|O (.d (.int .u8 (Int.tmod c 4))) J<|q9 J<|q8<|qe<|qb<|U J<|U J<|O (.d (.int .u8 (IntKind.wrap .u8 (Int.tdiv (IntKind.wrap .u8 (Int.tdiv c 4)) 2)))) J<|O (.d (.int .u8 (IntKind.wrap .u8 ((IntKind.wrap .u8 (Int.tdiv (IntKind.wrap .u8 (Int.tdiv c 4)) 2)) * 2)))) J<|O (.d (.bool (decide ((Int.tmod c 4) ≥ (IntKind.wrap .u8 ((IntKind.wrap .u8 (Int.tdiv (IntKind.wrap .u8 (Int.tdiv c 4)) 2)) * 2)))))) J<|q8 ?_
 obtain ⟨k,h,f⟩:=q7 f
 refine Y7 (fun j=>j = k) (fun (j : Int)=>⟨[(2,.ref 0 9 0 0),(3,.d (.int .u8 (IntKind.wrap .u8 (Int.tdiv c 4)))),(4,.d (.int .u8 j))],[(0,.dat 9 [[G 0,G 0,G 0,G 0,G 0,G 0,G 0,G 0,G 0]])],1⟩) (by simp) ?_ ?_
 ·refine ql J h (fun _ h=>?_) (fun _ h=>?_)
  ·refine qt<|U J<|O (.d (.int .u8 (IntKind.wrap .u8 ((Int.tmod c 4) + 2)))) J<|q9 J<|qr ?_
   obtain rfl:=qc h
   exact ⟨_,J,wkA [(0,0)] [] []⟩
  refine qj<|Q9 ?_
  obtain rfl:=qc h
  exact ⟨_,J,wkA [(0,0)] [] []⟩
 intro j hb
 subst hb
 refine qb<|U J ?_
 obtain ⟨a,l,f⟩:=q7 f
 refine qs (qhr (IntKind.wrap .u8 (Int.tdiv c 4)) a l) J<|U J ?_
 obtain ⟨b,m,f⟩:=q7 f
 refine qs (qhr j b m) J<|Qo J J<|Qo J J<|Q6 1 (.dat 3 [[G a.X,G a.Y,G a.Z]]) J<|Q6 2 (.dat 3 [[G b.X,G b.Y,G b.Z]]) J<|q8<|qe<|Q5 [Qe 0,q6,q6,qo 2,qo 1,qo 2,qo 1] (by kernel_rfl)<|O (.d (.agg [G a.X,G a.Y,G a.Z])) J<|O (.d (.agg [G b.X,G b.Y,G b.Z])) J<|O (.d (.agg [G a.X,G a.Y,G a.Z])) J<|O (.d (.agg [G b.X,G b.Y,G b.Z])) J ?_
 obtain ⟨g,n,f⟩:=q7 f
 refine qs (qpd a b g n) J<|O (.d (.agg [G a.X,G a.Y,G a.Z,G b.X,G b.Y,G b.Z,G g.X,G g.Y,G g.Z])) J<|Q6 0 (.dat 9 [[G a.X,G a.Y,G a.Z,G b.X,G b.Y,G b.Z,G g.X,G g.Y,G g.Z]]) J<|qn ?_
 obtain rfl:=qc f
 exact qz (.d (.agg [G a.X,G a.Y,G a.Z,G b.X,G b.Y,G b.Z,G g.X,G g.Y,G g.Z])) J
theorem qph (a : qy × qy × qy) (b : qy) (r : qy) (c : q7m a b = some r) : Pure Tryz.prog tab 100 [.agg [G a.1.X,G a.1.Y,G a.1.Z,G a.2.1.X,G a.2.1.Y,G a.2.1.Z,G a.2.2.X,G a.2.2.Y,G a.2.2.Z],.agg [G b.X,G b.Y,G b.Z]] (.agg [G r.X,G r.Y,G r.Z]):=by
 unfold q7m at c
 refine Q8 Tryz.func100 J (by kernel_rfl) (by kernel_rfl) J<|qb<|Qg (.ref 0 9 0 0) (.dat 9 [[G a.1.X,G a.1.Y,G a.1.Z,G a.2.1.X,G a.2.1.Y,G a.2.1.Z,G a.2.2.X,G a.2.2.Y,G a.2.2.Z]]) J<|Qg (.ref 1 3 0 0) (.dat 3 [[G b.X,G b.Y,G b.Z]]) J<|Qo J J<|qm<|O (.ref 1 3 0 0) J<|O (q0 b.X) J<|O (.ref 0 9 0 0) J<|O (.ref 0 9 0 0) J<|O (q0 a.1.X) J<|O (.d (G (w64 (b.X * a.1.X)))) J<|O (.ref 1 3 0 1) J<|O (q0 b.Y) J<|O (.ref 0 9 0 3) J<|O (.ref 0 9 0 3) J<|O (q0 a.2.1.X) J<|O (.d (G (w64 (b.Y * a.2.1.X)))) J<|O (.d (G (w64 ((w64 (b.X * a.1.X)) + (w64 (b.Y * a.2.1.X)))))) J<|O (.ref 1 3 0 2) J<|O (q0 b.Z) J<|O (.ref 0 9 0 6) J<|O (.ref 0 9 0 6) J<|O (q0 a.2.2.X) J<|O (.d (G (w64 (b.Z * a.2.2.X)))) J<|O (.d (G (w64 ((w64 ((w64 (b.X * a.1.X)) + (w64 (b.Y * a.2.1.X)))) + (w64 (b.Z * a.2.2.X)))))) J<|O (.ref 1 3 0 0) J<|O (q0 b.X) J<|O (.ref 0 9 0 0) J<|O (.ref 0 9 0 1) J<|O (q0 a.1.Y) J<|O (.d (G (w64 (b.X * a.1.Y)))) J<|O (.ref 1 3 0 1) J<|O (q0 b.Y) J<|O (.ref 0 9 0 3) J<|O (.ref 0 9 0 4) J<|O (q0 a.2.1.Y) J<|O (.d (G (w64 (b.Y * a.2.1.Y)))) J<|O (.d (G (w64 ((w64 (b.X * a.1.Y)) + (w64 (b.Y * a.2.1.Y)))))) J<|O (.ref 1 3 0 2) J ?_
 refine O (q0 b.Z) J<|O (.ref 0 9 0 6) J<|O (.ref 0 9 0 7) J<|O (q0 a.2.2.Y) J<|O (.d (G (w64 (b.Z * a.2.2.Y)))) J<|O (.d (G (w64 ((w64 ((w64 (b.X * a.1.Y)) + (w64 (b.Y * a.2.1.Y)))) + (w64 (b.Z * a.2.2.Y)))))) J<|O (.ref 1 3 0 0) J<|O (q0 b.X) J<|O (.ref 0 9 0 0) J<|O (.ref 0 9 0 2) J<|O (q0 a.1.Z) J<|O (.d (G (w64 (b.X * a.1.Z)))) J<|O (.ref 1 3 0 1) J<|O (q0 b.Y) J<|O (.ref 0 9 0 3) J<|O (.ref 0 9 0 5) J<|O (q0 a.2.1.Z) J<|O (.d (G (w64 (b.Y * a.2.1.Z)))) J<|O (.d (G (w64 ((w64 (b.X * a.1.Z)) + (w64 (b.Y * a.2.1.Z)))))) J<|O (.ref 1 3 0 2) J<|O (q0 b.Z) J<|O (.ref 0 9 0 6) J<|O (.ref 0 9 0 8) J<|O (q0 a.2.2.Z) J<|O (.d (G (w64 (b.Z * a.2.2.Z)))) J<|O (.d (G (w64 ((w64 ((w64 (b.X * a.1.Z)) + (w64 (b.Y * a.2.1.Z)))) + (w64 (b.Z * a.2.2.Z)))))) J<|O (.d (.agg [G (w64 ((w64 ((w64 (b.X * a.1.X)) + (w64 (b.Y * a.2.1.X)))) + (w64 (b.Z * a.2.2.X)))),G (w64 ((w64 ((w64 (b.X * a.1.Y)) + (w64 (b.Y * a.2.1.Y)))) + (w64 (b.Z * a.2.2.Y)))),G (w64 ((w64 ((w64 (b.X * a.1.Z)) + (w64 (b.Y * a.2.1.Z)))) + (w64 (b.Z * a.2.2.Z))))])) J<|Q6 2 (.dat 3 [[G (w64 ((w64 ((w64 (b.X * a.1.X)) + (w64 (b.Y * a.2.1.X)))) + (w64 (b.Z * a.2.2.X)))),G (w64 ((w64 ((w64 (b.X * a.1.Y)) + (w64 (b.Y * a.2.1.Y)))) + (w64 (b.Z * a.2.2.Y)))),G (w64 ((w64 ((w64 (b.X * a.1.Z)) + (w64 (b.Y * a.2.1.Z)))) + (w64 (b.Z * a.2.2.Z))))]]) J<|qn ?_
 obtain rfl:=qc c
 exact qz (.d (.agg [G (w64 ((w64 ((w64 (b.X * a.1.X)) + (w64 (b.Y * a.2.1.X)))) + (w64 (b.Z * a.2.2.X)))),G (w64 ((w64 ((w64 (b.X * a.1.Y)) + (w64 (b.Y * a.2.1.Y)))) + (w64 (b.Z * a.2.2.Y)))),G (w64 ((w64 ((w64 (b.X * a.1.Z)) + (w64 (b.Y * a.2.1.Z)))) + (w64 (b.Z * a.2.2.Z))))])) J
theorem qpf (a : Y5) (c : qy) (r : qy) (f : q7l a c = some r) : Pure Tryz.prog tab 76 [.agg [.int .u8 a.Turn,G a.At.X,G a.At.Y,G a.At.Z],.agg [G c.X,G c.Y,G c.Z]] (.agg [G r.X,G r.Y,G r.Z]):=by
 unfold q7l at f
 refine Q8 Tryz.func76 J (by kernel_rfl) (by kernel_rfl) J<|qb<|Qg (.ref 0 4 0 0) (.dat 4 [[.int .u8 a.Turn,G a.At.X,G a.At.Y,G a.At.Z]]) J<|Qg (.ref 1 3 0 0) (.dat 3 [[G c.X,G c.Y,G c.Z]]) J<|Qo J J<|q8<|qe<|Q5 [Qe 1,q6,qo 1,q6,qo 0,q6] (by kernel_rfl)<|O (.ref 0 4 0 0) J<|O (.d (.int .u8 a.Turn)) J ?_
 obtain ⟨g,h,f⟩:=q7 f
 refine qs (qpc a.Turn g h) J<|O (.d (.agg [G c.X,G c.Y,G c.Z])) J ?_
 obtain ⟨b,j,f⟩:=q7 f
 refine qs (qph g c b j) J<|Q6 1 (.dat 3 [[G b.X,G b.Y,G b.Z]]) J<|qm<|O (.ref 1 3 0 0) J<|O (q0 b.X) J<|O (.ref 0 4 0 1) J<|O (.ref 0 4 0 1) J<|O (q0 a.At.X) J<|O (.d (G (w64 (b.X + a.At.X)))) J<|O (.ref 1 3 0 1) J<|O (q0 b.Y) J<|O (.ref 0 4 0 1) J<|O (.ref 0 4 0 2) J<|O (q0 a.At.Y) J<|O (.d (G (w64 (b.Y + a.At.Y)))) J<|O (.ref 1 3 0 2) J<|O (q0 b.Z) J<|O (.ref 0 4 0 1) J<|O (.ref 0 4 0 3) J<|O (q0 a.At.Z) J<|O (.d (G (w64 (b.Z + a.At.Z)))) J<|O (.d (.agg [G (w64 (b.X + a.At.X)),G (w64 (b.Y + a.At.Y)),G (w64 (b.Z + a.At.Z))])) J<|Q6 2 (.dat 3 [[G (w64 (b.X + a.At.X)),G (w64 (b.Y + a.At.Y)),G (w64 (b.Z + a.At.Z))]]) J<|qn ?_
 obtain rfl:=qc f
 exact qz (.d (.agg [G (w64 (b.X + a.At.X)),G (w64 (b.Y + a.At.Y)),G (w64 (b.Z + a.At.Z))])) J
theorem qho (b : Y5) (f : qy) (r : qy × Int) (a : q4h b f = some r) : Pure Tryz.prog tab 72 [.agg [.int .u8 b.Turn,G b.At.X,G b.At.Y,G b.At.Z],.agg [G f.X,G f.Y,G f.Z]] (.tup [.agg [G r.1.X,G r.1.Y,G r.1.Z],G r.2]):=by
 unfold q4h at a
 refine Q8 Tryz.func72 J (by kernel_rfl) (by kernel_rfl) J<|qb<|Qg (.ref 0 4 0 0) (.dat 4 [[.int .u8 b.Turn,G b.At.X,G b.At.Y,G b.At.Z]]) J<|Qg (.ref 1 3 0 0) (.dat 3 [[G f.X,G f.Y,G f.Z]]) J<|Qo J J<|q9 J<|q8<|qe<|qb<|O (.d (.agg [.int .u8 b.Turn,G b.At.X,G b.At.Y,G b.At.Z])) J ?_
 obtain ⟨g,k,a⟩:=q7 a
 refine qs (qhq b g k) J<|q9 J<|qm<|U J<|O (qd (g != 0)) J<|q8 ?_
 refine ql J a (fun _ a=>?_) (fun _ a=>?_)
 ·refine qb<|O (.d (.agg [G 0,G 0,G 0])) J<|U J<|Q6 2 (.dat 3 [[G 0,G 0,G 0]]) J<|q9 J<|qn ?_
  obtain rfl:=qc a
  exact qz (.d (.tup [.agg [G 0,G 0,G 0],G g])) J
 refine qj<|qe<|qb<|O (.d (.agg [G f.X,G f.Y,G f.Z])) J ?_
 obtain ⟨h,l,a⟩:=q7 a
 refine qs (qdf f (-1000000) h l) J<|O (qd (!h)) J<|q8 ?_
 refine ql J a (fun _ a=>?_) (fun _ a=>?_)
 ·refine qb<|O (.d (.agg [G 0,G 0,G 0])) J<|Q6 2 (.dat 3 [[G 0,G 0,G 0]]) J<|q9 J<|qn ?_
  obtain rfl:=qc a
  exact qz (.d (.tup [.agg [G 0,G 0,G 0],G 2])) J
 refine qj<|qb<|O (.d (.agg [.int .u8 b.Turn,G b.At.X,G b.At.Y,G b.At.Z])) J<|O (.d (.agg [G f.X,G f.Y,G f.Z])) J ?_
 obtain ⟨c,m,a⟩:=q7 a
 refine qs (qpf b f c m) J<|Q6 1 (.dat 3 [[G c.X,G c.Y,G c.Z]]) J<|q8<|qe<|qb<|O (.d (.agg [G c.X,G c.Y,G c.Z])) J ?_
 obtain ⟨j,n,a⟩:=q7 a
 refine qs (qdf c (-1000000) j n) J<|O (qd (!j)) J<|q8 ?_
 refine ql J a (fun _ a=>?_) (fun _ a=>?_)
 ·refine qb<|O (.d (.agg [G 0,G 0,G 0])) J<|Q6 2 (.dat 3 [[G 0,G 0,G 0]]) J<|q9 J<|qn ?_
  obtain rfl:=qc a
  exact qz (.d (.tup [.agg [G 0,G 0,G 0],G 16])) J
 refine qj<|qb<|O (.d (.agg [G c.X,G c.Y,G c.Z])) J<|Q6 2 (.dat 3 [[G c.X,G c.Y,G c.Z]]) J<|q9 J<|qn ?_
 obtain rfl:=qc a
 exact qz (.d (.tup [.agg [G c.X,G c.Y,G c.Z],G 0])) J
theorem qy3 (j : List qf) (c : Y5) (r : List qf × Int) (h : q99 j c = some r) : Pure Tryz.prog tab 34 [.sl 6 (j.map qp),.agg [.int .u8 c.Turn,G c.At.X,G c.At.Y,G c.At.Z]] (.tup [.sl 6 (r.1.map qp),G r.2]):=by
 unfold q99 at h
 refine Q8 Tryz.func34 J (by kernel_rfl) (by kernel_rfl) J<|qb<|Qg (.ref 0 4 0 0) (.dat 4 [[.int .u8 c.Turn,G c.At.X,G c.At.Y,G c.At.Z]]) J<|q9 J<|q9 J<|q8<|qe<|qb<|U J ?_
 obtain ⟨o,w,h⟩:=q7 h
 refine qs (q2d j o w) J<|q9 J<|qm<|U J<|O (qd (o != 0)) J<|q8 ?_
 refine ql J h (fun _ h=>?_) (fun _ h=>?_)
 ·refine qb<|U J<|q9 J<|q9 J<|qn ?_
  obtain rfl:=qc h
  exact finD (.inr J) (v:=.d (.tup [.nilsl,G o])) J J (Kr (.cons (.nil _) (.cons (.refl _) .nil)))
 refine qj<|qe<|qb<|O (.d (.agg [.int .u8 c.Turn,G c.At.X,G c.At.Y,G c.At.Z])) J ?_
 obtain ⟨p,x,h⟩:=q7 h
 refine qs (qhq c p x) J<|q9 J<|qm<|U J<|O (qd (p != 0)) J<|q8 ?_
 refine ql J h (fun _ h=>?_) (fun _ h=>?_)
 ·refine qb<|U J<|q9 J<|q9 J<|qn ?_
  obtain rfl:=qc h
  exact finD (.inr J) (v:=.d (.tup [.nilsl,G p])) J J (Kr (.cons (.nil _) (.cons (.refl _) .nil)))
 refine qj<|qb<|q9 J<|q8<|qe<|qb<|U J<|Qc J<|U J<|q8 ?_
 obtain ⟨q,y,h⟩:=q7 h
 refine Qb (fun k=>.inl k = q) (fun (k : List qf)=>⟨[(8,.hs 0 6 0 k.length)],[(0,.dat 6 (k.map qp))],1⟩) (by simp) ?_ ?_
 ·refine Q7 (q3v j c) (fun (l : Int × List qf)=>⟨[(3,.ref 0 4 0 0),(8,.hs 1 6 0 l.2.length),(25,.d (.sl 6 (j.map qp))),(26,q0 (j.length : Int)),(27,q0 l.1)],[(0,.dat 4 [[.int .u8 c.Turn,G c.At.X,G c.At.Y,G c.At.Z]]),(1,.dat 6 (l.2.map qp))],2⟩) (0,[]) q y (wkA [(0,0)] [] [1]) ?_
  intro l af f
  unfold q3v at f
  refine qb<|O (.d (.bool (decide (l.1 < (j.length : Int))))) J<|q8<|qe ?_
  refine ql J f (fun _ f=>?_) (fun _ f=>?_)
  ·refine qj<|qe<|qu<|qb ?_
   obtain ⟨g,z,f⟩:=q7 f
   refine Q4 (enc:=qp) z J<|O (.d (.agg [G g.Lo.X,G g.Lo.Y,G g.Lo.Z,G g.Hi.X,G g.Hi.Y,G g.Hi.Z])) J<|Qo J J<|Q6 2 (.dat 6 [[G g.Lo.X,G g.Lo.Y,G g.Lo.Z,G g.Hi.X,G g.Hi.Y,G g.Hi.Z]]) J<|qm<|O (.d (.agg [.int .u8 c.Turn,G c.At.X,G c.At.Y,G c.At.Z])) J<|O (.ref 2 6 0 0) J<|O (.d (.agg [G g.Lo.X,G g.Lo.Y,G g.Lo.Z])) J ?_
   obtain ⟨b,aa,f⟩:=q7 f
   refine qs (qho c g.Lo b aa) J<|U J<|O (.d (.agg [G b.1.X,G b.1.Y,G b.1.Z])) J<|O (q0 b.2) J<|Qo J J<|Q6 3 (.dat 3 [[G b.1.X,G b.1.Y,G b.1.Z]]) J<|q9 J<|qm<|O (.d (.agg [.int .u8 c.Turn,G c.At.X,G c.At.Y,G c.At.Z])) J<|O (.ref 2 6 0 3) J<|O (.d (.agg [G g.Hi.X,G g.Hi.Y,G g.Hi.Z])) J ?_
   obtain ⟨a,ab,f⟩:=q7 f
   refine qs (qho c g.Hi a ab) J<|U J<|O (.d (.agg [G a.1.X,G a.1.Y,G a.1.Z])) J<|O (q0 a.2) J<|Qo J J<|Q6 4 (.dat 3 [[G a.1.X,G a.1.Y,G a.1.Z]]) J<|q9 J<|q8<|qe<|qb<|U J<|O (qd (b.2 != 0)) J ?_
   obtain ⟨ac,m,f⟩:=q7 f
   refine qx 4 (fun A st=>∃ (s t u : V),st = A [(50,qd ac),(49,u),(48,t),(47,s)]) ?_ ?_
   ·refine qw J J m (fun m=>?_) (fun m=>?_)
    ·refine qa J<|qa J<|O (qd true) J<|q8 ?_
     obtain rfl:=qc m
     exact ⟨_,_,_,J⟩
    refine U J<|O (qd (a.2 != 0)) J<|O (qd (a.2 != 0)) J<|q8 ?_
    obtain rfl:=qc m
    exact ⟨_,_,_,J⟩
   rintro _ ⟨s,t,u,rfl⟩
   refine q8 ?_
   refine ql J f (fun _ f=>?_) (fun _ f=>?_)
   ·refine qb<|q9 J<|q9 J<|qn ?_
    refine ⟨_,(Option.some.inj f).symm,fun hm=>?_⟩
    subst hm
    obtain rfl:=qc h
    exact finD (.inr J) (v:=.d (.tup [.nilsl,G 16])) J J (Kr (.cons (.nil _) (.cons (.refl _) .nil)))
   refine qj<|qt<|U J<|O (.ref 3 3 0 0) J<|O (q0 b.1.X) J<|O (.ref 4 3 0 0) J<|O (q0 a.1.X) J<|q1y (r:=min b.1.X a.1.X) J J (by simp only [q1w];rfl)<|O (.ref 3 3 0 1) J<|O (q0 b.1.Y) J<|O (.ref 4 3 0 1) J<|O (q0 a.1.Y) J<|q1y (r:=min b.1.Y a.1.Y) J J (by simp only [q1w];rfl)<|O (.ref 3 3 0 2) J<|O (q0 b.1.Z) J<|O (.ref 4 3 0 2) J<|O (q0 a.1.Z) J<|q1y (r:=min b.1.Z a.1.Z) J J (by simp only [q1w];rfl)<|O (.d (.agg [G (min b.1.X a.1.X),G (min b.1.Y a.1.Y),G (min b.1.Z a.1.Z)])) J<|O (.ref 3 3 0 0) J<|O (q0 b.1.X) J<|O (.ref 4 3 0 0) J<|O (q0 a.1.X) J<|q1x (r:=max b.1.X a.1.X) J J (by simp only [q1v];rfl)<|O (.ref 3 3 0 1) J<|O (q0 b.1.Y) J<|O (.ref 4 3 0 1) J<|O (q0 a.1.Y) J<|q1x (r:=max b.1.Y a.1.Y) J J (by simp only [q1v];rfl)<|O (.ref 3 3 0 2) J<|O (q0 b.1.Z) J<|O (.ref 4 3 0 2) J<|O (q0 a.1.Z) J<|q1x (r:=max b.1.Z a.1.Z) J J (by simp only [q1v];rfl)<|O (.d (.agg [G (max b.1.X a.1.X),G (max b.1.Y a.1.Y),G (max b.1.Z a.1.Z)])) J<|O (.d (.agg [G (min b.1.X a.1.X),G (min b.1.Y a.1.Y),G (min b.1.Z a.1.Z),G (max b.1.X a.1.X),G (max b.1.Y a.1.Y),G (max b.1.Z a.1.Z)])) J<|Qg (.hs 5 6 0 [({Lo:=({X:=min b.1.X a.1.X,Y:=min b.1.Y a.1.Y,Z:=min b.1.Z a.1.Z} : qy),Hi:=({X:=max b.1.X a.1.X,Y:=max b.1.Y a.1.Y,Z:=max b.1.Z a.1.Z} : qy)} : qf)].length) (.dat 6 ([({Lo:=({X:=min b.1.X a.1.X,Y:=min b.1.Y a.1.Y,Z:=min b.1.Z a.1.Z} : qy),Hi:=({X:=max b.1.X a.1.X,Y:=max b.1.Y a.1.Y,Z:=max b.1.Z a.1.Z} : qy)} : qf)].map qp)) J ?_
   obtain ⟨ag,ad,f⟩:=q7 f
   refine Ka (xs:=l.2) (ys:=[({Lo:=({X:=min b.1.X a.1.X,Y:=min b.1.Y a.1.Y,Z:=min b.1.Z a.1.Z} : qy),Hi:=({X:=max b.1.X a.1.X,Y:=max b.1.Y a.1.Y,Z:=max b.1.Z a.1.Z} : qy)} : qf)]) (enc:=qp) (.hs 5 6 0 [({Lo:=({X:=min b.1.X a.1.X,Y:=min b.1.Y a.1.Y,Z:=min b.1.Z a.1.Z} : qy),Hi:=({X:=max b.1.X a.1.X,Y:=max b.1.Y a.1.Y,Z:=max b.1.Z a.1.Z} : qy)} : qf)].length) ad J J J J J J J (K9 J J) J J J J<|q9 J<|qr<|Qa<|qt<|O (.d (G (w64 (l.1 + 1)))) J<|U J<|qr ?_
   exact ⟨_,(Option.some.inj f).symm,wkA [(0,0),(1,6)] [] []⟩
  refine Q2 ?_
  refine ⟨_,(Option.some.inj f).symm,fun hm=>?_⟩
  subst hm
  exact ⟨_,J,wkA [(0,1)] [] []⟩
 intro k hb
 subst hb
 refine qe ?_
 refine Kn (st':=⟨[(8,.d (.sl 6 (k.map qp)))],[],0⟩) (wkA [] [0] []) ?_ (by simp)
 refine qt<|U J ?_
 obtain ⟨n,ae,h⟩:=q7 h
 refine qs (qla k n ae) J<|O (.d (.sl 6 (n.1.map qp))) J<|O (q0 n.2) J<|q9 J<|q9 J<|qn ?_
 obtain rfl:=qc h
 exact qz (.d (.tup [.sl 6 (n.1.map qp),G n.2])) J
theorem q4s (a : Int) (b : Int) (c : Int) (f : Int) (g : Int) (h : Int) (r : qf) (j : J4 a b c f g h = some r) : Pure Tryz.prog tab 48 [G a,G b,G c,G f,G g,G h] (.agg [G r.Lo.X,G r.Lo.Y,G r.Lo.Z,G r.Hi.X,G r.Hi.Y,G r.Hi.Z]):=by
 unfold J4 at j
 refine Q8 Tryz.func48 J (by kernel_rfl) (by kernel_rfl) J<|qb<|Qo J J<|qm<|U J<|U J<|U J<|O (.d (.agg [G a,G b,G c])) J<|U J<|U J<|U J<|O (.d (.agg [G f,G g,G h])) J<|O (.d (.agg [G a,G b,G c,G f,G g,G h])) J<|Q6 0 (.dat 6 [[G a,G b,G c,G f,G g,G h]]) J<|qn ?_
 obtain rfl:=qc j
 exact qz (.d (.agg [G a,G b,G c,G f,G g,G h])) J
theorem q4u (r : List qf) (a : Uu = some r) : Pure Tryz.prog tab 49 [] (.sl 6 (r.map qp)):=by
 unfold Uu at a
 refine Q8 Tryz.func49 J (by kernel_rfl) (by kernel_rfl) J<|qb<|q9 J<|qm ?_
 obtain ⟨b,d,a⟩:=q7 a
 refine qs (q4s 0 0 0 2 2 1 b d) J ?_
 obtain ⟨c,f,a⟩:=q7 a
 refine qs (q4s 0 0 1 1 2 2 c f) J<|Qg (.hs 0 6 0 [b,c].length) (.dat 6 ([b,c].map qp)) J<|q9 J<|qn ?_
 obtain rfl:=qc a
 exact finD (.inr J) (v:=.hs 0 6 0 [b,c].length) J (Z9 J J) (.refl _)
theorem qil (r : Bool) (a : q4r = some r) : Pure Tryz.prog tab 37 [] (.bool r):=by
 unfold q4r at a
 refine Q8 Tryz.func37 J (by kernel_rfl) (by kernel_rfl) J<|qb<|q9 J<|qm ?_
 obtain ⟨w,h2,a⟩:=q7 a
 refine qs (q4u w h2) J ?_
 obtain ⟨j,h4,a⟩:=q7 a
 refine qs (q9b w j h4) J<|U J<|O (q0 j.1) J<|O (q0 j.2) J<|q9 J<|q9 J<|qm ?_
 obtain ⟨x,h6,a⟩:=q7 a
 refine qs (q4u x h6) J ?_
 obtain ⟨g,h8,a⟩:=q7 a
 refine qs (qy5 x g h8) J<|U J<|O (q0 g.1) J<|O (q0 g.2) J<|q9 J<|q9 J<|qm ?_
 obtain ⟨y,bo,a⟩:=q7 a
 refine qs (q4u y bo) J<|O (.d (.agg [.int .u8 9,G 0,G 0,G 0])) J ?_
 obtain ⟨h,bp,a⟩:=q7 a
 refine qs (qy3 y ({Turn:=9,At:=({X:=0,Y:=0,Z:=0} : qy)} : Y5) h bp) J<|U J<|O (.d (.sl 6 (h.1.map qp))) J<|O (q0 h.2) J<|q9 J<|q9 J<|qm ?_
 obtain ⟨t,bq,a⟩:=q7 a
 refine qs (q4s 0 0 0 1 2 2 t bq) J ?_
 obtain ⟨u,br,a⟩:=q7 a
 refine qs (q4s 1 0 0 2 2 1 u br) J<|qav (es:=6) ([t,u].map qp) J J J J J ?_
 obtain ⟨k,bs,a⟩:=q7 a
 refine qs (qla [t,u] k bs) J<|U J<|O (.d (.sl 6 (k.1.map qp))) J<|O (q0 k.2) J<|q9 J<|q9 J<|qm<|U J<|O (qd (j.2 == 0)) J ?_
 obtain ⟨bt,l,a⟩:=q7 a
 refine qx 4 (fun A st=>∃ (z aa ab : V),st = A [(37,qd bt),(36,ab),(35,aa),(34,z)]) ?_ ?_
 ·refine qw J J l (fun l=>?_) (fun l=>?_)
  ·refine U J<|O (qd (j.1 == 6)) J<|O (qd (j.1 == 6)) J<|q8 ?_
   obtain rfl:=qc l
   exact ⟨_,_,_,J⟩
  refine qa J<|qa J<|O (qd false) J<|q8 ?_
  obtain rfl:=qc l
  exact ⟨_,_,_,J⟩
 rintro _ ⟨z,aa,ab,rfl⟩
 obtain ⟨bu,m,a⟩:=q7 a
 refine qx 4 (fun A st=>∃ (ac ad ae : V),st = A [(41,qd bu),(40,ae),(39,ad),(38,ac)]) ?_ ?_
 ·refine qw J J m (fun m=>?_) (fun m=>?_)
  ·refine U J<|O (qd (g.2 == 0)) J<|O (qd (g.2 == 0)) J<|q8 ?_
   obtain rfl:=qc m
   exact ⟨_,_,_,J⟩
  refine qa J<|qa J<|O (qd false) J<|q8 ?_
  obtain rfl:=qc m
  exact ⟨_,_,_,J⟩
 rintro _ ⟨ac,ad,ae,rfl⟩
 obtain ⟨bv,n,a⟩:=q7 a
 refine qx 4 (fun A st=>∃ (af ag ah : V),st = A [(45,qd bv),(44,ah),(43,ag),(42,af)]) ?_ ?_
 ·refine qw J J n (fun n=>?_) (fun n=>?_)
  ·refine U J<|O (qd (g.1 == 22)) J<|O (qd (g.1 == 22)) J<|q8 ?_
   obtain rfl:=qc n
   exact ⟨_,_,_,J⟩
  refine qa J<|qa J<|O (qd false) J<|q8 ?_
  obtain rfl:=qc n
  exact ⟨_,_,_,J⟩
 rintro _ ⟨af,ag,ah,rfl⟩
 obtain ⟨bw,o,a⟩:=q7 a
 refine qx 4 (fun A st=>∃ (ai aj ak : V),st = A [(49,qd bw),(48,ak),(47,aj),(46,ai)]) ?_ ?_
 ·refine qw J J o (fun o=>?_) (fun o=>?_)
  ·refine U J<|O (qd (h.2 == 0)) J<|O (qd (h.2 == 0)) J<|q8 ?_
   obtain rfl:=qc o
   exact ⟨_,_,_,J⟩
  refine qa J<|qa J<|O (qd false) J<|q8 ?_
  obtain rfl:=qc o
  exact ⟨_,_,_,J⟩
 rintro _ ⟨ai,aj,ak,rfl⟩
 refine qw J J a (fun a=>?_) (fun a=>?_)
 ·refine U J ?_
  obtain ⟨p,bz,a⟩:=q7 a
  refine qs (q4s (-2) 0 0 0 2 1 p bz) J ?_
  obtain ⟨q,ca,a⟩:=q7 a
  refine qs (q4s (-2) 0 1 0 1 2 q ca) J<|Qg (.hs 1 6 0 [p,q].length) (.dat 6 ([p,q].map qp)) J ?_
  obtain ⟨al,cb,a⟩:=q7 a
  refine q7s [.d (.sl 6 (h.1.map qp)),.hs 1 6 0 [p,q].length] (q3e h.1 [p,q] al cb) J J (Jg J (Jg (Z9 J J) J)) (.inr J)<|O (qd al) J ?_
  obtain ⟨cc,s,a⟩:=q7 a
  refine qx 4 (fun A st=>∃ (am an ao : V),st = A [(60,qd cc),(59,ao),(58,an),(57,am)]) ?_ ?_
  ·refine qw J J s (fun s=>?_) (fun s=>?_)
   ·refine U J<|O (qd (k.2 == 0)) J<|O (qd (k.2 == 0)) J<|q8 ?_
    obtain rfl:=qc s
    exact ⟨_,_,_,J⟩
   refine qa J<|qa J<|O (qd false) J<|q8 ?_
   obtain rfl:=qc s
   exact ⟨_,_,_,J⟩
  rintro _ ⟨am,an,ao,rfl⟩
  obtain ⟨cd,b,a⟩:=q7 a
  refine qx 5 (fun A st=>∃ (ap aq ar au : V),st = A [(65,qd cd),(64,au),(63,ar),(62,aq),(61,ap)]) ?_ ?_
  ·refine qw J J b (fun b=>?_) (fun b=>?_)
   ·refine U J ?_
    obtain ⟨av,ce,b⟩:=q7 b
    refine qs (q4u av ce) J ?_
    obtain ⟨aw,cf,b⟩:=q7 b
    refine qs (q3e k.1 av aw cf) J<|O (qd aw) J<|q8 ?_
    obtain rfl:=qc b
    exact ⟨_,_,_,_,J⟩
   refine qa J<|qa J<|qa J<|O (qd false) J<|q8 ?_
   obtain rfl:=qc b
   exact ⟨_,_,_,_,J⟩
  rintro _ ⟨ap,aq,ar,au,rfl⟩
  obtain ⟨cg,c,a⟩:=q7 a
  refine qx 5 (fun A st=>∃ (ax ay az ba : V),st = A [(70,qd cg),(69,ba),(68,az),(67,ay),(66,ax)]) ?_ ?_
  ·refine qw J J c (fun c=>?_) (fun c=>?_)
   ·obtain ⟨bb,ch,c⟩:=q7 c
    refine qs (q4u bb ch) J<|O (.d (.agg [G 0,G 0,G 1])) J ?_
    obtain ⟨bc,ci,c⟩:=q7 c
    refine qs (q3t bb ({X:=0,Y:=0,Z:=1} : qy) bc ci) J<|O (qd bc) J<|q8 ?_
    obtain rfl:=qc c
    exact ⟨_,_,_,_,J⟩
   refine qa J<|qa J<|qa J<|O (qd false) J<|q8 ?_
   obtain rfl:=qc c
   exact ⟨_,_,_,_,J⟩
  rintro _ ⟨ax,ay,az,ba,rfl⟩
  obtain ⟨bd,f,a⟩:=q7 a
  refine qx 6 (fun A st=>∃ (be bf bg bh bi : V),st = A [(76,qd bd),(75,bi),(74,bh),(73,bg),(72,bf),(71,be)]) ?_ ?_
  ·refine qw J J f (fun f=>?_) (fun f=>?_)
   ·obtain ⟨bj,cj,f⟩:=q7 f
    refine qs (q4u bj cj) J<|O (.d (.agg [G 1,G 0,G 1])) J ?_
    obtain ⟨v,ck,f⟩:=q7 f
    refine qs (q3t bj ({X:=1,Y:=0,Z:=1} : qy) v ck) J<|O (qd (!v)) J<|O (qd (!v)) J<|q8 ?_
    obtain rfl:=qc f
    exact ⟨_,_,_,_,_,J⟩
   refine qa J<|qa J<|qa J<|qa J<|O (qd false) J<|q8 ?_
   obtain rfl:=qc f
   exact ⟨_,_,_,_,_,J⟩
  rintro _ ⟨be,bf,bg,bh,bi,rfl⟩
  refine q9 J<|qn ?_
  obtain rfl:=qc a
  exact qz (qd bd) J
 refine qa J<|qa J<|qa J<|qa J<|qa J<|O (qd false) J<|U J<|qa J<|qa J<|O (qd false) J<|U J<|qa J<|qa J<|qa J<|O (qd false) J<|U J<|qa J<|qa J<|qa J<|O (qd false) J<|U J<|qa J<|qa J<|qa J<|qa J<|O (qd false) J<|q9 J<|qn ?_
 obtain rfl:=qc a
 exact qz (qd false) J
theorem qim (g : List qf) (c : List qf) (r : Bool) (b : q4t g c = some r) : Pure Tryz.prog tab 38 [.sl 6 (g.map qp),.sl 6 (c.map qp)] (.bool r):=by
 unfold q4t at b
 refine Q8 Tryz.func38 J (by kernel_rfl) (by kernel_rfl) J<|qb<|q9 J<|qm<|U J<|Qc J<|O (.d (.bool (decide ((g.length : Int)≤30)))) J ?_
 obtain ⟨u,f,b⟩:=q7 b
 refine qx 5 (fun A st=>∃ (j k l m : V),st = A [(12,qd u),(11,m),(10,l),(9,k),(8,j)]) ?_ ?_
 ·refine qw J J f (fun f=>?_) (fun f=>?_)
  ·refine U J<|Qc J<|O (.d (.bool (decide ((c.length : Int)≤30)))) J<|O (.d (.bool (decide ((c.length : Int)≤30)))) J<|q8 ?_
   obtain rfl:=qc f
   exact ⟨_,_,_,_,J⟩
  refine qa J<|qa J<|qa J<|O (qd false) J<|q8 ?_
  obtain rfl:=qc f
  exact ⟨_,_,_,_,J⟩
 rintro _ ⟨j,k,l,m,rfl⟩
 obtain ⟨n,a,b⟩:=q7 b
 refine qx 6 (fun A st=>∃ (o p q s t : V),st = A [(18,qd n),(17,t),(16,s),(15,q),(14,p),(13,o)]) ?_ ?_
 ·refine qw J J a (fun a=>?_) (fun a=>?_)
  ·refine U J<|U J ?_
   obtain ⟨h,v,a⟩:=q7 a
   refine qs (qei g c h v) J<|O (qd (h == 0)) J<|O (qd (h == 0)) J<|q8 ?_
   obtain rfl:=qc a
   exact ⟨_,_,_,_,_,J⟩
  refine qa J<|qa J<|qa J<|qa J<|O (qd false) J<|q8 ?_
  obtain rfl:=qc a
  exact ⟨_,_,_,_,_,J⟩
 rintro _ ⟨o,p,q,s,t,rfl⟩
 refine q9 J<|qn ?_
 obtain rfl:=qc b
 exact qz (qd n) J
end Go.Proofs.YtjjmcdlnadkjbaaGreat
namespace Go.Proofs.YtjjmcdlnadkjbaaGreat
open Go Go.Am Go.Sh
set_option maxHeartbeats 8000000
set_option maxRecDepth 100000
theorem q107 (o : List qf) (p : List qf) (b : qy) (r : Bool) (a : qam o p b = some r) : Pure Tryz.prog tab 8 [.sl 6 (o.map qp),.sl 6 (p.map qp),.agg [G b.X,G b.Y,G b.Z]] (.bool r):=by
 unfold qam at a
 refine Q8 Tryz.func8 J (by kernel_rfl) (by kernel_rfl) J<|qb<|Qg (.ref 0 3 0 0) (.dat 3 [[G b.X,G b.Y,G b.Z]]) J<|q9 J<|qm ?_
 obtain ⟨r1,h2,a⟩:=q7 a
 refine qs (qil r1 h2) J<|q9 J<|q8<|qe<|qb<|U J<|U J ?_
 obtain ⟨r3,h4,a⟩:=q7 a
 refine qs (qim o p r3 h4) J<|O (qd (!r3)) J ?_
 obtain ⟨c5,u,a⟩:=q7 a
 refine qx 4 (fun A st=>∃ (j7 j8 j9 : V),st = A [(24,qd c5),(23,j9),(22,j8),(21,j7)]) ?_ ?_
 ·refine qw J J u (fun u=>?_) (fun u=>?_)
  ·refine qa J<|qa J<|O (qd true) J<|q8 ?_
   obtain rfl:=qc u
   exact ⟨_,_,_,J⟩
  refine U J<|O (qd (!r1)) J<|O (qd (!r1)) J<|q8 ?_
  obtain rfl:=qc u
  exact ⟨_,_,_,J⟩
 rintro _ ⟨j7,j8,j9,rfl⟩
 refine q8 ?_
 refine ql J a (fun _ a=>?_) (fun _ a=>?_)
 ·refine qb<|U J<|q9 J<|qn ?_
  obtain rfl:=qc a
  exact qz (qd r1) J
 refine qj<|qb<|U J<|U J ?_
 obtain ⟨c,gm,a⟩:=q7 a
 refine qs (qbt o p c gm) J<|U J<|O (.d (.sl 6 (c.1.map qp))) J<|O (q0 c.2) J<|q9 J<|q9 J<|qm<|U J<|U J ?_
 obtain ⟨f,gn,a⟩:=q7 a
 refine qs (qbs o p f gn) J<|U J<|O (.d (.sl 6 (f.1.map qp))) J<|O (q0 f.2) J<|q9 J<|q9 J<|qm<|U J<|U J ?_
 obtain ⟨g,go,a⟩:=q7 a
 refine qs (qf4 o p g go) J<|U J<|O (.d (.sl 6 (g.1.map qp))) J<|O (q0 g.2) J<|q9 J<|q9 J<|q8<|qe<|Q5 [q6,q6,q6,qo 0,q6,q6,qo 0,q6] (by kernel_rfl)<|U J<|O (.d (.agg [G b.X,G b.Y,G b.Z])) J ?_
 obtain ⟨gp,gq,a⟩:=q7 a
 refine qs (q3t o b gp gq) J<|U J<|O (.d (.agg [G b.X,G b.Y,G b.Z])) J ?_
 obtain ⟨v,gr,a⟩:=q7 a
 refine qs (q3t p b v gr) J<|q9 J<|q9 J<|q8<|qe<|qb<|U J<|O (qd (c.2 == 0)) J ?_
 obtain ⟨gs,h,a⟩:=q7 a
 refine qx 15 (fun A st=>∃ (an ao ap aq ar au av aw ax ay az ba bb bc : V),st = A [(66,qd gs),(65,bc),(64,bb),(63,ba),(62,az),(61,ay),(60,ax),(59,aw),(58,av),(57,au),(56,ar),(55,aq),(54,ap),(53,ao),(52,an)]) ?_ ?_
 ·refine qw J J h (fun h=>?_) (fun h=>?_)
  ·refine U J ?_
   obtain ⟨bd,gt,h⟩:=q7 h
   refine qs (q2d c.1 bd gt) J<|O (qd (bd != 0)) J ?_
   obtain ⟨be,j,h⟩:=q7 h
   refine qx 10 (fun A st=>∃ (bf bg bh bi bj bk bl bm bn : V),st = A [(65,qd be),(64,bn),(63,bm),(62,bl),(61,bk),(60,bj),(59,bi),(58,bh),(57,bg),(56,bf)]) ?_ ?_
   ·refine qw J J j (fun j=>?_) (fun j=>?_)
    ·refine qa J<|qa J<|qa J<|qa J<|qa J<|qa J<|qa J<|qa J<|O (qd true) J<|q8 ?_
     obtain rfl:=qc j
     exact ⟨_,_,_,_,_,_,_,_,_,J⟩
    refine U J<|O (.d (.agg [G b.X,G b.Y,G b.Z])) J ?_
    obtain ⟨ad,gu,j⟩:=q7 j
    refine qs (q3t c.1 b ad gu) J<|U J ?_
    obtain ⟨ae,w,j⟩:=q7 j
    refine qx 3 (fun A st=>∃ (bo bp : V),st = A [(63,qd ae),(62,bp),(61,bo)]) ?_ ?_
    ·refine qw J J w (fun w=>?_) (fun w=>?_)
     ·refine qa J<|O (qd true) J<|q8 ?_
      obtain rfl:=qc w
      exact ⟨_,_,J⟩
     refine U J<|O (qd v) J<|q8 ?_
     obtain rfl:=qc w
     exact ⟨_,_,J⟩
    rintro _ ⟨bo,bp,rfl⟩
    refine O (.d (.bool (!(ad == ae)))) J<|O (.d (.bool (!(ad == ae)))) J<|q8 ?_
    obtain rfl:=qc j
    exact ⟨_,_,_,_,_,_,_,_,_,J⟩
   rintro _ ⟨bf,bg,bh,bi,bj,bk,bl,bm,bn,rfl⟩
   refine O (qd be) J<|q8 ?_
   obtain rfl:=qc h
   exact ⟨_,_,_,_,_,_,_,_,_,_,_,_,_,_,J⟩
  refine qa J<|qa J<|qa J<|qa J<|qa J<|qa J<|qa J<|qa J<|qa J<|qa J<|qa J<|qa J<|qa J<|O (qd false) J<|q8 ?_
  obtain rfl:=qc h
  exact ⟨_,_,_,_,_,_,_,_,_,_,_,_,_,_,J⟩
 rintro _ ⟨an,ao,ap,aq,ar,au,av,aw,ax,ay,az,ba,bb,bc,rfl⟩
 refine q8 ?_
 refine ql J a (fun _ a=>?_) (fun _ a=>?_)
 ·refine qb<|q9 J<|qn ?_
  obtain rfl:=qc a
  exact qz (qd false) J
 refine qj<|qe<|qb<|U J<|O (qd (f.2 == 0)) J ?_
 obtain ⟨gv,k,a⟩:=q7 a
 refine qx 15 (fun A st=>∃ (bq br bs bt bu bv bw bz ca cb cc cd ce cf : V),st = A [(83,qd gv),(82,cf),(81,ce),(80,cd),(79,cc),(78,cb),(77,ca),(76,bz),(75,bw),(74,bv),(73,bu),(72,bt),(71,bs),(70,br),(69,bq)]) ?_ ?_
 ·refine qw J J k (fun k=>?_) (fun k=>?_)
  ·refine U J ?_
   obtain ⟨cg,gw,k⟩:=q7 k
   refine qs (q2d f.1 cg gw) J<|O (qd (cg != 0)) J ?_
   obtain ⟨ch,l,k⟩:=q7 k
   refine qx 10 (fun A st=>∃ (ci cj ck cl cm cn co cp cq : V),st = A [(82,qd ch),(81,cq),(80,cp),(79,co),(78,cn),(77,cm),(76,cl),(75,ck),(74,cj),(73,ci)]) ?_ ?_
   ·refine qw J J l (fun l=>?_) (fun l=>?_)
    ·refine qa J<|qa J<|qa J<|qa J<|qa J<|qa J<|qa J<|qa J<|O (qd true) J<|q8 ?_
     obtain rfl:=qc l
     exact ⟨_,_,_,_,_,_,_,_,_,J⟩
    refine U J<|O (.d (.agg [G b.X,G b.Y,G b.Z])) J ?_
    obtain ⟨af,gy,l⟩:=q7 l
    refine qs (q3t f.1 b af gy) J<|U J ?_
    obtain ⟨ag,x,l⟩:=q7 l
    refine qx 3 (fun A st=>∃ (cr cs : V),st = A [(80,qd ag),(79,cs),(78,cr)]) ?_ ?_
    ·refine qw J J x (fun x=>?_) (fun x=>?_)
     ·refine U J<|O (qd v) J<|q8 ?_
      obtain rfl:=qc x
      exact ⟨_,_,J⟩
     refine qa J<|O (qd false) J<|q8 ?_
     obtain rfl:=qc x
     exact ⟨_,_,J⟩
    rintro _ ⟨cr,cs,rfl⟩
    refine O (.d (.bool (!(af == ag)))) J<|O (.d (.bool (!(af == ag)))) J<|q8 ?_
    obtain rfl:=qc l
    exact ⟨_,_,_,_,_,_,_,_,_,J⟩
   rintro _ ⟨ci,cj,ck,cl,cm,cn,co,cp,cq,rfl⟩
   refine O (qd ch) J<|q8 ?_
   obtain rfl:=qc k
   exact ⟨_,_,_,_,_,_,_,_,_,_,_,_,_,_,J⟩
  refine qa J<|qa J<|qa J<|qa J<|qa J<|qa J<|qa J<|qa J<|qa J<|qa J<|qa J<|qa J<|qa J<|O (qd false) J<|q8 ?_
  obtain rfl:=qc k
  exact ⟨_,_,_,_,_,_,_,_,_,_,_,_,_,_,J⟩
 rintro _ ⟨bq,br,bs,bt,bu,bv,bw,bz,ca,cb,cc,cd,ce,cf,rfl⟩
 refine q8 ?_
 refine ql J a (fun _ a=>?_) (fun _ a=>?_)
 ·refine qb<|q9 J<|qn ?_
  obtain rfl:=qc a
  exact qz (qd false) J
 refine qj<|qe<|qb<|U J<|O (qd (g.2 == 0)) J ?_
 obtain ⟨gz,m,a⟩:=q7 a
 refine qx 16 (fun A st=>∃ (ct cu cv cw cx cy cz da dc dd de df dg dh dj : V),st = A [(101,qd gz),(100,dj),(99,dh),(98,dg),(97,df),(96,de),(95,dd),(94,dc),(93,da),(92,cz),(91,cy),(90,cx),(89,cw),(88,cv),(87,cu),(86,ct)]) ?_ ?_
 ·refine qw J J m (fun m=>?_) (fun m=>?_)
  ·refine U J ?_
   obtain ⟨dk,ha,m⟩:=q7 m
   refine qs (q2d g.1 dk ha) J<|O (qd (dk != 0)) J ?_
   obtain ⟨dl,n,m⟩:=q7 m
   refine qx 11 (fun A st=>∃ (dm dn dp dq dr ds dt du dv dw : V),st = A [(100,qd dl),(99,dw),(98,dv),(97,du),(96,dt),(95,ds),(94,dr),(93,dq),(92,dp),(91,dn),(90,dm)]) ?_ ?_
   ·refine qw J J n (fun n=>?_) (fun n=>?_)
    ·refine qa J<|qa J<|qa J<|qa J<|qa J<|qa J<|qa J<|qa J<|qa J<|O (qd true) J<|q8 ?_
     obtain rfl:=qc n
     exact ⟨_,_,_,_,_,_,_,_,_,_,J⟩
    refine U J<|O (.d (.agg [G b.X,G b.Y,G b.Z])) J ?_
    obtain ⟨ah,hb,n⟩:=q7 n
    refine qs (q3t g.1 b ah hb) J<|U J ?_
    obtain ⟨ai,y,n⟩:=q7 n
    refine qx 4 (fun A st=>∃ (dx dy dz : V),st = A [(98,qd ai),(97,dz),(96,dy),(95,dx)]) ?_ ?_
    ·refine qw J J y (fun y=>?_) (fun y=>?_)
     ·refine U J<|O (qd (!v)) J<|O (qd (!v)) J<|q8 ?_
      obtain rfl:=qc y
      exact ⟨_,_,_,J⟩
     refine qa J<|qa J<|O (qd false) J<|q8 ?_
     obtain rfl:=qc y
     exact ⟨_,_,_,J⟩
    rintro _ ⟨dx,dy,dz,rfl⟩
    refine O (.d (.bool (!(ah == ai)))) J<|O (.d (.bool (!(ah == ai)))) J<|q8 ?_
    obtain rfl:=qc n
    exact ⟨_,_,_,_,_,_,_,_,_,_,J⟩
   rintro _ ⟨dm,dn,dp,dq,dr,ds,dt,du,dv,dw,rfl⟩
   refine O (qd dl) J<|q8 ?_
   obtain rfl:=qc m
   exact ⟨_,_,_,_,_,_,_,_,_,_,_,_,_,_,_,J⟩
  refine qa J<|qa J<|qa J<|qa J<|qa J<|qa J<|qa J<|qa J<|qa J<|qa J<|qa J<|qa J<|qa J<|qa J<|O (qd false) J<|q8 ?_
  obtain rfl:=qc m
  exact ⟨_,_,_,_,_,_,_,_,_,_,_,_,_,_,_,J⟩
 rintro _ ⟨ct,cu,cv,cw,cx,cy,cz,da,dc,dd,de,df,dg,dh,dj,rfl⟩
 refine q8 ?_
 refine ql J a (fun _ a=>?_) (fun _ a=>?_)
 ·refine qb<|q9 J<|qn ?_
  obtain rfl:=qc a
  exact qz (qd false) J
 refine qj<|qb<|U J ?_
 obtain ⟨hc,q,a⟩:=q7 a
 refine qx 8 (fun A st=>∃ (fa fb fc fd fe ff fg : V),st = A [(110,qd hc),(109,fg),(108,ff),(107,fe),(106,fd),(105,fc),(104,fb),(103,fa)]) ?_ ?_
 ·refine qw J J q (fun q=>?_) (fun q=>?_)
  ·refine U J<|O (qd (c.2 == 0)) J ?_
   obtain ⟨fh,z,q⟩:=q7 q
   refine qx 4 (fun A st=>∃ (fi fj fk : V),st = A [(109,qd fh),(108,fk),(107,fj),(106,fi)]) ?_ ?_
   ·refine qw J J z (fun z=>?_) (fun z=>?_)
    ·refine qa J<|qa J<|O (qd true) J<|q8 ?_
     obtain rfl:=qc z
     exact ⟨_,_,_,J⟩
    refine U J<|O (qd (c.2 == 4)) J<|O (qd (c.2 == 4)) J<|q8 ?_
    obtain rfl:=qc z
    exact ⟨_,_,_,J⟩
   rintro _ ⟨fi,fj,fk,rfl⟩
   refine O (qd fh) J<|q8 ?_
   obtain rfl:=qc q
   exact ⟨_,_,_,_,_,_,_,J⟩
  refine qa J<|qa J<|qa J<|qa J<|qa J<|qa J<|O (qd false) J<|q8 ?_
  obtain rfl:=qc q
  exact ⟨_,_,_,_,_,_,_,J⟩
 rintro _ ⟨fa,fb,fc,fd,fe,ff,fg,rfl⟩
 obtain ⟨hd,s,a⟩:=q7 a
 refine qx 8 (fun A st=>∃ (fl fm fn fo fq fr fs : V),st = A [(118,qd hd),(117,fs),(116,fr),(115,fq),(114,fo),(113,fn),(112,fm),(111,fl)]) ?_ ?_
 ·refine qw J J s (fun s=>?_) (fun s=>?_)
  ·refine U J<|O (qd (f.2 == 0)) J ?_
   obtain ⟨ft,aa,s⟩:=q7 s
   refine qx 4 (fun A st=>∃ (fu fv fw : V),st = A [(117,qd ft),(116,fw),(115,fv),(114,fu)]) ?_ ?_
   ·refine qw J J aa (fun aa=>?_) (fun aa=>?_)
    ·refine qa J<|qa J<|O (qd true) J<|q8 ?_
     obtain rfl:=qc aa
     exact ⟨_,_,_,J⟩
    refine U J<|O (qd (f.2 == 4)) J<|O (qd (f.2 == 4)) J<|q8 ?_
    obtain rfl:=qc aa
    exact ⟨_,_,_,J⟩
   rintro _ ⟨fu,fv,fw,rfl⟩
   refine O (qd ft) J<|q8 ?_
   obtain rfl:=qc s
   exact ⟨_,_,_,_,_,_,_,J⟩
  refine qa J<|qa J<|qa J<|qa J<|qa J<|qa J<|O (qd false) J<|q8 ?_
  obtain rfl:=qc s
  exact ⟨_,_,_,_,_,_,_,J⟩
 rintro _ ⟨fl,fm,fn,fo,fq,fr,fs,rfl⟩
 obtain ⟨fx,t,a⟩:=q7 a
 refine qx 8 (fun A st=>∃ (fy fz ga gb gc gd ge : V),st = A [(126,qd fx),(125,ge),(124,gd),(123,gc),(122,gb),(121,ga),(120,fz),(119,fy)]) ?_ ?_
 ·refine qw J J t (fun t=>?_) (fun t=>?_)
  ·refine U J<|O (qd (g.2 == 0)) J ?_
   obtain ⟨gf,ab,t⟩:=q7 t
   refine qx 4 (fun A st=>∃ (gg gh gi : V),st = A [(125,qd gf),(124,gi),(123,gh),(122,gg)]) ?_ ?_
   ·refine qw J J ab (fun ab=>?_) (fun ab=>?_)
    ·refine qa J<|qa J<|O (qd true) J<|q8 ?_
     obtain rfl:=qc ab
     exact ⟨_,_,_,J⟩
    refine U J<|O (qd (g.2 == 4)) J<|O (qd (g.2 == 4)) J<|q8 ?_
    obtain rfl:=qc ab
    exact ⟨_,_,_,J⟩
   rintro _ ⟨gg,gh,gi,rfl⟩
   refine O (qd gf) J<|q8 ?_
   obtain rfl:=qc t
   exact ⟨_,_,_,_,_,_,_,J⟩
  refine qa J<|qa J<|qa J<|qa J<|qa J<|qa J<|O (qd false) J<|q8 ?_
  obtain rfl:=qc t
  exact ⟨_,_,_,_,_,_,_,J⟩
 rintro _ ⟨fy,fz,ga,gb,gc,gd,ge,rfl⟩
 refine q9 J<|qn ?_
 obtain rfl:=qc a
 exact qz (qd fx) J
theorem q108 (g : List qf) (m : List qf) (r : Bool) (a : qan g m = some r) : Pure Tryz.prog tab 9 [.sl 6 (g.map qp),.sl 6 (m.map qp)] (.bool r):=by
 unfold qan at a
 refine Q8 Tryz.func9 J (by kernel_rfl) (by kernel_rfl) J<|qb<|q9 J<|qm ?_
 obtain ⟨r1,h2,a⟩:=q7 a
 refine qs (qil r1 h2) J<|q9 J<|q8<|qe<|qb<|U J<|U J ?_
 obtain ⟨r3,h4,a⟩:=q7 a
 refine qs (qim g m r3 h4) J<|O (qd (!r3)) J ?_
 obtain ⟨c5,s,a⟩:=q7 a
 refine qx 4 (fun A st=>∃ (j7 j8 j9 : V),st = A [(32,qd c5),(31,j9),(30,j8),(29,j7)]) ?_ ?_
 ·refine qw J J s (fun s=>?_) (fun s=>?_)
  ·refine qa J<|qa J<|O (qd true) J<|q8 ?_
   obtain rfl:=qc s
   exact ⟨_,_,_,J⟩
  refine U J<|O (qd (!r1)) J<|O (qd (!r1)) J<|q8 ?_
  obtain rfl:=qc s
  exact ⟨_,_,_,J⟩
 rintro _ ⟨j7,j8,j9,rfl⟩
 refine q8 ?_
 refine ql J a (fun _ a=>?_) (fun _ a=>?_)
 ·refine qb<|U J<|q9 J<|qn ?_
  obtain rfl:=qc a
  exact qz (qd r1) J
 refine qj<|qb<|U J<|U J ?_
 obtain ⟨p,da,a⟩:=q7 a
 refine qs (qbt g m p da) J<|U J<|O (.d (.sl 6 (p.1.map qp))) J<|O (q0 p.2) J<|q9 J<|q9 J<|qm<|U J<|U J ?_
 obtain ⟨b,dc,a⟩:=q7 a
 refine qs (qbs g m b dc) J<|U J<|O (.d (.sl 6 (b.1.map qp))) J<|O (q0 b.2) J<|q9 J<|q9 J<|qm<|U J<|U J ?_
 obtain ⟨c,dd,a⟩:=q7 a
 refine qs (qf4 g m c dd) J<|U J<|O (.d (.sl 6 (c.1.map qp))) J<|O (q0 c.2) J<|q9 J<|q9 J<|q8<|qe<|qb<|U J<|O (qd (p.2 != 0)) J ?_
 obtain ⟨de,t,a⟩:=q7 a
 refine qx 4 (fun A st=>∃ (ak al am : V),st = A [(57,qd de),(56,am),(55,al),(54,ak)]) ?_ ?_
 ·refine qw J J t (fun t=>?_) (fun t=>?_)
  ·refine qa J<|qa J<|O (qd true) J<|q8 ?_
   obtain rfl:=qc t
   exact ⟨_,_,_,J⟩
  refine U J<|O (qd (b.2 != 0)) J<|O (qd (b.2 != 0)) J<|q8 ?_
  obtain rfl:=qc t
  exact ⟨_,_,_,J⟩
 rintro _ ⟨ak,al,am,rfl⟩
 obtain ⟨df,u,a⟩:=q7 a
 refine qx 4 (fun A st=>∃ (an ao ap : V),st = A [(61,qd df),(60,ap),(59,ao),(58,an)]) ?_ ?_
 ·refine qw J J u (fun u=>?_) (fun u=>?_)
  ·refine qa J<|qa J<|O (qd true) J<|q8 ?_
   obtain rfl:=qc u
   exact ⟨_,_,_,J⟩
  refine U J<|O (qd (c.2 != 0)) J<|O (qd (c.2 != 0)) J<|q8 ?_
  obtain rfl:=qc u
  exact ⟨_,_,_,J⟩
 rintro _ ⟨an,ao,ap,rfl⟩
 refine q8 ?_
 refine ql J a (fun _ a=>?_) (fun _ a=>?_)
 ·refine qb<|U J ?_
  obtain ⟨aq,f,a⟩:=q7 a
  refine qx 12 (fun A st=>∃ (ar au av aw ax ay az ba bb bc bd : V),st = A [(74,qd aq),(73,bd),(72,bc),(71,bb),(70,ba),(69,az),(68,ay),(67,ax),(66,aw),(65,av),(64,au),(63,ar)]) ?_ ?_
  ·refine qw J J f (fun f=>?_) (fun f=>?_)
   ·refine U J<|O (qd (p.2 == 4)) J ?_
    obtain ⟨dg,v,f⟩:=q7 f
    refine qx 4 (fun A st=>∃ (be bf bg : V),st = A [(69,qd dg),(68,bg),(67,bf),(66,be)]) ?_ ?_
    ·refine qw J J v (fun v=>?_) (fun v=>?_)
     ·refine qa J<|qa J<|O (qd true) J<|q8 ?_
      obtain rfl:=qc v
      exact ⟨_,_,_,J⟩
     refine U J<|O (qd (b.2 == 4)) J<|O (qd (b.2 == 4)) J<|q8 ?_
     obtain rfl:=qc v
     exact ⟨_,_,_,J⟩
    rintro _ ⟨be,bf,bg,rfl⟩
    obtain ⟨bh,w,f⟩:=q7 f
    refine qx 4 (fun A st=>∃ (bi bj bk : V),st = A [(73,qd bh),(72,bk),(71,bj),(70,bi)]) ?_ ?_
    ·refine qw J J w (fun w=>?_) (fun w=>?_)
     ·refine qa J<|qa J<|O (qd true) J<|q8 ?_
      obtain rfl:=qc w
      exact ⟨_,_,_,J⟩
     refine U J<|O (qd (c.2 == 4)) J<|O (qd (c.2 == 4)) J<|q8 ?_
     obtain rfl:=qc w
     exact ⟨_,_,_,J⟩
    rintro _ ⟨bi,bj,bk,rfl⟩
    refine O (qd bh) J<|q8 ?_
    obtain rfl:=qc f
    exact ⟨_,_,_,_,_,_,_,_,_,_,_,J⟩
   refine qa J<|qa J<|qa J<|qa J<|qa J<|qa J<|qa J<|qa J<|qa J<|qa J<|O (qd false) J<|q8 ?_
   obtain rfl:=qc f
   exact ⟨_,_,_,_,_,_,_,_,_,_,_,J⟩
  rintro _ ⟨ar,au,av,aw,ax,ay,az,ba,bb,bc,bd,rfl⟩
  refine q9 J<|qn ?_
  obtain rfl:=qc a
  exact qz (qd aq) J
 refine qj<|qb<|U J ?_
 obtain ⟨h,dh,a⟩:=q7 a
 refine qs (q9b p.1 h dh) J<|U J<|O (q0 h.1) J<|O (q0 h.2) J<|q9 J<|q9 J<|qm<|U J ?_
 obtain ⟨j,dj,a⟩:=q7 a
 refine qs (q9b b.1 j dj) J<|U J<|O (q0 j.1) J<|O (q0 j.2) J<|q9 J<|q9 J<|qm<|U J ?_
 obtain ⟨k,dk,a⟩:=q7 a
 refine qs (q9b g k dk) J<|U J<|O (q0 k.1) J<|O (q0 k.2) J<|q9 J<|q9 J<|qm<|U J ?_
 obtain ⟨l,dl,a⟩:=q7 a
 refine qs (q9b m l dl) J<|U J<|O (q0 l.1) J<|O (q0 l.2) J<|q9 J<|q9 J<|qm<|U J<|U J ?_
 obtain ⟨q,dm,a⟩:=q7 a
 refine qs (qbt b.1 c.1 q dm) J<|U J<|O (.d (.sl 6 (q.1.map qp))) J<|O (q0 q.2) J<|q9 J<|q9 J<|qm<|U J<|U J ?_
 obtain ⟨n,dn,a⟩:=q7 a
 refine qs (qbs b.1 c.1 n dn) J<|U J<|O (.d (.sl 6 (n.1.map qp))) J<|O (q0 n.2) J<|q9 J<|q9 J<|qm<|U J ?_
 obtain ⟨dp,x,a⟩:=q7 a
 refine qx 4 (fun A st=>∃ (bl bm bn : V),st = A [(111,qd dp),(110,bn),(109,bm),(108,bl)]) ?_ ?_
 ·refine qw J J x (fun x=>?_) (fun x=>?_)
  ·refine U J<|O (qd (h.2 == 0)) J<|O (qd (h.2 == 0)) J<|q8 ?_
   obtain rfl:=qc x
   exact ⟨_,_,_,J⟩
  refine qa J<|qa J<|O (qd false) J<|q8 ?_
  obtain rfl:=qc x
  exact ⟨_,_,_,J⟩
 rintro _ ⟨bl,bm,bn,rfl⟩
 obtain ⟨dq,y,a⟩:=q7 a
 refine qx 4 (fun A st=>∃ (bo bp bq : V),st = A [(115,qd dq),(114,bq),(113,bp),(112,bo)]) ?_ ?_
 ·refine qw J J y (fun y=>?_) (fun y=>?_)
  ·refine U J<|O (qd (j.2 == 0)) J<|O (qd (j.2 == 0)) J<|q8 ?_
   obtain rfl:=qc y
   exact ⟨_,_,_,J⟩
  refine qa J<|qa J<|O (qd false) J<|q8 ?_
  obtain rfl:=qc y
  exact ⟨_,_,_,J⟩
 rintro _ ⟨bo,bp,bq,rfl⟩
 obtain ⟨dr,z,a⟩:=q7 a
 refine qx 4 (fun A st=>∃ (br bs bt : V),st = A [(119,qd dr),(118,bt),(117,bs),(116,br)]) ?_ ?_
 ·refine qw J J z (fun z=>?_) (fun z=>?_)
  ·refine U J<|O (qd (k.2 == 0)) J<|O (qd (k.2 == 0)) J<|q8 ?_
   obtain rfl:=qc z
   exact ⟨_,_,_,J⟩
  refine qa J<|qa J<|O (qd false) J<|q8 ?_
  obtain rfl:=qc z
  exact ⟨_,_,_,J⟩
 rintro _ ⟨br,bs,bt,rfl⟩
 obtain ⟨ds,aa,a⟩:=q7 a
 refine qx 4 (fun A st=>∃ (bu bv bw : V),st = A [(123,qd ds),(122,bw),(121,bv),(120,bu)]) ?_ ?_
 ·refine qw J J aa (fun aa=>?_) (fun aa=>?_)
  ·refine U J<|O (qd (l.2 == 0)) J<|O (qd (l.2 == 0)) J<|q8 ?_
   obtain rfl:=qc aa
   exact ⟨_,_,_,J⟩
  refine qa J<|qa J<|O (qd false) J<|q8 ?_
  obtain rfl:=qc aa
  exact ⟨_,_,_,J⟩
 rintro _ ⟨bu,bv,bw,rfl⟩
 obtain ⟨dt,ab,a⟩:=q7 a
 refine qx 9 (fun A st=>∃ (bz ca cb cc cd ce cf cg : V),st = A [(132,qd dt),(131,cg),(130,cf),(129,ce),(128,cd),(127,cc),(126,cb),(125,ca),(124,bz)]) ?_ ?_
 ·refine qw J J ab (fun ab=>?_) (fun ab=>?_)
  ·refine U J<|U J<|O (.d (G (w64 (h.1 - k.1)))) J<|U J<|U J<|O (.d (G (w64 (l.1 - j.1)))) J<|O (.d (.bool ((w64 (h.1 - k.1)) == (w64 (l.1 - j.1))))) J<|O (.d (.bool ((w64 (h.1 - k.1)) == (w64 (l.1 - j.1))))) J<|q8 ?_
   obtain rfl:=qc ab
   exact ⟨_,_,_,_,_,_,_,_,J⟩
  refine qa J<|qa J<|qa J<|qa J<|qa J<|qa J<|qa J<|O (qd false) J<|q8 ?_
  obtain rfl:=qc ab
  exact ⟨_,_,_,_,_,_,_,_,J⟩
 rintro _ ⟨bz,ca,cb,cc,cd,ce,cf,cg,rfl⟩
 obtain ⟨du,ac,a⟩:=q7 a
 refine qx 4 (fun A st=>∃ (ch ci cj : V),st = A [(136,qd du),(135,cj),(134,ci),(133,ch)]) ?_ ?_
 ·refine qw J J ac (fun ac=>?_) (fun ac=>?_)
  ·refine U J<|O (qd (q.2 == 0)) J<|O (qd (q.2 == 0)) J<|q8 ?_
   obtain rfl:=qc ac
   exact ⟨_,_,_,J⟩
  refine qa J<|qa J<|O (qd false) J<|q8 ?_
  obtain rfl:=qc ac
  exact ⟨_,_,_,J⟩
 rintro _ ⟨ch,ci,cj,rfl⟩
 obtain ⟨dv,o,a⟩:=q7 a
 refine qx 5 (fun A st=>∃ (ck cl cm cn : V),st = A [(141,qd dv),(140,cn),(139,cm),(138,cl),(137,ck)]) ?_ ?_
 ·refine qw J J o (fun o=>?_) (fun o=>?_)
  ·refine U J<|U J ?_
   obtain ⟨co,dw,o⟩:=q7 o
   refine qs (q3e q.1 g co dw) J<|O (qd co) J<|q8 ?_
   obtain rfl:=qc o
   exact ⟨_,_,_,_,J⟩
  refine qa J<|qa J<|qa J<|O (qd false) J<|q8 ?_
  obtain rfl:=qc o
  exact ⟨_,_,_,_,J⟩
 rintro _ ⟨ck,cl,cm,cn,rfl⟩
 obtain ⟨dx,ad,a⟩:=q7 a
 refine qx 4 (fun A st=>∃ (cp cq cr : V),st = A [(145,qd dx),(144,cr),(143,cq),(142,cp)]) ?_ ?_
 ·refine qw J J ad (fun ad=>?_) (fun ad=>?_)
  ·refine U J<|O (qd (n.2 == 0)) J<|O (qd (n.2 == 0)) J<|q8 ?_
   obtain rfl:=qc ad
   exact ⟨_,_,_,J⟩
  refine qa J<|qa J<|O (qd false) J<|q8 ?_
  obtain rfl:=qc ad
  exact ⟨_,_,_,J⟩
 rintro _ ⟨cp,cq,cr,rfl⟩
 obtain ⟨cs,ae,a⟩:=q7 a
 refine qx 5 (fun A st=>∃ (ct cu cv cw : V),st = A [(150,qd cs),(149,cw),(148,cv),(147,cu),(146,ct)]) ?_ ?_
 ·refine qw J J ae (fun ae=>?_) (fun ae=>?_)
  ·refine U J<|Qc J<|O (.d (.bool ((n.1.length : Int) == 0))) J<|O (.d (.bool ((n.1.length : Int) == 0))) J<|q8 ?_
   obtain rfl:=qc ae
   exact ⟨_,_,_,_,J⟩
  refine qa J<|qa J<|qa J<|O (qd false) J<|q8 ?_
  obtain rfl:=qc ae
  exact ⟨_,_,_,_,J⟩
 rintro _ ⟨ct,cu,cv,cw,rfl⟩
 refine q9 J<|qn ?_
 obtain rfl:=qc a
 exact qz (qd cs) J
end Go.Proofs.YtjjmcdlnadkjbaaGreat
