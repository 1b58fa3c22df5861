/- W_Alla -/
import Derived.Test.YtjjmcdlnadkjbaaGreatK14
namespace Go.Proofs.YtjjmcdlnadkjbaaGreat
open Go Go.Am Go.Sh
set_option maxHeartbeats 8000000
set_option maxRecDepth 100000
theorem qra (a : List qd) (r : Bool) (b : q79 a = some r) : Pure Tryz.prog tab 12 [.sl 6 (a.map qr)] (.bool r):=by
 unfold q79 at b
 refine Qb Tryz.func12 J (by kernel_rfl) (by kernel_rfl) J<|qa<|q8 J<|qp<|U J<|Qg J<|O (.d (.bool (decide ((a.length : Int) > 30)))) J ?_
 obtain ⟨q,c,b⟩:=q7 b
 refine Q5 5 (fun A st=>∃ (g h j k : V),st = A [(10,qf q),(9,k),(8,j),(7,h),(6,g)]) ?_ ?_
 ·refine Q6 J J c (fun c=>?_) (fun c=>?_)
  ·refine U J<|Qg J<|O (.d (.bool (decide ((a.length : Int)≤400)))) J<|O (.d (.bool (decide ((a.length : Int)≤400)))) J<|q9 ?_
   obtain rfl:=qc c
   exact ⟨_,_,_,_,J⟩
  refine qb J<|qb J<|qb J<|O (qf false) J<|q9 ?_
  obtain rfl:=qc c
  exact ⟨_,_,_,_,J⟩
 rintro _ ⟨g,h,j,k,rfl⟩
 obtain ⟨l,f,b⟩:=q7 b
 refine Q5 5 (fun A st=>∃ (m n o p : V),st = A [(15,qf l),(14,p),(13,o),(12,n),(11,m)]) ?_ ?_
 ·refine Q6 J J f (fun f=>?_) (fun f=>?_)
  ·refine qb J<|qb J<|qb J<|O (qf true) J<|q9 ?_
   obtain rfl:=qc f
   exact ⟨_,_,_,_,J⟩
  refine U J<|Qg J<|O (.d (.bool (decide ((a.length : Int) > 420)))) J<|O (.d (.bool (decide ((a.length : Int) > 420)))) J<|q9 ?_
  obtain rfl:=qc f
  exact ⟨_,_,_,_,J⟩
 rintro _ ⟨m,n,o,p,rfl⟩
 refine q8 J<|qo ?_
 obtain rfl:=qc b
 exact qy (qf l) J
theorem qtq (f : List qd) (j : qd→Option Bool) (p1F : FuncId) (p1C : List DV) (p1Ok : ∀ (c : qd) (r : Bool),j c = some r→Pure Tryz.prog tab p1F ([.agg [G c.Lo.X,G c.Lo.Y,G c.Lo.Z,G c.Hi.X,G c.Hi.Y,G c.Hi.Z]] ++ p1C) (.bool r)) (r : Int) (g : qam f j = some r) : Pure Tryz.prog tab 80 [.sl 6 (f.map qr),.fn p1F p1C] (G r):=by
 unfold qam at g
 refine Qb Tryz.func80 J (by kernel_rfl) (by kernel_rfl) J<|qa<|q8 J<|q9<|qe<|qa<|U J<|Qg J<|U J<|q9 ?_
 obtain ⟨l,m,g⟩:=q7 g
 refine Q9 (fun k=>.inl k = l) (fun (k : Unit)=>⟨[],[],0⟩) (by simp) ?_ ?_
 ·refine Q4 (q38 f j) (fun (h : Int)=>⟨[(0,.d (.sl 6 (f.map qr))),(1,.d (.fn p1F p1C)),(7,q6 (f.length : Int)),(8,q6 h)],[],0⟩) 0 l m (wkA [] [] []) ?_
  intro h q a
  unfold q38 at a
  refine qa<|O (.d (.bool (decide (h < (f.length : Int))))) J<|q9<|qe ?_
  refine qj J a (fun _ a=>?_) (fun _ a=>?_)
  ·refine qk<|qe<|qw<|qa<|U J<|q8 J<|qp<|U J<|U J<|U J ?_
   obtain ⟨b,n,a⟩:=q7 a
   refine Q3 (enc:=qr) n J<|O (.d (.agg [G b.Lo.X,G b.Lo.Y,G b.Lo.Z,G b.Hi.X,G b.Hi.Y,G b.Hi.Z])) J ?_
   obtain ⟨o,p,a⟩:=q7 a
   refine Ye [.d (.agg [G b.Lo.X,G b.Lo.Y,G b.Lo.Z,G b.Hi.X,G b.Hi.Y,G b.Hi.Z])] (p1Ok b o p) J J J (.inl J)<|q9 ?_
   refine qj J a (fun _ a=>?_) (fun _ a=>?_)
   ·refine qa<|U J<|q8 J<|qo ?_
    refine ⟨_,(Option.some.inj a).symm,fun hm=>?_⟩
    subst hm
    obtain rfl:=qc g
    exact qy (q6 h) J
   refine qk<|Q8<|Qa<|qt<|O (.d (G (w64 (h + 1)))) J<|U J<|qq ?_
   exact ⟨_,(Option.some.inj a).symm,wkA [] [] []⟩
  refine Q1 ?_
  refine ⟨_,(Option.some.inj a).symm,fun hm=>?_⟩
  subst hm
  exact ⟨_,J,wkA [] [] []⟩
 intro k hb
 subst hb
 refine qa<|q8 J<|qo ?_
 obtain rfl:=qc g
 exact qy (q6 (-1)) J
theorem qtj (c : List qd) (f : qd→Option Bool) (p1F : FuncId) (p1C : List DV) (p1Ok : ∀ (a : qd) (r : Bool),f a = some r→Pure Tryz.prog tab p1F ([.agg [G a.Lo.X,G a.Lo.Y,G a.Lo.Z,G a.Hi.X,G a.Hi.Y,G a.Hi.Z]] ++ p1C) (.bool r)) (r : Bool) (b : q7o c f = some r) : Pure Tryz.prog tab 50 [.sl 6 (c.map qr),.fn p1F p1C] (.bool r):=by
 unfold q7o at b
 refine Qb Tryz.func50 J (by kernel_rfl) (by kernel_rfl) J<|qa<|q8 J<|qp<|U J<|U J ?_
 obtain ⟨g,h,b⟩:=q7 b
 refine qv (qtq c f p1F p1C p1Ok g h) J<|O (.d (.bool (decide (g ≥ 0)))) J<|q8 J<|qo ?_
 obtain rfl:=qc b
 exact qy (.d (.bool (decide (g ≥ 0)))) J
theorem qjr (a : ql) (r : Bool) (c : q63 a = some r) : Pure Tryz.prog tab 81 [.agg [G a.X,G a.Y,G a.Z]] (.bool r):=by
 unfold q63 at c
 refine Qb Tryz.func81 J (by kernel_rfl) (by kernel_rfl) J<|qa<|Qe (.ref 0 3 0 0) (.dat 3 [[G a.X,G a.Y,G a.Z]]) J<|q8 J<|qp<|O (.ref 0 3 0 0) J<|O (q6 a.X) J<|O (.ref 0 3 0 1) J<|O (q6 a.Y) J<|O (.ref 0 3 0 2) J<|O (q6 a.Z) J<|Y4 (r:=min (min a.X a.Y) a.Z) J J (by simp only [Y2];rfl)<|O (.d (.bool (decide ((min (min a.X a.Y) a.Z) ≥ (-1000000))))) J ?_
 obtain ⟨f,b,c⟩:=q7 c
 refine Q5 10 (fun A st=>∃ (g h j k l m n o p : V),st = A [(20,qf f),(19,p),(18,o),(17,n),(16,m),(15,l),(14,k),(13,j),(12,h),(11,g)]) ?_ ?_
 ·refine Q6 J J b (fun b=>?_) (fun b=>?_)
  ·refine O (.ref 0 3 0 0) J<|O (q6 a.X) J<|O (.ref 0 3 0 1) J<|O (q6 a.Y) J<|O (.ref 0 3 0 2) J<|O (q6 a.Z) J<|Y3 (r:=max (max a.X a.Y) a.Z) J J (by simp only [Kz];rfl)<|O (.d (.bool (decide ((max (max a.X a.Y) a.Z)≤1000000)))) J<|O (.d (.bool (decide ((max (max a.X a.Y) a.Z)≤1000000)))) J<|q9 ?_
   obtain rfl:=qc b
   exact ⟨_,_,_,_,_,_,_,_,_,J⟩
  refine qb J<|qb J<|qb J<|qb J<|qb J<|qb J<|qb J<|qb J<|O (qf false) J<|q9 ?_
  obtain rfl:=qc b
  exact ⟨_,_,_,_,_,_,_,_,_,J⟩
 rintro _ ⟨g,h,j,k,l,m,n,o,p,rfl⟩
 refine q8 J<|qo ?_
 obtain rfl:=qc c
 exact qy (qf f) J
theorem qjt (a : qd) (r : Bool) (b : q64 a = some r) : Pure Tryz.prog tab 52 [.agg [G a.Lo.X,G a.Lo.Y,G a.Lo.Z,G a.Hi.X,G a.Hi.Y,G a.Hi.Z]] (.bool r):=by
 unfold q64 at b
 refine Qb Tryz.func52 J (by kernel_rfl) (by kernel_rfl) J<|qa<|Qe (.ref 0 6 0 0) (.dat 6 [[G a.Lo.X,G a.Lo.Y,G a.Lo.Z,G a.Hi.X,G a.Hi.Y,G a.Hi.Z]]) J<|q8 J<|qp<|O (.ref 0 6 0 0) J<|O (.ref 0 6 0 0) J<|O (q6 a.Lo.X) J<|O (.ref 0 6 0 3) J<|O (.ref 0 6 0 3) J<|O (q6 a.Hi.X) J<|O (.d (.bool (decide (a.Lo.X < a.Hi.X)))) J ?_
 obtain ⟨c1,g,b⟩:=q7 b
 refine Q5 9 (fun A st=>∃ (j k l m n o p q : V),st = A [(18,qf c1),(17,q),(16,p),(15,o),(14,n),(13,m),(12,l),(11,k),(10,j)]) ?_ ?_
 ·refine Q6 J J g (fun g=>?_) (fun g=>?_)
  ·refine O (.ref 0 6 0 0) J<|O (.ref 0 6 0 1) J<|O (q6 a.Lo.Y) J<|O (.ref 0 6 0 3) J<|O (.ref 0 6 0 4) J<|O (q6 a.Hi.Y) J<|O (.d (.bool (decide (a.Lo.Y < a.Hi.Y)))) J<|O (.d (.bool (decide (a.Lo.Y < a.Hi.Y)))) J<|q9 ?_
   obtain rfl:=qc g
   exact ⟨_,_,_,_,_,_,_,_,J⟩
  refine qb J<|qb J<|qb J<|qb J<|qb J<|qb J<|qb J<|O (qf false) J<|q9 ?_
  obtain rfl:=qc g
  exact ⟨_,_,_,_,_,_,_,_,J⟩
 rintro _ ⟨j,k,l,m,n,o,p,q,rfl⟩
 obtain ⟨am,h,b⟩:=q7 b
 refine Q5 9 (fun A st=>∃ (s t u v w x y z : V),st = A [(27,qf am),(26,z),(25,y),(24,x),(23,w),(22,v),(21,u),(20,t),(19,s)]) ?_ ?_
 ·refine Q6 J J h (fun h=>?_) (fun h=>?_)
  ·refine O (.ref 0 6 0 0) J<|O (.ref 0 6 0 2) J<|O (q6 a.Lo.Z) J<|O (.ref 0 6 0 3) J<|O (.ref 0 6 0 5) J<|O (q6 a.Hi.Z) J<|O (.d (.bool (decide (a.Lo.Z < a.Hi.Z)))) J<|O (.d (.bool (decide (a.Lo.Z < a.Hi.Z)))) J<|q9 ?_
   obtain rfl:=qc h
   exact ⟨_,_,_,_,_,_,_,_,J⟩
  refine qb J<|qb J<|qb J<|qb J<|qb J<|qb J<|qb J<|O (qf false) J<|q9 ?_
  obtain rfl:=qc h
  exact ⟨_,_,_,_,_,_,_,_,J⟩
 rintro _ ⟨s,t,u,v,w,x,y,z,rfl⟩
 obtain ⟨an,c,b⟩:=q7 b
 refine Q5 5 (fun A st=>∃ (aa ab ac ad : V),st = A [(32,qf an),(31,ad),(30,ac),(29,ab),(28,aa)]) ?_ ?_
 ·refine Q6 J J c (fun c=>?_) (fun c=>?_)
  ·refine O (.ref 0 6 0 0) J<|O (.d (.agg [G a.Lo.X,G a.Lo.Y,G a.Lo.Z])) J ?_
   obtain ⟨ae,ao,c⟩:=q7 c
   refine qv (qjr a.Lo ae ao) J<|O (qf ae) J<|q9 ?_
   obtain rfl:=qc c
   exact ⟨_,_,_,_,J⟩
  refine qb J<|qb J<|qb J<|O (qf false) J<|q9 ?_
  obtain rfl:=qc c
  exact ⟨_,_,_,_,J⟩
 rintro _ ⟨aa,ab,ac,ad,rfl⟩
 obtain ⟨af,f,b⟩:=q7 b
 refine Q5 5 (fun A st=>∃ (ag ah ai aj : V),st = A [(37,qf af),(36,aj),(35,ai),(34,ah),(33,ag)]) ?_ ?_
 ·refine Q6 J J f (fun f=>?_) (fun f=>?_)
  ·refine O (.ref 0 6 0 3) J<|O (.d (.agg [G a.Hi.X,G a.Hi.Y,G a.Hi.Z])) J ?_
   obtain ⟨ak,ap,f⟩:=q7 f
   refine qv (qjr a.Hi ak ap) J<|O (qf ak) J<|q9 ?_
   obtain rfl:=qc f
   exact ⟨_,_,_,_,J⟩
  refine qb J<|qb J<|qb J<|O (qf false) J<|q9 ?_
  obtain rfl:=qc f
  exact ⟨_,_,_,_,J⟩
 rintro _ ⟨ag,ah,ai,aj,rfl⟩
 refine q8 J<|qo ?_
 obtain rfl:=qc b
 exact qy (qf af) J
theorem qwl (a : qd) (r : Bool) (b : q21 a = some r) : Pure Tryz.prog tab 51 [.agg [G a.Lo.X,G a.Lo.Y,G a.Lo.Z,G a.Hi.X,G a.Hi.Y,G a.Hi.Z]] (.bool r):=by
 unfold q21 at b
 refine Qb Tryz.func51 J (by kernel_rfl) (by kernel_rfl) J<|qa<|Qe (.ref 0 6 0 0) (.dat 6 [[G a.Lo.X,G a.Lo.Y,G a.Lo.Z,G a.Hi.X,G a.Hi.Y,G a.Hi.Z]]) J<|q8 J<|qp<|O (.d (.agg [G a.Lo.X,G a.Lo.Y,G a.Lo.Z,G a.Hi.X,G a.Hi.Y,G a.Hi.Z])) J ?_
 obtain ⟨c,f,b⟩:=q7 b
 refine qv (qjt a c f) J<|O (qf (!c)) J<|q8 J<|qo ?_
 obtain rfl:=qc b
 exact qy (qf (!c)) J
theorem qor (k : Int) (r : Int) (a : q1h k = some r) : Pure Tryz.prog tab 154 [.int .u64 k] (G r):=by
 unfold q1h at a
 refine Qb Tryz.func154 J (by kernel_rfl) (by kernel_rfl) J<|qa<|q8 J<|q9<|qe<|qa<|U J<|O (.d (.bool (decide (k ≥ 4294967296)))) J<|q9 ?_
 obtain ⟨m,g,a⟩:=q7 a
 refine Kv (fun b=>b = m) (fun (b : Int × Int)=>⟨[(0,.d (.int .u64 b.1)),(2,q6 b.2)],[],0⟩) (by simp) ?_ ?_
 ·refine qj J g (fun _ g=>?_) (fun _ g=>?_)
  ·refine qa<|U J<|O (.d (.int .u64 (Int.fdiv k (2 ^ 32)))) J<|q8 J<|q9<|qt<|q8 J<|qq ?_
   obtain rfl:=qc g
   exact ⟨_,J,wkA [] [] []⟩
  refine qk<|Q8 ?_
  obtain rfl:=qc g
  exact ⟨_,J,wkA [] [] []⟩
 intro b hb
 subst hb
 refine qe<|qa<|U J<|O (.d (.bool (decide (b.1 ≥ 65536)))) J<|q9 ?_
 obtain ⟨n,h,a⟩:=q7 a
 refine Kv (fun c=>c = n) (fun (c : Int × Int)=>⟨[(0,.d (.int .u64 c.1)),(2,q6 c.2)],[],0⟩) (by simp) ?_ ?_
 ·refine qj J h (fun _ h=>?_) (fun _ h=>?_)
  ·refine qa<|U J<|O (.d (.int .u64 (Int.fdiv b.1 (2 ^ 16)))) J<|q8 J<|q9<|qt<|U J<|O (.d (G (w64 (b.2 + 16)))) J<|q8 J<|qq ?_
   obtain rfl:=qc h
   exact ⟨_,J,wkA [] [] []⟩
  refine qk<|Q8 ?_
  obtain rfl:=qc h
  exact ⟨_,J,wkA [] [] []⟩
 intro c hb
 subst hb
 refine qe<|qa<|U J<|O (.d (.bool (decide (c.1 ≥ 256)))) J<|q9 ?_
 obtain ⟨o,j,a⟩:=q7 a
 refine Kv (fun f=>f = o) (fun (f : Int × Int)=>⟨[(0,.d (.int .u64 f.1)),(2,q6 f.2)],[],0⟩) (by simp) ?_ ?_
 ·refine qj J j (fun _ j=>?_) (fun _ j=>?_)
  ·refine qa<|U J<|O (.d (.int .u64 (Int.fdiv c.1 (2 ^ 8)))) J<|q8 J<|q9<|qt<|U J<|O (.d (G (w64 (c.2 + 8)))) J<|q8 J<|qq ?_
   obtain rfl:=qc j
   exact ⟨_,J,wkA [] [] []⟩
  refine qk<|Q8 ?_
  obtain rfl:=qc j
  exact ⟨_,J,wkA [] [] []⟩
 intro f hb
 subst hb
 refine qa<|U J<|U J<|O (.d (.int .u8 (IntKind.wrap .u8 f.1))) J ?_
 obtain ⟨l,p,a⟩:=q7 a
 refine qpa qax p J J J J J<|O (q6 (w64 l)) J<|O (.d (G (w64 (f.2 + (w64 l))))) J<|q8 J<|qo ?_
 obtain rfl:=qc a
 exact qy (.d (G (w64 (f.2 + (w64 l))))) J
theorem qcp (b : Int) (r : Int) (a : Jw b = some r) : Pure Tryz.prog tab 133 [.int .u64 b] (G r):=by
 unfold Jw at a
 refine Qb Tryz.func133 J (by kernel_rfl) (by kernel_rfl) J<|qa<|q8 J<|q9<|qe<|U1 J<|qk<|qa<|U J ?_
 obtain ⟨c,d,a⟩:=q7 a
 refine qv (qor b c d) J<|q8 J<|qo ?_
 obtain rfl:=qc a
 exact qy (q6 c) J
theorem qf7 (a : Int) (r : Bool) (b : q6d a = some r) : Pure Tryz.prog tab 163 [G a] (.bool r):=by
 unfold q6d at b
 refine Qb Tryz.func163 J (by kernel_rfl) (by kernel_rfl) J<|qa<|q8 J<|qp<|U J<|U J<|O (qf (a != a)) J<|q8 J<|qo ?_
 obtain rfl:=qc b
 exact qy (qf (a != a)) J
theorem Yx (c : Int) (f : Int) (r : Bool) (a : Yh c f = some r) : Pure Tryz.prog tab 150 [G c,G f] (.bool r):=by
 unfold Yh at a
 refine Qb Tryz.func150 J (by kernel_rfl) (by kernel_rfl) J<|qa<|q8 J<|qp<|U J ?_
 obtain ⟨t,u,a⟩:=q7 a
 refine qv (qf7 c t u) J ?_
 obtain ⟨v,b,a⟩:=q7 a
 refine Q5 5 (fun A st=>∃ (j k l m : V),st = A [(11,qf v),(10,m),(9,l),(8,k),(7,j)]) ?_ ?_
 ·refine Q6 J J b (fun b=>?_) (fun b=>?_)
  ·refine U J ?_
   obtain ⟨h,w,b⟩:=q7 b
   refine qv (qf7 f h w) J<|O (qf (!h)) J<|O (qf (!h)) J<|q9 ?_
   obtain rfl:=qc b
   exact ⟨_,_,_,_,J⟩
  refine qb J<|qb J<|qb J<|O (qf false) J<|q9 ?_
  obtain rfl:=qc b
  exact ⟨_,_,_,_,J⟩
 rintro _ ⟨j,k,l,m,rfl⟩
 obtain ⟨n,g,a⟩:=q7 a
 refine Q5 5 (fun A st=>∃ (o p q s : V),st = A [(16,qf n),(15,s),(14,q),(13,p),(12,o)]) ?_ ?_
 ·refine Q6 J J g (fun g=>?_) (fun g=>?_)
  ·refine qb J<|qb J<|qb J<|O (qf true) J<|q9 ?_
   obtain rfl:=qc g
   exact ⟨_,_,_,_,J⟩
  refine U J<|U J<|O (.d (.bool (decide (c < f)))) J<|O (.d (.bool (decide (c < f)))) J<|q9 ?_
  obtain rfl:=qc g
  exact ⟨_,_,_,_,J⟩
 rintro _ ⟨o,p,q,s,rfl⟩
 refine q8 J<|qo ?_
 obtain rfl:=qc a
 exact qy (qf n) J
theorem qu3 (l : List Int) (c : Int) (j : Int) (r : List Int) (m : q5c  l c j = some r) : Qo Tryz.prog tab 144 [.hs 0 1 0 l.length,q6 c,q6 j] [(0,.dat 1 (l.map (eI .i64)))] 1 (.d (.tup [])) [(0,.dat 1 (r.map (eI .i64)))] 1:=by
 unfold q5c at m
 refine Qz Tryz.func144 J (by kernel_rfl) (by kernel_rfl) J<|qa<|U J<|O (.d (G (w64 (c + 1)))) J<|q8 J<|q9 ?_
 obtain ⟨al,am,m⟩:=q7 m
 refine qw<|Q4 (q5d j c) (fun (f : Int × List Int)=>⟨[(0,.hs 0 1 0 f.2.length),(1,q6 c),(2,q6 j),(6,q6 f.1)],[(0,.dat 1 (f.2.map (eI .i64)))],1⟩) (w64 (c + 1),l) al am (wkA [] [] []) ?_
 intro f au h
 unfold q5d at h
 refine qe<|qa<|U J<|U J<|O (.d (.bool (decide (f.1 < j)))) J<|q9 ?_
 refine qj J h (fun _ h=>?_) (fun _ h=>?_)
 ·refine qk<|qe ?_
  obtain ⟨an,n,h⟩:=q7 h
  refine Q9 (fun k=>k = an) (fun (k : List Int)=>⟨[(0,.hs 0 1 0 k.length),(1,q6 c),(2,q6 j),(6,q6 f.1)],[(0,.dat 1 (k.map (eI .i64)))],1⟩) (by simp) ?_ ?_
  ·refine qa<|U J<|q8 J<|q9 ?_
   obtain ⟨ao,ap,n⟩:=q7 n
   refine qw<|Q4 (q5e c) (fun (g : Int × List Int)=>⟨[(0,.hs 0 1 0 g.2.length),(1,q6 c),(2,q6 j),(6,q6 f.1),(7,q6 g.1)],[(0,.dat 1 (g.2.map (eI .i64)))],1⟩) (f.1,f.2) ao ap (wkA [] [] []) ?_
   intro g av a
   unfold q5e at a
   refine qe<|qe<|Q2 [q0,q0,qm 0,q0,q0,q0,q0,qm 0,q0,q0,q0,q0,q0,q0,q0] (by kernel_rfl)<|U J<|U J<|O (.d (.bool (decide (g.1 > c)))) J ?_
   obtain ⟨aq,b,a⟩:=q7 a
   refine Q5 12 (fun A st=>∃ (q s t u v w x y z aa ab : V),st = A [(30,qf aq),(29,ab),(28,aa),(27,z),(26,y),(25,x),(24,w),(23,v),(22,u),(21,t),(20,s),(19,q)]) ?_ ?_
   ·refine Q6 J J b (fun b=>?_) (fun b=>?_)
    ·refine U J<|U J ?_
     obtain ⟨ac,ad,b⟩:=q7 b
     refine qn ad J J<|qx (q6 ac) ad J<|U J<|U J<|O (.d (G (w64 (g.1 - 1)))) J ?_
     obtain ⟨ae,af,b⟩:=q7 b
     refine qn af J J<|qx (q6 ae) af J ?_
     obtain ⟨ag,ar,b⟩:=q7 b
     refine qv (Yx ac ae ag ar) J<|O (qf ag) J<|q9 ?_
     obtain rfl:=qc b
     exact ⟨_,_,_,_,_,_,_,_,_,_,_,J⟩
    refine qb J<|qb J<|qb J<|qb J<|qb J<|qb J<|qb J<|qb J<|qb J<|qb J<|O (qf false) J<|q9 ?_
    obtain rfl:=qc b
    exact ⟨_,_,_,_,_,_,_,_,_,_,_,J⟩
   rintro _ ⟨q,s,t,u,v,w,x,y,z,aa,ab,rfl⟩
   refine q9 ?_
   refine qj J a (fun _ a=>?_) (fun _ a=>?_)
   ·refine qk<|qe<|qw<|Q2 [Q7 0,q0,Q7 0,q0,qm 0,q0,q0,q0,qm 0,q0,q0,q0,q0,q0,q0,q0,q0,q0] (by kernel_rfl)<|U J<|U J<|U J<|U J<|O (.d (G (w64 (g.1 - 1)))) J<|U J<|U J<|O (.d (G (w64 (g.1 - 1)))) J ?_
    obtain ⟨o,ah,a⟩:=q7 a
    refine qn ah J J<|qx (q6 o) ah J<|U J<|U J ?_
    obtain ⟨p,ai,a⟩:=q7 a
    refine qn ai J J<|qx (q6 p) ai J ?_
    obtain ⟨aw,aj,a⟩:=q7 a
    refine qn aj J J<|Qi (ds:=[G o]) o aj J J J J J J J J (leb J) J ?_
    obtain ⟨ax,ak,a⟩:=q7 a
    refine qn ak (by simp) J<|Qi (ds:=[G p]) p ak J J J J J J J J (leb J) J<|qq<|Qa<|qt<|U J<|O (.d (G (w64 (g.1 - 1)))) J<|q8 J<|qq ?_
    exact ⟨_,(Option.some.inj a).symm,wkE [] [] [] J ⟨⟨_,J,Ql (by simp) J (by decide) (ltd J)⟩,⟨_,J,.d (.refl _)⟩,⟨_,J,.d (.refl _)⟩,⟨_,J,.d (.refl _)⟩,⟨_,J,.d (.refl _)⟩,trivial⟩ ⟨⟨ltd J,.inr ⟨by decide,_,J,.dat _ _⟩⟩,trivial⟩⟩
   refine Q1 ?_
   refine ⟨_,(Option.some.inj a).symm,fun hm=>?_⟩
   subst hm
   obtain rfl:=qc n
   exact ⟨_,J,wkA [] [] []⟩
  intro k hb
  subst hb
  refine qt<|U J<|O (.d (G (w64 (f.1 + 1)))) J<|q8 J<|qq ?_
  exact ⟨_,(Option.some.inj h).symm,wkA [] [] []⟩
 refine Q1 ?_
 refine ⟨_,(Option.some.inj h).symm,fun hm=>?_⟩
 subst hm
 obtain rfl:=qc m
 exact ⟨.inl J,_,J,wkA [] [] []⟩
theorem qjm (l : List Int) (m : Int) (g : Int) (c : Int) (r : List Int) (j : q3i  l m g c = some r) : Qo Tryz.prog tab 158 [.hs 0 1 0 l.length,q6 m,q6 g,q6 c] [(0,.dat 1 (l.map (eI .i64)))] 1 (.d (.tup [])) [(0,.dat 1 (r.map (eI .i64)))] 1:=by
 unfold q3i at j
 refine Qz Tryz.func158 J (by kernel_rfl) (by kernel_rfl) J<|qa<|U J<|q8 J<|q9 ?_
 obtain ⟨av,aw,j⟩:=q7 j
 refine qw<|Q4 (q60 g c) (fun (b : Int × List Int)=>⟨[(0,.hs 0 1 0 b.2.length),(2,q6 g),(3,q6 c),(8,q6 b.1)],[(0,.dat 1 (b.2.map (eI .i64)))],1⟩) (m,l) av aw (wkA [] [] []) ?_
 intro b bb a
 unfold q60 at a
 refine qw<|qa<|U J<|O (.d (G (w64 (2 * b.1)))) J<|O (.d (G (w64 ((w64 (2 * b.1)) + 1)))) J<|q8 J<|q9<|qe<|qa<|U J<|U J<|O (.d (.bool (decide ((w64 ((w64 (2 * b.1)) + 1)) ≥ g)))) J<|q9 ?_
 refine qj J a (fun _ a=>?_) (fun _ a=>?_)
 ·refine Q1 ?_
  refine ⟨_,(Option.some.inj a).symm,fun hm=>?_⟩
  subst hm
  obtain rfl:=qc j
  exact ⟨.inl J,_,J,wkA [] [] []⟩
 refine qk<|qe<|qe<|Q2 [q0,q0,qm 0,q0,q0,q0,q0,q0,q0,qm 0,q0,q0,q0,q0,q0,q0,q0,q0,q0,q0] (by kernel_rfl)<|U J<|O (.d (G (w64 ((w64 ((w64 (2 * b.1)) + 1)) + 1)))) J<|U J<|O (.d (.bool (decide ((w64 ((w64 ((w64 (2 * b.1)) + 1)) + 1)) < g)))) J ?_
 obtain ⟨ax,f,a⟩:=q7 a
 refine Q5 16 (fun A st=>∃ (p q s t u v w x y z aa ab ac ad ae : V),st = A [(36,qf ax),(35,ae),(34,ad),(33,ac),(32,ab),(31,aa),(30,z),(29,y),(28,x),(27,w),(26,v),(25,u),(24,t),(23,s),(22,q),(21,p)]) ?_ ?_
 ·refine Q6 J J f (fun f=>?_) (fun f=>?_)
  ·refine U J<|U J<|U J<|O (.d (G (w64 (c + (w64 ((w64 (2 * b.1)) + 1)))))) J ?_
   obtain ⟨af,ag,f⟩:=q7 f
   refine qn ag J J<|qx (q6 af) ag J<|U J<|U J<|U J<|O (.d (G (w64 (c + (w64 ((w64 (2 * b.1)) + 1)))))) J<|O (.d (G (w64 ((w64 (c + (w64 ((w64 (2 * b.1)) + 1)))) + 1)))) J ?_
   obtain ⟨ah,ai,f⟩:=q7 f
   refine qn ai J J<|qx (q6 ah) ai J ?_
   obtain ⟨aj,ay,f⟩:=q7 f
   refine qv (Yx af ah aj ay) J<|O (qf aj) J<|q9 ?_
   obtain rfl:=qc f
   exact ⟨_,_,_,_,_,_,_,_,_,_,_,_,_,_,_,J⟩
  refine qb J<|qb J<|qb J<|qb J<|qb J<|qb J<|qb J<|qb J<|qb J<|qb J<|qb J<|qb J<|qb J<|qb J<|O (qf false) J<|q9 ?_
  obtain rfl:=qc f
  exact ⟨_,_,_,_,_,_,_,_,_,_,_,_,_,_,_,J⟩
 rintro _ ⟨p,q,s,t,u,v,w,x,y,z,aa,ab,ac,ad,ae,rfl⟩
 refine q9 ?_
 obtain ⟨az,k,a⟩:=q7 a
 refine Kv (fun h=>h = az) (fun (h : Int)=>⟨[(0,.hs 0 1 0 b.2.length),(2,q6 g),(3,q6 c),(8,q6 b.1),(9,q6 h)],[(0,.dat 1 (b.2.map (eI .i64)))],1⟩) (by simp) ?_ ?_
 ·refine qj J k (fun _ k=>?_) (fun _ k=>?_)
  ·refine qt<|U J<|O (.d (G (w64 ((w64 ((w64 (2 * b.1)) + 1)) + 1)))) J<|q8 J<|qq ?_
   obtain rfl:=qc k
   exact ⟨_,J,wkA [] [] []⟩
  refine qk<|Q8 ?_
  obtain rfl:=qc k
  exact ⟨_,J,wkA [] [] []⟩
 intro h hb
 subst hb
 refine qe<|qe<|Q2 [q0,q0,qm 0,q0,q0,q0,q0,q0,qm 0,q0,q0,q0,q0,q0] (by kernel_rfl)<|U J<|U J<|U J<|O (.d (G (w64 (c + b.1)))) J ?_
 obtain ⟨ak,al,a⟩:=q7 a
 refine qn al J J<|qx (q6 ak) al J<|U J<|U J<|U J<|O (.d (G (w64 (c + h)))) J ?_
 obtain ⟨am,an,a⟩:=q7 a
 refine qn an J J<|qx (q6 am) an J ?_
 obtain ⟨ao,ba,a⟩:=q7 a
 refine qv (Yx ak am ao ba) J<|O (qf (!ao)) J<|q9 ?_
 refine qj J a (fun _ a=>?_) (fun _ a=>?_)
 ·refine q36 ?_
  refine ⟨_,(Option.some.inj a).symm,fun hm=>?_⟩
  subst hm
  obtain rfl:=qc j
  exact ⟨.inr J,_,J,wkA [] [] []⟩
 refine qk<|qe<|Q2 [Q7 0,q0,Q7 0,q0,qm 0,q0,q0,q0,q0,q0,qm 0,q0,q0,q0,q0,q0,q0,q0,q0,q0,q0,q0,q0,q0] (by kernel_rfl)<|U J<|U J<|U J<|O (.d (G (w64 (c + b.1)))) J<|U J<|U J<|U J<|O (.d (G (w64 (c + h)))) J<|U J<|U J<|U J<|O (.d (G (w64 (c + h)))) J ?_
 obtain ⟨n,ap,a⟩:=q7 a
 refine qn ap J J<|qx (q6 n) ap J<|U J<|U J<|U J<|O (.d (G (w64 (c + b.1)))) J ?_
 obtain ⟨o,aq,a⟩:=q7 a
 refine qn aq J J<|qx (q6 o) aq J ?_
 obtain ⟨bc,ar,a⟩:=q7 a
 refine qn ar J J<|Qi (ds:=[G n]) n ar J J J J J J J J (leb J) J ?_
 obtain ⟨bd,au,a⟩:=q7 a
 refine qn au (by simp) J<|Qi (ds:=[G o]) o au J J J J J J J J (leb J) J<|q9<|qt<|U J<|q8 J<|qq<|Qa<|Q8 ?_
 exact ⟨_,(Option.some.inj a).symm,wkE [] [] [] J ⟨⟨_,J,Ql (by simp) J (by decide) (ltd J)⟩,⟨_,J,.d (.refl _)⟩,⟨_,J,.d (.refl _)⟩,⟨_,J,.d (.refl _)⟩,trivial⟩ ⟨⟨ltd J,.inr ⟨by decide,_,J,.dat _ _⟩⟩,trivial⟩⟩
theorem qu1 (l : List Int) (a : Int) (c : Int) (r : List Int) (j : q59  l a c = some r) : Qo Tryz.prog tab 145 [.hs 0 1 0 l.length,q6 a,q6 c] [(0,.dat 1 (l.map (eI .i64)))] 1 (.d (.tup [])) [(0,.dat 1 (r.map (eI .i64)))] 1:=by
 unfold q59 at j
 refine Qz Tryz.func145 J (by kernel_rfl) (by kernel_rfl) J<|qa<|U J<|q8 J<|qp<|q8 J<|qp<|U J<|U J<|O (.d (G (w64 (c - a)))) J<|q8 J<|q9<|qe<|qa<|U J<|O (.d (G (w64 ((w64 (c - a)) - 1)))) J<|O (.d (G (w64 (Int.tdiv (w64 ((w64 (c - a)) - 1)) 2)))) J<|q8 J<|q9 ?_
 obtain ⟨p,w,j⟩:=q7 j
 refine Q9 (fun k=>k = p) (fun (k : List Int)=>⟨[(0,.hs 0 1 0 k.length),(6,q6 a),(7,q6 0),(8,.d (G (w64 (c - a))))],[(0,.dat 1 (k.map (eI .i64)))],1⟩) (by simp) ?_ ?_
 ·refine Q4 (q5a c a) (fun (g : Int × List Int)=>⟨[(0,.hs 0 1 0 g.2.length),(6,q6 a),(7,q6 0),(8,.d (G (w64 (c - a)))),(9,q6 g.1)],[(0,.dat 1 (g.2.map (eI .i64)))],1⟩) (w64 (Int.tdiv (w64 ((w64 (c - a)) - 1)) 2),l) p w (wkA [] [] []) ?_
  intro g af h
  unfold q5a at h
  refine qe<|qa<|U J<|O (.d (.bool (decide (g.1 ≥ 0)))) J<|q9 ?_
  refine qj J h (fun _ h=>?_) (fun _ h=>?_)
  ·refine qk<|qe<|qw<|qt<|U J<|U J<|U J<|U J ?_
   obtain ⟨q,x,h⟩:=q7 h
   obtain ⟨ag,y,h⟩:=q7 h
   have z:=K3 y
   refine Qr [(0,0)] [(0,0)] [.hs 0 1 0 g.2.length,q6 g.1,.d (G (w64 (c - a))),q6 a] (.d (.tup [])) 1 [(0,.dat 1 (q.map (eI .i64)))] 1 (qjm g.2 g.1 (w64 (c - a)) a q x)<|qq<|Qa<|qt<|U J<|O (.d (G (w64 (g.1 - 1)))) J<|q8 J<|qq ?_
   exact ⟨_,(Option.some.inj h).symm,wkE [] [] [] J ⟨⟨_,J,Ql (by simp [z]) J (by decide) (ltd J)⟩,⟨_,J,.d (.refl _)⟩,⟨_,J,.d (.refl _)⟩,⟨_,J,.d (.refl _)⟩,⟨_,J,.d (.refl _)⟩,trivial⟩ ⟨⟨ltd J,.inr ⟨by decide,_,J,.dat _ _⟩⟩,trivial⟩⟩
  refine Q1 ?_
  refine ⟨_,(Option.some.inj h).symm,fun hm=>?_⟩
  subst hm
  exact ⟨_,J,wkA [] [] []⟩
 intro k hb
 subst hb
 refine qa<|U J<|O (.d (G (w64 ((w64 (c - a)) - 1)))) J<|q8 J<|q9 ?_
 obtain ⟨aa,ab,j⟩:=q7 j
 refine qw<|Q4 (q5b a) (fun (f : Int × List Int)=>⟨[(0,.hs 0 1 0 f.2.length),(6,q6 a),(7,q6 0),(10,q6 f.1)],[(0,.dat 1 (f.2.map (eI .i64)))],1⟩) (w64 ((w64 (c - a)) - 1),k) aa ab (wkA [] [] []) ?_
 intro f ah b
 unfold q5b at b
 refine qe<|qa<|U J<|O (.d (.bool (decide (f.1 ≥ 0)))) J<|q9 ?_
 refine qj J b (fun _ b=>?_) (fun _ b=>?_)
 ·refine qk<|qe<|qw<|qe<|Q2 [Q7 0,q0,Q7 0,q0,qm 0,q0,q0,q0,qm 0,q0,q0,q0,q0,q0,q0,q0,q0,q0,q0,q0] (by kernel_rfl)<|U J<|U J<|U J<|U J<|U J<|O (.d (G (w64 (a + f.1)))) J<|U J<|U J<|U J<|O (.d (G (w64 (a + f.1)))) J ?_
  obtain ⟨m,s,b⟩:=q7 b
  refine qn s J J<|qx (q6 m) s J<|U J<|U J ?_
  obtain ⟨n,t,b⟩:=q7 b
  refine qn t J J<|qx (q6 n) t J ?_
  obtain ⟨ai,u,b⟩:=q7 b
  refine qn u J J<|Qi (ds:=[G m]) m u J J J J J J J J (leb J) J ?_
  obtain ⟨aj,v,b⟩:=q7 b
  refine qn v (by simp) J<|Qi (ds:=[G n]) n v J J J J J J J J (leb J) J<|q9<|qt<|U J<|U J<|U J<|U J ?_
  obtain ⟨o,ac,b⟩:=q7 b
  obtain ⟨ak,ad,b⟩:=q7 b
  have ae:=K3 ad
  refine Jx [(0,0)] [(0,0)] [.hs 0 1 0 f.2.length,q6 0,q6 f.1,q6 a] (.d (.tup [])) [(0,.dat 1 (o.map (eI .i64)))] [(0,.dat 1 (o.map (eI .i64)))] 1 (qjm ((f.2.set a.toNat m).set (w64 (a + f.1)).toNat n) 0 f.1 a o ac) J J J (Y6 [(0,0)] [] [] J ⟨⟨_,J,Ql (by simp) J (by decide) (ltd J)⟩,⟨_,J,.d (.refl _)⟩,⟨_,J,.d (.refl _)⟩,⟨_,J,.d (.refl _)⟩,trivial⟩ ⟨⟨ltd J,.inr ⟨by decide,_,J,.dat _ _⟩⟩,trivial⟩) (Y6 [(0,0)] [] [] J ⟨⟨_,J,.d (.refl _)⟩,trivial⟩ ⟨⟨ltd J,.inr ⟨by decide,_,J,.dat _ _⟩⟩,trivial⟩) J ⟨.inl J,trivial⟩<|qq<|Qa<|qt<|U J<|O (.d (G (w64 (f.1 - 1)))) J<|q8 J<|qq ?_
  exact ⟨_,(Option.some.inj b).symm,wkE [] [] [] J ⟨⟨_,J,Ql (by simp [ae]) J (by decide) (ltd J)⟩,⟨_,J,.d (.refl _)⟩,⟨_,J,.d (.refl _)⟩,⟨_,J,.d (.refl _)⟩,trivial⟩ ⟨⟨ltd J,.inr ⟨by decide,_,J,.dat _ _⟩⟩,trivial⟩⟩
 refine Q1 ?_
 refine ⟨_,(Option.some.inj b).symm,fun hm=>?_⟩
 subst hm
 obtain rfl:=qc j
 exact ⟨.inl J,_,J,wkA [] [] []⟩
theorem qe1 (c : List Int) (f : Int) (g : Int) (b : Int) (r : Int × Int × Int) (a : q1y  c f g b = some r) : Qo Tryz.prog tab 167 [.d (.sl 1 (c.map (eI .i64))),q6 f,q6 g,.ref 0 1 0 0] [(0,.dat 1 [[G b]])] 1 (.d (.tup [G r.1,G r.2.1])) [(0,.dat 1 [[G r.2.2]])] 1:=by
 unfold q1y at a
 refine Qz Tryz.func167 J (by kernel_rfl) (by kernel_rfl) J<|qa<|q8 J<|q8 J<|q9<|qe<|qe<|Q2 [q0,q0,q0,q0,q0,q0,q0,q0,q0] (by kernel_rfl)<|U J<|U J ?_
 obtain ⟨h,k,a⟩:=q7 a
 refine Q3 (enc:=(eI .i64)) k J<|O (q6 h) J<|U J<|U J ?_
 obtain ⟨j,l,a⟩:=q7 a
 refine Q3 (enc:=(eI .i64)) l J<|O (q6 j) J ?_
 obtain ⟨m,n,a⟩:=q7 a
 refine qv (Yx h j m n) J<|q9 ?_
 refine qj J a (fun _ a=>?_) (fun _ a=>?_)
 ·refine qa<|U J<|O (.ref 0 1 0 0) J<|O (q6 b) J<|O (.d (G (w64 (b + 1)))) J<|O (.ref 0 1 0 0) J<|qz 0 (.dat 1 [[G (w64 (b + 1))]]) J<|qp<|U J<|U J<|q8 J<|q8 J<|qo ?_
  obtain rfl:=qc a
  exact ⟨.inr J,_,J,wkA [] [] []⟩
 refine qk<|qa<|U J<|U J<|q8 J<|q8 J<|qo ?_
 obtain rfl:=qc a
 exact ⟨.inr J,_,J,wkA [] [] []⟩
theorem qjj (c : List Int) (h : Int) (j : Int) (k : Int) (l : Int) (r : Int × Int) (f : q3c  c h j k l = some r) : Qo Tryz.prog tab 162 [.d (.sl 1 (c.map (eI .i64))),q6 h,q6 j,q6 k,.ref 0 1 0 0] [(0,.dat 1 [[G l]])] 1 (q6 r.1) [(0,.dat 1 [[G r.2]])] 1:=by
 unfold q3c at f
 refine Qz Tryz.func162 J (by kernel_rfl) (by kernel_rfl) J<|qa<|q8 J<|qp<|U J<|U J<|U J<|U J ?_
 obtain ⟨a,m,f⟩:=q7 f
 refine Qr [(0,0)] [(0,0)] [.d (.sl 1 (c.map (eI .i64))),q6 h,q6 j,.ref 0 1 0 0] (.d (.tup [G a.1,G a.2.1])) 1 [(0,.dat 1 [[G a.2.2]])] 1 (qe1 c h j l a m)<|U J<|O (q6 a.1) J<|O (q6 a.2.1) J<|q8 J<|q8 J<|qp<|U J<|U J<|U J<|U J ?_
 obtain ⟨b,n,f⟩:=q7 f
 refine Qr [(0,0)] [(0,0)] [.d (.sl 1 (c.map (eI .i64))),q6 a.2.1,q6 k,.ref 0 1 0 0] (.d (.tup [G b.1,G b.2.1])) 1 [(0,.dat 1 [[G b.2.2]])] 1 (qe1 c a.2.1 k a.2.2 b n)<|U J<|O (q6 b.1) J<|O (q6 b.2.1) J<|q8 J<|q8 J<|qp<|U J<|U J<|U J<|U J ?_
 obtain ⟨g,o,f⟩:=q7 f
 refine Qr [(0,0)] [(0,0)] [.d (.sl 1 (c.map (eI .i64))),q6 a.1,q6 b.1,.ref 0 1 0 0] (.d (.tup [G g.1,G g.2.1])) 1 [(0,.dat 1 [[G g.2.2]])] 1 (qe1 c a.1 b.1 b.2.2 g o)<|U J<|O (q6 g.1) J<|O (q6 g.2.1) J<|q8 J<|q8 J<|qp<|U J<|q8 J<|qo ?_
 obtain rfl:=qc f
 exact ⟨.inr J,_,J,wkA [] [] []⟩
theorem qdz (b : List Int) (a : Int) (f : Int) (r : Int × Int) (c : q1x  b a f = some r) : Qo Tryz.prog tab 161 [.d (.sl 1 (b.map (eI .i64))),q6 a,.ref 0 1 0 0] [(0,.dat 1 [[G f]])] 1 (q6 r.1) [(0,.dat 1 [[G r.2]])] 1:=by
 unfold q1x at c
 refine Qz Tryz.func161 J (by kernel_rfl) (by kernel_rfl) J<|qa<|q8 J<|qp<|U J<|U J<|O (.d (G (w64 (a - 1)))) J<|U J<|U J<|O (.d (G (w64 (a + 1)))) J<|U J ?_
 obtain ⟨g,h,c⟩:=q7 c
 refine Qr [(0,0)] [(0,0)] [.d (.sl 1 (b.map (eI .i64))),.d (G (w64 (a - 1))),q6 a,.d (G (w64 (a + 1))),.ref 0 1 0 0] (q6 g.1) 1 [(0,.dat 1 [[G g.2]])] 1 (qjj b (w64 (a - 1)) a (w64 (a + 1)) f g h)<|q8 J<|qo ?_
 obtain rfl:=qc c
 exact ⟨.inr J,_,J,wkA [] [] []⟩
theorem qtz (g : List Int) (a : Int) (b : Int) (r : Int × Int) (f : q58 g a b = some r) : Pure Tryz.prog tab 147 [.sl 1 (g.map (eI .i64)),G a,G b] (.tup [G r.1,G r.2]):=by
 unfold q58 at f
 refine Qb Tryz.func147 J (by kernel_rfl) (by kernel_rfl) J<|qa<|q8 J<|q8 J<|qp<|U J<|U J<|O (.d (G (w64 (b - a)))) J<|q8 J<|qp<|Qk J J<|qp<|U J<|U J<|O (.d (G (w64 (Int.tdiv (w64 (b - a)) 4)))) J<|O (.d (G (w64 ((w64 (Int.tdiv (w64 (b - a)) 4)) * 1)))) J<|O (.d (G (w64 (a + (w64 ((w64 (Int.tdiv (w64 (b - a)) 4)) * 1)))))) J<|q8 J<|qp<|U J<|U J<|O (.d (G (w64 (Int.tdiv (w64 (b - a)) 4)))) J<|O (.d (G (w64 ((w64 (Int.tdiv (w64 (b - a)) 4)) * 2)))) J<|O (.d (G (w64 (a + (w64 ((w64 (Int.tdiv (w64 (b - a)) 4)) * 2)))))) J<|q8 J<|qp<|U J<|U J<|O (.d (G (w64 (Int.tdiv (w64 (b - a)) 4)))) J<|O (.d (G (w64 ((w64 (Int.tdiv (w64 (b - a)) 4)) * 3)))) J<|O (.d (G (w64 (a + (w64 ((w64 (Int.tdiv (w64 (b - a)) 4)) * 3)))))) J<|q8 J<|q9<|qe<|qa<|U J<|O (.d (.bool (decide ((w64 (b - a)) ≥ 8)))) J<|q9 ?_
 obtain ⟨p,k,f⟩:=q7 f
 refine Kv (fun h=>h = p) (fun (h : Int × Int)=>⟨[(9,.ref 0 1 0 0),(11,q6 h.1)],[(0,.dat 1 [[G h.2]])],1⟩) (by simp) ?_ ?_
 ·refine qj J k (fun _ k=>?_) (fun _ k=>?_)
  ·refine qe<|qa<|U J<|O (.d (.bool (decide ((w64 (b - a)) ≥ 50)))) J<|q9 ?_
   obtain ⟨q,j,k⟩:=q7 k
   refine Kv (fun c=>c = q) (fun (c : Int × Int × Int × Int)=>⟨[(0,.d (.sl 1 (g.map (eI .i64)))),(9,.ref 0 1 0 0),(10,q6 c.1),(11,q6 c.2.1),(12,q6 c.2.2.1)],[(0,.dat 1 [[G c.2.2.2]])],1⟩) (by simp) ?_ ?_
   ·refine qj J j (fun _ j=>?_) (fun _ j=>?_)
    ·refine qa<|U J<|U J ?_
     obtain ⟨l,s,j⟩:=q7 j
     refine Qr [(0,0)] [(0,0)] [.d (.sl 1 (g.map (eI .i64))),.d (G (w64 (a + (w64 ((w64 (Int.tdiv (w64 (b - a)) 4)) * 1))))),.ref 0 1 0 0] (q6 l.1) 1 [(0,.dat 1 [[G l.2]])] 1 (qdz g (w64 (a + (w64 ((w64 (Int.tdiv (w64 (b - a)) 4)) * 1)))) 0 l s)<|q8 J<|qp<|U J<|U J ?_
     obtain ⟨m,t,j⟩:=q7 j
     refine Qr [(0,0)] [(0,0)] [.d (.sl 1 (g.map (eI .i64))),.d (G (w64 (a + (w64 ((w64 (Int.tdiv (w64 (b - a)) 4)) * 2))))),.ref 0 1 0 0] (q6 m.1) 1 [(0,.dat 1 [[G m.2]])] 1 (qdz g (w64 (a + (w64 ((w64 (Int.tdiv (w64 (b - a)) 4)) * 2)))) l.2 m t)<|q8 J<|q9<|qt<|U J<|U J ?_
     obtain ⟨n,u,j⟩:=q7 j
     refine Qr [(0,0)] [(0,0)] [.d (.sl 1 (g.map (eI .i64))),.d (G (w64 (a + (w64 ((w64 (Int.tdiv (w64 (b - a)) 4)) * 3))))),.ref 0 1 0 0] (q6 n.1) 1 [(0,.dat 1 [[G n.2]])] 1 (qdz g (w64 (a + (w64 ((w64 (Int.tdiv (w64 (b - a)) 4)) * 3)))) m.2 n u)<|q8 J<|qq ?_
     obtain rfl:=qc j
     exact ⟨_,J,wkA [(0,0)] [] []⟩
    refine qk<|Q8 ?_
    obtain rfl:=qc j
    exact ⟨_,J,wkA [(0,0)] [] []⟩
   intro c hb
   subst hb
   refine qt<|U J<|U J<|U J<|U J ?_
   obtain ⟨o,v,k⟩:=q7 k
   refine Qr [(0,0)] [(0,0)] [.d (.sl 1 (g.map (eI .i64))),q6 c.1,q6 c.2.1,q6 c.2.2.1,.ref 0 1 0 0] (q6 o.1) 1 [(0,.dat 1 [[G o.2]])] 1 (qjj g c.1 c.2.1 c.2.2.1 c.2.2.2 o v)<|q8 J<|qq ?_
   obtain rfl:=qc k
   exact ⟨_,J,wkA [(0,0)] [] []⟩
  refine qk<|Q8 ?_
  obtain rfl:=qc k
  exact ⟨_,J,wkA [(0,0)] [] []⟩
 intro h hb
 subst hb
 refine qa<|O (q6 h.2) J<|q9<|qw<|qa<|O (qf (h.2 == 0)) J<|q8 J<|q9 ?_
 refine qj J f (fun _ f=>?_) (fun _ f=>?_)
 ·refine qa<|U J<|q8 J<|q8 J<|qo ?_
  obtain rfl:=qc f
  exact qy (.d (.tup [G h.1,G 1])) J
 refine qa<|O (qf (h.2 == 12)) J<|q8 J<|q9 ?_
 refine qj J f (fun _ f=>?_) (fun _ f=>?_)
 ·refine qa<|U J<|q8 J<|q8 J<|qo ?_
  obtain rfl:=qc f
  exact qy (.d (.tup [G h.1,G 2])) J
 refine qa<|U J<|q8 J<|q8 J<|qo ?_
 obtain rfl:=qc f
 exact qy (.d (.tup [G h.1,G 0])) J
theorem quf (c : List Int) (h : Int) (f : Int) (r : List Int) (g : q5y  c h f = some r) : Qo Tryz.prog tab 148 [.hs 0 1 0 c.length,q6 h,q6 f] [(0,.dat 1 (c.map (eI .i64)))] 1 (.d (.tup [])) [(0,.dat 1 (r.map (eI .i64)))] 1:=by
 unfold q5y at g
 refine Qz Tryz.func148 J (by kernel_rfl) (by kernel_rfl) J<|qa<|U J<|q8 J<|qp<|U J<|O (.d (G (w64 (f - 1)))) J<|q8 J<|q9 ?_
 obtain ⟨p,q,g⟩:=q7 g
 refine qw<|Q4 (q8k) (fun (b : Int × Int × List Int)=>⟨[(0,.hs 0 1 0 b.2.2.length),(6,q6 b.1),(7,q6 b.2.1)],[(0,.dat 1 (b.2.2.map (eI .i64)))],1⟩) (h,w64 (f - 1),c) p q (wkA [] [] []) ?_
 intro b s a
 unfold q8k at a
 refine qe<|qa<|U J<|U J<|O (.d (.bool (decide (b.1 < b.2.1)))) J<|q9 ?_
 refine qj J a (fun _ a=>?_) (fun _ a=>?_)
 ·refine qk<|qw<|qe<|Q2 [Q7 0,q0,Q7 0,q0,qm 0,q0,q0,q0,qm 0,q0,q0,q0,q0,q0,q0,q0] (by kernel_rfl)<|U J<|U J<|U J<|U J<|U J<|U J ?_
  obtain ⟨j,l,a⟩:=q7 a
  refine qn l J J<|qx (q6 j) l J<|U J<|U J ?_
  obtain ⟨k,m,a⟩:=q7 a
  refine qn m J J<|qx (q6 k) m J ?_
  obtain ⟨t,n,a⟩:=q7 a
  refine qn n J J<|Qi (ds:=[G j]) j n J J J J J J J J (leb J) J ?_
  obtain ⟨u,o,a⟩:=q7 a
  refine qn o (by simp) J<|Qi (ds:=[G k]) k o J J J J J J J J (leb J) J<|qp<|U J<|O (.d (G (w64 (b.1 + 1)))) J<|q8 J<|q9<|qt<|U J<|O (.d (G (w64 (b.2.1 - 1)))) J<|q8 J<|qq<|Qa<|Q8 ?_
  exact ⟨_,(Option.some.inj a).symm,wkE [] [] [] J ⟨⟨_,J,Ql (by simp) J (by decide) (ltd J)⟩,⟨_,J,.d (.refl _)⟩,⟨_,J,.d (.refl _)⟩,trivial⟩ ⟨⟨ltd J,.inr ⟨by decide,_,J,.dat _ _⟩⟩,trivial⟩⟩
 refine Q1 ?_
 refine ⟨_,(Option.some.inj a).symm,fun hm=>?_⟩
 subst hm
 obtain rfl:=qc g
 exact ⟨.inl J,_,J,wkA [] [] []⟩
theorem qu5 (v : List Int) (j : Int) (h : Int) (r : Bool × List Int) (q : q3e  v j h = some r) : Qo Tryz.prog tab 149 [.hs 0 1 0 v.length,q6 j,q6 h] [(0,.dat 1 (v.map (eI .i64)))] 1 (qf r.1) [(0,.dat 1 (r.2.map (eI .i64)))] 1:=by
 unfold q3e at q
 refine Qz Tryz.func149 J (by kernel_rfl) (by kernel_rfl) J<|qa<|q8 J<|qp<|U J<|O (.d (G (w64 (j + 1)))) J<|q8 J<|q9<|qe<|qa<|q8 J<|q9 ?_
 obtain ⟨ae,bu,q⟩:=q7 q
 refine Q9 (fun w=>.inl w = ae) (fun (w : List Int)=>⟨[],[(0,.dat 1 (w.map (eI .i64)))],1⟩) (by simp) ?_ ?_
 ·refine Q4 (q3f h j) (fun (g : Int × Int × List Int)=>⟨[(0,.hs 0 1 0 g.2.2.length),(1,q6 j),(2,q6 h),(7,q6 g.1),(8,q6 g.2.1)],[(0,.dat 1 (g.2.2.map (eI .i64)))],1⟩) (w64 (j + 1),0,v) ae bu (wkA [] [] []) ?_
  intro g ch l
  unfold q3f at l
  refine qe<|qa<|U J<|O (.d (.bool (decide (g.2.1 < 5)))) J<|q9 ?_
  refine qj J l (fun _ l=>?_) (fun _ l=>?_)
  ·refine qk<|qe ?_
   obtain ⟨bv,a,l⟩:=q7 l
   refine Q9 (fun s=>.inl s = bv) (fun (s : Int × List Int)=>⟨[(0,.hs 0 1 0 s.2.length),(1,q6 j),(2,q6 h),(7,q6 s.1),(8,q6 g.2.1)],[(0,.dat 1 (s.2.map (eI .i64)))],1⟩) (by simp) ?_ ?_
   ·refine qe ?_
    obtain ⟨af,bw,a⟩:=q7 a
    refine Q9 (fun f=>f = af) (fun (f : Int)=>⟨[(0,.hs 0 1 0 g.2.2.length),(1,q6 j),(2,q6 h),(7,q6 f),(8,q6 g.2.1)],[(0,.dat 1 (g.2.2.map (eI .i64)))],1⟩) (by simp) ?_ ?_
    ·refine Q4 (q5i h g) (fun (u : Int)=>⟨[(0,.hs 0 1 0 g.2.2.length),(1,q6 j),(2,q6 h),(7,q6 u),(8,q6 g.2.1)],[(0,.dat 1 (g.2.2.map (eI .i64)))],1⟩) g.1 af bw (wkA [] [] []) ?_
     intro u ci o
     unfold q5i at o
     refine qe<|qe<|Q2 [q0,q0,q0,qm 0,q0,q0,q0,q0,qm 0,q0,q0,q0,q0,q0,q0,q0] (by kernel_rfl)<|U J<|U J<|O (.d (.bool (decide (u < h)))) J ?_
     obtain ⟨bx,k,o⟩:=q7 o
     refine Q5 13 (fun A st=>∃ (ag ah ai aj ak al am an ao ap aq ar : V),st = A [(32,qf bx),(31,ar),(30,aq),(29,ap),(28,ao),(27,an),(26,am),(25,al),(24,ak),(23,aj),(22,ai),(21,ah),(20,ag)]) ?_ ?_
     ·refine Q6 J J k (fun k=>?_) (fun k=>?_)
      ·refine U J<|U J ?_
       obtain ⟨au,av,k⟩:=q7 k
       refine qn av J J<|qx (q6 au) av J<|U J<|U J<|O (.d (G (w64 (u - 1)))) J ?_
       obtain ⟨aw,ax,k⟩:=q7 k
       refine qn ax J J<|qx (q6 aw) ax J ?_
       obtain ⟨z,bz,k⟩:=q7 k
       refine qv (Yx au aw z bz) J<|O (qf (!z)) J<|O (qf (!z)) J<|q9 ?_
       obtain rfl:=qc k
       exact ⟨_,_,_,_,_,_,_,_,_,_,_,_,J⟩
      refine qb J<|qb J<|qb J<|qb J<|qb J<|qb J<|qb J<|qb J<|qb J<|qb J<|qb J<|O (qf false) J<|q9 ?_
      obtain rfl:=qc k
      exact ⟨_,_,_,_,_,_,_,_,_,_,_,_,J⟩
     rintro _ ⟨ag,ah,ai,aj,ak,al,am,an,ao,ap,aq,ar,rfl⟩
     refine q9 ?_
     refine qj J o (fun _ o=>?_) (fun _ o=>?_)
     ·refine qk<|qw<|qt<|U J<|O (.d (G (w64 (u + 1)))) J<|q8 J<|qq<|Qa<|Q8 ?_
      exact ⟨_,(Option.some.inj o).symm,wkA [] [] []⟩
     refine Q1 ?_
     refine ⟨_,(Option.some.inj o).symm,fun hm=>?_⟩
     subst hm
     exact ⟨_,J,wkA [] [] []⟩
    intro f hb
    subst hb
    refine qe<|qa<|U J<|U J<|O (qf (f == h)) J<|q9 ?_
    refine qj J a (fun _ a=>?_) (fun _ a=>?_)
    ·refine qa<|q8 J<|qo ?_
     obtain rfl:=qc a
     refine ⟨_,(Option.some.inj l).symm,fun hm=>?_⟩
     subst hm
     obtain rfl:=qc q
     exact ⟨.inr J,_,J,wkA [] [] []⟩
    refine qk<|qe<|qa<|U J<|U J<|O (.d (G (w64 (h - j)))) J<|O (.d (.bool (decide ((w64 (h - j)) < 50)))) J<|q9 ?_
    refine qj J a (fun _ a=>?_) (fun _ a=>?_)
    ·refine qa<|q8 J<|qo ?_
     obtain rfl:=qc a
     refine ⟨_,(Option.some.inj l).symm,fun hm=>?_⟩
     subst hm
     obtain rfl:=qc q
     exact ⟨.inr J,_,J,wkA [] [] []⟩
    refine qk<|qe<|Q2 [Q7 0,q0,Q7 0,q0,qm 0,q0,q0,q0,qm 0,q0,q0,q0,q0,q0,q0,q0,q0,q0] (by kernel_rfl)<|U J<|U J<|U J<|U J<|O (.d (G (w64 (f - 1)))) J<|U J<|U J<|O (.d (G (w64 (f - 1)))) J ?_
    obtain ⟨x,ay,a⟩:=q7 a
    refine qn ay J J<|qx (q6 x) ay J<|U J<|U J ?_
    obtain ⟨y,az,a⟩:=q7 a
    refine qn az J J<|qx (q6 y) az J ?_
    obtain ⟨cj,ba,a⟩:=q7 a
    refine qn ba J J<|Qi (ds:=[G x]) x ba J J J J J J J J (leb J) J ?_
    obtain ⟨ck,bb,a⟩:=q7 a
    refine qn bb (by simp) J<|Qi (ds:=[G y]) y bb J J J J J J J J (leb J) J<|q9<|qe<|qa<|U J<|U J<|O (.d (G (w64 (f - j)))) J<|O (.d (.bool (decide ((w64 (f - j)) ≥ 2)))) J<|q9 ?_
    obtain ⟨ca,p,a⟩:=q7 a
    refine Kv (fun t=>t = ca) (fun (t : List Int)=>⟨[(0,.hs 0 1 0 t.length),(1,q6 j),(2,q6 h),(7,q6 f),(8,q6 g.2.1)],[(0,.dat 1 (t.map (eI .i64)))],1⟩) (by simp) ?_ ?_
    ·refine qj J p (fun _ p=>?_) (fun _ p=>?_)
     ·refine qa<|U J<|O (.d (G (w64 (f - 1)))) J<|q8 J<|q9 ?_
      obtain ⟨cb,cc,p⟩:=q7 p
      refine qw<|Q4 (q87) (fun (m : Int × List Int)=>⟨[(0,.hs 0 1 0 m.2.length),(1,q6 j),(2,q6 h),(7,q6 f),(8,q6 g.2.1),(9,q6 m.1)],[(0,.dat 1 (m.2.map (eI .i64)))],1⟩) (w64 (f - 1),(g.2.2.set f.toNat x).set (w64 (f - 1)).toNat y) cb cc (wkE [] [] [] J ⟨⟨_,J,Ql (by simp) J (by decide) (ltd J)⟩,⟨_,J,.d (.refl _)⟩,⟨_,J,.d (.refl _)⟩,⟨_,J,.d (.refl _)⟩,⟨_,J,.d (.refl _)⟩,⟨_,J,.d (.refl _)⟩,trivial⟩ ⟨⟨ltd J,.inr ⟨by decide,_,J,.dat _ _⟩⟩,trivial⟩) ?_
      intro m cl b
      unfold q87 at b
      refine qe<|qa<|U J<|O (.d (.bool (decide (m.1 ≥ 1)))) J<|q9 ?_
      refine qj J b (fun _ b=>?_) (fun _ b=>?_)
      ·refine qk<|qe<|qw<|qe<|qe<|Q2 [q0,q0,qm 0,q0,q0,q0,q0,qm 0,q0,q0,q0] (by kernel_rfl)<|U J<|U J ?_
       obtain ⟨bc,bd,b⟩:=q7 b
       refine qn bd J J<|qx (q6 bc) bd J<|U J<|U J<|O (.d (G (w64 (m.1 - 1)))) J ?_
       obtain ⟨be,bf,b⟩:=q7 b
       refine qn bf J J<|qx (q6 be) bf J ?_
       obtain ⟨bg,cd,b⟩:=q7 b
       refine qv (Yx bc be bg cd) J<|O (qf (!bg)) J<|q9 ?_
       refine qj J b (fun _ b=>?_) (fun _ b=>?_)
       ·refine Q1 ?_
        refine ⟨_,(Option.some.inj b).symm,fun hm=>?_⟩
        subst hm
        obtain rfl:=qc p
        exact ⟨_,J,wkA [] [] []⟩
       refine qk<|Q2 [Q7 0,q0,Q7 0,q0,qm 0,q0,q0,q0,qm 0,q0,q0,q0,q0,q0,q0,q0,q0,q0] (by kernel_rfl)<|U J<|U J<|U J<|U J<|O (.d (G (w64 (m.1 - 1)))) J<|U J<|U J<|O (.d (G (w64 (m.1 - 1)))) J ?_
       obtain ⟨aa,bh,b⟩:=q7 b
       refine qn bh J J<|qx (q6 aa) bh J<|U J<|U J ?_
       obtain ⟨ab,bi,b⟩:=q7 b
       refine qn bi J J<|qx (q6 ab) bi J ?_
       obtain ⟨cm,bj,b⟩:=q7 b
       refine qn bj J J<|Qi (ds:=[G aa]) aa bj J J J J J J J J (leb J) J ?_
       obtain ⟨cn,bk,b⟩:=q7 b
       refine qn bk (by simp) J<|Qi (ds:=[G ab]) ab bk J J J J J J J J (leb J) J<|qq<|Qa<|qt<|U J<|O (.d (G (w64 (m.1 - 1)))) J<|q8 J<|qq ?_
       exact ⟨_,(Option.some.inj b).symm,wkE [] [] [] J ⟨⟨_,J,Ql (by simp) J (by decide) (ltd J)⟩,⟨_,J,.d (.refl _)⟩,⟨_,J,.d (.refl _)⟩,⟨_,J,.d (.refl _)⟩,⟨_,J,.d (.refl _)⟩,⟨_,J,.d (.refl _)⟩,trivial⟩ ⟨⟨ltd J,.inr ⟨by decide,_,J,.dat _ _⟩⟩,trivial⟩⟩
      refine Q1 ?_
      refine ⟨_,(Option.some.inj b).symm,fun hm=>?_⟩
      subst hm
      obtain rfl:=qc p
      exact ⟨_,J,wkA [] [] []⟩
     refine qk<|Q8 ?_
     obtain rfl:=qc p
     exact ⟨_,J,wkE [] [] [] J ⟨⟨_,J,Ql (by simp) J (by decide) (ltd J)⟩,⟨_,J,.d (.refl _)⟩,⟨_,J,.d (.refl _)⟩,⟨_,J,.d (.refl _)⟩,⟨_,J,.d (.refl _)⟩,trivial⟩ ⟨⟨ltd J,.inr ⟨by decide,_,J,.dat _ _⟩⟩,trivial⟩⟩
    intro t hb
    subst hb
    refine qa<|U J<|U J<|O (.d (G (w64 (h - f)))) J<|O (.d (.bool (decide ((w64 (h - f)) ≥ 2)))) J<|q9 ?_
    refine qj J a (fun _ a=>?_) (fun _ a=>?_)
    ·refine qa<|U J<|O (.d (G (w64 (f + 1)))) J<|q8 J<|q9 ?_
     obtain ⟨ce,cf,a⟩:=q7 a
     refine qw<|Q4 (q5j h f) (fun (n : Int × List Int)=>⟨[(0,.hs 0 1 0 n.2.length),(1,q6 j),(2,q6 h),(7,q6 f),(8,q6 g.2.1),(10,q6 n.1)],[(0,.dat 1 (n.2.map (eI .i64)))],1⟩) (w64 (f + 1),t) ce cf (wkA [] [] []) ?_
     intro n co c
     unfold q5j at c
     refine qe<|qa<|U J<|U J<|O (.d (.bool (decide (n.1 < h)))) J<|q9 ?_
     refine qj J c (fun _ c=>?_) (fun _ c=>?_)
     ·refine qk<|qe<|qw<|qe<|qe<|Q2 [q0,q0,qm 0,q0,q0,q0,q0,qm 0,q0,q0,q0] (by kernel_rfl)<|U J<|U J ?_
      obtain ⟨bl,bm,c⟩:=q7 c
      refine qn bm J J<|qx (q6 bl) bm J<|U J<|U J<|O (.d (G (w64 (n.1 - 1)))) J ?_
      obtain ⟨bn,bo,c⟩:=q7 c
      refine qn bo J J<|qx (q6 bn) bo J ?_
      obtain ⟨bp,cg,c⟩:=q7 c
      refine qv (Yx bl bn bp cg) J<|O (qf (!bp)) J<|q9 ?_
      refine qj J c (fun _ c=>?_) (fun _ c=>?_)
      ·refine Q1 ?_
       refine ⟨_,(Option.some.inj c).symm,fun hm=>?_⟩
       subst hm
       obtain rfl:=qc a
       exact ⟨_,J,wkA [] [] []⟩
      refine qk<|Q2 [Q7 0,q0,Q7 0,q0,qm 0,q0,q0,q0,qm 0,q0,q0,q0,q0,q0,q0,q0,q0,q0] (by kernel_rfl)<|U J<|U J<|U J<|U J<|O (.d (G (w64 (n.1 - 1)))) J<|U J<|U J<|O (.d (G (w64 (n.1 - 1)))) J ?_
      obtain ⟨ac,bq,c⟩:=q7 c
      refine qn bq J J<|qx (q6 ac) bq J<|U J<|U J ?_
      obtain ⟨ad,br,c⟩:=q7 c
      refine qn br J J<|qx (q6 ad) br J ?_
      obtain ⟨cp,bs,c⟩:=q7 c
      refine qn bs J J<|Qi (ds:=[G ac]) ac bs J J J J J J J J (leb J) J ?_
      obtain ⟨cq,bt,c⟩:=q7 c
      refine qn bt (by simp) J<|Qi (ds:=[G ad]) ad bt J J J J J J J J (leb J) J<|qq<|Qa<|qt<|U J<|O (.d (G (w64 (n.1 + 1)))) J<|q8 J<|qq ?_
      exact ⟨_,(Option.some.inj c).symm,wkE [] [] [] J ⟨⟨_,J,Ql (by simp) J (by decide) (ltd J)⟩,⟨_,J,.d (.refl _)⟩,⟨_,J,.d (.refl _)⟩,⟨_,J,.d (.refl _)⟩,⟨_,J,.d (.refl _)⟩,⟨_,J,.d (.refl _)⟩,trivial⟩ ⟨⟨ltd J,.inr ⟨by decide,_,J,.dat _ _⟩⟩,trivial⟩⟩
     refine Q1 ?_
     refine ⟨_,(Option.some.inj c).symm,fun hm=>?_⟩
     subst hm
     obtain rfl:=qc a
     exact ⟨_,J,wkA [] [] []⟩
    refine qk<|Q8 ?_
    obtain rfl:=qc a
    exact ⟨_,J,wkA [] [] []⟩
   intro s hb
   subst hb
   refine qt<|U J<|O (.d (G (w64 (g.2.1 + 1)))) J<|q8 J<|qq ?_
   exact ⟨_,(Option.some.inj l).symm,wkA [] [] []⟩
  refine Q1 ?_
  refine ⟨_,(Option.some.inj l).symm,fun hm=>?_⟩
  subst hm
  exact ⟨_,J,wkA [] [] []⟩
 intro w hb
 subst hb
 refine qa<|q8 J<|qo ?_
 obtain rfl:=qc q
 exact ⟨.inr J,_,J,wkA [] [] []⟩
theorem qu8 (o : List Int) (c : Int) (p : Int) (v : Int) (r : Int × List Int) (f : q5k  o c p v = some r) : Qo Tryz.prog tab 151 [.hs 0 1 0 o.length,q6 c,q6 p,q6 v] [(0,.dat 1 (o.map (eI .i64)))] 1 (q6 r.1) [(0,.dat 1 (r.2.map (eI .i64)))] 1:=by
 unfold q5k at f
 refine Qz Tryz.func151 J (by kernel_rfl) (by kernel_rfl) J<|qa<|q8 J<|q9<|qe<|Q2 [Q7 0,q0,Q7 0,q0,qm 0,q0,q0,q0,qm 0,q0,q0,q0,q0,q0,q0,q0] (by kernel_rfl)<|U J<|U J<|U J<|U J<|U J<|U J ?_
 obtain ⟨q,z,f⟩:=q7 f
 refine qn z J J<|qx (q6 q) z J<|U J<|U J ?_
 obtain ⟨s,aa,f⟩:=q7 f
 refine qn aa J J<|qx (q6 s) aa J ?_
 obtain ⟨bx,ab,f⟩:=q7 f
 refine qn ab J J<|Qi (ds:=[G q]) q ab J J J J J J J J (leb J) J ?_
 obtain ⟨bz,ac,f⟩:=q7 f
 refine qn ac (by simp) J<|Qi (ds:=[G s]) s ac J J J J J J J J (leb J) J<|qp<|U J<|O (.d (G (w64 (c + 1)))) J<|U J<|O (.d (G (w64 (p - 1)))) J<|q8 J<|q8 J<|q9<|qe ?_
 obtain ⟨ad,bq,f⟩:=q7 f
 refine Q9 (fun n=>n = ad) (fun (n : Int × List Int)=>⟨[(9,q6 n.1)],[(0,.dat 1 (n.2.map (eI .i64)))],1⟩) (by simp) ?_ ?_
 ·refine Q4 (q5l c) (fun (a : Int × Int × List Int)=>⟨[(0,.hs 0 1 0 a.2.2.length),(1,q6 c),(9,q6 a.1),(10,q6 a.2.1)],[(0,.dat 1 (a.2.2.map (eI .i64)))],1⟩) (w64 (c + 1),w64 (p - 1),(o.set c.toNat q).set v.toNat s) ad bq (wkE [] [] [] J ⟨⟨_,J,Ql (by simp) J (by decide) (ltd J)⟩,⟨_,J,.d (.refl _)⟩,⟨_,J,.d (.refl _)⟩,⟨_,J,.d (.refl _)⟩,trivial⟩ ⟨⟨ltd J,.inr ⟨by decide,_,J,.dat _ _⟩⟩,trivial⟩) ?_
  intro a ca b
  unfold q5l at b
  refine qw<|qe ?_
  obtain ⟨ae,br,b⟩:=q7 b
  refine Q9 (fun j=>j = ae) (fun (j : Int)=>⟨[(0,.hs 0 1 0 a.2.2.length),(1,q6 c),(9,q6 j),(10,q6 a.2.1)],[(0,.dat 1 (a.2.2.map (eI .i64)))],1⟩) (by simp) ?_ ?_
  ·refine Q4 (q5m a c) (fun (t : Int)=>⟨[(0,.hs 0 1 0 a.2.2.length),(1,q6 c),(9,q6 t),(10,q6 a.2.1)],[(0,.dat 1 (a.2.2.map (eI .i64)))],1⟩) a.1 ae br (wkA [] [] []) ?_
   intro t cb k
   unfold q5m at k
   refine qe<|qe<|Q2 [q0,q0,q0,qm 0,q0,q0,q0,qm 0,q0,q0,q0,q0,q0,q0,q0] (by kernel_rfl)<|U J<|U J<|O (.d (.bool (decide (t≤a.2.1)))) J ?_
   obtain ⟨bs,g,k⟩:=q7 k
   refine Q5 12 (fun A st=>∃ (af ag ah ai aj ak al am an ao ap : V),st = A [(43,qf bs),(42,ap),(41,ao),(40,an),(39,am),(38,al),(37,ak),(36,aj),(35,ai),(34,ah),(33,ag),(32,af)]) ?_ ?_
   ·refine Q6 J J g (fun g=>?_) (fun g=>?_)
    ·refine U J<|U J ?_
     obtain ⟨aq,ar,g⟩:=q7 g
     refine qn ar J J<|qx (q6 aq) ar J<|U J<|U J ?_
     obtain ⟨au,av,g⟩:=q7 g
     refine qn av J J<|qx (q6 au) av J ?_
     obtain ⟨w,bt,g⟩:=q7 g
     refine qv (Yx aq au w bt) J<|O (qf (!w)) J<|O (qf (!w)) J<|q9 ?_
     obtain rfl:=qc g
     exact ⟨_,_,_,_,_,_,_,_,_,_,_,J⟩
    refine qb J<|qb J<|qb J<|qb J<|qb J<|qb J<|qb J<|qb J<|qb J<|qb J<|O (qf false) J<|q9 ?_
    obtain rfl:=qc g
    exact ⟨_,_,_,_,_,_,_,_,_,_,_,J⟩
   rintro _ ⟨af,ag,ah,ai,aj,ak,al,am,an,ao,ap,rfl⟩
   refine q9 ?_
   refine qj J k (fun _ k=>?_) (fun _ k=>?_)
   ·refine qk<|qw<|qt<|U J<|O (.d (G (w64 (t + 1)))) J<|q8 J<|qq<|Qa<|Q8 ?_
    exact ⟨_,(Option.some.inj k).symm,wkA [] [] []⟩
   refine Q1 ?_
   refine ⟨_,(Option.some.inj k).symm,fun hm=>?_⟩
   subst hm
   exact ⟨_,J,wkA [] [] []⟩
  intro j hb
  subst hb
  refine qe ?_
  obtain ⟨aw,bu,b⟩:=q7 b
  refine Q9 (fun m=>m = aw) (fun (m : Int)=>⟨[(0,.hs 0 1 0 a.2.2.length),(1,q6 c),(9,q6 j),(10,q6 m)],[(0,.dat 1 (a.2.2.map (eI .i64)))],1⟩) (by simp) ?_ ?_
  ·refine Q4 (q5n j a c) (fun (u : Int)=>⟨[(0,.hs 0 1 0 a.2.2.length),(1,q6 c),(9,q6 j),(10,q6 u)],[(0,.dat 1 (a.2.2.map (eI .i64)))],1⟩) a.2.1 aw bu (wkA [] [] []) ?_
   intro u cc l
   unfold q5n at l
   refine qe<|qe<|Q2 [q0,q0,qm 0,q0,q0,q0,qm 0,q0,q0,q0,q0,q0,q0,q0] (by kernel_rfl)<|U J<|U J<|O (.d (.bool (decide (j≤u)))) J ?_
   obtain ⟨bv,h,l⟩:=q7 l
   refine Q5 11 (fun A st=>∃ (ax ay az ba bb bc bd be bf bg : V),st = A [(59,qf bv),(58,bg),(57,bf),(56,be),(55,bd),(54,bc),(53,bb),(52,ba),(51,az),(50,ay),(49,ax)]) ?_ ?_
   ·refine Q6 J J h (fun h=>?_) (fun h=>?_)
    ·refine U J<|U J ?_
     obtain ⟨bh,bi,h⟩:=q7 h
     refine qn bi J J<|qx (q6 bh) bi J<|U J<|U J ?_
     obtain ⟨bj,bk,h⟩:=q7 h
     refine qn bk J J<|qx (q6 bj) bk J ?_
     obtain ⟨bl,bw,h⟩:=q7 h
     refine qv (Yx bh bj bl bw) J<|O (qf bl) J<|q9 ?_
     obtain rfl:=qc h
     exact ⟨_,_,_,_,_,_,_,_,_,_,J⟩
    refine qb J<|qb J<|qb J<|qb J<|qb J<|qb J<|qb J<|qb J<|qb J<|O (qf false) J<|q9 ?_
    obtain rfl:=qc h
    exact ⟨_,_,_,_,_,_,_,_,_,_,J⟩
   rintro _ ⟨ax,ay,az,ba,bb,bc,bd,be,bf,bg,rfl⟩
   refine q9 ?_
   refine qj J l (fun _ l=>?_) (fun _ l=>?_)
   ·refine qk<|qw<|qt<|U J<|O (.d (G (w64 (u - 1)))) J<|q8 J<|qq<|Qa<|Q8 ?_
    exact ⟨_,(Option.some.inj l).symm,wkA [] [] []⟩
   refine Q1 ?_
   refine ⟨_,(Option.some.inj l).symm,fun hm=>?_⟩
   subst hm
   exact ⟨_,J,wkA [] [] []⟩
  intro m hb
  subst hb
  refine qe<|qa<|U J<|U J<|O (.d (.bool (decide (j > m)))) J<|q9 ?_
  refine qj J b (fun _ b=>?_) (fun _ b=>?_)
  ·refine Q1 ?_
   refine ⟨_,(Option.some.inj b).symm,fun hm=>?_⟩
   subst hm
   exact ⟨_,J,wkA [] [] []⟩
  refine qk<|qe<|Q2 [Q7 0,q0,Q7 0,q0,qm 0,q0,q0,q0,qm 0,q0,q0,q0,q0,q0,q0,q0] (by kernel_rfl)<|U J<|U J<|U J<|U J<|U J<|U J ?_
  obtain ⟨x,bm,b⟩:=q7 b
  refine qn bm J J<|qx (q6 x) bm J<|U J<|U J ?_
  obtain ⟨y,bn,b⟩:=q7 b
  refine qn bn J J<|qx (q6 y) bn J ?_
  obtain ⟨cd,bo,b⟩:=q7 b
  refine qn bo J J<|Qi (ds:=[G x]) x bo J J J J J J J J (leb J) J ?_
  obtain ⟨ce,bp,b⟩:=q7 b
  refine qn bp (by simp) J<|Qi (ds:=[G y]) y bp J J J J J J J J (leb J) J<|qp<|U J<|O (.d (G (w64 (j + 1)))) J<|q8 J<|q9<|qt<|U J<|O (.d (G (w64 (m - 1)))) J<|q8 J<|qq<|Qa<|Q8 ?_
  exact ⟨_,(Option.some.inj b).symm,wkE [] [] [] J ⟨⟨_,J,Ql (by simp) J (by decide) (ltd J)⟩,⟨_,J,.d (.refl _)⟩,⟨_,J,.d (.refl _)⟩,⟨_,J,.d (.refl _)⟩,trivial⟩ ⟨⟨ltd J,.inr ⟨by decide,_,J,.dat _ _⟩⟩,trivial⟩⟩
 intro n hb
 subst hb
 refine qa<|U J<|q8 J<|qo ?_
 obtain rfl:=qc f
 exact ⟨.inr J,_,J,wkA [] [] []⟩
theorem qu9 (g : List Int) (b : Int) (s : Int) (k : Int) (r : Int × Bool × List Int) (a : q5o  g b s k = some r) : Qo Tryz.prog tab 152 [.hs 0 1 0 g.length,q6 b,q6 s,q6 k] [(0,.dat 1 (g.map (eI .i64)))] 1 (.d (.tup [G r.1,.bool r.2.1])) [(0,.dat 1 (r.2.2.map (eI .i64)))] 1:=by
 unfold q5o at a
 refine Qz Tryz.func152 J (by kernel_rfl) (by kernel_rfl) J<|qa<|q8 J<|q8 J<|q9<|qe<|Q2 [Q7 0,q0,Q7 0,q0,qm 0,q0,q0,q0,qm 0,q0,q0,q0,q0,q0,q0,q0] (by kernel_rfl)<|U J<|U J<|U J<|U J<|U J<|U J ?_
 obtain ⟨h,ao,a⟩:=q7 a
 refine qn ao J J<|qx (q6 h) ao J<|U J<|U J ?_
 obtain ⟨j,ap,a⟩:=q7 a
 refine qn ap J J<|qx (q6 j) ap J ?_
 obtain ⟨fq,aq,a⟩:=q7 a
 refine qn aq J J<|Qi (ds:=[G h]) h aq J J J J J J J J (leb J) J ?_
 obtain ⟨fr,ar,a⟩:=q7 a
 refine qn ar (by simp) J<|Qi (ds:=[G j]) j ar J J J J J J J J (leb J) J<|qp<|U J<|O (.d (G (w64 (b + 1)))) J<|U J<|O (.d (G (w64 (s - 1)))) J<|q8 J<|q8 J<|q9<|qe ?_
 obtain ⟨au,fc,a⟩:=q7 a
 refine Q9 (fun l=>l = au) (fun (l : Int)=>⟨[(0,.hs 0 1 0 ((g.set b.toNat h).set k.toNat j).length),(1,q6 b),(10,q6 l),(11,.d (G (w64 (s - 1))))],[(0,.dat 1 (((g.set b.toNat h).set k.toNat j).map (eI .i64)))],1⟩) (by simp) ?_ ?_
 ·refine Q4 (q5p s g b h k j) (fun (aa : Int)=>⟨[(0,.hs 0 1 0 ((g.set b.toNat h).set k.toNat j).length),(1,q6 b),(10,q6 aa),(11,.d (G (w64 (s - 1))))],[(0,.dat 1 (((g.set b.toNat h).set k.toNat j).map (eI .i64)))],1⟩) (w64 (b + 1)) au fc (wkE [] [] [] J ⟨⟨_,J,Ql (by simp) J (by decide) (ltd J)⟩,⟨_,J,.d (.refl _)⟩,⟨_,J,.d (.refl _)⟩,⟨_,J,.d (.refl _)⟩,trivial⟩ ⟨⟨ltd J,.inr ⟨by decide,_,J,.dat _ _⟩⟩,trivial⟩) ?_
  intro aa fs t
  unfold q5p at t
  refine qe<|qe<|Q2 [q0,q0,qm 0,q0,q0,q0,qm 0,q0,q0,q0,q0,q0,q0,q0] (by kernel_rfl)<|U J<|U J<|O (.d (.bool (decide (aa≤(w64 (s - 1)))))) J ?_
  obtain ⟨fd,m,t⟩:=q7 t
  refine Q5 11 (fun A st=>∃ (av aw ax ay az ba bb bc bd be : V),st = A [(43,qf fd),(42,be),(41,bd),(40,bc),(39,bb),(38,ba),(37,az),(36,ay),(35,ax),(34,aw),(33,av)]) ?_ ?_
  ·refine Q6 J J m (fun m=>?_) (fun m=>?_)
   ·refine U J<|U J ?_
    obtain ⟨bf,bg,m⟩:=q7 m
    refine qn bg J J<|qx (q6 bf) bg J<|U J<|U J ?_
    obtain ⟨bh,bi,m⟩:=q7 m
    refine qn bi J J<|qx (q6 bh) bi J ?_
    obtain ⟨bj,fe,m⟩:=q7 m
    refine qv (Yx bf bh bj fe) J<|O (qf bj) J<|q9 ?_
    obtain rfl:=qc m
    exact ⟨_,_,_,_,_,_,_,_,_,_,J⟩
   refine qb J<|qb J<|qb J<|qb J<|qb J<|qb J<|qb J<|qb J<|qb J<|O (qf false) J<|q9 ?_
   obtain rfl:=qc m
   exact ⟨_,_,_,_,_,_,_,_,_,_,J⟩
  rintro _ ⟨av,aw,ax,ay,az,ba,bb,bc,bd,be,rfl⟩
  refine q9 ?_
  refine qj J t (fun _ t=>?_) (fun _ t=>?_)
  ·refine qk<|qw<|qt<|U J<|O (.d (G (w64 (aa + 1)))) J<|q8 J<|qq<|Qa<|Q8 ?_
   exact ⟨_,(Option.some.inj t).symm,wkA [] [] []⟩
  refine Q1 ?_
  refine ⟨_,(Option.some.inj t).symm,fun hm=>?_⟩
  subst hm
  exact ⟨_,J,wkA [] [] []⟩
 intro l hb
 subst hb
 refine qe ?_
 obtain ⟨bk,ff,a⟩:=q7 a
 refine Q9 (fun u=>u = bk) (fun (u : Int)=>⟨[(0,.hs 0 1 0 ((g.set b.toNat h).set k.toNat j).length),(1,q6 b),(10,q6 l),(11,q6 u)],[(0,.dat 1 (((g.set b.toNat h).set k.toNat j).map (eI .i64)))],1⟩) (by simp) ?_ ?_
 ·refine Q4 (q5q l g b h k j) (fun (ab : Int)=>⟨[(0,.hs 0 1 0 ((g.set b.toNat h).set k.toNat j).length),(1,q6 b),(10,q6 l),(11,q6 ab)],[(0,.dat 1 (((g.set b.toNat h).set k.toNat j).map (eI .i64)))],1⟩) (w64 (s - 1)) bk ff (wkA [] [] []) ?_
  intro ab ft v
  unfold q5q at v
  refine qe<|qe<|Q2 [q0,q0,q0,qm 0,q0,q0,q0,qm 0,q0,q0,q0,q0,q0,q0,q0] (by kernel_rfl)<|U J<|U J<|O (.d (.bool (decide (l≤ab)))) J ?_
  obtain ⟨fg,n,v⟩:=q7 v
  refine Q5 12 (fun A st=>∃ (bl bm bn bo bp bq br bs bt bu bv : V),st = A [(60,qf fg),(59,bv),(58,bu),(57,bt),(56,bs),(55,br),(54,bq),(53,bp),(52,bo),(51,bn),(50,bm),(49,bl)]) ?_ ?_
  ·refine Q6 J J n (fun n=>?_) (fun n=>?_)
   ·refine U J<|U J ?_
    obtain ⟨bw,bx,n⟩:=q7 n
    refine qn bx J J<|qx (q6 bw) bx J<|U J<|U J ?_
    obtain ⟨bz,ca,n⟩:=q7 n
    refine qn ca J J<|qx (q6 bz) ca J ?_
    obtain ⟨ag,fh,n⟩:=q7 n
    refine qv (Yx bw bz ag fh) J<|O (qf (!ag)) J<|O (qf (!ag)) J<|q9 ?_
    obtain rfl:=qc n
    exact ⟨_,_,_,_,_,_,_,_,_,_,_,J⟩
   refine qb J<|qb J<|qb J<|qb J<|qb J<|qb J<|qb J<|qb J<|qb J<|qb J<|O (qf false) J<|q9 ?_
   obtain rfl:=qc n
   exact ⟨_,_,_,_,_,_,_,_,_,_,_,J⟩
  rintro _ ⟨bl,bm,bn,bo,bp,bq,br,bs,bt,bu,bv,rfl⟩
  refine q9 ?_
  refine qj J v (fun _ v=>?_) (fun _ v=>?_)
  ·refine qk<|qw<|qt<|U J<|O (.d (G (w64 (ab - 1)))) J<|q8 J<|qq<|Qa<|Q8 ?_
   exact ⟨_,(Option.some.inj v).symm,wkA [] [] []⟩
  refine Q1 ?_
  refine ⟨_,(Option.some.inj v).symm,fun hm=>?_⟩
  subst hm
  exact ⟨_,J,wkA [] [] []⟩
 intro u hb
 subst hb
 refine qe<|qa<|U J<|U J<|O (.d (.bool (decide (l > u)))) J<|q9 ?_
 refine qj J a (fun _ a=>?_) (fun _ a=>?_)
 ·refine qe<|Q2 [Q7 0,q0,Q7 0,q0,qm 0,q0,q0,q0,qm 0,q0,q0,q0,q0,q0,q0,q0] (by kernel_rfl)<|U J<|U J<|U J<|U J<|U J<|U J ?_
  obtain ⟨ah,cb,a⟩:=q7 a
  refine qn cb J J<|qx (q6 ah) cb J<|U J<|U J ?_
  obtain ⟨ai,cc,a⟩:=q7 a
  refine qn cc J J<|qx (q6 ai) cc J ?_
  obtain ⟨fu,cd,a⟩:=q7 a
  refine qn cd J J<|Qi (ds:=[G ah]) ah cd J J J J J J J J (leb J) J ?_
  obtain ⟨fv,ce,a⟩:=q7 a
  refine qn ce (by simp) J<|Qi (ds:=[G ai]) ai ce J J J J J J J J (leb J) J<|qp<|U J<|q8 J<|q8 J<|qo ?_
  obtain rfl:=qc a
  exact ⟨.inr J,_,J,wkA [] [] []⟩
 refine qk<|qe<|Q2 [Q7 0,q0,Q7 0,q0,qm 0,q0,q0,q0,qm 0,q0,q0,q0,q0,q0,q0,q0] (by kernel_rfl)<|U J<|U J<|U J<|U J<|U J<|U J ?_
 obtain ⟨ac,cf,a⟩:=q7 a
 refine qn cf J J<|qx (q6 ac) cf J<|U J<|U J ?_
 obtain ⟨ad,cg,a⟩:=q7 a
 refine qn cg J J<|qx (q6 ad) cg J ?_
 obtain ⟨fw,ch,a⟩:=q7 a
 refine qn ch J J<|Qi (ds:=[G ac]) ac ch J J J J J J J J (leb J) J ?_
 obtain ⟨fx,ci,a⟩:=q7 a
 refine qn ci (by simp) J<|Qi (ds:=[G ad]) ad ci J J J J J J J J (leb J) J<|qp<|U J<|O (.d (G (w64 (l + 1)))) J<|q8 J<|qp<|U J<|O (.d (G (w64 (u - 1)))) J<|q8 J<|q9<|qe ?_
 obtain ⟨cj,fi,a⟩:=q7 a
 refine Q9 (fun y=>y = cj) (fun (y : Int × List Int)=>⟨[(0,.hs 0 1 0 y.2.length),(1,q6 b),(11,q6 y.1)],[(0,.dat 1 (y.2.map (eI .i64)))],1⟩) (by simp) ?_ ?_
 ·refine Q4 (q5r b) (fun (c : Int × Int × List Int)=>⟨[(0,.hs 0 1 0 c.2.2.length),(1,q6 b),(10,q6 c.1),(11,q6 c.2.1)],[(0,.dat 1 (c.2.2.map (eI .i64)))],1⟩) (w64 (l + 1),w64 (u - 1),(((g.set b.toNat h).set k.toNat j).set l.toNat ac).set u.toNat ad) cj fi (wkE [] [] [] J ⟨⟨_,J,Ql (by simp) J (by decide) (ltd J)⟩,⟨_,J,.d (.refl _)⟩,⟨_,J,.d (.refl _)⟩,⟨_,J,.d (.refl _)⟩,trivial⟩ ⟨⟨ltd J,.inr ⟨by decide,_,J,.dat _ _⟩⟩,trivial⟩) ?_
  intro c fy f
  unfold q5r at f
  refine qw<|qe ?_
  obtain ⟨ck,fj,f⟩:=q7 f
  refine Q9 (fun q=>q = ck) (fun (q : Int)=>⟨[(0,.hs 0 1 0 c.2.2.length),(1,q6 b),(10,q6 q),(11,q6 c.2.1)],[(0,.dat 1 (c.2.2.map (eI .i64)))],1⟩) (by simp) ?_ ?_
  ·refine Q4 (q5s c b) (fun (ae : Int)=>⟨[(0,.hs 0 1 0 c.2.2.length),(1,q6 b),(10,q6 ae),(11,q6 c.2.1)],[(0,.dat 1 (c.2.2.map (eI .i64)))],1⟩) c.1 ck fj (wkA [] [] []) ?_
   intro ae fz w
   unfold q5s at w
   refine qe<|qe<|Q2 [q0,q0,qm 0,q0,q0,q0,qm 0,q0,q0,q0,q0,q0,q0,q0] (by kernel_rfl)<|U J<|U J<|O (.d (.bool (decide (ae≤c.2.1)))) J ?_
   obtain ⟨fk,o,w⟩:=q7 w
   refine Q5 11 (fun A st=>∃ (cl cm cn co cp cq cr cs ct cu : V),st = A [(112,qf fk),(111,cu),(110,ct),(109,cs),(108,cr),(107,cq),(106,cp),(105,co),(104,cn),(103,cm),(102,cl)]) ?_ ?_
   ·refine Q6 J J o (fun o=>?_) (fun o=>?_)
    ·refine U J<|U J ?_
     obtain ⟨cv,cw,o⟩:=q7 o
     refine qn cw J J<|qx (q6 cv) cw J<|U J<|U J ?_
     obtain ⟨cx,cy,o⟩:=q7 o
     refine qn cy J J<|qx (q6 cx) cy J ?_
     obtain ⟨cz,fl,o⟩:=q7 o
     refine qv (Yx cv cx cz fl) J<|O (qf cz) J<|q9 ?_
     obtain rfl:=qc o
     exact ⟨_,_,_,_,_,_,_,_,_,_,J⟩
    refine qb J<|qb J<|qb J<|qb J<|qb J<|qb J<|qb J<|qb J<|qb J<|O (qf false) J<|q9 ?_
    obtain rfl:=qc o
    exact ⟨_,_,_,_,_,_,_,_,_,_,J⟩
   rintro _ ⟨cl,cm,cn,co,cp,cq,cr,cs,ct,cu,rfl⟩
   refine q9 ?_
   refine qj J w (fun _ w=>?_) (fun _ w=>?_)
   ·refine qk<|qw<|qt<|U J<|O (.d (G (w64 (ae + 1)))) J<|q8 J<|qq<|Qa<|Q8 ?_
    exact ⟨_,(Option.some.inj w).symm,wkA [] [] []⟩
   refine Q1 ?_
   refine ⟨_,(Option.some.inj w).symm,fun hm=>?_⟩
   subst hm
   exact ⟨_,J,wkA [] [] []⟩
  intro q hb
  subst hb
  refine qe ?_
  obtain ⟨da,fm,f⟩:=q7 f
  refine Q9 (fun z=>z = da) (fun (z : Int)=>⟨[(0,.hs 0 1 0 c.2.2.length),(1,q6 b),(10,q6 q),(11,q6 z)],[(0,.dat 1 (c.2.2.map (eI .i64)))],1⟩) (by simp) ?_ ?_
  ·refine Q4 (q5t q c b) (fun (af : Int)=>⟨[(0,.hs 0 1 0 c.2.2.length),(1,q6 b),(10,q6 q),(11,q6 af)],[(0,.dat 1 (c.2.2.map (eI .i64)))],1⟩) c.2.1 da fm (wkA [] [] []) ?_
   intro af ga x
   unfold q5t at x
   refine qe<|qe<|Q2 [q0,q0,q0,qm 0,q0,q0,q0,qm 0,q0,q0,q0,q0,q0,q0,q0] (by kernel_rfl)<|U J<|U J<|O (.d (.bool (decide (q≤af)))) J ?_
   obtain ⟨fn,p,x⟩:=q7 x
   refine Q5 12 (fun A st=>∃ (dc dd de df dg dh dj dk dl dm dn : V),st = A [(129,qf fn),(128,dn),(127,dm),(126,dl),(125,dk),(124,dj),(123,dh),(122,dg),(121,df),(120,de),(119,dd),(118,dc)]) ?_ ?_
   ·refine Q6 J J p (fun p=>?_) (fun p=>?_)
    ·refine U J<|U J ?_
     obtain ⟨dp,dq,p⟩:=q7 p
     refine qn dq J J<|qx (q6 dp) dq J<|U J<|U J ?_
     obtain ⟨dr,dt,p⟩:=q7 p
     refine qn dt J J<|qx (q6 dr) dt J ?_
     obtain ⟨aj,fo,p⟩:=q7 p
     refine qv (Yx dp dr aj fo) J<|O (qf (!aj)) J<|O (qf (!aj)) J<|q9 ?_
     obtain rfl:=qc p
     exact ⟨_,_,_,_,_,_,_,_,_,_,_,J⟩
    refine qb J<|qb J<|qb J<|qb J<|qb J<|qb J<|qb J<|qb J<|qb J<|qb J<|O (qf false) J<|q9 ?_
    obtain rfl:=qc p
    exact ⟨_,_,_,_,_,_,_,_,_,_,_,J⟩
   rintro _ ⟨dc,dd,de,df,dg,dh,dj,dk,dl,dm,dn,rfl⟩
   refine q9 ?_
   refine qj J x (fun _ x=>?_) (fun _ x=>?_)
   ·refine qk<|qw<|qt<|U J<|O (.d (G (w64 (af - 1)))) J<|q8 J<|qq<|Qa<|Q8 ?_
    exact ⟨_,(Option.some.inj x).symm,wkA [] [] []⟩
   refine Q1 ?_
   refine ⟨_,(Option.some.inj x).symm,fun hm=>?_⟩
   subst hm
   exact ⟨_,J,wkA [] [] []⟩
  intro z hb
  subst hb
  refine qe<|qa<|U J<|U J<|O (.d (.bool (decide (q > z)))) J<|q9 ?_
  refine qj J f (fun _ f=>?_) (fun _ f=>?_)
  ·refine Q1 ?_
   refine ⟨_,(Option.some.inj f).symm,fun hm=>?_⟩
   subst hm
   exact ⟨_,J,wkA [] [] []⟩
  refine qk<|qe<|Q2 [Q7 0,q0,Q7 0,q0,qm 0,q0,q0,q0,qm 0,q0,q0,q0,q0,q0,q0,q0] (by kernel_rfl)<|U J<|U J<|U J<|U J<|U J<|U J ?_
  obtain ⟨ak,du,f⟩:=q7 f
  refine qn du J J<|qx (q6 ak) du J<|U J<|U J ?_
  obtain ⟨al,dv,f⟩:=q7 f
  refine qn dv J J<|qx (q6 al) dv J ?_
  obtain ⟨gb,dw,f⟩:=q7 f
  refine qn dw J J<|Qi (ds:=[G ak]) ak dw J J J J J J J J (leb J) J ?_
  obtain ⟨gc,dx,f⟩:=q7 f
  refine qn dx (by simp) J<|Qi (ds:=[G al]) al dx J J J J J J J J (leb J) J<|qp<|U J<|O (.d (G (w64 (q + 1)))) J<|q8 J<|q9<|qt<|U J<|O (.d (G (w64 (z - 1)))) J<|q8 J<|qq<|Qa<|Q8 ?_
  exact ⟨_,(Option.some.inj f).symm,wkE [] [] [] J ⟨⟨_,J,Ql (by simp) J (by decide) (ltd J)⟩,⟨_,J,.d (.refl _)⟩,⟨_,J,.d (.refl _)⟩,⟨_,J,.d (.refl _)⟩,trivial⟩ ⟨⟨ltd J,.inr ⟨by decide,_,J,.dat _ _⟩⟩,trivial⟩⟩
 intro y hb
 subst hb
 refine qe<|Q2 [Q7 0,q0,Q7 0,q0,qm 0,q0,q0,q0,qm 0,q0,q0,q0,q0,q0,q0,q0] (by kernel_rfl)<|U J<|U J<|U J<|U J<|U J<|U J ?_
 obtain ⟨am,dy,a⟩:=q7 a
 refine qn dy J J<|qx (q6 am) dy J<|U J<|U J ?_
 obtain ⟨an,dz,a⟩:=q7 a
 refine qn dz J J<|qx (q6 an) dz J ?_
 obtain ⟨gd,fa,a⟩:=q7 a
 refine qn fa J J<|Qi (ds:=[G am]) am fa J J J J J J J J (leb J) J ?_
 obtain ⟨ge,fb,a⟩:=q7 a
 refine qn fb (by simp) J<|Qi (ds:=[G an]) an fb J J J J J J J J (leb J) J<|qp<|U J<|q8 J<|q8 J<|qo ?_
 obtain rfl:=qc a
 exact ⟨.inr J,_,J,wkA [] [] []⟩
theorem qjk (b : Int) (r : Int) (a : Uv b = some r) : Pure Tryz.prog tab 159 [G b] (.int .u64 r):=by
 unfold Uv at a
 refine Qb Tryz.func159 J (by kernel_rfl) (by kernel_rfl) J<|qa<|q8 J<|qp<|U J<|O (.d (.int .u64 (IntKind.wrap .u64 b))) J ?_
 obtain ⟨c,f,a⟩:=q7 a
 refine qv (qcp (IntKind.wrap .u64 b) c f) J ?_
 obtain ⟨g,h,a⟩:=q7 a
 refine qpf h J J J<|q8 J<|qo ?_
 obtain rfl:=qc a
 exact qy (.d (.int .u64 g)) J
theorem qjn (a : Int) (r : Int) (b : Uw  a = some r) : Qo Tryz.prog tab 160 [.ref 0 1 0 0] [(0,.dat 1 [[.int .u64 a]])] 1 (.d (.int .u64 r)) [(0,.dat 1 [[.int .u64 r]])] 1:=by
 unfold Uw at b
 refine Qz Tryz.func160 J (by kernel_rfl) (by kernel_rfl) J<|qa<|q8 J<|q9<|qe<|Q2 [Q7 0,q0,q0,q0,qm 0,q0,q0,qm 0,q0,q0] (by kernel_rfl)<|U J<|O (.ref 0 1 0 0) J<|O (.d (.int .u64 a)) J<|U J<|O (.ref 0 1 0 0) J<|O (.d (.int .u64 a)) J<|O (.d (.int .u64 (IntKind.wrap .u64 (a * (2 ^ 13))))) J<|O (.d (.int .u64 (xorI .u64 a (IntKind.wrap .u64 (a * (2 ^ 13)))))) J<|O (.ref 0 1 0 0) J<|qz 0 (.dat 1 [[.int .u64 (xorI .u64 a (IntKind.wrap .u64 (a * (2 ^ 13))))]]) J<|q9<|qe<|Q2 [Q7 0,q0,q0,q0,qm 0,q0,q0,qm 0,q0,q0] (by kernel_rfl)<|U J<|O (.ref 0 1 0 0) J<|O (.d (.int .u64 (xorI .u64 a (IntKind.wrap .u64 (a * (2 ^ 13)))))) J<|U J<|O (.ref 0 1 0 0) J<|O (.d (.int .u64 (xorI .u64 a (IntKind.wrap .u64 (a * (2 ^ 13)))))) J<|O (.d (.int .u64 (Int.fdiv (xorI .u64 a (IntKind.wrap .u64 (a * (2 ^ 13)))) (2 ^ 7)))) J<|O (.d (.int .u64 (xorI .u64 (xorI .u64 a (IntKind.wrap .u64 (a * (2 ^ 13)))) (Int.fdiv (xorI .u64 a (IntKind.wrap .u64 (a * (2 ^ 13)))) (2 ^ 7))))) J<|O (.ref 0 1 0 0) J<|qz 0 (.dat 1 [[.int .u64 (xorI .u64 (xorI .u64 a (IntKind.wrap .u64 (a * (2 ^ 13)))) (Int.fdiv (xorI .u64 a (IntKind.wrap .u64 (a * (2 ^ 13)))) (2 ^ 7)))]]) J<|q9<|qe<|Q2 [Q7 0,q0,q0,q0,qm 0,q0,q0,qm 0,q0,q0] (by kernel_rfl)<|U J<|O (.ref 0 1 0 0) J<|O (.d (.int .u64 (xorI .u64 (xorI .u64 a (IntKind.wrap .u64 (a * (2 ^ 13)))) (Int.fdiv (xorI .u64 a (IntKind.wrap .u64 (a * (2 ^ 13)))) (2 ^ 7))))) J<|U J<|O (.ref 0 1 0 0) J<|O (.d (.int .u64 (xorI .u64 (xorI .u64 a (IntKind.wrap .u64 (a * (2 ^ 13)))) (Int.fdiv (xorI .u64 a (IntKind.wrap .u64 (a * (2 ^ 13)))) (2 ^ 7))))) J<|O (.d (.int .u64 (IntKind.wrap .u64 ((xorI .u64 (xorI .u64 a (IntKind.wrap .u64 (a * (2 ^ 13)))) (Int.fdiv (xorI .u64 a (IntKind.wrap .u64 (a * (2 ^ 13)))) (2 ^ 7))) * (2 ^ 17))))) J<|O (.d (.int .u64 (xorI .u64 (xorI .u64 (xorI .u64 a (IntKind.wrap .u64 (a * (2 ^ 13)))) (Int.fdiv (xorI .u64 a (IntKind.wrap .u64 (a * (2 ^ 13)))) (2 ^ 7))) (IntKind.wrap .u64 ((xorI .u64 (xorI .u64 a (IntKind.wrap .u64 (a * (2 ^ 13)))) (Int.fdiv (xorI .u64 a (IntKind.wrap .u64 (a * (2 ^ 13)))) (2 ^ 7))) * (2 ^ 17)))))) J ?_
 refine O (.ref 0 1 0 0) J<|qz 0 (.dat 1 [[.int .u64 (xorI .u64 (xorI .u64 (xorI .u64 a (IntKind.wrap .u64 (a * (2 ^ 13)))) (Int.fdiv (xorI .u64 a (IntKind.wrap .u64 (a * (2 ^ 13)))) (2 ^ 7))) (IntKind.wrap .u64 ((xorI .u64 (xorI .u64 a (IntKind.wrap .u64 (a * (2 ^ 13)))) (Int.fdiv (xorI .u64 a (IntKind.wrap .u64 (a * (2 ^ 13)))) (2 ^ 7))) * (2 ^ 17))))]]) J<|qp<|U J<|O (.ref 0 1 0 0) J<|O (.d (.int .u64 (xorI .u64 (xorI .u64 (xorI .u64 a (IntKind.wrap .u64 (a * (2 ^ 13)))) (Int.fdiv (xorI .u64 a (IntKind.wrap .u64 (a * (2 ^ 13)))) (2 ^ 7))) (IntKind.wrap .u64 ((xorI .u64 (xorI .u64 a (IntKind.wrap .u64 (a * (2 ^ 13)))) (Int.fdiv (xorI .u64 a (IntKind.wrap .u64 (a * (2 ^ 13)))) (2 ^ 7))) * (2 ^ 17)))))) J<|q8 J<|qo ?_
 obtain rfl:=qc b
 exact ⟨.inr J,_,J,wkA [] [] []⟩
theorem qtx (m : List Int) (a : Int) (b : Int) (r : List Int) (g : q56  m a b = some r) : Qo Tryz.prog tab 146 [.hs 0 1 0 m.length,q6 a,q6 b] [(0,.dat 1 (m.map (eI .i64)))] 1 (.d (.tup [])) [(0,.dat 1 (r.map (eI .i64)))] 1:=by
 unfold q56 at g
 refine Qz Tryz.func146 J (by kernel_rfl) (by kernel_rfl) J<|qa<|U J<|U J<|O (.d (G (w64 (b - a)))) J<|q8 J<|qp<|U J<|O (.d (.bool (decide ((w64 (b - a)) ≥ 8)))) J<|q9 ?_
 refine qj J g (fun _ g=>?_) (fun _ g=>?_)
 ·refine qa<|U J<|O (.d (.int .u64 (IntKind.wrap .u64 (w64 (b - a))))) J<|Qk J J<|qz 1 (.dat 1 [[.int .u64 (IntKind.wrap .u64 (w64 (b - a)))]]) J<|qp<|U J ?_
  obtain ⟨h,u,g⟩:=q7 g
  refine qv (qjk (w64 (b - a)) h u) J<|q8 J<|qp<|U J<|U J<|O (.d (G (w64 (Int.tdiv (w64 (b - a)) 4)))) J<|O (.d (G (w64 ((w64 (Int.tdiv (w64 (b - a)) 4)) * 2)))) J<|O (.d (G (w64 (a + (w64 ((w64 (Int.tdiv (w64 (b - a)) 4)) * 2)))))) J<|O (.d (G (w64 ((w64 (a + (w64 ((w64 (Int.tdiv (w64 (b - a)) 4)) * 2)))) - 1)))) J<|q8 J<|q9 ?_
  obtain ⟨v,w,g⟩:=q7 g
  refine qw<|Q4 (q57 a b h) (fun (f : Int × List Int × Int)=>⟨[(0,.hs 0 1 0 f.2.1.length),(1,q6 a),(6,.d (G (w64 (b - a)))),(7,.ref 1 1 0 0),(8,.d (.int .u64 h)),(9,q6 f.1)],[(0,.dat 1 (f.2.1.map (eI .i64))),(1,.dat 1 [[.int .u64 f.2.2]])],2⟩) (w64 ((w64 (a + (w64 ((w64 (Int.tdiv (w64 (b - a)) 4)) * 2)))) - 1),m,IntKind.wrap .u64 (w64 (b - a))) v w (wkA [(1,1)] [] []) ?_
  intro f z c
  unfold q57 at c
  refine qe<|qa<|U J<|U J<|U J<|O (.d (G (w64 (Int.tdiv (w64 (b - a)) 4)))) J<|O (.d (G (w64 ((w64 (Int.tdiv (w64 (b - a)) 4)) * 2)))) J<|O (.d (G (w64 (a + (w64 ((w64 (Int.tdiv (w64 (b - a)) 4)) * 2)))))) J<|O (.d (G (w64 ((w64 (a + (w64 ((w64 (Int.tdiv (w64 (b - a)) 4)) * 2)))) + 1)))) J<|O (.d (.bool (decide (f.1≤(w64 ((w64 (a + (w64 ((w64 (Int.tdiv (w64 (b - a)) 4)) * 2)))) + 1)))))) J<|q9 ?_
  refine qj J c (fun _ c=>?_) (fun _ c=>?_)
  ·refine qk<|qe<|qw<|qa ?_
   obtain ⟨j,x,c⟩:=q7 c
   refine Qr [(0,1)] [(0,1),(1,0)] [.ref 1 1 0 0] (.d (.int .u64 j)) 1 [(1,.dat 1 [[.int .u64 j]]),(0,.dat 1 (f.2.1.map (eI .i64)))] 2 (qjn f.2.2 j x)<|U J<|O (.d (.int .u64 (IntKind.wrap .u64 (h - 1)))) J<|O (.d (.int .u64 (andI .u64 j (IntKind.wrap .u64 (h - 1))))) J<|O (.d (G (w64 (andI .u64 j (IntKind.wrap .u64 (h - 1)))))) J<|q8 J<|q9<|qe<|qa<|U J<|U J<|O (.d (.bool (decide ((w64 (andI .u64 j (IntKind.wrap .u64 (h - 1)))) ≥ (w64 (b - a)))))) J<|q9 ?_
   obtain ⟨y,l,c⟩:=q7 c
   refine Kv (fun k=>k = y) (fun (k : Int)=>⟨[(0,.hs 0 1 0 f.2.1.length),(1,q6 a),(6,.d (G (w64 (b - a)))),(7,.ref 1 1 0 0),(8,.d (.int .u64 h)),(9,q6 f.1),(10,q6 k)],[(0,.dat 1 (f.2.1.map (eI .i64))),(1,.dat 1 [[.int .u64 j]])],2⟩) (by simp) ?_ ?_
   ·refine qj J l (fun _ l=>?_) (fun _ l=>?_)
    ·refine qt<|U J<|U J<|O (.d (G (w64 ((w64 (andI .u64 j (IntKind.wrap .u64 (h - 1)))) - (w64 (b - a)))))) J<|q8 J<|qq ?_
     obtain rfl:=qc l
     exact ⟨_,J,wkA [(1,1)] [] []⟩
    refine qk<|Q8 ?_
    obtain rfl:=qc l
    exact ⟨_,J,wkA [(1,1)] [] []⟩
   intro k hb
   subst hb
   refine Q2 [Q7 0,q0,Q7 0,q0,qm 0,q0,q0,q0,qm 0,q0,q0,q0,q0,q0,q0,q0,q0,q0,q0,q0] (by kernel_rfl)<|U J<|U J<|U J<|U J<|U J<|O (.d (G (w64 (a + k)))) J<|U J<|U J<|U J<|O (.d (G (w64 (a + k)))) J ?_
   obtain ⟨n,p,c⟩:=q7 c
   refine qn p J J<|qx (q6 n) p J<|U J<|U J ?_
   obtain ⟨o,q,c⟩:=q7 c
   refine qn q J J<|qx (q6 o) q J ?_
   obtain ⟨aa,s,c⟩:=q7 c
   refine qn s J J<|Qi (ds:=[G n]) n s J J J J J J J J (leb J) J ?_
   obtain ⟨ab,t,c⟩:=q7 c
   refine qn t (by simp) J<|Qi (ds:=[G o]) o t J J J J J J J J (leb J) J<|qq<|Qa<|qt<|U J<|O (.d (G (w64 (f.1 + 1)))) J<|q8 J<|qq ?_
   exact ⟨_,(Option.some.inj c).symm,wkE [(1,1)] [] [] J ⟨⟨_,J,Ql (by simp) J (by decide) (ltd J)⟩,⟨_,J,.d (.refl _)⟩,⟨_,J,.d (.refl _)⟩,⟨_,J,.ref J (by decide) (ltd J)⟩,⟨_,J,.d (.refl _)⟩,⟨_,J,.d (.refl _)⟩,trivial⟩ ⟨⟨ltd J,.inr ⟨by decide,_,J,.dat _ _⟩⟩,⟨ltd J,.inr ⟨by decide,_,J,.dat _ _⟩⟩,trivial⟩⟩
  refine Q1 ?_
  refine ⟨_,(Option.some.inj c).symm,fun hm=>?_⟩
  subst hm
  obtain rfl:=qc g
  exact ⟨.inl J,_,J,wkA [] [] []⟩
 refine qk<|Q8 ?_
 obtain rfl:=qc g
 exact ⟨.inl J,_,J,wkA [] [] []⟩
theorem quc (rec : List Int→Int→Int→Int→Option (List Int)) (hrec : ∀ (n : List Int) (o : Int) (p : Int) (q : Int) (r : List Int),rec n o p q = some r→Qo Tryz.prog tab 132 [.hs 0 1 0 n.length,q6 o,q6 p,q6 q] [(0,.dat 1 (n.map (eI .i64)))] 1 (.d (.tup [])) [(0,.dat 1 (r.map (eI .i64)))] 1) (n : List Int) (o : Int) (p : Int) (q : Int) (r : List Int) (s : q3h rec  n o p q = some r) : Qo Tryz.prog tab 132 [.hs 0 1 0 n.length,q6 o,q6 p,q6 q] [(0,.dat 1 (n.map (eI .i64)))] 1 (.d (.tup [])) [(0,.dat 1 (r.map (eI .i64)))] 1:=by
 unfold q3h at s
 refine Qz Tryz.func132 J (by kernel_rfl) (by kernel_rfl) J<|qa<|q8 J<|qp<|q8 J<|q9 ?_
 obtain ⟨bd,be,s⟩:=q7 s
 refine qw<|Q4 (q3g rec) (fun (a : Int × Int × Int × Bool × Bool × List Int)=>⟨[(0,.hs 0 1 0 a.2.2.2.2.2.length),(1,q6 a.1),(2,q6 a.2.1),(3,q6 a.2.2.1),(8,qf a.2.2.2.1),(9,qf a.2.2.2.2.1)],[(0,.dat 1 (a.2.2.2.2.2.map (eI .i64)))],1⟩) (o,p,q,true,true,n) bd be (wkA [] [] []) ?_
 intro a cm b
 unfold q3g at b
 refine qw<|qa<|U J<|U J<|O (.d (G (w64 (a.2.1 - a.1)))) J<|q8 J<|q9<|qe<|qa<|U J<|O (.d (.bool (decide ((w64 (a.2.1 - a.1))≤12)))) J<|q9 ?_
 refine qj J b (fun _ b=>?_) (fun _ b=>?_)
 ·refine qa<|U J<|U J<|U J ?_
  obtain ⟨ac,bf,b⟩:=q7 b
  obtain ⟨cn,bg,b⟩:=q7 b
  have co:=K3 bg
  refine Qr [(0,0)] [(0,0)] [.hs 0 1 0 a.2.2.2.2.2.length,q6 a.1,q6 a.2.1] (.d (.tup [])) 1 [(0,.dat 1 (ac.map (eI .i64)))] 1 (qu3 a.2.2.2.2.2 a.1 a.2.1 ac bf)<|qo ?_
  refine ⟨_,(Option.some.inj b).symm,fun hm=>?_⟩
  subst hm
  obtain rfl:=qc s
  exact ⟨.inr J,_,J,wkA [] [] []⟩
 refine qk<|qe<|qa<|U J<|O (qf (a.2.2.1 == 0)) J<|q9 ?_
 refine qj J b (fun _ b=>?_) (fun _ b=>?_)
 ·refine qa<|U J<|U J<|U J ?_
  obtain ⟨ad,bh,b⟩:=q7 b
  obtain ⟨cp,bi,b⟩:=q7 b
  have cq:=K3 bi
  refine Qr [(0,0)] [(0,0)] [.hs 0 1 0 a.2.2.2.2.2.length,q6 a.1,q6 a.2.1] (.d (.tup [])) 1 [(0,.dat 1 (ad.map (eI .i64)))] 1 (qu1 a.2.2.2.2.2 a.1 a.2.1 ad bh)<|qo ?_
  refine ⟨_,(Option.some.inj b).symm,fun hm=>?_⟩
  subst hm
  obtain rfl:=qc s
  exact ⟨.inr J,_,J,wkA [] [] []⟩
 refine qk<|qe<|qa<|U J<|O (qf (!a.2.2.2.1)) J<|q9 ?_
 obtain ⟨bj,l,b⟩:=q7 b
 refine Kv (fun f=>f = bj) (fun (f : Int × List Int)=>⟨[(0,.hs 0 1 0 f.2.length),(1,q6 a.1),(2,q6 a.2.1),(3,q6 f.1),(8,qf a.2.2.2.1),(9,qf a.2.2.2.2.1),(10,.d (G (w64 (a.2.1 - a.1))))],[(0,.dat 1 (f.2.map (eI .i64)))],1⟩) (by simp) ?_ ?_
 ·refine qj J l (fun _ l=>?_) (fun _ l=>?_)
  ·refine qa<|U J<|U J<|U J ?_
   obtain ⟨ae,bk,l⟩:=q7 l
   obtain ⟨cr,bl,l⟩:=q7 l
   have bm:=K3 bl
   refine Qr [(0,0)] [(0,0)] [.hs 0 1 0 a.2.2.2.2.2.length,q6 a.1,q6 a.2.1] (.d (.tup [])) 1 [(0,.dat 1 (ae.map (eI .i64)))] 1 (qtx a.2.2.2.2.2 a.1 a.2.1 ae bk)<|q9<|qt<|U J<|O (.d (G (w64 (a.2.2.1 - 1)))) J<|q8 J<|qq ?_
   obtain rfl:=qc l
   exact ⟨_,J,wkE [] [] [] J ⟨⟨_,J,Ql (by simp [bm]) J (by decide) (ltd J)⟩,⟨_,J,.d (.refl _)⟩,⟨_,J,.d (.refl _)⟩,⟨_,J,.d (.refl _)⟩,⟨_,J,.d (.refl _)⟩,⟨_,J,.d (.refl _)⟩,⟨_,J,.d (.refl _)⟩,trivial⟩ ⟨⟨ltd J,.inr ⟨by decide,_,J,.dat _ _⟩⟩,trivial⟩⟩
  refine qk<|Q8 ?_
  obtain rfl:=qc l
  exact ⟨_,J,wkA [] [] []⟩
 intro f hb
 subst hb
 refine qa<|U J<|U J<|U J ?_
 obtain ⟨t,bn,b⟩:=q7 b
 refine qd5 [.hs 0 1 0 f.2.length,q6 a.1,q6 a.2.1] (qtz f.2 a.1 a.2.1 t bn) J J (q27 (Jf J J) (q27 J (q27 J J))) (.inr J)<|U J<|O (q6 t.1) J<|O (q6 t.2) J<|q8 J<|q8 J<|q9<|qe<|qa<|U J<|O (qf (t.2 == 2)) J<|q9 ?_
 obtain ⟨bo,m,b⟩:=q7 b
 refine Kv (fun g=>g = bo) (fun (g : Int × Int × List Int)=>⟨[(0,.hs 0 1 0 g.2.2.length),(1,q6 a.1),(2,q6 a.2.1),(3,q6 f.1),(8,qf a.2.2.2.1),(9,qf a.2.2.2.2.1),(10,.d (G (w64 (a.2.1 - a.1)))),(11,q6 g.1),(12,q6 g.2.1)],[(0,.dat 1 (g.2.2.map (eI .i64)))],1⟩) (by simp) ?_ ?_
 ·refine qj J m (fun _ m=>?_) (fun _ m=>?_)
  ·refine qa<|U J<|U J<|U J ?_
   obtain ⟨af,bp,m⟩:=q7 m
   obtain ⟨cs,bq,m⟩:=q7 m
   have br:=K3 bq
   refine Qr [(0,0)] [(0,0)] [.hs 0 1 0 f.2.length,q6 a.1,q6 a.2.1] (.d (.tup [])) 1 [(0,.dat 1 (af.map (eI .i64)))] 1 (quf f.2 a.1 a.2.1 af bp)<|qp<|U J<|O (.d (G (w64 (a.2.1 - 1)))) J<|U J<|U J<|O (.d (G (w64 (t.1 - a.1)))) J<|O (.d (G (w64 ((w64 (a.2.1 - 1)) - (w64 (t.1 - a.1)))))) J<|q8 J<|q9<|qt<|q8 J<|qq ?_
   obtain rfl:=qc m
   exact ⟨_,J,wkE [] [] [] J ⟨⟨_,J,Ql (by simp [br]) J (by decide) (ltd J)⟩,⟨_,J,.d (.refl _)⟩,⟨_,J,.d (.refl _)⟩,⟨_,J,.d (.refl _)⟩,⟨_,J,.d (.refl _)⟩,⟨_,J,.d (.refl _)⟩,⟨_,J,.d (.refl _)⟩,⟨_,J,.d (.refl _)⟩,⟨_,J,.d (.refl _)⟩,trivial⟩ ⟨⟨ltd J,.inr ⟨by decide,_,J,.dat _ _⟩⟩,trivial⟩⟩
  refine qk<|Q8 ?_
  obtain rfl:=qc m
  exact ⟨_,J,wkA [] [] []⟩
 intro g hb
 subst hb
 refine qe<|qa<|U J ?_
 obtain ⟨bs,u,b⟩:=q7 b
 refine Q5 3 (fun A st=>∃ (ag ah : V),st = A [(64,qf bs),(63,ah),(62,ag)]) ?_ ?_
 ·refine Q6 J J u (fun u=>?_) (fun u=>?_)
  ·refine U J<|O (qf a.2.2.2.2.1) J<|q9 ?_
   obtain rfl:=qc u
   exact ⟨_,_,J⟩
  refine qb J<|O (qf false) J<|q9 ?_
  obtain rfl:=qc u
  exact ⟨_,_,J⟩
 rintro _ ⟨ag,ah,rfl⟩
 obtain ⟨bt,v,b⟩:=q7 b
 refine Q5 4 (fun A st=>∃ (ai aj ak : V),st = A [(68,qf bt),(67,ak),(66,aj),(65,ai)]) ?_ ?_
 ·refine Q6 J J v (fun v=>?_) (fun v=>?_)
  ·refine U J<|O (qf (g.2.1 == 1)) J<|O (qf (g.2.1 == 1)) J<|q9 ?_
   obtain rfl:=qc v
   exact ⟨_,_,_,J⟩
  refine qb J<|qb J<|O (qf false) J<|q9 ?_
  obtain rfl:=qc v
  exact ⟨_,_,_,J⟩
 rintro _ ⟨ai,aj,ak,rfl⟩
 refine q9 ?_
 obtain ⟨bu,h,b⟩:=q7 b
 refine Kv (fun j=>.inl j = bu) (fun (j : List Int)=>⟨[(0,.hs 0 1 0 j.length),(1,q6 a.1),(2,q6 a.2.1),(3,q6 f.1),(8,qf a.2.2.2.1),(9,qf a.2.2.2.2.1),(10,.d (G (w64 (a.2.1 - a.1)))),(11,q6 g.1)],[(0,.dat 1 (j.map (eI .i64)))],1⟩) (by simp) ?_ ?_
 ·refine qj J h (fun _ h=>?_) (fun _ h=>?_)
  ·refine qa<|U J<|U J<|U J ?_
   obtain ⟨x,bv,h⟩:=q7 h
   obtain ⟨ct,bw,h⟩:=q7 h
   have bx:=K3 bw
   refine Qr [(0,0)] [(0,0)] [.hs 0 1 0 g.2.2.length,q6 a.1,q6 a.2.1] (qf x.1) 1 [(0,.dat 1 (x.2.map (eI .i64)))] 1 (qu5 g.2.2 a.1 a.2.1 x bv)<|q9 ?_
   refine qj J h (fun _ h=>?_) (fun _ h=>?_)
   ·refine q36 ?_
    obtain rfl:=qc h
    refine ⟨_,(Option.some.inj b).symm,fun hm=>?_⟩
    subst hm
    obtain rfl:=qc s
    exact ⟨.inr J,_,J,wkA [] [] []⟩
   refine qk<|Q8 ?_
   obtain rfl:=qc h
   exact ⟨_,J,wkE [] [] [] J ⟨⟨_,J,Ql (by simp [bx]) J (by decide) (ltd J)⟩,⟨_,J,.d (.refl _)⟩,⟨_,J,.d (.refl _)⟩,⟨_,J,.d (.refl _)⟩,⟨_,J,.d (.refl _)⟩,⟨_,J,.d (.refl _)⟩,⟨_,J,.d (.refl _)⟩,⟨_,J,.d (.refl _)⟩,trivial⟩ ⟨⟨ltd J,.inr ⟨by decide,_,J,.dat _ _⟩⟩,trivial⟩⟩
  refine qk<|Q8 ?_
  obtain rfl:=qc h
  exact ⟨_,J,wkA [] [] []⟩
 intro j hb
 subst hb
 refine qe<|qe<|Q2 [q0,q0,q0,qm 0,q0,q0,q0,qm 0,q0,q0,q0,q0,q0,q0,q0] (by kernel_rfl)<|U J<|O (.d (.bool (decide (a.1 > 0)))) J ?_
 obtain ⟨bz,k,b⟩:=q7 b
 refine Q5 13 (fun A st=>∃ (al am an ao ap aq ar au av aw ax ay : V),st = A [(87,qf bz),(86,ay),(85,ax),(84,aw),(83,av),(82,au),(81,ar),(80,aq),(79,ap),(78,ao),(77,an),(76,am),(75,al)]) ?_ ?_
 ·refine Q6 J J k (fun k=>?_) (fun k=>?_)
  ·refine U J<|U J<|O (.d (G (w64 (a.1 - 1)))) J ?_
   obtain ⟨az,ba,k⟩:=q7 k
   refine qn ba J J<|qx (q6 az) ba J<|U J<|U J ?_
   obtain ⟨bb,bc,k⟩:=q7 k
   refine qn bc J J<|qx (q6 bb) bc J ?_
   obtain ⟨y,ca,k⟩:=q7 k
   refine qv (Yx az bb y ca) J<|O (qf (!y)) J<|O (qf (!y)) J<|q9 ?_
   obtain rfl:=qc k
   exact ⟨_,_,_,_,_,_,_,_,_,_,_,_,J⟩
  refine qb J<|qb J<|qb J<|qb J<|qb J<|qb J<|qb J<|qb J<|qb J<|qb J<|qb J<|O (qf false) J<|q9 ?_
  obtain rfl:=qc k
  exact ⟨_,_,_,_,_,_,_,_,_,_,_,_,J⟩
 rintro _ ⟨al,am,an,ao,ap,aq,ar,au,av,aw,ax,ay,rfl⟩
 refine q9 ?_
 refine qj J b (fun _ b=>?_) (fun _ b=>?_)
 ·refine qa<|U J<|U J<|U J<|U J ?_
  obtain ⟨z,cb,b⟩:=q7 b
  obtain ⟨cu,cc,b⟩:=q7 b
  have cd:=K3 cc
  refine Qr [(0,0)] [(0,0)] [.hs 0 1 0 j.length,q6 a.1,q6 a.2.1,q6 g.1] (q6 z.1) 1 [(0,.dat 1 (z.2.map (eI .i64)))] 1 (qu8 j a.1 a.2.1 g.1 z cb)<|q8 J<|qp<|U J<|q8 J<|q9<|Q1<|q29<|Q8 ?_
  exact ⟨_,(Option.some.inj b).symm,wkE [] [] [] J ⟨⟨_,J,Ql (by simp [cd]) J (by decide) (ltd J)⟩,⟨_,J,.d (.refl _)⟩,⟨_,J,.d (.refl _)⟩,⟨_,J,.d (.refl _)⟩,⟨_,J,.d (.refl _)⟩,⟨_,J,.d (.refl _)⟩,trivial⟩ ⟨⟨ltd J,.inr ⟨by decide,_,J,.dat _ _⟩⟩,trivial⟩⟩
 refine qk<|qa<|U J<|U J<|U J<|U J ?_
 obtain ⟨c,ce,b⟩:=q7 b
 obtain ⟨cv,cf,b⟩:=q7 b
 have w:=K3 cf
 refine Qr [(0,0)] [(0,0)] [.hs 0 1 0 j.length,q6 a.1,q6 a.2.1,q6 g.1] (.d (.tup [G c.1,.bool c.2.1])) 1 [(0,.dat 1 (c.2.2.map (eI .i64)))] 1 (qu9 j a.1 a.2.1 g.1 c ce)<|U J<|O (q6 c.1) J<|O (qf c.2.1) J<|q8 J<|q8 J<|qp<|U J<|q8 J<|qp<|U J<|U J<|O (.d (G (w64 (c.1 - a.1)))) J<|U J<|U J<|O (.d (G (w64 (a.2.1 - c.1)))) J<|q8 J<|q8 J<|qp<|U J<|O (.d (G (w64 (Int.tdiv (w64 (a.2.1 - a.1)) 8)))) J<|q8 J<|qp<|U J<|U J<|O (.d (.bool (decide ((w64 (c.1 - a.1)) < (w64 (a.2.1 - c.1)))))) J<|q9 ?_
 refine qj J b (fun _ b=>?_) (fun _ b=>?_)
 ·refine qa<|U J<|U J<|O (.d (.bool (decide ((w64 (c.1 - a.1)) ≥ (w64 (Int.tdiv (w64 (a.2.1 - a.1)) 8)))))) J<|q8 J<|qp<|U J<|U J<|U J<|U J ?_
  obtain ⟨aa,cg,b⟩:=q7 b
  obtain ⟨cw,ch,b⟩:=q7 b
  have ci:=K3 ch
  refine Jx [(0,0)] [(0,0)] [.hs 0 1 0 j.length,q6 a.1,q6 c.1,q6 f.1] (.d (.tup [])) [(0,.dat 1 (aa.map (eI .i64)))] [(0,.dat 1 (aa.map (eI .i64)))] 1 (hrec c.2.2 a.1 c.1 f.1 aa cg) J J J (Y6 [(0,0)] [] [] J ⟨⟨_,J,Ql (by simp [w]) J (by decide) (ltd J)⟩,⟨_,J,.d (.refl _)⟩,⟨_,J,.d (.refl _)⟩,⟨_,J,.d (.refl _)⟩,trivial⟩ ⟨⟨ltd J,.inr ⟨by decide,_,J,.dat _ _⟩⟩,trivial⟩) (Y6 [(0,0)] [] [] J ⟨⟨_,J,.d (.refl _)⟩,trivial⟩ ⟨⟨ltd J,.inr ⟨by decide,_,J,.dat _ _⟩⟩,trivial⟩) J ⟨.inl J,trivial⟩<|q9<|qt<|U J<|O (.d (G (w64 (c.1 + 1)))) J<|q8 J<|qq<|Qa<|Q8 ?_
  exact ⟨_,(Option.some.inj b).symm,wkE [] [] [] J ⟨⟨_,J,Ql (by simp [w,ci]) J (by decide) (ltd J)⟩,⟨_,J,.d (.refl _)⟩,⟨_,J,.d (.refl _)⟩,⟨_,J,.d (.refl _)⟩,⟨_,J,.d (.refl _)⟩,⟨_,J,.d (.refl _)⟩,trivial⟩ ⟨⟨ltd J,.inr ⟨by decide,_,J,.dat _ _⟩⟩,trivial⟩⟩
 refine qa<|U J<|U J<|O (.d (.bool (decide ((w64 (a.2.1 - c.1)) ≥ (w64 (Int.tdiv (w64 (a.2.1 - a.1)) 8)))))) J<|q8 J<|qp<|U J<|U J<|O (.d (G (w64 (c.1 + 1)))) J<|U J<|U J ?_
 obtain ⟨ab,cj,b⟩:=q7 b
 obtain ⟨cx,ck,b⟩:=q7 b
 have cl:=K3 ck
 refine Jx [(0,0)] [(0,0)] [.hs 0 1 0 j.length,.d (G (w64 (c.1 + 1))),q6 a.2.1,q6 f.1] (.d (.tup [])) [(0,.dat 1 (ab.map (eI .i64)))] [(0,.dat 1 (ab.map (eI .i64)))] 1 (hrec c.2.2 (w64 (c.1 + 1)) a.2.1 f.1 ab cj) J J J (Y6 [(0,0)] [] [] J ⟨⟨_,J,Ql (by simp [w]) J (by decide) (ltd J)⟩,⟨_,J,.d (.refl _)⟩,⟨_,J,.d (.refl _)⟩,⟨_,J,.d (.refl _)⟩,trivial⟩ ⟨⟨ltd J,.inr ⟨by decide,_,J,.dat _ _⟩⟩,trivial⟩) (Y6 [(0,0)] [] [] J ⟨⟨_,J,.d (.refl _)⟩,trivial⟩ ⟨⟨ltd J,.inr ⟨by decide,_,J,.dat _ _⟩⟩,trivial⟩) J ⟨.inl J,trivial⟩<|q9<|qt<|U J<|q8 J<|qq<|Qa<|Q8 ?_
 exact ⟨_,(Option.some.inj b).symm,wkE [] [] [] J ⟨⟨_,J,Ql (by simp [w,cl]) J (by decide) (ltd J)⟩,⟨_,J,.d (.refl _)⟩,⟨_,J,.d (.refl _)⟩,⟨_,J,.d (.refl _)⟩,⟨_,J,.d (.refl _)⟩,⟨_,J,.d (.refl _)⟩,trivial⟩ ⟨⟨ltd J,.inr ⟨by decide,_,J,.dat _ _⟩⟩,trivial⟩⟩
theorem qud (n : Nat) : ∀ (a : List Int) (b : Int) (c : Int) (f : Int) (r : List Int),q5x n  a b c f = some r→Qo Tryz.prog tab 132 [.hs 0 1 0 a.length,q6 b,q6 c,q6 f] [(0,.dat 1 (a.map (eI .i64)))] 1 (.d (.tup [])) [(0,.dat 1 (r.map (eI .i64)))] 1:=by
 induction n with
 | zero=>intro a b c f r g;cases g
 | succ n ih=>intro a b c f r g;exact quc (q5x n )   ih a b c f r g
theorem qjh (a : List Int) (r : List Int) (b : U2  a = some r) : Qo Tryz.prog tab 110 [.hs 0 1 0 a.length] [(0,.dat 1 (a.map (eI .i64)))] 1 (.d (.tup [])) [(0,.dat 1 (r.map (eI .i64)))] 1:=by
 unfold U2 at b
 refine Qz Tryz.func110 J (by kernel_rfl) (by kernel_rfl) J<|qa<|U J<|O (q6 (a.length : Int)) J<|q8 J<|q9<|qt<|U J<|U J<|U J<|O (.d (.int .u64 (IntKind.wrap .u64 (a.length : Int)))) J ?_
 obtain ⟨c,h,b⟩:=q7 b
 refine qv (qcp (IntKind.wrap .u64 (a.length : Int)) c h) J ?_
 obtain ⟨g,f,b⟩:=q7 b
 obtain ⟨l,j,b⟩:=q7 b
 have m:=K3 j
 obtain ⟨k,f⟩:=qcl f
 refine Qr [(0,0)] [(0,0)] [.hs 0 1 0 a.length,q6 0,q6 (a.length : Int),q6 c] (.d (.tup [])) 1 [(0,.dat 1 (g.map (eI .i64)))] 1 (qud k a 0 (a.length : Int) c g f)<|qq ?_
 obtain rfl:=qc b
 exact ⟨.inl J,_,J,wkA [] [] []⟩
theorem qjg (c : List Int) (r : (Nat × Nat) × List Int) (g : q1v  c = some r) : Qo Tryz.prog tab 111 [.hs 0 1 0 c.length] [(0,.dat 1 (c.map (eI .i64)))] 1 (.hs 0 1 r.1.1 r.1.2) [(0,.dat 1 (r.2.map (eI .i64)))] 1:=by
 unfold q1v at g
 refine Qz Tryz.func111 J (by kernel_rfl) (by kernel_rfl) J<|qa<|q8 J<|q9<|qe<|qa<|U J<|O (q6 (c.length : Int)) J<|O (.d (.bool (decide ((c.length : Int) < 2)))) J<|q9 ?_
 refine qj J g (fun _ g=>?_) (fun _ g=>?_)
 ·refine qa<|U J<|q8 J<|qo ?_
  obtain rfl:=qc g
  exact ⟨.inr J,_,J,wkA [] [] []⟩
 refine qk<|qe<|qa<|q8 J<|q9 ?_
 obtain ⟨p,ae,g⟩:=q7 g
 refine Q9 (fun m=>.inl m = p) (fun (m : Unit)=>⟨[(0,.hs 0 1 0 c.length)],[(0,.dat 1 (c.map (eI .i64)))],1⟩) (by simp) ?_ ?_
 ·refine Q4 (Zj c) (fun (l : Int)=>⟨[(0,.hs 0 1 0 c.length),(3,q6 l)],[(0,.dat 1 (c.map (eI .i64)))],1⟩) 1 p ae (wkA [] [] []) ?_
  intro l ak a
  unfold Zj at a
  refine qe<|qa<|U J<|U J<|O (q6 (c.length : Int)) J<|O (.d (.bool (decide (l < (c.length : Int))))) J<|q9 ?_
  refine qj J a (fun _ a=>?_) (fun _ a=>?_)
  ·refine qk<|qe<|qw<|qe<|Q2 [q0,qm 0,q0,q0,q0,q0,qm 0,q0,q0,q0] (by kernel_rfl)<|U J<|U J ?_
   obtain ⟨q,s,a⟩:=q7 a
   refine qn s J J<|qx (q6 q) s J<|U J<|U J<|O (.d (G (w64 (l - 1)))) J ?_
   obtain ⟨t,u,a⟩:=q7 a
   refine qn u J J<|qx (q6 t) u J<|O (qf (q == t)) J<|q9 ?_
   refine qj J a (fun _ a=>?_) (fun _ a=>?_)
   ·refine qa<|U J<|U J ?_
    obtain ⟨af,ag,a⟩:=q7 a
    refine q6w ag J J J J J (q3z J) (fun _=>rfl)<|q8 J<|q9<|qe<|qa<|q8 J<|q9 ?_
    obtain ⟨v,ah,a⟩:=q7 a
    refine Q9 (fun h=>h = v) (fun (h : Int × List Int)=>⟨[(0,.hs 0 1 0 h.2.length),(3,q6 h.1)],[(0,.dat 1 (h.2.map (eI .i64)))],1⟩) (by simp) ?_ ?_
    ·refine Q4 (Uu) (fun (b : Int × (Nat × Nat) × Int × List Int)=>⟨[(0,.hs 0 1 0 b.2.2.2.length),(3,q6 b.1),(4,.hs 0 1 b.2.1.1 b.2.1.2),(5,q6 b.2.2.1)],[(0,.dat 1 (b.2.2.2.map (eI .i64)))],1⟩) (l,af,1,c) v ah (wkA [] [] []) ?_
     intro b al j
     unfold Uu at j
     refine qe<|qa<|U J<|U J<|O (q6 (b.2.1.2 : Int)) J<|O (.d (.bool (decide (b.2.2.1 < (b.2.1.2 : Int))))) J<|q9 ?_
     refine qj J j (fun _ j=>?_) (fun _ j=>?_)
     ·refine qk<|qe ?_
      obtain ⟨ai,f,j⟩:=q7 j
      refine Q9 (fun k=>k = ai) (fun (k : Int × (Nat × Nat) × List Int)=>⟨[(0,.hs 0 1 0 k.2.2.length),(3,q6 k.1),(4,.hs 0 1 k.2.1.1 k.2.1.2),(5,q6 b.2.2.1)],[(0,.dat 1 (k.2.2.map (eI .i64)))],1⟩) (by simp) ?_ ?_
      ·refine qe<|Q2 [q0,qm 0,q0,q0,q0,q0,qm 0,q0,q0,q0] (by kernel_rfl)<|U J<|U J ?_
       obtain ⟨x,y,f⟩:=q7 f
       refine qd1 y J J J J J J<|qx (q6 x) (qci y) J<|U J<|U J<|O (.d (G (w64 (b.2.2.1 - 1)))) J ?_
       obtain ⟨z,aa,f⟩:=q7 f
       refine qd1 aa J J J J J J<|qx (q6 z) (qci aa) J<|O (qf (x != z)) J<|q9 ?_
       refine qj J f (fun _ f=>?_) (fun _ f=>?_)
       ·refine qa<|U J<|U J<|U J<|U J ?_
        obtain ⟨n,ab,f⟩:=q7 f
        refine qd1 ab J J J J J J<|qx (q6 n) (qci ab) J ?_
        obtain ⟨am,ac,f⟩:=q7 f
        refine qn ac J J<|Qi (ds:=[G n]) n ac J J J J J J J J (leb J) J<|q9<|qt<|U J<|O (.d (G (w64 (b.1 + 1)))) J<|q8 J<|qq ?_
        obtain rfl:=qc f
        exact ⟨_,J,wkE [] [] [] J ⟨⟨_,J,Ql (by simp) J (by decide) (ltd J)⟩,⟨_,J,.d (.refl _)⟩,⟨_,J,.hs J (by decide) (ltd J)⟩,⟨_,J,.d (.refl _)⟩,trivial⟩ ⟨⟨ltd J,.inr ⟨by decide,_,J,.dat _ _⟩⟩,trivial⟩⟩
       refine qk<|Q8 ?_
       obtain rfl:=qc f
       exact ⟨_,J,wkA [] [] []⟩
      intro k hb
      subst hb
      refine qt<|U J<|O (.d (G (w64 (b.2.2.1 + 1)))) J<|q8 J<|qq ?_
      exact ⟨_,(Option.some.inj j).symm,wkA [] [] []⟩
     refine Q1 ?_
     refine ⟨_,(Option.some.inj j).symm,fun hm=>?_⟩
     subst hm
     exact ⟨_,J,wkA [] [] []⟩
    intro h hb
    subst hb
    refine qa<|U J<|U J ?_
    obtain ⟨ad,o,a⟩:=q7 a
    refine q6w o J J J J J (q3z J) (fun _=>rfl)<|qp5 (w:=ad) (xs:=h.2) (enc:=(eI .i64)) 0 (q91 o) J J J J J J J ?_
    have an:=@qf6 _ h.2 ad 0 (q91 o)
    refine qp<|U J<|U J ?_
    obtain ⟨ao,aj,a⟩:=q7 a
    refine q6w aj J J J J J (fun _=>rfl) (q3z J)<|q8 J<|qo ?_
    refine ⟨_,(Option.some.inj a).symm,fun hm=>?_⟩
    subst hm
    obtain rfl:=qc g
    exact ⟨.inr J,_,J,wkA [] [] []⟩
   refine qk<|Q8<|Qa<|qt<|U J<|O (.d (G (w64 (l + 1)))) J<|q8 J<|qq ?_
   exact ⟨_,(Option.some.inj a).symm,wkA [] [] []⟩
  refine Q1 ?_
  refine ⟨_,(Option.some.inj a).symm,fun hm=>?_⟩
  subst hm
  exact ⟨_,J,wkA [] [] []⟩
 intro m hb
 subst hb
 refine qa<|U J<|q8 J<|qo ?_
 obtain rfl:=qc g
 exact ⟨.inr J,_,J,wkA [] [] []⟩
theorem qtr (c : List qh) (j : qh→Option Bool) (p1F : FuncId) (p1C : List DV) (p1Ok : ∀ (f : qh) (r : Bool),j f = some r→Pure Tryz.prog tab p1F ([.agg [G f.X0,G f.Y0,G f.X1,G f.Y1]] ++ p1C) (.bool r)) (r : Int) (g : qan c j = some r) : Pure Tryz.prog tab 134 [.sl 4 (c.map qs),.fn p1F p1C] (G r):=by
 unfold qan at g
 refine Qb Tryz.func134 J (by kernel_rfl) (by kernel_rfl) J<|qa<|q8 J<|q9<|qe<|qa<|U J<|Qg J<|U J<|q9 ?_
 obtain ⟨l,m,g⟩:=q7 g
 refine Q9 (fun k=>.inl k = l) (fun (k : Unit)=>⟨[],[],0⟩) (by simp) ?_ ?_
 ·refine Q4 (q39 c j) (fun (h : Int)=>⟨[(0,.d (.sl 4 (c.map qs))),(1,.d (.fn p1F p1C)),(7,q6 (c.length : Int)),(8,q6 h)],[],0⟩) 0 l m (wkA [] [] []) ?_
  intro h q a
  unfold q39 at a
  refine qa<|O (.d (.bool (decide (h < (c.length : Int))))) J<|q9<|qe ?_
  refine qj J a (fun _ a=>?_) (fun _ a=>?_)
  ·refine qk<|qe<|qw<|qa<|U J<|q8 J<|qp<|U J<|U J<|U J ?_
   obtain ⟨b,n,a⟩:=q7 a
   refine Q3 (enc:=qs) n J<|O (.d (.agg [G b.X0,G b.Y0,G b.X1,G b.Y1])) J ?_
   obtain ⟨o,p,a⟩:=q7 a
   refine Ye [.d (.agg [G b.X0,G b.Y0,G b.X1,G b.Y1])] (p1Ok b o p) J J J (.inl J)<|q9 ?_
   refine qj J a (fun _ a=>?_) (fun _ a=>?_)
   ·refine qa<|U J<|q8 J<|qo ?_
    refine ⟨_,(Option.some.inj a).symm,fun hm=>?_⟩
    subst hm
    obtain rfl:=qc g
    exact qy (q6 h) J
   refine qk<|Q8<|Qa<|qt<|O (.d (G (w64 (h + 1)))) J<|U J<|qq ?_
   exact ⟨_,(Option.some.inj a).symm,wkA [] [] []⟩
  refine Q1 ?_
  refine ⟨_,(Option.some.inj a).symm,fun hm=>?_⟩
  subst hm
  exact ⟨_,J,wkA [] [] []⟩
 intro k hb
 subst hb
 refine qa<|q8 J<|qo ?_
 obtain rfl:=qc g
 exact qy (q6 (-1)) J
theorem qtk (c : List qh) (f : qh→Option Bool) (p1F : FuncId) (p1C : List DV) (p1Ok : ∀ (a : qh) (r : Bool),f a = some r→Pure Tryz.prog tab p1F ([.agg [G a.X0,G a.Y0,G a.X1,G a.Y1]] ++ p1C) (.bool r)) (r : Bool) (b : q7p c f = some r) : Pure Tryz.prog tab 113 [.sl 4 (c.map qs),.fn p1F p1C] (.bool r):=by
 unfold q7p at b
 refine Qb Tryz.func113 J (by kernel_rfl) (by kernel_rfl) J<|qa<|q8 J<|qp<|U J<|U J ?_
 obtain ⟨g,h,b⟩:=q7 b
 refine qv (qtr c f p1F p1C p1Ok g h) J<|O (.d (.bool (decide (g ≥ 0)))) J<|q8 J<|qo ?_
 obtain rfl:=qc b
 exact qy (.d (.bool (decide (g ≥ 0)))) J
theorem qag (a : Int) (r : Bool) (c : q1p a = some r) : Pure Tryz.prog tab 129 [G a] (.bool r):=by
 unfold q1p at c
 refine Qb Tryz.func129 J (by kernel_rfl) (by kernel_rfl) J<|qa<|q8 J<|qp<|U J<|O (.d (.bool (decide (a ≥ (-1000000))))) J ?_
 obtain ⟨f,b,c⟩:=q7 c
 refine Q5 4 (fun A st=>∃ (g h j : V),st = A [(8,qf f),(7,j),(6,h),(5,g)]) ?_ ?_
 ·refine Q6 J J b (fun b=>?_) (fun b=>?_)
  ·refine U J<|O (.d (.bool (decide (a≤1000000)))) J<|O (.d (.bool (decide (a≤1000000)))) J<|q9 ?_
   obtain rfl:=qc b
   exact ⟨_,_,_,J⟩
  refine qb J<|qb J<|O (qf false) J<|q9 ?_
  obtain rfl:=qc b
  exact ⟨_,_,_,J⟩
 rintro _ ⟨g,h,j,rfl⟩
 refine q8 J<|qo ?_
 obtain rfl:=qc c
 exact qy (qf f) J
theorem qrw (a : qh) (r : Bool) (b : q7j a = some r) : Pure Tryz.prog tab 107 [.agg [G a.X0,G a.Y0,G a.X1,G a.Y1]] (.bool r):=by
 unfold q7j at b
 refine Qb Tryz.func107 J (by kernel_rfl) (by kernel_rfl) J<|qa<|Qe (.ref 0 4 0 0) (.dat 4 [[G a.X0,G a.Y0,G a.X1,G a.Y1]]) J<|q8 J<|qp<|O (.ref 0 4 0 0) J<|O (q6 a.X0) J<|O (.ref 0 4 0 2) J<|O (q6 a.X1) J<|O (.d (.bool (decide (a.X0 < a.X1)))) J ?_
 obtain ⟨c1,j,b⟩:=q7 b
 refine Q5 7 (fun A st=>∃ (k l m n o p : V),st = A [(14,qf c1),(13,p),(12,o),(11,n),(10,m),(9,l),(8,k)]) ?_ ?_
 ·refine Q6 J J j (fun j=>?_) (fun j=>?_)
  ·refine O (.ref 0 4 0 1) J<|O (q6 a.Y0) J<|O (.ref 0 4 0 3) J<|O (q6 a.Y1) J<|O (.d (.bool (decide (a.Y0 < a.Y1)))) J<|O (.d (.bool (decide (a.Y0 < a.Y1)))) J<|q9 ?_
   obtain rfl:=qc j
   exact ⟨_,_,_,_,_,_,J⟩
  refine qb J<|qb J<|qb J<|qb J<|qb J<|O (qf false) J<|q9 ?_
  obtain rfl:=qc j
  exact ⟨_,_,_,_,_,_,J⟩
 rintro _ ⟨k,l,m,n,o,p,rfl⟩
 obtain ⟨an,c,b⟩:=q7 b
 refine Q5 5 (fun A st=>∃ (q s t u : V),st = A [(19,qf an),(18,u),(17,t),(16,s),(15,q)]) ?_ ?_
 ·refine Q6 J J c (fun c=>?_) (fun c=>?_)
  ·refine O (.ref 0 4 0 0) J<|O (q6 a.X0) J ?_
   obtain ⟨v,ao,c⟩:=q7 c
   refine qv (qag a.X0 v ao) J<|O (qf v) J<|q9 ?_
   obtain rfl:=qc c
   exact ⟨_,_,_,_,J⟩
  refine qb J<|qb J<|qb J<|O (qf false) J<|q9 ?_
  obtain rfl:=qc c
  exact ⟨_,_,_,_,J⟩
 rintro _ ⟨q,s,t,u,rfl⟩
 obtain ⟨ap,f,b⟩:=q7 b
 refine Q5 5 (fun A st=>∃ (w x y z : V),st = A [(24,qf ap),(23,z),(22,y),(21,x),(20,w)]) ?_ ?_
 ·refine Q6 J J f (fun f=>?_) (fun f=>?_)
  ·refine O (.ref 0 4 0 2) J<|O (q6 a.X1) J ?_
   obtain ⟨aa,aq,f⟩:=q7 f
   refine qv (qag a.X1 aa aq) J<|O (qf aa) J<|q9 ?_
   obtain rfl:=qc f
   exact ⟨_,_,_,_,J⟩
  refine qb J<|qb J<|qb J<|O (qf false) J<|q9 ?_
  obtain rfl:=qc f
  exact ⟨_,_,_,_,J⟩
 rintro _ ⟨w,x,y,z,rfl⟩
 obtain ⟨ar,g,b⟩:=q7 b
 refine Q5 5 (fun A st=>∃ (ab ac ad ae : V),st = A [(29,qf ar),(28,ae),(27,ad),(26,ac),(25,ab)]) ?_ ?_
 ·refine Q6 J J g (fun g=>?_) (fun g=>?_)
  ·refine O (.ref 0 4 0 1) J<|O (q6 a.Y0) J ?_
   obtain ⟨af,au,g⟩:=q7 g
   refine qv (qag a.Y0 af au) J<|O (qf af) J<|q9 ?_
   obtain rfl:=qc g
   exact ⟨_,_,_,_,J⟩
  refine qb J<|qb J<|qb J<|O (qf false) J<|q9 ?_
  obtain rfl:=qc g
  exact ⟨_,_,_,_,J⟩
 rintro _ ⟨ab,ac,ad,ae,rfl⟩
 obtain ⟨ag,h,b⟩:=q7 b
 refine Q5 5 (fun A st=>∃ (ah ai aj ak : V),st = A [(34,qf ag),(33,ak),(32,aj),(31,ai),(30,ah)]) ?_ ?_
 ·refine Q6 J J h (fun h=>?_) (fun h=>?_)
  ·refine O (.ref 0 4 0 3) J<|O (q6 a.Y1) J ?_
   obtain ⟨al,av,h⟩:=q7 h
   refine qv (qag a.Y1 al av) J<|O (qf al) J<|q9 ?_
   obtain rfl:=qc h
   exact ⟨_,_,_,_,J⟩
  refine qb J<|qb J<|qb J<|O (qf false) J<|q9 ?_
  obtain rfl:=qc h
  exact ⟨_,_,_,_,J⟩
 rintro _ ⟨ah,ai,aj,ak,rfl⟩
 refine q8 J<|qo ?_
 obtain rfl:=qc b
 exact qy (qf ag) J
theorem qrp (a : qh) (r : Bool) (b : q1o a = some r) : Pure Tryz.prog tab 114 [.agg [G a.X0,G a.Y0,G a.X1,G a.Y1]] (.bool r):=by
 unfold q1o at b
 refine Qb Tryz.func114 J (by kernel_rfl) (by kernel_rfl) J<|qa<|Qe (.ref 0 4 0 0) (.dat 4 [[G a.X0,G a.Y0,G a.X1,G a.Y1]]) J<|q8 J<|qp<|O (.d (.agg [G a.X0,G a.Y0,G a.X1,G a.Y1])) J ?_
 obtain ⟨c,f,b⟩:=q7 b
 refine qv (qrw a c f) J<|O (qf (!c)) J<|q8 J<|qo ?_
 obtain rfl:=qc b
 exact qy (qf (!c)) J
theorem qtt (b : List qi) (h : qi→Option Bool) (p1F : FuncId) (p1C : List DV) (p1Ok : ∀ (j : qi) (r : Bool),h j = some r→Pure Tryz.prog tab p1F ([.agg [G j.Lo,G j.Hi]] ++ p1C) (.bool r)) (r : Int) (c : q7u b h = some r) : Pure Tryz.prog tab 157 [.sl 2 (b.map Qc),.fn p1F p1C] (G r):=by
 unfold q7u at c
 refine Qb Tryz.func157 J (by kernel_rfl) (by kernel_rfl) J<|qa<|q8 J<|q9<|qe<|qa<|U J<|Qg J<|U J<|q9 ?_
 obtain ⟨l,m,c⟩:=q7 c
 refine Q9 (fun k=>.inl k = l) (fun (k : Unit)=>⟨[],[],0⟩) (by simp) ?_ ?_
 ·refine Q4 (q1w b h) (fun (f : Int)=>⟨[(0,.d (.sl 2 (b.map Qc))),(1,.d (.fn p1F p1C)),(7,q6 (b.length : Int)),(8,q6 f)],[],0⟩) 0 l m (wkA [] [] []) ?_
  intro f q a
  unfold q1w at a
  refine qa<|O (.d (.bool (decide (f < (b.length : Int))))) J<|q9<|qe ?_
  refine qj J a (fun _ a=>?_) (fun _ a=>?_)
  ·refine qk<|qe<|qw<|qa<|U J<|q8 J<|qp<|U J<|U J<|U J ?_
   obtain ⟨g,n,a⟩:=q7 a
   refine Q3 (enc:=Qc) n J<|O (.d (.agg [G g.Lo,G g.Hi])) J ?_
   obtain ⟨o,p,a⟩:=q7 a
   refine Ye [.d (.agg [G g.Lo,G g.Hi])] (p1Ok g o p) J J J (.inl J)<|q9 ?_
   refine qj J a (fun _ a=>?_) (fun _ a=>?_)
   ·refine qa<|U J<|q8 J<|qo ?_
    refine ⟨_,(Option.some.inj a).symm,fun hm=>?_⟩
    subst hm
    obtain rfl:=qc c
    exact qy (q6 f) J
   refine qk<|Q8<|Qa<|qt<|O (.d (G (w64 (f + 1)))) J<|U J<|qq ?_
   exact ⟨_,(Option.some.inj a).symm,wkA [] [] []⟩
  refine Q1 ?_
  refine ⟨_,(Option.some.inj a).symm,fun hm=>?_⟩
  subst hm
  exact ⟨_,J,wkA [] [] []⟩
 intro k hb
 subst hb
 refine qa<|q8 J<|qo ?_
 obtain rfl:=qc c
 exact qy (q6 (-1)) J
theorem qtm (b : List qi) (c : qi→Option Bool) (p1F : FuncId) (p1C : List DV) (p1Ok : ∀ (f : qi) (r : Bool),c f = some r→Pure Tryz.prog tab p1F ([.agg [G f.Lo,G f.Hi]] ++ p1C) (.bool r)) (r : Bool) (a : q7r b c = some r) : Pure Tryz.prog tab 140 [.sl 2 (b.map Qc),.fn p1F p1C] (.bool r):=by
 unfold q7r at a
 refine Qb Tryz.func140 J (by kernel_rfl) (by kernel_rfl) J<|qa<|q8 J<|qp<|U J<|U J ?_
 obtain ⟨g,h,a⟩:=q7 a
 refine qv (qtt b c p1F p1C p1Ok g h) J<|O (.d (.bool (decide (g ≥ 0)))) J<|q8 J<|qo ?_
 obtain rfl:=qc a
 exact qy (.d (.bool (decide (g ≥ 0)))) J
theorem qxd (a : qi) (r : Bool) (b : q23 a = some r) : Pure Tryz.prog tab 142 [.agg [G a.Lo,G a.Hi]] (.bool r):=by
 unfold q23 at b
 refine Qb Tryz.func142 J (by kernel_rfl) (by kernel_rfl) J<|qa<|Qe (.ref 0 2 0 0) (.dat 2 [[G a.Lo,G a.Hi]]) J<|q8 J<|qp<|O (.ref 0 2 0 0) J<|O (q6 a.Lo) J<|O (.ref 0 2 0 1) J<|O (q6 a.Hi) J<|O (.d (.bool (decide (a.Lo < a.Hi)))) J ?_
 obtain ⟨q,c,b⟩:=q7 b
 refine Q5 5 (fun A st=>∃ (g h j k : V),st = A [(12,qf q),(11,k),(10,j),(9,h),(8,g)]) ?_ ?_
 ·refine Q6 J J c (fun c=>?_) (fun c=>?_)
  ·refine O (.ref 0 2 0 0) J<|O (q6 a.Lo) J<|O (.d (.bool (decide (a.Lo ≥ (-1000000))))) J<|O (.d (.bool (decide (a.Lo ≥ (-1000000))))) J<|q9 ?_
   obtain rfl:=qc c
   exact ⟨_,_,_,_,J⟩
  refine qb J<|qb J<|qb J<|O (qf false) J<|q9 ?_
  obtain rfl:=qc c
  exact ⟨_,_,_,_,J⟩
 rintro _ ⟨g,h,j,k,rfl⟩
 obtain ⟨l,f,b⟩:=q7 b
 refine Q5 5 (fun A st=>∃ (m n o p : V),st = A [(17,qf l),(16,p),(15,o),(14,n),(13,m)]) ?_ ?_
 ·refine Q6 J J f (fun f=>?_) (fun f=>?_)
  ·refine O (.ref 0 2 0 1) J<|O (q6 a.Hi) J<|O (.d (.bool (decide (a.Hi≤1000000)))) J<|O (.d (.bool (decide (a.Hi≤1000000)))) J<|q9 ?_
   obtain rfl:=qc f
   exact ⟨_,_,_,_,J⟩
  refine qb J<|qb J<|qb J<|O (qf false) J<|q9 ?_
  obtain rfl:=qc f
  exact ⟨_,_,_,_,J⟩
 rintro _ ⟨m,n,o,p,rfl⟩
 refine q8 J<|qo ?_
 obtain rfl:=qc b
 exact qy (qf l) J
theorem qx6 (a : qi) (r : Bool) (b : qaw a = some r) : Pure Tryz.prog tab 141 [.agg [G a.Lo,G a.Hi]] (.bool r):=by
 unfold qaw at b
 refine Qb Tryz.func141 J (by kernel_rfl) (by kernel_rfl) J<|qa<|Qe (.ref 0 2 0 0) (.dat 2 [[G a.Lo,G a.Hi]]) J<|q8 J<|qp<|O (.d (.agg [G a.Lo,G a.Hi])) J ?_
 obtain ⟨c,f,b⟩:=q7 b
 refine qv (qxd a c f) J<|O (qf (!c)) J<|q8 J<|qo ?_
 obtain rfl:=qc b
 exact qy (qf (!c)) J
theorem qx9 (a : qg) (b : qg) (r : Int) (c : q8v a b = some r) : Pure Tryz.prog tab 165 [.agg [G a.at_,G a.list_,G a.by_],.agg [G b.at_,G b.list_,G b.by_]] (G r):=by
 unfold q8v at c
 refine Qb Tryz.func165 J (by kernel_rfl) (by kernel_rfl) J<|qa<|Qe (.ref 0 3 0 0) (.dat 3 [[G a.at_,G a.list_,G a.by_]]) J<|Qe (.ref 1 3 0 0) (.dat 3 [[G b.at_,G b.list_,G b.by_]]) J<|q8 J<|qp<|O (.ref 0 3 0 0) J<|O (q6 a.at_) J<|O (.ref 1 3 0 0) J<|O (q6 b.at_) J<|O (.d (G (w64 (a.at_ - b.at_)))) J<|q8 J<|qo ?_
 obtain rfl:=qc c
 exact qy (.d (G (w64 (a.at_ - b.at_)))) J
theorem qu2 (p : qg→qg→Option Int) (q1F : FuncId) (q1C : List DV) (q1Ok : ∀ (q : qg) (s : qg) (r : Int),p q s = some r→Pure Tryz.prog tab q1F ([.agg [G q.at_,G q.list_,G q.by_],.agg [G s.at_,G s.list_,G s.by_]] ++ q1C) (G r)) (t : List qg) (c : Int) (j : Int) (r : List qg) (u : q81 p t c j = some r) : Qo Tryz.prog tab 170 [.hs 0 3 0 t.length,q6 c,q6 j,.d (.fn q1F q1C)] [(0,.dat 3 (t.map Q0))] 1 (.d (.tup [])) [(0,.dat 3 (r.map Q0))] 1:=by
 unfold q81 at u
 refine Qz Tryz.func170 J (by kernel_rfl) (by kernel_rfl) J<|qa<|U J<|O (.d (G (w64 (c + 1)))) J<|q8 J<|q9 ?_
 obtain ⟨aq,ar,u⟩:=q7 u
 refine qw<|Q4 (q82 j c p) (fun (f : Int × List qg)=>⟨[(0,.hs 0 3 0 f.2.length),(1,q6 c),(2,q6 j),(3,.d (.fn q1F q1C)),(8,q6 f.1)],[(0,.dat 3 (f.2.map Q0))],1⟩) (w64 (c + 1),t) aq ar (wkA [] [] []) ?_
 intro f az h
 unfold q82 at h
 refine qe<|qa<|U J<|U J<|O (.d (.bool (decide (f.1 < j)))) J<|q9 ?_
 refine qj J h (fun _ h=>?_) (fun _ h=>?_)
 ·refine qk<|qe ?_
  obtain ⟨au,v,h⟩:=q7 h
  refine Q9 (fun o=>o = au) (fun (o : List qg)=>⟨[(0,.hs 0 3 0 o.length),(1,q6 c),(2,q6 j),(3,.d (.fn q1F q1C)),(8,q6 f.1)],[(0,.dat 3 (o.map Q0))],1⟩) (by simp) ?_ ?_
  ·refine qa<|U J<|q8 J<|q9 ?_
   obtain ⟨av,aw,v⟩:=q7 v
   refine qw<|Q4 (q83 c p) (fun (g : Int × List qg)=>⟨[(0,.hs 0 3 0 g.2.length),(1,q6 c),(2,q6 j),(3,.d (.fn q1F q1C)),(8,q6 f.1),(9,q6 g.1)],[(0,.dat 3 (g.2.map Q0))],1⟩) (f.1,f.2) av aw (wkA [] [] []) ?_
   intro g ba a
   unfold q83 at a
   refine qe<|qe<|Q2 [q0,q0,q0,qm 0,q0,q0,q0,q0,qm 0,q0,q0,q0,q0,q0,q0,q0,q0] (by kernel_rfl)<|U J<|U J<|O (.d (.bool (decide (g.1 > c)))) J ?_
   obtain ⟨ax,b,a⟩:=q7 a
   refine Q5 14 (fun A st=>∃ (x y z aa ab ac ad ae af ag ah ai aj : V),st = A [(34,qf ax),(33,aj),(32,ai),(31,ah),(30,ag),(29,af),(28,ae),(27,ad),(26,ac),(25,ab),(24,aa),(23,z),(22,y),(21,x)]) ?_ ?_
   ·refine Q6 J J b (fun b=>?_) (fun b=>?_)
    ·refine U J<|U J<|U J ?_
     obtain ⟨k,ak,b⟩:=q7 b
     refine qn ak J J<|qx (.d (.agg [G k.at_,G k.list_,G k.by_])) ak J<|U J<|U J<|O (.d (G (w64 (g.1 - 1)))) J ?_
     obtain ⟨l,al,b⟩:=q7 b
     refine qn al J J<|qx (.d (.agg [G l.at_,G l.list_,G l.by_])) al J ?_
     obtain ⟨w,ay,b⟩:=q7 b
     refine Ye [.d (.agg [G k.at_,G k.list_,G k.by_]),.d (.agg [G l.at_,G l.list_,G l.by_])] (q1Ok k l w ay) J J J (.inl J)<|O (.d (.bool (decide (w < 0)))) J<|O (.d (.bool (decide (w < 0)))) J<|q9 ?_
     obtain rfl:=qc b
     exact ⟨_,_,_,_,_,_,_,_,_,_,_,_,_,J⟩
    refine qb J<|qb J<|qb J<|qb J<|qb J<|qb J<|qb J<|qb J<|qb J<|qb J<|qb J<|qb J<|O (qf false) J<|q9 ?_
    obtain rfl:=qc b
    exact ⟨_,_,_,_,_,_,_,_,_,_,_,_,_,J⟩
   rintro _ ⟨x,y,z,aa,ab,ac,ad,ae,af,ag,ah,ai,aj,rfl⟩
   refine q9 ?_
   refine qj J a (fun _ a=>?_) (fun _ a=>?_)
   ·refine qk<|qe<|qw<|Q2 [Q7 0,q0,Q7 0,q0,qm 0,q0,q0,q0,qm 0,q0,q0,q0,q0,q0,q0,q0,q0,q0] (by kernel_rfl)<|U J<|U J<|U J<|U J<|O (.d (G (w64 (g.1 - 1)))) J<|U J<|U J<|O (.d (G (w64 (g.1 - 1)))) J ?_
    obtain ⟨m,am,a⟩:=q7 a
    refine qn am J J<|qx (.d (.agg [G m.at_,G m.list_,G m.by_])) am J<|U J<|U J ?_
    obtain ⟨n,an,a⟩:=q7 a
    refine qn an J J<|qx (.d (.agg [G n.at_,G n.list_,G n.by_])) an J ?_
    obtain ⟨bb,ao,a⟩:=q7 a
    refine qn ao J J<|Qi (ds:=[G m.at_,G m.list_,G m.by_]) m ao J J J J J J J J (leb J) J ?_
    obtain ⟨bc,ap,a⟩:=q7 a
    refine qn ap (by simp) J<|Qi (ds:=[G n.at_,G n.list_,G n.by_]) n ap J J J J J J J J (leb J) J<|qq<|Qa<|qt<|U J<|O (.d (G (w64 (g.1 - 1)))) J<|q8 J<|qq ?_
    exact ⟨_,(Option.some.inj a).symm,wkE [] [] [] J ⟨⟨_,J,Ql (by simp) J (by decide) (ltd J)⟩,⟨_,J,.d (.refl _)⟩,⟨_,J,.d (.refl _)⟩,⟨_,J,.d (.refl _)⟩,⟨_,J,.d (.refl _)⟩,⟨_,J,.d (.refl _)⟩,trivial⟩ ⟨⟨ltd J,.inr ⟨by decide,_,J,.dat _ _⟩⟩,trivial⟩⟩
   refine Q1 ?_
   refine ⟨_,(Option.some.inj a).symm,fun hm=>?_⟩
   subst hm
   obtain rfl:=qc v
   exact ⟨_,J,wkA [] [] []⟩
  intro o hb
  subst hb
  refine qt<|U J<|O (.d (G (w64 (f.1 + 1)))) J<|q8 J<|qq ?_
  exact ⟨_,(Option.some.inj h).symm,wkA [] [] []⟩
 refine Q1 ?_
 refine ⟨_,(Option.some.inj h).symm,fun hm=>?_⟩
 subst hm
 obtain rfl:=qc u
 exact ⟨.inl J,_,J,wkA [] [] []⟩
theorem qjl (v : qg→qg→Option Int) (q1F : FuncId) (q1C : List DV) (q1Ok : ∀ (s : qg) (t : qg) (r : Int),v s t = some r→Pure Tryz.prog tab q1F ([.agg [G s.at_,G s.list_,G s.by_],.agg [G t.at_,G t.list_,G t.by_]] ++ q1C) (G r)) (u : List qg) (w : Int) (g : Int) (c : Int) (r : List qg) (p : q5z v u w g c = some r) : Qo Tryz.prog tab 178 [.hs 0 3 0 u.length,q6 w,q6 g,q6 c,.d (.fn q1F q1C)] [(0,.dat 3 (u.map Q0))] 1 (.d (.tup [])) [(0,.dat 3 (r.map Q0))] 1:=by
 unfold q5z at p
 refine Qz Tryz.func178 J (by kernel_rfl) (by kernel_rfl) J<|qa<|U J<|q8 J<|q9 ?_
 obtain ⟨ba,bb,p⟩:=q7 p
 refine qw<|Q4 (q8l g c v) (fun (b : Int × List qg)=>⟨[(0,.hs 0 3 0 b.2.length),(2,q6 g),(3,q6 c),(4,.d (.fn q1F q1C)),(10,q6 b.1)],[(0,.dat 3 (b.2.map Q0))],1⟩) (w,u) ba bb (wkA [] [] []) ?_
 intro b bg a
 unfold q8l at a
 refine qw<|qa<|U J<|O (.d (G (w64 (2 * b.1)))) J<|O (.d (G (w64 ((w64 (2 * b.1)) + 1)))) J<|q8 J<|q9<|qe<|qa<|U J<|U J<|O (.d (.bool (decide ((w64 ((w64 (2 * b.1)) + 1)) ≥ g)))) J<|q9 ?_
 refine qj J a (fun _ a=>?_) (fun _ a=>?_)
 ·refine Q1 ?_
  refine ⟨_,(Option.some.inj a).symm,fun hm=>?_⟩
  subst hm
  obtain rfl:=qc p
  exact ⟨.inl J,_,J,wkA [] [] []⟩
 refine qk<|qe<|qe<|Q2 [q0,q0,q0,qm 0,q0,q0,q0,q0,q0,q0,qm 0,q0,q0,q0,q0,q0,q0,q0,q0,q0,q0,q0] (by kernel_rfl)<|U J<|O (.d (G (w64 ((w64 ((w64 (2 * b.1)) + 1)) + 1)))) J<|U J<|O (.d (.bool (decide ((w64 ((w64 ((w64 (2 * b.1)) + 1)) + 1)) < g)))) J ?_
 obtain ⟨bc,f,a⟩:=q7 a
 refine Q5 18 (fun A st=>∃ (z aa ab ac ad ae af ag ah ai aj ak al am an ao ap : V),st = A [(40,qf bc),(39,ap),(38,ao),(37,an),(36,am),(35,al),(34,ak),(33,aj),(32,ai),(31,ah),(30,ag),(29,af),(28,ae),(27,ad),(26,ac),(25,ab),(24,aa),(23,z)]) ?_ ?_
 ·refine Q6 J J f (fun f=>?_) (fun f=>?_)
  ·refine U J<|U J<|U J<|U J<|O (.d (G (w64 (c + (w64 ((w64 (2 * b.1)) + 1)))))) J ?_
   obtain ⟨h,aq,f⟩:=q7 f
   refine qn aq J J<|qx (.d (.agg [G h.at_,G h.list_,G h.by_])) aq J<|U J<|U J<|U J<|O (.d (G (w64 (c + (w64 ((w64 (2 * b.1)) + 1)))))) J<|O (.d (G (w64 ((w64 (c + (w64 ((w64 (2 * b.1)) + 1)))) + 1)))) J ?_
   obtain ⟨j,ar,f⟩:=q7 f
   refine qn ar J J<|qx (.d (.agg [G j.at_,G j.list_,G j.by_])) ar J ?_
   obtain ⟨x,bd,f⟩:=q7 f
   refine Ye [.d (.agg [G h.at_,G h.list_,G h.by_]),.d (.agg [G j.at_,G j.list_,G j.by_])] (q1Ok h j x bd) J J J (.inl J)<|O (.d (.bool (decide (x < 0)))) J<|O (.d (.bool (decide (x < 0)))) J<|q9 ?_
   obtain rfl:=qc f
   exact ⟨_,_,_,_,_,_,_,_,_,_,_,_,_,_,_,_,_,J⟩
  refine qb J<|qb J<|qb J<|qb J<|qb J<|qb J<|qb J<|qb J<|qb J<|qb J<|qb J<|qb J<|qb J<|qb J<|qb J<|qb J<|O (qf false) J<|q9 ?_
  obtain rfl:=qc f
  exact ⟨_,_,_,_,_,_,_,_,_,_,_,_,_,_,_,_,_,J⟩
 rintro _ ⟨z,aa,ab,ac,ad,ae,af,ag,ah,ai,aj,ak,al,am,an,ao,ap,rfl⟩
 refine q9 ?_
 obtain ⟨be,q,a⟩:=q7 a
 refine Kv (fun k=>k = be) (fun (k : Int)=>⟨[(0,.hs 0 3 0 b.2.length),(2,q6 g),(3,q6 c),(4,.d (.fn q1F q1C)),(10,q6 b.1),(11,q6 k)],[(0,.dat 3 (b.2.map Q0))],1⟩) (by simp) ?_ ?_
 ·refine qj J q (fun _ q=>?_) (fun _ q=>?_)
  ·refine qt<|U J<|O (.d (G (w64 ((w64 ((w64 (2 * b.1)) + 1)) + 1)))) J<|q8 J<|qq ?_
   obtain rfl:=qc q
   exact ⟨_,J,wkA [] [] []⟩
  refine qk<|Q8 ?_
  obtain rfl:=qc q
  exact ⟨_,J,wkA [] [] []⟩
 intro k hb
 subst hb
 refine qe<|qe<|Q2 [q0,q0,q0,qm 0,q0,q0,q0,q0,q0,qm 0,q0,q0,q0,q0,q0,q0] (by kernel_rfl)<|U J<|U J<|U J<|U J<|O (.d (G (w64 (c + b.1)))) J ?_
 obtain ⟨l,au,a⟩:=q7 a
 refine qn au J J<|qx (.d (.agg [G l.at_,G l.list_,G l.by_])) au J<|U J<|U J<|U J<|O (.d (G (w64 (c + k)))) J ?_
 obtain ⟨m,av,a⟩:=q7 a
 refine qn av J J<|qx (.d (.agg [G m.at_,G m.list_,G m.by_])) av J ?_
 obtain ⟨y,bf,a⟩:=q7 a
 refine Ye [.d (.agg [G l.at_,G l.list_,G l.by_]),.d (.agg [G m.at_,G m.list_,G m.by_])] (q1Ok l m y bf) J J J (.inl J)<|O (.d (.bool (decide (y < 0)))) J<|O (.d (.bool (!(decide (y < 0))))) J<|q9 ?_
 refine qj J a (fun _ a=>?_) (fun _ a=>?_)
 ·refine q36 ?_
  refine ⟨_,(Option.some.inj a).symm,fun hm=>?_⟩
  subst hm
  obtain rfl:=qc p
  exact ⟨.inr J,_,J,wkA [] [] []⟩
 refine qk<|qe<|Q2 [Q7 0,q0,Q7 0,q0,qm 0,q0,q0,q0,q0,q0,qm 0,q0,q0,q0,q0,q0,q0,q0,q0,q0,q0,q0,q0,q0] (by kernel_rfl)<|U J<|U J<|U J<|O (.d (G (w64 (c + b.1)))) J<|U J<|U J<|U J<|O (.d (G (w64 (c + k)))) J<|U J<|U J<|U J<|O (.d (G (w64 (c + k)))) J ?_
 obtain ⟨n,aw,a⟩:=q7 a
 refine qn aw J J<|qx (.d (.agg [G n.at_,G n.list_,G n.by_])) aw J<|U J<|U J<|U J<|O (.d (G (w64 (c + b.1)))) J ?_
 obtain ⟨o,ax,a⟩:=q7 a
 refine qn ax J J<|qx (.d (.agg [G o.at_,G o.list_,G o.by_])) ax J ?_
 obtain ⟨bh,ay,a⟩:=q7 a
 refine qn ay J J<|Qi (ds:=[G n.at_,G n.list_,G n.by_]) n ay J J J J J J J J (leb J) J ?_
 obtain ⟨bi,az,a⟩:=q7 a
 refine qn az (by simp) J<|Qi (ds:=[G o.at_,G o.list_,G o.by_]) o az J J J J J J J J (leb J) J<|q9<|qt<|U J<|q8 J<|qq<|Qa<|Q8 ?_
 exact ⟨_,(Option.some.inj a).symm,wkE [] [] [] J ⟨⟨_,J,Ql (by simp) J (by decide) (ltd J)⟩,⟨_,J,.d (.refl _)⟩,⟨_,J,.d (.refl _)⟩,⟨_,J,.d (.refl _)⟩,⟨_,J,.d (.refl _)⟩,trivial⟩ ⟨⟨ltd J,.inr ⟨by decide,_,J,.dat _ _⟩⟩,trivial⟩⟩
theorem qu0 (l : qg→qg→Option Int) (q1F : FuncId) (q1C : List DV) (q1Ok : ∀ (o : qg) (p : qg) (r : Int),l o p = some r→Pure Tryz.prog tab q1F ([.agg [G o.at_,G o.list_,G o.by_],.agg [G p.at_,G p.list_,G p.by_]] ++ q1C) (G r)) (q : List qg) (a : Int) (c : Int) (r : List qg) (m : q7y l q a c = some r) : Qo Tryz.prog tab 171 [.hs 0 3 0 q.length,q6 a,q6 c,.d (.fn q1F q1C)] [(0,.dat 3 (q.map Q0))] 1 (.d (.tup [])) [(0,.dat 3 (r.map Q0))] 1:=by
 unfold q7y at m
 refine Qz Tryz.func171 J (by kernel_rfl) (by kernel_rfl) J<|qa<|U J<|q8 J<|qp<|q8 J<|qp<|U J<|U J<|O (.d (G (w64 (c - a)))) J<|q8 J<|q9<|qe<|qa<|U J<|O (.d (G (w64 ((w64 (c - a)) - 1)))) J<|O (.d (G (w64 (Int.tdiv (w64 ((w64 (c - a)) - 1)) 2)))) J<|q8 J<|q9 ?_
 obtain ⟨t,z,m⟩:=q7 m
 refine Q9 (fun n=>n = t) (fun (n : List qg)=>⟨[(0,.hs 0 3 0 n.length),(3,.d (.fn q1F q1C)),(8,q6 a),(9,q6 0),(10,.d (G (w64 (c - a))))],[(0,.dat 3 (n.map Q0))],1⟩) (by simp) ?_ ?_
 ·refine Q4 (q7z l c a) (fun (g : Int × List qg)=>⟨[(0,.hs 0 3 0 g.2.length),(3,.d (.fn q1F q1C)),(8,q6 a),(9,q6 0),(10,.d (G (w64 (c - a)))),(11,q6 g.1)],[(0,.dat 3 (g.2.map Q0))],1⟩) (w64 (Int.tdiv (w64 ((w64 (c - a)) - 1)) 2),q) t z (wkA [] [] []) ?_
  intro g ai h
  unfold q7z at h
  refine qe<|qa<|U J<|O (.d (.bool (decide (g.1 ≥ 0)))) J<|q9 ?_
  refine qj J h (fun _ h=>?_) (fun _ h=>?_)
  ·refine qk<|qe<|qw<|qt<|U J<|U J<|U J<|U J<|U J ?_
   obtain ⟨u,aa,h⟩:=q7 h
   obtain ⟨aj,ab,h⟩:=q7 h
   have ac:=K3 ab
   refine Qr [(0,0)] [(0,0)] [.hs 0 3 0 g.2.length,q6 g.1,.d (G (w64 (c - a))),q6 a,.d (.fn q1F q1C)] (.d (.tup [])) 1 [(0,.dat 3 (u.map Q0))] 1 (qjl l q1F q1C q1Ok g.2 g.1 (w64 (c - a)) a u aa)<|qq<|Qa<|qt<|U J<|O (.d (G (w64 (g.1 - 1)))) J<|q8 J<|qq ?_
   exact ⟨_,(Option.some.inj h).symm,wkE [] [] [] J ⟨⟨_,J,Ql (by simp [ac]) J (by decide) (ltd J)⟩,⟨_,J,.d (.refl _)⟩,⟨_,J,.d (.refl _)⟩,⟨_,J,.d (.refl _)⟩,⟨_,J,.d (.refl _)⟩,⟨_,J,.d (.refl _)⟩,trivial⟩ ⟨⟨ltd J,.inr ⟨by decide,_,J,.dat _ _⟩⟩,trivial⟩⟩
  refine Q1 ?_
  refine ⟨_,(Option.some.inj h).symm,fun hm=>?_⟩
  subst hm
  exact ⟨_,J,wkA [] [] []⟩
 intro n hb
 subst hb
 refine qa<|U J<|O (.d (G (w64 ((w64 (c - a)) - 1)))) J<|q8 J<|q9 ?_
 obtain ⟨ad,ae,m⟩:=q7 m
 refine qw<|Q4 (q80 a l) (fun (f : Int × List qg)=>⟨[(0,.hs 0 3 0 f.2.length),(3,.d (.fn q1F q1C)),(8,q6 a),(9,q6 0),(12,q6 f.1)],[(0,.dat 3 (f.2.map Q0))],1⟩) (w64 ((w64 (c - a)) - 1),n) ad ae (wkA [] [] []) ?_
 intro f ak b
 unfold q80 at b
 refine qe<|qa<|U J<|O (.d (.bool (decide (f.1 ≥ 0)))) J<|q9 ?_
 refine qj J b (fun _ b=>?_) (fun _ b=>?_)
 ·refine qk<|qe<|qw<|qe<|Q2 [Q7 0,q0,Q7 0,q0,qm 0,q0,q0,q0,qm 0,q0,q0,q0,q0,q0,q0,q0,q0,q0,q0,q0] (by kernel_rfl)<|U J<|U J<|U J<|U J<|U J<|O (.d (G (w64 (a + f.1)))) J<|U J<|U J<|U J<|O (.d (G (w64 (a + f.1)))) J ?_
  obtain ⟨j,v,b⟩:=q7 b
  refine qn v J J<|qx (.d (.agg [G j.at_,G j.list_,G j.by_])) v J<|U J<|U J ?_
  obtain ⟨k,w,b⟩:=q7 b
  refine qn w J J<|qx (.d (.agg [G k.at_,G k.list_,G k.by_])) w J ?_
  obtain ⟨al,x,b⟩:=q7 b
  refine qn x J J<|Qi (ds:=[G j.at_,G j.list_,G j.by_]) j x J J J J J J J J (leb J) J ?_
  obtain ⟨am,y,b⟩:=q7 b
  refine qn y (by simp) J<|Qi (ds:=[G k.at_,G k.list_,G k.by_]) k y J J J J J J J J (leb J) J<|q9<|qt<|U J<|U J<|U J<|U J<|U J ?_
  obtain ⟨s,af,b⟩:=q7 b
  obtain ⟨an,ag,b⟩:=q7 b
  have ah:=K3 ag
  refine Jx [(0,0)] [(0,0)] [.hs 0 3 0 f.2.length,q6 0,q6 f.1,q6 a,.d (.fn q1F q1C)] (.d (.tup [])) [(0,.dat 3 (s.map Q0))] [(0,.dat 3 (s.map Q0))] 1 (qjl l q1F q1C q1Ok ((f.2.set a.toNat j).set (w64 (a + f.1)).toNat k) 0 f.1 a s af) J J J (Y6 [(0,0)] [] [] J ⟨⟨_,J,Ql (by simp) J (by decide) (ltd J)⟩,⟨_,J,.d (.refl _)⟩,⟨_,J,.d (.refl _)⟩,⟨_,J,.d (.refl _)⟩,⟨_,J,.d (.refl _)⟩,trivial⟩ ⟨⟨ltd J,.inr ⟨by decide,_,J,.dat _ _⟩⟩,trivial⟩) (Y6 [(0,0)] [] [] J ⟨⟨_,J,.d (.refl _)⟩,trivial⟩ ⟨⟨ltd J,.inr ⟨by decide,_,J,.dat _ _⟩⟩,trivial⟩) J ⟨.inl J,trivial⟩<|qq<|Qa<|qt<|U J<|O (.d (G (w64 (f.1 - 1)))) J<|q8 J<|qq ?_
  exact ⟨_,(Option.some.inj b).symm,wkE [] [] [] J ⟨⟨_,J,Ql (by simp [ah]) J (by decide) (ltd J)⟩,⟨_,J,.d (.refl _)⟩,⟨_,J,.d (.refl _)⟩,⟨_,J,.d (.refl _)⟩,⟨_,J,.d (.refl _)⟩,trivial⟩ ⟨⟨ltd J,.inr ⟨by decide,_,J,.dat _ _⟩⟩,trivial⟩⟩
 refine Q1 ?_
 refine ⟨_,(Option.some.inj b).symm,fun hm=>?_⟩
 subst hm
 obtain rfl:=qc m
 exact ⟨.inl J,_,J,wkA [] [] []⟩
theorem qe0 (j : qg→qg→Option Int) (q1F : FuncId) (q1C : List DV) (q1Ok : ∀ (g : qg) (h : qg) (r : Int),j g h = some r→Pure Tryz.prog tab q1F ([.agg [G g.at_,G g.list_,G g.by_],.agg [G h.at_,G h.list_,G h.by_]] ++ q1C) (G r)) (k : List qg) (l : Int) (m : Int) (f : Int) (r : Int × Int × Int) (a : q3d j k l m f = some r) : Qo Tryz.prog tab 181 [.d (.sl 3 (k.map Q0)),q6 l,q6 m,.ref 0 1 0 0,.d (.fn q1F q1C)] [(0,.dat 1 [[G f]])] 1 (.d (.tup [G r.1,G r.2.1])) [(0,.dat 1 [[G r.2.2]])] 1:=by
 unfold q3d at a
 refine Qz Tryz.func181 J (by kernel_rfl) (by kernel_rfl) J<|qa<|q8 J<|q8 J<|q9<|qe<|qe<|Q2 [q0,q0,q0,q0,q0,q0,q0,q0,q0,q0,q0] (by kernel_rfl)<|U J<|U J<|U J ?_
 obtain ⟨b,o,a⟩:=q7 a
 refine Q3 (enc:=Q0) o J<|O (.d (.agg [G b.at_,G b.list_,G b.by_])) J<|U J<|U J ?_
 obtain ⟨c,p,a⟩:=q7 a
 refine Q3 (enc:=Q0) p J<|O (.d (.agg [G c.at_,G c.list_,G c.by_])) J ?_
 obtain ⟨n,q,a⟩:=q7 a
 refine Ye [.d (.agg [G b.at_,G b.list_,G b.by_]),.d (.agg [G c.at_,G c.list_,G c.by_])] (q1Ok b c n q) J J J (.inl J)<|O (.d (.bool (decide (n < 0)))) J<|q9 ?_
 refine qj J a (fun _ a=>?_) (fun _ a=>?_)
 ·refine qa<|U J<|O (.ref 0 1 0 0) J<|O (q6 f) J<|O (.d (G (w64 (f + 1)))) J<|O (.ref 0 1 0 0) J<|qz 0 (.dat 1 [[G (w64 (f + 1))]]) J<|qp<|U J<|U J<|q8 J<|q8 J<|qo ?_
  obtain rfl:=qc a
  exact ⟨.inr J,_,J,wkA [] [] []⟩
 refine qk<|qa<|U J<|U J<|q8 J<|q8 J<|qo ?_
 obtain rfl:=qc a
 exact ⟨.inr J,_,J,wkA [] [] []⟩
theorem qji (h : qg→qg→Option Int) (q1F : FuncId) (q1C : List DV) (q1Ok : ∀ (j : qg) (k : qg) (r : Int),h j k = some r→Pure Tryz.prog tab q1F ([.agg [G j.at_,G j.list_,G j.by_],.agg [G k.at_,G k.list_,G k.by_]] ++ q1C) (G r)) (c : List qg) (l : Int) (m : Int) (n : Int) (o : Int) (r : Int × Int) (f : q5f h c l m n o = some r) : Qo Tryz.prog tab 180 [.d (.sl 3 (c.map Q0)),q6 l,q6 m,q6 n,.ref 0 1 0 0,.d (.fn q1F q1C)] [(0,.dat 1 [[G o]])] 1 (q6 r.1) [(0,.dat 1 [[G r.2]])] 1:=by
 unfold q5f at f
 refine Qz Tryz.func180 J (by kernel_rfl) (by kernel_rfl) J<|qa<|q8 J<|qp<|U J<|U J<|U J<|U J<|U J ?_
 obtain ⟨a,p,f⟩:=q7 f
 refine Qr [(0,0)] [(0,0)] [.d (.sl 3 (c.map Q0)),q6 l,q6 m,.ref 0 1 0 0,.d (.fn q1F q1C)] (.d (.tup [G a.1,G a.2.1])) 1 [(0,.dat 1 [[G a.2.2]])] 1 (qe0 h q1F q1C q1Ok c l m o a p)<|U J<|O (q6 a.1) J<|O (q6 a.2.1) J<|q8 J<|q8 J<|qp<|U J<|U J<|U J<|U J<|U J ?_
 obtain ⟨b,q,f⟩:=q7 f
 refine Qr [(0,0)] [(0,0)] [.d (.sl 3 (c.map Q0)),q6 a.2.1,q6 n,.ref 0 1 0 0,.d (.fn q1F q1C)] (.d (.tup [G b.1,G b.2.1])) 1 [(0,.dat 1 [[G b.2.2]])] 1 (qe0 h q1F q1C q1Ok c a.2.1 n a.2.2 b q)<|U J<|O (q6 b.1) J<|O (q6 b.2.1) J<|q8 J<|q8 J<|qp<|U J<|U J<|U J<|U J<|U J ?_
 obtain ⟨g,s,f⟩:=q7 f
 refine Qr [(0,0)] [(0,0)] [.d (.sl 3 (c.map Q0)),q6 a.1,q6 b.1,.ref 0 1 0 0,.d (.fn q1F q1C)] (.d (.tup [G g.1,G g.2.1])) 1 [(0,.dat 1 [[G g.2.2]])] 1 (qe0 h q1F q1C q1Ok c a.1 b.1 b.2.2 g s)<|U J<|O (q6 g.1) J<|O (q6 g.2.1) J<|q8 J<|q8 J<|qp<|U J<|q8 J<|qo ?_
 obtain rfl:=qc f
 exact ⟨.inr J,_,J,wkA [] [] []⟩
theorem qdy (h : qg→qg→Option Int) (q1F : FuncId) (q1C : List DV) (q1Ok : ∀ (b : qg) (c : qg) (r : Int),h b c = some r→Pure Tryz.prog tab q1F ([.agg [G b.at_,G b.list_,G b.by_],.agg [G c.at_,G c.list_,G c.by_]] ++ q1C) (G r)) (f : List qg) (a : Int) (j : Int) (r : Int × Int) (g : q3b h f a j = some r) : Qo Tryz.prog tab 179 [.d (.sl 3 (f.map Q0)),q6 a,.ref 0 1 0 0,.d (.fn q1F q1C)] [(0,.dat 1 [[G j]])] 1 (q6 r.1) [(0,.dat 1 [[G r.2]])] 1:=by
 unfold q3b at g
 refine Qz Tryz.func179 J (by kernel_rfl) (by kernel_rfl) J<|qa<|q8 J<|qp<|U J<|U J<|O (.d (G (w64 (a - 1)))) J<|U J<|U J<|O (.d (G (w64 (a + 1)))) J<|U J<|U J ?_
 obtain ⟨k,l,g⟩:=q7 g
 refine Qr [(0,0)] [(0,0)] [.d (.sl 3 (f.map Q0)),.d (G (w64 (a - 1))),q6 a,.d (G (w64 (a + 1))),.ref 0 1 0 0,.d (.fn q1F q1C)] (q6 k.1) 1 [(0,.dat 1 [[G k.2]])] 1 (qji h q1F q1C q1Ok f (w64 (a - 1)) a (w64 (a + 1)) j k l)<|q8 J<|qo ?_
 obtain rfl:=qc g
 exact ⟨.inr J,_,J,wkA [] [] []⟩
theorem qty (g : List qg) (a : Int) (b : Int) (l : qg→qg→Option Int) (p3F : FuncId) (p3C : List DV) (p3Ok : ∀ (m : qg) (n : qg) (r : Int),l m n = some r→Pure Tryz.prog tab p3F ([.agg [G m.at_,G m.list_,G m.by_],.agg [G n.at_,G n.list_,G n.by_]] ++ p3C) (G r)) (r : Int × Int) (f : q7x g a b l = some r) : Pure Tryz.prog tab 173 [.sl 3 (g.map Q0),G a,G b,.fn p3F p3C] (.tup [G r.1,G r.2]):=by
 unfold q7x at f
 refine Qb Tryz.func173 J (by kernel_rfl) (by kernel_rfl) J<|qa<|q8 J<|q8 J<|qp<|U J<|U J<|O (.d (G (w64 (b - a)))) J<|q8 J<|qp<|Qk J J<|qp<|U J<|U J<|O (.d (G (w64 (Int.tdiv (w64 (b - a)) 4)))) J<|O (.d (G (w64 ((w64 (Int.tdiv (w64 (b - a)) 4)) * 1)))) J<|O (.d (G (w64 (a + (w64 ((w64 (Int.tdiv (w64 (b - a)) 4)) * 1)))))) J<|q8 J<|qp<|U J<|U J<|O (.d (G (w64 (Int.tdiv (w64 (b - a)) 4)))) J<|O (.d (G (w64 ((w64 (Int.tdiv (w64 (b - a)) 4)) * 2)))) J<|O (.d (G (w64 (a + (w64 ((w64 (Int.tdiv (w64 (b - a)) 4)) * 2)))))) J<|q8 J<|qp<|U J<|U J<|O (.d (G (w64 (Int.tdiv (w64 (b - a)) 4)))) J<|O (.d (G (w64 ((w64 (Int.tdiv (w64 (b - a)) 4)) * 3)))) J<|O (.d (G (w64 (a + (w64 ((w64 (Int.tdiv (w64 (b - a)) 4)) * 3)))))) J<|q8 J<|q9<|qe<|qa<|U J<|O (.d (.bool (decide ((w64 (b - a)) ≥ 8)))) J<|q9 ?_
 obtain ⟨t,k,f⟩:=q7 f
 refine Kv (fun h=>h = t) (fun (h : Int × Int)=>⟨[(11,.ref 0 1 0 0),(13,q6 h.1)],[(0,.dat 1 [[G h.2]])],1⟩) (by simp) ?_ ?_
 ·refine qj J k (fun _ k=>?_) (fun _ k=>?_)
  ·refine qe<|qa<|U J<|O (.d (.bool (decide ((w64 (b - a)) ≥ 50)))) J<|q9 ?_
   obtain ⟨u,j,k⟩:=q7 k
   refine Kv (fun c=>c = u) (fun (c : Int × Int × Int × Int)=>⟨[(0,.d (.sl 3 (g.map Q0))),(3,.d (.fn p3F p3C)),(11,.ref 0 1 0 0),(12,q6 c.1),(13,q6 c.2.1),(14,q6 c.2.2.1)],[(0,.dat 1 [[G c.2.2.2]])],1⟩) (by simp) ?_ ?_
   ·refine qj J j (fun _ j=>?_) (fun _ j=>?_)
    ·refine qa<|U J<|U J<|U J ?_
     obtain ⟨o,v,j⟩:=q7 j
     refine Qr [(0,0)] [(0,0)] [.d (.sl 3 (g.map Q0)),.d (G (w64 (a + (w64 ((w64 (Int.tdiv (w64 (b - a)) 4)) * 1))))),.ref 0 1 0 0,.d (.fn p3F p3C)] (q6 o.1) 1 [(0,.dat 1 [[G o.2]])] 1 (qdy l p3F p3C p3Ok g (w64 (a + (w64 ((w64 (Int.tdiv (w64 (b - a)) 4)) * 1)))) 0 o v)<|q8 J<|qp<|U J<|U J<|U J ?_
     obtain ⟨p,w,j⟩:=q7 j
     refine Qr [(0,0)] [(0,0)] [.d (.sl 3 (g.map Q0)),.d (G (w64 (a + (w64 ((w64 (Int.tdiv (w64 (b - a)) 4)) * 2))))),.ref 0 1 0 0,.d (.fn p3F p3C)] (q6 p.1) 1 [(0,.dat 1 [[G p.2]])] 1 (qdy l p3F p3C p3Ok g (w64 (a + (w64 ((w64 (Int.tdiv (w64 (b - a)) 4)) * 2)))) o.2 p w)<|q8 J<|q9<|qt<|U J<|U J<|U J ?_
     obtain ⟨q,x,j⟩:=q7 j
     refine Qr [(0,0)] [(0,0)] [.d (.sl 3 (g.map Q0)),.d (G (w64 (a + (w64 ((w64 (Int.tdiv (w64 (b - a)) 4)) * 3))))),.ref 0 1 0 0,.d (.fn p3F p3C)] (q6 q.1) 1 [(0,.dat 1 [[G q.2]])] 1 (qdy l p3F p3C p3Ok g (w64 (a + (w64 ((w64 (Int.tdiv (w64 (b - a)) 4)) * 3)))) p.2 q x)<|q8 J<|qq ?_
     obtain rfl:=qc j
     exact ⟨_,J,wkA [(0,0)] [] []⟩
    refine qk<|Q8 ?_
    obtain rfl:=qc j
    exact ⟨_,J,wkA [(0,0)] [] []⟩
   intro c hb
   subst hb
   refine qt<|U J<|U J<|U J<|U J<|U J ?_
   obtain ⟨s,y,k⟩:=q7 k
   refine Qr [(0,0)] [(0,0)] [.d (.sl 3 (g.map Q0)),q6 c.1,q6 c.2.1,q6 c.2.2.1,.ref 0 1 0 0,.d (.fn p3F p3C)] (q6 s.1) 1 [(0,.dat 1 [[G s.2]])] 1 (qji l p3F p3C p3Ok g c.1 c.2.1 c.2.2.1 c.2.2.2 s y)<|q8 J<|qq ?_
   obtain rfl:=qc k
   exact ⟨_,J,wkA [(0,0)] [] []⟩
  refine qk<|Q8 ?_
  obtain rfl:=qc k
  exact ⟨_,J,wkA [(0,0)] [] []⟩
 intro h hb
 subst hb
 refine qa<|O (q6 h.2) J<|q9<|qw<|qa<|O (qf (h.2 == 0)) J<|q8 J<|q9 ?_
 refine qj J f (fun _ f=>?_) (fun _ f=>?_)
 ·refine qa<|U J<|q8 J<|q8 J<|qo ?_
  obtain rfl:=qc f
  exact qy (.d (.tup [G h.1,G 1])) J
 refine qa<|O (qf (h.2 == 12)) J<|q8 J<|q9 ?_
 refine qj J f (fun _ f=>?_) (fun _ f=>?_)
 ·refine qa<|U J<|q8 J<|q8 J<|qo ?_
  obtain rfl:=qc f
  exact qy (.d (.tup [G h.1,G 2])) J
 refine qa<|U J<|q8 J<|q8 J<|qo ?_
 obtain rfl:=qc f
 exact qy (.d (.tup [G h.1,G 0])) J
theorem que (n : qg→qg→Option Int) (q1F : FuncId) (q1C : List DV) (_q1Ok : ∀ (g : qg) (h : qg) (r : Int),n g h = some r→Pure Tryz.prog tab q1F ([.agg [G g.at_,G g.list_,G g.by_],.agg [G h.at_,G h.list_,G h.by_]] ++ q1C) (G r)) (j : List qg) (m : Int) (k : Int) (r : List qg) (l : q8i n j m k = some r) : Qo Tryz.prog tab 174 [.hs 0 3 0 j.length,q6 m,q6 k,.d (.fn q1F q1C)] [(0,.dat 3 (j.map Q0))] 1 (.d (.tup [])) [(0,.dat 3 (r.map Q0))] 1:=by
 unfold q8i at l
 refine Qz Tryz.func174 J (by kernel_rfl) (by kernel_rfl) J<|qa<|U J<|q8 J<|qp<|U J<|O (.d (G (w64 (k - 1)))) J<|q8 J<|q9 ?_
 obtain ⟨t,u,l⟩:=q7 l
 refine qw<|Q4 (q8j) (fun (b : Int × Int × List qg)=>⟨[(0,.hs 0 3 0 b.2.2.length),(8,q6 b.1),(9,q6 b.2.1)],[(0,.dat 3 (b.2.2.map Q0))],1⟩) (m,w64 (k - 1),j) t u (wkA [] [] []) ?_
 intro b v a
 unfold q8j at a
 refine qe<|qa<|U J<|U J<|O (.d (.bool (decide (b.1 < b.2.1)))) J<|q9 ?_
 refine qj J a (fun _ a=>?_) (fun _ a=>?_)
 ·refine qk<|qw<|qe<|Q2 [Q7 0,q0,Q7 0,q0,qm 0,q0,q0,q0,qm 0,q0,q0,q0,q0,q0,q0,q0] (by kernel_rfl)<|U J<|U J<|U J<|U J<|U J<|U J ?_
  obtain ⟨c,o,a⟩:=q7 a
  refine qn o J J<|qx (.d (.agg [G c.at_,G c.list_,G c.by_])) o J<|U J<|U J ?_
  obtain ⟨f,p,a⟩:=q7 a
  refine qn p J J<|qx (.d (.agg [G f.at_,G f.list_,G f.by_])) p J ?_
  obtain ⟨w,q,a⟩:=q7 a
  refine qn q J J<|Qi (ds:=[G c.at_,G c.list_,G c.by_]) c q J J J J J J J J (leb J) J ?_
  obtain ⟨x,s,a⟩:=q7 a
  refine qn s (by simp) J<|Qi (ds:=[G f.at_,G f.list_,G f.by_]) f s J J J J J J J J (leb J) J<|qp<|U J<|O (.d (G (w64 (b.1 + 1)))) J<|q8 J<|q9<|qt<|U J<|O (.d (G (w64 (b.2.1 - 1)))) J<|q8 J<|qq<|Qa<|Q8 ?_
  exact ⟨_,(Option.some.inj a).symm,wkE [] [] [] J ⟨⟨_,J,Ql (by simp) J (by decide) (ltd J)⟩,⟨_,J,.d (.refl _)⟩,⟨_,J,.d (.refl _)⟩,trivial⟩ ⟨⟨ltd J,.inr ⟨by decide,_,J,.dat _ _⟩⟩,trivial⟩⟩
 refine Q1 ?_
 refine ⟨_,(Option.some.inj a).symm,fun hm=>?_⟩
 subst hm
 obtain rfl:=qc l
 exact ⟨.inl J,_,J,wkA [] [] []⟩
theorem qu4 (q1 : qg→qg→Option Int) (q1F : FuncId) (q1C : List DV) (q1Ok : ∀ (x0 : qg) (x1 : qg) (r : Int),q1 x0 x1 = some r→Pure Tryz.prog tab q1F ([.agg [G x0.at_,G x0.list_,G x0.by_],.agg [G x1.at_,G x1.list_,G x1.by_]] ++ q1C) (G r)) (p0 : List qg) (j : Int) (h : Int) (r : Bool × List qg) (h0 : q5g q1 p0 j h = some r) : Qo Tryz.prog tab 175 [.hs 0 3 0 p0.length,q6 j,q6 h,.d (.fn q1F q1C)] [(0,.dat 3 (p0.map Q0))] 1 (qf r.1) [(0,.dat 3 (r.2.map Q0))] 1:=by
 unfold q5g at h0
 refine Qz Tryz.func175 J (by kernel_rfl) (by kernel_rfl) J<|qa<|q8 J<|qp<|U J<|O (.d (G (w64 (j + 1)))) J<|q8 J<|q9<|qe<|qa<|q8 J<|q9 ?_
 obtain ⟨ap,ca,h0⟩:=q7 h0
 refine Q9 (fun al=>.inl al = ap) (fun (al : List qg)=>⟨[],[(0,.dat 3 (al.map Q0))],1⟩) (by simp) ?_ ?_
 ·refine Q4 (q5h h q1 j) (fun (g : Int × Int × List qg)=>⟨[(0,.hs 0 3 0 g.2.2.length),(1,q6 j),(2,q6 h),(3,.d (.fn q1F q1C)),(9,q6 g.1),(10,q6 g.2.1)],[(0,.dat 3 (g.2.2.map Q0))],1⟩) (w64 (j + 1),0,p0) ap ca (wkA [] [] []) ?_
  intro g cm l
  unfold q5h at l
  refine qe<|qa<|U J<|O (.d (.bool (decide (g.2.1 < 5)))) J<|q9 ?_
  refine qj J l (fun _ l=>?_) (fun _ l=>?_)
  ·refine qk<|qe ?_
   obtain ⟨cb,a,l⟩:=q7 l
   refine Q9 (fun af=>.inl af = cb) (fun (af : Int × List qg)=>⟨[(0,.hs 0 3 0 af.2.length),(1,q6 j),(2,q6 h),(3,.d (.fn q1F q1C)),(9,q6 af.1),(10,q6 g.2.1)],[(0,.dat 3 (af.2.map Q0))],1⟩) (by simp) ?_ ?_
   ·refine qe ?_
    obtain ⟨aq,cc,a⟩:=q7 a
    refine Q9 (fun f=>f = aq) (fun (f : Int)=>⟨[(0,.hs 0 3 0 g.2.2.length),(1,q6 j),(2,q6 h),(3,.d (.fn q1F q1C)),(9,q6 f),(10,q6 g.2.1)],[(0,.dat 3 (g.2.2.map Q0))],1⟩) (by simp) ?_ ?_
    ·refine Q4 (q84 h g q1) (fun (ah : Int)=>⟨[(0,.hs 0 3 0 g.2.2.length),(1,q6 j),(2,q6 h),(3,.d (.fn q1F q1C)),(9,q6 ah),(10,q6 g.2.1)],[(0,.dat 3 (g.2.2.map Q0))],1⟩) g.1 aq cc (wkA [] [] []) ?_
     intro ah cn o
     unfold q84 at o
     refine qe<|qe<|Q2 [q0,q0,q0,q0,qm 0,q0,q0,q0,q0,qm 0,q0,q0,q0,q0,q0,q0,q0,q0] (by kernel_rfl)<|U J<|U J<|O (.d (.bool (decide (ah < h)))) J ?_
     obtain ⟨cd,k,o⟩:=q7 o
     refine Q5 15 (fun A st=>∃ (ar au av aw ax ay az ba bb bc bd be bf bg : V),st = A [(36,qf cd),(35,bg),(34,bf),(33,be),(32,bd),(31,bc),(30,bb),(29,ba),(28,az),(27,ay),(26,ax),(25,aw),(24,av),(23,au),(22,ar)]) ?_ ?_
     ·refine Q6 J J k (fun k=>?_) (fun k=>?_)
      ·refine U J<|U J<|U J ?_
       obtain ⟨t,bh,k⟩:=q7 k
       refine qn bh J J<|qx (.d (.agg [G t.at_,G t.list_,G t.by_])) bh J<|U J<|U J<|O (.d (G (w64 (ah - 1)))) J ?_
       obtain ⟨u,bi,k⟩:=q7 k
       refine qn bi J J<|qx (.d (.agg [G u.at_,G u.list_,G u.by_])) bi J ?_
       obtain ⟨am,ce,k⟩:=q7 k
       refine Ye [.d (.agg [G t.at_,G t.list_,G t.by_]),.d (.agg [G u.at_,G u.list_,G u.by_])] (q1Ok t u am ce) J J J (.inl J)<|O (.d (.bool (decide (am < 0)))) J<|O (.d (.bool (!(decide (am < 0))))) J<|O (.d (.bool (!(decide (am < 0))))) J<|q9 ?_
       obtain rfl:=qc k
       exact ⟨_,_,_,_,_,_,_,_,_,_,_,_,_,_,J⟩
      refine qb J<|qb J<|qb J<|qb J<|qb J<|qb J<|qb J<|qb J<|qb J<|qb J<|qb J<|qb J<|qb J<|O (qf false) J<|q9 ?_
      obtain rfl:=qc k
      exact ⟨_,_,_,_,_,_,_,_,_,_,_,_,_,_,J⟩
     rintro _ ⟨ar,au,av,aw,ax,ay,az,ba,bb,bc,bd,be,bf,bg,rfl⟩
     refine q9 ?_
     refine qj J o (fun _ o=>?_) (fun _ o=>?_)
     ·refine qk<|qw<|qt<|U J<|O (.d (G (w64 (ah + 1)))) J<|q8 J<|qq<|Qa<|Q8 ?_
      exact ⟨_,(Option.some.inj o).symm,wkA [] [] []⟩
     refine Q1 ?_
     refine ⟨_,(Option.some.inj o).symm,fun hm=>?_⟩
     subst hm
     exact ⟨_,J,wkA [] [] []⟩
    intro f hb
    subst hb
    refine qe<|qa<|U J<|U J<|O (qf (f == h)) J<|q9 ?_
    refine qj J a (fun _ a=>?_) (fun _ a=>?_)
    ·refine qa<|q8 J<|qo ?_
     obtain rfl:=qc a
     refine ⟨_,(Option.some.inj l).symm,fun hm=>?_⟩
     subst hm
     obtain rfl:=qc h0
     exact ⟨.inr J,_,J,wkA [] [] []⟩
    refine qk<|qe<|qa<|U J<|U J<|O (.d (G (w64 (h - j)))) J<|O (.d (.bool (decide ((w64 (h - j)) < 50)))) J<|q9 ?_
    refine qj J a (fun _ a=>?_) (fun _ a=>?_)
    ·refine qa<|q8 J<|qo ?_
     obtain rfl:=qc a
     refine ⟨_,(Option.some.inj l).symm,fun hm=>?_⟩
     subst hm
     obtain rfl:=qc h0
     exact ⟨.inr J,_,J,wkA [] [] []⟩
    refine qk<|qe<|Q2 [Q7 0,q0,Q7 0,q0,qm 0,q0,q0,q0,qm 0,q0,q0,q0,q0,q0,q0,q0,q0,q0] (by kernel_rfl)<|U J<|U J<|U J<|U J<|O (.d (G (w64 (f - 1)))) J<|U J<|U J<|O (.d (G (w64 (f - 1)))) J ?_
    obtain ⟨p,bj,a⟩:=q7 a
    refine qn bj J J<|qx (.d (.agg [G p.at_,G p.list_,G p.by_])) bj J<|U J<|U J ?_
    obtain ⟨q,bk,a⟩:=q7 a
    refine qn bk J J<|qx (.d (.agg [G q.at_,G q.list_,G q.by_])) bk J ?_
    obtain ⟨co,bl,a⟩:=q7 a
    refine qn bl J J<|Qi (ds:=[G p.at_,G p.list_,G p.by_]) p bl J J J J J J J J (leb J) J ?_
    obtain ⟨cp,bm,a⟩:=q7 a
    refine qn bm (by simp) J<|Qi (ds:=[G q.at_,G q.list_,G q.by_]) q bm J J J J J J J J (leb J) J<|q9<|qe<|qa<|U J<|U J<|O (.d (G (w64 (f - j)))) J<|O (.d (.bool (decide ((w64 (f - j)) ≥ 2)))) J<|q9 ?_
    obtain ⟨cf,s,a⟩:=q7 a
    refine Kv (fun ag=>ag = cf) (fun (ag : List qg)=>⟨[(0,.hs 0 3 0 ag.length),(1,q6 j),(2,q6 h),(3,.d (.fn q1F q1C)),(9,q6 f),(10,q6 g.2.1)],[(0,.dat 3 (ag.map Q0))],1⟩) (by simp) ?_ ?_
    ·refine qj J s (fun _ s=>?_) (fun _ s=>?_)
     ·refine qa<|U J<|O (.d (G (w64 (f - 1)))) J<|q8 J<|q9 ?_
      obtain ⟨cg,ch,s⟩:=q7 s
      refine qw<|Q4 (q85 q1) (fun (m : Int × List qg)=>⟨[(0,.hs 0 3 0 m.2.length),(1,q6 j),(2,q6 h),(3,.d (.fn q1F q1C)),(9,q6 f),(10,q6 g.2.1),(11,q6 m.1)],[(0,.dat 3 (m.2.map Q0))],1⟩) (w64 (f - 1),(g.2.2.set f.toNat p).set (w64 (f - 1)).toNat q) cg ch (wkE [] [] [] J ⟨⟨_,J,Ql (by simp) J (by decide) (ltd J)⟩,⟨_,J,.d (.refl _)⟩,⟨_,J,.d (.refl _)⟩,⟨_,J,.d (.refl _)⟩,⟨_,J,.d (.refl _)⟩,⟨_,J,.d (.refl _)⟩,⟨_,J,.d (.refl _)⟩,trivial⟩ ⟨⟨ltd J,.inr ⟨by decide,_,J,.dat _ _⟩⟩,trivial⟩) ?_
      intro m cq b
      unfold q85 at b
      refine qe<|qa<|U J<|O (.d (.bool (decide (m.1 ≥ 1)))) J<|q9 ?_
      refine qj J b (fun _ b=>?_) (fun _ b=>?_)
      ·refine qk<|qe<|qw<|qe<|qe<|Q2 [q0,q0,q0,qm 0,q0,q0,q0,q0,qm 0,q0,q0,q0,q0] (by kernel_rfl)<|U J<|U J<|U J ?_
       obtain ⟨v,bn,b⟩:=q7 b
       refine qn bn J J<|qx (.d (.agg [G v.at_,G v.list_,G v.by_])) bn J<|U J<|U J<|O (.d (G (w64 (m.1 - 1)))) J ?_
       obtain ⟨w,bo,b⟩:=q7 b
       refine qn bo J J<|qx (.d (.agg [G w.at_,G w.list_,G w.by_])) bo J ?_
       obtain ⟨an,ci,b⟩:=q7 b
       refine Ye [.d (.agg [G v.at_,G v.list_,G v.by_]),.d (.agg [G w.at_,G w.list_,G w.by_])] (q1Ok v w an ci) J J J (.inl J)<|O (.d (.bool (decide (an < 0)))) J<|O (.d (.bool (!(decide (an < 0))))) J<|q9 ?_
       refine qj J b (fun _ b=>?_) (fun _ b=>?_)
       ·refine Q1 ?_
        refine ⟨_,(Option.some.inj b).symm,fun hm=>?_⟩
        subst hm
        obtain rfl:=qc s
        exact ⟨_,J,wkA [] [] []⟩
       refine qk<|Q2 [Q7 0,q0,Q7 0,q0,qm 0,q0,q0,q0,qm 0,q0,q0,q0,q0,q0,q0,q0,q0,q0] (by kernel_rfl)<|U J<|U J<|U J<|U J<|O (.d (G (w64 (m.1 - 1)))) J<|U J<|U J<|O (.d (G (w64 (m.1 - 1)))) J ?_
       obtain ⟨x,bp,b⟩:=q7 b
       refine qn bp J J<|qx (.d (.agg [G x.at_,G x.list_,G x.by_])) bp J<|U J<|U J ?_
       obtain ⟨y,bq,b⟩:=q7 b
       refine qn bq J J<|qx (.d (.agg [G y.at_,G y.list_,G y.by_])) bq J ?_
       obtain ⟨cr,br,b⟩:=q7 b
       refine qn br J J<|Qi (ds:=[G x.at_,G x.list_,G x.by_]) x br J J J J J J J J (leb J) J ?_
       obtain ⟨cs,bs,b⟩:=q7 b
       refine qn bs (by simp) J<|Qi (ds:=[G y.at_,G y.list_,G y.by_]) y bs J J J J J J J J (leb J) J<|qq<|Qa<|qt<|U J<|O (.d (G (w64 (m.1 - 1)))) J<|q8 J<|qq ?_
       exact ⟨_,(Option.some.inj b).symm,wkE [] [] [] J ⟨⟨_,J,Ql (by simp) J (by decide) (ltd J)⟩,⟨_,J,.d (.refl _)⟩,⟨_,J,.d (.refl _)⟩,⟨_,J,.d (.refl _)⟩,⟨_,J,.d (.refl _)⟩,⟨_,J,.d (.refl _)⟩,⟨_,J,.d (.refl _)⟩,trivial⟩ ⟨⟨ltd J,.inr ⟨by decide,_,J,.dat _ _⟩⟩,trivial⟩⟩
      refine Q1 ?_
      refine ⟨_,(Option.some.inj b).symm,fun hm=>?_⟩
      subst hm
      obtain rfl:=qc s
      exact ⟨_,J,wkA [] [] []⟩
     refine qk<|Q8 ?_
     obtain rfl:=qc s
     exact ⟨_,J,wkE [] [] [] J ⟨⟨_,J,Ql (by simp) J (by decide) (ltd J)⟩,⟨_,J,.d (.refl _)⟩,⟨_,J,.d (.refl _)⟩,⟨_,J,.d (.refl _)⟩,⟨_,J,.d (.refl _)⟩,⟨_,J,.d (.refl _)⟩,trivial⟩ ⟨⟨ltd J,.inr ⟨by decide,_,J,.dat _ _⟩⟩,trivial⟩⟩
    intro ag hb
    subst hb
    refine qa<|U J<|U J<|O (.d (G (w64 (h - f)))) J<|O (.d (.bool (decide ((w64 (h - f)) ≥ 2)))) J<|q9 ?_
    refine qj J a (fun _ a=>?_) (fun _ a=>?_)
    ·refine qa<|U J<|O (.d (G (w64 (f + 1)))) J<|q8 J<|q9 ?_
     obtain ⟨cj,ck,a⟩:=q7 a
     refine qw<|Q4 (q86 h q1 f) (fun (n : Int × List qg)=>⟨[(0,.hs 0 3 0 n.2.length),(1,q6 j),(2,q6 h),(3,.d (.fn q1F q1C)),(9,q6 f),(10,q6 g.2.1),(12,q6 n.1)],[(0,.dat 3 (n.2.map Q0))],1⟩) (w64 (f + 1),ag) cj ck (wkA [] [] []) ?_
     intro n ct c
     unfold q86 at c
     refine qe<|qa<|U J<|U J<|O (.d (.bool (decide (n.1 < h)))) J<|q9 ?_
     refine qj J c (fun _ c=>?_) (fun _ c=>?_)
     ·refine qk<|qe<|qw<|qe<|qe<|Q2 [q0,q0,q0,qm 0,q0,q0,q0,q0,qm 0,q0,q0,q0,q0] (by kernel_rfl)<|U J<|U J<|U J ?_
      obtain ⟨z,bt,c⟩:=q7 c
      refine qn bt J J<|qx (.d (.agg [G z.at_,G z.list_,G z.by_])) bt J<|U J<|U J<|O (.d (G (w64 (n.1 - 1)))) J ?_
      obtain ⟨aa,bu,c⟩:=q7 c
      refine qn bu J J<|qx (.d (.agg [G aa.at_,G aa.list_,G aa.by_])) bu J ?_
      obtain ⟨ao,cl,c⟩:=q7 c
      refine Ye [.d (.agg [G z.at_,G z.list_,G z.by_]),.d (.agg [G aa.at_,G aa.list_,G aa.by_])] (q1Ok z aa ao cl) J J J (.inl J)<|O (.d (.bool (decide (ao < 0)))) J<|O (.d (.bool (!(decide (ao < 0))))) J<|q9 ?_
      refine qj J c (fun _ c=>?_) (fun _ c=>?_)
      ·refine Q1 ?_
       refine ⟨_,(Option.some.inj c).symm,fun hm=>?_⟩
       subst hm
       obtain rfl:=qc a
       exact ⟨_,J,wkA [] [] []⟩
      refine qk<|Q2 [Q7 0,q0,Q7 0,q0,qm 0,q0,q0,q0,qm 0,q0,q0,q0,q0,q0,q0,q0,q0,q0] (by kernel_rfl)<|U J<|U J<|U J<|U J<|O (.d (G (w64 (n.1 - 1)))) J<|U J<|U J<|O (.d (G (w64 (n.1 - 1)))) J ?_
      obtain ⟨ab,bv,c⟩:=q7 c
      refine qn bv J J<|qx (.d (.agg [G ab.at_,G ab.list_,G ab.by_])) bv J<|U J<|U J ?_
      obtain ⟨ac,bw,c⟩:=q7 c
      refine qn bw J J<|qx (.d (.agg [G ac.at_,G ac.list_,G ac.by_])) bw J ?_
      obtain ⟨cu,bx,c⟩:=q7 c
      refine qn bx J J<|Qi (ds:=[G ab.at_,G ab.list_,G ab.by_]) ab bx J J J J J J J J (leb J) J ?_
      obtain ⟨cv,bz,c⟩:=q7 c
      refine qn bz (by simp) J<|Qi (ds:=[G ac.at_,G ac.list_,G ac.by_]) ac bz J J J J J J J J (leb J) J<|qq<|Qa<|qt<|U J<|O (.d (G (w64 (n.1 + 1)))) J<|q8 J<|qq ?_
      exact ⟨_,(Option.some.inj c).symm,wkE [] [] [] J ⟨⟨_,J,Ql (by simp) J (by decide) (ltd J)⟩,⟨_,J,.d (.refl _)⟩,⟨_,J,.d (.refl _)⟩,⟨_,J,.d (.refl _)⟩,⟨_,J,.d (.refl _)⟩,⟨_,J,.d (.refl _)⟩,⟨_,J,.d (.refl _)⟩,trivial⟩ ⟨⟨ltd J,.inr ⟨by decide,_,J,.dat _ _⟩⟩,trivial⟩⟩
     refine Q1 ?_
     refine ⟨_,(Option.some.inj c).symm,fun hm=>?_⟩
     subst hm
     obtain rfl:=qc a
     exact ⟨_,J,wkA [] [] []⟩
    refine qk<|Q8 ?_
    obtain rfl:=qc a
    exact ⟨_,J,wkA [] [] []⟩
   intro af hb
   subst hb
   refine qt<|U J<|O (.d (G (w64 (g.2.1 + 1)))) J<|q8 J<|qq ?_
   exact ⟨_,(Option.some.inj l).symm,wkA [] [] []⟩
  refine Q1 ?_
  refine ⟨_,(Option.some.inj l).symm,fun hm=>?_⟩
  subst hm
  exact ⟨_,J,wkA [] [] []⟩
 intro al hb
 subst hb
 refine qa<|q8 J<|qo ?_
 obtain rfl:=qc h0
 exact ⟨.inr J,_,J,wkA [] [] []⟩
theorem qu7 (w : qg→qg→Option Int) (q1F : FuncId) (q1C : List DV) (q1Ok : ∀ (y : qg) (z : qg) (r : Int),w y z = some r→Pure Tryz.prog tab q1F ([.agg [G y.at_,G y.list_,G y.by_],.agg [G z.at_,G z.list_,G z.by_]] ++ q1C) (G r)) (p0 : List qg) (c : Int) (p2 : Int) (p3 : Int) (r : Int × List qg) (f : q8e w p0 c p2 p3 = some r) : Qo Tryz.prog tab 176 [.hs 0 3 0 p0.length,q6 c,q6 p2,q6 p3,.d (.fn q1F q1C)] [(0,.dat 3 (p0.map Q0))] 1 (q6 r.1) [(0,.dat 3 (r.2.map Q0))] 1:=by
 unfold q8e at f
 refine Qz Tryz.func176 J (by kernel_rfl) (by kernel_rfl) J<|qa<|q8 J<|q9<|qe<|Q2 [Q7 0,q0,Q7 0,q0,qm 0,q0,q0,q0,qm 0,q0,q0,q0,q0,q0,q0,q0] (by kernel_rfl)<|U J<|U J<|U J<|U J<|U J<|U J ?_
 obtain ⟨k,ah,f⟩:=q7 f
 refine qn ah J J<|qx (.d (.agg [G k.at_,G k.list_,G k.by_])) ah J<|U J<|U J ?_
 obtain ⟨l,ai,f⟩:=q7 f
 refine qn ai J J<|qx (.d (.agg [G l.at_,G l.list_,G l.by_])) ai J ?_
 obtain ⟨cf,aj,f⟩:=q7 f
 refine qn aj J J<|Qi (ds:=[G k.at_,G k.list_,G k.by_]) k aj J J J J J J J J (leb J) J ?_
 obtain ⟨cg,ak,f⟩:=q7 f
 refine qn ak (by simp) J<|Qi (ds:=[G l.at_,G l.list_,G l.by_]) l ak J J J J J J J J (leb J) J<|qp<|U J<|O (.d (G (w64 (c + 1)))) J<|U J<|O (.d (G (w64 (p2 - 1)))) J<|q8 J<|q8 J<|q9<|qe ?_
 obtain ⟨al,bx,f⟩:=q7 f
 refine Q9 (fun x=>x = al) (fun (x : Int × List qg)=>⟨[(11,q6 x.1)],[(0,.dat 3 (x.2.map Q0))],1⟩) (by simp) ?_ ?_
 ·refine Q4 (q8f c w) (fun (a : Int × Int × List qg)=>⟨[(0,.hs 0 3 0 a.2.2.length),(1,q6 c),(4,.d (.fn q1F q1C)),(11,q6 a.1),(12,q6 a.2.1)],[(0,.dat 3 (a.2.2.map Q0))],1⟩) (w64 (c + 1),w64 (p2 - 1),(p0.set c.toNat k).set p3.toNat l) al bx (wkE [] [] [] J ⟨⟨_,J,Ql (by simp) J (by decide) (ltd J)⟩,⟨_,J,.d (.refl _)⟩,⟨_,J,.d (.refl _)⟩,⟨_,J,.d (.refl _)⟩,⟨_,J,.d (.refl _)⟩,trivial⟩ ⟨⟨ltd J,.inr ⟨by decide,_,J,.dat _ _⟩⟩,trivial⟩) ?_
  intro a ch b
  unfold q8f at b
  refine qw<|qe ?_
  obtain ⟨am,bz,b⟩:=q7 b
  refine Q9 (fun j=>j = am) (fun (j : Int)=>⟨[(0,.hs 0 3 0 a.2.2.length),(1,q6 c),(4,.d (.fn q1F q1C)),(11,q6 j),(12,q6 a.2.1)],[(0,.dat 3 (a.2.2.map Q0))],1⟩) (by simp) ?_ ?_
  ·refine Q4 (q8g a c w) (fun (ac : Int)=>⟨[(0,.hs 0 3 0 a.2.2.length),(1,q6 c),(4,.d (.fn q1F q1C)),(11,q6 ac),(12,q6 a.2.1)],[(0,.dat 3 (a.2.2.map Q0))],1⟩) a.1 am bz (wkA [] [] []) ?_
   intro ac ci m
   unfold q8g at m
   refine qe<|qe<|Q2 [q0,q0,q0,q0,qm 0,q0,q0,q0,qm 0,q0,q0,q0,q0,q0,q0,q0,q0] (by kernel_rfl)<|U J<|U J<|O (.d (.bool (decide (ac≤a.2.1)))) J ?_
   obtain ⟨ca,g,m⟩:=q7 m
   refine Q5 14 (fun A st=>∃ (an ao ap aq ar au av aw ax ay az ba bb : V),st = A [(47,qf ca),(46,bb),(45,ba),(44,az),(43,ay),(42,ax),(41,aw),(40,av),(39,au),(38,ar),(37,aq),(36,ap),(35,ao),(34,an)]) ?_ ?_
   ·refine Q6 J J g (fun g=>?_) (fun g=>?_)
    ·refine U J<|U J<|U J ?_
     obtain ⟨o,bc,g⟩:=q7 g
     refine qn bc J J<|qx (.d (.agg [G o.at_,G o.list_,G o.by_])) bc J<|U J<|U J ?_
     obtain ⟨p,bd,g⟩:=q7 g
     refine qn bd J J<|qx (.d (.agg [G p.at_,G p.list_,G p.by_])) bd J ?_
     obtain ⟨ad,cb,g⟩:=q7 g
     refine Ye [.d (.agg [G o.at_,G o.list_,G o.by_]),.d (.agg [G p.at_,G p.list_,G p.by_])] (q1Ok o p ad cb) J J J (.inl J)<|O (.d (.bool (decide (ad < 0)))) J<|O (.d (.bool (!(decide (ad < 0))))) J<|O (.d (.bool (!(decide (ad < 0))))) J<|q9 ?_
     obtain rfl:=qc g
     exact ⟨_,_,_,_,_,_,_,_,_,_,_,_,_,J⟩
    refine qb J<|qb J<|qb J<|qb J<|qb J<|qb J<|qb J<|qb J<|qb J<|qb J<|qb J<|qb J<|O (qf false) J<|q9 ?_
    obtain rfl:=qc g
    exact ⟨_,_,_,_,_,_,_,_,_,_,_,_,_,J⟩
   rintro _ ⟨an,ao,ap,aq,ar,au,av,aw,ax,ay,az,ba,bb,rfl⟩
   refine q9 ?_
   refine qj J m (fun _ m=>?_) (fun _ m=>?_)
   ·refine qk<|qw<|qt<|U J<|O (.d (G (w64 (ac + 1)))) J<|q8 J<|qq<|Qa<|Q8 ?_
    exact ⟨_,(Option.some.inj m).symm,wkA [] [] []⟩
   refine Q1 ?_
   refine ⟨_,(Option.some.inj m).symm,fun hm=>?_⟩
   subst hm
   exact ⟨_,J,wkA [] [] []⟩
  intro j hb
  subst hb
  refine qe ?_
  obtain ⟨be,cc,b⟩:=q7 b
  refine Q9 (fun v=>v = be) (fun (v : Int)=>⟨[(0,.hs 0 3 0 a.2.2.length),(1,q6 c),(4,.d (.fn q1F q1C)),(11,q6 j),(12,q6 v)],[(0,.dat 3 (a.2.2.map Q0))],1⟩) (by simp) ?_ ?_
  ·refine Q4 (q8h j a c w) (fun (ae : Int)=>⟨[(0,.hs 0 3 0 a.2.2.length),(1,q6 c),(4,.d (.fn q1F q1C)),(11,q6 j),(12,q6 ae)],[(0,.dat 3 (a.2.2.map Q0))],1⟩) a.2.1 be cc (wkA [] [] []) ?_
   intro ae cj n
   unfold q8h at n
   refine qe<|qe<|Q2 [q0,q0,q0,qm 0,q0,q0,q0,qm 0,q0,q0,q0,q0,q0,q0,q0,q0] (by kernel_rfl)<|U J<|U J<|O (.d (.bool (decide (j≤ae)))) J ?_
   obtain ⟨cd,h,n⟩:=q7 n
   refine Q5 13 (fun A st=>∃ (bf bg bh bi bj bk bl bm bn bo bp bq : V),st = A [(65,qf cd),(64,bq),(63,bp),(62,bo),(61,bn),(60,bm),(59,bl),(58,bk),(57,bj),(56,bi),(55,bh),(54,bg),(53,bf)]) ?_ ?_
   ·refine Q6 J J h (fun h=>?_) (fun h=>?_)
    ·refine U J<|U J<|U J ?_
     obtain ⟨q,br,h⟩:=q7 h
     refine qn br J J<|qx (.d (.agg [G q.at_,G q.list_,G q.by_])) br J<|U J<|U J ?_
     obtain ⟨s,bs,h⟩:=q7 h
     refine qn bs J J<|qx (.d (.agg [G s.at_,G s.list_,G s.by_])) bs J ?_
     obtain ⟨ag,ce,h⟩:=q7 h
     refine Ye [.d (.agg [G q.at_,G q.list_,G q.by_]),.d (.agg [G s.at_,G s.list_,G s.by_])] (q1Ok q s ag ce) J J J (.inl J)<|O (.d (.bool (decide (ag < 0)))) J<|O (.d (.bool (decide (ag < 0)))) J<|q9 ?_
     obtain rfl:=qc h
     exact ⟨_,_,_,_,_,_,_,_,_,_,_,_,J⟩
    refine qb J<|qb J<|qb J<|qb J<|qb J<|qb J<|qb J<|qb J<|qb J<|qb J<|qb J<|O (qf false) J<|q9 ?_
    obtain rfl:=qc h
    exact ⟨_,_,_,_,_,_,_,_,_,_,_,_,J⟩
   rintro _ ⟨bf,bg,bh,bi,bj,bk,bl,bm,bn,bo,bp,bq,rfl⟩
   refine q9 ?_
   refine qj J n (fun _ n=>?_) (fun _ n=>?_)
   ·refine qk<|qw<|qt<|U J<|O (.d (G (w64 (ae - 1)))) J<|q8 J<|qq<|Qa<|Q8 ?_
    exact ⟨_,(Option.some.inj n).symm,wkA [] [] []⟩
   refine Q1 ?_
   refine ⟨_,(Option.some.inj n).symm,fun hm=>?_⟩
   subst hm
   exact ⟨_,J,wkA [] [] []⟩
  intro v hb
  subst hb
  refine qe<|qa<|U J<|U J<|O (.d (.bool (decide (j > v)))) J<|q9 ?_
  refine qj J b (fun _ b=>?_) (fun _ b=>?_)
  ·refine Q1 ?_
   refine ⟨_,(Option.some.inj b).symm,fun hm=>?_⟩
   subst hm
   exact ⟨_,J,wkA [] [] []⟩
  refine qk<|qe<|Q2 [Q7 0,q0,Q7 0,q0,qm 0,q0,q0,q0,qm 0,q0,q0,q0,q0,q0,q0,q0] (by kernel_rfl)<|U J<|U J<|U J<|U J<|U J<|U J ?_
  obtain ⟨t,bt,b⟩:=q7 b
  refine qn bt J J<|qx (.d (.agg [G t.at_,G t.list_,G t.by_])) bt J<|U J<|U J ?_
  obtain ⟨u,bu,b⟩:=q7 b
  refine qn bu J J<|qx (.d (.agg [G u.at_,G u.list_,G u.by_])) bu J ?_
  obtain ⟨ck,bv,b⟩:=q7 b
  refine qn bv J J<|Qi (ds:=[G t.at_,G t.list_,G t.by_]) t bv J J J J J J J J (leb J) J ?_
  obtain ⟨cl,bw,b⟩:=q7 b
  refine qn bw (by simp) J<|Qi (ds:=[G u.at_,G u.list_,G u.by_]) u bw J J J J J J J J (leb J) J<|qp<|U J<|O (.d (G (w64 (j + 1)))) J<|q8 J<|q9<|qt<|U J<|O (.d (G (w64 (v - 1)))) J<|q8 J<|qq<|Qa<|Q8 ?_
  exact ⟨_,(Option.some.inj b).symm,wkE [] [] [] J ⟨⟨_,J,Ql (by simp) J (by decide) (ltd J)⟩,⟨_,J,.d (.refl _)⟩,⟨_,J,.d (.refl _)⟩,⟨_,J,.d (.refl _)⟩,⟨_,J,.d (.refl _)⟩,trivial⟩ ⟨⟨ltd J,.inr ⟨by decide,_,J,.dat _ _⟩⟩,trivial⟩⟩
 intro x hb
 subst hb
 refine qa<|U J<|q8 J<|qo ?_
 obtain rfl:=qc f
 exact ⟨.inr J,_,J,wkA [] [] []⟩
end Go.Proofs.YtjjmcdlnadkjbaaGreat
