/- W_Alld -/
import Derived.Test.YtlchefooafpdlaaGreatK17
namespace Go.Proofs.YtlchefooafpdlaaGreat
open Go Go.Am Go.Sh
set_option maxHeartbeats 8000000
set_option maxRecDepth 100000
theorem qta (a : Qq) (r : Int) (b : q80 a = some r) : Pure Tryz.prog tab 88 [.agg [.int .u8 a.Turn,G a.At.X,G a.At.Y,G a.At.Z]] (G r):=by
 unfold q80 at b
 refine Qi Tryz.func88 J qj qj J<|qc<|Ql (.ref 0 4 0 0) (.dat 4 [[.int .u8 a.Turn,G a.At.X,G a.At.Y,G a.At.Z]]) J<|qb J<|qa<|qh<|qc<|O (.ref 0 4 0 0) J<|O (.d (.int .u8 a.Turn)) J<|O (.d (.bool (decide (a.Turn ≥ 24)))) J ?_
 obtain ⟨m,c,b⟩:=q9 b
 refine Q9 6 (fun A st=>∃ (g h j k l : V),st = A [(11,qg m),(10,l),(9,k),(8,j),(7,h),(6,g)]) ?_ ?_
 ·refine Q8 J J c (fun c=>?_) (fun c=>?_)
  ·refine qd J<|qd J<|qd J<|qd J<|O (qg true) J<|qa ?_
   obtain rfl:=qe c
   exact ⟨_,_,_,_,_,J⟩
  refine O (.ref 0 4 0 1) J<|O (.d (.agg [G a.At.X,G a.At.Y,G a.At.Z])) J ?_
  obtain ⟨f,n,c⟩:=q9 c
  refine Q5 (qkp a.At (-1000000) f n) J<|O (qg (!f)) J<|O (qg (!f)) J<|qa ?_
  obtain rfl:=qe c
  exact ⟨_,_,_,_,_,J⟩
 rintro _ ⟨g,h,j,k,l,rfl⟩
 refine qa ?_
 refine qp J b (fun _ b=>?_) (fun _ b=>?_)
 ·refine qc<|qb J<|qv ?_
  obtain rfl:=qe b
  exact Q4 (q6 8) J
 refine qo<|qc<|qb J<|qv ?_
 obtain rfl:=qe b
 exact Q4 (q6 0) J
theorem qtb (a : Q2) (r : Int) (b : q81 a = some r) : Pure Tryz.prog tab 44 [.agg [.int .u8 a.Frame.Turn,G a.Frame.At.X,G a.Frame.At.Y,G a.Frame.At.Z,G a.Size.X,G a.Size.Y,G a.Size.Z]] (G r):=by
 unfold q81 at b
 refine Qi Tryz.func44 J qj qj J<|qc<|Ql (.ref 0 7 0 0) (.dat 7 [[.int .u8 a.Frame.Turn,G a.Frame.At.X,G a.Frame.At.Y,G a.Frame.At.Z,G a.Size.X,G a.Size.Y,G a.Size.Z]]) J<|qb J<|qa<|qh<|qc<|O (.ref 0 7 0 0) J<|O (.d (.agg [.int .u8 a.Frame.Turn,G a.Frame.At.X,G a.Frame.At.Y,G a.Frame.At.Z])) J ?_
 obtain ⟨g,n,b⟩:=q9 b
 refine Q5 (qta a.Frame g n) J<|O (qg (g != 0)) J ?_
 obtain ⟨o,c,b⟩:=q9 b
 refine Q9 6 (fun A st=>∃ (h j k l m : V),st = A [(12,qg o),(11,m),(10,l),(9,k),(8,j),(7,h)]) ?_ ?_
 ·refine Q8 J J c (fun c=>?_) (fun c=>?_)
  ·refine qd J<|qd J<|qd J<|qd J<|O (qg true) J<|qa ?_
   obtain rfl:=qe c
   exact ⟨_,_,_,_,_,J⟩
  refine O (.ref 0 7 0 4) J<|O (.d (.agg [G a.Size.X,G a.Size.Y,G a.Size.Z])) J ?_
  obtain ⟨f,p,c⟩:=q9 c
  refine Q5 (qkp a.Size 0 f p) J<|O (qg (!f)) J<|O (qg (!f)) J<|qa ?_
  obtain rfl:=qe c
  exact ⟨_,_,_,_,_,J⟩
 rintro _ ⟨h,j,k,l,m,rfl⟩
 refine qa ?_
 refine qp J b (fun _ b=>?_) (fun _ b=>?_)
 ·refine qc<|qb J<|qv ?_
  obtain rfl:=qe b
  exact Q4 (q6 8) J
 refine qo<|qc<|qb J<|qv ?_
 obtain rfl:=qe b
 exact Q4 (q6 0) J
theorem qq5 (b : Q2) (r : (qi × qi × qi × qi × qi × qi × qi × qi) × Int) (g : q7j b = some r) : Pure Tryz.prog tab 90 [.agg [.int .u8 b.Frame.Turn,G b.Frame.At.X,G b.Frame.At.Y,G b.Frame.At.Z,G b.Size.X,G b.Size.Y,G b.Size.Z]] (.tup [.agg [G r.1.1.X,G r.1.1.Y,G r.1.1.Z,G r.1.2.1.X,G r.1.2.1.Y,G r.1.2.1.Z,G r.1.2.2.1.X,G r.1.2.2.1.Y,G r.1.2.2.1.Z,G r.1.2.2.2.1.X,G r.1.2.2.2.1.Y,G r.1.2.2.2.1.Z,G r.1.2.2.2.2.1.X,G r.1.2.2.2.2.1.Y,G r.1.2.2.2.2.1.Z,G r.1.2.2.2.2.2.1.X,G r.1.2.2.2.2.2.1.Y,G r.1.2.2.2.2.2.1.Z,G r.1.2.2.2.2.2.2.1.X,G r.1.2.2.2.2.2.2.1.Y,G r.1.2.2.2.2.2.2.1.Z,G r.1.2.2.2.2.2.2.2.X,G r.1.2.2.2.2.2.2.2.Y,G r.1.2.2.2.2.2.2.2.Z],G r.2]):=by
 unfold q7j at g
 refine Qi Tryz.func90 J qj qj J<|qc<|Ql (.ref 0 7 0 0) (.dat 7 [[.int .u8 b.Frame.Turn,G b.Frame.At.X,G b.Frame.At.Y,G b.Frame.At.Z,G b.Size.X,G b.Size.Y,G b.Size.Z]]) J<|Qe J J<|qb J<|qa<|qh<|qc<|O (.d (.agg [.int .u8 b.Frame.Turn,G b.Frame.At.X,G b.Frame.At.Y,G b.Frame.At.Z,G b.Size.X,G b.Size.Y,G b.Size.Z])) J ?_
 obtain ⟨k,q,g⟩:=q9 g
 refine Q5 (qie b k q) J<|qb J<|qs<|q0 J<|O (qg (k != 0)) J<|qa ?_
 refine qp J g (fun _ g=>?_) (fun _ g=>?_)
 ·refine qc<|O (.d (.agg [G 0,G 0,G 0,G 0,G 0,G 0,G 0,G 0,G 0,G 0,G 0,G 0,G 0,G 0,G 0,G 0,G 0,G 0,G 0,G 0,G 0,G 0,G 0,G 0])) J<|q0 J<|qz 1 (.dat 24 [[G 0,G 0,G 0,G 0,G 0,G 0,G 0,G 0,G 0,G 0,G 0,G 0,G 0,G 0,G 0,G 0,G 0,G 0,G 0,G 0,G 0,G 0,G 0,G 0]]) J<|qb J<|qv ?_
  obtain rfl:=qe g
  exact Q4 (.d (.tup [.agg [G 0,G 0,G 0,G 0,G 0,G 0,G 0,G 0,G 0,G 0,G 0,G 0,G 0,G 0,G 0,G 0,G 0,G 0,G 0,G 0,G 0,G 0,G 0,G 0],G k])) J
 refine qo<|qc<|Qe J J<|qa<|qh<|qc<|q0 J<|qa ?_
 obtain ⟨l,s,g⟩:=q9 g
 refine Qm (fun h=>.inl h = l) (fun (h : List qi)=>⟨[(2,.ref 0 24 0 0),(5,.ref 1 24 0 0)],[(0,.dat 24 [[G 0,G 0,G 0,G 0,G 0,G 0,G 0,G 0,G 0,G 0,G 0,G 0,G 0,G 0,G 0,G 0,G 0,G 0,G 0,G 0,G 0,G 0,G 0,G 0]]),(1,.dat 24 [h.flatMap Jl])],2⟩) qf ?_ ?_
 ·refine Qf (q39 b) (fun (c : Int × List qi)=>⟨[(1,.ref 0 7 0 0),(2,.ref 1 24 0 0),(5,.ref 2 24 0 0),(14,q6 c.1)],[(0,.dat 7 [[.int .u8 b.Frame.Turn,G b.Frame.At.X,G b.Frame.At.Y,G b.Frame.At.Z,G b.Size.X,G b.Size.Y,G b.Size.Z]]),(1,.dat 24 [[G 0,G 0,G 0,G 0,G 0,G 0,G 0,G 0,G 0,G 0,G 0,G 0,G 0,G 0,G 0,G 0,G 0,G 0,G 0,G 0,G 0,G 0,G 0,G 0]]),(2,.dat 24 [c.2.flatMap Jl])],3⟩) (0,[({X:=0,Y:=0,Z:=0} : qi),({X:=0,Y:=0,Z:=0} : qi),({X:=0,Y:=0,Z:=0} : qi),({X:=0,Y:=0,Z:=0} : qi),({X:=0,Y:=0,Z:=0} : qi),({X:=0,Y:=0,Z:=0} : qi),({X:=0,Y:=0,Z:=0} : qi),({X:=0,Y:=0,Z:=0} : qi)]) l s (wkA [(0,0),(1,1),(2,2)] [] []) ?_
  intro c w f
  unfold q39 at f
  refine qc<|O (.d (.bool (decide (c.1 < 8)))) J<|qa<|qh ?_
  refine qp J f (fun _ f=>?_) (fun _ f=>?_)
  ·refine qo<|qh<|Q1<|qc<|q0 J<|qb J<|qs<|q0 J<|O (q6 (Int.tmod c.1 2)) J<|O (.ref 0 7 0 4) J<|O (.ref 0 7 0 4) J<|O (q6 b.Size.X) J<|O (.d (G (w64 ((Int.tmod c.1 2) * b.Size.X)))) J<|q0 J<|O (.d (G (w64 (Int.tdiv c.1 2)))) J<|O (.d (G (Int.tmod (w64 (Int.tdiv c.1 2)) 2))) J<|O (.ref 0 7 0 4) J<|O (.ref 0 7 0 5) J<|O (q6 b.Size.Y) J<|O (.d (G (w64 ((Int.tmod (w64 (Int.tdiv c.1 2)) 2) * b.Size.Y)))) J<|q0 J<|O (.d (G (w64 (Int.tdiv c.1 4)))) J<|O (.ref 0 7 0 4) J<|O (.ref 0 7 0 6) J<|O (q6 b.Size.Z) J<|O (.d (G (w64 ((w64 (Int.tdiv c.1 4)) * b.Size.Z)))) J<|O (.d (.agg [G (w64 ((Int.tmod c.1 2) * b.Size.X)),G (w64 ((Int.tmod (w64 (Int.tdiv c.1 2)) 2) * b.Size.Y)),G (w64 ((w64 (Int.tdiv c.1 4)) * b.Size.Z))])) J<|Qe J J<|qz 3 (.dat 3 [[G (w64 ((Int.tmod c.1 2) * b.Size.X)),G (w64 ((Int.tmod (w64 (Int.tdiv c.1 2)) 2) * b.Size.Y)),G (w64 ((w64 (Int.tdiv c.1 4)) * b.Size.Z))]]) J<|qs<|q0 J<|O (.ref 0 7 0 0) J<|O (.d (.agg [.int .u8 b.Frame.Turn,G b.Frame.At.X,G b.Frame.At.Y,G b.Frame.At.Z])) J<|O (.d (.agg [G (w64 ((Int.tmod c.1 2) * b.Size.X)),G (w64 ((Int.tmod (w64 (Int.tdiv c.1 2)) 2) * b.Size.Y)),G (w64 ((w64 (Int.tdiv c.1 4)) * b.Size.Z))])) J ?_
   obtain ⟨m,t,f⟩:=q9 f
   refine Q5 (qih b.Frame ({X:=w64 ((Int.tmod c.1 2) * b.Size.X),Y:=w64 ((Int.tmod (w64 (Int.tdiv c.1 2)) 2) * b.Size.Y),Z:=w64 ((w64 (Int.tdiv c.1 4)) * b.Size.Z)} : qi) m t) J ?_
   obtain ⟨x,n,f⟩:=q9 f
   refine Z4 n J J J J J<|qb4 (enc:=Jl) m n (fun _=>rfl) J J J J J J J J<|qs<|q0 J ?_
   obtain ⟨j,o,f⟩:=q9 f
   refine Z4 o J J J J J<|q4x (enc:=Jl) (.d (.agg [G j.X,G j.Y,G j.Z])) o (fun _=>rfl) J J J J J J ?_
   obtain ⟨p,u,f⟩:=q9 f
   refine Q5 (qao j (-1000000) p u) J<|O (qg (!p)) J<|qa ?_
   refine qp J f (fun _ f=>?_) (fun _ f=>?_)
   ·refine qc<|O (.d (.agg [G 0,G 0,G 0,G 0,G 0,G 0,G 0,G 0,G 0,G 0,G 0,G 0,G 0,G 0,G 0,G 0,G 0,G 0,G 0,G 0,G 0,G 0,G 0,G 0])) J<|qz 1 (.dat 24 [[G 0,G 0,G 0,G 0,G 0,G 0,G 0,G 0,G 0,G 0,G 0,G 0,G 0,G 0,G 0,G 0,G 0,G 0,G 0,G 0,G 0,G 0,G 0,G 0]]) J<|qb J<|qv ?_
    refine ⟨_,(Option.some.inj f).symm,fun hm=>?_⟩
    subst hm
    obtain rfl:=qe g
    exact Q4 (.d (.tup [.agg [G 0,G 0,G 0,G 0,G 0,G 0,G 0,G 0,G 0,G 0,G 0,G 0,G 0,G 0,G 0,G 0,G 0,G 0,G 0,G 0,G 0,G 0,G 0,G 0],G 16])) J
   refine qo<|Qc<|Qj<|qy<|O (.d (G (w64 (c.1 + 1)))) J<|q0 J<|qx ?_
   exact ⟨_,(Option.some.inj f).symm,wkA [(0,0),(1,1),(2,2)] [] []⟩
  refine Qb ?_
  refine ⟨_,(Option.some.inj f).symm,fun hm=>?_⟩
  subst hm
  exact ⟨_,J,wkA [(0,1),(1,2)] [] []⟩
 intro h hb
 subst hb
 refine qc ?_
 obtain ⟨a,v,g⟩:=q9 g
 refine qee (enc:=Jl) (.d (.agg [G a.1.X,G a.1.Y,G a.1.Z,G a.2.1.X,G a.2.1.Y,G a.2.1.Z,G a.2.2.1.X,G a.2.2.1.Y,G a.2.2.1.Z,G a.2.2.2.1.X,G a.2.2.2.1.Y,G a.2.2.2.1.Z,G a.2.2.2.2.1.X,G a.2.2.2.2.1.Y,G a.2.2.2.2.1.Z,G a.2.2.2.2.2.1.X,G a.2.2.2.2.2.1.Y,G a.2.2.2.2.2.1.Z,G a.2.2.2.2.2.2.1.X,G a.2.2.2.2.2.2.1.Y,G a.2.2.2.2.2.2.1.Z,G a.2.2.2.2.2.2.2.X,G a.2.2.2.2.2.2.2.Y,G a.2.2.2.2.2.2.2.Z])) (qnq v) J J J J J J<|qz 0 (.dat 24 [[G a.1.X,G a.1.Y,G a.1.Z,G a.2.1.X,G a.2.1.Y,G a.2.1.Z,G a.2.2.1.X,G a.2.2.1.Y,G a.2.2.1.Z,G a.2.2.2.1.X,G a.2.2.2.1.Y,G a.2.2.2.1.Z,G a.2.2.2.2.1.X,G a.2.2.2.2.1.Y,G a.2.2.2.2.1.Z,G a.2.2.2.2.2.1.X,G a.2.2.2.2.2.1.Y,G a.2.2.2.2.2.1.Z,G a.2.2.2.2.2.2.1.X,G a.2.2.2.2.2.2.1.Y,G a.2.2.2.2.2.2.1.Z,G a.2.2.2.2.2.2.2.X,G a.2.2.2.2.2.2.2.Y,G a.2.2.2.2.2.2.2.Z]]) J<|qb J<|qv ?_
 obtain rfl:=qe g
 exact Q4 (.d (.tup [.agg [G a.1.X,G a.1.Y,G a.1.Z,G a.2.1.X,G a.2.1.Y,G a.2.1.Z,G a.2.2.1.X,G a.2.2.1.Y,G a.2.2.1.Z,G a.2.2.2.1.X,G a.2.2.2.1.Y,G a.2.2.2.1.Z,G a.2.2.2.2.1.X,G a.2.2.2.2.1.Y,G a.2.2.2.2.1.Z,G a.2.2.2.2.2.1.X,G a.2.2.2.2.2.1.Y,G a.2.2.2.2.2.1.Z,G a.2.2.2.2.2.2.1.X,G a.2.2.2.2.2.2.1.Y,G a.2.2.2.2.2.2.1.Z,G a.2.2.2.2.2.2.2.X,G a.2.2.2.2.2.2.2.Y,G a.2.2.2.2.2.2.2.Z],G 0])) J
theorem qic (f : Q2) (r : qk × Int) (h : q20 f = some r) : Pure Tryz.prog tab 45 [.agg [.int .u8 f.Frame.Turn,G f.Frame.At.X,G f.Frame.At.Y,G f.Frame.At.Z,G f.Size.X,G f.Size.Y,G f.Size.Z]] (.tup [.agg [G r.1.Lo.X,G r.1.Lo.Y,G r.1.Lo.Z,G r.1.Hi.X,G r.1.Hi.Y,G r.1.Hi.Z],G r.2]):=by
 unfold q20 at h
 refine Qi Tryz.func45 J qj qj J<|qc<|Ql (.ref 0 7 0 0) (.dat 7 [[.int .u8 f.Frame.Turn,G f.Frame.At.X,G f.Frame.At.Y,G f.Frame.At.Z,G f.Size.X,G f.Size.Y,G f.Size.Z]]) J<|Qe J J<|qb J<|qs<|O (.d (.agg [.int .u8 f.Frame.Turn,G f.Frame.At.X,G f.Frame.At.Y,G f.Frame.At.Z,G f.Size.X,G f.Size.Y,G f.Size.Z])) J ?_
 obtain ⟨a,y,h⟩:=q9 h
 refine Q5 (qq5 f a y) J<|q0 J<|O (.d (.agg [G a.1.1.X,G a.1.1.Y,G a.1.1.Z,G a.1.2.1.X,G a.1.2.1.Y,G a.1.2.1.Z,G a.1.2.2.1.X,G a.1.2.2.1.Y,G a.1.2.2.1.Z,G a.1.2.2.2.1.X,G a.1.2.2.2.1.Y,G a.1.2.2.2.1.Z,G a.1.2.2.2.2.1.X,G a.1.2.2.2.2.1.Y,G a.1.2.2.2.2.1.Z,G a.1.2.2.2.2.2.1.X,G a.1.2.2.2.2.2.1.Y,G a.1.2.2.2.2.2.1.Z,G a.1.2.2.2.2.2.2.1.X,G a.1.2.2.2.2.2.2.1.Y,G a.1.2.2.2.2.2.2.1.Z,G a.1.2.2.2.2.2.2.2.X,G a.1.2.2.2.2.2.2.2.Y,G a.1.2.2.2.2.2.2.2.Z])) J<|O (q6 a.2) J<|Qe J J<|qz 2 (.dat 24 [[G a.1.1.X,G a.1.1.Y,G a.1.1.Z,G a.1.2.1.X,G a.1.2.1.Y,G a.1.2.1.Z,G a.1.2.2.1.X,G a.1.2.2.1.Y,G a.1.2.2.1.Z,G a.1.2.2.2.1.X,G a.1.2.2.2.1.Y,G a.1.2.2.2.1.Z,G a.1.2.2.2.2.1.X,G a.1.2.2.2.2.1.Y,G a.1.2.2.2.2.1.Z,G a.1.2.2.2.2.2.1.X,G a.1.2.2.2.2.2.1.Y,G a.1.2.2.2.2.2.1.Z,G a.1.2.2.2.2.2.2.1.X,G a.1.2.2.2.2.2.2.1.Y,G a.1.2.2.2.2.2.2.1.Z,G a.1.2.2.2.2.2.2.2.X,G a.1.2.2.2.2.2.2.2.Y,G a.1.2.2.2.2.2.2.2.Z]]) J<|qb J<|qa<|qh<|qc<|q0 J<|O (qg (a.2 != 0)) J<|qa ?_
 refine qp J h (fun _ h=>?_) (fun _ h=>?_)
 ·refine qc<|O (.d (.agg [G 0,G 0,G 0,G 0,G 0,G 0])) J<|q0 J<|qz 1 (.dat 6 [[G 0,G 0,G 0,G 0,G 0,G 0]]) J<|qb J<|qv ?_
  obtain rfl:=qe h
  exact Q4 (.d (.tup [.agg [G 0,G 0,G 0,G 0,G 0,G 0],G a.2])) J
 refine qo<|qh<|qc<|O (.ref 0 7 0 4) J<|O (.ref 0 7 0 4) J<|O (q6 f.Size.X) J<|O (qg (f.Size.X == 0)) J ?_
 obtain ⟨z,k,h⟩:=q9 h
 refine Q9 6 (fun A st=>∃ (m n o p q : V),st = A [(27,qg z),(26,q),(25,p),(24,o),(23,n),(22,m)]) ?_ ?_
 ·refine Q8 J J k (fun k=>?_) (fun k=>?_)
  ·refine qd J<|qd J<|qd J<|qd J<|O (qg true) J<|qa ?_
   obtain rfl:=qe k
   exact ⟨_,_,_,_,_,J⟩
  refine O (.ref 0 7 0 4) J<|O (.ref 0 7 0 5) J<|O (q6 f.Size.Y) J<|O (qg (f.Size.Y == 0)) J<|O (qg (f.Size.Y == 0)) J<|qa ?_
  obtain rfl:=qe k
  exact ⟨_,_,_,_,_,J⟩
 rintro _ ⟨m,n,o,p,q,rfl⟩
 obtain ⟨aa,l,h⟩:=q9 h
 refine Q9 6 (fun A st=>∃ (s t u v w : V),st = A [(33,qg aa),(32,w),(31,v),(30,u),(29,t),(28,s)]) ?_ ?_
 ·refine Q8 J J l (fun l=>?_) (fun l=>?_)
  ·refine qd J<|qd J<|qd J<|qd J<|O (qg true) J<|qa ?_
   obtain rfl:=qe l
   exact ⟨_,_,_,_,_,J⟩
  refine O (.ref 0 7 0 4) J<|O (.ref 0 7 0 6) J<|O (q6 f.Size.Z) J<|O (qg (f.Size.Z == 0)) J<|O (qg (f.Size.Z == 0)) J<|qa ?_
  obtain rfl:=qe l
  exact ⟨_,_,_,_,_,J⟩
 rintro _ ⟨s,t,u,v,w,rfl⟩
 refine qa ?_
 refine qp J h (fun _ h=>?_) (fun _ h=>?_)
 ·refine qc<|O (.d (.agg [G 0,G 0,G 0,G 0,G 0,G 0])) J<|qz 1 (.dat 6 [[G 0,G 0,G 0,G 0,G 0,G 0]]) J<|qb J<|qv ?_
  obtain rfl:=qe h
  exact Q4 (.d (.tup [.agg [G 0,G 0,G 0,G 0,G 0,G 0],G 6])) J
 refine qo<|qc<|O (.ref 2 24 0 0) J<|O (.d (.agg [G a.1.1.X,G a.1.1.Y,G a.1.1.Z])) J<|O (.ref 2 24 0 0) J<|O (.d (.agg [G a.1.1.X,G a.1.1.Y,G a.1.1.Z])) J<|O (.d (.agg [G a.1.1.X,G a.1.1.Y,G a.1.1.Z,G a.1.1.X,G a.1.1.Y,G a.1.1.Z])) J<|Qe J J<|qz 3 (.dat 6 [[G a.1.1.X,G a.1.1.Y,G a.1.1.Z,G a.1.1.X,G a.1.1.Y,G a.1.1.Z]]) J<|qa<|qh<|qc<|O (.d (.agg [G a.1.1.X,G a.1.1.Y,G a.1.1.Z,G a.1.2.1.X,G a.1.2.1.Y,G a.1.2.1.Z,G a.1.2.2.1.X,G a.1.2.2.1.Y,G a.1.2.2.1.Z,G a.1.2.2.2.1.X,G a.1.2.2.2.1.Y,G a.1.2.2.2.1.Z,G a.1.2.2.2.2.1.X,G a.1.2.2.2.2.1.Y,G a.1.2.2.2.2.1.Z,G a.1.2.2.2.2.2.1.X,G a.1.2.2.2.2.2.1.Y,G a.1.2.2.2.2.2.1.Z,G a.1.2.2.2.2.2.2.1.X,G a.1.2.2.2.2.2.2.1.Y,G a.1.2.2.2.2.2.2.1.Z,G a.1.2.2.2.2.2.2.2.X,G a.1.2.2.2.2.2.2.2.Y,G a.1.2.2.2.2.2.2.2.Z])) J<|q0 J<|qa ?_
 obtain ⟨x,ab,h⟩:=q9 h
 refine Qm (fun g=>g = x) (fun (g : Int × Int × Int × Int × Int × Int)=>⟨[(2,.ref 0 6 0 0),(6,.ref 1 6 0 0)],[(0,.dat 6 [[G 0,G 0,G 0,G 0,G 0,G 0]]),(1,.dat 6 [[G g.1,G g.2.1,G g.2.2.1,G g.2.2.2.1,G g.2.2.2.2.1,G g.2.2.2.2.2]])],2⟩) qf ?_ ?_
 ·refine Qf (q38 a) (fun (b : Int × Int × Int × Int × Int × Int × Int)=>⟨[(2,.ref 0 6 0 0),(6,.ref 1 6 0 0),(40,.d (.agg [G a.1.1.X,G a.1.1.Y,G a.1.1.Z,G a.1.2.1.X,G a.1.2.1.Y,G a.1.2.1.Z,G a.1.2.2.1.X,G a.1.2.2.1.Y,G a.1.2.2.1.Z,G a.1.2.2.2.1.X,G a.1.2.2.2.1.Y,G a.1.2.2.2.1.Z,G a.1.2.2.2.2.1.X,G a.1.2.2.2.2.1.Y,G a.1.2.2.2.2.1.Z,G a.1.2.2.2.2.2.1.X,G a.1.2.2.2.2.2.1.Y,G a.1.2.2.2.2.2.1.Z,G a.1.2.2.2.2.2.2.1.X,G a.1.2.2.2.2.2.2.1.Y,G a.1.2.2.2.2.2.2.1.Z,G a.1.2.2.2.2.2.2.2.X,G a.1.2.2.2.2.2.2.2.Y,G a.1.2.2.2.2.2.2.2.Z])),(41,q6 b.1)],[(0,.dat 6 [[G 0,G 0,G 0,G 0,G 0,G 0]]),(1,.dat 6 [[G b.2.1,G b.2.2.1,G b.2.2.2.1,G b.2.2.2.2.1,G b.2.2.2.2.2.1,G b.2.2.2.2.2.2]])],2⟩) (0,a.1.1.X,a.1.1.Y,a.1.1.Z,a.1.1.X,a.1.1.Y,a.1.1.Z) x ab (wkA [(0,1),(1,3)] [] []) ?_
  intro b ad j
  unfold q38 at j
  refine qc<|O (.d (.bool (decide (b.1 < 8)))) J<|qa<|qh ?_
  refine qp J j (fun _ j=>?_) (fun _ j=>?_)
  ·refine qo<|qh<|Q1<|qc ?_
   obtain ⟨c,ac,j⟩:=q9 j
   refine qrw (enc:=Jl) [a.1.1,a.1.2.1,a.1.2.2.1,a.1.2.2.2.1,a.1.2.2.2.2.1,a.1.2.2.2.2.2.1,a.1.2.2.2.2.2.2.1,a.1.2.2.2.2.2.2.2] (.d (.agg [G c.X,G c.Y,G c.Z])) ac (fun _=>rfl) J J J J J J<|Qe J J<|qz 2 (.dat 3 [[G c.X,G c.Y,G c.Z]]) J<|qs<|O (.ref 1 6 0 0) J<|O (.ref 1 6 0 0) J<|O (q6 b.2.1) J<|O (.ref 2 3 0 0) J<|O (q6 c.X) J<|Uo (r:=min b.2.1 c.X) J J (by simp only [Um];rfl)<|O (.ref 1 6 0 0) J<|O (.ref 1 6 0 1) J<|O (q6 b.2.2.1) J<|O (.ref 2 3 0 1) J<|O (q6 c.Y) J<|Uo (r:=min b.2.2.1 c.Y) J J (by simp only [Um];rfl)<|O (.ref 1 6 0 0) J<|O (.ref 1 6 0 2) J<|O (q6 b.2.2.2.1) J<|O (.ref 2 3 0 2) J<|O (q6 c.Z) J<|Uo (r:=min b.2.2.2.1 c.Z) J J (by simp only [Um];rfl)<|O (.d (.agg [G (min b.2.1 c.X),G (min b.2.2.1 c.Y),G (min b.2.2.2.1 c.Z)])) J<|O (.ref 1 6 0 0) J<|qz 1 (.dat 6 [[G (min b.2.1 c.X),G (min b.2.2.1 c.Y),G (min b.2.2.2.1 c.Z),G b.2.2.2.2.1,G b.2.2.2.2.2.1,G b.2.2.2.2.2.2]]) J<|qa<|qy<|O (.ref 1 6 0 3) J<|O (.ref 1 6 0 3) J<|O (q6 b.2.2.2.2.1) J<|O (.ref 2 3 0 0) J<|O (q6 c.X) J<|Un (r:=max b.2.2.2.2.1 c.X) J J (by simp only [Ul];rfl)<|O (.ref 1 6 0 3) J<|O (.ref 1 6 0 4) J<|O (q6 b.2.2.2.2.2.1) J<|O (.ref 2 3 0 1) J<|O (q6 c.Y) J<|Un (r:=max b.2.2.2.2.2.1 c.Y) J J (by simp only [Ul];rfl)<|O (.ref 1 6 0 3) J ?_
   refine O (.ref 1 6 0 5) J<|O (q6 b.2.2.2.2.2.2) J<|O (.ref 2 3 0 2) J<|O (q6 c.Z) J<|Un (r:=max b.2.2.2.2.2.2 c.Z) J J (by simp only [Ul];rfl)<|O (.d (.agg [G (max b.2.2.2.2.1 c.X),G (max b.2.2.2.2.2.1 c.Y),G (max b.2.2.2.2.2.2 c.Z)])) J<|O (.ref 1 6 0 3) J<|qz 1 (.dat 6 [[G (min b.2.1 c.X),G (min b.2.2.1 c.Y),G (min b.2.2.2.1 c.Z),G (max b.2.2.2.2.1 c.X),G (max b.2.2.2.2.2.1 c.Y),G (max b.2.2.2.2.2.2 c.Z)]]) J<|qx<|Qj<|qy<|O (.d (G (w64 (b.1 + 1)))) J<|q0 J<|qx ?_
   exact ⟨_,(Option.some.inj j).symm,wkA [(0,0),(1,1)] [] []⟩
  refine Qb ?_
  refine ⟨_,(Option.some.inj j).symm,fun hm=>?_⟩
  subst hm
  exact ⟨_,J,wkA [(0,0),(1,1)] [] []⟩
 intro g hb
 subst hb
 refine qc<|O (.d (.agg [G g.1,G g.2.1,G g.2.2.1,G g.2.2.2.1,G g.2.2.2.2.1,G g.2.2.2.2.2])) J<|qz 0 (.dat 6 [[G g.1,G g.2.1,G g.2.2.1,G g.2.2.2.1,G g.2.2.2.2.1,G g.2.2.2.2.2]]) J<|qb J<|qv ?_
 obtain rfl:=qe h
 exact Q4 (.d (.tup [.agg [G g.1,G g.2.1,G g.2.2.1,G g.2.2.2.1,G g.2.2.2.2.1,G g.2.2.2.2.2],G 0])) J
theorem qz0 (a : qk) (b : qk) (r : Int) (c : q9c a b = some r) : Pure Tryz.prog tab 91 [.agg [G a.Lo.X,G a.Lo.Y,G a.Lo.Z,G a.Hi.X,G a.Hi.Y,G a.Hi.Z],.agg [G b.Lo.X,G b.Lo.Y,G b.Lo.Z,G b.Hi.X,G b.Hi.Y,G b.Hi.Z]] (G r):=by
 unfold q9c at c
 refine Qi Tryz.func91 J qj qj J<|qc<|Ql (.ref 0 6 0 0) (.dat 6 [[G a.Lo.X,G a.Lo.Y,G a.Lo.Z,G a.Hi.X,G a.Hi.Y,G a.Hi.Z]]) J<|Ql (.ref 1 6 0 0) (.dat 6 [[G b.Lo.X,G b.Lo.Y,G b.Lo.Z,G b.Hi.X,G b.Hi.Y,G b.Hi.Z]]) J<|qb J<|qs<|O (.ref 0 6 0 3) J<|O (.ref 0 6 0 3) J<|O (q6 a.Hi.X) J<|O (.ref 1 6 0 3) J<|O (.ref 1 6 0 3) J<|O (q6 b.Hi.X) J<|Uo (r:=min a.Hi.X b.Hi.X) J J (by simp only [Um];rfl)<|O (.ref 0 6 0 0) J<|O (.ref 0 6 0 0) J<|O (q6 a.Lo.X) J<|O (.ref 1 6 0 0) J<|O (.ref 1 6 0 0) J<|O (q6 b.Lo.X) J<|Un (r:=max a.Lo.X b.Lo.X) J J (by simp only [Ul];rfl)<|O (.d (G (w64 ((min a.Hi.X b.Hi.X) - (max a.Lo.X b.Lo.X))))) J<|qb J<|qs<|O (.ref 0 6 0 3) J<|O (.ref 0 6 0 4) J<|O (q6 a.Hi.Y) J<|O (.ref 1 6 0 3) J<|O (.ref 1 6 0 4) J<|O (q6 b.Hi.Y) J<|Uo (r:=min a.Hi.Y b.Hi.Y) J J (by simp only [Um];rfl)<|O (.ref 0 6 0 0) J<|O (.ref 0 6 0 1) J<|O (q6 a.Lo.Y) J<|O (.ref 1 6 0 0) J<|O (.ref 1 6 0 1) J<|O (q6 b.Lo.Y) J<|Un (r:=max a.Lo.Y b.Lo.Y) J J (by simp only [Ul];rfl)<|O (.d (G (w64 ((min a.Hi.Y b.Hi.Y) - (max a.Lo.Y b.Lo.Y))))) J<|qb J<|qs ?_
 refine O (.ref 0 6 0 3) J<|O (.ref 0 6 0 5) J<|O (q6 a.Hi.Z) J<|O (.ref 1 6 0 3) J<|O (.ref 1 6 0 5) J<|O (q6 b.Hi.Z) J<|Uo (r:=min a.Hi.Z b.Hi.Z) J J (by simp only [Um];rfl)<|O (.ref 0 6 0 0) J<|O (.ref 0 6 0 2) J<|O (q6 a.Lo.Z) J<|O (.ref 1 6 0 0) J<|O (.ref 1 6 0 2) J<|O (q6 b.Lo.Z) J<|Un (r:=max a.Lo.Z b.Lo.Z) J J (by simp only [Ul];rfl)<|O (.d (G (w64 ((min a.Hi.Z b.Hi.Z) - (max a.Lo.Z b.Lo.Z))))) J<|qb J<|qa<|qh<|Q1<|qc<|q0 J<|O (.d (.bool ((w64 ((min a.Hi.X b.Hi.X) - (max a.Lo.X b.Lo.X))) == 0))) J ?_
 obtain ⟨af,f,c⟩:=q9 c
 refine Q9 4 (fun A st=>∃ (m n o : V),st = A [(59,qg af),(58,o),(57,n),(56,m)]) ?_ ?_
 ·refine Q8 J J f (fun f=>?_) (fun f=>?_)
  ·refine q0 J<|O (.d (.bool (decide ((w64 ((min a.Hi.Y b.Hi.Y) - (max a.Lo.Y b.Lo.Y))) > 0)))) J<|O (.d (.bool (decide ((w64 ((min a.Hi.Y b.Hi.Y) - (max a.Lo.Y b.Lo.Y))) > 0)))) J<|qa ?_
   obtain rfl:=qe f
   exact ⟨_,_,_,J⟩
  refine qd J<|qd J<|O (qg false) J<|qa ?_
  obtain rfl:=qe f
  exact ⟨_,_,_,J⟩
 rintro _ ⟨m,n,o,rfl⟩
 obtain ⟨ag,g,c⟩:=q9 c
 refine Q9 4 (fun A st=>∃ (p q s : V),st = A [(63,qg ag),(62,s),(61,q),(60,p)]) ?_ ?_
 ·refine Q8 J J g (fun g=>?_) (fun g=>?_)
  ·refine q0 J<|O (.d (.bool (decide ((w64 ((min a.Hi.Z b.Hi.Z) - (max a.Lo.Z b.Lo.Z))) > 0)))) J<|O (.d (.bool (decide ((w64 ((min a.Hi.Z b.Hi.Z) - (max a.Lo.Z b.Lo.Z))) > 0)))) J<|qa ?_
   obtain rfl:=qe g
   exact ⟨_,_,_,J⟩
  refine qd J<|qd J<|O (qg false) J<|qa ?_
  obtain rfl:=qe g
  exact ⟨_,_,_,J⟩
 rintro _ ⟨p,q,s,rfl⟩
 refine qb J<|qa ?_
 refine qp J c (fun _ c=>?_) (fun _ c=>?_)
 ·refine qc<|q0 J<|q0 J<|O (.d (G (w64 ((w64 ((min a.Hi.Y b.Hi.Y) - (max a.Lo.Y b.Lo.Y))) * (w64 ((min a.Hi.Z b.Hi.Z) - (max a.Lo.Z b.Lo.Z))))))) J<|qb J<|qv ?_
  obtain rfl:=qe c
  exact Q4 (.d (G (w64 ((w64 ((min a.Hi.Y b.Hi.Y) - (max a.Lo.Y b.Lo.Y))) * (w64 ((min a.Hi.Z b.Hi.Z) - (max a.Lo.Z b.Lo.Z))))))) J
 refine qc<|q0 J<|O (.d (.bool (decide ((w64 ((min a.Hi.X b.Hi.X) - (max a.Lo.X b.Lo.X))) > 0)))) J ?_
 obtain ⟨ah,h,c⟩:=q9 c
 refine Q9 4 (fun A st=>∃ (t u v : V),st = A [(73,qg ah),(72,v),(71,u),(70,t)]) ?_ ?_
 ·refine Q8 J J h (fun h=>?_) (fun h=>?_)
  ·refine q0 J<|O (.d (.bool ((w64 ((min a.Hi.Y b.Hi.Y) - (max a.Lo.Y b.Lo.Y))) == 0))) J<|O (.d (.bool ((w64 ((min a.Hi.Y b.Hi.Y) - (max a.Lo.Y b.Lo.Y))) == 0))) J<|qa ?_
   obtain rfl:=qe h
   exact ⟨_,_,_,J⟩
  refine qd J<|qd J<|O (qg false) J<|qa ?_
  obtain rfl:=qe h
  exact ⟨_,_,_,J⟩
 rintro _ ⟨t,u,v,rfl⟩
 obtain ⟨ai,j,c⟩:=q9 c
 refine Q9 4 (fun A st=>∃ (w x y : V),st = A [(77,qg ai),(76,y),(75,x),(74,w)]) ?_ ?_
 ·refine Q8 J J j (fun j=>?_) (fun j=>?_)
  ·refine q0 J<|O (.d (.bool (decide ((w64 ((min a.Hi.Z b.Hi.Z) - (max a.Lo.Z b.Lo.Z))) > 0)))) J<|O (.d (.bool (decide ((w64 ((min a.Hi.Z b.Hi.Z) - (max a.Lo.Z b.Lo.Z))) > 0)))) J<|qa ?_
   obtain rfl:=qe j
   exact ⟨_,_,_,J⟩
  refine qd J<|qd J<|O (qg false) J<|qa ?_
  obtain rfl:=qe j
  exact ⟨_,_,_,J⟩
 rintro _ ⟨w,x,y,rfl⟩
 refine qb J<|qa ?_
 refine qp J c (fun _ c=>?_) (fun _ c=>?_)
 ·refine qc<|q0 J<|q0 J<|O (.d (G (w64 ((w64 ((min a.Hi.X b.Hi.X) - (max a.Lo.X b.Lo.X))) * (w64 ((min a.Hi.Z b.Hi.Z) - (max a.Lo.Z b.Lo.Z))))))) J<|qb J<|qv ?_
  obtain rfl:=qe c
  exact Q4 (.d (G (w64 ((w64 ((min a.Hi.X b.Hi.X) - (max a.Lo.X b.Lo.X))) * (w64 ((min a.Hi.Z b.Hi.Z) - (max a.Lo.Z b.Lo.Z))))))) J
 refine qc<|q0 J<|O (.d (.bool (decide ((w64 ((min a.Hi.X b.Hi.X) - (max a.Lo.X b.Lo.X))) > 0)))) J ?_
 obtain ⟨aj,k,c⟩:=q9 c
 refine Q9 4 (fun A st=>∃ (z aa ab : V),st = A [(87,qg aj),(86,ab),(85,aa),(84,z)]) ?_ ?_
 ·refine Q8 J J k (fun k=>?_) (fun k=>?_)
  ·refine q0 J<|O (.d (.bool (decide ((w64 ((min a.Hi.Y b.Hi.Y) - (max a.Lo.Y b.Lo.Y))) > 0)))) J<|O (.d (.bool (decide ((w64 ((min a.Hi.Y b.Hi.Y) - (max a.Lo.Y b.Lo.Y))) > 0)))) J<|qa ?_
   obtain rfl:=qe k
   exact ⟨_,_,_,J⟩
  refine qd J<|qd J<|O (qg false) J<|qa ?_
  obtain rfl:=qe k
  exact ⟨_,_,_,J⟩
 rintro _ ⟨z,aa,ab,rfl⟩
 obtain ⟨ak,l,c⟩:=q9 c
 refine Q9 4 (fun A st=>∃ (ac ad ae : V),st = A [(91,qg ak),(90,ae),(89,ad),(88,ac)]) ?_ ?_
 ·refine Q8 J J l (fun l=>?_) (fun l=>?_)
  ·refine q0 J<|O (.d (.bool ((w64 ((min a.Hi.Z b.Hi.Z) - (max a.Lo.Z b.Lo.Z))) == 0))) J<|O (.d (.bool ((w64 ((min a.Hi.Z b.Hi.Z) - (max a.Lo.Z b.Lo.Z))) == 0))) J<|qa ?_
   obtain rfl:=qe l
   exact ⟨_,_,_,J⟩
  refine qd J<|qd J<|O (qg false) J<|qa ?_
  obtain rfl:=qe l
  exact ⟨_,_,_,J⟩
 rintro _ ⟨ac,ad,ae,rfl⟩
 refine qb J<|qa ?_
 refine qp J c (fun _ c=>?_) (fun _ c=>?_)
 ·refine qc<|q0 J<|q0 J<|O (.d (G (w64 ((w64 ((min a.Hi.X b.Hi.X) - (max a.Lo.X b.Lo.X))) * (w64 ((min a.Hi.Y b.Hi.Y) - (max a.Lo.Y b.Lo.Y))))))) J<|qb J<|qv ?_
  obtain rfl:=qe c
  exact Q4 (.d (G (w64 ((w64 ((min a.Hi.X b.Hi.X) - (max a.Lo.X b.Lo.X))) * (w64 ((min a.Hi.Y b.Hi.Y) - (max a.Lo.Y b.Lo.Y))))))) J
 refine qo<|Qc<|Qj<|qc<|qb J<|qv ?_
 obtain rfl:=qe c
 exact Q4 (q6 0) J
theorem qff (f : List qk) (r : Int × Int) (g : Us f = some r) : Pure Tryz.prog tab 46 [.sl 6 (f.map Q6)] (.tup [G r.1,G r.2]):=by
 unfold Us at g
 refine Qi Tryz.func46 J qj qj J<|qc<|qb J<|qb J<|qa<|qh<|qc<|q0 J ?_
 obtain ⟨q,u,g⟩:=q9 g
 refine Q5 (q9b f q u) J<|qb J<|qs<|q0 J<|O (qg (q != 0)) J<|qa ?_
 refine qp J g (fun _ g=>?_) (fun _ g=>?_)
 ·refine qc<|q0 J<|qb J<|qb J<|qv ?_
  obtain rfl:=qe g
  exact Q4 (.d (.tup [G 0,G q])) J
 refine qo<|qc<|qb J<|qa<|qh<|qc<|q0 J<|Qy J<|q0 J<|qa ?_
 obtain ⟨t,v,g⟩:=q9 g
 refine Qm (fun n=>n = t) (fun (n : Int)=>⟨[(5,q6 n)],[],0⟩) qf ?_ ?_
 ·refine Qf (q3z f) (fun (j : Int × Int)=>⟨[(0,.d (.sl 6 (f.map Q6))),(5,q6 j.1),(18,.d (.sl 6 (f.map Q6))),(19,q6 (f.length : Int)),(20,q6 j.2)],[],0⟩) (0,0) t v (wkA [] [] []) ?_
  intro j ae l
  unfold q3z at l
  refine qc<|O (.d (.bool (decide (j.2 < (f.length : Int))))) J<|qa<|qh ?_
  refine qp J l (fun _ l=>?_) (fun _ l=>?_)
  ·refine qo<|qh ?_
   obtain ⟨w,k,l⟩:=q9 l
   refine Qm (fun o=>o = w) (fun (o : Int)=>⟨[(0,.d (.sl 6 (f.map Q6))),(5,q6 o),(18,.d (.sl 6 (f.map Q6))),(19,q6 (f.length : Int)),(20,q6 j.2)],[],0⟩) qf ?_ ?_
   ·refine qc<|q0 J ?_
    obtain ⟨b,x,k⟩:=q9 k
    refine Qz (enc:=Q6) x J<|O (.d (.agg [G b.Lo.X,G b.Lo.Y,G b.Lo.Z,G b.Hi.X,G b.Hi.Y,G b.Hi.Z])) J<|Qe J J<|qb J<|qz 0 (.dat 6 [[G b.Lo.X,G b.Lo.Y,G b.Lo.Z,G b.Hi.X,G b.Hi.Y,G b.Hi.Z]]) J<|qs<|O (.d (.agg [G b.Lo.X,G b.Lo.Y,G b.Lo.Z,G b.Hi.X,G b.Hi.Y,G b.Hi.Z])) J ?_
    obtain ⟨a,y,k⟩:=q9 k
    refine Q5 (qly b a y) J<|q0 J<|O (q6 a.1) J<|O (q6 a.2.1) J<|O (q6 a.2.2) J<|qb J<|qb J<|qb J<|qs<|q0 J<|q0 J<|q0 J<|O (.d (G (w64 (a.1 * a.2.1)))) J<|q0 J<|q0 J<|O (.d (G (w64 (a.1 * a.2.2)))) J<|O (.d (G (w64 ((w64 (a.1 * a.2.1)) + (w64 (a.1 * a.2.2)))))) J<|q0 J<|q0 J<|O (.d (G (w64 (a.2.1 * a.2.2)))) J<|O (.d (G (w64 ((w64 ((w64 (a.1 * a.2.1)) + (w64 (a.1 * a.2.2)))) + (w64 (a.2.1 * a.2.2)))))) J<|O (.d (G (w64 (2 * (w64 ((w64 ((w64 (a.1 * a.2.1)) + (w64 (a.1 * a.2.2)))) + (w64 (a.2.1 * a.2.2)))))))) J<|O (.d (G (w64 (j.1 + (w64 (2 * (w64 ((w64 ((w64 (a.1 * a.2.1)) + (w64 (a.1 * a.2.2)))) + (w64 (a.2.1 * a.2.2)))))))))) J<|qb J<|qs<|q0 J<|q0 J ?_
    obtain ⟨p,z,k⟩:=q9 k
    refine qs4 (enc:=Q6) z J J J J J (fun _=>rfl) (qa2 J)<|Qy J<|q0 J<|qa ?_
    obtain ⟨aa,ab,k⟩:=q9 k
    refine Q1<|Qf (q40 p b) (fun (m : Int × Int)=>⟨[(0,.d (.sl 6 (f.map Q6))),(5,q6 m.1),(7,.ref 0 6 0 0),(18,.d (.sl 6 (f.map Q6))),(19,q6 (f.length : Int)),(20,q6 j.2),(47,.d (.sl 6 (p.map Q6))),(48,q6 (p.length : Int)),(49,q6 m.2)],[(0,.dat 6 [[G b.Lo.X,G b.Lo.Y,G b.Lo.Z,G b.Hi.X,G b.Hi.Y,G b.Hi.Z]])],1⟩) (w64 (j.1 + (w64 (2 * (w64 ((w64 ((w64 (a.1 * a.2.1)) + (w64 (a.1 * a.2.2)))) + (w64 (a.2.1 * a.2.2))))))),0) aa ab (wkA [(0,0)] [] []) ?_
    intro m af h
    unfold q40 at h
    refine qc<|O (.d (.bool (decide (m.2 < (p.length : Int))))) J<|qa<|qh ?_
    refine qp J h (fun _ h=>?_) (fun _ h=>?_)
    ·refine qo<|qh<|Q1<|qc ?_
     obtain ⟨c,ac,h⟩:=q9 h
     refine Qz (enc:=Q6) ac J<|O (.d (.agg [G c.Lo.X,G c.Lo.Y,G c.Lo.Z,G c.Hi.X,G c.Hi.Y,G c.Hi.Z])) J<|Qe J J<|qz 1 (.dat 6 [[G c.Lo.X,G c.Lo.Y,G c.Lo.Z,G c.Hi.X,G c.Hi.Y,G c.Hi.Z]]) J<|qa<|qy<|q0 J<|O (.d (.agg [G b.Lo.X,G b.Lo.Y,G b.Lo.Z,G b.Hi.X,G b.Hi.Y,G b.Hi.Z])) J<|O (.d (.agg [G c.Lo.X,G c.Lo.Y,G c.Lo.Z,G c.Hi.X,G c.Hi.Y,G c.Hi.Z])) J ?_
     obtain ⟨s,ad,h⟩:=q9 h
     refine Q5 (qz0 b c s ad) J<|O (.d (G (w64 (2 * s)))) J<|O (.d (G (w64 (m.1 - (w64 (2 * s)))))) J<|qb J<|qx<|Qj<|qy<|O (.d (G (w64 (m.2 + 1)))) J<|q0 J<|qx ?_
     exact ⟨_,(Option.some.inj h).symm,wkA [(0,0)] [] []⟩
    refine Qb ?_
    refine ⟨_,(Option.some.inj h).symm,fun hm=>?_⟩
    subst hm
    obtain rfl:=qe k
    exact ⟨_,J,wkA [] [] []⟩
   intro o hb
   subst hb
   refine qy<|O (.d (G (w64 (j.2 + 1)))) J<|q0 J<|qx ?_
   exact ⟨_,(Option.some.inj l).symm,wkA [] [] []⟩
  refine Qb ?_
  refine ⟨_,(Option.some.inj l).symm,fun hm=>?_⟩
  subst hm
  exact ⟨_,J,wkA [] [] []⟩
 intro n hb
 subst hb
 refine qc<|q0 J<|qb J<|qb J<|qv ?_
 obtain rfl:=qe g
 exact Q4 (.d (.tup [G n,G 0])) J
theorem qti (a : Q2) (c : Int) (r : Q2 × Int) (b : q55 a c = some r) : Pure Tryz.prog tab 16 [.agg [.int .u8 a.Frame.Turn,G a.Frame.At.X,G a.Frame.At.Y,G a.Frame.At.Z,G a.Size.X,G a.Size.Y,G a.Size.Z],G c] (.tup [.agg [.int .u8 r.1.Frame.Turn,G r.1.Frame.At.X,G r.1.Frame.At.Y,G r.1.Frame.At.Z,G r.1.Size.X,G r.1.Size.Y,G r.1.Size.Z],G r.2]):=by
 unfold q55 at b
 refine Qi Tryz.func16 J qj qj J<|qc<|Ql (.ref 0 7 0 0) (.dat 7 [[.int .u8 a.Frame.Turn,G a.Frame.At.X,G a.Frame.At.Y,G a.Frame.At.Z,G a.Size.X,G a.Size.Y,G a.Size.Z]]) J<|Qe J J<|qb J<|qa<|qh<|qc<|O (.d (.agg [.int .u8 a.Frame.Turn,G a.Frame.At.X,G a.Frame.At.Y,G a.Frame.At.Z,G a.Size.X,G a.Size.Y,G a.Size.Z])) J ?_
 obtain ⟨g,l,b⟩:=q9 b
 refine Q5 (qks a g l) J<|qb J<|qs<|q0 J<|O (qg (g != 0)) J<|qa ?_
 refine qp J b (fun _ b=>?_) (fun _ b=>?_)
 ·refine qc<|O (.d (.agg [.int .u8 0,G 0,G 0,G 0,G 0,G 0,G 0])) J<|q0 J<|qz 1 (.dat 7 [[.int .u8 0,G 0,G 0,G 0,G 0,G 0,G 0]]) J<|qb J<|qv ?_
  obtain rfl:=qe b
  exact Q4 (.d (.tup [.agg [.int .u8 0,G 0,G 0,G 0,G 0,G 0,G 0],G g])) J
 refine qo<|qh<|qc<|q0 J<|O (.d (.bool (decide (c < 0)))) J ?_
 obtain ⟨m,f,b⟩:=q9 b
 refine Q9 4 (fun A st=>∃ (h j k : V),st = A [(18,qg m),(17,k),(16,j),(15,h)]) ?_ ?_
 ·refine Q8 J J f (fun f=>?_) (fun f=>?_)
  ·refine qd J<|qd J<|O (qg true) J<|qa ?_
   obtain rfl:=qe f
   exact ⟨_,_,_,J⟩
  refine q0 J<|O (.d (.bool (decide (c > 1000000)))) J<|O (.d (.bool (decide (c > 1000000)))) J<|qa ?_
  obtain rfl:=qe f
  exact ⟨_,_,_,J⟩
 rintro _ ⟨h,j,k,rfl⟩
 refine qa ?_
 refine qp J b (fun _ b=>?_) (fun _ b=>?_)
 ·refine qc<|O (.d (.agg [.int .u8 0,G 0,G 0,G 0,G 0,G 0,G 0])) J<|qz 1 (.dat 7 [[.int .u8 0,G 0,G 0,G 0,G 0,G 0,G 0]]) J<|qb J<|qv ?_
  obtain rfl:=qe b
  exact Q4 (.d (.tup [.agg [.int .u8 0,G 0,G 0,G 0,G 0,G 0,G 0],G 2])) J
 refine qo<|qc<|q0 J<|O (.ref 0 7 0 4) J<|O (.ref 0 7 0 6) J<|qz 0 (.dat 7 [[.int .u8 a.Frame.Turn,G a.Frame.At.X,G a.Frame.At.Y,G a.Frame.At.Z,G a.Size.X,G a.Size.Y,G c]]) J<|qs<|O (.d (.agg [.int .u8 a.Frame.Turn,G a.Frame.At.X,G a.Frame.At.Y,G a.Frame.At.Z,G a.Size.X,G a.Size.Y,G c])) J<|qz 1 (.dat 7 [[.int .u8 a.Frame.Turn,G a.Frame.At.X,G a.Frame.At.Y,G a.Frame.At.Z,G a.Size.X,G a.Size.Y,G c]]) J<|qb J<|qv ?_
 obtain rfl:=qe b
 exact Q4 (.d (.tup [.agg [.int .u8 a.Frame.Turn,G a.Frame.At.X,G a.Frame.At.Y,G a.Frame.At.Z,G a.Size.X,G a.Size.Y,G c],G 0])) J
theorem qz5 (p0 : List ql→List ql→Option (List ql × Int)) (f : List qk) (g : List qk) (p0F : FuncId) (p0C : List DV) (p0Ok : ∀ (x0 : List ql) (x1 : List ql) (r : List ql × Int),p0 x0 x1 = some r→Pure Tryz.prog tab p0F ([.sl 4 (x0.map qu),.sl 4 (x1.map qu)] ++ p0C) (.tup [.sl 4 (r.1.map qu),G r.2])) (r : List qk × Int) (w : q9e p0 f g = some r) : Pure Tryz.prog tab 101 [.agg [.fn p0F p0C],.sl 1 ([f,g].map Qs)] (.tup [.sl 6 (r.1.map Q6),G r.2]):=by
 unfold q9e at w
 refine Qi Tryz.func101 J qj qj J<|qc<|Ql (.ref 0 1 0 0) (.dat 1 [[.fn p0F p0C]]) J<|Qe J J<|Qe J J<|qs<|Qe J J<|qa<|qh<|qc<|q0 J ?_
 obtain ⟨bz,p,w⟩:=q9 w
 refine q2i [.d (.sl 1 ([f,g].map Qs))] (fun j=>j = bz) (fun (j : List Int)=>⟨[(2,.ref 0 1 0 0),(4,.ref 1 1 0 0),(5,.ref 2 1 0 0),(6,.ref 3 4 0 0),(14,.fn 162 [.ref 4 1 0 0,.ref 5 1 0 0])],[(0,.dat 1 [[.fn p0F p0C]]),(1,.dat 1 [[.nilsl]]),(2,.dat 1 [[G 0]]),(3,.dat 4 [[.nilsl,.nilsl,G 0,G 0]]),(4,.cel 1 [[.d (.sl 1 (j.map (eI .i64)))]]),(5,.dat 1 [[.sl 1 ([f,g].map Qs)]])],6⟩) J J Tryz.func141 J qj qj J ?_ ?_
 ·refine qc<|Ql (.ref 4 1 0 0) (.dat 1 [[.sl 1 ([f,g].map Qs)]]) J<|qb J<|qs<|Qe J J<|qa<|qh<|qc<|O (.d (.sl 1 ([f,g].map Qs))) J<|q4y 2 J J J J J<|q0 J<|qa<|Q1<|Ya<|qc<|O (qg true) J<|qa<|qh<|Z7 J<|qo<|qh ?_
  obtain ⟨ca,ar,p⟩:=q9 p
  refine Qm (fun an=>an = ca) (fun (an : List Int)=>⟨[(1,.ref 4 1 0 0),(3,.ref 5 1 0 0),(8,.d (.sl 1 ([f,g].map Qs))),(9,q6 2),(10,q6 0)],[(0,.dat 1 [[.fn p0F p0C]]),(1,.dat 1 [[.nilsl]]),(2,.dat 1 [[G 0]]),(3,.dat 4 [[.nilsl,.nilsl,G 0,G 0]]),(4,.dat 1 [[.sl 1 ([f,g].map Qs)]]),(5,.cel 1 [[.hs 6 1 0 an.length]]),(6,.dat 1 (an.map (eI .i64)))],7⟩) qf ?_ ?_
  ·refine qc ?_
   obtain ⟨au,cb,ar⟩:=q9 ar
   refine Qz (enc:=Qs) cb J<|O (.d (.sl 6 (au.map Q6))) J<|qb J<|qs<|q0 J<|Qy J<|q0 J<|qa ?_
   obtain ⟨cc,cd,ar⟩:=q9 ar
   refine Q1<|Qf (qbz au) (fun (af : Int × List Int)=>⟨[(1,.ref 4 1 0 0),(3,.ref 5 1 0 0),(8,.d (.sl 1 ([f,g].map Qs))),(9,q6 2),(10,q6 0),(14,.d (.sl 6 (au.map Q6))),(15,q6 (au.length : Int)),(16,q6 af.1)],[(0,.dat 1 [[.fn p0F p0C]]),(1,.dat 1 [[.nilsl]]),(2,.dat 1 [[G 0]]),(3,.dat 4 [[.nilsl,.nilsl,G 0,G 0]]),(4,.dat 1 [[.sl 1 ([f,g].map Qs)]]),(5,.cel 1 [[.hs 6 1 0 af.2.length]]),(6,.dat 1 (af.2.map (eI .i64)))],7⟩) (0,[]) cc cd (wkA [(4,4),(5,5)] [] [6]) ?_
   intro af fb aa
   unfold qbz at aa
   refine qc<|O (.d (.bool (decide (af.1 < (au.length : Int))))) J<|qa<|qh ?_
   refine qp J aa (fun _ aa=>?_) (fun _ aa=>?_)
   ·refine qo<|qh<|Q1<|qc ?_
    obtain ⟨k,ce,aa⟩:=q9 aa
    refine Qz (enc:=Q6) ce J<|O (.d (.agg [G k.Lo.X,G k.Lo.Y,G k.Lo.Z,G k.Hi.X,G k.Hi.Y,G k.Hi.Z])) J<|Qe J J<|qz 7 (.dat 6 [[G k.Lo.X,G k.Lo.Y,G k.Lo.Z,G k.Hi.X,G k.Hi.Y,G k.Hi.Z]]) J<|qa<|qy<|O (.hs 6 1 0 af.2.length) J<|O (.ref 7 6 0 0) J<|O (.ref 7 6 0 2) J<|O (q6 k.Lo.Z) J<|O (.ref 7 6 0 3) J<|O (.ref 7 6 0 5) J<|O (q6 k.Hi.Z) J<|Ql (.hs 8 1 0 [k.Lo.Z,k.Hi.Z].length) (.dat 1 ([k.Lo.Z,k.Hi.Z].map (eI .i64))) J ?_
    obtain ⟨cf,cg,aa⟩:=q9 aa
    refine Yr (xs:=af.2) (ys:=[k.Lo.Z,k.Hi.Z]) (enc:=(eI .i64)) (.hs 8 1 0 [k.Lo.Z,k.Hi.Z].length) cg J J J J J J J (Yo J J) J J J J<|qz 5 (.cel 1 [[.hs 9 1 0 cf.length]]) J<|qx<|Qj<|qy<|O (.d (G (w64 (af.1 + 1)))) J<|q0 J<|qx ?_
    exact ⟨_,(Option.some.inj aa).symm,wkA [(4,4),(5,5),(6,9)] [] []⟩
   refine Qb ?_
   refine ⟨_,(Option.some.inj aa).symm,fun hm=>?_⟩
   subst hm
   obtain rfl:=qe ar
   exact ⟨_,J,wkA [(4,4),(5,5),(6,6)] [] []⟩
  intro an hb
  subst hb
  refine qy<|O (q6 1) J<|q0 J<|qa<|Ya<|qc<|O (qg true) J<|qa<|qh<|Z7 J<|qo<|qh ?_
  obtain ⟨ch,av,p⟩:=q9 p
  refine Qm (fun t=>t = ch) (fun (t : List Int)=>⟨[(1,.ref 4 1 0 0),(3,.ref 5 1 0 0),(8,.d (.sl 1 ([f,g].map Qs))),(9,q6 2),(10,q6 1)],[(0,.dat 1 [[.fn p0F p0C]]),(1,.dat 1 [[.nilsl]]),(2,.dat 1 [[G 0]]),(3,.dat 4 [[.nilsl,.nilsl,G 0,G 0]]),(4,.dat 1 [[.sl 1 ([f,g].map Qs)]]),(5,.cel 1 [[.hs 6 1 0 t.length]]),(6,.dat 1 (t.map (eI .i64)))],7⟩) qf ?_ ?_
  ·refine qc ?_
   obtain ⟨aw,ci,av⟩:=q9 av
   refine Qz (enc:=Qs) ci J<|O (.d (.sl 6 (aw.map Q6))) J<|qb J<|qs<|q0 J<|Qy J<|q0 J<|qa ?_
   obtain ⟨cj,ck,av⟩:=q9 av
   refine Q1<|Qf (qc0 aw) (fun (ag : Int × List Int)=>⟨[(1,.ref 4 1 0 0),(3,.ref 5 1 0 0),(8,.d (.sl 1 ([f,g].map Qs))),(9,q6 2),(10,q6 1),(14,.d (.sl 6 (aw.map Q6))),(15,q6 (aw.length : Int)),(16,q6 ag.1)],[(0,.dat 1 [[.fn p0F p0C]]),(1,.dat 1 [[.nilsl]]),(2,.dat 1 [[G 0]]),(3,.dat 4 [[.nilsl,.nilsl,G 0,G 0]]),(4,.dat 1 [[.sl 1 ([f,g].map Qs)]]),(5,.cel 1 [[.hs 6 1 0 ag.2.length]]),(6,.dat 1 (ag.2.map (eI .i64)))],7⟩) (0,an) cj ck (wkA [(4,4),(5,5),(6,6)] [] []) ?_
   intro ag fc ab
   unfold qc0 at ab
   refine qc<|O (.d (.bool (decide (ag.1 < (aw.length : Int))))) J<|qa<|qh ?_
   refine qp J ab (fun _ ab=>?_) (fun _ ab=>?_)
   ·refine qo<|qh<|Q1<|qc ?_
    obtain ⟨l,cl,ab⟩:=q9 ab
    refine Qz (enc:=Q6) cl J<|O (.d (.agg [G l.Lo.X,G l.Lo.Y,G l.Lo.Z,G l.Hi.X,G l.Hi.Y,G l.Hi.Z])) J<|Qe J J<|qz 7 (.dat 6 [[G l.Lo.X,G l.Lo.Y,G l.Lo.Z,G l.Hi.X,G l.Hi.Y,G l.Hi.Z]]) J<|qa<|qy<|O (.hs 6 1 0 ag.2.length) J<|O (.ref 7 6 0 0) J<|O (.ref 7 6 0 2) J<|O (q6 l.Lo.Z) J<|O (.ref 7 6 0 3) J<|O (.ref 7 6 0 5) J<|O (q6 l.Hi.Z) J<|Ql (.hs 8 1 0 [l.Lo.Z,l.Hi.Z].length) (.dat 1 ([l.Lo.Z,l.Hi.Z].map (eI .i64))) J ?_
    obtain ⟨cm,cn,ab⟩:=q9 ab
    refine Yr (xs:=ag.2) (ys:=[l.Lo.Z,l.Hi.Z]) (enc:=(eI .i64)) (.hs 8 1 0 [l.Lo.Z,l.Hi.Z].length) cn J J J J J J J (Yo J J) J J J J<|qz 5 (.cel 1 [[.hs 9 1 0 cm.length]]) J<|qx<|Qj<|qy<|O (.d (G (w64 (ag.1 + 1)))) J<|q0 J<|qx ?_
    exact ⟨_,(Option.some.inj ab).symm,wkA [(4,4),(5,5),(6,9)] [] []⟩
   refine Qb ?_
   refine ⟨_,(Option.some.inj ab).symm,fun hm=>?_⟩
   subst hm
   obtain rfl:=qe av
   exact ⟨_,J,wkA [(4,4),(5,5),(6,6)] [] []⟩
  intro t hb
  subst hb
  refine qy<|O (q6 2) J<|q0 J<|qa<|Ya<|qc<|O (qg false) J<|qa<|qh<|Z6 J<|Qb<|Ji<|qc<|O (.hs 6 1 0 t.length) J ?_
  obtain ⟨bf,co,p⟩:=q9 p
  obtain ⟨fd,cp,p⟩:=q9 p
  have cq:=Kd cp
  refine K2 [(0,6)] [(0,1),(1,1),(2,1),(3,1),(4,1),(5,1),(6,0)] [.hs 6 1 0 t.length] (.d (.tup [])) 1 [(6,.dat 1 (bf.map (eI .i64))),(0,.dat 1 [[.fn p0F p0C]]),(1,.dat 1 [[.nilsl]]),(2,.dat 1 [[G 0]]),(3,.dat 4 [[.nilsl,.nilsl,G 0,G 0]]),(4,.dat 1 [[.sl 1 ([f,g].map Qs)]]),(5,.cel 1 [[.hs 6 1 0 t.length]])] 7 (qbv t bf co)<|qs<|O (.hs 6 1 0 t.length) J ?_
  obtain ⟨ak,cr,p⟩:=q9 p
  obtain ⟨fe,cs,p⟩:=q9 p
  have ff:=Kd cs
  obtain ⟨fg,ct,p⟩:=q9 p
  have cu:=qcg ct
  refine Jq [(0,6)] [(0,1),(1,1),(2,1),(3,1),(4,1),(5,1),(6,0)] [.hs 6 1 0 t.length] (.hs 6 1 ak.1.1 ak.1.2) [(6,.dat 1 (ak.2.map (eI .i64)))] [(6,.dat 1 (ak.2.map (eI .i64))),(0,.dat 1 [[.fn p0F p0C]]),(1,.dat 1 [[.nilsl]]),(2,.dat 1 [[G 0]]),(3,.dat 4 [[.nilsl,.nilsl,G 0,G 0]]),(4,.dat 1 [[.sl 1 ([f,g].map Qs)]]),(5,.cel 1 [[.hs 6 1 0 t.length]])] 7 (qbm bf ak cr) J J J (Y4 [(0,6)] [] [] J ⟨⟨_,J,Qx (by simp [cq]) J qt (ltd J)⟩,trivial⟩ ⟨Qg J J,trivial⟩) (Y4 [(0,1),(1,1),(2,1),(3,1),(4,1),(5,1),(6,0)] [] [] J ⟨⟨_,J,.hs J qt (ltd J)⟩,trivial⟩ ⟨Qg J J,trivial⟩) J ⟨.inl J,.inr ⟨J,J⟩,.inr ⟨J,J⟩,.inr ⟨J,J⟩,.inr ⟨J,J⟩,.inr ⟨J,J⟩,.inr ⟨J,J⟩,trivial⟩<|qz 5 (.cel 1 [[.hs 6 1 ak.1.1 ak.1.2]]) J<|qs<|O (.fn 162 [.ref 5 1 0 0,.ref 4 1 0 0]) J<|qb J<|qv ?_
  refine ⟨.inr J,_,J,?_⟩
  obtain rfl:=qe p
  exact ⟨_,J,wkE [(0,0),(1,1),(2,2),(3,3),(4,5),(5,4)] [6] [] J ⟨⟨_,J,.ref J qt (ltd J)⟩,⟨_,J,.ref J qt (ltd J)⟩,⟨_,J,.ref J qt (ltd J)⟩,⟨_,J,.ref J qt (ltd J)⟩,⟨_,J,(q1u (.cons (.ref J qt (ltd J)) (.cons (.ref J qt (ltd J)) .nil)))⟩,trivial⟩ ⟨Qg J J,Qg J J,Qg J J,Qg J J,⟨ltd J,.inr ⟨qt,_,J,Zt (.cons (qci cu J qt) J .nil)⟩⟩,Qg J J,trivial⟩⟩
 intro j hb
 subst hb
 refine qa<|Q1 ?_
 obtain ⟨cv,bd,w⟩:=q9 w
 refine q88 (fun q=>.inl q = cv) (fun (q : List ql × Int × Int × List qk)=>⟨[(4,.ref 0 1 0 0),(5,.ref 1 1 0 0),(6,.ref 2 4 0 0)],[(0,.dat 1 [[.nilsl]]),(1,.dat 1 [[G 0]]),(2,.cel 4 [[.hs 3 6 0 q.2.2.2.length,.d (.sl 4 (q.1.map qu)),q6 q.2.1,q6 q.2.2.1]]),(3,.dat 6 (q.2.2.2.map Q6))],4⟩) ?_ ?_
 ·refine Yj (st':=⟨[(2,.ref 0 1 0 0),(4,.ref 1 1 0 0),(5,.ref 2 1 0 0),(6,.ref 3 4 0 0),(14,.fn 162 [.ref 4 1 0 0,.ref 5 1 0 0])],[(0,.dat 1 [[.fn p0F p0C]]),(1,.dat 1 [[.nilsl]]),(2,.dat 1 [[G 0]]),(3,.dat 4 [[.nilsl,.nilsl,G 0,G 0]]),(4,.cel 1 [[.d (.sl 1 (j.map (eI .i64)))]]),(5,.dat 1 [[.sl 1 ([f,g].map Qs)]])],6⟩) (wkA [(0,0),(1,1),(2,2),(3,3),(4,4),(5,5)] [] []) ?_ qf
  refine q89 [.ref 4 1 0 0,.ref 5 1 0 0] (.inl J) Tryz.func162 J qj qj J ?_
  intro A1597 B1598 hA1597 hB1598
  refine qc<|qb J<|qa ?_
  obtain ⟨cw,cx,bd⟩:=q9 bd
  refine Q1<|Qf (q41 j f g p0) (fun (a : Int × List ql × Int × Int × List qk)=>⟨[(0,.yld 6),(1,.ref 4 1 0 0),(2,.ref 5 1 0 0),(4,q6 a.1)],[(0,.dat 1 [[.fn p0F p0C]]),(1,.dat 1 [[.nilsl]]),(2,.dat 1 [[G 0]]),(3,.cel 4 [[.hs 7 6 0 a.2.2.2.2.length,.d (.sl 4 (a.2.1.map qu)),q6 a.2.2.1,q6 a.2.2.2.1]]),(4,.cel 1 [[.d (.sl 1 (j.map (eI .i64)))]]),(5,.dat 1 [[.sl 1 ([f,g].map Qs)]]),(6,.loop [(2,.ref 0 1 0 0),(4,.ref 1 1 0 0),(5,.ref 2 1 0 0),(6,.ref 3 4 0 0),(14,.fn 162 [.ref 4 1 0 0,.ref 5 1 0 0])] [15] A1597 B1598 .ready none),(7,.dat 6 (a.2.2.2.2.map Q6))],8⟩) (1,[],0,0,[]) cw cx (wkA [] [] [7]) ?_
  intro a fh o
  unfold q41 at o
  refine qh<|qc<|q0 J<|O (.d (.sl 1 (j.map (eI .i64)))) J<|Qy J<|O (.d (.bool (decide (a.1 < (j.length : Int))))) J<|qa ?_
  refine qp J o (fun _ o=>?_) (fun _ o=>?_)
  ·refine qo<|qh<|Q1<|qh<|Qd [Qh 9,(some [],[9]),q8,(some [],[8]),q8,qr 5,q8,q8,q8,qr 4,q8,q8,q8,q8,qr 4] qj<|O (.d (.sl 1 (j.map (eI .i64)))) J<|q0 J<|O (.d (G (w64 (a.1 - 1)))) J ?_
   obtain ⟨h,cy,o⟩:=q9 o
   refine Qz (enc:=(eI .i64)) cy J<|O (q6 h) J<|O (.d (.sl 1 (j.map (eI .i64)))) J<|q0 J ?_
   obtain ⟨m,cz,o⟩:=q9 o
   refine Qz (enc:=(eI .i64)) cz J<|O (q6 m) J<|O (.d (.sl 1 ([f,g].map Qs))) J<|q4y 2 J J J J J<|Ql (.hs 8 1 0 2) (.dat 1 [[.nilsl],[.nilsl]]) J<|O (.agg [q6 h,q6 m,.hs 8 1 0 2]) J<|Qe J J<|qz 9 (.cel 3 [[q6 h,q6 m,.hs 8 1 0 2]]) J<|qa<|qh<|qc<|O (.d (.sl 1 ([f,g].map Qs))) J<|q4y 2 J J J J J<|q0 J<|qa<|Q1<|Ya<|qc<|O (qg true) J<|qa<|qh<|Z7 J<|qo<|qh ?_
   obtain ⟨da,ax,o⟩:=q9 o
   refine Qm (fun n=>n = da) (fun (n : List ql)=>⟨[(0,.yld 6),(1,.ref 4 1 0 0),(2,.ref 5 1 0 0),(4,q6 a.1),(5,.ref 7 3 0 0),(29,.d (.sl 1 ([f,g].map Qs))),(30,q6 2),(31,q6 0)],[(0,.dat 1 [[.fn p0F p0C]]),(1,.dat 1 [[.nilsl]]),(2,.dat 1 [[G 0]]),(3,.cel 4 [[.hs 8 6 0 a.2.2.2.2.length,.d (.sl 4 (a.2.1.map qu)),q6 a.2.2.1,q6 a.2.2.2.1]]),(4,.cel 1 [[.d (.sl 1 (j.map (eI .i64)))]]),(5,.dat 1 [[.sl 1 ([f,g].map Qs)]]),(6,.loop [(2,.ref 0 1 0 0),(4,.ref 1 1 0 0),(5,.ref 2 1 0 0),(6,.ref 3 4 0 0),(14,.fn 162 [.ref 4 1 0 0,.ref 5 1 0 0])] [15] A1597 B1598 .ready none),(7,.cel 3 [[q6 h,q6 m,.hs 9 1 0 2]]),(8,.dat 6 (a.2.2.2.2.map Q6)),(9,.cel 1 [[.hs 10 4 0 n.length],[.d (.nilsl)]]),(10,.dat 4 (n.map qu))],11⟩) qf ?_ ?_
   ·refine qc<|q0 J ?_
    obtain ⟨al,dc,ax⟩:=q9 ax
    refine Qz (enc:=Qs) dc J<|O (.d (.sl 6 (al.map Q6))) J<|qb J<|qb J<|qs<|q0 J<|Qy J<|q0 J<|qa ?_
    obtain ⟨dd,de,ax⟩:=q9 ax
    refine Q1<|Qf (qc1 al h) (fun (ad : Int × List ql)=>⟨[(0,.yld 6),(1,.ref 4 1 0 0),(2,.ref 5 1 0 0),(4,q6 a.1),(5,.ref 7 3 0 0),(6,q6 0),(29,.d (.sl 1 ([f,g].map Qs))),(30,q6 2),(31,q6 0),(36,.d (.sl 6 (al.map Q6))),(37,q6 (al.length : Int)),(38,q6 ad.1)],[(0,.dat 1 [[.fn p0F p0C]]),(1,.dat 1 [[.nilsl]]),(2,.dat 1 [[G 0]]),(3,.cel 4 [[.hs 8 6 0 a.2.2.2.2.length,.d (.sl 4 (a.2.1.map qu)),q6 a.2.2.1,q6 a.2.2.2.1]]),(4,.cel 1 [[.d (.sl 1 (j.map (eI .i64)))]]),(5,.dat 1 [[.sl 1 ([f,g].map Qs)]]),(6,.loop [(2,.ref 0 1 0 0),(4,.ref 1 1 0 0),(5,.ref 2 1 0 0),(6,.ref 3 4 0 0),(14,.fn 162 [.ref 4 1 0 0,.ref 5 1 0 0])] [15] A1597 B1598 .ready none),(7,.cel 3 [[q6 h,q6 m,.hs 9 1 0 2]]),(8,.dat 6 (a.2.2.2.2.map Q6)),(9,.cel 1 [[.hs 10 4 0 ad.2.length],[.d (.nilsl)]]),(10,.dat 4 (ad.2.map qu))],11⟩) (0,[]) dd de (wkA [(7,9),(8,7),(9,8)] [] [10]) ?_
    intro ad fi ah
    unfold qc1 at ah
    refine qc<|O (.d (.bool (decide (ad.1 < (al.length : Int))))) J<|qa<|qh ?_
    refine qp J ah (fun _ ah=>?_) (fun _ ah=>?_)
    ·refine qo<|qh ?_
     obtain ⟨df,x,ah⟩:=q9 ah
     refine Qm (fun ay=>ay = df) (fun (ay : List ql)=>⟨[(0,.yld 6),(1,.ref 4 1 0 0),(2,.ref 5 1 0 0),(4,q6 a.1),(5,.ref 7 3 0 0),(6,q6 0),(29,.d (.sl 1 ([f,g].map Qs))),(30,q6 2),(31,q6 0),(36,.d (.sl 6 (al.map Q6))),(37,q6 (al.length : Int)),(38,q6 ad.1)],[(0,.dat 1 [[.fn p0F p0C]]),(1,.dat 1 [[.nilsl]]),(2,.dat 1 [[G 0]]),(3,.cel 4 [[.hs 8 6 0 a.2.2.2.2.length,.d (.sl 4 (a.2.1.map qu)),q6 a.2.2.1,q6 a.2.2.2.1]]),(4,.cel 1 [[.d (.sl 1 (j.map (eI .i64)))]]),(5,.dat 1 [[.sl 1 ([f,g].map Qs)]]),(6,.loop [(2,.ref 0 1 0 0),(4,.ref 1 1 0 0),(5,.ref 2 1 0 0),(6,.ref 3 4 0 0),(14,.fn 162 [.ref 4 1 0 0,.ref 5 1 0 0])] [15] A1597 B1598 .ready none),(7,.cel 3 [[q6 h,q6 m,.hs 9 1 0 2]]),(8,.dat 6 (a.2.2.2.2.map Q6)),(9,.cel 1 [[.hs 10 4 0 ay.length],[.d (.nilsl)]]),(10,.dat 4 (ay.map qu))],11⟩) qf ?_ ?_
     ·refine qc ?_
      obtain ⟨b,dg,x⟩:=q9 x
      refine Qz (enc:=Q6) dg J<|O (.d (.agg [G b.Lo.X,G b.Lo.Y,G b.Lo.Z,G b.Hi.X,G b.Hi.Y,G b.Hi.Z])) J<|Qe J J<|qz 11 (.dat 6 [[G b.Lo.X,G b.Lo.Y,G b.Lo.Z,G b.Hi.X,G b.Hi.Y,G b.Hi.Z]]) J<|qs<|O (.ref 11 6 0 0) J<|O (.ref 11 6 0 2) J<|O (q6 b.Lo.Z) J<|O (.ref 7 3 0 0) J<|O (q6 h) J<|O (.d (.bool (decide (b.Lo.Z≤h)))) J ?_
      obtain ⟨dh,az,x⟩:=q9 x
      refine Q9 8 (fun A st=>∃ (bj bk bl bm bn bo bp : V),st = A [(55,qg dh),(54,bp),(53,bo),(52,bn),(51,bm),(50,bl),(49,bk),(48,bj)]) ?_ ?_
      ·refine Q8 J J az (fun az=>?_) (fun az=>?_)
       ·refine O (.ref 7 3 0 0) J<|O (q6 h) J<|O (.ref 11 6 0 3) J<|O (.ref 11 6 0 5) J<|O (q6 b.Hi.Z) J<|O (.d (.bool (decide (h < b.Hi.Z)))) J<|O (.d (.bool (decide (h < b.Hi.Z)))) J<|qa ?_
        obtain rfl:=qe az
        exact ⟨_,_,_,_,_,_,_,J⟩
       refine qd J<|qd J<|qd J<|qd J<|qd J<|qd J<|O (qg false) J<|qa ?_
       obtain rfl:=qe az
       exact ⟨_,_,_,_,_,_,_,J⟩
      rintro _ ⟨bj,bk,bl,bm,bn,bo,bp,rfl⟩
      refine qa ?_
      refine qp J x (fun _ x=>?_) (fun _ x=>?_)
      ·refine Qd [Qh 9,q8,(some [10,12],[10,13]),(some [],[12]),q8,qr 11,q8,q8,qr 11,q8,q8,qr 11,q8,q8,qr 11,q8,q8,qr 9,q8,q8,qr 7,q8,q8,qr 7,q8] qj<|O (.ref 7 3 0 2) J<|O (.hs 9 1 0 2) J<|q0 J<|O (.ref 7 3 0 2) J<|O (.hs 9 1 0 2) J<|q0 J<|O (.ref 9 1 0 0) J<|O (.hs 10 4 0 ad.2.length) J<|O (.ref 11 6 0 0) J<|O (.ref 11 6 0 0) J<|O (q6 b.Lo.X) J<|O (.ref 11 6 0 0) J<|O (.ref 11 6 0 1) J<|O (q6 b.Lo.Y) J<|O (.ref 11 6 0 3) J<|O (.ref 11 6 0 3) J<|O (q6 b.Hi.X) J<|O (.ref 11 6 0 3) J<|O (.ref 11 6 0 4) J<|O (q6 b.Hi.Y) J<|O (.d (.agg [G b.Lo.X,G b.Lo.Y,G b.Hi.X,G b.Hi.Y])) J<|Ql (.hs 12 4 0 [({X0:=b.Lo.X,Y0:=b.Lo.Y,X1:=b.Hi.X,Y1:=b.Hi.Y} : ql)].length) (.dat 4 ([({X0:=b.Lo.X,Y0:=b.Lo.Y,X1:=b.Hi.X,Y1:=b.Hi.Y} : ql)].map qu)) J ?_
       obtain ⟨dj,dk,x⟩:=q9 x
       refine Yr (xs:=ad.2) (ys:=[({X0:=b.Lo.X,Y0:=b.Lo.Y,X1:=b.Hi.X,Y1:=b.Hi.Y} : ql)]) (enc:=qu) (.hs 12 4 0 [({X0:=b.Lo.X,Y0:=b.Lo.Y,X1:=b.Hi.X,Y1:=b.Hi.Y} : ql)].length) dk J J J J J J J (Yo J J) J J J J<|O (.ref 9 1 0 0) J<|qz 9 (.cel 1 [[.hs 13 4 0 dj.length],[.d (.nilsl)]]) J<|qx ?_
       obtain rfl:=qe x
       exact ⟨_,J,wkA [(7,7),(8,8),(9,9),(10,13)] [] []⟩
      refine qo<|Qc ?_
      obtain rfl:=qe x
      exact ⟨_,J,wkA [(7,7),(8,8),(9,9),(10,10)] [] []⟩
     intro ay hb
     subst hb
     refine qy<|O (.d (G (w64 (ad.1 + 1)))) J<|q0 J<|qx ?_
     exact ⟨_,(Option.some.inj ah).symm,wkA [(7,7),(8,8),(9,9),(10,10)] [] []⟩
    refine Qb ?_
    refine ⟨_,(Option.some.inj ah).symm,fun hm=>?_⟩
    subst hm
    obtain rfl:=qe ax
    exact ⟨_,J,wkA [(7,7),(8,8),(9,9),(10,10)] [] []⟩
   intro n hb
   subst hb
   refine qy<|O (q6 1) J<|q0 J<|qa<|Ya<|qc<|O (qg true) J<|qa<|qh<|Z7 J<|qo<|qh ?_
   obtain ⟨dl,ba,o⟩:=q9 o
   refine Qm (fun u=>u = dl) (fun (u : List ql)=>⟨[(0,.yld 6),(1,.ref 4 1 0 0),(2,.ref 5 1 0 0),(4,q6 a.1),(5,.ref 7 3 0 0),(29,.d (.sl 1 ([f,g].map Qs))),(30,q6 2),(31,q6 1)],[(0,.dat 1 [[.fn p0F p0C]]),(1,.dat 1 [[.nilsl]]),(2,.dat 1 [[G 0]]),(3,.cel 4 [[.hs 8 6 0 a.2.2.2.2.length,.d (.sl 4 (a.2.1.map qu)),q6 a.2.2.1,q6 a.2.2.2.1]]),(4,.cel 1 [[.d (.sl 1 (j.map (eI .i64)))]]),(5,.dat 1 [[.sl 1 ([f,g].map Qs)]]),(6,.loop [(2,.ref 0 1 0 0),(4,.ref 1 1 0 0),(5,.ref 2 1 0 0),(6,.ref 3 4 0 0),(14,.fn 162 [.ref 4 1 0 0,.ref 5 1 0 0])] [15] A1597 B1598 .ready none),(7,.cel 3 [[q6 h,q6 m,.hs 9 1 0 2]]),(8,.dat 6 (a.2.2.2.2.map Q6)),(9,.cel 1 [[.hs 10 4 0 n.length],[.hs 11 4 0 u.length]]),(10,.dat 4 (n.map qu)),(11,.dat 4 (u.map qu))],12⟩) qf ?_ ?_
   ·refine qc<|q0 J ?_
    obtain ⟨am,dm,ba⟩:=q9 ba
    refine Qz (enc:=Qs) dm J<|O (.d (.sl 6 (am.map Q6))) J<|qb J<|qb J<|qs<|q0 J<|Qy J<|q0 J<|qa ?_
    obtain ⟨dn,dp,ba⟩:=q9 ba
    refine Q1<|Qf (qc2 am h) (fun (ae : Int × List ql)=>⟨[(0,.yld 6),(1,.ref 4 1 0 0),(2,.ref 5 1 0 0),(4,q6 a.1),(5,.ref 7 3 0 0),(6,q6 1),(29,.d (.sl 1 ([f,g].map Qs))),(30,q6 2),(31,q6 1),(36,.d (.sl 6 (am.map Q6))),(37,q6 (am.length : Int)),(38,q6 ae.1)],[(0,.dat 1 [[.fn p0F p0C]]),(1,.dat 1 [[.nilsl]]),(2,.dat 1 [[G 0]]),(3,.cel 4 [[.hs 8 6 0 a.2.2.2.2.length,.d (.sl 4 (a.2.1.map qu)),q6 a.2.2.1,q6 a.2.2.2.1]]),(4,.cel 1 [[.d (.sl 1 (j.map (eI .i64)))]]),(5,.dat 1 [[.sl 1 ([f,g].map Qs)]]),(6,.loop [(2,.ref 0 1 0 0),(4,.ref 1 1 0 0),(5,.ref 2 1 0 0),(6,.ref 3 4 0 0),(14,.fn 162 [.ref 4 1 0 0,.ref 5 1 0 0])] [15] A1597 B1598 .ready none),(7,.cel 3 [[q6 h,q6 m,.hs 9 1 0 2]]),(8,.dat 6 (a.2.2.2.2.map Q6)),(9,.cel 1 [[.hs 10 4 0 n.length],[.hs 11 4 0 ae.2.length]]),(10,.dat 4 (n.map qu)),(11,.dat 4 (ae.2.map qu))],12⟩) (0,[]) dn dp (wkA [(7,7),(8,8),(9,9),(10,10)] [] [11]) ?_
    intro ae fj ai
    unfold qc2 at ai
    refine qc<|O (.d (.bool (decide (ae.1 < (am.length : Int))))) J<|qa<|qh ?_
    refine qp J ai (fun _ ai=>?_) (fun _ ai=>?_)
    ·refine qo<|qh ?_
     obtain ⟨dq,y,ai⟩:=q9 ai
     refine Qm (fun bb=>bb = dq) (fun (bb : List ql)=>⟨[(0,.yld 6),(1,.ref 4 1 0 0),(2,.ref 5 1 0 0),(4,q6 a.1),(5,.ref 7 3 0 0),(6,q6 1),(29,.d (.sl 1 ([f,g].map Qs))),(30,q6 2),(31,q6 1),(36,.d (.sl 6 (am.map Q6))),(37,q6 (am.length : Int)),(38,q6 ae.1)],[(0,.dat 1 [[.fn p0F p0C]]),(1,.dat 1 [[.nilsl]]),(2,.dat 1 [[G 0]]),(3,.cel 4 [[.hs 8 6 0 a.2.2.2.2.length,.d (.sl 4 (a.2.1.map qu)),q6 a.2.2.1,q6 a.2.2.2.1]]),(4,.cel 1 [[.d (.sl 1 (j.map (eI .i64)))]]),(5,.dat 1 [[.sl 1 ([f,g].map Qs)]]),(6,.loop [(2,.ref 0 1 0 0),(4,.ref 1 1 0 0),(5,.ref 2 1 0 0),(6,.ref 3 4 0 0),(14,.fn 162 [.ref 4 1 0 0,.ref 5 1 0 0])] [15] A1597 B1598 .ready none),(7,.cel 3 [[q6 h,q6 m,.hs 9 1 0 2]]),(8,.dat 6 (a.2.2.2.2.map Q6)),(9,.cel 1 [[.hs 10 4 0 n.length],[.hs 11 4 0 bb.length]]),(10,.dat 4 (n.map qu)),(11,.dat 4 (bb.map qu))],12⟩) qf ?_ ?_
     ·refine qc ?_
      obtain ⟨c,dr,y⟩:=q9 y
      refine Qz (enc:=Q6) dr J<|O (.d (.agg [G c.Lo.X,G c.Lo.Y,G c.Lo.Z,G c.Hi.X,G c.Hi.Y,G c.Hi.Z])) J<|Qe J J<|qz 12 (.dat 6 [[G c.Lo.X,G c.Lo.Y,G c.Lo.Z,G c.Hi.X,G c.Hi.Y,G c.Hi.Z]]) J<|qs<|O (.ref 12 6 0 0) J<|O (.ref 12 6 0 2) J<|O (q6 c.Lo.Z) J<|O (.ref 7 3 0 0) J<|O (q6 h) J<|O (.d (.bool (decide (c.Lo.Z≤h)))) J ?_
      obtain ⟨ds,bc,y⟩:=q9 y
      refine Q9 8 (fun A st=>∃ (bq br bs bt bu bv bw : V),st = A [(55,qg ds),(54,bw),(53,bv),(52,bu),(51,bt),(50,bs),(49,br),(48,bq)]) ?_ ?_
      ·refine Q8 J J bc (fun bc=>?_) (fun bc=>?_)
       ·refine O (.ref 7 3 0 0) J<|O (q6 h) J<|O (.ref 12 6 0 3) J<|O (.ref 12 6 0 5) J<|O (q6 c.Hi.Z) J<|O (.d (.bool (decide (h < c.Hi.Z)))) J<|O (.d (.bool (decide (h < c.Hi.Z)))) J<|qa ?_
        obtain rfl:=qe bc
        exact ⟨_,_,_,_,_,_,_,J⟩
       refine qd J<|qd J<|qd J<|qd J<|qd J<|qd J<|O (qg false) J<|qa ?_
       obtain rfl:=qe bc
       exact ⟨_,_,_,_,_,_,_,J⟩
      rintro _ ⟨bq,br,bs,bt,bu,bv,bw,rfl⟩
      refine qa ?_
      refine qp J y (fun _ y=>?_) (fun _ y=>?_)
      ·refine Qd [Qh 9,q8,(some [11,13],[11,14]),(some [],[13]),q8,qr 12,q8,q8,qr 12,q8,q8,qr 12,q8,q8,qr 12,q8,q8,qr 9,q8,q8,qr 7,q8,q8,qr 7,q8] qj<|O (.ref 7 3 0 2) J<|O (.hs 9 1 0 2) J<|q0 J<|O (.ref 7 3 0 2) J<|O (.hs 9 1 0 2) J<|q0 J<|O (.ref 9 1 1 0) J<|O (.hs 11 4 0 ae.2.length) J<|O (.ref 12 6 0 0) J<|O (.ref 12 6 0 0) J<|O (q6 c.Lo.X) J<|O (.ref 12 6 0 0) J<|O (.ref 12 6 0 1) J<|O (q6 c.Lo.Y) J<|O (.ref 12 6 0 3) J<|O (.ref 12 6 0 3) J<|O (q6 c.Hi.X) J<|O (.ref 12 6 0 3) J<|O (.ref 12 6 0 4) J<|O (q6 c.Hi.Y) J<|O (.d (.agg [G c.Lo.X,G c.Lo.Y,G c.Hi.X,G c.Hi.Y])) J<|Ql (.hs 13 4 0 [({X0:=c.Lo.X,Y0:=c.Lo.Y,X1:=c.Hi.X,Y1:=c.Hi.Y} : ql)].length) (.dat 4 ([({X0:=c.Lo.X,Y0:=c.Lo.Y,X1:=c.Hi.X,Y1:=c.Hi.Y} : ql)].map qu)) J ?_
       obtain ⟨dt,du,y⟩:=q9 y
       refine Yr (xs:=ae.2) (ys:=[({X0:=c.Lo.X,Y0:=c.Lo.Y,X1:=c.Hi.X,Y1:=c.Hi.Y} : ql)]) (enc:=qu) (.hs 13 4 0 [({X0:=c.Lo.X,Y0:=c.Lo.Y,X1:=c.Hi.X,Y1:=c.Hi.Y} : ql)].length) du J J J J J J J (Yo J J) J J J J<|O (.ref 9 1 1 0) J<|qz 9 (.cel 1 [[.hs 10 4 0 n.length],[.hs 14 4 0 dt.length]]) J<|qx ?_
       obtain rfl:=qe y
       exact ⟨_,J,wkA [(7,7),(8,8),(9,9),(10,10),(11,14)] [] []⟩
      refine qo<|Qc ?_
      obtain rfl:=qe y
      exact ⟨_,J,wkA [(7,7),(8,8),(9,9),(10,10),(11,11)] [] []⟩
     intro bb hb
     subst hb
     refine qy<|O (.d (G (w64 (ae.1 + 1)))) J<|q0 J<|qx ?_
     exact ⟨_,(Option.some.inj ai).symm,wkA [(7,7),(8,8),(9,9),(10,10),(11,11)] [] []⟩
    refine Qb ?_
    refine ⟨_,(Option.some.inj ai).symm,fun hm=>?_⟩
    subst hm
    obtain rfl:=qe ba
    exact ⟨_,J,wkA [(7,7),(8,8),(9,9),(10,10),(11,11)] [] []⟩
   intro u hb
   subst hb
   refine qy<|O (q6 2) J<|q0 J<|qa<|Ya<|qc<|O (qg false) J<|qa<|qh<|Z6 J<|Qb<|Ji<|qh ?_
   refine Yj (st':=⟨[(0,.yld 6),(1,.ref 4 1 0 0),(2,.ref 5 1 0 0),(4,q6 a.1),(5,.ref 7 3 0 0)],[(0,.dat 1 [[.fn p0F p0C]]),(1,.dat 1 [[.nilsl]]),(2,.dat 1 [[G 0]]),(3,.cel 4 [[.hs 8 6 0 a.2.2.2.2.length,.d (.sl 4 (a.2.1.map qu)),q6 a.2.2.1,q6 a.2.2.2.1]]),(4,.cel 1 [[.d (.sl 1 (j.map (eI .i64)))]]),(5,.dat 1 [[.sl 1 ([f,g].map Qs)]]),(6,.loop [(2,.ref 0 1 0 0),(4,.ref 1 1 0 0),(5,.ref 2 1 0 0),(6,.ref 3 4 0 0),(14,.fn 162 [.ref 4 1 0 0,.ref 5 1 0 0])] [15] A1597 B1598 .ready none),(7,.cel 3 [[q6 h,q6 m,.hs 9 1 0 2]]),(8,.dat 6 (a.2.2.2.2.map Q6)),(9,.cel 1 [[.d (.sl 4 (n.map qu))],[.hs 10 4 0 u.length]]),(10,.dat 4 (u.map qu))],11⟩) (wkA [(7,7),(8,8),(9,9),(10,11)] [10] []) ?_ qf
   refine Yj (st':=⟨[(0,.yld 6),(1,.ref 4 1 0 0),(2,.ref 5 1 0 0),(4,q6 a.1),(5,.ref 7 3 0 0)],[(0,.dat 1 [[.fn p0F p0C]]),(1,.dat 1 [[.nilsl]]),(2,.dat 1 [[G 0]]),(3,.cel 4 [[.hs 8 6 0 a.2.2.2.2.length,.d (.sl 4 (a.2.1.map qu)),q6 a.2.2.1,q6 a.2.2.2.1]]),(4,.cel 1 [[.d (.sl 1 (j.map (eI .i64)))]]),(5,.dat 1 [[.sl 1 ([f,g].map Qs)]]),(6,.loop [(2,.ref 0 1 0 0),(4,.ref 1 1 0 0),(5,.ref 2 1 0 0),(6,.ref 3 4 0 0),(14,.fn 162 [.ref 4 1 0 0,.ref 5 1 0 0])] [15] A1597 B1598 .ready none),(7,.cel 3 [[q6 h,q6 m,.hs 9 1 0 2]]),(8,.dat 6 (a.2.2.2.2.map Q6)),(9,.cel 1 [[.d (.sl 4 (n.map qu))],[.d (.sl 4 (u.map qu))]])],10⟩) (wkA [(7,7),(8,8),(9,9)] [10] []) ?_ qf
   refine qy<|q0 J<|O (.agg [q6 h,q6 m,.hs 9 1 0 2]) J ?_
   obtain ⟨dv,z,o⟩:=q9 o
   refine q7s (fun aj=>.inl aj = dv) (fun (aj : List ql × Int × Int × List qk)=>⟨[(0,.yld 6),(1,.ref 4 1 0 0),(2,.ref 5 1 0 0),(4,q6 a.1),(84,qg true)],[(0,.dat 1 [[.fn p0F p0C]]),(1,.dat 1 [[.nilsl]]),(2,.dat 1 [[G 0]]),(3,.cel 4 [[.hs 7 6 0 aj.2.2.2.length,.d (.sl 4 (aj.1.map qu)),q6 aj.2.1,q6 aj.2.2.1]]),(4,.cel 1 [[.d (.sl 1 (j.map (eI .i64)))]]),(5,.dat 1 [[.sl 1 ([f,g].map Qs)]]),(6,.loop [(2,.ref 0 1 0 0),(4,.ref 1 1 0 0),(5,.ref 2 1 0 0),(6,.ref 3 4 0 0),(14,.fn 162 [.ref 4 1 0 0,.ref 5 1 0 0])] [15] A1597 B1598 .ready none),(7,.dat 6 (aj.2.2.2.map Q6))],8⟩) hA1597 hB1598 J J J J J J ?_ ?_
   ·refine qy<|Qe J J<|qz 10 (.cel 3 [[q6 h,q6 m,.hs 9 1 0 2]]) J<|qx ?_
    refine ⟨J,_,J,?_⟩
    refine Q1<|qc<|O (.ref 10 3 0 2) J<|O (.hs 9 1 0 2) J<|O (.ref 9 1 0 0) J<|O (.d (.sl 4 (n.map qu))) J ?_
    obtain ⟨ao,dw,z⟩:=q9 z
    refine Q5 (qeu n ao dw) J<|q0 J<|O (.d (.sl 4 (ao.1.map qu))) J<|O (q6 ao.2) J<|qb J<|qb J<|qa<|qh<|qc<|O (.ref 10 3 0 2) J<|O (.hs 9 1 0 2) J<|O (.hs 9 1 1 1) J<|O (q6 1) J<|q0 J<|qa<|Q1<|Ya<|qc<|O (qg true) J<|qa<|qh<|Z7 J<|qo<|qh ?_
    obtain ⟨dx,s,z⟩:=q9 z
    refine Qm (fun ac=>ac = dx) (fun (ac : List ql × Int)=>⟨[(2,.ref 0 1 0 0),(4,.ref 1 1 0 0),(5,.ref 2 1 0 0),(6,.ref 3 4 0 0),(7,.ref 10 3 0 0),(8,.d (.sl 4 (ac.1.map qu))),(9,q6 ac.2),(26,.hs 9 1 1 1),(27,q6 1),(28,q6 0)],[(0,.dat 1 [[.fn p0F p0C]]),(1,.dat 1 [[.nilsl]]),(2,.dat 1 [[G 0]]),(3,.cel 4 [[.hs 8 6 0 a.2.2.2.2.length,.d (.sl 4 (a.2.1.map qu)),q6 a.2.2.1,q6 a.2.2.2.1]]),(4,.cel 1 [[.d (.sl 1 (j.map (eI .i64)))]]),(5,.dat 1 [[.sl 1 ([f,g].map Qs)]]),(6,.loop [(2,.ref 0 1 0 0),(4,.ref 1 1 0 0),(5,.ref 2 1 0 0),(6,.ref 3 4 0 0),(14,.fn 162 [.ref 4 1 0 0,.ref 5 1 0 0])] [15] A1597 B1598 .busy none),(7,.cel 3 [[q6 h,q6 m,.hs 9 1 0 2]]),(8,.dat 6 (a.2.2.2.2.map Q6)),(9,.cel 1 [[.d (.sl 4 (n.map qu))],[.d (.sl 4 (u.map qu))]]),(10,.cel 3 [[q6 h,q6 m,.hs 9 1 0 2]])],11⟩) qf ?_ ?_
    ·refine qc<|O (.ref 9 1 1 0) J<|O (.d (.sl 4 (u.map qu))) J<|qb J<|qs<|q0 J<|O (qg (ao.2 == 0)) J<|qa ?_
     refine qp J s (fun _ s=>?_) (fun _ s=>?_)
     ·refine qc<|qb J<|qs<|q0 J ?_
      obtain ⟨ap,dy,s⟩:=q9 s
      refine Q5 (qeu u ap dy) J<|q0 J<|O (.d (.sl 4 (ap.1.map qu))) J<|O (q6 ap.2) J<|qb J<|qb J<|qs<|q0 J<|O (qg (ap.2 == 0)) J<|qa ?_
      refine qp J s (fun _ s=>?_) (fun _ s=>?_)
      ·refine qy<|O (.ref 0 1 0 0) J<|O (.d (.fn p0F p0C)) J<|q0 J<|q0 J ?_
       obtain ⟨bg,dz,s⟩:=q9 s
       refine Yf [.d (.sl 4 (ao.1.map qu)),.d (.sl 4 (ap.1.map qu))] (p0Ok ao.1 ap.1 bg dz) J J J (.inl J)<|q0 J<|O (.d (.sl 4 (bg.1.map qu))) J<|O (q6 bg.2) J<|qb J<|qb J<|qx ?_
       obtain rfl:=qe s
       exact ⟨_,J,wkA [(10,10)] [] []⟩
      refine qo<|Qc ?_
      obtain rfl:=qe s
      exact ⟨_,J,wkA [(10,10)] [] []⟩
     refine qo<|Qc ?_
     obtain rfl:=qe s
     exact ⟨_,J,wkA [(10,10)] [] []⟩
    intro ac hb
    subst hb
    refine qy<|O (q6 1) J<|q0 J<|qa<|Ya<|qc<|O (qg false) J<|qa<|qh<|Z6 J<|Qb<|Ji<|qh<|qc<|q0 J<|O (qg (ac.2 != 0)) J<|qa ?_
    refine qp J z (fun _ z=>?_) (fun _ z=>?_)
    ·refine qc<|q0 J<|qz 1 (.dat 1 [[.nilsl]]) J<|qz 2 (.dat 1 [[G ac.2]]) J<|qv ?_
     obtain rfl:=qe z
     refine ⟨_,J,?_⟩
     refine O (qg true) J<|qa<|Z7 J<|q1h ?_
     refine ⟨_,(Option.some.inj o).symm,fun hm=>?_⟩
     subst hm
     refine ⟨.inr J,_,J,_,_,.ret,J,qt,?_⟩
     refine qcs ?_
     obtain rfl:=qe bd
     obtain rfl:=qe w
     exact finD (.inr J) (v:=.d (.tup [.nilsl,G ac.2])) J J (Yc (.cons (.nil _) (.cons (.refl _) .nil)))
    refine qo<|qy<|O (.ref 10 3 0 0) J<|O (q6 h) J<|O (.ref 10 3 0 1) J<|O (q6 m) J<|q0 J ?_
    obtain ⟨aq,fa,z⟩:=q9 z
    refine K2 [(0,3),(1,8)] [(0,3),(1,3),(2,3),(3,0),(4,3),(5,3),(6,3),(7,3),(8,1),(9,3),(10,3),(11,2)] [.ref 3 4 0 0,q6 h,q6 m,.d (.sl 4 (ac.1.map qu))] (.d (.tup [])) 2 [(3,.cel 4 [[.hs 11 6 0 aq.2.2.2.length,.d (.sl 4 (aq.1.map qu)),q6 aq.2.1,q6 aq.2.2.1]]),(11,.dat 6 (aq.2.2.2.map Q6)),(0,.dat 1 [[.fn p0F p0C]]),(1,.dat 1 [[.nilsl]]),(2,.dat 1 [[G 0]]),(4,.cel 1 [[.d (.sl 1 (j.map (eI .i64)))]]),(5,.dat 1 [[.sl 1 ([f,g].map Qs)]]),(6,.loop [(2,.ref 0 1 0 0),(4,.ref 1 1 0 0),(5,.ref 2 1 0 0),(6,.ref 3 4 0 0),(14,.fn 162 [.ref 4 1 0 0,.ref 5 1 0 0])] [15] A1597 B1598 .busy none),(7,.cel 3 [[q6 h,q6 m,.hs 9 1 0 2]]),(9,.cel 1 [[.d (.sl 4 (n.map qu))],[.d (.sl 4 (u.map qu))]]),(10,.cel 3 [[q6 h,q6 m,.hs 9 1 0 2]])] 12 (qlv a.2.2.2.2 a.2.1 a.2.2.1 a.2.2.2.1 h m ac.1 aq fa)<|qx<|Qj<|Qc ?_
    refine ⟨_,J,?_⟩
    obtain rfl:=qe z
    exact ⟨_,J,wkA [(7,11)] [] []⟩
   intro aj hb
   subst hb
   refine O (qg false) J<|qa<|Z6 J<|qo<|Qc<|Qj<|qy<|q0 J<|O (.d (G (w64 (a.1 + 1)))) J<|qb J<|qx ?_
   exact ⟨_,(Option.some.inj o).symm,wkA [(7,7)] [] []⟩
  refine Qb ?_
  refine ⟨_,(Option.some.inj o).symm,fun hm=>?_⟩
  subst hm
  refine ⟨.inl J,_,J,_,_,.nor,J,qt,?_⟩
  refine q6z<|Qc ?_
  obtain rfl:=qe bd
  exact ⟨_,J,wkA [(0,1),(1,2),(2,3),(3,7)] [] []⟩
 intro q st hb hw
 subst hb
 refine Yj hw ?_ qf
 refine qh<|qc<|O (.ref 2 4 0 0) J<|O (.hs 3 6 0 q.2.2.2.length) J<|O (q6 (q.2.2.2.length : Int)) J<|O (.d (.bool (decide ((q.2.2.2.length : Int) > 400)))) J<|qa ?_
 refine qp J w (fun _ w=>?_) (fun _ w=>?_)
 ·refine qc<|qz 0 (.dat 1 [[.nilsl]]) J<|qz 1 (.dat 1 [[G 4]]) J<|qv ?_
  obtain rfl:=qe w
  exact finD (.inr J) (v:=.d (.tup [.nilsl,G 4])) J J (Yc (.cons (.nil _) (.cons (.refl _) .nil)))
 refine qo<|qc<|O (.ref 2 4 0 0) J<|O (.hs 3 6 0 q.2.2.2.length) J<|qz 0 (.cel 1 [[.hs 3 6 0 q.2.2.2.length]]) J<|qz 1 (.dat 1 [[G 0]]) J<|qv ?_
 obtain rfl:=qe w
 exact finD (.inr J) (v:=.tup [.hs 3 6 0 q.2.2.2.length,q6 0]) J (q6y (Jp (Jb J J) (Jp J J))) (.refl _)
theorem qlx (b : List qk) (c : List qk) (g : List ql→List ql→Option (List ql × Int)) (p2F : FuncId) (p2C : List DV) (p2Ok : ∀ (k : List ql) (l : List ql) (r : List ql × Int),g k l = some r→Pure Tryz.prog tab p2F ([.sl 4 (k.map qu),.sl 4 (l.map qu)] ++ p2C) (.tup [.sl 4 (r.1.map qu),G r.2])) (r : List qk × Int) (a : q6s b c g = some r) : Pure Tryz.prog tab 70 [.sl 6 (b.map Q6),.sl 6 (c.map Q6),.agg [.fn p2F p2C]] (.tup [.sl 6 (r.1.map Q6),G r.2]):=by
 unfold q6s at a
 refine Qi Tryz.func70 J qj qj J<|qc<|Ql (.ref 0 1 0 0) (.dat 1 [[.fn p2F p2C]]) J<|qb J<|qb J<|qa<|qh<|qc<|q0 J ?_
 obtain ⟨h,m,a⟩:=q9 a
 refine Q5 (q9b b h m) J<|qb J<|qs<|q0 J<|O (qg (h != 0)) J<|qa ?_
 refine qp J a (fun _ a=>?_) (fun _ a=>?_)
 ·refine qc<|q0 J<|qb J<|qb J<|qv ?_
  obtain rfl:=qe a
  exact finD (.inr J) (v:=.d (.tup [.nilsl,G h])) J J (Yc (.cons (.nil _) (.cons (.refl _) .nil)))
 refine qo<|qh<|qc<|q0 J ?_
 obtain ⟨j,n,a⟩:=q9 a
 refine Q5 (q9b c j n) J<|qb J<|qs<|q0 J<|O (qg (j != 0)) J<|qa ?_
 refine qp J a (fun _ a=>?_) (fun _ a=>?_)
 ·refine qc<|q0 J<|qb J<|qb J<|qv ?_
  obtain rfl:=qe a
  exact finD (.inr J) (v:=.d (.tup [.nilsl,G j])) J J (Yc (.cons (.nil _) (.cons (.refl _) .nil)))
 refine qo<|qc<|O (.d (.agg [.fn p2F p2C])) J<|q0 J<|q0 J<|q3g (es:=1) ([b,c].map Qs) J J J J J ?_
 obtain ⟨f,o,a⟩:=q9 a
 refine Q5 (qz5 g b c p2F p2C p2Ok f o) J<|O (.d (.sl 6 (f.1.map Q6))) J<|O (q6 f.2) J<|qb J<|qb J<|qv ?_
 obtain rfl:=qe a
 exact Q4 (.d (.tup [.sl 6 (f.1.map Q6),G f.2])) J
theorem qtx (b : List ql) (c : List ql) (r : Int) (a : q86 b c = some r) : Pure Tryz.prog tab 148 [.sl 4 (b.map qu),.sl 4 (c.map qu)] (G r):=by
 unfold q86 at a
 refine Qi Tryz.func148 J qj qj J<|qc<|qb J<|qa<|qh<|qc<|q0 J ?_
 obtain ⟨d,g,a⟩:=q9 a
 refine Q5 (qbd b d g) J<|qb J<|qs<|q0 J<|O (qg (d != 0)) J<|qa ?_
 refine qp J a (fun _ a=>?_) (fun _ a=>?_)
 ·refine qc<|q0 J<|qb J<|qv ?_
  obtain rfl:=qe a
  exact Q4 (q6 d) J
 refine qo<|qc<|q0 J ?_
 obtain ⟨f,h,a⟩:=q9 a
 refine Q5 (qbd c f h) J<|qb J<|qv ?_
 obtain rfl:=qe a
 exact Q4 (q6 f) J
theorem qky (b : List ql) (c : List ql) (p2 : List qm→List qm→Option (List qm × Int)) (p2F : FuncId) (p2C : List DV) (p2Ok : ∀ (x0 : List qm) (x1 : List qm) (r : List qm × Int),p2 x0 x1 = some r→Pure Tryz.prog tab p2F ([.sl 2 (x0.map Q3),.sl 2 (x1.map Q3)] ++ p2C) (.tup [.sl 2 (r.1.map Q3),G r.2])) (r : List ql × Int) (p : q5h b c p2 = some r) : Pure Tryz.prog tab 115 [.sl 4 (b.map qu),.sl 4 (c.map qu),.fn p2F p2C] (.tup [.sl 4 (r.1.map qu),G r.2]):=by
 unfold q5h at p
 refine Qi Tryz.func115 J qj qj J<|qc<|Ql (.ref 0 1 0 0) (.dat 1 [[.fn p2F p2C]]) J<|Qe J J<|Qe J J<|qa<|qh<|qc<|q0 J<|q0 J ?_
 obtain ⟨r1,h2,p⟩:=q9 p
 refine Q5 (qtx b c r1 h2) J<|qb J<|qs<|q0 J<|O (qg (r1 != 0)) J<|qa ?_
 refine qp J p (fun _ p=>?_) (fun _ p=>?_)
 ·refine qc<|q0 J<|qz 1 (.dat 1 [[.nilsl]]) J<|qz 2 (.dat 1 [[G r1]]) J<|qv ?_
  obtain rfl:=qe p
  exact finD (.inr J) (v:=.d (.tup [.nilsl,G r1])) J J (Yc (.cons (.nil _) (.cons (.refl _) .nil)))
 refine qo<|qc<|Qe J J<|qa<|qh<|qc<|q0 J<|q0 J<|Ql (.hs 4 1 0 [b,c].length) (.dat 1 ([b,c].map Ke)) J ?_
 obtain ⟨cb,q,p⟩:=q9 p
 refine q2i [.hs 4 1 0 [b,c].length] (fun j=>j = cb) (fun (j : List Int)=>⟨[(5,.ref 0 1 0 0),(6,.ref 1 1 0 0),(7,.ref 2 1 0 0),(9,.ref 3 4 0 0),(22,.fn 168 [.ref 4 1 0 0,.ref 5 1 0 0])],[(0,.dat 1 [[.fn p2F p2C]]),(1,.dat 1 [[.nilsl]]),(2,.dat 1 [[G 0]]),(3,.dat 4 [[.nilsl,.nilsl,G 0,G 0]]),(4,.cel 1 [[.d (.sl 1 (j.map (eI .i64)))]]),(5,.cel 1 [[.hs 6 1 0 [b,c].length]]),(6,.dat 1 ([b,c].map Ke))],7⟩) J J Tryz.func149 J qj qj J ?_ ?_
 ·refine qc<|Ql (.ref 5 1 0 0) (.cel 1 [[.hs 4 1 0 [b,c].length]]) J<|qb J<|qs<|Qe J J<|qa<|qh<|qc<|O (.hs 4 1 0 [b,c].length) J<|O (q6 2) J<|q0 J<|qa<|Q1<|Ya<|qc<|O (qg true) J<|qa<|qh<|Z7 J<|qo<|qh ?_
  obtain ⟨cc,ap,q⟩:=q9 q
  refine Qm (fun an=>an = cc) (fun (an : List Int)=>⟨[(1,.ref 5 1 0 0),(3,.ref 6 1 0 0),(8,.hs 4 1 0 [b,c].length),(9,q6 2),(10,q6 0)],[(0,.dat 1 [[.fn p2F p2C]]),(1,.dat 1 [[.nilsl]]),(2,.dat 1 [[G 0]]),(3,.dat 4 [[.nilsl,.nilsl,G 0,G 0]]),(4,.dat 1 ([b,c].map Ke)),(5,.cel 1 [[.hs 4 1 0 [b,c].length]]),(6,.cel 1 [[.hs 7 1 0 an.length]]),(7,.dat 1 (an.map (eI .i64)))],8⟩) qf ?_ ?_
  ·refine qc ?_
   obtain ⟨aq,bi,ap⟩:=q9 ap
   refine qw bi J J<|Q7 (.d (.sl 4 (aq.map qu))) bi J<|qb J<|qs<|q0 J<|Qy J<|q0 J<|qa ?_
   obtain ⟨cd,ce,ap⟩:=q9 ap
   refine Q1<|Qf (qbf aq) (fun (ae : Int × List Int)=>⟨[(1,.ref 5 1 0 0),(3,.ref 6 1 0 0),(8,.hs 4 1 0 [b,c].length),(9,q6 2),(10,q6 0),(14,.d (.sl 4 (aq.map qu))),(15,q6 (aq.length : Int)),(16,q6 ae.1)],[(0,.dat 1 [[.fn p2F p2C]]),(1,.dat 1 [[.nilsl]]),(2,.dat 1 [[G 0]]),(3,.dat 4 [[.nilsl,.nilsl,G 0,G 0]]),(4,.dat 1 ([b,c].map Ke)),(5,.cel 1 [[.hs 4 1 0 [b,c].length]]),(6,.cel 1 [[.hs 7 1 0 ae.2.length]]),(7,.dat 1 (ae.2.map (eI .i64)))],8⟩) (0,[]) cd ce (wkA [(5,5),(6,6)] [] [7]) ?_
   intro ae dx z
   unfold qbf at z
   refine qc<|O (.d (.bool (decide (ae.1 < (aq.length : Int))))) J<|qa<|qh ?_
   refine qp J z (fun _ z=>?_) (fun _ z=>?_)
   ·refine qo<|qh<|Q1<|qc ?_
    obtain ⟨k,cf,z⟩:=q9 z
    refine Qz (enc:=qu) cf J<|O (.d (.agg [G k.X0,G k.Y0,G k.X1,G k.Y1])) J<|Qe J J<|qz 8 (.dat 4 [[G k.X0,G k.Y0,G k.X1,G k.Y1]]) J<|qa<|qy<|O (.hs 7 1 0 ae.2.length) J<|O (.ref 8 4 0 0) J<|O (q6 k.X0) J<|O (.ref 8 4 0 2) J<|O (q6 k.X1) J<|Ql (.hs 9 1 0 [k.X0,k.X1].length) (.dat 1 ([k.X0,k.X1].map (eI .i64))) J ?_
    obtain ⟨cg,ch,z⟩:=q9 z
    refine Yr (xs:=ae.2) (ys:=[k.X0,k.X1]) (enc:=(eI .i64)) (.hs 9 1 0 [k.X0,k.X1].length) ch J J J J J J J (Yo J J) J J J J<|qz 6 (.cel 1 [[.hs 10 1 0 cg.length]]) J<|qx<|Qj<|qy<|O (.d (G (w64 (ae.1 + 1)))) J<|q0 J<|qx ?_
    exact ⟨_,(Option.some.inj z).symm,wkA [(5,5),(6,6),(7,10)] [] []⟩
   refine Qb ?_
   refine ⟨_,(Option.some.inj z).symm,fun hm=>?_⟩
   subst hm
   obtain rfl:=qe ap
   exact ⟨_,J,wkA [(5,5),(6,6),(7,7)] [] []⟩
  intro an hb
  subst hb
  refine qy<|O (q6 1) J<|q0 J<|qa<|Ya<|qc<|O (qg true) J<|qa<|qh<|Z7 J<|qo<|qh ?_
  obtain ⟨ci,ar,q⟩:=q9 q
  refine Qm (fun s=>s = ci) (fun (s : List Int)=>⟨[(1,.ref 5 1 0 0),(3,.ref 6 1 0 0),(8,.hs 4 1 0 [b,c].length),(9,q6 2),(10,q6 1)],[(0,.dat 1 [[.fn p2F p2C]]),(1,.dat 1 [[.nilsl]]),(2,.dat 1 [[G 0]]),(3,.dat 4 [[.nilsl,.nilsl,G 0,G 0]]),(4,.dat 1 ([b,c].map Ke)),(5,.cel 1 [[.hs 4 1 0 [b,c].length]]),(6,.cel 1 [[.hs 7 1 0 s.length]]),(7,.dat 1 (s.map (eI .i64)))],8⟩) qf ?_ ?_
  ·refine qc ?_
   obtain ⟨au,bj,ar⟩:=q9 ar
   refine qw bj J J<|Q7 (.d (.sl 4 (au.map qu))) bj J<|qb J<|qs<|q0 J<|Qy J<|q0 J<|qa ?_
   obtain ⟨cj,ck,ar⟩:=q9 ar
   refine Q1<|Qf (qbg au) (fun (af : Int × List Int)=>⟨[(1,.ref 5 1 0 0),(3,.ref 6 1 0 0),(8,.hs 4 1 0 [b,c].length),(9,q6 2),(10,q6 1),(14,.d (.sl 4 (au.map qu))),(15,q6 (au.length : Int)),(16,q6 af.1)],[(0,.dat 1 [[.fn p2F p2C]]),(1,.dat 1 [[.nilsl]]),(2,.dat 1 [[G 0]]),(3,.dat 4 [[.nilsl,.nilsl,G 0,G 0]]),(4,.dat 1 ([b,c].map Ke)),(5,.cel 1 [[.hs 4 1 0 [b,c].length]]),(6,.cel 1 [[.hs 7 1 0 af.2.length]]),(7,.dat 1 (af.2.map (eI .i64)))],8⟩) (0,an) cj ck (wkA [(5,5),(6,6),(7,7)] [] []) ?_
   intro af dy aa
   unfold qbg at aa
   refine qc<|O (.d (.bool (decide (af.1 < (au.length : Int))))) J<|qa<|qh ?_
   refine qp J aa (fun _ aa=>?_) (fun _ aa=>?_)
   ·refine qo<|qh<|Q1<|qc ?_
    obtain ⟨l,cl,aa⟩:=q9 aa
    refine Qz (enc:=qu) cl J<|O (.d (.agg [G l.X0,G l.Y0,G l.X1,G l.Y1])) J<|Qe J J<|qz 8 (.dat 4 [[G l.X0,G l.Y0,G l.X1,G l.Y1]]) J<|qa<|qy<|O (.hs 7 1 0 af.2.length) J<|O (.ref 8 4 0 0) J<|O (q6 l.X0) J<|O (.ref 8 4 0 2) J<|O (q6 l.X1) J<|Ql (.hs 9 1 0 [l.X0,l.X1].length) (.dat 1 ([l.X0,l.X1].map (eI .i64))) J ?_
    obtain ⟨cm,cn,aa⟩:=q9 aa
    refine Yr (xs:=af.2) (ys:=[l.X0,l.X1]) (enc:=(eI .i64)) (.hs 9 1 0 [l.X0,l.X1].length) cn J J J J J J J (Yo J J) J J J J<|qz 6 (.cel 1 [[.hs 10 1 0 cm.length]]) J<|qx<|Qj<|qy<|O (.d (G (w64 (af.1 + 1)))) J<|q0 J<|qx ?_
    exact ⟨_,(Option.some.inj aa).symm,wkA [(5,5),(6,6),(7,10)] [] []⟩
   refine Qb ?_
   refine ⟨_,(Option.some.inj aa).symm,fun hm=>?_⟩
   subst hm
   obtain rfl:=qe ar
   exact ⟨_,J,wkA [(5,5),(6,6),(7,7)] [] []⟩
  intro s hb
  subst hb
  refine qy<|O (q6 2) J<|q0 J<|qa<|Ya<|qc<|O (qg false) J<|qa<|qh<|Z6 J<|Qb<|Ji<|qc<|O (.hs 7 1 0 s.length) J ?_
  obtain ⟨bf,co,q⟩:=q9 q
  obtain ⟨dz,cp,q⟩:=q9 q
  have cq:=Kd cp
  refine K2 [(0,7)] [(0,1),(1,1),(2,1),(3,1),(4,1),(5,1),(6,1),(7,0)] [.hs 7 1 0 s.length] (.d (.tup [])) 1 [(7,.dat 1 (bf.map (eI .i64))),(0,.dat 1 [[.fn p2F p2C]]),(1,.dat 1 [[.nilsl]]),(2,.dat 1 [[G 0]]),(3,.dat 4 [[.nilsl,.nilsl,G 0,G 0]]),(4,.dat 1 ([b,c].map Ke)),(5,.cel 1 [[.hs 4 1 0 [b,c].length]]),(6,.cel 1 [[.hs 7 1 0 s.length]])] 8 (qbv s bf co)<|qs<|O (.hs 7 1 0 s.length) J ?_
  obtain ⟨ak,cr,q⟩:=q9 q
  obtain ⟨fa,cs,q⟩:=q9 q
  have fb:=Kd cs
  obtain ⟨fc,ct,q⟩:=q9 q
  have cu:=qcg ct
  refine Jq [(0,7)] [(0,1),(1,1),(2,1),(3,1),(4,1),(5,1),(6,1),(7,0)] [.hs 7 1 0 s.length] (.hs 7 1 ak.1.1 ak.1.2) [(7,.dat 1 (ak.2.map (eI .i64)))] [(7,.dat 1 (ak.2.map (eI .i64))),(0,.dat 1 [[.fn p2F p2C]]),(1,.dat 1 [[.nilsl]]),(2,.dat 1 [[G 0]]),(3,.dat 4 [[.nilsl,.nilsl,G 0,G 0]]),(4,.dat 1 ([b,c].map Ke)),(5,.cel 1 [[.hs 4 1 0 [b,c].length]]),(6,.cel 1 [[.hs 7 1 0 s.length]])] 8 (qbm bf ak cr) J J J (Y4 [(0,7)] [] [] J ⟨⟨_,J,Qx (by simp [cq]) J qt (ltd J)⟩,trivial⟩ ⟨Qg J J,trivial⟩) (Y4 [(0,1),(1,1),(2,1),(3,1),(4,1),(5,1),(6,1),(7,0)] [] [] J ⟨⟨_,J,.hs J qt (ltd J)⟩,trivial⟩ ⟨Qg J J,trivial⟩) J ⟨.inl J,.inr ⟨J,J⟩,.inr ⟨J,J⟩,.inr ⟨J,J⟩,.inr ⟨J,J⟩,.inr ⟨J,J⟩,.inr ⟨J,J⟩,.inr ⟨J,J⟩,trivial⟩<|qz 6 (.cel 1 [[.hs 7 1 ak.1.1 ak.1.2]]) J<|qs<|O (.fn 168 [.ref 6 1 0 0,.ref 5 1 0 0]) J<|qb J<|qv ?_
  refine ⟨.inr J,_,J,?_⟩
  obtain rfl:=qe q
  exact ⟨_,J,wkE [(0,0),(1,1),(2,2),(3,3),(4,6),(5,5),(6,4)] [7] [] J ⟨⟨_,J,.ref J qt (ltd J)⟩,⟨_,J,.ref J qt (ltd J)⟩,⟨_,J,.ref J qt (ltd J)⟩,⟨_,J,.ref J qt (ltd J)⟩,⟨_,J,(q1u (.cons (.ref J qt (ltd J)) (.cons (.ref J qt (ltd J)) .nil)))⟩,trivial⟩ ⟨Qg J J,Qg J J,Qg J J,Qg J J,⟨ltd J,.inr ⟨qt,_,J,Zt (.cons (qci cu J qt) J .nil)⟩⟩,⟨ltd J,.inr ⟨qt,_,J,Zt (.cons (.hs J qt (ltd J)) J .nil)⟩⟩,Qg J J,trivial⟩⟩
 intro j hb
 subst hb
 refine qa<|Q1 ?_
 obtain ⟨cv,bd,p⟩:=q9 p
 refine q88 (fun t=>.inl t = cv) (fun (t : List qm × Int × Int × List ql)=>⟨[(6,.ref 0 1 0 0),(7,.ref 1 1 0 0),(9,.ref 2 4 0 0)],[(0,.dat 1 [[.nilsl]]),(1,.dat 1 [[G 0]]),(2,.cel 4 [[.hs 3 4 0 t.2.2.2.length,.d (.sl 2 (t.1.map Q3)),q6 t.2.1,q6 t.2.2.1]]),(3,.dat 4 (t.2.2.2.map qu))],4⟩) ?_ ?_
 ·refine Yj (st':=⟨[(5,.ref 0 1 0 0),(6,.ref 1 1 0 0),(7,.ref 2 1 0 0),(9,.ref 3 4 0 0),(22,.fn 168 [.ref 4 1 0 0,.ref 5 1 0 0])],[(0,.dat 1 [[.fn p2F p2C]]),(1,.dat 1 [[.nilsl]]),(2,.dat 1 [[G 0]]),(3,.dat 4 [[.nilsl,.nilsl,G 0,G 0]]),(4,.cel 1 [[.d (.sl 1 (j.map (eI .i64)))]]),(5,.cel 1 [[.hs 6 1 0 [b,c].length]]),(6,.dat 1 ([b,c].map Ke))],7⟩) (wkA [(0,0),(1,1),(2,2),(3,3),(4,4),(5,5),(6,6)] [] []) ?_ qf
  refine q89 [.ref 4 1 0 0,.ref 5 1 0 0] (.inl J) Tryz.func168 J qj qj J ?_
  intro A1439 B1440 hA1439 hB1440
  refine qc<|qb J<|qa ?_
  obtain ⟨cw,cx,bd⟩:=q9 bd
  refine Q1<|Qf (q3m j b c p2) (fun (a : Int × List qm × Int × Int × List ql)=>⟨[(0,.yld 7),(1,.ref 4 1 0 0),(2,.ref 5 1 0 0),(4,q6 a.1)],[(0,.dat 1 [[.fn p2F p2C]]),(1,.dat 1 [[.nilsl]]),(2,.dat 1 [[G 0]]),(3,.cel 4 [[.hs 8 4 0 a.2.2.2.2.length,.d (.sl 2 (a.2.1.map Q3)),q6 a.2.2.1,q6 a.2.2.2.1]]),(4,.cel 1 [[.d (.sl 1 (j.map (eI .i64)))]]),(5,.cel 1 [[.hs 6 1 0 [b,c].length]]),(6,.dat 1 ([b,c].map Ke)),(7,.loop [(5,.ref 0 1 0 0),(6,.ref 1 1 0 0),(7,.ref 2 1 0 0),(9,.ref 3 4 0 0),(22,.fn 168 [.ref 4 1 0 0,.ref 5 1 0 0])] [23] A1439 B1440 .ready none),(8,.dat 4 (a.2.2.2.2.map qu))],9⟩) (1,[],0,0,[]) cw cx (wkA [] [] [8]) ?_
  intro a fd o
  unfold q3m at o
  refine qh<|qc<|q0 J<|O (.d (.sl 1 (j.map (eI .i64)))) J<|Qy J<|O (.d (.bool (decide (a.1 < (j.length : Int))))) J<|qa ?_
  refine qp J o (fun _ o=>?_) (fun _ o=>?_)
  ·refine qo<|qh<|Q1<|qh<|Qd [Qh 10,(some [],[10]),q8,(some [],[9]),q8,qr 5,q8,q8,q8,qr 4,q8,q8,q8,q8,qr 4] qj<|O (.d (.sl 1 (j.map (eI .i64)))) J<|q0 J<|O (.d (G (w64 (a.1 - 1)))) J ?_
   obtain ⟨f,cy,o⟩:=q9 o
   refine Qz (enc:=(eI .i64)) cy J<|O (q6 f) J<|O (.d (.sl 1 (j.map (eI .i64)))) J<|q0 J ?_
   obtain ⟨m,cz,o⟩:=q9 o
   refine Qz (enc:=(eI .i64)) cz J<|O (q6 m) J<|O (.hs 6 1 0 [b,c].length) J<|O (q6 2) J<|Ql (.hs 9 1 0 2) (.dat 1 [[.nilsl],[.nilsl]]) J<|O (.agg [q6 f,q6 m,.hs 9 1 0 2]) J<|Qe J J<|qz 10 (.cel 3 [[q6 f,q6 m,.hs 9 1 0 2]]) J<|qa<|qh<|qc<|O (.hs 6 1 0 [b,c].length) J<|O (q6 2) J<|q0 J<|qa<|Q1<|Ya<|qc<|O (qg true) J<|qa<|qh<|Z7 J<|qo<|qh ?_
   obtain ⟨da,av,o⟩:=q9 o
   refine Qm (fun n=>n = da) (fun (n : List qm)=>⟨[(0,.yld 7),(1,.ref 4 1 0 0),(2,.ref 5 1 0 0),(4,q6 a.1),(5,.ref 8 3 0 0),(29,.hs 6 1 0 [b,c].length),(30,q6 2),(31,q6 0)],[(0,.dat 1 [[.fn p2F p2C]]),(1,.dat 1 [[.nilsl]]),(2,.dat 1 [[G 0]]),(3,.cel 4 [[.hs 9 4 0 a.2.2.2.2.length,.d (.sl 2 (a.2.1.map Q3)),q6 a.2.2.1,q6 a.2.2.2.1]]),(4,.cel 1 [[.d (.sl 1 (j.map (eI .i64)))]]),(5,.cel 1 [[.hs 6 1 0 [b,c].length]]),(6,.dat 1 ([b,c].map Ke)),(7,.loop [(5,.ref 0 1 0 0),(6,.ref 1 1 0 0),(7,.ref 2 1 0 0),(9,.ref 3 4 0 0),(22,.fn 168 [.ref 4 1 0 0,.ref 5 1 0 0])] [23] A1439 B1440 .ready none),(8,.cel 3 [[q6 f,q6 m,.hs 10 1 0 2]]),(9,.dat 4 (a.2.2.2.2.map qu)),(10,.cel 1 [[.hs 11 2 0 n.length],[.d (.nilsl)]]),(11,.dat 2 (n.map Q3))],12⟩) qf ?_ ?_
   ·refine qc<|q0 J ?_
    obtain ⟨al,bk,av⟩:=q9 av
    refine qw bk J J<|Q7 (.d (.sl 4 (al.map qu))) bk J<|qb J<|qb J<|qs<|q0 J<|Qy J<|q0 J<|qa ?_
    obtain ⟨dc,dd,av⟩:=q9 av
    refine Q1<|Qf (qbh al f) (fun (ab : Int × List qm)=>⟨[(0,.yld 7),(1,.ref 4 1 0 0),(2,.ref 5 1 0 0),(4,q6 a.1),(5,.ref 8 3 0 0),(6,q6 0),(29,.hs 6 1 0 [b,c].length),(30,q6 2),(31,q6 0),(36,.d (.sl 4 (al.map qu))),(37,q6 (al.length : Int)),(38,q6 ab.1)],[(0,.dat 1 [[.fn p2F p2C]]),(1,.dat 1 [[.nilsl]]),(2,.dat 1 [[G 0]]),(3,.cel 4 [[.hs 9 4 0 a.2.2.2.2.length,.d (.sl 2 (a.2.1.map Q3)),q6 a.2.2.1,q6 a.2.2.2.1]]),(4,.cel 1 [[.d (.sl 1 (j.map (eI .i64)))]]),(5,.cel 1 [[.hs 6 1 0 [b,c].length]]),(6,.dat 1 ([b,c].map Ke)),(7,.loop [(5,.ref 0 1 0 0),(6,.ref 1 1 0 0),(7,.ref 2 1 0 0),(9,.ref 3 4 0 0),(22,.fn 168 [.ref 4 1 0 0,.ref 5 1 0 0])] [23] A1439 B1440 .ready none),(8,.cel 3 [[q6 f,q6 m,.hs 10 1 0 2]]),(9,.dat 4 (a.2.2.2.2.map qu)),(10,.cel 1 [[.hs 11 2 0 ab.2.length],[.d (.nilsl)]]),(11,.dat 2 (ab.2.map Q3))],12⟩) (0,[]) dc dd (wkA [(8,10),(9,8),(10,9)] [] [11]) ?_
    intro ab fe ag
    unfold qbh at ag
    refine qc<|O (.d (.bool (decide (ab.1 < (al.length : Int))))) J<|qa<|qh ?_
    refine qp J ag (fun _ ag=>?_) (fun _ ag=>?_)
    ·refine qo<|qh ?_
     obtain ⟨de,x,ag⟩:=q9 ag
     refine Qm (fun aw=>aw = de) (fun (aw : List qm)=>⟨[(0,.yld 7),(1,.ref 4 1 0 0),(2,.ref 5 1 0 0),(4,q6 a.1),(5,.ref 8 3 0 0),(6,q6 0),(29,.hs 6 1 0 [b,c].length),(30,q6 2),(31,q6 0),(36,.d (.sl 4 (al.map qu))),(37,q6 (al.length : Int)),(38,q6 ab.1)],[(0,.dat 1 [[.fn p2F p2C]]),(1,.dat 1 [[.nilsl]]),(2,.dat 1 [[G 0]]),(3,.cel 4 [[.hs 9 4 0 a.2.2.2.2.length,.d (.sl 2 (a.2.1.map Q3)),q6 a.2.2.1,q6 a.2.2.2.1]]),(4,.cel 1 [[.d (.sl 1 (j.map (eI .i64)))]]),(5,.cel 1 [[.hs 6 1 0 [b,c].length]]),(6,.dat 1 ([b,c].map Ke)),(7,.loop [(5,.ref 0 1 0 0),(6,.ref 1 1 0 0),(7,.ref 2 1 0 0),(9,.ref 3 4 0 0),(22,.fn 168 [.ref 4 1 0 0,.ref 5 1 0 0])] [23] A1439 B1440 .ready none),(8,.cel 3 [[q6 f,q6 m,.hs 10 1 0 2]]),(9,.dat 4 (a.2.2.2.2.map qu)),(10,.cel 1 [[.hs 11 2 0 aw.length],[.d (.nilsl)]]),(11,.dat 2 (aw.map Q3))],12⟩) qf ?_ ?_
     ·refine qc ?_
      obtain ⟨g,df,x⟩:=q9 x
      refine Qz (enc:=qu) df J<|O (.d (.agg [G g.X0,G g.Y0,G g.X1,G g.Y1])) J<|Qe J J<|qz 12 (.dat 4 [[G g.X0,G g.Y0,G g.X1,G g.Y1]]) J<|qs<|O (.ref 12 4 0 0) J<|O (q6 g.X0) J<|O (.ref 8 3 0 0) J<|O (q6 f) J<|O (.d (.bool (decide (g.X0≤f)))) J ?_
      obtain ⟨dg,ax,x⟩:=q9 x
      refine Q9 7 (fun A st=>∃ (bl bm bn bo bp bq : V),st = A [(53,qg dg),(52,bq),(51,bp),(50,bo),(49,bn),(48,bm),(47,bl)]) ?_ ?_
      ·refine Q8 J J ax (fun ax=>?_) (fun ax=>?_)
       ·refine O (.ref 8 3 0 0) J<|O (q6 f) J<|O (.ref 12 4 0 2) J<|O (q6 g.X1) J<|O (.d (.bool (decide (f < g.X1)))) J<|O (.d (.bool (decide (f < g.X1)))) J<|qa ?_
        obtain rfl:=qe ax
        exact ⟨_,_,_,_,_,_,J⟩
       refine qd J<|qd J<|qd J<|qd J<|qd J<|O (qg false) J<|qa ?_
       obtain rfl:=qe ax
       exact ⟨_,_,_,_,_,_,J⟩
      rintro _ ⟨bl,bm,bn,bo,bp,bq,rfl⟩
      refine qa ?_
      refine qp J x (fun _ x=>?_) (fun _ x=>?_)
      ·refine Qd [Qh 10,q8,(some [11,13],[11,14]),(some [],[13]),q8,qr 12,q8,qr 12,q8,qr 10,q8,q8,qr 8,q8,q8,qr 8,q8] qj<|O (.ref 8 3 0 2) J<|O (.hs 10 1 0 2) J<|q0 J<|O (.ref 8 3 0 2) J<|O (.hs 10 1 0 2) J<|q0 J<|O (.ref 10 1 0 0) J<|O (.hs 11 2 0 ab.2.length) J<|O (.ref 12 4 0 1) J<|O (q6 g.Y0) J<|O (.ref 12 4 0 3) J<|O (q6 g.Y1) J<|O (.d (.agg [G g.Y0,G g.Y1])) J<|Ql (.hs 13 2 0 [({Lo:=g.Y0,Hi:=g.Y1} : qm)].length) (.dat 2 ([({Lo:=g.Y0,Hi:=g.Y1} : qm)].map Q3)) J ?_
       obtain ⟨dh,dj,x⟩:=q9 x
       refine Yr (xs:=ab.2) (ys:=[({Lo:=g.Y0,Hi:=g.Y1} : qm)]) (enc:=Q3) (.hs 13 2 0 [({Lo:=g.Y0,Hi:=g.Y1} : qm)].length) dj J J J J J J J (Yo J J) J J J J<|O (.ref 10 1 0 0) J<|qz 10 (.cel 1 [[.hs 14 2 0 dh.length],[.d (.nilsl)]]) J<|qx ?_
       obtain rfl:=qe x
       exact ⟨_,J,wkA [(8,8),(9,9),(10,10),(11,14)] [] []⟩
      refine qo<|Qc ?_
      obtain rfl:=qe x
      exact ⟨_,J,wkA [(8,8),(9,9),(10,10),(11,11)] [] []⟩
     intro aw hb
     subst hb
     refine qy<|O (.d (G (w64 (ab.1 + 1)))) J<|q0 J<|qx ?_
     exact ⟨_,(Option.some.inj ag).symm,wkA [(8,8),(9,9),(10,10),(11,11)] [] []⟩
    refine Qb ?_
    refine ⟨_,(Option.some.inj ag).symm,fun hm=>?_⟩
    subst hm
    obtain rfl:=qe av
    exact ⟨_,J,wkA [(8,8),(9,9),(10,10),(11,11)] [] []⟩
   intro n hb
   subst hb
   refine qy<|O (q6 1) J<|q0 J<|qa<|Ya<|qc<|O (qg true) J<|qa<|qh<|Z7 J<|qo<|qh ?_
   obtain ⟨dk,ay,o⟩:=q9 o
   refine Qm (fun u=>u = dk) (fun (u : List qm)=>⟨[(0,.yld 7),(1,.ref 4 1 0 0),(2,.ref 5 1 0 0),(4,q6 a.1),(5,.ref 8 3 0 0),(29,.hs 6 1 0 [b,c].length),(30,q6 2),(31,q6 1)],[(0,.dat 1 [[.fn p2F p2C]]),(1,.dat 1 [[.nilsl]]),(2,.dat 1 [[G 0]]),(3,.cel 4 [[.hs 9 4 0 a.2.2.2.2.length,.d (.sl 2 (a.2.1.map Q3)),q6 a.2.2.1,q6 a.2.2.2.1]]),(4,.cel 1 [[.d (.sl 1 (j.map (eI .i64)))]]),(5,.cel 1 [[.hs 6 1 0 [b,c].length]]),(6,.dat 1 ([b,c].map Ke)),(7,.loop [(5,.ref 0 1 0 0),(6,.ref 1 1 0 0),(7,.ref 2 1 0 0),(9,.ref 3 4 0 0),(22,.fn 168 [.ref 4 1 0 0,.ref 5 1 0 0])] [23] A1439 B1440 .ready none),(8,.cel 3 [[q6 f,q6 m,.hs 10 1 0 2]]),(9,.dat 4 (a.2.2.2.2.map qu)),(10,.cel 1 [[.hs 11 2 0 n.length],[.hs 12 2 0 u.length]]),(11,.dat 2 (n.map Q3)),(12,.dat 2 (u.map Q3))],13⟩) qf ?_ ?_
   ·refine qc<|q0 J ?_
    obtain ⟨am,br,ay⟩:=q9 ay
    refine qw br J J<|Q7 (.d (.sl 4 (am.map qu))) br J<|qb J<|qb J<|qs<|q0 J<|Qy J<|q0 J<|qa ?_
    obtain ⟨dl,dm,ay⟩:=q9 ay
    refine Q1<|Qf (qbi am f) (fun (ac : Int × List qm)=>⟨[(0,.yld 7),(1,.ref 4 1 0 0),(2,.ref 5 1 0 0),(4,q6 a.1),(5,.ref 8 3 0 0),(6,q6 1),(29,.hs 6 1 0 [b,c].length),(30,q6 2),(31,q6 1),(36,.d (.sl 4 (am.map qu))),(37,q6 (am.length : Int)),(38,q6 ac.1)],[(0,.dat 1 [[.fn p2F p2C]]),(1,.dat 1 [[.nilsl]]),(2,.dat 1 [[G 0]]),(3,.cel 4 [[.hs 9 4 0 a.2.2.2.2.length,.d (.sl 2 (a.2.1.map Q3)),q6 a.2.2.1,q6 a.2.2.2.1]]),(4,.cel 1 [[.d (.sl 1 (j.map (eI .i64)))]]),(5,.cel 1 [[.hs 6 1 0 [b,c].length]]),(6,.dat 1 ([b,c].map Ke)),(7,.loop [(5,.ref 0 1 0 0),(6,.ref 1 1 0 0),(7,.ref 2 1 0 0),(9,.ref 3 4 0 0),(22,.fn 168 [.ref 4 1 0 0,.ref 5 1 0 0])] [23] A1439 B1440 .ready none),(8,.cel 3 [[q6 f,q6 m,.hs 10 1 0 2]]),(9,.dat 4 (a.2.2.2.2.map qu)),(10,.cel 1 [[.hs 11 2 0 n.length],[.hs 12 2 0 ac.2.length]]),(11,.dat 2 (n.map Q3)),(12,.dat 2 (ac.2.map Q3))],13⟩) (0,[]) dl dm (wkA [(8,8),(9,9),(10,10),(11,11)] [] [12]) ?_
    intro ac ff ah
    unfold qbi at ah
    refine qc<|O (.d (.bool (decide (ac.1 < (am.length : Int))))) J<|qa<|qh ?_
    refine qp J ah (fun _ ah=>?_) (fun _ ah=>?_)
    ·refine qo<|qh ?_
     obtain ⟨dn,y,ah⟩:=q9 ah
     refine Qm (fun az=>az = dn) (fun (az : List qm)=>⟨[(0,.yld 7),(1,.ref 4 1 0 0),(2,.ref 5 1 0 0),(4,q6 a.1),(5,.ref 8 3 0 0),(6,q6 1),(29,.hs 6 1 0 [b,c].length),(30,q6 2),(31,q6 1),(36,.d (.sl 4 (am.map qu))),(37,q6 (am.length : Int)),(38,q6 ac.1)],[(0,.dat 1 [[.fn p2F p2C]]),(1,.dat 1 [[.nilsl]]),(2,.dat 1 [[G 0]]),(3,.cel 4 [[.hs 9 4 0 a.2.2.2.2.length,.d (.sl 2 (a.2.1.map Q3)),q6 a.2.2.1,q6 a.2.2.2.1]]),(4,.cel 1 [[.d (.sl 1 (j.map (eI .i64)))]]),(5,.cel 1 [[.hs 6 1 0 [b,c].length]]),(6,.dat 1 ([b,c].map Ke)),(7,.loop [(5,.ref 0 1 0 0),(6,.ref 1 1 0 0),(7,.ref 2 1 0 0),(9,.ref 3 4 0 0),(22,.fn 168 [.ref 4 1 0 0,.ref 5 1 0 0])] [23] A1439 B1440 .ready none),(8,.cel 3 [[q6 f,q6 m,.hs 10 1 0 2]]),(9,.dat 4 (a.2.2.2.2.map qu)),(10,.cel 1 [[.hs 11 2 0 n.length],[.hs 12 2 0 az.length]]),(11,.dat 2 (n.map Q3)),(12,.dat 2 (az.map Q3))],13⟩) qf ?_ ?_
     ·refine qc ?_
      obtain ⟨h,dp,y⟩:=q9 y
      refine Qz (enc:=qu) dp J<|O (.d (.agg [G h.X0,G h.Y0,G h.X1,G h.Y1])) J<|Qe J J<|qz 13 (.dat 4 [[G h.X0,G h.Y0,G h.X1,G h.Y1]]) J<|qs<|O (.ref 13 4 0 0) J<|O (q6 h.X0) J<|O (.ref 8 3 0 0) J<|O (q6 f) J<|O (.d (.bool (decide (h.X0≤f)))) J ?_
      obtain ⟨dq,ba,y⟩:=q9 y
      refine Q9 7 (fun A st=>∃ (bs bt bu bv bw bz : V),st = A [(53,qg dq),(52,bz),(51,bw),(50,bv),(49,bu),(48,bt),(47,bs)]) ?_ ?_
      ·refine Q8 J J ba (fun ba=>?_) (fun ba=>?_)
       ·refine O (.ref 8 3 0 0) J<|O (q6 f) J<|O (.ref 13 4 0 2) J<|O (q6 h.X1) J<|O (.d (.bool (decide (f < h.X1)))) J<|O (.d (.bool (decide (f < h.X1)))) J<|qa ?_
        obtain rfl:=qe ba
        exact ⟨_,_,_,_,_,_,J⟩
       refine qd J<|qd J<|qd J<|qd J<|qd J<|O (qg false) J<|qa ?_
       obtain rfl:=qe ba
       exact ⟨_,_,_,_,_,_,J⟩
      rintro _ ⟨bs,bt,bu,bv,bw,bz,rfl⟩
      refine qa ?_
      refine qp J y (fun _ y=>?_) (fun _ y=>?_)
      ·refine Qd [Qh 10,q8,(some [12,14],[12,15]),(some [],[14]),q8,qr 13,q8,qr 13,q8,qr 10,q8,q8,qr 8,q8,q8,qr 8,q8] qj<|O (.ref 8 3 0 2) J<|O (.hs 10 1 0 2) J<|q0 J<|O (.ref 8 3 0 2) J<|O (.hs 10 1 0 2) J<|q0 J<|O (.ref 10 1 1 0) J<|O (.hs 12 2 0 ac.2.length) J<|O (.ref 13 4 0 1) J<|O (q6 h.Y0) J<|O (.ref 13 4 0 3) J<|O (q6 h.Y1) J<|O (.d (.agg [G h.Y0,G h.Y1])) J<|Ql (.hs 14 2 0 [({Lo:=h.Y0,Hi:=h.Y1} : qm)].length) (.dat 2 ([({Lo:=h.Y0,Hi:=h.Y1} : qm)].map Q3)) J ?_
       obtain ⟨dr,ds,y⟩:=q9 y
       refine Yr (xs:=ac.2) (ys:=[({Lo:=h.Y0,Hi:=h.Y1} : qm)]) (enc:=Q3) (.hs 14 2 0 [({Lo:=h.Y0,Hi:=h.Y1} : qm)].length) ds J J J J J J J (Yo J J) J J J J<|O (.ref 10 1 1 0) J<|qz 10 (.cel 1 [[.hs 11 2 0 n.length],[.hs 15 2 0 dr.length]]) J<|qx ?_
       obtain rfl:=qe y
       exact ⟨_,J,wkA [(8,8),(9,9),(10,10),(11,11),(12,15)] [] []⟩
      refine qo<|Qc ?_
      obtain rfl:=qe y
      exact ⟨_,J,wkA [(8,8),(9,9),(10,10),(11,11),(12,12)] [] []⟩
     intro az hb
     subst hb
     refine qy<|O (.d (G (w64 (ac.1 + 1)))) J<|q0 J<|qx ?_
     exact ⟨_,(Option.some.inj ah).symm,wkA [(8,8),(9,9),(10,10),(11,11),(12,12)] [] []⟩
    refine Qb ?_
    refine ⟨_,(Option.some.inj ah).symm,fun hm=>?_⟩
    subst hm
    obtain rfl:=qe ay
    exact ⟨_,J,wkA [(8,8),(9,9),(10,10),(11,11),(12,12)] [] []⟩
   intro u hb
   subst hb
   refine qy<|O (q6 2) J<|q0 J<|qa<|Ya<|qc<|O (qg false) J<|qa<|qh<|Z6 J<|Qb<|Ji<|qh ?_
   refine Yj (st':=⟨[(0,.yld 7),(1,.ref 4 1 0 0),(2,.ref 5 1 0 0),(4,q6 a.1),(5,.ref 8 3 0 0)],[(0,.dat 1 [[.fn p2F p2C]]),(1,.dat 1 [[.nilsl]]),(2,.dat 1 [[G 0]]),(3,.cel 4 [[.hs 9 4 0 a.2.2.2.2.length,.d (.sl 2 (a.2.1.map Q3)),q6 a.2.2.1,q6 a.2.2.2.1]]),(4,.cel 1 [[.d (.sl 1 (j.map (eI .i64)))]]),(5,.cel 1 [[.hs 6 1 0 [b,c].length]]),(6,.dat 1 ([b,c].map Ke)),(7,.loop [(5,.ref 0 1 0 0),(6,.ref 1 1 0 0),(7,.ref 2 1 0 0),(9,.ref 3 4 0 0),(22,.fn 168 [.ref 4 1 0 0,.ref 5 1 0 0])] [23] A1439 B1440 .ready none),(8,.cel 3 [[q6 f,q6 m,.hs 10 1 0 2]]),(9,.dat 4 (a.2.2.2.2.map qu)),(10,.cel 1 [[.d (.sl 2 (n.map Q3))],[.hs 11 2 0 u.length]]),(11,.dat 2 (u.map Q3))],12⟩) (wkA [(8,8),(9,9),(10,10),(11,12)] [11] []) ?_ qf
   refine Yj (st':=⟨[(0,.yld 7),(1,.ref 4 1 0 0),(2,.ref 5 1 0 0),(4,q6 a.1),(5,.ref 8 3 0 0)],[(0,.dat 1 [[.fn p2F p2C]]),(1,.dat 1 [[.nilsl]]),(2,.dat 1 [[G 0]]),(3,.cel 4 [[.hs 9 4 0 a.2.2.2.2.length,.d (.sl 2 (a.2.1.map Q3)),q6 a.2.2.1,q6 a.2.2.2.1]]),(4,.cel 1 [[.d (.sl 1 (j.map (eI .i64)))]]),(5,.cel 1 [[.hs 6 1 0 [b,c].length]]),(6,.dat 1 ([b,c].map Ke)),(7,.loop [(5,.ref 0 1 0 0),(6,.ref 1 1 0 0),(7,.ref 2 1 0 0),(9,.ref 3 4 0 0),(22,.fn 168 [.ref 4 1 0 0,.ref 5 1 0 0])] [23] A1439 B1440 .ready none),(8,.cel 3 [[q6 f,q6 m,.hs 10 1 0 2]]),(9,.dat 4 (a.2.2.2.2.map qu)),(10,.cel 1 [[.d (.sl 2 (n.map Q3))],[.d (.sl 2 (u.map Q3))]])],11⟩) (wkA [(8,8),(9,9),(10,10)] [11] []) ?_ qf
   refine qy<|q0 J<|O (.agg [q6 f,q6 m,.hs 10 1 0 2]) J ?_
   obtain ⟨dt,ad,o⟩:=q9 o
   refine q7s (fun ai=>.inl ai = dt) (fun (ai : List qm × Int × Int × List ql)=>⟨[(0,.yld 7),(1,.ref 4 1 0 0),(2,.ref 5 1 0 0),(4,q6 a.1),(74,qg true)],[(0,.dat 1 [[.fn p2F p2C]]),(1,.dat 1 [[.nilsl]]),(2,.dat 1 [[G 0]]),(3,.cel 4 [[.hs 8 4 0 ai.2.2.2.length,.d (.sl 2 (ai.1.map Q3)),q6 ai.2.1,q6 ai.2.2.1]]),(4,.cel 1 [[.d (.sl 1 (j.map (eI .i64)))]]),(5,.cel 1 [[.hs 6 1 0 [b,c].length]]),(6,.dat 1 ([b,c].map Ke)),(7,.loop [(5,.ref 0 1 0 0),(6,.ref 1 1 0 0),(7,.ref 2 1 0 0),(9,.ref 3 4 0 0),(22,.fn 168 [.ref 4 1 0 0,.ref 5 1 0 0])] [23] A1439 B1440 .ready none),(8,.dat 4 (ai.2.2.2.map qu))],9⟩) hA1439 hB1440 J J J J J J ?_ ?_
   ·refine qy<|Qe J J<|qz 11 (.cel 3 [[q6 f,q6 m,.hs 10 1 0 2]]) J<|qx ?_
    refine ⟨J,_,J,?_⟩
    refine Q1<|qh<|Qd [q8,q8,q8,q8,q8,q8,qr 10,q8,qr 11,q8,qr 10,q8,qr 11,q8,qr 0] qj<|O (.d (.fn p2F p2C)) J<|O (.ref 11 3 0 2) J<|O (.hs 10 1 0 2) J<|O (.ref 10 1 0 0) J<|O (.d (.sl 2 (n.map Q3))) J<|O (.ref 11 3 0 2) J<|O (.hs 10 1 0 2) J<|O (.ref 10 1 1 0) J<|O (.d (.sl 2 (u.map Q3))) J ?_
    obtain ⟨aj,du,ad⟩:=q9 ad
    refine Yf [.d (.sl 2 (n.map Q3)),.d (.sl 2 (u.map Q3))] (p2Ok n u aj du) J J J (.inl J)<|q0 J<|O (.d (.sl 2 (aj.1.map Q3))) J<|O (q6 aj.2) J<|qb J<|qb J<|qa<|qh<|qc<|q0 J<|O (qg (aj.2 != 0)) J<|qa ?_
    refine qp J ad (fun _ ad=>?_) (fun _ ad=>?_)
    ·refine qc<|q0 J<|qz 1 (.dat 1 [[.nilsl]]) J<|qz 2 (.dat 1 [[G aj.2]]) J<|qv ?_
     obtain rfl:=qe ad
     refine ⟨_,J,?_⟩
     refine O (qg true) J<|qa<|Z7 J<|q1h ?_
     refine ⟨_,(Option.some.inj o).symm,fun hm=>?_⟩
     subst hm
     refine ⟨.inr J,_,J,_,_,.ret,J,qt,?_⟩
     refine qcs ?_
     obtain rfl:=qe bd
     obtain rfl:=qe p
     exact finD (.inr J) (v:=.d (.tup [.nilsl,G aj.2])) J J (Yc (.cons (.nil _) (.cons (.refl _) .nil)))
    refine qo<|qy<|O (.ref 11 3 0 0) J<|O (q6 f) J<|O (.ref 11 3 0 1) J<|O (q6 m) J<|q0 J ?_
    obtain ⟨ao,dv,ad⟩:=q9 ad
    refine K2 [(0,3),(1,9)] [(0,3),(1,3),(2,3),(3,0),(4,3),(5,3),(6,3),(7,3),(8,3),(9,1),(10,3),(11,3),(12,2)] [.ref 3 4 0 0,q6 f,q6 m,.d (.sl 2 (aj.1.map Q3))] (.d (.tup [])) 2 [(3,.cel 4 [[.hs 12 4 0 ao.2.2.2.length,.d (.sl 2 (ao.1.map Q3)),q6 ao.2.1,q6 ao.2.2.1]]),(12,.dat 4 (ao.2.2.2.map qu)),(0,.dat 1 [[.fn p2F p2C]]),(1,.dat 1 [[.nilsl]]),(2,.dat 1 [[G 0]]),(4,.cel 1 [[.d (.sl 1 (j.map (eI .i64)))]]),(5,.cel 1 [[.hs 6 1 0 [b,c].length]]),(6,.dat 1 ([b,c].map Ke)),(7,.loop [(5,.ref 0 1 0 0),(6,.ref 1 1 0 0),(7,.ref 2 1 0 0),(9,.ref 3 4 0 0),(22,.fn 168 [.ref 4 1 0 0,.ref 5 1 0 0])] [23] A1439 B1440 .busy none),(8,.cel 3 [[q6 f,q6 m,.hs 10 1 0 2]]),(10,.cel 1 [[.d (.sl 2 (n.map Q3))],[.d (.sl 2 (u.map Q3))]]),(11,.cel 3 [[q6 f,q6 m,.hs 10 1 0 2]])] 13 (qkw a.2.2.2.2 a.2.1 a.2.2.1 a.2.2.2.1 f m aj.1 ao dv)<|qx<|Qj<|Qc ?_
    refine ⟨_,J,?_⟩
    obtain rfl:=qe ad
    exact ⟨_,J,wkA [(8,12)] [] []⟩
   intro ai hb
   subst hb
   refine O (qg false) J<|qa<|Z6 J<|qo<|Qc<|Qj<|qy<|q0 J<|O (.d (G (w64 (a.1 + 1)))) J<|qb J<|qx ?_
   exact ⟨_,(Option.some.inj o).symm,wkA [(8,8)] [] []⟩
  refine Qb ?_
  refine ⟨_,(Option.some.inj o).symm,fun hm=>?_⟩
  subst hm
  refine ⟨.inl J,_,J,_,_,.nor,J,qt,?_⟩
  refine q6z<|Qc ?_
  obtain rfl:=qe bd
  exact ⟨_,J,wkA [(0,1),(1,2),(2,3),(3,8)] [] []⟩
 intro t st hb hw
 subst hb
 refine Yj hw ?_ qf
 refine qc ?_
 obtain ⟨dw,bb,p⟩:=q9 p
 refine q2i [.ref 2 4 0 0] (fun w=>w = dw) (fun (w : Int × List ql)=>⟨[(6,.ref 0 1 0 0),(7,.ref 1 1 0 0),(46,.tup [.hs 2 4 0 w.2.length,q6 w.1])],[(0,.dat 1 [[.nilsl]]),(1,.dat 1 [[G 0]]),(2,.dat 4 (w.2.map qu))],3⟩) J J Tryz.func139 J qj qj J ?_ ?_
 ·refine qc<|qb J<|qb J<|qa<|qh<|qc<|q0 J<|O (.ref 2 4 0 0) J<|O (.ref 2 4 0 0) J<|O (.hs 3 4 0 t.2.2.2.length) J<|O (q6 (t.2.2.2.length : Int)) J<|O (.d (.bool (decide ((t.2.2.2.length : Int) > 400)))) J<|qa ?_
  refine qp J bb (fun _ bb=>?_) (fun _ bb=>?_)
  ·refine qc<|qb J<|qb J<|qv ?_
   refine ⟨.inr J,_,J,?_⟩
   obtain rfl:=qe bb
   exact ⟨_,J,wkA [(0,0),(1,1)] [] [2]⟩
  refine qo<|qc<|q0 J<|O (.ref 2 4 0 0) J<|O (.ref 2 4 0 0) J<|O (.hs 3 4 0 t.2.2.2.length) J<|qb J<|qb J<|qv ?_
  refine ⟨.inr J,_,J,?_⟩
  obtain rfl:=qe bb
  exact ⟨_,J,wkA [(0,0),(1,1),(2,3)] [] []⟩
 intro w hb
 subst hb
 refine O (.hs 2 4 0 w.2.length) J<|O (q6 w.1) J<|qz 0 (.cel 1 [[.hs 2 4 0 w.2.length]]) J<|qz 1 (.dat 1 [[G w.1]]) J<|qv ?_
 obtain rfl:=qe p
 exact finD (.inr J) (v:=.tup [.hs 2 4 0 w.2.length,q6 w.1]) J (q6y (Jp (Jb J J) (Jp J J))) (.refl _)
theorem qm3 (f : List qm) (r : Int) (c : q2v f = some r) : Pure Tryz.prog tab 169 [.sl 2 (f.map Q3)] (G r):=by
 unfold q2v at c
 refine Qi Tryz.func169 J qj qj J<|qc<|qb J<|qa<|qh<|qc<|q0 J<|Qy J<|O (.d (.bool (decide ((f.length : Int) > 400)))) J<|qa ?_
 refine qp J c (fun _ c=>?_) (fun _ c=>?_)
 ·refine qc<|qb J<|qv ?_
  obtain rfl:=qe c
  exact Q4 (q6 4) J
 refine qo<|qh<|qc<|q0 J<|Qy J<|q0 J<|qa ?_
 obtain ⟨m,ao,c⟩:=q9 c
 refine Qm (fun l=>.inl l = m) (fun (l : Unit)=>⟨[],[],0⟩) qf ?_ ?_
 ·refine Qf (q1p f) (fun (j : Int)=>⟨[(0,.d (.sl 2 (f.map Q3))),(8,.d (.sl 2 (f.map Q3))),(9,q6 (f.length : Int)),(10,q6 j)],[],0⟩) 0 m ao (wkA [] [] []) ?_
  intro j av a
  unfold q1p at a
  refine qc<|O (.d (.bool (decide (j < (f.length : Int))))) J<|qa<|qh ?_
  refine qp J a (fun _ a=>?_) (fun _ a=>?_)
  ·refine qo<|qh<|Q1<|qc<|q0 J ?_
   obtain ⟨b,ap,a⟩:=q9 a
   refine Qz (enc:=Q3) ap J<|O (.d (.agg [G b.Lo,G b.Hi])) J<|Qe J J<|qb J<|qz 0 (.dat 2 [[G b.Lo,G b.Hi]]) J<|qa<|qh<|Qd [q8,q8,q8,qr 0,q8,q8,q8,q8,q8,q8,q8,q8,q8,q8,q8,q8,q8,qr 0] qj<|O (.d (.agg [G b.Lo,G b.Hi])) J ?_
   obtain ⟨n,aq,a⟩:=q9 a
   refine Q5 (qm8 b n aq) J<|O (qg (!n)) J ?_
   obtain ⟨ar,g,a⟩:=q9 a
   refine Q9 15 (fun A st=>∃ (o p q s t u v w x y z aa ab ac : V),st = A [(32,qg ar),(31,ac),(30,ab),(29,aa),(28,z),(27,y),(26,x),(25,w),(24,v),(23,u),(22,t),(21,s),(20,q),(19,p),(18,o)]) ?_ ?_
   ·refine Q8 J J g (fun g=>?_) (fun g=>?_)
    ·refine qd J<|qd J<|qd J<|qd J<|qd J<|qd J<|qd J<|qd J<|qd J<|qd J<|qd J<|qd J<|qd J<|O (qg true) J<|qa ?_
     obtain rfl:=qe g
     exact ⟨_,_,_,_,_,_,_,_,_,_,_,_,_,_,J⟩
    refine q0 J<|O (.d (.bool (decide (j > 0)))) J ?_
    obtain ⟨ad,h,g⟩:=q9 g
    refine Q9 11 (fun A st=>∃ (ae af ag ah ai aj ak al am an : V),st = A [(31,qg ad),(30,an),(29,am),(28,al),(27,ak),(26,aj),(25,ai),(24,ah),(23,ag),(22,af),(21,ae)]) ?_ ?_
    ·refine Q8 J J h (fun h=>?_) (fun h=>?_)
     ·refine q0 J<|q0 J<|O (.d (G (w64 (j - 1)))) J ?_
      obtain ⟨k,au,h⟩:=q9 h
      refine Qz (enc:=Q3) au J<|O (.dref [G k.Lo,G k.Hi] 1) J<|O (q6 k.Hi) J<|O (.ref 0 2 0 0) J<|O (q6 b.Lo) J<|O (.d (.bool (decide (k.Hi ≥ b.Lo)))) J<|O (.d (.bool (decide (k.Hi ≥ b.Lo)))) J<|qa ?_
      obtain rfl:=qe h
      exact ⟨_,_,_,_,_,_,_,_,_,_,J⟩
     refine qd J<|qd J<|qd J<|qd J<|qd J<|qd J<|qd J<|qd J<|qd J<|O (qg false) J<|qa ?_
     obtain rfl:=qe h
     exact ⟨_,_,_,_,_,_,_,_,_,_,J⟩
    rintro _ ⟨ae,af,ag,ah,ai,aj,ak,al,am,an,rfl⟩
    refine O (qg ad) J<|qa ?_
    obtain rfl:=qe g
    exact ⟨_,_,_,_,_,_,_,_,_,_,_,_,_,_,J⟩
   rintro _ ⟨o,p,q,s,t,u,v,w,x,y,z,aa,ab,ac,rfl⟩
   refine qa ?_
   refine qp J a (fun _ a=>?_) (fun _ a=>?_)
   ·refine qc<|qb J<|qv ?_
    refine ⟨_,(Option.some.inj a).symm,fun hm=>?_⟩
    subst hm
    obtain rfl:=qe c
    exact Q4 (q6 8) J
   refine qo<|Qc<|Qj<|qy<|O (.d (G (w64 (j + 1)))) J<|q0 J<|qx ?_
   exact ⟨_,(Option.some.inj a).symm,wkA [] [] []⟩
  refine Qb ?_
  refine ⟨_,(Option.some.inj a).symm,fun hm=>?_⟩
  subst hm
  exact ⟨_,J,wkA [] [] []⟩
 intro l hb
 subst hb
 refine qc<|qb J<|qv ?_
 obtain rfl:=qe c
 exact Q4 (q6 0) J
end Go.Proofs.YtlchefooafpdlaaGreat
