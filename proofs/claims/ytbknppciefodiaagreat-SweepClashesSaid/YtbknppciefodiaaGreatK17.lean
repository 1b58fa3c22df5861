/- W_Allc -/
import Derived.Test.YtbknppciefodiaaGreatK16
namespace Go.Proofs.YtbknppciefodiaaGreat
open Go Go.Am Go.Sh
set_option maxHeartbeats 8000000
set_option maxRecDepth 100000
theorem qnw (a : Qb) (r : Bool) (c : qav a = some r) : Pure Tryz.prog tab 74 [.agg [q9 a.X,q9 a.Y,q9 a.Z]] (.bool r):=by
 unfold qav at c
 refine Qf Tryz.func74 J qh qh J<|qc<|Qj _ _ J<|qb J<|qp<|G _ J<|G _ J<|G _ J<|G _ J<|G _ J<|G _ J<|q2g (r:=min (min a.X a.Y) a.Z) J J (by simp only [q2e];rfl)<|G _ J ?_
 obtain ⟨o,b,c⟩:=q6 c
 refine Q2 10 (fun A st=>∃ d f g h j k l m n,st = A [(20,qu o),(19,n),(18,m),(17,l),(16,k),(15,j),(14,h),(13,g),(12,f),(11,d)]) ?_ ?_
 ·refine Q0 J J b (fun b=>?_) (fun b=>?_)
  ·refine G _ J<|G _ J<|G _ J<|G _ J<|G _ J<|G _ J<|U9 (r:=max (max a.X a.Y) a.Z) J J (by simp only [U7];rfl)<|G _ J<|G _ J<|qa ?_
   obtain rfl:=qd b
   exact ⟨_,_,_,_,_,_,_,_,_,J⟩
  refine q8 J<|q8 J<|q8 J<|q8 J<|q8 J<|q8 J<|q8 J<|q8 J<|G _ J<|qa ?_
  obtain rfl:=qd b
  exact ⟨_,_,_,_,_,_,_,_,_,J⟩
 rintro _ ⟨d,f,g,h,j,k,l,m,n,rfl⟩
 refine qb J<|qo ?_
 obtain rfl:=qd c
 exact qy _ J
theorem qy5 (c : List qg) (g : qg→Option Bool) (p1F : FuncId) (p1C : List DV) (p1Ok : ∀ (b : qg) (r : Bool),g b = some r→Pure Tryz.prog tab p1F ([.agg [q9 b.Lo.X,q9 b.Lo.Y,q9 b.Lo.Z,q9 b.Hi.X,q9 b.Hi.Y,q9 b.Hi.Z]] ++ p1C) (.bool r)) (r : Int) (f : qcr c g = some r) : Pure Tryz.prog tab 119 [.sl 6 (c.map Q6),.fn p1F p1C] (q9 r):=by
 unfold qcr at f
 refine Qf Tryz.func119 J qh qh J<|qc<|qb J<|qa<|qf<|qc<|O J<|Qa J<|O J<|qa ?_
 obtain ⟨j,l,f⟩:=q6 f
 refine Qc (fun h=>.inl h = j) (fun h=>⟨[],[],0⟩) qe ?_ ?_
 ·refine Q5 (q3z c g) (fun k=>⟨[(0,.d (.sl 6 (c.map Q6))),(1,.d (.fn p1F p1C)),(7,q7 (c.length : Int)),(8,q7 k)],[],0⟩) 0 j l (wkA [] [] []) ?_
  intro k q a
  unfold q3z at a
  refine qc<|G _ J<|qa<|qf ?_
  refine qm J a (fun _ a=>?_) (fun _ a=>?_)
  ·refine qk<|qf<|qx<|qc<|O J<|qb J<|qp<|O J<|O J<|O J ?_
   obtain ⟨m,n,a⟩:=q6 a
   refine Q1 n J<|G _ J ?_
   obtain ⟨o,p,a⟩:=q6 a
   refine Y7 _ (p1Ok m o p) J J J (.inl J)<|qa ?_
   refine qm J a (fun _ a=>?_) (fun _ a=>?_)
   ·refine qc<|O J<|qb J<|qo ?_
    refine ⟨_,(Option.some.inj a).symm,fun hm=>?_⟩
    subst hm
    obtain rfl:=qd f
    exact qy _ J
   refine qk<|Q7<|Qg<|qt<|G _ J<|O J<|qr ?_
   exact ⟨_,(Option.some.inj a).symm,wkA [] [] []⟩
  refine Q3 ?_
  refine ⟨_,(Option.some.inj a).symm,fun hm=>?_⟩
  subst hm
  exact ⟨_,J,wkA [] [] []⟩
 intro h hb
 subst hb
 refine qc<|qb J<|qo ?_
 obtain rfl:=qd f
 exact qy _ J
theorem qxy (c : List qg) (d : qg→Option Bool) (p1F : FuncId) (p1C : List DV) (p1Ok : ∀ (a : qg) (r : Bool),d a = some r→Pure Tryz.prog tab p1F ([.agg [q9 a.Lo.X,q9 a.Lo.Y,q9 a.Lo.Z,q9 a.Hi.X,q9 a.Hi.Y,q9 a.Hi.Z]] ++ p1C) (.bool r)) (r : Bool) (b : q9c c d = some r) : Pure Tryz.prog tab 94 [.sl 6 (c.map Q6),.fn p1F p1C] (.bool r):=by
 unfold q9c at b
 refine Qf Tryz.func94 J qh qh J<|qc<|qb J<|qp<|O J<|O J ?_
 obtain ⟨f,g,b⟩:=q6 b
 refine qz (qy5 c d p1F p1C p1Ok f g) J<|G _ J<|qb J<|qo ?_
 obtain rfl:=qd b
 exact qy _ J
theorem q110 (a : qg) (r : Bool) (b : q2w a = some r) : Pure Tryz.prog tab 95 [.agg [q9 a.Lo.X,q9 a.Lo.Y,q9 a.Lo.Z,q9 a.Hi.X,q9 a.Hi.Y,q9 a.Hi.Z]] (.bool r):=by
 unfold q2w at b
 refine Qf Tryz.func95 J qh qh J<|qc<|Qj _ _ J<|qb J<|qp<|G _ J ?_
 obtain ⟨c,d,b⟩:=q6 b
 refine qz (qn7 a c d) J<|G _ J<|qb J<|qo ?_
 obtain rfl:=qd b
 exact qy _ J
theorem q112 (b : List qg) (r : List qg × Int) (a : qac b = some r) : Pure Tryz.prog tab 64 [.sl 6 (b.map Q6)] (.tup [.sl 6 (r.1.map Q6),q9 r.2]):=by
 unfold qac at a
 refine Qf Tryz.func64 J qh qh J<|qc<|qb J<|qb J<|qa<|qf<|qc<|O J<|Qa J<|G _ J<|qa ?_
 refine qm J a (fun _ a=>?_) (fun _ a=>?_)
 ·refine qc<|qb J<|qb J<|qo ?_
  obtain rfl:=qd a
  exact finD (.inr J) J J (Kz (.cons (.nil _) (.cons (.refl _) .nil)))
 refine qk<|qf<|qc<|O J ?_
 obtain ⟨d,f,a⟩:=q6 a
 refine qz (qxy b (fun c=>q2w c) 95 [] (fun c r hr=>q110 c r hr) d f) J<|qa ?_
 refine qm J a (fun _ a=>?_) (fun _ a=>?_)
 ·refine qc<|qb J<|qb J<|qo ?_
  obtain rfl:=qd a
  exact finD (.inr J) J J (Kz (.cons (.nil _) (.cons (.refl _) .nil)))
 refine qk<|qc<|G _ J<|O J<|q3h (es:=1) ([b].map Ql) J J J J J ?_
 obtain ⟨g,h,a⟩:=q6 a
 refine qz (qn8 b g h) J<|G _ J<|G _ J<|qb J<|qb J<|qo ?_
 obtain rfl:=qd a
 exact qy _ J
theorem qnv (a : Qx) (j : List qg) (r : List qg × Int) (c : q7t a j = some r) : Pure Tryz.prog tab 45 [.agg [q9 a.From.X,q9 a.From.Y,q9 a.From.Z,q9 a.To.X,q9 a.To.Y,q9 a.To.Z,q9 a.Depth],.sl 6 (j.map Q6)] (.tup [.sl 6 (r.1.map Q6),q9 r.2]):=by
 unfold q7t at c
 refine Qf Tryz.func45 J qh qh J<|qc<|Qj _ _ J<|qb J<|qb J<|qa<|qf<|Q9 [Qm 2,Qm 1,(some [],[2]),(some [],[1]),qq 0,U,qq 0,U] qh<|G _ J<|G _ J<|G _ J<|G _ J<|Qv J J<|Qv J J<|Qd 1 _ J<|Qd 2 _ J<|qp<|G _ J<|G _ J<|G _ J<|G _ J<|q2g (r:=min a.From.X a.To.X) J J (by simp only [q2e];rfl)<|G _ J<|G _ J<|G _ J<|G _ J<|q2g (r:=min a.From.Y a.To.Y) J J (by simp only [q2e];rfl)<|G _ J<|G _ J<|G _ J<|G _ J<|q2g (r:=min a.From.Z a.To.Z) J J (by simp only [q2e];rfl)<|G _ J<|Qv J J<|Qd 3 _ J<|qp<|G _ J<|G _ J<|G _ J<|G _ J ?_
 refine U9 (r:=max a.From.X a.To.X) J J (by simp only [U7];rfl)<|G _ J<|G _ J<|G _ J<|G _ J<|U9 (r:=max a.From.Y a.To.Y) J J (by simp only [U7];rfl)<|G _ J<|G _ J<|G _ J<|G _ J<|U9 (r:=max a.From.Z a.To.Z) J J (by simp only [U7];rfl)<|G _ J<|Qv J J<|Qd 4 _ J<|qp<|qb J<|qa<|qf<|qc<|O J<|Qa J<|O J<|qa ?_
 obtain ⟨l,s,c⟩:=q6 c
 refine Qc (fun f=>.inl f = l) (fun f=>⟨[(10,.hs 0 6 0 f.length)],[(0,.dat 6 (f.map Q6))],1⟩) qe ?_ ?_
 ·refine Q5 (q4l j a) (fun k=>⟨[(8,.ref 0 3 0 0),(9,.ref 1 3 0 0),(10,.hs 2 6 0 k.2.length),(50,.d (.sl 6 (j.map Q6))),(51,q7 (j.length : Int)),(52,q7 k.1)],[(0,.dat 3 [[q9 (min a.From.X a.To.X),q9 (min a.From.Y a.To.Y),q9 (min a.From.Z a.To.Z)]]),(1,.dat 3 [[q9 (max a.From.X a.To.X),q9 (max a.From.Y a.To.Y),q9 (max a.From.Z a.To.Z)]]),(2,.dat 6 (k.2.map Q6))],3⟩) (0,[]) l s (wkA [(0,3),(1,4)] [] [2]) ?_
  intro k ac b
  unfold q4l at b
  refine qc<|G _ J<|qa<|qf ?_
  refine qm J b (fun _ b=>?_) (fun _ b=>?_)
  ·refine qk<|qf<|qx<|qc ?_
   obtain ⟨h,t,b⟩:=q6 b
   refine Q1 t J<|G _ J<|Qv J J<|Qd 3 _ J<|qp<|G _ J<|G _ J<|G _ J<|G _ J<|G _ J<|G _ J<|G _ J<|G _ J<|G _ J<|G _ J<|G _ J<|G _ J<|G _ J<|G _ J<|G _ J<|G _ J<|G _ J<|G _ J<|G _ J<|G _ J<|G _ J<|G _ J<|G _ J<|G _ J<|G _ J<|G _ J<|G _ J<|G _ J<|G _ J<|G _ J<|G _ J<|G _ J<|G _ J<|G _ J<|G _ J ?_
   refine G _ J<|G _ J<|G _ J<|G _ J<|Qv J J<|Qd 4 _ J<|qa<|qf<|qc<|G _ J<|G _ J ?_
   obtain ⟨u,v,b⟩:=q6 b
   refine qz (qnw ({X:=w64 (h.Lo.X + (min a.From.X a.To.X)),Y:=w64 (h.Lo.Y + (min a.From.Y a.To.Y)),Z:=w64 (h.Lo.Z + (min a.From.Z a.To.Z))} : Qb) u v) J<|G _ J ?_
   obtain ⟨w,g,b⟩:=q6 b
   refine Q2 6 (fun A st=>∃ m n o p q,st = A [(104,qu w),(103,q),(102,p),(101,o),(100,n),(99,m)]) ?_ ?_
   ·refine Q0 J J g (fun g=>?_) (fun g=>?_)
    ·refine q8 J<|q8 J<|q8 J<|q8 J<|G _ J<|qa ?_
     obtain rfl:=qd g
     exact ⟨_,_,_,_,_,J⟩
    refine G _ J<|G _ J ?_
    obtain ⟨x,y,g⟩:=q6 g
    refine qz (qnw ({X:=w64 (h.Hi.X + (max a.From.X a.To.X)),Y:=w64 (h.Hi.Y + (max a.From.Y a.To.Y)),Z:=w64 (h.Hi.Z + (max a.From.Z a.To.Z))} : Qb) x y) J<|G _ J<|G _ J<|qa ?_
    obtain rfl:=qd g
    exact ⟨_,_,_,_,_,J⟩
   rintro _ ⟨m,n,o,p,q,rfl⟩
   refine qa ?_
   refine qm J b (fun _ b=>?_) (fun _ b=>?_)
   ·refine qc<|qb J<|qb J<|qo ?_
    refine ⟨_,(Option.some.inj b).symm,fun hm=>?_⟩
    subst hm
    obtain rfl:=qd c
    exact finD (.inr J) J J (Kz (.cons (.nil _) (.cons (.refl _) .nil)))
   refine qk<|qt<|O J<|G _ J<|Qj _ _ J ?_
   obtain ⟨ad,z,b⟩:=q6 b
   refine Kn _ z J J J J J J J (Km J J) J J J J<|qb J<|qr<|Qg<|qt<|G _ J<|O J<|qr ?_
   exact ⟨_,(Option.some.inj b).symm,wkA [(0,0),(1,1),(2,6)] [] []⟩
  refine Q3 ?_
  refine ⟨_,(Option.some.inj b).symm,fun hm=>?_⟩
  subst hm
  exact ⟨_,J,wkA [(0,2)] [] []⟩
 intro f hb
 subst hb
 refine qf ?_
 refine Y2 (st':=⟨[(10,.d (.sl 6 (f.map Q6)))],[],0⟩) (wkA [] [0] []) ?_ qe
 refine qt<|O J ?_
 obtain ⟨aa,ab,c⟩:=q6 c
 refine qz (q112 f aa ab) J<|G _ J<|G _ J<|qb J<|qb J<|qo ?_
 obtain rfl:=qd c
 exact qy _ J
theorem qgp (a : Qn) (f : List (List qg)) (r : List (List qg) × Int) (c : q4f a f = some r) : Pure Tryz.prog tab 11 [.agg [.sl 7 (a.Lines.map Kb),.sl 5 (a.Marks.map Kj),.int .u8 a.End.Frame.Turn,q9 a.End.Frame.At.X,q9 a.End.Frame.At.Y,q9 a.End.Frame.At.Z,q9 a.End.Drawn],.sl 1 (f.map Ql)] (.tup [.sl 1 (r.1.map Ql),q9 r.2]):=by
 unfold q4f at c
 refine Qf Tryz.func11 J qh qh J<|qc<|Qj _ _ J<|Qv J J<|Qv J J<|qa<|qf<|qc<|G _ J<|O J ?_
 obtain ⟨o,p,c⟩:=q6 c
 refine qz (q129 a f o p) J<|qb J<|qp<|O J<|G _ J<|qa ?_
 refine qm J c (fun _ c=>?_) (fun _ c=>?_)
 ·refine qc<|O J<|Qd 1 _ J<|Qd 2 _ J<|qo ?_
  obtain rfl:=qd c
  exact finD (.inr J) J J (Kz (.cons (.nil _) (.cons (.refl _) .nil)))
 refine qk<|qc<|Qv J J<|qa<|qf<|qc<|G _ J<|O J ?_
 obtain ⟨q,s,c⟩:=q6 c
 refine q3g [.d (.agg [.sl 7 (a.Lines.map Kb),.sl 5 (a.Marks.map Kj),.int .u8 a.End.Frame.Turn,q9 a.End.Frame.At.X,q9 a.End.Frame.At.Y,q9 a.End.Frame.At.Z,q9 a.End.Drawn]),.d (.sl 1 (f.map Ql))] (fun m=>m = q) (fun (m : Unit)=>⟨[(4,.ref 0 1 0 0),(5,.ref 1 1 0 0),(7,.ref 2 1 0 0),(18,.fn 67 [.ref 3 7 0 0,.ref 4 1 0 0])],[(0,.dat 1 [[.nilsl]]),(1,.dat 1 [[q9 0]]),(2,.dat 1 [[.nilsl]]),(3,.dat 7 [[.sl 7 (a.Lines.map Kb),.sl 5 (a.Marks.map Kj),.int .u8 a.End.Frame.Turn,q9 a.End.Frame.At.X,q9 a.End.Frame.At.Y,q9 a.End.Frame.At.Z,q9 a.End.Drawn]]),(4,.dat 1 [[.sl 1 (f.map Ql)]])],5⟩) J J Tryz.func40 J qh qh J ?_ ?_
 ·refine qc<|Qj _ _ J<|Qj _ _ J<|qb J<|qp<|G _ J<|qb J<|qo ?_
  refine ⟨.inr J,_,J,?_⟩
  obtain rfl:=qd s
  exact ⟨_,J,wkA [(0,1),(1,2),(2,3),(3,4),(4,5)] [] []⟩
 intro m hb
 subst hb
 refine qa<|qx ?_
 obtain ⟨t,l,c⟩:=q6 c
 refine q69 (fun h=>.inl h = t) (fun h=>⟨[(4,.ref 0 1 0 0),(5,.ref 1 1 0 0),(7,.ref 2 1 0 0)],[(0,.dat 1 [[.nilsl]]),(1,.dat 1 [[q9 0]]),(2,.cel 1 [[.hs 3 1 0 h.length]]),(3,.dat 1 (h.map Ql))],4⟩) ?_ ?_
 ·refine Y2 (st':=⟨[(4,.ref 0 1 0 0),(5,.ref 1 1 0 0),(7,.ref 2 1 0 0),(18,.fn 67 [.ref 3 7 0 0,.ref 4 1 0 0])],[(0,.dat 1 [[.nilsl]]),(1,.dat 1 [[q9 0]]),(2,.dat 1 [[.nilsl]]),(3,.dat 7 [[.sl 7 (a.Lines.map Kb),.sl 5 (a.Marks.map Kj),.int .u8 a.End.Frame.Turn,q9 a.End.Frame.At.X,q9 a.End.Frame.At.Y,q9 a.End.Frame.At.Z,q9 a.End.Drawn]]),(4,.dat 1 [[.sl 1 (f.map Ql)]])],5⟩) (wkA [(0,0),(1,1),(2,2),(3,3),(4,4)] [] []) ?_ qe
  refine q6a _ (.inl J) Tryz.func67 J qh qh J ?_
  intro A90 B91 hA90 hB91
  refine qc<|G _ J<|G _ J<|Qa J<|O J<|qa ?_
  obtain ⟨u,v,l⟩:=q6 l
  refine qx<|Q5 (q7q a f) (fun j=>⟨[(0,.yld 5),(2,.ref 4 1 0 0),(7,.d (.sl 7 (a.Lines.map Kb))),(8,q7 (a.Lines.length : Int)),(9,q7 j.1)],[(0,.dat 1 [[.nilsl]]),(1,.dat 1 [[q9 0]]),(2,.cel 1 [[.hs 6 1 0 j.2.length]]),(3,.dat 7 [[.sl 7 (a.Lines.map Kb),.sl 5 (a.Marks.map Kj),.int .u8 a.End.Frame.Turn,q9 a.End.Frame.At.X,q9 a.End.Frame.At.Y,q9 a.End.Frame.At.Z,q9 a.End.Drawn]]),(4,.dat 1 [[.sl 1 (f.map Ql)]]),(5,.loop [(4,.ref 0 1 0 0),(5,.ref 1 1 0 0),(7,.ref 2 1 0 0),(18,.fn 67 [.ref 3 7 0 0,.ref 4 1 0 0])] [19,20] A90 B91 .ready none),(6,.dat 1 (j.2.map Ql))],7⟩) (0,[]) u v (wkA [] [] [6]) ?_
  intro j ad b
  unfold q7q at b
  refine qc<|G _ J<|qa<|qf ?_
  refine qm J b (fun _ b=>?_) (fun _ b=>?_)
  ·refine qk<|qf<|qx<|qc ?_
   obtain ⟨n,w,b⟩:=q6 b
   refine Q1 w J<|G _ J<|Qv J J<|Qd 7 _ J<|qa<|qf<|Q9 [U,(none,[0]),U,U,U,U,U,U,U,U,qq 4,qq 7,U,qq 4,qq 7,U] qh<|O J<|G _ J<|G _ J<|G _ J<|G _ J<|G _ J<|Qa J<|G _ J<|q2g (r:=min n.Depth (w64 ((f.length : Int) - 1))) J J (by simp only [q2e];rfl) ?_
   obtain ⟨x,y,b⟩:=q6 b
   refine Q1 y J<|G _ J ?_
   obtain ⟨z,aa,b⟩:=q6 b
   refine qz (qnv n x z aa) J<|G _ J<|G _ J<|qtn J ?_
   obtain ⟨ab,g,b⟩:=q6 b
   refine q5g (fun k=>.inl k = ab) (fun (k : List (List qg))=>⟨[(0,.yld 5),(2,.ref 4 1 0 0),(7,.d (.sl 7 (a.Lines.map Kb))),(8,q7 (a.Lines.length : Int)),(9,q7 j.1),(27,qu true)],[(0,.dat 1 [[.nilsl]]),(1,.dat 1 [[q9 0]]),(2,.cel 1 [[.hs 6 1 0 k.length]]),(3,.dat 7 [[.sl 7 (a.Lines.map Kb),.sl 5 (a.Marks.map Kj),.int .u8 a.End.Frame.Turn,q9 a.End.Frame.At.X,q9 a.End.Frame.At.Y,q9 a.End.Frame.At.Z,q9 a.End.Drawn]]),(4,.dat 1 [[.sl 1 (f.map Ql)]]),(5,.loop [(4,.ref 0 1 0 0),(5,.ref 1 1 0 0),(7,.ref 2 1 0 0),(18,.fn 67 [.ref 3 7 0 0,.ref 4 1 0 0])] [19,20] A90 B91 .ready none),(6,.dat 1 (k.map Ql))],7⟩) hA90 hB91 J J J J J J ?_ ?_
   ·refine qc<|qb J<|qa<|qt<|qb J<|qr ?_
    refine ⟨J,_,J,?_⟩
    refine qx<|qf<|qc<|O J<|G _ J<|qa ?_
    refine qm J g (fun _ g=>?_) (fun _ g=>?_)
    ·refine qc<|O J<|Qd 0 _ J<|Qd 1 _ J<|qo ?_
     obtain rfl:=qd g
     refine ⟨_,J,?_⟩
     refine qa<|G _ J<|qa<|Z4 J<|Uq ?_
     refine ⟨_,(Option.some.inj b).symm,fun hm=>?_⟩
     subst hm
     refine ⟨.inr J,_,J,_,_,.ret,J,qs,?_⟩
     refine qb9 ?_
     obtain rfl:=qd l
     obtain rfl:=qd c
     exact finD (.inr J) J J (Kz (.cons (.nil _) (.cons (.refl _) .nil)))
    refine qk<|qt<|G _ J<|O J<|Qj _ _ J ?_
    obtain ⟨ae,ac,g⟩:=q6 g
    refine Kn _ ac J J J J J J J (Km J J) J J J J<|Qd 2 _ J<|qr<|Qg<|Q7 ?_
    refine ⟨_,J,?_⟩
    obtain rfl:=qd g
    exact ⟨_,J,wkA [(6,9)] [] []⟩
   intro k hb
   subst hb
   refine qa<|G _ J<|qa<|Z2 J<|qk<|Q7<|Qg<|qt<|G _ J<|O J<|qr ?_
   exact ⟨_,(Option.some.inj b).symm,wkA [(6,6)] [] []⟩
  refine Q3 ?_
  refine ⟨_,(Option.some.inj b).symm,fun hm=>?_⟩
  subst hm
  refine ⟨.inl J,_,J,_,_,.nor,J,qs,?_⟩
  refine q4p<|Q7 ?_
  obtain rfl:=qd l
  exact ⟨_,J,wkA [(0,0),(1,1),(2,2),(3,6)] [] []⟩
 intro h st hb hw
 subst hb
 refine Y2 hw ?_ qe
 refine qc<|G _ J<|Qd 0 _ J<|Qd 1 _ J<|qo ?_
 obtain rfl:=qd c
 exact finD (.inr J) J (q4m (Yd (Z6 J J) (Yd J J))) (.refl _)
theorem qlr (c : Y5) (r : Int) (a : q5n c = some r) : Pure Tryz.prog tab 36 [.agg [.int .u8 c.Turn,q9 c.At.X,q9 c.At.Y,q9 c.At.Z]] (q9 r):=by
 unfold q5n at a
 refine Qf Tryz.func36 J qh qh J<|qc<|Qj _ _ J<|qb J<|qa<|qf<|qc<|G _ J<|G _ J<|G _ J ?_
 obtain ⟨k,b,a⟩:=q6 a
 refine Q2 6 (fun A st=>∃ d f g h j,st = A [(11,qu k),(10,j),(9,h),(8,g),(7,f),(6,d)]) ?_ ?_
 ·refine Q0 J J b (fun b=>?_) (fun b=>?_)
  ·refine q8 J<|q8 J<|q8 J<|q8 J<|G _ J<|qa ?_
   obtain rfl:=qd b
   exact ⟨_,_,_,_,_,J⟩
  refine G _ J<|G _ J ?_
  obtain ⟨l,m,b⟩:=q6 b
  refine qz (q2k c.At (-1000000) l m) J<|G _ J<|G _ J<|qa ?_
  obtain rfl:=qd b
  exact ⟨_,_,_,_,_,J⟩
 rintro _ ⟨d,f,g,h,j,rfl⟩
 refine qa ?_
 refine qm J a (fun _ a=>?_) (fun _ a=>?_)
 ·refine qc<|qb J<|qo ?_
  obtain rfl:=qd a
  exact qy _ J
 refine qk<|qc<|qb J<|qo ?_
 obtain rfl:=qd a
 exact qy _ J
theorem qvf (a : Qn) (r : Int) (c : q92 a = some r) : Pure Tryz.prog tab 41 [.agg [.sl 7 (a.Lines.map Kb),.sl 5 (a.Marks.map Kj),.int .u8 a.End.Frame.Turn,q9 a.End.Frame.At.X,q9 a.End.Frame.At.Y,q9 a.End.Frame.At.Z,q9 a.End.Drawn]] (q9 r):=by
 unfold q92 at c
 refine Qf Tryz.func41 J qh qh J<|qc<|Qj _ _ J<|qb J<|qa<|qf<|qc<|G _ J<|G _ J<|Qa J<|G _ J ?_
 obtain ⟨c1,l,c⟩:=q6 c
 refine Q2 6 (fun A st=>∃ w x y z j7,st = A [(17,qu c1),(16,j7),(15,z),(14,y),(13,x),(12,w)]) ?_ ?_
 ·refine Q0 J J l (fun l=>?_) (fun l=>?_)
  ·refine q8 J<|q8 J<|q8 J<|q8 J<|G _ J<|qa ?_
   obtain rfl:=qd l
   exact ⟨_,_,_,_,_,J⟩
  refine G _ J<|G _ J<|Qa J<|G _ J<|G _ J<|qa ?_
  obtain rfl:=qd l
  exact ⟨_,_,_,_,_,J⟩
 rintro _ ⟨w,x,y,z,j7,rfl⟩
 obtain ⟨av,h,c⟩:=q6 c
 refine Q2 7 (fun A st=>∃ ab ac ad ae af ag,st = A [(24,qu av),(23,ag),(22,af),(21,ae),(20,ad),(19,ac),(18,ab)]) ?_ ?_
 ·refine Q0 J J h (fun h=>?_) (fun h=>?_)
  ·refine q8 J<|q8 J<|q8 J<|q8 J<|q8 J<|G _ J<|qa ?_
   obtain rfl:=qd h
   exact ⟨_,_,_,_,_,_,J⟩
  refine G _ J<|G _ J<|G _ J ?_
  obtain ⟨aw,ax,h⟩:=q6 h
  refine qz (qlr a.End.Frame aw ax) J<|G _ J<|G _ J<|qa ?_
  obtain rfl:=qd h
  exact ⟨_,_,_,_,_,_,J⟩
 rintro _ ⟨ab,ac,ad,ae,af,ag,rfl⟩
 refine qa ?_
 refine qm J c (fun _ c=>?_) (fun _ c=>?_)
 ·refine qc<|qb J<|qo ?_
  obtain rfl:=qd c
  exact qy _ J
 refine qk<|qf<|qc<|qb J<|qa ?_
 obtain ⟨ah,ay,c⟩:=q6 c
 refine Qc (fun u=>.inl u = ah) (fun u=>⟨[(1,.ref 0 7 0 0)],[(0,.dat 7 [[.sl 7 (a.Lines.map Kb),.sl 5 (a.Marks.map Kj),.int .u8 a.End.Frame.Turn,q9 a.End.Frame.At.X,q9 a.End.Frame.At.Y,q9 a.End.Frame.At.Z,q9 a.End.Drawn]])],1⟩) qe ?_ ?_
 ·refine Q5 (q5o a) (fun m=>⟨[(1,.ref 0 7 0 0),(3,q7 m)],[(0,.dat 7 [[.sl 7 (a.Lines.map Kb),.sl 5 (a.Marks.map Kj),.int .u8 a.End.Frame.Turn,q9 a.End.Frame.At.X,q9 a.End.Frame.At.Y,q9 a.End.Frame.At.Z,q9 a.End.Drawn]])],1⟩) 0 ah ay (wkA [(0,0)] [] []) ?_
  intro m bp b
  unfold q5o at b
  refine qf<|qc<|O J<|G _ J<|G _ J<|Qa J<|G _ J<|qa ?_
  refine qm J b (fun _ b=>?_) (fun _ b=>?_)
  ·refine qk<|qf<|qx<|qf<|Q9 [Qm 2,Qm 1,(some [],[2]),(some [],[1]),U,U,U,U,qq 0,U,U,U,U,U,qq 0,U] qh<|G _ J<|G _ J<|O J ?_
   obtain ⟨f,az,b⟩:=q6 b
   refine Q1 az J<|G _ J<|G _ J<|G _ J<|G _ J<|O J ?_
   obtain ⟨g,ba,b⟩:=q6 b
   refine Q1 ba J<|G _ J<|G _ J<|Qv J J<|Qv J J<|Qd 1 _ J<|Qd 2 _ J<|qp<|qb J<|qa<|qf<|qc<|G _ J<|G _ J<|G _ J<|G _ J<|G _ J<|qa ?_
   obtain ⟨bb,n,b⟩:=q6 b
   refine Yk (fun q=>q = bb) (fun q=>⟨[(1,.ref 0 7 0 0),(3,q7 m),(4,.ref 1 3 0 0),(5,.ref 2 3 0 0),(6,q7 q)],[(0,.dat 7 [[.sl 7 (a.Lines.map Kb),.sl 5 (a.Marks.map Kj),.int .u8 a.End.Frame.Turn,q9 a.End.Frame.At.X,q9 a.End.Frame.At.Y,q9 a.End.Frame.At.Z,q9 a.End.Drawn]]),(1,.dat 3 [[q9 f.From.X,q9 f.From.Y,q9 f.From.Z]]),(2,.dat 3 [[q9 g.To.X,q9 g.To.Y,q9 g.To.Z]])],3⟩) qe ?_ ?_
   ·refine qm J n (fun _ n=>?_) (fun _ n=>?_)
    ·refine qt<|O J<|G _ J<|qb J<|qr ?_
     obtain rfl:=qd n
     exact ⟨_,J,wkA [(0,0),(1,1),(2,2)] [] []⟩
    refine qk<|Q7 ?_
    obtain rfl:=qd n
    exact ⟨_,J,wkA [(0,0),(1,1),(2,2)] [] []⟩
   intro q hb
   subst hb
   refine qf<|qc<|G _ J<|G _ J<|G _ J<|G _ J<|G _ J<|qa ?_
   obtain ⟨bc,o,b⟩:=q6 b
   refine Yk (fun s=>s = bc) (fun s=>⟨[(1,.ref 0 7 0 0),(3,q7 m),(4,.ref 1 3 0 0),(5,.ref 2 3 0 0),(6,q7 s)],[(0,.dat 7 [[.sl 7 (a.Lines.map Kb),.sl 5 (a.Marks.map Kj),.int .u8 a.End.Frame.Turn,q9 a.End.Frame.At.X,q9 a.End.Frame.At.Y,q9 a.End.Frame.At.Z,q9 a.End.Drawn]]),(1,.dat 3 [[q9 f.From.X,q9 f.From.Y,q9 f.From.Z]]),(2,.dat 3 [[q9 g.To.X,q9 g.To.Y,q9 g.To.Z]])],3⟩) qe ?_ ?_
   ·refine qm J o (fun _ o=>?_) (fun _ o=>?_)
    ·refine qt<|O J<|G _ J<|qb J<|qr ?_
     obtain rfl:=qd o
     exact ⟨_,J,wkA [(0,0),(1,1),(2,2)] [] []⟩
    refine qk<|Q7 ?_
    obtain rfl:=qd o
    exact ⟨_,J,wkA [(0,0),(1,1),(2,2)] [] []⟩
   intro s hb
   subst hb
   refine qf<|qc<|G _ J<|G _ J<|G _ J<|G _ J<|G _ J<|qa ?_
   obtain ⟨bd,p,b⟩:=q6 b
   refine Yk (fun t=>t = bd) (fun t=>⟨[(1,.ref 0 7 0 0),(3,q7 m),(4,.ref 1 3 0 0),(5,.ref 2 3 0 0),(6,q7 t)],[(0,.dat 7 [[.sl 7 (a.Lines.map Kb),.sl 5 (a.Marks.map Kj),.int .u8 a.End.Frame.Turn,q9 a.End.Frame.At.X,q9 a.End.Frame.At.Y,q9 a.End.Frame.At.Z,q9 a.End.Drawn]]),(1,.dat 3 [[q9 f.From.X,q9 f.From.Y,q9 f.From.Z]]),(2,.dat 3 [[q9 g.To.X,q9 g.To.Y,q9 g.To.Z]])],3⟩) qe ?_ ?_
   ·refine qm J p (fun _ p=>?_) (fun _ p=>?_)
    ·refine qt<|O J<|G _ J<|qb J<|qr ?_
     obtain rfl:=qd p
     exact ⟨_,J,wkA [(0,0),(1,1),(2,2)] [] []⟩
    refine qk<|Q7 ?_
    obtain rfl:=qd p
    exact ⟨_,J,wkA [(0,0),(1,1),(2,2)] [] []⟩
   intro t hb
   subst hb
   refine qc<|O J<|G _ J ?_
   obtain ⟨be,j,b⟩:=q6 b
   refine Q2 5 (fun A st=>∃ ai aj ak al,st = A [(71,qu be),(70,al),(69,ak),(68,aj),(67,ai)]) ?_ ?_
   ·refine Q0 J J j (fun j=>?_) (fun j=>?_)
    ·refine q8 J<|q8 J<|q8 J<|G _ J<|qa ?_
     obtain rfl:=qd j
     exact ⟨_,_,_,_,J⟩
    refine G _ J ?_
    obtain ⟨bf,bg,j⟩:=q6 j
    refine qz (q2k f.From (-1000000) bf bg) J<|G _ J<|G _ J<|qa ?_
    obtain rfl:=qd j
    exact ⟨_,_,_,_,J⟩
   rintro _ ⟨ai,aj,ak,al,rfl⟩
   obtain ⟨bh,k,b⟩:=q6 b
   refine Q2 5 (fun A st=>∃ am an ao ap,st = A [(76,qu bh),(75,ap),(74,ao),(73,an),(72,am)]) ?_ ?_
   ·refine Q0 J J k (fun k=>?_) (fun k=>?_)
    ·refine q8 J<|q8 J<|q8 J<|G _ J<|qa ?_
     obtain rfl:=qd k
     exact ⟨_,_,_,_,J⟩
    refine G _ J ?_
    obtain ⟨bi,bj,k⟩:=q6 k
    refine qz (q2k g.To (-1000000) bi bj) J<|G _ J<|G _ J<|qa ?_
    obtain rfl:=qd k
    exact ⟨_,_,_,_,J⟩
   rintro _ ⟨am,an,ao,ap,rfl⟩
   refine qa ?_
   refine qm J b (fun _ b=>?_) (fun _ b=>?_)
   ·refine qc<|qb J<|qo ?_
    refine ⟨_,(Option.some.inj b).symm,fun hm=>?_⟩
    subst hm
    obtain rfl:=qd c
    exact qy _ J
   refine qk<|Q7<|Qg<|qt<|O J<|G _ J<|qb J<|qr ?_
   exact ⟨_,(Option.some.inj b).symm,wkA [(0,0)] [] []⟩
  refine Q3 ?_
  refine ⟨_,(Option.some.inj b).symm,fun hm=>?_⟩
  subst hm
  exact ⟨_,J,wkA [(0,0)] [] []⟩
 intro u hb
 subst hb
 refine qf<|qc<|qb J<|qa ?_
 obtain ⟨aq,bk,c⟩:=q6 c
 refine Qc (fun v=>.inl v = aq) (fun v=>⟨[],[],0⟩) qe ?_ ?_
 ·refine Q5 (q5p a) (fun ar=>⟨[(1,.ref 0 7 0 0),(7,q7 ar)],[(0,.dat 7 [[.sl 7 (a.Lines.map Kb),.sl 5 (a.Marks.map Kj),.int .u8 a.End.Frame.Turn,q9 a.End.Frame.At.X,q9 a.End.Frame.At.Y,q9 a.End.Frame.At.Z,q9 a.End.Drawn]])],1⟩) 0 aq bk (wkA [(0,0)] [] []) ?_
  intro ar bq d
  unfold q5p at d
  refine qf<|qc<|O J<|G _ J<|G _ J<|Qa J<|G _ J<|qa ?_
  refine qm J d (fun _ d=>?_) (fun _ d=>?_)
  ·refine qk<|qf<|qx<|qc<|G _ J<|G _ J<|O J ?_
   obtain ⟨bl,bm,d⟩:=q6 d
   refine Q1 bm J<|G _ J<|G _ J ?_
   obtain ⟨bn,bo,d⟩:=q6 d
   refine qz (qlr bl.Frame bn bo) J<|G _ J<|qa ?_
   refine qm J d (fun _ d=>?_) (fun _ d=>?_)
   ·refine qc<|qb J<|qo ?_
    refine ⟨_,(Option.some.inj d).symm,fun hm=>?_⟩
    subst hm
    obtain rfl:=qd c
    exact qy _ J
   refine qk<|Q7<|Qg<|qt<|O J<|G _ J<|qb J<|qr ?_
   exact ⟨_,(Option.some.inj d).symm,wkA [(0,0)] [] []⟩
  refine Q3 ?_
  refine ⟨_,(Option.some.inj d).symm,fun hm=>?_⟩
  subst hm
  exact ⟨_,J,wkA [] [] []⟩
 intro v hb
 subst hb
 refine qc<|qb J<|qo ?_
 obtain rfl:=qd c
 exact qy _ J
theorem qvp (b : qg) (r : Bool) (a : q96 b = some r) : Pure Tryz.prog tab 56 [.agg [q9 b.Lo.X,q9 b.Lo.Y,q9 b.Lo.Z,q9 b.Hi.X,q9 b.Hi.Y,q9 b.Hi.Z]] (.bool r):=by
 unfold q96 at a
 refine Qf Tryz.func56 J qh qh J<|qc<|Qj _ _ J<|qb J<|qp<|G _ J<|G _ J ?_
 obtain ⟨r1,h2,a⟩:=q6 a
 refine qz (q2k b.Lo (-1000000) r1 h2) J ?_
 obtain ⟨c5,c,a⟩:=q6 a
 refine Q2 5 (fun A st=>∃ h j k l,st = A [(11,qu c5),(10,l),(9,k),(8,j),(7,h)]) ?_ ?_
 ·refine Q0 J J c (fun c=>?_) (fun c=>?_)
  ·refine G _ J<|G _ J ?_
   obtain ⟨ao,ap,c⟩:=q6 c
   refine qz (q2k b.Hi (-1000000) ao ap) J<|G _ J<|qa ?_
   obtain rfl:=qd c
   exact ⟨_,_,_,_,J⟩
  refine q8 J<|q8 J<|q8 J<|G _ J<|qa ?_
  obtain rfl:=qd c
  exact ⟨_,_,_,_,J⟩
 rintro _ ⟨h,j,k,l,rfl⟩
 refine qb J<|qp<|O J ?_
 obtain ⟨aq,d,a⟩:=q6 a
 refine Q2 9 (fun A st=>∃ m n o p q s t u,st = A [(21,qu aq),(20,u),(19,t),(18,s),(17,q),(16,p),(15,o),(14,n),(13,m)]) ?_ ?_
 ·refine Q0 J J d (fun d=>?_) (fun d=>?_)
  ·refine G _ J<|G _ J<|G _ J<|G _ J<|G _ J<|G _ J<|G _ J<|G _ J<|qa ?_
   obtain rfl:=qd d
   exact ⟨_,_,_,_,_,_,_,_,J⟩
  refine q8 J<|q8 J<|q8 J<|q8 J<|q8 J<|q8 J<|q8 J<|G _ J<|qa ?_
  obtain rfl:=qd d
  exact ⟨_,_,_,_,_,_,_,_,J⟩
 rintro _ ⟨m,n,o,p,q,s,t,u,rfl⟩
 obtain ⟨ar,f,a⟩:=q6 a
 refine Q2 9 (fun A st=>∃ v w x y z aa ab ac,st = A [(30,qu ar),(29,ac),(28,ab),(27,aa),(26,z),(25,y),(24,x),(23,w),(22,v)]) ?_ ?_
 ·refine Q0 J J f (fun f=>?_) (fun f=>?_)
  ·refine G _ J<|G _ J<|G _ J<|G _ J<|G _ J<|G _ J<|G _ J<|G _ J<|qa ?_
   obtain rfl:=qd f
   exact ⟨_,_,_,_,_,_,_,_,J⟩
  refine q8 J<|q8 J<|q8 J<|q8 J<|q8 J<|q8 J<|q8 J<|G _ J<|qa ?_
  obtain rfl:=qd f
  exact ⟨_,_,_,_,_,_,_,_,J⟩
 rintro _ ⟨v,w,x,y,z,aa,ab,ac,rfl⟩
 obtain ⟨au,g,a⟩:=q6 a
 refine Q2 9 (fun A st=>∃ ad ae af ag ah ai aj ak,st = A [(39,qu au),(38,ak),(37,aj),(36,ai),(35,ah),(34,ag),(33,af),(32,ae),(31,ad)]) ?_ ?_
 ·refine Q0 J J g (fun g=>?_) (fun g=>?_)
  ·refine G _ J<|G _ J<|G _ J<|G _ J<|G _ J<|G _ J<|G _ J<|G _ J<|qa ?_
   obtain rfl:=qd g
   exact ⟨_,_,_,_,_,_,_,_,J⟩
  refine q8 J<|q8 J<|q8 J<|q8 J<|q8 J<|q8 J<|q8 J<|G _ J<|qa ?_
  obtain rfl:=qd g
  exact ⟨_,_,_,_,_,_,_,_,J⟩
 rintro _ ⟨ad,ae,af,ag,ah,ai,aj,ak,rfl⟩
 refine qb J<|qo ?_
 obtain rfl:=qd a
 exact qy _ J
theorem qfy (g : List Int) (r : List Int) (n : Jr g = some r) : Pure Tryz.prog tab 101 [.sl 1 (g.map (eI .i64))] (.sl 1 (r.map (eI .i64))):=by
 unfold Jr at n
 refine Qf Tryz.func101 J qh qh J<|qc<|qb J<|qp<|qb J<|qa<|qf<|qc<|qb J<|qa ?_
 obtain ⟨s,bb,n⟩:=q6 n
 refine Qc (fun l=>l = s) (fun l=>⟨[(3,.hs 0 1 0 l.length)],[(0,.dat 1 (l.map (eI .i64)))],1⟩) qe ?_ ?_
 ·refine Q5 (q3m g) (fun b=>⟨[(0,.d (.sl 1 (g.map (eI .i64)))),(3,.hs 0 1 0 b.2.length),(4,q7 b.1)],[(0,.dat 1 (b.2.map (eI .i64)))],1⟩) (0,[]) s bb (wkA [] [] [0]) ?_
  intro b bk h
  unfold q3m at h
  refine qf<|qc<|O J<|O J<|Qa J<|G _ J<|qa ?_
  refine qm J h (fun _ h=>?_) (fun _ h=>?_)
  ·refine qk<|qf ?_
   obtain ⟨bc,a,h⟩:=q6 h
   refine Qc (fun m=>m = bc) (fun m=>⟨[(0,.d (.sl 1 (g.map (eI .i64)))),(3,.hs 0 1 0 m.length),(4,q7 b.1)],[(0,.dat 1 (m.map (eI .i64)))],1⟩) qe ?_ ?_
   ·refine qc<|O J<|G _ J<|qb J<|qa<|qf ?_
    obtain ⟨t,bd,a⟩:=q6 a
    refine Qc (fun o=>o = t) (fun o=>⟨[(0,.d (.sl 1 (g.map (eI .i64)))),(3,.hs 0 1 0 b.2.length),(4,q7 b.1),(5,q7 o)],[(0,.dat 1 (b.2.map (eI .i64)))],1⟩) qe ?_ ?_
    ·refine Q5 (q3n b g) (fun u=>⟨[(0,.d (.sl 1 (g.map (eI .i64)))),(3,.hs 0 1 0 b.2.length),(4,q7 b.1),(5,q7 u)],[(0,.dat 1 (b.2.map (eI .i64)))],1⟩) (b.2.length : Int) t bd (wkA [(0,0)] [] []) ?_
     intro u bl j
     unfold q3n at j
     refine qf<|qf<|Q9 [U,U,U,U,U,U,qq 0,U,U,U,U,U,U,U] qh<|O J<|G _ J ?_
     obtain ⟨be,c,j⟩:=q6 j
     refine Q2 12 (fun A st=>∃ v x y z aa ab ac ad ae af ag,st = A [(27,qu be),(26,ag),(25,af),(24,ae),(23,ad),(22,ac),(21,ab),(20,aa),(19,z),(18,y),(17,x),(16,v)]) ?_ ?_
     ·refine Q0 J J c (fun c=>?_) (fun c=>?_)
      ·refine O J<|O J<|G _ J ?_
       obtain ⟨bm,ah,c⟩:=q6 c
       refine qv ah J J<|Q4 _ ah J<|O J<|O J ?_
       obtain ⟨bn,bf,c⟩:=q6 c
       refine Q1 bf J<|G _ J<|G _ J<|G _ J<|qa ?_
       obtain rfl:=qd c
       exact ⟨_,_,_,_,_,_,_,_,_,_,_,J⟩
      refine q8 J<|q8 J<|q8 J<|q8 J<|q8 J<|q8 J<|q8 J<|q8 J<|q8 J<|q8 J<|G _ J<|qa ?_
      obtain rfl:=qd c
      exact ⟨_,_,_,_,_,_,_,_,_,_,_,J⟩
     rintro _ ⟨v,x,y,z,aa,ab,ac,ad,ae,af,ag,rfl⟩
     refine qa ?_
     refine qm J j (fun _ j=>?_) (fun _ j=>?_)
     ·refine qk<|qx<|qt<|O J<|G _ J<|qb J<|qr<|Qg<|Q7 ?_
      exact ⟨_,(Option.some.inj j).symm,wkA [(0,0)] [] []⟩
     refine Q3 ?_
     refine ⟨_,(Option.some.inj j).symm,fun hm=>?_⟩
     subst hm
     exact ⟨_,J,wkA [(0,0)] [] []⟩
    intro o hb
    subst hb
    refine qf<|qf<|Q9 [U,U,U,U,U,U,qq 0,U,U,U,U,U,U,U] qh<|O J<|G _ J ?_
    obtain ⟨bg,f,a⟩:=q6 a
    refine Q2 12 (fun A st=>∃ ai aj ak al am an ao ap aq ar au,st = A [(43,qu bg),(42,au),(41,ar),(40,aq),(39,ap),(38,ao),(37,an),(36,am),(35,al),(34,ak),(33,aj),(32,ai)]) ?_ ?_
    ·refine Q0 J J f (fun f=>?_) (fun f=>?_)
     ·refine O J<|O J<|G _ J ?_
      obtain ⟨bo,av,f⟩:=q6 f
      refine qv av J J<|Q4 _ av J<|O J<|O J ?_
      obtain ⟨bp,bh,f⟩:=q6 f
      refine Q1 bh J<|G _ J<|G _ J<|G _ J<|qa ?_
      obtain rfl:=qd f
      exact ⟨_,_,_,_,_,_,_,_,_,_,_,J⟩
     refine q8 J<|q8 J<|q8 J<|q8 J<|q8 J<|q8 J<|q8 J<|q8 J<|q8 J<|q8 J<|G _ J<|qa ?_
     obtain rfl:=qd f
     exact ⟨_,_,_,_,_,_,_,_,_,_,_,J⟩
    rintro _ ⟨ai,aj,ak,al,am,an,ao,ap,aq,ar,au,rfl⟩
    refine qa ?_
    refine qm J a (fun _ a=>?_) (fun _ a=>?_)
    ·refine Q3 ?_
     obtain rfl:=qd a
     exact ⟨_,J,wkA [(0,0)] [] []⟩
    refine qk<|qc<|O J<|Qj _ _ J ?_
    obtain ⟨p,bi,a⟩:=q6 a
    refine Kn _ bi J J J J J J J (Km J J) J J J J<|qb J<|qa<|qf<|Q9 [Qm 2,U,U,U,U,U,U,U] qh<|O J<|O J<|G _ J ?_
    obtain ⟨aw,q,a⟩:=q6 a
    refine q8t q J J J J J (q86 J) (fun _=>rfl)<|O J<|O J ?_
    obtain ⟨k,ax,a⟩:=q6 a
    refine q8t ax J J J J J (q86 J) (fun _=>rfl)<|qtb (w:=aw) (xs:=p) (ys:=(p.drop k.1).take k.2) (enc:=(eI .i64)) (.hs 2 1 k.1 k.2) (qan q) J J J J J J (qqh (qan ax) J) J J J J ?_
    have ay:=@qij _ p ((p.drop k.1).take k.2) aw (qan q)
    refine qa<|qt<|O J<|O J<|O J<|O J ?_
    obtain ⟨az,bj,a⟩:=q6 a
    refine Q1 bj J<|G _ J ?_
    obtain ⟨bq,ba,a⟩:=q6 a
    refine qv ba (by simp [ay]) J<|Qw (ds:=[q9 az]) az ba J J J J J J J J (leb J) J<|qr ?_
    obtain rfl:=qd a
    exact ⟨_,J,wkE [(0,2)] [] [] J ⟨qn J,⟨_,J,Qy (by simp [ay]) J qs (ltd J)⟩,qn J,trivial⟩ ⟨Qk J J,trivial⟩⟩
   intro m hb
   subst hb
   refine qt<|O J<|G _ J<|qb J<|qr ?_
   exact ⟨_,(Option.some.inj h).symm,wkA [(0,0)] [] []⟩
  refine Q3 ?_
  refine ⟨_,(Option.some.inj h).symm,fun hm=>?_⟩
  subst hm
  exact ⟨_,J,wkA [(0,0)] [] []⟩
 intro l hb
 subst hb
 refine qc<|O J<|qb J<|qo ?_
 obtain rfl:=qd n
 exact finD (.inr J) J (Z6 J J) (.refl _)
theorem qvk (j : List qg) (g : List qg) (r : List Int) (c : q94 j g = some r) : Pure Tryz.prog tab 78 [.sl 6 (j.map Q6),.sl 6 (g.map Q6)] (.sl 1 (r.map (eI .i64))):=by
 unfold q94 at c
 refine Qf Tryz.func78 J qh qh J<|qc<|qb J<|qp<|qb J<|qa<|qf<|qc<|qb J<|qa ?_
 obtain ⟨m,o,c⟩:=q6 c
 refine Qc (fun h=>h = m) (fun h=>⟨[(1,.d (.sl 6 (g.map Q6))),(5,.hs 0 1 0 h.length)],[(0,.dat 1 (h.map (eI .i64)))],1⟩) qe ?_ ?_
 ·refine Q5 (q3u j) (fun k=>⟨[(0,.d (.sl 6 (j.map Q6))),(1,.d (.sl 6 (g.map Q6))),(5,.hs 0 1 0 k.2.length),(6,q7 k.1)],[(0,.dat 1 (k.2.map (eI .i64)))],1⟩) (0,[]) m o (wkA [] [] [0]) ?_
  intro k z a
  unfold q3u at a
  refine qf<|qc<|O J<|O J<|Qa J<|G _ J<|qa ?_
  refine qm J a (fun _ a=>?_) (fun _ a=>?_)
  ·refine qk<|qf<|qx<|Q9 [U,(some [0,1],[0,2]),(some [],[1]),U,U,U,U,U,U,U,U,U,U,U,U,U] qh<|O J<|O J<|O J ?_
   obtain ⟨aa,p,a⟩:=q6 a
   refine Q1 p J<|G _ J<|G _ J<|G _ J<|O J<|O J ?_
   obtain ⟨ab,q,a⟩:=q6 a
   refine Q1 q J<|G _ J<|G _ J<|G _ J<|Qj _ _ J ?_
   obtain ⟨ac,s,a⟩:=q6 a
   refine Kn _ s J J J J J J J (Km J J) J J J J<|qb J<|qr<|Qg<|qt<|O J<|G _ J<|qb J<|qr ?_
   exact ⟨_,(Option.some.inj a).symm,wkA [(0,2)] [] []⟩
  refine Q3 ?_
  refine ⟨_,(Option.some.inj a).symm,fun hm=>?_⟩
  subst hm
  exact ⟨_,J,wkA [(0,0)] [] []⟩
 intro h hb
 subst hb
 refine qf<|qc<|qb J<|qa ?_
 obtain ⟨n,t,c⟩:=q6 c
 refine Qc (fun f=>f = n) (fun f=>⟨[(5,.hs 0 1 0 f.length)],[(0,.dat 1 (f.map (eI .i64)))],1⟩) qe ?_ ?_
 ·refine Q5 (q3v g) (fun l=>⟨[(1,.d (.sl 6 (g.map Q6))),(5,.hs 0 1 0 l.2.length),(7,q7 l.1)],[(0,.dat 1 (l.2.map (eI .i64)))],1⟩) (0,h) n t (wkA [(0,0)] [] []) ?_
  intro l ad b
  unfold q3v at b
  refine qf<|qc<|O J<|O J<|Qa J<|G _ J<|qa ?_
  refine qm J b (fun _ b=>?_) (fun _ b=>?_)
  ·refine qk<|qf<|qx<|Q9 [U,(some [0,1],[0,2]),(some [],[1]),U,U,U,U,U,U,U,U,U,U,U,U,U] qh<|O J<|O J<|O J ?_
   obtain ⟨ae,u,b⟩:=q6 b
   refine Q1 u J<|G _ J<|G _ J<|G _ J<|O J<|O J ?_
   obtain ⟨af,v,b⟩:=q6 b
   refine Q1 v J<|G _ J<|G _ J<|G _ J<|Qj _ _ J ?_
   obtain ⟨ag,w,b⟩:=q6 b
   refine Kn _ w J J J J J J J (Km J J) J J J J<|qb J<|qr<|Qg<|qt<|O J<|G _ J<|qb J<|qr ?_
   exact ⟨_,(Option.some.inj b).symm,wkA [(0,2)] [] []⟩
  refine Q3 ?_
  refine ⟨_,(Option.some.inj b).symm,fun hm=>?_⟩
  subst hm
  exact ⟨_,J,wkA [(0,0)] [] []⟩
 intro f hb
 subst hb
 refine qf ?_
 refine Y2 (st':=⟨[(5,.d (.sl 1 (f.map (eI .i64))))],[],0⟩) (wkA [] [0] []) ?_ qe
 refine qt<|O J ?_
 obtain ⟨x,y,c⟩:=q6 c
 refine qz (qfy f x y) J<|qb J<|qo ?_
 obtain rfl:=qd c
 exact qy _ J
theorem qcc (f : List qg) (g : Int) (r : List qi) (l : Js f g = some r) : Pure Tryz.prog tab 80 [.sl 6 (f.map Q6),q9 g] (.sl 4 (r.map qw)):=by
 unfold Js at l
 refine Qf Tryz.func80 J qh qh J<|qc<|qb J<|qp<|qb J<|qa<|qf<|qc<|qb J<|qa ?_
 obtain ⟨m,x,l⟩:=q6 l
 refine Qc (fun h=>h = m) (fun h=>⟨[(5,.hs 0 4 0 h.length)],[(0,.dat 4 (h.map qw))],1⟩) qe ?_ ?_
 ·refine Q5 (q5q f g) (fun j=>⟨[(0,.d (.sl 6 (f.map Q6))),(1,q7 g),(5,.hs 0 4 0 j.2.length),(6,q7 j.1)],[(0,.dat 4 (j.2.map qw))],1⟩) (0,[]) m x (wkA [] [] [0]) ?_
  intro j ah b
  unfold q5q at b
  refine qf<|qc<|O J<|O J<|Qa J<|G _ J<|qa ?_
  refine qm J b (fun _ b=>?_) (fun _ b=>?_)
  ·refine qk<|qf ?_
   obtain ⟨y,a,b⟩:=q6 b
   refine Qc (fun k=>k = y) (fun k=>⟨[(0,.d (.sl 6 (f.map Q6))),(1,q7 g),(5,.hs 0 4 0 k.length),(6,q7 j.1)],[(0,.dat 4 (k.map qw))],1⟩) qe ?_ ?_
   ·refine qc<|O J<|O J ?_
    obtain ⟨ai,z,a⟩:=q6 a
    refine Q1 z J<|G _ J<|G _ J<|G _ J<|O J<|G _ J ?_
    obtain ⟨aa,c,a⟩:=q6 a
    refine Q2 10 (fun A st=>∃ n o p q s t u v w,st = A [(30,qu aa),(29,w),(28,v),(27,u),(26,t),(25,s),(24,q),(23,p),(22,o),(21,n)]) ?_ ?_
    ·refine Q0 J J c (fun c=>?_) (fun c=>?_)
     ·refine O J<|O J<|O J ?_
      obtain ⟨aj,ab,c⟩:=q6 c
      refine Q1 ab J<|G _ J<|G _ J<|G _ J<|G _ J<|G _ J<|qa ?_
      obtain rfl:=qd c
      exact ⟨_,_,_,_,_,_,_,_,_,J⟩
     refine q8 J<|q8 J<|q8 J<|q8 J<|q8 J<|q8 J<|q8 J<|q8 J<|G _ J<|qa ?_
     obtain rfl:=qd c
     exact ⟨_,_,_,_,_,_,_,_,_,J⟩
    rintro _ ⟨n,o,p,q,s,t,u,v,w,rfl⟩
    refine qa ?_
    refine qm J a (fun _ a=>?_) (fun _ a=>?_)
    ·refine Q9 [U,(some [0,1],[0,2]),(some [],[1]),U,U,U,U,U,U,U,U,U,U,U,U,U,U,U,U,U,U,U,U,U,U,U,U,U,U] qh<|O J<|O J<|O J ?_
     obtain ⟨ak,ac,a⟩:=q6 a
     refine Q1 ac J<|G _ J<|G _ J<|G _ J<|O J<|O J ?_
     obtain ⟨al,ad,a⟩:=q6 a
     refine Q1 ad J<|G _ J<|G _ J<|G _ J<|O J<|O J ?_
     obtain ⟨am,ae,a⟩:=q6 a
     refine Q1 ae J<|G _ J<|G _ J<|G _ J<|O J<|O J ?_
     obtain ⟨an,af,a⟩:=q6 a
     refine Q1 af J<|G _ J<|G _ J<|G _ J<|G _ J<|Qj _ _ J ?_
     obtain ⟨ao,ag,a⟩:=q6 a
     refine Kn _ ag J J J J J J J (Km J J) J J J J<|qb J<|qr ?_
     obtain rfl:=qd a
     exact ⟨_,J,wkA [(0,2)] [] []⟩
    refine qk<|Q7 ?_
    obtain rfl:=qd a
    exact ⟨_,J,wkA [(0,0)] [] []⟩
   intro k hb
   subst hb
   refine qt<|O J<|G _ J<|qb J<|qr ?_
   exact ⟨_,(Option.some.inj b).symm,wkA [(0,0)] [] []⟩
  refine Q3 ?_
  refine ⟨_,(Option.some.inj b).symm,fun hm=>?_⟩
  subst hm
  exact ⟨_,J,wkA [(0,0)] [] []⟩
 intro h hb
 subst hb
 refine qc<|O J<|qb J<|qo ?_
 obtain rfl:=qd l
 exact finD (.inr J) J (Z6 J J) (.refl _)
theorem qvb (j : List qi) (g : List qi) (r : List Int) (c : q90 j g = some r) : Pure Tryz.prog tab 102 [.sl 4 (j.map qw),.sl 4 (g.map qw)] (.sl 1 (r.map (eI .i64))):=by
 unfold q90 at c
 refine Qf Tryz.func102 J qh qh J<|qc<|qb J<|qp<|qb J<|qa<|qf<|qc<|qb J<|qa ?_
 obtain ⟨m,o,c⟩:=q6 c
 refine Qc (fun h=>h = m) (fun h=>⟨[(1,.d (.sl 4 (g.map qw))),(5,.hs 0 1 0 h.length)],[(0,.dat 1 (h.map (eI .i64)))],1⟩) qe ?_ ?_
 ·refine Q5 (q3q j) (fun k=>⟨[(0,.d (.sl 4 (j.map qw))),(1,.d (.sl 4 (g.map qw))),(5,.hs 0 1 0 k.2.length),(6,q7 k.1)],[(0,.dat 1 (k.2.map (eI .i64)))],1⟩) (0,[]) m o (wkA [] [] [0]) ?_
  intro k z a
  unfold q3q at a
  refine qf<|qc<|O J<|O J<|Qa J<|G _ J<|qa ?_
  refine qm J a (fun _ a=>?_) (fun _ a=>?_)
  ·refine qk<|qf<|qx<|Q9 [U,(some [0,1],[0,2]),(some [],[1]),U,U,U,U,U,U,U,U,U,U,U] qh<|O J<|O J<|O J ?_
   obtain ⟨aa,p,a⟩:=q6 a
   refine Q1 p J<|G _ J<|G _ J<|O J<|O J ?_
   obtain ⟨ab,q,a⟩:=q6 a
   refine Q1 q J<|G _ J<|G _ J<|Qj _ _ J ?_
   obtain ⟨ac,s,a⟩:=q6 a
   refine Kn _ s J J J J J J J (Km J J) J J J J<|qb J<|qr<|Qg<|qt<|O J<|G _ J<|qb J<|qr ?_
   exact ⟨_,(Option.some.inj a).symm,wkA [(0,2)] [] []⟩
  refine Q3 ?_
  refine ⟨_,(Option.some.inj a).symm,fun hm=>?_⟩
  subst hm
  exact ⟨_,J,wkA [(0,0)] [] []⟩
 intro h hb
 subst hb
 refine qf<|qc<|qb J<|qa ?_
 obtain ⟨n,t,c⟩:=q6 c
 refine Qc (fun f=>f = n) (fun f=>⟨[(5,.hs 0 1 0 f.length)],[(0,.dat 1 (f.map (eI .i64)))],1⟩) qe ?_ ?_
 ·refine Q5 (q3r g) (fun l=>⟨[(1,.d (.sl 4 (g.map qw))),(5,.hs 0 1 0 l.2.length),(7,q7 l.1)],[(0,.dat 1 (l.2.map (eI .i64)))],1⟩) (0,h) n t (wkA [(0,0)] [] []) ?_
  intro l ad b
  unfold q3r at b
  refine qf<|qc<|O J<|O J<|Qa J<|G _ J<|qa ?_
  refine qm J b (fun _ b=>?_) (fun _ b=>?_)
  ·refine qk<|qf<|qx<|Q9 [U,(some [0,1],[0,2]),(some [],[1]),U,U,U,U,U,U,U,U,U,U,U] qh<|O J<|O J<|O J ?_
   obtain ⟨ae,u,b⟩:=q6 b
   refine Q1 u J<|G _ J<|G _ J<|O J<|O J ?_
   obtain ⟨af,v,b⟩:=q6 b
   refine Q1 v J<|G _ J<|G _ J<|Qj _ _ J ?_
   obtain ⟨ag,w,b⟩:=q6 b
   refine Kn _ w J J J J J J J (Km J J) J J J J<|qb J<|qr<|Qg<|qt<|O J<|G _ J<|qb J<|qr ?_
   exact ⟨_,(Option.some.inj b).symm,wkA [(0,2)] [] []⟩
  refine Q3 ?_
  refine ⟨_,(Option.some.inj b).symm,fun hm=>?_⟩
  subst hm
  exact ⟨_,J,wkA [(0,0)] [] []⟩
 intro f hb
 subst hb
 refine qf ?_
 refine Y2 (st':=⟨[(5,.d (.sl 1 (f.map (eI .i64))))],[],0⟩) (wkA [] [0] []) ?_ qe
 refine qt<|O J ?_
 obtain ⟨x,y,c⟩:=q6 c
 refine qz (qfy f x y) J<|qb J<|qo ?_
 obtain rfl:=qd c
 exact qy _ J
theorem qvd (j : List qi) (g : List qi) (r : List Int) (c : q91 j g = some r) : Pure Tryz.prog tab 103 [.sl 4 (j.map qw),.sl 4 (g.map qw)] (.sl 1 (r.map (eI .i64))):=by
 unfold q91 at c
 refine Qf Tryz.func103 J qh qh J<|qc<|qb J<|qp<|qb J<|qa<|qf<|qc<|qb J<|qa ?_
 obtain ⟨m,o,c⟩:=q6 c
 refine Qc (fun h=>h = m) (fun h=>⟨[(1,.d (.sl 4 (g.map qw))),(5,.hs 0 1 0 h.length)],[(0,.dat 1 (h.map (eI .i64)))],1⟩) qe ?_ ?_
 ·refine Q5 (q3s j) (fun k=>⟨[(0,.d (.sl 4 (j.map qw))),(1,.d (.sl 4 (g.map qw))),(5,.hs 0 1 0 k.2.length),(6,q7 k.1)],[(0,.dat 1 (k.2.map (eI .i64)))],1⟩) (0,[]) m o (wkA [] [] [0]) ?_
  intro k z a
  unfold q3s at a
  refine qf<|qc<|O J<|O J<|Qa J<|G _ J<|qa ?_
  refine qm J a (fun _ a=>?_) (fun _ a=>?_)
  ·refine qk<|qf<|qx<|Q9 [U,(some [0,1],[0,2]),(some [],[1]),U,U,U,U,U,U,U,U,U,U,U] qh<|O J<|O J<|O J ?_
   obtain ⟨aa,p,a⟩:=q6 a
   refine Q1 p J<|G _ J<|G _ J<|O J<|O J ?_
   obtain ⟨ab,q,a⟩:=q6 a
   refine Q1 q J<|G _ J<|G _ J<|Qj _ _ J ?_
   obtain ⟨ac,s,a⟩:=q6 a
   refine Kn _ s J J J J J J J (Km J J) J J J J<|qb J<|qr<|Qg<|qt<|O J<|G _ J<|qb J<|qr ?_
   exact ⟨_,(Option.some.inj a).symm,wkA [(0,2)] [] []⟩
  refine Q3 ?_
  refine ⟨_,(Option.some.inj a).symm,fun hm=>?_⟩
  subst hm
  exact ⟨_,J,wkA [(0,0)] [] []⟩
 intro h hb
 subst hb
 refine qf<|qc<|qb J<|qa ?_
 obtain ⟨n,t,c⟩:=q6 c
 refine Qc (fun f=>f = n) (fun f=>⟨[(5,.hs 0 1 0 f.length)],[(0,.dat 1 (f.map (eI .i64)))],1⟩) qe ?_ ?_
 ·refine Q5 (q3t g) (fun l=>⟨[(1,.d (.sl 4 (g.map qw))),(5,.hs 0 1 0 l.2.length),(7,q7 l.1)],[(0,.dat 1 (l.2.map (eI .i64)))],1⟩) (0,h) n t (wkA [(0,0)] [] []) ?_
  intro l ad b
  unfold q3t at b
  refine qf<|qc<|O J<|O J<|Qa J<|G _ J<|qa ?_
  refine qm J b (fun _ b=>?_) (fun _ b=>?_)
  ·refine qk<|qf<|qx<|Q9 [U,(some [0,1],[0,2]),(some [],[1]),U,U,U,U,U,U,U,U,U,U,U] qh<|O J<|O J<|O J ?_
   obtain ⟨ae,u,b⟩:=q6 b
   refine Q1 u J<|G _ J<|G _ J<|O J<|O J ?_
   obtain ⟨af,v,b⟩:=q6 b
   refine Q1 v J<|G _ J<|G _ J<|Qj _ _ J ?_
   obtain ⟨ag,w,b⟩:=q6 b
   refine Kn _ w J J J J J J J (Km J J) J J J J<|qb J<|qr<|Qg<|qt<|O J<|G _ J<|qb J<|qr ?_
   exact ⟨_,(Option.some.inj b).symm,wkA [(0,2)] [] []⟩
  refine Q3 ?_
  refine ⟨_,(Option.some.inj b).symm,fun hm=>?_⟩
  subst hm
  exact ⟨_,J,wkA [(0,0)] [] []⟩
 intro f hb
 subst hb
 refine qf ?_
 refine Y2 (st':=⟨[(5,.d (.sl 1 (f.map (eI .i64))))],[],0⟩) (wkA [] [0] []) ?_ qe
 refine qt<|O J ?_
 obtain ⟨x,y,c⟩:=q6 c
 refine qz (qfy f x y) J<|qb J<|qo ?_
 obtain rfl:=qd c
 exact qy _ J
theorem qlp (h : List qi) (j : Int) (k : Int) (r : Bool) (g : q5j h j k = some r) : Pure Tryz.prog tab 105 [.sl 4 (h.map qw),q9 j,q9 k] (.bool r):=by
 unfold q5j at g
 refine Qf Tryz.func105 J qh qh J<|qc<|qb J<|qa<|qf<|qc<|qb J<|qa ?_
 obtain ⟨m,an,g⟩:=q6 g
 refine Qc (fun l=>.inl l = m) (fun l=>⟨[],[],0⟩) qe ?_ ?_
 ·refine Q5 (q2i h j k) (fun n=>⟨[(0,.d (.sl 4 (h.map qw))),(1,q7 j),(2,q7 k),(7,q7 n)],[],0⟩) 0 m an (wkA [] [] []) ?_
  intro n ax a
  unfold q2i at a
  refine qf<|qc<|O J<|O J<|Qa J<|G _ J<|qa ?_
  refine qm J a (fun _ a=>?_) (fun _ a=>?_)
  ·refine qk<|qf<|qx<|qc<|O J<|O J ?_
   obtain ⟨ay,ao,a⟩:=q6 a
   refine Q1 ao J<|G _ J<|G _ J<|O J<|G _ J ?_
   obtain ⟨ap,b,a⟩:=q6 a
   refine Q2 9 (fun A st=>∃ o p q s t u v w,st = A [(29,qu ap),(28,w),(27,v),(26,u),(25,t),(24,s),(23,q),(22,p),(21,o)]) ?_ ?_
   ·refine Q0 J J b (fun b=>?_) (fun b=>?_)
    ·refine O J<|O J<|O J ?_
     obtain ⟨az,aq,b⟩:=q6 b
     refine Q1 aq J<|G _ J<|G _ J<|G _ J<|G _ J<|qa ?_
     obtain rfl:=qd b
     exact ⟨_,_,_,_,_,_,_,_,J⟩
    refine q8 J<|q8 J<|q8 J<|q8 J<|q8 J<|q8 J<|q8 J<|G _ J<|qa ?_
    obtain rfl:=qd b
    exact ⟨_,_,_,_,_,_,_,_,J⟩
   rintro _ ⟨o,p,q,s,t,u,v,w,rfl⟩
   obtain ⟨ar,c,a⟩:=q6 a
   refine Q2 9 (fun A st=>∃ x y z aa ab ac ad ae,st = A [(38,qu ar),(37,ae),(36,ad),(35,ac),(34,ab),(33,aa),(32,z),(31,y),(30,x)]) ?_ ?_
   ·refine Q0 J J c (fun c=>?_) (fun c=>?_)
    ·refine O J<|O J ?_
     obtain ⟨ba,au,c⟩:=q6 c
     refine Q1 au J<|G _ J<|G _ J<|O J<|G _ J<|G _ J<|qa ?_
     obtain rfl:=qd c
     exact ⟨_,_,_,_,_,_,_,_,J⟩
    refine q8 J<|q8 J<|q8 J<|q8 J<|q8 J<|q8 J<|q8 J<|G _ J<|qa ?_
    obtain rfl:=qd c
    exact ⟨_,_,_,_,_,_,_,_,J⟩
   rintro _ ⟨x,y,z,aa,ab,ac,ad,ae,rfl⟩
   obtain ⟨av,f,a⟩:=q6 a
   refine Q2 9 (fun A st=>∃ af ag ah ai aj ak al am,st = A [(47,qu av),(46,am),(45,al),(44,ak),(43,aj),(42,ai),(41,ah),(40,ag),(39,af)]) ?_ ?_
   ·refine Q0 J J f (fun f=>?_) (fun f=>?_)
    ·refine O J<|O J<|O J ?_
     obtain ⟨bb,aw,f⟩:=q6 f
     refine Q1 aw J<|G _ J<|G _ J<|G _ J<|G _ J<|qa ?_
     obtain rfl:=qd f
     exact ⟨_,_,_,_,_,_,_,_,J⟩
    refine q8 J<|q8 J<|q8 J<|q8 J<|q8 J<|q8 J<|q8 J<|G _ J<|qa ?_
    obtain rfl:=qd f
    exact ⟨_,_,_,_,_,_,_,_,J⟩
   rintro _ ⟨af,ag,ah,ai,aj,ak,al,am,rfl⟩
   refine qa ?_
   refine qm J a (fun _ a=>?_) (fun _ a=>?_)
   ·refine qc<|qb J<|qo ?_
    refine ⟨_,(Option.some.inj a).symm,fun hm=>?_⟩
    subst hm
    obtain rfl:=qd g
    exact qy _ J
   refine qk<|Q7<|Qg<|qt<|O J<|G _ J<|qb J<|qr ?_
   exact ⟨_,(Option.some.inj a).symm,wkA [] [] []⟩
  refine Q3 ?_
  refine ⟨_,(Option.some.inj a).symm,fun hm=>?_⟩
  subst hm
  exact ⟨_,J,wkA [] [] []⟩
 intro l hb
 subst hb
 refine qc<|qb J<|qo ?_
 obtain rfl:=qd g
 exact qy _ J
theorem qv5 (f : Int) (g : Bool) (h : Bool) (r : Bool) (a : q5h f g h = some r) : Pure Tryz.prog tab 104 [q9 f,.bool g,.bool h] (.bool r):=by
 unfold q5h at a
 refine Qf Tryz.func104 J qh qh J<|qc<|qb J<|qa<|qf<|qc<|O J<|G _ J<|qa ?_
 refine qm J a (fun _ a=>?_) (fun _ a=>?_)
 ·refine qc<|O J ?_
  obtain ⟨q,b,a⟩:=q6 a
  refine Q2 3 (fun A st=>∃ j k,st = A [(12,qu q),(11,k),(10,j)]) ?_ ?_
  ·refine Q0 J J b (fun b=>?_) (fun b=>?_)
   ·refine O J<|G _ J<|qa ?_
    obtain rfl:=qd b
    exact ⟨_,_,J⟩
   refine q8 J<|G _ J<|qa ?_
   obtain rfl:=qd b
   exact ⟨_,_,J⟩
  rintro _ ⟨j,k,rfl⟩
  refine qb J<|qo ?_
  obtain rfl:=qd a
  exact qy _ J
 refine qk<|qf<|qc<|O J<|G _ J<|qa ?_
 refine qm J a (fun _ a=>?_) (fun _ a=>?_)
 ·refine qc<|O J ?_
  obtain ⟨s,c,a⟩:=q6 a
  refine Q2 3 (fun A st=>∃ l m,st = A [(18,qu s),(17,m),(16,l)]) ?_ ?_
  ·refine Q0 J J c (fun c=>?_) (fun c=>?_)
   ·refine q8 J<|G _ J<|qa ?_
    obtain rfl:=qd c
    exact ⟨_,_,J⟩
   refine O J<|G _ J<|qa ?_
   obtain rfl:=qd c
   exact ⟨_,_,J⟩
  rintro _ ⟨l,m,rfl⟩
  refine qb J<|qo ?_
  obtain rfl:=qd a
  exact qy _ J
 refine qk<|qc<|O J ?_
 obtain ⟨t,d,a⟩:=q6 a
 refine Q2 4 (fun A st=>∃ n o p,st = A [(23,qu t),(22,p),(21,o),(20,n)]) ?_ ?_
 ·refine Q0 J J d (fun d=>?_) (fun d=>?_)
  ·refine O J<|G _ J<|G _ J<|qa ?_
   obtain rfl:=qd d
   exact ⟨_,_,_,J⟩
  refine q8 J<|q8 J<|G _ J<|qa ?_
  obtain rfl:=qd d
  exact ⟨_,_,_,J⟩
 rintro _ ⟨n,o,p,rfl⟩
 refine qb J<|qo ?_
 obtain rfl:=qd a
 exact qy _ J
theorem qv3 (f : List Int) (g : List Bool) (r : List qj) (l : q3k f g = some r) : Pure Tryz.prog tab 106 [.sl 1 (f.map (eI .i64)),.sl 1 (g.map eB)] (.sl 2 (r.map Q8)):=by
 unfold q3k at l
 refine Qf Tryz.func106 J qh qh J<|qc<|qb J<|qp<|qb J<|qa<|qf<|qc<|qb J<|qa ?_
 obtain ⟨m,ad,l⟩:=q6 l
 refine Qc (fun h=>h = m) (fun h=>⟨[(5,.hs 0 2 0 h.length)],[(0,.dat 2 (h.map Q8))],1⟩) qe ?_ ?_
 ·refine Q5 (q3l f g) (fun j=>⟨[(0,.d (.sl 1 (f.map (eI .i64)))),(1,.d (.sl 1 (g.map eB))),(5,.hs 0 2 0 j.2.length),(6,q7 j.1)],[(0,.dat 2 (j.2.map Q8))],1⟩) (0,[]) m ad (wkA [] [] [0]) ?_
  intro j an c
  unfold q3l at c
  refine qf<|qc<|O J<|G _ J<|O J<|Qa J<|G _ J<|qa ?_
  refine qm J c (fun _ c=>?_) (fun _ c=>?_)
  ·refine qk<|qf ?_
   obtain ⟨ae,a,c⟩:=q6 c
   refine Qc (fun k=>k = ae) (fun k=>⟨[(0,.d (.sl 1 (f.map (eI .i64)))),(1,.d (.sl 1 (g.map eB))),(5,.hs 0 2 0 k.length),(6,q7 j.1)],[(0,.dat 2 (k.map Q8))],1⟩) qe ?_ ?_
   ·refine qf<|qc<|O J<|O J ?_
    obtain ⟨ao,af,a⟩:=q6 a
    refine Q1 af J<|G _ J<|G _ J<|qa ?_
    refine qm J a (fun _ a=>?_) (fun _ a=>?_)
    ·refine Q3 ?_
     obtain rfl:=qd a
     exact ⟨_,J,wkA [(0,0)] [] []⟩
    refine qk<|qc<|O J<|G _ J<|qb J<|qa<|qf<|Q9 [U,U,U,U,U,U,qq 0,U,U,U,U,U,U,U,U] qh<|O J<|G _ J ?_
    obtain ⟨ag,b,a⟩:=q6 a
    refine Q2 13 (fun A st=>∃ n o p q s t u v w x y z,st = A [(36,qu ag),(35,z),(34,y),(33,x),(32,w),(31,v),(30,u),(29,t),(28,s),(27,q),(26,p),(25,o),(24,n)]) ?_ ?_
    ·refine Q0 J J b (fun b=>?_) (fun b=>?_)
     ·refine O J<|O J<|G _ J ?_
      obtain ⟨ap,aa,b⟩:=q6 b
      refine qv aa J J<|G _ J<|Q4 _ aa J<|O J<|O J ?_
      obtain ⟨aq,ah,b⟩:=q6 b
      refine Q1 ah J<|G _ J<|G _ J<|G _ J<|qa ?_
      obtain rfl:=qd b
      exact ⟨_,_,_,_,_,_,_,_,_,_,_,_,J⟩
     refine q8 J<|q8 J<|q8 J<|q8 J<|q8 J<|q8 J<|q8 J<|q8 J<|q8 J<|q8 J<|q8 J<|G _ J<|qa ?_
     obtain rfl:=qd b
     exact ⟨_,_,_,_,_,_,_,_,_,_,_,_,J⟩
    rintro _ ⟨n,o,p,q,s,t,u,v,w,x,y,z,rfl⟩
    refine qa ?_
    refine qm J a (fun _ a=>?_) (fun _ a=>?_)
    ·refine qt<|O J<|O J<|G _ J<|O J<|O J<|G _ J ?_
     obtain ⟨ab,ai,a⟩:=q6 a
     refine Q1 ai J<|G _ J ?_
     obtain ⟨aj,ac,a⟩:=q6 a
     refine qv ac J J<|G _ J<|Qw (ds:=[q9 ab]) ({Lo:=aj.Lo,Hi:=ab} : qj) ac J J J J J J J J (leb J) J<|qr ?_
     obtain rfl:=qd a
     exact ⟨_,J,wkE [(0,0)] [] [] J ⟨qn J,qn J,⟨_,J,Qy qe J qs (ltd J)⟩,qn J,trivial⟩ ⟨Qk J J,trivial⟩⟩
    refine Q9 [U,(some [0,1],[0,2]),(some [],[1]),U,U,U,U,U,U,U,U,U,U,U] qh<|O J<|O J<|O J ?_
    obtain ⟨ar,ak,a⟩:=q6 a
    refine Q1 ak J<|G _ J<|O J<|O J<|G _ J ?_
    obtain ⟨au,al,a⟩:=q6 a
    refine Q1 al J<|G _ J<|G _ J<|Qj _ _ J ?_
    obtain ⟨av,am,a⟩:=q6 a
    refine Kn _ am J J J J J J J (Km J J) J J J J<|qb J<|qr ?_
    obtain rfl:=qd a
    exact ⟨_,J,wkA [(0,2)] [] []⟩
   intro k hb
   subst hb
   refine qt<|O J<|G _ J<|qb J<|qr ?_
   exact ⟨_,(Option.some.inj c).symm,wkA [(0,0)] [] []⟩
  refine Q3 ?_
  refine ⟨_,(Option.some.inj c).symm,fun hm=>?_⟩
  subst hm
  exact ⟨_,J,wkA [(0,0)] [] []⟩
 intro h hb
 subst hb
 refine qc<|O J<|qb J<|qo ?_
 obtain rfl:=qd l
 exact finD (.inr J) J (Z6 J J) (.refl _)
theorem qv6 (c : List qj) (f : List qj) (r : Bool) (b : q5i c f = some r) : Pure Tryz.prog tab 107 [.sl 2 (c.map Q8),.sl 2 (f.map Q8)] (.bool r):=by
 unfold q5i at b
 refine Qf Tryz.func107 J qh qh J<|qc<|qb J<|qa<|qf<|qc<|O J<|Qa J<|O J<|Qa J<|G _ J<|qa ?_
 refine qm J b (fun _ b=>?_) (fun _ b=>?_)
 ·refine qc<|qb J<|qo ?_
  obtain rfl:=qd b
  exact qy _ J
 refine qk<|qf<|qc<|qb J<|qa ?_
 obtain ⟨h,k,b⟩:=q6 b
 refine Qc (fun g=>.inl g = h) (fun g=>⟨[],[],0⟩) qe ?_ ?_
 ·refine Q5 (qc9 c f) (fun j=>⟨[(0,.d (.sl 2 (c.map Q8))),(1,.d (.sl 2 (f.map Q8))),(5,q7 j)],[],0⟩) 0 h k (wkA [] [] []) ?_
  intro j n a
  unfold qc9 at a
  refine qf<|qc<|O J<|O J<|Qa J<|G _ J<|qa ?_
  refine qm J a (fun _ a=>?_) (fun _ a=>?_)
  ·refine qk<|qf<|qx<|qf<|Q9 [U,U,U,U,U,U,U,U,U] qh<|O J<|O J ?_
   obtain ⟨o,l,a⟩:=q6 a
   refine Q1 l J<|G _ J<|O J<|O J ?_
   obtain ⟨p,m,a⟩:=q6 a
   refine Q1 m J<|G _ J<|G _ J<|qa ?_
   refine qm J a (fun _ a=>?_) (fun _ a=>?_)
   ·refine qc<|qb J<|qo ?_
    refine ⟨_,(Option.some.inj a).symm,fun hm=>?_⟩
    subst hm
    obtain rfl:=qd b
    exact qy _ J
   refine qk<|Q7<|Qg<|qt<|O J<|G _ J<|qb J<|qr ?_
   exact ⟨_,(Option.some.inj a).symm,wkA [] [] []⟩
  refine Q3 ?_
  refine ⟨_,(Option.some.inj a).symm,fun hm=>?_⟩
  subst hm
  exact ⟨_,J,wkA [] [] []⟩
 intro g hb
 subst hb
 refine qc<|qb J<|qo ?_
 obtain rfl:=qd b
 exact qy _ J
theorem qfz (j : Int) (f : List qi) (g : List qi) (r : List qi) (n : J5 j f g = some r) : Pure Tryz.prog tab 79 [q9 j,.sl 4 (f.map qw),.sl 4 (g.map qw)] (.sl 4 (r.map qw)):=by
 unfold J5 at n
 refine Qf Tryz.func79 J qh qh J<|qc<|qb J<|qp<|O J<|O J ?_
 obtain ⟨k,h2,n⟩:=q6 n
 refine qz (qvb f g k h2) J<|O J<|O J ?_
 obtain ⟨l,h4,n⟩:=q6 n
 refine qz (qvd f g l h4) J<|qb J<|qb J<|qp<|qb J<|qp<|qb J<|qp<|qb J<|qa<|qf<|qc<|qb J<|qa ?_
 obtain ⟨aa,an,n⟩:=q6 n
 refine Qc (fun t=>t = aa) (fun t=>⟨[(9,.hs 0 4 0 t.length)],[(0,.dat 4 (t.map qw))],1⟩) qe ?_ ?_
 ·refine Q5 (q2j k l f g j) (fun a=>⟨[(0,q7 j),(1,.d (.sl 4 (f.map qw))),(2,.d (.sl 4 (g.map qw))),(7,.d (.sl 1 (k.map (eI .i64)))),(8,.d (.sl 1 (l.map (eI .i64)))),(9,.hs 0 4 0 a.2.2.2.length),(10,.d (.sl 2 (a.1.map Q8))),(11,q7 a.2.1),(12,q7 a.2.2.1)],[(0,.dat 4 (a.2.2.2.map qw))],1⟩) ([],0,0,[]) aa an (wkA [] [] [0]) ?_
  intro a bs o
  unfold q2j at o
  refine qf<|qc<|O J<|G _ J<|O J<|Qa J<|G _ J<|qa ?_
  refine qm J o (fun _ o=>?_) (fun _ o=>?_)
  ·refine qk<|qf ?_
   obtain ⟨ao,h,o⟩:=q6 o
   refine Qc (fun p=>p = ao) (fun p=>⟨[(0,q7 j),(1,.d (.sl 4 (f.map qw))),(2,.d (.sl 4 (g.map qw))),(7,.d (.sl 1 (k.map (eI .i64)))),(8,.d (.sl 1 (l.map (eI .i64)))),(9,.hs 0 4 0 p.2.2.length),(10,.d (.sl 2 (p.1.map Q8))),(11,q7 p.2.1),(12,q7 a.2.2.1)],[(0,.dat 4 (p.2.2.map qw))],1⟩) qe ?_ ?_
   ·refine qc<|qb J<|qa<|qf<|qc<|qb J<|qa ?_
    obtain ⟨ab,ap,h⟩:=q6 h
    refine Qc (fun q=>q = ab) (fun q=>⟨[(0,q7 j),(1,.d (.sl 4 (f.map qw))),(2,.d (.sl 4 (g.map qw))),(7,.d (.sl 1 (k.map (eI .i64)))),(8,.d (.sl 1 (l.map (eI .i64)))),(9,.hs 0 4 0 a.2.2.2.length),(10,.d (.sl 2 (a.1.map Q8))),(11,q7 a.2.1),(12,q7 a.2.2.1),(13,.hs 1 1 0 q.length)],[(0,.dat 4 (a.2.2.2.map qw)),(1,.dat 1 (q.map eB))],2⟩) qe ?_ ?_
    ·refine Q5 (q3o l k a f g j) (fun w=>⟨[(0,q7 j),(1,.d (.sl 4 (f.map qw))),(2,.d (.sl 4 (g.map qw))),(7,.d (.sl 1 (k.map (eI .i64)))),(8,.d (.sl 1 (l.map (eI .i64)))),(9,.hs 0 4 0 a.2.2.2.length),(10,.d (.sl 2 (a.1.map Q8))),(11,q7 a.2.1),(12,q7 a.2.2.1),(13,.hs 1 1 0 w.2.length),(14,q7 w.1)],[(0,.dat 4 (a.2.2.2.map qw)),(1,.dat 1 (w.2.map eB))],2⟩) (0,[]) ab ap (wkA [(0,0)] [] [1]) ?_
     intro w bt b
     unfold q3o at b
     refine qf<|qc<|O J<|O J<|Qa J<|G _ J<|qa ?_
     refine qm J b (fun _ b=>?_) (fun _ b=>?_)
     ·refine qk<|qf<|qx<|Q9 [U,(some [1,2],[1,3]),(some [],[2]),U,U,U,U,U,U,U,U,U,U,U,U,U,U,U,U,U,U,U,U,U,U,U] qh<|O J<|O J<|O J<|O J<|O J ?_
      obtain ⟨aq,ar,b⟩:=q6 b
      refine Q1 ar J<|G _ J<|O J<|O J ?_
      obtain ⟨au,av,b⟩:=q6 b
      refine Q1 av J<|G _ J ?_
      obtain ⟨ac,aw,b⟩:=q6 b
      refine qz (qlp f aq au ac aw) J<|O J<|O J<|O J ?_
      obtain ⟨ax,ay,b⟩:=q6 b
      refine Q1 ay J<|G _ J<|O J<|O J ?_
      obtain ⟨az,ba,b⟩:=q6 b
      refine Q1 ba J<|G _ J ?_
      obtain ⟨ad,bb,b⟩:=q6 b
      refine qz (qlp g ax az ad bb) J ?_
      obtain ⟨bc,bd,b⟩:=q6 b
      refine qz (qv5 j ac ad bc bd) J<|Qj _ _ J ?_
      obtain ⟨bu,be,b⟩:=q6 b
      refine Kn _ be J J J J J J J (Km J J) J J J J<|qb J<|qr<|Qg<|qt<|O J<|G _ J<|qb J<|qr ?_
      exact ⟨_,(Option.some.inj b).symm,wkA [(0,0),(1,3)] [] []⟩
     refine Q3 ?_
     refine ⟨_,(Option.some.inj b).symm,fun hm=>?_⟩
     subst hm
     exact ⟨_,J,wkA [(0,0),(1,1)] [] []⟩
    intro q hb
    subst hb
    refine qf ?_
    refine Y2 (st':=⟨[(0,q7 j),(1,.d (.sl 4 (f.map qw))),(2,.d (.sl 4 (g.map qw))),(7,.d (.sl 1 (k.map (eI .i64)))),(8,.d (.sl 1 (l.map (eI .i64)))),(9,.hs 0 4 0 a.2.2.2.length),(10,.d (.sl 2 (a.1.map Q8))),(11,q7 a.2.1),(12,q7 a.2.2.1),(13,.d (.sl 1 (q.map eB)))],[(0,.dat 4 (a.2.2.2.map qw))],1⟩) (wkA [(0,0)] [1] []) ?_ qe
    refine qt<|O J<|O J ?_
    obtain ⟨u,bf,h⟩:=q6 h
    refine qz (qv3 l q u bf) J<|qb J<|qa<|qf<|qc<|O J<|G _ J ?_
    obtain ⟨bg,s,h⟩:=q6 h
    refine Q2 5 (fun A st=>∃ ae af ag ah,st = A [(71,qu bg),(70,ah),(69,ag),(68,af),(67,ae)]) ?_ ?_
    ·refine Q0 J J s (fun s=>?_) (fun s=>?_)
     ·refine O J<|O J ?_
      obtain ⟨bh,bi,s⟩:=q6 s
      refine qz (qv6 u a.1 bh bi) J<|G _ J<|qa ?_
      obtain rfl:=qd s
      exact ⟨_,_,_,_,J⟩
     refine q8 J<|q8 J<|q8 J<|G _ J<|qa ?_
     obtain rfl:=qd s
     exact ⟨_,_,_,_,J⟩
    rintro _ ⟨ae,af,ag,ah,rfl⟩
    refine qa ?_
    refine qm J h (fun _ h=>?_) (fun _ h=>?_)
    ·refine qf<|qc<|O J<|qb J<|qa ?_
     obtain ⟨ai,bj,h⟩:=q6 h
     refine Qc (fun v=>v = ai) (fun v=>⟨[(0,q7 j),(1,.d (.sl 4 (f.map qw))),(2,.d (.sl 4 (g.map qw))),(7,.d (.sl 1 (k.map (eI .i64)))),(8,.d (.sl 1 (l.map (eI .i64)))),(9,.hs 0 4 0 v.length),(10,.d (.sl 2 (a.1.map Q8))),(11,q7 a.2.1),(12,q7 a.2.2.1)],[(0,.dat 4 (v.map qw))],1⟩) qe ?_ ?_
     ·refine Q5 (q3p k a) (fun x=>⟨[(0,q7 j),(1,.d (.sl 4 (f.map qw))),(2,.d (.sl 4 (g.map qw))),(7,.d (.sl 1 (k.map (eI .i64)))),(8,.d (.sl 1 (l.map (eI .i64)))),(9,.hs 0 4 0 x.2.length),(10,.d (.sl 2 (a.1.map Q8))),(11,q7 a.2.1),(12,q7 a.2.2.1),(16,q7 x.1)],[(0,.dat 4 (x.2.map qw))],1⟩) (a.2.1,a.2.2.2) ai bj (wkA [(0,0)] [] []) ?_
      intro x bv m
      unfold q3p at m
      refine qf<|qc<|O J<|O J<|G _ J<|G _ J<|qa ?_
      refine qm J m (fun _ m=>?_) (fun _ m=>?_)
      ·refine qk<|qf<|qx<|qt<|O J<|O J<|O J<|O J<|G _ J ?_
       obtain ⟨aj,bk,m⟩:=q6 m
       refine Q1 bk J<|G _ J ?_
       obtain ⟨z,ak,m⟩:=q6 m
       refine qv ak J J<|G _ J<|Qw (ds:=[q9 aj]) ({X0:=z.X0,Y0:=z.Y0,X1:=aj,Y1:=z.Y1} : qi) ak J J J J J J J J (leb J) J<|qr<|Qg<|qt<|O J<|G _ J<|qb J<|qr ?_
       exact ⟨_,(Option.some.inj m).symm,wkE [(0,0)] [] [] J ⟨qn J,qn J,qn J,qn J,qn J,⟨_,J,Qy qe J qs (ltd J)⟩,qn J,qn J,qn J,qn J,trivial⟩ ⟨Qk J J,trivial⟩⟩
      refine Q3 ?_
      refine ⟨_,(Option.some.inj m).symm,fun hm=>?_⟩
      subst hm
      exact ⟨_,J,wkA [(0,0)] [] []⟩
     intro v hb
     subst hb
     refine Q3 ?_
     obtain rfl:=qd h
     exact ⟨_,J,wkA [(0,0)] [] []⟩
    refine qk<|qc<|O J<|G _ J<|O J<|qb J<|qb J<|qp<|qb J<|qa ?_
    obtain ⟨bl,bm,h⟩:=q6 h
    refine qx<|Q5 (q5k u k a) (fun y=>⟨[(0,q7 j),(1,.d (.sl 4 (f.map qw))),(2,.d (.sl 4 (g.map qw))),(7,.d (.sl 1 (k.map (eI .i64)))),(8,.d (.sl 1 (l.map (eI .i64)))),(9,.hs 0 4 0 y.2.length),(10,.d (.sl 2 (u.map Q8))),(11,q7 (a.2.2.2.length : Int)),(12,q7 a.2.2.1),(15,.d (.sl 2 (u.map Q8))),(17,q7 y.1)],[(0,.dat 4 (y.2.map qw))],1⟩) (0,a.2.2.2) bl bm (wkA [(0,0)] [] []) ?_
    intro y bw c
    unfold q5k at c
    refine qf<|qc<|O J<|O J<|Qa J<|G _ J<|qa ?_
    refine qm J c (fun _ c=>?_) (fun _ c=>?_)
    ·refine qk<|qf<|qx<|Q9 [U,(some [0,1],[0,2]),(some [],[1]),U,U,U,U,U,U,U,U,U,U,U,U,U,U,U,U,U,U,U,U,U] qh<|O J<|O J<|O J ?_
     obtain ⟨bz,bn,c⟩:=q6 c
     refine Q1 bn J<|G _ J<|O J<|O J ?_
     obtain ⟨ca,bo,c⟩:=q6 c
     refine Q1 bo J<|G _ J<|G _ J<|O J<|O J<|G _ J ?_
     obtain ⟨cb,bp,c⟩:=q6 c
     refine Q1 bp J<|G _ J<|O J<|O J ?_
     obtain ⟨cc,bq,c⟩:=q6 c
     refine Q1 bq J<|G _ J<|G _ J<|G _ J<|Qj _ _ J ?_
     obtain ⟨cd,br,c⟩:=q6 c
     refine Kn _ br J J J J J J J (Km J J) J J J J<|qb J<|qr<|Qg<|qt<|O J<|G _ J<|qb J<|qr ?_
     exact ⟨_,(Option.some.inj c).symm,wkA [(0,2)] [] []⟩
    refine Q3 ?_
    refine ⟨_,(Option.some.inj c).symm,fun hm=>?_⟩
    subst hm
    obtain rfl:=qd h
    exact ⟨_,J,wkA [(0,0)] [] []⟩
   intro p hb
   subst hb
   refine qt<|O J<|G _ J<|qb J<|qr ?_
   exact ⟨_,(Option.some.inj o).symm,wkA [(0,0)] [] []⟩
  refine Q3 ?_
  refine ⟨_,(Option.some.inj o).symm,fun hm=>?_⟩
  subst hm
  exact ⟨_,J,wkA [(0,0)] [] []⟩
 intro t hb
 subst hb
 refine qc<|O J<|qb J<|qo ?_
 obtain rfl:=qd n
 exact finD (.inr J) J (Z6 J J) (.refl _)
theorem qv9 (c : List qi) (f : List qi) (r : Bool) (b : q5m c f = some r) : Pure Tryz.prog tab 81 [.sl 4 (c.map qw),.sl 4 (f.map qw)] (.bool r):=by
 unfold q5m at b
 refine Qf Tryz.func81 J qh qh J<|qc<|qb J<|qa<|qf<|qc<|O J<|Qa J<|O J<|Qa J<|G _ J<|qa ?_
 refine qm J b (fun _ b=>?_) (fun _ b=>?_)
 ·refine qc<|qb J<|qo ?_
  obtain rfl:=qd b
  exact qy _ J
 refine qk<|qf<|qc<|qb J<|qa ?_
 obtain ⟨h,k,b⟩:=q6 b
 refine Qc (fun g=>.inl g = h) (fun g=>⟨[],[],0⟩) qe ?_ ?_
 ·refine Q5 (qca c f) (fun j=>⟨[(0,.d (.sl 4 (c.map qw))),(1,.d (.sl 4 (f.map qw))),(5,q7 j)],[],0⟩) 0 h k (wkA [] [] []) ?_
  intro j n a
  unfold qca at a
  refine qf<|qc<|O J<|O J<|Qa J<|G _ J<|qa ?_
  refine qm J a (fun _ a=>?_) (fun _ a=>?_)
  ·refine qk<|qf<|qx<|qf<|Q9 [U,U,U,U,U,U,U,U,U] qh<|O J<|O J ?_
   obtain ⟨o,l,a⟩:=q6 a
   refine Q1 l J<|G _ J<|O J<|O J ?_
   obtain ⟨p,m,a⟩:=q6 a
   refine Q1 m J<|G _ J<|G _ J<|qa ?_
   refine qm J a (fun _ a=>?_) (fun _ a=>?_)
   ·refine qc<|qb J<|qo ?_
    refine ⟨_,(Option.some.inj a).symm,fun hm=>?_⟩
    subst hm
    obtain rfl:=qd b
    exact qy _ J
   refine qk<|Q7<|Qg<|qt<|O J<|G _ J<|qb J<|qr ?_
   exact ⟨_,(Option.some.inj a).symm,wkA [] [] []⟩
  refine Q3 ?_
  refine ⟨_,(Option.some.inj a).symm,fun hm=>?_⟩
  subst hm
  exact ⟨_,J,wkA [] [] []⟩
 intro g hb
 subst hb
 refine qc<|qb J<|qo ?_
 obtain rfl:=qd b
 exact qy _ J
theorem qvm (l : Int) (f : List qg) (g : List qg) (r : List qg × Bool) (o : q3w l f g = some r) : Pure Tryz.prog tab 50 [q9 l,.sl 6 (f.map Q6),.sl 6 (g.map Q6)] (.tup [.sl 6 (r.1.map Q6),.bool r.2]):=by
 unfold q3w at o
 refine Qf Tryz.func50 J qh qh J<|qc<|qb J<|qb J<|qp<|O J<|O J ?_
 obtain ⟨m,h2,o⟩:=q6 o
 refine qz (qvk f g m h2) J<|qb J<|qp<|qb J<|qp<|qb J<|qp<|qb J<|qa<|qf<|qc<|qb J<|qa ?_
 obtain ⟨y,bh,o⟩:=q6 o
 refine Qc (fun s=>.inl s = y) (fun s=>⟨[(9,.hs 0 6 0 s.length)],[(0,.dat 6 (s.map Q6))],1⟩) qe ?_ ?_
 ·refine Q5 (q1g m f g l) (fun b=>⟨[(0,q7 l),(1,.d (.sl 6 (f.map Q6))),(2,.d (.sl 6 (g.map Q6))),(8,.d (.sl 1 (m.map (eI .i64)))),(9,.hs 0 6 0 b.2.2.2.length),(10,.d (.sl 4 (b.1.map qw))),(11,q7 b.2.1),(12,q7 b.2.2.1)],[(0,.dat 6 (b.2.2.2.map Q6))],1⟩) ([],0,0,[]) y bh (wkA [] [] [0]) ?_
  intro b ct n
  unfold q1g at n
  refine qf<|qc<|O J<|G _ J<|O J<|Qa J<|G _ J<|qa ?_
  refine qm J n (fun _ n=>?_) (fun _ n=>?_)
  ·refine qk<|qf ?_
   obtain ⟨bi,a,n⟩:=q6 n
   refine Qc (fun p=>.inl p = bi) (fun p=>⟨[(0,q7 l),(1,.d (.sl 6 (f.map Q6))),(2,.d (.sl 6 (g.map Q6))),(8,.d (.sl 1 (m.map (eI .i64)))),(9,.hs 0 6 0 p.2.2.length),(10,.d (.sl 4 (p.1.map qw))),(11,q7 p.2.1),(12,q7 b.2.2.1)],[(0,.dat 6 (p.2.2.map Q6))],1⟩) qe ?_ ?_
   ·refine qf<|Q9 [U,U,U,U,U,U,U,U,U,U,U,U,U,U,U] qh<|O J<|O J<|O J<|O J ?_
    obtain ⟨bj,bk,a⟩:=q6 a
    refine Q1 bk J<|G _ J ?_
    obtain ⟨z,bl,a⟩:=q6 a
    refine qz (qcc f bj z bl) J<|O J<|O J<|O J ?_
    obtain ⟨bm,bn,a⟩:=q6 a
    refine Q1 bn J<|G _ J ?_
    obtain ⟨aa,bo,a⟩:=q6 a
    refine qz (qcc g bm aa bo) J ?_
    obtain ⟨t,bp,a⟩:=q6 a
    refine qz (qfz l z aa t bp) J<|qb J<|qa<|qf<|qc<|O J<|Qa J<|G _ J ?_
    obtain ⟨bq,h,a⟩:=q6 a
    refine Q2 11 (fun A st=>∃ ab ac ad ae af ag ah ai aj ak,st = A [(53,qu bq),(52,ak),(51,aj),(50,ai),(49,ah),(48,ag),(47,af),(46,ae),(45,ad),(44,ac),(43,ab)]) ?_ ?_
    ·refine Q0 J J h (fun h=>?_) (fun h=>?_)
     ·refine q8 J<|q8 J<|q8 J<|q8 J<|q8 J<|q8 J<|q8 J<|q8 J<|q8 J<|G _ J<|qa ?_
      obtain rfl:=qd h
      exact ⟨_,_,_,_,_,_,_,_,_,_,J⟩
     refine O J<|O J<|O J ?_
     obtain ⟨br,bs,h⟩:=q6 h
     refine Q1 bs J<|G _ J ?_
     obtain ⟨al,bt,h⟩:=q6 h
     refine qz (qcc f br al bt) J ?_
     obtain ⟨bu,bv,h⟩:=q6 h
     refine qz (q3j (.cons (.refl _) (.cons (.refl _) (.cons (.nil _) .nil))) (qfz 2 al [] bu bv)) J<|Qa J<|G _ J<|G _ J<|qa ?_
     obtain rfl:=qd h
     exact ⟨_,_,_,_,_,_,_,_,_,_,J⟩
    rintro _ ⟨ab,ac,ad,ae,af,ag,ah,ai,aj,ak,rfl⟩
    obtain ⟨bw,j,a⟩:=q6 a
    refine Q2 11 (fun A st=>∃ am an ao ap aq ar au av aw ax,st = A [(64,qu bw),(63,ax),(62,aw),(61,av),(60,au),(59,ar),(58,aq),(57,ap),(56,ao),(55,an),(54,am)]) ?_ ?_
    ·refine Q0 J J j (fun j=>?_) (fun j=>?_)
     ·refine q8 J<|q8 J<|q8 J<|q8 J<|q8 J<|q8 J<|q8 J<|q8 J<|q8 J<|G _ J<|qa ?_
      obtain rfl:=qd j
      exact ⟨_,_,_,_,_,_,_,_,_,_,J⟩
     refine O J<|O J<|O J ?_
     obtain ⟨bz,ca,j⟩:=q6 j
     refine Q1 ca J<|G _ J ?_
     obtain ⟨ay,cb,j⟩:=q6 j
     refine qz (qcc g bz ay cb) J ?_
     obtain ⟨cc,cd,j⟩:=q6 j
     refine qz (q3j (.cons (.refl _) (.cons (.refl _) (.cons (.nil _) .nil))) (qfz 2 ay [] cc cd)) J<|Qa J<|G _ J<|G _ J<|qa ?_
     obtain rfl:=qd j
     exact ⟨_,_,_,_,_,_,_,_,_,_,J⟩
    rintro _ ⟨am,an,ao,ap,aq,ar,au,av,aw,ax,rfl⟩
    refine qa ?_
    refine qm J a (fun _ a=>?_) (fun _ a=>?_)
    ·refine qc<|qb J<|qb J<|qo ?_
     obtain rfl:=qd a
     refine ⟨_,(Option.some.inj n).symm,fun hm=>?_⟩
     subst hm
     obtain rfl:=qd o
     exact finD (.inr J) J J (Kz (.cons (.nil _) (.cons (.refl _) .nil)))
    refine qk<|qf<|qc<|O J<|G _ J ?_
    obtain ⟨ce,q,a⟩:=q6 a
    refine Q2 5 (fun A st=>∃ az ba bb bc,st = A [(71,qu ce),(70,bc),(69,bb),(68,ba),(67,az)]) ?_ ?_
    ·refine Q0 J J q (fun q=>?_) (fun q=>?_)
     ·refine O J<|O J ?_
      obtain ⟨cf,cg,q⟩:=q6 q
      refine qz (qv9 t b.1 cf cg) J<|G _ J<|qa ?_
      obtain rfl:=qd q
      exact ⟨_,_,_,_,J⟩
     refine q8 J<|q8 J<|q8 J<|G _ J<|qa ?_
     obtain rfl:=qd q
     exact ⟨_,_,_,_,J⟩
    rintro _ ⟨az,ba,bb,bc,rfl⟩
    refine qa ?_
    refine qm J a (fun _ a=>?_) (fun _ a=>?_)
    ·refine qf<|qc<|O J<|qb J<|qa ?_
     obtain ⟨bd,ch,a⟩:=q6 a
     refine Qc (fun u=>u = bd) (fun u=>⟨[(0,q7 l),(1,.d (.sl 6 (f.map Q6))),(2,.d (.sl 6 (g.map Q6))),(8,.d (.sl 1 (m.map (eI .i64)))),(9,.hs 0 6 0 u.length),(10,.d (.sl 4 (b.1.map qw))),(11,q7 b.2.1),(12,q7 b.2.2.1)],[(0,.dat 6 (u.map Q6))],1⟩) qe ?_ ?_
     ·refine Q5 (q3x m b) (fun v=>⟨[(0,q7 l),(1,.d (.sl 6 (f.map Q6))),(2,.d (.sl 6 (g.map Q6))),(8,.d (.sl 1 (m.map (eI .i64)))),(9,.hs 0 6 0 v.2.length),(10,.d (.sl 4 (b.1.map qw))),(11,q7 b.2.1),(12,q7 b.2.2.1),(14,q7 v.1)],[(0,.dat 6 (v.2.map Q6))],1⟩) (b.2.1,b.2.2.2) bd ch (wkA [(0,0)] [] []) ?_
      intro v cu k
      unfold q3x at k
      refine qf<|qc<|O J<|O J<|G _ J<|G _ J<|qa ?_
      refine qm J k (fun _ k=>?_) (fun _ k=>?_)
      ·refine qk<|qf<|qx<|qt<|O J<|O J<|O J<|O J<|G _ J ?_
       obtain ⟨be,ci,k⟩:=q6 k
       refine Q1 ci J<|G _ J ?_
       obtain ⟨x,bf,k⟩:=q6 k
       refine qv bf J J<|G _ J<|G _ J<|Qw (ds:=[q9 be]) ({Lo:=x.Lo,Hi:=({X:=x.Hi.X,Y:=x.Hi.Y,Z:=be} : Qb)} : qg) bf J J J J J J J J (leb J) J<|qr<|Qg<|qt<|O J<|G _ J<|qb J<|qr ?_
       exact ⟨_,(Option.some.inj k).symm,wkE [(0,0)] [] [] J ⟨qn J,qn J,qn J,qn J,⟨_,J,Qy qe J qs (ltd J)⟩,qn J,qn J,qn J,qn J,trivial⟩ ⟨Qk J J,trivial⟩⟩
      refine Q3 ?_
      refine ⟨_,(Option.some.inj k).symm,fun hm=>?_⟩
      subst hm
      exact ⟨_,J,wkA [(0,0)] [] []⟩
     intro u hb
     subst hb
     refine Q3 ?_
     obtain rfl:=qd a
     exact ⟨_,J,wkA [(0,0)] [] []⟩
    refine qk<|qc<|O J<|G _ J<|O J<|qb J<|qb J<|qp<|qb J<|qa ?_
    obtain ⟨cj,ck,a⟩:=q6 a
    refine qx<|Q5 (q5s t m b) (fun w=>⟨[(0,q7 l),(1,.d (.sl 6 (f.map Q6))),(2,.d (.sl 6 (g.map Q6))),(8,.d (.sl 1 (m.map (eI .i64)))),(9,.hs 0 6 0 w.2.length),(10,.d (.sl 4 (t.map qw))),(11,q7 (b.2.2.2.length : Int)),(12,q7 b.2.2.1),(13,.d (.sl 4 (t.map qw))),(15,q7 w.1)],[(0,.dat 6 (w.2.map Q6))],1⟩) (0,b.2.2.2) cj ck (wkA [(0,0)] [] []) ?_
    intro w cv c
    unfold q5s at c
    refine qf<|qc<|O J<|O J<|Qa J<|G _ J<|qa ?_
    refine qm J c (fun _ c=>?_) (fun _ c=>?_)
    ·refine qk<|qf<|qx<|Q9 [U,(some [0,1],[0,2]),(some [],[1]),U,U,U,U,U,U,U,U,U,U,U,U,U,U,U,U,U,U,U,U,U,U,U,U,U,U,U,U,U,U,U,U,U] qh<|O J<|O J<|O J ?_
     obtain ⟨cw,cm,c⟩:=q6 c
     refine Q1 cm J<|G _ J<|G _ J<|O J<|O J ?_
     obtain ⟨cx,cn,c⟩:=q6 c
     refine Q1 cn J<|G _ J<|G _ J<|O J<|O J ?_
     obtain ⟨cy,co,c⟩:=q6 c
     refine Q1 co J<|G _ J<|G _ J<|O J<|O J ?_
     obtain ⟨cz,cp,c⟩:=q6 c
     refine Q1 cp J<|G _ J<|G _ J<|O J<|O J ?_
     obtain ⟨da,cq,c⟩:=q6 c
     refine Q1 cq J<|G _ J<|G _ J<|O J<|O J<|G _ J ?_
     obtain ⟨dc,cr,c⟩:=q6 c
     refine Q1 cr J<|G _ J<|G _ J<|G _ J<|Qj _ _ J ?_
     obtain ⟨dd,cs,c⟩:=q6 c
     refine Kn _ cs J J J J J J J (Km J J) J J J J<|qb J<|qr<|Qg<|qt<|O J<|G _ J<|qb J<|qr ?_
     exact ⟨_,(Option.some.inj c).symm,wkA [(0,2)] [] []⟩
    refine Q3 ?_
    refine ⟨_,(Option.some.inj c).symm,fun hm=>?_⟩
    subst hm
    obtain rfl:=qd a
    exact ⟨_,J,wkA [(0,0)] [] []⟩
   intro p hb
   subst hb
   refine qt<|O J<|G _ J<|qb J<|qr ?_
   exact ⟨_,(Option.some.inj n).symm,wkA [(0,0)] [] []⟩
  refine Q3 ?_
  refine ⟨_,(Option.some.inj n).symm,fun hm=>?_⟩
  subst hm
  exact ⟨_,J,wkA [(0,0)] [] []⟩
 intro s hb
 subst hb
 refine qc<|O J<|O J<|G _ J<|G _ J<|qb J<|qb J<|qo ?_
 obtain rfl:=qd o
 exact finD (.inr J) J (q4m (Yd (Z6 J J) (Yd J J))) (.refl _)
theorem qls (c : List qg) (f : List qg) (r : Bool) (b : q95 c f = some r) : Pure Tryz.prog tab 16 [.sl 6 (c.map Q6),.sl 6 (f.map Q6)] (.bool r):=by
 unfold q95 at b
 refine Qf Tryz.func16 J qh qh J<|qc<|qb J<|qa<|qf<|qc<|O J<|Qa J<|O J<|Qa J<|G _ J<|qa ?_
 refine qm J b (fun _ b=>?_) (fun _ b=>?_)
 ·refine qc<|qb J<|qo ?_
  obtain rfl:=qd b
  exact qy _ J
 refine qk<|qf<|qc<|qb J<|qa ?_
 obtain ⟨h,k,b⟩:=q6 b
 refine Qc (fun g=>.inl g = h) (fun g=>⟨[],[],0⟩) qe ?_ ?_
 ·refine Q5 (qcd c f) (fun j=>⟨[(0,.d (.sl 6 (c.map Q6))),(1,.d (.sl 6 (f.map Q6))),(5,q7 j)],[],0⟩) 0 h k (wkA [] [] []) ?_
  intro j n a
  unfold qcd at a
  refine qf<|qc<|O J<|O J<|Qa J<|G _ J<|qa ?_
  refine qm J a (fun _ a=>?_) (fun _ a=>?_)
  ·refine qk<|qf<|qx<|qf<|Q9 [U,U,U,U,U,U,U,U,U] qh<|O J<|O J ?_
   obtain ⟨o,l,a⟩:=q6 a
   refine Q1 l J<|G _ J<|O J<|O J ?_
   obtain ⟨p,m,a⟩:=q6 a
   refine Q1 m J<|G _ J<|G _ J<|qa ?_
   refine qm J a (fun _ a=>?_) (fun _ a=>?_)
   ·refine qc<|qb J<|qo ?_
    refine ⟨_,(Option.some.inj a).symm,fun hm=>?_⟩
    subst hm
    obtain rfl:=qd b
    exact qy _ J
   refine qk<|Q7<|Qg<|qt<|O J<|G _ J<|qb J<|qr ?_
   exact ⟨_,(Option.some.inj a).symm,wkA [] [] []⟩
  refine Q3 ?_
  refine ⟨_,(Option.some.inj a).symm,fun hm=>?_⟩
  subst hm
  exact ⟨_,J,wkA [] [] []⟩
 intro g hb
 subst hb
 refine qc<|qb J<|qo ?_
 obtain rfl:=qd b
 exact qy _ J
theorem qvi (c : List qg) (r : Int) (a : q93 c = some r) : Pure Tryz.prog tab 33 [.sl 6 (c.map Q6)] (q9 r):=by
 unfold q93 at a
 refine Qf Tryz.func33 J qh qh J<|qc<|qb J<|qa<|qf<|qc<|O J<|Qa J<|G _ J<|qa ?_
 refine qm J a (fun _ a=>?_) (fun _ a=>?_)
 ·refine qc<|qb J<|qo ?_
  obtain rfl:=qd a
  exact qy _ J
 refine qk<|qf<|qc<|qb J<|qa ?_
 obtain ⟨h,q,a⟩:=q6 a
 refine Qc (fun g=>.inl g = h) (fun g=>⟨[(0,.d (.sl 6 (c.map Q6)))],[],0⟩) qe ?_ ?_
 ·refine Q5 (q5r c) (fun j=>⟨[(0,.d (.sl 6 (c.map Q6))),(3,q7 j)],[],0⟩) 0 h q (wkA [] [] []) ?_
  intro j aa b
  unfold q5r at b
  refine qf<|qc<|O J<|O J<|Qa J<|G _ J<|qa ?_
  refine qm J b (fun _ b=>?_) (fun _ b=>?_)
  ·refine qk<|qf<|qx<|qc<|O J<|O J ?_
   obtain ⟨s,t,b⟩:=q6 b
   refine Q1 t J<|G _ J ?_
   obtain ⟨u,v,b⟩:=q6 b
   refine qz (qvp s u v) J<|G _ J<|qa ?_
   refine qm J b (fun _ b=>?_) (fun _ b=>?_)
   ·refine qc<|qb J<|qo ?_
    refine ⟨_,(Option.some.inj b).symm,fun hm=>?_⟩
    subst hm
    obtain rfl:=qd a
    exact qy _ J
   refine qk<|Q7<|Qg<|qt<|O J<|G _ J<|qb J<|qr ?_
   exact ⟨_,(Option.some.inj b).symm,wkA [] [] []⟩
  refine Q3 ?_
  refine ⟨_,(Option.some.inj b).symm,fun hm=>?_⟩
  subst hm
  exact ⟨_,J,wkA [] [] []⟩
 intro g hb
 subst hb
 refine qc<|O J ?_
 obtain ⟨k,w,a⟩:=q6 a
 refine qz (q3j (.cons (.refl _) (.cons (.refl _) (.cons (.nil _) .nil))) (qvm 2 c [] k w)) J<|O J<|G _ J<|G _ J<|qb J<|qb J<|qa<|qf<|qc<|O J<|G _ J ?_
 obtain ⟨x,f,a⟩:=q6 a
 refine Q2 6 (fun A st=>∃ l m n o p,st = A [(33,qu x),(32,p),(31,o),(30,n),(29,m),(28,l)]) ?_ ?_
 ·refine Q0 J J f (fun f=>?_) (fun f=>?_)
  ·refine q8 J<|q8 J<|q8 J<|q8 J<|G _ J<|qa ?_
   obtain rfl:=qd f
   exact ⟨_,_,_,_,_,J⟩
  refine O J<|O J ?_
  obtain ⟨y,z,f⟩:=q6 f
  refine qz (qls k.1 c y z) J<|G _ J<|G _ J<|qa ?_
  obtain rfl:=qd f
  exact ⟨_,_,_,_,_,J⟩
 rintro _ ⟨l,m,n,o,p,rfl⟩
 refine qa ?_
 refine qm J a (fun _ a=>?_) (fun _ a=>?_)
 ·refine qc<|qb J<|qo ?_
  obtain rfl:=qd a
  exact qy _ J
 refine qk<|qc<|qb J<|qo ?_
 obtain rfl:=qd a
 exact qy _ J
theorem q125 (b : Qx) (c : List qg) (r : List qg × Int) (a : qar b c = some r) : Pure Tryz.prog tab 14 [.agg [q9 b.From.X,q9 b.From.Y,q9 b.From.Z,q9 b.To.X,q9 b.To.Y,q9 b.To.Z,q9 b.Depth],.sl 6 (c.map Q6)] (.tup [.sl 6 (r.1.map Q6),q9 r.2]):=by
 unfold qar at a
 refine Qf Tryz.func14 J qh qh J<|qc<|Qj _ _ J<|qb J<|qb J<|qa<|qf<|qc<|G _ J<|Qj _ _ J<|G _ J ?_
 obtain ⟨f,g,a⟩:=q6 a
 refine q2h [.agg [.hs 1 7 0 [b].length,.d (.nilsl),.d (.int .u8 0),q7 0,q7 0,q7 0,q7 0]] (q3j (.cons (qef (.cons (.refl _) (.cons (.nil _) (.cons (.refl _) (.cons (.refl _) (.cons (.refl _) (.cons (.refl _) (.cons (.refl _) .nil)))))))) .nil) (qo3 ({Lines:=[b],Marks:=[],End:=({Frame:=({Turn:=0,At:=({X:=0,Y:=0,Z:=0} : Qb)} : Y5),Drawn:=0} : Jj)} : Qn) f g)) J J (Zc (q12l (Yd (Z6 J J) (Yd J (Yd J (Yd J (Yd J (Yd J (Yd J J)))))))) J) (.inr J)<|O J<|G _ J<|G _ J<|qb J<|qb J<|qp<|O J<|G _ J<|qa ?_
 refine qm J a (fun _ a=>?_) (fun _ a=>?_)
 ·refine qc<|O J<|qb J<|qb J<|qo ?_
  obtain rfl:=qd a
  exact finD (.inr J) J J (Kz (.cons (.nil _) (.cons (.refl _) .nil)))
 refine qk<|qf<|qc<|O J ?_
 obtain ⟨h,j,a⟩:=q6 a
 refine qz (qab c h j) J<|qb J<|qp<|O J<|G _ J<|qa ?_
 refine qm J a (fun _ a=>?_) (fun _ a=>?_)
 ·refine qc<|O J<|qb J<|qb J<|qo ?_
  obtain rfl:=qd a
  exact finD (.inr J) J J (Kz (.cons (.nil _) (.cons (.refl _) .nil)))
 refine qk<|qc<|G _ J<|O J ?_
 obtain ⟨k,l,a⟩:=q6 a
 refine qz (qnv b c k l) J<|G _ J<|G _ J<|qb J<|qb J<|qo ?_
 obtain rfl:=qd a
 exact qy _ J
end Go.Proofs.YtbknppciefodiaaGreat
