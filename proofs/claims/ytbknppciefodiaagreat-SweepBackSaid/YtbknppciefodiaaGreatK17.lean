/- W_Allc -/
import Derived.Test.YtbknppciefodiaaGreatK16
namespace Go.Proofs.YtbknppciefodiaaGreat
open Go Go.Am Go.Sh
set_option maxHeartbeats 8000000
set_option maxRecDepth 100000
theorem qof (a : Qa) (r : Bool) (c : qb7 a = some r) : Pure Tryz.prog tab 74 [.agg [q8 a.X,q8 a.Y,q8 a.Z]] (.bool r):=by
 unfold qb7 at c
 refine Qo Tryz.func74 J qh qh J<|qc<|Qs _ _ J<|qa J<|qt<|G _ J<|G _ J<|G _ J<|G _ J<|G _ J<|G _ J<|q2y (r:=min (min a.X a.Y) a.Z) J J (by simp only [q2w];rfl)<|G _ J ?_
 obtain ⟨o,b,c⟩:=q7 c
 refine Qb 10 (fun A st=>∃ d f g h j k l m n,st = A [(20,Q0 o),(19,n),(18,m),(17,l),(16,k),(15,j),(14,h),(13,g),(12,f),(11,d)]) ?_ ?_
 ·refine Q9 J J b (fun b=>?_) (fun b=>?_)
  ·refine G _ J<|G _ J<|G _ J<|G _ J<|G _ J<|G _ J<|Um (r:=max (max a.X a.Y) a.Z) J J (by simp only [Uk];rfl)<|G _ J<|G _ J<|q9 ?_
   obtain rfl:=qd b
   exact ⟨_,_,_,_,_,_,_,_,_,J⟩
  refine qb J<|qb J<|qb J<|qb J<|qb J<|qb J<|qb J<|qb J<|G _ J<|q9 ?_
  obtain rfl:=qd b
  exact ⟨_,_,_,_,_,_,_,_,_,J⟩
 rintro _ ⟨d,f,g,h,j,k,l,m,n,rfl⟩
 refine qa J<|qs ?_
 obtain rfl:=qd c
 exact Q5 _ J
theorem qyr (c : List qg) (g : qg→Option Bool) (p1F : FuncId) (p1C : List DV) (p1Ok : ∀ (b : qg) (r : Bool),g b = some r→Pure Tryz.prog tab p1F ([.agg [q8 b.Lo.X,q8 b.Lo.Y,q8 b.Lo.Z,q8 b.Hi.X,q8 b.Hi.Y,q8 b.Hi.Z]] ++ p1C) (.bool r)) (r : Int) (f : qd7 c g = some r) : Pure Tryz.prog tab 119 [.sl 6 (c.map Qg),.fn p1F p1C] (q8 r):=by
 unfold qd7 at f
 refine Qo Tryz.func119 J qh qh J<|qc<|qa J<|q9<|qf<|qc<|O J<|Qi J<|O J<|q9 ?_
 obtain ⟨j,l,f⟩:=q7 f
 refine Qk (fun h=>.inl h = j) (fun h=>⟨[],[],0⟩) qe ?_ ?_
 ·refine Qe (q4i c g) (fun k=>⟨[(0,.d (.sl 6 (c.map Qg))),(1,.d (.fn p1F p1C)),(7,q6 (c.length : Int)),(8,q6 k)],[],0⟩) 0 j l (wkA [] [] []) ?_
  intro k q a
  unfold q4i at a
  refine qc<|G _ J<|q9<|qf ?_
  refine qo J a (fun _ a=>?_) (fun _ a=>?_)
  ·refine ql<|qf<|Q3<|qc<|O J<|qa J<|qt<|O J<|O J<|O J ?_
   obtain ⟨m,n,a⟩:=q7 a
   refine Qc n J<|G _ J ?_
   obtain ⟨o,p,a⟩:=q7 a
   refine Yk _ (p1Ok m o p) J J J (.inl J)<|q9 ?_
   refine qo J a (fun _ a=>?_) (fun _ a=>?_)
   ·refine qc<|O J<|qa J<|qs ?_
    refine ⟨_,qm a,fun hm=>?_⟩
    subst hm
    obtain rfl:=qd f
    exact Q5 _ J
   refine ql<|Qf<|Qn<|qw<|G _ J<|O J<|qv ?_
   exact ⟨_,qm a,wkA [] [] []⟩
  refine Q8 ?_
  refine ⟨_,qm a,fun hm=>?_⟩
  subst hm
  exact ⟨_,J,wkA [] [] []⟩
 intro h hb
 subst hb
 refine qc<|qa J<|qs ?_
 obtain rfl:=qd f
 exact Q5 _ J
theorem qyk (c : List qg) (d : qg→Option Bool) (p1F : FuncId) (p1C : List DV) (p1Ok : ∀ (a : qg) (r : Bool),d a = some r→Pure Tryz.prog tab p1F ([.agg [q8 a.Lo.X,q8 a.Lo.Y,q8 a.Lo.Z,q8 a.Hi.X,q8 a.Hi.Y,q8 a.Hi.Z]] ++ p1C) (.bool r)) (r : Bool) (b : q9p c d = some r) : Pure Tryz.prog tab 94 [.sl 6 (c.map Qg),.fn p1F p1C] (.bool r):=by
 unfold q9p at b
 refine Qo Tryz.func94 J qh qh J<|qc<|qa J<|qt<|O J<|O J ?_
 obtain ⟨f,g,b⟩:=q7 b
 refine Q4 (qyr c d p1F p1C p1Ok f g) J<|G _ J<|qa J<|qs ?_
 obtain rfl:=qd b
 exact Q5 _ J
theorem q11m (a : qg) (r : Bool) (b : q3e a = some r) : Pure Tryz.prog tab 95 [.agg [q8 a.Lo.X,q8 a.Lo.Y,q8 a.Lo.Z,q8 a.Hi.X,q8 a.Hi.Y,q8 a.Hi.Z]] (.bool r):=by
 unfold q3e at b
 refine Qo Tryz.func95 J qh qh J<|qc<|Qs _ _ J<|qa J<|qt<|G _ J ?_
 obtain ⟨c,d,b⟩:=q7 b
 refine Q4 (qns a c d) J<|G _ J<|qa J<|qs ?_
 obtain rfl:=qd b
 exact Q5 _ J
theorem q11o (b : List qg) (r : List qg × Int) (a : qap b = some r) : Pure Tryz.prog tab 64 [.sl 6 (b.map Qg)] (.tup [.sl 6 (r.1.map Qg),q8 r.2]):=by
 unfold qap at a
 refine Qo Tryz.func64 J qh qh J<|qc<|qa J<|qa J<|q9<|qf<|qc<|O J<|Qi J<|G _ J<|q9 ?_
 refine qo J a (fun _ a=>?_) (fun _ a=>?_)
 ·refine qc<|qa J<|qa J<|qs ?_
  obtain rfl:=qd a
  exact finD (.inr J) J J (Ye (.cons (.nil _) (.cons (.refl _) .nil)))
 refine ql<|qf<|qc<|O J ?_
 obtain ⟨d,f,a⟩:=q7 a
 refine Q4 (qyk b (fun c=>q3e c) 95 [] (fun c r hr=>q11m c r hr) d f) J<|q9 ?_
 refine qo J a (fun _ a=>?_) (fun _ a=>?_)
 ·refine qc<|qa J<|qa J<|qs ?_
  obtain rfl:=qd a
  exact finD (.inr J) J J (Ye (.cons (.nil _) (.cons (.refl _) .nil)))
 refine ql<|qc<|G _ J<|O J<|q40 (es:=1) ([b].map Qq) J J J J J ?_
 obtain ⟨g,h,a⟩:=q7 a
 refine Q4 (qnt b g h) J<|G _ J<|G _ J<|qa J<|qa J<|qs ?_
 obtain rfl:=qd a
 exact Q5 _ J
theorem qoe (a : Qy) (j : List qg) (r : List qg × Int) (c : q86 a j = some r) : Pure Tryz.prog tab 45 [.agg [q8 a.From.X,q8 a.From.Y,q8 a.From.Z,q8 a.To.X,q8 a.To.Y,q8 a.To.Z,q8 a.Depth],.sl 6 (j.map Qg)] (.tup [.sl 6 (r.1.map Qg),q8 r.2]):=by
 unfold q86 at c
 refine Qo Tryz.func45 J qh qh J<|qc<|Qs _ _ J<|qa J<|qa J<|q9<|qf<|Qj [Qv 2,Qv 1,(some [],[2]),(some [],[1]),qu 0,U,qu 0,U] qh<|G _ J<|G _ J<|G _ J<|G _ J<|K4 J J<|K4 J J<|Ql 1 _ J<|Ql 2 _ J<|qt<|G _ J<|G _ J<|G _ J<|G _ J<|q2y (r:=min a.From.X a.To.X) J J (by simp only [q2w];rfl)<|G _ J<|G _ J<|G _ J<|G _ J<|q2y (r:=min a.From.Y a.To.Y) J J (by simp only [q2w];rfl)<|G _ J<|G _ J<|G _ J<|G _ J<|q2y (r:=min a.From.Z a.To.Z) J J (by simp only [q2w];rfl)<|G _ J<|K4 J J<|Ql 3 _ J<|qt<|G _ J<|G _ J<|G _ J<|G _ J ?_
 refine Um (r:=max a.From.X a.To.X) J J (by simp only [Uk];rfl)<|G _ J<|G _ J<|G _ J<|G _ J<|Um (r:=max a.From.Y a.To.Y) J J (by simp only [Uk];rfl)<|G _ J<|G _ J<|G _ J<|G _ J<|Um (r:=max a.From.Z a.To.Z) J J (by simp only [Uk];rfl)<|G _ J<|K4 J J<|Ql 4 _ J<|qt<|qa J<|q9<|qf<|qc<|O J<|Qi J<|O J<|q9 ?_
 obtain ⟨l,s,c⟩:=q7 c
 refine Qk (fun f=>.inl f = l) (fun f=>⟨[(10,.hs 0 6 0 f.length)],[(0,.dat 6 (f.map Qg))],1⟩) qe ?_ ?_
 ·refine Qe (q52 j a) (fun k=>⟨[(8,.ref 0 3 0 0),(9,.ref 1 3 0 0),(10,.hs 2 6 0 k.2.length),(50,.d (.sl 6 (j.map Qg))),(51,q6 (j.length : Int)),(52,q6 k.1)],[(0,.dat 3 [[q8 (min a.From.X a.To.X),q8 (min a.From.Y a.To.Y),q8 (min a.From.Z a.To.Z)]]),(1,.dat 3 [[q8 (max a.From.X a.To.X),q8 (max a.From.Y a.To.Y),q8 (max a.From.Z a.To.Z)]]),(2,.dat 6 (k.2.map Qg))],3⟩) (0,[]) l s (wkA [(0,3),(1,4)] [] [2]) ?_
  intro k ac b
  unfold q52 at b
  refine qc<|G _ J<|q9<|qf ?_
  refine qo J b (fun _ b=>?_) (fun _ b=>?_)
  ·refine ql<|qf<|Q3<|qc ?_
   obtain ⟨h,t,b⟩:=q7 b
   refine Qc t J<|G _ J<|K4 J J<|Ql 3 _ J<|qt<|G _ J<|G _ J<|G _ J<|G _ J<|G _ J<|G _ J<|G _ J<|G _ J<|G _ J<|G _ J<|G _ J<|G _ J<|G _ J<|G _ J<|G _ J<|G _ J<|G _ J<|G _ J<|G _ J<|G _ J<|G _ J<|G _ J<|G _ J<|G _ J<|G _ J<|G _ J<|G _ J<|G _ J<|G _ J<|G _ J<|G _ J<|G _ J<|G _ J<|G _ J<|G _ J ?_
   refine G _ J<|G _ J<|G _ J<|G _ J<|K4 J J<|Ql 4 _ J<|q9<|qf<|qc<|G _ J<|G _ J ?_
   obtain ⟨u,v,b⟩:=q7 b
   refine Q4 (qof ({X:=w64 (h.Lo.X + (min a.From.X a.To.X)),Y:=w64 (h.Lo.Y + (min a.From.Y a.To.Y)),Z:=w64 (h.Lo.Z + (min a.From.Z a.To.Z))} : Qa) u v) J<|G _ J ?_
   obtain ⟨w,g,b⟩:=q7 b
   refine Qb 6 (fun A st=>∃ m n o p q,st = A [(104,Q0 w),(103,q),(102,p),(101,o),(100,n),(99,m)]) ?_ ?_
   ·refine Q9 J J g (fun g=>?_) (fun g=>?_)
    ·refine qb J<|qb J<|qb J<|qb J<|G _ J<|q9 ?_
     obtain rfl:=qd g
     exact ⟨_,_,_,_,_,J⟩
    refine G _ J<|G _ J ?_
    obtain ⟨x,y,g⟩:=q7 g
    refine Q4 (qof ({X:=w64 (h.Hi.X + (max a.From.X a.To.X)),Y:=w64 (h.Hi.Y + (max a.From.Y a.To.Y)),Z:=w64 (h.Hi.Z + (max a.From.Z a.To.Z))} : Qa) x y) J<|G _ J<|G _ J<|q9 ?_
    obtain rfl:=qd g
    exact ⟨_,_,_,_,_,J⟩
   rintro _ ⟨m,n,o,p,q,rfl⟩
   refine q9 ?_
   refine qo J b (fun _ b=>?_) (fun _ b=>?_)
   ·refine qc<|qa J<|qa J<|qs ?_
    refine ⟨_,qm b,fun hm=>?_⟩
    subst hm
    obtain rfl:=qd c
    exact finD (.inr J) J J (Ye (.cons (.nil _) (.cons (.refl _) .nil)))
   refine ql<|qw<|O J<|G _ J<|Qs _ _ J ?_
   obtain ⟨ad,z,b⟩:=q7 b
   refine Ku _ z J J J J J J J (Ks J J) J J J J<|qa J<|qv<|Qn<|qw<|G _ J<|O J<|qv ?_
   exact ⟨_,qm b,wkA [(0,0),(1,1),(2,6)] [] []⟩
  refine Q8 ?_
  refine ⟨_,qm b,fun hm=>?_⟩
  subst hm
  exact ⟨_,J,wkA [(0,2)] [] []⟩
 intro f hb
 subst hb
 refine qf ?_
 refine Yb (st':=⟨[(10,.d (.sl 6 (f.map Qg)))],[],0⟩) (wkA [] [0] []) ?_ qe
 refine qw<|O J ?_
 obtain ⟨aa,ab,c⟩:=q7 c
 refine Q4 (q11o f aa ab) J<|G _ J<|G _ J<|qa J<|qa J<|qs ?_
 obtain rfl:=qd c
 exact Q5 _ J
theorem qdq (a : Qp) (f : List (List qg)) (r : List (List qg) × Int) (c : q28 a f = some r) : Pure Tryz.prog tab 11 [.agg [.sl 7 (a.Lines.map Kb),.sl 5 (a.Marks.map Km),.int .u8 a.End.Frame.Turn,q8 a.End.Frame.At.X,q8 a.End.Frame.At.Y,q8 a.End.Frame.At.Z,q8 a.End.Drawn],.sl 1 (f.map Qq)] (.tup [.sl 1 (r.1.map Qq),q8 r.2]):=by
 unfold q28 at c
 refine Qo Tryz.func11 J qh qh J<|qc<|Qs _ _ J<|K4 J J<|K4 J J<|q9<|qf<|qc<|G _ J<|O J ?_
 obtain ⟨o,p,c⟩:=q7 c
 refine Q4 (q12q a f o p) J<|qa J<|qt<|O J<|G _ J<|q9 ?_
 refine qo J c (fun _ c=>?_) (fun _ c=>?_)
 ·refine qc<|O J<|Ql 1 _ J<|Ql 2 _ J<|qs ?_
  obtain rfl:=qd c
  exact finD (.inr J) J J (Ye (.cons (.nil _) (.cons (.refl _) .nil)))
 refine ql<|qc<|K4 J J<|q9<|qf<|qc<|G _ J<|O J ?_
 obtain ⟨q,s,c⟩:=q7 c
 refine q3z [.d (.agg [.sl 7 (a.Lines.map Kb),.sl 5 (a.Marks.map Km),.int .u8 a.End.Frame.Turn,q8 a.End.Frame.At.X,q8 a.End.Frame.At.Y,q8 a.End.Frame.At.Z,q8 a.End.Drawn]),.d (.sl 1 (f.map Qq))] (fun m=>m = q) (fun (m : Unit)=>⟨[(4,.ref 0 1 0 0),(5,.ref 1 1 0 0),(7,.ref 2 1 0 0),(18,.fn 67 [.ref 3 7 0 0,.ref 4 1 0 0])],[(0,.dat 1 [[.nilsl]]),(1,.dat 1 [[q8 0]]),(2,.dat 1 [[.nilsl]]),(3,.dat 7 [[.sl 7 (a.Lines.map Kb),.sl 5 (a.Marks.map Km),.int .u8 a.End.Frame.Turn,q8 a.End.Frame.At.X,q8 a.End.Frame.At.Y,q8 a.End.Frame.At.Z,q8 a.End.Drawn]]),(4,.dat 1 [[.sl 1 (f.map Qq)]])],5⟩) J J Tryz.func40 J qh qh J ?_ ?_
 ·refine qc<|Qs _ _ J<|Qs _ _ J<|qa J<|qt<|G _ J<|qa J<|qs ?_
  refine ⟨.inr J,_,J,?_⟩
  obtain rfl:=qd s
  exact ⟨_,J,wkA [(0,1),(1,2),(2,3),(3,4),(4,5)] [] []⟩
 intro m hb
 subst hb
 refine q9<|Q3 ?_
 obtain ⟨t,l,c⟩:=q7 c
 refine q6p (fun h=>.inl h = t) (fun h=>⟨[(4,.ref 0 1 0 0),(5,.ref 1 1 0 0),(7,.ref 2 1 0 0)],[(0,.dat 1 [[.nilsl]]),(1,.dat 1 [[q8 0]]),(2,.cel 1 [[.hs 3 1 0 h.length]]),(3,.dat 1 (h.map Qq))],4⟩) ?_ ?_
 ·refine Yb (st':=⟨[(4,.ref 0 1 0 0),(5,.ref 1 1 0 0),(7,.ref 2 1 0 0),(18,.fn 67 [.ref 3 7 0 0,.ref 4 1 0 0])],[(0,.dat 1 [[.nilsl]]),(1,.dat 1 [[q8 0]]),(2,.dat 1 [[.nilsl]]),(3,.dat 7 [[.sl 7 (a.Lines.map Kb),.sl 5 (a.Marks.map Km),.int .u8 a.End.Frame.Turn,q8 a.End.Frame.At.X,q8 a.End.Frame.At.Y,q8 a.End.Frame.At.Z,q8 a.End.Drawn]]),(4,.dat 1 [[.sl 1 (f.map Qq)]])],5⟩) (wkA [(0,0),(1,1),(2,2),(3,3),(4,4)] [] []) ?_ qe
  refine q6q _ (.inl J) Tryz.func67 J qh qh J ?_
  intro A90 B91 hA90 hB91
  refine qc<|G _ J<|G _ J<|Qi J<|O J<|q9 ?_
  obtain ⟨u,v,l⟩:=q7 l
  refine Q3<|Qe (q84 a f) (fun j=>⟨[(0,.yld 5),(2,.ref 4 1 0 0),(7,.d (.sl 7 (a.Lines.map Kb))),(8,q6 (a.Lines.length : Int)),(9,q6 j.1)],[(0,.dat 1 [[.nilsl]]),(1,.dat 1 [[q8 0]]),(2,.cel 1 [[.hs 6 1 0 j.2.length]]),(3,.dat 7 [[.sl 7 (a.Lines.map Kb),.sl 5 (a.Marks.map Km),.int .u8 a.End.Frame.Turn,q8 a.End.Frame.At.X,q8 a.End.Frame.At.Y,q8 a.End.Frame.At.Z,q8 a.End.Drawn]]),(4,.dat 1 [[.sl 1 (f.map Qq)]]),(5,.loop [(4,.ref 0 1 0 0),(5,.ref 1 1 0 0),(7,.ref 2 1 0 0),(18,.fn 67 [.ref 3 7 0 0,.ref 4 1 0 0])] [19,20] A90 B91 .ready none),(6,.dat 1 (j.2.map Qq))],7⟩) (0,[]) u v (wkA [] [] [6]) ?_
  intro j ad b
  unfold q84 at b
  refine qc<|G _ J<|q9<|qf ?_
  refine qo J b (fun _ b=>?_) (fun _ b=>?_)
  ·refine ql<|qf<|Q3<|qc ?_
   obtain ⟨n,w,b⟩:=q7 b
   refine Qc w J<|G _ J<|K4 J J<|Ql 7 _ J<|q9<|qf<|Qj [U,(none,[0]),U,U,U,U,U,U,U,U,qu 4,qu 7,U,qu 4,qu 7,U] qh<|O J<|G _ J<|G _ J<|G _ J<|G _ J<|G _ J<|Qi J<|G _ J<|q2y (r:=min n.Depth (w64 ((f.length : Int) - 1))) J J (by simp only [q2w];rfl) ?_
   obtain ⟨x,y,b⟩:=q7 b
   refine Qc y J<|G _ J ?_
   obtain ⟨z,aa,b⟩:=q7 b
   refine Q4 (qoe n x z aa) J<|G _ J<|G _ J<|qu9 J ?_
   obtain ⟨ab,g,b⟩:=q7 b
   refine q5w (fun k=>.inl k = ab) (fun (k : List (List qg))=>⟨[(0,.yld 5),(2,.ref 4 1 0 0),(7,.d (.sl 7 (a.Lines.map Kb))),(8,q6 (a.Lines.length : Int)),(9,q6 j.1),(27,Q0 true)],[(0,.dat 1 [[.nilsl]]),(1,.dat 1 [[q8 0]]),(2,.cel 1 [[.hs 6 1 0 k.length]]),(3,.dat 7 [[.sl 7 (a.Lines.map Kb),.sl 5 (a.Marks.map Km),.int .u8 a.End.Frame.Turn,q8 a.End.Frame.At.X,q8 a.End.Frame.At.Y,q8 a.End.Frame.At.Z,q8 a.End.Drawn]]),(4,.dat 1 [[.sl 1 (f.map Qq)]]),(5,.loop [(4,.ref 0 1 0 0),(5,.ref 1 1 0 0),(7,.ref 2 1 0 0),(18,.fn 67 [.ref 3 7 0 0,.ref 4 1 0 0])] [19,20] A90 B91 .ready none),(6,.dat 1 (k.map Qq))],7⟩) hA90 hB91 J J J J J J ?_ ?_
   ·refine qc<|qa J<|q9<|qw<|qa J<|qv ?_
    refine ⟨J,_,J,?_⟩
    refine Q3<|qf<|qc<|O J<|G _ J<|q9 ?_
    refine qo J g (fun _ g=>?_) (fun _ g=>?_)
    ·refine qc<|O J<|Ql 0 _ J<|Ql 1 _ J<|qs ?_
     obtain rfl:=qd g
     refine ⟨_,J,?_⟩
     refine q9<|G _ J<|q9<|Zg J<|q15 ?_
     refine ⟨_,qm b,fun hm=>?_⟩
     subst hm
     refine ⟨.inr J,_,J,_,_,.ret,J,qx,?_⟩
     refine qbl ?_
     obtain rfl:=qd l
     obtain rfl:=qd c
     exact finD (.inr J) J J (Ye (.cons (.nil _) (.cons (.refl _) .nil)))
    refine ql<|qw<|G _ J<|O J<|Qs _ _ J ?_
    obtain ⟨ae,ac,g⟩:=q7 g
    refine Ku _ ac J J J J J J J (Ks J J) J J J J<|Ql 2 _ J<|qv<|Qn<|Qf ?_
    refine ⟨_,J,?_⟩
    obtain rfl:=qd g
    exact ⟨_,J,wkA [(6,9)] [] []⟩
   intro k hb
   subst hb
   refine q9<|G _ J<|q9<|Zf J<|ql<|Qf<|Qn<|qw<|G _ J<|O J<|qv ?_
   exact ⟨_,qm b,wkA [(6,6)] [] []⟩
  refine Q8 ?_
  refine ⟨_,qm b,fun hm=>?_⟩
  subst hm
  refine ⟨.inl J,_,J,_,_,.nor,J,qx,?_⟩
  refine q56<|Qf ?_
  obtain rfl:=qd l
  exact ⟨_,J,wkA [(0,0),(1,1),(2,2),(3,6)] [] []⟩
 intro h st hb hw
 subst hb
 refine Yb hw ?_ qe
 refine qc<|G _ J<|Ql 0 _ J<|Ql 1 _ J<|qs ?_
 obtain rfl:=qd c
 exact finD (.inr J) J (q53 (Yp (Zi J J) (Yp J J))) (.refl _)
theorem qmd (c : Kl) (r : Int) (a : q63 c = some r) : Pure Tryz.prog tab 36 [.agg [.int .u8 c.Turn,q8 c.At.X,q8 c.At.Y,q8 c.At.Z]] (q8 r):=by
 unfold q63 at a
 refine Qo Tryz.func36 J qh qh J<|qc<|Qs _ _ J<|qa J<|q9<|qf<|qc<|G _ J<|G _ J<|G _ J ?_
 obtain ⟨k,b,a⟩:=q7 a
 refine Qb 6 (fun A st=>∃ d f g h j,st = A [(11,Q0 k),(10,j),(9,h),(8,g),(7,f),(6,d)]) ?_ ?_
 ·refine Q9 J J b (fun b=>?_) (fun b=>?_)
  ·refine qb J<|qb J<|qb J<|qb J<|G _ J<|q9 ?_
   obtain rfl:=qd b
   exact ⟨_,_,_,_,_,J⟩
  refine G _ J<|G _ J ?_
  obtain ⟨l,m,b⟩:=q7 b
  refine Q4 (q32 c.At (-1000000) l m) J<|G _ J<|G _ J<|q9 ?_
  obtain rfl:=qd b
  exact ⟨_,_,_,_,_,J⟩
 rintro _ ⟨d,f,g,h,j,rfl⟩
 refine q9 ?_
 refine qo J a (fun _ a=>?_) (fun _ a=>?_)
 ·refine qc<|qa J<|qs ?_
  obtain rfl:=qd a
  exact Q5 _ J
 refine ql<|qc<|qa J<|qs ?_
 obtain rfl:=qd a
 exact Q5 _ J
theorem qw2 (a : Qp) (r : Int) (c : q9e a = some r) : Pure Tryz.prog tab 41 [.agg [.sl 7 (a.Lines.map Kb),.sl 5 (a.Marks.map Km),.int .u8 a.End.Frame.Turn,q8 a.End.Frame.At.X,q8 a.End.Frame.At.Y,q8 a.End.Frame.At.Z,q8 a.End.Drawn]] (q8 r):=by
 unfold q9e at c
 refine Qo Tryz.func41 J qh qh J<|qc<|Qs _ _ J<|qa J<|q9<|qf<|qc<|G _ J<|G _ J<|Qi J<|G _ J ?_
 obtain ⟨c1,l,c⟩:=q7 c
 refine Qb 6 (fun A st=>∃ w x y z j7,st = A [(17,Q0 c1),(16,j7),(15,z),(14,y),(13,x),(12,w)]) ?_ ?_
 ·refine Q9 J J l (fun l=>?_) (fun l=>?_)
  ·refine qb J<|qb J<|qb J<|qb J<|G _ J<|q9 ?_
   obtain rfl:=qd l
   exact ⟨_,_,_,_,_,J⟩
  refine G _ J<|G _ J<|Qi J<|G _ J<|G _ J<|q9 ?_
  obtain rfl:=qd l
  exact ⟨_,_,_,_,_,J⟩
 rintro _ ⟨w,x,y,z,j7,rfl⟩
 obtain ⟨av,h,c⟩:=q7 c
 refine Qb 7 (fun A st=>∃ ab ac ad ae af ag,st = A [(24,Q0 av),(23,ag),(22,af),(21,ae),(20,ad),(19,ac),(18,ab)]) ?_ ?_
 ·refine Q9 J J h (fun h=>?_) (fun h=>?_)
  ·refine qb J<|qb J<|qb J<|qb J<|qb J<|G _ J<|q9 ?_
   obtain rfl:=qd h
   exact ⟨_,_,_,_,_,_,J⟩
  refine G _ J<|G _ J<|G _ J ?_
  obtain ⟨aw,ax,h⟩:=q7 h
  refine Q4 (qmd a.End.Frame aw ax) J<|G _ J<|G _ J<|q9 ?_
  obtain rfl:=qd h
  exact ⟨_,_,_,_,_,_,J⟩
 rintro _ ⟨ab,ac,ad,ae,af,ag,rfl⟩
 refine q9 ?_
 refine qo J c (fun _ c=>?_) (fun _ c=>?_)
 ·refine qc<|qa J<|qs ?_
  obtain rfl:=qd c
  exact Q5 _ J
 refine ql<|qf<|qc<|qa J<|q9 ?_
 obtain ⟨ah,ay,c⟩:=q7 c
 refine Qk (fun u=>.inl u = ah) (fun u=>⟨[(1,.ref 0 7 0 0)],[(0,.dat 7 [[.sl 7 (a.Lines.map Kb),.sl 5 (a.Marks.map Km),.int .u8 a.End.Frame.Turn,q8 a.End.Frame.At.X,q8 a.End.Frame.At.Y,q8 a.End.Frame.At.Z,q8 a.End.Drawn]])],1⟩) qe ?_ ?_
 ·refine Qe (q64 a) (fun m=>⟨[(1,.ref 0 7 0 0),(3,q6 m)],[(0,.dat 7 [[.sl 7 (a.Lines.map Kb),.sl 5 (a.Marks.map Km),.int .u8 a.End.Frame.Turn,q8 a.End.Frame.At.X,q8 a.End.Frame.At.Y,q8 a.End.Frame.At.Z,q8 a.End.Drawn]])],1⟩) 0 ah ay (wkA [(0,0)] [] []) ?_
  intro m bp b
  unfold q64 at b
  refine qf<|qc<|O J<|G _ J<|G _ J<|Qi J<|G _ J<|q9 ?_
  refine qo J b (fun _ b=>?_) (fun _ b=>?_)
  ·refine ql<|qf<|Q3<|qf<|Qj [Qv 2,Qv 1,(some [],[2]),(some [],[1]),U,U,U,U,qu 0,U,U,U,U,U,qu 0,U] qh<|G _ J<|G _ J<|O J ?_
   obtain ⟨f,az,b⟩:=q7 b
   refine Qc az J<|G _ J<|G _ J<|G _ J<|G _ J<|O J ?_
   obtain ⟨g,ba,b⟩:=q7 b
   refine Qc ba J<|G _ J<|G _ J<|K4 J J<|K4 J J<|Ql 1 _ J<|Ql 2 _ J<|qt<|qa J<|q9<|qf<|qc<|G _ J<|G _ J<|G _ J<|G _ J<|G _ J<|q9 ?_
   obtain ⟨bb,n,b⟩:=q7 b
   refine Yw (fun q=>q = bb) (fun q=>⟨[(1,.ref 0 7 0 0),(3,q6 m),(4,.ref 1 3 0 0),(5,.ref 2 3 0 0),(6,q6 q)],[(0,.dat 7 [[.sl 7 (a.Lines.map Kb),.sl 5 (a.Marks.map Km),.int .u8 a.End.Frame.Turn,q8 a.End.Frame.At.X,q8 a.End.Frame.At.Y,q8 a.End.Frame.At.Z,q8 a.End.Drawn]]),(1,.dat 3 [[q8 f.From.X,q8 f.From.Y,q8 f.From.Z]]),(2,.dat 3 [[q8 g.To.X,q8 g.To.Y,q8 g.To.Z]])],3⟩) qe ?_ ?_
   ·refine qo J n (fun _ n=>?_) (fun _ n=>?_)
    ·refine qw<|O J<|G _ J<|qa J<|qv ?_
     obtain rfl:=qd n
     exact ⟨_,J,wkA [(0,0),(1,1),(2,2)] [] []⟩
    refine ql<|Qf ?_
    obtain rfl:=qd n
    exact ⟨_,J,wkA [(0,0),(1,1),(2,2)] [] []⟩
   intro q hb
   subst hb
   refine qf<|qc<|G _ J<|G _ J<|G _ J<|G _ J<|G _ J<|q9 ?_
   obtain ⟨bc,o,b⟩:=q7 b
   refine Yw (fun s=>s = bc) (fun s=>⟨[(1,.ref 0 7 0 0),(3,q6 m),(4,.ref 1 3 0 0),(5,.ref 2 3 0 0),(6,q6 s)],[(0,.dat 7 [[.sl 7 (a.Lines.map Kb),.sl 5 (a.Marks.map Km),.int .u8 a.End.Frame.Turn,q8 a.End.Frame.At.X,q8 a.End.Frame.At.Y,q8 a.End.Frame.At.Z,q8 a.End.Drawn]]),(1,.dat 3 [[q8 f.From.X,q8 f.From.Y,q8 f.From.Z]]),(2,.dat 3 [[q8 g.To.X,q8 g.To.Y,q8 g.To.Z]])],3⟩) qe ?_ ?_
   ·refine qo J o (fun _ o=>?_) (fun _ o=>?_)
    ·refine qw<|O J<|G _ J<|qa J<|qv ?_
     obtain rfl:=qd o
     exact ⟨_,J,wkA [(0,0),(1,1),(2,2)] [] []⟩
    refine ql<|Qf ?_
    obtain rfl:=qd o
    exact ⟨_,J,wkA [(0,0),(1,1),(2,2)] [] []⟩
   intro s hb
   subst hb
   refine qf<|qc<|G _ J<|G _ J<|G _ J<|G _ J<|G _ J<|q9 ?_
   obtain ⟨bd,p,b⟩:=q7 b
   refine Yw (fun t=>t = bd) (fun t=>⟨[(1,.ref 0 7 0 0),(3,q6 m),(4,.ref 1 3 0 0),(5,.ref 2 3 0 0),(6,q6 t)],[(0,.dat 7 [[.sl 7 (a.Lines.map Kb),.sl 5 (a.Marks.map Km),.int .u8 a.End.Frame.Turn,q8 a.End.Frame.At.X,q8 a.End.Frame.At.Y,q8 a.End.Frame.At.Z,q8 a.End.Drawn]]),(1,.dat 3 [[q8 f.From.X,q8 f.From.Y,q8 f.From.Z]]),(2,.dat 3 [[q8 g.To.X,q8 g.To.Y,q8 g.To.Z]])],3⟩) qe ?_ ?_
   ·refine qo J p (fun _ p=>?_) (fun _ p=>?_)
    ·refine qw<|O J<|G _ J<|qa J<|qv ?_
     obtain rfl:=qd p
     exact ⟨_,J,wkA [(0,0),(1,1),(2,2)] [] []⟩
    refine ql<|Qf ?_
    obtain rfl:=qd p
    exact ⟨_,J,wkA [(0,0),(1,1),(2,2)] [] []⟩
   intro t hb
   subst hb
   refine qc<|O J<|G _ J ?_
   obtain ⟨be,j,b⟩:=q7 b
   refine Qb 5 (fun A st=>∃ ai aj ak al,st = A [(71,Q0 be),(70,al),(69,ak),(68,aj),(67,ai)]) ?_ ?_
   ·refine Q9 J J j (fun j=>?_) (fun j=>?_)
    ·refine qb J<|qb J<|qb J<|G _ J<|q9 ?_
     obtain rfl:=qd j
     exact ⟨_,_,_,_,J⟩
    refine G _ J ?_
    obtain ⟨bf,bg,j⟩:=q7 j
    refine Q4 (q32 f.From (-1000000) bf bg) J<|G _ J<|G _ J<|q9 ?_
    obtain rfl:=qd j
    exact ⟨_,_,_,_,J⟩
   rintro _ ⟨ai,aj,ak,al,rfl⟩
   obtain ⟨bh,k,b⟩:=q7 b
   refine Qb 5 (fun A st=>∃ am an ao ap,st = A [(76,Q0 bh),(75,ap),(74,ao),(73,an),(72,am)]) ?_ ?_
   ·refine Q9 J J k (fun k=>?_) (fun k=>?_)
    ·refine qb J<|qb J<|qb J<|G _ J<|q9 ?_
     obtain rfl:=qd k
     exact ⟨_,_,_,_,J⟩
    refine G _ J ?_
    obtain ⟨bi,bj,k⟩:=q7 k
    refine Q4 (q32 g.To (-1000000) bi bj) J<|G _ J<|G _ J<|q9 ?_
    obtain rfl:=qd k
    exact ⟨_,_,_,_,J⟩
   rintro _ ⟨am,an,ao,ap,rfl⟩
   refine q9 ?_
   refine qo J b (fun _ b=>?_) (fun _ b=>?_)
   ·refine qc<|qa J<|qs ?_
    refine ⟨_,qm b,fun hm=>?_⟩
    subst hm
    obtain rfl:=qd c
    exact Q5 _ J
   refine ql<|Qf<|Qn<|qw<|O J<|G _ J<|qa J<|qv ?_
   exact ⟨_,qm b,wkA [(0,0)] [] []⟩
  refine Q8 ?_
  refine ⟨_,qm b,fun hm=>?_⟩
  subst hm
  exact ⟨_,J,wkA [(0,0)] [] []⟩
 intro u hb
 subst hb
 refine qf<|qc<|qa J<|q9 ?_
 obtain ⟨aq,bk,c⟩:=q7 c
 refine Qk (fun v=>.inl v = aq) (fun v=>⟨[],[],0⟩) qe ?_ ?_
 ·refine Qe (q65 a) (fun ar=>⟨[(1,.ref 0 7 0 0),(7,q6 ar)],[(0,.dat 7 [[.sl 7 (a.Lines.map Kb),.sl 5 (a.Marks.map Km),.int .u8 a.End.Frame.Turn,q8 a.End.Frame.At.X,q8 a.End.Frame.At.Y,q8 a.End.Frame.At.Z,q8 a.End.Drawn]])],1⟩) 0 aq bk (wkA [(0,0)] [] []) ?_
  intro ar bq d
  unfold q65 at d
  refine qf<|qc<|O J<|G _ J<|G _ J<|Qi J<|G _ J<|q9 ?_
  refine qo J d (fun _ d=>?_) (fun _ d=>?_)
  ·refine ql<|qf<|Q3<|qc<|G _ J<|G _ J<|O J ?_
   obtain ⟨bl,bm,d⟩:=q7 d
   refine Qc bm J<|G _ J<|G _ J ?_
   obtain ⟨bn,bo,d⟩:=q7 d
   refine Q4 (qmd bl.Frame bn bo) J<|G _ J<|q9 ?_
   refine qo J d (fun _ d=>?_) (fun _ d=>?_)
   ·refine qc<|qa J<|qs ?_
    refine ⟨_,qm d,fun hm=>?_⟩
    subst hm
    obtain rfl:=qd c
    exact Q5 _ J
   refine ql<|Qf<|Qn<|qw<|O J<|G _ J<|qa J<|qv ?_
   exact ⟨_,qm d,wkA [(0,0)] [] []⟩
  refine Q8 ?_
  refine ⟨_,qm d,fun hm=>?_⟩
  subst hm
  exact ⟨_,J,wkA [] [] []⟩
 intro v hb
 subst hb
 refine qc<|qa J<|qs ?_
 obtain rfl:=qd c
 exact Q5 _ J
theorem qwc (b : qg) (r : Bool) (a : q9h b = some r) : Pure Tryz.prog tab 56 [.agg [q8 b.Lo.X,q8 b.Lo.Y,q8 b.Lo.Z,q8 b.Hi.X,q8 b.Hi.Y,q8 b.Hi.Z]] (.bool r):=by
 unfold q9h at a
 refine Qo Tryz.func56 J qh qh J<|qc<|Qs _ _ J<|qa J<|qt<|G _ J<|G _ J ?_
 obtain ⟨r1,h2,a⟩:=q7 a
 refine Q4 (q32 b.Lo (-1000000) r1 h2) J ?_
 obtain ⟨c5,c,a⟩:=q7 a
 refine Qb 5 (fun A st=>∃ h j k l,st = A [(11,Q0 c5),(10,l),(9,k),(8,j),(7,h)]) ?_ ?_
 ·refine Q9 J J c (fun c=>?_) (fun c=>?_)
  ·refine G _ J<|G _ J ?_
   obtain ⟨ao,ap,c⟩:=q7 c
   refine Q4 (q32 b.Hi (-1000000) ao ap) J<|G _ J<|q9 ?_
   obtain rfl:=qd c
   exact ⟨_,_,_,_,J⟩
  refine qb J<|qb J<|qb J<|G _ J<|q9 ?_
  obtain rfl:=qd c
  exact ⟨_,_,_,_,J⟩
 rintro _ ⟨h,j,k,l,rfl⟩
 refine qa J<|qt<|O J ?_
 obtain ⟨aq,d,a⟩:=q7 a
 refine Qb 9 (fun A st=>∃ m n o p q s t u,st = A [(21,Q0 aq),(20,u),(19,t),(18,s),(17,q),(16,p),(15,o),(14,n),(13,m)]) ?_ ?_
 ·refine Q9 J J d (fun d=>?_) (fun d=>?_)
  ·refine G _ J<|G _ J<|G _ J<|G _ J<|G _ J<|G _ J<|G _ J<|G _ J<|q9 ?_
   obtain rfl:=qd d
   exact ⟨_,_,_,_,_,_,_,_,J⟩
  refine qb J<|qb J<|qb J<|qb J<|qb J<|qb J<|qb J<|G _ J<|q9 ?_
  obtain rfl:=qd d
  exact ⟨_,_,_,_,_,_,_,_,J⟩
 rintro _ ⟨m,n,o,p,q,s,t,u,rfl⟩
 obtain ⟨ar,f,a⟩:=q7 a
 refine Qb 9 (fun A st=>∃ v w x y z aa ab ac,st = A [(30,Q0 ar),(29,ac),(28,ab),(27,aa),(26,z),(25,y),(24,x),(23,w),(22,v)]) ?_ ?_
 ·refine Q9 J J f (fun f=>?_) (fun f=>?_)
  ·refine G _ J<|G _ J<|G _ J<|G _ J<|G _ J<|G _ J<|G _ J<|G _ J<|q9 ?_
   obtain rfl:=qd f
   exact ⟨_,_,_,_,_,_,_,_,J⟩
  refine qb J<|qb J<|qb J<|qb J<|qb J<|qb J<|qb J<|G _ J<|q9 ?_
  obtain rfl:=qd f
  exact ⟨_,_,_,_,_,_,_,_,J⟩
 rintro _ ⟨v,w,x,y,z,aa,ab,ac,rfl⟩
 obtain ⟨au,g,a⟩:=q7 a
 refine Qb 9 (fun A st=>∃ ad ae af ag ah ai aj ak,st = A [(39,Q0 au),(38,ak),(37,aj),(36,ai),(35,ah),(34,ag),(33,af),(32,ae),(31,ad)]) ?_ ?_
 ·refine Q9 J J g (fun g=>?_) (fun g=>?_)
  ·refine G _ J<|G _ J<|G _ J<|G _ J<|G _ J<|G _ J<|G _ J<|G _ J<|q9 ?_
   obtain rfl:=qd g
   exact ⟨_,_,_,_,_,_,_,_,J⟩
  refine qb J<|qb J<|qb J<|qb J<|qb J<|qb J<|qb J<|G _ J<|q9 ?_
  obtain rfl:=qd g
  exact ⟨_,_,_,_,_,_,_,_,J⟩
 rintro _ ⟨ad,ae,af,ag,ah,ai,aj,ak,rfl⟩
 refine qa J<|qs ?_
 obtain rfl:=qd a
 exact Q5 _ J
theorem qgg (g : List Int) (r : List Int) (n : U2 g = some r) : Pure Tryz.prog tab 101 [.sl 1 (g.map (eI .i64))] (.sl 1 (r.map (eI .i64))):=by
 unfold U2 at n
 refine Qo Tryz.func101 J qh qh J<|qc<|qa J<|qt<|qa J<|q9<|qf<|qc<|qa J<|q9 ?_
 obtain ⟨s,bb,n⟩:=q7 n
 refine Qk (fun l=>l = s) (fun l=>⟨[(3,.hs 0 1 0 l.length)],[(0,.dat 1 (l.map (eI .i64)))],1⟩) qe ?_ ?_
 ·refine Qe (q44 g) (fun b=>⟨[(0,.d (.sl 1 (g.map (eI .i64)))),(3,.hs 0 1 0 b.2.length),(4,q6 b.1)],[(0,.dat 1 (b.2.map (eI .i64)))],1⟩) (0,[]) s bb (wkA [] [] [0]) ?_
  intro b bk h
  unfold q44 at h
  refine qf<|qc<|O J<|O J<|Qi J<|G _ J<|q9 ?_
  refine qo J h (fun _ h=>?_) (fun _ h=>?_)
  ·refine ql<|qf ?_
   obtain ⟨bc,a,h⟩:=q7 h
   refine Qk (fun m=>m = bc) (fun m=>⟨[(0,.d (.sl 1 (g.map (eI .i64)))),(3,.hs 0 1 0 m.length),(4,q6 b.1)],[(0,.dat 1 (m.map (eI .i64)))],1⟩) qe ?_ ?_
   ·refine qc<|O J<|G _ J<|qa J<|q9<|qf ?_
    obtain ⟨t,bd,a⟩:=q7 a
    refine Qk (fun o=>o = t) (fun o=>⟨[(0,.d (.sl 1 (g.map (eI .i64)))),(3,.hs 0 1 0 b.2.length),(4,q6 b.1),(5,q6 o)],[(0,.dat 1 (b.2.map (eI .i64)))],1⟩) qe ?_ ?_
    ·refine Qe (q45 b g) (fun u=>⟨[(0,.d (.sl 1 (g.map (eI .i64)))),(3,.hs 0 1 0 b.2.length),(4,q6 b.1),(5,q6 u)],[(0,.dat 1 (b.2.map (eI .i64)))],1⟩) (b.2.length : Int) t bd (wkA [(0,0)] [] []) ?_
     intro u bl j
     unfold q45 at j
     refine qf<|qf<|Qj [U,U,U,U,U,U,qu 0,U,U,U,U,U,U,U] qh<|O J<|G _ J ?_
     obtain ⟨be,c,j⟩:=q7 j
     refine Qb 12 (fun A st=>∃ v x y z aa ab ac ad ae af ag,st = A [(27,Q0 be),(26,ag),(25,af),(24,ae),(23,ad),(22,ac),(21,ab),(20,aa),(19,z),(18,y),(17,x),(16,v)]) ?_ ?_
     ·refine Q9 J J c (fun c=>?_) (fun c=>?_)
      ·refine O J<|O J<|G _ J ?_
       obtain ⟨bm,ah,c⟩:=q7 c
       refine qz ah J J<|Qd _ ah J<|O J<|O J ?_
       obtain ⟨bn,bf,c⟩:=q7 c
       refine Qc bf J<|G _ J<|G _ J<|G _ J<|q9 ?_
       obtain rfl:=qd c
       exact ⟨_,_,_,_,_,_,_,_,_,_,_,J⟩
      refine qb J<|qb J<|qb J<|qb J<|qb J<|qb J<|qb J<|qb J<|qb J<|qb J<|G _ J<|q9 ?_
      obtain rfl:=qd c
      exact ⟨_,_,_,_,_,_,_,_,_,_,_,J⟩
     rintro _ ⟨v,x,y,z,aa,ab,ac,ad,ae,af,ag,rfl⟩
     refine q9 ?_
     refine qo J j (fun _ j=>?_) (fun _ j=>?_)
     ·refine ql<|Q3<|qw<|O J<|G _ J<|qa J<|qv<|Qn<|Qf ?_
      exact ⟨_,qm j,wkA [(0,0)] [] []⟩
     refine Q8 ?_
     refine ⟨_,qm j,fun hm=>?_⟩
     subst hm
     exact ⟨_,J,wkA [(0,0)] [] []⟩
    intro o hb
    subst hb
    refine qf<|qf<|Qj [U,U,U,U,U,U,qu 0,U,U,U,U,U,U,U] qh<|O J<|G _ J ?_
    obtain ⟨bg,f,a⟩:=q7 a
    refine Qb 12 (fun A st=>∃ ai aj ak al am an ao ap aq ar au,st = A [(43,Q0 bg),(42,au),(41,ar),(40,aq),(39,ap),(38,ao),(37,an),(36,am),(35,al),(34,ak),(33,aj),(32,ai)]) ?_ ?_
    ·refine Q9 J J f (fun f=>?_) (fun f=>?_)
     ·refine O J<|O J<|G _ J ?_
      obtain ⟨bo,av,f⟩:=q7 f
      refine qz av J J<|Qd _ av J<|O J<|O J ?_
      obtain ⟨bp,bh,f⟩:=q7 f
      refine Qc bh J<|G _ J<|G _ J<|G _ J<|q9 ?_
      obtain rfl:=qd f
      exact ⟨_,_,_,_,_,_,_,_,_,_,_,J⟩
     refine qb J<|qb J<|qb J<|qb J<|qb J<|qb J<|qb J<|qb J<|qb J<|qb J<|G _ J<|q9 ?_
     obtain rfl:=qd f
     exact ⟨_,_,_,_,_,_,_,_,_,_,_,J⟩
    rintro _ ⟨ai,aj,ak,al,am,an,ao,ap,aq,ar,au,rfl⟩
    refine q9 ?_
    refine qo J a (fun _ a=>?_) (fun _ a=>?_)
    ·refine Q8 ?_
     obtain rfl:=qd a
     exact ⟨_,J,wkA [(0,0)] [] []⟩
    refine ql<|qc<|O J<|Qs _ _ J ?_
    obtain ⟨p,bi,a⟩:=q7 a
    refine Ku _ bi J J J J J J J (Ks J J) J J J J<|qa J<|q9<|qf<|Qj [Qv 2,U,U,U,U,U,U,U] qh<|O J<|O J<|G _ J ?_
    obtain ⟨aw,q,a⟩:=q7 a
    refine q96 q J J J J J (q3m J) (fun _=>rfl)<|O J<|O J ?_
    obtain ⟨k,ax,a⟩:=q7 a
    refine q96 ax J J J J J (q3m J) (fun _=>rfl)<|qtx (w:=aw) (xs:=p) (ys:=(p.drop k.1).take k.2) (enc:=(eI .i64)) (.hs 2 1 k.1 k.2) (qb0 q) J J J J J J (qr0 (qb0 ax) J) J J J J ?_
    have ay:=@qj7 _ p ((p.drop k.1).take k.2) aw (qb0 q)
    refine q9<|qw<|O J<|O J<|O J<|O J ?_
    obtain ⟨az,bj,a⟩:=q7 a
    refine Qc bj J<|G _ J ?_
    obtain ⟨bq,ba,a⟩:=q7 a
    refine qz ba (by simp [ay]) J<|K5 (ds:=[q8 az]) az ba J J J J J J J J (leb J) J<|qv ?_
    obtain rfl:=qd a
    exact ⟨_,J,wkE [(0,2)] [] [] J ⟨qr J,⟨_,J,K6 (by simp [ay]) J qx (ltd J)⟩,qr J,trivial⟩ ⟨Qt J J,trivial⟩⟩
   intro m hb
   subst hb
   refine qw<|O J<|G _ J<|qa J<|qv ?_
   exact ⟨_,qm h,wkA [(0,0)] [] []⟩
  refine Q8 ?_
  refine ⟨_,qm h,fun hm=>?_⟩
  subst hm
  exact ⟨_,J,wkA [(0,0)] [] []⟩
 intro l hb
 subst hb
 refine qc<|O J<|qa J<|qs ?_
 obtain rfl:=qd n
 exact finD (.inr J) J (Zi J J) (.refl _)
theorem qw7 (j : List qg) (g : List qg) (r : List Int) (c : q9g j g = some r) : Pure Tryz.prog tab 78 [.sl 6 (j.map Qg),.sl 6 (g.map Qg)] (.sl 1 (r.map (eI .i64))):=by
 unfold q9g at c
 refine Qo Tryz.func78 J qh qh J<|qc<|qa J<|qt<|qa J<|q9<|qf<|qc<|qa J<|q9 ?_
 obtain ⟨m,o,c⟩:=q7 c
 refine Qk (fun h=>h = m) (fun h=>⟨[(1,.d (.sl 6 (g.map Qg))),(5,.hs 0 1 0 h.length)],[(0,.dat 1 (h.map (eI .i64)))],1⟩) qe ?_ ?_
 ·refine Qe (q4c j) (fun k=>⟨[(0,.d (.sl 6 (j.map Qg))),(1,.d (.sl 6 (g.map Qg))),(5,.hs 0 1 0 k.2.length),(6,q6 k.1)],[(0,.dat 1 (k.2.map (eI .i64)))],1⟩) (0,[]) m o (wkA [] [] [0]) ?_
  intro k z a
  unfold q4c at a
  refine qf<|qc<|O J<|O J<|Qi J<|G _ J<|q9 ?_
  refine qo J a (fun _ a=>?_) (fun _ a=>?_)
  ·refine ql<|qf<|Q3<|Qj [U,(some [0,1],[0,2]),(some [],[1]),U,U,U,U,U,U,U,U,U,U,U,U,U] qh<|O J<|O J<|O J ?_
   obtain ⟨aa,p,a⟩:=q7 a
   refine Qc p J<|G _ J<|G _ J<|G _ J<|O J<|O J ?_
   obtain ⟨ab,q,a⟩:=q7 a
   refine Qc q J<|G _ J<|G _ J<|G _ J<|Qs _ _ J ?_
   obtain ⟨ac,s,a⟩:=q7 a
   refine Ku _ s J J J J J J J (Ks J J) J J J J<|qa J<|qv<|Qn<|qw<|O J<|G _ J<|qa J<|qv ?_
   exact ⟨_,qm a,wkA [(0,2)] [] []⟩
  refine Q8 ?_
  refine ⟨_,qm a,fun hm=>?_⟩
  subst hm
  exact ⟨_,J,wkA [(0,0)] [] []⟩
 intro h hb
 subst hb
 refine qf<|qc<|qa J<|q9 ?_
 obtain ⟨n,t,c⟩:=q7 c
 refine Qk (fun f=>f = n) (fun f=>⟨[(5,.hs 0 1 0 f.length)],[(0,.dat 1 (f.map (eI .i64)))],1⟩) qe ?_ ?_
 ·refine Qe (q4d g) (fun l=>⟨[(1,.d (.sl 6 (g.map Qg))),(5,.hs 0 1 0 l.2.length),(7,q6 l.1)],[(0,.dat 1 (l.2.map (eI .i64)))],1⟩) (0,h) n t (wkA [(0,0)] [] []) ?_
  intro l ad b
  unfold q4d at b
  refine qf<|qc<|O J<|O J<|Qi J<|G _ J<|q9 ?_
  refine qo J b (fun _ b=>?_) (fun _ b=>?_)
  ·refine ql<|qf<|Q3<|Qj [U,(some [0,1],[0,2]),(some [],[1]),U,U,U,U,U,U,U,U,U,U,U,U,U] qh<|O J<|O J<|O J ?_
   obtain ⟨ae,u,b⟩:=q7 b
   refine Qc u J<|G _ J<|G _ J<|G _ J<|O J<|O J ?_
   obtain ⟨af,v,b⟩:=q7 b
   refine Qc v J<|G _ J<|G _ J<|G _ J<|Qs _ _ J ?_
   obtain ⟨ag,w,b⟩:=q7 b
   refine Ku _ w J J J J J J J (Ks J J) J J J J<|qa J<|qv<|Qn<|qw<|O J<|G _ J<|qa J<|qv ?_
   exact ⟨_,qm b,wkA [(0,2)] [] []⟩
  refine Q8 ?_
  refine ⟨_,qm b,fun hm=>?_⟩
  subst hm
  exact ⟨_,J,wkA [(0,0)] [] []⟩
 intro f hb
 subst hb
 refine qf ?_
 refine Yb (st':=⟨[(5,.d (.sl 1 (f.map (eI .i64))))],[],0⟩) (wkA [] [0] []) ?_ qe
 refine qw<|O J ?_
 obtain ⟨x,y,c⟩:=q7 c
 refine Q4 (qgg f x y) J<|qa J<|qs ?_
 obtain rfl:=qd c
 exact Q5 _ J
theorem qcs (f : List qg) (g : Int) (r : List qi) (l : U3 f g = some r) : Pure Tryz.prog tab 80 [.sl 6 (f.map Qg),q8 g] (.sl 4 (r.map Q2)):=by
 unfold U3 at l
 refine Qo Tryz.func80 J qh qh J<|qc<|qa J<|qt<|qa J<|q9<|qf<|qc<|qa J<|q9 ?_
 obtain ⟨m,x,l⟩:=q7 l
 refine Qk (fun h=>h = m) (fun h=>⟨[(5,.hs 0 4 0 h.length)],[(0,.dat 4 (h.map Q2))],1⟩) qe ?_ ?_
 ·refine Qe (q66 f g) (fun j=>⟨[(0,.d (.sl 6 (f.map Qg))),(1,q6 g),(5,.hs 0 4 0 j.2.length),(6,q6 j.1)],[(0,.dat 4 (j.2.map Q2))],1⟩) (0,[]) m x (wkA [] [] [0]) ?_
  intro j ah b
  unfold q66 at b
  refine qf<|qc<|O J<|O J<|Qi J<|G _ J<|q9 ?_
  refine qo J b (fun _ b=>?_) (fun _ b=>?_)
  ·refine ql<|qf ?_
   obtain ⟨y,a,b⟩:=q7 b
   refine Qk (fun k=>k = y) (fun k=>⟨[(0,.d (.sl 6 (f.map Qg))),(1,q6 g),(5,.hs 0 4 0 k.length),(6,q6 j.1)],[(0,.dat 4 (k.map Q2))],1⟩) qe ?_ ?_
   ·refine qc<|O J<|O J ?_
    obtain ⟨ai,z,a⟩:=q7 a
    refine Qc z J<|G _ J<|G _ J<|G _ J<|O J<|G _ J ?_
    obtain ⟨aa,c,a⟩:=q7 a
    refine Qb 10 (fun A st=>∃ n o p q s t u v w,st = A [(30,Q0 aa),(29,w),(28,v),(27,u),(26,t),(25,s),(24,q),(23,p),(22,o),(21,n)]) ?_ ?_
    ·refine Q9 J J c (fun c=>?_) (fun c=>?_)
     ·refine O J<|O J<|O J ?_
      obtain ⟨aj,ab,c⟩:=q7 c
      refine Qc ab J<|G _ J<|G _ J<|G _ J<|G _ J<|G _ J<|q9 ?_
      obtain rfl:=qd c
      exact ⟨_,_,_,_,_,_,_,_,_,J⟩
     refine qb J<|qb J<|qb J<|qb J<|qb J<|qb J<|qb J<|qb J<|G _ J<|q9 ?_
     obtain rfl:=qd c
     exact ⟨_,_,_,_,_,_,_,_,_,J⟩
    rintro _ ⟨n,o,p,q,s,t,u,v,w,rfl⟩
    refine q9 ?_
    refine qo J a (fun _ a=>?_) (fun _ a=>?_)
    ·refine Qj [U,(some [0,1],[0,2]),(some [],[1]),U,U,U,U,U,U,U,U,U,U,U,U,U,U,U,U,U,U,U,U,U,U,U,U,U,U] qh<|O J<|O J<|O J ?_
     obtain ⟨ak,ac,a⟩:=q7 a
     refine Qc ac J<|G _ J<|G _ J<|G _ J<|O J<|O J ?_
     obtain ⟨al,ad,a⟩:=q7 a
     refine Qc ad J<|G _ J<|G _ J<|G _ J<|O J<|O J ?_
     obtain ⟨am,ae,a⟩:=q7 a
     refine Qc ae J<|G _ J<|G _ J<|G _ J<|O J<|O J ?_
     obtain ⟨an,af,a⟩:=q7 a
     refine Qc af J<|G _ J<|G _ J<|G _ J<|G _ J<|Qs _ _ J ?_
     obtain ⟨ao,ag,a⟩:=q7 a
     refine Ku _ ag J J J J J J J (Ks J J) J J J J<|qa J<|qv ?_
     obtain rfl:=qd a
     exact ⟨_,J,wkA [(0,2)] [] []⟩
    refine ql<|Qf ?_
    obtain rfl:=qd a
    exact ⟨_,J,wkA [(0,0)] [] []⟩
   intro k hb
   subst hb
   refine qw<|O J<|G _ J<|qa J<|qv ?_
   exact ⟨_,qm b,wkA [(0,0)] [] []⟩
  refine Q8 ?_
  refine ⟨_,qm b,fun hm=>?_⟩
  subst hm
  exact ⟨_,J,wkA [(0,0)] [] []⟩
 intro h hb
 subst hb
 refine qc<|O J<|qa J<|qs ?_
 obtain rfl:=qd l
 exact finD (.inr J) J (Zi J J) (.refl _)
theorem qvy (j : List qi) (g : List qi) (r : List Int) (c : q9c j g = some r) : Pure Tryz.prog tab 102 [.sl 4 (j.map Q2),.sl 4 (g.map Q2)] (.sl 1 (r.map (eI .i64))):=by
 unfold q9c at c
 refine Qo Tryz.func102 J qh qh J<|qc<|qa J<|qt<|qa J<|q9<|qf<|qc<|qa J<|q9 ?_
 obtain ⟨m,o,c⟩:=q7 c
 refine Qk (fun h=>h = m) (fun h=>⟨[(1,.d (.sl 4 (g.map Q2))),(5,.hs 0 1 0 h.length)],[(0,.dat 1 (h.map (eI .i64)))],1⟩) qe ?_ ?_
 ·refine Qe (q48 j) (fun k=>⟨[(0,.d (.sl 4 (j.map Q2))),(1,.d (.sl 4 (g.map Q2))),(5,.hs 0 1 0 k.2.length),(6,q6 k.1)],[(0,.dat 1 (k.2.map (eI .i64)))],1⟩) (0,[]) m o (wkA [] [] [0]) ?_
  intro k z a
  unfold q48 at a
  refine qf<|qc<|O J<|O J<|Qi J<|G _ J<|q9 ?_
  refine qo J a (fun _ a=>?_) (fun _ a=>?_)
  ·refine ql<|qf<|Q3<|Qj [U,(some [0,1],[0,2]),(some [],[1]),U,U,U,U,U,U,U,U,U,U,U] qh<|O J<|O J<|O J ?_
   obtain ⟨aa,p,a⟩:=q7 a
   refine Qc p J<|G _ J<|G _ J<|O J<|O J ?_
   obtain ⟨ab,q,a⟩:=q7 a
   refine Qc q J<|G _ J<|G _ J<|Qs _ _ J ?_
   obtain ⟨ac,s,a⟩:=q7 a
   refine Ku _ s J J J J J J J (Ks J J) J J J J<|qa J<|qv<|Qn<|qw<|O J<|G _ J<|qa J<|qv ?_
   exact ⟨_,qm a,wkA [(0,2)] [] []⟩
  refine Q8 ?_
  refine ⟨_,qm a,fun hm=>?_⟩
  subst hm
  exact ⟨_,J,wkA [(0,0)] [] []⟩
 intro h hb
 subst hb
 refine qf<|qc<|qa J<|q9 ?_
 obtain ⟨n,t,c⟩:=q7 c
 refine Qk (fun f=>f = n) (fun f=>⟨[(5,.hs 0 1 0 f.length)],[(0,.dat 1 (f.map (eI .i64)))],1⟩) qe ?_ ?_
 ·refine Qe (q49 g) (fun l=>⟨[(1,.d (.sl 4 (g.map Q2))),(5,.hs 0 1 0 l.2.length),(7,q6 l.1)],[(0,.dat 1 (l.2.map (eI .i64)))],1⟩) (0,h) n t (wkA [(0,0)] [] []) ?_
  intro l ad b
  unfold q49 at b
  refine qf<|qc<|O J<|O J<|Qi J<|G _ J<|q9 ?_
  refine qo J b (fun _ b=>?_) (fun _ b=>?_)
  ·refine ql<|qf<|Q3<|Qj [U,(some [0,1],[0,2]),(some [],[1]),U,U,U,U,U,U,U,U,U,U,U] qh<|O J<|O J<|O J ?_
   obtain ⟨ae,u,b⟩:=q7 b
   refine Qc u J<|G _ J<|G _ J<|O J<|O J ?_
   obtain ⟨af,v,b⟩:=q7 b
   refine Qc v J<|G _ J<|G _ J<|Qs _ _ J ?_
   obtain ⟨ag,w,b⟩:=q7 b
   refine Ku _ w J J J J J J J (Ks J J) J J J J<|qa J<|qv<|Qn<|qw<|O J<|G _ J<|qa J<|qv ?_
   exact ⟨_,qm b,wkA [(0,2)] [] []⟩
  refine Q8 ?_
  refine ⟨_,qm b,fun hm=>?_⟩
  subst hm
  exact ⟨_,J,wkA [(0,0)] [] []⟩
 intro f hb
 subst hb
 refine qf ?_
 refine Yb (st':=⟨[(5,.d (.sl 1 (f.map (eI .i64))))],[],0⟩) (wkA [] [0] []) ?_ qe
 refine qw<|O J ?_
 obtain ⟨x,y,c⟩:=q7 c
 refine Q4 (qgg f x y) J<|qa J<|qs ?_
 obtain rfl:=qd c
 exact Q5 _ J
theorem qw0 (j : List qi) (g : List qi) (r : List Int) (c : q9d j g = some r) : Pure Tryz.prog tab 103 [.sl 4 (j.map Q2),.sl 4 (g.map Q2)] (.sl 1 (r.map (eI .i64))):=by
 unfold q9d at c
 refine Qo Tryz.func103 J qh qh J<|qc<|qa J<|qt<|qa J<|q9<|qf<|qc<|qa J<|q9 ?_
 obtain ⟨m,o,c⟩:=q7 c
 refine Qk (fun h=>h = m) (fun h=>⟨[(1,.d (.sl 4 (g.map Q2))),(5,.hs 0 1 0 h.length)],[(0,.dat 1 (h.map (eI .i64)))],1⟩) qe ?_ ?_
 ·refine Qe (q4a j) (fun k=>⟨[(0,.d (.sl 4 (j.map Q2))),(1,.d (.sl 4 (g.map Q2))),(5,.hs 0 1 0 k.2.length),(6,q6 k.1)],[(0,.dat 1 (k.2.map (eI .i64)))],1⟩) (0,[]) m o (wkA [] [] [0]) ?_
  intro k z a
  unfold q4a at a
  refine qf<|qc<|O J<|O J<|Qi J<|G _ J<|q9 ?_
  refine qo J a (fun _ a=>?_) (fun _ a=>?_)
  ·refine ql<|qf<|Q3<|Qj [U,(some [0,1],[0,2]),(some [],[1]),U,U,U,U,U,U,U,U,U,U,U] qh<|O J<|O J<|O J ?_
   obtain ⟨aa,p,a⟩:=q7 a
   refine Qc p J<|G _ J<|G _ J<|O J<|O J ?_
   obtain ⟨ab,q,a⟩:=q7 a
   refine Qc q J<|G _ J<|G _ J<|Qs _ _ J ?_
   obtain ⟨ac,s,a⟩:=q7 a
   refine Ku _ s J J J J J J J (Ks J J) J J J J<|qa J<|qv<|Qn<|qw<|O J<|G _ J<|qa J<|qv ?_
   exact ⟨_,qm a,wkA [(0,2)] [] []⟩
  refine Q8 ?_
  refine ⟨_,qm a,fun hm=>?_⟩
  subst hm
  exact ⟨_,J,wkA [(0,0)] [] []⟩
 intro h hb
 subst hb
 refine qf<|qc<|qa J<|q9 ?_
 obtain ⟨n,t,c⟩:=q7 c
 refine Qk (fun f=>f = n) (fun f=>⟨[(5,.hs 0 1 0 f.length)],[(0,.dat 1 (f.map (eI .i64)))],1⟩) qe ?_ ?_
 ·refine Qe (q4b g) (fun l=>⟨[(1,.d (.sl 4 (g.map Q2))),(5,.hs 0 1 0 l.2.length),(7,q6 l.1)],[(0,.dat 1 (l.2.map (eI .i64)))],1⟩) (0,h) n t (wkA [(0,0)] [] []) ?_
  intro l ad b
  unfold q4b at b
  refine qf<|qc<|O J<|O J<|Qi J<|G _ J<|q9 ?_
  refine qo J b (fun _ b=>?_) (fun _ b=>?_)
  ·refine ql<|qf<|Q3<|Qj [U,(some [0,1],[0,2]),(some [],[1]),U,U,U,U,U,U,U,U,U,U,U] qh<|O J<|O J<|O J ?_
   obtain ⟨ae,u,b⟩:=q7 b
   refine Qc u J<|G _ J<|G _ J<|O J<|O J ?_
   obtain ⟨af,v,b⟩:=q7 b
   refine Qc v J<|G _ J<|G _ J<|Qs _ _ J ?_
   obtain ⟨ag,w,b⟩:=q7 b
   refine Ku _ w J J J J J J J (Ks J J) J J J J<|qa J<|qv<|Qn<|qw<|O J<|G _ J<|qa J<|qv ?_
   exact ⟨_,qm b,wkA [(0,2)] [] []⟩
  refine Q8 ?_
  refine ⟨_,qm b,fun hm=>?_⟩
  subst hm
  exact ⟨_,J,wkA [(0,0)] [] []⟩
 intro f hb
 subst hb
 refine qf ?_
 refine Yb (st':=⟨[(5,.d (.sl 1 (f.map (eI .i64))))],[],0⟩) (wkA [] [0] []) ?_ qe
 refine qw<|O J ?_
 obtain ⟨x,y,c⟩:=q7 c
 refine Q4 (qgg f x y) J<|qa J<|qs ?_
 obtain rfl:=qd c
 exact Q5 _ J
theorem qmb (h : List qi) (j : Int) (k : Int) (r : Bool) (g : q5z h j k = some r) : Pure Tryz.prog tab 105 [.sl 4 (h.map Q2),q8 j,q8 k] (.bool r):=by
 unfold q5z at g
 refine Qo Tryz.func105 J qh qh J<|qc<|qa J<|q9<|qf<|qc<|qa J<|q9 ?_
 obtain ⟨m,an,g⟩:=q7 g
 refine Qk (fun l=>.inl l = m) (fun l=>⟨[],[],0⟩) qe ?_ ?_
 ·refine Qe (q30 h j k) (fun n=>⟨[(0,.d (.sl 4 (h.map Q2))),(1,q6 j),(2,q6 k),(7,q6 n)],[],0⟩) 0 m an (wkA [] [] []) ?_
  intro n ax a
  unfold q30 at a
  refine qf<|qc<|O J<|O J<|Qi J<|G _ J<|q9 ?_
  refine qo J a (fun _ a=>?_) (fun _ a=>?_)
  ·refine ql<|qf<|Q3<|qc<|O J<|O J ?_
   obtain ⟨ay,ao,a⟩:=q7 a
   refine Qc ao J<|G _ J<|G _ J<|O J<|G _ J ?_
   obtain ⟨ap,b,a⟩:=q7 a
   refine Qb 9 (fun A st=>∃ o p q s t u v w,st = A [(29,Q0 ap),(28,w),(27,v),(26,u),(25,t),(24,s),(23,q),(22,p),(21,o)]) ?_ ?_
   ·refine Q9 J J b (fun b=>?_) (fun b=>?_)
    ·refine O J<|O J<|O J ?_
     obtain ⟨az,aq,b⟩:=q7 b
     refine Qc aq J<|G _ J<|G _ J<|G _ J<|G _ J<|q9 ?_
     obtain rfl:=qd b
     exact ⟨_,_,_,_,_,_,_,_,J⟩
    refine qb J<|qb J<|qb J<|qb J<|qb J<|qb J<|qb J<|G _ J<|q9 ?_
    obtain rfl:=qd b
    exact ⟨_,_,_,_,_,_,_,_,J⟩
   rintro _ ⟨o,p,q,s,t,u,v,w,rfl⟩
   obtain ⟨ar,c,a⟩:=q7 a
   refine Qb 9 (fun A st=>∃ x y z aa ab ac ad ae,st = A [(38,Q0 ar),(37,ae),(36,ad),(35,ac),(34,ab),(33,aa),(32,z),(31,y),(30,x)]) ?_ ?_
   ·refine Q9 J J c (fun c=>?_) (fun c=>?_)
    ·refine O J<|O J ?_
     obtain ⟨ba,au,c⟩:=q7 c
     refine Qc au J<|G _ J<|G _ J<|O J<|G _ J<|G _ J<|q9 ?_
     obtain rfl:=qd c
     exact ⟨_,_,_,_,_,_,_,_,J⟩
    refine qb J<|qb J<|qb J<|qb J<|qb J<|qb J<|qb J<|G _ J<|q9 ?_
    obtain rfl:=qd c
    exact ⟨_,_,_,_,_,_,_,_,J⟩
   rintro _ ⟨x,y,z,aa,ab,ac,ad,ae,rfl⟩
   obtain ⟨av,f,a⟩:=q7 a
   refine Qb 9 (fun A st=>∃ af ag ah ai aj ak al am,st = A [(47,Q0 av),(46,am),(45,al),(44,ak),(43,aj),(42,ai),(41,ah),(40,ag),(39,af)]) ?_ ?_
   ·refine Q9 J J f (fun f=>?_) (fun f=>?_)
    ·refine O J<|O J<|O J ?_
     obtain ⟨bb,aw,f⟩:=q7 f
     refine Qc aw J<|G _ J<|G _ J<|G _ J<|G _ J<|q9 ?_
     obtain rfl:=qd f
     exact ⟨_,_,_,_,_,_,_,_,J⟩
    refine qb J<|qb J<|qb J<|qb J<|qb J<|qb J<|qb J<|G _ J<|q9 ?_
    obtain rfl:=qd f
    exact ⟨_,_,_,_,_,_,_,_,J⟩
   rintro _ ⟨af,ag,ah,ai,aj,ak,al,am,rfl⟩
   refine q9 ?_
   refine qo J a (fun _ a=>?_) (fun _ a=>?_)
   ·refine qc<|qa J<|qs ?_
    refine ⟨_,qm a,fun hm=>?_⟩
    subst hm
    obtain rfl:=qd g
    exact Q5 _ J
   refine ql<|Qf<|Qn<|qw<|O J<|G _ J<|qa J<|qv ?_
   exact ⟨_,qm a,wkA [] [] []⟩
  refine Q8 ?_
  refine ⟨_,qm a,fun hm=>?_⟩
  subst hm
  exact ⟨_,J,wkA [] [] []⟩
 intro l hb
 subst hb
 refine qc<|qa J<|qs ?_
 obtain rfl:=qd g
 exact Q5 _ J
theorem qvs (f : Int) (g : Bool) (h : Bool) (r : Bool) (a : q5x f g h = some r) : Pure Tryz.prog tab 104 [q8 f,.bool g,.bool h] (.bool r):=by
 unfold q5x at a
 refine Qo Tryz.func104 J qh qh J<|qc<|qa J<|q9<|qf<|qc<|O J<|G _ J<|q9 ?_
 refine qo J a (fun _ a=>?_) (fun _ a=>?_)
 ·refine qc<|O J ?_
  obtain ⟨q,b,a⟩:=q7 a
  refine Qb 3 (fun A st=>∃ j k,st = A [(12,Q0 q),(11,k),(10,j)]) ?_ ?_
  ·refine Q9 J J b (fun b=>?_) (fun b=>?_)
   ·refine O J<|G _ J<|q9 ?_
    obtain rfl:=qd b
    exact ⟨_,_,J⟩
   refine qb J<|G _ J<|q9 ?_
   obtain rfl:=qd b
   exact ⟨_,_,J⟩
  rintro _ ⟨j,k,rfl⟩
  refine qa J<|qs ?_
  obtain rfl:=qd a
  exact Q5 _ J
 refine ql<|qf<|qc<|O J<|G _ J<|q9 ?_
 refine qo J a (fun _ a=>?_) (fun _ a=>?_)
 ·refine qc<|O J ?_
  obtain ⟨s,c,a⟩:=q7 a
  refine Qb 3 (fun A st=>∃ l m,st = A [(18,Q0 s),(17,m),(16,l)]) ?_ ?_
  ·refine Q9 J J c (fun c=>?_) (fun c=>?_)
   ·refine qb J<|G _ J<|q9 ?_
    obtain rfl:=qd c
    exact ⟨_,_,J⟩
   refine O J<|G _ J<|q9 ?_
   obtain rfl:=qd c
   exact ⟨_,_,J⟩
  rintro _ ⟨l,m,rfl⟩
  refine qa J<|qs ?_
  obtain rfl:=qd a
  exact Q5 _ J
 refine ql<|qc<|O J ?_
 obtain ⟨t,d,a⟩:=q7 a
 refine Qb 4 (fun A st=>∃ n o p,st = A [(23,Q0 t),(22,p),(21,o),(20,n)]) ?_ ?_
 ·refine Q9 J J d (fun d=>?_) (fun d=>?_)
  ·refine O J<|G _ J<|G _ J<|q9 ?_
   obtain rfl:=qd d
   exact ⟨_,_,_,J⟩
  refine qb J<|qb J<|G _ J<|q9 ?_
  obtain rfl:=qd d
  exact ⟨_,_,_,J⟩
 rintro _ ⟨n,o,p,rfl⟩
 refine qa J<|qs ?_
 obtain rfl:=qd a
 exact Q5 _ J
theorem qvq (f : List Int) (g : List Bool) (r : List qk) (l : q42 f g = some r) : Pure Tryz.prog tab 106 [.sl 1 (f.map (eI .i64)),.sl 1 (g.map eB)] (.sl 2 (r.map Qh)):=by
 unfold q42 at l
 refine Qo Tryz.func106 J qh qh J<|qc<|qa J<|qt<|qa J<|q9<|qf<|qc<|qa J<|q9 ?_
 obtain ⟨m,ad,l⟩:=q7 l
 refine Qk (fun h=>h = m) (fun h=>⟨[(5,.hs 0 2 0 h.length)],[(0,.dat 2 (h.map Qh))],1⟩) qe ?_ ?_
 ·refine Qe (q43 f g) (fun j=>⟨[(0,.d (.sl 1 (f.map (eI .i64)))),(1,.d (.sl 1 (g.map eB))),(5,.hs 0 2 0 j.2.length),(6,q6 j.1)],[(0,.dat 2 (j.2.map Qh))],1⟩) (0,[]) m ad (wkA [] [] [0]) ?_
  intro j an c
  unfold q43 at c
  refine qf<|qc<|O J<|G _ J<|O J<|Qi J<|G _ J<|q9 ?_
  refine qo J c (fun _ c=>?_) (fun _ c=>?_)
  ·refine ql<|qf ?_
   obtain ⟨ae,a,c⟩:=q7 c
   refine Qk (fun k=>k = ae) (fun k=>⟨[(0,.d (.sl 1 (f.map (eI .i64)))),(1,.d (.sl 1 (g.map eB))),(5,.hs 0 2 0 k.length),(6,q6 j.1)],[(0,.dat 2 (k.map Qh))],1⟩) qe ?_ ?_
   ·refine qf<|qc<|O J<|O J ?_
    obtain ⟨ao,af,a⟩:=q7 a
    refine Qc af J<|G _ J<|G _ J<|q9 ?_
    refine qo J a (fun _ a=>?_) (fun _ a=>?_)
    ·refine Q8 ?_
     obtain rfl:=qd a
     exact ⟨_,J,wkA [(0,0)] [] []⟩
    refine ql<|qc<|O J<|G _ J<|qa J<|q9<|qf<|Qj [U,U,U,U,U,U,qu 0,U,U,U,U,U,U,U,U] qh<|O J<|G _ J ?_
    obtain ⟨ag,b,a⟩:=q7 a
    refine Qb 13 (fun A st=>∃ n o p q s t u v w x y z,st = A [(36,Q0 ag),(35,z),(34,y),(33,x),(32,w),(31,v),(30,u),(29,t),(28,s),(27,q),(26,p),(25,o),(24,n)]) ?_ ?_
    ·refine Q9 J J b (fun b=>?_) (fun b=>?_)
     ·refine O J<|O J<|G _ J ?_
      obtain ⟨ap,aa,b⟩:=q7 b
      refine qz aa J J<|G _ J<|Qd _ aa J<|O J<|O J ?_
      obtain ⟨aq,ah,b⟩:=q7 b
      refine Qc ah J<|G _ J<|G _ J<|G _ J<|q9 ?_
      obtain rfl:=qd b
      exact ⟨_,_,_,_,_,_,_,_,_,_,_,_,J⟩
     refine qb J<|qb J<|qb J<|qb J<|qb J<|qb J<|qb J<|qb J<|qb J<|qb J<|qb J<|G _ J<|q9 ?_
     obtain rfl:=qd b
     exact ⟨_,_,_,_,_,_,_,_,_,_,_,_,J⟩
    rintro _ ⟨n,o,p,q,s,t,u,v,w,x,y,z,rfl⟩
    refine q9 ?_
    refine qo J a (fun _ a=>?_) (fun _ a=>?_)
    ·refine qw<|O J<|O J<|G _ J<|O J<|O J<|G _ J ?_
     obtain ⟨ab,ai,a⟩:=q7 a
     refine Qc ai J<|G _ J ?_
     obtain ⟨aj,ac,a⟩:=q7 a
     refine qz ac J J<|G _ J<|K5 (ds:=[q8 ab]) ({Lo:=aj.Lo,Hi:=ab} : qk) ac J J J J J J J J (leb J) J<|qv ?_
     obtain rfl:=qd a
     exact ⟨_,J,wkE [(0,0)] [] [] J ⟨qr J,qr J,⟨_,J,K6 qe J qx (ltd J)⟩,qr J,trivial⟩ ⟨Qt J J,trivial⟩⟩
    refine Qj [U,(some [0,1],[0,2]),(some [],[1]),U,U,U,U,U,U,U,U,U,U,U] qh<|O J<|O J<|O J ?_
    obtain ⟨ar,ak,a⟩:=q7 a
    refine Qc ak J<|G _ J<|O J<|O J<|G _ J ?_
    obtain ⟨au,al,a⟩:=q7 a
    refine Qc al J<|G _ J<|G _ J<|Qs _ _ J ?_
    obtain ⟨av,am,a⟩:=q7 a
    refine Ku _ am J J J J J J J (Ks J J) J J J J<|qa J<|qv ?_
    obtain rfl:=qd a
    exact ⟨_,J,wkA [(0,2)] [] []⟩
   intro k hb
   subst hb
   refine qw<|O J<|G _ J<|qa J<|qv ?_
   exact ⟨_,qm c,wkA [(0,0)] [] []⟩
  refine Q8 ?_
  refine ⟨_,qm c,fun hm=>?_⟩
  subst hm
  exact ⟨_,J,wkA [(0,0)] [] []⟩
 intro h hb
 subst hb
 refine qc<|O J<|qa J<|qs ?_
 obtain rfl:=qd l
 exact finD (.inr J) J (Zi J J) (.refl _)
theorem qvt (c : List qk) (f : List qk) (r : Bool) (b : q5y c f = some r) : Pure Tryz.prog tab 107 [.sl 2 (c.map Qh),.sl 2 (f.map Qh)] (.bool r):=by
 unfold q5y at b
 refine Qo Tryz.func107 J qh qh J<|qc<|qa J<|q9<|qf<|qc<|O J<|Qi J<|O J<|Qi J<|G _ J<|q9 ?_
 refine qo J b (fun _ b=>?_) (fun _ b=>?_)
 ·refine qc<|qa J<|qs ?_
  obtain rfl:=qd b
  exact Q5 _ J
 refine ql<|qf<|qc<|qa J<|q9 ?_
 obtain ⟨h,k,b⟩:=q7 b
 refine Qk (fun g=>.inl g = h) (fun g=>⟨[],[],0⟩) qe ?_ ?_
 ·refine Qe (qcp c f) (fun j=>⟨[(0,.d (.sl 2 (c.map Qh))),(1,.d (.sl 2 (f.map Qh))),(5,q6 j)],[],0⟩) 0 h k (wkA [] [] []) ?_
  intro j n a
  unfold qcp at a
  refine qf<|qc<|O J<|O J<|Qi J<|G _ J<|q9 ?_
  refine qo J a (fun _ a=>?_) (fun _ a=>?_)
  ·refine ql<|qf<|Q3<|qf<|Qj [U,U,U,U,U,U,U,U,U] qh<|O J<|O J ?_
   obtain ⟨o,l,a⟩:=q7 a
   refine Qc l J<|G _ J<|O J<|O J ?_
   obtain ⟨p,m,a⟩:=q7 a
   refine Qc m J<|G _ J<|G _ J<|q9 ?_
   refine qo J a (fun _ a=>?_) (fun _ a=>?_)
   ·refine qc<|qa J<|qs ?_
    refine ⟨_,qm a,fun hm=>?_⟩
    subst hm
    obtain rfl:=qd b
    exact Q5 _ J
   refine ql<|Qf<|Qn<|qw<|O J<|G _ J<|qa J<|qv ?_
   exact ⟨_,qm a,wkA [] [] []⟩
  refine Q8 ?_
  refine ⟨_,qm a,fun hm=>?_⟩
  subst hm
  exact ⟨_,J,wkA [] [] []⟩
 intro g hb
 subst hb
 refine qc<|qa J<|qs ?_
 obtain rfl:=qd b
 exact Q5 _ J
theorem qgh (j : Int) (f : List qi) (g : List qi) (r : List qi) (n : Ji j f g = some r) : Pure Tryz.prog tab 79 [q8 j,.sl 4 (f.map Q2),.sl 4 (g.map Q2)] (.sl 4 (r.map Q2)):=by
 unfold Ji at n
 refine Qo Tryz.func79 J qh qh J<|qc<|qa J<|qt<|O J<|O J ?_
 obtain ⟨k,h2,n⟩:=q7 n
 refine Q4 (qvy f g k h2) J<|O J<|O J ?_
 obtain ⟨l,h4,n⟩:=q7 n
 refine Q4 (qw0 f g l h4) J<|qa J<|qa J<|qt<|qa J<|qt<|qa J<|qt<|qa J<|q9<|qf<|qc<|qa J<|q9 ?_
 obtain ⟨aa,an,n⟩:=q7 n
 refine Qk (fun t=>t = aa) (fun t=>⟨[(9,.hs 0 4 0 t.length)],[(0,.dat 4 (t.map Q2))],1⟩) qe ?_ ?_
 ·refine Qe (q31 k l f g j) (fun a=>⟨[(0,q6 j),(1,.d (.sl 4 (f.map Q2))),(2,.d (.sl 4 (g.map Q2))),(7,.d (.sl 1 (k.map (eI .i64)))),(8,.d (.sl 1 (l.map (eI .i64)))),(9,.hs 0 4 0 a.2.2.2.length),(10,.d (.sl 2 (a.1.map Qh))),(11,q6 a.2.1),(12,q6 a.2.2.1)],[(0,.dat 4 (a.2.2.2.map Q2))],1⟩) ([],0,0,[]) aa an (wkA [] [] [0]) ?_
  intro a bs o
  unfold q31 at o
  refine qf<|qc<|O J<|G _ J<|O J<|Qi J<|G _ J<|q9 ?_
  refine qo J o (fun _ o=>?_) (fun _ o=>?_)
  ·refine ql<|qf ?_
   obtain ⟨ao,h,o⟩:=q7 o
   refine Qk (fun p=>p = ao) (fun p=>⟨[(0,q6 j),(1,.d (.sl 4 (f.map Q2))),(2,.d (.sl 4 (g.map Q2))),(7,.d (.sl 1 (k.map (eI .i64)))),(8,.d (.sl 1 (l.map (eI .i64)))),(9,.hs 0 4 0 p.2.2.length),(10,.d (.sl 2 (p.1.map Qh))),(11,q6 p.2.1),(12,q6 a.2.2.1)],[(0,.dat 4 (p.2.2.map Q2))],1⟩) qe ?_ ?_
   ·refine qc<|qa J<|q9<|qf<|qc<|qa J<|q9 ?_
    obtain ⟨ab,ap,h⟩:=q7 h
    refine Qk (fun q=>q = ab) (fun q=>⟨[(0,q6 j),(1,.d (.sl 4 (f.map Q2))),(2,.d (.sl 4 (g.map Q2))),(7,.d (.sl 1 (k.map (eI .i64)))),(8,.d (.sl 1 (l.map (eI .i64)))),(9,.hs 0 4 0 a.2.2.2.length),(10,.d (.sl 2 (a.1.map Qh))),(11,q6 a.2.1),(12,q6 a.2.2.1),(13,.hs 1 1 0 q.length)],[(0,.dat 4 (a.2.2.2.map Q2)),(1,.dat 1 (q.map eB))],2⟩) qe ?_ ?_
    ·refine Qe (q46 l k a f g j) (fun w=>⟨[(0,q6 j),(1,.d (.sl 4 (f.map Q2))),(2,.d (.sl 4 (g.map Q2))),(7,.d (.sl 1 (k.map (eI .i64)))),(8,.d (.sl 1 (l.map (eI .i64)))),(9,.hs 0 4 0 a.2.2.2.length),(10,.d (.sl 2 (a.1.map Qh))),(11,q6 a.2.1),(12,q6 a.2.2.1),(13,.hs 1 1 0 w.2.length),(14,q6 w.1)],[(0,.dat 4 (a.2.2.2.map Q2)),(1,.dat 1 (w.2.map eB))],2⟩) (0,[]) ab ap (wkA [(0,0)] [] [1]) ?_
     intro w bt b
     unfold q46 at b
     refine qf<|qc<|O J<|O J<|Qi J<|G _ J<|q9 ?_
     refine qo J b (fun _ b=>?_) (fun _ b=>?_)
     ·refine ql<|qf<|Q3<|Qj [U,(some [1,2],[1,3]),(some [],[2]),U,U,U,U,U,U,U,U,U,U,U,U,U,U,U,U,U,U,U,U,U,U,U] qh<|O J<|O J<|O J<|O J<|O J ?_
      obtain ⟨aq,ar,b⟩:=q7 b
      refine Qc ar J<|G _ J<|O J<|O J ?_
      obtain ⟨au,av,b⟩:=q7 b
      refine Qc av J<|G _ J ?_
      obtain ⟨ac,aw,b⟩:=q7 b
      refine Q4 (qmb f aq au ac aw) J<|O J<|O J<|O J ?_
      obtain ⟨ax,ay,b⟩:=q7 b
      refine Qc ay J<|G _ J<|O J<|O J ?_
      obtain ⟨az,ba,b⟩:=q7 b
      refine Qc ba J<|G _ J ?_
      obtain ⟨ad,bb,b⟩:=q7 b
      refine Q4 (qmb g ax az ad bb) J ?_
      obtain ⟨bc,bd,b⟩:=q7 b
      refine Q4 (qvs j ac ad bc bd) J<|Qs _ _ J ?_
      obtain ⟨bu,be,b⟩:=q7 b
      refine Ku _ be J J J J J J J (Ks J J) J J J J<|qa J<|qv<|Qn<|qw<|O J<|G _ J<|qa J<|qv ?_
      exact ⟨_,qm b,wkA [(0,0),(1,3)] [] []⟩
     refine Q8 ?_
     refine ⟨_,qm b,fun hm=>?_⟩
     subst hm
     exact ⟨_,J,wkA [(0,0),(1,1)] [] []⟩
    intro q hb
    subst hb
    refine qf ?_
    refine Yb (st':=⟨[(0,q6 j),(1,.d (.sl 4 (f.map Q2))),(2,.d (.sl 4 (g.map Q2))),(7,.d (.sl 1 (k.map (eI .i64)))),(8,.d (.sl 1 (l.map (eI .i64)))),(9,.hs 0 4 0 a.2.2.2.length),(10,.d (.sl 2 (a.1.map Qh))),(11,q6 a.2.1),(12,q6 a.2.2.1),(13,.d (.sl 1 (q.map eB)))],[(0,.dat 4 (a.2.2.2.map Q2))],1⟩) (wkA [(0,0)] [1] []) ?_ qe
    refine qw<|O J<|O J ?_
    obtain ⟨u,bf,h⟩:=q7 h
    refine Q4 (qvq l q u bf) J<|qa J<|q9<|qf<|qc<|O J<|G _ J ?_
    obtain ⟨bg,s,h⟩:=q7 h
    refine Qb 5 (fun A st=>∃ ae af ag ah,st = A [(71,Q0 bg),(70,ah),(69,ag),(68,af),(67,ae)]) ?_ ?_
    ·refine Q9 J J s (fun s=>?_) (fun s=>?_)
     ·refine O J<|O J ?_
      obtain ⟨bh,bi,s⟩:=q7 s
      refine Q4 (qvt u a.1 bh bi) J<|G _ J<|q9 ?_
      obtain rfl:=qd s
      exact ⟨_,_,_,_,J⟩
     refine qb J<|qb J<|qb J<|G _ J<|q9 ?_
     obtain rfl:=qd s
     exact ⟨_,_,_,_,J⟩
    rintro _ ⟨ae,af,ag,ah,rfl⟩
    refine q9 ?_
    refine qo J h (fun _ h=>?_) (fun _ h=>?_)
    ·refine qf<|qc<|O J<|qa J<|q9 ?_
     obtain ⟨ai,bj,h⟩:=q7 h
     refine Qk (fun v=>v = ai) (fun v=>⟨[(0,q6 j),(1,.d (.sl 4 (f.map Q2))),(2,.d (.sl 4 (g.map Q2))),(7,.d (.sl 1 (k.map (eI .i64)))),(8,.d (.sl 1 (l.map (eI .i64)))),(9,.hs 0 4 0 v.length),(10,.d (.sl 2 (a.1.map Qh))),(11,q6 a.2.1),(12,q6 a.2.2.1)],[(0,.dat 4 (v.map Q2))],1⟩) qe ?_ ?_
     ·refine Qe (q47 k a) (fun x=>⟨[(0,q6 j),(1,.d (.sl 4 (f.map Q2))),(2,.d (.sl 4 (g.map Q2))),(7,.d (.sl 1 (k.map (eI .i64)))),(8,.d (.sl 1 (l.map (eI .i64)))),(9,.hs 0 4 0 x.2.length),(10,.d (.sl 2 (a.1.map Qh))),(11,q6 a.2.1),(12,q6 a.2.2.1),(16,q6 x.1)],[(0,.dat 4 (x.2.map Q2))],1⟩) (a.2.1,a.2.2.2) ai bj (wkA [(0,0)] [] []) ?_
      intro x bv m
      unfold q47 at m
      refine qf<|qc<|O J<|O J<|G _ J<|G _ J<|q9 ?_
      refine qo J m (fun _ m=>?_) (fun _ m=>?_)
      ·refine ql<|qf<|Q3<|qw<|O J<|O J<|O J<|O J<|G _ J ?_
       obtain ⟨aj,bk,m⟩:=q7 m
       refine Qc bk J<|G _ J ?_
       obtain ⟨z,ak,m⟩:=q7 m
       refine qz ak J J<|G _ J<|K5 (ds:=[q8 aj]) ({X0:=z.X0,Y0:=z.Y0,X1:=aj,Y1:=z.Y1} : qi) ak J J J J J J J J (leb J) J<|qv<|Qn<|qw<|O J<|G _ J<|qa J<|qv ?_
       exact ⟨_,qm m,wkE [(0,0)] [] [] J ⟨qr J,qr J,qr J,qr J,qr J,⟨_,J,K6 qe J qx (ltd J)⟩,qr J,qr J,qr J,qr J,trivial⟩ ⟨Qt J J,trivial⟩⟩
      refine Q8 ?_
      refine ⟨_,qm m,fun hm=>?_⟩
      subst hm
      exact ⟨_,J,wkA [(0,0)] [] []⟩
     intro v hb
     subst hb
     refine Q8 ?_
     obtain rfl:=qd h
     exact ⟨_,J,wkA [(0,0)] [] []⟩
    refine ql<|qc<|O J<|G _ J<|O J<|qa J<|qa J<|qt<|qa J<|q9 ?_
    obtain ⟨bl,bm,h⟩:=q7 h
    refine Q3<|Qe (q60 u k a) (fun y=>⟨[(0,q6 j),(1,.d (.sl 4 (f.map Q2))),(2,.d (.sl 4 (g.map Q2))),(7,.d (.sl 1 (k.map (eI .i64)))),(8,.d (.sl 1 (l.map (eI .i64)))),(9,.hs 0 4 0 y.2.length),(10,.d (.sl 2 (u.map Qh))),(11,q6 (a.2.2.2.length : Int)),(12,q6 a.2.2.1),(15,.d (.sl 2 (u.map Qh))),(17,q6 y.1)],[(0,.dat 4 (y.2.map Q2))],1⟩) (0,a.2.2.2) bl bm (wkA [(0,0)] [] []) ?_
    intro y bw c
    unfold q60 at c
    refine qf<|qc<|O J<|O J<|Qi J<|G _ J<|q9 ?_
    refine qo J c (fun _ c=>?_) (fun _ c=>?_)
    ·refine ql<|qf<|Q3<|Qj [U,(some [0,1],[0,2]),(some [],[1]),U,U,U,U,U,U,U,U,U,U,U,U,U,U,U,U,U,U,U,U,U] qh<|O J<|O J<|O J ?_
     obtain ⟨bz,bn,c⟩:=q7 c
     refine Qc bn J<|G _ J<|O J<|O J ?_
     obtain ⟨ca,bo,c⟩:=q7 c
     refine Qc bo J<|G _ J<|G _ J<|O J<|O J<|G _ J ?_
     obtain ⟨cb,bp,c⟩:=q7 c
     refine Qc bp J<|G _ J<|O J<|O J ?_
     obtain ⟨cc,bq,c⟩:=q7 c
     refine Qc bq J<|G _ J<|G _ J<|G _ J<|Qs _ _ J ?_
     obtain ⟨cd,br,c⟩:=q7 c
     refine Ku _ br J J J J J J J (Ks J J) J J J J<|qa J<|qv<|Qn<|qw<|O J<|G _ J<|qa J<|qv ?_
     exact ⟨_,qm c,wkA [(0,2)] [] []⟩
    refine Q8 ?_
    refine ⟨_,qm c,fun hm=>?_⟩
    subst hm
    obtain rfl:=qd h
    exact ⟨_,J,wkA [(0,0)] [] []⟩
   intro p hb
   subst hb
   refine qw<|O J<|G _ J<|qa J<|qv ?_
   exact ⟨_,qm o,wkA [(0,0)] [] []⟩
  refine Q8 ?_
  refine ⟨_,qm o,fun hm=>?_⟩
  subst hm
  exact ⟨_,J,wkA [(0,0)] [] []⟩
 intro t hb
 subst hb
 refine qc<|O J<|qa J<|qs ?_
 obtain rfl:=qd n
 exact finD (.inr J) J (Zi J J) (.refl _)
theorem qvw (c : List qi) (f : List qi) (r : Bool) (b : q62 c f = some r) : Pure Tryz.prog tab 81 [.sl 4 (c.map Q2),.sl 4 (f.map Q2)] (.bool r):=by
 unfold q62 at b
 refine Qo Tryz.func81 J qh qh J<|qc<|qa J<|q9<|qf<|qc<|O J<|Qi J<|O J<|Qi J<|G _ J<|q9 ?_
 refine qo J b (fun _ b=>?_) (fun _ b=>?_)
 ·refine qc<|qa J<|qs ?_
  obtain rfl:=qd b
  exact Q5 _ J
 refine ql<|qf<|qc<|qa J<|q9 ?_
 obtain ⟨h,k,b⟩:=q7 b
 refine Qk (fun g=>.inl g = h) (fun g=>⟨[],[],0⟩) qe ?_ ?_
 ·refine Qe (qcq c f) (fun j=>⟨[(0,.d (.sl 4 (c.map Q2))),(1,.d (.sl 4 (f.map Q2))),(5,q6 j)],[],0⟩) 0 h k (wkA [] [] []) ?_
  intro j n a
  unfold qcq at a
  refine qf<|qc<|O J<|O J<|Qi J<|G _ J<|q9 ?_
  refine qo J a (fun _ a=>?_) (fun _ a=>?_)
  ·refine ql<|qf<|Q3<|qf<|Qj [U,U,U,U,U,U,U,U,U] qh<|O J<|O J ?_
   obtain ⟨o,l,a⟩:=q7 a
   refine Qc l J<|G _ J<|O J<|O J ?_
   obtain ⟨p,m,a⟩:=q7 a
   refine Qc m J<|G _ J<|G _ J<|q9 ?_
   refine qo J a (fun _ a=>?_) (fun _ a=>?_)
   ·refine qc<|qa J<|qs ?_
    refine ⟨_,qm a,fun hm=>?_⟩
    subst hm
    obtain rfl:=qd b
    exact Q5 _ J
   refine ql<|Qf<|Qn<|qw<|O J<|G _ J<|qa J<|qv ?_
   exact ⟨_,qm a,wkA [] [] []⟩
  refine Q8 ?_
  refine ⟨_,qm a,fun hm=>?_⟩
  subst hm
  exact ⟨_,J,wkA [] [] []⟩
 intro g hb
 subst hb
 refine qc<|qa J<|qs ?_
 obtain rfl:=qd b
 exact Q5 _ J
theorem qw9 (l : Int) (f : List qg) (g : List qg) (r : List qg × Bool) (o : q4e l f g = some r) : Pure Tryz.prog tab 50 [q8 l,.sl 6 (f.map Qg),.sl 6 (g.map Qg)] (.tup [.sl 6 (r.1.map Qg),.bool r.2]):=by
 unfold q4e at o
 refine Qo Tryz.func50 J qh qh J<|qc<|qa J<|qa J<|qt<|O J<|O J ?_
 obtain ⟨m,h2,o⟩:=q7 o
 refine Q4 (qw7 f g m h2) J<|qa J<|qt<|qa J<|qt<|qa J<|qt<|qa J<|q9<|qf<|qc<|qa J<|q9 ?_
 obtain ⟨y,bh,o⟩:=q7 o
 refine Qk (fun s=>.inl s = y) (fun s=>⟨[(9,.hs 0 6 0 s.length)],[(0,.dat 6 (s.map Qg))],1⟩) qe ?_ ?_
 ·refine Qe (q1w m f g l) (fun b=>⟨[(0,q6 l),(1,.d (.sl 6 (f.map Qg))),(2,.d (.sl 6 (g.map Qg))),(8,.d (.sl 1 (m.map (eI .i64)))),(9,.hs 0 6 0 b.2.2.2.length),(10,.d (.sl 4 (b.1.map Q2))),(11,q6 b.2.1),(12,q6 b.2.2.1)],[(0,.dat 6 (b.2.2.2.map Qg))],1⟩) ([],0,0,[]) y bh (wkA [] [] [0]) ?_
  intro b ct n
  unfold q1w at n
  refine qf<|qc<|O J<|G _ J<|O J<|Qi J<|G _ J<|q9 ?_
  refine qo J n (fun _ n=>?_) (fun _ n=>?_)
  ·refine ql<|qf ?_
   obtain ⟨bi,a,n⟩:=q7 n
   refine Qk (fun p=>.inl p = bi) (fun p=>⟨[(0,q6 l),(1,.d (.sl 6 (f.map Qg))),(2,.d (.sl 6 (g.map Qg))),(8,.d (.sl 1 (m.map (eI .i64)))),(9,.hs 0 6 0 p.2.2.length),(10,.d (.sl 4 (p.1.map Q2))),(11,q6 p.2.1),(12,q6 b.2.2.1)],[(0,.dat 6 (p.2.2.map Qg))],1⟩) qe ?_ ?_
   ·refine qf<|Qj [U,U,U,U,U,U,U,U,U,U,U,U,U,U,U] qh<|O J<|O J<|O J<|O J ?_
    obtain ⟨bj,bk,a⟩:=q7 a
    refine Qc bk J<|G _ J ?_
    obtain ⟨z,bl,a⟩:=q7 a
    refine Q4 (qcs f bj z bl) J<|O J<|O J<|O J ?_
    obtain ⟨bm,bn,a⟩:=q7 a
    refine Qc bn J<|G _ J ?_
    obtain ⟨aa,bo,a⟩:=q7 a
    refine Q4 (qcs g bm aa bo) J ?_
    obtain ⟨t,bp,a⟩:=q7 a
    refine Q4 (qgh l z aa t bp) J<|qa J<|q9<|qf<|qc<|O J<|Qi J<|G _ J ?_
    obtain ⟨bq,h,a⟩:=q7 a
    refine Qb 11 (fun A st=>∃ ab ac ad ae af ag ah ai aj ak,st = A [(53,Q0 bq),(52,ak),(51,aj),(50,ai),(49,ah),(48,ag),(47,af),(46,ae),(45,ad),(44,ac),(43,ab)]) ?_ ?_
    ·refine Q9 J J h (fun h=>?_) (fun h=>?_)
     ·refine qb J<|qb J<|qb J<|qb J<|qb J<|qb J<|qb J<|qb J<|qb J<|G _ J<|q9 ?_
      obtain rfl:=qd h
      exact ⟨_,_,_,_,_,_,_,_,_,_,J⟩
     refine O J<|O J<|O J ?_
     obtain ⟨br,bs,h⟩:=q7 h
     refine Qc bs J<|G _ J ?_
     obtain ⟨al,bt,h⟩:=q7 h
     refine Q4 (qcs f br al bt) J ?_
     obtain ⟨bu,bv,h⟩:=q7 h
     refine Q4 (Un (.cons (.refl _) (.cons (.refl _) (.cons (.nil _) .nil))) (qgh 2 al [] bu bv)) J<|Qi J<|G _ J<|G _ J<|q9 ?_
     obtain rfl:=qd h
     exact ⟨_,_,_,_,_,_,_,_,_,_,J⟩
    rintro _ ⟨ab,ac,ad,ae,af,ag,ah,ai,aj,ak,rfl⟩
    obtain ⟨bw,j,a⟩:=q7 a
    refine Qb 11 (fun A st=>∃ am an ao ap aq ar au av aw ax,st = A [(64,Q0 bw),(63,ax),(62,aw),(61,av),(60,au),(59,ar),(58,aq),(57,ap),(56,ao),(55,an),(54,am)]) ?_ ?_
    ·refine Q9 J J j (fun j=>?_) (fun j=>?_)
     ·refine qb J<|qb J<|qb J<|qb J<|qb J<|qb J<|qb J<|qb J<|qb J<|G _ J<|q9 ?_
      obtain rfl:=qd j
      exact ⟨_,_,_,_,_,_,_,_,_,_,J⟩
     refine O J<|O J<|O J ?_
     obtain ⟨bz,ca,j⟩:=q7 j
     refine Qc ca J<|G _ J ?_
     obtain ⟨ay,cb,j⟩:=q7 j
     refine Q4 (qcs g bz ay cb) J ?_
     obtain ⟨cc,cd,j⟩:=q7 j
     refine Q4 (Un (.cons (.refl _) (.cons (.refl _) (.cons (.nil _) .nil))) (qgh 2 ay [] cc cd)) J<|Qi J<|G _ J<|G _ J<|q9 ?_
     obtain rfl:=qd j
     exact ⟨_,_,_,_,_,_,_,_,_,_,J⟩
    rintro _ ⟨am,an,ao,ap,aq,ar,au,av,aw,ax,rfl⟩
    refine q9 ?_
    refine qo J a (fun _ a=>?_) (fun _ a=>?_)
    ·refine qc<|qa J<|qa J<|qs ?_
     obtain rfl:=qd a
     refine ⟨_,qm n,fun hm=>?_⟩
     subst hm
     obtain rfl:=qd o
     exact finD (.inr J) J J (Ye (.cons (.nil _) (.cons (.refl _) .nil)))
    refine ql<|qf<|qc<|O J<|G _ J ?_
    obtain ⟨ce,q,a⟩:=q7 a
    refine Qb 5 (fun A st=>∃ az ba bb bc,st = A [(71,Q0 ce),(70,bc),(69,bb),(68,ba),(67,az)]) ?_ ?_
    ·refine Q9 J J q (fun q=>?_) (fun q=>?_)
     ·refine O J<|O J ?_
      obtain ⟨cf,cg,q⟩:=q7 q
      refine Q4 (qvw t b.1 cf cg) J<|G _ J<|q9 ?_
      obtain rfl:=qd q
      exact ⟨_,_,_,_,J⟩
     refine qb J<|qb J<|qb J<|G _ J<|q9 ?_
     obtain rfl:=qd q
     exact ⟨_,_,_,_,J⟩
    rintro _ ⟨az,ba,bb,bc,rfl⟩
    refine q9 ?_
    refine qo J a (fun _ a=>?_) (fun _ a=>?_)
    ·refine qf<|qc<|O J<|qa J<|q9 ?_
     obtain ⟨bd,ch,a⟩:=q7 a
     refine Qk (fun u=>u = bd) (fun u=>⟨[(0,q6 l),(1,.d (.sl 6 (f.map Qg))),(2,.d (.sl 6 (g.map Qg))),(8,.d (.sl 1 (m.map (eI .i64)))),(9,.hs 0 6 0 u.length),(10,.d (.sl 4 (b.1.map Q2))),(11,q6 b.2.1),(12,q6 b.2.2.1)],[(0,.dat 6 (u.map Qg))],1⟩) qe ?_ ?_
     ·refine Qe (q4f m b) (fun v=>⟨[(0,q6 l),(1,.d (.sl 6 (f.map Qg))),(2,.d (.sl 6 (g.map Qg))),(8,.d (.sl 1 (m.map (eI .i64)))),(9,.hs 0 6 0 v.2.length),(10,.d (.sl 4 (b.1.map Q2))),(11,q6 b.2.1),(12,q6 b.2.2.1),(14,q6 v.1)],[(0,.dat 6 (v.2.map Qg))],1⟩) (b.2.1,b.2.2.2) bd ch (wkA [(0,0)] [] []) ?_
      intro v cu k
      unfold q4f at k
      refine qf<|qc<|O J<|O J<|G _ J<|G _ J<|q9 ?_
      refine qo J k (fun _ k=>?_) (fun _ k=>?_)
      ·refine ql<|qf<|Q3<|qw<|O J<|O J<|O J<|O J<|G _ J ?_
       obtain ⟨be,ci,k⟩:=q7 k
       refine Qc ci J<|G _ J ?_
       obtain ⟨x,bf,k⟩:=q7 k
       refine qz bf J J<|G _ J<|G _ J<|K5 (ds:=[q8 be]) ({Lo:=x.Lo,Hi:=({X:=x.Hi.X,Y:=x.Hi.Y,Z:=be} : Qa)} : qg) bf J J J J J J J J (leb J) J<|qv<|Qn<|qw<|O J<|G _ J<|qa J<|qv ?_
       exact ⟨_,qm k,wkE [(0,0)] [] [] J ⟨qr J,qr J,qr J,qr J,⟨_,J,K6 qe J qx (ltd J)⟩,qr J,qr J,qr J,qr J,trivial⟩ ⟨Qt J J,trivial⟩⟩
      refine Q8 ?_
      refine ⟨_,qm k,fun hm=>?_⟩
      subst hm
      exact ⟨_,J,wkA [(0,0)] [] []⟩
     intro u hb
     subst hb
     refine Q8 ?_
     obtain rfl:=qd a
     exact ⟨_,J,wkA [(0,0)] [] []⟩
    refine ql<|qc<|O J<|G _ J<|O J<|qa J<|qa J<|qt<|qa J<|q9 ?_
    obtain ⟨cj,ck,a⟩:=q7 a
    refine Q3<|Qe (q68 t m b) (fun w=>⟨[(0,q6 l),(1,.d (.sl 6 (f.map Qg))),(2,.d (.sl 6 (g.map Qg))),(8,.d (.sl 1 (m.map (eI .i64)))),(9,.hs 0 6 0 w.2.length),(10,.d (.sl 4 (t.map Q2))),(11,q6 (b.2.2.2.length : Int)),(12,q6 b.2.2.1),(13,.d (.sl 4 (t.map Q2))),(15,q6 w.1)],[(0,.dat 6 (w.2.map Qg))],1⟩) (0,b.2.2.2) cj ck (wkA [(0,0)] [] []) ?_
    intro w cv c
    unfold q68 at c
    refine qf<|qc<|O J<|O J<|Qi J<|G _ J<|q9 ?_
    refine qo J c (fun _ c=>?_) (fun _ c=>?_)
    ·refine ql<|qf<|Q3<|Qj [U,(some [0,1],[0,2]),(some [],[1]),U,U,U,U,U,U,U,U,U,U,U,U,U,U,U,U,U,U,U,U,U,U,U,U,U,U,U,U,U,U,U,U,U] qh<|O J<|O J<|O J ?_
     obtain ⟨cw,cm,c⟩:=q7 c
     refine Qc cm J<|G _ J<|G _ J<|O J<|O J ?_
     obtain ⟨cx,cn,c⟩:=q7 c
     refine Qc cn J<|G _ J<|G _ J<|O J<|O J ?_
     obtain ⟨cy,co,c⟩:=q7 c
     refine Qc co J<|G _ J<|G _ J<|O J<|O J ?_
     obtain ⟨cz,cp,c⟩:=q7 c
     refine Qc cp J<|G _ J<|G _ J<|O J<|O J ?_
     obtain ⟨da,cq,c⟩:=q7 c
     refine Qc cq J<|G _ J<|G _ J<|O J<|O J<|G _ J ?_
     obtain ⟨dc,cr,c⟩:=q7 c
     refine Qc cr J<|G _ J<|G _ J<|G _ J<|Qs _ _ J ?_
     obtain ⟨dd,cs,c⟩:=q7 c
     refine Ku _ cs J J J J J J J (Ks J J) J J J J<|qa J<|qv<|Qn<|qw<|O J<|G _ J<|qa J<|qv ?_
     exact ⟨_,qm c,wkA [(0,2)] [] []⟩
    refine Q8 ?_
    refine ⟨_,qm c,fun hm=>?_⟩
    subst hm
    obtain rfl:=qd a
    exact ⟨_,J,wkA [(0,0)] [] []⟩
   intro p hb
   subst hb
   refine qw<|O J<|G _ J<|qa J<|qv ?_
   exact ⟨_,qm n,wkA [(0,0)] [] []⟩
  refine Q8 ?_
  refine ⟨_,qm n,fun hm=>?_⟩
  subst hm
  exact ⟨_,J,wkA [(0,0)] [] []⟩
 intro s hb
 subst hb
 refine qc<|O J<|O J<|G _ J<|G _ J<|qa J<|qa J<|qs ?_
 obtain rfl:=qd o
 exact finD (.inr J) J (q53 (Yp (Zi J J) (Yp J J))) (.refl _)
theorem qcu (c : List qg) (f : List qg) (r : Bool) (b : q4g c f = some r) : Pure Tryz.prog tab 16 [.sl 6 (c.map Qg),.sl 6 (f.map Qg)] (.bool r):=by
 unfold q4g at b
 refine Qo Tryz.func16 J qh qh J<|qc<|qa J<|q9<|qf<|qc<|O J<|Qi J<|O J<|Qi J<|G _ J<|q9 ?_
 refine qo J b (fun _ b=>?_) (fun _ b=>?_)
 ·refine qc<|qa J<|qs ?_
  obtain rfl:=qd b
  exact Q5 _ J
 refine ql<|qf<|qc<|qa J<|q9 ?_
 obtain ⟨h,k,b⟩:=q7 b
 refine Qk (fun g=>.inl g = h) (fun g=>⟨[],[],0⟩) qe ?_ ?_
 ·refine Qe (qct c f) (fun j=>⟨[(0,.d (.sl 6 (c.map Qg))),(1,.d (.sl 6 (f.map Qg))),(5,q6 j)],[],0⟩) 0 h k (wkA [] [] []) ?_
  intro j n a
  unfold qct at a
  refine qf<|qc<|O J<|O J<|Qi J<|G _ J<|q9 ?_
  refine qo J a (fun _ a=>?_) (fun _ a=>?_)
  ·refine ql<|qf<|Q3<|qf<|Qj [U,U,U,U,U,U,U,U,U] qh<|O J<|O J ?_
   obtain ⟨o,l,a⟩:=q7 a
   refine Qc l J<|G _ J<|O J<|O J ?_
   obtain ⟨p,m,a⟩:=q7 a
   refine Qc m J<|G _ J<|G _ J<|q9 ?_
   refine qo J a (fun _ a=>?_) (fun _ a=>?_)
   ·refine qc<|qa J<|qs ?_
    refine ⟨_,qm a,fun hm=>?_⟩
    subst hm
    obtain rfl:=qd b
    exact Q5 _ J
   refine ql<|Qf<|Qn<|qw<|O J<|G _ J<|qa J<|qv ?_
   exact ⟨_,qm a,wkA [] [] []⟩
  refine Q8 ?_
  refine ⟨_,qm a,fun hm=>?_⟩
  subst hm
  exact ⟨_,J,wkA [] [] []⟩
 intro g hb
 subst hb
 refine qc<|qa J<|qs ?_
 obtain rfl:=qd b
 exact Q5 _ J
theorem qw5 (c : List qg) (r : Int) (a : q9f c = some r) : Pure Tryz.prog tab 33 [.sl 6 (c.map Qg)] (q8 r):=by
 unfold q9f at a
 refine Qo Tryz.func33 J qh qh J<|qc<|qa J<|q9<|qf<|qc<|O J<|Qi J<|G _ J<|q9 ?_
 refine qo J a (fun _ a=>?_) (fun _ a=>?_)
 ·refine qc<|qa J<|qs ?_
  obtain rfl:=qd a
  exact Q5 _ J
 refine ql<|qf<|qc<|qa J<|q9 ?_
 obtain ⟨h,q,a⟩:=q7 a
 refine Qk (fun g=>.inl g = h) (fun g=>⟨[(0,.d (.sl 6 (c.map Qg)))],[],0⟩) qe ?_ ?_
 ·refine Qe (q67 c) (fun j=>⟨[(0,.d (.sl 6 (c.map Qg))),(3,q6 j)],[],0⟩) 0 h q (wkA [] [] []) ?_
  intro j aa b
  unfold q67 at b
  refine qf<|qc<|O J<|O J<|Qi J<|G _ J<|q9 ?_
  refine qo J b (fun _ b=>?_) (fun _ b=>?_)
  ·refine ql<|qf<|Q3<|qc<|O J<|O J ?_
   obtain ⟨s,t,b⟩:=q7 b
   refine Qc t J<|G _ J ?_
   obtain ⟨u,v,b⟩:=q7 b
   refine Q4 (qwc s u v) J<|G _ J<|q9 ?_
   refine qo J b (fun _ b=>?_) (fun _ b=>?_)
   ·refine qc<|qa J<|qs ?_
    refine ⟨_,qm b,fun hm=>?_⟩
    subst hm
    obtain rfl:=qd a
    exact Q5 _ J
   refine ql<|Qf<|Qn<|qw<|O J<|G _ J<|qa J<|qv ?_
   exact ⟨_,qm b,wkA [] [] []⟩
  refine Q8 ?_
  refine ⟨_,qm b,fun hm=>?_⟩
  subst hm
  exact ⟨_,J,wkA [] [] []⟩
 intro g hb
 subst hb
 refine qc<|O J ?_
 obtain ⟨k,w,a⟩:=q7 a
 refine Q4 (Un (.cons (.refl _) (.cons (.refl _) (.cons (.nil _) .nil))) (qw9 2 c [] k w)) J<|O J<|G _ J<|G _ J<|qa J<|qa J<|q9<|qf<|qc<|O J<|G _ J ?_
 obtain ⟨x,f,a⟩:=q7 a
 refine Qb 6 (fun A st=>∃ l m n o p,st = A [(33,Q0 x),(32,p),(31,o),(30,n),(29,m),(28,l)]) ?_ ?_
 ·refine Q9 J J f (fun f=>?_) (fun f=>?_)
  ·refine qb J<|qb J<|qb J<|qb J<|G _ J<|q9 ?_
   obtain rfl:=qd f
   exact ⟨_,_,_,_,_,J⟩
  refine O J<|O J ?_
  obtain ⟨y,z,f⟩:=q7 f
  refine Q4 (qcu k.1 c y z) J<|G _ J<|G _ J<|q9 ?_
  obtain rfl:=qd f
  exact ⟨_,_,_,_,_,J⟩
 rintro _ ⟨l,m,n,o,p,rfl⟩
 refine q9 ?_
 refine qo J a (fun _ a=>?_) (fun _ a=>?_)
 ·refine qc<|qa J<|qs ?_
  obtain rfl:=qd a
  exact Q5 _ J
 refine ql<|qc<|qa J<|qs ?_
 obtain rfl:=qd a
 exact Q5 _ J
theorem qwf (c : List (List qg)) (f : List (List qg)) (r : Bool) (b : q9i c f = some r) : Pure Tryz.prog tab 13 [.sl 1 (c.map Qq),.sl 1 (f.map Qq)] (.bool r):=by
 unfold q9i at b
 refine Qo Tryz.func13 J qh qh J<|qc<|qa J<|q9<|qf<|qc<|O J<|Qi J<|O J<|Qi J<|G _ J<|q9 ?_
 refine qo J b (fun _ b=>?_) (fun _ b=>?_)
 ·refine qc<|qa J<|qs ?_
  obtain rfl:=qd b
  exact Q5 _ J
 refine ql<|qf<|qc<|qa J<|q9 ?_
 obtain ⟨h,k,b⟩:=q7 b
 refine Qk (fun g=>.inl g = h) (fun g=>⟨[],[],0⟩) qe ?_ ?_
 ·refine Qe (q6e c f) (fun j=>⟨[(0,.d (.sl 1 (c.map Qq))),(1,.d (.sl 1 (f.map Qq))),(5,q6 j)],[],0⟩) 0 h k (wkA [] [] []) ?_
  intro j s a
  unfold q6e at a
  refine qf<|qc<|O J<|O J<|Qi J<|G _ J<|q9 ?_
  refine qo J a (fun _ a=>?_) (fun _ a=>?_)
  ·refine ql<|qf<|Q3<|qf<|Qj [U,U,U,U,U,U,U,U,U,U] qh<|O J<|O J ?_
   obtain ⟨l,m,a⟩:=q7 a
   refine Qc m J<|G _ J<|O J<|O J ?_
   obtain ⟨n,o,a⟩:=q7 a
   refine Qc o J<|G _ J ?_
   obtain ⟨p,q,a⟩:=q7 a
   refine Q4 (qcu l n p q) J<|G _ J<|q9 ?_
   refine qo J a (fun _ a=>?_) (fun _ a=>?_)
   ·refine qc<|qa J<|qs ?_
    refine ⟨_,qm a,fun hm=>?_⟩
    subst hm
    obtain rfl:=qd b
    exact Q5 _ J
   refine ql<|Qf<|Qn<|qw<|O J<|G _ J<|qa J<|qv ?_
   exact ⟨_,qm a,wkA [] [] []⟩
  refine Q8 ?_
  refine ⟨_,qm a,fun hm=>?_⟩
  subst hm
  exact ⟨_,J,wkA [] [] []⟩
 intro g hb
 subst hb
 refine qc<|qa J<|qs ?_
 obtain rfl:=qd b
 exact Q5 _ J
theorem q12n (b : Qy) (c : List qg) (r : List qg × Int) (a : qb3 b c = some r) : Pure Tryz.prog tab 14 [.agg [q8 b.From.X,q8 b.From.Y,q8 b.From.Z,q8 b.To.X,q8 b.To.Y,q8 b.To.Z,q8 b.Depth],.sl 6 (c.map Qg)] (.tup [.sl 6 (r.1.map Qg),q8 r.2]):=by
 unfold qb3 at a
 refine Qo Tryz.func14 J qh qh J<|qc<|Qs _ _ J<|qa J<|qa J<|q9<|qf<|qc<|G _ J<|Qs _ _ J<|G _ J ?_
 obtain ⟨f,g,a⟩:=q7 a
 refine q2z [.agg [.hs 1 7 0 [b].length,.d (.nilsl),.d (.int .u8 0),q6 0,q6 0,q6 0,q6 0]] (Un (.cons (q3q (.cons (.refl _) (.cons (.nil _) (.cons (.refl _) (.cons (.refl _) (.cons (.refl _) (.cons (.refl _) (.cons (.refl _) .nil)))))))) .nil) (qom ({Lines:=[b],Marks:=[],End:=({Frame:=({Turn:=0,At:=({X:=0,Y:=0,Z:=0} : Qa)} : Kl),Drawn:=0} : Yi)} : Qp) f g)) J J (Zp (q133 (Yp (Zi J J) (Yp J (Yp J (Yp J (Yp J (Yp J (Yp J J)))))))) J) (.inr J)<|O J<|G _ J<|G _ J<|qa J<|qa J<|qt<|O J<|G _ J<|q9 ?_
 refine qo J a (fun _ a=>?_) (fun _ a=>?_)
 ·refine qc<|O J<|qa J<|qa J<|qs ?_
  obtain rfl:=qd a
  exact finD (.inr J) J J (Ye (.cons (.nil _) (.cons (.refl _) .nil)))
 refine ql<|qf<|qc<|O J ?_
 obtain ⟨h,j,a⟩:=q7 a
 refine Q4 (qao c h j) J<|qa J<|qt<|O J<|G _ J<|q9 ?_
 refine qo J a (fun _ a=>?_) (fun _ a=>?_)
 ·refine qc<|O J<|qa J<|qa J<|qs ?_
  obtain rfl:=qd a
  exact finD (.inr J) J J (Ye (.cons (.nil _) (.cons (.refl _) .nil)))
 refine ql<|qc<|G _ J<|O J ?_
 obtain ⟨k,l,a⟩:=q7 a
 refine Q4 (qoe b c k l) J<|G _ J<|G _ J<|qa J<|qa J<|qs ?_
 obtain rfl:=qd a
 exact Q5 _ J
end Go.Proofs.YtbknppciefodiaaGreat
