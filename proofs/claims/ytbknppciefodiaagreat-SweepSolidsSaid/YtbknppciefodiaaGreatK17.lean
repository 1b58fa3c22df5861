/- W_Allc -/
import Derived.Test.YtbknppciefodiaaGreatK16
namespace Go.Proofs.YtbknppciefodiaaGreat
open Go Go.Am Go.Sh
set_option maxHeartbeats 8000000
set_option maxRecDepth 100000
theorem qo7 (a : Qb) (r : Bool) (c : qbe a = some r) : Pure Tryz.prog tab 74 [.agg [q7 a.X,q7 a.Y,q7 a.Z]] (.bool r):=by
 unfold qbe at c;refine Qo Tryz.func74 J qh qh J<|qc<|Qq _ _ J<|qb J<|qu<|O _ J<|O _ J<|O _ J<|O _ J<|O _ J<|O _ J<|q1r (r:=min (min a.X a.Y) a.Z) J J (by simp only [q1o];rfl)<|O _ J<|q8 c fun o b c=>?_;refine Qe 10 (fun A st=>∃ d f g h j k l m n,st = A [(20,Q1 o),(19,n),(18,m),(17,l),(16,k),(15,j),(14,h),(13,g),(12,f),(11,d)]) ?_ ?_
 ·refine Qf J J b (fun b=>?_) (fun b=>?_)
  ·refine O _ J<|O _ J<|O _ J<|O _ J<|O _ J<|O _ J<|Uy (r:=max (max a.X a.Y) a.Z) J J (by simp only [Ux];rfl)<|O _ J<|O _ J<|qa ?_;cases b;exact ⟨_,_,_,_,_,_,_,_,_,J⟩
  refine qd J<|qd J<|qd J<|qd J<|qd J<|qd J<|qd J<|qd J<|O _ J<|qa ?_;cases b;exact ⟨_,_,_,_,_,_,_,_,_,J⟩
 rintro _ ⟨d,f,g,h,j,k,l,m,n,rfl⟩;refine qb J<|qs ?_;cases c;exact Q5 _ J
theorem qy7 (c : List qg) (g : qg→Option Bool) (p1F : FuncId) (p1C : List DV) (p1Ok : ∀ (b : qg) (r : Bool),g b = some r→Pure Tryz.prog tab p1F ([.agg [q7 b.Lo.X,q7 b.Lo.Y,q7 b.Lo.Z,q7 b.Hi.X,q7 b.Hi.Y,q7 b.Hi.Z]] ++ p1C) (.bool r)) (r : Int) (f : qdk c g = some r) : Pure Tryz.prog tab 119 [.sl 6 (c.map Qa),.fn p1F p1C] (q7 r):=by
 unfold qdk at f;refine Qo Tryz.func119 J qh qh J<|qc<|qb J<|qa<|qe<|qc<|U J<|Qh J<|U J<|qa<|q8 f fun j l f=>?_;refine Qi (fun h=>.inl h = j) (fun h=>⟨[],[],0⟩) qf ?_ ?_
 ·refine Qd (q4e c g) (fun k=>⟨[(0,.d (.sl 6 (c.map Qa))),(1,.d (.fn p1F p1C)),(7,q9 (c.length : Int)),(8,q9 k)],[],0⟩) 0 j l (wkA [] [] []) ?_;intro k q a;unfold q4e at a;refine qc<|O _ J<|qa<|qe ?_;refine qn J a (fun _ a=>?_) (fun _ a=>?_)
  ·refine qk<|qe<|Q3<|qc<|U J<|qb J<|qu<|U J<|U J<|U J<|q8 a fun m n a=>Q9 n J<|O _ J<|q8 a fun o p a=>Yi _ (p1Ok m o p) J J J (.inl J)<|qa ?_;refine qn J a (fun _ a=>?_) (fun _ a=>?_)
   ·refine qc<|U J<|qb J<|qs ?_;refine ⟨_,qm a,fun hm=>?_⟩;subst hm;cases f;exact Q5 _ J
   refine qk<|Qg<|Qn<|qw<|O _ J<|U J<|qv<|⟨_,qm a,wkA [] [] []⟩
  refine Q8 ?_;refine ⟨_,qm a,fun hm=>?_⟩;subst hm;exact ⟨_,J,wkA [] [] []⟩
 intro h hb;subst hb;refine qc<|qb J<|qs ?_;cases f;exact Q5 _ J
theorem qy0 (c : List qg) (d : qg→Option Bool) (p1F : FuncId) (p1C : List DV) (p1Ok : ∀ (a : qg) (r : Bool),d a = some r→Pure Tryz.prog tab p1F ([.agg [q7 a.Lo.X,q7 a.Lo.Y,q7 a.Lo.Z,q7 a.Hi.X,q7 a.Hi.Y,q7 a.Hi.Z]] ++ p1C) (.bool r)) (r : Bool) (b : q9v c d = some r) : Pure Tryz.prog tab 94 [.sl 6 (c.map Qa),.fn p1F p1C] (.bool r):=by
 unfold q9v at b;refine Qo Tryz.func94 J qh qh J<|qc<|qb J<|qu<|U J<|U J<|q8 b fun f g b=>Q4 (qy7 c d p1F p1C p1Ok f g) J<|O _ J<|qb J<|qs ?_;cases b;exact Q5 _ J
theorem q112 (a : qg) (r : Bool) (b : q35 a = some r) : Pure Tryz.prog tab 95 [.agg [q7 a.Lo.X,q7 a.Lo.Y,q7 a.Lo.Z,q7 a.Hi.X,q7 a.Hi.Y,q7 a.Hi.Z]] (.bool r):=by
 unfold q35 at b;refine Qo Tryz.func95 J qh qh J<|qc<|Qq _ _ J<|qb J<|qu<|O _ J<|q8 b fun c d b=>Q4 (qnr a c d) J<|O _ J<|qb J<|qs ?_;cases b;exact Q5 _ J
theorem q114 (b : List qg) (r : List qg × Int) (a : qau b = some r) : Pure Tryz.prog tab 64 [.sl 6 (b.map Qa)] (.tup [.sl 6 (r.1.map Qa),q7 r.2]):=by
 unfold qau at a;refine Qo Tryz.func64 J qh qh J<|qc<|qb J<|qb J<|qa<|qe<|qc<|U J<|Qh J<|O _ J<|qa ?_;refine qn J a (fun _ a=>?_) (fun _ a=>?_)
 ·refine qc<|qb J<|qb J<|qs ?_;cases a;exact finD (.inr J) J J (Kn (.cons (.nil _) (.cons (.refl _) .nil)))
 refine qk<|qe<|qc<|U J<|q8 a fun d f a=>Q4 (qy0 b (fun c=>q35 c) 95 [] (fun c r hr=>q112 c r hr) d f) J<|qa ?_;refine qn J a (fun _ a=>?_) (fun _ a=>?_)
 ·refine qc<|qb J<|qb J<|qs ?_;cases a;exact finD (.inr J) J J (Kn (.cons (.nil _) (.cons (.refl _) .nil)))
 refine qk<|qc<|O _ J<|U J<|qge (es:=1) ([b].map Qp) J J J J J<|q8 a fun g h a=>Q4 (qns b g h) J<|O _ J<|O _ J<|qb J<|qb J<|qs ?_;cases a;exact Q5 _ J
theorem q126 (a : K7) (j : List qg) (r : List qg × Int) (c : qbb a j = some r) : Pure Tryz.prog tab 45 [.agg [q7 a.From.X,q7 a.From.Y,q7 a.From.Z,q7 a.To.X,q7 a.To.Y,q7 a.To.Z,q7 a.Depth],.sl 6 (j.map Qa)] (.tup [.sl 6 (r.1.map Qa),q7 r.2]):=by
 unfold qbb at c;refine Qo Tryz.func45 J qh qh J<|qc<|Qq _ _ J<|qb J<|qb J<|qa<|qe<|Qj [Qv 2,Qv 1,(some [],[2]),(some [],[1]),qt 0,q0,qt 0,q0] qh<|O _ J<|O _ J<|O _ J<|O _ J<|Qz J J<|Qz J J<|Qm 1 _ J<|Qm 2 _ J<|qu<|O _ J<|O _ J<|O _ J<|O _ J<|q1r (r:=min a.From.X a.To.X) J J (by simp only [q1o];rfl)<|O _ J<|O _ J<|O _ J<|O _ J<|q1r (r:=min a.From.Y a.To.Y) J J (by simp only [q1o];rfl)<|O _ J<|O _ J<|O _ J<|O _ J<|q1r (r:=min a.From.Z a.To.Z) J J (by simp only [q1o];rfl)<|O _ J<|Qz J J<|Qm 3 _ J<|qu<|O _ J<|O _ J<|O _ J<|O _ J ?_;refine Uy (r:=max a.From.X a.To.X) J J (by simp only [Ux];rfl)<|O _ J<|O _ J<|O _ J<|O _ J<|Uy (r:=max a.From.Y a.To.Y) J J (by simp only [Ux];rfl)<|O _ J<|O _ J<|O _ J<|O _ J<|Uy (r:=max a.From.Z a.To.Z) J J (by simp only [Ux];rfl)<|O _ J<|Qz J J<|Qm 4 _ J<|qu<|qb J<|qa<|qe<|qc<|U J<|Qh J<|U J<|qa<|q8 c fun l s c=>?_;refine Qi (fun f=>.inl f = l) (fun f=>⟨[(10,.hs 0 6 0 f.length)],[(0,.dat 6 (f.map Qa))],1⟩) qf ?_ ?_
 ·refine Qd (q4z j a) (fun k=>⟨[(8,.ref 0 3 0 0),(9,.ref 1 3 0 0),(10,.hs 2 6 0 k.2.length),(50,.d (.sl 6 (j.map Qa))),(51,q9 (j.length : Int)),(52,q9 k.1)],[(0,.dat 3 [[q7 (min a.From.X a.To.X),q7 (min a.From.Y a.To.Y),q7 (min a.From.Z a.To.Z)]]),(1,.dat 3 [[q7 (max a.From.X a.To.X),q7 (max a.From.Y a.To.Y),q7 (max a.From.Z a.To.Z)]]),(2,.dat 6 (k.2.map Qa))],3⟩) (0,[]) l s (wkA [(0,3),(1,4)] [] [2]) ?_;intro k ac b;unfold q4z at b;refine qc<|O _ J<|qa<|qe ?_;refine qn J b (fun _ b=>?_) (fun _ b=>?_)
  ·refine qk<|qe<|Q3<|qc<|q8 b fun h t b=>Q9 t J<|O _ J<|Qz J J<|Qm 3 _ J<|qu<|O _ J<|O _ J<|O _ J<|O _ J<|O _ J<|O _ J<|O _ J<|O _ J<|O _ J<|O _ J<|O _ J<|O _ J<|O _ J<|O _ J<|O _ J<|O _ J<|O _ J<|O _ J<|O _ J<|O _ J<|O _ J<|O _ J<|O _ J<|O _ J<|O _ J<|O _ J<|O _ J<|O _ J<|O _ J<|O _ J ?_;refine O _ J<|O _ J<|O _ J<|O _ J<|O _ J<|O _ J<|O _ J<|O _ J<|O _ J<|Qz J J<|Qm 4 _ J<|qa<|qe<|qc<|O _ J<|O _ J<|q8 b fun u v b=>Q4 (qo7 ({X:=w64 (h.Lo.X + (min a.From.X a.To.X)),Y:=w64 (h.Lo.Y + (min a.From.Y a.To.Y)),Z:=w64 (h.Lo.Z + (min a.From.Z a.To.Z))} : Qb) u v) J<|O _ J<|q8 b fun w g b=>?_;refine Qe 6 (fun A st=>∃ m n o p q,st = A [(104,Q1 w),(103,q),(102,p),(101,o),(100,n),(99,m)]) ?_ ?_
   ·refine Qf J J g (fun g=>?_) (fun g=>?_)
    ·refine qd J<|qd J<|qd J<|qd J<|O _ J<|qa ?_;cases g;exact ⟨_,_,_,_,_,J⟩
    refine O _ J<|O _ J<|q8 g fun x y g=>Q4 (qo7 ({X:=w64 (h.Hi.X + (max a.From.X a.To.X)),Y:=w64 (h.Hi.Y + (max a.From.Y a.To.Y)),Z:=w64 (h.Hi.Z + (max a.From.Z a.To.Z))} : Qb) x y) J<|O _ J<|O _ J<|qa ?_;cases g;exact ⟨_,_,_,_,_,J⟩
   rintro _ ⟨m,n,o,p,q,rfl⟩;refine qa ?_;refine qn J b (fun _ b=>?_) (fun _ b=>?_)
   ·refine qc<|qb J<|qb J<|qs ?_;refine ⟨_,qm b,fun hm=>?_⟩;subst hm;cases c;exact finD (.inr J) J J (Kn (.cons (.nil _) (.cons (.refl _) .nil)))
   refine qk<|qw<|U J<|O _ J<|Qq _ _ J<|q8 b fun ad z b=>Kr _ z J J J J J J J (Kp J J) J J J J<|qb J<|qv<|Qn<|qw<|O _ J<|U J<|qv<|⟨_,qm b,wkA [(0,0),(1,1),(2,6)] [] []⟩
  refine Q8 ?_;refine ⟨_,qm b,fun hm=>?_⟩;subst hm;exact ⟨_,J,wkA [(0,2)] [] []⟩
 intro f hb;subst hb;refine qe ?_;refine Yb (st':=⟨[(10,.d (.sl 6 (f.map Qa)))],[],0⟩) (wkA [] [0] []) ?_ qf;refine qw<|U J<|q8 c fun aa ab c=>Q4 (q114 f aa ab) J<|O _ J<|O _ J<|qb J<|qb J<|qs ?_;cases c;exact Q5 _ J
theorem qo6 (a : K5) (f : List (List qg)) (r : List (List qg) × Int) (c : q83 a f = some r) : Pure Tryz.prog tab 11 [.agg [.sl 7 (a.Lines.map Kc),.sl 5 (a.Marks.map Kf),.int .u8 a.End.Frame.Turn,q7 a.End.Frame.At.X,q7 a.End.Frame.At.Y,q7 a.End.Frame.At.Z,q7 a.End.Drawn],.sl 1 (f.map Qp)] (.tup [.sl 1 (r.1.map Qp),q7 r.2]):=by
 unfold q83 at c;refine Qo Tryz.func11 J qh qh J<|qc<|Qq _ _ J<|Qz J J<|Qz J J<|qa<|qe<|qc<|O _ J<|U J<|q8 c fun o p c=>Q4 (q128 a f o p) J<|qb J<|qu<|U J<|O _ J<|qa ?_;refine qn J c (fun _ c=>?_) (fun _ c=>?_)
 ·refine qc<|U J<|Qm 1 _ J<|Qm 2 _ J<|qs ?_;cases c;exact finD (.inr J) J J (Kn (.cons (.nil _) (.cons (.refl _) .nil)))
 refine qk<|qc<|Qz J J<|qa<|qe<|qc<|O _ J<|U J<|q8 c fun q s c=>?_;refine q3p [.d (.agg [.sl 7 (a.Lines.map Kc),.sl 5 (a.Marks.map Kf),.int .u8 a.End.Frame.Turn,q7 a.End.Frame.At.X,q7 a.End.Frame.At.Y,q7 a.End.Frame.At.Z,q7 a.End.Drawn]),.d (.sl 1 (f.map Qp))] (fun m=>m = q) (fun (m : Unit)=>⟨[(4,.ref 0 1 0 0),(5,.ref 1 1 0 0),(7,.ref 2 1 0 0),(18,.fn 67 [.ref 3 7 0 0,.ref 4 1 0 0])],[(0,.dat 1 [[.nilsl]]),(1,.dat 1 [[q7 0]]),(2,.dat 1 [[.nilsl]]),(3,.dat 7 [[.sl 7 (a.Lines.map Kc),.sl 5 (a.Marks.map Kf),.int .u8 a.End.Frame.Turn,q7 a.End.Frame.At.X,q7 a.End.Frame.At.Y,q7 a.End.Frame.At.Z,q7 a.End.Drawn]]),(4,.dat 1 [[.sl 1 (f.map Qp)]])],5⟩) J J Tryz.func40 J qh qh J ?_ ?_
 ·refine qc<|Qq _ _ J<|Qq _ _ J<|qb J<|qu<|O _ J<|qb J<|qs ?_;refine ⟨.inr J,_,J,?_⟩;cases s;exact ⟨_,J,wkA [(0,1),(1,2),(2,3),(3,4),(4,5)] [] []⟩
 intro m hb;subst hb;refine qa<|Q3<|q8 c fun t l c=>?_;refine q6q (fun h=>.inl h = t) (fun h=>⟨[(4,.ref 0 1 0 0),(5,.ref 1 1 0 0),(7,.ref 2 1 0 0)],[(0,.dat 1 [[.nilsl]]),(1,.dat 1 [[q7 0]]),(2,.cel 1 [[.hs 3 1 0 h.length]]),(3,.dat 1 (h.map Qp))],4⟩) ?_ ?_
 ·refine Yb (st':=⟨[(4,.ref 0 1 0 0),(5,.ref 1 1 0 0),(7,.ref 2 1 0 0),(18,.fn 67 [.ref 3 7 0 0,.ref 4 1 0 0])],[(0,.dat 1 [[.nilsl]]),(1,.dat 1 [[q7 0]]),(2,.dat 1 [[.nilsl]]),(3,.dat 7 [[.sl 7 (a.Lines.map Kc),.sl 5 (a.Marks.map Kf),.int .u8 a.End.Frame.Turn,q7 a.End.Frame.At.X,q7 a.End.Frame.At.Y,q7 a.End.Frame.At.Z,q7 a.End.Drawn]]),(4,.dat 1 [[.sl 1 (f.map Qp)]])],5⟩) (wkA [(0,0),(1,1),(2,2),(3,3),(4,4)] [] []) ?_ qf;refine q6r _ (.inl J) Tryz.func67 J qh qh J ?_;intro A90 B91 hA90 hB91;refine qc<|O _ J<|O _ J<|Qh J<|U J<|qa<|q8 l fun u v l=>Q3<|Qd (q84 a f) (fun j=>⟨[(0,.yld 5),(2,.ref 4 1 0 0),(7,.d (.sl 7 (a.Lines.map Kc))),(8,q9 (a.Lines.length : Int)),(9,q9 j.1)],[(0,.dat 1 [[.nilsl]]),(1,.dat 1 [[q7 0]]),(2,.cel 1 [[.hs 6 1 0 j.2.length]]),(3,.dat 7 [[.sl 7 (a.Lines.map Kc),.sl 5 (a.Marks.map Kf),.int .u8 a.End.Frame.Turn,q7 a.End.Frame.At.X,q7 a.End.Frame.At.Y,q7 a.End.Frame.At.Z,q7 a.End.Drawn]]),(4,.dat 1 [[.sl 1 (f.map Qp)]]),(5,.loop [(4,.ref 0 1 0 0),(5,.ref 1 1 0 0),(7,.ref 2 1 0 0),(18,.fn 67 [.ref 3 7 0 0,.ref 4 1 0 0])] [19,20] A90 B91 .ready none),(6,.dat 1 (j.2.map Qp))],7⟩) (0,[]) u v (wkA [] [] [6]) ?_;intro j ad b;unfold q84 at b;refine qc<|O _ J<|qa<|qe ?_;refine qn J b (fun _ b=>?_) (fun _ b=>?_)
  ·refine qk<|qe<|Q3<|qc<|q8 b fun n w b=>Q9 w J<|O _ J<|Qz J J<|Qm 7 _ J<|qa<|qe<|Qj [q0,(none,[0]),q0,q0,q0,q0,q0,q0,q0,q0,qt 4,qt 7,q0,qt 4,qt 7,q0] qh<|U J<|O _ J<|O _ J<|O _ J<|O _ J<|O _ J<|Qh J<|O _ J<|q1r (r:=min n.Depth (w64 ((f.length : Int) - 1))) J J (by simp only [q1o];rfl)<|q8 b fun x y b=>Q9 y J<|O _ J<|q8 b fun z aa b=>Q4 (q126 n x z aa) J<|O _ J<|O _ J<|qtm J<|q8 b fun ab g b=>?_;refine q5q (fun k=>.inl k = ab) (fun (k : List (List qg))=>⟨[(0,.yld 5),(2,.ref 4 1 0 0),(7,.d (.sl 7 (a.Lines.map Kc))),(8,q9 (a.Lines.length : Int)),(9,q9 j.1),(27,Q1 true)],[(0,.dat 1 [[.nilsl]]),(1,.dat 1 [[q7 0]]),(2,.cel 1 [[.hs 6 1 0 k.length]]),(3,.dat 7 [[.sl 7 (a.Lines.map Kc),.sl 5 (a.Marks.map Kf),.int .u8 a.End.Frame.Turn,q7 a.End.Frame.At.X,q7 a.End.Frame.At.Y,q7 a.End.Frame.At.Z,q7 a.End.Drawn]]),(4,.dat 1 [[.sl 1 (f.map Qp)]]),(5,.loop [(4,.ref 0 1 0 0),(5,.ref 1 1 0 0),(7,.ref 2 1 0 0),(18,.fn 67 [.ref 3 7 0 0,.ref 4 1 0 0])] [19,20] A90 B91 .ready none),(6,.dat 1 (k.map Qp))],7⟩) hA90 hB91 J J J J J J ?_ ?_
   ·refine qc<|qb J<|qa<|qw<|qb J<|qv ?_;refine ⟨J,_,J,?_⟩;refine Q3<|qe<|qc<|U J<|O _ J<|qa ?_;refine qn J g (fun _ g=>?_) (fun _ g=>?_)
    ·refine qc<|U J<|Qm 0 _ J<|Qm 1 _ J<|qs ?_;cases g;refine ⟨_,J,?_⟩;refine qa<|O _ J<|qa<|Zf J<|Uz ?_;refine ⟨_,qm b,fun hm=>?_⟩;subst hm;refine ⟨.inr J,_,J,_,_,.ret,J,Q2,?_⟩;refine qbt ?_;cases l;cases c;exact finD (.inr J) J J (Kn (.cons (.nil _) (.cons (.refl _) .nil)))
    refine qk<|qw<|O _ J<|U J<|Qq _ _ J<|q8 g fun ae ac g=>Kr _ ac J J J J J J J (Kp J J) J J J J<|Qm 2 _ J<|qv<|Qn<|Qg ?_;refine ⟨_,J,?_⟩;cases g;exact ⟨_,J,wkA [(6,9)] [] []⟩
   intro k hb;subst hb;refine qa<|O _ J<|qa<|Ze J<|qk<|Qg<|Qn<|qw<|O _ J<|U J<|qv<|⟨_,qm b,wkA [(6,6)] [] []⟩
  refine Q8 ?_;refine ⟨_,qm b,fun hm=>?_⟩;subst hm;refine ⟨.inl J,_,J,_,_,.nor,J,Q2,?_⟩;refine q51<|Qg ?_;cases l;exact ⟨_,J,wkA [(0,0),(1,1),(2,2),(3,6)] [] []⟩
 intro h st hb hw;subst hb;refine Yb hw ?_ qf;refine qc<|O _ J<|Qm 0 _ J<|Qm 1 _ J<|qs ?_;cases c;exact finD (.inr J) J (q25 (Yy (Zm J J) (Yy J J))) (.refl _)
theorem qm6 (c : Ju) (r : Int) (a : q5x c = some r) : Pure Tryz.prog tab 36 [.agg [.int .u8 c.Turn,q7 c.At.X,q7 c.At.Y,q7 c.At.Z]] (q7 r):=by
 unfold q5x at a;refine Qo Tryz.func36 J qh qh J<|qc<|Qq _ _ J<|qb J<|qa<|qe<|qc<|O _ J<|O _ J<|O _ J<|q8 a fun k b a=>?_;refine Qe 6 (fun A st=>∃ d f g h j,st = A [(11,Q1 k),(10,j),(9,h),(8,g),(7,f),(6,d)]) ?_ ?_
 ·refine Qf J J b (fun b=>?_) (fun b=>?_)
  ·refine qd J<|qd J<|qd J<|qd J<|O _ J<|qa ?_;cases b;exact ⟨_,_,_,_,_,J⟩
  refine O _ J<|O _ J<|q8 b fun l m b=>Q4 (q41 c.At (-1000000) l m) J<|O _ J<|O _ J<|qa ?_;cases b;exact ⟨_,_,_,_,_,J⟩
 rintro _ ⟨d,f,g,h,j,rfl⟩;refine qa ?_;refine qn J a (fun _ a=>?_) (fun _ a=>?_)
 ·refine qc<|qb J<|qs ?_;cases a;exact Q5 _ J
 refine qk<|qc<|qb J<|qs ?_;cases a;exact Q5 _ J
theorem qm7 (a : K5) (r : Int) (c : q5y a = some r) : Pure Tryz.prog tab 41 [.agg [.sl 7 (a.Lines.map Kc),.sl 5 (a.Marks.map Kf),.int .u8 a.End.Frame.Turn,q7 a.End.Frame.At.X,q7 a.End.Frame.At.Y,q7 a.End.Frame.At.Z,q7 a.End.Drawn]] (q7 r):=by
 unfold q5y at c;refine Qo Tryz.func41 J qh qh J<|qc<|Qq _ _ J<|qb J<|qa<|qe<|qc<|O _ J<|O _ J<|Qh J<|O _ J<|q8 c fun c1 l c=>?_;refine Qe 6 (fun A st=>∃ w x y z j7,st = A [(17,Q1 c1),(16,j7),(15,z),(14,y),(13,x),(12,w)]) ?_ ?_
 ·refine Qf J J l (fun l=>?_) (fun l=>?_)
  ·refine qd J<|qd J<|qd J<|qd J<|O _ J<|qa ?_;cases l;exact ⟨_,_,_,_,_,J⟩
  refine O _ J<|O _ J<|Qh J<|O _ J<|O _ J<|qa ?_;cases l;exact ⟨_,_,_,_,_,J⟩
 rintro _ ⟨w,x,y,z,j7,rfl⟩;refine q8 c fun av h c=>?_;refine Qe 7 (fun A st=>∃ ab ac ad ae af ag,st = A [(24,Q1 av),(23,ag),(22,af),(21,ae),(20,ad),(19,ac),(18,ab)]) ?_ ?_
 ·refine Qf J J h (fun h=>?_) (fun h=>?_)
  ·refine qd J<|qd J<|qd J<|qd J<|qd J<|O _ J<|qa ?_;cases h;exact ⟨_,_,_,_,_,_,J⟩
  refine O _ J<|O _ J<|O _ J<|q8 h fun aw ax h=>Q4 (qm6 a.End.Frame aw ax) J<|O _ J<|O _ J<|qa ?_;cases h;exact ⟨_,_,_,_,_,_,J⟩
 rintro _ ⟨ab,ac,ad,ae,af,ag,rfl⟩;refine qa ?_;refine qn J c (fun _ c=>?_) (fun _ c=>?_)
 ·refine qc<|qb J<|qs ?_;cases c;exact Q5 _ J
 refine qk<|qe<|qc<|qb J<|qa<|q8 c fun ah ay c=>?_;refine Qi (fun u=>.inl u = ah) (fun u=>⟨[(1,.ref 0 7 0 0)],[(0,.dat 7 [[.sl 7 (a.Lines.map Kc),.sl 5 (a.Marks.map Kf),.int .u8 a.End.Frame.Turn,q7 a.End.Frame.At.X,q7 a.End.Frame.At.Y,q7 a.End.Frame.At.Z,q7 a.End.Drawn]])],1⟩) qf ?_ ?_
 ·refine Qd (q5z a) (fun m=>⟨[(1,.ref 0 7 0 0),(3,q9 m)],[(0,.dat 7 [[.sl 7 (a.Lines.map Kc),.sl 5 (a.Marks.map Kf),.int .u8 a.End.Frame.Turn,q7 a.End.Frame.At.X,q7 a.End.Frame.At.Y,q7 a.End.Frame.At.Z,q7 a.End.Drawn]])],1⟩) 0 ah ay (wkA [(0,0)] [] []) ?_;intro m bp b;unfold q5z at b;refine qe<|qc<|U J<|O _ J<|O _ J<|Qh J<|O _ J<|qa ?_;refine qn J b (fun _ b=>?_) (fun _ b=>?_)
  ·refine qk<|qe<|Q3<|qe<|Qj [Qv 2,Qv 1,(some [],[2]),(some [],[1]),q0,q0,q0,q0,qt 0,q0,q0,q0,q0,q0,qt 0,q0] qh<|O _ J<|O _ J<|U J<|q8 b fun f az b=>Q9 az J<|O _ J<|O _ J<|O _ J<|O _ J<|U J<|q8 b fun g ba b=>Q9 ba J<|O _ J<|O _ J<|Qz J J<|Qz J J<|Qm 1 _ J<|Qm 2 _ J<|qu<|qb J<|qa<|qe<|qc<|O _ J<|O _ J<|O _ J<|O _ J<|O _ J<|qa<|q8 b fun bb n b=>?_;refine Ys (fun q=>q = bb) (fun q=>⟨[(1,.ref 0 7 0 0),(3,q9 m),(4,.ref 1 3 0 0),(5,.ref 2 3 0 0),(6,q9 q)],[(0,.dat 7 [[.sl 7 (a.Lines.map Kc),.sl 5 (a.Marks.map Kf),.int .u8 a.End.Frame.Turn,q7 a.End.Frame.At.X,q7 a.End.Frame.At.Y,q7 a.End.Frame.At.Z,q7 a.End.Drawn]]),(1,.dat 3 [[q7 f.From.X,q7 f.From.Y,q7 f.From.Z]]),(2,.dat 3 [[q7 g.To.X,q7 g.To.Y,q7 g.To.Z]])],3⟩) qf ?_ ?_
   ·refine qn J n (fun _ n=>?_) (fun _ n=>?_)
    ·refine qw<|U J<|O _ J<|qb J<|qv ?_;cases n;exact ⟨_,J,wkA [(0,0),(1,1),(2,2)] [] []⟩
    refine qk<|Qg ?_;cases n;exact ⟨_,J,wkA [(0,0),(1,1),(2,2)] [] []⟩
   intro q hb;subst hb;refine qe<|qc<|O _ J<|O _ J<|O _ J<|O _ J<|O _ J<|qa<|q8 b fun bc o b=>?_;refine Ys (fun s=>s = bc) (fun s=>⟨[(1,.ref 0 7 0 0),(3,q9 m),(4,.ref 1 3 0 0),(5,.ref 2 3 0 0),(6,q9 s)],[(0,.dat 7 [[.sl 7 (a.Lines.map Kc),.sl 5 (a.Marks.map Kf),.int .u8 a.End.Frame.Turn,q7 a.End.Frame.At.X,q7 a.End.Frame.At.Y,q7 a.End.Frame.At.Z,q7 a.End.Drawn]]),(1,.dat 3 [[q7 f.From.X,q7 f.From.Y,q7 f.From.Z]]),(2,.dat 3 [[q7 g.To.X,q7 g.To.Y,q7 g.To.Z]])],3⟩) qf ?_ ?_
   ·refine qn J o (fun _ o=>?_) (fun _ o=>?_)
    ·refine qw<|U J<|O _ J<|qb J<|qv ?_;cases o;exact ⟨_,J,wkA [(0,0),(1,1),(2,2)] [] []⟩
    refine qk<|Qg ?_;cases o;exact ⟨_,J,wkA [(0,0),(1,1),(2,2)] [] []⟩
   intro s hb;subst hb;refine qe<|qc<|O _ J<|O _ J<|O _ J<|O _ J<|O _ J<|qa<|q8 b fun bd p b=>?_;refine Ys (fun t=>t = bd) (fun t=>⟨[(1,.ref 0 7 0 0),(3,q9 m),(4,.ref 1 3 0 0),(5,.ref 2 3 0 0),(6,q9 t)],[(0,.dat 7 [[.sl 7 (a.Lines.map Kc),.sl 5 (a.Marks.map Kf),.int .u8 a.End.Frame.Turn,q7 a.End.Frame.At.X,q7 a.End.Frame.At.Y,q7 a.End.Frame.At.Z,q7 a.End.Drawn]]),(1,.dat 3 [[q7 f.From.X,q7 f.From.Y,q7 f.From.Z]]),(2,.dat 3 [[q7 g.To.X,q7 g.To.Y,q7 g.To.Z]])],3⟩) qf ?_ ?_
   ·refine qn J p (fun _ p=>?_) (fun _ p=>?_)
    ·refine qw<|U J<|O _ J<|qb J<|qv ?_;cases p;exact ⟨_,J,wkA [(0,0),(1,1),(2,2)] [] []⟩
    refine qk<|Qg ?_;cases p;exact ⟨_,J,wkA [(0,0),(1,1),(2,2)] [] []⟩
   intro t hb;subst hb;refine qc<|U J<|O _ J<|q8 b fun be j b=>?_;refine Qe 5 (fun A st=>∃ ai aj ak al,st = A [(71,Q1 be),(70,al),(69,ak),(68,aj),(67,ai)]) ?_ ?_
   ·refine Qf J J j (fun j=>?_) (fun j=>?_)
    ·refine qd J<|qd J<|qd J<|O _ J<|qa ?_;cases j;exact ⟨_,_,_,_,J⟩
    refine O _ J<|q8 j fun bf bg j=>Q4 (q41 f.From (-1000000) bf bg) J<|O _ J<|O _ J<|qa ?_;cases j;exact ⟨_,_,_,_,J⟩
   rintro _ ⟨ai,aj,ak,al,rfl⟩;refine q8 b fun bh k b=>?_;refine Qe 5 (fun A st=>∃ am an ao ap,st = A [(76,Q1 bh),(75,ap),(74,ao),(73,an),(72,am)]) ?_ ?_
   ·refine Qf J J k (fun k=>?_) (fun k=>?_)
    ·refine qd J<|qd J<|qd J<|O _ J<|qa ?_;cases k;exact ⟨_,_,_,_,J⟩
    refine O _ J<|q8 k fun bi bj k=>Q4 (q41 g.To (-1000000) bi bj) J<|O _ J<|O _ J<|qa ?_;cases k;exact ⟨_,_,_,_,J⟩
   rintro _ ⟨am,an,ao,ap,rfl⟩;refine qa ?_;refine qn J b (fun _ b=>?_) (fun _ b=>?_)
   ·refine qc<|qb J<|qs ?_;refine ⟨_,qm b,fun hm=>?_⟩;subst hm;cases c;exact Q5 _ J
   refine qk<|Qg<|Qn<|qw<|U J<|O _ J<|qb J<|qv<|⟨_,qm b,wkA [(0,0)] [] []⟩
  refine Q8 ?_;refine ⟨_,qm b,fun hm=>?_⟩;subst hm;exact ⟨_,J,wkA [(0,0)] [] []⟩
 intro u hb;subst hb;refine qe<|qc<|qb J<|qa<|q8 c fun aq bk c=>?_;refine Qi (fun v=>.inl v = aq) (fun v=>⟨[],[],0⟩) qf ?_ ?_
 ·refine Qd (q60 a) (fun ar=>⟨[(1,.ref 0 7 0 0),(7,q9 ar)],[(0,.dat 7 [[.sl 7 (a.Lines.map Kc),.sl 5 (a.Marks.map Kf),.int .u8 a.End.Frame.Turn,q7 a.End.Frame.At.X,q7 a.End.Frame.At.Y,q7 a.End.Frame.At.Z,q7 a.End.Drawn]])],1⟩) 0 aq bk (wkA [(0,0)] [] []) ?_;intro ar bq d;unfold q60 at d;refine qe<|qc<|U J<|O _ J<|O _ J<|Qh J<|O _ J<|qa ?_;refine qn J d (fun _ d=>?_) (fun _ d=>?_)
  ·refine qk<|qe<|Q3<|qc<|O _ J<|O _ J<|U J<|q8 d fun bl bm d=>Q9 bm J<|O _ J<|O _ J<|q8 d fun bn bo d=>Q4 (qm6 bl.Frame bn bo) J<|O _ J<|qa ?_;refine qn J d (fun _ d=>?_) (fun _ d=>?_)
   ·refine qc<|qb J<|qs ?_;refine ⟨_,qm d,fun hm=>?_⟩;subst hm;cases c;exact Q5 _ J
   refine qk<|Qg<|Qn<|qw<|U J<|O _ J<|qb J<|qv<|⟨_,qm d,wkA [(0,0)] [] []⟩
  refine Q8 ?_;refine ⟨_,qm d,fun hm=>?_⟩;subst hm;exact ⟨_,J,wkA [] [] []⟩
 intro v hb;subst hb;refine qc<|qb J<|qs ?_;cases c;exact Q5 _ J
theorem qgt (b : qg) (r : Bool) (a : q46 b = some r) : Pure Tryz.prog tab 56 [.agg [q7 b.Lo.X,q7 b.Lo.Y,q7 b.Lo.Z,q7 b.Hi.X,q7 b.Hi.Y,q7 b.Hi.Z]] (.bool r):=by
 unfold q46 at a;refine Qo Tryz.func56 J qh qh J<|qc<|Qq _ _ J<|qb J<|qu<|O _ J<|O _ J<|q8 a fun r1 h2 a=>Q4 (q41 b.Lo (-1000000) r1 h2) J<|q8 a fun c5 c a=>?_;refine Qe 5 (fun A st=>∃ h j k l,st = A [(11,Q1 c5),(10,l),(9,k),(8,j),(7,h)]) ?_ ?_
 ·refine Qf J J c (fun c=>?_) (fun c=>?_)
  ·refine O _ J<|O _ J<|q8 c fun ao ap c=>Q4 (q41 b.Hi (-1000000) ao ap) J<|O _ J<|qa ?_;cases c;exact ⟨_,_,_,_,J⟩
  refine qd J<|qd J<|qd J<|O _ J<|qa ?_;cases c;exact ⟨_,_,_,_,J⟩
 rintro _ ⟨h,j,k,l,rfl⟩;refine qb J<|qu<|U J<|q8 a fun aq d a=>?_;refine Qe 9 (fun A st=>∃ m n o p q s t u,st = A [(21,Q1 aq),(20,u),(19,t),(18,s),(17,q),(16,p),(15,o),(14,n),(13,m)]) ?_ ?_
 ·refine Qf J J d (fun d=>?_) (fun d=>?_)
  ·refine O _ J<|O _ J<|O _ J<|O _ J<|O _ J<|O _ J<|O _ J<|O _ J<|qa ?_;cases d;exact ⟨_,_,_,_,_,_,_,_,J⟩
  refine qd J<|qd J<|qd J<|qd J<|qd J<|qd J<|qd J<|O _ J<|qa ?_;cases d;exact ⟨_,_,_,_,_,_,_,_,J⟩
 rintro _ ⟨m,n,o,p,q,s,t,u,rfl⟩;refine q8 a fun ar f a=>?_;refine Qe 9 (fun A st=>∃ v w x y z aa ab ac,st = A [(30,Q1 ar),(29,ac),(28,ab),(27,aa),(26,z),(25,y),(24,x),(23,w),(22,v)]) ?_ ?_
 ·refine Qf J J f (fun f=>?_) (fun f=>?_)
  ·refine O _ J<|O _ J<|O _ J<|O _ J<|O _ J<|O _ J<|O _ J<|O _ J<|qa ?_;cases f;exact ⟨_,_,_,_,_,_,_,_,J⟩
  refine qd J<|qd J<|qd J<|qd J<|qd J<|qd J<|qd J<|O _ J<|qa ?_;cases f;exact ⟨_,_,_,_,_,_,_,_,J⟩
 rintro _ ⟨v,w,x,y,z,aa,ab,ac,rfl⟩;refine q8 a fun au g a=>?_;refine Qe 9 (fun A st=>∃ ad ae af ag ah ai aj ak,st = A [(39,Q1 au),(38,ak),(37,aj),(36,ai),(35,ah),(34,ag),(33,af),(32,ae),(31,ad)]) ?_ ?_
 ·refine Qf J J g (fun g=>?_) (fun g=>?_)
  ·refine O _ J<|O _ J<|O _ J<|O _ J<|O _ J<|O _ J<|O _ J<|O _ J<|qa ?_;cases g;exact ⟨_,_,_,_,_,_,_,_,J⟩
  refine qd J<|qd J<|qd J<|qd J<|qd J<|qd J<|qd J<|O _ J<|qa ?_;cases g;exact ⟨_,_,_,_,_,_,_,_,J⟩
 rintro _ ⟨ad,ae,af,ag,ah,ai,aj,ak,rfl⟩;refine qb J<|qs ?_;cases a;exact Q5 _ J
theorem qgq (g : List Int) (r : List Int) (n : U0 g = some r) : Pure Tryz.prog tab 101 [.sl 1 (g.map (eI .i64))] (.sl 1 (r.map (eI .i64))):=by
 unfold U0 at n;refine Qo Tryz.func101 J qh qh J<|qc<|qb J<|qu<|qb J<|qa<|qe<|qc<|qb J<|qa<|q8 n fun s bb n=>?_;refine Qi (fun l=>l = s) (fun l=>⟨[(3,.hs 0 1 0 l.length)],[(0,.dat 1 (l.map (eI .i64)))],1⟩) qf ?_ ?_
 ·refine Qd (q3t g) (fun b=>⟨[(0,.d (.sl 1 (g.map (eI .i64)))),(3,.hs 0 1 0 b.2.length),(4,q9 b.1)],[(0,.dat 1 (b.2.map (eI .i64)))],1⟩) (0,[]) s bb (wkA [] [] [0]) ?_;intro b bk h;unfold q3t at h;refine qe<|qc<|U J<|U J<|Qh J<|O _ J<|qa ?_;refine qn J h (fun _ h=>?_) (fun _ h=>?_)
  ·refine qk<|qe<|q8 h fun bc a h=>?_;refine Qi (fun m=>m = bc) (fun m=>⟨[(0,.d (.sl 1 (g.map (eI .i64)))),(3,.hs 0 1 0 m.length),(4,q9 b.1)],[(0,.dat 1 (m.map (eI .i64)))],1⟩) qf ?_ ?_
   ·refine qc<|U J<|O _ J<|qb J<|qa<|qe<|q8 a fun t bd a=>?_;refine Qi (fun o=>o = t) (fun o=>⟨[(0,.d (.sl 1 (g.map (eI .i64)))),(3,.hs 0 1 0 b.2.length),(4,q9 b.1),(5,q9 o)],[(0,.dat 1 (b.2.map (eI .i64)))],1⟩) qf ?_ ?_
    ·refine Qd (q3u b g) (fun u=>⟨[(0,.d (.sl 1 (g.map (eI .i64)))),(3,.hs 0 1 0 b.2.length),(4,q9 b.1),(5,q9 u)],[(0,.dat 1 (b.2.map (eI .i64)))],1⟩) (b.2.length : Int) t bd (wkA [(0,0)] [] []) ?_;intro u bl j;unfold q3u at j;refine qe<|qe<|Qj [q0,q0,q0,q0,q0,q0,qt 0,q0,q0,q0,q0,q0,q0,q0] qh<|U J<|O _ J<|q8 j fun be c j=>?_;refine Qe 12 (fun A st=>∃ v x y z aa ab ac ad ae af ag,st = A [(27,Q1 be),(26,ag),(25,af),(24,ae),(23,ad),(22,ac),(21,ab),(20,aa),(19,z),(18,y),(17,x),(16,v)]) ?_ ?_
     ·refine Qf J J c (fun c=>?_) (fun c=>?_)
      ·refine U J<|U J<|O _ J<|q8 c fun bm ah c=>qz ah J J<|Qc _ ah J<|U J<|U J<|q8 c fun bn bf c=>Q9 bf J<|O _ J<|O _ J<|O _ J<|qa ?_;cases c;exact ⟨_,_,_,_,_,_,_,_,_,_,_,J⟩
      refine qd J<|qd J<|qd J<|qd J<|qd J<|qd J<|qd J<|qd J<|qd J<|qd J<|O _ J<|qa ?_;cases c;exact ⟨_,_,_,_,_,_,_,_,_,_,_,J⟩
     rintro _ ⟨v,x,y,z,aa,ab,ac,ad,ae,af,ag,rfl⟩;refine qa ?_;refine qn J j (fun _ j=>?_) (fun _ j=>?_)
     ·refine qk<|Q3<|qw<|U J<|O _ J<|qb J<|qv<|Qn<|Qg<|⟨_,qm j,wkA [(0,0)] [] []⟩
     refine Q8 ?_;refine ⟨_,qm j,fun hm=>?_⟩;subst hm;exact ⟨_,J,wkA [(0,0)] [] []⟩
    intro o hb;subst hb;refine qe<|qe<|Qj [q0,q0,q0,q0,q0,q0,qt 0,q0,q0,q0,q0,q0,q0,q0] qh<|U J<|O _ J<|q8 a fun bg f a=>?_;refine Qe 12 (fun A st=>∃ ai aj ak al am an ao ap aq ar au,st = A [(43,Q1 bg),(42,au),(41,ar),(40,aq),(39,ap),(38,ao),(37,an),(36,am),(35,al),(34,ak),(33,aj),(32,ai)]) ?_ ?_
    ·refine Qf J J f (fun f=>?_) (fun f=>?_)
     ·refine U J<|U J<|O _ J<|q8 f fun bo av f=>qz av J J<|Qc _ av J<|U J<|U J<|q8 f fun bp bh f=>Q9 bh J<|O _ J<|O _ J<|O _ J<|qa ?_;cases f;exact ⟨_,_,_,_,_,_,_,_,_,_,_,J⟩
     refine qd J<|qd J<|qd J<|qd J<|qd J<|qd J<|qd J<|qd J<|qd J<|qd J<|O _ J<|qa ?_;cases f;exact ⟨_,_,_,_,_,_,_,_,_,_,_,J⟩
    rintro _ ⟨ai,aj,ak,al,am,an,ao,ap,aq,ar,au,rfl⟩;refine qa ?_;refine qn J a (fun _ a=>?_) (fun _ a=>?_)
    ·refine Q8 ?_;cases a;exact ⟨_,J,wkA [(0,0)] [] []⟩
    refine qk<|qc<|U J<|Qq _ _ J<|q8 a fun p bi a=>Kr _ bi J J J J J J J (Kp J J) J J J J<|qb J<|qa<|qe<|Qj [Qv 2,q0,q0,q0,q0,q0,q0,q0] qh<|U J<|U J<|O _ J<|q8 a fun aw q a=>q99 q J J J J J (q8k J) (fun _=>rfl)<|U J<|U J<|q8 a fun k ax a=>q99 ax J J J J J (q8k J) (fun _=>rfl)<|qta (w:=aw) (xs:=p) (ys:=(p.drop k.1).take k.2) (enc:=(eI .i64)) (.hs 2 1 k.1 k.2) (qb6 q) J J J J J J (qqj (qb6 ax) J) J J J J ?_;have ay:=@qj5 _ p ((p.drop k.1).take k.2) aw (qb6 q);refine qa<|qw<|U J<|U J<|U J<|U J<|q8 a fun az bj a=>Q9 bj J<|O _ J<|q8 a fun bq ba a=>qz ba (by simp [ay]) J<|K4 (ds:=[q7 az]) az ba J J J J J J J J (leb J) J<|qv ?_;cases a;exact ⟨_,J,wkE [(0,2)] [] [] J ⟨qr J,⟨_,J,K6 (by simp [ay]) J Q2 (ltd J)⟩,qr J,trivial⟩ ⟨Qt J J,trivial⟩⟩
   intro m hb;subst hb;refine qw<|U J<|O _ J<|qb J<|qv<|⟨_,qm h,wkA [(0,0)] [] []⟩
  refine Q8 ?_;refine ⟨_,qm h,fun hm=>?_⟩;subst hm;exact ⟨_,J,wkA [(0,0)] [] []⟩
 intro l hb;subst hb;refine qc<|U J<|qb J<|qs ?_;cases n;exact finD (.inr J) J (Zm J J) (.refl _)
theorem qvf (j : List qg) (g : List qg) (r : List Int) (c : q9i j g = some r) : Pure Tryz.prog tab 78 [.sl 6 (j.map Qa),.sl 6 (g.map Qa)] (.sl 1 (r.map (eI .i64))):=by
 unfold q9i at c;refine Qo Tryz.func78 J qh qh J<|qc<|qb J<|qu<|qb J<|qa<|qe<|qc<|qb J<|qa<|q8 c fun m o c=>?_;refine Qi (fun h=>h = m) (fun h=>⟨[(1,.d (.sl 6 (g.map Qa))),(5,.hs 0 1 0 h.length)],[(0,.dat 1 (h.map (eI .i64)))],1⟩) qf ?_ ?_
 ·refine Qd (q43 j) (fun k=>⟨[(0,.d (.sl 6 (j.map Qa))),(1,.d (.sl 6 (g.map Qa))),(5,.hs 0 1 0 k.2.length),(6,q9 k.1)],[(0,.dat 1 (k.2.map (eI .i64)))],1⟩) (0,[]) m o (wkA [] [] [0]) ?_;intro k z a;unfold q43 at a;refine qe<|qc<|U J<|U J<|Qh J<|O _ J<|qa ?_;refine qn J a (fun _ a=>?_) (fun _ a=>?_)
  ·refine qk<|qe<|Q3<|Qj [q0,(some [0,1],[0,2]),(some [],[1]),q0,q0,q0,q0,q0,q0,q0,q0,q0,q0,q0,q0,q0] qh<|U J<|U J<|U J<|q8 a fun aa p a=>Q9 p J<|O _ J<|O _ J<|O _ J<|U J<|U J<|q8 a fun ab q a=>Q9 q J<|O _ J<|O _ J<|O _ J<|Qq _ _ J<|q8 a fun ac s a=>Kr _ s J J J J J J J (Kp J J) J J J J<|qb J<|qv<|Qn<|qw<|U J<|O _ J<|qb J<|qv<|⟨_,qm a,wkA [(0,2)] [] []⟩
  refine Q8 ?_;refine ⟨_,qm a,fun hm=>?_⟩;subst hm;exact ⟨_,J,wkA [(0,0)] [] []⟩
 intro h hb;subst hb;refine qe<|qc<|qb J<|qa<|q8 c fun n t c=>?_;refine Qi (fun f=>f = n) (fun f=>⟨[(5,.hs 0 1 0 f.length)],[(0,.dat 1 (f.map (eI .i64)))],1⟩) qf ?_ ?_
 ·refine Qd (q44 g) (fun l=>⟨[(1,.d (.sl 6 (g.map Qa))),(5,.hs 0 1 0 l.2.length),(7,q9 l.1)],[(0,.dat 1 (l.2.map (eI .i64)))],1⟩) (0,h) n t (wkA [(0,0)] [] []) ?_;intro l ad b;unfold q44 at b;refine qe<|qc<|U J<|U J<|Qh J<|O _ J<|qa ?_;refine qn J b (fun _ b=>?_) (fun _ b=>?_)
  ·refine qk<|qe<|Q3<|Qj [q0,(some [0,1],[0,2]),(some [],[1]),q0,q0,q0,q0,q0,q0,q0,q0,q0,q0,q0,q0,q0] qh<|U J<|U J<|U J<|q8 b fun ae u b=>Q9 u J<|O _ J<|O _ J<|O _ J<|U J<|U J<|q8 b fun af v b=>Q9 v J<|O _ J<|O _ J<|O _ J<|Qq _ _ J<|q8 b fun ag w b=>Kr _ w J J J J J J J (Kp J J) J J J J<|qb J<|qv<|Qn<|qw<|U J<|O _ J<|qb J<|qv<|⟨_,qm b,wkA [(0,2)] [] []⟩
  refine Q8 ?_;refine ⟨_,qm b,fun hm=>?_⟩;subst hm;exact ⟨_,J,wkA [(0,0)] [] []⟩
 intro f hb;subst hb;refine qe ?_;refine Yb (st':=⟨[(5,.d (.sl 1 (f.map (eI .i64))))],[],0⟩) (wkA [] [0] []) ?_ qf;refine qw<|U J<|q8 c fun x y c=>Q4 (qgq f x y) J<|qb J<|qs ?_;cases c;exact Q5 _ J
theorem qcz (f : List qg) (g : Int) (r : List qi) (l : U1 f g = some r) : Pure Tryz.prog tab 80 [.sl 6 (f.map Qa),q7 g] (.sl 4 (r.map Q0)):=by
 unfold U1 at l;refine Qo Tryz.func80 J qh qh J<|qc<|qb J<|qu<|qb J<|qa<|qe<|qc<|qb J<|qa<|q8 l fun m x l=>?_;refine Qi (fun h=>h = m) (fun h=>⟨[(5,.hs 0 4 0 h.length)],[(0,.dat 4 (h.map Q0))],1⟩) qf ?_ ?_
 ·refine Qd (q61 f g) (fun j=>⟨[(0,.d (.sl 6 (f.map Qa))),(1,q9 g),(5,.hs 0 4 0 j.2.length),(6,q9 j.1)],[(0,.dat 4 (j.2.map Q0))],1⟩) (0,[]) m x (wkA [] [] [0]) ?_;intro j ah b;unfold q61 at b;refine qe<|qc<|U J<|U J<|Qh J<|O _ J<|qa ?_;refine qn J b (fun _ b=>?_) (fun _ b=>?_)
  ·refine qk<|qe<|q8 b fun y a b=>?_;refine Qi (fun k=>k = y) (fun k=>⟨[(0,.d (.sl 6 (f.map Qa))),(1,q9 g),(5,.hs 0 4 0 k.length),(6,q9 j.1)],[(0,.dat 4 (k.map Q0))],1⟩) qf ?_ ?_
   ·refine qc<|U J<|U J<|q8 a fun ai z a=>Q9 z J<|O _ J<|O _ J<|O _ J<|U J<|O _ J<|q8 a fun aa c a=>?_;refine Qe 10 (fun A st=>∃ n o p q s t u v w,st = A [(30,Q1 aa),(29,w),(28,v),(27,u),(26,t),(25,s),(24,q),(23,p),(22,o),(21,n)]) ?_ ?_
    ·refine Qf J J c (fun c=>?_) (fun c=>?_)
     ·refine U J<|U J<|U J<|q8 c fun aj ab c=>Q9 ab J<|O _ J<|O _ J<|O _ J<|O _ J<|O _ J<|qa ?_;cases c;exact ⟨_,_,_,_,_,_,_,_,_,J⟩
     refine qd J<|qd J<|qd J<|qd J<|qd J<|qd J<|qd J<|qd J<|O _ J<|qa ?_;cases c;exact ⟨_,_,_,_,_,_,_,_,_,J⟩
    rintro _ ⟨n,o,p,q,s,t,u,v,w,rfl⟩;refine qa ?_;refine qn J a (fun _ a=>?_) (fun _ a=>?_)
    ·refine Qj [q0,(some [0,1],[0,2]),(some [],[1]),q0,q0,q0,q0,q0,q0,q0,q0,q0,q0,q0,q0,q0,q0,q0,q0,q0,q0,q0,q0,q0,q0,q0,q0,q0,q0] qh<|U J<|U J<|U J<|q8 a fun ak ac a=>Q9 ac J<|O _ J<|O _ J<|O _ J<|U J<|U J<|q8 a fun al ad a=>Q9 ad J<|O _ J<|O _ J<|O _ J<|U J<|U J<|q8 a fun am ae a=>Q9 ae J<|O _ J<|O _ J<|O _ J<|U J<|U J<|q8 a fun an af a=>Q9 af J<|O _ J<|O _ J<|O _ J<|O _ J<|Qq _ _ J<|q8 a fun ao ag a=>Kr _ ag J J J J J J J (Kp J J) J J J J<|qb J<|qv ?_;cases a;exact ⟨_,J,wkA [(0,2)] [] []⟩
    refine qk<|Qg ?_;cases a;exact ⟨_,J,wkA [(0,0)] [] []⟩
   intro k hb;subst hb;refine qw<|U J<|O _ J<|qb J<|qv<|⟨_,qm b,wkA [(0,0)] [] []⟩
  refine Q8 ?_;refine ⟨_,qm b,fun hm=>?_⟩;subst hm;exact ⟨_,J,wkA [(0,0)] [] []⟩
 intro h hb;subst hb;refine qc<|U J<|qb J<|qs ?_;cases l;exact finD (.inr J) J (Zm J J) (.refl _)
theorem qv9 (j : List qi) (g : List qi) (r : List Int) (c : q9f j g = some r) : Pure Tryz.prog tab 102 [.sl 4 (j.map Q0),.sl 4 (g.map Q0)] (.sl 1 (r.map (eI .i64))):=by
 unfold q9f at c;refine Qo Tryz.func102 J qh qh J<|qc<|qb J<|qu<|qb J<|qa<|qe<|qc<|qb J<|qa<|q8 c fun m o c=>?_;refine Qi (fun h=>h = m) (fun h=>⟨[(1,.d (.sl 4 (g.map Q0))),(5,.hs 0 1 0 h.length)],[(0,.dat 1 (h.map (eI .i64)))],1⟩) qf ?_ ?_
 ·refine Qd (q3x j) (fun k=>⟨[(0,.d (.sl 4 (j.map Q0))),(1,.d (.sl 4 (g.map Q0))),(5,.hs 0 1 0 k.2.length),(6,q9 k.1)],[(0,.dat 1 (k.2.map (eI .i64)))],1⟩) (0,[]) m o (wkA [] [] [0]) ?_;intro k z a;unfold q3x at a;refine qe<|qc<|U J<|U J<|Qh J<|O _ J<|qa ?_;refine qn J a (fun _ a=>?_) (fun _ a=>?_)
  ·refine qk<|qe<|Q3<|Qj [q0,(some [0,1],[0,2]),(some [],[1]),q0,q0,q0,q0,q0,q0,q0,q0,q0,q0,q0] qh<|U J<|U J<|U J<|q8 a fun aa p a=>Q9 p J<|O _ J<|O _ J<|U J<|U J<|q8 a fun ab q a=>Q9 q J<|O _ J<|O _ J<|Qq _ _ J<|q8 a fun ac s a=>Kr _ s J J J J J J J (Kp J J) J J J J<|qb J<|qv<|Qn<|qw<|U J<|O _ J<|qb J<|qv<|⟨_,qm a,wkA [(0,2)] [] []⟩
  refine Q8 ?_;refine ⟨_,qm a,fun hm=>?_⟩;subst hm;exact ⟨_,J,wkA [(0,0)] [] []⟩
 intro h hb;subst hb;refine qe<|qc<|qb J<|qa<|q8 c fun n t c=>?_;refine Qi (fun f=>f = n) (fun f=>⟨[(5,.hs 0 1 0 f.length)],[(0,.dat 1 (f.map (eI .i64)))],1⟩) qf ?_ ?_
 ·refine Qd (q3y g) (fun l=>⟨[(1,.d (.sl 4 (g.map Q0))),(5,.hs 0 1 0 l.2.length),(7,q9 l.1)],[(0,.dat 1 (l.2.map (eI .i64)))],1⟩) (0,h) n t (wkA [(0,0)] [] []) ?_;intro l ad b;unfold q3y at b;refine qe<|qc<|U J<|U J<|Qh J<|O _ J<|qa ?_;refine qn J b (fun _ b=>?_) (fun _ b=>?_)
  ·refine qk<|qe<|Q3<|Qj [q0,(some [0,1],[0,2]),(some [],[1]),q0,q0,q0,q0,q0,q0,q0,q0,q0,q0,q0] qh<|U J<|U J<|U J<|q8 b fun ae u b=>Q9 u J<|O _ J<|O _ J<|U J<|U J<|q8 b fun af v b=>Q9 v J<|O _ J<|O _ J<|Qq _ _ J<|q8 b fun ag w b=>Kr _ w J J J J J J J (Kp J J) J J J J<|qb J<|qv<|Qn<|qw<|U J<|O _ J<|qb J<|qv<|⟨_,qm b,wkA [(0,2)] [] []⟩
  refine Q8 ?_;refine ⟨_,qm b,fun hm=>?_⟩;subst hm;exact ⟨_,J,wkA [(0,0)] [] []⟩
 intro f hb;subst hb;refine qe ?_;refine Yb (st':=⟨[(5,.d (.sl 1 (f.map (eI .i64))))],[],0⟩) (wkA [] [0] []) ?_ qf;refine qw<|U J<|q8 c fun x y c=>Q4 (qgq f x y) J<|qb J<|qs ?_;cases c;exact Q5 _ J
theorem qvb (j : List qi) (g : List qi) (r : List Int) (c : q9g j g = some r) : Pure Tryz.prog tab 103 [.sl 4 (j.map Q0),.sl 4 (g.map Q0)] (.sl 1 (r.map (eI .i64))):=by
 unfold q9g at c;refine Qo Tryz.func103 J qh qh J<|qc<|qb J<|qu<|qb J<|qa<|qe<|qc<|qb J<|qa<|q8 c fun m o c=>?_;refine Qi (fun h=>h = m) (fun h=>⟨[(1,.d (.sl 4 (g.map Q0))),(5,.hs 0 1 0 h.length)],[(0,.dat 1 (h.map (eI .i64)))],1⟩) qf ?_ ?_
 ·refine Qd (q3z j) (fun k=>⟨[(0,.d (.sl 4 (j.map Q0))),(1,.d (.sl 4 (g.map Q0))),(5,.hs 0 1 0 k.2.length),(6,q9 k.1)],[(0,.dat 1 (k.2.map (eI .i64)))],1⟩) (0,[]) m o (wkA [] [] [0]) ?_;intro k z a;unfold q3z at a;refine qe<|qc<|U J<|U J<|Qh J<|O _ J<|qa ?_;refine qn J a (fun _ a=>?_) (fun _ a=>?_)
  ·refine qk<|qe<|Q3<|Qj [q0,(some [0,1],[0,2]),(some [],[1]),q0,q0,q0,q0,q0,q0,q0,q0,q0,q0,q0] qh<|U J<|U J<|U J<|q8 a fun aa p a=>Q9 p J<|O _ J<|O _ J<|U J<|U J<|q8 a fun ab q a=>Q9 q J<|O _ J<|O _ J<|Qq _ _ J<|q8 a fun ac s a=>Kr _ s J J J J J J J (Kp J J) J J J J<|qb J<|qv<|Qn<|qw<|U J<|O _ J<|qb J<|qv<|⟨_,qm a,wkA [(0,2)] [] []⟩
  refine Q8 ?_;refine ⟨_,qm a,fun hm=>?_⟩;subst hm;exact ⟨_,J,wkA [(0,0)] [] []⟩
 intro h hb;subst hb;refine qe<|qc<|qb J<|qa<|q8 c fun n t c=>?_;refine Qi (fun f=>f = n) (fun f=>⟨[(5,.hs 0 1 0 f.length)],[(0,.dat 1 (f.map (eI .i64)))],1⟩) qf ?_ ?_
 ·refine Qd (q40 g) (fun l=>⟨[(1,.d (.sl 4 (g.map Q0))),(5,.hs 0 1 0 l.2.length),(7,q9 l.1)],[(0,.dat 1 (l.2.map (eI .i64)))],1⟩) (0,h) n t (wkA [(0,0)] [] []) ?_;intro l ad b;unfold q40 at b;refine qe<|qc<|U J<|U J<|Qh J<|O _ J<|qa ?_;refine qn J b (fun _ b=>?_) (fun _ b=>?_)
  ·refine qk<|qe<|Q3<|Qj [q0,(some [0,1],[0,2]),(some [],[1]),q0,q0,q0,q0,q0,q0,q0,q0,q0,q0,q0] qh<|U J<|U J<|U J<|q8 b fun ae u b=>Q9 u J<|O _ J<|O _ J<|U J<|U J<|q8 b fun af v b=>Q9 v J<|O _ J<|O _ J<|Qq _ _ J<|q8 b fun ag w b=>Kr _ w J J J J J J J (Kp J J) J J J J<|qb J<|qv<|Qn<|qw<|U J<|O _ J<|qb J<|qv<|⟨_,qm b,wkA [(0,2)] [] []⟩
  refine Q8 ?_;refine ⟨_,qm b,fun hm=>?_⟩;subst hm;exact ⟨_,J,wkA [(0,0)] [] []⟩
 intro f hb;subst hb;refine qe ?_;refine Yb (st':=⟨[(5,.d (.sl 1 (f.map (eI .i64))))],[],0⟩) (wkA [] [0] []) ?_ qf;refine qw<|U J<|q8 c fun x y c=>Q4 (qgq f x y) J<|qb J<|qs ?_;cases c;exact Q5 _ J
theorem qm4 (h : List qi) (j : Int) (k : Int) (r : Bool) (g : q5t h j k = some r) : Pure Tryz.prog tab 105 [.sl 4 (h.map Q0),q7 j,q7 k] (.bool r):=by
 unfold q5t at g;refine Qo Tryz.func105 J qh qh J<|qc<|qb J<|qa<|qe<|qc<|qb J<|qa<|q8 g fun m an g=>?_;refine Qi (fun l=>.inl l = m) (fun l=>⟨[],[],0⟩) qf ?_ ?_
 ·refine Qd (q2s h j k) (fun n=>⟨[(0,.d (.sl 4 (h.map Q0))),(1,q9 j),(2,q9 k),(7,q9 n)],[],0⟩) 0 m an (wkA [] [] []) ?_;intro n ax a;unfold q2s at a;refine qe<|qc<|U J<|U J<|Qh J<|O _ J<|qa ?_;refine qn J a (fun _ a=>?_) (fun _ a=>?_)
  ·refine qk<|qe<|Q3<|qc<|U J<|U J<|q8 a fun ay ao a=>Q9 ao J<|O _ J<|O _ J<|U J<|O _ J<|q8 a fun ap b a=>?_;refine Qe 9 (fun A st=>∃ o p q s t u v w,st = A [(29,Q1 ap),(28,w),(27,v),(26,u),(25,t),(24,s),(23,q),(22,p),(21,o)]) ?_ ?_
   ·refine Qf J J b (fun b=>?_) (fun b=>?_)
    ·refine U J<|U J<|U J<|q8 b fun az aq b=>Q9 aq J<|O _ J<|O _ J<|O _ J<|O _ J<|qa ?_;cases b;exact ⟨_,_,_,_,_,_,_,_,J⟩
    refine qd J<|qd J<|qd J<|qd J<|qd J<|qd J<|qd J<|O _ J<|qa ?_;cases b;exact ⟨_,_,_,_,_,_,_,_,J⟩
   rintro _ ⟨o,p,q,s,t,u,v,w,rfl⟩;refine q8 a fun ar c a=>?_;refine Qe 9 (fun A st=>∃ x y z aa ab ac ad ae,st = A [(38,Q1 ar),(37,ae),(36,ad),(35,ac),(34,ab),(33,aa),(32,z),(31,y),(30,x)]) ?_ ?_
   ·refine Qf J J c (fun c=>?_) (fun c=>?_)
    ·refine U J<|U J<|q8 c fun ba au c=>Q9 au J<|O _ J<|O _ J<|U J<|O _ J<|O _ J<|qa ?_;cases c;exact ⟨_,_,_,_,_,_,_,_,J⟩
    refine qd J<|qd J<|qd J<|qd J<|qd J<|qd J<|qd J<|O _ J<|qa ?_;cases c;exact ⟨_,_,_,_,_,_,_,_,J⟩
   rintro _ ⟨x,y,z,aa,ab,ac,ad,ae,rfl⟩;refine q8 a fun av f a=>?_;refine Qe 9 (fun A st=>∃ af ag ah ai aj ak al am,st = A [(47,Q1 av),(46,am),(45,al),(44,ak),(43,aj),(42,ai),(41,ah),(40,ag),(39,af)]) ?_ ?_
   ·refine Qf J J f (fun f=>?_) (fun f=>?_)
    ·refine U J<|U J<|U J<|q8 f fun bb aw f=>Q9 aw J<|O _ J<|O _ J<|O _ J<|O _ J<|qa ?_;cases f;exact ⟨_,_,_,_,_,_,_,_,J⟩
    refine qd J<|qd J<|qd J<|qd J<|qd J<|qd J<|qd J<|O _ J<|qa ?_;cases f;exact ⟨_,_,_,_,_,_,_,_,J⟩
   rintro _ ⟨af,ag,ah,ai,aj,ak,al,am,rfl⟩;refine qa ?_;refine qn J a (fun _ a=>?_) (fun _ a=>?_)
   ·refine qc<|qb J<|qs ?_;refine ⟨_,qm a,fun hm=>?_⟩;subst hm;cases g;exact Q5 _ J
   refine qk<|Qg<|Qn<|qw<|U J<|O _ J<|qb J<|qv<|⟨_,qm a,wkA [] [] []⟩
  refine Q8 ?_;refine ⟨_,qm a,fun hm=>?_⟩;subst hm;exact ⟨_,J,wkA [] [] []⟩
 intro l hb;subst hb;refine qc<|qb J<|qs ?_;cases g;exact Q5 _ J
theorem qv3 (f : Int) (g : Bool) (h : Bool) (r : Bool) (a : q5r f g h = some r) : Pure Tryz.prog tab 104 [q7 f,.bool g,.bool h] (.bool r):=by
 unfold q5r at a;refine Qo Tryz.func104 J qh qh J<|qc<|qb J<|qa<|qe<|qc<|U J<|O _ J<|qa ?_;refine qn J a (fun _ a=>?_) (fun _ a=>?_)
 ·refine qc<|U J<|q8 a fun q b a=>?_;refine Qe 3 (fun A st=>∃ j k,st = A [(12,Q1 q),(11,k),(10,j)]) ?_ ?_
  ·refine Qf J J b (fun b=>?_) (fun b=>?_)
   ·refine U J<|O _ J<|qa ?_;cases b;exact ⟨_,_,J⟩
   refine qd J<|O _ J<|qa ?_;cases b;exact ⟨_,_,J⟩
  rintro _ ⟨j,k,rfl⟩;refine qb J<|qs ?_;cases a;exact Q5 _ J
 refine qk<|qe<|qc<|U J<|O _ J<|qa ?_;refine qn J a (fun _ a=>?_) (fun _ a=>?_)
 ·refine qc<|U J<|q8 a fun s c a=>?_;refine Qe 3 (fun A st=>∃ l m,st = A [(18,Q1 s),(17,m),(16,l)]) ?_ ?_
  ·refine Qf J J c (fun c=>?_) (fun c=>?_)
   ·refine qd J<|O _ J<|qa ?_;cases c;exact ⟨_,_,J⟩
   refine U J<|O _ J<|qa ?_;cases c;exact ⟨_,_,J⟩
  rintro _ ⟨l,m,rfl⟩;refine qb J<|qs ?_;cases a;exact Q5 _ J
 refine qk<|qc<|U J<|q8 a fun t d a=>?_;refine Qe 4 (fun A st=>∃ n o p,st = A [(23,Q1 t),(22,p),(21,o),(20,n)]) ?_ ?_
 ·refine Qf J J d (fun d=>?_) (fun d=>?_)
  ·refine U J<|O _ J<|O _ J<|qa ?_;cases d;exact ⟨_,_,_,J⟩
  refine qd J<|qd J<|O _ J<|qa ?_;cases d;exact ⟨_,_,_,J⟩
 rintro _ ⟨n,o,p,rfl⟩;refine qb J<|qs ?_;cases a;exact Q5 _ J
theorem qv1 (f : List Int) (g : List Bool) (r : List ql) (l : q3r f g = some r) : Pure Tryz.prog tab 106 [.sl 1 (f.map (eI .i64)),.sl 1 (g.map eB)] (.sl 2 (r.map Ql)):=by
 unfold q3r at l;refine Qo Tryz.func106 J qh qh J<|qc<|qb J<|qu<|qb J<|qa<|qe<|qc<|qb J<|qa<|q8 l fun m ad l=>?_;refine Qi (fun h=>h = m) (fun h=>⟨[(5,.hs 0 2 0 h.length)],[(0,.dat 2 (h.map Ql))],1⟩) qf ?_ ?_
 ·refine Qd (q3s f g) (fun j=>⟨[(0,.d (.sl 1 (f.map (eI .i64)))),(1,.d (.sl 1 (g.map eB))),(5,.hs 0 2 0 j.2.length),(6,q9 j.1)],[(0,.dat 2 (j.2.map Ql))],1⟩) (0,[]) m ad (wkA [] [] [0]) ?_;intro j an c;unfold q3s at c;refine qe<|qc<|U J<|O _ J<|U J<|Qh J<|O _ J<|qa ?_;refine qn J c (fun _ c=>?_) (fun _ c=>?_)
  ·refine qk<|qe<|q8 c fun ae a c=>?_;refine Qi (fun k=>k = ae) (fun k=>⟨[(0,.d (.sl 1 (f.map (eI .i64)))),(1,.d (.sl 1 (g.map eB))),(5,.hs 0 2 0 k.length),(6,q9 j.1)],[(0,.dat 2 (k.map Ql))],1⟩) qf ?_ ?_
   ·refine qe<|qc<|U J<|U J<|q8 a fun ao af a=>Q9 af J<|O _ J<|O _ J<|qa ?_;refine qn J a (fun _ a=>?_) (fun _ a=>?_)
    ·refine Q8 ?_;cases a;exact ⟨_,J,wkA [(0,0)] [] []⟩
    refine qk<|qc<|U J<|O _ J<|qb J<|qa<|qe<|Qj [q0,q0,q0,q0,q0,q0,qt 0,q0,q0,q0,q0,q0,q0,q0,q0] qh<|U J<|O _ J<|q8 a fun ag b a=>?_;refine Qe 13 (fun A st=>∃ n o p q s t u v w x y z,st = A [(36,Q1 ag),(35,z),(34,y),(33,x),(32,w),(31,v),(30,u),(29,t),(28,s),(27,q),(26,p),(25,o),(24,n)]) ?_ ?_
    ·refine Qf J J b (fun b=>?_) (fun b=>?_)
     ·refine U J<|U J<|O _ J<|q8 b fun ap aa b=>qz aa J J<|O _ J<|Qc _ aa J<|U J<|U J<|q8 b fun aq ah b=>Q9 ah J<|O _ J<|O _ J<|O _ J<|qa ?_;cases b;exact ⟨_,_,_,_,_,_,_,_,_,_,_,_,J⟩
     refine qd J<|qd J<|qd J<|qd J<|qd J<|qd J<|qd J<|qd J<|qd J<|qd J<|qd J<|O _ J<|qa ?_;cases b;exact ⟨_,_,_,_,_,_,_,_,_,_,_,_,J⟩
    rintro _ ⟨n,o,p,q,s,t,u,v,w,x,y,z,rfl⟩;refine qa ?_;refine qn J a (fun _ a=>?_) (fun _ a=>?_)
    ·refine qw<|U J<|U J<|O _ J<|U J<|U J<|O _ J<|q8 a fun ab ai a=>Q9 ai J<|O _ J<|q8 a fun aj ac a=>qz ac J J<|O _ J<|K4 (ds:=[q7 ab]) ({Lo:=aj.Lo,Hi:=ab} : ql) ac J J J J J J J J (leb J) J<|qv ?_;cases a;exact ⟨_,J,wkE [(0,0)] [] [] J ⟨qr J,qr J,⟨_,J,K6 qf J Q2 (ltd J)⟩,qr J,trivial⟩ ⟨Qt J J,trivial⟩⟩
    refine Qj [q0,(some [0,1],[0,2]),(some [],[1]),q0,q0,q0,q0,q0,q0,q0,q0,q0,q0,q0] qh<|U J<|U J<|U J<|q8 a fun ar ak a=>Q9 ak J<|O _ J<|U J<|U J<|O _ J<|q8 a fun au al a=>Q9 al J<|O _ J<|O _ J<|Qq _ _ J<|q8 a fun av am a=>Kr _ am J J J J J J J (Kp J J) J J J J<|qb J<|qv ?_;cases a;exact ⟨_,J,wkA [(0,2)] [] []⟩
   intro k hb;subst hb;refine qw<|U J<|O _ J<|qb J<|qv<|⟨_,qm c,wkA [(0,0)] [] []⟩
  refine Q8 ?_;refine ⟨_,qm c,fun hm=>?_⟩;subst hm;exact ⟨_,J,wkA [(0,0)] [] []⟩
 intro h hb;subst hb;refine qc<|U J<|qb J<|qs ?_;cases l;exact finD (.inr J) J (Zm J J) (.refl _)
theorem qv4 (c : List ql) (f : List ql) (r : Bool) (b : q5s c f = some r) : Pure Tryz.prog tab 107 [.sl 2 (c.map Ql),.sl 2 (f.map Ql)] (.bool r):=by
 unfold q5s at b;refine Qo Tryz.func107 J qh qh J<|qc<|qb J<|qa<|qe<|qc<|U J<|Qh J<|U J<|Qh J<|O _ J<|qa ?_;refine qn J b (fun _ b=>?_) (fun _ b=>?_)
 ·refine qc<|qb J<|qs ?_;cases b;exact Q5 _ J
 refine qk<|qe<|qc<|qb J<|qa<|q8 b fun h k b=>?_;refine Qi (fun g=>.inl g = h) (fun g=>⟨[],[],0⟩) qf ?_ ?_
 ·refine Qd (qcw c f) (fun j=>⟨[(0,.d (.sl 2 (c.map Ql))),(1,.d (.sl 2 (f.map Ql))),(5,q9 j)],[],0⟩) 0 h k (wkA [] [] []) ?_;intro j n a;unfold qcw at a;refine qe<|qc<|U J<|U J<|Qh J<|O _ J<|qa ?_;refine qn J a (fun _ a=>?_) (fun _ a=>?_)
  ·refine qk<|qe<|Q3<|qe<|Qj [q0,q0,q0,q0,q0,q0,q0,q0,q0] qh<|U J<|U J<|q8 a fun o l a=>Q9 l J<|O _ J<|U J<|U J<|q8 a fun p m a=>Q9 m J<|O _ J<|O _ J<|qa ?_;refine qn J a (fun _ a=>?_) (fun _ a=>?_)
   ·refine qc<|qb J<|qs ?_;refine ⟨_,qm a,fun hm=>?_⟩;subst hm;cases b;exact Q5 _ J
   refine qk<|Qg<|Qn<|qw<|U J<|O _ J<|qb J<|qv<|⟨_,qm a,wkA [] [] []⟩
  refine Q8 ?_;refine ⟨_,qm a,fun hm=>?_⟩;subst hm;exact ⟨_,J,wkA [] [] []⟩
 intro g hb;subst hb;refine qc<|qb J<|qs ?_;cases b;exact Q5 _ J
theorem qgr (j : Int) (f : List qi) (g : List qi) (r : List qi) (n : Jf j f g = some r) : Pure Tryz.prog tab 79 [q7 j,.sl 4 (f.map Q0),.sl 4 (g.map Q0)] (.sl 4 (r.map Q0)):=by
 unfold Jf at n;refine Qo Tryz.func79 J qh qh J<|qc<|qb J<|qu<|U J<|U J<|q8 n fun k h2 n=>Q4 (qv9 f g k h2) J<|U J<|U J<|q8 n fun l h4 n=>Q4 (qvb f g l h4) J<|qb J<|qb J<|qu<|qb J<|qu<|qb J<|qu<|qb J<|qa<|qe<|qc<|qb J<|qa<|q8 n fun aa an n=>?_;refine Qi (fun t=>t = aa) (fun t=>⟨[(9,.hs 0 4 0 t.length)],[(0,.dat 4 (t.map Q0))],1⟩) qf ?_ ?_
 ·refine Qd (q2t k l f g j) (fun a=>⟨[(0,q9 j),(1,.d (.sl 4 (f.map Q0))),(2,.d (.sl 4 (g.map Q0))),(7,.d (.sl 1 (k.map (eI .i64)))),(8,.d (.sl 1 (l.map (eI .i64)))),(9,.hs 0 4 0 a.2.2.2.length),(10,.d (.sl 2 (a.1.map Ql))),(11,q9 a.2.1),(12,q9 a.2.2.1)],[(0,.dat 4 (a.2.2.2.map Q0))],1⟩) ([],0,0,[]) aa an (wkA [] [] [0]) ?_;intro a bs o;unfold q2t at o;refine qe<|qc<|U J<|O _ J<|U J<|Qh J<|O _ J<|qa ?_;refine qn J o (fun _ o=>?_) (fun _ o=>?_)
  ·refine qk<|qe<|q8 o fun ao h o=>?_;refine Qi (fun p=>p = ao) (fun p=>⟨[(0,q9 j),(1,.d (.sl 4 (f.map Q0))),(2,.d (.sl 4 (g.map Q0))),(7,.d (.sl 1 (k.map (eI .i64)))),(8,.d (.sl 1 (l.map (eI .i64)))),(9,.hs 0 4 0 p.2.2.length),(10,.d (.sl 2 (p.1.map Ql))),(11,q9 p.2.1),(12,q9 a.2.2.1)],[(0,.dat 4 (p.2.2.map Q0))],1⟩) qf ?_ ?_
   ·refine qc<|qb J<|qa<|qe<|qc<|qb J<|qa<|q8 h fun ab ap h=>?_;refine Qi (fun q=>q = ab) (fun q=>⟨[(0,q9 j),(1,.d (.sl 4 (f.map Q0))),(2,.d (.sl 4 (g.map Q0))),(7,.d (.sl 1 (k.map (eI .i64)))),(8,.d (.sl 1 (l.map (eI .i64)))),(9,.hs 0 4 0 a.2.2.2.length),(10,.d (.sl 2 (a.1.map Ql))),(11,q9 a.2.1),(12,q9 a.2.2.1),(13,.hs 1 1 0 q.length)],[(0,.dat 4 (a.2.2.2.map Q0)),(1,.dat 1 (q.map eB))],2⟩) qf ?_ ?_
    ·refine Qd (q3v l k a f g j) (fun w=>⟨[(0,q9 j),(1,.d (.sl 4 (f.map Q0))),(2,.d (.sl 4 (g.map Q0))),(7,.d (.sl 1 (k.map (eI .i64)))),(8,.d (.sl 1 (l.map (eI .i64)))),(9,.hs 0 4 0 a.2.2.2.length),(10,.d (.sl 2 (a.1.map Ql))),(11,q9 a.2.1),(12,q9 a.2.2.1),(13,.hs 1 1 0 w.2.length),(14,q9 w.1)],[(0,.dat 4 (a.2.2.2.map Q0)),(1,.dat 1 (w.2.map eB))],2⟩) (0,[]) ab ap (wkA [(0,0)] [] [1]) ?_;intro w bt b;unfold q3v at b;refine qe<|qc<|U J<|U J<|Qh J<|O _ J<|qa ?_;refine qn J b (fun _ b=>?_) (fun _ b=>?_)
     ·refine qk<|qe<|Q3<|Qj [q0,(some [1,2],[1,3]),(some [],[2]),q0,q0,q0,q0,q0,q0,q0,q0,q0,q0,q0,q0,q0,q0,q0,q0,q0,q0,q0,q0,q0,q0,q0] qh<|U J<|U J<|U J<|U J<|U J<|q8 b fun aq ar b=>Q9 ar J<|O _ J<|U J<|U J<|q8 b fun au av b=>Q9 av J<|O _ J<|q8 b fun ac aw b=>Q4 (qm4 f aq au ac aw) J<|U J<|U J<|U J<|q8 b fun ax ay b=>Q9 ay J<|O _ J<|U J<|U J<|q8 b fun az ba b=>Q9 ba J<|O _ J<|q8 b fun ad bb b=>Q4 (qm4 g ax az ad bb) J<|q8 b fun bc bd b=>Q4 (qv3 j ac ad bc bd) J<|Qq _ _ J<|q8 b fun bu be b=>Kr _ be J J J J J J J (Kp J J) J J J J<|qb J<|qv<|Qn ?_;refine qw<|U J<|O _ J<|qb J<|qv<|⟨_,qm b,wkA [(0,0),(1,3)] [] []⟩
     refine Q8 ?_;refine ⟨_,qm b,fun hm=>?_⟩;subst hm;exact ⟨_,J,wkA [(0,0),(1,1)] [] []⟩
    intro q hb;subst hb;refine qe ?_;refine Yb (st':=⟨[(0,q9 j),(1,.d (.sl 4 (f.map Q0))),(2,.d (.sl 4 (g.map Q0))),(7,.d (.sl 1 (k.map (eI .i64)))),(8,.d (.sl 1 (l.map (eI .i64)))),(9,.hs 0 4 0 a.2.2.2.length),(10,.d (.sl 2 (a.1.map Ql))),(11,q9 a.2.1),(12,q9 a.2.2.1),(13,.d (.sl 1 (q.map eB)))],[(0,.dat 4 (a.2.2.2.map Q0))],1⟩) (wkA [(0,0)] [1] []) ?_ qf;refine qw<|U J<|U J<|q8 h fun u bf h=>Q4 (qv1 l q u bf) J<|qb J<|qa<|qe<|qc<|U J<|O _ J<|q8 h fun bg s h=>?_;refine Qe 5 (fun A st=>∃ ae af ag ah,st = A [(71,Q1 bg),(70,ah),(69,ag),(68,af),(67,ae)]) ?_ ?_
    ·refine Qf J J s (fun s=>?_) (fun s=>?_)
     ·refine U J<|U J<|q8 s fun bh bi s=>Q4 (qv4 u a.1 bh bi) J<|O _ J<|qa ?_;cases s;exact ⟨_,_,_,_,J⟩
     refine qd J<|qd J<|qd J<|O _ J<|qa ?_;cases s;exact ⟨_,_,_,_,J⟩
    rintro _ ⟨ae,af,ag,ah,rfl⟩;refine qa ?_;refine qn J h (fun _ h=>?_) (fun _ h=>?_)
    ·refine qe<|qc<|U J<|qb J<|qa<|q8 h fun ai bj h=>?_;refine Qi (fun v=>v = ai) (fun v=>⟨[(0,q9 j),(1,.d (.sl 4 (f.map Q0))),(2,.d (.sl 4 (g.map Q0))),(7,.d (.sl 1 (k.map (eI .i64)))),(8,.d (.sl 1 (l.map (eI .i64)))),(9,.hs 0 4 0 v.length),(10,.d (.sl 2 (a.1.map Ql))),(11,q9 a.2.1),(12,q9 a.2.2.1)],[(0,.dat 4 (v.map Q0))],1⟩) qf ?_ ?_
     ·refine Qd (q3w k a) (fun x=>⟨[(0,q9 j),(1,.d (.sl 4 (f.map Q0))),(2,.d (.sl 4 (g.map Q0))),(7,.d (.sl 1 (k.map (eI .i64)))),(8,.d (.sl 1 (l.map (eI .i64)))),(9,.hs 0 4 0 x.2.length),(10,.d (.sl 2 (a.1.map Ql))),(11,q9 a.2.1),(12,q9 a.2.2.1),(16,q9 x.1)],[(0,.dat 4 (x.2.map Q0))],1⟩) (a.2.1,a.2.2.2) ai bj (wkA [(0,0)] [] []) ?_;intro x bv m;unfold q3w at m;refine qe<|qc<|U J<|U J<|O _ J<|O _ J<|qa ?_;refine qn J m (fun _ m=>?_) (fun _ m=>?_)
      ·refine qk<|qe<|Q3<|qw<|U J<|U J<|U J<|U J<|O _ J<|q8 m fun aj bk m=>Q9 bk J<|O _ J<|q8 m fun z ak m=>qz ak J J<|O _ J<|K4 (ds:=[q7 aj]) ({X0:=z.X0,Y0:=z.Y0,X1:=aj,Y1:=z.Y1} : qi) ak J J J J J J J J (leb J) J<|qv<|Qn<|qw<|U J<|O _ J<|qb J<|qv<|⟨_,qm m,wkE [(0,0)] [] [] J ⟨qr J,qr J,qr J,qr J,qr J,⟨_,J,K6 qf J Q2 (ltd J)⟩,qr J,qr J,qr J,qr J,trivial⟩ ⟨Qt J J,trivial⟩⟩
      refine Q8 ?_;refine ⟨_,qm m,fun hm=>?_⟩;subst hm;exact ⟨_,J,wkA [(0,0)] [] []⟩
     intro v hb;subst hb;refine Q8 ?_;cases h;exact ⟨_,J,wkA [(0,0)] [] []⟩
    refine qk<|qc<|U J<|O _ J<|U J<|qb J<|qb J<|qu<|qb J<|qa<|q8 h fun bl bm h=>Q3<|Qd (q5u u k a) (fun y=>⟨[(0,q9 j),(1,.d (.sl 4 (f.map Q0))),(2,.d (.sl 4 (g.map Q0))),(7,.d (.sl 1 (k.map (eI .i64)))),(8,.d (.sl 1 (l.map (eI .i64)))),(9,.hs 0 4 0 y.2.length),(10,.d (.sl 2 (u.map Ql))),(11,q9 (a.2.2.2.length : Int)),(12,q9 a.2.2.1),(15,.d (.sl 2 (u.map Ql))),(17,q9 y.1)],[(0,.dat 4 (y.2.map Q0))],1⟩) (0,a.2.2.2) bl bm (wkA [(0,0)] [] []) ?_;intro y bw c;unfold q5u at c;refine qe<|qc<|U J<|U J<|Qh J<|O _ J<|qa ?_;refine qn J c (fun _ c=>?_) (fun _ c=>?_)
    ·refine qk<|qe<|Q3<|Qj [q0,(some [0,1],[0,2]),(some [],[1]),q0,q0,q0,q0,q0,q0,q0,q0,q0,q0,q0,q0,q0,q0,q0,q0,q0,q0,q0,q0,q0] qh<|U J<|U J<|U J<|q8 c fun bx bn c=>Q9 bn J<|O _ J<|U J<|U J<|q8 c fun bz bo c=>Q9 bo J<|O _ J<|O _ J<|U J<|U J<|O _ J<|q8 c fun ca bp c=>Q9 bp J<|O _ J<|U J<|U J<|q8 c fun cb bq c=>Q9 bq J<|O _ J<|O _ J<|O _ J<|Qq _ _ J<|q8 c fun cc br c=>Kr _ br J J J J J J J (Kp J J) J J J J<|qb J<|qv<|Qn<|qw<|U J<|O _ J<|qb J<|qv<|⟨_,qm c,wkA [(0,2)] [] []⟩
    refine Q8 ?_;refine ⟨_,qm c,fun hm=>?_⟩;subst hm;cases h;exact ⟨_,J,wkA [(0,0)] [] []⟩
   intro p hb;subst hb;refine qw<|U J<|O _ J<|qb J<|qv<|⟨_,qm o,wkA [(0,0)] [] []⟩
  refine Q8 ?_;refine ⟨_,qm o,fun hm=>?_⟩;subst hm;exact ⟨_,J,wkA [(0,0)] [] []⟩
 intro t hb;subst hb;refine qc<|U J<|qb J<|qs ?_;cases n;exact finD (.inr J) J (Zm J J) (.refl _)
theorem qv7 (c : List qi) (f : List qi) (r : Bool) (b : q5w c f = some r) : Pure Tryz.prog tab 81 [.sl 4 (c.map Q0),.sl 4 (f.map Q0)] (.bool r):=by
 unfold q5w at b;refine Qo Tryz.func81 J qh qh J<|qc<|qb J<|qa<|qe<|qc<|U J<|Qh J<|U J<|Qh J<|O _ J<|qa ?_;refine qn J b (fun _ b=>?_) (fun _ b=>?_)
 ·refine qc<|qb J<|qs ?_;cases b;exact Q5 _ J
 refine qk<|qe<|qc<|qb J<|qa<|q8 b fun h k b=>?_;refine Qi (fun g=>.inl g = h) (fun g=>⟨[],[],0⟩) qf ?_ ?_
 ·refine Qd (qcx c f) (fun j=>⟨[(0,.d (.sl 4 (c.map Q0))),(1,.d (.sl 4 (f.map Q0))),(5,q9 j)],[],0⟩) 0 h k (wkA [] [] []) ?_;intro j n a;unfold qcx at a;refine qe<|qc<|U J<|U J<|Qh J<|O _ J<|qa ?_;refine qn J a (fun _ a=>?_) (fun _ a=>?_)
  ·refine qk<|qe<|Q3<|qe<|Qj [q0,q0,q0,q0,q0,q0,q0,q0,q0] qh<|U J<|U J<|q8 a fun o l a=>Q9 l J<|O _ J<|U J<|U J<|q8 a fun p m a=>Q9 m J<|O _ J<|O _ J<|qa ?_;refine qn J a (fun _ a=>?_) (fun _ a=>?_)
   ·refine qc<|qb J<|qs ?_;refine ⟨_,qm a,fun hm=>?_⟩;subst hm;cases b;exact Q5 _ J
   refine qk<|Qg<|Qn<|qw<|U J<|O _ J<|qb J<|qv<|⟨_,qm a,wkA [] [] []⟩
  refine Q8 ?_;refine ⟨_,qm a,fun hm=>?_⟩;subst hm;exact ⟨_,J,wkA [] [] []⟩
 intro g hb;subst hb;refine qc<|qb J<|qs ?_;cases b;exact Q5 _ J
theorem qd0 (l : Int) (f : List qg) (g : List qg) (r : List qg × Bool) (o : J3 l f g = some r) : Pure Tryz.prog tab 50 [q7 l,.sl 6 (f.map Qa),.sl 6 (g.map Qa)] (.tup [.sl 6 (r.1.map Qa),.bool r.2]):=by
 unfold J3 at o;refine Qo Tryz.func50 J qh qh J<|qc<|qb J<|qb J<|qu<|U J<|U J<|q8 o fun m h2 o=>Q4 (qvf f g m h2) J<|qb J<|qu<|qb J<|qu<|qb J<|qu<|qb J<|qa<|qe<|qc<|qb J<|qa<|q8 o fun y bh o=>?_;refine Qi (fun s=>.inl s = y) (fun s=>⟨[(9,.hs 0 6 0 s.length)],[(0,.dat 6 (s.map Qa))],1⟩) qf ?_ ?_
 ·refine Qd (U2 m f g l) (fun b=>⟨[(0,q9 l),(1,.d (.sl 6 (f.map Qa))),(2,.d (.sl 6 (g.map Qa))),(8,.d (.sl 1 (m.map (eI .i64)))),(9,.hs 0 6 0 b.2.2.2.length),(10,.d (.sl 4 (b.1.map Q0))),(11,q9 b.2.1),(12,q9 b.2.2.1)],[(0,.dat 6 (b.2.2.2.map Qa))],1⟩) ([],0,0,[]) y bh (wkA [] [] [0]) ?_;intro b cs n;unfold U2 at n;refine qe<|qc<|U J<|O _ J<|U J<|Qh J<|O _ J<|qa ?_;refine qn J n (fun _ n=>?_) (fun _ n=>?_)
  ·refine qk<|qe<|q8 n fun bi a n=>?_;refine Qi (fun p=>.inl p = bi) (fun p=>⟨[(0,q9 l),(1,.d (.sl 6 (f.map Qa))),(2,.d (.sl 6 (g.map Qa))),(8,.d (.sl 1 (m.map (eI .i64)))),(9,.hs 0 6 0 p.2.2.length),(10,.d (.sl 4 (p.1.map Q0))),(11,q9 p.2.1),(12,q9 b.2.2.1)],[(0,.dat 6 (p.2.2.map Qa))],1⟩) qf ?_ ?_
   ·refine qe<|Qj [q0,q0,q0,q0,q0,q0,q0,q0,q0,q0,q0,q0,q0,q0,q0] qh<|U J<|U J<|U J<|U J<|q8 a fun bj bk a=>Q9 bk J<|O _ J<|q8 a fun z bl a=>Q4 (qcz f bj z bl) J<|U J<|U J<|U J<|q8 a fun bm bn a=>Q9 bn J<|O _ J<|q8 a fun aa bo a=>Q4 (qcz g bm aa bo) J<|q8 a fun t bp a=>Q4 (qgr l z aa t bp) J<|qb J<|qa<|qe<|qc<|U J<|Qh J<|O _ J<|q8 a fun bq h a=>?_;refine Qe 11 (fun A st=>∃ ab ac ad ae af ag ah ai aj ak,st = A [(53,Q1 bq),(52,ak),(51,aj),(50,ai),(49,ah),(48,ag),(47,af),(46,ae),(45,ad),(44,ac),(43,ab)]) ?_ ?_
    ·refine Qf J J h (fun h=>?_) (fun h=>?_)
     ·refine qd J<|qd J<|qd J<|qd J<|qd J<|qd J<|qd J<|qd J<|qd J<|O _ J<|qa ?_;cases h;exact ⟨_,_,_,_,_,_,_,_,_,_,J⟩
     refine U J<|U J<|U J<|q8 h fun br bs h=>Q9 bs J<|O _ J<|q8 h fun al bt h=>Q4 (qcz f br al bt) J<|q8 h fun bu bv h=>Q4 (qcs (.cons (.refl _) (.cons (.refl _) (.cons (.nil _) .nil))) (qgr 2 al [] bu bv)) J<|Qh J<|O _ J<|O _ J<|qa ?_;cases h;exact ⟨_,_,_,_,_,_,_,_,_,_,J⟩
    rintro _ ⟨ab,ac,ad,ae,af,ag,ah,ai,aj,ak,rfl⟩;refine q8 a fun bw j a=>?_;refine Qe 11 (fun A st=>∃ am an ao ap aq ar au av aw ax,st = A [(64,Q1 bw),(63,ax),(62,aw),(61,av),(60,au),(59,ar),(58,aq),(57,ap),(56,ao),(55,an),(54,am)]) ?_ ?_
    ·refine Qf J J j (fun j=>?_) (fun j=>?_)
     ·refine qd J<|qd J<|qd J<|qd J<|qd J<|qd J<|qd J<|qd J<|qd J<|O _ J<|qa ?_;cases j;exact ⟨_,_,_,_,_,_,_,_,_,_,J⟩
     refine U J<|U J<|U J<|q8 j fun bx bz j=>Q9 bz J<|O _ J<|q8 j fun ay ca j=>Q4 (qcz g bx ay ca) J<|q8 j fun cb cc j=>Q4 (qcs (.cons (.refl _) (.cons (.refl _) (.cons (.nil _) .nil))) (qgr 2 ay [] cb cc)) J<|Qh J<|O _ J<|O _ J<|qa ?_;cases j;exact ⟨_,_,_,_,_,_,_,_,_,_,J⟩
    rintro _ ⟨am,an,ao,ap,aq,ar,au,av,aw,ax,rfl⟩;refine qa ?_;refine qn J a (fun _ a=>?_) (fun _ a=>?_)
    ·refine qc<|qb J<|qb J<|qs ?_;cases a;refine ⟨_,qm n,fun hm=>?_⟩;subst hm;cases o;exact finD (.inr J) J J (Kn (.cons (.nil _) (.cons (.refl _) .nil)))
    refine qk<|qe<|qc<|U J<|O _ J<|q8 a fun cd q a=>?_;refine Qe 5 (fun A st=>∃ az ba bb bc,st = A [(71,Q1 cd),(70,bc),(69,bb),(68,ba),(67,az)]) ?_ ?_
    ·refine Qf J J q (fun q=>?_) (fun q=>?_)
     ·refine U J<|U J<|q8 q fun ce cf q=>Q4 (qv7 t b.1 ce cf) J<|O _ J<|qa ?_;cases q;exact ⟨_,_,_,_,J⟩
     refine qd J<|qd J<|qd J<|O _ J<|qa ?_;cases q;exact ⟨_,_,_,_,J⟩
    rintro _ ⟨az,ba,bb,bc,rfl⟩;refine qa ?_;refine qn J a (fun _ a=>?_) (fun _ a=>?_)
    ·refine qe<|qc<|U J<|qb J<|qa<|q8 a fun bd cg a=>?_;refine Qi (fun u=>u = bd) (fun u=>⟨[(0,q9 l),(1,.d (.sl 6 (f.map Qa))),(2,.d (.sl 6 (g.map Qa))),(8,.d (.sl 1 (m.map (eI .i64)))),(9,.hs 0 6 0 u.length),(10,.d (.sl 4 (b.1.map Q0))),(11,q9 b.2.1),(12,q9 b.2.2.1)],[(0,.dat 6 (u.map Qa))],1⟩) qf ?_ ?_
     ·refine Qd (q45 m b) (fun v=>⟨[(0,q9 l),(1,.d (.sl 6 (f.map Qa))),(2,.d (.sl 6 (g.map Qa))),(8,.d (.sl 1 (m.map (eI .i64)))),(9,.hs 0 6 0 v.2.length),(10,.d (.sl 4 (b.1.map Q0))),(11,q9 b.2.1),(12,q9 b.2.2.1),(14,q9 v.1)],[(0,.dat 6 (v.2.map Qa))],1⟩) (b.2.1,b.2.2.2) bd cg (wkA [(0,0)] [] []) ?_;intro v ct k;unfold q45 at k;refine qe<|qc<|U J<|U J<|O _ J<|O _ J<|qa ?_;refine qn J k (fun _ k=>?_) (fun _ k=>?_)
      ·refine qk<|qe<|Q3<|qw<|U J<|U J<|U J<|U J<|O _ J<|q8 k fun be ch k=>Q9 ch J<|O _ J<|q8 k fun x bf k=>qz bf J J<|O _ J<|O _ J<|K4 (ds:=[q7 be]) ({Lo:=x.Lo,Hi:=({X:=x.Hi.X,Y:=x.Hi.Y,Z:=be} : Qb)} : qg) bf J J J J J J J J (leb J) J<|qv<|Qn<|qw<|U J<|O _ J<|qb J<|qv<|⟨_,qm k,wkE [(0,0)] [] [] J ⟨qr J,qr J,qr J,qr J,⟨_,J,K6 qf J Q2 (ltd J)⟩,qr J,qr J,qr J,qr J,trivial⟩ ⟨Qt J J,trivial⟩⟩
      refine Q8 ?_;refine ⟨_,qm k,fun hm=>?_⟩;subst hm;exact ⟨_,J,wkA [(0,0)] [] []⟩
     intro u hb;subst hb;refine Q8 ?_;cases a;exact ⟨_,J,wkA [(0,0)] [] []⟩
    refine qk<|qc<|U J<|O _ J<|U J<|qb J<|qb J<|qu<|qb J<|qa<|q8 a fun ci cj a=>Q3<|Qd (q64 t m b) (fun w=>⟨[(0,q9 l),(1,.d (.sl 6 (f.map Qa))),(2,.d (.sl 6 (g.map Qa))),(8,.d (.sl 1 (m.map (eI .i64)))),(9,.hs 0 6 0 w.2.length),(10,.d (.sl 4 (t.map Q0))),(11,q9 (b.2.2.2.length : Int)),(12,q9 b.2.2.1),(13,.d (.sl 4 (t.map Q0))),(15,q9 w.1)],[(0,.dat 6 (w.2.map Qa))],1⟩) (0,b.2.2.2) ci cj (wkA [(0,0)] [] []) ?_;intro w cu c;unfold q64 at c;refine qe<|qc<|U J<|U J<|Qh J<|O _ J<|qa ?_;refine qn J c (fun _ c=>?_) (fun _ c=>?_)
    ·refine qk<|qe<|Q3<|Qj [q0,(some [0,1],[0,2]),(some [],[1]),q0,q0,q0,q0,q0,q0,q0,q0,q0,q0,q0,q0,q0,q0,q0,q0,q0,q0,q0,q0,q0,q0,q0,q0,q0,q0,q0,q0,q0,q0,q0,q0,q0] qh<|U J<|U J<|U J<|q8 c fun cv ck c=>Q9 ck J<|O _ J<|O _ J<|U J<|U J<|q8 c fun cw cm c=>Q9 cm J<|O _ J<|O _ J<|U J<|U J<|q8 c fun cx cn c=>Q9 cn J<|O _ J<|O _ J<|U J<|U J<|q8 c fun cy co c=>Q9 co J<|O _ J<|O _ J<|U J<|U J<|q8 c fun cz cp c=>Q9 cp J<|O _ J<|O _ J<|U J<|U J<|O _ J<|q8 c fun da cq c=>Q9 cq J ?_;refine O _ J<|O _ J<|O _ J<|Qq _ _ J<|q8 c fun dc cr c=>Kr _ cr J J J J J J J (Kp J J) J J J J<|qb J<|qv<|Qn<|qw<|U J<|O _ J<|qb J<|qv<|⟨_,qm c,wkA [(0,2)] [] []⟩
    refine Q8 ?_;refine ⟨_,qm c,fun hm=>?_⟩;subst hm;cases a;exact ⟨_,J,wkA [(0,0)] [] []⟩
   intro p hb;subst hb;refine qw<|U J<|O _ J<|qb J<|qv<|⟨_,qm n,wkA [(0,0)] [] []⟩
  refine Q8 ?_;refine ⟨_,qm n,fun hm=>?_⟩;subst hm;exact ⟨_,J,wkA [(0,0)] [] []⟩
 intro s hb;subst hb;refine qc<|U J<|U J<|O _ J<|O _ J<|qb J<|qb J<|qs ?_;cases o;exact finD (.inr J) J (q25 (Yy (Zm J J) (Yy J J))) (.refl _)
theorem qmd (c : List qg) (f : List qg) (r : Bool) (b : q9k c f = some r) : Pure Tryz.prog tab 16 [.sl 6 (c.map Qa),.sl 6 (f.map Qa)] (.bool r):=by
 unfold q9k at b;refine Qo Tryz.func16 J qh qh J<|qc<|qb J<|qa<|qe<|qc<|U J<|Qh J<|U J<|Qh J<|O _ J<|qa ?_;refine qn J b (fun _ b=>?_) (fun _ b=>?_)
 ·refine qc<|qb J<|qs ?_;cases b;exact Q5 _ J
 refine qk<|qe<|qc<|qb J<|qa<|q8 b fun h k b=>?_;refine Qi (fun g=>.inl g = h) (fun g=>⟨[],[],0⟩) qf ?_ ?_
 ·refine Qd (qd1 c f) (fun j=>⟨[(0,.d (.sl 6 (c.map Qa))),(1,.d (.sl 6 (f.map Qa))),(5,q9 j)],[],0⟩) 0 h k (wkA [] [] []) ?_;intro j n a;unfold qd1 at a;refine qe<|qc<|U J<|U J<|Qh J<|O _ J<|qa ?_;refine qn J a (fun _ a=>?_) (fun _ a=>?_)
  ·refine qk<|qe<|Q3<|qe<|Qj [q0,q0,q0,q0,q0,q0,q0,q0,q0] qh<|U J<|U J<|q8 a fun o l a=>Q9 l J<|O _ J<|U J<|U J<|q8 a fun p m a=>Q9 m J<|O _ J<|O _ J<|qa ?_;refine qn J a (fun _ a=>?_) (fun _ a=>?_)
   ·refine qc<|qb J<|qs ?_;refine ⟨_,qm a,fun hm=>?_⟩;subst hm;cases b;exact Q5 _ J
   refine qk<|Qg<|Qn<|qw<|U J<|O _ J<|qb J<|qv<|⟨_,qm a,wkA [] [] []⟩
  refine Q8 ?_;refine ⟨_,qm a,fun hm=>?_⟩;subst hm;exact ⟨_,J,wkA [] [] []⟩
 intro g hb;subst hb;refine qc<|qb J<|qs ?_;cases b;exact Q5 _ J
theorem q9h (c : List qg) (r : Int) (a : q1t c = some r) : Pure Tryz.prog tab 33 [.sl 6 (c.map Qa)] (q7 r):=by
 unfold q1t at a;refine Qo Tryz.func33 J qh qh J<|qc<|qb J<|qa<|qe<|qc<|U J<|Qh J<|O _ J<|qa ?_;refine qn J a (fun _ a=>?_) (fun _ a=>?_)
 ·refine qc<|qb J<|qs ?_;cases a;exact Q5 _ J
 refine qk<|qe<|qc<|qb J<|qa<|q8 a fun h q a=>?_;refine Qi (fun g=>.inl g = h) (fun g=>⟨[(0,.d (.sl 6 (c.map Qa)))],[],0⟩) qf ?_ ?_
 ·refine Qd (q63 c) (fun j=>⟨[(0,.d (.sl 6 (c.map Qa))),(3,q9 j)],[],0⟩) 0 h q (wkA [] [] []) ?_;intro j aa b;unfold q63 at b;refine qe<|qc<|U J<|U J<|Qh J<|O _ J<|qa ?_;refine qn J b (fun _ b=>?_) (fun _ b=>?_)
  ·refine qk<|qe<|Q3<|qc<|U J<|U J<|q8 b fun s t b=>Q9 t J<|O _ J<|q8 b fun u v b=>Q4 (qgt s u v) J<|O _ J<|qa ?_;refine qn J b (fun _ b=>?_) (fun _ b=>?_)
   ·refine qc<|qb J<|qs ?_;refine ⟨_,qm b,fun hm=>?_⟩;subst hm;cases a;exact Q5 _ J
   refine qk<|Qg<|Qn<|qw<|U J<|O _ J<|qb J<|qv<|⟨_,qm b,wkA [] [] []⟩
  refine Q8 ?_;refine ⟨_,qm b,fun hm=>?_⟩;subst hm;exact ⟨_,J,wkA [] [] []⟩
 intro g hb;subst hb;refine qc<|U J<|q8 a fun k w a=>Q4 (qcs (.cons (.refl _) (.cons (.refl _) (.cons (.nil _) .nil))) (qd0 2 c [] k w)) J<|U J<|O _ J<|O _ J<|qb J<|qb J<|qa<|qe<|qc<|U J<|O _ J<|q8 a fun x f a=>?_;refine Qe 6 (fun A st=>∃ l m n o p,st = A [(33,Q1 x),(32,p),(31,o),(30,n),(29,m),(28,l)]) ?_ ?_
 ·refine Qf J J f (fun f=>?_) (fun f=>?_)
  ·refine qd J<|qd J<|qd J<|qd J<|O _ J<|qa ?_;cases f;exact ⟨_,_,_,_,_,J⟩
  refine U J<|U J<|q8 f fun y z f=>Q4 (qmd k.1 c y z) J<|O _ J<|O _ J<|qa ?_;cases f;exact ⟨_,_,_,_,_,J⟩
 rintro _ ⟨l,m,n,o,p,rfl⟩;refine qa ?_;refine qn J a (fun _ a=>?_) (fun _ a=>?_)
 ·refine qc<|qb J<|qs ?_;cases a;exact Q5 _ J
 refine qk<|qc<|qb J<|qs ?_;cases a;exact Q5 _ J
theorem qvk (a : K7) (c : List (List qg)) (r : List qg) (b : qd2 a c = some r) : Pure Tryz.prog tab 30 [.agg [q7 a.From.X,q7 a.From.Y,q7 a.From.Z,q7 a.To.X,q7 a.To.Y,q7 a.To.Z,q7 a.Depth],.sl 1 (c.map Qp)] (.sl 6 (r.map Qa)):=by
 unfold qd2 at b;refine Qo Tryz.func30 J qh qh J<|qc<|Qq _ _ J<|qb J<|qu<|U J<|O _ J<|O _ J<|U J<|Qh J<|O _ J<|q1r (r:=min a.Depth (w64 ((c.length : Int) - 1))) J J (by simp only [q1o];rfl)<|q8 b fun f d b=>Q9 d J<|O _ J<|qb J<|qs ?_;cases b;exact Q5 _ J
theorem qgs (a : Qb) (b : Qb) (r : Qb) (c : q42 a b = some r) : Pure Tryz.prog tab 31 [.agg [q7 a.X,q7 a.Y,q7 a.Z],.agg [q7 b.X,q7 b.Y,q7 b.Z]] (.agg [q7 r.X,q7 r.Y,q7 r.Z]):=by
 unfold q42 at c;refine Qo Tryz.func31 J qh qh J<|qc<|Qq _ _ J<|Qq _ _ J<|Qz J J<|qu<|O _ J<|O _ J<|O _ J<|O _ J<|O _ J<|O _ J<|O _ J<|O _ J<|O _ J<|O _ J<|O _ J<|O _ J<|O _ J<|O _ J<|O _ J<|O _ J<|Qm 2 _ J<|qs ?_;cases c;exact Q5 _ J
theorem qgu (a : qg) (b : Qb) (r : qg) (c : q49 a b = some r) : Pure Tryz.prog tab 68 [.agg [q7 a.Lo.X,q7 a.Lo.Y,q7 a.Lo.Z,q7 a.Hi.X,q7 a.Hi.Y,q7 a.Hi.Z],.agg [q7 b.X,q7 b.Y,q7 b.Z]] (.agg [q7 r.Lo.X,q7 r.Lo.Y,q7 r.Lo.Z,q7 r.Hi.X,q7 r.Hi.Y,q7 r.Hi.Z]):=by
 unfold q49 at c;refine Qo Tryz.func68 J qh qh J<|qc<|Qq _ _ J<|Qq _ _ J<|Qz J J<|qa<|qe<|Qj [Qv 2,q0,q0,qt 1,qt 0,q0,q0,qt 1,qt 0,q0] qh<|O _ J<|O _ J<|O _ J<|q8 c fun d f c=>Q4 (qgs a.Lo b d f) J<|O _ J<|O _ J<|O _ J<|q8 c fun g h c=>Q4 (qgs a.Hi b g h) J<|O _ J<|Qm 2 _ J<|qs ?_;cases c;exact Q5 _ J
theorem qgv (b : Int) (r : Int) (a : q4c b = some r) : Pure Tryz.prog tab 54 [q7 b] (q7 r):=by
 unfold q4c at a;refine Qo Tryz.func54 J qh qh J<|qc<|qb J<|qa<|qe<|qc<|U J<|O _ J<|qa ?_;refine qn J a (fun _ a=>?_) (fun _ a=>?_)
 ·refine qc<|qb J<|qs ?_;cases a;exact Q5 _ J
 refine qk<|qe<|qc<|U J<|O _ J<|qa ?_;refine qn J a (fun _ a=>?_) (fun _ a=>?_)
 ·refine qc<|qb J<|qs ?_;cases a;exact Q5 _ J
 refine qk<|qc<|qb J<|qs ?_;cases a;exact Q5 _ J
theorem qvn (a : K7) (r : List Qb) (b : q9m a = some r) : Pure Tryz.prog tab 28 [.agg [q7 a.From.X,q7 a.From.Y,q7 a.From.Z,q7 a.To.X,q7 a.To.Y,q7 a.To.Z,q7 a.Depth]] (.sl 3 (r.map q3h)):=by
 unfold q9m at b;refine Qo Tryz.func28 J qh qh J<|qc<|Qq _ _ J<|qb J<|qa<|qe<|Qj [Qv 1,(some [],[1]),q0,q0,q0,qt 0,q0,q0,qt 0,q0,q0,q0,q0,qt 0,q0,q0,qt 0,q0,q0,q0,q0,qt 0,q0,q0,qt 0,q0,q0] qh<|O _ J<|O _ J<|O _ J<|O _ J<|O _ J<|O _ J<|O _ J<|q8 b fun g l b=>Q4 (qgv (w64 (a.To.X - a.From.X)) g l) J<|O _ J<|O _ J<|O _ J<|O _ J<|O _ J<|O _ J<|O _ J<|q8 b fun h m b=>Q4 (qgv (w64 (a.To.Y - a.From.Y)) h m) J<|O _ J<|O _ J<|O _ J<|O _ J<|O _ J<|O _ J<|O _ J<|q8 b fun j n b=>Q4 (qgv (w64 (a.To.Z - a.From.Z)) j n) J<|O _ J<|Qz J J<|Qm 1 _ J<|qu<|O _ J<|O _ J ?_;refine Qq _ _ J<|qb J<|qa<|qe<|qc<|O _ J<|O _ J<|Qz J J<|Qm 3 _ J<|qa<|q8 b fun k o b=>?_;refine Qi (fun f=>f = k) (fun f=>⟨[(4,.hs 0 3 0 f.length)],[(0,.dat 3 (f.map q3h))],1⟩) qf ?_ ?_
 ·refine Qd (q6c a g h j) (fun d=>⟨[(1,.ref 0 7 0 0),(3,.ref 1 3 0 0),(4,.hs 2 3 0 d.1.length),(5,.ref 3 3 0 0)],[(0,.dat 7 [[q7 a.From.X,q7 a.From.Y,q7 a.From.Z,q7 a.To.X,q7 a.To.Y,q7 a.To.Z,q7 a.Depth]]),(1,.dat 3 [[q7 g,q7 h,q7 j]]),(2,.dat 3 (d.1.map q3h)),(3,.dat 3 [[q7 d.2.1,q7 d.2.2.1,q7 d.2.2.2]])],4⟩) ([a.From],a.From.X,a.From.Y,a.From.Z) k o (wkA [(0,0),(1,1),(2,2),(3,3)] [] []) ?_;intro d t c;unfold q6c at c;refine qe<|qc<|O _ J<|O _ J<|O _ J<|O _ J<|qa ?_;refine qn J c (fun _ c=>?_) (fun _ c=>?_)
  ·refine qk<|qe<|Q3<|qc<|O _ J<|O _ J<|q8 c fun p q c=>Q4 (qgs ({X:=d.2.1,Y:=d.2.2.1,Z:=d.2.2.2} : Qb) ({X:=g,Y:=h,Z:=j} : Qb) p q) J<|Qm 3 _ J<|qa<|qw<|U J<|O _ J<|Qq _ _ J<|q8 c fun u s c=>Kr _ s J J J J J J J (Kp J J) J J J J<|qb J<|qv<|Qn<|qc<|O _ J<|qa<|qw<|Qz J J<|Qm 6 _ J<|qv<|⟨_,qm c,wkA [(0,0),(1,1),(2,5),(3,6)] [] []⟩
  refine Q8 ?_;refine ⟨_,qm c,fun hm=>?_⟩;subst hm;exact ⟨_,J,wkA [(0,2)] [] []⟩
 intro f hb;subst hb;refine qc<|U J<|qb J<|qs ?_;cases b;exact finD (.inr J) J (Zm J J) (.refl _)
theorem qvr (a : K7) (g : List qg) (r : List qg × Int) (f : q9p a g = some r) : Pure Tryz.prog tab 42 [.agg [q7 a.From.X,q7 a.From.Y,q7 a.From.Z,q7 a.To.X,q7 a.To.Y,q7 a.To.Z,q7 a.Depth],.sl 6 (g.map Qa)] (.tup [.sl 6 (r.1.map Qa),q7 r.2]):=by
 unfold q9p at f;refine Qo Tryz.func42 J qh qh J<|qc<|Qq _ _ J<|qb J<|qb J<|qa<|qe<|qc<|qb J<|qa<|q8 f fun q ah f=>?_;refine Qi (fun p=>.inl p = q) (fun p=>⟨[(1,.d (.sl 6 (g.map Qa))),(2,.ref 0 7 0 0)],[(0,.dat 7 [[q7 a.From.X,q7 a.From.Y,q7 a.From.Z,q7 a.To.X,q7 a.To.Y,q7 a.To.Z,q7 a.Depth]])],1⟩) qf ?_ ?_
 ·refine Qd (q6f g a) (fun s=>⟨[(1,.d (.sl 6 (g.map Qa))),(2,.ref 0 7 0 0),(6,q9 s)],[(0,.dat 7 [[q7 a.From.X,q7 a.From.Y,q7 a.From.Z,q7 a.To.X,q7 a.To.Y,q7 a.To.Z,q7 a.Depth]])],1⟩) 0 q ah (wkA [(0,0)] [] []) ?_;intro s bh b;unfold q6f at b;refine qe<|qc<|U J<|U J<|Qh J<|O _ J<|qa ?_;refine qn J b (fun _ b=>?_) (fun _ b=>?_)
  ·refine qk<|qe<|Q3<|qe<|Qj [q0,q0,q0,q0,qt 0,q0,q0,q0,q0,q0,q0,q0,q0,q0,qt 0,q0,q0,q0,q0,q0] qh<|U J<|U J<|q8 b fun ai aj b=>Q9 aj J<|O _ J<|O _ J<|O _ J<|q8 b fun t ak b=>Q4 (qgu ai a.From t ak) J<|q8 b fun al am b=>Q4 (qgt t al am) J<|O _ J<|q8 b fun an h b=>?_;refine Qe 11 (fun A st=>∃ u v w x y z aa ab ac ad,st = A [(37,Q1 an),(36,ad),(35,ac),(34,ab),(33,aa),(32,z),(31,y),(30,x),(29,w),(28,v),(27,u)]) ?_ ?_
   ·refine Qf J J h (fun h=>?_) (fun h=>?_)
    ·refine qd J<|qd J<|qd J<|qd J<|qd J<|qd J<|qd J<|qd J<|qd J<|O _ J<|qa ?_;cases h;exact ⟨_,_,_,_,_,_,_,_,_,_,J⟩
    refine U J<|U J<|q8 h fun ao ap h=>Q9 ap J<|O _ J<|O _ J<|O _ J<|q8 h fun ae aq h=>Q4 (qgu ao a.To ae aq) J<|q8 h fun ar au h=>Q4 (qgt ae ar au) J<|O _ J<|O _ J<|qa ?_;cases h;exact ⟨_,_,_,_,_,_,_,_,_,_,J⟩
   rintro _ ⟨u,v,w,x,y,z,aa,ab,ac,ad,rfl⟩;refine qa ?_;refine qn J b (fun _ b=>?_) (fun _ b=>?_)
   ·refine qc<|qb J<|qb J<|qs ?_;refine ⟨_,qm b,fun hm=>?_⟩;subst hm;cases f;exact finD (.inr J) J J (Kn (.cons (.nil _) (.cons (.refl _) .nil)))
   refine qk<|Qg<|Qn<|qw<|U J<|O _ J<|qb J<|qv<|⟨_,qm b,wkA [(0,0)] [] []⟩
  refine Q8 ?_;refine ⟨_,qm b,fun hm=>?_⟩;subst hm;exact ⟨_,J,wkA [(0,0)] [] []⟩
 intro p hb;subst hb;refine qc<|qb J<|qu<|O _ J<|q8 f fun l av f=>Q4 (qvn a l av) J<|qb J<|qa<|qe<|qc<|qb J<|qa<|q8 f fun af aw f=>?_;refine Qi (fun n=>n = af) (fun n=>⟨[(7,.d (.sl 6 (n.map Qa)))],[],0⟩) qf ?_ ?_
 ·refine Qd (q4a l g) (fun j=>⟨[(1,.d (.sl 6 (g.map Qa))),(7,.d (.sl 6 (j.1.map Qa))),(8,.d (.sl 3 (l.map q3h))),(9,q9 j.2)],[],0⟩) ([],0) af aw (wkA [] [] []) ?_;intro j bi k;unfold q4a at k;refine qe<|qc<|U J<|U J<|Qh J<|O _ J<|qa ?_;refine qn J k (fun _ k=>?_) (fun _ k=>?_)
  ·refine qk<|qe<|Q3<|qc<|qb J<|qa<|qe<|qc<|qb J<|qa<|q8 k fun ag ax k=>?_;refine Qi (fun m=>m = ag) (fun m=>⟨[(1,.d (.sl 6 (g.map Qa))),(7,.d (.sl 6 (j.1.map Qa))),(8,.d (.sl 3 (l.map q3h))),(9,q9 j.2),(10,.hs 0 6 0 m.length)],[(0,.dat 6 (m.map Qa))],1⟩) qf ?_ ?_
   ·refine Qd (q4b g l j) (fun o=>⟨[(1,.d (.sl 6 (g.map Qa))),(7,.d (.sl 6 (j.1.map Qa))),(8,.d (.sl 3 (l.map q3h))),(9,q9 j.2),(10,.hs 0 6 0 o.2.length),(11,q9 o.1)],[(0,.dat 6 (o.2.map Qa))],1⟩) (0,[]) ag ax (wkA [] [] [0]) ?_;intro o bj c;unfold q4b at c;refine qe<|qc<|U J<|U J<|Qh J<|O _ J<|qa ?_;refine qn J c (fun _ c=>?_) (fun _ c=>?_)
    ·refine qk<|qe<|Q3<|Qj [q0,(some [0,1],[0,2]),(some [],[1]),q0,q0,q0,q0,q0,q0,q0,q0,q0,q0] qh<|U J<|U J<|U J<|q8 c fun ay az c=>Q9 az J<|O _ J<|U J<|U J<|q8 c fun ba bb c=>Q9 bb J<|O _ J<|q8 c fun bc bd c=>Q4 (qgu ay ba bc bd) J<|Qq _ _ J<|q8 c fun bk be c=>Kr _ be J J J J J J J (Kp J J) J J J J<|qb J<|qv<|Qn<|qw<|U J<|O _ J<|qb J<|qv<|⟨_,qm c,wkA [(0,2)] [] []⟩
    refine Q8 ?_;refine ⟨_,qm c,fun hm=>?_⟩;subst hm;exact ⟨_,J,wkA [(0,0)] [] []⟩
   intro m hb;subst hb;refine Yb (st':=⟨[(1,.d (.sl 6 (g.map Qa))),(7,.d (.sl 6 (j.1.map Qa))),(8,.d (.sl 3 (l.map q3h))),(9,q9 j.2),(10,.d (.sl 6 (m.map Qa)))],[],0⟩) (wkA [] [0] []) ?_ qf;refine qw<|U J<|U J<|q8 k fun bf bg k=>Q4 (qd0 2 j.1 m bf bg) J<|U J<|O _ J<|O _ J<|qb J<|qv<|Qn<|qw<|U J<|O _ J<|qb J<|qv<|⟨_,qm k,wkA [] [] []⟩
  refine Q8 ?_;refine ⟨_,qm k,fun hm=>?_⟩;subst hm;exact ⟨_,J,wkA [] [] []⟩
 intro n hb;subst hb;refine qe<|qc<|U J<|Qh J<|O _ J<|qa ?_;refine qn J f (fun _ f=>?_) (fun _ f=>?_)
 ·refine qc<|qb J<|qb J<|qs ?_;cases f;exact finD (.inr J) J J (Kn (.cons (.nil _) (.cons (.refl _) .nil)))
 refine qk<|qc<|U J<|qb J<|qb J<|qs ?_;cases f;exact Q5 _ J
theorem qmf (a : K5) (h : List (List qg)) (r : List (List qg) × Int) (b : q65 a h = some r) : Pure Tryz.prog tab 12 [.agg [.sl 7 (a.Lines.map Kc),.sl 5 (a.Marks.map Kf),.int .u8 a.End.Frame.Turn,q7 a.End.Frame.At.X,q7 a.End.Frame.At.Y,q7 a.End.Frame.At.Z,q7 a.End.Drawn],.sl 1 (h.map Qp)] (.tup [.sl 1 (r.1.map Qp),q7 r.2]):=by
 unfold q65 at b;refine Qo Tryz.func12 J qh qh J<|qc<|Qq _ _ J<|qb J<|qb J<|qa<|qe<|qc<|O _ J<|q8 b fun z h2 b=>Q4 (qm7 a z h2) J<|O _ J<|qa ?_;refine qn J b (fun _ b=>?_) (fun _ b=>?_)
 ·refine qc<|O _ J<|q8 b fun r5 h6 b=>Q4 (qm7 a r5 h6) J<|qb J<|qb J<|qs ?_;cases b;exact finD (.inr J) J J (Kn (.cons (.nil _) (.cons (.refl _) .nil)))
 refine qk<|qe<|qc<|U J<|Qh J<|O _ J<|qa ?_;refine qn J b (fun _ b=>?_) (fun _ b=>?_)
 ·refine qc<|qb J<|qb J<|qs ?_;cases b;exact finD (.inr J) J J (Kn (.cons (.nil _) (.cons (.refl _) .nil)))
 refine qk<|qe<|qc<|qb J<|qa<|q8 b fun o ad b=>?_;refine Qi (fun m=>.inl m = o) (fun m=>⟨[(1,.d (.sl 1 (h.map Qp))),(2,.ref 0 7 0 0)],[(0,.dat 7 [[.sl 7 (a.Lines.map Kc),.sl 5 (a.Marks.map Kf),.int .u8 a.End.Frame.Turn,q7 a.End.Frame.At.X,q7 a.End.Frame.At.Y,q7 a.End.Frame.At.Z,q7 a.End.Drawn]])],1⟩) qf ?_ ?_
 ·refine Qd (q66 h) (fun p=>⟨[(1,.d (.sl 1 (h.map Qp))),(2,.ref 0 7 0 0),(6,q9 p)],[(0,.dat 7 [[.sl 7 (a.Lines.map Kc),.sl 5 (a.Marks.map Kf),.int .u8 a.End.Frame.Turn,q7 a.End.Frame.At.X,q7 a.End.Frame.At.Y,q7 a.End.Frame.At.Z,q7 a.End.Drawn]])],1⟩) 0 o ad (wkA [(0,0)] [] []) ?_;intro p ba f;unfold q66 at f;refine qe<|qc<|U J<|U J<|Qh J<|O _ J<|qa ?_;refine qn J f (fun _ f=>?_) (fun _ f=>?_)
  ·refine qk<|qe<|Q3<|qc<|U J<|U J<|q8 f fun ae af f=>Q9 af J<|O _ J<|q8 f fun ag ah f=>Q4 (q9h ae ag ah) J<|O _ J<|qa ?_;refine qn J f (fun _ f=>?_) (fun _ f=>?_)
   ·refine qc<|U J<|U J<|q8 f fun ai aj f=>Q9 aj J<|O _ J<|q8 f fun ak al f=>Q4 (q9h ai ak al) J<|qb J<|qb J<|qs ?_;refine ⟨_,qm f,fun hm=>?_⟩;subst hm;cases b;exact finD (.inr J) J J (Kn (.cons (.nil _) (.cons (.refl _) .nil)))
   refine qk<|Qg<|Qn<|qw<|U J<|O _ J<|qb J<|qv<|⟨_,qm f,wkA [(0,0)] [] []⟩
  refine Q8 ?_;refine ⟨_,qm f,fun hm=>?_⟩;subst hm;exact ⟨_,J,wkA [(0,0)] [] []⟩
 intro m hb;subst hb;refine qe<|qc<|O _ J<|O _ J<|Qh J<|O _ J<|q8 b fun am j b=>?_;refine Qe 5 (fun A st=>∃ q s t u,st = A [(45,Q1 am),(44,u),(43,t),(42,s),(41,q)]) ?_ ?_
 ·refine Qf J J j (fun j=>?_) (fun j=>?_)
  ·refine U J<|Qh J<|O _ J<|O _ J<|qa ?_;cases j;exact ⟨_,_,_,_,J⟩
  refine qd J<|qd J<|qd J<|O _ J<|qa ?_;cases j;exact ⟨_,_,_,_,J⟩
 rintro _ ⟨q,s,t,u,rfl⟩;refine qa ?_;refine qn J b (fun _ b=>?_) (fun _ b=>?_)
 ·refine qc<|qb J<|qb J<|qs ?_;cases b;exact finD (.inr J) J J (Kn (.cons (.nil _) (.cons (.refl _) .nil)))
 refine qk<|qe<|qc<|qb J<|qa<|q8 b fun v an b=>?_;refine Qi (fun n=>.inl n = v) (fun n=>⟨[(1,.d (.sl 1 (h.map Qp))),(2,.ref 0 7 0 0)],[(0,.dat 7 [[.sl 7 (a.Lines.map Kc),.sl 5 (a.Marks.map Kf),.int .u8 a.End.Frame.Turn,q7 a.End.Frame.At.X,q7 a.End.Frame.At.Y,q7 a.End.Frame.At.Z,q7 a.End.Drawn]])],1⟩) qf ?_ ?_
 ·refine Qd (q67 a) (fun w=>⟨[(1,.d (.sl 1 (h.map Qp))),(2,.ref 0 7 0 0),(7,q9 w)],[(0,.dat 7 [[.sl 7 (a.Lines.map Kc),.sl 5 (a.Marks.map Kf),.int .u8 a.End.Frame.Turn,q7 a.End.Frame.At.X,q7 a.End.Frame.At.Y,q7 a.End.Frame.At.Z,q7 a.End.Drawn]])],1⟩) 0 v an (wkA [(0,0)] [] []) ?_;intro w bb g;unfold q67 at g;refine qe<|qc<|U J<|O _ J<|O _ J<|Qh J<|O _ J<|qa ?_;refine qn J g (fun _ g=>?_) (fun _ g=>?_)
  ·refine qk<|qe<|Q3<|qc<|O _ J<|O _ J<|U J<|q8 g fun bc ao g=>Q9 ao J<|O _ J<|O _ J<|O _ J<|qa ?_;refine qn J g (fun _ g=>?_) (fun _ g=>?_)
   ·refine qc<|qb J<|qb J<|qs ?_;refine ⟨_,qm g,fun hm=>?_⟩;subst hm;cases b;exact finD (.inr J) J J (Kn (.cons (.nil _) (.cons (.refl _) .nil)))
   refine qk<|Qg<|Qn<|qw<|U J<|O _ J<|qb J<|qv<|⟨_,qm g,wkA [(0,0)] [] []⟩
  refine Q8 ?_;refine ⟨_,qm g,fun hm=>?_⟩;subst hm;exact ⟨_,J,wkA [(0,0)] [] []⟩
 intro n hb;subst hb;refine qc<|qb J<|qa<|qe<|qc<|qb J<|qa<|q8 b fun x ap b=>?_;refine Qi (fun k=>.inl k = x) (fun k=>⟨[(8,.hs 0 1 0 k.length)],[(0,.dat 1 (k.map Qp))],1⟩) qf ?_ ?_
 ·refine Qd (q68 a h) (fun l=>⟨[(1,.d (.sl 1 (h.map Qp))),(2,.ref 0 7 0 0),(8,.hs 1 1 0 l.2.length),(9,q9 l.1)],[(0,.dat 7 [[.sl 7 (a.Lines.map Kc),.sl 5 (a.Marks.map Kf),.int .u8 a.End.Frame.Turn,q7 a.End.Frame.At.X,q7 a.End.Frame.At.Y,q7 a.End.Frame.At.Z,q7 a.End.Drawn]]),(1,.dat 1 (l.2.map Qp))],2⟩) (0,[]) x ap (wkA [(0,0)] [] [1]) ?_;intro l bd c;unfold q68 at c;refine qe<|qc<|U J<|O _ J<|O _ J<|Qh J<|O _ J<|qa ?_;refine qn J c (fun _ c=>?_) (fun _ c=>?_)
  ·refine qk<|qe<|Q3<|qe<|Qj [q0,q0,q0,q0,q0,q0,q0,q0,q0,q0,q0,qt 0,q0,q0,q0,q0,qt 0,q0] qh<|O _ J<|O _ J<|U J<|q8 c fun aq ar c=>Q9 ar J<|O _ J<|O _ J<|O _ J<|U J<|q8 c fun au av c=>Q9 av J<|O _ J<|U J<|q8 c fun y aw c=>Q4 (qvk au h y aw) J<|q8 c fun ax ay c=>Q4 (qvr aq y ax ay) J<|U J<|O _ J<|O _ J<|qb J<|qb J<|qa<|qe<|qc<|U J<|O _ J<|qa ?_;refine qn J c (fun _ c=>?_) (fun _ c=>?_)
   ·refine qc<|U J<|qb J<|qb J<|qs ?_;refine ⟨_,qm c,fun hm=>?_⟩;subst hm;cases b;exact finD (.inr J) J J (Kn (.cons (.nil _) (.cons (.refl _) .nil)))
   refine qk<|qw<|U J<|U J<|Qq _ _ J<|q8 c fun be az c=>Kr _ az J J J J J J J (Kp J J) J J J J<|qb J<|qv<|Qn<|qw<|U J<|O _ J<|qb J<|qv<|⟨_,qm c,wkA [(0,0),(1,3)] [] []⟩
  refine Q8 ?_;refine ⟨_,qm c,fun hm=>?_⟩;subst hm;exact ⟨_,J,wkA [(0,1)] [] []⟩
 intro k hb;subst hb;refine qc<|U J<|qb J<|qb J<|qs ?_;cases b;exact finD (.inr J) J (q25 (Yy (Zm J J) (Yy J J))) (.refl _)
end Go.Proofs.YtbknppciefodiaaGreat
