/- W_Allc -/
import Derived.Test.YtbknppciefodiaaGreatK17
namespace Go.Proofs.YtbknppciefodiaaGreat
open Go Go.Am Go.Sh
set_option maxHeartbeats 8000000
set_option maxRecDepth 100000
theorem qqe (a : qw) (r : Bool) (c : qc4 a = some r) : Pure Tryz.prog tab 74 [.agg [q7 a.X,q7 a.Y,q7 a.Z]] (.bool r):=by
 unfold qc4 at c;refine Qn Tryz.func74 J qi qi J<|qe<|Ql _ _ J<|qc J<|qu<|O _ J<|O _ J<|O _ J<|O _ J<|O _ J<|O _ J<|Uu (r:=min (min a.X a.Y) a.Z) J J (by simp only [Us];rfl)<|O _ J<|q8 c fun o b c=>?_;refine Qd 10 (fun A st=>∃ d f g h j k l m n,st = A [(20,Q1 o),(19,n),(18,m),(17,l),(16,k),(15,j),(14,h),(13,g),(12,f),(11,d)]) ?_ ?_
 ·refine Qa J J b (fun b=>?_) (fun b=>?_)
  ·refine O _ J<|O _ J<|O _ J<|O _ J<|O _ J<|O _ J<|Jc (r:=max (max a.X a.Y) a.Z) J J (by simp only [Jb];rfl)<|O _ J<|O _ J<|qa ?_;cases b;exact ⟨_,_,_,_,_,_,_,_,_,J⟩
  refine qd J<|qd J<|qd J<|qd J<|qd J<|qd J<|qd J<|qd J<|O _ J<|qa ?_;cases b;exact ⟨_,_,_,_,_,_,_,_,_,J⟩
 rintro _ ⟨d,f,g,h,j,k,l,m,n,rfl⟩;refine qc J<|qs ?_;cases c;exact Q6 _ J
theorem q11e (c : List qh) (g : qh→Option Bool) (p1F : FuncId) (p1C : List DV) (p1Ok : ∀ (b : qh) (r : Bool),g b = some r→Pure Tryz.prog tab p1F ([.agg [q7 b.Lo.X,q7 b.Lo.Y,q7 b.Lo.Z,q7 b.Hi.X,q7 b.Hi.Y,q7 b.Hi.Z]] ++ p1C) (.bool r)) (r : Int) (f : qed c g = some r) : Pure Tryz.prog tab 119 [.sl 6 (c.map Qh),.fn p1F p1C] (q7 r):=by
 unfold qed at f;refine Qn Tryz.func119 J qi qi J<|qe<|qc J<|qa<|qf<|qe<|U J<|Qp J<|U J<|qa<|q8 f fun j l f=>?_;refine Qm (fun h=>.inl h = j) (fun h=>⟨[],[],0⟩) qg ?_ ?_
 ·refine Qi (q4y c g) (fun k=>⟨[(0,.d (.sl 6 (c.map Qh))),(1,.d (.fn p1F p1C)),(7,q9 (c.length : Int)),(8,q9 k)],[],0⟩) 0 j l (wkA [] [] []) ?_;intro k q a;unfold q4y at a;refine qe<|O _ J<|qa<|qf ?_;refine qm J a (fun _ a=>?_) (fun _ a=>?_)
  ·refine ql<|qf<|Q7<|qe<|U J<|qc J<|qu<|U J<|U J<|U J<|q8 a fun m n a=>Qe n J<|O _ J<|q8 a fun o p a=>Yn _ (p1Ok m o p) J J J (.inl J)<|qa ?_;refine qm J a (fun _ a=>?_) (fun _ a=>?_)
   ·refine qe<|U J<|qc J<|qs ?_;refine ⟨_,qo a,fun hm=>?_⟩;subst hm;cases f;exact Q6 _ J
   refine ql<|Qj<|Qq<|qy<|O _ J<|U J<|qx<|⟨_,qo a,wkA [] [] []⟩
  refine Qb ?_;refine ⟨_,qo a,fun hm=>?_⟩;subst hm;exact ⟨_,J,wkA [] [] []⟩
 intro h hb;subst hb;refine qe<|qc J<|qs ?_;cases f;exact Q6 _ J
theorem q117 (c : List qh) (d : qh→Option Bool) (p1F : FuncId) (p1C : List DV) (p1Ok : ∀ (a : qh) (r : Bool),d a = some r→Pure Tryz.prog tab p1F ([.agg [q7 a.Lo.X,q7 a.Lo.Y,q7 a.Lo.Z,q7 a.Hi.X,q7 a.Hi.Y,q7 a.Hi.Z]] ++ p1C) (.bool r)) (r : Bool) (b : qan c d = some r) : Pure Tryz.prog tab 94 [.sl 6 (c.map Qh),.fn p1F p1C] (.bool r):=by
 unfold qan at b;refine Qn Tryz.func94 J qi qi J<|qe<|qc J<|qu<|U J<|U J<|q8 b fun f g b=>Q4 (q11e c d p1F p1C p1Ok f g) J<|O _ J<|qc J<|qs ?_;cases b;exact Q6 _ J
theorem q149 (a : qh) (r : Bool) (b : q3s a = some r) : Pure Tryz.prog tab 95 [.agg [q7 a.Lo.X,q7 a.Lo.Y,q7 a.Lo.Z,q7 a.Hi.X,q7 a.Hi.Y,q7 a.Hi.Z]] (.bool r):=by
 unfold q3s at b;refine Qn Tryz.func95 J qi qi J<|qe<|Ql _ _ J<|qc J<|qu<|O _ J<|q8 b fun c d b=>Q4 (qpl a c d) J<|O _ J<|qc J<|qs ?_;cases b;exact Q6 _ J
theorem qpe (b : List qh) (r : List qh × Int) (a : q8i b = some r) : Pure Tryz.prog tab 64 [.sl 6 (b.map Qh)] (.tup [.sl 6 (r.1.map Qh),q7 r.2]):=by
 unfold q8i at a;refine Qn Tryz.func64 J qi qi J<|qe<|qc J<|qc J<|qa<|qf<|qe<|U J<|Qp J<|O _ J<|qa ?_;refine qm J a (fun _ a=>?_) (fun _ a=>?_)
 ·refine qe<|qc J<|qc J<|qs ?_;cases a;exact finD (.inr J) J J (Ku (.cons (.nil _) (.cons (.refl _) .nil)))
 refine ql<|qf<|qe<|U J<|q8 a fun d f a=>Q4 (q117 b (fun c=>q3s c) 95 [] (fun c r hr=>q149 c r hr) d f) J<|qa ?_;refine qm J a (fun _ a=>?_) (fun _ a=>?_)
 ·refine qe<|qc J<|qc J<|qs ?_;cases a;exact finD (.inr J) J J (Ku (.cons (.nil _) (.cons (.refl _) .nil)))
 refine ql<|qe<|O _ J<|U J<|q4f (es:=1) ([b].map Qt) J J J J J<|q8 a fun g h a=>Q4 (qpm b g h) J<|O _ J<|O _ J<|qc J<|qc J<|qs ?_;cases a;exact Q6 _ J
theorem qqd (a : K3) (j : List qh) (r : List qh × Int) (c : q90 a j = some r) : Pure Tryz.prog tab 45 [.agg [q7 a.From.X,q7 a.From.Y,q7 a.From.Z,q7 a.To.X,q7 a.To.Y,q7 a.To.Z,q7 a.Depth],.sl 6 (j.map Qh)] (.tup [.sl 6 (r.1.map Qh),q7 r.2]):=by
 unfold q90 at c;refine Qn Tryz.func45 J qi qi J<|qe<|Ql _ _ J<|qc J<|qc J<|qa<|qf<|Qk [Qx 2,Qx 1,(some [],[2]),(some [],[1]),qv 0,q0,qv 0,q0] qi<|O _ J<|O _ J<|O _ J<|O _ J<|Qw J J<|Qw J J<|Q8 1 _ J<|Q8 2 _ J<|qu<|O _ J<|O _ J<|O _ J<|O _ J<|Uu (r:=min a.From.X a.To.X) J J (by simp only [Us];rfl)<|O _ J<|O _ J<|O _ J<|O _ J<|Uu (r:=min a.From.Y a.To.Y) J J (by simp only [Us];rfl)<|O _ J<|O _ J<|O _ J<|O _ J<|Uu (r:=min a.From.Z a.To.Z) J J (by simp only [Us];rfl)<|O _ J<|Qw J J<|Q8 3 _ J<|qu<|O _ J<|O _ J<|O _ J<|O _ J ?_;refine Jc (r:=max a.From.X a.To.X) J J (by simp only [Jb];rfl)<|O _ J<|O _ J<|O _ J<|O _ J<|Jc (r:=max a.From.Y a.To.Y) J J (by simp only [Jb];rfl)<|O _ J<|O _ J<|O _ J<|O _ J<|Jc (r:=max a.From.Z a.To.Z) J J (by simp only [Jb];rfl)<|O _ J<|Qw J J<|Q8 4 _ J<|qu<|qc J<|qa<|qf<|qe<|U J<|Qp J<|U J<|qa<|q8 c fun l s c=>?_;refine Qm (fun f=>.inl f = l) (fun f=>⟨[(10,.hs 0 6 0 f.length)],[(0,.dat 6 (f.map Qh))],1⟩) qg ?_ ?_
 ·refine Qi (q5j j a) (fun k=>⟨[(8,.ref 0 3 0 0),(9,.ref 1 3 0 0),(10,.hs 2 6 0 k.2.length),(50,.d (.sl 6 (j.map Qh))),(51,q9 (j.length : Int)),(52,q9 k.1)],[(0,.dat 3 [[q7 (min a.From.X a.To.X),q7 (min a.From.Y a.To.Y),q7 (min a.From.Z a.To.Z)]]),(1,.dat 3 [[q7 (max a.From.X a.To.X),q7 (max a.From.Y a.To.Y),q7 (max a.From.Z a.To.Z)]]),(2,.dat 6 (k.2.map Qh))],3⟩) (0,[]) l s (wkA [(0,3),(1,4)] [] [2]) ?_;intro k ac b;unfold q5j at b;refine qe<|O _ J<|qa<|qf ?_;refine qm J b (fun _ b=>?_) (fun _ b=>?_)
  ·refine ql<|qf<|Q7<|qe<|q8 b fun h t b=>Qe t J<|O _ J<|Qw J J<|Q8 3 _ J<|qu<|O _ J<|O _ J<|O _ J<|O _ J<|O _ J<|O _ J<|O _ J<|O _ J<|O _ J<|O _ J<|O _ J<|O _ J<|O _ J<|O _ J<|O _ J<|O _ J<|O _ J<|O _ J<|O _ J<|O _ J<|O _ J<|O _ J<|O _ J<|O _ J<|O _ J<|O _ J<|O _ J<|O _ J<|O _ J<|O _ J ?_;refine O _ J<|O _ J<|O _ J<|O _ J<|O _ J<|O _ J<|O _ J<|O _ J<|O _ J<|Qw J J<|Q8 4 _ J<|qa<|qf<|qe<|O _ J<|O _ J<|q8 b fun u v b=>Q4 (qqe ({X:=w64 (h.Lo.X + (min a.From.X a.To.X)),Y:=w64 (h.Lo.Y + (min a.From.Y a.To.Y)),Z:=w64 (h.Lo.Z + (min a.From.Z a.To.Z))} : qw) u v) J<|O _ J<|q8 b fun w g b=>?_;refine Qd 6 (fun A st=>∃ m n o p q,st = A [(104,Q1 w),(103,q),(102,p),(101,o),(100,n),(99,m)]) ?_ ?_
   ·refine Qa J J g (fun g=>?_) (fun g=>?_)
    ·refine qd J<|qd J<|qd J<|qd J<|O _ J<|qa ?_;cases g;exact ⟨_,_,_,_,_,J⟩
    refine O _ J<|O _ J<|q8 g fun x y g=>Q4 (qqe ({X:=w64 (h.Hi.X + (max a.From.X a.To.X)),Y:=w64 (h.Hi.Y + (max a.From.Y a.To.Y)),Z:=w64 (h.Hi.Z + (max a.From.Z a.To.Z))} : qw) x y) J<|O _ J<|O _ J<|qa ?_;cases g;exact ⟨_,_,_,_,_,J⟩
   rintro _ ⟨m,n,o,p,q,rfl⟩;refine qa ?_;refine qm J b (fun _ b=>?_) (fun _ b=>?_)
   ·refine qe<|qc J<|qc J<|qs ?_;refine ⟨_,qo b,fun hm=>?_⟩;subst hm;cases c;exact finD (.inr J) J J (Ku (.cons (.nil _) (.cons (.refl _) .nil)))
   refine ql<|qy<|U J<|O _ J<|Ql _ _ J<|q8 b fun ad z b=>Ks _ z J J J J J J J (Kq J J) J J J J<|qc J<|qx<|Qq<|qy<|O _ J<|U J<|qx<|⟨_,qo b,wkA [(0,0),(1,1),(2,6)] [] []⟩
  refine Qb ?_;refine ⟨_,qo b,fun hm=>?_⟩;subst hm;exact ⟨_,J,wkA [(0,2)] [] []⟩
 intro f hb;subst hb;refine qf ?_;refine Ye (st':=⟨[(10,.d (.sl 6 (f.map Qh)))],[],0⟩) (wkA [] [0] []) ?_ qg;refine qy<|U J<|q8 c fun aa ab c=>Q4 (qpe f aa ab) J<|O _ J<|O _ J<|qc J<|qc J<|qs ?_;cases c;exact Q6 _ J
theorem qqb (a : Qr) (f : List (List qh)) (r : List (List qh) × Int) (c : q8w a f = some r) : Pure Tryz.prog tab 11 [.agg [.sl 7 (a.Lines.map Kb),.sl 5 (a.Marks.map Kf),.int .u8 a.End.Frame.Turn,q7 a.End.Frame.At.X,q7 a.End.Frame.At.Y,q7 a.End.Frame.At.Z,q7 a.End.Drawn],.sl 1 (f.map Qt)] (.tup [.sl 1 (r.1.map Qt),q7 r.2]):=by
 unfold q8w at c;refine Qn Tryz.func11 J qi qi J<|qe<|Ql _ _ J<|Qw J J<|Qw J J<|qa<|qf<|qe<|O _ J<|U J<|q8 c fun o p c=>Q4 (q15h a f o p) J<|qc J<|qu<|U J<|O _ J<|qa ?_;refine qm J c (fun _ c=>?_) (fun _ c=>?_)
 ·refine qe<|U J<|Q8 1 _ J<|Q8 2 _ J<|qs ?_;cases c;exact finD (.inr J) J J (Ku (.cons (.nil _) (.cons (.refl _) .nil)))
 refine ql<|qe<|Qw J J<|qa<|qf<|qe<|O _ J<|U J<|q8 c fun q s c=>?_;refine q4e [.d (.agg [.sl 7 (a.Lines.map Kb),.sl 5 (a.Marks.map Kf),.int .u8 a.End.Frame.Turn,q7 a.End.Frame.At.X,q7 a.End.Frame.At.Y,q7 a.End.Frame.At.Z,q7 a.End.Drawn]),.d (.sl 1 (f.map Qt))] (fun m=>m = q) (fun (m : Unit)=>⟨[(4,.ref 0 1 0 0),(5,.ref 1 1 0 0),(7,.ref 2 1 0 0),(18,.fn 67 [.ref 3 7 0 0,.ref 4 1 0 0])],[(0,.dat 1 [[.nilsl]]),(1,.dat 1 [[q7 0]]),(2,.dat 1 [[.nilsl]]),(3,.dat 7 [[.sl 7 (a.Lines.map Kb),.sl 5 (a.Marks.map Kf),.int .u8 a.End.Frame.Turn,q7 a.End.Frame.At.X,q7 a.End.Frame.At.Y,q7 a.End.Frame.At.Z,q7 a.End.Drawn]]),(4,.dat 1 [[.sl 1 (f.map Qt)]])],5⟩) J J Tryz.func40 J qi qi J ?_ ?_
 ·refine qe<|Ql _ _ J<|Ql _ _ J<|qc J<|qu<|O _ J<|qc J<|qs ?_;refine ⟨.inr J,_,J,?_⟩;cases s;exact ⟨_,J,wkA [(0,1),(1,2),(2,3),(3,4),(4,5)] [] []⟩
 intro m hb;subst hb;refine qa<|Q7<|q8 c fun t l c=>?_;refine q7e (fun h=>.inl h = t) (fun h=>⟨[(4,.ref 0 1 0 0),(5,.ref 1 1 0 0),(7,.ref 2 1 0 0)],[(0,.dat 1 [[.nilsl]]),(1,.dat 1 [[q7 0]]),(2,.cel 1 [[.hs 3 1 0 h.length]]),(3,.dat 1 (h.map Qt))],4⟩) ?_ ?_
 ·refine Ye (st':=⟨[(4,.ref 0 1 0 0),(5,.ref 1 1 0 0),(7,.ref 2 1 0 0),(18,.fn 67 [.ref 3 7 0 0,.ref 4 1 0 0])],[(0,.dat 1 [[.nilsl]]),(1,.dat 1 [[q7 0]]),(2,.dat 1 [[.nilsl]]),(3,.dat 7 [[.sl 7 (a.Lines.map Kb),.sl 5 (a.Marks.map Kf),.int .u8 a.End.Frame.Turn,q7 a.End.Frame.At.X,q7 a.End.Frame.At.Y,q7 a.End.Frame.At.Z,q7 a.End.Drawn]]),(4,.dat 1 [[.sl 1 (f.map Qt)]])],5⟩) (wkA [(0,0),(1,1),(2,2),(3,3),(4,4)] [] []) ?_ qg;refine q7f _ (.inl J) Tryz.func67 J qi qi J ?_;intro A90 B91 hA90 hB91;refine qe<|O _ J<|O _ J<|Qp J<|U J<|qa<|q8 l fun u v l=>Q7<|Qi (q8x a f) (fun j=>⟨[(0,.yld 5),(2,.ref 4 1 0 0),(7,.d (.sl 7 (a.Lines.map Kb))),(8,q9 (a.Lines.length : Int)),(9,q9 j.1)],[(0,.dat 1 [[.nilsl]]),(1,.dat 1 [[q7 0]]),(2,.cel 1 [[.hs 6 1 0 j.2.length]]),(3,.dat 7 [[.sl 7 (a.Lines.map Kb),.sl 5 (a.Marks.map Kf),.int .u8 a.End.Frame.Turn,q7 a.End.Frame.At.X,q7 a.End.Frame.At.Y,q7 a.End.Frame.At.Z,q7 a.End.Drawn]]),(4,.dat 1 [[.sl 1 (f.map Qt)]]),(5,.loop [(4,.ref 0 1 0 0),(5,.ref 1 1 0 0),(7,.ref 2 1 0 0),(18,.fn 67 [.ref 3 7 0 0,.ref 4 1 0 0])] [19,20] A90 B91 .ready none),(6,.dat 1 (j.2.map Qt))],7⟩) (0,[]) u v (wkA [] [] [6]) ?_;intro j ad b;unfold q8x at b;refine qe<|O _ J<|qa<|qf ?_;refine qm J b (fun _ b=>?_) (fun _ b=>?_)
  ·refine ql<|qf<|Q7<|qe<|q8 b fun n w b=>Qe w J<|O _ J<|Qw J J<|Q8 7 _ J<|qa<|qf<|Qk [q0,(none,[0]),q0,q0,q0,q0,q0,q0,q0,q0,qv 4,qv 7,q0,qv 4,qv 7,q0] qi<|U J<|O _ J<|O _ J<|O _ J<|O _ J<|O _ J<|Qp J<|O _ J<|Uu (r:=min n.Depth (w64 ((f.length : Int) - 1))) J J (by simp only [Us];rfl)<|q8 b fun x y b=>Qe y J<|O _ J<|q8 b fun z aa b=>Q4 (qqd n x z aa) J<|O _ J<|O _ J<|qx0 J<|q8 b fun ab g b=>?_;refine q6m (fun k=>.inl k = ab) (fun (k : List (List qh))=>⟨[(0,.yld 5),(2,.ref 4 1 0 0),(7,.d (.sl 7 (a.Lines.map Kb))),(8,q9 (a.Lines.length : Int)),(9,q9 j.1),(27,Q1 true)],[(0,.dat 1 [[.nilsl]]),(1,.dat 1 [[q7 0]]),(2,.cel 1 [[.hs 6 1 0 k.length]]),(3,.dat 7 [[.sl 7 (a.Lines.map Kb),.sl 5 (a.Marks.map Kf),.int .u8 a.End.Frame.Turn,q7 a.End.Frame.At.X,q7 a.End.Frame.At.Y,q7 a.End.Frame.At.Z,q7 a.End.Drawn]]),(4,.dat 1 [[.sl 1 (f.map Qt)]]),(5,.loop [(4,.ref 0 1 0 0),(5,.ref 1 1 0 0),(7,.ref 2 1 0 0),(18,.fn 67 [.ref 3 7 0 0,.ref 4 1 0 0])] [19,20] A90 B91 .ready none),(6,.dat 1 (k.map Qt))],7⟩) hA90 hB91 J J J J J J ?_ ?_
   ·refine qe<|qc J<|qa<|qy<|qc J<|qx ?_;refine ⟨J,_,J,?_⟩;refine Q7<|qf<|qe<|U J<|O _ J<|qa ?_;refine qm J g (fun _ g=>?_) (fun _ g=>?_)
    ·refine qe<|U J<|Q8 0 _ J<|Q8 1 _ J<|qs ?_;cases g;refine ⟨_,J,?_⟩;refine qa<|O _ J<|qa<|Zk J<|q1g ?_;refine ⟨_,qo b,fun hm=>?_⟩;subst hm;refine ⟨.inr J,_,J,_,_,.ret,J,qz,?_⟩;refine qci ?_;cases l;cases c;exact finD (.inr J) J J (Ku (.cons (.nil _) (.cons (.refl _) .nil)))
    refine ql<|qy<|O _ J<|U J<|Ql _ _ J<|q8 g fun ae ac g=>Ks _ ac J J J J J J J (Kq J J) J J J J<|Q8 2 _ J<|qx<|Qq<|Qj ?_;refine ⟨_,J,?_⟩;cases g;exact ⟨_,J,wkA [(6,9)] [] []⟩
   intro k hb;subst hb;refine qa<|O _ J<|qa<|Zj J<|ql<|Qj<|Qq<|qy<|O _ J<|U J<|qx<|⟨_,qo b,wkA [(6,6)] [] []⟩
  refine Qb ?_;refine ⟨_,qo b,fun hm=>?_⟩;subst hm;refine ⟨.inl J,_,J,_,_,.nor,J,qz,?_⟩;refine q5m<|Qj ?_;cases l;exact ⟨_,J,wkA [(0,0),(1,1),(2,2),(3,6)] [] []⟩
 intro h st hb hw;subst hb;refine Ye hw ?_ qg;refine qe<|O _ J<|Q8 0 _ J<|Q8 1 _ J<|qs ?_;cases c;exact finD (.inr J) J (q3y (Y2 (Z6 J J) (Y2 J J))) (.refl _)
theorem qhx (c : K0) (r : Int) (a : q4s c = some r) : Pure Tryz.prog tab 36 [.agg [.int .u8 c.Turn,q7 c.At.X,q7 c.At.Y,q7 c.At.Z]] (q7 r):=by
 unfold q4s at a;refine Qn Tryz.func36 J qi qi J<|qe<|Ql _ _ J<|qc J<|qa<|qf<|qe<|O _ J<|O _ J<|O _ J<|q8 a fun k b a=>?_;refine Qd 6 (fun A st=>∃ d f g h j,st = A [(11,Q1 k),(10,j),(9,h),(8,g),(7,f),(6,d)]) ?_ ?_
 ·refine Qa J J b (fun b=>?_) (fun b=>?_)
  ·refine qd J<|qd J<|qd J<|qd J<|O _ J<|qa ?_;cases b;exact ⟨_,_,_,_,_,J⟩
  refine O _ J<|O _ J<|q8 b fun l m b=>Q4 (q3g c.At (-1000000) l m) J<|O _ J<|O _ J<|qa ?_;cases b;exact ⟨_,_,_,_,_,J⟩
 rintro _ ⟨d,f,g,h,j,rfl⟩;refine qa ?_;refine qm J a (fun _ a=>?_) (fun _ a=>?_)
 ·refine qe<|qc J<|qs ?_;cases a;exact Q6 _ J
 refine ql<|qe<|qc J<|qs ?_;cases a;exact Q6 _ J
theorem qyp (a : Qr) (r : Int) (c : qad a = some r) : Pure Tryz.prog tab 41 [.agg [.sl 7 (a.Lines.map Kb),.sl 5 (a.Marks.map Kf),.int .u8 a.End.Frame.Turn,q7 a.End.Frame.At.X,q7 a.End.Frame.At.Y,q7 a.End.Frame.At.Z,q7 a.End.Drawn]] (q7 r):=by
 unfold qad at c;refine Qn Tryz.func41 J qi qi J<|qe<|Ql _ _ J<|qc J<|qa<|qf<|qe<|O _ J<|O _ J<|Qp J<|O _ J<|q8 c fun c1 l c=>?_;refine Qd 6 (fun A st=>∃ w x y z j7,st = A [(17,Q1 c1),(16,j7),(15,z),(14,y),(13,x),(12,w)]) ?_ ?_
 ·refine Qa J J l (fun l=>?_) (fun l=>?_)
  ·refine qd J<|qd J<|qd J<|qd J<|O _ J<|qa ?_;cases l;exact ⟨_,_,_,_,_,J⟩
  refine O _ J<|O _ J<|Qp J<|O _ J<|O _ J<|qa ?_;cases l;exact ⟨_,_,_,_,_,J⟩
 rintro _ ⟨w,x,y,z,j7,rfl⟩;refine q8 c fun av h c=>?_;refine Qd 7 (fun A st=>∃ ab ac ad ae af ag,st = A [(24,Q1 av),(23,ag),(22,af),(21,ae),(20,ad),(19,ac),(18,ab)]) ?_ ?_
 ·refine Qa J J h (fun h=>?_) (fun h=>?_)
  ·refine qd J<|qd J<|qd J<|qd J<|qd J<|O _ J<|qa ?_;cases h;exact ⟨_,_,_,_,_,_,J⟩
  refine O _ J<|O _ J<|O _ J<|q8 h fun aw ax h=>Q4 (qhx a.End.Frame aw ax) J<|O _ J<|O _ J<|qa ?_;cases h;exact ⟨_,_,_,_,_,_,J⟩
 rintro _ ⟨ab,ac,ad,ae,af,ag,rfl⟩;refine qa ?_;refine qm J c (fun _ c=>?_) (fun _ c=>?_)
 ·refine qe<|qc J<|qs ?_;cases c;exact Q6 _ J
 refine ql<|qf<|qe<|qc J<|qa<|q8 c fun ah ay c=>?_;refine Qm (fun u=>.inl u = ah) (fun u=>⟨[(1,.ref 0 7 0 0)],[(0,.dat 7 [[.sl 7 (a.Lines.map Kb),.sl 5 (a.Marks.map Kf),.int .u8 a.End.Frame.Turn,q7 a.End.Frame.At.X,q7 a.End.Frame.At.Y,q7 a.End.Frame.At.Z,q7 a.End.Drawn]])],1⟩) qg ?_ ?_
 ·refine Qi (q6u a) (fun m=>⟨[(1,.ref 0 7 0 0),(3,q9 m)],[(0,.dat 7 [[.sl 7 (a.Lines.map Kb),.sl 5 (a.Marks.map Kf),.int .u8 a.End.Frame.Turn,q7 a.End.Frame.At.X,q7 a.End.Frame.At.Y,q7 a.End.Frame.At.Z,q7 a.End.Drawn]])],1⟩) 0 ah ay (wkA [(0,0)] [] []) ?_;intro m bp b;unfold q6u at b;refine qf<|qe<|U J<|O _ J<|O _ J<|Qp J<|O _ J<|qa ?_;refine qm J b (fun _ b=>?_) (fun _ b=>?_)
  ·refine ql<|qf<|Q7<|qf<|Qk [Qx 2,Qx 1,(some [],[2]),(some [],[1]),q0,q0,q0,q0,qv 0,q0,q0,q0,q0,q0,qv 0,q0] qi<|O _ J<|O _ J<|U J<|q8 b fun f az b=>Qe az J<|O _ J<|O _ J<|O _ J<|O _ J<|U J<|q8 b fun g ba b=>Qe ba J<|O _ J<|O _ J<|Qw J J<|Qw J J<|Q8 1 _ J<|Q8 2 _ J<|qu<|qc J<|qa<|qf<|qe<|O _ J<|O _ J<|O _ J<|O _ J<|O _ J<|qa<|q8 b fun bb n b=>?_;refine Yu (fun q=>q = bb) (fun q=>⟨[(1,.ref 0 7 0 0),(3,q9 m),(4,.ref 1 3 0 0),(5,.ref 2 3 0 0),(6,q9 q)],[(0,.dat 7 [[.sl 7 (a.Lines.map Kb),.sl 5 (a.Marks.map Kf),.int .u8 a.End.Frame.Turn,q7 a.End.Frame.At.X,q7 a.End.Frame.At.Y,q7 a.End.Frame.At.Z,q7 a.End.Drawn]]),(1,.dat 3 [[q7 f.From.X,q7 f.From.Y,q7 f.From.Z]]),(2,.dat 3 [[q7 g.To.X,q7 g.To.Y,q7 g.To.Z]])],3⟩) qg ?_ ?_
   ·refine qm J n (fun _ n=>?_) (fun _ n=>?_)
    ·refine qy<|U J<|O _ J<|qc J<|qx ?_;cases n;exact ⟨_,J,wkA [(0,0),(1,1),(2,2)] [] []⟩
    refine ql<|Qj ?_;cases n;exact ⟨_,J,wkA [(0,0),(1,1),(2,2)] [] []⟩
   intro q hb;subst hb;refine qf<|qe<|O _ J<|O _ J<|O _ J<|O _ J<|O _ J<|qa<|q8 b fun bc o b=>?_;refine Yu (fun s=>s = bc) (fun s=>⟨[(1,.ref 0 7 0 0),(3,q9 m),(4,.ref 1 3 0 0),(5,.ref 2 3 0 0),(6,q9 s)],[(0,.dat 7 [[.sl 7 (a.Lines.map Kb),.sl 5 (a.Marks.map Kf),.int .u8 a.End.Frame.Turn,q7 a.End.Frame.At.X,q7 a.End.Frame.At.Y,q7 a.End.Frame.At.Z,q7 a.End.Drawn]]),(1,.dat 3 [[q7 f.From.X,q7 f.From.Y,q7 f.From.Z]]),(2,.dat 3 [[q7 g.To.X,q7 g.To.Y,q7 g.To.Z]])],3⟩) qg ?_ ?_
   ·refine qm J o (fun _ o=>?_) (fun _ o=>?_)
    ·refine qy<|U J<|O _ J<|qc J<|qx ?_;cases o;exact ⟨_,J,wkA [(0,0),(1,1),(2,2)] [] []⟩
    refine ql<|Qj ?_;cases o;exact ⟨_,J,wkA [(0,0),(1,1),(2,2)] [] []⟩
   intro s hb;subst hb;refine qf<|qe<|O _ J<|O _ J<|O _ J<|O _ J<|O _ J<|qa<|q8 b fun bd p b=>?_;refine Yu (fun t=>t = bd) (fun t=>⟨[(1,.ref 0 7 0 0),(3,q9 m),(4,.ref 1 3 0 0),(5,.ref 2 3 0 0),(6,q9 t)],[(0,.dat 7 [[.sl 7 (a.Lines.map Kb),.sl 5 (a.Marks.map Kf),.int .u8 a.End.Frame.Turn,q7 a.End.Frame.At.X,q7 a.End.Frame.At.Y,q7 a.End.Frame.At.Z,q7 a.End.Drawn]]),(1,.dat 3 [[q7 f.From.X,q7 f.From.Y,q7 f.From.Z]]),(2,.dat 3 [[q7 g.To.X,q7 g.To.Y,q7 g.To.Z]])],3⟩) qg ?_ ?_
   ·refine qm J p (fun _ p=>?_) (fun _ p=>?_)
    ·refine qy<|U J<|O _ J<|qc J<|qx ?_;cases p;exact ⟨_,J,wkA [(0,0),(1,1),(2,2)] [] []⟩
    refine ql<|Qj ?_;cases p;exact ⟨_,J,wkA [(0,0),(1,1),(2,2)] [] []⟩
   intro t hb;subst hb;refine qe<|U J<|O _ J<|q8 b fun be j b=>?_;refine Qd 5 (fun A st=>∃ ai aj ak al,st = A [(71,Q1 be),(70,al),(69,ak),(68,aj),(67,ai)]) ?_ ?_
   ·refine Qa J J j (fun j=>?_) (fun j=>?_)
    ·refine qd J<|qd J<|qd J<|O _ J<|qa ?_;cases j;exact ⟨_,_,_,_,J⟩
    refine O _ J<|q8 j fun bf bg j=>Q4 (q3g f.From (-1000000) bf bg) J<|O _ J<|O _ J<|qa ?_;cases j;exact ⟨_,_,_,_,J⟩
   rintro _ ⟨ai,aj,ak,al,rfl⟩;refine q8 b fun bh k b=>?_;refine Qd 5 (fun A st=>∃ am an ao ap,st = A [(76,Q1 bh),(75,ap),(74,ao),(73,an),(72,am)]) ?_ ?_
   ·refine Qa J J k (fun k=>?_) (fun k=>?_)
    ·refine qd J<|qd J<|qd J<|O _ J<|qa ?_;cases k;exact ⟨_,_,_,_,J⟩
    refine O _ J<|q8 k fun bi bj k=>Q4 (q3g g.To (-1000000) bi bj) J<|O _ J<|O _ J<|qa ?_;cases k;exact ⟨_,_,_,_,J⟩
   rintro _ ⟨am,an,ao,ap,rfl⟩;refine qa ?_;refine qm J b (fun _ b=>?_) (fun _ b=>?_)
   ·refine qe<|qc J<|qs ?_;refine ⟨_,qo b,fun hm=>?_⟩;subst hm;cases c;exact Q6 _ J
   refine ql<|Qj<|Qq<|qy<|U J<|O _ J<|qc J<|qx<|⟨_,qo b,wkA [(0,0)] [] []⟩
  refine Qb ?_;refine ⟨_,qo b,fun hm=>?_⟩;subst hm;exact ⟨_,J,wkA [(0,0)] [] []⟩
 intro u hb;subst hb;refine qf<|qe<|qc J<|qa<|q8 c fun aq bk c=>?_;refine Qm (fun v=>.inl v = aq) (fun v=>⟨[],[],0⟩) qg ?_ ?_
 ·refine Qi (q6v a) (fun ar=>⟨[(1,.ref 0 7 0 0),(7,q9 ar)],[(0,.dat 7 [[.sl 7 (a.Lines.map Kb),.sl 5 (a.Marks.map Kf),.int .u8 a.End.Frame.Turn,q7 a.End.Frame.At.X,q7 a.End.Frame.At.Y,q7 a.End.Frame.At.Z,q7 a.End.Drawn]])],1⟩) 0 aq bk (wkA [(0,0)] [] []) ?_;intro ar bq d;unfold q6v at d;refine qf<|qe<|U J<|O _ J<|O _ J<|Qp J<|O _ J<|qa ?_;refine qm J d (fun _ d=>?_) (fun _ d=>?_)
  ·refine ql<|qf<|Q7<|qe<|O _ J<|O _ J<|U J<|q8 d fun bl bm d=>Qe bm J<|O _ J<|O _ J<|q8 d fun bn bo d=>Q4 (qhx bl.Frame bn bo) J<|O _ J<|qa ?_;refine qm J d (fun _ d=>?_) (fun _ d=>?_)
   ·refine qe<|qc J<|qs ?_;refine ⟨_,qo d,fun hm=>?_⟩;subst hm;cases c;exact Q6 _ J
   refine ql<|Qj<|Qq<|qy<|U J<|O _ J<|qc J<|qx<|⟨_,qo d,wkA [(0,0)] [] []⟩
  refine Qb ?_;refine ⟨_,qo d,fun hm=>?_⟩;subst hm;exact ⟨_,J,wkA [] [] []⟩
 intro v hb;subst hb;refine qe<|qc J<|qs ?_;cases c;exact Q6 _ J
theorem qyz (b : qh) (r : Bool) (a : qag b = some r) : Pure Tryz.prog tab 56 [.agg [q7 b.Lo.X,q7 b.Lo.Y,q7 b.Lo.Z,q7 b.Hi.X,q7 b.Hi.Y,q7 b.Hi.Z]] (.bool r):=by
 unfold qag at a;refine Qn Tryz.func56 J qi qi J<|qe<|Ql _ _ J<|qc J<|qu<|O _ J<|O _ J<|q8 a fun r1 h2 a=>Q4 (q3g b.Lo (-1000000) r1 h2) J<|q8 a fun c5 c a=>?_;refine Qd 5 (fun A st=>∃ h j k l,st = A [(11,Q1 c5),(10,l),(9,k),(8,j),(7,h)]) ?_ ?_
 ·refine Qa J J c (fun c=>?_) (fun c=>?_)
  ·refine O _ J<|O _ J<|q8 c fun ao ap c=>Q4 (q3g b.Hi (-1000000) ao ap) J<|O _ J<|qa ?_;cases c;exact ⟨_,_,_,_,J⟩
  refine qd J<|qd J<|qd J<|O _ J<|qa ?_;cases c;exact ⟨_,_,_,_,J⟩
 rintro _ ⟨h,j,k,l,rfl⟩;refine qc J<|qu<|U J<|q8 a fun aq d a=>?_;refine Qd 9 (fun A st=>∃ m n o p q s t u,st = A [(21,Q1 aq),(20,u),(19,t),(18,s),(17,q),(16,p),(15,o),(14,n),(13,m)]) ?_ ?_
 ·refine Qa J J d (fun d=>?_) (fun d=>?_)
  ·refine O _ J<|O _ J<|O _ J<|O _ J<|O _ J<|O _ J<|O _ J<|O _ J<|qa ?_;cases d;exact ⟨_,_,_,_,_,_,_,_,J⟩
  refine qd J<|qd J<|qd J<|qd J<|qd J<|qd J<|qd J<|O _ J<|qa ?_;cases d;exact ⟨_,_,_,_,_,_,_,_,J⟩
 rintro _ ⟨m,n,o,p,q,s,t,u,rfl⟩;refine q8 a fun ar f a=>?_;refine Qd 9 (fun A st=>∃ v w x y z aa ab ac,st = A [(30,Q1 ar),(29,ac),(28,ab),(27,aa),(26,z),(25,y),(24,x),(23,w),(22,v)]) ?_ ?_
 ·refine Qa J J f (fun f=>?_) (fun f=>?_)
  ·refine O _ J<|O _ J<|O _ J<|O _ J<|O _ J<|O _ J<|O _ J<|O _ J<|qa ?_;cases f;exact ⟨_,_,_,_,_,_,_,_,J⟩
  refine qd J<|qd J<|qd J<|qd J<|qd J<|qd J<|qd J<|O _ J<|qa ?_;cases f;exact ⟨_,_,_,_,_,_,_,_,J⟩
 rintro _ ⟨v,w,x,y,z,aa,ab,ac,rfl⟩;refine q8 a fun au g a=>?_;refine Qd 9 (fun A st=>∃ ad ae af ag ah ai aj ak,st = A [(39,Q1 au),(38,ak),(37,aj),(36,ai),(35,ah),(34,ag),(33,af),(32,ae),(31,ad)]) ?_ ?_
 ·refine Qa J J g (fun g=>?_) (fun g=>?_)
  ·refine O _ J<|O _ J<|O _ J<|O _ J<|O _ J<|O _ J<|O _ J<|O _ J<|qa ?_;cases g;exact ⟨_,_,_,_,_,_,_,_,J⟩
  refine qd J<|qd J<|qd J<|qd J<|qd J<|qd J<|qd J<|O _ J<|qa ?_;cases g;exact ⟨_,_,_,_,_,_,_,_,J⟩
 rintro _ ⟨ad,ae,af,ag,ah,ai,aj,ak,rfl⟩;refine qc J<|qs ?_;cases a;exact Q6 _ J
theorem qhu (g : List Int) (r : List Int) (n : Ub g = some r) : Pure Tryz.prog tab 101 [.sl 1 (g.map (eI .i64))] (.sl 1 (r.map (eI .i64))):=by
 unfold Ub at n;refine Qn Tryz.func101 J qi qi J<|qe<|qc J<|qu<|qc J<|qa<|qf<|qe<|qc J<|qa<|q8 n fun s bb n=>?_;refine Qm (fun l=>l = s) (fun l=>⟨[(3,.hs 0 1 0 l.length)],[(0,.dat 1 (l.map (eI .i64)))],1⟩) qg ?_ ?_
 ·refine Qi (q4k g) (fun b=>⟨[(0,.d (.sl 1 (g.map (eI .i64)))),(3,.hs 0 1 0 b.2.length),(4,q9 b.1)],[(0,.dat 1 (b.2.map (eI .i64)))],1⟩) (0,[]) s bb (wkA [] [] [0]) ?_;intro b bk h;unfold q4k at h;refine qf<|qe<|U J<|U J<|Qp J<|O _ J<|qa ?_;refine qm J h (fun _ h=>?_) (fun _ h=>?_)
  ·refine ql<|qf<|q8 h fun bc a h=>?_;refine Qm (fun m=>m = bc) (fun m=>⟨[(0,.d (.sl 1 (g.map (eI .i64)))),(3,.hs 0 1 0 m.length),(4,q9 b.1)],[(0,.dat 1 (m.map (eI .i64)))],1⟩) qg ?_ ?_
   ·refine qe<|U J<|O _ J<|qc J<|qa<|qf<|q8 a fun t bd a=>?_;refine Qm (fun o=>o = t) (fun o=>⟨[(0,.d (.sl 1 (g.map (eI .i64)))),(3,.hs 0 1 0 b.2.length),(4,q9 b.1),(5,q9 o)],[(0,.dat 1 (b.2.map (eI .i64)))],1⟩) qg ?_ ?_
    ·refine Qi (q4l b g) (fun u=>⟨[(0,.d (.sl 1 (g.map (eI .i64)))),(3,.hs 0 1 0 b.2.length),(4,q9 b.1),(5,q9 u)],[(0,.dat 1 (b.2.map (eI .i64)))],1⟩) (b.2.length : Int) t bd (wkA [(0,0)] [] []) ?_;intro u bl j;unfold q4l at j;refine qf<|qf<|Qk [q0,q0,q0,q0,q0,q0,qv 0,q0,q0,q0,q0,q0,q0,q0] qi<|U J<|O _ J<|q8 j fun be c j=>?_;refine Qd 12 (fun A st=>∃ v x y z aa ab ac ad ae af ag,st = A [(27,Q1 be),(26,ag),(25,af),(24,ae),(23,ad),(22,ac),(21,ab),(20,aa),(19,z),(18,y),(17,x),(16,v)]) ?_ ?_
     ·refine Qa J J c (fun c=>?_) (fun c=>?_)
      ·refine U J<|U J<|O _ J<|q8 c fun bm ah c=>Q2 ah J J<|Qf _ ah J<|U J<|U J<|q8 c fun bn bf c=>Qe bf J<|O _ J<|O _ J<|O _ J<|qa ?_;cases c;exact ⟨_,_,_,_,_,_,_,_,_,_,_,J⟩
      refine qd J<|qd J<|qd J<|qd J<|qd J<|qd J<|qd J<|qd J<|qd J<|qd J<|O _ J<|qa ?_;cases c;exact ⟨_,_,_,_,_,_,_,_,_,_,_,J⟩
     rintro _ ⟨v,x,y,z,aa,ab,ac,ad,ae,af,ag,rfl⟩;refine qa ?_;refine qm J j (fun _ j=>?_) (fun _ j=>?_)
     ·refine ql<|Q7<|qy<|U J<|O _ J<|qc J<|qx<|Qq<|Qj<|⟨_,qo j,wkA [(0,0)] [] []⟩
     refine Qb ?_;refine ⟨_,qo j,fun hm=>?_⟩;subst hm;exact ⟨_,J,wkA [(0,0)] [] []⟩
    intro o hb;subst hb;refine qf<|qf<|Qk [q0,q0,q0,q0,q0,q0,qv 0,q0,q0,q0,q0,q0,q0,q0] qi<|U J<|O _ J<|q8 a fun bg f a=>?_;refine Qd 12 (fun A st=>∃ ai aj ak al am an ao ap aq ar au,st = A [(43,Q1 bg),(42,au),(41,ar),(40,aq),(39,ap),(38,ao),(37,an),(36,am),(35,al),(34,ak),(33,aj),(32,ai)]) ?_ ?_
    ·refine Qa J J f (fun f=>?_) (fun f=>?_)
     ·refine U J<|U J<|O _ J<|q8 f fun bo av f=>Q2 av J J<|Qf _ av J<|U J<|U J<|q8 f fun bp bh f=>Qe bh J<|O _ J<|O _ J<|O _ J<|qa ?_;cases f;exact ⟨_,_,_,_,_,_,_,_,_,_,_,J⟩
     refine qd J<|qd J<|qd J<|qd J<|qd J<|qd J<|qd J<|qd J<|qd J<|qd J<|O _ J<|qa ?_;cases f;exact ⟨_,_,_,_,_,_,_,_,_,_,_,J⟩
    rintro _ ⟨ai,aj,ak,al,am,an,ao,ap,aq,ar,au,rfl⟩;refine qa ?_;refine qm J a (fun _ a=>?_) (fun _ a=>?_)
    ·refine Qb ?_;cases a;exact ⟨_,J,wkA [(0,0)] [] []⟩
    refine ql<|qe<|U J<|Ql _ _ J<|q8 a fun p bi a=>Ks _ bi J J J J J J J (Kq J J) J J J J<|qc J<|qa<|qf<|Qk [Qx 2,q0,q0,q0,q0,q0,q0,q0] qi<|U J<|U J<|O _ J<|q8 a fun aw q a=>qa5 q J J J J J (q9g J) (fun _=>rfl)<|U J<|U J<|q8 a fun k ax a=>qa5 ax J J J J J (q9g J) (fun _=>rfl)<|qwn (w:=aw) (xs:=p) (ys:=(p.drop k.1).take k.2) (enc:=(eI .i64)) (.hs 2 1 k.1 k.2) (qby q) J J J J J J (qtj (qby ax) J) J J J J ?_;have ay:=@qkv _ p ((p.drop k.1).take k.2) aw (qby q);refine qa<|qy<|U J<|U J<|U J<|U J<|q8 a fun az bj a=>Qe bj J<|O _ J<|q8 a fun bq ba a=>Q2 ba (by simp [ay]) J<|K7 (ds:=[q7 az]) az ba J J J J J J J J (leb J) J<|qx ?_;cases a;exact ⟨_,J,wkE [(0,2)] [] [] J ⟨qt J,⟨_,J,K8 (by simp [ay]) J qz (ltd J)⟩,qt J,trivial⟩ ⟨Qu J J,trivial⟩⟩
   intro m hb;subst hb;refine qy<|U J<|O _ J<|qc J<|qx<|⟨_,qo h,wkA [(0,0)] [] []⟩
  refine Qb ?_;refine ⟨_,qo h,fun hm=>?_⟩;subst hm;exact ⟨_,J,wkA [(0,0)] [] []⟩
 intro l hb;subst hb;refine qe<|U J<|qc J<|qs ?_;cases n;exact finD (.inr J) J (Z6 J J) (.refl _)
theorem qyu (j : List qh) (g : List qh) (r : List Int) (c : qaf j g = some r) : Pure Tryz.prog tab 78 [.sl 6 (j.map Qh),.sl 6 (g.map Qh)] (.sl 1 (r.map (eI .i64))):=by
 unfold qaf at c;refine Qn Tryz.func78 J qi qi J<|qe<|qc J<|qu<|qc J<|qa<|qf<|qe<|qc J<|qa<|q8 c fun m o c=>?_;refine Qm (fun h=>h = m) (fun h=>⟨[(1,.d (.sl 6 (g.map Qh))),(5,.hs 0 1 0 h.length)],[(0,.dat 1 (h.map (eI .i64)))],1⟩) qg ?_ ?_
 ·refine Qi (q4t j) (fun k=>⟨[(0,.d (.sl 6 (j.map Qh))),(1,.d (.sl 6 (g.map Qh))),(5,.hs 0 1 0 k.2.length),(6,q9 k.1)],[(0,.dat 1 (k.2.map (eI .i64)))],1⟩) (0,[]) m o (wkA [] [] [0]) ?_;intro k z a;unfold q4t at a;refine qf<|qe<|U J<|U J<|Qp J<|O _ J<|qa ?_;refine qm J a (fun _ a=>?_) (fun _ a=>?_)
  ·refine ql<|qf<|Q7<|Qk [q0,(some [0,1],[0,2]),(some [],[1]),q0,q0,q0,q0,q0,q0,q0,q0,q0,q0,q0,q0,q0] qi<|U J<|U J<|U J<|q8 a fun aa p a=>Qe p J<|O _ J<|O _ J<|O _ J<|U J<|U J<|q8 a fun ab q a=>Qe q J<|O _ J<|O _ J<|O _ J<|Ql _ _ J<|q8 a fun ac s a=>Ks _ s J J J J J J J (Kq J J) J J J J<|qc J<|qx<|Qq<|qy<|U J<|O _ J<|qc J<|qx<|⟨_,qo a,wkA [(0,2)] [] []⟩
  refine Qb ?_;refine ⟨_,qo a,fun hm=>?_⟩;subst hm;exact ⟨_,J,wkA [(0,0)] [] []⟩
 intro h hb;subst hb;refine qf<|qe<|qc J<|qa<|q8 c fun n t c=>?_;refine Qm (fun f=>f = n) (fun f=>⟨[(5,.hs 0 1 0 f.length)],[(0,.dat 1 (f.map (eI .i64)))],1⟩) qg ?_ ?_
 ·refine Qi (q4u g) (fun l=>⟨[(1,.d (.sl 6 (g.map Qh))),(5,.hs 0 1 0 l.2.length),(7,q9 l.1)],[(0,.dat 1 (l.2.map (eI .i64)))],1⟩) (0,h) n t (wkA [(0,0)] [] []) ?_;intro l ad b;unfold q4u at b;refine qf<|qe<|U J<|U J<|Qp J<|O _ J<|qa ?_;refine qm J b (fun _ b=>?_) (fun _ b=>?_)
  ·refine ql<|qf<|Q7<|Qk [q0,(some [0,1],[0,2]),(some [],[1]),q0,q0,q0,q0,q0,q0,q0,q0,q0,q0,q0,q0,q0] qi<|U J<|U J<|U J<|q8 b fun ae u b=>Qe u J<|O _ J<|O _ J<|O _ J<|U J<|U J<|q8 b fun af v b=>Qe v J<|O _ J<|O _ J<|O _ J<|Ql _ _ J<|q8 b fun ag w b=>Ks _ w J J J J J J J (Kq J J) J J J J<|qc J<|qx<|Qq<|qy<|U J<|O _ J<|qc J<|qx<|⟨_,qo b,wkA [(0,2)] [] []⟩
  refine Qb ?_;refine ⟨_,qo b,fun hm=>?_⟩;subst hm;exact ⟨_,J,wkA [(0,0)] [] []⟩
 intro f hb;subst hb;refine qf ?_;refine Ye (st':=⟨[(5,.d (.sl 1 (f.map (eI .i64))))],[],0⟩) (wkA [] [0] []) ?_ qg;refine qy<|U J<|q8 c fun x y c=>Q4 (qhu f x y) J<|qc J<|qs ?_;cases c;exact Q6 _ J
theorem qdy (f : List qh) (g : Int) (r : List qj) (l : Uc f g = some r) : Pure Tryz.prog tab 80 [.sl 6 (f.map Qh),q7 g] (.sl 4 (r.map Q5)):=by
 unfold Uc at l;refine Qn Tryz.func80 J qi qi J<|qe<|qc J<|qu<|qc J<|qa<|qf<|qe<|qc J<|qa<|q8 l fun m x l=>?_;refine Qm (fun h=>h = m) (fun h=>⟨[(5,.hs 0 4 0 h.length)],[(0,.dat 4 (h.map Q5))],1⟩) qg ?_ ?_
 ·refine Qi (q6w f g) (fun j=>⟨[(0,.d (.sl 6 (f.map Qh))),(1,q9 g),(5,.hs 0 4 0 j.2.length),(6,q9 j.1)],[(0,.dat 4 (j.2.map Q5))],1⟩) (0,[]) m x (wkA [] [] [0]) ?_;intro j ah b;unfold q6w at b;refine qf<|qe<|U J<|U J<|Qp J<|O _ J<|qa ?_;refine qm J b (fun _ b=>?_) (fun _ b=>?_)
  ·refine ql<|qf<|q8 b fun y a b=>?_;refine Qm (fun k=>k = y) (fun k=>⟨[(0,.d (.sl 6 (f.map Qh))),(1,q9 g),(5,.hs 0 4 0 k.length),(6,q9 j.1)],[(0,.dat 4 (k.map Q5))],1⟩) qg ?_ ?_
   ·refine qe<|U J<|U J<|q8 a fun ai z a=>Qe z J<|O _ J<|O _ J<|O _ J<|U J<|O _ J<|q8 a fun aa c a=>?_;refine Qd 10 (fun A st=>∃ n o p q s t u v w,st = A [(30,Q1 aa),(29,w),(28,v),(27,u),(26,t),(25,s),(24,q),(23,p),(22,o),(21,n)]) ?_ ?_
    ·refine Qa J J c (fun c=>?_) (fun c=>?_)
     ·refine U J<|U J<|U J<|q8 c fun aj ab c=>Qe ab J<|O _ J<|O _ J<|O _ J<|O _ J<|O _ J<|qa ?_;cases c;exact ⟨_,_,_,_,_,_,_,_,_,J⟩
     refine qd J<|qd J<|qd J<|qd J<|qd J<|qd J<|qd J<|qd J<|O _ J<|qa ?_;cases c;exact ⟨_,_,_,_,_,_,_,_,_,J⟩
    rintro _ ⟨n,o,p,q,s,t,u,v,w,rfl⟩;refine qa ?_;refine qm J a (fun _ a=>?_) (fun _ a=>?_)
    ·refine Qk [q0,(some [0,1],[0,2]),(some [],[1]),q0,q0,q0,q0,q0,q0,q0,q0,q0,q0,q0,q0,q0,q0,q0,q0,q0,q0,q0,q0,q0,q0,q0,q0,q0,q0] qi<|U J<|U J<|U J<|q8 a fun ak ac a=>Qe ac J<|O _ J<|O _ J<|O _ J<|U J<|U J<|q8 a fun al ad a=>Qe ad J<|O _ J<|O _ J<|O _ J<|U J<|U J<|q8 a fun am ae a=>Qe ae J<|O _ J<|O _ J<|O _ J<|U J<|U J<|q8 a fun an af a=>Qe af J<|O _ J<|O _ J<|O _ J<|O _ J<|Ql _ _ J<|q8 a fun ao ag a=>Ks _ ag J J J J J J J (Kq J J) J J J J<|qc J<|qx ?_;cases a;exact ⟨_,J,wkA [(0,2)] [] []⟩
    refine ql<|Qj ?_;cases a;exact ⟨_,J,wkA [(0,0)] [] []⟩
   intro k hb;subst hb;refine qy<|U J<|O _ J<|qc J<|qx<|⟨_,qo b,wkA [(0,0)] [] []⟩
  refine Qb ?_;refine ⟨_,qo b,fun hm=>?_⟩;subst hm;exact ⟨_,J,wkA [(0,0)] [] []⟩
 intro h hb;subst hb;refine qe<|U J<|qc J<|qs ?_;cases l;exact finD (.inr J) J (Z6 J J) (.refl _)
theorem qyl (j : List qj) (g : List qj) (r : List Int) (c : qab j g = some r) : Pure Tryz.prog tab 102 [.sl 4 (j.map Q5),.sl 4 (g.map Q5)] (.sl 1 (r.map (eI .i64))):=by
 unfold qab at c;refine Qn Tryz.func102 J qi qi J<|qe<|qc J<|qu<|qc J<|qa<|qf<|qe<|qc J<|qa<|q8 c fun m o c=>?_;refine Qm (fun h=>h = m) (fun h=>⟨[(1,.d (.sl 4 (g.map Q5))),(5,.hs 0 1 0 h.length)],[(0,.dat 1 (h.map (eI .i64)))],1⟩) qg ?_ ?_
 ·refine Qi (q4o j) (fun k=>⟨[(0,.d (.sl 4 (j.map Q5))),(1,.d (.sl 4 (g.map Q5))),(5,.hs 0 1 0 k.2.length),(6,q9 k.1)],[(0,.dat 1 (k.2.map (eI .i64)))],1⟩) (0,[]) m o (wkA [] [] [0]) ?_;intro k z a;unfold q4o at a;refine qf<|qe<|U J<|U J<|Qp J<|O _ J<|qa ?_;refine qm J a (fun _ a=>?_) (fun _ a=>?_)
  ·refine ql<|qf<|Q7<|Qk [q0,(some [0,1],[0,2]),(some [],[1]),q0,q0,q0,q0,q0,q0,q0,q0,q0,q0,q0] qi<|U J<|U J<|U J<|q8 a fun aa p a=>Qe p J<|O _ J<|O _ J<|U J<|U J<|q8 a fun ab q a=>Qe q J<|O _ J<|O _ J<|Ql _ _ J<|q8 a fun ac s a=>Ks _ s J J J J J J J (Kq J J) J J J J<|qc J<|qx<|Qq<|qy<|U J<|O _ J<|qc J<|qx<|⟨_,qo a,wkA [(0,2)] [] []⟩
  refine Qb ?_;refine ⟨_,qo a,fun hm=>?_⟩;subst hm;exact ⟨_,J,wkA [(0,0)] [] []⟩
 intro h hb;subst hb;refine qf<|qe<|qc J<|qa<|q8 c fun n t c=>?_;refine Qm (fun f=>f = n) (fun f=>⟨[(5,.hs 0 1 0 f.length)],[(0,.dat 1 (f.map (eI .i64)))],1⟩) qg ?_ ?_
 ·refine Qi (q4p g) (fun l=>⟨[(1,.d (.sl 4 (g.map Q5))),(5,.hs 0 1 0 l.2.length),(7,q9 l.1)],[(0,.dat 1 (l.2.map (eI .i64)))],1⟩) (0,h) n t (wkA [(0,0)] [] []) ?_;intro l ad b;unfold q4p at b;refine qf<|qe<|U J<|U J<|Qp J<|O _ J<|qa ?_;refine qm J b (fun _ b=>?_) (fun _ b=>?_)
  ·refine ql<|qf<|Q7<|Qk [q0,(some [0,1],[0,2]),(some [],[1]),q0,q0,q0,q0,q0,q0,q0,q0,q0,q0,q0] qi<|U J<|U J<|U J<|q8 b fun ae u b=>Qe u J<|O _ J<|O _ J<|U J<|U J<|q8 b fun af v b=>Qe v J<|O _ J<|O _ J<|Ql _ _ J<|q8 b fun ag w b=>Ks _ w J J J J J J J (Kq J J) J J J J<|qc J<|qx<|Qq<|qy<|U J<|O _ J<|qc J<|qx<|⟨_,qo b,wkA [(0,2)] [] []⟩
  refine Qb ?_;refine ⟨_,qo b,fun hm=>?_⟩;subst hm;exact ⟨_,J,wkA [(0,0)] [] []⟩
 intro f hb;subst hb;refine qf ?_;refine Ye (st':=⟨[(5,.d (.sl 1 (f.map (eI .i64))))],[],0⟩) (wkA [] [0] []) ?_ qg;refine qy<|U J<|q8 c fun x y c=>Q4 (qhu f x y) J<|qc J<|qs ?_;cases c;exact Q6 _ J
theorem qyn (j : List qj) (g : List qj) (r : List Int) (c : qac j g = some r) : Pure Tryz.prog tab 103 [.sl 4 (j.map Q5),.sl 4 (g.map Q5)] (.sl 1 (r.map (eI .i64))):=by
 unfold qac at c;refine Qn Tryz.func103 J qi qi J<|qe<|qc J<|qu<|qc J<|qa<|qf<|qe<|qc J<|qa<|q8 c fun m o c=>?_;refine Qm (fun h=>h = m) (fun h=>⟨[(1,.d (.sl 4 (g.map Q5))),(5,.hs 0 1 0 h.length)],[(0,.dat 1 (h.map (eI .i64)))],1⟩) qg ?_ ?_
 ·refine Qi (q4q j) (fun k=>⟨[(0,.d (.sl 4 (j.map Q5))),(1,.d (.sl 4 (g.map Q5))),(5,.hs 0 1 0 k.2.length),(6,q9 k.1)],[(0,.dat 1 (k.2.map (eI .i64)))],1⟩) (0,[]) m o (wkA [] [] [0]) ?_;intro k z a;unfold q4q at a;refine qf<|qe<|U J<|U J<|Qp J<|O _ J<|qa ?_;refine qm J a (fun _ a=>?_) (fun _ a=>?_)
  ·refine ql<|qf<|Q7<|Qk [q0,(some [0,1],[0,2]),(some [],[1]),q0,q0,q0,q0,q0,q0,q0,q0,q0,q0,q0] qi<|U J<|U J<|U J<|q8 a fun aa p a=>Qe p J<|O _ J<|O _ J<|U J<|U J<|q8 a fun ab q a=>Qe q J<|O _ J<|O _ J<|Ql _ _ J<|q8 a fun ac s a=>Ks _ s J J J J J J J (Kq J J) J J J J<|qc J<|qx<|Qq<|qy<|U J<|O _ J<|qc J<|qx<|⟨_,qo a,wkA [(0,2)] [] []⟩
  refine Qb ?_;refine ⟨_,qo a,fun hm=>?_⟩;subst hm;exact ⟨_,J,wkA [(0,0)] [] []⟩
 intro h hb;subst hb;refine qf<|qe<|qc J<|qa<|q8 c fun n t c=>?_;refine Qm (fun f=>f = n) (fun f=>⟨[(5,.hs 0 1 0 f.length)],[(0,.dat 1 (f.map (eI .i64)))],1⟩) qg ?_ ?_
 ·refine Qi (q4r g) (fun l=>⟨[(1,.d (.sl 4 (g.map Q5))),(5,.hs 0 1 0 l.2.length),(7,q9 l.1)],[(0,.dat 1 (l.2.map (eI .i64)))],1⟩) (0,h) n t (wkA [(0,0)] [] []) ?_;intro l ad b;unfold q4r at b;refine qf<|qe<|U J<|U J<|Qp J<|O _ J<|qa ?_;refine qm J b (fun _ b=>?_) (fun _ b=>?_)
  ·refine ql<|qf<|Q7<|Qk [q0,(some [0,1],[0,2]),(some [],[1]),q0,q0,q0,q0,q0,q0,q0,q0,q0,q0,q0] qi<|U J<|U J<|U J<|q8 b fun ae u b=>Qe u J<|O _ J<|O _ J<|U J<|U J<|q8 b fun af v b=>Qe v J<|O _ J<|O _ J<|Ql _ _ J<|q8 b fun ag w b=>Ks _ w J J J J J J J (Kq J J) J J J J<|qc J<|qx<|Qq<|qy<|U J<|O _ J<|qc J<|qx<|⟨_,qo b,wkA [(0,2)] [] []⟩
  refine Qb ?_;refine ⟨_,qo b,fun hm=>?_⟩;subst hm;exact ⟨_,J,wkA [(0,0)] [] []⟩
 intro f hb;subst hb;refine qf ?_;refine Ye (st':=⟨[(5,.d (.sl 1 (f.map (eI .i64))))],[],0⟩) (wkA [] [0] []) ?_ qg;refine qy<|U J<|q8 c fun x y c=>Q4 (qhu f x y) J<|qc J<|qs ?_;cases c;exact Q6 _ J
theorem qo6 (h : List qj) (j : Int) (k : Int) (r : Bool) (g : q6q h j k = some r) : Pure Tryz.prog tab 105 [.sl 4 (h.map Q5),q7 j,q7 k] (.bool r):=by
 unfold q6q at g;refine Qn Tryz.func105 J qi qi J<|qe<|qc J<|qa<|qf<|qe<|qc J<|qa<|q8 g fun m an g=>?_;refine Qm (fun l=>.inl l = m) (fun l=>⟨[],[],0⟩) qg ?_ ?_
 ·refine Qi (q3e h j k) (fun n=>⟨[(0,.d (.sl 4 (h.map Q5))),(1,q9 j),(2,q9 k),(7,q9 n)],[],0⟩) 0 m an (wkA [] [] []) ?_;intro n ax a;unfold q3e at a;refine qf<|qe<|U J<|U J<|Qp J<|O _ J<|qa ?_;refine qm J a (fun _ a=>?_) (fun _ a=>?_)
  ·refine ql<|qf<|Q7<|qe<|U J<|U J<|q8 a fun ay ao a=>Qe ao J<|O _ J<|O _ J<|U J<|O _ J<|q8 a fun ap b a=>?_;refine Qd 9 (fun A st=>∃ o p q s t u v w,st = A [(29,Q1 ap),(28,w),(27,v),(26,u),(25,t),(24,s),(23,q),(22,p),(21,o)]) ?_ ?_
   ·refine Qa J J b (fun b=>?_) (fun b=>?_)
    ·refine U J<|U J<|U J<|q8 b fun az aq b=>Qe aq J<|O _ J<|O _ J<|O _ J<|O _ J<|qa ?_;cases b;exact ⟨_,_,_,_,_,_,_,_,J⟩
    refine qd J<|qd J<|qd J<|qd J<|qd J<|qd J<|qd J<|O _ J<|qa ?_;cases b;exact ⟨_,_,_,_,_,_,_,_,J⟩
   rintro _ ⟨o,p,q,s,t,u,v,w,rfl⟩;refine q8 a fun ar c a=>?_;refine Qd 9 (fun A st=>∃ x y z aa ab ac ad ae,st = A [(38,Q1 ar),(37,ae),(36,ad),(35,ac),(34,ab),(33,aa),(32,z),(31,y),(30,x)]) ?_ ?_
   ·refine Qa J J c (fun c=>?_) (fun c=>?_)
    ·refine U J<|U J<|q8 c fun ba au c=>Qe au J<|O _ J<|O _ J<|U J<|O _ J<|O _ J<|qa ?_;cases c;exact ⟨_,_,_,_,_,_,_,_,J⟩
    refine qd J<|qd J<|qd J<|qd J<|qd J<|qd J<|qd J<|O _ J<|qa ?_;cases c;exact ⟨_,_,_,_,_,_,_,_,J⟩
   rintro _ ⟨x,y,z,aa,ab,ac,ad,ae,rfl⟩;refine q8 a fun av f a=>?_;refine Qd 9 (fun A st=>∃ af ag ah ai aj ak al am,st = A [(47,Q1 av),(46,am),(45,al),(44,ak),(43,aj),(42,ai),(41,ah),(40,ag),(39,af)]) ?_ ?_
   ·refine Qa J J f (fun f=>?_) (fun f=>?_)
    ·refine U J<|U J<|U J<|q8 f fun bb aw f=>Qe aw J<|O _ J<|O _ J<|O _ J<|O _ J<|qa ?_;cases f;exact ⟨_,_,_,_,_,_,_,_,J⟩
    refine qd J<|qd J<|qd J<|qd J<|qd J<|qd J<|qd J<|O _ J<|qa ?_;cases f;exact ⟨_,_,_,_,_,_,_,_,J⟩
   rintro _ ⟨af,ag,ah,ai,aj,ak,al,am,rfl⟩;refine qa ?_;refine qm J a (fun _ a=>?_) (fun _ a=>?_)
   ·refine qe<|qc J<|qs ?_;refine ⟨_,qo a,fun hm=>?_⟩;subst hm;cases g;exact Q6 _ J
   refine ql<|Qj<|Qq<|qy<|U J<|O _ J<|qc J<|qx<|⟨_,qo a,wkA [] [] []⟩
  refine Qb ?_;refine ⟨_,qo a,fun hm=>?_⟩;subst hm;exact ⟨_,J,wkA [] [] []⟩
 intro l hb;subst hb;refine qe<|qc J<|qs ?_;cases g;exact Q6 _ J
theorem qyf (f : Int) (g : Bool) (h : Bool) (r : Bool) (a : q6o f g h = some r) : Pure Tryz.prog tab 104 [q7 f,.bool g,.bool h] (.bool r):=by
 unfold q6o at a;refine Qn Tryz.func104 J qi qi J<|qe<|qc J<|qa<|qf<|qe<|U J<|O _ J<|qa ?_;refine qm J a (fun _ a=>?_) (fun _ a=>?_)
 ·refine qe<|U J<|q8 a fun q b a=>?_;refine Qd 3 (fun A st=>∃ j k,st = A [(12,Q1 q),(11,k),(10,j)]) ?_ ?_
  ·refine Qa J J b (fun b=>?_) (fun b=>?_)
   ·refine U J<|O _ J<|qa ?_;cases b;exact ⟨_,_,J⟩
   refine qd J<|O _ J<|qa ?_;cases b;exact ⟨_,_,J⟩
  rintro _ ⟨j,k,rfl⟩;refine qc J<|qs ?_;cases a;exact Q6 _ J
 refine ql<|qf<|qe<|U J<|O _ J<|qa ?_;refine qm J a (fun _ a=>?_) (fun _ a=>?_)
 ·refine qe<|U J<|q8 a fun s c a=>?_;refine Qd 3 (fun A st=>∃ l m,st = A [(18,Q1 s),(17,m),(16,l)]) ?_ ?_
  ·refine Qa J J c (fun c=>?_) (fun c=>?_)
   ·refine qd J<|O _ J<|qa ?_;cases c;exact ⟨_,_,J⟩
   refine U J<|O _ J<|qa ?_;cases c;exact ⟨_,_,J⟩
  rintro _ ⟨l,m,rfl⟩;refine qc J<|qs ?_;cases a;exact Q6 _ J
 refine ql<|qe<|U J<|q8 a fun t d a=>?_;refine Qd 4 (fun A st=>∃ n o p,st = A [(23,Q1 t),(22,p),(21,o),(20,n)]) ?_ ?_
 ·refine Qa J J d (fun d=>?_) (fun d=>?_)
  ·refine U J<|O _ J<|O _ J<|qa ?_;cases d;exact ⟨_,_,_,J⟩
  refine qd J<|qd J<|O _ J<|qa ?_;cases d;exact ⟨_,_,_,J⟩
 rintro _ ⟨n,o,p,rfl⟩;refine qc J<|qs ?_;cases a;exact Q6 _ J
theorem qyd (f : List Int) (g : List Bool) (r : List qn) (l : q4i f g = some r) : Pure Tryz.prog tab 106 [.sl 1 (f.map (eI .i64)),.sl 1 (g.map eB)] (.sl 2 (r.map Qo)):=by
 unfold q4i at l;refine Qn Tryz.func106 J qi qi J<|qe<|qc J<|qu<|qc J<|qa<|qf<|qe<|qc J<|qa<|q8 l fun m ad l=>?_;refine Qm (fun h=>h = m) (fun h=>⟨[(5,.hs 0 2 0 h.length)],[(0,.dat 2 (h.map Qo))],1⟩) qg ?_ ?_
 ·refine Qi (q4j f g) (fun j=>⟨[(0,.d (.sl 1 (f.map (eI .i64)))),(1,.d (.sl 1 (g.map eB))),(5,.hs 0 2 0 j.2.length),(6,q9 j.1)],[(0,.dat 2 (j.2.map Qo))],1⟩) (0,[]) m ad (wkA [] [] [0]) ?_;intro j an c;unfold q4j at c;refine qf<|qe<|U J<|O _ J<|U J<|Qp J<|O _ J<|qa ?_;refine qm J c (fun _ c=>?_) (fun _ c=>?_)
  ·refine ql<|qf<|q8 c fun ae a c=>?_;refine Qm (fun k=>k = ae) (fun k=>⟨[(0,.d (.sl 1 (f.map (eI .i64)))),(1,.d (.sl 1 (g.map eB))),(5,.hs 0 2 0 k.length),(6,q9 j.1)],[(0,.dat 2 (k.map Qo))],1⟩) qg ?_ ?_
   ·refine qf<|qe<|U J<|U J<|q8 a fun ao af a=>Qe af J<|O _ J<|O _ J<|qa ?_;refine qm J a (fun _ a=>?_) (fun _ a=>?_)
    ·refine Qb ?_;cases a;exact ⟨_,J,wkA [(0,0)] [] []⟩
    refine ql<|qe<|U J<|O _ J<|qc J<|qa<|qf<|Qk [q0,q0,q0,q0,q0,q0,qv 0,q0,q0,q0,q0,q0,q0,q0,q0] qi<|U J<|O _ J<|q8 a fun ag b a=>?_;refine Qd 13 (fun A st=>∃ n o p q s t u v w x y z,st = A [(36,Q1 ag),(35,z),(34,y),(33,x),(32,w),(31,v),(30,u),(29,t),(28,s),(27,q),(26,p),(25,o),(24,n)]) ?_ ?_
    ·refine Qa J J b (fun b=>?_) (fun b=>?_)
     ·refine U J<|U J<|O _ J<|q8 b fun ap aa b=>Q2 aa J J<|O _ J<|Qf _ aa J<|U J<|U J<|q8 b fun aq ah b=>Qe ah J<|O _ J<|O _ J<|O _ J<|qa ?_;cases b;exact ⟨_,_,_,_,_,_,_,_,_,_,_,_,J⟩
     refine qd J<|qd J<|qd J<|qd J<|qd J<|qd J<|qd J<|qd J<|qd J<|qd J<|qd J<|O _ J<|qa ?_;cases b;exact ⟨_,_,_,_,_,_,_,_,_,_,_,_,J⟩
    rintro _ ⟨n,o,p,q,s,t,u,v,w,x,y,z,rfl⟩;refine qa ?_;refine qm J a (fun _ a=>?_) (fun _ a=>?_)
    ·refine qy<|U J<|U J<|O _ J<|U J<|U J<|O _ J<|q8 a fun ab ai a=>Qe ai J<|O _ J<|q8 a fun aj ac a=>Q2 ac J J<|O _ J<|K7 (ds:=[q7 ab]) ({Lo:=aj.Lo,Hi:=ab} : qn) ac J J J J J J J J (leb J) J<|qx ?_;cases a;exact ⟨_,J,wkE [(0,0)] [] [] J ⟨qt J,qt J,⟨_,J,K8 qg J qz (ltd J)⟩,qt J,trivial⟩ ⟨Qu J J,trivial⟩⟩
    refine Qk [q0,(some [0,1],[0,2]),(some [],[1]),q0,q0,q0,q0,q0,q0,q0,q0,q0,q0,q0] qi<|U J<|U J<|U J<|q8 a fun ar ak a=>Qe ak J<|O _ J<|U J<|U J<|O _ J<|q8 a fun au al a=>Qe al J<|O _ J<|O _ J<|Ql _ _ J<|q8 a fun av am a=>Ks _ am J J J J J J J (Kq J J) J J J J<|qc J<|qx ?_;cases a;exact ⟨_,J,wkA [(0,2)] [] []⟩
   intro k hb;subst hb;refine qy<|U J<|O _ J<|qc J<|qx<|⟨_,qo c,wkA [(0,0)] [] []⟩
  refine Qb ?_;refine ⟨_,qo c,fun hm=>?_⟩;subst hm;exact ⟨_,J,wkA [(0,0)] [] []⟩
 intro h hb;subst hb;refine qe<|U J<|qc J<|qs ?_;cases l;exact finD (.inr J) J (Z6 J J) (.refl _)
theorem qyg (c : List qn) (f : List qn) (r : Bool) (b : q6p c f = some r) : Pure Tryz.prog tab 107 [.sl 2 (c.map Qo),.sl 2 (f.map Qo)] (.bool r):=by
 unfold q6p at b;refine Qn Tryz.func107 J qi qi J<|qe<|qc J<|qa<|qf<|qe<|U J<|Qp J<|U J<|Qp J<|O _ J<|qa ?_;refine qm J b (fun _ b=>?_) (fun _ b=>?_)
 ·refine qe<|qc J<|qs ?_;cases b;exact Q6 _ J
 refine ql<|qf<|qe<|qc J<|qa<|q8 b fun h k b=>?_;refine Qm (fun g=>.inl g = h) (fun g=>⟨[],[],0⟩) qg ?_ ?_
 ·refine Qi (qdv c f) (fun j=>⟨[(0,.d (.sl 2 (c.map Qo))),(1,.d (.sl 2 (f.map Qo))),(5,q9 j)],[],0⟩) 0 h k (wkA [] [] []) ?_;intro j n a;unfold qdv at a;refine qf<|qe<|U J<|U J<|Qp J<|O _ J<|qa ?_;refine qm J a (fun _ a=>?_) (fun _ a=>?_)
  ·refine ql<|qf<|Q7<|qf<|Qk [q0,q0,q0,q0,q0,q0,q0,q0,q0] qi<|U J<|U J<|q8 a fun o l a=>Qe l J<|O _ J<|U J<|U J<|q8 a fun p m a=>Qe m J<|O _ J<|O _ J<|qa ?_;refine qm J a (fun _ a=>?_) (fun _ a=>?_)
   ·refine qe<|qc J<|qs ?_;refine ⟨_,qo a,fun hm=>?_⟩;subst hm;cases b;exact Q6 _ J
   refine ql<|Qj<|Qq<|qy<|U J<|O _ J<|qc J<|qx<|⟨_,qo a,wkA [] [] []⟩
  refine Qb ?_;refine ⟨_,qo a,fun hm=>?_⟩;subst hm;exact ⟨_,J,wkA [] [] []⟩
 intro g hb;subst hb;refine qe<|qc J<|qs ?_;cases b;exact Q6 _ J
theorem qhv (j : Int) (f : List qj) (g : List qj) (r : List qj) (n : Jp j f g = some r) : Pure Tryz.prog tab 79 [q7 j,.sl 4 (f.map Q5),.sl 4 (g.map Q5)] (.sl 4 (r.map Q5)):=by
 unfold Jp at n;refine Qn Tryz.func79 J qi qi J<|qe<|qc J<|qu<|U J<|U J<|q8 n fun k h2 n=>Q4 (qyl f g k h2) J<|U J<|U J<|q8 n fun l h4 n=>Q4 (qyn f g l h4) J<|qc J<|qc J<|qu<|qc J<|qu<|qc J<|qu<|qc J<|qa<|qf<|qe<|qc J<|qa<|q8 n fun aa an n=>?_;refine Qm (fun t=>t = aa) (fun t=>⟨[(9,.hs 0 4 0 t.length)],[(0,.dat 4 (t.map Q5))],1⟩) qg ?_ ?_
 ·refine Qi (q3f k l f g j) (fun a=>⟨[(0,q9 j),(1,.d (.sl 4 (f.map Q5))),(2,.d (.sl 4 (g.map Q5))),(7,.d (.sl 1 (k.map (eI .i64)))),(8,.d (.sl 1 (l.map (eI .i64)))),(9,.hs 0 4 0 a.2.2.2.length),(10,.d (.sl 2 (a.1.map Qo))),(11,q9 a.2.1),(12,q9 a.2.2.1)],[(0,.dat 4 (a.2.2.2.map Q5))],1⟩) ([],0,0,[]) aa an (wkA [] [] [0]) ?_;intro a bs o;unfold q3f at o;refine qf<|qe<|U J<|O _ J<|U J<|Qp J<|O _ J<|qa ?_;refine qm J o (fun _ o=>?_) (fun _ o=>?_)
  ·refine ql<|qf<|q8 o fun ao h o=>?_;refine Qm (fun p=>p = ao) (fun p=>⟨[(0,q9 j),(1,.d (.sl 4 (f.map Q5))),(2,.d (.sl 4 (g.map Q5))),(7,.d (.sl 1 (k.map (eI .i64)))),(8,.d (.sl 1 (l.map (eI .i64)))),(9,.hs 0 4 0 p.2.2.length),(10,.d (.sl 2 (p.1.map Qo))),(11,q9 p.2.1),(12,q9 a.2.2.1)],[(0,.dat 4 (p.2.2.map Q5))],1⟩) qg ?_ ?_
   ·refine qe<|qc J<|qa<|qf<|qe<|qc J<|qa<|q8 h fun ab ap h=>?_;refine Qm (fun q=>q = ab) (fun q=>⟨[(0,q9 j),(1,.d (.sl 4 (f.map Q5))),(2,.d (.sl 4 (g.map Q5))),(7,.d (.sl 1 (k.map (eI .i64)))),(8,.d (.sl 1 (l.map (eI .i64)))),(9,.hs 0 4 0 a.2.2.2.length),(10,.d (.sl 2 (a.1.map Qo))),(11,q9 a.2.1),(12,q9 a.2.2.1),(13,.hs 1 1 0 q.length)],[(0,.dat 4 (a.2.2.2.map Q5)),(1,.dat 1 (q.map eB))],2⟩) qg ?_ ?_
    ·refine Qi (q4m l k a f g j) (fun w=>⟨[(0,q9 j),(1,.d (.sl 4 (f.map Q5))),(2,.d (.sl 4 (g.map Q5))),(7,.d (.sl 1 (k.map (eI .i64)))),(8,.d (.sl 1 (l.map (eI .i64)))),(9,.hs 0 4 0 a.2.2.2.length),(10,.d (.sl 2 (a.1.map Qo))),(11,q9 a.2.1),(12,q9 a.2.2.1),(13,.hs 1 1 0 w.2.length),(14,q9 w.1)],[(0,.dat 4 (a.2.2.2.map Q5)),(1,.dat 1 (w.2.map eB))],2⟩) (0,[]) ab ap (wkA [(0,0)] [] [1]) ?_;intro w bt b;unfold q4m at b;refine qf<|qe<|U J<|U J<|Qp J<|O _ J<|qa ?_;refine qm J b (fun _ b=>?_) (fun _ b=>?_)
     ·refine ql<|qf<|Q7<|Qk [q0,(some [1,2],[1,3]),(some [],[2]),q0,q0,q0,q0,q0,q0,q0,q0,q0,q0,q0,q0,q0,q0,q0,q0,q0,q0,q0,q0,q0,q0,q0] qi<|U J<|U J<|U J<|U J<|U J<|q8 b fun aq ar b=>Qe ar J<|O _ J<|U J<|U J<|q8 b fun au av b=>Qe av J<|O _ J<|q8 b fun ac aw b=>Q4 (qo6 f aq au ac aw) J<|U J<|U J<|U J<|q8 b fun ax ay b=>Qe ay J<|O _ J<|U J<|U J<|q8 b fun az ba b=>Qe ba J<|O _ J<|q8 b fun ad bb b=>Q4 (qo6 g ax az ad bb) J<|q8 b fun bc bd b=>Q4 (qyf j ac ad bc bd) J<|Ql _ _ J<|q8 b fun bu be b=>Ks _ be J J J J J J J (Kq J J) J J J J<|qc J<|qx<|Qq ?_;refine qy<|U J<|O _ J<|qc J<|qx<|⟨_,qo b,wkA [(0,0),(1,3)] [] []⟩
     refine Qb ?_;refine ⟨_,qo b,fun hm=>?_⟩;subst hm;exact ⟨_,J,wkA [(0,0),(1,1)] [] []⟩
    intro q hb;subst hb;refine qf ?_;refine Ye (st':=⟨[(0,q9 j),(1,.d (.sl 4 (f.map Q5))),(2,.d (.sl 4 (g.map Q5))),(7,.d (.sl 1 (k.map (eI .i64)))),(8,.d (.sl 1 (l.map (eI .i64)))),(9,.hs 0 4 0 a.2.2.2.length),(10,.d (.sl 2 (a.1.map Qo))),(11,q9 a.2.1),(12,q9 a.2.2.1),(13,.d (.sl 1 (q.map eB)))],[(0,.dat 4 (a.2.2.2.map Q5))],1⟩) (wkA [(0,0)] [1] []) ?_ qg;refine qy<|U J<|U J<|q8 h fun u bf h=>Q4 (qyd l q u bf) J<|qc J<|qa<|qf<|qe<|U J<|O _ J<|q8 h fun bg s h=>?_;refine Qd 5 (fun A st=>∃ ae af ag ah,st = A [(71,Q1 bg),(70,ah),(69,ag),(68,af),(67,ae)]) ?_ ?_
    ·refine Qa J J s (fun s=>?_) (fun s=>?_)
     ·refine U J<|U J<|q8 s fun bh bi s=>Q4 (qyg u a.1 bh bi) J<|O _ J<|qa ?_;cases s;exact ⟨_,_,_,_,J⟩
     refine qd J<|qd J<|qd J<|O _ J<|qa ?_;cases s;exact ⟨_,_,_,_,J⟩
    rintro _ ⟨ae,af,ag,ah,rfl⟩;refine qa ?_;refine qm J h (fun _ h=>?_) (fun _ h=>?_)
    ·refine qf<|qe<|U J<|qc J<|qa<|q8 h fun ai bj h=>?_;refine Qm (fun v=>v = ai) (fun v=>⟨[(0,q9 j),(1,.d (.sl 4 (f.map Q5))),(2,.d (.sl 4 (g.map Q5))),(7,.d (.sl 1 (k.map (eI .i64)))),(8,.d (.sl 1 (l.map (eI .i64)))),(9,.hs 0 4 0 v.length),(10,.d (.sl 2 (a.1.map Qo))),(11,q9 a.2.1),(12,q9 a.2.2.1)],[(0,.dat 4 (v.map Q5))],1⟩) qg ?_ ?_
     ·refine Qi (q4n k a) (fun x=>⟨[(0,q9 j),(1,.d (.sl 4 (f.map Q5))),(2,.d (.sl 4 (g.map Q5))),(7,.d (.sl 1 (k.map (eI .i64)))),(8,.d (.sl 1 (l.map (eI .i64)))),(9,.hs 0 4 0 x.2.length),(10,.d (.sl 2 (a.1.map Qo))),(11,q9 a.2.1),(12,q9 a.2.2.1),(16,q9 x.1)],[(0,.dat 4 (x.2.map Q5))],1⟩) (a.2.1,a.2.2.2) ai bj (wkA [(0,0)] [] []) ?_;intro x bv m;unfold q4n at m;refine qf<|qe<|U J<|U J<|O _ J<|O _ J<|qa ?_;refine qm J m (fun _ m=>?_) (fun _ m=>?_)
      ·refine ql<|qf<|Q7<|qy<|U J<|U J<|U J<|U J<|O _ J<|q8 m fun aj bk m=>Qe bk J<|O _ J<|q8 m fun z ak m=>Q2 ak J J<|O _ J<|K7 (ds:=[q7 aj]) ({X0:=z.X0,Y0:=z.Y0,X1:=aj,Y1:=z.Y1} : qj) ak J J J J J J J J (leb J) J<|qx<|Qq<|qy<|U J<|O _ J<|qc J<|qx<|⟨_,qo m,wkE [(0,0)] [] [] J ⟨qt J,qt J,qt J,qt J,qt J,⟨_,J,K8 qg J qz (ltd J)⟩,qt J,qt J,qt J,qt J,trivial⟩ ⟨Qu J J,trivial⟩⟩
      refine Qb ?_;refine ⟨_,qo m,fun hm=>?_⟩;subst hm;exact ⟨_,J,wkA [(0,0)] [] []⟩
     intro v hb;subst hb;refine Qb ?_;cases h;exact ⟨_,J,wkA [(0,0)] [] []⟩
    refine ql<|qe<|U J<|O _ J<|U J<|qc J<|qc J<|qu<|qc J<|qa<|q8 h fun bl bm h=>Q7<|Qi (q6r u k a) (fun y=>⟨[(0,q9 j),(1,.d (.sl 4 (f.map Q5))),(2,.d (.sl 4 (g.map Q5))),(7,.d (.sl 1 (k.map (eI .i64)))),(8,.d (.sl 1 (l.map (eI .i64)))),(9,.hs 0 4 0 y.2.length),(10,.d (.sl 2 (u.map Qo))),(11,q9 (a.2.2.2.length : Int)),(12,q9 a.2.2.1),(15,.d (.sl 2 (u.map Qo))),(17,q9 y.1)],[(0,.dat 4 (y.2.map Q5))],1⟩) (0,a.2.2.2) bl bm (wkA [(0,0)] [] []) ?_;intro y bw c;unfold q6r at c;refine qf<|qe<|U J<|U J<|Qp J<|O _ J<|qa ?_;refine qm J c (fun _ c=>?_) (fun _ c=>?_)
    ·refine ql<|qf<|Q7<|Qk [q0,(some [0,1],[0,2]),(some [],[1]),q0,q0,q0,q0,q0,q0,q0,q0,q0,q0,q0,q0,q0,q0,q0,q0,q0,q0,q0,q0,q0] qi<|U J<|U J<|U J<|q8 c fun bz bn c=>Qe bn J<|O _ J<|U J<|U J<|q8 c fun ca bo c=>Qe bo J<|O _ J<|O _ J<|U J<|U J<|O _ J<|q8 c fun cb bp c=>Qe bp J<|O _ J<|U J<|U J<|q8 c fun cc bq c=>Qe bq J<|O _ J<|O _ J<|O _ J<|Ql _ _ J<|q8 c fun cd br c=>Ks _ br J J J J J J J (Kq J J) J J J J<|qc J<|qx<|Qq<|qy<|U J<|O _ J<|qc J<|qx<|⟨_,qo c,wkA [(0,2)] [] []⟩
    refine Qb ?_;refine ⟨_,qo c,fun hm=>?_⟩;subst hm;cases h;exact ⟨_,J,wkA [(0,0)] [] []⟩
   intro p hb;subst hb;refine qy<|U J<|O _ J<|qc J<|qx<|⟨_,qo o,wkA [(0,0)] [] []⟩
  refine Qb ?_;refine ⟨_,qo o,fun hm=>?_⟩;subst hm;exact ⟨_,J,wkA [(0,0)] [] []⟩
 intro t hb;subst hb;refine qe<|U J<|qc J<|qs ?_;cases n;exact finD (.inr J) J (Z6 J J) (.refl _)
theorem qyj (c : List qj) (f : List qj) (r : Bool) (b : q6t c f = some r) : Pure Tryz.prog tab 81 [.sl 4 (c.map Q5),.sl 4 (f.map Q5)] (.bool r):=by
 unfold q6t at b;refine Qn Tryz.func81 J qi qi J<|qe<|qc J<|qa<|qf<|qe<|U J<|Qp J<|U J<|Qp J<|O _ J<|qa ?_;refine qm J b (fun _ b=>?_) (fun _ b=>?_)
 ·refine qe<|qc J<|qs ?_;cases b;exact Q6 _ J
 refine ql<|qf<|qe<|qc J<|qa<|q8 b fun h k b=>?_;refine Qm (fun g=>.inl g = h) (fun g=>⟨[],[],0⟩) qg ?_ ?_
 ·refine Qi (qdw c f) (fun j=>⟨[(0,.d (.sl 4 (c.map Q5))),(1,.d (.sl 4 (f.map Q5))),(5,q9 j)],[],0⟩) 0 h k (wkA [] [] []) ?_;intro j n a;unfold qdw at a;refine qf<|qe<|U J<|U J<|Qp J<|O _ J<|qa ?_;refine qm J a (fun _ a=>?_) (fun _ a=>?_)
  ·refine ql<|qf<|Q7<|qf<|Qk [q0,q0,q0,q0,q0,q0,q0,q0,q0] qi<|U J<|U J<|q8 a fun o l a=>Qe l J<|O _ J<|U J<|U J<|q8 a fun p m a=>Qe m J<|O _ J<|O _ J<|qa ?_;refine qm J a (fun _ a=>?_) (fun _ a=>?_)
   ·refine qe<|qc J<|qs ?_;refine ⟨_,qo a,fun hm=>?_⟩;subst hm;cases b;exact Q6 _ J
   refine ql<|Qj<|Qq<|qy<|U J<|O _ J<|qc J<|qx<|⟨_,qo a,wkA [] [] []⟩
  refine Qb ?_;refine ⟨_,qo a,fun hm=>?_⟩;subst hm;exact ⟨_,J,wkA [] [] []⟩
 intro g hb;subst hb;refine qe<|qc J<|qs ?_;cases b;exact Q6 _ J
theorem qyw (l : Int) (f : List qh) (g : List qh) (r : List qh × Bool) (o : q4v l f g = some r) : Pure Tryz.prog tab 50 [q7 l,.sl 6 (f.map Qh),.sl 6 (g.map Qh)] (.tup [.sl 6 (r.1.map Qh),.bool r.2]):=by
 unfold q4v at o;refine Qn Tryz.func50 J qi qi J<|qe<|qc J<|qc J<|qu<|U J<|U J<|q8 o fun m h2 o=>Q4 (qyu f g m h2) J<|qc J<|qu<|qc J<|qu<|qc J<|qu<|qc J<|qa<|qf<|qe<|qc J<|qa<|q8 o fun y bh o=>?_;refine Qm (fun s=>.inl s = y) (fun s=>⟨[(9,.hs 0 6 0 s.length)],[(0,.dat 6 (s.map Qh))],1⟩) qg ?_ ?_
 ·refine Qi (q26 m f g l) (fun b=>⟨[(0,q9 l),(1,.d (.sl 6 (f.map Qh))),(2,.d (.sl 6 (g.map Qh))),(8,.d (.sl 1 (m.map (eI .i64)))),(9,.hs 0 6 0 b.2.2.2.length),(10,.d (.sl 4 (b.1.map Q5))),(11,q9 b.2.1),(12,q9 b.2.2.1)],[(0,.dat 6 (b.2.2.2.map Qh))],1⟩) ([],0,0,[]) y bh (wkA [] [] [0]) ?_;intro b ct n;unfold q26 at n;refine qf<|qe<|U J<|O _ J<|U J<|Qp J<|O _ J<|qa ?_;refine qm J n (fun _ n=>?_) (fun _ n=>?_)
  ·refine ql<|qf<|q8 n fun bi a n=>?_;refine Qm (fun p=>.inl p = bi) (fun p=>⟨[(0,q9 l),(1,.d (.sl 6 (f.map Qh))),(2,.d (.sl 6 (g.map Qh))),(8,.d (.sl 1 (m.map (eI .i64)))),(9,.hs 0 6 0 p.2.2.length),(10,.d (.sl 4 (p.1.map Q5))),(11,q9 p.2.1),(12,q9 b.2.2.1)],[(0,.dat 6 (p.2.2.map Qh))],1⟩) qg ?_ ?_
   ·refine qf<|Qk [q0,q0,q0,q0,q0,q0,q0,q0,q0,q0,q0,q0,q0,q0,q0] qi<|U J<|U J<|U J<|U J<|q8 a fun bj bk a=>Qe bk J<|O _ J<|q8 a fun z bl a=>Q4 (qdy f bj z bl) J<|U J<|U J<|U J<|q8 a fun bm bn a=>Qe bn J<|O _ J<|q8 a fun aa bo a=>Q4 (qdy g bm aa bo) J<|q8 a fun t bp a=>Q4 (qhv l z aa t bp) J<|qc J<|qa<|qf<|qe<|U J<|Qp J<|O _ J<|q8 a fun bq h a=>?_;refine Qd 11 (fun A st=>∃ ab ac ad ae af ag ah ai aj ak,st = A [(53,Q1 bq),(52,ak),(51,aj),(50,ai),(49,ah),(48,ag),(47,af),(46,ae),(45,ad),(44,ac),(43,ab)]) ?_ ?_
    ·refine Qa J J h (fun h=>?_) (fun h=>?_)
     ·refine qd J<|qd J<|qd J<|qd J<|qd J<|qd J<|qd J<|qd J<|qd J<|O _ J<|qa ?_;cases h;exact ⟨_,_,_,_,_,_,_,_,_,_,J⟩
     refine U J<|U J<|U J<|q8 h fun br bs h=>Qe bs J<|O _ J<|q8 h fun al bt h=>Q4 (qdy f br al bt) J<|q8 h fun bu bv h=>Q4 (q4h (.cons (.refl _) (.cons (.refl _) (.cons (.nil _) .nil))) (qhv 2 al [] bu bv)) J<|Qp J<|O _ J<|O _ J<|qa ?_;cases h;exact ⟨_,_,_,_,_,_,_,_,_,_,J⟩
    rintro _ ⟨ab,ac,ad,ae,af,ag,ah,ai,aj,ak,rfl⟩;refine q8 a fun bw j a=>?_;refine Qd 11 (fun A st=>∃ am an ao ap aq ar au av aw ax,st = A [(64,Q1 bw),(63,ax),(62,aw),(61,av),(60,au),(59,ar),(58,aq),(57,ap),(56,ao),(55,an),(54,am)]) ?_ ?_
    ·refine Qa J J j (fun j=>?_) (fun j=>?_)
     ·refine qd J<|qd J<|qd J<|qd J<|qd J<|qd J<|qd J<|qd J<|qd J<|O _ J<|qa ?_;cases j;exact ⟨_,_,_,_,_,_,_,_,_,_,J⟩
     refine U J<|U J<|U J<|q8 j fun bz ca j=>Qe ca J<|O _ J<|q8 j fun ay cb j=>Q4 (qdy g bz ay cb) J<|q8 j fun cc cd j=>Q4 (q4h (.cons (.refl _) (.cons (.refl _) (.cons (.nil _) .nil))) (qhv 2 ay [] cc cd)) J<|Qp J<|O _ J<|O _ J<|qa ?_;cases j;exact ⟨_,_,_,_,_,_,_,_,_,_,J⟩
    rintro _ ⟨am,an,ao,ap,aq,ar,au,av,aw,ax,rfl⟩;refine qa ?_;refine qm J a (fun _ a=>?_) (fun _ a=>?_)
    ·refine qe<|qc J<|qc J<|qs ?_;cases a;refine ⟨_,qo n,fun hm=>?_⟩;subst hm;cases o;exact finD (.inr J) J J (Ku (.cons (.nil _) (.cons (.refl _) .nil)))
    refine ql<|qf<|qe<|U J<|O _ J<|q8 a fun ce q a=>?_;refine Qd 5 (fun A st=>∃ az ba bb bc,st = A [(71,Q1 ce),(70,bc),(69,bb),(68,ba),(67,az)]) ?_ ?_
    ·refine Qa J J q (fun q=>?_) (fun q=>?_)
     ·refine U J<|U J<|q8 q fun cf cg q=>Q4 (qyj t b.1 cf cg) J<|O _ J<|qa ?_;cases q;exact ⟨_,_,_,_,J⟩
     refine qd J<|qd J<|qd J<|O _ J<|qa ?_;cases q;exact ⟨_,_,_,_,J⟩
    rintro _ ⟨az,ba,bb,bc,rfl⟩;refine qa ?_;refine qm J a (fun _ a=>?_) (fun _ a=>?_)
    ·refine qf<|qe<|U J<|qc J<|qa<|q8 a fun bd ch a=>?_;refine Qm (fun u=>u = bd) (fun u=>⟨[(0,q9 l),(1,.d (.sl 6 (f.map Qh))),(2,.d (.sl 6 (g.map Qh))),(8,.d (.sl 1 (m.map (eI .i64)))),(9,.hs 0 6 0 u.length),(10,.d (.sl 4 (b.1.map Q5))),(11,q9 b.2.1),(12,q9 b.2.2.1)],[(0,.dat 6 (u.map Qh))],1⟩) qg ?_ ?_
     ·refine Qi (q4w m b) (fun v=>⟨[(0,q9 l),(1,.d (.sl 6 (f.map Qh))),(2,.d (.sl 6 (g.map Qh))),(8,.d (.sl 1 (m.map (eI .i64)))),(9,.hs 0 6 0 v.2.length),(10,.d (.sl 4 (b.1.map Q5))),(11,q9 b.2.1),(12,q9 b.2.2.1),(14,q9 v.1)],[(0,.dat 6 (v.2.map Qh))],1⟩) (b.2.1,b.2.2.2) bd ch (wkA [(0,0)] [] []) ?_;intro v cu k;unfold q4w at k;refine qf<|qe<|U J<|U J<|O _ J<|O _ J<|qa ?_;refine qm J k (fun _ k=>?_) (fun _ k=>?_)
      ·refine ql<|qf<|Q7<|qy<|U J<|U J<|U J<|U J<|O _ J<|q8 k fun be ci k=>Qe ci J<|O _ J<|q8 k fun x bf k=>Q2 bf J J<|O _ J<|O _ J<|K7 (ds:=[q7 be]) ({Lo:=x.Lo,Hi:=({X:=x.Hi.X,Y:=x.Hi.Y,Z:=be} : qw)} : qh) bf J J J J J J J J (leb J) J<|qx<|Qq<|qy<|U J<|O _ J<|qc J<|qx<|⟨_,qo k,wkE [(0,0)] [] [] J ⟨qt J,qt J,qt J,qt J,⟨_,J,K8 qg J qz (ltd J)⟩,qt J,qt J,qt J,qt J,trivial⟩ ⟨Qu J J,trivial⟩⟩
      refine Qb ?_;refine ⟨_,qo k,fun hm=>?_⟩;subst hm;exact ⟨_,J,wkA [(0,0)] [] []⟩
     intro u hb;subst hb;refine Qb ?_;cases a;exact ⟨_,J,wkA [(0,0)] [] []⟩
    refine ql<|qe<|U J<|O _ J<|U J<|qc J<|qc J<|qu<|qc J<|qa<|q8 a fun cj ck a=>Q7<|Qi (q6y t m b) (fun w=>⟨[(0,q9 l),(1,.d (.sl 6 (f.map Qh))),(2,.d (.sl 6 (g.map Qh))),(8,.d (.sl 1 (m.map (eI .i64)))),(9,.hs 0 6 0 w.2.length),(10,.d (.sl 4 (t.map Q5))),(11,q9 (b.2.2.2.length : Int)),(12,q9 b.2.2.1),(13,.d (.sl 4 (t.map Q5))),(15,q9 w.1)],[(0,.dat 6 (w.2.map Qh))],1⟩) (0,b.2.2.2) cj ck (wkA [(0,0)] [] []) ?_;intro w cv c;unfold q6y at c;refine qf<|qe<|U J<|U J<|Qp J<|O _ J<|qa ?_;refine qm J c (fun _ c=>?_) (fun _ c=>?_)
    ·refine ql<|qf<|Q7<|Qk [q0,(some [0,1],[0,2]),(some [],[1]),q0,q0,q0,q0,q0,q0,q0,q0,q0,q0,q0,q0,q0,q0,q0,q0,q0,q0,q0,q0,q0,q0,q0,q0,q0,q0,q0,q0,q0,q0,q0,q0,q0] qi<|U J<|U J<|U J<|q8 c fun cw cm c=>Qe cm J<|O _ J<|O _ J<|U J<|U J<|q8 c fun cx cn c=>Qe cn J<|O _ J<|O _ J<|U J<|U J<|q8 c fun cy co c=>Qe co J<|O _ J<|O _ J<|U J<|U J<|q8 c fun cz cp c=>Qe cp J<|O _ J<|O _ J<|U J<|U J<|q8 c fun da cq c=>Qe cq J<|O _ J<|O _ J<|U J<|U J<|O _ J<|q8 c fun dc cr c=>Qe cr J ?_;refine O _ J<|O _ J<|O _ J<|Ql _ _ J<|q8 c fun dd cs c=>Ks _ cs J J J J J J J (Kq J J) J J J J<|qc J<|qx<|Qq<|qy<|U J<|O _ J<|qc J<|qx<|⟨_,qo c,wkA [(0,2)] [] []⟩
    refine Qb ?_;refine ⟨_,qo c,fun hm=>?_⟩;subst hm;cases a;exact ⟨_,J,wkA [(0,0)] [] []⟩
   intro p hb;subst hb;refine qy<|U J<|O _ J<|qc J<|qx<|⟨_,qo n,wkA [(0,0)] [] []⟩
  refine Qb ?_;refine ⟨_,qo n,fun hm=>?_⟩;subst hm;exact ⟨_,J,wkA [(0,0)] [] []⟩
 intro s hb;subst hb;refine qe<|U J<|U J<|O _ J<|O _ J<|qc J<|qc J<|qs ?_;cases o;exact finD (.inr J) J (q3y (Y2 (Z6 J J) (Y2 J J))) (.refl _)
theorem qhy (c : List qh) (f : List qh) (r : Bool) (b : q6z c f = some r) : Pure Tryz.prog tab 16 [.sl 6 (c.map Qh),.sl 6 (f.map Qh)] (.bool r):=by
 unfold q6z at b;refine Qn Tryz.func16 J qi qi J<|qe<|qc J<|qa<|qf<|qe<|U J<|Qp J<|U J<|Qp J<|O _ J<|qa ?_;refine qm J b (fun _ b=>?_) (fun _ b=>?_)
 ·refine qe<|qc J<|qs ?_;cases b;exact Q6 _ J
 refine ql<|qf<|qe<|qc J<|qa<|q8 b fun h k b=>?_;refine Qm (fun g=>.inl g = h) (fun g=>⟨[],[],0⟩) qg ?_ ?_
 ·refine Qi (qdz c f) (fun j=>⟨[(0,.d (.sl 6 (c.map Qh))),(1,.d (.sl 6 (f.map Qh))),(5,q9 j)],[],0⟩) 0 h k (wkA [] [] []) ?_;intro j n a;unfold qdz at a;refine qf<|qe<|U J<|U J<|Qp J<|O _ J<|qa ?_;refine qm J a (fun _ a=>?_) (fun _ a=>?_)
  ·refine ql<|qf<|Q7<|qf<|Qk [q0,q0,q0,q0,q0,q0,q0,q0,q0] qi<|U J<|U J<|q8 a fun o l a=>Qe l J<|O _ J<|U J<|U J<|q8 a fun p m a=>Qe m J<|O _ J<|O _ J<|qa ?_;refine qm J a (fun _ a=>?_) (fun _ a=>?_)
   ·refine qe<|qc J<|qs ?_;refine ⟨_,qo a,fun hm=>?_⟩;subst hm;cases b;exact Q6 _ J
   refine ql<|Qj<|Qq<|qy<|U J<|O _ J<|qc J<|qx<|⟨_,qo a,wkA [] [] []⟩
  refine Qb ?_;refine ⟨_,qo a,fun hm=>?_⟩;subst hm;exact ⟨_,J,wkA [] [] []⟩
 intro g hb;subst hb;refine qe<|qc J<|qs ?_;cases b;exact Q6 _ J
theorem qys (c : List qh) (r : Int) (a : qae c = some r) : Pure Tryz.prog tab 33 [.sl 6 (c.map Qh)] (q7 r):=by
 unfold qae at a;refine Qn Tryz.func33 J qi qi J<|qe<|qc J<|qa<|qf<|qe<|U J<|Qp J<|O _ J<|qa ?_;refine qm J a (fun _ a=>?_) (fun _ a=>?_)
 ·refine qe<|qc J<|qs ?_;cases a;exact Q6 _ J
 refine ql<|qf<|qe<|qc J<|qa<|q8 a fun h q a=>?_;refine Qm (fun g=>.inl g = h) (fun g=>⟨[(0,.d (.sl 6 (c.map Qh)))],[],0⟩) qg ?_ ?_
 ·refine Qi (q6x c) (fun j=>⟨[(0,.d (.sl 6 (c.map Qh))),(3,q9 j)],[],0⟩) 0 h q (wkA [] [] []) ?_;intro j aa b;unfold q6x at b;refine qf<|qe<|U J<|U J<|Qp J<|O _ J<|qa ?_;refine qm J b (fun _ b=>?_) (fun _ b=>?_)
  ·refine ql<|qf<|Q7<|qe<|U J<|U J<|q8 b fun s t b=>Qe t J<|O _ J<|q8 b fun u v b=>Q4 (qyz s u v) J<|O _ J<|qa ?_;refine qm J b (fun _ b=>?_) (fun _ b=>?_)
   ·refine qe<|qc J<|qs ?_;refine ⟨_,qo b,fun hm=>?_⟩;subst hm;cases a;exact Q6 _ J
   refine ql<|Qj<|Qq<|qy<|U J<|O _ J<|qc J<|qx<|⟨_,qo b,wkA [] [] []⟩
  refine Qb ?_;refine ⟨_,qo b,fun hm=>?_⟩;subst hm;exact ⟨_,J,wkA [] [] []⟩
 intro g hb;subst hb;refine qe<|U J<|q8 a fun k w a=>Q4 (q4h (.cons (.refl _) (.cons (.refl _) (.cons (.nil _) .nil))) (qyw 2 c [] k w)) J<|U J<|O _ J<|O _ J<|qc J<|qc J<|qa<|qf<|qe<|U J<|O _ J<|q8 a fun x f a=>?_;refine Qd 6 (fun A st=>∃ l m n o p,st = A [(33,Q1 x),(32,p),(31,o),(30,n),(29,m),(28,l)]) ?_ ?_
 ·refine Qa J J f (fun f=>?_) (fun f=>?_)
  ·refine qd J<|qd J<|qd J<|qd J<|O _ J<|qa ?_;cases f;exact ⟨_,_,_,_,_,J⟩
  refine U J<|U J<|q8 f fun y z f=>Q4 (qhy k.1 c y z) J<|O _ J<|O _ J<|qa ?_;cases f;exact ⟨_,_,_,_,_,J⟩
 rintro _ ⟨l,m,n,o,p,rfl⟩;refine qa ?_;refine qm J a (fun _ a=>?_) (fun _ a=>?_)
 ·refine qe<|qc J<|qs ?_;cases a;exact Q6 _ J
 refine ql<|qe<|qc J<|qs ?_;cases a;exact Q6 _ J
theorem q15d (b : K3) (c : List qh) (r : List qh × Int) (a : qc0 b c = some r) : Pure Tryz.prog tab 14 [.agg [q7 b.From.X,q7 b.From.Y,q7 b.From.Z,q7 b.To.X,q7 b.To.Y,q7 b.To.Z,q7 b.Depth],.sl 6 (c.map Qh)] (.tup [.sl 6 (r.1.map Qh),q7 r.2]):=by
 unfold qc0 at a;refine Qn Tryz.func14 J qi qi J<|qe<|Ql _ _ J<|qc J<|qc J<|qa<|qf<|qe<|O _ J<|Ql _ _ J<|O _ J<|q8 a fun f g a=>q3d [.agg [.hs 1 7 0 [b].length,.d (.nilsl),.d (.int .u8 0),q9 0,q9 0,q9 0,q9 0]] (q4h (.cons (q2s (.cons (.refl _) (.cons (.nil _) (.cons (.refl _) (.cons (.refl _) (.cons (.refl _) (.cons (.refl _) (.cons (.refl _) .nil)))))))) .nil) (qqp ({Lines:=[b],Marks:=[],End:=({Frame:=({Turn:=0,At:=({X:=0,Y:=0,Z:=0} : qw)} : K0),Drawn:=0} : Z4)} : Qr) f g)) J J (Zu (qqk (Y2 (Z6 J J) (Y2 J (Y2 J (Y2 J (Y2 J (Y2 J (Y2 J J)))))))) J) (.inr J)<|U J<|O _ J<|O _ J<|qc J<|qc J<|qu<|U J<|O _ J<|qa ?_;refine qm J a (fun _ a=>?_) (fun _ a=>?_)
 ·refine qe<|U J<|qc J<|qc J<|qs ?_;cases a;exact finD (.inr J) J J (Ku (.cons (.nil _) (.cons (.refl _) .nil)))
 refine ql<|qf<|qe<|U J<|q8 a fun h j a=>Q4 (q8h c h j) J<|qc J<|qu<|U J<|O _ J<|qa ?_;refine qm J a (fun _ a=>?_) (fun _ a=>?_)
 ·refine qe<|U J<|qc J<|qc J<|qs ?_;cases a;exact finD (.inr J) J J (Ku (.cons (.nil _) (.cons (.refl _) .nil)))
 refine ql<|qe<|O _ J<|U J<|q8 a fun k l a=>Q4 (qqd b c k l) J<|O _ J<|O _ J<|qc J<|qc J<|qs ?_;cases a;exact Q6 _ J
end Go.Proofs.YtbknppciefodiaaGreat
