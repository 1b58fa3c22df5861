/- W_Allc -/
import Derived.Test.YtbknppciefodiaaGreatK16
namespace Go.Proofs.YtbknppciefodiaaGreat
open Go Go.Am Go.Sh
set_option maxHeartbeats 8000000
set_option maxRecDepth 100000
theorem qop (a : Q3) (r : Bool) (c : qbf a = some r) : Pure Tryz.prog tab 74 [.agg [q7 a.X,q7 a.Y,q7 a.Z]] (.bool r):=by
 unfold qbf at c;refine Qn Tryz.func74 J qh qh J<|qd<|Qo _ _ J<|qc J<|qt<|O _ J<|O _ J<|O _ J<|O _ J<|O _ J<|O _ J<|q1s (r:=min (min a.X a.Y) a.Z) J J (by simp only [q1p];rfl)<|O _ J<|q8 c fun o b c=>?_;refine Qb 10 (fun A st=>∃ d f g h j k l m n,st = A [(20,qz o),(19,n),(18,m),(17,l),(16,k),(15,j),(14,h),(13,g),(12,f),(11,d)]) ?_ ?_
 ·refine Q9 J J b (fun b=>?_) (fun b=>?_)
  ·refine O _ J<|O _ J<|O _ J<|O _ J<|O _ J<|O _ J<|U4 (r:=max (max a.X a.Y) a.Z) J J (by simp only [U2];rfl)<|O _ J<|O _ J<|qa ?_;cases b;exact ⟨_,_,_,_,_,_,_,_,_,J⟩
  refine qb J<|qb J<|qb J<|qb J<|qb J<|qb J<|qb J<|qb J<|O _ J<|qa ?_;cases b;exact ⟨_,_,_,_,_,_,_,_,_,J⟩
 rintro _ ⟨d,f,g,h,j,k,l,m,n,rfl⟩;refine qc J<|qs ?_;cases c;exact Q6 _ J
theorem qz3 (c : List qg) (g : qg→Option Bool) (p1F : FuncId) (p1C : List DV) (p1Ok : ∀ (b : qg) (r : Bool),g b = some r→Pure Tryz.prog tab p1F ([.agg [q7 b.Lo.X,q7 b.Lo.Y,q7 b.Lo.Z,q7 b.Hi.X,q7 b.Hi.Y,q7 b.Hi.Z]] ++ p1C) (.bool r)) (r : Int) (f : qdl c g = some r) : Pure Tryz.prog tab 119 [.sl 6 (c.map Qe),.fn p1F p1C] (q7 r):=by
 unfold qdl at f;refine Qn Tryz.func119 J qh qh J<|qd<|qc J<|qa<|qf<|qd<|U J<|Qm J<|U J<|qa<|q8 f fun j l f=>?_;refine Qj (fun h=>.inl h = j) (fun h=>⟨[],[],0⟩) qe ?_ ?_
 ·refine Qf (q4a c g) (fun k=>⟨[(0,.d (.sl 6 (c.map Qe))),(1,.d (.fn p1F p1C)),(7,q9 (c.length : Int)),(8,q9 k)],[],0⟩) 0 j l (wkA [] [] []) ?_;intro k q a;unfold q4a at a;refine qd<|O _ J<|qa<|qf ?_;refine qo J a (fun _ a=>?_) (fun _ a=>?_)
  ·refine ql<|qf<|Q4<|qd<|U J<|qc J<|qt<|U J<|U J<|U J<|q8 a fun m n a=>Qc n J<|O _ J<|q8 a fun o p a=>Yk _ (p1Ok m o p) J J J (.inl J)<|qa ?_;refine qo J a (fun _ a=>?_) (fun _ a=>?_)
   ·refine qd<|U J<|qc J<|qs ?_;refine ⟨_,qm a,fun hm=>?_⟩;subst hm;cases f;exact Q6 _ J
   refine ql<|Qh<|Qp<|qw<|O _ J<|U J<|qv<|⟨_,qm a,wkA [] [] []⟩
  refine Qa ?_;refine ⟨_,qm a,fun hm=>?_⟩;subst hm;exact ⟨_,J,wkA [] [] []⟩
 intro h hb;subst hb;refine qd<|qc J<|qs ?_;cases f;exact Q6 _ J
theorem qyw (c : List qg) (d : qg→Option Bool) (p1F : FuncId) (p1C : List DV) (p1Ok : ∀ (a : qg) (r : Bool),d a = some r→Pure Tryz.prog tab p1F ([.agg [q7 a.Lo.X,q7 a.Lo.Y,q7 a.Lo.Z,q7 a.Hi.X,q7 a.Hi.Y,q7 a.Hi.Z]] ++ p1C) (.bool r)) (r : Bool) (b : q9u c d = some r) : Pure Tryz.prog tab 94 [.sl 6 (c.map Qe),.fn p1F p1C] (.bool r):=by
 unfold q9u at b;refine Qn Tryz.func94 J qh qh J<|qd<|qc J<|qt<|U J<|U J<|q8 b fun f g b=>Q5 (qz3 c d p1F p1C p1Ok f g) J<|O _ J<|qc J<|qs ?_;cases b;exact Q6 _ J
theorem q122 (a : qg) (r : Bool) (b : q38 a = some r) : Pure Tryz.prog tab 95 [.agg [q7 a.Lo.X,q7 a.Lo.Y,q7 a.Lo.Z,q7 a.Hi.X,q7 a.Hi.Y,q7 a.Hi.Z]] (.bool r):=by
 unfold q38 at b;refine Qn Tryz.func95 J qh qh J<|qd<|Qo _ _ J<|qc J<|qt<|O _ J<|q8 b fun c d b=>Q5 (qny a c d) J<|O _ J<|qc J<|qs ?_;cases b;exact Q6 _ J
theorem q124 (b : List qg) (r : List qg × Int) (a : qau b = some r) : Pure Tryz.prog tab 64 [.sl 6 (b.map Qe)] (.tup [.sl 6 (r.1.map Qe),q7 r.2]):=by
 unfold qau at a;refine Qn Tryz.func64 J qh qh J<|qd<|qc J<|qc J<|qa<|qf<|qd<|U J<|Qm J<|O _ J<|qa ?_;refine qo J a (fun _ a=>?_) (fun _ a=>?_)
 ·refine qd<|qc J<|qc J<|qs ?_;cases a;exact finD (.inr J) J J (Yb (.cons (.nil _) (.cons (.refl _) .nil)))
 refine ql<|qf<|qd<|U J<|q8 a fun d f a=>Q5 (qyw b (fun c=>q38 c) 95 [] (fun c r hr=>q122 c r hr) d f) J<|qa ?_;refine qo J a (fun _ a=>?_) (fun _ a=>?_)
 ·refine qd<|qc J<|qc J<|qs ?_;cases a;exact finD (.inr J) J J (Yb (.cons (.nil _) (.cons (.refl _) .nil)))
 refine ql<|qd<|O _ J<|U J<|q3q (es:=1) ([b].map Qr) J J J J J<|q8 a fun g h a=>Q5 (qnz b g h) J<|O _ J<|O _ J<|qc J<|qc J<|qs ?_;cases a;exact Q6 _ J
theorem qon (a : K1) (j : List qg) (r : List qg × Int) (c : q85 a j = some r) : Pure Tryz.prog tab 45 [.agg [q7 a.From.X,q7 a.From.Y,q7 a.From.Z,q7 a.To.X,q7 a.To.Y,q7 a.To.Z,q7 a.Depth],.sl 6 (j.map Qe)] (.tup [.sl 6 (r.1.map Qe),q7 r.2]):=by
 unfold q85 at c;refine Qn Tryz.func45 J qh qh J<|qd<|Qo _ _ J<|qc J<|qc J<|qa<|qf<|Qi [Qu 2,Qu 1,(some [],[2]),(some [],[1]),qu 0,q0,qu 0,q0] qh<|O _ J<|O _ J<|O _ J<|O _ J<|K2 J J<|K2 J J<|Ql 1 _ J<|Ql 2 _ J<|qt<|O _ J<|O _ J<|O _ J<|O _ J<|q1s (r:=min a.From.X a.To.X) J J (by simp only [q1p];rfl)<|O _ J<|O _ J<|O _ J<|O _ J<|q1s (r:=min a.From.Y a.To.Y) J J (by simp only [q1p];rfl)<|O _ J<|O _ J<|O _ J<|O _ J<|q1s (r:=min a.From.Z a.To.Z) J J (by simp only [q1p];rfl)<|O _ J<|K2 J J<|Ql 3 _ J<|qt<|O _ J<|O _ J<|O _ J<|O _ J ?_;refine U4 (r:=max a.From.X a.To.X) J J (by simp only [U2];rfl)<|O _ J<|O _ J<|O _ J<|O _ J<|U4 (r:=max a.From.Y a.To.Y) J J (by simp only [U2];rfl)<|O _ J<|O _ J<|O _ J<|O _ J<|U4 (r:=max a.From.Z a.To.Z) J J (by simp only [U2];rfl)<|O _ J<|K2 J J<|Ql 4 _ J<|qt<|qc J<|qa<|qf<|qd<|U J<|Qm J<|U J<|qa<|q8 c fun l s c=>?_;refine Qj (fun f=>.inl f = l) (fun f=>⟨[(10,.hs 0 6 0 f.length)],[(0,.dat 6 (f.map Qe))],1⟩) qe ?_ ?_
 ·refine Qf (q4v j a) (fun k=>⟨[(8,.ref 0 3 0 0),(9,.ref 1 3 0 0),(10,.hs 2 6 0 k.2.length),(50,.d (.sl 6 (j.map Qe))),(51,q9 (j.length : Int)),(52,q9 k.1)],[(0,.dat 3 [[q7 (min a.From.X a.To.X),q7 (min a.From.Y a.To.Y),q7 (min a.From.Z a.To.Z)]]),(1,.dat 3 [[q7 (max a.From.X a.To.X),q7 (max a.From.Y a.To.Y),q7 (max a.From.Z a.To.Z)]]),(2,.dat 6 (k.2.map Qe))],3⟩) (0,[]) l s (wkA [(0,3),(1,4)] [] [2]) ?_;intro k ac b;unfold q4v at b;refine qd<|O _ J<|qa<|qf ?_;refine qo J b (fun _ b=>?_) (fun _ b=>?_)
  ·refine ql<|qf<|Q4<|qd<|q8 b fun h t b=>Qc t J<|O _ J<|K2 J J<|Ql 3 _ J<|qt<|O _ J<|O _ J<|O _ J<|O _ J<|O _ J<|O _ J<|O _ J<|O _ J<|O _ J<|O _ J<|O _ J<|O _ J<|O _ J<|O _ J<|O _ J<|O _ J<|O _ J<|O _ J<|O _ J<|O _ J<|O _ J<|O _ J<|O _ J<|O _ J<|O _ J<|O _ J<|O _ J<|O _ J<|O _ J<|O _ J ?_;refine O _ J<|O _ J<|O _ J<|O _ J<|O _ J<|O _ J<|O _ J<|O _ J<|O _ J<|K2 J J<|Ql 4 _ J<|qa<|qf<|qd<|O _ J<|O _ J<|q8 b fun u v b=>Q5 (qop ({X:=w64 (h.Lo.X + (min a.From.X a.To.X)),Y:=w64 (h.Lo.Y + (min a.From.Y a.To.Y)),Z:=w64 (h.Lo.Z + (min a.From.Z a.To.Z))} : Q3) u v) J<|O _ J<|q8 b fun w g b=>?_;refine Qb 6 (fun A st=>∃ m n o p q,st = A [(104,qz w),(103,q),(102,p),(101,o),(100,n),(99,m)]) ?_ ?_
   ·refine Q9 J J g (fun g=>?_) (fun g=>?_)
    ·refine qb J<|qb J<|qb J<|qb J<|O _ J<|qa ?_;cases g;exact ⟨_,_,_,_,_,J⟩
    refine O _ J<|O _ J<|q8 g fun x y g=>Q5 (qop ({X:=w64 (h.Hi.X + (max a.From.X a.To.X)),Y:=w64 (h.Hi.Y + (max a.From.Y a.To.Y)),Z:=w64 (h.Hi.Z + (max a.From.Z a.To.Z))} : Q3) x y) J<|O _ J<|O _ J<|qa ?_;cases g;exact ⟨_,_,_,_,_,J⟩
   rintro _ ⟨m,n,o,p,q,rfl⟩;refine qa ?_;refine qo J b (fun _ b=>?_) (fun _ b=>?_)
   ·refine qd<|qc J<|qc J<|qs ?_;refine ⟨_,qm b,fun hm=>?_⟩;subst hm;cases c;exact finD (.inr J) J J (Yb (.cons (.nil _) (.cons (.refl _) .nil)))
   refine ql<|qw<|U J<|O _ J<|Qo _ _ J<|q8 b fun ad z b=>Kv _ z J J J J J J J (Kt J J) J J J J<|qc J<|qv<|Qp<|qw<|O _ J<|U J<|qv<|⟨_,qm b,wkA [(0,0),(1,1),(2,6)] [] []⟩
  refine Qa ?_;refine ⟨_,qm b,fun hm=>?_⟩;subst hm;exact ⟨_,J,wkA [(0,2)] [] []⟩
 intro f hb;subst hb;refine qf ?_;refine Yc (st':=⟨[(10,.d (.sl 6 (f.map Qe)))],[],0⟩) (wkA [] [0] []) ?_ qe;refine qw<|U J<|q8 c fun aa ab c=>Q5 (q124 f aa ab) J<|O _ J<|O _ J<|qc J<|qc J<|qs ?_;cases c;exact Q6 _ J
theorem qok (a : Qv) (f : List (List qg)) (r : List (List qg) × Int) (c : q81 a f = some r) : Pure Tryz.prog tab 11 [.agg [.sl 7 (a.Lines.map Kf),.sl 5 (a.Marks.map Km),.int .u8 a.End.Frame.Turn,q7 a.End.Frame.At.X,q7 a.End.Frame.At.Y,q7 a.End.Frame.At.Z,q7 a.End.Drawn],.sl 1 (f.map Qr)] (.tup [.sl 1 (r.1.map Qr),q7 r.2]):=by
 unfold q81 at c;refine Qn Tryz.func11 J qh qh J<|qd<|Qo _ _ J<|K2 J J<|K2 J J<|qa<|qf<|qd<|O _ J<|U J<|q8 c fun o p c=>Q5 (q13d a f o p) J<|qc J<|qt<|U J<|O _ J<|qa ?_;refine qo J c (fun _ c=>?_) (fun _ c=>?_)
 ·refine qd<|U J<|Ql 1 _ J<|Ql 2 _ J<|qs ?_;cases c;exact finD (.inr J) J J (Yb (.cons (.nil _) (.cons (.refl _) .nil)))
 refine ql<|qd<|K2 J J<|qa<|qf<|qd<|O _ J<|U J<|q8 c fun q s c=>?_;refine q3p [.d (.agg [.sl 7 (a.Lines.map Kf),.sl 5 (a.Marks.map Km),.int .u8 a.End.Frame.Turn,q7 a.End.Frame.At.X,q7 a.End.Frame.At.Y,q7 a.End.Frame.At.Z,q7 a.End.Drawn]),.d (.sl 1 (f.map Qr))] (fun m=>m = q) (fun (m : Unit)=>⟨[(4,.ref 0 1 0 0),(5,.ref 1 1 0 0),(7,.ref 2 1 0 0),(18,.fn 67 [.ref 3 7 0 0,.ref 4 1 0 0])],[(0,.dat 1 [[.nilsl]]),(1,.dat 1 [[q7 0]]),(2,.dat 1 [[.nilsl]]),(3,.dat 7 [[.sl 7 (a.Lines.map Kf),.sl 5 (a.Marks.map Km),.int .u8 a.End.Frame.Turn,q7 a.End.Frame.At.X,q7 a.End.Frame.At.Y,q7 a.End.Frame.At.Z,q7 a.End.Drawn]]),(4,.dat 1 [[.sl 1 (f.map Qr)]])],5⟩) J J Tryz.func40 J qh qh J ?_ ?_
 ·refine qd<|Qo _ _ J<|Qo _ _ J<|qc J<|qt<|O _ J<|qc J<|qs ?_;refine ⟨.inr J,_,J,?_⟩;cases s;exact ⟨_,J,wkA [(0,1),(1,2),(2,3),(3,4),(4,5)] [] []⟩
 intro m hb;subst hb;refine qa<|Q4<|q8 c fun t l c=>?_;refine q6l (fun h=>.inl h = t) (fun h=>⟨[(4,.ref 0 1 0 0),(5,.ref 1 1 0 0),(7,.ref 2 1 0 0)],[(0,.dat 1 [[.nilsl]]),(1,.dat 1 [[q7 0]]),(2,.cel 1 [[.hs 3 1 0 h.length]]),(3,.dat 1 (h.map Qr))],4⟩) ?_ ?_
 ·refine Yc (st':=⟨[(4,.ref 0 1 0 0),(5,.ref 1 1 0 0),(7,.ref 2 1 0 0),(18,.fn 67 [.ref 3 7 0 0,.ref 4 1 0 0])],[(0,.dat 1 [[.nilsl]]),(1,.dat 1 [[q7 0]]),(2,.dat 1 [[.nilsl]]),(3,.dat 7 [[.sl 7 (a.Lines.map Kf),.sl 5 (a.Marks.map Km),.int .u8 a.End.Frame.Turn,q7 a.End.Frame.At.X,q7 a.End.Frame.At.Y,q7 a.End.Frame.At.Z,q7 a.End.Drawn]]),(4,.dat 1 [[.sl 1 (f.map Qr)]])],5⟩) (wkA [(0,0),(1,1),(2,2),(3,3),(4,4)] [] []) ?_ qe;refine q6m _ (.inl J) Tryz.func67 J qh qh J ?_;intro A90 B91 hA90 hB91;refine qd<|O _ J<|O _ J<|Qm J<|U J<|qa<|q8 l fun u v l=>Q4<|Qf (q82 a f) (fun j=>⟨[(0,.yld 5),(2,.ref 4 1 0 0),(7,.d (.sl 7 (a.Lines.map Kf))),(8,q9 (a.Lines.length : Int)),(9,q9 j.1)],[(0,.dat 1 [[.nilsl]]),(1,.dat 1 [[q7 0]]),(2,.cel 1 [[.hs 6 1 0 j.2.length]]),(3,.dat 7 [[.sl 7 (a.Lines.map Kf),.sl 5 (a.Marks.map Km),.int .u8 a.End.Frame.Turn,q7 a.End.Frame.At.X,q7 a.End.Frame.At.Y,q7 a.End.Frame.At.Z,q7 a.End.Drawn]]),(4,.dat 1 [[.sl 1 (f.map Qr)]]),(5,.loop [(4,.ref 0 1 0 0),(5,.ref 1 1 0 0),(7,.ref 2 1 0 0),(18,.fn 67 [.ref 3 7 0 0,.ref 4 1 0 0])] [19,20] A90 B91 .ready none),(6,.dat 1 (j.2.map Qr))],7⟩) (0,[]) u v (wkA [] [] [6]) ?_;intro j ad b;unfold q82 at b;refine qd<|O _ J<|qa<|qf ?_;refine qo J b (fun _ b=>?_) (fun _ b=>?_)
  ·refine ql<|qf<|Q4<|qd<|q8 b fun n w b=>Qc w J<|O _ J<|K2 J J<|Ql 7 _ J<|qa<|qf<|Qi [q0,(none,[0]),q0,q0,q0,q0,q0,q0,q0,q0,qu 4,qu 7,q0,qu 4,qu 7,q0] qh<|U J<|O _ J<|O _ J<|O _ J<|O _ J<|O _ J<|Qm J<|O _ J<|q1s (r:=min n.Depth (w64 ((f.length : Int) - 1))) J J (by simp only [q1p];rfl)<|q8 b fun x y b=>Qc y J<|O _ J<|q8 b fun z aa b=>Q5 (qon n x z aa) J<|O _ J<|O _ J<|que J<|q8 b fun ab g b=>?_;refine q5r (fun k=>.inl k = ab) (fun (k : List (List qg))=>⟨[(0,.yld 5),(2,.ref 4 1 0 0),(7,.d (.sl 7 (a.Lines.map Kf))),(8,q9 (a.Lines.length : Int)),(9,q9 j.1),(27,qz true)],[(0,.dat 1 [[.nilsl]]),(1,.dat 1 [[q7 0]]),(2,.cel 1 [[.hs 6 1 0 k.length]]),(3,.dat 7 [[.sl 7 (a.Lines.map Kf),.sl 5 (a.Marks.map Km),.int .u8 a.End.Frame.Turn,q7 a.End.Frame.At.X,q7 a.End.Frame.At.Y,q7 a.End.Frame.At.Z,q7 a.End.Drawn]]),(4,.dat 1 [[.sl 1 (f.map Qr)]]),(5,.loop [(4,.ref 0 1 0 0),(5,.ref 1 1 0 0),(7,.ref 2 1 0 0),(18,.fn 67 [.ref 3 7 0 0,.ref 4 1 0 0])] [19,20] A90 B91 .ready none),(6,.dat 1 (k.map Qr))],7⟩) hA90 hB91 J J J J J J ?_ ?_
   ·refine qd<|qc J<|qa<|qw<|qc J<|qv ?_;refine ⟨J,_,J,?_⟩;refine Q4<|qf<|qd<|U J<|O _ J<|qa ?_;refine qo J g (fun _ g=>?_) (fun _ g=>?_)
    ·refine qd<|U J<|Ql 0 _ J<|Ql 1 _ J<|qs ?_;cases g;refine ⟨_,J,?_⟩;refine qa<|O _ J<|qa<|Zg J<|q13 ?_;refine ⟨_,qm b,fun hm=>?_⟩;subst hm;refine ⟨.inr J,_,J,_,_,.ret,J,qx,?_⟩;refine qbt ?_;cases l;cases c;exact finD (.inr J) J J (Yb (.cons (.nil _) (.cons (.refl _) .nil)))
    refine ql<|qw<|O _ J<|U J<|Qo _ _ J<|q8 g fun ae ac g=>Kv _ ac J J J J J J J (Kt J J) J J J J<|Ql 2 _ J<|qv<|Qp<|Qh ?_;refine ⟨_,J,?_⟩;cases g;exact ⟨_,J,wkA [(6,9)] [] []⟩
   intro k hb;subst hb;refine qa<|O _ J<|qa<|Zf J<|ql<|Qh<|Qp<|qw<|O _ J<|U J<|qv<|⟨_,qm b,wkA [(6,6)] [] []⟩
  refine Qa ?_;refine ⟨_,qm b,fun hm=>?_⟩;subst hm;refine ⟨.inl J,_,J,_,_,.nor,J,qx,?_⟩;refine q4z<|Qh ?_;cases l;exact ⟨_,J,wkA [(0,0),(1,1),(2,2),(3,6)] [] []⟩
 intro h st hb hw;subst hb;refine Yc hw ?_ qe;refine qd<|O _ J<|Ql 0 _ J<|Ql 1 _ J<|qs ?_;cases c;exact finD (.inr J) J (q4w (Yj (Za J J) (Yj J J))) (.refl _)
theorem qmi (c : Yg) (r : Int) (a : q5y c = some r) : Pure Tryz.prog tab 36 [.agg [.int .u8 c.Turn,q7 c.At.X,q7 c.At.Y,q7 c.At.Z]] (q7 r):=by
 unfold q5y at a;refine Qn Tryz.func36 J qh qh J<|qd<|Qo _ _ J<|qc J<|qa<|qf<|qd<|O _ J<|O _ J<|O _ J<|q8 a fun k b a=>?_;refine Qb 6 (fun A st=>∃ d f g h j,st = A [(11,qz k),(10,j),(9,h),(8,g),(7,f),(6,d)]) ?_ ?_
 ·refine Q9 J J b (fun b=>?_) (fun b=>?_)
  ·refine qb J<|qb J<|qb J<|qb J<|O _ J<|qa ?_;cases b;exact ⟨_,_,_,_,_,J⟩
  refine O _ J<|O _ J<|q8 b fun l m b=>Q5 (q1v c.At (-1000000) l m) J<|O _ J<|O _ J<|qa ?_;cases b;exact ⟨_,_,_,_,_,J⟩
 rintro _ ⟨d,f,g,h,j,rfl⟩;refine qa ?_;refine qo J a (fun _ a=>?_) (fun _ a=>?_)
 ·refine qd<|qc J<|qs ?_;cases a;exact Q6 _ J
 refine ql<|qd<|qc J<|qs ?_;cases a;exact Q6 _ J
theorem qw9 (a : Qv) (r : Int) (c : q9h a = some r) : Pure Tryz.prog tab 41 [.agg [.sl 7 (a.Lines.map Kf),.sl 5 (a.Marks.map Km),.int .u8 a.End.Frame.Turn,q7 a.End.Frame.At.X,q7 a.End.Frame.At.Y,q7 a.End.Frame.At.Z,q7 a.End.Drawn]] (q7 r):=by
 unfold q9h at c;refine Qn Tryz.func41 J qh qh J<|qd<|Qo _ _ J<|qc J<|qa<|qf<|qd<|O _ J<|O _ J<|Qm J<|O _ J<|q8 c fun c1 l c=>?_;refine Qb 6 (fun A st=>∃ w x y z j7,st = A [(17,qz c1),(16,j7),(15,z),(14,y),(13,x),(12,w)]) ?_ ?_
 ·refine Q9 J J l (fun l=>?_) (fun l=>?_)
  ·refine qb J<|qb J<|qb J<|qb J<|O _ J<|qa ?_;cases l;exact ⟨_,_,_,_,_,J⟩
  refine O _ J<|O _ J<|Qm J<|O _ J<|O _ J<|qa ?_;cases l;exact ⟨_,_,_,_,_,J⟩
 rintro _ ⟨w,x,y,z,j7,rfl⟩;refine q8 c fun av h c=>?_;refine Qb 7 (fun A st=>∃ ab ac ad ae af ag,st = A [(24,qz av),(23,ag),(22,af),(21,ae),(20,ad),(19,ac),(18,ab)]) ?_ ?_
 ·refine Q9 J J h (fun h=>?_) (fun h=>?_)
  ·refine qb J<|qb J<|qb J<|qb J<|qb J<|O _ J<|qa ?_;cases h;exact ⟨_,_,_,_,_,_,J⟩
  refine O _ J<|O _ J<|O _ J<|q8 h fun aw ax h=>Q5 (qmi a.End.Frame aw ax) J<|O _ J<|O _ J<|qa ?_;cases h;exact ⟨_,_,_,_,_,_,J⟩
 rintro _ ⟨ab,ac,ad,ae,af,ag,rfl⟩;refine qa ?_;refine qo J c (fun _ c=>?_) (fun _ c=>?_)
 ·refine qd<|qc J<|qs ?_;cases c;exact Q6 _ J
 refine ql<|qf<|qd<|qc J<|qa<|q8 c fun ah ay c=>?_;refine Qj (fun u=>.inl u = ah) (fun u=>⟨[(1,.ref 0 7 0 0)],[(0,.dat 7 [[.sl 7 (a.Lines.map Kf),.sl 5 (a.Marks.map Km),.int .u8 a.End.Frame.Turn,q7 a.End.Frame.At.X,q7 a.End.Frame.At.Y,q7 a.End.Frame.At.Z,q7 a.End.Drawn]])],1⟩) qe ?_ ?_
 ·refine Qf (q5z a) (fun m=>⟨[(1,.ref 0 7 0 0),(3,q9 m)],[(0,.dat 7 [[.sl 7 (a.Lines.map Kf),.sl 5 (a.Marks.map Km),.int .u8 a.End.Frame.Turn,q7 a.End.Frame.At.X,q7 a.End.Frame.At.Y,q7 a.End.Frame.At.Z,q7 a.End.Drawn]])],1⟩) 0 ah ay (wkA [(0,0)] [] []) ?_;intro m bp b;unfold q5z at b;refine qf<|qd<|U J<|O _ J<|O _ J<|Qm J<|O _ J<|qa ?_;refine qo J b (fun _ b=>?_) (fun _ b=>?_)
  ·refine ql<|qf<|Q4<|qf<|Qi [Qu 2,Qu 1,(some [],[2]),(some [],[1]),q0,q0,q0,q0,qu 0,q0,q0,q0,q0,q0,qu 0,q0] qh<|O _ J<|O _ J<|U J<|q8 b fun f az b=>Qc az J<|O _ J<|O _ J<|O _ J<|O _ J<|U J<|q8 b fun g ba b=>Qc ba J<|O _ J<|O _ J<|K2 J J<|K2 J J<|Ql 1 _ J<|Ql 2 _ J<|qt<|qc J<|qa<|qf<|qd<|O _ J<|O _ J<|O _ J<|O _ J<|O _ J<|qa<|q8 b fun bb n b=>?_;refine Yu (fun q=>q = bb) (fun q=>⟨[(1,.ref 0 7 0 0),(3,q9 m),(4,.ref 1 3 0 0),(5,.ref 2 3 0 0),(6,q9 q)],[(0,.dat 7 [[.sl 7 (a.Lines.map Kf),.sl 5 (a.Marks.map Km),.int .u8 a.End.Frame.Turn,q7 a.End.Frame.At.X,q7 a.End.Frame.At.Y,q7 a.End.Frame.At.Z,q7 a.End.Drawn]]),(1,.dat 3 [[q7 f.From.X,q7 f.From.Y,q7 f.From.Z]]),(2,.dat 3 [[q7 g.To.X,q7 g.To.Y,q7 g.To.Z]])],3⟩) qe ?_ ?_
   ·refine qo J n (fun _ n=>?_) (fun _ n=>?_)
    ·refine qw<|U J<|O _ J<|qc J<|qv ?_;cases n;exact ⟨_,J,wkA [(0,0),(1,1),(2,2)] [] []⟩
    refine ql<|Qh ?_;cases n;exact ⟨_,J,wkA [(0,0),(1,1),(2,2)] [] []⟩
   intro q hb;subst hb;refine qf<|qd<|O _ J<|O _ J<|O _ J<|O _ J<|O _ J<|qa<|q8 b fun bc o b=>?_;refine Yu (fun s=>s = bc) (fun s=>⟨[(1,.ref 0 7 0 0),(3,q9 m),(4,.ref 1 3 0 0),(5,.ref 2 3 0 0),(6,q9 s)],[(0,.dat 7 [[.sl 7 (a.Lines.map Kf),.sl 5 (a.Marks.map Km),.int .u8 a.End.Frame.Turn,q7 a.End.Frame.At.X,q7 a.End.Frame.At.Y,q7 a.End.Frame.At.Z,q7 a.End.Drawn]]),(1,.dat 3 [[q7 f.From.X,q7 f.From.Y,q7 f.From.Z]]),(2,.dat 3 [[q7 g.To.X,q7 g.To.Y,q7 g.To.Z]])],3⟩) qe ?_ ?_
   ·refine qo J o (fun _ o=>?_) (fun _ o=>?_)
    ·refine qw<|U J<|O _ J<|qc J<|qv ?_;cases o;exact ⟨_,J,wkA [(0,0),(1,1),(2,2)] [] []⟩
    refine ql<|Qh ?_;cases o;exact ⟨_,J,wkA [(0,0),(1,1),(2,2)] [] []⟩
   intro s hb;subst hb;refine qf<|qd<|O _ J<|O _ J<|O _ J<|O _ J<|O _ J<|qa<|q8 b fun bd p b=>?_;refine Yu (fun t=>t = bd) (fun t=>⟨[(1,.ref 0 7 0 0),(3,q9 m),(4,.ref 1 3 0 0),(5,.ref 2 3 0 0),(6,q9 t)],[(0,.dat 7 [[.sl 7 (a.Lines.map Kf),.sl 5 (a.Marks.map Km),.int .u8 a.End.Frame.Turn,q7 a.End.Frame.At.X,q7 a.End.Frame.At.Y,q7 a.End.Frame.At.Z,q7 a.End.Drawn]]),(1,.dat 3 [[q7 f.From.X,q7 f.From.Y,q7 f.From.Z]]),(2,.dat 3 [[q7 g.To.X,q7 g.To.Y,q7 g.To.Z]])],3⟩) qe ?_ ?_
   ·refine qo J p (fun _ p=>?_) (fun _ p=>?_)
    ·refine qw<|U J<|O _ J<|qc J<|qv ?_;cases p;exact ⟨_,J,wkA [(0,0),(1,1),(2,2)] [] []⟩
    refine ql<|Qh ?_;cases p;exact ⟨_,J,wkA [(0,0),(1,1),(2,2)] [] []⟩
   intro t hb;subst hb;refine qd<|U J<|O _ J<|q8 b fun be j b=>?_;refine Qb 5 (fun A st=>∃ ai aj ak al,st = A [(71,qz be),(70,al),(69,ak),(68,aj),(67,ai)]) ?_ ?_
   ·refine Q9 J J j (fun j=>?_) (fun j=>?_)
    ·refine qb J<|qb J<|qb J<|O _ J<|qa ?_;cases j;exact ⟨_,_,_,_,J⟩
    refine O _ J<|q8 j fun bf bg j=>Q5 (q1v f.From (-1000000) bf bg) J<|O _ J<|O _ J<|qa ?_;cases j;exact ⟨_,_,_,_,J⟩
   rintro _ ⟨ai,aj,ak,al,rfl⟩;refine q8 b fun bh k b=>?_;refine Qb 5 (fun A st=>∃ am an ao ap,st = A [(76,qz bh),(75,ap),(74,ao),(73,an),(72,am)]) ?_ ?_
   ·refine Q9 J J k (fun k=>?_) (fun k=>?_)
    ·refine qb J<|qb J<|qb J<|O _ J<|qa ?_;cases k;exact ⟨_,_,_,_,J⟩
    refine O _ J<|q8 k fun bi bj k=>Q5 (q1v g.To (-1000000) bi bj) J<|O _ J<|O _ J<|qa ?_;cases k;exact ⟨_,_,_,_,J⟩
   rintro _ ⟨am,an,ao,ap,rfl⟩;refine qa ?_;refine qo J b (fun _ b=>?_) (fun _ b=>?_)
   ·refine qd<|qc J<|qs ?_;refine ⟨_,qm b,fun hm=>?_⟩;subst hm;cases c;exact Q6 _ J
   refine ql<|Qh<|Qp<|qw<|U J<|O _ J<|qc J<|qv<|⟨_,qm b,wkA [(0,0)] [] []⟩
  refine Qa ?_;refine ⟨_,qm b,fun hm=>?_⟩;subst hm;exact ⟨_,J,wkA [(0,0)] [] []⟩
 intro u hb;subst hb;refine qf<|qd<|qc J<|qa<|q8 c fun aq bk c=>?_;refine Qj (fun v=>.inl v = aq) (fun v=>⟨[],[],0⟩) qe ?_ ?_
 ·refine Qf (q60 a) (fun ar=>⟨[(1,.ref 0 7 0 0),(7,q9 ar)],[(0,.dat 7 [[.sl 7 (a.Lines.map Kf),.sl 5 (a.Marks.map Km),.int .u8 a.End.Frame.Turn,q7 a.End.Frame.At.X,q7 a.End.Frame.At.Y,q7 a.End.Frame.At.Z,q7 a.End.Drawn]])],1⟩) 0 aq bk (wkA [(0,0)] [] []) ?_;intro ar bq d;unfold q60 at d;refine qf<|qd<|U J<|O _ J<|O _ J<|Qm J<|O _ J<|qa ?_;refine qo J d (fun _ d=>?_) (fun _ d=>?_)
  ·refine ql<|qf<|Q4<|qd<|O _ J<|O _ J<|U J<|q8 d fun bl bm d=>Qc bm J<|O _ J<|O _ J<|q8 d fun bn bo d=>Q5 (qmi bl.Frame bn bo) J<|O _ J<|qa ?_;refine qo J d (fun _ d=>?_) (fun _ d=>?_)
   ·refine qd<|qc J<|qs ?_;refine ⟨_,qm d,fun hm=>?_⟩;subst hm;cases c;exact Q6 _ J
   refine ql<|Qh<|Qp<|qw<|U J<|O _ J<|qc J<|qv<|⟨_,qm d,wkA [(0,0)] [] []⟩
  refine Qa ?_;refine ⟨_,qm d,fun hm=>?_⟩;subst hm;exact ⟨_,J,wkA [] [] []⟩
 intro v hb;subst hb;refine qd<|qc J<|qs ?_;cases c;exact Q6 _ J
theorem qwk (b : qg) (r : Bool) (a : q9m b = some r) : Pure Tryz.prog tab 56 [.agg [q7 b.Lo.X,q7 b.Lo.Y,q7 b.Lo.Z,q7 b.Hi.X,q7 b.Hi.Y,q7 b.Hi.Z]] (.bool r):=by
 unfold q9m at a;refine Qn Tryz.func56 J qh qh J<|qd<|Qo _ _ J<|qc J<|qt<|O _ J<|O _ J<|q8 a fun r1 h2 a=>Q5 (q1v b.Lo (-1000000) r1 h2) J<|q8 a fun c5 c a=>?_;refine Qb 5 (fun A st=>∃ h j k l,st = A [(11,qz c5),(10,l),(9,k),(8,j),(7,h)]) ?_ ?_
 ·refine Q9 J J c (fun c=>?_) (fun c=>?_)
  ·refine O _ J<|O _ J<|q8 c fun ao ap c=>Q5 (q1v b.Hi (-1000000) ao ap) J<|O _ J<|qa ?_;cases c;exact ⟨_,_,_,_,J⟩
  refine qb J<|qb J<|qb J<|O _ J<|qa ?_;cases c;exact ⟨_,_,_,_,J⟩
 rintro _ ⟨h,j,k,l,rfl⟩;refine qc J<|qt<|U J<|q8 a fun aq d a=>?_;refine Qb 9 (fun A st=>∃ m n o p q s t u,st = A [(21,qz aq),(20,u),(19,t),(18,s),(17,q),(16,p),(15,o),(14,n),(13,m)]) ?_ ?_
 ·refine Q9 J J d (fun d=>?_) (fun d=>?_)
  ·refine O _ J<|O _ J<|O _ J<|O _ J<|O _ J<|O _ J<|O _ J<|O _ J<|qa ?_;cases d;exact ⟨_,_,_,_,_,_,_,_,J⟩
  refine qb J<|qb J<|qb J<|qb J<|qb J<|qb J<|qb J<|O _ J<|qa ?_;cases d;exact ⟨_,_,_,_,_,_,_,_,J⟩
 rintro _ ⟨m,n,o,p,q,s,t,u,rfl⟩;refine q8 a fun ar f a=>?_;refine Qb 9 (fun A st=>∃ v w x y z aa ab ac,st = A [(30,qz ar),(29,ac),(28,ab),(27,aa),(26,z),(25,y),(24,x),(23,w),(22,v)]) ?_ ?_
 ·refine Q9 J J f (fun f=>?_) (fun f=>?_)
  ·refine O _ J<|O _ J<|O _ J<|O _ J<|O _ J<|O _ J<|O _ J<|O _ J<|qa ?_;cases f;exact ⟨_,_,_,_,_,_,_,_,J⟩
  refine qb J<|qb J<|qb J<|qb J<|qb J<|qb J<|qb J<|O _ J<|qa ?_;cases f;exact ⟨_,_,_,_,_,_,_,_,J⟩
 rintro _ ⟨v,w,x,y,z,aa,ab,ac,rfl⟩;refine q8 a fun au g a=>?_;refine Qb 9 (fun A st=>∃ ad ae af ag ah ai aj ak,st = A [(39,qz au),(38,ak),(37,aj),(36,ai),(35,ah),(34,ag),(33,af),(32,ae),(31,ad)]) ?_ ?_
 ·refine Q9 J J g (fun g=>?_) (fun g=>?_)
  ·refine O _ J<|O _ J<|O _ J<|O _ J<|O _ J<|O _ J<|O _ J<|O _ J<|qa ?_;cases g;exact ⟨_,_,_,_,_,_,_,_,J⟩
  refine qb J<|qb J<|qb J<|qb J<|qb J<|qb J<|qb J<|O _ J<|qa ?_;cases g;exact ⟨_,_,_,_,_,_,_,_,J⟩
 rintro _ ⟨ad,ae,af,ag,ah,ai,aj,ak,rfl⟩;refine qc J<|qs ?_;cases a;exact Q6 _ J
theorem qgr (g : List Int) (r : List Int) (n : U5 g = some r) : Pure Tryz.prog tab 101 [.sl 1 (g.map (eI .i64))] (.sl 1 (r.map (eI .i64))):=by
 unfold U5 at n;refine Qn Tryz.func101 J qh qh J<|qd<|qc J<|qt<|qc J<|qa<|qf<|qd<|qc J<|qa<|q8 n fun s bb n=>?_;refine Qj (fun l=>l = s) (fun l=>⟨[(3,.hs 0 1 0 l.length)],[(0,.dat 1 (l.map (eI .i64)))],1⟩) qe ?_ ?_
 ·refine Qf (q3v g) (fun b=>⟨[(0,.d (.sl 1 (g.map (eI .i64)))),(3,.hs 0 1 0 b.2.length),(4,q9 b.1)],[(0,.dat 1 (b.2.map (eI .i64)))],1⟩) (0,[]) s bb (wkA [] [] [0]) ?_;intro b bk h;unfold q3v at h;refine qf<|qd<|U J<|U J<|Qm J<|O _ J<|qa ?_;refine qo J h (fun _ h=>?_) (fun _ h=>?_)
  ·refine ql<|qf<|q8 h fun bc a h=>?_;refine Qj (fun m=>m = bc) (fun m=>⟨[(0,.d (.sl 1 (g.map (eI .i64)))),(3,.hs 0 1 0 m.length),(4,q9 b.1)],[(0,.dat 1 (m.map (eI .i64)))],1⟩) qe ?_ ?_
   ·refine qd<|U J<|O _ J<|qc J<|qa<|qf<|q8 a fun t bd a=>?_;refine Qj (fun o=>o = t) (fun o=>⟨[(0,.d (.sl 1 (g.map (eI .i64)))),(3,.hs 0 1 0 b.2.length),(4,q9 b.1),(5,q9 o)],[(0,.dat 1 (b.2.map (eI .i64)))],1⟩) qe ?_ ?_
    ·refine Qf (q3w b g) (fun u=>⟨[(0,.d (.sl 1 (g.map (eI .i64)))),(3,.hs 0 1 0 b.2.length),(4,q9 b.1),(5,q9 u)],[(0,.dat 1 (b.2.map (eI .i64)))],1⟩) (b.2.length : Int) t bd (wkA [(0,0)] [] []) ?_;intro u bl j;unfold q3w at j;refine qf<|qf<|Qi [q0,q0,q0,q0,q0,q0,qu 0,q0,q0,q0,q0,q0,q0,q0] qh<|U J<|O _ J<|q8 j fun be c j=>?_;refine Qb 12 (fun A st=>∃ v x y z aa ab ac ad ae af ag,st = A [(27,qz be),(26,ag),(25,af),(24,ae),(23,ad),(22,ac),(21,ab),(20,aa),(19,z),(18,y),(17,x),(16,v)]) ?_ ?_
     ·refine Q9 J J c (fun c=>?_) (fun c=>?_)
      ·refine U J<|U J<|O _ J<|q8 c fun bm ah c=>Q0 ah J J<|Qd _ ah J<|U J<|U J<|q8 c fun bn bf c=>Qc bf J<|O _ J<|O _ J<|O _ J<|qa ?_;cases c;exact ⟨_,_,_,_,_,_,_,_,_,_,_,J⟩
      refine qb J<|qb J<|qb J<|qb J<|qb J<|qb J<|qb J<|qb J<|qb J<|qb J<|O _ J<|qa ?_;cases c;exact ⟨_,_,_,_,_,_,_,_,_,_,_,J⟩
     rintro _ ⟨v,x,y,z,aa,ab,ac,ad,ae,af,ag,rfl⟩;refine qa ?_;refine qo J j (fun _ j=>?_) (fun _ j=>?_)
     ·refine ql<|Q4<|qw<|U J<|O _ J<|qc J<|qv<|Qp<|Qh<|⟨_,qm j,wkA [(0,0)] [] []⟩
     refine Qa ?_;refine ⟨_,qm j,fun hm=>?_⟩;subst hm;exact ⟨_,J,wkA [(0,0)] [] []⟩
    intro o hb;subst hb;refine qf<|qf<|Qi [q0,q0,q0,q0,q0,q0,qu 0,q0,q0,q0,q0,q0,q0,q0] qh<|U J<|O _ J<|q8 a fun bg f a=>?_;refine Qb 12 (fun A st=>∃ ai aj ak al am an ao ap aq ar au,st = A [(43,qz bg),(42,au),(41,ar),(40,aq),(39,ap),(38,ao),(37,an),(36,am),(35,al),(34,ak),(33,aj),(32,ai)]) ?_ ?_
    ·refine Q9 J J f (fun f=>?_) (fun f=>?_)
     ·refine U J<|U J<|O _ J<|q8 f fun bo av f=>Q0 av J J<|Qd _ av J<|U J<|U J<|q8 f fun bp bh f=>Qc bh J<|O _ J<|O _ J<|O _ J<|qa ?_;cases f;exact ⟨_,_,_,_,_,_,_,_,_,_,_,J⟩
     refine qb J<|qb J<|qb J<|qb J<|qb J<|qb J<|qb J<|qb J<|qb J<|qb J<|O _ J<|qa ?_;cases f;exact ⟨_,_,_,_,_,_,_,_,_,_,_,J⟩
    rintro _ ⟨ai,aj,ak,al,am,an,ao,ap,aq,ar,au,rfl⟩;refine qa ?_;refine qo J a (fun _ a=>?_) (fun _ a=>?_)
    ·refine Qa ?_;cases a;exact ⟨_,J,wkA [(0,0)] [] []⟩
    refine ql<|qd<|U J<|Qo _ _ J<|q8 a fun p bi a=>Kv _ bi J J J J J J J (Kt J J) J J J J<|qc J<|qa<|qf<|Qi [Qu 2,q0,q0,q0,q0,q0,q0,q0] qh<|U J<|U J<|O _ J<|q8 a fun aw q a=>q98 q J J J J J (q8j J) (fun _=>rfl)<|U J<|U J<|q8 a fun k ax a=>q98 ax J J J J J (q8j J) (fun _=>rfl)<|qu2 (w:=aw) (xs:=p) (ys:=(p.drop k.1).take k.2) (enc:=(eI .i64)) (.hs 2 1 k.1 k.2) (qb8 q) J J J J J J (qr6 (qb8 ax) J) J J J J ?_;have ay:=@qjd _ p ((p.drop k.1).take k.2) aw (qb8 q);refine qa<|qw<|U J<|U J<|U J<|U J<|q8 a fun az bj a=>Qc bj J<|O _ J<|q8 a fun bq ba a=>Q0 ba (by simp [ay]) J<|K5 (ds:=[q7 az]) az ba J J J J J J J J (leb J) J<|qv ?_;cases a;exact ⟨_,J,wkE [(0,2)] [] [] J ⟨qq J,⟨_,J,K7 (by simp [ay]) J qx (ltd J)⟩,qq J,trivial⟩ ⟨Qs J J,trivial⟩⟩
   intro m hb;subst hb;refine qw<|U J<|O _ J<|qc J<|qv<|⟨_,qm h,wkA [(0,0)] [] []⟩
  refine Qa ?_;refine ⟨_,qm h,fun hm=>?_⟩;subst hm;exact ⟨_,J,wkA [(0,0)] [] []⟩
 intro l hb;subst hb;refine qd<|U J<|qc J<|qs ?_;cases n;exact finD (.inr J) J (Za J J) (.refl _)
theorem qwc (j : List qg) (g : List qg) (r : List Int) (c : q9i j g = some r) : Pure Tryz.prog tab 78 [.sl 6 (j.map Qe),.sl 6 (g.map Qe)] (.sl 1 (r.map (eI .i64))):=by
 unfold q9i at c;refine Qn Tryz.func78 J qh qh J<|qd<|qc J<|qt<|qc J<|qa<|qf<|qd<|qc J<|qa<|q8 c fun m o c=>?_;refine Qj (fun h=>h = m) (fun h=>⟨[(1,.d (.sl 6 (g.map Qe))),(5,.hs 0 1 0 h.length)],[(0,.dat 1 (h.map (eI .i64)))],1⟩) qe ?_ ?_
 ·refine Qf (q44 j) (fun k=>⟨[(0,.d (.sl 6 (j.map Qe))),(1,.d (.sl 6 (g.map Qe))),(5,.hs 0 1 0 k.2.length),(6,q9 k.1)],[(0,.dat 1 (k.2.map (eI .i64)))],1⟩) (0,[]) m o (wkA [] [] [0]) ?_;intro k z a;unfold q44 at a;refine qf<|qd<|U J<|U J<|Qm J<|O _ J<|qa ?_;refine qo J a (fun _ a=>?_) (fun _ a=>?_)
  ·refine ql<|qf<|Q4<|Qi [q0,(some [0,1],[0,2]),(some [],[1]),q0,q0,q0,q0,q0,q0,q0,q0,q0,q0,q0,q0,q0] qh<|U J<|U J<|U J<|q8 a fun aa p a=>Qc p J<|O _ J<|O _ J<|O _ J<|U J<|U J<|q8 a fun ab q a=>Qc q J<|O _ J<|O _ J<|O _ J<|Qo _ _ J<|q8 a fun ac s a=>Kv _ s J J J J J J J (Kt J J) J J J J<|qc J<|qv<|Qp<|qw<|U J<|O _ J<|qc J<|qv<|⟨_,qm a,wkA [(0,2)] [] []⟩
  refine Qa ?_;refine ⟨_,qm a,fun hm=>?_⟩;subst hm;exact ⟨_,J,wkA [(0,0)] [] []⟩
 intro h hb;subst hb;refine qf<|qd<|qc J<|qa<|q8 c fun n t c=>?_;refine Qj (fun f=>f = n) (fun f=>⟨[(5,.hs 0 1 0 f.length)],[(0,.dat 1 (f.map (eI .i64)))],1⟩) qe ?_ ?_
 ·refine Qf (q45 g) (fun l=>⟨[(1,.d (.sl 6 (g.map Qe))),(5,.hs 0 1 0 l.2.length),(7,q9 l.1)],[(0,.dat 1 (l.2.map (eI .i64)))],1⟩) (0,h) n t (wkA [(0,0)] [] []) ?_;intro l ad b;unfold q45 at b;refine qf<|qd<|U J<|U J<|Qm J<|O _ J<|qa ?_;refine qo J b (fun _ b=>?_) (fun _ b=>?_)
  ·refine ql<|qf<|Q4<|Qi [q0,(some [0,1],[0,2]),(some [],[1]),q0,q0,q0,q0,q0,q0,q0,q0,q0,q0,q0,q0,q0] qh<|U J<|U J<|U J<|q8 b fun ae u b=>Qc u J<|O _ J<|O _ J<|O _ J<|U J<|U J<|q8 b fun af v b=>Qc v J<|O _ J<|O _ J<|O _ J<|Qo _ _ J<|q8 b fun ag w b=>Kv _ w J J J J J J J (Kt J J) J J J J<|qc J<|qv<|Qp<|qw<|U J<|O _ J<|qc J<|qv<|⟨_,qm b,wkA [(0,2)] [] []⟩
  refine Qa ?_;refine ⟨_,qm b,fun hm=>?_⟩;subst hm;exact ⟨_,J,wkA [(0,0)] [] []⟩
 intro f hb;subst hb;refine qf ?_;refine Yc (st':=⟨[(5,.d (.sl 1 (f.map (eI .i64))))],[],0⟩) (wkA [] [0] []) ?_ qe;refine qw<|U J<|q8 c fun x y c=>Q5 (qgr f x y) J<|qc J<|qs ?_;cases c;exact Q6 _ J
theorem qd3 (f : List qg) (g : Int) (r : List qi) (l : U6 f g = some r) : Pure Tryz.prog tab 80 [.sl 6 (f.map Qe),q7 g] (.sl 4 (r.map Q2)):=by
 unfold U6 at l;refine Qn Tryz.func80 J qh qh J<|qd<|qc J<|qt<|qc J<|qa<|qf<|qd<|qc J<|qa<|q8 l fun m x l=>?_;refine Qj (fun h=>h = m) (fun h=>⟨[(5,.hs 0 4 0 h.length)],[(0,.dat 4 (h.map Q2))],1⟩) qe ?_ ?_
 ·refine Qf (q61 f g) (fun j=>⟨[(0,.d (.sl 6 (f.map Qe))),(1,q9 g),(5,.hs 0 4 0 j.2.length),(6,q9 j.1)],[(0,.dat 4 (j.2.map Q2))],1⟩) (0,[]) m x (wkA [] [] [0]) ?_;intro j ah b;unfold q61 at b;refine qf<|qd<|U J<|U J<|Qm J<|O _ J<|qa ?_;refine qo J b (fun _ b=>?_) (fun _ b=>?_)
  ·refine ql<|qf<|q8 b fun y a b=>?_;refine Qj (fun k=>k = y) (fun k=>⟨[(0,.d (.sl 6 (f.map Qe))),(1,q9 g),(5,.hs 0 4 0 k.length),(6,q9 j.1)],[(0,.dat 4 (k.map Q2))],1⟩) qe ?_ ?_
   ·refine qd<|U J<|U J<|q8 a fun ai z a=>Qc z J<|O _ J<|O _ J<|O _ J<|U J<|O _ J<|q8 a fun aa c a=>?_;refine Qb 10 (fun A st=>∃ n o p q s t u v w,st = A [(30,qz aa),(29,w),(28,v),(27,u),(26,t),(25,s),(24,q),(23,p),(22,o),(21,n)]) ?_ ?_
    ·refine Q9 J J c (fun c=>?_) (fun c=>?_)
     ·refine U J<|U J<|U J<|q8 c fun aj ab c=>Qc ab J<|O _ J<|O _ J<|O _ J<|O _ J<|O _ J<|qa ?_;cases c;exact ⟨_,_,_,_,_,_,_,_,_,J⟩
     refine qb J<|qb J<|qb J<|qb J<|qb J<|qb J<|qb J<|qb J<|O _ J<|qa ?_;cases c;exact ⟨_,_,_,_,_,_,_,_,_,J⟩
    rintro _ ⟨n,o,p,q,s,t,u,v,w,rfl⟩;refine qa ?_;refine qo J a (fun _ a=>?_) (fun _ a=>?_)
    ·refine Qi [q0,(some [0,1],[0,2]),(some [],[1]),q0,q0,q0,q0,q0,q0,q0,q0,q0,q0,q0,q0,q0,q0,q0,q0,q0,q0,q0,q0,q0,q0,q0,q0,q0,q0] qh<|U J<|U J<|U J<|q8 a fun ak ac a=>Qc ac J<|O _ J<|O _ J<|O _ J<|U J<|U J<|q8 a fun al ad a=>Qc ad J<|O _ J<|O _ J<|O _ J<|U J<|U J<|q8 a fun am ae a=>Qc ae J<|O _ J<|O _ J<|O _ J<|U J<|U J<|q8 a fun an af a=>Qc af J<|O _ J<|O _ J<|O _ J<|O _ J<|Qo _ _ J<|q8 a fun ao ag a=>Kv _ ag J J J J J J J (Kt J J) J J J J<|qc J<|qv ?_;cases a;exact ⟨_,J,wkA [(0,2)] [] []⟩
    refine ql<|Qh ?_;cases a;exact ⟨_,J,wkA [(0,0)] [] []⟩
   intro k hb;subst hb;refine qw<|U J<|O _ J<|qc J<|qv<|⟨_,qm b,wkA [(0,0)] [] []⟩
  refine Qa ?_;refine ⟨_,qm b,fun hm=>?_⟩;subst hm;exact ⟨_,J,wkA [(0,0)] [] []⟩
 intro h hb;subst hb;refine qd<|U J<|qc J<|qs ?_;cases l;exact finD (.inr J) J (Za J J) (.refl _)
theorem qw4 (j : List qi) (g : List qi) (r : List Int) (c : q9e j g = some r) : Pure Tryz.prog tab 102 [.sl 4 (j.map Q2),.sl 4 (g.map Q2)] (.sl 1 (r.map (eI .i64))):=by
 unfold q9e at c;refine Qn Tryz.func102 J qh qh J<|qd<|qc J<|qt<|qc J<|qa<|qf<|qd<|qc J<|qa<|q8 c fun m o c=>?_;refine Qj (fun h=>h = m) (fun h=>⟨[(1,.d (.sl 4 (g.map Q2))),(5,.hs 0 1 0 h.length)],[(0,.dat 1 (h.map (eI .i64)))],1⟩) qe ?_ ?_
 ·refine Qf (q3z j) (fun k=>⟨[(0,.d (.sl 4 (j.map Q2))),(1,.d (.sl 4 (g.map Q2))),(5,.hs 0 1 0 k.2.length),(6,q9 k.1)],[(0,.dat 1 (k.2.map (eI .i64)))],1⟩) (0,[]) m o (wkA [] [] [0]) ?_;intro k z a;unfold q3z at a;refine qf<|qd<|U J<|U J<|Qm J<|O _ J<|qa ?_;refine qo J a (fun _ a=>?_) (fun _ a=>?_)
  ·refine ql<|qf<|Q4<|Qi [q0,(some [0,1],[0,2]),(some [],[1]),q0,q0,q0,q0,q0,q0,q0,q0,q0,q0,q0] qh<|U J<|U J<|U J<|q8 a fun aa p a=>Qc p J<|O _ J<|O _ J<|U J<|U J<|q8 a fun ab q a=>Qc q J<|O _ J<|O _ J<|Qo _ _ J<|q8 a fun ac s a=>Kv _ s J J J J J J J (Kt J J) J J J J<|qc J<|qv<|Qp<|qw<|U J<|O _ J<|qc J<|qv<|⟨_,qm a,wkA [(0,2)] [] []⟩
  refine Qa ?_;refine ⟨_,qm a,fun hm=>?_⟩;subst hm;exact ⟨_,J,wkA [(0,0)] [] []⟩
 intro h hb;subst hb;refine qf<|qd<|qc J<|qa<|q8 c fun n t c=>?_;refine Qj (fun f=>f = n) (fun f=>⟨[(5,.hs 0 1 0 f.length)],[(0,.dat 1 (f.map (eI .i64)))],1⟩) qe ?_ ?_
 ·refine Qf (q40 g) (fun l=>⟨[(1,.d (.sl 4 (g.map Q2))),(5,.hs 0 1 0 l.2.length),(7,q9 l.1)],[(0,.dat 1 (l.2.map (eI .i64)))],1⟩) (0,h) n t (wkA [(0,0)] [] []) ?_;intro l ad b;unfold q40 at b;refine qf<|qd<|U J<|U J<|Qm J<|O _ J<|qa ?_;refine qo J b (fun _ b=>?_) (fun _ b=>?_)
  ·refine ql<|qf<|Q4<|Qi [q0,(some [0,1],[0,2]),(some [],[1]),q0,q0,q0,q0,q0,q0,q0,q0,q0,q0,q0] qh<|U J<|U J<|U J<|q8 b fun ae u b=>Qc u J<|O _ J<|O _ J<|U J<|U J<|q8 b fun af v b=>Qc v J<|O _ J<|O _ J<|Qo _ _ J<|q8 b fun ag w b=>Kv _ w J J J J J J J (Kt J J) J J J J<|qc J<|qv<|Qp<|qw<|U J<|O _ J<|qc J<|qv<|⟨_,qm b,wkA [(0,2)] [] []⟩
  refine Qa ?_;refine ⟨_,qm b,fun hm=>?_⟩;subst hm;exact ⟨_,J,wkA [(0,0)] [] []⟩
 intro f hb;subst hb;refine qf ?_;refine Yc (st':=⟨[(5,.d (.sl 1 (f.map (eI .i64))))],[],0⟩) (wkA [] [0] []) ?_ qe;refine qw<|U J<|q8 c fun x y c=>Q5 (qgr f x y) J<|qc J<|qs ?_;cases c;exact Q6 _ J
theorem qw6 (j : List qi) (g : List qi) (r : List Int) (c : q9f j g = some r) : Pure Tryz.prog tab 103 [.sl 4 (j.map Q2),.sl 4 (g.map Q2)] (.sl 1 (r.map (eI .i64))):=by
 unfold q9f at c;refine Qn Tryz.func103 J qh qh J<|qd<|qc J<|qt<|qc J<|qa<|qf<|qd<|qc J<|qa<|q8 c fun m o c=>?_;refine Qj (fun h=>h = m) (fun h=>⟨[(1,.d (.sl 4 (g.map Q2))),(5,.hs 0 1 0 h.length)],[(0,.dat 1 (h.map (eI .i64)))],1⟩) qe ?_ ?_
 ·refine Qf (q41 j) (fun k=>⟨[(0,.d (.sl 4 (j.map Q2))),(1,.d (.sl 4 (g.map Q2))),(5,.hs 0 1 0 k.2.length),(6,q9 k.1)],[(0,.dat 1 (k.2.map (eI .i64)))],1⟩) (0,[]) m o (wkA [] [] [0]) ?_;intro k z a;unfold q41 at a;refine qf<|qd<|U J<|U J<|Qm J<|O _ J<|qa ?_;refine qo J a (fun _ a=>?_) (fun _ a=>?_)
  ·refine ql<|qf<|Q4<|Qi [q0,(some [0,1],[0,2]),(some [],[1]),q0,q0,q0,q0,q0,q0,q0,q0,q0,q0,q0] qh<|U J<|U J<|U J<|q8 a fun aa p a=>Qc p J<|O _ J<|O _ J<|U J<|U J<|q8 a fun ab q a=>Qc q J<|O _ J<|O _ J<|Qo _ _ J<|q8 a fun ac s a=>Kv _ s J J J J J J J (Kt J J) J J J J<|qc J<|qv<|Qp<|qw<|U J<|O _ J<|qc J<|qv<|⟨_,qm a,wkA [(0,2)] [] []⟩
  refine Qa ?_;refine ⟨_,qm a,fun hm=>?_⟩;subst hm;exact ⟨_,J,wkA [(0,0)] [] []⟩
 intro h hb;subst hb;refine qf<|qd<|qc J<|qa<|q8 c fun n t c=>?_;refine Qj (fun f=>f = n) (fun f=>⟨[(5,.hs 0 1 0 f.length)],[(0,.dat 1 (f.map (eI .i64)))],1⟩) qe ?_ ?_
 ·refine Qf (q42 g) (fun l=>⟨[(1,.d (.sl 4 (g.map Q2))),(5,.hs 0 1 0 l.2.length),(7,q9 l.1)],[(0,.dat 1 (l.2.map (eI .i64)))],1⟩) (0,h) n t (wkA [(0,0)] [] []) ?_;intro l ad b;unfold q42 at b;refine qf<|qd<|U J<|U J<|Qm J<|O _ J<|qa ?_;refine qo J b (fun _ b=>?_) (fun _ b=>?_)
  ·refine ql<|qf<|Q4<|Qi [q0,(some [0,1],[0,2]),(some [],[1]),q0,q0,q0,q0,q0,q0,q0,q0,q0,q0,q0] qh<|U J<|U J<|U J<|q8 b fun ae u b=>Qc u J<|O _ J<|O _ J<|U J<|U J<|q8 b fun af v b=>Qc v J<|O _ J<|O _ J<|Qo _ _ J<|q8 b fun ag w b=>Kv _ w J J J J J J J (Kt J J) J J J J<|qc J<|qv<|Qp<|qw<|U J<|O _ J<|qc J<|qv<|⟨_,qm b,wkA [(0,2)] [] []⟩
  refine Qa ?_;refine ⟨_,qm b,fun hm=>?_⟩;subst hm;exact ⟨_,J,wkA [(0,0)] [] []⟩
 intro f hb;subst hb;refine qf ?_;refine Yc (st':=⟨[(5,.d (.sl 1 (f.map (eI .i64))))],[],0⟩) (wkA [] [0] []) ?_ qe;refine qw<|U J<|q8 c fun x y c=>Q5 (qgr f x y) J<|qc J<|qs ?_;cases c;exact Q6 _ J
theorem qmg (h : List qi) (j : Int) (k : Int) (r : Bool) (g : q5u h j k = some r) : Pure Tryz.prog tab 105 [.sl 4 (h.map Q2),q7 j,q7 k] (.bool r):=by
 unfold q5u at g;refine Qn Tryz.func105 J qh qh J<|qd<|qc J<|qa<|qf<|qd<|qc J<|qa<|q8 g fun m an g=>?_;refine Qj (fun l=>.inl l = m) (fun l=>⟨[],[],0⟩) qe ?_ ?_
 ·refine Qf (q2v h j k) (fun n=>⟨[(0,.d (.sl 4 (h.map Q2))),(1,q9 j),(2,q9 k),(7,q9 n)],[],0⟩) 0 m an (wkA [] [] []) ?_;intro n ax a;unfold q2v at a;refine qf<|qd<|U J<|U J<|Qm J<|O _ J<|qa ?_;refine qo J a (fun _ a=>?_) (fun _ a=>?_)
  ·refine ql<|qf<|Q4<|qd<|U J<|U J<|q8 a fun ay ao a=>Qc ao J<|O _ J<|O _ J<|U J<|O _ J<|q8 a fun ap b a=>?_;refine Qb 9 (fun A st=>∃ o p q s t u v w,st = A [(29,qz ap),(28,w),(27,v),(26,u),(25,t),(24,s),(23,q),(22,p),(21,o)]) ?_ ?_
   ·refine Q9 J J b (fun b=>?_) (fun b=>?_)
    ·refine U J<|U J<|U J<|q8 b fun az aq b=>Qc aq J<|O _ J<|O _ J<|O _ J<|O _ J<|qa ?_;cases b;exact ⟨_,_,_,_,_,_,_,_,J⟩
    refine qb J<|qb J<|qb J<|qb J<|qb J<|qb J<|qb J<|O _ J<|qa ?_;cases b;exact ⟨_,_,_,_,_,_,_,_,J⟩
   rintro _ ⟨o,p,q,s,t,u,v,w,rfl⟩;refine q8 a fun ar c a=>?_;refine Qb 9 (fun A st=>∃ x y z aa ab ac ad ae,st = A [(38,qz ar),(37,ae),(36,ad),(35,ac),(34,ab),(33,aa),(32,z),(31,y),(30,x)]) ?_ ?_
   ·refine Q9 J J c (fun c=>?_) (fun c=>?_)
    ·refine U J<|U J<|q8 c fun ba au c=>Qc au J<|O _ J<|O _ J<|U J<|O _ J<|O _ J<|qa ?_;cases c;exact ⟨_,_,_,_,_,_,_,_,J⟩
    refine qb J<|qb J<|qb J<|qb J<|qb J<|qb J<|qb J<|O _ J<|qa ?_;cases c;exact ⟨_,_,_,_,_,_,_,_,J⟩
   rintro _ ⟨x,y,z,aa,ab,ac,ad,ae,rfl⟩;refine q8 a fun av f a=>?_;refine Qb 9 (fun A st=>∃ af ag ah ai aj ak al am,st = A [(47,qz av),(46,am),(45,al),(44,ak),(43,aj),(42,ai),(41,ah),(40,ag),(39,af)]) ?_ ?_
   ·refine Q9 J J f (fun f=>?_) (fun f=>?_)
    ·refine U J<|U J<|U J<|q8 f fun bb aw f=>Qc aw J<|O _ J<|O _ J<|O _ J<|O _ J<|qa ?_;cases f;exact ⟨_,_,_,_,_,_,_,_,J⟩
    refine qb J<|qb J<|qb J<|qb J<|qb J<|qb J<|qb J<|O _ J<|qa ?_;cases f;exact ⟨_,_,_,_,_,_,_,_,J⟩
   rintro _ ⟨af,ag,ah,ai,aj,ak,al,am,rfl⟩;refine qa ?_;refine qo J a (fun _ a=>?_) (fun _ a=>?_)
   ·refine qd<|qc J<|qs ?_;refine ⟨_,qm a,fun hm=>?_⟩;subst hm;cases g;exact Q6 _ J
   refine ql<|Qh<|Qp<|qw<|U J<|O _ J<|qc J<|qv<|⟨_,qm a,wkA [] [] []⟩
  refine Qa ?_;refine ⟨_,qm a,fun hm=>?_⟩;subst hm;exact ⟨_,J,wkA [] [] []⟩
 intro l hb;subst hb;refine qd<|qc J<|qs ?_;cases g;exact Q6 _ J
theorem qvy (f : Int) (g : Bool) (h : Bool) (r : Bool) (a : q5s f g h = some r) : Pure Tryz.prog tab 104 [q7 f,.bool g,.bool h] (.bool r):=by
 unfold q5s at a;refine Qn Tryz.func104 J qh qh J<|qd<|qc J<|qa<|qf<|qd<|U J<|O _ J<|qa ?_;refine qo J a (fun _ a=>?_) (fun _ a=>?_)
 ·refine qd<|U J<|q8 a fun q b a=>?_;refine Qb 3 (fun A st=>∃ j k,st = A [(12,qz q),(11,k),(10,j)]) ?_ ?_
  ·refine Q9 J J b (fun b=>?_) (fun b=>?_)
   ·refine U J<|O _ J<|qa ?_;cases b;exact ⟨_,_,J⟩
   refine qb J<|O _ J<|qa ?_;cases b;exact ⟨_,_,J⟩
  rintro _ ⟨j,k,rfl⟩;refine qc J<|qs ?_;cases a;exact Q6 _ J
 refine ql<|qf<|qd<|U J<|O _ J<|qa ?_;refine qo J a (fun _ a=>?_) (fun _ a=>?_)
 ·refine qd<|U J<|q8 a fun s c a=>?_;refine Qb 3 (fun A st=>∃ l m,st = A [(18,qz s),(17,m),(16,l)]) ?_ ?_
  ·refine Q9 J J c (fun c=>?_) (fun c=>?_)
   ·refine qb J<|O _ J<|qa ?_;cases c;exact ⟨_,_,J⟩
   refine U J<|O _ J<|qa ?_;cases c;exact ⟨_,_,J⟩
  rintro _ ⟨l,m,rfl⟩;refine qc J<|qs ?_;cases a;exact Q6 _ J
 refine ql<|qd<|U J<|q8 a fun t d a=>?_;refine Qb 4 (fun A st=>∃ n o p,st = A [(23,qz t),(22,p),(21,o),(20,n)]) ?_ ?_
 ·refine Q9 J J d (fun d=>?_) (fun d=>?_)
  ·refine U J<|O _ J<|O _ J<|qa ?_;cases d;exact ⟨_,_,_,J⟩
  refine qb J<|qb J<|O _ J<|qa ?_;cases d;exact ⟨_,_,_,J⟩
 rintro _ ⟨n,o,p,rfl⟩;refine qc J<|qs ?_;cases a;exact Q6 _ J
theorem qvw (f : List Int) (g : List Bool) (r : List qk) (l : q3t f g = some r) : Pure Tryz.prog tab 106 [.sl 1 (f.map (eI .i64)),.sl 1 (g.map eB)] (.sl 2 (r.map Qk)):=by
 unfold q3t at l;refine Qn Tryz.func106 J qh qh J<|qd<|qc J<|qt<|qc J<|qa<|qf<|qd<|qc J<|qa<|q8 l fun m ad l=>?_;refine Qj (fun h=>h = m) (fun h=>⟨[(5,.hs 0 2 0 h.length)],[(0,.dat 2 (h.map Qk))],1⟩) qe ?_ ?_
 ·refine Qf (q3u f g) (fun j=>⟨[(0,.d (.sl 1 (f.map (eI .i64)))),(1,.d (.sl 1 (g.map eB))),(5,.hs 0 2 0 j.2.length),(6,q9 j.1)],[(0,.dat 2 (j.2.map Qk))],1⟩) (0,[]) m ad (wkA [] [] [0]) ?_;intro j an c;unfold q3u at c;refine qf<|qd<|U J<|O _ J<|U J<|Qm J<|O _ J<|qa ?_;refine qo J c (fun _ c=>?_) (fun _ c=>?_)
  ·refine ql<|qf<|q8 c fun ae a c=>?_;refine Qj (fun k=>k = ae) (fun k=>⟨[(0,.d (.sl 1 (f.map (eI .i64)))),(1,.d (.sl 1 (g.map eB))),(5,.hs 0 2 0 k.length),(6,q9 j.1)],[(0,.dat 2 (k.map Qk))],1⟩) qe ?_ ?_
   ·refine qf<|qd<|U J<|U J<|q8 a fun ao af a=>Qc af J<|O _ J<|O _ J<|qa ?_;refine qo J a (fun _ a=>?_) (fun _ a=>?_)
    ·refine Qa ?_;cases a;exact ⟨_,J,wkA [(0,0)] [] []⟩
    refine ql<|qd<|U J<|O _ J<|qc J<|qa<|qf<|Qi [q0,q0,q0,q0,q0,q0,qu 0,q0,q0,q0,q0,q0,q0,q0,q0] qh<|U J<|O _ J<|q8 a fun ag b a=>?_;refine Qb 13 (fun A st=>∃ n o p q s t u v w x y z,st = A [(36,qz ag),(35,z),(34,y),(33,x),(32,w),(31,v),(30,u),(29,t),(28,s),(27,q),(26,p),(25,o),(24,n)]) ?_ ?_
    ·refine Q9 J J b (fun b=>?_) (fun b=>?_)
     ·refine U J<|U J<|O _ J<|q8 b fun ap aa b=>Q0 aa J J<|O _ J<|Qd _ aa J<|U J<|U J<|q8 b fun aq ah b=>Qc ah J<|O _ J<|O _ J<|O _ J<|qa ?_;cases b;exact ⟨_,_,_,_,_,_,_,_,_,_,_,_,J⟩
     refine qb J<|qb J<|qb J<|qb J<|qb J<|qb J<|qb J<|qb J<|qb J<|qb J<|qb J<|O _ J<|qa ?_;cases b;exact ⟨_,_,_,_,_,_,_,_,_,_,_,_,J⟩
    rintro _ ⟨n,o,p,q,s,t,u,v,w,x,y,z,rfl⟩;refine qa ?_;refine qo J a (fun _ a=>?_) (fun _ a=>?_)
    ·refine qw<|U J<|U J<|O _ J<|U J<|U J<|O _ J<|q8 a fun ab ai a=>Qc ai J<|O _ J<|q8 a fun aj ac a=>Q0 ac J J<|O _ J<|K5 (ds:=[q7 ab]) ({Lo:=aj.Lo,Hi:=ab} : qk) ac J J J J J J J J (leb J) J<|qv ?_;cases a;exact ⟨_,J,wkE [(0,0)] [] [] J ⟨qq J,qq J,⟨_,J,K7 qe J qx (ltd J)⟩,qq J,trivial⟩ ⟨Qs J J,trivial⟩⟩
    refine Qi [q0,(some [0,1],[0,2]),(some [],[1]),q0,q0,q0,q0,q0,q0,q0,q0,q0,q0,q0] qh<|U J<|U J<|U J<|q8 a fun ar ak a=>Qc ak J<|O _ J<|U J<|U J<|O _ J<|q8 a fun au al a=>Qc al J<|O _ J<|O _ J<|Qo _ _ J<|q8 a fun av am a=>Kv _ am J J J J J J J (Kt J J) J J J J<|qc J<|qv ?_;cases a;exact ⟨_,J,wkA [(0,2)] [] []⟩
   intro k hb;subst hb;refine qw<|U J<|O _ J<|qc J<|qv<|⟨_,qm c,wkA [(0,0)] [] []⟩
  refine Qa ?_;refine ⟨_,qm c,fun hm=>?_⟩;subst hm;exact ⟨_,J,wkA [(0,0)] [] []⟩
 intro h hb;subst hb;refine qd<|U J<|qc J<|qs ?_;cases l;exact finD (.inr J) J (Za J J) (.refl _)
theorem qvz (c : List qk) (f : List qk) (r : Bool) (b : q5t c f = some r) : Pure Tryz.prog tab 107 [.sl 2 (c.map Qk),.sl 2 (f.map Qk)] (.bool r):=by
 unfold q5t at b;refine Qn Tryz.func107 J qh qh J<|qd<|qc J<|qa<|qf<|qd<|U J<|Qm J<|U J<|Qm J<|O _ J<|qa ?_;refine qo J b (fun _ b=>?_) (fun _ b=>?_)
 ·refine qd<|qc J<|qs ?_;cases b;exact Q6 _ J
 refine ql<|qf<|qd<|qc J<|qa<|q8 b fun h k b=>?_;refine Qj (fun g=>.inl g = h) (fun g=>⟨[],[],0⟩) qe ?_ ?_
 ·refine Qf (qd0 c f) (fun j=>⟨[(0,.d (.sl 2 (c.map Qk))),(1,.d (.sl 2 (f.map Qk))),(5,q9 j)],[],0⟩) 0 h k (wkA [] [] []) ?_;intro j n a;unfold qd0 at a;refine qf<|qd<|U J<|U J<|Qm J<|O _ J<|qa ?_;refine qo J a (fun _ a=>?_) (fun _ a=>?_)
  ·refine ql<|qf<|Q4<|qf<|Qi [q0,q0,q0,q0,q0,q0,q0,q0,q0] qh<|U J<|U J<|q8 a fun o l a=>Qc l J<|O _ J<|U J<|U J<|q8 a fun p m a=>Qc m J<|O _ J<|O _ J<|qa ?_;refine qo J a (fun _ a=>?_) (fun _ a=>?_)
   ·refine qd<|qc J<|qs ?_;refine ⟨_,qm a,fun hm=>?_⟩;subst hm;cases b;exact Q6 _ J
   refine ql<|Qh<|Qp<|qw<|U J<|O _ J<|qc J<|qv<|⟨_,qm a,wkA [] [] []⟩
  refine Qa ?_;refine ⟨_,qm a,fun hm=>?_⟩;subst hm;exact ⟨_,J,wkA [] [] []⟩
 intro g hb;subst hb;refine qd<|qc J<|qs ?_;cases b;exact Q6 _ J
theorem qgs (j : Int) (f : List qi) (g : List qi) (r : List qi) (n : Jh j f g = some r) : Pure Tryz.prog tab 79 [q7 j,.sl 4 (f.map Q2),.sl 4 (g.map Q2)] (.sl 4 (r.map Q2)):=by
 unfold Jh at n;refine Qn Tryz.func79 J qh qh J<|qd<|qc J<|qt<|U J<|U J<|q8 n fun k h2 n=>Q5 (qw4 f g k h2) J<|U J<|U J<|q8 n fun l h4 n=>Q5 (qw6 f g l h4) J<|qc J<|qc J<|qt<|qc J<|qt<|qc J<|qt<|qc J<|qa<|qf<|qd<|qc J<|qa<|q8 n fun aa an n=>?_;refine Qj (fun t=>t = aa) (fun t=>⟨[(9,.hs 0 4 0 t.length)],[(0,.dat 4 (t.map Q2))],1⟩) qe ?_ ?_
 ·refine Qf (q2w k l f g j) (fun a=>⟨[(0,q9 j),(1,.d (.sl 4 (f.map Q2))),(2,.d (.sl 4 (g.map Q2))),(7,.d (.sl 1 (k.map (eI .i64)))),(8,.d (.sl 1 (l.map (eI .i64)))),(9,.hs 0 4 0 a.2.2.2.length),(10,.d (.sl 2 (a.1.map Qk))),(11,q9 a.2.1),(12,q9 a.2.2.1)],[(0,.dat 4 (a.2.2.2.map Q2))],1⟩) ([],0,0,[]) aa an (wkA [] [] [0]) ?_;intro a bs o;unfold q2w at o;refine qf<|qd<|U J<|O _ J<|U J<|Qm J<|O _ J<|qa ?_;refine qo J o (fun _ o=>?_) (fun _ o=>?_)
  ·refine ql<|qf<|q8 o fun ao h o=>?_;refine Qj (fun p=>p = ao) (fun p=>⟨[(0,q9 j),(1,.d (.sl 4 (f.map Q2))),(2,.d (.sl 4 (g.map Q2))),(7,.d (.sl 1 (k.map (eI .i64)))),(8,.d (.sl 1 (l.map (eI .i64)))),(9,.hs 0 4 0 p.2.2.length),(10,.d (.sl 2 (p.1.map Qk))),(11,q9 p.2.1),(12,q9 a.2.2.1)],[(0,.dat 4 (p.2.2.map Q2))],1⟩) qe ?_ ?_
   ·refine qd<|qc J<|qa<|qf<|qd<|qc J<|qa<|q8 h fun ab ap h=>?_;refine Qj (fun q=>q = ab) (fun q=>⟨[(0,q9 j),(1,.d (.sl 4 (f.map Q2))),(2,.d (.sl 4 (g.map Q2))),(7,.d (.sl 1 (k.map (eI .i64)))),(8,.d (.sl 1 (l.map (eI .i64)))),(9,.hs 0 4 0 a.2.2.2.length),(10,.d (.sl 2 (a.1.map Qk))),(11,q9 a.2.1),(12,q9 a.2.2.1),(13,.hs 1 1 0 q.length)],[(0,.dat 4 (a.2.2.2.map Q2)),(1,.dat 1 (q.map eB))],2⟩) qe ?_ ?_
    ·refine Qf (q3x l k a f g j) (fun w=>⟨[(0,q9 j),(1,.d (.sl 4 (f.map Q2))),(2,.d (.sl 4 (g.map Q2))),(7,.d (.sl 1 (k.map (eI .i64)))),(8,.d (.sl 1 (l.map (eI .i64)))),(9,.hs 0 4 0 a.2.2.2.length),(10,.d (.sl 2 (a.1.map Qk))),(11,q9 a.2.1),(12,q9 a.2.2.1),(13,.hs 1 1 0 w.2.length),(14,q9 w.1)],[(0,.dat 4 (a.2.2.2.map Q2)),(1,.dat 1 (w.2.map eB))],2⟩) (0,[]) ab ap (wkA [(0,0)] [] [1]) ?_;intro w bt b;unfold q3x at b;refine qf<|qd<|U J<|U J<|Qm J<|O _ J<|qa ?_;refine qo J b (fun _ b=>?_) (fun _ b=>?_)
     ·refine ql<|qf<|Q4<|Qi [q0,(some [1,2],[1,3]),(some [],[2]),q0,q0,q0,q0,q0,q0,q0,q0,q0,q0,q0,q0,q0,q0,q0,q0,q0,q0,q0,q0,q0,q0,q0] qh<|U J<|U J<|U J<|U J<|U J<|q8 b fun aq ar b=>Qc ar J<|O _ J<|U J<|U J<|q8 b fun au av b=>Qc av J<|O _ J<|q8 b fun ac aw b=>Q5 (qmg f aq au ac aw) J<|U J<|U J<|U J<|q8 b fun ax ay b=>Qc ay J<|O _ J<|U J<|U J<|q8 b fun az ba b=>Qc ba J<|O _ J<|q8 b fun ad bb b=>Q5 (qmg g ax az ad bb) J<|q8 b fun bc bd b=>Q5 (qvy j ac ad bc bd) J<|Qo _ _ J<|q8 b fun bu be b=>Kv _ be J J J J J J J (Kt J J) J J J J<|qc J<|qv<|Qp ?_;refine qw<|U J<|O _ J<|qc J<|qv<|⟨_,qm b,wkA [(0,0),(1,3)] [] []⟩
     refine Qa ?_;refine ⟨_,qm b,fun hm=>?_⟩;subst hm;exact ⟨_,J,wkA [(0,0),(1,1)] [] []⟩
    intro q hb;subst hb;refine qf ?_;refine Yc (st':=⟨[(0,q9 j),(1,.d (.sl 4 (f.map Q2))),(2,.d (.sl 4 (g.map Q2))),(7,.d (.sl 1 (k.map (eI .i64)))),(8,.d (.sl 1 (l.map (eI .i64)))),(9,.hs 0 4 0 a.2.2.2.length),(10,.d (.sl 2 (a.1.map Qk))),(11,q9 a.2.1),(12,q9 a.2.2.1),(13,.d (.sl 1 (q.map eB)))],[(0,.dat 4 (a.2.2.2.map Q2))],1⟩) (wkA [(0,0)] [1] []) ?_ qe;refine qw<|U J<|U J<|q8 h fun u bf h=>Q5 (qvw l q u bf) J<|qc J<|qa<|qf<|qd<|U J<|O _ J<|q8 h fun bg s h=>?_;refine Qb 5 (fun A st=>∃ ae af ag ah,st = A [(71,qz bg),(70,ah),(69,ag),(68,af),(67,ae)]) ?_ ?_
    ·refine Q9 J J s (fun s=>?_) (fun s=>?_)
     ·refine U J<|U J<|q8 s fun bh bi s=>Q5 (qvz u a.1 bh bi) J<|O _ J<|qa ?_;cases s;exact ⟨_,_,_,_,J⟩
     refine qb J<|qb J<|qb J<|O _ J<|qa ?_;cases s;exact ⟨_,_,_,_,J⟩
    rintro _ ⟨ae,af,ag,ah,rfl⟩;refine qa ?_;refine qo J h (fun _ h=>?_) (fun _ h=>?_)
    ·refine qf<|qd<|U J<|qc J<|qa<|q8 h fun ai bj h=>?_;refine Qj (fun v=>v = ai) (fun v=>⟨[(0,q9 j),(1,.d (.sl 4 (f.map Q2))),(2,.d (.sl 4 (g.map Q2))),(7,.d (.sl 1 (k.map (eI .i64)))),(8,.d (.sl 1 (l.map (eI .i64)))),(9,.hs 0 4 0 v.length),(10,.d (.sl 2 (a.1.map Qk))),(11,q9 a.2.1),(12,q9 a.2.2.1)],[(0,.dat 4 (v.map Q2))],1⟩) qe ?_ ?_
     ·refine Qf (q3y k a) (fun x=>⟨[(0,q9 j),(1,.d (.sl 4 (f.map Q2))),(2,.d (.sl 4 (g.map Q2))),(7,.d (.sl 1 (k.map (eI .i64)))),(8,.d (.sl 1 (l.map (eI .i64)))),(9,.hs 0 4 0 x.2.length),(10,.d (.sl 2 (a.1.map Qk))),(11,q9 a.2.1),(12,q9 a.2.2.1),(16,q9 x.1)],[(0,.dat 4 (x.2.map Q2))],1⟩) (a.2.1,a.2.2.2) ai bj (wkA [(0,0)] [] []) ?_;intro x bv m;unfold q3y at m;refine qf<|qd<|U J<|U J<|O _ J<|O _ J<|qa ?_;refine qo J m (fun _ m=>?_) (fun _ m=>?_)
      ·refine ql<|qf<|Q4<|qw<|U J<|U J<|U J<|U J<|O _ J<|q8 m fun aj bk m=>Qc bk J<|O _ J<|q8 m fun z ak m=>Q0 ak J J<|O _ J<|K5 (ds:=[q7 aj]) ({X0:=z.X0,Y0:=z.Y0,X1:=aj,Y1:=z.Y1} : qi) ak J J J J J J J J (leb J) J<|qv<|Qp<|qw<|U J<|O _ J<|qc J<|qv<|⟨_,qm m,wkE [(0,0)] [] [] J ⟨qq J,qq J,qq J,qq J,qq J,⟨_,J,K7 qe J qx (ltd J)⟩,qq J,qq J,qq J,qq J,trivial⟩ ⟨Qs J J,trivial⟩⟩
      refine Qa ?_;refine ⟨_,qm m,fun hm=>?_⟩;subst hm;exact ⟨_,J,wkA [(0,0)] [] []⟩
     intro v hb;subst hb;refine Qa ?_;cases h;exact ⟨_,J,wkA [(0,0)] [] []⟩
    refine ql<|qd<|U J<|O _ J<|U J<|qc J<|qc J<|qt<|qc J<|qa<|q8 h fun bl bm h=>Q4<|Qf (q5v u k a) (fun y=>⟨[(0,q9 j),(1,.d (.sl 4 (f.map Q2))),(2,.d (.sl 4 (g.map Q2))),(7,.d (.sl 1 (k.map (eI .i64)))),(8,.d (.sl 1 (l.map (eI .i64)))),(9,.hs 0 4 0 y.2.length),(10,.d (.sl 2 (u.map Qk))),(11,q9 (a.2.2.2.length : Int)),(12,q9 a.2.2.1),(15,.d (.sl 2 (u.map Qk))),(17,q9 y.1)],[(0,.dat 4 (y.2.map Q2))],1⟩) (0,a.2.2.2) bl bm (wkA [(0,0)] [] []) ?_;intro y bw c;unfold q5v at c;refine qf<|qd<|U J<|U J<|Qm J<|O _ J<|qa ?_;refine qo J c (fun _ c=>?_) (fun _ c=>?_)
    ·refine ql<|qf<|Q4<|Qi [q0,(some [0,1],[0,2]),(some [],[1]),q0,q0,q0,q0,q0,q0,q0,q0,q0,q0,q0,q0,q0,q0,q0,q0,q0,q0,q0,q0,q0] qh<|U J<|U J<|U J<|q8 c fun bz bn c=>Qc bn J<|O _ J<|U J<|U J<|q8 c fun ca bo c=>Qc bo J<|O _ J<|O _ J<|U J<|U J<|O _ J<|q8 c fun cb bp c=>Qc bp J<|O _ J<|U J<|U J<|q8 c fun cc bq c=>Qc bq J<|O _ J<|O _ J<|O _ J<|Qo _ _ J<|q8 c fun cd br c=>Kv _ br J J J J J J J (Kt J J) J J J J<|qc J<|qv<|Qp<|qw<|U J<|O _ J<|qc J<|qv<|⟨_,qm c,wkA [(0,2)] [] []⟩
    refine Qa ?_;refine ⟨_,qm c,fun hm=>?_⟩;subst hm;cases h;exact ⟨_,J,wkA [(0,0)] [] []⟩
   intro p hb;subst hb;refine qw<|U J<|O _ J<|qc J<|qv<|⟨_,qm o,wkA [(0,0)] [] []⟩
  refine Qa ?_;refine ⟨_,qm o,fun hm=>?_⟩;subst hm;exact ⟨_,J,wkA [(0,0)] [] []⟩
 intro t hb;subst hb;refine qd<|U J<|qc J<|qs ?_;cases n;exact finD (.inr J) J (Za J J) (.refl _)
theorem qw2 (c : List qi) (f : List qi) (r : Bool) (b : q5x c f = some r) : Pure Tryz.prog tab 81 [.sl 4 (c.map Q2),.sl 4 (f.map Q2)] (.bool r):=by
 unfold q5x at b;refine Qn Tryz.func81 J qh qh J<|qd<|qc J<|qa<|qf<|qd<|U J<|Qm J<|U J<|Qm J<|O _ J<|qa ?_;refine qo J b (fun _ b=>?_) (fun _ b=>?_)
 ·refine qd<|qc J<|qs ?_;cases b;exact Q6 _ J
 refine ql<|qf<|qd<|qc J<|qa<|q8 b fun h k b=>?_;refine Qj (fun g=>.inl g = h) (fun g=>⟨[],[],0⟩) qe ?_ ?_
 ·refine Qf (qd1 c f) (fun j=>⟨[(0,.d (.sl 4 (c.map Q2))),(1,.d (.sl 4 (f.map Q2))),(5,q9 j)],[],0⟩) 0 h k (wkA [] [] []) ?_;intro j n a;unfold qd1 at a;refine qf<|qd<|U J<|U J<|Qm J<|O _ J<|qa ?_;refine qo J a (fun _ a=>?_) (fun _ a=>?_)
  ·refine ql<|qf<|Q4<|qf<|Qi [q0,q0,q0,q0,q0,q0,q0,q0,q0] qh<|U J<|U J<|q8 a fun o l a=>Qc l J<|O _ J<|U J<|U J<|q8 a fun p m a=>Qc m J<|O _ J<|O _ J<|qa ?_;refine qo J a (fun _ a=>?_) (fun _ a=>?_)
   ·refine qd<|qc J<|qs ?_;refine ⟨_,qm a,fun hm=>?_⟩;subst hm;cases b;exact Q6 _ J
   refine ql<|Qh<|Qp<|qw<|U J<|O _ J<|qc J<|qv<|⟨_,qm a,wkA [] [] []⟩
  refine Qa ?_;refine ⟨_,qm a,fun hm=>?_⟩;subst hm;exact ⟨_,J,wkA [] [] []⟩
 intro g hb;subst hb;refine qd<|qc J<|qs ?_;cases b;exact Q6 _ J
theorem qwh (l : Int) (f : List qg) (g : List qg) (r : List qg × Bool) (o : q46 l f g = some r) : Pure Tryz.prog tab 50 [q7 l,.sl 6 (f.map Qe),.sl 6 (g.map Qe)] (.tup [.sl 6 (r.1.map Qe),.bool r.2]):=by
 unfold q46 at o;refine Qn Tryz.func50 J qh qh J<|qd<|qc J<|qc J<|qt<|U J<|U J<|q8 o fun m h2 o=>Q5 (qwc f g m h2) J<|qc J<|qt<|qc J<|qt<|qc J<|qt<|qc J<|qa<|qf<|qd<|qc J<|qa<|q8 o fun y bh o=>?_;refine Qj (fun s=>.inl s = y) (fun s=>⟨[(9,.hs 0 6 0 s.length)],[(0,.dat 6 (s.map Qe))],1⟩) qe ?_ ?_
 ·refine Qf (q1w m f g l) (fun b=>⟨[(0,q9 l),(1,.d (.sl 6 (f.map Qe))),(2,.d (.sl 6 (g.map Qe))),(8,.d (.sl 1 (m.map (eI .i64)))),(9,.hs 0 6 0 b.2.2.2.length),(10,.d (.sl 4 (b.1.map Q2))),(11,q9 b.2.1),(12,q9 b.2.2.1)],[(0,.dat 6 (b.2.2.2.map Qe))],1⟩) ([],0,0,[]) y bh (wkA [] [] [0]) ?_;intro b ct n;unfold q1w at n;refine qf<|qd<|U J<|O _ J<|U J<|Qm J<|O _ J<|qa ?_;refine qo J n (fun _ n=>?_) (fun _ n=>?_)
  ·refine ql<|qf<|q8 n fun bi a n=>?_;refine Qj (fun p=>.inl p = bi) (fun p=>⟨[(0,q9 l),(1,.d (.sl 6 (f.map Qe))),(2,.d (.sl 6 (g.map Qe))),(8,.d (.sl 1 (m.map (eI .i64)))),(9,.hs 0 6 0 p.2.2.length),(10,.d (.sl 4 (p.1.map Q2))),(11,q9 p.2.1),(12,q9 b.2.2.1)],[(0,.dat 6 (p.2.2.map Qe))],1⟩) qe ?_ ?_
   ·refine qf<|Qi [q0,q0,q0,q0,q0,q0,q0,q0,q0,q0,q0,q0,q0,q0,q0] qh<|U J<|U J<|U J<|U J<|q8 a fun bj bk a=>Qc bk J<|O _ J<|q8 a fun z bl a=>Q5 (qd3 f bj z bl) J<|U J<|U J<|U J<|q8 a fun bm bn a=>Qc bn J<|O _ J<|q8 a fun aa bo a=>Q5 (qd3 g bm aa bo) J<|q8 a fun t bp a=>Q5 (qgs l z aa t bp) J<|qc J<|qa<|qf<|qd<|U J<|Qm J<|O _ J<|q8 a fun bq h a=>?_;refine Qb 11 (fun A st=>∃ ab ac ad ae af ag ah ai aj ak,st = A [(53,qz bq),(52,ak),(51,aj),(50,ai),(49,ah),(48,ag),(47,af),(46,ae),(45,ad),(44,ac),(43,ab)]) ?_ ?_
    ·refine Q9 J J h (fun h=>?_) (fun h=>?_)
     ·refine qb J<|qb J<|qb J<|qb J<|qb J<|qb J<|qb J<|qb J<|qb J<|O _ J<|qa ?_;cases h;exact ⟨_,_,_,_,_,_,_,_,_,_,J⟩
     refine U J<|U J<|U J<|q8 h fun br bs h=>Qc bs J<|O _ J<|q8 h fun al bt h=>Q5 (qd3 f br al bt) J<|q8 h fun bu bv h=>Q5 (q3s (.cons (.refl _) (.cons (.refl _) (.cons (.nil _) .nil))) (qgs 2 al [] bu bv)) J<|Qm J<|O _ J<|O _ J<|qa ?_;cases h;exact ⟨_,_,_,_,_,_,_,_,_,_,J⟩
    rintro _ ⟨ab,ac,ad,ae,af,ag,ah,ai,aj,ak,rfl⟩;refine q8 a fun bw j a=>?_;refine Qb 11 (fun A st=>∃ am an ao ap aq ar au av aw ax,st = A [(64,qz bw),(63,ax),(62,aw),(61,av),(60,au),(59,ar),(58,aq),(57,ap),(56,ao),(55,an),(54,am)]) ?_ ?_
    ·refine Q9 J J j (fun j=>?_) (fun j=>?_)
     ·refine qb J<|qb J<|qb J<|qb J<|qb J<|qb J<|qb J<|qb J<|qb J<|O _ J<|qa ?_;cases j;exact ⟨_,_,_,_,_,_,_,_,_,_,J⟩
     refine U J<|U J<|U J<|q8 j fun bz ca j=>Qc ca J<|O _ J<|q8 j fun ay cb j=>Q5 (qd3 g bz ay cb) J<|q8 j fun cc cd j=>Q5 (q3s (.cons (.refl _) (.cons (.refl _) (.cons (.nil _) .nil))) (qgs 2 ay [] cc cd)) J<|Qm J<|O _ J<|O _ J<|qa ?_;cases j;exact ⟨_,_,_,_,_,_,_,_,_,_,J⟩
    rintro _ ⟨am,an,ao,ap,aq,ar,au,av,aw,ax,rfl⟩;refine qa ?_;refine qo J a (fun _ a=>?_) (fun _ a=>?_)
    ·refine qd<|qc J<|qc J<|qs ?_;cases a;refine ⟨_,qm n,fun hm=>?_⟩;subst hm;cases o;exact finD (.inr J) J J (Yb (.cons (.nil _) (.cons (.refl _) .nil)))
    refine ql<|qf<|qd<|U J<|O _ J<|q8 a fun ce q a=>?_;refine Qb 5 (fun A st=>∃ az ba bb bc,st = A [(71,qz ce),(70,bc),(69,bb),(68,ba),(67,az)]) ?_ ?_
    ·refine Q9 J J q (fun q=>?_) (fun q=>?_)
     ·refine U J<|U J<|q8 q fun cf cg q=>Q5 (qw2 t b.1 cf cg) J<|O _ J<|qa ?_;cases q;exact ⟨_,_,_,_,J⟩
     refine qb J<|qb J<|qb J<|O _ J<|qa ?_;cases q;exact ⟨_,_,_,_,J⟩
    rintro _ ⟨az,ba,bb,bc,rfl⟩;refine qa ?_;refine qo J a (fun _ a=>?_) (fun _ a=>?_)
    ·refine qf<|qd<|U J<|qc J<|qa<|q8 a fun bd ch a=>?_;refine Qj (fun u=>u = bd) (fun u=>⟨[(0,q9 l),(1,.d (.sl 6 (f.map Qe))),(2,.d (.sl 6 (g.map Qe))),(8,.d (.sl 1 (m.map (eI .i64)))),(9,.hs 0 6 0 u.length),(10,.d (.sl 4 (b.1.map Q2))),(11,q9 b.2.1),(12,q9 b.2.2.1)],[(0,.dat 6 (u.map Qe))],1⟩) qe ?_ ?_
     ·refine Qf (q47 m b) (fun v=>⟨[(0,q9 l),(1,.d (.sl 6 (f.map Qe))),(2,.d (.sl 6 (g.map Qe))),(8,.d (.sl 1 (m.map (eI .i64)))),(9,.hs 0 6 0 v.2.length),(10,.d (.sl 4 (b.1.map Q2))),(11,q9 b.2.1),(12,q9 b.2.2.1),(14,q9 v.1)],[(0,.dat 6 (v.2.map Qe))],1⟩) (b.2.1,b.2.2.2) bd ch (wkA [(0,0)] [] []) ?_;intro v cu k;unfold q47 at k;refine qf<|qd<|U J<|U J<|O _ J<|O _ J<|qa ?_;refine qo J k (fun _ k=>?_) (fun _ k=>?_)
      ·refine ql<|qf<|Q4<|qw<|U J<|U J<|U J<|U J<|O _ J<|q8 k fun be ci k=>Qc ci J<|O _ J<|q8 k fun x bf k=>Q0 bf J J<|O _ J<|O _ J<|K5 (ds:=[q7 be]) ({Lo:=x.Lo,Hi:=({X:=x.Hi.X,Y:=x.Hi.Y,Z:=be} : Q3)} : qg) bf J J J J J J J J (leb J) J<|qv<|Qp<|qw<|U J<|O _ J<|qc J<|qv<|⟨_,qm k,wkE [(0,0)] [] [] J ⟨qq J,qq J,qq J,qq J,⟨_,J,K7 qe J qx (ltd J)⟩,qq J,qq J,qq J,qq J,trivial⟩ ⟨Qs J J,trivial⟩⟩
      refine Qa ?_;refine ⟨_,qm k,fun hm=>?_⟩;subst hm;exact ⟨_,J,wkA [(0,0)] [] []⟩
     intro u hb;subst hb;refine Qa ?_;cases a;exact ⟨_,J,wkA [(0,0)] [] []⟩
    refine ql<|qd<|U J<|O _ J<|U J<|qc J<|qc J<|qt<|qc J<|qa<|q8 a fun cj ck a=>Q4<|Qf (q65 t m b) (fun w=>⟨[(0,q9 l),(1,.d (.sl 6 (f.map Qe))),(2,.d (.sl 6 (g.map Qe))),(8,.d (.sl 1 (m.map (eI .i64)))),(9,.hs 0 6 0 w.2.length),(10,.d (.sl 4 (t.map Q2))),(11,q9 (b.2.2.2.length : Int)),(12,q9 b.2.2.1),(13,.d (.sl 4 (t.map Q2))),(15,q9 w.1)],[(0,.dat 6 (w.2.map Qe))],1⟩) (0,b.2.2.2) cj ck (wkA [(0,0)] [] []) ?_;intro w cv c;unfold q65 at c;refine qf<|qd<|U J<|U J<|Qm J<|O _ J<|qa ?_;refine qo J c (fun _ c=>?_) (fun _ c=>?_)
    ·refine ql<|qf<|Q4<|Qi [q0,(some [0,1],[0,2]),(some [],[1]),q0,q0,q0,q0,q0,q0,q0,q0,q0,q0,q0,q0,q0,q0,q0,q0,q0,q0,q0,q0,q0,q0,q0,q0,q0,q0,q0,q0,q0,q0,q0,q0,q0] qh<|U J<|U J<|U J<|q8 c fun cw cm c=>Qc cm J<|O _ J<|O _ J<|U J<|U J<|q8 c fun cx cn c=>Qc cn J<|O _ J<|O _ J<|U J<|U J<|q8 c fun cy co c=>Qc co J<|O _ J<|O _ J<|U J<|U J<|q8 c fun cz cp c=>Qc cp J<|O _ J<|O _ J<|U J<|U J<|q8 c fun da cq c=>Qc cq J<|O _ J<|O _ J<|U J<|U J<|O _ J<|q8 c fun dc cr c=>Qc cr J ?_;refine O _ J<|O _ J<|O _ J<|Qo _ _ J<|q8 c fun dd cs c=>Kv _ cs J J J J J J J (Kt J J) J J J J<|qc J<|qv<|Qp<|qw<|U J<|O _ J<|qc J<|qv<|⟨_,qm c,wkA [(0,2)] [] []⟩
    refine Qa ?_;refine ⟨_,qm c,fun hm=>?_⟩;subst hm;cases a;exact ⟨_,J,wkA [(0,0)] [] []⟩
   intro p hb;subst hb;refine qw<|U J<|O _ J<|qc J<|qv<|⟨_,qm n,wkA [(0,0)] [] []⟩
  refine Qa ?_;refine ⟨_,qm n,fun hm=>?_⟩;subst hm;exact ⟨_,J,wkA [(0,0)] [] []⟩
 intro s hb;subst hb;refine qd<|U J<|U J<|O _ J<|O _ J<|qc J<|qc J<|qs ?_;cases o;exact finD (.inr J) J (q4w (Yj (Za J J) (Yj J J))) (.refl _)
theorem qmn (c : List qg) (f : List qg) (r : Bool) (b : q9l c f = some r) : Pure Tryz.prog tab 16 [.sl 6 (c.map Qe),.sl 6 (f.map Qe)] (.bool r):=by
 unfold q9l at b;refine Qn Tryz.func16 J qh qh J<|qd<|qc J<|qa<|qf<|qd<|U J<|Qm J<|U J<|Qm J<|O _ J<|qa ?_;refine qo J b (fun _ b=>?_) (fun _ b=>?_)
 ·refine qd<|qc J<|qs ?_;cases b;exact Q6 _ J
 refine ql<|qf<|qd<|qc J<|qa<|q8 b fun h k b=>?_;refine Qj (fun g=>.inl g = h) (fun g=>⟨[],[],0⟩) qe ?_ ?_
 ·refine Qf (qd4 c f) (fun j=>⟨[(0,.d (.sl 6 (c.map Qe))),(1,.d (.sl 6 (f.map Qe))),(5,q9 j)],[],0⟩) 0 h k (wkA [] [] []) ?_;intro j n a;unfold qd4 at a;refine qf<|qd<|U J<|U J<|Qm J<|O _ J<|qa ?_;refine qo J a (fun _ a=>?_) (fun _ a=>?_)
  ·refine ql<|qf<|Q4<|qf<|Qi [q0,q0,q0,q0,q0,q0,q0,q0,q0] qh<|U J<|U J<|q8 a fun o l a=>Qc l J<|O _ J<|U J<|U J<|q8 a fun p m a=>Qc m J<|O _ J<|O _ J<|qa ?_;refine qo J a (fun _ a=>?_) (fun _ a=>?_)
   ·refine qd<|qc J<|qs ?_;refine ⟨_,qm a,fun hm=>?_⟩;subst hm;cases b;exact Q6 _ J
   refine ql<|Qh<|Qp<|qw<|U J<|O _ J<|qc J<|qv<|⟨_,qm a,wkA [] [] []⟩
  refine Qa ?_;refine ⟨_,qm a,fun hm=>?_⟩;subst hm;exact ⟨_,J,wkA [] [] []⟩
 intro g hb;subst hb;refine qd<|qc J<|qs ?_;cases b;exact Q6 _ J
theorem qml (c : List qg) (r : Int) (a : q62 c = some r) : Pure Tryz.prog tab 33 [.sl 6 (c.map Qe)] (q7 r):=by
 unfold q62 at a;refine Qn Tryz.func33 J qh qh J<|qd<|qc J<|qa<|qf<|qd<|U J<|Qm J<|O _ J<|qa ?_;refine qo J a (fun _ a=>?_) (fun _ a=>?_)
 ·refine qd<|qc J<|qs ?_;cases a;exact Q6 _ J
 refine ql<|qf<|qd<|qc J<|qa<|q8 a fun h q a=>?_;refine Qj (fun g=>.inl g = h) (fun g=>⟨[(0,.d (.sl 6 (c.map Qe)))],[],0⟩) qe ?_ ?_
 ·refine Qf (q63 c) (fun j=>⟨[(0,.d (.sl 6 (c.map Qe))),(3,q9 j)],[],0⟩) 0 h q (wkA [] [] []) ?_;intro j aa b;unfold q63 at b;refine qf<|qd<|U J<|U J<|Qm J<|O _ J<|qa ?_;refine qo J b (fun _ b=>?_) (fun _ b=>?_)
  ·refine ql<|qf<|Q4<|qd<|U J<|U J<|q8 b fun s t b=>Qc t J<|O _ J<|q8 b fun u v b=>Q5 (qwk s u v) J<|O _ J<|qa ?_;refine qo J b (fun _ b=>?_) (fun _ b=>?_)
   ·refine qd<|qc J<|qs ?_;refine ⟨_,qm b,fun hm=>?_⟩;subst hm;cases a;exact Q6 _ J
   refine ql<|Qh<|Qp<|qw<|U J<|O _ J<|qc J<|qv<|⟨_,qm b,wkA [] [] []⟩
  refine Qa ?_;refine ⟨_,qm b,fun hm=>?_⟩;subst hm;exact ⟨_,J,wkA [] [] []⟩
 intro g hb;subst hb;refine qd<|U J<|q8 a fun k w a=>Q5 (q3s (.cons (.refl _) (.cons (.refl _) (.cons (.nil _) .nil))) (qwh 2 c [] k w)) J<|U J<|O _ J<|O _ J<|qc J<|qc J<|qa<|qf<|qd<|U J<|O _ J<|q8 a fun x f a=>?_;refine Qb 6 (fun A st=>∃ l m n o p,st = A [(33,qz x),(32,p),(31,o),(30,n),(29,m),(28,l)]) ?_ ?_
 ·refine Q9 J J f (fun f=>?_) (fun f=>?_)
  ·refine qb J<|qb J<|qb J<|qb J<|O _ J<|qa ?_;cases f;exact ⟨_,_,_,_,_,J⟩
  refine U J<|U J<|q8 f fun y z f=>Q5 (qmn k.1 c y z) J<|O _ J<|O _ J<|qa ?_;cases f;exact ⟨_,_,_,_,_,J⟩
 rintro _ ⟨l,m,n,o,p,rfl⟩;refine qa ?_;refine qo J a (fun _ a=>?_) (fun _ a=>?_)
 ·refine qd<|qc J<|qs ?_;cases a;exact Q6 _ J
 refine ql<|qd<|qc J<|qs ?_;cases a;exact Q6 _ J
theorem qwm (a : K1) (c : List (List qg)) (r : List qg) (b : qd5 a c = some r) : Pure Tryz.prog tab 30 [.agg [q7 a.From.X,q7 a.From.Y,q7 a.From.Z,q7 a.To.X,q7 a.To.Y,q7 a.To.Z,q7 a.Depth],.sl 1 (c.map Qr)] (.sl 6 (r.map Qe)):=by
 unfold qd5 at b;refine Qn Tryz.func30 J qh qh J<|qd<|Qo _ _ J<|qc J<|qt<|U J<|O _ J<|O _ J<|U J<|Qm J<|O _ J<|q1s (r:=min a.Depth (w64 ((c.length : Int) - 1))) J J (by simp only [q1p];rfl)<|q8 b fun f d b=>Qc d J<|O _ J<|qc J<|qs ?_;cases b;exact Q6 _ J
theorem qmj (a : Q3) (b : Q3) (r : Q3) (c : q43 a b = some r) : Pure Tryz.prog tab 31 [.agg [q7 a.X,q7 a.Y,q7 a.Z],.agg [q7 b.X,q7 b.Y,q7 b.Z]] (.agg [q7 r.X,q7 r.Y,q7 r.Z]):=by
 unfold q43 at c;refine Qn Tryz.func31 J qh qh J<|qd<|Qo _ _ J<|Qo _ _ J<|K2 J J<|qt<|O _ J<|O _ J<|O _ J<|O _ J<|O _ J<|O _ J<|O _ J<|O _ J<|O _ J<|O _ J<|O _ J<|O _ J<|O _ J<|O _ J<|O _ J<|O _ J<|Ql 2 _ J<|qs ?_;cases c;exact Q6 _ J
theorem qgt (b : Int) (r : Int) (a : q48 b = some r) : Pure Tryz.prog tab 54 [q7 b] (q7 r):=by
 unfold q48 at a;refine Qn Tryz.func54 J qh qh J<|qd<|qc J<|qa<|qf<|qd<|U J<|O _ J<|qa ?_;refine qo J a (fun _ a=>?_) (fun _ a=>?_)
 ·refine qd<|qc J<|qs ?_;cases a;exact Q6 _ J
 refine ql<|qf<|qd<|U J<|O _ J<|qa ?_;refine qo J a (fun _ a=>?_) (fun _ a=>?_)
 ·refine qd<|qc J<|qs ?_;cases a;exact Q6 _ J
 refine ql<|qd<|qc J<|qs ?_;cases a;exact Q6 _ J
theorem qwo (a : K1) (r : List Q3) (b : q9n a = some r) : Pure Tryz.prog tab 28 [.agg [q7 a.From.X,q7 a.From.Y,q7 a.From.Z,q7 a.To.X,q7 a.To.Y,q7 a.To.Z,q7 a.Depth]] (.sl 3 (r.map qc8)):=by
 unfold q9n at b;refine Qn Tryz.func28 J qh qh J<|qd<|Qo _ _ J<|qc J<|qa<|qf<|Qi [Qu 1,(some [],[1]),q0,q0,q0,qu 0,q0,q0,qu 0,q0,q0,q0,q0,qu 0,q0,q0,qu 0,q0,q0,q0,q0,qu 0,q0,q0,qu 0,q0,q0] qh<|O _ J<|O _ J<|O _ J<|O _ J<|O _ J<|O _ J<|O _ J<|q8 b fun g l b=>Q5 (qgt (w64 (a.To.X - a.From.X)) g l) J<|O _ J<|O _ J<|O _ J<|O _ J<|O _ J<|O _ J<|O _ J<|q8 b fun h m b=>Q5 (qgt (w64 (a.To.Y - a.From.Y)) h m) J<|O _ J<|O _ J<|O _ J<|O _ J<|O _ J<|O _ J<|O _ J<|q8 b fun j n b=>Q5 (qgt (w64 (a.To.Z - a.From.Z)) j n) J<|O _ J<|K2 J J<|Ql 1 _ J<|qt<|O _ J<|O _ J ?_;refine Qo _ _ J<|qc J<|qa<|qf<|qd<|O _ J<|O _ J<|K2 J J<|Ql 3 _ J<|qa<|q8 b fun k o b=>?_;refine Qj (fun f=>f = k) (fun f=>⟨[(4,.hs 0 3 0 f.length)],[(0,.dat 3 (f.map qc8))],1⟩) qe ?_ ?_
 ·refine Qf (q69 a g h j) (fun d=>⟨[(1,.ref 0 7 0 0),(3,.ref 1 3 0 0),(4,.hs 2 3 0 d.1.length),(5,.ref 3 3 0 0)],[(0,.dat 7 [[q7 a.From.X,q7 a.From.Y,q7 a.From.Z,q7 a.To.X,q7 a.To.Y,q7 a.To.Z,q7 a.Depth]]),(1,.dat 3 [[q7 g,q7 h,q7 j]]),(2,.dat 3 (d.1.map qc8)),(3,.dat 3 [[q7 d.2.1,q7 d.2.2.1,q7 d.2.2.2]])],4⟩) ([a.From],a.From.X,a.From.Y,a.From.Z) k o (wkA [(0,0),(1,1),(2,2),(3,3)] [] []) ?_;intro d t c;unfold q69 at c;refine qf<|qd<|O _ J<|O _ J<|O _ J<|O _ J<|qa ?_;refine qo J c (fun _ c=>?_) (fun _ c=>?_)
  ·refine ql<|qf<|Q4<|qd<|O _ J<|O _ J<|q8 c fun p q c=>Q5 (qmj ({X:=d.2.1,Y:=d.2.2.1,Z:=d.2.2.2} : Q3) ({X:=g,Y:=h,Z:=j} : Q3) p q) J<|Ql 3 _ J<|qa<|qw<|U J<|O _ J<|Qo _ _ J<|q8 c fun u s c=>Kv _ s J J J J J J J (Kt J J) J J J J<|qc J<|qv<|Qp<|qd<|O _ J<|qa<|qw<|K2 J J<|Ql 6 _ J<|qv<|⟨_,qm c,wkA [(0,0),(1,1),(2,5),(3,6)] [] []⟩
  refine Qa ?_;refine ⟨_,qm c,fun hm=>?_⟩;subst hm;exact ⟨_,J,wkA [(0,2)] [] []⟩
 intro f hb;subst hb;refine qd<|U J<|qc J<|qs ?_;cases b;exact finD (.inr J) J (Za J J) (.refl _)
theorem q139 (b : K1) (c : List qg) (r : List qg × Int) (a : qbb b c = some r) : Pure Tryz.prog tab 14 [.agg [q7 b.From.X,q7 b.From.Y,q7 b.From.Z,q7 b.To.X,q7 b.To.Y,q7 b.To.Z,q7 b.Depth],.sl 6 (c.map Qe)] (.tup [.sl 6 (r.1.map Qe),q7 r.2]):=by
 unfold qbb at a;refine Qn Tryz.func14 J qh qh J<|qd<|Qo _ _ J<|qc J<|qc J<|qa<|qf<|qd<|O _ J<|Qo _ _ J<|O _ J<|q8 a fun f g a=>q1t [.agg [.hs 1 7 0 [b].length,.d (.nilsl),.d (.int .u8 0),q9 0,q9 0,q9 0,q9 0]] (q3s (.cons (qf7 (.cons (.refl _) (.cons (.nil _) (.cons (.refl _) (.cons (.refl _) (.cons (.refl _) (.cons (.refl _) (.cons (.refl _) .nil)))))))) .nil) (qov ({Lines:=[b],Marks:=[],End:=({Frame:=({Turn:=0,At:=({X:=0,Y:=0,Z:=0} : Q3)} : Yg),Drawn:=0} : Jw)} : Qv) f g)) J J (Zb (q13q (Yj (Za J J) (Yj J (Yj J (Yj J (Yj J (Yj J (Yj J J)))))))) J) (.inr J)<|U J<|O _ J<|O _ J<|qc J<|qc J<|qt<|U J<|O _ J<|qa ?_;refine qo J a (fun _ a=>?_) (fun _ a=>?_)
 ·refine qd<|U J<|qc J<|qc J<|qs ?_;cases a;exact finD (.inr J) J J (Yb (.cons (.nil _) (.cons (.refl _) .nil)))
 refine ql<|qf<|qd<|U J<|q8 a fun h j a=>Q5 (qas c h j) J<|qc J<|qt<|U J<|O _ J<|qa ?_;refine qo J a (fun _ a=>?_) (fun _ a=>?_)
 ·refine qd<|U J<|qc J<|qc J<|qs ?_;cases a;exact finD (.inr J) J J (Yb (.cons (.nil _) (.cons (.refl _) .nil)))
 refine ql<|qd<|O _ J<|U J<|q8 a fun k l a=>Q5 (qon b c k l) J<|O _ J<|O _ J<|qc J<|qc J<|qs ?_;cases a;exact Q6 _ J
end Go.Proofs.YtbknppciefodiaaGreat
