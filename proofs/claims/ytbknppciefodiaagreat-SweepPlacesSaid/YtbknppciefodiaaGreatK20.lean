/- W_All -/
import Derived.Test.YtbknppciefodiaaGreatK19
namespace Go.Proofs.YtbknppciefodiaaGreat
open Go Go.Am Go.Sh
set_option maxHeartbeats 8000000
set_option maxRecDepth 100000
theorem qlp (b : Int) (r : qw) (a : qd5 b = some r) : Pure Tryz.prog tab 133 [.int .u8 b] (.agg [q7 r.X,q7 r.Y,q7 r.Z]):=by
 unfold qd5 at a;refine Qn Tryz.func133 J qi qi J<|qe<|Qw J J<|qu<|U J<|O _ J<|O _ J<|O _ J<|O _ J<|qc J<|qa<|qf<|qe<|U J<|O _ J<|qa<|Q7<|qe<|O _ J<|qc J<|qa ?_;refine qm J a (fun _ a=>?_) (fun _ a=>?_)
 ·refine qe<|U J<|O _ J<|Q8 0 _ J<|qs ?_;cases a;exact Q6 _ J
 refine qe<|O _ J<|qc J<|qa ?_;refine qm J a (fun _ a=>?_) (fun _ a=>?_)
 ·refine qe<|U J<|O _ J<|Q8 0 _ J<|qs ?_;cases a;exact Q6 _ J
 refine ql<|Qj<|Qq<|qe<|U J<|O _ J<|Q8 0 _ J<|qs ?_;cases a;exact Q6 _ J
theorem qui (a : qw) (b : qw) (r : qw) (c : qgh a b = some r) : Pure Tryz.prog tab 134 [.agg [q7 a.X,q7 a.Y,q7 a.Z],.agg [q7 b.X,q7 b.Y,q7 b.Z]] (.agg [q7 r.X,q7 r.Y,q7 r.Z]):=by
 unfold qgh at c;refine Qn Tryz.func134 J qi qi J<|qe<|Ql _ _ J<|Ql _ _ J<|Qw J J<|qu<|O _ J<|O _ J<|O _ J<|O _ J<|O _ J<|O _ J<|O _ J<|O _ J<|O _ J<|O _ J<|O _ J<|O _ J<|O _ J<|O _ J<|O _ J<|O _ J<|O _ J<|O _ J<|O _ J<|O _ J<|O _ J<|O _ J<|O _ J<|O _ J<|O _ J<|O _ J<|O _ J<|O _ J<|O _ J<|O _ J<|O _ J<|O _ J<|O _ J<|O _ J ?_;refine Q8 2 _ J<|qs ?_;cases c;exact Q6 _ J
theorem qd4 (f : Int) (r : (qw × qw × qw)) (a : q2w f = some r) : Pure Tryz.prog tab 117 [.int .u8 f] (.agg [q7 r.1.X,q7 r.1.Y,q7 r.1.Z,q7 r.2.1.X,q7 r.2.1.Y,q7 r.2.1.Z,q7 r.2.2.X,q7 r.2.2.Y,q7 r.2.2.Z]):=by
 unfold q2w at a;refine Qn Tryz.func117 J qi qi J<|qe<|Qw J J<|qu<|U J<|O _ J<|qc J<|qu<|U J<|O _ J<|qc J<|qa<|qf<|qe<|U J<|U J<|O _ J<|O _ J<|O _ J<|qa<|q8 a fun j b a=>?_;refine Yu (fun c=>c = j) (fun c=>⟨[(2,.ref 0 9 0 0),(3,.d (.int .u8 (IntKind.wrap .u8 (Int.tdiv f 4)))),(4,.d (.int .u8 c))],[(0,.dat 9 [[q7 0,q7 0,q7 0,q7 0,q7 0,q7 0,q7 0,q7 0,q7 0]])],1⟩) qg ?_ ?_
 ·refine qm J b (fun _ b=>?_) (fun _ b=>?_)
  ·refine qy<|U J<|O _ J<|qc J<|qx ?_;cases b;exact ⟨_,J,wkA [(0,0)] [] []⟩
  refine ql<|Qj ?_;cases b;exact ⟨_,J,wkA [(0,0)] [] []⟩
 intro c hb;subst hb;refine qe<|U J<|q8 a fun g k a=>Q4 (qlp (IntKind.wrap .u8 (Int.tdiv f 4)) g k) J<|U J<|q8 a fun h l a=>Q4 (qlp c h l) J<|Qw J J<|Qw J J<|Q8 1 _ J<|Q8 2 _ J<|qa<|qf<|Qk [Qx 0,q0,q0,qv 2,qv 1,qv 2,qv 1] qi<|O _ J<|O _ J<|O _ J<|O _ J<|q8 a fun m n a=>Q4 (qui g h m n) J<|O _ J<|Q8 0 _ J<|qs ?_;cases a;exact Q6 _ J
theorem qls (a : qw × qw × qw) (b : qw) (r : qw) (c : q60 a b = some r) : Pure Tryz.prog tab 116 [.agg [q7 a.1.X,q7 a.1.Y,q7 a.1.Z,q7 a.2.1.X,q7 a.2.1.Y,q7 a.2.1.Z,q7 a.2.2.X,q7 a.2.2.Y,q7 a.2.2.Z],.agg [q7 b.X,q7 b.Y,q7 b.Z]] (.agg [q7 r.X,q7 r.Y,q7 r.Z]):=by
 unfold q60 at c;refine Qn Tryz.func116 J qi qi J<|qe<|Ql _ _ J<|Ql _ _ J<|Qw J J<|qu<|O _ J<|O _ J<|O _ J<|O _ J<|O _ J<|O _ J<|O _ J<|O _ J<|O _ J<|O _ J<|O _ J<|O _ J<|O _ J<|O _ J<|O _ J<|O _ J<|O _ J<|O _ J<|O _ J<|O _ J<|O _ J<|O _ J<|O _ J<|O _ J<|O _ J<|O _ J<|O _ J<|O _ J<|O _ J<|O _ J<|O _ J<|O _ J<|O _ J<|O _ J ?_;refine O _ J<|O _ J<|O _ J<|O _ J<|O _ J<|O _ J<|O _ J<|O _ J<|O _ J<|O _ J<|O _ J<|O _ J<|O _ J<|O _ J<|O _ J<|O _ J<|O _ J<|O _ J<|O _ J<|O _ J<|O _ J<|O _ J<|O _ J<|O _ J<|O _ J<|O _ J<|O _ J<|Q8 2 _ J<|qs ?_;cases c;exact Q6 _ J
theorem qlr (a : K0) (c : qw) (r : qw) (b : q5y a c = some r) : Pure Tryz.prog tab 92 [.agg [.int .u8 a.Turn,q7 a.At.X,q7 a.At.Y,q7 a.At.Z],.agg [q7 c.X,q7 c.Y,q7 c.Z]] (.agg [q7 r.X,q7 r.Y,q7 r.Z]):=by
 unfold q5y at b;refine Qn Tryz.func92 J qi qi J<|qe<|Ql _ _ J<|Ql _ _ J<|Qw J J<|qa<|qf<|Qk [Qx 1,q0,qv 1,q0,qv 0,q0] qi<|O _ J<|O _ J<|q8 b fun d f b=>Q4 (qd4 a.Turn d f) J<|O _ J<|q8 b fun g h b=>Q4 (qls d c g h) J<|Q8 1 _ J<|qu<|O _ J<|O _ J<|O _ J<|O _ J<|O _ J<|O _ J<|O _ J<|O _ J<|O _ J<|O _ J<|O _ J<|O _ J<|O _ J<|O _ J<|O _ J<|O _ J<|O _ J<|O _ J<|O _ J<|Q8 2 _ J<|qs ?_;cases b;exact Q6 _ J
theorem qd2 (b : K0) (c : qw) (r : qw × Int) (a : q2t b c = some r) : Pure Tryz.prog tab 62 [.agg [.int .u8 b.Turn,q7 b.At.X,q7 b.At.Y,q7 b.At.Z],.agg [q7 c.X,q7 c.Y,q7 c.Z]] (.tup [.agg [q7 r.1.X,q7 r.1.Y,q7 r.1.Z],q7 r.2]):=by
 unfold q2t at a;refine Qn Tryz.func62 J qi qi J<|qe<|Ql _ _ J<|Ql _ _ J<|Qw J J<|qc J<|qa<|qf<|qe<|O _ J<|q8 a fun f g a=>Q4 (q2v b f g) J<|qc J<|qu<|U J<|O _ J<|qa ?_;refine qm J a (fun _ a=>?_) (fun _ a=>?_)
 ·refine qe<|O _ J<|U J<|Q8 2 _ J<|qc J<|qs ?_;cases a;exact Q6 _ J
 refine ql<|qf<|qe<|O _ J<|q8 a fun h j a=>Q4 (qgi c (-1000000) h j) J<|O _ J<|qa ?_;refine qm J a (fun _ a=>?_) (fun _ a=>?_)
 ·refine qe<|O _ J<|Q8 2 _ J<|qc J<|qs ?_;cases a;exact Q6 _ J
 refine ql<|qe<|O _ J<|O _ J<|q8 a fun d k a=>Q4 (qlr b c d k) J<|Q8 1 _ J<|qa<|qf<|qe<|O _ J<|q8 a fun l m a=>Q4 (qgi d (-1000000) l m) J<|O _ J<|qa ?_;refine qm J a (fun _ a=>?_) (fun _ a=>?_)
 ·refine qe<|O _ J<|Q8 2 _ J<|qc J<|qs ?_;cases a;exact Q6 _ J
 refine ql<|qe<|O _ J<|Q8 2 _ J<|qc J<|qs ?_;cases a;exact Q6 _ J
theorem quj (a : qw × qw × qw) (r : Int) (c : q9x a = some r) : Pure Tryz.prog tab 118 [.agg [q7 a.1.X,q7 a.1.Y,q7 a.1.Z,q7 a.2.1.X,q7 a.2.1.Y,q7 a.2.1.Z,q7 a.2.2.X,q7 a.2.2.Y,q7 a.2.2.Z]] (.int .u8 r):=by
 unfold q9x at c;refine Qn Tryz.func118 J qi qi J<|qe<|Ql _ _ J<|qc J<|qa<|qf<|qe<|U J<|qa<|q8 c fun h j c=>?_;refine Qm (fun f=>.inl f = h) (fun f=>⟨[],[],0⟩) qg ?_ ?_
 ·refine Qi (q5z a) (fun g=>⟨[(1,.ref 0 9 0 0),(4,.d (.int .u8 g))],[(0,.dat 9 [[q7 a.1.X,q7 a.1.Y,q7 a.1.Z,q7 a.2.1.X,q7 a.2.1.Y,q7 a.2.1.Z,q7 a.2.2.X,q7 a.2.2.Y,q7 a.2.2.Z]])],1⟩) 0 h j (wkA [(0,0)] [] []) ?_;intro g m b;unfold q5z at b;refine qe<|O _ J<|qa<|qf ?_;refine qm J b (fun _ b=>?_) (fun _ b=>?_)
  ·refine ql<|qf<|Q7<|qe<|U J<|qc J<|qa<|qf<|Qk [q0,qv 0,q0,q0] qi<|U J<|q8 b fun k l b=>Q4 (qd4 g k l) J<|O _ J<|O _ J<|qa ?_;refine qm J b (fun _ b=>?_) (fun _ b=>?_)
   ·refine qe<|U J<|qc J<|qs ?_;refine ⟨_,qo b,fun hm=>?_⟩;subst hm;cases c;exact Q6 _ J
   refine ql<|Qj<|Qq<|qy<|O _ J<|U J<|qx<|⟨_,qo b,wkA [(0,0)] [] []⟩
  refine Qb ?_;refine ⟨_,qo b,fun hm=>?_⟩;subst hm;exact ⟨_,J,wkA [] [] []⟩
 intro f hb;subst hb;refine qe<|qc J<|qs ?_;cases c;exact Q6 _ J
theorem quk (a : K0) (b : K0) (r : K0) (c : q9y a b = some r) : Pure Tryz.prog tab 93 [.agg [.int .u8 a.Turn,q7 a.At.X,q7 a.At.Y,q7 a.At.Z],.agg [.int .u8 b.Turn,q7 b.At.X,q7 b.At.Y,q7 b.At.Z]] (.agg [.int .u8 r.Turn,q7 r.At.X,q7 r.At.Y,q7 r.At.Z]):=by
 unfold q9y at c;refine Qn Tryz.func93 J qi qi J<|qe<|Ql _ _ J<|Ql _ _ J<|Qw J J<|qa<|qf<|Qk [Qx 4,Qx 3,(some [],[4]),(some [],[3]),q0,qv 1,q0,q0,qv 0,q0] qi<|O _ J<|O _ J<|q8 c fun j s c=>Q4 (qd4 a.Turn j s) J<|O _ J<|O _ J<|q8 c fun f t c=>Q4 (qd4 b.Turn f t) J<|Qw J J<|Qw J J<|Q8 3 _ J<|Q8 4 _ J<|qa<|qf<|qe<|U J<|qa<|q8 c fun n u c=>?_;refine Qm (fun k=>k = n) (fun k=>⟨[(2,.ref 0 4 0 0),(3,.ref 1 4 0 0),(4,.ref 2 4 0 0),(5,.ref 3 9 0 0)],[(0,.dat 4 [[.int .u8 a.Turn,q7 a.At.X,q7 a.At.Y,q7 a.At.Z]]),(1,.dat 4 [[.int .u8 b.Turn,q7 b.At.X,q7 b.At.Y,q7 b.At.Z]]),(2,.dat 4 [[.int .u8 0,q7 0,q7 0,q7 0]]),(3,.dat 9 [k.flatMap q9q])],4⟩) qg ?_ ?_
 ·refine Qi (q2x f) (fun m=>⟨[(2,.ref 0 4 0 0),(3,.ref 1 4 0 0),(4,.ref 2 4 0 0),(5,.ref 3 9 0 0),(6,.ref 4 9 0 0),(14,q9 m.1)],[(0,.dat 4 [[.int .u8 a.Turn,q7 a.At.X,q7 a.At.Y,q7 a.At.Z]]),(1,.dat 4 [[.int .u8 b.Turn,q7 b.At.X,q7 b.At.Y,q7 b.At.Z]]),(2,.dat 4 [[.int .u8 0,q7 0,q7 0,q7 0]]),(3,.dat 9 [m.2.flatMap q9q]),(4,.dat 9 [[q7 f.1.X,q7 f.1.Y,q7 f.1.Z,q7 f.2.1.X,q7 f.2.1.Y,q7 f.2.1.Z,q7 f.2.2.X,q7 f.2.2.Y,q7 f.2.2.Z]])],5⟩) (0,[j.1,j.2.1,j.2.2]) n u (wkA [(0,0),(1,1),(2,2),(3,3),(4,4)] [] []) ?_;intro m ab g;unfold q2x at g;refine qe<|O _ J<|qa<|qf ?_;refine qm J g (fun _ g=>?_) (fun _ g=>?_)
  ·refine ql<|qf<|Q7<|qe<|U J<|qc J<|qa<|Qk [Qx 3,q0,q0,qv 3,q0,q0,qv 4,q0] qi<|U J<|O _ J<|U J<|q8 g fun l o g=>q6k o J J J J J<|qdn (enc:=q9q) (.d (.agg [q7 l.X,q7 l.Y,q7 l.Z])) o (fun _=>rfl) J J J J J J<|q8 g fun p v g=>Q4 (qls f l p v) J<|q8 g fun ac q g=>q6k q J J J J J<|qnd (enc:=q9q) p q (fun _=>rfl) J J J J J J J J<|qx<|Qq<|qy<|O _ J<|U J<|qx<|⟨_,qo g,wkA [(0,0),(1,1),(2,2),(3,3),(4,4)] [] []⟩
  refine Qb ?_;refine ⟨_,qo g,fun hm=>?_⟩;subst hm;exact ⟨_,J,wkA [(0,0),(1,1),(2,2),(3,3)] [] []⟩
 intro k hb;subst hb;refine qf<|Qk [Qx 2,q0,q0,qv 0,q0,qv 1,q0,qv 3] qi<|q8 c fun h w c=>qwt (enc:=q9q) (.d (.agg [q7 h.1.X,q7 h.1.Y,q7 h.1.Z,q7 h.2.1.X,q7 h.2.1.Y,q7 h.2.1.Z,q7 h.2.2.X,q7 h.2.2.Y,q7 h.2.2.Z])) (qrm w) J J J J J J<|q8 c fun x y c=>Q4 (quj h x y) J<|O _ J<|O _ J<|O _ J<|q8 c fun z aa c=>Q4 (qlr b a.At z aa) J<|O _ J<|Q8 2 _ J<|qs ?_;cases c;exact Q6 _ J
theorem qlo (b : K0) (c : K0) (r : K0 × Int) (a : q11 b c = some r) : Pure Tryz.prog tab 63 [.agg [.int .u8 b.Turn,q7 b.At.X,q7 b.At.Y,q7 b.At.Z],.agg [.int .u8 c.Turn,q7 c.At.X,q7 c.At.Y,q7 c.At.Z]] (.tup [.agg [.int .u8 r.1.Turn,q7 r.1.At.X,q7 r.1.At.Y,q7 r.1.At.Z],q7 r.2]):=by
 unfold q11 at a;refine Qn Tryz.func63 J qi qi J<|qe<|Ql _ _ J<|Ql _ _ J<|Qw J J<|qc J<|qa<|qf<|qe<|O _ J<|q8 a fun f g a=>Q4 (q2v b f g) J<|qc J<|qu<|U J<|O _ J<|qa ?_;refine qm J a (fun _ a=>?_) (fun _ a=>?_)
 ·refine qe<|O _ J<|U J<|Q8 2 _ J<|qc J<|qs ?_;cases a;exact Q6 _ J
 refine ql<|qf<|qe<|O _ J<|q8 a fun h j a=>Q4 (q2v c h j) J<|qc J<|qu<|U J<|O _ J<|qa ?_;refine qm J a (fun _ a=>?_) (fun _ a=>?_)
 ·refine qe<|O _ J<|U J<|Q8 2 _ J<|qc J<|qs ?_;cases a;exact Q6 _ J
 refine ql<|qe<|O _ J<|O _ J<|q8 a fun d k a=>Q4 (quk b c d k) J<|Qw J J<|Q8 3 _ J<|qa<|qf<|qe<|O _ J<|q8 a fun l m a=>Q4 (q2v d l m) J<|O _ J<|qa ?_;refine qm J a (fun _ a=>?_) (fun _ a=>?_)
 ·refine qe<|O _ J<|Q8 2 _ J<|qc J<|qs ?_;cases a;exact Q6 _ J
 refine ql<|qe<|O _ J<|Q8 2 _ J<|qc J<|qs ?_;cases a;exact Q6 _ J
theorem q15w (a : Qr) (b : K0) (r : Qr × Int) (c : qca a b = some r) : Pure Tryz.prog tab 37 [.agg [.sl 7 (a.Lines.map Kb),.sl 5 (a.Marks.map Kf),.int .u8 a.End.Frame.Turn,q7 a.End.Frame.At.X,q7 a.End.Frame.At.Y,q7 a.End.Frame.At.Z,q7 a.End.Drawn],.agg [.int .u8 b.Turn,q7 b.At.X,q7 b.At.Y,q7 b.At.Z]] (.tup [.agg [.sl 7 (r.1.Lines.map Kb),.sl 5 (r.1.Marks.map Kf),.int .u8 r.1.End.Frame.Turn,q7 r.1.End.Frame.At.X,q7 r.1.End.Frame.At.Y,q7 r.1.End.Frame.At.Z,q7 r.1.End.Drawn],q7 r.2]):=by
 unfold qca at c;refine Qn Tryz.func37 J qi qi J<|qe<|Ql _ _ J<|Ql _ _ J<|Qw J J<|qc J<|qa<|qf<|qe<|O _ J<|q8 c fun u v c=>Q4 (qqq a u v) J<|qc J<|qu<|U J<|O _ J<|qa ?_;refine qm J c (fun _ c=>?_) (fun _ c=>?_)
 ·refine qe<|O _ J<|U J<|Q8 2 _ J<|qc J<|qs ?_;cases c;exact finD (.inr J) J J (Ku (.cons (q2s (.cons (.nil _) (.cons (.nil _) (.cons (.refl _) (.cons (.refl _) (.cons (.refl _) (.cons (.refl _) (.cons (.refl _) .nil)))))))) (.cons (.refl _) .nil)))
 refine ql<|qf<|qe<|O _ J<|q8 c fun w x c=>Q4 (q2v b w x) J<|qc J<|qu<|U J<|O _ J<|qa ?_;refine qm J c (fun _ c=>?_) (fun _ c=>?_)
 ·refine qe<|O _ J<|U J<|Q8 2 _ J<|qc J<|qs ?_;cases c;exact finD (.inr J) J J (Ku (.cons (q2s (.cons (.nil _) (.cons (.nil _) (.cons (.refl _) (.cons (.refl _) (.cons (.refl _) (.cons (.refl _) (.cons (.refl _) .nil)))))))) (.cons (.refl _) .nil)))
 refine ql<|qe<|Qw J J<|qa<|qf<|qe<|O _ J<|O _ J<|Qp J<|U J<|qa<|q8 c fun n y c=>?_;refine Qm (fun h=>.inl h = n) (fun h=>⟨[(2,.ref 0 7 0 0),(3,.ref 1 4 0 0),(4,.ref 2 7 0 0),(8,.ref 3 7 0 0)],[(0,.dat 7 [[.sl 7 (a.Lines.map Kb),.sl 5 (a.Marks.map Kf),.int .u8 a.End.Frame.Turn,q7 a.End.Frame.At.X,q7 a.End.Frame.At.Y,q7 a.End.Frame.At.Z,q7 a.End.Drawn]]),(1,.dat 4 [[.int .u8 b.Turn,q7 b.At.X,q7 b.At.Y,q7 b.At.Z]]),(2,.dat 7 [[.nilsl,.nilsl,.int .u8 0,q7 0,q7 0,q7 0,q7 0]]),(3,.cel 7 [[.hs 4 7 0 h.length,.d (.nilsl),.d (.int .u8 0),q9 0,q9 0,q9 0,q9 0]]),(4,.dat 7 (h.map Kb))],5⟩) qg ?_ ?_
 ·refine Qi (q94 a b) (fun l=>⟨[(2,.ref 0 7 0 0),(3,.ref 1 4 0 0),(4,.ref 2 7 0 0),(8,.ref 3 7 0 0),(34,.d (.sl 7 (a.Lines.map Kb))),(35,q9 (a.Lines.length : Int)),(36,q9 l.1)],[(0,.dat 7 [[.sl 7 (a.Lines.map Kb),.sl 5 (a.Marks.map Kf),.int .u8 a.End.Frame.Turn,q7 a.End.Frame.At.X,q7 a.End.Frame.At.Y,q7 a.End.Frame.At.Z,q7 a.End.Drawn]]),(1,.dat 4 [[.int .u8 b.Turn,q7 b.At.X,q7 b.At.Y,q7 b.At.Z]]),(2,.dat 7 [[.nilsl,.nilsl,.int .u8 0,q7 0,q7 0,q7 0,q7 0]]),(3,.cel 7 [[.hs 4 7 0 l.2.length,.d (.nilsl),.d (.int .u8 0),q9 0,q9 0,q9 0,q9 0]]),(4,.dat 7 (l.2.map Kb))],5⟩) (0,[]) n y (wkA [(0,0),(1,1),(2,2),(3,3)] [] [4]) ?_;intro l ao f;unfold q94 at f;refine qe<|O _ J<|qa<|qf ?_;refine qm J f (fun _ f=>?_) (fun _ f=>?_)
  ·refine ql<|qf<|Q7<|qe<|q8 f fun o z f=>Qe z J<|O _ J<|Qw J J<|Q8 5 _ J<|qu<|O _ J<|O _ J<|O _ J<|q8 f fun aa ab f=>Q4 (qd2 b o.From aa ab) J<|U J<|O _ J<|O _ J<|Qw J J<|Q8 6 _ J<|qc J<|qu<|O _ J<|O _ J<|O _ J<|q8 f fun ac ad f=>Q4 (qd2 b o.To ac ad) J<|U J<|O _ J<|O _ J<|Qw J J<|Q8 7 _ J<|qc J<|qa<|qf<|qe<|U J<|O _ J<|q8 f fun ae j f=>?_;refine Qd 4 (fun A st=>∃ p q s,st = A [(59,Q1 ae),(58,s),(57,q),(56,p)]) ?_ ?_
   ·refine Qa J J j (fun j=>?_) (fun j=>?_)
    ·refine qd J<|qd J<|O _ J<|qa ?_;cases j;exact ⟨_,_,_,J⟩
    refine U J<|O _ J<|O _ J<|qa ?_;cases j;exact ⟨_,_,_,J⟩
   rintro _ ⟨p,q,s,rfl⟩;refine qa ?_;refine qm J f (fun _ f=>?_) (fun _ f=>?_)
   ·refine qe<|O _ J<|Q8 2 _ J<|qc J<|qs ?_;refine ⟨_,qo f,fun hm=>?_⟩;subst hm;cases c;exact finD (.inr J) J J (Ku (.cons (q2s (.cons (.nil _) (.cons (.nil _) (.cons (.refl _) (.cons (.refl _) (.cons (.refl _) (.cons (.refl _) (.cons (.refl _) .nil)))))))) (.cons (.refl _) .nil)))
   refine ql<|qy<|O _ J<|O _ J<|O _ J<|O _ J<|O _ J<|O _ J<|O _ J<|Ql _ _ J<|q8 f fun ap af f=>Ks _ af J J J J J J J (Kq J J) J J J J<|O _ J<|Q8 3 _ J<|qx<|Qq<|qy<|O _ J<|U J<|qx<|⟨_,qo f,wkA [(0,0),(1,1),(2,2),(3,3),(4,9)] [] []⟩
  refine Qb ?_;refine ⟨_,qo f,fun hm=>?_⟩;subst hm;exact ⟨_,J,wkA [(0,0),(1,1),(2,2),(3,3),(4,4)] [] []⟩
 intro h hb;subst hb;refine qf<|qe<|O _ J<|O _ J<|Qp J<|U J<|qa<|q8 c fun t ag c=>?_;refine Qm (fun k=>.inl k = t) (fun k=>⟨[(2,.ref 0 7 0 0),(3,.ref 1 4 0 0),(4,.ref 2 7 0 0),(8,.ref 3 7 0 0)],[(0,.dat 7 [[.sl 7 (a.Lines.map Kb),.sl 5 (a.Marks.map Kf),.int .u8 a.End.Frame.Turn,q7 a.End.Frame.At.X,q7 a.End.Frame.At.Y,q7 a.End.Frame.At.Z,q7 a.End.Drawn]]),(1,.dat 4 [[.int .u8 b.Turn,q7 b.At.X,q7 b.At.Y,q7 b.At.Z]]),(2,.dat 7 [[.nilsl,.nilsl,.int .u8 0,q7 0,q7 0,q7 0,q7 0]]),(3,.cel 7 [[.hs 4 7 0 h.length,.hs 5 5 0 k.length,.d (.int .u8 0),q9 0,q9 0,q9 0,q9 0]]),(4,.dat 7 (h.map Kb)),(5,.dat 5 (k.map Kf))],6⟩) qg ?_ ?_
 ·refine Qi (q95 a b) (fun m=>⟨[(2,.ref 0 7 0 0),(3,.ref 1 4 0 0),(4,.ref 2 7 0 0),(8,.ref 3 7 0 0),(73,.d (.sl 5 (a.Marks.map Kf))),(74,q9 (a.Marks.length : Int)),(75,q9 m.1)],[(0,.dat 7 [[.sl 7 (a.Lines.map Kb),.sl 5 (a.Marks.map Kf),.int .u8 a.End.Frame.Turn,q7 a.End.Frame.At.X,q7 a.End.Frame.At.Y,q7 a.End.Frame.At.Z,q7 a.End.Drawn]]),(1,.dat 4 [[.int .u8 b.Turn,q7 b.At.X,q7 b.At.Y,q7 b.At.Z]]),(2,.dat 7 [[.nilsl,.nilsl,.int .u8 0,q7 0,q7 0,q7 0,q7 0]]),(3,.cel 7 [[.hs 4 7 0 h.length,.hs 5 5 0 m.2.length,.d (.int .u8 0),q9 0,q9 0,q9 0,q9 0]]),(4,.dat 7 (h.map Kb)),(5,.dat 5 (m.2.map Kf))],6⟩) (0,[]) t ag (wkA [(0,0),(1,1),(2,2),(3,3),(4,4)] [] [5]) ?_;intro m aq g;unfold q95 at g;refine qe<|O _ J<|qa<|qf ?_;refine qm J g (fun _ g=>?_) (fun _ g=>?_)
  ·refine ql<|qf<|Q7<|qe<|q8 g fun ah ai g=>Qe ai J<|O _ J<|Qw J J<|Q8 6 _ J<|qu<|O _ J<|O _ J<|O _ J<|q8 g fun aj ak g=>Q4 (qlo ah.Frame b aj ak) J<|U J<|O _ J<|O _ J<|Qw J J<|Q8 7 _ J<|qc J<|qa<|qf<|qe<|U J<|O _ J<|qa ?_;refine qm J g (fun _ g=>?_) (fun _ g=>?_)
   ·refine qe<|O _ J<|U J<|Q8 2 _ J<|qc J<|qs ?_;refine ⟨_,qo g,fun hm=>?_⟩;subst hm;cases c;exact finD (.inr J) J J (Ku (.cons (q2s (.cons (.nil _) (.cons (.nil _) (.cons (.refl _) (.cons (.refl _) (.cons (.refl _) (.cons (.refl _) (.cons (.refl _) .nil)))))))) (.cons (.refl _) .nil)))
   refine ql<|qy<|O _ J<|O _ J<|O _ J<|O _ J<|O _ J<|O _ J<|Ql _ _ J<|q8 g fun ar al g=>Ks _ al J J J J J J J (Kq J J) J J J J<|O _ J<|Q8 3 _ J<|qx<|Qq<|qy<|O _ J<|U J<|qx<|⟨_,qo g,wkA [(0,0),(1,1),(2,2),(3,3),(4,4),(5,9)] [] []⟩
  refine Qb ?_;refine ⟨_,qo g,fun hm=>?_⟩;subst hm;exact ⟨_,J,wkA [(0,0),(1,1),(2,2),(3,3),(4,4),(5,5)] [] []⟩
 intro k hb;subst hb;refine qe<|O _ J<|O _ J<|O _ J<|O _ J<|q8 c fun am an c=>Q4 (qlo a.End.Frame b am an) J<|U J<|O _ J<|O _ J<|Qw J J<|Q8 6 _ J<|qc J<|qa<|qf<|qe<|U J<|O _ J<|qa ?_;refine qm J c (fun _ c=>?_) (fun _ c=>?_)
 ·refine qe<|O _ J<|U J<|Q8 2 _ J<|qc J<|qs ?_;cases c;exact finD (.inr J) J J (Ku (.cons (q2s (.cons (.nil _) (.cons (.nil _) (.cons (.refl _) (.cons (.refl _) (.cons (.refl _) (.cons (.refl _) (.cons (.refl _) .nil)))))))) (.cons (.refl _) .nil)))
 refine ql<|qe<|O _ J<|O _ J<|O _ J<|O _ J<|O _ J<|O _ J<|Q8 3 _ J<|qu<|O _ J<|Q8 2 _ J<|qc J<|qs ?_;cases c;exact finD (.inr J) J (q3y (Y2 (qqk (Y2 (Z6 J J) (Y2 (Z6 J J) (Y2 J (Y2 J (Y2 J (Y2 J (Y2 J J)))))))) (Y2 J J))) (.refl _)
theorem qpg (j : List qh) (c : K0) (r : List qh × Int) (b : q8j j c = some r) : Pure Tryz.prog tab 38 [.sl 6 (j.map Qh),.agg [.int .u8 c.Turn,q7 c.At.X,q7 c.At.Y,q7 c.At.Z]] (.tup [.sl 6 (r.1.map Qh),q7 r.2]):=by
 unfold q8j at b;refine Qn Tryz.func38 J qi qi J<|qe<|Ql _ _ J<|qc J<|qc J<|qa<|qf<|qe<|U J<|q8 b fun s t b=>Q4 (q8h j s t) J<|qc J<|qu<|U J<|O _ J<|qa ?_;refine qm J b (fun _ b=>?_) (fun _ b=>?_)
 ·refine qe<|U J<|qc J<|qc J<|qs ?_;cases b;exact finD (.inr J) J J (Ku (.cons (.nil _) (.cons (.refl _) .nil)))
 refine ql<|qf<|qe<|O _ J<|q8 b fun u v b=>Q4 (q2v c u v) J<|qc J<|qu<|U J<|O _ J<|qa ?_;refine qm J b (fun _ b=>?_) (fun _ b=>?_)
 ·refine qe<|U J<|qc J<|qc J<|qs ?_;cases b;exact finD (.inr J) J J (Ku (.cons (.nil _) (.cons (.refl _) .nil)))
 refine ql<|qe<|qc J<|qa<|qf<|qe<|U J<|Qp J<|U J<|qa<|q8 b fun m w b=>?_;refine Qm (fun f=>.inl f = m) (fun f=>⟨[(8,.hs 0 6 0 f.length)],[(0,.dat 6 (f.map Qh))],1⟩) qg ?_ ?_
 ·refine Qi (q59 j c) (fun l=>⟨[(3,.ref 0 4 0 0),(8,.hs 1 6 0 l.2.length),(25,.d (.sl 6 (j.map Qh))),(26,q9 (j.length : Int)),(27,q9 l.1)],[(0,.dat 4 [[.int .u8 c.Turn,q7 c.At.X,q7 c.At.Y,q7 c.At.Z]]),(1,.dat 6 (l.2.map Qh))],2⟩) (0,[]) m w (wkA [(0,0)] [] [1]) ?_;intro l ae a;unfold q59 at a;refine qe<|O _ J<|qa<|qf ?_;refine qm J a (fun _ a=>?_) (fun _ a=>?_)
  ·refine ql<|qf<|Q7<|qe<|q8 a fun n x a=>Qe x J<|O _ J<|Qw J J<|Q8 2 _ J<|qu<|O _ J<|O _ J<|O _ J<|q8 a fun g y a=>Q4 (qd2 c n.Lo g y) J<|U J<|O _ J<|O _ J<|Qw J J<|Q8 3 _ J<|qc J<|qu<|O _ J<|O _ J<|O _ J<|q8 a fun h z a=>Q4 (qd2 c n.Hi h z) J<|U J<|O _ J<|O _ J<|Qw J J<|Q8 4 _ J<|qc J<|qa<|qf<|qe<|U J<|O _ J<|q8 a fun aa k a=>?_;refine Qd 4 (fun A st=>∃ o p q,st = A [(50,Q1 aa),(49,q),(48,p),(47,o)]) ?_ ?_
   ·refine Qa J J k (fun k=>?_) (fun k=>?_)
    ·refine qd J<|qd J<|O _ J<|qa ?_;cases k;exact ⟨_,_,_,J⟩
    refine U J<|O _ J<|O _ J<|qa ?_;cases k;exact ⟨_,_,_,J⟩
   rintro _ ⟨o,p,q,rfl⟩;refine qa ?_;refine qm J a (fun _ a=>?_) (fun _ a=>?_)
   ·refine qe<|qc J<|qc J<|qs ?_;refine ⟨_,qo a,fun hm=>?_⟩;subst hm;cases b;exact finD (.inr J) J J (Ku (.cons (.nil _) (.cons (.refl _) .nil)))
   refine ql<|qy<|U J<|O _ J<|O _ J<|O _ J<|O _ J<|Uu (r:=min g.1.X h.1.X) J J (by simp only [Us];rfl)<|O _ J<|O _ J<|O _ J<|O _ J<|Uu (r:=min g.1.Y h.1.Y) J J (by simp only [Us];rfl)<|O _ J<|O _ J<|O _ J<|O _ J<|Uu (r:=min g.1.Z h.1.Z) J J (by simp only [Us];rfl)<|O _ J<|O _ J<|O _ J<|O _ J<|O _ J<|Jc (r:=max g.1.X h.1.X) J J (by simp only [Jb];rfl)<|O _ J<|O _ J<|O _ J<|O _ J<|Jc (r:=max g.1.Y h.1.Y) J J (by simp only [Jb];rfl)<|O _ J<|O _ J<|O _ J<|O _ J<|Jc (r:=max g.1.Z h.1.Z) J J (by simp only [Jb];rfl)<|O _ J<|O _ J<|Ql _ _ J<|q8 a fun af ab a=>Ks _ ab J J J J J J J (Kq J J) J J J J<|qc J ?_;refine qx<|Qq<|qy<|O _ J<|U J<|qx<|⟨_,qo a,wkA [(0,0),(1,6)] [] []⟩
  refine Qb ?_;refine ⟨_,qo a,fun hm=>?_⟩;subst hm;exact ⟨_,J,wkA [(0,1)] [] []⟩
 intro f hb;subst hb;refine qf ?_;refine Ye (st':=⟨[(8,.d (.sl 6 (f.map Qh)))],[],0⟩) (wkA [] [0] []) ?_ qg;refine qy<|U J<|q8 b fun ac ad b=>Q4 (qpe f ac ad) J<|O _ J<|O _ J<|qc J<|qc J<|qs ?_;cases b;exact Q6 _ J
theorem q16v (g : Qr) (q : List (List qh)) (c : K0) (r : Bool) (a : qdf g q c = some r) : Pure Tryz.prog tab 9 [.agg [.sl 7 (g.Lines.map Kb),.sl 5 (g.Marks.map Kf),.int .u8 g.End.Frame.Turn,q7 g.End.Frame.At.X,q7 g.End.Frame.At.Y,q7 g.End.Frame.At.Z,q7 g.End.Drawn],.sl 1 (q.map Qt),.agg [.int .u8 c.Turn,q7 c.At.X,q7 c.At.Y,q7 c.At.Z]] (.bool r):=by
 unfold qdf at a;refine Qn Tryz.func9 J qi qi J<|qe<|Ql _ _ J<|Ql _ _ J<|qc J<|qu<|q8 a fun t h2 a=>Q4 (qvm t h2) J<|qc J<|qa<|qf<|qe<|O _ J<|U J<|q8 a fun r3 h4 a=>Q4 (qvn g q r3 h4) J<|O _ J<|q8 a fun c7 l a=>?_;refine Qd 5 (fun A st=>∃ j9 ai aj ak,st = A [(29,Q1 c7),(28,ak),(27,aj),(26,ai),(25,j9)]) ?_ ?_
 ·refine Qa J J l (fun l=>?_) (fun l=>?_)
  ·refine qd J<|qd J<|qd J<|O _ J<|qa ?_;cases l;exact ⟨_,_,_,_,J⟩
  refine O _ J<|q8 l fun ff fg l=>Q4 (qhx c ff fg) J<|O _ J<|O _ J<|qa ?_;cases l;exact ⟨_,_,_,_,J⟩
 rintro _ ⟨j9,ai,aj,ak,rfl⟩;refine q8 a fun fh u a=>?_;refine Qd 4 (fun A st=>∃ al am an,st = A [(33,Q1 fh),(32,an),(31,am),(30,al)]) ?_ ?_
 ·refine Qa J J u (fun u=>?_) (fun u=>?_)
  ·refine qd J<|qd J<|O _ J<|qa ?_;cases u;exact ⟨_,_,_,J⟩
  refine U J<|O _ J<|O _ J<|qa ?_;cases u;exact ⟨_,_,_,J⟩
 rintro _ ⟨al,am,an,rfl⟩;refine qa ?_;refine qm J a (fun _ a=>?_) (fun _ a=>?_)
 ·refine qe<|U J<|qc J<|qs ?_;cases a;exact Q6 _ J
 refine ql<|qe<|O _ J<|U J<|q8 a fun s fi a=>Q4 (qiy g q s fi) J<|U J<|O _ J<|O _ J<|qc J<|qc J<|qu<|O _ J<|O _ J<|q8 a fun b fj a=>Q4 (q15w g c b fj) J<|U J<|O _ J<|O _ J<|Qw J J<|Q8 2 _ J<|qc J<|qu<|qc J<|qa<|qf<|qe<|qc J<|qa<|q8 a fun ao fk a=>?_;refine Qm (fun m=>.inl m = ao) (fun m=>⟨[(5,.ref 0 4 0 0),(7,Q1 t),(8,.d (.sl 6 (s.1.map Qh))),(9,q9 s.2),(10,.ref 1 7 0 0),(11,q9 b.2),(12,.hs 2 1 0 m.length)],[(0,.dat 4 [[.int .u8 c.Turn,q7 c.At.X,q7 c.At.Y,q7 c.At.Z]]),(1,.dat 7 [[.sl 7 (b.1.Lines.map Kb),.sl 5 (b.1.Marks.map Kf),.int .u8 b.1.End.Frame.Turn,q7 b.1.End.Frame.At.X,q7 b.1.End.Frame.At.Y,q7 b.1.End.Frame.At.Z,q7 b.1.End.Drawn]]),(2,.dat 1 (m.map Qt))],3⟩) qg ?_ ?_
 ·refine Qi (q68 q c t) (fun af=>⟨[(1,.d (.sl 1 (q.map Qt))),(5,.ref 0 4 0 0),(7,Q1 t),(8,.d (.sl 6 (s.1.map Qh))),(9,q9 s.2),(10,.ref 1 7 0 0),(11,q9 b.2),(12,.hs 2 1 0 af.2.length),(13,q9 af.1)],[(0,.dat 4 [[.int .u8 c.Turn,q7 c.At.X,q7 c.At.Y,q7 c.At.Z]]),(1,.dat 7 [[.sl 7 (b.1.Lines.map Kb),.sl 5 (b.1.Marks.map Kf),.int .u8 b.1.End.Frame.Turn,q7 b.1.End.Frame.At.X,q7 b.1.End.Frame.At.Y,q7 b.1.End.Frame.At.Z,q7 b.1.End.Drawn]]),(2,.dat 1 (af.2.map Qt))],3⟩) (0,[]) ao fk (wkA [(0,1),(1,2)] [] [2]) ?_;intro af gl f;unfold q68 at f;refine qf<|qe<|U J<|U J<|Qp J<|O _ J<|qa ?_;refine qm J f (fun _ f=>?_) (fun _ f=>?_)
  ·refine ql<|qf<|Q7<|qf<|Qk [q0,q0,q0,q0,q0,q0,q0,qv 0,q0,q0,q0,q0,q0] qi<|U J<|U J<|q8 f fun fl fm f=>Qe fm J<|O _ J<|O _ J<|O _ J<|O _ J<|q8 f fun fn fo f=>Q4 (qpg fl ({Turn:=c.Turn,At:=({X:=0,Y:=0,Z:=0} : qw)} : K0) fn fo) J<|U J<|O _ J<|O _ J<|qc J<|qc J<|qa<|qf<|qe<|U J<|O _ J<|qa ?_;refine qm J f (fun _ f=>?_) (fun _ f=>?_)
   ·refine qe<|U J<|q8 f fun fq n f=>?_;refine Qd 8 (fun A st=>∃ ap aq ar au av aw ax,st = A [(74,Q1 fq),(73,ax),(72,aw),(71,av),(70,au),(69,ar),(68,aq),(67,ap)]) ?_ ?_
    ·refine Qa J J n (fun n=>?_) (fun n=>?_)
     ·refine U J<|O _ J<|q8 n fun fr v n=>?_;refine Qd 4 (fun A st=>∃ ay az ba,st = A [(73,Q1 fr),(72,ba),(71,az),(70,ay)]) ?_ ?_
      ·refine Qa J J v (fun v=>?_) (fun v=>?_)
       ·refine qd J<|qd J<|O _ J<|qa ?_;cases v;exact ⟨_,_,_,J⟩
       refine U J<|O _ J<|O _ J<|qa ?_;cases v;exact ⟨_,_,_,J⟩
      rintro _ ⟨ay,az,ba,rfl⟩;refine O _ J<|qa ?_;cases n;exact ⟨_,_,_,_,_,_,_,J⟩
     refine qd J<|qd J<|qd J<|qd J<|qd J<|qd J<|O _ J<|qa ?_;cases n;exact ⟨_,_,_,_,_,_,_,J⟩
    rintro _ ⟨ap,aq,ar,au,av,aw,ax,rfl⟩;refine qc J<|qs ?_;refine ⟨_,qo f,fun hm=>?_⟩;subst hm;cases a;exact Q6 _ J
   refine ql<|qy<|U J<|U J<|Ql _ _ J<|q8 f fun gm fs f=>Ks _ fs J J J J J J J (Kq J J) J J J J<|qc J<|qx<|Qq<|qy<|U J<|O _ J<|qc J<|qx<|⟨_,qo f,wkA [(0,0),(1,1),(2,4)] [] []⟩
  refine Qb ?_;refine ⟨_,qo f,fun hm=>?_⟩;subst hm;exact ⟨_,J,wkA [(0,0),(1,1),(2,2)] [] []⟩
 intro m hb;subst hb;refine qf<|qe<|U J<|O _ J<|q8 a fun ft w a=>?_;refine Qd 4 (fun A st=>∃ bb bc bd,st = A [(84,Q1 ft),(83,bd),(82,bc),(81,bb)]) ?_ ?_
 ·refine Qa J J w (fun w=>?_) (fun w=>?_)
  ·refine qd J<|qd J<|O _ J<|qa ?_;cases w;exact ⟨_,_,_,J⟩
  refine U J<|O _ J<|O _ J<|qa ?_;cases w;exact ⟨_,_,_,J⟩
 rintro _ ⟨bb,bc,bd,rfl⟩;refine qa ?_;refine qm J a (fun _ a=>?_) (fun _ a=>?_)
 ·refine qe<|U J<|q8 a fun fu h a=>?_;refine Qd 12 (fun A st=>∃ be bf bg bh bi bj bk bl bm bn bo,st = A [(97,Q1 fu),(96,bo),(95,bn),(94,bm),(93,bl),(92,bk),(91,bj),(90,bi),(89,bh),(88,bg),(87,bf),(86,be)]) ?_ ?_
  ·refine Qa J J h (fun h=>?_) (fun h=>?_)
   ·refine U J<|O _ J<|q8 h fun fv x h=>?_;refine Qd 4 (fun A st=>∃ bp bq br,st = A [(92,Q1 fv),(91,br),(90,bq),(89,bp)]) ?_ ?_
    ·refine Qa J J x (fun x=>?_) (fun x=>?_)
     ·refine qd J<|qd J<|O _ J<|qa ?_;cases x;exact ⟨_,_,_,J⟩
     refine U J<|O _ J<|O _ J<|qa ?_;cases x;exact ⟨_,_,_,J⟩
    rintro _ ⟨bp,bq,br,rfl⟩;refine q8 h fun fw y h=>?_;refine Qd 4 (fun A st=>∃ bs bt bu,st = A [(96,Q1 fw),(95,bu),(94,bt),(93,bs)]) ?_ ?_
    ·refine Qa J J y (fun y=>?_) (fun y=>?_)
     ·refine qd J<|qd J<|O _ J<|qa ?_;cases y;exact ⟨_,_,_,J⟩
     refine U J<|O _ J<|O _ J<|qa ?_;cases y;exact ⟨_,_,_,J⟩
    rintro _ ⟨bs,bt,bu,rfl⟩;refine O _ J<|qa ?_;cases h;exact ⟨_,_,_,_,_,_,_,_,_,_,_,J⟩
   refine qd J<|qd J<|qd J<|qd J<|qd J<|qd J<|qd J<|qd J<|qd J<|qd J<|O _ J<|qa ?_;cases h;exact ⟨_,_,_,_,_,_,_,_,_,_,_,J⟩
  rintro _ ⟨be,bf,bg,bh,bi,bj,bk,bl,bm,bn,bo,rfl⟩;refine q8 a fun fx o a=>?_;refine Qd 8 (fun A st=>∃ bv bw bz ca cb cc cd,st = A [(105,Q1 fx),(104,cd),(103,cc),(102,cb),(101,ca),(100,bz),(99,bw),(98,bv)]) ?_ ?_
  ·refine Qa J J o (fun o=>?_) (fun o=>?_)
   ·refine U J<|O _ J<|q8 o fun fy z o=>?_;refine Qd 4 (fun A st=>∃ ce cf cg,st = A [(104,Q1 fy),(103,cg),(102,cf),(101,ce)]) ?_ ?_
    ·refine Qa J J z (fun z=>?_) (fun z=>?_)
     ·refine qd J<|qd J<|O _ J<|qa ?_;cases z;exact ⟨_,_,_,J⟩
     refine U J<|O _ J<|O _ J<|qa ?_;cases z;exact ⟨_,_,_,J⟩
    rintro _ ⟨ce,cf,cg,rfl⟩;refine O _ J<|qa ?_;cases o;exact ⟨_,_,_,_,_,_,_,J⟩
   refine qd J<|qd J<|qd J<|qd J<|qd J<|qd J<|O _ J<|qa ?_;cases o;exact ⟨_,_,_,_,_,_,_,J⟩
  rintro _ ⟨bv,bw,bz,ca,cb,cc,cd,rfl⟩;refine qc J<|qs ?_;cases a;exact Q6 _ J
 refine ql<|qe<|U J<|O _ J<|q8 a fun ag fz a=>Q4 (qpg s.1 c ag fz) J<|U J<|O _ J<|O _ J<|qc J<|qc J<|qa<|qf ?_;refine Ye (st':=⟨[(7,Q1 t),(10,.ref 0 7 0 0),(12,.d (.sl 1 (m.map Qt))),(16,.d (.sl 6 (ag.1.map Qh))),(17,q9 ag.2)],[(0,.dat 7 [[.sl 7 (b.1.Lines.map Kb),.sl 5 (b.1.Marks.map Kf),.int .u8 b.1.End.Frame.Turn,q7 b.1.End.Frame.At.X,q7 b.1.End.Frame.At.Y,q7 b.1.End.Frame.At.Z,q7 b.1.End.Drawn]])],1⟩) (wkA [(0,1)] [2] []) ?_ qg;refine qy<|O _ J<|U J<|q8 a fun ch ga a=>Q4 (qiy b.1 m ch ga) J<|U J<|O _ J<|O _ J<|qc J<|qc J<|qa<|qf<|qe<|U J<|O _ J<|q8 a fun gb aa a=>?_;refine Qd 4 (fun A st=>∃ ci cj ck,st = A [(123,Q1 gb),(122,ck),(121,cj),(120,ci)]) ?_ ?_
 ·refine Qa J J aa (fun aa=>?_) (fun aa=>?_)
  ·refine qd J<|qd J<|O _ J<|qa ?_;cases aa;exact ⟨_,_,_,J⟩
  refine U J<|O _ J<|O _ J<|qa ?_;cases aa;exact ⟨_,_,_,J⟩
 rintro _ ⟨ci,cj,ck,rfl⟩;refine qa ?_;refine qm J a (fun _ a=>?_) (fun _ a=>?_)
 ·refine qe<|U J<|q8 a fun gc j a=>?_;refine Qd 12 (fun A st=>∃ cm cn co cp cq cr cs ct cu cv cw,st = A [(136,Q1 gc),(135,cw),(134,cv),(133,cu),(132,ct),(131,cs),(130,cr),(129,cq),(128,cp),(127,co),(126,cn),(125,cm)]) ?_ ?_
  ·refine Qa J J j (fun j=>?_) (fun j=>?_)
   ·refine U J<|O _ J<|q8 j fun gd ab j=>?_;refine Qd 4 (fun A st=>∃ cx cy cz,st = A [(131,Q1 gd),(130,cz),(129,cy),(128,cx)]) ?_ ?_
    ·refine Qa J J ab (fun ab=>?_) (fun ab=>?_)
     ·refine qd J<|qd J<|O _ J<|qa ?_;cases ab;exact ⟨_,_,_,J⟩
     refine U J<|O _ J<|O _ J<|qa ?_;cases ab;exact ⟨_,_,_,J⟩
    rintro _ ⟨cx,cy,cz,rfl⟩;refine q8 j fun ge ac j=>?_;refine Qd 4 (fun A st=>∃ da dc dd,st = A [(135,Q1 ge),(134,dd),(133,dc),(132,da)]) ?_ ?_
    ·refine Qa J J ac (fun ac=>?_) (fun ac=>?_)
     ·refine qd J<|qd J<|O _ J<|qa ?_;cases ac;exact ⟨_,_,_,J⟩
     refine U J<|O _ J<|O _ J<|qa ?_;cases ac;exact ⟨_,_,_,J⟩
    rintro _ ⟨da,dc,dd,rfl⟩;refine O _ J<|qa ?_;cases j;exact ⟨_,_,_,_,_,_,_,_,_,_,_,J⟩
   refine qd J<|qd J<|qd J<|qd J<|qd J<|qd J<|qd J<|qd J<|qd J<|qd J<|O _ J<|qa ?_;cases j;exact ⟨_,_,_,_,_,_,_,_,_,_,_,J⟩
  rintro _ ⟨cm,cn,co,cp,cq,cr,cs,ct,cu,cv,cw,rfl⟩;refine q8 a fun gf k a=>?_;refine Qd 12 (fun A st=>∃ de df dg dh dj dk dl dm dn dp dq,st = A [(148,Q1 gf),(147,dq),(146,dp),(145,dn),(144,dm),(143,dl),(142,dk),(141,dj),(140,dh),(139,dg),(138,df),(137,de)]) ?_ ?_
  ·refine Qa J J k (fun k=>?_) (fun k=>?_)
   ·refine U J<|O _ J<|q8 k fun gg ad k=>?_;refine Qd 4 (fun A st=>∃ dr ds dt,st = A [(143,Q1 gg),(142,dt),(141,ds),(140,dr)]) ?_ ?_
    ·refine Qa J J ad (fun ad=>?_) (fun ad=>?_)
     ·refine qd J<|qd J<|O _ J<|qa ?_;cases ad;exact ⟨_,_,_,J⟩
     refine U J<|O _ J<|O _ J<|qa ?_;cases ad;exact ⟨_,_,_,J⟩
    rintro _ ⟨dr,ds,dt,rfl⟩;refine q8 k fun gh ae k=>?_;refine Qd 4 (fun A st=>∃ du dv dw,st = A [(147,Q1 gh),(146,dw),(145,dv),(144,du)]) ?_ ?_
    ·refine Qa J J ae (fun ae=>?_) (fun ae=>?_)
     ·refine qd J<|qd J<|O _ J<|qa ?_;cases ae;exact ⟨_,_,_,J⟩
     refine U J<|O _ J<|O _ J<|qa ?_;cases ae;exact ⟨_,_,_,J⟩
    rintro _ ⟨du,dv,dw,rfl⟩;refine O _ J<|qa ?_;cases k;exact ⟨_,_,_,_,_,_,_,_,_,_,_,J⟩
   refine qd J<|qd J<|qd J<|qd J<|qd J<|qd J<|qd J<|qd J<|qd J<|qd J<|O _ J<|qa ?_;cases k;exact ⟨_,_,_,_,_,_,_,_,_,_,_,J⟩
  rintro _ ⟨de,df,dg,dh,dj,dk,dl,dm,dn,dp,dq,rfl⟩;refine qc J<|qs ?_;cases a;exact Q6 _ J
 refine ql<|qe<|U J<|q8 a fun gi p a=>?_;refine Qd 5 (fun A st=>∃ dx dy dz fa,st = A [(154,Q1 gi),(153,fa),(152,dz),(151,dy),(150,dx)]) ?_ ?_
 ·refine Qa J J p (fun p=>?_) (fun p=>?_)
  ·refine U J<|U J<|q8 p fun gj gk p=>Q4 (qhy ag.1 ch.1 gj gk) J<|O _ J<|qa ?_;cases p;exact ⟨_,_,_,_,J⟩
  refine qd J<|qd J<|qd J<|O _ J<|qa ?_;cases p;exact ⟨_,_,_,_,J⟩
 rintro _ ⟨dx,dy,dz,fa,rfl⟩;refine qc J<|qs ?_;cases a;exact Q6 _ J
end Go.Proofs.YtbknppciefodiaaGreat
