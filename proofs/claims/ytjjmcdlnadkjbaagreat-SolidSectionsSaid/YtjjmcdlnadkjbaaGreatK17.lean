/- W_Alld W_All -/
import Derived.Test.YtjjmcdlnadkjbaaGreatK16
namespace Go.Proofs.YtjjmcdlnadkjbaaGreat
open Go Go.Am Go.Sh
set_option maxHeartbeats 8000000
set_option maxRecDepth 100000
theorem qsq (h : List q8) (r : q8 × Int) (g : qeo h = some r) : Pure Tryz.prog tab 28 [.sl 6 (h.map qf)] (.tup [.agg [i_ r.1.Lo.X,i_ r.1.Lo.Y,i_ r.1.Lo.Z,i_ r.1.Hi.X,i_ r.1.Hi.Y,i_ r.1.Hi.Z],i_ r.2]):=by
 unfold qeo at g
 refine qn Tryz.func28 ee (by kernel_rfl) (by kernel_rfl) ee<|sr_<|q13 ee ee<|as_ ee<|q0<|qa<|sr_<|mv_ ee ?_
 obtain ⟨k,m,g⟩:=q6 g
 refine pc_ (q90 h k m) ee<|as_ ee<|qs<|mv_ ee<|v_ (db_ (k != 0)) ee<|q0 ?_
 refine qg ee g (fun _ g=>?_) (fun _ g=>?_)
 ·refine sr_<|v_ (.d (.agg [i_ 0,i_ 0,i_ 0,i_ 0,i_ 0,i_ 0])) ee<|mv_ ee<|q1f 0 (.dat 6 [[i_ 0,i_ 0,i_ 0,i_ 0,i_ 0,i_ 0]]) ee<|as_ ee<|nt_ ?_
  obtain rfl:=q9 g
  exact fR_ (.d (.tup [.agg [i_ 0,i_ 0,i_ 0,i_ 0,i_ 0,i_ 0],i_ k])) ee
 refine qh<|qa<|sr_<|mv_ ee<|ln_ ee<|v_ (.d (.bool ((h.length : Int) == 0))) ee<|q0 ?_
 refine qg ee g (fun _ g=>?_) (fun _ g=>?_)
 ·refine sr_<|v_ (.d (.agg [i_ 0,i_ 0,i_ 0,i_ 0,i_ 0,i_ 0])) ee<|q1f 0 (.dat 6 [[i_ 0,i_ 0,i_ 0,i_ 0,i_ 0,i_ 0]]) ee<|as_ ee<|nt_ ?_
  obtain rfl:=q9 g
  exact fR_ (.d (.tup [.agg [i_ 0,i_ 0,i_ 0,i_ 0,i_ 0,i_ 0],i_ 6])) ee
 refine qh<|sr_<|mv_ ee ?_
 obtain ⟨f,n,g⟩:=q6 g
 refine ix_ (enc:=qf) n ee<|v_ (.d (.agg [i_ f.Lo.X,i_ f.Lo.Y,i_ f.Lo.Z,i_ f.Hi.X,i_ f.Hi.Y,i_ f.Hi.Z])) ee<|q13 ee ee<|q1f 1 (.dat 6 [[i_ f.Lo.X,i_ f.Lo.Y,i_ f.Lo.Z,i_ f.Hi.X,i_ f.Hi.Y,i_ f.Hi.Z]]) ee<|q0<|qa<|sr_<|mv_ ee<|ln_ ee<|mv_ ee<|q0 ?_
 obtain ⟨l,o,g⟩:=q6 g
 refine qp (fun c=>c = l) (fun (c : Int × Int × Int × Int × Int × Int)=>⟨[(2,.ref 0 6 0 0),(5,.ref 1 6 0 0)],[(0,.dat 6 [[i_ 0,i_ 0,i_ 0,i_ 0,i_ 0,i_ 0]]),(1,.dat 6 [[i_ c.1,i_ c.2.1,i_ c.2.2.1,i_ c.2.2.2.1,i_ c.2.2.2.2.1,i_ c.2.2.2.2.2]])],2⟩) (by simp) ?_ ?_
 ·refine qt (q8g h) (fun (a : Int × Int × Int × Int × Int × Int × Int)=>⟨[(2,.ref 0 6 0 0),(5,.ref 1 6 0 0),(21,.d (.sl 6 (h.map qf))),(22,di_ (h.length : Int)),(23,di_ a.1)],[(0,.dat 6 [[i_ 0,i_ 0,i_ 0,i_ 0,i_ 0,i_ 0]]),(1,.dat 6 [[i_ a.2.1,i_ a.2.2.1,i_ a.2.2.2.1,i_ a.2.2.2.2.1,i_ a.2.2.2.2.2.1,i_ a.2.2.2.2.2.2]])],2⟩) (0,f.Lo.X,f.Lo.Y,f.Lo.Z,f.Hi.X,f.Hi.Y,f.Hi.Z) l o (wkA [(0,0),(1,1)] [] []) ?_
  intro a q j
  unfold q8g at j
  refine sr_<|v_ (.d (.bool (decide (a.1 < (h.length : Int))))) ee<|q0<|qa ?_
  refine qg ee j (fun _ j=>?_) (fun _ j=>?_)
  ·refine qh<|qa<|ql<|sr_ ?_
   obtain ⟨b,p,j⟩:=q6 j
   refine ix_ (enc:=qf) p ee<|v_ (.d (.agg [i_ b.Lo.X,i_ b.Lo.Y,i_ b.Lo.Z,i_ b.Hi.X,i_ b.Hi.Y,i_ b.Hi.Z])) ee<|q13 ee ee<|q1f 2 (.dat 6 [[i_ b.Lo.X,i_ b.Lo.Y,i_ b.Lo.Z,i_ b.Hi.X,i_ b.Hi.Y,i_ b.Hi.Z]]) ee<|qs<|v_ (.ref 1 6 0 0) ee<|v_ (.ref 1 6 0 0) ee<|v_ (di_ a.2.1) ee<|v_ (.ref 2 6 0 0) ee<|v_ (.ref 2 6 0 0) ee<|v_ (di_ b.Lo.X) ee<|qcd (r:=min a.2.1 b.Lo.X) ee ee (by simp only [q94];rfl)<|v_ (.ref 1 6 0 0) ee<|v_ (.ref 1 6 0 1) ee<|v_ (di_ a.2.2.1) ee<|v_ (.ref 2 6 0 0) ee<|v_ (.ref 2 6 0 1) ee<|v_ (di_ b.Lo.Y) ee<|qcd (r:=min a.2.2.1 b.Lo.Y) ee ee (by simp only [q94];rfl)<|v_ (.ref 1 6 0 0) ee<|v_ (.ref 1 6 0 2) ee<|v_ (di_ a.2.2.2.1) ee<|v_ (.ref 2 6 0 0) ee<|v_ (.ref 2 6 0 2) ee<|v_ (di_ b.Lo.Z) ee<|qcd (r:=min a.2.2.2.1 b.Lo.Z) ee ee (by simp only [q94];rfl)<|v_ (.d (.agg [i_ (min a.2.1 b.Lo.X),i_ (min a.2.2.1 b.Lo.Y),i_ (min a.2.2.2.1 b.Lo.Z)])) ee<|v_ (.ref 1 6 0 0) ee<|q1f 1 (.dat 6 [[i_ (min a.2.1 b.Lo.X),i_ (min a.2.2.1 b.Lo.Y),i_ (min a.2.2.2.1 b.Lo.Z),i_ a.2.2.2.2.1,i_ a.2.2.2.2.2.1,i_ a.2.2.2.2.2.2]]) ee<|q0<|qi<|v_ (.ref 1 6 0 3) ee<|v_ (.ref 1 6 0 3) ee<|v_ (di_ a.2.2.2.2.1) ee<|v_ (.ref 2 6 0 3) ee<|v_ (.ref 2 6 0 3) ee<|v_ (di_ b.Hi.X) ee<|qcc (r:=max a.2.2.2.2.1 b.Hi.X) ee ee (by simp only [q93];rfl)<|v_ (.ref 1 6 0 3) ee<|v_ (.ref 1 6 0 4) ee ?_
   refine v_ (di_ a.2.2.2.2.2.1) ee<|v_ (.ref 2 6 0 3) ee<|v_ (.ref 2 6 0 4) ee<|v_ (di_ b.Hi.Y) ee<|qcc (r:=max a.2.2.2.2.2.1 b.Hi.Y) ee ee (by simp only [q93];rfl)<|v_ (.ref 1 6 0 3) ee<|v_ (.ref 1 6 0 5) ee<|v_ (di_ a.2.2.2.2.2.2) ee<|v_ (.ref 2 6 0 3) ee<|v_ (.ref 2 6 0 5) ee<|v_ (di_ b.Hi.Z) ee<|qcc (r:=max a.2.2.2.2.2.2 b.Hi.Z) ee ee (by simp only [q93];rfl)<|v_ (.d (.agg [i_ (max a.2.2.2.2.1 b.Hi.X),i_ (max a.2.2.2.2.2.1 b.Hi.Y),i_ (max a.2.2.2.2.2.2 b.Hi.Z)])) ee<|v_ (.ref 1 6 0 3) ee<|q1f 1 (.dat 6 [[i_ (min a.2.1 b.Lo.X),i_ (min a.2.2.1 b.Lo.Y),i_ (min a.2.2.2.1 b.Lo.Z),i_ (max a.2.2.2.2.1 b.Hi.X),i_ (max a.2.2.2.2.2.1 b.Hi.Y),i_ (max a.2.2.2.2.2.2 b.Hi.Z)]]) ee<|nl_<|qw<|qi<|v_ (.d (i_ (w64 (a.1 + 1)))) ee<|mv_ ee<|nl_ ?_
   exact ⟨_,(Option.some.inj j).symm,wkA [(0,0),(1,1)] [] []⟩
  refine qv ?_
  refine ⟨_,(Option.some.inj j).symm,fun hm=>?_⟩
  subst hm
  exact ⟨_,ee,wkA [(0,0),(1,1)] [] []⟩
 intro c hb
 subst hb
 refine sr_<|v_ (.d (.agg [i_ c.1,i_ c.2.1,i_ c.2.2.1,i_ c.2.2.2.1,i_ c.2.2.2.2.1,i_ c.2.2.2.2.2])) ee<|q1f 0 (.dat 6 [[i_ c.1,i_ c.2.1,i_ c.2.2.1,i_ c.2.2.2.1,i_ c.2.2.2.2.1,i_ c.2.2.2.2.2]]) ee<|as_ ee<|nt_ ?_
 obtain rfl:=q9 g
 exact fR_ (.d (.tup [.agg [i_ c.1,i_ c.2.1,i_ c.2.2.1,i_ c.2.2.2.1,i_ c.2.2.2.2.1,i_ c.2.2.2.2.2],i_ 0])) ee
theorem qh8 (f : List q8) (g : Int) (r : List qb × Int) (c : q9k f g = some r) : Pure Tryz.prog tab 30 [.sl 6 (f.map qf),i_ g] (.tup [.sl 4 (r.1.map qd),i_ r.2]):=by
 unfold q9k at c
 refine qn Tryz.func30 ee (by kernel_rfl) (by kernel_rfl) ee<|sr_<|as_ ee<|as_ ee<|q0<|qa<|sr_<|mv_ ee ?_
 obtain ⟨n,x,c⟩:=q6 c
 refine pc_ (q90 f n x) ee<|as_ ee<|qs<|mv_ ee<|v_ (db_ (n != 0)) ee<|q0 ?_
 refine qg ee c (fun _ c=>?_) (fun _ c=>?_)
 ·refine sr_<|mv_ ee<|as_ ee<|as_ ee<|nt_ ?_
  obtain rfl:=q9 c
  exact finD (.inr ee) (v:=.d (.tup [.nilsl,i_ n])) ee ee (q7i (.cons (.nil _) (.cons (.refl _) .nil)))
 refine qh<|sr_<|as_ ee<|q0<|qa<|sr_<|mv_ ee<|ln_ ee<|mv_ ee<|q0 ?_
 obtain ⟨o,y,c⟩:=q6 c
 refine qp (fun k=>k = o) (fun (k : List qb)=>⟨[(7,.hs 0 4 0 k.length)],[(0,.dat 4 (k.map qd))],1⟩) (by simp) ?_ ?_
 ·refine qt (qb2 f g) (fun (h : Int × List qb)=>⟨[(1,di_ g),(7,.hs 0 4 0 h.2.length),(15,.d (.sl 6 (f.map qf))),(16,di_ (f.length : Int)),(17,di_ h.1)],[(0,.dat 4 (h.2.map qd))],1⟩) (0,[]) o y (wkA [] [] [0]) ?_
  intro h ad j
  unfold qb2 at j
  refine sr_<|v_ (.d (.bool (decide (h.1 < (f.length : Int))))) ee<|q0<|qa ?_
  refine qg ee j (fun _ j=>?_) (fun _ j=>?_)
  ·refine qh<|qa ?_
   obtain ⟨z,b,j⟩:=q6 j
   refine qp (fun l=>l = z) (fun (l : List qb)=>⟨[(1,di_ g),(7,.hs 0 4 0 l.length),(15,.d (.sl 6 (f.map qf))),(16,di_ (f.length : Int)),(17,di_ h.1)],[(0,.dat 4 (l.map qd))],1⟩) (by simp) ?_ ?_
   ·refine sr_ ?_
    obtain ⟨a,aa,b⟩:=q6 b
    refine ix_ (enc:=qf) aa ee<|v_ (.d (.agg [i_ a.Lo.X,i_ a.Lo.Y,i_ a.Lo.Z,i_ a.Hi.X,i_ a.Hi.Y,i_ a.Hi.Z])) ee<|q13 ee ee<|q1f 1 (.dat 6 [[i_ a.Lo.X,i_ a.Lo.Y,i_ a.Lo.Z,i_ a.Hi.X,i_ a.Hi.Y,i_ a.Hi.Z]]) ee<|qs<|v_ (.ref 1 6 0 0) ee<|v_ (.ref 1 6 0 2) ee<|v_ (di_ a.Lo.Z) ee<|mv_ ee<|v_ (.d (.bool (decide (a.Lo.Z≤g)))) ee ?_
    obtain ⟨ab,m,b⟩:=q6 b
    refine qq 7 (fun A st=>∃ (p q s t u w : V),st = A [(32,db_ ab),(31,w),(30,u),(29,t),(28,s),(27,q),(26,p)]) ?_ ?_
    ·refine qu ee ee m (fun m=>?_) (fun m=>?_)
     ·refine mv_ ee<|v_ (.ref 1 6 0 3) ee<|v_ (.ref 1 6 0 5) ee<|v_ (di_ a.Hi.Z) ee<|v_ (.d (.bool (decide (g < a.Hi.Z)))) ee<|v_ (.d (.bool (decide (g < a.Hi.Z)))) ee<|q0 ?_
      obtain rfl:=q9 m
      exact ⟨_,_,_,_,_,_,ee⟩
     refine q7 ee<|q7 ee<|q7 ee<|q7 ee<|q7 ee<|v_ (db_ false) ee<|q0 ?_
     obtain rfl:=q9 m
     exact ⟨_,_,_,_,_,_,ee⟩
    rintro _ ⟨p,q,s,t,u,w,rfl⟩
    refine q0 ?_
    refine qg ee b (fun _ b=>?_) (fun _ b=>?_)
    ·refine qi<|mv_ ee<|v_ (.ref 1 6 0 0) ee<|v_ (.ref 1 6 0 0) ee<|v_ (di_ a.Lo.X) ee<|v_ (.ref 1 6 0 0) ee<|v_ (.ref 1 6 0 1) ee<|v_ (di_ a.Lo.Y) ee<|v_ (.ref 1 6 0 3) ee<|v_ (.ref 1 6 0 3) ee<|v_ (di_ a.Hi.X) ee<|v_ (.ref 1 6 0 3) ee<|v_ (.ref 1 6 0 4) ee<|v_ (di_ a.Hi.Y) ee<|v_ (.d (.agg [i_ a.Lo.X,i_ a.Lo.Y,i_ a.Hi.X,i_ a.Hi.Y])) ee<|q20 (.hs 2 4 0 [({X0:=a.Lo.X,Y0:=a.Lo.Y,X1:=a.Hi.X,Y1:=a.Hi.Y} : qb)].length) (.dat 4 ([({X0:=a.Lo.X,Y0:=a.Lo.Y,X1:=a.Hi.X,Y1:=a.Hi.Y} : qb)].map qd)) ee ?_
     obtain ⟨ae,ac,b⟩:=q6 b
     refine q7c (xs:=h.2) (ys:=[({X0:=a.Lo.X,Y0:=a.Lo.Y,X1:=a.Hi.X,Y1:=a.Hi.Y} : qb)]) (enc:=qd) (.hs 2 4 0 [({X0:=a.Lo.X,Y0:=a.Lo.Y,X1:=a.Hi.X,Y1:=a.Hi.Y} : qb)].length) ac ee ee ee ee ee ee ee (q4w ee ee) ee ee ee ee<|as_ ee<|nl_ ?_
     obtain rfl:=q9 b
     exact ⟨_,ee,wkA [(0,3)] [] []⟩
    refine qh<|qz ?_
    obtain rfl:=q9 b
    exact ⟨_,ee,wkA [(0,0)] [] []⟩
   intro l hb
   subst hb
   refine qi<|v_ (.d (i_ (w64 (h.1 + 1)))) ee<|mv_ ee<|nl_ ?_
   exact ⟨_,(Option.some.inj j).symm,wkA [(0,0)] [] []⟩
  refine qv ?_
  refine ⟨_,(Option.some.inj j).symm,fun hm=>?_⟩
  subst hm
  exact ⟨_,ee,wkA [(0,0)] [] []⟩
 intro k hb
 subst hb
 refine sr_<|mv_ ee<|as_ ee<|as_ ee<|nt_ ?_
 obtain rfl:=q9 c
 exact finD (.inr ee) (v:=.tup [.hs 0 4 0 k.length,di_ 0]) ee (qpv (qcv (qc1 ee ee) (qcv ee ee))) (.refl _)
theorem qoq (a : q8) (b : q8) (r : Int) (c : qbg a b = some r) : Pure Tryz.prog tab 69 [.agg [i_ a.Lo.X,i_ a.Lo.Y,i_ a.Lo.Z,i_ a.Hi.X,i_ a.Hi.Y,i_ a.Hi.Z],.agg [i_ b.Lo.X,i_ b.Lo.Y,i_ b.Lo.Z,i_ b.Hi.X,i_ b.Hi.Y,i_ b.Hi.Z]] (i_ r):=by
 unfold qbg at c
 refine qn Tryz.func69 ee (by kernel_rfl) (by kernel_rfl) ee<|sr_<|q20 (.ref 0 6 0 0) (.dat 6 [[i_ a.Lo.X,i_ a.Lo.Y,i_ a.Lo.Z,i_ a.Hi.X,i_ a.Hi.Y,i_ a.Hi.Z]]) ee<|q20 (.ref 1 6 0 0) (.dat 6 [[i_ b.Lo.X,i_ b.Lo.Y,i_ b.Lo.Z,i_ b.Hi.X,i_ b.Hi.Y,i_ b.Hi.Z]]) ee<|as_ ee<|qs<|v_ (.ref 0 6 0 3) ee<|v_ (.ref 0 6 0 3) ee<|v_ (di_ a.Hi.X) ee<|v_ (.ref 1 6 0 3) ee<|v_ (.ref 1 6 0 3) ee<|v_ (di_ b.Hi.X) ee<|qcd (r:=min a.Hi.X b.Hi.X) ee ee (by simp only [q94];rfl)<|v_ (.ref 0 6 0 0) ee<|v_ (.ref 0 6 0 0) ee<|v_ (di_ a.Lo.X) ee<|v_ (.ref 1 6 0 0) ee<|v_ (.ref 1 6 0 0) ee<|v_ (di_ b.Lo.X) ee<|qcc (r:=max a.Lo.X b.Lo.X) ee ee (by simp only [q93];rfl)<|v_ (.d (i_ (w64 ((min a.Hi.X b.Hi.X) - (max a.Lo.X b.Lo.X))))) ee<|as_ ee<|qs<|v_ (.ref 0 6 0 3) ee<|v_ (.ref 0 6 0 4) ee<|v_ (di_ a.Hi.Y) ee<|v_ (.ref 1 6 0 3) ee<|v_ (.ref 1 6 0 4) ee<|v_ (di_ b.Hi.Y) ee<|qcd (r:=min a.Hi.Y b.Hi.Y) ee ee (by simp only [q94];rfl)<|v_ (.ref 0 6 0 0) ee<|v_ (.ref 0 6 0 1) ee<|v_ (di_ a.Lo.Y) ee<|v_ (.ref 1 6 0 0) ee<|v_ (.ref 1 6 0 1) ee<|v_ (di_ b.Lo.Y) ee<|qcc (r:=max a.Lo.Y b.Lo.Y) ee ee (by simp only [q93];rfl)<|v_ (.d (i_ (w64 ((min a.Hi.Y b.Hi.Y) - (max a.Lo.Y b.Lo.Y))))) ee<|as_ ee<|qs ?_
 refine v_ (.ref 0 6 0 3) ee<|v_ (.ref 0 6 0 5) ee<|v_ (di_ a.Hi.Z) ee<|v_ (.ref 1 6 0 3) ee<|v_ (.ref 1 6 0 5) ee<|v_ (di_ b.Hi.Z) ee<|qcd (r:=min a.Hi.Z b.Hi.Z) ee ee (by simp only [q94];rfl)<|v_ (.ref 0 6 0 0) ee<|v_ (.ref 0 6 0 2) ee<|v_ (di_ a.Lo.Z) ee<|v_ (.ref 1 6 0 0) ee<|v_ (.ref 1 6 0 2) ee<|v_ (di_ b.Lo.Z) ee<|qcc (r:=max a.Lo.Z b.Lo.Z) ee ee (by simp only [q93];rfl)<|v_ (.d (i_ (w64 ((min a.Hi.Z b.Hi.Z) - (max a.Lo.Z b.Lo.Z))))) ee<|as_ ee<|q0<|qa<|ql<|sr_<|mv_ ee<|v_ (.d (.bool ((w64 ((min a.Hi.X b.Hi.X) - (max a.Lo.X b.Lo.X))) == 0))) ee ?_
 obtain ⟨af,f,c⟩:=q6 c
 refine qq 4 (fun A st=>∃ (m n o : V),st = A [(59,db_ af),(58,o),(57,n),(56,m)]) ?_ ?_
 ·refine qu ee ee f (fun f=>?_) (fun f=>?_)
  ·refine mv_ ee<|v_ (.d (.bool (decide ((w64 ((min a.Hi.Y b.Hi.Y) - (max a.Lo.Y b.Lo.Y))) > 0)))) ee<|v_ (.d (.bool (decide ((w64 ((min a.Hi.Y b.Hi.Y) - (max a.Lo.Y b.Lo.Y))) > 0)))) ee<|q0 ?_
   obtain rfl:=q9 f
   exact ⟨_,_,_,ee⟩
  refine q7 ee<|q7 ee<|v_ (db_ false) ee<|q0 ?_
  obtain rfl:=q9 f
  exact ⟨_,_,_,ee⟩
 rintro _ ⟨m,n,o,rfl⟩
 obtain ⟨ag,g,c⟩:=q6 c
 refine qq 4 (fun A st=>∃ (p q s : V),st = A [(63,db_ ag),(62,s),(61,q),(60,p)]) ?_ ?_
 ·refine qu ee ee g (fun g=>?_) (fun g=>?_)
  ·refine mv_ ee<|v_ (.d (.bool (decide ((w64 ((min a.Hi.Z b.Hi.Z) - (max a.Lo.Z b.Lo.Z))) > 0)))) ee<|v_ (.d (.bool (decide ((w64 ((min a.Hi.Z b.Hi.Z) - (max a.Lo.Z b.Lo.Z))) > 0)))) ee<|q0 ?_
   obtain rfl:=q9 g
   exact ⟨_,_,_,ee⟩
  refine q7 ee<|q7 ee<|v_ (db_ false) ee<|q0 ?_
  obtain rfl:=q9 g
  exact ⟨_,_,_,ee⟩
 rintro _ ⟨p,q,s,rfl⟩
 refine as_ ee<|q0 ?_
 refine qg ee c (fun _ c=>?_) (fun _ c=>?_)
 ·refine sr_<|mv_ ee<|mv_ ee<|v_ (.d (i_ (w64 ((w64 ((min a.Hi.Y b.Hi.Y) - (max a.Lo.Y b.Lo.Y))) * (w64 ((min a.Hi.Z b.Hi.Z) - (max a.Lo.Z b.Lo.Z))))))) ee<|as_ ee<|nt_ ?_
  obtain rfl:=q9 c
  exact fR_ (.d (i_ (w64 ((w64 ((min a.Hi.Y b.Hi.Y) - (max a.Lo.Y b.Lo.Y))) * (w64 ((min a.Hi.Z b.Hi.Z) - (max a.Lo.Z b.Lo.Z))))))) ee
 refine sr_<|mv_ ee<|v_ (.d (.bool (decide ((w64 ((min a.Hi.X b.Hi.X) - (max a.Lo.X b.Lo.X))) > 0)))) ee ?_
 obtain ⟨ah,h,c⟩:=q6 c
 refine qq 4 (fun A st=>∃ (t u v : V),st = A [(73,db_ ah),(72,v),(71,u),(70,t)]) ?_ ?_
 ·refine qu ee ee h (fun h=>?_) (fun h=>?_)
  ·refine mv_ ee<|v_ (.d (.bool ((w64 ((min a.Hi.Y b.Hi.Y) - (max a.Lo.Y b.Lo.Y))) == 0))) ee<|v_ (.d (.bool ((w64 ((min a.Hi.Y b.Hi.Y) - (max a.Lo.Y b.Lo.Y))) == 0))) ee<|q0 ?_
   obtain rfl:=q9 h
   exact ⟨_,_,_,ee⟩
  refine q7 ee<|q7 ee<|v_ (db_ false) ee<|q0 ?_
  obtain rfl:=q9 h
  exact ⟨_,_,_,ee⟩
 rintro _ ⟨t,u,v,rfl⟩
 obtain ⟨ai,j,c⟩:=q6 c
 refine qq 4 (fun A st=>∃ (w x y : V),st = A [(77,db_ ai),(76,y),(75,x),(74,w)]) ?_ ?_
 ·refine qu ee ee j (fun j=>?_) (fun j=>?_)
  ·refine mv_ ee<|v_ (.d (.bool (decide ((w64 ((min a.Hi.Z b.Hi.Z) - (max a.Lo.Z b.Lo.Z))) > 0)))) ee<|v_ (.d (.bool (decide ((w64 ((min a.Hi.Z b.Hi.Z) - (max a.Lo.Z b.Lo.Z))) > 0)))) ee<|q0 ?_
   obtain rfl:=q9 j
   exact ⟨_,_,_,ee⟩
  refine q7 ee<|q7 ee<|v_ (db_ false) ee<|q0 ?_
  obtain rfl:=q9 j
  exact ⟨_,_,_,ee⟩
 rintro _ ⟨w,x,y,rfl⟩
 refine as_ ee<|q0 ?_
 refine qg ee c (fun _ c=>?_) (fun _ c=>?_)
 ·refine sr_<|mv_ ee<|mv_ ee<|v_ (.d (i_ (w64 ((w64 ((min a.Hi.X b.Hi.X) - (max a.Lo.X b.Lo.X))) * (w64 ((min a.Hi.Z b.Hi.Z) - (max a.Lo.Z b.Lo.Z))))))) ee<|as_ ee<|nt_ ?_
  obtain rfl:=q9 c
  exact fR_ (.d (i_ (w64 ((w64 ((min a.Hi.X b.Hi.X) - (max a.Lo.X b.Lo.X))) * (w64 ((min a.Hi.Z b.Hi.Z) - (max a.Lo.Z b.Lo.Z))))))) ee
 refine sr_<|mv_ ee<|v_ (.d (.bool (decide ((w64 ((min a.Hi.X b.Hi.X) - (max a.Lo.X b.Lo.X))) > 0)))) ee ?_
 obtain ⟨aj,k,c⟩:=q6 c
 refine qq 4 (fun A st=>∃ (z aa ab : V),st = A [(87,db_ aj),(86,ab),(85,aa),(84,z)]) ?_ ?_
 ·refine qu ee ee k (fun k=>?_) (fun k=>?_)
  ·refine mv_ ee<|v_ (.d (.bool (decide ((w64 ((min a.Hi.Y b.Hi.Y) - (max a.Lo.Y b.Lo.Y))) > 0)))) ee<|v_ (.d (.bool (decide ((w64 ((min a.Hi.Y b.Hi.Y) - (max a.Lo.Y b.Lo.Y))) > 0)))) ee<|q0 ?_
   obtain rfl:=q9 k
   exact ⟨_,_,_,ee⟩
  refine q7 ee<|q7 ee<|v_ (db_ false) ee<|q0 ?_
  obtain rfl:=q9 k
  exact ⟨_,_,_,ee⟩
 rintro _ ⟨z,aa,ab,rfl⟩
 obtain ⟨ak,l,c⟩:=q6 c
 refine qq 4 (fun A st=>∃ (ac ad ae : V),st = A [(91,db_ ak),(90,ae),(89,ad),(88,ac)]) ?_ ?_
 ·refine qu ee ee l (fun l=>?_) (fun l=>?_)
  ·refine mv_ ee<|v_ (.d (.bool ((w64 ((min a.Hi.Z b.Hi.Z) - (max a.Lo.Z b.Lo.Z))) == 0))) ee<|v_ (.d (.bool ((w64 ((min a.Hi.Z b.Hi.Z) - (max a.Lo.Z b.Lo.Z))) == 0))) ee<|q0 ?_
   obtain rfl:=q9 l
   exact ⟨_,_,_,ee⟩
  refine q7 ee<|q7 ee<|v_ (db_ false) ee<|q0 ?_
  obtain rfl:=q9 l
  exact ⟨_,_,_,ee⟩
 rintro _ ⟨ac,ad,ae,rfl⟩
 refine as_ ee<|q0 ?_
 refine qg ee c (fun _ c=>?_) (fun _ c=>?_)
 ·refine sr_<|mv_ ee<|mv_ ee<|v_ (.d (i_ (w64 ((w64 ((min a.Hi.X b.Hi.X) - (max a.Lo.X b.Lo.X))) * (w64 ((min a.Hi.Y b.Hi.Y) - (max a.Lo.Y b.Lo.Y))))))) ee<|as_ ee<|nt_ ?_
  obtain rfl:=q9 c
  exact fR_ (.d (i_ (w64 ((w64 ((min a.Hi.X b.Hi.X) - (max a.Lo.X b.Lo.X))) * (w64 ((min a.Hi.Y b.Hi.Y) - (max a.Lo.Y b.Lo.Y))))))) ee
 refine qh<|qz<|qw<|sr_<|as_ ee<|nt_ ?_
 obtain rfl:=q9 c
 exact fR_ (di_ 0) ee
theorem qoo (f : List q8) (r : Int × Int) (g : qbf f = some r) : Pure Tryz.prog tab 32 [.sl 6 (f.map qf)] (.tup [i_ r.1,i_ r.2]):=by
 unfold qbf at g
 refine qn Tryz.func32 ee (by kernel_rfl) (by kernel_rfl) ee<|sr_<|as_ ee<|as_ ee<|q0<|qa<|sr_<|mv_ ee ?_
 obtain ⟨q,u,g⟩:=q6 g
 refine pc_ (q90 f q u) ee<|as_ ee<|qs<|mv_ ee<|v_ (db_ (q != 0)) ee<|q0 ?_
 refine qg ee g (fun _ g=>?_) (fun _ g=>?_)
 ·refine sr_<|mv_ ee<|as_ ee<|as_ ee<|nt_ ?_
  obtain rfl:=q9 g
  exact fR_ (.d (.tup [i_ 0,i_ q])) ee
 refine qh<|sr_<|as_ ee<|q0<|qa<|sr_<|mv_ ee<|ln_ ee<|mv_ ee<|q0 ?_
 obtain ⟨t,v,g⟩:=q6 g
 refine qp (fun n=>n = t) (fun (n : Int)=>⟨[(5,di_ n)],[],0⟩) (by simp) ?_ ?_
 ·refine qt (q6v f) (fun (j : Int × Int)=>⟨[(0,.d (.sl 6 (f.map qf))),(5,di_ j.1),(18,.d (.sl 6 (f.map qf))),(19,di_ (f.length : Int)),(20,di_ j.2)],[],0⟩) (0,0) t v (wkA [] [] []) ?_
  intro j ae l
  unfold q6v at l
  refine sr_<|v_ (.d (.bool (decide (j.2 < (f.length : Int))))) ee<|q0<|qa ?_
  refine qg ee l (fun _ l=>?_) (fun _ l=>?_)
  ·refine qh<|qa ?_
   obtain ⟨w,k,l⟩:=q6 l
   refine qp (fun o=>o = w) (fun (o : Int)=>⟨[(0,.d (.sl 6 (f.map qf))),(5,di_ o),(18,.d (.sl 6 (f.map qf))),(19,di_ (f.length : Int)),(20,di_ j.2)],[],0⟩) (by simp) ?_ ?_
   ·refine sr_<|mv_ ee ?_
    obtain ⟨b,x,k⟩:=q6 k
    refine ix_ (enc:=qf) x ee<|v_ (.d (.agg [i_ b.Lo.X,i_ b.Lo.Y,i_ b.Lo.Z,i_ b.Hi.X,i_ b.Hi.Y,i_ b.Hi.Z])) ee<|q13 ee ee<|as_ ee<|q1f 0 (.dat 6 [[i_ b.Lo.X,i_ b.Lo.Y,i_ b.Lo.Z,i_ b.Hi.X,i_ b.Hi.Y,i_ b.Hi.Z]]) ee<|qs<|v_ (.d (.agg [i_ b.Lo.X,i_ b.Lo.Y,i_ b.Lo.Z,i_ b.Hi.X,i_ b.Hi.Y,i_ b.Hi.Z])) ee ?_
    obtain ⟨a,y,k⟩:=q6 k
    refine pc_ (qk6 b a y) ee<|mv_ ee<|v_ (di_ a.1) ee<|v_ (di_ a.2.1) ee<|v_ (di_ a.2.2) ee<|as_ ee<|as_ ee<|as_ ee<|qs<|mv_ ee<|mv_ ee<|mv_ ee<|v_ (.d (i_ (w64 (a.1 * a.2.1)))) ee<|mv_ ee<|mv_ ee<|v_ (.d (i_ (w64 (a.1 * a.2.2)))) ee<|v_ (.d (i_ (w64 ((w64 (a.1 * a.2.1)) + (w64 (a.1 * a.2.2)))))) ee<|mv_ ee<|mv_ ee<|v_ (.d (i_ (w64 (a.2.1 * a.2.2)))) ee<|v_ (.d (i_ (w64 ((w64 ((w64 (a.1 * a.2.1)) + (w64 (a.1 * a.2.2)))) + (w64 (a.2.1 * a.2.2)))))) ee<|v_ (.d (i_ (w64 (2 * (w64 ((w64 ((w64 (a.1 * a.2.1)) + (w64 (a.1 * a.2.2)))) + (w64 (a.2.1 * a.2.2)))))))) ee<|v_ (.d (i_ (w64 (j.1 + (w64 (2 * (w64 ((w64 ((w64 (a.1 * a.2.1)) + (w64 (a.1 * a.2.2)))) + (w64 (a.2.1 * a.2.2)))))))))) ee<|as_ ee<|qs<|mv_ ee<|mv_ ee ?_
    obtain ⟨p,z,k⟩:=q6 k
    refine q148 (enc:=qf) z ee ee ee ee ee (fun _=>rfl) (qgg ee)<|ln_ ee<|mv_ ee<|q0 ?_
    obtain ⟨aa,ab,k⟩:=q6 k
    refine ql<|qt (q6w p b) (fun (m : Int × Int)=>⟨[(0,.d (.sl 6 (f.map qf))),(5,di_ m.1),(7,.ref 0 6 0 0),(18,.d (.sl 6 (f.map qf))),(19,di_ (f.length : Int)),(20,di_ j.2),(47,.d (.sl 6 (p.map qf))),(48,di_ (p.length : Int)),(49,di_ m.2)],[(0,.dat 6 [[i_ b.Lo.X,i_ b.Lo.Y,i_ b.Lo.Z,i_ b.Hi.X,i_ b.Hi.Y,i_ b.Hi.Z]])],1⟩) (w64 (j.1 + (w64 (2 * (w64 ((w64 ((w64 (a.1 * a.2.1)) + (w64 (a.1 * a.2.2)))) + (w64 (a.2.1 * a.2.2))))))),0) aa ab (wkA [(0,0)] [] []) ?_
    intro m af h
    unfold q6w at h
    refine sr_<|v_ (.d (.bool (decide (m.2 < (p.length : Int))))) ee<|q0<|qa ?_
    refine qg ee h (fun _ h=>?_) (fun _ h=>?_)
    ·refine qh<|qa<|ql<|sr_ ?_
     obtain ⟨c,ac,h⟩:=q6 h
     refine ix_ (enc:=qf) ac ee<|v_ (.d (.agg [i_ c.Lo.X,i_ c.Lo.Y,i_ c.Lo.Z,i_ c.Hi.X,i_ c.Hi.Y,i_ c.Hi.Z])) ee<|q13 ee ee<|q1f 1 (.dat 6 [[i_ c.Lo.X,i_ c.Lo.Y,i_ c.Lo.Z,i_ c.Hi.X,i_ c.Hi.Y,i_ c.Hi.Z]]) ee<|q0<|qi<|mv_ ee<|v_ (.d (.agg [i_ b.Lo.X,i_ b.Lo.Y,i_ b.Lo.Z,i_ b.Hi.X,i_ b.Hi.Y,i_ b.Hi.Z])) ee<|v_ (.d (.agg [i_ c.Lo.X,i_ c.Lo.Y,i_ c.Lo.Z,i_ c.Hi.X,i_ c.Hi.Y,i_ c.Hi.Z])) ee ?_
     obtain ⟨s,ad,h⟩:=q6 h
     refine pc_ (qoq b c s ad) ee<|v_ (.d (i_ (w64 (2 * s)))) ee<|v_ (.d (i_ (w64 (m.1 - (w64 (2 * s)))))) ee<|as_ ee<|nl_<|qw<|qi<|v_ (.d (i_ (w64 (m.2 + 1)))) ee<|mv_ ee<|nl_ ?_
     exact ⟨_,(Option.some.inj h).symm,wkA [(0,0)] [] []⟩
    refine qv ?_
    refine ⟨_,(Option.some.inj h).symm,fun hm=>?_⟩
    subst hm
    obtain rfl:=q9 k
    exact ⟨_,ee,wkA [] [] []⟩
   intro o hb
   subst hb
   refine qi<|v_ (.d (i_ (w64 (j.2 + 1)))) ee<|mv_ ee<|nl_ ?_
   exact ⟨_,(Option.some.inj l).symm,wkA [] [] []⟩
  refine qv ?_
  refine ⟨_,(Option.some.inj l).symm,fun hm=>?_⟩
  subst hm
  exact ⟨_,ee,wkA [] [] []⟩
 intro n hb
 subst hb
 refine sr_<|mv_ ee<|as_ ee<|as_ ee<|nt_ ?_
 obtain rfl:=q9 g
 exact fR_ (.d (.tup [i_ n,i_ 0])) ee
theorem qfz (a : qk) (f : Int) (r : Bool) (c : qav a f = some r) : Pure Tryz.prog tab 98 [.agg [i_ a.X,i_ a.Y,i_ a.Z],i_ f] (.bool r):=by
 unfold qav at c
 refine qn Tryz.func98 ee (by kernel_rfl) (by kernel_rfl) ee<|sr_<|q20 (.ref 0 3 0 0) (.dat 3 [[i_ a.X,i_ a.Y,i_ a.Z]]) ee<|as_ ee<|qs<|v_ (.ref 0 3 0 0) ee<|v_ (di_ a.X) ee<|v_ (.ref 0 3 0 1) ee<|v_ (di_ a.Y) ee<|v_ (.ref 0 3 0 2) ee<|v_ (di_ a.Z) ee<|qcd (r:=min (min a.X a.Y) a.Z) ee ee (by simp only [q94];rfl)<|mv_ ee<|v_ (.d (.bool (decide ((min (min a.X a.Y) a.Z) ≥ f)))) ee ?_
 obtain ⟨g,b,c⟩:=q6 c
 refine qq 10 (fun A st=>∃ (h j k l m n o p q : V),st = A [(23,db_ g),(22,q),(21,p),(20,o),(19,n),(18,m),(17,l),(16,k),(15,j),(14,h)]) ?_ ?_
 ·refine qu ee ee b (fun b=>?_) (fun b=>?_)
  ·refine v_ (.ref 0 3 0 0) ee<|v_ (di_ a.X) ee<|v_ (.ref 0 3 0 1) ee<|v_ (di_ a.Y) ee<|v_ (.ref 0 3 0 2) ee<|v_ (di_ a.Z) ee<|qcc (r:=max (max a.X a.Y) a.Z) ee ee (by simp only [q93];rfl)<|v_ (.d (.bool (decide ((max (max a.X a.Y) a.Z)≤1000000)))) ee<|v_ (.d (.bool (decide ((max (max a.X a.Y) a.Z)≤1000000)))) ee<|q0 ?_
   obtain rfl:=q9 b
   exact ⟨_,_,_,_,_,_,_,_,_,ee⟩
  refine q7 ee<|q7 ee<|q7 ee<|q7 ee<|q7 ee<|q7 ee<|q7 ee<|q7 ee<|v_ (db_ false) ee<|q0 ?_
  obtain rfl:=q9 b
  exact ⟨_,_,_,_,_,_,_,_,_,ee⟩
 rintro _ ⟨h,j,k,l,m,n,o,p,q,rfl⟩
 refine as_ ee<|nt_ ?_
 obtain rfl:=q9 c
 exact fR_ (db_ g) ee
theorem qie (a : q4l) (r : Int) (b : qbi a = some r) : Pure Tryz.prog tab 71 [.agg [.int .u8 a.Turn,i_ a.At.X,i_ a.At.Y,i_ a.At.Z]] (i_ r):=by
 unfold qbi at b
 refine qn Tryz.func71 ee (by kernel_rfl) (by kernel_rfl) ee<|sr_<|q20 (.ref 0 4 0 0) (.dat 4 [[.int .u8 a.Turn,i_ a.At.X,i_ a.At.Y,i_ a.At.Z]]) ee<|as_ ee<|q0<|qa<|sr_<|v_ (.ref 0 4 0 0) ee<|v_ (.d (.int .u8 a.Turn)) ee<|v_ (.d (.bool (decide (a.Turn ≥ 24)))) ee ?_
 obtain ⟨m,c,b⟩:=q6 b
 refine qq 6 (fun A st=>∃ (g h j k l : V),st = A [(11,db_ m),(10,l),(9,k),(8,j),(7,h),(6,g)]) ?_ ?_
 ·refine qu ee ee c (fun c=>?_) (fun c=>?_)
  ·refine q7 ee<|q7 ee<|q7 ee<|q7 ee<|v_ (db_ true) ee<|q0 ?_
   obtain rfl:=q9 c
   exact ⟨_,_,_,_,_,ee⟩
  refine v_ (.ref 0 4 0 1) ee<|v_ (.d (.agg [i_ a.At.X,i_ a.At.Y,i_ a.At.Z])) ee ?_
  obtain ⟨f,n,c⟩:=q6 c
  refine pc_ (qfz a.At (-1000000) f n) ee<|v_ (db_ (!f)) ee<|v_ (db_ (!f)) ee<|q0 ?_
  obtain rfl:=q9 c
  exact ⟨_,_,_,_,_,ee⟩
 rintro _ ⟨g,h,j,k,l,rfl⟩
 refine q0 ?_
 refine qg ee b (fun _ b=>?_) (fun _ b=>?_)
 ·refine sr_<|as_ ee<|nt_ ?_
  obtain rfl:=q9 b
  exact fR_ (di_ 8) ee
 refine qh<|sr_<|as_ ee<|nt_ ?_
 obtain rfl:=q9 b
 exact fR_ (di_ 0) ee
theorem qfp (a : Int) (r : qk) (b : qby a = some r) : Pure Tryz.prog tab 124 [.int .u8 a] (.agg [i_ r.X,i_ r.Y,i_ r.Z]):=by
 unfold qby at b
 refine qn Tryz.func124 ee (by kernel_rfl) (by kernel_rfl) ee<|sr_<|q13 ee ee<|qs<|mv_ ee<|v_ (.d (.int .u8 (Int.tmod a 2))) ee<|v_ (.d (i_ (w64 (Int.tmod a 2)))) ee<|v_ (.d (i_ (w64 (2 * (w64 (Int.tmod a 2)))))) ee<|v_ (.d (i_ (w64 (1 - (w64 (2 * (w64 (Int.tmod a 2)))))))) ee<|as_ ee<|q0<|qa<|sr_<|mv_ ee<|v_ (.d (.int .u8 (IntKind.wrap .u8 (Int.tdiv a 2)))) ee<|q0<|ql<|sr_<|v_ (.d (.bool ((IntKind.wrap .u8 (Int.tdiv a 2)) == 0))) ee<|as_ ee<|q0 ?_
 refine qg ee b (fun _ b=>?_) (fun _ b=>?_)
 ·refine sr_<|mv_ ee<|v_ (.d (.agg [i_ (w64 (1 - (w64 (2 * (w64 (Int.tmod a 2)))))),i_ 0,i_ 0])) ee<|q1f 0 (.dat 3 [[i_ (w64 (1 - (w64 (2 * (w64 (Int.tmod a 2)))))),i_ 0,i_ 0]]) ee<|nt_ ?_
  obtain rfl:=q9 b
  exact fR_ (.d (.agg [i_ (w64 (1 - (w64 (2 * (w64 (Int.tmod a 2)))))),i_ 0,i_ 0])) ee
 refine sr_<|v_ (.d (.bool ((IntKind.wrap .u8 (Int.tdiv a 2)) == 1))) ee<|as_ ee<|q0 ?_
 refine qg ee b (fun _ b=>?_) (fun _ b=>?_)
 ·refine sr_<|mv_ ee<|v_ (.d (.agg [i_ 0,i_ (w64 (1 - (w64 (2 * (w64 (Int.tmod a 2)))))),i_ 0])) ee<|q1f 0 (.dat 3 [[i_ 0,i_ (w64 (1 - (w64 (2 * (w64 (Int.tmod a 2)))))),i_ 0]]) ee<|nt_ ?_
  obtain rfl:=q9 b
  exact fR_ (.d (.agg [i_ 0,i_ (w64 (1 - (w64 (2 * (w64 (Int.tmod a 2)))))),i_ 0])) ee
 refine qh<|qz<|qw<|sr_<|mv_ ee<|v_ (.d (.agg [i_ 0,i_ 0,i_ (w64 (1 - (w64 (2 * (w64 (Int.tmod a 2))))))])) ee<|q1f 0 (.dat 3 [[i_ 0,i_ 0,i_ (w64 (1 - (w64 (2 * (w64 (Int.tmod a 2))))))]]) ee<|nt_ ?_
 obtain rfl:=q9 b
 exact fR_ (.d (.agg [i_ 0,i_ 0,i_ (w64 (1 - (w64 (2 * (w64 (Int.tmod a 2))))))])) ee
theorem qq5 (a : qk) (b : qk) (r : qk) (c : qhz a b = some r) : Pure Tryz.prog tab 125 [.agg [i_ a.X,i_ a.Y,i_ a.Z],.agg [i_ b.X,i_ b.Y,i_ b.Z]] (.agg [i_ r.X,i_ r.Y,i_ r.Z]):=by
 unfold qhz at c
 refine qn Tryz.func125 ee (by kernel_rfl) (by kernel_rfl) ee<|sr_<|q20 (.ref 0 3 0 0) (.dat 3 [[i_ a.X,i_ a.Y,i_ a.Z]]) ee<|q20 (.ref 1 3 0 0) (.dat 3 [[i_ b.X,i_ b.Y,i_ b.Z]]) ee<|q13 ee ee<|qs<|v_ (.ref 0 3 0 1) ee<|v_ (di_ a.Y) ee<|v_ (.ref 1 3 0 2) ee<|v_ (di_ b.Z) ee<|v_ (.d (i_ (w64 (a.Y * b.Z)))) ee<|v_ (.ref 0 3 0 2) ee<|v_ (di_ a.Z) ee<|v_ (.ref 1 3 0 1) ee<|v_ (di_ b.Y) ee<|v_ (.d (i_ (w64 (a.Z * b.Y)))) ee<|v_ (.d (i_ (w64 ((w64 (a.Y * b.Z)) - (w64 (a.Z * b.Y)))))) ee<|v_ (.ref 0 3 0 2) ee<|v_ (di_ a.Z) ee<|v_ (.ref 1 3 0 0) ee<|v_ (di_ b.X) ee<|v_ (.d (i_ (w64 (a.Z * b.X)))) ee<|v_ (.ref 0 3 0 0) ee<|v_ (di_ a.X) ee<|v_ (.ref 1 3 0 2) ee<|v_ (di_ b.Z) ee<|v_ (.d (i_ (w64 (a.X * b.Z)))) ee<|v_ (.d (i_ (w64 ((w64 (a.Z * b.X)) - (w64 (a.X * b.Z)))))) ee<|v_ (.ref 0 3 0 0) ee<|v_ (di_ a.X) ee<|v_ (.ref 1 3 0 1) ee<|v_ (di_ b.Y) ee<|v_ (.d (i_ (w64 (a.X * b.Y)))) ee<|v_ (.ref 0 3 0 1) ee<|v_ (di_ a.Y) ee<|v_ (.ref 1 3 0 0) ee<|v_ (di_ b.X) ee<|v_ (.d (i_ (w64 (a.Y * b.X)))) ee<|v_ (.d (i_ (w64 ((w64 (a.X * b.Y)) - (w64 (a.Y * b.X)))))) ee<|v_ (.d (.agg [i_ (w64 ((w64 (a.Y * b.Z)) - (w64 (a.Z * b.Y)))),i_ (w64 ((w64 (a.Z * b.X)) - (w64 (a.X * b.Z)))),i_ (w64 ((w64 (a.X * b.Y)) - (w64 (a.Y * b.X))))])) ee ?_
 refine q1f 2 (.dat 3 [[i_ (w64 ((w64 (a.Y * b.Z)) - (w64 (a.Z * b.Y)))),i_ (w64 ((w64 (a.Z * b.X)) - (w64 (a.X * b.Z)))),i_ (w64 ((w64 (a.X * b.Y)) - (w64 (a.Y * b.X))))]]) ee<|nt_ ?_
 obtain rfl:=q9 c
 exact fR_ (.d (.agg [i_ (w64 ((w64 (a.Y * b.Z)) - (w64 (a.Z * b.Y)))),i_ (w64 ((w64 (a.Z * b.X)) - (w64 (a.X * b.Z)))),i_ (w64 ((w64 (a.X * b.Y)) - (w64 (a.Y * b.X))))])) ee
theorem qs9 (c : Int) (r : (qk × qk × qk)) (f : qef c = some r) : Pure Tryz.prog tab 99 [.int .u8 c] (.agg [i_ r.1.X,i_ r.1.Y,i_ r.1.Z,i_ r.2.1.X,i_ r.2.1.Y,i_ r.2.1.Z,i_ r.2.2.X,i_ r.2.2.Y,i_ r.2.2.Z]):=by
 unfold qef at f
 refine qn Tryz.func99 ee (by kernel_rfl) (by kernel_rfl) ee<|sr_<|q13 ee ee<|qs<|mv_ ee<|v_ (.d (.int .u8 (IntKind.wrap .u8 (Int.tdiv c 4)))) ee<|as_ ee<|qs<|mv_ ee<|v_ (.d (.int .u8 (Int.tmod c 4))) ee<|as_ ee<|q0<|qa<|sr_<|mv_ ee<|mv_ ee<|v_ (.d (.int .u8 (IntKind.wrap .u8 (Int.tdiv (IntKind.wrap .u8 (Int.tdiv c 4)) 2)))) ee<|v_ (.d (.int .u8 (IntKind.wrap .u8 ((IntKind.wrap .u8 (Int.tdiv (IntKind.wrap .u8 (Int.tdiv c 4)) 2)) * 2)))) ee<|v_ (.d (.bool (decide ((Int.tmod c 4) ≥ (IntKind.wrap .u8 ((IntKind.wrap .u8 (Int.tdiv (IntKind.wrap .u8 (Int.tdiv c 4)) 2)) * 2)))))) ee<|q0 ?_
 obtain ⟨k,h,f⟩:=q6 f
 refine q74 (fun j=>j = k) (fun (j : Int)=>⟨[(2,.ref 0 9 0 0),(3,.d (.int .u8 (IntKind.wrap .u8 (Int.tdiv c 4)))),(4,.d (.int .u8 j))],[(0,.dat 9 [[i_ 0,i_ 0,i_ 0,i_ 0,i_ 0,i_ 0,i_ 0,i_ 0,i_ 0]])],1⟩) (by simp) ?_ ?_
 ·refine qg ee h (fun _ h=>?_) (fun _ h=>?_)
  ·refine qi<|mv_ ee<|v_ (.d (.int .u8 (IntKind.wrap .u8 ((Int.tmod c 4) + 2)))) ee<|as_ ee<|nl_ ?_
   obtain rfl:=q9 h
   exact ⟨_,ee,wkA [(0,0)] [] []⟩
  refine qh<|qz ?_
  obtain rfl:=q9 h
  exact ⟨_,ee,wkA [(0,0)] [] []⟩
 intro j hb
 subst hb
 refine sr_<|mv_ ee ?_
 obtain ⟨a,l,f⟩:=q6 f
 refine pc_ (qfp (IntKind.wrap .u8 (Int.tdiv c 4)) a l) ee<|mv_ ee ?_
 obtain ⟨b,m,f⟩:=q6 f
 refine pc_ (qfp j b m) ee<|q13 ee ee<|q13 ee ee<|q1f 1 (.dat 3 [[i_ a.X,i_ a.Y,i_ a.Z]]) ee<|q1f 2 (.dat 3 [[i_ b.X,i_ b.Y,i_ b.Z]]) ee<|q0<|qa<|qm [(some [0],[0]),(some [],[]),(some [],[]),(some [2],[]),(some [1],[]),(some [2],[]),(some [1],[])] (by kernel_rfl)<|v_ (.d (.agg [i_ a.X,i_ a.Y,i_ a.Z])) ee<|v_ (.d (.agg [i_ b.X,i_ b.Y,i_ b.Z])) ee<|v_ (.d (.agg [i_ a.X,i_ a.Y,i_ a.Z])) ee<|v_ (.d (.agg [i_ b.X,i_ b.Y,i_ b.Z])) ee ?_
 obtain ⟨g,n,f⟩:=q6 f
 refine pc_ (qq5 a b g n) ee<|v_ (.d (.agg [i_ a.X,i_ a.Y,i_ a.Z,i_ b.X,i_ b.Y,i_ b.Z,i_ g.X,i_ g.Y,i_ g.Z])) ee<|q1f 0 (.dat 9 [[i_ a.X,i_ a.Y,i_ a.Z,i_ b.X,i_ b.Y,i_ b.Z,i_ g.X,i_ g.Y,i_ g.Z]]) ee<|nt_ ?_
 obtain rfl:=q9 f
 exact fR_ (.d (.agg [i_ a.X,i_ a.Y,i_ a.Z,i_ b.X,i_ b.Y,i_ b.Z,i_ g.X,i_ g.Y,i_ g.Z])) ee
theorem qtt (a : qk × qk × qk) (b : qk) (r : qk) (c : qfq a b = some r) : Pure Tryz.prog tab 100 [.agg [i_ a.1.X,i_ a.1.Y,i_ a.1.Z,i_ a.2.1.X,i_ a.2.1.Y,i_ a.2.1.Z,i_ a.2.2.X,i_ a.2.2.Y,i_ a.2.2.Z],.agg [i_ b.X,i_ b.Y,i_ b.Z]] (.agg [i_ r.X,i_ r.Y,i_ r.Z]):=by
 unfold qfq at c
 refine qn Tryz.func100 ee (by kernel_rfl) (by kernel_rfl) ee<|sr_<|q20 (.ref 0 9 0 0) (.dat 9 [[i_ a.1.X,i_ a.1.Y,i_ a.1.Z,i_ a.2.1.X,i_ a.2.1.Y,i_ a.2.1.Z,i_ a.2.2.X,i_ a.2.2.Y,i_ a.2.2.Z]]) ee<|q20 (.ref 1 3 0 0) (.dat 3 [[i_ b.X,i_ b.Y,i_ b.Z]]) ee<|q13 ee ee<|qs<|v_ (.ref 1 3 0 0) ee<|v_ (di_ b.X) ee<|v_ (.ref 0 9 0 0) ee<|v_ (.ref 0 9 0 0) ee<|v_ (di_ a.1.X) ee<|v_ (.d (i_ (w64 (b.X * a.1.X)))) ee<|v_ (.ref 1 3 0 1) ee<|v_ (di_ b.Y) ee<|v_ (.ref 0 9 0 3) ee<|v_ (.ref 0 9 0 3) ee<|v_ (di_ a.2.1.X) ee<|v_ (.d (i_ (w64 (b.Y * a.2.1.X)))) ee<|v_ (.d (i_ (w64 ((w64 (b.X * a.1.X)) + (w64 (b.Y * a.2.1.X)))))) ee<|v_ (.ref 1 3 0 2) ee<|v_ (di_ b.Z) ee<|v_ (.ref 0 9 0 6) ee<|v_ (.ref 0 9 0 6) ee<|v_ (di_ a.2.2.X) ee<|v_ (.d (i_ (w64 (b.Z * a.2.2.X)))) ee<|v_ (.d (i_ (w64 ((w64 ((w64 (b.X * a.1.X)) + (w64 (b.Y * a.2.1.X)))) + (w64 (b.Z * a.2.2.X)))))) ee<|v_ (.ref 1 3 0 0) ee<|v_ (di_ b.X) ee<|v_ (.ref 0 9 0 0) ee<|v_ (.ref 0 9 0 1) ee<|v_ (di_ a.1.Y) ee<|v_ (.d (i_ (w64 (b.X * a.1.Y)))) ee<|v_ (.ref 1 3 0 1) ee<|v_ (di_ b.Y) ee<|v_ (.ref 0 9 0 3) ee<|v_ (.ref 0 9 0 4) ee<|v_ (di_ a.2.1.Y) ee<|v_ (.d (i_ (w64 (b.Y * a.2.1.Y)))) ee<|v_ (.d (i_ (w64 ((w64 (b.X * a.1.Y)) + (w64 (b.Y * a.2.1.Y)))))) ee<|v_ (.ref 1 3 0 2) ee ?_
 refine v_ (di_ b.Z) ee<|v_ (.ref 0 9 0 6) ee<|v_ (.ref 0 9 0 7) ee<|v_ (di_ a.2.2.Y) ee<|v_ (.d (i_ (w64 (b.Z * a.2.2.Y)))) ee<|v_ (.d (i_ (w64 ((w64 ((w64 (b.X * a.1.Y)) + (w64 (b.Y * a.2.1.Y)))) + (w64 (b.Z * a.2.2.Y)))))) ee<|v_ (.ref 1 3 0 0) ee<|v_ (di_ b.X) ee<|v_ (.ref 0 9 0 0) ee<|v_ (.ref 0 9 0 2) ee<|v_ (di_ a.1.Z) ee<|v_ (.d (i_ (w64 (b.X * a.1.Z)))) ee<|v_ (.ref 1 3 0 1) ee<|v_ (di_ b.Y) ee<|v_ (.ref 0 9 0 3) ee<|v_ (.ref 0 9 0 5) ee<|v_ (di_ a.2.1.Z) ee<|v_ (.d (i_ (w64 (b.Y * a.2.1.Z)))) ee<|v_ (.d (i_ (w64 ((w64 (b.X * a.1.Z)) + (w64 (b.Y * a.2.1.Z)))))) ee<|v_ (.ref 1 3 0 2) ee<|v_ (di_ b.Z) ee<|v_ (.ref 0 9 0 6) ee<|v_ (.ref 0 9 0 8) ee<|v_ (di_ a.2.2.Z) ee<|v_ (.d (i_ (w64 (b.Z * a.2.2.Z)))) ee<|v_ (.d (i_ (w64 ((w64 ((w64 (b.X * a.1.Z)) + (w64 (b.Y * a.2.1.Z)))) + (w64 (b.Z * a.2.2.Z)))))) ee<|v_ (.d (.agg [i_ (w64 ((w64 ((w64 (b.X * a.1.X)) + (w64 (b.Y * a.2.1.X)))) + (w64 (b.Z * a.2.2.X)))),i_ (w64 ((w64 ((w64 (b.X * a.1.Y)) + (w64 (b.Y * a.2.1.Y)))) + (w64 (b.Z * a.2.2.Y)))),i_ (w64 ((w64 ((w64 (b.X * a.1.Z)) + (w64 (b.Y * a.2.1.Z)))) + (w64 (b.Z * a.2.2.Z))))])) ee<|q1f 2 (.dat 3 [[i_ (w64 ((w64 ((w64 (b.X * a.1.X)) + (w64 (b.Y * a.2.1.X)))) + (w64 (b.Z * a.2.2.X)))),i_ (w64 ((w64 ((w64 (b.X * a.1.Y)) + (w64 (b.Y * a.2.1.Y)))) + (w64 (b.Z * a.2.2.Y)))),i_ (w64 ((w64 ((w64 (b.X * a.1.Z)) + (w64 (b.Y * a.2.1.Z)))) + (w64 (b.Z * a.2.2.Z))))]]) ee<|nt_ ?_
 obtain rfl:=q9 c
 exact fR_ (.d (.agg [i_ (w64 ((w64 ((w64 (b.X * a.1.X)) + (w64 (b.Y * a.2.1.X)))) + (w64 (b.Z * a.2.2.X)))),i_ (w64 ((w64 ((w64 (b.X * a.1.Y)) + (w64 (b.Y * a.2.1.Y)))) + (w64 (b.Z * a.2.2.Y)))),i_ (w64 ((w64 ((w64 (b.X * a.1.Z)) + (w64 (b.Y * a.2.1.Z)))) + (w64 (b.Z * a.2.2.Z))))])) ee
theorem qq7 (a : q4l) (c : qk) (r : qk) (f : qd9 a c = some r) : Pure Tryz.prog tab 76 [.agg [.int .u8 a.Turn,i_ a.At.X,i_ a.At.Y,i_ a.At.Z],.agg [i_ c.X,i_ c.Y,i_ c.Z]] (.agg [i_ r.X,i_ r.Y,i_ r.Z]):=by
 unfold qd9 at f
 refine qn Tryz.func76 ee (by kernel_rfl) (by kernel_rfl) ee<|sr_<|q20 (.ref 0 4 0 0) (.dat 4 [[.int .u8 a.Turn,i_ a.At.X,i_ a.At.Y,i_ a.At.Z]]) ee<|q20 (.ref 1 3 0 0) (.dat 3 [[i_ c.X,i_ c.Y,i_ c.Z]]) ee<|q13 ee ee<|q0<|qa<|qm [(some [1],[1]),(some [],[]),(some [1],[]),(some [],[]),(some [0],[]),(some [],[])] (by kernel_rfl)<|v_ (.ref 0 4 0 0) ee<|v_ (.d (.int .u8 a.Turn)) ee ?_
 obtain ⟨g,h,f⟩:=q6 f
 refine pc_ (qs9 a.Turn g h) ee<|v_ (.d (.agg [i_ c.X,i_ c.Y,i_ c.Z])) ee ?_
 obtain ⟨b,j,f⟩:=q6 f
 refine pc_ (qtt g c b j) ee<|q1f 1 (.dat 3 [[i_ b.X,i_ b.Y,i_ b.Z]]) ee<|qs<|v_ (.ref 1 3 0 0) ee<|v_ (di_ b.X) ee<|v_ (.ref 0 4 0 1) ee<|v_ (.ref 0 4 0 1) ee<|v_ (di_ a.At.X) ee<|v_ (.d (i_ (w64 (b.X + a.At.X)))) ee<|v_ (.ref 1 3 0 1) ee<|v_ (di_ b.Y) ee<|v_ (.ref 0 4 0 1) ee<|v_ (.ref 0 4 0 2) ee<|v_ (di_ a.At.Y) ee<|v_ (.d (i_ (w64 (b.Y + a.At.Y)))) ee<|v_ (.ref 1 3 0 2) ee<|v_ (di_ b.Z) ee<|v_ (.ref 0 4 0 1) ee<|v_ (.ref 0 4 0 3) ee<|v_ (di_ a.At.Z) ee<|v_ (.d (i_ (w64 (b.Z + a.At.Z)))) ee<|v_ (.d (.agg [i_ (w64 (b.X + a.At.X)),i_ (w64 (b.Y + a.At.Y)),i_ (w64 (b.Z + a.At.Z))])) ee<|q1f 2 (.dat 3 [[i_ (w64 (b.X + a.At.X)),i_ (w64 (b.Y + a.At.Y)),i_ (w64 (b.Z + a.At.Z))]]) ee<|nt_ ?_
 obtain rfl:=q9 f
 exact fR_ (.d (.agg [i_ (w64 (b.X + a.At.X)),i_ (w64 (b.Y + a.At.Y)),i_ (w64 (b.Z + a.At.Z))])) ee
theorem qic (b : q4l) (f : qk) (r : qk × Int) (a : qbh b f = some r) : Pure Tryz.prog tab 72 [.agg [.int .u8 b.Turn,i_ b.At.X,i_ b.At.Y,i_ b.At.Z],.agg [i_ f.X,i_ f.Y,i_ f.Z]] (.tup [.agg [i_ r.1.X,i_ r.1.Y,i_ r.1.Z],i_ r.2]):=by
 unfold qbh at a
 refine qn Tryz.func72 ee (by kernel_rfl) (by kernel_rfl) ee<|sr_<|q20 (.ref 0 4 0 0) (.dat 4 [[.int .u8 b.Turn,i_ b.At.X,i_ b.At.Y,i_ b.At.Z]]) ee<|q20 (.ref 1 3 0 0) (.dat 3 [[i_ f.X,i_ f.Y,i_ f.Z]]) ee<|q13 ee ee<|as_ ee<|q0<|qa<|sr_<|v_ (.d (.agg [.int .u8 b.Turn,i_ b.At.X,i_ b.At.Y,i_ b.At.Z])) ee ?_
 obtain ⟨g,k,a⟩:=q6 a
 refine pc_ (qie b g k) ee<|as_ ee<|qs<|mv_ ee<|v_ (db_ (g != 0)) ee<|q0 ?_
 refine qg ee a (fun _ a=>?_) (fun _ a=>?_)
 ·refine sr_<|v_ (.d (.agg [i_ 0,i_ 0,i_ 0])) ee<|mv_ ee<|q1f 2 (.dat 3 [[i_ 0,i_ 0,i_ 0]]) ee<|as_ ee<|nt_ ?_
  obtain rfl:=q9 a
  exact fR_ (.d (.tup [.agg [i_ 0,i_ 0,i_ 0],i_ g])) ee
 refine qh<|qa<|sr_<|v_ (.d (.agg [i_ f.X,i_ f.Y,i_ f.Z])) ee ?_
 obtain ⟨h,l,a⟩:=q6 a
 refine pc_ (qfz f (-1000000) h l) ee<|v_ (db_ (!h)) ee<|q0 ?_
 refine qg ee a (fun _ a=>?_) (fun _ a=>?_)
 ·refine sr_<|v_ (.d (.agg [i_ 0,i_ 0,i_ 0])) ee<|q1f 2 (.dat 3 [[i_ 0,i_ 0,i_ 0]]) ee<|as_ ee<|nt_ ?_
  obtain rfl:=q9 a
  exact fR_ (.d (.tup [.agg [i_ 0,i_ 0,i_ 0],i_ 2])) ee
 refine qh<|sr_<|v_ (.d (.agg [.int .u8 b.Turn,i_ b.At.X,i_ b.At.Y,i_ b.At.Z])) ee<|v_ (.d (.agg [i_ f.X,i_ f.Y,i_ f.Z])) ee ?_
 obtain ⟨c,m,a⟩:=q6 a
 refine pc_ (qq7 b f c m) ee<|q1f 1 (.dat 3 [[i_ c.X,i_ c.Y,i_ c.Z]]) ee<|q0<|qa<|sr_<|v_ (.d (.agg [i_ c.X,i_ c.Y,i_ c.Z])) ee ?_
 obtain ⟨j,n,a⟩:=q6 a
 refine pc_ (qfz c (-1000000) j n) ee<|v_ (db_ (!j)) ee<|q0 ?_
 refine qg ee a (fun _ a=>?_) (fun _ a=>?_)
 ·refine sr_<|v_ (.d (.agg [i_ 0,i_ 0,i_ 0])) ee<|q1f 2 (.dat 3 [[i_ 0,i_ 0,i_ 0]]) ee<|as_ ee<|nt_ ?_
  obtain rfl:=q9 a
  exact fR_ (.d (.tup [.agg [i_ 0,i_ 0,i_ 0],i_ 16])) ee
 refine qh<|sr_<|v_ (.d (.agg [i_ c.X,i_ c.Y,i_ c.Z])) ee<|q1f 2 (.dat 3 [[i_ c.X,i_ c.Y,i_ c.Z]]) ee<|as_ ee<|nt_ ?_
 obtain rfl:=q9 a
 exact fR_ (.d (.tup [.agg [i_ c.X,i_ c.Y,i_ c.Z],i_ 0])) ee
theorem qqt (j : List q8) (c : q4l) (r : List q8 × Int) (h : qde j c = some r) : Pure Tryz.prog tab 34 [.sl 6 (j.map qf),.agg [.int .u8 c.Turn,i_ c.At.X,i_ c.At.Y,i_ c.At.Z]] (.tup [.sl 6 (r.1.map qf),i_ r.2]):=by
 unfold qde at h
 refine qn Tryz.func34 ee (by kernel_rfl) (by kernel_rfl) ee<|sr_<|q20 (.ref 0 4 0 0) (.dat 4 [[.int .u8 c.Turn,i_ c.At.X,i_ c.At.Y,i_ c.At.Z]]) ee<|as_ ee<|as_ ee<|q0<|qa<|sr_<|mv_ ee ?_
 obtain ⟨o,w,h⟩:=q6 h
 refine pc_ (q90 j o w) ee<|as_ ee<|qs<|mv_ ee<|v_ (db_ (o != 0)) ee<|q0 ?_
 refine qg ee h (fun _ h=>?_) (fun _ h=>?_)
 ·refine sr_<|mv_ ee<|as_ ee<|as_ ee<|nt_ ?_
  obtain rfl:=q9 h
  exact finD (.inr ee) (v:=.d (.tup [.nilsl,i_ o])) ee ee (q7i (.cons (.nil _) (.cons (.refl _) .nil)))
 refine qh<|qa<|sr_<|v_ (.d (.agg [.int .u8 c.Turn,i_ c.At.X,i_ c.At.Y,i_ c.At.Z])) ee ?_
 obtain ⟨p,x,h⟩:=q6 h
 refine pc_ (qie c p x) ee<|as_ ee<|qs<|mv_ ee<|v_ (db_ (p != 0)) ee<|q0 ?_
 refine qg ee h (fun _ h=>?_) (fun _ h=>?_)
 ·refine sr_<|mv_ ee<|as_ ee<|as_ ee<|nt_ ?_
  obtain rfl:=q9 h
  exact finD (.inr ee) (v:=.d (.tup [.nilsl,i_ p])) ee ee (q7i (.cons (.nil _) (.cons (.refl _) .nil)))
 refine qh<|sr_<|as_ ee<|q0<|qa<|sr_<|mv_ ee<|ln_ ee<|mv_ ee<|q0 ?_
 obtain ⟨q,y,h⟩:=q6 h
 refine qp (fun k=>.inl k = q) (fun (k : List q8)=>⟨[(8,.hs 0 6 0 k.length)],[(0,.dat 6 (k.map qf))],1⟩) (by simp) ?_ ?_
 ·refine qt (q7t j c) (fun (l : Int × List q8)=>⟨[(3,.ref 0 4 0 0),(8,.hs 1 6 0 l.2.length),(25,.d (.sl 6 (j.map qf))),(26,di_ (j.length : Int)),(27,di_ l.1)],[(0,.dat 4 [[.int .u8 c.Turn,i_ c.At.X,i_ c.At.Y,i_ c.At.Z]]),(1,.dat 6 (l.2.map qf))],2⟩) (0,[]) q y (wkA [(0,0)] [] [1]) ?_
  intro l af f
  unfold q7t at f
  refine sr_<|v_ (.d (.bool (decide (l.1 < (j.length : Int))))) ee<|q0<|qa ?_
  refine qg ee f (fun _ f=>?_) (fun _ f=>?_)
  ·refine qh<|qa<|ql<|sr_ ?_
   obtain ⟨g,z,f⟩:=q6 f
   refine ix_ (enc:=qf) z ee<|v_ (.d (.agg [i_ g.Lo.X,i_ g.Lo.Y,i_ g.Lo.Z,i_ g.Hi.X,i_ g.Hi.Y,i_ g.Hi.Z])) ee<|q13 ee ee<|q1f 2 (.dat 6 [[i_ g.Lo.X,i_ g.Lo.Y,i_ g.Lo.Z,i_ g.Hi.X,i_ g.Hi.Y,i_ g.Hi.Z]]) ee<|qs<|v_ (.d (.agg [.int .u8 c.Turn,i_ c.At.X,i_ c.At.Y,i_ c.At.Z])) ee<|v_ (.ref 2 6 0 0) ee<|v_ (.d (.agg [i_ g.Lo.X,i_ g.Lo.Y,i_ g.Lo.Z])) ee ?_
   obtain ⟨b,aa,f⟩:=q6 f
   refine pc_ (qic c g.Lo b aa) ee<|mv_ ee<|v_ (.d (.agg [i_ b.1.X,i_ b.1.Y,i_ b.1.Z])) ee<|v_ (di_ b.2) ee<|q13 ee ee<|q1f 3 (.dat 3 [[i_ b.1.X,i_ b.1.Y,i_ b.1.Z]]) ee<|as_ ee<|qs<|v_ (.d (.agg [.int .u8 c.Turn,i_ c.At.X,i_ c.At.Y,i_ c.At.Z])) ee<|v_ (.ref 2 6 0 3) ee<|v_ (.d (.agg [i_ g.Hi.X,i_ g.Hi.Y,i_ g.Hi.Z])) ee ?_
   obtain ⟨a,ab,f⟩:=q6 f
   refine pc_ (qic c g.Hi a ab) ee<|mv_ ee<|v_ (.d (.agg [i_ a.1.X,i_ a.1.Y,i_ a.1.Z])) ee<|v_ (di_ a.2) ee<|q13 ee ee<|q1f 4 (.dat 3 [[i_ a.1.X,i_ a.1.Y,i_ a.1.Z]]) ee<|as_ ee<|q0<|qa<|sr_<|mv_ ee<|v_ (db_ (b.2 != 0)) ee ?_
   obtain ⟨ac,m,f⟩:=q6 f
   refine qq 4 (fun A st=>∃ (s t u : V),st = A [(50,db_ ac),(49,u),(48,t),(47,s)]) ?_ ?_
   ·refine qu ee ee m (fun m=>?_) (fun m=>?_)
    ·refine q7 ee<|q7 ee<|v_ (db_ true) ee<|q0 ?_
     obtain rfl:=q9 m
     exact ⟨_,_,_,ee⟩
    refine mv_ ee<|v_ (db_ (a.2 != 0)) ee<|v_ (db_ (a.2 != 0)) ee<|q0 ?_
    obtain rfl:=q9 m
    exact ⟨_,_,_,ee⟩
   rintro _ ⟨s,t,u,rfl⟩
   refine q0 ?_
   refine qg ee f (fun _ f=>?_) (fun _ f=>?_)
   ·refine sr_<|as_ ee<|as_ ee<|nt_ ?_
    refine ⟨_,(Option.some.inj f).symm,fun hm=>?_⟩
    subst hm
    obtain rfl:=q9 h
    exact finD (.inr ee) (v:=.d (.tup [.nilsl,i_ 16])) ee ee (q7i (.cons (.nil _) (.cons (.refl _) .nil)))
   refine qh<|qi<|mv_ ee<|v_ (.ref 3 3 0 0) ee<|v_ (di_ b.1.X) ee<|v_ (.ref 4 3 0 0) ee<|v_ (di_ a.1.X) ee<|qcd (r:=min b.1.X a.1.X) ee ee (by simp only [q94];rfl)<|v_ (.ref 3 3 0 1) ee<|v_ (di_ b.1.Y) ee<|v_ (.ref 4 3 0 1) ee<|v_ (di_ a.1.Y) ee<|qcd (r:=min b.1.Y a.1.Y) ee ee (by simp only [q94];rfl)<|v_ (.ref 3 3 0 2) ee<|v_ (di_ b.1.Z) ee<|v_ (.ref 4 3 0 2) ee<|v_ (di_ a.1.Z) ee<|qcd (r:=min b.1.Z a.1.Z) ee ee (by simp only [q94];rfl)<|v_ (.d (.agg [i_ (min b.1.X a.1.X),i_ (min b.1.Y a.1.Y),i_ (min b.1.Z a.1.Z)])) ee<|v_ (.ref 3 3 0 0) ee<|v_ (di_ b.1.X) ee<|v_ (.ref 4 3 0 0) ee<|v_ (di_ a.1.X) ee<|qcc (r:=max b.1.X a.1.X) ee ee (by simp only [q93];rfl)<|v_ (.ref 3 3 0 1) ee<|v_ (di_ b.1.Y) ee<|v_ (.ref 4 3 0 1) ee<|v_ (di_ a.1.Y) ee<|qcc (r:=max b.1.Y a.1.Y) ee ee (by simp only [q93];rfl)<|v_ (.ref 3 3 0 2) ee<|v_ (di_ b.1.Z) ee<|v_ (.ref 4 3 0 2) ee<|v_ (di_ a.1.Z) ee<|qcc (r:=max b.1.Z a.1.Z) ee ee (by simp only [q93];rfl)<|v_ (.d (.agg [i_ (max b.1.X a.1.X),i_ (max b.1.Y a.1.Y),i_ (max b.1.Z a.1.Z)])) ee<|v_ (.d (.agg [i_ (min b.1.X a.1.X),i_ (min b.1.Y a.1.Y),i_ (min b.1.Z a.1.Z),i_ (max b.1.X a.1.X),i_ (max b.1.Y a.1.Y),i_ (max b.1.Z a.1.Z)])) ee<|q20 (.hs 5 6 0 [({Lo:=({X:=min b.1.X a.1.X,Y:=min b.1.Y a.1.Y,Z:=min b.1.Z a.1.Z} : qk),Hi:=({X:=max b.1.X a.1.X,Y:=max b.1.Y a.1.Y,Z:=max b.1.Z a.1.Z} : qk)} : q8)].length) (.dat 6 ([({Lo:=({X:=min b.1.X a.1.X,Y:=min b.1.Y a.1.Y,Z:=min b.1.Z a.1.Z} : qk),Hi:=({X:=max b.1.X a.1.X,Y:=max b.1.Y a.1.Y,Z:=max b.1.Z a.1.Z} : qk)} : q8)].map qf)) ee ?_
   obtain ⟨ag,ad,f⟩:=q6 f
   refine q7c (xs:=l.2) (ys:=[({Lo:=({X:=min b.1.X a.1.X,Y:=min b.1.Y a.1.Y,Z:=min b.1.Z a.1.Z} : qk),Hi:=({X:=max b.1.X a.1.X,Y:=max b.1.Y a.1.Y,Z:=max b.1.Z a.1.Z} : qk)} : q8)]) (enc:=qf) (.hs 5 6 0 [({Lo:=({X:=min b.1.X a.1.X,Y:=min b.1.Y a.1.Y,Z:=min b.1.Z a.1.Z} : qk),Hi:=({X:=max b.1.X a.1.X,Y:=max b.1.Y a.1.Y,Z:=max b.1.Z a.1.Z} : qk)} : q8)].length) ad ee ee ee ee ee ee ee (q4w ee ee) ee ee ee ee<|as_ ee<|nl_<|qw<|qi<|v_ (.d (i_ (w64 (l.1 + 1)))) ee<|mv_ ee<|nl_ ?_
   exact ⟨_,(Option.some.inj f).symm,wkA [(0,0),(1,6)] [] []⟩
  refine qv ?_
  refine ⟨_,(Option.some.inj f).symm,fun hm=>?_⟩
  subst hm
  exact ⟨_,ee,wkA [(0,1)] [] []⟩
 intro k hb
 subst hb
 refine qa ?_
 refine qad (st':=⟨[(8,.d (.sl 6 (k.map qf)))],[],0⟩) (wkA [] [0] []) ?_ (by simp)
 refine qi<|mv_ ee ?_
 obtain ⟨n,ae,h⟩:=q6 h
 refine pc_ (qg3 k n ae) ee<|v_ (.d (.sl 6 (n.1.map qf))) ee<|v_ (di_ n.2) ee<|as_ ee<|as_ ee<|nt_ ?_
 obtain rfl:=q9 h
 exact fR_ (.d (.tup [.sl 6 (n.1.map qf),i_ n.2])) ee
theorem qct (a : Int) (b : Int) (c : Int) (f : Int) (g : Int) (h : Int) (r : q8) (j : q9g a b c f g h = some r) : Pure Tryz.prog tab 48 [i_ a,i_ b,i_ c,i_ f,i_ g,i_ h] (.agg [i_ r.Lo.X,i_ r.Lo.Y,i_ r.Lo.Z,i_ r.Hi.X,i_ r.Hi.Y,i_ r.Hi.Z]):=by
 unfold q9g at j
 refine qn Tryz.func48 ee (by kernel_rfl) (by kernel_rfl) ee<|sr_<|q13 ee ee<|qs<|mv_ ee<|mv_ ee<|mv_ ee<|v_ (.d (.agg [i_ a,i_ b,i_ c])) ee<|mv_ ee<|mv_ ee<|mv_ ee<|v_ (.d (.agg [i_ f,i_ g,i_ h])) ee<|v_ (.d (.agg [i_ a,i_ b,i_ c,i_ f,i_ g,i_ h])) ee<|q1f 0 (.dat 6 [[i_ a,i_ b,i_ c,i_ f,i_ g,i_ h]]) ee<|nt_ ?_
 obtain rfl:=q9 j
 exact fR_ (.d (.agg [i_ a,i_ b,i_ c,i_ f,i_ g,i_ h])) ee
theorem qah (r : List q8) (a : q9r = some r) : Pure Tryz.prog tab 49 [] (.sl 6 (r.map qf)):=by
 unfold q9r at a
 refine qn Tryz.func49 ee (by kernel_rfl) (by kernel_rfl) ee<|sr_<|as_ ee<|qs ?_
 obtain ⟨b,d,a⟩:=q6 a
 refine pc_ (qct 0 0 0 2 2 1 b d) ee ?_
 obtain ⟨c,f,a⟩:=q6 a
 refine pc_ (qct 0 0 1 1 2 2 c f) ee<|q20 (.hs 0 6 0 [b,c].length) (.dat 6 ([b,c].map qf)) ee<|as_ ee<|nt_ ?_
 obtain rfl:=q9 a
 exact finD (.inr ee) (v:=.hs 0 6 0 [b,c].length) ee (qc1 ee ee) (.refl _)
theorem qu2 (r : Bool) (a : qfs = some r) : Pure Tryz.prog tab 37 [] (.bool r):=by
 unfold qfs at a
 refine qn Tryz.func37 ee (by kernel_rfl) (by kernel_rfl) ee<|sr_<|as_ ee<|qs ?_
 obtain ⟨w,h2,a⟩:=q6 a
 refine pc_ (qah w h2) ee ?_
 obtain ⟨j,h4,a⟩:=q6 a
 refine pc_ (qer w j h4) ee<|mv_ ee<|v_ (di_ j.1) ee<|v_ (di_ j.2) ee<|as_ ee<|as_ ee<|qs ?_
 obtain ⟨x,h6,a⟩:=q6 a
 refine pc_ (qah x h6) ee ?_
 obtain ⟨g,h8,a⟩:=q6 a
 refine pc_ (qoo x g h8) ee<|mv_ ee<|v_ (di_ g.1) ee<|v_ (di_ g.2) ee<|as_ ee<|as_ ee<|qs ?_
 obtain ⟨y,bo,a⟩:=q6 a
 refine pc_ (qah y bo) ee<|v_ (.d (.agg [.int .u8 9,i_ 0,i_ 0,i_ 0])) ee ?_
 obtain ⟨h,bp,a⟩:=q6 a
 refine pc_ (qqt y ({Turn:=9,At:=({X:=0,Y:=0,Z:=0} : qk)} : q4l) h bp) ee<|mv_ ee<|v_ (.d (.sl 6 (h.1.map qf))) ee<|v_ (di_ h.2) ee<|as_ ee<|as_ ee<|qs ?_
 obtain ⟨t,bq,a⟩:=q6 a
 refine pc_ (qct 0 0 0 1 2 2 t bq) ee ?_
 obtain ⟨u,br,a⟩:=q6 a
 refine pc_ (qct 1 0 0 2 2 1 u br) ee<|qu5 (es:=6) ([t,u].map qf) ee ee ee ee ee ?_
 obtain ⟨k,bs,a⟩:=q6 a
 refine pc_ (qg3 [t,u] k bs) ee<|mv_ ee<|v_ (.d (.sl 6 (k.1.map qf))) ee<|v_ (di_ k.2) ee<|as_ ee<|as_ ee<|qs<|mv_ ee<|v_ (db_ (j.2 == 0)) ee ?_
 obtain ⟨bt,l,a⟩:=q6 a
 refine qq 4 (fun A st=>∃ (z aa ab : V),st = A [(37,db_ bt),(36,ab),(35,aa),(34,z)]) ?_ ?_
 ·refine qu ee ee l (fun l=>?_) (fun l=>?_)
  ·refine mv_ ee<|v_ (db_ (j.1 == 6)) ee<|v_ (db_ (j.1 == 6)) ee<|q0 ?_
   obtain rfl:=q9 l
   exact ⟨_,_,_,ee⟩
  refine q7 ee<|q7 ee<|v_ (db_ false) ee<|q0 ?_
  obtain rfl:=q9 l
  exact ⟨_,_,_,ee⟩
 rintro _ ⟨z,aa,ab,rfl⟩
 obtain ⟨bu,m,a⟩:=q6 a
 refine qq 4 (fun A st=>∃ (ac ad ae : V),st = A [(41,db_ bu),(40,ae),(39,ad),(38,ac)]) ?_ ?_
 ·refine qu ee ee m (fun m=>?_) (fun m=>?_)
  ·refine mv_ ee<|v_ (db_ (g.2 == 0)) ee<|v_ (db_ (g.2 == 0)) ee<|q0 ?_
   obtain rfl:=q9 m
   exact ⟨_,_,_,ee⟩
  refine q7 ee<|q7 ee<|v_ (db_ false) ee<|q0 ?_
  obtain rfl:=q9 m
  exact ⟨_,_,_,ee⟩
 rintro _ ⟨ac,ad,ae,rfl⟩
 obtain ⟨bv,n,a⟩:=q6 a
 refine qq 4 (fun A st=>∃ (af ag ah : V),st = A [(45,db_ bv),(44,ah),(43,ag),(42,af)]) ?_ ?_
 ·refine qu ee ee n (fun n=>?_) (fun n=>?_)
  ·refine mv_ ee<|v_ (db_ (g.1 == 22)) ee<|v_ (db_ (g.1 == 22)) ee<|q0 ?_
   obtain rfl:=q9 n
   exact ⟨_,_,_,ee⟩
  refine q7 ee<|q7 ee<|v_ (db_ false) ee<|q0 ?_
  obtain rfl:=q9 n
  exact ⟨_,_,_,ee⟩
 rintro _ ⟨af,ag,ah,rfl⟩
 obtain ⟨bw,o,a⟩:=q6 a
 refine qq 4 (fun A st=>∃ (ai aj ak : V),st = A [(49,db_ bw),(48,ak),(47,aj),(46,ai)]) ?_ ?_
 ·refine qu ee ee o (fun o=>?_) (fun o=>?_)
  ·refine mv_ ee<|v_ (db_ (h.2 == 0)) ee<|v_ (db_ (h.2 == 0)) ee<|q0 ?_
   obtain rfl:=q9 o
   exact ⟨_,_,_,ee⟩
  refine q7 ee<|q7 ee<|v_ (db_ false) ee<|q0 ?_
  obtain rfl:=q9 o
  exact ⟨_,_,_,ee⟩
 rintro _ ⟨ai,aj,ak,rfl⟩
 refine qu ee ee a (fun a=>?_) (fun a=>?_)
 ·refine mv_ ee ?_
  obtain ⟨p,bz,a⟩:=q6 a
  refine pc_ (qct (-2) 0 0 0 2 1 p bz) ee ?_
  obtain ⟨q,ca,a⟩:=q6 a
  refine pc_ (qct (-2) 0 1 0 1 2 q ca) ee<|q20 (.hs 1 6 0 [p,q].length) (.dat 6 ([p,q].map qf)) ee ?_
  obtain ⟨al,cb,a⟩:=q6 a
  refine qpb [.d (.sl 6 (h.1.map qf)),.hs 1 6 0 [p,q].length] (q7r h.1 [p,q] al cb) ee ee (qaf ee (qaf (qc1 ee ee) ee)) (.inr ee)<|v_ (db_ al) ee ?_
  obtain ⟨cc,s,a⟩:=q6 a
  refine qq 4 (fun A st=>∃ (am an ao : V),st = A [(60,db_ cc),(59,ao),(58,an),(57,am)]) ?_ ?_
  ·refine qu ee ee s (fun s=>?_) (fun s=>?_)
   ·refine mv_ ee<|v_ (db_ (k.2 == 0)) ee<|v_ (db_ (k.2 == 0)) ee<|q0 ?_
    obtain rfl:=q9 s
    exact ⟨_,_,_,ee⟩
   refine q7 ee<|q7 ee<|v_ (db_ false) ee<|q0 ?_
   obtain rfl:=q9 s
   exact ⟨_,_,_,ee⟩
  rintro _ ⟨am,an,ao,rfl⟩
  obtain ⟨cd,b,a⟩:=q6 a
  refine qq 5 (fun A st=>∃ (ap aq ar au : V),st = A [(65,db_ cd),(64,au),(63,ar),(62,aq),(61,ap)]) ?_ ?_
  ·refine qu ee ee b (fun b=>?_) (fun b=>?_)
   ·refine mv_ ee ?_
    obtain ⟨av,ce,b⟩:=q6 b
    refine pc_ (qah av ce) ee ?_
    obtain ⟨aw,cf,b⟩:=q6 b
    refine pc_ (q7r k.1 av aw cf) ee<|v_ (db_ aw) ee<|q0 ?_
    obtain rfl:=q9 b
    exact ⟨_,_,_,_,ee⟩
   refine q7 ee<|q7 ee<|q7 ee<|v_ (db_ false) ee<|q0 ?_
   obtain rfl:=q9 b
   exact ⟨_,_,_,_,ee⟩
  rintro _ ⟨ap,aq,ar,au,rfl⟩
  obtain ⟨cg,c,a⟩:=q6 a
  refine qq 5 (fun A st=>∃ (ax ay az ba : V),st = A [(70,db_ cg),(69,ba),(68,az),(67,ay),(66,ax)]) ?_ ?_
  ·refine qu ee ee c (fun c=>?_) (fun c=>?_)
   ·obtain ⟨bb,ch,c⟩:=q6 c
    refine pc_ (qah bb ch) ee<|v_ (.d (.agg [i_ 0,i_ 0,i_ 1])) ee ?_
    obtain ⟨bc,ci,c⟩:=q6 c
    refine pc_ (qen bb ({X:=0,Y:=0,Z:=1} : qk) bc ci) ee<|v_ (db_ bc) ee<|q0 ?_
    obtain rfl:=q9 c
    exact ⟨_,_,_,_,ee⟩
   refine q7 ee<|q7 ee<|q7 ee<|v_ (db_ false) ee<|q0 ?_
   obtain rfl:=q9 c
   exact ⟨_,_,_,_,ee⟩
  rintro _ ⟨ax,ay,az,ba,rfl⟩
  obtain ⟨bd,f,a⟩:=q6 a
  refine qq 6 (fun A st=>∃ (be bf bg bh bi : V),st = A [(76,db_ bd),(75,bi),(74,bh),(73,bg),(72,bf),(71,be)]) ?_ ?_
  ·refine qu ee ee f (fun f=>?_) (fun f=>?_)
   ·obtain ⟨bj,cj,f⟩:=q6 f
    refine pc_ (qah bj cj) ee<|v_ (.d (.agg [i_ 1,i_ 0,i_ 1])) ee ?_
    obtain ⟨v,ck,f⟩:=q6 f
    refine pc_ (qen bj ({X:=1,Y:=0,Z:=1} : qk) v ck) ee<|v_ (db_ (!v)) ee<|v_ (db_ (!v)) ee<|q0 ?_
    obtain rfl:=q9 f
    exact ⟨_,_,_,_,_,ee⟩
   refine q7 ee<|q7 ee<|q7 ee<|q7 ee<|v_ (db_ false) ee<|q0 ?_
   obtain rfl:=q9 f
   exact ⟨_,_,_,_,_,ee⟩
  rintro _ ⟨be,bf,bg,bh,bi,rfl⟩
  refine as_ ee<|nt_ ?_
  obtain rfl:=q9 a
  exact fR_ (db_ bd) ee
 refine q7 ee<|q7 ee<|q7 ee<|q7 ee<|q7 ee<|v_ (db_ false) ee<|mv_ ee<|q7 ee<|q7 ee<|v_ (db_ false) ee<|mv_ ee<|q7 ee<|q7 ee<|q7 ee<|v_ (db_ false) ee<|mv_ ee<|q7 ee<|q7 ee<|q7 ee<|v_ (db_ false) ee<|mv_ ee<|q7 ee<|q7 ee<|q7 ee<|q7 ee<|v_ (db_ false) ee<|as_ ee<|nt_ ?_
 obtain rfl:=q9 a
 exact fR_ (db_ false) ee
theorem qxy (g : List q8) (c : List q8) (r : Bool) (b : qif g c = some r) : Pure Tryz.prog tab 38 [.sl 6 (g.map qf),.sl 6 (c.map qf)] (.bool r):=by
 unfold qif at b
 refine qn Tryz.func38 ee (by kernel_rfl) (by kernel_rfl) ee<|sr_<|as_ ee<|qs<|mv_ ee<|ln_ ee<|v_ (.d (.bool (decide ((g.length : Int)≤30)))) ee ?_
 obtain ⟨u,f,b⟩:=q6 b
 refine qq 5 (fun A st=>∃ (j k l m : V),st = A [(12,db_ u),(11,m),(10,l),(9,k),(8,j)]) ?_ ?_
 ·refine qu ee ee f (fun f=>?_) (fun f=>?_)
  ·refine mv_ ee<|ln_ ee<|v_ (.d (.bool (decide ((c.length : Int)≤30)))) ee<|v_ (.d (.bool (decide ((c.length : Int)≤30)))) ee<|q0 ?_
   obtain rfl:=q9 f
   exact ⟨_,_,_,_,ee⟩
  refine q7 ee<|q7 ee<|q7 ee<|v_ (db_ false) ee<|q0 ?_
  obtain rfl:=q9 f
  exact ⟨_,_,_,_,ee⟩
 rintro _ ⟨j,k,l,m,rfl⟩
 obtain ⟨n,a,b⟩:=q6 b
 refine qq 6 (fun A st=>∃ (o p q s t : V),st = A [(18,db_ n),(17,t),(16,s),(15,q),(14,p),(13,o)]) ?_ ?_
 ·refine qu ee ee a (fun a=>?_) (fun a=>?_)
  ·refine mv_ ee<|mv_ ee ?_
   obtain ⟨h,v,a⟩:=q6 a
   refine pc_ (qw3 g c h v) ee<|v_ (db_ (h == 0)) ee<|v_ (db_ (h == 0)) ee<|q0 ?_
   obtain rfl:=q9 a
   exact ⟨_,_,_,_,_,ee⟩
  refine q7 ee<|q7 ee<|q7 ee<|q7 ee<|v_ (db_ false) ee<|q0 ?_
  obtain rfl:=q9 a
  exact ⟨_,_,_,_,_,ee⟩
 rintro _ ⟨o,p,q,s,t,rfl⟩
 refine as_ ee<|nt_ ?_
 obtain rfl:=q9 b
 exact fR_ (db_ n) ee
theorem qhm (a : Int) (r : Bool) (c : qii a = some r) : Pure Tryz.prog tab 104 [i_ a] (.bool r):=by
 unfold qii at c
 refine qn Tryz.func104 ee (by kernel_rfl) (by kernel_rfl) ee<|sr_<|as_ ee<|qs<|mv_ ee<|v_ (.d (.bool (decide (a ≥ (-1000000))))) ee ?_
 obtain ⟨f,b,c⟩:=q6 c
 refine qq 4 (fun A st=>∃ (g h j : V),st = A [(8,db_ f),(7,j),(6,h),(5,g)]) ?_ ?_
 ·refine qu ee ee b (fun b=>?_) (fun b=>?_)
  ·refine mv_ ee<|v_ (.d (.bool (decide (a≤1000000)))) ee<|v_ (.d (.bool (decide (a≤1000000)))) ee<|q0 ?_
   obtain rfl:=q9 b
   exact ⟨_,_,_,ee⟩
  refine q7 ee<|q7 ee<|v_ (db_ false) ee<|q0 ?_
  obtain rfl:=q9 b
  exact ⟨_,_,_,ee⟩
 rintro _ ⟨g,h,j,rfl⟩
 refine as_ ee<|nt_ ?_
 obtain rfl:=q9 c
 exact fR_ (db_ f) ee
theorem quq (a : qb) (r : Bool) (b : qhn a = some r) : Pure Tryz.prog tab 78 [.agg [i_ a.X0,i_ a.Y0,i_ a.X1,i_ a.Y1]] (.bool r):=by
 unfold qhn at b
 refine qn Tryz.func78 ee (by kernel_rfl) (by kernel_rfl) ee<|sr_<|q20 (.ref 0 4 0 0) (.dat 4 [[i_ a.X0,i_ a.Y0,i_ a.X1,i_ a.Y1]]) ee<|as_ ee<|qs<|v_ (.ref 0 4 0 0) ee<|v_ (di_ a.X0) ee<|v_ (.ref 0 4 0 2) ee<|v_ (di_ a.X1) ee<|v_ (.d (.bool (decide (a.X0 < a.X1)))) ee ?_
 obtain ⟨c1,j,b⟩:=q6 b
 refine qq 7 (fun A st=>∃ (k l m n o p : V),st = A [(14,db_ c1),(13,p),(12,o),(11,n),(10,m),(9,l),(8,k)]) ?_ ?_
 ·refine qu ee ee j (fun j=>?_) (fun j=>?_)
  ·refine v_ (.ref 0 4 0 1) ee<|v_ (di_ a.Y0) ee<|v_ (.ref 0 4 0 3) ee<|v_ (di_ a.Y1) ee<|v_ (.d (.bool (decide (a.Y0 < a.Y1)))) ee<|v_ (.d (.bool (decide (a.Y0 < a.Y1)))) ee<|q0 ?_
   obtain rfl:=q9 j
   exact ⟨_,_,_,_,_,_,ee⟩
  refine q7 ee<|q7 ee<|q7 ee<|q7 ee<|q7 ee<|v_ (db_ false) ee<|q0 ?_
  obtain rfl:=q9 j
  exact ⟨_,_,_,_,_,_,ee⟩
 rintro _ ⟨k,l,m,n,o,p,rfl⟩
 obtain ⟨an,c,b⟩:=q6 b
 refine qq 5 (fun A st=>∃ (q s t u : V),st = A [(19,db_ an),(18,u),(17,t),(16,s),(15,q)]) ?_ ?_
 ·refine qu ee ee c (fun c=>?_) (fun c=>?_)
  ·refine v_ (.ref 0 4 0 0) ee<|v_ (di_ a.X0) ee ?_
   obtain ⟨v,ao,c⟩:=q6 c
   refine pc_ (qhm a.X0 v ao) ee<|v_ (db_ v) ee<|q0 ?_
   obtain rfl:=q9 c
   exact ⟨_,_,_,_,ee⟩
  refine q7 ee<|q7 ee<|q7 ee<|v_ (db_ false) ee<|q0 ?_
  obtain rfl:=q9 c
  exact ⟨_,_,_,_,ee⟩
 rintro _ ⟨q,s,t,u,rfl⟩
 obtain ⟨ap,f,b⟩:=q6 b
 refine qq 5 (fun A st=>∃ (w x y z : V),st = A [(24,db_ ap),(23,z),(22,y),(21,x),(20,w)]) ?_ ?_
 ·refine qu ee ee f (fun f=>?_) (fun f=>?_)
  ·refine v_ (.ref 0 4 0 2) ee<|v_ (di_ a.X1) ee ?_
   obtain ⟨aa,aq,f⟩:=q6 f
   refine pc_ (qhm a.X1 aa aq) ee<|v_ (db_ aa) ee<|q0 ?_
   obtain rfl:=q9 f
   exact ⟨_,_,_,_,ee⟩
  refine q7 ee<|q7 ee<|q7 ee<|v_ (db_ false) ee<|q0 ?_
  obtain rfl:=q9 f
  exact ⟨_,_,_,_,ee⟩
 rintro _ ⟨w,x,y,z,rfl⟩
 obtain ⟨ar,g,b⟩:=q6 b
 refine qq 5 (fun A st=>∃ (ab ac ad ae : V),st = A [(29,db_ ar),(28,ae),(27,ad),(26,ac),(25,ab)]) ?_ ?_
 ·refine qu ee ee g (fun g=>?_) (fun g=>?_)
  ·refine v_ (.ref 0 4 0 1) ee<|v_ (di_ a.Y0) ee ?_
   obtain ⟨af,au,g⟩:=q6 g
   refine pc_ (qhm a.Y0 af au) ee<|v_ (db_ af) ee<|q0 ?_
   obtain rfl:=q9 g
   exact ⟨_,_,_,_,ee⟩
  refine q7 ee<|q7 ee<|q7 ee<|v_ (db_ false) ee<|q0 ?_
  obtain rfl:=q9 g
  exact ⟨_,_,_,_,ee⟩
 rintro _ ⟨ab,ac,ad,ae,rfl⟩
 obtain ⟨ag,h,b⟩:=q6 b
 refine qq 5 (fun A st=>∃ (ah ai aj ak : V),st = A [(34,db_ ag),(33,ak),(32,aj),(31,ai),(30,ah)]) ?_ ?_
 ·refine qu ee ee h (fun h=>?_) (fun h=>?_)
  ·refine v_ (.ref 0 4 0 3) ee<|v_ (di_ a.Y1) ee ?_
   obtain ⟨al,av,h⟩:=q6 h
   refine pc_ (qhm a.Y1 al av) ee<|v_ (db_ al) ee<|q0 ?_
   obtain rfl:=q9 h
   exact ⟨_,_,_,_,ee⟩
  refine q7 ee<|q7 ee<|q7 ee<|v_ (db_ false) ee<|q0 ?_
  obtain rfl:=q9 h
  exact ⟨_,_,_,_,ee⟩
 rintro _ ⟨ah,ai,aj,ak,rfl⟩
 refine as_ ee<|nt_ ?_
 obtain rfl:=q9 b
 exact fR_ (db_ ag) ee
theorem qun (c : List qb) (r : Int) (a : qfu c = some r) : Pure Tryz.prog tab 44 [.sl 4 (c.map qd)] (i_ r):=by
 unfold qfu at a
 refine qn Tryz.func44 ee (by kernel_rfl) (by kernel_rfl) ee<|sr_<|as_ ee<|q0<|qa<|sr_<|mv_ ee<|ln_ ee<|v_ (.d (.bool (decide ((c.length : Int) > 400)))) ee<|q0 ?_
 refine qg ee a (fun _ a=>?_) (fun _ a=>?_)
 ·refine sr_<|as_ ee<|nt_ ?_
  obtain rfl:=q9 a
  exact fR_ (di_ 4) ee
 refine qh<|qa<|sr_<|as_ ee<|q0 ?_
 obtain ⟨j,n,a⟩:=q6 a
 refine qp (fun h=>.inl h = j) (fun (h : Unit)=>⟨[(0,.d (.sl 4 (c.map qd)))],[],0⟩) (by simp) ?_ ?_
 ·refine qt (q96 c) (fun (g : Int)=>⟨[(0,.d (.sl 4 (c.map qd))),(3,di_ g)],[],0⟩) 0 j n (wkA [] [] []) ?_
  intro g t b
  unfold q96 at b
  refine qa<|sr_<|mv_ ee<|mv_ ee<|ln_ ee<|v_ (.d (.bool (decide (g < (c.length : Int))))) ee<|q0 ?_
  refine qg ee b (fun _ b=>?_) (fun _ b=>?_)
  ·refine qh<|qa<|ql<|sr_<|mv_ ee<|mv_ ee ?_
   obtain ⟨f,o,b⟩:=q6 b
   refine ix_ (enc:=qd) o ee<|v_ (.d (.agg [i_ f.X0,i_ f.Y0,i_ f.X1,i_ f.Y1])) ee ?_
   obtain ⟨k,p,b⟩:=q6 b
   refine pc_ (quq f k p) ee<|v_ (db_ (!k)) ee<|q0 ?_
   refine qg ee b (fun _ b=>?_) (fun _ b=>?_)
   ·refine sr_<|as_ ee<|nt_ ?_
    refine ⟨_,(Option.some.inj b).symm,fun hm=>?_⟩
    subst hm
    obtain rfl:=q9 a
    exact fR_ (di_ 8) ee
   refine qh<|qz<|qw<|qi<|mv_ ee<|v_ (.d (i_ (w64 (g + 1)))) ee<|as_ ee<|nl_ ?_
   exact ⟨_,(Option.some.inj b).symm,wkA [] [] []⟩
  refine qv ?_
  refine ⟨_,(Option.some.inj b).symm,fun hm=>?_⟩
  subst hm
  exact ⟨_,ee,wkA [] [] []⟩
 intro h hb
 subst hb
 refine qa<|sr_<|mv_ ee ?_
 obtain ⟨l,q,a⟩:=q6 a
 refine pc_ (qf5 (.cons (.refl _) (.cons (.refl _) (.cons (.nil _) .nil))) (qdo 2 c [] l q)) ee<|mv_ ee ?_
 obtain ⟨m,s,a⟩:=q6 a
 refine pc_ (qgx l c m s) ee<|v_ (db_ (!m)) ee<|q0 ?_
 refine qg ee a (fun _ a=>?_) (fun _ a=>?_)
 ·refine sr_<|as_ ee<|nt_ ?_
  obtain rfl:=q9 a
  exact fR_ (di_ 8) ee
 refine qh<|sr_<|as_ ee<|nt_ ?_
 obtain rfl:=q9 a
 exact fR_ (di_ 0) ee
theorem qqf (f : List qb) (r : Int × Int) (b : qdb f = some r) : Pure Tryz.prog tab 46 [.sl 4 (f.map qd)] (.tup [i_ r.1,i_ r.2]):=by
 unfold qdb at b
 refine qn Tryz.func46 ee (by kernel_rfl) (by kernel_rfl) ee<|sr_<|as_ ee<|as_ ee<|q0<|qa<|sr_<|mv_ ee ?_
 obtain ⟨j,l,b⟩:=q6 b
 refine pc_ (qpj f j l) ee<|as_ ee<|qs<|mv_ ee<|v_ (db_ (j != 0)) ee<|q0 ?_
 refine qg ee b (fun _ b=>?_) (fun _ b=>?_)
 ·refine sr_<|mv_ ee<|as_ ee<|as_ ee<|nt_ ?_
  obtain rfl:=q9 b
  exact fR_ (.d (.tup [i_ 0,i_ j])) ee
 refine qh<|sr_<|as_ ee<|q0<|qa<|sr_<|mv_ ee<|ln_ ee<|mv_ ee<|q0 ?_
 obtain ⟨k,m,b⟩:=q6 b
 refine qp (fun h=>h = k) (fun (h : Int)=>⟨[(5,di_ h)],[],0⟩) (by simp) ?_ ?_
 ·refine qt (q8y f) (fun (g : Int × Int)=>⟨[(5,di_ g.1),(13,.d (.sl 4 (f.map qd))),(14,di_ (f.length : Int)),(15,di_ g.2)],[],0⟩) (0,0) k m (wkA [] [] []) ?_
  intro g o c
  unfold q8y at c
  refine sr_<|v_ (.d (.bool (decide (g.2 < (f.length : Int))))) ee<|q0<|qa ?_
  refine qg ee c (fun _ c=>?_) (fun _ c=>?_)
  ·refine qh<|qa<|ql<|sr_ ?_
   obtain ⟨a,n,c⟩:=q6 c
   refine ix_ (enc:=qd) n ee<|v_ (.d (.agg [i_ a.X0,i_ a.Y0,i_ a.X1,i_ a.Y1])) ee<|q13 ee ee<|q1f 0 (.dat 4 [[i_ a.X0,i_ a.Y0,i_ a.X1,i_ a.Y1]]) ee<|q0<|qi<|mv_ ee<|v_ (.ref 0 4 0 2) ee<|v_ (di_ a.X1) ee<|v_ (.ref 0 4 0 0) ee<|v_ (di_ a.X0) ee<|v_ (.d (i_ (w64 (a.X1 - a.X0)))) ee<|v_ (.ref 0 4 0 3) ee<|v_ (di_ a.Y1) ee<|v_ (.ref 0 4 0 1) ee<|v_ (di_ a.Y0) ee<|v_ (.d (i_ (w64 (a.Y1 - a.Y0)))) ee<|v_ (.d (i_ (w64 ((w64 (a.X1 - a.X0)) * (w64 (a.Y1 - a.Y0)))))) ee<|v_ (.d (i_ (w64 (g.1 + (w64 ((w64 (a.X1 - a.X0)) * (w64 (a.Y1 - a.Y0)))))))) ee<|as_ ee<|nl_<|qw<|qi<|v_ (.d (i_ (w64 (g.2 + 1)))) ee<|mv_ ee<|nl_ ?_
   exact ⟨_,(Option.some.inj c).symm,wkA [] [] []⟩
  refine qv ?_
  refine ⟨_,(Option.some.inj c).symm,fun hm=>?_⟩
  subst hm
  exact ⟨_,ee,wkA [] [] []⟩
 intro h hb
 subst hb
 refine sr_<|mv_ ee<|as_ ee<|as_ ee<|nt_ ?_
 obtain rfl:=q9 b
 exact fR_ (.d (.tup [i_ h,i_ 0])) ee
theorem qxx (g : List q8) (c : qk) (r : Bool) (a : qac g c = some r) : Pure Tryz.prog tab 7 [.sl 6 (g.map qf),.agg [i_ c.X,i_ c.Y,i_ c.Z]] (.bool r):=by
 unfold qac at a
 refine qn Tryz.func7 ee (by kernel_rfl) (by kernel_rfl) ee<|sr_<|q20 (.ref 0 3 0 0) (.dat 3 [[i_ c.X,i_ c.Y,i_ c.Z]]) ee<|as_ ee<|qs ?_
 obtain ⟨k,h2,a⟩:=q6 a
 refine pc_ (qu2 k h2) ee<|as_ ee<|q0<|qa<|sr_<|mv_ ee ?_
 obtain ⟨r3,h4,a⟩:=q6 a
 refine pc_ (qf5 (.cons (.refl _) (.cons (.nil _) .nil)) (qxy g [] r3 h4)) ee<|v_ (db_ (!r3)) ee ?_
 obtain ⟨c5,q,a⟩:=q6 a
 refine qq 4 (fun A st=>∃ (j7 j8 j9 : V),st = A [(22,db_ c5),(21,j9),(20,j8),(19,j7)]) ?_ ?_
 ·refine qu ee ee q (fun q=>?_) (fun q=>?_)
  ·refine q7 ee<|q7 ee<|v_ (db_ true) ee<|q0 ?_
   obtain rfl:=q9 q
   exact ⟨_,_,_,ee⟩
  refine mv_ ee<|v_ (db_ (!k)) ee<|v_ (db_ (!k)) ee<|q0 ?_
  obtain rfl:=q9 q
  exact ⟨_,_,_,ee⟩
 rintro _ ⟨j7,j8,j9,rfl⟩
 refine q0 ?_
 refine qg ee a (fun _ a=>?_) (fun _ a=>?_)
 ·refine sr_<|mv_ ee<|as_ ee<|nt_ ?_
  obtain rfl:=q9 a
  exact fR_ (db_ k) ee
 refine qh<|sr_<|mv_ ee<|v_ (.ref 0 3 0 2) ee<|v_ (di_ c.Z) ee ?_
 obtain ⟨n,ca,a⟩:=q6 a
 refine pc_ (qh8 g c.Z n ca) ee<|mv_ ee<|v_ (.d (.sl 4 (n.1.map qd))) ee<|v_ (di_ n.2) ee<|as_ ee<|as_ ee<|q0<|qa<|qa<|qm [(some [],[]),(some [],[]),(some [],[]),(some [0],[]),(some [],[]),(some [],[]),(some [0],[]),(some [],[]),(some [0],[]),(some [],[]),(some [],[]),(some [],[]),(some [],[]),(some [],[]),(some [],[]),(some [],[]),(some [],[]),(some [],[]),(some [],[])] (by kernel_rfl)<|mv_ ee<|v_ (db_ (n.2 != 0)) ee ?_
 obtain ⟨cb,l,a⟩:=q6 a
 refine qq 5 (fun A st=>∃ (ag ah ai aj : V),st = A [(37,db_ cb),(36,aj),(35,ai),(34,ah),(33,ag)]) ?_ ?_
 ·refine qu ee ee l (fun l=>?_) (fun l=>?_)
  ·refine q7 ee<|q7 ee<|q7 ee<|v_ (db_ true) ee<|q0 ?_
   obtain rfl:=q9 l
   exact ⟨_,_,_,_,ee⟩
  refine mv_ ee ?_
  obtain ⟨z,cc,l⟩:=q6 l
  refine pc_ (qun n.1 z cc) ee<|v_ (db_ (z != 0)) ee<|v_ (db_ (z != 0)) ee<|q0 ?_
  obtain rfl:=q9 l
  exact ⟨_,_,_,_,ee⟩
 rintro _ ⟨ag,ah,ai,aj,rfl⟩
 obtain ⟨cd,h,a⟩:=q6 a
 refine qq 12 (fun A st=>∃ (ak al am an ao ap aq ar au av aw : V),st = A [(49,db_ cd),(48,aw),(47,av),(46,au),(45,ar),(44,aq),(43,ap),(42,ao),(41,an),(40,am),(39,al),(38,ak)]) ?_ ?_
 ·refine qu ee ee h (fun h=>?_) (fun h=>?_)
  ·refine q7 ee<|q7 ee<|q7 ee<|q7 ee<|q7 ee<|q7 ee<|q7 ee<|q7 ee<|q7 ee<|q7 ee<|v_ (db_ true) ee<|q0 ?_
   obtain rfl:=q9 h
   exact ⟨_,_,_,_,_,_,_,_,_,_,_,ee⟩
  refine mv_ ee<|v_ (.ref 0 3 0 0) ee<|v_ (di_ c.X) ee<|v_ (.ref 0 3 0 1) ee<|v_ (di_ c.Y) ee ?_
  obtain ⟨aa,ce,h⟩:=q6 h
  refine pc_ (qjk n.1 c.X c.Y aa ce) ee<|mv_ ee<|v_ (.d (.agg [i_ c.X,i_ c.Y,i_ c.Z])) ee ?_
  obtain ⟨ab,cf,h⟩:=q6 h
  refine pc_ (qen g c ab cf) ee<|v_ (.d (.bool (!(aa == ab)))) ee<|v_ (.d (.bool (!(aa == ab)))) ee<|q0 ?_
  obtain rfl:=q9 h
  exact ⟨_,_,_,_,_,_,_,_,_,_,_,ee⟩
 rintro _ ⟨ak,al,am,an,ao,ap,aq,ar,au,av,aw,rfl⟩
 refine q0 ?_
 refine qg ee a (fun _ a=>?_) (fun _ a=>?_)
 ·refine sr_<|as_ ee<|nt_ ?_
  obtain rfl:=q9 a
  exact fR_ (db_ false) ee
 refine qh<|sr_<|mv_ ee ?_
 obtain ⟨b,cg,a⟩:=q6 a
 refine pc_ (qsq g b cg) ee<|mv_ ee<|v_ (.d (.agg [i_ b.1.Lo.X,i_ b.1.Lo.Y,i_ b.1.Lo.Z,i_ b.1.Hi.X,i_ b.1.Hi.Y,i_ b.1.Hi.Z])) ee<|v_ (di_ b.2) ee<|q13 ee ee<|q1f 1 (.dat 6 [[i_ b.1.Lo.X,i_ b.1.Lo.Y,i_ b.1.Lo.Z,i_ b.1.Hi.X,i_ b.1.Hi.Y,i_ b.1.Hi.Z]]) ee<|as_ ee<|q0<|qa<|sr_<|mv_ ee<|v_ (db_ (b.2 != 0)) ee<|q0 ?_
 refine qg ee a (fun _ a=>?_) (fun _ a=>?_)
 ·refine sr_<|mv_ ee ?_
  obtain ⟨ch,s,a⟩:=q6 a
  refine qq 4 (fun A st=>∃ (ax ay az : V),st = A [(61,db_ ch),(60,az),(59,ay),(58,ax)]) ?_ ?_
  ·refine qu ee ee s (fun s=>?_) (fun s=>?_)
   ·refine mv_ ee<|v_ (db_ (b.2 == 6)) ee<|v_ (db_ (b.2 == 6)) ee<|q0 ?_
    obtain rfl:=q9 s
    exact ⟨_,_,_,ee⟩
   refine q7 ee<|q7 ee<|v_ (db_ false) ee<|q0 ?_
   obtain rfl:=q9 s
   exact ⟨_,_,_,ee⟩
  rintro _ ⟨ax,ay,az,rfl⟩
  obtain ⟨ba,t,a⟩:=q6 a
  refine qq 5 (fun A st=>∃ (bb bc bd be : V),st = A [(66,db_ ba),(65,be),(64,bd),(63,bc),(62,bb)]) ?_ ?_
  ·refine qu ee ee t (fun t=>?_) (fun t=>?_)
   ·refine mv_ ee<|ln_ ee<|v_ (.d (.bool ((g.length : Int) == 0))) ee<|v_ (.d (.bool ((g.length : Int) == 0))) ee<|q0 ?_
    obtain rfl:=q9 t
    exact ⟨_,_,_,_,ee⟩
   refine q7 ee<|q7 ee<|q7 ee<|v_ (db_ false) ee<|q0 ?_
   obtain rfl:=q9 t
   exact ⟨_,_,_,_,ee⟩
  rintro _ ⟨bb,bc,bd,be,rfl⟩
  refine as_ ee<|nt_ ?_
  obtain rfl:=q9 a
  exact fR_ (db_ ba) ee
 refine qh<|qa<|sr_<|v_ (.ref 1 6 0 0) ee<|v_ (.ref 1 6 0 2) ee<|v_ (di_ b.1.Lo.Z) ee<|v_ (.d (.bool (decide (b.1.Lo.Z < (-100))))) ee ?_
 obtain ⟨ci,u,a⟩:=q6 a
 refine qq 6 (fun A st=>∃ (bf bg bh bi bj : V),st = A [(76,db_ ci),(75,bj),(74,bi),(73,bh),(72,bg),(71,bf)]) ?_ ?_
 ·refine qu ee ee u (fun u=>?_) (fun u=>?_)
  ·refine q7 ee<|q7 ee<|q7 ee<|q7 ee<|v_ (db_ true) ee<|q0 ?_
   obtain rfl:=q9 u
   exact ⟨_,_,_,_,_,ee⟩
  refine v_ (.ref 1 6 0 3) ee<|v_ (.ref 1 6 0 5) ee<|v_ (di_ b.1.Hi.Z) ee<|v_ (.d (.bool (decide (b.1.Hi.Z > 100)))) ee<|v_ (.d (.bool (decide (b.1.Hi.Z > 100)))) ee<|q0 ?_
  obtain rfl:=q9 u
  exact ⟨_,_,_,_,_,ee⟩
 rintro _ ⟨bf,bg,bh,bi,bj,rfl⟩
 refine q0 ?_
 refine qg ee a (fun _ a=>?_) (fun _ a=>?_)
 ·refine sr_<|mv_ ee<|as_ ee<|nt_ ?_
  obtain rfl:=q9 a
  exact fR_ (db_ k) ee
 refine qh<|sr_<|mv_ ee ?_
 obtain ⟨j,cj,a⟩:=q6 a
 refine pc_ (qer g j cj) ee<|mv_ ee<|v_ (di_ j.1) ee<|v_ (di_ j.2) ee<|as_ ee<|as_ ee<|q0<|qa<|sr_<|v_ (.ref 1 6 0 0) ee<|v_ (.ref 1 6 0 2) ee<|v_ (di_ b.1.Lo.Z) ee<|as_ ee<|q0 ?_
 obtain ⟨bk,ck,a⟩:=q6 a
 refine qp (fun o=>.inl o = bk) (fun (o : Int)=>⟨[(5,db_ k),(10,di_ o),(11,di_ j.2)],[],0⟩) (by simp) ?_ ?_
 ·refine qt (q5q b g) (fun (m : Int × Int)=>⟨[(0,.d (.sl 6 (g.map qf))),(5,db_ k),(8,.ref 0 6 0 0),(10,di_ m.1),(11,di_ j.2),(12,di_ m.2)],[(0,.dat 6 [[i_ b.1.Lo.X,i_ b.1.Lo.Y,i_ b.1.Lo.Z,i_ b.1.Hi.X,i_ b.1.Hi.Y,i_ b.1.Hi.Z]])],1⟩) (j.1,b.1.Lo.Z) bk ck (wkA [(0,1)] [] []) ?_
  intro m cp f
  unfold q5q at f
  refine qa<|sr_<|mv_ ee<|v_ (.ref 0 6 0 3) ee<|v_ (.ref 0 6 0 5) ee<|v_ (di_ b.1.Hi.Z) ee<|v_ (.d (.bool (decide (m.2 < b.1.Hi.Z)))) ee<|q0 ?_
  refine qg ee f (fun _ f=>?_) (fun _ f=>?_)
  ·refine qh<|qa<|ql<|sr_<|mv_ ee<|mv_ ee ?_
   obtain ⟨v,cl,f⟩:=q6 f
   refine pc_ (qh8 g m.2 v cl) ee<|mv_ ee<|v_ (.d (.sl 4 (v.1.map qd))) ee<|v_ (di_ v.2) ee<|as_ ee<|as_ ee<|qs<|mv_ ee ?_
   obtain ⟨p,cm,f⟩:=q6 f
   refine pc_ (qqf v.1 p cm) ee<|mv_ ee<|v_ (di_ p.1) ee<|v_ (di_ p.2) ee<|as_ ee<|as_ ee<|q0<|qa<|sr_<|mv_ ee<|v_ (db_ (v.2 != 0)) ee ?_
   obtain ⟨cn,w,f⟩:=q6 f
   refine qq 4 (fun A st=>∃ (bl bm bn : V),st = A [(109,db_ cn),(108,bn),(107,bm),(106,bl)]) ?_ ?_
   ·refine qu ee ee w (fun w=>?_) (fun w=>?_)
    ·refine q7 ee<|q7 ee<|v_ (db_ true) ee<|q0 ?_
     obtain rfl:=q9 w
     exact ⟨_,_,_,ee⟩
    refine mv_ ee<|v_ (db_ (p.2 != 0)) ee<|v_ (db_ (p.2 != 0)) ee<|q0 ?_
    obtain rfl:=q9 w
    exact ⟨_,_,_,ee⟩
   rintro _ ⟨bl,bm,bn,rfl⟩
   refine q0 ?_
   refine qg ee f (fun _ f=>?_) (fun _ f=>?_)
   ·refine sr_<|as_ ee<|nt_ ?_
    refine ⟨_,(Option.some.inj f).symm,fun hm=>?_⟩
    subst hm
    obtain rfl:=q9 a
    exact fR_ (db_ false) ee
   refine qh<|qi<|mv_ ee<|mv_ ee<|v_ (.d (i_ (w64 (m.1 - p.1)))) ee<|as_ ee<|nl_<|qw<|qi<|mv_ ee<|v_ (.d (i_ (w64 (m.2 + 1)))) ee<|as_ ee<|nl_ ?_
   exact ⟨_,(Option.some.inj f).symm,wkA [(0,0)] [] []⟩
  refine qv ?_
  refine ⟨_,(Option.some.inj f).symm,fun hm=>?_⟩
  subst hm
  exact ⟨_,ee,wkA [] [] []⟩
 intro o hb
 subst hb
 refine sr_<|mv_ ee ?_
 obtain ⟨co,x,a⟩:=q6 a
 refine qq 4 (fun A st=>∃ (bo bp bq : V),st = A [(117,db_ co),(116,bq),(115,bp),(114,bo)]) ?_ ?_
 ·refine qu ee ee x (fun x=>?_) (fun x=>?_)
  ·refine mv_ ee<|v_ (db_ (j.2 == 0)) ee<|v_ (db_ (j.2 == 0)) ee<|q0 ?_
   obtain rfl:=q9 x
   exact ⟨_,_,_,ee⟩
  refine q7 ee<|q7 ee<|v_ (db_ false) ee<|q0 ?_
  obtain rfl:=q9 x
  exact ⟨_,_,_,ee⟩
 rintro _ ⟨bo,bp,bq,rfl⟩
 obtain ⟨br,y,a⟩:=q6 a
 refine qq 4 (fun A st=>∃ (bs bt bu : V),st = A [(121,db_ br),(120,bu),(119,bt),(118,bs)]) ?_ ?_
 ·refine qu ee ee y (fun y=>?_) (fun y=>?_)
  ·refine mv_ ee<|v_ (db_ (o == 0)) ee<|v_ (db_ (o == 0)) ee<|q0 ?_
   obtain rfl:=q9 y
   exact ⟨_,_,_,ee⟩
  refine q7 ee<|q7 ee<|v_ (db_ false) ee<|q0 ?_
  obtain rfl:=q9 y
  exact ⟨_,_,_,ee⟩
 rintro _ ⟨bs,bt,bu,rfl⟩
 refine as_ ee<|nt_ ?_
 obtain rfl:=q9 a
 exact fR_ (db_ br) ee
end Go.Proofs.YtjjmcdlnadkjbaaGreat
namespace Go.Proofs.YtjjmcdlnadkjbaaGreat
open Go Go.Am Go.Sh
end Go.Proofs.YtjjmcdlnadkjbaaGreat
