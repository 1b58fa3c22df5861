/- W_Alld -/
import Derived.Test.YtjjmcdlnadkjbaaGreatK17
namespace Go.Proofs.YtjjmcdlnadkjbaaGreat
open Go Go.Am Go.Sh
set_option maxHeartbeats 8000000
set_option maxRecDepth 100000
theorem qwk (h : List qd) (r : qd × Int) (g : q8m h = some r) : Pure Tryz.prog tab 28 [.sl 6 (h.map qr)] (.tup [.agg [G r.1.Lo.X,G r.1.Lo.Y,G r.1.Lo.Z,G r.1.Hi.X,G r.1.Hi.Y,G r.1.Hi.Z],G r.2]):=by
 unfold q8m at g
 refine Qb Tryz.func28 J (by kernel_rfl) (by kernel_rfl) J<|qa<|Qk J J<|q8 J<|q9<|qe<|qa<|U J ?_
 obtain ⟨k,m,g⟩:=q7 g
 refine qv (qas h k m) J<|q8 J<|qp<|U J<|O (qf (k != 0)) J<|q9 ?_
 refine qj J g (fun _ g=>?_) (fun _ g=>?_)
 ·refine qa<|O (.d (.agg [G 0,G 0,G 0,G 0,G 0,G 0])) J<|U J<|qz 0 (.dat 6 [[G 0,G 0,G 0,G 0,G 0,G 0]]) J<|q8 J<|qo ?_
  obtain rfl:=qc g
  exact qy (.d (.tup [.agg [G 0,G 0,G 0,G 0,G 0,G 0],G k])) J
 refine qk<|qe<|qa<|U J<|Qg J<|O (.d (.bool ((h.length : Int) == 0))) J<|q9 ?_
 refine qj J g (fun _ g=>?_) (fun _ g=>?_)
 ·refine qa<|O (.d (.agg [G 0,G 0,G 0,G 0,G 0,G 0])) J<|qz 0 (.dat 6 [[G 0,G 0,G 0,G 0,G 0,G 0]]) J<|q8 J<|qo ?_
  obtain rfl:=qc g
  exact qy (.d (.tup [.agg [G 0,G 0,G 0,G 0,G 0,G 0],G 6])) J
 refine qk<|qa<|U J ?_
 obtain ⟨f,n,g⟩:=q7 g
 refine Q3 (enc:=qr) n J<|O (.d (.agg [G f.Lo.X,G f.Lo.Y,G f.Lo.Z,G f.Hi.X,G f.Hi.Y,G f.Hi.Z])) J<|Qk J J<|qz 1 (.dat 6 [[G f.Lo.X,G f.Lo.Y,G f.Lo.Z,G f.Hi.X,G f.Hi.Y,G f.Hi.Z]]) J<|q9<|qe<|qa<|U J<|Qg J<|U J<|q9 ?_
 obtain ⟨l,o,g⟩:=q7 g
 refine Q9 (fun c=>c = l) (fun (c : Int × Int × Int × Int × Int × Int)=>⟨[(2,.ref 0 6 0 0),(5,.ref 1 6 0 0)],[(0,.dat 6 [[G 0,G 0,G 0,G 0,G 0,G 0]]),(1,.dat 6 [[G c.1,G c.2.1,G c.2.2.1,G c.2.2.2.1,G c.2.2.2.2.1,G c.2.2.2.2.2]])],2⟩) (by simp) ?_ ?_
 ·refine Q4 (q3j h) (fun (a : Int × Int × Int × Int × Int × Int × Int)=>⟨[(2,.ref 0 6 0 0),(5,.ref 1 6 0 0),(21,.d (.sl 6 (h.map qr))),(22,q6 (h.length : Int)),(23,q6 a.1)],[(0,.dat 6 [[G 0,G 0,G 0,G 0,G 0,G 0]]),(1,.dat 6 [[G a.2.1,G a.2.2.1,G a.2.2.2.1,G a.2.2.2.2.1,G a.2.2.2.2.2.1,G a.2.2.2.2.2.2]])],2⟩) (0,f.Lo.X,f.Lo.Y,f.Lo.Z,f.Hi.X,f.Hi.Y,f.Hi.Z) l o (wkA [(0,0),(1,1)] [] []) ?_
  intro a q j
  unfold q3j at j
  refine qa<|O (.d (.bool (decide (a.1 < (h.length : Int))))) J<|q9<|qe ?_
  refine qj J j (fun _ j=>?_) (fun _ j=>?_)
  ·refine qk<|qe<|qw<|qa ?_
   obtain ⟨b,p,j⟩:=q7 j
   refine Q3 (enc:=qr) p J<|O (.d (.agg [G b.Lo.X,G b.Lo.Y,G b.Lo.Z,G b.Hi.X,G b.Hi.Y,G b.Hi.Z])) J<|Qk J J<|qz 2 (.dat 6 [[G b.Lo.X,G b.Lo.Y,G b.Lo.Z,G b.Hi.X,G b.Hi.Y,G b.Hi.Z]]) J<|qp<|O (.ref 1 6 0 0) J<|O (.ref 1 6 0 0) J<|O (q6 a.2.1) J<|O (.ref 2 6 0 0) J<|O (.ref 2 6 0 0) J<|O (q6 b.Lo.X) J<|Y4 (r:=min a.2.1 b.Lo.X) J J (by simp only [Y2];rfl)<|O (.ref 1 6 0 0) J<|O (.ref 1 6 0 1) J<|O (q6 a.2.2.1) J<|O (.ref 2 6 0 0) J<|O (.ref 2 6 0 1) J<|O (q6 b.Lo.Y) J<|Y4 (r:=min a.2.2.1 b.Lo.Y) J J (by simp only [Y2];rfl)<|O (.ref 1 6 0 0) J<|O (.ref 1 6 0 2) J<|O (q6 a.2.2.2.1) J<|O (.ref 2 6 0 0) J<|O (.ref 2 6 0 2) J<|O (q6 b.Lo.Z) J<|Y4 (r:=min a.2.2.2.1 b.Lo.Z) J J (by simp only [Y2];rfl)<|O (.d (.agg [G (min a.2.1 b.Lo.X),G (min a.2.2.1 b.Lo.Y),G (min a.2.2.2.1 b.Lo.Z)])) J<|O (.ref 1 6 0 0) J<|qz 1 (.dat 6 [[G (min a.2.1 b.Lo.X),G (min a.2.2.1 b.Lo.Y),G (min a.2.2.2.1 b.Lo.Z),G a.2.2.2.2.1,G a.2.2.2.2.2.1,G a.2.2.2.2.2.2]]) J<|q9<|qt<|O (.ref 1 6 0 3) J<|O (.ref 1 6 0 3) J<|O (q6 a.2.2.2.2.1) J<|O (.ref 2 6 0 3) J<|O (.ref 2 6 0 3) J<|O (q6 b.Hi.X) J<|Y3 (r:=max a.2.2.2.2.1 b.Hi.X) J J (by simp only [Kz];rfl)<|O (.ref 1 6 0 3) J<|O (.ref 1 6 0 4) J ?_
   refine O (q6 a.2.2.2.2.2.1) J<|O (.ref 2 6 0 3) J<|O (.ref 2 6 0 4) J<|O (q6 b.Hi.Y) J<|Y3 (r:=max a.2.2.2.2.2.1 b.Hi.Y) J J (by simp only [Kz];rfl)<|O (.ref 1 6 0 3) J<|O (.ref 1 6 0 5) J<|O (q6 a.2.2.2.2.2.2) J<|O (.ref 2 6 0 3) J<|O (.ref 2 6 0 5) J<|O (q6 b.Hi.Z) J<|Y3 (r:=max a.2.2.2.2.2.2 b.Hi.Z) J J (by simp only [Kz];rfl)<|O (.d (.agg [G (max a.2.2.2.2.1 b.Hi.X),G (max a.2.2.2.2.2.1 b.Hi.Y),G (max a.2.2.2.2.2.2 b.Hi.Z)])) J<|O (.ref 1 6 0 3) J<|qz 1 (.dat 6 [[G (min a.2.1 b.Lo.X),G (min a.2.2.1 b.Lo.Y),G (min a.2.2.2.1 b.Lo.Z),G (max a.2.2.2.2.1 b.Hi.X),G (max a.2.2.2.2.2.1 b.Hi.Y),G (max a.2.2.2.2.2.2 b.Hi.Z)]]) J<|qq<|Qa<|qt<|O (.d (G (w64 (a.1 + 1)))) J<|U J<|qq ?_
   exact ⟨_,(Option.some.inj j).symm,wkA [(0,0),(1,1)] [] []⟩
  refine Q1 ?_
  refine ⟨_,(Option.some.inj j).symm,fun hm=>?_⟩
  subst hm
  exact ⟨_,J,wkA [(0,0),(1,1)] [] []⟩
 intro c hb
 subst hb
 refine qa<|O (.d (.agg [G c.1,G c.2.1,G c.2.2.1,G c.2.2.2.1,G c.2.2.2.2.1,G c.2.2.2.2.2])) J<|qz 0 (.dat 6 [[G c.1,G c.2.1,G c.2.2.1,G c.2.2.2.1,G c.2.2.2.2.1,G c.2.2.2.2.2]]) J<|q8 J<|qo ?_
 obtain rfl:=qc g
 exact qy (.d (.tup [.agg [G c.1,G c.2.1,G c.2.2.1,G c.2.2.2.1,G c.2.2.2.2.1,G c.2.2.2.2.2],G 0])) J
theorem qrc (o : List qd) (r : qd × Int) (c : q7a o = some r) : Pure Tryz.prog tab 29 [.sl 6 (o.map qr)] (.tup [.agg [G r.1.Lo.X,G r.1.Lo.Y,G r.1.Lo.Z,G r.1.Hi.X,G r.1.Hi.Y,G r.1.Hi.Z],G r.2]):=by
 unfold q7a at c
 refine Qb Tryz.func29 J (by kernel_rfl) (by kernel_rfl) J<|qa<|Qk J J<|q8 J<|q9<|qe<|qa<|U J ?_
 obtain ⟨p,t,c⟩:=q7 c
 refine qv (q1l o p t) J<|O (qf (p != 0)) J<|q9 ?_
 refine qj J c (fun _ c=>?_) (fun _ c=>?_)
 ·refine qa<|O (.d (.agg [G 0,G 0,G 0,G 0,G 0,G 0])) J<|U J ?_
  obtain ⟨q,u,c⟩:=q7 c
  refine qv (q1l o q u) J<|qz 0 (.dat 6 [[G 0,G 0,G 0,G 0,G 0,G 0]]) J<|q8 J<|qo ?_
  obtain rfl:=qc c
  exact qy (.d (.tup [.agg [G 0,G 0,G 0,G 0,G 0,G 0],G q])) J
 refine qk<|qe<|qa<|U J<|Qg J<|O (.d (.bool ((o.length : Int) == 0))) J<|q9 ?_
 refine qj J c (fun _ c=>?_) (fun _ c=>?_)
 ·refine qa<|O (.d (.agg [G 0,G 0,G 0,G 0,G 0,G 0])) J<|qz 0 (.dat 6 [[G 0,G 0,G 0,G 0,G 0,G 0]]) J<|q8 J<|qo ?_
  obtain rfl:=qc c
  exact qy (.d (.tup [.agg [G 0,G 0,G 0,G 0,G 0,G 0],G 6])) J
 refine qk<|qa<|U J ?_
 obtain ⟨f,v,c⟩:=q7 c
 refine Q3 (enc:=qr) v J<|O (.d (.agg [G f.Lo.X,G f.Lo.Y,G f.Lo.Z,G f.Hi.X,G f.Hi.Y,G f.Hi.Z])) J<|Qk J J<|qz 1 (.dat 6 [[G f.Lo.X,G f.Lo.Y,G f.Lo.Z,G f.Hi.X,G f.Hi.Y,G f.Hi.Z]]) J<|q9<|qe<|qa<|q8 J<|q9 ?_
 obtain ⟨s,w,c⟩:=q7 c
 refine Q9 (fun b=>b = s) (fun (b : Int × Int × Int × Int × Int × Int)=>⟨[(2,.ref 0 6 0 0),(4,.ref 1 6 0 0)],[(0,.dat 6 [[G 0,G 0,G 0,G 0,G 0,G 0]]),(1,.dat 6 [[G b.1,G b.2.1,G b.2.2.1,G b.2.2.2.1,G b.2.2.2.2.1,G b.2.2.2.2.2]])],2⟩) (by simp) ?_ ?_
 ·refine Q4 (q30 o) (fun (a : Int × Int × Int × Int × Int × Int × Int)=>⟨[(0,.d (.sl 6 (o.map qr))),(2,.ref 0 6 0 0),(4,.ref 1 6 0 0),(5,q6 a.1)],[(0,.dat 6 [[G 0,G 0,G 0,G 0,G 0,G 0]]),(1,.dat 6 [[G a.2.1,G a.2.2.1,G a.2.2.2.1,G a.2.2.2.2.1,G a.2.2.2.2.2.1,G a.2.2.2.2.2.2]])],2⟩) (1,f.Lo.X,f.Lo.Y,f.Lo.Z,f.Hi.X,f.Hi.Y,f.Hi.Z) s w (wkA [(0,0),(1,1)] [] []) ?_
  intro a ad g
  unfold q30 at g
  refine qe<|qa<|U J<|U J<|Qg J<|O (.d (.bool (decide (a.1 < (o.length : Int))))) J<|q9 ?_
  refine qj J g (fun _ g=>?_) (fun _ g=>?_)
  ·refine qk<|qe<|qw<|qe<|Q2 [Q7 1,q0,q0,q0,q0,q0,q0,q0,q0,q0,qm 1,q0,q0,q0,q0,q0,q0,q0,q0,q0,qm 1,q0,q0,q0,q0,q0,q0,q0,q0,q0,qm 1,q0,q0] (by kernel_rfl)<|O (.ref 1 6 0 0) J<|O (.ref 1 6 0 0) J<|O (q6 a.2.1) J<|U J<|U J ?_
   obtain ⟨h,x,g⟩:=q7 g
   refine Q3 (enc:=qr) x J<|O (.dref [G h.Lo.X,G h.Lo.Y,G h.Lo.Z,G h.Hi.X,G h.Hi.Y,G h.Hi.Z] 0) J<|O (.dref [G h.Lo.X,G h.Lo.Y,G h.Lo.Z,G h.Hi.X,G h.Hi.Y,G h.Hi.Z] 0) J<|O (q6 h.Lo.X) J<|Y4 (r:=min a.2.1 h.Lo.X) J J (by simp only [Y2];rfl)<|O (.ref 1 6 0 0) J<|O (.ref 1 6 0 1) J<|O (q6 a.2.2.1) J<|U J<|U J ?_
   obtain ⟨j,y,g⟩:=q7 g
   refine Q3 (enc:=qr) y J<|O (.dref [G j.Lo.X,G j.Lo.Y,G j.Lo.Z,G j.Hi.X,G j.Hi.Y,G j.Hi.Z] 0) J<|O (.dref [G j.Lo.X,G j.Lo.Y,G j.Lo.Z,G j.Hi.X,G j.Hi.Y,G j.Hi.Z] 1) J<|O (q6 j.Lo.Y) J<|Y4 (r:=min a.2.2.1 j.Lo.Y) J J (by simp only [Y2];rfl)<|O (.ref 1 6 0 0) J<|O (.ref 1 6 0 2) J<|O (q6 a.2.2.2.1) J<|U J<|U J ?_
   obtain ⟨k,z,g⟩:=q7 g
   refine Q3 (enc:=qr) z J<|O (.dref [G k.Lo.X,G k.Lo.Y,G k.Lo.Z,G k.Hi.X,G k.Hi.Y,G k.Hi.Z] 0) J<|O (.dref [G k.Lo.X,G k.Lo.Y,G k.Lo.Z,G k.Hi.X,G k.Hi.Y,G k.Hi.Z] 2) J<|O (q6 k.Lo.Z) J<|Y4 (r:=min a.2.2.2.1 k.Lo.Z) J J (by simp only [Y2];rfl)<|O (.d (.agg [G (min a.2.1 h.Lo.X),G (min a.2.2.1 j.Lo.Y),G (min a.2.2.2.1 k.Lo.Z)])) J<|O (.ref 1 6 0 0) J<|qz 1 (.dat 6 [[G (min a.2.1 h.Lo.X),G (min a.2.2.1 j.Lo.Y),G (min a.2.2.2.1 k.Lo.Z),G a.2.2.2.2.1,G a.2.2.2.2.2.1,G a.2.2.2.2.2.2]]) J<|q9<|Q2 [Q7 1,q0,q0,q0,q0,q0,q0,q0,q0,q0,qm 1,q0,q0,q0,q0,q0,q0,q0,q0,q0,qm 1,q0,q0,q0,q0,q0,q0,q0,q0,q0,qm 1,q0,q0] (by kernel_rfl)<|O (.ref 1 6 0 3) J<|O (.ref 1 6 0 3) J<|O (q6 a.2.2.2.2.1) J<|U J<|U J ?_
   obtain ⟨l,aa,g⟩:=q7 g
   refine Q3 (enc:=qr) aa J<|O (.dref [G l.Lo.X,G l.Lo.Y,G l.Lo.Z,G l.Hi.X,G l.Hi.Y,G l.Hi.Z] 3) J<|O (.dref [G l.Lo.X,G l.Lo.Y,G l.Lo.Z,G l.Hi.X,G l.Hi.Y,G l.Hi.Z] 3) J<|O (q6 l.Hi.X) J<|Y3 (r:=max a.2.2.2.2.1 l.Hi.X) J J (by simp only [Kz];rfl)<|O (.ref 1 6 0 3) J<|O (.ref 1 6 0 4) J<|O (q6 a.2.2.2.2.2.1) J<|U J<|U J ?_
   obtain ⟨m,ab,g⟩:=q7 g
   refine Q3 (enc:=qr) ab J<|O (.dref [G m.Lo.X,G m.Lo.Y,G m.Lo.Z,G m.Hi.X,G m.Hi.Y,G m.Hi.Z] 3) J<|O (.dref [G m.Lo.X,G m.Lo.Y,G m.Lo.Z,G m.Hi.X,G m.Hi.Y,G m.Hi.Z] 4) J<|O (q6 m.Hi.Y) J<|Y3 (r:=max a.2.2.2.2.2.1 m.Hi.Y) J J (by simp only [Kz];rfl)<|O (.ref 1 6 0 3) J<|O (.ref 1 6 0 5) J<|O (q6 a.2.2.2.2.2.2) J<|U J<|U J ?_
   obtain ⟨n,ac,g⟩:=q7 g
   refine Q3 (enc:=qr) ac J<|O (.dref [G n.Lo.X,G n.Lo.Y,G n.Lo.Z,G n.Hi.X,G n.Hi.Y,G n.Hi.Z] 3) J<|O (.dref [G n.Lo.X,G n.Lo.Y,G n.Lo.Z,G n.Hi.X,G n.Hi.Y,G n.Hi.Z] 5) J<|O (q6 n.Hi.Z) J<|Y3 (r:=max a.2.2.2.2.2.2 n.Hi.Z) J J (by simp only [Kz];rfl)<|O (.d (.agg [G (max a.2.2.2.2.1 l.Hi.X),G (max a.2.2.2.2.2.1 m.Hi.Y),G (max a.2.2.2.2.2.2 n.Hi.Z)])) J<|O (.ref 1 6 0 3) J<|qz 1 (.dat 6 [[G (min a.2.1 h.Lo.X),G (min a.2.2.1 j.Lo.Y),G (min a.2.2.2.1 k.Lo.Z),G (max a.2.2.2.2.1 l.Hi.X),G (max a.2.2.2.2.2.1 m.Hi.Y),G (max a.2.2.2.2.2.2 n.Hi.Z)]]) J<|qq<|Qa<|qt<|U J<|O (.d (G (w64 (a.1 + 1)))) J<|q8 J<|qq ?_
   exact ⟨_,(Option.some.inj g).symm,wkA [(0,0),(1,1)] [] []⟩
  refine Q1 ?_
  refine ⟨_,(Option.some.inj g).symm,fun hm=>?_⟩
  subst hm
  exact ⟨_,J,wkA [(0,0),(1,1)] [] []⟩
 intro b hb
 subst hb
 refine qa<|O (.d (.agg [G b.1,G b.2.1,G b.2.2.1,G b.2.2.2.1,G b.2.2.2.2.1,G b.2.2.2.2.2])) J<|qz 0 (.dat 6 [[G b.1,G b.2.1,G b.2.2.1,G b.2.2.2.1,G b.2.2.2.2.1,G b.2.2.2.2.2]]) J<|q8 J<|qo ?_
 obtain rfl:=qc c
 exact qy (.d (.tup [.agg [G b.1,G b.2.1,G b.2.2.1,G b.2.2.2.1,G b.2.2.2.2.1,G b.2.2.2.2.2],G 0])) J
theorem qwr (f : List qd) (g : Int) (r : List qh × Int) (c : q8p f g = some r) : Pure Tryz.prog tab 30 [.sl 6 (f.map qr),G g] (.tup [.sl 4 (r.1.map qs),G r.2]):=by
 unfold q8p at c
 refine Qb Tryz.func30 J (by kernel_rfl) (by kernel_rfl) J<|qa<|q8 J<|q8 J<|q9<|qe<|qa<|U J ?_
 obtain ⟨n,x,c⟩:=q7 c
 refine qv (qas f n x) J<|q8 J<|qp<|U J<|O (qf (n != 0)) J<|q9 ?_
 refine qj J c (fun _ c=>?_) (fun _ c=>?_)
 ·refine qa<|U J<|q8 J<|q8 J<|qo ?_
  obtain rfl:=qc c
  exact finD (.inr J) (v:=.d (.tup [.nilsl,G n])) J J (Kx (.cons (.nil _) (.cons (.refl _) .nil)))
 refine qk<|qa<|q8 J<|q9<|qe<|qa<|U J<|Qg J<|U J<|q9 ?_
 obtain ⟨o,y,c⟩:=q7 c
 refine Q9 (fun k=>k = o) (fun (k : List qh)=>⟨[(7,.hs 0 4 0 k.length)],[(0,.dat 4 (k.map qs))],1⟩) (by simp) ?_ ?_
 ·refine Q4 (qat f g) (fun (h : Int × List qh)=>⟨[(1,q6 g),(7,.hs 0 4 0 h.2.length),(15,.d (.sl 6 (f.map qr))),(16,q6 (f.length : Int)),(17,q6 h.1)],[(0,.dat 4 (h.2.map qs))],1⟩) (0,[]) o y (wkA [] [] [0]) ?_
  intro h ad j
  unfold qat at j
  refine qa<|O (.d (.bool (decide (h.1 < (f.length : Int))))) J<|q9<|qe ?_
  refine qj J j (fun _ j=>?_) (fun _ j=>?_)
  ·refine qk<|qe ?_
   obtain ⟨z,b,j⟩:=q7 j
   refine Q9 (fun l=>l = z) (fun (l : List qh)=>⟨[(1,q6 g),(7,.hs 0 4 0 l.length),(15,.d (.sl 6 (f.map qr))),(16,q6 (f.length : Int)),(17,q6 h.1)],[(0,.dat 4 (l.map qs))],1⟩) (by simp) ?_ ?_
   ·refine qa ?_
    obtain ⟨a,aa,b⟩:=q7 b
    refine Q3 (enc:=qr) aa J<|O (.d (.agg [G a.Lo.X,G a.Lo.Y,G a.Lo.Z,G a.Hi.X,G a.Hi.Y,G a.Hi.Z])) J<|Qk J J<|qz 1 (.dat 6 [[G a.Lo.X,G a.Lo.Y,G a.Lo.Z,G a.Hi.X,G a.Hi.Y,G a.Hi.Z]]) J<|qp<|O (.ref 1 6 0 0) J<|O (.ref 1 6 0 2) J<|O (q6 a.Lo.Z) J<|U J<|O (.d (.bool (decide (a.Lo.Z≤g)))) J ?_
    obtain ⟨ab,m,b⟩:=q7 b
    refine Q5 7 (fun A st=>∃ (p q s t u w : V),st = A [(32,qf ab),(31,w),(30,u),(29,t),(28,s),(27,q),(26,p)]) ?_ ?_
    ·refine Q6 J J m (fun m=>?_) (fun m=>?_)
     ·refine U J<|O (.ref 1 6 0 3) J<|O (.ref 1 6 0 5) J<|O (q6 a.Hi.Z) J<|O (.d (.bool (decide (g < a.Hi.Z)))) J<|O (.d (.bool (decide (g < a.Hi.Z)))) J<|q9 ?_
      obtain rfl:=qc m
      exact ⟨_,_,_,_,_,_,J⟩
     refine qb J<|qb J<|qb J<|qb J<|qb J<|O (qf false) J<|q9 ?_
     obtain rfl:=qc m
     exact ⟨_,_,_,_,_,_,J⟩
    rintro _ ⟨p,q,s,t,u,w,rfl⟩
    refine q9 ?_
    refine qj J b (fun _ b=>?_) (fun _ b=>?_)
    ·refine qt<|U J<|O (.ref 1 6 0 0) J<|O (.ref 1 6 0 0) J<|O (q6 a.Lo.X) J<|O (.ref 1 6 0 0) J<|O (.ref 1 6 0 1) J<|O (q6 a.Lo.Y) J<|O (.ref 1 6 0 3) J<|O (.ref 1 6 0 3) J<|O (q6 a.Hi.X) J<|O (.ref 1 6 0 3) J<|O (.ref 1 6 0 4) J<|O (q6 a.Hi.Y) J<|O (.d (.agg [G a.Lo.X,G a.Lo.Y,G a.Hi.X,G a.Hi.Y])) J<|Qe (.hs 2 4 0 [({X0:=a.Lo.X,Y0:=a.Lo.Y,X1:=a.Hi.X,Y1:=a.Hi.Y} : qh)].length) (.dat 4 ([({X0:=a.Lo.X,Y0:=a.Lo.Y,X1:=a.Hi.X,Y1:=a.Hi.Y} : qh)].map qs)) J ?_
     obtain ⟨ae,ac,b⟩:=q7 b
     refine Kl (xs:=h.2) (ys:=[({X0:=a.Lo.X,Y0:=a.Lo.Y,X1:=a.Hi.X,Y1:=a.Hi.Y} : qh)]) (enc:=qs) (.hs 2 4 0 [({X0:=a.Lo.X,Y0:=a.Lo.Y,X1:=a.Hi.X,Y1:=a.Hi.Y} : qh)].length) ac J J J J J J J (Ki J J) J J J J<|q8 J<|qq ?_
     obtain rfl:=qc b
     exact ⟨_,J,wkA [(0,3)] [] []⟩
    refine qk<|Q8 ?_
    obtain rfl:=qc b
    exact ⟨_,J,wkA [(0,0)] [] []⟩
   intro l hb
   subst hb
   refine qt<|O (.d (G (w64 (h.1 + 1)))) J<|U J<|qq ?_
   exact ⟨_,(Option.some.inj j).symm,wkA [(0,0)] [] []⟩
  refine Q1 ?_
  refine ⟨_,(Option.some.inj j).symm,fun hm=>?_⟩
  subst hm
  exact ⟨_,J,wkA [(0,0)] [] []⟩
 intro k hb
 subst hb
 refine qa<|U J<|q8 J<|q8 J<|qo ?_
 obtain rfl:=qc c
 exact finD (.inr J) (v:=.tup [.hs 0 4 0 k.length,q6 0]) J (qb5 (q1i (Jf J J) (q1i J J))) (.refl _)
theorem qrk (b : List qd) (c : Int) (r : List qh × Int) (a : q7f b c = some r) : Pure Tryz.prog tab 31 [.sl 6 (b.map qr),G c] (.tup [.sl 4 (r.1.map qs),G r.2]):=by
 unfold q7f at a
 refine Qb Tryz.func31 J (by kernel_rfl) (by kernel_rfl) J<|qa<|q8 J<|q8 J<|q9<|qe<|qa<|U J ?_
 obtain ⟨f,k,a⟩:=q7 a
 refine qv (q1l b f k) J<|O (qf (f != 0)) J<|q9 ?_
 refine qj J a (fun _ a=>?_) (fun _ a=>?_)
 ·refine qa<|U J ?_
  obtain ⟨g,l,a⟩:=q7 a
  refine qv (q1l b g l) J<|q8 J<|q8 J<|qo ?_
  obtain rfl:=qc a
  exact finD (.inr J) (v:=.d (.tup [.nilsl,G g])) J J (Kx (.cons (.nil _) (.cons (.refl _) .nil)))
 refine qk<|qa<|U J<|U J ?_
 obtain ⟨h,m,a⟩:=q7 a
 refine qv (q77 b c h m) J ?_
 obtain ⟨j,n,a⟩:=q7 a
 refine qv (q4k (.cons (.refl _) (.cons (.refl _) (.cons (.nil _) .nil))) (qa9 2 h [] j n)) J<|q8 J<|q8 J<|qo ?_
 obtain rfl:=qc a
 exact qy (.d (.tup [.sl 4 (j.map qs),G 0])) J
theorem qwx (a : qd) (b : qd) (r : Int) (c : q8s a b = some r) : Pure Tryz.prog tab 69 [.agg [G a.Lo.X,G a.Lo.Y,G a.Lo.Z,G a.Hi.X,G a.Hi.Y,G a.Hi.Z],.agg [G b.Lo.X,G b.Lo.Y,G b.Lo.Z,G b.Hi.X,G b.Hi.Y,G b.Hi.Z]] (G r):=by
 unfold q8s at c
 refine Qb Tryz.func69 J (by kernel_rfl) (by kernel_rfl) J<|qa<|Qe (.ref 0 6 0 0) (.dat 6 [[G a.Lo.X,G a.Lo.Y,G a.Lo.Z,G a.Hi.X,G a.Hi.Y,G a.Hi.Z]]) J<|Qe (.ref 1 6 0 0) (.dat 6 [[G b.Lo.X,G b.Lo.Y,G b.Lo.Z,G b.Hi.X,G b.Hi.Y,G b.Hi.Z]]) J<|q8 J<|qp<|O (.ref 0 6 0 3) J<|O (.ref 0 6 0 3) J<|O (q6 a.Hi.X) J<|O (.ref 1 6 0 3) J<|O (.ref 1 6 0 3) J<|O (q6 b.Hi.X) J<|Y4 (r:=min a.Hi.X b.Hi.X) J J (by simp only [Y2];rfl)<|O (.ref 0 6 0 0) J<|O (.ref 0 6 0 0) J<|O (q6 a.Lo.X) J<|O (.ref 1 6 0 0) J<|O (.ref 1 6 0 0) J<|O (q6 b.Lo.X) J<|Y3 (r:=max a.Lo.X b.Lo.X) J J (by simp only [Kz];rfl)<|O (.d (G (w64 ((min a.Hi.X b.Hi.X) - (max a.Lo.X b.Lo.X))))) J<|q8 J<|qp<|O (.ref 0 6 0 3) J<|O (.ref 0 6 0 4) J<|O (q6 a.Hi.Y) J<|O (.ref 1 6 0 3) J<|O (.ref 1 6 0 4) J<|O (q6 b.Hi.Y) J<|Y4 (r:=min a.Hi.Y b.Hi.Y) J J (by simp only [Y2];rfl)<|O (.ref 0 6 0 0) J<|O (.ref 0 6 0 1) J<|O (q6 a.Lo.Y) J<|O (.ref 1 6 0 0) J<|O (.ref 1 6 0 1) J<|O (q6 b.Lo.Y) J<|Y3 (r:=max a.Lo.Y b.Lo.Y) J J (by simp only [Kz];rfl)<|O (.d (G (w64 ((min a.Hi.Y b.Hi.Y) - (max a.Lo.Y b.Lo.Y))))) J<|q8 J<|qp ?_
 refine O (.ref 0 6 0 3) J<|O (.ref 0 6 0 5) J<|O (q6 a.Hi.Z) J<|O (.ref 1 6 0 3) J<|O (.ref 1 6 0 5) J<|O (q6 b.Hi.Z) J<|Y4 (r:=min a.Hi.Z b.Hi.Z) J J (by simp only [Y2];rfl)<|O (.ref 0 6 0 0) J<|O (.ref 0 6 0 2) J<|O (q6 a.Lo.Z) J<|O (.ref 1 6 0 0) J<|O (.ref 1 6 0 2) J<|O (q6 b.Lo.Z) J<|Y3 (r:=max a.Lo.Z b.Lo.Z) J J (by simp only [Kz];rfl)<|O (.d (G (w64 ((min a.Hi.Z b.Hi.Z) - (max a.Lo.Z b.Lo.Z))))) J<|q8 J<|q9<|qe<|qw<|qa<|U J<|O (.d (.bool ((w64 ((min a.Hi.X b.Hi.X) - (max a.Lo.X b.Lo.X))) == 0))) J ?_
 obtain ⟨af,f,c⟩:=q7 c
 refine Q5 4 (fun A st=>∃ (m n o : V),st = A [(59,qf af),(58,o),(57,n),(56,m)]) ?_ ?_
 ·refine Q6 J J f (fun f=>?_) (fun f=>?_)
  ·refine U J<|O (.d (.bool (decide ((w64 ((min a.Hi.Y b.Hi.Y) - (max a.Lo.Y b.Lo.Y))) > 0)))) J<|O (.d (.bool (decide ((w64 ((min a.Hi.Y b.Hi.Y) - (max a.Lo.Y b.Lo.Y))) > 0)))) J<|q9 ?_
   obtain rfl:=qc f
   exact ⟨_,_,_,J⟩
  refine qb J<|qb J<|O (qf false) J<|q9 ?_
  obtain rfl:=qc f
  exact ⟨_,_,_,J⟩
 rintro _ ⟨m,n,o,rfl⟩
 obtain ⟨ag,g,c⟩:=q7 c
 refine Q5 4 (fun A st=>∃ (p q s : V),st = A [(63,qf ag),(62,s),(61,q),(60,p)]) ?_ ?_
 ·refine Q6 J J g (fun g=>?_) (fun g=>?_)
  ·refine U J<|O (.d (.bool (decide ((w64 ((min a.Hi.Z b.Hi.Z) - (max a.Lo.Z b.Lo.Z))) > 0)))) J<|O (.d (.bool (decide ((w64 ((min a.Hi.Z b.Hi.Z) - (max a.Lo.Z b.Lo.Z))) > 0)))) J<|q9 ?_
   obtain rfl:=qc g
   exact ⟨_,_,_,J⟩
  refine qb J<|qb J<|O (qf false) J<|q9 ?_
  obtain rfl:=qc g
  exact ⟨_,_,_,J⟩
 rintro _ ⟨p,q,s,rfl⟩
 refine q8 J<|q9 ?_
 refine qj J c (fun _ c=>?_) (fun _ c=>?_)
 ·refine qa<|U J<|U J<|O (.d (G (w64 ((w64 ((min a.Hi.Y b.Hi.Y) - (max a.Lo.Y b.Lo.Y))) * (w64 ((min a.Hi.Z b.Hi.Z) - (max a.Lo.Z b.Lo.Z))))))) J<|q8 J<|qo ?_
  obtain rfl:=qc c
  exact qy (.d (G (w64 ((w64 ((min a.Hi.Y b.Hi.Y) - (max a.Lo.Y b.Lo.Y))) * (w64 ((min a.Hi.Z b.Hi.Z) - (max a.Lo.Z b.Lo.Z))))))) J
 refine qa<|U J<|O (.d (.bool (decide ((w64 ((min a.Hi.X b.Hi.X) - (max a.Lo.X b.Lo.X))) > 0)))) J ?_
 obtain ⟨ah,h,c⟩:=q7 c
 refine Q5 4 (fun A st=>∃ (t u v : V),st = A [(73,qf ah),(72,v),(71,u),(70,t)]) ?_ ?_
 ·refine Q6 J J h (fun h=>?_) (fun h=>?_)
  ·refine U J<|O (.d (.bool ((w64 ((min a.Hi.Y b.Hi.Y) - (max a.Lo.Y b.Lo.Y))) == 0))) J<|O (.d (.bool ((w64 ((min a.Hi.Y b.Hi.Y) - (max a.Lo.Y b.Lo.Y))) == 0))) J<|q9 ?_
   obtain rfl:=qc h
   exact ⟨_,_,_,J⟩
  refine qb J<|qb J<|O (qf false) J<|q9 ?_
  obtain rfl:=qc h
  exact ⟨_,_,_,J⟩
 rintro _ ⟨t,u,v,rfl⟩
 obtain ⟨ai,j,c⟩:=q7 c
 refine Q5 4 (fun A st=>∃ (w x y : V),st = A [(77,qf ai),(76,y),(75,x),(74,w)]) ?_ ?_
 ·refine Q6 J J j (fun j=>?_) (fun j=>?_)
  ·refine U J<|O (.d (.bool (decide ((w64 ((min a.Hi.Z b.Hi.Z) - (max a.Lo.Z b.Lo.Z))) > 0)))) J<|O (.d (.bool (decide ((w64 ((min a.Hi.Z b.Hi.Z) - (max a.Lo.Z b.Lo.Z))) > 0)))) J<|q9 ?_
   obtain rfl:=qc j
   exact ⟨_,_,_,J⟩
  refine qb J<|qb J<|O (qf false) J<|q9 ?_
  obtain rfl:=qc j
  exact ⟨_,_,_,J⟩
 rintro _ ⟨w,x,y,rfl⟩
 refine q8 J<|q9 ?_
 refine qj J c (fun _ c=>?_) (fun _ c=>?_)
 ·refine qa<|U J<|U J<|O (.d (G (w64 ((w64 ((min a.Hi.X b.Hi.X) - (max a.Lo.X b.Lo.X))) * (w64 ((min a.Hi.Z b.Hi.Z) - (max a.Lo.Z b.Lo.Z))))))) J<|q8 J<|qo ?_
  obtain rfl:=qc c
  exact qy (.d (G (w64 ((w64 ((min a.Hi.X b.Hi.X) - (max a.Lo.X b.Lo.X))) * (w64 ((min a.Hi.Z b.Hi.Z) - (max a.Lo.Z b.Lo.Z))))))) J
 refine qa<|U J<|O (.d (.bool (decide ((w64 ((min a.Hi.X b.Hi.X) - (max a.Lo.X b.Lo.X))) > 0)))) J ?_
 obtain ⟨aj,k,c⟩:=q7 c
 refine Q5 4 (fun A st=>∃ (z aa ab : V),st = A [(87,qf aj),(86,ab),(85,aa),(84,z)]) ?_ ?_
 ·refine Q6 J J k (fun k=>?_) (fun k=>?_)
  ·refine U J<|O (.d (.bool (decide ((w64 ((min a.Hi.Y b.Hi.Y) - (max a.Lo.Y b.Lo.Y))) > 0)))) J<|O (.d (.bool (decide ((w64 ((min a.Hi.Y b.Hi.Y) - (max a.Lo.Y b.Lo.Y))) > 0)))) J<|q9 ?_
   obtain rfl:=qc k
   exact ⟨_,_,_,J⟩
  refine qb J<|qb J<|O (qf false) J<|q9 ?_
  obtain rfl:=qc k
  exact ⟨_,_,_,J⟩
 rintro _ ⟨z,aa,ab,rfl⟩
 obtain ⟨ak,l,c⟩:=q7 c
 refine Q5 4 (fun A st=>∃ (ac ad ae : V),st = A [(91,qf ak),(90,ae),(89,ad),(88,ac)]) ?_ ?_
 ·refine Q6 J J l (fun l=>?_) (fun l=>?_)
  ·refine U J<|O (.d (.bool ((w64 ((min a.Hi.Z b.Hi.Z) - (max a.Lo.Z b.Lo.Z))) == 0))) J<|O (.d (.bool ((w64 ((min a.Hi.Z b.Hi.Z) - (max a.Lo.Z b.Lo.Z))) == 0))) J<|q9 ?_
   obtain rfl:=qc l
   exact ⟨_,_,_,J⟩
  refine qb J<|qb J<|O (qf false) J<|q9 ?_
  obtain rfl:=qc l
  exact ⟨_,_,_,J⟩
 rintro _ ⟨ac,ad,ae,rfl⟩
 refine q8 J<|q9 ?_
 refine qj J c (fun _ c=>?_) (fun _ c=>?_)
 ·refine qa<|U J<|U J<|O (.d (G (w64 ((w64 ((min a.Hi.X b.Hi.X) - (max a.Lo.X b.Lo.X))) * (w64 ((min a.Hi.Y b.Hi.Y) - (max a.Lo.Y b.Lo.Y))))))) J<|q8 J<|qo ?_
  obtain rfl:=qc c
  exact qy (.d (G (w64 ((w64 ((min a.Hi.X b.Hi.X) - (max a.Lo.X b.Lo.X))) * (w64 ((min a.Hi.Y b.Hi.Y) - (max a.Lo.Y b.Lo.Y))))))) J
 refine qk<|Q8<|Qa<|qa<|q8 J<|qo ?_
 obtain rfl:=qc c
 exact qy (q6 0) J
theorem qwt (f : List qd) (r : Int × Int) (g : q8q f = some r) : Pure Tryz.prog tab 32 [.sl 6 (f.map qr)] (.tup [G r.1,G r.2]):=by
 unfold q8q at g
 refine Qb Tryz.func32 J (by kernel_rfl) (by kernel_rfl) J<|qa<|q8 J<|q8 J<|q9<|qe<|qa<|U J ?_
 obtain ⟨q,u,g⟩:=q7 g
 refine qv (qas f q u) J<|q8 J<|qp<|U J<|O (qf (q != 0)) J<|q9 ?_
 refine qj J g (fun _ g=>?_) (fun _ g=>?_)
 ·refine qa<|U J<|q8 J<|q8 J<|qo ?_
  obtain rfl:=qc g
  exact qy (.d (.tup [G 0,G q])) J
 refine qk<|qa<|q8 J<|q9<|qe<|qa<|U J<|Qg J<|U J<|q9 ?_
 obtain ⟨t,v,g⟩:=q7 g
 refine Q9 (fun n=>n = t) (fun (n : Int)=>⟨[(5,q6 n)],[],0⟩) (by simp) ?_ ?_
 ·refine Q4 (q3l f) (fun (j : Int × Int)=>⟨[(0,.d (.sl 6 (f.map qr))),(5,q6 j.1),(18,.d (.sl 6 (f.map qr))),(19,q6 (f.length : Int)),(20,q6 j.2)],[],0⟩) (0,0) t v (wkA [] [] []) ?_
  intro j ae l
  unfold q3l at l
  refine qa<|O (.d (.bool (decide (j.2 < (f.length : Int))))) J<|q9<|qe ?_
  refine qj J l (fun _ l=>?_) (fun _ l=>?_)
  ·refine qk<|qe ?_
   obtain ⟨w,k,l⟩:=q7 l
   refine Q9 (fun o=>o = w) (fun (o : Int)=>⟨[(0,.d (.sl 6 (f.map qr))),(5,q6 o),(18,.d (.sl 6 (f.map qr))),(19,q6 (f.length : Int)),(20,q6 j.2)],[],0⟩) (by simp) ?_ ?_
   ·refine qa<|U J ?_
    obtain ⟨b,x,k⟩:=q7 k
    refine Q3 (enc:=qr) x J<|O (.d (.agg [G b.Lo.X,G b.Lo.Y,G b.Lo.Z,G b.Hi.X,G b.Hi.Y,G b.Hi.Z])) J<|Qk J J<|q8 J<|qz 0 (.dat 6 [[G b.Lo.X,G b.Lo.Y,G b.Lo.Z,G b.Hi.X,G b.Hi.Y,G b.Hi.Z]]) J<|qp<|O (.d (.agg [G b.Lo.X,G b.Lo.Y,G b.Lo.Z,G b.Hi.X,G b.Hi.Y,G b.Hi.Z])) J ?_
    obtain ⟨a,y,k⟩:=q7 k
    refine qv (qx1 b a y) J<|U J<|O (q6 a.1) J<|O (q6 a.2.1) J<|O (q6 a.2.2) J<|q8 J<|q8 J<|q8 J<|qp<|U J<|U J<|U J<|O (.d (G (w64 (a.1 * a.2.1)))) J<|U J<|U J<|O (.d (G (w64 (a.1 * a.2.2)))) J<|O (.d (G (w64 ((w64 (a.1 * a.2.1)) + (w64 (a.1 * a.2.2)))))) J<|U J<|U J<|O (.d (G (w64 (a.2.1 * a.2.2)))) J<|O (.d (G (w64 ((w64 ((w64 (a.1 * a.2.1)) + (w64 (a.1 * a.2.2)))) + (w64 (a.2.1 * a.2.2)))))) J<|O (.d (G (w64 (2 * (w64 ((w64 ((w64 (a.1 * a.2.1)) + (w64 (a.1 * a.2.2)))) + (w64 (a.2.1 * a.2.2)))))))) J<|O (.d (G (w64 (j.1 + (w64 (2 * (w64 ((w64 ((w64 (a.1 * a.2.1)) + (w64 (a.1 * a.2.2)))) + (w64 (a.2.1 * a.2.2)))))))))) J<|q8 J<|qp<|U J<|U J ?_
    obtain ⟨p,z,k⟩:=q7 k
    refine qph (enc:=qr) z J J J J J (fun _=>rfl) (q3z J)<|Qg J<|U J<|q9 ?_
    obtain ⟨aa,ab,k⟩:=q7 k
    refine qw<|Q4 (q3m p b) (fun (m : Int × Int)=>⟨[(0,.d (.sl 6 (f.map qr))),(5,q6 m.1),(7,.ref 0 6 0 0),(18,.d (.sl 6 (f.map qr))),(19,q6 (f.length : Int)),(20,q6 j.2),(47,.d (.sl 6 (p.map qr))),(48,q6 (p.length : Int)),(49,q6 m.2)],[(0,.dat 6 [[G b.Lo.X,G b.Lo.Y,G b.Lo.Z,G b.Hi.X,G b.Hi.Y,G b.Hi.Z]])],1⟩) (w64 (j.1 + (w64 (2 * (w64 ((w64 ((w64 (a.1 * a.2.1)) + (w64 (a.1 * a.2.2)))) + (w64 (a.2.1 * a.2.2))))))),0) aa ab (wkA [(0,0)] [] []) ?_
    intro m af h
    unfold q3m at h
    refine qa<|O (.d (.bool (decide (m.2 < (p.length : Int))))) J<|q9<|qe ?_
    refine qj J h (fun _ h=>?_) (fun _ h=>?_)
    ·refine qk<|qe<|qw<|qa ?_
     obtain ⟨c,ac,h⟩:=q7 h
     refine Q3 (enc:=qr) ac J<|O (.d (.agg [G c.Lo.X,G c.Lo.Y,G c.Lo.Z,G c.Hi.X,G c.Hi.Y,G c.Hi.Z])) J<|Qk J J<|qz 1 (.dat 6 [[G c.Lo.X,G c.Lo.Y,G c.Lo.Z,G c.Hi.X,G c.Hi.Y,G c.Hi.Z]]) J<|q9<|qt<|U J<|O (.d (.agg [G b.Lo.X,G b.Lo.Y,G b.Lo.Z,G b.Hi.X,G b.Hi.Y,G b.Hi.Z])) J<|O (.d (.agg [G c.Lo.X,G c.Lo.Y,G c.Lo.Z,G c.Hi.X,G c.Hi.Y,G c.Hi.Z])) J ?_
     obtain ⟨s,ad,h⟩:=q7 h
     refine qv (qwx b c s ad) J<|O (.d (G (w64 (2 * s)))) J<|O (.d (G (w64 (m.1 - (w64 (2 * s)))))) J<|q8 J<|qq<|Qa<|qt<|O (.d (G (w64 (m.2 + 1)))) J<|U J<|qq ?_
     exact ⟨_,(Option.some.inj h).symm,wkA [(0,0)] [] []⟩
    refine Q1 ?_
    refine ⟨_,(Option.some.inj h).symm,fun hm=>?_⟩
    subst hm
    obtain rfl:=qc k
    exact ⟨_,J,wkA [] [] []⟩
   intro o hb
   subst hb
   refine qt<|O (.d (G (w64 (j.2 + 1)))) J<|U J<|qq ?_
   exact ⟨_,(Option.some.inj l).symm,wkA [] [] []⟩
  refine Q1 ?_
  refine ⟨_,(Option.some.inj l).symm,fun hm=>?_⟩
  subst hm
  exact ⟨_,J,wkA [] [] []⟩
 intro n hb
 subst hb
 refine qa<|U J<|q8 J<|q8 J<|qo ?_
 obtain rfl:=qc g
 exact qy (.d (.tup [G n,G 0])) J
theorem qis (a : qd) (r : Int) (b : Uq a = some r) : Pure Tryz.prog tab 96 [.agg [G a.Lo.X,G a.Lo.Y,G a.Lo.Z,G a.Hi.X,G a.Hi.Y,G a.Hi.Z]] (G r):=by
 unfold Uq at b
 refine Qb Tryz.func96 J (by kernel_rfl) (by kernel_rfl) J<|qa<|Qe (.ref 0 6 0 0) (.dat 6 [[G a.Lo.X,G a.Lo.Y,G a.Lo.Z,G a.Hi.X,G a.Hi.Y,G a.Hi.Z]]) J<|q8 J<|qp<|O (.ref 0 6 0 3) J<|O (.ref 0 6 0 3) J<|O (q6 a.Hi.X) J<|O (.ref 0 6 0 0) J<|O (.ref 0 6 0 0) J<|O (q6 a.Lo.X) J<|O (.d (G (w64 (a.Hi.X - a.Lo.X)))) J<|O (.ref 0 6 0 3) J<|O (.ref 0 6 0 4) J<|O (q6 a.Hi.Y) J<|O (.ref 0 6 0 0) J<|O (.ref 0 6 0 1) J<|O (q6 a.Lo.Y) J<|O (.d (G (w64 (a.Hi.Y - a.Lo.Y)))) J<|O (.d (G (w64 ((w64 (a.Hi.X - a.Lo.X)) * (w64 (a.Hi.Y - a.Lo.Y)))))) J<|O (.ref 0 6 0 3) J<|O (.ref 0 6 0 5) J<|O (q6 a.Hi.Z) J<|O (.ref 0 6 0 0) J<|O (.ref 0 6 0 2) J<|O (q6 a.Lo.Z) J<|O (.d (G (w64 (a.Hi.Z - a.Lo.Z)))) J<|O (.d (G (w64 ((w64 ((w64 (a.Hi.X - a.Lo.X)) * (w64 (a.Hi.Y - a.Lo.Y)))) * (w64 (a.Hi.Z - a.Lo.Z)))))) J<|q8 J<|qo ?_
 obtain rfl:=qc b
 exact qy (.d (G (w64 ((w64 ((w64 (a.Hi.X - a.Lo.X)) * (w64 (a.Hi.Y - a.Lo.Y)))) * (w64 (a.Hi.Z - a.Lo.Z)))))) J
theorem qr6 (a : qd) (b : qd) (r : qd) (c : q4u a b = some r) : Pure Tryz.prog tab 97 [.agg [G a.Lo.X,G a.Lo.Y,G a.Lo.Z,G a.Hi.X,G a.Hi.Y,G a.Hi.Z],.agg [G b.Lo.X,G b.Lo.Y,G b.Lo.Z,G b.Hi.X,G b.Hi.Y,G b.Hi.Z]] (.agg [G r.Lo.X,G r.Lo.Y,G r.Lo.Z,G r.Hi.X,G r.Hi.Y,G r.Hi.Z]):=by
 unfold q4u at c
 refine Qb Tryz.func97 J (by kernel_rfl) (by kernel_rfl) J<|qa<|Qe (.ref 0 6 0 0) (.dat 6 [[G a.Lo.X,G a.Lo.Y,G a.Lo.Z,G a.Hi.X,G a.Hi.Y,G a.Hi.Z]]) J<|Qe (.ref 1 6 0 0) (.dat 6 [[G b.Lo.X,G b.Lo.Y,G b.Lo.Z,G b.Hi.X,G b.Hi.Y,G b.Hi.Z]]) J<|Qk J J<|qp<|O (.ref 0 6 0 0) J<|O (.ref 0 6 0 0) J<|O (q6 a.Lo.X) J<|O (.ref 1 6 0 0) J<|O (.ref 1 6 0 0) J<|O (q6 b.Lo.X) J<|Y3 (r:=max a.Lo.X b.Lo.X) J J (by simp only [Kz];rfl)<|O (.ref 0 6 0 0) J<|O (.ref 0 6 0 1) J<|O (q6 a.Lo.Y) J<|O (.ref 1 6 0 0) J<|O (.ref 1 6 0 1) J<|O (q6 b.Lo.Y) J<|Y3 (r:=max a.Lo.Y b.Lo.Y) J J (by simp only [Kz];rfl)<|O (.ref 0 6 0 0) J<|O (.ref 0 6 0 2) J<|O (q6 a.Lo.Z) J<|O (.ref 1 6 0 0) J<|O (.ref 1 6 0 2) J<|O (q6 b.Lo.Z) J<|Y3 (r:=max a.Lo.Z b.Lo.Z) J J (by simp only [Kz];rfl)<|O (.d (.agg [G (max a.Lo.X b.Lo.X),G (max a.Lo.Y b.Lo.Y),G (max a.Lo.Z b.Lo.Z)])) J<|O (.ref 0 6 0 3) J<|O (.ref 0 6 0 3) J<|O (q6 a.Hi.X) J<|O (.ref 1 6 0 3) J<|O (.ref 1 6 0 3) J<|O (q6 b.Hi.X) J<|Y4 (r:=min a.Hi.X b.Hi.X) J J (by simp only [Y2];rfl)<|O (.ref 0 6 0 3) J<|O (.ref 0 6 0 4) J<|O (q6 a.Hi.Y) J<|O (.ref 1 6 0 3) J<|O (.ref 1 6 0 4) J ?_
 refine O (q6 b.Hi.Y) J<|Y4 (r:=min a.Hi.Y b.Hi.Y) J J (by simp only [Y2];rfl)<|O (.ref 0 6 0 3) J<|O (.ref 0 6 0 5) J<|O (q6 a.Hi.Z) J<|O (.ref 1 6 0 3) J<|O (.ref 1 6 0 5) J<|O (q6 b.Hi.Z) J<|Y4 (r:=min a.Hi.Z b.Hi.Z) J J (by simp only [Y2];rfl)<|O (.d (.agg [G (min a.Hi.X b.Hi.X),G (min a.Hi.Y b.Hi.Y),G (min a.Hi.Z b.Hi.Z)])) J<|O (.d (.agg [G (max a.Lo.X b.Lo.X),G (max a.Lo.Y b.Lo.Y),G (max a.Lo.Z b.Lo.Z),G (min a.Hi.X b.Hi.X),G (min a.Hi.Y b.Hi.Y),G (min a.Hi.Z b.Hi.Z)])) J<|Qk J J<|qz 3 (.dat 6 [[G (max a.Lo.X b.Lo.X),G (max a.Lo.Y b.Lo.Y),G (max a.Lo.Z b.Lo.Z),G (min a.Hi.X b.Hi.X),G (min a.Hi.Y b.Hi.Y),G (min a.Hi.Z b.Hi.Z)]]) J<|q9<|qe<|qa<|O (.ref 3 6 0 0) J<|O (.ref 3 6 0 0) J<|O (q6 (max a.Lo.X b.Lo.X)) J<|O (.ref 3 6 0 3) J<|O (.ref 3 6 0 3) J<|O (q6 (min a.Hi.X b.Hi.X)) J<|O (.d (.bool (decide ((max a.Lo.X b.Lo.X) ≥ (min a.Hi.X b.Hi.X))))) J ?_
 obtain ⟨z,f,c⟩:=q7 c
 refine Q5 9 (fun A st=>∃ (h j k l m n o p : V),st = A [(66,qf z),(65,p),(64,o),(63,n),(62,m),(61,l),(60,k),(59,j),(58,h)]) ?_ ?_
 ·refine Q6 J J f (fun f=>?_) (fun f=>?_)
  ·refine qb J<|qb J<|qb J<|qb J<|qb J<|qb J<|qb J<|O (qf true) J<|q9 ?_
   obtain rfl:=qc f
   exact ⟨_,_,_,_,_,_,_,_,J⟩
  refine O (.ref 3 6 0 0) J<|O (.ref 3 6 0 1) J<|O (q6 (max a.Lo.Y b.Lo.Y)) J<|O (.ref 3 6 0 3) J<|O (.ref 3 6 0 4) J<|O (q6 (min a.Hi.Y b.Hi.Y)) J<|O (.d (.bool (decide ((max a.Lo.Y b.Lo.Y) ≥ (min a.Hi.Y b.Hi.Y))))) J<|O (.d (.bool (decide ((max a.Lo.Y b.Lo.Y) ≥ (min a.Hi.Y b.Hi.Y))))) J<|q9 ?_
  obtain rfl:=qc f
  exact ⟨_,_,_,_,_,_,_,_,J⟩
 rintro _ ⟨h,j,k,l,m,n,o,p,rfl⟩
 obtain ⟨aa,g,c⟩:=q7 c
 refine Q5 9 (fun A st=>∃ (q s t u v w x y : V),st = A [(75,qf aa),(74,y),(73,x),(72,w),(71,v),(70,u),(69,t),(68,s),(67,q)]) ?_ ?_
 ·refine Q6 J J g (fun g=>?_) (fun g=>?_)
  ·refine qb J<|qb J<|qb J<|qb J<|qb J<|qb J<|qb J<|O (qf true) J<|q9 ?_
   obtain rfl:=qc g
   exact ⟨_,_,_,_,_,_,_,_,J⟩
  refine O (.ref 3 6 0 0) J<|O (.ref 3 6 0 2) J<|O (q6 (max a.Lo.Z b.Lo.Z)) J<|O (.ref 3 6 0 3) J<|O (.ref 3 6 0 5) J<|O (q6 (min a.Hi.Z b.Hi.Z)) J<|O (.d (.bool (decide ((max a.Lo.Z b.Lo.Z) ≥ (min a.Hi.Z b.Hi.Z))))) J<|O (.d (.bool (decide ((max a.Lo.Z b.Lo.Z) ≥ (min a.Hi.Z b.Hi.Z))))) J<|q9 ?_
  obtain rfl:=qc g
  exact ⟨_,_,_,_,_,_,_,_,J⟩
 rintro _ ⟨q,s,t,u,v,w,x,y,rfl⟩
 refine q9 ?_
 refine qj J c (fun _ c=>?_) (fun _ c=>?_)
 ·refine qa<|O (.d (.agg [G 0,G 0,G 0,G 0,G 0,G 0])) J<|qz 2 (.dat 6 [[G 0,G 0,G 0,G 0,G 0,G 0]]) J<|qo ?_
  obtain rfl:=qc c
  exact qy (.d (.agg [G 0,G 0,G 0,G 0,G 0,G 0])) J
 refine qk<|qa<|O (.d (.agg [G (max a.Lo.X b.Lo.X),G (max a.Lo.Y b.Lo.Y),G (max a.Lo.Z b.Lo.Z),G (min a.Hi.X b.Hi.X),G (min a.Hi.Y b.Hi.Y),G (min a.Hi.Z b.Hi.Z)])) J<|qz 2 (.dat 6 [[G (max a.Lo.X b.Lo.X),G (max a.Lo.Y b.Lo.Y),G (max a.Lo.Z b.Lo.Z),G (min a.Hi.X b.Hi.X),G (min a.Hi.Y b.Hi.Y),G (min a.Hi.Z b.Hi.Z)]]) J<|qo ?_
 obtain rfl:=qc c
 exact qy (.d (.agg [G (max a.Lo.X b.Lo.X),G (max a.Lo.Y b.Lo.Y),G (max a.Lo.Z b.Lo.Z),G (min a.Hi.X b.Hi.X),G (min a.Hi.Y b.Hi.Y),G (min a.Hi.Z b.Hi.Z)])) J
theorem qrn (j : List qd) (a : qd) (h : Int) (r : Int) (s : q1n j a h = some r) : Pure Tryz.prog tab 70 [.sl 6 (j.map qr),.agg [G a.Lo.X,G a.Lo.Y,G a.Lo.Z,G a.Hi.X,G a.Hi.Y,G a.Hi.Z],G h] (G r):=by
 unfold q1n at s
 refine Qb Tryz.func70 J (by kernel_rfl) (by kernel_rfl) J<|qa<|Qe (.ref 0 6 0 0) (.dat 6 [[G a.Lo.X,G a.Lo.Y,G a.Lo.Z,G a.Hi.X,G a.Hi.Y,G a.Hi.Z]]) J<|q8 J<|qp<|q8 J<|q9<|qe<|qa<|q8 J<|q9 ?_
 obtain ⟨v,ae,s⟩:=q7 s
 refine Q9 (fun o=>o = v) (fun (o : Int)=>⟨[(7,q6 o)],[],0⟩) (by simp) ?_ ?_
 ·refine Q4 (Z8 h a j) (fun (f : Int × Int)=>⟨[(0,.d (.sl 6 (j.map qr))),(2,q6 h),(4,.ref 0 6 0 0),(7,q6 f.1),(8,q6 f.2)],[(0,.dat 6 [[G a.Lo.X,G a.Lo.Y,G a.Lo.Z,G a.Hi.X,G a.Hi.Y,G a.Hi.Z]])],1⟩) (0,0) v ae (wkA [(0,0)] [] []) ?_
  intro f ap k
  unfold Z8 at k
  refine qe<|qa<|U J<|O (.d (.bool (decide (f.2 < 2)))) J<|q9 ?_
  refine qj J k (fun _ k=>?_) (fun _ k=>?_)
  ·refine qk<|qe ?_
   obtain ⟨af,l,k⟩:=q7 k
   refine Q9 (fun t=>t = af) (fun (t : Int)=>⟨[(0,.d (.sl 6 (j.map qr))),(2,q6 h),(4,.ref 0 6 0 0),(7,q6 t),(8,q6 f.2)],[(0,.dat 6 [[G a.Lo.X,G a.Lo.Y,G a.Lo.Z,G a.Hi.X,G a.Hi.Y,G a.Hi.Z]])],1⟩) (by simp) ?_ ?_
   ·refine qa<|O (.d (.agg [G a.Lo.X,G a.Lo.Y,G a.Lo.Z,G a.Hi.X,G a.Hi.Y,G a.Hi.Z])) J<|Qk J J<|qz 1 (.dat 6 [[G a.Lo.X,G a.Lo.Y,G a.Lo.Z,G a.Hi.X,G a.Hi.Y,G a.Hi.Z]]) J<|q9<|qe ?_
    obtain ⟨ag,c,l⟩:=q7 l
    refine Q9 (fun b=>b = ag) (fun (b : Int × Int × Int × Int × Int × Int)=>⟨[(0,.d (.sl 6 (j.map qr))),(2,q6 h),(4,.ref 0 6 0 0),(7,q6 f.1),(8,q6 f.2),(9,.ref 1 6 0 0)],[(0,.dat 6 [[G a.Lo.X,G a.Lo.Y,G a.Lo.Z,G a.Hi.X,G a.Hi.Y,G a.Hi.Z]]),(1,.dat 6 [[G b.1,G b.2.1,G b.2.2.1,G b.2.2.2.1,G b.2.2.2.2.1,G b.2.2.2.2.2]])],2⟩) (by simp) ?_ ?_
    ·refine qa<|U J<|O (qf (h == 0)) J ?_
     obtain ⟨ah,p,c⟩:=q7 c
     refine Q5 4 (fun A st=>∃ (w x y : V),st = A [(33,qf ah),(32,y),(31,x),(30,w)]) ?_ ?_
     ·refine Q6 J J p (fun p=>?_) (fun p=>?_)
      ·refine U J<|O (qf (f.2 == 0)) J<|O (qf (f.2 == 0)) J<|q9 ?_
       obtain rfl:=qc p
       exact ⟨_,_,_,J⟩
      refine qb J<|qb J<|O (qf false) J<|q9 ?_
      obtain rfl:=qc p
      exact ⟨_,_,_,J⟩
     rintro _ ⟨w,x,y,rfl⟩
     refine q8 J<|q9 ?_
     refine qj J c (fun _ c=>?_) (fun _ c=>?_)
     ·refine Q2 [Q7 1,q0,q0,Q7 1,q0,q0,q0,qm 0,q0,q0,qm 0,q0,q0] (by kernel_rfl)<|O (.ref 0 6 0 3) J<|O (.ref 0 6 0 3) J<|O (q6 a.Hi.X) J<|O (.ref 0 6 0 3) J<|O (.ref 0 6 0 3) J<|O (q6 a.Hi.X) J<|O (.d (G (w64 (a.Hi.X + 1)))) J<|O (.ref 1 6 0 0) J<|O (.ref 1 6 0 0) J<|qz 1 (.dat 6 [[G a.Hi.X,G a.Lo.Y,G a.Lo.Z,G a.Hi.X,G a.Hi.Y,G a.Hi.Z]]) J<|O (.ref 1 6 0 3) J<|O (.ref 1 6 0 3) J<|qz 1 (.dat 6 [[G a.Hi.X,G a.Lo.Y,G a.Lo.Z,G (w64 (a.Hi.X + 1)),G a.Hi.Y,G a.Hi.Z]]) J<|qq ?_
      obtain rfl:=qc c
      exact ⟨_,J,wkA [(0,0),(1,1)] [] []⟩
     refine qa<|U J<|O (qf (h == 0)) J<|q8 J<|q9 ?_
     refine qj J c (fun _ c=>?_) (fun _ c=>?_)
     ·refine Q2 [Q7 1,q0,q0,Q7 1,q0,q0,qm 0,q0,q0,q0,qm 0,q0,q0] (by kernel_rfl)<|O (.ref 0 6 0 0) J<|O (.ref 0 6 0 0) J<|O (q6 a.Lo.X) J<|O (.d (G (w64 (a.Lo.X - 1)))) J<|O (.ref 0 6 0 0) J<|O (.ref 0 6 0 0) J<|O (q6 a.Lo.X) J<|O (.ref 1 6 0 0) J<|O (.ref 1 6 0 0) J<|qz 1 (.dat 6 [[G (w64 (a.Lo.X - 1)),G a.Lo.Y,G a.Lo.Z,G a.Hi.X,G a.Hi.Y,G a.Hi.Z]]) J<|O (.ref 1 6 0 3) J<|O (.ref 1 6 0 3) J<|qz 1 (.dat 6 [[G (w64 (a.Lo.X - 1)),G a.Lo.Y,G a.Lo.Z,G a.Lo.X,G a.Hi.Y,G a.Hi.Z]]) J<|qq ?_
      obtain rfl:=qc c
      exact ⟨_,J,wkA [(0,0),(1,1)] [] []⟩
     refine qa<|U J<|O (qf (h == 1)) J ?_
     obtain ⟨ai,q,c⟩:=q7 c
     refine Q5 4 (fun A st=>∃ (z aa ab : V),st = A [(65,qf ai),(64,ab),(63,aa),(62,z)]) ?_ ?_
     ·refine Q6 J J q (fun q=>?_) (fun q=>?_)
      ·refine U J<|O (qf (f.2 == 0)) J<|O (qf (f.2 == 0)) J<|q9 ?_
       obtain rfl:=qc q
       exact ⟨_,_,_,J⟩
      refine qb J<|qb J<|O (qf false) J<|q9 ?_
      obtain rfl:=qc q
      exact ⟨_,_,_,J⟩
     rintro _ ⟨z,aa,ab,rfl⟩
     refine q8 J<|q9 ?_
     refine qj J c (fun _ c=>?_) (fun _ c=>?_)
     ·refine Q2 [Q7 1,q0,q0,Q7 1,q0,q0,q0,qm 0,q0,q0,qm 0,q0,q0] (by kernel_rfl)<|O (.ref 0 6 0 3) J<|O (.ref 0 6 0 4) J<|O (q6 a.Hi.Y) J<|O (.ref 0 6 0 3) J<|O (.ref 0 6 0 4) J<|O (q6 a.Hi.Y) J<|O (.d (G (w64 (a.Hi.Y + 1)))) J<|O (.ref 1 6 0 0) J<|O (.ref 1 6 0 1) J<|qz 1 (.dat 6 [[G a.Lo.X,G a.Hi.Y,G a.Lo.Z,G a.Hi.X,G a.Hi.Y,G a.Hi.Z]]) J<|O (.ref 1 6 0 3) J<|O (.ref 1 6 0 4) J<|qz 1 (.dat 6 [[G a.Lo.X,G a.Hi.Y,G a.Lo.Z,G a.Hi.X,G (w64 (a.Hi.Y + 1)),G a.Hi.Z]]) J<|qq ?_
      obtain rfl:=qc c
      exact ⟨_,J,wkA [(0,0),(1,1)] [] []⟩
     refine qa<|U J<|O (qf (h == 1)) J<|q8 J<|q9 ?_
     refine qj J c (fun _ c=>?_) (fun _ c=>?_)
     ·refine Q2 [Q7 1,q0,q0,Q7 1,q0,q0,qm 0,q0,q0,q0,qm 0,q0,q0] (by kernel_rfl)<|O (.ref 0 6 0 0) J<|O (.ref 0 6 0 1) J<|O (q6 a.Lo.Y) J<|O (.d (G (w64 (a.Lo.Y - 1)))) J<|O (.ref 0 6 0 0) J<|O (.ref 0 6 0 1) J<|O (q6 a.Lo.Y) J<|O (.ref 1 6 0 0) J<|O (.ref 1 6 0 1) J<|qz 1 (.dat 6 [[G a.Lo.X,G (w64 (a.Lo.Y - 1)),G a.Lo.Z,G a.Hi.X,G a.Hi.Y,G a.Hi.Z]]) J<|O (.ref 1 6 0 3) J<|O (.ref 1 6 0 4) J<|qz 1 (.dat 6 [[G a.Lo.X,G (w64 (a.Lo.Y - 1)),G a.Lo.Z,G a.Hi.X,G a.Lo.Y,G a.Hi.Z]]) J<|qq ?_
      obtain rfl:=qc c
      exact ⟨_,J,wkA [(0,0),(1,1)] [] []⟩
     refine qa<|U J<|O (qf (f.2 == 0)) J<|q8 J<|q9 ?_
     refine qj J c (fun _ c=>?_) (fun _ c=>?_)
     ·refine Q2 [Q7 1,q0,q0,Q7 1,q0,q0,q0,qm 0,q0,q0,qm 0,q0,q0] (by kernel_rfl)<|O (.ref 0 6 0 3) J<|O (.ref 0 6 0 5) J<|O (q6 a.Hi.Z) J<|O (.ref 0 6 0 3) J<|O (.ref 0 6 0 5) J<|O (q6 a.Hi.Z) J<|O (.d (G (w64 (a.Hi.Z + 1)))) J<|O (.ref 1 6 0 0) J<|O (.ref 1 6 0 2) J<|qz 1 (.dat 6 [[G a.Lo.X,G a.Lo.Y,G a.Hi.Z,G a.Hi.X,G a.Hi.Y,G a.Hi.Z]]) J<|O (.ref 1 6 0 3) J<|O (.ref 1 6 0 5) J<|qz 1 (.dat 6 [[G a.Lo.X,G a.Lo.Y,G a.Hi.Z,G a.Hi.X,G a.Hi.Y,G (w64 (a.Hi.Z + 1))]]) J<|qq ?_
      obtain rfl:=qc c
      exact ⟨_,J,wkA [(0,0),(1,1)] [] []⟩
     refine Q2 [Q7 1,q0,q0,Q7 1,q0,q0,qm 0,q0,q0,q0,qm 0,q0,q0] (by kernel_rfl)<|O (.ref 0 6 0 0) J<|O (.ref 0 6 0 2) J<|O (q6 a.Lo.Z) J<|O (.d (G (w64 (a.Lo.Z - 1)))) J<|O (.ref 0 6 0 0) J<|O (.ref 0 6 0 2) J<|O (q6 a.Lo.Z) J<|O (.ref 1 6 0 0) J<|O (.ref 1 6 0 2) J<|qz 1 (.dat 6 [[G a.Lo.X,G a.Lo.Y,G (w64 (a.Lo.Z - 1)),G a.Hi.X,G a.Hi.Y,G a.Hi.Z]]) J<|O (.ref 1 6 0 3) J<|O (.ref 1 6 0 5) J<|qz 1 (.dat 6 [[G a.Lo.X,G a.Lo.Y,G (w64 (a.Lo.Z - 1)),G a.Hi.X,G a.Hi.Y,G a.Lo.Z]]) J<|qq ?_
     obtain rfl:=qc c
     exact ⟨_,J,wkA [(0,0),(1,1)] [] []⟩
    intro b hb
    subst hb
    refine qa<|U J<|O (.d (.agg [G b.1,G b.2.1,G b.2.2.1,G b.2.2.2.1,G b.2.2.2.2.1,G b.2.2.2.2.2])) J ?_
    obtain ⟨u,aj,l⟩:=q7 l
    refine qv (qis ({Lo:=({X:=b.1,Y:=b.2.1,Z:=b.2.2.1} : ql),Hi:=({X:=b.2.2.2.1,Y:=b.2.2.2.2.1,Z:=b.2.2.2.2.2} : ql)} : qd) u aj) J<|O (.d (G (w64 (f.1 + u)))) J<|q8 J<|qp<|q8 J<|q9 ?_
    obtain ⟨ak,al,l⟩:=q7 l
    refine qw<|Q4 (Ur j b) (fun (n : Int × Int)=>⟨[(0,.d (.sl 6 (j.map qr))),(2,q6 h),(4,.ref 0 6 0 0),(7,q6 n.1),(8,q6 f.2),(9,.ref 1 6 0 0),(10,q6 n.2)],[(0,.dat 6 [[G a.Lo.X,G a.Lo.Y,G a.Lo.Z,G a.Hi.X,G a.Hi.Y,G a.Hi.Z]]),(1,.dat 6 [[G b.1,G b.2.1,G b.2.2.1,G b.2.2.2.1,G b.2.2.2.2.1,G b.2.2.2.2.2]])],2⟩) (w64 (f.1 + u),0) ak al (wkA [(0,0),(1,1)] [] []) ?_
    intro n aq g
    unfold Ur at g
    refine qe<|qa<|U J<|U J<|Qg J<|O (.d (.bool (decide (n.2 < (j.length : Int))))) J<|q9 ?_
    refine qj J g (fun _ g=>?_) (fun _ g=>?_)
    ·refine qk<|qe<|qw<|Q2 [q0,q0,q0,q0,q0,q0,q0,q0,qm 1,q0] (by kernel_rfl)<|U J<|O (.d (.agg [G b.1,G b.2.1,G b.2.2.1,G b.2.2.2.1,G b.2.2.2.2.1,G b.2.2.2.2.2])) J<|U J<|U J ?_
     obtain ⟨m,am,g⟩:=q7 g
     refine Q3 (enc:=qr) am J<|O (.d (.agg [G m.Lo.X,G m.Lo.Y,G m.Lo.Z,G m.Hi.X,G m.Hi.Y,G m.Hi.Z])) J ?_
     obtain ⟨ac,an,g⟩:=q7 g
     refine qv (qr6 ({Lo:=({X:=b.1,Y:=b.2.1,Z:=b.2.2.1} : ql),Hi:=({X:=b.2.2.2.1,Y:=b.2.2.2.2.1,Z:=b.2.2.2.2.2} : ql)} : qd) m ac an) J ?_
     obtain ⟨ad,ao,g⟩:=q7 g
     refine qv (qis ac ad ao) J<|O (.d (G (w64 (n.1 - ad)))) J<|q8 J<|qq<|Qa<|qt<|U J<|O (.d (G (w64 (n.2 + 1)))) J<|q8 J<|qq ?_
     exact ⟨_,(Option.some.inj g).symm,wkA [(0,0),(1,1)] [] []⟩
    refine Q1 ?_
    refine ⟨_,(Option.some.inj g).symm,fun hm=>?_⟩
    subst hm
    obtain rfl:=qc l
    exact ⟨_,J,wkA [(0,0)] [] []⟩
   intro t hb
   subst hb
   refine qt<|U J<|O (.d (G (w64 (f.2 + 1)))) J<|q8 J<|qq ?_
   exact ⟨_,(Option.some.inj k).symm,wkA [(0,0)] [] []⟩
  refine Q1 ?_
  refine ⟨_,(Option.some.inj k).symm,fun hm=>?_⟩
  subst hm
  exact ⟨_,J,wkA [] [] []⟩
 intro o hb
 subst hb
 refine qa<|U J<|q8 J<|qo ?_
 obtain rfl:=qc s
 exact qy (q6 o) J
theorem qrm (b : List qd) (r : Int × Int) (a : q7g b = some r) : Pure Tryz.prog tab 33 [.sl 6 (b.map qr)] (.tup [G r.1,G r.2]):=by
 unfold q7g at a
 refine Qb Tryz.func33 J (by kernel_rfl) (by kernel_rfl) J<|qa<|q8 J<|q8 J<|q9<|qe<|qa<|U J ?_
 obtain ⟨n,s,a⟩:=q7 a
 refine qv (q1l b n s) J<|O (qf (n != 0)) J<|q9 ?_
 refine qj J a (fun _ a=>?_) (fun _ a=>?_)
 ·refine qa<|U J ?_
  obtain ⟨o,t,a⟩:=q7 a
  refine qv (q1l b o t) J<|q8 J<|q8 J<|qo ?_
  obtain rfl:=qc a
  exact qy (.d (.tup [G 0,G o])) J
 refine qk<|qa<|q8 J<|q9<|qe<|qa<|q8 J<|q9 ?_
 obtain ⟨p,u,a⟩:=q7 a
 refine Q9 (fun k=>k = p) (fun (k : Int)=>⟨[(4,q6 k)],[],0⟩) (by simp) ?_ ?_
 ·refine Q4 (q33 b) (fun (f : Int × Int)=>⟨[(0,.d (.sl 6 (b.map qr))),(4,q6 f.1),(5,q6 f.2)],[],0⟩) (0,0) p u (wkA [] [] []) ?_
  intro f aa g
  unfold q33 at g
  refine qe<|qa<|U J<|U J<|Qg J<|O (.d (.bool (decide (f.2 < (b.length : Int))))) J<|q9 ?_
  refine qj J g (fun _ g=>?_) (fun _ g=>?_)
  ·refine qk<|qe ?_
   obtain ⟨v,m,g⟩:=q7 g
   refine Q9 (fun l=>l = v) (fun (l : Int)=>⟨[(0,.d (.sl 6 (b.map qr))),(4,q6 l),(5,q6 f.2)],[],0⟩) (by simp) ?_ ?_
   ·refine qa<|q8 J<|q9 ?_
    obtain ⟨w,x,m⟩:=q7 m
    refine qw<|Q4 (Jz b f) (fun (h : Int × Int)=>⟨[(0,.d (.sl 6 (b.map qr))),(4,q6 h.1),(5,q6 f.2),(6,q6 h.2)],[],0⟩) (f.1,0) w x (wkA [] [] []) ?_
    intro h ab c
    unfold Jz at c
    refine qe<|qa<|U J<|O (.d (.bool (decide (h.2 < 3)))) J<|q9 ?_
    refine qj J c (fun _ c=>?_) (fun _ c=>?_)
    ·refine qk<|qe<|qw<|qt<|U J<|U J<|U J<|U J ?_
     obtain ⟨j,y,c⟩:=q7 c
     refine Q3 (enc:=qr) y J<|O (.d (.agg [G j.Lo.X,G j.Lo.Y,G j.Lo.Z,G j.Hi.X,G j.Hi.Y,G j.Hi.Z])) J<|U J ?_
     obtain ⟨q,z,c⟩:=q7 c
     refine qv (qrn b j h.2 q z) J<|O (.d (G (w64 (h.1 + q)))) J<|q8 J<|qq<|Qa<|qt<|U J<|O (.d (G (w64 (h.2 + 1)))) J<|q8 J<|qq ?_
     exact ⟨_,(Option.some.inj c).symm,wkA [] [] []⟩
    refine Q1 ?_
    refine ⟨_,(Option.some.inj c).symm,fun hm=>?_⟩
    subst hm
    obtain rfl:=qc m
    exact ⟨_,J,wkA [] [] []⟩
   intro l hb
   subst hb
   refine qt<|U J<|O (.d (G (w64 (f.2 + 1)))) J<|q8 J<|qq ?_
   exact ⟨_,(Option.some.inj g).symm,wkA [] [] []⟩
  refine Q1 ?_
  refine ⟨_,(Option.some.inj g).symm,fun hm=>?_⟩
  subst hm
  exact ⟨_,J,wkA [] [] []⟩
 intro k hb
 subst hb
 refine qa<|U J<|q8 J<|q8 J<|qo ?_
 obtain rfl:=qc a
 exact qy (.d (.tup [G k,G 0])) J
theorem qc9 (a : ql) (f : Int) (r : Bool) (c : q2e a f = some r) : Pure Tryz.prog tab 98 [.agg [G a.X,G a.Y,G a.Z],G f] (.bool r):=by
 unfold q2e at c
 refine Qb Tryz.func98 J (by kernel_rfl) (by kernel_rfl) J<|qa<|Qe (.ref 0 3 0 0) (.dat 3 [[G a.X,G a.Y,G a.Z]]) J<|q8 J<|qp<|O (.ref 0 3 0 0) J<|O (q6 a.X) J<|O (.ref 0 3 0 1) J<|O (q6 a.Y) J<|O (.ref 0 3 0 2) J<|O (q6 a.Z) J<|Y4 (r:=min (min a.X a.Y) a.Z) J J (by simp only [Y2];rfl)<|U J<|O (.d (.bool (decide ((min (min a.X a.Y) a.Z) ≥ f)))) J ?_
 obtain ⟨g,b,c⟩:=q7 c
 refine Q5 10 (fun A st=>∃ (h j k l m n o p q : V),st = A [(23,qf g),(22,q),(21,p),(20,o),(19,n),(18,m),(17,l),(16,k),(15,j),(14,h)]) ?_ ?_
 ·refine Q6 J J b (fun b=>?_) (fun b=>?_)
  ·refine O (.ref 0 3 0 0) J<|O (q6 a.X) J<|O (.ref 0 3 0 1) J<|O (q6 a.Y) J<|O (.ref 0 3 0 2) J<|O (q6 a.Z) J<|Y3 (r:=max (max a.X a.Y) a.Z) J J (by simp only [Kz];rfl)<|O (.d (.bool (decide ((max (max a.X a.Y) a.Z)≤1000000)))) J<|O (.d (.bool (decide ((max (max a.X a.Y) a.Z)≤1000000)))) J<|q9 ?_
   obtain rfl:=qc b
   exact ⟨_,_,_,_,_,_,_,_,_,J⟩
  refine qb J<|qb J<|qb J<|qb J<|qb J<|qb J<|qb J<|qb J<|O (qf false) J<|q9 ?_
  obtain rfl:=qc b
  exact ⟨_,_,_,_,_,_,_,_,_,J⟩
 rintro _ ⟨h,j,k,l,m,n,o,p,q,rfl⟩
 refine q8 J<|qo ?_
 obtain rfl:=qc c
 exact qy (qf g) J
theorem qgi (a : Qx) (r : Int) (b : q48 a = some r) : Pure Tryz.prog tab 71 [.agg [.int .u8 a.Turn,G a.At.X,G a.At.Y,G a.At.Z]] (G r):=by
 unfold q48 at b
 refine Qb Tryz.func71 J (by kernel_rfl) (by kernel_rfl) J<|qa<|Qe (.ref 0 4 0 0) (.dat 4 [[.int .u8 a.Turn,G a.At.X,G a.At.Y,G a.At.Z]]) J<|q8 J<|q9<|qe<|qa<|O (.ref 0 4 0 0) J<|O (.d (.int .u8 a.Turn)) J<|O (.d (.bool (decide (a.Turn ≥ 24)))) J ?_
 obtain ⟨m,c,b⟩:=q7 b
 refine Q5 6 (fun A st=>∃ (g h j k l : V),st = A [(11,qf m),(10,l),(9,k),(8,j),(7,h),(6,g)]) ?_ ?_
 ·refine Q6 J J c (fun c=>?_) (fun c=>?_)
  ·refine qb J<|qb J<|qb J<|qb J<|O (qf true) J<|q9 ?_
   obtain rfl:=qc c
   exact ⟨_,_,_,_,_,J⟩
  refine O (.ref 0 4 0 1) J<|O (.d (.agg [G a.At.X,G a.At.Y,G a.At.Z])) J ?_
  obtain ⟨f,n,c⟩:=q7 c
  refine qv (qc9 a.At (-1000000) f n) J<|O (qf (!f)) J<|O (qf (!f)) J<|q9 ?_
  obtain rfl:=qc c
  exact ⟨_,_,_,_,_,J⟩
 rintro _ ⟨g,h,j,k,l,rfl⟩
 refine q9 ?_
 refine qj J b (fun _ b=>?_) (fun _ b=>?_)
 ·refine qa<|q8 J<|qo ?_
  obtain rfl:=qc b
  exact qy (q6 8) J
 refine qk<|qa<|q8 J<|qo ?_
 obtain rfl:=qc b
 exact qy (q6 0) J
theorem qgj (a : Int) (r : ql) (b : q9t a = some r) : Pure Tryz.prog tab 124 [.int .u8 a] (.agg [G r.X,G r.Y,G r.Z]):=by
 unfold q9t at b
 refine Qb Tryz.func124 J (by kernel_rfl) (by kernel_rfl) J<|qa<|Qk J J<|qp<|U J<|O (.d (.int .u8 (Int.tmod a 2))) J<|O (.d (G (w64 (Int.tmod a 2)))) J<|O (.d (G (w64 (2 * (w64 (Int.tmod a 2)))))) J<|O (.d (G (w64 (1 - (w64 (2 * (w64 (Int.tmod a 2)))))))) J<|q8 J<|q9<|qe<|qa<|U J<|O (.d (.int .u8 (IntKind.wrap .u8 (Int.tdiv a 2)))) J<|q9<|qw<|qa<|O (.d (.bool ((IntKind.wrap .u8 (Int.tdiv a 2)) == 0))) J<|q8 J<|q9 ?_
 refine qj J b (fun _ b=>?_) (fun _ b=>?_)
 ·refine qa<|U J<|O (.d (.agg [G (w64 (1 - (w64 (2 * (w64 (Int.tmod a 2)))))),G 0,G 0])) J<|qz 0 (.dat 3 [[G (w64 (1 - (w64 (2 * (w64 (Int.tmod a 2)))))),G 0,G 0]]) J<|qo ?_
  obtain rfl:=qc b
  exact qy (.d (.agg [G (w64 (1 - (w64 (2 * (w64 (Int.tmod a 2)))))),G 0,G 0])) J
 refine qa<|O (.d (.bool ((IntKind.wrap .u8 (Int.tdiv a 2)) == 1))) J<|q8 J<|q9 ?_
 refine qj J b (fun _ b=>?_) (fun _ b=>?_)
 ·refine qa<|U J<|O (.d (.agg [G 0,G (w64 (1 - (w64 (2 * (w64 (Int.tmod a 2)))))),G 0])) J<|qz 0 (.dat 3 [[G 0,G (w64 (1 - (w64 (2 * (w64 (Int.tmod a 2)))))),G 0]]) J<|qo ?_
  obtain rfl:=qc b
  exact qy (.d (.agg [G 0,G (w64 (1 - (w64 (2 * (w64 (Int.tmod a 2)))))),G 0])) J
 refine qk<|Q8<|Qa<|qa<|U J<|O (.d (.agg [G 0,G 0,G (w64 (1 - (w64 (2 * (w64 (Int.tmod a 2))))))])) J<|qz 0 (.dat 3 [[G 0,G 0,G (w64 (1 - (w64 (2 * (w64 (Int.tmod a 2))))))]]) J<|qo ?_
 obtain rfl:=qc b
 exact qy (.d (.agg [G 0,G 0,G (w64 (1 - (w64 (2 * (w64 (Int.tmod a 2))))))])) J
theorem qne (a : ql) (b : ql) (r : ql) (c : qc8 a b = some r) : Pure Tryz.prog tab 125 [.agg [G a.X,G a.Y,G a.Z],.agg [G b.X,G b.Y,G b.Z]] (.agg [G r.X,G r.Y,G r.Z]):=by
 unfold qc8 at c
 refine Qb Tryz.func125 J (by kernel_rfl) (by kernel_rfl) J<|qa<|Qe (.ref 0 3 0 0) (.dat 3 [[G a.X,G a.Y,G a.Z]]) J<|Qe (.ref 1 3 0 0) (.dat 3 [[G b.X,G b.Y,G b.Z]]) J<|Qk J J<|qp<|O (.ref 0 3 0 1) J<|O (q6 a.Y) J<|O (.ref 1 3 0 2) J<|O (q6 b.Z) J<|O (.d (G (w64 (a.Y * b.Z)))) J<|O (.ref 0 3 0 2) J<|O (q6 a.Z) J<|O (.ref 1 3 0 1) J<|O (q6 b.Y) J<|O (.d (G (w64 (a.Z * b.Y)))) J<|O (.d (G (w64 ((w64 (a.Y * b.Z)) - (w64 (a.Z * b.Y)))))) J<|O (.ref 0 3 0 2) J<|O (q6 a.Z) J<|O (.ref 1 3 0 0) J<|O (q6 b.X) J<|O (.d (G (w64 (a.Z * b.X)))) J<|O (.ref 0 3 0 0) J<|O (q6 a.X) J<|O (.ref 1 3 0 2) J<|O (q6 b.Z) J<|O (.d (G (w64 (a.X * b.Z)))) J<|O (.d (G (w64 ((w64 (a.Z * b.X)) - (w64 (a.X * b.Z)))))) J<|O (.ref 0 3 0 0) J<|O (q6 a.X) J<|O (.ref 1 3 0 1) J<|O (q6 b.Y) J<|O (.d (G (w64 (a.X * b.Y)))) J<|O (.ref 0 3 0 1) J<|O (q6 a.Y) J<|O (.ref 1 3 0 0) J<|O (q6 b.X) J<|O (.d (G (w64 (a.Y * b.X)))) J<|O (.d (G (w64 ((w64 (a.X * b.Y)) - (w64 (a.Y * b.X)))))) J<|O (.d (.agg [G (w64 ((w64 (a.Y * b.Z)) - (w64 (a.Z * b.Y)))),G (w64 ((w64 (a.Z * b.X)) - (w64 (a.X * b.Z)))),G (w64 ((w64 (a.X * b.Y)) - (w64 (a.Y * b.X))))])) J ?_
 refine qz 2 (.dat 3 [[G (w64 ((w64 (a.Y * b.Z)) - (w64 (a.Z * b.Y)))),G (w64 ((w64 (a.Z * b.X)) - (w64 (a.X * b.Z)))),G (w64 ((w64 (a.X * b.Y)) - (w64 (a.Y * b.X))))]]) J<|qo ?_
 obtain rfl:=qc c
 exact qy (.d (.agg [G (w64 ((w64 (a.Y * b.Z)) - (w64 (a.Z * b.Y)))),G (w64 ((w64 (a.Z * b.X)) - (w64 (a.X * b.Z)))),G (w64 ((w64 (a.X * b.Y)) - (w64 (a.Y * b.X))))])) J
theorem qnd (c : Int) (r : (ql × ql × ql)) (f : q6p c = some r) : Pure Tryz.prog tab 99 [.int .u8 c] (.agg [G r.1.X,G r.1.Y,G r.1.Z,G r.2.1.X,G r.2.1.Y,G r.2.1.Z,G r.2.2.X,G r.2.2.Y,G r.2.2.Z]):=by
 unfold q6p at f
 refine Qb Tryz.func99 J (by kernel_rfl) (by kernel_rfl) J<|qa<|Qk J J<|qp<|U J<|O (.d (.int .u8 (IntKind.wrap .u8 (Int.tdiv c 4)))) J<|q8 J<|qp<|U J<|O (.d (.int .u8 (Int.tmod c 4))) J<|q8 J<|q9<|qe<|qa<|U J<|U J<|O (.d (.int .u8 (IntKind.wrap .u8 (Int.tdiv (IntKind.wrap .u8 (Int.tdiv c 4)) 2)))) J<|O (.d (.int .u8 (IntKind.wrap .u8 ((IntKind.wrap .u8 (Int.tdiv (IntKind.wrap .u8 (Int.tdiv c 4)) 2)) * 2)))) J<|O (.d (.bool (decide ((Int.tmod c 4) ≥ (IntKind.wrap .u8 ((IntKind.wrap .u8 (Int.tdiv (IntKind.wrap .u8 (Int.tdiv c 4)) 2)) * 2)))))) J<|q9 ?_
 obtain ⟨k,h,f⟩:=q7 f
 refine Kv (fun j=>j = k) (fun (j : Int)=>⟨[(2,.ref 0 9 0 0),(3,.d (.int .u8 (IntKind.wrap .u8 (Int.tdiv c 4)))),(4,.d (.int .u8 j))],[(0,.dat 9 [[G 0,G 0,G 0,G 0,G 0,G 0,G 0,G 0,G 0]])],1⟩) (by simp) ?_ ?_
 ·refine qj J h (fun _ h=>?_) (fun _ h=>?_)
  ·refine qt<|U J<|O (.d (.int .u8 (IntKind.wrap .u8 ((Int.tmod c 4) + 2)))) J<|q8 J<|qq ?_
   obtain rfl:=qc h
   exact ⟨_,J,wkA [(0,0)] [] []⟩
  refine qk<|Q8 ?_
  obtain rfl:=qc h
  exact ⟨_,J,wkA [(0,0)] [] []⟩
 intro j hb
 subst hb
 refine qa<|U J ?_
 obtain ⟨a,l,f⟩:=q7 f
 refine qv (qgj (IntKind.wrap .u8 (Int.tdiv c 4)) a l) J<|U J ?_
 obtain ⟨b,m,f⟩:=q7 f
 refine qv (qgj j b m) J<|Qk J J<|Qk J J<|qz 1 (.dat 3 [[G a.X,G a.Y,G a.Z]]) J<|qz 2 (.dat 3 [[G b.X,G b.Y,G b.Z]]) J<|q9<|qe<|Q2 [Q7 0,q0,q0,qm 2,qm 1,qm 2,qm 1] (by kernel_rfl)<|O (.d (.agg [G a.X,G a.Y,G a.Z])) J<|O (.d (.agg [G b.X,G b.Y,G b.Z])) J<|O (.d (.agg [G a.X,G a.Y,G a.Z])) J<|O (.d (.agg [G b.X,G b.Y,G b.Z])) J ?_
 obtain ⟨g,n,f⟩:=q7 f
 refine qv (qne a b g n) J<|O (.d (.agg [G a.X,G a.Y,G a.Z,G b.X,G b.Y,G b.Z,G g.X,G g.Y,G g.Z])) J<|qz 0 (.dat 9 [[G a.X,G a.Y,G a.Z,G b.X,G b.Y,G b.Z,G g.X,G g.Y,G g.Z]]) J<|qo ?_
 obtain rfl:=qc f
 exact qy (.d (.agg [G a.X,G a.Y,G a.Z,G b.X,G b.Y,G b.Z,G g.X,G g.Y,G g.Z])) J
theorem qni (a : ql × ql × ql) (b : ql) (r : ql) (c : q6r a b = some r) : Pure Tryz.prog tab 100 [.agg [G a.1.X,G a.1.Y,G a.1.Z,G a.2.1.X,G a.2.1.Y,G a.2.1.Z,G a.2.2.X,G a.2.2.Y,G a.2.2.Z],.agg [G b.X,G b.Y,G b.Z]] (.agg [G r.X,G r.Y,G r.Z]):=by
 unfold q6r at c
 refine Qb Tryz.func100 J (by kernel_rfl) (by kernel_rfl) J<|qa<|Qe (.ref 0 9 0 0) (.dat 9 [[G a.1.X,G a.1.Y,G a.1.Z,G a.2.1.X,G a.2.1.Y,G a.2.1.Z,G a.2.2.X,G a.2.2.Y,G a.2.2.Z]]) J<|Qe (.ref 1 3 0 0) (.dat 3 [[G b.X,G b.Y,G b.Z]]) J<|Qk J J<|qp<|O (.ref 1 3 0 0) J<|O (q6 b.X) J<|O (.ref 0 9 0 0) J<|O (.ref 0 9 0 0) J<|O (q6 a.1.X) J<|O (.d (G (w64 (b.X * a.1.X)))) J<|O (.ref 1 3 0 1) J<|O (q6 b.Y) J<|O (.ref 0 9 0 3) J<|O (.ref 0 9 0 3) J<|O (q6 a.2.1.X) J<|O (.d (G (w64 (b.Y * a.2.1.X)))) J<|O (.d (G (w64 ((w64 (b.X * a.1.X)) + (w64 (b.Y * a.2.1.X)))))) J<|O (.ref 1 3 0 2) J<|O (q6 b.Z) J<|O (.ref 0 9 0 6) J<|O (.ref 0 9 0 6) J<|O (q6 a.2.2.X) J<|O (.d (G (w64 (b.Z * a.2.2.X)))) J<|O (.d (G (w64 ((w64 ((w64 (b.X * a.1.X)) + (w64 (b.Y * a.2.1.X)))) + (w64 (b.Z * a.2.2.X)))))) J<|O (.ref 1 3 0 0) J<|O (q6 b.X) J<|O (.ref 0 9 0 0) J<|O (.ref 0 9 0 1) J<|O (q6 a.1.Y) J<|O (.d (G (w64 (b.X * a.1.Y)))) J<|O (.ref 1 3 0 1) J<|O (q6 b.Y) J<|O (.ref 0 9 0 3) J<|O (.ref 0 9 0 4) J<|O (q6 a.2.1.Y) J<|O (.d (G (w64 (b.Y * a.2.1.Y)))) J<|O (.d (G (w64 ((w64 (b.X * a.1.Y)) + (w64 (b.Y * a.2.1.Y)))))) J<|O (.ref 1 3 0 2) J ?_
 refine O (q6 b.Z) J<|O (.ref 0 9 0 6) J<|O (.ref 0 9 0 7) J<|O (q6 a.2.2.Y) J<|O (.d (G (w64 (b.Z * a.2.2.Y)))) J<|O (.d (G (w64 ((w64 ((w64 (b.X * a.1.Y)) + (w64 (b.Y * a.2.1.Y)))) + (w64 (b.Z * a.2.2.Y)))))) J<|O (.ref 1 3 0 0) J<|O (q6 b.X) J<|O (.ref 0 9 0 0) J<|O (.ref 0 9 0 2) J<|O (q6 a.1.Z) J<|O (.d (G (w64 (b.X * a.1.Z)))) J<|O (.ref 1 3 0 1) J<|O (q6 b.Y) J<|O (.ref 0 9 0 3) J<|O (.ref 0 9 0 5) J<|O (q6 a.2.1.Z) J<|O (.d (G (w64 (b.Y * a.2.1.Z)))) J<|O (.d (G (w64 ((w64 (b.X * a.1.Z)) + (w64 (b.Y * a.2.1.Z)))))) J<|O (.ref 1 3 0 2) J<|O (q6 b.Z) J<|O (.ref 0 9 0 6) J<|O (.ref 0 9 0 8) J<|O (q6 a.2.2.Z) J<|O (.d (G (w64 (b.Z * a.2.2.Z)))) J<|O (.d (G (w64 ((w64 ((w64 (b.X * a.1.Z)) + (w64 (b.Y * a.2.1.Z)))) + (w64 (b.Z * a.2.2.Z)))))) J<|O (.d (.agg [G (w64 ((w64 ((w64 (b.X * a.1.X)) + (w64 (b.Y * a.2.1.X)))) + (w64 (b.Z * a.2.2.X)))),G (w64 ((w64 ((w64 (b.X * a.1.Y)) + (w64 (b.Y * a.2.1.Y)))) + (w64 (b.Z * a.2.2.Y)))),G (w64 ((w64 ((w64 (b.X * a.1.Z)) + (w64 (b.Y * a.2.1.Z)))) + (w64 (b.Z * a.2.2.Z))))])) J<|qz 2 (.dat 3 [[G (w64 ((w64 ((w64 (b.X * a.1.X)) + (w64 (b.Y * a.2.1.X)))) + (w64 (b.Z * a.2.2.X)))),G (w64 ((w64 ((w64 (b.X * a.1.Y)) + (w64 (b.Y * a.2.1.Y)))) + (w64 (b.Z * a.2.2.Y)))),G (w64 ((w64 ((w64 (b.X * a.1.Z)) + (w64 (b.Y * a.2.1.Z)))) + (w64 (b.Z * a.2.2.Z))))]]) J<|qo ?_
 obtain rfl:=qc c
 exact qy (.d (.agg [G (w64 ((w64 ((w64 (b.X * a.1.X)) + (w64 (b.Y * a.2.1.X)))) + (w64 (b.Z * a.2.2.X)))),G (w64 ((w64 ((w64 (b.X * a.1.Y)) + (w64 (b.Y * a.2.1.Y)))) + (w64 (b.Z * a.2.2.Y)))),G (w64 ((w64 ((w64 (b.X * a.1.Z)) + (w64 (b.Y * a.2.1.Z)))) + (w64 (b.Z * a.2.2.Z))))])) J
theorem qng (a : Qx) (c : ql) (r : ql) (f : q6q a c = some r) : Pure Tryz.prog tab 76 [.agg [.int .u8 a.Turn,G a.At.X,G a.At.Y,G a.At.Z],.agg [G c.X,G c.Y,G c.Z]] (.agg [G r.X,G r.Y,G r.Z]):=by
 unfold q6q at f
 refine Qb Tryz.func76 J (by kernel_rfl) (by kernel_rfl) J<|qa<|Qe (.ref 0 4 0 0) (.dat 4 [[.int .u8 a.Turn,G a.At.X,G a.At.Y,G a.At.Z]]) J<|Qe (.ref 1 3 0 0) (.dat 3 [[G c.X,G c.Y,G c.Z]]) J<|Qk J J<|q9<|qe<|Q2 [Q7 1,q0,qm 1,q0,qm 0,q0] (by kernel_rfl)<|O (.ref 0 4 0 0) J<|O (.d (.int .u8 a.Turn)) J ?_
 obtain ⟨g,h,f⟩:=q7 f
 refine qv (qnd a.Turn g h) J<|O (.d (.agg [G c.X,G c.Y,G c.Z])) J ?_
 obtain ⟨b,j,f⟩:=q7 f
 refine qv (qni g c b j) J<|qz 1 (.dat 3 [[G b.X,G b.Y,G b.Z]]) J<|qp<|O (.ref 1 3 0 0) J<|O (q6 b.X) J<|O (.ref 0 4 0 1) J<|O (.ref 0 4 0 1) J<|O (q6 a.At.X) J<|O (.d (G (w64 (b.X + a.At.X)))) J<|O (.ref 1 3 0 1) J<|O (q6 b.Y) J<|O (.ref 0 4 0 1) J<|O (.ref 0 4 0 2) J<|O (q6 a.At.Y) J<|O (.d (G (w64 (b.Y + a.At.Y)))) J<|O (.ref 1 3 0 2) J<|O (q6 b.Z) J<|O (.ref 0 4 0 1) J<|O (.ref 0 4 0 3) J<|O (q6 a.At.Z) J<|O (.d (G (w64 (b.Z + a.At.Z)))) J<|O (.d (.agg [G (w64 (b.X + a.At.X)),G (w64 (b.Y + a.At.Y)),G (w64 (b.Z + a.At.Z))])) J<|qz 2 (.dat 3 [[G (w64 (b.X + a.At.X)),G (w64 (b.Y + a.At.Y)),G (w64 (b.Z + a.At.Z))]]) J<|qo ?_
 obtain rfl:=qc f
 exact qy (.d (.agg [G (w64 (b.X + a.At.X)),G (w64 (b.Y + a.At.Y)),G (w64 (b.Z + a.At.Z))])) J
theorem qgg (b : Qx) (f : ql) (r : ql × Int) (a : q47 b f = some r) : Pure Tryz.prog tab 72 [.agg [.int .u8 b.Turn,G b.At.X,G b.At.Y,G b.At.Z],.agg [G f.X,G f.Y,G f.Z]] (.tup [.agg [G r.1.X,G r.1.Y,G r.1.Z],G r.2]):=by
 unfold q47 at a
 refine Qb Tryz.func72 J (by kernel_rfl) (by kernel_rfl) J<|qa<|Qe (.ref 0 4 0 0) (.dat 4 [[.int .u8 b.Turn,G b.At.X,G b.At.Y,G b.At.Z]]) J<|Qe (.ref 1 3 0 0) (.dat 3 [[G f.X,G f.Y,G f.Z]]) J<|Qk J J<|q8 J<|q9<|qe<|qa<|O (.d (.agg [.int .u8 b.Turn,G b.At.X,G b.At.Y,G b.At.Z])) J ?_
 obtain ⟨g,k,a⟩:=q7 a
 refine qv (qgi b g k) J<|q8 J<|qp<|U J<|O (qf (g != 0)) J<|q9 ?_
 refine qj J a (fun _ a=>?_) (fun _ a=>?_)
 ·refine qa<|O (.d (.agg [G 0,G 0,G 0])) J<|U J<|qz 2 (.dat 3 [[G 0,G 0,G 0]]) J<|q8 J<|qo ?_
  obtain rfl:=qc a
  exact qy (.d (.tup [.agg [G 0,G 0,G 0],G g])) J
 refine qk<|qe<|qa<|O (.d (.agg [G f.X,G f.Y,G f.Z])) J ?_
 obtain ⟨h,l,a⟩:=q7 a
 refine qv (qc9 f (-1000000) h l) J<|O (qf (!h)) J<|q9 ?_
 refine qj J a (fun _ a=>?_) (fun _ a=>?_)
 ·refine qa<|O (.d (.agg [G 0,G 0,G 0])) J<|qz 2 (.dat 3 [[G 0,G 0,G 0]]) J<|q8 J<|qo ?_
  obtain rfl:=qc a
  exact qy (.d (.tup [.agg [G 0,G 0,G 0],G 2])) J
 refine qk<|qa<|O (.d (.agg [.int .u8 b.Turn,G b.At.X,G b.At.Y,G b.At.Z])) J<|O (.d (.agg [G f.X,G f.Y,G f.Z])) J ?_
 obtain ⟨c,m,a⟩:=q7 a
 refine qv (qng b f c m) J<|qz 1 (.dat 3 [[G c.X,G c.Y,G c.Z]]) J<|q9<|qe<|qa<|O (.d (.agg [G c.X,G c.Y,G c.Z])) J ?_
 obtain ⟨j,n,a⟩:=q7 a
 refine qv (qc9 c (-1000000) j n) J<|O (qf (!j)) J<|q9 ?_
 refine qj J a (fun _ a=>?_) (fun _ a=>?_)
 ·refine qa<|O (.d (.agg [G 0,G 0,G 0])) J<|qz 2 (.dat 3 [[G 0,G 0,G 0]]) J<|q8 J<|qo ?_
  obtain rfl:=qc a
  exact qy (.d (.tup [.agg [G 0,G 0,G 0],G 16])) J
 refine qk<|qa<|O (.d (.agg [G c.X,G c.Y,G c.Z])) J<|qz 2 (.dat 3 [[G c.X,G c.Y,G c.Z]]) J<|q8 J<|qo ?_
 obtain rfl:=qc a
 exact qy (.d (.tup [.agg [G c.X,G c.Y,G c.Z],G 0])) J
theorem qwp (j : List qd) (c : Qx) (r : List qd × Int) (h : q8o j c = some r) : Pure Tryz.prog tab 34 [.sl 6 (j.map qr),.agg [.int .u8 c.Turn,G c.At.X,G c.At.Y,G c.At.Z]] (.tup [.sl 6 (r.1.map qr),G r.2]):=by
 unfold q8o at h
 refine Qb Tryz.func34 J (by kernel_rfl) (by kernel_rfl) J<|qa<|Qe (.ref 0 4 0 0) (.dat 4 [[.int .u8 c.Turn,G c.At.X,G c.At.Y,G c.At.Z]]) J<|q8 J<|q8 J<|q9<|qe<|qa<|U J ?_
 obtain ⟨o,w,h⟩:=q7 h
 refine qv (qas j o w) J<|q8 J<|qp<|U J<|O (qf (o != 0)) J<|q9 ?_
 refine qj J h (fun _ h=>?_) (fun _ h=>?_)
 ·refine qa<|U J<|q8 J<|q8 J<|qo ?_
  obtain rfl:=qc h
  exact finD (.inr J) (v:=.d (.tup [.nilsl,G o])) J J (Kx (.cons (.nil _) (.cons (.refl _) .nil)))
 refine qk<|qe<|qa<|O (.d (.agg [.int .u8 c.Turn,G c.At.X,G c.At.Y,G c.At.Z])) J ?_
 obtain ⟨p,x,h⟩:=q7 h
 refine qv (qgi c p x) J<|q8 J<|qp<|U J<|O (qf (p != 0)) J<|q9 ?_
 refine qj J h (fun _ h=>?_) (fun _ h=>?_)
 ·refine qa<|U J<|q8 J<|q8 J<|qo ?_
  obtain rfl:=qc h
  exact finD (.inr J) (v:=.d (.tup [.nilsl,G p])) J J (Kx (.cons (.nil _) (.cons (.refl _) .nil)))
 refine qk<|qa<|q8 J<|q9<|qe<|qa<|U J<|Qg J<|U J<|q9 ?_
 obtain ⟨q,y,h⟩:=q7 h
 refine Q9 (fun k=>.inl k = q) (fun (k : List qd)=>⟨[(8,.hs 0 6 0 k.length)],[(0,.dat 6 (k.map qr))],1⟩) (by simp) ?_ ?_
 ·refine Q4 (q3k j c) (fun (l : Int × List qd)=>⟨[(3,.ref 0 4 0 0),(8,.hs 1 6 0 l.2.length),(25,.d (.sl 6 (j.map qr))),(26,q6 (j.length : Int)),(27,q6 l.1)],[(0,.dat 4 [[.int .u8 c.Turn,G c.At.X,G c.At.Y,G c.At.Z]]),(1,.dat 6 (l.2.map qr))],2⟩) (0,[]) q y (wkA [(0,0)] [] [1]) ?_
  intro l af f
  unfold q3k at f
  refine qa<|O (.d (.bool (decide (l.1 < (j.length : Int))))) J<|q9<|qe ?_
  refine qj J f (fun _ f=>?_) (fun _ f=>?_)
  ·refine qk<|qe<|qw<|qa ?_
   obtain ⟨g,z,f⟩:=q7 f
   refine Q3 (enc:=qr) z J<|O (.d (.agg [G g.Lo.X,G g.Lo.Y,G g.Lo.Z,G g.Hi.X,G g.Hi.Y,G g.Hi.Z])) J<|Qk J J<|qz 2 (.dat 6 [[G g.Lo.X,G g.Lo.Y,G g.Lo.Z,G g.Hi.X,G g.Hi.Y,G g.Hi.Z]]) J<|qp<|O (.d (.agg [.int .u8 c.Turn,G c.At.X,G c.At.Y,G c.At.Z])) J<|O (.ref 2 6 0 0) J<|O (.d (.agg [G g.Lo.X,G g.Lo.Y,G g.Lo.Z])) J ?_
   obtain ⟨b,aa,f⟩:=q7 f
   refine qv (qgg c g.Lo b aa) J<|U J<|O (.d (.agg [G b.1.X,G b.1.Y,G b.1.Z])) J<|O (q6 b.2) J<|Qk J J<|qz 3 (.dat 3 [[G b.1.X,G b.1.Y,G b.1.Z]]) J<|q8 J<|qp<|O (.d (.agg [.int .u8 c.Turn,G c.At.X,G c.At.Y,G c.At.Z])) J<|O (.ref 2 6 0 3) J<|O (.d (.agg [G g.Hi.X,G g.Hi.Y,G g.Hi.Z])) J ?_
   obtain ⟨a,ab,f⟩:=q7 f
   refine qv (qgg c g.Hi a ab) J<|U J<|O (.d (.agg [G a.1.X,G a.1.Y,G a.1.Z])) J<|O (q6 a.2) J<|Qk J J<|qz 4 (.dat 3 [[G a.1.X,G a.1.Y,G a.1.Z]]) J<|q8 J<|q9<|qe<|qa<|U J<|O (qf (b.2 != 0)) J ?_
   obtain ⟨ac,m,f⟩:=q7 f
   refine Q5 4 (fun A st=>∃ (s t u : V),st = A [(50,qf ac),(49,u),(48,t),(47,s)]) ?_ ?_
   ·refine Q6 J J m (fun m=>?_) (fun m=>?_)
    ·refine qb J<|qb J<|O (qf true) J<|q9 ?_
     obtain rfl:=qc m
     exact ⟨_,_,_,J⟩
    refine U J<|O (qf (a.2 != 0)) J<|O (qf (a.2 != 0)) J<|q9 ?_
    obtain rfl:=qc m
    exact ⟨_,_,_,J⟩
   rintro _ ⟨s,t,u,rfl⟩
   refine q9 ?_
   refine qj J f (fun _ f=>?_) (fun _ f=>?_)
   ·refine qa<|q8 J<|q8 J<|qo ?_
    refine ⟨_,(Option.some.inj f).symm,fun hm=>?_⟩
    subst hm
    obtain rfl:=qc h
    exact finD (.inr J) (v:=.d (.tup [.nilsl,G 16])) J J (Kx (.cons (.nil _) (.cons (.refl _) .nil)))
   refine qk<|qt<|U J<|O (.ref 3 3 0 0) J<|O (q6 b.1.X) J<|O (.ref 4 3 0 0) J<|O (q6 a.1.X) J<|Y4 (r:=min b.1.X a.1.X) J J (by simp only [Y2];rfl)<|O (.ref 3 3 0 1) J<|O (q6 b.1.Y) J<|O (.ref 4 3 0 1) J<|O (q6 a.1.Y) J<|Y4 (r:=min b.1.Y a.1.Y) J J (by simp only [Y2];rfl)<|O (.ref 3 3 0 2) J<|O (q6 b.1.Z) J<|O (.ref 4 3 0 2) J<|O (q6 a.1.Z) J<|Y4 (r:=min b.1.Z a.1.Z) J J (by simp only [Y2];rfl)<|O (.d (.agg [G (min b.1.X a.1.X),G (min b.1.Y a.1.Y),G (min b.1.Z a.1.Z)])) J<|O (.ref 3 3 0 0) J<|O (q6 b.1.X) J<|O (.ref 4 3 0 0) J<|O (q6 a.1.X) J<|Y3 (r:=max b.1.X a.1.X) J J (by simp only [Kz];rfl)<|O (.ref 3 3 0 1) J<|O (q6 b.1.Y) J<|O (.ref 4 3 0 1) J<|O (q6 a.1.Y) J<|Y3 (r:=max b.1.Y a.1.Y) J J (by simp only [Kz];rfl)<|O (.ref 3 3 0 2) J<|O (q6 b.1.Z) J<|O (.ref 4 3 0 2) J<|O (q6 a.1.Z) J<|Y3 (r:=max b.1.Z a.1.Z) J J (by simp only [Kz];rfl)<|O (.d (.agg [G (max b.1.X a.1.X),G (max b.1.Y a.1.Y),G (max b.1.Z a.1.Z)])) J<|O (.d (.agg [G (min b.1.X a.1.X),G (min b.1.Y a.1.Y),G (min b.1.Z a.1.Z),G (max b.1.X a.1.X),G (max b.1.Y a.1.Y),G (max b.1.Z a.1.Z)])) J<|Qe (.hs 5 6 0 [({Lo:=({X:=min b.1.X a.1.X,Y:=min b.1.Y a.1.Y,Z:=min b.1.Z a.1.Z} : ql),Hi:=({X:=max b.1.X a.1.X,Y:=max b.1.Y a.1.Y,Z:=max b.1.Z a.1.Z} : ql)} : qd)].length) (.dat 6 ([({Lo:=({X:=min b.1.X a.1.X,Y:=min b.1.Y a.1.Y,Z:=min b.1.Z a.1.Z} : ql),Hi:=({X:=max b.1.X a.1.X,Y:=max b.1.Y a.1.Y,Z:=max b.1.Z a.1.Z} : ql)} : qd)].map qr)) J ?_
   obtain ⟨ag,ad,f⟩:=q7 f
   refine Kl (xs:=l.2) (ys:=[({Lo:=({X:=min b.1.X a.1.X,Y:=min b.1.Y a.1.Y,Z:=min b.1.Z a.1.Z} : ql),Hi:=({X:=max b.1.X a.1.X,Y:=max b.1.Y a.1.Y,Z:=max b.1.Z a.1.Z} : ql)} : qd)]) (enc:=qr) (.hs 5 6 0 [({Lo:=({X:=min b.1.X a.1.X,Y:=min b.1.Y a.1.Y,Z:=min b.1.Z a.1.Z} : ql),Hi:=({X:=max b.1.X a.1.X,Y:=max b.1.Y a.1.Y,Z:=max b.1.Z a.1.Z} : ql)} : qd)].length) ad J J J J J J J (Ki J J) J J J J<|q8 J<|qq<|Qa<|qt<|O (.d (G (w64 (l.1 + 1)))) J<|U J<|qq ?_
   exact ⟨_,(Option.some.inj f).symm,wkA [(0,0),(1,6)] [] []⟩
  refine Q1 ?_
  refine ⟨_,(Option.some.inj f).symm,fun hm=>?_⟩
  subst hm
  exact ⟨_,J,wkA [(0,1)] [] []⟩
 intro k hb
 subst hb
 refine qe ?_
 refine Ym (st':=⟨[(8,.d (.sl 6 (k.map qr)))],[],0⟩) (wkA [] [0] []) ?_ (by simp)
 refine qt<|U J ?_
 obtain ⟨n,ae,h⟩:=q7 h
 refine qv (qwn k n ae) J<|O (.d (.sl 6 (n.1.map qr))) J<|O (q6 n.2) J<|q8 J<|q8 J<|qo ?_
 obtain rfl:=qc h
 exact qy (.d (.tup [.sl 6 (n.1.map qr),G n.2])) J
theorem qil (a : Qx) (r : Int) (b : q4p a = some r) : Pure Tryz.prog tab 39 [.agg [.int .u8 a.Turn,G a.At.X,G a.At.Y,G a.At.Z]] (G r):=by
 unfold q4p at b
 refine Qb Tryz.func39 J (by kernel_rfl) (by kernel_rfl) J<|qa<|Qe (.ref 0 4 0 0) (.dat 4 [[.int .u8 a.Turn,G a.At.X,G a.At.Y,G a.At.Z]]) J<|q8 J<|q9<|qe<|qa<|O (.ref 0 4 0 0) J<|O (.d (.int .u8 a.Turn)) J<|O (.d (.bool (decide (a.Turn ≥ 24)))) J ?_
 obtain ⟨m,c,b⟩:=q7 b
 refine Q5 6 (fun A st=>∃ (g h j k l : V),st = A [(11,qf m),(10,l),(9,k),(8,j),(7,h),(6,g)]) ?_ ?_
 ·refine Q6 J J c (fun c=>?_) (fun c=>?_)
  ·refine qb J<|qb J<|qb J<|qb J<|O (qf true) J<|q9 ?_
   obtain rfl:=qc c
   exact ⟨_,_,_,_,_,J⟩
  refine O (.ref 0 4 0 1) J<|O (.d (.agg [G a.At.X,G a.At.Y,G a.At.Z])) J ?_
  obtain ⟨f,n,c⟩:=q7 c
  refine qv (qdh a.At (-1000000) f n) J<|O (qf (!f)) J<|O (qf (!f)) J<|q9 ?_
  obtain rfl:=qc c
  exact ⟨_,_,_,_,_,J⟩
 rintro _ ⟨g,h,j,k,l,rfl⟩
 refine q9 ?_
 refine qj J b (fun _ b=>?_) (fun _ b=>?_)
 ·refine qa<|q8 J<|qo ?_
  obtain rfl:=qc b
  exact qy (q6 8) J
 refine qk<|qa<|q8 J<|qo ?_
 obtain rfl:=qc b
 exact qy (q6 0) J
theorem qac (c : Int) (r : ql) (b : Jy c = some r) : Pure Tryz.prog tab 126 [G c] (.agg [G r.X,G r.Y,G r.Z]):=by
 unfold Jy at b
 refine Qb Tryz.func126 J (by kernel_rfl) (by kernel_rfl) J<|qa<|Qk J J<|qp<|q8 J<|q9<|qe<|qa<|U J<|O (q6 (Int.tmod c 2)) J<|O (.d (.bool ((Int.tmod c 2) == 1))) J<|q9 ?_
 obtain ⟨g,f,b⟩:=q7 b
 refine Kv (fun a=>a = g) (fun (a : Int)=>⟨[(0,q6 c),(2,.ref 0 3 0 0),(3,q6 a)],[(0,.dat 3 [[G 0,G 0,G 0]])],1⟩) (by simp) ?_ ?_
 ·refine qj J f (fun _ f=>?_) (fun _ f=>?_)
  ·refine qt<|q8 J<|qq ?_
   obtain rfl:=qc f
   exact ⟨_,J,wkA [(0,0)] [] []⟩
  refine qk<|Q8 ?_
  obtain rfl:=qc f
  exact ⟨_,J,wkA [(0,0)] [] []⟩
 intro a hb
 subst hb
 refine qe<|qa<|U J<|O (.d (.bool (decide (c < 2)))) J<|q9 ?_
 refine qj J b (fun _ b=>?_) (fun _ b=>?_)
 ·refine qa<|U J<|O (.d (.agg [G a,G 0,G 0])) J<|qz 0 (.dat 3 [[G a,G 0,G 0]]) J<|qo ?_
  obtain rfl:=qc b
  exact qy (.d (.agg [G a,G 0,G 0])) J
 refine qk<|qe<|qa<|U J<|O (.d (.bool (decide (c < 4)))) J<|q9 ?_
 refine qj J b (fun _ b=>?_) (fun _ b=>?_)
 ·refine qa<|U J<|O (.d (.agg [G 0,G a,G 0])) J<|qz 0 (.dat 3 [[G 0,G a,G 0]]) J<|qo ?_
  obtain rfl:=qc b
  exact qy (.d (.agg [G 0,G a,G 0])) J
 refine qk<|qa<|U J<|O (.d (.agg [G 0,G 0,G a])) J<|qz 0 (.dat 3 [[G 0,G 0,G a]]) J<|qo ?_
 obtain rfl:=qc b
 exact qy (.d (.agg [G 0,G 0,G a])) J
theorem qr1 (a : ql) (b : ql) (r : ql) (c : qab a b = some r) : Pure Tryz.prog tab 127 [.agg [G a.X,G a.Y,G a.Z],.agg [G b.X,G b.Y,G b.Z]] (.agg [G r.X,G r.Y,G r.Z]):=by
 unfold qab at c
 refine Qb Tryz.func127 J (by kernel_rfl) (by kernel_rfl) J<|qa<|Qe (.ref 0 3 0 0) (.dat 3 [[G a.X,G a.Y,G a.Z]]) J<|Qe (.ref 1 3 0 0) (.dat 3 [[G b.X,G b.Y,G b.Z]]) J<|Qk J J<|qp<|O (.ref 0 3 0 1) J<|O (q6 a.Y) J<|O (.ref 1 3 0 2) J<|O (q6 b.Z) J<|O (.d (G (w64 (a.Y * b.Z)))) J<|O (.ref 0 3 0 2) J<|O (q6 a.Z) J<|O (.ref 1 3 0 1) J<|O (q6 b.Y) J<|O (.d (G (w64 (a.Z * b.Y)))) J<|O (.d (G (w64 ((w64 (a.Y * b.Z)) - (w64 (a.Z * b.Y)))))) J<|O (.ref 0 3 0 2) J<|O (q6 a.Z) J<|O (.ref 1 3 0 0) J<|O (q6 b.X) J<|O (.d (G (w64 (a.Z * b.X)))) J<|O (.ref 0 3 0 0) J<|O (q6 a.X) J<|O (.ref 1 3 0 2) J<|O (q6 b.Z) J<|O (.d (G (w64 (a.X * b.Z)))) J<|O (.d (G (w64 ((w64 (a.Z * b.X)) - (w64 (a.X * b.Z)))))) J<|O (.ref 0 3 0 0) J<|O (q6 a.X) J<|O (.ref 1 3 0 1) J<|O (q6 b.Y) J<|O (.d (G (w64 (a.X * b.Y)))) J<|O (.ref 0 3 0 1) J<|O (q6 a.Y) J<|O (.ref 1 3 0 0) J<|O (q6 b.X) J<|O (.d (G (w64 (a.Y * b.X)))) J<|O (.d (G (w64 ((w64 (a.X * b.Y)) - (w64 (a.Y * b.X)))))) J<|O (.d (.agg [G (w64 ((w64 (a.Y * b.Z)) - (w64 (a.Z * b.Y)))),G (w64 ((w64 (a.Z * b.X)) - (w64 (a.X * b.Z)))),G (w64 ((w64 (a.X * b.Y)) - (w64 (a.Y * b.X))))])) J ?_
 refine qz 2 (.dat 3 [[G (w64 ((w64 (a.Y * b.Z)) - (w64 (a.Z * b.Y)))),G (w64 ((w64 (a.Z * b.X)) - (w64 (a.X * b.Z)))),G (w64 ((w64 (a.X * b.Y)) - (w64 (a.Y * b.X))))]]) J<|qo ?_
 obtain rfl:=qc c
 exact qy (.d (.agg [G (w64 ((w64 (a.Y * b.Z)) - (w64 (a.Z * b.Y)))),G (w64 ((w64 (a.Z * b.X)) - (w64 (a.X * b.Z)))),G (w64 ((w64 (a.X * b.Y)) - (w64 (a.Y * b.X))))])) J
theorem qr2 (b : Int) (r : (ql × ql × ql)) (a : q73 b = some r) : Pure Tryz.prog tab 103 [G b] (.agg [G r.1.X,G r.1.Y,G r.1.Z,G r.2.1.X,G r.2.1.Y,G r.2.1.Z,G r.2.2.X,G r.2.2.Y,G r.2.2.Z]):=by
 unfold q73 at a
 refine Qb Tryz.func103 J (by kernel_rfl) (by kernel_rfl) J<|qa<|Qk J J<|qp<|U J<|O (.d (G (w64 (Int.tdiv b 4)))) J<|q8 J<|qp<|q8 J<|q9<|qe<|qa<|q8 J<|q9 ?_
 obtain ⟨o,t,a⟩:=q7 a
 refine Q9 (fun l=>l = o) (fun (l : List Int)=>⟨[(0,q6 b),(2,.ref 0 9 0 0),(3,.d (G (w64 (Int.tdiv b 4)))),(4,.hs 1 1 0 l.length)],[(0,.dat 9 [[G 0,G 0,G 0,G 0,G 0,G 0,G 0,G 0,G 0]]),(1,.dat 1 (l.map (eI .i64)))],2⟩) (by simp) ?_ ?_
 ·refine Q4 (q74 b) (fun (c : Int × List Int)=>⟨[(0,q6 b),(2,.ref 0 9 0 0),(3,.d (G (w64 (Int.tdiv b 4)))),(4,.hs 1 1 0 c.2.length),(5,q6 c.1)],[(0,.dat 9 [[G 0,G 0,G 0,G 0,G 0,G 0,G 0,G 0,G 0]]),(1,.dat 1 (c.2.map (eI .i64)))],2⟩) (0,[]) o t (wkA [(0,0)] [] [1]) ?_
  intro c y8 j
  unfold q74 at j
  refine qe<|qa<|U J<|O (.d (.bool (decide (c.1 < 6)))) J<|q9 ?_
  refine qj J j (fun _ j=>?_) (fun _ j=>?_)
  ·refine qk<|qe ?_
   obtain ⟨u,k,j⟩:=q7 j
   refine Q9 (fun m=>m = u) (fun (m : List Int)=>⟨[(0,q6 b),(2,.ref 0 9 0 0),(3,.d (G (w64 (Int.tdiv b 4)))),(4,.hs 1 1 0 m.length),(5,q6 c.1)],[(0,.dat 9 [[G 0,G 0,G 0,G 0,G 0,G 0,G 0,G 0,G 0]]),(1,.dat 1 (m.map (eI .i64)))],2⟩) (by simp) ?_ ?_
   ·refine qa<|U J<|O (.d (G (w64 (Int.tdiv c.1 2)))) J<|U J<|O (.d (G (w64 (Int.tdiv (w64 (Int.tdiv b 4)) 2)))) J<|O (.d (.bool ((w64 (Int.tdiv c.1 2)) != (w64 (Int.tdiv (w64 (Int.tdiv b 4)) 2))))) J<|q9 ?_
    refine qj J k (fun _ k=>?_) (fun _ k=>?_)
    ·refine qt<|U J<|U J<|Qe (.hs 2 1 0 [c.1].length) (.dat 1 ([c.1].map (eI .i64))) J ?_
     obtain ⟨ac,v,k⟩:=q7 k
     refine Kl (xs:=c.2) (ys:=[c.1]) (enc:=(eI .i64)) (.hs 2 1 0 [c.1].length) v J J J J J J J (Ki J J) J J J J<|q8 J<|qq ?_
     obtain rfl:=qc k
     exact ⟨_,J,wkA [(0,0),(1,3)] [] []⟩
    refine qk<|Q8 ?_
    obtain rfl:=qc k
    exact ⟨_,J,wkA [(0,0),(1,1)] [] []⟩
   intro m hb
   subst hb
   refine qt<|U J<|O (.d (G (w64 (c.1 + 1)))) J<|q8 J<|qq ?_
   exact ⟨_,(Option.some.inj j).symm,wkA [(0,0),(1,1)] [] []⟩
  refine Q1 ?_
  refine ⟨_,(Option.some.inj j).symm,fun hm=>?_⟩
  subst hm
  exact ⟨_,J,wkA [(0,0),(1,1)] [] []⟩
 intro l hb
 subst hb
 refine qa<|U J<|U J<|O (q6 (Int.tmod b 4)) J ?_
 obtain ⟨n,p,a⟩:=q7 a
 refine qn p J J<|qx (q6 n) p J<|q8 J<|qp<|U J ?_
 obtain ⟨f,w,a⟩:=q7 a
 refine qv (qac (w64 (Int.tdiv b 4)) f w) J<|U J ?_
 obtain ⟨g,x,a⟩:=q7 a
 refine qv (qac n g x) J<|U J ?_
 obtain ⟨q,y,a⟩:=q7 a
 refine qv (qac (w64 (Int.tdiv b 4)) q y) J<|U J ?_
 obtain ⟨s,z,a⟩:=q7 a
 refine qv (qac n s z) J ?_
 obtain ⟨h,aa,a⟩:=q7 a
 refine qv (qr1 q s h aa) J<|O (.d (.agg [G f.X,G f.Y,G f.Z,G g.X,G g.Y,G g.Z,G h.X,G h.Y,G h.Z])) J<|qz 0 (.dat 9 [[G f.X,G f.Y,G f.Z,G g.X,G g.Y,G g.Z,G h.X,G h.Y,G h.Z]]) J<|qo ?_
 obtain rfl:=qc a
 exact qy (.d (.agg [G f.X,G f.Y,G f.Z,G g.X,G g.Y,G g.Z,G h.X,G h.Y,G h.Z])) J
theorem qdj (b : Int) (a : ql) (r : ql) (c : q4r b a = some r) : Pure Tryz.prog tab 74 [G b,.agg [G a.X,G a.Y,G a.Z]] (.agg [G r.X,G r.Y,G r.Z]):=by
 unfold q4r at c
 refine Qb Tryz.func74 J (by kernel_rfl) (by kernel_rfl) J<|qa<|Qe (.ref 0 3 0 0) (.dat 3 [[G a.X,G a.Y,G a.Z]]) J<|Qk J J<|qp<|U J<|O (.ref 0 3 0 0) J<|O (q6 a.X) J<|O (.d (G (w64 (b * a.X)))) J<|U J<|O (.ref 0 3 0 1) J<|O (q6 a.Y) J<|O (.d (G (w64 (b * a.Y)))) J<|U J<|O (.ref 0 3 0 2) J<|O (q6 a.Z) J<|O (.d (G (w64 (b * a.Z)))) J<|O (.d (.agg [G (w64 (b * a.X)),G (w64 (b * a.Y)),G (w64 (b * a.Z))])) J<|qz 1 (.dat 3 [[G (w64 (b * a.X)),G (w64 (b * a.Y)),G (w64 (b * a.Z))]]) J<|qo ?_
 obtain rfl:=qc c
 exact qy (.d (.agg [G (w64 (b * a.X)),G (w64 (b * a.Y)),G (w64 (b * a.Z))])) J
theorem qdi (a : ql) (b : ql) (r : ql) (c : q2x a b = some r) : Pure Tryz.prog tab 43 [.agg [G a.X,G a.Y,G a.Z],.agg [G b.X,G b.Y,G b.Z]] (.agg [G r.X,G r.Y,G r.Z]):=by
 unfold q2x at c
 refine Qb Tryz.func43 J (by kernel_rfl) (by kernel_rfl) J<|qa<|Qe (.ref 0 3 0 0) (.dat 3 [[G a.X,G a.Y,G a.Z]]) J<|Qe (.ref 1 3 0 0) (.dat 3 [[G b.X,G b.Y,G b.Z]]) J<|Qk J J<|qp<|O (.ref 0 3 0 0) J<|O (q6 a.X) J<|O (.ref 1 3 0 0) J<|O (q6 b.X) J<|O (.d (G (w64 (a.X + b.X)))) J<|O (.ref 0 3 0 1) J<|O (q6 a.Y) J<|O (.ref 1 3 0 1) J<|O (q6 b.Y) J<|O (.d (G (w64 (a.Y + b.Y)))) J<|O (.ref 0 3 0 2) J<|O (q6 a.Z) J<|O (.ref 1 3 0 2) J<|O (q6 b.Z) J<|O (.d (G (w64 (a.Z + b.Z)))) J<|O (.d (.agg [G (w64 (a.X + b.X)),G (w64 (a.Y + b.Y)),G (w64 (a.Z + b.Z))])) J<|qz 2 (.dat 3 [[G (w64 (a.X + b.X)),G (w64 (a.Y + b.Y)),G (w64 (a.Z + b.Z))]]) J<|qo ?_
 obtain rfl:=qc c
 exact qy (.d (.agg [G (w64 (a.X + b.X)),G (w64 (a.Y + b.Y)),G (w64 (a.Z + b.Z))])) J
theorem qr5 (a : ql × ql × ql) (b : ql) (r : ql) (c : q75 a b = some r) : Pure Tryz.prog tab 102 [.agg [G a.1.X,G a.1.Y,G a.1.Z,G a.2.1.X,G a.2.1.Y,G a.2.1.Z,G a.2.2.X,G a.2.2.Y,G a.2.2.Z],.agg [G b.X,G b.Y,G b.Z]] (.agg [G r.X,G r.Y,G r.Z]):=by
 unfold q75 at c
 refine Qb Tryz.func102 J (by kernel_rfl) (by kernel_rfl) J<|qa<|Qe (.ref 0 9 0 0) (.dat 9 [[G a.1.X,G a.1.Y,G a.1.Z,G a.2.1.X,G a.2.1.Y,G a.2.1.Z,G a.2.2.X,G a.2.2.Y,G a.2.2.Z]]) J<|Qe (.ref 1 3 0 0) (.dat 3 [[G b.X,G b.Y,G b.Z]]) J<|Qk J J<|q9<|qe<|Q2 [Q7 2,q0,q0,q0,qm 0,q0,qm 1,q0,q0,qm 0,q0,qm 1,q0,q0,qm 0,q0,qm 1,q0] (by kernel_rfl)<|O (.ref 1 3 0 0) J<|O (q6 b.X) J<|O (.ref 0 9 0 0) J<|O (.d (.agg [G a.1.X,G a.1.Y,G a.1.Z])) J ?_
 obtain ⟨g,l,c⟩:=q7 c
 refine qv (qdj b.X a.1 g l) J<|O (.ref 1 3 0 1) J<|O (q6 b.Y) J<|O (.ref 0 9 0 3) J<|O (.d (.agg [G a.2.1.X,G a.2.1.Y,G a.2.1.Z])) J ?_
 obtain ⟨h,m,c⟩:=q7 c
 refine qv (qdj b.Y a.2.1 h m) J<|O (.ref 1 3 0 2) J<|O (q6 b.Z) J<|O (.ref 0 9 0 6) J<|O (.d (.agg [G a.2.2.X,G a.2.2.Y,G a.2.2.Z])) J ?_
 obtain ⟨j,n,c⟩:=q7 c
 refine qv (qdj b.Z a.2.2 j n) J ?_
 obtain ⟨k,o,c⟩:=q7 c
 refine qv (qdi h j k o) J ?_
 obtain ⟨f,p,c⟩:=q7 c
 refine qv (qdi g k f p) J<|qz 2 (.dat 3 [[G f.X,G f.Y,G f.Z]]) J<|qo ?_
 obtain rfl:=qc c
 exact qy (.d (.agg [G f.X,G f.Y,G f.Z])) J
theorem qin (a : Qx) (b : ql) (r : ql) (c : q4q a b = some r) : Pure Tryz.prog tab 77 [.agg [.int .u8 a.Turn,G a.At.X,G a.At.Y,G a.At.Z],.agg [G b.X,G b.Y,G b.Z]] (.agg [G r.X,G r.Y,G r.Z]):=by
 unfold q4q at c
 refine Qb Tryz.func77 J (by kernel_rfl) (by kernel_rfl) J<|qa<|Qe (.ref 0 4 0 0) (.dat 4 [[.int .u8 a.Turn,G a.At.X,G a.At.Y,G a.At.Z]]) J<|Qe (.ref 1 3 0 0) (.dat 3 [[G b.X,G b.Y,G b.Z]]) J<|Qk J J<|q9<|qe<|Q2 [Q7 2,q0,qm 0,q0,q0,qm 1,q0,q0,qm 0,q0] (by kernel_rfl)<|O (.ref 0 4 0 0) J<|O (.d (.int .u8 a.Turn)) J<|O (q6 (w64 a.Turn)) J ?_
 obtain ⟨g,j,c⟩:=q7 c
 refine qv (qr2 (w64 a.Turn) g j) J<|O (.d (.agg [G b.X,G b.Y,G b.Z])) J ?_
 obtain ⟨h,k,c⟩:=q7 c
 refine qv (qr5 g b h k) J<|O (.ref 0 4 0 1) J<|O (.d (.agg [G a.At.X,G a.At.Y,G a.At.Z])) J ?_
 obtain ⟨f,l,c⟩:=q7 c
 refine qv (qdi h a.At f l) J<|qz 2 (.dat 3 [[G f.X,G f.Y,G f.Z]]) J<|qo ?_
 obtain rfl:=qc c
 exact qy (.d (.agg [G f.X,G f.Y,G f.Z])) J
theorem qri (c : qd) (f : Qx) (r : qd) (g : q7d c f = some r) : Pure Tryz.prog tab 42 [.agg [G c.Lo.X,G c.Lo.Y,G c.Lo.Z,G c.Hi.X,G c.Hi.Y,G c.Hi.Z],.agg [.int .u8 f.Turn,G f.At.X,G f.At.Y,G f.At.Z]] (.agg [G r.Lo.X,G r.Lo.Y,G r.Lo.Z,G r.Hi.X,G r.Hi.Y,G r.Hi.Z]):=by
 unfold q7d at g
 refine Qb Tryz.func42 J (by kernel_rfl) (by kernel_rfl) J<|qa<|Qe (.ref 0 6 0 0) (.dat 6 [[G c.Lo.X,G c.Lo.Y,G c.Lo.Z,G c.Hi.X,G c.Hi.Y,G c.Hi.Z]]) J<|Qe (.ref 1 4 0 0) (.dat 4 [[.int .u8 f.Turn,G f.At.X,G f.At.Y,G f.At.Z]]) J<|Qk J J<|q9<|qe<|Q2 [Q7 4,Q7 3,(some [],[4]),(some [],[3]),q0,qm 0,q0,qm 1,q0,qm 0,q0,qm 1] (by kernel_rfl)<|O (.d (.agg [.int .u8 f.Turn,G f.At.X,G f.At.Y,G f.At.Z])) J<|O (.ref 0 6 0 0) J<|O (.d (.agg [G c.Lo.X,G c.Lo.Y,G c.Lo.Z])) J ?_
 obtain ⟨a,h,g⟩:=q7 g
 refine qv (qin f c.Lo a h) J<|O (.d (.agg [.int .u8 f.Turn,G f.At.X,G f.At.Y,G f.At.Z])) J<|O (.ref 0 6 0 3) J<|O (.d (.agg [G c.Hi.X,G c.Hi.Y,G c.Hi.Z])) J ?_
 obtain ⟨b,j,g⟩:=q7 g
 refine qv (qin f c.Hi b j) J<|Qk J J<|Qk J J<|qz 3 (.dat 3 [[G a.X,G a.Y,G a.Z]]) J<|qz 4 (.dat 3 [[G b.X,G b.Y,G b.Z]]) J<|qp<|O (.ref 3 3 0 0) J<|O (q6 a.X) J<|O (.ref 4 3 0 0) J<|O (q6 b.X) J<|Y4 (r:=min a.X b.X) J J (by simp only [Y2];rfl)<|O (.ref 3 3 0 1) J<|O (q6 a.Y) J<|O (.ref 4 3 0 1) J<|O (q6 b.Y) J<|Y4 (r:=min a.Y b.Y) J J (by simp only [Y2];rfl)<|O (.ref 3 3 0 2) J<|O (q6 a.Z) J<|O (.ref 4 3 0 2) J<|O (q6 b.Z) J<|Y4 (r:=min a.Z b.Z) J J (by simp only [Y2];rfl)<|O (.d (.agg [G (min a.X b.X),G (min a.Y b.Y),G (min a.Z b.Z)])) J<|O (.ref 3 3 0 0) J<|O (q6 a.X) J<|O (.ref 4 3 0 0) J<|O (q6 b.X) J<|Y3 (r:=max a.X b.X) J J (by simp only [Kz];rfl)<|O (.ref 3 3 0 1) J<|O (q6 a.Y) J<|O (.ref 4 3 0 1) J<|O (q6 b.Y) J<|Y3 (r:=max a.Y b.Y) J J (by simp only [Kz];rfl)<|O (.ref 3 3 0 2) J<|O (q6 a.Z) J<|O (.ref 4 3 0 2) J<|O (q6 b.Z) J<|Y3 (r:=max a.Z b.Z) J J (by simp only [Kz];rfl)<|O (.d (.agg [G (max a.X b.X),G (max a.Y b.Y),G (max a.Z b.Z)])) J<|O (.d (.agg [G (min a.X b.X),G (min a.Y b.Y),G (min a.Z b.Z),G (max a.X b.X),G (max a.Y b.Y),G (max a.Z b.Z)])) J<|qz 2 (.dat 6 [[G (min a.X b.X),G (min a.Y b.Y),G (min a.Z b.Z),G (max a.X b.X),G (max a.Y b.Y),G (max a.Z b.Z)]]) J ?_
 refine qo ?_
 obtain rfl:=qc g
 exact qy (.d (.agg [G (min a.X b.X),G (min a.Y b.Y),G (min a.Z b.Z),G (max a.X b.X),G (max a.Y b.Y),G (max a.Z b.Z)])) J
theorem qrh (f : List qd) (a : Qx) (r : List qd × Int) (b : q7c f a = some r) : Pure Tryz.prog tab 35 [.sl 6 (f.map qr),.agg [.int .u8 a.Turn,G a.At.X,G a.At.Y,G a.At.Z]] (.tup [.sl 6 (r.1.map qr),G r.2]):=by
 unfold q7c at b
 refine Qb Tryz.func35 J (by kernel_rfl) (by kernel_rfl) J<|qa<|Qe (.ref 0 4 0 0) (.dat 4 [[.int .u8 a.Turn,G a.At.X,G a.At.Y,G a.At.Z]]) J<|q8 J<|q8 J<|q9<|qe<|qa<|U J ?_
 obtain ⟨n,w,b⟩:=q7 b
 refine qv (q1l f n w) J<|O (qf (n != 0)) J<|q9 ?_
 refine qj J b (fun _ b=>?_) (fun _ b=>?_)
 ·refine qa<|U J ?_
  obtain ⟨o,x,b⟩:=q7 b
  refine qv (q1l f o x) J<|q8 J<|q8 J<|qo ?_
  obtain rfl:=qc b
  exact finD (.inr J) (v:=.d (.tup [.nilsl,G o])) J J (Kx (.cons (.nil _) (.cons (.refl _) .nil)))
 refine qk<|qe<|qa<|O (.d (.agg [.int .u8 a.Turn,G a.At.X,G a.At.Y,G a.At.Z])) J ?_
 obtain ⟨p,y,b⟩:=q7 b
 refine qv (qil a p y) J<|O (qf (p != 0)) J<|q9 ?_
 refine qj J b (fun _ b=>?_) (fun _ b=>?_)
 ·refine qa<|O (.d (.agg [.int .u8 a.Turn,G a.At.X,G a.At.Y,G a.At.Z])) J ?_
  obtain ⟨q,z,b⟩:=q7 b
  refine qv (qil a q z) J<|q8 J<|q8 J<|qo ?_
  obtain rfl:=qc b
  exact finD (.inr J) (v:=.d (.tup [.nilsl,G q])) J J (Kx (.cons (.nil _) (.cons (.refl _) .nil)))
 refine qk<|qa<|q8 J<|q9<|qe<|qa<|q8 J<|q9 ?_
 obtain ⟨s,aa,b⟩:=q7 b
 refine Q9 (fun g=>.inl g = s) (fun (g : List qd)=>⟨[(6,.hs 0 6 0 g.length)],[(0,.dat 6 (g.map qr))],1⟩) (by simp) ?_ ?_
 ·refine Q4 (q32 f a) (fun (h : Int × List qd)=>⟨[(0,.d (.sl 6 (f.map qr))),(3,.ref 0 4 0 0),(6,.hs 1 6 0 h.2.length),(7,q6 h.1)],[(0,.dat 4 [[.int .u8 a.Turn,G a.At.X,G a.At.Y,G a.At.Z]]),(1,.dat 6 (h.2.map qr))],2⟩) (0,[]) s aa (wkA [(0,0)] [] [1]) ?_
  intro h ag c
  unfold q32 at c
  refine qe<|qa<|U J<|U J<|Qg J<|O (.d (.bool (decide (h.1 < (f.length : Int))))) J<|q9 ?_
  refine qj J c (fun _ c=>?_) (fun _ c=>?_)
  ·refine qk<|qe<|qw<|qe<|Q2 [q0,(some [1,2],[1,3]),(some [],[2]),q0,qm 0,q0,q0,q0,q0,q0] (by kernel_rfl)<|U J<|U J<|U J ?_
   obtain ⟨j,ab,c⟩:=q7 c
   refine Q3 (enc:=qr) ab J<|O (.d (.agg [G j.Lo.X,G j.Lo.Y,G j.Lo.Z,G j.Hi.X,G j.Hi.Y,G j.Hi.Z])) J<|O (.d (.agg [.int .u8 a.Turn,G a.At.X,G a.At.Y,G a.At.Z])) J ?_
   obtain ⟨l,ac,c⟩:=q7 c
   refine qv (qri j a l ac) J<|Qe (.hs 2 6 0 [l].length) (.dat 6 ([l].map qr)) J ?_
   obtain ⟨ah,ad,c⟩:=q7 c
   refine Kl (xs:=h.2) (ys:=[l]) (enc:=qr) (.hs 2 6 0 [l].length) ad J J J J J J J (Ki J J) J J J J<|q8 J<|qp<|U J<|U J ?_
   obtain ⟨k,t,c⟩:=q7 c
   refine qn t J J<|qx (.d (.agg [G k.Lo.X,G k.Lo.Y,G k.Lo.Z,G k.Hi.X,G k.Hi.Y,G k.Hi.Z])) t J ?_
   obtain ⟨u,ae,c⟩:=q7 c
   refine qv (qdk k u ae) J<|O (qf (!u)) J<|q9 ?_
   refine qj J c (fun _ c=>?_) (fun _ c=>?_)
   ·refine qa<|q8 J<|q8 J<|qo ?_
    refine ⟨_,(Option.some.inj c).symm,fun hm=>?_⟩
    subst hm
    obtain rfl:=qc b
    exact finD (.inr J) (v:=.d (.tup [.nilsl,G 16])) J J (Kx (.cons (.nil _) (.cons (.refl _) .nil)))
   refine qk<|Q8<|Qa<|qt<|U J<|O (.d (G (w64 (h.1 + 1)))) J<|q8 J<|qq ?_
   exact ⟨_,(Option.some.inj c).symm,wkA [(0,0),(1,3)] [] []⟩
  refine Q1 ?_
  refine ⟨_,(Option.some.inj c).symm,fun hm=>?_⟩
  subst hm
  exact ⟨_,J,wkA [(0,1)] [] []⟩
 intro g hb
 subst hb
 refine qe ?_
 refine Ym (st':=⟨[(6,.d (.sl 6 (g.map qr)))],[],0⟩) (wkA [] [0] []) ?_ (by simp)
 refine qt<|U J ?_
 obtain ⟨m,af,b⟩:=q7 b
 refine qv (qrf g m af) J<|O (.d (.sl 6 (m.1.map qr))) J<|O (q6 m.2) J<|q8 J<|q8 J<|qo ?_
 obtain rfl:=qc b
 exact qy (.d (.tup [.sl 6 (m.1.map qr),G m.2])) J
theorem qyt (g : List qd) (f : Qx) (w : Int) (r : Bool) (a : q9y g f w = some r) : Pure Tryz.prog tab 5 [.sl 6 (g.map qr),.agg [.int .u8 f.Turn,G f.At.X,G f.At.Y,G f.At.Z],G w] (.bool r):=by
 unfold q9y at a
 refine Qb Tryz.func5 J (by kernel_rfl) (by kernel_rfl) J<|qa<|Qe (.ref 0 4 0 0) (.dat 4 [[.int .u8 f.Turn,G f.At.X,G f.At.Y,G f.At.Z]]) J<|q8 J<|q9<|qe<|qa<|U J ?_
 obtain ⟨r1,h2,a⟩:=q7 a
 refine qv (qra g r1 h2) J<|q9 ?_
 refine qj J a (fun _ a=>?_) (fun _ a=>?_)
 ·refine qa<|q8 J<|qo ?_
  obtain rfl:=qc a
  exact qy (qf true) J
 refine qk<|qa<|U J ?_
 obtain ⟨b,h4,a⟩:=q7 a
 refine qv (qwk g b h4) J<|U J<|O (.d (.agg [G b.1.Lo.X,G b.1.Lo.Y,G b.1.Lo.Z,G b.1.Hi.X,G b.1.Hi.Y,G b.1.Hi.Z])) J<|O (q6 b.2) J<|Qk J J<|qz 1 (.dat 6 [[G b.1.Lo.X,G b.1.Lo.Y,G b.1.Lo.Z,G b.1.Hi.X,G b.1.Hi.Y,G b.1.Hi.Z]]) J<|q8 J<|qp<|U J ?_
 obtain ⟨c,h6,a⟩:=q7 a
 refine qv (qrc g c h6) J<|U J<|O (.d (.agg [G c.1.Lo.X,G c.1.Lo.Y,G c.1.Lo.Z,G c.1.Hi.X,G c.1.Hi.Y,G c.1.Hi.Z])) J<|O (q6 c.2) J<|Qk J J<|qz 2 (.dat 6 [[G c.1.Lo.X,G c.1.Lo.Y,G c.1.Lo.Z,G c.1.Hi.X,G c.1.Hi.Y,G c.1.Hi.Z]]) J<|q8 J<|qp<|U J<|U J ?_
 obtain ⟨m,h8,a⟩:=q7 a
 refine qv (qwr g w m h8) J<|U J<|O (.d (.sl 4 (m.1.map qs))) J<|O (q6 m.2) J<|q8 J<|q8 J<|qp<|U J<|U J ?_
 obtain ⟨n,bj,a⟩:=q7 a
 refine qv (qrk g w n bj) J<|U J<|O (.d (.sl 4 (n.1.map qs))) J<|O (q6 n.2) J<|q8 J<|q8 J<|qp<|U J ?_
 obtain ⟨h,bk,a⟩:=q7 a
 refine qv (qwt g h bk) J<|U J<|O (q6 h.1) J<|O (q6 h.2) J<|q8 J<|q8 J<|qp<|U J ?_
 obtain ⟨j,bl,a⟩:=q7 a
 refine qv (qrm g j bl) J<|U J<|O (q6 j.1) J<|O (q6 j.2) J<|q8 J<|q8 J<|qp<|U J<|O (.d (.agg [.int .u8 f.Turn,G f.At.X,G f.At.Y,G f.At.Z])) J ?_
 obtain ⟨o,bm,a⟩:=q7 a
 refine qv (qwp g f o bm) J<|U J<|O (.d (.sl 6 (o.1.map qr))) J<|O (q6 o.2) J<|q8 J<|q8 J<|qp<|U J<|O (.d (.agg [.int .u8 f.Turn,G f.At.X,G f.At.Y,G f.At.Z])) J ?_
 obtain ⟨p,bn,a⟩:=q7 a
 refine qv (qrh g f p bn) J<|U J<|O (.d (.sl 6 (p.1.map qr))) J<|O (q6 p.2) J<|q8 J<|q8 J<|qp<|O (.d (.agg [G b.1.Lo.X,G b.1.Lo.Y,G b.1.Lo.Z,G b.1.Hi.X,G b.1.Hi.Y,G b.1.Hi.Z])) J<|O (.d (.agg [G c.1.Lo.X,G c.1.Lo.Y,G c.1.Lo.Z,G c.1.Hi.X,G c.1.Hi.Y,G c.1.Hi.Z])) J<|O (.d (.bool ((b.1.Lo.X == c.1.Lo.X) && ((b.1.Lo.Y == c.1.Lo.Y) && ((b.1.Lo.Z == c.1.Lo.Z) && ((b.1.Hi.X == c.1.Hi.X) && ((b.1.Hi.Y == c.1.Hi.Y) && ((b.1.Hi.Z == c.1.Hi.Z) && true)))))))) J ?_
 obtain ⟨bo,q,a⟩:=q7 a
 refine Q5 5 (fun A st=>∃ (x y z aa : V),st = A [(76,qf bo),(75,aa),(74,z),(73,y),(72,x)]) ?_ ?_
 ·refine Q6 J J q (fun q=>?_) (fun q=>?_)
  ·refine U J<|U J<|O (qf (b.2 == c.2)) J<|O (qf (b.2 == c.2)) J<|q9 ?_
   obtain rfl:=qc q
   exact ⟨_,_,_,_,J⟩
  refine qb J<|qb J<|qb J<|O (qf false) J<|q9 ?_
  obtain rfl:=qc q
  exact ⟨_,_,_,_,J⟩
 rintro _ ⟨x,y,z,aa,rfl⟩
 obtain ⟨bp,k,a⟩:=q7 a
 refine Q5 5 (fun A st=>∃ (ab ac ad ae : V),st = A [(81,qf bp),(80,ae),(79,ad),(78,ac),(77,ab)]) ?_ ?_
 ·refine Q6 J J k (fun k=>?_) (fun k=>?_)
  ·refine U J<|U J ?_
   obtain ⟨af,bq,k⟩:=q7 k
   refine qv (qik m.1 n.1 af bq) J<|O (qf af) J<|q9 ?_
   obtain rfl:=qc k
   exact ⟨_,_,_,_,J⟩
  refine qb J<|qb J<|qb J<|O (qf false) J<|q9 ?_
  obtain rfl:=qc k
  exact ⟨_,_,_,_,J⟩
 rintro _ ⟨ab,ac,ad,ae,rfl⟩
 obtain ⟨br,s,a⟩:=q7 a
 refine Q5 5 (fun A st=>∃ (ag ah ai aj : V),st = A [(86,qf br),(85,aj),(84,ai),(83,ah),(82,ag)]) ?_ ?_
 ·refine Q6 J J s (fun s=>?_) (fun s=>?_)
  ·refine U J<|U J<|O (qf (m.2 == n.2)) J<|O (qf (m.2 == n.2)) J<|q9 ?_
   obtain rfl:=qc s
   exact ⟨_,_,_,_,J⟩
  refine qb J<|qb J<|qb J<|O (qf false) J<|q9 ?_
  obtain rfl:=qc s
  exact ⟨_,_,_,_,J⟩
 rintro _ ⟨ag,ah,ai,aj,rfl⟩
 obtain ⟨bs,t,a⟩:=q7 a
 refine Q5 5 (fun A st=>∃ (ak al am an : V),st = A [(91,qf bs),(90,an),(89,am),(88,al),(87,ak)]) ?_ ?_
 ·refine Q6 J J t (fun t=>?_) (fun t=>?_)
  ·refine U J<|U J<|O (qf (h.1 == j.1)) J<|O (qf (h.1 == j.1)) J<|q9 ?_
   obtain rfl:=qc t
   exact ⟨_,_,_,_,J⟩
  refine qb J<|qb J<|qb J<|O (qf false) J<|q9 ?_
  obtain rfl:=qc t
  exact ⟨_,_,_,_,J⟩
 rintro _ ⟨ak,al,am,an,rfl⟩
 obtain ⟨bt,u,a⟩:=q7 a
 refine Q5 5 (fun A st=>∃ (ao ap aq ar : V),st = A [(96,qf bt),(95,ar),(94,aq),(93,ap),(92,ao)]) ?_ ?_
 ·refine Q6 J J u (fun u=>?_) (fun u=>?_)
  ·refine U J<|U J<|O (qf (h.2 == j.2)) J<|O (qf (h.2 == j.2)) J<|q9 ?_
   obtain rfl:=qc u
   exact ⟨_,_,_,_,J⟩
  refine qb J<|qb J<|qb J<|O (qf false) J<|q9 ?_
  obtain rfl:=qc u
  exact ⟨_,_,_,_,J⟩
 rintro _ ⟨ao,ap,aq,ar,rfl⟩
 obtain ⟨bu,l,a⟩:=q7 a
 refine Q5 5 (fun A st=>∃ (au av aw ax : V),st = A [(101,qf bu),(100,ax),(99,aw),(98,av),(97,au)]) ?_ ?_
 ·refine Q6 J J l (fun l=>?_) (fun l=>?_)
  ·refine U J<|U J ?_
   obtain ⟨ay,bv,l⟩:=q7 l
   refine qv (qir o.1 p.1 ay bv) J<|O (qf ay) J<|q9 ?_
   obtain rfl:=qc l
   exact ⟨_,_,_,_,J⟩
  refine qb J<|qb J<|qb J<|O (qf false) J<|q9 ?_
  obtain rfl:=qc l
  exact ⟨_,_,_,_,J⟩
 rintro _ ⟨au,av,aw,ax,rfl⟩
 obtain ⟨az,v,a⟩:=q7 a
 refine Q5 5 (fun A st=>∃ (ba bb bc bd : V),st = A [(106,qf az),(105,bd),(104,bc),(103,bb),(102,ba)]) ?_ ?_
 ·refine Q6 J J v (fun v=>?_) (fun v=>?_)
  ·refine U J<|U J<|O (qf (o.2 == p.2)) J<|O (qf (o.2 == p.2)) J<|q9 ?_
   obtain rfl:=qc v
   exact ⟨_,_,_,_,J⟩
  refine qb J<|qb J<|qb J<|O (qf false) J<|q9 ?_
  obtain rfl:=qc v
  exact ⟨_,_,_,_,J⟩
 rintro _ ⟨ba,bb,bc,bd,rfl⟩
 refine q8 J<|qo ?_
 obtain rfl:=qc a
 exact qy (qf az) J
end Go.Proofs.YtjjmcdlnadkjbaaGreat
