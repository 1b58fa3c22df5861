/- W_Allc -/
import Derived.Test.YtbknppciefodiaaGreatK16
namespace Go.Proofs.YtbknppciefodiaaGreat
open Go Go.Am Go.Sh
set_option maxHeartbeats 8000000
set_option maxRecDepth 100000
theorem ql3 (a : qv) (r : Bool) (c : q9n a = some r) : Pure Tryz.prog tab 74 [.agg [G a.X,G a.Y,G a.Z]] (.bool r):=by
 unfold q9n at c
 refine Qg Tryz.func74 J qi qi J<|qb<|Qn (.ref 0 3 0 0) (.dat 3 [[G a.X,G a.Y,G a.Z]]) J<|qa J<|qt<|O (.ref 0 3 0 0) J<|O (q7 a.X) J<|O (.ref 0 3 0 1) J<|O (q7 a.Y) J<|O (.ref 0 3 0 2) J<|O (q7 a.Z) J<|Uy (r:=min (min a.X a.Y) a.Z) J J (by simp only [Uv];rfl)<|O (.d (.bool (decide ((min (min a.X a.Y) a.Z) ≥ (-1000000))))) J ?_
 obtain ⟨f,b,c⟩:=q8 c
 refine Qa 10 (fun A st=>∃ (g h j k l m n o p : V),st = A [(20,qh f),(19,p),(18,o),(17,n),(16,m),(15,l),(14,k),(13,j),(12,h),(11,g)]) ?_ ?_
 ·refine Qb J J b (fun b=>?_) (fun b=>?_)
  ·refine O (.ref 0 3 0 0) J<|O (q7 a.X) J<|O (.ref 0 3 0 1) J<|O (q7 a.Y) J<|O (.ref 0 3 0 2) J<|O (q7 a.Z) J<|U8 (r:=max (max a.X a.Y) a.Z) J J (by simp only [U6];rfl)<|O (.d (.bool (decide ((max (max a.X a.Y) a.Z)≤1000000)))) J<|O (.d (.bool (decide ((max (max a.X a.Y) a.Z)≤1000000)))) J<|q9 ?_
   obtain rfl:=qe b
   exact ⟨_,_,_,_,_,_,_,_,_,J⟩
  refine qc J<|qc J<|qc J<|qc J<|qc J<|qc J<|qc J<|qc J<|O (qh false) J<|q9 ?_
  obtain rfl:=qe b
  exact ⟨_,_,_,_,_,_,_,_,_,J⟩
 rintro _ ⟨g,h,j,k,l,m,n,o,p,rfl⟩
 refine qa J<|qp ?_
 obtain rfl:=qe c
 exact Q1 (qh f) J
theorem qup (f : List qg) (j : qg→Option Bool) (p1F : FuncId) (p1C : List DV) (p1Ok : ∀ (c : qg) (r : Bool),j c = some r→Pure Tryz.prog tab p1F ([.agg [G c.Lo.X,G c.Lo.Y,G c.Lo.Z,G c.Hi.X,G c.Hi.Y,G c.Hi.Z]] ++ p1C) (.bool r)) (r : Int) (g : qbi f j = some r) : Pure Tryz.prog tab 119 [.sl 6 (f.map qw),.fn p1F p1C] (G r):=by
 unfold qbi at g
 refine Qg Tryz.func119 J qi qi J<|qb<|qa J<|q9<|qf<|qb<|U J<|Qd J<|U J<|q9 ?_
 obtain ⟨l,m,g⟩:=q8 g
 refine Qe (fun k=>.inl k = l) (fun (k : Unit)=>⟨[],[],0⟩) qd ?_ ?_
 ·refine Q8 (q3e f j) (fun (h : Int)=>⟨[(0,.d (.sl 6 (f.map qw))),(1,.d (.fn p1F p1C)),(7,q7 (f.length : Int)),(8,q7 h)],[],0⟩) 0 l m (wkA [] [] []) ?_
  intro h q a
  unfold q3e at a
  refine qb<|O (.d (.bool (decide (h < (f.length : Int))))) J<|q9<|qf ?_
  refine qo J a (fun _ a=>?_) (fun _ a=>?_)
  ·refine qn<|qf<|Q0<|qb<|U J<|qa J<|qt<|U J<|U J<|U J ?_
   obtain ⟨b,n,a⟩:=q8 a
   refine Q4 (enc:=qw) n J<|O (.d (.agg [G b.Lo.X,G b.Lo.Y,G b.Lo.Z,G b.Hi.X,G b.Hi.Y,G b.Hi.Z])) J ?_
   obtain ⟨o,p,a⟩:=q8 a
   refine Yd [.d (.agg [G b.Lo.X,G b.Lo.Y,G b.Lo.Z,G b.Hi.X,G b.Hi.Y,G b.Hi.Z])] (p1Ok b o p) J J J (.inl J)<|q9 ?_
   refine qo J a (fun _ a=>?_) (fun _ a=>?_)
   ·refine qb<|U J<|qa J<|qp ?_
    refine ⟨_,(Option.some.inj a).symm,fun hm=>?_⟩
    subst hm
    obtain rfl:=qe g
    exact Q1 (q7 h) J
   refine qn<|Q9<|Qc<|qu<|O (.d (G (w64 (h + 1)))) J<|U J<|qs ?_
   exact ⟨_,(Option.some.inj a).symm,wkA [] [] []⟩
  refine Q3 ?_
  refine ⟨_,(Option.some.inj a).symm,fun hm=>?_⟩
  subst hm
  exact ⟨_,J,wkA [] [] []⟩
 intro k hb
 subst hb
 refine qb<|qa J<|qp ?_
 obtain rfl:=qe g
 exact Q1 (q7 (-1)) J
theorem qug (c : List qg) (f : qg→Option Bool) (p1F : FuncId) (p1C : List DV) (p1Ok : ∀ (a : qg) (r : Bool),f a = some r→Pure Tryz.prog tab p1F ([.agg [G a.Lo.X,G a.Lo.Y,G a.Lo.Z,G a.Hi.X,G a.Hi.Y,G a.Hi.Z]] ++ p1C) (.bool r)) (r : Bool) (b : q89 c f = some r) : Pure Tryz.prog tab 94 [.sl 6 (c.map qw),.fn p1F p1C] (.bool r):=by
 unfold q89 at b
 refine Qg Tryz.func94 J qi qi J<|qb<|qa J<|qt<|U J<|U J ?_
 obtain ⟨g,h,b⟩:=q8 b
 refine qz (qup c f p1F p1C p1Ok g h) J<|O (.d (.bool (decide (g ≥ 0)))) J<|qa J<|qp ?_
 obtain rfl:=qe b
 exact Q1 (.d (.bool (decide (g ≥ 0)))) J
theorem qxj (a : qg) (r : Bool) (b : q29 a = some r) : Pure Tryz.prog tab 95 [.agg [G a.Lo.X,G a.Lo.Y,G a.Lo.Z,G a.Hi.X,G a.Hi.Y,G a.Hi.Z]] (.bool r):=by
 unfold q29 at b
 refine Qg Tryz.func95 J qi qi J<|qb<|Qn (.ref 0 6 0 0) (.dat 6 [[G a.Lo.X,G a.Lo.Y,G a.Lo.Z,G a.Hi.X,G a.Hi.Y,G a.Hi.Z]]) J<|qa J<|qt<|O (.d (.agg [G a.Lo.X,G a.Lo.Y,G a.Lo.Z,G a.Hi.X,G a.Hi.Y,G a.Hi.Z])) J ?_
 obtain ⟨c,f,b⟩:=q8 b
 refine qz (qkq a c f) J<|O (qh (!c)) J<|qa J<|qp ?_
 obtain rfl:=qe b
 exact Q1 (qh (!c)) J
theorem qxl (b : List qg) (r : List qg × Int) (a : q98 b = some r) : Pure Tryz.prog tab 64 [.sl 6 (b.map qw)] (.tup [.sl 6 (r.1.map qw),G r.2]):=by
 unfold q98 at a
 refine Qg Tryz.func64 J qi qi J<|qb<|qa J<|qa J<|q9<|qf<|qb<|U J<|Qd J<|O (.d (.bool (decide ((b.length : Int) > 400)))) J<|q9 ?_
 refine qo J a (fun _ a=>?_) (fun _ a=>?_)
 ·refine qb<|qa J<|qa J<|qp ?_
  obtain rfl:=qe a
  exact finD (.inr J) (v:=.d (.tup [.nilsl,G 4])) J J (Kz (.cons (.nil _) (.cons (.refl _) .nil)))
 refine qn<|qf<|qb<|U J ?_
 obtain ⟨g,h,a⟩:=q8 a
 refine qz (qug b (fun f=>q29 f) 95 [] (fun f r hr=>qxj f r hr) g h) J<|q9 ?_
 refine qo J a (fun _ a=>?_) (fun _ a=>?_)
 ·refine qb<|qa J<|qa J<|qp ?_
  obtain rfl:=qe a
  exact finD (.inr J) (v:=.d (.tup [.nilsl,G 8])) J J (Kz (.cons (.nil _) (.cons (.refl _) .nil)))
 refine qn<|qb<|O (.d (.agg [.nilf])) J<|U J<|qio (es:=1) ([b].map Ql) J J J J J ?_
 obtain ⟨c,j,a⟩:=q8 a
 refine qz (qkr b c j) J<|O (.d (.sl 6 (c.1.map qw))) J<|O (q7 c.2) J<|qa J<|qa J<|qp ?_
 obtain rfl:=qe a
 exact Q1 (.d (.tup [.sl 6 (c.1.map qw),G c.2])) J
theorem ql2 (a : Qv) (k : List qg) (r : List qg × Int) (f : q6m a k = some r) : Pure Tryz.prog tab 45 [.agg [G a.From.X,G a.From.Y,G a.From.Z,G a.To.X,G a.To.Y,G a.To.Z,G a.Depth],.sl 6 (k.map qw)] (.tup [.sl 6 (r.1.map qw),G r.2]):=by
 unfold q6m at f
 refine Qg Tryz.func45 J qi qi J<|qb<|Qn (.ref 0 7 0 0) (.dat 7 [[G a.From.X,G a.From.Y,G a.From.Z,G a.To.X,G a.To.Y,G a.To.Z,G a.Depth]]) J<|qa J<|qa J<|q9<|qf<|Q7 [Qk 2,Qk 1,(some [],[2]),(some [],[1]),qq 0,q0,qq 0,q0] qi<|O (.ref 0 7 0 0) J<|O (.d (.agg [G a.From.X,G a.From.Y,G a.From.Z])) J<|O (.ref 0 7 0 3) J<|O (.d (.agg [G a.To.X,G a.To.Y,G a.To.Z])) J<|K2 J J<|K2 J J<|Qp 1 (.dat 3 [[G a.From.X,G a.From.Y,G a.From.Z]]) J<|Qp 2 (.dat 3 [[G a.To.X,G a.To.Y,G a.To.Z]]) J<|qt<|O (.ref 1 3 0 0) J<|O (q7 a.From.X) J<|O (.ref 2 3 0 0) J<|O (q7 a.To.X) J<|Uy (r:=min a.From.X a.To.X) J J (by simp only [Uv];rfl)<|O (.ref 1 3 0 1) J<|O (q7 a.From.Y) J<|O (.ref 2 3 0 1) J<|O (q7 a.To.Y) J<|Uy (r:=min a.From.Y a.To.Y) J J (by simp only [Uv];rfl)<|O (.ref 1 3 0 2) J<|O (q7 a.From.Z) J<|O (.ref 2 3 0 2) J<|O (q7 a.To.Z) J<|Uy (r:=min a.From.Z a.To.Z) J J (by simp only [Uv];rfl)<|O (.d (.agg [G (min a.From.X a.To.X),G (min a.From.Y a.To.Y),G (min a.From.Z a.To.Z)])) J<|K2 J J<|Qp 3 (.dat 3 [[G (min a.From.X a.To.X),G (min a.From.Y a.To.Y),G (min a.From.Z a.To.Z)]]) J<|qt<|O (.ref 1 3 0 0) J<|O (q7 a.From.X) J<|O (.ref 2 3 0 0) J<|O (q7 a.To.X) J ?_
 refine U8 (r:=max a.From.X a.To.X) J J (by simp only [U6];rfl)<|O (.ref 1 3 0 1) J<|O (q7 a.From.Y) J<|O (.ref 2 3 0 1) J<|O (q7 a.To.Y) J<|U8 (r:=max a.From.Y a.To.Y) J J (by simp only [U6];rfl)<|O (.ref 1 3 0 2) J<|O (q7 a.From.Z) J<|O (.ref 2 3 0 2) J<|O (q7 a.To.Z) J<|U8 (r:=max a.From.Z a.To.Z) J J (by simp only [U6];rfl)<|O (.d (.agg [G (max a.From.X a.To.X),G (max a.From.Y a.To.Y),G (max a.From.Z a.To.Z)])) J<|K2 J J<|Qp 4 (.dat 3 [[G (max a.From.X a.To.X),G (max a.From.Y a.To.Y),G (max a.From.Z a.To.Z)]]) J<|qt<|qa J<|q9<|qf<|qb<|U J<|Qd J<|U J<|q9 ?_
 obtain ⟨n,w,f⟩:=q8 f
 refine Qe (fun g=>.inl g = n) (fun (g : List qg)=>⟨[(10,.hs 0 6 0 g.length)],[(0,.dat 6 (g.map qw))],1⟩) qd ?_ ?_
 ·refine Q8 (q3x k a) (fun (h : Int × List qg)=>⟨[(8,.ref 0 3 0 0),(9,.ref 1 3 0 0),(10,.hs 2 6 0 h.2.length),(50,.d (.sl 6 (k.map qw))),(51,q7 (k.length : Int)),(52,q7 h.1)],[(0,.dat 3 [[G (min a.From.X a.To.X),G (min a.From.Y a.To.Y),G (min a.From.Z a.To.Z)]]),(1,.dat 3 [[G (max a.From.X a.To.X),G (max a.From.Y a.To.Y),G (max a.From.Z a.To.Z)]]),(2,.dat 6 (h.2.map qw))],3⟩) (0,[]) n w (wkA [(0,3),(1,4)] [] [2]) ?_
  intro h ad c
  unfold q3x at c
  refine qb<|O (.d (.bool (decide (h.1 < (k.length : Int))))) J<|q9<|qf ?_
  refine qo J c (fun _ c=>?_) (fun _ c=>?_)
  ·refine qn<|qf<|Q0<|qb ?_
   obtain ⟨b,x,c⟩:=q8 c
   refine Q4 (enc:=qw) x J<|O (.d (.agg [G b.Lo.X,G b.Lo.Y,G b.Lo.Z,G b.Hi.X,G b.Hi.Y,G b.Hi.Z])) J<|K2 J J<|Qp 3 (.dat 6 [[G b.Lo.X,G b.Lo.Y,G b.Lo.Z,G b.Hi.X,G b.Hi.Y,G b.Hi.Z]]) J<|qt<|O (.ref 3 6 0 0) J<|O (.ref 3 6 0 0) J<|O (q7 b.Lo.X) J<|O (.ref 0 3 0 0) J<|O (q7 (min a.From.X a.To.X)) J<|O (.d (G (w64 (b.Lo.X + (min a.From.X a.To.X))))) J<|O (.ref 3 6 0 0) J<|O (.ref 3 6 0 1) J<|O (q7 b.Lo.Y) J<|O (.ref 0 3 0 1) J<|O (q7 (min a.From.Y a.To.Y)) J<|O (.d (G (w64 (b.Lo.Y + (min a.From.Y a.To.Y))))) J<|O (.ref 3 6 0 0) J<|O (.ref 3 6 0 2) J<|O (q7 b.Lo.Z) J<|O (.ref 0 3 0 2) J<|O (q7 (min a.From.Z a.To.Z)) J<|O (.d (G (w64 (b.Lo.Z + (min a.From.Z a.To.Z))))) J<|O (.d (.agg [G (w64 (b.Lo.X + (min a.From.X a.To.X))),G (w64 (b.Lo.Y + (min a.From.Y a.To.Y))),G (w64 (b.Lo.Z + (min a.From.Z a.To.Z)))])) J<|O (.ref 3 6 0 3) J<|O (.ref 3 6 0 3) J<|O (q7 b.Hi.X) J<|O (.ref 1 3 0 0) J<|O (q7 (max a.From.X a.To.X)) J<|O (.d (G (w64 (b.Hi.X + (max a.From.X a.To.X))))) J<|O (.ref 3 6 0 3) J<|O (.ref 3 6 0 4) J<|O (q7 b.Hi.Y) J<|O (.ref 1 3 0 1) J<|O (q7 (max a.From.Y a.To.Y)) J<|O (.d (G (w64 (b.Hi.Y + (max a.From.Y a.To.Y))))) J<|O (.ref 3 6 0 3) J<|O (.ref 3 6 0 5) J<|O (q7 b.Hi.Z) J<|O (.ref 1 3 0 2) J ?_
   refine O (q7 (max a.From.Z a.To.Z)) J<|O (.d (G (w64 (b.Hi.Z + (max a.From.Z a.To.Z))))) J<|O (.d (.agg [G (w64 (b.Hi.X + (max a.From.X a.To.X))),G (w64 (b.Hi.Y + (max a.From.Y a.To.Y))),G (w64 (b.Hi.Z + (max a.From.Z a.To.Z)))])) J<|O (.d (.agg [G (w64 (b.Lo.X + (min a.From.X a.To.X))),G (w64 (b.Lo.Y + (min a.From.Y a.To.Y))),G (w64 (b.Lo.Z + (min a.From.Z a.To.Z))),G (w64 (b.Hi.X + (max a.From.X a.To.X))),G (w64 (b.Hi.Y + (max a.From.Y a.To.Y))),G (w64 (b.Hi.Z + (max a.From.Z a.To.Z)))])) J<|K2 J J<|Qp 4 (.dat 6 [[G (w64 (b.Lo.X + (min a.From.X a.To.X))),G (w64 (b.Lo.Y + (min a.From.Y a.To.Y))),G (w64 (b.Lo.Z + (min a.From.Z a.To.Z))),G (w64 (b.Hi.X + (max a.From.X a.To.X))),G (w64 (b.Hi.Y + (max a.From.Y a.To.Y))),G (w64 (b.Hi.Z + (max a.From.Z a.To.Z)))]]) J<|q9<|qf<|qb<|O (.ref 4 6 0 0) J<|O (.d (.agg [G (w64 (b.Lo.X + (min a.From.X a.To.X))),G (w64 (b.Lo.Y + (min a.From.Y a.To.Y))),G (w64 (b.Lo.Z + (min a.From.Z a.To.Z)))])) J ?_
   obtain ⟨o,y,c⟩:=q8 c
   refine qz (ql3 ({X:=w64 (b.Lo.X + (min a.From.X a.To.X)),Y:=w64 (b.Lo.Y + (min a.From.Y a.To.Y)),Z:=w64 (b.Lo.Z + (min a.From.Z a.To.Z))} : qv) o y) J<|O (qh (!o)) J ?_
   obtain ⟨z,j,c⟩:=q8 c
   refine Qa 6 (fun A st=>∃ (p q s t u : V),st = A [(104,qh z),(103,u),(102,t),(101,s),(100,q),(99,p)]) ?_ ?_
   ·refine Qb J J j (fun j=>?_) (fun j=>?_)
    ·refine qc J<|qc J<|qc J<|qc J<|O (qh true) J<|q9 ?_
     obtain rfl:=qe j
     exact ⟨_,_,_,_,_,J⟩
    refine O (.ref 4 6 0 3) J<|O (.d (.agg [G (w64 (b.Hi.X + (max a.From.X a.To.X))),G (w64 (b.Hi.Y + (max a.From.Y a.To.Y))),G (w64 (b.Hi.Z + (max a.From.Z a.To.Z)))])) J ?_
    obtain ⟨m,aa,j⟩:=q8 j
    refine qz (ql3 ({X:=w64 (b.Hi.X + (max a.From.X a.To.X)),Y:=w64 (b.Hi.Y + (max a.From.Y a.To.Y)),Z:=w64 (b.Hi.Z + (max a.From.Z a.To.Z))} : qv) m aa) J<|O (qh (!m)) J<|O (qh (!m)) J<|q9 ?_
    obtain rfl:=qe j
    exact ⟨_,_,_,_,_,J⟩
   rintro _ ⟨p,q,s,t,u,rfl⟩
   refine q9 ?_
   refine qo J c (fun _ c=>?_) (fun _ c=>?_)
   ·refine qb<|qa J<|qa J<|qp ?_
    refine ⟨_,(Option.some.inj c).symm,fun hm=>?_⟩
    subst hm
    obtain rfl:=qe f
    exact finD (.inr J) (v:=.d (.tup [.nilsl,G 16])) J J (Kz (.cons (.nil _) (.cons (.refl _) .nil)))
   refine qn<|qu<|U J<|O (.d (.agg [G (w64 (b.Lo.X + (min a.From.X a.To.X))),G (w64 (b.Lo.Y + (min a.From.Y a.To.Y))),G (w64 (b.Lo.Z + (min a.From.Z a.To.Z))),G (w64 (b.Hi.X + (max a.From.X a.To.X))),G (w64 (b.Hi.Y + (max a.From.Y a.To.Y))),G (w64 (b.Hi.Z + (max a.From.Z a.To.Z)))])) J<|Qn (.hs 5 6 0 [({Lo:=({X:=w64 (b.Lo.X + (min a.From.X a.To.X)),Y:=w64 (b.Lo.Y + (min a.From.Y a.To.Y)),Z:=w64 (b.Lo.Z + (min a.From.Z a.To.Z))} : qv),Hi:=({X:=w64 (b.Hi.X + (max a.From.X a.To.X)),Y:=w64 (b.Hi.Y + (max a.From.Y a.To.Y)),Z:=w64 (b.Hi.Z + (max a.From.Z a.To.Z))} : qv)} : qg)].length) (.dat 6 ([({Lo:=({X:=w64 (b.Lo.X + (min a.From.X a.To.X)),Y:=w64 (b.Lo.Y + (min a.From.Y a.To.Y)),Z:=w64 (b.Lo.Z + (min a.From.Z a.To.Z))} : qv),Hi:=({X:=w64 (b.Hi.X + (max a.From.X a.To.X)),Y:=w64 (b.Hi.Y + (max a.From.Y a.To.Y)),Z:=w64 (b.Hi.Z + (max a.From.Z a.To.Z))} : qv)} : qg)].map qw)) J ?_
   obtain ⟨ae,ab,c⟩:=q8 c
   refine Kw (xs:=h.2) (ys:=[({Lo:=({X:=w64 (b.Lo.X + (min a.From.X a.To.X)),Y:=w64 (b.Lo.Y + (min a.From.Y a.To.Y)),Z:=w64 (b.Lo.Z + (min a.From.Z a.To.Z))} : qv),Hi:=({X:=w64 (b.Hi.X + (max a.From.X a.To.X)),Y:=w64 (b.Hi.Y + (max a.From.Y a.To.Y)),Z:=w64 (b.Hi.Z + (max a.From.Z a.To.Z))} : qv)} : qg)]) (enc:=qw) (.hs 5 6 0 [({Lo:=({X:=w64 (b.Lo.X + (min a.From.X a.To.X)),Y:=w64 (b.Lo.Y + (min a.From.Y a.To.Y)),Z:=w64 (b.Lo.Z + (min a.From.Z a.To.Z))} : qv),Hi:=({X:=w64 (b.Hi.X + (max a.From.X a.To.X)),Y:=w64 (b.Hi.Y + (max a.From.Y a.To.Y)),Z:=w64 (b.Hi.Z + (max a.From.Z a.To.Z))} : qv)} : qg)].length) ab J J J J J J J (Ku J J) J J J J<|qa J<|qs<|Qc<|qu<|O (.d (G (w64 (h.1 + 1)))) J<|U J<|qs ?_
   exact ⟨_,(Option.some.inj c).symm,wkA [(0,0),(1,1),(2,6)] [] []⟩
  refine Q3 ?_
  refine ⟨_,(Option.some.inj c).symm,fun hm=>?_⟩
  subst hm
  exact ⟨_,J,wkA [(0,2)] [] []⟩
 intro g hb
 subst hb
 refine qf ?_
 refine Yn (st':=⟨[(10,.d (.sl 6 (g.map qw)))],[],0⟩) (wkA [] [0] []) ?_ qd
 refine qu<|U J ?_
 obtain ⟨l,ac,f⟩:=q8 f
 refine qz (qxl g l ac) J<|O (.d (.sl 6 (l.1.map qw))) J<|O (q7 l.2) J<|qa J<|qa J<|qp ?_
 obtain rfl:=qe f
 exact Q1 (.d (.tup [.sl 6 (l.1.map qw),G l.2])) J
theorem qyh (a : K1) (f : List (List qg)) (r : List (List qg) × Int) (g : q9k a f = some r) : Pure Tryz.prog tab 11 [.agg [.sl 7 (a.Lines.map Qf),.sl 5 (a.Marks.map Qy),.int .u8 a.End.Frame.Turn,G a.End.Frame.At.X,G a.End.Frame.At.Y,G a.End.Frame.At.Z,G a.End.Drawn],.sl 1 (f.map Ql)] (.tup [.sl 1 (r.1.map Ql),G r.2]):=by
 unfold q9k at g
 refine Qg Tryz.func11 J qi qi J<|qb<|Qn (.ref 0 7 0 0) (.dat 7 [[.sl 7 (a.Lines.map Qf),.sl 5 (a.Marks.map Qy),.int .u8 a.End.Frame.Turn,G a.End.Frame.At.X,G a.End.Frame.At.Y,G a.End.Frame.At.Z,G a.End.Drawn]]) J<|K2 J J<|K2 J J<|q9<|qf<|qb<|O (.d (.agg [.sl 7 (a.Lines.map Qf),.sl 5 (a.Marks.map Qy),.int .u8 a.End.Frame.Turn,G a.End.Frame.At.X,G a.End.Frame.At.Y,G a.End.Frame.At.Z,G a.End.Drawn])) J<|U J ?_
 obtain ⟨n,s,g⟩:=q8 g
 refine qz (qyj a f n s) J<|qa J<|qt<|U J<|O (qh (n != 0)) J<|q9 ?_
 refine qo J g (fun _ g=>?_) (fun _ g=>?_)
 ·refine qb<|U J<|Qp 1 (.dat 1 [[.nilsl]]) J<|Qp 2 (.dat 1 [[G n]]) J<|qp ?_
  obtain rfl:=qe g
  exact finD (.inr J) (v:=.d (.tup [.nilsl,G n])) J J (Kz (.cons (.nil _) (.cons (.refl _) .nil)))
 refine qn<|qb<|K2 J J<|q9<|qf<|qb<|O (.d (.agg [.sl 7 (a.Lines.map Qf),.sl 5 (a.Marks.map Qy),.int .u8 a.End.Frame.Turn,G a.End.Frame.At.X,G a.End.Frame.At.Y,G a.End.Frame.At.Z,G a.End.Drawn])) J<|U J ?_
 obtain ⟨t,u,g⟩:=q8 g
 refine qap [.d (.agg [.sl 7 (a.Lines.map Qf),.sl 5 (a.Marks.map Qy),.int .u8 a.End.Frame.Turn,G a.End.Frame.At.X,G a.End.Frame.At.Y,G a.End.Frame.At.Z,G a.End.Drawn]),.d (.sl 1 (f.map Ql))] (fun p=>p = t) (fun (p : Unit)=>⟨[(4,.ref 0 1 0 0),(5,.ref 1 1 0 0),(7,.ref 2 1 0 0),(18,.fn 67 [.ref 3 7 0 0,.ref 4 1 0 0])],[(0,.dat 1 [[.nilsl]]),(1,.dat 1 [[G 0]]),(2,.dat 1 [[.nilsl]]),(3,.dat 7 [[.sl 7 (a.Lines.map Qf),.sl 5 (a.Marks.map Qy),.int .u8 a.End.Frame.Turn,G a.End.Frame.At.X,G a.End.Frame.At.Y,G a.End.Frame.At.Z,G a.End.Drawn]]),(4,.dat 1 [[.sl 1 (f.map Ql)]])],5⟩) J J Tryz.func40 J qi qi J ?_ ?_
 ·refine qb<|Qn (.ref 4 7 0 0) (.dat 7 [[.sl 7 (a.Lines.map Qf),.sl 5 (a.Marks.map Qy),.int .u8 a.End.Frame.Turn,G a.End.Frame.At.X,G a.End.Frame.At.Y,G a.End.Frame.At.Z,G a.End.Drawn]]) J<|Qn (.ref 5 1 0 0) (.dat 1 [[.sl 1 (f.map Ql)]]) J<|qa J<|qt<|O (.fn 67 [.ref 4 7 0 0,.ref 5 1 0 0]) J<|qa J<|qp ?_
  refine ⟨.inr J,_,J,?_⟩
  obtain rfl:=qe u
  exact ⟨_,J,wkA [(0,1),(1,2),(2,3),(3,4),(4,5)] [] []⟩
 intro p hb
 subst hb
 refine q9<|Q0 ?_
 obtain ⟨w,o,g⟩:=q8 g
 refine qb7 (fun k=>.inl k = w) (fun (k : List (List qg))=>⟨[(4,.ref 0 1 0 0),(5,.ref 1 1 0 0),(7,.ref 2 1 0 0)],[(0,.dat 1 [[.nilsl]]),(1,.dat 1 [[G 0]]),(2,.cel 1 [[.hs 3 1 0 k.length]]),(3,.dat 1 (k.map Ql))],4⟩) ?_ ?_
 ·refine Yn (st':=⟨[(4,.ref 0 1 0 0),(5,.ref 1 1 0 0),(7,.ref 2 1 0 0),(18,.fn 67 [.ref 3 7 0 0,.ref 4 1 0 0])],[(0,.dat 1 [[.nilsl]]),(1,.dat 1 [[G 0]]),(2,.dat 1 [[.nilsl]]),(3,.dat 7 [[.sl 7 (a.Lines.map Qf),.sl 5 (a.Marks.map Qy),.int .u8 a.End.Frame.Turn,G a.End.Frame.At.X,G a.End.Frame.At.Y,G a.End.Frame.At.Z,G a.End.Drawn]]),(4,.dat 1 [[.sl 1 (f.map Ql)]])],5⟩) (wkA [(0,0),(1,1),(2,2),(3,3),(4,4)] [] []) ?_ qd
  refine qb8 [.ref 3 7 0 0,.ref 4 1 0 0] (.inl J) Tryz.func67 J qi qi J ?_
  intro A90 B91 hA90 hB91
  refine qb<|O (.ref 3 7 0 0) J<|O (.d (.sl 7 (a.Lines.map Qf))) J<|Qd J<|U J<|q9 ?_
  obtain ⟨x,y,o⟩:=q8 o
  refine Q0<|Q8 (q6l a f) (fun (j : Int × List (List qg))=>⟨[(0,.yld 5),(2,.ref 4 1 0 0),(7,.d (.sl 7 (a.Lines.map Qf))),(8,q7 (a.Lines.length : Int)),(9,q7 j.1)],[(0,.dat 1 [[.nilsl]]),(1,.dat 1 [[G 0]]),(2,.cel 1 [[.hs 6 1 0 j.2.length]]),(3,.dat 7 [[.sl 7 (a.Lines.map Qf),.sl 5 (a.Marks.map Qy),.int .u8 a.End.Frame.Turn,G a.End.Frame.At.X,G a.End.Frame.At.Y,G a.End.Frame.At.Z,G a.End.Drawn]]),(4,.dat 1 [[.sl 1 (f.map Ql)]]),(5,.loop [(4,.ref 0 1 0 0),(5,.ref 1 1 0 0),(7,.ref 2 1 0 0),(18,.fn 67 [.ref 3 7 0 0,.ref 4 1 0 0])] [19,20] A90 B91 .ready none),(6,.dat 1 (j.2.map Ql))],7⟩) (0,[]) x y (wkA [] [] [6]) ?_
  intro j af c
  unfold q6l at c
  refine qb<|O (.d (.bool (decide (j.1 < (a.Lines.length : Int))))) J<|q9<|qf ?_
  refine qo J c (fun _ c=>?_) (fun _ c=>?_)
  ·refine qn<|qf<|Q0<|qb ?_
   obtain ⟨b,z,c⟩:=q8 c
   refine Q4 (enc:=Qf) z J<|O (.d (.agg [G b.From.X,G b.From.Y,G b.From.Z,G b.To.X,G b.To.Y,G b.To.Z,G b.Depth])) J<|K2 J J<|Qp 7 (.dat 7 [[G b.From.X,G b.From.Y,G b.From.Z,G b.To.X,G b.To.Y,G b.To.Z,G b.Depth]]) J<|q9<|qf<|Q7 [q0,(none,[0]),q0,q0,q0,q0,q0,q0,q0,q0,qq 4,qq 7,q0,qq 4,qq 7,q0] qi<|U J<|O (.d (.agg [G b.From.X,G b.From.Y,G b.From.Z,G b.To.X,G b.To.Y,G b.To.Z,G b.Depth])) J<|O (.d (.sl 1 (f.map Ql))) J<|O (.ref 7 7 0 6) J<|O (q7 b.Depth) J<|O (.d (.sl 1 (f.map Ql))) J<|Qd J<|O (.d (G (w64 ((f.length : Int) - 1)))) J<|Uy (r:=min b.Depth (w64 ((f.length : Int) - 1))) J J (by simp only [Uv];rfl) ?_
   obtain ⟨q,aa,c⟩:=q8 c
   refine Q4 (enc:=Ql) aa J<|O (.d (.sl 6 (q.map qw))) J ?_
   obtain ⟨h,ab,c⟩:=q8 c
   refine qz (ql2 b q h ab) J<|O (.d (.sl 6 (h.1.map qw))) J<|O (q7 h.2) J<|qqb J ?_
   obtain ⟨ac,l,c⟩:=q8 c
   refine qas (fun m=>.inl m = ac) (fun (m : List (List qg))=>⟨[(0,.yld 5),(2,.ref 4 1 0 0),(7,.d (.sl 7 (a.Lines.map Qf))),(8,q7 (a.Lines.length : Int)),(9,q7 j.1),(27,qh true)],[(0,.dat 1 [[.nilsl]]),(1,.dat 1 [[G 0]]),(2,.cel 1 [[.hs 6 1 0 m.length]]),(3,.dat 7 [[.sl 7 (a.Lines.map Qf),.sl 5 (a.Marks.map Qy),.int .u8 a.End.Frame.Turn,G a.End.Frame.At.X,G a.End.Frame.At.Y,G a.End.Frame.At.Z,G a.End.Drawn]]),(4,.dat 1 [[.sl 1 (f.map Ql)]]),(5,.loop [(4,.ref 0 1 0 0),(5,.ref 1 1 0 0),(7,.ref 2 1 0 0),(18,.fn 67 [.ref 3 7 0 0,.ref 4 1 0 0])] [19,20] A90 B91 .ready none),(6,.dat 1 (m.map Ql))],7⟩) hA90 hB91 J J J J J J ?_ ?_
   ·refine qb<|qa J<|q9<|qu<|qa J<|qs ?_
    refine ⟨J,_,J,?_⟩
    refine Q0<|qf<|qb<|U J<|O (qh (h.2 != 0)) J<|q9 ?_
    refine qo J l (fun _ l=>?_) (fun _ l=>?_)
    ·refine qb<|U J<|Qp 0 (.dat 1 [[.nilsl]]) J<|Qp 1 (.dat 1 [[G h.2]]) J<|qp ?_
     obtain rfl:=qe l
     refine ⟨_,J,?_⟩
     refine q9<|O (qh true) J<|q9<|q3d J<|q20 ?_
     refine ⟨_,(Option.some.inj c).symm,fun hm=>?_⟩
     subst hm
     refine ⟨.inr J,_,J,_,_,.ret,J,qy,?_⟩
     refine qfa ?_
     obtain rfl:=qe o
     obtain rfl:=qe g
     exact finD (.inr J) (v:=.d (.tup [.nilsl,G h.2])) J J (Kz (.cons (.nil _) (.cons (.refl _) .nil)))
    refine qn<|qu<|O (.hs 6 1 0 j.2.length) J<|U J<|Qn (.hs 8 1 0 [h.1].length) (.dat 1 ([h.1].map Ql)) J ?_
    obtain ⟨ad,ae,l⟩:=q8 l
    refine Kw (xs:=j.2) (ys:=[h.1]) (enc:=Ql) (.hs 8 1 0 [h.1].length) ae J J J J J J J (Ku J J) J J J J<|Qp 2 (.cel 1 [[.hs 9 1 0 ad.length]]) J<|qs<|Qc<|Q9 ?_
    refine ⟨_,J,?_⟩
    obtain rfl:=qe l
    exact ⟨_,J,wkA [(6,9)] [] []⟩
   intro m hb
   subst hb
   refine q9<|O (qh false) J<|q9<|Jo J<|qn<|Q9<|Qc<|qu<|O (.d (G (w64 (j.1 + 1)))) J<|U J<|qs ?_
   exact ⟨_,(Option.some.inj c).symm,wkA [(6,6)] [] []⟩
  refine Q3 ?_
  refine ⟨_,(Option.some.inj c).symm,fun hm=>?_⟩
  subst hm
  refine ⟨.inl J,_,J,_,_,.nor,J,qy,?_⟩
  refine qa0<|Q9 ?_
  obtain rfl:=qe o
  exact ⟨_,J,wkA [(0,0),(1,1),(2,2),(3,6)] [] []⟩
 intro k st hb hw
 subst hb
 refine Yn hw ?_ qd
 refine qb<|O (.hs 3 1 0 k.length) J<|Qp 0 (.cel 1 [[.hs 3 1 0 k.length]]) J<|Qp 1 (.dat 1 [[G 0]]) J<|qp ?_
 obtain rfl:=qe g
 exact finD (.inr J) (v:=.tup [.hs 3 1 0 k.length,q7 0]) J (q9o (Y2 (Za J J) (Y2 J J))) (.refl _)
theorem qjd (a : Ys) (r : Int) (b : q4p a = some r) : Pure Tryz.prog tab 36 [.agg [.int .u8 a.Turn,G a.At.X,G a.At.Y,G a.At.Z]] (G r):=by
 unfold q4p at b
 refine Qg Tryz.func36 J qi qi J<|qb<|Qn (.ref 0 4 0 0) (.dat 4 [[.int .u8 a.Turn,G a.At.X,G a.At.Y,G a.At.Z]]) J<|qa J<|q9<|qf<|qb<|O (.ref 0 4 0 0) J<|O (.d (.int .u8 a.Turn)) J<|O (.d (.bool (decide (a.Turn ≥ 24)))) J ?_
 obtain ⟨m,c,b⟩:=q8 b
 refine Qa 6 (fun A st=>∃ (g h j k l : V),st = A [(11,qh m),(10,l),(9,k),(8,j),(7,h),(6,g)]) ?_ ?_
 ·refine Qb J J c (fun c=>?_) (fun c=>?_)
  ·refine qc J<|qc J<|qc J<|qc J<|O (qh true) J<|q9 ?_
   obtain rfl:=qe c
   exact ⟨_,_,_,_,_,J⟩
  refine O (.ref 0 4 0 1) J<|O (.d (.agg [G a.At.X,G a.At.Y,G a.At.Z])) J ?_
  obtain ⟨f,n,c⟩:=q8 c
  refine qz (q32 a.At (-1000000) f n) J<|O (qh (!f)) J<|O (qh (!f)) J<|q9 ?_
  obtain rfl:=qe c
  exact ⟨_,_,_,_,_,J⟩
 rintro _ ⟨g,h,j,k,l,rfl⟩
 refine q9 ?_
 refine qo J b (fun _ b=>?_) (fun _ b=>?_)
 ·refine qb<|qa J<|qp ?_
  obtain rfl:=qe b
  exact Q1 (q7 8) J
 refine qn<|qb<|qa J<|qp ?_
 obtain rfl:=qe b
 exact Q1 (q7 0) J
theorem qb0 (a : K1) (r : Int) (g : q1u a = some r) : Pure Tryz.prog tab 41 [.agg [.sl 7 (a.Lines.map Qf),.sl 5 (a.Marks.map Qy),.int .u8 a.End.Frame.Turn,G a.End.Frame.At.X,G a.End.Frame.At.Y,G a.End.Frame.At.Z,G a.End.Drawn]] (G r):=by
 unfold q1u at g
 refine Qg Tryz.func41 J qi qi J<|qb<|Qn (.ref 0 7 0 0) (.dat 7 [[.sl 7 (a.Lines.map Qf),.sl 5 (a.Marks.map Qy),.int .u8 a.End.Frame.Turn,G a.End.Frame.At.X,G a.End.Frame.At.Y,G a.End.Frame.At.Z,G a.End.Drawn]]) J<|qa J<|q9<|qf<|qb<|O (.ref 0 7 0 0) J<|O (.d (.sl 7 (a.Lines.map Qf))) J<|Qd J<|O (.d (.bool (decide ((a.Lines.length : Int) > 2000)))) J ?_
 obtain ⟨c1,o,g⟩:=q8 g
 refine Qa 6 (fun A st=>∃ (j3 j4 j5 j6 j7 : V),st = A [(17,qh c1),(16,j7),(15,j6),(14,j5),(13,j4),(12,j3)]) ?_ ?_
 ·refine Qb J J o (fun o=>?_) (fun o=>?_)
  ·refine qc J<|qc J<|qc J<|qc J<|O (qh true) J<|q9 ?_
   obtain rfl:=qe o
   exact ⟨_,_,_,_,_,J⟩
  refine O (.ref 0 7 0 1) J<|O (.d (.sl 5 (a.Marks.map Qy))) J<|Qd J<|O (.d (.bool (decide ((a.Marks.length : Int) > 2000)))) J<|O (.d (.bool (decide ((a.Marks.length : Int) > 2000)))) J<|q9 ?_
  obtain rfl:=qe o
  exact ⟨_,_,_,_,_,J⟩
 rintro _ ⟨j3,j4,j5,j6,j7,rfl⟩
 obtain ⟨bb,k,g⟩:=q8 g
 refine Qa 7 (fun A st=>∃ (ah ai aj ak al am : V),st = A [(24,qh bb),(23,am),(22,al),(21,ak),(20,aj),(19,ai),(18,ah)]) ?_ ?_
 ·refine Qb J J k (fun k=>?_) (fun k=>?_)
  ·refine qc J<|qc J<|qc J<|qc J<|qc J<|O (qh true) J<|q9 ?_
   obtain rfl:=qe k
   exact ⟨_,_,_,_,_,_,J⟩
  refine O (.ref 0 7 0 2) J<|O (.ref 0 7 0 2) J<|O (.d (.agg [.int .u8 a.End.Frame.Turn,G a.End.Frame.At.X,G a.End.Frame.At.Y,G a.End.Frame.At.Z])) J ?_
  obtain ⟨x,bc,k⟩:=q8 k
  refine qz (qjd a.End.Frame x bc) J<|O (qh (x != 0)) J<|O (qh (x != 0)) J<|q9 ?_
  obtain rfl:=qe k
  exact ⟨_,_,_,_,_,_,J⟩
 rintro _ ⟨ah,ai,aj,ak,al,am,rfl⟩
 refine q9 ?_
 refine qo J g (fun _ g=>?_) (fun _ g=>?_)
 ·refine qb<|qa J<|qp ?_
  obtain rfl:=qe g
  exact Q1 (q7 8) J
 refine qn<|qf<|qb<|qa J<|q9 ?_
 obtain ⟨an,bd,g⟩:=q8 g
 refine Qe (fun y=>.inl y = an) (fun (y : Unit)=>⟨[(1,.ref 0 7 0 0)],[(0,.dat 7 [[.sl 7 (a.Lines.map Qf),.sl 5 (a.Marks.map Qy),.int .u8 a.End.Frame.Turn,G a.End.Frame.At.X,G a.End.Frame.At.Y,G a.End.Frame.At.Z,G a.End.Drawn]])],1⟩) qd ?_ ?_
 ·refine Q8 (q4q a) (fun (l : Int)=>⟨[(1,.ref 0 7 0 0),(3,q7 l)],[(0,.dat 7 [[.sl 7 (a.Lines.map Qf),.sl 5 (a.Marks.map Qy),.int .u8 a.End.Frame.Turn,G a.End.Frame.At.X,G a.End.Frame.At.Y,G a.End.Frame.At.Z,G a.End.Drawn]])],1⟩) 0 an bd (wkA [(0,0)] [] []) ?_
  intro l bq f
  unfold q4q at f
  refine qf<|qb<|U J<|O (.ref 0 7 0 0) J<|O (.d (.sl 7 (a.Lines.map Qf))) J<|Qd J<|O (.d (.bool (decide (l < (a.Lines.length : Int))))) J<|q9 ?_
  refine qo J f (fun _ f=>?_) (fun _ f=>?_)
  ·refine qn<|qf<|Q0<|qf<|Q7 [Qk 2,Qk 1,(some [],[2]),(some [],[1]),q0,q0,q0,q0,qq 0,q0,q0,q0,q0,q0,qq 0,q0] qi<|O (.ref 0 7 0 0) J<|O (.d (.sl 7 (a.Lines.map Qf))) J<|U J ?_
   obtain ⟨b,be,f⟩:=q8 f
   refine Q4 (enc:=Qf) be J<|O (.dref [G b.From.X,G b.From.Y,G b.From.Z,G b.To.X,G b.To.Y,G b.To.Z,G b.Depth] 0) J<|O (.d (.agg [G b.From.X,G b.From.Y,G b.From.Z])) J<|O (.ref 0 7 0 0) J<|O (.d (.sl 7 (a.Lines.map Qf))) J<|U J ?_
   obtain ⟨c,bf,f⟩:=q8 f
   refine Q4 (enc:=Qf) bf J<|O (.dref [G c.From.X,G c.From.Y,G c.From.Z,G c.To.X,G c.To.Y,G c.To.Z,G c.Depth] 3) J<|O (.d (.agg [G c.To.X,G c.To.Y,G c.To.Z])) J<|K2 J J<|K2 J J<|Qp 1 (.dat 3 [[G b.From.X,G b.From.Y,G b.From.Z]]) J<|Qp 2 (.dat 3 [[G c.To.X,G c.To.Y,G c.To.Z]]) J<|qt<|qa J<|q9<|qf<|qb<|O (.ref 1 3 0 0) J<|O (q7 b.From.X) J<|O (.ref 2 3 0 0) J<|O (q7 c.To.X) J<|O (qh (b.From.X != c.To.X)) J<|q9 ?_
   obtain ⟨bg,p,f⟩:=q8 f
   refine Yb (fun q=>q = bg) (fun (q : Int)=>⟨[(1,.ref 0 7 0 0),(3,q7 l),(4,.ref 1 3 0 0),(5,.ref 2 3 0 0),(6,q7 q)],[(0,.dat 7 [[.sl 7 (a.Lines.map Qf),.sl 5 (a.Marks.map Qy),.int .u8 a.End.Frame.Turn,G a.End.Frame.At.X,G a.End.Frame.At.Y,G a.End.Frame.At.Z,G a.End.Drawn]]),(1,.dat 3 [[G b.From.X,G b.From.Y,G b.From.Z]]),(2,.dat 3 [[G c.To.X,G c.To.Y,G c.To.Z]])],3⟩) qd ?_ ?_
   ·refine qo J p (fun _ p=>?_) (fun _ p=>?_)
    ·refine qu<|U J<|O (.d (G (w64 (0 + 1)))) J<|qa J<|qs ?_
     obtain rfl:=qe p
     exact ⟨_,J,wkA [(0,0),(1,1),(2,2)] [] []⟩
    refine qn<|Q9 ?_
    obtain rfl:=qe p
    exact ⟨_,J,wkA [(0,0),(1,1),(2,2)] [] []⟩
   intro q hb
   subst hb
   refine qf<|qb<|O (.ref 1 3 0 1) J<|O (q7 b.From.Y) J<|O (.ref 2 3 0 1) J<|O (q7 c.To.Y) J<|O (qh (b.From.Y != c.To.Y)) J<|q9 ?_
   obtain ⟨bh,s,f⟩:=q8 f
   refine Yb (fun t=>t = bh) (fun (t : Int)=>⟨[(1,.ref 0 7 0 0),(3,q7 l),(4,.ref 1 3 0 0),(5,.ref 2 3 0 0),(6,q7 t)],[(0,.dat 7 [[.sl 7 (a.Lines.map Qf),.sl 5 (a.Marks.map Qy),.int .u8 a.End.Frame.Turn,G a.End.Frame.At.X,G a.End.Frame.At.Y,G a.End.Frame.At.Z,G a.End.Drawn]]),(1,.dat 3 [[G b.From.X,G b.From.Y,G b.From.Z]]),(2,.dat 3 [[G c.To.X,G c.To.Y,G c.To.Z]])],3⟩) qd ?_ ?_
   ·refine qo J s (fun _ s=>?_) (fun _ s=>?_)
    ·refine qu<|U J<|O (.d (G (w64 (q + 1)))) J<|qa J<|qs ?_
     obtain rfl:=qe s
     exact ⟨_,J,wkA [(0,0),(1,1),(2,2)] [] []⟩
    refine qn<|Q9 ?_
    obtain rfl:=qe s
    exact ⟨_,J,wkA [(0,0),(1,1),(2,2)] [] []⟩
   intro t hb
   subst hb
   refine qf<|qb<|O (.ref 1 3 0 2) J<|O (q7 b.From.Z) J<|O (.ref 2 3 0 2) J<|O (q7 c.To.Z) J<|O (qh (b.From.Z != c.To.Z)) J<|q9 ?_
   obtain ⟨bi,u,f⟩:=q8 f
   refine Yb (fun v=>v = bi) (fun (v : Int)=>⟨[(1,.ref 0 7 0 0),(3,q7 l),(4,.ref 1 3 0 0),(5,.ref 2 3 0 0),(6,q7 v)],[(0,.dat 7 [[.sl 7 (a.Lines.map Qf),.sl 5 (a.Marks.map Qy),.int .u8 a.End.Frame.Turn,G a.End.Frame.At.X,G a.End.Frame.At.Y,G a.End.Frame.At.Z,G a.End.Drawn]]),(1,.dat 3 [[G b.From.X,G b.From.Y,G b.From.Z]]),(2,.dat 3 [[G c.To.X,G c.To.Y,G c.To.Z]])],3⟩) qd ?_ ?_
   ·refine qo J u (fun _ u=>?_) (fun _ u=>?_)
    ·refine qu<|U J<|O (.d (G (w64 (t + 1)))) J<|qa J<|qs ?_
     obtain rfl:=qe u
     exact ⟨_,J,wkA [(0,0),(1,1),(2,2)] [] []⟩
    refine qn<|Q9 ?_
    obtain rfl:=qe u
    exact ⟨_,J,wkA [(0,0),(1,1),(2,2)] [] []⟩
   intro v hb
   subst hb
   refine qb<|U J<|O (.d (.bool (decide (v > 1)))) J ?_
   obtain ⟨bj,m,f⟩:=q8 f
   refine Qa 5 (fun A st=>∃ (ao ap aq ar : V),st = A [(71,qh bj),(70,ar),(69,aq),(68,ap),(67,ao)]) ?_ ?_
   ·refine Qb J J m (fun m=>?_) (fun m=>?_)
    ·refine qc J<|qc J<|qc J<|O (qh true) J<|q9 ?_
     obtain rfl:=qe m
     exact ⟨_,_,_,_,J⟩
    refine O (.d (.agg [G b.From.X,G b.From.Y,G b.From.Z])) J ?_
    obtain ⟨z,bk,m⟩:=q8 m
    refine qz (q32 b.From (-1000000) z bk) J<|O (qh (!z)) J<|O (qh (!z)) J<|q9 ?_
    obtain rfl:=qe m
    exact ⟨_,_,_,_,J⟩
   rintro _ ⟨ao,ap,aq,ar,rfl⟩
   obtain ⟨bl,n,f⟩:=q8 f
   refine Qa 5 (fun A st=>∃ (au av aw ax : V),st = A [(76,qh bl),(75,ax),(74,aw),(73,av),(72,au)]) ?_ ?_
   ·refine Qb J J n (fun n=>?_) (fun n=>?_)
    ·refine qc J<|qc J<|qc J<|O (qh true) J<|q9 ?_
     obtain rfl:=qe n
     exact ⟨_,_,_,_,J⟩
    refine O (.d (.agg [G c.To.X,G c.To.Y,G c.To.Z])) J ?_
    obtain ⟨aa,bm,n⟩:=q8 n
    refine qz (q32 c.To (-1000000) aa bm) J<|O (qh (!aa)) J<|O (qh (!aa)) J<|q9 ?_
    obtain rfl:=qe n
    exact ⟨_,_,_,_,J⟩
   rintro _ ⟨au,av,aw,ax,rfl⟩
   refine q9 ?_
   refine qo J f (fun _ f=>?_) (fun _ f=>?_)
   ·refine qb<|qa J<|qp ?_
    refine ⟨_,(Option.some.inj f).symm,fun hm=>?_⟩
    subst hm
    obtain rfl:=qe g
    exact Q1 (q7 8) J
   refine qn<|Q9<|Qc<|qu<|U J<|O (.d (G (w64 (l + 1)))) J<|qa J<|qs ?_
   exact ⟨_,(Option.some.inj f).symm,wkA [(0,0)] [] []⟩
  refine Q3 ?_
  refine ⟨_,(Option.some.inj f).symm,fun hm=>?_⟩
  subst hm
  exact ⟨_,J,wkA [(0,0)] [] []⟩
 intro y hb
 subst hb
 refine qf<|qb<|qa J<|q9 ?_
 obtain ⟨ay,bn,g⟩:=q8 g
 refine Qe (fun ab=>.inl ab = ay) (fun (ab : Unit)=>⟨[],[],0⟩) qd ?_ ?_
 ·refine Q8 (q4r a) (fun (w : Int)=>⟨[(1,.ref 0 7 0 0),(7,q7 w)],[(0,.dat 7 [[.sl 7 (a.Lines.map Qf),.sl 5 (a.Marks.map Qy),.int .u8 a.End.Frame.Turn,G a.End.Frame.At.X,G a.End.Frame.At.Y,G a.End.Frame.At.Z,G a.End.Drawn]])],1⟩) 0 ay bn (wkA [(0,0)] [] []) ?_
  intro w br h
  unfold q4r at h
  refine qf<|qb<|U J<|O (.ref 0 7 0 1) J<|O (.d (.sl 5 (a.Marks.map Qy))) J<|Qd J<|O (.d (.bool (decide (w < (a.Marks.length : Int))))) J<|q9 ?_
  refine qo J h (fun _ h=>?_) (fun _ h=>?_)
  ·refine qn<|qf<|Q0<|qb<|O (.ref 0 7 0 1) J<|O (.d (.sl 5 (a.Marks.map Qy))) J<|U J ?_
   obtain ⟨j,bo,h⟩:=q8 h
   refine Q4 (enc:=Qy) bo J<|O (.dref [.int .u8 j.Name,.int .u8 j.Frame.Turn,G j.Frame.At.X,G j.Frame.At.Y,G j.Frame.At.Z] 1) J<|O (.d (.agg [.int .u8 j.Frame.Turn,G j.Frame.At.X,G j.Frame.At.Y,G j.Frame.At.Z])) J ?_
   obtain ⟨az,bp,h⟩:=q8 h
   refine qz (qjd j.Frame az bp) J<|O (qh (az != 0)) J<|q9 ?_
   refine qo J h (fun _ h=>?_) (fun _ h=>?_)
   ·refine qb<|qa J<|qp ?_
    refine ⟨_,(Option.some.inj h).symm,fun hm=>?_⟩
    subst hm
    obtain rfl:=qe g
    exact Q1 (q7 8) J
   refine qn<|Q9<|Qc<|qu<|U J<|O (.d (G (w64 (w + 1)))) J<|qa J<|qs ?_
   exact ⟨_,(Option.some.inj h).symm,wkA [(0,0)] [] []⟩
  refine Q3 ?_
  refine ⟨_,(Option.some.inj h).symm,fun hm=>?_⟩
  subst hm
  exact ⟨_,J,wkA [] [] []⟩
 intro ab hb
 subst hb
 refine qb<|qa J<|qp ?_
 obtain rfl:=qe g
 exact Q1 (q7 0) J
theorem qef (a : qg) (r : Bool) (b : q37 a = some r) : Pure Tryz.prog tab 56 [.agg [G a.Lo.X,G a.Lo.Y,G a.Lo.Z,G a.Hi.X,G a.Hi.Y,G a.Hi.Z]] (.bool r):=by
 unfold q37 at b
 refine Qg Tryz.func56 J qi qi J<|qb<|Qn (.ref 0 6 0 0) (.dat 6 [[G a.Lo.X,G a.Lo.Y,G a.Lo.Z,G a.Hi.X,G a.Hi.Y,G a.Hi.Z]]) J<|qa J<|qt<|O (.ref 0 6 0 0) J<|O (.d (.agg [G a.Lo.X,G a.Lo.Y,G a.Lo.Z])) J ?_
 obtain ⟨r1,h2,b⟩:=q8 b
 refine qz (q32 a.Lo (-1000000) r1 h2) J ?_
 obtain ⟨c5,c,b⟩:=q8 b
 refine Qa 5 (fun A st=>∃ (j k l m : V),st = A [(11,qh c5),(10,m),(9,l),(8,k),(7,j)]) ?_ ?_
 ·refine Qb J J c (fun c=>?_) (fun c=>?_)
  ·refine O (.ref 0 6 0 3) J<|O (.d (.agg [G a.Hi.X,G a.Hi.Y,G a.Hi.Z])) J ?_
   obtain ⟨n,ar,c⟩:=q8 c
   refine qz (q32 a.Hi (-1000000) n ar) J<|O (qh n) J<|q9 ?_
   obtain rfl:=qe c
   exact ⟨_,_,_,_,J⟩
  refine qc J<|qc J<|qc J<|O (qh false) J<|q9 ?_
  obtain rfl:=qe c
  exact ⟨_,_,_,_,J⟩
 rintro _ ⟨j,k,l,m,rfl⟩
 refine qa J<|qt<|U J ?_
 obtain ⟨au,f,b⟩:=q8 b
 refine Qa 9 (fun A st=>∃ (o p q s t u v w : V),st = A [(21,qh au),(20,w),(19,v),(18,u),(17,t),(16,s),(15,q),(14,p),(13,o)]) ?_ ?_
 ·refine Qb J J f (fun f=>?_) (fun f=>?_)
  ·refine O (.ref 0 6 0 0) J<|O (.ref 0 6 0 0) J<|O (q7 a.Lo.X) J<|O (.ref 0 6 0 3) J<|O (.ref 0 6 0 3) J<|O (q7 a.Hi.X) J<|O (.d (.bool (decide (a.Lo.X < a.Hi.X)))) J<|O (.d (.bool (decide (a.Lo.X < a.Hi.X)))) J<|q9 ?_
   obtain rfl:=qe f
   exact ⟨_,_,_,_,_,_,_,_,J⟩
  refine qc J<|qc J<|qc J<|qc J<|qc J<|qc J<|qc J<|O (qh false) J<|q9 ?_
  obtain rfl:=qe f
  exact ⟨_,_,_,_,_,_,_,_,J⟩
 rintro _ ⟨o,p,q,s,t,u,v,w,rfl⟩
 obtain ⟨av,g,b⟩:=q8 b
 refine Qa 9 (fun A st=>∃ (x y z aa ab ac ad ae : V),st = A [(30,qh av),(29,ae),(28,ad),(27,ac),(26,ab),(25,aa),(24,z),(23,y),(22,x)]) ?_ ?_
 ·refine Qb J J g (fun g=>?_) (fun g=>?_)
  ·refine O (.ref 0 6 0 0) J<|O (.ref 0 6 0 1) J<|O (q7 a.Lo.Y) J<|O (.ref 0 6 0 3) J<|O (.ref 0 6 0 4) J<|O (q7 a.Hi.Y) J<|O (.d (.bool (decide (a.Lo.Y < a.Hi.Y)))) J<|O (.d (.bool (decide (a.Lo.Y < a.Hi.Y)))) J<|q9 ?_
   obtain rfl:=qe g
   exact ⟨_,_,_,_,_,_,_,_,J⟩
  refine qc J<|qc J<|qc J<|qc J<|qc J<|qc J<|qc J<|O (qh false) J<|q9 ?_
  obtain rfl:=qe g
  exact ⟨_,_,_,_,_,_,_,_,J⟩
 rintro _ ⟨x,y,z,aa,ab,ac,ad,ae,rfl⟩
 obtain ⟨af,h,b⟩:=q8 b
 refine Qa 9 (fun A st=>∃ (ag ah ai aj ak al am an : V),st = A [(39,qh af),(38,an),(37,am),(36,al),(35,ak),(34,aj),(33,ai),(32,ah),(31,ag)]) ?_ ?_
 ·refine Qb J J h (fun h=>?_) (fun h=>?_)
  ·refine O (.ref 0 6 0 0) J<|O (.ref 0 6 0 2) J<|O (q7 a.Lo.Z) J<|O (.ref 0 6 0 3) J<|O (.ref 0 6 0 5) J<|O (q7 a.Hi.Z) J<|O (.d (.bool (decide (a.Lo.Z < a.Hi.Z)))) J<|O (.d (.bool (decide (a.Lo.Z < a.Hi.Z)))) J<|q9 ?_
   obtain rfl:=qe h
   exact ⟨_,_,_,_,_,_,_,_,J⟩
  refine qc J<|qc J<|qc J<|qc J<|qc J<|qc J<|qc J<|O (qh false) J<|q9 ?_
  obtain rfl:=qe h
  exact ⟨_,_,_,_,_,_,_,_,J⟩
 rintro _ ⟨ag,ah,ai,aj,ak,al,am,an,rfl⟩
 refine qa J<|qp ?_
 obtain rfl:=qe b
 exact Q1 (qh af) J
theorem qeb (c : List Int) (r : List Int) (p : Ja c = some r) : Pure Tryz.prog tab 101 [.sl 1 (c.map (eI .i64))] (.sl 1 (r.map (eI .i64))):=by
 unfold Ja at p
 refine Qg Tryz.func101 J qi qi J<|qb<|qa J<|qt<|qa J<|q9<|qf<|qb<|qa J<|q9 ?_
 obtain ⟨aa,bg,p⟩:=q8 p
 refine Qe (fun l=>l = aa) (fun (l : List Int)=>⟨[(3,.hs 0 1 0 l.length)],[(0,.dat 1 (l.map (eI .i64)))],1⟩) qd ?_ ?_
 ·refine Q8 (q2u c) (fun (b : Int × List Int)=>⟨[(0,.d (.sl 1 (c.map (eI .i64)))),(3,.hs 0 1 0 b.2.length),(4,q7 b.1)],[(0,.dat 1 (b.2.map (eI .i64)))],1⟩) (0,[]) aa bg (wkA [] [] [0]) ?_
  intro b bp h
  unfold q2u at h
  refine qf<|qb<|U J<|U J<|Qd J<|O (.d (.bool (decide (b.1 < (c.length : Int))))) J<|q9 ?_
  refine qo J h (fun _ h=>?_) (fun _ h=>?_)
  ·refine qn<|qf ?_
   obtain ⟨bh,a,h⟩:=q8 h
   refine Qe (fun n=>n = bh) (fun (n : List Int)=>⟨[(0,.d (.sl 1 (c.map (eI .i64)))),(3,.hs 0 1 0 n.length),(4,q7 b.1)],[(0,.dat 1 (n.map (eI .i64)))],1⟩) qd ?_ ?_
   ·refine qb<|U J<|O (q7 (b.2.length : Int)) J<|qa J<|q9<|qf ?_
    obtain ⟨ab,bi,a⟩:=q8 a
    refine Qe (fun k=>k = ab) (fun (k : Int)=>⟨[(0,.d (.sl 1 (c.map (eI .i64)))),(3,.hs 0 1 0 b.2.length),(4,q7 b.1),(5,q7 k)],[(0,.dat 1 (b.2.map (eI .i64)))],1⟩) qd ?_ ?_
    ·refine Q8 (q2v b c) (fun (o : Int)=>⟨[(0,.d (.sl 1 (c.map (eI .i64)))),(3,.hs 0 1 0 b.2.length),(4,q7 b.1),(5,q7 o)],[(0,.dat 1 (b.2.map (eI .i64)))],1⟩) (b.2.length : Int) ab bi (wkA [(0,0)] [] []) ?_
     intro o bq j
     unfold q2v at j
     refine qf<|qf<|Q7 [q0,q0,q0,q0,q0,q0,qq 0,q0,q0,q0,q0,q0,q0,q0] qi<|U J<|O (.d (.bool (decide (o > 0)))) J ?_
     obtain ⟨bj,f,j⟩:=q8 j
     refine Qa 12 (fun A st=>∃ (ac ad ae af ag ah ai aj ak al am : V),st = A [(27,qh bj),(26,am),(25,al),(24,ak),(23,aj),(22,ai),(21,ah),(20,ag),(19,af),(18,ae),(17,ad),(16,ac)]) ?_ ?_
     ·refine Qb J J f (fun f=>?_) (fun f=>?_)
      ·refine U J<|U J<|O (.d (G (w64 (o - 1)))) J ?_
       obtain ⟨s,an,f⟩:=q8 f
       refine qr an J J<|Q2 (q7 s) an J<|U J<|U J ?_
       obtain ⟨t,bk,f⟩:=q8 f
       refine Q4 (enc:=(eI .i64)) bk J<|O (q7 t) J<|O (.d (.bool (decide (s > t)))) J<|O (.d (.bool (decide (s > t)))) J<|q9 ?_
       obtain rfl:=qe f
       exact ⟨_,_,_,_,_,_,_,_,_,_,_,J⟩
      refine qc J<|qc J<|qc J<|qc J<|qc J<|qc J<|qc J<|qc J<|qc J<|qc J<|O (qh false) J<|q9 ?_
      obtain rfl:=qe f
      exact ⟨_,_,_,_,_,_,_,_,_,_,_,J⟩
     rintro _ ⟨ac,ad,ae,af,ag,ah,ai,aj,ak,al,am,rfl⟩
     refine q9 ?_
     refine qo J j (fun _ j=>?_) (fun _ j=>?_)
     ·refine qn<|Q0<|qu<|U J<|O (.d (G (w64 (o - 1)))) J<|qa J<|qs<|Qc<|Q9 ?_
      exact ⟨_,(Option.some.inj j).symm,wkA [(0,0)] [] []⟩
     refine Q3 ?_
     refine ⟨_,(Option.some.inj j).symm,fun hm=>?_⟩
     subst hm
     exact ⟨_,J,wkA [(0,0)] [] []⟩
    intro k hb
    subst hb
    refine qf<|qf<|Q7 [q0,q0,q0,q0,q0,q0,qq 0,q0,q0,q0,q0,q0,q0,q0] qi<|U J<|O (.d (.bool (decide (k > 0)))) J ?_
    obtain ⟨bl,g,a⟩:=q8 a
    refine Qa 12 (fun A st=>∃ (ao ap aq ar au av aw ax ay az ba : V),st = A [(43,qh bl),(42,ba),(41,az),(40,ay),(39,ax),(38,aw),(37,av),(36,au),(35,ar),(34,aq),(33,ap),(32,ao)]) ?_ ?_
    ·refine Qb J J g (fun g=>?_) (fun g=>?_)
     ·refine U J<|U J<|O (.d (G (w64 (k - 1)))) J ?_
      obtain ⟨u,bb,g⟩:=q8 g
      refine qr bb J J<|Q2 (q7 u) bb J<|U J<|U J ?_
      obtain ⟨x,bm,g⟩:=q8 g
      refine Q4 (enc:=(eI .i64)) bm J<|O (q7 x) J<|O (qh (u == x)) J<|O (qh (u == x)) J<|q9 ?_
      obtain rfl:=qe g
      exact ⟨_,_,_,_,_,_,_,_,_,_,_,J⟩
     refine qc J<|qc J<|qc J<|qc J<|qc J<|qc J<|qc J<|qc J<|qc J<|qc J<|O (qh false) J<|q9 ?_
     obtain rfl:=qe g
     exact ⟨_,_,_,_,_,_,_,_,_,_,_,J⟩
    rintro _ ⟨ao,ap,aq,ar,au,av,aw,ax,ay,az,ba,rfl⟩
    refine q9 ?_
    refine qo J a (fun _ a=>?_) (fun _ a=>?_)
    ·refine Q3 ?_
     obtain rfl:=qe a
     exact ⟨_,J,wkA [(0,0)] [] []⟩
    refine qn<|qb<|U J<|Qn (.hs 1 1 0 [0].length) (.dat 1 ([0].map (eI .i64))) J ?_
    obtain ⟨q,bn,a⟩:=q8 a
    refine Kw (xs:=b.2) (ys:=[0]) (enc:=(eI .i64)) (.hs 1 1 0 [0].length) bn J J J J J J J (Ku J J) J J J J<|qa J<|q9<|qf<|Q7 [Qk 2,q0,q0,q0,q0,q0,q0,q0] qi<|U J<|U J<|O (.d (G (w64 (k + 1)))) J ?_
    obtain ⟨bc,y,a⟩:=q8 a
    refine q7o y J J J J J (q6x J) (fun _=>rfl)<|U J<|U J ?_
    obtain ⟨m,bd,a⟩:=q8 a
    refine q7o bd J J J J J (q6x J) (fun _=>rfl)<|qq1 (w:=bc) (xs:=q) (ys:=(q.drop m.1).take m.2) (enc:=(eI .i64)) (.hs 2 1 m.1 m.2) (q9h y) J J J J J J (qnd (q9h bd) J) J J J J ?_
    have be:=@qgf _ q ((q.drop m.1).take m.2) bc (q9h y)
    refine q9<|qu<|U J<|U J<|U J<|U J ?_
    obtain ⟨z,bo,a⟩:=q8 a
    refine Q4 (enc:=(eI .i64)) bo J<|O (q7 z) J ?_
    obtain ⟨br,bf,a⟩:=q8 a
    refine qr bf (by simp [be]) J<|Qt (ds:=[G z]) z bf J J J J J J J J (leb J) J<|qs ?_
    obtain rfl:=qe a
    exact ⟨_,J,wkE [(0,2)] [] [] J ⟨ql J,⟨_,J,Qx (by simp [be]) J qy (ltd J)⟩,ql J,trivial⟩ ⟨Qm J J,trivial⟩⟩
   intro n hb
   subst hb
   refine qu<|U J<|O (.d (G (w64 (b.1 + 1)))) J<|qa J<|qs ?_
   exact ⟨_,(Option.some.inj h).symm,wkA [(0,0)] [] []⟩
  refine Q3 ?_
  refine ⟨_,(Option.some.inj h).symm,fun hm=>?_⟩
  subst hm
  exact ⟨_,J,wkA [(0,0)] [] []⟩
 intro l hb
 subst hb
 refine qb<|U J<|qa J<|qp ?_
 obtain rfl:=qe p
 exact finD (.inr J) (v:=.hs 0 1 0 l.length) J (Za J J) (.refl _)
theorem qs0 (p : List qg) (k : List qg) (r : List Int) (j : q7x p k = some r) : Pure Tryz.prog tab 78 [.sl 6 (p.map qw),.sl 6 (k.map qw)] (.sl 1 (r.map (eI .i64))):=by
 unfold q7x at j
 refine Qg Tryz.func78 J qi qi J<|qb<|qa J<|qt<|qa J<|q9<|qf<|qb<|qa J<|q9 ?_
 obtain ⟨q,u,j⟩:=q8 j
 refine Qe (fun o=>o = q) (fun (o : List Int)=>⟨[(1,.d (.sl 6 (k.map qw))),(5,.hs 0 1 0 o.length)],[(0,.dat 1 (o.map (eI .i64)))],1⟩) qd ?_ ?_
 ·refine Q8 (q34 p) (fun (l : Int × List Int)=>⟨[(0,.d (.sl 6 (p.map qw))),(1,.d (.sl 6 (k.map qw))),(5,.hs 0 1 0 l.2.length),(6,q7 l.1)],[(0,.dat 1 (l.2.map (eI .i64)))],1⟩) (0,[]) q u (wkA [] [] [0]) ?_
  intro l ad g
  unfold q34 at g
  refine qf<|qb<|U J<|U J<|Qd J<|O (.d (.bool (decide (l.1 < (p.length : Int))))) J<|q9 ?_
  refine qo J g (fun _ g=>?_) (fun _ g=>?_)
  ·refine qn<|qf<|Q0<|Q7 [q0,(some [0,1],[0,2]),(some [],[1]),q0,q0,q0,q0,q0,q0,q0,q0,q0,q0,q0,q0,q0] qi<|U J<|U J<|U J ?_
   obtain ⟨a,v,g⟩:=q8 g
   refine Q4 (enc:=qw) v J<|O (.dref [G a.Lo.X,G a.Lo.Y,G a.Lo.Z,G a.Hi.X,G a.Hi.Y,G a.Hi.Z] 0) J<|O (.dref [G a.Lo.X,G a.Lo.Y,G a.Lo.Z,G a.Hi.X,G a.Hi.Y,G a.Hi.Z] 2) J<|O (q7 a.Lo.Z) J<|U J<|U J ?_
   obtain ⟨b,w,g⟩:=q8 g
   refine Q4 (enc:=qw) w J<|O (.dref [G b.Lo.X,G b.Lo.Y,G b.Lo.Z,G b.Hi.X,G b.Hi.Y,G b.Hi.Z] 3) J<|O (.dref [G b.Lo.X,G b.Lo.Y,G b.Lo.Z,G b.Hi.X,G b.Hi.Y,G b.Hi.Z] 5) J<|O (q7 b.Hi.Z) J<|Qn (.hs 1 1 0 [a.Lo.Z,b.Hi.Z].length) (.dat 1 ([a.Lo.Z,b.Hi.Z].map (eI .i64))) J ?_
   obtain ⟨ae,x,g⟩:=q8 g
   refine Kw (xs:=l.2) (ys:=[a.Lo.Z,b.Hi.Z]) (enc:=(eI .i64)) (.hs 1 1 0 [a.Lo.Z,b.Hi.Z].length) x J J J J J J J (Ku J J) J J J J<|qa J<|qs<|Qc<|qu<|U J<|O (.d (G (w64 (l.1 + 1)))) J<|qa J<|qs ?_
   exact ⟨_,(Option.some.inj g).symm,wkA [(0,2)] [] []⟩
  refine Q3 ?_
  refine ⟨_,(Option.some.inj g).symm,fun hm=>?_⟩
  subst hm
  exact ⟨_,J,wkA [(0,0)] [] []⟩
 intro o hb
 subst hb
 refine qf<|qb<|qa J<|q9 ?_
 obtain ⟨s,y,j⟩:=q8 j
 refine Qe (fun m=>m = s) (fun (m : List Int)=>⟨[(5,.hs 0 1 0 m.length)],[(0,.dat 1 (m.map (eI .i64)))],1⟩) qd ?_ ?_
 ·refine Q8 (q35 k) (fun (n : Int × List Int)=>⟨[(1,.d (.sl 6 (k.map qw))),(5,.hs 0 1 0 n.2.length),(7,q7 n.1)],[(0,.dat 1 (n.2.map (eI .i64)))],1⟩) (0,o) s y (wkA [(0,0)] [] []) ?_
  intro n af h
  unfold q35 at h
  refine qf<|qb<|U J<|U J<|Qd J<|O (.d (.bool (decide (n.1 < (k.length : Int))))) J<|q9 ?_
  refine qo J h (fun _ h=>?_) (fun _ h=>?_)
  ·refine qn<|qf<|Q0<|Q7 [q0,(some [0,1],[0,2]),(some [],[1]),q0,q0,q0,q0,q0,q0,q0,q0,q0,q0,q0,q0,q0] qi<|U J<|U J<|U J ?_
   obtain ⟨c,z,h⟩:=q8 h
   refine Q4 (enc:=qw) z J<|O (.dref [G c.Lo.X,G c.Lo.Y,G c.Lo.Z,G c.Hi.X,G c.Hi.Y,G c.Hi.Z] 0) J<|O (.dref [G c.Lo.X,G c.Lo.Y,G c.Lo.Z,G c.Hi.X,G c.Hi.Y,G c.Hi.Z] 2) J<|O (q7 c.Lo.Z) J<|U J<|U J ?_
   obtain ⟨f,aa,h⟩:=q8 h
   refine Q4 (enc:=qw) aa J<|O (.dref [G f.Lo.X,G f.Lo.Y,G f.Lo.Z,G f.Hi.X,G f.Hi.Y,G f.Hi.Z] 3) J<|O (.dref [G f.Lo.X,G f.Lo.Y,G f.Lo.Z,G f.Hi.X,G f.Hi.Y,G f.Hi.Z] 5) J<|O (q7 f.Hi.Z) J<|Qn (.hs 1 1 0 [c.Lo.Z,f.Hi.Z].length) (.dat 1 ([c.Lo.Z,f.Hi.Z].map (eI .i64))) J ?_
   obtain ⟨ag,ab,h⟩:=q8 h
   refine Kw (xs:=n.2) (ys:=[c.Lo.Z,f.Hi.Z]) (enc:=(eI .i64)) (.hs 1 1 0 [c.Lo.Z,f.Hi.Z].length) ab J J J J J J J (Ku J J) J J J J<|qa J<|qs<|Qc<|qu<|U J<|O (.d (G (w64 (n.1 + 1)))) J<|qa J<|qs ?_
   exact ⟨_,(Option.some.inj h).symm,wkA [(0,2)] [] []⟩
  refine Q3 ?_
  refine ⟨_,(Option.some.inj h).symm,fun hm=>?_⟩
  subst hm
  exact ⟨_,J,wkA [(0,0)] [] []⟩
 intro m hb
 subst hb
 refine qf ?_
 refine Yn (st':=⟨[(5,.d (.sl 1 (m.map (eI .i64))))],[],0⟩) (wkA [] [0] []) ?_ qd
 refine qu<|U J ?_
 obtain ⟨t,ac,j⟩:=q8 j
 refine qz (qeb m t ac) J<|qa J<|qp ?_
 obtain rfl:=qe j
 exact Q1 (.d (.sl 1 (t.map (eI .i64)))) J
theorem qb2 (o : List qg) (k : Int) (r : List qk) (s : Jb o k = some r) : Pure Tryz.prog tab 80 [.sl 6 (o.map qw),G k] (.sl 4 (r.map qx)):=by
 unfold Jb at s
 refine Qg Tryz.func80 J qi qi J<|qb<|qa J<|qt<|qa J<|q9<|qf<|qb<|qa J<|q9 ?_
 obtain ⟨t,ae,s⟩:=q8 s
 refine Qe (fun p=>p = t) (fun (p : List qk)=>⟨[(5,.hs 0 4 0 p.length)],[(0,.dat 4 (p.map qx))],1⟩) qd ?_ ?_
 ·refine Q8 (q4s o k) (fun (l : Int × List qk)=>⟨[(0,.d (.sl 6 (o.map qw))),(1,q7 k),(5,.hs 0 4 0 l.2.length),(6,q7 l.1)],[(0,.dat 4 (l.2.map qx))],1⟩) (0,[]) t ae (wkA [] [] [0]) ?_
  intro l ao m
  unfold q4s at m
  refine qf<|qb<|U J<|U J<|Qd J<|O (.d (.bool (decide (l.1 < (o.length : Int))))) J<|q9 ?_
  refine qo J m (fun _ m=>?_) (fun _ m=>?_)
  ·refine qn<|qf ?_
   obtain ⟨af,a,m⟩:=q8 m
   refine Qe (fun q=>q = af) (fun (q : List qk)=>⟨[(0,.d (.sl 6 (o.map qw))),(1,q7 k),(5,.hs 0 4 0 q.length),(6,q7 l.1)],[(0,.dat 4 (q.map qx))],1⟩) qd ?_ ?_
   ·refine qb<|U J<|U J ?_
    obtain ⟨j,ag,a⟩:=q8 a
    refine Q4 (enc:=qw) ag J<|O (.dref [G j.Lo.X,G j.Lo.Y,G j.Lo.Z,G j.Hi.X,G j.Hi.Y,G j.Hi.Z] 0) J<|O (.dref [G j.Lo.X,G j.Lo.Y,G j.Lo.Z,G j.Hi.X,G j.Hi.Y,G j.Hi.Z] 2) J<|O (q7 j.Lo.Z) J<|U J<|O (.d (.bool (decide (j.Lo.Z≤k)))) J ?_
    obtain ⟨ah,n,a⟩:=q8 a
    refine Qa 10 (fun A st=>∃ (u w x y z aa ab ac ad : V),st = A [(30,qh ah),(29,ad),(28,ac),(27,ab),(26,aa),(25,z),(24,y),(23,x),(22,w),(21,u)]) ?_ ?_
    ·refine Qb J J n (fun n=>?_) (fun n=>?_)
     ·refine U J<|U J<|U J ?_
      obtain ⟨h,ai,n⟩:=q8 n
      refine Q4 (enc:=qw) ai J<|O (.dref [G h.Lo.X,G h.Lo.Y,G h.Lo.Z,G h.Hi.X,G h.Hi.Y,G h.Hi.Z] 3) J<|O (.dref [G h.Lo.X,G h.Lo.Y,G h.Lo.Z,G h.Hi.X,G h.Hi.Y,G h.Hi.Z] 5) J<|O (q7 h.Hi.Z) J<|O (.d (.bool (decide (k < h.Hi.Z)))) J<|O (.d (.bool (decide (k < h.Hi.Z)))) J<|q9 ?_
      obtain rfl:=qe n
      exact ⟨_,_,_,_,_,_,_,_,_,J⟩
     refine qc J<|qc J<|qc J<|qc J<|qc J<|qc J<|qc J<|qc J<|O (qh false) J<|q9 ?_
     obtain rfl:=qe n
     exact ⟨_,_,_,_,_,_,_,_,_,J⟩
    rintro _ ⟨u,w,x,y,z,aa,ab,ac,ad,rfl⟩
    refine q9 ?_
    refine qo J a (fun _ a=>?_) (fun _ a=>?_)
    ·refine Q7 [q0,(some [0,1],[0,2]),(some [],[1]),q0,q0,q0,q0,q0,q0,q0,q0,q0,q0,q0,q0,q0,q0,q0,q0,q0,q0,q0,q0,q0,q0,q0,q0,q0,q0] qi<|U J<|U J<|U J ?_
     obtain ⟨b,aj,a⟩:=q8 a
     refine Q4 (enc:=qw) aj J<|O (.dref [G b.Lo.X,G b.Lo.Y,G b.Lo.Z,G b.Hi.X,G b.Hi.Y,G b.Hi.Z] 0) J<|O (.dref [G b.Lo.X,G b.Lo.Y,G b.Lo.Z,G b.Hi.X,G b.Hi.Y,G b.Hi.Z] 0) J<|O (q7 b.Lo.X) J<|U J<|U J ?_
     obtain ⟨c,ak,a⟩:=q8 a
     refine Q4 (enc:=qw) ak J<|O (.dref [G c.Lo.X,G c.Lo.Y,G c.Lo.Z,G c.Hi.X,G c.Hi.Y,G c.Hi.Z] 0) J<|O (.dref [G c.Lo.X,G c.Lo.Y,G c.Lo.Z,G c.Hi.X,G c.Hi.Y,G c.Hi.Z] 1) J<|O (q7 c.Lo.Y) J<|U J<|U J ?_
     obtain ⟨f,al,a⟩:=q8 a
     refine Q4 (enc:=qw) al J<|O (.dref [G f.Lo.X,G f.Lo.Y,G f.Lo.Z,G f.Hi.X,G f.Hi.Y,G f.Hi.Z] 3) J<|O (.dref [G f.Lo.X,G f.Lo.Y,G f.Lo.Z,G f.Hi.X,G f.Hi.Y,G f.Hi.Z] 3) J<|O (q7 f.Hi.X) J<|U J<|U J ?_
     obtain ⟨g,am,a⟩:=q8 a
     refine Q4 (enc:=qw) am J<|O (.dref [G g.Lo.X,G g.Lo.Y,G g.Lo.Z,G g.Hi.X,G g.Hi.Y,G g.Hi.Z] 3) J<|O (.dref [G g.Lo.X,G g.Lo.Y,G g.Lo.Z,G g.Hi.X,G g.Hi.Y,G g.Hi.Z] 4) J<|O (q7 g.Hi.Y) J<|O (.d (.agg [G b.Lo.X,G c.Lo.Y,G f.Hi.X,G g.Hi.Y])) J<|Qn (.hs 1 4 0 [({X0:=b.Lo.X,Y0:=c.Lo.Y,X1:=f.Hi.X,Y1:=g.Hi.Y} : qk)].length) (.dat 4 ([({X0:=b.Lo.X,Y0:=c.Lo.Y,X1:=f.Hi.X,Y1:=g.Hi.Y} : qk)].map qx)) J ?_
     obtain ⟨ap,an,a⟩:=q8 a
     refine Kw (xs:=l.2) (ys:=[({X0:=b.Lo.X,Y0:=c.Lo.Y,X1:=f.Hi.X,Y1:=g.Hi.Y} : qk)]) (enc:=qx) (.hs 1 4 0 [({X0:=b.Lo.X,Y0:=c.Lo.Y,X1:=f.Hi.X,Y1:=g.Hi.Y} : qk)].length) an J J J J J J J (Ku J J) J J J J<|qa J<|qs ?_
     obtain rfl:=qe a
     exact ⟨_,J,wkA [(0,2)] [] []⟩
    refine qn<|Q9 ?_
    obtain rfl:=qe a
    exact ⟨_,J,wkA [(0,0)] [] []⟩
   intro q hb
   subst hb
   refine qu<|U J<|O (.d (G (w64 (l.1 + 1)))) J<|qa J<|qs ?_
   exact ⟨_,(Option.some.inj m).symm,wkA [(0,0)] [] []⟩
  refine Q3 ?_
  refine ⟨_,(Option.some.inj m).symm,fun hm=>?_⟩
  subst hm
  exact ⟨_,J,wkA [(0,0)] [] []⟩
 intro p hb
 subst hb
 refine qb<|U J<|qa J<|qp ?_
 obtain rfl:=qe s
 exact finD (.inr J) (v:=.hs 0 4 0 p.length) J (Za J J) (.refl _)
theorem qrw (p : List qk) (k : List qk) (r : List Int) (j : q7v p k = some r) : Pure Tryz.prog tab 102 [.sl 4 (p.map qx),.sl 4 (k.map qx)] (.sl 1 (r.map (eI .i64))):=by
 unfold q7v at j
 refine Qg Tryz.func102 J qi qi J<|qb<|qa J<|qt<|qa J<|q9<|qf<|qb<|qa J<|q9 ?_
 obtain ⟨q,u,j⟩:=q8 j
 refine Qe (fun o=>o = q) (fun (o : List Int)=>⟨[(1,.d (.sl 4 (k.map qx))),(5,.hs 0 1 0 o.length)],[(0,.dat 1 (o.map (eI .i64)))],1⟩) qd ?_ ?_
 ·refine Q8 (q2y p) (fun (l : Int × List Int)=>⟨[(0,.d (.sl 4 (p.map qx))),(1,.d (.sl 4 (k.map qx))),(5,.hs 0 1 0 l.2.length),(6,q7 l.1)],[(0,.dat 1 (l.2.map (eI .i64)))],1⟩) (0,[]) q u (wkA [] [] [0]) ?_
  intro l ad a
  unfold q2y at a
  refine qf<|qb<|U J<|U J<|Qd J<|O (.d (.bool (decide (l.1 < (p.length : Int))))) J<|q9 ?_
  refine qo J a (fun _ a=>?_) (fun _ a=>?_)
  ·refine qn<|qf<|Q0<|Q7 [q0,(some [0,1],[0,2]),(some [],[1]),q0,q0,q0,q0,q0,q0,q0,q0,q0,q0,q0] qi<|U J<|U J<|U J ?_
   obtain ⟨c,v,a⟩:=q8 a
   refine Q4 (enc:=qx) v J<|O (.dref [G c.X0,G c.Y0,G c.X1,G c.Y1] 0) J<|O (q7 c.X0) J<|U J<|U J ?_
   obtain ⟨f,w,a⟩:=q8 a
   refine Q4 (enc:=qx) w J<|O (.dref [G f.X0,G f.Y0,G f.X1,G f.Y1] 2) J<|O (q7 f.X1) J<|Qn (.hs 1 1 0 [c.X0,f.X1].length) (.dat 1 ([c.X0,f.X1].map (eI .i64))) J ?_
   obtain ⟨ae,x,a⟩:=q8 a
   refine Kw (xs:=l.2) (ys:=[c.X0,f.X1]) (enc:=(eI .i64)) (.hs 1 1 0 [c.X0,f.X1].length) x J J J J J J J (Ku J J) J J J J<|qa J<|qs<|Qc<|qu<|U J<|O (.d (G (w64 (l.1 + 1)))) J<|qa J<|qs ?_
   exact ⟨_,(Option.some.inj a).symm,wkA [(0,2)] [] []⟩
  refine Q3 ?_
  refine ⟨_,(Option.some.inj a).symm,fun hm=>?_⟩
  subst hm
  exact ⟨_,J,wkA [(0,0)] [] []⟩
 intro o hb
 subst hb
 refine qf<|qb<|qa J<|q9 ?_
 obtain ⟨s,y,j⟩:=q8 j
 refine Qe (fun m=>m = s) (fun (m : List Int)=>⟨[(5,.hs 0 1 0 m.length)],[(0,.dat 1 (m.map (eI .i64)))],1⟩) qd ?_ ?_
 ·refine Q8 (q2z k) (fun (n : Int × List Int)=>⟨[(1,.d (.sl 4 (k.map qx))),(5,.hs 0 1 0 n.2.length),(7,q7 n.1)],[(0,.dat 1 (n.2.map (eI .i64)))],1⟩) (0,o) s y (wkA [(0,0)] [] []) ?_
  intro n af b
  unfold q2z at b
  refine qf<|qb<|U J<|U J<|Qd J<|O (.d (.bool (decide (n.1 < (k.length : Int))))) J<|q9 ?_
  refine qo J b (fun _ b=>?_) (fun _ b=>?_)
  ·refine qn<|qf<|Q0<|Q7 [q0,(some [0,1],[0,2]),(some [],[1]),q0,q0,q0,q0,q0,q0,q0,q0,q0,q0,q0] qi<|U J<|U J<|U J ?_
   obtain ⟨g,z,b⟩:=q8 b
   refine Q4 (enc:=qx) z J<|O (.dref [G g.X0,G g.Y0,G g.X1,G g.Y1] 0) J<|O (q7 g.X0) J<|U J<|U J ?_
   obtain ⟨h,aa,b⟩:=q8 b
   refine Q4 (enc:=qx) aa J<|O (.dref [G h.X0,G h.Y0,G h.X1,G h.Y1] 2) J<|O (q7 h.X1) J<|Qn (.hs 1 1 0 [g.X0,h.X1].length) (.dat 1 ([g.X0,h.X1].map (eI .i64))) J ?_
   obtain ⟨ag,ab,b⟩:=q8 b
   refine Kw (xs:=n.2) (ys:=[g.X0,h.X1]) (enc:=(eI .i64)) (.hs 1 1 0 [g.X0,h.X1].length) ab J J J J J J J (Ku J J) J J J J<|qa J<|qs<|Qc<|qu<|U J<|O (.d (G (w64 (n.1 + 1)))) J<|qa J<|qs ?_
   exact ⟨_,(Option.some.inj b).symm,wkA [(0,2)] [] []⟩
  refine Q3 ?_
  refine ⟨_,(Option.some.inj b).symm,fun hm=>?_⟩
  subst hm
  exact ⟨_,J,wkA [(0,0)] [] []⟩
 intro m hb
 subst hb
 refine qf ?_
 refine Yn (st':=⟨[(5,.d (.sl 1 (m.map (eI .i64))))],[],0⟩) (wkA [] [0] []) ?_ qd
 refine qu<|U J ?_
 obtain ⟨t,ac,j⟩:=q8 j
 refine qz (qeb m t ac) J<|qa J<|qp ?_
 obtain rfl:=qe j
 exact Q1 (.d (.sl 1 (t.map (eI .i64)))) J
theorem qry (p : List qk) (k : List qk) (r : List Int) (j : q7w p k = some r) : Pure Tryz.prog tab 103 [.sl 4 (p.map qx),.sl 4 (k.map qx)] (.sl 1 (r.map (eI .i64))):=by
 unfold q7w at j
 refine Qg Tryz.func103 J qi qi J<|qb<|qa J<|qt<|qa J<|q9<|qf<|qb<|qa J<|q9 ?_
 obtain ⟨q,u,j⟩:=q8 j
 refine Qe (fun o=>o = q) (fun (o : List Int)=>⟨[(1,.d (.sl 4 (k.map qx))),(5,.hs 0 1 0 o.length)],[(0,.dat 1 (o.map (eI .i64)))],1⟩) qd ?_ ?_
 ·refine Q8 (q30 p) (fun (l : Int × List Int)=>⟨[(0,.d (.sl 4 (p.map qx))),(1,.d (.sl 4 (k.map qx))),(5,.hs 0 1 0 l.2.length),(6,q7 l.1)],[(0,.dat 1 (l.2.map (eI .i64)))],1⟩) (0,[]) q u (wkA [] [] [0]) ?_
  intro l ad a
  unfold q30 at a
  refine qf<|qb<|U J<|U J<|Qd J<|O (.d (.bool (decide (l.1 < (p.length : Int))))) J<|q9 ?_
  refine qo J a (fun _ a=>?_) (fun _ a=>?_)
  ·refine qn<|qf<|Q0<|Q7 [q0,(some [0,1],[0,2]),(some [],[1]),q0,q0,q0,q0,q0,q0,q0,q0,q0,q0,q0] qi<|U J<|U J<|U J ?_
   obtain ⟨c,v,a⟩:=q8 a
   refine Q4 (enc:=qx) v J<|O (.dref [G c.X0,G c.Y0,G c.X1,G c.Y1] 1) J<|O (q7 c.Y0) J<|U J<|U J ?_
   obtain ⟨f,w,a⟩:=q8 a
   refine Q4 (enc:=qx) w J<|O (.dref [G f.X0,G f.Y0,G f.X1,G f.Y1] 3) J<|O (q7 f.Y1) J<|Qn (.hs 1 1 0 [c.Y0,f.Y1].length) (.dat 1 ([c.Y0,f.Y1].map (eI .i64))) J ?_
   obtain ⟨ae,x,a⟩:=q8 a
   refine Kw (xs:=l.2) (ys:=[c.Y0,f.Y1]) (enc:=(eI .i64)) (.hs 1 1 0 [c.Y0,f.Y1].length) x J J J J J J J (Ku J J) J J J J<|qa J<|qs<|Qc<|qu<|U J<|O (.d (G (w64 (l.1 + 1)))) J<|qa J<|qs ?_
   exact ⟨_,(Option.some.inj a).symm,wkA [(0,2)] [] []⟩
  refine Q3 ?_
  refine ⟨_,(Option.some.inj a).symm,fun hm=>?_⟩
  subst hm
  exact ⟨_,J,wkA [(0,0)] [] []⟩
 intro o hb
 subst hb
 refine qf<|qb<|qa J<|q9 ?_
 obtain ⟨s,y,j⟩:=q8 j
 refine Qe (fun m=>m = s) (fun (m : List Int)=>⟨[(5,.hs 0 1 0 m.length)],[(0,.dat 1 (m.map (eI .i64)))],1⟩) qd ?_ ?_
 ·refine Q8 (q31 k) (fun (n : Int × List Int)=>⟨[(1,.d (.sl 4 (k.map qx))),(5,.hs 0 1 0 n.2.length),(7,q7 n.1)],[(0,.dat 1 (n.2.map (eI .i64)))],1⟩) (0,o) s y (wkA [(0,0)] [] []) ?_
  intro n af b
  unfold q31 at b
  refine qf<|qb<|U J<|U J<|Qd J<|O (.d (.bool (decide (n.1 < (k.length : Int))))) J<|q9 ?_
  refine qo J b (fun _ b=>?_) (fun _ b=>?_)
  ·refine qn<|qf<|Q0<|Q7 [q0,(some [0,1],[0,2]),(some [],[1]),q0,q0,q0,q0,q0,q0,q0,q0,q0,q0,q0] qi<|U J<|U J<|U J ?_
   obtain ⟨g,z,b⟩:=q8 b
   refine Q4 (enc:=qx) z J<|O (.dref [G g.X0,G g.Y0,G g.X1,G g.Y1] 1) J<|O (q7 g.Y0) J<|U J<|U J ?_
   obtain ⟨h,aa,b⟩:=q8 b
   refine Q4 (enc:=qx) aa J<|O (.dref [G h.X0,G h.Y0,G h.X1,G h.Y1] 3) J<|O (q7 h.Y1) J<|Qn (.hs 1 1 0 [g.Y0,h.Y1].length) (.dat 1 ([g.Y0,h.Y1].map (eI .i64))) J ?_
   obtain ⟨ag,ab,b⟩:=q8 b
   refine Kw (xs:=n.2) (ys:=[g.Y0,h.Y1]) (enc:=(eI .i64)) (.hs 1 1 0 [g.Y0,h.Y1].length) ab J J J J J J J (Ku J J) J J J J<|qa J<|qs<|Qc<|qu<|U J<|O (.d (G (w64 (n.1 + 1)))) J<|qa J<|qs ?_
   exact ⟨_,(Option.some.inj b).symm,wkA [(0,2)] [] []⟩
  refine Q3 ?_
  refine ⟨_,(Option.some.inj b).symm,fun hm=>?_⟩
  subst hm
  exact ⟨_,J,wkA [(0,0)] [] []⟩
 intro m hb
 subst hb
 refine qf ?_
 refine Yn (st':=⟨[(5,.d (.sl 1 (m.map (eI .i64))))],[],0⟩) (wkA [] [0] []) ?_ qd
 refine qu<|U J ?_
 obtain ⟨t,ac,j⟩:=q8 j
 refine qz (qeb m t ac) J<|qa J<|qp ?_
 obtain rfl:=qe j
 exact Q1 (.d (.sl 1 (t.map (eI .i64)))) J
theorem qjb (n : List qk) (c : Int) (b : Int) (r : Bool) (o : q4l n c b = some r) : Pure Tryz.prog tab 105 [.sl 4 (n.map qx),G c,G b] (.bool r):=by
 unfold q4l at o
 refine Qg Tryz.func105 J qi qi J<|qb<|qa J<|q9<|qf<|qb<|qa J<|q9 ?_
 obtain ⟨s,ar,o⟩:=q8 o
 refine Qe (fun q=>.inl q = s) (fun (q : Unit)=>⟨[],[],0⟩) qd ?_ ?_
 ·refine Q8 (q1s n c b) (fun (p : Int)=>⟨[(0,.d (.sl 4 (n.map qx))),(1,q7 c),(2,q7 b),(7,q7 p)],[],0⟩) 0 s ar (wkA [] [] []) ?_
  intro p bb a
  unfold q1s at a
  refine qf<|qb<|U J<|U J<|Qd J<|O (.d (.bool (decide (p < (n.length : Int))))) J<|q9 ?_
  refine qo J a (fun _ a=>?_) (fun _ a=>?_)
  ·refine qn<|qf<|Q0<|qb<|U J<|U J ?_
   obtain ⟨m,au,a⟩:=q8 a
   refine Q4 (enc:=qx) au J<|O (.dref [G m.X0,G m.Y0,G m.X1,G m.Y1] 0) J<|O (q7 m.X0) J<|U J<|O (.d (.bool (decide (m.X0≤c)))) J ?_
   obtain ⟨av,f,a⟩:=q8 a
   refine Qa 9 (fun A st=>∃ (t u v w x y z aa : V),st = A [(29,qh av),(28,aa),(27,z),(26,y),(25,x),(24,w),(23,v),(22,u),(21,t)]) ?_ ?_
   ·refine Qb J J f (fun f=>?_) (fun f=>?_)
    ·refine U J<|U J<|U J ?_
     obtain ⟨g,aw,f⟩:=q8 f
     refine Q4 (enc:=qx) aw J<|O (.dref [G g.X0,G g.Y0,G g.X1,G g.Y1] 2) J<|O (q7 g.X1) J<|O (.d (.bool (decide (c < g.X1)))) J<|O (.d (.bool (decide (c < g.X1)))) J<|q9 ?_
     obtain rfl:=qe f
     exact ⟨_,_,_,_,_,_,_,_,J⟩
    refine qc J<|qc J<|qc J<|qc J<|qc J<|qc J<|qc J<|O (qh false) J<|q9 ?_
    obtain rfl:=qe f
    exact ⟨_,_,_,_,_,_,_,_,J⟩
   rintro _ ⟨t,u,v,w,x,y,z,aa,rfl⟩
   obtain ⟨ax,h,a⟩:=q8 a
   refine Qa 9 (fun A st=>∃ (ab ac ad ae af ag ah ai : V),st = A [(38,qh ax),(37,ai),(36,ah),(35,ag),(34,af),(33,ae),(32,ad),(31,ac),(30,ab)]) ?_ ?_
   ·refine Qb J J h (fun h=>?_) (fun h=>?_)
    ·refine U J<|U J ?_
     obtain ⟨j,ay,h⟩:=q8 h
     refine Q4 (enc:=qx) ay J<|O (.dref [G j.X0,G j.Y0,G j.X1,G j.Y1] 1) J<|O (q7 j.Y0) J<|U J<|O (.d (.bool (decide (j.Y0≤b)))) J<|O (.d (.bool (decide (j.Y0≤b)))) J<|q9 ?_
     obtain rfl:=qe h
     exact ⟨_,_,_,_,_,_,_,_,J⟩
    refine qc J<|qc J<|qc J<|qc J<|qc J<|qc J<|qc J<|O (qh false) J<|q9 ?_
    obtain rfl:=qe h
    exact ⟨_,_,_,_,_,_,_,_,J⟩
   rintro _ ⟨ab,ac,ad,ae,af,ag,ah,ai,rfl⟩
   obtain ⟨az,k,a⟩:=q8 a
   refine Qa 9 (fun A st=>∃ (aj ak al am an ao ap aq : V),st = A [(47,qh az),(46,aq),(45,ap),(44,ao),(43,an),(42,am),(41,al),(40,ak),(39,aj)]) ?_ ?_
   ·refine Qb J J k (fun k=>?_) (fun k=>?_)
    ·refine U J<|U J<|U J ?_
     obtain ⟨l,ba,k⟩:=q8 k
     refine Q4 (enc:=qx) ba J<|O (.dref [G l.X0,G l.Y0,G l.X1,G l.Y1] 3) J<|O (q7 l.Y1) J<|O (.d (.bool (decide (b < l.Y1)))) J<|O (.d (.bool (decide (b < l.Y1)))) J<|q9 ?_
     obtain rfl:=qe k
     exact ⟨_,_,_,_,_,_,_,_,J⟩
    refine qc J<|qc J<|qc J<|qc J<|qc J<|qc J<|qc J<|O (qh false) J<|q9 ?_
    obtain rfl:=qe k
    exact ⟨_,_,_,_,_,_,_,_,J⟩
   rintro _ ⟨aj,ak,al,am,an,ao,ap,aq,rfl⟩
   refine q9 ?_
   refine qo J a (fun _ a=>?_) (fun _ a=>?_)
   ·refine qb<|qa J<|qp ?_
    refine ⟨_,(Option.some.inj a).symm,fun hm=>?_⟩
    subst hm
    obtain rfl:=qe o
    exact Q1 (qh true) J
   refine qn<|Q9<|Qc<|qu<|U J<|O (.d (G (w64 (p + 1)))) J<|qa J<|qs ?_
   exact ⟨_,(Option.some.inj a).symm,wkA [] [] []⟩
  refine Q3 ?_
  refine ⟨_,(Option.some.inj a).symm,fun hm=>?_⟩
  subst hm
  exact ⟨_,J,wkA [] [] []⟩
 intro q hb
 subst hb
 refine qb<|qa J<|qp ?_
 obtain rfl:=qe o
 exact Q1 (qh false) J
theorem qrq (g : Int) (h : Bool) (b : Bool) (r : Bool) (a : q4j g h b = some r) : Pure Tryz.prog tab 104 [G g,.bool h,.bool b] (.bool r):=by
 unfold q4j at a
 refine Qg Tryz.func104 J qi qi J<|qb<|qa J<|q9<|qf<|qb<|U J<|O (qh (g == 1)) J<|q9 ?_
 refine qo J a (fun _ a=>?_) (fun _ a=>?_)
 ·refine qb<|U J ?_
  obtain ⟨j,c,a⟩:=q8 a
  refine Qa 3 (fun A st=>∃ (k l : V),st = A [(12,qh j),(11,l),(10,k)]) ?_ ?_
  ·refine Qb J J c (fun c=>?_) (fun c=>?_)
   ·refine U J<|O (qh b) J<|q9 ?_
    obtain rfl:=qe c
    exact ⟨_,_,J⟩
   refine qc J<|O (qh false) J<|q9 ?_
   obtain rfl:=qe c
   exact ⟨_,_,J⟩
  rintro _ ⟨k,l,rfl⟩
  refine qa J<|qp ?_
  obtain rfl:=qe a
  exact Q1 (qh j) J
 refine qn<|qf<|qb<|U J<|O (qh (g == 2)) J<|q9 ?_
 refine qo J a (fun _ a=>?_) (fun _ a=>?_)
 ·refine qb<|U J ?_
  obtain ⟨m,d,a⟩:=q8 a
  refine Qa 3 (fun A st=>∃ (n o : V),st = A [(18,qh m),(17,o),(16,n)]) ?_ ?_
  ·refine Qb J J d (fun d=>?_) (fun d=>?_)
   ·refine qc J<|O (qh true) J<|q9 ?_
    obtain rfl:=qe d
    exact ⟨_,_,J⟩
   refine U J<|O (qh b) J<|q9 ?_
   obtain rfl:=qe d
   exact ⟨_,_,J⟩
  rintro _ ⟨n,o,rfl⟩
  refine qa J<|qp ?_
  obtain rfl:=qe a
  exact Q1 (qh m) J
 refine qn<|qb<|U J ?_
 obtain ⟨p,f,a⟩:=q8 a
 refine Qa 4 (fun A st=>∃ (q s t : V),st = A [(23,qh p),(22,t),(21,s),(20,q)]) ?_ ?_
 ·refine Qb J J f (fun f=>?_) (fun f=>?_)
  ·refine U J<|O (qh (!b)) J<|O (qh (!b)) J<|q9 ?_
   obtain rfl:=qe f
   exact ⟨_,_,_,J⟩
  refine qc J<|qc J<|O (qh false) J<|q9 ?_
  obtain rfl:=qe f
  exact ⟨_,_,_,J⟩
 rintro _ ⟨q,s,t,rfl⟩
 refine qa J<|qp ?_
 obtain rfl:=qe a
 exact Q1 (qh p) J
theorem qro (g : List Int) (l : List Bool) (r : List qm) (n : q2s g l = some r) : Pure Tryz.prog tab 106 [.sl 1 (g.map (eI .i64)),.sl 1 (l.map eB)] (.sl 2 (r.map Qh)):=by
 unfold q2s at n
 refine Qg Tryz.func106 J qi qi J<|qb<|qa J<|qt<|qa J<|q9<|qf<|qb<|qa J<|q9 ?_
 obtain ⟨s,aj,n⟩:=q8 n
 refine Qe (fun h=>h = s) (fun (h : List qm)=>⟨[(5,.hs 0 2 0 h.length)],[(0,.dat 2 (h.map Qh))],1⟩) qd ?_ ?_
 ·refine Q8 (q2t g l) (fun (b : Int × List qm)=>⟨[(0,.d (.sl 1 (g.map (eI .i64)))),(1,.d (.sl 1 (l.map eB))),(5,.hs 0 2 0 b.2.length),(6,q7 b.1)],[(0,.dat 2 (b.2.map Qh))],1⟩) (0,[]) s aj (wkA [] [] [0]) ?_
  intro b av f
  unfold q2t at f
  refine qf<|qb<|U J<|O (.d (G (w64 (b.1 + 1)))) J<|U J<|Qd J<|O (.d (.bool (decide ((w64 (b.1 + 1)) < (g.length : Int))))) J<|q9 ?_
  refine qo J f (fun _ f=>?_) (fun _ f=>?_)
  ·refine qn<|qf ?_
   obtain ⟨ak,a,f⟩:=q8 f
   refine Qe (fun m=>m = ak) (fun (m : List qm)=>⟨[(0,.d (.sl 1 (g.map (eI .i64)))),(1,.d (.sl 1 (l.map eB))),(5,.hs 0 2 0 m.length),(6,q7 b.1)],[(0,.dat 2 (m.map Qh))],1⟩) qd ?_ ?_
   ·refine qf<|qb<|U J<|U J ?_
    obtain ⟨t,al,a⟩:=q8 a
    refine Q4 (enc:=eB) al J<|O (qh t) J<|O (qh (!t)) J<|q9 ?_
    refine qo J a (fun _ a=>?_) (fun _ a=>?_)
    ·refine Q3 ?_
     obtain rfl:=qe a
     exact ⟨_,J,wkA [(0,0)] [] []⟩
    refine qn<|qb<|U J<|O (q7 (b.2.length : Int)) J<|qa J<|q9<|qf<|Q7 [q0,q0,q0,q0,q0,q0,qq 0,q0,q0,q0,q0,q0,q0,q0,q0] qi<|U J<|O (.d (.bool (decide ((b.2.length : Int) > 0)))) J ?_
    obtain ⟨am,c,a⟩:=q8 a
    refine Qa 13 (fun A st=>∃ (u w x y z aa ab ac ad ae af ag : V),st = A [(36,qh am),(35,ag),(34,af),(33,ae),(32,ad),(31,ac),(30,ab),(29,aa),(28,z),(27,y),(26,x),(25,w),(24,u)]) ?_ ?_
    ·refine Qb J J c (fun c=>?_) (fun c=>?_)
     ·refine U J<|U J<|O (.d (G (w64 ((b.2.length : Int) - 1)))) J ?_
      obtain ⟨o,ah,c⟩:=q8 c
      refine qr ah J J<|O (.ref 0 2 (w64 ((b.2.length : Int) - 1)).toNat 1) J<|Q2 (q7 o.Hi) ah J<|U J<|U J ?_
      obtain ⟨p,an,c⟩:=q8 c
      refine Q4 (enc:=(eI .i64)) an J<|O (q7 p) J<|O (qh (o.Hi == p)) J<|O (qh (o.Hi == p)) J<|q9 ?_
      obtain rfl:=qe c
      exact ⟨_,_,_,_,_,_,_,_,_,_,_,_,J⟩
     refine qc J<|qc J<|qc J<|qc J<|qc J<|qc J<|qc J<|qc J<|qc J<|qc J<|qc J<|O (qh false) J<|q9 ?_
     obtain rfl:=qe c
     exact ⟨_,_,_,_,_,_,_,_,_,_,_,_,J⟩
    rintro _ ⟨u,w,x,y,z,aa,ab,ac,ad,ae,af,ag,rfl⟩
    refine q9 ?_
    refine qo J a (fun _ a=>?_) (fun _ a=>?_)
    ·refine qu<|U J<|U J<|O (.d (G (w64 ((b.2.length : Int) - 1)))) J<|U J<|U J<|O (.d (G (w64 (b.1 + 1)))) J ?_
     obtain ⟨q,ao,a⟩:=q8 a
     refine Q4 (enc:=(eI .i64)) ao J<|O (q7 q) J ?_
     obtain ⟨ap,ai,a⟩:=q8 a
     refine qr ai J J<|O (.ref 0 2 (w64 ((b.2.length : Int) - 1)).toNat 1) J<|Qt (ds:=[G q]) ({Lo:=ap.Lo,Hi:=q} : qm) ai J J J J J J J J (leb J) J<|qs ?_
     obtain rfl:=qe a
     exact ⟨_,J,wkE [(0,0)] [] [] J ⟨ql J,ql J,⟨_,J,Qx qd J qy (ltd J)⟩,ql J,trivial⟩ ⟨Qm J J,trivial⟩⟩
    refine Q7 [q0,(some [0,1],[0,2]),(some [],[1]),q0,q0,q0,q0,q0,q0,q0,q0,q0,q0,q0] qi<|U J<|U J<|U J ?_
    obtain ⟨j,aq,a⟩:=q8 a
    refine Q4 (enc:=(eI .i64)) aq J<|O (q7 j) J<|U J<|U J<|O (.d (G (w64 (b.1 + 1)))) J ?_
    obtain ⟨k,ar,a⟩:=q8 a
    refine Q4 (enc:=(eI .i64)) ar J<|O (q7 k) J<|O (.d (.agg [G j,G k])) J<|Qn (.hs 1 2 0 [({Lo:=j,Hi:=k} : qm)].length) (.dat 2 ([({Lo:=j,Hi:=k} : qm)].map Qh)) J ?_
    obtain ⟨aw,au,a⟩:=q8 a
    refine Kw (xs:=b.2) (ys:=[({Lo:=j,Hi:=k} : qm)]) (enc:=Qh) (.hs 1 2 0 [({Lo:=j,Hi:=k} : qm)].length) au J J J J J J J (Ku J J) J J J J<|qa J<|qs ?_
    obtain rfl:=qe a
    exact ⟨_,J,wkA [(0,2)] [] []⟩
   intro m hb
   subst hb
   refine qu<|U J<|O (.d (G (w64 (b.1 + 1)))) J<|qa J<|qs ?_
   exact ⟨_,(Option.some.inj f).symm,wkA [(0,0)] [] []⟩
  refine Q3 ?_
  refine ⟨_,(Option.some.inj f).symm,fun hm=>?_⟩
  subst hm
  exact ⟨_,J,wkA [(0,0)] [] []⟩
 intro h hb
 subst hb
 refine qb<|U J<|qa J<|qp ?_
 obtain rfl:=qe n
 exact finD (.inr J) (v:=.hs 0 2 0 h.length) J (Za J J) (.refl _)
theorem qrr (c : List qm) (f : List qm) (r : Bool) (b : q4k c f = some r) : Pure Tryz.prog tab 107 [.sl 2 (c.map Qh),.sl 2 (f.map Qh)] (.bool r):=by
 unfold q4k at b
 refine Qg Tryz.func107 J qi qi J<|qb<|qa J<|q9<|qf<|qb<|U J<|Qd J<|U J<|Qd J<|O (.d (.bool ((c.length : Int) != (f.length : Int)))) J<|q9 ?_
 refine qo J b (fun _ b=>?_) (fun _ b=>?_)
 ·refine qb<|qa J<|qp ?_
  obtain rfl:=qe b
  exact Q1 (qh false) J
 refine qn<|qf<|qb<|qa J<|q9 ?_
 obtain ⟨l,m,b⟩:=q8 b
 refine Qe (fun k=>.inl k = l) (fun (k : Unit)=>⟨[],[],0⟩) qd ?_ ?_
 ·refine Q8 (qay c f) (fun (g : Int)=>⟨[(0,.d (.sl 2 (c.map Qh))),(1,.d (.sl 2 (f.map Qh))),(5,q7 g)],[],0⟩) 0 l m (wkA [] [] []) ?_
  intro g p a
  unfold qay at a
  refine qf<|qb<|U J<|U J<|Qd J<|O (.d (.bool (decide (g < (c.length : Int))))) J<|q9 ?_
  refine qo J a (fun _ a=>?_) (fun _ a=>?_)
  ·refine qn<|qf<|Q0<|qf<|Q7 [q0,q0,q0,q0,q0,q0,q0,q0,q0] qi<|U J<|U J ?_
   obtain ⟨h,n,a⟩:=q8 a
   refine Q4 (enc:=Qh) n J<|O (.d (.agg [G h.Lo,G h.Hi])) J<|U J<|U J ?_
   obtain ⟨j,o,a⟩:=q8 a
   refine Q4 (enc:=Qh) o J<|O (.d (.agg [G j.Lo,G j.Hi])) J<|O (.d (.bool (!((h.Lo == j.Lo) && ((h.Hi == j.Hi) && true))))) J<|q9 ?_
   refine qo J a (fun _ a=>?_) (fun _ a=>?_)
   ·refine qb<|qa J<|qp ?_
    refine ⟨_,(Option.some.inj a).symm,fun hm=>?_⟩
    subst hm
    obtain rfl:=qe b
    exact Q1 (qh false) J
   refine qn<|Q9<|Qc<|qu<|U J<|O (.d (G (w64 (g + 1)))) J<|qa J<|qs ?_
   exact ⟨_,(Option.some.inj a).symm,wkA [] [] []⟩
  refine Q3 ?_
  refine ⟨_,(Option.some.inj a).symm,fun hm=>?_⟩
  subst hm
  exact ⟨_,J,wkA [] [] []⟩
 intro k hb
 subst hb
 refine qb<|qa J<|qp ?_
 obtain rfl:=qe b
 exact Q1 (qh true) J
theorem qec (k : Int) (f : List qk) (g : List qk) (r : List qk) (o : Zs k f g = some r) : Pure Tryz.prog tab 79 [G k,.sl 4 (f.map qx),.sl 4 (g.map qx)] (.sl 4 (r.map qx)):=by
 unfold Zs at o
 refine Qg Tryz.func79 J qi qi J<|qb<|qa J<|qt<|U J<|U J ?_
 obtain ⟨j,h2,o⟩:=q8 o
 refine qz (qrw f g j h2) J<|U J<|U J ?_
 obtain ⟨l,h4,o⟩:=q8 o
 refine qz (qry f g l h4) J<|qa J<|qa J<|qt<|qa J<|qt<|qa J<|qt<|qa J<|q9<|qf<|qb<|qa J<|q9 ?_
 obtain ⟨ah,ba,o⟩:=q8 o
 refine Qe (fun z=>z = ah) (fun (z : List qk)=>⟨[(9,.hs 0 4 0 z.length)],[(0,.dat 4 (z.map qx))],1⟩) qd ?_ ?_
 ·refine Q8 (q1t j l f g k) (fun (a : List qm × Int × Int × List qk)=>⟨[(0,q7 k),(1,.d (.sl 4 (f.map qx))),(2,.d (.sl 4 (g.map qx))),(7,.d (.sl 1 (j.map (eI .i64)))),(8,.d (.sl 1 (l.map (eI .i64)))),(9,.hs 0 4 0 a.2.2.2.length),(10,.d (.sl 2 (a.1.map Qh))),(11,q7 a.2.1),(12,q7 a.2.2.1)],[(0,.dat 4 (a.2.2.2.map qx))],1⟩) ([],0,0,[]) ah ba (wkA [] [] [0]) ?_
  intro a bx p
  unfold q1t at p
  refine qf<|qb<|U J<|O (.d (G (w64 (a.2.2.1 + 1)))) J<|U J<|Qd J<|O (.d (.bool (decide ((w64 (a.2.2.1 + 1)) < (j.length : Int))))) J<|q9 ?_
  refine qo J p (fun _ p=>?_) (fun _ p=>?_)
  ·refine qn<|qf ?_
   obtain ⟨bb,h,p⟩:=q8 p
   refine Qe (fun t=>t = bb) (fun (t : List qm × Int × List qk)=>⟨[(0,q7 k),(1,.d (.sl 4 (f.map qx))),(2,.d (.sl 4 (g.map qx))),(7,.d (.sl 1 (j.map (eI .i64)))),(8,.d (.sl 1 (l.map (eI .i64)))),(9,.hs 0 4 0 t.2.2.length),(10,.d (.sl 2 (t.1.map Qh))),(11,q7 t.2.1),(12,q7 a.2.2.1)],[(0,.dat 4 (t.2.2.map qx))],1⟩) qd ?_ ?_
   ·refine qb<|qa J<|q9<|qf<|qb<|qa J<|q9 ?_
    obtain ⟨ai,bc,h⟩:=q8 h
    refine Qe (fun u=>u = ai) (fun (u : List Bool)=>⟨[(0,q7 k),(1,.d (.sl 4 (f.map qx))),(2,.d (.sl 4 (g.map qx))),(7,.d (.sl 1 (j.map (eI .i64)))),(8,.d (.sl 1 (l.map (eI .i64)))),(9,.hs 0 4 0 a.2.2.2.length),(10,.d (.sl 2 (a.1.map Qh))),(11,q7 a.2.1),(12,q7 a.2.2.1),(13,.hs 1 1 0 u.length)],[(0,.dat 4 (a.2.2.2.map qx)),(1,.dat 1 (u.map eB))],2⟩) qd ?_ ?_
    ·refine Q8 (q2w l j a f g k) (fun (w : Int × List Bool)=>⟨[(0,q7 k),(1,.d (.sl 4 (f.map qx))),(2,.d (.sl 4 (g.map qx))),(7,.d (.sl 1 (j.map (eI .i64)))),(8,.d (.sl 1 (l.map (eI .i64)))),(9,.hs 0 4 0 a.2.2.2.length),(10,.d (.sl 2 (a.1.map Qh))),(11,q7 a.2.1),(12,q7 a.2.2.1),(13,.hs 1 1 0 w.2.length),(14,q7 w.1)],[(0,.dat 4 (a.2.2.2.map qx)),(1,.dat 1 (w.2.map eB))],2⟩) (0,[]) ai bc (wkA [(0,0)] [] [1]) ?_
     intro w bz b
     unfold q2w at b
     refine qf<|qb<|U J<|U J<|Qd J<|O (.d (.bool (decide (w.1 < (l.length : Int))))) J<|q9 ?_
     refine qo J b (fun _ b=>?_) (fun _ b=>?_)
     ·refine qn<|qf<|Q0<|Q7 [q0,(some [1,2],[1,3]),(some [],[2]),q0,q0,q0,q0,q0,q0,q0,q0,q0,q0,q0,q0,q0,q0,q0,q0,q0,q0,q0,q0,q0,q0,q0] qi<|U J<|U J<|U J<|U J<|U J ?_
      obtain ⟨aj,bd,b⟩:=q8 b
      refine Q4 (enc:=(eI .i64)) bd J<|O (q7 aj) J<|U J<|U J ?_
      obtain ⟨ak,be,b⟩:=q8 b
      refine Q4 (enc:=(eI .i64)) be J<|O (q7 ak) J ?_
      obtain ⟨al,bf,b⟩:=q8 b
      refine qz (qjb f aj ak al bf) J<|U J<|U J<|U J ?_
      obtain ⟨am,bg,b⟩:=q8 b
      refine Q4 (enc:=(eI .i64)) bg J<|O (q7 am) J<|U J<|U J ?_
      obtain ⟨an,bh,b⟩:=q8 b
      refine Q4 (enc:=(eI .i64)) bh J<|O (q7 an) J ?_
      obtain ⟨ao,bi,b⟩:=q8 b
      refine qz (qjb g am an ao bi) J ?_
      obtain ⟨ad,bj,b⟩:=q8 b
      refine qz (qrq k al ao ad bj) J<|Qn (.hs 2 1 0 [ad].length) (.dat 1 ([ad].map eB)) J ?_
      obtain ⟨ca,bk,b⟩:=q8 b
      refine Kw (xs:=w.2) (ys:=[ad]) (enc:=eB) (.hs 2 1 0 [ad].length) bk J J J J J J J (Ku J J) J J J J<|qa J<|qs<|Qc<|qu<|U J<|O (.d (G (w64 (w.1 + 1)))) J<|qa J<|qs ?_
      exact ⟨_,(Option.some.inj b).symm,wkA [(0,0),(1,3)] [] []⟩
     refine Q3 ?_
     refine ⟨_,(Option.some.inj b).symm,fun hm=>?_⟩
     subst hm
     exact ⟨_,J,wkA [(0,0),(1,1)] [] []⟩
    intro u hb
    subst hb
    refine qf ?_
    refine Yn (st':=⟨[(0,q7 k),(1,.d (.sl 4 (f.map qx))),(2,.d (.sl 4 (g.map qx))),(7,.d (.sl 1 (j.map (eI .i64)))),(8,.d (.sl 1 (l.map (eI .i64)))),(9,.hs 0 4 0 a.2.2.2.length),(10,.d (.sl 2 (a.1.map Qh))),(11,q7 a.2.1),(12,q7 a.2.2.1),(13,.d (.sl 1 (u.map eB)))],[(0,.dat 4 (a.2.2.2.map qx))],1⟩) (wkA [(0,0)] [1] []) ?_ qd
    refine qu<|U J<|U J ?_
    obtain ⟨aa,bl,h⟩:=q8 h
    refine qz (qro l u aa bl) J<|qa J<|q9<|qf<|qb<|U J<|O (.d (.bool (decide (a.2.2.1 > 0)))) J ?_
    obtain ⟨bm,x,h⟩:=q8 h
    refine Qa 5 (fun A st=>∃ (ap aq ar au : V),st = A [(71,qh bm),(70,au),(69,ar),(68,aq),(67,ap)]) ?_ ?_
    ·refine Qb J J x (fun x=>?_) (fun x=>?_)
     ·refine U J<|U J ?_
      obtain ⟨av,bn,x⟩:=q8 x
      refine qz (qrr aa a.1 av bn) J<|O (qh av) J<|q9 ?_
      obtain rfl:=qe x
      exact ⟨_,_,_,_,J⟩
     refine qc J<|qc J<|qc J<|O (qh false) J<|q9 ?_
     obtain rfl:=qe x
     exact ⟨_,_,_,_,J⟩
    rintro _ ⟨ap,aq,ar,au,rfl⟩
    refine q9 ?_
    refine qo J h (fun _ h=>?_) (fun _ h=>?_)
    ·refine qf<|qb<|U J<|qa J<|q9 ?_
     obtain ⟨aw,bo,h⟩:=q8 h
     refine Qe (fun ae=>ae = aw) (fun (ae : List qk)=>⟨[(0,q7 k),(1,.d (.sl 4 (f.map qx))),(2,.d (.sl 4 (g.map qx))),(7,.d (.sl 1 (j.map (eI .i64)))),(8,.d (.sl 1 (l.map (eI .i64)))),(9,.hs 0 4 0 ae.length),(10,.d (.sl 2 (a.1.map Qh))),(11,q7 a.2.1),(12,q7 a.2.2.1)],[(0,.dat 4 (ae.map qx))],1⟩) qd ?_ ?_
     ·refine Q8 (q2x j a) (fun (n : Int × List qk)=>⟨[(0,q7 k),(1,.d (.sl 4 (f.map qx))),(2,.d (.sl 4 (g.map qx))),(7,.d (.sl 1 (j.map (eI .i64)))),(8,.d (.sl 1 (l.map (eI .i64)))),(9,.hs 0 4 0 n.2.length),(10,.d (.sl 2 (a.1.map Qh))),(11,q7 a.2.1),(12,q7 a.2.2.1),(16,q7 n.1)],[(0,.dat 4 (n.2.map qx))],1⟩) (a.2.1,a.2.2.2) aw bo (wkA [(0,0)] [] []) ?_
      intro n cb m
      unfold q2x at m
      refine qf<|qb<|U J<|U J<|O (q7 (n.2.length : Int)) J<|O (.d (.bool (decide (n.1 < (n.2.length : Int))))) J<|q9 ?_
      refine qo J m (fun _ m=>?_) (fun _ m=>?_)
      ·refine qn<|qf<|Q0<|qu<|U J<|U J<|U J<|U J<|O (.d (G (w64 (a.2.2.1 + 1)))) J ?_
       obtain ⟨af,bp,m⟩:=q8 m
       refine Q4 (enc:=(eI .i64)) bp J<|O (q7 af) J ?_
       obtain ⟨ag,ax,m⟩:=q8 m
       refine qr ax J J<|O (.ref 0 4 n.1.toNat 2) J<|Qt (ds:=[G af]) ({X0:=ag.X0,Y0:=ag.Y0,X1:=af,Y1:=ag.Y1} : qk) ax J J J J J J J J (leb J) J<|qs<|Qc<|qu<|U J<|O (.d (G (w64 (n.1 + 1)))) J<|qa J<|qs ?_
       exact ⟨_,(Option.some.inj m).symm,wkE [(0,0)] [] [] J ⟨ql J,ql J,ql J,ql J,ql J,⟨_,J,Qx qd J qy (ltd J)⟩,ql J,ql J,ql J,ql J,trivial⟩ ⟨Qm J J,trivial⟩⟩
      refine Q3 ?_
      refine ⟨_,(Option.some.inj m).symm,fun hm=>?_⟩
      subst hm
      exact ⟨_,J,wkA [(0,0)] [] []⟩
     intro ae hb
     subst hb
     refine Q3 ?_
     obtain rfl:=qe h
     exact ⟨_,J,wkA [(0,0)] [] []⟩
    refine qn<|qb<|U J<|O (q7 (a.2.2.2.length : Int)) J<|U J<|qa J<|qa J<|qt<|qa J<|q9 ?_
    obtain ⟨bq,br,h⟩:=q8 h
    refine Q0<|Q8 (q4m aa j a) (fun (y : Int × List qk)=>⟨[(0,q7 k),(1,.d (.sl 4 (f.map qx))),(2,.d (.sl 4 (g.map qx))),(7,.d (.sl 1 (j.map (eI .i64)))),(8,.d (.sl 1 (l.map (eI .i64)))),(9,.hs 0 4 0 y.2.length),(10,.d (.sl 2 (aa.map Qh))),(11,q7 (a.2.2.2.length : Int)),(12,q7 a.2.2.1),(15,.d (.sl 2 (aa.map Qh))),(17,q7 y.1)],[(0,.dat 4 (y.2.map qx))],1⟩) (0,a.2.2.2) bq br (wkA [(0,0)] [] []) ?_
    intro y cc c
    unfold q4m at c
    refine qf<|qb<|U J<|U J<|Qd J<|O (.d (.bool (decide (y.1 < (aa.length : Int))))) J<|q9 ?_
    refine qo J c (fun _ c=>?_) (fun _ c=>?_)
    ·refine qn<|qf<|Q0<|Q7 [q0,(some [0,1],[0,2]),(some [],[1]),q0,q0,q0,q0,q0,q0,q0,q0,q0,q0,q0,q0,q0,q0,q0,q0,q0,q0,q0,q0,q0] qi<|U J<|U J<|U J ?_
     obtain ⟨ab,bs,c⟩:=q8 c
     refine Q4 (enc:=(eI .i64)) bs J<|O (q7 ab) J<|U J<|U J ?_
     obtain ⟨q,bt,c⟩:=q8 c
     refine Q4 (enc:=Qh) bt J<|O (.dref [G q.Lo,G q.Hi] 0) J<|O (q7 q.Lo) J<|U J<|U J<|O (.d (G (w64 (a.2.2.1 + 1)))) J ?_
     obtain ⟨ac,bu,c⟩:=q8 c
     refine Q4 (enc:=(eI .i64)) bu J<|O (q7 ac) J<|U J<|U J ?_
     obtain ⟨s,bv,c⟩:=q8 c
     refine Q4 (enc:=Qh) bv J<|O (.dref [G s.Lo,G s.Hi] 1) J<|O (q7 s.Hi) J<|O (.d (.agg [G ab,G q.Lo,G ac,G s.Hi])) J<|Qn (.hs 1 4 0 [({X0:=ab,Y0:=q.Lo,X1:=ac,Y1:=s.Hi} : qk)].length) (.dat 4 ([({X0:=ab,Y0:=q.Lo,X1:=ac,Y1:=s.Hi} : qk)].map qx)) J ?_
     obtain ⟨cd,bw,c⟩:=q8 c
     refine Kw (xs:=y.2) (ys:=[({X0:=ab,Y0:=q.Lo,X1:=ac,Y1:=s.Hi} : qk)]) (enc:=qx) (.hs 1 4 0 [({X0:=ab,Y0:=q.Lo,X1:=ac,Y1:=s.Hi} : qk)].length) bw J J J J J J J (Ku J J) J J J J<|qa J<|qs<|Qc<|qu<|U J<|O (.d (G (w64 (y.1 + 1)))) J<|qa J<|qs ?_
     exact ⟨_,(Option.some.inj c).symm,wkA [(0,2)] [] []⟩
    refine Q3 ?_
    refine ⟨_,(Option.some.inj c).symm,fun hm=>?_⟩
    subst hm
    obtain rfl:=qe h
    exact ⟨_,J,wkA [(0,0)] [] []⟩
   intro t hb
   subst hb
   refine qu<|U J<|O (.d (G (w64 (a.2.2.1 + 1)))) J<|qa J<|qs ?_
   exact ⟨_,(Option.some.inj p).symm,wkA [(0,0)] [] []⟩
  refine Q3 ?_
  refine ⟨_,(Option.some.inj p).symm,fun hm=>?_⟩
  subst hm
  exact ⟨_,J,wkA [(0,0)] [] []⟩
 intro z hb
 subst hb
 refine qb<|U J<|qa J<|qp ?_
 obtain rfl:=qe o
 exact finD (.inr J) (v:=.hs 0 4 0 z.length) J (Za J J) (.refl _)
theorem qru (g : List qk) (h : List qk) (r : Bool) (b : q4o g h = some r) : Pure Tryz.prog tab 81 [.sl 4 (g.map qx),.sl 4 (h.map qx)] (.bool r):=by
 unfold q4o at b
 refine Qg Tryz.func81 J qi qi J<|qb<|qa J<|q9<|qf<|qb<|U J<|Qd J<|U J<|Qd J<|O (.d (.bool ((g.length : Int) != (h.length : Int)))) J<|q9 ?_
 refine qo J b (fun _ b=>?_) (fun _ b=>?_)
 ·refine qb<|qa J<|qp ?_
  obtain rfl:=qe b
  exact Q1 (qh false) J
 refine qn<|qf<|qb<|qa J<|q9 ?_
 obtain ⟨l,m,b⟩:=q8 b
 refine Qe (fun k=>.inl k = l) (fun (k : Unit)=>⟨[],[],0⟩) qd ?_ ?_
 ·refine Q8 (qaz g h) (fun (j : Int)=>⟨[(0,.d (.sl 4 (g.map qx))),(1,.d (.sl 4 (h.map qx))),(5,q7 j)],[],0⟩) 0 l m (wkA [] [] []) ?_
  intro j p a
  unfold qaz at a
  refine qf<|qb<|U J<|U J<|Qd J<|O (.d (.bool (decide (j < (g.length : Int))))) J<|q9 ?_
  refine qo J a (fun _ a=>?_) (fun _ a=>?_)
  ·refine qn<|qf<|Q0<|qf<|Q7 [q0,q0,q0,q0,q0,q0,q0,q0,q0] qi<|U J<|U J ?_
   obtain ⟨c,n,a⟩:=q8 a
   refine Q4 (enc:=qx) n J<|O (.d (.agg [G c.X0,G c.Y0,G c.X1,G c.Y1])) J<|U J<|U J ?_
   obtain ⟨f,o,a⟩:=q8 a
   refine Q4 (enc:=qx) o J<|O (.d (.agg [G f.X0,G f.Y0,G f.X1,G f.Y1])) J<|O (.d (.bool (!((c.X0 == f.X0) && ((c.Y0 == f.Y0) && ((c.X1 == f.X1) && ((c.Y1 == f.Y1) && true))))))) J<|q9 ?_
   refine qo J a (fun _ a=>?_) (fun _ a=>?_)
   ·refine qb<|qa J<|qp ?_
    refine ⟨_,(Option.some.inj a).symm,fun hm=>?_⟩
    subst hm
    obtain rfl:=qe b
    exact Q1 (qh false) J
   refine qn<|Q9<|Qc<|qu<|U J<|O (.d (G (w64 (j + 1)))) J<|qa J<|qs ?_
   exact ⟨_,(Option.some.inj a).symm,wkA [] [] []⟩
  refine Q3 ?_
  refine ⟨_,(Option.some.inj a).symm,fun hm=>?_⟩
  subst hm
  exact ⟨_,J,wkA [] [] []⟩
 intro k hb
 subst hb
 refine qb<|qa J<|qp ?_
 obtain rfl:=qe b
 exact Q1 (qh true) J
theorem qjh (s : Int) (f : List qg) (g : List qg) (r : List qg × Bool) (w : Jn s f g = some r) : Pure Tryz.prog tab 50 [G s,.sl 6 (f.map qw),.sl 6 (g.map qw)] (.tup [.sl 6 (r.1.map qw),.bool r.2]):=by
 unfold Jn at w
 refine Qg Tryz.func50 J qi qi J<|qb<|qa J<|qa J<|qt<|U J<|U J ?_
 obtain ⟨o,h2,w⟩:=q8 w
 refine qz (qs0 f g o h2) J<|qa J<|qt<|qa J<|qt<|qa J<|qt<|qa J<|q9<|qf<|qb<|qa J<|q9 ?_
 obtain ⟨ai,bv,w⟩:=q8 w
 refine Qe (fun t=>.inl t = ai) (fun (t : List qg)=>⟨[(9,.hs 0 6 0 t.length)],[(0,.dat 6 (t.map qw))],1⟩) qd ?_ ?_
 ·refine Q8 (Jc o f g s) (fun (b : List qk × Int × Int × List qg)=>⟨[(0,q7 s),(1,.d (.sl 6 (f.map qw))),(2,.d (.sl 6 (g.map qw))),(8,.d (.sl 1 (o.map (eI .i64)))),(9,.hs 0 6 0 b.2.2.2.length),(10,.d (.sl 4 (b.1.map qx))),(11,q7 b.2.1),(12,q7 b.2.2.1)],[(0,.dat 6 (b.2.2.2.map qw))],1⟩) ([],0,0,[]) ai bv (wkA [] [] [0]) ?_
  intro b cy u
  unfold Jc at u
  refine qf<|qb<|U J<|O (.d (G (w64 (b.2.2.1 + 1)))) J<|U J<|Qd J<|O (.d (.bool (decide ((w64 (b.2.2.1 + 1)) < (o.length : Int))))) J<|q9 ?_
  refine qo J u (fun _ u=>?_) (fun _ u=>?_)
  ·refine qn<|qf ?_
   obtain ⟨bw,a,u⟩:=q8 u
   refine Qe (fun x=>.inl x = bw) (fun (x : List qk × Int × List qg)=>⟨[(0,q7 s),(1,.d (.sl 6 (f.map qw))),(2,.d (.sl 6 (g.map qw))),(8,.d (.sl 1 (o.map (eI .i64)))),(9,.hs 0 6 0 x.2.2.length),(10,.d (.sl 4 (x.1.map qx))),(11,q7 x.2.1),(12,q7 b.2.2.1)],[(0,.dat 6 (x.2.2.map qw))],1⟩) qd ?_ ?_
   ·refine qf<|Q7 [q0,q0,q0,q0,q0,q0,q0,q0,q0,q0,q0,q0,q0,q0,q0] qi<|U J<|U J<|U J<|U J ?_
    obtain ⟨aj,bx,a⟩:=q8 a
    refine Q4 (enc:=(eI .i64)) bx J<|O (q7 aj) J ?_
    obtain ⟨ak,bz,a⟩:=q8 a
    refine qz (qb2 f aj ak bz) J<|U J<|U J<|U J ?_
    obtain ⟨al,ca,a⟩:=q8 a
    refine Q4 (enc:=(eI .i64)) ca J<|O (q7 al) J ?_
    obtain ⟨am,cb,a⟩:=q8 a
    refine qz (qb2 g al am cb) J ?_
    obtain ⟨y,cc,a⟩:=q8 a
    refine qz (qec s ak am y cc) J<|qa J<|q9<|qf<|qb<|U J<|Qd J<|O (.d (.bool (decide ((y.length : Int) > 400)))) J ?_
    obtain ⟨cd,h,a⟩:=q8 a
    refine Qa 11 (fun A st=>∃ (an ao ap aq ar au av aw ax ay : V),st = A [(53,qh cd),(52,ay),(51,ax),(50,aw),(49,av),(48,au),(47,ar),(46,aq),(45,ap),(44,ao),(43,an)]) ?_ ?_
    ·refine Qb J J h (fun h=>?_) (fun h=>?_)
     ·refine qc J<|qc J<|qc J<|qc J<|qc J<|qc J<|qc J<|qc J<|qc J<|O (qh true) J<|q9 ?_
      obtain rfl:=qe h
      exact ⟨_,_,_,_,_,_,_,_,_,_,J⟩
     refine U J<|U J<|U J ?_
     obtain ⟨az,ce,h⟩:=q8 h
     refine Q4 (enc:=(eI .i64)) ce J<|O (q7 az) J ?_
     obtain ⟨ba,cf,h⟩:=q8 h
     refine qz (qb2 f az ba cf) J ?_
     obtain ⟨ae,cg,h⟩:=q8 h
     refine qz (q7q (.cons (.refl _) (.cons (.refl _) (.cons (.nil _) .nil))) (qec 2 ba [] ae cg)) J<|Qd J<|O (.d (.bool (decide ((ae.length : Int) > 400)))) J<|O (.d (.bool (decide ((ae.length : Int) > 400)))) J<|q9 ?_
     obtain rfl:=qe h
     exact ⟨_,_,_,_,_,_,_,_,_,_,J⟩
    rintro _ ⟨an,ao,ap,aq,ar,au,av,aw,ax,ay,rfl⟩
    obtain ⟨ch,j,a⟩:=q8 a
    refine Qa 11 (fun A st=>∃ (bb bc bd be bf bg bh bi bj bk : V),st = A [(64,qh ch),(63,bk),(62,bj),(61,bi),(60,bh),(59,bg),(58,bf),(57,be),(56,bd),(55,bc),(54,bb)]) ?_ ?_
    ·refine Qb J J j (fun j=>?_) (fun j=>?_)
     ·refine qc J<|qc J<|qc J<|qc J<|qc J<|qc J<|qc J<|qc J<|qc J<|O (qh true) J<|q9 ?_
      obtain rfl:=qe j
      exact ⟨_,_,_,_,_,_,_,_,_,_,J⟩
     refine U J<|U J<|U J ?_
     obtain ⟨bl,ci,j⟩:=q8 j
     refine Q4 (enc:=(eI .i64)) ci J<|O (q7 bl) J ?_
     obtain ⟨bm,cj,j⟩:=q8 j
     refine qz (qb2 g bl bm cj) J ?_
     obtain ⟨af,ck,j⟩:=q8 j
     refine qz (q7q (.cons (.refl _) (.cons (.refl _) (.cons (.nil _) .nil))) (qec 2 bm [] af ck)) J<|Qd J<|O (.d (.bool (decide ((af.length : Int) > 400)))) J<|O (.d (.bool (decide ((af.length : Int) > 400)))) J<|q9 ?_
     obtain rfl:=qe j
     exact ⟨_,_,_,_,_,_,_,_,_,_,J⟩
    rintro _ ⟨bb,bc,bd,be,bf,bg,bh,bi,bj,bk,rfl⟩
    refine q9 ?_
    refine qo J a (fun _ a=>?_) (fun _ a=>?_)
    ·refine qb<|qa J<|qa J<|qp ?_
     obtain rfl:=qe a
     refine ⟨_,(Option.some.inj u).symm,fun hm=>?_⟩
     subst hm
     obtain rfl:=qe w
     exact finD (.inr J) (v:=.d (.tup [.nilsl,.bool false])) J J (Kz (.cons (.nil _) (.cons (.refl _) .nil)))
    refine qn<|qf<|qb<|U J<|O (.d (.bool (decide (b.2.2.1 > 0)))) J ?_
    obtain ⟨cl,z,a⟩:=q8 a
    refine Qa 5 (fun A st=>∃ (bn bo bp bq : V),st = A [(71,qh cl),(70,bq),(69,bp),(68,bo),(67,bn)]) ?_ ?_
    ·refine Qb J J z (fun z=>?_) (fun z=>?_)
     ·refine U J<|U J ?_
      obtain ⟨br,cm,z⟩:=q8 z
      refine qz (qru y b.1 br cm) J<|O (qh br) J<|q9 ?_
      obtain rfl:=qe z
      exact ⟨_,_,_,_,J⟩
     refine qc J<|qc J<|qc J<|O (qh false) J<|q9 ?_
     obtain rfl:=qe z
     exact ⟨_,_,_,_,J⟩
    rintro _ ⟨bn,bo,bp,bq,rfl⟩
    refine q9 ?_
    refine qo J a (fun _ a=>?_) (fun _ a=>?_)
    ·refine qf<|qb<|U J<|qa J<|q9 ?_
     obtain ⟨bs,cn,a⟩:=q8 a
     refine Qe (fun ad=>ad = bs) (fun (ad : List qg)=>⟨[(0,q7 s),(1,.d (.sl 6 (f.map qw))),(2,.d (.sl 6 (g.map qw))),(8,.d (.sl 1 (o.map (eI .i64)))),(9,.hs 0 6 0 ad.length),(10,.d (.sl 4 (b.1.map qx))),(11,q7 b.2.1),(12,q7 b.2.2.1)],[(0,.dat 6 (ad.map qw))],1⟩) qd ?_ ?_
     ·refine Q8 (q36 o b) (fun (p : Int × List qg)=>⟨[(0,q7 s),(1,.d (.sl 6 (f.map qw))),(2,.d (.sl 6 (g.map qw))),(8,.d (.sl 1 (o.map (eI .i64)))),(9,.hs 0 6 0 p.2.length),(10,.d (.sl 4 (b.1.map qx))),(11,q7 b.2.1),(12,q7 b.2.2.1),(14,q7 p.1)],[(0,.dat 6 (p.2.map qw))],1⟩) (b.2.1,b.2.2.2) bs cn (wkA [(0,0)] [] []) ?_
      intro p cz q
      unfold q36 at q
      refine qf<|qb<|U J<|U J<|O (q7 (p.2.length : Int)) J<|O (.d (.bool (decide (p.1 < (p.2.length : Int))))) J<|q9 ?_
      refine qo J q (fun _ q=>?_) (fun _ q=>?_)
      ·refine qn<|qf<|Q0<|qu<|U J<|U J<|U J<|U J<|O (.d (G (w64 (b.2.2.1 + 1)))) J ?_
       obtain ⟨ag,co,q⟩:=q8 q
       refine Q4 (enc:=(eI .i64)) co J<|O (q7 ag) J ?_
       obtain ⟨ah,bt,q⟩:=q8 q
       refine qr bt J J<|O (.ref 0 6 p.1.toNat 3) J<|O (.ref 0 6 p.1.toNat 5) J<|Qt (ds:=[G ag]) ({Lo:=ah.Lo,Hi:=({X:=ah.Hi.X,Y:=ah.Hi.Y,Z:=ag} : qv)} : qg) bt J J J J J J J J (leb J) J<|qs<|Qc<|qu<|U J<|O (.d (G (w64 (p.1 + 1)))) J<|qa J<|qs ?_
       exact ⟨_,(Option.some.inj q).symm,wkE [(0,0)] [] [] J ⟨ql J,ql J,ql J,ql J,⟨_,J,Qx qd J qy (ltd J)⟩,ql J,ql J,ql J,ql J,trivial⟩ ⟨Qm J J,trivial⟩⟩
      refine Q3 ?_
      refine ⟨_,(Option.some.inj q).symm,fun hm=>?_⟩
      subst hm
      exact ⟨_,J,wkA [(0,0)] [] []⟩
     intro ad hb
     subst hb
     refine Q3 ?_
     obtain rfl:=qe a
     exact ⟨_,J,wkA [(0,0)] [] []⟩
    refine qn<|qb<|U J<|O (q7 (b.2.2.2.length : Int)) J<|U J<|qa J<|qa J<|qt<|qa J<|q9 ?_
    obtain ⟨cp,cq,a⟩:=q8 a
    refine Q0<|Q8 (q4u y o b) (fun (aa : Int × List qg)=>⟨[(0,q7 s),(1,.d (.sl 6 (f.map qw))),(2,.d (.sl 6 (g.map qw))),(8,.d (.sl 1 (o.map (eI .i64)))),(9,.hs 0 6 0 aa.2.length),(10,.d (.sl 4 (y.map qx))),(11,q7 (b.2.2.2.length : Int)),(12,q7 b.2.2.1),(13,.d (.sl 4 (y.map qx))),(15,q7 aa.1)],[(0,.dat 6 (aa.2.map qw))],1⟩) (0,b.2.2.2) cp cq (wkA [(0,0)] [] []) ?_
    intro aa da c
    unfold q4u at c
    refine qf<|qb<|U J<|U J<|Qd J<|O (.d (.bool (decide (aa.1 < (y.length : Int))))) J<|q9 ?_
    refine qo J c (fun _ c=>?_) (fun _ c=>?_)
    ·refine qn<|qf<|Q0<|Q7 [q0,(some [0,1],[0,2]),(some [],[1]),q0,q0,q0,q0,q0,q0,q0,q0,q0,q0,q0,q0,q0,q0,q0,q0,q0,q0,q0,q0,q0,q0,q0,q0,q0,q0,q0,q0,q0,q0,q0,q0,q0] qi<|U J<|U J<|U J ?_
     obtain ⟨k,cr,c⟩:=q8 c
     refine Q4 (enc:=qx) cr J<|O (.dref [G k.X0,G k.Y0,G k.X1,G k.Y1] 0) J<|O (q7 k.X0) J<|U J<|U J ?_
     obtain ⟨l,cs,c⟩:=q8 c
     refine Q4 (enc:=qx) cs J<|O (.dref [G l.X0,G l.Y0,G l.X1,G l.Y1] 1) J<|O (q7 l.Y0) J<|U J<|U J ?_
     obtain ⟨ab,ct,c⟩:=q8 c
     refine Q4 (enc:=(eI .i64)) ct J<|O (q7 ab) J<|O (.d (.agg [G k.X0,G l.Y0,G ab])) J<|U J<|U J ?_
     obtain ⟨m,cu,c⟩:=q8 c
     refine Q4 (enc:=qx) cu J<|O (.dref [G m.X0,G m.Y0,G m.X1,G m.Y1] 2) J<|O (q7 m.X1) J<|U J<|U J ?_
     obtain ⟨n,cv,c⟩:=q8 c
     refine Q4 (enc:=qx) cv J<|O (.dref [G n.X0,G n.Y0,G n.X1,G n.Y1] 3) J<|O (q7 n.Y1) J<|U J<|U J<|O (.d (G (w64 (b.2.2.1 + 1)))) J ?_
     obtain ⟨ac,cw,c⟩:=q8 c
     refine Q4 (enc:=(eI .i64)) cw J<|O (q7 ac) J<|O (.d (.agg [G m.X1,G n.Y1,G ac])) J<|O (.d (.agg [G k.X0,G l.Y0,G ab,G m.X1,G n.Y1,G ac])) J<|Qn (.hs 1 6 0 [({Lo:=({X:=k.X0,Y:=l.Y0,Z:=ab} : qv),Hi:=({X:=m.X1,Y:=n.Y1,Z:=ac} : qv)} : qg)].length) (.dat 6 ([({Lo:=({X:=k.X0,Y:=l.Y0,Z:=ab} : qv),Hi:=({X:=m.X1,Y:=n.Y1,Z:=ac} : qv)} : qg)].map qw)) J ?_
     obtain ⟨dc,cx,c⟩:=q8 c
     refine Kw (xs:=aa.2) (ys:=[({Lo:=({X:=k.X0,Y:=l.Y0,Z:=ab} : qv),Hi:=({X:=m.X1,Y:=n.Y1,Z:=ac} : qv)} : qg)]) (enc:=qw) (.hs 1 6 0 [({Lo:=({X:=k.X0,Y:=l.Y0,Z:=ab} : qv),Hi:=({X:=m.X1,Y:=n.Y1,Z:=ac} : qv)} : qg)].length) cx J J J J J J J (Ku J J) J J J J<|qa J<|qs<|Qc<|qu<|U J<|O (.d (G (w64 (aa.1 + 1)))) J<|qa J<|qs ?_
     exact ⟨_,(Option.some.inj c).symm,wkA [(0,2)] [] []⟩
    refine Q3 ?_
    refine ⟨_,(Option.some.inj c).symm,fun hm=>?_⟩
    subst hm
    obtain rfl:=qe a
    exact ⟨_,J,wkA [(0,0)] [] []⟩
   intro x hb
   subst hb
   refine qu<|U J<|O (.d (G (w64 (b.2.2.1 + 1)))) J<|qa J<|qs ?_
   exact ⟨_,(Option.some.inj u).symm,wkA [(0,0)] [] []⟩
  refine Q3 ?_
  refine ⟨_,(Option.some.inj u).symm,fun hm=>?_⟩
  subst hm
  exact ⟨_,J,wkA [(0,0)] [] []⟩
 intro t hb
 subst hb
 refine qb<|U J<|U J<|O (q7 (t.length : Int)) J<|O (.d (.bool (decide ((t.length : Int)≤400)))) J<|qa J<|qa J<|qp ?_
 obtain rfl:=qe w
 exact finD (.inr J) (v:=.tup [.hs 0 6 0 t.length,.d (.bool (decide ((t.length : Int)≤400)))]) J (q9o (Y2 (Za J J) (Y2 J J))) (.refl _)
theorem qee (g : List qg) (h : List qg) (r : Bool) (f : q4v g h = some r) : Pure Tryz.prog tab 16 [.sl 6 (g.map qw),.sl 6 (h.map qw)] (.bool r):=by
 unfold q4v at f
 refine Qg Tryz.func16 J qi qi J<|qb<|qa J<|q9<|qf<|qb<|U J<|Qd J<|U J<|Qd J<|O (.d (.bool ((g.length : Int) != (h.length : Int)))) J<|q9 ?_
 refine qo J f (fun _ f=>?_) (fun _ f=>?_)
 ·refine qb<|qa J<|qp ?_
  obtain rfl:=qe f
  exact Q1 (qh false) J
 refine qn<|qf<|qb<|qa J<|q9 ?_
 obtain ⟨l,m,f⟩:=q8 f
 refine Qe (fun k=>.inl k = l) (fun (k : Unit)=>⟨[],[],0⟩) qd ?_ ?_
 ·refine Q8 (qb4 g h) (fun (j : Int)=>⟨[(0,.d (.sl 6 (g.map qw))),(1,.d (.sl 6 (h.map qw))),(5,q7 j)],[],0⟩) 0 l m (wkA [] [] []) ?_
  intro j p a
  unfold qb4 at a
  refine qf<|qb<|U J<|U J<|Qd J<|O (.d (.bool (decide (j < (g.length : Int))))) J<|q9 ?_
  refine qo J a (fun _ a=>?_) (fun _ a=>?_)
  ·refine qn<|qf<|Q0<|qf<|Q7 [q0,q0,q0,q0,q0,q0,q0,q0,q0] qi<|U J<|U J ?_
   obtain ⟨b,n,a⟩:=q8 a
   refine Q4 (enc:=qw) n J<|O (.d (.agg [G b.Lo.X,G b.Lo.Y,G b.Lo.Z,G b.Hi.X,G b.Hi.Y,G b.Hi.Z])) J<|U J<|U J ?_
   obtain ⟨c,o,a⟩:=q8 a
   refine Q4 (enc:=qw) o J<|O (.d (.agg [G c.Lo.X,G c.Lo.Y,G c.Lo.Z,G c.Hi.X,G c.Hi.Y,G c.Hi.Z])) J<|O (.d (.bool (!((b.Lo.X == c.Lo.X) && ((b.Lo.Y == c.Lo.Y) && ((b.Lo.Z == c.Lo.Z) && ((b.Hi.X == c.Hi.X) && ((b.Hi.Y == c.Hi.Y) && ((b.Hi.Z == c.Hi.Z) && true))))))))) J<|q9 ?_
   refine qo J a (fun _ a=>?_) (fun _ a=>?_)
   ·refine qb<|qa J<|qp ?_
    refine ⟨_,(Option.some.inj a).symm,fun hm=>?_⟩
    subst hm
    obtain rfl:=qe f
    exact Q1 (qh false) J
   refine qn<|Q9<|Qc<|qu<|U J<|O (.d (G (w64 (j + 1)))) J<|qa J<|qs ?_
   exact ⟨_,(Option.some.inj a).symm,wkA [] [] []⟩
  refine Q3 ?_
  refine ⟨_,(Option.some.inj a).symm,fun hm=>?_⟩
  subst hm
  exact ⟨_,J,wkA [] [] []⟩
 intro k hb
 subst hb
 refine qb<|qa J<|qp ?_
 obtain rfl:=qe f
 exact Q1 (qh true) J
theorem qb3 (c : List qg) (r : Int) (a : q1v c = some r) : Pure Tryz.prog tab 33 [.sl 6 (c.map qw)] (G r):=by
 unfold q1v at a
 refine Qg Tryz.func33 J qi qi J<|qb<|qa J<|q9<|qf<|qb<|U J<|Qd J<|O (.d (.bool (decide ((c.length : Int) > 400)))) J<|q9 ?_
 refine qo J a (fun _ a=>?_) (fun _ a=>?_)
 ·refine qb<|qa J<|qp ?_
  obtain rfl:=qe a
  exact Q1 (q7 4) J
 refine qn<|qf<|qb<|qa J<|q9 ?_
 obtain ⟨m,u,a⟩:=q8 a
 refine Qe (fun k=>.inl k = m) (fun (k : Unit)=>⟨[(0,.d (.sl 6 (c.map qw)))],[],0⟩) qd ?_ ?_
 ·refine Q8 (q4t c) (fun (j : Int)=>⟨[(0,.d (.sl 6 (c.map qw))),(3,q7 j)],[],0⟩) 0 m u (wkA [] [] []) ?_
  intro j aa b
  unfold q4t at b
  refine qf<|qb<|U J<|U J<|Qd J<|O (.d (.bool (decide (j < (c.length : Int))))) J<|q9 ?_
  refine qo J b (fun _ b=>?_) (fun _ b=>?_)
  ·refine qn<|qf<|Q0<|qb<|U J<|U J ?_
   obtain ⟨f,v,b⟩:=q8 b
   refine Q4 (enc:=qw) v J<|O (.d (.agg [G f.Lo.X,G f.Lo.Y,G f.Lo.Z,G f.Hi.X,G f.Hi.Y,G f.Hi.Z])) J ?_
   obtain ⟨n,w,b⟩:=q8 b
   refine qz (qef f n w) J<|O (qh (!n)) J<|q9 ?_
   refine qo J b (fun _ b=>?_) (fun _ b=>?_)
   ·refine qb<|qa J<|qp ?_
    refine ⟨_,(Option.some.inj b).symm,fun hm=>?_⟩
    subst hm
    obtain rfl:=qe a
    exact Q1 (q7 8) J
   refine qn<|Q9<|Qc<|qu<|U J<|O (.d (G (w64 (j + 1)))) J<|qa J<|qs ?_
   exact ⟨_,(Option.some.inj b).symm,wkA [] [] []⟩
  refine Q3 ?_
  refine ⟨_,(Option.some.inj b).symm,fun hm=>?_⟩
  subst hm
  exact ⟨_,J,wkA [] [] []⟩
 intro k hb
 subst hb
 refine qb<|U J ?_
 obtain ⟨h,x,a⟩:=q8 a
 refine qz (q7q (.cons (.refl _) (.cons (.refl _) (.cons (.nil _) .nil))) (qjh 2 c [] h x)) J<|U J<|O (.d (.sl 6 (h.1.map qw))) J<|O (qh h.2) J<|qa J<|qa J<|q9<|qf<|qb<|U J<|O (qh (!h.2)) J ?_
 obtain ⟨y,g,a⟩:=q8 a
 refine Qa 6 (fun A st=>∃ (o p q s t : V),st = A [(33,qh y),(32,t),(31,s),(30,q),(29,p),(28,o)]) ?_ ?_
 ·refine Qb J J g (fun g=>?_) (fun g=>?_)
  ·refine qc J<|qc J<|qc J<|qc J<|O (qh true) J<|q9 ?_
   obtain rfl:=qe g
   exact ⟨_,_,_,_,_,J⟩
  refine U J<|U J ?_
  obtain ⟨l,z,g⟩:=q8 g
  refine qz (qee h.1 c l z) J<|O (qh (!l)) J<|O (qh (!l)) J<|q9 ?_
  obtain rfl:=qe g
  exact ⟨_,_,_,_,_,J⟩
 rintro _ ⟨o,p,q,s,t,rfl⟩
 refine q9 ?_
 refine qo J a (fun _ a=>?_) (fun _ a=>?_)
 ·refine qb<|qa J<|qp ?_
  obtain rfl:=qe a
  exact Q1 (q7 8) J
 refine qn<|qb<|qa J<|qp ?_
 obtain rfl:=qe a
 exact Q1 (q7 0) J
theorem qs7 (a : Qv) (b : List (List qg)) (r : List qg) (c : qb5 a b = some r) : Pure Tryz.prog tab 30 [.agg [G a.From.X,G a.From.Y,G a.From.Z,G a.To.X,G a.To.Y,G a.To.Z,G a.Depth],.sl 1 (b.map Ql)] (.sl 6 (r.map qw)):=by
 unfold qb5 at c
 refine Qg Tryz.func30 J qi qi J<|qb<|Qn (.ref 0 7 0 0) (.dat 7 [[G a.From.X,G a.From.Y,G a.From.Z,G a.To.X,G a.To.Y,G a.To.Z,G a.Depth]]) J<|qa J<|qt<|U J<|O (.ref 0 7 0 6) J<|O (q7 a.Depth) J<|U J<|Qd J<|O (.d (G (w64 ((b.length : Int) - 1)))) J<|Uy (r:=min a.Depth (w64 ((b.length : Int) - 1))) J J (by simp only [Uv];rfl) ?_
 obtain ⟨f,g,c⟩:=q8 c
 refine Q4 (enc:=Ql) g J<|O (.d (.sl 6 (f.map qw))) J<|qa J<|qp ?_
 obtain rfl:=qe c
 exact Q1 (.d (.sl 6 (f.map qw))) J
theorem qed (a : qv) (b : qv) (r : qv) (c : q33 a b = some r) : Pure Tryz.prog tab 31 [.agg [G a.X,G a.Y,G a.Z],.agg [G b.X,G b.Y,G b.Z]] (.agg [G r.X,G r.Y,G r.Z]):=by
 unfold q33 at c
 refine Qg Tryz.func31 J qi qi J<|qb<|Qn (.ref 0 3 0 0) (.dat 3 [[G a.X,G a.Y,G a.Z]]) J<|Qn (.ref 1 3 0 0) (.dat 3 [[G b.X,G b.Y,G b.Z]]) J<|K2 J J<|qt<|O (.ref 0 3 0 0) J<|O (q7 a.X) J<|O (.ref 1 3 0 0) J<|O (q7 b.X) J<|O (.d (G (w64 (a.X + b.X)))) J<|O (.ref 0 3 0 1) J<|O (q7 a.Y) J<|O (.ref 1 3 0 1) J<|O (q7 b.Y) J<|O (.d (G (w64 (a.Y + b.Y)))) J<|O (.ref 0 3 0 2) J<|O (q7 a.Z) J<|O (.ref 1 3 0 2) J<|O (q7 b.Z) J<|O (.d (G (w64 (a.Z + b.Z)))) J<|O (.d (.agg [G (w64 (a.X + b.X)),G (w64 (a.Y + b.Y)),G (w64 (a.Z + b.Z))])) J<|Qp 2 (.dat 3 [[G (w64 (a.X + b.X)),G (w64 (a.Y + b.Y)),G (w64 (a.Z + b.Z))]]) J<|qp ?_
 obtain rfl:=qe c
 exact Q1 (.d (.agg [G (w64 (a.X + b.X)),G (w64 (a.Y + b.Y)),G (w64 (a.Z + b.Z))])) J
theorem qeg (a : qg) (b : qv) (r : qg) (g : q38 a b = some r) : Pure Tryz.prog tab 68 [.agg [G a.Lo.X,G a.Lo.Y,G a.Lo.Z,G a.Hi.X,G a.Hi.Y,G a.Hi.Z],.agg [G b.X,G b.Y,G b.Z]] (.agg [G r.Lo.X,G r.Lo.Y,G r.Lo.Z,G r.Hi.X,G r.Hi.Y,G r.Hi.Z]):=by
 unfold q38 at g
 refine Qg Tryz.func68 J qi qi J<|qb<|Qn (.ref 0 6 0 0) (.dat 6 [[G a.Lo.X,G a.Lo.Y,G a.Lo.Z,G a.Hi.X,G a.Hi.Y,G a.Hi.Z]]) J<|Qn (.ref 1 3 0 0) (.dat 3 [[G b.X,G b.Y,G b.Z]]) J<|K2 J J<|q9<|qf<|Q7 [Qk 2,q0,q0,qq 1,qq 0,q0,q0,qq 1,qq 0,q0] qi<|O (.ref 0 6 0 0) J<|O (.d (.agg [G a.Lo.X,G a.Lo.Y,G a.Lo.Z])) J<|O (.d (.agg [G b.X,G b.Y,G b.Z])) J ?_
 obtain ⟨c,h,g⟩:=q8 g
 refine qz (qed a.Lo b c h) J<|O (.ref 0 6 0 3) J<|O (.d (.agg [G a.Hi.X,G a.Hi.Y,G a.Hi.Z])) J<|O (.d (.agg [G b.X,G b.Y,G b.Z])) J ?_
 obtain ⟨f,j,g⟩:=q8 g
 refine qz (qed a.Hi b f j) J<|O (.d (.agg [G c.X,G c.Y,G c.Z,G f.X,G f.Y,G f.Z])) J<|Qp 2 (.dat 6 [[G c.X,G c.Y,G c.Z,G f.X,G f.Y,G f.Z]]) J<|qp ?_
 obtain rfl:=qe g
 exact Q1 (.d (.agg [G c.X,G c.Y,G c.Z,G f.X,G f.Y,G f.Z])) J
theorem qeh (b : Int) (r : Int) (a : q3b b = some r) : Pure Tryz.prog tab 54 [G b] (G r):=by
 unfold q3b at a
 refine Qg Tryz.func54 J qi qi J<|qb<|qa J<|q9<|qf<|qb<|U J<|O (.d (.bool (decide (b < 0)))) J<|q9 ?_
 refine qo J a (fun _ a=>?_) (fun _ a=>?_)
 ·refine qb<|qa J<|qp ?_
  obtain rfl:=qe a
  exact Q1 (q7 (-1)) J
 refine qn<|qf<|qb<|U J<|O (.d (.bool (decide (b > 0)))) J<|q9 ?_
 refine qo J a (fun _ a=>?_) (fun _ a=>?_)
 ·refine qb<|qa J<|qp ?_
  obtain rfl:=qe a
  exact Q1 (q7 1) J
 refine qn<|qb<|qa J<|qp ?_
 obtain rfl:=qe a
 exact Q1 (q7 0) J
theorem qs9 (a : Qv) (r : List qv) (f : q81 a = some r) : Pure Tryz.prog tab 28 [.agg [G a.From.X,G a.From.Y,G a.From.Z,G a.To.X,G a.To.Y,G a.To.Z,G a.Depth]] (.sl 3 (r.map Jg)):=by
 unfold q81 at f
 refine Qg Tryz.func28 J qi qi J<|qb<|Qn (.ref 0 7 0 0) (.dat 7 [[G a.From.X,G a.From.Y,G a.From.Z,G a.To.X,G a.To.Y,G a.To.Z,G a.Depth]]) J<|qa J<|q9<|qf<|Q7 [Qk 1,(some [],[1]),q0,q0,q0,qq 0,q0,q0,qq 0,q0,q0,q0,q0,qq 0,q0,q0,qq 0,q0,q0,q0,q0,qq 0,q0,q0,qq 0,q0,q0] qi<|O (.ref 0 7 0 3) J<|O (.ref 0 7 0 3) J<|O (q7 a.To.X) J<|O (.ref 0 7 0 0) J<|O (.ref 0 7 0 0) J<|O (q7 a.From.X) J<|O (.d (G (w64 (a.To.X - a.From.X)))) J ?_
 obtain ⟨h,n,f⟩:=q8 f
 refine qz (qeh (w64 (a.To.X - a.From.X)) h n) J<|O (.ref 0 7 0 3) J<|O (.ref 0 7 0 4) J<|O (q7 a.To.Y) J<|O (.ref 0 7 0 0) J<|O (.ref 0 7 0 1) J<|O (q7 a.From.Y) J<|O (.d (G (w64 (a.To.Y - a.From.Y)))) J ?_
 obtain ⟨j,o,f⟩:=q8 f
 refine qz (qeh (w64 (a.To.Y - a.From.Y)) j o) J<|O (.ref 0 7 0 3) J<|O (.ref 0 7 0 5) J<|O (q7 a.To.Z) J<|O (.ref 0 7 0 0) J<|O (.ref 0 7 0 2) J<|O (q7 a.From.Z) J<|O (.d (G (w64 (a.To.Z - a.From.Z)))) J ?_
 obtain ⟨k,p,f⟩:=q8 f
 refine qz (qeh (w64 (a.To.Z - a.From.Z)) k p) J<|O (.d (.agg [G h,G j,G k])) J<|K2 J J<|Qp 1 (.dat 3 [[G h,G j,G k]]) J<|qt<|O (.ref 0 7 0 0) J<|O (.d (.agg [G a.From.X,G a.From.Y,G a.From.Z])) J<|Qn (.hs 2 3 0 [a.From].length) (.dat 3 ([a.From].map Jg)) J<|qa J<|q9<|qf<|qb<|O (.ref 0 7 0 0) J<|O (.d (.agg [G a.From.X,G a.From.Y,G a.From.Z])) J<|K2 J J<|Qp 3 (.dat 3 [[G a.From.X,G a.From.Y,G a.From.Z]]) J<|q9 ?_
 obtain ⟨m,q,f⟩:=q8 f
 refine Qe (fun l=>l = m) (fun (l : List qv)=>⟨[(4,.hs 0 3 0 l.length)],[(0,.dat 3 (l.map Jg))],1⟩) qd ?_ ?_
 ·refine Q8 (q52 a h j k) (fun (b : List qv × Int × Int × Int)=>⟨[(1,.ref 0 7 0 0),(3,.ref 1 3 0 0),(4,.hs 2 3 0 b.1.length),(5,.ref 3 3 0 0)],[(0,.dat 7 [[G a.From.X,G a.From.Y,G a.From.Z,G a.To.X,G a.To.Y,G a.To.Z,G a.Depth]]),(1,.dat 3 [[G h,G j,G k]]),(2,.dat 3 (b.1.map Jg)),(3,.dat 3 [[G b.2.1,G b.2.2.1,G b.2.2.2]])],4⟩) ([a.From],a.From.X,a.From.Y,a.From.Z) m q (wkA [(0,0),(1,1),(2,2),(3,3)] [] []) ?_
  intro b u g
  unfold q52 at g
  refine qf<|qb<|O (.d (.agg [G b.2.1,G b.2.2.1,G b.2.2.2])) J<|O (.ref 0 7 0 3) J<|O (.d (.agg [G a.To.X,G a.To.Y,G a.To.Z])) J<|O (.d (.bool (!((b.2.1 == a.To.X) && ((b.2.2.1 == a.To.Y) && ((b.2.2.2 == a.To.Z) && true)))))) J<|q9 ?_
  refine qo J g (fun _ g=>?_) (fun _ g=>?_)
  ·refine qn<|qf<|Q0<|qb<|O (.d (.agg [G b.2.1,G b.2.2.1,G b.2.2.2])) J<|O (.d (.agg [G h,G j,G k])) J ?_
   obtain ⟨c,s,g⟩:=q8 g
   refine qz (qed ({X:=b.2.1,Y:=b.2.2.1,Z:=b.2.2.2} : qv) ({X:=h,Y:=j,Z:=k} : qv) c s) J<|Qp 3 (.dat 3 [[G c.X,G c.Y,G c.Z]]) J<|q9<|qu<|U J<|O (.d (.agg [G c.X,G c.Y,G c.Z])) J<|Qn (.hs 4 3 0 [c].length) (.dat 3 ([c].map Jg)) J ?_
   obtain ⟨w,t,g⟩:=q8 g
   refine Kw (xs:=b.1) (ys:=[c]) (enc:=Jg) (.hs 4 3 0 [c].length) t J J J J J J J (Ku J J) J J J J<|qa J<|qs<|Qc<|qb<|O (.d (.agg [G c.X,G c.Y,G c.Z])) J<|q9<|qu<|K2 J J<|Qp 6 (.dat 3 [[G c.X,G c.Y,G c.Z]]) J<|qs ?_
   exact ⟨_,(Option.some.inj g).symm,wkA [(0,0),(1,1),(2,5),(3,6)] [] []⟩
  refine Q3 ?_
  refine ⟨_,(Option.some.inj g).symm,fun hm=>?_⟩
  subst hm
  exact ⟨_,J,wkA [(0,2)] [] []⟩
 intro l hb
 subst hb
 refine qb<|U J<|qa J<|qp ?_
 obtain rfl:=qe f
 exact finD (.inr J) (v:=.hs 0 3 0 l.length) J (Za J J) (.refl _)
theorem qjl (a : Qv) (f : List qg) (r : List qg × Int) (g : q54 a f = some r) : Pure Tryz.prog tab 42 [.agg [G a.From.X,G a.From.Y,G a.From.Z,G a.To.X,G a.To.Y,G a.To.Z,G a.Depth],.sl 6 (f.map qw)] (.tup [.sl 6 (r.1.map qw),G r.2]):=by
 unfold q54 at g
 refine Qg Tryz.func42 J qi qi J<|qb<|Qn (.ref 0 7 0 0) (.dat 7 [[G a.From.X,G a.From.Y,G a.From.Z,G a.To.X,G a.To.Y,G a.To.Z,G a.Depth]]) J<|qa J<|qa J<|q9<|qf<|qb<|qa J<|q9 ?_
 obtain ⟨aa,aq,g⟩:=q8 g
 refine Qe (fun x=>.inl x = aa) (fun (x : Unit)=>⟨[(1,.d (.sl 6 (f.map qw))),(2,.ref 0 7 0 0)],[(0,.dat 7 [[G a.From.X,G a.From.Y,G a.From.Z,G a.To.X,G a.To.Y,G a.To.Z,G a.Depth]])],1⟩) qd ?_ ?_
 ·refine Q8 (q55 f a) (fun (u : Int)=>⟨[(1,.d (.sl 6 (f.map qw))),(2,.ref 0 7 0 0),(6,q7 u)],[(0,.dat 7 [[G a.From.X,G a.From.Y,G a.From.Z,G a.To.X,G a.To.Y,G a.To.Z,G a.Depth]])],1⟩) 0 aa aq (wkA [(0,0)] [] []) ?_
  intro u bi b
  unfold q55 at b
  refine qf<|qb<|U J<|U J<|Qd J<|O (.d (.bool (decide (u < (f.length : Int))))) J<|q9 ?_
  refine qo J b (fun _ b=>?_) (fun _ b=>?_)
  ·refine qn<|qf<|Q0<|qf<|Q7 [q0,q0,q0,q0,qq 0,q0,q0,q0,q0,q0,q0,q0,q0,q0,qq 0,q0,q0,q0,q0,q0] qi<|U J<|U J ?_
   obtain ⟨m,ar,b⟩:=q8 b
   refine Q4 (enc:=qw) ar J<|O (.d (.agg [G m.Lo.X,G m.Lo.Y,G m.Lo.Z,G m.Hi.X,G m.Hi.Y,G m.Hi.Z])) J<|O (.ref 0 7 0 0) J<|O (.d (.agg [G a.From.X,G a.From.Y,G a.From.Z])) J ?_
   obtain ⟨ab,au,b⟩:=q8 b
   refine qz (qeg m a.From ab au) J ?_
   obtain ⟨ac,av,b⟩:=q8 b
   refine qz (qef ab ac av) J<|O (qh (!ac)) J ?_
   obtain ⟨aw,j,b⟩:=q8 b
   refine Qa 11 (fun A st=>∃ (ad ae af ag ah ai aj ak al am : V),st = A [(37,qh aw),(36,am),(35,al),(34,ak),(33,aj),(32,ai),(31,ah),(30,ag),(29,af),(28,ae),(27,ad)]) ?_ ?_
   ·refine Qb J J j (fun j=>?_) (fun j=>?_)
    ·refine qc J<|qc J<|qc J<|qc J<|qc J<|qc J<|qc J<|qc J<|qc J<|O (qh true) J<|q9 ?_
     obtain rfl:=qe j
     exact ⟨_,_,_,_,_,_,_,_,_,_,J⟩
    refine U J<|U J ?_
    obtain ⟨n,ax,j⟩:=q8 j
    refine Q4 (enc:=qw) ax J<|O (.d (.agg [G n.Lo.X,G n.Lo.Y,G n.Lo.Z,G n.Hi.X,G n.Hi.Y,G n.Hi.Z])) J<|O (.ref 0 7 0 3) J<|O (.d (.agg [G a.To.X,G a.To.Y,G a.To.Z])) J ?_
    obtain ⟨an,ay,j⟩:=q8 j
    refine qz (qeg n a.To an ay) J ?_
    obtain ⟨y,az,j⟩:=q8 j
    refine qz (qef an y az) J<|O (qh (!y)) J<|O (qh (!y)) J<|q9 ?_
    obtain rfl:=qe j
    exact ⟨_,_,_,_,_,_,_,_,_,_,J⟩
   rintro _ ⟨ad,ae,af,ag,ah,ai,aj,ak,al,am,rfl⟩
   refine q9 ?_
   refine qo J b (fun _ b=>?_) (fun _ b=>?_)
   ·refine qb<|qa J<|qa J<|qp ?_
    refine ⟨_,(Option.some.inj b).symm,fun hm=>?_⟩
    subst hm
    obtain rfl:=qe g
    exact finD (.inr J) (v:=.d (.tup [.nilsl,G 16])) J J (Kz (.cons (.nil _) (.cons (.refl _) .nil)))
   refine qn<|Q9<|Qc<|qu<|U J<|O (.d (G (w64 (u + 1)))) J<|qa J<|qs ?_
   exact ⟨_,(Option.some.inj b).symm,wkA [(0,0)] [] []⟩
  refine Q3 ?_
  refine ⟨_,(Option.some.inj b).symm,fun hm=>?_⟩
  subst hm
  exact ⟨_,J,wkA [(0,0)] [] []⟩
 intro x hb
 subst hb
 refine qb<|qa J<|qt<|O (.d (.agg [G a.From.X,G a.From.Y,G a.From.Z,G a.To.X,G a.To.Y,G a.To.Z,G a.Depth])) J ?_
 obtain ⟨l,ba,g⟩:=q8 g
 refine qz (qs9 a l ba) J<|qa J<|q9<|qf<|qb<|qa J<|q9 ?_
 obtain ⟨ao,bb,g⟩:=q8 g
 refine Qe (fun s=>s = ao) (fun (s : List qg)=>⟨[(7,.d (.sl 6 (s.map qw)))],[],0⟩) qd ?_ ?_
 ·refine Q8 (q39 l f) (fun (h : List qg × Int)=>⟨[(1,.d (.sl 6 (f.map qw))),(7,.d (.sl 6 (h.1.map qw))),(8,.d (.sl 3 (l.map Jg))),(9,q7 h.2)],[],0⟩) ([],0) ao bb (wkA [] [] []) ?_
  intro h bj k
  unfold q39 at k
  refine qf<|qb<|U J<|U J<|Qd J<|O (.d (.bool (decide (h.2 < (l.length : Int))))) J<|q9 ?_
  refine qo J k (fun _ k=>?_) (fun _ k=>?_)
  ·refine qn<|qf<|Q0<|qb<|qa J<|q9<|qf<|qb<|qa J<|q9 ?_
   obtain ⟨ap,bc,k⟩:=q8 k
   refine Qe (fun o=>o = ap) (fun (o : List qg)=>⟨[(1,.d (.sl 6 (f.map qw))),(7,.d (.sl 6 (h.1.map qw))),(8,.d (.sl 3 (l.map Jg))),(9,q7 h.2),(10,.hs 0 6 0 o.length)],[(0,.dat 6 (o.map qw))],1⟩) qd ?_ ?_
   ·refine Q8 (q3a f l h) (fun (p : Int × List qg)=>⟨[(1,.d (.sl 6 (f.map qw))),(7,.d (.sl 6 (h.1.map qw))),(8,.d (.sl 3 (l.map Jg))),(9,q7 h.2),(10,.hs 0 6 0 p.2.length),(11,q7 p.1)],[(0,.dat 6 (p.2.map qw))],1⟩) (0,[]) ap bc (wkA [] [] [0]) ?_
    intro p bk c
    unfold q3a at c
    refine qf<|qb<|U J<|U J<|Qd J<|O (.d (.bool (decide (p.1 < (f.length : Int))))) J<|q9 ?_
    refine qo J c (fun _ c=>?_) (fun _ c=>?_)
    ·refine qn<|qf<|Q0<|Q7 [q0,(some [0,1],[0,2]),(some [],[1]),q0,q0,q0,q0,q0,q0,q0,q0,q0,q0] qi<|U J<|U J<|U J ?_
     obtain ⟨q,bd,c⟩:=q8 c
     refine Q4 (enc:=qw) bd J<|O (.d (.agg [G q.Lo.X,G q.Lo.Y,G q.Lo.Z,G q.Hi.X,G q.Hi.Y,G q.Hi.Z])) J<|U J<|U J ?_
     obtain ⟨w,be,c⟩:=q8 c
     refine Q4 (enc:=Jg) be J<|O (.d (.agg [G w.X,G w.Y,G w.Z])) J ?_
     obtain ⟨t,bf,c⟩:=q8 c
     refine qz (qeg q w t bf) J<|Qn (.hs 1 6 0 [t].length) (.dat 6 ([t].map qw)) J ?_
     obtain ⟨bl,bg,c⟩:=q8 c
     refine Kw (xs:=p.2) (ys:=[t]) (enc:=qw) (.hs 1 6 0 [t].length) bg J J J J J J J (Ku J J) J J J J<|qa J<|qs<|Qc<|qu<|U J<|O (.d (G (w64 (p.1 + 1)))) J<|qa J<|qs ?_
     exact ⟨_,(Option.some.inj c).symm,wkA [(0,2)] [] []⟩
    refine Q3 ?_
    refine ⟨_,(Option.some.inj c).symm,fun hm=>?_⟩
    subst hm
    exact ⟨_,J,wkA [(0,0)] [] []⟩
   intro o hb
   subst hb
   refine Yn (st':=⟨[(1,.d (.sl 6 (f.map qw))),(7,.d (.sl 6 (h.1.map qw))),(8,.d (.sl 3 (l.map Jg))),(9,q7 h.2),(10,.d (.sl 6 (o.map qw)))],[],0⟩) (wkA [] [0] []) ?_ qd
   refine qu<|U J<|U J ?_
   obtain ⟨z,bh,k⟩:=q8 k
   refine qz (qjh 2 h.1 o z bh) J<|U J<|O (.d (.sl 6 (z.1.map qw))) J<|O (qh z.2) J<|qa J<|qs<|Qc<|qu<|U J<|O (.d (G (w64 (h.2 + 1)))) J<|qa J<|qs ?_
   exact ⟨_,(Option.some.inj k).symm,wkA [] [] []⟩
  refine Q3 ?_
  refine ⟨_,(Option.some.inj k).symm,fun hm=>?_⟩
  subst hm
  exact ⟨_,J,wkA [] [] []⟩
 intro s hb
 subst hb
 refine qf<|qb<|U J<|Qd J<|O (.d (.bool (decide ((s.length : Int) > 400)))) J<|q9 ?_
 refine qo J g (fun _ g=>?_) (fun _ g=>?_)
 ·refine qb<|qa J<|qa J<|qp ?_
  obtain rfl:=qe g
  exact finD (.inr J) (v:=.d (.tup [.nilsl,G 4])) J J (Kz (.cons (.nil _) (.cons (.refl _) .nil)))
 refine qn<|qb<|U J<|qa J<|qa J<|qp ?_
 obtain rfl:=qe g
 exact Q1 (.d (.tup [.sl 6 (s.map qw),G 0])) J
theorem qs6 (a : K1) (g : List (List qg)) (r : List (List qg) × Int) (b : q7z a g = some r) : Pure Tryz.prog tab 12 [.agg [.sl 7 (a.Lines.map Qf),.sl 5 (a.Marks.map Qy),.int .u8 a.End.Frame.Turn,G a.End.Frame.At.X,G a.End.Frame.At.Y,G a.End.Frame.At.Z,G a.End.Drawn],.sl 1 (g.map Ql)] (.tup [.sl 1 (r.1.map Ql),G r.2]):=by
 unfold q7z at b
 refine Qg Tryz.func12 J qi qi J<|qb<|Qn (.ref 0 7 0 0) (.dat 7 [[.sl 7 (a.Lines.map Qf),.sl 5 (a.Marks.map Qy),.int .u8 a.End.Frame.Turn,G a.End.Frame.At.X,G a.End.Frame.At.Y,G a.End.Frame.At.Z,G a.End.Drawn]]) J<|qa J<|qa J<|q9<|qf<|qb<|O (.d (.agg [.sl 7 (a.Lines.map Qf),.sl 5 (a.Marks.map Qy),.int .u8 a.End.Frame.Turn,G a.End.Frame.At.X,G a.End.Frame.At.Y,G a.End.Frame.At.Z,G a.End.Drawn])) J ?_
 obtain ⟨w,h2,b⟩:=q8 b
 refine qz (qb0 a w h2) J<|O (qh (w != 0)) J<|q9 ?_
 refine qo J b (fun _ b=>?_) (fun _ b=>?_)
 ·refine qb<|O (.d (.agg [.sl 7 (a.Lines.map Qf),.sl 5 (a.Marks.map Qy),.int .u8 a.End.Frame.Turn,G a.End.Frame.At.X,G a.End.Frame.At.Y,G a.End.Frame.At.Z,G a.End.Drawn])) J ?_
  obtain ⟨x,h6,b⟩:=q8 b
  refine qz (qb0 a x h6) J<|qa J<|qa J<|qp ?_
  obtain rfl:=qe b
  exact finD (.inr J) (v:=.d (.tup [.nilsl,G x])) J J (Kz (.cons (.nil _) (.cons (.refl _) .nil)))
 refine qn<|qf<|qb<|U J<|Qd J<|O (.d (.bool (decide ((g.length : Int) > 20)))) J<|q9 ?_
 refine qo J b (fun _ b=>?_) (fun _ b=>?_)
 ·refine qb<|qa J<|qa J<|qp ?_
  obtain rfl:=qe b
  exact finD (.inr J) (v:=.d (.tup [.nilsl,G 4])) J J (Kz (.cons (.nil _) (.cons (.refl _) .nil)))
 refine qn<|qf<|qb<|qa J<|q9 ?_
 obtain ⟨y,am,b⟩:=q8 b
 refine Qe (fun t=>.inl t = y) (fun (t : Unit)=>⟨[(1,.d (.sl 1 (g.map Ql))),(2,.ref 0 7 0 0)],[(0,.dat 7 [[.sl 7 (a.Lines.map Qf),.sl 5 (a.Marks.map Qy),.int .u8 a.End.Frame.Turn,G a.End.Frame.At.X,G a.End.Frame.At.Y,G a.End.Frame.At.Z,G a.End.Drawn]])],1⟩) qd ?_ ?_
 ·refine Q8 (q4w g) (fun (q : Int)=>⟨[(1,.d (.sl 1 (g.map Ql))),(2,.ref 0 7 0 0),(6,q7 q)],[(0,.dat 7 [[.sl 7 (a.Lines.map Qf),.sl 5 (a.Marks.map Qy),.int .u8 a.End.Frame.Turn,G a.End.Frame.At.X,G a.End.Frame.At.Y,G a.End.Frame.At.Z,G a.End.Drawn]])],1⟩) 0 y am (wkA [(0,0)] [] []) ?_
  intro q bc f
  unfold q4w at f
  refine qf<|qb<|U J<|U J<|Qd J<|O (.d (.bool (decide (q < (g.length : Int))))) J<|q9 ?_
  refine qo J f (fun _ f=>?_) (fun _ f=>?_)
  ·refine qn<|qf<|Q0<|qb<|U J<|U J ?_
   obtain ⟨z,an,f⟩:=q8 f
   refine Q4 (enc:=Ql) an J<|O (.d (.sl 6 (z.map qw))) J ?_
   obtain ⟨aa,ao,f⟩:=q8 f
   refine qz (qb3 z aa ao) J<|O (qh (aa != 0)) J<|q9 ?_
   refine qo J f (fun _ f=>?_) (fun _ f=>?_)
   ·refine qb<|U J<|U J ?_
    obtain ⟨ab,ap,f⟩:=q8 f
    refine Q4 (enc:=Ql) ap J<|O (.d (.sl 6 (ab.map qw))) J ?_
    obtain ⟨ac,aq,f⟩:=q8 f
    refine qz (qb3 ab ac aq) J<|qa J<|qa J<|qp ?_
    refine ⟨_,(Option.some.inj f).symm,fun hm=>?_⟩
    subst hm
    obtain rfl:=qe b
    exact finD (.inr J) (v:=.d (.tup [.nilsl,G ac])) J J (Kz (.cons (.nil _) (.cons (.refl _) .nil)))
   refine qn<|Q9<|Qc<|qu<|U J<|O (.d (G (w64 (q + 1)))) J<|qa J<|qs ?_
   exact ⟨_,(Option.some.inj f).symm,wkA [(0,0)] [] []⟩
  refine Q3 ?_
  refine ⟨_,(Option.some.inj f).symm,fun hm=>?_⟩
  subst hm
  exact ⟨_,J,wkA [(0,0)] [] []⟩
 intro t hb
 subst hb
 refine qf<|qb<|O (.ref 0 7 0 0) J<|O (.d (.sl 7 (a.Lines.map Qf))) J<|Qd J<|O (.d (.bool (decide ((a.Lines.length : Int) > 0)))) J ?_
 obtain ⟨ar,p,b⟩:=q8 b
 refine Qa 5 (fun A st=>∃ (ad ae af ag : V),st = A [(45,qh ar),(44,ag),(43,af),(42,ae),(41,ad)]) ?_ ?_
 ·refine Qb J J p (fun p=>?_) (fun p=>?_)
  ·refine U J<|Qd J<|O (.d (.bool ((g.length : Int) == 0))) J<|O (.d (.bool ((g.length : Int) == 0))) J<|q9 ?_
   obtain rfl:=qe p
   exact ⟨_,_,_,_,J⟩
  refine qc J<|qc J<|qc J<|O (qh false) J<|q9 ?_
  obtain rfl:=qe p
  exact ⟨_,_,_,_,J⟩
 rintro _ ⟨ad,ae,af,ag,rfl⟩
 refine q9 ?_
 refine qo J b (fun _ b=>?_) (fun _ b=>?_)
 ·refine qb<|qa J<|qa J<|qp ?_
  obtain rfl:=qe b
  exact finD (.inr J) (v:=.d (.tup [.nilsl,G 6])) J J (Kz (.cons (.nil _) (.cons (.refl _) .nil)))
 refine qn<|qf<|qb<|qa J<|q9 ?_
 obtain ⟨ah,au,b⟩:=q8 b
 refine Qe (fun u=>.inl u = ah) (fun (u : Unit)=>⟨[(1,.d (.sl 1 (g.map Ql))),(2,.ref 0 7 0 0)],[(0,.dat 7 [[.sl 7 (a.Lines.map Qf),.sl 5 (a.Marks.map Qy),.int .u8 a.End.Frame.Turn,G a.End.Frame.At.X,G a.End.Frame.At.Y,G a.End.Frame.At.Z,G a.End.Drawn]])],1⟩) qd ?_ ?_
 ·refine Q8 (q4x a) (fun (s : Int)=>⟨[(1,.d (.sl 1 (g.map Ql))),(2,.ref 0 7 0 0),(7,q7 s)],[(0,.dat 7 [[.sl 7 (a.Lines.map Qf),.sl 5 (a.Marks.map Qy),.int .u8 a.End.Frame.Turn,G a.End.Frame.At.X,G a.End.Frame.At.Y,G a.End.Frame.At.Z,G a.End.Drawn]])],1⟩) 0 ah au (wkA [(0,0)] [] []) ?_
  intro s bd h
  unfold q4x at h
  refine qf<|qb<|U J<|O (.ref 0 7 0 0) J<|O (.d (.sl 7 (a.Lines.map Qf))) J<|Qd J<|O (.d (.bool (decide (s < (a.Lines.length : Int))))) J<|q9 ?_
  refine qo J h (fun _ h=>?_) (fun _ h=>?_)
  ·refine qn<|qf<|Q0<|qb<|O (.ref 0 7 0 0) J<|O (.d (.sl 7 (a.Lines.map Qf))) J<|U J ?_
   obtain ⟨j,av,h⟩:=q8 h
   refine Q4 (enc:=Qf) av J<|O (.dref [G j.From.X,G j.From.Y,G j.From.Z,G j.To.X,G j.To.Y,G j.To.Z,G j.Depth] 6) J<|O (q7 j.Depth) J<|O (.d (.bool (decide (j.Depth < 0)))) J<|q9 ?_
   refine qo J h (fun _ h=>?_) (fun _ h=>?_)
   ·refine qb<|qa J<|qa J<|qp ?_
    refine ⟨_,(Option.some.inj h).symm,fun hm=>?_⟩
    subst hm
    obtain rfl:=qe b
    exact finD (.inr J) (v:=.d (.tup [.nilsl,G 2])) J J (Kz (.cons (.nil _) (.cons (.refl _) .nil)))
   refine qn<|Q9<|Qc<|qu<|U J<|O (.d (G (w64 (s + 1)))) J<|qa J<|qs ?_
   exact ⟨_,(Option.some.inj h).symm,wkA [(0,0)] [] []⟩
  refine Q3 ?_
  refine ⟨_,(Option.some.inj h).symm,fun hm=>?_⟩
  subst hm
  exact ⟨_,J,wkA [(0,0)] [] []⟩
 intro u hb
 subst hb
 refine qb<|qa J<|q9<|qf<|qb<|qa J<|q9 ?_
 obtain ⟨ai,aw,b⟩:=q8 b
 refine Qe (fun o=>.inl o = ai) (fun (o : List (List qg))=>⟨[(8,.hs 0 1 0 o.length)],[(0,.dat 1 (o.map Ql))],1⟩) qd ?_ ?_
 ·refine Q8 (q4y a g) (fun (n : Int × List (List qg))=>⟨[(1,.d (.sl 1 (g.map Ql))),(2,.ref 0 7 0 0),(8,.hs 1 1 0 n.2.length),(9,q7 n.1)],[(0,.dat 7 [[.sl 7 (a.Lines.map Qf),.sl 5 (a.Marks.map Qy),.int .u8 a.End.Frame.Turn,G a.End.Frame.At.X,G a.End.Frame.At.Y,G a.End.Frame.At.Z,G a.End.Drawn]]),(1,.dat 1 (n.2.map Ql))],2⟩) (0,[]) ai aw (wkA [(0,0)] [] [1]) ?_
  intro n be c
  unfold q4y at c
  refine qf<|qb<|U J<|O (.ref 0 7 0 0) J<|O (.d (.sl 7 (a.Lines.map Qf))) J<|Qd J<|O (.d (.bool (decide (n.1 < (a.Lines.length : Int))))) J<|q9 ?_
  refine qo J c (fun _ c=>?_) (fun _ c=>?_)
  ·refine qn<|qf<|Q0<|qf<|Q7 [q0,q0,q0,q0,q0,q0,q0,q0,q0,q0,q0,qq 0,q0,q0,q0,q0,qq 0,q0] qi<|O (.ref 0 7 0 0) J<|O (.d (.sl 7 (a.Lines.map Qf))) J<|U J ?_
   obtain ⟨l,ax,c⟩:=q8 c
   refine Q4 (enc:=Qf) ax J<|O (.d (.agg [G l.From.X,G l.From.Y,G l.From.Z,G l.To.X,G l.To.Y,G l.To.Z,G l.Depth])) J<|O (.ref 0 7 0 0) J<|O (.d (.sl 7 (a.Lines.map Qf))) J<|U J ?_
   obtain ⟨m,ay,c⟩:=q8 c
   refine Q4 (enc:=Qf) ay J<|O (.d (.agg [G m.From.X,G m.From.Y,G m.From.Z,G m.To.X,G m.To.Y,G m.To.Z,G m.Depth])) J<|U J ?_
   obtain ⟨aj,az,c⟩:=q8 c
   refine qz (qs7 m g aj az) J ?_
   obtain ⟨k,ba,c⟩:=q8 c
   refine qz (qjl l aj k ba) J<|U J<|O (.d (.sl 6 (k.1.map qw))) J<|O (q7 k.2) J<|qa J<|qa J<|q9<|qf<|qb<|U J<|O (qh (k.2 != 0)) J<|q9 ?_
   refine qo J c (fun _ c=>?_) (fun _ c=>?_)
   ·refine qb<|U J<|qa J<|qa J<|qp ?_
    refine ⟨_,(Option.some.inj c).symm,fun hm=>?_⟩
    subst hm
    obtain rfl:=qe b
    exact finD (.inr J) (v:=.d (.tup [.nilsl,G k.2])) J J (Kz (.cons (.nil _) (.cons (.refl _) .nil)))
   refine qn<|qu<|U J<|U J<|Qn (.hs 2 1 0 [k.1].length) (.dat 1 ([k.1].map Ql)) J ?_
   obtain ⟨bf,bb,c⟩:=q8 c
   refine Kw (xs:=n.2) (ys:=[k.1]) (enc:=Ql) (.hs 2 1 0 [k.1].length) bb J J J J J J J (Ku J J) J J J J<|qa J<|qs<|Qc<|qu<|U J<|O (.d (G (w64 (n.1 + 1)))) J<|qa J<|qs ?_
   exact ⟨_,(Option.some.inj c).symm,wkA [(0,0),(1,3)] [] []⟩
  refine Q3 ?_
  refine ⟨_,(Option.some.inj c).symm,fun hm=>?_⟩
  subst hm
  exact ⟨_,J,wkA [(0,1)] [] []⟩
 intro o hb
 subst hb
 refine qb<|U J<|qa J<|qa J<|qp ?_
 obtain rfl:=qe b
 exact finD (.inr J) (v:=.tup [.hs 0 1 0 o.length,q7 0]) J (q9o (Y2 (Za J J) (Y2 J J))) (.refl _)
theorem qsa (c : List (List qg)) (f : List (List qg)) (r : Bool) (b : q82 c f = some r) : Pure Tryz.prog tab 13 [.sl 1 (c.map Ql),.sl 1 (f.map Ql)] (.bool r):=by
 unfold q82 at b
 refine Qg Tryz.func13 J qi qi J<|qb<|qa J<|q9<|qf<|qb<|U J<|Qd J<|U J<|Qd J<|O (.d (.bool ((c.length : Int) != (f.length : Int)))) J<|q9 ?_
 refine qo J b (fun _ b=>?_) (fun _ b=>?_)
 ·refine qb<|qa J<|qp ?_
  obtain rfl:=qe b
  exact Q1 (qh false) J
 refine qn<|qf<|qb<|qa J<|q9 ?_
 obtain ⟨j,n,b⟩:=q8 b
 refine Qe (fun h=>.inl h = j) (fun (h : Unit)=>⟨[],[],0⟩) qd ?_ ?_
 ·refine Q8 (q53 c f) (fun (g : Int)=>⟨[(0,.d (.sl 1 (c.map Ql))),(1,.d (.sl 1 (f.map Ql))),(5,q7 g)],[],0⟩) 0 j n (wkA [] [] []) ?_
  intro g s a
  unfold q53 at a
  refine qf<|qb<|U J<|U J<|Qd J<|O (.d (.bool (decide (g < (c.length : Int))))) J<|q9 ?_
  refine qo J a (fun _ a=>?_) (fun _ a=>?_)
  ·refine qn<|qf<|Q0<|qf<|Q7 [q0,q0,q0,q0,q0,q0,q0,q0,q0,q0] qi<|U J<|U J ?_
   obtain ⟨k,o,a⟩:=q8 a
   refine Q4 (enc:=Ql) o J<|O (.d (.sl 6 (k.map qw))) J<|U J<|U J ?_
   obtain ⟨l,p,a⟩:=q8 a
   refine Q4 (enc:=Ql) p J<|O (.d (.sl 6 (l.map qw))) J ?_
   obtain ⟨m,q,a⟩:=q8 a
   refine qz (qee k l m q) J<|O (qh (!m)) J<|q9 ?_
   refine qo J a (fun _ a=>?_) (fun _ a=>?_)
   ·refine qb<|qa J<|qp ?_
    refine ⟨_,(Option.some.inj a).symm,fun hm=>?_⟩
    subst hm
    obtain rfl:=qe b
    exact Q1 (qh false) J
   refine qn<|Q9<|Qc<|qu<|U J<|O (.d (G (w64 (g + 1)))) J<|qa J<|qs ?_
   exact ⟨_,(Option.some.inj a).symm,wkA [] [] []⟩
  refine Q3 ?_
  refine ⟨_,(Option.some.inj a).symm,fun hm=>?_⟩
  subst hm
  exact ⟨_,J,wkA [] [] []⟩
 intro h hb
 subst hb
 refine qb<|qa J<|qp ?_
 obtain rfl:=qe b
 exact Q1 (qh true) J
theorem qyg (a : Qv) (g : List qg) (r : List qg × Int) (b : q9j a g = some r) : Pure Tryz.prog tab 14 [.agg [G a.From.X,G a.From.Y,G a.From.Z,G a.To.X,G a.To.Y,G a.To.Z,G a.Depth],.sl 6 (g.map qw)] (.tup [.sl 6 (r.1.map qw),G r.2]):=by
 unfold q9j at b
 refine Qg Tryz.func14 J qi qi J<|qb<|Qn (.ref 0 7 0 0) (.dat 7 [[G a.From.X,G a.From.Y,G a.From.Z,G a.To.X,G a.To.Y,G a.To.Z,G a.Depth]]) J<|qa J<|qa J<|q9<|qf<|qb<|O (.d (.agg [G a.From.X,G a.From.Y,G a.From.Z,G a.To.X,G a.To.Y,G a.To.Z,G a.Depth])) J<|Qn (.hs 1 7 0 [a].length) (.dat 7 ([a].map Qf)) J<|O (.agg [.hs 1 7 0 [a].length,.d (.nilsl),.d (.int .u8 0),q7 0,q7 0,q7 0,q7 0]) J ?_
 obtain ⟨c,j,b⟩:=q8 b
 refine qar [.agg [.hs 1 7 0 [a].length,.d (.nilsl),.d (.int .u8 0),q7 0,q7 0,q7 0,q7 0]] (q7q (.cons (qgg (.cons (.refl _) (.cons (.nil _) (.cons (.refl _) (.cons (.refl _) (.cons (.refl _) (.cons (.refl _) (.cons (.refl _) .nil)))))))) .nil) (qla ({Lines:=[a],Marks:=[],End:=({Frame:=({Turn:=0,At:=({X:=0,Y:=0,Z:=0} : qv)} : Ys),Drawn:=0} : q42)} : K1) c j)) J J (q1a (ql6 (Y2 (Za J J) (Y2 J (Y2 J (Y2 J (Y2 J (Y2 J (Y2 J J)))))))) J) (.inr J)<|U J<|O (q7 c.1) J<|O (q7 c.2) J<|qa J<|qa J<|qt<|U J<|O (qh (c.2 != 0)) J<|q9 ?_
 refine qo J b (fun _ b=>?_) (fun _ b=>?_)
 ·refine qb<|U J<|qa J<|qa J<|qp ?_
  obtain rfl:=qe b
  exact finD (.inr J) (v:=.d (.tup [.nilsl,G c.2])) J J (Kz (.cons (.nil _) (.cons (.refl _) .nil)))
 refine qn<|qf<|qb<|U J ?_
 obtain ⟨h,k,b⟩:=q8 b
 refine qz (qkn g h k) J<|qa J<|qt<|U J<|O (qh (h != 0)) J<|q9 ?_
 refine qo J b (fun _ b=>?_) (fun _ b=>?_)
 ·refine qb<|U J<|qa J<|qa J<|qp ?_
  obtain rfl:=qe b
  exact finD (.inr J) (v:=.d (.tup [.nilsl,G h])) J J (Kz (.cons (.nil _) (.cons (.refl _) .nil)))
 refine qn<|qb<|O (.d (.agg [G a.From.X,G a.From.Y,G a.From.Z,G a.To.X,G a.To.Y,G a.To.Z,G a.Depth])) J<|U J ?_
 obtain ⟨f,l,b⟩:=q8 b
 refine qz (ql2 a g f l) J<|O (.d (.sl 6 (f.1.map qw))) J<|O (q7 f.2) J<|qa J<|qa J<|qp ?_
 obtain rfl:=qe b
 exact Q1 (.d (.tup [.sl 6 (f.1.map qw),G f.2])) J
theorem qjj (a : Qv) (r : K1) (b : q80 a = some r) : Pure Tryz.prog tab 46 [.agg [G a.From.X,G a.From.Y,G a.From.Z,G a.To.X,G a.To.Y,G a.To.Z,G a.Depth]] (.agg [.sl 7 (r.Lines.map Qf),.sl 5 (r.Marks.map Qy),.int .u8 r.End.Frame.Turn,G r.End.Frame.At.X,G r.End.Frame.At.Y,G r.End.Frame.At.Z,G r.End.Drawn]):=by
 unfold q80 at b
 refine Qg Tryz.func46 J qi qi J<|qb<|Qn (.ref 0 7 0 0) (.dat 7 [[G a.From.X,G a.From.Y,G a.From.Z,G a.To.X,G a.To.Y,G a.To.Z,G a.Depth]]) J<|K2 J J<|qt<|O (.d (.agg [G a.From.X,G a.From.Y,G a.From.Z,G a.To.X,G a.To.Y,G a.To.Z,G a.Depth])) J<|Qn (.hs 2 7 0 [a].length) (.dat 7 ([a].map Qf)) J<|O (.agg [.hs 2 7 0 [a].length,.d (.nilsl),.d (.int .u8 0),q7 0,q7 0,q7 0,q7 0]) J<|Qp 1 (.cel 7 [[.hs 2 7 0 [a].length,.d (.nilsl),.d (.int .u8 0),q7 0,q7 0,q7 0,q7 0]]) J<|qp ?_
 obtain rfl:=qe b
 exact finD (.inr J) (v:=.agg [.hs 2 7 0 [a].length,.d (.nilsl),.d (.int .u8 0),q7 0,q7 0,q7 0,q7 0]) J (ql6 (Y2 (Za J J) (Y2 J (Y2 J (Y2 J (Y2 J (Y2 J (Y2 J J)))))))) (qgg (.cons (.refl _) (.cons (.nil _) (.cons (.refl _) (.cons (.refl _) (.cons (.refl _) (.cons (.refl _) (.cons (.refl _) .nil))))))))
theorem qs5 (a : Qv) (c : List qg) (r : List qg × Int) (b : q7y a c = some r) : Pure Tryz.prog tab 15 [.agg [G a.From.X,G a.From.Y,G a.From.Z,G a.To.X,G a.To.Y,G a.To.Z,G a.Depth],.sl 6 (c.map qw)] (.tup [.sl 6 (r.1.map qw),G r.2]):=by
 unfold q7y at b
 refine Qg Tryz.func15 J qi qi J<|qb<|Qn (.ref 0 7 0 0) (.dat 7 [[G a.From.X,G a.From.Y,G a.From.Z,G a.To.X,G a.To.Y,G a.To.Z,G a.Depth]]) J<|qa J<|qa J<|q9<|qf<|qb<|O (.d (.agg [G a.From.X,G a.From.Y,G a.From.Z,G a.To.X,G a.To.Y,G a.To.Z,G a.Depth])) J ?_
 obtain ⟨g,n,b⟩:=q8 b
 refine qz (qjj a g n) J ?_
 obtain ⟨h,o,b⟩:=q8 b
 refine qz (qb0 g h o) J<|O (qh (h != 0)) J<|q9 ?_
 refine qo J b (fun _ b=>?_) (fun _ b=>?_)
 ·refine qb<|O (.d (.agg [G a.From.X,G a.From.Y,G a.From.Z,G a.To.X,G a.To.Y,G a.To.Z,G a.Depth])) J ?_
  obtain ⟨j,p,b⟩:=q8 b
  refine qz (qjj a j p) J ?_
  obtain ⟨k,q,b⟩:=q8 b
  refine qz (qb0 j k q) J<|qa J<|qa J<|qp ?_
  obtain rfl:=qe b
  exact finD (.inr J) (v:=.d (.tup [.nilsl,G k])) J J (Kz (.cons (.nil _) (.cons (.refl _) .nil)))
 refine qn<|qf<|qb<|U J ?_
 obtain ⟨l,s,b⟩:=q8 b
 refine qz (qb3 c l s) J<|O (qh (l != 0)) J<|q9 ?_
 refine qo J b (fun _ b=>?_) (fun _ b=>?_)
 ·refine qb<|U J ?_
  obtain ⟨m,t,b⟩:=q8 b
  refine qz (qb3 c m t) J<|qa J<|qa J<|qp ?_
  obtain rfl:=qe b
  exact finD (.inr J) (v:=.d (.tup [.nilsl,G m])) J J (Kz (.cons (.nil _) (.cons (.refl _) .nil)))
 refine qn<|qb<|O (.d (.agg [G a.From.X,G a.From.Y,G a.From.Z,G a.To.X,G a.To.Y,G a.To.Z,G a.Depth])) J<|U J ?_
 obtain ⟨f,u,b⟩:=q8 b
 refine qz (qjl a c f u) J<|O (.d (.sl 6 (f.1.map qw))) J<|O (q7 f.2) J<|qa J<|qa J<|qp ?_
 obtain rfl:=qe b
 exact Q1 (.d (.tup [.sl 6 (f.1.map qw),G f.2])) J
theorem qzi (a : K1) (g : List (List qg)) (r : Bool) (b : qak a g = some r) : Pure Tryz.prog tab 3 [.agg [.sl 7 (a.Lines.map Qf),.sl 5 (a.Marks.map Qy),.int .u8 a.End.Frame.Turn,G a.End.Frame.At.X,G a.End.Frame.At.Y,G a.End.Frame.At.Z,G a.End.Drawn],.sl 1 (g.map Ql)] (.bool r):=by
 unfold qak at b
 refine Qg Tryz.func3 J qi qi J<|qb<|Qn (.ref 0 7 0 0) (.dat 7 [[.sl 7 (a.Lines.map Qf),.sl 5 (a.Marks.map Qy),.int .u8 a.End.Frame.Turn,G a.End.Frame.At.X,G a.End.Frame.At.Y,G a.End.Frame.At.Z,G a.End.Drawn]]) J<|qa J<|q9<|qf<|qb<|O (.d (.agg [.sl 7 (a.Lines.map Qf),.sl 5 (a.Marks.map Qy),.int .u8 a.End.Frame.Turn,G a.End.Frame.At.X,G a.End.Frame.At.Y,G a.End.Frame.At.Z,G a.End.Drawn])) J<|U J ?_
 obtain ⟨r1,h2,b⟩:=q8 b
 refine qz (qs8 a g r1 h2) J<|q9 ?_
 refine qo J b (fun _ b=>?_) (fun _ b=>?_)
 ·refine qb<|qa J<|qp ?_
  obtain rfl:=qe b
  exact Q1 (qh true) J
 refine qn<|qb<|O (.d (.agg [.sl 7 (a.Lines.map Qf),.sl 5 (a.Marks.map Qy),.int .u8 a.End.Frame.Turn,G a.End.Frame.At.X,G a.End.Frame.At.Y,G a.End.Frame.At.Z,G a.End.Drawn])) J<|U J ?_
 obtain ⟨h,h4,b⟩:=q8 b
 refine qz (qyh a g h h4) J<|U J<|O (.d (.sl 1 (h.1.map Ql))) J<|O (q7 h.2) J<|qa J<|qa J<|qt<|O (.d (.agg [.sl 7 (a.Lines.map Qf),.sl 5 (a.Marks.map Qy),.int .u8 a.End.Frame.Turn,G a.End.Frame.At.X,G a.End.Frame.At.Y,G a.End.Frame.At.Z,G a.End.Drawn])) J<|U J ?_
 obtain ⟨j,h6,b⟩:=q8 b
 refine qz (qs6 a g j h6) J<|U J<|O (.d (.sl 1 (j.1.map Ql))) J<|O (q7 j.2) J<|qa J<|qa J<|q9<|qf<|qb<|U J<|U J ?_
 obtain ⟨p,h8,b⟩:=q8 b
 refine qz (qsa h.1 j.1 p h8) J<|O (qh (!p)) J ?_
 obtain ⟨c9,m,b⟩:=q8 b
 refine Qa 5 (fun A st=>∃ (q s t u : V),st = A [(36,qh c9),(35,u),(34,t),(33,s),(32,q)]) ?_ ?_
 ·refine Qb J J m (fun m=>?_) (fun m=>?_)
  ·refine qc J<|qc J<|qc J<|O (qh true) J<|q9 ?_
   obtain rfl:=qe m
   exact ⟨_,_,_,_,J⟩
  refine U J<|U J<|O (qh (h.2 != j.2)) J<|O (qh (h.2 != j.2)) J<|q9 ?_
  obtain rfl:=qe m
  exact ⟨_,_,_,_,J⟩
 rintro _ ⟨q,s,t,u,rfl⟩
 refine q9 ?_
 refine qo J b (fun _ b=>?_) (fun _ b=>?_)
 ·refine qb<|qa J<|qp ?_
  obtain rfl:=qe b
  exact Q1 (qh false) J
 refine qn<|qf<|qb<|O (.ref 0 7 0 0) J<|O (.d (.sl 7 (a.Lines.map Qf))) J<|Qd J<|O (.d (.bool ((a.Lines.length : Int) == 0))) J ?_
 obtain ⟨am,n,b⟩:=q8 b
 refine Qa 5 (fun A st=>∃ (v w x y : V),st = A [(45,qh am),(44,y),(43,x),(42,w),(41,v)]) ?_ ?_
 ·refine Qb J J n (fun n=>?_) (fun n=>?_)
  ·refine qc J<|qc J<|qc J<|O (qh true) J<|q9 ?_
   obtain rfl:=qe n
   exact ⟨_,_,_,_,J⟩
  refine U J<|Qd J<|O (.d (.bool ((g.length : Int) == 0))) J<|O (.d (.bool ((g.length : Int) == 0))) J<|q9 ?_
  obtain rfl:=qe n
  exact ⟨_,_,_,_,J⟩
 rintro _ ⟨v,w,x,y,rfl⟩
 refine q9 ?_
 refine qo J b (fun _ b=>?_) (fun _ b=>?_)
 ·refine qb<|qa J<|qp ?_
  obtain rfl:=qe b
  exact Q1 (qh true) J
 refine qn<|qf<|Q7 [q0,q0,q0,q0,q0,q0,q0,q0,q0,q0,q0,qq 0,q0] qi<|O (.ref 0 7 0 0) J<|O (.d (.sl 7 (a.Lines.map Qf))) J ?_
 obtain ⟨c,an,b⟩:=q8 b
 refine Q4 (enc:=Qf) an J<|O (.d (.agg [G c.From.X,G c.From.Y,G c.From.Z,G c.To.X,G c.To.Y,G c.To.Z,G c.Depth])) J<|U J ?_
 obtain ⟨z,ao,b⟩:=q8 b
 refine Q4 (enc:=Ql) ao J<|O (.d (.sl 6 (z.map qw))) J ?_
 obtain ⟨k,ap,b⟩:=q8 b
 refine qz (qyg c z k ap) J<|U J<|O (.d (.sl 6 (k.1.map qw))) J<|O (q7 k.2) J<|qa J<|qa J<|q9<|qf<|Q7 [q0,q0,q0,q0,q0,q0,q0,q0,q0,q0,q0,qq 0,q0] qi<|O (.ref 0 7 0 0) J<|O (.d (.sl 7 (a.Lines.map Qf))) J ?_
 obtain ⟨f,aq,b⟩:=q8 b
 refine Q4 (enc:=Qf) aq J<|O (.d (.agg [G f.From.X,G f.From.Y,G f.From.Z,G f.To.X,G f.To.Y,G f.To.Z,G f.Depth])) J<|U J ?_
 obtain ⟨aa,ar,b⟩:=q8 b
 refine Q4 (enc:=Ql) ar J<|O (.d (.sl 6 (aa.map qw))) J ?_
 obtain ⟨l,au,b⟩:=q8 b
 refine qz (qs5 f aa l au) J<|U J<|O (.d (.sl 6 (l.1.map qw))) J<|O (q7 l.2) J<|qa J<|qa J<|qt<|U J<|U J ?_
 obtain ⟨av,aw,b⟩:=q8 b
 refine qz (qee k.1 l.1 av aw) J ?_
 obtain ⟨ab,o,b⟩:=q8 b
 refine Qa 5 (fun A st=>∃ (ac ad ae af : V),st = A [(75,qh ab),(74,af),(73,ae),(72,ad),(71,ac)]) ?_ ?_
 ·refine Qb J J o (fun o=>?_) (fun o=>?_)
  ·refine U J<|U J<|O (qh (k.2 == l.2)) J<|O (qh (k.2 == l.2)) J<|q9 ?_
   obtain rfl:=qe o
   exact ⟨_,_,_,_,J⟩
  refine qc J<|qc J<|qc J<|O (qh false) J<|q9 ?_
  obtain rfl:=qe o
  exact ⟨_,_,_,_,J⟩
 rintro _ ⟨ac,ad,ae,af,rfl⟩
 refine qa J<|qp ?_
 obtain rfl:=qe b
 exact Q1 (qh ab) J
end Go.Proofs.YtbknppciefodiaaGreat
