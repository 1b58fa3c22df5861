/- W_Allc -/
import Derived.Test.YtlchefooafpdlaaGreatK16
namespace Go.Proofs.YtlchefooafpdlaaGreat
open Go Go.Am Go.Sh
set_option maxHeartbeats 8000000
set_option maxRecDepth 100000
theorem qsn (c : List qg) (m : List qf) (p : Int) (l : Int) (g : Int) (b : Int) (h : List qf) (r : List qf × Int × Int × List qg) (f : q7s  c m p l g b h = some r) : Qq Tryz.prog tab 51 [.ref 0 4 0 0,q6 g,q6 b,.d (.sl 4 (h.map qm))] [(0,.cel 4 [[.hs 1 6 0 c.length,.d (.sl 4 (m.map qm)),q6 p,q6 l]]),(1,.dat 6 (c.map qw))] 2 (.d (.tup [])) [(0,.cel 4 [[.hs 2 6 0 r.2.2.2.length,.d (.sl 4 (r.1.map qm)),q6 r.2.1,q6 r.2.2.1]]),(2,.dat 6 (r.2.2.2.map qw))] 3:=by
 unfold q7s at f
 refine Qx Tryz.func51 J (by kernel_rfl) (by kernel_rfl) J<|qe<|qb<|U J<|Qg J<|O (.d (.bool (decide ((h.length : Int) > 0)))) J ?_
 obtain ⟨am,t,f⟩:=q7 f
 refine Q0 8 (fun A st=>∃ (v w x y z aa ab : V),st = A [(21,qd am),(20,ab),(19,aa),(18,z),(17,y),(16,x),(15,w),(14,v)]) ?_ ?_
 ·refine qy J J t (fun t=>?_) (fun t=>?_)
  ·refine U J<|O (.ref 0 4 0 0) J<|O (.ref 0 4 0 3) J<|O (q6 l) J<|U J<|O (qd (l == g)) J<|O (qd (l == g)) J<|q8 ?_
   obtain rfl:=qc t
   exact ⟨_,_,_,_,_,_,_,J⟩
  refine qa J<|qa J<|qa J<|qa J<|qa J<|qa J<|O (qd false) J<|q8 ?_
  obtain rfl:=qc t
  exact ⟨_,_,_,_,_,_,_,J⟩
 rintro _ ⟨v,w,x,y,z,aa,ab,rfl⟩
 obtain ⟨an,q,f⟩:=q7 f
 refine Q0 8 (fun A st=>∃ (ac ad ae af ag ah ai : V),st = A [(29,qd an),(28,ai),(27,ah),(26,ag),(25,af),(24,ae),(23,ad),(22,ac)]) ?_ ?_
 ·refine qy J J q (fun q=>?_) (fun q=>?_)
  ·refine U J<|O (.ref 0 4 0 0) J<|O (.ref 0 4 0 1) J<|O (.d (.sl 4 (m.map qm))) J<|U J ?_
   obtain ⟨aj,ao,q⟩:=q7 q
   refine qt (qb2 m h aj ao) J<|O (qd aj) J<|q8 ?_
   obtain rfl:=qc q
   exact ⟨_,_,_,_,_,_,_,J⟩
  refine qa J<|qa J<|qa J<|qa J<|qa J<|qa J<|O (qd false) J<|q8 ?_
  obtain rfl:=qc q
  exact ⟨_,_,_,_,_,_,_,J⟩
 rintro _ ⟨ac,ad,ae,af,ag,ah,ai,rfl⟩
 refine q8 ?_
 refine qk J f (fun _ f=>?_) (fun _ f=>?_)
 ·refine qe<|qb<|U J<|O (.ref 0 4 0 0) J<|O (.ref 0 4 0 2) J<|O (q6 p) J<|q9 J<|q8 ?_
  obtain ⟨ak,ap,f⟩:=q7 f
  refine Qb (fun s=>s = ak) (fun (s : List qg)=>⟨[(0,.ref 0 4 0 0),(2,q6 b)],[(0,.cel 4 [[.hs 1 6 0 s.length,.d (.sl 4 (m.map qm)),q6 p,q6 l]]),(1,.dat 6 (s.map qw))],2⟩) (by simp) ?_ ?_
  ·refine Q7 (q51 b) (fun (j : Int × List qg)=>⟨[(0,.ref 0 4 0 0),(2,q6 b),(8,q6 j.1)],[(0,.cel 4 [[.hs 1 6 0 j.2.length,.d (.sl 4 (m.map qm)),q6 p,q6 l]]),(1,.dat 6 (j.2.map qw))],2⟩) (p,c) ak ap (wkA [] [] []) ?_
   intro j ax n
   unfold q51 at n
   refine qe<|qb<|U J<|U J<|O (.ref 0 4 0 0) J<|O (.ref 0 4 0 0) J<|O (.hs 1 6 0 j.2.length) J<|O (q6 (j.2.length : Int)) J<|O (.d (.bool (decide (j.1 < (j.2.length : Int))))) J<|q8 ?_
   refine qk J n (fun _ n=>?_) (fun _ n=>?_)
   ·refine ql<|qe<|qu<|qs<|U J<|O (.ref 0 4 0 0) J<|O (.ref 0 4 0 0) J<|O (.hs 1 6 0 j.2.length) J<|U J<|U J ?_
    obtain ⟨u,al,n⟩:=q7 n
    refine qq al J J<|O (.ref 1 6 j.1.toNat 3) J<|O (.ref 1 6 j.1.toNat 5) J<|Qk (ds:=[G b]) ({Lo:=u.Lo,Hi:=({X:=u.Hi.X,Y:=u.Hi.Y,Z:=b} : qi)} : qg) al J J J J J J J J (leb J) J<|qr<|Q9<|qs<|U J<|O (.d (G (w64 (j.1 + 1)))) J<|q9 J<|qr ?_
    exact ⟨_,(Option.some.inj n).symm,wkE [] [] [] J ⟨⟨_,J,.ref J (by decide) (ltd J)⟩,⟨_,J,.d (.refl _)⟩,⟨_,J,.d (.refl _)⟩,trivial⟩ ⟨⟨ltd J,.inr ⟨by decide,_,J,Jk (.cons (Qp (by simp) J (by decide) (ltd J)) J (.cons (.d (.refl _)) J (.cons (.d (.refl _)) J (.cons (.d (.refl _)) J .nil))))⟩⟩,⟨ltd J,.inr ⟨by decide,_,J,.dat _ _⟩⟩,trivial⟩⟩
   refine Q1 ?_
   refine ⟨_,(Option.some.inj n).symm,fun hm=>?_⟩
   subst hm
   exact ⟨_,J,wkA [] [] []⟩
  intro s hb
  subst hb
  refine qb<|U J<|U J<|O (.ref 0 4 0 0) J<|O (.ref 0 4 0 3) J<|Q8 0 (.cel 4 [[.hs 1 6 0 s.length,.d (.sl 4 (m.map qm)),q6 p,q6 b]]) J<|qn ?_
  obtain rfl:=qc f
  exact ⟨.inr J,_,J,wkA [(2,1)] [] []⟩
 refine ql<|qb<|U J<|U J<|U J<|U J<|O (.ref 0 4 0 0) J<|O (.ref 0 4 0 0) J<|O (.hs 1 6 0 c.length) J<|O (q6 (c.length : Int)) J<|U J<|U J<|O (.ref 0 4 0 0) J<|O (.ref 0 4 0 2) J<|Q8 0 (.cel 4 [[.hs 1 6 0 c.length,.d (.sl 4 (m.map qm)),q6 (c.length : Int),q6 l]]) J<|O (.ref 0 4 0 0) J<|O (.ref 0 4 0 1) J<|Q8 0 (.cel 4 [[.hs 1 6 0 c.length,.d (.sl 4 (h.map qm)),q6 (c.length : Int),q6 l]]) J<|O (.ref 0 4 0 0) J<|O (.ref 0 4 0 3) J<|Q8 0 (.cel 4 [[.hs 1 6 0 c.length,.d (.sl 4 (h.map qm)),q6 (c.length : Int),q6 b]]) J<|qp<|U J<|Qg J<|U J<|q8 ?_
 obtain ⟨aq,ar,f⟩:=q7 f
 refine qu<|Q7 (q52 h g b c) (fun (o : Int × List qg)=>⟨[(0,.ref 0 4 0 0),(1,q6 g),(2,q6 b),(72,.d (.sl 4 (h.map qm))),(73,q6 (h.length : Int)),(74,q6 o.1)],[(0,.cel 4 [[.hs 2 6 0 o.2.length,.d (.sl 4 (h.map qm)),q6 (c.length : Int),q6 b]]),(2,.dat 6 (o.2.map qw))],3⟩) (0,c) aq ar (wkA [(2,1)] [] []) ?_
 intro o ay k
 unfold q52 at k
 refine qb<|O (.d (.bool (decide (o.1 < (h.length : Int))))) J<|q8<|qe ?_
 refine qk J k (fun _ k=>?_) (fun _ k=>?_)
 ·refine ql<|qe<|qu<|qb ?_
  obtain ⟨a,au,k⟩:=q7 k
  refine Q5 (enc:=qm) au J<|O (.d (.agg [G a.X0,G a.Y0,G a.X1,G a.Y1])) J<|Qo J J<|Q8 3 (.dat 4 [[G a.X0,G a.Y0,G a.X1,G a.Y1]]) J<|q8<|Q4 [Qd 0,q0,q0,(some [2,4],[2,5]),(some [],[4]),q0,q0,q0,qo 3,q0,qo 3,q0,q0,q0,qo 3,q0,qo 3,q0,qo 0,q0,q0,q0,q0] (by kernel_rfl)<|U J<|U J<|O (.ref 0 4 0 0) J<|O (.ref 0 4 0 0) J<|O (.hs 2 6 0 o.2.length) J<|O (.ref 3 4 0 0) J<|O (q6 a.X0) J<|O (.ref 3 4 0 1) J<|O (q6 a.Y0) J<|U J<|O (.d (.agg [G a.X0,G a.Y0,G g])) J<|O (.ref 3 4 0 2) J<|O (q6 a.X1) J<|O (.ref 3 4 0 3) J<|O (q6 a.Y1) J<|U J<|O (.d (.agg [G a.X1,G a.Y1,G b])) J<|O (.d (.agg [G a.X0,G a.Y0,G g,G a.X1,G a.Y1,G b])) J<|Qh (.hs 4 6 0 [({Lo:=({X:=a.X0,Y:=a.Y0,Z:=g} : qi),Hi:=({X:=a.X1,Y:=a.Y1,Z:=b} : qi)} : qg)].length) (.dat 6 ([({Lo:=({X:=a.X0,Y:=a.Y0,Z:=g} : qi),Hi:=({X:=a.X1,Y:=a.Y1,Z:=b} : qi)} : qg)].map qw)) J ?_
  obtain ⟨av,aw,k⟩:=q7 k
  refine Ko (xs:=o.2) (ys:=[({Lo:=({X:=a.X0,Y:=a.Y0,Z:=g} : qi),Hi:=({X:=a.X1,Y:=a.Y1,Z:=b} : qi)} : qg)]) (enc:=qw) (.hs 4 6 0 [({Lo:=({X:=a.X0,Y:=a.Y0,Z:=g} : qi),Hi:=({X:=a.X1,Y:=a.Y1,Z:=b} : qi)} : qg)].length) aw J J J J J J J (Kl J J) J J J J<|O (.ref 0 4 0 0) J<|O (.ref 0 4 0 0) J<|Q8 0 (.cel 4 [[.hs 5 6 0 av.length,.d (.sl 4 (h.map qm)),q6 (c.length : Int),q6 b]]) J<|qr<|Q9<|qs<|O (.d (G (w64 (o.1 + 1)))) J<|U J<|qr ?_
  exact ⟨_,(Option.some.inj k).symm,wkA [(2,5)] [] []⟩
 refine Q1 ?_
 refine ⟨_,(Option.some.inj k).symm,fun hm=>?_⟩
 subst hm
 obtain rfl:=qc f
 exact ⟨.inl J,_,J,wkA [(2,2)] [] []⟩
theorem qsi (f : List Qt) (m : Int) (r : List qg × Int) (a : q3c f m = some r) : Pure Tryz.prog tab 12 [.sl 2 (f.map Zx),G m] (.tup [.sl 6 (r.1.map qw),G r.2]):=by
 unfold q3c at a
 refine Qc Tryz.func12 J (by kernel_rfl) (by kernel_rfl) J<|qb<|q9 J<|q9 J<|q8<|qe<|qb<|U J<|Qg J<|O (.d (.bool (decide ((f.length : Int) > 100)))) J<|q8 ?_
 refine qk J a (fun _ a=>?_) (fun _ a=>?_)
 ·refine qb<|q9 J<|q9 J<|qn ?_
  obtain rfl:=qc a
  exact finD (.inr J) (v:=.d (.tup [.nilsl,G 4])) J J (Ys (.cons (.nil _) (.cons (.refl _) .nil)))
 refine ql<|qe<|qb<|U J<|Qg J<|U J<|q8 ?_
 obtain ⟨w,ad,a⟩:=q7 a
 refine Qb (fun s=>.inl s = w) (fun (s : Unit)=>⟨[(0,.d (.sl 2 (f.map Zx))),(1,q6 m)],[],0⟩) (by simp) ?_ ?_
 ·refine Q7 (q3d f) (fun (q : Int)=>⟨[(0,.d (.sl 2 (f.map Zx))),(1,q6 m),(15,.d (.sl 2 (f.map Zx))),(16,q6 (f.length : Int)),(17,q6 q)],[],0⟩) 0 w ad (wkA [] [] []) ?_
  intro q an g
  unfold q3d at g
  refine qb<|O (.d (.bool (decide (q < (f.length : Int))))) J<|q8<|qe ?_
  refine qk J g (fun _ g=>?_) (fun _ g=>?_)
  ·refine ql<|qe<|qu<|qb ?_
   obtain ⟨n,ae,g⟩:=q7 g
   refine Q5 (enc:=Zx) ae J<|O (.d (.agg [.sl 4 (n.Region.map qm),G n.Height])) J<|Qo J J<|Q8 0 (.dat 2 [[.sl 4 (n.Region.map qm),G n.Height]]) J<|qp<|O (.ref 0 2 0 0) J<|O (.d (.sl 4 (n.Region.map qm))) J ?_
   obtain ⟨t,af,g⟩:=q7 g
   refine qt (qj9 n.Region t af) J<|q9 J<|qp<|U J<|O (qd (t != 0)) J<|q8 ?_
   refine qk J g (fun _ g=>?_) (fun _ g=>?_)
   ·refine qb<|U J<|q9 J<|q9 J<|qn ?_
    refine ⟨_,(Option.some.inj g).symm,fun hm=>?_⟩
    subst hm
    obtain rfl:=qc a
    exact finD (.inr J) (v:=.d (.tup [.nilsl,G t])) J J (Ys (.cons (.nil _) (.cons (.refl _) .nil)))
   refine ql<|Qa<|Q9<|qs<|O (.d (G (w64 (q + 1)))) J<|U J<|qr ?_
   exact ⟨_,(Option.some.inj g).symm,wkA [] [] []⟩
  refine Q1 ?_
  refine ⟨_,(Option.some.inj g).symm,fun hm=>?_⟩
  subst hm
  exact ⟨_,J,wkA [] [] []⟩
 intro s hb
 subst hb
 refine qe<|qb<|U J ?_
 obtain ⟨x,ag,a⟩:=q7 a
 refine qt (qdy m x ag) J<|O (qd (!x)) J ?_
 obtain ⟨ah,l,a⟩:=q7 a
 refine Q0 4 (fun A st=>∃ (y z aa : V),st = A [(34,qd ah),(33,aa),(32,z),(31,y)]) ?_ ?_
 ·refine qy J J l (fun l=>?_) (fun l=>?_)
  ·refine qa J<|qa J<|O (qd true) J<|q8 ?_
   obtain rfl:=qc l
   exact ⟨_,_,_,J⟩
  refine U J ?_
  obtain ⟨ab,ai,l⟩:=q7 l
  refine qt (qup f (fun u=>Ut u) 54 [] (fun u r hr=>qsh u r hr) ab ai) J<|O (qd ab) J<|q8 ?_
  obtain rfl:=qc l
  exact ⟨_,_,_,J⟩
 rintro _ ⟨y,z,aa,rfl⟩
 refine q8 ?_
 refine qk J a (fun _ a=>?_) (fun _ a=>?_)
 ·refine qb<|q9 J<|q9 J<|qn ?_
  obtain rfl:=qc a
  exact finD (.inr J) (v:=.d (.tup [.nilsl,G 2])) J J (Ys (.cons (.nil _) (.cons (.refl _) .nil)))
 refine ql<|qb<|Qo J J<|q8<|qe<|qb<|U J<|Qg J<|U J<|q8 ?_
 obtain ⟨ac,aj,a⟩:=q7 a
 refine Qb (fun j=>.inl j = ac) (fun (j : List qf × Int × Int × List qg)=>⟨[(9,.ref 0 4 0 0)],[(0,.cel 4 [[.hs 1 6 0 j.2.2.2.length,.d (.sl 4 (j.1.map qm)),q6 j.2.1,q6 j.2.2.1]]),(1,.dat 6 (j.2.2.2.map qw))],2⟩) (by simp) ?_ ?_
 ·refine Q7 (q3e f) (fun (b : Int × Int × List qf × Int × Int × List qg)=>⟨[(1,q6 b.1),(9,.ref 0 4 0 0),(35,.d (.sl 2 (f.map Zx))),(36,q6 (f.length : Int)),(37,q6 b.2.1)],[(0,.cel 4 [[.hs 1 6 0 b.2.2.2.2.2.length,.d (.sl 4 (b.2.2.1.map qm)),q6 b.2.2.2.1,q6 b.2.2.2.2.1]]),(1,.dat 6 (b.2.2.2.2.2.map qw))],2⟩) (m,0,[],0,0,[]) ac aj (wkA [(0,0)] [] [1]) ?_
  intro b ao h
  unfold q3e at h
  refine qb<|O (.d (.bool (decide (b.2.1 < (f.length : Int))))) J<|q8<|qe ?_
  refine qk J h (fun _ h=>?_) (fun _ h=>?_)
  ·refine ql<|qe<|qu<|qb ?_
   obtain ⟨c,ak,h⟩:=q7 h
   refine Q5 (enc:=Zx) ak J<|O (.d (.agg [.sl 4 (c.Region.map qm),G c.Height])) J<|Qo J J<|Q8 2 (.dat 2 [[.sl 4 (c.Region.map qm),G c.Height]]) J<|q8<|qe<|qb<|U J<|O (.ref 2 2 0 1) J<|O (q6 c.Height) J<|O (.d (G (w64 (b.1 + c.Height)))) J<|O (.d (.bool (decide ((w64 (b.1 + c.Height)) > 1000000)))) J<|q8 ?_
   refine qk J h (fun _ h=>?_) (fun _ h=>?_)
   ·refine qb<|q9 J<|q9 J<|qn ?_
    refine ⟨_,(Option.some.inj h).symm,fun hm=>?_⟩
    subst hm
    obtain rfl:=qc a
    exact finD (.inr J) (v:=.d (.tup [.nilsl,G 16])) J J (Ys (.cons (.nil _) (.cons (.refl _) .nil)))
   refine ql<|qb<|U J<|U J<|O (.ref 2 2 0 1) J<|O (q6 c.Height) J<|O (.d (G (w64 (b.1 + c.Height)))) J<|O (.ref 2 2 0 0) J<|O (.d (.sl 4 (c.Region.map qm))) J ?_
   obtain ⟨o,al,h⟩:=q7 h
   refine Qr [(0,0),(1,1)] [(0,0),(1,1),(2,3),(3,2)] [.ref 0 4 0 0,q6 b.1,.d (G (w64 (b.1 + c.Height))),.d (.sl 4 (c.Region.map qm))] (.d (.tup [])) 2 [(0,.cel 4 [[.hs 3 6 0 o.2.2.2.length,.d (.sl 4 (o.1.map qm)),q6 o.2.1,q6 o.2.2.1]]),(3,.dat 6 (o.2.2.2.map qw)),(2,.dat 2 [[.sl 4 (c.Region.map qm),G c.Height]])] 4 (qsn b.2.2.2.2.2 b.2.2.1 b.2.2.2.1 b.2.2.2.2.1 b.1 (w64 (b.1 + c.Height)) c.Region o al)<|q8<|qs<|U J<|O (.ref 2 2 0 1) J<|O (q6 c.Height) J<|O (.d (G (w64 (b.1 + c.Height)))) J<|q9 J<|qr<|Q9<|qs<|O (.d (G (w64 (b.2.1 + 1)))) J<|U J<|qr ?_
   exact ⟨_,(Option.some.inj h).symm,wkA [(0,0),(1,3)] [] []⟩
  refine Q1 ?_
  refine ⟨_,(Option.some.inj h).symm,fun hm=>?_⟩
  subst hm
  exact ⟨_,J,wkA [(0,0),(1,1)] [] []⟩
 intro j hb
 subst hb
 refine qb ?_
 obtain ⟨am,p,a⟩:=q7 a
 refine q7b [.ref 0 4 0 0] (fun k=>k = am) (fun (k : Int × List qg)=>⟨[(59,.tup [.hs 0 6 0 k.2.length,q6 k.1])],[(0,.dat 6 (k.2.map qw))],1⟩) J J Tryz.func52 J (by kernel_rfl) (by kernel_rfl) J ?_ ?_
 ·refine qb<|q9 J<|q9 J<|q8<|qe<|qb<|U J<|O (.ref 0 4 0 0) J<|O (.ref 0 4 0 0) J<|O (.hs 1 6 0 j.2.2.2.length) J<|O (q6 (j.2.2.2.length : Int)) J<|O (.d (.bool (decide ((j.2.2.2.length : Int) > 400)))) J<|q8 ?_
  refine qk J p (fun _ p=>?_) (fun _ p=>?_)
  ·refine qb<|q9 J<|q9 J<|qn ?_
   refine ⟨.inr J,_,J,?_⟩
   obtain rfl:=qc p
   exact ⟨_,J,wkA [] [] [0]⟩
  refine ql<|qb<|U J<|O (.ref 0 4 0 0) J<|O (.ref 0 4 0 0) J<|O (.hs 1 6 0 j.2.2.2.length) J<|q9 J<|q9 J<|qn ?_
  refine ⟨.inr J,_,J,?_⟩
  obtain rfl:=qc p
  exact ⟨_,J,wkA [(0,1)] [] []⟩
 intro k hb
 subst hb
 refine O (.hs 0 6 0 k.2.length) J<|O (q6 k.1) J<|q9 J<|q9 J<|qn ?_
 obtain rfl:=qc a
 exact finD (.inr J) (v:=.tup [.hs 0 6 0 k.2.length,q6 k.1]) J (q9d (Ji (Z9 J J) (Ji J J))) (.refl _)
theorem qdx (f : List qg) (h : Int) (g : Int) (r : List qj × Int) (c : q3b f h g = some r) : Pure Tryz.prog tab 31 [.sl 6 (f.map qw),G h,G g] (.tup [.sl 2 (r.1.map Q3),G r.2]):=by
 unfold q3b at c
 refine Qc Tryz.func31 J (by kernel_rfl) (by kernel_rfl) J<|qb<|q9 J<|q9 J<|q8<|qe<|qb<|U J ?_
 obtain ⟨s,h2,c⟩:=q7 c
 refine qt (qeh f s h2) J<|q9 J<|qp<|U J<|O (qd (s != 0)) J<|q8 ?_
 refine qk J c (fun _ c=>?_) (fun _ c=>?_)
 ·refine qb<|U J<|q9 J<|q9 J<|qn ?_
  obtain rfl:=qc c
  exact finD (.inr J) (v:=.d (.tup [.nilsl,G s])) J J (Ys (.cons (.nil _) (.cons (.refl _) .nil)))
 refine ql<|qb<|q9 J<|q8<|qe<|qb<|U J<|Qg J<|U J<|q8 ?_
 obtain ⟨t,ao,c⟩:=q7 c
 refine Qb (fun l=>l = t) (fun (l : List qj)=>⟨[(9,.hs 0 2 0 l.length)],[(0,.dat 2 (l.map Q3))],1⟩) (by simp) ?_ ?_
 ·refine Q7 (q4w f h g) (fun (j : Int × List qj)=>⟨[(1,q6 h),(2,q6 g),(9,.hs 0 2 0 j.2.length),(17,.d (.sl 6 (f.map qw))),(18,q6 (f.length : Int)),(19,q6 j.1)],[(0,.dat 2 (j.2.map Q3))],1⟩) (0,[]) t ao (wkA [] [] [0]) ?_
  intro j ay k
  unfold q4w at k
  refine qb<|O (.d (.bool (decide (j.1 < (f.length : Int))))) J<|q8<|qe ?_
  refine qk J k (fun _ k=>?_) (fun _ k=>?_)
  ·refine ql<|qe ?_
   obtain ⟨ap,b,k⟩:=q7 k
   refine Qb (fun m=>m = ap) (fun (m : List qj)=>⟨[(1,q6 h),(2,q6 g),(9,.hs 0 2 0 m.length),(17,.d (.sl 6 (f.map qw))),(18,q6 (f.length : Int)),(19,q6 j.1)],[(0,.dat 2 (m.map Q3))],1⟩) (by simp) ?_ ?_
   ·refine qb ?_
    obtain ⟨a,aq,b⟩:=q7 b
    refine Q5 (enc:=qw) aq J<|O (.d (.agg [G a.Lo.X,G a.Lo.Y,G a.Lo.Z,G a.Hi.X,G a.Hi.Y,G a.Hi.Z])) J<|Qo J J<|Q8 1 (.dat 6 [[G a.Lo.X,G a.Lo.Y,G a.Lo.Z,G a.Hi.X,G a.Hi.Y,G a.Hi.Z]]) J<|qp<|O (.ref 1 6 0 0) J<|O (.ref 1 6 0 0) J<|O (q6 a.Lo.X) J<|U J<|O (.d (.bool (decide (a.Lo.X≤h)))) J ?_
    obtain ⟨ar,n,b⟩:=q7 b
    refine Q0 7 (fun A st=>∃ (u w x y z aa : V),st = A [(34,qd ar),(33,aa),(32,z),(31,y),(30,x),(29,w),(28,u)]) ?_ ?_
    ·refine qy J J n (fun n=>?_) (fun n=>?_)
     ·refine U J<|O (.ref 1 6 0 3) J<|O (.ref 1 6 0 3) J<|O (q6 a.Hi.X) J<|O (.d (.bool (decide (h < a.Hi.X)))) J<|O (.d (.bool (decide (h < a.Hi.X)))) J<|q8 ?_
      obtain rfl:=qc n
      exact ⟨_,_,_,_,_,_,J⟩
     refine qa J<|qa J<|qa J<|qa J<|qa J<|O (qd false) J<|q8 ?_
     obtain rfl:=qc n
     exact ⟨_,_,_,_,_,_,J⟩
    rintro _ ⟨u,w,x,y,z,aa,rfl⟩
    obtain ⟨au,o,b⟩:=q7 b
    refine Q0 7 (fun A st=>∃ (ab ac ad ae af ag : V),st = A [(41,qd au),(40,ag),(39,af),(38,ae),(37,ad),(36,ac),(35,ab)]) ?_ ?_
    ·refine qy J J o (fun o=>?_) (fun o=>?_)
     ·refine O (.ref 1 6 0 0) J<|O (.ref 1 6 0 1) J<|O (q6 a.Lo.Y) J<|U J<|O (.d (.bool (decide (a.Lo.Y≤g)))) J<|O (.d (.bool (decide (a.Lo.Y≤g)))) J<|q8 ?_
      obtain rfl:=qc o
      exact ⟨_,_,_,_,_,_,J⟩
     refine qa J<|qa J<|qa J<|qa J<|qa J<|O (qd false) J<|q8 ?_
     obtain rfl:=qc o
     exact ⟨_,_,_,_,_,_,J⟩
    rintro _ ⟨ab,ac,ad,ae,af,ag,rfl⟩
    obtain ⟨av,p,b⟩:=q7 b
    refine Q0 7 (fun A st=>∃ (ah ai aj ak al am : V),st = A [(48,qd av),(47,am),(46,al),(45,ak),(44,aj),(43,ai),(42,ah)]) ?_ ?_
    ·refine qy J J p (fun p=>?_) (fun p=>?_)
     ·refine U J<|O (.ref 1 6 0 3) J<|O (.ref 1 6 0 4) J<|O (q6 a.Hi.Y) J<|O (.d (.bool (decide (g < a.Hi.Y)))) J<|O (.d (.bool (decide (g < a.Hi.Y)))) J<|q8 ?_
      obtain rfl:=qc p
      exact ⟨_,_,_,_,_,_,J⟩
     refine qa J<|qa J<|qa J<|qa J<|qa J<|O (qd false) J<|q8 ?_
     obtain rfl:=qc p
     exact ⟨_,_,_,_,_,_,J⟩
    rintro _ ⟨ah,ai,aj,ak,al,am,rfl⟩
    refine q8 ?_
    refine qk J b (fun _ b=>?_) (fun _ b=>?_)
    ·refine qs<|U J<|O (.ref 1 6 0 0) J<|O (.ref 1 6 0 2) J<|O (q6 a.Lo.Z) J<|O (.ref 1 6 0 3) J<|O (.ref 1 6 0 5) J<|O (q6 a.Hi.Z) J<|O (.d (.agg [G a.Lo.Z,G a.Hi.Z])) J<|Qh (.hs 2 2 0 [({Lo:=a.Lo.Z,Hi:=a.Hi.Z} : qj)].length) (.dat 2 ([({Lo:=a.Lo.Z,Hi:=a.Hi.Z} : qj)].map Q3)) J ?_
     obtain ⟨az,aw,b⟩:=q7 b
     refine Ko (xs:=j.2) (ys:=[({Lo:=a.Lo.Z,Hi:=a.Hi.Z} : qj)]) (enc:=Q3) (.hs 2 2 0 [({Lo:=a.Lo.Z,Hi:=a.Hi.Z} : qj)].length) aw J J J J J J J (Kl J J) J J J J<|q9 J<|qr ?_
     obtain rfl:=qc b
     exact ⟨_,J,wkA [(0,3)] [] []⟩
    refine ql<|Qa ?_
    obtain rfl:=qc b
    exact ⟨_,J,wkA [(0,0)] [] []⟩
   intro m hb
   subst hb
   refine qs<|O (.d (G (w64 (j.1 + 1)))) J<|U J<|qr ?_
   exact ⟨_,(Option.some.inj k).symm,wkA [(0,0)] [] []⟩
  refine Q1 ?_
  refine ⟨_,(Option.some.inj k).symm,fun hm=>?_⟩
  subst hm
  exact ⟨_,J,wkA [(0,0)] [] []⟩
 intro l hb
 subst hb
 refine qe ?_
 refine Yj (st':=⟨[(9,.d (.sl 2 (l.map Q3)))],[],0⟩) (wkA [] [0] []) ?_ (by simp)
 refine qs<|U J ?_
 obtain ⟨q,ax,c⟩:=q7 c
 refine qt (qkh l q ax) J<|O (.d (.sl 2 (q.1.map Q3))) J<|O (q6 q.2) J<|q9 J<|q9 J<|qn ?_
 obtain rfl:=qc c
 exact qv (.d (.tup [.sl 2 (q.1.map Q3),G q.2])) J
theorem qpe (r : Q6) (a : qaf = some r) : Pure Tryz.prog tab 17 [] (.agg [.int .u8 r.Frame.Turn,G r.Frame.At.X,G r.Frame.At.Y,G r.Frame.At.Z,G r.Size.X,G r.Size.Y,G r.Size.Z]):=by
 unfold qaf at a
 refine Qc Tryz.func17 J (by kernel_rfl) (by kernel_rfl) J<|qb<|Qo J J<|qp<|O (.d (.agg [G 2,G 3,G 4])) J<|O (.d (.agg [.int .u8 0,G 0,G 0,G 0,G 2,G 3,G 4])) J<|Q8 0 (.dat 7 [[.int .u8 0,G 0,G 0,G 0,G 2,G 3,G 4]]) J<|qn ?_
 obtain rfl:=qc a
 exact qv (.d (.agg [.int .u8 0,G 0,G 0,G 0,G 2,G 3,G 4])) J
theorem qcn (a : qi) (f : Int) (r : Bool) (c : q2h a f = some r) : Pure Tryz.prog tab 108 [.agg [G a.X,G a.Y,G a.Z],G f] (.bool r):=by
 unfold q2h at c
 refine Qc Tryz.func108 J (by kernel_rfl) (by kernel_rfl) J<|qb<|Qh (.ref 0 3 0 0) (.dat 3 [[G a.X,G a.Y,G a.Z]]) J<|q9 J<|qp<|O (.ref 0 3 0 0) J<|O (q6 a.X) J<|O (.ref 0 3 0 1) J<|O (q6 a.Y) J<|O (.ref 0 3 0 2) J<|O (q6 a.Z) J<|qdg (r:=min (min a.X a.Y) a.Z) J J (by simp only [qd6];rfl)<|U J<|O (.d (.bool (decide ((min (min a.X a.Y) a.Z) ≥ f)))) J ?_
 obtain ⟨g,b,c⟩:=q7 c
 refine Q0 10 (fun A st=>∃ (h j k l m n o p q : V),st = A [(23,qd g),(22,q),(21,p),(20,o),(19,n),(18,m),(17,l),(16,k),(15,j),(14,h)]) ?_ ?_
 ·refine qy J J b (fun b=>?_) (fun b=>?_)
  ·refine O (.ref 0 3 0 0) J<|O (q6 a.X) J<|O (.ref 0 3 0 1) J<|O (q6 a.Y) J<|O (.ref 0 3 0 2) J<|O (q6 a.Z) J<|qdf (r:=max (max a.X a.Y) a.Z) J J (by simp only [qd5];rfl)<|O (.d (.bool (decide ((max (max a.X a.Y) a.Z)≤1000000)))) J<|O (.d (.bool (decide ((max (max a.X a.Y) a.Z)≤1000000)))) J<|q8 ?_
   obtain rfl:=qc b
   exact ⟨_,_,_,_,_,_,_,_,_,J⟩
  refine qa J<|qa J<|qa J<|qa J<|qa J<|qa J<|qa J<|qa J<|O (qd false) J<|q8 ?_
  obtain rfl:=qc b
  exact ⟨_,_,_,_,_,_,_,_,_,J⟩
 rintro _ ⟨h,j,k,l,m,n,o,p,q,rfl⟩
 refine q9 J<|qn ?_
 obtain rfl:=qc c
 exact qv (qd g) J
theorem q71 (a : Qn) (r : Int) (b : Uf a = some r) : Pure Tryz.prog tab 107 [.agg [.int .u8 a.Turn,G a.At.X,G a.At.Y,G a.At.Z]] (G r):=by
 unfold Uf at b
 refine Qc Tryz.func107 J (by kernel_rfl) (by kernel_rfl) J<|qb<|Qh (.ref 0 4 0 0) (.dat 4 [[.int .u8 a.Turn,G a.At.X,G a.At.Y,G a.At.Z]]) J<|q9 J<|q8<|qe<|qb<|O (.ref 0 4 0 0) J<|O (.d (.int .u8 a.Turn)) J<|O (.d (.bool (decide (a.Turn ≥ 24)))) J ?_
 obtain ⟨m,c,b⟩:=q7 b
 refine Q0 6 (fun A st=>∃ (g h j k l : V),st = A [(11,qd m),(10,l),(9,k),(8,j),(7,h),(6,g)]) ?_ ?_
 ·refine qy J J c (fun c=>?_) (fun c=>?_)
  ·refine qa J<|qa J<|qa J<|qa J<|O (qd true) J<|q8 ?_
   obtain rfl:=qc c
   exact ⟨_,_,_,_,_,J⟩
  refine O (.ref 0 4 0 1) J<|O (.d (.agg [G a.At.X,G a.At.Y,G a.At.Z])) J ?_
  obtain ⟨f,n,c⟩:=q7 c
  refine qt (qcn a.At (-1000000) f n) J<|O (qd (!f)) J<|O (qd (!f)) J<|q8 ?_
  obtain rfl:=qc c
  exact ⟨_,_,_,_,_,J⟩
 rintro _ ⟨g,h,j,k,l,rfl⟩
 refine q8 ?_
 refine qk J b (fun _ b=>?_) (fun _ b=>?_)
 ·refine qb<|q9 J<|qn ?_
  obtain rfl:=qc b
  exact qv (q6 8) J
 refine ql<|qb<|q9 J<|qn ?_
 obtain rfl:=qc b
 exact qv (q6 0) J
theorem qog (a : Q6) (r : Int) (b : q73 a = some r) : Pure Tryz.prog tab 106 [.agg [.int .u8 a.Frame.Turn,G a.Frame.At.X,G a.Frame.At.Y,G a.Frame.At.Z,G a.Size.X,G a.Size.Y,G a.Size.Z]] (G r):=by
 unfold q73 at b
 refine Qc Tryz.func106 J (by kernel_rfl) (by kernel_rfl) J<|qb<|Qh (.ref 0 7 0 0) (.dat 7 [[.int .u8 a.Frame.Turn,G a.Frame.At.X,G a.Frame.At.Y,G a.Frame.At.Z,G a.Size.X,G a.Size.Y,G a.Size.Z]]) J<|q9 J<|q8<|qe<|qb<|O (.ref 0 7 0 0) J<|O (.d (.agg [.int .u8 a.Frame.Turn,G a.Frame.At.X,G a.Frame.At.Y,G a.Frame.At.Z])) J ?_
 obtain ⟨g,n,b⟩:=q7 b
 refine qt (q71 a.Frame g n) J<|O (qd (g != 0)) J ?_
 obtain ⟨o,c,b⟩:=q7 b
 refine Q0 6 (fun A st=>∃ (h j k l m : V),st = A [(12,qd o),(11,m),(10,l),(9,k),(8,j),(7,h)]) ?_ ?_
 ·refine qy J J c (fun c=>?_) (fun c=>?_)
  ·refine qa J<|qa J<|qa J<|qa J<|O (qd true) J<|q8 ?_
   obtain rfl:=qc c
   exact ⟨_,_,_,_,_,J⟩
  refine O (.ref 0 7 0 4) J<|O (.d (.agg [G a.Size.X,G a.Size.Y,G a.Size.Z])) J ?_
  obtain ⟨f,p,c⟩:=q7 c
  refine qt (qcn a.Size 0 f p) J<|O (qd (!f)) J<|O (qd (!f)) J<|q8 ?_
  obtain rfl:=qc c
  exact ⟨_,_,_,_,_,J⟩
 rintro _ ⟨h,j,k,l,m,rfl⟩
 refine q8 ?_
 refine qk J b (fun _ b=>?_) (fun _ b=>?_)
 ·refine qb<|q9 J<|qn ?_
  obtain rfl:=qc b
  exact qv (q6 8) J
 refine ql<|qb<|q9 J<|qn ?_
 obtain rfl:=qc b
 exact qv (q6 0) J
theorem qh3 (a : Int) (r : qi) (b : qa6 a = some r) : Pure Tryz.prog tab 173 [.int .u8 a] (.agg [G r.X,G r.Y,G r.Z]):=by
 unfold qa6 at b
 refine Qc Tryz.func173 J (by kernel_rfl) (by kernel_rfl) J<|qb<|Qo J J<|qp<|U J<|O (.d (.int .u8 (Int.tmod a 2))) J<|O (.d (G (w64 (Int.tmod a 2)))) J<|O (.d (G (w64 (2 * (w64 (Int.tmod a 2)))))) J<|O (.d (G (w64 (1 - (w64 (2 * (w64 (Int.tmod a 2)))))))) J<|q9 J<|q8<|qe<|qb<|U J<|O (.d (.int .u8 (IntKind.wrap .u8 (Int.tdiv a 2)))) J<|q8<|qu<|qb<|O (.d (.bool ((IntKind.wrap .u8 (Int.tdiv a 2)) == 0))) J<|q9 J<|q8 ?_
 refine qk J b (fun _ b=>?_) (fun _ b=>?_)
 ·refine qb<|U J<|O (.d (.agg [G (w64 (1 - (w64 (2 * (w64 (Int.tmod a 2)))))),G 0,G 0])) J<|Q8 0 (.dat 3 [[G (w64 (1 - (w64 (2 * (w64 (Int.tmod a 2)))))),G 0,G 0]]) J<|qn ?_
  obtain rfl:=qc b
  exact qv (.d (.agg [G (w64 (1 - (w64 (2 * (w64 (Int.tmod a 2)))))),G 0,G 0])) J
 refine qb<|O (.d (.bool ((IntKind.wrap .u8 (Int.tdiv a 2)) == 1))) J<|q9 J<|q8 ?_
 refine qk J b (fun _ b=>?_) (fun _ b=>?_)
 ·refine qb<|U J<|O (.d (.agg [G 0,G (w64 (1 - (w64 (2 * (w64 (Int.tmod a 2)))))),G 0])) J<|Q8 0 (.dat 3 [[G 0,G (w64 (1 - (w64 (2 * (w64 (Int.tmod a 2)))))),G 0]]) J<|qn ?_
  obtain rfl:=qc b
  exact qv (.d (.agg [G 0,G (w64 (1 - (w64 (2 * (w64 (Int.tmod a 2)))))),G 0])) J
 refine ql<|Qa<|Q9<|qb<|U J<|O (.d (.agg [G 0,G 0,G (w64 (1 - (w64 (2 * (w64 (Int.tmod a 2))))))])) J<|Q8 0 (.dat 3 [[G 0,G 0,G (w64 (1 - (w64 (2 * (w64 (Int.tmod a 2))))))]]) J<|qn ?_
 obtain rfl:=qc b
 exact qv (.d (.agg [G 0,G 0,G (w64 (1 - (w64 (2 * (w64 (Int.tmod a 2))))))])) J
theorem qoh (a : qi) (b : qi) (r : qi) (c : qcm a b = some r) : Pure Tryz.prog tab 174 [.agg [G a.X,G a.Y,G a.Z],.agg [G b.X,G b.Y,G b.Z]] (.agg [G r.X,G r.Y,G r.Z]):=by
 unfold qcm at c
 refine Qc Tryz.func174 J (by kernel_rfl) (by kernel_rfl) J<|qb<|Qh (.ref 0 3 0 0) (.dat 3 [[G a.X,G a.Y,G a.Z]]) J<|Qh (.ref 1 3 0 0) (.dat 3 [[G b.X,G b.Y,G b.Z]]) J<|Qo J J<|qp<|O (.ref 0 3 0 1) J<|O (q6 a.Y) J<|O (.ref 1 3 0 2) J<|O (q6 b.Z) J<|O (.d (G (w64 (a.Y * b.Z)))) J<|O (.ref 0 3 0 2) J<|O (q6 a.Z) J<|O (.ref 1 3 0 1) J<|O (q6 b.Y) J<|O (.d (G (w64 (a.Z * b.Y)))) J<|O (.d (G (w64 ((w64 (a.Y * b.Z)) - (w64 (a.Z * b.Y)))))) J<|O (.ref 0 3 0 2) J<|O (q6 a.Z) J<|O (.ref 1 3 0 0) J<|O (q6 b.X) J<|O (.d (G (w64 (a.Z * b.X)))) J<|O (.ref 0 3 0 0) J<|O (q6 a.X) J<|O (.ref 1 3 0 2) J<|O (q6 b.Z) J<|O (.d (G (w64 (a.X * b.Z)))) J<|O (.d (G (w64 ((w64 (a.Z * b.X)) - (w64 (a.X * b.Z)))))) J<|O (.ref 0 3 0 0) J<|O (q6 a.X) J<|O (.ref 1 3 0 1) J<|O (q6 b.Y) J<|O (.d (G (w64 (a.X * b.Y)))) J<|O (.ref 0 3 0 1) J<|O (q6 a.Y) J<|O (.ref 1 3 0 0) J<|O (q6 b.X) J<|O (.d (G (w64 (a.Y * b.X)))) J<|O (.d (G (w64 ((w64 (a.X * b.Y)) - (w64 (a.Y * b.X)))))) J<|O (.d (.agg [G (w64 ((w64 (a.Y * b.Z)) - (w64 (a.Z * b.Y)))),G (w64 ((w64 (a.Z * b.X)) - (w64 (a.X * b.Z)))),G (w64 ((w64 (a.X * b.Y)) - (w64 (a.Y * b.X))))])) J ?_
 refine Q8 2 (.dat 3 [[G (w64 ((w64 (a.Y * b.Z)) - (w64 (a.Z * b.Y)))),G (w64 ((w64 (a.Z * b.X)) - (w64 (a.X * b.Z)))),G (w64 ((w64 (a.X * b.Y)) - (w64 (a.Y * b.X))))]]) J<|qn ?_
 obtain rfl:=qc c
 exact qv (.d (.agg [G (w64 ((w64 (a.Y * b.Z)) - (w64 (a.Z * b.Y)))),G (w64 ((w64 (a.Z * b.X)) - (w64 (a.X * b.Z)))),G (w64 ((w64 (a.X * b.Y)) - (w64 (a.Y * b.X))))])) J
theorem qa5 (c : Int) (r : (qi × qi × qi)) (f : q17 c = some r) : Pure Tryz.prog tab 158 [.int .u8 c] (.agg [G r.1.X,G r.1.Y,G r.1.Z,G r.2.1.X,G r.2.1.Y,G r.2.1.Z,G r.2.2.X,G r.2.2.Y,G r.2.2.Z]):=by
 unfold q17 at f
 refine Qc Tryz.func158 J (by kernel_rfl) (by kernel_rfl) J<|qb<|Qo J J<|qp<|U J<|O (.d (.int .u8 (IntKind.wrap .u8 (Int.tdiv c 4)))) J<|q9 J<|qp<|U J<|O (.d (.int .u8 (Int.tmod c 4))) J<|q9 J<|q8<|qe<|qb<|U J<|U J<|O (.d (.int .u8 (IntKind.wrap .u8 (Int.tdiv (IntKind.wrap .u8 (Int.tdiv c 4)) 2)))) J<|O (.d (.int .u8 (IntKind.wrap .u8 ((IntKind.wrap .u8 (Int.tdiv (IntKind.wrap .u8 (Int.tdiv c 4)) 2)) * 2)))) J<|O (.d (.bool (decide ((Int.tmod c 4) ≥ (IntKind.wrap .u8 ((IntKind.wrap .u8 (Int.tdiv (IntKind.wrap .u8 (Int.tdiv c 4)) 2)) * 2)))))) J<|q8 ?_
 obtain ⟨k,h,f⟩:=q7 f
 refine Y2 (fun j=>j = k) (fun (j : Int)=>⟨[(2,.ref 0 9 0 0),(3,.d (.int .u8 (IntKind.wrap .u8 (Int.tdiv c 4)))),(4,.d (.int .u8 j))],[(0,.dat 9 [[G 0,G 0,G 0,G 0,G 0,G 0,G 0,G 0,G 0]])],1⟩) (by simp) ?_ ?_
 ·refine qk J h (fun _ h=>?_) (fun _ h=>?_)
  ·refine qs<|U J<|O (.d (.int .u8 (IntKind.wrap .u8 ((Int.tmod c 4) + 2)))) J<|q9 J<|qr ?_
   obtain rfl:=qc h
   exact ⟨_,J,wkA [(0,0)] [] []⟩
  refine ql<|Qa ?_
  obtain rfl:=qc h
  exact ⟨_,J,wkA [(0,0)] [] []⟩
 intro j hb
 subst hb
 refine qb<|U J ?_
 obtain ⟨a,l,f⟩:=q7 f
 refine qt (qh3 (IntKind.wrap .u8 (Int.tdiv c 4)) a l) J<|U J ?_
 obtain ⟨b,m,f⟩:=q7 f
 refine qt (qh3 j b m) J<|Qo J J<|Qo J J<|Q8 1 (.dat 3 [[G a.X,G a.Y,G a.Z]]) J<|Q8 2 (.dat 3 [[G b.X,G b.Y,G b.Z]]) J<|q8<|qe<|Q4 [Qd 0,q0,q0,qo 2,qo 1,qo 2,qo 1] (by kernel_rfl)<|O (.d (.agg [G a.X,G a.Y,G a.Z])) J<|O (.d (.agg [G b.X,G b.Y,G b.Z])) J<|O (.d (.agg [G a.X,G a.Y,G a.Z])) J<|O (.d (.agg [G b.X,G b.Y,G b.Z])) J ?_
 obtain ⟨g,n,f⟩:=q7 f
 refine qt (qoh a b g n) J<|O (.d (.agg [G a.X,G a.Y,G a.Z,G b.X,G b.Y,G b.Z,G g.X,G g.Y,G g.Z])) J<|Q8 0 (.dat 9 [[G a.X,G a.Y,G a.Z,G b.X,G b.Y,G b.Z,G g.X,G g.Y,G g.Z]]) J<|qn ?_
 obtain rfl:=qc f
 exact qv (.d (.agg [G a.X,G a.Y,G a.Z,G b.X,G b.Y,G b.Z,G g.X,G g.Y,G g.Z])) J
theorem qh4 (a : qi × qi × qi) (b : qi) (r : qi) (c : q4f a b = some r) : Pure Tryz.prog tab 157 [.agg [G a.1.X,G a.1.Y,G a.1.Z,G a.2.1.X,G a.2.1.Y,G a.2.1.Z,G a.2.2.X,G a.2.2.Y,G a.2.2.Z],.agg [G b.X,G b.Y,G b.Z]] (.agg [G r.X,G r.Y,G r.Z]):=by
 unfold q4f at c
 refine Qc Tryz.func157 J (by kernel_rfl) (by kernel_rfl) J<|qb<|Qh (.ref 0 9 0 0) (.dat 9 [[G a.1.X,G a.1.Y,G a.1.Z,G a.2.1.X,G a.2.1.Y,G a.2.1.Z,G a.2.2.X,G a.2.2.Y,G a.2.2.Z]]) J<|Qh (.ref 1 3 0 0) (.dat 3 [[G b.X,G b.Y,G b.Z]]) J<|Qo J J<|qp<|O (.ref 1 3 0 0) J<|O (q6 b.X) J<|O (.ref 0 9 0 0) J<|O (.ref 0 9 0 0) J<|O (q6 a.1.X) J<|O (.d (G (w64 (b.X * a.1.X)))) J<|O (.ref 1 3 0 1) J<|O (q6 b.Y) J<|O (.ref 0 9 0 3) J<|O (.ref 0 9 0 3) J<|O (q6 a.2.1.X) J<|O (.d (G (w64 (b.Y * a.2.1.X)))) J<|O (.d (G (w64 ((w64 (b.X * a.1.X)) + (w64 (b.Y * a.2.1.X)))))) J<|O (.ref 1 3 0 2) J<|O (q6 b.Z) J<|O (.ref 0 9 0 6) J<|O (.ref 0 9 0 6) J<|O (q6 a.2.2.X) J<|O (.d (G (w64 (b.Z * a.2.2.X)))) J<|O (.d (G (w64 ((w64 ((w64 (b.X * a.1.X)) + (w64 (b.Y * a.2.1.X)))) + (w64 (b.Z * a.2.2.X)))))) J<|O (.ref 1 3 0 0) J<|O (q6 b.X) J<|O (.ref 0 9 0 0) J<|O (.ref 0 9 0 1) J<|O (q6 a.1.Y) J<|O (.d (G (w64 (b.X * a.1.Y)))) J<|O (.ref 1 3 0 1) J<|O (q6 b.Y) J<|O (.ref 0 9 0 3) J<|O (.ref 0 9 0 4) J<|O (q6 a.2.1.Y) J<|O (.d (G (w64 (b.Y * a.2.1.Y)))) J<|O (.d (G (w64 ((w64 (b.X * a.1.Y)) + (w64 (b.Y * a.2.1.Y)))))) J<|O (.ref 1 3 0 2) J ?_
 refine O (q6 b.Z) J<|O (.ref 0 9 0 6) J<|O (.ref 0 9 0 7) J<|O (q6 a.2.2.Y) J<|O (.d (G (w64 (b.Z * a.2.2.Y)))) J<|O (.d (G (w64 ((w64 ((w64 (b.X * a.1.Y)) + (w64 (b.Y * a.2.1.Y)))) + (w64 (b.Z * a.2.2.Y)))))) J<|O (.ref 1 3 0 0) J<|O (q6 b.X) J<|O (.ref 0 9 0 0) J<|O (.ref 0 9 0 2) J<|O (q6 a.1.Z) J<|O (.d (G (w64 (b.X * a.1.Z)))) J<|O (.ref 1 3 0 1) J<|O (q6 b.Y) J<|O (.ref 0 9 0 3) J<|O (.ref 0 9 0 5) J<|O (q6 a.2.1.Z) J<|O (.d (G (w64 (b.Y * a.2.1.Z)))) J<|O (.d (G (w64 ((w64 (b.X * a.1.Z)) + (w64 (b.Y * a.2.1.Z)))))) J<|O (.ref 1 3 0 2) J<|O (q6 b.Z) J<|O (.ref 0 9 0 6) J<|O (.ref 0 9 0 8) J<|O (q6 a.2.2.Z) J<|O (.d (G (w64 (b.Z * a.2.2.Z)))) J<|O (.d (G (w64 ((w64 ((w64 (b.X * a.1.Z)) + (w64 (b.Y * a.2.1.Z)))) + (w64 (b.Z * a.2.2.Z)))))) J<|O (.d (.agg [G (w64 ((w64 ((w64 (b.X * a.1.X)) + (w64 (b.Y * a.2.1.X)))) + (w64 (b.Z * a.2.2.X)))),G (w64 ((w64 ((w64 (b.X * a.1.Y)) + (w64 (b.Y * a.2.1.Y)))) + (w64 (b.Z * a.2.2.Y)))),G (w64 ((w64 ((w64 (b.X * a.1.Z)) + (w64 (b.Y * a.2.1.Z)))) + (w64 (b.Z * a.2.2.Z))))])) J<|Q8 2 (.dat 3 [[G (w64 ((w64 ((w64 (b.X * a.1.X)) + (w64 (b.Y * a.2.1.X)))) + (w64 (b.Z * a.2.2.X)))),G (w64 ((w64 ((w64 (b.X * a.1.Y)) + (w64 (b.Y * a.2.1.Y)))) + (w64 (b.Z * a.2.2.Y)))),G (w64 ((w64 ((w64 (b.X * a.1.Z)) + (w64 (b.Y * a.2.1.Z)))) + (w64 (b.Z * a.2.2.Z))))]]) J<|qn ?_
 obtain rfl:=qc c
 exact qv (.d (.agg [G (w64 ((w64 ((w64 (b.X * a.1.X)) + (w64 (b.Y * a.2.1.X)))) + (w64 (b.Z * a.2.2.X)))),G (w64 ((w64 ((w64 (b.X * a.1.Y)) + (w64 (b.Y * a.2.1.Y)))) + (w64 (b.Z * a.2.2.Y)))),G (w64 ((w64 ((w64 (b.X * a.1.Z)) + (w64 (b.Y * a.2.1.Z)))) + (w64 (b.Z * a.2.2.Z))))])) J
theorem qok (a : qi × qi × qi) (r : Int) (g : q75 a = some r) : Pure Tryz.prog tab 163 [.agg [G a.1.X,G a.1.Y,G a.1.Z,G a.2.1.X,G a.2.1.Y,G a.2.1.Z,G a.2.2.X,G a.2.2.Y,G a.2.2.Z]] (.int .u8 r):=by
 unfold q75 at g
 refine Qc Tryz.func163 J (by kernel_rfl) (by kernel_rfl) J<|qb<|Qh (.ref 0 9 0 0) (.dat 9 [[G a.1.X,G a.1.Y,G a.1.Z,G a.2.1.X,G a.2.1.Y,G a.2.1.Z,G a.2.2.X,G a.2.2.Y,G a.2.2.Z]]) J<|q9 J<|q8<|qe<|qb<|U J<|q8 ?_
 obtain ⟨j,k,g⟩:=q7 g
 refine Qb (fun h=>.inl h = j) (fun (h : Unit)=>⟨[],[],0⟩) (by simp) ?_ ?_
 ·refine Q7 (q4e a) (fun (f : Int)=>⟨[(1,.ref 0 9 0 0),(4,.d (.int .u8 f))],[(0,.dat 9 [[G a.1.X,G a.1.Y,G a.1.Z,G a.2.1.X,G a.2.1.Y,G a.2.1.Z,G a.2.2.X,G a.2.2.Y,G a.2.2.Z]])],1⟩) 0 j k (wkA [(0,0)] [] []) ?_
  intro f m b
  unfold q4e at b
  refine qb<|O (.d (.bool (decide (f < 24)))) J<|q8<|qe ?_
  refine qk J b (fun _ b=>?_) (fun _ b=>?_)
  ·refine ql<|qe<|qu<|qb<|U J<|q9 J<|q8<|qe<|Q4 [q0,qo 0,q0,q0] (by kernel_rfl)<|U J ?_
   obtain ⟨c,l,b⟩:=q7 b
   refine qt (qa5 f c l) J<|O (.d (.agg [G a.1.X,G a.1.Y,G a.1.Z,G a.2.1.X,G a.2.1.Y,G a.2.1.Z,G a.2.2.X,G a.2.2.Y,G a.2.2.Z])) J<|O (.d (.bool ((c.1.X == a.1.X) && ((c.1.Y == a.1.Y) && ((c.1.Z == a.1.Z) && ((c.2.1.X == a.2.1.X) && ((c.2.1.Y == a.2.1.Y) && ((c.2.1.Z == a.2.1.Z) && ((c.2.2.X == a.2.2.X) && ((c.2.2.Y == a.2.2.Y) && ((c.2.2.Z == a.2.2.Z) && true))))))))))) J<|q8 ?_
   refine qk J b (fun _ b=>?_) (fun _ b=>?_)
   ·refine qb<|U J<|q9 J<|qn ?_
    refine ⟨_,(Option.some.inj b).symm,fun hm=>?_⟩
    subst hm
    obtain rfl:=qc g
    exact qv (.d (.int .u8 f)) J
   refine ql<|Qa<|Q9<|qs<|O (.d (.int .u8 (IntKind.wrap .u8 (f + 1)))) J<|U J<|qr ?_
   exact ⟨_,(Option.some.inj b).symm,wkA [(0,0)] [] []⟩
  refine Q1 ?_
  refine ⟨_,(Option.some.inj b).symm,fun hm=>?_⟩
  subst hm
  exact ⟨_,J,wkA [] [] []⟩
 intro h hb
 subst hb
 refine qb<|q9 J<|qn ?_
 obtain rfl:=qc g
 exact qv (.d (.int .u8 0)) J
theorem qoj (a : Qn) (c : qi) (r : qi) (f : q74 a c = some r) : Pure Tryz.prog tab 133 [.agg [.int .u8 a.Turn,G a.At.X,G a.At.Y,G a.At.Z],.agg [G c.X,G c.Y,G c.Z]] (.agg [G r.X,G r.Y,G r.Z]):=by
 unfold q74 at f
 refine Qc Tryz.func133 J (by kernel_rfl) (by kernel_rfl) J<|qb<|Qh (.ref 0 4 0 0) (.dat 4 [[.int .u8 a.Turn,G a.At.X,G a.At.Y,G a.At.Z]]) J<|Qh (.ref 1 3 0 0) (.dat 3 [[G c.X,G c.Y,G c.Z]]) J<|Qo J J<|q8<|qe<|Q4 [Qd 1,q0,qo 1,q0,qo 0,q0] (by kernel_rfl)<|O (.ref 0 4 0 0) J<|O (.d (.int .u8 a.Turn)) J ?_
 obtain ⟨g,h,f⟩:=q7 f
 refine qt (qa5 a.Turn g h) J<|O (.d (.agg [G c.X,G c.Y,G c.Z])) J ?_
 obtain ⟨b,j,f⟩:=q7 f
 refine qt (qh4 g c b j) J<|Q8 1 (.dat 3 [[G b.X,G b.Y,G b.Z]]) J<|qp<|O (.ref 1 3 0 0) J<|O (q6 b.X) J<|O (.ref 0 4 0 1) J<|O (.ref 0 4 0 1) J<|O (q6 a.At.X) J<|O (.d (G (w64 (b.X + a.At.X)))) J<|O (.ref 1 3 0 1) J<|O (q6 b.Y) J<|O (.ref 0 4 0 1) J<|O (.ref 0 4 0 2) J<|O (q6 a.At.Y) J<|O (.d (G (w64 (b.Y + a.At.Y)))) J<|O (.ref 1 3 0 2) J<|O (q6 b.Z) J<|O (.ref 0 4 0 1) J<|O (.ref 0 4 0 3) J<|O (q6 a.At.Z) J<|O (.d (G (w64 (b.Z + a.At.Z)))) J<|O (.d (.agg [G (w64 (b.X + a.At.X)),G (w64 (b.Y + a.At.Y)),G (w64 (b.Z + a.At.Z))])) J<|Q8 2 (.dat 3 [[G (w64 (b.X + a.At.X)),G (w64 (b.Y + a.At.Y)),G (w64 (b.Z + a.At.Z))]]) J<|qn ?_
 obtain rfl:=qc f
 exact qv (.d (.agg [G (w64 (b.X + a.At.X)),G (w64 (b.Y + a.At.Y)),G (w64 (b.Z + a.At.Z))])) J
theorem qol (c : Qn) (b : Qn) (r : Qn) (f : q76 c b = some r) : Pure Tryz.prog tab 143 [.agg [.int .u8 c.Turn,G c.At.X,G c.At.Y,G c.At.Z],.agg [.int .u8 b.Turn,G b.At.X,G b.At.Y,G b.At.Z]] (.agg [.int .u8 r.Turn,G r.At.X,G r.At.Y,G r.At.Z]):=by
 unfold q76 at f
 refine Qc Tryz.func143 J (by kernel_rfl) (by kernel_rfl) J<|qb<|Qh (.ref 0 4 0 0) (.dat 4 [[.int .u8 c.Turn,G c.At.X,G c.At.Y,G c.At.Z]]) J<|Qh (.ref 1 4 0 0) (.dat 4 [[.int .u8 b.Turn,G b.At.X,G b.At.Y,G b.At.Z]]) J<|Qo J J<|q8<|qe<|Q4 [Qd 4,Qd 3,(some [],[4]),(some [],[3]),q0,qo 1,q0,q0,qo 0,q0] (by kernel_rfl)<|O (.ref 0 4 0 0) J<|O (.d (.int .u8 c.Turn)) J ?_
 obtain ⟨k,u,f⟩:=q7 f
 refine qt (qa5 c.Turn k u) J<|O (.ref 1 4 0 0) J<|O (.d (.int .u8 b.Turn)) J ?_
 obtain ⟨a,v,f⟩:=q7 f
 refine qt (qa5 b.Turn a v) J<|Qo J J<|Qo J J<|Q8 3 (.dat 9 [[k.1,k.2.1,k.2.2].flatMap q4b]) J<|Q8 4 (.dat 9 [[G a.1.X,G a.1.Y,G a.1.Z,G a.2.1.X,G a.2.1.Y,G a.2.1.Z,G a.2.2.X,G a.2.2.Y,G a.2.2.Z]]) J<|q8<|qe<|qb<|U J<|q8 ?_
 obtain ⟨p,w,f⟩:=q7 f
 refine Qb (fun m=>m = p) (fun (m : List qi)=>⟨[(2,.ref 0 4 0 0),(3,.ref 1 4 0 0),(4,.ref 2 4 0 0),(5,.ref 3 9 0 0)],[(0,.dat 4 [[.int .u8 c.Turn,G c.At.X,G c.At.Y,G c.At.Z]]),(1,.dat 4 [[.int .u8 b.Turn,G b.At.X,G b.At.Y,G b.At.Z]]),(2,.dat 4 [[.int .u8 0,G 0,G 0,G 0]]),(3,.dat 9 [m.flatMap q4b])],4⟩) (by simp) ?_ ?_
 ·refine Q7 (q18 a) (fun (l : Int × List qi)=>⟨[(2,.ref 0 4 0 0),(3,.ref 1 4 0 0),(4,.ref 2 4 0 0),(5,.ref 3 9 0 0),(6,.ref 4 9 0 0),(14,q6 l.1)],[(0,.dat 4 [[.int .u8 c.Turn,G c.At.X,G c.At.Y,G c.At.Z]]),(1,.dat 4 [[.int .u8 b.Turn,G b.At.X,G b.At.Y,G b.At.Z]]),(2,.dat 4 [[.int .u8 0,G 0,G 0,G 0]]),(3,.dat 9 [l.2.flatMap q4b]),(4,.dat 9 [[G a.1.X,G a.1.Y,G a.1.Z,G a.2.1.X,G a.2.1.Y,G a.2.1.Z,G a.2.2.X,G a.2.2.Y,G a.2.2.Z]])],5⟩) (0,[k.1,k.2.1,k.2.2]) p w (wkA [(0,0),(1,1),(2,2),(3,3),(4,4)] [] []) ?_
  intro l ab g
  unfold q18 at g
  refine qb<|O (.d (.bool (decide (l.1 < 3)))) J<|q8<|qe ?_
  refine qk J g (fun _ g=>?_) (fun _ g=>?_)
  ·refine ql<|qe<|qu<|qb<|U J<|q9 J<|q8<|Q4 [Qd 3,q0,q0,qo 3,q0,q0,qo 4,q0] (by kernel_rfl)<|U J<|O (.d (.agg [G a.1.X,G a.1.Y,G a.1.Z,G a.2.1.X,G a.2.1.Y,G a.2.1.Z,G a.2.2.X,G a.2.2.Y,G a.2.2.Z])) J<|U J ?_
   obtain ⟨n,q,g⟩:=q7 g
   refine U5 q J J J J J<|qal (enc:=q4b) (.d (.agg [G n.X,G n.Y,G n.Z])) q (fun _=>rfl) J J J J J J ?_
   obtain ⟨s,x,g⟩:=q7 g
   refine qt (qh4 a n s x) J ?_
   obtain ⟨ac,t,g⟩:=q7 g
   refine U5 t J J J J J<|qdi (enc:=q4b) s t (fun _=>rfl) J J J J J J J J<|qr<|Q9<|qs<|O (.d (G (w64 (l.1 + 1)))) J<|U J<|qr ?_
   exact ⟨_,(Option.some.inj g).symm,wkA [(0,0),(1,1),(2,2),(3,3),(4,4)] [] []⟩
  refine Q1 ?_
  refine ⟨_,(Option.some.inj g).symm,fun hm=>?_⟩
  subst hm
  exact ⟨_,J,wkA [(0,0),(1,1),(2,2),(3,3)] [] []⟩
 intro m hb
 subst hb
 refine qe<|Q4 [Qd 2,q0,q0,qo 0,q0,qo 1,q0,qo 3] (by kernel_rfl) ?_
 obtain ⟨h,y,f⟩:=q7 f
 refine qil (enc:=q4b) (.d (.agg [G h.1.X,G h.1.Y,G h.1.Z,G h.2.1.X,G h.2.1.Y,G h.2.1.Z,G h.2.2.X,G h.2.2.Y,G h.2.2.Z])) (qlo y) J J J J J J ?_
 obtain ⟨o,z,f⟩:=q7 f
 refine qt (qok h o z) J<|O (.d (.agg [.int .u8 b.Turn,G b.At.X,G b.At.Y,G b.At.Z])) J<|O (.ref 0 4 0 1) J<|O (.d (.agg [G c.At.X,G c.At.Y,G c.At.Z])) J ?_
 obtain ⟨j,aa,f⟩:=q7 f
 refine qt (qoj b c.At j aa) J<|O (.d (.agg [.int .u8 o,G j.X,G j.Y,G j.Z])) J<|Q8 2 (.dat 4 [[.int .u8 o,G j.X,G j.Y,G j.Z]]) J<|qn ?_
 obtain rfl:=qc f
 exact qv (.d (.agg [.int .u8 o,G j.X,G j.Y,G j.Z])) J
theorem qof (c : Qn) (f : Qn) (r : Qn × Int) (a : q72 c f = some r) : Pure Tryz.prog tab 109 [.agg [.int .u8 c.Turn,G c.At.X,G c.At.Y,G c.At.Z],.agg [.int .u8 f.Turn,G f.At.X,G f.At.Y,G f.At.Z]] (.tup [.agg [.int .u8 r.1.Turn,G r.1.At.X,G r.1.At.Y,G r.1.At.Z],G r.2]):=by
 unfold q72 at a
 refine Qc Tryz.func109 J (by kernel_rfl) (by kernel_rfl) J<|qb<|Qh (.ref 0 4 0 0) (.dat 4 [[.int .u8 c.Turn,G c.At.X,G c.At.Y,G c.At.Z]]) J<|Qh (.ref 1 4 0 0) (.dat 4 [[.int .u8 f.Turn,G f.At.X,G f.At.Y,G f.At.Z]]) J<|Qo J J<|q9 J<|q8<|qe<|qb<|O (.d (.agg [.int .u8 c.Turn,G c.At.X,G c.At.Y,G c.At.Z])) J ?_
 obtain ⟨g,k,a⟩:=q7 a
 refine qt (q71 c g k) J<|q9 J<|qp<|U J<|O (qd (g != 0)) J<|q8 ?_
 refine qk J a (fun _ a=>?_) (fun _ a=>?_)
 ·refine qb<|O (.d (.agg [.int .u8 0,G 0,G 0,G 0])) J<|U J<|Q8 2 (.dat 4 [[.int .u8 0,G 0,G 0,G 0]]) J<|q9 J<|qn ?_
  obtain rfl:=qc a
  exact qv (.d (.tup [.agg [.int .u8 0,G 0,G 0,G 0],G g])) J
 refine ql<|qe<|qb<|O (.d (.agg [.int .u8 f.Turn,G f.At.X,G f.At.Y,G f.At.Z])) J ?_
 obtain ⟨h,l,a⟩:=q7 a
 refine qt (q71 f h l) J<|q9 J<|qp<|U J<|O (qd (h != 0)) J<|q8 ?_
 refine qk J a (fun _ a=>?_) (fun _ a=>?_)
 ·refine qb<|O (.d (.agg [.int .u8 0,G 0,G 0,G 0])) J<|U J<|Q8 2 (.dat 4 [[.int .u8 0,G 0,G 0,G 0]]) J<|q9 J<|qn ?_
  obtain rfl:=qc a
  exact qv (.d (.tup [.agg [.int .u8 0,G 0,G 0,G 0],G h])) J
 refine ql<|qb<|O (.d (.agg [.int .u8 c.Turn,G c.At.X,G c.At.Y,G c.At.Z])) J<|O (.d (.agg [.int .u8 f.Turn,G f.At.X,G f.At.Y,G f.At.Z])) J ?_
 obtain ⟨b,m,a⟩:=q7 a
 refine qt (qol c f b m) J<|Qo J J<|Q8 3 (.dat 4 [[.int .u8 b.Turn,G b.At.X,G b.At.Y,G b.At.Z]]) J<|q8<|qe<|qb<|O (.d (.agg [.int .u8 b.Turn,G b.At.X,G b.At.Y,G b.At.Z])) J ?_
 obtain ⟨j,n,a⟩:=q7 a
 refine qt (q71 b j n) J<|O (qd (j != 0)) J<|q8 ?_
 refine qk J a (fun _ a=>?_) (fun _ a=>?_)
 ·refine qb<|O (.d (.agg [.int .u8 0,G 0,G 0,G 0])) J<|Q8 2 (.dat 4 [[.int .u8 0,G 0,G 0,G 0]]) J<|q9 J<|qn ?_
  obtain rfl:=qc a
  exact qv (.d (.tup [.agg [.int .u8 0,G 0,G 0,G 0],G 16])) J
 refine ql<|qb<|O (.d (.agg [.int .u8 b.Turn,G b.At.X,G b.At.Y,G b.At.Z])) J<|Q8 2 (.dat 4 [[.int .u8 b.Turn,G b.At.X,G b.At.Y,G b.At.Z]]) J<|q9 J<|qn ?_
 obtain rfl:=qc a
 exact qv (.d (.tup [.agg [.int .u8 b.Turn,G b.At.X,G b.At.Y,G b.At.Z],G 0])) J
theorem qh2 (a : Q6) (c : qi) (f : qi) (h : Int) (r : Q6 × Int) (g : Zd a c f h = some r) : Pure Tryz.prog tab 61 [.agg [.int .u8 a.Frame.Turn,G a.Frame.At.X,G a.Frame.At.Y,G a.Frame.At.Z,G a.Size.X,G a.Size.Y,G a.Size.Z],.agg [G c.X,G c.Y,G c.Z],.agg [G f.X,G f.Y,G f.Z],.int .u8 h] (.tup [.agg [.int .u8 r.1.Frame.Turn,G r.1.Frame.At.X,G r.1.Frame.At.Y,G r.1.Frame.At.Z,G r.1.Size.X,G r.1.Size.Y,G r.1.Size.Z],G r.2]):=by
 unfold Zd at g
 refine Qc Tryz.func61 J (by kernel_rfl) (by kernel_rfl) J<|qb<|Qh (.ref 0 7 0 0) (.dat 7 [[.int .u8 a.Frame.Turn,G a.Frame.At.X,G a.Frame.At.Y,G a.Frame.At.Z,G a.Size.X,G a.Size.Y,G a.Size.Z]]) J<|Qh (.ref 1 3 0 0) (.dat 3 [[G c.X,G c.Y,G c.Z]]) J<|Qh (.ref 2 3 0 0) (.dat 3 [[G f.X,G f.Y,G f.Z]]) J<|Qo J J<|q9 J<|q8<|qe<|qb<|O (.d (.agg [.int .u8 a.Frame.Turn,G a.Frame.At.X,G a.Frame.At.Y,G a.Frame.At.Z,G a.Size.X,G a.Size.Y,G a.Size.Z])) J ?_
 obtain ⟨k,s,g⟩:=q7 g
 refine qt (qog a k s) J<|q9 J<|qp<|U J<|O (qd (k != 0)) J<|q8 ?_
 refine qk J g (fun _ g=>?_) (fun _ g=>?_)
 ·refine qb<|O (.d (.agg [.int .u8 0,G 0,G 0,G 0,G 0,G 0,G 0])) J<|U J<|Q8 3 (.dat 7 [[.int .u8 0,G 0,G 0,G 0,G 0,G 0,G 0]]) J<|q9 J<|qn ?_
  obtain rfl:=qc g
  exact qv (.d (.tup [.agg [.int .u8 0,G 0,G 0,G 0,G 0,G 0,G 0],G k])) J
 refine ql<|qb<|U J<|O (.d (.agg [G c.X,G c.Y,G c.Z])) J<|O (.d (.agg [.int .u8 h,G c.X,G c.Y,G c.Z])) J<|Qo J J<|Q8 4 (.dat 4 [[.int .u8 h,G c.X,G c.Y,G c.Z]]) J<|q8<|qe<|qb<|O (.d (.agg [.int .u8 h,G c.X,G c.Y,G c.Z])) J ?_
 obtain ⟨m,t,g⟩:=q7 g
 refine qt (q71 ({Turn:=h,At:=c} : Qn) m t) J<|O (qd (m != 0)) J ?_
 obtain ⟨u,j,g⟩:=q7 g
 refine Q0 5 (fun A st=>∃ (n o p q : V),st = A [(29,qd u),(28,q),(27,p),(26,o),(25,n)]) ?_ ?_
 ·refine qy J J j (fun j=>?_) (fun j=>?_)
  ·refine qa J<|qa J<|qa J<|O (qd true) J<|q8 ?_
   obtain rfl:=qc j
   exact ⟨_,_,_,_,J⟩
  refine O (.d (.agg [G f.X,G f.Y,G f.Z])) J ?_
  obtain ⟨l,v,j⟩:=q7 j
  refine qt (qcn f 0 l v) J<|O (qd (!l)) J<|O (qd (!l)) J<|q8 ?_
  obtain rfl:=qc j
  exact ⟨_,_,_,_,J⟩
 rintro _ ⟨n,o,p,q,rfl⟩
 refine q8 ?_
 refine qk J g (fun _ g=>?_) (fun _ g=>?_)
 ·refine qb<|O (.d (.agg [.int .u8 0,G 0,G 0,G 0,G 0,G 0,G 0])) J<|Q8 3 (.dat 7 [[.int .u8 0,G 0,G 0,G 0,G 0,G 0,G 0]]) J<|q9 J<|qn ?_
  obtain rfl:=qc g
  exact qv (.d (.tup [.agg [.int .u8 0,G 0,G 0,G 0,G 0,G 0,G 0],G 2])) J
 refine ql<|qb<|O (.d (.agg [.int .u8 h,G c.X,G c.Y,G c.Z])) J<|O (.ref 0 7 0 0) J<|O (.d (.agg [.int .u8 a.Frame.Turn,G a.Frame.At.X,G a.Frame.At.Y,G a.Frame.At.Z])) J ?_
 obtain ⟨b,w,g⟩:=q7 g
 refine qt (qof ({Turn:=h,At:=c} : Qn) a.Frame b w) J<|U J<|O (.d (.agg [.int .u8 b.1.Turn,G b.1.At.X,G b.1.At.Y,G b.1.At.Z])) J<|O (q6 b.2) J<|Q8 4 (.dat 4 [[.int .u8 b.1.Turn,G b.1.At.X,G b.1.At.Y,G b.1.At.Z]]) J<|q9 J<|q8<|qe<|qb<|U J<|O (qd (b.2 != 0)) J<|q8 ?_
 refine qk J g (fun _ g=>?_) (fun _ g=>?_)
 ·refine qb<|O (.d (.agg [.int .u8 0,G 0,G 0,G 0,G 0,G 0,G 0])) J<|U J<|Q8 3 (.dat 7 [[.int .u8 0,G 0,G 0,G 0,G 0,G 0,G 0]]) J<|q9 J<|qn ?_
  obtain rfl:=qc g
  exact qv (.d (.tup [.agg [.int .u8 0,G 0,G 0,G 0,G 0,G 0,G 0],G b.2])) J
 refine ql<|qb<|O (.d (.agg [.int .u8 b.1.Turn,G b.1.At.X,G b.1.At.Y,G b.1.At.Z])) J<|O (.d (.agg [G f.X,G f.Y,G f.Z])) J<|O (.d (.agg [.int .u8 b.1.Turn,G b.1.At.X,G b.1.At.Y,G b.1.At.Z,G f.X,G f.Y,G f.Z])) J<|Q8 3 (.dat 7 [[.int .u8 b.1.Turn,G b.1.At.X,G b.1.At.Y,G b.1.At.Z,G f.X,G f.Y,G f.Z]]) J<|q9 J<|qn ?_
 obtain rfl:=qc g
 exact qv (.d (.tup [.agg [.int .u8 b.1.Turn,G b.1.At.X,G b.1.At.Y,G b.1.At.Z,G f.X,G f.Y,G f.Z],G 0])) J
theorem qsk (a : Q6) (r : Int) (c : q7q a = some r) : Pure Tryz.prog tab 58 [.agg [.int .u8 a.Frame.Turn,G a.Frame.At.X,G a.Frame.At.Y,G a.Frame.At.Z,G a.Size.X,G a.Size.Y,G a.Size.Z]] (G r):=by
 unfold q7q at c
 refine Qc Tryz.func58 J (by kernel_rfl) (by kernel_rfl) J<|qb<|Qh (.ref 0 7 0 0) (.dat 7 [[.int .u8 a.Frame.Turn,G a.Frame.At.X,G a.Frame.At.Y,G a.Frame.At.Z,G a.Size.X,G a.Size.Y,G a.Size.Z]]) J<|q9 J<|q8<|qe<|qb<|O (.d (.agg [.int .u8 a.Frame.Turn,G a.Frame.At.X,G a.Frame.At.Y,G a.Frame.At.Z,G a.Size.X,G a.Size.Y,G a.Size.Z])) J<|O (.d (.agg [G 0,G 0,G 0])) J<|O (.d (.agg [G 0,G 0,G 0])) J ?_
 obtain ⟨b,f,c⟩:=q7 c
 refine qt (qh2 a ({X:=0,Y:=0,Z:=0} : qi) ({X:=0,Y:=0,Z:=0} : qi) 0 b f) J<|U J<|O (.d (.agg [.int .u8 b.1.Frame.Turn,G b.1.Frame.At.X,G b.1.Frame.At.Y,G b.1.Frame.At.Z,G b.1.Size.X,G b.1.Size.Y,G b.1.Size.Z])) J<|O (q6 b.2) J<|Qo J J<|Q8 1 (.dat 7 [[.int .u8 b.1.Frame.Turn,G b.1.Frame.At.X,G b.1.Frame.At.Y,G b.1.Frame.At.Z,G b.1.Size.X,G b.1.Size.Y,G b.1.Size.Z]]) J<|q9 J<|qp<|U J<|O (qd (b.2 != 0)) J<|q8 ?_
 refine qk J c (fun _ c=>?_) (fun _ c=>?_)
 ·refine qb<|q9 J<|qn ?_
  obtain rfl:=qc c
  exact qv (q6 8) J
 refine ql<|qb<|q9 J<|qn ?_
 obtain rfl:=qc c
 exact qv (q6 0) J
theorem qsl (a : qi) (g : Int) (r : Int × qi × qi) (f : J2 a g = some r) : Pure Tryz.prog tab 60 [.agg [G a.X,G a.Y,G a.Z],G g] (.tup [.int .u8 r.1,.agg [G r.2.1.X,G r.2.1.Y,G r.2.1.Z],.agg [G r.2.2.X,G r.2.2.Y,G r.2.2.Z]]):=by
 unfold J2 at f
 refine Qc Tryz.func60 J (by kernel_rfl) (by kernel_rfl) J<|qb<|Qh (.ref 0 3 0 0) (.dat 3 [[G a.X,G a.Y,G a.Z]]) J<|q9 J<|Qo J J<|Qo J J<|q8<|qe<|Q4 [q0,q0,q0,qo 0,q0,qo 0,q0,qo 0,q0] (by kernel_rfl)<|O (.ref 0 3 0 0) J<|O (q6 a.X) J<|O (.ref 0 3 0 1) J<|O (q6 a.Y) J<|O (.ref 0 3 0 2) J<|O (q6 a.Z) J<|q9 J<|q9 J<|q9 J<|qp<|U J<|O (.d (.agg [G a.X,G 0,G 0])) J<|U J<|U J<|O (.d (.agg [G a.Y,G a.Z,G 0])) J<|O (.d (.agg [.int .u8 10,G a.X,G 0,G 0,G a.Y,G a.Z,G 0])) J<|U J<|O (.d (.agg [G 0,G 0,G a.Z])) J<|U J<|U J<|O (.d (.agg [G a.Y,G a.Z,G 0])) J<|O (.d (.agg [.int .u8 11,G 0,G 0,G a.Z,G a.Y,G a.Z,G 0])) J<|U J<|U J<|O (.d (.agg [G 0,G a.Y,G a.Z])) J<|U J<|U J<|O (.d (.agg [G a.X,G a.Z,G 0])) J<|O (.d (.agg [.int .u8 3,G 0,G a.Y,G a.Z,G a.X,G a.Z,G 0])) J<|O (.d (.agg [G 0,G 0,G 0])) J<|U J ?_
 refine U J<|O (.d (.agg [G a.X,G a.Z,G 0])) J<|O (.d (.agg [.int .u8 2,G 0,G 0,G 0,G a.X,G a.Z,G 0])) J<|U J<|O (.d (.agg [G 0,G 0,G a.Z])) J<|U J<|U J<|O (.d (.agg [G a.X,G a.Y,G 0])) J<|O (.d (.agg [.int .u8 0,G 0,G 0,G a.Z,G a.X,G a.Y,G 0])) J<|U J<|O (.d (.agg [G 0,G a.Y,G 0])) J<|U J<|U J<|O (.d (.agg [G a.X,G a.Y,G 0])) J<|O (.d (.agg [.int .u8 1,G 0,G a.Y,G 0,G a.X,G a.Y,G 0])) J<|O (.d (.agg [.int .u8 10,G a.X,G 0,G 0,G a.Y,G a.Z,G 0,.int .u8 11,G 0,G 0,G a.Z,G a.Y,G a.Z,G 0,.int .u8 3,G 0,G a.Y,G a.Z,G a.X,G a.Z,G 0,.int .u8 2,G 0,G 0,G 0,G a.X,G a.Z,G 0,.int .u8 0,G 0,G 0,G a.Z,G a.X,G a.Y,G 0,.int .u8 1,G 0,G a.Y,G 0,G a.X,G a.Y,G 0])) J<|Qo J J<|Q8 3 (.dat 42 [[({t_:=10,at_:=({X:=a.X,Y:=0,Z:=0} : qi),flat_:=({X:=a.Y,Y:=a.Z,Z:=0} : qi)} : Kh),({t_:=11,at_:=({X:=0,Y:=0,Z:=a.Z} : qi),flat_:=({X:=a.Y,Y:=a.Z,Z:=0} : qi)} : Kh),({t_:=3,at_:=({X:=0,Y:=a.Y,Z:=a.Z} : qi),flat_:=({X:=a.X,Y:=a.Z,Z:=0} : qi)} : Kh),({t_:=2,at_:=({X:=0,Y:=0,Z:=0} : qi),flat_:=({X:=a.X,Y:=a.Z,Z:=0} : qi)} : Kh),({t_:=0,at_:=({X:=0,Y:=0,Z:=a.Z} : qi),flat_:=({X:=a.X,Y:=a.Y,Z:=0} : qi)} : Kh),({t_:=1,at_:=({X:=0,Y:=a.Y,Z:=0} : qi),flat_:=({X:=a.X,Y:=a.Y,Z:=0} : qi)} : Kh)].flatMap q9z]) J<|q8<|qe<|Q4 [Qd 2,Qd 1,q0,qo 3,q0,q0,q0,qo 3,q0,q0,q0,qo 3,q0,q0,q0] (by kernel_rfl)<|U J ?_
 obtain ⟨h,j,f⟩:=q7 f
 refine U5 j J J J J J<|O (.ref 3 42 0 (g.toNat * 7 + 0)) J<|qdd (enc:=q9z) (.d (.int .u8 h.t_)) j (fun _=>rfl) J J J J J J<|U J ?_
 obtain ⟨b,k,f⟩:=q7 f
 refine U5 k J J J J J<|O (.ref 3 42 0 (g.toNat * 7 + 1)) J<|qdd (enc:=q9z) (.d (.agg [G b.at_.X,G b.at_.Y,G b.at_.Z])) k (fun _=>rfl) J J J J J J<|U J ?_
 obtain ⟨c,l,f⟩:=q7 f
 refine U5 l J J J J J<|O (.ref 3 42 0 (g.toNat * 7 + 4)) J<|qdd (enc:=q9z) (.d (.agg [G c.flat_.X,G c.flat_.Y,G c.flat_.Z])) l (fun _=>rfl) J J J J J J<|q9 J<|Q8 1 (.dat 3 [[G b.at_.X,G b.at_.Y,G b.at_.Z]]) J<|Q8 2 (.dat 3 [[G c.flat_.X,G c.flat_.Y,G c.flat_.Z]]) J<|qn ?_
 obtain rfl:=qc f
 exact qv (.d (.tup [.int .u8 h.t_,.agg [G b.at_.X,G b.at_.Y,G b.at_.Z],.agg [G c.flat_.X,G c.flat_.Y,G c.flat_.Z]])) J
theorem qsb (n : Int) (j : Int) (k : Int) (l : Int) (m : Int) (f : Int) (g : Int) (h : Int) (o : List Q6) (r : Int × Int × Int × Int × Int × Int × Int × Int × List Q6) (c : q7o  n j k l m f g h o = some r) : Qq Tryz.prog tab 59 [q6 n,.ref 0 7 0 0,.ref 1 42 0 0] [(0,.dat 7 [[.int .u8 j,G k,G l,G m,G f,G g,G h]]),(1,.dat 42 [o.flatMap q2e])] 2 (q6 r.1) [(0,.dat 7 [[.int .u8 r.2.1,G r.2.2.1,G r.2.2.2.1,G r.2.2.2.2.1,G r.2.2.2.2.2.1,G r.2.2.2.2.2.2.1,G r.2.2.2.2.2.2.2.1]]),(1,.dat 42 [r.2.2.2.2.2.2.2.2.flatMap q2e])] 2:=by
 unfold q7o at c
 refine Qx Tryz.func59 J (by kernel_rfl) (by kernel_rfl) J<|qb<|q9 J<|qp<|O (.ref 0 7 0 4) J<|O (.d (.agg [G f,G g,G h])) J<|U J ?_
 obtain ⟨a,q,c⟩:=q7 c
 refine qt (qsl ({X:=f,Y:=g,Z:=h} : qi) n a q) J<|U J<|O (.d (.int .u8 a.1)) J<|O (.d (.agg [G a.2.1.X,G a.2.1.Y,G a.2.1.Z])) J<|O (.d (.agg [G a.2.2.X,G a.2.2.Y,G a.2.2.Z])) J<|Qo J J<|Qo J J<|q9 J<|Q8 2 (.dat 3 [[G a.2.1.X,G a.2.1.Y,G a.2.1.Z]]) J<|Q8 3 (.dat 3 [[G a.2.2.X,G a.2.2.Y,G a.2.2.Z]]) J<|qp<|U J<|O (.d (.agg [.int .u8 j,G k,G l,G m,G f,G g,G h])) J<|O (.d (.agg [G a.2.1.X,G a.2.1.Y,G a.2.1.Z])) J<|O (.d (.agg [G a.2.2.X,G a.2.2.Y,G a.2.2.Z])) J<|U J ?_
 obtain ⟨b,s,c⟩:=q7 c
 refine qt (qh2 ({Frame:=({Turn:=j,At:=({X:=k,Y:=l,Z:=m} : qi)} : Qn),Size:=({X:=f,Y:=g,Z:=h} : qi)} : Q6) a.2.1 a.2.2 a.1 b s) J<|U J<|O (.d (.agg [.int .u8 b.1.Frame.Turn,G b.1.Frame.At.X,G b.1.Frame.At.Y,G b.1.Frame.At.Z,G b.1.Size.X,G b.1.Size.Y,G b.1.Size.Z])) J<|O (q6 b.2) J ?_
 obtain ⟨t,p,c⟩:=q7 c
 refine U5 p J J J J J<|qdi (enc:=q2e) b.1 p (fun _=>rfl) J J J J J J J J<|q9 J<|qp<|U J<|q9 J<|qn ?_
 obtain rfl:=qc c
 exact ⟨.inr J,_,J,wkA [] [] []⟩
theorem qsc (b : Q6) (r : (Q6 × Q6 × Q6 × Q6 × Q6 × Q6) × Int) (f : q7n b = some r) : Pure Tryz.prog tab 15 [.agg [.int .u8 b.Frame.Turn,G b.Frame.At.X,G b.Frame.At.Y,G b.Frame.At.Z,G b.Size.X,G b.Size.Y,G b.Size.Z]] (.tup [.agg [.int .u8 r.1.1.Frame.Turn,G r.1.1.Frame.At.X,G r.1.1.Frame.At.Y,G r.1.1.Frame.At.Z,G r.1.1.Size.X,G r.1.1.Size.Y,G r.1.1.Size.Z,.int .u8 r.1.2.1.Frame.Turn,G r.1.2.1.Frame.At.X,G r.1.2.1.Frame.At.Y,G r.1.2.1.Frame.At.Z,G r.1.2.1.Size.X,G r.1.2.1.Size.Y,G r.1.2.1.Size.Z,.int .u8 r.1.2.2.1.Frame.Turn,G r.1.2.2.1.Frame.At.X,G r.1.2.2.1.Frame.At.Y,G r.1.2.2.1.Frame.At.Z,G r.1.2.2.1.Size.X,G r.1.2.2.1.Size.Y,G r.1.2.2.1.Size.Z,.int .u8 r.1.2.2.2.1.Frame.Turn,G r.1.2.2.2.1.Frame.At.X,G r.1.2.2.2.1.Frame.At.Y,G r.1.2.2.2.1.Frame.At.Z,G r.1.2.2.2.1.Size.X,G r.1.2.2.2.1.Size.Y,G r.1.2.2.2.1.Size.Z,.int .u8 r.1.2.2.2.2.1.Frame.Turn,G r.1.2.2.2.2.1.Frame.At.X,G r.1.2.2.2.2.1.Frame.At.Y,G r.1.2.2.2.2.1.Frame.At.Z,G r.1.2.2.2.2.1.Size.X,G r.1.2.2.2.2.1.Size.Y,G r.1.2.2.2.2.1.Size.Z,.int .u8 r.1.2.2.2.2.2.Frame.Turn,G r.1.2.2.2.2.2.Frame.At.X,G r.1.2.2.2.2.2.Frame.At.Y,G r.1.2.2.2.2.2.Frame.At.Z,G r.1.2.2.2.2.2.Size.X,G r.1.2.2.2.2.2.Size.Y,G r.1.2.2.2.2.2.Size.Z],G r.2]):=by
 unfold q7n at f
 refine Qc Tryz.func15 J (by kernel_rfl) (by kernel_rfl) J<|qb<|Qh (.ref 0 7 0 0) (.dat 7 [[.int .u8 b.Frame.Turn,G b.Frame.At.X,G b.Frame.At.Y,G b.Frame.At.Z,G b.Size.X,G b.Size.Y,G b.Size.Z]]) J<|Qo J J<|q9 J<|q8<|qe<|qb<|O (.d (.agg [.int .u8 b.Frame.Turn,G b.Frame.At.X,G b.Frame.At.Y,G b.Frame.At.Z,G b.Size.X,G b.Size.Y,G b.Size.Z])) J ?_
 obtain ⟨k,m,f⟩:=q7 f
 refine qt (qsk b k m) J<|q9 J<|qp<|U J<|O (qd (k != 0)) J<|q8 ?_
 refine qk J f (fun _ f=>?_) (fun _ f=>?_)
 ·refine qb<|O (.d (.agg [.int .u8 0,G 0,G 0,G 0,G 0,G 0,G 0,.int .u8 0,G 0,G 0,G 0,G 0,G 0,G 0,.int .u8 0,G 0,G 0,G 0,G 0,G 0,G 0,.int .u8 0,G 0,G 0,G 0,G 0,G 0,G 0,.int .u8 0,G 0,G 0,G 0,G 0,G 0,G 0,.int .u8 0,G 0,G 0,G 0,G 0,G 0,G 0])) J<|U J<|Q8 1 (.dat 42 [[.int .u8 0,G 0,G 0,G 0,G 0,G 0,G 0,.int .u8 0,G 0,G 0,G 0,G 0,G 0,G 0,.int .u8 0,G 0,G 0,G 0,G 0,G 0,G 0,.int .u8 0,G 0,G 0,G 0,G 0,G 0,G 0,.int .u8 0,G 0,G 0,G 0,G 0,G 0,G 0,.int .u8 0,G 0,G 0,G 0,G 0,G 0,G 0]]) J<|q9 J<|qn ?_
  obtain rfl:=qc f
  exact qv (.d (.tup [.agg [.int .u8 0,G 0,G 0,G 0,G 0,G 0,G 0,.int .u8 0,G 0,G 0,G 0,G 0,G 0,G 0,.int .u8 0,G 0,G 0,G 0,G 0,G 0,G 0,.int .u8 0,G 0,G 0,G 0,G 0,G 0,G 0,.int .u8 0,G 0,G 0,G 0,G 0,G 0,G 0,.int .u8 0,G 0,G 0,G 0,G 0,G 0,G 0],G k])) J
 refine ql<|qb<|Qo J J<|qp<|O (.fn 59 [.ref 0 7 0 0,.ref 2 42 0 0]) J<|q9 J<|q8<|qe<|qb<|U J<|q8 ?_
 obtain ⟨l,n,f⟩:=q7 f
 refine Qb (fun j=>.inl j = l) (fun (j : List Q6)=>⟨[(2,.ref 0 42 0 0),(5,.ref 1 42 0 0)],[(0,.dat 42 [[.int .u8 0,G 0,G 0,G 0,G 0,G 0,G 0,.int .u8 0,G 0,G 0,G 0,G 0,G 0,G 0,.int .u8 0,G 0,G 0,G 0,G 0,G 0,G 0,.int .u8 0,G 0,G 0,G 0,G 0,G 0,G 0,.int .u8 0,G 0,G 0,G 0,G 0,G 0,G 0,.int .u8 0,G 0,G 0,G 0,G 0,G 0,G 0]]),(1,.dat 42 [j.flatMap q2e])],2⟩) (by simp) ?_ ?_
 ·refine Q7 (q1q) (fun (c : Int × List Q6 × Int × Int × Int × Int × Int × Int × Int)=>⟨[(2,.ref 0 42 0 0),(5,.ref 1 42 0 0),(6,.fn 59 [.ref 2 7 0 0,.ref 1 42 0 0]),(16,q6 c.1)],[(0,.dat 42 [[.int .u8 0,G 0,G 0,G 0,G 0,G 0,G 0,.int .u8 0,G 0,G 0,G 0,G 0,G 0,G 0,.int .u8 0,G 0,G 0,G 0,G 0,G 0,G 0,.int .u8 0,G 0,G 0,G 0,G 0,G 0,G 0,.int .u8 0,G 0,G 0,G 0,G 0,G 0,G 0,.int .u8 0,G 0,G 0,G 0,G 0,G 0,G 0]]),(1,.dat 42 [c.2.1.flatMap q2e]),(2,.dat 7 [[.int .u8 c.2.2.1,G c.2.2.2.1,G c.2.2.2.2.1,G c.2.2.2.2.2.1,G c.2.2.2.2.2.2.1,G c.2.2.2.2.2.2.2.1,G c.2.2.2.2.2.2.2.2]])],3⟩) (0,[({Frame:=({Turn:=0,At:=({X:=0,Y:=0,Z:=0} : qi)} : Qn),Size:=({X:=0,Y:=0,Z:=0} : qi)} : Q6),({Frame:=({Turn:=0,At:=({X:=0,Y:=0,Z:=0} : qi)} : Qn),Size:=({X:=0,Y:=0,Z:=0} : qi)} : Q6),({Frame:=({Turn:=0,At:=({X:=0,Y:=0,Z:=0} : qi)} : Qn),Size:=({X:=0,Y:=0,Z:=0} : qi)} : Q6),({Frame:=({Turn:=0,At:=({X:=0,Y:=0,Z:=0} : qi)} : Qn),Size:=({X:=0,Y:=0,Z:=0} : qi)} : Q6),({Frame:=({Turn:=0,At:=({X:=0,Y:=0,Z:=0} : qi)} : Qn),Size:=({X:=0,Y:=0,Z:=0} : qi)} : Q6),({Frame:=({Turn:=0,At:=({X:=0,Y:=0,Z:=0} : qi)} : Qn),Size:=({X:=0,Y:=0,Z:=0} : qi)} : Q6)],b.Frame.Turn,b.Frame.At.X,b.Frame.At.Y,b.Frame.At.Z,b.Size.X,b.Size.Y,b.Size.Z) l n (wkA [(0,1),(1,2),(2,0)] [] []) ?_
  intro c q g
  unfold q1q at g
  refine qb<|O (.d (.bool (decide (c.1 < 6)))) J<|q8<|qe ?_
  refine qk J g (fun _ g=>?_) (fun _ g=>?_)
  ·refine ql<|qe<|qu<|qb<|U J<|q9 J<|qp<|U J<|U J ?_
   obtain ⟨h,o,g⟩:=q7 g
   refine Qr [(0,2),(1,1)] [(0,2),(1,1),(2,0)] [q6 c.1,.ref 2 7 0 0,.ref 1 42 0 0] (q6 h.1) 2 [(1,.dat 42 [h.2.2.2.2.2.2.2.2.flatMap q2e]),(2,.dat 7 [[.int .u8 h.2.1,G h.2.2.1,G h.2.2.2.1,G h.2.2.2.2.1,G h.2.2.2.2.2.1,G h.2.2.2.2.2.2.1,G h.2.2.2.2.2.2.2.1]]),(0,.dat 42 [[.int .u8 0,G 0,G 0,G 0,G 0,G 0,G 0,.int .u8 0,G 0,G 0,G 0,G 0,G 0,G 0,.int .u8 0,G 0,G 0,G 0,G 0,G 0,G 0,.int .u8 0,G 0,G 0,G 0,G 0,G 0,G 0,.int .u8 0,G 0,G 0,G 0,G 0,G 0,G 0,.int .u8 0,G 0,G 0,G 0,G 0,G 0,G 0]])] 3 (qsb c.1 c.2.2.1 c.2.2.2.1 c.2.2.2.2.1 c.2.2.2.2.2.1 c.2.2.2.2.2.2.1 c.2.2.2.2.2.2.2.1 c.2.2.2.2.2.2.2.2 c.2.1 h o)<|q9 J<|qp<|U J<|O (qd (h.1 != 0)) J<|q8 ?_
   refine qk J g (fun _ g=>?_) (fun _ g=>?_)
   ·refine qb<|O (.d (.agg [.int .u8 0,G 0,G 0,G 0,G 0,G 0,G 0,.int .u8 0,G 0,G 0,G 0,G 0,G 0,G 0,.int .u8 0,G 0,G 0,G 0,G 0,G 0,G 0,.int .u8 0,G 0,G 0,G 0,G 0,G 0,G 0,.int .u8 0,G 0,G 0,G 0,G 0,G 0,G 0,.int .u8 0,G 0,G 0,G 0,G 0,G 0,G 0])) J<|U J<|Q8 0 (.dat 42 [[.int .u8 0,G 0,G 0,G 0,G 0,G 0,G 0,.int .u8 0,G 0,G 0,G 0,G 0,G 0,G 0,.int .u8 0,G 0,G 0,G 0,G 0,G 0,G 0,.int .u8 0,G 0,G 0,G 0,G 0,G 0,G 0,.int .u8 0,G 0,G 0,G 0,G 0,G 0,G 0,.int .u8 0,G 0,G 0,G 0,G 0,G 0,G 0]]) J<|q9 J<|qn ?_
    refine ⟨_,(Option.some.inj g).symm,fun hm=>?_⟩
    subst hm
    obtain rfl:=qc f
    exact qv (.d (.tup [.agg [.int .u8 0,G 0,G 0,G 0,G 0,G 0,G 0,.int .u8 0,G 0,G 0,G 0,G 0,G 0,G 0,.int .u8 0,G 0,G 0,G 0,G 0,G 0,G 0,.int .u8 0,G 0,G 0,G 0,G 0,G 0,G 0,.int .u8 0,G 0,G 0,G 0,G 0,G 0,G 0,.int .u8 0,G 0,G 0,G 0,G 0,G 0,G 0],G h.1])) J
   refine ql<|Qa<|Q9<|qs<|O (.d (G (w64 (c.1 + 1)))) J<|U J<|qr ?_
   exact ⟨_,(Option.some.inj g).symm,wkA [(0,0),(1,1),(2,2)] [] []⟩
  refine Q1 ?_
  refine ⟨_,(Option.some.inj g).symm,fun hm=>?_⟩
  subst hm
  exact ⟨_,J,wkA [(0,0),(1,1)] [] []⟩
 intro j hb
 subst hb
 refine qb ?_
 obtain ⟨a,p,f⟩:=q7 f
 refine qil (enc:=q2e) (.d (.agg [.int .u8 a.1.Frame.Turn,G a.1.Frame.At.X,G a.1.Frame.At.Y,G a.1.Frame.At.Z,G a.1.Size.X,G a.1.Size.Y,G a.1.Size.Z,.int .u8 a.2.1.Frame.Turn,G a.2.1.Frame.At.X,G a.2.1.Frame.At.Y,G a.2.1.Frame.At.Z,G a.2.1.Size.X,G a.2.1.Size.Y,G a.2.1.Size.Z,.int .u8 a.2.2.1.Frame.Turn,G a.2.2.1.Frame.At.X,G a.2.2.1.Frame.At.Y,G a.2.2.1.Frame.At.Z,G a.2.2.1.Size.X,G a.2.2.1.Size.Y,G a.2.2.1.Size.Z,.int .u8 a.2.2.2.1.Frame.Turn,G a.2.2.2.1.Frame.At.X,G a.2.2.2.1.Frame.At.Y,G a.2.2.2.1.Frame.At.Z,G a.2.2.2.1.Size.X,G a.2.2.2.1.Size.Y,G a.2.2.2.1.Size.Z,.int .u8 a.2.2.2.2.1.Frame.Turn,G a.2.2.2.2.1.Frame.At.X,G a.2.2.2.2.1.Frame.At.Y,G a.2.2.2.2.1.Frame.At.Z,G a.2.2.2.2.1.Size.X,G a.2.2.2.2.1.Size.Y,G a.2.2.2.2.1.Size.Z,.int .u8 a.2.2.2.2.2.Frame.Turn,G a.2.2.2.2.2.Frame.At.X,G a.2.2.2.2.2.Frame.At.Y,G a.2.2.2.2.2.Frame.At.Z,G a.2.2.2.2.2.Size.X,G a.2.2.2.2.2.Size.Y,G a.2.2.2.2.2.Size.Z])) (qlp p) J J J J J J<|Q8 0 (.dat 42 [[.int .u8 a.1.Frame.Turn,G a.1.Frame.At.X,G a.1.Frame.At.Y,G a.1.Frame.At.Z,G a.1.Size.X,G a.1.Size.Y,G a.1.Size.Z,.int .u8 a.2.1.Frame.Turn,G a.2.1.Frame.At.X,G a.2.1.Frame.At.Y,G a.2.1.Frame.At.Z,G a.2.1.Size.X,G a.2.1.Size.Y,G a.2.1.Size.Z,.int .u8 a.2.2.1.Frame.Turn,G a.2.2.1.Frame.At.X,G a.2.2.1.Frame.At.Y,G a.2.2.1.Frame.At.Z,G a.2.2.1.Size.X,G a.2.2.1.Size.Y,G a.2.2.1.Size.Z,.int .u8 a.2.2.2.1.Frame.Turn,G a.2.2.2.1.Frame.At.X,G a.2.2.2.1.Frame.At.Y,G a.2.2.2.1.Frame.At.Z,G a.2.2.2.1.Size.X,G a.2.2.2.1.Size.Y,G a.2.2.2.1.Size.Z,.int .u8 a.2.2.2.2.1.Frame.Turn,G a.2.2.2.2.1.Frame.At.X,G a.2.2.2.2.1.Frame.At.Y,G a.2.2.2.2.1.Frame.At.Z,G a.2.2.2.2.1.Size.X,G a.2.2.2.2.1.Size.Y,G a.2.2.2.2.1.Size.Z,.int .u8 a.2.2.2.2.2.Frame.Turn,G a.2.2.2.2.2.Frame.At.X,G a.2.2.2.2.2.Frame.At.Y,G a.2.2.2.2.2.Frame.At.Z,G a.2.2.2.2.2.Size.X,G a.2.2.2.2.2.Size.Y,G a.2.2.2.2.2.Size.Z]]) J<|q9 J<|qn ?_
 obtain rfl:=qc f
 exact qv (.d (.tup [.agg [.int .u8 a.1.Frame.Turn,G a.1.Frame.At.X,G a.1.Frame.At.Y,G a.1.Frame.At.Z,G a.1.Size.X,G a.1.Size.Y,G a.1.Size.Z,.int .u8 a.2.1.Frame.Turn,G a.2.1.Frame.At.X,G a.2.1.Frame.At.Y,G a.2.1.Frame.At.Z,G a.2.1.Size.X,G a.2.1.Size.Y,G a.2.1.Size.Z,.int .u8 a.2.2.1.Frame.Turn,G a.2.2.1.Frame.At.X,G a.2.2.1.Frame.At.Y,G a.2.2.1.Frame.At.Z,G a.2.2.1.Size.X,G a.2.2.1.Size.Y,G a.2.2.1.Size.Z,.int .u8 a.2.2.2.1.Frame.Turn,G a.2.2.2.1.Frame.At.X,G a.2.2.2.1.Frame.At.Y,G a.2.2.2.1.Frame.At.Z,G a.2.2.2.1.Size.X,G a.2.2.2.1.Size.Y,G a.2.2.2.1.Size.Z,.int .u8 a.2.2.2.2.1.Frame.Turn,G a.2.2.2.2.1.Frame.At.X,G a.2.2.2.2.1.Frame.At.Y,G a.2.2.2.2.1.Frame.At.Z,G a.2.2.2.2.1.Size.X,G a.2.2.2.2.1.Size.Y,G a.2.2.2.2.1.Size.Z,.int .u8 a.2.2.2.2.2.Frame.Turn,G a.2.2.2.2.2.Frame.At.X,G a.2.2.2.2.2.Frame.At.Y,G a.2.2.2.2.2.Frame.At.Z,G a.2.2.2.2.2.Size.X,G a.2.2.2.2.2.Size.Y,G a.2.2.2.2.2.Size.Z],G 0])) J
theorem qj3 (c : List qj) (f : List qj) (r : Bool) (b : q2x c f = some r) : Pure Tryz.prog tab 35 [.sl 2 (c.map Q3),.sl 2 (f.map Q3)] (.bool r):=by
 unfold q2x at b
 refine Qc Tryz.func35 J (by kernel_rfl) (by kernel_rfl) J<|qb<|q9 J<|q8<|qe<|qb<|U J<|Qg J<|U J<|Qg J<|O (.d (.bool ((c.length : Int) != (f.length : Int)))) J<|q8 ?_
 refine qk J b (fun _ b=>?_) (fun _ b=>?_)
 ·refine qb<|q9 J<|qn ?_
  obtain rfl:=qc b
  exact qv (qd false) J
 refine ql<|qe<|qb<|q9 J<|q8 ?_
 obtain ⟨l,m,b⟩:=q7 b
 refine Qb (fun k=>.inl k = l) (fun (k : Unit)=>⟨[],[],0⟩) (by simp) ?_ ?_
 ·refine Q7 (qaq c f) (fun (g : Int)=>⟨[(0,.d (.sl 2 (c.map Q3))),(1,.d (.sl 2 (f.map Q3))),(5,q6 g)],[],0⟩) 0 l m (wkA [] [] []) ?_
  intro g p a
  unfold qaq at a
  refine qe<|qb<|U J<|U J<|Qg J<|O (.d (.bool (decide (g < (c.length : Int))))) J<|q8 ?_
  refine qk J a (fun _ a=>?_) (fun _ a=>?_)
  ·refine ql<|qe<|qu<|qe<|Q4 [q0,q0,q0,q0,q0,q0,q0,q0,q0] (by kernel_rfl)<|U J<|U J ?_
   obtain ⟨h,n,a⟩:=q7 a
   refine Q5 (enc:=Q3) n J<|O (.d (.agg [G h.Lo,G h.Hi])) J<|U J<|U J ?_
   obtain ⟨j,o,a⟩:=q7 a
   refine Q5 (enc:=Q3) o J<|O (.d (.agg [G j.Lo,G j.Hi])) J<|O (.d (.bool (!((h.Lo == j.Lo) && ((h.Hi == j.Hi) && true))))) J<|q8 ?_
   refine qk J a (fun _ a=>?_) (fun _ a=>?_)
   ·refine qb<|q9 J<|qn ?_
    refine ⟨_,(Option.some.inj a).symm,fun hm=>?_⟩
    subst hm
    obtain rfl:=qc b
    exact qv (qd false) J
   refine ql<|Qa<|Q9<|qs<|U J<|O (.d (G (w64 (g + 1)))) J<|q9 J<|qr ?_
   exact ⟨_,(Option.some.inj a).symm,wkA [] [] []⟩
  refine Q1 ?_
  refine ⟨_,(Option.some.inj a).symm,fun hm=>?_⟩
  subst hm
  exact ⟨_,J,wkA [] [] []⟩
 intro k hb
 subst hb
 refine qb<|q9 J<|qn ?_
 obtain rfl:=qc b
 exact qv (qd true) J
theorem qpd (r : Bool) (b : q77 = some r) : Pure Tryz.prog tab 19 [] (.bool r):=by
 unfold q77 at b
 refine Qc Tryz.func19 J (by kernel_rfl) (by kernel_rfl) J<|qb<|q9 J<|qp ?_
 obtain ⟨w,h2,b⟩:=q7 b
 refine qt (qcy 0 0 2 3 w h2) J ?_
 obtain ⟨j,h4,b⟩:=q7 b
 refine qt (qsg w 1 5 j h4) J<|U J<|O (.d (.sl 6 (j.1.map qw))) J<|O (q6 j.2) J<|q9 J<|q9 J<|qp<|U J ?_
 obtain ⟨c,h6,b⟩:=q7 b
 refine qt (qei j.1 c h6) J<|U J<|O (q6 c.1) J<|O (q6 c.2) J<|q9 J<|q9 J<|qp ?_
 obtain ⟨u,h8,b⟩:=q7 b
 refine qt (qcy 0 0 2 2 u h8) J<|O (.d (.agg [.sl 4 (u.map qm),G 1])) J ?_
 obtain ⟨v,br,b⟩:=q7 b
 refine qt (qcy 0 0 1 1 v br) J<|O (.d (.agg [.sl 4 (v.map qm),G 2])) J<|qik (es:=2) ([({Region:=u,Height:=1} : Qt),({Region:=v,Height:=2} : Qt)].map Zx) J J J J J ?_
 obtain ⟨f,bs,b⟩:=q7 b
 refine qt (qsi [({Region:=u,Height:=1} : Qt),({Region:=v,Height:=2} : Qt)] 0 f bs) J<|U J<|O (.d (.sl 6 (f.1.map qw))) J<|O (q6 f.2) J<|q9 J<|q9 J<|qp<|U J ?_
 obtain ⟨g,bt,b⟩:=q7 b
 refine qt (qei f.1 g bt) J<|U J<|O (q6 g.1) J<|O (q6 g.2) J<|q9 J<|q9 J<|qp<|U J ?_
 obtain ⟨h,bu,b⟩:=q7 b
 refine qt (qdx f.1 0 0 h bu) J<|U J<|O (.d (.sl 2 (h.1.map Q3))) J<|O (q6 h.2) J<|q9 J<|q9 J<|qp ?_
 obtain ⟨x,bv,b⟩:=q7 b
 refine qt (qpe x bv) J ?_
 obtain ⟨a,bw,b⟩:=q7 b
 refine qt (qsc x a bw) J<|U J<|O (.d (.agg [.int .u8 a.1.1.Frame.Turn,G a.1.1.Frame.At.X,G a.1.1.Frame.At.Y,G a.1.1.Frame.At.Z,G a.1.1.Size.X,G a.1.1.Size.Y,G a.1.1.Size.Z,.int .u8 a.1.2.1.Frame.Turn,G a.1.2.1.Frame.At.X,G a.1.2.1.Frame.At.Y,G a.1.2.1.Frame.At.Z,G a.1.2.1.Size.X,G a.1.2.1.Size.Y,G a.1.2.1.Size.Z,.int .u8 a.1.2.2.1.Frame.Turn,G a.1.2.2.1.Frame.At.X,G a.1.2.2.1.Frame.At.Y,G a.1.2.2.1.Frame.At.Z,G a.1.2.2.1.Size.X,G a.1.2.2.1.Size.Y,G a.1.2.2.1.Size.Z,.int .u8 a.1.2.2.2.1.Frame.Turn,G a.1.2.2.2.1.Frame.At.X,G a.1.2.2.2.1.Frame.At.Y,G a.1.2.2.2.1.Frame.At.Z,G a.1.2.2.2.1.Size.X,G a.1.2.2.2.1.Size.Y,G a.1.2.2.2.1.Size.Z,.int .u8 a.1.2.2.2.2.1.Frame.Turn,G a.1.2.2.2.2.1.Frame.At.X,G a.1.2.2.2.2.1.Frame.At.Y,G a.1.2.2.2.2.1.Frame.At.Z,G a.1.2.2.2.2.1.Size.X,G a.1.2.2.2.2.1.Size.Y,G a.1.2.2.2.2.1.Size.Z,.int .u8 a.1.2.2.2.2.2.Frame.Turn,G a.1.2.2.2.2.2.Frame.At.X,G a.1.2.2.2.2.2.Frame.At.Y,G a.1.2.2.2.2.2.Frame.At.Z,G a.1.2.2.2.2.2.Size.X,G a.1.2.2.2.2.2.Size.Y,G a.1.2.2.2.2.2.Size.Z])) J<|O (q6 a.2) J<|Qo J J<|Q8 1 (.dat 42 [[.int .u8 a.1.1.Frame.Turn,G a.1.1.Frame.At.X,G a.1.1.Frame.At.Y,G a.1.1.Frame.At.Z,G a.1.1.Size.X,G a.1.1.Size.Y,G a.1.1.Size.Z,.int .u8 a.1.2.1.Frame.Turn,G a.1.2.1.Frame.At.X,G a.1.2.1.Frame.At.Y,G a.1.2.1.Frame.At.Z,G a.1.2.1.Size.X,G a.1.2.1.Size.Y,G a.1.2.1.Size.Z,.int .u8 a.1.2.2.1.Frame.Turn,G a.1.2.2.1.Frame.At.X,G a.1.2.2.1.Frame.At.Y,G a.1.2.2.1.Frame.At.Z,G a.1.2.2.1.Size.X,G a.1.2.2.1.Size.Y,G a.1.2.2.1.Size.Z,.int .u8 a.1.2.2.2.1.Frame.Turn,G a.1.2.2.2.1.Frame.At.X,G a.1.2.2.2.1.Frame.At.Y,G a.1.2.2.2.1.Frame.At.Z,G a.1.2.2.2.1.Size.X,G a.1.2.2.2.1.Size.Y,G a.1.2.2.2.1.Size.Z,.int .u8 a.1.2.2.2.2.1.Frame.Turn,G a.1.2.2.2.2.1.Frame.At.X,G a.1.2.2.2.2.1.Frame.At.Y,G a.1.2.2.2.2.1.Frame.At.Z,G a.1.2.2.2.2.1.Size.X,G a.1.2.2.2.2.1.Size.Y,G a.1.2.2.2.2.1.Size.Z,.int .u8 a.1.2.2.2.2.2.Frame.Turn,G a.1.2.2.2.2.2.Frame.At.X,G a.1.2.2.2.2.2.Frame.At.Y,G a.1.2.2.2.2.2.Frame.At.Z,G a.1.2.2.2.2.2.Size.X,G a.1.2.2.2.2.2.Size.Y,G a.1.2.2.2.2.2.Size.Z]]) J<|q9 J<|qp<|U J<|O (qd (j.2 == 0)) J ?_
 obtain ⟨bz,k,b⟩:=q7 b
 refine Q0 4 (fun A st=>∃ (y z aa : V),st = A [(53,qd bz),(52,aa),(51,z),(50,y)]) ?_ ?_
 ·refine qy J J k (fun k=>?_) (fun k=>?_)
  ·refine U J<|O (qd (c.2 == 0)) J<|O (qd (c.2 == 0)) J<|q8 ?_
   obtain rfl:=qc k
   exact ⟨_,_,_,J⟩
  refine qa J<|qa J<|O (qd false) J<|q8 ?_
  obtain rfl:=qc k
  exact ⟨_,_,_,J⟩
 rintro _ ⟨y,z,aa,rfl⟩
 obtain ⟨ca,l,b⟩:=q7 b
 refine Q0 4 (fun A st=>∃ (ab ac ad : V),st = A [(57,qd ca),(56,ad),(55,ac),(54,ab)]) ?_ ?_
 ·refine qy J J l (fun l=>?_) (fun l=>?_)
  ·refine U J<|O (qd (c.1 == 24)) J<|O (qd (c.1 == 24)) J<|q8 ?_
   obtain rfl:=qc l
   exact ⟨_,_,_,J⟩
  refine qa J<|qa J<|O (qd false) J<|q8 ?_
  obtain rfl:=qc l
  exact ⟨_,_,_,J⟩
 rintro _ ⟨ab,ac,ad,rfl⟩
 obtain ⟨cb,m,b⟩:=q7 b
 refine Q0 4 (fun A st=>∃ (ae af ag : V),st = A [(61,qd cb),(60,ag),(59,af),(58,ae)]) ?_ ?_
 ·refine qy J J m (fun m=>?_) (fun m=>?_)
  ·refine U J<|O (qd (f.2 == 0)) J<|O (qd (f.2 == 0)) J<|q8 ?_
   obtain rfl:=qc m
   exact ⟨_,_,_,J⟩
  refine qa J<|qa J<|O (qd false) J<|q8 ?_
  obtain rfl:=qc m
  exact ⟨_,_,_,J⟩
 rintro _ ⟨ae,af,ag,rfl⟩
 obtain ⟨cc,n,b⟩:=q7 b
 refine Q0 4 (fun A st=>∃ (ah ai aj : V),st = A [(65,qd cc),(64,aj),(63,ai),(62,ah)]) ?_ ?_
 ·refine qy J J n (fun n=>?_) (fun n=>?_)
  ·refine U J<|O (qd (g.2 == 0)) J<|O (qd (g.2 == 0)) J<|q8 ?_
   obtain rfl:=qc n
   exact ⟨_,_,_,J⟩
  refine qa J<|qa J<|O (qd false) J<|q8 ?_
  obtain rfl:=qc n
  exact ⟨_,_,_,J⟩
 rintro _ ⟨ah,ai,aj,rfl⟩
 obtain ⟨cd,o,b⟩:=q7 b
 refine Q0 4 (fun A st=>∃ (ak al am : V),st = A [(69,qd cd),(68,am),(67,al),(66,ak)]) ?_ ?_
 ·refine qy J J o (fun o=>?_) (fun o=>?_)
  ·refine U J<|O (qd (g.1 == 6)) J<|O (qd (g.1 == 6)) J<|q8 ?_
   obtain rfl:=qc o
   exact ⟨_,_,_,J⟩
  refine qa J<|qa J<|O (qd false) J<|q8 ?_
  obtain rfl:=qc o
  exact ⟨_,_,_,J⟩
 rintro _ ⟨ak,al,am,rfl⟩
 obtain ⟨ce,p,b⟩:=q7 b
 refine Q0 4 (fun A st=>∃ (an ao ap : V),st = A [(73,qd ce),(72,ap),(71,ao),(70,an)]) ?_ ?_
 ·refine qy J J p (fun p=>?_) (fun p=>?_)
  ·refine U J<|O (qd (h.2 == 0)) J<|O (qd (h.2 == 0)) J<|q8 ?_
   obtain rfl:=qc p
   exact ⟨_,_,_,J⟩
  refine qa J<|qa J<|O (qd false) J<|q8 ?_
  obtain rfl:=qc p
  exact ⟨_,_,_,J⟩
 rintro _ ⟨an,ao,ap,rfl⟩
 refine qy J J b (fun b=>?_) (fun b=>?_)
 ·refine U J<|O (.d (.agg [G 0,G 3])) J<|Qh (.hs 2 2 0 [({Lo:=0,Hi:=3} : qj)].length) (.dat 2 ([({Lo:=0,Hi:=3} : qj)].map Q3)) J ?_
  obtain ⟨aq,cf,b⟩:=q7 b
  refine q7c [.d (.sl 2 (h.1.map Q3)),.hs 2 2 0 [({Lo:=0,Hi:=3} : qj)].length] (qj3 h.1 [({Lo:=0,Hi:=3} : qj)] aq cf) J J (J5 J (J5 (Z9 J J) J)) (.inr J)<|O (qd aq) J ?_
  obtain ⟨cg,q,b⟩:=q7 b
  refine Q0 4 (fun A st=>∃ (ar au av : V),st = A [(83,qd cg),(82,av),(81,au),(80,ar)]) ?_ ?_
  ·refine qy J J q (fun q=>?_) (fun q=>?_)
   ·refine U J<|O (qd (a.2 == 0)) J<|O (qd (a.2 == 0)) J<|q8 ?_
    obtain rfl:=qc q
    exact ⟨_,_,_,J⟩
   refine qa J<|qa J<|O (qd false) J<|q8 ?_
   obtain rfl:=qc q
   exact ⟨_,_,_,J⟩
  rintro _ ⟨ar,au,av,rfl⟩
  refine q9 J<|qp<|U J ?_
  obtain ⟨ch,s,b⟩:=q7 b
  refine Q0 9 (fun A st=>∃ (aw ax ay az ba bb bc bd : V),st = A [(93,qd ch),(92,bd),(91,bc),(90,bb),(89,ba),(88,az),(87,ay),(86,ax),(85,aw)]) ?_ ?_
  ·refine qy J J s (fun s=>?_) (fun s=>?_)
   ·refine O (.ref 1 42 0 28) J<|O (.d (.agg [.int .u8 a.1.2.2.2.2.1.Frame.Turn,G a.1.2.2.2.2.1.Frame.At.X,G a.1.2.2.2.2.1.Frame.At.Y,G a.1.2.2.2.2.1.Frame.At.Z,G a.1.2.2.2.2.1.Size.X,G a.1.2.2.2.2.1.Size.Y,G a.1.2.2.2.2.1.Size.Z])) J<|O (.d (.agg [G 0,G 0,G 4])) J<|O (.d (.agg [.int .u8 0,G 0,G 0,G 4])) J<|O (.d (.agg [G 2,G 3,G 0])) J<|O (.d (.agg [.int .u8 0,G 0,G 0,G 4,G 2,G 3,G 0])) J<|O (.d (.bool ((a.1.2.2.2.2.1.Frame.Turn == 0) && ((a.1.2.2.2.2.1.Frame.At.X == 0) && ((a.1.2.2.2.2.1.Frame.At.Y == 0) && ((a.1.2.2.2.2.1.Frame.At.Z == 4) && ((a.1.2.2.2.2.1.Size.X == 2) && ((a.1.2.2.2.2.1.Size.Y == 3) && ((a.1.2.2.2.2.1.Size.Z == 0) && true))))))))) J<|O (.d (.bool ((a.1.2.2.2.2.1.Frame.Turn == 0) && ((a.1.2.2.2.2.1.Frame.At.X == 0) && ((a.1.2.2.2.2.1.Frame.At.Y == 0) && ((a.1.2.2.2.2.1.Frame.At.Z == 4) && ((a.1.2.2.2.2.1.Size.X == 2) && ((a.1.2.2.2.2.1.Size.Y == 3) && ((a.1.2.2.2.2.1.Size.Z == 0) && true))))))))) J<|q8 ?_
    obtain rfl:=qc s
    exact ⟨_,_,_,_,_,_,_,_,J⟩
   refine qa J<|qa J<|qa J<|qa J<|qa J<|qa J<|qa J<|O (qd false) J<|q8 ?_
   obtain rfl:=qc s
   exact ⟨_,_,_,_,_,_,_,_,J⟩
  rintro _ ⟨aw,ax,ay,az,ba,bb,bc,bd,rfl⟩
  obtain ⟨be,t,b⟩:=q7 b
  refine Q0 9 (fun A st=>∃ (bf bg bh bi bj bk bl bm : V),st = A [(102,qd be),(101,bm),(100,bl),(99,bk),(98,bj),(97,bi),(96,bh),(95,bg),(94,bf)]) ?_ ?_
  ·refine qy J J t (fun t=>?_) (fun t=>?_)
   ·refine O (.ref 1 42 0 0) J<|O (.d (.agg [.int .u8 a.1.1.Frame.Turn,G a.1.1.Frame.At.X,G a.1.1.Frame.At.Y,G a.1.1.Frame.At.Z,G a.1.1.Size.X,G a.1.1.Size.Y,G a.1.1.Size.Z])) J<|O (.d (.agg [G 2,G 0,G 0])) J<|O (.d (.agg [.int .u8 10,G 2,G 0,G 0])) J<|O (.d (.agg [G 3,G 4,G 0])) J<|O (.d (.agg [.int .u8 10,G 2,G 0,G 0,G 3,G 4,G 0])) J<|O (.d (.bool ((a.1.1.Frame.Turn == 10) && ((a.1.1.Frame.At.X == 2) && ((a.1.1.Frame.At.Y == 0) && ((a.1.1.Frame.At.Z == 0) && ((a.1.1.Size.X == 3) && ((a.1.1.Size.Y == 4) && ((a.1.1.Size.Z == 0) && true))))))))) J<|O (.d (.bool ((a.1.1.Frame.Turn == 10) && ((a.1.1.Frame.At.X == 2) && ((a.1.1.Frame.At.Y == 0) && ((a.1.1.Frame.At.Z == 0) && ((a.1.1.Size.X == 3) && ((a.1.1.Size.Y == 4) && ((a.1.1.Size.Z == 0) && true))))))))) J<|q8 ?_
    obtain rfl:=qc t
    exact ⟨_,_,_,_,_,_,_,_,J⟩
   refine qa J<|qa J<|qa J<|qa J<|qa J<|qa J<|qa J<|O (qd false) J<|q8 ?_
   obtain rfl:=qc t
   exact ⟨_,_,_,_,_,_,_,_,J⟩
  rintro _ ⟨bf,bg,bh,bi,bj,bk,bl,bm,rfl⟩
  refine q9 J<|qn ?_
  obtain rfl:=qc b
  exact qv (qd be) J
 refine qa J<|qa J<|qa J<|qa J<|O (qd false) J<|U J<|qa J<|qa J<|O (qd false) J<|q9 J<|qp<|U J<|U J<|qa J<|qa J<|qa J<|qa J<|qa J<|qa J<|qa J<|O (qd false) J<|U J<|qa J<|qa J<|qa J<|qa J<|qa J<|qa J<|qa J<|O (qd false) J<|q9 J<|qn ?_
 obtain rfl:=qc b
 exact qv (qd false) J
theorem qds (c : List Int) (r : List Int) (p : J0 c = some r) : Pure Tryz.prog tab 124 [.sl 1 (c.map (eI .i64))] (.sl 1 (r.map (eI .i64))):=by
 unfold J0 at p
 refine Qc Tryz.func124 J (by kernel_rfl) (by kernel_rfl) J<|qb<|q9 J<|qp<|q9 J<|q8<|qe<|qb<|q9 J<|q8 ?_
 obtain ⟨aa,bg,p⟩:=q7 p
 refine Qb (fun l=>l = aa) (fun (l : List Int)=>⟨[(3,.hs 0 1 0 l.length)],[(0,.dat 1 (l.map (eI .i64)))],1⟩) (by simp) ?_ ?_
 ·refine Q7 (q2y c) (fun (b : Int × List Int)=>⟨[(0,.d (.sl 1 (c.map (eI .i64)))),(3,.hs 0 1 0 b.2.length),(4,q6 b.1)],[(0,.dat 1 (b.2.map (eI .i64)))],1⟩) (0,[]) aa bg (wkA [] [] [0]) ?_
  intro b bp h
  unfold q2y at h
  refine qe<|qb<|U J<|U J<|Qg J<|O (.d (.bool (decide (b.1 < (c.length : Int))))) J<|q8 ?_
  refine qk J h (fun _ h=>?_) (fun _ h=>?_)
  ·refine ql<|qe ?_
   obtain ⟨bh,a,h⟩:=q7 h
   refine Qb (fun n=>n = bh) (fun (n : List Int)=>⟨[(0,.d (.sl 1 (c.map (eI .i64)))),(3,.hs 0 1 0 n.length),(4,q6 b.1)],[(0,.dat 1 (n.map (eI .i64)))],1⟩) (by simp) ?_ ?_
   ·refine qb<|U J<|O (q6 (b.2.length : Int)) J<|q9 J<|q8<|qe ?_
    obtain ⟨ab,bi,a⟩:=q7 a
    refine Qb (fun k=>k = ab) (fun (k : Int)=>⟨[(0,.d (.sl 1 (c.map (eI .i64)))),(3,.hs 0 1 0 b.2.length),(4,q6 b.1),(5,q6 k)],[(0,.dat 1 (b.2.map (eI .i64)))],1⟩) (by simp) ?_ ?_
    ·refine Q7 (q2z b c) (fun (o : Int)=>⟨[(0,.d (.sl 1 (c.map (eI .i64)))),(3,.hs 0 1 0 b.2.length),(4,q6 b.1),(5,q6 o)],[(0,.dat 1 (b.2.map (eI .i64)))],1⟩) (b.2.length : Int) ab bi (wkA [(0,0)] [] []) ?_
     intro o bq j
     unfold q2z at j
     refine qe<|qe<|Q4 [q0,q0,q0,q0,q0,q0,qo 0,q0,q0,q0,q0,q0,q0,q0] (by kernel_rfl)<|U J<|O (.d (.bool (decide (o > 0)))) J ?_
     obtain ⟨bj,f,j⟩:=q7 j
     refine Q0 12 (fun A st=>∃ (ac ad ae af ag ah ai aj ak al am : V),st = A [(27,qd bj),(26,am),(25,al),(24,ak),(23,aj),(22,ai),(21,ah),(20,ag),(19,af),(18,ae),(17,ad),(16,ac)]) ?_ ?_
     ·refine qy J J f (fun f=>?_) (fun f=>?_)
      ·refine U J<|U J<|O (.d (G (w64 (o - 1)))) J ?_
       obtain ⟨s,an,f⟩:=q7 f
       refine qq an J J<|qx (q6 s) an J<|U J<|U J ?_
       obtain ⟨t,bk,f⟩:=q7 f
       refine Q5 (enc:=(eI .i64)) bk J<|O (q6 t) J<|O (.d (.bool (decide (s > t)))) J<|O (.d (.bool (decide (s > t)))) J<|q8 ?_
       obtain rfl:=qc f
       exact ⟨_,_,_,_,_,_,_,_,_,_,_,J⟩
      refine qa J<|qa J<|qa J<|qa J<|qa J<|qa J<|qa J<|qa J<|qa J<|qa J<|O (qd false) J<|q8 ?_
      obtain rfl:=qc f
      exact ⟨_,_,_,_,_,_,_,_,_,_,_,J⟩
     rintro _ ⟨ac,ad,ae,af,ag,ah,ai,aj,ak,al,am,rfl⟩
     refine q8 ?_
     refine qk J j (fun _ j=>?_) (fun _ j=>?_)
     ·refine ql<|qu<|qs<|U J<|O (.d (G (w64 (o - 1)))) J<|q9 J<|qr<|Q9<|Qa ?_
      exact ⟨_,(Option.some.inj j).symm,wkA [(0,0)] [] []⟩
     refine Q1 ?_
     refine ⟨_,(Option.some.inj j).symm,fun hm=>?_⟩
     subst hm
     exact ⟨_,J,wkA [(0,0)] [] []⟩
    intro k hb
    subst hb
    refine qe<|qe<|Q4 [q0,q0,q0,q0,q0,q0,qo 0,q0,q0,q0,q0,q0,q0,q0] (by kernel_rfl)<|U J<|O (.d (.bool (decide (k > 0)))) J ?_
    obtain ⟨bl,g,a⟩:=q7 a
    refine Q0 12 (fun A st=>∃ (ao ap aq ar au av aw ax ay az ba : V),st = A [(43,qd bl),(42,ba),(41,az),(40,ay),(39,ax),(38,aw),(37,av),(36,au),(35,ar),(34,aq),(33,ap),(32,ao)]) ?_ ?_
    ·refine qy J J g (fun g=>?_) (fun g=>?_)
     ·refine U J<|U J<|O (.d (G (w64 (k - 1)))) J ?_
      obtain ⟨u,bb,g⟩:=q7 g
      refine qq bb J J<|qx (q6 u) bb J<|U J<|U J ?_
      obtain ⟨x,bm,g⟩:=q7 g
      refine Q5 (enc:=(eI .i64)) bm J<|O (q6 x) J<|O (qd (u == x)) J<|O (qd (u == x)) J<|q8 ?_
      obtain rfl:=qc g
      exact ⟨_,_,_,_,_,_,_,_,_,_,_,J⟩
     refine qa J<|qa J<|qa J<|qa J<|qa J<|qa J<|qa J<|qa J<|qa J<|qa J<|O (qd false) J<|q8 ?_
     obtain rfl:=qc g
     exact ⟨_,_,_,_,_,_,_,_,_,_,_,J⟩
    rintro _ ⟨ao,ap,aq,ar,au,av,aw,ax,ay,az,ba,rfl⟩
    refine q8 ?_
    refine qk J a (fun _ a=>?_) (fun _ a=>?_)
    ·refine Q1 ?_
     obtain rfl:=qc a
     exact ⟨_,J,wkA [(0,0)] [] []⟩
    refine ql<|qb<|U J<|Qh (.hs 1 1 0 [0].length) (.dat 1 ([0].map (eI .i64))) J ?_
    obtain ⟨q,bn,a⟩:=q7 a
    refine Ko (xs:=b.2) (ys:=[0]) (enc:=(eI .i64)) (.hs 1 1 0 [0].length) bn J J J J J J J (Kl J J) J J J J<|q9 J<|q8<|qe<|Q4 [Qd 2,q0,q0,q0,q0,q0,q0,q0] (by kernel_rfl)<|U J<|U J<|O (.d (G (w64 (k + 1)))) J ?_
    obtain ⟨bc,y,a⟩:=q7 a
    refine q7d y J J J J J (q6k J) (fun _=>rfl)<|U J<|U J ?_
    obtain ⟨m,bd,a⟩:=q7 a
    refine q7d bd J J J J J (q6k J) (fun _=>rfl)<|qqa (w:=bc) (xs:=q) (ys:=(q.drop m.1).take m.2) (enc:=(eI .i64)) (.hs 2 1 m.1 m.2) (q98 y) J J J J J J (qnd (q98 bd) J) J J J J ?_
    have be:=@qg7 _ q ((q.drop m.1).take m.2) bc (q98 y)
    refine q8<|qs<|U J<|U J<|U J<|U J ?_
    obtain ⟨z,bo,a⟩:=q7 a
    refine Q5 (enc:=(eI .i64)) bo J<|O (q6 z) J ?_
    obtain ⟨br,bf,a⟩:=q7 a
    refine qq bf (by simp [be]) J<|Qk (ds:=[G z]) z bf J J J J J J J J (leb J) J<|qr ?_
    obtain rfl:=qc a
    exact ⟨_,J,wkE [(0,2)] [] [] J ⟨⟨_,J,.d (.refl _)⟩,⟨_,J,Qp (by simp [be]) J (by decide) (ltd J)⟩,⟨_,J,.d (.refl _)⟩,trivial⟩ ⟨⟨ltd J,.inr ⟨by decide,_,J,.dat _ _⟩⟩,trivial⟩⟩
   intro n hb
   subst hb
   refine qs<|U J<|O (.d (G (w64 (b.1 + 1)))) J<|q9 J<|qr ?_
   exact ⟨_,(Option.some.inj h).symm,wkA [(0,0)] [] []⟩
  refine Q1 ?_
  refine ⟨_,(Option.some.inj h).symm,fun hm=>?_⟩
  subst hm
  exact ⟨_,J,wkA [(0,0)] [] []⟩
 intro l hb
 subst hb
 refine qb<|U J<|q9 J<|qn ?_
 obtain rfl:=qc p
 exact finD (.inr J) (v:=.hs 0 1 0 l.length) J (Z9 J J) (.refl _)
theorem qrv (p : List qf) (k : List qf) (r : List Int) (j : q7i p k = some r) : Pure Tryz.prog tab 130 [.sl 4 (p.map qm),.sl 4 (k.map qm)] (.sl 1 (r.map (eI .i64))):=by
 unfold q7i at j
 refine Qc Tryz.func130 J (by kernel_rfl) (by kernel_rfl) J<|qb<|q9 J<|qp<|q9 J<|q8<|qe<|qb<|q9 J<|q8 ?_
 obtain ⟨q,u,j⟩:=q7 j
 refine Qb (fun o=>o = q) (fun (o : List Int)=>⟨[(1,.d (.sl 4 (k.map qm))),(5,.hs 0 1 0 o.length)],[(0,.dat 1 (o.map (eI .i64)))],1⟩) (by simp) ?_ ?_
 ·refine Q7 (q33 p) (fun (l : Int × List Int)=>⟨[(0,.d (.sl 4 (p.map qm))),(1,.d (.sl 4 (k.map qm))),(5,.hs 0 1 0 l.2.length),(6,q6 l.1)],[(0,.dat 1 (l.2.map (eI .i64)))],1⟩) (0,[]) q u (wkA [] [] [0]) ?_
  intro l ad a
  unfold q33 at a
  refine qe<|qb<|U J<|U J<|Qg J<|O (.d (.bool (decide (l.1 < (p.length : Int))))) J<|q8 ?_
  refine qk J a (fun _ a=>?_) (fun _ a=>?_)
  ·refine ql<|qe<|qu<|Q4 [q0,(some [0,1],[0,2]),(some [],[1]),q0,q0,q0,q0,q0,q0,q0,q0,q0,q0,q0] (by kernel_rfl)<|U J<|U J<|U J ?_
   obtain ⟨c,v,a⟩:=q7 a
   refine Q5 (enc:=qm) v J<|O (.dref [G c.X0,G c.Y0,G c.X1,G c.Y1] 0) J<|O (q6 c.X0) J<|U J<|U J ?_
   obtain ⟨f,w,a⟩:=q7 a
   refine Q5 (enc:=qm) w J<|O (.dref [G f.X0,G f.Y0,G f.X1,G f.Y1] 2) J<|O (q6 f.X1) J<|Qh (.hs 1 1 0 [c.X0,f.X1].length) (.dat 1 ([c.X0,f.X1].map (eI .i64))) J ?_
   obtain ⟨ae,x,a⟩:=q7 a
   refine Ko (xs:=l.2) (ys:=[c.X0,f.X1]) (enc:=(eI .i64)) (.hs 1 1 0 [c.X0,f.X1].length) x J J J J J J J (Kl J J) J J J J<|q9 J<|qr<|Q9<|qs<|U J<|O (.d (G (w64 (l.1 + 1)))) J<|q9 J<|qr ?_
   exact ⟨_,(Option.some.inj a).symm,wkA [(0,2)] [] []⟩
  refine Q1 ?_
  refine ⟨_,(Option.some.inj a).symm,fun hm=>?_⟩
  subst hm
  exact ⟨_,J,wkA [(0,0)] [] []⟩
 intro o hb
 subst hb
 refine qe<|qb<|q9 J<|q8 ?_
 obtain ⟨s,y,j⟩:=q7 j
 refine Qb (fun m=>m = s) (fun (m : List Int)=>⟨[(5,.hs 0 1 0 m.length)],[(0,.dat 1 (m.map (eI .i64)))],1⟩) (by simp) ?_ ?_
 ·refine Q7 (q34 k) (fun (n : Int × List Int)=>⟨[(1,.d (.sl 4 (k.map qm))),(5,.hs 0 1 0 n.2.length),(7,q6 n.1)],[(0,.dat 1 (n.2.map (eI .i64)))],1⟩) (0,o) s y (wkA [(0,0)] [] []) ?_
  intro n af b
  unfold q34 at b
  refine qe<|qb<|U J<|U J<|Qg J<|O (.d (.bool (decide (n.1 < (k.length : Int))))) J<|q8 ?_
  refine qk J b (fun _ b=>?_) (fun _ b=>?_)
  ·refine ql<|qe<|qu<|Q4 [q0,(some [0,1],[0,2]),(some [],[1]),q0,q0,q0,q0,q0,q0,q0,q0,q0,q0,q0] (by kernel_rfl)<|U J<|U J<|U J ?_
   obtain ⟨g,z,b⟩:=q7 b
   refine Q5 (enc:=qm) z J<|O (.dref [G g.X0,G g.Y0,G g.X1,G g.Y1] 0) J<|O (q6 g.X0) J<|U J<|U J ?_
   obtain ⟨h,aa,b⟩:=q7 b
   refine Q5 (enc:=qm) aa J<|O (.dref [G h.X0,G h.Y0,G h.X1,G h.Y1] 2) J<|O (q6 h.X1) J<|Qh (.hs 1 1 0 [g.X0,h.X1].length) (.dat 1 ([g.X0,h.X1].map (eI .i64))) J ?_
   obtain ⟨ag,ab,b⟩:=q7 b
   refine Ko (xs:=n.2) (ys:=[g.X0,h.X1]) (enc:=(eI .i64)) (.hs 1 1 0 [g.X0,h.X1].length) ab J J J J J J J (Kl J J) J J J J<|q9 J<|qr<|Q9<|qs<|U J<|O (.d (G (w64 (n.1 + 1)))) J<|q9 J<|qr ?_
   exact ⟨_,(Option.some.inj b).symm,wkA [(0,2)] [] []⟩
  refine Q1 ?_
  refine ⟨_,(Option.some.inj b).symm,fun hm=>?_⟩
  subst hm
  exact ⟨_,J,wkA [(0,0)] [] []⟩
 intro m hb
 subst hb
 refine qe ?_
 refine Yj (st':=⟨[(5,.d (.sl 1 (m.map (eI .i64))))],[],0⟩) (wkA [] [0] []) ?_ (by simp)
 refine qs<|U J ?_
 obtain ⟨t,ac,j⟩:=q7 j
 refine qt (qds m t ac) J<|q9 J<|qn ?_
 obtain rfl:=qc j
 exact qv (.d (.sl 1 (t.map (eI .i64)))) J
theorem qrx (p : List qf) (k : List qf) (r : List Int) (j : q7j p k = some r) : Pure Tryz.prog tab 131 [.sl 4 (p.map qm),.sl 4 (k.map qm)] (.sl 1 (r.map (eI .i64))):=by
 unfold q7j at j
 refine Qc Tryz.func131 J (by kernel_rfl) (by kernel_rfl) J<|qb<|q9 J<|qp<|q9 J<|q8<|qe<|qb<|q9 J<|q8 ?_
 obtain ⟨q,u,j⟩:=q7 j
 refine Qb (fun o=>o = q) (fun (o : List Int)=>⟨[(1,.d (.sl 4 (k.map qm))),(5,.hs 0 1 0 o.length)],[(0,.dat 1 (o.map (eI .i64)))],1⟩) (by simp) ?_ ?_
 ·refine Q7 (q35 p) (fun (l : Int × List Int)=>⟨[(0,.d (.sl 4 (p.map qm))),(1,.d (.sl 4 (k.map qm))),(5,.hs 0 1 0 l.2.length),(6,q6 l.1)],[(0,.dat 1 (l.2.map (eI .i64)))],1⟩) (0,[]) q u (wkA [] [] [0]) ?_
  intro l ad a
  unfold q35 at a
  refine qe<|qb<|U J<|U J<|Qg J<|O (.d (.bool (decide (l.1 < (p.length : Int))))) J<|q8 ?_
  refine qk J a (fun _ a=>?_) (fun _ a=>?_)
  ·refine ql<|qe<|qu<|Q4 [q0,(some [0,1],[0,2]),(some [],[1]),q0,q0,q0,q0,q0,q0,q0,q0,q0,q0,q0] (by kernel_rfl)<|U J<|U J<|U J ?_
   obtain ⟨c,v,a⟩:=q7 a
   refine Q5 (enc:=qm) v J<|O (.dref [G c.X0,G c.Y0,G c.X1,G c.Y1] 1) J<|O (q6 c.Y0) J<|U J<|U J ?_
   obtain ⟨f,w,a⟩:=q7 a
   refine Q5 (enc:=qm) w J<|O (.dref [G f.X0,G f.Y0,G f.X1,G f.Y1] 3) J<|O (q6 f.Y1) J<|Qh (.hs 1 1 0 [c.Y0,f.Y1].length) (.dat 1 ([c.Y0,f.Y1].map (eI .i64))) J ?_
   obtain ⟨ae,x,a⟩:=q7 a
   refine Ko (xs:=l.2) (ys:=[c.Y0,f.Y1]) (enc:=(eI .i64)) (.hs 1 1 0 [c.Y0,f.Y1].length) x J J J J J J J (Kl J J) J J J J<|q9 J<|qr<|Q9<|qs<|U J<|O (.d (G (w64 (l.1 + 1)))) J<|q9 J<|qr ?_
   exact ⟨_,(Option.some.inj a).symm,wkA [(0,2)] [] []⟩
  refine Q1 ?_
  refine ⟨_,(Option.some.inj a).symm,fun hm=>?_⟩
  subst hm
  exact ⟨_,J,wkA [(0,0)] [] []⟩
 intro o hb
 subst hb
 refine qe<|qb<|q9 J<|q8 ?_
 obtain ⟨s,y,j⟩:=q7 j
 refine Qb (fun m=>m = s) (fun (m : List Int)=>⟨[(5,.hs 0 1 0 m.length)],[(0,.dat 1 (m.map (eI .i64)))],1⟩) (by simp) ?_ ?_
 ·refine Q7 (q36 k) (fun (n : Int × List Int)=>⟨[(1,.d (.sl 4 (k.map qm))),(5,.hs 0 1 0 n.2.length),(7,q6 n.1)],[(0,.dat 1 (n.2.map (eI .i64)))],1⟩) (0,o) s y (wkA [(0,0)] [] []) ?_
  intro n af b
  unfold q36 at b
  refine qe<|qb<|U J<|U J<|Qg J<|O (.d (.bool (decide (n.1 < (k.length : Int))))) J<|q8 ?_
  refine qk J b (fun _ b=>?_) (fun _ b=>?_)
  ·refine ql<|qe<|qu<|Q4 [q0,(some [0,1],[0,2]),(some [],[1]),q0,q0,q0,q0,q0,q0,q0,q0,q0,q0,q0] (by kernel_rfl)<|U J<|U J<|U J ?_
   obtain ⟨g,z,b⟩:=q7 b
   refine Q5 (enc:=qm) z J<|O (.dref [G g.X0,G g.Y0,G g.X1,G g.Y1] 1) J<|O (q6 g.Y0) J<|U J<|U J ?_
   obtain ⟨h,aa,b⟩:=q7 b
   refine Q5 (enc:=qm) aa J<|O (.dref [G h.X0,G h.Y0,G h.X1,G h.Y1] 3) J<|O (q6 h.Y1) J<|Qh (.hs 1 1 0 [g.Y0,h.Y1].length) (.dat 1 ([g.Y0,h.Y1].map (eI .i64))) J ?_
   obtain ⟨ag,ab,b⟩:=q7 b
   refine Ko (xs:=n.2) (ys:=[g.Y0,h.Y1]) (enc:=(eI .i64)) (.hs 1 1 0 [g.Y0,h.Y1].length) ab J J J J J J J (Kl J J) J J J J<|q9 J<|qr<|Q9<|qs<|U J<|O (.d (G (w64 (n.1 + 1)))) J<|q9 J<|qr ?_
   exact ⟨_,(Option.some.inj b).symm,wkA [(0,2)] [] []⟩
  refine Q1 ?_
  refine ⟨_,(Option.some.inj b).symm,fun hm=>?_⟩
  subst hm
  exact ⟨_,J,wkA [(0,0)] [] []⟩
 intro m hb
 subst hb
 refine qe ?_
 refine Yj (st':=⟨[(5,.d (.sl 1 (m.map (eI .i64))))],[],0⟩) (wkA [] [0] []) ?_ (by simp)
 refine qs<|U J ?_
 obtain ⟨t,ac,j⟩:=q7 j
 refine qt (qds m t ac) J<|q9 J<|qn ?_
 obtain rfl:=qc j
 exact qv (.d (.sl 1 (t.map (eI .i64)))) J
theorem qdu (n : List qf) (c : Int) (b : Int) (r : Bool) (o : q30 n c b = some r) : Pure Tryz.prog tab 39 [.sl 4 (n.map qm),G c,G b] (.bool r):=by
 unfold q30 at o
 refine Qc Tryz.func39 J (by kernel_rfl) (by kernel_rfl) J<|qb<|q9 J<|q8<|qe<|qb<|q9 J<|q8 ?_
 obtain ⟨s,ar,o⟩:=q7 o
 refine Qb (fun q=>.inl q = s) (fun (q : Unit)=>⟨[],[],0⟩) (by simp) ?_ ?_
 ·refine Q7 (q1o n c b) (fun (p : Int)=>⟨[(0,.d (.sl 4 (n.map qm))),(1,q6 c),(2,q6 b),(7,q6 p)],[],0⟩) 0 s ar (wkA [] [] []) ?_
  intro p bb a
  unfold q1o at a
  refine qe<|qb<|U J<|U J<|Qg J<|O (.d (.bool (decide (p < (n.length : Int))))) J<|q8 ?_
  refine qk J a (fun _ a=>?_) (fun _ a=>?_)
  ·refine ql<|qe<|qu<|qb<|U J<|U J ?_
   obtain ⟨m,au,a⟩:=q7 a
   refine Q5 (enc:=qm) au J<|O (.dref [G m.X0,G m.Y0,G m.X1,G m.Y1] 0) J<|O (q6 m.X0) J<|U J<|O (.d (.bool (decide (m.X0≤c)))) J ?_
   obtain ⟨av,f,a⟩:=q7 a
   refine Q0 9 (fun A st=>∃ (t u v w x y z aa : V),st = A [(29,qd av),(28,aa),(27,z),(26,y),(25,x),(24,w),(23,v),(22,u),(21,t)]) ?_ ?_
   ·refine qy J J f (fun f=>?_) (fun f=>?_)
    ·refine U J<|U J<|U J ?_
     obtain ⟨g,aw,f⟩:=q7 f
     refine Q5 (enc:=qm) aw J<|O (.dref [G g.X0,G g.Y0,G g.X1,G g.Y1] 2) J<|O (q6 g.X1) J<|O (.d (.bool (decide (c < g.X1)))) J<|O (.d (.bool (decide (c < g.X1)))) J<|q8 ?_
     obtain rfl:=qc f
     exact ⟨_,_,_,_,_,_,_,_,J⟩
    refine qa J<|qa J<|qa J<|qa J<|qa J<|qa J<|qa J<|O (qd false) J<|q8 ?_
    obtain rfl:=qc f
    exact ⟨_,_,_,_,_,_,_,_,J⟩
   rintro _ ⟨t,u,v,w,x,y,z,aa,rfl⟩
   obtain ⟨ax,h,a⟩:=q7 a
   refine Q0 9 (fun A st=>∃ (ab ac ad ae af ag ah ai : V),st = A [(38,qd ax),(37,ai),(36,ah),(35,ag),(34,af),(33,ae),(32,ad),(31,ac),(30,ab)]) ?_ ?_
   ·refine qy J J h (fun h=>?_) (fun h=>?_)
    ·refine U J<|U J ?_
     obtain ⟨j,ay,h⟩:=q7 h
     refine Q5 (enc:=qm) ay J<|O (.dref [G j.X0,G j.Y0,G j.X1,G j.Y1] 1) J<|O (q6 j.Y0) J<|U J<|O (.d (.bool (decide (j.Y0≤b)))) J<|O (.d (.bool (decide (j.Y0≤b)))) J<|q8 ?_
     obtain rfl:=qc h
     exact ⟨_,_,_,_,_,_,_,_,J⟩
    refine qa J<|qa J<|qa J<|qa J<|qa J<|qa J<|qa J<|O (qd false) J<|q8 ?_
    obtain rfl:=qc h
    exact ⟨_,_,_,_,_,_,_,_,J⟩
   rintro _ ⟨ab,ac,ad,ae,af,ag,ah,ai,rfl⟩
   obtain ⟨az,k,a⟩:=q7 a
   refine Q0 9 (fun A st=>∃ (aj ak al am an ao ap aq : V),st = A [(47,qd az),(46,aq),(45,ap),(44,ao),(43,an),(42,am),(41,al),(40,ak),(39,aj)]) ?_ ?_
   ·refine qy J J k (fun k=>?_) (fun k=>?_)
    ·refine U J<|U J<|U J ?_
     obtain ⟨l,ba,k⟩:=q7 k
     refine Q5 (enc:=qm) ba J<|O (.dref [G l.X0,G l.Y0,G l.X1,G l.Y1] 3) J<|O (q6 l.Y1) J<|O (.d (.bool (decide (b < l.Y1)))) J<|O (.d (.bool (decide (b < l.Y1)))) J<|q8 ?_
     obtain rfl:=qc k
     exact ⟨_,_,_,_,_,_,_,_,J⟩
    refine qa J<|qa J<|qa J<|qa J<|qa J<|qa J<|qa J<|O (qd false) J<|q8 ?_
    obtain rfl:=qc k
    exact ⟨_,_,_,_,_,_,_,_,J⟩
   rintro _ ⟨aj,ak,al,am,an,ao,ap,aq,rfl⟩
   refine q8 ?_
   refine qk J a (fun _ a=>?_) (fun _ a=>?_)
   ·refine qb<|q9 J<|qn ?_
    refine ⟨_,(Option.some.inj a).symm,fun hm=>?_⟩
    subst hm
    obtain rfl:=qc o
    exact qv (qd true) J
   refine ql<|Qa<|Q9<|qs<|U J<|O (.d (G (w64 (p + 1)))) J<|q9 J<|qr ?_
   exact ⟨_,(Option.some.inj a).symm,wkA [] [] []⟩
  refine Q1 ?_
  refine ⟨_,(Option.some.inj a).symm,fun hm=>?_⟩
  subst hm
  exact ⟨_,J,wkA [] [] []⟩
 intro q hb
 subst hb
 refine qb<|q9 J<|qn ?_
 obtain rfl:=qc o
 exact qv (qd false) J
theorem qrp (g : Int) (h : Bool) (b : Bool) (r : Bool) (a : q4n g h b = some r) : Pure Tryz.prog tab 132 [G g,.bool h,.bool b] (.bool r):=by
 unfold q4n at a
 refine Qc Tryz.func132 J (by kernel_rfl) (by kernel_rfl) J<|qb<|q9 J<|q8<|qe<|qb<|U J<|O (qd (g == 1)) J<|q8 ?_
 refine qk J a (fun _ a=>?_) (fun _ a=>?_)
 ·refine qb<|U J ?_
  obtain ⟨j,c,a⟩:=q7 a
  refine Q0 3 (fun A st=>∃ (k l : V),st = A [(12,qd j),(11,l),(10,k)]) ?_ ?_
  ·refine qy J J c (fun c=>?_) (fun c=>?_)
   ·refine U J<|O (qd b) J<|q8 ?_
    obtain rfl:=qc c
    exact ⟨_,_,J⟩
   refine qa J<|O (qd false) J<|q8 ?_
   obtain rfl:=qc c
   exact ⟨_,_,J⟩
  rintro _ ⟨k,l,rfl⟩
  refine q9 J<|qn ?_
  obtain rfl:=qc a
  exact qv (qd j) J
 refine ql<|qe<|qb<|U J<|O (qd (g == 2)) J<|q8 ?_
 refine qk J a (fun _ a=>?_) (fun _ a=>?_)
 ·refine qb<|U J ?_
  obtain ⟨m,d,a⟩:=q7 a
  refine Q0 3 (fun A st=>∃ (n o : V),st = A [(18,qd m),(17,o),(16,n)]) ?_ ?_
  ·refine qy J J d (fun d=>?_) (fun d=>?_)
   ·refine qa J<|O (qd true) J<|q8 ?_
    obtain rfl:=qc d
    exact ⟨_,_,J⟩
   refine U J<|O (qd b) J<|q8 ?_
   obtain rfl:=qc d
   exact ⟨_,_,J⟩
  rintro _ ⟨n,o,rfl⟩
  refine q9 J<|qn ?_
  obtain rfl:=qc a
  exact qv (qd m) J
 refine ql<|qb<|U J ?_
 obtain ⟨p,f,a⟩:=q7 a
 refine Q0 4 (fun A st=>∃ (q s t : V),st = A [(23,qd p),(22,t),(21,s),(20,q)]) ?_ ?_
 ·refine qy J J f (fun f=>?_) (fun f=>?_)
  ·refine U J<|O (qd (!b)) J<|O (qd (!b)) J<|q8 ?_
   obtain rfl:=qc f
   exact ⟨_,_,_,J⟩
  refine qa J<|qa J<|O (qd false) J<|q8 ?_
  obtain rfl:=qc f
  exact ⟨_,_,_,J⟩
 rintro _ ⟨q,s,t,rfl⟩
 refine q9 J<|qn ?_
 obtain rfl:=qc a
 exact qv (qd p) J
theorem qrm (g : List Int) (l : List Bool) (r : List qj) (n : q2r g l = some r) : Pure Tryz.prog tab 80 [.sl 1 (g.map (eI .i64)),.sl 1 (l.map eB)] (.sl 2 (r.map Q3)):=by
 unfold q2r at n
 refine Qc Tryz.func80 J (by kernel_rfl) (by kernel_rfl) J<|qb<|q9 J<|qp<|q9 J<|q8<|qe<|qb<|q9 J<|q8 ?_
 obtain ⟨s,aj,n⟩:=q7 n
 refine Qb (fun h=>h = s) (fun (h : List qj)=>⟨[(5,.hs 0 2 0 h.length)],[(0,.dat 2 (h.map Q3))],1⟩) (by simp) ?_ ?_
 ·refine Q7 (q2s g l) (fun (b : Int × List qj)=>⟨[(0,.d (.sl 1 (g.map (eI .i64)))),(1,.d (.sl 1 (l.map eB))),(5,.hs 0 2 0 b.2.length),(6,q6 b.1)],[(0,.dat 2 (b.2.map Q3))],1⟩) (0,[]) s aj (wkA [] [] [0]) ?_
  intro b av f
  unfold q2s at f
  refine qe<|qb<|U J<|O (.d (G (w64 (b.1 + 1)))) J<|U J<|Qg J<|O (.d (.bool (decide ((w64 (b.1 + 1)) < (g.length : Int))))) J<|q8 ?_
  refine qk J f (fun _ f=>?_) (fun _ f=>?_)
  ·refine ql<|qe ?_
   obtain ⟨ak,a,f⟩:=q7 f
   refine Qb (fun m=>m = ak) (fun (m : List qj)=>⟨[(0,.d (.sl 1 (g.map (eI .i64)))),(1,.d (.sl 1 (l.map eB))),(5,.hs 0 2 0 m.length),(6,q6 b.1)],[(0,.dat 2 (m.map Q3))],1⟩) (by simp) ?_ ?_
   ·refine qe<|qb<|U J<|U J ?_
    obtain ⟨t,al,a⟩:=q7 a
    refine Q5 (enc:=eB) al J<|O (qd t) J<|O (qd (!t)) J<|q8 ?_
    refine qk J a (fun _ a=>?_) (fun _ a=>?_)
    ·refine Q1 ?_
     obtain rfl:=qc a
     exact ⟨_,J,wkA [(0,0)] [] []⟩
    refine ql<|qb<|U J<|O (q6 (b.2.length : Int)) J<|q9 J<|q8<|qe<|Q4 [q0,q0,q0,q0,q0,q0,qo 0,q0,q0,q0,q0,q0,q0,q0,q0] (by kernel_rfl)<|U J<|O (.d (.bool (decide ((b.2.length : Int) > 0)))) J ?_
    obtain ⟨am,c,a⟩:=q7 a
    refine Q0 13 (fun A st=>∃ (u w x y z aa ab ac ad ae af ag : V),st = A [(36,qd am),(35,ag),(34,af),(33,ae),(32,ad),(31,ac),(30,ab),(29,aa),(28,z),(27,y),(26,x),(25,w),(24,u)]) ?_ ?_
    ·refine qy J J c (fun c=>?_) (fun c=>?_)
     ·refine U J<|U J<|O (.d (G (w64 ((b.2.length : Int) - 1)))) J ?_
      obtain ⟨o,ah,c⟩:=q7 c
      refine qq ah J J<|O (.ref 0 2 (w64 ((b.2.length : Int) - 1)).toNat 1) J<|qx (q6 o.Hi) ah J<|U J<|U J ?_
      obtain ⟨p,an,c⟩:=q7 c
      refine Q5 (enc:=(eI .i64)) an J<|O (q6 p) J<|O (qd (o.Hi == p)) J<|O (qd (o.Hi == p)) J<|q8 ?_
      obtain rfl:=qc c
      exact ⟨_,_,_,_,_,_,_,_,_,_,_,_,J⟩
     refine qa J<|qa J<|qa J<|qa J<|qa J<|qa J<|qa J<|qa J<|qa J<|qa J<|qa J<|O (qd false) J<|q8 ?_
     obtain rfl:=qc c
     exact ⟨_,_,_,_,_,_,_,_,_,_,_,_,J⟩
    rintro _ ⟨u,w,x,y,z,aa,ab,ac,ad,ae,af,ag,rfl⟩
    refine q8 ?_
    refine qk J a (fun _ a=>?_) (fun _ a=>?_)
    ·refine qs<|U J<|U J<|O (.d (G (w64 ((b.2.length : Int) - 1)))) J<|U J<|U J<|O (.d (G (w64 (b.1 + 1)))) J ?_
     obtain ⟨q,ao,a⟩:=q7 a
     refine Q5 (enc:=(eI .i64)) ao J<|O (q6 q) J ?_
     obtain ⟨ap,ai,a⟩:=q7 a
     refine qq ai J J<|O (.ref 0 2 (w64 ((b.2.length : Int) - 1)).toNat 1) J<|Qk (ds:=[G q]) ({Lo:=ap.Lo,Hi:=q} : qj) ai J J J J J J J J (leb J) J<|qr ?_
     obtain rfl:=qc a
     exact ⟨_,J,wkE [(0,0)] [] [] J ⟨⟨_,J,.d (.refl _)⟩,⟨_,J,.d (.refl _)⟩,⟨_,J,Qp (by simp) J (by decide) (ltd J)⟩,⟨_,J,.d (.refl _)⟩,trivial⟩ ⟨⟨ltd J,.inr ⟨by decide,_,J,.dat _ _⟩⟩,trivial⟩⟩
    refine Q4 [q0,(some [0,1],[0,2]),(some [],[1]),q0,q0,q0,q0,q0,q0,q0,q0,q0,q0,q0] (by kernel_rfl)<|U J<|U J<|U J ?_
    obtain ⟨j,aq,a⟩:=q7 a
    refine Q5 (enc:=(eI .i64)) aq J<|O (q6 j) J<|U J<|U J<|O (.d (G (w64 (b.1 + 1)))) J ?_
    obtain ⟨k,ar,a⟩:=q7 a
    refine Q5 (enc:=(eI .i64)) ar J<|O (q6 k) J<|O (.d (.agg [G j,G k])) J<|Qh (.hs 1 2 0 [({Lo:=j,Hi:=k} : qj)].length) (.dat 2 ([({Lo:=j,Hi:=k} : qj)].map Q3)) J ?_
    obtain ⟨aw,au,a⟩:=q7 a
    refine Ko (xs:=b.2) (ys:=[({Lo:=j,Hi:=k} : qj)]) (enc:=Q3) (.hs 1 2 0 [({Lo:=j,Hi:=k} : qj)].length) au J J J J J J J (Kl J J) J J J J<|q9 J<|qr ?_
    obtain rfl:=qc a
    exact ⟨_,J,wkA [(0,2)] [] []⟩
   intro m hb
   subst hb
   refine qs<|U J<|O (.d (G (w64 (b.1 + 1)))) J<|q9 J<|qr ?_
   exact ⟨_,(Option.some.inj f).symm,wkA [(0,0)] [] []⟩
  refine Q1 ?_
  refine ⟨_,(Option.some.inj f).symm,fun hm=>?_⟩
  subst hm
  exact ⟨_,J,wkA [(0,0)] [] []⟩
 intro h hb
 subst hb
 refine qb<|U J<|q9 J<|qn ?_
 obtain rfl:=qc n
 exact finD (.inr J) (v:=.hs 0 2 0 h.length) J (Z9 J J) (.refl _)
theorem qdv (k : Int) (f : List qf) (g : List qf) (r : List qf) (o : Zi k f g = some r) : Pure Tryz.prog tab 85 [G k,.sl 4 (f.map qm),.sl 4 (g.map qm)] (.sl 4 (r.map qm)):=by
 unfold Zi at o
 refine Qc Tryz.func85 J (by kernel_rfl) (by kernel_rfl) J<|qb<|q9 J<|qp<|U J<|U J ?_
 obtain ⟨j,h2,o⟩:=q7 o
 refine qt (qrv f g j h2) J<|U J<|U J ?_
 obtain ⟨l,h4,o⟩:=q7 o
 refine qt (qrx f g l h4) J<|q9 J<|q9 J<|qp<|q9 J<|qp<|q9 J<|qp<|q9 J<|q8<|qe<|qb<|q9 J<|q8 ?_
 obtain ⟨ah,ba,o⟩:=q7 o
 refine Qb (fun z=>z = ah) (fun (z : List qf)=>⟨[(9,.hs 0 4 0 z.length)],[(0,.dat 4 (z.map qm))],1⟩) (by simp) ?_ ?_
 ·refine Q7 (q1p j l f g k) (fun (a : List qj × Int × Int × List qf)=>⟨[(0,q6 k),(1,.d (.sl 4 (f.map qm))),(2,.d (.sl 4 (g.map qm))),(7,.d (.sl 1 (j.map (eI .i64)))),(8,.d (.sl 1 (l.map (eI .i64)))),(9,.hs 0 4 0 a.2.2.2.length),(10,.d (.sl 2 (a.1.map Q3))),(11,q6 a.2.1),(12,q6 a.2.2.1)],[(0,.dat 4 (a.2.2.2.map qm))],1⟩) ([],0,0,[]) ah ba (wkA [] [] [0]) ?_
  intro a bz p
  unfold q1p at p
  refine qe<|qb<|U J<|O (.d (G (w64 (a.2.2.1 + 1)))) J<|U J<|Qg J<|O (.d (.bool (decide ((w64 (a.2.2.1 + 1)) < (j.length : Int))))) J<|q8 ?_
  refine qk J p (fun _ p=>?_) (fun _ p=>?_)
  ·refine ql<|qe ?_
   obtain ⟨bb,h,p⟩:=q7 p
   refine Qb (fun t=>t = bb) (fun (t : List qj × Int × List qf)=>⟨[(0,q6 k),(1,.d (.sl 4 (f.map qm))),(2,.d (.sl 4 (g.map qm))),(7,.d (.sl 1 (j.map (eI .i64)))),(8,.d (.sl 1 (l.map (eI .i64)))),(9,.hs 0 4 0 t.2.2.length),(10,.d (.sl 2 (t.1.map Q3))),(11,q6 t.2.1),(12,q6 a.2.2.1)],[(0,.dat 4 (t.2.2.map qm))],1⟩) (by simp) ?_ ?_
   ·refine qb<|q9 J<|q8<|qe<|qb<|q9 J<|q8 ?_
    obtain ⟨ai,bc,h⟩:=q7 h
    refine Qb (fun u=>u = ai) (fun (u : List Bool)=>⟨[(0,q6 k),(1,.d (.sl 4 (f.map qm))),(2,.d (.sl 4 (g.map qm))),(7,.d (.sl 1 (j.map (eI .i64)))),(8,.d (.sl 1 (l.map (eI .i64)))),(9,.hs 0 4 0 a.2.2.2.length),(10,.d (.sl 2 (a.1.map Q3))),(11,q6 a.2.1),(12,q6 a.2.2.1),(13,.hs 1 1 0 u.length)],[(0,.dat 4 (a.2.2.2.map qm)),(1,.dat 1 (u.map eB))],2⟩) (by simp) ?_ ?_
    ·refine Q7 (q31 l j a f g k) (fun (w : Int × List Bool)=>⟨[(0,q6 k),(1,.d (.sl 4 (f.map qm))),(2,.d (.sl 4 (g.map qm))),(7,.d (.sl 1 (j.map (eI .i64)))),(8,.d (.sl 1 (l.map (eI .i64)))),(9,.hs 0 4 0 a.2.2.2.length),(10,.d (.sl 2 (a.1.map Q3))),(11,q6 a.2.1),(12,q6 a.2.2.1),(13,.hs 1 1 0 w.2.length),(14,q6 w.1)],[(0,.dat 4 (a.2.2.2.map qm)),(1,.dat 1 (w.2.map eB))],2⟩) (0,[]) ai bc (wkA [(0,0)] [] [1]) ?_
     intro w ca b
     unfold q31 at b
     refine qe<|qb<|U J<|U J<|Qg J<|O (.d (.bool (decide (w.1 < (l.length : Int))))) J<|q8 ?_
     refine qk J b (fun _ b=>?_) (fun _ b=>?_)
     ·refine ql<|qe<|qu<|Q4 [q0,(some [1,2],[1,3]),(some [],[2]),q0,q0,q0,q0,q0,q0,q0,q0,q0,q0,q0,q0,q0,q0,q0,q0,q0,q0,q0,q0,q0,q0,q0] (by kernel_rfl)<|U J<|U J<|U J<|U J<|U J ?_
      obtain ⟨aj,bd,b⟩:=q7 b
      refine Q5 (enc:=(eI .i64)) bd J<|O (q6 aj) J<|U J<|U J ?_
      obtain ⟨ak,be,b⟩:=q7 b
      refine Q5 (enc:=(eI .i64)) be J<|O (q6 ak) J ?_
      obtain ⟨al,bf,b⟩:=q7 b
      refine qt (qdu f aj ak al bf) J<|U J<|U J<|U J ?_
      obtain ⟨am,bg,b⟩:=q7 b
      refine Q5 (enc:=(eI .i64)) bg J<|O (q6 am) J<|U J<|U J ?_
      obtain ⟨an,bh,b⟩:=q7 b
      refine Q5 (enc:=(eI .i64)) bh J<|O (q6 an) J ?_
      obtain ⟨ao,bi,b⟩:=q7 b
      refine qt (qdu g am an ao bi) J ?_
      obtain ⟨ad,bj,b⟩:=q7 b
      refine qt (qrp k al ao ad bj) J<|Qh (.hs 2 1 0 [ad].length) (.dat 1 ([ad].map eB)) J ?_
      obtain ⟨cb,bk,b⟩:=q7 b
      refine Ko (xs:=w.2) (ys:=[ad]) (enc:=eB) (.hs 2 1 0 [ad].length) bk J J J J J J J (Kl J J) J J J J<|q9 J<|qr<|Q9<|qs<|U J<|O (.d (G (w64 (w.1 + 1)))) J<|q9 J<|qr ?_
      exact ⟨_,(Option.some.inj b).symm,wkA [(0,0),(1,3)] [] []⟩
     refine Q1 ?_
     refine ⟨_,(Option.some.inj b).symm,fun hm=>?_⟩
     subst hm
     exact ⟨_,J,wkA [(0,0),(1,1)] [] []⟩
    intro u hb
    subst hb
    refine qe ?_
    refine Yj (st':=⟨[(0,q6 k),(1,.d (.sl 4 (f.map qm))),(2,.d (.sl 4 (g.map qm))),(7,.d (.sl 1 (j.map (eI .i64)))),(8,.d (.sl 1 (l.map (eI .i64)))),(9,.hs 0 4 0 a.2.2.2.length),(10,.d (.sl 2 (a.1.map Q3))),(11,q6 a.2.1),(12,q6 a.2.2.1),(13,.d (.sl 1 (u.map eB)))],[(0,.dat 4 (a.2.2.2.map qm))],1⟩) (wkA [(0,0)] [1] []) ?_ (by simp)
    refine qs<|U J<|U J ?_
    obtain ⟨aa,bl,h⟩:=q7 h
    refine qt (qrm l u aa bl) J<|q9 J<|q8<|qe<|qb<|U J<|O (.d (.bool (decide (a.2.2.1 > 0)))) J ?_
    obtain ⟨bm,x,h⟩:=q7 h
    refine Q0 5 (fun A st=>∃ (ap aq ar au : V),st = A [(71,qd bm),(70,au),(69,ar),(68,aq),(67,ap)]) ?_ ?_
    ·refine qy J J x (fun x=>?_) (fun x=>?_)
     ·refine U J<|U J ?_
      obtain ⟨av,bn,x⟩:=q7 x
      refine qt (qj3 aa a.1 av bn) J<|O (qd av) J<|q8 ?_
      obtain rfl:=qc x
      exact ⟨_,_,_,_,J⟩
     refine qa J<|qa J<|qa J<|O (qd false) J<|q8 ?_
     obtain rfl:=qc x
     exact ⟨_,_,_,_,J⟩
    rintro _ ⟨ap,aq,ar,au,rfl⟩
    refine q8 ?_
    refine qk J h (fun _ h=>?_) (fun _ h=>?_)
    ·refine qe<|qb<|U J<|q9 J<|q8 ?_
     obtain ⟨aw,bo,h⟩:=q7 h
     refine Qb (fun ae=>ae = aw) (fun (ae : List qf)=>⟨[(0,q6 k),(1,.d (.sl 4 (f.map qm))),(2,.d (.sl 4 (g.map qm))),(7,.d (.sl 1 (j.map (eI .i64)))),(8,.d (.sl 1 (l.map (eI .i64)))),(9,.hs 0 4 0 ae.length),(10,.d (.sl 2 (a.1.map Q3))),(11,q6 a.2.1),(12,q6 a.2.2.1)],[(0,.dat 4 (ae.map qm))],1⟩) (by simp) ?_ ?_
     ·refine Q7 (q32 j a) (fun (n : Int × List qf)=>⟨[(0,q6 k),(1,.d (.sl 4 (f.map qm))),(2,.d (.sl 4 (g.map qm))),(7,.d (.sl 1 (j.map (eI .i64)))),(8,.d (.sl 1 (l.map (eI .i64)))),(9,.hs 0 4 0 n.2.length),(10,.d (.sl 2 (a.1.map Q3))),(11,q6 a.2.1),(12,q6 a.2.2.1),(16,q6 n.1)],[(0,.dat 4 (n.2.map qm))],1⟩) (a.2.1,a.2.2.2) aw bo (wkA [(0,0)] [] []) ?_
      intro n cc m
      unfold q32 at m
      refine qe<|qb<|U J<|U J<|O (q6 (n.2.length : Int)) J<|O (.d (.bool (decide (n.1 < (n.2.length : Int))))) J<|q8 ?_
      refine qk J m (fun _ m=>?_) (fun _ m=>?_)
      ·refine ql<|qe<|qu<|qs<|U J<|U J<|U J<|U J<|O (.d (G (w64 (a.2.2.1 + 1)))) J ?_
       obtain ⟨af,bp,m⟩:=q7 m
       refine Q5 (enc:=(eI .i64)) bp J<|O (q6 af) J ?_
       obtain ⟨ag,ax,m⟩:=q7 m
       refine qq ax J J<|O (.ref 0 4 n.1.toNat 2) J<|Qk (ds:=[G af]) ({X0:=ag.X0,Y0:=ag.Y0,X1:=af,Y1:=ag.Y1} : qf) ax J J J J J J J J (leb J) J<|qr<|Q9<|qs<|U J<|O (.d (G (w64 (n.1 + 1)))) J<|q9 J<|qr ?_
       exact ⟨_,(Option.some.inj m).symm,wkE [(0,0)] [] [] J ⟨⟨_,J,.d (.refl _)⟩,⟨_,J,.d (.refl _)⟩,⟨_,J,.d (.refl _)⟩,⟨_,J,.d (.refl _)⟩,⟨_,J,.d (.refl _)⟩,⟨_,J,Qp (by simp) J (by decide) (ltd J)⟩,⟨_,J,.d (.refl _)⟩,⟨_,J,.d (.refl _)⟩,⟨_,J,.d (.refl _)⟩,⟨_,J,.d (.refl _)⟩,trivial⟩ ⟨⟨ltd J,.inr ⟨by decide,_,J,.dat _ _⟩⟩,trivial⟩⟩
      refine Q1 ?_
      refine ⟨_,(Option.some.inj m).symm,fun hm=>?_⟩
      subst hm
      exact ⟨_,J,wkA [(0,0)] [] []⟩
     intro ae hb
     subst hb
     refine Q1 ?_
     obtain rfl:=qc h
     exact ⟨_,J,wkA [(0,0)] [] []⟩
    refine ql<|qb<|U J<|O (q6 (a.2.2.2.length : Int)) J<|U J<|q9 J<|q9 J<|qp<|q9 J<|q8 ?_
    obtain ⟨bq,br,h⟩:=q7 h
    refine qu<|Q7 (q4p aa j a) (fun (y : Int × List qf)=>⟨[(0,q6 k),(1,.d (.sl 4 (f.map qm))),(2,.d (.sl 4 (g.map qm))),(7,.d (.sl 1 (j.map (eI .i64)))),(8,.d (.sl 1 (l.map (eI .i64)))),(9,.hs 0 4 0 y.2.length),(10,.d (.sl 2 (aa.map Q3))),(11,q6 (a.2.2.2.length : Int)),(12,q6 a.2.2.1),(15,.d (.sl 2 (aa.map Q3))),(17,q6 y.1)],[(0,.dat 4 (y.2.map qm))],1⟩) (0,a.2.2.2) bq br (wkA [(0,0)] [] []) ?_
    intro y cd c
    unfold q4p at c
    refine qe<|qb<|U J<|U J<|Qg J<|O (.d (.bool (decide (y.1 < (aa.length : Int))))) J<|q8 ?_
    refine qk J c (fun _ c=>?_) (fun _ c=>?_)
    ·refine ql<|qe<|qu<|Q4 [q0,(some [0,1],[0,2]),(some [],[1]),q0,q0,q0,q0,q0,q0,q0,q0,q0,q0,q0,q0,q0,q0,q0,q0,q0,q0,q0,q0,q0] (by kernel_rfl)<|U J<|U J<|U J ?_
     obtain ⟨ab,bs,c⟩:=q7 c
     refine Q5 (enc:=(eI .i64)) bs J<|O (q6 ab) J<|U J<|U J ?_
     obtain ⟨q,bt,c⟩:=q7 c
     refine Q5 (enc:=Q3) bt J<|O (.dref [G q.Lo,G q.Hi] 0) J<|O (q6 q.Lo) J<|U J<|U J<|O (.d (G (w64 (a.2.2.1 + 1)))) J ?_
     obtain ⟨ac,bu,c⟩:=q7 c
     refine Q5 (enc:=(eI .i64)) bu J<|O (q6 ac) J<|U J<|U J ?_
     obtain ⟨s,bv,c⟩:=q7 c
     refine Q5 (enc:=Q3) bv J<|O (.dref [G s.Lo,G s.Hi] 1) J<|O (q6 s.Hi) J<|O (.d (.agg [G ab,G q.Lo,G ac,G s.Hi])) J<|Qh (.hs 1 4 0 [({X0:=ab,Y0:=q.Lo,X1:=ac,Y1:=s.Hi} : qf)].length) (.dat 4 ([({X0:=ab,Y0:=q.Lo,X1:=ac,Y1:=s.Hi} : qf)].map qm)) J ?_
     obtain ⟨ce,bw,c⟩:=q7 c
     refine Ko (xs:=y.2) (ys:=[({X0:=ab,Y0:=q.Lo,X1:=ac,Y1:=s.Hi} : qf)]) (enc:=qm) (.hs 1 4 0 [({X0:=ab,Y0:=q.Lo,X1:=ac,Y1:=s.Hi} : qf)].length) bw J J J J J J J (Kl J J) J J J J<|q9 J<|qr<|Q9<|qs<|U J<|O (.d (G (w64 (y.1 + 1)))) J<|q9 J<|qr ?_
     exact ⟨_,(Option.some.inj c).symm,wkA [(0,2)] [] []⟩
    refine Q1 ?_
    refine ⟨_,(Option.some.inj c).symm,fun hm=>?_⟩
    subst hm
    obtain rfl:=qc h
    exact ⟨_,J,wkA [(0,0)] [] []⟩
   intro t hb
   subst hb
   refine qs<|U J<|O (.d (G (w64 (a.2.2.1 + 1)))) J<|q9 J<|qr ?_
   exact ⟨_,(Option.some.inj p).symm,wkA [(0,0)] [] []⟩
  refine Q1 ?_
  refine ⟨_,(Option.some.inj p).symm,fun hm=>?_⟩
  subst hm
  exact ⟨_,J,wkA [(0,0)] [] []⟩
 intro z hb
 subst hb
 refine qb<|U J<|q9 J<|qn ?_
 obtain rfl:=qc o
 exact finD (.inr J) (v:=.hs 0 4 0 z.length) J (Z9 J J) (.refl _)
theorem qrt (g : List qf) (h : List qf) (r : Bool) (b : q4r g h = some r) : Pure Tryz.prog tab 34 [.sl 4 (g.map qm),.sl 4 (h.map qm)] (.bool r):=by
 unfold q4r at b
 refine Qc Tryz.func34 J (by kernel_rfl) (by kernel_rfl) J<|qb<|q9 J<|q8<|qe<|qb<|U J<|Qg J<|U J<|Qg J<|O (.d (.bool ((g.length : Int) != (h.length : Int)))) J<|q8 ?_
 refine qk J b (fun _ b=>?_) (fun _ b=>?_)
 ·refine qb<|q9 J<|qn ?_
  obtain rfl:=qc b
  exact qv (qd false) J
 refine ql<|qe<|qb<|q9 J<|q8 ?_
 obtain ⟨l,m,b⟩:=q7 b
 refine Qb (fun k=>.inl k = l) (fun (k : Unit)=>⟨[],[],0⟩) (by simp) ?_ ?_
 ·refine Q7 (qas g h) (fun (j : Int)=>⟨[(0,.d (.sl 4 (g.map qm))),(1,.d (.sl 4 (h.map qm))),(5,q6 j)],[],0⟩) 0 l m (wkA [] [] []) ?_
  intro j p a
  unfold qas at a
  refine qe<|qb<|U J<|U J<|Qg J<|O (.d (.bool (decide (j < (g.length : Int))))) J<|q8 ?_
  refine qk J a (fun _ a=>?_) (fun _ a=>?_)
  ·refine ql<|qe<|qu<|qe<|Q4 [q0,q0,q0,q0,q0,q0,q0,q0,q0] (by kernel_rfl)<|U J<|U J ?_
   obtain ⟨c,n,a⟩:=q7 a
   refine Q5 (enc:=qm) n J<|O (.d (.agg [G c.X0,G c.Y0,G c.X1,G c.Y1])) J<|U J<|U J ?_
   obtain ⟨f,o,a⟩:=q7 a
   refine Q5 (enc:=qm) o J<|O (.d (.agg [G f.X0,G f.Y0,G f.X1,G f.Y1])) J<|O (.d (.bool (!((c.X0 == f.X0) && ((c.Y0 == f.Y0) && ((c.X1 == f.X1) && ((c.Y1 == f.Y1) && true))))))) J<|q8 ?_
   refine qk J a (fun _ a=>?_) (fun _ a=>?_)
   ·refine qb<|q9 J<|qn ?_
    refine ⟨_,(Option.some.inj a).symm,fun hm=>?_⟩
    subst hm
    obtain rfl:=qc b
    exact qv (qd false) J
   refine ql<|Qa<|Q9<|qs<|U J<|O (.d (G (w64 (j + 1)))) J<|q9 J<|qr ?_
   exact ⟨_,(Option.some.inj a).symm,wkA [] [] []⟩
  refine Q1 ?_
  refine ⟨_,(Option.some.inj a).symm,fun hm=>?_⟩
  subst hm
  exact ⟨_,J,wkA [] [] []⟩
 intro k hb
 subst hb
 refine qb<|q9 J<|qn ?_
 obtain rfl:=qc b
 exact qv (qd true) J
theorem qxm (b : qg) (a : qi) (r : Bool) (c : q69 b a = some r) : Pure Tryz.prog tab 73 [.agg [G b.Lo.X,G b.Lo.Y,G b.Lo.Z,G b.Hi.X,G b.Hi.Y,G b.Hi.Z],.box [G a.X,G a.Y,G a.Z]] (.bool r):=by
 unfold q69 at c
 refine Qc Tryz.func73 J (by kernel_rfl) (by kernel_rfl) J<|qb<|Qh (.ref 0 6 0 0) (.dat 6 [[G b.Lo.X,G b.Lo.Y,G b.Lo.Z,G b.Hi.X,G b.Hi.Y,G b.Hi.Z]]) J<|q9 J<|qp<|O (.ref 0 6 0 0) J<|O (.ref 0 6 0 0) J<|O (q6 b.Lo.X) J<|O (.dref [G a.X,G a.Y,G a.Z] 0) J<|O (q6 a.X) J<|O (.d (.bool (decide (b.Lo.X≤a.X)))) J ?_
 obtain ⟨c1,f,c⟩:=q7 c
 refine Q0 8 (fun A st=>∃ (l m n o p q s : V),st = A [(17,qd c1),(16,s),(15,q),(14,p),(13,o),(12,n),(11,m),(10,l)]) ?_ ?_
 ·refine qy J J f (fun f=>?_) (fun f=>?_)
  ·refine O (.dref [G a.X,G a.Y,G a.Z] 0) J<|O (q6 a.X) J<|O (.ref 0 6 0 3) J<|O (.ref 0 6 0 3) J<|O (q6 b.Hi.X) J<|O (.d (.bool (decide (a.X < b.Hi.X)))) J<|O (.d (.bool (decide (a.X < b.Hi.X)))) J<|q8 ?_
   obtain rfl:=qc f
   exact ⟨_,_,_,_,_,_,_,J⟩
  refine qa J<|qa J<|qa J<|qa J<|qa J<|qa J<|O (qd false) J<|q8 ?_
  obtain rfl:=qc f
  exact ⟨_,_,_,_,_,_,_,J⟩
 rintro _ ⟨l,m,n,o,p,q,s,rfl⟩
 obtain ⟨az,g,c⟩:=q7 c
 refine Q0 8 (fun A st=>∃ (t u v w x y z : V),st = A [(25,qd az),(24,z),(23,y),(22,x),(21,w),(20,v),(19,u),(18,t)]) ?_ ?_
 ·refine qy J J g (fun g=>?_) (fun g=>?_)
  ·refine O (.ref 0 6 0 0) J<|O (.ref 0 6 0 1) J<|O (q6 b.Lo.Y) J<|O (.dref [G a.X,G a.Y,G a.Z] 1) J<|O (q6 a.Y) J<|O (.d (.bool (decide (b.Lo.Y≤a.Y)))) J<|O (.d (.bool (decide (b.Lo.Y≤a.Y)))) J<|q8 ?_
   obtain rfl:=qc g
   exact ⟨_,_,_,_,_,_,_,J⟩
  refine qa J<|qa J<|qa J<|qa J<|qa J<|qa J<|O (qd false) J<|q8 ?_
  obtain rfl:=qc g
  exact ⟨_,_,_,_,_,_,_,J⟩
 rintro _ ⟨t,u,v,w,x,y,z,rfl⟩
 obtain ⟨ba,h,c⟩:=q7 c
 refine Q0 8 (fun A st=>∃ (aa ab ac ad ae af ag : V),st = A [(33,qd ba),(32,ag),(31,af),(30,ae),(29,ad),(28,ac),(27,ab),(26,aa)]) ?_ ?_
 ·refine qy J J h (fun h=>?_) (fun h=>?_)
  ·refine O (.dref [G a.X,G a.Y,G a.Z] 1) J<|O (q6 a.Y) J<|O (.ref 0 6 0 3) J<|O (.ref 0 6 0 4) J<|O (q6 b.Hi.Y) J<|O (.d (.bool (decide (a.Y < b.Hi.Y)))) J<|O (.d (.bool (decide (a.Y < b.Hi.Y)))) J<|q8 ?_
   obtain rfl:=qc h
   exact ⟨_,_,_,_,_,_,_,J⟩
  refine qa J<|qa J<|qa J<|qa J<|qa J<|qa J<|O (qd false) J<|q8 ?_
  obtain rfl:=qc h
  exact ⟨_,_,_,_,_,_,_,J⟩
 rintro _ ⟨aa,ab,ac,ad,ae,af,ag,rfl⟩
 obtain ⟨bb,j,c⟩:=q7 c
 refine Q0 8 (fun A st=>∃ (ah ai aj ak al am an : V),st = A [(41,qd bb),(40,an),(39,am),(38,al),(37,ak),(36,aj),(35,ai),(34,ah)]) ?_ ?_
 ·refine qy J J j (fun j=>?_) (fun j=>?_)
  ·refine O (.ref 0 6 0 0) J<|O (.ref 0 6 0 2) J<|O (q6 b.Lo.Z) J<|O (.dref [G a.X,G a.Y,G a.Z] 2) J<|O (q6 a.Z) J<|O (.d (.bool (decide (b.Lo.Z≤a.Z)))) J<|O (.d (.bool (decide (b.Lo.Z≤a.Z)))) J<|q8 ?_
   obtain rfl:=qc j
   exact ⟨_,_,_,_,_,_,_,J⟩
  refine qa J<|qa J<|qa J<|qa J<|qa J<|qa J<|O (qd false) J<|q8 ?_
  obtain rfl:=qc j
  exact ⟨_,_,_,_,_,_,_,J⟩
 rintro _ ⟨ah,ai,aj,ak,al,am,an,rfl⟩
 obtain ⟨ao,k,c⟩:=q7 c
 refine Q0 8 (fun A st=>∃ (ap aq ar au av aw ax : V),st = A [(49,qd ao),(48,ax),(47,aw),(46,av),(45,au),(44,ar),(43,aq),(42,ap)]) ?_ ?_
 ·refine qy J J k (fun k=>?_) (fun k=>?_)
  ·refine O (.dref [G a.X,G a.Y,G a.Z] 2) J<|O (q6 a.Z) J<|O (.ref 0 6 0 3) J<|O (.ref 0 6 0 5) J<|O (q6 b.Hi.Z) J<|O (.d (.bool (decide (a.Z < b.Hi.Z)))) J<|O (.d (.bool (decide (a.Z < b.Hi.Z)))) J<|q8 ?_
   obtain rfl:=qc k
   exact ⟨_,_,_,_,_,_,_,J⟩
  refine qa J<|qa J<|qa J<|qa J<|qa J<|qa J<|O (qd false) J<|q8 ?_
  obtain rfl:=qc k
  exact ⟨_,_,_,_,_,_,_,J⟩
 rintro _ ⟨ap,aq,ar,au,av,aw,ax,rfl⟩
 refine q9 J<|qn ?_
 obtain rfl:=qc c
 exact qv (qd ao) J
theorem qxo (b : List qg) (a : qi) (r : Bool) (c : q8v b a = some r) : Pure Tryz.prog tab 26 [.sl 6 (b.map qw),.agg [G a.X,G a.Y,G a.Z]] (.bool r):=by
 unfold q8v at c
 refine Qc Tryz.func26 J (by kernel_rfl) (by kernel_rfl) J<|qb<|Qh (.ref 0 3 0 0) (.dat 3 [[G a.X,G a.Y,G a.Z]]) J<|q9 J<|qp<|U J<|O (.fn 73 [.ref 0 3 0 0]) J ?_
 obtain ⟨g,h,c⟩:=q7 c
 refine q7c [.d (.sl 6 (b.map qw)),.fn 73 [.ref 0 3 0 0]] (qjz b (fun f=>q69 f a) 73 [.box [G a.X,G a.Y,G a.Z]] (fun f r hr=>qxm f a r hr) g h) J J (J5 J (J5 (qyy (Ji J J)) J)) (.inr J)<|q9 J<|qn ?_
 obtain rfl:=qc c
 exact qv (qd g) J
theorem qj5 (a : qi) (c : Int) (r : Bool) (b : q4s a c = some r) : Pure Tryz.prog tab 89 [.agg [G a.X,G a.Y,G a.Z],G c] (.bool r):=by
 unfold q4s at b
 refine Qc Tryz.func89 J (by kernel_rfl) (by kernel_rfl) J<|qb<|Qh (.ref 0 3 0 0) (.dat 3 [[G a.X,G a.Y,G a.Z]]) J<|q9 J<|qp<|O (.ref 0 3 0 0) J<|O (q6 a.X) J<|U J<|O (.d (.bool (decide (a.X ≥ c)))) J ?_
 obtain ⟨c1,f,b⟩:=q7 b
 refine Q0 6 (fun A st=>∃ (l m n o p : V),st = A [(14,qd c1),(13,p),(12,o),(11,n),(10,m),(9,l)]) ?_ ?_
 ·refine qy J J f (fun f=>?_) (fun f=>?_)
  ·refine O (.ref 0 3 0 1) J<|O (q6 a.Y) J<|U J<|O (.d (.bool (decide (a.Y ≥ c)))) J<|O (.d (.bool (decide (a.Y ≥ c)))) J<|q8 ?_
   obtain rfl:=qc f
   exact ⟨_,_,_,_,_,J⟩
  refine qa J<|qa J<|qa J<|qa J<|O (qd false) J<|q8 ?_
  obtain rfl:=qc f
  exact ⟨_,_,_,_,_,J⟩
 rintro _ ⟨l,m,n,o,p,rfl⟩
 obtain ⟨c8,g,b⟩:=q7 b
 refine Q0 6 (fun A st=>∃ (q s t u v : V),st = A [(20,qd c8),(19,v),(18,u),(17,t),(16,s),(15,q)]) ?_ ?_
 ·refine qy J J g (fun g=>?_) (fun g=>?_)
  ·refine O (.ref 0 3 0 2) J<|O (q6 a.Z) J<|U J<|O (.d (.bool (decide (a.Z ≥ c)))) J<|O (.d (.bool (decide (a.Z ≥ c)))) J<|q8 ?_
   obtain rfl:=qc g
   exact ⟨_,_,_,_,_,J⟩
  refine qa J<|qa J<|qa J<|qa J<|O (qd false) J<|q8 ?_
  obtain rfl:=qc g
  exact ⟨_,_,_,_,_,J⟩
 rintro _ ⟨q,s,t,u,v,rfl⟩
 obtain ⟨al,h,b⟩:=q7 b
 refine Q0 5 (fun A st=>∃ (w x y z : V),st = A [(25,qd al),(24,z),(23,y),(22,x),(21,w)]) ?_ ?_
 ·refine qy J J h (fun h=>?_) (fun h=>?_)
  ·refine O (.ref 0 3 0 0) J<|O (q6 a.X) J<|O (.d (.bool (decide (a.X≤1000000)))) J<|O (.d (.bool (decide (a.X≤1000000)))) J<|q8 ?_
   obtain rfl:=qc h
   exact ⟨_,_,_,_,J⟩
  refine qa J<|qa J<|qa J<|O (qd false) J<|q8 ?_
  obtain rfl:=qc h
  exact ⟨_,_,_,_,J⟩
 rintro _ ⟨w,x,y,z,rfl⟩
 obtain ⟨am,j,b⟩:=q7 b
 refine Q0 5 (fun A st=>∃ (aa ab ac ad : V),st = A [(30,qd am),(29,ad),(28,ac),(27,ab),(26,aa)]) ?_ ?_
 ·refine qy J J j (fun j=>?_) (fun j=>?_)
  ·refine O (.ref 0 3 0 1) J<|O (q6 a.Y) J<|O (.d (.bool (decide (a.Y≤1000000)))) J<|O (.d (.bool (decide (a.Y≤1000000)))) J<|q8 ?_
   obtain rfl:=qc j
   exact ⟨_,_,_,_,J⟩
  refine qa J<|qa J<|qa J<|O (qd false) J<|q8 ?_
  obtain rfl:=qc j
  exact ⟨_,_,_,_,J⟩
 rintro _ ⟨aa,ab,ac,ad,rfl⟩
 obtain ⟨ae,k,b⟩:=q7 b
 refine Q0 5 (fun A st=>∃ (af ag ah ai : V),st = A [(35,qd ae),(34,ai),(33,ah),(32,ag),(31,af)]) ?_ ?_
 ·refine qy J J k (fun k=>?_) (fun k=>?_)
  ·refine O (.ref 0 3 0 2) J<|O (q6 a.Z) J<|O (.d (.bool (decide (a.Z≤1000000)))) J<|O (.d (.bool (decide (a.Z≤1000000)))) J<|q8 ?_
   obtain rfl:=qc k
   exact ⟨_,_,_,_,J⟩
  refine qa J<|qa J<|qa J<|O (qd false) J<|q8 ?_
  obtain rfl:=qc k
  exact ⟨_,_,_,_,J⟩
 rintro _ ⟨af,ag,ah,ai,rfl⟩
 refine q9 J<|qn ?_
 obtain rfl:=qc b
 exact qv (qd ae) J
theorem qs9 (a : qg) (r : Bool) (b : q7m a = some r) : Pure Tryz.prog tab 62 [.agg [G a.Lo.X,G a.Lo.Y,G a.Lo.Z,G a.Hi.X,G a.Hi.Y,G a.Hi.Z]] (.bool r):=by
 unfold q7m at b
 refine Qc Tryz.func62 J (by kernel_rfl) (by kernel_rfl) J<|qb<|Qh (.ref 0 6 0 0) (.dat 6 [[G a.Lo.X,G a.Lo.Y,G a.Lo.Z,G a.Hi.X,G a.Hi.Y,G a.Hi.Z]]) J<|q9 J<|qp<|O (.ref 0 6 0 0) J<|O (.d (.agg [G a.Lo.X,G a.Lo.Y,G a.Lo.Z])) J ?_
 obtain ⟨r1,h2,b⟩:=q7 b
 refine qt (qj5 a.Lo (-1000000) r1 h2) J ?_
 obtain ⟨c5,c,b⟩:=q7 b
 refine Q0 5 (fun A st=>∃ (j k l m : V),st = A [(11,qd c5),(10,m),(9,l),(8,k),(7,j)]) ?_ ?_
 ·refine qy J J c (fun c=>?_) (fun c=>?_)
  ·refine O (.ref 0 6 0 3) J<|O (.d (.agg [G a.Hi.X,G a.Hi.Y,G a.Hi.Z])) J ?_
   obtain ⟨n,ar,c⟩:=q7 c
   refine qt (qj5 a.Hi (-1000000) n ar) J<|O (qd n) J<|q8 ?_
   obtain rfl:=qc c
   exact ⟨_,_,_,_,J⟩
  refine qa J<|qa J<|qa J<|O (qd false) J<|q8 ?_
  obtain rfl:=qc c
  exact ⟨_,_,_,_,J⟩
 rintro _ ⟨j,k,l,m,rfl⟩
 refine q9 J<|qp<|U J ?_
 obtain ⟨au,f,b⟩:=q7 b
 refine Q0 9 (fun A st=>∃ (o p q s t u v w : V),st = A [(21,qd au),(20,w),(19,v),(18,u),(17,t),(16,s),(15,q),(14,p),(13,o)]) ?_ ?_
 ·refine qy J J f (fun f=>?_) (fun f=>?_)
  ·refine O (.ref 0 6 0 0) J<|O (.ref 0 6 0 0) J<|O (q6 a.Lo.X) J<|O (.ref 0 6 0 3) J<|O (.ref 0 6 0 3) J<|O (q6 a.Hi.X) J<|O (.d (.bool (decide (a.Lo.X < a.Hi.X)))) J<|O (.d (.bool (decide (a.Lo.X < a.Hi.X)))) J<|q8 ?_
   obtain rfl:=qc f
   exact ⟨_,_,_,_,_,_,_,_,J⟩
  refine qa J<|qa J<|qa J<|qa J<|qa J<|qa J<|qa J<|O (qd false) J<|q8 ?_
  obtain rfl:=qc f
  exact ⟨_,_,_,_,_,_,_,_,J⟩
 rintro _ ⟨o,p,q,s,t,u,v,w,rfl⟩
 obtain ⟨av,g,b⟩:=q7 b
 refine Q0 9 (fun A st=>∃ (x y z aa ab ac ad ae : V),st = A [(30,qd av),(29,ae),(28,ad),(27,ac),(26,ab),(25,aa),(24,z),(23,y),(22,x)]) ?_ ?_
 ·refine qy J J g (fun g=>?_) (fun g=>?_)
  ·refine O (.ref 0 6 0 0) J<|O (.ref 0 6 0 1) J<|O (q6 a.Lo.Y) J<|O (.ref 0 6 0 3) J<|O (.ref 0 6 0 4) J<|O (q6 a.Hi.Y) J<|O (.d (.bool (decide (a.Lo.Y < a.Hi.Y)))) J<|O (.d (.bool (decide (a.Lo.Y < a.Hi.Y)))) J<|q8 ?_
   obtain rfl:=qc g
   exact ⟨_,_,_,_,_,_,_,_,J⟩
  refine qa J<|qa J<|qa J<|qa J<|qa J<|qa J<|qa J<|O (qd false) J<|q8 ?_
  obtain rfl:=qc g
  exact ⟨_,_,_,_,_,_,_,_,J⟩
 rintro _ ⟨x,y,z,aa,ab,ac,ad,ae,rfl⟩
 obtain ⟨af,h,b⟩:=q7 b
 refine Q0 9 (fun A st=>∃ (ag ah ai aj ak al am an : V),st = A [(39,qd af),(38,an),(37,am),(36,al),(35,ak),(34,aj),(33,ai),(32,ah),(31,ag)]) ?_ ?_
 ·refine qy J J h (fun h=>?_) (fun h=>?_)
  ·refine O (.ref 0 6 0 0) J<|O (.ref 0 6 0 2) J<|O (q6 a.Lo.Z) J<|O (.ref 0 6 0 3) J<|O (.ref 0 6 0 5) J<|O (q6 a.Hi.Z) J<|O (.d (.bool (decide (a.Lo.Z < a.Hi.Z)))) J<|O (.d (.bool (decide (a.Lo.Z < a.Hi.Z)))) J<|q8 ?_
   obtain rfl:=qc h
   exact ⟨_,_,_,_,_,_,_,_,J⟩
  refine qa J<|qa J<|qa J<|qa J<|qa J<|qa J<|qa J<|O (qd false) J<|q8 ?_
  obtain rfl:=qc h
  exact ⟨_,_,_,_,_,_,_,_,J⟩
 rintro _ ⟨ag,ah,ai,aj,ak,al,am,an,rfl⟩
 refine q9 J<|qn ?_
 obtain rfl:=qc b
 exact qv (qd af) J
theorem qs2 (p : List qg) (k : List qg) (r : List Int) (j : q7l p k = some r) : Pure Tryz.prog tab 78 [.sl 6 (p.map qw),.sl 6 (k.map qw)] (.sl 1 (r.map (eI .i64))):=by
 unfold q7l at j
 refine Qc Tryz.func78 J (by kernel_rfl) (by kernel_rfl) J<|qb<|q9 J<|qp<|q9 J<|q8<|qe<|qb<|q9 J<|q8 ?_
 obtain ⟨q,u,j⟩:=q7 j
 refine Qb (fun o=>o = q) (fun (o : List Int)=>⟨[(1,.d (.sl 6 (k.map qw))),(5,.hs 0 1 0 o.length)],[(0,.dat 1 (o.map (eI .i64)))],1⟩) (by simp) ?_ ?_
 ·refine Q7 (q37 p) (fun (l : Int × List Int)=>⟨[(0,.d (.sl 6 (p.map qw))),(1,.d (.sl 6 (k.map qw))),(5,.hs 0 1 0 l.2.length),(6,q6 l.1)],[(0,.dat 1 (l.2.map (eI .i64)))],1⟩) (0,[]) q u (wkA [] [] [0]) ?_
  intro l ad g
  unfold q37 at g
  refine qe<|qb<|U J<|U J<|Qg J<|O (.d (.bool (decide (l.1 < (p.length : Int))))) J<|q8 ?_
  refine qk J g (fun _ g=>?_) (fun _ g=>?_)
  ·refine ql<|qe<|qu<|Q4 [q0,(some [0,1],[0,2]),(some [],[1]),q0,q0,q0,q0,q0,q0,q0,q0,q0,q0,q0,q0,q0] (by kernel_rfl)<|U J<|U J<|U J ?_
   obtain ⟨a,v,g⟩:=q7 g
   refine Q5 (enc:=qw) v J<|O (.dref [G a.Lo.X,G a.Lo.Y,G a.Lo.Z,G a.Hi.X,G a.Hi.Y,G a.Hi.Z] 0) J<|O (.dref [G a.Lo.X,G a.Lo.Y,G a.Lo.Z,G a.Hi.X,G a.Hi.Y,G a.Hi.Z] 2) J<|O (q6 a.Lo.Z) J<|U J<|U J ?_
   obtain ⟨b,w,g⟩:=q7 g
   refine Q5 (enc:=qw) w J<|O (.dref [G b.Lo.X,G b.Lo.Y,G b.Lo.Z,G b.Hi.X,G b.Hi.Y,G b.Hi.Z] 3) J<|O (.dref [G b.Lo.X,G b.Lo.Y,G b.Lo.Z,G b.Hi.X,G b.Hi.Y,G b.Hi.Z] 5) J<|O (q6 b.Hi.Z) J<|Qh (.hs 1 1 0 [a.Lo.Z,b.Hi.Z].length) (.dat 1 ([a.Lo.Z,b.Hi.Z].map (eI .i64))) J ?_
   obtain ⟨ae,x,g⟩:=q7 g
   refine Ko (xs:=l.2) (ys:=[a.Lo.Z,b.Hi.Z]) (enc:=(eI .i64)) (.hs 1 1 0 [a.Lo.Z,b.Hi.Z].length) x J J J J J J J (Kl J J) J J J J<|q9 J<|qr<|Q9<|qs<|U J<|O (.d (G (w64 (l.1 + 1)))) J<|q9 J<|qr ?_
   exact ⟨_,(Option.some.inj g).symm,wkA [(0,2)] [] []⟩
  refine Q1 ?_
  refine ⟨_,(Option.some.inj g).symm,fun hm=>?_⟩
  subst hm
  exact ⟨_,J,wkA [(0,0)] [] []⟩
 intro o hb
 subst hb
 refine qe<|qb<|q9 J<|q8 ?_
 obtain ⟨s,y,j⟩:=q7 j
 refine Qb (fun m=>m = s) (fun (m : List Int)=>⟨[(5,.hs 0 1 0 m.length)],[(0,.dat 1 (m.map (eI .i64)))],1⟩) (by simp) ?_ ?_
 ·refine Q7 (q38 k) (fun (n : Int × List Int)=>⟨[(1,.d (.sl 6 (k.map qw))),(5,.hs 0 1 0 n.2.length),(7,q6 n.1)],[(0,.dat 1 (n.2.map (eI .i64)))],1⟩) (0,o) s y (wkA [(0,0)] [] []) ?_
  intro n af h
  unfold q38 at h
  refine qe<|qb<|U J<|U J<|Qg J<|O (.d (.bool (decide (n.1 < (k.length : Int))))) J<|q8 ?_
  refine qk J h (fun _ h=>?_) (fun _ h=>?_)
  ·refine ql<|qe<|qu<|Q4 [q0,(some [0,1],[0,2]),(some [],[1]),q0,q0,q0,q0,q0,q0,q0,q0,q0,q0,q0,q0,q0] (by kernel_rfl)<|U J<|U J<|U J ?_
   obtain ⟨c,z,h⟩:=q7 h
   refine Q5 (enc:=qw) z J<|O (.dref [G c.Lo.X,G c.Lo.Y,G c.Lo.Z,G c.Hi.X,G c.Hi.Y,G c.Hi.Z] 0) J<|O (.dref [G c.Lo.X,G c.Lo.Y,G c.Lo.Z,G c.Hi.X,G c.Hi.Y,G c.Hi.Z] 2) J<|O (q6 c.Lo.Z) J<|U J<|U J ?_
   obtain ⟨f,aa,h⟩:=q7 h
   refine Q5 (enc:=qw) aa J<|O (.dref [G f.Lo.X,G f.Lo.Y,G f.Lo.Z,G f.Hi.X,G f.Hi.Y,G f.Hi.Z] 3) J<|O (.dref [G f.Lo.X,G f.Lo.Y,G f.Lo.Z,G f.Hi.X,G f.Hi.Y,G f.Hi.Z] 5) J<|O (q6 f.Hi.Z) J<|Qh (.hs 1 1 0 [c.Lo.Z,f.Hi.Z].length) (.dat 1 ([c.Lo.Z,f.Hi.Z].map (eI .i64))) J ?_
   obtain ⟨ag,ab,h⟩:=q7 h
   refine Ko (xs:=n.2) (ys:=[c.Lo.Z,f.Hi.Z]) (enc:=(eI .i64)) (.hs 1 1 0 [c.Lo.Z,f.Hi.Z].length) ab J J J J J J J (Kl J J) J J J J<|q9 J<|qr<|Q9<|qs<|U J<|O (.d (G (w64 (n.1 + 1)))) J<|q9 J<|qr ?_
   exact ⟨_,(Option.some.inj h).symm,wkA [(0,2)] [] []⟩
  refine Q1 ?_
  refine ⟨_,(Option.some.inj h).symm,fun hm=>?_⟩
  subst hm
  exact ⟨_,J,wkA [(0,0)] [] []⟩
 intro m hb
 subst hb
 refine qe ?_
 refine Yj (st':=⟨[(5,.d (.sl 1 (m.map (eI .i64))))],[],0⟩) (wkA [] [0] []) ?_ (by simp)
 refine qs<|U J ?_
 obtain ⟨t,ac,j⟩:=q7 j
 refine qt (qds m t ac) J<|q9 J<|qn ?_
 obtain rfl:=qc j
 exact qv (.d (.sl 1 (t.map (eI .i64)))) J
theorem qau (o : List qg) (k : Int) (r : List qf) (s : J1 o k = some r) : Pure Tryz.prog tab 82 [.sl 6 (o.map qw),G k] (.sl 4 (r.map qm)):=by
 unfold J1 at s
 refine Qc Tryz.func82 J (by kernel_rfl) (by kernel_rfl) J<|qb<|q9 J<|qp<|q9 J<|q8<|qe<|qb<|q9 J<|q8 ?_
 obtain ⟨t,ae,s⟩:=q7 s
 refine Qb (fun p=>p = t) (fun (p : List qf)=>⟨[(5,.hs 0 4 0 p.length)],[(0,.dat 4 (p.map qm))],1⟩) (by simp) ?_ ?_
 ·refine Q7 (q4t o k) (fun (l : Int × List qf)=>⟨[(0,.d (.sl 6 (o.map qw))),(1,q6 k),(5,.hs 0 4 0 l.2.length),(6,q6 l.1)],[(0,.dat 4 (l.2.map qm))],1⟩) (0,[]) t ae (wkA [] [] [0]) ?_
  intro l ao m
  unfold q4t at m
  refine qe<|qb<|U J<|U J<|Qg J<|O (.d (.bool (decide (l.1 < (o.length : Int))))) J<|q8 ?_
  refine qk J m (fun _ m=>?_) (fun _ m=>?_)
  ·refine ql<|qe ?_
   obtain ⟨af,a,m⟩:=q7 m
   refine Qb (fun q=>q = af) (fun (q : List qf)=>⟨[(0,.d (.sl 6 (o.map qw))),(1,q6 k),(5,.hs 0 4 0 q.length),(6,q6 l.1)],[(0,.dat 4 (q.map qm))],1⟩) (by simp) ?_ ?_
   ·refine qb<|U J<|U J ?_
    obtain ⟨j,ag,a⟩:=q7 a
    refine Q5 (enc:=qw) ag J<|O (.dref [G j.Lo.X,G j.Lo.Y,G j.Lo.Z,G j.Hi.X,G j.Hi.Y,G j.Hi.Z] 0) J<|O (.dref [G j.Lo.X,G j.Lo.Y,G j.Lo.Z,G j.Hi.X,G j.Hi.Y,G j.Hi.Z] 2) J<|O (q6 j.Lo.Z) J<|U J<|O (.d (.bool (decide (j.Lo.Z≤k)))) J ?_
    obtain ⟨ah,n,a⟩:=q7 a
    refine Q0 10 (fun A st=>∃ (u w x y z aa ab ac ad : V),st = A [(30,qd ah),(29,ad),(28,ac),(27,ab),(26,aa),(25,z),(24,y),(23,x),(22,w),(21,u)]) ?_ ?_
    ·refine qy J J n (fun n=>?_) (fun n=>?_)
     ·refine U J<|U J<|U J ?_
      obtain ⟨h,ai,n⟩:=q7 n
      refine Q5 (enc:=qw) ai J<|O (.dref [G h.Lo.X,G h.Lo.Y,G h.Lo.Z,G h.Hi.X,G h.Hi.Y,G h.Hi.Z] 3) J<|O (.dref [G h.Lo.X,G h.Lo.Y,G h.Lo.Z,G h.Hi.X,G h.Hi.Y,G h.Hi.Z] 5) J<|O (q6 h.Hi.Z) J<|O (.d (.bool (decide (k < h.Hi.Z)))) J<|O (.d (.bool (decide (k < h.Hi.Z)))) J<|q8 ?_
      obtain rfl:=qc n
      exact ⟨_,_,_,_,_,_,_,_,_,J⟩
     refine qa J<|qa J<|qa J<|qa J<|qa J<|qa J<|qa J<|qa J<|O (qd false) J<|q8 ?_
     obtain rfl:=qc n
     exact ⟨_,_,_,_,_,_,_,_,_,J⟩
    rintro _ ⟨u,w,x,y,z,aa,ab,ac,ad,rfl⟩
    refine q8 ?_
    refine qk J a (fun _ a=>?_) (fun _ a=>?_)
    ·refine Q4 [q0,(some [0,1],[0,2]),(some [],[1]),q0,q0,q0,q0,q0,q0,q0,q0,q0,q0,q0,q0,q0,q0,q0,q0,q0,q0,q0,q0,q0,q0,q0,q0,q0,q0] (by kernel_rfl)<|U J<|U J<|U J ?_
     obtain ⟨b,aj,a⟩:=q7 a
     refine Q5 (enc:=qw) aj J<|O (.dref [G b.Lo.X,G b.Lo.Y,G b.Lo.Z,G b.Hi.X,G b.Hi.Y,G b.Hi.Z] 0) J<|O (.dref [G b.Lo.X,G b.Lo.Y,G b.Lo.Z,G b.Hi.X,G b.Hi.Y,G b.Hi.Z] 0) J<|O (q6 b.Lo.X) J<|U J<|U J ?_
     obtain ⟨c,ak,a⟩:=q7 a
     refine Q5 (enc:=qw) ak J<|O (.dref [G c.Lo.X,G c.Lo.Y,G c.Lo.Z,G c.Hi.X,G c.Hi.Y,G c.Hi.Z] 0) J<|O (.dref [G c.Lo.X,G c.Lo.Y,G c.Lo.Z,G c.Hi.X,G c.Hi.Y,G c.Hi.Z] 1) J<|O (q6 c.Lo.Y) J<|U J<|U J ?_
     obtain ⟨f,al,a⟩:=q7 a
     refine Q5 (enc:=qw) al J<|O (.dref [G f.Lo.X,G f.Lo.Y,G f.Lo.Z,G f.Hi.X,G f.Hi.Y,G f.Hi.Z] 3) J<|O (.dref [G f.Lo.X,G f.Lo.Y,G f.Lo.Z,G f.Hi.X,G f.Hi.Y,G f.Hi.Z] 3) J<|O (q6 f.Hi.X) J<|U J<|U J ?_
     obtain ⟨g,am,a⟩:=q7 a
     refine Q5 (enc:=qw) am J<|O (.dref [G g.Lo.X,G g.Lo.Y,G g.Lo.Z,G g.Hi.X,G g.Hi.Y,G g.Hi.Z] 3) J<|O (.dref [G g.Lo.X,G g.Lo.Y,G g.Lo.Z,G g.Hi.X,G g.Hi.Y,G g.Hi.Z] 4) J<|O (q6 g.Hi.Y) J<|O (.d (.agg [G b.Lo.X,G c.Lo.Y,G f.Hi.X,G g.Hi.Y])) J<|Qh (.hs 1 4 0 [({X0:=b.Lo.X,Y0:=c.Lo.Y,X1:=f.Hi.X,Y1:=g.Hi.Y} : qf)].length) (.dat 4 ([({X0:=b.Lo.X,Y0:=c.Lo.Y,X1:=f.Hi.X,Y1:=g.Hi.Y} : qf)].map qm)) J ?_
     obtain ⟨ap,an,a⟩:=q7 a
     refine Ko (xs:=l.2) (ys:=[({X0:=b.Lo.X,Y0:=c.Lo.Y,X1:=f.Hi.X,Y1:=g.Hi.Y} : qf)]) (enc:=qm) (.hs 1 4 0 [({X0:=b.Lo.X,Y0:=c.Lo.Y,X1:=f.Hi.X,Y1:=g.Hi.Y} : qf)].length) an J J J J J J J (Kl J J) J J J J<|q9 J<|qr ?_
     obtain rfl:=qc a
     exact ⟨_,J,wkA [(0,2)] [] []⟩
    refine ql<|Qa ?_
    obtain rfl:=qc a
    exact ⟨_,J,wkA [(0,0)] [] []⟩
   intro q hb
   subst hb
   refine qs<|U J<|O (.d (G (w64 (l.1 + 1)))) J<|q9 J<|qr ?_
   exact ⟨_,(Option.some.inj m).symm,wkA [(0,0)] [] []⟩
  refine Q1 ?_
  refine ⟨_,(Option.some.inj m).symm,fun hm=>?_⟩
  subst hm
  exact ⟨_,J,wkA [(0,0)] [] []⟩
 intro p hb
 subst hb
 refine qb<|U J<|q9 J<|qn ?_
 obtain rfl:=qc s
 exact finD (.inr J) (v:=.hs 0 4 0 p.length) J (Z9 J J) (.refl _)
end Go.Proofs.YtlchefooafpdlaaGreat
