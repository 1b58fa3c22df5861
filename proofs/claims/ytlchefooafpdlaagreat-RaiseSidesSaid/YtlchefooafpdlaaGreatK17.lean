/- W_Allc -/
import Derived.Test.YtlchefooafpdlaaGreatK16
namespace Go.Proofs.YtlchefooafpdlaaGreat
open Go Go.Am Go.Sh
set_option maxHeartbeats 8000000
set_option maxRecDepth 100000
theorem qtn (c : List qk) (m : List ql) (p : Int) (l : Int) (g : Int) (b : Int) (h : List ql) (r : List ql × Int × Int × List qk) (f : q85  c m p l g b h = some r) : K0 Tryz.prog tab 51 [.ref 0 4 0 0,q6 g,q6 b,.d (.sl 4 (h.map qu))] [(0,.cel 4 [[.hs 1 6 0 c.length,.d (.sl 4 (m.map qu)),q6 p,q6 l]]),(1,.dat 6 (c.map Q6))] 2 (.d (.tup [])) [(0,.cel 4 [[.hs 2 6 0 r.2.2.2.length,.d (.sl 4 (r.1.map qu)),q6 r.2.1,q6 r.2.2.1]]),(2,.dat 6 (r.2.2.2.map Q6))] 3:=by
 unfold q85 at f
 refine Ka Tryz.func51 J qj qj J<|qh<|qc<|q0 J<|Qy J<|O (.d (.bool (decide ((h.length : Int) > 0)))) J ?_
 obtain ⟨am,t,f⟩:=q9 f
 refine Q9 8 (fun A st=>∃ (v w x y z aa ab : V),st = A [(21,qg am),(20,ab),(19,aa),(18,z),(17,y),(16,x),(15,w),(14,v)]) ?_ ?_
 ·refine Q8 J J t (fun t=>?_) (fun t=>?_)
  ·refine q0 J<|O (.ref 0 4 0 0) J<|O (.ref 0 4 0 3) J<|O (q6 l) J<|q0 J<|O (qg (l == g)) J<|O (qg (l == g)) J<|qa ?_
   obtain rfl:=qe t
   exact ⟨_,_,_,_,_,_,_,J⟩
  refine qd J<|qd J<|qd J<|qd J<|qd J<|qd J<|O (qg false) J<|qa ?_
  obtain rfl:=qe t
  exact ⟨_,_,_,_,_,_,_,J⟩
 rintro _ ⟨v,w,x,y,z,aa,ab,rfl⟩
 obtain ⟨an,q,f⟩:=q9 f
 refine Q9 8 (fun A st=>∃ (ac ad ae af ag ah ai : V),st = A [(29,qg an),(28,ai),(27,ah),(26,ag),(25,af),(24,ae),(23,ad),(22,ac)]) ?_ ?_
 ·refine Q8 J J q (fun q=>?_) (fun q=>?_)
  ·refine q0 J<|O (.ref 0 4 0 0) J<|O (.ref 0 4 0 1) J<|O (.d (.sl 4 (m.map qu))) J<|q0 J ?_
   obtain ⟨aj,ao,q⟩:=q9 q
   refine Q5 (qbo m h aj ao) J<|O (qg aj) J<|qa ?_
   obtain rfl:=qe q
   exact ⟨_,_,_,_,_,_,_,J⟩
  refine qd J<|qd J<|qd J<|qd J<|qd J<|qd J<|O (qg false) J<|qa ?_
  obtain rfl:=qe q
  exact ⟨_,_,_,_,_,_,_,J⟩
 rintro _ ⟨ac,ad,ae,af,ag,ah,ai,rfl⟩
 refine qa ?_
 refine qp J f (fun _ f=>?_) (fun _ f=>?_)
 ·refine qh<|qc<|q0 J<|O (.ref 0 4 0 0) J<|O (.ref 0 4 0 2) J<|O (q6 p) J<|qb J<|qa ?_
  obtain ⟨ak,ap,f⟩:=q9 f
  refine Qm (fun s=>s = ak) (fun (s : List qk)=>⟨[(0,.ref 0 4 0 0),(2,q6 b)],[(0,.cel 4 [[.hs 1 6 0 s.length,.d (.sl 4 (m.map qu)),q6 p,q6 l]]),(1,.dat 6 (s.map Q6))],2⟩) qf ?_ ?_
  ·refine Qf (q59 b) (fun (j : Int × List qk)=>⟨[(0,.ref 0 4 0 0),(2,q6 b),(8,q6 j.1)],[(0,.cel 4 [[.hs 1 6 0 j.2.length,.d (.sl 4 (m.map qu)),q6 p,q6 l]]),(1,.dat 6 (j.2.map Q6))],2⟩) (p,c) ak ap (wkA [] [] []) ?_
   intro j ax n
   unfold q59 at n
   refine qh<|qc<|q0 J<|q0 J<|O (.ref 0 4 0 0) J<|O (.ref 0 4 0 0) J<|O (.hs 1 6 0 j.2.length) J<|O (q6 (j.2.length : Int)) J<|O (.d (.bool (decide (j.1 < (j.2.length : Int))))) J<|qa ?_
   refine qp J n (fun _ n=>?_) (fun _ n=>?_)
   ·refine qo<|qh<|Q1<|qy<|q0 J<|O (.ref 0 4 0 0) J<|O (.ref 0 4 0 0) J<|O (.hs 1 6 0 j.2.length) J<|q0 J<|q0 J ?_
    obtain ⟨u,al,n⟩:=q9 n
    refine qw al J J<|O (.ref 1 6 j.1.toNat 3) J<|O (.ref 1 6 j.1.toNat 5) J<|Qt (ds:=[G b]) ({Lo:=u.Lo,Hi:=({X:=u.Hi.X,Y:=u.Hi.Y,Z:=b} : qi)} : qk) al J J J J J J J J (leb J) J<|qx<|Qj<|qy<|q0 J<|O (.d (G (w64 (j.1 + 1)))) J<|qb J<|qx ?_
    exact ⟨_,(Option.some.inj n).symm,wkE [] [] [] J ⟨⟨_,J,.ref J qt (ltd J)⟩,qq J,qq J,trivial⟩ ⟨⟨ltd J,.inr ⟨qt,_,J,Zt (.cons (Qx qf J qt (ltd J)) J (.cons (.d (.refl _)) J (.cons (.d (.refl _)) J (.cons (.d (.refl _)) J .nil))))⟩⟩,Qg J J,trivial⟩⟩
   refine Qb ?_
   refine ⟨_,(Option.some.inj n).symm,fun hm=>?_⟩
   subst hm
   exact ⟨_,J,wkA [] [] []⟩
  intro s hb
  subst hb
  refine qc<|q0 J<|q0 J<|O (.ref 0 4 0 0) J<|O (.ref 0 4 0 3) J<|qz 0 (.cel 4 [[.hs 1 6 0 s.length,.d (.sl 4 (m.map qu)),q6 p,q6 b]]) J<|qv ?_
  obtain rfl:=qe f
  exact ⟨.inr J,_,J,wkA [(2,1)] [] []⟩
 refine qo<|qc<|q0 J<|q0 J<|q0 J<|q0 J<|O (.ref 0 4 0 0) J<|O (.ref 0 4 0 0) J<|O (.hs 1 6 0 c.length) J<|O (q6 (c.length : Int)) J<|q0 J<|q0 J<|O (.ref 0 4 0 0) J<|O (.ref 0 4 0 2) J<|qz 0 (.cel 4 [[.hs 1 6 0 c.length,.d (.sl 4 (m.map qu)),q6 (c.length : Int),q6 l]]) J<|O (.ref 0 4 0 0) J<|O (.ref 0 4 0 1) J<|qz 0 (.cel 4 [[.hs 1 6 0 c.length,.d (.sl 4 (h.map qu)),q6 (c.length : Int),q6 l]]) J<|O (.ref 0 4 0 0) J<|O (.ref 0 4 0 3) J<|qz 0 (.cel 4 [[.hs 1 6 0 c.length,.d (.sl 4 (h.map qu)),q6 (c.length : Int),q6 b]]) J<|qs<|q0 J<|Qy J<|q0 J<|qa ?_
 obtain ⟨aq,ar,f⟩:=q9 f
 refine Q1<|Qf (q5a h g b c) (fun (o : Int × List qk)=>⟨[(0,.ref 0 4 0 0),(1,q6 g),(2,q6 b),(72,.d (.sl 4 (h.map qu))),(73,q6 (h.length : Int)),(74,q6 o.1)],[(0,.cel 4 [[.hs 2 6 0 o.2.length,.d (.sl 4 (h.map qu)),q6 (c.length : Int),q6 b]]),(2,.dat 6 (o.2.map Q6))],3⟩) (0,c) aq ar (wkA [(2,1)] [] []) ?_
 intro o ay k
 unfold q5a at k
 refine qc<|O (.d (.bool (decide (o.1 < (h.length : Int))))) J<|qa<|qh ?_
 refine qp J k (fun _ k=>?_) (fun _ k=>?_)
 ·refine qo<|qh<|Q1<|qc ?_
  obtain ⟨a,au,k⟩:=q9 k
  refine Qz (enc:=qu) au J<|O (.d (.agg [G a.X0,G a.Y0,G a.X1,G a.Y1])) J<|Qe J J<|qz 3 (.dat 4 [[G a.X0,G a.Y0,G a.X1,G a.Y1]]) J<|qa<|Qd [Qh 0,q8,q8,(some [2,4],[2,5]),(some [],[4]),q8,q8,q8,qr 3,q8,qr 3,q8,q8,q8,qr 3,q8,qr 3,q8,qr 0,q8,q8,q8,q8] qj<|q0 J<|q0 J<|O (.ref 0 4 0 0) J<|O (.ref 0 4 0 0) J<|O (.hs 2 6 0 o.2.length) J<|O (.ref 3 4 0 0) J<|O (q6 a.X0) J<|O (.ref 3 4 0 1) J<|O (q6 a.Y0) J<|q0 J<|O (.d (.agg [G a.X0,G a.Y0,G g])) J<|O (.ref 3 4 0 2) J<|O (q6 a.X1) J<|O (.ref 3 4 0 3) J<|O (q6 a.Y1) J<|q0 J<|O (.d (.agg [G a.X1,G a.Y1,G b])) J<|O (.d (.agg [G a.X0,G a.Y0,G g,G a.X1,G a.Y1,G b])) J<|Ql (.hs 4 6 0 [({Lo:=({X:=a.X0,Y:=a.Y0,Z:=g} : qi),Hi:=({X:=a.X1,Y:=a.Y1,Z:=b} : qi)} : qk)].length) (.dat 6 ([({Lo:=({X:=a.X0,Y:=a.Y0,Z:=g} : qi),Hi:=({X:=a.X1,Y:=a.Y1,Z:=b} : qi)} : qk)].map Q6)) J ?_
  obtain ⟨av,aw,k⟩:=q9 k
  refine Yr (xs:=o.2) (ys:=[({Lo:=({X:=a.X0,Y:=a.Y0,Z:=g} : qi),Hi:=({X:=a.X1,Y:=a.Y1,Z:=b} : qi)} : qk)]) (enc:=Q6) (.hs 4 6 0 [({Lo:=({X:=a.X0,Y:=a.Y0,Z:=g} : qi),Hi:=({X:=a.X1,Y:=a.Y1,Z:=b} : qi)} : qk)].length) aw J J J J J J J (Yo J J) J J J J<|O (.ref 0 4 0 0) J<|O (.ref 0 4 0 0) J<|qz 0 (.cel 4 [[.hs 5 6 0 av.length,.d (.sl 4 (h.map qu)),q6 (c.length : Int),q6 b]]) J<|qx<|Qj<|qy<|O (.d (G (w64 (o.1 + 1)))) J<|q0 J<|qx ?_
  exact ⟨_,(Option.some.inj k).symm,wkA [(2,5)] [] []⟩
 refine Qb ?_
 refine ⟨_,(Option.some.inj k).symm,fun hm=>?_⟩
 subst hm
 obtain rfl:=qe f
 exact ⟨.inl J,_,J,wkA [(2,2)] [] []⟩
theorem qtk (f : List K4) (m : Int) (r : List qk × Int) (a : q3j f m = some r) : Pure Tryz.prog tab 12 [.sl 2 (f.map Jk),G m] (.tup [.sl 6 (r.1.map Q6),G r.2]):=by
 unfold q3j at a
 refine Qi Tryz.func12 J qj qj J<|qc<|qb J<|qb J<|qa<|qh<|qc<|q0 J<|Qy J<|O (.d (.bool (decide ((f.length : Int) > 100)))) J<|qa ?_
 refine qp J a (fun _ a=>?_) (fun _ a=>?_)
 ·refine qc<|qb J<|qb J<|qv ?_
  obtain rfl:=qe a
  exact finD (.inr J) (v:=.d (.tup [.nilsl,G 4])) J J (Yc (.cons (.nil _) (.cons (.refl _) .nil)))
 refine qo<|qh<|qc<|q0 J<|Qy J<|q0 J<|qa ?_
 obtain ⟨w,ad,a⟩:=q9 a
 refine Qm (fun s=>.inl s = w) (fun (s : Unit)=>⟨[(0,.d (.sl 2 (f.map Jk))),(1,q6 m)],[],0⟩) qf ?_ ?_
 ·refine Qf (q3k f) (fun (q : Int)=>⟨[(0,.d (.sl 2 (f.map Jk))),(1,q6 m),(15,.d (.sl 2 (f.map Jk))),(16,q6 (f.length : Int)),(17,q6 q)],[],0⟩) 0 w ad (wkA [] [] []) ?_
  intro q an g
  unfold q3k at g
  refine qc<|O (.d (.bool (decide (q < (f.length : Int))))) J<|qa<|qh ?_
  refine qp J g (fun _ g=>?_) (fun _ g=>?_)
  ·refine qo<|qh<|Q1<|qc ?_
   obtain ⟨n,ae,g⟩:=q9 g
   refine Qz (enc:=Jk) ae J<|O (.d (.agg [.sl 4 (n.Region.map qu),G n.Height])) J<|Qe J J<|qz 0 (.dat 2 [[.sl 4 (n.Region.map qu),G n.Height]]) J<|qs<|O (.ref 0 2 0 0) J<|O (.d (.sl 4 (n.Region.map qu))) J ?_
   obtain ⟨t,af,g⟩:=q9 g
   refine Q5 (qbd n.Region t af) J<|qb J<|qs<|q0 J<|O (qg (t != 0)) J<|qa ?_
   refine qp J g (fun _ g=>?_) (fun _ g=>?_)
   ·refine qc<|q0 J<|qb J<|qb J<|qv ?_
    refine ⟨_,(Option.some.inj g).symm,fun hm=>?_⟩
    subst hm
    obtain rfl:=qe a
    exact finD (.inr J) (v:=.d (.tup [.nilsl,G t])) J J (Yc (.cons (.nil _) (.cons (.refl _) .nil)))
   refine qo<|Qc<|Qj<|qy<|O (.d (G (w64 (q + 1)))) J<|q0 J<|qx ?_
   exact ⟨_,(Option.some.inj g).symm,wkA [] [] []⟩
  refine Qb ?_
  refine ⟨_,(Option.some.inj g).symm,fun hm=>?_⟩
  subst hm
  exact ⟨_,J,wkA [] [] []⟩
 intro s hb
 subst hb
 refine qh<|qc<|q0 J ?_
 obtain ⟨x,ag,a⟩:=q9 a
 refine Q5 (qer m x ag) J<|O (qg (!x)) J ?_
 obtain ⟨ah,l,a⟩:=q9 a
 refine Q9 4 (fun A st=>∃ (y z aa : V),st = A [(34,qg ah),(33,aa),(32,z),(31,y)]) ?_ ?_
 ·refine Q8 J J l (fun l=>?_) (fun l=>?_)
  ·refine qd J<|qd J<|O (qg true) J<|qa ?_
   obtain rfl:=qe l
   exact ⟨_,_,_,J⟩
  refine q0 J ?_
  obtain ⟨ab,ai,l⟩:=q9 l
  refine Q5 (qvy f (fun u=>q1f u) 54 [] (fun u r hr=>qtj u r hr) ab ai) J<|O (qg ab) J<|qa ?_
  obtain rfl:=qe l
  exact ⟨_,_,_,J⟩
 rintro _ ⟨y,z,aa,rfl⟩
 refine qa ?_
 refine qp J a (fun _ a=>?_) (fun _ a=>?_)
 ·refine qc<|qb J<|qb J<|qv ?_
  obtain rfl:=qe a
  exact finD (.inr J) (v:=.d (.tup [.nilsl,G 2])) J J (Yc (.cons (.nil _) (.cons (.refl _) .nil)))
 refine qo<|qc<|Qe J J<|qa<|qh<|qc<|q0 J<|Qy J<|q0 J<|qa ?_
 obtain ⟨ac,aj,a⟩:=q9 a
 refine Qm (fun j=>.inl j = ac) (fun (j : List ql × Int × Int × List qk)=>⟨[(9,.ref 0 4 0 0)],[(0,.cel 4 [[.hs 1 6 0 j.2.2.2.length,.d (.sl 4 (j.1.map qu)),q6 j.2.1,q6 j.2.2.1]]),(1,.dat 6 (j.2.2.2.map Q6))],2⟩) qf ?_ ?_
 ·refine Qf (q3l f) (fun (b : Int × Int × List ql × Int × Int × List qk)=>⟨[(1,q6 b.1),(9,.ref 0 4 0 0),(35,.d (.sl 2 (f.map Jk))),(36,q6 (f.length : Int)),(37,q6 b.2.1)],[(0,.cel 4 [[.hs 1 6 0 b.2.2.2.2.2.length,.d (.sl 4 (b.2.2.1.map qu)),q6 b.2.2.2.1,q6 b.2.2.2.2.1]]),(1,.dat 6 (b.2.2.2.2.2.map Q6))],2⟩) (m,0,[],0,0,[]) ac aj (wkA [(0,0)] [] [1]) ?_
  intro b ao h
  unfold q3l at h
  refine qc<|O (.d (.bool (decide (b.2.1 < (f.length : Int))))) J<|qa<|qh ?_
  refine qp J h (fun _ h=>?_) (fun _ h=>?_)
  ·refine qo<|qh<|Q1<|qc ?_
   obtain ⟨c,ak,h⟩:=q9 h
   refine Qz (enc:=Jk) ak J<|O (.d (.agg [.sl 4 (c.Region.map qu),G c.Height])) J<|Qe J J<|qz 2 (.dat 2 [[.sl 4 (c.Region.map qu),G c.Height]]) J<|qa<|qh<|qc<|q0 J<|O (.ref 2 2 0 1) J<|O (q6 c.Height) J<|O (.d (G (w64 (b.1 + c.Height)))) J<|O (.d (.bool (decide ((w64 (b.1 + c.Height)) > 1000000)))) J<|qa ?_
   refine qp J h (fun _ h=>?_) (fun _ h=>?_)
   ·refine qc<|qb J<|qb J<|qv ?_
    refine ⟨_,(Option.some.inj h).symm,fun hm=>?_⟩
    subst hm
    obtain rfl:=qe a
    exact finD (.inr J) (v:=.d (.tup [.nilsl,G 16])) J J (Yc (.cons (.nil _) (.cons (.refl _) .nil)))
   refine qo<|qc<|q0 J<|q0 J<|O (.ref 2 2 0 1) J<|O (q6 c.Height) J<|O (.d (G (w64 (b.1 + c.Height)))) J<|O (.ref 2 2 0 0) J<|O (.d (.sl 4 (c.Region.map qu))) J ?_
   obtain ⟨o,al,h⟩:=q9 h
   refine K2 [(0,0),(1,1)] [(0,0),(1,1),(2,3),(3,2)] [.ref 0 4 0 0,q6 b.1,.d (G (w64 (b.1 + c.Height))),.d (.sl 4 (c.Region.map qu))] (.d (.tup [])) 2 [(0,.cel 4 [[.hs 3 6 0 o.2.2.2.length,.d (.sl 4 (o.1.map qu)),q6 o.2.1,q6 o.2.2.1]]),(3,.dat 6 (o.2.2.2.map Q6)),(2,.dat 2 [[.sl 4 (c.Region.map qu),G c.Height]])] 4 (qtn b.2.2.2.2.2 b.2.2.1 b.2.2.2.1 b.2.2.2.2.1 b.1 (w64 (b.1 + c.Height)) c.Region o al)<|qa<|qy<|q0 J<|O (.ref 2 2 0 1) J<|O (q6 c.Height) J<|O (.d (G (w64 (b.1 + c.Height)))) J<|qb J<|qx<|Qj<|qy<|O (.d (G (w64 (b.2.1 + 1)))) J<|q0 J<|qx ?_
   exact ⟨_,(Option.some.inj h).symm,wkA [(0,0),(1,3)] [] []⟩
  refine Qb ?_
  refine ⟨_,(Option.some.inj h).symm,fun hm=>?_⟩
  subst hm
  exact ⟨_,J,wkA [(0,0),(1,1)] [] []⟩
 intro j hb
 subst hb
 refine qc ?_
 obtain ⟨am,p,a⟩:=q9 a
 refine q2i [.ref 0 4 0 0] (fun k=>k = am) (fun (k : Int × List qk)=>⟨[(59,.tup [.hs 0 6 0 k.2.length,q6 k.1])],[(0,.dat 6 (k.2.map Q6))],1⟩) J J Tryz.func52 J qj qj J ?_ ?_
 ·refine qc<|qb J<|qb J<|qa<|qh<|qc<|q0 J<|O (.ref 0 4 0 0) J<|O (.ref 0 4 0 0) J<|O (.hs 1 6 0 j.2.2.2.length) J<|O (q6 (j.2.2.2.length : Int)) J<|O (.d (.bool (decide ((j.2.2.2.length : Int) > 400)))) J<|qa ?_
  refine qp J p (fun _ p=>?_) (fun _ p=>?_)
  ·refine qc<|qb J<|qb J<|qv ?_
   refine ⟨.inr J,_,J,?_⟩
   obtain rfl:=qe p
   exact ⟨_,J,wkA [] [] [0]⟩
  refine qo<|qc<|q0 J<|O (.ref 0 4 0 0) J<|O (.ref 0 4 0 0) J<|O (.hs 1 6 0 j.2.2.2.length) J<|qb J<|qb J<|qv ?_
  refine ⟨.inr J,_,J,?_⟩
  obtain rfl:=qe p
  exact ⟨_,J,wkA [(0,1)] [] []⟩
 intro k hb
 subst hb
 refine O (.hs 0 6 0 k.2.length) J<|O (q6 k.1) J<|qb J<|qb J<|qv ?_
 obtain rfl:=qe a
 exact finD (.inr J) (v:=.tup [.hs 0 6 0 k.2.length,q6 k.1]) J (q6y (Jp (Jb J J) (Jp J J))) (.refl _)
theorem qte (f : List qk) (h : Int) (g : Int) (r : List qm × Int) (c : q82 f h g = some r) : Pure Tryz.prog tab 31 [.sl 6 (f.map Q6),G h,G g] (.tup [.sl 2 (r.1.map Q3),G r.2]):=by
 unfold q82 at c
 refine Qi Tryz.func31 J qj qj J<|qc<|qb J<|qb J<|qa<|qh<|qc<|q0 J ?_
 obtain ⟨s,h2,c⟩:=q9 c
 refine Q5 (q9b f s h2) J<|qb J<|qs<|q0 J<|O (qg (s != 0)) J<|qa ?_
 refine qp J c (fun _ c=>?_) (fun _ c=>?_)
 ·refine qc<|q0 J<|qb J<|qb J<|qv ?_
  obtain rfl:=qe c
  exact finD (.inr J) (v:=.d (.tup [.nilsl,G s])) J J (Yc (.cons (.nil _) (.cons (.refl _) .nil)))
 refine qo<|qc<|qb J<|qa<|qh<|qc<|q0 J<|Qy J<|q0 J<|qa ?_
 obtain ⟨t,ao,c⟩:=q9 c
 refine Qm (fun l=>l = t) (fun (l : List qm)=>⟨[(9,.hs 0 2 0 l.length)],[(0,.dat 2 (l.map Q3))],1⟩) qf ?_ ?_
 ·refine Qf (q53 f h g) (fun (j : Int × List qm)=>⟨[(1,q6 h),(2,q6 g),(9,.hs 0 2 0 j.2.length),(17,.d (.sl 6 (f.map Q6))),(18,q6 (f.length : Int)),(19,q6 j.1)],[(0,.dat 2 (j.2.map Q3))],1⟩) (0,[]) t ao (wkA [] [] [0]) ?_
  intro j ay k
  unfold q53 at k
  refine qc<|O (.d (.bool (decide (j.1 < (f.length : Int))))) J<|qa<|qh ?_
  refine qp J k (fun _ k=>?_) (fun _ k=>?_)
  ·refine qo<|qh ?_
   obtain ⟨ap,b,k⟩:=q9 k
   refine Qm (fun m=>m = ap) (fun (m : List qm)=>⟨[(1,q6 h),(2,q6 g),(9,.hs 0 2 0 m.length),(17,.d (.sl 6 (f.map Q6))),(18,q6 (f.length : Int)),(19,q6 j.1)],[(0,.dat 2 (m.map Q3))],1⟩) qf ?_ ?_
   ·refine qc ?_
    obtain ⟨a,aq,b⟩:=q9 b
    refine Qz (enc:=Q6) aq J<|O (.d (.agg [G a.Lo.X,G a.Lo.Y,G a.Lo.Z,G a.Hi.X,G a.Hi.Y,G a.Hi.Z])) J<|Qe J J<|qz 1 (.dat 6 [[G a.Lo.X,G a.Lo.Y,G a.Lo.Z,G a.Hi.X,G a.Hi.Y,G a.Hi.Z]]) J<|qs<|O (.ref 1 6 0 0) J<|O (.ref 1 6 0 0) J<|O (q6 a.Lo.X) J<|q0 J<|O (.d (.bool (decide (a.Lo.X≤h)))) J ?_
    obtain ⟨ar,n,b⟩:=q9 b
    refine Q9 7 (fun A st=>∃ (u w x y z aa : V),st = A [(34,qg ar),(33,aa),(32,z),(31,y),(30,x),(29,w),(28,u)]) ?_ ?_
    ·refine Q8 J J n (fun n=>?_) (fun n=>?_)
     ·refine q0 J<|O (.ref 1 6 0 3) J<|O (.ref 1 6 0 3) J<|O (q6 a.Hi.X) J<|O (.d (.bool (decide (h < a.Hi.X)))) J<|O (.d (.bool (decide (h < a.Hi.X)))) J<|qa ?_
      obtain rfl:=qe n
      exact ⟨_,_,_,_,_,_,J⟩
     refine qd J<|qd J<|qd J<|qd J<|qd J<|O (qg false) J<|qa ?_
     obtain rfl:=qe n
     exact ⟨_,_,_,_,_,_,J⟩
    rintro _ ⟨u,w,x,y,z,aa,rfl⟩
    obtain ⟨au,o,b⟩:=q9 b
    refine Q9 7 (fun A st=>∃ (ab ac ad ae af ag : V),st = A [(41,qg au),(40,ag),(39,af),(38,ae),(37,ad),(36,ac),(35,ab)]) ?_ ?_
    ·refine Q8 J J o (fun o=>?_) (fun o=>?_)
     ·refine O (.ref 1 6 0 0) J<|O (.ref 1 6 0 1) J<|O (q6 a.Lo.Y) J<|q0 J<|O (.d (.bool (decide (a.Lo.Y≤g)))) J<|O (.d (.bool (decide (a.Lo.Y≤g)))) J<|qa ?_
      obtain rfl:=qe o
      exact ⟨_,_,_,_,_,_,J⟩
     refine qd J<|qd J<|qd J<|qd J<|qd J<|O (qg false) J<|qa ?_
     obtain rfl:=qe o
     exact ⟨_,_,_,_,_,_,J⟩
    rintro _ ⟨ab,ac,ad,ae,af,ag,rfl⟩
    obtain ⟨av,p,b⟩:=q9 b
    refine Q9 7 (fun A st=>∃ (ah ai aj ak al am : V),st = A [(48,qg av),(47,am),(46,al),(45,ak),(44,aj),(43,ai),(42,ah)]) ?_ ?_
    ·refine Q8 J J p (fun p=>?_) (fun p=>?_)
     ·refine q0 J<|O (.ref 1 6 0 3) J<|O (.ref 1 6 0 4) J<|O (q6 a.Hi.Y) J<|O (.d (.bool (decide (g < a.Hi.Y)))) J<|O (.d (.bool (decide (g < a.Hi.Y)))) J<|qa ?_
      obtain rfl:=qe p
      exact ⟨_,_,_,_,_,_,J⟩
     refine qd J<|qd J<|qd J<|qd J<|qd J<|O (qg false) J<|qa ?_
     obtain rfl:=qe p
     exact ⟨_,_,_,_,_,_,J⟩
    rintro _ ⟨ah,ai,aj,ak,al,am,rfl⟩
    refine qa ?_
    refine qp J b (fun _ b=>?_) (fun _ b=>?_)
    ·refine qy<|q0 J<|O (.ref 1 6 0 0) J<|O (.ref 1 6 0 2) J<|O (q6 a.Lo.Z) J<|O (.ref 1 6 0 3) J<|O (.ref 1 6 0 5) J<|O (q6 a.Hi.Z) J<|O (.d (.agg [G a.Lo.Z,G a.Hi.Z])) J<|Ql (.hs 2 2 0 [({Lo:=a.Lo.Z,Hi:=a.Hi.Z} : qm)].length) (.dat 2 ([({Lo:=a.Lo.Z,Hi:=a.Hi.Z} : qm)].map Q3)) J ?_
     obtain ⟨az,aw,b⟩:=q9 b
     refine Yr (xs:=j.2) (ys:=[({Lo:=a.Lo.Z,Hi:=a.Hi.Z} : qm)]) (enc:=Q3) (.hs 2 2 0 [({Lo:=a.Lo.Z,Hi:=a.Hi.Z} : qm)].length) aw J J J J J J J (Yo J J) J J J J<|qb J<|qx ?_
     obtain rfl:=qe b
     exact ⟨_,J,wkA [(0,3)] [] []⟩
    refine qo<|Qc ?_
    obtain rfl:=qe b
    exact ⟨_,J,wkA [(0,0)] [] []⟩
   intro m hb
   subst hb
   refine qy<|O (.d (G (w64 (j.1 + 1)))) J<|q0 J<|qx ?_
   exact ⟨_,(Option.some.inj k).symm,wkA [(0,0)] [] []⟩
  refine Qb ?_
  refine ⟨_,(Option.some.inj k).symm,fun hm=>?_⟩
  subst hm
  exact ⟨_,J,wkA [(0,0)] [] []⟩
 intro l hb
 subst hb
 refine qh ?_
 refine Yj (st':=⟨[(9,.d (.sl 2 (l.map Q3)))],[],0⟩) (wkA [] [0] []) ?_ qf
 refine qy<|q0 J ?_
 obtain ⟨q,ax,c⟩:=q9 c
 refine Q5 (qm5 l q ax) J<|O (.d (.sl 2 (q.1.map Q3))) J<|O (q6 q.2) J<|qb J<|qb J<|qv ?_
 obtain rfl:=qe c
 exact Q4 (.d (.tup [.sl 2 (q.1.map Q3),G q.2])) J
theorem qr0 (r : Q2) (a : qav = some r) : Pure Tryz.prog tab 17 [] (.agg [.int .u8 r.Frame.Turn,G r.Frame.At.X,G r.Frame.At.Y,G r.Frame.At.Z,G r.Size.X,G r.Size.Y,G r.Size.Z]):=by
 unfold qav at a
 refine Qi Tryz.func17 J qj qj J<|qc<|Qe J J<|qs<|O (.d (.agg [G 2,G 3,G 4])) J<|O (.d (.agg [.int .u8 0,G 0,G 0,G 0,G 2,G 3,G 4])) J<|qz 0 (.dat 7 [[.int .u8 0,G 0,G 0,G 0,G 2,G 3,G 4]]) J<|qv ?_
 obtain rfl:=qe a
 exact Q4 (.d (.agg [.int .u8 0,G 0,G 0,G 0,G 2,G 3,G 4])) J
theorem qao (a : qi) (f : Int) (r : Bool) (c : q12 a f = some r) : Pure Tryz.prog tab 108 [.agg [G a.X,G a.Y,G a.Z],G f] (.bool r):=by
 unfold q12 at c
 refine Qi Tryz.func108 J qj qj J<|qc<|Ql (.ref 0 3 0 0) (.dat 3 [[G a.X,G a.Y,G a.Z]]) J<|qb J<|qs<|O (.ref 0 3 0 0) J<|O (q6 a.X) J<|O (.ref 0 3 0 1) J<|O (q6 a.Y) J<|O (.ref 0 3 0 2) J<|O (q6 a.Z) J<|Uo (r:=min (min a.X a.Y) a.Z) J J (by simp only [Um];rfl)<|q0 J<|O (.d (.bool (decide ((min (min a.X a.Y) a.Z) ≥ f)))) J ?_
 obtain ⟨g,b,c⟩:=q9 c
 refine Q9 10 (fun A st=>∃ (h j k l m n o p q : V),st = A [(23,qg g),(22,q),(21,p),(20,o),(19,n),(18,m),(17,l),(16,k),(15,j),(14,h)]) ?_ ?_
 ·refine Q8 J J b (fun b=>?_) (fun b=>?_)
  ·refine O (.ref 0 3 0 0) J<|O (q6 a.X) J<|O (.ref 0 3 0 1) J<|O (q6 a.Y) J<|O (.ref 0 3 0 2) J<|O (q6 a.Z) J<|Un (r:=max (max a.X a.Y) a.Z) J J (by simp only [Ul];rfl)<|O (.d (.bool (decide ((max (max a.X a.Y) a.Z)≤1000000)))) J<|O (.d (.bool (decide ((max (max a.X a.Y) a.Z)≤1000000)))) J<|qa ?_
   obtain rfl:=qe b
   exact ⟨_,_,_,_,_,_,_,_,_,J⟩
  refine qd J<|qd J<|qd J<|qd J<|qd J<|qd J<|qd J<|qd J<|O (qg false) J<|qa ?_
  obtain rfl:=qe b
  exact ⟨_,_,_,_,_,_,_,_,_,J⟩
 rintro _ ⟨h,j,k,l,m,n,o,p,q,rfl⟩
 refine qb J<|qv ?_
 obtain rfl:=qe c
 exact Q4 (qg g) J
theorem q7i (a : Qq) (r : Int) (b : q11 a = some r) : Pure Tryz.prog tab 107 [.agg [.int .u8 a.Turn,G a.At.X,G a.At.Y,G a.At.Z]] (G r):=by
 unfold q11 at b
 refine Qi Tryz.func107 J qj qj J<|qc<|Ql (.ref 0 4 0 0) (.dat 4 [[.int .u8 a.Turn,G a.At.X,G a.At.Y,G a.At.Z]]) J<|qb J<|qa<|qh<|qc<|O (.ref 0 4 0 0) J<|O (.d (.int .u8 a.Turn)) J<|O (.d (.bool (decide (a.Turn ≥ 24)))) J ?_
 obtain ⟨m,c,b⟩:=q9 b
 refine Q9 6 (fun A st=>∃ (g h j k l : V),st = A [(11,qg m),(10,l),(9,k),(8,j),(7,h),(6,g)]) ?_ ?_
 ·refine Q8 J J c (fun c=>?_) (fun c=>?_)
  ·refine qd J<|qd J<|qd J<|qd J<|O (qg true) J<|qa ?_
   obtain rfl:=qe c
   exact ⟨_,_,_,_,_,J⟩
  refine O (.ref 0 4 0 1) J<|O (.d (.agg [G a.At.X,G a.At.Y,G a.At.Z])) J ?_
  obtain ⟨f,n,c⟩:=q9 c
  refine Q5 (qao a.At (-1000000) f n) J<|O (qg (!f)) J<|O (qg (!f)) J<|qa ?_
  obtain rfl:=qe c
  exact ⟨_,_,_,_,_,J⟩
 rintro _ ⟨g,h,j,k,l,rfl⟩
 refine qa ?_
 refine qp J b (fun _ b=>?_) (fun _ b=>?_)
 ·refine qc<|qb J<|qv ?_
  obtain rfl:=qe b
  exact Q4 (q6 8) J
 refine qo<|qc<|qb J<|qv ?_
 obtain rfl:=qe b
 exact Q4 (q6 0) J
theorem qie (a : Q2) (r : Int) (b : q4j a = some r) : Pure Tryz.prog tab 106 [.agg [.int .u8 a.Frame.Turn,G a.Frame.At.X,G a.Frame.At.Y,G a.Frame.At.Z,G a.Size.X,G a.Size.Y,G a.Size.Z]] (G r):=by
 unfold q4j at b
 refine Qi Tryz.func106 J qj qj J<|qc<|Ql (.ref 0 7 0 0) (.dat 7 [[.int .u8 a.Frame.Turn,G a.Frame.At.X,G a.Frame.At.Y,G a.Frame.At.Z,G a.Size.X,G a.Size.Y,G a.Size.Z]]) J<|qb J<|qa<|qh<|qc<|O (.ref 0 7 0 0) J<|O (.d (.agg [.int .u8 a.Frame.Turn,G a.Frame.At.X,G a.Frame.At.Y,G a.Frame.At.Z])) J ?_
 obtain ⟨g,n,b⟩:=q9 b
 refine Q5 (q7i a.Frame g n) J<|O (qg (g != 0)) J ?_
 obtain ⟨o,c,b⟩:=q9 b
 refine Q9 6 (fun A st=>∃ (h j k l m : V),st = A [(12,qg o),(11,m),(10,l),(9,k),(8,j),(7,h)]) ?_ ?_
 ·refine Q8 J J c (fun c=>?_) (fun c=>?_)
  ·refine qd J<|qd J<|qd J<|qd J<|O (qg true) J<|qa ?_
   obtain rfl:=qe c
   exact ⟨_,_,_,_,_,J⟩
  refine O (.ref 0 7 0 4) J<|O (.d (.agg [G a.Size.X,G a.Size.Y,G a.Size.Z])) J ?_
  obtain ⟨f,p,c⟩:=q9 c
  refine Q5 (qao a.Size 0 f p) J<|O (qg (!f)) J<|O (qg (!f)) J<|qa ?_
  obtain rfl:=qe c
  exact ⟨_,_,_,_,_,J⟩
 rintro _ ⟨h,j,k,l,m,rfl⟩
 refine qa ?_
 refine qp J b (fun _ b=>?_) (fun _ b=>?_)
 ·refine qc<|qb J<|qv ?_
  obtain rfl:=qe b
  exact Q4 (q6 8) J
 refine qo<|qc<|qb J<|qv ?_
 obtain rfl:=qe b
 exact Q4 (q6 0) J
theorem qif (a : Int) (r : qi) (b : qan a = some r) : Pure Tryz.prog tab 173 [.int .u8 a] (.agg [G r.X,G r.Y,G r.Z]):=by
 unfold qan at b
 refine Qi Tryz.func173 J qj qj J<|qc<|Qe J J<|qs<|q0 J<|O (.d (.int .u8 (Int.tmod a 2))) J<|O (.d (G (w64 (Int.tmod a 2)))) J<|O (.d (G (w64 (2 * (w64 (Int.tmod a 2)))))) J<|O (.d (G (w64 (1 - (w64 (2 * (w64 (Int.tmod a 2)))))))) J<|qb J<|qa<|qh<|qc<|q0 J<|O (.d (.int .u8 (IntKind.wrap .u8 (Int.tdiv a 2)))) J<|qa<|Q1<|qc<|O (.d (.bool ((IntKind.wrap .u8 (Int.tdiv a 2)) == 0))) J<|qb J<|qa ?_
 refine qp J b (fun _ b=>?_) (fun _ b=>?_)
 ·refine qc<|q0 J<|O (.d (.agg [G (w64 (1 - (w64 (2 * (w64 (Int.tmod a 2)))))),G 0,G 0])) J<|qz 0 (.dat 3 [[G (w64 (1 - (w64 (2 * (w64 (Int.tmod a 2)))))),G 0,G 0]]) J<|qv ?_
  obtain rfl:=qe b
  exact Q4 (.d (.agg [G (w64 (1 - (w64 (2 * (w64 (Int.tmod a 2)))))),G 0,G 0])) J
 refine qc<|O (.d (.bool ((IntKind.wrap .u8 (Int.tdiv a 2)) == 1))) J<|qb J<|qa ?_
 refine qp J b (fun _ b=>?_) (fun _ b=>?_)
 ·refine qc<|q0 J<|O (.d (.agg [G 0,G (w64 (1 - (w64 (2 * (w64 (Int.tmod a 2)))))),G 0])) J<|qz 0 (.dat 3 [[G 0,G (w64 (1 - (w64 (2 * (w64 (Int.tmod a 2)))))),G 0]]) J<|qv ?_
  obtain rfl:=qe b
  exact Q4 (.d (.agg [G 0,G (w64 (1 - (w64 (2 * (w64 (Int.tmod a 2)))))),G 0])) J
 refine qo<|Qc<|Qj<|qc<|q0 J<|O (.d (.agg [G 0,G 0,G (w64 (1 - (w64 (2 * (w64 (Int.tmod a 2))))))])) J<|qz 0 (.dat 3 [[G 0,G 0,G (w64 (1 - (w64 (2 * (w64 (Int.tmod a 2))))))]]) J<|qv ?_
 obtain rfl:=qe b
 exact Q4 (.d (.agg [G 0,G 0,G (w64 (1 - (w64 (2 * (w64 (Int.tmod a 2))))))])) J
theorem qq7 (a : qi) (b : qi) (r : qi) (c : qdp a b = some r) : Pure Tryz.prog tab 174 [.agg [G a.X,G a.Y,G a.Z],.agg [G b.X,G b.Y,G b.Z]] (.agg [G r.X,G r.Y,G r.Z]):=by
 unfold qdp at c
 refine Qi Tryz.func174 J qj qj J<|qc<|Ql (.ref 0 3 0 0) (.dat 3 [[G a.X,G a.Y,G a.Z]]) J<|Ql (.ref 1 3 0 0) (.dat 3 [[G b.X,G b.Y,G b.Z]]) J<|Qe J J<|qs<|O (.ref 0 3 0 1) J<|O (q6 a.Y) J<|O (.ref 1 3 0 2) J<|O (q6 b.Z) J<|O (.d (G (w64 (a.Y * b.Z)))) J<|O (.ref 0 3 0 2) J<|O (q6 a.Z) J<|O (.ref 1 3 0 1) J<|O (q6 b.Y) J<|O (.d (G (w64 (a.Z * b.Y)))) J<|O (.d (G (w64 ((w64 (a.Y * b.Z)) - (w64 (a.Z * b.Y)))))) J<|O (.ref 0 3 0 2) J<|O (q6 a.Z) J<|O (.ref 1 3 0 0) J<|O (q6 b.X) J<|O (.d (G (w64 (a.Z * b.X)))) J<|O (.ref 0 3 0 0) J<|O (q6 a.X) J<|O (.ref 1 3 0 2) J<|O (q6 b.Z) J<|O (.d (G (w64 (a.X * b.Z)))) J<|O (.d (G (w64 ((w64 (a.Z * b.X)) - (w64 (a.X * b.Z)))))) J<|O (.ref 0 3 0 0) J<|O (q6 a.X) J<|O (.ref 1 3 0 1) J<|O (q6 b.Y) J<|O (.d (G (w64 (a.X * b.Y)))) J<|O (.ref 0 3 0 1) J<|O (q6 a.Y) J<|O (.ref 1 3 0 0) J<|O (q6 b.X) J<|O (.d (G (w64 (a.Y * b.X)))) J<|O (.d (G (w64 ((w64 (a.X * b.Y)) - (w64 (a.Y * b.X)))))) J<|O (.d (.agg [G (w64 ((w64 (a.Y * b.Z)) - (w64 (a.Z * b.Y)))),G (w64 ((w64 (a.Z * b.X)) - (w64 (a.X * b.Z)))),G (w64 ((w64 (a.X * b.Y)) - (w64 (a.Y * b.X))))])) J ?_
 refine qz 2 (.dat 3 [[G (w64 ((w64 (a.Y * b.Z)) - (w64 (a.Z * b.Y)))),G (w64 ((w64 (a.Z * b.X)) - (w64 (a.X * b.Z)))),G (w64 ((w64 (a.X * b.Y)) - (w64 (a.Y * b.X))))]]) J<|qv ?_
 obtain rfl:=qe c
 exact Q4 (.d (.agg [G (w64 ((w64 (a.Y * b.Z)) - (w64 (a.Z * b.Y)))),G (w64 ((w64 (a.Z * b.X)) - (w64 (a.X * b.Z)))),G (w64 ((w64 (a.X * b.Y)) - (w64 (a.Y * b.X))))])) J
theorem qam (c : Int) (r : (qi × qi × qi)) (f : q21 c = some r) : Pure Tryz.prog tab 158 [.int .u8 c] (.agg [G r.1.X,G r.1.Y,G r.1.Z,G r.2.1.X,G r.2.1.Y,G r.2.1.Z,G r.2.2.X,G r.2.2.Y,G r.2.2.Z]):=by
 unfold q21 at f
 refine Qi Tryz.func158 J qj qj J<|qc<|Qe J J<|qs<|q0 J<|O (.d (.int .u8 (IntKind.wrap .u8 (Int.tdiv c 4)))) J<|qb J<|qs<|q0 J<|O (.d (.int .u8 (Int.tmod c 4))) J<|qb J<|qa<|qh<|qc<|q0 J<|q0 J<|O (.d (.int .u8 (IntKind.wrap .u8 (Int.tdiv (IntKind.wrap .u8 (Int.tdiv c 4)) 2)))) J<|O (.d (.int .u8 (IntKind.wrap .u8 ((IntKind.wrap .u8 (Int.tdiv (IntKind.wrap .u8 (Int.tdiv c 4)) 2)) * 2)))) J<|O (.d (.bool (decide ((Int.tmod c 4) ≥ (IntKind.wrap .u8 ((IntKind.wrap .u8 (Int.tdiv (IntKind.wrap .u8 (Int.tdiv c 4)) 2)) * 2)))))) J<|qa ?_
 obtain ⟨k,h,f⟩:=q9 f
 refine Yi (fun j=>j = k) (fun (j : Int)=>⟨[(2,.ref 0 9 0 0),(3,.d (.int .u8 (IntKind.wrap .u8 (Int.tdiv c 4)))),(4,.d (.int .u8 j))],[(0,.dat 9 [[G 0,G 0,G 0,G 0,G 0,G 0,G 0,G 0,G 0]])],1⟩) qf ?_ ?_
 ·refine qp J h (fun _ h=>?_) (fun _ h=>?_)
  ·refine qy<|q0 J<|O (.d (.int .u8 (IntKind.wrap .u8 ((Int.tmod c 4) + 2)))) J<|qb J<|qx ?_
   obtain rfl:=qe h
   exact ⟨_,J,wkA [(0,0)] [] []⟩
  refine qo<|Qc ?_
  obtain rfl:=qe h
  exact ⟨_,J,wkA [(0,0)] [] []⟩
 intro j hb
 subst hb
 refine qc<|q0 J ?_
 obtain ⟨a,l,f⟩:=q9 f
 refine Q5 (qif (IntKind.wrap .u8 (Int.tdiv c 4)) a l) J<|q0 J ?_
 obtain ⟨b,m,f⟩:=q9 f
 refine Q5 (qif j b m) J<|Qe J J<|Qe J J<|qz 1 (.dat 3 [[G a.X,G a.Y,G a.Z]]) J<|qz 2 (.dat 3 [[G b.X,G b.Y,G b.Z]]) J<|qa<|qh<|Qd [Qh 0,q8,q8,qr 2,qr 1,qr 2,qr 1] qj<|O (.d (.agg [G a.X,G a.Y,G a.Z])) J<|O (.d (.agg [G b.X,G b.Y,G b.Z])) J<|O (.d (.agg [G a.X,G a.Y,G a.Z])) J<|O (.d (.agg [G b.X,G b.Y,G b.Z])) J ?_
 obtain ⟨g,n,f⟩:=q9 f
 refine Q5 (qq7 a b g n) J<|O (.d (.agg [G a.X,G a.Y,G a.Z,G b.X,G b.Y,G b.Z,G g.X,G g.Y,G g.Z])) J<|qz 0 (.dat 9 [[G a.X,G a.Y,G a.Z,G b.X,G b.Y,G b.Z,G g.X,G g.Y,G g.Z]]) J<|qv ?_
 obtain rfl:=qe f
 exact Q4 (.d (.agg [G a.X,G a.Y,G a.Z,G b.X,G b.Y,G b.Z,G g.X,G g.Y,G g.Z])) J
theorem qii (a : qi × qi × qi) (b : qi) (r : qi) (c : q4l a b = some r) : Pure Tryz.prog tab 157 [.agg [G a.1.X,G a.1.Y,G a.1.Z,G a.2.1.X,G a.2.1.Y,G a.2.1.Z,G a.2.2.X,G a.2.2.Y,G a.2.2.Z],.agg [G b.X,G b.Y,G b.Z]] (.agg [G r.X,G r.Y,G r.Z]):=by
 unfold q4l at c
 refine Qi Tryz.func157 J qj qj J<|qc<|Ql (.ref 0 9 0 0) (.dat 9 [[G a.1.X,G a.1.Y,G a.1.Z,G a.2.1.X,G a.2.1.Y,G a.2.1.Z,G a.2.2.X,G a.2.2.Y,G a.2.2.Z]]) J<|Ql (.ref 1 3 0 0) (.dat 3 [[G b.X,G b.Y,G b.Z]]) J<|Qe J J<|qs<|O (.ref 1 3 0 0) J<|O (q6 b.X) J<|O (.ref 0 9 0 0) J<|O (.ref 0 9 0 0) J<|O (q6 a.1.X) J<|O (.d (G (w64 (b.X * a.1.X)))) J<|O (.ref 1 3 0 1) J<|O (q6 b.Y) J<|O (.ref 0 9 0 3) J<|O (.ref 0 9 0 3) J<|O (q6 a.2.1.X) J<|O (.d (G (w64 (b.Y * a.2.1.X)))) J<|O (.d (G (w64 ((w64 (b.X * a.1.X)) + (w64 (b.Y * a.2.1.X)))))) J<|O (.ref 1 3 0 2) J<|O (q6 b.Z) J<|O (.ref 0 9 0 6) J<|O (.ref 0 9 0 6) J<|O (q6 a.2.2.X) J<|O (.d (G (w64 (b.Z * a.2.2.X)))) J<|O (.d (G (w64 ((w64 ((w64 (b.X * a.1.X)) + (w64 (b.Y * a.2.1.X)))) + (w64 (b.Z * a.2.2.X)))))) J<|O (.ref 1 3 0 0) J<|O (q6 b.X) J<|O (.ref 0 9 0 0) J<|O (.ref 0 9 0 1) J<|O (q6 a.1.Y) J<|O (.d (G (w64 (b.X * a.1.Y)))) J<|O (.ref 1 3 0 1) J<|O (q6 b.Y) J<|O (.ref 0 9 0 3) J<|O (.ref 0 9 0 4) J<|O (q6 a.2.1.Y) J<|O (.d (G (w64 (b.Y * a.2.1.Y)))) J<|O (.d (G (w64 ((w64 (b.X * a.1.Y)) + (w64 (b.Y * a.2.1.Y)))))) J<|O (.ref 1 3 0 2) J ?_
 refine O (q6 b.Z) J<|O (.ref 0 9 0 6) J<|O (.ref 0 9 0 7) J<|O (q6 a.2.2.Y) J<|O (.d (G (w64 (b.Z * a.2.2.Y)))) J<|O (.d (G (w64 ((w64 ((w64 (b.X * a.1.Y)) + (w64 (b.Y * a.2.1.Y)))) + (w64 (b.Z * a.2.2.Y)))))) J<|O (.ref 1 3 0 0) J<|O (q6 b.X) J<|O (.ref 0 9 0 0) J<|O (.ref 0 9 0 2) J<|O (q6 a.1.Z) J<|O (.d (G (w64 (b.X * a.1.Z)))) J<|O (.ref 1 3 0 1) J<|O (q6 b.Y) J<|O (.ref 0 9 0 3) J<|O (.ref 0 9 0 5) J<|O (q6 a.2.1.Z) J<|O (.d (G (w64 (b.Y * a.2.1.Z)))) J<|O (.d (G (w64 ((w64 (b.X * a.1.Z)) + (w64 (b.Y * a.2.1.Z)))))) J<|O (.ref 1 3 0 2) J<|O (q6 b.Z) J<|O (.ref 0 9 0 6) J<|O (.ref 0 9 0 8) J<|O (q6 a.2.2.Z) J<|O (.d (G (w64 (b.Z * a.2.2.Z)))) J<|O (.d (G (w64 ((w64 ((w64 (b.X * a.1.Z)) + (w64 (b.Y * a.2.1.Z)))) + (w64 (b.Z * a.2.2.Z)))))) J<|O (.d (.agg [G (w64 ((w64 ((w64 (b.X * a.1.X)) + (w64 (b.Y * a.2.1.X)))) + (w64 (b.Z * a.2.2.X)))),G (w64 ((w64 ((w64 (b.X * a.1.Y)) + (w64 (b.Y * a.2.1.Y)))) + (w64 (b.Z * a.2.2.Y)))),G (w64 ((w64 ((w64 (b.X * a.1.Z)) + (w64 (b.Y * a.2.1.Z)))) + (w64 (b.Z * a.2.2.Z))))])) J<|qz 2 (.dat 3 [[G (w64 ((w64 ((w64 (b.X * a.1.X)) + (w64 (b.Y * a.2.1.X)))) + (w64 (b.Z * a.2.2.X)))),G (w64 ((w64 ((w64 (b.X * a.1.Y)) + (w64 (b.Y * a.2.1.Y)))) + (w64 (b.Z * a.2.2.Y)))),G (w64 ((w64 ((w64 (b.X * a.1.Z)) + (w64 (b.Y * a.2.1.Z)))) + (w64 (b.Z * a.2.2.Z))))]]) J<|qv ?_
 obtain rfl:=qe c
 exact Q4 (.d (.agg [G (w64 ((w64 ((w64 (b.X * a.1.X)) + (w64 (b.Y * a.2.1.X)))) + (w64 (b.Z * a.2.2.X)))),G (w64 ((w64 ((w64 (b.X * a.1.Y)) + (w64 (b.Y * a.2.1.Y)))) + (w64 (b.Z * a.2.2.Y)))),G (w64 ((w64 ((w64 (b.X * a.1.Z)) + (w64 (b.Y * a.2.1.Z)))) + (w64 (b.Z * a.2.2.Z))))])) J
theorem qq8 (a : qi × qi × qi) (r : Int) (g : q7l a = some r) : Pure Tryz.prog tab 163 [.agg [G a.1.X,G a.1.Y,G a.1.Z,G a.2.1.X,G a.2.1.Y,G a.2.1.Z,G a.2.2.X,G a.2.2.Y,G a.2.2.Z]] (.int .u8 r):=by
 unfold q7l at g
 refine Qi Tryz.func163 J qj qj J<|qc<|Ql (.ref 0 9 0 0) (.dat 9 [[G a.1.X,G a.1.Y,G a.1.Z,G a.2.1.X,G a.2.1.Y,G a.2.1.Z,G a.2.2.X,G a.2.2.Y,G a.2.2.Z]]) J<|qb J<|qa<|qh<|qc<|q0 J<|qa ?_
 obtain ⟨j,k,g⟩:=q9 g
 refine Qm (fun h=>.inl h = j) (fun (h : Unit)=>⟨[],[],0⟩) qf ?_ ?_
 ·refine Qf (q4k a) (fun (f : Int)=>⟨[(1,.ref 0 9 0 0),(4,.d (.int .u8 f))],[(0,.dat 9 [[G a.1.X,G a.1.Y,G a.1.Z,G a.2.1.X,G a.2.1.Y,G a.2.1.Z,G a.2.2.X,G a.2.2.Y,G a.2.2.Z]])],1⟩) 0 j k (wkA [(0,0)] [] []) ?_
  intro f m b
  unfold q4k at b
  refine qc<|O (.d (.bool (decide (f < 24)))) J<|qa<|qh ?_
  refine qp J b (fun _ b=>?_) (fun _ b=>?_)
  ·refine qo<|qh<|Q1<|qc<|q0 J<|qb J<|qa<|qh<|Qd [q8,qr 0,q8,q8] qj<|q0 J ?_
   obtain ⟨c,l,b⟩:=q9 b
   refine Q5 (qam f c l) J<|O (.d (.agg [G a.1.X,G a.1.Y,G a.1.Z,G a.2.1.X,G a.2.1.Y,G a.2.1.Z,G a.2.2.X,G a.2.2.Y,G a.2.2.Z])) J<|O (.d (.bool ((c.1.X == a.1.X) && ((c.1.Y == a.1.Y) && ((c.1.Z == a.1.Z) && ((c.2.1.X == a.2.1.X) && ((c.2.1.Y == a.2.1.Y) && ((c.2.1.Z == a.2.1.Z) && ((c.2.2.X == a.2.2.X) && ((c.2.2.Y == a.2.2.Y) && ((c.2.2.Z == a.2.2.Z) && true))))))))))) J<|qa ?_
   refine qp J b (fun _ b=>?_) (fun _ b=>?_)
   ·refine qc<|q0 J<|qb J<|qv ?_
    refine ⟨_,(Option.some.inj b).symm,fun hm=>?_⟩
    subst hm
    obtain rfl:=qe g
    exact Q4 (.d (.int .u8 f)) J
   refine qo<|Qc<|Qj<|qy<|O (.d (.int .u8 (IntKind.wrap .u8 (f + 1)))) J<|q0 J<|qx ?_
   exact ⟨_,(Option.some.inj b).symm,wkA [(0,0)] [] []⟩
  refine Qb ?_
  refine ⟨_,(Option.some.inj b).symm,fun hm=>?_⟩
  subst hm
  exact ⟨_,J,wkA [] [] []⟩
 intro h hb
 subst hb
 refine qc<|qb J<|qv ?_
 obtain rfl:=qe g
 exact Q4 (.d (.int .u8 0)) J
theorem qih (a : Qq) (c : qi) (r : qi) (f : q3a a c = some r) : Pure Tryz.prog tab 133 [.agg [.int .u8 a.Turn,G a.At.X,G a.At.Y,G a.At.Z],.agg [G c.X,G c.Y,G c.Z]] (.agg [G r.X,G r.Y,G r.Z]):=by
 unfold q3a at f
 refine Qi Tryz.func133 J qj qj J<|qc<|Ql (.ref 0 4 0 0) (.dat 4 [[.int .u8 a.Turn,G a.At.X,G a.At.Y,G a.At.Z]]) J<|Ql (.ref 1 3 0 0) (.dat 3 [[G c.X,G c.Y,G c.Z]]) J<|Qe J J<|qa<|qh<|Qd [Qh 1,q8,qr 1,q8,qr 0,q8] qj<|O (.ref 0 4 0 0) J<|O (.d (.int .u8 a.Turn)) J ?_
 obtain ⟨g,h,f⟩:=q9 f
 refine Q5 (qam a.Turn g h) J<|O (.d (.agg [G c.X,G c.Y,G c.Z])) J ?_
 obtain ⟨b,j,f⟩:=q9 f
 refine Q5 (qii g c b j) J<|qz 1 (.dat 3 [[G b.X,G b.Y,G b.Z]]) J<|qs<|O (.ref 1 3 0 0) J<|O (q6 b.X) J<|O (.ref 0 4 0 1) J<|O (.ref 0 4 0 1) J<|O (q6 a.At.X) J<|O (.d (G (w64 (b.X + a.At.X)))) J<|O (.ref 1 3 0 1) J<|O (q6 b.Y) J<|O (.ref 0 4 0 1) J<|O (.ref 0 4 0 2) J<|O (q6 a.At.Y) J<|O (.d (G (w64 (b.Y + a.At.Y)))) J<|O (.ref 1 3 0 2) J<|O (q6 b.Z) J<|O (.ref 0 4 0 1) J<|O (.ref 0 4 0 3) J<|O (q6 a.At.Z) J<|O (.d (G (w64 (b.Z + a.At.Z)))) J<|O (.d (.agg [G (w64 (b.X + a.At.X)),G (w64 (b.Y + a.At.Y)),G (w64 (b.Z + a.At.Z))])) J<|qz 2 (.dat 3 [[G (w64 (b.X + a.At.X)),G (w64 (b.Y + a.At.Y)),G (w64 (b.Z + a.At.Z))]]) J<|qv ?_
 obtain rfl:=qe f
 exact Q4 (.d (.agg [G (w64 (b.X + a.At.X)),G (w64 (b.Y + a.At.Y)),G (w64 (b.Z + a.At.Z))])) J
theorem qq9 (c : Qq) (b : Qq) (r : Qq) (f : q7m c b = some r) : Pure Tryz.prog tab 143 [.agg [.int .u8 c.Turn,G c.At.X,G c.At.Y,G c.At.Z],.agg [.int .u8 b.Turn,G b.At.X,G b.At.Y,G b.At.Z]] (.agg [.int .u8 r.Turn,G r.At.X,G r.At.Y,G r.At.Z]):=by
 unfold q7m at f
 refine Qi Tryz.func143 J qj qj J<|qc<|Ql (.ref 0 4 0 0) (.dat 4 [[.int .u8 c.Turn,G c.At.X,G c.At.Y,G c.At.Z]]) J<|Ql (.ref 1 4 0 0) (.dat 4 [[.int .u8 b.Turn,G b.At.X,G b.At.Y,G b.At.Z]]) J<|Qe J J<|qa<|qh<|Qd [Qh 4,Qh 3,(some [],[4]),(some [],[3]),q8,qr 1,q8,q8,qr 0,q8] qj<|O (.ref 0 4 0 0) J<|O (.d (.int .u8 c.Turn)) J ?_
 obtain ⟨k,u,f⟩:=q9 f
 refine Q5 (qam c.Turn k u) J<|O (.ref 1 4 0 0) J<|O (.d (.int .u8 b.Turn)) J ?_
 obtain ⟨a,v,f⟩:=q9 f
 refine Q5 (qam b.Turn a v) J<|Qe J J<|Qe J J<|qz 3 (.dat 9 [[k.1,k.2.1,k.2.2].flatMap Jl]) J<|qz 4 (.dat 9 [[G a.1.X,G a.1.Y,G a.1.Z,G a.2.1.X,G a.2.1.Y,G a.2.1.Z,G a.2.2.X,G a.2.2.Y,G a.2.2.Z]]) J<|qa<|qh<|qc<|q0 J<|qa ?_
 obtain ⟨p,w,f⟩:=q9 f
 refine Qm (fun m=>m = p) (fun (m : List qi)=>⟨[(2,.ref 0 4 0 0),(3,.ref 1 4 0 0),(4,.ref 2 4 0 0),(5,.ref 3 9 0 0)],[(0,.dat 4 [[.int .u8 c.Turn,G c.At.X,G c.At.Y,G c.At.Z]]),(1,.dat 4 [[.int .u8 b.Turn,G b.At.X,G b.At.Y,G b.At.Z]]),(2,.dat 4 [[.int .u8 0,G 0,G 0,G 0]]),(3,.dat 9 [m.flatMap Jl])],4⟩) qf ?_ ?_
 ·refine Qf (q22 a) (fun (l : Int × List qi)=>⟨[(2,.ref 0 4 0 0),(3,.ref 1 4 0 0),(4,.ref 2 4 0 0),(5,.ref 3 9 0 0),(6,.ref 4 9 0 0),(14,q6 l.1)],[(0,.dat 4 [[.int .u8 c.Turn,G c.At.X,G c.At.Y,G c.At.Z]]),(1,.dat 4 [[.int .u8 b.Turn,G b.At.X,G b.At.Y,G b.At.Z]]),(2,.dat 4 [[.int .u8 0,G 0,G 0,G 0]]),(3,.dat 9 [l.2.flatMap Jl]),(4,.dat 9 [[G a.1.X,G a.1.Y,G a.1.Z,G a.2.1.X,G a.2.1.Y,G a.2.1.Z,G a.2.2.X,G a.2.2.Y,G a.2.2.Z]])],5⟩) (0,[k.1,k.2.1,k.2.2]) p w (wkA [(0,0),(1,1),(2,2),(3,3),(4,4)] [] []) ?_
  intro l ab g
  unfold q22 at g
  refine qc<|O (.d (.bool (decide (l.1 < 3)))) J<|qa<|qh ?_
  refine qp J g (fun _ g=>?_) (fun _ g=>?_)
  ·refine qo<|qh<|Q1<|qc<|q0 J<|qb J<|qa<|Qd [Qh 3,q8,q8,qr 3,q8,q8,qr 4,q8] qj<|q0 J<|O (.d (.agg [G a.1.X,G a.1.Y,G a.1.Z,G a.2.1.X,G a.2.1.Y,G a.2.1.Z,G a.2.2.X,G a.2.2.Y,G a.2.2.Z])) J<|q0 J ?_
   obtain ⟨n,q,g⟩:=q9 g
   refine Z4 q J J J J J<|q4x (enc:=Jl) (.d (.agg [G n.X,G n.Y,G n.Z])) q (fun _=>rfl) J J J J J J ?_
   obtain ⟨s,x,g⟩:=q9 g
   refine Q5 (qii a n s x) J ?_
   obtain ⟨ac,t,g⟩:=q9 g
   refine Z4 t J J J J J<|qb4 (enc:=Jl) s t (fun _=>rfl) J J J J J J J J<|qx<|Qj<|qy<|O (.d (G (w64 (l.1 + 1)))) J<|q0 J<|qx ?_
   exact ⟨_,(Option.some.inj g).symm,wkA [(0,0),(1,1),(2,2),(3,3),(4,4)] [] []⟩
  refine Qb ?_
  refine ⟨_,(Option.some.inj g).symm,fun hm=>?_⟩
  subst hm
  exact ⟨_,J,wkA [(0,0),(1,1),(2,2),(3,3)] [] []⟩
 intro m hb
 subst hb
 refine qh<|Qd [Qh 2,q8,q8,qr 0,q8,qr 1,q8,qr 3] qj ?_
 obtain ⟨h,y,f⟩:=q9 f
 refine qee (enc:=Jl) (.d (.agg [G h.1.X,G h.1.Y,G h.1.Z,G h.2.1.X,G h.2.1.Y,G h.2.1.Z,G h.2.2.X,G h.2.2.Y,G h.2.2.Z])) (qno y) J J J J J J ?_
 obtain ⟨o,z,f⟩:=q9 f
 refine Q5 (qq8 h o z) J<|O (.d (.agg [.int .u8 b.Turn,G b.At.X,G b.At.Y,G b.At.Z])) J<|O (.ref 0 4 0 1) J<|O (.d (.agg [G c.At.X,G c.At.Y,G c.At.Z])) J ?_
 obtain ⟨j,aa,f⟩:=q9 f
 refine Q5 (qih b c.At j aa) J<|O (.d (.agg [.int .u8 o,G j.X,G j.Y,G j.Z])) J<|qz 2 (.dat 4 [[.int .u8 o,G j.X,G j.Y,G j.Z]]) J<|qv ?_
 obtain rfl:=qe f
 exact Q4 (.d (.agg [.int .u8 o,G j.X,G j.Y,G j.Z])) J
theorem qq6 (c : Qq) (f : Qq) (r : Qq × Int) (a : q7k c f = some r) : Pure Tryz.prog tab 109 [.agg [.int .u8 c.Turn,G c.At.X,G c.At.Y,G c.At.Z],.agg [.int .u8 f.Turn,G f.At.X,G f.At.Y,G f.At.Z]] (.tup [.agg [.int .u8 r.1.Turn,G r.1.At.X,G r.1.At.Y,G r.1.At.Z],G r.2]):=by
 unfold q7k at a
 refine Qi Tryz.func109 J qj qj J<|qc<|Ql (.ref 0 4 0 0) (.dat 4 [[.int .u8 c.Turn,G c.At.X,G c.At.Y,G c.At.Z]]) J<|Ql (.ref 1 4 0 0) (.dat 4 [[.int .u8 f.Turn,G f.At.X,G f.At.Y,G f.At.Z]]) J<|Qe J J<|qb J<|qa<|qh<|qc<|O (.d (.agg [.int .u8 c.Turn,G c.At.X,G c.At.Y,G c.At.Z])) J ?_
 obtain ⟨g,k,a⟩:=q9 a
 refine Q5 (q7i c g k) J<|qb J<|qs<|q0 J<|O (qg (g != 0)) J<|qa ?_
 refine qp J a (fun _ a=>?_) (fun _ a=>?_)
 ·refine qc<|O (.d (.agg [.int .u8 0,G 0,G 0,G 0])) J<|q0 J<|qz 2 (.dat 4 [[.int .u8 0,G 0,G 0,G 0]]) J<|qb J<|qv ?_
  obtain rfl:=qe a
  exact Q4 (.d (.tup [.agg [.int .u8 0,G 0,G 0,G 0],G g])) J
 refine qo<|qh<|qc<|O (.d (.agg [.int .u8 f.Turn,G f.At.X,G f.At.Y,G f.At.Z])) J ?_
 obtain ⟨h,l,a⟩:=q9 a
 refine Q5 (q7i f h l) J<|qb J<|qs<|q0 J<|O (qg (h != 0)) J<|qa ?_
 refine qp J a (fun _ a=>?_) (fun _ a=>?_)
 ·refine qc<|O (.d (.agg [.int .u8 0,G 0,G 0,G 0])) J<|q0 J<|qz 2 (.dat 4 [[.int .u8 0,G 0,G 0,G 0]]) J<|qb J<|qv ?_
  obtain rfl:=qe a
  exact Q4 (.d (.tup [.agg [.int .u8 0,G 0,G 0,G 0],G h])) J
 refine qo<|qc<|O (.d (.agg [.int .u8 c.Turn,G c.At.X,G c.At.Y,G c.At.Z])) J<|O (.d (.agg [.int .u8 f.Turn,G f.At.X,G f.At.Y,G f.At.Z])) J ?_
 obtain ⟨b,m,a⟩:=q9 a
 refine Q5 (qq9 c f b m) J<|Qe J J<|qz 3 (.dat 4 [[.int .u8 b.Turn,G b.At.X,G b.At.Y,G b.At.Z]]) J<|qa<|qh<|qc<|O (.d (.agg [.int .u8 b.Turn,G b.At.X,G b.At.Y,G b.At.Z])) J ?_
 obtain ⟨j,n,a⟩:=q9 a
 refine Q5 (q7i b j n) J<|O (qg (j != 0)) J<|qa ?_
 refine qp J a (fun _ a=>?_) (fun _ a=>?_)
 ·refine qc<|O (.d (.agg [.int .u8 0,G 0,G 0,G 0])) J<|qz 2 (.dat 4 [[.int .u8 0,G 0,G 0,G 0]]) J<|qb J<|qv ?_
  obtain rfl:=qe a
  exact Q4 (.d (.tup [.agg [.int .u8 0,G 0,G 0,G 0],G 16])) J
 refine qo<|qc<|O (.d (.agg [.int .u8 b.Turn,G b.At.X,G b.At.Y,G b.At.Z])) J<|qz 2 (.dat 4 [[.int .u8 b.Turn,G b.At.X,G b.At.Y,G b.At.Z]]) J<|qb J<|qv ?_
 obtain rfl:=qe a
 exact Q4 (.d (.tup [.agg [.int .u8 b.Turn,G b.At.X,G b.At.Y,G b.At.Z],G 0])) J
theorem qid (a : Q2) (c : qi) (f : qi) (h : Int) (r : Q2 × Int) (g : Zz a c f h = some r) : Pure Tryz.prog tab 61 [.agg [.int .u8 a.Frame.Turn,G a.Frame.At.X,G a.Frame.At.Y,G a.Frame.At.Z,G a.Size.X,G a.Size.Y,G a.Size.Z],.agg [G c.X,G c.Y,G c.Z],.agg [G f.X,G f.Y,G f.Z],.int .u8 h] (.tup [.agg [.int .u8 r.1.Frame.Turn,G r.1.Frame.At.X,G r.1.Frame.At.Y,G r.1.Frame.At.Z,G r.1.Size.X,G r.1.Size.Y,G r.1.Size.Z],G r.2]):=by
 unfold Zz at g
 refine Qi Tryz.func61 J qj qj J<|qc<|Ql (.ref 0 7 0 0) (.dat 7 [[.int .u8 a.Frame.Turn,G a.Frame.At.X,G a.Frame.At.Y,G a.Frame.At.Z,G a.Size.X,G a.Size.Y,G a.Size.Z]]) J<|Ql (.ref 1 3 0 0) (.dat 3 [[G c.X,G c.Y,G c.Z]]) J<|Ql (.ref 2 3 0 0) (.dat 3 [[G f.X,G f.Y,G f.Z]]) J<|Qe J J<|qb J<|qa<|qh<|qc<|O (.d (.agg [.int .u8 a.Frame.Turn,G a.Frame.At.X,G a.Frame.At.Y,G a.Frame.At.Z,G a.Size.X,G a.Size.Y,G a.Size.Z])) J ?_
 obtain ⟨k,s,g⟩:=q9 g
 refine Q5 (qie a k s) J<|qb J<|qs<|q0 J<|O (qg (k != 0)) J<|qa ?_
 refine qp J g (fun _ g=>?_) (fun _ g=>?_)
 ·refine qc<|O (.d (.agg [.int .u8 0,G 0,G 0,G 0,G 0,G 0,G 0])) J<|q0 J<|qz 3 (.dat 7 [[.int .u8 0,G 0,G 0,G 0,G 0,G 0,G 0]]) J<|qb J<|qv ?_
  obtain rfl:=qe g
  exact Q4 (.d (.tup [.agg [.int .u8 0,G 0,G 0,G 0,G 0,G 0,G 0],G k])) J
 refine qo<|qc<|q0 J<|O (.d (.agg [G c.X,G c.Y,G c.Z])) J<|O (.d (.agg [.int .u8 h,G c.X,G c.Y,G c.Z])) J<|Qe J J<|qz 4 (.dat 4 [[.int .u8 h,G c.X,G c.Y,G c.Z]]) J<|qa<|qh<|qc<|O (.d (.agg [.int .u8 h,G c.X,G c.Y,G c.Z])) J ?_
 obtain ⟨m,t,g⟩:=q9 g
 refine Q5 (q7i ({Turn:=h,At:=c} : Qq) m t) J<|O (qg (m != 0)) J ?_
 obtain ⟨u,j,g⟩:=q9 g
 refine Q9 5 (fun A st=>∃ (n o p q : V),st = A [(29,qg u),(28,q),(27,p),(26,o),(25,n)]) ?_ ?_
 ·refine Q8 J J j (fun j=>?_) (fun j=>?_)
  ·refine qd J<|qd J<|qd J<|O (qg true) J<|qa ?_
   obtain rfl:=qe j
   exact ⟨_,_,_,_,J⟩
  refine O (.d (.agg [G f.X,G f.Y,G f.Z])) J ?_
  obtain ⟨l,v,j⟩:=q9 j
  refine Q5 (qao f 0 l v) J<|O (qg (!l)) J<|O (qg (!l)) J<|qa ?_
  obtain rfl:=qe j
  exact ⟨_,_,_,_,J⟩
 rintro _ ⟨n,o,p,q,rfl⟩
 refine qa ?_
 refine qp J g (fun _ g=>?_) (fun _ g=>?_)
 ·refine qc<|O (.d (.agg [.int .u8 0,G 0,G 0,G 0,G 0,G 0,G 0])) J<|qz 3 (.dat 7 [[.int .u8 0,G 0,G 0,G 0,G 0,G 0,G 0]]) J<|qb J<|qv ?_
  obtain rfl:=qe g
  exact Q4 (.d (.tup [.agg [.int .u8 0,G 0,G 0,G 0,G 0,G 0,G 0],G 2])) J
 refine qo<|qc<|O (.d (.agg [.int .u8 h,G c.X,G c.Y,G c.Z])) J<|O (.ref 0 7 0 0) J<|O (.d (.agg [.int .u8 a.Frame.Turn,G a.Frame.At.X,G a.Frame.At.Y,G a.Frame.At.Z])) J ?_
 obtain ⟨b,w,g⟩:=q9 g
 refine Q5 (qq6 ({Turn:=h,At:=c} : Qq) a.Frame b w) J<|q0 J<|O (.d (.agg [.int .u8 b.1.Turn,G b.1.At.X,G b.1.At.Y,G b.1.At.Z])) J<|O (q6 b.2) J<|qz 4 (.dat 4 [[.int .u8 b.1.Turn,G b.1.At.X,G b.1.At.Y,G b.1.At.Z]]) J<|qb J<|qa<|qh<|qc<|q0 J<|O (qg (b.2 != 0)) J<|qa ?_
 refine qp J g (fun _ g=>?_) (fun _ g=>?_)
 ·refine qc<|O (.d (.agg [.int .u8 0,G 0,G 0,G 0,G 0,G 0,G 0])) J<|q0 J<|qz 3 (.dat 7 [[.int .u8 0,G 0,G 0,G 0,G 0,G 0,G 0]]) J<|qb J<|qv ?_
  obtain rfl:=qe g
  exact Q4 (.d (.tup [.agg [.int .u8 0,G 0,G 0,G 0,G 0,G 0,G 0],G b.2])) J
 refine qo<|qc<|O (.d (.agg [.int .u8 b.1.Turn,G b.1.At.X,G b.1.At.Y,G b.1.At.Z])) J<|O (.d (.agg [G f.X,G f.Y,G f.Z])) J<|O (.d (.agg [.int .u8 b.1.Turn,G b.1.At.X,G b.1.At.Y,G b.1.At.Z,G f.X,G f.Y,G f.Z])) J<|qz 3 (.dat 7 [[.int .u8 b.1.Turn,G b.1.At.X,G b.1.At.Y,G b.1.At.Z,G f.X,G f.Y,G f.Z]]) J<|qb J<|qv ?_
 obtain rfl:=qe g
 exact Q4 (.d (.tup [.agg [.int .u8 b.1.Turn,G b.1.At.X,G b.1.At.Y,G b.1.At.Z,G f.X,G f.Y,G f.Z],G 0])) J
theorem qks (a : Q2) (r : Int) (c : q56 a = some r) : Pure Tryz.prog tab 58 [.agg [.int .u8 a.Frame.Turn,G a.Frame.At.X,G a.Frame.At.Y,G a.Frame.At.Z,G a.Size.X,G a.Size.Y,G a.Size.Z]] (G r):=by
 unfold q56 at c
 refine Qi Tryz.func58 J qj qj J<|qc<|Ql (.ref 0 7 0 0) (.dat 7 [[.int .u8 a.Frame.Turn,G a.Frame.At.X,G a.Frame.At.Y,G a.Frame.At.Z,G a.Size.X,G a.Size.Y,G a.Size.Z]]) J<|qb J<|qa<|qh<|qc<|O (.d (.agg [.int .u8 a.Frame.Turn,G a.Frame.At.X,G a.Frame.At.Y,G a.Frame.At.Z,G a.Size.X,G a.Size.Y,G a.Size.Z])) J<|O (.d (.agg [G 0,G 0,G 0])) J<|O (.d (.agg [G 0,G 0,G 0])) J ?_
 obtain ⟨b,f,c⟩:=q9 c
 refine Q5 (qid a ({X:=0,Y:=0,Z:=0} : qi) ({X:=0,Y:=0,Z:=0} : qi) 0 b f) J<|q0 J<|O (.d (.agg [.int .u8 b.1.Frame.Turn,G b.1.Frame.At.X,G b.1.Frame.At.Y,G b.1.Frame.At.Z,G b.1.Size.X,G b.1.Size.Y,G b.1.Size.Z])) J<|O (q6 b.2) J<|Qe J J<|qz 1 (.dat 7 [[.int .u8 b.1.Frame.Turn,G b.1.Frame.At.X,G b.1.Frame.At.Y,G b.1.Frame.At.Z,G b.1.Size.X,G b.1.Size.Y,G b.1.Size.Z]]) J<|qb J<|qs<|q0 J<|O (qg (b.2 != 0)) J<|qa ?_
 refine qp J c (fun _ c=>?_) (fun _ c=>?_)
 ·refine qc<|qb J<|qv ?_
  obtain rfl:=qe c
  exact Q4 (q6 8) J
 refine qo<|qc<|qb J<|qv ?_
 obtain rfl:=qe c
 exact Q4 (q6 0) J
theorem qtl (a : qi) (g : Int) (r : Int × qi × qi) (f : J6 a g = some r) : Pure Tryz.prog tab 60 [.agg [G a.X,G a.Y,G a.Z],G g] (.tup [.int .u8 r.1,.agg [G r.2.1.X,G r.2.1.Y,G r.2.1.Z],.agg [G r.2.2.X,G r.2.2.Y,G r.2.2.Z]]):=by
 unfold J6 at f
 refine Qi Tryz.func60 J qj qj J<|qc<|Ql (.ref 0 3 0 0) (.dat 3 [[G a.X,G a.Y,G a.Z]]) J<|qb J<|Qe J J<|Qe J J<|qa<|qh<|Qd [q8,q8,q8,qr 0,q8,qr 0,q8,qr 0,q8] qj<|O (.ref 0 3 0 0) J<|O (q6 a.X) J<|O (.ref 0 3 0 1) J<|O (q6 a.Y) J<|O (.ref 0 3 0 2) J<|O (q6 a.Z) J<|qb J<|qb J<|qb J<|qs<|q0 J<|O (.d (.agg [G a.X,G 0,G 0])) J<|q0 J<|q0 J<|O (.d (.agg [G a.Y,G a.Z,G 0])) J<|O (.d (.agg [.int .u8 10,G a.X,G 0,G 0,G a.Y,G a.Z,G 0])) J<|q0 J<|O (.d (.agg [G 0,G 0,G a.Z])) J<|q0 J<|q0 J<|O (.d (.agg [G a.Y,G a.Z,G 0])) J<|O (.d (.agg [.int .u8 11,G 0,G 0,G a.Z,G a.Y,G a.Z,G 0])) J<|q0 J<|q0 J<|O (.d (.agg [G 0,G a.Y,G a.Z])) J<|q0 J<|q0 J<|O (.d (.agg [G a.X,G a.Z,G 0])) J<|O (.d (.agg [.int .u8 3,G 0,G a.Y,G a.Z,G a.X,G a.Z,G 0])) J<|O (.d (.agg [G 0,G 0,G 0])) J<|q0 J ?_
 refine q0 J<|O (.d (.agg [G a.X,G a.Z,G 0])) J<|O (.d (.agg [.int .u8 2,G 0,G 0,G 0,G a.X,G a.Z,G 0])) J<|q0 J<|O (.d (.agg [G 0,G 0,G a.Z])) J<|q0 J<|q0 J<|O (.d (.agg [G a.X,G a.Y,G 0])) J<|O (.d (.agg [.int .u8 0,G 0,G 0,G a.Z,G a.X,G a.Y,G 0])) J<|q0 J<|O (.d (.agg [G 0,G a.Y,G 0])) J<|q0 J<|q0 J<|O (.d (.agg [G a.X,G a.Y,G 0])) J<|O (.d (.agg [.int .u8 1,G 0,G a.Y,G 0,G a.X,G a.Y,G 0])) J<|O (.d (.agg [.int .u8 10,G a.X,G 0,G 0,G a.Y,G a.Z,G 0,.int .u8 11,G 0,G 0,G a.Z,G a.Y,G a.Z,G 0,.int .u8 3,G 0,G a.Y,G a.Z,G a.X,G a.Z,G 0,.int .u8 2,G 0,G 0,G 0,G a.X,G a.Z,G 0,.int .u8 0,G 0,G 0,G a.Z,G a.X,G a.Y,G 0,.int .u8 1,G 0,G a.Y,G 0,G a.X,G a.Y,G 0])) J<|Qe J J<|qz 3 (.dat 42 [[({t_:=10,at_:=({X:=a.X,Y:=0,Z:=0} : qi),flat_:=({X:=a.Y,Y:=a.Z,Z:=0} : qi)} : Kw),({t_:=11,at_:=({X:=0,Y:=0,Z:=a.Z} : qi),flat_:=({X:=a.Y,Y:=a.Z,Z:=0} : qi)} : Kw),({t_:=3,at_:=({X:=0,Y:=a.Y,Z:=a.Z} : qi),flat_:=({X:=a.X,Y:=a.Z,Z:=0} : qi)} : Kw),({t_:=2,at_:=({X:=0,Y:=0,Z:=0} : qi),flat_:=({X:=a.X,Y:=a.Z,Z:=0} : qi)} : Kw),({t_:=0,at_:=({X:=0,Y:=0,Z:=a.Z} : qi),flat_:=({X:=a.X,Y:=a.Y,Z:=0} : qi)} : Kw),({t_:=1,at_:=({X:=0,Y:=a.Y,Z:=0} : qi),flat_:=({X:=a.X,Y:=a.Y,Z:=0} : qi)} : Kw)].flatMap qab]) J<|qa<|qh<|Qd [Qh 2,Qh 1,q8,qr 3,q8,q8,q8,qr 3,q8,q8,q8,qr 3,q8,q8,q8] qj<|q0 J ?_
 obtain ⟨h,j,f⟩:=q9 f
 refine Z4 j J J J J J<|O (.ref 3 42 0 (g.toNat * 7 + 0)) J<|q3h (enc:=qab) (.d (.int .u8 h.t_)) j (fun _=>rfl) J J J J J J<|q0 J ?_
 obtain ⟨b,k,f⟩:=q9 f
 refine Z4 k J J J J J<|O (.ref 3 42 0 (g.toNat * 7 + 1)) J<|q3h (enc:=qab) (.d (.agg [G b.at_.X,G b.at_.Y,G b.at_.Z])) k (fun _=>rfl) J J J J J J<|q0 J ?_
 obtain ⟨c,l,f⟩:=q9 f
 refine Z4 l J J J J J<|O (.ref 3 42 0 (g.toNat * 7 + 4)) J<|q3h (enc:=qab) (.d (.agg [G c.flat_.X,G c.flat_.Y,G c.flat_.Z])) l (fun _=>rfl) J J J J J J<|qb J<|qz 1 (.dat 3 [[G b.at_.X,G b.at_.Y,G b.at_.Z]]) J<|qz 2 (.dat 3 [[G c.flat_.X,G c.flat_.Y,G c.flat_.Z]]) J<|qv ?_
 obtain rfl:=qe f
 exact Q4 (.d (.tup [.int .u8 h.t_,.agg [G b.at_.X,G b.at_.Y,G b.at_.Z],.agg [G c.flat_.X,G c.flat_.Y,G c.flat_.Z]])) J
theorem qtf (n : Int) (j : Int) (k : Int) (l : Int) (m : Int) (f : Int) (g : Int) (h : Int) (o : List Q2) (r : Int × Int × Int × Int × Int × Int × Int × Int × List Q2) (c : q83  n j k l m f g h o = some r) : K0 Tryz.prog tab 59 [q6 n,.ref 0 7 0 0,.ref 1 42 0 0] [(0,.dat 7 [[.int .u8 j,G k,G l,G m,G f,G g,G h]]),(1,.dat 42 [o.flatMap Zi])] 2 (q6 r.1) [(0,.dat 7 [[.int .u8 r.2.1,G r.2.2.1,G r.2.2.2.1,G r.2.2.2.2.1,G r.2.2.2.2.2.1,G r.2.2.2.2.2.2.1,G r.2.2.2.2.2.2.2.1]]),(1,.dat 42 [r.2.2.2.2.2.2.2.2.flatMap Zi])] 2:=by
 unfold q83 at c
 refine Ka Tryz.func59 J qj qj J<|qc<|qb J<|qs<|O (.ref 0 7 0 4) J<|O (.d (.agg [G f,G g,G h])) J<|q0 J ?_
 obtain ⟨a,q,c⟩:=q9 c
 refine Q5 (qtl ({X:=f,Y:=g,Z:=h} : qi) n a q) J<|q0 J<|O (.d (.int .u8 a.1)) J<|O (.d (.agg [G a.2.1.X,G a.2.1.Y,G a.2.1.Z])) J<|O (.d (.agg [G a.2.2.X,G a.2.2.Y,G a.2.2.Z])) J<|Qe J J<|Qe J J<|qb J<|qz 2 (.dat 3 [[G a.2.1.X,G a.2.1.Y,G a.2.1.Z]]) J<|qz 3 (.dat 3 [[G a.2.2.X,G a.2.2.Y,G a.2.2.Z]]) J<|qs<|q0 J<|O (.d (.agg [.int .u8 j,G k,G l,G m,G f,G g,G h])) J<|O (.d (.agg [G a.2.1.X,G a.2.1.Y,G a.2.1.Z])) J<|O (.d (.agg [G a.2.2.X,G a.2.2.Y,G a.2.2.Z])) J<|q0 J ?_
 obtain ⟨b,s,c⟩:=q9 c
 refine Q5 (qid ({Frame:=({Turn:=j,At:=({X:=k,Y:=l,Z:=m} : qi)} : Qq),Size:=({X:=f,Y:=g,Z:=h} : qi)} : Q2) a.2.1 a.2.2 a.1 b s) J<|q0 J<|O (.d (.agg [.int .u8 b.1.Frame.Turn,G b.1.Frame.At.X,G b.1.Frame.At.Y,G b.1.Frame.At.Z,G b.1.Size.X,G b.1.Size.Y,G b.1.Size.Z])) J<|O (q6 b.2) J ?_
 obtain ⟨t,p,c⟩:=q9 c
 refine Z4 p J J J J J<|qb4 (enc:=Zi) b.1 p (fun _=>rfl) J J J J J J J J<|qb J<|qs<|q0 J<|qb J<|qv ?_
 obtain rfl:=qe c
 exact ⟨.inr J,_,J,wkA [] [] []⟩
theorem qkr (b : Q2) (r : (Q2 × Q2 × Q2 × Q2 × Q2 × Q2) × Int) (f : q2j b = some r) : Pure Tryz.prog tab 15 [.agg [.int .u8 b.Frame.Turn,G b.Frame.At.X,G b.Frame.At.Y,G b.Frame.At.Z,G b.Size.X,G b.Size.Y,G b.Size.Z]] (.tup [.agg [.int .u8 r.1.1.Frame.Turn,G r.1.1.Frame.At.X,G r.1.1.Frame.At.Y,G r.1.1.Frame.At.Z,G r.1.1.Size.X,G r.1.1.Size.Y,G r.1.1.Size.Z,.int .u8 r.1.2.1.Frame.Turn,G r.1.2.1.Frame.At.X,G r.1.2.1.Frame.At.Y,G r.1.2.1.Frame.At.Z,G r.1.2.1.Size.X,G r.1.2.1.Size.Y,G r.1.2.1.Size.Z,.int .u8 r.1.2.2.1.Frame.Turn,G r.1.2.2.1.Frame.At.X,G r.1.2.2.1.Frame.At.Y,G r.1.2.2.1.Frame.At.Z,G r.1.2.2.1.Size.X,G r.1.2.2.1.Size.Y,G r.1.2.2.1.Size.Z,.int .u8 r.1.2.2.2.1.Frame.Turn,G r.1.2.2.2.1.Frame.At.X,G r.1.2.2.2.1.Frame.At.Y,G r.1.2.2.2.1.Frame.At.Z,G r.1.2.2.2.1.Size.X,G r.1.2.2.2.1.Size.Y,G r.1.2.2.2.1.Size.Z,.int .u8 r.1.2.2.2.2.1.Frame.Turn,G r.1.2.2.2.2.1.Frame.At.X,G r.1.2.2.2.2.1.Frame.At.Y,G r.1.2.2.2.2.1.Frame.At.Z,G r.1.2.2.2.2.1.Size.X,G r.1.2.2.2.2.1.Size.Y,G r.1.2.2.2.2.1.Size.Z,.int .u8 r.1.2.2.2.2.2.Frame.Turn,G r.1.2.2.2.2.2.Frame.At.X,G r.1.2.2.2.2.2.Frame.At.Y,G r.1.2.2.2.2.2.Frame.At.Z,G r.1.2.2.2.2.2.Size.X,G r.1.2.2.2.2.2.Size.Y,G r.1.2.2.2.2.2.Size.Z],G r.2]):=by
 unfold q2j at f
 refine Qi Tryz.func15 J qj qj J<|qc<|Ql (.ref 0 7 0 0) (.dat 7 [[.int .u8 b.Frame.Turn,G b.Frame.At.X,G b.Frame.At.Y,G b.Frame.At.Z,G b.Size.X,G b.Size.Y,G b.Size.Z]]) J<|Qe J J<|qb J<|qa<|qh<|qc<|O (.d (.agg [.int .u8 b.Frame.Turn,G b.Frame.At.X,G b.Frame.At.Y,G b.Frame.At.Z,G b.Size.X,G b.Size.Y,G b.Size.Z])) J ?_
 obtain ⟨k,m,f⟩:=q9 f
 refine Q5 (qks b k m) J<|qb J<|qs<|q0 J<|O (qg (k != 0)) J<|qa ?_
 refine qp J f (fun _ f=>?_) (fun _ f=>?_)
 ·refine qc<|O (.d (.agg [.int .u8 0,G 0,G 0,G 0,G 0,G 0,G 0,.int .u8 0,G 0,G 0,G 0,G 0,G 0,G 0,.int .u8 0,G 0,G 0,G 0,G 0,G 0,G 0,.int .u8 0,G 0,G 0,G 0,G 0,G 0,G 0,.int .u8 0,G 0,G 0,G 0,G 0,G 0,G 0,.int .u8 0,G 0,G 0,G 0,G 0,G 0,G 0])) J<|q0 J<|qz 1 (.dat 42 [[.int .u8 0,G 0,G 0,G 0,G 0,G 0,G 0,.int .u8 0,G 0,G 0,G 0,G 0,G 0,G 0,.int .u8 0,G 0,G 0,G 0,G 0,G 0,G 0,.int .u8 0,G 0,G 0,G 0,G 0,G 0,G 0,.int .u8 0,G 0,G 0,G 0,G 0,G 0,G 0,.int .u8 0,G 0,G 0,G 0,G 0,G 0,G 0]]) J<|qb J<|qv ?_
  obtain rfl:=qe f
  exact Q4 (.d (.tup [.agg [.int .u8 0,G 0,G 0,G 0,G 0,G 0,G 0,.int .u8 0,G 0,G 0,G 0,G 0,G 0,G 0,.int .u8 0,G 0,G 0,G 0,G 0,G 0,G 0,.int .u8 0,G 0,G 0,G 0,G 0,G 0,G 0,.int .u8 0,G 0,G 0,G 0,G 0,G 0,G 0,.int .u8 0,G 0,G 0,G 0,G 0,G 0,G 0],G k])) J
 refine qo<|qc<|Qe J J<|qs<|O (.fn 59 [.ref 0 7 0 0,.ref 2 42 0 0]) J<|qb J<|qa<|qh<|qc<|q0 J<|qa ?_
 obtain ⟨l,n,f⟩:=q9 f
 refine Qm (fun j=>.inl j = l) (fun (j : List Q2)=>⟨[(2,.ref 0 42 0 0),(5,.ref 1 42 0 0)],[(0,.dat 42 [[.int .u8 0,G 0,G 0,G 0,G 0,G 0,G 0,.int .u8 0,G 0,G 0,G 0,G 0,G 0,G 0,.int .u8 0,G 0,G 0,G 0,G 0,G 0,G 0,.int .u8 0,G 0,G 0,G 0,G 0,G 0,G 0,.int .u8 0,G 0,G 0,G 0,G 0,G 0,G 0,.int .u8 0,G 0,G 0,G 0,G 0,G 0,G 0]]),(1,.dat 42 [j.flatMap Zi])],2⟩) qf ?_ ?_
 ·refine Qf (U5) (fun (c : Int × List Q2 × Int × Int × Int × Int × Int × Int × Int)=>⟨[(2,.ref 0 42 0 0),(5,.ref 1 42 0 0),(6,.fn 59 [.ref 2 7 0 0,.ref 1 42 0 0]),(16,q6 c.1)],[(0,.dat 42 [[.int .u8 0,G 0,G 0,G 0,G 0,G 0,G 0,.int .u8 0,G 0,G 0,G 0,G 0,G 0,G 0,.int .u8 0,G 0,G 0,G 0,G 0,G 0,G 0,.int .u8 0,G 0,G 0,G 0,G 0,G 0,G 0,.int .u8 0,G 0,G 0,G 0,G 0,G 0,G 0,.int .u8 0,G 0,G 0,G 0,G 0,G 0,G 0]]),(1,.dat 42 [c.2.1.flatMap Zi]),(2,.dat 7 [[.int .u8 c.2.2.1,G c.2.2.2.1,G c.2.2.2.2.1,G c.2.2.2.2.2.1,G c.2.2.2.2.2.2.1,G c.2.2.2.2.2.2.2.1,G c.2.2.2.2.2.2.2.2]])],3⟩) (0,[({Frame:=({Turn:=0,At:=({X:=0,Y:=0,Z:=0} : qi)} : Qq),Size:=({X:=0,Y:=0,Z:=0} : qi)} : Q2),({Frame:=({Turn:=0,At:=({X:=0,Y:=0,Z:=0} : qi)} : Qq),Size:=({X:=0,Y:=0,Z:=0} : qi)} : Q2),({Frame:=({Turn:=0,At:=({X:=0,Y:=0,Z:=0} : qi)} : Qq),Size:=({X:=0,Y:=0,Z:=0} : qi)} : Q2),({Frame:=({Turn:=0,At:=({X:=0,Y:=0,Z:=0} : qi)} : Qq),Size:=({X:=0,Y:=0,Z:=0} : qi)} : Q2),({Frame:=({Turn:=0,At:=({X:=0,Y:=0,Z:=0} : qi)} : Qq),Size:=({X:=0,Y:=0,Z:=0} : qi)} : Q2),({Frame:=({Turn:=0,At:=({X:=0,Y:=0,Z:=0} : qi)} : Qq),Size:=({X:=0,Y:=0,Z:=0} : qi)} : Q2)],b.Frame.Turn,b.Frame.At.X,b.Frame.At.Y,b.Frame.At.Z,b.Size.X,b.Size.Y,b.Size.Z) l n (wkA [(0,1),(1,2),(2,0)] [] []) ?_
  intro c q g
  unfold U5 at g
  refine qc<|O (.d (.bool (decide (c.1 < 6)))) J<|qa<|qh ?_
  refine qp J g (fun _ g=>?_) (fun _ g=>?_)
  ·refine qo<|qh<|Q1<|qc<|q0 J<|qb J<|qs<|q0 J<|q0 J ?_
   obtain ⟨h,o,g⟩:=q9 g
   refine K2 [(0,2),(1,1)] [(0,2),(1,1),(2,0)] [q6 c.1,.ref 2 7 0 0,.ref 1 42 0 0] (q6 h.1) 2 [(1,.dat 42 [h.2.2.2.2.2.2.2.2.flatMap Zi]),(2,.dat 7 [[.int .u8 h.2.1,G h.2.2.1,G h.2.2.2.1,G h.2.2.2.2.1,G h.2.2.2.2.2.1,G h.2.2.2.2.2.2.1,G h.2.2.2.2.2.2.2.1]]),(0,.dat 42 [[.int .u8 0,G 0,G 0,G 0,G 0,G 0,G 0,.int .u8 0,G 0,G 0,G 0,G 0,G 0,G 0,.int .u8 0,G 0,G 0,G 0,G 0,G 0,G 0,.int .u8 0,G 0,G 0,G 0,G 0,G 0,G 0,.int .u8 0,G 0,G 0,G 0,G 0,G 0,G 0,.int .u8 0,G 0,G 0,G 0,G 0,G 0,G 0]])] 3 (qtf c.1 c.2.2.1 c.2.2.2.1 c.2.2.2.2.1 c.2.2.2.2.2.1 c.2.2.2.2.2.2.1 c.2.2.2.2.2.2.2.1 c.2.2.2.2.2.2.2.2 c.2.1 h o)<|qb J<|qs<|q0 J<|O (qg (h.1 != 0)) J<|qa ?_
   refine qp J g (fun _ g=>?_) (fun _ g=>?_)
   ·refine qc<|O (.d (.agg [.int .u8 0,G 0,G 0,G 0,G 0,G 0,G 0,.int .u8 0,G 0,G 0,G 0,G 0,G 0,G 0,.int .u8 0,G 0,G 0,G 0,G 0,G 0,G 0,.int .u8 0,G 0,G 0,G 0,G 0,G 0,G 0,.int .u8 0,G 0,G 0,G 0,G 0,G 0,G 0,.int .u8 0,G 0,G 0,G 0,G 0,G 0,G 0])) J<|q0 J<|qz 0 (.dat 42 [[.int .u8 0,G 0,G 0,G 0,G 0,G 0,G 0,.int .u8 0,G 0,G 0,G 0,G 0,G 0,G 0,.int .u8 0,G 0,G 0,G 0,G 0,G 0,G 0,.int .u8 0,G 0,G 0,G 0,G 0,G 0,G 0,.int .u8 0,G 0,G 0,G 0,G 0,G 0,G 0,.int .u8 0,G 0,G 0,G 0,G 0,G 0,G 0]]) J<|qb J<|qv ?_
    refine ⟨_,(Option.some.inj g).symm,fun hm=>?_⟩
    subst hm
    obtain rfl:=qe f
    exact Q4 (.d (.tup [.agg [.int .u8 0,G 0,G 0,G 0,G 0,G 0,G 0,.int .u8 0,G 0,G 0,G 0,G 0,G 0,G 0,.int .u8 0,G 0,G 0,G 0,G 0,G 0,G 0,.int .u8 0,G 0,G 0,G 0,G 0,G 0,G 0,.int .u8 0,G 0,G 0,G 0,G 0,G 0,G 0,.int .u8 0,G 0,G 0,G 0,G 0,G 0,G 0],G h.1])) J
   refine qo<|Qc<|Qj<|qy<|O (.d (G (w64 (c.1 + 1)))) J<|q0 J<|qx ?_
   exact ⟨_,(Option.some.inj g).symm,wkA [(0,0),(1,1),(2,2)] [] []⟩
  refine Qb ?_
  refine ⟨_,(Option.some.inj g).symm,fun hm=>?_⟩
  subst hm
  exact ⟨_,J,wkA [(0,0),(1,1)] [] []⟩
 intro j hb
 subst hb
 refine qc ?_
 obtain ⟨a,p,f⟩:=q9 f
 refine qee (enc:=Zi) (.d (.agg [.int .u8 a.1.Frame.Turn,G a.1.Frame.At.X,G a.1.Frame.At.Y,G a.1.Frame.At.Z,G a.1.Size.X,G a.1.Size.Y,G a.1.Size.Z,.int .u8 a.2.1.Frame.Turn,G a.2.1.Frame.At.X,G a.2.1.Frame.At.Y,G a.2.1.Frame.At.Z,G a.2.1.Size.X,G a.2.1.Size.Y,G a.2.1.Size.Z,.int .u8 a.2.2.1.Frame.Turn,G a.2.2.1.Frame.At.X,G a.2.2.1.Frame.At.Y,G a.2.2.1.Frame.At.Z,G a.2.2.1.Size.X,G a.2.2.1.Size.Y,G a.2.2.1.Size.Z,.int .u8 a.2.2.2.1.Frame.Turn,G a.2.2.2.1.Frame.At.X,G a.2.2.2.1.Frame.At.Y,G a.2.2.2.1.Frame.At.Z,G a.2.2.2.1.Size.X,G a.2.2.2.1.Size.Y,G a.2.2.2.1.Size.Z,.int .u8 a.2.2.2.2.1.Frame.Turn,G a.2.2.2.2.1.Frame.At.X,G a.2.2.2.2.1.Frame.At.Y,G a.2.2.2.2.1.Frame.At.Z,G a.2.2.2.2.1.Size.X,G a.2.2.2.2.1.Size.Y,G a.2.2.2.2.1.Size.Z,.int .u8 a.2.2.2.2.2.Frame.Turn,G a.2.2.2.2.2.Frame.At.X,G a.2.2.2.2.2.Frame.At.Y,G a.2.2.2.2.2.Frame.At.Z,G a.2.2.2.2.2.Size.X,G a.2.2.2.2.2.Size.Y,G a.2.2.2.2.2.Size.Z])) (qnp p) J J J J J J<|qz 0 (.dat 42 [[.int .u8 a.1.Frame.Turn,G a.1.Frame.At.X,G a.1.Frame.At.Y,G a.1.Frame.At.Z,G a.1.Size.X,G a.1.Size.Y,G a.1.Size.Z,.int .u8 a.2.1.Frame.Turn,G a.2.1.Frame.At.X,G a.2.1.Frame.At.Y,G a.2.1.Frame.At.Z,G a.2.1.Size.X,G a.2.1.Size.Y,G a.2.1.Size.Z,.int .u8 a.2.2.1.Frame.Turn,G a.2.2.1.Frame.At.X,G a.2.2.1.Frame.At.Y,G a.2.2.1.Frame.At.Z,G a.2.2.1.Size.X,G a.2.2.1.Size.Y,G a.2.2.1.Size.Z,.int .u8 a.2.2.2.1.Frame.Turn,G a.2.2.2.1.Frame.At.X,G a.2.2.2.1.Frame.At.Y,G a.2.2.2.1.Frame.At.Z,G a.2.2.2.1.Size.X,G a.2.2.2.1.Size.Y,G a.2.2.2.1.Size.Z,.int .u8 a.2.2.2.2.1.Frame.Turn,G a.2.2.2.2.1.Frame.At.X,G a.2.2.2.2.1.Frame.At.Y,G a.2.2.2.2.1.Frame.At.Z,G a.2.2.2.2.1.Size.X,G a.2.2.2.2.1.Size.Y,G a.2.2.2.2.1.Size.Z,.int .u8 a.2.2.2.2.2.Frame.Turn,G a.2.2.2.2.2.Frame.At.X,G a.2.2.2.2.2.Frame.At.Y,G a.2.2.2.2.2.Frame.At.Z,G a.2.2.2.2.2.Size.X,G a.2.2.2.2.2.Size.Y,G a.2.2.2.2.2.Size.Z]]) J<|qb J<|qv ?_
 obtain rfl:=qe f
 exact Q4 (.d (.tup [.agg [.int .u8 a.1.Frame.Turn,G a.1.Frame.At.X,G a.1.Frame.At.Y,G a.1.Frame.At.Z,G a.1.Size.X,G a.1.Size.Y,G a.1.Size.Z,.int .u8 a.2.1.Frame.Turn,G a.2.1.Frame.At.X,G a.2.1.Frame.At.Y,G a.2.1.Frame.At.Z,G a.2.1.Size.X,G a.2.1.Size.Y,G a.2.1.Size.Z,.int .u8 a.2.2.1.Frame.Turn,G a.2.2.1.Frame.At.X,G a.2.2.1.Frame.At.Y,G a.2.2.1.Frame.At.Z,G a.2.2.1.Size.X,G a.2.2.1.Size.Y,G a.2.2.1.Size.Z,.int .u8 a.2.2.2.1.Frame.Turn,G a.2.2.2.1.Frame.At.X,G a.2.2.2.1.Frame.At.Y,G a.2.2.2.1.Frame.At.Z,G a.2.2.2.1.Size.X,G a.2.2.2.1.Size.Y,G a.2.2.2.1.Size.Z,.int .u8 a.2.2.2.2.1.Frame.Turn,G a.2.2.2.2.1.Frame.At.X,G a.2.2.2.2.1.Frame.At.Y,G a.2.2.2.2.1.Frame.At.Z,G a.2.2.2.2.1.Size.X,G a.2.2.2.2.1.Size.Y,G a.2.2.2.2.1.Size.Z,.int .u8 a.2.2.2.2.2.Frame.Turn,G a.2.2.2.2.2.Frame.At.X,G a.2.2.2.2.2.Frame.At.Y,G a.2.2.2.2.2.Frame.At.Z,G a.2.2.2.2.2.Size.X,G a.2.2.2.2.2.Size.Y,G a.2.2.2.2.2.Size.Z],G 0])) J
theorem qt6 (c : List qm) (f : List qm) (r : Bool) (b : qbb c f = some r) : Pure Tryz.prog tab 35 [.sl 2 (c.map Q3),.sl 2 (f.map Q3)] (.bool r):=by
 unfold qbb at b
 refine Qi Tryz.func35 J qj qj J<|qc<|qb J<|qa<|qh<|qc<|q0 J<|Qy J<|q0 J<|Qy J<|O (.d (.bool ((c.length : Int) != (f.length : Int)))) J<|qa ?_
 refine qp J b (fun _ b=>?_) (fun _ b=>?_)
 ·refine qc<|qb J<|qv ?_
  obtain rfl:=qe b
  exact Q4 (qg false) J
 refine qo<|qh<|qc<|qb J<|qa ?_
 obtain ⟨l,m,b⟩:=q9 b
 refine Qm (fun k=>.inl k = l) (fun (k : Unit)=>⟨[],[],0⟩) qf ?_ ?_
 ·refine Qf (qbc c f) (fun (g : Int)=>⟨[(0,.d (.sl 2 (c.map Q3))),(1,.d (.sl 2 (f.map Q3))),(5,q6 g)],[],0⟩) 0 l m (wkA [] [] []) ?_
  intro g p a
  unfold qbc at a
  refine qh<|qc<|q0 J<|q0 J<|Qy J<|O (.d (.bool (decide (g < (c.length : Int))))) J<|qa ?_
  refine qp J a (fun _ a=>?_) (fun _ a=>?_)
  ·refine qo<|qh<|Q1<|qh<|Qd [q8,q8,q8,q8,q8,q8,q8,q8,q8] qj<|q0 J<|q0 J ?_
   obtain ⟨h,n,a⟩:=q9 a
   refine Qz (enc:=Q3) n J<|O (.d (.agg [G h.Lo,G h.Hi])) J<|q0 J<|q0 J ?_
   obtain ⟨j,o,a⟩:=q9 a
   refine Qz (enc:=Q3) o J<|O (.d (.agg [G j.Lo,G j.Hi])) J<|O (.d (.bool (!((h.Lo == j.Lo) && ((h.Hi == j.Hi) && true))))) J<|qa ?_
   refine qp J a (fun _ a=>?_) (fun _ a=>?_)
   ·refine qc<|qb J<|qv ?_
    refine ⟨_,(Option.some.inj a).symm,fun hm=>?_⟩
    subst hm
    obtain rfl:=qe b
    exact Q4 (qg false) J
   refine qo<|Qc<|Qj<|qy<|q0 J<|O (.d (G (w64 (g + 1)))) J<|qb J<|qx ?_
   exact ⟨_,(Option.some.inj a).symm,wkA [] [] []⟩
  refine Qb ?_
  refine ⟨_,(Option.some.inj a).symm,fun hm=>?_⟩
  subst hm
  exact ⟨_,J,wkA [] [] []⟩
 intro k hb
 subst hb
 refine qc<|qb J<|qv ?_
 obtain rfl:=qe b
 exact Q4 (qg true) J
theorem qqz (r : Bool) (b : q7p = some r) : Pure Tryz.prog tab 19 [] (.bool r):=by
 unfold q7p at b
 refine Qi Tryz.func19 J qj qj J<|qc<|qb J<|qs ?_
 obtain ⟨w,h2,b⟩:=q9 b
 refine Q5 (qdy 0 0 2 3 w h2) J ?_
 obtain ⟨j,h4,b⟩:=q9 b
 refine Q5 (qth w 1 5 j h4) J<|q0 J<|O (.d (.sl 6 (j.1.map Q6))) J<|O (q6 j.2) J<|qb J<|qb J<|qs<|q0 J ?_
 obtain ⟨c,h6,b⟩:=q9 b
 refine Q5 (qlt j.1 c h6) J<|q0 J<|O (q6 c.1) J<|O (q6 c.2) J<|qb J<|qb J<|qs ?_
 obtain ⟨u,h8,b⟩:=q9 b
 refine Q5 (qdy 0 0 2 2 u h8) J<|O (.d (.agg [.sl 4 (u.map qu),G 1])) J ?_
 obtain ⟨v,br,b⟩:=q9 b
 refine Q5 (qdy 0 0 1 1 v br) J<|O (.d (.agg [.sl 4 (v.map qu),G 2])) J<|q3g (es:=2) ([({Region:=u,Height:=1} : K4),({Region:=v,Height:=2} : K4)].map Jk) J J J J J ?_
 obtain ⟨f,bs,b⟩:=q9 b
 refine Q5 (qtk [({Region:=u,Height:=1} : K4),({Region:=v,Height:=2} : K4)] 0 f bs) J<|q0 J<|O (.d (.sl 6 (f.1.map Q6))) J<|O (q6 f.2) J<|qb J<|qb J<|qs<|q0 J ?_
 obtain ⟨g,bt,b⟩:=q9 b
 refine Q5 (qlt f.1 g bt) J<|q0 J<|O (q6 g.1) J<|O (q6 g.2) J<|qb J<|qb J<|qs<|q0 J ?_
 obtain ⟨h,bu,b⟩:=q9 b
 refine Q5 (qte f.1 0 0 h bu) J<|q0 J<|O (.d (.sl 2 (h.1.map Q3))) J<|O (q6 h.2) J<|qb J<|qb J<|qs ?_
 obtain ⟨x,bv,b⟩:=q9 b
 refine Q5 (qr0 x bv) J ?_
 obtain ⟨a,bw,b⟩:=q9 b
 refine Q5 (qkr x a bw) J<|q0 J<|O (.d (.agg [.int .u8 a.1.1.Frame.Turn,G a.1.1.Frame.At.X,G a.1.1.Frame.At.Y,G a.1.1.Frame.At.Z,G a.1.1.Size.X,G a.1.1.Size.Y,G a.1.1.Size.Z,.int .u8 a.1.2.1.Frame.Turn,G a.1.2.1.Frame.At.X,G a.1.2.1.Frame.At.Y,G a.1.2.1.Frame.At.Z,G a.1.2.1.Size.X,G a.1.2.1.Size.Y,G a.1.2.1.Size.Z,.int .u8 a.1.2.2.1.Frame.Turn,G a.1.2.2.1.Frame.At.X,G a.1.2.2.1.Frame.At.Y,G a.1.2.2.1.Frame.At.Z,G a.1.2.2.1.Size.X,G a.1.2.2.1.Size.Y,G a.1.2.2.1.Size.Z,.int .u8 a.1.2.2.2.1.Frame.Turn,G a.1.2.2.2.1.Frame.At.X,G a.1.2.2.2.1.Frame.At.Y,G a.1.2.2.2.1.Frame.At.Z,G a.1.2.2.2.1.Size.X,G a.1.2.2.2.1.Size.Y,G a.1.2.2.2.1.Size.Z,.int .u8 a.1.2.2.2.2.1.Frame.Turn,G a.1.2.2.2.2.1.Frame.At.X,G a.1.2.2.2.2.1.Frame.At.Y,G a.1.2.2.2.2.1.Frame.At.Z,G a.1.2.2.2.2.1.Size.X,G a.1.2.2.2.2.1.Size.Y,G a.1.2.2.2.2.1.Size.Z,.int .u8 a.1.2.2.2.2.2.Frame.Turn,G a.1.2.2.2.2.2.Frame.At.X,G a.1.2.2.2.2.2.Frame.At.Y,G a.1.2.2.2.2.2.Frame.At.Z,G a.1.2.2.2.2.2.Size.X,G a.1.2.2.2.2.2.Size.Y,G a.1.2.2.2.2.2.Size.Z])) J<|O (q6 a.2) J<|Qe J J<|qz 1 (.dat 42 [[.int .u8 a.1.1.Frame.Turn,G a.1.1.Frame.At.X,G a.1.1.Frame.At.Y,G a.1.1.Frame.At.Z,G a.1.1.Size.X,G a.1.1.Size.Y,G a.1.1.Size.Z,.int .u8 a.1.2.1.Frame.Turn,G a.1.2.1.Frame.At.X,G a.1.2.1.Frame.At.Y,G a.1.2.1.Frame.At.Z,G a.1.2.1.Size.X,G a.1.2.1.Size.Y,G a.1.2.1.Size.Z,.int .u8 a.1.2.2.1.Frame.Turn,G a.1.2.2.1.Frame.At.X,G a.1.2.2.1.Frame.At.Y,G a.1.2.2.1.Frame.At.Z,G a.1.2.2.1.Size.X,G a.1.2.2.1.Size.Y,G a.1.2.2.1.Size.Z,.int .u8 a.1.2.2.2.1.Frame.Turn,G a.1.2.2.2.1.Frame.At.X,G a.1.2.2.2.1.Frame.At.Y,G a.1.2.2.2.1.Frame.At.Z,G a.1.2.2.2.1.Size.X,G a.1.2.2.2.1.Size.Y,G a.1.2.2.2.1.Size.Z,.int .u8 a.1.2.2.2.2.1.Frame.Turn,G a.1.2.2.2.2.1.Frame.At.X,G a.1.2.2.2.2.1.Frame.At.Y,G a.1.2.2.2.2.1.Frame.At.Z,G a.1.2.2.2.2.1.Size.X,G a.1.2.2.2.2.1.Size.Y,G a.1.2.2.2.2.1.Size.Z,.int .u8 a.1.2.2.2.2.2.Frame.Turn,G a.1.2.2.2.2.2.Frame.At.X,G a.1.2.2.2.2.2.Frame.At.Y,G a.1.2.2.2.2.2.Frame.At.Z,G a.1.2.2.2.2.2.Size.X,G a.1.2.2.2.2.2.Size.Y,G a.1.2.2.2.2.2.Size.Z]]) J<|qb J<|qs<|q0 J<|O (qg (j.2 == 0)) J ?_
 obtain ⟨bz,k,b⟩:=q9 b
 refine Q9 4 (fun A st=>∃ (y z aa : V),st = A [(53,qg bz),(52,aa),(51,z),(50,y)]) ?_ ?_
 ·refine Q8 J J k (fun k=>?_) (fun k=>?_)
  ·refine q0 J<|O (qg (c.2 == 0)) J<|O (qg (c.2 == 0)) J<|qa ?_
   obtain rfl:=qe k
   exact ⟨_,_,_,J⟩
  refine qd J<|qd J<|O (qg false) J<|qa ?_
  obtain rfl:=qe k
  exact ⟨_,_,_,J⟩
 rintro _ ⟨y,z,aa,rfl⟩
 obtain ⟨ca,l,b⟩:=q9 b
 refine Q9 4 (fun A st=>∃ (ab ac ad : V),st = A [(57,qg ca),(56,ad),(55,ac),(54,ab)]) ?_ ?_
 ·refine Q8 J J l (fun l=>?_) (fun l=>?_)
  ·refine q0 J<|O (qg (c.1 == 24)) J<|O (qg (c.1 == 24)) J<|qa ?_
   obtain rfl:=qe l
   exact ⟨_,_,_,J⟩
  refine qd J<|qd J<|O (qg false) J<|qa ?_
  obtain rfl:=qe l
  exact ⟨_,_,_,J⟩
 rintro _ ⟨ab,ac,ad,rfl⟩
 obtain ⟨cb,m,b⟩:=q9 b
 refine Q9 4 (fun A st=>∃ (ae af ag : V),st = A [(61,qg cb),(60,ag),(59,af),(58,ae)]) ?_ ?_
 ·refine Q8 J J m (fun m=>?_) (fun m=>?_)
  ·refine q0 J<|O (qg (f.2 == 0)) J<|O (qg (f.2 == 0)) J<|qa ?_
   obtain rfl:=qe m
   exact ⟨_,_,_,J⟩
  refine qd J<|qd J<|O (qg false) J<|qa ?_
  obtain rfl:=qe m
  exact ⟨_,_,_,J⟩
 rintro _ ⟨ae,af,ag,rfl⟩
 obtain ⟨cc,n,b⟩:=q9 b
 refine Q9 4 (fun A st=>∃ (ah ai aj : V),st = A [(65,qg cc),(64,aj),(63,ai),(62,ah)]) ?_ ?_
 ·refine Q8 J J n (fun n=>?_) (fun n=>?_)
  ·refine q0 J<|O (qg (g.2 == 0)) J<|O (qg (g.2 == 0)) J<|qa ?_
   obtain rfl:=qe n
   exact ⟨_,_,_,J⟩
  refine qd J<|qd J<|O (qg false) J<|qa ?_
  obtain rfl:=qe n
  exact ⟨_,_,_,J⟩
 rintro _ ⟨ah,ai,aj,rfl⟩
 obtain ⟨cd,o,b⟩:=q9 b
 refine Q9 4 (fun A st=>∃ (ak al am : V),st = A [(69,qg cd),(68,am),(67,al),(66,ak)]) ?_ ?_
 ·refine Q8 J J o (fun o=>?_) (fun o=>?_)
  ·refine q0 J<|O (qg (g.1 == 6)) J<|O (qg (g.1 == 6)) J<|qa ?_
   obtain rfl:=qe o
   exact ⟨_,_,_,J⟩
  refine qd J<|qd J<|O (qg false) J<|qa ?_
  obtain rfl:=qe o
  exact ⟨_,_,_,J⟩
 rintro _ ⟨ak,al,am,rfl⟩
 obtain ⟨ce,p,b⟩:=q9 b
 refine Q9 4 (fun A st=>∃ (an ao ap : V),st = A [(73,qg ce),(72,ap),(71,ao),(70,an)]) ?_ ?_
 ·refine Q8 J J p (fun p=>?_) (fun p=>?_)
  ·refine q0 J<|O (qg (h.2 == 0)) J<|O (qg (h.2 == 0)) J<|qa ?_
   obtain rfl:=qe p
   exact ⟨_,_,_,J⟩
  refine qd J<|qd J<|O (qg false) J<|qa ?_
  obtain rfl:=qe p
  exact ⟨_,_,_,J⟩
 rintro _ ⟨an,ao,ap,rfl⟩
 refine Q8 J J b (fun b=>?_) (fun b=>?_)
 ·refine q0 J<|O (.d (.agg [G 0,G 3])) J<|Ql (.hs 2 2 0 [({Lo:=0,Hi:=3} : qm)].length) (.dat 2 ([({Lo:=0,Hi:=3} : qm)].map Q3)) J ?_
  obtain ⟨aq,cf,b⟩:=q9 b
  refine q4z [.d (.sl 2 (h.1.map Q3)),.hs 2 2 0 [({Lo:=0,Hi:=3} : qm)].length] (qt6 h.1 [({Lo:=0,Hi:=3} : qm)] aq cf) J J (Ju J (Ju (Jb J J) J)) (.inr J)<|O (qg aq) J ?_
  obtain ⟨cg,q,b⟩:=q9 b
  refine Q9 4 (fun A st=>∃ (ar au av : V),st = A [(83,qg cg),(82,av),(81,au),(80,ar)]) ?_ ?_
  ·refine Q8 J J q (fun q=>?_) (fun q=>?_)
   ·refine q0 J<|O (qg (a.2 == 0)) J<|O (qg (a.2 == 0)) J<|qa ?_
    obtain rfl:=qe q
    exact ⟨_,_,_,J⟩
   refine qd J<|qd J<|O (qg false) J<|qa ?_
   obtain rfl:=qe q
   exact ⟨_,_,_,J⟩
  rintro _ ⟨ar,au,av,rfl⟩
  refine qb J<|qs<|q0 J ?_
  obtain ⟨ch,s,b⟩:=q9 b
  refine Q9 9 (fun A st=>∃ (aw ax ay az ba bb bc bd : V),st = A [(93,qg ch),(92,bd),(91,bc),(90,bb),(89,ba),(88,az),(87,ay),(86,ax),(85,aw)]) ?_ ?_
  ·refine Q8 J J s (fun s=>?_) (fun s=>?_)
   ·refine O (.ref 1 42 0 28) J<|O (.d (.agg [.int .u8 a.1.2.2.2.2.1.Frame.Turn,G a.1.2.2.2.2.1.Frame.At.X,G a.1.2.2.2.2.1.Frame.At.Y,G a.1.2.2.2.2.1.Frame.At.Z,G a.1.2.2.2.2.1.Size.X,G a.1.2.2.2.2.1.Size.Y,G a.1.2.2.2.2.1.Size.Z])) J<|O (.d (.agg [G 0,G 0,G 4])) J<|O (.d (.agg [.int .u8 0,G 0,G 0,G 4])) J<|O (.d (.agg [G 2,G 3,G 0])) J<|O (.d (.agg [.int .u8 0,G 0,G 0,G 4,G 2,G 3,G 0])) J<|O (.d (.bool ((a.1.2.2.2.2.1.Frame.Turn == 0) && ((a.1.2.2.2.2.1.Frame.At.X == 0) && ((a.1.2.2.2.2.1.Frame.At.Y == 0) && ((a.1.2.2.2.2.1.Frame.At.Z == 4) && ((a.1.2.2.2.2.1.Size.X == 2) && ((a.1.2.2.2.2.1.Size.Y == 3) && ((a.1.2.2.2.2.1.Size.Z == 0) && true))))))))) J<|O (.d (.bool ((a.1.2.2.2.2.1.Frame.Turn == 0) && ((a.1.2.2.2.2.1.Frame.At.X == 0) && ((a.1.2.2.2.2.1.Frame.At.Y == 0) && ((a.1.2.2.2.2.1.Frame.At.Z == 4) && ((a.1.2.2.2.2.1.Size.X == 2) && ((a.1.2.2.2.2.1.Size.Y == 3) && ((a.1.2.2.2.2.1.Size.Z == 0) && true))))))))) J<|qa ?_
    obtain rfl:=qe s
    exact ⟨_,_,_,_,_,_,_,_,J⟩
   refine qd J<|qd J<|qd J<|qd J<|qd J<|qd J<|qd J<|O (qg false) J<|qa ?_
   obtain rfl:=qe s
   exact ⟨_,_,_,_,_,_,_,_,J⟩
  rintro _ ⟨aw,ax,ay,az,ba,bb,bc,bd,rfl⟩
  obtain ⟨be,t,b⟩:=q9 b
  refine Q9 9 (fun A st=>∃ (bf bg bh bi bj bk bl bm : V),st = A [(102,qg be),(101,bm),(100,bl),(99,bk),(98,bj),(97,bi),(96,bh),(95,bg),(94,bf)]) ?_ ?_
  ·refine Q8 J J t (fun t=>?_) (fun t=>?_)
   ·refine O (.ref 1 42 0 0) J<|O (.d (.agg [.int .u8 a.1.1.Frame.Turn,G a.1.1.Frame.At.X,G a.1.1.Frame.At.Y,G a.1.1.Frame.At.Z,G a.1.1.Size.X,G a.1.1.Size.Y,G a.1.1.Size.Z])) J<|O (.d (.agg [G 2,G 0,G 0])) J<|O (.d (.agg [.int .u8 10,G 2,G 0,G 0])) J<|O (.d (.agg [G 3,G 4,G 0])) J<|O (.d (.agg [.int .u8 10,G 2,G 0,G 0,G 3,G 4,G 0])) J<|O (.d (.bool ((a.1.1.Frame.Turn == 10) && ((a.1.1.Frame.At.X == 2) && ((a.1.1.Frame.At.Y == 0) && ((a.1.1.Frame.At.Z == 0) && ((a.1.1.Size.X == 3) && ((a.1.1.Size.Y == 4) && ((a.1.1.Size.Z == 0) && true))))))))) J<|O (.d (.bool ((a.1.1.Frame.Turn == 10) && ((a.1.1.Frame.At.X == 2) && ((a.1.1.Frame.At.Y == 0) && ((a.1.1.Frame.At.Z == 0) && ((a.1.1.Size.X == 3) && ((a.1.1.Size.Y == 4) && ((a.1.1.Size.Z == 0) && true))))))))) J<|qa ?_
    obtain rfl:=qe t
    exact ⟨_,_,_,_,_,_,_,_,J⟩
   refine qd J<|qd J<|qd J<|qd J<|qd J<|qd J<|qd J<|O (qg false) J<|qa ?_
   obtain rfl:=qe t
   exact ⟨_,_,_,_,_,_,_,_,J⟩
  rintro _ ⟨bf,bg,bh,bi,bj,bk,bl,bm,rfl⟩
  refine qb J<|qv ?_
  obtain rfl:=qe b
  exact Q4 (qg be) J
 refine qd J<|qd J<|qd J<|qd J<|O (qg false) J<|q0 J<|qd J<|qd J<|O (qg false) J<|qb J<|qs<|q0 J<|q0 J<|qd J<|qd J<|qd J<|qd J<|qd J<|qd J<|qd J<|O (qg false) J<|q0 J<|qd J<|qd J<|qd J<|qd J<|qd J<|qd J<|qd J<|O (qg false) J<|qb J<|qv ?_
 obtain rfl:=qe b
 exact Q4 (qg false) J
theorem qkp (a : qi) (c : Int) (r : Bool) (b : q52 a c = some r) : Pure Tryz.prog tab 89 [.agg [G a.X,G a.Y,G a.Z],G c] (.bool r):=by
 unfold q52 at b
 refine Qi Tryz.func89 J qj qj J<|qc<|Ql (.ref 0 3 0 0) (.dat 3 [[G a.X,G a.Y,G a.Z]]) J<|qb J<|qs<|O (.ref 0 3 0 0) J<|O (q6 a.X) J<|q0 J<|O (.d (.bool (decide (a.X ≥ c)))) J ?_
 obtain ⟨c1,f,b⟩:=q9 b
 refine Q9 6 (fun A st=>∃ (l m n o p : V),st = A [(14,qg c1),(13,p),(12,o),(11,n),(10,m),(9,l)]) ?_ ?_
 ·refine Q8 J J f (fun f=>?_) (fun f=>?_)
  ·refine O (.ref 0 3 0 1) J<|O (q6 a.Y) J<|q0 J<|O (.d (.bool (decide (a.Y ≥ c)))) J<|O (.d (.bool (decide (a.Y ≥ c)))) J<|qa ?_
   obtain rfl:=qe f
   exact ⟨_,_,_,_,_,J⟩
  refine qd J<|qd J<|qd J<|qd J<|O (qg false) J<|qa ?_
  obtain rfl:=qe f
  exact ⟨_,_,_,_,_,J⟩
 rintro _ ⟨l,m,n,o,p,rfl⟩
 obtain ⟨c8,g,b⟩:=q9 b
 refine Q9 6 (fun A st=>∃ (q s t u v : V),st = A [(20,qg c8),(19,v),(18,u),(17,t),(16,s),(15,q)]) ?_ ?_
 ·refine Q8 J J g (fun g=>?_) (fun g=>?_)
  ·refine O (.ref 0 3 0 2) J<|O (q6 a.Z) J<|q0 J<|O (.d (.bool (decide (a.Z ≥ c)))) J<|O (.d (.bool (decide (a.Z ≥ c)))) J<|qa ?_
   obtain rfl:=qe g
   exact ⟨_,_,_,_,_,J⟩
  refine qd J<|qd J<|qd J<|qd J<|O (qg false) J<|qa ?_
  obtain rfl:=qe g
  exact ⟨_,_,_,_,_,J⟩
 rintro _ ⟨q,s,t,u,v,rfl⟩
 obtain ⟨al,h,b⟩:=q9 b
 refine Q9 5 (fun A st=>∃ (w x y z : V),st = A [(25,qg al),(24,z),(23,y),(22,x),(21,w)]) ?_ ?_
 ·refine Q8 J J h (fun h=>?_) (fun h=>?_)
  ·refine O (.ref 0 3 0 0) J<|O (q6 a.X) J<|O (.d (.bool (decide (a.X≤1000000)))) J<|O (.d (.bool (decide (a.X≤1000000)))) J<|qa ?_
   obtain rfl:=qe h
   exact ⟨_,_,_,_,J⟩
  refine qd J<|qd J<|qd J<|O (qg false) J<|qa ?_
  obtain rfl:=qe h
  exact ⟨_,_,_,_,J⟩
 rintro _ ⟨w,x,y,z,rfl⟩
 obtain ⟨am,j,b⟩:=q9 b
 refine Q9 5 (fun A st=>∃ (aa ab ac ad : V),st = A [(30,qg am),(29,ad),(28,ac),(27,ab),(26,aa)]) ?_ ?_
 ·refine Q8 J J j (fun j=>?_) (fun j=>?_)
  ·refine O (.ref 0 3 0 1) J<|O (q6 a.Y) J<|O (.d (.bool (decide (a.Y≤1000000)))) J<|O (.d (.bool (decide (a.Y≤1000000)))) J<|qa ?_
   obtain rfl:=qe j
   exact ⟨_,_,_,_,J⟩
  refine qd J<|qd J<|qd J<|O (qg false) J<|qa ?_
  obtain rfl:=qe j
  exact ⟨_,_,_,_,J⟩
 rintro _ ⟨aa,ab,ac,ad,rfl⟩
 obtain ⟨ae,k,b⟩:=q9 b
 refine Q9 5 (fun A st=>∃ (af ag ah ai : V),st = A [(35,qg ae),(34,ai),(33,ah),(32,ag),(31,af)]) ?_ ?_
 ·refine Q8 J J k (fun k=>?_) (fun k=>?_)
  ·refine O (.ref 0 3 0 2) J<|O (q6 a.Z) J<|O (.d (.bool (decide (a.Z≤1000000)))) J<|O (.d (.bool (decide (a.Z≤1000000)))) J<|qa ?_
   obtain rfl:=qe k
   exact ⟨_,_,_,_,J⟩
  refine qd J<|qd J<|qd J<|O (qg false) J<|qa ?_
  obtain rfl:=qe k
  exact ⟨_,_,_,_,J⟩
 rintro _ ⟨af,ag,ah,ai,rfl⟩
 refine qb J<|qv ?_
 obtain rfl:=qe b
 exact Q4 (qg ae) J
end Go.Proofs.YtlchefooafpdlaaGreat
