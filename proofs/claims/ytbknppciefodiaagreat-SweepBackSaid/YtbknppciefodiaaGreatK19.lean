/- W_All -/
import Derived.Test.YtbknppciefodiaaGreatK18
namespace Go.Proofs.YtbknppciefodiaaGreat
open Go Go.Am Go.Sh
set_option maxHeartbeats 8000000
set_option maxRecDepth 100000
theorem q145 (b : Qp) (c : List (List qg)) (n : Int) (r : Bool) (a : qcb b c n = some r) : Pure Tryz.prog tab 6 [.agg [.sl 7 (b.Lines.map Kb),.sl 5 (b.Marks.map Km),.int .u8 b.End.Frame.Turn,q8 b.End.Frame.At.X,q8 b.End.Frame.At.Y,q8 b.End.Frame.At.Z,q8 b.End.Drawn],.sl 1 (c.map Qq),q8 n] (.bool r):=by
 unfold qcb at a
 refine Qo Tryz.func6 J qh qh J<|qc<|Qs _ _ J<|qa J<|qt ?_
 obtain ⟨x,h2,a⟩:=q7 a
 refine Q4 (qsy x h2) J<|qa J<|q9<|qf<|qc<|G _ J<|O J ?_
 obtain ⟨r3,h4,a⟩:=q7 a
 refine Q4 (qsz b c r3 h4) J<|G _ J ?_
 obtain ⟨c5,o,a⟩:=q7 a
 refine Qb 4 (fun A st=>∃ j7 j8 j9,st = A [(35,Q0 c5),(34,j9),(33,j8),(32,j7)]) ?_ ?_
 ·refine Q9 J J o (fun o=>?_) (fun o=>?_)
  ·refine qb J<|qb J<|G _ J<|q9 ?_
   obtain rfl:=qd o
   exact ⟨_,_,_,J⟩
  refine O J<|G _ J<|G _ J<|q9 ?_
  obtain rfl:=qd o
  exact ⟨_,_,_,J⟩
 rintro _ ⟨j7,j8,j9,rfl⟩
 obtain ⟨da,p,a⟩:=q7 a
 refine Qb 7 (fun A st=>∃ ad ae af ag ah ai,st = A [(42,Q0 da),(41,ai),(40,ah),(39,ag),(38,af),(37,ae),(36,ad)]) ?_ ?_
 ·refine Q9 J J p (fun p=>?_) (fun p=>?_)
  ·refine qb J<|qb J<|qb J<|qb J<|qb J<|G _ J<|q9 ?_
   obtain rfl:=qd p
   exact ⟨_,_,_,_,_,_,J⟩
  refine O J<|G _ J<|G _ J<|Qi J<|G _ J<|G _ J<|q9 ?_
  obtain rfl:=qd p
  exact ⟨_,_,_,_,_,_,J⟩
 rintro _ ⟨ad,ae,af,ag,ah,ai,rfl⟩
 obtain ⟨dc,q,a⟩:=q7 a
 refine Qb 4 (fun A st=>∃ aj ak al,st = A [(46,Q0 dc),(45,al),(44,ak),(43,aj)]) ?_ ?_
 ·refine Q9 J J q (fun q=>?_) (fun q=>?_)
  ·refine qb J<|qb J<|G _ J<|q9 ?_
   obtain rfl:=qd q
   exact ⟨_,_,_,J⟩
  refine O J<|G _ J<|G _ J<|q9 ?_
  obtain rfl:=qd q
  exact ⟨_,_,_,J⟩
 rintro _ ⟨aj,ak,al,rfl⟩
 refine q9 ?_
 refine qo J a (fun _ a=>?_) (fun _ a=>?_)
 ·refine qc<|O J<|qa J<|qs ?_
  obtain rfl:=qd a
  exact Q5 _ J
 refine ql<|qc<|G _ J<|K4 J J<|Ql 1 _ J<|q9<|qf<|qc<|qa J<|q9 ?_
 obtain ⟨am,dd,a⟩:=q7 a
 refine Qk (fun h=>h = am) (fun h=>⟨[(1,.d (.sl 1 (c.map Qq))),(2,q6 n),(3,.ref 0 7 0 0),(7,Q0 x),(8,.ref 1 7 0 0)],[(0,.dat 7 [[.sl 7 (b.Lines.map Kb),.sl 5 (b.Marks.map Km),.int .u8 b.End.Frame.Turn,q8 b.End.Frame.At.X,q8 b.End.Frame.At.Y,q8 b.End.Frame.At.Z,q8 b.End.Drawn]]),(1,.cel 7 [[.hs 2 7 0 h.length,.d (.nilsl),.d (.int .u8 0),q6 0,q6 0,q6 0,q6 0]]),(2,.dat 7 (h.map Kb))],3⟩) qe ?_ ?_
 ·refine Qe (q3y b) (fun y=>⟨[(1,.d (.sl 1 (c.map Qq))),(2,q6 n),(3,.ref 0 7 0 0),(7,Q0 x),(8,.ref 1 7 0 0),(9,q6 y.1)],[(0,.dat 7 [[.sl 7 (b.Lines.map Kb),.sl 5 (b.Marks.map Km),.int .u8 b.End.Frame.Turn,q8 b.End.Frame.At.X,q8 b.End.Frame.At.Y,q8 b.End.Frame.At.Z,q8 b.End.Drawn]]),(1,.cel 7 [[.hs 2 7 0 y.2.length,.d (.nilsl),.d (.int .u8 0),q6 0,q6 0,q6 0,q6 0]]),(2,.dat 7 (y.2.map Kb))],3⟩) (0,[]) am dd (wkA [(0,0),(1,1)] [] [2]) ?_
  intro y fk f
  unfold q3y at f
  refine qf<|qc<|O J<|G _ J<|G _ J<|Qi J<|G _ J<|q9 ?_
  refine qo J f (fun _ f=>?_) (fun _ f=>?_)
  ·refine ql<|qf<|Q3<|qc<|G _ J<|G _ J<|O J ?_
   obtain ⟨fl,de,f⟩:=q7 f
   refine Qc de J<|G _ J<|K4 J J<|Ql 3 _ J<|q9<|qw<|G _ J<|G _ J<|G _ J<|G _ J<|G _ J<|G _ J<|G _ J<|G _ J<|G _ J<|Qs _ _ J ?_
   obtain ⟨fm,df,f⟩:=q7 f
   refine Ku _ df J J J J J J J (Ks J J) J J J J<|G _ J<|Ql 1 _ J<|qv<|Qn<|qw<|O J<|G _ J<|qa J<|qv ?_
   exact ⟨_,qm f,wkA [(0,0),(1,1),(2,5)] [] []⟩
  refine Q8 ?_
  refine ⟨_,qm f,fun hm=>?_⟩
  subst hm
  exact ⟨_,J,wkA [(0,0),(1,1),(2,2)] [] []⟩
 intro h hb
 subst hb
 refine qc<|G _ J<|O J ?_
 obtain ⟨z,dg,a⟩:=q7 a
 refine Q4 (qdq b c z dg) J<|O J<|G _ J<|G _ J<|qa J<|qa J<|q9<|qf ?_
 refine Yb (st':=⟨[(1,.d (.sl 1 (c.map Qq))),(2,q6 n),(3,.ref 0 7 0 0),(7,Q0 x),(8,.ref 1 7 0 0),(11,.d (.sl 1 (z.1.map Qq))),(12,q6 z.2)],[(0,.dat 7 [[.sl 7 (b.Lines.map Kb),.sl 5 (b.Marks.map Km),.int .u8 b.End.Frame.Turn,q8 b.End.Frame.At.X,q8 b.End.Frame.At.Y,q8 b.End.Frame.At.Z,q8 b.End.Drawn]]),(1,.cel 7 [[.d (.sl 7 (h.map Kb)),.d (.nilsl),.d (.int .u8 0),q6 0,q6 0,q6 0,q6 0]])],2⟩) (wkA [(0,0),(1,1)] [2] []) ?_ qe
 refine qw<|G _ J<|O J ?_
 obtain ⟨an,dh,a⟩:=q7 a
 refine Q4 (Un (.cons (q3q (.cons (.refl _) (.cons (.nil _) (.cons (.refl _) (.cons (.refl _) (.cons (.refl _) (.cons (.refl _) (.cons (.refl _) .nil)))))))) (.cons (.refl _) .nil)) (qdq ({Lines:=h,Marks:=[],End:=({Frame:=({Turn:=0,At:=({X:=0,Y:=0,Z:=0} : Qa)} : Kl),Drawn:=0} : Yi)} : Qp) c an dh)) J<|O J<|G _ J<|G _ J<|qa J<|qa J<|qt<|G _ J<|O J ?_
 obtain ⟨ao,dj,a⟩:=q7 a
 refine Q4 (qh7 b c ao dj) J<|O J<|G _ J<|G _ J<|qa J<|qa J<|qt<|G _ J<|O J ?_
 obtain ⟨ap,dk,a⟩:=q7 a
 refine Q4 (Un (.cons (q3q (.cons (.refl _) (.cons (.nil _) (.cons (.refl _) (.cons (.refl _) (.cons (.refl _) (.cons (.refl _) (.cons (.refl _) .nil)))))))) (.cons (.refl _) .nil)) (qh7 ({Lines:=h,Marks:=[],End:=({Frame:=({Turn:=0,At:=({X:=0,Y:=0,Z:=0} : Qa)} : Kl),Drawn:=0} : Yi)} : Qp) c ap dk)) J<|O J<|G _ J<|G _ J<|qa J<|qa J<|q9<|qf<|qc<|O J<|O J<|G _ J ?_
 obtain ⟨dl,s,a⟩:=q7 a
 refine Qb 5 (fun A st=>∃ aq ar au av,st = A [(104,Q0 dl),(103,av),(102,au),(101,ar),(100,aq)]) ?_ ?_
 ·refine Q9 J J s (fun s=>?_) (fun s=>?_)
  ·refine qb J<|qb J<|qb J<|G _ J<|q9 ?_
   obtain rfl:=qd s
   exact ⟨_,_,_,_,J⟩
  refine O J<|O J<|G _ J<|G _ J<|q9 ?_
  obtain rfl:=qd s
  exact ⟨_,_,_,_,J⟩
 rintro _ ⟨aq,ar,au,av,rfl⟩
 obtain ⟨dm,j,a⟩:=q7 a
 refine Qb 6 (fun A st=>∃ aw ax ay az ba,st = A [(110,Q0 dm),(109,ba),(108,az),(107,ay),(106,ax),(105,aw)]) ?_ ?_
 ·refine Q9 J J j (fun j=>?_) (fun j=>?_)
  ·refine qb J<|qb J<|qb J<|qb J<|G _ J<|q9 ?_
   obtain rfl:=qd j
   exact ⟨_,_,_,_,_,J⟩
  refine O J<|O J ?_
  obtain ⟨dn,dp,j⟩:=q7 j
  refine Q4 (qwf z.1 an.1 dn dp) J<|G _ J<|G _ J<|q9 ?_
  obtain rfl:=qd j
  exact ⟨_,_,_,_,_,J⟩
 rintro _ ⟨aw,ax,ay,az,ba,rfl⟩
 obtain ⟨dq,k,a⟩:=q7 a
 refine Qb 6 (fun A st=>∃ bb bc bd be bf,st = A [(116,Q0 dq),(115,bf),(114,be),(113,bd),(112,bc),(111,bb)]) ?_ ?_
 ·refine Q9 J J k (fun k=>?_) (fun k=>?_)
  ·refine qb J<|qb J<|qb J<|qb J<|G _ J<|q9 ?_
   obtain rfl:=qd k
   exact ⟨_,_,_,_,_,J⟩
  refine O J<|O J ?_
  obtain ⟨dr,ds,k⟩:=q7 k
  refine Q4 (qme ao.1 ap.1 dr ds) J<|G _ J<|G _ J<|q9 ?_
  obtain rfl:=qd k
  exact ⟨_,_,_,_,_,J⟩
 rintro _ ⟨bb,bc,bd,be,bf,rfl⟩
 refine q9 ?_
 refine qo J a (fun _ a=>?_) (fun _ a=>?_)
 ·refine qc<|qa J<|qs ?_
  obtain rfl:=qd a
  exact Q5 _ J
 refine ql<|qc<|G _ J<|O J ?_
 obtain ⟨bg,dt,a⟩:=q7 a
 refine Q4 (qdr b c bg dt) J<|O J<|G _ J<|G _ J<|qa J<|qa J<|qt<|G _ J<|G _ J<|O J ?_
 obtain ⟨du,dv,a⟩:=q7 a
 refine qlo (enc:=Kb) dv J J J J J (fun _=>rfl) (q3m J)<|G _ J<|O J ?_
 obtain ⟨bh,dw,a⟩:=q7 a
 refine Q4 (Un (.cons (q3q (.cons (.refl _) (.cons (.nil _) (.cons (.refl _) (.cons (.refl _) (.cons (.refl _) (.cons (.refl _) (.cons (.refl _) .nil)))))))) (.cons (.refl _) .nil)) (qdr ({Lines:=du,Marks:=[],End:=({Frame:=({Turn:=0,At:=({X:=0,Y:=0,Z:=0} : Qa)} : Kl),Drawn:=0} : Yi)} : Qp) c bh dw)) J<|O J<|G _ J<|G _ J<|qa J<|qa J<|qt<|G _ J<|G _ J<|O J ?_
 obtain ⟨dx,dy,a⟩:=q7 a
 refine qlo (enc:=Kb) dy J J J J J (q3m J) (fun _=>rfl)<|G _ J<|O J ?_
 obtain ⟨bi,dz,a⟩:=q7 a
 refine Q4 (Un (.cons (q3q (.cons (.refl _) (.cons (.nil _) (.cons (.refl _) (.cons (.refl _) (.cons (.refl _) (.cons (.refl _) (.cons (.refl _) .nil)))))))) (.cons (.refl _) .nil)) (qdr ({Lines:=dx,Marks:=[],End:=({Frame:=({Turn:=0,At:=({X:=0,Y:=0,Z:=0} : Qa)} : Kl),Drawn:=0} : Yi)} : Qp) c bi dz)) J<|O J<|G _ J<|G _ J<|qa J<|qa J<|q9<|qf<|qc<|O J<|G _ J ?_
 obtain ⟨fa,t,a⟩:=q7 a
 refine Qb 4 (fun A st=>∃ bj bk bl,st = A [(148,Q0 fa),(147,bl),(146,bk),(145,bj)]) ?_ ?_
 ·refine Q9 J J t (fun t=>?_) (fun t=>?_)
  ·refine qb J<|qb J<|G _ J<|q9 ?_
   obtain rfl:=qd t
   exact ⟨_,_,_,J⟩
  refine O J<|G _ J<|G _ J<|q9 ?_
  obtain rfl:=qd t
  exact ⟨_,_,_,J⟩
 rintro _ ⟨bj,bk,bl,rfl⟩
 obtain ⟨fb,u,a⟩:=q7 a
 refine Qb 4 (fun A st=>∃ bm bn bo,st = A [(152,Q0 fb),(151,bo),(150,bn),(149,bm)]) ?_ ?_
 ·refine Q9 J J u (fun u=>?_) (fun u=>?_)
  ·refine qb J<|qb J<|G _ J<|q9 ?_
   obtain rfl:=qd u
   exact ⟨_,_,_,J⟩
  refine O J<|G _ J<|G _ J<|q9 ?_
  obtain rfl:=qd u
  exact ⟨_,_,_,J⟩
 rintro _ ⟨bm,bn,bo,rfl⟩
 refine q9 ?_
 refine qo J a (fun _ a=>?_) (fun _ a=>?_)
 ·refine qc<|O J ?_
  obtain ⟨fc,g,a⟩:=q7 a
  refine Qb 12 (fun A st=>∃ bp bq br bs bt bu bv bw bz ca cb,st = A [(165,Q0 fc),(164,cb),(163,ca),(162,bz),(161,bw),(160,bv),(159,bu),(158,bt),(157,bs),(156,br),(155,bq),(154,bp)]) ?_ ?_
  ·refine Q9 J J g (fun g=>?_) (fun g=>?_)
   ·refine O J<|G _ J ?_
    obtain ⟨fd,v,g⟩:=q7 g
    refine Qb 4 (fun A st=>∃ cc cd ce,st = A [(160,Q0 fd),(159,ce),(158,cd),(157,cc)]) ?_ ?_
    ·refine Q9 J J v (fun v=>?_) (fun v=>?_)
     ·refine qb J<|qb J<|G _ J<|q9 ?_
      obtain rfl:=qd v
      exact ⟨_,_,_,J⟩
     refine O J<|G _ J<|G _ J<|q9 ?_
     obtain rfl:=qd v
     exact ⟨_,_,_,J⟩
    rintro _ ⟨cc,cd,ce,rfl⟩
    obtain ⟨fe,w,g⟩:=q7 g
    refine Qb 4 (fun A st=>∃ cf cg ch,st = A [(164,Q0 fe),(163,ch),(162,cg),(161,cf)]) ?_ ?_
    ·refine Q9 J J w (fun w=>?_) (fun w=>?_)
     ·refine qb J<|qb J<|G _ J<|q9 ?_
      obtain rfl:=qd w
      exact ⟨_,_,_,J⟩
     refine O J<|G _ J<|G _ J<|q9 ?_
     obtain rfl:=qd w
     exact ⟨_,_,_,J⟩
    rintro _ ⟨cf,cg,ch,rfl⟩
    refine G _ J<|q9 ?_
    obtain rfl:=qd g
    exact ⟨_,_,_,_,_,_,_,_,_,_,_,J⟩
   refine qb J<|qb J<|qb J<|qb J<|qb J<|qb J<|qb J<|qb J<|qb J<|qb J<|G _ J<|q9 ?_
   obtain rfl:=qd g
   exact ⟨_,_,_,_,_,_,_,_,_,_,_,J⟩
  rintro _ ⟨bp,bq,br,bs,bt,bu,bv,bw,bz,ca,cb,rfl⟩
  refine qa J<|qs ?_
  obtain rfl:=qd a
  exact Q5 _ J
 refine ql<|qc<|O J<|O J ?_
 obtain ⟨ci,ff,a⟩:=q7 a
 refine Q4 (qnn bh.1 bi.1 ci ff) J<|O J<|G _ J<|G _ J<|qa J<|qa J<|qt<|O J ?_
 obtain ⟨fg,l,a⟩:=q7 a
 refine Qb 9 (fun A st=>∃ cj ck cm cn co cp cq cr,st = A [(181,Q0 fg),(180,cr),(179,cq),(178,cp),(177,co),(176,cn),(175,cm),(174,ck),(173,cj)]) ?_ ?_
 ·refine Q9 J J l (fun l=>?_) (fun l=>?_)
  ·refine O J<|G _ J ?_
   obtain ⟨fh,m,l⟩:=q7 l
   refine Qb 5 (fun A st=>∃ cs ct cu cv,st = A [(180,Q0 fh),(179,cv),(178,cu),(177,ct),(176,cs)]) ?_ ?_
   ·refine Q9 J J m (fun m=>?_) (fun m=>?_)
    ·refine qb J<|qb J<|qb J<|G _ J<|q9 ?_
     obtain rfl:=qd m
     exact ⟨_,_,_,_,J⟩
    refine O J<|O J ?_
    obtain ⟨fi,fj,m⟩:=q7 m
    refine Q4 (qcu bg.1 ci.1 fi fj) J<|G _ J<|q9 ?_
    obtain rfl:=qd m
    exact ⟨_,_,_,_,J⟩
   rintro _ ⟨cs,ct,cu,cv,rfl⟩
   refine G _ J<|q9 ?_
   obtain rfl:=qd l
   exact ⟨_,_,_,_,_,_,_,_,J⟩
  refine qb J<|qb J<|qb J<|qb J<|qb J<|qb J<|qb J<|G _ J<|q9 ?_
  obtain rfl:=qd l
  exact ⟨_,_,_,_,_,_,_,_,J⟩
 rintro _ ⟨cj,ck,cm,cn,co,cp,cq,cr,rfl⟩
 refine qa J<|qs ?_
 obtain rfl:=qd a
 exact Q5 _ J
end Go.Proofs.YtbknppciefodiaaGreat
