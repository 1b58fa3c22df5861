/- W_Alld -/
import Derived.Test.YtbknppciefodiaaGreatK17
namespace Go.Proofs.YtbknppciefodiaaGreat
open Go Go.Am Go.Sh
set_option maxHeartbeats 8000000
set_option maxRecDepth 100000
theorem q11w (p0 : List qi→List qi→Option (List qi × Int)) (b : List qg) (c : List qg) (p0F : FuncId) (p0C : List DV) (p0Ok : ∀ (x0 : List qi) (x1 : List qi) (r : List qi × Int),p0 x0 x1 = some r→Pure Tryz.prog tab p0F ([.sl 4 (x0.map Q2),.sl 4 (x1.map Q2)] ++ p0C) (.tup [.sl 4 (r.1.map Q2),q8 r.2])) (r : List qg × Int) (n : qas p0 b c = some r) : Pure Tryz.prog tab 72 [.agg [.fn p0F p0C],.sl 1 ([b,c].map Qq)] (.tup [.sl 6 (r.1.map Qg),q8 r.2]):=by
 unfold qas at n
 refine Qo Tryz.func72 J qh qh J<|qc<|Qs _ _ J<|K4 J J<|K4 J J<|qt<|K4 J J<|q9<|qf<|qc<|O J ?_
 obtain ⟨br,j,n⟩:=q7 n
 refine q3z [.d (.sl 1 ([b,c].map Qq))] (fun f=>f = br) (fun (f : List Int)=>⟨[(2,.ref 0 1 0 0),(4,.ref 1 1 0 0),(5,.ref 2 1 0 0),(6,.ref 3 4 0 0),(14,.fn 122 [.ref 4 1 0 0,.ref 5 1 0 0])],[(0,.dat 1 [[.fn p0F p0C]]),(1,.dat 1 [[.nilsl]]),(2,.dat 1 [[q8 0]]),(3,.dat 4 [[.nilsl,.nilsl,q8 0,q8 0]]),(4,.cel 1 [[.d (.sl 1 (f.map (eI .i64)))]]),(5,.dat 1 [[.sl 1 ([b,c].map Qq)]])],6⟩) J J Tryz.func98 J qh qh J ?_ ?_
 ·refine qc<|Qs _ _ J<|qa J<|qt<|K4 J J<|q9<|qf<|qc<|G _ J<|q5v 2 J J J J J<|O J<|q9<|Q3<|Ys<|qc<|G _ J<|q9<|qf<|Zg J<|ql<|qf ?_
  obtain ⟨bs,ad,j⟩:=q7 j
  refine Qk (fun aa=>aa = bs) (fun aa=>⟨[(1,.ref 4 1 0 0),(3,.ref 5 1 0 0),(8,.d (.sl 1 ([b,c].map Qq))),(9,q6 2),(10,q6 0)],[(0,.dat 1 [[.fn p0F p0C]]),(1,.dat 1 [[.nilsl]]),(2,.dat 1 [[q8 0]]),(3,.dat 4 [[.nilsl,.nilsl,q8 0,q8 0]]),(4,.dat 1 [[.sl 1 ([b,c].map Qq)]]),(5,.cel 1 [[.hs 6 1 0 aa.length]]),(6,.dat 1 (aa.map (eI .i64)))],7⟩) qe ?_ ?_
  ·refine qc ?_
   obtain ⟨aw,bt,ad⟩:=q7 ad
   refine Qc bt J<|G _ J<|qa J<|qt<|O J<|Qi J<|O J<|q9 ?_
   obtain ⟨bu,bv,ad⟩:=q7 ad
   refine Q3<|Qe (qdh aw) (fun aq=>⟨[(1,.ref 4 1 0 0),(3,.ref 5 1 0 0),(8,.d (.sl 1 ([b,c].map Qq))),(9,q6 2),(10,q6 0),(14,.d (.sl 6 (aw.map Qg))),(15,q6 (aw.length : Int)),(16,q6 aq.1)],[(0,.dat 1 [[.fn p0F p0C]]),(1,.dat 1 [[.nilsl]]),(2,.dat 1 [[q8 0]]),(3,.dat 4 [[.nilsl,.nilsl,q8 0,q8 0]]),(4,.dat 1 [[.sl 1 ([b,c].map Qq)]]),(5,.cel 1 [[.hs 6 1 0 aq.2.length]]),(6,.dat 1 (aq.2.map (eI .i64)))],7⟩) (0,[]) bu bv (wkA [(4,4),(5,5)] [] [6]) ?_
   intro aq dt t
   unfold qdh at t
   refine qc<|G _ J<|q9<|qf ?_
   refine qo J t (fun _ t=>?_) (fun _ t=>?_)
   ·refine ql<|qf<|Q3<|qc ?_
    obtain ⟨du,bw,t⟩:=q7 t
    refine Qc bw J<|G _ J<|K4 J J<|Ql 7 _ J<|q9<|qw<|G _ J<|G _ J<|G _ J<|G _ J<|G _ J<|G _ J<|G _ J<|Qs _ _ J ?_
    obtain ⟨dv,bz,t⟩:=q7 t
    refine Ku _ bz J J J J J J J (Ks J J) J J J J<|Ql 5 _ J<|qv<|Qn<|qw<|G _ J<|O J<|qv ?_
    exact ⟨_,qm t,wkA [(4,4),(5,5),(6,9)] [] []⟩
   refine Q8 ?_
   refine ⟨_,qm t,fun hm=>?_⟩
   subst hm
   obtain rfl:=qd ad
   exact ⟨_,J,wkA [(4,4),(5,5),(6,6)] [] []⟩
  intro aa hb
  subst hb
  refine qw<|G _ J<|O J<|q9<|Ys<|qc<|G _ J<|q9<|qf<|Zg J<|ql<|qf ?_
  obtain ⟨ca,ae,j⟩:=q7 j
  refine Qk (fun v=>v = ca) (fun v=>⟨[(1,.ref 4 1 0 0),(3,.ref 5 1 0 0),(8,.d (.sl 1 ([b,c].map Qq))),(9,q6 2),(10,q6 1)],[(0,.dat 1 [[.fn p0F p0C]]),(1,.dat 1 [[.nilsl]]),(2,.dat 1 [[q8 0]]),(3,.dat 4 [[.nilsl,.nilsl,q8 0,q8 0]]),(4,.dat 1 [[.sl 1 ([b,c].map Qq)]]),(5,.cel 1 [[.hs 6 1 0 v.length]]),(6,.dat 1 (v.map (eI .i64)))],7⟩) qe ?_ ?_
  ·refine qc ?_
   obtain ⟨ax,cb,ae⟩:=q7 ae
   refine Qc cb J<|G _ J<|qa J<|qt<|O J<|Qi J<|O J<|q9 ?_
   obtain ⟨cc,cd,ae⟩:=q7 ae
   refine Q3<|Qe (qdi ax) (fun ar=>⟨[(1,.ref 4 1 0 0),(3,.ref 5 1 0 0),(8,.d (.sl 1 ([b,c].map Qq))),(9,q6 2),(10,q6 1),(14,.d (.sl 6 (ax.map Qg))),(15,q6 (ax.length : Int)),(16,q6 ar.1)],[(0,.dat 1 [[.fn p0F p0C]]),(1,.dat 1 [[.nilsl]]),(2,.dat 1 [[q8 0]]),(3,.dat 4 [[.nilsl,.nilsl,q8 0,q8 0]]),(4,.dat 1 [[.sl 1 ([b,c].map Qq)]]),(5,.cel 1 [[.hs 6 1 0 ar.2.length]]),(6,.dat 1 (ar.2.map (eI .i64)))],7⟩) (0,aa) cc cd (wkA [(4,4),(5,5),(6,6)] [] []) ?_
   intro ar dw u
   unfold qdi at u
   refine qc<|G _ J<|q9<|qf ?_
   refine qo J u (fun _ u=>?_) (fun _ u=>?_)
   ·refine ql<|qf<|Q3<|qc ?_
    obtain ⟨dx,ce,u⟩:=q7 u
    refine Qc ce J<|G _ J<|K4 J J<|Ql 7 _ J<|q9<|qw<|G _ J<|G _ J<|G _ J<|G _ J<|G _ J<|G _ J<|G _ J<|Qs _ _ J ?_
    obtain ⟨dy,cf,u⟩:=q7 u
    refine Ku _ cf J J J J J J J (Ks J J) J J J J<|Ql 5 _ J<|qv<|Qn<|qw<|G _ J<|O J<|qv ?_
    exact ⟨_,qm u,wkA [(4,4),(5,5),(6,9)] [] []⟩
   refine Q8 ?_
   refine ⟨_,qm u,fun hm=>?_⟩
   subst hm
   obtain rfl:=qd ae
   exact ⟨_,J,wkA [(4,4),(5,5),(6,6)] [] []⟩
  intro v hb
  subst hb
  refine qw<|G _ J<|O J<|q9<|Ys<|qc<|G _ J<|q9<|qf<|Zf J<|Q8<|Jw<|qc<|G _ J ?_
  obtain ⟨ay,cg,j⟩:=q7 j
  obtain ⟨dz,ch,j⟩:=q7 j
  have ci:=Kn ch
  refine K9 [(0,6)] [(0,1),(1,1),(2,1),(3,1),(4,1),(5,1),(6,0)] _ (.d (.tup [])) 1 [(6,.dat 1 (ay.map (eI .i64))),(0,.dat 1 [[.fn p0F p0C]]),(1,.dat 1 [[.nilsl]]),(2,.dat 1 [[q8 0]]),(3,.dat 4 [[.nilsl,.nilsl,q8 0,q8 0]]),(4,.dat 1 [[.sl 1 ([b,c].map Qq)]]),(5,.cel 1 [[.hs 6 1 0 v.length]])] 7 (qdc v ay cg)<|qt<|G _ J ?_
  obtain ⟨af,cj,j⟩:=q7 j
  obtain ⟨fa,ck,j⟩:=q7 j
  have fb:=Kn ck
  obtain ⟨fc,cm,j⟩:=q7 j
  have cn:=qdu cm
  refine U1 [(0,6)] [(0,1),(1,1),(2,1),(3,1),(4,1),(5,1),(6,0)] [.hs 6 1 0 v.length] (.hs 6 1 af.1.1 af.1.2) [(6,.dat 1 (af.2.map (eI .i64)))] [(6,.dat 1 (af.2.map (eI .i64))),(0,.dat 1 [[.fn p0F p0C]]),(1,.dat 1 [[.nilsl]]),(2,.dat 1 [[q8 0]]),(3,.dat 4 [[.nilsl,.nilsl,q8 0,q8 0]]),(4,.dat 1 [[.sl 1 ([b,c].map Qq)]]),(5,.cel 1 [[.hs 6 1 0 v.length]])] 7 (qd3 ay af cj) J J J (Ym [(0,6)] [] [] J ⟨⟨_,J,K6 (by simp [ci]) J qx (ltd J)⟩,trivial⟩ ⟨Qt J J,trivial⟩) (Ym [(0,1),(1,1),(2,1),(3,1),(4,1),(5,1),(6,0)] [] [] J ⟨⟨_,J,.hs J qx (ltd J)⟩,trivial⟩ ⟨Qt J J,trivial⟩) J ⟨.inl J,.inr ⟨J,J⟩,.inr ⟨J,J⟩,.inr ⟨J,J⟩,.inr ⟨J,J⟩,.inr ⟨J,J⟩,.inr ⟨J,J⟩,trivial⟩<|Ql 5 _ J<|qt<|G _ J<|qa J<|qs ?_
  refine ⟨.inr J,_,J,?_⟩
  obtain rfl:=qd j
  exact ⟨_,J,wkE [(0,0),(1,1),(2,2),(3,3),(4,5),(5,4)] [6] [] J ⟨⟨_,J,.ref J qx (ltd J)⟩,⟨_,J,.ref J qx (ltd J)⟩,⟨_,J,.ref J qx (ltd J)⟩,⟨_,J,.ref J qx (ltd J)⟩,⟨_,J,(q2c (.cons (.ref J qx (ltd J)) (.cons (.ref J qx (ltd J)) .nil)))⟩,trivial⟩ ⟨Qt J J,Qt J J,Qt J J,Qt J J,⟨ltd J,.inr ⟨qx,_,J,Jm (.cons (qdw cn J qx) J .nil)⟩⟩,Qt J J,trivial⟩⟩
 intro f hb
 subst hb
 refine q9<|Q3 ?_
 obtain ⟨co,au,n⟩:=q7 n
 refine q6p (fun w=>.inl w = co) (fun w=>⟨[(4,.ref 0 1 0 0),(5,.ref 1 1 0 0),(6,.ref 2 4 0 0)],[(0,.dat 1 [[.nilsl]]),(1,.dat 1 [[q8 0]]),(2,.cel 4 [[.hs 3 6 0 w.2.2.2.length,.d (.sl 4 (w.1.map Q2)),q6 w.2.1,q6 w.2.2.1]]),(3,.dat 6 (w.2.2.2.map Qg))],4⟩) ?_ ?_
 ·refine Yb (st':=⟨[(2,.ref 0 1 0 0),(4,.ref 1 1 0 0),(5,.ref 2 1 0 0),(6,.ref 3 4 0 0),(14,.fn 122 [.ref 4 1 0 0,.ref 5 1 0 0])],[(0,.dat 1 [[.fn p0F p0C]]),(1,.dat 1 [[.nilsl]]),(2,.dat 1 [[q8 0]]),(3,.dat 4 [[.nilsl,.nilsl,q8 0,q8 0]]),(4,.cel 1 [[.d (.sl 1 (f.map (eI .i64)))]]),(5,.dat 1 [[.sl 1 ([b,c].map Qq)]])],6⟩) (wkA [(0,0),(1,1),(2,2),(3,3),(4,4),(5,5)] [] []) ?_ qe
  refine q6q _ (.inl J) Tryz.func122 J qh qh J ?_
  intro A1597 B1598 hA1597 hB1598
  refine qc<|qa J<|q9 ?_
  obtain ⟨cp,cq,au⟩:=q7 au
  refine Q3<|Qe (q4t f b c p0) (fun a=>⟨[(0,.yld 6),(1,.ref 4 1 0 0),(2,.ref 5 1 0 0),(4,q6 a.1)],[(0,.dat 1 [[.fn p0F p0C]]),(1,.dat 1 [[.nilsl]]),(2,.dat 1 [[q8 0]]),(3,.cel 4 [[.hs 7 6 0 a.2.2.2.2.length,.d (.sl 4 (a.2.1.map Q2)),q6 a.2.2.1,q6 a.2.2.2.1]]),(4,.cel 1 [[.d (.sl 1 (f.map (eI .i64)))]]),(5,.dat 1 [[.sl 1 ([b,c].map Qq)]]),(6,.loop [(2,.ref 0 1 0 0),(4,.ref 1 1 0 0),(5,.ref 2 1 0 0),(6,.ref 3 4 0 0),(14,.fn 122 [.ref 4 1 0 0,.ref 5 1 0 0])] [15] A1597 B1598 .ready none),(7,.dat 6 (a.2.2.2.2.map Qg))],8⟩) (1,[],0,0,[]) cp cq (wkA [] [] [7]) ?_
  intro a fd g
  unfold q4t at g
  refine qf<|qc<|O J<|G _ J<|Qi J<|G _ J<|q9 ?_
  refine qo J g (fun _ g=>?_) (fun _ g=>?_)
  ·refine ql<|qf<|Q3<|qf<|Qj [Qv 9,(some [],[9]),U,(some [],[8]),U,qu 5,U,U,U,qu 4,U,U,U,U,qu 4] qh<|G _ J<|O J<|G _ J ?_
   obtain ⟨k,cr,g⟩:=q7 g
   refine Qc cr J<|G _ J<|G _ J<|O J ?_
   obtain ⟨l,cs,g⟩:=q7 g
   refine Qc cs J<|G _ J<|G _ J<|q5v 2 J J J J J<|Qs _ _ J<|G _ J<|K4 J J<|Ql 9 _ J<|q9<|qf<|qc<|G _ J<|q5v 2 J J J J J<|O J<|q9<|Q3<|Ys<|qc<|G _ J<|q9<|qf<|Zg J<|ql<|qf ?_
   obtain ⟨ct,ag,g⟩:=q7 g
   refine Qk (fun h=>h = ct) (fun h=>⟨[(0,.yld 6),(1,.ref 4 1 0 0),(2,.ref 5 1 0 0),(4,q6 a.1),(5,.ref 7 3 0 0),(29,.d (.sl 1 ([b,c].map Qq))),(30,q6 2),(31,q6 0)],[(0,.dat 1 [[.fn p0F p0C]]),(1,.dat 1 [[.nilsl]]),(2,.dat 1 [[q8 0]]),(3,.cel 4 [[.hs 8 6 0 a.2.2.2.2.length,.d (.sl 4 (a.2.1.map Q2)),q6 a.2.2.1,q6 a.2.2.2.1]]),(4,.cel 1 [[.d (.sl 1 (f.map (eI .i64)))]]),(5,.dat 1 [[.sl 1 ([b,c].map Qq)]]),(6,.loop [(2,.ref 0 1 0 0),(4,.ref 1 1 0 0),(5,.ref 2 1 0 0),(6,.ref 3 4 0 0),(14,.fn 122 [.ref 4 1 0 0,.ref 5 1 0 0])] [15] A1597 B1598 .ready none),(7,.cel 3 [[q6 k,q6 l,.hs 9 1 0 2]]),(8,.dat 6 (a.2.2.2.2.map Qg)),(9,.cel 1 [[.hs 10 4 0 h.length],[.d (.nilsl)]]),(10,.dat 4 (h.map Q2))],11⟩) qe ?_ ?_
   ·refine qc<|O J ?_
    obtain ⟨ah,cu,ag⟩:=q7 ag
    refine Qc cu J<|G _ J<|qa J<|qa J<|qt<|O J<|Qi J<|O J<|q9 ?_
    obtain ⟨cv,cw,ag⟩:=q7 ag
    refine Q3<|Qe (qdj ah k) (fun ai=>⟨[(0,.yld 6),(1,.ref 4 1 0 0),(2,.ref 5 1 0 0),(4,q6 a.1),(5,.ref 7 3 0 0),(6,q6 0),(29,.d (.sl 1 ([b,c].map Qq))),(30,q6 2),(31,q6 0),(36,.d (.sl 6 (ah.map Qg))),(37,q6 (ah.length : Int)),(38,q6 ai.1)],[(0,.dat 1 [[.fn p0F p0C]]),(1,.dat 1 [[.nilsl]]),(2,.dat 1 [[q8 0]]),(3,.cel 4 [[.hs 8 6 0 a.2.2.2.2.length,.d (.sl 4 (a.2.1.map Q2)),q6 a.2.2.1,q6 a.2.2.2.1]]),(4,.cel 1 [[.d (.sl 1 (f.map (eI .i64)))]]),(5,.dat 1 [[.sl 1 ([b,c].map Qq)]]),(6,.loop [(2,.ref 0 1 0 0),(4,.ref 1 1 0 0),(5,.ref 2 1 0 0),(6,.ref 3 4 0 0),(14,.fn 122 [.ref 4 1 0 0,.ref 5 1 0 0])] [15] A1597 B1598 .ready none),(7,.cel 3 [[q6 k,q6 l,.hs 9 1 0 2]]),(8,.dat 6 (a.2.2.2.2.map Qg)),(9,.cel 1 [[.hs 10 4 0 ai.2.length],[.d (.nilsl)]]),(10,.dat 4 (ai.2.map Q2))],11⟩) (0,[]) cv cw (wkA [(7,9),(8,7),(9,8)] [] [10]) ?_
    intro ai fe x
    unfold qdj at x
    refine qc<|G _ J<|q9<|qf ?_
    refine qo J x (fun _ x=>?_) (fun _ x=>?_)
    ·refine ql<|qf ?_
     obtain ⟨cx,o,x⟩:=q7 x
     refine Qk (fun aj=>aj = cx) (fun aj=>⟨[(0,.yld 6),(1,.ref 4 1 0 0),(2,.ref 5 1 0 0),(4,q6 a.1),(5,.ref 7 3 0 0),(6,q6 0),(29,.d (.sl 1 ([b,c].map Qq))),(30,q6 2),(31,q6 0),(36,.d (.sl 6 (ah.map Qg))),(37,q6 (ah.length : Int)),(38,q6 ai.1)],[(0,.dat 1 [[.fn p0F p0C]]),(1,.dat 1 [[.nilsl]]),(2,.dat 1 [[q8 0]]),(3,.cel 4 [[.hs 8 6 0 a.2.2.2.2.length,.d (.sl 4 (a.2.1.map Q2)),q6 a.2.2.1,q6 a.2.2.2.1]]),(4,.cel 1 [[.d (.sl 1 (f.map (eI .i64)))]]),(5,.dat 1 [[.sl 1 ([b,c].map Qq)]]),(6,.loop [(2,.ref 0 1 0 0),(4,.ref 1 1 0 0),(5,.ref 2 1 0 0),(6,.ref 3 4 0 0),(14,.fn 122 [.ref 4 1 0 0,.ref 5 1 0 0])] [15] A1597 B1598 .ready none),(7,.cel 3 [[q6 k,q6 l,.hs 9 1 0 2]]),(8,.dat 6 (a.2.2.2.2.map Qg)),(9,.cel 1 [[.hs 10 4 0 aj.length],[.d (.nilsl)]]),(10,.dat 4 (aj.map Q2))],11⟩) qe ?_ ?_
     ·refine qc ?_
      obtain ⟨ff,cy,o⟩:=q7 o
      refine Qc cy J<|G _ J<|K4 J J<|Ql 11 _ J<|qt<|G _ J<|G _ J<|G _ J<|G _ J<|G _ J<|G _ J ?_
      obtain ⟨cz,ak,o⟩:=q7 o
      refine Qb 8 (fun A st=>∃ bb bc bd be bf bg bh,st = A [(55,Q0 cz),(54,bh),(53,bg),(52,bf),(51,be),(50,bd),(49,bc),(48,bb)]) ?_ ?_
      ·refine Q9 J J ak (fun ak=>?_) (fun ak=>?_)
       ·refine G _ J<|G _ J<|G _ J<|G _ J<|G _ J<|G _ J<|G _ J<|q9 ?_
        obtain rfl:=qd ak
        exact ⟨_,_,_,_,_,_,_,J⟩
       refine qb J<|qb J<|qb J<|qb J<|qb J<|qb J<|G _ J<|q9 ?_
       obtain rfl:=qd ak
       exact ⟨_,_,_,_,_,_,_,J⟩
      rintro _ ⟨bb,bc,bd,be,bf,bg,bh,rfl⟩
      refine q9 ?_
      refine qo J o (fun _ o=>?_) (fun _ o=>?_)
      ·refine Qj [Qv 9,U,(some [10,12],[10,13]),(some [],[12]),U,qu 11,U,U,qu 11,U,U,qu 11,U,U,qu 11,U,U,qu 9,U,U,qu 7,U,U,qu 7,U] qh<|G _ J<|G _ J<|O J<|G _ J<|G _ J<|O J<|G _ J<|G _ J<|G _ J<|G _ J<|G _ J<|G _ J<|G _ J<|G _ J<|G _ J<|G _ J<|G _ J<|G _ J<|G _ J<|G _ J<|G _ J<|Qs _ _ J ?_
       obtain ⟨fg,da,o⟩:=q7 o
       refine Ku _ da J J J J J J J (Ks J J) J J J J<|G _ J<|Ql 9 _ J<|qv ?_
       obtain rfl:=qd o
       exact ⟨_,J,wkA [(7,7),(8,8),(9,9),(10,13)] [] []⟩
      refine ql<|Qf ?_
      obtain rfl:=qd o
      exact ⟨_,J,wkA [(7,7),(8,8),(9,9),(10,10)] [] []⟩
     intro aj hb
     subst hb
     refine qw<|G _ J<|O J<|qv ?_
     exact ⟨_,qm x,wkA [(7,7),(8,8),(9,9),(10,10)] [] []⟩
    refine Q8 ?_
    refine ⟨_,qm x,fun hm=>?_⟩
    subst hm
    obtain rfl:=qd ag
    exact ⟨_,J,wkA [(7,7),(8,8),(9,9),(10,10)] [] []⟩
   intro h hb
   subst hb
   refine qw<|G _ J<|O J<|q9<|Ys<|qc<|G _ J<|q9<|qf<|Zg J<|ql<|qf ?_
   obtain ⟨dc,al,g⟩:=q7 g
   refine Qk (fun p=>p = dc) (fun p=>⟨[(0,.yld 6),(1,.ref 4 1 0 0),(2,.ref 5 1 0 0),(4,q6 a.1),(5,.ref 7 3 0 0),(29,.d (.sl 1 ([b,c].map Qq))),(30,q6 2),(31,q6 1)],[(0,.dat 1 [[.fn p0F p0C]]),(1,.dat 1 [[.nilsl]]),(2,.dat 1 [[q8 0]]),(3,.cel 4 [[.hs 8 6 0 a.2.2.2.2.length,.d (.sl 4 (a.2.1.map Q2)),q6 a.2.2.1,q6 a.2.2.2.1]]),(4,.cel 1 [[.d (.sl 1 (f.map (eI .i64)))]]),(5,.dat 1 [[.sl 1 ([b,c].map Qq)]]),(6,.loop [(2,.ref 0 1 0 0),(4,.ref 1 1 0 0),(5,.ref 2 1 0 0),(6,.ref 3 4 0 0),(14,.fn 122 [.ref 4 1 0 0,.ref 5 1 0 0])] [15] A1597 B1598 .ready none),(7,.cel 3 [[q6 k,q6 l,.hs 9 1 0 2]]),(8,.dat 6 (a.2.2.2.2.map Qg)),(9,.cel 1 [[.hs 10 4 0 h.length],[.hs 11 4 0 p.length]]),(10,.dat 4 (h.map Q2)),(11,.dat 4 (p.map Q2))],12⟩) qe ?_ ?_
   ·refine qc<|O J ?_
    obtain ⟨am,dd,al⟩:=q7 al
    refine Qc dd J<|G _ J<|qa J<|qa J<|qt<|O J<|Qi J<|O J<|q9 ?_
    obtain ⟨de,df,al⟩:=q7 al
    refine Q3<|Qe (qdk am k) (fun an=>⟨[(0,.yld 6),(1,.ref 4 1 0 0),(2,.ref 5 1 0 0),(4,q6 a.1),(5,.ref 7 3 0 0),(6,q6 1),(29,.d (.sl 1 ([b,c].map Qq))),(30,q6 2),(31,q6 1),(36,.d (.sl 6 (am.map Qg))),(37,q6 (am.length : Int)),(38,q6 an.1)],[(0,.dat 1 [[.fn p0F p0C]]),(1,.dat 1 [[.nilsl]]),(2,.dat 1 [[q8 0]]),(3,.cel 4 [[.hs 8 6 0 a.2.2.2.2.length,.d (.sl 4 (a.2.1.map Q2)),q6 a.2.2.1,q6 a.2.2.2.1]]),(4,.cel 1 [[.d (.sl 1 (f.map (eI .i64)))]]),(5,.dat 1 [[.sl 1 ([b,c].map Qq)]]),(6,.loop [(2,.ref 0 1 0 0),(4,.ref 1 1 0 0),(5,.ref 2 1 0 0),(6,.ref 3 4 0 0),(14,.fn 122 [.ref 4 1 0 0,.ref 5 1 0 0])] [15] A1597 B1598 .ready none),(7,.cel 3 [[q6 k,q6 l,.hs 9 1 0 2]]),(8,.dat 6 (a.2.2.2.2.map Qg)),(9,.cel 1 [[.hs 10 4 0 h.length],[.hs 11 4 0 an.2.length]]),(10,.dat 4 (h.map Q2)),(11,.dat 4 (an.2.map Q2))],12⟩) (0,[]) de df (wkA [(7,7),(8,8),(9,9),(10,10)] [] [11]) ?_
    intro an fh y
    unfold qdk at y
    refine qc<|G _ J<|q9<|qf ?_
    refine qo J y (fun _ y=>?_) (fun _ y=>?_)
    ·refine ql<|qf ?_
     obtain ⟨dg,q,y⟩:=q7 y
     refine Qk (fun ao=>ao = dg) (fun ao=>⟨[(0,.yld 6),(1,.ref 4 1 0 0),(2,.ref 5 1 0 0),(4,q6 a.1),(5,.ref 7 3 0 0),(6,q6 1),(29,.d (.sl 1 ([b,c].map Qq))),(30,q6 2),(31,q6 1),(36,.d (.sl 6 (am.map Qg))),(37,q6 (am.length : Int)),(38,q6 an.1)],[(0,.dat 1 [[.fn p0F p0C]]),(1,.dat 1 [[.nilsl]]),(2,.dat 1 [[q8 0]]),(3,.cel 4 [[.hs 8 6 0 a.2.2.2.2.length,.d (.sl 4 (a.2.1.map Q2)),q6 a.2.2.1,q6 a.2.2.2.1]]),(4,.cel 1 [[.d (.sl 1 (f.map (eI .i64)))]]),(5,.dat 1 [[.sl 1 ([b,c].map Qq)]]),(6,.loop [(2,.ref 0 1 0 0),(4,.ref 1 1 0 0),(5,.ref 2 1 0 0),(6,.ref 3 4 0 0),(14,.fn 122 [.ref 4 1 0 0,.ref 5 1 0 0])] [15] A1597 B1598 .ready none),(7,.cel 3 [[q6 k,q6 l,.hs 9 1 0 2]]),(8,.dat 6 (a.2.2.2.2.map Qg)),(9,.cel 1 [[.hs 10 4 0 h.length],[.hs 11 4 0 ao.length]]),(10,.dat 4 (h.map Q2)),(11,.dat 4 (ao.map Q2))],12⟩) qe ?_ ?_
     ·refine qc ?_
      obtain ⟨fi,dh,q⟩:=q7 q
      refine Qc dh J<|G _ J<|K4 J J<|Ql 12 _ J<|qt<|G _ J<|G _ J<|G _ J<|G _ J<|G _ J<|G _ J ?_
      obtain ⟨dj,ap,q⟩:=q7 q
      refine Qb 8 (fun A st=>∃ bi bj bk bl bm bn bo,st = A [(55,Q0 dj),(54,bo),(53,bn),(52,bm),(51,bl),(50,bk),(49,bj),(48,bi)]) ?_ ?_
      ·refine Q9 J J ap (fun ap=>?_) (fun ap=>?_)
       ·refine G _ J<|G _ J<|G _ J<|G _ J<|G _ J<|G _ J<|G _ J<|q9 ?_
        obtain rfl:=qd ap
        exact ⟨_,_,_,_,_,_,_,J⟩
       refine qb J<|qb J<|qb J<|qb J<|qb J<|qb J<|G _ J<|q9 ?_
       obtain rfl:=qd ap
       exact ⟨_,_,_,_,_,_,_,J⟩
      rintro _ ⟨bi,bj,bk,bl,bm,bn,bo,rfl⟩
      refine q9 ?_
      refine qo J q (fun _ q=>?_) (fun _ q=>?_)
      ·refine Qj [Qv 9,U,(some [11,13],[11,14]),(some [],[13]),U,qu 12,U,U,qu 12,U,U,qu 12,U,U,qu 12,U,U,qu 9,U,U,qu 7,U,U,qu 7,U] qh<|G _ J<|G _ J<|O J<|G _ J<|G _ J<|O J<|G _ J<|G _ J<|G _ J<|G _ J<|G _ J<|G _ J<|G _ J<|G _ J<|G _ J<|G _ J<|G _ J<|G _ J<|G _ J<|G _ J<|G _ J<|Qs _ _ J ?_
       obtain ⟨fj,dk,q⟩:=q7 q
       refine Ku _ dk J J J J J J J (Ks J J) J J J J<|G _ J<|Ql 9 _ J<|qv ?_
       obtain rfl:=qd q
       exact ⟨_,J,wkA [(7,7),(8,8),(9,9),(10,10),(11,14)] [] []⟩
      refine ql<|Qf ?_
      obtain rfl:=qd q
      exact ⟨_,J,wkA [(7,7),(8,8),(9,9),(10,10),(11,11)] [] []⟩
     intro ao hb
     subst hb
     refine qw<|G _ J<|O J<|qv ?_
     exact ⟨_,qm y,wkA [(7,7),(8,8),(9,9),(10,10),(11,11)] [] []⟩
    refine Q8 ?_
    refine ⟨_,qm y,fun hm=>?_⟩
    subst hm
    obtain rfl:=qd al
    exact ⟨_,J,wkA [(7,7),(8,8),(9,9),(10,10),(11,11)] [] []⟩
   intro p hb
   subst hb
   refine qw<|G _ J<|O J<|q9<|Ys<|qc<|G _ J<|q9<|qf<|Zf J<|Q8<|Jw<|qf ?_
   refine Yb (st':=⟨[(0,.yld 6),(1,.ref 4 1 0 0),(2,.ref 5 1 0 0),(4,q6 a.1),(5,.ref 7 3 0 0)],[(0,.dat 1 [[.fn p0F p0C]]),(1,.dat 1 [[.nilsl]]),(2,.dat 1 [[q8 0]]),(3,.cel 4 [[.hs 8 6 0 a.2.2.2.2.length,.d (.sl 4 (a.2.1.map Q2)),q6 a.2.2.1,q6 a.2.2.2.1]]),(4,.cel 1 [[.d (.sl 1 (f.map (eI .i64)))]]),(5,.dat 1 [[.sl 1 ([b,c].map Qq)]]),(6,.loop [(2,.ref 0 1 0 0),(4,.ref 1 1 0 0),(5,.ref 2 1 0 0),(6,.ref 3 4 0 0),(14,.fn 122 [.ref 4 1 0 0,.ref 5 1 0 0])] [15] A1597 B1598 .ready none),(7,.cel 3 [[q6 k,q6 l,.hs 9 1 0 2]]),(8,.dat 6 (a.2.2.2.2.map Qg)),(9,.cel 1 [[.d (.sl 4 (h.map Q2))],[.hs 10 4 0 p.length]]),(10,.dat 4 (p.map Q2))],11⟩) (wkA [(7,7),(8,8),(9,9),(10,11)] [10] []) ?_ qe
   refine Yb (st':=⟨[(0,.yld 6),(1,.ref 4 1 0 0),(2,.ref 5 1 0 0),(4,q6 a.1),(5,.ref 7 3 0 0)],[(0,.dat 1 [[.fn p0F p0C]]),(1,.dat 1 [[.nilsl]]),(2,.dat 1 [[q8 0]]),(3,.cel 4 [[.hs 8 6 0 a.2.2.2.2.length,.d (.sl 4 (a.2.1.map Q2)),q6 a.2.2.1,q6 a.2.2.2.1]]),(4,.cel 1 [[.d (.sl 1 (f.map (eI .i64)))]]),(5,.dat 1 [[.sl 1 ([b,c].map Qq)]]),(6,.loop [(2,.ref 0 1 0 0),(4,.ref 1 1 0 0),(5,.ref 2 1 0 0),(6,.ref 3 4 0 0),(14,.fn 122 [.ref 4 1 0 0,.ref 5 1 0 0])] [15] A1597 B1598 .ready none),(7,.cel 3 [[q6 k,q6 l,.hs 9 1 0 2]]),(8,.dat 6 (a.2.2.2.2.map Qg)),(9,.cel 1 [[.d (.sl 4 (h.map Q2))],[.d (.sl 4 (p.map Q2))]])],10⟩) (wkA [(7,7),(8,8),(9,9)] [10] []) ?_ qe
   refine qw<|O J<|G _ J ?_
   obtain ⟨dl,s,g⟩:=q7 g
   refine q5w (fun z=>.inl z = dl) (fun (z : List qi × Int × Int × List qg)=>⟨[(0,.yld 6),(1,.ref 4 1 0 0),(2,.ref 5 1 0 0),(4,q6 a.1),(84,Q0 true)],[(0,.dat 1 [[.fn p0F p0C]]),(1,.dat 1 [[.nilsl]]),(2,.dat 1 [[q8 0]]),(3,.cel 4 [[.hs 7 6 0 z.2.2.2.length,.d (.sl 4 (z.1.map Q2)),q6 z.2.1,q6 z.2.2.1]]),(4,.cel 1 [[.d (.sl 1 (f.map (eI .i64)))]]),(5,.dat 1 [[.sl 1 ([b,c].map Qq)]]),(6,.loop [(2,.ref 0 1 0 0),(4,.ref 1 1 0 0),(5,.ref 2 1 0 0),(6,.ref 3 4 0 0),(14,.fn 122 [.ref 4 1 0 0,.ref 5 1 0 0])] [15] A1597 B1598 .ready none),(7,.dat 6 (z.2.2.2.map Qg))],8⟩) hA1597 hB1598 J J J J J J ?_ ?_
   ·refine qw<|K4 J J<|Ql 10 _ J<|qv ?_
    refine ⟨J,_,J,?_⟩
    refine Q3<|qc<|G _ J<|G _ J<|G _ J<|G _ J ?_
    obtain ⟨bp,dm,s⟩:=q7 s
    refine Q4 (qgi h bp dm) J<|O J<|G _ J<|G _ J<|qa J<|qa J<|q9<|qf<|qc<|G _ J<|G _ J<|G _ J<|G _ J<|O J<|q9<|Q3<|Ys<|qc<|G _ J<|q9<|qf<|Zg J<|ql<|qf ?_
    obtain ⟨dn,m,s⟩:=q7 s
    refine Qk (fun ab=>ab = dn) (fun ab=>⟨[(2,.ref 0 1 0 0),(4,.ref 1 1 0 0),(5,.ref 2 1 0 0),(6,.ref 3 4 0 0),(7,.ref 10 3 0 0),(8,.d (.sl 4 (ab.1.map Q2))),(9,q6 ab.2),(26,.hs 9 1 1 1),(27,q6 1),(28,q6 0)],[(0,.dat 1 [[.fn p0F p0C]]),(1,.dat 1 [[.nilsl]]),(2,.dat 1 [[q8 0]]),(3,.cel 4 [[.hs 8 6 0 a.2.2.2.2.length,.d (.sl 4 (a.2.1.map Q2)),q6 a.2.2.1,q6 a.2.2.2.1]]),(4,.cel 1 [[.d (.sl 1 (f.map (eI .i64)))]]),(5,.dat 1 [[.sl 1 ([b,c].map Qq)]]),(6,.loop [(2,.ref 0 1 0 0),(4,.ref 1 1 0 0),(5,.ref 2 1 0 0),(6,.ref 3 4 0 0),(14,.fn 122 [.ref 4 1 0 0,.ref 5 1 0 0])] [15] A1597 B1598 .busy none),(7,.cel 3 [[q6 k,q6 l,.hs 9 1 0 2]]),(8,.dat 6 (a.2.2.2.2.map Qg)),(9,.cel 1 [[.d (.sl 4 (h.map Q2))],[.d (.sl 4 (p.map Q2))]]),(10,.cel 3 [[q6 k,q6 l,.hs 9 1 0 2]])],11⟩) qe ?_ ?_
    ·refine qc<|G _ J<|G _ J<|qa J<|qt<|O J<|G _ J<|q9 ?_
     refine qo J m (fun _ m=>?_) (fun _ m=>?_)
     ·refine qc<|qa J<|qt<|O J ?_
      obtain ⟨bq,dp,m⟩:=q7 m
      refine Q4 (qgi p bq dp) J<|O J<|G _ J<|G _ J<|qa J<|qa J<|qt<|O J<|G _ J<|q9 ?_
      refine qo J m (fun _ m=>?_) (fun _ m=>?_)
      ·refine qw<|G _ J<|G _ J<|O J<|O J ?_
       obtain ⟨dq,dr,m⟩:=q7 m
       refine Yk _ (p0Ok bp.1 bq.1 dq dr) J J J (.inl J)<|O J<|G _ J<|G _ J<|qa J<|qa J<|qv ?_
       obtain rfl:=qd m
       exact ⟨_,J,wkA [(10,10)] [] []⟩
      refine ql<|Qf ?_
      obtain rfl:=qd m
      exact ⟨_,J,wkA [(10,10)] [] []⟩
     refine ql<|Qf ?_
     obtain rfl:=qd m
     exact ⟨_,J,wkA [(10,10)] [] []⟩
    intro ab hb
    subst hb
    refine qw<|G _ J<|O J<|q9<|Ys<|qc<|G _ J<|q9<|qf<|Zf J<|Q8<|Jw<|qf<|qc<|O J<|G _ J<|q9 ?_
    refine qo J s (fun _ s=>?_) (fun _ s=>?_)
    ·refine qc<|O J<|Ql 1 _ J<|Ql 2 _ J<|qs ?_
     obtain rfl:=qd s
     refine ⟨_,J,?_⟩
     refine G _ J<|q9<|Zg J<|q15 ?_
     refine ⟨_,qm g,fun hm=>?_⟩
     subst hm
     refine ⟨.inr J,_,J,_,_,.ret,J,qx,?_⟩
     refine qbl ?_
     obtain rfl:=qd au
     obtain rfl:=qd n
     exact finD (.inr J) J J (Ye (.cons (.nil _) (.cons (.refl _) .nil)))
    refine ql<|qw<|G _ J<|G _ J<|G _ J<|G _ J<|O J ?_
    obtain ⟨ac,ds,s⟩:=q7 s
    refine K9 [(0,3),(1,8)] [(0,3),(1,3),(2,3),(3,0),(4,3),(5,3),(6,3),(7,3),(8,1),(9,3),(10,3),(11,2)] _ (.d (.tup [])) 2 [(3,.cel 4 [[.hs 11 6 0 ac.2.2.2.length,.d (.sl 4 (ac.1.map Q2)),q6 ac.2.1,q6 ac.2.2.1]]),(11,.dat 6 (ac.2.2.2.map Qg)),(0,.dat 1 [[.fn p0F p0C]]),(1,.dat 1 [[.nilsl]]),(2,.dat 1 [[q8 0]]),(4,.cel 1 [[.d (.sl 1 (f.map (eI .i64)))]]),(5,.dat 1 [[.sl 1 ([b,c].map Qq)]]),(6,.loop [(2,.ref 0 1 0 0),(4,.ref 1 1 0 0),(5,.ref 2 1 0 0),(6,.ref 3 4 0 0),(14,.fn 122 [.ref 4 1 0 0,.ref 5 1 0 0])] [15] A1597 B1598 .busy none),(7,.cel 3 [[q6 k,q6 l,.hs 9 1 0 2]]),(9,.cel 1 [[.d (.sl 4 (h.map Q2))],[.d (.sl 4 (p.map Q2))]]),(10,.cel 3 [[q6 k,q6 l,.hs 9 1 0 2]])] 12 (qnp a.2.2.2.2 a.2.1 a.2.2.1 a.2.2.2.1 k l ab.1 ac ds)<|qv<|Qn<|Qf ?_
    refine ⟨_,J,?_⟩
    obtain rfl:=qd s
    exact ⟨_,J,wkA [(7,11)] [] []⟩
   intro z hb
   subst hb
   refine G _ J<|q9<|Zf J<|ql<|Qf<|Qn<|qw<|O J<|G _ J<|qa J<|qv ?_
   exact ⟨_,qm g,wkA [(7,7)] [] []⟩
  refine Q8 ?_
  refine ⟨_,qm g,fun hm=>?_⟩
  subst hm
  refine ⟨.inl J,_,J,_,_,.nor,J,qx,?_⟩
  refine q56<|Qf ?_
  obtain rfl:=qd au
  exact ⟨_,J,wkA [(0,1),(1,2),(2,3),(3,7)] [] []⟩
 intro w st hb hw
 subst hb
 refine Yb hw ?_ qe
 refine qf<|qc<|G _ J<|G _ J<|G _ J<|G _ J<|q9 ?_
 refine qo J n (fun _ n=>?_) (fun _ n=>?_)
 ·refine qc<|Ql 0 _ J<|Ql 1 _ J<|qs ?_
  obtain rfl:=qd n
  exact finD (.inr J) J J (Ye (.cons (.nil _) (.cons (.refl _) .nil)))
 refine ql<|qc<|G _ J<|G _ J<|Ql 0 _ J<|Ql 1 _ J<|qs ?_
 obtain rfl:=qd n
 exact finD (.inr J) J (q53 (Yp (Zi J J) (Yp J J))) (.refl _)
theorem q11u (b : List qg) (c : List qg) (d : List qi→List qi→Option (List qi × Int)) (p2F : FuncId) (p2C : List DV) (p2Ok : ∀ (f : List qi) (g : List qi) (r : List qi × Int),d f g = some r→Pure Tryz.prog tab p2F ([.sl 4 (f.map Q2),.sl 4 (g.map Q2)] ++ p2C) (.tup [.sl 4 (r.1.map Q2),q8 r.2])) (r : List qg × Int) (a : qar b c d = some r) : Pure Tryz.prog tab 52 [.sl 6 (b.map Qg),.sl 6 (c.map Qg),.agg [.fn p2F p2C]] (.tup [.sl 6 (r.1.map Qg),q8 r.2]):=by
 unfold qar at a
 refine Qo Tryz.func52 J qh qh J<|qc<|Qs _ _ J<|qa J<|qa J<|q9<|qf<|qc<|O J ?_
 obtain ⟨h,j,a⟩:=q7 a
 refine Q4 (qao b h j) J<|qa J<|qt<|O J<|G _ J<|q9 ?_
 refine qo J a (fun _ a=>?_) (fun _ a=>?_)
 ·refine qc<|O J<|qa J<|qa J<|qs ?_
  obtain rfl:=qd a
  exact finD (.inr J) J J (Ye (.cons (.nil _) (.cons (.refl _) .nil)))
 refine ql<|qf<|qc<|O J ?_
 obtain ⟨k,l,a⟩:=q7 a
 refine Q4 (qao c k l) J<|qa J<|qt<|O J<|G _ J<|q9 ?_
 refine qo J a (fun _ a=>?_) (fun _ a=>?_)
 ·refine qc<|O J<|qa J<|qa J<|qs ?_
  obtain rfl:=qd a
  exact finD (.inr J) J J (Ye (.cons (.nil _) (.cons (.refl _) .nil)))
 refine ql<|qc<|G _ J<|O J<|O J<|q40 (es:=1) ([b,c].map Qq) J J J J J ?_
 obtain ⟨m,n,a⟩:=q7 a
 refine Q4 (q11w d b c p2F p2C p2Ok m n) J<|G _ J<|G _ J<|qa J<|qa J<|qs ?_
 obtain rfl:=qd a
 exact Q5 _ J
theorem qyv (b : List qi) (g : qi→Option Bool) (p1F : FuncId) (p1C : List DV) (p1Ok : ∀ (c : qi) (r : Bool),g c = some r→Pure Tryz.prog tab p1F ([.agg [q8 c.X0,q8 c.Y0,q8 c.X1,q8 c.Y1]] ++ p1C) (.bool r)) (r : Int) (f : qdb b g = some r) : Pure Tryz.prog tab 161 [.sl 4 (b.map Q2),.fn p1F p1C] (q8 r):=by
 unfold qdb at f
 refine Qo Tryz.func161 J qh qh J<|qc<|qa J<|q9<|qf<|qc<|O J<|Qi J<|O J<|q9 ?_
 obtain ⟨j,l,f⟩:=q7 f
 refine Qk (fun h=>.inl h = j) (fun h=>⟨[],[],0⟩) qe ?_ ?_
 ·refine Qe (q4k b g) (fun k=>⟨[(0,.d (.sl 4 (b.map Q2))),(1,.d (.fn p1F p1C)),(7,q6 (b.length : Int)),(8,q6 k)],[],0⟩) 0 j l (wkA [] [] []) ?_
  intro k q a
  unfold q4k at a
  refine qc<|G _ J<|q9<|qf ?_
  refine qo J a (fun _ a=>?_) (fun _ a=>?_)
  ·refine ql<|qf<|Q3<|qc<|O J<|qa J<|qt<|O J<|O J<|O J ?_
   obtain ⟨m,n,a⟩:=q7 a
   refine Qc n J<|G _ J ?_
   obtain ⟨o,p,a⟩:=q7 a
   refine Yk _ (p1Ok m o p) J J J (.inl J)<|q9 ?_
   refine qo J a (fun _ a=>?_) (fun _ a=>?_)
   ·refine qc<|O J<|qa J<|qs ?_
    refine ⟨_,qm a,fun hm=>?_⟩
    subst hm
    obtain rfl:=qd f
    exact Q5 _ J
   refine ql<|Qf<|Qn<|qw<|G _ J<|O J<|qv ?_
   exact ⟨_,qm a,wkA [] [] []⟩
  refine Q8 ?_
  refine ⟨_,qm a,fun hm=>?_⟩
  subst hm
  exact ⟨_,J,wkA [] [] []⟩
 intro h hb
 subst hb
 refine qc<|qa J<|qs ?_
 obtain rfl:=qd f
 exact Q5 _ J
theorem qyn (c : List qi) (d : qi→Option Bool) (p1F : FuncId) (p1C : List DV) (p1Ok : ∀ (a : qi) (r : Bool),d a = some r→Pure Tryz.prog tab p1F ([.agg [q8 a.X0,q8 a.Y0,q8 a.X1,q8 a.Y1]] ++ p1C) (.bool r)) (r : Bool) (b : q9s c d = some r) : Pure Tryz.prog tab 141 [.sl 4 (c.map Q2),.fn p1F p1C] (.bool r):=by
 unfold q9s at b
 refine Qo Tryz.func141 J qh qh J<|qc<|qa J<|qt<|O J<|O J ?_
 obtain ⟨f,g,b⟩:=q7 b
 refine Q4 (qyv c d p1F p1C p1Ok f g) J<|G _ J<|qa J<|qs ?_
 obtain rfl:=qd b
 exact Q5 _ J
theorem qwh (a : qi) (r : Bool) (b : q33 a = some r) : Pure Tryz.prog tab 142 [.agg [q8 a.X0,q8 a.Y0,q8 a.X1,q8 a.Y1]] (.bool r):=by
 unfold q33 at b
 refine Qo Tryz.func142 J qh qh J<|qc<|Qs _ _ J<|qa J<|qt<|G _ J ?_
 obtain ⟨c,d,b⟩:=q7 b
 refine Q4 (qmk a c d) J<|G _ J<|qa J<|qs ?_
 obtain rfl:=qd b
 exact Q5 _ J
theorem qmg (c : List qi) (r : Int) (a : q6g c = some r) : Pure Tryz.prog tab 128 [.sl 4 (c.map Q2)] (q8 r):=by
 unfold q6g at a
 refine Qo Tryz.func128 J qh qh J<|qc<|qa J<|q9<|qf<|qc<|O J<|Qi J<|G _ J<|q9 ?_
 refine qo J a (fun _ a=>?_) (fun _ a=>?_)
 ·refine qc<|qa J<|qs ?_
  obtain rfl:=qd a
  exact Q5 _ J
 refine ql<|qf<|qc<|O J ?_
 obtain ⟨m,n,a⟩:=q7 a
 refine Q4 (qyn c (fun d=>q33 d) 142 [] (fun d r hr=>qwh d r hr) m n) J<|q9 ?_
 refine qo J a (fun _ a=>?_) (fun _ a=>?_)
 ·refine qc<|qa J<|qs ?_
  obtain rfl:=qd a
  exact Q5 _ J
 refine ql<|qf<|qc<|O J ?_
 obtain ⟨f,o,a⟩:=q7 a
 refine Q4 (qmj c f o) J<|O J<|G _ J<|G _ J<|qa J<|qa J<|qt<|O J<|G _ J ?_
 obtain ⟨p,b,a⟩:=q7 a
 refine Qb 6 (fun A st=>∃ g h j k l,st = A [(22,Q0 p),(21,l),(20,k),(19,j),(18,h),(17,g)]) ?_ ?_
 ·refine Q9 J J b (fun b=>?_) (fun b=>?_)
  ·refine qb J<|qb J<|qb J<|qb J<|G _ J<|q9 ?_
   obtain rfl:=qd b
   exact ⟨_,_,_,_,_,J⟩
  refine O J<|O J ?_
  obtain ⟨q,s,b⟩:=q7 b
  refine Q4 (qnc f.1 c q s) J<|G _ J<|G _ J<|q9 ?_
  obtain rfl:=qd b
  exact ⟨_,_,_,_,_,J⟩
 rintro _ ⟨g,h,j,k,l,rfl⟩
 refine q9 ?_
 refine qo J a (fun _ a=>?_) (fun _ a=>?_)
 ·refine qc<|qa J<|qs ?_
  obtain rfl:=qd a
  exact Q5 _ J
 refine ql<|qc<|qa J<|qs ?_
 obtain rfl:=qd a
 exact Q5 _ J
theorem qwn (b : List qi) (c : List qi) (r : Int) (a : q9j b c = some r) : Pure Tryz.prog tab 108 [.sl 4 (b.map Q2),.sl 4 (c.map Q2)] (q8 r):=by
 unfold q9j at a
 refine Qo Tryz.func108 J qh qh J<|qc<|qa J<|q9<|qf<|qc<|O J ?_
 obtain ⟨d,f,a⟩:=q7 a
 refine Q4 (qmg b d f) J<|qa J<|qt<|O J<|G _ J<|q9 ?_
 refine qo J a (fun _ a=>?_) (fun _ a=>?_)
 ·refine qc<|O J<|qa J<|qs ?_
  obtain rfl:=qd a
  exact Q5 _ J
 refine ql<|qc<|O J ?_
 obtain ⟨g,h,a⟩:=q7 a
 refine Q4 (qmg c g h) J<|qa J<|qs ?_
 obtain rfl:=qd a
 exact Q5 _ J
theorem qws (b : List qi) (c : List qi) (p2 : List qk→List qk→Option (List qk × Int)) (p2F : FuncId) (p2C : List DV) (p2Ok : ∀ (x0 : List qk) (x1 : List qk) (r : List qk × Int),p2 x0 x1 = some r→Pure Tryz.prog tab p2F ([.sl 2 (x0.map Qh),.sl 2 (x1.map Qh)] ++ p2C) (.tup [.sl 2 (r.1.map Qh),q8 r.2])) (r : List qi × Int) (p : q9k b c p2 = some r) : Pure Tryz.prog tab 83 [.sl 4 (b.map Q2),.sl 4 (c.map Q2),.fn p2F p2C] (.tup [.sl 4 (r.1.map Q2),q8 r.2]):=by
 unfold q9k at p
 refine Qo Tryz.func83 J qh qh J<|qc<|Qs (.ref 0 1 0 0) (.dat 1 [[.fn p2F p2C]]) J<|K4 J J<|K4 J J<|q9<|qf<|qc<|O J<|O J ?_
 obtain ⟨r1,h2,p⟩:=q7 p
 refine Q4 (qwn b c r1 h2) J<|qa J<|qt<|O J<|G (Q0 (r1 != 0)) J<|q9 ?_
 refine qo J p (fun _ p=>?_) (fun _ p=>?_)
 ·refine qc<|O J<|Ql 1 (.dat 1 [[.nilsl]]) J<|Ql 2 (.dat 1 [[q8 r1]]) J<|qs ?_
  obtain rfl:=qd p
  exact finD (.inr J) (v:=.d (.tup [.nilsl,q8 r1])) J J (Ye (.cons (.nil _) (.cons (.refl _) .nil)))
 refine ql<|qc<|K4 J J<|q9<|qf<|qc<|O J<|O J<|Qs (.hs 4 1 0 [b,c].length) (.dat 1 ([b,c].map Kp)) J ?_
 obtain ⟨cb,q,p⟩:=q7 p
 refine q3z [.hs 4 1 0 [b,c].length] (fun j=>j = cb) (fun (j : List Int)=>⟨[(5,.ref 0 1 0 0),(6,.ref 1 1 0 0),(7,.ref 2 1 0 0),(9,.ref 3 4 0 0),(22,.fn 129 [.ref 4 1 0 0,.ref 5 1 0 0])],[(0,.dat 1 [[.fn p2F p2C]]),(1,.dat 1 [[.nilsl]]),(2,.dat 1 [[q8 0]]),(3,.dat 4 [[.nilsl,.nilsl,q8 0,q8 0]]),(4,.cel 1 [[.d (.sl 1 (j.map (eI .i64)))]]),(5,.cel 1 [[.hs 6 1 0 [b,c].length]]),(6,.dat 1 ([b,c].map Kp))],7⟩) J J Tryz.func109 J qh qh J ?_ ?_
 ·refine qc<|Qs (.ref 5 1 0 0) (.cel 1 [[.hs 4 1 0 [b,c].length]]) J<|qa J<|qt<|K4 J J<|q9<|qf<|qc<|G (.hs 4 1 0 [b,c].length) J<|G (q6 2) J<|O J<|q9<|Q3<|Ys<|qc<|G (Q0 true) J<|q9<|qf<|Zg J<|ql<|qf ?_
  obtain ⟨cc,ap,q⟩:=q7 q
  refine Qk (fun an=>an = cc) (fun (an : List Int)=>⟨[(1,.ref 5 1 0 0),(3,.ref 6 1 0 0),(8,.hs 4 1 0 [b,c].length),(9,q6 2),(10,q6 0)],[(0,.dat 1 [[.fn p2F p2C]]),(1,.dat 1 [[.nilsl]]),(2,.dat 1 [[q8 0]]),(3,.dat 4 [[.nilsl,.nilsl,q8 0,q8 0]]),(4,.dat 1 ([b,c].map Kp)),(5,.cel 1 [[.hs 4 1 0 [b,c].length]]),(6,.cel 1 [[.hs 7 1 0 an.length]]),(7,.dat 1 (an.map (eI .i64)))],8⟩) qe ?_ ?_
  ·refine qc ?_
   obtain ⟨aq,bi,ap⟩:=q7 ap
   refine qz bi J J<|Qd (.d (.sl 4 (aq.map Q2))) bi J<|qa J<|qt<|O J<|Qi J<|O J<|q9 ?_
   obtain ⟨cd,ce,ap⟩:=q7 ap
   refine Q3<|Qe (qcw aq) (fun (ae : Int × List Int)=>⟨[(1,.ref 5 1 0 0),(3,.ref 6 1 0 0),(8,.hs 4 1 0 [b,c].length),(9,q6 2),(10,q6 0),(14,.d (.sl 4 (aq.map Q2))),(15,q6 (aq.length : Int)),(16,q6 ae.1)],[(0,.dat 1 [[.fn p2F p2C]]),(1,.dat 1 [[.nilsl]]),(2,.dat 1 [[q8 0]]),(3,.dat 4 [[.nilsl,.nilsl,q8 0,q8 0]]),(4,.dat 1 ([b,c].map Kp)),(5,.cel 1 [[.hs 4 1 0 [b,c].length]]),(6,.cel 1 [[.hs 7 1 0 ae.2.length]]),(7,.dat 1 (ae.2.map (eI .i64)))],8⟩) (0,[]) cd ce (wkA [(5,5),(6,6)] [] [7]) ?_
   intro ae dy z
   unfold qcw at z
   refine qc<|G (.d (.bool (decide (ae.1 < (aq.length : Int))))) J<|q9<|qf ?_
   refine qo J z (fun _ z=>?_) (fun _ z=>?_)
   ·refine ql<|qf<|Q3<|qc ?_
    obtain ⟨k,cf,z⟩:=q7 z
    refine Qc (enc:=Q2) cf J<|G (.d (.agg [q8 k.X0,q8 k.Y0,q8 k.X1,q8 k.Y1])) J<|K4 J J<|Ql 8 (.dat 4 [[q8 k.X0,q8 k.Y0,q8 k.X1,q8 k.Y1]]) J<|q9<|qw<|G (.hs 7 1 0 ae.2.length) J<|G (.ref 8 4 0 0) J<|G (q6 k.X0) J<|G (.ref 8 4 0 2) J<|G (q6 k.X1) J<|Qs (.hs 9 1 0 [k.X0,k.X1].length) (.dat 1 ([k.X0,k.X1].map (eI .i64))) J ?_
    obtain ⟨cg,ch,z⟩:=q7 z
    refine Ku (xs:=ae.2) (ys:=[k.X0,k.X1]) (enc:=(eI .i64)) (.hs 9 1 0 [k.X0,k.X1].length) ch J J J J J J J (Ks J J) J J J J<|Ql 6 (.cel 1 [[.hs 10 1 0 cg.length]]) J<|qv<|Qn<|qw<|G (.d (q8 (w64 (ae.1 + 1)))) J<|O J<|qv ?_
    exact ⟨_,qm z,wkA [(5,5),(6,6),(7,10)] [] []⟩
   refine Q8 ?_
   refine ⟨_,qm z,fun hm=>?_⟩
   subst hm
   obtain rfl:=qd ap
   exact ⟨_,J,wkA [(5,5),(6,6),(7,7)] [] []⟩
  intro an hb
  subst hb
  refine qw<|G (q6 1) J<|O J<|q9<|Ys<|qc<|G (Q0 true) J<|q9<|qf<|Zg J<|ql<|qf ?_
  obtain ⟨ci,ar,q⟩:=q7 q
  refine Qk (fun s=>s = ci) (fun (s : List Int)=>⟨[(1,.ref 5 1 0 0),(3,.ref 6 1 0 0),(8,.hs 4 1 0 [b,c].length),(9,q6 2),(10,q6 1)],[(0,.dat 1 [[.fn p2F p2C]]),(1,.dat 1 [[.nilsl]]),(2,.dat 1 [[q8 0]]),(3,.dat 4 [[.nilsl,.nilsl,q8 0,q8 0]]),(4,.dat 1 ([b,c].map Kp)),(5,.cel 1 [[.hs 4 1 0 [b,c].length]]),(6,.cel 1 [[.hs 7 1 0 s.length]]),(7,.dat 1 (s.map (eI .i64)))],8⟩) qe ?_ ?_
  ·refine qc ?_
   obtain ⟨au,bj,ar⟩:=q7 ar
   refine qz bj J J<|Qd (.d (.sl 4 (au.map Q2))) bj J<|qa J<|qt<|O J<|Qi J<|O J<|q9 ?_
   obtain ⟨cj,ck,ar⟩:=q7 ar
   refine Q3<|Qe (qcx au) (fun (af : Int × List Int)=>⟨[(1,.ref 5 1 0 0),(3,.ref 6 1 0 0),(8,.hs 4 1 0 [b,c].length),(9,q6 2),(10,q6 1),(14,.d (.sl 4 (au.map Q2))),(15,q6 (au.length : Int)),(16,q6 af.1)],[(0,.dat 1 [[.fn p2F p2C]]),(1,.dat 1 [[.nilsl]]),(2,.dat 1 [[q8 0]]),(3,.dat 4 [[.nilsl,.nilsl,q8 0,q8 0]]),(4,.dat 1 ([b,c].map Kp)),(5,.cel 1 [[.hs 4 1 0 [b,c].length]]),(6,.cel 1 [[.hs 7 1 0 af.2.length]]),(7,.dat 1 (af.2.map (eI .i64)))],8⟩) (0,an) cj ck (wkA [(5,5),(6,6),(7,7)] [] []) ?_
   intro af dz aa
   unfold qcx at aa
   refine qc<|G (.d (.bool (decide (af.1 < (au.length : Int))))) J<|q9<|qf ?_
   refine qo J aa (fun _ aa=>?_) (fun _ aa=>?_)
   ·refine ql<|qf<|Q3<|qc ?_
    obtain ⟨l,cm,aa⟩:=q7 aa
    refine Qc (enc:=Q2) cm J<|G (.d (.agg [q8 l.X0,q8 l.Y0,q8 l.X1,q8 l.Y1])) J<|K4 J J<|Ql 8 (.dat 4 [[q8 l.X0,q8 l.Y0,q8 l.X1,q8 l.Y1]]) J<|q9<|qw<|G (.hs 7 1 0 af.2.length) J<|G (.ref 8 4 0 0) J<|G (q6 l.X0) J<|G (.ref 8 4 0 2) J<|G (q6 l.X1) J<|Qs (.hs 9 1 0 [l.X0,l.X1].length) (.dat 1 ([l.X0,l.X1].map (eI .i64))) J ?_
    obtain ⟨cn,co,aa⟩:=q7 aa
    refine Ku (xs:=af.2) (ys:=[l.X0,l.X1]) (enc:=(eI .i64)) (.hs 9 1 0 [l.X0,l.X1].length) co J J J J J J J (Ks J J) J J J J<|Ql 6 (.cel 1 [[.hs 10 1 0 cn.length]]) J<|qv<|Qn<|qw<|G (.d (q8 (w64 (af.1 + 1)))) J<|O J<|qv ?_
    exact ⟨_,qm aa,wkA [(5,5),(6,6),(7,10)] [] []⟩
   refine Q8 ?_
   refine ⟨_,qm aa,fun hm=>?_⟩
   subst hm
   obtain rfl:=qd ar
   exact ⟨_,J,wkA [(5,5),(6,6),(7,7)] [] []⟩
  intro s hb
  subst hb
  refine qw<|G (q6 2) J<|O J<|q9<|Ys<|qc<|G (Q0 false) J<|q9<|qf<|Zf J<|Q8<|Jw<|qc<|G (.hs 7 1 0 s.length) J ?_
  obtain ⟨bf,cp,q⟩:=q7 q
  obtain ⟨fa,cq,q⟩:=q7 q
  have cr:=Kn cq
  refine K9 [(0,7)] [(0,1),(1,1),(2,1),(3,1),(4,1),(5,1),(6,1),(7,0)] [.hs 7 1 0 s.length] (.d (.tup [])) 1 [(7,.dat 1 (bf.map (eI .i64))),(0,.dat 1 [[.fn p2F p2C]]),(1,.dat 1 [[.nilsl]]),(2,.dat 1 [[q8 0]]),(3,.dat 4 [[.nilsl,.nilsl,q8 0,q8 0]]),(4,.dat 1 ([b,c].map Kp)),(5,.cel 1 [[.hs 4 1 0 [b,c].length]]),(6,.cel 1 [[.hs 7 1 0 s.length]])] 8 (qdc s bf cp)<|qt<|G (.hs 7 1 0 s.length) J ?_
  obtain ⟨ak,cs,q⟩:=q7 q
  obtain ⟨fb,ct,q⟩:=q7 q
  have fc:=Kn ct
  obtain ⟨fd,cu,q⟩:=q7 q
  have cv:=qdu cu
  refine U1 [(0,7)] [(0,1),(1,1),(2,1),(3,1),(4,1),(5,1),(6,1),(7,0)] [.hs 7 1 0 s.length] (.hs 7 1 ak.1.1 ak.1.2) [(7,.dat 1 (ak.2.map (eI .i64)))] [(7,.dat 1 (ak.2.map (eI .i64))),(0,.dat 1 [[.fn p2F p2C]]),(1,.dat 1 [[.nilsl]]),(2,.dat 1 [[q8 0]]),(3,.dat 4 [[.nilsl,.nilsl,q8 0,q8 0]]),(4,.dat 1 ([b,c].map Kp)),(5,.cel 1 [[.hs 4 1 0 [b,c].length]]),(6,.cel 1 [[.hs 7 1 0 s.length]])] 8 (qd3 bf ak cs) J J J (Ym [(0,7)] [] [] J ⟨⟨_,J,K6 (by simp [cr]) J qx (ltd J)⟩,trivial⟩ ⟨Qt J J,trivial⟩) (Ym [(0,1),(1,1),(2,1),(3,1),(4,1),(5,1),(6,1),(7,0)] [] [] J ⟨⟨_,J,.hs J qx (ltd J)⟩,trivial⟩ ⟨Qt J J,trivial⟩) J ⟨.inl J,.inr ⟨J,J⟩,.inr ⟨J,J⟩,.inr ⟨J,J⟩,.inr ⟨J,J⟩,.inr ⟨J,J⟩,.inr ⟨J,J⟩,.inr ⟨J,J⟩,trivial⟩<|Ql 6 (.cel 1 [[.hs 7 1 ak.1.1 ak.1.2]]) J<|qt<|G (.fn 129 [.ref 6 1 0 0,.ref 5 1 0 0]) J<|qa J<|qs ?_
  refine ⟨.inr J,_,J,?_⟩
  obtain rfl:=qd q
  exact ⟨_,J,wkE [(0,0),(1,1),(2,2),(3,3),(4,6),(5,5),(6,4)] [7] [] J ⟨⟨_,J,.ref J qx (ltd J)⟩,⟨_,J,.ref J qx (ltd J)⟩,⟨_,J,.ref J qx (ltd J)⟩,⟨_,J,.ref J qx (ltd J)⟩,⟨_,J,(q2c (.cons (.ref J qx (ltd J)) (.cons (.ref J qx (ltd J)) .nil)))⟩,trivial⟩ ⟨Qt J J,Qt J J,Qt J J,Qt J J,⟨ltd J,.inr ⟨qx,_,J,Jm (.cons (qdw cv J qx) J .nil)⟩⟩,⟨ltd J,.inr ⟨qx,_,J,Jm (.cons (.hs J qx (ltd J)) J .nil)⟩⟩,Qt J J,trivial⟩⟩
 intro j hb
 subst hb
 refine q9<|Q3 ?_
 obtain ⟨cw,bd,p⟩:=q7 p
 refine q6p (fun t=>.inl t = cw) (fun (t : List qk × Int × Int × List qi)=>⟨[(6,.ref 0 1 0 0),(7,.ref 1 1 0 0),(9,.ref 2 4 0 0)],[(0,.dat 1 [[.nilsl]]),(1,.dat 1 [[q8 0]]),(2,.cel 4 [[.hs 3 4 0 t.2.2.2.length,.d (.sl 2 (t.1.map Qh)),q6 t.2.1,q6 t.2.2.1]]),(3,.dat 4 (t.2.2.2.map Q2))],4⟩) ?_ ?_
 ·refine Yb (st':=⟨[(5,.ref 0 1 0 0),(6,.ref 1 1 0 0),(7,.ref 2 1 0 0),(9,.ref 3 4 0 0),(22,.fn 129 [.ref 4 1 0 0,.ref 5 1 0 0])],[(0,.dat 1 [[.fn p2F p2C]]),(1,.dat 1 [[.nilsl]]),(2,.dat 1 [[q8 0]]),(3,.dat 4 [[.nilsl,.nilsl,q8 0,q8 0]]),(4,.cel 1 [[.d (.sl 1 (j.map (eI .i64)))]]),(5,.cel 1 [[.hs 6 1 0 [b,c].length]]),(6,.dat 1 ([b,c].map Kp))],7⟩) (wkA [(0,0),(1,1),(2,2),(3,3),(4,4),(5,5),(6,6)] [] []) ?_ qe
  refine q6q [.ref 4 1 0 0,.ref 5 1 0 0] (.inl J) Tryz.func129 J qh qh J ?_
  intro A1439 B1440 hA1439 hB1440
  refine qc<|qa J<|q9 ?_
  obtain ⟨cx,cy,bd⟩:=q7 bd
  refine Q3<|Qe (q4h j b c p2) (fun (a : Int × List qk × Int × Int × List qi)=>⟨[(0,.yld 7),(1,.ref 4 1 0 0),(2,.ref 5 1 0 0),(4,q6 a.1)],[(0,.dat 1 [[.fn p2F p2C]]),(1,.dat 1 [[.nilsl]]),(2,.dat 1 [[q8 0]]),(3,.cel 4 [[.hs 8 4 0 a.2.2.2.2.length,.d (.sl 2 (a.2.1.map Qh)),q6 a.2.2.1,q6 a.2.2.2.1]]),(4,.cel 1 [[.d (.sl 1 (j.map (eI .i64)))]]),(5,.cel 1 [[.hs 6 1 0 [b,c].length]]),(6,.dat 1 ([b,c].map Kp)),(7,.loop [(5,.ref 0 1 0 0),(6,.ref 1 1 0 0),(7,.ref 2 1 0 0),(9,.ref 3 4 0 0),(22,.fn 129 [.ref 4 1 0 0,.ref 5 1 0 0])] [23] A1439 B1440 .ready none),(8,.dat 4 (a.2.2.2.2.map Q2))],9⟩) (1,[],0,0,[]) cx cy (wkA [] [] [8]) ?_
  intro a fe o
  unfold q4h at o
  refine qf<|qc<|O J<|G (.d (.sl 1 (j.map (eI .i64)))) J<|Qi J<|G (.d (.bool (decide (a.1 < (j.length : Int))))) J<|q9 ?_
  refine qo J o (fun _ o=>?_) (fun _ o=>?_)
  ·refine ql<|qf<|Q3<|qf<|Qj [Qv 10,(some [],[10]),U,(some [],[9]),U,qu 5,U,U,U,qu 4,U,U,U,U,qu 4] qh<|G (.d (.sl 1 (j.map (eI .i64)))) J<|O J<|G (.d (q8 (w64 (a.1 - 1)))) J ?_
   obtain ⟨f,cz,o⟩:=q7 o
   refine Qc (enc:=(eI .i64)) cz J<|G (q6 f) J<|G (.d (.sl 1 (j.map (eI .i64)))) J<|O J ?_
   obtain ⟨m,da,o⟩:=q7 o
   refine Qc (enc:=(eI .i64)) da J<|G (q6 m) J<|G (.hs 6 1 0 [b,c].length) J<|G (q6 2) J<|Qs (.hs 9 1 0 2) (.dat 1 [[.nilsl],[.nilsl]]) J<|G (.agg [q6 f,q6 m,.hs 9 1 0 2]) J<|K4 J J<|Ql 10 (.cel 3 [[q6 f,q6 m,.hs 9 1 0 2]]) J<|q9<|qf<|qc<|G (.hs 6 1 0 [b,c].length) J<|G (q6 2) J<|O J<|q9<|Q3<|Ys<|qc<|G (Q0 true) J<|q9<|qf<|Zg J<|ql<|qf ?_
   obtain ⟨dc,av,o⟩:=q7 o
   refine Qk (fun n=>n = dc) (fun (n : List qk)=>⟨[(0,.yld 7),(1,.ref 4 1 0 0),(2,.ref 5 1 0 0),(4,q6 a.1),(5,.ref 8 3 0 0),(29,.hs 6 1 0 [b,c].length),(30,q6 2),(31,q6 0)],[(0,.dat 1 [[.fn p2F p2C]]),(1,.dat 1 [[.nilsl]]),(2,.dat 1 [[q8 0]]),(3,.cel 4 [[.hs 9 4 0 a.2.2.2.2.length,.d (.sl 2 (a.2.1.map Qh)),q6 a.2.2.1,q6 a.2.2.2.1]]),(4,.cel 1 [[.d (.sl 1 (j.map (eI .i64)))]]),(5,.cel 1 [[.hs 6 1 0 [b,c].length]]),(6,.dat 1 ([b,c].map Kp)),(7,.loop [(5,.ref 0 1 0 0),(6,.ref 1 1 0 0),(7,.ref 2 1 0 0),(9,.ref 3 4 0 0),(22,.fn 129 [.ref 4 1 0 0,.ref 5 1 0 0])] [23] A1439 B1440 .ready none),(8,.cel 3 [[q6 f,q6 m,.hs 10 1 0 2]]),(9,.dat 4 (a.2.2.2.2.map Q2)),(10,.cel 1 [[.hs 11 2 0 n.length],[.d (.nilsl)]]),(11,.dat 2 (n.map Qh))],12⟩) qe ?_ ?_
   ·refine qc<|O J ?_
    obtain ⟨al,bk,av⟩:=q7 av
    refine qz bk J J<|Qd (.d (.sl 4 (al.map Q2))) bk J<|qa J<|qa J<|qt<|O J<|Qi J<|O J<|q9 ?_
    obtain ⟨dd,de,av⟩:=q7 av
    refine Q3<|Qe (qcy al f) (fun (ab : Int × List qk)=>⟨[(0,.yld 7),(1,.ref 4 1 0 0),(2,.ref 5 1 0 0),(4,q6 a.1),(5,.ref 8 3 0 0),(6,q6 0),(29,.hs 6 1 0 [b,c].length),(30,q6 2),(31,q6 0),(36,.d (.sl 4 (al.map Q2))),(37,q6 (al.length : Int)),(38,q6 ab.1)],[(0,.dat 1 [[.fn p2F p2C]]),(1,.dat 1 [[.nilsl]]),(2,.dat 1 [[q8 0]]),(3,.cel 4 [[.hs 9 4 0 a.2.2.2.2.length,.d (.sl 2 (a.2.1.map Qh)),q6 a.2.2.1,q6 a.2.2.2.1]]),(4,.cel 1 [[.d (.sl 1 (j.map (eI .i64)))]]),(5,.cel 1 [[.hs 6 1 0 [b,c].length]]),(6,.dat 1 ([b,c].map Kp)),(7,.loop [(5,.ref 0 1 0 0),(6,.ref 1 1 0 0),(7,.ref 2 1 0 0),(9,.ref 3 4 0 0),(22,.fn 129 [.ref 4 1 0 0,.ref 5 1 0 0])] [23] A1439 B1440 .ready none),(8,.cel 3 [[q6 f,q6 m,.hs 10 1 0 2]]),(9,.dat 4 (a.2.2.2.2.map Q2)),(10,.cel 1 [[.hs 11 2 0 ab.2.length],[.d (.nilsl)]]),(11,.dat 2 (ab.2.map Qh))],12⟩) (0,[]) dd de (wkA [(8,10),(9,8),(10,9)] [] [11]) ?_
    intro ab ff ag
    unfold qcy at ag
    refine qc<|G (.d (.bool (decide (ab.1 < (al.length : Int))))) J<|q9<|qf ?_
    refine qo J ag (fun _ ag=>?_) (fun _ ag=>?_)
    ·refine ql<|qf ?_
     obtain ⟨df,x,ag⟩:=q7 ag
     refine Qk (fun aw=>aw = df) (fun (aw : List qk)=>⟨[(0,.yld 7),(1,.ref 4 1 0 0),(2,.ref 5 1 0 0),(4,q6 a.1),(5,.ref 8 3 0 0),(6,q6 0),(29,.hs 6 1 0 [b,c].length),(30,q6 2),(31,q6 0),(36,.d (.sl 4 (al.map Q2))),(37,q6 (al.length : Int)),(38,q6 ab.1)],[(0,.dat 1 [[.fn p2F p2C]]),(1,.dat 1 [[.nilsl]]),(2,.dat 1 [[q8 0]]),(3,.cel 4 [[.hs 9 4 0 a.2.2.2.2.length,.d (.sl 2 (a.2.1.map Qh)),q6 a.2.2.1,q6 a.2.2.2.1]]),(4,.cel 1 [[.d (.sl 1 (j.map (eI .i64)))]]),(5,.cel 1 [[.hs 6 1 0 [b,c].length]]),(6,.dat 1 ([b,c].map Kp)),(7,.loop [(5,.ref 0 1 0 0),(6,.ref 1 1 0 0),(7,.ref 2 1 0 0),(9,.ref 3 4 0 0),(22,.fn 129 [.ref 4 1 0 0,.ref 5 1 0 0])] [23] A1439 B1440 .ready none),(8,.cel 3 [[q6 f,q6 m,.hs 10 1 0 2]]),(9,.dat 4 (a.2.2.2.2.map Q2)),(10,.cel 1 [[.hs 11 2 0 aw.length],[.d (.nilsl)]]),(11,.dat 2 (aw.map Qh))],12⟩) qe ?_ ?_
     ·refine qc ?_
      obtain ⟨g,dg,x⟩:=q7 x
      refine Qc (enc:=Q2) dg J<|G (.d (.agg [q8 g.X0,q8 g.Y0,q8 g.X1,q8 g.Y1])) J<|K4 J J<|Ql 12 (.dat 4 [[q8 g.X0,q8 g.Y0,q8 g.X1,q8 g.Y1]]) J<|qt<|G (.ref 12 4 0 0) J<|G (q6 g.X0) J<|G (.ref 8 3 0 0) J<|G (q6 f) J<|G (.d (.bool (decide (g.X0≤f)))) J ?_
      obtain ⟨dh,ax,x⟩:=q7 x
      refine Qb 7 (fun A st=>∃ (bl bm bn bo bp bq : V),st = A [(53,Q0 dh),(52,bq),(51,bp),(50,bo),(49,bn),(48,bm),(47,bl)]) ?_ ?_
      ·refine Q9 J J ax (fun ax=>?_) (fun ax=>?_)
       ·refine G (.ref 8 3 0 0) J<|G (q6 f) J<|G (.ref 12 4 0 2) J<|G (q6 g.X1) J<|G (.d (.bool (decide (f < g.X1)))) J<|G (.d (.bool (decide (f < g.X1)))) J<|q9 ?_
        obtain rfl:=qd ax
        exact ⟨_,_,_,_,_,_,J⟩
       refine qb J<|qb J<|qb J<|qb J<|qb J<|G (Q0 false) J<|q9 ?_
       obtain rfl:=qd ax
       exact ⟨_,_,_,_,_,_,J⟩
      rintro _ ⟨bl,bm,bn,bo,bp,bq,rfl⟩
      refine q9 ?_
      refine qo J x (fun _ x=>?_) (fun _ x=>?_)
      ·refine Qj [Qv 10,U,(some [11,13],[11,14]),(some [],[13]),U,qu 12,U,qu 12,U,qu 10,U,U,qu 8,U,U,qu 8,U] qh<|G (.ref 8 3 0 2) J<|G (.hs 10 1 0 2) J<|O J<|G (.ref 8 3 0 2) J<|G (.hs 10 1 0 2) J<|O J<|G (.ref 10 1 0 0) J<|G (.hs 11 2 0 ab.2.length) J<|G (.ref 12 4 0 1) J<|G (q6 g.Y0) J<|G (.ref 12 4 0 3) J<|G (q6 g.Y1) J<|G (.d (.agg [q8 g.Y0,q8 g.Y1])) J<|Qs (.hs 13 2 0 [({Lo:=g.Y0,Hi:=g.Y1} : qk)].length) (.dat 2 ([({Lo:=g.Y0,Hi:=g.Y1} : qk)].map Qh)) J ?_
       obtain ⟨dj,dk,x⟩:=q7 x
       refine Ku (xs:=ab.2) (ys:=[({Lo:=g.Y0,Hi:=g.Y1} : qk)]) (enc:=Qh) (.hs 13 2 0 [({Lo:=g.Y0,Hi:=g.Y1} : qk)].length) dk J J J J J J J (Ks J J) J J J J<|G (.ref 10 1 0 0) J<|Ql 10 (.cel 1 [[.hs 14 2 0 dj.length],[.d (.nilsl)]]) J<|qv ?_
       obtain rfl:=qd x
       exact ⟨_,J,wkA [(8,8),(9,9),(10,10),(11,14)] [] []⟩
      refine ql<|Qf ?_
      obtain rfl:=qd x
      exact ⟨_,J,wkA [(8,8),(9,9),(10,10),(11,11)] [] []⟩
     intro aw hb
     subst hb
     refine qw<|G (.d (q8 (w64 (ab.1 + 1)))) J<|O J<|qv ?_
     exact ⟨_,qm ag,wkA [(8,8),(9,9),(10,10),(11,11)] [] []⟩
    refine Q8 ?_
    refine ⟨_,qm ag,fun hm=>?_⟩
    subst hm
    obtain rfl:=qd av
    exact ⟨_,J,wkA [(8,8),(9,9),(10,10),(11,11)] [] []⟩
   intro n hb
   subst hb
   refine qw<|G (q6 1) J<|O J<|q9<|Ys<|qc<|G (Q0 true) J<|q9<|qf<|Zg J<|ql<|qf ?_
   obtain ⟨dl,ay,o⟩:=q7 o
   refine Qk (fun u=>u = dl) (fun (u : List qk)=>⟨[(0,.yld 7),(1,.ref 4 1 0 0),(2,.ref 5 1 0 0),(4,q6 a.1),(5,.ref 8 3 0 0),(29,.hs 6 1 0 [b,c].length),(30,q6 2),(31,q6 1)],[(0,.dat 1 [[.fn p2F p2C]]),(1,.dat 1 [[.nilsl]]),(2,.dat 1 [[q8 0]]),(3,.cel 4 [[.hs 9 4 0 a.2.2.2.2.length,.d (.sl 2 (a.2.1.map Qh)),q6 a.2.2.1,q6 a.2.2.2.1]]),(4,.cel 1 [[.d (.sl 1 (j.map (eI .i64)))]]),(5,.cel 1 [[.hs 6 1 0 [b,c].length]]),(6,.dat 1 ([b,c].map Kp)),(7,.loop [(5,.ref 0 1 0 0),(6,.ref 1 1 0 0),(7,.ref 2 1 0 0),(9,.ref 3 4 0 0),(22,.fn 129 [.ref 4 1 0 0,.ref 5 1 0 0])] [23] A1439 B1440 .ready none),(8,.cel 3 [[q6 f,q6 m,.hs 10 1 0 2]]),(9,.dat 4 (a.2.2.2.2.map Q2)),(10,.cel 1 [[.hs 11 2 0 n.length],[.hs 12 2 0 u.length]]),(11,.dat 2 (n.map Qh)),(12,.dat 2 (u.map Qh))],13⟩) qe ?_ ?_
   ·refine qc<|O J ?_
    obtain ⟨am,br,ay⟩:=q7 ay
    refine qz br J J<|Qd (.d (.sl 4 (am.map Q2))) br J<|qa J<|qa J<|qt<|O J<|Qi J<|O J<|q9 ?_
    obtain ⟨dm,dn,ay⟩:=q7 ay
    refine Q3<|Qe (qcz am f) (fun (ac : Int × List qk)=>⟨[(0,.yld 7),(1,.ref 4 1 0 0),(2,.ref 5 1 0 0),(4,q6 a.1),(5,.ref 8 3 0 0),(6,q6 1),(29,.hs 6 1 0 [b,c].length),(30,q6 2),(31,q6 1),(36,.d (.sl 4 (am.map Q2))),(37,q6 (am.length : Int)),(38,q6 ac.1)],[(0,.dat 1 [[.fn p2F p2C]]),(1,.dat 1 [[.nilsl]]),(2,.dat 1 [[q8 0]]),(3,.cel 4 [[.hs 9 4 0 a.2.2.2.2.length,.d (.sl 2 (a.2.1.map Qh)),q6 a.2.2.1,q6 a.2.2.2.1]]),(4,.cel 1 [[.d (.sl 1 (j.map (eI .i64)))]]),(5,.cel 1 [[.hs 6 1 0 [b,c].length]]),(6,.dat 1 ([b,c].map Kp)),(7,.loop [(5,.ref 0 1 0 0),(6,.ref 1 1 0 0),(7,.ref 2 1 0 0),(9,.ref 3 4 0 0),(22,.fn 129 [.ref 4 1 0 0,.ref 5 1 0 0])] [23] A1439 B1440 .ready none),(8,.cel 3 [[q6 f,q6 m,.hs 10 1 0 2]]),(9,.dat 4 (a.2.2.2.2.map Q2)),(10,.cel 1 [[.hs 11 2 0 n.length],[.hs 12 2 0 ac.2.length]]),(11,.dat 2 (n.map Qh)),(12,.dat 2 (ac.2.map Qh))],13⟩) (0,[]) dm dn (wkA [(8,8),(9,9),(10,10),(11,11)] [] [12]) ?_
    intro ac fg ah
    unfold qcz at ah
    refine qc<|G (.d (.bool (decide (ac.1 < (am.length : Int))))) J<|q9<|qf ?_
    refine qo J ah (fun _ ah=>?_) (fun _ ah=>?_)
    ·refine ql<|qf ?_
     obtain ⟨dp,y,ah⟩:=q7 ah
     refine Qk (fun az=>az = dp) (fun (az : List qk)=>⟨[(0,.yld 7),(1,.ref 4 1 0 0),(2,.ref 5 1 0 0),(4,q6 a.1),(5,.ref 8 3 0 0),(6,q6 1),(29,.hs 6 1 0 [b,c].length),(30,q6 2),(31,q6 1),(36,.d (.sl 4 (am.map Q2))),(37,q6 (am.length : Int)),(38,q6 ac.1)],[(0,.dat 1 [[.fn p2F p2C]]),(1,.dat 1 [[.nilsl]]),(2,.dat 1 [[q8 0]]),(3,.cel 4 [[.hs 9 4 0 a.2.2.2.2.length,.d (.sl 2 (a.2.1.map Qh)),q6 a.2.2.1,q6 a.2.2.2.1]]),(4,.cel 1 [[.d (.sl 1 (j.map (eI .i64)))]]),(5,.cel 1 [[.hs 6 1 0 [b,c].length]]),(6,.dat 1 ([b,c].map Kp)),(7,.loop [(5,.ref 0 1 0 0),(6,.ref 1 1 0 0),(7,.ref 2 1 0 0),(9,.ref 3 4 0 0),(22,.fn 129 [.ref 4 1 0 0,.ref 5 1 0 0])] [23] A1439 B1440 .ready none),(8,.cel 3 [[q6 f,q6 m,.hs 10 1 0 2]]),(9,.dat 4 (a.2.2.2.2.map Q2)),(10,.cel 1 [[.hs 11 2 0 n.length],[.hs 12 2 0 az.length]]),(11,.dat 2 (n.map Qh)),(12,.dat 2 (az.map Qh))],13⟩) qe ?_ ?_
     ·refine qc ?_
      obtain ⟨h,dq,y⟩:=q7 y
      refine Qc (enc:=Q2) dq J<|G (.d (.agg [q8 h.X0,q8 h.Y0,q8 h.X1,q8 h.Y1])) J<|K4 J J<|Ql 13 (.dat 4 [[q8 h.X0,q8 h.Y0,q8 h.X1,q8 h.Y1]]) J<|qt<|G (.ref 13 4 0 0) J<|G (q6 h.X0) J<|G (.ref 8 3 0 0) J<|G (q6 f) J<|G (.d (.bool (decide (h.X0≤f)))) J ?_
      obtain ⟨dr,ba,y⟩:=q7 y
      refine Qb 7 (fun A st=>∃ (bs bt bu bv bw bz : V),st = A [(53,Q0 dr),(52,bz),(51,bw),(50,bv),(49,bu),(48,bt),(47,bs)]) ?_ ?_
      ·refine Q9 J J ba (fun ba=>?_) (fun ba=>?_)
       ·refine G (.ref 8 3 0 0) J<|G (q6 f) J<|G (.ref 13 4 0 2) J<|G (q6 h.X1) J<|G (.d (.bool (decide (f < h.X1)))) J<|G (.d (.bool (decide (f < h.X1)))) J<|q9 ?_
        obtain rfl:=qd ba
        exact ⟨_,_,_,_,_,_,J⟩
       refine qb J<|qb J<|qb J<|qb J<|qb J<|G (Q0 false) J<|q9 ?_
       obtain rfl:=qd ba
       exact ⟨_,_,_,_,_,_,J⟩
      rintro _ ⟨bs,bt,bu,bv,bw,bz,rfl⟩
      refine q9 ?_
      refine qo J y (fun _ y=>?_) (fun _ y=>?_)
      ·refine Qj [Qv 10,U,(some [12,14],[12,15]),(some [],[14]),U,qu 13,U,qu 13,U,qu 10,U,U,qu 8,U,U,qu 8,U] qh<|G (.ref 8 3 0 2) J<|G (.hs 10 1 0 2) J<|O J<|G (.ref 8 3 0 2) J<|G (.hs 10 1 0 2) J<|O J<|G (.ref 10 1 1 0) J<|G (.hs 12 2 0 ac.2.length) J<|G (.ref 13 4 0 1) J<|G (q6 h.Y0) J<|G (.ref 13 4 0 3) J<|G (q6 h.Y1) J<|G (.d (.agg [q8 h.Y0,q8 h.Y1])) J<|Qs (.hs 14 2 0 [({Lo:=h.Y0,Hi:=h.Y1} : qk)].length) (.dat 2 ([({Lo:=h.Y0,Hi:=h.Y1} : qk)].map Qh)) J ?_
       obtain ⟨ds,dt,y⟩:=q7 y
       refine Ku (xs:=ac.2) (ys:=[({Lo:=h.Y0,Hi:=h.Y1} : qk)]) (enc:=Qh) (.hs 14 2 0 [({Lo:=h.Y0,Hi:=h.Y1} : qk)].length) dt J J J J J J J (Ks J J) J J J J<|G (.ref 10 1 1 0) J<|Ql 10 (.cel 1 [[.hs 11 2 0 n.length],[.hs 15 2 0 ds.length]]) J<|qv ?_
       obtain rfl:=qd y
       exact ⟨_,J,wkA [(8,8),(9,9),(10,10),(11,11),(12,15)] [] []⟩
      refine ql<|Qf ?_
      obtain rfl:=qd y
      exact ⟨_,J,wkA [(8,8),(9,9),(10,10),(11,11),(12,12)] [] []⟩
     intro az hb
     subst hb
     refine qw<|G (.d (q8 (w64 (ac.1 + 1)))) J<|O J<|qv ?_
     exact ⟨_,qm ah,wkA [(8,8),(9,9),(10,10),(11,11),(12,12)] [] []⟩
    refine Q8 ?_
    refine ⟨_,qm ah,fun hm=>?_⟩
    subst hm
    obtain rfl:=qd ay
    exact ⟨_,J,wkA [(8,8),(9,9),(10,10),(11,11),(12,12)] [] []⟩
   intro u hb
   subst hb
   refine qw<|G (q6 2) J<|O J<|q9<|Ys<|qc<|G (Q0 false) J<|q9<|qf<|Zf J<|Q8<|Jw<|qf ?_
   refine Yb (st':=⟨[(0,.yld 7),(1,.ref 4 1 0 0),(2,.ref 5 1 0 0),(4,q6 a.1),(5,.ref 8 3 0 0)],[(0,.dat 1 [[.fn p2F p2C]]),(1,.dat 1 [[.nilsl]]),(2,.dat 1 [[q8 0]]),(3,.cel 4 [[.hs 9 4 0 a.2.2.2.2.length,.d (.sl 2 (a.2.1.map Qh)),q6 a.2.2.1,q6 a.2.2.2.1]]),(4,.cel 1 [[.d (.sl 1 (j.map (eI .i64)))]]),(5,.cel 1 [[.hs 6 1 0 [b,c].length]]),(6,.dat 1 ([b,c].map Kp)),(7,.loop [(5,.ref 0 1 0 0),(6,.ref 1 1 0 0),(7,.ref 2 1 0 0),(9,.ref 3 4 0 0),(22,.fn 129 [.ref 4 1 0 0,.ref 5 1 0 0])] [23] A1439 B1440 .ready none),(8,.cel 3 [[q6 f,q6 m,.hs 10 1 0 2]]),(9,.dat 4 (a.2.2.2.2.map Q2)),(10,.cel 1 [[.d (.sl 2 (n.map Qh))],[.hs 11 2 0 u.length]]),(11,.dat 2 (u.map Qh))],12⟩) (wkA [(8,8),(9,9),(10,10),(11,12)] [11] []) ?_ qe
   refine Yb (st':=⟨[(0,.yld 7),(1,.ref 4 1 0 0),(2,.ref 5 1 0 0),(4,q6 a.1),(5,.ref 8 3 0 0)],[(0,.dat 1 [[.fn p2F p2C]]),(1,.dat 1 [[.nilsl]]),(2,.dat 1 [[q8 0]]),(3,.cel 4 [[.hs 9 4 0 a.2.2.2.2.length,.d (.sl 2 (a.2.1.map Qh)),q6 a.2.2.1,q6 a.2.2.2.1]]),(4,.cel 1 [[.d (.sl 1 (j.map (eI .i64)))]]),(5,.cel 1 [[.hs 6 1 0 [b,c].length]]),(6,.dat 1 ([b,c].map Kp)),(7,.loop [(5,.ref 0 1 0 0),(6,.ref 1 1 0 0),(7,.ref 2 1 0 0),(9,.ref 3 4 0 0),(22,.fn 129 [.ref 4 1 0 0,.ref 5 1 0 0])] [23] A1439 B1440 .ready none),(8,.cel 3 [[q6 f,q6 m,.hs 10 1 0 2]]),(9,.dat 4 (a.2.2.2.2.map Q2)),(10,.cel 1 [[.d (.sl 2 (n.map Qh))],[.d (.sl 2 (u.map Qh))]])],11⟩) (wkA [(8,8),(9,9),(10,10)] [11] []) ?_ qe
   refine qw<|O J<|G (.agg [q6 f,q6 m,.hs 10 1 0 2]) J ?_
   obtain ⟨du,ad,o⟩:=q7 o
   refine q5w (fun ai=>.inl ai = du) (fun (ai : List qk × Int × Int × List qi)=>⟨[(0,.yld 7),(1,.ref 4 1 0 0),(2,.ref 5 1 0 0),(4,q6 a.1),(74,Q0 true)],[(0,.dat 1 [[.fn p2F p2C]]),(1,.dat 1 [[.nilsl]]),(2,.dat 1 [[q8 0]]),(3,.cel 4 [[.hs 8 4 0 ai.2.2.2.length,.d (.sl 2 (ai.1.map Qh)),q6 ai.2.1,q6 ai.2.2.1]]),(4,.cel 1 [[.d (.sl 1 (j.map (eI .i64)))]]),(5,.cel 1 [[.hs 6 1 0 [b,c].length]]),(6,.dat 1 ([b,c].map Kp)),(7,.loop [(5,.ref 0 1 0 0),(6,.ref 1 1 0 0),(7,.ref 2 1 0 0),(9,.ref 3 4 0 0),(22,.fn 129 [.ref 4 1 0 0,.ref 5 1 0 0])] [23] A1439 B1440 .ready none),(8,.dat 4 (ai.2.2.2.map Q2))],9⟩) hA1439 hB1440 J J J J J J ?_ ?_
   ·refine qw<|K4 J J<|Ql 11 (.cel 3 [[q6 f,q6 m,.hs 10 1 0 2]]) J<|qv ?_
    refine ⟨J,_,J,?_⟩
    refine Q3<|qf<|Qj [U,U,U,U,U,U,qu 10,U,qu 11,U,qu 10,U,qu 11,U,qu 0] qh<|G (.d (.fn p2F p2C)) J<|G (.ref 11 3 0 2) J<|G (.hs 10 1 0 2) J<|G (.ref 10 1 0 0) J<|G (.d (.sl 2 (n.map Qh))) J<|G (.ref 11 3 0 2) J<|G (.hs 10 1 0 2) J<|G (.ref 10 1 1 0) J<|G (.d (.sl 2 (u.map Qh))) J ?_
    obtain ⟨aj,dv,ad⟩:=q7 ad
    refine Yk [.d (.sl 2 (n.map Qh)),.d (.sl 2 (u.map Qh))] (p2Ok n u aj dv) J J J (.inl J)<|O J<|G (.d (.sl 2 (aj.1.map Qh))) J<|G (q6 aj.2) J<|qa J<|qa J<|q9<|qf<|qc<|O J<|G (Q0 (aj.2 != 0)) J<|q9 ?_
    refine qo J ad (fun _ ad=>?_) (fun _ ad=>?_)
    ·refine qc<|O J<|Ql 1 (.dat 1 [[.nilsl]]) J<|Ql 2 (.dat 1 [[q8 aj.2]]) J<|qs ?_
     obtain rfl:=qd ad
     refine ⟨_,J,?_⟩
     refine G (Q0 true) J<|q9<|Zg J<|q15 ?_
     refine ⟨_,qm o,fun hm=>?_⟩
     subst hm
     refine ⟨.inr J,_,J,_,_,.ret,J,qx,?_⟩
     refine qbl ?_
     obtain rfl:=qd bd
     obtain rfl:=qd p
     exact finD (.inr J) (v:=.d (.tup [.nilsl,q8 aj.2])) J J (Ye (.cons (.nil _) (.cons (.refl _) .nil)))
    refine ql<|qw<|G (.ref 11 3 0 0) J<|G (q6 f) J<|G (.ref 11 3 0 1) J<|G (q6 m) J<|O J ?_
    obtain ⟨ao,dw,ad⟩:=q7 ad
    refine K9 [(0,3),(1,9)] [(0,3),(1,3),(2,3),(3,0),(4,3),(5,3),(6,3),(7,3),(8,3),(9,1),(10,3),(11,3),(12,2)] [.ref 3 4 0 0,q6 f,q6 m,.d (.sl 2 (aj.1.map Qh))] (.d (.tup [])) 2 [(3,.cel 4 [[.hs 12 4 0 ao.2.2.2.length,.d (.sl 2 (ao.1.map Qh)),q6 ao.2.1,q6 ao.2.2.1]]),(12,.dat 4 (ao.2.2.2.map Q2)),(0,.dat 1 [[.fn p2F p2C]]),(1,.dat 1 [[.nilsl]]),(2,.dat 1 [[q8 0]]),(4,.cel 1 [[.d (.sl 1 (j.map (eI .i64)))]]),(5,.cel 1 [[.hs 6 1 0 [b,c].length]]),(6,.dat 1 ([b,c].map Kp)),(7,.loop [(5,.ref 0 1 0 0),(6,.ref 1 1 0 0),(7,.ref 2 1 0 0),(9,.ref 3 4 0 0),(22,.fn 129 [.ref 4 1 0 0,.ref 5 1 0 0])] [23] A1439 B1440 .busy none),(8,.cel 3 [[q6 f,q6 m,.hs 10 1 0 2]]),(10,.cel 1 [[.d (.sl 2 (n.map Qh))],[.d (.sl 2 (u.map Qh))]]),(11,.cel 3 [[q6 f,q6 m,.hs 10 1 0 2]])] 13 (qmi a.2.2.2.2 a.2.1 a.2.2.1 a.2.2.2.1 f m aj.1 ao dw)<|qv<|Qn<|Qf ?_
    refine ⟨_,J,?_⟩
    obtain rfl:=qd ad
    exact ⟨_,J,wkA [(8,12)] [] []⟩
   intro ai hb
   subst hb
   refine G (Q0 false) J<|q9<|Zf J<|ql<|Qf<|Qn<|qw<|O J<|G (.d (q8 (w64 (a.1 + 1)))) J<|qa J<|qv ?_
   exact ⟨_,qm o,wkA [(8,8)] [] []⟩
  refine Q8 ?_
  refine ⟨_,qm o,fun hm=>?_⟩
  subst hm
  refine ⟨.inl J,_,J,_,_,.nor,J,qx,?_⟩
  refine q56<|Qf ?_
  obtain rfl:=qd bd
  exact ⟨_,J,wkA [(0,1),(1,2),(2,3),(3,8)] [] []⟩
 intro t st hb hw
 subst hb
 refine Yb hw ?_ qe
 refine qc ?_
 obtain ⟨dx,bb,p⟩:=q7 p
 refine q3z [.ref 2 4 0 0] (fun w=>w = dx) (fun (w : Int × List qi)=>⟨[(6,.ref 0 1 0 0),(7,.ref 1 1 0 0),(46,.tup [.hs 2 4 0 w.2.length,q6 w.1])],[(0,.dat 1 [[.nilsl]]),(1,.dat 1 [[q8 0]]),(2,.dat 4 (w.2.map Q2))],3⟩) J J Tryz.func111 J qh qh J ?_ ?_
 ·refine qc<|qa J<|qa J<|q9<|qf<|qc<|O J<|G (.ref 2 4 0 0) J<|G (.ref 2 4 0 0) J<|G (.hs 3 4 0 t.2.2.2.length) J<|G (q6 (t.2.2.2.length : Int)) J<|G (.d (.bool (decide ((t.2.2.2.length : Int) > 400)))) J<|q9 ?_
  refine qo J bb (fun _ bb=>?_) (fun _ bb=>?_)
  ·refine qc<|qa J<|qa J<|qs ?_
   refine ⟨.inr J,_,J,?_⟩
   obtain rfl:=qd bb
   exact ⟨_,J,wkA [(0,0),(1,1)] [] [2]⟩
  refine ql<|qc<|O J<|G (.ref 2 4 0 0) J<|G (.ref 2 4 0 0) J<|G (.hs 3 4 0 t.2.2.2.length) J<|qa J<|qa J<|qs ?_
  refine ⟨.inr J,_,J,?_⟩
  obtain rfl:=qd bb
  exact ⟨_,J,wkA [(0,0),(1,1),(2,3)] [] []⟩
 intro w hb
 subst hb
 refine G (.hs 2 4 0 w.2.length) J<|G (q6 w.1) J<|Ql 0 (.cel 1 [[.hs 2 4 0 w.2.length]]) J<|Ql 1 (.dat 1 [[q8 w.1]]) J<|qs ?_
 obtain rfl:=qd p
 exact finD (.inr J) (v:=.tup [.hs 2 4 0 w.2.length,q6 w.1]) J (q53 (Yp (Zi J J) (Yp J J))) (.refl _)
theorem qnz (g : List qk) (r : Int) (b : q3f g = some r) : Pure Tryz.prog tab 131 [.sl 2 (g.map Qh)] (q8 r):=by
 unfold q3f at b
 refine Qo Tryz.func131 J qh qh J<|qc<|qa J<|q9<|qf<|qc<|O J<|Qi J<|G _ J<|q9 ?_
 refine qo J b (fun _ b=>?_) (fun _ b=>?_)
 ·refine qc<|qa J<|qs ?_
  obtain rfl:=qd b
  exact Q5 _ J
 refine ql<|qf<|qc<|O J<|Qi J<|O J<|q9 ?_
 obtain ⟨j,ak,b⟩:=q7 b
 refine Qk (fun h=>.inl h = j) (fun h=>⟨[],[],0⟩) qe ?_ ?_
 ·refine Qe (q26 g) (fun k=>⟨[(0,.d (.sl 2 (g.map Qh))),(8,.d (.sl 2 (g.map Qh))),(9,q6 (g.length : Int)),(10,q6 k)],[],0⟩) 0 j ak (wkA [] [] []) ?_
  intro k au a
  unfold q26 at a
  refine qc<|G _ J<|q9<|qf ?_
  refine qo J a (fun _ a=>?_) (fun _ a=>?_)
  ·refine ql<|qf<|Q3<|qc<|O J ?_
   obtain ⟨al,am,a⟩:=q7 a
   refine Qc am J<|G _ J<|K4 J J<|qa J<|Ql 0 _ J<|q9<|qf<|Qj [U,U,U,qu 0,U,U,U,U,U,U,U,U,U,U,U,U,U,qu 0] qh<|G _ J ?_
   obtain ⟨an,ao,a⟩:=q7 a
   refine Q4 (qo2 al an ao) J<|G _ J ?_
   obtain ⟨ap,c,a⟩:=q7 a
   refine Qb 15 (fun A st=>∃ l m n o p q s t u v w x y z,st = A [(32,Q0 ap),(31,z),(30,y),(29,x),(28,w),(27,v),(26,u),(25,t),(24,s),(23,q),(22,p),(21,o),(20,n),(19,m),(18,l)]) ?_ ?_
   ·refine Q9 J J c (fun c=>?_) (fun c=>?_)
    ·refine qb J<|qb J<|qb J<|qb J<|qb J<|qb J<|qb J<|qb J<|qb J<|qb J<|qb J<|qb J<|qb J<|G _ J<|q9 ?_
     obtain rfl:=qd c
     exact ⟨_,_,_,_,_,_,_,_,_,_,_,_,_,_,J⟩
    refine O J<|G _ J ?_
    obtain ⟨aq,f,c⟩:=q7 c
    refine Qb 11 (fun A st=>∃ aa ab ac ad ae af ag ah ai aj,st = A [(31,Q0 aq),(30,aj),(29,ai),(28,ah),(27,ag),(26,af),(25,ae),(24,ad),(23,ac),(22,ab),(21,aa)]) ?_ ?_
    ·refine Q9 J J f (fun f=>?_) (fun f=>?_)
     ·refine O J<|O J<|G _ J ?_
      obtain ⟨av,ar,f⟩:=q7 f
      refine Qc ar J<|G _ J<|G _ J<|G _ J<|G _ J<|G _ J<|G _ J<|q9 ?_
      obtain rfl:=qd f
      exact ⟨_,_,_,_,_,_,_,_,_,_,J⟩
     refine qb J<|qb J<|qb J<|qb J<|qb J<|qb J<|qb J<|qb J<|qb J<|G _ J<|q9 ?_
     obtain rfl:=qd f
     exact ⟨_,_,_,_,_,_,_,_,_,_,J⟩
    rintro _ ⟨aa,ab,ac,ad,ae,af,ag,ah,ai,aj,rfl⟩
    refine G _ J<|q9 ?_
    obtain rfl:=qd c
    exact ⟨_,_,_,_,_,_,_,_,_,_,_,_,_,_,J⟩
   rintro _ ⟨l,m,n,o,p,q,s,t,u,v,w,x,y,z,rfl⟩
   refine q9 ?_
   refine qo J a (fun _ a=>?_) (fun _ a=>?_)
   ·refine qc<|qa J<|qs ?_
    refine ⟨_,qm a,fun hm=>?_⟩
    subst hm
    obtain rfl:=qd b
    exact Q5 _ J
   refine ql<|Qf<|Qn<|qw<|G _ J<|O J<|qv ?_
   exact ⟨_,qm a,wkA [] [] []⟩
  refine Q8 ?_
  refine ⟨_,qm a,fun hm=>?_⟩
  subst hm
  exact ⟨_,J,wkA [] [] []⟩
 intro h hb
 subst hb
 refine qc<|qa J<|qs ?_
 obtain rfl:=qd b
 exact Q5 _ J
theorem q126 (b : List qk) (c : List qk) (d : Bool→Bool→Option Bool) (p2F : FuncId) (p2C : List DV) (p2Ok : ∀ (f : Bool) (g : Bool) (r : Bool),d f g = some r→Pure Tryz.prog tab p2F ([.bool f,.bool g] ++ p2C) (.bool r)) (r : List qk × Int) (a : qav b c d = some r) : Pure Tryz.prog tab 112 [.sl 2 (b.map Qh),.sl 2 (c.map Qh),.fn p2F p2C] (.tup [.sl 2 (r.1.map Qh),q8 r.2]):=by
 unfold qav at a
 refine Qo Tryz.func112 J qh qh J<|qc<|qa J<|qa J<|q9<|qf<|qc<|O J ?_
 obtain ⟨h,j,a⟩:=q7 a
 refine Q4 (qnz b h j) J<|qa J<|qt<|O J<|G _ J<|q9 ?_
 refine qo J a (fun _ a=>?_) (fun _ a=>?_)
 ·refine qc<|O J<|qa J<|qa J<|qs ?_
  obtain rfl:=qd a
  exact finD (.inr J) J J (Ye (.cons (.nil _) (.cons (.refl _) .nil)))
 refine ql<|qf<|qc<|O J ?_
 obtain ⟨k,l,a⟩:=q7 a
 refine Q4 (qnz c k l) J<|qa J<|qt<|O J<|G _ J<|q9 ?_
 refine qo J a (fun _ a=>?_) (fun _ a=>?_)
 ·refine qc<|O J<|qa J<|qa J<|qs ?_
  obtain rfl:=qd a
  exact finD (.inr J) J J (Ye (.cons (.nil _) (.cons (.refl _) .nil)))
 refine ql<|qc<|O J<|O J<|O J ?_
 obtain ⟨m,n,a⟩:=q7 a
 refine Q4 (qo1 b c d p2F p2C p2Ok m n) J<|qa J<|q9<|qf<|qc<|O J<|Qi J<|G _ J<|q9 ?_
 refine qo J a (fun _ a=>?_) (fun _ a=>?_)
 ·refine qc<|qa J<|qa J<|qs ?_
  obtain rfl:=qd a
  exact finD (.inr J) J J (Ye (.cons (.nil _) (.cons (.refl _) .nil)))
 refine ql<|qc<|O J<|qa J<|qa J<|qs ?_
 obtain rfl:=qd a
 exact Q5 _ J
theorem q124 (c : Bool) (d : Bool) (r : Bool) (b : qdm c d = some r) : Pure Tryz.prog tab 113 [.bool c,.bool d] (.bool r):=by
 unfold qdm at b
 refine Qo Tryz.func113 J qh qh J<|qc<|qa J<|qt<|O J ?_
 obtain ⟨h,a,b⟩:=q7 b
 refine Qb 3 (fun A st=>∃ f g,st = A [(8,Q0 h),(7,g),(6,f)]) ?_ ?_
 ·refine Q9 J J a (fun a=>?_) (fun a=>?_)
  ·refine qb J<|G _ J<|q9 ?_
   obtain rfl:=qd a
   exact ⟨_,_,J⟩
  refine O J<|G _ J<|q9 ?_
  obtain rfl:=qd a
  exact ⟨_,_,J⟩
 rintro _ ⟨f,g,rfl⟩
 refine qa J<|qs ?_
 obtain rfl:=qd b
 exact Q5 _ J
theorem q125 (b : List qk) (c : List qk) (r : List qk × Int) (a : q81 b c = some r) : Pure Tryz.prog tab 84 [.sl 2 (b.map Qh),.sl 2 (c.map Qh)] (.tup [.sl 2 (r.1.map Qh),q8 r.2]):=by
 unfold q81 at a
 refine Qo Tryz.func84 J qh qh J<|qc<|qa J<|qa J<|qt<|O J<|O J ?_
 obtain ⟨g,h,a⟩:=q7 a
 refine Q4 (q126 b c (fun d f=>qdm d f) 113 [] (fun d f r hr=>q124 d f r hr) g h) J<|G _ J<|G _ J<|qa J<|qa J<|qs ?_
 obtain rfl:=qd a
 exact Q5 _ J
theorem qwl (b : List qi) (c : List qi) (r : List qi × Int) (a : q6h b c = some r) : Pure Tryz.prog tab 53 [.sl 4 (b.map Q2),.sl 4 (c.map Q2)] (.tup [.sl 4 (r.1.map Q2),q8 r.2]):=by
 unfold q6h at a
 refine Qo Tryz.func53 J qh qh J<|qc<|qa J<|qa J<|qt<|O J<|O J ?_
 obtain ⟨g,h,a⟩:=q7 a
 refine Q4 (qws b c (fun d f=>q81 d f) 84 [] (fun d f r hr=>q125 d f r hr) g h) J<|G _ J<|G _ J<|qa J<|qa J<|qs ?_
 obtain rfl:=qd a
 exact Q5 _ J
theorem qnn (b : List qg) (c : List qg) (r : List qg × Int) (a : q7s b c = some r) : Pure Tryz.prog tab 26 [.sl 6 (b.map Qg),.sl 6 (c.map Qg)] (.tup [.sl 6 (r.1.map Qg),q8 r.2]):=by
 unfold q7s at a
 refine Qo Tryz.func26 J qh qh J<|qc<|qa J<|qa J<|qt<|O J<|O J<|G _ J ?_
 obtain ⟨g,h,a⟩:=q7 a
 refine Q4 (q11u b c (fun d f=>q6h d f) 53 [] (fun d f r hr=>qwl d f r hr) g h) J<|G _ J<|G _ J<|qa J<|qa J<|qs ?_
 obtain rfl:=qd a
 exact Q5 _ J
theorem qdr (c : Qp) (j : List (List qg)) (r : List qg × Int) (b : q19 c j = some r) : Pure Tryz.prog tab 17 [.agg [.sl 7 (c.Lines.map Kb),.sl 5 (c.Marks.map Km),.int .u8 c.End.Frame.Turn,q8 c.End.Frame.At.X,q8 c.End.Frame.At.Y,q8 c.End.Frame.At.Z,q8 c.End.Drawn],.sl 1 (j.map Qq)] (.tup [.sl 6 (r.1.map Qg),q8 r.2]):=by
 unfold q19 at b
 refine Qo Tryz.func17 J qh qh J<|qc<|Qs _ _ J<|qa J<|qa J<|qt<|G _ J<|O J ?_
 obtain ⟨f,l,b⟩:=q7 b
 refine Q4 (qdq c j f l) J<|O J<|G _ J<|G _ J<|qa J<|qa J<|q9<|qf<|qc<|O J<|G _ J<|q9 ?_
 refine qo J b (fun _ b=>?_) (fun _ b=>?_)
 ·refine qc<|O J<|qa J<|qa J<|qs ?_
  obtain rfl:=qd b
  exact finD (.inr J) J J (Ye (.cons (.nil _) (.cons (.refl _) .nil)))
 refine ql<|qc<|qa J<|q9<|qf<|qc<|O J<|Qi J<|O J<|q9 ?_
 obtain ⟨k,m,b⟩:=q7 b
 refine Qk (fun g=>.inl g = k) (fun g=>⟨[(8,.d (.sl 6 (g.map Qg)))],[],0⟩) qe ?_ ?_
 ·refine Qe (q51 f) (fun h=>⟨[(8,.d (.sl 6 (h.1.map Qg))),(20,.d (.sl 1 (f.1.map Qq))),(21,q6 (f.1.length : Int)),(22,q6 h.2)],[],0⟩) ([],0) k m (wkA [] [] []) ?_
  intro h s a
  unfold q51 at a
  refine qc<|G _ J<|q9<|qf ?_
  refine qo J a (fun _ a=>?_) (fun _ a=>?_)
  ·refine ql<|qf<|Q3<|qc ?_
   obtain ⟨n,o,a⟩:=q7 a
   refine Qc o J<|G _ J<|qa J<|qt<|O J<|O J ?_
   obtain ⟨p,q,a⟩:=q7 a
   refine Q4 (qnn h.1 n p q) J<|O J<|G _ J<|G _ J<|qa J<|qa J<|qt<|O J<|G _ J<|q9 ?_
   refine qo J a (fun _ a=>?_) (fun _ a=>?_)
   ·refine qc<|O J<|qa J<|qa J<|qs ?_
    refine ⟨_,qm a,fun hm=>?_⟩
    subst hm
    obtain rfl:=qd b
    exact finD (.inr J) J J (Ye (.cons (.nil _) (.cons (.refl _) .nil)))
   refine ql<|Qf<|Qn<|qw<|G _ J<|O J<|qv ?_
   exact ⟨_,qm a,wkA [] [] []⟩
  refine Q8 ?_
  refine ⟨_,qm a,fun hm=>?_⟩
  subst hm
  exact ⟨_,J,wkA [] [] []⟩
 intro g hb
 subst hb
 refine qc<|O J<|qa J<|qa J<|qs ?_
 obtain rfl:=qd b
 exact Q5 _ J
theorem q12o (a : Qy) (b : Qy) (r : Bool) (c : qb4 a b = some r) : Pure Tryz.prog tab 48 [.agg [q8 a.From.X,q8 a.From.Y,q8 a.From.Z,q8 a.To.X,q8 a.To.Y,q8 a.To.Z,q8 a.Depth],.agg [q8 b.From.X,q8 b.From.Y,q8 b.From.Z,q8 b.To.X,q8 b.To.Y,q8 b.To.Z,q8 b.Depth]] (.bool r):=by
 unfold qb4 at c
 refine Qo Tryz.func48 J qh qh J<|qc<|Qs _ _ J<|Qs _ _ J<|qa J<|qt<|G _ J<|G _ J<|G _ J<|G _ J<|G _ J ?_
 obtain ⟨c1,d,c⟩:=q7 c
 refine Qb 7 (fun A st=>∃ h j k l m n,st = A [(16,Q0 c1),(15,n),(14,m),(13,l),(12,k),(11,j),(10,h)]) ?_ ?_
 ·refine Q9 J J d (fun d=>?_) (fun d=>?_)
  ·refine G _ J<|G _ J<|G _ J<|G _ J<|G _ J<|G _ J<|q9 ?_
   obtain rfl:=qd d
   exact ⟨_,_,_,_,_,_,J⟩
  refine qb J<|qb J<|qb J<|qb J<|qb J<|G _ J<|q9 ?_
  obtain rfl:=qd d
  exact ⟨_,_,_,_,_,_,J⟩
 rintro _ ⟨h,j,k,l,m,n,rfl⟩
 obtain ⟨c9,f,c⟩:=q7 c
 refine Qb 7 (fun A st=>∃ o p q s t u,st = A [(23,Q0 c9),(22,u),(21,t),(20,s),(19,q),(18,p),(17,o)]) ?_ ?_
 ·refine Q9 J J f (fun f=>?_) (fun f=>?_)
  ·refine G _ J<|G _ J<|G _ J<|G _ J<|G _ J<|G _ J<|q9 ?_
   obtain rfl:=qd f
   exact ⟨_,_,_,_,_,_,J⟩
  refine qb J<|qb J<|qb J<|qb J<|qb J<|G _ J<|q9 ?_
  obtain rfl:=qd f
  exact ⟨_,_,_,_,_,_,J⟩
 rintro _ ⟨o,p,q,s,t,u,rfl⟩
 obtain ⟨ad,g,c⟩:=q7 c
 refine Qb 7 (fun A st=>∃ v w x y z aa,st = A [(30,Q0 ad),(29,aa),(28,z),(27,y),(26,x),(25,w),(24,v)]) ?_ ?_
 ·refine Q9 J J g (fun g=>?_) (fun g=>?_)
  ·refine G _ J<|G _ J<|G _ J<|G _ J<|G _ J<|G _ J<|q9 ?_
   obtain rfl:=qd g
   exact ⟨_,_,_,_,_,_,J⟩
  refine qb J<|qb J<|qb J<|qb J<|qb J<|G _ J<|q9 ?_
  obtain rfl:=qd g
  exact ⟨_,_,_,_,_,_,J⟩
 rintro _ ⟨v,w,x,y,z,aa,rfl⟩
 refine qa J<|qs ?_
 obtain rfl:=qd c
 exact Q5 _ J
theorem q12s (b : qg) (c : qg) (r : Bool) (a : q88 b c = some r) : Pure Tryz.prog tab 77 [.agg [q8 b.Lo.X,q8 b.Lo.Y,q8 b.Lo.Z,q8 b.Hi.X,q8 b.Hi.Y,q8 b.Hi.Z],.box [q8 c.Lo.X,q8 c.Lo.Y,q8 c.Lo.Z,q8 c.Hi.X,q8 c.Hi.Y,q8 c.Hi.Z]] (.bool r):=by
 unfold q88 at a
 refine Qo Tryz.func77 J qh qh J<|qc<|Qs _ _ J<|qa J<|qt<|G _ J<|G _ J<|G _ J<|G _ J<|G _ J<|G _ J<|G _ J ?_
 obtain ⟨c1,d,a⟩:=q7 a
 refine Qb 9 (fun A st=>∃ k l m n o p q s,st = A [(19,Q0 c1),(18,s),(17,q),(16,p),(15,o),(14,n),(13,m),(12,l),(11,k)]) ?_ ?_
 ·refine Q9 J J d (fun d=>?_) (fun d=>?_)
  ·refine G _ J<|G _ J<|G _ J<|G _ J<|G _ J<|G _ J<|G _ J<|G _ J<|q9 ?_
   obtain rfl:=qd d
   exact ⟨_,_,_,_,_,_,_,_,J⟩
  refine qb J<|qb J<|qb J<|qb J<|qb J<|qb J<|qb J<|G _ J<|q9 ?_
  obtain rfl:=qd d
  exact ⟨_,_,_,_,_,_,_,_,J⟩
 rintro _ ⟨k,l,m,n,o,p,q,s,rfl⟩
 obtain ⟨bc,f,a⟩:=q7 a
 refine Qb 9 (fun A st=>∃ t u v w x y z aa,st = A [(28,Q0 bc),(27,aa),(26,z),(25,y),(24,x),(23,w),(22,v),(21,u),(20,t)]) ?_ ?_
 ·refine Q9 J J f (fun f=>?_) (fun f=>?_)
  ·refine G _ J<|G _ J<|G _ J<|G _ J<|G _ J<|G _ J<|G _ J<|G _ J<|q9 ?_
   obtain rfl:=qd f
   exact ⟨_,_,_,_,_,_,_,_,J⟩
  refine qb J<|qb J<|qb J<|qb J<|qb J<|qb J<|qb J<|G _ J<|q9 ?_
  obtain rfl:=qd f
  exact ⟨_,_,_,_,_,_,_,_,J⟩
 rintro _ ⟨t,u,v,w,x,y,z,aa,rfl⟩
 obtain ⟨bd,g,a⟩:=q7 a
 refine Qb 9 (fun A st=>∃ ab ac ad ae af ag ah ai,st = A [(37,Q0 bd),(36,ai),(35,ah),(34,ag),(33,af),(32,ae),(31,ad),(30,ac),(29,ab)]) ?_ ?_
 ·refine Q9 J J g (fun g=>?_) (fun g=>?_)
  ·refine G _ J<|G _ J<|G _ J<|G _ J<|G _ J<|G _ J<|G _ J<|G _ J<|q9 ?_
   obtain rfl:=qd g
   exact ⟨_,_,_,_,_,_,_,_,J⟩
  refine qb J<|qb J<|qb J<|qb J<|qb J<|qb J<|qb J<|G _ J<|q9 ?_
  obtain rfl:=qd g
  exact ⟨_,_,_,_,_,_,_,_,J⟩
 rintro _ ⟨ab,ac,ad,ae,af,ag,ah,ai,rfl⟩
 obtain ⟨be,h,a⟩:=q7 a
 refine Qb 9 (fun A st=>∃ aj ak al am an ao ap aq,st = A [(46,Q0 be),(45,aq),(44,ap),(43,ao),(42,an),(41,am),(40,al),(39,ak),(38,aj)]) ?_ ?_
 ·refine Q9 J J h (fun h=>?_) (fun h=>?_)
  ·refine G _ J<|G _ J<|G _ J<|G _ J<|G _ J<|G _ J<|G _ J<|G _ J<|q9 ?_
   obtain rfl:=qd h
   exact ⟨_,_,_,_,_,_,_,_,J⟩
  refine qb J<|qb J<|qb J<|qb J<|qb J<|qb J<|qb J<|G _ J<|q9 ?_
  obtain rfl:=qd h
  exact ⟨_,_,_,_,_,_,_,_,J⟩
 rintro _ ⟨aj,ak,al,am,an,ao,ap,aq,rfl⟩
 obtain ⟨bf,j,a⟩:=q7 a
 refine Qb 9 (fun A st=>∃ ar au av aw ax ay az ba,st = A [(55,Q0 bf),(54,ba),(53,az),(52,ay),(51,ax),(50,aw),(49,av),(48,au),(47,ar)]) ?_ ?_
 ·refine Q9 J J j (fun j=>?_) (fun j=>?_)
  ·refine G _ J<|G _ J<|G _ J<|G _ J<|G _ J<|G _ J<|G _ J<|G _ J<|q9 ?_
   obtain rfl:=qd j
   exact ⟨_,_,_,_,_,_,_,_,J⟩
  refine qb J<|qb J<|qb J<|qb J<|qb J<|qb J<|qb J<|G _ J<|q9 ?_
  obtain rfl:=qd j
  exact ⟨_,_,_,_,_,_,_,_,J⟩
 rintro _ ⟨ar,au,av,aw,ax,ay,az,ba,rfl⟩
 refine qa J<|qs ?_
 obtain rfl:=qd a
 exact Q5 _ J
theorem q12t (a : qg) (b : List qg) (r : Bool) (c : qb9 a b = some r) : Pure Tryz.prog tab 76 [.agg [q8 a.Lo.X,q8 a.Lo.Y,q8 a.Lo.Z,q8 a.Hi.X,q8 a.Hi.Y,q8 a.Hi.Z],.box [.sl 6 (b.map Qg)]] (.bool r):=by
 unfold qb9 at c
 refine Qo Tryz.func76 J qh qh J<|qc<|Qs _ _ J<|qa J<|qt<|G _ J<|G _ J ?_
 obtain ⟨g,h,c⟩:=q7 c
 refine q2z [.d (.sl 6 (b.map Qg)),.fn 77 [.ref 0 6 0 0]] (qgu b (fun f=>q88 f a) 77 [.box [q8 a.Lo.X,q8 a.Lo.Y,q8 a.Lo.Z,q8 a.Hi.X,q8 a.Hi.Y,q8 a.Hi.Z]] (fun f r hr=>q12s f a r hr) g h) J J (Zp J (Zp (qoi (Yp J J)) J)) (.inr J)<|qa J<|qs ?_
 obtain rfl:=qd c
 exact Q5 _ J
theorem q12u (b : List qg) (a : List qg) (r : Bool) (c : qb8 b a = some r) : Pure Tryz.prog tab 49 [.sl 6 (b.map Qg),.sl 6 (a.map Qg)] (.bool r):=by
 unfold qb8 at c
 refine Qo Tryz.func49 J qh qh J<|qc<|Qs _ _ J<|qa J<|qt<|O J<|G _ J ?_
 obtain ⟨g,h,c⟩:=q7 c
 refine q2z [.d (.sl 6 (b.map Qg)),.fn 76 [.ref 0 1 0 0]] (qgu b (fun f=>qb9 f a) 76 [.box [.sl 6 (a.map Qg)]] (fun f r hr=>q12t f a r hr) g h) J J (Zp J (Zp (qoi (Yp J J)) J)) (.inr J)<|qa J<|qs ?_
 obtain rfl:=qd c
 exact Q5 _ J
theorem qh7 (a : Qp) (z : List (List qg)) (r : (List (Int × Int)) × Int) (g : q29 a z = some r) : Pure Tryz.prog tab 19 [.agg [.sl 7 (a.Lines.map Kb),.sl 5 (a.Marks.map Km),.int .u8 a.End.Frame.Turn,q8 a.End.Frame.At.X,q8 a.End.Frame.At.Y,q8 a.End.Frame.At.Z,q8 a.End.Drawn],.sl 1 (z.map Qq)] (.tup [.sl 2 (r.1.map Ub),q8 r.2]):=by
 unfold q29 at g
 refine Qo Tryz.func19 J qh qh J<|qc<|Qs _ _ J<|qa J<|qa J<|qt<|G _ J<|O J ?_
 obtain ⟨b,h2,g⟩:=q7 g
 refine Q4 (qdq a z b h2) J<|O J<|G _ J<|G _ J<|qa J<|qa J<|q9<|qf<|qc<|O J<|G _ J<|q9 ?_
 refine qo J g (fun _ g=>?_) (fun _ g=>?_)
 ·refine qc<|O J<|qa J<|qa J<|qs ?_
  obtain rfl:=qd g
  exact finD (.inr J) J J (Ye (.cons (.nil _) (.cons (.refl _) .nil)))
 refine ql<|qc<|Qs _ _ J<|qa J<|q9<|qf<|qc<|O J<|Qi J<|O J<|q9 ?_
 obtain ⟨ac,ap,g⟩:=q7 g
 refine Qk (fun j=>j = ac) (fun j=>⟨[(6,.d (.sl 1 (b.1.map Qq))),(8,.mp 0)],[(0,.mp (mrow (fun n : Int × Int=>DV.agg [q8 n.1,q8 n.2]) DV.bool j))],1⟩) qe ?_ ?_
 ·refine Qe (q85 b a) (fun c=>⟨[(2,.ref 0 7 0 0),(6,.d (.sl 1 (b.1.map Qq))),(8,.mp 1),(25,q6 (b.1.length : Int)),(26,q6 c.1)],[(0,.dat 7 [[.sl 7 (a.Lines.map Kb),.sl 5 (a.Marks.map Km),.int .u8 a.End.Frame.Turn,q8 a.End.Frame.At.X,q8 a.End.Frame.At.Y,q8 a.End.Frame.At.Z,q8 a.End.Drawn]]),(1,.mp (mrow (fun n : Int × Int=>DV.agg [q8 n.1,q8 n.2]) DV.bool c.2))],2⟩) (0,[]) ac ap (wkA [(0,0),(1,1)] [] []) ?_
  intro c bp l
  unfold q85 at l
  refine qc<|G _ J<|q9<|qf ?_
  refine qo J l (fun _ l=>?_) (fun _ l=>?_)
  ·refine ql<|qf ?_
   obtain ⟨aq,aa,l⟩:=q7 l
   refine Qk (fun x=>x = aq) (fun x=>⟨[(2,.ref 0 7 0 0),(6,.d (.sl 1 (b.1.map Qq))),(8,.mp 1),(25,q6 (b.1.length : Int)),(26,q6 c.1)],[(0,.dat 7 [[.sl 7 (a.Lines.map Kb),.sl 5 (a.Marks.map Km),.int .u8 a.End.Frame.Turn,q8 a.End.Frame.At.X,q8 a.End.Frame.At.Y,q8 a.End.Frame.At.Z,q8 a.End.Drawn]]),(1,.mp (mrow (fun n : Int × Int=>DV.agg [q8 n.1,q8 n.2]) DV.bool x))],2⟩) qe ?_ ?_
   ·refine qc<|O J<|qa J<|qt<|O J<|O J<|q9 ?_
    obtain ⟨ar,au,aa⟩:=q7 aa
    refine Q3<|Qe (q4y c a b) (fun s=>⟨[(2,.ref 0 7 0 0),(6,.d (.sl 1 (b.1.map Qq))),(8,.mp 1),(9,q6 c.1),(25,q6 (b.1.length : Int)),(26,q6 c.1),(29,q6 c.1),(30,q6 s.1)],[(0,.dat 7 [[.sl 7 (a.Lines.map Kb),.sl 5 (a.Marks.map Km),.int .u8 a.End.Frame.Turn,q8 a.End.Frame.At.X,q8 a.End.Frame.At.Y,q8 a.End.Frame.At.Z,q8 a.End.Drawn]]),(1,.mp (mrow (fun n : Int × Int=>DV.agg [q8 n.1,q8 n.2]) DV.bool s.2))],2⟩) (0,c.2) ar au (wkA [(0,0),(1,1)] [] []) ?_
    intro s bq m
    unfold q4y at m
    refine qc<|G _ J<|q9<|qf ?_
    refine qo J m (fun _ m=>?_) (fun _ m=>?_)
    ·refine ql<|qf ?_
     obtain ⟨av,f,m⟩:=q7 m
     refine Qk (fun y=>y = av) (fun y=>⟨[(2,.ref 0 7 0 0),(6,.d (.sl 1 (b.1.map Qq))),(8,.mp 1),(9,q6 c.1),(25,q6 (b.1.length : Int)),(26,q6 c.1),(29,q6 c.1),(30,q6 s.1)],[(0,.dat 7 [[.sl 7 (a.Lines.map Kb),.sl 5 (a.Marks.map Km),.int .u8 a.End.Frame.Turn,q8 a.End.Frame.At.X,q8 a.End.Frame.At.Y,q8 a.End.Frame.At.Z,q8 a.End.Drawn]]),(1,.mp (mrow (fun n : Int × Int=>DV.agg [q8 n.1,q8 n.2]) DV.bool y))],2⟩) qe ?_ ?_
     ·refine qc<|O J<|qa J<|q9<|qf<|Qj [U,U,U,U,U,U,U,U,U,U,U,U,U,U,U,qu 0,U,U,U,U,qu 0,U] qh<|G _ J<|G _ J<|O J ?_
      obtain ⟨aw,ax,f⟩:=q7 f
      refine Qc ax J<|G _ J<|G _ J<|G _ J<|O J ?_
      obtain ⟨ay,az,f⟩:=q7 f
      refine Qc az J<|G _ J ?_
      obtain ⟨ba,bb,f⟩:=q7 f
      refine Q4 (q12o aw ay ba bb) J ?_
      obtain ⟨bc,k,f⟩:=q7 f
      refine Qb 11 (fun A st=>∃ ad ae af ag ah ai aj ak al am,st = A [(54,Q0 bc),(53,am),(52,al),(51,ak),(50,aj),(49,ai),(48,ah),(47,ag),(46,af),(45,ae),(44,ad)]) ?_ ?_
      ·refine Q9 J J k (fun k=>?_) (fun k=>?_)
       ·refine O J<|O J ?_
        obtain ⟨bd,be,k⟩:=q7 k
        refine Qc be J<|G _ J<|O J<|O J ?_
        obtain ⟨bf,bg,k⟩:=q7 k
        refine Qc bg J<|G _ J ?_
        obtain ⟨bh,bi,k⟩:=q7 k
        refine Q4 (q12u bd bf bh bi) J<|G _ J<|q9 ?_
        obtain rfl:=qd k
        exact ⟨_,_,_,_,_,_,_,_,_,_,J⟩
       refine qb J<|qb J<|qb J<|qb J<|qb J<|qb J<|qb J<|qb J<|qb J<|G _ J<|q9 ?_
       obtain rfl:=qd k
       exact ⟨_,_,_,_,_,_,_,_,_,_,J⟩
      rintro _ ⟨ad,ae,af,ag,ah,ai,aj,ak,al,am,rfl⟩
      refine q9 ?_
      refine qo J f (fun _ f=>?_) (fun _ f=>?_)
      ·refine qw<|O J<|O J<|O J<|G _ J<|qu6 (ek:=(fun n : Int × Int=>DV.agg [q8 n.1,q8 n.2])) (ev:=DV.bool) (es:=s.2) key2 (s.1,c.1) true J J J J J J J J<|qv ?_
       obtain rfl:=qd f
       exact ⟨_,J,wkA [(0,0),(1,1)] [] []⟩
      refine ql<|Qf ?_
      obtain rfl:=qd f
      exact ⟨_,J,wkA [(0,0),(1,1)] [] []⟩
     intro y hb
     subst hb
     refine qw<|G _ J<|O J<|qv ?_
     exact ⟨_,qm m,wkA [(0,0),(1,1)] [] []⟩
    refine Q8 ?_
    refine ⟨_,qm m,fun hm=>?_⟩
    subst hm
    obtain rfl:=qd aa
    exact ⟨_,J,wkA [(0,0),(1,1)] [] []⟩
   intro x hb
   subst hb
   refine qw<|G _ J<|O J<|qv ?_
   exact ⟨_,qm l,wkA [(0,0),(1,1)] [] []⟩
  refine Q8 ?_
  refine ⟨_,qm l,fun hm=>?_⟩
  subst hm
  exact ⟨_,J,wkA [(0,1)] [] []⟩
 intro j hb
 subst hb
 refine qc<|qa J<|q9<|qf<|qc<|O J<|Qi J<|O J<|q9 ?_
 obtain ⟨an,bj,g⟩:=q7 g
 refine Qk (fun u=>u = an) (fun u=>⟨[(11,.hs 0 2 0 u.length)],[(0,.dat 2 (u.map Ub))],1⟩) qe ?_ ?_
 ·refine Qe (q4z b j) (fun h=>⟨[(6,.d (.sl 1 (b.1.map Qq))),(8,.mp 0),(11,.hs 1 2 0 h.2.length),(62,q6 (b.1.length : Int)),(63,q6 h.1)],[(0,.mp (mrow (fun n : Int × Int=>DV.agg [q8 n.1,q8 n.2]) DV.bool j)),(1,.dat 2 (h.2.map Ub))],2⟩) (0,[]) an bj (wkA [(0,0)] [] [1]) ?_
  intro h br o
  unfold q4z at o
  refine qc<|G _ J<|q9<|qf ?_
  refine qo J o (fun _ o=>?_) (fun _ o=>?_)
  ·refine ql<|qf ?_
   obtain ⟨bk,ab,o⟩:=q7 o
   refine Qk (fun v=>v = bk) (fun v=>⟨[(6,.d (.sl 1 (b.1.map Qq))),(8,.mp 0),(11,.hs 1 2 0 v.length),(62,q6 (b.1.length : Int)),(63,q6 h.1)],[(0,.mp (mrow (fun n : Int × Int=>DV.agg [q8 n.1,q8 n.2]) DV.bool j)),(1,.dat 2 (v.map Ub))],2⟩) qe ?_ ?_
   ·refine qc<|O J<|qa J<|qt<|O J<|Qi J<|O J<|q9 ?_
    obtain ⟨bl,bm,ab⟩:=q7 ab
    refine Q3<|Qe (q50 b h j) (fun t=>⟨[(6,.d (.sl 1 (b.1.map Qq))),(8,.mp 0),(11,.hs 1 2 0 t.2.length),(12,q6 h.1),(62,q6 (b.1.length : Int)),(63,q6 h.1),(67,q6 (b.1.length : Int)),(68,q6 t.1)],[(0,.mp (mrow (fun n : Int × Int=>DV.agg [q8 n.1,q8 n.2]) DV.bool j)),(1,.dat 2 (t.2.map Ub))],2⟩) (0,h.2) bl bm (wkA [(0,0),(1,1)] [] []) ?_
    intro t bs p
    unfold q50 at p
    refine qc<|G _ J<|q9<|qf ?_
    refine qo J p (fun _ p=>?_) (fun _ p=>?_)
    ·refine ql<|qf ?_
     obtain ⟨bn,q,p⟩:=q7 p
     refine Qk (fun w=>w = bn) (fun w=>⟨[(6,.d (.sl 1 (b.1.map Qq))),(8,.mp 0),(11,.hs 1 2 0 w.length),(12,q6 h.1),(62,q6 (b.1.length : Int)),(63,q6 h.1),(67,q6 (b.1.length : Int)),(68,q6 t.1)],[(0,.mp (mrow (fun n : Int × Int=>DV.agg [q8 n.1,q8 n.2]) DV.bool j)),(1,.dat 2 (w.map Ub))],2⟩) qe ?_ ?_
     ·refine qc<|O J<|qa J<|qt<|O J<|O J<|O J<|G _ J<|qu5 (ek:=(fun n : Int × Int=>DV.agg [q8 n.1,q8 n.2])) (ev:=DV.bool) (es:=j) key2 false (h.1,t.1) J J J J J J J<|q9 ?_
      refine qo J q (fun _ q=>?_) (fun _ q=>?_)
      ·refine qw<|O J<|O J<|O J<|G _ J<|Qs _ _ J ?_
       obtain ⟨bt,bo,q⟩:=q7 q
       refine Ku _ bo J J J J J J J (Ks J J) J J J J<|qa J<|qv ?_
       obtain rfl:=qd q
       exact ⟨_,J,wkA [(0,0),(1,3)] [] []⟩
      refine ql<|Qf ?_
      obtain rfl:=qd q
      exact ⟨_,J,wkA [(0,0),(1,1)] [] []⟩
     intro w hb
     subst hb
     refine qw<|G _ J<|O J<|qv ?_
     exact ⟨_,qm p,wkA [(0,0),(1,1)] [] []⟩
    refine Q8 ?_
    refine ⟨_,qm p,fun hm=>?_⟩
    subst hm
    obtain rfl:=qd ab
    exact ⟨_,J,wkA [(0,0),(1,1)] [] []⟩
   intro v hb
   subst hb
   refine qw<|G _ J<|O J<|qv ?_
   exact ⟨_,qm o,wkA [(0,0),(1,1)] [] []⟩
  refine Q8 ?_
  refine ⟨_,qm o,fun hm=>?_⟩
  subst hm
  exact ⟨_,J,wkA [(0,1)] [] []⟩
 intro u hb
 subst hb
 refine qc<|O J<|qa J<|qa J<|qs ?_
 obtain rfl:=qd g
 exact finD (.inr J) J (q53 (Yp (Zi J J) (Yp J J))) (.refl _)
theorem qme (c : List (Int × Int)) (f : List (Int × Int)) (r : Bool) (b : q6c c f = some r) : Pure Tryz.prog tab 21 [.sl 2 (c.map Ub),.sl 2 (f.map Ub)] (.bool r):=by
 unfold q6c at b
 refine Qo Tryz.func21 J qh qh J<|qc<|qa J<|q9<|qf<|qc<|O J<|Qi J<|O J<|Qi J<|G _ J<|q9 ?_
 refine qo J b (fun _ b=>?_) (fun _ b=>?_)
 ·refine qc<|qa J<|qs ?_
  obtain rfl:=qd b
  exact Q5 _ J
 refine ql<|qf<|qc<|qa J<|q9 ?_
 obtain ⟨h,k,b⟩:=q7 b
 refine Qk (fun g=>.inl g = h) (fun g=>⟨[],[],0⟩) qe ?_ ?_
 ·refine Qe (q6d c f) (fun j=>⟨[(0,.d (.sl 2 (c.map Ub))),(1,.d (.sl 2 (f.map Ub))),(5,q6 j)],[],0⟩) 0 h k (wkA [] [] []) ?_
  intro j n a
  unfold q6d at a
  refine qf<|qc<|O J<|O J<|Qi J<|G _ J<|q9 ?_
  refine qo J a (fun _ a=>?_) (fun _ a=>?_)
  ·refine ql<|qf<|Q3<|qf<|Qj [U,U,U,U,U,U,U,U,U] qh<|O J<|O J ?_
   obtain ⟨o,l,a⟩:=q7 a
   refine Qc l J<|G _ J<|O J<|O J ?_
   obtain ⟨p,m,a⟩:=q7 a
   refine Qc m J<|G _ J<|G _ J<|q9 ?_
   refine qo J a (fun _ a=>?_) (fun _ a=>?_)
   ·refine qc<|qa J<|qs ?_
    refine ⟨_,qm a,fun hm=>?_⟩
    subst hm
    obtain rfl:=qd b
    exact Q5 _ J
   refine ql<|Qf<|Qn<|qw<|O J<|G _ J<|qa J<|qv ?_
   exact ⟨_,qm a,wkA [] [] []⟩
  refine Q8 ?_
  refine ⟨_,qm a,fun hm=>?_⟩
  subst hm
  exact ⟨_,J,wkA [] [] []⟩
 intro g hb
 subst hb
 refine qc<|qa J<|qs ?_
 obtain rfl:=qd b
 exact Q5 _ J
theorem q5o (a : Int) (b : Int) (c : Int) (d : Int) (r : Qy) (f : q1s a b c d = some r) : Pure Tryz.prog tab 22 [q8 a,q8 b,q8 c,q8 d] (.agg [q8 r.From.X,q8 r.From.Y,q8 r.From.Z,q8 r.To.X,q8 r.To.Y,q8 r.To.Z,q8 r.Depth]):=by
 unfold q1s at f
 refine Qo Tryz.func22 J qh qh J<|qc<|K4 J J<|qt<|O J<|O J<|G _ J<|O J<|O J<|G _ J<|G _ J<|Ql 0 _ J<|qs ?_
 obtain rfl:=qd f
 exact Q5 _ J
theorem qfm (r : List qg) (a : q5p = some r) : Pure Tryz.prog tab 23 [] (.sl 6 (r.map Qg)):=by
 unfold q5p at a
 refine Qo Tryz.func23 J qh qh J<|qc<|qa J<|qt<|G _ J<|G _ J<|Qs _ _ J<|qa J<|qs ?_
 obtain rfl:=qd a
 exact finD (.inr J) J (Zi J J) (.refl _)
theorem q11v (a : qg) (r : Int × Int × Int) (b : qdg a = some r) : Pure Tryz.prog tab 82 [.agg [q8 a.Lo.X,q8 a.Lo.Y,q8 a.Lo.Z,q8 a.Hi.X,q8 a.Hi.Y,q8 a.Hi.Z]] (.tup [q8 r.1,q8 r.2.1,q8 r.2.2]):=by
 unfold qdg at b
 refine Qo Tryz.func82 J qh qh J<|qc<|Qs _ _ J<|qa J<|qa J<|qa J<|q9<|qf<|Qj [U,U,U,U,qu 0,U,U,qu 0,U,U,U,qu 0,U,U,qu 0,U,U,U,qu 0,U,U,qu 0,U,U] qh<|G _ J<|G _ J<|G _ J<|G _ J<|G _ J<|G _ J<|G _ J<|G _ J<|G _ J<|G _ J<|G _ J<|G _ J<|G _ J<|G _ J<|G _ J<|G _ J<|G _ J<|G _ J<|G _ J<|G _ J<|G _ J<|qa J<|qa J<|qa J<|qs ?_
 obtain rfl:=qd b
 exact Q5 _ J
theorem q11q (c : List qg) (r : Int × Int) (a : qaq c = some r) : Pure Tryz.prog tab 51 [.sl 6 (c.map Qg)] (.tup [q8 r.1,q8 r.2]):=by
 unfold qaq at a
 refine Qo Tryz.func51 J qh qh J<|qc<|qa J<|qa J<|q9<|qf<|qc<|O J ?_
 obtain ⟨j,k,a⟩:=q7 a
 refine Q4 (qao c j k) J<|qa J<|qt<|O J<|G _ J<|q9 ?_
 refine qo J a (fun _ a=>?_) (fun _ a=>?_)
 ·refine qc<|O J<|qa J<|qa J<|qs ?_
  obtain rfl:=qd a
  exact Q5 _ J
 refine ql<|qc<|qa J<|q9<|qf<|qc<|O J<|Qi J<|O J<|q9 ?_
 obtain ⟨h,l,a⟩:=q7 a
 refine Qk (fun f=>f = h) (fun f=>⟨[(5,q6 f)],[],0⟩) qe ?_ ?_
 ·refine Qe (q7t c) (fun g=>⟨[(5,q6 g.1),(16,.d (.sl 6 (c.map Qg))),(17,q6 (c.length : Int)),(18,q6 g.2)],[],0⟩) (0,0) h l (wkA [] [] []) ?_
  intro g q b
  unfold q7t at b
  refine qc<|G _ J<|q9<|qf ?_
  refine qo J b (fun _ b=>?_) (fun _ b=>?_)
  ·refine ql<|qf<|Q3<|qc ?_
   obtain ⟨m,n,b⟩:=q7 b
   refine Qc n J<|G _ J<|K4 J J<|Ql 0 _ J<|qt<|G _ J ?_
   obtain ⟨o,p,b⟩:=q7 b
   refine Q4 (q11v m o p) J<|O J<|G _ J<|G _ J<|G _ J<|qa J<|qa J<|qa J<|q9<|qw<|O J<|O J<|O J<|G _ J<|O J<|G _ J<|G _ J<|qa J<|qv<|Qn<|qw<|G _ J<|O J<|qv ?_
   exact ⟨_,qm b,wkA [] [] []⟩
  refine Q8 ?_
  refine ⟨_,qm b,fun hm=>?_⟩
  subst hm
  exact ⟨_,J,wkA [] [] []⟩
 intro f hb
 subst hb
 refine qc<|O J<|qa J<|qa J<|qs ?_
 obtain rfl:=qd a
 exact Q5 _ J
theorem qsy (r : Bool) (a : q90 = some r) : Pure Tryz.prog tab 24 [] (.bool r):=by
 unfold q90 at a
 refine Qo Tryz.func24 J qh qh J<|qc<|qa J<|qt ?_
 obtain ⟨s,h2,a⟩:=q7 a
 refine Q4 (q5o 0 0 3 0 s h2) J ?_
 obtain ⟨t,h4,a⟩:=q7 a
 refine Q4 (qfm t h4) J ?_
 obtain ⟨h,h6,a⟩:=q7 a
 refine Q4 (q12n s t h h6) J<|O J<|G _ J<|G _ J<|qa J<|qa J<|qt ?_
 obtain ⟨j,h8,a⟩:=q7 a
 refine Q4 (q5o 0 0 1 0 j h8) J ?_
 obtain ⟨k,al,a⟩:=q7 a
 refine Q4 (q5o 1 0 2 0 k al) J ?_
 obtain ⟨l,am,a⟩:=q7 a
 refine Q4 (q5o 2 0 2 1 l am) J<|q40 (es:=7) ([j,k,l].map Kb) J J J J J<|G _ J ?_
 obtain ⟨m,an,a⟩:=q7 a
 refine Q4 (qfm m an) J<|q40 (es:=1) ([m].map Qq) J J J J J ?_
 obtain ⟨u,ao,a⟩:=q7 a
 refine Q4 (Un (.cons (q3q (.cons (.refl _) (.cons (.nil _) (.cons (.refl _) (.cons (.refl _) (.cons (.refl _) (.cons (.refl _) (.cons (.refl _) .nil)))))))) (.cons (.refl _) .nil)) (qdr ({Lines:=[j,k,l],Marks:=[],End:=({Frame:=({Turn:=0,At:=({X:=0,Y:=0,Z:=0} : Qa)} : Kl),Drawn:=0} : Yi)} : Qp) [m] u ao)) J<|O J<|G _ J<|G _ J<|qa J<|qa J<|qt<|O J ?_
 obtain ⟨ap,aq,a⟩:=q7 a
 refine Q4 (q11q u.1 ap aq) J<|O J<|G _ J<|G _ J<|qa J<|qa J<|qt ?_
 obtain ⟨n,ar,a⟩:=q7 a
 refine Q4 (q5o 0 0 2 0 n ar) J ?_
 obtain ⟨o,au,a⟩:=q7 a
 refine Q4 (q5o 1 (-1) 1 1 o au) J<|q40 (es:=7) ([n,o].map Kb) J J J J J<|G _ J ?_
 obtain ⟨p,av,a⟩:=q7 a
 refine Q4 (qfm p av) J<|q40 (es:=1) ([p].map Qq) J J J J J ?_
 obtain ⟨q,aw,a⟩:=q7 a
 refine Q4 (Un (.cons (q3q (.cons (.refl _) (.cons (.nil _) (.cons (.refl _) (.cons (.refl _) (.cons (.refl _) (.cons (.refl _) (.cons (.refl _) .nil)))))))) (.cons (.refl _) .nil)) (qh7 ({Lines:=[n,o],Marks:=[],End:=({Frame:=({Turn:=0,At:=({X:=0,Y:=0,Z:=0} : Qa)} : Kl),Drawn:=0} : Yi)} : Qp) [p] q aw)) J<|O J<|G _ J<|G _ J<|qa J<|qa J<|qt<|O J<|G _ J ?_
 refine Q9 J J a (fun a=>?_) (fun a=>?_)
 ·refine O J<|G _ J<|G _ J<|Qs _ _ J ?_
  obtain ⟨ax,ay,a⟩:=q7 a
  refine q2z [.d (.sl 6 (h.1.map Qg)),.hs 4 6 0 [({Lo:=({X:=0,Y:=0,Z:=0} : Qa),Hi:=({X:=4,Y:=1,Z:=1} : Qa)} : qg)].length] (qcu h.1 [({Lo:=({X:=0,Y:=0,Z:=0} : Qa),Hi:=({X:=4,Y:=1,Z:=1} : Qa)} : qg)] ax ay) J J (Zp J (Zp (Zi J J) J)) (.inr J)<|G _ J ?_
  obtain ⟨az,b,a⟩:=q7 a
  refine Qb 4 (fun A st=>∃ v w x,st = A [(53,Q0 az),(52,x),(51,w),(50,v)]) ?_ ?_
  ·refine Q9 J J b (fun b=>?_) (fun b=>?_)
   ·refine O J<|G _ J<|G _ J<|q9 ?_
    obtain rfl:=qd b
    exact ⟨_,_,_,J⟩
   refine qb J<|qb J<|G _ J<|q9 ?_
   obtain rfl:=qd b
   exact ⟨_,_,_,J⟩
  rintro _ ⟨v,w,x,rfl⟩
  obtain ⟨ba,c,a⟩:=q7 a
  refine Qb 4 (fun A st=>∃ y z aa,st = A [(57,Q0 ba),(56,aa),(55,z),(54,y)]) ?_ ?_
  ·refine Q9 J J c (fun c=>?_) (fun c=>?_)
   ·refine O J<|G _ J<|G _ J<|q9 ?_
    obtain rfl:=qd c
    exact ⟨_,_,_,J⟩
   refine qb J<|qb J<|G _ J<|q9 ?_
   obtain rfl:=qd c
   exact ⟨_,_,_,J⟩
  rintro _ ⟨y,z,aa,rfl⟩
  obtain ⟨bb,f,a⟩:=q7 a
  refine Qb 4 (fun A st=>∃ ab ac ad,st = A [(61,Q0 bb),(60,ad),(59,ac),(58,ab)]) ?_ ?_
  ·refine Q9 J J f (fun f=>?_) (fun f=>?_)
   ·refine O J<|G _ J<|G _ J<|q9 ?_
    obtain rfl:=qd f
    exact ⟨_,_,_,J⟩
   refine qb J<|qb J<|G _ J<|q9 ?_
   obtain rfl:=qd f
   exact ⟨_,_,_,J⟩
  rintro _ ⟨ab,ac,ad,rfl⟩
  obtain ⟨bc,g,a⟩:=q7 a
  refine Qb 4 (fun A st=>∃ ae af ag,st = A [(65,Q0 bc),(64,ag),(63,af),(62,ae)]) ?_ ?_
  ·refine Q9 J J g (fun g=>?_) (fun g=>?_)
   ·refine O J<|G _ J<|G _ J<|q9 ?_
    obtain rfl:=qd g
    exact ⟨_,_,_,J⟩
   refine qb J<|qb J<|G _ J<|q9 ?_
   obtain rfl:=qd g
   exact ⟨_,_,_,J⟩
  rintro _ ⟨ae,af,ag,rfl⟩
  refine Q9 J J a (fun a=>?_) (fun a=>?_)
  ·refine O J<|G _ J<|Qs _ _ J ?_
   obtain ⟨bd,be,a⟩:=q7 a
   refine q2z [.d (.sl 2 (q.1.map Ub)),.hs 5 2 0 [(0,1)].length] (qme q.1 [(0,1)] bd be) J J (Zp J (Zp (Zi J J) J)) (.inr J)<|G _ J<|qa J<|qs ?_
   obtain rfl:=qd a
   exact Q5 _ J
  refine qb J<|qb J<|qb J<|qb J<|G _ J<|qa J<|qs ?_
  obtain rfl:=qd a
  exact Q5 _ J
 refine qb J<|qb J<|qb J<|qb J<|qb J<|G _ J<|O J<|qb J<|qb J<|G _ J<|O J<|qb J<|qb J<|G _ J<|O J<|qb J<|qb J<|G _ J<|O J<|qb J<|qb J<|G _ J<|O J<|qb J<|qb J<|qb J<|qb J<|G _ J<|qa J<|qs ?_
 obtain rfl:=qd a
 exact Q5 _ J
theorem qsz (b : Qp) (g : List (List qg)) (r : Bool) (a : q5l b g = some r) : Pure Tryz.prog tab 25 [.agg [.sl 7 (b.Lines.map Kb),.sl 5 (b.Marks.map Km),.int .u8 b.End.Frame.Turn,q8 b.End.Frame.At.X,q8 b.End.Frame.At.Y,q8 b.End.Frame.At.Z,q8 b.End.Drawn],.sl 1 (g.map Qq)] (.bool r):=by
 unfold q5l at a
 refine Qo Tryz.func25 J qh qh J<|qc<|Qs _ _ J<|qa J<|q9<|qf<|qc<|G _ J<|O J ?_
 obtain ⟨r1,h2,a⟩:=q7 a
 refine Q4 (qwe b g r1 h2) J ?_
 obtain ⟨c5,h,a⟩:=q7 a
 refine Qb 5 (fun A st=>∃ q s t u,st = A [(15,Q0 c5),(14,u),(13,t),(12,s),(11,q)]) ?_ ?_
 ·refine Q9 J J h (fun h=>?_) (fun h=>?_)
  ·refine qb J<|qb J<|qb J<|G _ J<|q9 ?_
   obtain rfl:=qd h
   exact ⟨_,_,_,_,J⟩
  refine G _ J ?_
  obtain ⟨bd,be,h⟩:=q7 h
  refine Q4 (qw2 b bd be) J<|G _ J<|G _ J<|q9 ?_
  obtain rfl:=qd h
  exact ⟨_,_,_,_,J⟩
 rintro _ ⟨q,s,t,u,rfl⟩
 obtain ⟨bf,k,a⟩:=q7 a
 refine Qb 5 (fun A st=>∃ v w x y,st = A [(20,Q0 bf),(19,y),(18,x),(17,w),(16,v)]) ?_ ?_
 ·refine Q9 J J k (fun k=>?_) (fun k=>?_)
  ·refine qb J<|qb J<|qb J<|G _ J<|q9 ?_
   obtain rfl:=qd k
   exact ⟨_,_,_,_,J⟩
  refine O J<|Qi J<|G _ J<|G _ J<|q9 ?_
  obtain rfl:=qd k
  exact ⟨_,_,_,_,J⟩
 rintro _ ⟨v,w,x,y,rfl⟩
 obtain ⟨bg,l,a⟩:=q7 a
 refine Qb 5 (fun A st=>∃ z aa ab ac,st = A [(25,Q0 bg),(24,ac),(23,ab),(22,aa),(21,z)]) ?_ ?_
 ·refine Q9 J J l (fun l=>?_) (fun l=>?_)
  ·refine qb J<|qb J<|qb J<|G _ J<|q9 ?_
   obtain rfl:=qd l
   exact ⟨_,_,_,_,J⟩
  refine O J<|Qi J<|G _ J<|G _ J<|q9 ?_
  obtain rfl:=qd l
  exact ⟨_,_,_,_,J⟩
 rintro _ ⟨z,aa,ab,ac,rfl⟩
 refine q9 ?_
 refine qo J a (fun _ a=>?_) (fun _ a=>?_)
 ·refine qc<|qa J<|qs ?_
  obtain rfl:=qd a
  exact Q5 _ J
 refine ql<|qf<|qc<|qa J<|q9 ?_
 obtain ⟨ad,bh,a⟩:=q7 a
 refine Qk (fun o=>.inl o = ad) (fun o=>⟨[(1,.d (.sl 1 (g.map Qq)))],[],0⟩) qe ?_ ?_
 ·refine Qe (q5m b) (fun ae=>⟨[(1,.d (.sl 1 (g.map Qq))),(2,.ref 0 7 0 0),(5,q6 ae)],[(0,.dat 7 [[.sl 7 (b.Lines.map Kb),.sl 5 (b.Marks.map Km),.int .u8 b.End.Frame.Turn,q8 b.End.Frame.At.X,q8 b.End.Frame.At.Y,q8 b.End.Frame.At.Z,q8 b.End.Drawn]])],1⟩) 0 ad bh (wkA [(0,0)] [] []) ?_
  intro ae bs c
  unfold q5m at c
  refine qf<|qc<|O J<|G _ J<|G _ J<|Qi J<|G _ J<|q9 ?_
  refine qo J c (fun _ c=>?_) (fun _ c=>?_)
  ·refine ql<|qf<|Q3<|qc<|G _ J<|G _ J<|O J ?_
   obtain ⟨n,bi,c⟩:=q7 c
   refine Qc bi J<|G _ J<|K4 J J<|Ql 1 _ J<|qt<|G _ J<|G _ J<|G _ J ?_
   obtain ⟨bj,j,c⟩:=q7 c
   refine Qb 6 (fun A st=>∃ af ag ah ai aj,st = A [(46,Q0 bj),(45,aj),(44,ai),(43,ah),(42,ag),(41,af)]) ?_ ?_
   ·refine Q9 J J j (fun j=>?_) (fun j=>?_)
    ·refine qb J<|qb J<|qb J<|qb J<|G _ J<|q9 ?_
     obtain rfl:=qd j
     exact ⟨_,_,_,_,_,J⟩
    refine G _ J<|G _ J ?_
    obtain ⟨bk,bl,j⟩:=q7 j
    refine Q4 (q32 n.From (-1000) bk bl) J<|G _ J<|G _ J<|q9 ?_
    obtain rfl:=qd j
    exact ⟨_,_,_,_,_,J⟩
   rintro _ ⟨af,ag,ah,ai,aj,rfl⟩
   obtain ⟨bm,m,c⟩:=q7 c
   refine Qb 13 (fun A st=>∃ ak al am an ao ap aq ar au av aw ax,st = A [(59,Q0 bm),(58,ax),(57,aw),(56,av),(55,au),(54,ar),(53,aq),(52,ap),(51,ao),(50,an),(49,am),(48,al),(47,ak)]) ?_ ?_
   ·refine Q9 J J m (fun m=>?_) (fun m=>?_)
    ·refine qb J<|qb J<|qb J<|qb J<|qb J<|qb J<|qb J<|qb J<|qb J<|qb J<|qb J<|G _ J<|q9 ?_
     obtain rfl:=qd m
     exact ⟨_,_,_,_,_,_,_,_,_,_,_,_,J⟩
    refine G _ J<|G _ J<|G _ J<|G _ J<|G _ J<|G _ J<|G _ J<|G _ J<|G _ J<|Um (r:=max (max n.From.X n.From.Y) n.From.Z) J J (by simp only [Uk];rfl)<|G _ J<|G _ J<|q9 ?_
    obtain rfl:=qd m
    exact ⟨_,_,_,_,_,_,_,_,_,_,_,_,J⟩
   rintro _ ⟨ak,al,am,an,ao,ap,aq,ar,au,av,aw,ax,rfl⟩
   refine q9 ?_
   refine qo J c (fun _ c=>?_) (fun _ c=>?_)
   ·refine qc<|qa J<|qs ?_
    refine ⟨_,qm c,fun hm=>?_⟩
    subst hm
    obtain rfl:=qd a
    exact Q5 _ J
   refine ql<|Qf<|Qn<|qw<|O J<|G _ J<|qa J<|qv ?_
   exact ⟨_,qm c,wkA [(0,0)] [] []⟩
  refine Q8 ?_
  refine ⟨_,qm c,fun hm=>?_⟩
  subst hm
  exact ⟨_,J,wkA [] [] []⟩
 intro o hb
 subst hb
 refine qf<|qc<|qa J<|q9 ?_
 obtain ⟨ay,bn,a⟩:=q7 a
 refine Qk (fun p=>.inl p = ay) (fun p=>⟨[],[],0⟩) qe ?_ ?_
 ·refine Qe (q5n g) (fun az=>⟨[(1,.d (.sl 1 (g.map Qq))),(7,q6 az)],[],0⟩) 0 ay bn (wkA [] [] []) ?_
  intro az bt f
  unfold q5n at f
  refine qf<|qc<|O J<|O J<|Qi J<|G _ J<|q9 ?_
  refine qo J f (fun _ f=>?_) (fun _ f=>?_)
  ·refine ql<|qf<|Q3<|qc<|O J<|O J ?_
   obtain ⟨bo,bp,f⟩:=q7 f
   refine Qc bp J<|G _ J ?_
   obtain ⟨bq,br,f⟩:=q7 f
   refine Q4 (qw5 bo bq br) J<|G _ J<|q9 ?_
   refine qo J f (fun _ f=>?_) (fun _ f=>?_)
   ·refine qc<|qa J<|qs ?_
    refine ⟨_,qm f,fun hm=>?_⟩
    subst hm
    obtain rfl:=qd a
    exact Q5 _ J
   refine ql<|Qf<|Qn<|qw<|O J<|G _ J<|qa J<|qv ?_
   exact ⟨_,qm f,wkA [] [] []⟩
  refine Q8 ?_
  refine ⟨_,qm f,fun hm=>?_⟩
  subst hm
  exact ⟨_,J,wkA [] [] []⟩
 intro p hb
 subst hb
 refine qc<|qa J<|qs ?_
 obtain rfl:=qd a
 exact Q5 _ J
end Go.Proofs.YtbknppciefodiaaGreat
