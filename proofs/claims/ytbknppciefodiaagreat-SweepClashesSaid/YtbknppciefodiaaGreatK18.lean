/- W_Alld -/
import Derived.Test.YtbknppciefodiaaGreatK17
namespace Go.Proofs.YtbknppciefodiaaGreat
open Go Go.Am Go.Sh
set_option maxHeartbeats 8000000
set_option maxRecDepth 100000
theorem q11d (p0 : List qi→List qi→Option (List qi × Int)) (b : List qg) (c : List qg) (p0F : FuncId) (p0C : List DV) (p0Ok : ∀ (x0 : List qi) (x1 : List qi) (r : List qi × Int),p0 x0 x1 = some r→Pure Tryz.prog tab p0F ([.sl 4 (x0.map qw),.sl 4 (x1.map qw)] ++ p0C) (.tup [.sl 4 (r.1.map qw),q9 r.2])) (r : List qg × Int) (n : qag p0 b c = some r) : Pure Tryz.prog tab 72 [.agg [.fn p0F p0C],.sl 1 ([b,c].map Ql)] (.tup [.sl 6 (r.1.map Q6),q9 r.2]):=by
 unfold qag at n
 refine Qf Tryz.func72 J qh qh J<|qc<|Qj _ _ J<|Qv J J<|Qv J J<|qp<|Qv J J<|qa<|qf<|qc<|O J ?_
 obtain ⟨br,j,n⟩:=q6 n
 refine q3g [.d (.sl 1 ([b,c].map Ql))] (fun f=>f = br) (fun (f : List Int)=>⟨[(2,.ref 0 1 0 0),(4,.ref 1 1 0 0),(5,.ref 2 1 0 0),(6,.ref 3 4 0 0),(14,.fn 122 [.ref 4 1 0 0,.ref 5 1 0 0])],[(0,.dat 1 [[.fn p0F p0C]]),(1,.dat 1 [[.nilsl]]),(2,.dat 1 [[q9 0]]),(3,.dat 4 [[.nilsl,.nilsl,q9 0,q9 0]]),(4,.cel 1 [[.d (.sl 1 (f.map (eI .i64)))]]),(5,.dat 1 [[.sl 1 ([b,c].map Ql)]])],6⟩) J J Tryz.func98 J qh qh J ?_ ?_
 ·refine qc<|Qj _ _ J<|qb J<|qp<|Qv J J<|qa<|qf<|qc<|G _ J<|q5f 2 J J J J J<|O J<|qa<|qx<|Yg<|qc<|G _ J<|qa<|qf<|Z4 J<|qk<|qf ?_
  obtain ⟨bs,ad,j⟩:=q6 j
  refine Qc (fun aa=>aa = bs) (fun aa=>⟨[(1,.ref 4 1 0 0),(3,.ref 5 1 0 0),(8,.d (.sl 1 ([b,c].map Ql))),(9,q7 2),(10,q7 0)],[(0,.dat 1 [[.fn p0F p0C]]),(1,.dat 1 [[.nilsl]]),(2,.dat 1 [[q9 0]]),(3,.dat 4 [[.nilsl,.nilsl,q9 0,q9 0]]),(4,.dat 1 [[.sl 1 ([b,c].map Ql)]]),(5,.cel 1 [[.hs 6 1 0 aa.length]]),(6,.dat 1 (aa.map (eI .i64)))],7⟩) qe ?_ ?_
  ·refine qc ?_
   obtain ⟨aw,bt,ad⟩:=q6 ad
   refine Q1 bt J<|G _ J<|qb J<|qp<|O J<|Qa J<|O J<|qa ?_
   obtain ⟨bu,bv,ad⟩:=q6 ad
   refine qx<|Q5 (qd1 aw) (fun aq=>⟨[(1,.ref 4 1 0 0),(3,.ref 5 1 0 0),(8,.d (.sl 1 ([b,c].map Ql))),(9,q7 2),(10,q7 0),(14,.d (.sl 6 (aw.map Q6))),(15,q7 (aw.length : Int)),(16,q7 aq.1)],[(0,.dat 1 [[.fn p0F p0C]]),(1,.dat 1 [[.nilsl]]),(2,.dat 1 [[q9 0]]),(3,.dat 4 [[.nilsl,.nilsl,q9 0,q9 0]]),(4,.dat 1 [[.sl 1 ([b,c].map Ql)]]),(5,.cel 1 [[.hs 6 1 0 aq.2.length]]),(6,.dat 1 (aq.2.map (eI .i64)))],7⟩) (0,[]) bu bv (wkA [(4,4),(5,5)] [] [6]) ?_
   intro aq dt t
   unfold qd1 at t
   refine qc<|G _ J<|qa<|qf ?_
   refine qm J t (fun _ t=>?_) (fun _ t=>?_)
   ·refine qk<|qf<|qx<|qc ?_
    obtain ⟨du,bw,t⟩:=q6 t
    refine Q1 bw J<|G _ J<|Qv J J<|Qd 7 _ J<|qa<|qt<|G _ J<|G _ J<|G _ J<|G _ J<|G _ J<|G _ J<|G _ J<|Qj _ _ J ?_
    obtain ⟨dv,bz,t⟩:=q6 t
    refine Kn _ bz J J J J J J J (Km J J) J J J J<|Qd 5 _ J<|qr<|Qg<|qt<|G _ J<|O J<|qr ?_
    exact ⟨_,(Option.some.inj t).symm,wkA [(4,4),(5,5),(6,9)] [] []⟩
   refine Q3 ?_
   refine ⟨_,(Option.some.inj t).symm,fun hm=>?_⟩
   subst hm
   obtain rfl:=qd ad
   exact ⟨_,J,wkA [(4,4),(5,5),(6,6)] [] []⟩
  intro aa hb
  subst hb
  refine qt<|G _ J<|O J<|qa<|Yg<|qc<|G _ J<|qa<|qf<|Z4 J<|qk<|qf ?_
  obtain ⟨ca,ae,j⟩:=q6 j
  refine Qc (fun v=>v = ca) (fun v=>⟨[(1,.ref 4 1 0 0),(3,.ref 5 1 0 0),(8,.d (.sl 1 ([b,c].map Ql))),(9,q7 2),(10,q7 1)],[(0,.dat 1 [[.fn p0F p0C]]),(1,.dat 1 [[.nilsl]]),(2,.dat 1 [[q9 0]]),(3,.dat 4 [[.nilsl,.nilsl,q9 0,q9 0]]),(4,.dat 1 [[.sl 1 ([b,c].map Ql)]]),(5,.cel 1 [[.hs 6 1 0 v.length]]),(6,.dat 1 (v.map (eI .i64)))],7⟩) qe ?_ ?_
  ·refine qc ?_
   obtain ⟨ax,cb,ae⟩:=q6 ae
   refine Q1 cb J<|G _ J<|qb J<|qp<|O J<|Qa J<|O J<|qa ?_
   obtain ⟨cc,cd,ae⟩:=q6 ae
   refine qx<|Q5 (qd2 ax) (fun ar=>⟨[(1,.ref 4 1 0 0),(3,.ref 5 1 0 0),(8,.d (.sl 1 ([b,c].map Ql))),(9,q7 2),(10,q7 1),(14,.d (.sl 6 (ax.map Q6))),(15,q7 (ax.length : Int)),(16,q7 ar.1)],[(0,.dat 1 [[.fn p0F p0C]]),(1,.dat 1 [[.nilsl]]),(2,.dat 1 [[q9 0]]),(3,.dat 4 [[.nilsl,.nilsl,q9 0,q9 0]]),(4,.dat 1 [[.sl 1 ([b,c].map Ql)]]),(5,.cel 1 [[.hs 6 1 0 ar.2.length]]),(6,.dat 1 (ar.2.map (eI .i64)))],7⟩) (0,aa) cc cd (wkA [(4,4),(5,5),(6,6)] [] []) ?_
   intro ar dw u
   unfold qd2 at u
   refine qc<|G _ J<|qa<|qf ?_
   refine qm J u (fun _ u=>?_) (fun _ u=>?_)
   ·refine qk<|qf<|qx<|qc ?_
    obtain ⟨dx,ce,u⟩:=q6 u
    refine Q1 ce J<|G _ J<|Qv J J<|Qd 7 _ J<|qa<|qt<|G _ J<|G _ J<|G _ J<|G _ J<|G _ J<|G _ J<|G _ J<|Qj _ _ J ?_
    obtain ⟨dy,cf,u⟩:=q6 u
    refine Kn _ cf J J J J J J J (Km J J) J J J J<|Qd 5 _ J<|qr<|Qg<|qt<|G _ J<|O J<|qr ?_
    exact ⟨_,(Option.some.inj u).symm,wkA [(4,4),(5,5),(6,9)] [] []⟩
   refine Q3 ?_
   refine ⟨_,(Option.some.inj u).symm,fun hm=>?_⟩
   subst hm
   obtain rfl:=qd ae
   exact ⟨_,J,wkA [(4,4),(5,5),(6,6)] [] []⟩
  intro v hb
  subst hb
  refine qt<|G _ J<|O J<|qa<|Yg<|qc<|G _ J<|qa<|qf<|Z2 J<|Q3<|Jk<|qc<|G _ J ?_
  obtain ⟨ay,cg,j⟩:=q6 j
  obtain ⟨dz,ch,j⟩:=q6 j
  have ci:=Kd ch
  refine K1 [(0,6)] [(0,1),(1,1),(2,1),(3,1),(4,1),(5,1),(6,0)] _ (.d (.tup [])) 1 [(6,.dat 1 (ay.map (eI .i64))),(0,.dat 1 [[.fn p0F p0C]]),(1,.dat 1 [[.nilsl]]),(2,.dat 1 [[q9 0]]),(3,.dat 4 [[.nilsl,.nilsl,q9 0,q9 0]]),(4,.dat 1 [[.sl 1 ([b,c].map Ql)]]),(5,.cel 1 [[.hs 6 1 0 v.length]])] 7 (qcw v ay cg)<|qp<|G _ J ?_
  obtain ⟨af,cj,j⟩:=q6 j
  obtain ⟨fa,ck,j⟩:=q6 j
  have fb:=Kd ck
  obtain ⟨fc,cm,j⟩:=q6 j
  have cn:=qdd cm
  refine Jq [(0,6)] [(0,1),(1,1),(2,1),(3,1),(4,1),(5,1),(6,0)] [.hs 6 1 0 v.length] (.hs 6 1 af.1.1 af.1.2) [(6,.dat 1 (af.2.map (eI .i64)))] [(6,.dat 1 (af.2.map (eI .i64))),(0,.dat 1 [[.fn p0F p0C]]),(1,.dat 1 [[.nilsl]]),(2,.dat 1 [[q9 0]]),(3,.dat 4 [[.nilsl,.nilsl,q9 0,q9 0]]),(4,.dat 1 [[.sl 1 ([b,c].map Ql)]]),(5,.cel 1 [[.hs 6 1 0 v.length]])] 7 (qcn ay af cj) J J J (Y9 [(0,6)] [] [] J ⟨⟨_,J,Qy (by simp [ci]) J qs (ltd J)⟩,trivial⟩ ⟨Qk J J,trivial⟩) (Y9 [(0,1),(1,1),(2,1),(3,1),(4,1),(5,1),(6,0)] [] [] J ⟨⟨_,J,.hs J qs (ltd J)⟩,trivial⟩ ⟨Qk J J,trivial⟩) J ⟨.inl J,.inr ⟨J,J⟩,.inr ⟨J,J⟩,.inr ⟨J,J⟩,.inr ⟨J,J⟩,.inr ⟨J,J⟩,.inr ⟨J,J⟩,trivial⟩<|Qd 5 _ J<|qp<|G _ J<|qb J<|qo ?_
  refine ⟨.inr J,_,J,?_⟩
  obtain rfl:=qd j
  exact ⟨_,J,wkE [(0,0),(1,1),(2,2),(3,3),(4,5),(5,4)] [6] [] J ⟨⟨_,J,.ref J qs (ltd J)⟩,⟨_,J,.ref J qs (ltd J)⟩,⟨_,J,.ref J qs (ltd J)⟩,⟨_,J,.ref J qs (ltd J)⟩,⟨_,J,(q1u (.cons (.ref J qs (ltd J)) (.cons (.ref J qs (ltd J)) .nil)))⟩,trivial⟩ ⟨Qk J J,Qk J J,Qk J J,Qk J J,⟨ltd J,.inr ⟨qs,_,J,J9 (.cons (qdf cn J qs) J .nil)⟩⟩,Qk J J,trivial⟩⟩
 intro f hb
 subst hb
 refine qa<|qx ?_
 obtain ⟨co,au,n⟩:=q6 n
 refine q69 (fun w=>.inl w = co) (fun w=>⟨[(4,.ref 0 1 0 0),(5,.ref 1 1 0 0),(6,.ref 2 4 0 0)],[(0,.dat 1 [[.nilsl]]),(1,.dat 1 [[q9 0]]),(2,.cel 4 [[.hs 3 6 0 w.2.2.2.length,.d (.sl 4 (w.1.map qw)),q7 w.2.1,q7 w.2.2.1]]),(3,.dat 6 (w.2.2.2.map Q6))],4⟩) ?_ ?_
 ·refine Y2 (st':=⟨[(2,.ref 0 1 0 0),(4,.ref 1 1 0 0),(5,.ref 2 1 0 0),(6,.ref 3 4 0 0),(14,.fn 122 [.ref 4 1 0 0,.ref 5 1 0 0])],[(0,.dat 1 [[.fn p0F p0C]]),(1,.dat 1 [[.nilsl]]),(2,.dat 1 [[q9 0]]),(3,.dat 4 [[.nilsl,.nilsl,q9 0,q9 0]]),(4,.cel 1 [[.d (.sl 1 (f.map (eI .i64)))]]),(5,.dat 1 [[.sl 1 ([b,c].map Ql)]])],6⟩) (wkA [(0,0),(1,1),(2,2),(3,3),(4,4),(5,5)] [] []) ?_ qe
  refine q6a _ (.inl J) Tryz.func122 J qh qh J ?_
  intro A1597 B1598 hA1597 hB1598
  refine qc<|qb J<|qa ?_
  obtain ⟨cp,cq,au⟩:=q6 au
  refine qx<|Q5 (q4a f b c p0) (fun a=>⟨[(0,.yld 6),(1,.ref 4 1 0 0),(2,.ref 5 1 0 0),(4,q7 a.1)],[(0,.dat 1 [[.fn p0F p0C]]),(1,.dat 1 [[.nilsl]]),(2,.dat 1 [[q9 0]]),(3,.cel 4 [[.hs 7 6 0 a.2.2.2.2.length,.d (.sl 4 (a.2.1.map qw)),q7 a.2.2.1,q7 a.2.2.2.1]]),(4,.cel 1 [[.d (.sl 1 (f.map (eI .i64)))]]),(5,.dat 1 [[.sl 1 ([b,c].map Ql)]]),(6,.loop [(2,.ref 0 1 0 0),(4,.ref 1 1 0 0),(5,.ref 2 1 0 0),(6,.ref 3 4 0 0),(14,.fn 122 [.ref 4 1 0 0,.ref 5 1 0 0])] [15] A1597 B1598 .ready none),(7,.dat 6 (a.2.2.2.2.map Q6))],8⟩) (1,[],0,0,[]) cp cq (wkA [] [] [7]) ?_
  intro a fd g
  unfold q4a at g
  refine qf<|qc<|O J<|G _ J<|Qa J<|G _ J<|qa ?_
  refine qm J g (fun _ g=>?_) (fun _ g=>?_)
  ·refine qk<|qf<|qx<|qf<|Q9 [Qm 9,(some [],[9]),U,(some [],[8]),U,qq 5,U,U,U,qq 4,U,U,U,U,qq 4] qh<|G _ J<|O J<|G _ J ?_
   obtain ⟨k,cr,g⟩:=q6 g
   refine Q1 cr J<|G _ J<|G _ J<|O J ?_
   obtain ⟨l,cs,g⟩:=q6 g
   refine Q1 cs J<|G _ J<|G _ J<|q5f 2 J J J J J<|Qj _ _ J<|G _ J<|Qv J J<|Qd 9 _ J<|qa<|qf<|qc<|G _ J<|q5f 2 J J J J J<|O J<|qa<|qx<|Yg<|qc<|G _ J<|qa<|qf<|Z4 J<|qk<|qf ?_
   obtain ⟨ct,ag,g⟩:=q6 g
   refine Qc (fun h=>h = ct) (fun h=>⟨[(0,.yld 6),(1,.ref 4 1 0 0),(2,.ref 5 1 0 0),(4,q7 a.1),(5,.ref 7 3 0 0),(29,.d (.sl 1 ([b,c].map Ql))),(30,q7 2),(31,q7 0)],[(0,.dat 1 [[.fn p0F p0C]]),(1,.dat 1 [[.nilsl]]),(2,.dat 1 [[q9 0]]),(3,.cel 4 [[.hs 8 6 0 a.2.2.2.2.length,.d (.sl 4 (a.2.1.map qw)),q7 a.2.2.1,q7 a.2.2.2.1]]),(4,.cel 1 [[.d (.sl 1 (f.map (eI .i64)))]]),(5,.dat 1 [[.sl 1 ([b,c].map Ql)]]),(6,.loop [(2,.ref 0 1 0 0),(4,.ref 1 1 0 0),(5,.ref 2 1 0 0),(6,.ref 3 4 0 0),(14,.fn 122 [.ref 4 1 0 0,.ref 5 1 0 0])] [15] A1597 B1598 .ready none),(7,.cel 3 [[q7 k,q7 l,.hs 9 1 0 2]]),(8,.dat 6 (a.2.2.2.2.map Q6)),(9,.cel 1 [[.hs 10 4 0 h.length],[.d (.nilsl)]]),(10,.dat 4 (h.map qw))],11⟩) qe ?_ ?_
   ·refine qc<|O J ?_
    obtain ⟨ah,cu,ag⟩:=q6 ag
    refine Q1 cu J<|G _ J<|qb J<|qb J<|qp<|O J<|Qa J<|O J<|qa ?_
    obtain ⟨cv,cw,ag⟩:=q6 ag
    refine qx<|Q5 (qd3 ah k) (fun ai=>⟨[(0,.yld 6),(1,.ref 4 1 0 0),(2,.ref 5 1 0 0),(4,q7 a.1),(5,.ref 7 3 0 0),(6,q7 0),(29,.d (.sl 1 ([b,c].map Ql))),(30,q7 2),(31,q7 0),(36,.d (.sl 6 (ah.map Q6))),(37,q7 (ah.length : Int)),(38,q7 ai.1)],[(0,.dat 1 [[.fn p0F p0C]]),(1,.dat 1 [[.nilsl]]),(2,.dat 1 [[q9 0]]),(3,.cel 4 [[.hs 8 6 0 a.2.2.2.2.length,.d (.sl 4 (a.2.1.map qw)),q7 a.2.2.1,q7 a.2.2.2.1]]),(4,.cel 1 [[.d (.sl 1 (f.map (eI .i64)))]]),(5,.dat 1 [[.sl 1 ([b,c].map Ql)]]),(6,.loop [(2,.ref 0 1 0 0),(4,.ref 1 1 0 0),(5,.ref 2 1 0 0),(6,.ref 3 4 0 0),(14,.fn 122 [.ref 4 1 0 0,.ref 5 1 0 0])] [15] A1597 B1598 .ready none),(7,.cel 3 [[q7 k,q7 l,.hs 9 1 0 2]]),(8,.dat 6 (a.2.2.2.2.map Q6)),(9,.cel 1 [[.hs 10 4 0 ai.2.length],[.d (.nilsl)]]),(10,.dat 4 (ai.2.map qw))],11⟩) (0,[]) cv cw (wkA [(7,9),(8,7),(9,8)] [] [10]) ?_
    intro ai fe x
    unfold qd3 at x
    refine qc<|G _ J<|qa<|qf ?_
    refine qm J x (fun _ x=>?_) (fun _ x=>?_)
    ·refine qk<|qf ?_
     obtain ⟨cx,o,x⟩:=q6 x
     refine Qc (fun aj=>aj = cx) (fun aj=>⟨[(0,.yld 6),(1,.ref 4 1 0 0),(2,.ref 5 1 0 0),(4,q7 a.1),(5,.ref 7 3 0 0),(6,q7 0),(29,.d (.sl 1 ([b,c].map Ql))),(30,q7 2),(31,q7 0),(36,.d (.sl 6 (ah.map Q6))),(37,q7 (ah.length : Int)),(38,q7 ai.1)],[(0,.dat 1 [[.fn p0F p0C]]),(1,.dat 1 [[.nilsl]]),(2,.dat 1 [[q9 0]]),(3,.cel 4 [[.hs 8 6 0 a.2.2.2.2.length,.d (.sl 4 (a.2.1.map qw)),q7 a.2.2.1,q7 a.2.2.2.1]]),(4,.cel 1 [[.d (.sl 1 (f.map (eI .i64)))]]),(5,.dat 1 [[.sl 1 ([b,c].map Ql)]]),(6,.loop [(2,.ref 0 1 0 0),(4,.ref 1 1 0 0),(5,.ref 2 1 0 0),(6,.ref 3 4 0 0),(14,.fn 122 [.ref 4 1 0 0,.ref 5 1 0 0])] [15] A1597 B1598 .ready none),(7,.cel 3 [[q7 k,q7 l,.hs 9 1 0 2]]),(8,.dat 6 (a.2.2.2.2.map Q6)),(9,.cel 1 [[.hs 10 4 0 aj.length],[.d (.nilsl)]]),(10,.dat 4 (aj.map qw))],11⟩) qe ?_ ?_
     ·refine qc ?_
      obtain ⟨ff,cy,o⟩:=q6 o
      refine Q1 cy J<|G _ J<|Qv J J<|Qd 11 _ J<|qp<|G _ J<|G _ J<|G _ J<|G _ J<|G _ J<|G _ J ?_
      obtain ⟨cz,ak,o⟩:=q6 o
      refine Q2 8 (fun A st=>∃ bb bc bd be bf bg bh,st = A [(55,qu cz),(54,bh),(53,bg),(52,bf),(51,be),(50,bd),(49,bc),(48,bb)]) ?_ ?_
      ·refine Q0 J J ak (fun ak=>?_) (fun ak=>?_)
       ·refine G _ J<|G _ J<|G _ J<|G _ J<|G _ J<|G _ J<|G _ J<|qa ?_
        obtain rfl:=qd ak
        exact ⟨_,_,_,_,_,_,_,J⟩
       refine q8 J<|q8 J<|q8 J<|q8 J<|q8 J<|q8 J<|G _ J<|qa ?_
       obtain rfl:=qd ak
       exact ⟨_,_,_,_,_,_,_,J⟩
      rintro _ ⟨bb,bc,bd,be,bf,bg,bh,rfl⟩
      refine qa ?_
      refine qm J o (fun _ o=>?_) (fun _ o=>?_)
      ·refine Q9 [Qm 9,U,(some [10,12],[10,13]),(some [],[12]),U,qq 11,U,U,qq 11,U,U,qq 11,U,U,qq 11,U,U,qq 9,U,U,qq 7,U,U,qq 7,U] qh<|G _ J<|G _ J<|O J<|G _ J<|G _ J<|O J<|G _ J<|G _ J<|G _ J<|G _ J<|G _ J<|G _ J<|G _ J<|G _ J<|G _ J<|G _ J<|G _ J<|G _ J<|G _ J<|G _ J<|G _ J<|Qj _ _ J ?_
       obtain ⟨fg,da,o⟩:=q6 o
       refine Kn _ da J J J J J J J (Km J J) J J J J<|G _ J<|Qd 9 _ J<|qr ?_
       obtain rfl:=qd o
       exact ⟨_,J,wkA [(7,7),(8,8),(9,9),(10,13)] [] []⟩
      refine qk<|Q7 ?_
      obtain rfl:=qd o
      exact ⟨_,J,wkA [(7,7),(8,8),(9,9),(10,10)] [] []⟩
     intro aj hb
     subst hb
     refine qt<|G _ J<|O J<|qr ?_
     exact ⟨_,(Option.some.inj x).symm,wkA [(7,7),(8,8),(9,9),(10,10)] [] []⟩
    refine Q3 ?_
    refine ⟨_,(Option.some.inj x).symm,fun hm=>?_⟩
    subst hm
    obtain rfl:=qd ag
    exact ⟨_,J,wkA [(7,7),(8,8),(9,9),(10,10)] [] []⟩
   intro h hb
   subst hb
   refine qt<|G _ J<|O J<|qa<|Yg<|qc<|G _ J<|qa<|qf<|Z4 J<|qk<|qf ?_
   obtain ⟨dc,al,g⟩:=q6 g
   refine Qc (fun p=>p = dc) (fun p=>⟨[(0,.yld 6),(1,.ref 4 1 0 0),(2,.ref 5 1 0 0),(4,q7 a.1),(5,.ref 7 3 0 0),(29,.d (.sl 1 ([b,c].map Ql))),(30,q7 2),(31,q7 1)],[(0,.dat 1 [[.fn p0F p0C]]),(1,.dat 1 [[.nilsl]]),(2,.dat 1 [[q9 0]]),(3,.cel 4 [[.hs 8 6 0 a.2.2.2.2.length,.d (.sl 4 (a.2.1.map qw)),q7 a.2.2.1,q7 a.2.2.2.1]]),(4,.cel 1 [[.d (.sl 1 (f.map (eI .i64)))]]),(5,.dat 1 [[.sl 1 ([b,c].map Ql)]]),(6,.loop [(2,.ref 0 1 0 0),(4,.ref 1 1 0 0),(5,.ref 2 1 0 0),(6,.ref 3 4 0 0),(14,.fn 122 [.ref 4 1 0 0,.ref 5 1 0 0])] [15] A1597 B1598 .ready none),(7,.cel 3 [[q7 k,q7 l,.hs 9 1 0 2]]),(8,.dat 6 (a.2.2.2.2.map Q6)),(9,.cel 1 [[.hs 10 4 0 h.length],[.hs 11 4 0 p.length]]),(10,.dat 4 (h.map qw)),(11,.dat 4 (p.map qw))],12⟩) qe ?_ ?_
   ·refine qc<|O J ?_
    obtain ⟨am,dd,al⟩:=q6 al
    refine Q1 dd J<|G _ J<|qb J<|qb J<|qp<|O J<|Qa J<|O J<|qa ?_
    obtain ⟨de,df,al⟩:=q6 al
    refine qx<|Q5 (qd4 am k) (fun an=>⟨[(0,.yld 6),(1,.ref 4 1 0 0),(2,.ref 5 1 0 0),(4,q7 a.1),(5,.ref 7 3 0 0),(6,q7 1),(29,.d (.sl 1 ([b,c].map Ql))),(30,q7 2),(31,q7 1),(36,.d (.sl 6 (am.map Q6))),(37,q7 (am.length : Int)),(38,q7 an.1)],[(0,.dat 1 [[.fn p0F p0C]]),(1,.dat 1 [[.nilsl]]),(2,.dat 1 [[q9 0]]),(3,.cel 4 [[.hs 8 6 0 a.2.2.2.2.length,.d (.sl 4 (a.2.1.map qw)),q7 a.2.2.1,q7 a.2.2.2.1]]),(4,.cel 1 [[.d (.sl 1 (f.map (eI .i64)))]]),(5,.dat 1 [[.sl 1 ([b,c].map Ql)]]),(6,.loop [(2,.ref 0 1 0 0),(4,.ref 1 1 0 0),(5,.ref 2 1 0 0),(6,.ref 3 4 0 0),(14,.fn 122 [.ref 4 1 0 0,.ref 5 1 0 0])] [15] A1597 B1598 .ready none),(7,.cel 3 [[q7 k,q7 l,.hs 9 1 0 2]]),(8,.dat 6 (a.2.2.2.2.map Q6)),(9,.cel 1 [[.hs 10 4 0 h.length],[.hs 11 4 0 an.2.length]]),(10,.dat 4 (h.map qw)),(11,.dat 4 (an.2.map qw))],12⟩) (0,[]) de df (wkA [(7,7),(8,8),(9,9),(10,10)] [] [11]) ?_
    intro an fh y
    unfold qd4 at y
    refine qc<|G _ J<|qa<|qf ?_
    refine qm J y (fun _ y=>?_) (fun _ y=>?_)
    ·refine qk<|qf ?_
     obtain ⟨dg,q,y⟩:=q6 y
     refine Qc (fun ao=>ao = dg) (fun ao=>⟨[(0,.yld 6),(1,.ref 4 1 0 0),(2,.ref 5 1 0 0),(4,q7 a.1),(5,.ref 7 3 0 0),(6,q7 1),(29,.d (.sl 1 ([b,c].map Ql))),(30,q7 2),(31,q7 1),(36,.d (.sl 6 (am.map Q6))),(37,q7 (am.length : Int)),(38,q7 an.1)],[(0,.dat 1 [[.fn p0F p0C]]),(1,.dat 1 [[.nilsl]]),(2,.dat 1 [[q9 0]]),(3,.cel 4 [[.hs 8 6 0 a.2.2.2.2.length,.d (.sl 4 (a.2.1.map qw)),q7 a.2.2.1,q7 a.2.2.2.1]]),(4,.cel 1 [[.d (.sl 1 (f.map (eI .i64)))]]),(5,.dat 1 [[.sl 1 ([b,c].map Ql)]]),(6,.loop [(2,.ref 0 1 0 0),(4,.ref 1 1 0 0),(5,.ref 2 1 0 0),(6,.ref 3 4 0 0),(14,.fn 122 [.ref 4 1 0 0,.ref 5 1 0 0])] [15] A1597 B1598 .ready none),(7,.cel 3 [[q7 k,q7 l,.hs 9 1 0 2]]),(8,.dat 6 (a.2.2.2.2.map Q6)),(9,.cel 1 [[.hs 10 4 0 h.length],[.hs 11 4 0 ao.length]]),(10,.dat 4 (h.map qw)),(11,.dat 4 (ao.map qw))],12⟩) qe ?_ ?_
     ·refine qc ?_
      obtain ⟨fi,dh,q⟩:=q6 q
      refine Q1 dh J<|G _ J<|Qv J J<|Qd 12 _ J<|qp<|G _ J<|G _ J<|G _ J<|G _ J<|G _ J<|G _ J ?_
      obtain ⟨dj,ap,q⟩:=q6 q
      refine Q2 8 (fun A st=>∃ bi bj bk bl bm bn bo,st = A [(55,qu dj),(54,bo),(53,bn),(52,bm),(51,bl),(50,bk),(49,bj),(48,bi)]) ?_ ?_
      ·refine Q0 J J ap (fun ap=>?_) (fun ap=>?_)
       ·refine G _ J<|G _ J<|G _ J<|G _ J<|G _ J<|G _ J<|G _ J<|qa ?_
        obtain rfl:=qd ap
        exact ⟨_,_,_,_,_,_,_,J⟩
       refine q8 J<|q8 J<|q8 J<|q8 J<|q8 J<|q8 J<|G _ J<|qa ?_
       obtain rfl:=qd ap
       exact ⟨_,_,_,_,_,_,_,J⟩
      rintro _ ⟨bi,bj,bk,bl,bm,bn,bo,rfl⟩
      refine qa ?_
      refine qm J q (fun _ q=>?_) (fun _ q=>?_)
      ·refine Q9 [Qm 9,U,(some [11,13],[11,14]),(some [],[13]),U,qq 12,U,U,qq 12,U,U,qq 12,U,U,qq 12,U,U,qq 9,U,U,qq 7,U,U,qq 7,U] qh<|G _ J<|G _ J<|O J<|G _ J<|G _ J<|O J<|G _ J<|G _ J<|G _ J<|G _ J<|G _ J<|G _ J<|G _ J<|G _ J<|G _ J<|G _ J<|G _ J<|G _ J<|G _ J<|G _ J<|G _ J<|Qj _ _ J ?_
       obtain ⟨fj,dk,q⟩:=q6 q
       refine Kn _ dk J J J J J J J (Km J J) J J J J<|G _ J<|Qd 9 _ J<|qr ?_
       obtain rfl:=qd q
       exact ⟨_,J,wkA [(7,7),(8,8),(9,9),(10,10),(11,14)] [] []⟩
      refine qk<|Q7 ?_
      obtain rfl:=qd q
      exact ⟨_,J,wkA [(7,7),(8,8),(9,9),(10,10),(11,11)] [] []⟩
     intro ao hb
     subst hb
     refine qt<|G _ J<|O J<|qr ?_
     exact ⟨_,(Option.some.inj y).symm,wkA [(7,7),(8,8),(9,9),(10,10),(11,11)] [] []⟩
    refine Q3 ?_
    refine ⟨_,(Option.some.inj y).symm,fun hm=>?_⟩
    subst hm
    obtain rfl:=qd al
    exact ⟨_,J,wkA [(7,7),(8,8),(9,9),(10,10),(11,11)] [] []⟩
   intro p hb
   subst hb
   refine qt<|G _ J<|O J<|qa<|Yg<|qc<|G _ J<|qa<|qf<|Z2 J<|Q3<|Jk<|qf ?_
   refine Y2 (st':=⟨[(0,.yld 6),(1,.ref 4 1 0 0),(2,.ref 5 1 0 0),(4,q7 a.1),(5,.ref 7 3 0 0)],[(0,.dat 1 [[.fn p0F p0C]]),(1,.dat 1 [[.nilsl]]),(2,.dat 1 [[q9 0]]),(3,.cel 4 [[.hs 8 6 0 a.2.2.2.2.length,.d (.sl 4 (a.2.1.map qw)),q7 a.2.2.1,q7 a.2.2.2.1]]),(4,.cel 1 [[.d (.sl 1 (f.map (eI .i64)))]]),(5,.dat 1 [[.sl 1 ([b,c].map Ql)]]),(6,.loop [(2,.ref 0 1 0 0),(4,.ref 1 1 0 0),(5,.ref 2 1 0 0),(6,.ref 3 4 0 0),(14,.fn 122 [.ref 4 1 0 0,.ref 5 1 0 0])] [15] A1597 B1598 .ready none),(7,.cel 3 [[q7 k,q7 l,.hs 9 1 0 2]]),(8,.dat 6 (a.2.2.2.2.map Q6)),(9,.cel 1 [[.d (.sl 4 (h.map qw))],[.hs 10 4 0 p.length]]),(10,.dat 4 (p.map qw))],11⟩) (wkA [(7,7),(8,8),(9,9),(10,11)] [10] []) ?_ qe
   refine Y2 (st':=⟨[(0,.yld 6),(1,.ref 4 1 0 0),(2,.ref 5 1 0 0),(4,q7 a.1),(5,.ref 7 3 0 0)],[(0,.dat 1 [[.fn p0F p0C]]),(1,.dat 1 [[.nilsl]]),(2,.dat 1 [[q9 0]]),(3,.cel 4 [[.hs 8 6 0 a.2.2.2.2.length,.d (.sl 4 (a.2.1.map qw)),q7 a.2.2.1,q7 a.2.2.2.1]]),(4,.cel 1 [[.d (.sl 1 (f.map (eI .i64)))]]),(5,.dat 1 [[.sl 1 ([b,c].map Ql)]]),(6,.loop [(2,.ref 0 1 0 0),(4,.ref 1 1 0 0),(5,.ref 2 1 0 0),(6,.ref 3 4 0 0),(14,.fn 122 [.ref 4 1 0 0,.ref 5 1 0 0])] [15] A1597 B1598 .ready none),(7,.cel 3 [[q7 k,q7 l,.hs 9 1 0 2]]),(8,.dat 6 (a.2.2.2.2.map Q6)),(9,.cel 1 [[.d (.sl 4 (h.map qw))],[.d (.sl 4 (p.map qw))]])],10⟩) (wkA [(7,7),(8,8),(9,9)] [10] []) ?_ qe
   refine qt<|O J<|G _ J ?_
   obtain ⟨dl,s,g⟩:=q6 g
   refine q5g (fun z=>.inl z = dl) (fun (z : List qi × Int × Int × List qg)=>⟨[(0,.yld 6),(1,.ref 4 1 0 0),(2,.ref 5 1 0 0),(4,q7 a.1),(84,qu true)],[(0,.dat 1 [[.fn p0F p0C]]),(1,.dat 1 [[.nilsl]]),(2,.dat 1 [[q9 0]]),(3,.cel 4 [[.hs 7 6 0 z.2.2.2.length,.d (.sl 4 (z.1.map qw)),q7 z.2.1,q7 z.2.2.1]]),(4,.cel 1 [[.d (.sl 1 (f.map (eI .i64)))]]),(5,.dat 1 [[.sl 1 ([b,c].map Ql)]]),(6,.loop [(2,.ref 0 1 0 0),(4,.ref 1 1 0 0),(5,.ref 2 1 0 0),(6,.ref 3 4 0 0),(14,.fn 122 [.ref 4 1 0 0,.ref 5 1 0 0])] [15] A1597 B1598 .ready none),(7,.dat 6 (z.2.2.2.map Q6))],8⟩) hA1597 hB1598 J J J J J J ?_ ?_
   ·refine qt<|Qv J J<|Qd 10 _ J<|qr ?_
    refine ⟨J,_,J,?_⟩
    refine qx<|qc<|G _ J<|G _ J<|G _ J<|G _ J ?_
    obtain ⟨bp,dm,s⟩:=q6 s
    refine qz (qg0 h bp dm) J<|O J<|G _ J<|G _ J<|qb J<|qb J<|qa<|qf<|qc<|G _ J<|G _ J<|G _ J<|G _ J<|O J<|qa<|qx<|Yg<|qc<|G _ J<|qa<|qf<|Z4 J<|qk<|qf ?_
    obtain ⟨dn,m,s⟩:=q6 s
    refine Qc (fun ab=>ab = dn) (fun ab=>⟨[(2,.ref 0 1 0 0),(4,.ref 1 1 0 0),(5,.ref 2 1 0 0),(6,.ref 3 4 0 0),(7,.ref 10 3 0 0),(8,.d (.sl 4 (ab.1.map qw))),(9,q7 ab.2),(26,.hs 9 1 1 1),(27,q7 1),(28,q7 0)],[(0,.dat 1 [[.fn p0F p0C]]),(1,.dat 1 [[.nilsl]]),(2,.dat 1 [[q9 0]]),(3,.cel 4 [[.hs 8 6 0 a.2.2.2.2.length,.d (.sl 4 (a.2.1.map qw)),q7 a.2.2.1,q7 a.2.2.2.1]]),(4,.cel 1 [[.d (.sl 1 (f.map (eI .i64)))]]),(5,.dat 1 [[.sl 1 ([b,c].map Ql)]]),(6,.loop [(2,.ref 0 1 0 0),(4,.ref 1 1 0 0),(5,.ref 2 1 0 0),(6,.ref 3 4 0 0),(14,.fn 122 [.ref 4 1 0 0,.ref 5 1 0 0])] [15] A1597 B1598 .busy none),(7,.cel 3 [[q7 k,q7 l,.hs 9 1 0 2]]),(8,.dat 6 (a.2.2.2.2.map Q6)),(9,.cel 1 [[.d (.sl 4 (h.map qw))],[.d (.sl 4 (p.map qw))]]),(10,.cel 3 [[q7 k,q7 l,.hs 9 1 0 2]])],11⟩) qe ?_ ?_
    ·refine qc<|G _ J<|G _ J<|qb J<|qp<|O J<|G _ J<|qa ?_
     refine qm J m (fun _ m=>?_) (fun _ m=>?_)
     ·refine qc<|qb J<|qp<|O J ?_
      obtain ⟨bq,dp,m⟩:=q6 m
      refine qz (qg0 p bq dp) J<|O J<|G _ J<|G _ J<|qb J<|qb J<|qp<|O J<|G _ J<|qa ?_
      refine qm J m (fun _ m=>?_) (fun _ m=>?_)
      ·refine qt<|G _ J<|G _ J<|O J<|O J ?_
       obtain ⟨dq,dr,m⟩:=q6 m
       refine Y7 _ (p0Ok bp.1 bq.1 dq dr) J J J (.inl J)<|O J<|G _ J<|G _ J<|qb J<|qb J<|qr ?_
       obtain rfl:=qd m
       exact ⟨_,J,wkA [(10,10)] [] []⟩
      refine qk<|Q7 ?_
      obtain rfl:=qd m
      exact ⟨_,J,wkA [(10,10)] [] []⟩
     refine qk<|Q7 ?_
     obtain rfl:=qd m
     exact ⟨_,J,wkA [(10,10)] [] []⟩
    intro ab hb
    subst hb
    refine qt<|G _ J<|O J<|qa<|Yg<|qc<|G _ J<|qa<|qf<|Z2 J<|Q3<|Jk<|qf<|qc<|O J<|G _ J<|qa ?_
    refine qm J s (fun _ s=>?_) (fun _ s=>?_)
    ·refine qc<|O J<|Qd 1 _ J<|Qd 2 _ J<|qo ?_
     obtain rfl:=qd s
     refine ⟨_,J,?_⟩
     refine G _ J<|qa<|Z4 J<|Uq ?_
     refine ⟨_,(Option.some.inj g).symm,fun hm=>?_⟩
     subst hm
     refine ⟨.inr J,_,J,_,_,.ret,J,qs,?_⟩
     refine qb9 ?_
     obtain rfl:=qd au
     obtain rfl:=qd n
     exact finD (.inr J) J J (Kz (.cons (.nil _) (.cons (.refl _) .nil)))
    refine qk<|qt<|G _ J<|G _ J<|G _ J<|G _ J<|O J ?_
    obtain ⟨ac,ds,s⟩:=q6 s
    refine K1 [(0,3),(1,8)] [(0,3),(1,3),(2,3),(3,0),(4,3),(5,3),(6,3),(7,3),(8,1),(9,3),(10,3),(11,2)] _ (.d (.tup [])) 2 [(3,.cel 4 [[.hs 11 6 0 ac.2.2.2.length,.d (.sl 4 (ac.1.map qw)),q7 ac.2.1,q7 ac.2.2.1]]),(11,.dat 6 (ac.2.2.2.map Q6)),(0,.dat 1 [[.fn p0F p0C]]),(1,.dat 1 [[.nilsl]]),(2,.dat 1 [[q9 0]]),(4,.cel 1 [[.d (.sl 1 (f.map (eI .i64)))]]),(5,.dat 1 [[.sl 1 ([b,c].map Ql)]]),(6,.loop [(2,.ref 0 1 0 0),(4,.ref 1 1 0 0),(5,.ref 2 1 0 0),(6,.ref 3 4 0 0),(14,.fn 122 [.ref 4 1 0 0,.ref 5 1 0 0])] [15] A1597 B1598 .busy none),(7,.cel 3 [[q7 k,q7 l,.hs 9 1 0 2]]),(9,.cel 1 [[.d (.sl 4 (h.map qw))],[.d (.sl 4 (p.map qw))]]),(10,.cel 3 [[q7 k,q7 l,.hs 9 1 0 2]])] 12 (qn3 a.2.2.2.2 a.2.1 a.2.2.1 a.2.2.2.1 k l ab.1 ac ds)<|qr<|Qg<|Q7 ?_
    refine ⟨_,J,?_⟩
    obtain rfl:=qd s
    exact ⟨_,J,wkA [(7,11)] [] []⟩
   intro z hb
   subst hb
   refine G _ J<|qa<|Z2 J<|qk<|Q7<|Qg<|qt<|O J<|G _ J<|qb J<|qr ?_
   exact ⟨_,(Option.some.inj g).symm,wkA [(7,7)] [] []⟩
  refine Q3 ?_
  refine ⟨_,(Option.some.inj g).symm,fun hm=>?_⟩
  subst hm
  refine ⟨.inl J,_,J,_,_,.nor,J,qs,?_⟩
  refine q4p<|Q7 ?_
  obtain rfl:=qd au
  exact ⟨_,J,wkA [(0,1),(1,2),(2,3),(3,7)] [] []⟩
 intro w st hb hw
 subst hb
 refine Y2 hw ?_ qe
 refine qf<|qc<|G _ J<|G _ J<|G _ J<|G _ J<|qa ?_
 refine qm J n (fun _ n=>?_) (fun _ n=>?_)
 ·refine qc<|Qd 0 _ J<|Qd 1 _ J<|qo ?_
  obtain rfl:=qd n
  exact finD (.inr J) J J (Kz (.cons (.nil _) (.cons (.refl _) .nil)))
 refine qk<|qc<|G _ J<|G _ J<|Qd 0 _ J<|Qd 1 _ J<|qo ?_
 obtain rfl:=qd n
 exact finD (.inr J) J (q4m (Yd (Z6 J J) (Yd J J))) (.refl _)
theorem qn5 (b : List qg) (c : List qg) (d : List qi→List qi→Option (List qi × Int)) (p2F : FuncId) (p2C : List DV) (p2Ok : ∀ (f : List qi) (g : List qi) (r : List qi × Int),d f g = some r→Pure Tryz.prog tab p2F ([.sl 4 (f.map qw),.sl 4 (g.map qw)] ++ p2C) (.tup [.sl 4 (r.1.map qw),q9 r.2])) (r : List qg × Int) (a : q7h b c d = some r) : Pure Tryz.prog tab 52 [.sl 6 (b.map Q6),.sl 6 (c.map Q6),.agg [.fn p2F p2C]] (.tup [.sl 6 (r.1.map Q6),q9 r.2]):=by
 unfold q7h at a
 refine Qf Tryz.func52 J qh qh J<|qc<|Qj _ _ J<|qb J<|qb J<|qa<|qf<|qc<|O J ?_
 obtain ⟨h,j,a⟩:=q6 a
 refine qz (qab b h j) J<|qb J<|qp<|O J<|G _ J<|qa ?_
 refine qm J a (fun _ a=>?_) (fun _ a=>?_)
 ·refine qc<|O J<|qb J<|qb J<|qo ?_
  obtain rfl:=qd a
  exact finD (.inr J) J J (Kz (.cons (.nil _) (.cons (.refl _) .nil)))
 refine qk<|qf<|qc<|O J ?_
 obtain ⟨k,l,a⟩:=q6 a
 refine qz (qab c k l) J<|qb J<|qp<|O J<|G _ J<|qa ?_
 refine qm J a (fun _ a=>?_) (fun _ a=>?_)
 ·refine qc<|O J<|qb J<|qb J<|qo ?_
  obtain rfl:=qd a
  exact finD (.inr J) J J (Kz (.cons (.nil _) (.cons (.refl _) .nil)))
 refine qk<|qc<|G _ J<|O J<|O J<|q3h (es:=1) ([b,c].map Ql) J J J J J ?_
 obtain ⟨m,n,a⟩:=q6 a
 refine qz (q11d d b c p2F p2C p2Ok m n) J<|G _ J<|G _ J<|qb J<|qb J<|qo ?_
 obtain rfl:=qd a
 exact qy _ J
theorem qy9 (b : List qi) (g : qi→Option Bool) (p1F : FuncId) (p1C : List DV) (p1Ok : ∀ (c : qi) (r : Bool),g c = some r→Pure Tryz.prog tab p1F ([.agg [q9 c.X0,q9 c.Y0,q9 c.X1,q9 c.Y1]] ++ p1C) (.bool r)) (r : Int) (f : qcv b g = some r) : Pure Tryz.prog tab 161 [.sl 4 (b.map qw),.fn p1F p1C] (q9 r):=by
 unfold qcv at f
 refine Qf Tryz.func161 J qh qh J<|qc<|qb J<|qa<|qf<|qc<|O J<|Qa J<|O J<|qa ?_
 obtain ⟨j,l,f⟩:=q6 f
 refine Qc (fun h=>.inl h = j) (fun h=>⟨[],[],0⟩) qe ?_ ?_
 ·refine Q5 (q41 b g) (fun k=>⟨[(0,.d (.sl 4 (b.map qw))),(1,.d (.fn p1F p1C)),(7,q7 (b.length : Int)),(8,q7 k)],[],0⟩) 0 j l (wkA [] [] []) ?_
  intro k q a
  unfold q41 at a
  refine qc<|G _ J<|qa<|qf ?_
  refine qm J a (fun _ a=>?_) (fun _ a=>?_)
  ·refine qk<|qf<|qx<|qc<|O J<|qb J<|qp<|O J<|O J<|O J ?_
   obtain ⟨m,n,a⟩:=q6 a
   refine Q1 n J<|G _ J ?_
   obtain ⟨o,p,a⟩:=q6 a
   refine Y7 _ (p1Ok m o p) J J J (.inl J)<|qa ?_
   refine qm J a (fun _ a=>?_) (fun _ a=>?_)
   ·refine qc<|O J<|qb J<|qo ?_
    refine ⟨_,(Option.some.inj a).symm,fun hm=>?_⟩
    subst hm
    obtain rfl:=qd f
    exact qy _ J
   refine qk<|Q7<|Qg<|qt<|G _ J<|O J<|qr ?_
   exact ⟨_,(Option.some.inj a).symm,wkA [] [] []⟩
  refine Q3 ?_
  refine ⟨_,(Option.some.inj a).symm,fun hm=>?_⟩
  subst hm
  exact ⟨_,J,wkA [] [] []⟩
 intro h hb
 subst hb
 refine qc<|qb J<|qo ?_
 obtain rfl:=qd f
 exact qy _ J
theorem qy1 (c : List qi) (d : qi→Option Bool) (p1F : FuncId) (p1C : List DV) (p1Ok : ∀ (a : qi) (r : Bool),d a = some r→Pure Tryz.prog tab p1F ([.agg [q9 a.X0,q9 a.Y0,q9 a.X1,q9 a.Y1]] ++ p1C) (.bool r)) (r : Bool) (b : q9f c d = some r) : Pure Tryz.prog tab 141 [.sl 4 (c.map qw),.fn p1F p1C] (.bool r):=by
 unfold q9f at b
 refine Qf Tryz.func141 J qh qh J<|qc<|qb J<|qp<|O J<|O J ?_
 obtain ⟨f,g,b⟩:=q6 b
 refine qz (qy9 c d p1F p1C p1Ok f g) J<|G _ J<|qb J<|qo ?_
 obtain rfl:=qd b
 exact qy _ J
theorem qvu (a : qi) (r : Bool) (b : q2l a = some r) : Pure Tryz.prog tab 142 [.agg [q9 a.X0,q9 a.Y0,q9 a.X1,q9 a.Y1]] (.bool r):=by
 unfold q2l at b
 refine Qf Tryz.func142 J qh qh J<|qc<|Qj _ _ J<|qb J<|qp<|G _ J ?_
 obtain ⟨c,d,b⟩:=q6 b
 refine qz (qm0 a c d) J<|G _ J<|qb J<|qo ?_
 obtain rfl:=qd b
 exact qy _ J
theorem qlu (c : List qi) (r : Int) (a : q5y c = some r) : Pure Tryz.prog tab 128 [.sl 4 (c.map qw)] (q9 r):=by
 unfold q5y at a
 refine Qf Tryz.func128 J qh qh J<|qc<|qb J<|qa<|qf<|qc<|O J<|Qa J<|G _ J<|qa ?_
 refine qm J a (fun _ a=>?_) (fun _ a=>?_)
 ·refine qc<|qb J<|qo ?_
  obtain rfl:=qd a
  exact qy _ J
 refine qk<|qf<|qc<|O J ?_
 obtain ⟨m,n,a⟩:=q6 a
 refine qz (qy1 c (fun d=>q2l d) 142 [] (fun d r hr=>qvu d r hr) m n) J<|qa ?_
 refine qm J a (fun _ a=>?_) (fun _ a=>?_)
 ·refine qc<|qb J<|qo ?_
  obtain rfl:=qd a
  exact qy _ J
 refine qk<|qf<|qc<|O J ?_
 obtain ⟨f,o,a⟩:=q6 a
 refine qz (qlz c f o) J<|O J<|G _ J<|G _ J<|qb J<|qb J<|qp<|O J<|G _ J ?_
 obtain ⟨p,b,a⟩:=q6 a
 refine Q2 6 (fun A st=>∃ g h j k l,st = A [(22,qu p),(21,l),(20,k),(19,j),(18,h),(17,g)]) ?_ ?_
 ·refine Q0 J J b (fun b=>?_) (fun b=>?_)
  ·refine q8 J<|q8 J<|q8 J<|q8 J<|G _ J<|qa ?_
   obtain rfl:=qd b
   exact ⟨_,_,_,_,_,J⟩
  refine O J<|O J ?_
  obtain ⟨q,s,b⟩:=q6 b
  refine qz (qms f.1 c q s) J<|G _ J<|G _ J<|qa ?_
  obtain rfl:=qd b
  exact ⟨_,_,_,_,_,J⟩
 rintro _ ⟨g,h,j,k,l,rfl⟩
 refine qa ?_
 refine qm J a (fun _ a=>?_) (fun _ a=>?_)
 ·refine qc<|qb J<|qo ?_
  obtain rfl:=qd a
  exact qy _ J
 refine qk<|qc<|qb J<|qo ?_
 obtain rfl:=qd a
 exact qy _ J
theorem qw2 (b : List qi) (c : List qi) (r : Int) (a : q98 b c = some r) : Pure Tryz.prog tab 108 [.sl 4 (b.map qw),.sl 4 (c.map qw)] (q9 r):=by
 unfold q98 at a
 refine Qf Tryz.func108 J qh qh J<|qc<|qb J<|qa<|qf<|qc<|O J ?_
 obtain ⟨d,f,a⟩:=q6 a
 refine qz (qlu b d f) J<|qb J<|qp<|O J<|G _ J<|qa ?_
 refine qm J a (fun _ a=>?_) (fun _ a=>?_)
 ·refine qc<|O J<|qb J<|qo ?_
  obtain rfl:=qd a
  exact qy _ J
 refine qk<|qc<|O J ?_
 obtain ⟨g,h,a⟩:=q6 a
 refine qz (qlu c g h) J<|qb J<|qo ?_
 obtain rfl:=qd a
 exact qy _ J
theorem qly (b : List qi) (c : List qi) (p2 : List qj→List qj→Option (List qj × Int)) (p2F : FuncId) (p2C : List DV) (p2Ok : ∀ (x0 : List qj) (x1 : List qj) (r : List qj × Int),p2 x0 x1 = some r→Pure Tryz.prog tab p2F ([.sl 2 (x0.map Q8),.sl 2 (x1.map Q8)] ++ p2C) (.tup [.sl 2 (r.1.map Q8),q9 r.2])) (r : List qi × Int) (p : q64 b c p2 = some r) : Pure Tryz.prog tab 83 [.sl 4 (b.map qw),.sl 4 (c.map qw),.fn p2F p2C] (.tup [.sl 4 (r.1.map qw),q9 r.2]):=by
 unfold q64 at p
 refine Qf Tryz.func83 J qh qh J<|qc<|Qj (.ref 0 1 0 0) (.dat 1 [[.fn p2F p2C]]) J<|Qv J J<|Qv J J<|qa<|qf<|qc<|O J<|O J ?_
 obtain ⟨r1,h2,p⟩:=q6 p
 refine qz (qw2 b c r1 h2) J<|qb J<|qp<|O J<|G (qu (r1 != 0)) J<|qa ?_
 refine qm J p (fun _ p=>?_) (fun _ p=>?_)
 ·refine qc<|O J<|Qd 1 (.dat 1 [[.nilsl]]) J<|Qd 2 (.dat 1 [[q9 r1]]) J<|qo ?_
  obtain rfl:=qd p
  exact finD (.inr J) (v:=.d (.tup [.nilsl,q9 r1])) J J (Kz (.cons (.nil _) (.cons (.refl _) .nil)))
 refine qk<|qc<|Qv J J<|qa<|qf<|qc<|O J<|O J<|Qj (.hs 4 1 0 [b,c].length) (.dat 1 ([b,c].map Kf)) J ?_
 obtain ⟨cb,q,p⟩:=q6 p
 refine q3g [.hs 4 1 0 [b,c].length] (fun j=>j = cb) (fun (j : List Int)=>⟨[(5,.ref 0 1 0 0),(6,.ref 1 1 0 0),(7,.ref 2 1 0 0),(9,.ref 3 4 0 0),(22,.fn 129 [.ref 4 1 0 0,.ref 5 1 0 0])],[(0,.dat 1 [[.fn p2F p2C]]),(1,.dat 1 [[.nilsl]]),(2,.dat 1 [[q9 0]]),(3,.dat 4 [[.nilsl,.nilsl,q9 0,q9 0]]),(4,.cel 1 [[.d (.sl 1 (j.map (eI .i64)))]]),(5,.cel 1 [[.hs 6 1 0 [b,c].length]]),(6,.dat 1 ([b,c].map Kf))],7⟩) J J Tryz.func109 J qh qh J ?_ ?_
 ·refine qc<|Qj (.ref 5 1 0 0) (.cel 1 [[.hs 4 1 0 [b,c].length]]) J<|qb J<|qp<|Qv J J<|qa<|qf<|qc<|G (.hs 4 1 0 [b,c].length) J<|G (q7 2) J<|O J<|qa<|qx<|Yg<|qc<|G (qu true) J<|qa<|qf<|Z4 J<|qk<|qf ?_
  obtain ⟨cc,ap,q⟩:=q6 q
  refine Qc (fun an=>an = cc) (fun (an : List Int)=>⟨[(1,.ref 5 1 0 0),(3,.ref 6 1 0 0),(8,.hs 4 1 0 [b,c].length),(9,q7 2),(10,q7 0)],[(0,.dat 1 [[.fn p2F p2C]]),(1,.dat 1 [[.nilsl]]),(2,.dat 1 [[q9 0]]),(3,.dat 4 [[.nilsl,.nilsl,q9 0,q9 0]]),(4,.dat 1 ([b,c].map Kf)),(5,.cel 1 [[.hs 4 1 0 [b,c].length]]),(6,.cel 1 [[.hs 7 1 0 an.length]]),(7,.dat 1 (an.map (eI .i64)))],8⟩) qe ?_ ?_
  ·refine qc ?_
   obtain ⟨aq,bi,ap⟩:=q6 ap
   refine qv bi J J<|Q4 (.d (.sl 4 (aq.map qw))) bi J<|qb J<|qp<|O J<|Qa J<|O J<|qa ?_
   obtain ⟨cd,ce,ap⟩:=q6 ap
   refine qx<|Q5 (qcf aq) (fun (ae : Int × List Int)=>⟨[(1,.ref 5 1 0 0),(3,.ref 6 1 0 0),(8,.hs 4 1 0 [b,c].length),(9,q7 2),(10,q7 0),(14,.d (.sl 4 (aq.map qw))),(15,q7 (aq.length : Int)),(16,q7 ae.1)],[(0,.dat 1 [[.fn p2F p2C]]),(1,.dat 1 [[.nilsl]]),(2,.dat 1 [[q9 0]]),(3,.dat 4 [[.nilsl,.nilsl,q9 0,q9 0]]),(4,.dat 1 ([b,c].map Kf)),(5,.cel 1 [[.hs 4 1 0 [b,c].length]]),(6,.cel 1 [[.hs 7 1 0 ae.2.length]]),(7,.dat 1 (ae.2.map (eI .i64)))],8⟩) (0,[]) cd ce (wkA [(5,5),(6,6)] [] [7]) ?_
   intro ae dy z
   unfold qcf at z
   refine qc<|G (.d (.bool (decide (ae.1 < (aq.length : Int))))) J<|qa<|qf ?_
   refine qm J z (fun _ z=>?_) (fun _ z=>?_)
   ·refine qk<|qf<|qx<|qc ?_
    obtain ⟨k,cf,z⟩:=q6 z
    refine Q1 (enc:=qw) cf J<|G (.d (.agg [q9 k.X0,q9 k.Y0,q9 k.X1,q9 k.Y1])) J<|Qv J J<|Qd 8 (.dat 4 [[q9 k.X0,q9 k.Y0,q9 k.X1,q9 k.Y1]]) J<|qa<|qt<|G (.hs 7 1 0 ae.2.length) J<|G (.ref 8 4 0 0) J<|G (q7 k.X0) J<|G (.ref 8 4 0 2) J<|G (q7 k.X1) J<|Qj (.hs 9 1 0 [k.X0,k.X1].length) (.dat 1 ([k.X0,k.X1].map (eI .i64))) J ?_
    obtain ⟨cg,ch,z⟩:=q6 z
    refine Kn (xs:=ae.2) (ys:=[k.X0,k.X1]) (enc:=(eI .i64)) (.hs 9 1 0 [k.X0,k.X1].length) ch J J J J J J J (Km J J) J J J J<|Qd 6 (.cel 1 [[.hs 10 1 0 cg.length]]) J<|qr<|Qg<|qt<|G (.d (q9 (w64 (ae.1 + 1)))) J<|O J<|qr ?_
    exact ⟨_,(Option.some.inj z).symm,wkA [(5,5),(6,6),(7,10)] [] []⟩
   refine Q3 ?_
   refine ⟨_,(Option.some.inj z).symm,fun hm=>?_⟩
   subst hm
   obtain rfl:=qd ap
   exact ⟨_,J,wkA [(5,5),(6,6),(7,7)] [] []⟩
  intro an hb
  subst hb
  refine qt<|G (q7 1) J<|O J<|qa<|Yg<|qc<|G (qu true) J<|qa<|qf<|Z4 J<|qk<|qf ?_
  obtain ⟨ci,ar,q⟩:=q6 q
  refine Qc (fun s=>s = ci) (fun (s : List Int)=>⟨[(1,.ref 5 1 0 0),(3,.ref 6 1 0 0),(8,.hs 4 1 0 [b,c].length),(9,q7 2),(10,q7 1)],[(0,.dat 1 [[.fn p2F p2C]]),(1,.dat 1 [[.nilsl]]),(2,.dat 1 [[q9 0]]),(3,.dat 4 [[.nilsl,.nilsl,q9 0,q9 0]]),(4,.dat 1 ([b,c].map Kf)),(5,.cel 1 [[.hs 4 1 0 [b,c].length]]),(6,.cel 1 [[.hs 7 1 0 s.length]]),(7,.dat 1 (s.map (eI .i64)))],8⟩) qe ?_ ?_
  ·refine qc ?_
   obtain ⟨au,bj,ar⟩:=q6 ar
   refine qv bj J J<|Q4 (.d (.sl 4 (au.map qw))) bj J<|qb J<|qp<|O J<|Qa J<|O J<|qa ?_
   obtain ⟨cj,ck,ar⟩:=q6 ar
   refine qx<|Q5 (qcg au) (fun (af : Int × List Int)=>⟨[(1,.ref 5 1 0 0),(3,.ref 6 1 0 0),(8,.hs 4 1 0 [b,c].length),(9,q7 2),(10,q7 1),(14,.d (.sl 4 (au.map qw))),(15,q7 (au.length : Int)),(16,q7 af.1)],[(0,.dat 1 [[.fn p2F p2C]]),(1,.dat 1 [[.nilsl]]),(2,.dat 1 [[q9 0]]),(3,.dat 4 [[.nilsl,.nilsl,q9 0,q9 0]]),(4,.dat 1 ([b,c].map Kf)),(5,.cel 1 [[.hs 4 1 0 [b,c].length]]),(6,.cel 1 [[.hs 7 1 0 af.2.length]]),(7,.dat 1 (af.2.map (eI .i64)))],8⟩) (0,an) cj ck (wkA [(5,5),(6,6),(7,7)] [] []) ?_
   intro af dz aa
   unfold qcg at aa
   refine qc<|G (.d (.bool (decide (af.1 < (au.length : Int))))) J<|qa<|qf ?_
   refine qm J aa (fun _ aa=>?_) (fun _ aa=>?_)
   ·refine qk<|qf<|qx<|qc ?_
    obtain ⟨l,cm,aa⟩:=q6 aa
    refine Q1 (enc:=qw) cm J<|G (.d (.agg [q9 l.X0,q9 l.Y0,q9 l.X1,q9 l.Y1])) J<|Qv J J<|Qd 8 (.dat 4 [[q9 l.X0,q9 l.Y0,q9 l.X1,q9 l.Y1]]) J<|qa<|qt<|G (.hs 7 1 0 af.2.length) J<|G (.ref 8 4 0 0) J<|G (q7 l.X0) J<|G (.ref 8 4 0 2) J<|G (q7 l.X1) J<|Qj (.hs 9 1 0 [l.X0,l.X1].length) (.dat 1 ([l.X0,l.X1].map (eI .i64))) J ?_
    obtain ⟨cn,co,aa⟩:=q6 aa
    refine Kn (xs:=af.2) (ys:=[l.X0,l.X1]) (enc:=(eI .i64)) (.hs 9 1 0 [l.X0,l.X1].length) co J J J J J J J (Km J J) J J J J<|Qd 6 (.cel 1 [[.hs 10 1 0 cn.length]]) J<|qr<|Qg<|qt<|G (.d (q9 (w64 (af.1 + 1)))) J<|O J<|qr ?_
    exact ⟨_,(Option.some.inj aa).symm,wkA [(5,5),(6,6),(7,10)] [] []⟩
   refine Q3 ?_
   refine ⟨_,(Option.some.inj aa).symm,fun hm=>?_⟩
   subst hm
   obtain rfl:=qd ar
   exact ⟨_,J,wkA [(5,5),(6,6),(7,7)] [] []⟩
  intro s hb
  subst hb
  refine qt<|G (q7 2) J<|O J<|qa<|Yg<|qc<|G (qu false) J<|qa<|qf<|Z2 J<|Q3<|Jk<|qc<|G (.hs 7 1 0 s.length) J ?_
  obtain ⟨bf,cp,q⟩:=q6 q
  obtain ⟨fa,cq,q⟩:=q6 q
  have cr:=Kd cq
  refine K1 [(0,7)] [(0,1),(1,1),(2,1),(3,1),(4,1),(5,1),(6,1),(7,0)] [.hs 7 1 0 s.length] (.d (.tup [])) 1 [(7,.dat 1 (bf.map (eI .i64))),(0,.dat 1 [[.fn p2F p2C]]),(1,.dat 1 [[.nilsl]]),(2,.dat 1 [[q9 0]]),(3,.dat 4 [[.nilsl,.nilsl,q9 0,q9 0]]),(4,.dat 1 ([b,c].map Kf)),(5,.cel 1 [[.hs 4 1 0 [b,c].length]]),(6,.cel 1 [[.hs 7 1 0 s.length]])] 8 (qcw s bf cp)<|qp<|G (.hs 7 1 0 s.length) J ?_
  obtain ⟨ak,cs,q⟩:=q6 q
  obtain ⟨fb,ct,q⟩:=q6 q
  have fc:=Kd ct
  obtain ⟨fd,cu,q⟩:=q6 q
  have cv:=qdd cu
  refine Jq [(0,7)] [(0,1),(1,1),(2,1),(3,1),(4,1),(5,1),(6,1),(7,0)] [.hs 7 1 0 s.length] (.hs 7 1 ak.1.1 ak.1.2) [(7,.dat 1 (ak.2.map (eI .i64)))] [(7,.dat 1 (ak.2.map (eI .i64))),(0,.dat 1 [[.fn p2F p2C]]),(1,.dat 1 [[.nilsl]]),(2,.dat 1 [[q9 0]]),(3,.dat 4 [[.nilsl,.nilsl,q9 0,q9 0]]),(4,.dat 1 ([b,c].map Kf)),(5,.cel 1 [[.hs 4 1 0 [b,c].length]]),(6,.cel 1 [[.hs 7 1 0 s.length]])] 8 (qcn bf ak cs) J J J (Y9 [(0,7)] [] [] J ⟨⟨_,J,Qy (by simp [cr]) J qs (ltd J)⟩,trivial⟩ ⟨Qk J J,trivial⟩) (Y9 [(0,1),(1,1),(2,1),(3,1),(4,1),(5,1),(6,1),(7,0)] [] [] J ⟨⟨_,J,.hs J qs (ltd J)⟩,trivial⟩ ⟨Qk J J,trivial⟩) J ⟨.inl J,.inr ⟨J,J⟩,.inr ⟨J,J⟩,.inr ⟨J,J⟩,.inr ⟨J,J⟩,.inr ⟨J,J⟩,.inr ⟨J,J⟩,.inr ⟨J,J⟩,trivial⟩<|Qd 6 (.cel 1 [[.hs 7 1 ak.1.1 ak.1.2]]) J<|qp<|G (.fn 129 [.ref 6 1 0 0,.ref 5 1 0 0]) J<|qb J<|qo ?_
  refine ⟨.inr J,_,J,?_⟩
  obtain rfl:=qd q
  exact ⟨_,J,wkE [(0,0),(1,1),(2,2),(3,3),(4,6),(5,5),(6,4)] [7] [] J ⟨⟨_,J,.ref J qs (ltd J)⟩,⟨_,J,.ref J qs (ltd J)⟩,⟨_,J,.ref J qs (ltd J)⟩,⟨_,J,.ref J qs (ltd J)⟩,⟨_,J,(q1u (.cons (.ref J qs (ltd J)) (.cons (.ref J qs (ltd J)) .nil)))⟩,trivial⟩ ⟨Qk J J,Qk J J,Qk J J,Qk J J,⟨ltd J,.inr ⟨qs,_,J,J9 (.cons (qdf cv J qs) J .nil)⟩⟩,⟨ltd J,.inr ⟨qs,_,J,J9 (.cons (.hs J qs (ltd J)) J .nil)⟩⟩,Qk J J,trivial⟩⟩
 intro j hb
 subst hb
 refine qa<|qx ?_
 obtain ⟨cw,bd,p⟩:=q6 p
 refine q69 (fun t=>.inl t = cw) (fun (t : List qj × Int × Int × List qi)=>⟨[(6,.ref 0 1 0 0),(7,.ref 1 1 0 0),(9,.ref 2 4 0 0)],[(0,.dat 1 [[.nilsl]]),(1,.dat 1 [[q9 0]]),(2,.cel 4 [[.hs 3 4 0 t.2.2.2.length,.d (.sl 2 (t.1.map Q8)),q7 t.2.1,q7 t.2.2.1]]),(3,.dat 4 (t.2.2.2.map qw))],4⟩) ?_ ?_
 ·refine Y2 (st':=⟨[(5,.ref 0 1 0 0),(6,.ref 1 1 0 0),(7,.ref 2 1 0 0),(9,.ref 3 4 0 0),(22,.fn 129 [.ref 4 1 0 0,.ref 5 1 0 0])],[(0,.dat 1 [[.fn p2F p2C]]),(1,.dat 1 [[.nilsl]]),(2,.dat 1 [[q9 0]]),(3,.dat 4 [[.nilsl,.nilsl,q9 0,q9 0]]),(4,.cel 1 [[.d (.sl 1 (j.map (eI .i64)))]]),(5,.cel 1 [[.hs 6 1 0 [b,c].length]]),(6,.dat 1 ([b,c].map Kf))],7⟩) (wkA [(0,0),(1,1),(2,2),(3,3),(4,4),(5,5),(6,6)] [] []) ?_ qe
  refine q6a [.ref 4 1 0 0,.ref 5 1 0 0] (.inl J) Tryz.func129 J qh qh J ?_
  intro A1439 B1440 hA1439 hB1440
  refine qc<|qb J<|qa ?_
  obtain ⟨cx,cy,bd⟩:=q6 bd
  refine qx<|Q5 (q3y j b c p2) (fun (a : Int × List qj × Int × Int × List qi)=>⟨[(0,.yld 7),(1,.ref 4 1 0 0),(2,.ref 5 1 0 0),(4,q7 a.1)],[(0,.dat 1 [[.fn p2F p2C]]),(1,.dat 1 [[.nilsl]]),(2,.dat 1 [[q9 0]]),(3,.cel 4 [[.hs 8 4 0 a.2.2.2.2.length,.d (.sl 2 (a.2.1.map Q8)),q7 a.2.2.1,q7 a.2.2.2.1]]),(4,.cel 1 [[.d (.sl 1 (j.map (eI .i64)))]]),(5,.cel 1 [[.hs 6 1 0 [b,c].length]]),(6,.dat 1 ([b,c].map Kf)),(7,.loop [(5,.ref 0 1 0 0),(6,.ref 1 1 0 0),(7,.ref 2 1 0 0),(9,.ref 3 4 0 0),(22,.fn 129 [.ref 4 1 0 0,.ref 5 1 0 0])] [23] A1439 B1440 .ready none),(8,.dat 4 (a.2.2.2.2.map qw))],9⟩) (1,[],0,0,[]) cx cy (wkA [] [] [8]) ?_
  intro a fe o
  unfold q3y at o
  refine qf<|qc<|O J<|G (.d (.sl 1 (j.map (eI .i64)))) J<|Qa J<|G (.d (.bool (decide (a.1 < (j.length : Int))))) J<|qa ?_
  refine qm J o (fun _ o=>?_) (fun _ o=>?_)
  ·refine qk<|qf<|qx<|qf<|Q9 [Qm 10,(some [],[10]),U,(some [],[9]),U,qq 5,U,U,U,qq 4,U,U,U,U,qq 4] qh<|G (.d (.sl 1 (j.map (eI .i64)))) J<|O J<|G (.d (q9 (w64 (a.1 - 1)))) J ?_
   obtain ⟨f,cz,o⟩:=q6 o
   refine Q1 (enc:=(eI .i64)) cz J<|G (q7 f) J<|G (.d (.sl 1 (j.map (eI .i64)))) J<|O J ?_
   obtain ⟨m,da,o⟩:=q6 o
   refine Q1 (enc:=(eI .i64)) da J<|G (q7 m) J<|G (.hs 6 1 0 [b,c].length) J<|G (q7 2) J<|Qj (.hs 9 1 0 2) (.dat 1 [[.nilsl],[.nilsl]]) J<|G (.agg [q7 f,q7 m,.hs 9 1 0 2]) J<|Qv J J<|Qd 10 (.cel 3 [[q7 f,q7 m,.hs 9 1 0 2]]) J<|qa<|qf<|qc<|G (.hs 6 1 0 [b,c].length) J<|G (q7 2) J<|O J<|qa<|qx<|Yg<|qc<|G (qu true) J<|qa<|qf<|Z4 J<|qk<|qf ?_
   obtain ⟨dc,av,o⟩:=q6 o
   refine Qc (fun n=>n = dc) (fun (n : List qj)=>⟨[(0,.yld 7),(1,.ref 4 1 0 0),(2,.ref 5 1 0 0),(4,q7 a.1),(5,.ref 8 3 0 0),(29,.hs 6 1 0 [b,c].length),(30,q7 2),(31,q7 0)],[(0,.dat 1 [[.fn p2F p2C]]),(1,.dat 1 [[.nilsl]]),(2,.dat 1 [[q9 0]]),(3,.cel 4 [[.hs 9 4 0 a.2.2.2.2.length,.d (.sl 2 (a.2.1.map Q8)),q7 a.2.2.1,q7 a.2.2.2.1]]),(4,.cel 1 [[.d (.sl 1 (j.map (eI .i64)))]]),(5,.cel 1 [[.hs 6 1 0 [b,c].length]]),(6,.dat 1 ([b,c].map Kf)),(7,.loop [(5,.ref 0 1 0 0),(6,.ref 1 1 0 0),(7,.ref 2 1 0 0),(9,.ref 3 4 0 0),(22,.fn 129 [.ref 4 1 0 0,.ref 5 1 0 0])] [23] A1439 B1440 .ready none),(8,.cel 3 [[q7 f,q7 m,.hs 10 1 0 2]]),(9,.dat 4 (a.2.2.2.2.map qw)),(10,.cel 1 [[.hs 11 2 0 n.length],[.d (.nilsl)]]),(11,.dat 2 (n.map Q8))],12⟩) qe ?_ ?_
   ·refine qc<|O J ?_
    obtain ⟨al,bk,av⟩:=q6 av
    refine qv bk J J<|Q4 (.d (.sl 4 (al.map qw))) bk J<|qb J<|qb J<|qp<|O J<|Qa J<|O J<|qa ?_
    obtain ⟨dd,de,av⟩:=q6 av
    refine qx<|Q5 (qch al f) (fun (ab : Int × List qj)=>⟨[(0,.yld 7),(1,.ref 4 1 0 0),(2,.ref 5 1 0 0),(4,q7 a.1),(5,.ref 8 3 0 0),(6,q7 0),(29,.hs 6 1 0 [b,c].length),(30,q7 2),(31,q7 0),(36,.d (.sl 4 (al.map qw))),(37,q7 (al.length : Int)),(38,q7 ab.1)],[(0,.dat 1 [[.fn p2F p2C]]),(1,.dat 1 [[.nilsl]]),(2,.dat 1 [[q9 0]]),(3,.cel 4 [[.hs 9 4 0 a.2.2.2.2.length,.d (.sl 2 (a.2.1.map Q8)),q7 a.2.2.1,q7 a.2.2.2.1]]),(4,.cel 1 [[.d (.sl 1 (j.map (eI .i64)))]]),(5,.cel 1 [[.hs 6 1 0 [b,c].length]]),(6,.dat 1 ([b,c].map Kf)),(7,.loop [(5,.ref 0 1 0 0),(6,.ref 1 1 0 0),(7,.ref 2 1 0 0),(9,.ref 3 4 0 0),(22,.fn 129 [.ref 4 1 0 0,.ref 5 1 0 0])] [23] A1439 B1440 .ready none),(8,.cel 3 [[q7 f,q7 m,.hs 10 1 0 2]]),(9,.dat 4 (a.2.2.2.2.map qw)),(10,.cel 1 [[.hs 11 2 0 ab.2.length],[.d (.nilsl)]]),(11,.dat 2 (ab.2.map Q8))],12⟩) (0,[]) dd de (wkA [(8,10),(9,8),(10,9)] [] [11]) ?_
    intro ab ff ag
    unfold qch at ag
    refine qc<|G (.d (.bool (decide (ab.1 < (al.length : Int))))) J<|qa<|qf ?_
    refine qm J ag (fun _ ag=>?_) (fun _ ag=>?_)
    ·refine qk<|qf ?_
     obtain ⟨df,x,ag⟩:=q6 ag
     refine Qc (fun aw=>aw = df) (fun (aw : List qj)=>⟨[(0,.yld 7),(1,.ref 4 1 0 0),(2,.ref 5 1 0 0),(4,q7 a.1),(5,.ref 8 3 0 0),(6,q7 0),(29,.hs 6 1 0 [b,c].length),(30,q7 2),(31,q7 0),(36,.d (.sl 4 (al.map qw))),(37,q7 (al.length : Int)),(38,q7 ab.1)],[(0,.dat 1 [[.fn p2F p2C]]),(1,.dat 1 [[.nilsl]]),(2,.dat 1 [[q9 0]]),(3,.cel 4 [[.hs 9 4 0 a.2.2.2.2.length,.d (.sl 2 (a.2.1.map Q8)),q7 a.2.2.1,q7 a.2.2.2.1]]),(4,.cel 1 [[.d (.sl 1 (j.map (eI .i64)))]]),(5,.cel 1 [[.hs 6 1 0 [b,c].length]]),(6,.dat 1 ([b,c].map Kf)),(7,.loop [(5,.ref 0 1 0 0),(6,.ref 1 1 0 0),(7,.ref 2 1 0 0),(9,.ref 3 4 0 0),(22,.fn 129 [.ref 4 1 0 0,.ref 5 1 0 0])] [23] A1439 B1440 .ready none),(8,.cel 3 [[q7 f,q7 m,.hs 10 1 0 2]]),(9,.dat 4 (a.2.2.2.2.map qw)),(10,.cel 1 [[.hs 11 2 0 aw.length],[.d (.nilsl)]]),(11,.dat 2 (aw.map Q8))],12⟩) qe ?_ ?_
     ·refine qc ?_
      obtain ⟨g,dg,x⟩:=q6 x
      refine Q1 (enc:=qw) dg J<|G (.d (.agg [q9 g.X0,q9 g.Y0,q9 g.X1,q9 g.Y1])) J<|Qv J J<|Qd 12 (.dat 4 [[q9 g.X0,q9 g.Y0,q9 g.X1,q9 g.Y1]]) J<|qp<|G (.ref 12 4 0 0) J<|G (q7 g.X0) J<|G (.ref 8 3 0 0) J<|G (q7 f) J<|G (.d (.bool (decide (g.X0≤f)))) J ?_
      obtain ⟨dh,ax,x⟩:=q6 x
      refine Q2 7 (fun A st=>∃ (bl bm bn bo bp bq : V),st = A [(53,qu dh),(52,bq),(51,bp),(50,bo),(49,bn),(48,bm),(47,bl)]) ?_ ?_
      ·refine Q0 J J ax (fun ax=>?_) (fun ax=>?_)
       ·refine G (.ref 8 3 0 0) J<|G (q7 f) J<|G (.ref 12 4 0 2) J<|G (q7 g.X1) J<|G (.d (.bool (decide (f < g.X1)))) J<|G (.d (.bool (decide (f < g.X1)))) J<|qa ?_
        obtain rfl:=qd ax
        exact ⟨_,_,_,_,_,_,J⟩
       refine q8 J<|q8 J<|q8 J<|q8 J<|q8 J<|G (qu false) J<|qa ?_
       obtain rfl:=qd ax
       exact ⟨_,_,_,_,_,_,J⟩
      rintro _ ⟨bl,bm,bn,bo,bp,bq,rfl⟩
      refine qa ?_
      refine qm J x (fun _ x=>?_) (fun _ x=>?_)
      ·refine Q9 [Qm 10,U,(some [11,13],[11,14]),(some [],[13]),U,qq 12,U,qq 12,U,qq 10,U,U,qq 8,U,U,qq 8,U] qh<|G (.ref 8 3 0 2) J<|G (.hs 10 1 0 2) J<|O J<|G (.ref 8 3 0 2) J<|G (.hs 10 1 0 2) J<|O J<|G (.ref 10 1 0 0) J<|G (.hs 11 2 0 ab.2.length) J<|G (.ref 12 4 0 1) J<|G (q7 g.Y0) J<|G (.ref 12 4 0 3) J<|G (q7 g.Y1) J<|G (.d (.agg [q9 g.Y0,q9 g.Y1])) J<|Qj (.hs 13 2 0 [({Lo:=g.Y0,Hi:=g.Y1} : qj)].length) (.dat 2 ([({Lo:=g.Y0,Hi:=g.Y1} : qj)].map Q8)) J ?_
       obtain ⟨dj,dk,x⟩:=q6 x
       refine Kn (xs:=ab.2) (ys:=[({Lo:=g.Y0,Hi:=g.Y1} : qj)]) (enc:=Q8) (.hs 13 2 0 [({Lo:=g.Y0,Hi:=g.Y1} : qj)].length) dk J J J J J J J (Km J J) J J J J<|G (.ref 10 1 0 0) J<|Qd 10 (.cel 1 [[.hs 14 2 0 dj.length],[.d (.nilsl)]]) J<|qr ?_
       obtain rfl:=qd x
       exact ⟨_,J,wkA [(8,8),(9,9),(10,10),(11,14)] [] []⟩
      refine qk<|Q7 ?_
      obtain rfl:=qd x
      exact ⟨_,J,wkA [(8,8),(9,9),(10,10),(11,11)] [] []⟩
     intro aw hb
     subst hb
     refine qt<|G (.d (q9 (w64 (ab.1 + 1)))) J<|O J<|qr ?_
     exact ⟨_,(Option.some.inj ag).symm,wkA [(8,8),(9,9),(10,10),(11,11)] [] []⟩
    refine Q3 ?_
    refine ⟨_,(Option.some.inj ag).symm,fun hm=>?_⟩
    subst hm
    obtain rfl:=qd av
    exact ⟨_,J,wkA [(8,8),(9,9),(10,10),(11,11)] [] []⟩
   intro n hb
   subst hb
   refine qt<|G (q7 1) J<|O J<|qa<|Yg<|qc<|G (qu true) J<|qa<|qf<|Z4 J<|qk<|qf ?_
   obtain ⟨dl,ay,o⟩:=q6 o
   refine Qc (fun u=>u = dl) (fun (u : List qj)=>⟨[(0,.yld 7),(1,.ref 4 1 0 0),(2,.ref 5 1 0 0),(4,q7 a.1),(5,.ref 8 3 0 0),(29,.hs 6 1 0 [b,c].length),(30,q7 2),(31,q7 1)],[(0,.dat 1 [[.fn p2F p2C]]),(1,.dat 1 [[.nilsl]]),(2,.dat 1 [[q9 0]]),(3,.cel 4 [[.hs 9 4 0 a.2.2.2.2.length,.d (.sl 2 (a.2.1.map Q8)),q7 a.2.2.1,q7 a.2.2.2.1]]),(4,.cel 1 [[.d (.sl 1 (j.map (eI .i64)))]]),(5,.cel 1 [[.hs 6 1 0 [b,c].length]]),(6,.dat 1 ([b,c].map Kf)),(7,.loop [(5,.ref 0 1 0 0),(6,.ref 1 1 0 0),(7,.ref 2 1 0 0),(9,.ref 3 4 0 0),(22,.fn 129 [.ref 4 1 0 0,.ref 5 1 0 0])] [23] A1439 B1440 .ready none),(8,.cel 3 [[q7 f,q7 m,.hs 10 1 0 2]]),(9,.dat 4 (a.2.2.2.2.map qw)),(10,.cel 1 [[.hs 11 2 0 n.length],[.hs 12 2 0 u.length]]),(11,.dat 2 (n.map Q8)),(12,.dat 2 (u.map Q8))],13⟩) qe ?_ ?_
   ·refine qc<|O J ?_
    obtain ⟨am,br,ay⟩:=q6 ay
    refine qv br J J<|Q4 (.d (.sl 4 (am.map qw))) br J<|qb J<|qb J<|qp<|O J<|Qa J<|O J<|qa ?_
    obtain ⟨dm,dn,ay⟩:=q6 ay
    refine qx<|Q5 (qci am f) (fun (ac : Int × List qj)=>⟨[(0,.yld 7),(1,.ref 4 1 0 0),(2,.ref 5 1 0 0),(4,q7 a.1),(5,.ref 8 3 0 0),(6,q7 1),(29,.hs 6 1 0 [b,c].length),(30,q7 2),(31,q7 1),(36,.d (.sl 4 (am.map qw))),(37,q7 (am.length : Int)),(38,q7 ac.1)],[(0,.dat 1 [[.fn p2F p2C]]),(1,.dat 1 [[.nilsl]]),(2,.dat 1 [[q9 0]]),(3,.cel 4 [[.hs 9 4 0 a.2.2.2.2.length,.d (.sl 2 (a.2.1.map Q8)),q7 a.2.2.1,q7 a.2.2.2.1]]),(4,.cel 1 [[.d (.sl 1 (j.map (eI .i64)))]]),(5,.cel 1 [[.hs 6 1 0 [b,c].length]]),(6,.dat 1 ([b,c].map Kf)),(7,.loop [(5,.ref 0 1 0 0),(6,.ref 1 1 0 0),(7,.ref 2 1 0 0),(9,.ref 3 4 0 0),(22,.fn 129 [.ref 4 1 0 0,.ref 5 1 0 0])] [23] A1439 B1440 .ready none),(8,.cel 3 [[q7 f,q7 m,.hs 10 1 0 2]]),(9,.dat 4 (a.2.2.2.2.map qw)),(10,.cel 1 [[.hs 11 2 0 n.length],[.hs 12 2 0 ac.2.length]]),(11,.dat 2 (n.map Q8)),(12,.dat 2 (ac.2.map Q8))],13⟩) (0,[]) dm dn (wkA [(8,8),(9,9),(10,10),(11,11)] [] [12]) ?_
    intro ac fg ah
    unfold qci at ah
    refine qc<|G (.d (.bool (decide (ac.1 < (am.length : Int))))) J<|qa<|qf ?_
    refine qm J ah (fun _ ah=>?_) (fun _ ah=>?_)
    ·refine qk<|qf ?_
     obtain ⟨dp,y,ah⟩:=q6 ah
     refine Qc (fun az=>az = dp) (fun (az : List qj)=>⟨[(0,.yld 7),(1,.ref 4 1 0 0),(2,.ref 5 1 0 0),(4,q7 a.1),(5,.ref 8 3 0 0),(6,q7 1),(29,.hs 6 1 0 [b,c].length),(30,q7 2),(31,q7 1),(36,.d (.sl 4 (am.map qw))),(37,q7 (am.length : Int)),(38,q7 ac.1)],[(0,.dat 1 [[.fn p2F p2C]]),(1,.dat 1 [[.nilsl]]),(2,.dat 1 [[q9 0]]),(3,.cel 4 [[.hs 9 4 0 a.2.2.2.2.length,.d (.sl 2 (a.2.1.map Q8)),q7 a.2.2.1,q7 a.2.2.2.1]]),(4,.cel 1 [[.d (.sl 1 (j.map (eI .i64)))]]),(5,.cel 1 [[.hs 6 1 0 [b,c].length]]),(6,.dat 1 ([b,c].map Kf)),(7,.loop [(5,.ref 0 1 0 0),(6,.ref 1 1 0 0),(7,.ref 2 1 0 0),(9,.ref 3 4 0 0),(22,.fn 129 [.ref 4 1 0 0,.ref 5 1 0 0])] [23] A1439 B1440 .ready none),(8,.cel 3 [[q7 f,q7 m,.hs 10 1 0 2]]),(9,.dat 4 (a.2.2.2.2.map qw)),(10,.cel 1 [[.hs 11 2 0 n.length],[.hs 12 2 0 az.length]]),(11,.dat 2 (n.map Q8)),(12,.dat 2 (az.map Q8))],13⟩) qe ?_ ?_
     ·refine qc ?_
      obtain ⟨h,dq,y⟩:=q6 y
      refine Q1 (enc:=qw) dq J<|G (.d (.agg [q9 h.X0,q9 h.Y0,q9 h.X1,q9 h.Y1])) J<|Qv J J<|Qd 13 (.dat 4 [[q9 h.X0,q9 h.Y0,q9 h.X1,q9 h.Y1]]) J<|qp<|G (.ref 13 4 0 0) J<|G (q7 h.X0) J<|G (.ref 8 3 0 0) J<|G (q7 f) J<|G (.d (.bool (decide (h.X0≤f)))) J ?_
      obtain ⟨dr,ba,y⟩:=q6 y
      refine Q2 7 (fun A st=>∃ (bs bt bu bv bw bz : V),st = A [(53,qu dr),(52,bz),(51,bw),(50,bv),(49,bu),(48,bt),(47,bs)]) ?_ ?_
      ·refine Q0 J J ba (fun ba=>?_) (fun ba=>?_)
       ·refine G (.ref 8 3 0 0) J<|G (q7 f) J<|G (.ref 13 4 0 2) J<|G (q7 h.X1) J<|G (.d (.bool (decide (f < h.X1)))) J<|G (.d (.bool (decide (f < h.X1)))) J<|qa ?_
        obtain rfl:=qd ba
        exact ⟨_,_,_,_,_,_,J⟩
       refine q8 J<|q8 J<|q8 J<|q8 J<|q8 J<|G (qu false) J<|qa ?_
       obtain rfl:=qd ba
       exact ⟨_,_,_,_,_,_,J⟩
      rintro _ ⟨bs,bt,bu,bv,bw,bz,rfl⟩
      refine qa ?_
      refine qm J y (fun _ y=>?_) (fun _ y=>?_)
      ·refine Q9 [Qm 10,U,(some [12,14],[12,15]),(some [],[14]),U,qq 13,U,qq 13,U,qq 10,U,U,qq 8,U,U,qq 8,U] qh<|G (.ref 8 3 0 2) J<|G (.hs 10 1 0 2) J<|O J<|G (.ref 8 3 0 2) J<|G (.hs 10 1 0 2) J<|O J<|G (.ref 10 1 1 0) J<|G (.hs 12 2 0 ac.2.length) J<|G (.ref 13 4 0 1) J<|G (q7 h.Y0) J<|G (.ref 13 4 0 3) J<|G (q7 h.Y1) J<|G (.d (.agg [q9 h.Y0,q9 h.Y1])) J<|Qj (.hs 14 2 0 [({Lo:=h.Y0,Hi:=h.Y1} : qj)].length) (.dat 2 ([({Lo:=h.Y0,Hi:=h.Y1} : qj)].map Q8)) J ?_
       obtain ⟨ds,dt,y⟩:=q6 y
       refine Kn (xs:=ac.2) (ys:=[({Lo:=h.Y0,Hi:=h.Y1} : qj)]) (enc:=Q8) (.hs 14 2 0 [({Lo:=h.Y0,Hi:=h.Y1} : qj)].length) dt J J J J J J J (Km J J) J J J J<|G (.ref 10 1 1 0) J<|Qd 10 (.cel 1 [[.hs 11 2 0 n.length],[.hs 15 2 0 ds.length]]) J<|qr ?_
       obtain rfl:=qd y
       exact ⟨_,J,wkA [(8,8),(9,9),(10,10),(11,11),(12,15)] [] []⟩
      refine qk<|Q7 ?_
      obtain rfl:=qd y
      exact ⟨_,J,wkA [(8,8),(9,9),(10,10),(11,11),(12,12)] [] []⟩
     intro az hb
     subst hb
     refine qt<|G (.d (q9 (w64 (ac.1 + 1)))) J<|O J<|qr ?_
     exact ⟨_,(Option.some.inj ah).symm,wkA [(8,8),(9,9),(10,10),(11,11),(12,12)] [] []⟩
    refine Q3 ?_
    refine ⟨_,(Option.some.inj ah).symm,fun hm=>?_⟩
    subst hm
    obtain rfl:=qd ay
    exact ⟨_,J,wkA [(8,8),(9,9),(10,10),(11,11),(12,12)] [] []⟩
   intro u hb
   subst hb
   refine qt<|G (q7 2) J<|O J<|qa<|Yg<|qc<|G (qu false) J<|qa<|qf<|Z2 J<|Q3<|Jk<|qf ?_
   refine Y2 (st':=⟨[(0,.yld 7),(1,.ref 4 1 0 0),(2,.ref 5 1 0 0),(4,q7 a.1),(5,.ref 8 3 0 0)],[(0,.dat 1 [[.fn p2F p2C]]),(1,.dat 1 [[.nilsl]]),(2,.dat 1 [[q9 0]]),(3,.cel 4 [[.hs 9 4 0 a.2.2.2.2.length,.d (.sl 2 (a.2.1.map Q8)),q7 a.2.2.1,q7 a.2.2.2.1]]),(4,.cel 1 [[.d (.sl 1 (j.map (eI .i64)))]]),(5,.cel 1 [[.hs 6 1 0 [b,c].length]]),(6,.dat 1 ([b,c].map Kf)),(7,.loop [(5,.ref 0 1 0 0),(6,.ref 1 1 0 0),(7,.ref 2 1 0 0),(9,.ref 3 4 0 0),(22,.fn 129 [.ref 4 1 0 0,.ref 5 1 0 0])] [23] A1439 B1440 .ready none),(8,.cel 3 [[q7 f,q7 m,.hs 10 1 0 2]]),(9,.dat 4 (a.2.2.2.2.map qw)),(10,.cel 1 [[.d (.sl 2 (n.map Q8))],[.hs 11 2 0 u.length]]),(11,.dat 2 (u.map Q8))],12⟩) (wkA [(8,8),(9,9),(10,10),(11,12)] [11] []) ?_ qe
   refine Y2 (st':=⟨[(0,.yld 7),(1,.ref 4 1 0 0),(2,.ref 5 1 0 0),(4,q7 a.1),(5,.ref 8 3 0 0)],[(0,.dat 1 [[.fn p2F p2C]]),(1,.dat 1 [[.nilsl]]),(2,.dat 1 [[q9 0]]),(3,.cel 4 [[.hs 9 4 0 a.2.2.2.2.length,.d (.sl 2 (a.2.1.map Q8)),q7 a.2.2.1,q7 a.2.2.2.1]]),(4,.cel 1 [[.d (.sl 1 (j.map (eI .i64)))]]),(5,.cel 1 [[.hs 6 1 0 [b,c].length]]),(6,.dat 1 ([b,c].map Kf)),(7,.loop [(5,.ref 0 1 0 0),(6,.ref 1 1 0 0),(7,.ref 2 1 0 0),(9,.ref 3 4 0 0),(22,.fn 129 [.ref 4 1 0 0,.ref 5 1 0 0])] [23] A1439 B1440 .ready none),(8,.cel 3 [[q7 f,q7 m,.hs 10 1 0 2]]),(9,.dat 4 (a.2.2.2.2.map qw)),(10,.cel 1 [[.d (.sl 2 (n.map Q8))],[.d (.sl 2 (u.map Q8))]])],11⟩) (wkA [(8,8),(9,9),(10,10)] [11] []) ?_ qe
   refine qt<|O J<|G (.agg [q7 f,q7 m,.hs 10 1 0 2]) J ?_
   obtain ⟨du,ad,o⟩:=q6 o
   refine q5g (fun ai=>.inl ai = du) (fun (ai : List qj × Int × Int × List qi)=>⟨[(0,.yld 7),(1,.ref 4 1 0 0),(2,.ref 5 1 0 0),(4,q7 a.1),(74,qu true)],[(0,.dat 1 [[.fn p2F p2C]]),(1,.dat 1 [[.nilsl]]),(2,.dat 1 [[q9 0]]),(3,.cel 4 [[.hs 8 4 0 ai.2.2.2.length,.d (.sl 2 (ai.1.map Q8)),q7 ai.2.1,q7 ai.2.2.1]]),(4,.cel 1 [[.d (.sl 1 (j.map (eI .i64)))]]),(5,.cel 1 [[.hs 6 1 0 [b,c].length]]),(6,.dat 1 ([b,c].map Kf)),(7,.loop [(5,.ref 0 1 0 0),(6,.ref 1 1 0 0),(7,.ref 2 1 0 0),(9,.ref 3 4 0 0),(22,.fn 129 [.ref 4 1 0 0,.ref 5 1 0 0])] [23] A1439 B1440 .ready none),(8,.dat 4 (ai.2.2.2.map qw))],9⟩) hA1439 hB1440 J J J J J J ?_ ?_
   ·refine qt<|Qv J J<|Qd 11 (.cel 3 [[q7 f,q7 m,.hs 10 1 0 2]]) J<|qr ?_
    refine ⟨J,_,J,?_⟩
    refine qx<|qf<|Q9 [U,U,U,U,U,U,qq 10,U,qq 11,U,qq 10,U,qq 11,U,qq 0] qh<|G (.d (.fn p2F p2C)) J<|G (.ref 11 3 0 2) J<|G (.hs 10 1 0 2) J<|G (.ref 10 1 0 0) J<|G (.d (.sl 2 (n.map Q8))) J<|G (.ref 11 3 0 2) J<|G (.hs 10 1 0 2) J<|G (.ref 10 1 1 0) J<|G (.d (.sl 2 (u.map Q8))) J ?_
    obtain ⟨aj,dv,ad⟩:=q6 ad
    refine Y7 [.d (.sl 2 (n.map Q8)),.d (.sl 2 (u.map Q8))] (p2Ok n u aj dv) J J J (.inl J)<|O J<|G (.d (.sl 2 (aj.1.map Q8))) J<|G (q7 aj.2) J<|qb J<|qb J<|qa<|qf<|qc<|O J<|G (qu (aj.2 != 0)) J<|qa ?_
    refine qm J ad (fun _ ad=>?_) (fun _ ad=>?_)
    ·refine qc<|O J<|Qd 1 (.dat 1 [[.nilsl]]) J<|Qd 2 (.dat 1 [[q9 aj.2]]) J<|qo ?_
     obtain rfl:=qd ad
     refine ⟨_,J,?_⟩
     refine G (qu true) J<|qa<|Z4 J<|Uq ?_
     refine ⟨_,(Option.some.inj o).symm,fun hm=>?_⟩
     subst hm
     refine ⟨.inr J,_,J,_,_,.ret,J,qs,?_⟩
     refine qb9 ?_
     obtain rfl:=qd bd
     obtain rfl:=qd p
     exact finD (.inr J) (v:=.d (.tup [.nilsl,q9 aj.2])) J J (Kz (.cons (.nil _) (.cons (.refl _) .nil)))
    refine qk<|qt<|G (.ref 11 3 0 0) J<|G (q7 f) J<|G (.ref 11 3 0 1) J<|G (q7 m) J<|O J ?_
    obtain ⟨ao,dw,ad⟩:=q6 ad
    refine K1 [(0,3),(1,9)] [(0,3),(1,3),(2,3),(3,0),(4,3),(5,3),(6,3),(7,3),(8,3),(9,1),(10,3),(11,3),(12,2)] [.ref 3 4 0 0,q7 f,q7 m,.d (.sl 2 (aj.1.map Q8))] (.d (.tup [])) 2 [(3,.cel 4 [[.hs 12 4 0 ao.2.2.2.length,.d (.sl 2 (ao.1.map Q8)),q7 ao.2.1,q7 ao.2.2.1]]),(12,.dat 4 (ao.2.2.2.map qw)),(0,.dat 1 [[.fn p2F p2C]]),(1,.dat 1 [[.nilsl]]),(2,.dat 1 [[q9 0]]),(4,.cel 1 [[.d (.sl 1 (j.map (eI .i64)))]]),(5,.cel 1 [[.hs 6 1 0 [b,c].length]]),(6,.dat 1 ([b,c].map Kf)),(7,.loop [(5,.ref 0 1 0 0),(6,.ref 1 1 0 0),(7,.ref 2 1 0 0),(9,.ref 3 4 0 0),(22,.fn 129 [.ref 4 1 0 0,.ref 5 1 0 0])] [23] A1439 B1440 .busy none),(8,.cel 3 [[q7 f,q7 m,.hs 10 1 0 2]]),(10,.cel 1 [[.d (.sl 2 (n.map Q8))],[.d (.sl 2 (u.map Q8))]]),(11,.cel 3 [[q7 f,q7 m,.hs 10 1 0 2]])] 13 (qlw a.2.2.2.2 a.2.1 a.2.2.1 a.2.2.2.1 f m aj.1 ao dw)<|qr<|Qg<|Q7 ?_
    refine ⟨_,J,?_⟩
    obtain rfl:=qd ad
    exact ⟨_,J,wkA [(8,12)] [] []⟩
   intro ai hb
   subst hb
   refine G (qu false) J<|qa<|Z2 J<|qk<|Q7<|Qg<|qt<|O J<|G (.d (q9 (w64 (a.1 + 1)))) J<|qb J<|qr ?_
   exact ⟨_,(Option.some.inj o).symm,wkA [(8,8)] [] []⟩
  refine Q3 ?_
  refine ⟨_,(Option.some.inj o).symm,fun hm=>?_⟩
  subst hm
  refine ⟨.inl J,_,J,_,_,.nor,J,qs,?_⟩
  refine q4p<|Q7 ?_
  obtain rfl:=qd bd
  exact ⟨_,J,wkA [(0,1),(1,2),(2,3),(3,8)] [] []⟩
 intro t st hb hw
 subst hb
 refine Y2 hw ?_ qe
 refine qc ?_
 obtain ⟨dx,bb,p⟩:=q6 p
 refine q3g [.ref 2 4 0 0] (fun w=>w = dx) (fun (w : Int × List qi)=>⟨[(6,.ref 0 1 0 0),(7,.ref 1 1 0 0),(46,.tup [.hs 2 4 0 w.2.length,q7 w.1])],[(0,.dat 1 [[.nilsl]]),(1,.dat 1 [[q9 0]]),(2,.dat 4 (w.2.map qw))],3⟩) J J Tryz.func111 J qh qh J ?_ ?_
 ·refine qc<|qb J<|qb J<|qa<|qf<|qc<|O J<|G (.ref 2 4 0 0) J<|G (.ref 2 4 0 0) J<|G (.hs 3 4 0 t.2.2.2.length) J<|G (q7 (t.2.2.2.length : Int)) J<|G (.d (.bool (decide ((t.2.2.2.length : Int) > 400)))) J<|qa ?_
  refine qm J bb (fun _ bb=>?_) (fun _ bb=>?_)
  ·refine qc<|qb J<|qb J<|qo ?_
   refine ⟨.inr J,_,J,?_⟩
   obtain rfl:=qd bb
   exact ⟨_,J,wkA [(0,0),(1,1)] [] [2]⟩
  refine qk<|qc<|O J<|G (.ref 2 4 0 0) J<|G (.ref 2 4 0 0) J<|G (.hs 3 4 0 t.2.2.2.length) J<|qb J<|qb J<|qo ?_
  refine ⟨.inr J,_,J,?_⟩
  obtain rfl:=qd bb
  exact ⟨_,J,wkA [(0,0),(1,1),(2,3)] [] []⟩
 intro w hb
 subst hb
 refine G (.hs 2 4 0 w.2.length) J<|G (q7 w.1) J<|Qd 0 (.cel 1 [[.hs 2 4 0 w.2.length]]) J<|Qd 1 (.dat 1 [[q9 w.1]]) J<|qo ?_
 obtain rfl:=qd p
 exact finD (.inr J) (v:=.tup [.hs 2 4 0 w.2.length,q7 w.1]) J (q4m (Yd (Z6 J J) (Yd J J))) (.refl _)
theorem qne (g : List qj) (r : Int) (b : q2x g = some r) : Pure Tryz.prog tab 131 [.sl 2 (g.map Q8)] (q9 r):=by
 unfold q2x at b
 refine Qf Tryz.func131 J qh qh J<|qc<|qb J<|qa<|qf<|qc<|O J<|Qa J<|G _ J<|qa ?_
 refine qm J b (fun _ b=>?_) (fun _ b=>?_)
 ·refine qc<|qb J<|qo ?_
  obtain rfl:=qd b
  exact qy _ J
 refine qk<|qf<|qc<|O J<|Qa J<|O J<|qa ?_
 obtain ⟨j,ak,b⟩:=q6 b
 refine Qc (fun h=>.inl h = j) (fun h=>⟨[],[],0⟩) qe ?_ ?_
 ·refine Q5 (q1q g) (fun k=>⟨[(0,.d (.sl 2 (g.map Q8))),(8,.d (.sl 2 (g.map Q8))),(9,q7 (g.length : Int)),(10,q7 k)],[],0⟩) 0 j ak (wkA [] [] []) ?_
  intro k au a
  unfold q1q at a
  refine qc<|G _ J<|qa<|qf ?_
  refine qm J a (fun _ a=>?_) (fun _ a=>?_)
  ·refine qk<|qf<|qx<|qc<|O J ?_
   obtain ⟨al,am,a⟩:=q6 a
   refine Q1 am J<|G _ J<|Qv J J<|qb J<|Qd 0 _ J<|qa<|qf<|Q9 [U,U,U,qq 0,U,U,U,U,U,U,U,U,U,U,U,U,U,qq 0] qh<|G _ J ?_
   obtain ⟨an,ao,a⟩:=q6 a
   refine qz (qni al an ao) J<|G _ J ?_
   obtain ⟨ap,c,a⟩:=q6 a
   refine Q2 15 (fun A st=>∃ l m n o p q s t u v w x y z,st = A [(32,qu ap),(31,z),(30,y),(29,x),(28,w),(27,v),(26,u),(25,t),(24,s),(23,q),(22,p),(21,o),(20,n),(19,m),(18,l)]) ?_ ?_
   ·refine Q0 J J c (fun c=>?_) (fun c=>?_)
    ·refine q8 J<|q8 J<|q8 J<|q8 J<|q8 J<|q8 J<|q8 J<|q8 J<|q8 J<|q8 J<|q8 J<|q8 J<|q8 J<|G _ J<|qa ?_
     obtain rfl:=qd c
     exact ⟨_,_,_,_,_,_,_,_,_,_,_,_,_,_,J⟩
    refine O J<|G _ J ?_
    obtain ⟨aq,f,c⟩:=q6 c
    refine Q2 11 (fun A st=>∃ aa ab ac ad ae af ag ah ai aj,st = A [(31,qu aq),(30,aj),(29,ai),(28,ah),(27,ag),(26,af),(25,ae),(24,ad),(23,ac),(22,ab),(21,aa)]) ?_ ?_
    ·refine Q0 J J f (fun f=>?_) (fun f=>?_)
     ·refine O J<|O J<|G _ J ?_
      obtain ⟨av,ar,f⟩:=q6 f
      refine Q1 ar J<|G _ J<|G _ J<|G _ J<|G _ J<|G _ J<|G _ J<|qa ?_
      obtain rfl:=qd f
      exact ⟨_,_,_,_,_,_,_,_,_,_,J⟩
     refine q8 J<|q8 J<|q8 J<|q8 J<|q8 J<|q8 J<|q8 J<|q8 J<|q8 J<|G _ J<|qa ?_
     obtain rfl:=qd f
     exact ⟨_,_,_,_,_,_,_,_,_,_,J⟩
    rintro _ ⟨aa,ab,ac,ad,ae,af,ag,ah,ai,aj,rfl⟩
    refine G _ J<|qa ?_
    obtain rfl:=qd c
    exact ⟨_,_,_,_,_,_,_,_,_,_,_,_,_,_,J⟩
   rintro _ ⟨l,m,n,o,p,q,s,t,u,v,w,x,y,z,rfl⟩
   refine qa ?_
   refine qm J a (fun _ a=>?_) (fun _ a=>?_)
   ·refine qc<|qb J<|qo ?_
    refine ⟨_,(Option.some.inj a).symm,fun hm=>?_⟩
    subst hm
    obtain rfl:=qd b
    exact qy _ J
   refine qk<|Q7<|Qg<|qt<|G _ J<|O J<|qr ?_
   exact ⟨_,(Option.some.inj a).symm,wkA [] [] []⟩
  refine Q3 ?_
  refine ⟨_,(Option.some.inj a).symm,fun hm=>?_⟩
  subst hm
  exact ⟨_,J,wkA [] [] []⟩
 intro h hb
 subst hb
 refine qc<|qb J<|qo ?_
 obtain rfl:=qd b
 exact qy _ J
theorem qng (b : List qj) (c : List qj) (d : Bool→Bool→Option Bool) (p2F : FuncId) (p2C : List DV) (p2Ok : ∀ (f : Bool) (g : Bool) (r : Bool),d f g = some r→Pure Tryz.prog tab p2F ([.bool f,.bool g] ++ p2C) (.bool r)) (r : List qj × Int) (a : q7n b c d = some r) : Pure Tryz.prog tab 112 [.sl 2 (b.map Q8),.sl 2 (c.map Q8),.fn p2F p2C] (.tup [.sl 2 (r.1.map Q8),q9 r.2]):=by
 unfold q7n at a
 refine Qf Tryz.func112 J qh qh J<|qc<|qb J<|qb J<|qa<|qf<|qc<|O J ?_
 obtain ⟨h,j,a⟩:=q6 a
 refine qz (qne b h j) J<|qb J<|qp<|O J<|G _ J<|qa ?_
 refine qm J a (fun _ a=>?_) (fun _ a=>?_)
 ·refine qc<|O J<|qb J<|qb J<|qo ?_
  obtain rfl:=qd a
  exact finD (.inr J) J J (Kz (.cons (.nil _) (.cons (.refl _) .nil)))
 refine qk<|qf<|qc<|O J ?_
 obtain ⟨k,l,a⟩:=q6 a
 refine qz (qne c k l) J<|qb J<|qp<|O J<|G _ J<|qa ?_
 refine qm J a (fun _ a=>?_) (fun _ a=>?_)
 ·refine qc<|O J<|qb J<|qb J<|qo ?_
  obtain rfl:=qd a
  exact finD (.inr J) J J (Kz (.cons (.nil _) (.cons (.refl _) .nil)))
 refine qk<|qc<|O J<|O J<|O J ?_
 obtain ⟨m,n,a⟩:=q6 a
 refine qz (qnh b c d p2F p2C p2Ok m n) J<|qb J<|qa<|qf<|qc<|O J<|Qa J<|G _ J<|qa ?_
 refine qm J a (fun _ a=>?_) (fun _ a=>?_)
 ·refine qc<|qb J<|qb J<|qo ?_
  obtain rfl:=qd a
  exact finD (.inr J) J J (Kz (.cons (.nil _) (.cons (.refl _) .nil)))
 refine qk<|qc<|O J<|qb J<|qb J<|qo ?_
 obtain rfl:=qd a
 exact qy _ J
theorem q11n (c : Bool) (d : Bool) (r : Bool) (b : qd7 c d = some r) : Pure Tryz.prog tab 113 [.bool c,.bool d] (.bool r):=by
 unfold qd7 at b
 refine Qf Tryz.func113 J qh qh J<|qc<|qb J<|qp<|O J ?_
 obtain ⟨h,a,b⟩:=q6 b
 refine Q2 3 (fun A st=>∃ f g,st = A [(8,qu h),(7,g),(6,f)]) ?_ ?_
 ·refine Q0 J J a (fun a=>?_) (fun a=>?_)
  ·refine q8 J<|G _ J<|qa ?_
   obtain rfl:=qd a
   exact ⟨_,_,J⟩
  refine O J<|G _ J<|qa ?_
  obtain rfl:=qd a
  exact ⟨_,_,J⟩
 rintro _ ⟨f,g,rfl⟩
 refine qb J<|qo ?_
 obtain rfl:=qd b
 exact qy _ J
theorem q11o (b : List qj) (c : List qj) (r : List qj × Int) (a : q7m b c = some r) : Pure Tryz.prog tab 84 [.sl 2 (b.map Q8),.sl 2 (c.map Q8)] (.tup [.sl 2 (r.1.map Q8),q9 r.2]):=by
 unfold q7m at a
 refine Qf Tryz.func84 J qh qh J<|qc<|qb J<|qb J<|qp<|O J<|O J ?_
 obtain ⟨g,h,a⟩:=q6 a
 refine qz (qng b c (fun d f=>qd7 d f) 113 [] (fun d f r hr=>q11n d f r hr) g h) J<|G _ J<|G _ J<|qb J<|qb J<|qo ?_
 obtain rfl:=qd a
 exact qy _ J
theorem qw0 (b : List qi) (c : List qi) (r : List qi × Int) (a : q60 b c = some r) : Pure Tryz.prog tab 53 [.sl 4 (b.map qw),.sl 4 (c.map qw)] (.tup [.sl 4 (r.1.map qw),q9 r.2]):=by
 unfold q60 at a
 refine Qf Tryz.func53 J qh qh J<|qc<|qb J<|qb J<|qp<|O J<|O J ?_
 obtain ⟨g,h,a⟩:=q6 a
 refine qz (qly b c (fun d f=>q7m d f) 84 [] (fun d f r hr=>q11o d f r hr) g h) J<|G _ J<|G _ J<|qb J<|qb J<|qo ?_
 obtain rfl:=qd a
 exact qy _ J
theorem q116 (b : List qg) (c : List qg) (r : List qg × Int) (a : qae b c = some r) : Pure Tryz.prog tab 26 [.sl 6 (b.map Q6),.sl 6 (c.map Q6)] (.tup [.sl 6 (r.1.map Q6),q9 r.2]):=by
 unfold qae at a
 refine Qf Tryz.func26 J qh qh J<|qc<|qb J<|qb J<|qp<|O J<|O J<|G _ J ?_
 obtain ⟨g,h,a⟩:=q6 a
 refine qz (qn5 b c (fun d f=>q60 d f) 53 [] (fun d f r hr=>qw0 d f r hr) g h) J<|G _ J<|G _ J<|qb J<|qb J<|qo ?_
 obtain rfl:=qd a
 exact qy _ J
theorem q126 (c : Qn) (j : List (List qg)) (r : List qg × Int) (b : q7s c j = some r) : Pure Tryz.prog tab 17 [.agg [.sl 7 (c.Lines.map Kb),.sl 5 (c.Marks.map Kj),.int .u8 c.End.Frame.Turn,q9 c.End.Frame.At.X,q9 c.End.Frame.At.Y,q9 c.End.Frame.At.Z,q9 c.End.Drawn],.sl 1 (j.map Ql)] (.tup [.sl 6 (r.1.map Q6),q9 r.2]):=by
 unfold q7s at b
 refine Qf Tryz.func17 J qh qh J<|qc<|Qj _ _ J<|qb J<|qb J<|qp<|G _ J<|O J ?_
 obtain ⟨f,l,b⟩:=q6 b
 refine qz (qgp c j f l) J<|O J<|G _ J<|G _ J<|qb J<|qb J<|qa<|qf<|qc<|O J<|G _ J<|qa ?_
 refine qm J b (fun _ b=>?_) (fun _ b=>?_)
 ·refine qc<|O J<|qb J<|qb J<|qo ?_
  obtain rfl:=qd b
  exact finD (.inr J) J J (Kz (.cons (.nil _) (.cons (.refl _) .nil)))
 refine qk<|qc<|qb J<|qa<|qf<|qc<|O J<|Qa J<|O J<|qa ?_
 obtain ⟨k,m,b⟩:=q6 b
 refine Qc (fun g=>.inl g = k) (fun g=>⟨[(8,.d (.sl 6 (g.map Q6)))],[],0⟩) qe ?_ ?_
 ·refine Q5 (q4k f) (fun h=>⟨[(8,.d (.sl 6 (h.1.map Q6))),(20,.d (.sl 1 (f.1.map Ql))),(21,q7 (f.1.length : Int)),(22,q7 h.2)],[],0⟩) ([],0) k m (wkA [] [] []) ?_
  intro h s a
  unfold q4k at a
  refine qc<|G _ J<|qa<|qf ?_
  refine qm J a (fun _ a=>?_) (fun _ a=>?_)
  ·refine qk<|qf<|qx<|qc ?_
   obtain ⟨n,o,a⟩:=q6 a
   refine Q1 o J<|G _ J<|qb J<|qp<|O J<|O J ?_
   obtain ⟨p,q,a⟩:=q6 a
   refine qz (q116 h.1 n p q) J<|O J<|G _ J<|G _ J<|qb J<|qb J<|qp<|O J<|G _ J<|qa ?_
   refine qm J a (fun _ a=>?_) (fun _ a=>?_)
   ·refine qc<|O J<|qb J<|qb J<|qo ?_
    refine ⟨_,(Option.some.inj a).symm,fun hm=>?_⟩
    subst hm
    obtain rfl:=qd b
    exact finD (.inr J) J J (Kz (.cons (.nil _) (.cons (.refl _) .nil)))
   refine qk<|Q7<|Qg<|qt<|G _ J<|O J<|qr ?_
   exact ⟨_,(Option.some.inj a).symm,wkA [] [] []⟩
  refine Q3 ?_
  refine ⟨_,(Option.some.inj a).symm,fun hm=>?_⟩
  subst hm
  exact ⟨_,J,wkA [] [] []⟩
 intro g hb
 subst hb
 refine qc<|O J<|qb J<|qb J<|qo ?_
 obtain rfl:=qd b
 exact qy _ J
theorem q127 (a : Qx) (b : Qx) (r : Bool) (c : qas a b = some r) : Pure Tryz.prog tab 48 [.agg [q9 a.From.X,q9 a.From.Y,q9 a.From.Z,q9 a.To.X,q9 a.To.Y,q9 a.To.Z,q9 a.Depth],.agg [q9 b.From.X,q9 b.From.Y,q9 b.From.Z,q9 b.To.X,q9 b.To.Y,q9 b.To.Z,q9 b.Depth]] (.bool r):=by
 unfold qas at c
 refine Qf Tryz.func48 J qh qh J<|qc<|Qj _ _ J<|Qj _ _ J<|qb J<|qp<|G _ J<|G _ J<|G _ J<|G _ J<|G _ J ?_
 obtain ⟨c1,d,c⟩:=q6 c
 refine Q2 7 (fun A st=>∃ h j k l m n,st = A [(16,qu c1),(15,n),(14,m),(13,l),(12,k),(11,j),(10,h)]) ?_ ?_
 ·refine Q0 J J d (fun d=>?_) (fun d=>?_)
  ·refine G _ J<|G _ J<|G _ J<|G _ J<|G _ J<|G _ J<|qa ?_
   obtain rfl:=qd d
   exact ⟨_,_,_,_,_,_,J⟩
  refine q8 J<|q8 J<|q8 J<|q8 J<|q8 J<|G _ J<|qa ?_
  obtain rfl:=qd d
  exact ⟨_,_,_,_,_,_,J⟩
 rintro _ ⟨h,j,k,l,m,n,rfl⟩
 obtain ⟨c9,f,c⟩:=q6 c
 refine Q2 7 (fun A st=>∃ o p q s t u,st = A [(23,qu c9),(22,u),(21,t),(20,s),(19,q),(18,p),(17,o)]) ?_ ?_
 ·refine Q0 J J f (fun f=>?_) (fun f=>?_)
  ·refine G _ J<|G _ J<|G _ J<|G _ J<|G _ J<|G _ J<|qa ?_
   obtain rfl:=qd f
   exact ⟨_,_,_,_,_,_,J⟩
  refine q8 J<|q8 J<|q8 J<|q8 J<|q8 J<|G _ J<|qa ?_
  obtain rfl:=qd f
  exact ⟨_,_,_,_,_,_,J⟩
 rintro _ ⟨o,p,q,s,t,u,rfl⟩
 obtain ⟨ad,g,c⟩:=q6 c
 refine Q2 7 (fun A st=>∃ v w x y z aa,st = A [(30,qu ad),(29,aa),(28,z),(27,y),(26,x),(25,w),(24,v)]) ?_ ?_
 ·refine Q0 J J g (fun g=>?_) (fun g=>?_)
  ·refine G _ J<|G _ J<|G _ J<|G _ J<|G _ J<|G _ J<|qa ?_
   obtain rfl:=qd g
   exact ⟨_,_,_,_,_,_,J⟩
  refine q8 J<|q8 J<|q8 J<|q8 J<|q8 J<|G _ J<|qa ?_
  obtain rfl:=qd g
  exact ⟨_,_,_,_,_,_,J⟩
 rintro _ ⟨v,w,x,y,z,aa,rfl⟩
 refine qb J<|qo ?_
 obtain rfl:=qd c
 exact qy _ J
theorem q12c (b : qg) (c : qg) (r : Bool) (a : q7v b c = some r) : Pure Tryz.prog tab 77 [.agg [q9 b.Lo.X,q9 b.Lo.Y,q9 b.Lo.Z,q9 b.Hi.X,q9 b.Hi.Y,q9 b.Hi.Z],.box [q9 c.Lo.X,q9 c.Lo.Y,q9 c.Lo.Z,q9 c.Hi.X,q9 c.Hi.Y,q9 c.Hi.Z]] (.bool r):=by
 unfold q7v at a
 refine Qf Tryz.func77 J qh qh J<|qc<|Qj _ _ J<|qb J<|qp<|G _ J<|G _ J<|G _ J<|G _ J<|G _ J<|G _ J<|G _ J ?_
 obtain ⟨c1,d,a⟩:=q6 a
 refine Q2 9 (fun A st=>∃ k l m n o p q s,st = A [(19,qu c1),(18,s),(17,q),(16,p),(15,o),(14,n),(13,m),(12,l),(11,k)]) ?_ ?_
 ·refine Q0 J J d (fun d=>?_) (fun d=>?_)
  ·refine G _ J<|G _ J<|G _ J<|G _ J<|G _ J<|G _ J<|G _ J<|G _ J<|qa ?_
   obtain rfl:=qd d
   exact ⟨_,_,_,_,_,_,_,_,J⟩
  refine q8 J<|q8 J<|q8 J<|q8 J<|q8 J<|q8 J<|q8 J<|G _ J<|qa ?_
  obtain rfl:=qd d
  exact ⟨_,_,_,_,_,_,_,_,J⟩
 rintro _ ⟨k,l,m,n,o,p,q,s,rfl⟩
 obtain ⟨bc,f,a⟩:=q6 a
 refine Q2 9 (fun A st=>∃ t u v w x y z aa,st = A [(28,qu bc),(27,aa),(26,z),(25,y),(24,x),(23,w),(22,v),(21,u),(20,t)]) ?_ ?_
 ·refine Q0 J J f (fun f=>?_) (fun f=>?_)
  ·refine G _ J<|G _ J<|G _ J<|G _ J<|G _ J<|G _ J<|G _ J<|G _ J<|qa ?_
   obtain rfl:=qd f
   exact ⟨_,_,_,_,_,_,_,_,J⟩
  refine q8 J<|q8 J<|q8 J<|q8 J<|q8 J<|q8 J<|q8 J<|G _ J<|qa ?_
  obtain rfl:=qd f
  exact ⟨_,_,_,_,_,_,_,_,J⟩
 rintro _ ⟨t,u,v,w,x,y,z,aa,rfl⟩
 obtain ⟨bd,g,a⟩:=q6 a
 refine Q2 9 (fun A st=>∃ ab ac ad ae af ag ah ai,st = A [(37,qu bd),(36,ai),(35,ah),(34,ag),(33,af),(32,ae),(31,ad),(30,ac),(29,ab)]) ?_ ?_
 ·refine Q0 J J g (fun g=>?_) (fun g=>?_)
  ·refine G _ J<|G _ J<|G _ J<|G _ J<|G _ J<|G _ J<|G _ J<|G _ J<|qa ?_
   obtain rfl:=qd g
   exact ⟨_,_,_,_,_,_,_,_,J⟩
  refine q8 J<|q8 J<|q8 J<|q8 J<|q8 J<|q8 J<|q8 J<|G _ J<|qa ?_
  obtain rfl:=qd g
  exact ⟨_,_,_,_,_,_,_,_,J⟩
 rintro _ ⟨ab,ac,ad,ae,af,ag,ah,ai,rfl⟩
 obtain ⟨be,h,a⟩:=q6 a
 refine Q2 9 (fun A st=>∃ aj ak al am an ao ap aq,st = A [(46,qu be),(45,aq),(44,ap),(43,ao),(42,an),(41,am),(40,al),(39,ak),(38,aj)]) ?_ ?_
 ·refine Q0 J J h (fun h=>?_) (fun h=>?_)
  ·refine G _ J<|G _ J<|G _ J<|G _ J<|G _ J<|G _ J<|G _ J<|G _ J<|qa ?_
   obtain rfl:=qd h
   exact ⟨_,_,_,_,_,_,_,_,J⟩
  refine q8 J<|q8 J<|q8 J<|q8 J<|q8 J<|q8 J<|q8 J<|G _ J<|qa ?_
  obtain rfl:=qd h
  exact ⟨_,_,_,_,_,_,_,_,J⟩
 rintro _ ⟨aj,ak,al,am,an,ao,ap,aq,rfl⟩
 obtain ⟨bf,j,a⟩:=q6 a
 refine Q2 9 (fun A st=>∃ ar au av aw ax ay az ba,st = A [(55,qu bf),(54,ba),(53,az),(52,ay),(51,ax),(50,aw),(49,av),(48,au),(47,ar)]) ?_ ?_
 ·refine Q0 J J j (fun j=>?_) (fun j=>?_)
  ·refine G _ J<|G _ J<|G _ J<|G _ J<|G _ J<|G _ J<|G _ J<|G _ J<|qa ?_
   obtain rfl:=qd j
   exact ⟨_,_,_,_,_,_,_,_,J⟩
  refine q8 J<|q8 J<|q8 J<|q8 J<|q8 J<|q8 J<|q8 J<|G _ J<|qa ?_
  obtain rfl:=qd j
  exact ⟨_,_,_,_,_,_,_,_,J⟩
 rintro _ ⟨ar,au,av,aw,ax,ay,az,ba,rfl⟩
 refine qb J<|qo ?_
 obtain rfl:=qd a
 exact qy _ J
theorem q12d (a : qg) (b : List qg) (r : Bool) (c : qax a b = some r) : Pure Tryz.prog tab 76 [.agg [q9 a.Lo.X,q9 a.Lo.Y,q9 a.Lo.Z,q9 a.Hi.X,q9 a.Hi.Y,q9 a.Hi.Z],.box [.sl 6 (b.map Q6)]] (.bool r):=by
 unfold qax at c
 refine Qf Tryz.func76 J qh qh J<|qc<|Qj _ _ J<|qb J<|qp<|G _ J<|G _ J ?_
 obtain ⟨g,h,c⟩:=q6 c
 refine q2h [.d (.sl 6 (b.map Q6)),.fn 77 [.ref 0 6 0 0]] (qgc b (fun f=>q7v f a) 77 [.box [q9 a.Lo.X,q9 a.Lo.Y,q9 a.Lo.Z,q9 a.Hi.X,q9 a.Hi.Y,q9 a.Hi.Z]] (fun f r hr=>q12c f a r hr) g h) J J (Zc J (Zc (qnz (Yd J J)) J)) (.inr J)<|qb J<|qo ?_
 obtain rfl:=qd c
 exact qy _ J
theorem q12e (b : List qg) (a : List qg) (r : Bool) (c : qaw b a = some r) : Pure Tryz.prog tab 49 [.sl 6 (b.map Q6),.sl 6 (a.map Q6)] (.bool r):=by
 unfold qaw at c
 refine Qf Tryz.func49 J qh qh J<|qc<|Qj _ _ J<|qb J<|qp<|O J<|G _ J ?_
 obtain ⟨g,h,c⟩:=q6 c
 refine q2h [.d (.sl 6 (b.map Q6)),.fn 76 [.ref 0 1 0 0]] (qgc b (fun f=>qax f a) 76 [.box [.sl 6 (a.map Q6)]] (fun f r hr=>q12d f a r hr) g h) J J (Zc J (Zc (qnz (Yd J J)) J)) (.inr J)<|qb J<|qo ?_
 obtain rfl:=qd c
 exact qy _ J
theorem qnt (a : Qn) (z : List (List qg)) (r : (List (Int × Int)) × Int) (g : q4g a z = some r) : Pure Tryz.prog tab 19 [.agg [.sl 7 (a.Lines.map Kb),.sl 5 (a.Marks.map Kj),.int .u8 a.End.Frame.Turn,q9 a.End.Frame.At.X,q9 a.End.Frame.At.Y,q9 a.End.Frame.At.Z,q9 a.End.Drawn],.sl 1 (z.map Ql)] (.tup [.sl 2 (r.1.map Jn),q9 r.2]):=by
 unfold q4g at g
 refine Qf Tryz.func19 J qh qh J<|qc<|Qj _ _ J<|qb J<|qb J<|qp<|G _ J<|O J ?_
 obtain ⟨b,h2,g⟩:=q6 g
 refine qz (qgp a z b h2) J<|O J<|G _ J<|G _ J<|qb J<|qb J<|qa<|qf<|qc<|O J<|G _ J<|qa ?_
 refine qm J g (fun _ g=>?_) (fun _ g=>?_)
 ·refine qc<|O J<|qb J<|qb J<|qo ?_
  obtain rfl:=qd g
  exact finD (.inr J) J J (Kz (.cons (.nil _) (.cons (.refl _) .nil)))
 refine qk<|qc<|Qj _ _ J<|qb J<|qa<|qf<|qc<|O J<|Qa J<|O J<|qa ?_
 obtain ⟨ac,ap,g⟩:=q6 g
 refine Qc (fun j=>j = ac) (fun j=>⟨[(6,.d (.sl 1 (b.1.map Ql))),(8,.mp 0)],[(0,.mp (mrow (fun n : Int × Int=>DV.agg [q9 n.1,q9 n.2]) DV.bool j))],1⟩) qe ?_ ?_
 ·refine Q5 (q7r b a) (fun c=>⟨[(2,.ref 0 7 0 0),(6,.d (.sl 1 (b.1.map Ql))),(8,.mp 1),(25,q7 (b.1.length : Int)),(26,q7 c.1)],[(0,.dat 7 [[.sl 7 (a.Lines.map Kb),.sl 5 (a.Marks.map Kj),.int .u8 a.End.Frame.Turn,q9 a.End.Frame.At.X,q9 a.End.Frame.At.Y,q9 a.End.Frame.At.Z,q9 a.End.Drawn]]),(1,.mp (mrow (fun n : Int × Int=>DV.agg [q9 n.1,q9 n.2]) DV.bool c.2))],2⟩) (0,[]) ac ap (wkA [(0,0),(1,1)] [] []) ?_
  intro c bp l
  unfold q7r at l
  refine qc<|G _ J<|qa<|qf ?_
  refine qm J l (fun _ l=>?_) (fun _ l=>?_)
  ·refine qk<|qf ?_
   obtain ⟨aq,aa,l⟩:=q6 l
   refine Qc (fun x=>x = aq) (fun x=>⟨[(2,.ref 0 7 0 0),(6,.d (.sl 1 (b.1.map Ql))),(8,.mp 1),(25,q7 (b.1.length : Int)),(26,q7 c.1)],[(0,.dat 7 [[.sl 7 (a.Lines.map Kb),.sl 5 (a.Marks.map Kj),.int .u8 a.End.Frame.Turn,q9 a.End.Frame.At.X,q9 a.End.Frame.At.Y,q9 a.End.Frame.At.Z,q9 a.End.Drawn]]),(1,.mp (mrow (fun n : Int × Int=>DV.agg [q9 n.1,q9 n.2]) DV.bool x))],2⟩) qe ?_ ?_
   ·refine qc<|O J<|qb J<|qp<|O J<|O J<|qa ?_
    obtain ⟨ar,au,aa⟩:=q6 aa
    refine qx<|Q5 (q4h c a b) (fun s=>⟨[(2,.ref 0 7 0 0),(6,.d (.sl 1 (b.1.map Ql))),(8,.mp 1),(9,q7 c.1),(25,q7 (b.1.length : Int)),(26,q7 c.1),(29,q7 c.1),(30,q7 s.1)],[(0,.dat 7 [[.sl 7 (a.Lines.map Kb),.sl 5 (a.Marks.map Kj),.int .u8 a.End.Frame.Turn,q9 a.End.Frame.At.X,q9 a.End.Frame.At.Y,q9 a.End.Frame.At.Z,q9 a.End.Drawn]]),(1,.mp (mrow (fun n : Int × Int=>DV.agg [q9 n.1,q9 n.2]) DV.bool s.2))],2⟩) (0,c.2) ar au (wkA [(0,0),(1,1)] [] []) ?_
    intro s bq m
    unfold q4h at m
    refine qc<|G _ J<|qa<|qf ?_
    refine qm J m (fun _ m=>?_) (fun _ m=>?_)
    ·refine qk<|qf ?_
     obtain ⟨av,f,m⟩:=q6 m
     refine Qc (fun y=>y = av) (fun y=>⟨[(2,.ref 0 7 0 0),(6,.d (.sl 1 (b.1.map Ql))),(8,.mp 1),(9,q7 c.1),(25,q7 (b.1.length : Int)),(26,q7 c.1),(29,q7 c.1),(30,q7 s.1)],[(0,.dat 7 [[.sl 7 (a.Lines.map Kb),.sl 5 (a.Marks.map Kj),.int .u8 a.End.Frame.Turn,q9 a.End.Frame.At.X,q9 a.End.Frame.At.Y,q9 a.End.Frame.At.Z,q9 a.End.Drawn]]),(1,.mp (mrow (fun n : Int × Int=>DV.agg [q9 n.1,q9 n.2]) DV.bool y))],2⟩) qe ?_ ?_
     ·refine qc<|O J<|qb J<|qa<|qf<|Q9 [U,U,U,U,U,U,U,U,U,U,U,U,U,U,U,qq 0,U,U,U,U,qq 0,U] qh<|G _ J<|G _ J<|O J ?_
      obtain ⟨aw,ax,f⟩:=q6 f
      refine Q1 ax J<|G _ J<|G _ J<|G _ J<|O J ?_
      obtain ⟨ay,az,f⟩:=q6 f
      refine Q1 az J<|G _ J ?_
      obtain ⟨ba,bb,f⟩:=q6 f
      refine qz (q127 aw ay ba bb) J ?_
      obtain ⟨bc,k,f⟩:=q6 f
      refine Q2 11 (fun A st=>∃ ad ae af ag ah ai aj ak al am,st = A [(54,qu bc),(53,am),(52,al),(51,ak),(50,aj),(49,ai),(48,ah),(47,ag),(46,af),(45,ae),(44,ad)]) ?_ ?_
      ·refine Q0 J J k (fun k=>?_) (fun k=>?_)
       ·refine O J<|O J ?_
        obtain ⟨bd,be,k⟩:=q6 k
        refine Q1 be J<|G _ J<|O J<|O J ?_
        obtain ⟨bf,bg,k⟩:=q6 k
        refine Q1 bg J<|G _ J ?_
        obtain ⟨bh,bi,k⟩:=q6 k
        refine qz (q12e bd bf bh bi) J<|G _ J<|qa ?_
        obtain rfl:=qd k
        exact ⟨_,_,_,_,_,_,_,_,_,_,J⟩
       refine q8 J<|q8 J<|q8 J<|q8 J<|q8 J<|q8 J<|q8 J<|q8 J<|q8 J<|G _ J<|qa ?_
       obtain rfl:=qd k
       exact ⟨_,_,_,_,_,_,_,_,_,_,J⟩
      rintro _ ⟨ad,ae,af,ag,ah,ai,aj,ak,al,am,rfl⟩
      refine qa ?_
      refine qm J f (fun _ f=>?_) (fun _ f=>?_)
      ·refine qt<|O J<|O J<|O J<|G _ J<|qtk (ek:=(fun n : Int × Int=>DV.agg [q9 n.1,q9 n.2])) (ev:=DV.bool) (es:=s.2) key2 (s.1,c.1) true J J J J J J J J<|qr ?_
       obtain rfl:=qd f
       exact ⟨_,J,wkA [(0,0),(1,1)] [] []⟩
      refine qk<|Q7 ?_
      obtain rfl:=qd f
      exact ⟨_,J,wkA [(0,0),(1,1)] [] []⟩
     intro y hb
     subst hb
     refine qt<|G _ J<|O J<|qr ?_
     exact ⟨_,(Option.some.inj m).symm,wkA [(0,0),(1,1)] [] []⟩
    refine Q3 ?_
    refine ⟨_,(Option.some.inj m).symm,fun hm=>?_⟩
    subst hm
    obtain rfl:=qd aa
    exact ⟨_,J,wkA [(0,0),(1,1)] [] []⟩
   intro x hb
   subst hb
   refine qt<|G _ J<|O J<|qr ?_
   exact ⟨_,(Option.some.inj l).symm,wkA [(0,0),(1,1)] [] []⟩
  refine Q3 ?_
  refine ⟨_,(Option.some.inj l).symm,fun hm=>?_⟩
  subst hm
  exact ⟨_,J,wkA [(0,1)] [] []⟩
 intro j hb
 subst hb
 refine qc<|qb J<|qa<|qf<|qc<|O J<|Qa J<|O J<|qa ?_
 obtain ⟨an,bj,g⟩:=q6 g
 refine Qc (fun u=>u = an) (fun u=>⟨[(11,.hs 0 2 0 u.length)],[(0,.dat 2 (u.map Jn))],1⟩) qe ?_ ?_
 ·refine Q5 (q4i b j) (fun h=>⟨[(6,.d (.sl 1 (b.1.map Ql))),(8,.mp 0),(11,.hs 1 2 0 h.2.length),(62,q7 (b.1.length : Int)),(63,q7 h.1)],[(0,.mp (mrow (fun n : Int × Int=>DV.agg [q9 n.1,q9 n.2]) DV.bool j)),(1,.dat 2 (h.2.map Jn))],2⟩) (0,[]) an bj (wkA [(0,0)] [] [1]) ?_
  intro h br o
  unfold q4i at o
  refine qc<|G _ J<|qa<|qf ?_
  refine qm J o (fun _ o=>?_) (fun _ o=>?_)
  ·refine qk<|qf ?_
   obtain ⟨bk,ab,o⟩:=q6 o
   refine Qc (fun v=>v = bk) (fun v=>⟨[(6,.d (.sl 1 (b.1.map Ql))),(8,.mp 0),(11,.hs 1 2 0 v.length),(62,q7 (b.1.length : Int)),(63,q7 h.1)],[(0,.mp (mrow (fun n : Int × Int=>DV.agg [q9 n.1,q9 n.2]) DV.bool j)),(1,.dat 2 (v.map Jn))],2⟩) qe ?_ ?_
   ·refine qc<|O J<|qb J<|qp<|O J<|Qa J<|O J<|qa ?_
    obtain ⟨bl,bm,ab⟩:=q6 ab
    refine qx<|Q5 (q4j b h j) (fun t=>⟨[(6,.d (.sl 1 (b.1.map Ql))),(8,.mp 0),(11,.hs 1 2 0 t.2.length),(12,q7 h.1),(62,q7 (b.1.length : Int)),(63,q7 h.1),(67,q7 (b.1.length : Int)),(68,q7 t.1)],[(0,.mp (mrow (fun n : Int × Int=>DV.agg [q9 n.1,q9 n.2]) DV.bool j)),(1,.dat 2 (t.2.map Jn))],2⟩) (0,h.2) bl bm (wkA [(0,0),(1,1)] [] []) ?_
    intro t bs p
    unfold q4j at p
    refine qc<|G _ J<|qa<|qf ?_
    refine qm J p (fun _ p=>?_) (fun _ p=>?_)
    ·refine qk<|qf ?_
     obtain ⟨bn,q,p⟩:=q6 p
     refine Qc (fun w=>w = bn) (fun w=>⟨[(6,.d (.sl 1 (b.1.map Ql))),(8,.mp 0),(11,.hs 1 2 0 w.length),(12,q7 h.1),(62,q7 (b.1.length : Int)),(63,q7 h.1),(67,q7 (b.1.length : Int)),(68,q7 t.1)],[(0,.mp (mrow (fun n : Int × Int=>DV.agg [q9 n.1,q9 n.2]) DV.bool j)),(1,.dat 2 (w.map Jn))],2⟩) qe ?_ ?_
     ·refine qc<|O J<|qb J<|qp<|O J<|O J<|O J<|G _ J<|qtj (ek:=(fun n : Int × Int=>DV.agg [q9 n.1,q9 n.2])) (ev:=DV.bool) (es:=j) key2 false (h.1,t.1) J J J J J J J<|qa ?_
      refine qm J q (fun _ q=>?_) (fun _ q=>?_)
      ·refine qt<|O J<|O J<|O J<|G _ J<|Qj _ _ J ?_
       obtain ⟨bt,bo,q⟩:=q6 q
       refine Kn _ bo J J J J J J J (Km J J) J J J J<|qb J<|qr ?_
       obtain rfl:=qd q
       exact ⟨_,J,wkA [(0,0),(1,3)] [] []⟩
      refine qk<|Q7 ?_
      obtain rfl:=qd q
      exact ⟨_,J,wkA [(0,0),(1,1)] [] []⟩
     intro w hb
     subst hb
     refine qt<|G _ J<|O J<|qr ?_
     exact ⟨_,(Option.some.inj p).symm,wkA [(0,0),(1,1)] [] []⟩
    refine Q3 ?_
    refine ⟨_,(Option.some.inj p).symm,fun hm=>?_⟩
    subst hm
    obtain rfl:=qd ab
    exact ⟨_,J,wkA [(0,0),(1,1)] [] []⟩
   intro v hb
   subst hb
   refine qt<|G _ J<|O J<|qr ?_
   exact ⟨_,(Option.some.inj o).symm,wkA [(0,0),(1,1)] [] []⟩
  refine Q3 ?_
  refine ⟨_,(Option.some.inj o).symm,fun hm=>?_⟩
  subst hm
  exact ⟨_,J,wkA [(0,1)] [] []⟩
 intro u hb
 subst hb
 refine qc<|O J<|qb J<|qb J<|qo ?_
 obtain rfl:=qd g
 exact finD (.inr J) J (q4m (Yd (Z6 J J) (Yd J J))) (.refl _)
theorem qvs (c : List (Int × Int)) (f : List (Int × Int)) (r : Bool) (b : q97 c f = some r) : Pure Tryz.prog tab 21 [.sl 2 (c.map Jn),.sl 2 (f.map Jn)] (.bool r):=by
 unfold q97 at b
 refine Qf Tryz.func21 J qh qh J<|qc<|qb J<|qa<|qf<|qc<|O J<|Qa J<|O J<|Qa J<|G _ J<|qa ?_
 refine qm J b (fun _ b=>?_) (fun _ b=>?_)
 ·refine qc<|qb J<|qo ?_
  obtain rfl:=qd b
  exact qy _ J
 refine qk<|qf<|qc<|qb J<|qa ?_
 obtain ⟨h,k,b⟩:=q6 b
 refine Qc (fun g=>.inl g = h) (fun g=>⟨[],[],0⟩) qe ?_ ?_
 ·refine Q5 (q5w c f) (fun j=>⟨[(0,.d (.sl 2 (c.map Jn))),(1,.d (.sl 2 (f.map Jn))),(5,q7 j)],[],0⟩) 0 h k (wkA [] [] []) ?_
  intro j n a
  unfold q5w at a
  refine qf<|qc<|O J<|O J<|Qa J<|G _ J<|qa ?_
  refine qm J a (fun _ a=>?_) (fun _ a=>?_)
  ·refine qk<|qf<|qx<|qf<|Q9 [U,U,U,U,U,U,U,U,U] qh<|O J<|O J ?_
   obtain ⟨o,l,a⟩:=q6 a
   refine Q1 l J<|G _ J<|O J<|O J ?_
   obtain ⟨p,m,a⟩:=q6 a
   refine Q1 m J<|G _ J<|G _ J<|qa ?_
   refine qm J a (fun _ a=>?_) (fun _ a=>?_)
   ·refine qc<|qb J<|qo ?_
    refine ⟨_,(Option.some.inj a).symm,fun hm=>?_⟩
    subst hm
    obtain rfl:=qd b
    exact qy _ J
   refine qk<|Q7<|Qg<|qt<|O J<|G _ J<|qb J<|qr ?_
   exact ⟨_,(Option.some.inj a).symm,wkA [] [] []⟩
  refine Q3 ?_
  refine ⟨_,(Option.some.inj a).symm,fun hm=>?_⟩
  subst hm
  exact ⟨_,J,wkA [] [] []⟩
 intro g hb
 subst hb
 refine qc<|qb J<|qo ?_
 obtain rfl:=qd b
 exact qy _ J
theorem q57 (a : Int) (b : Int) (c : Int) (d : Int) (r : Qx) (f : q1c a b c d = some r) : Pure Tryz.prog tab 22 [q9 a,q9 b,q9 c,q9 d] (.agg [q9 r.From.X,q9 r.From.Y,q9 r.From.Z,q9 r.To.X,q9 r.To.Y,q9 r.To.Z,q9 r.Depth]):=by
 unfold q1c at f
 refine Qf Tryz.func22 J qh qh J<|qc<|Qv J J<|qp<|O J<|O J<|G _ J<|O J<|O J<|G _ J<|G _ J<|Qd 0 _ J<|qo ?_
 obtain rfl:=qd f
 exact qy _ J
theorem qf4 (r : List qg) (a : q58 = some r) : Pure Tryz.prog tab 23 [] (.sl 6 (r.map Q6)):=by
 unfold q58 at a
 refine Qf Tryz.func23 J qh qh J<|qc<|qb J<|qp<|G _ J<|G _ J<|Qj _ _ J<|qb J<|qo ?_
 obtain rfl:=qd a
 exact finD (.inr J) J (Z6 J J) (.refl _)
theorem q11c (a : qg) (r : Int × Int × Int) (b : qd0 a = some r) : Pure Tryz.prog tab 82 [.agg [q9 a.Lo.X,q9 a.Lo.Y,q9 a.Lo.Z,q9 a.Hi.X,q9 a.Hi.Y,q9 a.Hi.Z]] (.tup [q9 r.1,q9 r.2.1,q9 r.2.2]):=by
 unfold qd0 at b
 refine Qf Tryz.func82 J qh qh J<|qc<|Qj _ _ J<|qb J<|qb J<|qb J<|qa<|qf<|Q9 [U,U,U,U,qq 0,U,U,qq 0,U,U,U,qq 0,U,U,qq 0,U,U,U,qq 0,U,U,qq 0,U,U] qh<|G _ J<|G _ J<|G _ J<|G _ J<|G _ J<|G _ J<|G _ J<|G _ J<|G _ J<|G _ J<|G _ J<|G _ J<|G _ J<|G _ J<|G _ J<|G _ J<|G _ J<|G _ J<|G _ J<|G _ J<|G _ J<|qb J<|qb J<|qb J<|qo ?_
 obtain rfl:=qd b
 exact qy _ J
theorem q118 (c : List qg) (r : Int × Int) (a : qaf c = some r) : Pure Tryz.prog tab 51 [.sl 6 (c.map Q6)] (.tup [q9 r.1,q9 r.2]):=by
 unfold qaf at a
 refine Qf Tryz.func51 J qh qh J<|qc<|qb J<|qb J<|qa<|qf<|qc<|O J ?_
 obtain ⟨j,k,a⟩:=q6 a
 refine qz (qab c j k) J<|qb J<|qp<|O J<|G _ J<|qa ?_
 refine qm J a (fun _ a=>?_) (fun _ a=>?_)
 ·refine qc<|O J<|qb J<|qb J<|qo ?_
  obtain rfl:=qd a
  exact qy _ J
 refine qk<|qc<|qb J<|qa<|qf<|qc<|O J<|Qa J<|O J<|qa ?_
 obtain ⟨h,l,a⟩:=q6 a
 refine Qc (fun f=>f = h) (fun f=>⟨[(5,q7 f)],[],0⟩) qe ?_ ?_
 ·refine Q5 (q7c c) (fun g=>⟨[(5,q7 g.1),(16,.d (.sl 6 (c.map Q6))),(17,q7 (c.length : Int)),(18,q7 g.2)],[],0⟩) (0,0) h l (wkA [] [] []) ?_
  intro g q b
  unfold q7c at b
  refine qc<|G _ J<|qa<|qf ?_
  refine qm J b (fun _ b=>?_) (fun _ b=>?_)
  ·refine qk<|qf<|qx<|qc ?_
   obtain ⟨m,n,b⟩:=q6 b
   refine Q1 n J<|G _ J<|Qv J J<|Qd 0 _ J<|qp<|G _ J ?_
   obtain ⟨o,p,b⟩:=q6 b
   refine qz (q11c m o p) J<|O J<|G _ J<|G _ J<|G _ J<|qb J<|qb J<|qb J<|qa<|qt<|O J<|O J<|O J<|G _ J<|O J<|G _ J<|G _ J<|qb J<|qr<|Qg<|qt<|G _ J<|O J<|qr ?_
   exact ⟨_,(Option.some.inj b).symm,wkA [] [] []⟩
  refine Q3 ?_
  refine ⟨_,(Option.some.inj b).symm,fun hm=>?_⟩
  subst hm
  exact ⟨_,J,wkA [] [] []⟩
 intro f hb
 subst hb
 refine qc<|O J<|qb J<|qb J<|qo ?_
 obtain rfl:=qd a
 exact qy _ J
theorem qsb (r : Bool) (a : q8o = some r) : Pure Tryz.prog tab 24 [] (.bool r):=by
 unfold q8o at a
 refine Qf Tryz.func24 J qh qh J<|qc<|qb J<|qp ?_
 obtain ⟨s,h2,a⟩:=q6 a
 refine qz (q57 0 0 3 0 s h2) J ?_
 obtain ⟨t,h4,a⟩:=q6 a
 refine qz (qf4 t h4) J ?_
 obtain ⟨h,h6,a⟩:=q6 a
 refine qz (q125 s t h h6) J<|O J<|G _ J<|G _ J<|qb J<|qb J<|qp ?_
 obtain ⟨j,h8,a⟩:=q6 a
 refine qz (q57 0 0 1 0 j h8) J ?_
 obtain ⟨k,al,a⟩:=q6 a
 refine qz (q57 1 0 2 0 k al) J ?_
 obtain ⟨l,am,a⟩:=q6 a
 refine qz (q57 2 0 2 1 l am) J<|q3h (es:=7) ([j,k,l].map Kb) J J J J J<|G _ J ?_
 obtain ⟨m,an,a⟩:=q6 a
 refine qz (qf4 m an) J<|q3h (es:=1) ([m].map Ql) J J J J J ?_
 obtain ⟨u,ao,a⟩:=q6 a
 refine qz (q3j (.cons (qef (.cons (.refl _) (.cons (.nil _) (.cons (.refl _) (.cons (.refl _) (.cons (.refl _) (.cons (.refl _) (.cons (.refl _) .nil)))))))) (.cons (.refl _) .nil)) (q126 ({Lines:=[j,k,l],Marks:=[],End:=({Frame:=({Turn:=0,At:=({X:=0,Y:=0,Z:=0} : Qb)} : Y5),Drawn:=0} : Jj)} : Qn) [m] u ao)) J<|O J<|G _ J<|G _ J<|qb J<|qb J<|qp<|O J ?_
 obtain ⟨ap,aq,a⟩:=q6 a
 refine qz (q118 u.1 ap aq) J<|O J<|G _ J<|G _ J<|qb J<|qb J<|qp ?_
 obtain ⟨n,ar,a⟩:=q6 a
 refine qz (q57 0 0 2 0 n ar) J ?_
 obtain ⟨o,au,a⟩:=q6 a
 refine qz (q57 1 (-1) 1 1 o au) J<|q3h (es:=7) ([n,o].map Kb) J J J J J<|G _ J ?_
 obtain ⟨p,av,a⟩:=q6 a
 refine qz (qf4 p av) J<|q3h (es:=1) ([p].map Ql) J J J J J ?_
 obtain ⟨q,aw,a⟩:=q6 a
 refine qz (q3j (.cons (qef (.cons (.refl _) (.cons (.nil _) (.cons (.refl _) (.cons (.refl _) (.cons (.refl _) (.cons (.refl _) (.cons (.refl _) .nil)))))))) (.cons (.refl _) .nil)) (qnt ({Lines:=[n,o],Marks:=[],End:=({Frame:=({Turn:=0,At:=({X:=0,Y:=0,Z:=0} : Qb)} : Y5),Drawn:=0} : Jj)} : Qn) [p] q aw)) J<|O J<|G _ J<|G _ J<|qb J<|qb J<|qp<|O J<|G _ J ?_
 refine Q0 J J a (fun a=>?_) (fun a=>?_)
 ·refine O J<|G _ J<|G _ J<|Qj _ _ J ?_
  obtain ⟨ax,ay,a⟩:=q6 a
  refine q2h [.d (.sl 6 (h.1.map Q6)),.hs 4 6 0 [({Lo:=({X:=0,Y:=0,Z:=0} : Qb),Hi:=({X:=4,Y:=1,Z:=1} : Qb)} : qg)].length] (qls h.1 [({Lo:=({X:=0,Y:=0,Z:=0} : Qb),Hi:=({X:=4,Y:=1,Z:=1} : Qb)} : qg)] ax ay) J J (Zc J (Zc (Z6 J J) J)) (.inr J)<|G _ J ?_
  obtain ⟨az,b,a⟩:=q6 a
  refine Q2 4 (fun A st=>∃ v w x,st = A [(53,qu az),(52,x),(51,w),(50,v)]) ?_ ?_
  ·refine Q0 J J b (fun b=>?_) (fun b=>?_)
   ·refine O J<|G _ J<|G _ J<|qa ?_
    obtain rfl:=qd b
    exact ⟨_,_,_,J⟩
   refine q8 J<|q8 J<|G _ J<|qa ?_
   obtain rfl:=qd b
   exact ⟨_,_,_,J⟩
  rintro _ ⟨v,w,x,rfl⟩
  obtain ⟨ba,c,a⟩:=q6 a
  refine Q2 4 (fun A st=>∃ y z aa,st = A [(57,qu ba),(56,aa),(55,z),(54,y)]) ?_ ?_
  ·refine Q0 J J c (fun c=>?_) (fun c=>?_)
   ·refine O J<|G _ J<|G _ J<|qa ?_
    obtain rfl:=qd c
    exact ⟨_,_,_,J⟩
   refine q8 J<|q8 J<|G _ J<|qa ?_
   obtain rfl:=qd c
   exact ⟨_,_,_,J⟩
  rintro _ ⟨y,z,aa,rfl⟩
  obtain ⟨bb,f,a⟩:=q6 a
  refine Q2 4 (fun A st=>∃ ab ac ad,st = A [(61,qu bb),(60,ad),(59,ac),(58,ab)]) ?_ ?_
  ·refine Q0 J J f (fun f=>?_) (fun f=>?_)
   ·refine O J<|G _ J<|G _ J<|qa ?_
    obtain rfl:=qd f
    exact ⟨_,_,_,J⟩
   refine q8 J<|q8 J<|G _ J<|qa ?_
   obtain rfl:=qd f
   exact ⟨_,_,_,J⟩
  rintro _ ⟨ab,ac,ad,rfl⟩
  obtain ⟨bc,g,a⟩:=q6 a
  refine Q2 4 (fun A st=>∃ ae af ag,st = A [(65,qu bc),(64,ag),(63,af),(62,ae)]) ?_ ?_
  ·refine Q0 J J g (fun g=>?_) (fun g=>?_)
   ·refine O J<|G _ J<|G _ J<|qa ?_
    obtain rfl:=qd g
    exact ⟨_,_,_,J⟩
   refine q8 J<|q8 J<|G _ J<|qa ?_
   obtain rfl:=qd g
   exact ⟨_,_,_,J⟩
  rintro _ ⟨ae,af,ag,rfl⟩
  refine Q0 J J a (fun a=>?_) (fun a=>?_)
  ·refine O J<|G _ J<|Qj _ _ J ?_
   obtain ⟨bd,be,a⟩:=q6 a
   refine q2h [.d (.sl 2 (q.1.map Jn)),.hs 5 2 0 [(0,1)].length] (qvs q.1 [(0,1)] bd be) J J (Zc J (Zc (Z6 J J) J)) (.inr J)<|G _ J<|qb J<|qo ?_
   obtain rfl:=qd a
   exact qy _ J
  refine q8 J<|q8 J<|q8 J<|q8 J<|G _ J<|qb J<|qo ?_
  obtain rfl:=qd a
  exact qy _ J
 refine q8 J<|q8 J<|q8 J<|q8 J<|q8 J<|G _ J<|O J<|q8 J<|q8 J<|G _ J<|O J<|q8 J<|q8 J<|G _ J<|O J<|q8 J<|q8 J<|G _ J<|O J<|q8 J<|q8 J<|G _ J<|O J<|q8 J<|q8 J<|q8 J<|q8 J<|G _ J<|qb J<|qo ?_
 obtain rfl:=qd a
 exact qy _ J
theorem qsc (b : Qn) (g : List (List qg)) (r : Bool) (a : q54 b g = some r) : Pure Tryz.prog tab 25 [.agg [.sl 7 (b.Lines.map Kb),.sl 5 (b.Marks.map Kj),.int .u8 b.End.Frame.Turn,q9 b.End.Frame.At.X,q9 b.End.Frame.At.Y,q9 b.End.Frame.At.Z,q9 b.End.Drawn],.sl 1 (g.map Ql)] (.bool r):=by
 unfold q54 at a
 refine Qf Tryz.func25 J qh qh J<|qc<|Qj _ _ J<|qb J<|qa<|qf<|qc<|G _ J<|O J ?_
 obtain ⟨r1,h2,a⟩:=q6 a
 refine qz (qvr b g r1 h2) J ?_
 obtain ⟨c5,h,a⟩:=q6 a
 refine Q2 5 (fun A st=>∃ q s t u,st = A [(15,qu c5),(14,u),(13,t),(12,s),(11,q)]) ?_ ?_
 ·refine Q0 J J h (fun h=>?_) (fun h=>?_)
  ·refine q8 J<|q8 J<|q8 J<|G _ J<|qa ?_
   obtain rfl:=qd h
   exact ⟨_,_,_,_,J⟩
  refine G _ J ?_
  obtain ⟨bd,be,h⟩:=q6 h
  refine qz (qvf b bd be) J<|G _ J<|G _ J<|qa ?_
  obtain rfl:=qd h
  exact ⟨_,_,_,_,J⟩
 rintro _ ⟨q,s,t,u,rfl⟩
 obtain ⟨bf,k,a⟩:=q6 a
 refine Q2 5 (fun A st=>∃ v w x y,st = A [(20,qu bf),(19,y),(18,x),(17,w),(16,v)]) ?_ ?_
 ·refine Q0 J J k (fun k=>?_) (fun k=>?_)
  ·refine q8 J<|q8 J<|q8 J<|G _ J<|qa ?_
   obtain rfl:=qd k
   exact ⟨_,_,_,_,J⟩
  refine O J<|Qa J<|G _ J<|G _ J<|qa ?_
  obtain rfl:=qd k
  exact ⟨_,_,_,_,J⟩
 rintro _ ⟨v,w,x,y,rfl⟩
 obtain ⟨bg,l,a⟩:=q6 a
 refine Q2 5 (fun A st=>∃ z aa ab ac,st = A [(25,qu bg),(24,ac),(23,ab),(22,aa),(21,z)]) ?_ ?_
 ·refine Q0 J J l (fun l=>?_) (fun l=>?_)
  ·refine q8 J<|q8 J<|q8 J<|G _ J<|qa ?_
   obtain rfl:=qd l
   exact ⟨_,_,_,_,J⟩
  refine O J<|Qa J<|G _ J<|G _ J<|qa ?_
  obtain rfl:=qd l
  exact ⟨_,_,_,_,J⟩
 rintro _ ⟨z,aa,ab,ac,rfl⟩
 refine qa ?_
 refine qm J a (fun _ a=>?_) (fun _ a=>?_)
 ·refine qc<|qb J<|qo ?_
  obtain rfl:=qd a
  exact qy _ J
 refine qk<|qf<|qc<|qb J<|qa ?_
 obtain ⟨ad,bh,a⟩:=q6 a
 refine Qc (fun o=>.inl o = ad) (fun o=>⟨[(1,.d (.sl 1 (g.map Ql)))],[],0⟩) qe ?_ ?_
 ·refine Q5 (q55 b) (fun ae=>⟨[(1,.d (.sl 1 (g.map Ql))),(2,.ref 0 7 0 0),(5,q7 ae)],[(0,.dat 7 [[.sl 7 (b.Lines.map Kb),.sl 5 (b.Marks.map Kj),.int .u8 b.End.Frame.Turn,q9 b.End.Frame.At.X,q9 b.End.Frame.At.Y,q9 b.End.Frame.At.Z,q9 b.End.Drawn]])],1⟩) 0 ad bh (wkA [(0,0)] [] []) ?_
  intro ae bs c
  unfold q55 at c
  refine qf<|qc<|O J<|G _ J<|G _ J<|Qa J<|G _ J<|qa ?_
  refine qm J c (fun _ c=>?_) (fun _ c=>?_)
  ·refine qk<|qf<|qx<|qc<|G _ J<|G _ J<|O J ?_
   obtain ⟨n,bi,c⟩:=q6 c
   refine Q1 bi J<|G _ J<|Qv J J<|Qd 1 _ J<|qp<|G _ J<|G _ J<|G _ J ?_
   obtain ⟨bj,j,c⟩:=q6 c
   refine Q2 6 (fun A st=>∃ af ag ah ai aj,st = A [(46,qu bj),(45,aj),(44,ai),(43,ah),(42,ag),(41,af)]) ?_ ?_
   ·refine Q0 J J j (fun j=>?_) (fun j=>?_)
    ·refine q8 J<|q8 J<|q8 J<|q8 J<|G _ J<|qa ?_
     obtain rfl:=qd j
     exact ⟨_,_,_,_,_,J⟩
    refine G _ J<|G _ J ?_
    obtain ⟨bk,bl,j⟩:=q6 j
    refine qz (q2k n.From (-1000) bk bl) J<|G _ J<|G _ J<|qa ?_
    obtain rfl:=qd j
    exact ⟨_,_,_,_,_,J⟩
   rintro _ ⟨af,ag,ah,ai,aj,rfl⟩
   obtain ⟨bm,m,c⟩:=q6 c
   refine Q2 13 (fun A st=>∃ ak al am an ao ap aq ar au av aw ax,st = A [(59,qu bm),(58,ax),(57,aw),(56,av),(55,au),(54,ar),(53,aq),(52,ap),(51,ao),(50,an),(49,am),(48,al),(47,ak)]) ?_ ?_
   ·refine Q0 J J m (fun m=>?_) (fun m=>?_)
    ·refine q8 J<|q8 J<|q8 J<|q8 J<|q8 J<|q8 J<|q8 J<|q8 J<|q8 J<|q8 J<|q8 J<|G _ J<|qa ?_
     obtain rfl:=qd m
     exact ⟨_,_,_,_,_,_,_,_,_,_,_,_,J⟩
    refine G _ J<|G _ J<|G _ J<|G _ J<|G _ J<|G _ J<|G _ J<|G _ J<|G _ J<|U9 (r:=max (max n.From.X n.From.Y) n.From.Z) J J (by simp only [U7];rfl)<|G _ J<|G _ J<|qa ?_
    obtain rfl:=qd m
    exact ⟨_,_,_,_,_,_,_,_,_,_,_,_,J⟩
   rintro _ ⟨ak,al,am,an,ao,ap,aq,ar,au,av,aw,ax,rfl⟩
   refine qa ?_
   refine qm J c (fun _ c=>?_) (fun _ c=>?_)
   ·refine qc<|qb J<|qo ?_
    refine ⟨_,(Option.some.inj c).symm,fun hm=>?_⟩
    subst hm
    obtain rfl:=qd a
    exact qy _ J
   refine qk<|Q7<|Qg<|qt<|O J<|G _ J<|qb J<|qr ?_
   exact ⟨_,(Option.some.inj c).symm,wkA [(0,0)] [] []⟩
  refine Q3 ?_
  refine ⟨_,(Option.some.inj c).symm,fun hm=>?_⟩
  subst hm
  exact ⟨_,J,wkA [] [] []⟩
 intro o hb
 subst hb
 refine qf<|qc<|qb J<|qa ?_
 obtain ⟨ay,bn,a⟩:=q6 a
 refine Qc (fun p=>.inl p = ay) (fun p=>⟨[],[],0⟩) qe ?_ ?_
 ·refine Q5 (q56 g) (fun az=>⟨[(1,.d (.sl 1 (g.map Ql))),(7,q7 az)],[],0⟩) 0 ay bn (wkA [] [] []) ?_
  intro az bt f
  unfold q56 at f
  refine qf<|qc<|O J<|O J<|Qa J<|G _ J<|qa ?_
  refine qm J f (fun _ f=>?_) (fun _ f=>?_)
  ·refine qk<|qf<|qx<|qc<|O J<|O J ?_
   obtain ⟨bo,bp,f⟩:=q6 f
   refine Q1 bp J<|G _ J ?_
   obtain ⟨bq,br,f⟩:=q6 f
   refine qz (qvi bo bq br) J<|G _ J<|qa ?_
   refine qm J f (fun _ f=>?_) (fun _ f=>?_)
   ·refine qc<|qb J<|qo ?_
    refine ⟨_,(Option.some.inj f).symm,fun hm=>?_⟩
    subst hm
    obtain rfl:=qd a
    exact qy _ J
   refine qk<|Q7<|Qg<|qt<|O J<|G _ J<|qb J<|qr ?_
   exact ⟨_,(Option.some.inj f).symm,wkA [] [] []⟩
  refine Q3 ?_
  refine ⟨_,(Option.some.inj f).symm,fun hm=>?_⟩
  subst hm
  exact ⟨_,J,wkA [] [] []⟩
 intro p hb
 subst hb
 refine qc<|qb J<|qo ?_
 obtain rfl:=qd a
 exact qy _ J
end Go.Proofs.YtbknppciefodiaaGreat
