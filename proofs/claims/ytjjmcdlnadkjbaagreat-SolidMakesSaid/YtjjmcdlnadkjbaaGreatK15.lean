/- W_SolidMakesb -/
import Derived.Test.YtjjmcdlnadkjbaaGreatK14
namespace Go.Proofs.YtjjmcdlnadkjbaaGreat
open Go Go.Am Go.Sh
set_option maxHeartbeats 8000000
set_option maxRecDepth 100000
theorem q67 (q1 : span_end→span_end→Option Int) (q1F : FuncId) (q1C : List DV) (q1Ok : ∀ (x0 : span_end) (x1 : span_end) (r : Int),q1 x0 x1 = some r→Pure Tryz.prog tab q1F ([.agg [i_ x0.at_,i_ x0.list_,i_ x0.by_],.agg [i_ x1.at_,i_ x1.list_,i_ x1.by_]] ++ q1C) (i_ r)) (p0 : List span_end) (j : Int) (h : Int) (r : Bool × List span_end) (h0 : q19 q1 p0 j h = some r) : EvCall Tryz.prog tab 175 [.hs 0 3 0 p0.length,di_ j,di_ h,.d (.fn q1F q1C)] [(0,.dat 3 (p0.map qe))] 1 (db_ r.1) [(0,.dat 3 (r.2.map qe))] 1:=by
 unfold q19 at h0
 refine q14 Tryz.func175 ee (by kernel_rfl) (by kernel_rfl) ee<|q7<|q0<|as_ ee<|q6<|q7<|q0<|mv_ ee<|v_ (.d (i_ (w64 (j + 1)))) ee<|as_ ee<|q6<|q7<|q7<|q0<|as_ ee<|q6 ?_
 obtain ⟨ap,bz,h0⟩:=bindE h0
 refine qk (fun al=>.inl al = ap) (fun (al : List span_end)=>⟨[],[(0,.dat 3 (al.map qe))],1⟩) (by simp) ?_ ?_
 ·refine qn (q13 h q1 j) (fun (g : Int × Int × List span_end)=>⟨[(0,.hs 0 3 0 g.2.2.length),(1,di_ j),(2,di_ h),(3,.d (.fn q1F q1C)),(9,di_ g.1),(10,di_ g.2.1)],[(0,.dat 3 (g.2.2.map qe))],1⟩) (w64 (j + 1),0,p0) ap bz (wkA [] [] []) ?_
  intro g cl l
  unfold q13 at l
  refine q7<|q7<|q0<|mv_ ee<|v_ (.d (.bool (decide (g.2.1 < 5)))) ee<|q6 ?_
  refine qb ee l (fun _ l=>?_) (fun _ l=>?_)
  ·refine qd<|q7 ?_
   obtain ⟨ca,a,l⟩:=bindE l
   refine qk (fun af=>.inl af = ca) (fun (af : Int × List span_end)=>⟨[(0,.hs 0 3 0 af.2.length),(1,di_ j),(2,di_ h),(3,.d (.fn q1F q1C)),(9,di_ af.1),(10,di_ g.2.1)],[(0,.dat 3 (af.2.map qe))],1⟩) (by simp) ?_ ?_
   ·refine q7 ?_
    obtain ⟨aq,cb,a⟩:=bindE a
    refine qk (fun f=>f = aq) (fun (f : Int)=>⟨[(0,.hs 0 3 0 g.2.2.length),(1,di_ j),(2,di_ h),(3,.d (.fn q1F q1C)),(9,di_ f),(10,di_ g.2.1)],[(0,.dat 3 (g.2.2.map qe))],1⟩) (by simp) ?_ ?_
    ·refine qn (q1l h g q1) (fun (ah : Int)=>⟨[(0,.hs 0 3 0 g.2.2.length),(1,di_ j),(2,di_ h),(3,.d (.fn q1F q1C)),(9,di_ ah),(10,di_ g.2.1)],[(0,.dat 3 (g.2.2.map qe))],1⟩) g.1 aq cb (wkA [] [] []) ?_
     intro ah cm o
     unfold q1l at o
     refine q7<|q7<|qg [(some [],[]),(some [],[]),(some [],[]),(some [],[]),(some [0],[]),(some [],[]),(some [],[]),(some [],[]),(some [],[]),(some [0],[]),(some [],[]),(some [],[]),(some [],[]),(some [],[]),(some [],[]),(some [],[]),(some [],[]),(some [],[])] (by kernel_rfl)<|mv_ ee<|mv_ ee<|v_ (.d (.bool (decide (ah < h)))) ee ?_
     obtain ⟨cc,k,o⟩:=bindE o
     refine qo 15 (fun A st=>∃ (ar as au av aw ax ay az ba bb bc bd be bf : V),st = A [(36,db_ cc),(35,bf),(34,be),(33,bd),(32,bc),(31,bb),(30,ba),(29,az),(28,ay),(27,ax),(26,aw),(25,av),(24,au),(23,as),(22,ar)]) ?_ ?_
     ·refine qs ee ee k (fun k=>?_) (fun k=>?_)
      ·refine mv_ ee<|mv_ ee<|mv_ ee ?_
       obtain ⟨t,bg,k⟩:=bindE k
       refine qi bg ee ee ee ee ee ee ee<|qp (.d (.agg [i_ t.at_,i_ t.list_,i_ t.by_])) bg ee ee ee ee ee ee<|mv_ ee<|mv_ ee<|v_ (.d (i_ (w64 (ah - 1)))) ee ?_
       obtain ⟨u,bh,k⟩:=bindE k
       refine qi bh ee ee ee ee ee ee ee<|qp (.d (.agg [i_ u.at_,i_ u.list_,i_ u.by_])) bh ee ee ee ee ee ee ?_
       obtain ⟨am,cd,k⟩:=bindE k
       refine q66 [.d (.agg [i_ t.at_,i_ t.list_,i_ t.by_]),.d (.agg [i_ u.at_,i_ u.list_,i_ u.by_])] (q1Ok t u am cd) ee ee ee (.inl ee)<|v_ (.d (.bool (decide (am < 0)))) ee<|v_ (.d (.bool (!(decide (am < 0))))) ee<|v_ (.d (.bool (!(decide (am < 0))))) ee<|q6 ?_
       obtain rfl:=someE k
       exact ⟨_,_,_,_,_,_,_,_,_,_,_,_,_,_,ee⟩
      refine q8 ee<|q8 ee<|q8 ee<|q8 ee<|q8 ee<|q8 ee<|q8 ee<|q8 ee<|q8 ee<|q8 ee<|q8 ee<|q8 ee<|q8 ee<|v_ (db_ false) ee<|q6 ?_
      obtain rfl:=someE k
      exact ⟨_,_,_,_,_,_,_,_,_,_,_,_,_,_,ee⟩
     rintro _ ⟨ar,as,au,av,aw,ax,ay,az,ba,bb,bc,bd,be,bf,rfl⟩
     refine q6 ?_
     refine qb ee o (fun _ o=>?_) (fun _ o=>?_)
     ·refine qd<|qh<|q0<|mv_ ee<|v_ (.d (i_ (w64 (ah + 1)))) ee<|as_ ee<|q6<|qc<|qr<|qc ?_
      exact ⟨_,(Option.some.inj o).symm,wkA [] [] []⟩
     refine qm ?_
     refine ⟨_,(Option.some.inj o).symm,fun hm=>?_⟩
     subst hm
     exact ⟨_,ee,wkA [] [] []⟩
    intro f hb
    subst hb
    refine q7<|q7<|q0<|mv_ ee<|mv_ ee<|v_ (db_ (f == h)) ee<|q6 ?_
    refine qb ee a (fun _ a=>?_) (fun _ a=>?_)
    ·refine q7<|q0<|as_ ee<|q6<|qj ?_
     obtain rfl:=someE a
     refine ⟨_,(Option.some.inj l).symm,fun hm=>?_⟩
     subst hm
     obtain rfl:=someE h0
     exact ⟨.inr ee,_,ee,wkA [] [] []⟩
    refine qd<|q7<|q7<|q0<|mv_ ee<|mv_ ee<|v_ (.d (i_ (w64 (h - j)))) ee<|v_ (.d (.bool (decide ((w64 (h - j)) < 50)))) ee<|q6 ?_
    refine qb ee a (fun _ a=>?_) (fun _ a=>?_)
    ·refine q7<|q0<|as_ ee<|q6<|qj ?_
     obtain rfl:=someE a
     refine ⟨_,(Option.some.inj l).symm,fun hm=>?_⟩
     subst hm
     obtain rfl:=someE h0
     exact ⟨.inr ee,_,ee,wkA [] [] []⟩
    refine qd<|q7<|qg [(some [0],[0]),(some [],[]),(some [0],[0]),(some [],[]),(some [0],[]),(some [],[]),(some [],[]),(some [],[]),(some [0],[]),(some [],[]),(some [],[]),(some [],[]),(some [],[]),(some [],[]),(some [],[]),(some [],[]),(some [],[]),(some [],[])] (by kernel_rfl)<|mv_ ee<|mv_ ee<|mv_ ee<|mv_ ee<|v_ (.d (i_ (w64 (f - 1)))) ee<|mv_ ee<|mv_ ee<|v_ (.d (i_ (w64 (f - 1)))) ee ?_
    obtain ⟨p,bi,a⟩:=bindE a
    refine qi bi ee ee ee ee ee ee ee<|qp (.d (.agg [i_ p.at_,i_ p.list_,i_ p.by_])) bi ee ee ee ee ee ee<|mv_ ee<|mv_ ee ?_
    obtain ⟨q,bj,a⟩:=bindE a
    refine qi bj ee ee ee ee ee ee ee<|qp (.d (.agg [i_ q.at_,i_ q.list_,i_ q.by_])) bj ee ee ee ee ee ee ?_
    obtain ⟨cn,bk,a⟩:=bindE a
    refine qi bk ee ee ee ee ee ee ee<|q12 (ds:=[i_ p.at_,i_ p.list_,i_ p.by_]) p bk ee ee ee ee ee ee ee ee (leb ee) ee ?_
    obtain ⟨co,bl,a⟩:=bindE a
    refine qi bl (by simp) ee ee ee ee ee ee<|q12 (ds:=[i_ q.at_,i_ q.list_,i_ q.by_]) q bl ee ee ee ee ee ee ee ee (leb ee) ee<|q6<|q7<|q7<|q0<|mv_ ee<|mv_ ee<|v_ (.d (i_ (w64 (f - j)))) ee<|v_ (.d (.bool (decide ((w64 (f - j)) ≥ 2)))) ee<|q6 ?_
    obtain ⟨ce,s,a⟩:=bindE a
    refine q57 (fun ag=>ag = ce) (fun (ag : List span_end)=>⟨[(0,.hs 0 3 0 ag.length),(1,di_ j),(2,di_ h),(3,.d (.fn q1F q1C)),(9,di_ f),(10,di_ g.2.1)],[(0,.dat 3 (ag.map qe))],1⟩) (by simp) ?_ ?_
    ·refine qb ee s (fun _ s=>?_) (fun _ s=>?_)
     ·refine q7<|q0<|mv_ ee<|v_ (.d (i_ (w64 (f - 1)))) ee<|as_ ee<|q6 ?_
      obtain ⟨cf,cg,s⟩:=bindE s
      refine qh<|qn (q1m q1) (fun (m : Int × List span_end)=>⟨[(0,.hs 0 3 0 m.2.length),(1,di_ j),(2,di_ h),(3,.d (.fn q1F q1C)),(9,di_ f),(10,di_ g.2.1),(11,di_ m.1)],[(0,.dat 3 (m.2.map qe))],1⟩) (w64 (f - 1),(g.2.2.set f.toNat p).set (w64 (f - 1)).toNat q) cf cg (wkE [] [] [] ee ⟨⟨_,ee,q10 (by simp) ee (by decide) (ltd ee)⟩,⟨_,ee,.d (.refl _)⟩,⟨_,ee,.d (.refl _)⟩,⟨_,ee,.d (.refl _)⟩,⟨_,ee,.d (.refl _)⟩,⟨_,ee,.d (.refl _)⟩,⟨_,ee,.d (.refl _)⟩,trivial⟩ ⟨⟨ltd ee,.inr ⟨by decide,_,ee,.dat _ _⟩⟩,trivial⟩) ?_
      intro m cp b
      unfold q1m at b
      refine q7<|q7<|q0<|mv_ ee<|v_ (.d (.bool (decide (m.1 ≥ 1)))) ee<|q6 ?_
      refine qb ee b (fun _ b=>?_) (fun _ b=>?_)
      ·refine qd<|q7<|qh<|q7<|q7<|qg [(some [],[]),(some [],[]),(some [],[]),(some [0],[]),(some [],[]),(some [],[]),(some [],[]),(some [],[]),(some [0],[]),(some [],[]),(some [],[]),(some [],[]),(some [],[])] (by kernel_rfl)<|mv_ ee<|mv_ ee<|mv_ ee ?_
       obtain ⟨v,bm,b⟩:=bindE b
       refine qi bm ee ee ee ee ee ee ee<|qp (.d (.agg [i_ v.at_,i_ v.list_,i_ v.by_])) bm ee ee ee ee ee ee<|mv_ ee<|mv_ ee<|v_ (.d (i_ (w64 (m.1 - 1)))) ee ?_
       obtain ⟨w,bn,b⟩:=bindE b
       refine qi bn ee ee ee ee ee ee ee<|qp (.d (.agg [i_ w.at_,i_ w.list_,i_ w.by_])) bn ee ee ee ee ee ee ?_
       obtain ⟨an,ch,b⟩:=bindE b
       refine q66 [.d (.agg [i_ v.at_,i_ v.list_,i_ v.by_]),.d (.agg [i_ w.at_,i_ w.list_,i_ w.by_])] (q1Ok v w an ch) ee ee ee (.inl ee)<|v_ (.d (.bool (decide (an < 0)))) ee<|v_ (.d (.bool (!(decide (an < 0))))) ee<|q6 ?_
       refine qb ee b (fun _ b=>?_) (fun _ b=>?_)
       ·refine qm ?_
        refine ⟨_,(Option.some.inj b).symm,fun hm=>?_⟩
        subst hm
        obtain rfl:=someE s
        exact ⟨_,ee,wkA [] [] []⟩
       refine qd<|qg [(some [0],[0]),(some [],[]),(some [0],[0]),(some [],[]),(some [0],[]),(some [],[]),(some [],[]),(some [],[]),(some [0],[]),(some [],[]),(some [],[]),(some [],[]),(some [],[]),(some [],[]),(some [],[]),(some [],[]),(some [],[]),(some [],[])] (by kernel_rfl)<|mv_ ee<|mv_ ee<|mv_ ee<|mv_ ee<|v_ (.d (i_ (w64 (m.1 - 1)))) ee<|mv_ ee<|mv_ ee<|v_ (.d (i_ (w64 (m.1 - 1)))) ee ?_
       obtain ⟨x,bo,b⟩:=bindE b
       refine qi bo ee ee ee ee ee ee ee<|qp (.d (.agg [i_ x.at_,i_ x.list_,i_ x.by_])) bo ee ee ee ee ee ee<|mv_ ee<|mv_ ee ?_
       obtain ⟨y,bp,b⟩:=bindE b
       refine qi bp ee ee ee ee ee ee ee<|qp (.d (.agg [i_ y.at_,i_ y.list_,i_ y.by_])) bp ee ee ee ee ee ee ?_
       obtain ⟨cq,bq,b⟩:=bindE b
       refine qi bq ee ee ee ee ee ee ee<|q12 (ds:=[i_ x.at_,i_ x.list_,i_ x.by_]) x bq ee ee ee ee ee ee ee ee (leb ee) ee ?_
       obtain ⟨cr,br,b⟩:=bindE b
       refine qi br (by simp) ee ee ee ee ee ee<|q12 (ds:=[i_ y.at_,i_ y.list_,i_ y.by_]) y br ee ee ee ee ee ee ee ee (leb ee) ee<|q6<|qc<|qr<|q0<|mv_ ee<|v_ (.d (i_ (w64 (m.1 - 1)))) ee<|as_ ee<|q6<|qc ?_
       exact ⟨_,(Option.some.inj b).symm,wkE [] [] [] ee ⟨⟨_,ee,q10 (by simp) ee (by decide) (ltd ee)⟩,⟨_,ee,.d (.refl _)⟩,⟨_,ee,.d (.refl _)⟩,⟨_,ee,.d (.refl _)⟩,⟨_,ee,.d (.refl _)⟩,⟨_,ee,.d (.refl _)⟩,⟨_,ee,.d (.refl _)⟩,trivial⟩ ⟨⟨ltd ee,.inr ⟨by decide,_,ee,.dat _ _⟩⟩,trivial⟩⟩
      refine qm ?_
      refine ⟨_,(Option.some.inj b).symm,fun hm=>?_⟩
      subst hm
      obtain rfl:=someE s
      exact ⟨_,ee,wkA [] [] []⟩
     refine qd<|qc ?_
     obtain rfl:=someE s
     exact ⟨_,ee,wkE [] [] [] ee ⟨⟨_,ee,q10 (by simp) ee (by decide) (ltd ee)⟩,⟨_,ee,.d (.refl _)⟩,⟨_,ee,.d (.refl _)⟩,⟨_,ee,.d (.refl _)⟩,⟨_,ee,.d (.refl _)⟩,⟨_,ee,.d (.refl _)⟩,trivial⟩ ⟨⟨ltd ee,.inr ⟨by decide,_,ee,.dat _ _⟩⟩,trivial⟩⟩
    intro ag hb
    subst hb
    refine q7<|q0<|mv_ ee<|mv_ ee<|v_ (.d (i_ (w64 (h - f)))) ee<|v_ (.d (.bool (decide ((w64 (h - f)) ≥ 2)))) ee<|q6 ?_
    refine qb ee a (fun _ a=>?_) (fun _ a=>?_)
    ·refine q7<|q0<|mv_ ee<|v_ (.d (i_ (w64 (f + 1)))) ee<|as_ ee<|q6 ?_
     obtain ⟨ci,cj,a⟩:=bindE a
     refine qh<|qn (q1n h q1 f) (fun (n : Int × List span_end)=>⟨[(0,.hs 0 3 0 n.2.length),(1,di_ j),(2,di_ h),(3,.d (.fn q1F q1C)),(9,di_ f),(10,di_ g.2.1),(12,di_ n.1)],[(0,.dat 3 (n.2.map qe))],1⟩) (w64 (f + 1),ag) ci cj (wkA [] [] []) ?_
     intro n cs c
     unfold q1n at c
     refine q7<|q7<|q0<|mv_ ee<|mv_ ee<|v_ (.d (.bool (decide (n.1 < h)))) ee<|q6 ?_
     refine qb ee c (fun _ c=>?_) (fun _ c=>?_)
     ·refine qd<|q7<|qh<|q7<|q7<|qg [(some [],[]),(some [],[]),(some [],[]),(some [0],[]),(some [],[]),(some [],[]),(some [],[]),(some [],[]),(some [0],[]),(some [],[]),(some [],[]),(some [],[]),(some [],[])] (by kernel_rfl)<|mv_ ee<|mv_ ee<|mv_ ee ?_
      obtain ⟨z,bs,c⟩:=bindE c
      refine qi bs ee ee ee ee ee ee ee<|qp (.d (.agg [i_ z.at_,i_ z.list_,i_ z.by_])) bs ee ee ee ee ee ee<|mv_ ee<|mv_ ee<|v_ (.d (i_ (w64 (n.1 - 1)))) ee ?_
      obtain ⟨aa,bt,c⟩:=bindE c
      refine qi bt ee ee ee ee ee ee ee<|qp (.d (.agg [i_ aa.at_,i_ aa.list_,i_ aa.by_])) bt ee ee ee ee ee ee ?_
      obtain ⟨ao,ck,c⟩:=bindE c
      refine q66 [.d (.agg [i_ z.at_,i_ z.list_,i_ z.by_]),.d (.agg [i_ aa.at_,i_ aa.list_,i_ aa.by_])] (q1Ok z aa ao ck) ee ee ee (.inl ee)<|v_ (.d (.bool (decide (ao < 0)))) ee<|v_ (.d (.bool (!(decide (ao < 0))))) ee<|q6 ?_
      refine qb ee c (fun _ c=>?_) (fun _ c=>?_)
      ·refine qm ?_
       refine ⟨_,(Option.some.inj c).symm,fun hm=>?_⟩
       subst hm
       obtain rfl:=someE a
       exact ⟨_,ee,wkA [] [] []⟩
      refine qd<|qg [(some [0],[0]),(some [],[]),(some [0],[0]),(some [],[]),(some [0],[]),(some [],[]),(some [],[]),(some [],[]),(some [0],[]),(some [],[]),(some [],[]),(some [],[]),(some [],[]),(some [],[]),(some [],[]),(some [],[]),(some [],[]),(some [],[])] (by kernel_rfl)<|mv_ ee<|mv_ ee<|mv_ ee<|mv_ ee<|v_ (.d (i_ (w64 (n.1 - 1)))) ee<|mv_ ee<|mv_ ee<|v_ (.d (i_ (w64 (n.1 - 1)))) ee ?_
      obtain ⟨ab,bu,c⟩:=bindE c
      refine qi bu ee ee ee ee ee ee ee<|qp (.d (.agg [i_ ab.at_,i_ ab.list_,i_ ab.by_])) bu ee ee ee ee ee ee<|mv_ ee<|mv_ ee ?_
      obtain ⟨ac,bv,c⟩:=bindE c
      refine qi bv ee ee ee ee ee ee ee<|qp (.d (.agg [i_ ac.at_,i_ ac.list_,i_ ac.by_])) bv ee ee ee ee ee ee ?_
      obtain ⟨ct,bw,c⟩:=bindE c
      refine qi bw ee ee ee ee ee ee ee<|q12 (ds:=[i_ ab.at_,i_ ab.list_,i_ ab.by_]) ab bw ee ee ee ee ee ee ee ee (leb ee) ee ?_
      obtain ⟨cu,bx,c⟩:=bindE c
      refine qi bx (by simp) ee ee ee ee ee ee<|q12 (ds:=[i_ ac.at_,i_ ac.list_,i_ ac.by_]) ac bx ee ee ee ee ee ee ee ee (leb ee) ee<|q6<|qc<|qr<|q0<|mv_ ee<|v_ (.d (i_ (w64 (n.1 + 1)))) ee<|as_ ee<|q6<|qc ?_
      exact ⟨_,(Option.some.inj c).symm,wkE [] [] [] ee ⟨⟨_,ee,q10 (by simp) ee (by decide) (ltd ee)⟩,⟨_,ee,.d (.refl _)⟩,⟨_,ee,.d (.refl _)⟩,⟨_,ee,.d (.refl _)⟩,⟨_,ee,.d (.refl _)⟩,⟨_,ee,.d (.refl _)⟩,⟨_,ee,.d (.refl _)⟩,trivial⟩ ⟨⟨ltd ee,.inr ⟨by decide,_,ee,.dat _ _⟩⟩,trivial⟩⟩
     refine qm ?_
     refine ⟨_,(Option.some.inj c).symm,fun hm=>?_⟩
     subst hm
     obtain rfl:=someE a
     exact ⟨_,ee,wkA [] [] []⟩
    refine qd<|qc ?_
    obtain rfl:=someE a
    exact ⟨_,ee,wkA [] [] []⟩
   intro af hb
   subst hb
   refine q0<|mv_ ee<|v_ (.d (i_ (w64 (g.2.1 + 1)))) ee<|as_ ee<|q6<|qc ?_
   exact ⟨_,(Option.some.inj l).symm,wkA [] [] []⟩
  refine qm ?_
  refine ⟨_,(Option.some.inj l).symm,fun hm=>?_⟩
  subst hm
  exact ⟨_,ee,wkA [] [] []⟩
 intro al hb
 subst hb
 refine q7<|q0<|as_ ee<|q6<|qj ?_
 obtain rfl:=someE h0
 exact ⟨.inr ee,_,ee,wkA [] [] []⟩
theorem q70 (w : span_end→span_end→Option Int) (q1F : FuncId) (q1C : List DV) (q1Ok : ∀ (y : span_end) (z : span_end) (r : Int),w y z = some r→Pure Tryz.prog tab q1F ([.agg [i_ y.at_,i_ y.list_,i_ y.by_],.agg [i_ z.at_,i_ z.list_,i_ z.by_]] ++ q1C) (i_ r)) (p0 : List span_end) (c : Int) (p2 : Int) (p3 : Int) (r : Int × List span_end) (f : q2f w p0 c p2 p3 = some r) : EvCall Tryz.prog tab 176 [.hs 0 3 0 p0.length,di_ c,di_ p2,di_ p3,.d (.fn q1F q1C)] [(0,.dat 3 (p0.map qe))] 1 (di_ r.1) [(0,.dat 3 (r.2.map qe))] 1:=by
 unfold q2f at f
 refine q14 Tryz.func176 ee (by kernel_rfl) (by kernel_rfl) ee<|q7<|q0<|as_ ee<|q6<|q7<|qg [(some [0],[0]),(some [],[]),(some [0],[0]),(some [],[]),(some [0],[]),(some [],[]),(some [],[]),(some [],[]),(some [0],[]),(some [],[]),(some [],[]),(some [],[]),(some [],[]),(some [],[]),(some [],[]),(some [],[])] (by kernel_rfl)<|mv_ ee<|mv_ ee<|mv_ ee<|mv_ ee<|mv_ ee<|mv_ ee ?_
 obtain ⟨k,ah,f⟩:=bindE f
 refine qi ah ee ee ee ee ee ee ee<|qp (.d (.agg [i_ k.at_,i_ k.list_,i_ k.by_])) ah ee ee ee ee ee ee<|mv_ ee<|mv_ ee ?_
 obtain ⟨l,ai,f⟩:=bindE f
 refine qi ai ee ee ee ee ee ee ee<|qp (.d (.agg [i_ l.at_,i_ l.list_,i_ l.by_])) ai ee ee ee ee ee ee ?_
 obtain ⟨ce,aj,f⟩:=bindE f
 refine qi aj ee ee ee ee ee ee ee<|q12 (ds:=[i_ k.at_,i_ k.list_,i_ k.by_]) k aj ee ee ee ee ee ee ee ee (leb ee) ee ?_
 obtain ⟨cf,ak,f⟩:=bindE f
 refine qi ak (by simp) ee ee ee ee ee ee<|q12 (ds:=[i_ l.at_,i_ l.list_,i_ l.by_]) l ak ee ee ee ee ee ee ee ee (leb ee) ee<|q6<|q7<|q0<|mv_ ee<|v_ (.d (i_ (w64 (c + 1)))) ee<|mv_ ee<|v_ (.d (i_ (w64 (p2 - 1)))) ee<|as_ ee<|as_ ee<|q6<|q7 ?_
 obtain ⟨al,bw,f⟩:=bindE f
 refine qk (fun x=>x = al) (fun (x : Int × List span_end)=>⟨[(11,di_ x.1)],[(0,.dat 3 (x.2.map qe))],1⟩) (by simp) ?_ ?_
 ·refine qn (q20 c w) (fun (a : Int × Int × List span_end)=>⟨[(0,.hs 0 3 0 a.2.2.length),(1,di_ c),(4,.d (.fn q1F q1C)),(11,di_ a.1),(12,di_ a.2.1)],[(0,.dat 3 (a.2.2.map qe))],1⟩) (w64 (c + 1),w64 (p2 - 1),(p0.set c.toNat k).set p3.toNat l) al bw (wkE [] [] [] ee ⟨⟨_,ee,q10 (by simp) ee (by decide) (ltd ee)⟩,⟨_,ee,.d (.refl _)⟩,⟨_,ee,.d (.refl _)⟩,⟨_,ee,.d (.refl _)⟩,⟨_,ee,.d (.refl _)⟩,trivial⟩ ⟨⟨ltd ee,.inr ⟨by decide,_,ee,.dat _ _⟩⟩,trivial⟩) ?_
  intro a cg b
  unfold q20 at b
  refine qh<|q7 ?_
  obtain ⟨am,bx,b⟩:=bindE b
  refine qk (fun j=>j = am) (fun (j : Int)=>⟨[(0,.hs 0 3 0 a.2.2.length),(1,di_ c),(4,.d (.fn q1F q1C)),(11,di_ j),(12,di_ a.2.1)],[(0,.dat 3 (a.2.2.map qe))],1⟩) (by simp) ?_ ?_
  ·refine qn (q1y a c w) (fun (ac : Int)=>⟨[(0,.hs 0 3 0 a.2.2.length),(1,di_ c),(4,.d (.fn q1F q1C)),(11,di_ ac),(12,di_ a.2.1)],[(0,.dat 3 (a.2.2.map qe))],1⟩) a.1 am bx (wkA [] [] []) ?_
   intro ac ch m
   unfold q1y at m
   refine q7<|q7<|qg [(some [],[]),(some [],[]),(some [],[]),(some [],[]),(some [0],[]),(some [],[]),(some [],[]),(some [],[]),(some [0],[]),(some [],[]),(some [],[]),(some [],[]),(some [],[]),(some [],[]),(some [],[]),(some [],[]),(some [],[])] (by kernel_rfl)<|mv_ ee<|mv_ ee<|v_ (.d (.bool (decide (ac≤a.2.1)))) ee ?_
   obtain ⟨bz,g,m⟩:=bindE m
   refine qo 14 (fun A st=>∃ (an ao ap aq ar as au av aw ax ay az ba : V),st = A [(47,db_ bz),(46,ba),(45,az),(44,ay),(43,ax),(42,aw),(41,av),(40,au),(39,as),(38,ar),(37,aq),(36,ap),(35,ao),(34,an)]) ?_ ?_
   ·refine qs ee ee g (fun g=>?_) (fun g=>?_)
    ·refine mv_ ee<|mv_ ee<|mv_ ee ?_
     obtain ⟨o,bb,g⟩:=bindE g
     refine qi bb ee ee ee ee ee ee ee<|qp (.d (.agg [i_ o.at_,i_ o.list_,i_ o.by_])) bb ee ee ee ee ee ee<|mv_ ee<|mv_ ee ?_
     obtain ⟨p,bc,g⟩:=bindE g
     refine qi bc ee ee ee ee ee ee ee<|qp (.d (.agg [i_ p.at_,i_ p.list_,i_ p.by_])) bc ee ee ee ee ee ee ?_
     obtain ⟨ad,ca,g⟩:=bindE g
     refine q66 [.d (.agg [i_ o.at_,i_ o.list_,i_ o.by_]),.d (.agg [i_ p.at_,i_ p.list_,i_ p.by_])] (q1Ok o p ad ca) ee ee ee (.inl ee)<|v_ (.d (.bool (decide (ad < 0)))) ee<|v_ (.d (.bool (!(decide (ad < 0))))) ee<|v_ (.d (.bool (!(decide (ad < 0))))) ee<|q6 ?_
     obtain rfl:=someE g
     exact ⟨_,_,_,_,_,_,_,_,_,_,_,_,_,ee⟩
    refine q8 ee<|q8 ee<|q8 ee<|q8 ee<|q8 ee<|q8 ee<|q8 ee<|q8 ee<|q8 ee<|q8 ee<|q8 ee<|q8 ee<|v_ (db_ false) ee<|q6 ?_
    obtain rfl:=someE g
    exact ⟨_,_,_,_,_,_,_,_,_,_,_,_,_,ee⟩
   rintro _ ⟨an,ao,ap,aq,ar,as,au,av,aw,ax,ay,az,ba,rfl⟩
   refine q6 ?_
   refine qb ee m (fun _ m=>?_) (fun _ m=>?_)
   ·refine qd<|qh<|q0<|mv_ ee<|v_ (.d (i_ (w64 (ac + 1)))) ee<|as_ ee<|q6<|qc<|qr<|qc ?_
    exact ⟨_,(Option.some.inj m).symm,wkA [] [] []⟩
   refine qm ?_
   refine ⟨_,(Option.some.inj m).symm,fun hm=>?_⟩
   subst hm
   exact ⟨_,ee,wkA [] [] []⟩
  intro j hb
  subst hb
  refine q7 ?_
  obtain ⟨bd,cb,b⟩:=bindE b
  refine qk (fun v=>v = bd) (fun (v : Int)=>⟨[(0,.hs 0 3 0 a.2.2.length),(1,di_ c),(4,.d (.fn q1F q1C)),(11,di_ j),(12,di_ v)],[(0,.dat 3 (a.2.2.map qe))],1⟩) (by simp) ?_ ?_
  ·refine qn (q1z j a c w) (fun (ae : Int)=>⟨[(0,.hs 0 3 0 a.2.2.length),(1,di_ c),(4,.d (.fn q1F q1C)),(11,di_ j),(12,di_ ae)],[(0,.dat 3 (a.2.2.map qe))],1⟩) a.2.1 bd cb (wkA [] [] []) ?_
   intro ae ci n
   unfold q1z at n
   refine q7<|q7<|qg [(some [],[]),(some [],[]),(some [],[]),(some [0],[]),(some [],[]),(some [],[]),(some [],[]),(some [0],[]),(some [],[]),(some [],[]),(some [],[]),(some [],[]),(some [],[]),(some [],[]),(some [],[]),(some [],[])] (by kernel_rfl)<|mv_ ee<|mv_ ee<|v_ (.d (.bool (decide (j≤ae)))) ee ?_
   obtain ⟨cc,h,n⟩:=bindE n
   refine qo 13 (fun A st=>∃ (be bf bg bh bi bj bk bl bm bn bo bp : V),st = A [(65,db_ cc),(64,bp),(63,bo),(62,bn),(61,bm),(60,bl),(59,bk),(58,bj),(57,bi),(56,bh),(55,bg),(54,bf),(53,be)]) ?_ ?_
   ·refine qs ee ee h (fun h=>?_) (fun h=>?_)
    ·refine mv_ ee<|mv_ ee<|mv_ ee ?_
     obtain ⟨q,bq,h⟩:=bindE h
     refine qi bq ee ee ee ee ee ee ee<|qp (.d (.agg [i_ q.at_,i_ q.list_,i_ q.by_])) bq ee ee ee ee ee ee<|mv_ ee<|mv_ ee ?_
     obtain ⟨s,br,h⟩:=bindE h
     refine qi br ee ee ee ee ee ee ee<|qp (.d (.agg [i_ s.at_,i_ s.list_,i_ s.by_])) br ee ee ee ee ee ee ?_
     obtain ⟨ag,cd,h⟩:=bindE h
     refine q66 [.d (.agg [i_ q.at_,i_ q.list_,i_ q.by_]),.d (.agg [i_ s.at_,i_ s.list_,i_ s.by_])] (q1Ok q s ag cd) ee ee ee (.inl ee)<|v_ (.d (.bool (decide (ag < 0)))) ee<|v_ (.d (.bool (decide (ag < 0)))) ee<|q6 ?_
     obtain rfl:=someE h
     exact ⟨_,_,_,_,_,_,_,_,_,_,_,_,ee⟩
    refine q8 ee<|q8 ee<|q8 ee<|q8 ee<|q8 ee<|q8 ee<|q8 ee<|q8 ee<|q8 ee<|q8 ee<|q8 ee<|v_ (db_ false) ee<|q6 ?_
    obtain rfl:=someE h
    exact ⟨_,_,_,_,_,_,_,_,_,_,_,_,ee⟩
   rintro _ ⟨be,bf,bg,bh,bi,bj,bk,bl,bm,bn,bo,bp,rfl⟩
   refine q6 ?_
   refine qb ee n (fun _ n=>?_) (fun _ n=>?_)
   ·refine qd<|qh<|q0<|mv_ ee<|v_ (.d (i_ (w64 (ae - 1)))) ee<|as_ ee<|q6<|qc<|qr<|qc ?_
    exact ⟨_,(Option.some.inj n).symm,wkA [] [] []⟩
   refine qm ?_
   refine ⟨_,(Option.some.inj n).symm,fun hm=>?_⟩
   subst hm
   exact ⟨_,ee,wkA [] [] []⟩
  intro v hb
  subst hb
  refine q7<|q7<|q0<|mv_ ee<|mv_ ee<|v_ (.d (.bool (decide (j > v)))) ee<|q6 ?_
  refine qb ee b (fun _ b=>?_) (fun _ b=>?_)
  ·refine qm ?_
   refine ⟨_,(Option.some.inj b).symm,fun hm=>?_⟩
   subst hm
   exact ⟨_,ee,wkA [] [] []⟩
  refine qd<|q7<|qg [(some [0],[0]),(some [],[]),(some [0],[0]),(some [],[]),(some [0],[]),(some [],[]),(some [],[]),(some [],[]),(some [0],[]),(some [],[]),(some [],[]),(some [],[]),(some [],[]),(some [],[]),(some [],[]),(some [],[])] (by kernel_rfl)<|mv_ ee<|mv_ ee<|mv_ ee<|mv_ ee<|mv_ ee<|mv_ ee ?_
  obtain ⟨t,bs,b⟩:=bindE b
  refine qi bs ee ee ee ee ee ee ee<|qp (.d (.agg [i_ t.at_,i_ t.list_,i_ t.by_])) bs ee ee ee ee ee ee<|mv_ ee<|mv_ ee ?_
  obtain ⟨u,bt,b⟩:=bindE b
  refine qi bt ee ee ee ee ee ee ee<|qp (.d (.agg [i_ u.at_,i_ u.list_,i_ u.by_])) bt ee ee ee ee ee ee ?_
  obtain ⟨cj,bu,b⟩:=bindE b
  refine qi bu ee ee ee ee ee ee ee<|q12 (ds:=[i_ t.at_,i_ t.list_,i_ t.by_]) t bu ee ee ee ee ee ee ee ee (leb ee) ee ?_
  obtain ⟨ck,bv,b⟩:=bindE b
  refine qi bv (by simp) ee ee ee ee ee ee<|q12 (ds:=[i_ u.at_,i_ u.list_,i_ u.by_]) u bv ee ee ee ee ee ee ee ee (leb ee) ee<|q6<|q7<|q0<|mv_ ee<|v_ (.d (i_ (w64 (j + 1)))) ee<|as_ ee<|q6<|q0<|mv_ ee<|v_ (.d (i_ (w64 (v - 1)))) ee<|as_ ee<|q6<|qc<|qr<|qc ?_
  exact ⟨_,(Option.some.inj b).symm,wkE [] [] [] ee ⟨⟨_,ee,q10 (by simp) ee (by decide) (ltd ee)⟩,⟨_,ee,.d (.refl _)⟩,⟨_,ee,.d (.refl _)⟩,⟨_,ee,.d (.refl _)⟩,⟨_,ee,.d (.refl _)⟩,trivial⟩ ⟨⟨ltd ee,.inr ⟨by decide,_,ee,.dat _ _⟩⟩,trivial⟩⟩
 intro x hb
 subst hb
 refine q7<|q0<|mv_ ee<|as_ ee<|q6<|qj ?_
 obtain rfl:=someE f
 exact ⟨.inr ee,_,ee,wkA [] [] []⟩
theorem q7q (q1 : span_end→span_end→Option Int) (q1F : FuncId) (q1C : List DV) (q1Ok : ∀ (x0 : span_end) (x1 : span_end) (r : Int),q1 x0 x1 = some r→Pure Tryz.prog tab q1F ([.agg [i_ x0.at_,i_ x0.list_,i_ x0.by_],.agg [i_ x1.at_,i_ x1.list_,i_ x1.by_]] ++ q1C) (i_ r)) (j : List span_end) (b : Int) (s : Int) (k : Int) (r : Int × Bool × List span_end) (a : q3k q1 j b s k = some r) : EvCall Tryz.prog tab 177 [.hs 0 3 0 j.length,di_ b,di_ s,di_ k,.d (.fn q1F q1C)] [(0,.dat 3 (j.map qe))] 1 (.d (.tup [i_ r.1,.bool r.2.1])) [(0,.dat 3 (r.2.2.map qe))] 1:=by
 unfold q3k at a
 refine q14 Tryz.func177 ee (by kernel_rfl) (by kernel_rfl) ee<|q7<|q0<|as_ ee<|as_ ee<|q6<|q7<|qg [(some [0],[0]),(some [],[]),(some [0],[0]),(some [],[]),(some [0],[]),(some [],[]),(some [],[]),(some [],[]),(some [0],[]),(some [],[]),(some [],[]),(some [],[]),(some [],[]),(some [],[]),(some [],[]),(some [],[])] (by kernel_rfl)<|mv_ ee<|mv_ ee<|mv_ ee<|mv_ ee<|mv_ ee<|mv_ ee ?_
 obtain ⟨f,bc,a⟩:=bindE a
 refine qi bc ee ee ee ee ee ee ee<|qp (.d (.agg [i_ f.at_,i_ f.list_,i_ f.by_])) bc ee ee ee ee ee ee<|mv_ ee<|mv_ ee ?_
 obtain ⟨g,bd,a⟩:=bindE a
 refine qi bd ee ee ee ee ee ee ee<|qp (.d (.agg [i_ g.at_,i_ g.list_,i_ g.by_])) bd ee ee ee ee ee ee ?_
 obtain ⟨gb,be,a⟩:=bindE a
 refine qi be ee ee ee ee ee ee ee<|q12 (ds:=[i_ f.at_,i_ f.list_,i_ f.by_]) f be ee ee ee ee ee ee ee ee (leb ee) ee ?_
 obtain ⟨gc,bf,a⟩:=bindE a
 refine qi bf (by simp) ee ee ee ee ee ee<|q12 (ds:=[i_ g.at_,i_ g.list_,i_ g.by_]) g bf ee ee ee ee ee ee ee ee (leb ee) ee<|q6<|q7<|q0<|mv_ ee<|v_ (.d (i_ (w64 (b + 1)))) ee<|mv_ ee<|v_ (.d (i_ (w64 (s - 1)))) ee<|as_ ee<|as_ ee<|q6<|q7 ?_
 obtain ⟨bg,fm,a⟩:=bindE a
 refine qk (fun l=>l = bg) (fun (l : Int)=>⟨[(0,.hs 0 3 0 ((j.set b.toNat f).set k.toNat g).length),(1,di_ b),(4,.d (.fn q1F q1C)),(12,di_ l),(13,.d (i_ (w64 (s - 1))))],[(0,.dat 3 (((j.set b.toNat f).set k.toNat g).map qe))],1⟩) (by simp) ?_ ?_
 ·refine qn (q2y s j b f k g q1) (fun (au : Int)=>⟨[(0,.hs 0 3 0 ((j.set b.toNat f).set k.toNat g).length),(1,di_ b),(4,.d (.fn q1F q1C)),(12,di_ au),(13,.d (i_ (w64 (s - 1))))],[(0,.dat 3 (((j.set b.toNat f).set k.toNat g).map qe))],1⟩) (w64 (b + 1)) bg fm (wkE [] [] [] ee ⟨⟨_,ee,q10 (by simp) ee (by decide) (ltd ee)⟩,⟨_,ee,.d (.refl _)⟩,⟨_,ee,.d (.refl _)⟩,⟨_,ee,.d (.refl _)⟩,⟨_,ee,.d (.refl _)⟩,trivial⟩ ⟨⟨ltd ee,.inr ⟨by decide,_,ee,.dat _ _⟩⟩,trivial⟩) ?_
  intro au gd t
  unfold q2y at t
  refine q7<|q7<|qg [(some [],[]),(some [],[]),(some [],[]),(some [0],[]),(some [],[]),(some [],[]),(some [],[]),(some [0],[]),(some [],[]),(some [],[]),(some [],[]),(some [],[]),(some [],[]),(some [],[]),(some [],[]),(some [],[])] (by kernel_rfl)<|mv_ ee<|mv_ ee<|v_ (.d (.bool (decide (au≤(w64 (s - 1)))))) ee ?_
  obtain ⟨fo,m,t⟩:=bindE t
  refine qo 13 (fun A st=>∃ (bh bi bj bk bl bm bn bo bp bq br bs : V),st = A [(47,db_ fo),(46,bs),(45,br),(44,bq),(43,bp),(42,bo),(41,bn),(40,bm),(39,bl),(38,bk),(37,bj),(36,bi),(35,bh)]) ?_ ?_
  ·refine qs ee ee m (fun m=>?_) (fun m=>?_)
   ·refine mv_ ee<|mv_ ee<|mv_ ee ?_
    obtain ⟨ab,bt,m⟩:=bindE m
    refine qi bt ee ee ee ee ee ee ee<|qp (.d (.agg [i_ ab.at_,i_ ab.list_,i_ ab.by_])) bt ee ee ee ee ee ee<|mv_ ee<|mv_ ee ?_
    obtain ⟨ac,bu,m⟩:=bindE m
    refine qi bu ee ee ee ee ee ee ee<|qp (.d (.agg [i_ ac.at_,i_ ac.list_,i_ ac.by_])) bu ee ee ee ee ee ee ?_
    obtain ⟨ba,fq,m⟩:=bindE m
    refine q66 [.d (.agg [i_ ab.at_,i_ ab.list_,i_ ab.by_]),.d (.agg [i_ ac.at_,i_ ac.list_,i_ ac.by_])] (q1Ok ab ac ba fq) ee ee ee (.inl ee)<|v_ (.d (.bool (decide (ba < 0)))) ee<|v_ (.d (.bool (decide (ba < 0)))) ee<|q6 ?_
    obtain rfl:=someE m
    exact ⟨_,_,_,_,_,_,_,_,_,_,_,_,ee⟩
   refine q8 ee<|q8 ee<|q8 ee<|q8 ee<|q8 ee<|q8 ee<|q8 ee<|q8 ee<|q8 ee<|q8 ee<|q8 ee<|v_ (db_ false) ee<|q6 ?_
   obtain rfl:=someE m
   exact ⟨_,_,_,_,_,_,_,_,_,_,_,_,ee⟩
  rintro _ ⟨bh,bi,bj,bk,bl,bm,bn,bo,bp,bq,br,bs,rfl⟩
  refine q6 ?_
  refine qb ee t (fun _ t=>?_) (fun _ t=>?_)
  ·refine qd<|qh<|q0<|mv_ ee<|v_ (.d (i_ (w64 (au + 1)))) ee<|as_ ee<|q6<|qc<|qr<|qc ?_
   exact ⟨_,(Option.some.inj t).symm,wkA [] [] []⟩
  refine qm ?_
  refine ⟨_,(Option.some.inj t).symm,fun hm=>?_⟩
  subst hm
  exact ⟨_,ee,wkA [] [] []⟩
 intro l hb
 subst hb
 refine q7 ?_
 obtain ⟨bv,fr,a⟩:=bindE a
 refine qk (fun u=>u = bv) (fun (u : Int)=>⟨[(0,.hs 0 3 0 ((j.set b.toNat f).set k.toNat g).length),(1,di_ b),(4,.d (.fn q1F q1C)),(12,di_ l),(13,di_ u)],[(0,.dat 3 (((j.set b.toNat f).set k.toNat g).map qe))],1⟩) (by simp) ?_ ?_
 ·refine qn (q2z l j b f k g q1) (fun (av : Int)=>⟨[(0,.hs 0 3 0 ((j.set b.toNat f).set k.toNat g).length),(1,di_ b),(4,.d (.fn q1F q1C)),(12,di_ l),(13,di_ av)],[(0,.dat 3 (((j.set b.toNat f).set k.toNat g).map qe))],1⟩) (w64 (s - 1)) bv fr (wkA [] [] []) ?_
  intro av ge v
  unfold q2z at v
  refine q7<|q7<|qg [(some [],[]),(some [],[]),(some [],[]),(some [],[]),(some [0],[]),(some [],[]),(some [],[]),(some [],[]),(some [0],[]),(some [],[]),(some [],[]),(some [],[]),(some [],[]),(some [],[]),(some [],[]),(some [],[]),(some [],[])] (by kernel_rfl)<|mv_ ee<|mv_ ee<|v_ (.d (.bool (decide (l≤av)))) ee ?_
  obtain ⟨fs,n,v⟩:=bindE v
  refine qo 14 (fun A st=>∃ (bw bx bz ca cb cc cd ce cf cg ch ci cj : V),st = A [(66,db_ fs),(65,cj),(64,ci),(63,ch),(62,cg),(61,cf),(60,ce),(59,cd),(58,cc),(57,cb),(56,ca),(55,bz),(54,bx),(53,bw)]) ?_ ?_
  ·refine qs ee ee n (fun n=>?_) (fun n=>?_)
   ·refine mv_ ee<|mv_ ee<|mv_ ee ?_
    obtain ⟨ad,ck,n⟩:=bindE n
    refine qi ck ee ee ee ee ee ee ee<|qp (.d (.agg [i_ ad.at_,i_ ad.list_,i_ ad.by_])) ck ee ee ee ee ee ee<|mv_ ee<|mv_ ee ?_
    obtain ⟨ae,cl,n⟩:=bindE n
    refine qi cl ee ee ee ee ee ee ee<|qp (.d (.agg [i_ ae.at_,i_ ae.list_,i_ ae.by_])) cl ee ee ee ee ee ee ?_
    obtain ⟨aw,ft,n⟩:=bindE n
    refine q66 [.d (.agg [i_ ad.at_,i_ ad.list_,i_ ad.by_]),.d (.agg [i_ ae.at_,i_ ae.list_,i_ ae.by_])] (q1Ok ad ae aw ft) ee ee ee (.inl ee)<|v_ (.d (.bool (decide (aw < 0)))) ee<|v_ (.d (.bool (!(decide (aw < 0))))) ee<|v_ (.d (.bool (!(decide (aw < 0))))) ee<|q6 ?_
    obtain rfl:=someE n
    exact ⟨_,_,_,_,_,_,_,_,_,_,_,_,_,ee⟩
   refine q8 ee<|q8 ee<|q8 ee<|q8 ee<|q8 ee<|q8 ee<|q8 ee<|q8 ee<|q8 ee<|q8 ee<|q8 ee<|q8 ee<|v_ (db_ false) ee<|q6 ?_
   obtain rfl:=someE n
   exact ⟨_,_,_,_,_,_,_,_,_,_,_,_,_,ee⟩
  rintro _ ⟨bw,bx,bz,ca,cb,cc,cd,ce,cf,cg,ch,ci,cj,rfl⟩
  refine q6 ?_
  refine qb ee v (fun _ v=>?_) (fun _ v=>?_)
  ·refine qd<|qh<|q0<|mv_ ee<|v_ (.d (i_ (w64 (av - 1)))) ee<|as_ ee<|q6<|qc<|qr<|qc ?_
   exact ⟨_,(Option.some.inj v).symm,wkA [] [] []⟩
  refine qm ?_
  refine ⟨_,(Option.some.inj v).symm,fun hm=>?_⟩
  subst hm
  exact ⟨_,ee,wkA [] [] []⟩
 intro u hb
 subst hb
 refine q7<|q7<|q0<|mv_ ee<|mv_ ee<|v_ (.d (.bool (decide (l > u)))) ee<|q6 ?_
 refine qb ee a (fun _ a=>?_) (fun _ a=>?_)
 ·refine q7<|qg [(some [0],[0]),(some [],[]),(some [0],[0]),(some [],[]),(some [0],[]),(some [],[]),(some [],[]),(some [],[]),(some [0],[]),(some [],[]),(some [],[]),(some [],[]),(some [],[]),(some [],[]),(some [],[]),(some [],[])] (by kernel_rfl)<|mv_ ee<|mv_ ee<|mv_ ee<|mv_ ee<|mv_ ee<|mv_ ee ?_
  obtain ⟨af,cm,a⟩:=bindE a
  refine qi cm ee ee ee ee ee ee ee<|qp (.d (.agg [i_ af.at_,i_ af.list_,i_ af.by_])) cm ee ee ee ee ee ee<|mv_ ee<|mv_ ee ?_
  obtain ⟨ag,cn,a⟩:=bindE a
  refine qi cn ee ee ee ee ee ee ee<|qp (.d (.agg [i_ ag.at_,i_ ag.list_,i_ ag.by_])) cn ee ee ee ee ee ee ?_
  obtain ⟨gf,co,a⟩:=bindE a
  refine qi co ee ee ee ee ee ee ee<|q12 (ds:=[i_ af.at_,i_ af.list_,i_ af.by_]) af co ee ee ee ee ee ee ee ee (leb ee) ee ?_
  obtain ⟨gg,cp,a⟩:=bindE a
  refine qi cp (by simp) ee ee ee ee ee ee<|q12 (ds:=[i_ ag.at_,i_ ag.list_,i_ ag.by_]) ag cp ee ee ee ee ee ee ee ee (leb ee) ee<|q6<|q7<|q0<|mv_ ee<|as_ ee<|as_ ee<|q6<|qj ?_
  obtain rfl:=someE a
  exact ⟨.inr ee,_,ee,wkA [] [] []⟩
 refine qd<|q7<|qg [(some [0],[0]),(some [],[]),(some [0],[0]),(some [],[]),(some [0],[]),(some [],[]),(some [],[]),(some [],[]),(some [0],[]),(some [],[]),(some [],[]),(some [],[]),(some [],[]),(some [],[]),(some [],[]),(some [],[])] (by kernel_rfl)<|mv_ ee<|mv_ ee<|mv_ ee<|mv_ ee<|mv_ ee<|mv_ ee ?_
 obtain ⟨w,cq,a⟩:=bindE a
 refine qi cq ee ee ee ee ee ee ee<|qp (.d (.agg [i_ w.at_,i_ w.list_,i_ w.by_])) cq ee ee ee ee ee ee<|mv_ ee<|mv_ ee ?_
 obtain ⟨x,cr,a⟩:=bindE a
 refine qi cr ee ee ee ee ee ee ee<|qp (.d (.agg [i_ x.at_,i_ x.list_,i_ x.by_])) cr ee ee ee ee ee ee ?_
 obtain ⟨gh,cs,a⟩:=bindE a
 refine qi cs ee ee ee ee ee ee ee<|q12 (ds:=[i_ w.at_,i_ w.list_,i_ w.by_]) w cs ee ee ee ee ee ee ee ee (leb ee) ee ?_
 obtain ⟨gi,ct,a⟩:=bindE a
 refine qi ct (by simp) ee ee ee ee ee ee<|q12 (ds:=[i_ x.at_,i_ x.list_,i_ x.by_]) x ct ee ee ee ee ee ee ee ee (leb ee) ee<|q6<|q7<|q0<|mv_ ee<|v_ (.d (i_ (w64 (l + 1)))) ee<|as_ ee<|q6<|q7<|q0<|mv_ ee<|v_ (.d (i_ (w64 (u - 1)))) ee<|as_ ee<|q6<|q7 ?_
 obtain ⟨cu,fu,a⟩:=bindE a
 refine qk (fun ap=>ap = cu) (fun (ap : Int × List span_end)=>⟨[(0,.hs 0 3 0 ap.2.length),(1,di_ b),(13,di_ ap.1)],[(0,.dat 3 (ap.2.map qe))],1⟩) (by simp) ?_ ?_
 ·refine qn (q32 b q1) (fun (c : Int × Int × List span_end)=>⟨[(0,.hs 0 3 0 c.2.2.length),(1,di_ b),(4,.d (.fn q1F q1C)),(12,di_ c.1),(13,di_ c.2.1)],[(0,.dat 3 (c.2.2.map qe))],1⟩) (w64 (l + 1),w64 (u - 1),(((j.set b.toNat f).set k.toNat g).set l.toNat w).set u.toNat x) cu fu (wkE [] [] [] ee ⟨⟨_,ee,q10 (by simp) ee (by decide) (ltd ee)⟩,⟨_,ee,.d (.refl _)⟩,⟨_,ee,.d (.refl _)⟩,⟨_,ee,.d (.refl _)⟩,⟨_,ee,.d (.refl _)⟩,trivial⟩ ⟨⟨ltd ee,.inr ⟨by decide,_,ee,.dat _ _⟩⟩,trivial⟩) ?_
  intro c gj h
  unfold q32 at h
  refine qh<|q7 ?_
  obtain ⟨cv,fv,h⟩:=bindE h
  refine qk (fun q=>q = cv) (fun (q : Int)=>⟨[(0,.hs 0 3 0 c.2.2.length),(1,di_ b),(4,.d (.fn q1F q1C)),(12,di_ q),(13,di_ c.2.1)],[(0,.dat 3 (c.2.2.map qe))],1⟩) (by simp) ?_ ?_
  ·refine qn (q30 c b q1) (fun (ax : Int)=>⟨[(0,.hs 0 3 0 c.2.2.length),(1,di_ b),(4,.d (.fn q1F q1C)),(12,di_ ax),(13,di_ c.2.1)],[(0,.dat 3 (c.2.2.map qe))],1⟩) c.1 cv fv (wkA [] [] []) ?_
   intro ax gk y
   unfold q30 at y
   refine q7<|q7<|qg [(some [],[]),(some [],[]),(some [],[]),(some [0],[]),(some [],[]),(some [],[]),(some [],[]),(some [0],[]),(some [],[]),(some [],[]),(some [],[]),(some [],[]),(some [],[]),(some [],[]),(some [],[]),(some [],[])] (by kernel_rfl)<|mv_ ee<|mv_ ee<|v_ (.d (.bool (decide (ax≤c.2.1)))) ee ?_
   obtain ⟨fw,o,y⟩:=bindE y
   refine qo 13 (fun A st=>∃ (cw cx cy cz da dc dd de df dg dh dj : V),st = A [(120,db_ fw),(119,dj),(118,dh),(117,dg),(116,df),(115,de),(114,dd),(113,dc),(112,da),(111,cz),(110,cy),(109,cx),(108,cw)]) ?_ ?_
   ·refine qs ee ee o (fun o=>?_) (fun o=>?_)
    ·refine mv_ ee<|mv_ ee<|mv_ ee ?_
     obtain ⟨ah,dk,o⟩:=bindE o
     refine qi dk ee ee ee ee ee ee ee<|qp (.d (.agg [i_ ah.at_,i_ ah.list_,i_ ah.by_])) dk ee ee ee ee ee ee<|mv_ ee<|mv_ ee ?_
     obtain ⟨ai,dl,o⟩:=bindE o
     refine qi dl ee ee ee ee ee ee ee<|qp (.d (.agg [i_ ai.at_,i_ ai.list_,i_ ai.by_])) dl ee ee ee ee ee ee ?_
     obtain ⟨bb,fx,o⟩:=bindE o
     refine q66 [.d (.agg [i_ ah.at_,i_ ah.list_,i_ ah.by_]),.d (.agg [i_ ai.at_,i_ ai.list_,i_ ai.by_])] (q1Ok ah ai bb fx) ee ee ee (.inl ee)<|v_ (.d (.bool (decide (bb < 0)))) ee<|v_ (.d (.bool (decide (bb < 0)))) ee<|q6 ?_
     obtain rfl:=someE o
     exact ⟨_,_,_,_,_,_,_,_,_,_,_,_,ee⟩
    refine q8 ee<|q8 ee<|q8 ee<|q8 ee<|q8 ee<|q8 ee<|q8 ee<|q8 ee<|q8 ee<|q8 ee<|q8 ee<|v_ (db_ false) ee<|q6 ?_
    obtain rfl:=someE o
    exact ⟨_,_,_,_,_,_,_,_,_,_,_,_,ee⟩
   rintro _ ⟨cw,cx,cy,cz,da,dc,dd,de,df,dg,dh,dj,rfl⟩
   refine q6 ?_
   refine qb ee y (fun _ y=>?_) (fun _ y=>?_)
   ·refine qd<|qh<|q0<|mv_ ee<|v_ (.d (i_ (w64 (ax + 1)))) ee<|as_ ee<|q6<|qc<|qr<|qc ?_
    exact ⟨_,(Option.some.inj y).symm,wkA [] [] []⟩
   refine qm ?_
   refine ⟨_,(Option.some.inj y).symm,fun hm=>?_⟩
   subst hm
   exact ⟨_,ee,wkA [] [] []⟩
  intro q hb
  subst hb
  refine q7 ?_
  obtain ⟨dm,fy,h⟩:=bindE h
  refine qk (fun aq=>aq = dm) (fun (aq : Int)=>⟨[(0,.hs 0 3 0 c.2.2.length),(1,di_ b),(4,.d (.fn q1F q1C)),(12,di_ q),(13,di_ aq)],[(0,.dat 3 (c.2.2.map qe))],1⟩) (by simp) ?_ ?_
  ·refine qn (q31 q c b q1) (fun (ay : Int)=>⟨[(0,.hs 0 3 0 c.2.2.length),(1,di_ b),(4,.d (.fn q1F q1C)),(12,di_ q),(13,di_ ay)],[(0,.dat 3 (c.2.2.map qe))],1⟩) c.2.1 dm fy (wkA [] [] []) ?_
   intro ay gl z
   unfold q31 at z
   refine q7<|q7<|qg [(some [],[]),(some [],[]),(some [],[]),(some [],[]),(some [0],[]),(some [],[]),(some [],[]),(some [],[]),(some [0],[]),(some [],[]),(some [],[]),(some [],[]),(some [],[]),(some [],[]),(some [],[]),(some [],[]),(some [],[])] (by kernel_rfl)<|mv_ ee<|mv_ ee<|v_ (.d (.bool (decide (q≤ay)))) ee ?_
   obtain ⟨fz,p,z⟩:=bindE z
   refine qo 14 (fun A st=>∃ (dn dp dq dr dt du dv dw dx dy dz fa fb : V),st = A [(139,db_ fz),(138,fb),(137,fa),(136,dz),(135,dy),(134,dx),(133,dw),(132,dv),(131,du),(130,dt),(129,dr),(128,dq),(127,dp),(126,dn)]) ?_ ?_
   ·refine qs ee ee p (fun p=>?_) (fun p=>?_)
    ·refine mv_ ee<|mv_ ee<|mv_ ee ?_
     obtain ⟨aj,fc,p⟩:=bindE p
     refine qi fc ee ee ee ee ee ee ee<|qp (.d (.agg [i_ aj.at_,i_ aj.list_,i_ aj.by_])) fc ee ee ee ee ee ee<|mv_ ee<|mv_ ee ?_
     obtain ⟨ak,fd,p⟩:=bindE p
     refine qi fd ee ee ee ee ee ee ee<|qp (.d (.agg [i_ ak.at_,i_ ak.list_,i_ ak.by_])) fd ee ee ee ee ee ee ?_
     obtain ⟨az,ga,p⟩:=bindE p
     refine q66 [.d (.agg [i_ aj.at_,i_ aj.list_,i_ aj.by_]),.d (.agg [i_ ak.at_,i_ ak.list_,i_ ak.by_])] (q1Ok aj ak az ga) ee ee ee (.inl ee)<|v_ (.d (.bool (decide (az < 0)))) ee<|v_ (.d (.bool (!(decide (az < 0))))) ee<|v_ (.d (.bool (!(decide (az < 0))))) ee<|q6 ?_
     obtain rfl:=someE p
     exact ⟨_,_,_,_,_,_,_,_,_,_,_,_,_,ee⟩
    refine q8 ee<|q8 ee<|q8 ee<|q8 ee<|q8 ee<|q8 ee<|q8 ee<|q8 ee<|q8 ee<|q8 ee<|q8 ee<|q8 ee<|v_ (db_ false) ee<|q6 ?_
    obtain rfl:=someE p
    exact ⟨_,_,_,_,_,_,_,_,_,_,_,_,_,ee⟩
   rintro _ ⟨dn,dp,dq,dr,dt,du,dv,dw,dx,dy,dz,fa,fb,rfl⟩
   refine q6 ?_
   refine qb ee z (fun _ z=>?_) (fun _ z=>?_)
   ·refine qd<|qh<|q0<|mv_ ee<|v_ (.d (i_ (w64 (ay - 1)))) ee<|as_ ee<|q6<|qc<|qr<|qc ?_
    exact ⟨_,(Option.some.inj z).symm,wkA [] [] []⟩
   refine qm ?_
   refine ⟨_,(Option.some.inj z).symm,fun hm=>?_⟩
   subst hm
   exact ⟨_,ee,wkA [] [] []⟩
  intro aq hb
  subst hb
  refine q7<|q7<|q0<|mv_ ee<|mv_ ee<|v_ (.d (.bool (decide (q > aq)))) ee<|q6 ?_
  refine qb ee h (fun _ h=>?_) (fun _ h=>?_)
  ·refine qm ?_
   refine ⟨_,(Option.some.inj h).symm,fun hm=>?_⟩
   subst hm
   exact ⟨_,ee,wkA [] [] []⟩
  refine qd<|q7<|qg [(some [0],[0]),(some [],[]),(some [0],[0]),(some [],[]),(some [0],[]),(some [],[]),(some [],[]),(some [],[]),(some [0],[]),(some [],[]),(some [],[]),(some [],[]),(some [],[]),(some [],[]),(some [],[]),(some [],[])] (by kernel_rfl)<|mv_ ee<|mv_ ee<|mv_ ee<|mv_ ee<|mv_ ee<|mv_ ee ?_
  obtain ⟨al,fe,h⟩:=bindE h
  refine qi fe ee ee ee ee ee ee ee<|qp (.d (.agg [i_ al.at_,i_ al.list_,i_ al.by_])) fe ee ee ee ee ee ee<|mv_ ee<|mv_ ee ?_
  obtain ⟨am,ff,h⟩:=bindE h
  refine qi ff ee ee ee ee ee ee ee<|qp (.d (.agg [i_ am.at_,i_ am.list_,i_ am.by_])) ff ee ee ee ee ee ee ?_
  obtain ⟨gm,fg,h⟩:=bindE h
  refine qi fg ee ee ee ee ee ee ee<|q12 (ds:=[i_ al.at_,i_ al.list_,i_ al.by_]) al fg ee ee ee ee ee ee ee ee (leb ee) ee ?_
  obtain ⟨gn,fh,h⟩:=bindE h
  refine qi fh (by simp) ee ee ee ee ee ee<|q12 (ds:=[i_ am.at_,i_ am.list_,i_ am.by_]) am fh ee ee ee ee ee ee ee ee (leb ee) ee<|q6<|q7<|q0<|mv_ ee<|v_ (.d (i_ (w64 (q + 1)))) ee<|as_ ee<|q6<|q0<|mv_ ee<|v_ (.d (i_ (w64 (aq - 1)))) ee<|as_ ee<|q6<|qc<|qr<|qc ?_
  exact ⟨_,(Option.some.inj h).symm,wkE [] [] [] ee ⟨⟨_,ee,q10 (by simp) ee (by decide) (ltd ee)⟩,⟨_,ee,.d (.refl _)⟩,⟨_,ee,.d (.refl _)⟩,⟨_,ee,.d (.refl _)⟩,⟨_,ee,.d (.refl _)⟩,trivial⟩ ⟨⟨ltd ee,.inr ⟨by decide,_,ee,.dat _ _⟩⟩,trivial⟩⟩
 intro ap hb
 subst hb
 refine q7<|qg [(some [0],[0]),(some [],[]),(some [0],[0]),(some [],[]),(some [0],[]),(some [],[]),(some [],[]),(some [],[]),(some [0],[]),(some [],[]),(some [],[]),(some [],[]),(some [],[]),(some [],[]),(some [],[]),(some [],[])] (by kernel_rfl)<|mv_ ee<|mv_ ee<|mv_ ee<|mv_ ee<|mv_ ee<|mv_ ee ?_
 obtain ⟨an,fi,a⟩:=bindE a
 refine qi fi ee ee ee ee ee ee ee<|qp (.d (.agg [i_ an.at_,i_ an.list_,i_ an.by_])) fi ee ee ee ee ee ee<|mv_ ee<|mv_ ee ?_
 obtain ⟨ao,fj,a⟩:=bindE a
 refine qi fj ee ee ee ee ee ee ee<|qp (.d (.agg [i_ ao.at_,i_ ao.list_,i_ ao.by_])) fj ee ee ee ee ee ee ?_
 obtain ⟨go,fk,a⟩:=bindE a
 refine qi fk ee ee ee ee ee ee ee<|q12 (ds:=[i_ an.at_,i_ an.list_,i_ an.by_]) an fk ee ee ee ee ee ee ee ee (leb ee) ee ?_
 obtain ⟨gp,fl,a⟩:=bindE a
 refine qi fl (by simp) ee ee ee ee ee ee<|q12 (ds:=[i_ ao.at_,i_ ao.list_,i_ ao.by_]) ao fl ee ee ee ee ee ee ee ee (leb ee) ee<|q6<|q7<|q0<|mv_ ee<|as_ ee<|as_ ee<|q6<|qj ?_
 obtain rfl:=someE a
 exact ⟨.inr ee,_,ee,wkA [] [] []⟩
theorem q73 (s : span_end→span_end→Option Int) (q1F : FuncId) (q1C : List DV) (_q1Ok : ∀ (o : span_end) (p : span_end) (r : Int),s o p = some r→Pure Tryz.prog tab q1F ([.agg [i_ o.at_,i_ o.list_,i_ o.by_],.agg [i_ p.at_,i_ p.list_,i_ p.by_]] ++ q1C) (i_ r)) (q : List span_end) (a : Int) (b : Int) (r : List span_end) (g : q2l s q a b = some r) : EvCall Tryz.prog tab 172 [.hs 0 3 0 q.length,di_ a,di_ b,.d (.fn q1F q1C)] [(0,.dat 3 (q.map qe))] 1 (.d (.tup [])) [(0,.dat 3 (r.map qe))] 1:=by
 unfold q2l at g
 refine q14 Tryz.func172 ee (by kernel_rfl) (by kernel_rfl) ee<|q7<|q0<|mv_ ee<|mv_ ee<|v_ (.d (i_ (w64 (b - a)))) ee<|as_ ee<|q6<|q7<|q0<|mv_ ee<|v_ (.d (.bool (decide ((w64 (b - a)) ≥ 8)))) ee<|q6 ?_
 refine qb ee g (fun _ g=>?_) (fun _ g=>?_)
 ·refine q7<|q0<|mv_ ee<|v_ (.d (.int .u64 (IntKind.wrap .u64 (w64 (b - a))))) ee<|q2d ee ee<|q3r 1 (.dat 1 [[.int .u64 (IntKind.wrap .u64 (w64 (b - a)))]]) ee<|q6<|q7<|q0<|mv_ ee ?_
  obtain ⟨h,x,g⟩:=bindE g
  refine qu [.d (i_ (w64 (b - a)))] (q8r (w64 (b - a)) h x) ee ee ee (.inl ee)<|as_ ee<|q6<|q7<|q0<|mv_ ee<|mv_ ee<|v_ (.d (i_ (w64 (Int.tdiv (w64 (b - a)) 4)))) ee<|v_ (.d (i_ (w64 ((w64 (Int.tdiv (w64 (b - a)) 4)) * 2)))) ee<|v_ (.d (i_ (w64 (a + (w64 ((w64 (Int.tdiv (w64 (b - a)) 4)) * 2)))))) ee<|v_ (.d (i_ (w64 ((w64 (a + (w64 ((w64 (Int.tdiv (w64 (b - a)) 4)) * 2)))) - 1)))) ee<|as_ ee<|q6 ?_
  obtain ⟨y,z,g⟩:=bindE g
  refine qh<|qn (q24 a b h) (fun (f : Int × List span_end × Int)=>⟨[(0,.hs 0 3 0 f.2.1.length),(1,di_ a),(8,.d (i_ (w64 (b - a)))),(9,.ref 1 1 0 0),(10,.d (.int .u64 h)),(11,di_ f.1)],[(0,.dat 3 (f.2.1.map qe)),(1,.dat 1 [[.int .u64 f.2.2]])],2⟩) (w64 ((w64 (a + (w64 ((w64 (Int.tdiv (w64 (b - a)) 4)) * 2)))) - 1),q,IntKind.wrap .u64 (w64 (b - a))) y z (wkA [(1,1)] [] []) ?_
  intro f ac c
  unfold q24 at c
  refine q7<|q7<|q0<|mv_ ee<|mv_ ee<|mv_ ee<|v_ (.d (i_ (w64 (Int.tdiv (w64 (b - a)) 4)))) ee<|v_ (.d (i_ (w64 ((w64 (Int.tdiv (w64 (b - a)) 4)) * 2)))) ee<|v_ (.d (i_ (w64 (a + (w64 ((w64 (Int.tdiv (w64 (b - a)) 4)) * 2)))))) ee<|v_ (.d (i_ (w64 ((w64 (a + (w64 ((w64 (Int.tdiv (w64 (b - a)) 4)) * 2)))) + 1)))) ee<|v_ (.d (.bool (decide (f.1≤(w64 ((w64 (a + (w64 ((w64 (Int.tdiv (w64 (b - a)) 4)) * 2)))) + 1)))))) ee<|q6 ?_
  refine qb ee c (fun _ c=>?_) (fun _ c=>?_)
  ·refine qd<|q7<|qh<|q7<|q0 ?_
   obtain ⟨j,aa,c⟩:=bindE c
   refine callG [(0,1)] [(0,1),(1,0)] [.ref 1 1 0 0] (.d (.int .u64 j)) 1 [(1,.dat 1 [[.int .u64 j]]),(0,.dat 3 (f.2.1.map qe))] 2 (q7b f.2.2 j aa)<|mv_ ee<|v_ (.d (.int .u64 (IntKind.wrap .u64 (h - 1)))) ee<|v_ (.d (.int .u64 (andI .u64 j (IntKind.wrap .u64 (h - 1))))) ee<|v_ (.d (i_ (w64 (andI .u64 j (IntKind.wrap .u64 (h - 1)))))) ee<|as_ ee<|q6<|q7<|q7<|q0<|mv_ ee<|mv_ ee<|v_ (.d (.bool (decide ((w64 (andI .u64 j (IntKind.wrap .u64 (h - 1)))) ≥ (w64 (b - a)))))) ee<|q6 ?_
   obtain ⟨ab,n,c⟩:=bindE c
   refine q57 (fun m=>m = ab) (fun (m : Int)=>⟨[(0,.hs 0 3 0 f.2.1.length),(1,di_ a),(8,.d (i_ (w64 (b - a)))),(9,.ref 1 1 0 0),(10,.d (.int .u64 h)),(11,di_ f.1),(12,di_ m)],[(0,.dat 3 (f.2.1.map qe)),(1,.dat 1 [[.int .u64 j]])],2⟩) (by simp) ?_ ?_
   ·refine qb ee n (fun _ n=>?_) (fun _ n=>?_)
    ·refine q0<|mv_ ee<|mv_ ee<|v_ (.d (i_ (w64 ((w64 (andI .u64 j (IntKind.wrap .u64 (h - 1)))) - (w64 (b - a)))))) ee<|as_ ee<|q6<|qc ?_
     obtain rfl:=someE n
     exact ⟨_,ee,wkA [(1,1)] [] []⟩
    refine qd<|qc ?_
    obtain rfl:=someE n
    exact ⟨_,ee,wkA [(1,1)] [] []⟩
   intro m hb
   subst hb
   refine qg [(some [0],[0]),(some [],[]),(some [0],[0]),(some [],[]),(some [0],[]),(some [],[]),(some [],[]),(some [],[]),(some [0],[]),(some [],[]),(some [],[]),(some [],[]),(some [],[]),(some [],[]),(some [],[]),(some [],[]),(some [],[]),(some [],[]),(some [],[]),(some [],[])] (by kernel_rfl)<|mv_ ee<|mv_ ee<|mv_ ee<|mv_ ee<|mv_ ee<|v_ (.d (i_ (w64 (a + m)))) ee<|mv_ ee<|mv_ ee<|mv_ ee<|v_ (.d (i_ (w64 (a + m)))) ee ?_
   obtain ⟨k,t,c⟩:=bindE c
   refine qi t ee ee ee ee ee ee ee<|qp (.d (.agg [i_ k.at_,i_ k.list_,i_ k.by_])) t ee ee ee ee ee ee<|mv_ ee<|mv_ ee ?_
   obtain ⟨l,u,c⟩:=bindE c
   refine qi u ee ee ee ee ee ee ee<|qp (.d (.agg [i_ l.at_,i_ l.list_,i_ l.by_])) u ee ee ee ee ee ee ?_
   obtain ⟨ad,v,c⟩:=bindE c
   refine qi v ee ee ee ee ee ee ee<|q12 (ds:=[i_ k.at_,i_ k.list_,i_ k.by_]) k v ee ee ee ee ee ee ee ee (leb ee) ee ?_
   obtain ⟨ae,w,c⟩:=bindE c
   refine qi w (by simp) ee ee ee ee ee ee<|q12 (ds:=[i_ l.at_,i_ l.list_,i_ l.by_]) l w ee ee ee ee ee ee ee ee (leb ee) ee<|q6<|qc<|qr<|q0<|mv_ ee<|v_ (.d (i_ (w64 (f.1 + 1)))) ee<|as_ ee<|q6<|qc ?_
   exact ⟨_,(Option.some.inj c).symm,wkE [(1,1)] [] [] ee ⟨⟨_,ee,q10 (by simp) ee (by decide) (ltd ee)⟩,⟨_,ee,.d (.refl _)⟩,⟨_,ee,.d (.refl _)⟩,⟨_,ee,.ref ee (by decide) (ltd ee)⟩,⟨_,ee,.d (.refl _)⟩,⟨_,ee,.d (.refl _)⟩,trivial⟩ ⟨⟨ltd ee,.inr ⟨by decide,_,ee,.dat _ _⟩⟩,⟨ltd ee,.inr ⟨by decide,_,ee,.dat _ _⟩⟩,trivial⟩⟩
  refine qm ?_
  refine ⟨_,(Option.some.inj c).symm,fun hm=>?_⟩
  subst hm
  obtain rfl:=someE g
  exact ⟨.inl ee,_,ee,wkA [] [] []⟩
 refine qd<|qc ?_
 obtain rfl:=someE g
 exact ⟨.inl ee,_,ee,wkA [] [] []⟩
theorem q7r (rec : List span_end→Int→Int→Int→Option (List span_end)) (j : span_end→span_end→Option Int) (q1F : FuncId) (q1C : List DV) (q1Ok : ∀ (z : span_end) (x1 : span_end) (r : Int),j z x1 = some r→Pure Tryz.prog tab q1F ([.agg [i_ z.at_,i_ z.list_,i_ z.by_],.agg [i_ x1.at_,i_ x1.list_,i_ x1.by_]] ++ q1C) (i_ r)) (hrec : ∀ (o : List span_end) (s : Int) (t : Int) (u : Int) (r : List span_end),rec o s t u = some r→EvCall Tryz.prog tab 168 [.hs 0 3 0 o.length,di_ s,di_ t,di_ u,.d (.fn q1F q1C)] [(0,.dat 3 (o.map qe))] 1 (.d (.tup [])) [(0,.dat 3 (r.map qe))] 1) (o : List span_end) (s : Int) (t : Int) (u : Int) (r : List span_end) (v : q2a rec j o s t u = some r) : EvCall Tryz.prog tab 168 [.hs 0 3 0 o.length,di_ s,di_ t,di_ u,.d (.fn q1F q1C)] [(0,.dat 3 (o.map qe))] 1 (.d (.tup [])) [(0,.dat 3 (r.map qe))] 1:=by
 unfold q2a at v
 refine q14 Tryz.func168 ee (by kernel_rfl) (by kernel_rfl) ee<|q7<|q0<|as_ ee<|q6<|q7<|q0<|as_ ee<|q6 ?_
 obtain ⟨bh,bi,v⟩:=bindE v
 refine qh<|qn (q25 j rec) (fun (a : Int × Int × Int × Bool × Bool × List span_end)=>⟨[(0,.hs 0 3 0 a.2.2.2.2.2.length),(1,di_ a.1),(2,di_ a.2.1),(3,di_ a.2.2.1),(4,.d (.fn q1F q1C)),(10,db_ a.2.2.2.1),(11,db_ a.2.2.2.2.1)],[(0,.dat 3 (a.2.2.2.2.2.map qe))],1⟩) (s,t,u,true,true,o) bh bi (wkA [] [] []) ?_
 intro a cq b
 unfold q25 at b
 refine qh<|q7<|q0<|mv_ ee<|mv_ ee<|v_ (.d (i_ (w64 (a.2.1 - a.1)))) ee<|as_ ee<|q6<|q7<|q7<|q0<|mv_ ee<|v_ (.d (.bool (decide ((w64 (a.2.1 - a.1))≤12)))) ee<|q6 ?_
 refine qb ee b (fun _ b=>?_) (fun _ b=>?_)
 ·refine q7<|q0<|mv_ ee<|mv_ ee<|mv_ ee<|mv_ ee ?_
  obtain ⟨ah,bj,b⟩:=bindE b
  obtain ⟨cr,bk,b⟩:=bindE b
  have cs:=q1a bk
  refine callG [(0,0)] [(0,0)] [.hs 0 3 0 a.2.2.2.2.2.length,di_ a.1,di_ a.2.1,.d (.fn q1F q1C)] (.d (.tup [])) 1 [(0,.dat 3 (ah.map qe))] 1 (q72 j q1F q1C q1Ok a.2.2.2.2.2 a.1 a.2.1 ah bj)<|q6<|qj ?_
  refine ⟨_,(Option.some.inj b).symm,fun hm=>?_⟩
  subst hm
  obtain rfl:=someE v
  exact ⟨.inr ee,_,ee,wkA [] [] []⟩
 refine qd<|q7<|q7<|q0<|mv_ ee<|v_ (db_ (a.2.2.1 == 0)) ee<|q6 ?_
 refine qb ee b (fun _ b=>?_) (fun _ b=>?_)
 ·refine q7<|q0<|mv_ ee<|mv_ ee<|mv_ ee<|mv_ ee ?_
  obtain ⟨ai,bl,b⟩:=bindE b
  obtain ⟨ct,bm,b⟩:=bindE b
  have cu:=q1a bm
  refine callG [(0,0)] [(0,0)] [.hs 0 3 0 a.2.2.2.2.2.length,di_ a.1,di_ a.2.1,.d (.fn q1F q1C)] (.d (.tup [])) 1 [(0,.dat 3 (ai.map qe))] 1 (q82 j q1F q1C q1Ok a.2.2.2.2.2 a.1 a.2.1 ai bl)<|q6<|qj ?_
  refine ⟨_,(Option.some.inj b).symm,fun hm=>?_⟩
  subst hm
  obtain rfl:=someE v
  exact ⟨.inr ee,_,ee,wkA [] [] []⟩
 refine qd<|q7<|q7<|q0<|mv_ ee<|v_ (db_ (!a.2.2.2.1)) ee<|q6 ?_
 obtain ⟨bn,m,b⟩:=bindE b
 refine q57 (fun f=>f = bn) (fun (f : Int × List span_end)=>⟨[(0,.hs 0 3 0 f.2.length),(1,di_ a.1),(2,di_ a.2.1),(3,di_ f.1),(4,.d (.fn q1F q1C)),(10,db_ a.2.2.2.1),(11,db_ a.2.2.2.2.1),(12,.d (i_ (w64 (a.2.1 - a.1))))],[(0,.dat 3 (f.2.map qe))],1⟩) (by simp) ?_ ?_
 ·refine qb ee m (fun _ m=>?_) (fun _ m=>?_)
  ·refine q7<|q0<|mv_ ee<|mv_ ee<|mv_ ee<|mv_ ee ?_
   obtain ⟨aj,bo,m⟩:=bindE m
   obtain ⟨cv,bp,m⟩:=bindE m
   have bq:=q1a bp
   refine callG [(0,0)] [(0,0)] [.hs 0 3 0 a.2.2.2.2.2.length,di_ a.1,di_ a.2.1,.d (.fn q1F q1C)] (.d (.tup [])) 1 [(0,.dat 3 (aj.map qe))] 1 (q73 j q1F q1C q1Ok a.2.2.2.2.2 a.1 a.2.1 aj bo)<|q6<|q0<|mv_ ee<|v_ (.d (i_ (w64 (a.2.2.1 - 1)))) ee<|as_ ee<|q6<|qc ?_
   obtain rfl:=someE m
   exact ⟨_,ee,wkE [] [] [] ee ⟨⟨_,ee,q10 (by simp [bq]) ee (by decide) (ltd ee)⟩,⟨_,ee,.d (.refl _)⟩,⟨_,ee,.d (.refl _)⟩,⟨_,ee,.d (.refl _)⟩,⟨_,ee,.d (.refl _)⟩,⟨_,ee,.d (.refl _)⟩,⟨_,ee,.d (.refl _)⟩,⟨_,ee,.d (.refl _)⟩,trivial⟩ ⟨⟨ltd ee,.inr ⟨by decide,_,ee,.dat _ _⟩⟩,trivial⟩⟩
  refine qd<|qc ?_
  obtain rfl:=someE m
  exact ⟨_,ee,wkA [] [] []⟩
 intro f hb
 subst hb
 refine q7<|q0<|mv_ ee<|mv_ ee<|mv_ ee<|mv_ ee ?_
 obtain ⟨w,br,b⟩:=bindE b
 refine qu [.hs 0 3 0 f.2.length,di_ a.1,di_ a.2.1,.d (.fn q1F q1C)] (q89 f.2 a.1 a.2.1 j q1F q1C q1Ok w br) ee ee (q8v (qa1 ee ee) (q8v ee (q8v ee (q8v ee ee)))) (.inr ee)<|mv_ ee<|v_ (di_ w.1) ee<|v_ (di_ w.2) ee<|as_ ee<|as_ ee<|q6<|q7<|q7<|q0<|mv_ ee<|v_ (db_ (w.2 == 2)) ee<|q6 ?_
 obtain ⟨bs,n,b⟩:=bindE b
 refine q57 (fun g=>g = bs) (fun (g : Int × Int × List span_end)=>⟨[(0,.hs 0 3 0 g.2.2.length),(1,di_ a.1),(2,di_ a.2.1),(3,di_ f.1),(4,.d (.fn q1F q1C)),(10,db_ a.2.2.2.1),(11,db_ a.2.2.2.2.1),(12,.d (i_ (w64 (a.2.1 - a.1)))),(13,di_ g.1),(14,di_ g.2.1)],[(0,.dat 3 (g.2.2.map qe))],1⟩) (by simp) ?_ ?_
 ·refine qb ee n (fun _ n=>?_) (fun _ n=>?_)
  ·refine q7<|q0<|mv_ ee<|mv_ ee<|mv_ ee<|mv_ ee ?_
   obtain ⟨ak,bt,n⟩:=bindE n
   obtain ⟨cw,bu,n⟩:=bindE n
   have bv:=q1a bu
   refine callG [(0,0)] [(0,0)] [.hs 0 3 0 f.2.length,di_ a.1,di_ a.2.1,.d (.fn q1F q1C)] (.d (.tup [])) 1 [(0,.dat 3 (ak.map qe))] 1 (q79 j q1F q1C q1Ok f.2 a.1 a.2.1 ak bt)<|q6<|q7<|q0<|mv_ ee<|v_ (.d (i_ (w64 (a.2.1 - 1)))) ee<|mv_ ee<|mv_ ee<|v_ (.d (i_ (w64 (w.1 - a.1)))) ee<|v_ (.d (i_ (w64 ((w64 (a.2.1 - 1)) - (w64 (w.1 - a.1)))))) ee<|as_ ee<|q6<|q0<|as_ ee<|q6<|qc ?_
   obtain rfl:=someE n
   exact ⟨_,ee,wkE [] [] [] ee ⟨⟨_,ee,q10 (by simp [bv]) ee (by decide) (ltd ee)⟩,⟨_,ee,.d (.refl _)⟩,⟨_,ee,.d (.refl _)⟩,⟨_,ee,.d (.refl _)⟩,⟨_,ee,.d (.refl _)⟩,⟨_,ee,.d (.refl _)⟩,⟨_,ee,.d (.refl _)⟩,⟨_,ee,.d (.refl _)⟩,⟨_,ee,.d (.refl _)⟩,⟨_,ee,.d (.refl _)⟩,trivial⟩ ⟨⟨ltd ee,.inr ⟨by decide,_,ee,.dat _ _⟩⟩,trivial⟩⟩
  refine qd<|qc ?_
  obtain rfl:=someE n
  exact ⟨_,ee,wkA [] [] []⟩
 intro g hb
 subst hb
 refine q7<|q7<|q0<|mv_ ee ?_
 obtain ⟨bw,x,b⟩:=bindE b
 refine qo 3 (fun A st=>∃ (al am : V),st = A [(71,db_ bw),(70,am),(69,al)]) ?_ ?_
 ·refine qs ee ee x (fun x=>?_) (fun x=>?_)
  ·refine mv_ ee<|v_ (db_ a.2.2.2.2.1) ee<|q6 ?_
   obtain rfl:=someE x
   exact ⟨_,_,ee⟩
  refine q8 ee<|v_ (db_ false) ee<|q6 ?_
  obtain rfl:=someE x
  exact ⟨_,_,ee⟩
 rintro _ ⟨al,am,rfl⟩
 obtain ⟨bx,y,b⟩:=bindE b
 refine qo 4 (fun A st=>∃ (an ao ap : V),st = A [(75,db_ bx),(74,ap),(73,ao),(72,an)]) ?_ ?_
 ·refine qs ee ee y (fun y=>?_) (fun y=>?_)
  ·refine mv_ ee<|v_ (db_ (g.2.1 == 1)) ee<|v_ (db_ (g.2.1 == 1)) ee<|q6 ?_
   obtain rfl:=someE y
   exact ⟨_,_,_,ee⟩
  refine q8 ee<|q8 ee<|v_ (db_ false) ee<|q6 ?_
  obtain rfl:=someE y
  exact ⟨_,_,_,ee⟩
 rintro _ ⟨an,ao,ap,rfl⟩
 refine q6 ?_
 obtain ⟨bz,h,b⟩:=bindE b
 refine q57 (fun k=>.inl k = bz) (fun (k : List span_end)=>⟨[(0,.hs 0 3 0 k.length),(1,di_ a.1),(2,di_ a.2.1),(3,di_ f.1),(4,.d (.fn q1F q1C)),(10,db_ a.2.2.2.1),(11,db_ a.2.2.2.2.1),(12,.d (i_ (w64 (a.2.1 - a.1)))),(13,di_ g.1)],[(0,.dat 3 (k.map qe))],1⟩) (by simp) ?_ ?_
 ·refine qb ee h (fun _ h=>?_) (fun _ h=>?_)
  ·refine q7<|q0<|mv_ ee<|mv_ ee<|mv_ ee<|mv_ ee ?_
   obtain ⟨ad,ca,h⟩:=bindE h
   obtain ⟨cx,cb,h⟩:=bindE h
   have cc:=q1a cb
   refine callG [(0,0)] [(0,0)] [.hs 0 3 0 g.2.2.length,di_ a.1,di_ a.2.1,.d (.fn q1F q1C)] (db_ ad.1) 1 [(0,.dat 3 (ad.2.map qe))] 1 (q67 j q1F q1C q1Ok g.2.2 a.1 a.2.1 ad ca)<|q6 ?_
   refine qb ee h (fun _ h=>?_) (fun _ h=>?_)
   ·refine qj ?_
    obtain rfl:=someE h
    refine ⟨_,(Option.some.inj b).symm,fun hm=>?_⟩
    subst hm
    obtain rfl:=someE v
    exact ⟨.inr ee,_,ee,wkA [] [] []⟩
   refine qd<|qc ?_
   obtain rfl:=someE h
   exact ⟨_,ee,wkE [] [] [] ee ⟨⟨_,ee,q10 (by simp [cc]) ee (by decide) (ltd ee)⟩,⟨_,ee,.d (.refl _)⟩,⟨_,ee,.d (.refl _)⟩,⟨_,ee,.d (.refl _)⟩,⟨_,ee,.d (.refl _)⟩,⟨_,ee,.d (.refl _)⟩,⟨_,ee,.d (.refl _)⟩,⟨_,ee,.d (.refl _)⟩,⟨_,ee,.d (.refl _)⟩,trivial⟩ ⟨⟨ltd ee,.inr ⟨by decide,_,ee,.dat _ _⟩⟩,trivial⟩⟩
  refine qd<|qc ?_
  obtain rfl:=someE h
  exact ⟨_,ee,wkA [] [] []⟩
 intro k hb
 subst hb
 refine q7<|q7<|qg [(some [],[]),(some [],[]),(some [],[]),(some [],[]),(some [0],[]),(some [],[]),(some [],[]),(some [],[]),(some [0],[]),(some [],[]),(some [],[]),(some [],[]),(some [],[]),(some [],[]),(some [],[]),(some [],[]),(some [],[])] (by kernel_rfl)<|mv_ ee<|v_ (.d (.bool (decide (a.1 > 0)))) ee ?_
 obtain ⟨cd,l,b⟩:=bindE b
 refine qo 15 (fun A st=>∃ (aq ar as au av aw ax ay az ba bb bc bd be : V),st = A [(97,db_ cd),(96,be),(95,bd),(94,bc),(93,bb),(92,ba),(91,az),(90,ay),(89,ax),(88,aw),(87,av),(86,au),(85,as),(84,ar),(83,aq)]) ?_ ?_
 ·refine qs ee ee l (fun l=>?_) (fun l=>?_)
  ·refine mv_ ee<|mv_ ee<|mv_ ee<|v_ (.d (i_ (w64 (a.1 - 1)))) ee ?_
   obtain ⟨p,bf,l⟩:=bindE l
   refine qi bf ee ee ee ee ee ee ee<|qp (.d (.agg [i_ p.at_,i_ p.list_,i_ p.by_])) bf ee ee ee ee ee ee<|mv_ ee<|mv_ ee ?_
   obtain ⟨q,bg,l⟩:=bindE l
   refine qi bg ee ee ee ee ee ee ee<|qp (.d (.agg [i_ q.at_,i_ q.list_,i_ q.by_])) bg ee ee ee ee ee ee ?_
   obtain ⟨ab,ce,l⟩:=bindE l
   refine q66 [.d (.agg [i_ p.at_,i_ p.list_,i_ p.by_]),.d (.agg [i_ q.at_,i_ q.list_,i_ q.by_])] (q1Ok p q ab ce) ee ee ee (.inl ee)<|v_ (.d (.bool (decide (ab < 0)))) ee<|v_ (.d (.bool (!(decide (ab < 0))))) ee<|v_ (.d (.bool (!(decide (ab < 0))))) ee<|q6 ?_
   obtain rfl:=someE l
   exact ⟨_,_,_,_,_,_,_,_,_,_,_,_,_,_,ee⟩
  refine q8 ee<|q8 ee<|q8 ee<|q8 ee<|q8 ee<|q8 ee<|q8 ee<|q8 ee<|q8 ee<|q8 ee<|q8 ee<|q8 ee<|q8 ee<|v_ (db_ false) ee<|q6 ?_
  obtain rfl:=someE l
  exact ⟨_,_,_,_,_,_,_,_,_,_,_,_,_,_,ee⟩
 rintro _ ⟨aq,ar,as,au,av,aw,ax,ay,az,ba,bb,bc,bd,be,rfl⟩
 refine q6 ?_
 refine qb ee b (fun _ b=>?_) (fun _ b=>?_)
 ·refine q7<|q0<|mv_ ee<|mv_ ee<|mv_ ee<|mv_ ee<|mv_ ee ?_
  obtain ⟨ae,cf,b⟩:=bindE b
  obtain ⟨cy,cg,b⟩:=bindE b
  have ch:=q1a cg
  refine callG [(0,0)] [(0,0)] [.hs 0 3 0 k.length,di_ a.1,di_ a.2.1,di_ g.1,.d (.fn q1F q1C)] (di_ ae.1) 1 [(0,.dat 3 (ae.2.map qe))] 1 (q70 j q1F q1C q1Ok k a.1 a.2.1 g.1 ae cf)<|as_ ee<|q6<|q7<|q0<|mv_ ee<|as_ ee<|q6<|qm<|qbs<|qc ?_
  exact ⟨_,(Option.some.inj b).symm,wkE [] [] [] ee ⟨⟨_,ee,q10 (by simp [ch]) ee (by decide) (ltd ee)⟩,⟨_,ee,.d (.refl _)⟩,⟨_,ee,.d (.refl _)⟩,⟨_,ee,.d (.refl _)⟩,⟨_,ee,.d (.refl _)⟩,⟨_,ee,.d (.refl _)⟩,⟨_,ee,.d (.refl _)⟩,trivial⟩ ⟨⟨ltd ee,.inr ⟨by decide,_,ee,.dat _ _⟩⟩,trivial⟩⟩
 refine qd<|q7<|q0<|mv_ ee<|mv_ ee<|mv_ ee<|mv_ ee<|mv_ ee ?_
 obtain ⟨c,ci,b⟩:=bindE b
 obtain ⟨cz,cj,b⟩:=bindE b
 have ac:=q1a cj
 refine callG [(0,0)] [(0,0)] [.hs 0 3 0 k.length,di_ a.1,di_ a.2.1,di_ g.1,.d (.fn q1F q1C)] (.d (.tup [i_ c.1,.bool c.2.1])) 1 [(0,.dat 3 (c.2.2.map qe))] 1 (q7q j q1F q1C q1Ok k a.1 a.2.1 g.1 c ci)<|mv_ ee<|v_ (di_ c.1) ee<|v_ (db_ c.2.1) ee<|as_ ee<|as_ ee<|q6<|q7<|q0<|mv_ ee<|as_ ee<|q6<|q7<|q0<|mv_ ee<|mv_ ee<|v_ (.d (i_ (w64 (c.1 - a.1)))) ee<|mv_ ee<|mv_ ee<|v_ (.d (i_ (w64 (a.2.1 - c.1)))) ee<|as_ ee<|as_ ee<|q6<|q7<|q0<|mv_ ee<|v_ (.d (i_ (w64 (Int.tdiv (w64 (a.2.1 - a.1)) 8)))) ee<|as_ ee<|q6<|q7<|q0<|mv_ ee<|mv_ ee<|v_ (.d (.bool (decide ((w64 (c.1 - a.1)) < (w64 (a.2.1 - c.1)))))) ee<|q6 ?_
 refine qb ee b (fun _ b=>?_) (fun _ b=>?_)
 ·refine q7<|q0<|mv_ ee<|mv_ ee<|v_ (.d (.bool (decide ((w64 (c.1 - a.1)) ≥ (w64 (Int.tdiv (w64 (a.2.1 - a.1)) 8)))))) ee<|as_ ee<|q6<|q7<|q0<|mv_ ee<|mv_ ee<|mv_ ee<|mv_ ee<|mv_ ee ?_
  obtain ⟨af,ck,b⟩:=bindE b
  obtain ⟨da,cl,b⟩:=bindE b
  have cm:=q1a cl
  refine q6w [(0,0)] [(0,0)] [.hs 0 3 0 k.length,di_ a.1,di_ c.1,di_ f.1,.d (.fn q1F q1C)] (.d (.tup [])) [(0,.dat 3 (af.map qe))] [(0,.dat 3 (af.map qe))] 1 (hrec c.2.2 a.1 c.1 f.1 af ck) ee ee ee (q5q [(0,0)] [] [] ee ⟨⟨_,ee,q10 (by simp [ac]) ee (by decide) (ltd ee)⟩,⟨_,ee,.d (.refl _)⟩,⟨_,ee,.d (.refl _)⟩,⟨_,ee,.d (.refl _)⟩,⟨_,ee,.d (.refl _)⟩,trivial⟩ ⟨⟨ltd ee,.inr ⟨by decide,_,ee,.dat _ _⟩⟩,trivial⟩) (q5q [(0,0)] [] [] ee ⟨⟨_,ee,.d (.refl _)⟩,trivial⟩ ⟨⟨ltd ee,.inr ⟨by decide,_,ee,.dat _ _⟩⟩,trivial⟩) ee ⟨.inl ee,trivial⟩<|q6<|q0<|mv_ ee<|v_ (.d (i_ (w64 (c.1 + 1)))) ee<|as_ ee<|q6<|qc<|qr<|qc ?_
  exact ⟨_,(Option.some.inj b).symm,wkE [] [] [] ee ⟨⟨_,ee,q10 (by simp [ac,cm]) ee (by decide) (ltd ee)⟩,⟨_,ee,.d (.refl _)⟩,⟨_,ee,.d (.refl _)⟩,⟨_,ee,.d (.refl _)⟩,⟨_,ee,.d (.refl _)⟩,⟨_,ee,.d (.refl _)⟩,⟨_,ee,.d (.refl _)⟩,trivial⟩ ⟨⟨ltd ee,.inr ⟨by decide,_,ee,.dat _ _⟩⟩,trivial⟩⟩
 refine q7<|q0<|mv_ ee<|mv_ ee<|v_ (.d (.bool (decide ((w64 (a.2.1 - c.1)) ≥ (w64 (Int.tdiv (w64 (a.2.1 - a.1)) 8)))))) ee<|as_ ee<|q6<|q7<|q0<|mv_ ee<|mv_ ee<|v_ (.d (i_ (w64 (c.1 + 1)))) ee<|mv_ ee<|mv_ ee<|mv_ ee ?_
 obtain ⟨ag,cn,b⟩:=bindE b
 obtain ⟨dc,co,b⟩:=bindE b
 have cp:=q1a co
 refine q6w [(0,0)] [(0,0)] [.hs 0 3 0 k.length,.d (i_ (w64 (c.1 + 1))),di_ a.2.1,di_ f.1,.d (.fn q1F q1C)] (.d (.tup [])) [(0,.dat 3 (ag.map qe))] [(0,.dat 3 (ag.map qe))] 1 (hrec c.2.2 (w64 (c.1 + 1)) a.2.1 f.1 ag cn) ee ee ee (q5q [(0,0)] [] [] ee ⟨⟨_,ee,q10 (by simp [ac]) ee (by decide) (ltd ee)⟩,⟨_,ee,.d (.refl _)⟩,⟨_,ee,.d (.refl _)⟩,⟨_,ee,.d (.refl _)⟩,⟨_,ee,.d (.refl _)⟩,trivial⟩ ⟨⟨ltd ee,.inr ⟨by decide,_,ee,.dat _ _⟩⟩,trivial⟩) (q5q [(0,0)] [] [] ee ⟨⟨_,ee,.d (.refl _)⟩,trivial⟩ ⟨⟨ltd ee,.inr ⟨by decide,_,ee,.dat _ _⟩⟩,trivial⟩) ee ⟨.inl ee,trivial⟩<|q6<|q0<|mv_ ee<|as_ ee<|q6<|qc<|qr<|qc ?_
 exact ⟨_,(Option.some.inj b).symm,wkE [] [] [] ee ⟨⟨_,ee,q10 (by simp [ac,cp]) ee (by decide) (ltd ee)⟩,⟨_,ee,.d (.refl _)⟩,⟨_,ee,.d (.refl _)⟩,⟨_,ee,.d (.refl _)⟩,⟨_,ee,.d (.refl _)⟩,⟨_,ee,.d (.refl _)⟩,⟨_,ee,.d (.refl _)⟩,trivial⟩ ⟨⟨ltd ee,.inr ⟨by decide,_,ee,.dat _ _⟩⟩,trivial⟩⟩
theorem q8a (n : Nat) (g : span_end→span_end→Option Int) (q1F : FuncId) (q1C : List DV) (q1Ok : ∀ (h : span_end) (j : span_end) (r : Int),g h j = some r→Pure Tryz.prog tab q1F ([.agg [i_ h.at_,i_ h.list_,i_ h.by_],.agg [i_ j.at_,i_ j.list_,i_ j.by_]] ++ q1C) (i_ r)) : ∀ (a : List span_end) (b : Int) (c : Int) (f : Int) (r : List span_end),q2u n g a b c f = some r→EvCall Tryz.prog tab 168 [.hs 0 3 0 a.length,di_ b,di_ c,di_ f,.d (.fn q1F q1C)] [(0,.dat 3 (a.map qe))] 1 (.d (.tup [])) [(0,.dat 3 (r.map qe))] 1:=by
 induction n with
 | zero=>intro a b c f r k;cases k
 | succ n ih=>intro a b c f r k;exact q7r (q2u n g) g q1F q1C q1Ok ih a b c f r k
theorem q7i (g : span_end→span_end→Option Int) (q1F : FuncId) (q1C : List DV) (q1Ok : ∀ (c : span_end) (f : span_end) (r : Int),g c f = some r→Pure Tryz.prog tab q1F ([.agg [i_ c.at_,i_ c.list_,i_ c.by_],.agg [i_ f.at_,i_ f.list_,i_ f.by_]] ++ q1C) (i_ r)) (a : List span_end) (r : List span_end) (b : q26 g a = some r) : EvCall Tryz.prog tab 164 [.hs 0 3 0 a.length,.d (.fn q1F q1C)] [(0,.dat 3 (a.map qe))] 1 (.d (.tup [])) [(0,.dat 3 (r.map qe))] 1:=by
 unfold q26 at b
 refine q14 Tryz.func164 ee (by kernel_rfl) (by kernel_rfl) ee<|q7<|q0<|mv_ ee<|v_ (di_ (a.length : Int)) ee<|as_ ee<|q6<|q0<|mv_ ee<|mv_ ee<|mv_ ee<|v_ (.d (.int .u64 (IntKind.wrap .u64 (a.length : Int)))) ee ?_
 obtain ⟨h,l,b⟩:=bindE b
 refine qu [.d (.int .u64 (IntKind.wrap .u64 (a.length : Int)))] (q9h (IntKind.wrap .u64 (a.length : Int)) h l) ee ee ee (.inl ee)<|mv_ ee ?_
 obtain ⟨k,j,b⟩:=bindE b
 obtain ⟨o,m,b⟩:=bindE b
 have p:=q1a m
 obtain ⟨n,j⟩:=qhp j
 refine callG [(0,0)] [(0,0)] [.hs 0 3 0 a.length,di_ 0,di_ (a.length : Int),di_ h,.d (.fn q1F q1C)] (.d (.tup [])) 1 [(0,.dat 3 (k.map qe))] 1 (q8a n g q1F q1C q1Ok a 0 (a.length : Int) h k j)<|q6<|qc ?_
 obtain rfl:=someE b
 exact ⟨.inl ee,_,ee,wkA [] [] []⟩
theorem q83 (a : List span_end) (r : List span_end) (b : q47  a = some r) : EvCall Tryz.prog tab 166 [.hs 0 3 0 a.length] [(0,.dat 3 (a.map qe))] 1 (.fn 169 [.ref 1 1 0 0]) [(0,.dat 3 (r.map qe)),(1,.cel 1 [[.hs 0 3 0 r.length]])] 2:=by
 unfold q47 at b
 refine q14 Tryz.func166 ee (by kernel_rfl) (by kernel_rfl) ee<|q7<|q0<|q3s (.ref 1 1 0 0) (.cel 1 [[.hs 0 3 0 a.length]]) ee<|as_ ee<|q6<|q7<|q0<|v_ (.fn 169 [.ref 1 1 0 0]) ee<|as_ ee<|q6<|qj ?_
 obtain rfl:=someE b
 exact ⟨.inr ee,_,ee,wkA [(1,1)] [] []⟩
theorem qia (b : List (List api_Span)) (r : List (List api_Span) × List span_end) (f : q8f  b = some r) : EvCall Tryz.prog tab 156 [.hs 0 1 0 b.length] [(0,.dat 1 (b.map q3e))] 1 (.fn 169 [.ref 1 1 0 0]) [(0,.dat 1 (r.1.map q3e)),(1,.cel 1 [[.hs 2 3 0 r.2.length]]),(2,.dat 3 (r.2.map qe))] 3:=by
 unfold q8f at f
 refine q14 Tryz.func156 ee (by kernel_rfl) (by kernel_rfl) ee<|q7<|q0<|as_ ee<|q6<|q7<|q0<|as_ ee<|q6<|q7<|q7<|q0<|mv_ ee<|v_ (di_ (b.length : Int)) ee<|mv_ ee<|q6 ?_
 obtain ⟨t,v,f⟩:=bindE f
 refine qk (fun h=>h = t) (fun (h : List span_end)=>⟨[(3,.hs 1 3 0 h.length)],[(0,.dat 1 (b.map q3e)),(1,.dat 3 (h.map qe))],2⟩) (by simp) ?_ ?_
 ·refine qn (q4d b) (fun (a : Int × List span_end)=>⟨[(3,.hs 1 3 0 a.2.length),(8,.hs 0 1 0 b.length),(9,di_ (b.length : Int)),(10,di_ a.1)],[(0,.dat 1 (b.map q3e)),(1,.dat 3 (a.2.map qe))],2⟩) (0,[]) t v (wkA [] [] [1]) ?_
  intro a ag j
  unfold q4d at j
  refine q7<|q0<|v_ (.d (.bool (decide (a.1 < (b.length : Int))))) ee<|q6<|q7 ?_
  refine qb ee j (fun _ j=>?_) (fun _ j=>?_)
  ·refine qd<|q7 ?_
   obtain ⟨w,l,j⟩:=bindE j
   refine qk (fun m=>m = w) (fun (m : List span_end)=>⟨[(3,.hs 1 3 0 m.length),(8,.hs 0 1 0 b.length),(9,di_ (b.length : Int)),(10,di_ a.1)],[(0,.dat 1 (b.map q3e)),(1,.dat 3 (m.map qe))],2⟩) (by simp) ?_ ?_
   ·refine q7<|q0<|mv_ ee ?_
    obtain ⟨n,u,l⟩:=bindE l
    refine qi u ee ee ee ee ee ee ee<|qp (.d (.sl 2 (n.map qf))) u ee ee ee ee ee ee<|as_ ee<|as_ ee<|q6<|q7<|q0<|mv_ ee<|q15 ee ee ee ee<|mv_ ee<|q6 ?_
    obtain ⟨x,y,l⟩:=bindE l
    refine qh<|qn (q59 n a) (fun (k : Int × List span_end)=>⟨[(3,.hs 1 3 0 k.2.length),(4,di_ a.1),(8,.hs 0 1 0 b.length),(9,di_ (b.length : Int)),(10,di_ a.1),(15,.d (.sl 2 (n.map qf))),(16,di_ (n.length : Int)),(17,di_ k.1)],[(0,.dat 1 (b.map q3e)),(1,.dat 3 (k.2.map qe))],2⟩) (0,a.2) x y (wkA [(1,1)] [] []) ?_
    intro k ah g
    unfold q59 at g
    refine q7<|q0<|v_ (.d (.bool (decide (k.1 < (n.length : Int))))) ee<|q6<|q7 ?_
    refine qb ee g (fun _ g=>?_) (fun _ g=>?_)
    ·refine qd<|q7<|qh<|q7<|q0 ?_
     obtain ⟨c,z,g⟩:=bindE g
     refine qv (enc:=qf) z ee ee ee ee ee ee<|v_ (.d (.agg [i_ c.Lo,i_ c.Hi])) ee<|q2d ee ee<|q3r 2 (.dat 2 [[i_ c.Lo,i_ c.Hi]]) ee<|q6<|q0<|mv_ ee<|v_ (.ref 2 2 0 0) ee<|v_ (di_ c.Lo) ee<|mv_ ee<|v_ (.d (.agg [i_ c.Lo,i_ a.1,i_ 1])) ee<|v_ (.ref 2 2 0 1) ee<|v_ (di_ c.Hi) ee<|mv_ ee<|v_ (.d (.agg [i_ c.Hi,i_ a.1,i_ (-1)])) ee<|q3s (.hs 3 3 0 [({at_:=c.Lo,list_:=a.1,by_:=1} : span_end),({at_:=c.Hi,list_:=a.1,by_:=(-1)} : span_end)].length) (.dat 3 ([({at_:=c.Lo,list_:=a.1,by_:=1} : span_end),({at_:=c.Hi,list_:=a.1,by_:=(-1)} : span_end)].map qe)) ee ?_
     obtain ⟨ai,aa,g⟩:=bindE g
     refine q5l (xs:=k.2) (ys:=[({at_:=c.Lo,list_:=a.1,by_:=1} : span_end),({at_:=c.Hi,list_:=a.1,by_:=(-1)} : span_end)]) (enc:=qe) (.hs 3 3 0 [({at_:=c.Lo,list_:=a.1,by_:=1} : span_end),({at_:=c.Hi,list_:=a.1,by_:=(-1)} : span_end)].length) aa ee ee ee ee ee ee ee (q4a ee ee) ee ee ee ee<|as_ ee<|q6<|qc<|qr<|q0<|v_ (.d (i_ (w64 (k.1 + 1)))) ee<|mv_ ee<|q6<|qc ?_
     exact ⟨_,(Option.some.inj g).symm,wkA [(1,4)] [] []⟩
    refine qm ?_
    refine ⟨_,(Option.some.inj g).symm,fun hm=>?_⟩
    subst hm
    obtain rfl:=someE l
    exact ⟨_,ee,wkA [(1,1)] [] []⟩
   intro m hb
   subst hb
   refine q0<|v_ (.d (i_ (w64 (a.1 + 1)))) ee<|mv_ ee<|q6<|qc ?_
   exact ⟨_,(Option.some.inj j).symm,wkA [(1,1)] [] []⟩
  refine qm ?_
  refine ⟨_,(Option.some.inj j).symm,fun hm=>?_⟩
  subst hm
  exact ⟨_,ee,wkA [(1,1)] [] []⟩
 intro h hb
 subst hb
 refine q7<|q0<|mv_ ee ?_
 obtain ⟨p,ab,f⟩:=bindE f
 obtain ⟨aj,ac,f⟩:=bindE f
 have ad:=q1a ac
 refine callG [(0,1)] [(0,1),(1,0)] [.hs 1 3 0 h.length,.d (.fn 165 [])] (.d (.tup [])) 1 [(1,.dat 3 (p.map qe)),(0,.dat 1 (b.map q3e))] 2 (q7i (fun q s=>q98 q s) 165 [] (fun q s r hr=>qjw q s r hr) h p ab)<|q6<|q7<|q0<|mv_ ee ?_
 obtain ⟨o,ae,f⟩:=bindE f
 obtain ⟨ak,af,f⟩:=bindE f
 have al:=q1a af
 refine q6w [(0,1)] [(0,2),(1,0),(2,1)] [.hs 1 3 0 h.length] (.fn 169 [.ref 2 1 0 0]) [(1,.dat 3 (o.map qe)),(2,.cel 1 [[.hs 1 3 0 o.length]])] [(1,.dat 3 (o.map qe)),(2,.cel 1 [[.hs 1 3 0 o.length]]),(0,.dat 1 (b.map q3e))] 3 (q83 p o ae) ee ee ee (q5q [(0,1)] [] [] ee ⟨⟨_,ee,q10 (by simp [ad]) ee (by decide) (ltd ee)⟩,trivial⟩ ⟨⟨ltd ee,.inr ⟨by decide,_,ee,.dat _ _⟩⟩,trivial⟩) (q5q [(0,2),(1,0),(2,1)] [] [] ee ⟨⟨_,ee,(qdl (.cons (.ref ee (by decide) (ltd ee)) .nil))⟩,trivial⟩ ⟨⟨ltd ee,.inr ⟨by decide,_,ee,.dat _ _⟩⟩,⟨ltd ee,.inr ⟨by decide,_,ee,q7s (.cons (.hs ee (by decide) (ltd ee)) ee .nil)⟩⟩,trivial⟩) ee ⟨.inl ee,.inl ee,.inr ⟨ee,ee⟩,trivial⟩<|as_ ee<|q6<|qj ?_
 obtain rfl:=someE f
 exact ⟨.inr ee,_,ee,wkA [(1,2),(2,1)] [] []⟩
theorem qfy (f : Int) (j : Bool) (b : Int) (c : List api_Span) (r : Bool × Int × List api_Span) (a : q75  f j b c = some r) : EvCall Tryz.prog tab 155 [di_ f,.ref 0 1 0 0,.ref 1 1 0 0,.ref 2 1 0 0] [(0,.dat 1 [[.bool j]]),(1,.dat 1 [[i_ b]]),(2,.cel 1 [[.hs 3 2 0 c.length]]),(3,.dat 2 (c.map qf))] 4 (.d (.tup [])) [(0,.dat 1 [[.bool r.1]]),(1,.dat 1 [[i_ r.2.1]]),(2,.cel 1 [[.hs 4 2 0 r.2.2.length]]),(4,.dat 2 (r.2.2.map qf))] 5:=by
 unfold q75 at a
 refine q14 Tryz.func155 ee (by kernel_rfl) (by kernel_rfl) ee<|q7<|q7<|q0<|v_ (db_ j) ee<|v_ (db_ (!j)) ee ?_
 obtain ⟨ab,h,a⟩:=bindE a
 refine qo 5 (fun A st=>∃ (l m n o : V),st = A [(12,db_ ab),(11,o),(10,n),(9,m),(8,l)]) ?_ ?_
 ·refine qs ee ee h (fun h=>?_) (fun h=>?_)
  ·refine q8 ee<|q8 ee<|q8 ee<|v_ (db_ true) ee<|q6 ?_
   obtain rfl:=someE h
   exact ⟨_,_,_,_,ee⟩
  refine v_ (di_ b) ee<|mv_ ee<|v_ (db_ (b == f)) ee<|v_ (db_ (b == f)) ee<|q6 ?_
  obtain rfl:=someE h
  exact ⟨_,_,_,_,ee⟩
 rintro _ ⟨l,m,n,o,rfl⟩
 refine q6 ?_
 refine qb ee a (fun _ a=>?_) (fun _ a=>?_)
 ·refine qj ?_
  obtain rfl:=someE a
  exact ⟨.inr ee,_,ee,wkA [(4,3)] [] []⟩
 refine qd<|q7<|q0<|v_ (.hs 3 2 0 c.length) ee<|v_ (di_ (c.length : Int)) ee<|as_ ee<|q6<|q7<|qg [(some [],[]),(some [],[]),(some [1],[]),(some [3],[]),(some [],[]),(some [],[]),(some [],[]),(some [],[]),(some [2],[]),(some [],[]),(some [],[]),(some [],[])] (by kernel_rfl)<|mv_ ee<|v_ (.d (.bool (decide ((c.length : Int) > 0)))) ee ?_
 obtain ⟨ac,g,a⟩:=bindE a
 refine qo 10 (fun A st=>∃ (p q s t u v w x y : V),st = A [(26,db_ ac),(25,y),(24,x),(23,w),(22,v),(21,u),(20,t),(19,s),(18,q),(17,p)]) ?_ ?_
 ·refine qs ee ee g (fun g=>?_) (fun g=>?_)
  ·refine v_ (.hs 3 2 0 c.length) ee<|mv_ ee<|v_ (.d (i_ (w64 ((c.length : Int) - 1)))) ee ?_
   obtain ⟨k,z,g⟩:=bindE g
   refine qi z ee ee ee ee ee ee ee<|v_ (.ref 3 2 (w64 ((c.length : Int) - 1)).toNat 1) ee<|qp (di_ k.Hi) z ee ee ee ee ee ee<|v_ (di_ b) ee<|v_ (db_ (k.Hi == b)) ee<|v_ (db_ (k.Hi == b)) ee<|q6 ?_
   obtain rfl:=someE g
   exact ⟨_,_,_,_,_,_,_,_,_,ee⟩
  refine q8 ee<|q8 ee<|q8 ee<|q8 ee<|q8 ee<|q8 ee<|q8 ee<|q8 ee<|v_ (db_ false) ee<|q6 ?_
  obtain rfl:=someE g
  exact ⟨_,_,_,_,_,_,_,_,_,ee⟩
 rintro _ ⟨p,q,s,t,u,v,w,x,y,rfl⟩
 refine q6 ?_
 refine qb ee a (fun _ a=>?_) (fun _ a=>?_)
 ·refine q0<|v_ (.hs 3 2 0 c.length) ee<|mv_ ee<|v_ (.d (i_ (w64 ((c.length : Int) - 1)))) ee<|mv_ ee ?_
  obtain ⟨ad,aa,a⟩:=bindE a
  refine qi aa ee ee ee ee ee ee ee<|v_ (.ref 3 2 (w64 ((c.length : Int) - 1)).toNat 1) ee<|q12 (ds:=[i_ f]) ({Lo:=ad.Lo,Hi:=f} : api_Span) aa ee ee ee ee ee ee ee ee (leb ee) ee<|q6<|qc ?_
  obtain rfl:=someE a
  exact ⟨.inl ee,_,ee,wkE [(4,3)] [] [] ee ⟨⟨_,ee,.d (.refl _)⟩,trivial⟩ ⟨⟨ltd ee,.inr ⟨by decide,_,ee,.dat _ _⟩⟩,⟨ltd ee,.inr ⟨by decide,_,ee,.dat _ _⟩⟩,⟨ltd ee,.inr ⟨by decide,_,ee,q7s (.cons (q10 (by simp) ee (by decide) (ltd ee)) ee .nil)⟩⟩,⟨ltd ee,.inr ⟨by decide,_,ee,.dat _ _⟩⟩,trivial⟩⟩
 refine q0<|v_ (.hs 3 2 0 c.length) ee<|v_ (di_ b) ee<|mv_ ee<|v_ (.d (.agg [i_ b,i_ f])) ee<|q3s (.hs 4 2 0 [({Lo:=b,Hi:=f} : api_Span)].length) (.dat 2 ([({Lo:=b,Hi:=f} : api_Span)].map qf)) ee ?_
 obtain ⟨ae,af,a⟩:=bindE a
 refine q5l (xs:=c) (ys:=[({Lo:=b,Hi:=f} : api_Span)]) (enc:=qf) (.hs 4 2 0 [({Lo:=b,Hi:=f} : api_Span)].length) af ee ee ee ee ee ee ee (q4a ee ee) ee ee ee ee<|q3r 2 (.cel 1 [[.hs 5 2 0 ae.length]]) ee<|q6<|qc ?_
 obtain rfl:=someE a
 exact ⟨.inl ee,_,ee,wkA [(4,5)] [] []⟩
theorem qnn (l : List api_Span) (m : List api_Span) (q : Bool→Bool→Option Bool) (p2F : FuncId) (p2C : List DV) (p2Ok : ∀ (u : Bool) (w : Bool) (r : Bool),q u w = some r→Pure Tryz.prog tab p2F ([.bool u,.bool w] ++ p2C) (.bool r)) (r : List api_Span) (h : q9p l m q = some r) : Pure Tryz.prog tab 138 [.sl 2 (l.map qf),.sl 2 (m.map qf),.fn p2F p2C] (.sl 2 (r.map qf)):=by
 unfold q9p at h
 refine ql Tryz.func138 ee (by kernel_rfl) (by kernel_rfl) ee<|q7<|q0<|q3s (.ref 0 1 0 0) (.dat 1 [[.fn p2F p2C]]) ee<|as_ ee<|q6<|q7<|q0<|q2d ee ee<|q6<|q7<|q0<|q2d ee ee<|q6<|q7<|q0<|q2d ee ee<|q2d ee ee<|q3r 3 (.dat 1 [[i_ 0]]) ee<|q3r 4 (.dat 1 [[.bool false]]) ee<|q6<|q7<|q0<|v_ (.fn 155 [.ref 4 1 0 0,.ref 3 1 0 0,.ref 2 1 0 0]) ee<|q2d ee ee<|q3r 5 (.cel 1 [[.fn 155 [.ref 4 1 0 0,.ref 3 1 0 0,.ref 2 1 0 0]]]) ee<|q6<|q7<|q7<|q0<|mv_ ee<|mv_ ee<|q3s (.hs 6 1 0 [l,m].length) (.dat 1 ([l,m].map q3e)) ee ?_
 obtain ⟨b,h2,h⟩:=bindE h
 obtain ⟨u3,h4,h⟩:=bindE h
 have h5:=q1a h4
 refine callG [(0,6)] [(0,3),(1,3),(2,3),(3,3),(4,3),(5,3),(6,0),(7,1),(8,2)] [.hs 6 1 0 [l,m].length] (.fn 169 [.ref 7 1 0 0]) 3 [(6,.dat 1 (b.1.map q3e)),(7,.cel 1 [[.hs 8 3 0 b.2.length]]),(8,.dat 3 (b.2.map qe)),(0,.dat 1 [[.fn p2F p2C]]),(1,.dat 2 [[0,0].flatMap (eI .i64)]),(2,.dat 1 [[.nilsl]]),(3,.dat 1 [[i_ 0]]),(4,.dat 1 [[.bool false]]),(5,.cel 1 [[.fn 155 [.ref 4 1 0 0,.ref 3 1 0 0,.ref 2 1 0 0]]])] 9 (qia [l,m] b h2)<|q6<|qh ?_
 obtain ⟨af,s,h⟩:=bindE h
 refine qji (fun j=>j = af) (fun (j : List api_Span)=>⟨[(8,.ref 0 1 0 0)],[(0,.cel 1 [[.hs 1 2 0 j.length]]),(1,.dat 2 (j.map qf))],2⟩) ?_ ?_
 ·refine q7c (st':=⟨[(5,.ref 0 1 0 0),(6,.d (.nilsl)),(7,.ref 1 2 0 0),(8,.ref 2 1 0 0),(9,.ref 3 1 0 0),(10,.ref 4 1 0 0),(11,.ref 5 1 0 0),(17,.fn 169 [.ref 6 1 0 0])],[(0,.dat 1 [[.fn p2F p2C]]),(1,.dat 2 [[0,0].flatMap (eI .i64)]),(2,.dat 1 [[.nilsl]]),(3,.dat 1 [[i_ 0]]),(4,.dat 1 [[.bool false]]),(5,.cel 1 [[.fn 155 [.ref 4 1 0 0,.ref 3 1 0 0,.ref 2 1 0 0]]]),(6,.cel 1 [[.hs 7 3 0 b.2.length]]),(7,.dat 3 (b.2.map qe))],8⟩) (wkA [(0,0),(1,1),(2,2),(3,3),(4,4),(5,5),(6,7),(7,8)] [] []) ?_ (by simp)
  refine qey [.ref 6 1 0 0] (.inl ee) Tryz.func169 ee (by kernel_rfl) (by kernel_rfl) ee ?_
  intro A154 B155 hA154 hB155
  refine q7<|q0<|v_ (.hs 7 3 0 b.2.length) ee<|v_ (di_ (b.2.length : Int)) ee<|mv_ ee<|q6 ?_
  obtain ⟨ag,ah,s⟩:=bindE s
  refine qh<|qn (q6f b q) (fun (c : Int × List Int × Int × Bool × List api_Span)=>⟨[(0,.yld 8),(5,.hs 7 3 0 b.2.length),(6,di_ (b.2.length : Int)),(7,di_ c.1)],[(0,.dat 1 [[.fn p2F p2C]]),(1,.dat 2 [c.2.1.flatMap (eI .i64)]),(2,.cel 1 [[.hs 9 2 0 c.2.2.2.2.length]]),(3,.dat 1 [[i_ c.2.2.1]]),(4,.dat 1 [[.bool c.2.2.2.1]]),(5,.cel 1 [[.fn 155 [.ref 4 1 0 0,.ref 3 1 0 0,.ref 2 1 0 0]]]),(6,.cel 1 [[.hs 7 3 0 b.2.length]]),(7,.dat 3 (b.2.map qe)),(8,.loop [(5,.ref 0 1 0 0),(6,.d (.nilsl)),(7,.ref 1 2 0 0),(8,.ref 2 1 0 0),(9,.ref 3 1 0 0),(10,.ref 4 1 0 0),(11,.ref 5 1 0 0),(17,.fn 169 [.ref 6 1 0 0])] [18] A154 B155 .ready none),(9,.dat 2 (c.2.2.2.2.map qf))],10⟩) (0,[0,0],0,false,[]) ag ah (wkA [] [] [9]) ?_
  intro c an g
  unfold q6f at g
  refine q7<|q0<|v_ (.d (.bool (decide (c.1 < (b.2.length : Int))))) ee<|q6<|q7 ?_
  refine qb ee g (fun _ g=>?_) (fun _ g=>?_)
  ·refine qd<|q7<|qh<|q7<|q0 ?_
   obtain ⟨a,x,g⟩:=bindE g
   refine qi x ee ee ee ee ee ee ee<|qp (.d (.agg [i_ a.at_,i_ a.list_,i_ a.by_])) x ee ee ee ee ee ee<|q2d ee ee<|q3r 10 (.dat 3 [[i_ a.at_,i_ a.list_,i_ a.by_]]) ee<|q6<|q7<|q0<|mv_ ee<|v_ (.d (.agg [i_ a.at_,i_ a.list_,i_ a.by_])) ee ?_
   obtain ⟨ai,f,g⟩:=bindE g
   refine qex (fun k=>k = ai) (fun (k : List Int × Bool × List api_Span)=>⟨[(0,.yld 8),(5,.hs 7 3 0 b.2.length),(6,di_ (b.2.length : Int)),(7,di_ c.1),(13,db_ true)],[(0,.dat 1 [[.fn p2F p2C]]),(1,.dat 2 [k.1.flatMap (eI .i64)]),(2,.cel 1 [[.hs 9 2 0 k.2.2.length]]),(3,.dat 1 [[i_ a.at_]]),(4,.dat 1 [[.bool k.2.1]]),(5,.cel 1 [[.fn 155 [.ref 4 1 0 0,.ref 3 1 0 0,.ref 2 1 0 0]]]),(6,.cel 1 [[.hs 7 3 0 b.2.length]]),(7,.dat 3 (b.2.map qe)),(8,.loop [(5,.ref 0 1 0 0),(6,.d (.nilsl)),(7,.ref 1 2 0 0),(8,.ref 2 1 0 0),(9,.ref 3 1 0 0),(10,.ref 4 1 0 0),(11,.ref 5 1 0 0),(17,.fn 169 [.ref 6 1 0 0])] [18] A154 B155 .ready none),(9,.dat 2 (k.2.2.map qf))],10⟩) hA154 hB155 ee ee ee ee ee ee ?_ ?_
   ·refine q0<|q2d ee ee<|q3r 11 (.dat 3 [[i_ a.at_,i_ a.list_,i_ a.by_]]) ee<|q6<|qc ?_
    refine ⟨ee,_,ee,?_⟩
    refine qh<|q7<|q0<|v_ (.fn 155 [.ref 4 1 0 0,.ref 3 1 0 0,.ref 2 1 0 0]) ee<|v_ (.ref 11 3 0 0) ee<|v_ (di_ a.at_) ee ?_
    obtain ⟨n,aj,f⟩:=bindE f
    refine callG [(0,4),(1,3),(2,2),(3,9)] [(0,5),(1,5),(2,2),(3,1),(4,0),(5,5),(6,5),(7,5),(8,5),(9,3),(10,5),(11,5),(12,4)] [di_ a.at_,.ref 4 1 0 0,.ref 3 1 0 0,.ref 2 1 0 0] (.d (.tup [])) 4 [(2,.cel 1 [[.hs 12 2 0 n.2.2.length]]),(3,.dat 1 [[i_ n.2.1]]),(4,.dat 1 [[.bool n.1]]),(12,.dat 2 (n.2.2.map qf)),(0,.dat 1 [[.fn p2F p2C]]),(1,.dat 2 [c.2.1.flatMap (eI .i64)]),(5,.cel 1 [[.fn 155 [.ref 4 1 0 0,.ref 3 1 0 0,.ref 2 1 0 0]]]),(6,.cel 1 [[.hs 7 3 0 b.2.length]]),(7,.dat 3 (b.2.map qe)),(8,.loop [(5,.ref 0 1 0 0),(6,.d (.nilsl)),(7,.ref 1 2 0 0),(8,.ref 2 1 0 0),(9,.ref 3 1 0 0),(10,.ref 4 1 0 0),(11,.ref 5 1 0 0),(17,.fn 169 [.ref 6 1 0 0])] [18] A154 B155 .busy none),(10,.dat 3 [[i_ a.at_,i_ a.list_,i_ a.by_]]),(11,.dat 3 [[i_ a.at_,i_ a.list_,i_ a.by_]])] 13 (qfy a.at_ c.2.2.2.1 c.2.2.1 c.2.2.2.2 n aj)<|q6<|q7<|qg [(some [1],[1]),(some [],[]),(some [],[]),(some [11],[]),(some [],[]),(some [1],[]),(some [],[]),(some [11],[]),(some [],[])] (by kernel_rfl)<|v_ (.ref 11 3 0 1) ee<|v_ (di_ a.list_) ee ?_
    obtain ⟨t,y,f⟩:=bindE f
    refine qiq y ee ee ee ee ee<|qmj (enc:=(eI .i64)) (di_ t) y (fun _=>ee) ee ee ee ee ee ee<|v_ (.ref 11 3 0 2) ee<|v_ (di_ a.by_) ee<|v_ (.d (i_ (w64 (t + a.by_)))) ee ?_
    obtain ⟨ao,z,f⟩:=bindE f
    refine qiq z ee ee ee ee ee<|qv3 (enc:=(eI .i64)) (w64 (t + a.by_)) z (fun _=>ee) ee ee ee ee ee ee ee ee<|q6<|qg [(some [4],[4]),(some [3],[3]),(some [],[]),(some [],[]),(some [1],[]),(some [],[]),(some [],[]),(some [1],[]),(some [],[]),(some [0],[]),(some [11],[]),(some [],[])] (by kernel_rfl)<|v_ (.ref 11 3 0 0) ee<|v_ (di_ a.at_) ee<|v_ (.d (.fn p2F p2C)) ee ?_
    obtain ⟨o,aa,f⟩:=bindE f
    refine qiq aa ee ee ee ee ee<|qmj (enc:=(eI .i64)) (di_ o) aa (fun _=>ee) ee ee ee ee ee ee<|v_ (.d (.bool (decide (o > 0)))) ee ?_
    obtain ⟨p,ab,f⟩:=bindE f
    refine qiq ab ee ee ee ee ee<|qmj (enc:=(eI .i64)) (di_ p) ab (fun _=>ee) ee ee ee ee ee ee<|v_ (.d (.bool (decide (p > 0)))) ee ?_
    obtain ⟨ac,ak,f⟩:=bindE f
    refine q66 [.d (.bool (decide (o > 0))),.d (.bool (decide (p > 0)))] (p2Ok (decide (o > 0)) (decide (p > 0)) ac ak) ee ee ee (.inl ee)<|q3r 3 (.dat 1 [[i_ a.at_]]) ee<|q3r 4 (.dat 1 [[.bool ac]]) ee<|q6<|qc<|qr<|qc ?_
    refine ⟨_,ee,?_⟩
    obtain rfl:=someE f
    exact ⟨_,ee,wkA [(9,12)] [] []⟩
   intro k hb
   subst hb
   refine v_ (db_ false) ee<|q6<|q6v ee<|qd<|qc<|qr<|q0<|v_ (.d (i_ (w64 (c.1 + 1)))) ee<|mv_ ee<|q6<|qc ?_
   exact ⟨_,(Option.some.inj g).symm,wkA [(9,9)] [] []⟩
  refine qm ?_
  refine ⟨_,(Option.some.inj g).symm,fun hm=>?_⟩
  subst hm
  refine ⟨.inl ee,_,ee,_,_,.nor,ee,by decide,?_⟩
  refine qez<|qc ?_
  obtain rfl:=someE s
  exact ⟨_,ee,wkA [(0,2),(1,9)] [] []⟩
 intro j st hb hw
 subst hb
 refine q7c hw ?_ (by simp)
 refine q7<|q0<|v_ (.hs 1 2 0 j.length) ee<|as_ ee<|q6<|qj ?_
 obtain rfl:=someE h
 exact finD (.inr ee) (v:=.hs 1 2 0 j.length) ee (qa1 ee ee) (.refl _)
theorem qjx (a : Bool) (b : Bool) (r : Bool) (c : q99 a b = some r) : Pure Tryz.prog tab 143 [.bool a,.bool b] (.bool r):=by
 unfold q99 at c
 refine ql Tryz.func143 ee (by kernel_rfl) (by kernel_rfl) ee<|q7<|q0<|as_ ee<|q6<|q7<|q0<|mv_ ee<|as_ ee<|q6<|qj ?_
 obtain rfl:=someE c
 exact finD (.inr ee) (v:=(db_ a)) ee ee (.refl _)
theorem qno (b : List api_Span) (r : List api_Span × Int) (a : q9q b = some r) : Pure Tryz.prog tab 131 [.sl 2 (b.map qf)] (.tup [.sl 2 (r.1.map qf),i_ r.2]):=by
 unfold q9q at a
 refine ql Tryz.func131 ee (by kernel_rfl) (by kernel_rfl) ee<|q7<|q0<|as_ ee<|as_ ee<|q6<|q7<|q7<|q0<|mv_ ee<|q15 ee ee ee ee<|v_ (.d (.bool (decide ((b.length : Int) > 400)))) ee<|q6 ?_
 refine qb ee a (fun _ a=>?_) (fun _ a=>?_)
 ·refine q7<|q0<|as_ ee<|as_ ee<|q6<|qj ?_
  obtain rfl:=someE a
  exact finD (.inr ee) (v:=.d (.tup [.nilsl,i_ 4])) ee ee (q6j (.cons (.nil _) (.cons (.refl _) .nil)))
 refine qd<|q7<|q7<|q0<|mv_ ee ?_
 obtain ⟨h,j,a⟩:=bindE a
 refine qu [.d (.sl 2 (b.map qf)),.d (.fn 141 [])] (q7h b (fun c=>qay c) 141 [] (fun c r hr=>qjv c r hr) h j) ee ee ee (.inl ee)<|q6 ?_
 refine qb ee a (fun _ a=>?_) (fun _ a=>?_)
 ·refine q7<|q0<|as_ ee<|as_ ee<|q6<|qj ?_
  obtain rfl:=someE a
  exact finD (.inr ee) (v:=.d (.tup [.nilsl,i_ 8])) ee ee (q6j (.cons (.nil _) (.cons (.refl _) .nil)))
 refine qd<|q7<|q0<|mv_ ee ?_
 obtain ⟨g,k,a⟩:=bindE a
 refine qu [.d (.sl 2 (b.map qf)),.d (.nilsl),.d (.fn 143 [])] (qbm (.cons (.refl _) (.cons (.nil _) (.cons (.refl _) .nil))) (qnn b [] (fun c f=>q99 c f) 143 [] (fun c f r hr=>qjx c f r hr) g k)) ee ee ee (.inl ee)<|as_ ee<|as_ ee<|q6<|qj ?_
 obtain rfl:=someE a
 exact finD (.inr ee) (v:=.d (.tup [.sl 2 (g.map qf),i_ 0])) ee ee (.refl _)
theorem q9f (c : List api_Span) (f : List api_Span) (r : Bool) (b : q3z c f = some r) : Pure Tryz.prog tab 136 [.sl 2 (c.map qf),.sl 2 (f.map qf)] (.bool r):=by
 unfold q3z at b
 refine ql Tryz.func136 ee (by kernel_rfl) (by kernel_rfl) ee<|q7<|q0<|as_ ee<|q6<|q7<|q7<|q0<|mv_ ee<|q15 ee ee ee ee<|mv_ ee<|q15 ee ee ee ee<|v_ (.d (.bool ((c.length : Int) != (f.length : Int)))) ee<|q6 ?_
 refine qb ee b (fun _ b=>?_) (fun _ b=>?_)
 ·refine q7<|q0<|as_ ee<|q6<|qj ?_
  obtain rfl:=someE b
  exact finD (.inr ee) (v:=(db_ false)) ee ee (.refl _)
 refine qd<|q7<|q7<|q0<|mv_ ee<|q15 ee ee ee ee<|mv_ ee<|q6 ?_
 obtain ⟨l,m,b⟩:=bindE b
 refine qk (fun k=>.inl k = l) (fun (k : Unit)=>⟨[],[],0⟩) (by simp) ?_ ?_
 ·refine qn (q4e c f) (fun (g : Int)=>⟨[(0,.d (.sl 2 (c.map qf))),(1,.d (.sl 2 (f.map qf))),(12,di_ (c.length : Int)),(13,di_ g)],[],0⟩) 0 l m (wkA [] [] []) ?_
  intro g p a
  unfold q4e at a
  refine q7<|q0<|v_ (.d (.bool (decide (g < (c.length : Int))))) ee<|q6<|q7 ?_
  refine qb ee a (fun _ a=>?_) (fun _ a=>?_)
  ·refine qd<|q7<|qh<|q7<|q0<|mv_ ee<|as_ ee<|q6<|q7<|qg [(some [],[]),(some [],[]),(some [],[]),(some [],[]),(some [],[]),(some [],[]),(some [],[]),(some [],[]),(some [],[])] (by kernel_rfl)<|mv_ ee<|mv_ ee ?_
   obtain ⟨h,n,a⟩:=bindE a
   refine qv (enc:=qf) n ee ee ee ee ee ee<|v_ (.d (.agg [i_ h.Lo,i_ h.Hi])) ee<|mv_ ee<|mv_ ee ?_
   obtain ⟨j,o,a⟩:=bindE a
   refine qv (enc:=qf) o ee ee ee ee ee ee<|v_ (.d (.agg [i_ j.Lo,i_ j.Hi])) ee<|v_ (.d (.bool (!((h.Lo == j.Lo) && ((h.Hi == j.Hi) && true))))) ee<|q6 ?_
   refine qb ee a (fun _ a=>?_) (fun _ a=>?_)
   ·refine q7<|q0<|as_ ee<|q6<|qj ?_
    refine ⟨_,(Option.some.inj a).symm,fun hm=>?_⟩
    subst hm
    obtain rfl:=someE b
    exact finD (.inr ee) (v:=(db_ false)) ee ee (.refl _)
   refine qd<|qc<|qr<|q0<|v_ (.d (i_ (w64 (g + 1)))) ee<|mv_ ee<|q6<|qc ?_
   exact ⟨_,(Option.some.inj a).symm,wkA [] [] []⟩
  refine qm ?_
  refine ⟨_,(Option.some.inj a).symm,fun hm=>?_⟩
  subst hm
  exact ⟨_,ee,wkA [] [] []⟩
 intro k hb
 subst hb
 refine q7<|q0<|as_ ee<|q6<|qj ?_
 obtain rfl:=someE b
 exact finD (.inr ee) (v:=(db_ true)) ee ee (.refl _)
theorem qbl (b : List api_Rect) (l : List api_Span) (p : Int) (m : Int) (h : Int) (a : Int) (g : List api_Span) (r : List api_Span × Int × Int × List api_Rect) (f : q52  b l p m h a g = some r) : EvCall Tryz.prog tab 118 [.ref 0 4 0 0,di_ h,di_ a,.d (.sl 2 (g.map qf))] [(0,.cel 4 [[.hs 1 4 0 b.length,.d (.sl 2 (l.map qf)),di_ p,di_ m]]),(1,.dat 4 (b.map q9))] 2 (.d (.tup [])) [(0,.cel 4 [[.hs 2 4 0 r.2.2.2.length,.d (.sl 2 (r.1.map qf)),di_ r.2.1,di_ r.2.2.1]]),(2,.dat 4 (r.2.2.2.map q9))] 3:=by
 unfold q52 at f
 refine q14 Tryz.func118 ee (by kernel_rfl) (by kernel_rfl) ee<|q7<|q7<|q0<|mv_ ee<|q15 ee ee ee ee<|v_ (.d (.bool (decide ((g.length : Int) > 0)))) ee ?_
 obtain ⟨am,t,f⟩:=bindE f
 refine qo 8 (fun A st=>∃ (v w x y z aa ab : V),st = A [(21,db_ am),(20,ab),(19,aa),(18,z),(17,y),(16,x),(15,w),(14,v)]) ?_ ?_
 ·refine qs ee ee t (fun t=>?_) (fun t=>?_)
  ·refine mv_ ee<|v_ (.ref 0 4 0 0) ee<|v_ (.ref 0 4 0 3) ee<|v_ (di_ m) ee<|mv_ ee<|v_ (db_ (m == h)) ee<|v_ (db_ (m == h)) ee<|q6 ?_
   obtain rfl:=someE t
   exact ⟨_,_,_,_,_,_,_,ee⟩
  refine q8 ee<|q8 ee<|q8 ee<|q8 ee<|q8 ee<|q8 ee<|v_ (db_ false) ee<|q6 ?_
  obtain rfl:=someE t
  exact ⟨_,_,_,_,_,_,_,ee⟩
 rintro _ ⟨v,w,x,y,z,aa,ab,rfl⟩
 obtain ⟨an,q,f⟩:=bindE f
 refine qo 8 (fun A st=>∃ (ac ad ae af ag ah ai : V),st = A [(29,db_ an),(28,ai),(27,ah),(26,ag),(25,af),(24,ae),(23,ad),(22,ac)]) ?_ ?_
 ·refine qs ee ee q (fun q=>?_) (fun q=>?_)
  ·refine mv_ ee<|v_ (.ref 0 4 0 0) ee<|v_ (.ref 0 4 0 1) ee<|v_ (.d (.sl 2 (l.map qf))) ee<|mv_ ee ?_
   obtain ⟨aj,ao,q⟩:=bindE q
   refine qu [.d (.sl 2 (l.map qf)),.d (.sl 2 (g.map qf))] (q9f l g aj ao) ee ee ee (.inl ee)<|v_ (db_ aj) ee<|q6 ?_
   obtain rfl:=someE q
   exact ⟨_,_,_,_,_,_,_,ee⟩
  refine q8 ee<|q8 ee<|q8 ee<|q8 ee<|q8 ee<|q8 ee<|v_ (db_ false) ee<|q6 ?_
  obtain rfl:=someE q
  exact ⟨_,_,_,_,_,_,_,ee⟩
 rintro _ ⟨ac,ad,ae,af,ag,ah,ai,rfl⟩
 refine q6 ?_
 refine qb ee f (fun _ f=>?_) (fun _ f=>?_)
 ·refine q7<|q7<|q0<|mv_ ee<|v_ (.ref 0 4 0 0) ee<|v_ (.ref 0 4 0 2) ee<|v_ (di_ p) ee<|as_ ee<|q6 ?_
  obtain ⟨ak,ap,f⟩:=bindE f
  refine qk (fun s=>s = ak) (fun (s : List api_Rect)=>⟨[(0,.ref 0 4 0 0),(2,di_ a)],[(0,.cel 4 [[.hs 1 4 0 s.length,.d (.sl 2 (l.map qf)),di_ p,di_ m]]),(1,.dat 4 (s.map q9))],2⟩) (by simp) ?_ ?_
  ·refine qn (q4b a) (fun (j : Int × List api_Rect)=>⟨[(0,.ref 0 4 0 0),(2,di_ a),(8,di_ j.1)],[(0,.cel 4 [[.hs 1 4 0 j.2.length,.d (.sl 2 (l.map qf)),di_ p,di_ m]]),(1,.dat 4 (j.2.map q9))],2⟩) (p,b) ak ap (wkA [] [] []) ?_
   intro j aw n
   unfold q4b at n
   refine q7<|q7<|q0<|mv_ ee<|mv_ ee<|v_ (.ref 0 4 0 0) ee<|v_ (.ref 0 4 0 0) ee<|v_ (.hs 1 4 0 j.2.length) ee<|v_ (di_ (j.2.length : Int)) ee<|v_ (.d (.bool (decide (j.1 < (j.2.length : Int))))) ee<|q6 ?_
   refine qb ee n (fun _ n=>?_) (fun _ n=>?_)
   ·refine qd<|q7<|qh<|q0<|mv_ ee<|v_ (.ref 0 4 0 0) ee<|v_ (.ref 0 4 0 0) ee<|v_ (.hs 1 4 0 j.2.length) ee<|mv_ ee<|mv_ ee ?_
    obtain ⟨u,al,n⟩:=bindE n
    refine qi al ee ee ee ee ee ee ee<|v_ (.ref 1 4 j.1.toNat 2) ee<|q12 (ds:=[i_ a]) ({X0:=u.X0,Y0:=u.Y0,X1:=a,Y1:=u.Y1} : api_Rect) al ee ee ee ee ee ee ee ee (leb ee) ee<|q6<|qc<|qr<|q0<|mv_ ee<|v_ (.d (i_ (w64 (j.1 + 1)))) ee<|as_ ee<|q6<|qc ?_
    exact ⟨_,(Option.some.inj n).symm,wkE [] [] [] ee ⟨⟨_,ee,.ref ee (by decide) (ltd ee)⟩,⟨_,ee,.d (.refl _)⟩,⟨_,ee,.d (.refl _)⟩,trivial⟩ ⟨⟨ltd ee,.inr ⟨by decide,_,ee,q7s (.cons (q10 (by simp) ee (by decide) (ltd ee)) ee (.cons (.d (.refl _)) ee (.cons (.d (.refl _)) ee (.cons (.d (.refl _)) ee .nil))))⟩⟩,⟨ltd ee,.inr ⟨by decide,_,ee,.dat _ _⟩⟩,trivial⟩⟩
   refine qm ?_
   refine ⟨_,(Option.some.inj n).symm,fun hm=>?_⟩
   subst hm
   exact ⟨_,ee,wkA [] [] []⟩
  intro s hb
  subst hb
  refine q7<|q0<|mv_ ee<|mv_ ee<|v_ (.ref 0 4 0 0) ee<|v_ (.ref 0 4 0 3) ee<|q3r 0 (.cel 4 [[.hs 1 4 0 s.length,.d (.sl 2 (l.map qf)),di_ p,di_ a]]) ee<|q6<|qj ?_
  obtain rfl:=someE f
  exact ⟨.inr ee,_,ee,wkA [(2,1)] [] []⟩
 refine qd<|q7<|q0<|mv_ ee<|mv_ ee<|mv_ ee<|mv_ ee<|v_ (.ref 0 4 0 0) ee<|v_ (.ref 0 4 0 0) ee<|v_ (.hs 1 4 0 b.length) ee<|v_ (di_ (b.length : Int)) ee<|mv_ ee<|mv_ ee<|v_ (.ref 0 4 0 0) ee<|v_ (.ref 0 4 0 2) ee<|q3r 0 (.cel 4 [[.hs 1 4 0 b.length,.d (.sl 2 (l.map qf)),di_ (b.length : Int),di_ m]]) ee<|v_ (.ref 0 4 0 0) ee<|v_ (.ref 0 4 0 1) ee<|q3r 0 (.cel 4 [[.hs 1 4 0 b.length,.d (.sl 2 (g.map qf)),di_ (b.length : Int),di_ m]]) ee<|v_ (.ref 0 4 0 0) ee<|v_ (.ref 0 4 0 3) ee<|q3r 0 (.cel 4 [[.hs 1 4 0 b.length,.d (.sl 2 (g.map qf)),di_ (b.length : Int),di_ a]]) ee<|q6<|q7<|q0<|mv_ ee<|q15 ee ee ee ee<|mv_ ee<|q6 ?_
 obtain ⟨aq,ar,f⟩:=bindE f
 refine qh<|qn (q4c g h a b) (fun (o : Int × List api_Rect)=>⟨[(0,.ref 0 4 0 0),(1,di_ h),(2,di_ a),(71,.d (.sl 2 (g.map qf))),(72,di_ (g.length : Int)),(73,di_ o.1)],[(0,.cel 4 [[.hs 2 4 0 o.2.length,.d (.sl 2 (g.map qf)),di_ (b.length : Int),di_ a]]),(2,.dat 4 (o.2.map q9))],3⟩) (0,b) aq ar (wkA [(2,1)] [] []) ?_
 intro o ax k
 unfold q4c at k
 refine q7<|q0<|v_ (.d (.bool (decide (o.1 < (g.length : Int))))) ee<|q6<|q7 ?_
 refine qb ee k (fun _ k=>?_) (fun _ k=>?_)
 ·refine qd<|q7<|qh<|q7<|q0 ?_
  obtain ⟨c,as,k⟩:=bindE k
  refine qv (enc:=qf) as ee ee ee ee ee ee<|v_ (.d (.agg [i_ c.Lo,i_ c.Hi])) ee<|q2d ee ee<|q3r 3 (.dat 2 [[i_ c.Lo,i_ c.Hi]]) ee<|q6<|qg [(some [0],[0]),(some [],[]),(some [],[]),(some [2,4],[2,5]),(some [],[4]),(some [],[]),(some [3],[]),(some [],[]),(some [],[]),(some [3],[]),(some [],[]),(some [],[]),(some [0],[]),(some [],[]),(some [],[]),(some [],[]),(some [],[])] (by kernel_rfl)<|mv_ ee<|mv_ ee<|v_ (.ref 0 4 0 0) ee<|v_ (.ref 0 4 0 0) ee<|v_ (.hs 2 4 0 o.2.length) ee<|mv_ ee<|v_ (.ref 3 2 0 0) ee<|v_ (di_ c.Lo) ee<|mv_ ee<|v_ (.ref 3 2 0 1) ee<|v_ (di_ c.Hi) ee<|v_ (.d (.agg [i_ h,i_ c.Lo,i_ a,i_ c.Hi])) ee<|q3s (.hs 4 4 0 [({X0:=h,Y0:=c.Lo,X1:=a,Y1:=c.Hi} : api_Rect)].length) (.dat 4 ([({X0:=h,Y0:=c.Lo,X1:=a,Y1:=c.Hi} : api_Rect)].map q9)) ee ?_
  obtain ⟨au,av,k⟩:=bindE k
  refine q5l (xs:=o.2) (ys:=[({X0:=h,Y0:=c.Lo,X1:=a,Y1:=c.Hi} : api_Rect)]) (enc:=q9) (.hs 4 4 0 [({X0:=h,Y0:=c.Lo,X1:=a,Y1:=c.Hi} : api_Rect)].length) av ee ee ee ee ee ee ee (q4a ee ee) ee ee ee ee<|v_ (.ref 0 4 0 0) ee<|v_ (.ref 0 4 0 0) ee<|q3r 0 (.cel 4 [[.hs 5 4 0 au.length,.d (.sl 2 (g.map qf)),di_ (b.length : Int),di_ a]]) ee<|q6<|qc<|qr<|q0<|v_ (.d (i_ (w64 (o.1 + 1)))) ee<|mv_ ee<|q6<|qc ?_
  exact ⟨_,(Option.some.inj k).symm,wkA [(2,5)] [] []⟩
 refine qm ?_
 refine ⟨_,(Option.some.inj k).symm,fun hm=>?_⟩
 subst hm
 obtain rfl:=someE f
 exact ⟨.inl ee,_,ee,wkA [(2,2)] [] []⟩
theorem qjy (a : List api_Rect) (r : List api_Rect × Int) (u : q9a a = some r) : Pure Tryz.prog tab 108 [.sl 4 (a.map q9)] (.tup [.sl 4 (r.1.map q9),i_ r.2]):=by
 unfold q9a at u
 refine ql Tryz.func108 ee (by kernel_rfl) (by kernel_rfl) ee<|q7<|q0<|as_ ee<|as_ ee<|q6<|q7<|q0<|q2d ee ee<|q6<|q7<|q7<|q0<|mv_ ee<|q3s (.hs 1 1 0 [a].length) (.dat 1 ([a].map q1h)) ee ?_
 obtain ⟨av,l,u⟩:=bindE u
 refine qhn [.hs 1 1 0 [a].length] (fun h=>h = av) (fun (h : List Int)=>⟨[(2,.d (.nilsl)),(3,di_ 0),(4,.ref 0 4 0 0),(10,.fn 139 [.ref 1 1 0 0,.ref 2 1 0 0])],[(0,.dat 4 [[.nilsl,.nilsl,i_ 0,i_ 0]]),(1,.cel 1 [[.d (.sl 1 (h.map (eI .i64)))]]),(2,.cel 1 [[.hs 3 1 0 [a].length]]),(3,.dat 1 ([a].map q1h))],4⟩) ee ee Tryz.func130 ee (by kernel_rfl) (by kernel_rfl) ee ?_ ?_
 ·refine q7<|q0<|q3s (.ref 2 1 0 0) (.cel 1 [[.hs 1 1 0 [a].length]]) ee<|as_ ee<|q6<|q7<|q0<|q2d ee ee<|q6<|q7<|q7<|q0<|v_ (.hs 1 1 0 [a].length) ee<|v_ (di_ 1) ee<|mv_ ee<|q6<|qh<|q6p<|q7<|q0<|v_ (db_ true) ee<|q6<|q7<|qah ee<|qd<|q7 ?_
  obtain ⟨aw,ac,l⟩:=bindE l
  refine qk (fun m=>m = aw) (fun (m : List Int)=>⟨[(1,.ref 2 1 0 0),(3,.ref 3 1 0 0),(8,.hs 1 1 0 [a].length),(9,di_ 1),(10,di_ 0)],[(0,.dat 4 [[.nilsl,.nilsl,i_ 0,i_ 0]]),(1,.dat 1 ([a].map q1h)),(2,.cel 1 [[.hs 1 1 0 [a].length]]),(3,.cel 1 [[.hs 4 1 0 m.length]]),(4,.dat 1 (m.map (eI .i64)))],5⟩) (by simp) ?_ ?_
  ·refine q7<|q0 ?_
   obtain ⟨ad,am,ac⟩:=bindE ac
   refine qi am ee ee ee ee ee ee ee<|qp (.d (.sl 4 (ad.map q9))) am ee ee ee ee ee ee<|as_ ee<|q6<|q7<|q0<|mv_ ee<|q15 ee ee ee ee<|mv_ ee<|q6 ?_
   obtain ⟨ax,ay,ac⟩:=bindE ac
   refine qh<|qn (q53 ad) (fun (w : Int × List Int)=>⟨[(1,.ref 2 1 0 0),(3,.ref 3 1 0 0),(8,.hs 1 1 0 [a].length),(9,di_ 1),(10,di_ 0),(14,.d (.sl 4 (ad.map q9))),(15,di_ (ad.length : Int)),(16,di_ w.1)],[(0,.dat 4 [[.nilsl,.nilsl,i_ 0,i_ 0]]),(1,.dat 1 ([a].map q1h)),(2,.cel 1 [[.hs 1 1 0 [a].length]]),(3,.cel 1 [[.hs 4 1 0 w.2.length]]),(4,.dat 1 (w.2.map (eI .i64)))],5⟩) (0,[]) ax ay (wkA [(2,2),(3,3)] [] [4]) ?_
   intro w cb p
   unfold q53 at p
   refine q7<|q0<|v_ (.d (.bool (decide (w.1 < (ad.length : Int))))) ee<|q6<|q7 ?_
   refine qb ee p (fun _ p=>?_) (fun _ p=>?_)
   ·refine qd<|q7<|qh<|q7<|q0 ?_
    obtain ⟨g,az,p⟩:=bindE p
    refine qv (enc:=q9) az ee ee ee ee ee ee<|v_ (.d (.agg [i_ g.X0,i_ g.Y0,i_ g.X1,i_ g.Y1])) ee<|q2d ee ee<|q3r 5 (.dat 4 [[i_ g.X0,i_ g.Y0,i_ g.X1,i_ g.Y1]]) ee<|q6<|q0<|v_ (.hs 4 1 0 w.2.length) ee<|v_ (.ref 5 4 0 0) ee<|v_ (di_ g.X0) ee<|v_ (.ref 5 4 0 2) ee<|v_ (di_ g.X1) ee<|q3s (.hs 6 1 0 [g.X0,g.X1].length) (.dat 1 ([g.X0,g.X1].map (eI .i64))) ee ?_
    obtain ⟨ba,bb,p⟩:=bindE p
    refine q5l (xs:=w.2) (ys:=[g.X0,g.X1]) (enc:=(eI .i64)) (.hs 6 1 0 [g.X0,g.X1].length) bb ee ee ee ee ee ee ee (q4a ee ee) ee ee ee ee<|q3r 3 (.cel 1 [[.hs 7 1 0 ba.length]]) ee<|q6<|qc<|qr<|q0<|v_ (.d (i_ (w64 (w.1 + 1)))) ee<|mv_ ee<|q6<|qc ?_
    exact ⟨_,(Option.some.inj p).symm,wkA [(2,2),(3,3),(4,7)] [] []⟩
   refine qm ?_
   refine ⟨_,(Option.some.inj p).symm,fun hm=>?_⟩
   subst hm
   obtain rfl:=someE ac
   exact ⟨_,ee,wkA [(2,2),(3,3),(4,4)] [] []⟩
  intro m hb
  subst hb
  refine q0<|v_ (di_ 1) ee<|mv_ ee<|q6<|q6p<|q7<|q0<|v_ (db_ false) ee<|q6<|q7<|q6v ee<|qm<|qbs<|q7<|q0<|v_ (.hs 4 1 0 m.length) ee ?_
  obtain ⟨ak,bc,l⟩:=bindE l
  obtain ⟨cc,bd,l⟩:=bindE l
  have be:=q1a bd
  refine callG [(0,4)] [(0,1),(1,1),(2,1),(3,1),(4,0)] [.hs 4 1 0 m.length] (.d (.tup [])) 1 [(4,.dat 1 (ak.map (eI .i64))),(0,.dat 4 [[.nilsl,.nilsl,i_ 0,i_ 0]]),(1,.dat 1 ([a].map q1h)),(2,.cel 1 [[.hs 1 1 0 [a].length]]),(3,.cel 1 [[.hs 4 1 0 m.length]])] 5 (q7p m ak bc)<|q6<|q7<|q0<|v_ (.hs 4 1 0 m.length) ee ?_
  obtain ⟨z,bf,l⟩:=bindE l
  obtain ⟨cd,bg,l⟩:=bindE l
  have ce:=q1a bg
  obtain ⟨cf,bh,l⟩:=bindE l
  have bi:=qir bh
  refine q6w [(0,4)] [(0,1),(1,1),(2,1),(3,1),(4,0)] [.hs 4 1 0 m.length] (.hs 4 1 z.1.1 z.1.2) [(4,.dat 1 (z.2.map (eI .i64)))] [(4,.dat 1 (z.2.map (eI .i64))),(0,.dat 4 [[.nilsl,.nilsl,i_ 0,i_ 0]]),(1,.dat 1 ([a].map q1h)),(2,.cel 1 [[.hs 1 1 0 [a].length]]),(3,.cel 1 [[.hs 4 1 0 m.length]])] 5 (q71 ak z bf) ee ee ee (q5q [(0,4)] [] [] ee ⟨⟨_,ee,q10 (by simp [be]) ee (by decide) (ltd ee)⟩,trivial⟩ ⟨⟨ltd ee,.inr ⟨by decide,_,ee,.dat _ _⟩⟩,trivial⟩) (q5q [(0,1),(1,1),(2,1),(3,1),(4,0)] [] [] ee ⟨⟨_,ee,.hs ee (by decide) (ltd ee)⟩,trivial⟩ ⟨⟨ltd ee,.inr ⟨by decide,_,ee,.dat _ _⟩⟩,trivial⟩) ee ⟨.inl ee,.inr ⟨ee,ee⟩,.inr ⟨ee,ee⟩,.inr ⟨ee,ee⟩,.inr ⟨ee,ee⟩,trivial⟩<|q3r 3 (.cel 1 [[.hs 4 1 z.1.1 z.1.2]]) ee<|q6<|q7<|q0<|v_ (.fn 139 [.ref 3 1 0 0,.ref 2 1 0 0]) ee<|as_ ee<|q6<|qj ?_
  refine ⟨.inr ee,_,ee,?_⟩
  obtain rfl:=someE l
  exact ⟨_,ee,wkE [(0,0),(1,3),(2,2),(3,1)] [4] [] ee ⟨⟨_,ee,.d (.refl _)⟩,⟨_,ee,.d (.refl _)⟩,⟨_,ee,.ref ee (by decide) (ltd ee)⟩,⟨_,ee,(qdl (.cons (.ref ee (by decide) (ltd ee)) (.cons (.ref ee (by decide) (ltd ee)) .nil)))⟩,trivial⟩ ⟨⟨ltd ee,.inr ⟨by decide,_,ee,.dat _ _⟩⟩,⟨ltd ee,.inr ⟨by decide,_,ee,q7s (.cons (qp1 bi ee (by decide)) ee .nil)⟩⟩,⟨ltd ee,.inr ⟨by decide,_,ee,q7s (.cons (.hs ee (by decide) (ltd ee)) ee .nil)⟩⟩,⟨ltd ee,.inr ⟨by decide,_,ee,.dat _ _⟩⟩,trivial⟩⟩
 intro h hb
 subst hb
 refine q6<|qh ?_
 obtain ⟨bj,al,u⟩:=bindE u
 refine qji (fun n=>n = bj) (fun (n : List api_Span × Int × Int × List api_Rect)=>⟨[(4,.ref 0 4 0 0)],[(0,.cel 4 [[.hs 1 4 0 n.2.2.2.length,.d (.sl 2 (n.1.map qf)),di_ n.2.1,di_ n.2.2.1]]),(1,.dat 4 (n.2.2.2.map q9))],2⟩) ?_ ?_
 ·refine q7c (st':=⟨[(2,.d (.nilsl)),(3,di_ 0),(4,.ref 0 4 0 0),(10,.fn 139 [.ref 1 1 0 0,.ref 2 1 0 0])],[(0,.dat 4 [[.nilsl,.nilsl,i_ 0,i_ 0]]),(1,.cel 1 [[.d (.sl 1 (h.map (eI .i64)))]]),(2,.cel 1 [[.hs 3 1 0 [a].length]]),(3,.dat 1 ([a].map q1h))],4⟩) (wkA [(0,0),(1,1),(2,2),(3,3)] [] []) ?_ (by simp)
  refine qey [.ref 1 1 0 0,.ref 2 1 0 0] (.inl ee) Tryz.func139 ee (by kernel_rfl) (by kernel_rfl) ee ?_
  intro A847 B848 hA847 hB848
  refine q7<|q0<|as_ ee<|q6 ?_
  obtain ⟨bk,bl,al⟩:=bindE al
  refine qh<|qn (q54 h a) (fun (b : Int × List api_Span × Int × Int × List api_Rect)=>⟨[(0,.yld 4),(1,.ref 1 1 0 0),(2,.ref 2 1 0 0),(4,di_ b.1)],[(0,.cel 4 [[.hs 5 4 0 b.2.2.2.2.length,.d (.sl 2 (b.2.1.map qf)),di_ b.2.2.1,di_ b.2.2.2.1]]),(1,.cel 1 [[.d (.sl 1 (h.map (eI .i64)))]]),(2,.cel 1 [[.hs 3 1 0 [a].length]]),(3,.dat 1 ([a].map q1h)),(4,.loop [(2,.d (.nilsl)),(3,di_ 0),(4,.ref 0 4 0 0),(10,.fn 139 [.ref 1 1 0 0,.ref 2 1 0 0])] [11] A847 B848 .ready none),(5,.dat 4 (b.2.2.2.2.map q9))],6⟩) (1,[],0,0,[]) bk bl (wkA [] [] [5]) ?_
  intro b cg j
  unfold q54 at j
  refine q7<|q7<|q0<|mv_ ee<|v_ (.d (.sl 1 (h.map (eI .i64)))) ee<|q15 ee ee ee ee<|v_ (.d (.bool (decide (b.1 < (h.length : Int))))) ee<|q6 ?_
  refine qb ee j (fun _ j=>?_) (fun _ j=>?_)
  ·refine qd<|q7<|qh<|q7<|qg [(some [7],[7]),(some [],[7]),(some [],[]),(some [],[6]),(some [],[]),(some [2],[]),(some [],[]),(some [],[]),(some [],[]),(some [1],[]),(some [],[]),(some [],[]),(some [],[]),(some [],[]),(some [1],[])] (by kernel_rfl)<|v_ (.d (.sl 1 (h.map (eI .i64)))) ee<|mv_ ee<|v_ (.d (i_ (w64 (b.1 - 1)))) ee ?_
   obtain ⟨f,bm,j⟩:=bindE j
   refine qv (enc:=(eI .i64)) bm ee ee ee ee ee ee<|v_ (di_ f) ee<|v_ (.d (.sl 1 (h.map (eI .i64)))) ee<|mv_ ee ?_
   obtain ⟨k,bn,j⟩:=bindE j
   refine qv (enc:=(eI .i64)) bn ee ee ee ee ee ee<|v_ (di_ k) ee<|v_ (.hs 3 1 0 [a].length) ee<|v_ (di_ 1) ee<|q3s (.hs 6 1 0 1) (.dat 1 [[.nilsl]]) ee<|v_ (.agg [di_ f,di_ k,.hs 6 1 0 1]) ee<|q2d ee ee<|q3r 7 (.cel 3 [[di_ f,di_ k,.hs 6 1 0 1]]) ee<|q6<|q7<|q7<|q0<|v_ (.hs 3 1 0 [a].length) ee<|v_ (di_ 1) ee<|mv_ ee<|q6<|qh<|q6p<|q7<|q0<|v_ (db_ true) ee<|q6<|q7<|qah ee<|qd<|q7 ?_
   obtain ⟨bo,ae,j⟩:=bindE j
   refine qk (fun q=>q = bo) (fun (q : List api_Span)=>⟨[(0,.yld 4),(1,.ref 1 1 0 0),(2,.ref 2 1 0 0),(4,di_ b.1),(5,.ref 5 3 0 0),(29,.hs 3 1 0 [a].length),(30,di_ 1),(31,di_ 0)],[(0,.cel 4 [[.hs 6 4 0 b.2.2.2.2.length,.d (.sl 2 (b.2.1.map qf)),di_ b.2.2.1,di_ b.2.2.2.1]]),(1,.cel 1 [[.d (.sl 1 (h.map (eI .i64)))]]),(2,.cel 1 [[.hs 3 1 0 [a].length]]),(3,.dat 1 ([a].map q1h)),(4,.loop [(2,.d (.nilsl)),(3,di_ 0),(4,.ref 0 4 0 0),(10,.fn 139 [.ref 1 1 0 0,.ref 2 1 0 0])] [11] A847 B848 .ready none),(5,.cel 3 [[di_ f,di_ k,.hs 7 1 0 1]]),(6,.dat 4 (b.2.2.2.2.map q9)),(7,.cel 1 [[.hs 8 2 0 q.length]]),(8,.dat 2 (q.map qf))],9⟩) (by simp) ?_ ?_
   ·refine q7<|q0<|mv_ ee ?_
    obtain ⟨aa,an,ae⟩:=bindE ae
    refine qi an ee ee ee ee ee ee ee<|qp (.d (.sl 4 (aa.map q9))) an ee ee ee ee ee ee<|as_ ee<|as_ ee<|q6<|q7<|q0<|mv_ ee<|q15 ee ee ee ee<|mv_ ee<|q6 ?_
    obtain ⟨bp,bq,ae⟩:=bindE ae
    refine qh<|qn (q5j aa f) (fun (t : Int × List api_Span)=>⟨[(0,.yld 4),(1,.ref 1 1 0 0),(2,.ref 2 1 0 0),(4,di_ b.1),(5,.ref 5 3 0 0),(6,di_ 0),(29,.hs 3 1 0 [a].length),(30,di_ 1),(31,di_ 0),(36,.d (.sl 4 (aa.map q9))),(37,di_ (aa.length : Int)),(38,di_ t.1)],[(0,.cel 4 [[.hs 6 4 0 b.2.2.2.2.length,.d (.sl 2 (b.2.1.map qf)),di_ b.2.2.1,di_ b.2.2.2.1]]),(1,.cel 1 [[.d (.sl 1 (h.map (eI .i64)))]]),(2,.cel 1 [[.hs 3 1 0 [a].length]]),(3,.dat 1 ([a].map q1h)),(4,.loop [(2,.d (.nilsl)),(3,di_ 0),(4,.ref 0 4 0 0),(10,.fn 139 [.ref 1 1 0 0,.ref 2 1 0 0])] [11] A847 B848 .ready none),(5,.cel 3 [[di_ f,di_ k,.hs 7 1 0 1]]),(6,.dat 4 (b.2.2.2.2.map q9)),(7,.cel 1 [[.hs 8 2 0 t.2.length]]),(8,.dat 2 (t.2.map qf))],9⟩) (0,[]) bp bq (wkA [(5,7),(6,5),(7,6)] [] [8]) ?_
    intro t ch x
    unfold q5j at x
    refine q7<|q0<|v_ (.d (.bool (decide (t.1 < (aa.length : Int))))) ee<|q6<|q7 ?_
    refine qb ee x (fun _ x=>?_) (fun _ x=>?_)
    ·refine qd<|q7 ?_
     obtain ⟨br,o,x⟩:=bindE x
     refine qk (fun af=>af = br) (fun (af : List api_Span)=>⟨[(0,.yld 4),(1,.ref 1 1 0 0),(2,.ref 2 1 0 0),(4,di_ b.1),(5,.ref 5 3 0 0),(6,di_ 0),(29,.hs 3 1 0 [a].length),(30,di_ 1),(31,di_ 0),(36,.d (.sl 4 (aa.map q9))),(37,di_ (aa.length : Int)),(38,di_ t.1)],[(0,.cel 4 [[.hs 6 4 0 b.2.2.2.2.length,.d (.sl 2 (b.2.1.map qf)),di_ b.2.2.1,di_ b.2.2.2.1]]),(1,.cel 1 [[.d (.sl 1 (h.map (eI .i64)))]]),(2,.cel 1 [[.hs 3 1 0 [a].length]]),(3,.dat 1 ([a].map q1h)),(4,.loop [(2,.d (.nilsl)),(3,di_ 0),(4,.ref 0 4 0 0),(10,.fn 139 [.ref 1 1 0 0,.ref 2 1 0 0])] [11] A847 B848 .ready none),(5,.cel 3 [[di_ f,di_ k,.hs 7 1 0 1]]),(6,.dat 4 (b.2.2.2.2.map q9)),(7,.cel 1 [[.hs 8 2 0 af.length]]),(8,.dat 2 (af.map qf))],9⟩) (by simp) ?_ ?_
     ·refine q7<|q0 ?_
      obtain ⟨c,bs,o⟩:=bindE o
      refine qv (enc:=q9) bs ee ee ee ee ee ee<|v_ (.d (.agg [i_ c.X0,i_ c.Y0,i_ c.X1,i_ c.Y1])) ee<|q2d ee ee<|q3r 9 (.dat 4 [[i_ c.X0,i_ c.Y0,i_ c.X1,i_ c.Y1]]) ee<|q6<|q7<|q0<|v_ (.ref 9 4 0 0) ee<|v_ (di_ c.X0) ee<|v_ (.ref 5 3 0 0) ee<|v_ (di_ f) ee<|v_ (.d (.bool (decide (c.X0≤f)))) ee ?_
      obtain ⟨bt,ag,o⟩:=bindE o
      refine qo 7 (fun A st=>∃ (ao ap aq ar as au : V),st = A [(53,db_ bt),(52,au),(51,as),(50,ar),(49,aq),(48,ap),(47,ao)]) ?_ ?_
      ·refine qs ee ee ag (fun ag=>?_) (fun ag=>?_)
       ·refine v_ (.ref 5 3 0 0) ee<|v_ (di_ f) ee<|v_ (.ref 9 4 0 2) ee<|v_ (di_ c.X1) ee<|v_ (.d (.bool (decide (f < c.X1)))) ee<|v_ (.d (.bool (decide (f < c.X1)))) ee<|q6 ?_
        obtain rfl:=someE ag
        exact ⟨_,_,_,_,_,_,ee⟩
       refine q8 ee<|q8 ee<|q8 ee<|q8 ee<|q8 ee<|v_ (db_ false) ee<|q6 ?_
       obtain rfl:=someE ag
       exact ⟨_,_,_,_,_,_,ee⟩
      rintro _ ⟨ao,ap,aq,ar,as,au,rfl⟩
      refine q6 ?_
      refine qb ee o (fun _ o=>?_) (fun _ o=>?_)
      ·refine qg [(some [7],[7]),(some [],[]),(some [8,10],[8,11]),(some [],[10]),(some [],[]),(some [9],[]),(some [],[]),(some [9],[]),(some [],[]),(some [7],[]),(some [],[]),(some [],[]),(some [5],[]),(some [],[]),(some [],[]),(some [5],[]),(some [],[])] (by kernel_rfl)<|v_ (.ref 5 3 0 2) ee<|v_ (.hs 7 1 0 1) ee<|mv_ ee<|v_ (.ref 5 3 0 2) ee<|v_ (.hs 7 1 0 1) ee<|mv_ ee<|v_ (.ref 7 1 0 0) ee<|v_ (.hs 8 2 0 t.2.length) ee<|v_ (.ref 9 4 0 1) ee<|v_ (di_ c.Y0) ee<|v_ (.ref 9 4 0 3) ee<|v_ (di_ c.Y1) ee<|v_ (.d (.agg [i_ c.Y0,i_ c.Y1])) ee<|q3s (.hs 10 2 0 [({Lo:=c.Y0,Hi:=c.Y1} : api_Span)].length) (.dat 2 ([({Lo:=c.Y0,Hi:=c.Y1} : api_Span)].map qf)) ee ?_
       obtain ⟨bu,bv,o⟩:=bindE o
       refine q5l (xs:=t.2) (ys:=[({Lo:=c.Y0,Hi:=c.Y1} : api_Span)]) (enc:=qf) (.hs 10 2 0 [({Lo:=c.Y0,Hi:=c.Y1} : api_Span)].length) bv ee ee ee ee ee ee ee (q4a ee ee) ee ee ee ee<|v_ (.ref 7 1 0 0) ee<|q3r 7 (.cel 1 [[.hs 11 2 0 bu.length]]) ee<|q6<|qc ?_
       obtain rfl:=someE o
       exact ⟨_,ee,wkA [(5,5),(6,6),(7,7),(8,11)] [] []⟩
      refine qd<|qc ?_
      obtain rfl:=someE o
      exact ⟨_,ee,wkA [(5,5),(6,6),(7,7),(8,8)] [] []⟩
     intro af hb
     subst hb
     refine q0<|v_ (.d (i_ (w64 (t.1 + 1)))) ee<|mv_ ee<|q6<|qc ?_
     exact ⟨_,(Option.some.inj x).symm,wkA [(5,5),(6,6),(7,7),(8,8)] [] []⟩
    refine qm ?_
    refine ⟨_,(Option.some.inj x).symm,fun hm=>?_⟩
    subst hm
    obtain rfl:=someE ae
    exact ⟨_,ee,wkA [(5,5),(6,6),(7,7),(8,8)] [] []⟩
   intro q hb
   subst hb
   refine q0<|v_ (di_ 1) ee<|mv_ ee<|q6<|q6p<|q7<|q0<|v_ (db_ false) ee<|q6<|q7<|q6v ee<|qm<|qbs<|q7 ?_
   refine q7c (st':=⟨[(0,.yld 4),(1,.ref 1 1 0 0),(2,.ref 2 1 0 0),(4,di_ b.1),(5,.ref 5 3 0 0)],[(0,.cel 4 [[.hs 6 4 0 b.2.2.2.2.length,.d (.sl 2 (b.2.1.map qf)),di_ b.2.2.1,di_ b.2.2.2.1]]),(1,.cel 1 [[.d (.sl 1 (h.map (eI .i64)))]]),(2,.cel 1 [[.hs 3 1 0 [a].length]]),(3,.dat 1 ([a].map q1h)),(4,.loop [(2,.d (.nilsl)),(3,di_ 0),(4,.ref 0 4 0 0),(10,.fn 139 [.ref 1 1 0 0,.ref 2 1 0 0])] [11] A847 B848 .ready none),(5,.cel 3 [[di_ f,di_ k,.hs 7 1 0 1]]),(6,.dat 4 (b.2.2.2.2.map q9)),(7,.cel 1 [[.d (.sl 2 (q.map qf))]])],8⟩) (wkA [(5,5),(6,6),(7,7)] [8] []) ?_ (by simp)
   refine q0<|mv_ ee<|v_ (.agg [di_ f,di_ k,.hs 7 1 0 1]) ee ?_
   obtain ⟨bw,ah,j⟩:=bindE j
   refine qex (fun y=>y = bw) (fun (y : List api_Span × Int × Int × List api_Rect)=>⟨[(0,.yld 4),(1,.ref 1 1 0 0),(2,.ref 2 1 0 0),(4,di_ b.1),(74,db_ true)],[(0,.cel 4 [[.hs 5 4 0 y.2.2.2.length,.d (.sl 2 (y.1.map qf)),di_ y.2.1,di_ y.2.2.1]]),(1,.cel 1 [[.d (.sl 1 (h.map (eI .i64)))]]),(2,.cel 1 [[.hs 3 1 0 [a].length]]),(3,.dat 1 ([a].map q1h)),(4,.loop [(2,.d (.nilsl)),(3,di_ 0),(4,.ref 0 4 0 0),(10,.fn 139 [.ref 1 1 0 0,.ref 2 1 0 0])] [11] A847 B848 .ready none),(5,.dat 4 (y.2.2.2.map q9))],6⟩) hA847 hB848 ee ee ee ee ee ee ?_ ?_
   ·refine q0<|q2d ee ee<|q3r 8 (.cel 3 [[di_ f,di_ k,.hs 7 1 0 1]]) ee<|q6<|qc ?_
    refine ⟨ee,_,ee,?_⟩
    refine qh<|q7<|q0<|v_ (.ref 8 3 0 2) ee<|v_ (.hs 7 1 0 1) ee<|v_ (.ref 7 1 0 0) ee<|v_ (.d (.sl 2 (q.map qf))) ee ?_
    obtain ⟨ai,bx,ah⟩:=bindE ah
    refine qu [.d (.sl 2 (q.map qf))] (qno q ai bx) ee ee ee (.inl ee)<|mv_ ee<|v_ (.d (.sl 2 (ai.1.map qf))) ee<|v_ (di_ ai.2) ee<|as_ ee<|as_ ee<|q6<|q0<|v_ (.ref 8 3 0 0) ee<|v_ (di_ f) ee<|v_ (.ref 8 3 0 1) ee<|v_ (di_ k) ee<|mv_ ee ?_
    obtain ⟨ab,bz,ah⟩:=bindE ah
    refine callG [(0,0),(1,6)] [(0,0),(1,3),(2,3),(3,3),(4,3),(5,3),(6,1),(7,3),(8,3),(9,2)] [.ref 0 4 0 0,di_ f,di_ k,.d (.sl 2 (ai.1.map qf))] (.d (.tup [])) 2 [(0,.cel 4 [[.hs 9 4 0 ab.2.2.2.length,.d (.sl 2 (ab.1.map qf)),di_ ab.2.1,di_ ab.2.2.1]]),(9,.dat 4 (ab.2.2.2.map q9)),(1,.cel 1 [[.d (.sl 1 (h.map (eI .i64)))]]),(2,.cel 1 [[.hs 3 1 0 [a].length]]),(3,.dat 1 ([a].map q1h)),(4,.loop [(2,.d (.nilsl)),(3,di_ 0),(4,.ref 0 4 0 0),(10,.fn 139 [.ref 1 1 0 0,.ref 2 1 0 0])] [11] A847 B848 .busy none),(5,.cel 3 [[di_ f,di_ k,.hs 7 1 0 1]]),(7,.cel 1 [[.d (.sl 2 (q.map qf))]]),(8,.cel 3 [[di_ f,di_ k,.hs 7 1 0 1]])] 10 (qbl b.2.2.2.2 b.2.1 b.2.2.1 b.2.2.2.1 f k ai.1 ab bz)<|q6<|qc<|qr<|qc ?_
    refine ⟨_,ee,?_⟩
    obtain rfl:=someE ah
    exact ⟨_,ee,wkA [(5,9)] [] []⟩
   intro y hb
   subst hb
   refine v_ (db_ false) ee<|q6<|q6v ee<|qd<|qc<|qr<|q0<|mv_ ee<|v_ (.d (i_ (w64 (b.1 + 1)))) ee<|as_ ee<|q6<|qc ?_
   exact ⟨_,(Option.some.inj j).symm,wkA [(5,5)] [] []⟩
  refine qm ?_
  refine ⟨_,(Option.some.inj j).symm,fun hm=>?_⟩
  subst hm
  refine ⟨.inl ee,_,ee,_,_,.nor,ee,by decide,?_⟩
  refine qez<|qc ?_
  obtain rfl:=someE al
  exact ⟨_,ee,wkA [(0,0),(1,5)] [] []⟩
 intro n st hb hw
 subst hb
 refine q7c hw ?_ (by simp)
 refine q7<|q0 ?_
 obtain ⟨ca,aj,u⟩:=bindE u
 refine qhn [.ref 0 4 0 0] (fun s=>s = ca) (fun (s : Int × List api_Rect)=>⟨[(26,.tup [.hs 0 4 0 s.2.length,di_ s.1])],[(0,.dat 4 (s.2.map q9))],1⟩) ee ee Tryz.func119 ee (by kernel_rfl) (by kernel_rfl) ee ?_ ?_
 ·refine q7<|q0<|as_ ee<|as_ ee<|q6<|q7<|q7<|q0<|mv_ ee<|v_ (.ref 0 4 0 0) ee<|v_ (.ref 0 4 0 0) ee<|v_ (.hs 1 4 0 n.2.2.2.length) ee<|v_ (di_ (n.2.2.2.length : Int)) ee<|v_ (.d (.bool (decide ((n.2.2.2.length : Int) > 400)))) ee<|q6 ?_
  refine qb ee aj (fun _ aj=>?_) (fun _ aj=>?_)
  ·refine q7<|q0<|as_ ee<|as_ ee<|q6<|qj ?_
   refine ⟨.inr ee,_,ee,?_⟩
   obtain rfl:=someE aj
   exact ⟨_,ee,wkA [] [] [0]⟩
  refine qd<|q7<|q0<|mv_ ee<|v_ (.ref 0 4 0 0) ee<|v_ (.ref 0 4 0 0) ee<|v_ (.hs 1 4 0 n.2.2.2.length) ee<|as_ ee<|as_ ee<|q6<|qj ?_
  refine ⟨.inr ee,_,ee,?_⟩
  obtain rfl:=someE aj
  exact ⟨_,ee,wkA [(0,1)] [] []⟩
 intro s hb
 subst hb
 refine v_ (.hs 0 4 0 s.2.length) ee<|v_ (di_ s.1) ee<|as_ ee<|as_ ee<|q6<|qj ?_
 obtain rfl:=someE u
 exact finD (.inr ee) (v:=.tup [.hs 0 4 0 s.2.length,di_ s.1]) ee (qmg (qal (qa1 ee ee) (qal ee ee))) (.refl _)
theorem qjz (b : List api_Rect) (r : List api_Rect × Int) (a : q7u b = some r) : Pure Tryz.prog tab 83 [.sl 4 (b.map q9)] (.tup [.sl 4 (r.1.map q9),i_ r.2]):=by
 unfold q7u at a
 refine ql Tryz.func83 ee (by kernel_rfl) (by kernel_rfl) ee<|q7<|q0<|as_ ee<|as_ ee<|q6<|q7<|q7<|q0<|mv_ ee<|q15 ee ee ee ee<|v_ (.d (.bool (decide ((b.length : Int) > 400)))) ee<|q6 ?_
 refine qb ee a (fun _ a=>?_) (fun _ a=>?_)
 ·refine q7<|q0<|as_ ee<|as_ ee<|q6<|qj ?_
  obtain rfl:=someE a
  exact finD (.inr ee) (v:=.d (.tup [.nilsl,i_ 4])) ee ee (q6j (.cons (.nil _) (.cons (.refl _) .nil)))
 refine qd<|q7<|q7<|q0<|mv_ ee ?_
 obtain ⟨g,h,a⟩:=bindE a
 refine qu [.d (.sl 4 (b.map q9)),.d (.fn 114 [])] (q7g b (fun f=>q5d f) 114 [] (fun f r hr=>qi9 f r hr) g h) ee ee ee (.inl ee)<|q6 ?_
 refine qb ee a (fun _ a=>?_) (fun _ a=>?_)
 ·refine q7<|q0<|as_ ee<|as_ ee<|q6<|qj ?_
  obtain rfl:=someE a
  exact finD (.inr ee) (v:=.d (.tup [.nilsl,i_ 8])) ee ee (q6j (.cons (.nil _) (.cons (.refl _) .nil)))
 refine qd<|q7<|q0<|mv_ ee ?_
 obtain ⟨c,j,a⟩:=bindE a
 refine qu [.d (.sl 4 (b.map q9))] (qjy b c j) ee ee ee (.inl ee)<|v_ (.d (.sl 4 (c.1.map q9))) ee<|v_ (di_ c.2) ee<|as_ ee<|as_ ee<|q6<|qj ?_
 obtain rfl:=someE a
 exact finD (.inr ee) (v:=.d (.tup [.sl 4 (c.1.map q9),i_ c.2])) ee ee (.refl _)
theorem q94 (g : List api_Rect) (h : List api_Rect) (r : Bool) (b : q3v g h = some r) : Pure Tryz.prog tab 109 [.sl 4 (g.map q9),.sl 4 (h.map q9)] (.bool r):=by
 unfold q3v at b
 refine ql Tryz.func109 ee (by kernel_rfl) (by kernel_rfl) ee<|q7<|q0<|as_ ee<|q6<|q7<|q7<|q0<|mv_ ee<|q15 ee ee ee ee<|mv_ ee<|q15 ee ee ee ee<|v_ (.d (.bool ((g.length : Int) != (h.length : Int)))) ee<|q6 ?_
 refine qb ee b (fun _ b=>?_) (fun _ b=>?_)
 ·refine q7<|q0<|as_ ee<|q6<|qj ?_
  obtain rfl:=someE b
  exact finD (.inr ee) (v:=(db_ false)) ee ee (.refl _)
 refine qd<|q7<|q7<|q0<|mv_ ee<|q15 ee ee ee ee<|mv_ ee<|q6 ?_
 obtain ⟨l,m,b⟩:=bindE b
 refine qk (fun k=>.inl k = l) (fun (k : Unit)=>⟨[],[],0⟩) (by simp) ?_ ?_
 ·refine qn (q43 g h) (fun (j : Int)=>⟨[(0,.d (.sl 4 (g.map q9))),(1,.d (.sl 4 (h.map q9))),(12,di_ (g.length : Int)),(13,di_ j)],[],0⟩) 0 l m (wkA [] [] []) ?_
  intro j p a
  unfold q43 at a
  refine q7<|q0<|v_ (.d (.bool (decide (j < (g.length : Int))))) ee<|q6<|q7 ?_
  refine qb ee a (fun _ a=>?_) (fun _ a=>?_)
  ·refine qd<|q7<|qh<|q7<|q0<|mv_ ee<|as_ ee<|q6<|q7<|qg [(some [],[]),(some [],[]),(some [],[]),(some [],[]),(some [],[]),(some [],[]),(some [],[]),(some [],[]),(some [],[])] (by kernel_rfl)<|mv_ ee<|mv_ ee ?_
   obtain ⟨c,n,a⟩:=bindE a
   refine qv (enc:=q9) n ee ee ee ee ee ee<|v_ (.d (.agg [i_ c.X0,i_ c.Y0,i_ c.X1,i_ c.Y1])) ee<|mv_ ee<|mv_ ee ?_
   obtain ⟨f,o,a⟩:=bindE a
   refine qv (enc:=q9) o ee ee ee ee ee ee<|v_ (.d (.agg [i_ f.X0,i_ f.Y0,i_ f.X1,i_ f.Y1])) ee<|v_ (.d (.bool (!((c.X0 == f.X0) && ((c.Y0 == f.Y0) && ((c.X1 == f.X1) && ((c.Y1 == f.Y1) && true))))))) ee<|q6 ?_
   refine qb ee a (fun _ a=>?_) (fun _ a=>?_)
   ·refine q7<|q0<|as_ ee<|q6<|qj ?_
    refine ⟨_,(Option.some.inj a).symm,fun hm=>?_⟩
    subst hm
    obtain rfl:=someE b
    exact finD (.inr ee) (v:=(db_ false)) ee ee (.refl _)
   refine qd<|qc<|qr<|q0<|v_ (.d (i_ (w64 (j + 1)))) ee<|mv_ ee<|q6<|qc ?_
   exact ⟨_,(Option.some.inj a).symm,wkA [] [] []⟩
  refine qm ?_
  refine ⟨_,(Option.some.inj a).symm,fun hm=>?_⟩
  subst hm
  exact ⟨_,ee,wkA [] [] []⟩
 intro k hb
 subst hb
 refine q7<|q0<|as_ ee<|q6<|qj ?_
 obtain rfl:=someE b
 exact finD (.inr ee) (v:=(db_ true)) ee ee (.refl _)
theorem qc3 (c : List api_Box) (l : List api_Rect) (p : Int) (m : Int) (h : Int) (b : Int) (g : List api_Rect) (r : List api_Rect × Int × Int × List api_Box) (f : q5a  c l p m h b g = some r) : EvCall Tryz.prog tab 84 [.ref 0 4 0 0,di_ h,di_ b,.d (.sl 4 (g.map q9))] [(0,.cel 4 [[.hs 1 6 0 c.length,.d (.sl 4 (l.map q9)),di_ p,di_ m]]),(1,.dat 6 (c.map qa))] 2 (.d (.tup [])) [(0,.cel 4 [[.hs 2 6 0 r.2.2.2.length,.d (.sl 4 (r.1.map q9)),di_ r.2.1,di_ r.2.2.1]]),(2,.dat 6 (r.2.2.2.map qa))] 3:=by
 unfold q5a at f
 refine q14 Tryz.func84 ee (by kernel_rfl) (by kernel_rfl) ee<|q7<|q7<|q0<|mv_ ee<|q15 ee ee ee ee<|v_ (.d (.bool (decide ((g.length : Int) > 0)))) ee ?_
 obtain ⟨am,t,f⟩:=bindE f
 refine qo 8 (fun A st=>∃ (v w x y z aa ab : V),st = A [(21,db_ am),(20,ab),(19,aa),(18,z),(17,y),(16,x),(15,w),(14,v)]) ?_ ?_
 ·refine qs ee ee t (fun t=>?_) (fun t=>?_)
  ·refine mv_ ee<|v_ (.ref 0 4 0 0) ee<|v_ (.ref 0 4 0 3) ee<|v_ (di_ m) ee<|mv_ ee<|v_ (db_ (m == h)) ee<|v_ (db_ (m == h)) ee<|q6 ?_
   obtain rfl:=someE t
   exact ⟨_,_,_,_,_,_,_,ee⟩
  refine q8 ee<|q8 ee<|q8 ee<|q8 ee<|q8 ee<|q8 ee<|v_ (db_ false) ee<|q6 ?_
  obtain rfl:=someE t
  exact ⟨_,_,_,_,_,_,_,ee⟩
 rintro _ ⟨v,w,x,y,z,aa,ab,rfl⟩
 obtain ⟨an,q,f⟩:=bindE f
 refine qo 8 (fun A st=>∃ (ac ad ae af ag ah ai : V),st = A [(29,db_ an),(28,ai),(27,ah),(26,ag),(25,af),(24,ae),(23,ad),(22,ac)]) ?_ ?_
 ·refine qs ee ee q (fun q=>?_) (fun q=>?_)
  ·refine mv_ ee<|v_ (.ref 0 4 0 0) ee<|v_ (.ref 0 4 0 1) ee<|v_ (.d (.sl 4 (l.map q9))) ee<|mv_ ee ?_
   obtain ⟨aj,ao,q⟩:=bindE q
   refine qu [.d (.sl 4 (l.map q9)),.d (.sl 4 (g.map q9))] (q94 l g aj ao) ee ee ee (.inl ee)<|v_ (db_ aj) ee<|q6 ?_
   obtain rfl:=someE q
   exact ⟨_,_,_,_,_,_,_,ee⟩
  refine q8 ee<|q8 ee<|q8 ee<|q8 ee<|q8 ee<|q8 ee<|v_ (db_ false) ee<|q6 ?_
  obtain rfl:=someE q
  exact ⟨_,_,_,_,_,_,_,ee⟩
 rintro _ ⟨ac,ad,ae,af,ag,ah,ai,rfl⟩
 refine q6 ?_
 refine qb ee f (fun _ f=>?_) (fun _ f=>?_)
 ·refine q7<|q7<|q0<|mv_ ee<|v_ (.ref 0 4 0 0) ee<|v_ (.ref 0 4 0 2) ee<|v_ (di_ p) ee<|as_ ee<|q6 ?_
  obtain ⟨ak,ap,f⟩:=bindE f
  refine qk (fun s=>s = ak) (fun (s : List api_Box)=>⟨[(0,.ref 0 4 0 0),(2,di_ b)],[(0,.cel 4 [[.hs 1 6 0 s.length,.d (.sl 4 (l.map q9)),di_ p,di_ m]]),(1,.dat 6 (s.map qa))],2⟩) (by simp) ?_ ?_
  ·refine qn (q4h b) (fun (j : Int × List api_Box)=>⟨[(0,.ref 0 4 0 0),(2,di_ b),(8,di_ j.1)],[(0,.cel 4 [[.hs 1 6 0 j.2.length,.d (.sl 4 (l.map q9)),di_ p,di_ m]]),(1,.dat 6 (j.2.map qa))],2⟩) (p,c) ak ap (wkA [] [] []) ?_
   intro j aw n
   unfold q4h at n
   refine q7<|q7<|q0<|mv_ ee<|mv_ ee<|v_ (.ref 0 4 0 0) ee<|v_ (.ref 0 4 0 0) ee<|v_ (.hs 1 6 0 j.2.length) ee<|v_ (di_ (j.2.length : Int)) ee<|v_ (.d (.bool (decide (j.1 < (j.2.length : Int))))) ee<|q6 ?_
   refine qb ee n (fun _ n=>?_) (fun _ n=>?_)
   ·refine qd<|q7<|qh<|q0<|mv_ ee<|v_ (.ref 0 4 0 0) ee<|v_ (.ref 0 4 0 0) ee<|v_ (.hs 1 6 0 j.2.length) ee<|mv_ ee<|mv_ ee ?_
    obtain ⟨u,al,n⟩:=bindE n
    refine qi al ee ee ee ee ee ee ee<|v_ (.ref 1 6 j.1.toNat 3) ee<|v_ (.ref 1 6 j.1.toNat 5) ee<|q12 (ds:=[i_ b]) ({Lo:=u.Lo,Hi:=({X:=u.Hi.X,Y:=u.Hi.Y,Z:=b} : qz)} : api_Box) al ee ee ee ee ee ee ee ee (leb ee) ee<|q6<|qc<|qr<|q0<|mv_ ee<|v_ (.d (i_ (w64 (j.1 + 1)))) ee<|as_ ee<|q6<|qc ?_
    exact ⟨_,(Option.some.inj n).symm,wkE [] [] [] ee ⟨⟨_,ee,.ref ee (by decide) (ltd ee)⟩,⟨_,ee,.d (.refl _)⟩,⟨_,ee,.d (.refl _)⟩,trivial⟩ ⟨⟨ltd ee,.inr ⟨by decide,_,ee,q7s (.cons (q10 (by simp) ee (by decide) (ltd ee)) ee (.cons (.d (.refl _)) ee (.cons (.d (.refl _)) ee (.cons (.d (.refl _)) ee .nil))))⟩⟩,⟨ltd ee,.inr ⟨by decide,_,ee,.dat _ _⟩⟩,trivial⟩⟩
   refine qm ?_
   refine ⟨_,(Option.some.inj n).symm,fun hm=>?_⟩
   subst hm
   exact ⟨_,ee,wkA [] [] []⟩
  intro s hb
  subst hb
  refine q7<|q0<|mv_ ee<|mv_ ee<|v_ (.ref 0 4 0 0) ee<|v_ (.ref 0 4 0 3) ee<|q3r 0 (.cel 4 [[.hs 1 6 0 s.length,.d (.sl 4 (l.map q9)),di_ p,di_ b]]) ee<|q6<|qj ?_
  obtain rfl:=someE f
  exact ⟨.inr ee,_,ee,wkA [(2,1)] [] []⟩
 refine qd<|q7<|q0<|mv_ ee<|mv_ ee<|mv_ ee<|mv_ ee<|v_ (.ref 0 4 0 0) ee<|v_ (.ref 0 4 0 0) ee<|v_ (.hs 1 6 0 c.length) ee<|v_ (di_ (c.length : Int)) ee<|mv_ ee<|mv_ ee<|v_ (.ref 0 4 0 0) ee<|v_ (.ref 0 4 0 2) ee<|q3r 0 (.cel 4 [[.hs 1 6 0 c.length,.d (.sl 4 (l.map q9)),di_ (c.length : Int),di_ m]]) ee<|v_ (.ref 0 4 0 0) ee<|v_ (.ref 0 4 0 1) ee<|q3r 0 (.cel 4 [[.hs 1 6 0 c.length,.d (.sl 4 (g.map q9)),di_ (c.length : Int),di_ m]]) ee<|v_ (.ref 0 4 0 0) ee<|v_ (.ref 0 4 0 3) ee<|q3r 0 (.cel 4 [[.hs 1 6 0 c.length,.d (.sl 4 (g.map q9)),di_ (c.length : Int),di_ b]]) ee<|q6<|q7<|q0<|mv_ ee<|q15 ee ee ee ee<|mv_ ee<|q6 ?_
 obtain ⟨aq,ar,f⟩:=bindE f
 refine qh<|qn (q4i g h b c) (fun (o : Int × List api_Box)=>⟨[(0,.ref 0 4 0 0),(1,di_ h),(2,di_ b),(72,.d (.sl 4 (g.map q9))),(73,di_ (g.length : Int)),(74,di_ o.1)],[(0,.cel 4 [[.hs 2 6 0 o.2.length,.d (.sl 4 (g.map q9)),di_ (c.length : Int),di_ b]]),(2,.dat 6 (o.2.map qa))],3⟩) (0,c) aq ar (wkA [(2,1)] [] []) ?_
 intro o ax k
 unfold q4i at k
 refine q7<|q0<|v_ (.d (.bool (decide (o.1 < (g.length : Int))))) ee<|q6<|q7 ?_
 refine qb ee k (fun _ k=>?_) (fun _ k=>?_)
 ·refine qd<|q7<|qh<|q7<|q0 ?_
  obtain ⟨a,as,k⟩:=bindE k
  refine qv (enc:=q9) as ee ee ee ee ee ee<|v_ (.d (.agg [i_ a.X0,i_ a.Y0,i_ a.X1,i_ a.Y1])) ee<|q2d ee ee<|q3r 3 (.dat 4 [[i_ a.X0,i_ a.Y0,i_ a.X1,i_ a.Y1]]) ee<|q6<|qg [(some [0],[0]),(some [],[]),(some [],[]),(some [2,4],[2,5]),(some [],[4]),(some [],[]),(some [],[]),(some [],[]),(some [3],[]),(some [],[]),(some [3],[]),(some [],[]),(some [],[]),(some [],[]),(some [3],[]),(some [],[]),(some [3],[]),(some [],[]),(some [0],[]),(some [],[]),(some [],[]),(some [],[]),(some [],[])] (by kernel_rfl)<|mv_ ee<|mv_ ee<|v_ (.ref 0 4 0 0) ee<|v_ (.ref 0 4 0 0) ee<|v_ (.hs 2 6 0 o.2.length) ee<|v_ (.ref 3 4 0 0) ee<|v_ (di_ a.X0) ee<|v_ (.ref 3 4 0 1) ee<|v_ (di_ a.Y0) ee<|mv_ ee<|v_ (.d (.agg [i_ a.X0,i_ a.Y0,i_ h])) ee<|v_ (.ref 3 4 0 2) ee<|v_ (di_ a.X1) ee<|v_ (.ref 3 4 0 3) ee<|v_ (di_ a.Y1) ee<|mv_ ee<|v_ (.d (.agg [i_ a.X1,i_ a.Y1,i_ b])) ee<|v_ (.d (.agg [i_ a.X0,i_ a.Y0,i_ h,i_ a.X1,i_ a.Y1,i_ b])) ee<|q3s (.hs 4 6 0 [({Lo:=({X:=a.X0,Y:=a.Y0,Z:=h} : qz),Hi:=({X:=a.X1,Y:=a.Y1,Z:=b} : qz)} : api_Box)].length) (.dat 6 ([({Lo:=({X:=a.X0,Y:=a.Y0,Z:=h} : qz),Hi:=({X:=a.X1,Y:=a.Y1,Z:=b} : qz)} : api_Box)].map qa)) ee ?_
  obtain ⟨au,av,k⟩:=bindE k
  refine q5l (xs:=o.2) (ys:=[({Lo:=({X:=a.X0,Y:=a.Y0,Z:=h} : qz),Hi:=({X:=a.X1,Y:=a.Y1,Z:=b} : qz)} : api_Box)]) (enc:=qa) (.hs 4 6 0 [({Lo:=({X:=a.X0,Y:=a.Y0,Z:=h} : qz),Hi:=({X:=a.X1,Y:=a.Y1,Z:=b} : qz)} : api_Box)].length) av ee ee ee ee ee ee ee (q4a ee ee) ee ee ee ee<|v_ (.ref 0 4 0 0) ee<|v_ (.ref 0 4 0 0) ee<|q3r 0 (.cel 4 [[.hs 5 6 0 au.length,.d (.sl 4 (g.map q9)),di_ (c.length : Int),di_ b]]) ee<|q6<|qc<|qr<|q0<|v_ (.d (i_ (w64 (o.1 + 1)))) ee<|mv_ ee<|q6<|qc ?_
  exact ⟨_,(Option.some.inj k).symm,wkA [(2,5)] [] []⟩
 refine qm ?_
 refine ⟨_,(Option.some.inj k).symm,fun hm=>?_⟩
 subst hm
 obtain rfl:=someE f
 exact ⟨.inl ee,_,ee,wkA [(2,2)] [] []⟩
theorem q95 (c : List api_Box) (r : List api_Box × Int) (o : q4r c = some r) : Pure Tryz.prog tab 53 [.agg [.nilf],.sl 1 ([c].map qq)] (.tup [.sl 6 (r.1.map qa),i_ r.2]):=by
 unfold q4r at o
 refine ql Tryz.func53 ee (by kernel_rfl) (by kernel_rfl) ee<|q7<|q0<|q3s (.ref 0 1 0 0) (.dat 1 [[.nilf]]) ee<|q2d ee ee<|q2d ee ee<|q6<|q7<|q0<|q2d ee ee<|q6<|q7<|q7<|q0<|mv_ ee ?_
 obtain ⟨ar,m,o⟩:=bindE o
 refine qhn [.d (.sl 1 ([c].map qq))] (fun h=>h = ar) (fun (h : List Int)=>⟨[(2,.ref 0 1 0 0),(4,.ref 1 1 0 0),(5,.ref 2 1 0 0),(6,.ref 3 4 0 0),(14,.fn 112 [.ref 4 1 0 0,.ref 5 1 0 0])],[(0,.dat 1 [[.nilf]]),(1,.dat 1 [[.nilsl]]),(2,.dat 1 [[i_ 0]]),(3,.dat 4 [[.nilsl,.nilsl,i_ 0,i_ 0]]),(4,.cel 1 [[.d (.sl 1 (h.map (eI .i64)))]]),(5,.dat 1 [[.sl 1 ([c].map qq)]])],6⟩) ee ee Tryz.func82 ee (by kernel_rfl) (by kernel_rfl) ee ?_ ?_
 ·refine q7<|q0<|q3s (.ref 4 1 0 0) (.dat 1 [[.sl 1 ([c].map qq)]]) ee<|as_ ee<|q6<|q7<|q0<|q2d ee ee<|q6<|q7<|q7<|q0<|v_ (.d (.sl 1 ([c].map qq))) ee<|qnm 1 ee ee ee ee ee<|mv_ ee<|q6<|qh<|q6p<|q7<|q0<|v_ (db_ true) ee<|q6<|q7<|qah ee<|qd<|q7 ?_
  obtain ⟨as,ad,m⟩:=bindE m
  refine qk (fun n=>n = as) (fun (n : List Int)=>⟨[(1,.ref 4 1 0 0),(3,.ref 5 1 0 0),(8,.d (.sl 1 ([c].map qq))),(9,di_ 1),(10,di_ 0)],[(0,.dat 1 [[.nilf]]),(1,.dat 1 [[.nilsl]]),(2,.dat 1 [[i_ 0]]),(3,.dat 4 [[.nilsl,.nilsl,i_ 0,i_ 0]]),(4,.dat 1 [[.sl 1 ([c].map qq)]]),(5,.cel 1 [[.hs 6 1 0 n.length]]),(6,.dat 1 (n.map (eI .i64)))],7⟩) (by simp) ?_ ?_
  ·refine q7<|q0 ?_
   obtain ⟨ae,au,ad⟩:=bindE ad
   refine qv (enc:=qq) au ee ee ee ee ee ee<|v_ (.d (.sl 6 (ae.map qa))) ee<|as_ ee<|q6<|q7<|q0<|mv_ ee<|q15 ee ee ee ee<|mv_ ee<|q6 ?_
   obtain ⟨av,aw,ad⟩:=bindE ad
   refine qh<|qn (q3w ae) (fun (w : Int × List Int)=>⟨[(1,.ref 4 1 0 0),(3,.ref 5 1 0 0),(8,.d (.sl 1 ([c].map qq))),(9,di_ 1),(10,di_ 0),(14,.d (.sl 6 (ae.map qa))),(15,di_ (ae.length : Int)),(16,di_ w.1)],[(0,.dat 1 [[.nilf]]),(1,.dat 1 [[.nilsl]]),(2,.dat 1 [[i_ 0]]),(3,.dat 4 [[.nilsl,.nilsl,i_ 0,i_ 0]]),(4,.dat 1 [[.sl 1 ([c].map qq)]]),(5,.cel 1 [[.hs 6 1 0 w.2.length]]),(6,.dat 1 (w.2.map (eI .i64)))],7⟩) (0,[]) av aw (wkA [(4,4),(5,5)] [] [6]) ?_
   intro w bz q
   unfold q3w at q
   refine q7<|q0<|v_ (.d (.bool (decide (w.1 < (ae.length : Int))))) ee<|q6<|q7 ?_
   refine qb ee q (fun _ q=>?_) (fun _ q=>?_)
   ·refine qd<|q7<|qh<|q7<|q0 ?_
    obtain ⟨f,ax,q⟩:=bindE q
    refine qv (enc:=qa) ax ee ee ee ee ee ee<|v_ (.d (.agg [i_ f.Lo.X,i_ f.Lo.Y,i_ f.Lo.Z,i_ f.Hi.X,i_ f.Hi.Y,i_ f.Hi.Z])) ee<|q2d ee ee<|q3r 7 (.dat 6 [[i_ f.Lo.X,i_ f.Lo.Y,i_ f.Lo.Z,i_ f.Hi.X,i_ f.Hi.Y,i_ f.Hi.Z]]) ee<|q6<|q0<|v_ (.hs 6 1 0 w.2.length) ee<|v_ (.ref 7 6 0 0) ee<|v_ (.ref 7 6 0 2) ee<|v_ (di_ f.Lo.Z) ee<|v_ (.ref 7 6 0 3) ee<|v_ (.ref 7 6 0 5) ee<|v_ (di_ f.Hi.Z) ee<|q3s (.hs 8 1 0 [f.Lo.Z,f.Hi.Z].length) (.dat 1 ([f.Lo.Z,f.Hi.Z].map (eI .i64))) ee ?_
    obtain ⟨ay,az,q⟩:=bindE q
    refine q5l (xs:=w.2) (ys:=[f.Lo.Z,f.Hi.Z]) (enc:=(eI .i64)) (.hs 8 1 0 [f.Lo.Z,f.Hi.Z].length) az ee ee ee ee ee ee ee (q4a ee ee) ee ee ee ee<|q3r 5 (.cel 1 [[.hs 9 1 0 ay.length]]) ee<|q6<|qc<|qr<|q0<|v_ (.d (i_ (w64 (w.1 + 1)))) ee<|mv_ ee<|q6<|qc ?_
    exact ⟨_,(Option.some.inj q).symm,wkA [(4,4),(5,5),(6,9)] [] []⟩
   refine qm ?_
   refine ⟨_,(Option.some.inj q).symm,fun hm=>?_⟩
   subst hm
   obtain rfl:=someE ad
   exact ⟨_,ee,wkA [(4,4),(5,5),(6,6)] [] []⟩
  intro n hb
  subst hb
  refine q0<|v_ (di_ 1) ee<|mv_ ee<|q6<|q6p<|q7<|q0<|v_ (db_ false) ee<|q6<|q7<|q6v ee<|qm<|qbs<|q7<|q0<|v_ (.hs 6 1 0 n.length) ee ?_
  obtain ⟨aj,ba,m⟩:=bindE m
  obtain ⟨ca,bb,m⟩:=bindE m
  have bc:=q1a bb
  refine callG [(0,6)] [(0,1),(1,1),(2,1),(3,1),(4,1),(5,1),(6,0)] [.hs 6 1 0 n.length] (.d (.tup [])) 1 [(6,.dat 1 (aj.map (eI .i64))),(0,.dat 1 [[.nilf]]),(1,.dat 1 [[.nilsl]]),(2,.dat 1 [[i_ 0]]),(3,.dat 4 [[.nilsl,.nilsl,i_ 0,i_ 0]]),(4,.dat 1 [[.sl 1 ([c].map qq)]]),(5,.cel 1 [[.hs 6 1 0 n.length]])] 7 (q7p n aj ba)<|q6<|q7<|q0<|v_ (.hs 6 1 0 n.length) ee ?_
  obtain ⟨aa,bd,m⟩:=bindE m
  obtain ⟨cb,be,m⟩:=bindE m
  have cc:=q1a be
  obtain ⟨cd,bf,m⟩:=bindE m
  have bg:=qir bf
  refine q6w [(0,6)] [(0,1),(1,1),(2,1),(3,1),(4,1),(5,1),(6,0)] [.hs 6 1 0 n.length] (.hs 6 1 aa.1.1 aa.1.2) [(6,.dat 1 (aa.2.map (eI .i64)))] [(6,.dat 1 (aa.2.map (eI .i64))),(0,.dat 1 [[.nilf]]),(1,.dat 1 [[.nilsl]]),(2,.dat 1 [[i_ 0]]),(3,.dat 4 [[.nilsl,.nilsl,i_ 0,i_ 0]]),(4,.dat 1 [[.sl 1 ([c].map qq)]]),(5,.cel 1 [[.hs 6 1 0 n.length]])] 7 (q71 aj aa bd) ee ee ee (q5q [(0,6)] [] [] ee ⟨⟨_,ee,q10 (by simp [bc]) ee (by decide) (ltd ee)⟩,trivial⟩ ⟨⟨ltd ee,.inr ⟨by decide,_,ee,.dat _ _⟩⟩,trivial⟩) (q5q [(0,1),(1,1),(2,1),(3,1),(4,1),(5,1),(6,0)] [] [] ee ⟨⟨_,ee,.hs ee (by decide) (ltd ee)⟩,trivial⟩ ⟨⟨ltd ee,.inr ⟨by decide,_,ee,.dat _ _⟩⟩,trivial⟩) ee ⟨.inl ee,.inr ⟨ee,ee⟩,.inr ⟨ee,ee⟩,.inr ⟨ee,ee⟩,.inr ⟨ee,ee⟩,.inr ⟨ee,ee⟩,.inr ⟨ee,ee⟩,trivial⟩<|q3r 5 (.cel 1 [[.hs 6 1 aa.1.1 aa.1.2]]) ee<|q6<|q7<|q0<|v_ (.fn 112 [.ref 5 1 0 0,.ref 4 1 0 0]) ee<|as_ ee<|q6<|qj ?_
  refine ⟨.inr ee,_,ee,?_⟩
  obtain rfl:=someE m
  exact ⟨_,ee,wkE [(0,0),(1,1),(2,2),(3,3),(4,5),(5,4)] [6] [] ee ⟨⟨_,ee,.ref ee (by decide) (ltd ee)⟩,⟨_,ee,.ref ee (by decide) (ltd ee)⟩,⟨_,ee,.ref ee (by decide) (ltd ee)⟩,⟨_,ee,.ref ee (by decide) (ltd ee)⟩,⟨_,ee,(qdl (.cons (.ref ee (by decide) (ltd ee)) (.cons (.ref ee (by decide) (ltd ee)) .nil)))⟩,trivial⟩ ⟨⟨ltd ee,.inr ⟨by decide,_,ee,.dat _ _⟩⟩,⟨ltd ee,.inr ⟨by decide,_,ee,.dat _ _⟩⟩,⟨ltd ee,.inr ⟨by decide,_,ee,.dat _ _⟩⟩,⟨ltd ee,.inr ⟨by decide,_,ee,.dat _ _⟩⟩,⟨ltd ee,.inr ⟨by decide,_,ee,q7s (.cons (qp1 bg ee (by decide)) ee .nil)⟩⟩,⟨ltd ee,.inr ⟨by decide,_,ee,.dat _ _⟩⟩,trivial⟩⟩
 intro h hb
 subst hb
 refine q6<|qh ?_
 obtain ⟨bh,ai,o⟩:=bindE o
 refine qji (fun k=>.inl k = bh) (fun (k : List api_Rect × Int × Int × List api_Box)=>⟨[(4,.ref 0 1 0 0),(5,.ref 1 1 0 0),(6,.ref 2 4 0 0)],[(0,.dat 1 [[.nilsl]]),(1,.dat 1 [[i_ 0]]),(2,.cel 4 [[.hs 3 6 0 k.2.2.2.length,.d (.sl 4 (k.1.map q9)),di_ k.2.1,di_ k.2.2.1]]),(3,.dat 6 (k.2.2.2.map qa))],4⟩) ?_ ?_
 ·refine q7c (st':=⟨[(2,.ref 0 1 0 0),(4,.ref 1 1 0 0),(5,.ref 2 1 0 0),(6,.ref 3 4 0 0),(14,.fn 112 [.ref 4 1 0 0,.ref 5 1 0 0])],[(0,.dat 1 [[.nilf]]),(1,.dat 1 [[.nilsl]]),(2,.dat 1 [[i_ 0]]),(3,.dat 4 [[.nilsl,.nilsl,i_ 0,i_ 0]]),(4,.cel 1 [[.d (.sl 1 (h.map (eI .i64)))]]),(5,.dat 1 [[.sl 1 ([c].map qq)]])],6⟩) (wkA [(0,0),(1,1),(2,2),(3,3),(4,4),(5,5)] [] []) ?_ (by simp)
  refine qey [.ref 4 1 0 0,.ref 5 1 0 0] (.inl ee) Tryz.func112 ee (by kernel_rfl) (by kernel_rfl) ee ?_
  intro A879 B880 hA879 hB880
  refine q7<|q0<|as_ ee<|q6 ?_
  obtain ⟨bi,bj,ai⟩:=bindE ai
  refine qh<|qn (q3y h c) (fun (b : Int × List api_Rect × Int × Int × List api_Box)=>⟨[(0,.yld 6),(1,.ref 4 1 0 0),(2,.ref 5 1 0 0),(4,di_ b.1)],[(0,.dat 1 [[.nilf]]),(1,.dat 1 [[.nilsl]]),(2,.dat 1 [[i_ 0]]),(3,.cel 4 [[.hs 7 6 0 b.2.2.2.2.length,.d (.sl 4 (b.2.1.map q9)),di_ b.2.2.1,di_ b.2.2.2.1]]),(4,.cel 1 [[.d (.sl 1 (h.map (eI .i64)))]]),(5,.dat 1 [[.sl 1 ([c].map qq)]]),(6,.loop [(2,.ref 0 1 0 0),(4,.ref 1 1 0 0),(5,.ref 2 1 0 0),(6,.ref 3 4 0 0),(14,.fn 112 [.ref 4 1 0 0,.ref 5 1 0 0])] [15] A879 B880 .ready none),(7,.dat 6 (b.2.2.2.2.map qa))],8⟩) (1,[],0,0,[]) bi bj (wkA [] [] [7]) ?_
  intro b ce j
  unfold q3y at j
  refine q7<|q7<|q0<|mv_ ee<|v_ (.d (.sl 1 (h.map (eI .i64)))) ee<|q15 ee ee ee ee<|v_ (.d (.bool (decide (b.1 < (h.length : Int))))) ee<|q6 ?_
  refine qb ee j (fun _ j=>?_) (fun _ j=>?_)
  ·refine qd<|q7<|qh<|q7<|qg [(some [9],[9]),(some [],[9]),(some [],[]),(some [],[8]),(some [],[]),(some [5],[]),(some [],[]),(some [],[]),(some [],[]),(some [4],[]),(some [],[]),(some [],[]),(some [],[]),(some [],[]),(some [4],[])] (by kernel_rfl)<|v_ (.d (.sl 1 (h.map (eI .i64)))) ee<|mv_ ee<|v_ (.d (i_ (w64 (b.1 - 1)))) ee ?_
   obtain ⟨g,bk,j⟩:=bindE j
   refine qv (enc:=(eI .i64)) bk ee ee ee ee ee ee<|v_ (di_ g) ee<|v_ (.d (.sl 1 (h.map (eI .i64)))) ee<|mv_ ee ?_
   obtain ⟨l,bl,j⟩:=bindE j
   refine qv (enc:=(eI .i64)) bl ee ee ee ee ee ee<|v_ (di_ l) ee<|v_ (.d (.sl 1 ([c].map qq))) ee<|qnm 1 ee ee ee ee ee<|q3s (.hs 8 1 0 1) (.dat 1 [[.nilsl]]) ee<|v_ (.agg [di_ g,di_ l,.hs 8 1 0 1]) ee<|q2d ee ee<|q3r 9 (.cel 3 [[di_ g,di_ l,.hs 8 1 0 1]]) ee<|q6<|q7<|q7<|q0<|v_ (.d (.sl 1 ([c].map qq))) ee<|qnm 1 ee ee ee ee ee<|mv_ ee<|q6<|qh<|q6p<|q7<|q0<|v_ (db_ true) ee<|q6<|q7<|qah ee<|qd<|q7 ?_
   obtain ⟨bm,af,j⟩:=bindE j
   refine qk (fun s=>s = bm) (fun (s : List api_Rect)=>⟨[(0,.yld 6),(1,.ref 4 1 0 0),(2,.ref 5 1 0 0),(4,di_ b.1),(5,.ref 7 3 0 0),(29,.d (.sl 1 ([c].map qq))),(30,di_ 1),(31,di_ 0)],[(0,.dat 1 [[.nilf]]),(1,.dat 1 [[.nilsl]]),(2,.dat 1 [[i_ 0]]),(3,.cel 4 [[.hs 8 6 0 b.2.2.2.2.length,.d (.sl 4 (b.2.1.map q9)),di_ b.2.2.1,di_ b.2.2.2.1]]),(4,.cel 1 [[.d (.sl 1 (h.map (eI .i64)))]]),(5,.dat 1 [[.sl 1 ([c].map qq)]]),(6,.loop [(2,.ref 0 1 0 0),(4,.ref 1 1 0 0),(5,.ref 2 1 0 0),(6,.ref 3 4 0 0),(14,.fn 112 [.ref 4 1 0 0,.ref 5 1 0 0])] [15] A879 B880 .ready none),(7,.cel 3 [[di_ g,di_ l,.hs 9 1 0 1]]),(8,.dat 6 (b.2.2.2.2.map qa)),(9,.cel 1 [[.hs 10 4 0 s.length]]),(10,.dat 4 (s.map q9))],11⟩) (by simp) ?_ ?_
   ·refine q7<|q0<|mv_ ee ?_
    obtain ⟨ab,bn,af⟩:=bindE af
    refine qv (enc:=qq) bn ee ee ee ee ee ee<|v_ (.d (.sl 6 (ab.map qa))) ee<|as_ ee<|as_ ee<|q6<|q7<|q0<|mv_ ee<|q15 ee ee ee ee<|mv_ ee<|q6 ?_
    obtain ⟨bo,bp,af⟩:=bindE af
    refine qh<|qn (q3x ab g) (fun (t : Int × List api_Rect)=>⟨[(0,.yld 6),(1,.ref 4 1 0 0),(2,.ref 5 1 0 0),(4,di_ b.1),(5,.ref 7 3 0 0),(6,di_ 0),(29,.d (.sl 1 ([c].map qq))),(30,di_ 1),(31,di_ 0),(36,.d (.sl 6 (ab.map qa))),(37,di_ (ab.length : Int)),(38,di_ t.1)],[(0,.dat 1 [[.nilf]]),(1,.dat 1 [[.nilsl]]),(2,.dat 1 [[i_ 0]]),(3,.cel 4 [[.hs 8 6 0 b.2.2.2.2.length,.d (.sl 4 (b.2.1.map q9)),di_ b.2.2.1,di_ b.2.2.2.1]]),(4,.cel 1 [[.d (.sl 1 (h.map (eI .i64)))]]),(5,.dat 1 [[.sl 1 ([c].map qq)]]),(6,.loop [(2,.ref 0 1 0 0),(4,.ref 1 1 0 0),(5,.ref 2 1 0 0),(6,.ref 3 4 0 0),(14,.fn 112 [.ref 4 1 0 0,.ref 5 1 0 0])] [15] A879 B880 .ready none),(7,.cel 3 [[di_ g,di_ l,.hs 9 1 0 1]]),(8,.dat 6 (b.2.2.2.2.map qa)),(9,.cel 1 [[.hs 10 4 0 t.2.length]]),(10,.dat 4 (t.2.map q9))],11⟩) (0,[]) bo bp (wkA [(7,9),(8,7),(9,8)] [] [10]) ?_
    intro t cf x
    unfold q3x at x
    refine q7<|q0<|v_ (.d (.bool (decide (t.1 < (ab.length : Int))))) ee<|q6<|q7 ?_
    refine qb ee x (fun _ x=>?_) (fun _ x=>?_)
    ·refine qd<|q7 ?_
     obtain ⟨bq,p,x⟩:=bindE x
     refine qk (fun ag=>ag = bq) (fun (ag : List api_Rect)=>⟨[(0,.yld 6),(1,.ref 4 1 0 0),(2,.ref 5 1 0 0),(4,di_ b.1),(5,.ref 7 3 0 0),(6,di_ 0),(29,.d (.sl 1 ([c].map qq))),(30,di_ 1),(31,di_ 0),(36,.d (.sl 6 (ab.map qa))),(37,di_ (ab.length : Int)),(38,di_ t.1)],[(0,.dat 1 [[.nilf]]),(1,.dat 1 [[.nilsl]]),(2,.dat 1 [[i_ 0]]),(3,.cel 4 [[.hs 8 6 0 b.2.2.2.2.length,.d (.sl 4 (b.2.1.map q9)),di_ b.2.2.1,di_ b.2.2.2.1]]),(4,.cel 1 [[.d (.sl 1 (h.map (eI .i64)))]]),(5,.dat 1 [[.sl 1 ([c].map qq)]]),(6,.loop [(2,.ref 0 1 0 0),(4,.ref 1 1 0 0),(5,.ref 2 1 0 0),(6,.ref 3 4 0 0),(14,.fn 112 [.ref 4 1 0 0,.ref 5 1 0 0])] [15] A879 B880 .ready none),(7,.cel 3 [[di_ g,di_ l,.hs 9 1 0 1]]),(8,.dat 6 (b.2.2.2.2.map qa)),(9,.cel 1 [[.hs 10 4 0 ag.length]]),(10,.dat 4 (ag.map q9))],11⟩) (by simp) ?_ ?_
     ·refine q7<|q0 ?_
      obtain ⟨a,br,p⟩:=bindE p
      refine qv (enc:=qa) br ee ee ee ee ee ee<|v_ (.d (.agg [i_ a.Lo.X,i_ a.Lo.Y,i_ a.Lo.Z,i_ a.Hi.X,i_ a.Hi.Y,i_ a.Hi.Z])) ee<|q2d ee ee<|q3r 11 (.dat 6 [[i_ a.Lo.X,i_ a.Lo.Y,i_ a.Lo.Z,i_ a.Hi.X,i_ a.Hi.Y,i_ a.Hi.Z]]) ee<|q6<|q7<|q0<|v_ (.ref 11 6 0 0) ee<|v_ (.ref 11 6 0 2) ee<|v_ (di_ a.Lo.Z) ee<|v_ (.ref 7 3 0 0) ee<|v_ (di_ g) ee<|v_ (.d (.bool (decide (a.Lo.Z≤g)))) ee ?_
      obtain ⟨bs,ah,p⟩:=bindE p
      refine qo 8 (fun A st=>∃ (ak al am an ao ap aq : V),st = A [(55,db_ bs),(54,aq),(53,ap),(52,ao),(51,an),(50,am),(49,al),(48,ak)]) ?_ ?_
      ·refine qs ee ee ah (fun ah=>?_) (fun ah=>?_)
       ·refine v_ (.ref 7 3 0 0) ee<|v_ (di_ g) ee<|v_ (.ref 11 6 0 3) ee<|v_ (.ref 11 6 0 5) ee<|v_ (di_ a.Hi.Z) ee<|v_ (.d (.bool (decide (g < a.Hi.Z)))) ee<|v_ (.d (.bool (decide (g < a.Hi.Z)))) ee<|q6 ?_
        obtain rfl:=someE ah
        exact ⟨_,_,_,_,_,_,_,ee⟩
       refine q8 ee<|q8 ee<|q8 ee<|q8 ee<|q8 ee<|q8 ee<|v_ (db_ false) ee<|q6 ?_
       obtain rfl:=someE ah
       exact ⟨_,_,_,_,_,_,_,ee⟩
      rintro _ ⟨ak,al,am,an,ao,ap,aq,rfl⟩
      refine q6 ?_
      refine qb ee p (fun _ p=>?_) (fun _ p=>?_)
      ·refine qg [(some [9],[9]),(some [],[]),(some [10,12],[10,13]),(some [],[12]),(some [],[]),(some [11],[]),(some [],[]),(some [],[]),(some [11],[]),(some [],[]),(some [],[]),(some [11],[]),(some [],[]),(some [],[]),(some [11],[]),(some [],[]),(some [],[]),(some [9],[]),(some [],[]),(some [],[]),(some [7],[]),(some [],[]),(some [],[]),(some [7],[]),(some [],[])] (by kernel_rfl)<|v_ (.ref 7 3 0 2) ee<|v_ (.hs 9 1 0 1) ee<|mv_ ee<|v_ (.ref 7 3 0 2) ee<|v_ (.hs 9 1 0 1) ee<|mv_ ee<|v_ (.ref 9 1 0 0) ee<|v_ (.hs 10 4 0 t.2.length) ee<|v_ (.ref 11 6 0 0) ee<|v_ (.ref 11 6 0 0) ee<|v_ (di_ a.Lo.X) ee<|v_ (.ref 11 6 0 0) ee<|v_ (.ref 11 6 0 1) ee<|v_ (di_ a.Lo.Y) ee<|v_ (.ref 11 6 0 3) ee<|v_ (.ref 11 6 0 3) ee<|v_ (di_ a.Hi.X) ee<|v_ (.ref 11 6 0 3) ee<|v_ (.ref 11 6 0 4) ee<|v_ (di_ a.Hi.Y) ee<|v_ (.d (.agg [i_ a.Lo.X,i_ a.Lo.Y,i_ a.Hi.X,i_ a.Hi.Y])) ee<|q3s (.hs 12 4 0 [({X0:=a.Lo.X,Y0:=a.Lo.Y,X1:=a.Hi.X,Y1:=a.Hi.Y} : api_Rect)].length) (.dat 4 ([({X0:=a.Lo.X,Y0:=a.Lo.Y,X1:=a.Hi.X,Y1:=a.Hi.Y} : api_Rect)].map q9)) ee ?_
       obtain ⟨bt,bu,p⟩:=bindE p
       refine q5l (xs:=t.2) (ys:=[({X0:=a.Lo.X,Y0:=a.Lo.Y,X1:=a.Hi.X,Y1:=a.Hi.Y} : api_Rect)]) (enc:=q9) (.hs 12 4 0 [({X0:=a.Lo.X,Y0:=a.Lo.Y,X1:=a.Hi.X,Y1:=a.Hi.Y} : api_Rect)].length) bu ee ee ee ee ee ee ee (q4a ee ee) ee ee ee ee<|v_ (.ref 9 1 0 0) ee<|q3r 9 (.cel 1 [[.hs 13 4 0 bt.length]]) ee<|q6<|qc ?_
       obtain rfl:=someE p
       exact ⟨_,ee,wkA [(7,7),(8,8),(9,9),(10,13)] [] []⟩
      refine qd<|qc ?_
      obtain rfl:=someE p
      exact ⟨_,ee,wkA [(7,7),(8,8),(9,9),(10,10)] [] []⟩
     intro ag hb
     subst hb
     refine q0<|v_ (.d (i_ (w64 (t.1 + 1)))) ee<|mv_ ee<|q6<|qc ?_
     exact ⟨_,(Option.some.inj x).symm,wkA [(7,7),(8,8),(9,9),(10,10)] [] []⟩
    refine qm ?_
    refine ⟨_,(Option.some.inj x).symm,fun hm=>?_⟩
    subst hm
    obtain rfl:=someE af
    exact ⟨_,ee,wkA [(7,7),(8,8),(9,9),(10,10)] [] []⟩
   intro s hb
   subst hb
   refine q0<|v_ (di_ 1) ee<|mv_ ee<|q6<|q6p<|q7<|q0<|v_ (db_ false) ee<|q6<|q7<|q6v ee<|qm<|qbs<|q7 ?_
   refine q7c (st':=⟨[(0,.yld 6),(1,.ref 4 1 0 0),(2,.ref 5 1 0 0),(4,di_ b.1),(5,.ref 7 3 0 0)],[(0,.dat 1 [[.nilf]]),(1,.dat 1 [[.nilsl]]),(2,.dat 1 [[i_ 0]]),(3,.cel 4 [[.hs 8 6 0 b.2.2.2.2.length,.d (.sl 4 (b.2.1.map q9)),di_ b.2.2.1,di_ b.2.2.2.1]]),(4,.cel 1 [[.d (.sl 1 (h.map (eI .i64)))]]),(5,.dat 1 [[.sl 1 ([c].map qq)]]),(6,.loop [(2,.ref 0 1 0 0),(4,.ref 1 1 0 0),(5,.ref 2 1 0 0),(6,.ref 3 4 0 0),(14,.fn 112 [.ref 4 1 0 0,.ref 5 1 0 0])] [15] A879 B880 .ready none),(7,.cel 3 [[di_ g,di_ l,.hs 9 1 0 1]]),(8,.dat 6 (b.2.2.2.2.map qa)),(9,.cel 1 [[.d (.sl 4 (s.map q9))]])],10⟩) (wkA [(7,7),(8,8),(9,9)] [10] []) ?_ (by simp)
   refine q0<|mv_ ee<|v_ (.agg [di_ g,di_ l,.hs 9 1 0 1]) ee ?_
   obtain ⟨bv,u,j⟩:=bindE j
   refine qex (fun y=>.inl y = bv) (fun (y : List api_Rect × Int × Int × List api_Box)=>⟨[(0,.yld 6),(1,.ref 4 1 0 0),(2,.ref 5 1 0 0),(4,di_ b.1),(84,db_ true)],[(0,.dat 1 [[.nilf]]),(1,.dat 1 [[.nilsl]]),(2,.dat 1 [[i_ 0]]),(3,.cel 4 [[.hs 7 6 0 y.2.2.2.length,.d (.sl 4 (y.1.map q9)),di_ y.2.1,di_ y.2.2.1]]),(4,.cel 1 [[.d (.sl 1 (h.map (eI .i64)))]]),(5,.dat 1 [[.sl 1 ([c].map qq)]]),(6,.loop [(2,.ref 0 1 0 0),(4,.ref 1 1 0 0),(5,.ref 2 1 0 0),(6,.ref 3 4 0 0),(14,.fn 112 [.ref 4 1 0 0,.ref 5 1 0 0])] [15] A879 B880 .ready none),(7,.dat 6 (y.2.2.2.map qa))],8⟩) hA879 hB880 ee ee ee ee ee ee ?_ ?_
   ·refine q0<|q2d ee ee<|q3r 10 (.cel 3 [[di_ g,di_ l,.hs 9 1 0 1]]) ee<|q6<|qc ?_
    refine ⟨ee,_,ee,?_⟩
    refine qh<|q7<|q0<|v_ (.ref 10 3 0 2) ee<|v_ (.hs 9 1 0 1) ee<|v_ (.ref 9 1 0 0) ee<|v_ (.d (.sl 4 (s.map q9))) ee ?_
    obtain ⟨z,bw,u⟩:=bindE u
    refine qu [.d (.sl 4 (s.map q9))] (qjz s z bw) ee ee ee (.inl ee)<|mv_ ee<|v_ (.d (.sl 4 (z.1.map q9))) ee<|v_ (di_ z.2) ee<|as_ ee<|as_ ee<|q6<|q7<|q7<|q0<|v_ (.ref 10 3 0 2) ee<|v_ (.hs 9 1 0 1) ee<|v_ (.hs 9 1 1 0) ee<|v_ (di_ 0) ee<|mv_ ee<|q6<|qh<|q6p<|q7<|q0<|v_ (db_ false) ee<|q6<|q7<|q6v ee<|qm<|qbs<|q7<|q7<|q0<|mv_ ee<|v_ (db_ (z.2 != 0)) ee<|q6 ?_
    refine qb ee u (fun _ u=>?_) (fun _ u=>?_)
    ·refine q7<|q0<|mv_ ee<|q3r 1 (.dat 1 [[.nilsl]]) ee<|q3r 2 (.dat 1 [[i_ z.2]]) ee<|q6<|qj ?_
     obtain rfl:=someE u
     refine ⟨_,ee,?_⟩
     refine v_ (db_ true) ee<|q6<|qah ee<|qj ?_
     refine ⟨_,(Option.some.inj j).symm,fun hm=>?_⟩
     subst hm
     refine ⟨.inr ee,_,ee,_,_,.ret,ee,by decide,?_⟩
     refine qr2 ?_
     obtain rfl:=someE ai
     obtain rfl:=someE o
     exact finD (.inr ee) (v:=.d (.tup [.nilsl,i_ z.2])) ee ee (q6j (.cons (.nil _) (.cons (.refl _) .nil)))
    refine qd<|q0<|v_ (.ref 10 3 0 0) ee<|v_ (di_ g) ee<|v_ (.ref 10 3 0 1) ee<|v_ (di_ l) ee<|mv_ ee ?_
    obtain ⟨ac,bx,u⟩:=bindE u
    refine callG [(0,3),(1,8)] [(0,3),(1,3),(2,3),(3,0),(4,3),(5,3),(6,3),(7,3),(8,1),(9,3),(10,3),(11,2)] [.ref 3 4 0 0,di_ g,di_ l,.d (.sl 4 (z.1.map q9))] (.d (.tup [])) 2 [(3,.cel 4 [[.hs 11 6 0 ac.2.2.2.length,.d (.sl 4 (ac.1.map q9)),di_ ac.2.1,di_ ac.2.2.1]]),(11,.dat 6 (ac.2.2.2.map qa)),(0,.dat 1 [[.nilf]]),(1,.dat 1 [[.nilsl]]),(2,.dat 1 [[i_ 0]]),(4,.cel 1 [[.d (.sl 1 (h.map (eI .i64)))]]),(5,.dat 1 [[.sl 1 ([c].map qq)]]),(6,.loop [(2,.ref 0 1 0 0),(4,.ref 1 1 0 0),(5,.ref 2 1 0 0),(6,.ref 3 4 0 0),(14,.fn 112 [.ref 4 1 0 0,.ref 5 1 0 0])] [15] A879 B880 .busy none),(7,.cel 3 [[di_ g,di_ l,.hs 9 1 0 1]]),(9,.cel 1 [[.d (.sl 4 (s.map q9))]]),(10,.cel 3 [[di_ g,di_ l,.hs 9 1 0 1]])] 12 (qc3 b.2.2.2.2 b.2.1 b.2.2.1 b.2.2.2.1 g l z.1 ac bx)<|q6<|qc<|qr<|qc ?_
    refine ⟨_,ee,?_⟩
    obtain rfl:=someE u
    exact ⟨_,ee,wkA [(7,11)] [] []⟩
   intro y hb
   subst hb
   refine v_ (db_ false) ee<|q6<|q6v ee<|qd<|qc<|qr<|q0<|mv_ ee<|v_ (.d (i_ (w64 (b.1 + 1)))) ee<|as_ ee<|q6<|qc ?_
   exact ⟨_,(Option.some.inj j).symm,wkA [(7,7)] [] []⟩
  refine qm ?_
  refine ⟨_,(Option.some.inj j).symm,fun hm=>?_⟩
  subst hm
  refine ⟨.inl ee,_,ee,_,_,.nor,ee,by decide,?_⟩
  refine qez<|qc ?_
  obtain rfl:=someE ai
  exact ⟨_,ee,wkA [(0,1),(1,2),(2,3),(3,7)] [] []⟩
 intro k st hb hw
 subst hb
 refine q7c hw ?_ (by simp)
 refine q7<|q7<|q0<|v_ (.ref 2 4 0 0) ee<|v_ (.hs 3 6 0 k.2.2.2.length) ee<|v_ (di_ (k.2.2.2.length : Int)) ee<|v_ (.d (.bool (decide ((k.2.2.2.length : Int) > 400)))) ee<|q6 ?_
 refine qb ee o (fun _ o=>?_) (fun _ o=>?_)
 ·refine q7<|q0<|q3r 0 (.dat 1 [[.nilsl]]) ee<|q3r 1 (.dat 1 [[i_ 4]]) ee<|q6<|qj ?_
  obtain rfl:=someE o
  exact finD (.inr ee) (v:=.d (.tup [.nilsl,i_ 4])) ee ee (q6j (.cons (.nil _) (.cons (.refl _) .nil)))
 refine qd<|q7<|q0<|v_ (.ref 2 4 0 0) ee<|v_ (.hs 3 6 0 k.2.2.2.length) ee<|q3r 0 (.cel 1 [[.hs 3 6 0 k.2.2.2.length]]) ee<|q3r 1 (.dat 1 [[i_ 0]]) ee<|q6<|qj ?_
 obtain rfl:=someE o
 exact finD (.inr ee) (v:=.tup [.hs 3 6 0 k.2.2.2.length,di_ 0]) ee (qmg (qal (qa1 ee ee) (qal ee ee))) (.refl _)
theorem qlh (b : List api_Box) (r : List api_Box × Int) (a : qa5 b = some r) : Pure Tryz.prog tab 14 [.sl 6 (b.map qa)] (.tup [.sl 6 (r.1.map qa),i_ r.2]):=by
 unfold qa5 at a
 refine ql Tryz.func14 ee (by kernel_rfl) (by kernel_rfl) ee<|q7<|q0<|as_ ee<|as_ ee<|q6<|q7<|q7<|q0<|mv_ ee<|q15 ee ee ee ee<|v_ (.d (.bool (decide ((b.length : Int) > 400)))) ee<|q6 ?_
 refine qb ee a (fun _ a=>?_) (fun _ a=>?_)
 ·refine q7<|q0<|as_ ee<|as_ ee<|q6<|qj ?_
  obtain rfl:=someE a
  exact finD (.inr ee) (v:=.d (.tup [.nilsl,i_ 4])) ee ee (q6j (.cons (.nil _) (.cons (.refl _) .nil)))
 refine qd<|q7<|q7<|q0<|mv_ ee ?_
 obtain ⟨g,h,a⟩:=bindE a
 refine qu [.d (.sl 6 (b.map qa)),.d (.fn 51 [])] (q7z b (fun f=>q5o f) 51 [] (fun f r hr=>qj8 f r hr) g h) ee ee ee (.inl ee)<|q6 ?_
 refine qb ee a (fun _ a=>?_) (fun _ a=>?_)
 ·refine q7<|q0<|as_ ee<|as_ ee<|q6<|qj ?_
  obtain rfl:=someE a
  exact finD (.inr ee) (v:=.d (.tup [.nilsl,i_ 8])) ee ee (q6j (.cons (.nil _) (.cons (.refl _) .nil)))
 refine qd<|q7<|q0<|v_ (.d (.agg [.nilf])) ee<|mv_ ee<|qqy (es:=1) ([b].map qq) ee ee ee ee ee ?_
 obtain ⟨c,j,a⟩:=bindE a
 refine qu [.d (.agg [.nilf]),.d (.sl 1 ([b].map qq))] (q95 b c j) ee ee ee (.inl ee)<|v_ (.d (.sl 6 (c.1.map qa))) ee<|v_ (di_ c.2) ee<|as_ ee<|as_ ee<|q6<|qj ?_
 obtain rfl:=someE a
 exact finD (.inr ee) (v:=.d (.tup [.sl 6 (c.1.map qa),i_ c.2])) ee ee (.refl _)
theorem qkw (a : qz) (c : Int) (r : Bool) (b : qcz a c = some r) : Pure Tryz.prog tab 73 [.agg [i_ a.X,i_ a.Y,i_ a.Z],i_ c] (.bool r):=by
 unfold qcz at b
 refine ql Tryz.func73 ee (by kernel_rfl) (by kernel_rfl) ee<|q7<|q0<|q3s (.ref 0 3 0 0) (.dat 3 [[i_ a.X,i_ a.Y,i_ a.Z]]) ee<|as_ ee<|q6<|q7<|q0<|v_ (.ref 0 3 0 0) ee<|v_ (di_ a.X) ee<|mv_ ee<|v_ (.d (.bool (decide (a.X ≥ c)))) ee ?_
 obtain ⟨c1,f,b⟩:=bindE b
 refine qo 6 (fun A st=>∃ (l m n o p : V),st = A [(14,db_ c1),(13,p),(12,o),(11,n),(10,m),(9,l)]) ?_ ?_
 ·refine qs ee ee f (fun f=>?_) (fun f=>?_)
  ·refine v_ (.ref 0 3 0 1) ee<|v_ (di_ a.Y) ee<|mv_ ee<|v_ (.d (.bool (decide (a.Y ≥ c)))) ee<|v_ (.d (.bool (decide (a.Y ≥ c)))) ee<|q6 ?_
   obtain rfl:=someE f
   exact ⟨_,_,_,_,_,ee⟩
  refine q8 ee<|q8 ee<|q8 ee<|q8 ee<|v_ (db_ false) ee<|q6 ?_
  obtain rfl:=someE f
  exact ⟨_,_,_,_,_,ee⟩
 rintro _ ⟨l,m,n,o,p,rfl⟩
 obtain ⟨c8,g,b⟩:=bindE b
 refine qo 6 (fun A st=>∃ (q s t u w : V),st = A [(20,db_ c8),(19,w),(18,u),(17,t),(16,s),(15,q)]) ?_ ?_
 ·refine qs ee ee g (fun g=>?_) (fun g=>?_)
  ·refine v_ (.ref 0 3 0 2) ee<|v_ (di_ a.Z) ee<|mv_ ee<|v_ (.d (.bool (decide (a.Z ≥ c)))) ee<|v_ (.d (.bool (decide (a.Z ≥ c)))) ee<|q6 ?_
   obtain rfl:=someE g
   exact ⟨_,_,_,_,_,ee⟩
  refine q8 ee<|q8 ee<|q8 ee<|q8 ee<|v_ (db_ false) ee<|q6 ?_
  obtain rfl:=someE g
  exact ⟨_,_,_,_,_,ee⟩
 rintro _ ⟨q,s,t,u,w,rfl⟩
 obtain ⟨am,h,b⟩:=bindE b
 refine qo 5 (fun A st=>∃ (x y z aa : V),st = A [(25,db_ am),(24,aa),(23,z),(22,y),(21,x)]) ?_ ?_
 ·refine qs ee ee h (fun h=>?_) (fun h=>?_)
  ·refine v_ (.ref 0 3 0 0) ee<|v_ (di_ a.X) ee<|v_ (.d (.bool (decide (a.X≤1000000)))) ee<|v_ (.d (.bool (decide (a.X≤1000000)))) ee<|q6 ?_
   obtain rfl:=someE h
   exact ⟨_,_,_,_,ee⟩
  refine q8 ee<|q8 ee<|q8 ee<|v_ (db_ false) ee<|q6 ?_
  obtain rfl:=someE h
  exact ⟨_,_,_,_,ee⟩
 rintro _ ⟨x,y,z,aa,rfl⟩
 obtain ⟨an,j,b⟩:=bindE b
 refine qo 5 (fun A st=>∃ (ab ac ad ae : V),st = A [(30,db_ an),(29,ae),(28,ad),(27,ac),(26,ab)]) ?_ ?_
 ·refine qs ee ee j (fun j=>?_) (fun j=>?_)
  ·refine v_ (.ref 0 3 0 1) ee<|v_ (di_ a.Y) ee<|v_ (.d (.bool (decide (a.Y≤1000000)))) ee<|v_ (.d (.bool (decide (a.Y≤1000000)))) ee<|q6 ?_
   obtain rfl:=someE j
   exact ⟨_,_,_,_,ee⟩
  refine q8 ee<|q8 ee<|q8 ee<|v_ (db_ false) ee<|q6 ?_
  obtain rfl:=someE j
  exact ⟨_,_,_,_,ee⟩
 rintro _ ⟨ab,ac,ad,ae,rfl⟩
 obtain ⟨af,k,b⟩:=bindE b
 refine qo 5 (fun A st=>∃ (ag ah ai aj : V),st = A [(35,db_ af),(34,aj),(33,ai),(32,ah),(31,ag)]) ?_ ?_
 ·refine qs ee ee k (fun k=>?_) (fun k=>?_)
  ·refine v_ (.ref 0 3 0 2) ee<|v_ (di_ a.Z) ee<|v_ (.d (.bool (decide (a.Z≤1000000)))) ee<|v_ (.d (.bool (decide (a.Z≤1000000)))) ee<|q6 ?_
   obtain rfl:=someE k
   exact ⟨_,_,_,_,ee⟩
  refine q8 ee<|q8 ee<|q8 ee<|v_ (db_ false) ee<|q6 ?_
  obtain rfl:=someE k
  exact ⟨_,_,_,_,ee⟩
 rintro _ ⟨ag,ah,ai,aj,rfl⟩
 refine as_ ee<|q6<|qj ?_
 obtain rfl:=someE b
 exact finD (.inr ee) (v:=(db_ af)) ee ee (.refl _)
end Go.Proofs.YtjjmcdlnadkjbaaGreat
